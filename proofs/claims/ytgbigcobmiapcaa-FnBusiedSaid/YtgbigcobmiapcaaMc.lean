/- Proved: the law FnBusied answers true at all arguments, for every operating system that has started; no conditions beyond the row's own. -/
import Derived.Test.YtgbigcobmiapcaaMb
import Derived.Laws.Sem
set_option linter.unusedVariables false
set_option linter.unusedSimpArgs false
namespace Go.Pm
def tot (n:Nat) (F:Nat->List Nat) (b:Nat):Nat:=((List.range n).map fun i=>(F i).count b).sum
def cat (n:Nat) (F:Nat->List Nat):List Nat:=(List.range n).flatMap F
theorem zak (n:Nat) (F) (b):tot (n+1) F b=tot n F b+(F n).count b:=by
 simp [tot,List.range_succ,List.map_append,List.sum_append]
theorem zid (n:Nat) (F):cat (n+1) F=cat n F++F n:=by simp [cat,List.range_succ,List.flatMap_append]
theorem za2 (n:Nat) (F) (b):(cat n F).count b=tot n F b:=by
 induction n with
 | zero=>simp [cat,tot]
 | succ n ih=>rw [zid,zak,List.count_append,ih]
theorem zaa {n:Nat} {F G:Nat->List Nat} (b) (h:∀ i,i<n->(F i).count b=(G i).count b):tot n F b=tot n G b:=by
 induction n with
 | zero=>rfl
 | succ n ih=>rw [zak,zak,ih fun i hi=>h i (by omega),h n (by omega)]
def upd {α:Type} (F:Nat->α) (k:Nat) (x:α):Nat->α:=fun i=>if i=k then x else F i
@[simp] theorem zaj {α : Type} (F : Nat -> α) (k : Nat) (x : α) : upd F k x k = x := by simp [upd]
theorem zam {α:Type} (F:Nat->α) {k i:Nat} (x:α) (h:i≠k):upd F k x i=F i:=by simp [upd,h]
theorem zga {n k:Nat} (hk:k<n) (F:Nat->List Nat) (x:List Nat) (b):tot n (upd F k x) b+(F k).count b=tot n F b+x.count b:=by
 induction n with
 | zero=>omega
 | succ n ih=>
   rw [zak,zak]
   by_cases h:k=n
   ·subst h
    rw [zaa (n:=k) (F:=upd F k x) (G:=F) b fun i hi=>by rw [zam _ _ (by omega)]]
    simp;omega
   ·rw [zam _ _ (fun e=>h e.symm)]
    have:=ih (by omega);omega
theorem zat {n i:Nat} (hi:i<n) (F:Nat->List Nat) (b):(F i).count b<=tot n F b:=by
 induction n with
 | zero=>omega
 | succ n ih=>
   rw [zak]
   by_cases h:i=n
   ·subst h;omega
   ·have:=ih (by omega);omega
theorem zeu {n i j:Nat} (hi:i<n) (hj:j<n) (hij:i≠j) (F:Nat->List Nat) (b):(F i).count b+(F j).count b<=tot n F b:=by
 induction n with
 | zero=>omega
 | succ n ih=>
   rw [zak]
   by_cases h:i=n
   ·subst h;have:=zat (show j<i by omega) F b;omega
   ·by_cases h':j=n
    ·subst h';have:=zat (show i<j by omega) F b;omega
    ·have:=ih (by omega) (by omega);omega
theorem mem_cat {n:Nat} {F} {b}:b∈cat n F ↔ ∃ i,i<n/\b∈F i:=by simp [cat,List.mem_flatMap]
theorem zct {n m:Nat} (h:n<=m) (F:Nat->List Nat) (b):tot n F b<=tot m F b:=by
 induction m with
 | zero=>have:n=0:=by omega
         subst this;exact Nat.le_refl _
 | succ m ih=>
   by_cases e:n=m+1
   ·subst e;exact Nat.le_refl _
   ·have:=ih (by omega);rw [zak];omega
structure Grow (w w':World):Prop where
 size:w.heap.size<=w'.heap.size
 os:w'.os=w.os
 tape:w'.tape=w.tape
 output:w'.output=w.output
theorem Grow.refl (w:World):Grow w w:=⟨Nat.le_refl _,rfl,rfl,rfl⟩
theorem Grow.trans {w w1 w2:World} (h:Grow w w1) (k:Grow w1 w2):Grow w w2:=⟨Nat.le_trans h.size k.size,k.os.trans h.os,k.tape.trans h.tape,k.output.trans h.output⟩
def Rows (w:World) (b n:Nat):Prop:=∃ cs E lo hi,w.heap[b]? =some (.cells cs E (lo,hi))/\n<=cs.size/\∀ o,o<cs.size->¬(lo<=o/\o<hi)
def elt (xs:List V) (i j:Nat):V:=(xs.getD i .gone).cells.getD j .gone
inductive VR (w:World) (I:Nat->Prop):Value->V->List Nat->Prop where
 | int (k n):VR w I (.int k n) (.int k n) []
 | bool (b):VR w I (.bool b) (.bool b) []
 | str (s):VR w I (.string s) (.str s) []
 | pnil:VR w I (.pointer none) .pnil []
 | imm0 (e a cap):VR w I (.slice a 0 cap) (.imm e []) []
 | imm (a:Addr) (cap:Nat) (xs:List V) (e:Nat) (vs:Nat->Value) (hs:a.spot=none) (hI:I a.block) (he:0<e) (hl:xs.length<=cap) (hz:∀ x∈xs,x.cells.length=e)
  (hc:∀ q,q<xs.length * e->w.cell? ⟨a.block,a.off+q,none⟩=some (vs q))
  (hf:∀ x∈xs,x.okE=true)
  (hr:∀ i j,i<xs.length->j<e->VR w I (vs (i * e+j)) (elt xs i j) []):VR w I (.slice (some a) xs.length cap) (.imm e xs) []
 | own0 (e:Nat):VR w I (.slice none 0 0) (.own e []) []
 | own (a:Addr) (cap:Nat) (e:Nat) (xs:List V) (vs:Nat->Value) (Fs:Nat->List Nat) (hs:a.spot=none) (he:0<e) (hz:∀ x∈xs,x.cells.length=e)
  (hl:xs.length<=cap) (hb:Rows w a.block (a.off+cap * e))
  (hc:∀ q,q<xs.length * e->w.cell? ⟨a.block,a.off+q,none⟩=some (vs q))
  (hf:∀ x∈xs,x.okE=true)
  (hr:∀ i j,i<xs.length->j<e->VR w I (vs (i * e+j)) (elt xs i j) (Fs (i * e+j))):
  VR w I (.slice (some a) xs.length cap) (.own e xs) (a.block::cat (xs.length * e) Fs)
 | agg (cs:Array Value) (vs:List V) (Fs:Nat->List Nat) (hl:cs.size=vs.length)
  (hr:∀ i,i<vs.length->VR w I (cs.getD i undef) (vs.getD i .gone) (Fs i)):VR w I (.agg cs) (.agg vs) (cat vs.length Fs)
 | clo (f:FuncId) (caps:Array Value) (conts:List V) (hl:caps.size=conts.length) (bs:Nat->Nat)
  (hp:∀ i,i<conts.length->caps.getD i undef=.pointer (some ⟨bs i,0,none⟩)/\I (bs i))
  (vs:Nat->Nat->Value)
  (hc:∀ i j,i<conts.length->j<(conts.getD i .gone).cells.length->w.cell? ⟨bs i,j,none⟩=some (vs i j))
  (hr:∀ i j,i<conts.length->j<(conts.getD i .gone).cells.length->VR w I (vs i j) (elt conts i j) []):
  VR w I (.func (.func f) #[] caps) (.clo f conts) []
 | gone (v) (hv:v.oneCell'=true):VR w I v .gone []
theorem VR.keep {w w':World} {I I':Nat->Prop} (hI:∀ b,I b->I' b) (hw:∀ b,I b->w'.heap[b]? =w.heap[b]?):
 ∀ {v x F},VR w I v x F->(∀ b∈F,w'.heap[b]? =w.heap[b]?)->VR w' I' v x F:=by
 have cell:∀ (b o:Nat),w'.heap[b]? =w.heap[b]? ->w'.cell? ⟨b,o,none⟩=w.cell? ⟨b,o,none⟩:=fun b o h=>by simp [World.cell?,h]
 intro v x F h
 induction h with
 | int k n=>intro _;exact .int k n
 | bool b=>intro _;exact .bool b
 | str s=>intro _;exact .str s
 | pnil=>intro _;exact .pnil
 | imm0 e a cap=>intro _;exact .imm0 e a cap
 | imm a cap xs e vs hs hIa he hl hz hc hf hr ih=>
   intro _
   exact .imm a cap xs e vs hs (hI _ hIa) he hl hz (fun q hq=>by rw [cell _ _ (hw _ hIa)];exact hc q hq) hf (fun i j hi hj=>ih i j hi hj (by simp))
 | own0 e=>intro _;exact .own0 e
 | own a cap e xs vs Fs hs he hz hl hb hc hf hr ih=>
   intro hF
   have h0:w'.heap[a.block]? =w.heap[a.block]? :=hF _ (by simp)
   refine .own a cap e xs vs Fs hs he hz hl ?_ (fun q hq=>by rw [cell _ _ h0];exact hc q hq) hf (fun i j hi hj=>ih i j hi hj fun b hb=>hF b ?_)
   ·obtain ⟨cs,E,lo,hi,h1,h2⟩:=hb
    exact ⟨cs,E,lo,hi,h0.trans h1,h2⟩
   ·refine List.mem_cons_of_mem _ (mem_cat.2 ⟨i * e+j,?_,hb⟩)
    have:(i+1) * e<=xs.length * e:=Nat.mul_le_mul_right _ hi
    rw [Nat.add_mul] at this;omega
 | agg cs vs Fs hl hr ih=>
   intro hF
   exact .agg cs vs Fs hl fun i hi=>ih i hi fun b hb=>hF b (mem_cat.2 ⟨i,hi,hb⟩)
 | clo f caps conts hl bs hp vs hc hr ih=>
   intro _
   exact .clo f caps conts hl bs (fun i hi=>⟨(hp i hi).1,hI _ (hp i hi).2⟩) vs (fun i j hi hj=>by rw [cell _ _ (hw _ (hp i hi).2)];exact hc i j hi hj) (fun i j hi hj=>ih i j hi hj (by simp))
 | gone v hv=>intro _;exact .gone v hv
theorem zbx (xs:List V):V.eraseL xs=xs.map V.erase:=by
 induction xs with
 | nil=>rfl
 | cons x xs ih=>simp [V.eraseL,ih]
theorem zqg (x:V):x.erase.cells1=x.cells1.map V.erase:=by
 cases x <;> simp [V.erase,V.cells1,zbx]
theorem zjm (x:V):x.erase.cells=x.cells.map V.erase:=by
 cases x with
 | tup vs=>
   simp only [V.erase,V.cells,zbx]
   induction vs with
   | nil=>rfl
   | cons v vs ih=>simp only [List.map_cons,List.flatMap_cons,List.map_append,ih,zqg]
 | _=>simp [V.erase,V.cells,zbx]
theorem ybs {xs:List V} {i j:Nat} (hi:i<xs.length):elt (V.eraseL xs) i j=(elt xs i j).erase:=by
 unfold elt
 have h1:(V.eraseL xs).getD i .gone=(xs.getD i .gone).erase:=by
  rw [zbx];simp [List.getD,List.getElem?_map,List.getElem?_eq_getElem hi]
 rw [h1,zjm]
 simp only [List.getD,List.getElem?_map]
 cases (xs[i]?.getD V.gone).cells[j]? <;> rfl
theorem zvp (x:V):x.erase.leaf=x.leaf:=by cases x <;> rfl
theorem zx3 (x:V):x.erase.okE=x.okE:=by
 cases x with
 | agg cs=>simp only [V.erase,V.okE,zbx,List.all_map];congr 1;funext y;exact zvp y
 | _=>rfl
theorem zeb {xs:List V} {i j e:Nat} (hf:∀ x∈xs,x.okE=true) (hz:∀ x∈xs,x.cells.length=e) (hi:i<xs.length) (hj:j<e):(elt xs i j).leaf=true:=by
 unfold elt
 have hx:xs.getD i .gone=xs[i]:=by simp [List.getD,List.getElem?_eq_getElem hi]
 rw [hx]
 have h1:=hf _ (List.getElem_mem hi)
 have h2:=hz _ (List.getElem_mem hi)
 generalize xs[i]=y at *
 cases y with
 | agg cs=>
   simp only [V.okE,V.cells] at h1 h2 ⊢
   have hj':j<cs.length:=by omega
   rw [show cs.getD j .gone=cs[j] by simp [List.getD,List.getElem?_eq_getElem hj']]
   exact List.all_eq_true.1 h1 _ (List.getElem_mem hj')
 | tup vs=>cases h1
 | _=>
   simp only [V.cells,List.length_singleton] at h2
   have:j=0:=by omega
   subst this
   rfl
theorem ze6 {xs:List V} {e i:Nat} (hz:∀ x∈xs,x.cells.length=e) (hi:i<xs.length):(xs.getD i .gone).cells.length=e:=by
 have:xs.getD i .gone=xs[i]:=by simp [List.getD,List.getElem?_eq_getElem hi]
 rw [this];exact hz _ (List.getElem_mem hi)
theorem zca {i j n e:Nat} (hi:i<n) (hj:j<e):i * e+j<n * e:=by
 have h:(i+1) * e<=n * e:=Nat.mul_le_mul_right _ hi
 rw [Nat.add_mul] at h;omega
theorem Rows.cell {w:World} {b n:Nat} (h:Rows w b n) {o:Nat} (ho:o<n):∃ v,w.cell? ⟨b,o,none⟩=some v:=by
 obtain ⟨cs,E,lo,hi,h1,h2,_⟩:=h
 exact ⟨cs[o]'(by omega),by simp [World.cell?,h1,Array.getElem?_eq_getElem (show o<cs.size by omega)]⟩
theorem VR.erased {w:World} {I I':Nat->Prop} (hI:∀ b,I b->I' b):∀ {v x F},VR w I v x F->(∀ b∈F,I' b)->VR w I' v x.erase []:=by
 intro v x F h
 induction h with
 | int k n=>intro _;exact .int k n
 | bool b=>intro _;exact .bool b
 | str s=>intro _;exact .str s
 | pnil=>intro _;exact .pnil
 | imm0 e a cap=>intro _;exact .imm0 e a cap
 | imm a cap xs e vs hs hIa he hl hz hc hf hr ih=>
   intro _
   exact .imm a cap xs e vs hs (hI _ hIa) he hl hz hc hf fun i j hi hj=>(hr i j hi hj).keep hI (fun _ _=>rfl) (by simp)
 | own0 e=>intro _;simp only [V.erase,V.eraseL];exact .imm0 e none 0
 | own a cap e xs vs Fs hs he hz hl hb hc hf hr ih=>
   intro hF
   simp only [V.erase]
   have hlen:(V.eraseL xs).length=xs.length:=by rw [zbx];simp
   rw [<- hlen]
   refine .imm a cap _ e vs hs (hF _ (by simp)) he (by rw [hlen];exact hl) ?_ (by rw [hlen];exact hc) ?_ ?_
   ·intro x hx
    rw [zbx] at hx
    obtain ⟨y,hy,rfl⟩:=List.mem_map.1 hx
    rw [zjm,List.length_map];exact hz _ hy
   ·intro x hx
    rw [zbx] at hx
    obtain ⟨y,hy,rfl⟩:=List.mem_map.1 hx
    rw [zx3];exact hf _ hy
   ·intro i j hi hj
    rw [hlen] at hi
    rw [ybs hi]
    exact ih i j hi hj fun b hb=>hF b (List.mem_cons_of_mem _ (mem_cat.2 ⟨_,zca hi hj,hb⟩))
 | agg cs vs Fs hl hr ih=>
   intro hF
   simp only [V.erase]
   have hlen:(V.eraseL vs).length=vs.length:=by rw [zbx];simp
   have h0:∀ n,cat n (fun _=>([]:List Nat))=[]:=fun n=>by induction n with|zero=>rfl|succ n ih=>rw [zid,ih];rfl
   have:=VR.agg (w:=w) (I:=I') cs (V.eraseL vs) (fun _=>[]) (by rw [hlen];exact hl) fun i hi=>by
    rw [hlen] at hi
    have h1:(V.eraseL vs).getD i .gone=(vs.getD i .gone).erase:=by
     rw [zbx];simp [List.getD,List.getElem?_map,List.getElem?_eq_getElem hi]
    rw [h1]
    exact ih i hi fun b hb=>hF b (mem_cat.2 ⟨i,hi,hb⟩)
   rwa [h0] at this
 | clo f caps conts hl bs hp vs hc hr ih=>
   intro _
   exact (VR.clo f caps conts hl bs hp vs hc hr).keep hI (fun _ _=>rfl) (by simp)
 | gone v hv=>intro _;exact .gone v hv
theorem VR.lt {w:World} {I:Nat->Prop}:∀ {v x F},VR w I v x F->∀ b∈F,b<w.heap.size:=by
 intro v x F h
 induction h with
 | own a cap e xs vs Fs hs he hz hl hb hc hf hr ih=>
   intro b hb'
   rcases List.mem_cons.1 hb' with rfl|h
   ·obtain ⟨cs,E,lo,hi,h1,_⟩:=hb
    exact (Array.getElem?_eq_some_iff.1 h1).1
   ·obtain ⟨q,hq,hb''⟩:=mem_cat.1 h
    have h1:q / e<xs.length:=Nat.div_lt_of_lt_mul (by rw [Nat.mul_comm];exact hq)
    have h2:=Nat.mod_lt q he
    have h3:q / e * e+q % e=q:=by rw [Nat.mul_comm];exact Nat.div_add_mod q e
    have:=ih (q / e) (q % e) h1 h2
    rw [h3] at this
    exact this b hb''
 | agg cs vs Fs hl hr ih=>
   intro b hb'
   obtain ⟨q,hq,hb''⟩:=mem_cat.1 hb'
   exact ih q hq b hb''
 | _=>intro b hb;cases hb
end Go.Pm
namespace Go.Pm
def zdl:Value->List Value
 | .agg cs=>cs.toList
 | .tuple vs=>vs.toList.flatMap fun v=>v.cells.toList
 | v=>[v]
def zac (v:Value) (x:V) (j:Nat):Value:=
 match x with
 | .agg _=>(zdl v).getD j undef
 | .tup _=>(zdl v).getD j undef
 | _=>v
structure Cx where
 w:World
 I:Nat->Prop
 φ:Nat->Nat
 tm:Nat->Value
 st:St
def zad (w:World) (b o:Nat):Value:=(w.cell? ⟨b,o,none⟩).getD undef
def Cx.rv (x:Cx):Root->Nat->Value
 | .var i,c=>zac (x.tm i) (x.st.vars.getD i .gone) c
 | .box k,c=>zad x.w (x.φ k) c
def Cx.place (x:Cx) (r:Root):List zbv->Nat->Value
 | [],c=>x.rv r c
 | (i,e,c')::up,c=>
   match x.place r up c' with
   | .slice (some a) _ _=>zad x.w a.block (a.off+i * e+c)
   | _=>undef
def zsc (e:Nat) (h v:Value) (lo hi:Nat):Prop:=
 lo<=hi/\(lo=0->∀ a n cap,h=.slice a n cap->hi=n->v=h)/\∃ a n cap a2 cap2,h=.slice a n cap/\v=.slice a2 (hi - lo) cap2/\hi<=n/\
  ((a=none/\a2=none/\n=0/\cap2=0)\/
   ∃ ad o,a=some ad/\ad.spot=none/\a2=some ⟨ad.block,o,none⟩/\n<=cap/\(hi=lo\/o=ad.off+lo * e)/\o+cap2 * e<=ad.off+cap * e/\hi - lo<=cap2)
def Cx.LR1 (x:Cx) (v:Value):V->List Nat->Prop
 | .ref r c [],F=>F=[]/\∃ k cs,r=.box k/\x.st.boxes[k]? =some cs/\v=.pointer (some ⟨x.φ k,c,none⟩)
 | .ref r c ((i,e,c')::up),F=>F=[]/\(∃ cs,x.st.cont r ((i,e,c')::up)=some cs)/\
  ∃ a n cap,x.place r up c'=.slice (some a) n cap/\v=.pointer (some ⟨a.block,a.off+i * e+c,none⟩)
 | .hd e r c up lo hi,F=>F=[]/\∃ xs,x.st.get r c up=some (.own e xs)/\zsc e (x.place r up c) v lo hi
 | .eptr cs c,F=>F=[]/\∃ b o,v=.pointer (some ⟨b,o+c,none⟩)/\x.I b/\
  ∃ vs:Nat->Value,∀ j,j<cs.length->x.w.cell? ⟨b,o+j,none⟩=some (vs j)/\VR x.w x.I (vs j) (cs.getD j .gone) []/\(cs.getD j .gone).leaf=true
 | .fn f caps,F=>F=[]/\∃ cs,v=.func (.func f) #[] cs/\cs.size=caps.length/\
  ∀ i k,i<caps.length->caps.getD i .gone=.ref (.box k) 0 []->(∃ b,x.st.boxes[k]? =some b)/\cs.getD i undef=.pointer (some ⟨x.φ k,0,none⟩)
 | .int k n,F=>VR x.w x.I v (.int k n) F
 | .bool b,F=>VR x.w x.I v (.bool b) F
 | .str s,F=>VR x.w x.I v (.str s) F
 | .imm e xs,F=>VR x.w x.I v (.imm e xs) F
 | .own e xs,F=>VR x.w x.I v (.own e xs) F
 | .pnil,F=>VR x.w x.I v .pnil F
 | .clo f cs,F=>VR x.w x.I v (.clo f cs) F
 | .agg _,_=>False
 | .tup _,_=>False
 | .gone,F=>F=[]
def zcs (v:Value):V->Prop
 | .agg cs=>∃ a,v=.agg a/\a.size=cs.length
 | _=>v.cells= #[v]
def zbk (v:Value):V->Prop
 | .tup vs=>∃ a,v=.tuple a/\a.size=vs.length/\∀ j,j<vs.length->zcs (a.getD j undef) (vs.getD j .gone)
 | .gone=>True
 | x=>zcs v x
def V.mark:V->Bool
 | .ref _ _ _=>true
 | .hd _ _ _ _ _ _=>true
 | .eptr _ _=>true
 | .fn _ _=>true
 | _=>false
def zar (st:St) (φ:Nat->Nat) (FV FC:Nat->Nat->List Nat) (FX:List Nat) (b:Nat):Nat:=
 tot st.vars.length (fun i=>cat (st.vars.getD i .gone).cells.length (FV i)) b +
 tot st.boxes.length (fun k=>φ k::cat (st.boxes.getD k []).length (FC k)) b+FX.count b
structure Base where
 w:World
 O:Nat->Prop
 I:Nat->Prop
 nb:Nat
 φ:Nat->Nat
 nk:Nat
 kp:Nat->Option Value
structure SR (B:Base) (x:Cx) (FV FC:Nat->Nat->List Nat) (FX:List Nat):Prop where
 shape:∀ i,i<x.st.vars.length->zbk (x.tm i) (x.st.vars.getD i .gone)
 vars:∀ i,i<x.st.vars.length->∀ c,c<(x.st.vars.getD i .gone).cells.length->x.LR1 (x.rv (.var i) c) ((x.st.vars.getD i .gone).cells.getD c .gone) (FV i c)
 box:∀ k,k<x.st.boxes.length->Rows x.w (x.φ k) (x.st.boxes.getD k []).length
 boxes:∀ k,k<x.st.boxes.length->∀ c,c<(x.st.boxes.getD k []).length->x.LR1 (x.rv (.box k) c) ((x.st.boxes.getD k []).getD c .gone) (FC k c)
 bmark:∀ k,k<x.st.boxes.length->∀ c,c<(x.st.boxes.getD k []).length->((x.st.boxes.getD k []).getD c .gone).mark=true->∃ k' c',(x.st.boxes.getD k []).getD c .gone=.ref (.box k') c' []
 one:∀ b,zar x.st x.φ FV FC FX b<=1
 apart:∀ b,x.I b->zar x.st x.φ FV FC FX b=0
 ilt:∀ b,x.I b->b<x.w.heap.size
 keep:∀ b,b<B.w.heap.size->¬ B.O b->x.w.heap[b]? =B.w.heap[b]?
 gr:Grow B.w x.w
 held:∀ b,0<zar x.st x.φ FV FC FX b->B.O b\/B.w.heap.size<=b
 imm:∀ b,B.I b->x.I b
 new:∀ b,x.I b->B.I b\/B.O b\/B.w.heap.size<=b
theorem SR.size {B:Base} {x:Cx} {FV FC:Nat->Nat->List Nat} {FX:List Nat} (h:SR B x FV FC FX):B.w.heap.size<=x.w.heap.size:=h.gr.size
def RF (FV FC:Nat->Nat->List Nat):Root->Nat->List Nat
 | .var i=>FV i
 | .box k=>FC k
theorem za8 {x:Cx} {v y F} (h:VR x.w x.I v y F) (hl:y.leaf=true):x.LR1 v y F:=by
 cases h with
 | agg=>cases hl
 | gone=>exact rfl
 | int k n=>exact VR.int k n
 | bool b=>exact VR.bool b
 | str s=>exact VR.str s
 | pnil=>exact VR.pnil
 | imm0 e a cap=>exact VR.imm0 e a cap
 | imm a cap xs e vs hs hI he hlc hz hc hf hr=>exact VR.imm a cap xs e vs hs hI he hlc hz hc hf hr
 | own0 e=>exact VR.own0 e
 | own a cap e xs vs Fs hs he hz hl' hb hc hf hr=>exact VR.own a cap e xs vs Fs hs he hz hl' hb hc hf hr
 | clo f caps conts hl' bs hp vs hc hr=>exact VR.clo f caps conts hl' bs hp vs hc hr
theorem zbp {x:Cx} {v y F} (h:x.LR1 v y F):y.leaf=true:=by
 cases y <;> first|rfl|exact h.elim
theorem za6 {s:St} {r:Root} {cs:List V} (h:s.root r=some cs):
 (∃ i,r=.var i/\i<s.vars.length/\cs=(s.vars.getD i .gone).cells)\/(∃ k,r=.box k/\k<s.boxes.length/\cs=s.boxes.getD k []):=by
 cases r with
 | var i=>
   simp only [St.root,Option.map_eq_some_iff] at h
   obtain ⟨v,hv,rfl⟩:=h
   obtain ⟨hi,rfl⟩:=List.getElem?_eq_some_iff.1 hv
   exact .inl ⟨i,rfl,hi,by simp [List.getD,List.getElem?_eq_getElem hi]⟩
 | box k=>
   simp only [St.root] at h
   obtain ⟨hi,rfl⟩:=List.getElem?_eq_some_iff.1 h
   exact .inr ⟨k,rfl,hi,by simp [List.getD,List.getElem?_eq_getElem hi]⟩
theorem zaf {s:St} {r:Root} {i e c:Nat} {up:List zbv} {cs:List V} (h:s.cont r ((i,e,c)::up)=some cs):
 ∃ os xs,s.cont r up=some os/\c<os.length/\os.getD c .gone=.own e xs/\i<xs.length/\cs=(xs.getD i .gone).cells:=by
 simp only [St.cont] at h
 split at h
 ·rename_i os ho
  split at h
  ·rename_i e' xs hx
   split at h
   ·rename_i he
    subst he
    obtain ⟨hc,hx⟩:=List.getElem?_eq_some_iff.1 hx
    simp only [Option.map_eq_some_iff] at h
    obtain ⟨y,hy,rfl⟩:=h
    obtain ⟨hi,rfl⟩:=List.getElem?_eq_some_iff.1 hy
    exact ⟨os,xs,ho,hc,by simp [List.getD,List.getElem?_eq_getElem hc,hx],hi,by simp [List.getD,List.getElem?_eq_getElem hi]⟩
   ·cases h
  ·cases h
 ·cases h
variable {B:Base} {x:Cx} {FV FC:Nat->Nat->List Nat} {FX:List Nat}
theorem SR.at (h:SR B x FV FC FX) (r:Root):∀ (up:List zbv) (cs:List V),x.st.cont r up=some cs->∀ c,c<cs.length->
 ∃ F,x.LR1 (x.place r up c) (cs.getD c .gone) F/\(∀ b,F.count b<=(RF FV FC r (rootCell c up)).count b)/\∃ rs,x.st.root r=some rs/\rootCell c up<rs.length
 | [],cs,hc,c,hlt=>by
   simp only [St.cont] at hc
   rcases za6 hc with ⟨i,rfl,hi,rfl⟩|⟨k,rfl,hk,rfl⟩
   ·exact ⟨FV i c,h.vars i hi c hlt,fun _=>Nat.le_refl _,_,hc,hlt⟩
   ·exact ⟨FC k c,h.boxes k hk c hlt,fun _=>Nat.le_refl _,_,hc,hlt⟩
 | (i,e,c')::up,cs,hc,c,hlt=>by
   obtain ⟨os,xs,ho,hc',hown,hi,rfl⟩:=zaf hc
   obtain ⟨F,hL,hF,rs,hrs,hrc⟩:=SR.at h r up os ho c' hc'
   rw [hown] at hL
   have hV:VR x.w x.I (x.place r up c') (.own e xs) F:=hL
   generalize hp:x.place r up c'=pv at hV
   cases hV with
   | own0=>cases hi
   | own a cap _ _ vs Fs hs he hz hl hb hcs hf hr=>
     have hlen:=ze6 hz hi
     rw [hlen] at hlt
     refine ⟨Fs (i * e+c),?_,?_,rs,hrs,hrc⟩
     ·have h1:x.place r ((i,e,c')::up) c=vs (i * e+c):=by
       simp only [Cx.place,hp,zad,Nat.add_assoc]
       rw [hcs _ (zca hi hlt)];rfl
      rw [h1]
      exact za8 (hr i c hi hlt) (zeb hf hz hi hlt)
     ·intro b
      refine Nat.le_trans ?_ (hF b)
      rw [List.count_cons,za2]
      have:=zat (zca hi hlt) Fs b
      omega
end Go.Pm
namespace Go.Pm
theorem za3 {α:Type} {l:List α} {i:Nat} (h:i<l.length) (d:α):l.getD i d=l[i]:=by simp [List.getD,List.getElem?_eq_getElem h]
theorem zal {α:Type} {l:List α} {i j:Nat} (y d:α) (hj:j<l.length):(l.set i y).getD j d=if j=i then y else l.getD j d:=by
 simp only [List.getD,List.getElem?_set]
 by_cases h:j=i
 ·subst h;simp [hj]
 ·have:¬ i=j:=fun e=>h e.symm
  simp [h,this]
def SimC:Nat->V->V->Prop
 | 0,_,_=>True
 | m+1,a,b=>∀ e xs,a=.own e xs->∃ xs',b=.own e xs'/\xs'.length=xs.length/\∀ i,i<xs.length->
    (xs'.getD i .gone).cells.length=(xs.getD i .gone).cells.length/\∀ c,SimC m ((xs.getD i .gone).cells.getD c .gone) ((xs'.getD i .gone).cells.getD c .gone)
theorem SimC.refl:∀ (m:Nat) (a:V),SimC m a a
 | 0,_=>trivial
 | m+1,_=>fun _ xs h=>⟨xs,h,rfl,fun _ _=>⟨rfl,fun _=>SimC.refl m _⟩⟩
theorem zai {α:Type} {l:List α} {i:Nat} {d:α} (h:¬ i<l.length):l.getD i d=d:=by
 simp only [List.getD,List.getElem?_eq_none (Nat.le_of_not_lt h),Option.getD_none]
theorem SimC.mono:∀ {m n:Nat} {a b:V},m<=n->SimC n a b->SimC m a b
 | 0,_,_,_,_,_=>trivial
 | m+1,0,_,_,h,_=>by omega
 | m+1,n+1,a,b,h,hs=>fun e xs ha=>by
   obtain ⟨xs',h1,h2,h3⟩:=hs e xs ha
   exact ⟨xs',h1,h2,fun i hi=>⟨(h3 i hi).1,fun c=>SimC.mono (Nat.le_of_succ_le_succ h) ((h3 i hi).2 c)⟩⟩
theorem zim {z y:V} {c:Nat} (hz:z.okE=true) (hc:c<z.cells.length) (hl:y.leaf=true):
 (z.like (z.cells.set c y)).cells=z.cells.set c y/\(z.like (z.cells.set c y)).okE=true:=by
 cases z with
 | agg cs=>
   refine ⟨rfl,?_⟩
   simp only [V.like,V.like1,V.cells,V.okE] at hz ⊢
   rw [List.all_eq_true] at hz ⊢
   intro u hu
   rcases List.mem_or_eq_of_mem_set hu with h|h
   ·exact hz _ h
   ·subst h;exact hl
 | tup vs=>cases hz
 | _=>
   simp only [V.cells,List.length_singleton] at hc
   have:c=0:=by omega
   subst this
   simp only [V.cells,V.like,V.like1,List.set,List.headD]
   cases y <;> first|exact ⟨rfl,rfl⟩|cases hl
theorem VR.set {w:World} {I:Nat->Prop} {h:Value} {e:Nat} {xs:List V} {F:List Nat} (hv:VR w I h (.own e xs) F)
 {i c:Nat} (hi:i<xs.length) (hc:c<(xs.getD i .gone).cells.length) (hone:∀ b,F.count b<=1):
 ∃ a n cap Fo,h=.slice (some a) n cap/\c<e/\(elt xs i c).leaf=true/\VR w I (zad w a.block (a.off+(i * e+c))) (elt xs i c) Fo/\
   (∀ b,Fo.count b+(if b=a.block then 1 else 0)<=F.count b)/\
   Rows w a.block (a.off+cap * e)/\i<n/\n<=cap/\
   ∀ (w':World) (I':Nat->Prop) (nv:Value) (y:V) (G:List Nat),y.leaf=true->(∀ b,I b->I' b)->(∀ b,I b->w'.heap[b]? =w.heap[b]?)->
     VR w' I' nv y G->(∀ b∈F,b ∉ Fo->b≠a.block->w'.heap[b]? =w.heap[b]?)->Rows w' a.block (a.off+cap * e)->
     w'.cell? ⟨a.block,a.off+(i * e+c),none⟩=some nv->
     (∀ o,o≠a.off+(i * e+c)->w'.cell? ⟨a.block,o,none⟩=w.cell? ⟨a.block,o,none⟩)->
     ∃ F',VR w' I' h (.own e (xs.set i ((xs.getD i .gone).like ((xs.getD i .gone).cells.set c y)))) F'/\∀ b,F'.count b+Fo.count b=F.count b+G.count b:=by
 cases hv with
 | own0=>cases hi
 | own a cap _ _ vs Fs hs he hz hl' hb hcs hf hr=>
   have hlen:=ze6 hz hi
   have hce:c<e:=by rw [hlen] at hc;exact hc
   have hq:i * e+c<xs.length * e:=zca hi hce
   have hcell:zad w a.block (a.off+(i * e+c))=vs (i * e+c):=by simp only [zad];rw [hcs _ hq];rfl
   have hsub:∀ q,q<xs.length * e->∀ b∈Fs q,b≠a.block:=by
    intro q hq b hb' hba
    have h1:=hone b
    rw [List.count_cons,za2] at h1
    have h2:=zat hq Fs b
    have h3:0<(Fs q).count b:=List.count_pos_iff.2 hb'
    rw [if_pos (by simp [hba])] at h1
    omega
   refine ⟨a,_,cap,Fs (i * e+c),rfl,hce,zeb hf hz hi hce,by rw [hcell];exact hr i c hi hce,?_,hb,hi,hl',?_⟩
   ·intro b
    rw [List.count_cons,za2]
    have:=zat hq Fs b
    by_cases hba:b=a.block
    ·subst hba;simp;omega
    ·have:(a.block == b)=false:=by simp;exact fun e=>hba e.symm
     simp [hba,this];omega
   ·intro w' I' nv y G hl hI hw hy hsame hb' hnew hold
    refine ⟨a.block::cat (xs.length * e) (upd Fs (i * e+c) G),?_,?_⟩
    ·have hlen':(xs.set i ((xs.getD i .gone).like ((xs.getD i .gone).cells.set c y))).length=xs.length:=by simp
     have hx:xs.getD i .gone=xs[i]:=by simp [List.getD,List.getElem?_eq_getElem hi]
     obtain ⟨hlike,hok⟩:=zim (hf _ (by rw [hx];exact List.getElem_mem hi)) hc hl
     have hget:∀ k,k<xs.length->(xs.set i ((xs.getD i .gone).like ((xs.getD i .gone).cells.set c y))).getD k .gone=
      if k=i then(xs.getD i .gone).like ((xs.getD i .gone).cells.set c y) else xs.getD k .gone:=by
      intro k hk
      simp only [List.getD,List.getElem?_set]
      by_cases hki:k=i
      ·subst hki;simp [hi]
      ·have:¬ i=k:=fun e=>hki e.symm
       simp [hki,this]
     have helt:∀ k j,k<xs.length->j<e->elt (xs.set i ((xs.getD i .gone).like ((xs.getD i .gone).cells.set c y))) k j=if k=i/\j=c then y else elt xs k j:=by
      intro k j hk hj
      unfold elt
      rw [hget k hk]
      by_cases hki:k=i
      ·subst hki
       rw [if_pos rfl,hlike]
       simp only [List.getD,List.getElem?_set]
       by_cases hjc:j=c
       ·subst hjc;simp [show j<(xs[k]?.getD V.gone).cells.length from by simpa [List.getD] using hc]
       ·have:¬ c=j:=fun e=>hjc e.symm
        simp [hjc,this]
      ·simp [hki]
     have hF:∀ q,q<xs.length * e->q≠i * e+c->∀ b∈Fs q,w'.heap[b]? =w.heap[b]? :=by
      intro q hq' hne b hb'
      have h3:0<(Fs q).count b:=List.count_pos_iff.2 hb'
      refine hsame b (List.mem_cons_of_mem _ (mem_cat.2 ⟨q,hq',hb'⟩)) ?_ (hsub q hq' b hb')
      intro hb2
      have h4:0<(Fs (i * e+c)).count b:=List.count_pos_iff.2 hb2
      have h1:=hone b
      rw [List.count_cons,za2] at h1
      have h2:=zeu hq' hq hne Fs b
      omega
     have hqe:∀ k j,j<e->(k * e+j=i * e+c↔k=i/\j=c):=by
      intro k j hj
      constructor
      ·intro h
       have h1:(k * e+j) / e=k:=by rw [Nat.add_comm,Nat.mul_comm,Nat.add_mul_div_left _ _ he,Nat.div_eq_of_lt hj];omega
       have h2:(i * e+c) / e=i:=by rw [Nat.add_comm,Nat.mul_comm,Nat.add_mul_div_left _ _ he,Nat.div_eq_of_lt hce];omega
       have:k=i:=by rw [<- h1,<- h2,h]
       subst this
       exact ⟨rfl,by omega⟩
      ·rintro ⟨rfl,rfl⟩;rfl
     have:=VR.own (w:=w') (I:=I') a cap e (xs.set i ((xs.getD i .gone).like ((xs.getD i .gone).cells.set c y)))
      (upd vs (i * e+c) nv) (upd Fs (i * e+c) G) hs he ?_ (by rw [hlen'];exact hl') hb' ?_ ?_ ?_
     ·rw [hlen'] at this;exact this
     ·intro z hz'
      rcases List.mem_or_eq_of_mem_set hz' with h|h
      ·exact hz _ h
      ·subst h;rw [hlike,List.length_set];exact hlen
     ·intro q hq'
      rw [hlen'] at hq'
      by_cases hqq:q=i * e+c
      ·subst hqq;rw [zaj];exact hnew
      ·rw [zam _ _ hqq,hold _ (by omega)];exact hcs q hq'
     ·intro z hz'
      rcases List.mem_or_eq_of_mem_set hz' with h|h
      ·exact hf _ h
      ·subst h;exact hok
     ·intro k j hk hj
      rw [hlen'] at hk
      rw [helt k j hk hj]
      by_cases hkj:k=i/\j=c
      ·rw [if_pos hkj,(hqe k j hj).2 hkj,zaj,zaj];exact hy
      ·have hne:k * e+j≠i * e+c:=fun e=>hkj ((hqe k j hj).1 e)
       rw [if_neg hkj,zam _ _ hne,zam _ _ hne]
       exact (hr k j hk hj).keep hI hw (hF _ (zca hk hj) hne)
    ·intro b
     rw [List.count_cons,List.count_cons,za2,za2]
     have:=zga hq Fs G b
     omega
variable {B:Base} {x:Cx} {FV FC:Nat->Nat->List Nat} {FX:List Nat}
theorem zek (r:Root) (rs:List V) (hr:x.st.root r=some rs) (c:Nat) (hc:c<rs.length) (b:Nat):(RF FV FC r c).count b+FX.count b<=zar x.st x.φ FV FC FX b:=by
 rcases za6 hr with ⟨i,rfl,hi,rfl⟩|⟨k,rfl,hk,rfl⟩
 ·have h1:=zat hi (fun i=>cat (x.st.vars.getD i .gone).cells.length (FV i)) b
  simp only [za2] at h1
  have h2:=zat hc (FV i) b
  simp only [RF,zar];omega
 ·have h1:=zat hk (fun k=>x.φ k::cat (x.st.boxes.getD k []).length (FC k)) b
  simp only [List.count_cons,za2] at h1
  have h2:=zat hc (FC k) b
  simp only [RF,zar];omega
theorem zuc {s:St} {r:Root} {i e c c':Nat} {up:List zbv} {y:V} {s':St} {os xs:List V} (ho:s.cont r up=some os) (hc':c'<os.length)
 (hown:os.getD c' .gone=.own e xs) (hi:i<xs.length) (h:s.put r c ((i,e,c')::up) y=some s'):
 c<(xs.getD i .gone).cells.length/\s.put r c' up (.own e (xs.set i ((xs.getD i .gone).like ((xs.getD i .gone).cells.set c y))))=some s':=by
 have h1:os[c']? =some (.own e xs):=by
  rw [List.getElem?_eq_getElem hc'];rw [<- hown];simp [List.getD,List.getElem?_eq_getElem hc']
 have h2:xs[i]? =some (xs.getD i .gone):=by simp [List.getD,List.getElem?_eq_getElem hi]
 simp only [St.put,St.cont,ho,h1,h2,if_true,Option.map_some] at h ⊢
 split at h
 ·rename_i hlt
  refine ⟨hlt,?_⟩
  rw [if_pos hc']
  simpa only [St.setCont,ho,h1,h2] using h
 ·cases h
theorem SR.inner (h:SR B x FV FC FX) (r:Root):∀ (up:List zbv) (cs:List V),x.st.cont r up=some cs->∀ c,c<cs.length->
 ∃ F,x.LR1 (x.place r up c) (cs.getD c .gone) F/\(∀ b,F.count b<=(RF FV FC r (rootCell c up)).count b)/\
   ∀ (w':World) (I':Nat->Prop) (y:V) (G:List Nat) (st':St),x.st.put r c up y=some st'->y.leaf=true->VR w' I' (x.place r up c) y G->
     (∀ b,b<x.w.heap.size->b ∉ F->w'.heap[b]? =x.w.heap[b]?)->(∀ b,x.I b->I' b)->
     ∃ rs y0 G0,x.st.root r=some rs/\rootCell c up<rs.length/\st'=x.st.setRoot r (rs.set (rootCell c up) y0)/\y0.leaf=true/\VR w' I' (x.rv r (rootCell c up)) y0 G0/\
       (∀ b,G0.count b+F.count b=(RF FV FC r (rootCell c up)).count b+G.count b)/\
       (∀ m,SimC m (cs.getD c .gone) y->SimC (up.length+m) (rs.getD (rootCell c up) .gone) y0)/\
       ((∀ m,SimC m y (cs.getD c .gone))->∀ m,SimC m y0 (rs.getD (rootCell c up) .gone))
 | [],cs,hc,c,hlt=>by
   simp only [St.cont] at hc
   have hL:x.LR1 (x.place r [] c) (cs.getD c .gone) (RF FV FC r c):=by
    rcases za6 hc with ⟨i,rfl,hi,rfl⟩|⟨k,rfl,hk,rfl⟩
    ·exact h.vars i hi c hlt
    ·exact h.boxes k hk c hlt
   refine ⟨_,hL,fun _=>Nat.le_refl _,?_⟩
   intro w' I' y G st' hp hy hv _ _
   simp only [St.put,St.cont,hc,if_pos hlt,St.setCont,Option.some.injEq] at hp
   exact ⟨cs,y,G,hc,hlt,hp.symm,hy,hv,fun b=>by simp only [rootCell];omega,fun m hs=>by simpa [rootCell] using hs,fun hs=>by simpa [rootCell] using hs⟩
 | (i,e,c')::up,cs,hc,c,hlt=>by
   obtain ⟨os,xs,ho,hc',hown,hi,rfl⟩:=zaf hc
   obtain ⟨F,hL,hF,hput⟩:=SR.inner h r up os ho c' hc'
   obtain ⟨_,_,_,rs,hrs,hrc⟩:=SR.at h r up os ho c' hc'
   rw [hown] at hL
   have hV:VR x.w x.I (x.place r up c') (.own e xs) F:=hL
   have hFone:∀ b,F.count b<=1:=fun b=>by
    have h1:=hF b
    have h2:=zek (FX:=FX) (FV:=FV) (FC:=FC) r rs hrs _ hrc b
    have h3:=h.one b
    omega
   obtain ⟨a,n,cap,Fo,hpl,hce,hleaf,hold,hcnt,hrows,hin,hnc,hset⟩:=VR.set hV hi hlt hFone
   have hplace:x.place r ((i,e,c')::up) c=zad x.w a.block (a.off+(i * e+c)):=by
    simp only [Cx.place,hpl,Nat.add_assoc]
   have hcnt':∀ b,Fo.count b<=F.count b:=fun b=>by have:=hcnt b;omega
   refine ⟨Fo,?_,fun b=>Nat.le_trans (hcnt' b) (hF b),?_⟩
   ·rw [hplace];exact za8 hold hleaf
   ·intro w' I' y G st' hp hy hv hsame hI
    obtain ⟨_,hp'⟩:=zuc ho hc' hown hi hp
    have hab:a.block ∉ Fo:=fun hb=>by
     have h1:=hcnt a.block;have h2:=hFone a.block;have h3:0<Fo.count a.block:=List.count_pos_iff.2 hb
     simp at h1;omega
    have hIw:∀ b,x.I b->w'.heap[b]? =x.w.heap[b]? :=by
     intro b hb
     refine hsame b (h.ilt b hb) fun hbF=> ?_
     have h1:=h.apart b hb
     have h2:=zek (FX:=FX) (FV:=FV) (FC:=FC) r rs hrs _ hrc b
     have h3:=hF b
     have h4:=hcnt' b
     have h5:0<Fo.count b:=List.count_pos_iff.2 hbF
     omega
    have hblk:w'.heap[a.block]? =x.w.heap[a.block]? :=by
     obtain ⟨cs,E,lo,hi',h1,_⟩:=hrows
     exact hsame _ (Array.getElem?_eq_some_iff.1 h1).1 hab
    have hcell:∀ o,w'.cell? ⟨a.block,o,none⟩=x.w.cell? ⟨a.block,o,none⟩:=fun o=>by simp [World.cell?,hblk]
    obtain ⟨F',hV',hF'⟩:=hset w' I' (x.place r ((i,e,c')::up) c) y G hy hI hIw hv
     (fun b hb hbF _=>hsame b (hV.lt b hb) hbF)
     (by obtain ⟨cs,E,lo,hi',h1,h2⟩:=hrows;exact ⟨cs,E,lo,hi',hblk.trans h1,h2⟩)
     (by
      rw [hcell,hplace]
      have hq:i * e+c<cap * e:=Nat.lt_of_lt_of_le (zca (Nat.lt_of_lt_of_le hin hnc) hce) (Nat.le_refl _)
      obtain ⟨u,hu⟩:=hrows.cell (o:=a.off+(i * e+c)) (by omega)
      simp only [zad,hu];rfl)
     (fun o _=>hcell o)
    obtain ⟨rs',y0,G0,h1,h2,h3,h4,h5,h6,h7,h8⟩:=hput w' I' _ F' st' hp' rfl hV'
     (fun b hb hbF=>hsame b hb fun hbo=>hbF (List.count_pos_iff.1 (by have:=hcnt' b;have:0<Fo.count b:=List.count_pos_iff.2 hbo;omega)))
     hI
    have hok:(xs.getD i .gone).okE=true:=by
     generalize x.place r up c'=pv at hV
     cases hV with
     | own0=>cases hi
     | own a cap _ _ vs Fs hs he hz hl hb hcs hf hr=>rw [za3 hi];exact hf _ (List.getElem_mem hi)
    refine ⟨rs',y0,G0,h1,h2,h3,h4,h5,fun b=> ?_,fun m hs=> ?_,fun hs=> ?_⟩
    ·have e1:=h6 b;have e2:=hF' b
     simp only [rootCell];omega
    ·obtain ⟨hlike,_⟩:=zim hok hlt hy
     have:=h7 (m+1) (by
      rw [hown]
      intro e' xs' he
      cases he
      refine ⟨_,rfl,by simp,fun k hk=> ?_⟩
      rw [zal _ _ (by simpa using hk)]
      by_cases hki:k=i
      ·subst hki
       rw [if_pos rfl,hlike]
       refine ⟨by simp,fun j=> ?_⟩
       by_cases hj:j<(xs.getD k .gone).cells.length
       ·rw [zal _ _ hj]
        by_cases hjc:j=c
        ·subst hjc;rw [if_pos rfl];exact hs
        ·rw [if_neg hjc];exact .refl _ _
       ·have e1:(xs.getD k .gone).cells.getD j .gone=.gone:=zai hj
        rw [e1]
        cases m with
        | zero=>trivial
        | succ m=>intro e xs h;cases h
      ·rw [if_neg hki]
       exact ⟨rfl,fun _=>.refl _ _⟩)
     have e:(((i,e,c')::up).length+m)=up.length+(m+1):=by simp;omega
     rw [e];exact this
    ·obtain ⟨hlike,_⟩:=zim hok hlt hy
     refine h8 fun m=> ?_
     rw [hown]
     cases m with
     | zero=>trivial
     | succ m=>
       intro e' xs' he
       cases he
       refine ⟨_,rfl,by simp,fun k hk=> ?_⟩
       rw [zal _ _ (by simpa using hk)]
       by_cases hki:k=i
       ·subst hki
        rw [if_pos rfl,hlike]
        refine ⟨by simp,fun j=> ?_⟩
        by_cases hj:j<(xs.getD k .gone).cells.length
        ·rw [zal _ _ hj]
         by_cases hjc:j=c
         ·subst hjc;rw [if_pos rfl];exact hs m
         ·rw [if_neg hjc];exact .refl _ _
        ·have e1:(xs.getD k .gone).cells.getD j .gone=.gone:=zai hj
         rw [e1,zai (by simpa using hj)]
         exact .refl _ _
       ·rw [if_neg hki]
        exact ⟨rfl,fun _=>.refl _ _⟩
end Go.Pm
namespace Go.Pm
structure Strike (f:V->V):Prop where
 or:∀ v,f v=v\/f v=.gone
 agg:∀ cs,f (.agg cs)=.agg cs
 tup:∀ vs,f (.tup vs)=.tup vs
theorem zbf (r c0 d):Strike (V.kill1 r c0 d):=by
 refine ⟨fun v=> ?_,fun _=>rfl,fun _=>rfl⟩
 cases v with
 | hd e r' c up lo hi=>simp only [V.kill1];split <;> simp
 | ref r' c up=>simp only [V.kill1];split <;> simp
 | _=>exact .inl rfl
theorem zay (k):Strike (V.killBox1 k):=by
 refine ⟨fun v=> ?_,fun _=>rfl,fun _=>rfl⟩
 cases v with
 | hd e r c up lo hi=>cases r <;> first|exact .inl rfl|(simp only [V.killBox1];split <;> simp)
 | ref r c up=>cases r <;> first|exact .inl rfl|(simp only [V.killBox1];split <;> simp)
 | _=>exact .inl rfl
theorem zau (k):Strike (V.killVar1 k):=by
 refine ⟨fun v=> ?_,fun _=>rfl,fun _=>rfl⟩
 cases v with
 | hd e r c up lo hi=>cases r <;> first|exact .inl rfl|(simp only [V.killVar1];split <;> simp)
 | ref r c up=>cases r <;> first|exact .inl rfl|(simp only [V.killVar1];split <;> simp)
 | _=>exact .inl rfl
theorem zcw (k):Strike (V.unloc1 k):=by
 refine ⟨fun v=> ?_,fun _=>rfl,fun _=>rfl⟩
 cases v with
 | hd e r c up lo hi=>cases r <;> first|exact .inl rfl|(simp only [V.unloc1];split <;> simp)
 | ref r c up=>cases r <;> first|exact .inl rfl|(simp only [V.unloc1];split <;> simp)
 | _=>exact .inl rfl
theorem zae {f:V->V} (hf:Strike f) (z:V):(V.leafwise f z).cells=z.cells.map f:=by
 cases z with
 | agg cs=>rfl
 | tup vs=>
   simp only [V.leafwise,V.cells]
   induction vs with
   | nil=>rfl
   | cons v vs ih=>
     simp only [List.map_cons,List.flatMap_cons,List.map_append]
     rw [ih]
     congr 1
     cases v <;> simp only [V.cells1,List.map_cons,List.map_nil,hf.tup] <;> first
      | rfl
      | (rcases hf.or _ with h|h <;> rw [h] <;> rfl)
 | _=>
   simp only [V.leafwise,V.cells,List.map_cons,List.map_nil]
   rcases hf.or _ with h|h <;> rw [h] <;> rfl
theorem zdj {f:V->V} (hf:Strike f) {v:Value} {z:V} (h:zbk v z):zbk v (V.leafwise f z):=by
 cases z with
 | agg cs=>obtain ⟨a,h1,h2⟩:=h;exact ⟨a,h1,by simpa using h2⟩
 | tup vs=>
   obtain ⟨a,h1,h2,h3⟩:=h
   refine ⟨a,h1,by simpa using h2,?_⟩
   intro j hj
   simp only [List.length_map] at hj
   have:=h3 j hj
   simp only [List.getD,List.getElem?_map,List.getElem?_eq_getElem hj,Option.map_some,Option.getD_some] at this ⊢
   generalize vs[j]=y at *
   cases y with
   | agg cs=>obtain ⟨a,h1,h2⟩:=this;exact ⟨a,h1,by simpa using h2⟩
   | _=>simp only;rcases hf.or _ with h|h <;> rw [h] <;> exact this
 | gone=>simp only [V.leafwise];rcases hf.or .gone with h|h <;> rw [h] <;> trivial
 | _=>
   simp only [V.leafwise]
   rcases hf.or _ with h'|h' <;> rw [h'] <;> first|exact h|trivial
theorem zb3 {f:V->V} (hf:Strike f) (v:Value) (z:V) (c:Nat):zac v (V.leafwise f z) c=zac v z c:=by
 cases z with
 | agg cs=>rfl
 | tup vs=>rfl
 | _=>simp only [V.leafwise];rcases hf.or _ with h|h <;> rw [h] <;> rfl
theorem zjl:∀ (vs cs:List V),cs.length=(vs.flatMap V.cells1).length->(∀ z∈cs,z.leaf=true)->(∀ z∈vs.flatMap V.cells1,z.leaf=true)->
 (zks vs cs).flatMap V.cells1=cs
 | [],cs,hl,_,_=>by simp at hl;simp [zks,hl]
 | v::vs,cs,hl,hc,hv=>by
   simp only [zks,List.flatMap_cons]
   simp only [List.flatMap_cons,List.length_append] at hl
   rw [zjl vs _ (by rw [List.length_drop];omega) (fun z hz=>hc z (List.mem_of_mem_drop hz)) (fun z hz=>hv z (by simp only [List.flatMap_cons];exact List.mem_append_right _ hz))]
   have h1:(v.like1 (cs.take v.cells1.length)).cells1=cs.take v.cells1.length:=by
    cases v with
    | agg ds=>rfl
    | tup ds=>have:=hv (.tup ds) (by simp [V.cells1]);cases this
    | _=>
      simp only [V.cells1,List.length_singleton] at hl ⊢
      cases cs with
      | nil=>simp only [List.length_nil] at hl;omega
      | cons y cs=>
        simp only [List.take_succ_cons,List.take_zero,V.like1,List.headD]
        have:=hc y (by simp)
        cases y <;> first|rfl|cases this
   rw [h1,List.take_append_drop]
theorem zdq {z:V} {cs:List V} (hl:cs.length=z.cells.length) (hc:∀ y∈cs,y.leaf=true) (hz:∀ y∈z.cells,y.leaf=true):(z.like cs).cells=cs:=by
 cases z with
 | agg ds=>rfl
 | tup vs=>exact zjl vs cs hl hc hz
 | _=>
   simp only [V.cells,List.length_singleton] at hl
   obtain ⟨y,rfl⟩:=List.length_eq_one_iff.1 hl
   simp only [V.like,V.like1,List.headD]
   have:=hc y (by simp)
   cases y <;> first|rfl|cases this
theorem zf6 {z:V} {cs:List V} (hl:cs.length=z.cells.length) (hc:∀ y∈cs,y.leaf=true) (v:Value) (c:Nat):zac v (z.like cs) c=zac v z c:=by
 cases z with
 | agg ds=>rfl
 | tup vs=>rfl
 | _=>
   simp only [V.cells,List.length_singleton] at hl
   obtain ⟨y,rfl⟩:=List.length_eq_one_iff.1 hl
   simp only [V.like,V.like1,List.headD]
   have:=hc y (by simp)
   cases y <;> first|rfl|cases this
theorem zjz:∀ (vs cs:List V) (a:Nat->Value),cs.length=(vs.flatMap V.cells1).length->(∀ z∈cs,z.leaf=true)->
 (∀ j,j<vs.length->zcs (a j) (vs.getD j .gone))->(zks vs cs).length=vs.length/\∀ j,j<vs.length->zcs (a j) ((zks vs cs).getD j .gone)
 | [],cs,a,_,_,_=>⟨rfl,fun j hj=>by simp at hj⟩
 | v::vs,cs,a,hl,hc,h=>by
   simp only [List.flatMap_cons,List.length_append] at hl
   obtain ⟨h1,h2⟩:=zjz vs (cs.drop v.cells1.length) (fun j=>a (j+1)) (by rw [List.length_drop];omega) (fun z hz=>hc z (List.mem_of_mem_drop hz))
    (fun j hj=>by have:=h (j+1) (by simp;omega);simpa using this)
   refine ⟨by simp [zks,h1],?_⟩
   intro j hj
   cases j with
   | succ j=>have:=h2 j (by simpa using hj);simpa [zks] using this
   | zero=>
     have h0:=h 0 (by simp)
     simp only [List.getD_cons_zero,zks] at h0 ⊢
     cases v with
     | agg ds=>obtain ⟨b,h3,h4⟩:=h0;exact ⟨b,h3,by simp only [V.cells1,List.length_take] at hl ⊢;omega⟩
     | _=>
       simp only [V.cells1,List.length_singleton] at hl ⊢
       cases cs with
       | nil=>simp only [List.length_nil] at hl;omega
       | cons y cs=>
         simp only [List.take_succ_cons,List.take_zero,V.like1,List.headD]
         have:=hc y (by simp)
         cases y <;> first|exact h0|cases this
theorem zv9 {z:V} {cs:List V} {v:Value} (hl:cs.length=z.cells.length) (hc:∀ y∈cs,y.leaf=true) (h:zbk v z) (hg:z ≠ .gone):zbk v (z.like cs):=by
 cases z with
 | agg ds=>obtain ⟨a,h1,h2⟩:=h;exact ⟨a,h1,by simp [V.cells] at hl;omega⟩
 | tup vs=>
   obtain ⟨a,h1,h2,h3⟩:=h
   obtain ⟨h4,h5⟩:=zjz vs cs (fun j=>a.getD j undef) hl hc h3
   exact ⟨a,h1,by omega,fun j hj=>h5 j (by omega)⟩
 | gone=>exact absurd rfl hg
 | _=>
   simp only [V.cells,List.length_singleton] at hl
   obtain ⟨y,rfl⟩:=List.length_eq_one_iff.1 hl
   simp only [V.like,V.like1,List.headD]
   have:=hc y (by simp)
   cases y <;> first|exact h|trivial|cases this
end Go.Pm
namespace Go.Pm
theorem zbs {x:Cx} {v z F} (h:x.LR1 v z F) (hm:z.mark=false) (hg:z ≠ .gone):VR x.w x.I v z F:=by
 cases z <;> first|exact h.elim|exact h|exact absurd rfl hg|cases hm
theorem zck {x:Cx} {v z F} (h:x.LR1 v z F) (hm:z.mark=true):F=[]:=by
 cases z with
 | ref r c up=>cases up <;> exact h.1
 | hd=>exact h.1
 | eptr=>exact h.1
 | fn=>exact h.1
 | _=>cases hm
theorem LR1.keep {x x':Cx} {v z F} (h:x.LR1 v z F) (hm:z.mark=true->x'.LR1 v z F) (hI:∀ b,x.I b->x'.I b) (hw:∀ b,x.I b->x'.w.heap[b]? =x.w.heap[b]?)
 (hF:∀ b∈F,x'.w.heap[b]? =x.w.heap[b]?):x'.LR1 v z F:=by
 by_cases h1:z.mark=true
 ·exact hm h1
 ·by_cases h2:z=.gone
  ·subst h2;exact h
  ·have:=(zbs h (by simpa using h1) h2).keep hI hw hF
   exact za8 this (zbp h)
def yc2 (F:Nat->Nat->List Nat) (i c:Nat) (G:List Nat):Nat->Nat->List Nat:=upd F i (upd (F i) c G)
def zf2 (FV:Nat->Nat->List Nat) (r:Root) (c:Nat) (G:List Nat):Nat->Nat->List Nat:=match r with | .var i=>yc2 FV i c G | .box _=>FV
def zem (FC:Nat->Nat->List Nat) (r:Root) (c:Nat) (G:List Nat):Nat->Nat->List Nat:=match r with | .var _=>FC | .box k=>yc2 FC k c G
theorem zas {f:V->V} (l:List V) (hf:f .gone=.gone) (c:Nat):(l.map f).getD c .gone=f (l.getD c .gone):=by
 simp only [List.getD,List.getElem?_map]
 cases l[c]? <;> simp [hf]
variable {B:Base} {x:Cx} {FV FC:Nat->Nat->List Nat} {FX:List Nat}
theorem SR.leafs (h:SR B x FV FC FX) {i:Nat} (hi:i<x.st.vars.length):∀ y∈(x.st.vars.getD i .gone).cells,y.leaf=true:=by
 intro y hy
 obtain ⟨c,hc,rfl⟩:=List.mem_iff_getElem.1 hy
 have:=zbp (h.vars i hi c hc)
 rwa [za3 hc] at this
def St.turn (s:St) (r:Root) (c:Nat) (y:V) (d:Nat):St:=(s.setRoot r (((s.root r).getD []).set c y)).kill r c d
theorem zaw (s:St) (r c y d):(s.turn r c y d).vars.length=s.vars.length:=by
 cases r <;> simp [St.turn,St.kill,St.setRoot]
theorem zao (s:St) (r c y d):(s.turn r c y d).boxes.length=s.boxes.length:=by
 cases r <;> simp [St.turn,St.kill,St.setRoot]
theorem zcx (s:St) (r c y d) {i:Nat} (hi:i<s.vars.length):(s.turn r c y d).vars.getD i .gone=
 V.leafwise (V.kill1 r c d) (if r=.var i then(s.vars.getD i .gone).like ((s.vars.getD i .gone).cells.set c y) else s.vars.getD i .gone):=by
 cases r with
 | box k=>simp [St.turn,St.kill,St.setRoot,List.getD,List.getElem?_eq_getElem hi]
 | var j=>
   have hr:(s.root (.var j)).getD []=if j<s.vars.length then(s.vars.getD j .gone).cells else []:=by
    simp only [St.root]
    by_cases hj:j<s.vars.length
    ·simp [hj,List.getD]
    ·simp [hj]
   by_cases hji:j=i
   ·subst hji
    simp only [St.turn,St.kill,St.setRoot,hr,hi,if_true,List.getD,List.getElem?_map,List.getElem?_modify,List.getElem?_eq_getElem hi,Option.getD_some]
    simp
   ·have h1:¬(Root.var j=Root.var i):=fun e=>hji (by cases e;rfl)
    simp only [St.turn,St.kill,St.setRoot,List.getD,List.getElem?_map,List.getElem?_modify,hji,List.getElem?_eq_getElem hi,Option.getD_some,h1,if_false]
    simp
theorem zec (s:St) (r c y d) {k:Nat} (hk:k<s.boxes.length):(s.turn r c y d).boxes.getD k []=
 (if r=.box k then(s.boxes.getD k []).set c y else s.boxes.getD k []):=by
 cases r with
 | var j=>simp [St.turn,St.kill,St.setRoot]
 | box j=>
   have hr:(s.root (.box j)).getD []=s.boxes.getD j []:=by simp [St.root,List.getD]
   simp only [St.turn,St.kill,St.setRoot,hr]
   rw [zal _ _ hk]
   by_cases hjk:k=j
   ·subst hjk;simp
   ·have:¬(Root.box j=Root.box k):=fun e=>hjk (by cases e;rfl)
    simp [hjk,this]
theorem zxu {r:Root} {rs:List V} {c0 d:Nat} {y0:V} {G0 FX':List Nat} (hr:x.st.root r=some rs) (hc0:c0<rs.length)
 (hlen:∀ i,i<x.st.vars.length->((x.st.turn r c0 y0 d).vars.getD i .gone).cells.length=(x.st.vars.getD i .gone).cells.length) (b:Nat):
 zar (x.st.turn r c0 y0 d) x.φ (zf2 FV r c0 G0) (zem FC r c0 G0) FX' b+(RF FV FC r c0).count b+FX.count b=zar x.st x.φ FV FC FX b+G0.count b+FX'.count b:=by
 have hblen:∀ k,k<x.st.boxes.length->((x.st.turn r c0 y0 d).boxes.getD k []).length=(x.st.boxes.getD k []).length:=by
  intro k hk;rw [zec _ _ _ _ _ hk];split <;> simp
 unfold zar
 rw [zaw,zao]
 rcases za6 hr with ⟨i,rfl,hi,rfl⟩|⟨k,rfl,hk,rfl⟩
 ·have e1:tot x.st.boxes.length (fun k=>x.φ k::cat ((x.st.turn (.var i) c0 y0 d).boxes.getD k []).length (zem FC (.var i) c0 G0 k)) b=
   tot x.st.boxes.length (fun k=>x.φ k::cat (x.st.boxes.getD k []).length (FC k)) b:=zaa b fun k hk=>by rw [hblen k hk];rfl
  have e2:tot x.st.vars.length (fun j=>cat ((x.st.turn (.var i) c0 y0 d).vars.getD j .gone).cells.length (zf2 FV (.var i) c0 G0 j)) b=
   tot x.st.vars.length (upd (fun j=>cat (x.st.vars.getD j .gone).cells.length (FV j)) i (cat (x.st.vars.getD i .gone).cells.length (upd (FV i) c0 G0))) b:=
   zaa b fun j hj=>by
    rw [hlen j hj]
    by_cases hji:j=i
    ·subst hji;simp [zf2,yc2]
    ·rw [zam _ _ hji];simp only [zf2,yc2];rw [zam _ _ hji]
  rw [e1,e2]
  have e3:=zga hi (fun j=>cat (x.st.vars.getD j .gone).cells.length (FV j)) (cat (x.st.vars.getD i .gone).cells.length (upd (FV i) c0 G0)) b
  simp only [za2] at e3
  have e4:=zga hc0 (FV i) G0 b
  simp only [RF]
  omega
 ·have e1:tot x.st.vars.length (fun j=>cat ((x.st.turn (.box k) c0 y0 d).vars.getD j .gone).cells.length (zf2 FV (.box k) c0 G0 j)) b=
   tot x.st.vars.length (fun j=>cat (x.st.vars.getD j .gone).cells.length (FV j)) b:=zaa b fun j hj=>by rw [hlen j hj];rfl
  have e2:tot x.st.boxes.length (fun j=>x.φ j::cat ((x.st.turn (.box k) c0 y0 d).boxes.getD j []).length (zem FC (.box k) c0 G0 j)) b=
   tot x.st.boxes.length (upd (fun j=>x.φ j::cat (x.st.boxes.getD j []).length (FC j)) k (x.φ k::cat (x.st.boxes.getD k []).length (upd (FC k) c0 G0))) b:=
   zaa b fun j hj=>by
    rw [hblen j hj]
    by_cases hji:j=k
    ·subst hji;simp [zem,yc2]
    ·rw [zam _ _ hji];simp only [zem,yc2];rw [zam _ _ hji]
  rw [e1,e2]
  have e3:=zga hk (fun j=>x.φ j::cat (x.st.boxes.getD j []).length (FC j)) (x.φ k::cat (x.st.boxes.getD k []).length (upd (FC k) c0 G0)) b
  simp only [List.count_cons,za2] at e3
  have e4:=zga hc0 (FC k) G0 b
  simp only [RF]
  omega
theorem SR.two (h:SR B x FV FC FX) {r r':Root} {rs rs':List V} {c c':Nat} (hr:x.st.root r=some rs) (hr':x.st.root r'=some rs') (hc:c<rs.length) (hc':c'<rs'.length)
 (hne:r≠r'\/c≠c') (b:Nat):(RF FV FC r c).count b+(RF FV FC r' c').count b+FX.count b<=1:=by
 have h1:=h.one b
 unfold zar at h1
 rcases za6 hr with ⟨i,rfl,hi,rfl⟩|⟨k,rfl,hk,rfl⟩ <;> rcases za6 hr' with ⟨i',rfl,hi',rfl⟩|⟨k',rfl,hk',rfl⟩ <;> simp only [RF]
 ·by_cases hii:i=i'
  ·subst hii
   have e:=zat hi (fun i=>cat (x.st.vars.getD i .gone).cells.length (FV i)) b
   simp only [za2] at e
   have e2:=zeu hc hc' (hne.resolve_left (by simp)) (FV i) b
   omega
  ·have e:=zeu hi hi' hii (fun i=>cat (x.st.vars.getD i .gone).cells.length (FV i)) b
   simp only [za2] at e
   have e2:=zat hc (FV i) b
   have e3:=zat hc' (FV i') b
   omega
 ·have e:=zat hi (fun i=>cat (x.st.vars.getD i .gone).cells.length (FV i)) b
  have e':=zat hk' (fun k=>x.φ k::cat (x.st.boxes.getD k []).length (FC k)) b
  simp only [List.count_cons,za2] at e e'
  have e2:=zat hc (FV i) b
  have e3:=zat hc' (FC k') b
  omega
 ·have e:=zat hi' (fun i=>cat (x.st.vars.getD i .gone).cells.length (FV i)) b
  have e':=zat hk (fun k=>x.φ k::cat (x.st.boxes.getD k []).length (FC k)) b
  simp only [List.count_cons,za2] at e e'
  have e2:=zat hc (FC k) b
  have e3:=zat hc' (FV i') b
  omega
 ·by_cases hkk:k=k'
  ·subst hkk
   have e:=zat hk (fun k=>x.φ k::cat (x.st.boxes.getD k []).length (FC k)) b
   simp only [List.count_cons,za2] at e
   have e2:=zeu hc hc' (hne.resolve_left (by simp)) (FC k) b
   omega
  ·have e:=zeu hk hk' hkk (fun k=>x.φ k::cat (x.st.boxes.getD k []).length (FC k)) b
   simp only [List.count_cons,za2] at e
   have e2:=zat hc (FC k) b
   have e3:=zat hc' (FC k') b
   omega
theorem SR.boxBlock (h:SR B x FV FC FX) {k:Nat} (hk:k<x.st.boxes.length) {r:Root} {rs:List V} {c:Nat} (hr:x.st.root r=some rs) (hc:c<rs.length):(RF FV FC r c).count (x.φ k)=0/\FX.count (x.φ k)=0:=by
 have h1:=h.one (x.φ k)
 unfold zar at h1
 rcases za6 hr with ⟨i,rfl,hi,rfl⟩|⟨k',rfl,hk',rfl⟩ <;> simp only [RF]
 ·have e:=zat hi (fun i=>cat (x.st.vars.getD i .gone).cells.length (FV i)) (x.φ k)
  have e':=zat hk (fun k=>x.φ k::cat (x.st.boxes.getD k []).length (FC k)) (x.φ k)
  simp only [List.count_cons,za2,beq_self_eq_true,if_true] at e e'
  have e2:=zat hc (FV i) (x.φ k)
  omega
 ·by_cases hkk:k=k'
  ·subst hkk
   have e':=zat hk (fun k=>x.φ k::cat (x.st.boxes.getD k []).length (FC k)) (x.φ k)
   simp only [List.count_cons,za2,beq_self_eq_true,if_true] at e'
   have e2:=zat hc (FC k) (x.φ k)
   omega
  ·have e:=zeu hk hk' hkk (fun k=>x.φ k::cat (x.st.boxes.getD k []).length (FC k)) (x.φ k)
   simp only [List.count_cons,za2,beq_self_eq_true,if_true] at e
   have e3:=zat hc (FC k') (x.φ k)
   omega
theorem SR.boxNe (h:SR B x FV FC FX) {k k':Nat} (hk:k<x.st.boxes.length) (hk':k'<x.st.boxes.length) (hne:k≠k'):x.φ k≠x.φ k':=by
 intro e
 have h1:=h.one (x.φ k)
 unfold zar at h1
 have e1:=zeu hk hk' hne (fun k=>x.φ k::cat (x.st.boxes.getD k []).length (FC k)) (x.φ k)
 simp only [List.count_cons,beq_self_eq_true,if_true,e] at e1 h1
 omega
theorem SR.held_pos (_h:SR B x FV FC FX) {r:Root} {rs:List V} {c:Nat} (hr:x.st.root r=some rs) (hc:c<rs.length) {b:Nat} (hb:b∈RF FV FC r c):0<zar x.st x.φ FV FC FX b:=by
 have:=zek (FX:=FX) (FV:=FV) (FC:=FC) r rs hr c hc b
 have:0<(RF FV FC r c).count b:=List.count_pos_iff.2 hb
 omega
theorem SR.box_pos (_h:SR B x FV FC FX) {k:Nat} (hk:k<x.st.boxes.length):0<zar x.st x.φ FV FC FX (x.φ k):=by
 unfold zar
 have e':=zat hk (fun k=>x.φ k::cat (x.st.boxes.getD k []).length (FC k)) (x.φ k)
 simp only [List.count_cons,beq_self_eq_true,if_true] at e'
 omega
theorem SR.lt (h:SR B x FV FC FX) {r:Root} {rs:List V} {c:Nat} (hr:x.st.root r=some rs) (hc:c<rs.length) {b:Nat} (hb:b∈RF FV FC r c):b<x.w.heap.size:=by
 have key:∀ v z F,x.LR1 v z F->b∈F->b<x.w.heap.size:=by
  intro v z F hL hb
  by_cases h1:z.mark=true
  ·rw [zck hL h1] at hb;cases hb
  ·by_cases h2:z=.gone
   ·subst h2;rw [show F=[] from hL] at hb;cases hb
   ·exact (zbs hL (by simpa using h1) h2).lt b hb
 rcases za6 hr with ⟨i,rfl,hi,rfl⟩|⟨k,rfl,hk,rfl⟩
 ·exact key _ _ _ (h.vars i hi c hc) hb
 ·exact key _ _ _ (h.boxes k hk c hc) hb
theorem SR.box_lt (h:SR B x FV FC FX) {k:Nat} (hk:k<x.st.boxes.length):x.φ k<x.w.heap.size:=by
 obtain ⟨cs,E,lo,hi,h1,_⟩:=h.box k hk
 exact (Array.getElem?_eq_some_iff.1 h1).1
def Cx.nrv (x:Cx) (w':World):Root->Nat->Value
 | .var i,c=>x.rv (.var i) c
 | .box k,c=>zad w' (x.φ k) c
theorem SR.turn (h:SR B x FV FC FX) {r:Root} {rs:List V} {c0 d:Nat} {y0:V} {G0 FX':List Nat} {w':World} {I':Nat->Prop}
 (hr:x.st.root r=some rs) (hc0:c0<rs.length) (hy:y0.leaf=true) (hkill:V.kill1 r c0 d y0=y0)
 (hvar:∀ i,r=.var i->(∃ e xs,rs.getD c0 .gone=.own e xs)\/(x.st.vars.getD i .gone=.gone->zbk (x.tm i) y0))
 (hnew:Cx.LR1 ⟨w',I',x.φ,x.tm,x.st.turn r c0 y0 d⟩ (x.nrv w' r c0) y0 G0)
 (hbm:∀ k,r=.box k->y0.mark=true->∃ k' c',y0=.ref (.box k') c' [])
 (hrv:∀ k,r=.box k->∀ c,c≠c0->zad w' (x.φ k) c=zad x.w (x.φ k) c)
 (hbox:∀ k,r=.box k->Rows w' (x.φ k) rs.length)
 (hsame:∀ b,b<x.w.heap.size->b ∉ RF FV FC r c0->(∀ k,r=.box k->b≠x.φ k)->w'.heap[b]? =x.w.heap[b]?)
 (hgw:Grow x.w w') (hI:∀ b,x.I b->I' b)
 (hIn:∀ b,I' b->x.I b\/0<(RF FV FC r c0).count b+FX.count b\/x.w.heap.size<=b) (hIl:∀ b,I' b->b<w'.heap.size)
 (hI0:∀ b,I' b->G0.count b+FX'.count b=0)
 (hcnt:∀ b,b<x.w.heap.size->G0.count b+FX'.count b<=(RF FV FC r c0).count b+FX.count b)
 (hcnt':∀ b,x.w.heap.size<=b->G0.count b+FX'.count b<=1)
 (hmark:∀ v z F,z.mark=true->V.kill1 r c0 d z=z->x.LR1 v z F->Cx.LR1 ⟨w',I',x.φ,x.tm,x.st.turn r c0 y0 d⟩ v z F):
 SR B ⟨w',I',x.φ,x.tm,x.st.turn r c0 y0 d⟩ (zf2 FV r c0 G0) (zem FC r c0 G0) FX':=by
 have hsz:=hgw.size
 have hrs:(x.st.root r).getD []=rs:=by rw [hr];rfl
 have hvr:∀ i,r=.var i->i<x.st.vars.length/\rs=(x.st.vars.getD i .gone).cells:=by
  intro i e;subst e
  rcases za6 hr with ⟨j,e,hj,h1⟩|⟨k,e,_⟩
  ·cases e;exact ⟨hj,h1⟩
  ·cases e
 have hbr:∀ k,r=.box k->k<x.st.boxes.length/\rs=x.st.boxes.getD k []:=by
  intro k e;subst e
  rcases za6 hr with ⟨j,e,_⟩|⟨j,e,hj,h1⟩
  ·cases e
  ·cases e;exact ⟨hj,h1⟩
 have hst:=zbf r c0 d
 have hsetleaf:∀ i,r=.var i->∀ y∈(x.st.vars.getD i .gone).cells.set c0 y0,y.leaf=true:=by
  intro i e y hy'
  rcases List.mem_or_eq_of_mem_set hy' with h1|h1
  ·exact h.leafs (hvr i e).1 y h1
  ·subst h1;exact hy
 have hcells:∀ i,i<x.st.vars.length->((x.st.turn r c0 y0 d).vars.getD i .gone).cells=
  (if r=.var i then(x.st.vars.getD i .gone).cells.set c0 y0 else(x.st.vars.getD i .gone).cells).map (V.kill1 r c0 d):=by
  intro i hi
  rw [zcx _ _ _ _ _ hi,zae hst]
  congr 1
  split
  ·rename_i e
   exact zdq (by simp) (hsetleaf i e) (h.leafs hi)
  ·rfl
 have hlen:∀ i,i<x.st.vars.length->((x.st.turn r c0 y0 d).vars.getD i .gone).cells.length=(x.st.vars.getD i .gone).cells.length:=by
  intro i hi;rw [hcells i hi];split <;> simp
 have hheld:=zxu (x:=x) (FV:=FV) (FC:=FC) (FX:=FX) (G0:=G0) (FX':=FX') (d:=d) (y0:=y0) hr hc0 hlen
 have hIw:∀ b,x.I b->w'.heap[b]? =x.w.heap[b]? :=by
  intro b hb
  refine hsame b (h.ilt b hb) (fun hF=> ?_) (fun k e=> ?_)
  ·have:=h.apart b hb;have:=h.held_pos hr hc0 hF;omega
  ·intro e';subst e';have:=h.apart _ hb;have:=h.box_pos (hbr k e).1;omega
 have hkeepF:∀ r' rs' c',x.st.root r'=some rs'->c'<rs'.length->(r'≠r\/c'≠c0)->∀ b∈RF FV FC r' c',w'.heap[b]? =x.w.heap[b]? :=by
  intro r' rs' c' hr' hc' hne b hb
  refine hsame b (h.lt hr' hc' hb) (fun hF=> ?_) (fun k e=> ?_)
  ·have h1:=h.two hr' hr hc' hc0 hne b
   have h2:0<(RF FV FC r' c').count b:=List.count_pos_iff.2 hb
   have h3:0<(RF FV FC r c0).count b:=List.count_pos_iff.2 hF
   omega
  ·intro e';subst e'
   have h1:=(h.boxBlock (hbr k e).1 hr' hc').1
   have h2:0<(RF FV FC r' c').count (x.φ k):=List.count_pos_iff.2 hb
   omega
 have hkeep1:∀ v z F,V.kill1 r c0 d z=z->x.LR1 v z F->(∀ b∈F,w'.heap[b]? =x.w.heap[b]?)->Cx.LR1 ⟨w',I',x.φ,x.tm,x.st.turn r c0 y0 d⟩ v z F:=
  fun v z F hk hL hF=>LR1.keep hL (fun hm=>hmark v z F hm hk hL) hI hIw hF
 have hpc:∀ i,i<x.st.vars.length->∀ c,zac (x.tm i) ((x.st.turn r c0 y0 d).vars.getD i .gone) c=zac (x.tm i) (x.st.vars.getD i .gone) c:=by
  intro i hi c
  rw [zcx _ _ _ _ _ hi,zb3 hst]
  split
  ·rename_i e
   exact zf6 (by simp) (hsetleaf i e) _ _
  ·rfl
 have hboxsame:∀ k,k<x.st.boxes.length->r ≠ .box k->w'.heap[x.φ k]? =x.w.heap[x.φ k]? :=by
  intro k hk hne
  refine hsame _ (h.box_lt hk) (fun hF=> ?_) (fun k' e=> ?_)
  ·have h1:=(h.boxBlock hk hr hc0).1
   have h2:0<(RF FV FC r c0).count (x.φ k):=List.count_pos_iff.2 hF
   omega
  ·exact h.boxNe hk (hbr k' e).1 fun e'=>hne (by rw [e,e'])
 refine ⟨?_,?_,?_,?_,?_,?_,?_,hIl,?_,h.gr.trans hgw,?_,fun b hb=>hI b (h.imm b hb),?_⟩
 ·
  intro i hi
  simp only [zaw] at hi
  rw [zcx _ _ _ _ _ hi]
  refine zdj hst ?_
  split
  ·rename_i e
   by_cases hg:x.st.vars.getD i .gone=.gone
   ·have hc1:=hc0
    rw [(hvr i e).2,hg] at hc1
    simp only [V.cells,List.length_singleton] at hc1
    have:c0=0:=by omega
    subst this
    rcases hvar i e with ⟨e',xs,ho⟩|hsh
    ·rw [(hvr i e).2,hg] at ho
     simp [V.cells] at ho
    ·rw [hg]
     have hcl:V.like .gone ((V.gone).cells.set 0 y0)=y0:=by simp [V.cells,V.like,V.like1]
     rw [hcl];exact hsh hg
   ·exact zv9 (by simp) (hsetleaf i e) (h.shape i hi) hg
  ·exact h.shape i hi
 ·
  intro i hi c hc
  simp only [zaw] at hi
  rw [hlen i hi] at hc
  have hrv':Cx.rv ⟨w',I',x.φ,x.tm,x.st.turn r c0 y0 d⟩ (.var i) c=x.rv (.var i) c:=hpc i hi c
  rw [hrv']
  by_cases hic:r=.var i/\c=c0
  ·obtain ⟨rfl,rfl⟩:=hic
   have hz:((x.st.turn (.var i) c y0 d).vars.getD i .gone).cells.getD c .gone=y0:=by
    rw [hcells i hi,if_pos rfl,zas _ rfl,zal _ _ hc,if_pos rfl,hkill]
   rw [hz]
   have hF:zf2 FV (.var i) c G0 i c=G0:=by simp [zf2,yc2]
   rw [hF]
   exact hnew
  ·have hz:((x.st.turn r c0 y0 d).vars.getD i .gone).cells.getD c .gone=V.kill1 r c0 d ((x.st.vars.getD i .gone).cells.getD c .gone):=by
    rw [hcells i hi]
    rw [zas _ rfl]
    split
    ·rename_i e
     rw [zal _ _ hc,if_neg fun e'=>hic ⟨e,e'⟩]
    ·rfl
   have hF:zf2 FV r c0 G0 i c=FV i c:=by
    cases r with
    | box k=>rfl
    | var j=>
      simp only [zf2,yc2]
      by_cases hij:i=j
      ·subst hij
       rw [zaj,zam _ _ fun e=>hic ⟨rfl,e⟩]
      ·rw [zam _ _ hij]
   rw [hz,hF]
   have hL:=h.vars i hi c hc
   generalize (x.st.vars.getD i .gone).cells.getD c .gone=z at hL
   rcases hst.or z with hk|hk
   ·rw [hk]
    refine hkeep1 _ _ _ hk hL fun b hb=> ?_
    have hri:x.st.root (.var i)=some (x.st.vars.getD i .gone).cells:=by simp [St.root,List.getD,List.getElem?_eq_getElem hi]
    refine hkeepF (.var i) _ c hri hc ?_ b hb
    by_cases e:r=.var i
    ·exact .inr fun e'=>hic ⟨e,e'⟩
    ·exact .inl fun e'=>e e'.symm
   ·rw [hk]
    show FV i c=[]
    by_cases hzm:z.mark=true
    ·exact zck hL hzm
    ·by_cases hzg:z=.gone
     ·subst hzg;exact hL
     ·exfalso
      cases z <;> first|exact hzm rfl|exact hzg rfl|cases hk
 ·
  intro k hk
  simp only [zao] at hk
  have hl:((x.st.turn r c0 y0 d).boxes.getD k []).length=(x.st.boxes.getD k []).length:=by rw [zec _ _ _ _ _ hk];split <;> simp
  show Rows w' (x.φ k) ((x.st.turn r c0 y0 d).boxes.getD k []).length
  rw [hl]
  by_cases e:r=.box k
  ·rw [<- (hbr k e).2];exact hbox k e
  ·obtain ⟨cs,E,lo,hi,h1,h2⟩:=h.box k hk
   exact ⟨cs,E,lo,hi,(hboxsame k hk e).trans h1,h2⟩
 ·
  intro k hk c hc
  simp only [zao] at hk
  simp only at hc
  rw [zec _ _ _ _ _ hk] at hc ⊢
  have hc':c<(x.st.boxes.getD k []).length:=by split at hc <;> simpa using hc
  have hri:x.st.root (.box k)=some (x.st.boxes.getD k []):=by simp [St.root,List.getD,List.getElem?_eq_getElem hk]
  by_cases hkc:r=.box k/\c=c0
  ·obtain ⟨rfl,rfl⟩:=hkc
   rw [if_pos rfl,zal _ _ hc',if_pos rfl]
   have hF:zem FC (.box k) c G0 k c=G0:=by simp [zem,yc2]
   rw [hF]
   exact hnew
  ·have hz:(if r=.box k then(x.st.boxes.getD k []).set c0 y0 else x.st.boxes.getD k []).getD c .gone=(x.st.boxes.getD k []).getD c .gone:=by
    split
    ·rename_i e
     rw [zal _ _ hc',if_neg fun e'=>hkc ⟨e,e'⟩]
    ·rfl
   have hF:zem FC r c0 G0 k c=FC k c:=by
    cases r with
    | var j=>rfl
    | box j=>
      simp only [zem,yc2]
      by_cases hij:k=j
      ·subst hij
       rw [zaj,zam _ _ fun e=>hkc ⟨rfl,e⟩]
      ·rw [zam _ _ hij]
   rw [hz,hF]
   have hL:=h.boxes k hk c hc'
   have hrv':Cx.rv ⟨w',I',x.φ,x.tm,x.st.turn r c0 y0 d⟩ (.box k) c=x.rv (.box k) c:=by
    show zad w' (x.φ k) c=zad x.w (x.φ k) c
    by_cases e:r=.box k
    ·exact hrv k e c fun e'=>hkc ⟨e,e'⟩
    ·simp only [zad,World.cell?,hboxsame k hk e]
   rw [hrv']
   refine hkeep1 _ _ _ ?_ hL fun b hb=>hkeepF (.box k) _ c hri hc' ?_ b hb
   ·by_cases hm:((x.st.boxes.getD k []).getD c .gone).mark=true
    ·obtain ⟨k',c',e⟩:=h.bmark k hk c hc' hm
     rw [e];simp [V.kill1]
    ·generalize (x.st.boxes.getD k []).getD c .gone=z at hm
     cases z <;> first|rfl|exact absurd rfl hm
   ·by_cases e:r=.box k
    ·exact .inr fun e'=>hkc ⟨e,e'⟩
    ·exact .inl fun e'=>e e'.symm
 ·
  intro k hk c hc
  simp only [zao] at hk
  simp only at hc
  rw [zec _ _ _ _ _ hk] at hc ⊢
  have hc':c<(x.st.boxes.getD k []).length:=by split at hc <;> simpa using hc
  split
  ·rename_i e
   rw [zal _ _ hc']
   split
   ·exact hbm k e
   ·exact h.bmark k hk c hc'
  ·exact h.bmark k hk c hc'
 ·
  intro b
  have h1:=hheld b
  have h2:=h.one b
  show zar (x.st.turn r c0 y0 d) x.φ (zf2 FV r c0 G0) (zem FC r c0 G0) FX' b<=1
  by_cases hb:b<x.w.heap.size
  ·have h3:=hcnt b hb;omega
  ·have h3:=hcnt' b (by omega)
   have h4:zar x.st x.φ FV FC FX b=0\/0<FX.count b:=by
    by_cases h5:0<FX.count b
    ·exact .inr h5
    ·left
     unfold zar
     have e1:∀ n (F:Nat->List Nat),(∀ i,i<n->b ∉ F i)->tot n F b=0:=by
      intro n F hF
      induction n with
      | zero=>rfl
      | succ n ih=>
        rw [zak,ih fun i hi=>hF i (by omega)]
        have:(F n).count b=0:=List.count_eq_zero.2 (hF n (by omega))
        omega
     rw [e1,e1]
     ·omega
     ·intro k hk hm
      rcases List.mem_cons.1 hm with rfl|hm
      ·exact hb (h.box_lt hk)
      ·obtain ⟨c,hc,hm⟩:=mem_cat.1 hm
       exact hb (h.lt (r:=.box k) (by simp [St.root,List.getD,List.getElem?_eq_getElem hk]) hc hm)
     ·intro i hi hm
      obtain ⟨c,hc,hm⟩:=mem_cat.1 hm
      exact hb (h.lt (r:=.var i) (by simp [St.root,List.getD,List.getElem?_eq_getElem hi]) hc hm)
   have h5:=zek (FX:=FX) (FV:=FV) (FC:=FC) r rs hr c0 hc0 b
   rcases h4 with h4|h4
   ·omega
   ·omega
 ·
  intro b hb
  have h1:=hheld b
  have h2:=hI0 b hb
  have h3:=h.one b
  have h5:=zek (FX:=FX) (FV:=FV) (FC:=FC) r rs hr c0 hc0 b
  show zar (x.st.turn r c0 y0 d) x.φ (zf2 FV r c0 G0) (zem FC r c0 G0) FX' b=0
  rcases hIn b hb with h4|h4|h4
  ·have:=h.apart b h4;omega
  ·omega
  ·have h6:zar x.st x.φ FV FC FX b=FX.count b:=by
    have hb':¬ b<x.w.heap.size:=by omega
    unfold zar
    have e1:∀ n (F:Nat->List Nat),(∀ i,i<n->b ∉ F i)->tot n F b=0:=by
     intro n F hF
     induction n with
     | zero=>rfl
     | succ n ih=>
       rw [zak,ih fun i hi=>hF i (by omega)]
       have:(F n).count b=0:=List.count_eq_zero.2 (hF n (by omega))
       omega
    rw [e1,e1]
    ·omega
    ·intro k hk hm
     rcases List.mem_cons.1 hm with rfl|hm
     ·exact hb' (h.box_lt hk)
     ·obtain ⟨c,hc,hm⟩:=mem_cat.1 hm
      exact hb' (h.lt (r:=.box k) (by simp [St.root,List.getD,List.getElem?_eq_getElem hk]) hc hm)
    ·intro i hi hm
     obtain ⟨c,hc,hm⟩:=mem_cat.1 hm
     exact hb' (h.lt (r:=.var i) (by simp [St.root,List.getD,List.getElem?_eq_getElem hi]) hc hm)
   omega
 ·
  intro b hb hO
  rw [<- h.keep b hb hO]
  refine hsame b (Nat.lt_of_lt_of_le hb h.size) (fun hF=> ?_) (fun k e=> ?_)
  ·rcases h.held b (h.held_pos hr hc0 hF) with h1|h1
   ·exact hO h1
   ·omega
  ·intro e';subst e'
   rcases h.held _ (h.box_pos (hbr k e).1) with h1|h1
   ·exact hO h1
   ·omega
 ·
  intro b hb
  have h1:=hheld b
  have h5:=zek (FX:=FX) (FV:=FV) (FC:=FC) r rs hr c0 hc0 b
  have hb':0<zar (x.st.turn r c0 y0 d) x.φ (zf2 FV r c0 G0) (zem FC r c0 G0) FX' b:=hb
  by_cases h0:0<zar x.st x.φ FV FC FX b
  ·exact h.held b h0
  ·right
   by_cases hlt:b<x.w.heap.size
   ·have h3:=hcnt b hlt;omega
   ·exact Nat.le_trans h.size (by omega)
 ·
  intro b hb
  rcases hIn b hb with h4|h4|h4
  ·exact h.new b h4
  ·have h5:=zek (FX:=FX) (FV:=FV) (FC:=FC) r rs hr c0 hc0 b
   rcases h.held b (by omega) with h1|h1
   ·exact .inr (.inl h1)
   ·exact .inr (.inr h1)
  ·exact .inr (.inr (Nat.le_trans h.size h4))
end Go.Pm
namespace Go.Pm
variable {B:Base} {x:Cx} {FV FC:Nat->Nat->List Nat} {FX:List Nat}
theorem zxa {r2 r:Root} {up:List zbv} {c0 d:Nat} (c:Nat) (h:r2≠r\/rootCell c up≠c0\/up.length+1<=d):up=[]\/r2≠r\/rootCell 0 up≠c0\/up.length<=d:=by
 cases up with
 | nil=>exact .inl rfl
 | cons s up=>right;exact h.imp id fun h=>h.imp id fun h=>by omega
theorem SR.marks (h:SR B x FV FC FX) {r:Root} {rs:List V} {c0 d:Nat} {y0:V} {w':World} {I':Nat->Prop}
 (hr:x.st.root r=some rs) (hc0:c0<rs.length) (hy:y0.leaf=true) (hkill:V.kill1 r c0 d y0=y0)
 (hvar:∀ i,r=.var i->(∃ e xs,rs.getD c0 .gone=.own e xs)\/(x.st.vars.getD i .gone=.gone->zbk (x.tm i) y0))
 (hsim:SimC d (rs.getD c0 .gone) y0) (hI:∀ b,x.I b->I' b) (hIw:∀ b,x.I b->w'.heap[b]? =x.w.heap[b]?)
 (hroot:∀ k,r=.box k->∀ c e xs,(0<d\/c≠c0)->c<rs.length->rs.getD c .gone=.own e xs->zad w' (x.φ k) c=zad x.w (x.φ k) c)
 (hother:∀ k,k<x.st.boxes.length->r ≠ .box k->∀ c,zad w' (x.φ k) c=zad x.w (x.φ k) c)
 (hblk:∀ r2 up i e c' cs c e2 ys a n cap,x.st.cont r2 ((i,e,c')::up)=some cs->c<cs.length->cs.getD c .gone=.own e2 ys->x.place r2 up c'=.slice (some a) n cap->
  (r2≠r\/rootCell c' up≠c0\/up.length+1<d)->zad w' a.block (a.off+i * e+c)=zad x.w a.block (a.off+i * e+c)):
 ∀ v z F,z.mark=true->V.kill1 r c0 d z=z->x.LR1 v z F->Cx.LR1 ⟨w',I',x.φ,x.tm,x.st.turn r c0 y0 d⟩ v z F:=by
 have hst:=zbf r c0 d
 have hvr:∀ i,r=.var i->i<x.st.vars.length/\rs=(x.st.vars.getD i .gone).cells:=by
  intro i e;subst e
  rcases za6 hr with ⟨j,e,hj,h1⟩|⟨k,e,_⟩
  ·cases e;exact ⟨hj,h1⟩
  ·cases e
 have hbr:∀ k,r=.box k->k<x.st.boxes.length/\rs=x.st.boxes.getD k []:=by
  intro k e;subst e
  rcases za6 hr with ⟨j,e,_⟩|⟨j,e,hj,h1⟩
  ·cases e
  ·cases e;exact ⟨hj,h1⟩
 have hsetleaf:∀ i,r=.var i->∀ y∈(x.st.vars.getD i .gone).cells.set c0 y0,y.leaf=true:=by
  intro i e y hy'
  rcases List.mem_or_eq_of_mem_set hy' with h1|h1
  ·exact h.leafs (hvr i e).1 y h1
  ·subst h1;exact hy
 have hroots:∀ r2 cs,x.st.root r2=some cs->∃ cs',(x.st.turn r c0 y0 d).root r2=some cs'/\cs'.length=cs.length/\
  ∀ m c,(r2≠r\/c≠c0\/m<=d)->SimC m (cs.getD c .gone) (cs'.getD c .gone):=by
  intro r2 cs hcs
  have hkillS:∀ m z,SimC m z (V.kill1 r c0 d z):=by
   intro m z
   rcases hst.or z with hk|hk
   ·rw [hk];exact .refl _ _
   ·cases m with
    | zero=>trivial
    | succ m=>intro e xs hz;subst hz;cases hk
  rcases za6 hcs with ⟨i,rfl,hi,rfl⟩|⟨k,rfl,hk,rfl⟩
  ·have hv:=zcx x.st r c0 y0 d hi
   refine ⟨((x.st.turn r c0 y0 d).vars.getD i .gone).cells,?_,?_,?_⟩
   ·have hi':i<(x.st.turn r c0 y0 d).vars.length:=by rw [zaw];exact hi
    simp [St.root,List.getD,List.getElem?_eq_getElem hi']
   ·rw [hv,zae hst]
    split
    ·rename_i e
     rw [List.length_map,zdq (by simp) (hsetleaf i e) (h.leafs hi)];simp
    ·simp
   ·intro m c hm
    rw [hv,zae hst,zas _ rfl]
    split
    ·rename_i e
     rw [zdq (by simp) (hsetleaf i e) (h.leafs hi)]
     by_cases hc:c<(x.st.vars.getD i .gone).cells.length
     ·rw [zal _ _ hc]
      by_cases hcc:c=c0
      ·subst hcc
       have hm':m<=d:=by
        rcases hm with h9|h9|h9
        ·exact absurd e.symm h9
        ·exact absurd rfl h9
        ·exact h9
       rw [if_pos rfl,hkill]
       rw [(hvr i e).2] at hsim
       exact SimC.mono hm' hsim
      ·rw [if_neg hcc];exact hkillS _ _
     ·have e1:(x.st.vars.getD i .gone).cells.getD c .gone=.gone:=zai hc
      rw [e1]
      cases m with
      | zero=>trivial
      | succ m=>intro e xs h;cases h
    ·exact hkillS _ _
  ·have hb:=zec x.st r c0 y0 d hk
   refine ⟨(x.st.turn r c0 y0 d).boxes.getD k [],?_,?_,?_⟩
   ·have hk':k<(x.st.turn r c0 y0 d).boxes.length:=by rw [zao];exact hk
    simp [St.root,List.getD,List.getElem?_eq_getElem hk']
   ·rw [hb];split <;> simp
   ·intro m c hm
    rw [hb]
    split
    ·rename_i e
     by_cases hc:c<(x.st.boxes.getD k []).length
     ·rw [zal _ _ hc]
      by_cases hcc:c=c0
      ·subst hcc
       have hm':m<=d:=by
        rcases hm with h9|h9|h9
        ·exact absurd e.symm h9
        ·exact absurd rfl h9
        ·exact h9
       rw [if_pos rfl]
       rw [(hbr k e).2] at hsim
       exact SimC.mono hm' hsim
      ·rw [if_neg hcc];exact .refl _ _
     ·have e1:(x.st.boxes.getD k []).getD c .gone=.gone:=zai hc
      rw [e1]
      cases m with
      | zero=>trivial
      | succ m=>intro e xs h;cases h
    ·exact .refl _ _
 have hcont:∀ (r2:Root) (up:List zbv) (cs:List V),x.st.cont r2 up=some cs->(up=[]\/r2≠r\/rootCell 0 up≠c0\/up.length<=d)->
  ∃ cs',(x.st.turn r c0 y0 d).cont r2 up=some cs'/\cs'.length=cs.length/\∀ m c,(r2≠r\/rootCell c up≠c0\/up.length+m<=d)->SimC m (cs.getD c .gone) (cs'.getD c .gone):=by
  intro r2 up
  induction up with
  | nil=>
    intro cs hcs _
    obtain ⟨cs',h1,h2,h3⟩:=hroots r2 cs hcs
    exact ⟨cs',h1,h2,fun m c hm=>h3 m c (by simpa [rootCell] using hm)⟩
  | cons s up ih=>
    obtain ⟨i,e,c'⟩:=s
    intro cs hcs hd
    obtain ⟨os,xs,ho,hc',hown,hi,rfl⟩:=zaf hcs
    have hd1:r2≠r\/rootCell c' up≠c0\/up.length+1<=d:=by
     rcases hd with h9|h9|h9|h9
     ·cases h9
     ·exact .inl h9
     ·exact .inr (.inl h9)
     ·exact .inr (.inr (by simpa using h9))
    obtain ⟨os',h1,h2,h3⟩:=ih os ho (zxa c' hd1)
    have hs:=h3 1 c' hd1
    obtain ⟨xs',hx',hxl,hxi⟩:=hs e xs hown
    have hc'':c'<os'.length:=by omega
    refine ⟨(xs'.getD i .gone).cells,?_,(hxi i hi).1,?_⟩
    ·have e1:os'[c']? =some (.own e xs'):=by rw [List.getElem?_eq_getElem hc'',<- hx',za3 hc'']
     have e2:xs'[i]? =some (xs'.getD i .gone):=by rw [za3 (by omega),List.getElem?_eq_getElem (by omega)]
     simp only [St.cont,h1,e1,if_true,e2,Option.map_some]
    ·intro m c hm
     have hs':=h3 (m+1) c' (hm.imp id fun h=>h.imp id fun h=>by simp at h;omega)
     obtain ⟨xs2,hx2,_,hxi2⟩:=hs' e xs hown
     rw [hx'] at hx2
     cases hx2
     exact (hxi2 i hi).2 c
 have hplace:∀ (r2:Root) (up:List zbv) (cs:List V),x.st.cont r2 up=some cs->∀ c,(r2≠r\/rootCell c up≠c0\/up.length<d)->c<cs.length->(∃ e xs,cs.getD c .gone=.own e xs)->
  Cx.place ⟨w',I',x.φ,x.tm,x.st.turn r c0 y0 d⟩ r2 up c=x.place r2 up c:=by
  intro r2 up
  induction up with
  | nil=>
    intro cs hcs c hd hc hown0
    rcases za6 hcs with ⟨i,rfl,hi,rfl⟩|⟨k,rfl,hk,rfl⟩
    ·show zac (x.tm i) ((x.st.turn r c0 y0 d).vars.getD i .gone) c=zac (x.tm i) (x.st.vars.getD i .gone) c
     rw [zcx _ _ _ _ _ hi,zb3 hst]
     split
     ·rename_i e;exact zf6 (by simp) (hsetleaf i e) _ _
     ·rfl
    ·show zad w' (x.φ k) c=zad x.w (x.φ k) c
     by_cases e:r=.box k
     ·exact hroot k e c hown0.choose hown0.choose_spec.choose (by rcases hd with h|h|h;exact absurd e.symm h;exact .inr h;exact .inl (by simpa using h)) (by rw [(hbr k e).2];exact hc) (by rw [(hbr k e).2];exact hown0.choose_spec.choose_spec)
     ·exact hother k hk e c
  | cons s up ih=>
    obtain ⟨i,e,c'⟩:=s
    intro cs hcs c hd hc hown0
    obtain ⟨os,xs,ho,hc',hown,hi,rfl⟩:=zaf hcs
    have h1:=ih os ho c' (hd.imp id fun h=>h.imp id fun h=>by simp at h;omega) hc' ⟨e,xs,hown⟩
    simp only [Cx.place,h1]
    cases hp:x.place r2 up c' with
    | slice a n cap=>
      cases a with
      | none=>rfl
      | some a=>
        obtain ⟨e2,ys,hown2⟩:=hown0
        exact hblk r2 up i e c' _ c e2 ys a n cap hcs hc hown2 hp (hd.imp id fun h=>h.imp id fun h=>by simp at h;omega)
    | _=>rfl
 intro v z F hm hk hL
 cases z with
 | ref r2 c up=>
   cases up with
   | nil=>
     obtain ⟨h1,k,cs,h2,h3,h4⟩:=hL
     refine ⟨h1,k,(x.st.turn r c0 y0 d).boxes.getD k [],h2,?_,h4⟩
     have hk':k<(x.st.turn r c0 y0 d).boxes.length:=by rw [zao];exact (List.getElem?_eq_some_iff.1 h3).1
     simp [List.getD,List.getElem?_eq_getElem hk']
   | cons s up=>
     obtain ⟨i,e,c'⟩:=s
     obtain ⟨h1,⟨cs,h2⟩,a,n,cap,h3,h4⟩:=hL
     have hd:r2≠r\/rootCell c' up≠c0\/((i,e,c')::up).length<=d:=by
      simp only [V.kill1] at hk
      split at hk
      ·cases hk
      ·rename_i hn
       by_cases e:r2=r
       ·right
        by_cases e9:rootCell c' up=c0
        ·right;simp only [e,rootCell,e9,true_and,Nat.not_lt] at hn;exact hn
        ·exact .inl e9
       ·exact .inl e
     obtain ⟨cs',h5,_⟩:=hcont r2 _ cs h2 (.inr hd)
     obtain ⟨os,xs,ho,hc',hown,_⟩:=zaf h2
     exact ⟨h1,⟨cs',h5⟩,a,n,cap,(hplace r2 up os ho c' (hd.imp id fun h=>h.imp id fun h=>by simp at h;omega) hc' ⟨e,xs,hown⟩).trans h3,h4⟩
 | hd e r2 c up lo hi=>
   obtain ⟨h1,xs,h2,h3⟩:=hL
   have hd:r2≠r\/rootCell c up≠c0\/up.length<d:=by
    simp only [V.kill1] at hk
    split at hk
    ·cases hk
    ·rename_i hn
     by_cases e:r2=r
     ·right
      by_cases e9:rootCell c up=c0
      ·right;simp only [e,e9,true_and,Nat.not_le] at hn;exact hn
      ·exact .inl e9
     ·exact .inl e
   simp only [St.get] at h2
   cases hcs:x.st.cont r2 up with
   | none=>rw [hcs] at h2;cases h2
   | some cs=>
     rw [hcs] at h2
     simp only [Option.bind_some] at h2
     obtain ⟨hc,hx⟩:=List.getElem?_eq_some_iff.1 h2
     obtain ⟨cs',h5,h6,h7⟩:=hcont r2 up cs hcs (zxa c (hd.imp id fun h=>h.imp id fun h=>by omega))
     obtain ⟨xs',hx',_⟩:=h7 1 c (hd.imp id fun h=>h.imp id fun h=>by omega) e xs (by rw [za3 hc,hx])
     refine ⟨h1,xs',?_,?_⟩
     ·simp only [St.get,h5,Option.bind_some]
      rw [List.getElem?_eq_getElem (by omega),<- hx',za3 (by omega)]
     ·rw [hplace r2 up cs hcs c hd hc ⟨e,xs,by rw [za3 hc,hx]⟩];exact h3
 | eptr cs c=>
   obtain ⟨h1,b,o,h2,h3,vs,h4⟩:=hL
   refine ⟨h1,b,o,h2,hI b h3,vs,fun j hj=> ?_⟩
   obtain ⟨h5,h6⟩:=h4 j hj
   refine ⟨?_,h6.1.keep hI hIw (by simp),h6.2⟩
   rw [<- h5];simp [World.cell?,hIw b h3]
 | fn f caps=>
   obtain ⟨h1,cs,h2,h3,h4⟩:=hL
   refine ⟨h1,cs,h2,h3,fun i k hi hc=> ?_⟩
   obtain ⟨⟨b,h5⟩,h6⟩:=h4 i k hi hc
   have hk':k<(x.st.turn r c0 y0 d).boxes.length:=by rw [zao];exact (List.getElem?_eq_some_iff.1 h5).1
   exact ⟨⟨_,List.getElem?_eq_getElem hk'⟩,h6⟩
 | _=>cases hm
end Go.Pm
namespace Go.Pm
theorem zbo {s:St} {i:Nat} (h:i<s.vars.length):s.root (.var i)=some (s.vars.getD i .gone).cells:=by simp [St.root,List.getD,List.getElem?_eq_getElem h]
theorem zbl {s:St} {k:Nat} (h:k<s.boxes.length):s.root (.box k)=some (s.boxes.getD k []):=by simp [St.root,List.getD,List.getElem?_eq_getElem h]
structure Gho (s s':St):Prop where
 vlen:s'.vars.length=s.vars.length
 blen:s'.boxes.length=s.boxes.length
 pc:∀ i v c,zac v (s'.vars.getD i .gone) c=zac v (s.vars.getD i .gone) c
 rev:∀ (up:List zbv) (r:Root) (cs':List V),s'.cont r up=some cs'->∃ cs,s.cont r up=some cs/\cs.length=cs'.length/\∀ c m,SimC m (cs'.getD c .gone) (cs.getD c .gone)
theorem SimC.trans:∀ {m:Nat} {a b c:V},SimC m a b->SimC m b c->SimC m a c
 | 0,_,_,_,_,_=>trivial
 | m+1,a,b,c,h1,h2=>fun e xs ha=>by
   obtain ⟨ys,h3,h4,h5⟩:=h1 e xs ha
   obtain ⟨zs,h6,h7,h8⟩:=h2 e ys h3
   exact ⟨zs,h6,by omega,fun i hi=>⟨((h8 i (by omega)).1).trans (h5 i hi).1,fun c=>SimC.trans ((h5 i hi).2 c) ((h8 i (by omega)).2 c)⟩⟩
theorem Gho.refl (s:St):Gho s s:=⟨rfl,rfl,fun _ _ _=>rfl,fun _ _ cs h=>⟨cs,h,rfl,fun _ _=>.refl _ _⟩⟩
theorem Gho.trans {s s' s'':St} (h:Gho s s') (h':Gho s' s''):Gho s s'':=by
 refine ⟨h'.vlen.trans h.vlen,h'.blen.trans h.blen,fun i v c=>(h'.pc i v c).trans (h.pc i v c),fun up r cs'' hc=> ?_⟩
 obtain ⟨cs',h1,h2,h3⟩:=h'.rev up r cs'' hc
 obtain ⟨cs,h4,h5,h6⟩:=h.rev up r cs' h1
 exact ⟨cs,h4,h5.trans h2,fun c m=>(h3 c m).trans (h6 c m)⟩
theorem zk4 {s s':St} (h:∀ r cs',s'.root r=some cs'->∃ cs,s.root r=some cs/\cs.length=cs'.length/\∀ c m,SimC m (cs'.getD c .gone) (cs.getD c .gone)):
 ∀ (up:List zbv) (r:Root) (cs':List V),s'.cont r up=some cs'->∃ cs,s.cont r up=some cs/\cs.length=cs'.length/\∀ c m,SimC m (cs'.getD c .gone) (cs.getD c .gone)
 | [],r,cs',hc=>h r cs' hc
 | (i,e,c')::up,r,cs',hc=>by
   obtain ⟨os',xs',ho',hc',hown',hi',rfl⟩:=zaf hc
   obtain ⟨os,h1,h2,h3⟩:=zk4 h up r os' ho'
   obtain ⟨xs,h4,h5,h6⟩:=h3 c' 1 e xs' hown'
   refine ⟨(xs.getD i .gone).cells,?_,(h6 i hi').1,?_⟩
   ·have e1:os[c']? =some (.own e xs):=by rw [List.getElem?_eq_getElem (by omega),<- h4,za3 (by omega)]
    have e2:xs[i]? =some (xs.getD i .gone):=by rw [za3 (by omega),List.getElem?_eq_getElem (by omega)]
    simp only [St.cont,h1,e1,if_true,e2,Option.map_some]
   ·intro c m
    obtain ⟨xs2,h7,_,h8⟩:=h3 c' (m+1) e xs' hown'
    rw [h4] at h7
    cases h7
    exact (h8 i hi').2 c
theorem Gho.place {s s':St} (g:Gho s s') (w:World) (I I':Nat->Prop) (φ:Nat->Nat) (tm:Nat->Value) (r:Root):∀ (up:List zbv) (c:Nat),Cx.place ⟨w,I',φ,tm,s'⟩ r up c=Cx.place ⟨w,I,φ,tm,s⟩ r up c
 | [],c=>by
   cases r with
   | var i=>exact g.pc i (tm i) c
   | box k=>rfl
 | (i,e,c')::up,c=>by
   simp only [Cx.place,Gho.place g w I I' φ tm r up c']
variable {B:Base} {x:Cx} {FV FC:Nat->Nat->List Nat} {FX:List Nat}
theorem yc6 (h:SR B x FV FC FX) {r:Root} {rs:List V} {c0 d:Nat} {y0:V} (hr:x.st.root r=some rs) (hc0:c0<rs.length) (hy:y0.leaf=true)
 (hs:∀ m,SimC m y0 (rs.getD c0 .gone)):Gho x.st (x.st.turn r c0 y0 d):=by
 have hst:=zbf r c0 d
 have hvr:∀ i,r=.var i->i<x.st.vars.length/\rs=(x.st.vars.getD i .gone).cells:=by
  intro i e;subst e
  rcases za6 hr with ⟨j,e,hj,h1⟩|⟨k,e,_⟩
  ·cases e;exact ⟨hj,h1⟩
  ·cases e
 have hbr:∀ k,r=.box k->k<x.st.boxes.length/\rs=x.st.boxes.getD k []:=by
  intro k e;subst e
  rcases za6 hr with ⟨j,e,_⟩|⟨j,e,hj,h1⟩
  ·cases e
  ·cases e;exact ⟨hj,h1⟩
 have hsetleaf:∀ i,r=.var i->∀ y∈(x.st.vars.getD i .gone).cells.set c0 y0,y.leaf=true:=by
  intro i e y hy'
  rcases List.mem_or_eq_of_mem_set hy' with h1|h1
  ·exact h.leafs (hvr i e).1 y h1
  ·subst h1;exact hy
 have hkS:∀ m z,SimC m (V.kill1 r c0 d z) z:=by
  intro m z
  rcases hst.or z with hk|hk
  ·rw [hk];exact .refl _ _
  ·rw [hk]
   cases m with
   | zero=>trivial
   | succ m=>intro e xs hz;cases hz
 refine ⟨zaw _ _ _ _ _,zao _ _ _ _ _,?_,zk4 ?_⟩
 ·intro i v c
  by_cases hi:i<x.st.vars.length
  ·rw [zcx _ _ _ _ _ hi,zb3 hst]
   split
   ·rename_i e;exact zf6 (by simp) (hsetleaf i e) _ _
   ·rfl
  ·rw [zai (by rw [zaw];exact hi),zai hi]
 ·intro r2 cs' hcs
  rcases za6 hcs with ⟨i,rfl,hi,rfl⟩|⟨k,rfl,hk,rfl⟩
  ·rw [zaw] at hi
   refine ⟨_,zbo hi,?_,?_⟩
   ·rw [zcx _ _ _ _ _ hi,zae hst,List.length_map]
    split
    ·rename_i e;rw [zdq (by simp) (hsetleaf i e) (h.leafs hi)];simp
    ·rfl
   ·intro c m
    rw [zcx _ _ _ _ _ hi,zae hst,zas _ rfl]
    refine (hkS m _).trans ?_
    split
    ·rename_i e
     rw [zdq (by simp) (hsetleaf i e) (h.leafs hi)]
     by_cases hc:c<(x.st.vars.getD i .gone).cells.length
     ·rw [zal _ _ hc]
      by_cases hcc:c=c0
      ·subst hcc;rw [if_pos rfl,<- (hvr i e).2];exact hs m
      ·rw [if_neg hcc];exact .refl _ _
     ·rw [zai (by simpa using hc),zai hc];exact .refl _ _
    ·exact .refl _ _
  ·rw [zao] at hk
   refine ⟨_,zbl hk,?_,?_⟩
   ·rw [zec _ _ _ _ _ hk];split <;> simp
   ·intro c m
    rw [zec _ _ _ _ _ hk]
    split
    ·rename_i e
     by_cases hc:c<(x.st.boxes.getD k []).length
     ·rw [zal _ _ hc]
      by_cases hcc:c=c0
      ·subst hcc;rw [if_pos rfl,<- (hbr k e).2];exact hs m
      ·rw [if_neg hcc];exact .refl _ _
     ·rw [zai (by simpa using hc),zai hc];exact .refl _ _
    ·exact .refl _ _
end Go.Pm
namespace Go.Pm
theorem zbm {w I v y F} (h:VR w I v y F):y.mark=false:=by cases h <;> rfl
theorem zdg {r c0 d y} (h:y.mark=false):V.kill1 r c0 d y=y:=by cases y <;> first|rfl|cases h
theorem zba {s:St} {r c up v} (h:s.get r c up=some v):∃ cs,s.cont r up=some cs/\c<cs.length/\cs.getD c .gone=v:=by
 simp only [St.get] at h
 cases hc:s.cont r up with
 | none=>rw [hc] at h;cases h
 | some cs=>
   rw [hc] at h
   simp only [Option.bind_some] at h
   obtain ⟨h1,h2⟩:=List.getElem?_eq_some_iff.1 h
   exact ⟨cs,rfl,h1,by rw [za3 h1,h2]⟩
theorem zig {s:St} {r:Root}:∀ (up:List zbv) (cs:List V) (c:Nat),s.cont r up=some cs->c<cs.length->(up=[]->∃ e xs,cs.getD c .gone=.own e xs)->
 ∃ rs,s.root r=some rs/\rootCell c up<rs.length/\∃ e xs,rs.getD (rootCell c up) .gone=.own e xs
 | [],cs,c,hc,hlt,h=>⟨cs,hc,hlt,h rfl⟩
 | (i,e,c')::up,cs,c,hc,_,_=>by
   obtain ⟨os,xs,ho,hc',hown,_⟩:=zaf hc
   exact zig up os c' ho hc' fun _=>⟨e,xs,hown⟩
variable {B:Base} {x:Cx} {FV FC:Nat->Nat->List Nat} {FX:List Nat}
theorem SR.ghost (h:SR B x FV FC FX) {r:Root} {c e:Nat} {up:List zbv} {xs:List V} (hget:x.st.get r c up=some (.own e xs)):
 ∃ F,VR x.w x.I (x.place r up c) (.own e xs) F/\(∀ b,F.count b+FX.count b<=zar x.st x.φ FV FC FX b)/\
   ∀ (I':Nat->Prop) (y:V) (G FX':List Nat) (st':St),x.st.put r c up y=some st'->y.leaf=true->VR x.w I' (x.place r up c) y G->
     (∀ b,x.I b->I' b)->(∀ b,I' b->x.I b\/0<F.count b+FX.count b)->(∀ b,I' b->b<x.w.heap.size)->(∀ b,I' b->G.count b+FX'.count b=0)->
     (∀ b,G.count b+FX'.count b<=F.count b+FX.count b)->
     ∃ FV' FC',SR B ⟨x.w,I',x.φ,x.tm,st'.kill r (rootCell c up) up.length⟩ FV' FC' FX'/\((∀ m,SimC m y (.own e xs))->Gho x.st (st'.kill r (rootCell c up) up.length))/\
       ∀ v z F,z.mark=true->V.kill1 r (rootCell c up) up.length z=z->x.LR1 v z F->Cx.LR1 ⟨x.w,I',x.φ,x.tm,st'.kill r (rootCell c up) up.length⟩ v z F:=by
 obtain ⟨cs,hcs,hlt,hown⟩:=zba hget
 obtain ⟨F,hL,hF,hput⟩:=h.inner r up cs hcs c hlt
 rw [hown] at hL
 have hV:VR x.w x.I (x.place r up c) (.own e xs) F:=hL
 obtain ⟨rs,hrs,hrc,hro⟩:=zig up cs c hcs hlt fun _=>⟨e,xs,hown⟩
 refine ⟨F,hV,fun b=> ?_,?_⟩
 ·have h1:=zek (FX:=FX) (FV:=FV) (FC:=FC) r rs hrs _ hrc b
  have h2:=hF b
  omega
 ·intro I' y G FX' st' hp hy hv hI hIn hIl hI0 hcnt
  obtain ⟨rs',y0,G0,h1,h2,h3,h4,h5,h6,h7,h8⟩:=hput x.w I' y G st' hp hy hv (fun _ _ _=>rfl) hI
  rw [hrs] at h1
  cases h1
  have hsim:=h7 0 trivial
  simp only [Nat.add_zero] at hsim
  have hk:=zdg (r:=r) (c0:=rootCell c up) (d:=up.length) (zbm h5)
  have hst:st'.kill r (rootCell c up) up.length=x.st.turn r (rootCell c up) y0 up.length:=by rw [h3];simp only [St.turn,hrs,Option.getD_some]
  have hvar:∀ i,r=.var i->(∃ e xs,rs.getD (rootCell c up) .gone=.own e xs)\/(x.st.vars.getD i .gone=.gone->zbk (x.tm i) y0):=fun _ _=>.inl hro
  have hRF:=fun b=>zek (FX:=FX) (FV:=FV) (FC:=FC) r rs hrs _ hrc b
  rw [hst]
  have hmarks:=h.marks hrs hrc h4 hk hvar hsim hI (fun _ _=>rfl) (fun _ _ _ _ _ _ _ _=>rfl) (fun _ _ _ _=>rfl) (fun _ _ _ _ _ _ _ _ _ _ _ _ _ _ _ _ _=>rfl)
  refine ⟨zf2 FV r (rootCell c up) G0,zem FC r (rootCell c up) G0,?_,fun hs=>yc6 h hrs hrc h4 (h8 (by rw [hown];exact hs)),hmarks⟩
  refine h.turn (FX':=FX') (G0:=G0) hrs hrc h4 hk hvar ?_ ?_ (fun k e c hc=>rfl) ?_ (fun b hb _ _=>rfl) (.refl _) hI ?_ hIl ?_ ?_ ?_ ?_
  ·have:x.nrv x.w r (rootCell c up)=x.rv r (rootCell c up):=by cases r <;> rfl
   rw [this]
   exact za8 h5 h4
  ·intro k e hm
   rw [zbm h5] at hm;cases hm
  ·intro k e;subst e
   rcases za6 hrs with ⟨_,e,_⟩|⟨j,e,hj,h1⟩
   ·cases e
   ·cases e;rw [h1];exact h.box k hj
  ·intro b hb
   rcases hIn b hb with h8|h8
   ·exact .inl h8
   ·have:=hF b;exact .inr (.inl (by omega))
  ·intro b hb
   have e1:=hI0 b hb;have e2:=h6 b;have e3:=h.one b;have e4:=hRF b;have e5:=hF b
   rcases hIn b hb with h8|h8
   ·have:=h.apart b h8;omega
   ·omega
  ·intro b _
   have e1:=hcnt b;have e2:=h6 b;have e5:=hF b;omega
  ·intro b hb
   have e1:=hcnt b;have e2:=h6 b;have e5:=hF b;have e3:=h.one b;have e4:=hRF b;omega
  ·exact hmarks
end Go.Pm
namespace Go.Pm
theorem zeo {w:World} {I:Nat->Prop} {h:Value} {e:Nat} {xs:List V} {F:List Nat} (hV:VR w I h (.own e xs) F) (hne:0<xs.length):
 ∃ a n cap,h=.slice (some a) n cap/\a.block∈F/\∃ Fs:Nat->Nat->List Nat,
   (∀ i c,i<xs.length->c<(xs.getD i .gone).cells.length->VR w I (zad w a.block (a.off+i * e+c)) (elt xs i c) (Fs i c)/\(elt xs i c).leaf=true/\∀ b,(Fs i c).count b+(if b=a.block then 1 else 0)<=F.count b)/\
   (∀ i c j c2,i<xs.length->c<(xs.getD i .gone).cells.length->j<xs.length->c2<(xs.getD j .gone).cells.length->(i≠j\/c≠c2)->∀ b,(Fs i c).count b+(Fs j c2).count b<=F.count b):=by
 cases hV with
 | own0=>cases hne
 | own a cap _ _ vs Fs hs he hz hl hb hcs hf hr=>
   refine ⟨a,_,cap,rfl,by simp,fun i c=>Fs (i * e+c),?_,?_⟩
   ·intro i c hi hc
    rw [ze6 hz hi] at hc
    have hq:=zca hi hc
    refine ⟨?_,zeb hf hz hi hc,fun b=> ?_⟩
    ·have h1:zad w a.block (a.off+i * e+c)=vs (i * e+c):=by simp only [zad,Nat.add_assoc];rw [hcs _ hq];rfl
     rw [h1];exact hr i c hi hc
    ·rw [List.count_cons,za2]
     have:=zat hq Fs b
     by_cases hba:b=a.block
     ·subst hba;simp;omega
     ·have:(a.block == b)=false:=by simp;exact fun e=>hba e.symm
      simp [hba,this];omega
   ·intro i c j c2 hi hc hj hc2 hne b
    rw [ze6 hz hi] at hc
    rw [ze6 hz hj] at hc2
    have hq1:=zca hi hc
    have hq2:=zca hj hc2
    have hqe:i * e+c≠j * e+c2:=by
     intro h
     have h1:(i * e+c) / e=i:=by rw [Nat.add_comm,Nat.mul_comm,Nat.add_mul_div_left _ _ he,Nat.div_eq_of_lt hc];omega
     have h2:(j * e+c2) / e=j:=by rw [Nat.add_comm,Nat.mul_comm,Nat.add_mul_div_left _ _ he,Nat.div_eq_of_lt hc2];omega
     have:i=j:=by rw [<- h1,<- h2,h]
     subst this
     rcases hne with hne|hne
     ·exact hne rfl
     ·omega
    have:=zeu hq1 hq2 hqe Fs b
    show (Fs (i * e+c)).count b+(Fs (j * e+c2)).count b<=_
    rw [List.count_cons,za2]
    omega
variable {B:Base} {x:Cx} {FV FC:Nat->Nat->List Nat} {FX:List Nat}
theorem SR.sib (h:SR B x FV FC FX) (r:Root):∀ (up up2:List zbv) (cs cs2:List V) (c c2:Nat),up.length=up2.length->x.st.cont r up=some cs->x.st.cont r up2=some cs2->c<cs.length->c2<cs2.length->
 (up≠up2\/c≠c2)->∃ F F2,x.LR1 (x.place r up c) (cs.getD c .gone) F/\x.LR1 (x.place r up2 c2) (cs2.getD c2 .gone) F2/\(∀ b,F.count b+F2.count b<=1)/\
  (∀ b,F.count b<=(RF FV FC r (rootCell c up)).count b)
 | [],[],cs,cs2,c,c2,_,hc,hc2,hlt,hlt2,hne=>by
   simp only [St.cont] at hc hc2
   rw [hc] at hc2
   cases hc2
   have hcc:c≠c2:=hne.resolve_left (by simp)
   have two:=fun b=>h.two hc hc hlt hlt2 (.inr hcc) b
   rcases za6 hc with ⟨i,rfl,hi,rfl⟩|⟨k,rfl,hk,rfl⟩
   ·exact ⟨FV i c,FV i c2,h.vars i hi c hlt,h.vars i hi c2 hlt2,fun b=>by have:=two b;simp only [RF] at this;omega,fun _=>Nat.le_refl _⟩
   ·exact ⟨FC k c,FC k c2,h.boxes k hk c hlt,h.boxes k hk c2 hlt2,fun b=>by have:=two b;simp only [RF] at this;omega,fun _=>Nat.le_refl _⟩
 | (i,e,c')::up,(j,e2,c2')::up2,cs,cs2,c,c2,hl,hc,hc2,hlt,hlt2,hne=>by
   obtain ⟨os,xs,ho,hc',hown,hi,rfl⟩:=zaf hc
   obtain ⟨os2,ys,ho2,hc2',hown2,hj,rfl⟩:=zaf hc2
   by_cases hpar:up=up2/\c'=c2'
   ·obtain ⟨rfl,rfl⟩:=hpar
    rw [ho] at ho2
    cases ho2
    rw [hown] at hown2
    cases hown2
    obtain ⟨F,hL,hF,rs,hrs,hrc⟩:=h.at r up os ho c' hc'
    rw [hown] at hL
    have hV:VR x.w x.I (x.place r up c') (.own e xs) F:=hL
    obtain ⟨a,n,cap,hp,_,Fs,h1,h2⟩:=zeo hV (by omega)
    obtain ⟨k1,k2,k3⟩:=h1 i c hi hlt
    obtain ⟨l1,l2,l3⟩:=h1 j c2 hj hlt2
    have hne':i≠j\/c≠c2:=by
     rcases hne with hne|hne
     ·left;intro e;subst e;exact hne rfl
     ·exact .inr hne
    refine ⟨Fs i c,Fs j c2,?_,?_,fun b=> ?_,fun b=> ?_⟩
    ·have:x.place r ((i,e,c')::up) c=zad x.w a.block (a.off+i * e+c):=by simp only [Cx.place,hp]
     rw [this];exact za8 k1 k2
    ·have:x.place r ((j,e,c')::up) c2=zad x.w a.block (a.off+j * e+c2):=by simp only [Cx.place,hp]
     rw [this];exact za8 l1 l2
    ·have e1:=h2 i c j c2 hi hlt hj hlt2 hne' b
     have e2:=hF b
     have e3:=zek (FX:=FX) (FV:=FV) (FC:=FC) r rs hrs _ hrc b
     have e4:=h.one b
     omega
    ·have e1:=k3 b
     have e2:=hF b
     simp only [rootCell];omega
   ·obtain ⟨F,F2,hL,hL2,hdis,hF⟩:=SR.sib h r up up2 os os2 c' c2' (by simpa using hl) ho ho2 hc' hc2' (by
     by_cases e:up=up2
     ·right;exact fun e'=>hpar ⟨e,e'⟩
     ·exact .inl e)
    rw [hown] at hL
    rw [hown2] at hL2
    have hV:VR x.w x.I (x.place r up c') (.own e xs) F:=hL
    have hV2:VR x.w x.I (x.place r up2 c2') (.own e2 ys) F2:=hL2
    obtain ⟨a,n,cap,hp,_,Fs,h1,_⟩:=zeo hV (by omega)
    obtain ⟨a2,n2,cap2,hp2,_,Fs2,h12,_⟩:=zeo hV2 (by omega)
    obtain ⟨k1,k2,k3⟩:=h1 i c hi hlt
    obtain ⟨l1,l2,l3⟩:=h12 j c2 hj hlt2
    refine ⟨Fs i c,Fs2 j c2,?_,?_,fun b=> ?_,fun b=> ?_⟩
    ·have:x.place r ((i,e,c')::up) c=zad x.w a.block (a.off+i * e+c):=by simp only [Cx.place,hp]
     rw [this];exact za8 k1 k2
    ·have:x.place r ((j,e2,c2')::up2) c2=zad x.w a2.block (a2.off+j * e2+c2):=by simp only [Cx.place,hp2]
     rw [this];exact za8 l1 l2
    ·have e1:=k3 b;have e2:=l3 b;have e3:=hdis b;omega
    ·have e1:=k3 b;have e2:=hF b;simp only [rootCell];omega
 | [],_::_,_,_,_,_,h,_,_,_,_,_=>by simp at h
 | _::_,[],_,_,_,_,h,_,_,_,_,_=>by simp at h
theorem SR.below (r:Root) {upA:List zbv} {cA i0 e0:Nat} {xsA osA:List V} {FA:List Nat} (hoA:x.st.cont r upA=some osA) (hownA:osA.getD cA .gone=.own e0 xsA) (hVA:VR x.w x.I (x.place r upA cA) (.own e0 xsA) FA) (hone:∀ b,FA.count b<=1):
 ∀ (pre:List zbv) (cs:List V) (c:Nat),x.st.cont r (pre++(i0,e0,cA)::upA)=some cs->c<cs.length->
   ∃ F,x.LR1 (x.place r (pre++(i0,e0,cA)::upA) c) (cs.getD c .gone) F/\(∀ b,F.count b<=FA.count b)/\∀ a n cap,x.place r upA cA=.slice (some a) n cap->a.block ∉ F
 | [],cs,c,hc,hlt=>by
   obtain ⟨os,xs,ho,hc',hown,hi,rfl⟩:=zaf hc
   rw [hoA] at ho
   cases ho
   rw [hownA] at hown
   cases hown
   obtain ⟨a,n,cap,hp,_,Fs,h1,_⟩:=zeo hVA (by omega)
   obtain ⟨k1,k2,k3⟩:=h1 i0 c hi hlt
   refine ⟨Fs i0 c,?_,fun b=>by have:=k3 b;omega,?_⟩
   ·have:x.place r ([]++(i0,e0,cA)::upA) c=zad x.w a.block (a.off+i0 * e0+c):=by simp only [List.nil_append,Cx.place,hp]
    rw [this];exact za8 k1 k2
   ·intro a' n' cap' hp'
    rw [hp] at hp'
    cases hp'
    intro hm
    have e1:=k3 a.block
    have e2:=hone a.block
    have e3:0<(Fs i0 c).count a.block:=List.count_pos_iff.2 hm
    simp at e1;omega
 | (i,e,c')::pre,cs,c,hc,hlt=>by
   obtain ⟨os,xs,ho,hc',hown,hi,rfl⟩:=zaf hc
   obtain ⟨F,hL,hF,hnot⟩:=SR.below r hoA hownA hVA hone pre os c' ho hc'
   rw [hown] at hL
   have hV:VR x.w x.I (x.place r (pre++(i0,e0,cA)::upA) c') (.own e xs) F:=hL
   obtain ⟨a,n,cap,hp,_,Fs,h1,_⟩:=zeo hV (by omega)
   obtain ⟨k1,k2,k3⟩:=h1 i c hi hlt
   refine ⟨Fs i c,?_,fun b=>by have e1:=k3 b;have e2:=hF b;omega,?_⟩
   ·have:x.place r ((i,e,c')::pre++(i0,e0,cA)::upA) c=zad x.w a.block (a.off+i * e+c):=by
     simp only [List.cons_append,Cx.place,hp]
    rw [this];exact za8 k1 k2
   ·intro a' n' cap' hp' hm
    refine hnot a' n' cap' hp' (List.count_pos_iff.1 ?_)
    have e1:=k3 a'.block
    have e3:0<(Fs i c).count a'.block:=List.count_pos_iff.2 hm
    omega
theorem zbq {w I h e xs F} (hV:VR w I h (.own e xs) F) {a n cap} (hp:h=.slice (some a) n cap):a.block∈F:=by
 subst hp;cases hV;simp
theorem zk8 {s:St} {r:Root}:∀ (pre up:List zbv) (cs:List V),s.cont r (pre++up)=some cs->∃ cs',s.cont r up=some cs'
 | [],_,cs,h=>⟨cs,h⟩
 | (i,e,c')::pre,up,cs,h=>by
   obtain ⟨os,_,ho,_⟩:=zaf h
   exact zk8 pre up os ho
theorem SR.heads (h:SR B x FV FC FX) {r r2:Root} {up up2:List zbv} {cs cs2:List V} {c c2 e e2:Nat} {xs xs2:List V} {a a2:Addr} {n n2 cap cap2:Nat}
 (hc:x.st.cont r up=some cs) (hlt:c<cs.length) (hown:cs.getD c .gone=.own e xs) (hp:x.place r up c=.slice (some a) n cap)
 (hc2:x.st.cont r2 up2=some cs2) (hlt2:c2<cs2.length) (hown2:cs2.getD c2 .gone=.own e2 xs2) (hp2:x.place r2 up2 c2=.slice (some a2) n2 cap2)
 (hne:r≠r2\/up≠up2\/c≠c2):a.block≠a2.block:=by
 have main:∀ {r:Root} {up up2:List zbv} {cs cs2:List V} {c c2 e e2:Nat} {xs xs2:List V} {a a2:Addr} {n n2 cap cap2:Nat},
  x.st.cont r up=some cs->c<cs.length->cs.getD c .gone=.own e xs->x.place r up c=.slice (some a) n cap->
  x.st.cont r up2=some cs2->c2<cs2.length->cs2.getD c2 .gone=.own e2 xs2->x.place r up2 c2=.slice (some a2) n2 cap2->
  up2.length<up.length->a.block≠a2.block:=by
  intro r up up2 cs cs2 c c2 e e2 xs xs2 a a2 n n2 cap cap2 hc hlt hown hp hc2 hlt2 hown2 hp2 hl
  have hsplit:∃ pre i0 e0 cA upA,up=pre++(i0,e0,cA)::upA/\upA.length=up2.length:=by
   have h1:up.drop (up.length - up2.length - 1) ≠ []:=by intro h;have:=congrArg List.length h;simp at this;omega
   cases hd:up.drop (up.length - up2.length - 1) with
   | nil=>exact absurd hd h1
   | cons s upA=>
     obtain ⟨i0,e0,cA⟩:=s
     refine ⟨up.take (up.length - up2.length - 1),i0,e0,cA,upA,?_,?_⟩
     ·rw [<- hd,List.take_append_drop]
     ·have:=congrArg List.length hd;simp at this;omega
  obtain ⟨pre,i0,e0,cA,upA,rfl,hlA⟩:=hsplit
  obtain ⟨csA1,hcA1⟩:=zk8 pre _ cs hc
  obtain ⟨osA,xsA,hoA,hcA,hownA,hiA,_⟩:=zaf hcA1
  have below:∀ FA,x.LR1 (x.place r upA cA) (osA.getD cA .gone) FA->(∀ b,FA.count b<=1)->∃ F,x.LR1 (x.place r (pre++(i0,e0,cA)::upA) c) (cs.getD c .gone) F/\(∀ b,F.count b<=FA.count b)/\
   ∀ a n cap,x.place r upA cA=.slice (some a) n cap->a.block ∉ F:=by
   intro FA hLA hone
   rw [hownA] at hLA
   exact SR.below r hoA hownA hLA hone pre cs c hc hlt
  by_cases hA:upA=up2/\cA=c2
  ·obtain ⟨rfl,rfl⟩:=hA
   rw [hc2] at hoA
   cases hoA
   obtain ⟨FA,hLA,hFA,rs,hrs,hrc⟩:=h.at r upA cs2 hc2 cA hlt2
   obtain ⟨F,hL,_,hnot⟩:=below FA hLA (fun b=>by
    have e2:=hFA b;have e3:=zek (FX:=FX) (FV:=FV) (FC:=FC) r rs hrs _ hrc b;have e4:=h.one b;omega)
   rw [hown] at hL
   have hm:=zbq (show VR x.w x.I _ (.own e xs) F from hL) hp
   intro e
   exact hnot a2 n2 cap2 hp2 (e ▸ hm)
  ·obtain ⟨FA,F2,hLA,hL2,hdis,_⟩:=h.sib r upA up2 osA cs2 cA c2 hlA hoA hc2 hcA hlt2 (by
    by_cases e:upA=up2
    ·right;exact fun e'=>hA ⟨e,e'⟩
    ·exact .inl e)
   obtain ⟨F,hL,hle,_⟩:=below FA hLA (fun b=>by have:=hdis b;omega)
   rw [hown] at hL
   rw [hown2] at hL2
   have hm:=zbq (show VR x.w x.I _ (.own e xs) F from hL) hp
   have hm2:=zbq (show VR x.w x.I _ (.own e2 xs2) F2 from hL2) hp2
   intro e
   rw [<- e] at hm2
   have e1:=hdis a.block;have e2:=hle a.block
   have e3:0<F.count a.block:=List.count_pos_iff.2 hm
   have e4:0<F2.count a.block:=List.count_pos_iff.2 hm2
   omega
 by_cases hr:r=r2
 ·subst hr
  by_cases hl:up.length=up2.length
  ·obtain ⟨F,F2,hL,hL2,hdis,_⟩:=h.sib r up up2 cs cs2 c c2 hl hc hc2 hlt hlt2 (hne.resolve_left (by simp))
   rw [hown] at hL
   rw [hown2] at hL2
   have hm:=zbq (show VR x.w x.I _ (.own e xs) F from hL) hp
   have hm2:=zbq (show VR x.w x.I _ (.own e2 xs2) F2 from hL2) hp2
   intro e
   rw [<- e] at hm2
   have e1:=hdis a.block
   have e3:0<F.count a.block:=List.count_pos_iff.2 hm
   have e4:0<F2.count a.block:=List.count_pos_iff.2 hm2
   omega
  ·rcases Nat.lt_or_ge up2.length up.length with hlt'|hge
   ·exact main hc hlt hown hp hc2 hlt2 hown2 hp2 hlt'
   ·exact (main hc2 hlt2 hown2 hp2 hc hlt hown hp (by omega)).symm
 ·obtain ⟨F,hL,hF,rs,hrs,hrc⟩:=h.at r up cs hc c hlt
  obtain ⟨F2,hL2,hF2,rs2,hrs2,hrc2⟩:=h.at r2 up2 cs2 hc2 c2 hlt2
  rw [hown] at hL
  rw [hown2] at hL2
  have hm:=zbq (show VR x.w x.I _ (.own e xs) F from hL) hp
  have hm2:=zbq (show VR x.w x.I _ (.own e2 xs2) F2 from hL2) hp2
  intro e
  rw [<- e] at hm2
  have e1:=h.two hrs hrs2 hrc hrc2 (.inl hr) a.block
  have e2:=hF a.block;have e5:=hF2 a.block
  have e3:0<F.count a.block:=List.count_pos_iff.2 hm
  have e4:0<F2.count a.block:=List.count_pos_iff.2 hm2
  omega
end Go.Pm
namespace Go.Pm
variable {B:Base} {x x':Cx} {FV FC:Nat->Nat->List Nat} {FX:List Nat}
def zbe (K:Root->Prop):V->Prop
 | .ref r _ _=>K r
 | .hd _ r _ _ _ _=>K r
 | .fn _ caps=>∀ i k,i<caps.length->caps.getD i .gone=.ref (.box k) 0 []->K (.box k)
 | _=>True
theorem zc2 {z:V}:zbe (fun _=>True) z:=by cases z <;> simp [zbe]
structure Moves (x x':Cx) (K:Root->Prop):Prop where
 root:∀ r,K r->∀ cs,x.st.root r=some cs->∃ cs',x'.st.root r=some cs'/\cs'.length=cs.length/\
  ∀ (c e:Nat) (xs:List V),c<cs.length->cs.getD c .gone=.own e xs->cs'.getD c .gone=.own e xs
 rv:∀ r,K r->∀ cs,x.st.root r=some cs->∀ c,c<cs.length->x'.rv r c=x.rv r c
 phi:∀ k,K (.box k)->x'.φ k=x.φ k
 I:∀ b,x.I b->x'.I b
 heap:∀ b,b<x.w.heap.size->x'.w.heap[b]? =x.w.heap[b]?
theorem Moves.cont {K} (m:Moves x x' K):∀ (up:List zbv) (r:Root) (cs:List V),K r->x.st.cont r up=some cs->
 ∃ cs',x'.st.cont r up=some cs'/\cs'.length=cs.length/\∀ (c e:Nat) (xs:List V),c<cs.length->cs.getD c .gone=.own e xs->cs'.getD c .gone=.own e xs
 | [],r,cs,hk,h=>m.root r hk cs h
 | (i,e,c')::up,r,cs,hk,h=>by
   obtain ⟨os,xs,ho,hc',hown,hi,rfl⟩:=zaf h
   obtain ⟨os',h1,h2,h3⟩:=Moves.cont m up r os hk ho
   have h4:=h3 c' e xs hc' hown
   have hc'':c'<os'.length:=by omega
   refine ⟨(xs.getD i .gone).cells,?_,rfl,fun _ _ _ _ h=>h⟩
   have e1:os'[c']? =some (.own e xs):=by rw [List.getElem?_eq_getElem hc'',<- h4,za3 hc'']
   have e2:xs[i]? =some (xs.getD i .gone):=by rw [za3 hi,List.getElem?_eq_getElem hi]
   simp only [St.cont,h1,e1,if_true,e2,Option.map_some]
theorem Moves.place {K} (h:SR B x FV FC FX) (m:Moves x x' K):∀ (up:List zbv) (r:Root) (cs:List V),K r->x.st.cont r up=some cs->∀ c,c<cs.length->x'.place r up c=x.place r up c
 | [],r,cs,hk,hc,c,hlt=>m.rv r hk cs hc c hlt
 | (i,e,c')::up,r,cs,hk,hc,c,hlt=>by
   obtain ⟨os,xs,ho,hc',hown,hi,rfl⟩:=zaf hc
   have h1:=Moves.place h m up r os hk ho c' hc'
   simp only [Cx.place,h1]
   obtain ⟨F,hL,_⟩:=h.at r up os ho c' hc'
   rw [hown] at hL
   have hV:VR x.w x.I (x.place r up c') (.own e xs) F:=hL
   generalize x.place r up c'=pv at hV
   cases hV with
   | own0=>cases hi
   | own a cap _ _ vs Fs hs he hz hl hb hcs hf hr=>
     obtain ⟨ds,E,lo,hi',h1,_⟩:=hb
     have hsz:=(Array.getElem?_eq_some_iff.1 h1).1
     simp only [zad,World.cell?,m.heap _ hsz]
theorem Moves.heapI {K} (h:SR B x FV FC FX) (m:Moves x x' K):∀ b,x.I b->x'.w.heap[b]? =x.w.heap[b]? :=fun b hb=>m.heap b (h.ilt b hb)
theorem LR1.move {K} (h:SR B x FV FC FX) (m:Moves x x' K) {v z F} (hF:∀ b∈F,b<x.w.heap.size) (hk:zbe K z) (hL:x.LR1 v z F):x'.LR1 v z F:=by
 refine LR1.keep hL ?_ m.I (m.heapI h) fun b hb=>m.heap b (hF b hb)
 intro hm
 cases z with
 | ref r c up=>
   cases up with
   | nil=>
     obtain ⟨h1,k,cs,rfl,h3,h4⟩:=hL
     obtain ⟨cs',h5,_⟩:=m.root (.box k) hk cs h3
     exact ⟨h1,k,cs',rfl,h5,by rw [m.phi k hk];exact h4⟩
   | cons s up=>
     obtain ⟨i,e,c'⟩:=s
     obtain ⟨h1,⟨cs,h2⟩,a,n,cap,h3,h4⟩:=hL
     obtain ⟨cs',h5,_⟩:=m.cont _ r cs hk h2
     obtain ⟨os,xs,ho,hc',_⟩:=zaf h2
     exact ⟨h1,⟨cs',h5⟩,a,n,cap,(m.place h up r os hk ho c' hc').trans h3,h4⟩
 | hd e r c up lo hi=>
   obtain ⟨h1,xs,h2,h3⟩:=hL
   obtain ⟨cs,hcs,hlt,hown⟩:=zba h2
   obtain ⟨cs',h5,h6,h7⟩:=m.cont up r cs hk hcs
   refine ⟨h1,xs,?_,by rw [m.place h up r cs hk hcs c hlt];exact h3⟩
   have h8:=h7 c e xs hlt hown
   simp only [St.get,h5,Option.bind_some]
   rw [List.getElem?_eq_getElem (by omega),<- h8,za3 (by omega)]
 | eptr cs c=>
   obtain ⟨h1,b,o,h2,h3,vs,h4⟩:=hL
   refine ⟨h1,b,o,h2,m.I b h3,vs,fun j hj=> ?_⟩
   obtain ⟨h5,h6⟩:=h4 j hj
   refine ⟨?_,h6.1.keep m.I (m.heapI h) (by simp),h6.2⟩
   rw [<- h5];simp [World.cell?,m.heapI h b h3]
 | fn f caps=>
   obtain ⟨h1,cs,h2,h3,h4⟩:=hL
   refine ⟨h1,cs,h2,h3,fun i k hi hc=> ?_⟩
   obtain ⟨⟨b,h5⟩,h6⟩:=h4 i k hi hc
   obtain ⟨cs',h7,_⟩:=m.root (.box k) (hk i k hi hc) b h5
   exact ⟨⟨cs',h7⟩,by rw [m.phi k (hk i k hi hc)];exact h6⟩
 | _=>cases hm
theorem LR1.lt {v z F} (hL:x.LR1 v z F):∀ b∈F,b<x.w.heap.size:=by
 intro b hb
 by_cases h1:z.mark=true
 ·rw [zck hL h1] at hb;cases hb
 ·by_cases h2:z=.gone
  ·subst h2;rw [show F=[] from hL] at hb;cases hb
  ·exact (zbs hL (by simpa using h1) h2).lt b hb
structure Pend (x:Cx) (val:Value) (v:V) (G:Nat->List Nat):Prop where
 shape:zbk val v
 cells:∀ c,c<v.cells.length->x.LR1 (zac val v c) (v.cells.getD c .gone) (G c)
def St.push (s:St) (v:V):St:={ s with vars:=s.vars ++ [v] }
def Cx.push (x:Cx) (val:Value) (v:V):Cx:={ x with tm:=upd x.tm x.st.vars.length val,st:=x.st.push v }
theorem zfc {s:St} {v:V} {i:Nat} (h:i<s.vars.length):(s.push v).vars.getD i .gone=s.vars.getD i .gone:=by
 simp [St.push,List.getD,List.getElem?_append_left h]
theorem zif {s:St} {v:V}:(s.push v).vars.getD s.vars.length .gone=v:=by simp [St.push,List.getD]
theorem zih {s:St} {v:V}:(s.push v).vars.length=s.vars.length+1:=by simp [St.push]
theorem zvt (val:Value) (v:V):Moves x (x.push val v) (fun _=>True):=by
 refine ⟨?_,?_,fun _ _=>rfl,fun _ h=>h,fun _ _=>rfl⟩
 ·intro r _ cs hcs
  refine ⟨cs,?_,rfl,fun _ _ _ _ h=>h⟩
  rcases za6 hcs with ⟨i,rfl,hi,rfl⟩|⟨k,rfl,hk,rfl⟩
  ·show (x.st.push v).root (.var i)=_
   rw [zbo (by rw [zih];omega),zfc hi]
  ·exact hcs
 ·intro r _ cs hcs c _
  rcases za6 hcs with ⟨i,rfl,hi,rfl⟩|⟨k,rfl,hk,rfl⟩
  ·show zac (upd x.tm x.st.vars.length val i) ((x.st.push v).vars.getD i .gone) c=_
   rw [zfc hi,zam _ _ (by omega)];rfl
  ·rfl
theorem SR.push (h:SR B x FV FC FX) {val v G FX'} (hp:Pend x val v G) (hF:∀ b,(cat v.cells.length G).count b+FX'.count b<=FX.count b):
 SR B (x.push val v) (upd FV x.st.vars.length G) FC FX':=by
 have hm:=zvt (x:=x) val v
 have hheld:∀ b,zar (x.st.push v) x.φ (upd FV x.st.vars.length G) FC FX' b<=zar x.st x.φ FV FC FX b:=by
  intro b
  unfold zar
  rw [zih,zak]
  have e1:tot x.st.vars.length (fun i=>cat ((x.st.push v).vars.getD i .gone).cells.length (upd FV x.st.vars.length G i)) b=
   tot x.st.vars.length (fun i=>cat (x.st.vars.getD i .gone).cells.length (FV i)) b:=zaa b fun i hi=>by rw [zfc hi,zam _ _ (by omega)]
  rw [e1,zif,zaj]
  have:=hF b
  simp only [St.push]
  omega
 refine ⟨?_,?_,h.box,?_,h.bmark,fun b=>Nat.le_trans (hheld b) (h.one b),fun b hb=> ?_,h.ilt,h.keep,h.gr,fun b hb=>h.held b (Nat.lt_of_lt_of_le hb (hheld b)),h.imm,h.new⟩
 ·intro i hi
  have hi':i<x.st.vars.length+1:=by simpa [Cx.push,zih] using hi
  by_cases e:i=x.st.vars.length
  ·subst e;simp only [Cx.push,zaj,zif];exact hp.shape
  ·simp only [Cx.push,zam _ _ e,zfc (show i<x.st.vars.length by omega)];exact h.shape i (by omega)
 ·intro i hi c hc
  have hi':i<x.st.vars.length+1:=by simpa [Cx.push,zih] using hi
  by_cases e:i=x.st.vars.length
  ·subst e
   simp only [Cx.push,zif] at hc
   have:=hp.cells c hc
   simp only [Cx.push,zif,zaj,Cx.rv]
   exact LR1.move h hm (LR1.lt this) zc2 this
  ·have hi2:i<x.st.vars.length:=by omega
   have hc2:c<(x.st.vars.getD i .gone).cells.length:=by simpa only [Cx.push,zfc hi2] using hc
   have:=h.vars i hi2 c hc2
   have hrv:=hm.rv (.var i) trivial _ (zbo hi2) c hc2
   rw [hrv]
   simp only [Cx.push,zfc hi2,zam _ _ e]
   exact LR1.move h hm (LR1.lt this) zc2 this
 ·intro k hk c hc
  have:=h.boxes k hk c hc
  exact LR1.move h hm (LR1.lt this) zc2 this
 ·have:=h.apart b hb
  have:=hheld b
  show zar (x.st.push v) x.φ (upd FV x.st.vars.length G) FC FX' b=0
  omega
theorem SR.forget (h:SR B x FV FC FX) {st':St} {K:Root->Prop} {f:V->V} (hf:Strike f) (hfm:∀ z,f z≠z->z.mark=true) (dead:Nat->Bool)
 (hl:st'.vars.length<=x.st.vars.length) (hbl:st'.boxes.length<=x.st.boxes.length)
 (hv:∀ i,i<st'.vars.length->st'.vars.getD i .gone=if dead i then .gone else V.leafwise f (x.st.vars.getD i .gone))
 (hb:∀ k,k<st'.boxes.length->st'.boxes.getD k []=x.st.boxes.getD k [])
 (hKv:∀ i,K (.var i)->i<x.st.vars.length->i<st'.vars.length/\dead i=false) (hKb:∀ k,K (.box k)->k<x.st.boxes.length->k<st'.boxes.length)
 (hkv:∀ i,i<st'.vars.length->∀ c,zbe K ((st'.vars.getD i .gone).cells.getD c .gone))
 (hkb:∀ k,k<st'.boxes.length->∀ c,zbe K ((st'.boxes.getD k []).getD c .gone)):
 SR B ⟨x.w,x.I,x.φ,x.tm,st'⟩ (fun i=>if dead i then fun _=>[] else FV i) FC FX/\Moves x ⟨x.w,x.I,x.φ,x.tm,st'⟩ K:=by
 have hfo:∀ e xs,f (.own e xs)=.own e xs:=fun e xs=>Classical.byContradiction fun hne=>by have:=hfm _ hne;cases this
 have hcells:∀ i,i<st'.vars.length->dead i=false->(st'.vars.getD i .gone).cells=(x.st.vars.getD i .gone).cells.map f:=by
  intro i hi hd;rw [hv i hi,hd];simp only [Bool.false_eq_true,if_false];exact zae hf _
 have hm:Moves x ⟨x.w,x.I,x.φ,x.tm,st'⟩ K:=by
  refine ⟨?_,?_,fun _ _=>rfl,fun _ h=>h,fun _ _=>rfl⟩
  ·intro r hk cs hcs
   rcases za6 hcs with ⟨i,rfl,hi,rfl⟩|⟨k,rfl,hk',rfl⟩
   ·obtain ⟨h1,h2⟩:=hKv i hk hi
    refine ⟨_,zbo h1,?_,?_⟩
    ·rw [hcells i h1 h2];simp
    ·intro c e xs hc ho
     rw [hcells i h1 h2,zas]
     ·rw [ho,hfo]
     ·rcases hf.or .gone with h|h <;> exact h
   ·refine ⟨_,zbl (hKb k hk hk'),?_,?_⟩
    ·rw [hb k (hKb k hk hk')]
    ·intro c e xs hc ho;rw [hb k (hKb k hk hk')];exact ho
  ·intro r hk cs hcs c hc
   rcases za6 hcs with ⟨i,rfl,hi,rfl⟩|⟨k,rfl,hk',rfl⟩
   ·obtain ⟨h1,h2⟩:=hKv i hk hi
    show zac (x.tm i) (st'.vars.getD i .gone) c=_
    rw [hv i h1,h2]
    simp only [Bool.false_eq_true,if_false]
    exact zb3 hf _ _ _
   ·rfl
 have hheld:∀ b,zar st' x.φ (fun i=>if dead i then fun _=>[] else FV i) FC FX b<=zar x.st x.φ FV FC FX b:=by
  intro b
  unfold zar
  change tot st'.vars.length (fun i=>cat (st'.vars.getD i .gone).cells.length (if dead i then fun _=>[] else FV i)) b+_+_<=_
  have e1:tot st'.vars.length (fun i=>cat (st'.vars.getD i .gone).cells.length (if dead i then fun _=>[] else FV i)) b <=
   tot st'.vars.length (fun i=>cat (x.st.vars.getD i .gone).cells.length (FV i)) b:=by
   have:∀ n,n<=st'.vars.length->tot n (fun i=>cat (st'.vars.getD i .gone).cells.length (if dead i then fun _=>[] else FV i)) b <=
    tot n (fun i=>cat (x.st.vars.getD i .gone).cells.length (FV i)) b:=by
    intro n
    induction n with
    | zero=>intro _;exact Nat.le_refl _
    | succ n ih=>
      intro hn
      rw [zak,zak]
      have h1:=ih (by omega)
      have h2:(cat (st'.vars.getD n .gone).cells.length (if dead n then fun _=>[] else FV n)).count b<=(cat (x.st.vars.getD n .gone).cells.length (FV n)).count b:=by
       cases hd:dead n with
       | true=>
         simp only [if_true]
         have:∀ m,(cat m fun _=>([]:List Nat)).count b=0:=fun m=>by
          induction m with
          | zero=>rfl
          | succ m ih=>rw [zid,List.count_append,ih];rfl
         rw [this];omega
       | false=>
         rw [hcells n (by omega) hd,List.length_map];simp
      omega
   exact this _ (Nat.le_refl _)
  have e2:=zct hl (fun i=>cat (x.st.vars.getD i .gone).cells.length (FV i)) b
  have e3:tot st'.boxes.length (fun k=>x.φ k::cat (st'.boxes.getD k []).length (FC k)) b=tot st'.boxes.length (fun k=>x.φ k::cat (x.st.boxes.getD k []).length (FC k)) b:=
   zaa b fun k hk=>by rw [hb k hk]
  have e4:=zct hbl (fun k=>x.φ k::cat (x.st.boxes.getD k []).length (FC k)) b
  omega
 refine ⟨?_,hm⟩
 refine ⟨?_,?_,?_,?_,?_,fun b=>Nat.le_trans (hheld b) (h.one b),fun b hb'=> ?_,h.ilt,h.keep,h.gr,fun b hb'=>h.held b (Nat.lt_of_lt_of_le hb' (hheld b)),h.imm,h.new⟩
 ·intro i hi
  show zbk (x.tm i) (st'.vars.getD i .gone)
  rw [hv i hi]
  split
  ·trivial
  ·exact zdj hf (h.shape i (Nat.lt_of_lt_of_le hi hl))
 ·intro i hi c hc
  simp only at hi hc
  have hkc:=hkv i hi c
  cases hd:dead i with
  | true=>
    rw [hv i hi,hd] at hc ⊢
    simp only [if_true,V.cells,List.length_singleton] at hc
    have:c=0:=by omega
    subst this
    simp only [if_true]
    exact rfl
  | false=>
    have hc':c<(x.st.vars.getD i .gone).cells.length:=by rw [hcells i hi hd] at hc;simpa using hc
    have hL:=h.vars i (Nat.lt_of_lt_of_le hi hl) c hc'
    have hrv:Cx.rv ⟨x.w,x.I,x.φ,x.tm,st'⟩ (.var i) c=x.rv (.var i) c:=by
     show zac (x.tm i) (st'.vars.getD i .gone) c=_
     rw [hv i hi,hd]
     simp only [Bool.false_eq_true,if_false]
     exact zb3 hf _ _ _
    have hg:f .gone=.gone:=by rcases hf.or .gone with h|h <;> exact h
    simp only [Bool.false_eq_true,if_false]
    rw [hrv]
    simp only [hcells i hi hd,zas _ hg] at hkc ⊢
    generalize (x.st.vars.getD i .gone).cells.getD c .gone=z at hL hkc ⊢
    by_cases hz:f z=z
    ·rw [hz] at hkc ⊢
     exact LR1.move h hm (LR1.lt hL) hkc hL
    ·have h2:f z=.gone:=(hf.or z).resolve_left hz
     rw [h2]
     exact zck hL (hfm z hz)
 ·intro k hk
  show Rows x.w (x.φ k) (st'.boxes.getD k []).length
  rw [hb k hk];exact h.box k (Nat.lt_of_lt_of_le hk hbl)
 ·intro k hk c hc
  simp only at hk hc
  have hkc:=hkb k hk c
  rw [hb k hk] at hc hkc ⊢
  have hL:=h.boxes k (Nat.lt_of_lt_of_le hk hbl) c hc
  exact LR1.move h hm (LR1.lt hL) hkc hL
 ·intro k hk c hc
  simp only at hk hc ⊢
  rw [hb k hk] at hc ⊢
  exact h.bmark k (Nat.lt_of_lt_of_le hk hbl) c hc
 ·have:=h.apart b hb'
  have:=hheld b
  show zar st' x.φ (fun i=>if dead i then fun _=>[] else FV i) FC FX b=0
  omega
end Go.Pm
namespace Go.Pm
theorem zb5 (k m:Nat) (F:Nat->List Nat) (b):tot m (fun q=>F (k+q)) b+tot k F b=tot (k+m) F b:=by
 induction m with
 | zero=>simp [tot]
 | succ m ih=>rw [zak,<- Nat.add_assoc,zak];omega
theorem Rows.mono {w:World} {b n m:Nat} (h:Rows w b n) (hm:m<=n):Rows w b m:=by
 obtain ⟨cs,E,lo,hi,h1,h2,h3⟩:=h
 exact ⟨cs,E,lo,hi,h1,by omega,h3⟩
theorem zup {xs:List V} {lo hi i:Nat} (_hh:hi<=xs.length) (hi':i<hi - lo):((xs.take hi).drop lo).getD i .gone=xs.getD (lo+i) .gone:=by
 simp only [List.getD,List.getElem?_drop,List.getElem?_take]
 rw [if_pos (by omega)]
theorem znr {xs:List V} {lo hi:Nat} {y} (h:y∈(xs.take hi).drop lo):y∈xs:=List.mem_of_mem_take (List.mem_of_mem_drop h)
theorem zox {w:World} {I:Nat->Prop} {h v:Value} {e:Nat} {xs:List V} {F:List Nat} {lo hi:Nat} (hV:VR w I h (.own e xs) F) (hs:zsc e h v lo hi) (hh:hi<=xs.length):
 ∃ G,VR w I v (.own e ((xs.take hi).drop lo)) G/\∀ b,G.count b<=F.count b:=by
 obtain ⟨hlo,_,a,n,cap,a2,cap2,rfl,rfl,hn,halt⟩:=hs
 cases hV with
 | own0=>
   rcases halt with ⟨_,rfl,_,rfl⟩|⟨ad,o,h1,_⟩
   ·simp only [List.length_nil] at hh
    have h1:hi=0:=by omega
    subst h1
    have h2:lo=0:=by omega
    subst h2
    exact ⟨[],.own0 e,fun _=>Nat.le_refl _⟩
   ·cases h1
 | own a cap _ _ vs Fs hsp he hz hl hb hc hf hr=>
   rcases halt with ⟨h1,_⟩|⟨ad,o,h1,hsp',rfl,hnc,ho,hroom,hcap2⟩
   ·cases h1
   ·cases h1
    have hlen:((xs.take hi).drop lo).length=hi - lo:=by simp;omega
    refine ⟨a.block::cat ((hi - lo) * e) fun q=>Fs (lo * e+q),?_,?_⟩
    ·have:=VR.own (w:=w) (I:=I) ⟨a.block,o,none⟩ cap2 e ((xs.take hi).drop lo) (fun q=>vs (lo * e+q)) (fun q=>Fs (lo * e+q)) rfl he
      (fun x hx=>hz x (znr hx)) (by omega) (hb.mono hroom) ?_ (fun x hx=>hf x (znr hx)) ?_
     ·rw [hlen] at this;exact this
     ·intro q hq
      rw [hlen] at hq
      rcases ho with ho|ho
      ·subst ho;rw [Nat.sub_self,Nat.zero_mul] at hq;cases hq
      ·subst ho
       have h1:lo * e+(hi - lo) * e=hi * e:=by rw [<- Nat.add_mul];congr 1;omega
       have h2:hi * e<=xs.length * e:=Nat.mul_le_mul_right _ hh
       have:=hc (lo * e+q) (by omega)
       rw [<- this];simp [Nat.add_assoc]
     ·intro i j hi' hj
      rw [hlen] at hi'
      have h1:elt ((xs.take hi).drop lo) i j=elt xs (lo+i) j:=by unfold elt;rw [zup hh hi']
      have h2:=hr (lo+i) j (by omega) hj
      rw [h1]
      have h3:(lo+i) * e+j=lo * e+(i * e+j):=by rw [Nat.add_mul,Nat.add_assoc]
      rw [h3] at h2
      exact h2
    ·intro b
     rw [List.count_cons,List.count_cons,za2,za2]
     have h1:=zb5 (lo * e) ((hi - lo) * e) Fs b
     have h2:lo * e+(hi - lo) * e=hi * e:=by rw [<- Nat.add_mul];congr 1;omega
     have h3:=zct (show hi * e<=xs.length * e from Nat.mul_le_mul_right _ hh) Fs b
     rw [h2] at h1
     omega
end Go.Pm
namespace Go.Pm
variable {B:Base} {x0:Cx} {I:Nat->Prop} {s:St} {FV FC:Nat->Nat->List Nat} {FX:List Nat}
theorem zhn {w I v y F} (h:VR w I v y F) (hl:y.leaf=true):v.oneCell'=true:=by
 cases h <;> first|assumption|(cases hl;done)|rfl
theorem zuv (g:Gho x0.st s) {v e0 r c up lo hi} (hL:x0.LR1 v (.hd e0 r c up lo hi) []) {e xs} (hg:s.get r c up=some (.own e xs)):
 zsc e (Cx.place ⟨x0.w,I,x0.φ,x0.tm,s⟩ r up c) v lo hi:=by
 obtain ⟨_,xs',h1,h2⟩:=hL
 obtain ⟨cs,hcs,hlt,hown⟩:=zba hg
 obtain ⟨cs0,h3,h4,h5⟩:=g.rev up r cs hcs
 obtain ⟨ys,h6,_⟩:=h5 c 1 e xs hown
 obtain ⟨cs1,h7,_,h8⟩:=zba h1
 rw [h7] at h3
 cases h3
 rw [h8] at h6
 cases h6
 rw [g.place x0.w x0.I I x0.φ x0.tm r up c]
 exact h2
theorem zur {s s':St} {r c up y} (h:s.put r c up y=some s'):∃ cs,s.cont r up=some cs/\c<cs.length:=by
 simp only [St.put] at h
 split at h
 ·rename_i cs hc
  split at h
  ·rename_i hlt;exact ⟨cs,hc,hlt⟩
  ·cases h
 ·cases h
theorem zia {w I I' h e xs F} (hV:VR w I h (.own e xs) F) (hI:∀ b,I b->I' b) (hF:∀ b∈F,I' b):VR w I' h (.imm e (V.eraseL xs)) []:=hV.erased hI hF
def V.onRoot:V->Root->Prop
 | .hd _ r _ _ _ _=>fun r'=>r'=r
 | _=>fun _=>False
def V.rootIs (S:Root->Prop):V->Prop
 | .hd _ r _ _ _ _=>S r
 | .ref r _ _=>S r
 | _=>False
def ymu (z:V) (x0:Cx) (I:Nat->Prop) (s:St) (I':Nat->Prop) (s':St):Prop:=
 ∀ v' z' F',z'.mark=true->¬ z'.rootIs z.onRoot->Cx.LR1 ⟨x0.w,I,x0.φ,x0.tm,s⟩ v' z' F'->Cx.LR1 ⟨x0.w,I',x0.φ,x0.tm,s'⟩ v' z' F'
theorem zj3 {r c0 d z'} (h:¬ z'.rootIs (fun r'=>r'=r)):V.kill1 r c0 d z'=z':=by
 cases z' with
 | hd e r' c up lo hi=>simp only [V.rootIs] at h;simp [V.kill1,h]
 | ref r' c up=>simp only [V.rootIs] at h;simp [V.kill1,h]
 | _=>rfl
def V.firm (v:V):Bool:=v.leaf&&(match v with | .gone=>false|_=>true)
theorem zav {v:V} (h:v.firm=true):v.leaf=true:=by unfold V.firm at h;simp only [Bool.and_eq_true] at h;exact h.1
theorem zit {v:V} (h:v.firm=true):v ≠ .gone:=by intro e;subst e;cases h
theorem ygs {v:V} (h:v.leaf=true) (hg:v ≠ .gone):v.firm=true:=by cases v <;> first|rfl|(cases h;done)|exact absurd rfl hg
theorem zjj (h:SR B ⟨x0.w,I,x0.φ,x0.tm,s⟩ FV FC FX) (hI:∀ b,x0.I b->I b) (g:Gho x0.st s) {v z y s1} (hL:x0.LR1 v z []) (ht:s.takeLeaf z=some (y,s1)):
 ∃ FV' FC' G,SR B ⟨x0.w,I,x0.φ,x0.tm,s1⟩ FV' FC' (G++FX)/\VR x0.w I v y G/\y.firm=true/\Gho x0.st s1/\ymu z x0 I s I s1:=by
 have simple:∀ (y:V) (G:List Nat),z.mark=false->z ≠ .gone->y=z->G=[]->s1=s->∃ FV' FC' G,SR B ⟨x0.w,I,x0.φ,x0.tm,s1⟩ FV' FC' (G++FX)/\VR x0.w I v y G/\y.firm=true/\Gho x0.st s1/\ymu z x0 I s I s1:=by
  intro y G hm hg hy hG hs
  subst hy hG hs
  exact ⟨FV,FC,[],h,(zbs hL hm hg).keep hI (fun _ _=>rfl) (by simp),ygs (zbp hL) hg,g,fun _ _ _ _ _ h=>h⟩
 cases z with
 | int k n=>cases ht;exact simple _ _ rfl (by simp) rfl rfl rfl
 | bool b=>cases ht;exact simple _ _ rfl (by simp) rfl rfl rfl
 | str b=>cases ht;exact simple _ _ rfl (by simp) rfl rfl rfl
 | imm e xs=>cases ht;exact simple _ _ rfl (by simp) rfl rfl rfl
 | pnil=>cases ht;exact simple _ _ rfl (by simp) rfl rfl rfl
 | own e xs=>
   cases xs with
   | nil=>cases ht;exact simple _ _ rfl (by simp) rfl rfl rfl
   | cons a xs=>cases ht
 | hd e0 r c up lo hi=>
   simp only [St.takeLeaf] at ht
   split at ht
   ·rename_i e xs hget
    split at ht
    ·rename_i hh
     simp only [Option.map_eq_some_iff] at ht
     obtain ⟨s',hput,h1⟩:=ht
     cases h1
     have hsub:=zuv (I:=I) g hL hget
     obtain ⟨F,hV,hcount,hgo⟩:=h.ghost hget
     obtain ⟨G,hVG,hGF⟩:=zox hV hsub hh
     obtain ⟨FV',FC',h2,h3,h4⟩:=hgo I .gone [] (G++FX) s' hput rfl (.gone _ (zhn hV rfl)) (fun _ h=>h) (fun b hb=>.inl hb) h.ilt
      (fun b hb=>by have e1:=h.apart b hb;have e2:=hcount b;have e3:=hGF b;rw [List.count_append];simp;omega)
      (fun b=>by have e3:=hGF b;rw [List.count_append];simp;omega)
     exact ⟨FV',FC',G,h2,hVG,rfl,g.trans (h3 fun m=>by cases m with|zero=>trivial|succ m=>intro e xs h;cases h),fun v' z' F' hm hr hL'=>h4 v' z' F' hm (zj3 hr) hL'⟩
    ·cases ht
   ·cases ht
 | _=>cases ht
theorem zs6 (h:SR B ⟨x0.w,I,x0.φ,x0.tm,s⟩ FV FC FX) (hI:∀ b,x0.I b->I b) (g:Gho x0.st s) {v z y s1} (hL:x0.LR1 v z []) (ht:s.freezeLeaf z=some (y,s1)):
 ∃ FV' FC' I',(∀ b,I b->I' b)/\(∀ b,I' b->I b\/FX.count b=0)/\SR B ⟨x0.w,I',x0.φ,x0.tm,s1⟩ FV' FC' FX/\VR x0.w I' v y []/\y.firm=true/\Gho x0.st s1/\ymu z x0 I s I' s1:=by
 have simple:∀ (y:V),VR x0.w I v y []->s1=s->y.firm=true->
  ∃ FV' FC' I',(∀ b,I b->I' b)/\(∀ b,I' b->I b\/FX.count b=0)/\SR B ⟨x0.w,I',x0.φ,x0.tm,s1⟩ FV' FC' FX/\VR x0.w I' v y []/\y.firm=true/\Gho x0.st s1/\ymu z x0 I s I' s1:=by
  intro y hV hs hy
  subst hs
  exact ⟨FV,FC,I,fun _ h=>h,fun _ h=>.inl h,h,hV,hy,g,fun _ _ _ _ _ h=>h⟩
 have base:z.mark=false->z ≠ .gone->VR x0.w I v z []:=fun hm hg=>(zbs hL hm hg).keep hI (fun _ _=>rfl) (by simp)
 cases z with
 | int k n=>cases ht;exact simple _ (base rfl (by simp)) rfl rfl
 | bool b=>cases ht;exact simple _ (base rfl (by simp)) rfl rfl
 | str b=>cases ht;exact simple _ (base rfl (by simp)) rfl rfl
 | imm e xs=>cases ht;exact simple _ (base rfl (by simp)) rfl rfl
 | pnil=>cases ht;exact simple _ (base rfl (by simp)) rfl rfl
 | own e xs=>
   cases xs with
   | nil=>cases ht;exact simple _ ((base rfl (by simp)).erased (fun _ h=>h) (by simp)) rfl rfl
   | cons a xs=>cases ht
 | hd e0 r c up lo hi=>
   simp only [St.freezeLeaf] at ht
   split at ht
   ·rename_i e xs hget
    split at ht
    ·rename_i hh
     simp only [Option.map_eq_some_iff] at ht
     obtain ⟨s',hput,h1⟩:=ht
     cases h1
     have hsub:=zuv (I:=I) g hL hget
     obtain ⟨F,hV,hcount,hgo⟩:=h.ghost hget
     obtain ⟨G,hVG,hGF⟩:=zox hV hsub hh
     have hF0:∀ b,0<F.count b->FX.count b=0:=fun b hb=>by
      have e1:=hcount b;have e2:=h.one b;omega
     obtain ⟨FV',FC',h2,h3,h4⟩:=hgo (fun b=>I b\/0<F.count b) (.imm e (V.eraseL xs)) [] FX s' hput rfl
      (zia hV (fun _ h=>.inl h) fun b hb=>.inr (List.count_pos_iff.2 hb)) (fun _ h=>.inl h)
      (fun b hb=>hb.imp id fun h=>by omega)
      (fun b hb=>by
       rcases hb with hb|hb
       ·exact h.ilt b hb
       ·exact hV.lt b (List.count_pos_iff.1 hb))
      (fun b hb=>by
       rcases hb with hb|hb
       ·have e1:=h.apart b hb;have e2:=hcount b;simp;omega
       ·have:=hF0 b hb;simp;omega)
      (fun b=>by simp)
     refine ⟨FV',FC',_,fun _ h=>.inl h,fun b hb=>hb.imp id (hF0 b),h2,?_,rfl,g.trans (h3 fun m=>by cases m with|zero=>trivial|succ m=>intro e xs h;cases h),fun v' z' F' hm hr hL'=>h4 v' z' F' hm (zj3 hr) hL'⟩
     refine zia hVG (fun _ h=>.inl h) fun b hb=>.inr ?_
     have:=hGF b;have:0<G.count b:=List.count_pos_iff.2 hb;omega
    ·cases ht
   ·cases ht
 | _=>cases ht
end Go.Pm
namespace Go.Pm
structure Hand (B:Base) (x0:Cx) (I:Nat->Prop) (FX:List Nat) (vals:Nat->Value) (n:Nat) (ys:List V) (s1:St) (I':Nat->Prop) (FV FC:Nat->Nat->List Nat) (FX1:List Nat) (G:Nat->List Nat):Prop where
 I:∀ b,I b->I' b
 sr:SR B ⟨x0.w,I',x0.φ,x0.tm,s1⟩ FV FC FX1
 fx:∀ b,FX1.count b=(cat n G).count b+FX.count b
 len:ys.length=n
 vr:∀ c,c<n->VR x0.w I' (vals c) (ys.getD c .gone) (G c)/\(ys.getD c .gone).firm=true
 gho:Gho x0.st s1
def zpx (op:St->V->Option (V×St)):Prop:=
 ∀ {B:Base} {x0:Cx} {I:Nat->Prop} {s:St} {FV FC:Nat->Nat->List Nat} {FX:List Nat},SR B ⟨x0.w,I,x0.φ,x0.tm,s⟩ FV FC FX->(∀ b,x0.I b->I b)->Gho x0.st s->
   ∀ {v z y s1},x0.LR1 v z []->op s z=some (y,s1)->∃ I' FV' FC' FX1 G,Hand B x0 I FX (fun _=>v) 1 [y] s1 I' FV' FC' FX1 (fun _=>G)
theorem zci:zpx St.takeLeaf:=by
 intro B x0 I s FV FC FX h hI g v z y s1 hL ht
 obtain ⟨FV',FC',G,h1,h2,h3,h4,_⟩:=zjj h hI g hL ht
 exact ⟨I,FV',FC',_,G,fun _ h=>h,h1,fun b=>by rw [List.count_append];simp [cat],rfl,fun c hc=>by have:c=0:=by omega
                                                                                                 subst this;exact ⟨h2,h3⟩,h4⟩
theorem zgj:zpx St.freezeLeaf:=by
 intro B x0 I s FV FC FX h hI g v z y s1 hL ht
 obtain ⟨FV',FC',I',h1,_,h2,h3,h4,h5,_⟩:=zs6 h hI g hL ht
 exact ⟨I',FV',FC',_,[],h1,h2,fun b=>by simp [cat],rfl,fun c hc=>by have:c=0:=by omega
                                                                    subst this;exact ⟨h3,h4⟩,h5⟩
def opl (op:St->V->Option (V×St)) (s:St):List V->Option (List V×St)
 | []=>some ([],s)
 | v::vs=>
   match op s v with
   | some (x,s1)=>(opl op s1 vs).map fun(xs,s2)=>(x::xs,s2)
   | none=>none
theorem zj0:∀ (zs:List V) (s:St),s.takes zs=opl St.takeLeaf s zs
 | [],s=>rfl
 | z::zs,s=>by
   simp only [St.takes,opl]
   cases s.takeLeaf z with
   | none=>rfl
   | some p=>simp only;rw [zj0 zs]
theorem zkj:∀ (zs:List V) (s:St),s.freezes zs=opl St.freezeLeaf s zs
 | [],s=>rfl
 | z::zs,s=>by
   simp only [St.freezes,opl]
   cases s.freezeLeaf z with
   | none=>rfl
   | some p=>simp only;rw [zkj zs]
theorem zwu {op} (hop:zpx op) {B:Base} {x0:Cx}:∀ (zs:List V) (vals:Nat->Value) {I:Nat->Prop} {s:St} {FV FC:Nat->Nat->List Nat} {FX:List Nat} {ys s1},
 SR B ⟨x0.w,I,x0.φ,x0.tm,s⟩ FV FC FX->(∀ b,x0.I b->I b)->Gho x0.st s->(∀ c,c<zs.length->x0.LR1 (vals c) (zs.getD c .gone) [])->opl op s zs=some (ys,s1)->
 ∃ I' FV' FC' FX1 G,Hand B x0 I FX vals zs.length ys s1 I' FV' FC' FX1 G
 | [],vals,I,s,FV,FC,FX,ys,s1,h,hI,g,hL,ht=>by
   cases ht
   exact ⟨I,FV,FC,FX,fun _=>[],fun _ h=>h,h,fun b=>by simp [cat],rfl,fun c hc=>by simp at hc,g⟩
 | z::zs,vals,I,s,FV,FC,FX,ys,s1,h,hI,g,hL,ht=>by
   simp only [opl] at ht
   split at ht
   ·rename_i y s2 ho
    simp only [Option.map_eq_some_iff] at ht
    obtain ⟨⟨ys',s3⟩,hr,he⟩:=ht
    cases he
    obtain ⟨I1,FV1,FC1,FX1,G1,H1⟩:=hop h hI g (hL 0 (by simp)) ho
    obtain ⟨I2,FV2,FC2,FX2,G2,H2⟩:=zwu hop zs (fun c=>vals (c+1)) H1.sr (fun b hb=>H1.I b (hI b hb)) H1.gho (fun c hc=>hL (c+1) (by simpa using hc)) hr
    refine ⟨I2,FV2,FC2,FX2,fun c=>if c=0 then G1 else G2 (c - 1),fun b hb=>H2.I b (H1.I b hb),H2.sr,?_,by simp [H2.len],?_,H2.gho⟩
    ·intro b
     have e1:=H2.fx b
     have e2:=H1.fx b
     rw [za2] at e1 ⊢
     have e3:=zb5 1 zs.length (fun c=>if c=0 then G1 else G2 (c - 1)) b
     have e4:tot zs.length (fun q=>(if 1+q=0 then G1 else G2 (1+q - 1))) b=tot zs.length G2 b:=zaa b fun i _=>by
      rw [if_neg (by omega)];congr 2;omega
     have e5:tot 1 (fun c=>if c=0 then G1 else G2 (c - 1)) b=G1.count b:=by simp [tot]
     have e6:(cat 1 fun _=>G1).count b=G1.count b:=by simp [cat]
     have e7:1+zs.length=(z::zs).length:=by simp;omega
     rw [e7] at e3
     simp only [e4,e5] at e3
     omega
    ·intro c hc
     cases c with
     | zero=>
       obtain ⟨h1,h2⟩:=H1.vr 0 (by omega)
       simp only [List.getD_cons_zero] at h1 h2 ⊢
       exact ⟨h1.keep H2.I (fun _ _=>rfl) (fun _ _=>rfl),h2⟩
     | succ c=>
       have h1:=H2.vr c (by simpa using hc)
       simpa using h1
   ·cases ht
end Go.Pm
namespace Go.Pm
theorem zik {w I v y F} (h:VR w I v y F) (hl:y.leaf=true):zbk v y:=by
 cases h <;> first|trivial|(cases hl;done)|exact rfl
def opw (op:St->V->Option (V×St)) (s:St):V->Option (V×St)
 | .agg cs=>(opl op s cs).map fun(xs,s')=>(.agg xs,s')
 | v=>op s v
theorem zf8 (s:St) (v:V):s.take v=opw St.takeLeaf s v:=by
 cases v <;> first|rfl|(simp only [St.take,opw,zj0])
theorem zh4 (s:St) (v:V):s.freeze v=opw St.freezeLeaf s v:=by
 cases v <;> first|rfl|(simp only [St.freeze,opw,zkj])
def yc7 (op:St->V->Option (V×St)):Prop:=∀ s vs,op s (.tup vs)=none
theorem zdu:yc7 St.takeLeaf:=fun _ _=>rfl
theorem zht:yc7 St.freezeLeaf:=fun _ _=>rfl
theorem zgm {op} (hop:zpx op) (hlf:yc7 op) {B:Base} {x0:Cx} {I:Nat->Prop} {s:St} {FV FC:Nat->Nat->List Nat} {FX:List Nat} {val v y s1}
 (h:SR B ⟨x0.w,I,x0.φ,x0.tm,s⟩ FV FC FX) (hI:∀ b,x0.I b->I b) (g:Gho x0.st s) (hp:Pend x0 val v fun _=>[]) (ht:opw op s v=some (y,s1)):
 ∃ I' FV' FC' FX1 G,Hand B x0 I FX (zac val y) y.cells.length y.cells s1 I' FV' FC' FX1 G/\zbk val y/\(∀ vs,y ≠ .tup vs)/\y ≠ .gone:=by
 have one:(∀ cs,v ≠ .agg cs)->op s v=some (y,s1)->∃ I' FV' FC' FX1 G,Hand B x0 I FX (zac val y) y.cells.length y.cells s1 I' FV' FC' FX1 G/\zbk val y/\(∀ vs,y ≠ .tup vs)/\y ≠ .gone:=by
  intro hna ho
  have hnt:∀ vs,v ≠ .tup vs:=fun vs e=>by subst e;rw [hlf] at ho;cases ho
  have hL:x0.LR1 val v []:=by
   have:=hp.cells 0 (by cases v <;> first|exact absurd rfl (hna _)|exact absurd rfl (hnt _)|simp [V.cells])
   cases v <;> first|exact this|exact absurd rfl (hna _)|exact absurd rfl (hnt _)
  obtain ⟨I',FV',FC',FX1,G,H⟩:=hop h hI g hL ho
  obtain ⟨hv,hl⟩:=H.vr 0 (by omega)
  simp only [List.getD_cons_zero] at hv hl
  have hfirm:=hl
  have hl:=zav hfirm
  have hyc:y.cells=[y]:=by cases y <;> first|rfl|cases hl
  have hpc:∀ c,zac val y c=val:=fun c=>by cases y <;> first|rfl|cases hl
  refine ⟨I',FV',FC',FX1,fun _=>G,⟨H.I,H.sr,?_,?_,?_,H.gho⟩,zik hv hl,(fun vs e=>by subst e;cases hl),zit hfirm⟩
  ·rw [hyc];exact H.fx
  ·rfl
  ·intro c hc
   rw [hyc] at hc ⊢
   rw [hpc]
   exact H.vr c hc
 cases v with
 | agg cs=>
   simp only [opw,Option.map_eq_some_iff] at ht
   obtain ⟨⟨ys,s2⟩,hr,he⟩:=ht
   simp only [Prod.mk.injEq] at he
   obtain ⟨rfl,rfl⟩:=he
   obtain ⟨I',FV',FC',FX1,G,H⟩:=zwu hop cs (zac val (.agg cs)) h hI g (fun c hc=>hp.cells c hc) hr
   have hlen:ys.length=cs.length:=H.len
   refine ⟨I',FV',FC',FX1,G,?_,?_,(fun _ h=>by cases h),fun h=>by cases h⟩
   ·show Hand B x0 I FX (zac val (.agg ys)) ys.length ys s2 I' FV' FC' FX1 G
    rw [hlen];exact H
   ·obtain ⟨a,rfl,ha⟩:=hp.shape
    exact ⟨a,rfl,by omega⟩
 | _=>exact one (by intro cs e;cases e) ht
structure Tied (B:Base) (ts:List (Option Nat)) (n:Nat) (x:Cx) (a:Act):Prop where
 len:ts.length=x.st.vars.length
 tie:∀ i t,ts.getD i none=some t->x.tm i=a.tmps.getD t undef
 size:a.tmps.size=n
 defers:a.defers=[]
 nbx:B.nb<=x.st.boxes.length
 phi:∀ k,k<B.nb->x.φ k=B.φ k
 nk:B.nk<=ts.length
 kp:∀ t v,B.kp t=some v->a.tmps.getD t undef=v/\2<=(ts.take B.nk).count (some t)
variable {B:Base} {x:Cx} {FV FC:Nat->Nat->List Nat} {FX:List Nat}
theorem zlg {w I h e xs F} (hV:VR w I h (.own e xs) F):zsc e h h 0 xs.length:=by
 cases hV with
 | own0=>exact ⟨Nat.le_refl _,fun _ _ _ _ _ _=>rfl,none,0,0,none,0,rfl,rfl,Nat.le_refl _,.inl ⟨rfl,rfl,rfl,rfl⟩⟩
 | own a cap _ _ vs Fs hs he hz hl hb hc hf hr=>
   obtain ⟨bl,off,sp⟩:=a
   simp only at hs
   subst hs
   exact ⟨Nat.zero_le _,fun _ _ _ _ _ _=>rfl,some ⟨bl,off,none⟩,xs.length,cap,some ⟨bl,off,none⟩,cap,rfl,by simp,Nat.le_refl _,.inr ⟨_,off,rfl,rfl,rfl,hl,.inr (by simp),Nat.le_refl _,by omega⟩⟩
theorem zcz {r:Root} {up:List zbv} {cs:List V} (h:SR B x FV FC FX) (hc:x.st.cont r up=some cs) {c:Nat} (hlt:c<cs.length):
 x.LR1 (x.place r up c) ((cs.getD c .gone).borrow r c up) []:=by
 obtain ⟨F,hL,_⟩:=h.at r up cs hc c hlt
 cases hz:cs.getD c .gone with
 | own e xs=>
   rw [hz] at hL
   have hV:VR x.w x.I (x.place r up c) (.own e xs) F:=hL
   refine ⟨rfl,xs,?_,zlg hV⟩
   simp only [St.get,hc,Option.bind_some]
   rw [List.getElem?_eq_getElem hlt,<- hz,za3 hlt]
 | agg ds=>rw [hz] at hL;exact hL.elim
 | tup ds=>rw [hz] at hL;exact hL.elim
 | ref r' c' up'=>rw [hz] at hL;have:=zck hL rfl;subst this;exact hL
 | hd e' r' c' up' lo hi=>rw [hz] at hL;have:=zck hL rfl;subst this;exact hL
 | eptr ds c'=>rw [hz] at hL;have:=zck hL rfl;subst this;exact hL
 | fn f caps=>rw [hz] at hL;have:=zck hL rfl;subst this;exact hL
 | gone=>exact rfl
 | int k n=>rw [hz] at hL;have hV:=zbs hL rfl (by simp);generalize x.place r up c=u at hL hV;cases hV;exact hL
 | bool b=>rw [hz] at hL;have hV:=zbs hL rfl (by simp);generalize x.place r up c=u at hL hV;cases hV;exact hL
 | str b=>rw [hz] at hL;have hV:=zbs hL rfl (by simp);generalize x.place r up c=u at hL hV;cases hV;exact hL
 | pnil=>rw [hz] at hL;have hV:=zbs hL rfl (by simp);generalize x.place r up c=u at hL hV;cases hV;exact hL
 | imm e xs=>rw [hz] at hL;have hV:=zbs hL rfl (by simp);generalize x.place r up c=u at hL hV;have hF:F=[]:=by cases hV <;> rfl
             subst hF;exact hL
 | clo f cs=>rw [hz] at hL;have hV:=zbs hL rfl (by simp);generalize x.place r up c=u at hL hV;have hF:F=[]:=by cases hV;rfl
             subst hF;exact hL
theorem zb8 (r up):∀ (c:Nat) (cs:List V),(borrows r up c cs).length=cs.length
 | _,[]=>rfl
 | c,v::vs=>by simp [borrows,zb8 r up (c+1) vs]
theorem zd2 (r up):∀ (c:Nat) (cs:List V) (j:Nat),j<cs.length->(borrows r up c cs).getD j .gone=(cs.getD j .gone).borrow r (c+j) up
 | _,[],j,h=>by simp at h
 | c,v::vs,0,_=>by simp [borrows]
 | c,v::vs,j+1,h=>by
   have:=zd2 r up (c+1) vs j (by simpa using h)
   simp only [borrows,List.getD_cons_succ] at this ⊢
   rw [this];congr 1;omega
theorem ze1 (i:Nat):∀ (vs:List V) (c:Nat),(borrowT i c vs).flatMap V.cells1=borrows (.var i) [] c (vs.flatMap V.cells1)
 | [],c=>rfl
 | v::vs,c=>by
   have happ:∀ (xs ys:List V) (c:Nat),borrows (.var i) [] c (xs++ys)=borrows (.var i) [] c xs++borrows (.var i) [] (c+xs.length) ys:=by
    intro xs
    induction xs with
    | nil=>intro ys c;simp [borrows]
    | cons a as ih=>intro ys c;simp only [List.cons_append,borrows,ih,List.length_cons,List.cons.injEq,true_and];congr 2;omega
   have one:∀ v:V,(∀ cs,v ≠ .agg cs)->(v.borrow (.var i) c []).cells1=[v.borrow (.var i) c []]:=by
    intro v hv;cases v <;> first|exact absurd rfl (hv _)|rfl
   by_cases hv:∃ cs,v=.agg cs
   ·obtain ⟨cs,rfl⟩:=hv
    simp only [borrowT,List.flatMap_cons,V.cells1,happ,ze1 i vs]
   ·have h1:borrowT i c (v::vs)=v.borrow (.var i) c []::borrowT i (c+1) vs:=by cases v <;> first|exact absurd ⟨_,rfl⟩ hv|rfl
    have h2:v.cells1=[v]:=by cases v <;> first|exact absurd ⟨_,rfl⟩ hv|rfl
    rw [h1,List.flatMap_cons,List.flatMap_cons,ze1 i vs,one v (fun cs e=>hv ⟨cs,e⟩),h2]
    rfl
theorem zew (i:Nat) (v:V):(v.borrowAll i).cells=borrows (.var i) [] 0 v.cells:=by
 cases v with
 | agg cs=>rfl
 | tup vs=>exact ze1 i vs 0
 | _=>rfl
end Go.Pm
namespace Go.Pm
def ztv:Value->V->Bool
 | .int k n,.int k' n'=>k == k'&&n == n'
 | .bool b,.bool b'=>b == b'
 | .string s,.str s'=>s.data.toList == s'.data.toList
 | .pointer none,.pnil=>true
 | .slice none 0 0,.own _ []=>true
 | .slice none 0 0,.imm _ []=>true
 | .func (.func f) first caps,.fn g []=>f == g&&first.toList.isEmpty&&caps.toList.isEmpty
 | _,_=>false
def zuh:List Value->List V->Bool
 | [],[]=>true
 | v::vs,x::xs=>ztv v x&&zuh vs xs
 | _,_=>false
def yki:Value->V->Bool
 | .agg cs,.agg ys=>zuh cs.toList ys
 | v,x=>ztv v x
def za1 (ts:List (Option Nat)):Operand->Opnd->Bool
 | .tmp t,.reg i=>ts.getD i none == some t
 | .const v,.con y=>yki v y
 | .func f,.con (.fn g [])=>f == g
 | _,_=>false
theorem zlm {x:Cx} {v y} (h:ztv v y=true):x.LR1 v y []:=by
 unfold ztv at h
 split at h
 ·simp only [Bool.and_eq_true,beq_iff_eq] at h;obtain ⟨rfl,rfl⟩:=h;exact VR.int _ _
 ·simp only [beq_iff_eq] at h;subst h;exact VR.bool _
 ·rename_i s s'
  simp only [beq_iff_eq] at h
  have:s=s':=by
   cases s;cases s';congr 1
   exact Array.toList_inj.1 h
  subst this;exact VR.str _
 ·exact VR.pnil
 ·exact VR.own0 _
 ·exact VR.imm0 _ _ _
 ·simp only [Bool.and_eq_true,beq_iff_eq,List.isEmpty_iff,Array.toList_eq_nil_iff] at h
  obtain ⟨⟨rfl,rfl⟩,rfl⟩:=h
  exact ⟨rfl,#[],rfl,rfl,fun i k hi=>by simp at hi⟩
 ·cases h
theorem zlq {x:Cx}:∀ {vs:List Value} {ys:List V},zuh vs ys=true->vs.length=ys.length/\∀ c,c<ys.length->x.LR1 (vs.getD c undef) (ys.getD c .gone) []
 | [],[],_=>⟨rfl,fun c hc=>by simp at hc⟩
 | v::vs,y::ys,h=>by
   simp only [zuh,Bool.and_eq_true] at h
   obtain ⟨h1,h2⟩:=zlq (x:=x) h.2
   refine ⟨by simp [h1],fun c hc=> ?_⟩
   cases c with
   | zero=>exact zlm h.1
   | succ c=>exact h2 c (by simpa using hc)
 | [],_::_,h=>by cases h
 | _::_,[],h=>by cases h
variable {B:Base} {x:Cx} {FV FC:Nat->Nat->List Nat} {FX:List Nat} {a:Act} {ts:List (Option Nat)} {n:Nat}
theorem zpy {v y F} (h:x.LR1 v y F):zbk v y:=by
 have hl:=zbp h
 by_cases hm:y.mark=true
 ·cases y with
  | ref r c up=>cases up with
    | nil=>obtain ⟨_,k,cs,_,_,rfl⟩:=h;exact rfl
    | cons s up=>obtain ⟨_,_,a,n,cap,_,rfl⟩:=h;exact rfl
  | hd e r c up lo hi=>obtain ⟨_,xs,_,_,_,a,n,cap,a2,cap2,_,rfl,_⟩:=h;exact rfl
  | eptr cs c=>obtain ⟨_,b,o,rfl,_⟩:=h;exact rfl
  | fn f caps=>obtain ⟨_,cs,rfl,_⟩:=h;exact rfl
  | _=>cases hm
 ·by_cases hg:y=.gone
  ·subst hg;trivial
  ·exact zik (zbs h (by simpa using hm) hg) hl
theorem Pend.leaf {val v} (h:x.LR1 val v []):Pend x val v fun _=>[]:=by
 have hl:=zbp h
 have hc:v.cells=[v]:=by cases v <;> first|(cases hl;done)|rfl
 refine ⟨zpy h,fun c hc'=> ?_⟩
 rw [hc] at hc'
 have:c=0:=by simpa using hc'
 subst this
 have hp:zac val v 0=val:=by cases v <;> first|(cases hl;done)|rfl
 rw [hc,hp];exact h
theorem zmw {r c up v} {y:V} (h:zcs v y):zcs v (y.borrow r c up):=by
 cases y <;> exact h
theorem zg5 (i:Nat):∀ (vs:List V) (c:Nat),(borrowT i c vs).length=vs.length
 | [],_=>rfl
 | v::vs,c=>by cases v <;> simp [borrowT,zg5 i vs]
theorem zgd (i:Nat):∀ (vs:List V) (c:Nat) (f:Nat->Value),(∀ j,j<vs.length->zcs (f j) (vs.getD j .gone))->∀ j,j<vs.length->zcs (f j) ((borrowT i c vs).getD j .gone)
 | [],c,f,h,j,hj=>by simp at hj
 | v::vs,c,f,h,j,hj=>by
   have h0:=h 0 (by simp)
   have hs:∀ j,j<vs.length->zcs (f (j+1)) (vs.getD j .gone):=fun j hj=>by have:=h (j+1) (by simpa using hj);simpa using this
   simp only [List.getD_cons_zero] at h0
   have step:∀ (y:V) (c':Nat),zcs (f 0) y->zcs (f j) ((y::borrowT i c' vs).getD j .gone):=by
    intro y c' hy
    cases j with
    | zero=>exact hy
    | succ j=>simp only [List.getD_cons_succ];exact zgd i vs c' (fun j=>f (j+1)) hs j (by simpa using hj)
   by_cases hv:∃ cs,v=.agg cs
   ·obtain ⟨cs,rfl⟩:=hv
    refine step _ _ ?_
    obtain ⟨a,h1,h2⟩:=h0
    exact ⟨a,h1,by rw [zb8];exact h2⟩
   ·have h1:borrowT i c (v::vs)=v.borrow (.var i) c []::borrowT i (c+1) vs:=by cases v <;> first|exact absurd ⟨_,rfl⟩ hv|rfl
    rw [h1]
    exact step _ _ (zmw h0)
theorem zj7 {i:Nat} {v:Value} {y:V} (h:zbk v y):zbk v (y.borrowAll i):=by
 cases y with
 | agg cs=>obtain ⟨a,h1,h2⟩:=h;exact ⟨a,h1,by rw [zb8];exact h2⟩
 | tup vs=>obtain ⟨a,h1,h2,h3⟩:=h;exact ⟨a,h1,by rw [zg5];exact h2,fun j hj=>zgd i vs 0 (fun j=>a.getD j undef) h3 j (by rw [zg5] at hj;exact hj)⟩
 | _=>exact h
theorem zk6 {i:Nat} {v:Value} {y:V} {c:Nat}:zac v (y.borrowAll i) c=zac v y c:=by cases y <;> rfl
theorem zaq (h:SR B x FV FC FX) (ht:Tied B ts n x a) {y:Operand} {o:Opnd} (ho:za1 ts y o=true) {v} (hr:x.st.rd o=some v):Pend x (a.eval y) v fun _=>[]:=by
 unfold za1 at ho
 split at ho
 ·rename_i t i
  simp only [beq_iff_eq] at ho
  simp only [St.rd,Option.map_eq_some_iff] at hr
  obtain ⟨z,hz,rfl⟩:=hr
  obtain ⟨hi,hz'⟩:=List.getElem?_eq_some_iff.1 hz
  have hz2:x.st.vars.getD i .gone=z:=by rw [za3 hi,hz']
  have hv:a.eval (.tmp t)=x.tm i:=(ht.tie i t ho).symm
  have hsh:=h.shape i hi
  rw [hz2] at hsh
  refine ⟨by rw [hv];exact zj7 hsh,fun c hc=> ?_⟩
  rw [zew,zb8] at hc
  rw [hv,zk6,zew,zd2 _ _ _ _ _ hc,Nat.zero_add]
  have:=zcz h (r:=.var i) (up:=[]) (zbo hi) (c:=c) (by rw [hz2];exact hc)
  rw [hz2] at this
  have e:x.place (.var i) [] c=zac (x.tm i) z c:=by show zac (x.tm i) (x.st.vars.getD i .gone) c=_;rw [hz2]
  rw [e] at this
  exact this
 ·rename_i u y
  cases hr
  simp only [Act.eval]
  unfold yki at ho
  split at ho
  ·rename_i cs ys
   obtain ⟨h1,h2⟩:=zlq (x:=x) ho
   refine ⟨⟨cs,rfl,by simpa using h1⟩,fun c hc=> ?_⟩
   exact h2 c hc
  ·exact Pend.leaf (zlm ho)
 ·rename_i f g
  simp only [beq_iff_eq] at ho
  subst ho
  cases hr
  exact Pend.leaf ⟨rfl,#[],rfl,rfl,fun i k hi=>by simp at hi⟩
 ·cases ho
end Go.Pm
namespace Go.Pm
variable {B:Base} {x:Cx} {FV FC:Nat->Nat->List Nat} {FX:List Nat} {a:Act} {ts:List (Option Nat)} {n:Nat}
def zjp (ts:List (Option Nat)) (n:Nat):Option Nat->Option Nat->Option (List (Option Nat))
 | none,none=>some (ts ++ [none])
 | some t,none=>if t<n/\ts.all (· != some t) then some (ts ++ [some t]) else none
 | some t,some k=>if t<n/\k<ts.length/\ts.getD k none=some t/\(ts.set k none).all (· != some t) then some (ts ++ [none]) else none
 | none,some _=>none
theorem zc3 {f g:V->V} (hf:Strike f) (hg:Strike g):Strike (fun v=>f (g v)):=by
 refine ⟨fun v=> ?_,fun cs=>by rw [hg.agg,hf.agg],fun vs=>by rw [hg.tup,hf.tup]⟩
 have hfg:f .gone=.gone:=by rcases hf.or .gone with h|h <;> exact h
 rcases hg.or v with h|h
 ·rw [h];exact hf.or v
 ·right;rw [h,hfg]
theorem zen (ns k):Strike (V.only1 ns k):=zc3 (f:=V.unloc1 ns) (g:=V.killVar1 k) (zcw ns) (zau k)
theorem SR.setVar (h:SR B x FV FC FX) {k:Nat} {val v G FX'} (hk:k<x.st.vars.length) (hgone:x.st.vars.getD k .gone=.gone)
 (hkv:∀ i,i<x.st.vars.length->∀ c,zbe (· ≠ .var k) ((x.st.vars.getD i .gone).cells.getD c .gone))
 (hkb:∀ j,j<x.st.boxes.length->∀ c,zbe (· ≠ .var k) ((x.st.boxes.getD j []).getD c .gone))
 (hpv:∀ c,c<v.cells.length->zbe (· ≠ .var k) (v.cells.getD c .gone)) (hp:Pend x val v G) (hF:∀ b,(cat v.cells.length G).count b+FX'.count b<=FX.count b):
 SR B ⟨x.w,x.I,x.φ,upd x.tm k val,{ x.st with vars:=x.st.vars.set k v }⟩ (upd FV k G) FC FX':=by
 have hold:∀ i,i<x.st.vars.length->i≠k->(x.st.vars.set k v).getD i .gone=x.st.vars.getD i .gone:=fun i hi hne=>by rw [zal _ _ hi,if_neg hne]
 have hnew:(x.st.vars.set k v).getD k .gone=v:=by rw [zal _ _ hk,if_pos rfl]
 have hm:Moves x ⟨x.w,x.I,x.φ,upd x.tm k val,{ x.st with vars:=x.st.vars.set k v }⟩ (· ≠ .var k):=by
  refine ⟨?_,?_,fun _ _=>rfl,fun _ h=>h,fun _ _=>rfl⟩
  ·intro r hr cs hcs
   refine ⟨cs,?_,rfl,fun _ _ _ _ h=>h⟩
   rcases za6 hcs with ⟨i,rfl,hi,rfl⟩|⟨j,rfl,hj,rfl⟩
   ·have hne:i≠k:=fun e=>hr (by rw [e])
    rw [zbo (by simpa using hi)]
    simp only [hold i hi hne]
   ·exact hcs
  ·intro r hr cs hcs c _
   rcases za6 hcs with ⟨i,rfl,hi,rfl⟩|⟨j,rfl,hj,rfl⟩
   ·have hne:i≠k:=fun e=>hr (by rw [e])
    show zac (upd x.tm k val i) ((x.st.vars.set k v).getD i .gone) c=_
    rw [hold i hi hne,zam _ _ hne];rfl
   ·rfl
 have hFk:cat (x.st.vars.getD k .gone).cells.length (FV k)=[]:=by
  have:=h.vars k hk 0 (by rw [hgone];simp [V.cells])
  rw [hgone] at this ⊢
  have h0:FV k 0=[]:=this
  simp [V.cells,cat,h0]
 have hheld:∀ b,zar { x.st with vars:=x.st.vars.set k v } x.φ (upd FV k G) FC FX' b<=zar x.st x.φ FV FC FX b:=by
  intro b
  unfold zar
  simp only [List.length_set]
  have e1:tot x.st.vars.length (fun i=>cat ((x.st.vars.set k v).getD i .gone).cells.length (upd FV k G i)) b=
   tot x.st.vars.length (upd (fun i=>cat (x.st.vars.getD i .gone).cells.length (FV i)) k (cat v.cells.length G)) b:=zaa b fun i hi=>by
   by_cases e:i=k
   ·subst e;rw [hnew,zaj,zaj]
   ·rw [hold i hi e,zam _ _ e,zam _ _ e]
  have e2:=zga hk (fun i=>cat (x.st.vars.getD i .gone).cells.length (FV i)) (cat v.cells.length G) b
  rw [hFk] at e2
  simp only [List.count_nil] at e2
  have:=hF b
  omega
 refine ⟨?_,?_,h.box,?_,h.bmark,fun b=>Nat.le_trans (hheld b) (h.one b),fun b hb=> ?_,h.ilt,h.keep,h.gr,fun b hb=>h.held b (Nat.lt_of_lt_of_le hb (hheld b)),h.imm,h.new⟩
 ·intro i hi
  have hi':i<x.st.vars.length:=by simpa using hi
  by_cases e:i=k
  ·subst e
   show zbk (upd x.tm i val i) ((x.st.vars.set i v).getD i .gone)
   rw [hnew,zaj];exact hp.shape
  ·show zbk (upd x.tm k val i) ((x.st.vars.set k v).getD i .gone)
   rw [hold i hi' e,zam _ _ e];exact h.shape i hi'
 ·intro i hi c hc
  have hi':i<x.st.vars.length:=by simpa using hi
  by_cases e:i=k
  ·subst e
   simp only [hnew] at hc
   have:=hp.cells c hc
   show Cx.LR1 _ (zac (upd x.tm i val i) ((x.st.vars.set i v).getD i .gone) c) (((x.st.vars.set i v).getD i .gone).cells.getD c .gone) (upd FV i G i c)
   rw [hnew,zaj,zaj]
   exact LR1.move h hm (LR1.lt this) (hpv c hc) this
  ·simp only [hold i hi' e] at hc
   have:=h.vars i hi' c hc
   have hkc:=hkv i hi' c
   show Cx.LR1 _ (zac (upd x.tm k val i) ((x.st.vars.set k v).getD i .gone) c) (((x.st.vars.set k v).getD i .gone).cells.getD c .gone) (upd FV k G i c)
   rw [hold i hi' e,zam _ _ e,zam _ _ e]
   exact LR1.move h hm (LR1.lt this) hkc this
 ·intro j hj c hc
  have:=h.boxes j hj c hc
  exact LR1.move h hm (LR1.lt this) (hkb j hj c) this
 ·have:=h.apart b hb
  have:=hheld b
  show zar { x.st with vars:=x.st.vars.set k v } x.φ (upd FV k G) FC FX' b=0
  omega
def Loc (ns k:Nat):Root->Prop
 | .var j=>j=k\/ns<=j
 | .box _=>False
theorem zvz {ns k:Nat} {z:V} (h:z.rootIs (Loc ns k)):((∃ r c up,z=.ref r c up)/\V.only1 ns k z=.gone)\/∃ e j c up lo hi,z=.hd e (.var j) c up lo hi/\(j=k\/ns<=j):=by
 cases z with
 | hd e r c up lo hi=>cases r with
   | var j=>exact .inr ⟨e,j,c,up,lo,hi,rfl,h⟩
   | box j=>exact h.elim
 | ref r c up=>cases r with
   | var j=>
     refine .inl ⟨⟨_,_,_,rfl⟩,?_⟩
     rcases h with h|h
     ·simp [V.only1,V.killVar1,h,V.unloc1]
     ·by_cases e:j=k
      ·simp [V.only1,V.killVar1,e,V.unloc1]
      ·simp [V.only1,V.killVar1,e,V.unloc1,h]
   | box j=>exact h.elim
 | _=>exact h.elim
theorem zfb {ns k:Nat} {z:V} (h:¬ z.rootIs (Loc ns k)):V.only1 ns k z=z:=by
 cases z with
 | hd e r c up lo hi=>cases r with
   | var j=>simp only [V.rootIs,Loc,not_or] at h;simp [V.only1,V.killVar1,V.unloc1,h.1,h.2]
   | box j=>rfl
 | ref r c up=>cases r with
   | var j=>simp only [V.rootIs,Loc,not_or] at h;simp [V.only1,V.killVar1,V.unloc1,h.1,h.2]
   | box j=>rfl
 | _=>rfl
theorem zr7 {ns k:Nat} {s:St} {z:V} (h:¬ z.rootIs (Loc ns k)):s.settleLeaf ns k z=some (z,s):=by
 cases z with
 | hd e r c up lo hi=>cases r with
   | var j=>simp only [V.rootIs,Loc] at h;simp [St.settleLeaf,h]
   | box j=>rfl
 | _=>rfl
theorem zkh {z:V} {S} (h:z.rootIs S):z.mark=true:=by cases z <;> first|rfl|exact h.elim
theorem zlf (ns k:Nat) {x0:Cx} {I:Nat->Prop} (hI:∀ b,x0.I b->I b):∀ (zs:List V) (vals:Nat->Value) (G:Nat->List Nat) {s:St} {FV FC:Nat->Nat->List Nat} {FX:List Nat} {ys s1},
 SR B ⟨x0.w,I,x0.φ,x0.tm,s⟩ FV FC FX->Gho x0.st s->
 (∀ c,c<zs.length->(zs.getD c .gone).rootIs (Loc ns k)->x0.LR1 (vals c) (zs.getD c .gone) []/\G c=[])->
 (∀ c,c<zs.length->¬(zs.getD c .gone).rootIs (Loc ns k)->Cx.LR1 ⟨x0.w,I,x0.φ,x0.tm,s⟩ (vals c) (zs.getD c .gone) (G c))->
 s.settles ns k zs=some (ys,s1)->
 ∃ FV' FC' FX1 G',SR B ⟨x0.w,I,x0.φ,x0.tm,s1⟩ FV' FC' FX1/\(∀ b,FX1.count b+(cat zs.length G).count b=(cat zs.length G').count b+FX.count b)/\ys.length=zs.length/\
   (∀ c,c<zs.length->Cx.LR1 ⟨x0.w,I,x0.φ,x0.tm,s1⟩ (vals c) (V.only1 ns k (ys.getD c .gone)) (G' c))/\Gho x0.st s1/\
   (∀ v' z' F',z'.mark=true->¬ z'.rootIs (Loc ns k)->Cx.LR1 ⟨x0.w,I,x0.φ,x0.tm,s⟩ v' z' F'->Cx.LR1 ⟨x0.w,I,x0.φ,x0.tm,s1⟩ v' z' F')
 | [],vals,G,s,FV,FC,FX,ys,s1,h,g,_,_,ht=>by
   cases ht
   exact ⟨FV,FC,FX,fun _=>[],h,fun b=>by simp [cat],rfl,fun c hc=>by simp at hc,g,fun _ _ _ _ _ h=>h⟩
 | z::zs,vals,G,s,FV,FC,FX,ys,s1,h,g,hA,hB,ht=>by
   simp only [St.settles] at ht
   split at ht
   ·rename_i y s2 ho
    simp only [Option.map_eq_some_iff] at ht
    obtain ⟨⟨ys',s3⟩,hr,he⟩:=ht
    simp only [Prod.mk.injEq] at he
    obtain ⟨rfl,rfl⟩:=he
    have first:∃ FV1 FC1 FX1 G1,SR B ⟨x0.w,I,x0.φ,x0.tm,s2⟩ FV1 FC1 FX1/\(∀ b,FX1.count b+(G 0).count b=G1.count b+FX.count b)/\
     Cx.LR1 ⟨x0.w,I,x0.φ,x0.tm,s2⟩ (vals 0) (V.only1 ns k y) G1/\((V.only1 ns k y).mark=true->¬(V.only1 ns k y).rootIs (Loc ns k))/\Gho x0.st s2/\
     (∀ v' z' F',z'.mark=true->¬ z'.rootIs (Loc ns k)->Cx.LR1 ⟨x0.w,I,x0.φ,x0.tm,s⟩ v' z' F'->Cx.LR1 ⟨x0.w,I,x0.φ,x0.tm,s2⟩ v' z' F'):=by
     by_cases hz:z.rootIs (Loc ns k)
     ·obtain ⟨hL,hG⟩:=hA 0 (by simp) hz
      simp only [List.getD_cons_zero] at hL
      rcases zvz hz with ⟨⟨r,c,up,rfl⟩,hg⟩|⟨e,j,c,up,lo,hi,rfl,hj⟩
      ·
       have hs:s.settleLeaf ns k (.ref r c up)=some (.ref r c up,s):=by cases r <;> rfl
       rw [hs] at ho
       cases ho
       refine ⟨FV,FC,FX,[],h,fun b=>by rw [hG];omega,?_,?_,g,fun _ _ _ _ _ h=>h⟩
       ·rw [hg];exact rfl
       ·rw [hg];intro h;cases h
      ·have ho':s.takeLeaf (.hd e (.var j) c up lo hi)=some (y,s2):=by
        simp only [St.settleLeaf,if_pos hj] at ho;exact ho
       obtain ⟨FV1,FC1,G1,h1,h2,h3,h4,h5⟩:=zjj h hI g hL ho'
       have hym:y.mark=false:=zbm h2
       have hyr:¬ y.rootIs (Loc ns k):=fun hh=>by rw [zkh hh] at hym;cases hym
       refine ⟨FV1,FC1,_,G1,h1,fun b=>by rw [hG,List.count_append];simp,?_,?_,h4,?_⟩
       ·rw [zfb hyr];exact za8 h2 (zav h3)
       ·intro hm;rw [zfb hyr,hym] at hm;cases hm
       ·intro v' z' F' hm hr' hL'
        refine h5 v' z' F' hm (fun hh=>hr' ?_) hL'
        cases z' with
        | hd e' r' c' up' lo' hi'=>have:r'=.var j:=hh;subst this;exact hj
        | ref r' c' up'=>have:r'=.var j:=hh;subst this;exact hj
        | _=>exact hh.elim
     ·rw [zr7 hz] at ho
      cases ho
      have hL:=hB 0 (by simp) hz
      simp only [List.getD_cons_zero] at hL
      refine ⟨FV,FC,FX,G 0,h,fun b=>by omega,?_,?_,g,fun _ _ _ _ _ h=>h⟩
      ·rw [zfb hz];exact hL
      ·rw [zfb hz];exact fun _=>hz
    obtain ⟨FV1,FC1,FX1,G1,h1,h2,h3,h4,h5,h6⟩:=first
    obtain ⟨FV2,FC2,FX2,G2,k1,k2,k3,k4,k5,k6⟩:=zlf ns k hI zs (fun c=>vals (c+1)) (fun c=>G (c+1)) h1 h5 (fun c hc hz=>hA (c+1) (by simpa using hc) hz)
     (fun c hc hz=>by
      have hL:=hB (c+1) (by simpa using hc) hz
      by_cases hm:(zs.getD c .gone).mark=true
      ·exact h6 _ _ _ hm hz hL
      ·exact LR1.keep hL (fun hm'=>absurd hm' hm) (fun _ h=>h) (fun _ _=>rfl) (fun _ _=>rfl)) hr
    refine ⟨FV2,FC2,FX2,fun c=>if c=0 then G1 else G2 (c - 1),k1,?_,by simp [k3],?_,k5,fun v' z' F' hm hr' hL'=>k6 v' z' F' hm hr' (h6 v' z' F' hm hr' hL')⟩
    ·intro b
     have e1:=k2 b
     have e2:=h2 b
     rw [za2,za2] at e1 ⊢
     have e3:=zb5 1 zs.length (fun c=>if c=0 then G1 else G2 (c - 1)) b
     have e4:tot zs.length (fun q=>(if 1+q=0 then G1 else G2 (1+q - 1))) b=tot zs.length G2 b:=zaa b fun i _=>by
      rw [if_neg (by omega)];congr 2;omega
     have e5:tot 1 (fun c=>if c=0 then G1 else G2 (c - 1)) b=G1.count b:=by simp [tot]
     have f3:=zb5 1 zs.length G b
     have f4:tot zs.length (fun q=>G (1+q)) b=tot zs.length (fun c=>G (c+1)) b:=zaa b fun i _=>by rw [Nat.add_comm]
     have f5:tot 1 G b=(G 0).count b:=by simp [tot]
     have e7:1+zs.length=(z::zs).length:=by simp;omega
     rw [e7] at e3 f3
     simp only [e4,e5] at e3
     simp only [f4,f5] at f3
     omega
    ·intro c hc
     cases c with
     | zero=>
       simp only [List.getD_cons_zero]
       by_cases hm:(V.only1 ns k y).mark=true
       ·exact k6 _ _ _ hm (h4 hm) h3
       ·exact LR1.keep h3 (fun hm'=>absurd hm' hm) (fun _ h=>h) (fun _ _=>rfl) (fun _ _=>rfl)
     | succ c=>
       have:=k4 c (by simpa using hc)
       simpa using this
   ·cases ht
theorem zd9 {k:Nat} {z:V}:zbe (· ≠ .var k) (V.killVar1 k z):=by
 cases z with
 | hd e r c up lo hi=>cases r with
   | var j=>simp only [V.killVar1];split <;> simp_all [zbe]
   | box j=>simp [V.killVar1,zbe]
 | ref r c up=>cases r with
   | var j=>simp only [V.killVar1];split <;> simp_all [zbe]
   | box j=>simp [V.killVar1,zbe]
 | fn f caps=>intro i j _ _ h;cases h
 | _=>trivial
theorem zvj {ns k:Nat} {z:V}:zbe (· ≠ .var k) (V.only1 ns k z):=by
 have h:=zd9 (k:=k) (z:=z)
 unfold V.only1
 rcases (zcw ns).or (V.killVar1 k z) with e|e
 ·rw [e];exact h
 ·rw [e];trivial
theorem zhv {k z} (h:V.killVar1 k z≠z):z.mark=true:=by cases z <;> first|rfl|exact absurd rfl h
theorem SR.boxkept (h:SR B x FV FC FX) {k:Nat}:∀ j,j<x.st.boxes.length->∀ c,zbe (· ≠ .var k) ((x.st.boxes.getD j []).getD c .gone):=by
 intro j hj c
 by_cases hc:c<(x.st.boxes.getD j []).length
 ·by_cases hm:((x.st.boxes.getD j []).getD c .gone).mark=true
  ·obtain ⟨k',c',e⟩:=h.bmark j hj c hc hm
   rw [e];intro h;cases h
  ·generalize (x.st.boxes.getD j []).getD c .gone=z at hm
   cases z <;> first|trivial|exact absurd rfl hm
 ·rw [zai hc];trivial
theorem zfa {a:Act} {t:Nat} {v:Value} {t':Nat} (h:t'≠t):(a.put (some t) v).tmps.getD t' undef=a.tmps.getD t' undef:=by
 simp only [Act.put,Array.getD_eq_getD_getElem?,Array.getElem?_setIfInBounds]
 rw [if_neg (Ne.symm h)]
theorem zm6 {a:Act} {t:Nat} {v:Value} (h:t<a.tmps.size):(a.put (some t) v).tmps.getD t undef=v:=by
 simp [Act.put,Array.getD_eq_getD_getElem?,h]
theorem zbn {ts:List (Option Nat)} {y:Option Nat} {i:Nat}:(ts ++ [y]).getD i none=if i=ts.length then y else ts.getD i none:=by
 simp only [List.getD,List.getElem?_append]
 split
 ·rw [if_neg (by omega)]
 ·split
  ·subst_vars;simp
  ·rw [List.getElem?_eq_none (by simp;omega),List.getElem?_eq_none (by omega)]
theorem zzl {ts:List (Option Nat)} {t:Nat} (h:ts.all (· != some t)=true) {i t':Nat} (hi:ts.getD i none=some t'):t'≠t:=by
 intro e
 subst e
 have hl:i<ts.length:=Classical.byContradiction fun hn=>by rw [zai hn] at hi;cases hi
 have:=(List.all_eq_true.1 h) _ (List.getElem_mem hl)
 rw [za3 hl] at hi
 rw [hi] at this
 simp at this
theorem zzm {ts:List (Option Nat)} {m t u k:Nat} (h:2<=(ts.take m).count (some t)) (hall:(ts.set k none).all (· != some u)=true):t≠u:=by
 intro e
 subst e
 have h1:2<=ts.count (some t):=Nat.le_trans h (List.Sublist.count_le _ (List.take_sublist _ _))
 have h2:0<(ts.set k none).count (some t):=by
  by_cases hk:k<ts.length
  ·rw [List.count_set hk]
   split <;> split <;> omega
  ·rw [List.set_eq_of_length_le (by omega)];omega
 have:=List.all_eq_true.1 hall _ (List.count_pos_iff.1 h2)
 simp at this
theorem yci {ts:List (Option Nat)} {m t u:Nat} (h:2<=(ts.take m).count (some t)) (hall:ts.all (· != some u)=true):t≠u:=by
 intro e
 subst e
 have h2:0<(ts.take m).count (some t):=by omega
 have:=List.all_eq_true.1 hall _ (List.mem_of_mem_take (List.count_pos_iff.1 h2))
 simp at this
theorem zcm (ht:Tied B ts n x a) (y:Option Nat):B.nk<=(ts ++ [y]).length/\∀ t v,B.kp t=some v->a.tmps.getD t undef=v/\2<=((ts ++ [y]).take B.nk).count (some t):=by
 refine ⟨by have:=ht.nk;simp;omega,fun t v h=> ?_⟩
 rw [List.take_append_of_le_length ht.nk]
 exact ht.kp t v h
theorem zko (h:SR B x FV FC FX) (ht:Tied B ts n x a) {val:Value} {v:V} {G:Nat->List Nat} (hp:Pend x val v G) (hF:∀ b,FX.count b=(cat v.cells.length G).count b)
 {dst d ts'} (hd:zjp ts n dst d=some ts') {ns:Nat} {s2:St} (hs:x.st.dest ns d v=some s2):
 ∃ x' FV' FC',x'.w=x.w/\x'.st=s2/\x'.φ=x.φ/\x'.I=x.I/\SR B x' FV' FC' []/\Tied B ts' n x' (a.put dst val):=by
 cases d with
 | none=>
   simp only [St.dest,Option.some.injEq] at hs
   subst hs
   refine ⟨x.push val v,_,_,rfl,rfl,rfl,rfl,h.push (FX':=[]) hp fun b=>by rw [hF b];simp,?_⟩
   cases dst with
   | none=>
     simp only [zjp,Option.some.injEq] at hd
     subst hd
     refine ⟨by simp [Cx.push,St.push,ht.len],fun i t hi=> ?_,ht.size,ht.defers,ht.nbx,ht.phi,(zcm ht none).1,(zcm ht none).2⟩
     rw [zbn] at hi
     split at hi
     ·cases hi
     ·rename_i hne
      rw [ht.len] at hne
      simp only [Cx.push,zam _ _ hne]
      exact ht.tie i t hi
   | some t=>
     simp only [zjp] at hd
     split at hd
     ·rename_i hc
      cases hd
      refine ⟨by simp [Cx.push,St.push,ht.len],fun i t' hi=> ?_,by simp [Act.put,ht.size],ht.defers,ht.nbx,ht.phi,(zcm ht _).1,fun u v hu=>by
       have h1:=(zcm ht (some t)).2 u v hu
       exact ⟨by rw [zfa (yci (ht.kp u v hu).2 hc.2)];exact h1.1,h1.2⟩⟩
      rw [zbn] at hi
      split at hi
      ·rename_i he
       cases hi
       rw [he,ht.len]
       simp only [Cx.push,zaj]
       rw [zm6 (by rw [ht.size];exact hc.1)]
      ·rename_i hne
       rw [ht.len] at hne
       simp only [Cx.push,zam _ _ hne]
       rw [zfa (zzl hc.2 hi)]
       exact ht.tie i t' hi
     ·cases hd
 | some k=>
   cases dst with
   | none=>cases hd
   | some t=>
     simp only [zjp] at hd
     split at hd
     ·rename_i hc
      obtain ⟨htn,hk,htk,hall⟩:=hc
      cases hd
      simp only [St.dest] at hs
      split at hs
      ·rename_i y s1 hset
       cases hs
       rw [ht.len] at hk
       have settled:∃ FV1 FC1 FX1 G1,SR B ⟨x.w,x.I,x.φ,x.tm,s1⟩ FV1 FC1 FX1/\(∀ b,FX1.count b=(cat (y.leafwise (V.only1 ns k)).cells.length G1).count b)/\
        Pend ⟨x.w,x.I,x.φ,x.tm,s1⟩ val (y.leafwise (V.only1 ns k)) G1/\Gho x.st s1:=by
        have go:∀ (zs:List V) (vals:Nat->Value) (ys:List V),x.st.settles ns k zs=some (ys,s1)->(∀ c,c<zs.length->x.LR1 (vals c) (zs.getD c .gone) (G c))->(∀ b,FX.count b=(cat zs.length G).count b)->
         ∃ FV1 FC1 FX1 G1,SR B ⟨x.w,x.I,x.φ,x.tm,s1⟩ FV1 FC1 FX1/\(∀ b,FX1.count b=(cat zs.length G1).count b)/\ys.length=zs.length/\
           (∀ c,c<zs.length->Cx.LR1 ⟨x.w,x.I,x.φ,x.tm,s1⟩ (vals c) (V.only1 ns k (ys.getD c .gone)) (G1 c))/\Gho x.st s1:=by
         intro zs vals ys hys hL hFz
         obtain ⟨FV1,FC1,FX1,G1,k1,k2,k3,k4,k5,_⟩:=zlf ns k (x0:=x) (I:=x.I) (fun _ h=>h) zs vals G (s:=x.st) h (.refl _)
          (fun c hc hz=>by
           have:=hL c hc
           have hG:=zck this (zkh hz)
           rw [hG] at this;exact ⟨this,hG⟩)
          (fun c hc _=>hL c hc) hys
         exact ⟨FV1,FC1,FX1,G1,k1,fun b=>by have e1:=k2 b;have e2:=hFz b;omega,k3,k4,k5⟩
        by_cases hv:∃ cs,v=.agg cs
        ·obtain ⟨cs,rfl⟩:=hv
         simp only [St.settle,Option.map_eq_some_iff] at hset
         obtain ⟨⟨ys,s3⟩,h1,h2⟩:=hset
         simp only [Prod.mk.injEq] at h2
         obtain ⟨rfl,rfl⟩:=h2
         obtain ⟨FV1,FC1,FX1,G1,k1,k2,k3,k4,k5⟩:=go cs (zac val (.agg cs)) ys h1 (fun c hc=>hp.cells c hc) hF
         refine ⟨FV1,FC1,FX1,G1,k1,?_,⟨?_,?_⟩,k5⟩
         ·simp only [V.leafwise,V.cells,List.length_map,k3];exact k2
         ·obtain ⟨u,h1,h2⟩:=hp.shape
          exact ⟨u,h1,by simp only [List.length_map,k3];exact h2⟩
         ·intro c hc
          simp only [V.leafwise,V.cells,List.length_map,k3] at hc ⊢
          rw [zas _ (by rcases (zen ns k).or .gone with h|h <;> exact h)]
          exact k4 c hc
        ·by_cases hvt:∃ vs,v=.tup vs
         ·obtain ⟨vs,rfl⟩:=hvt
          cases hset
         ·have hv1:v.cells=[v]:=by cases v <;> first|exact absurd ⟨_,rfl⟩ hv|exact absurd ⟨_,rfl⟩ hvt|rfl
          have hv2:zac val v 0=val:=by cases v <;> first|exact absurd ⟨_,rfl⟩ hv|exact absurd ⟨_,rfl⟩ hvt|rfl
          have hset':x.st.settleLeaf ns k v=some (y,s1):=by cases v <;> first|exact absurd ⟨_,rfl⟩ hv|exact absurd ⟨_,rfl⟩ hvt|exact hset
          have hL:=hp.cells 0 (by rw [hv1];simp)
          rw [hv1,hv2] at hL
          obtain ⟨FV1,FC1,FX1,G1,k1,k2,k3,k4,k5⟩:=go [v] (fun _=>val) [y] (by simp [St.settles,hset']) (fun c hc=>by
           have:c=0:=by simpa using hc
           subst this;exact hL) (by rw [hv1] at hF;exact hF)
          have hL1:=k4 0 (by simp)
          simp only [List.getD_cons_zero] at hL1
          have hleaf:=zbp hL1
          have hyl:y.leafwise (V.only1 ns k)=V.only1 ns k y:=by
           cases y with
           | agg cs=>cases hleaf
           | tup cs=>cases hleaf
           | _=>rfl
          have hc1:(V.only1 ns k y).cells=[V.only1 ns k y]:=by
           generalize V.only1 ns k y=z at hleaf
           cases z <;> first|(cases hleaf;done)|rfl
          have hp1:zac val (V.only1 ns k y) 0=val:=by
           generalize V.only1 ns k y=z at hleaf
           cases z <;> first|(cases hleaf;done)|rfl
          refine ⟨FV1,FC1,FX1,G1,k1,?_,⟨?_,?_⟩,k5⟩
          ·rw [hyl,hc1];exact k2
          ·rw [hyl];exact zpy hL1
          ·intro c hc
           rw [hyl,hc1] at hc ⊢
           have:c=0:=by simpa using hc
           subst this
           rw [hp1];exact hL1
       obtain ⟨FV1,FC1,FX1,G1,k1,k2,k3,k4⟩:=settled
       have hlen:s1.vars.length=x.st.vars.length:=k4.vlen
       have hvlen:((s1.vars.map (V.leafwise (V.killVar1 k))).set k .gone).length=s1.vars.length:=by simp
       obtain ⟨f1,f2⟩:=k1.forget (st':={ s1 with vars:=(s1.vars.map (V.leafwise (V.killVar1 k))).set k .gone }) (K:=(· ≠ .var k)) (zau k) (fun z=>zhv) (fun i=>decide (i=k))
        (by simp) (Nat.le_refl _)
        (by
         intro i hi
         simp only [List.length_set,List.length_map] at hi
         simp only
         rw [zal _ _ (by simpa using hi),zas]
         ·by_cases e:i=k
          ·simp [e]
          ·simp [e]
         ·rfl)
        (fun _ _=>rfl)
        (fun i hK hi=>⟨by simpa using hi,by simp only [decide_eq_false_iff_not];intro e;exact hK (by rw [e])⟩)
        (fun _ _ h=>h)
        (by
         intro i hi c
         simp only [List.length_set,List.length_map] at hi
         simp only
         rw [zal _ _ (by simpa using hi)]
         split
         ·by_cases h0:c=0
          ·subst h0;trivial
          ·rw [zai (by simp [V.cells];omega)];trivial
         ·rw [zas (f:=V.leafwise (V.killVar1 k)) _ rfl,zae (zau k),zas (f:=V.killVar1 k) _ rfl]
          exact zd9)
        (fun j hj c=>k1.boxkept j hj c)
       have hkk:k<s1.vars.length:=by omega
       have hkeep:∀ c,zbe (· ≠ .var k) ((y.leafwise (V.only1 ns k)).cells.getD c .gone):=by
        intro c
        rw [zae (zen ns k),zas (f:=V.only1 ns k) _ (by rcases (zen ns k).or .gone with h|h <;> exact h)]
        exact zvj
       have hpend:Pend ⟨x.w,x.I,x.φ,x.tm,{ s1 with vars:=(s1.vars.map (V.leafwise (V.killVar1 k))).set k .gone }⟩ val (y.leafwise (V.only1 ns k)) G1:=
        ⟨k3.shape,fun c hc=>by
         have:=k3.cells c hc
         exact LR1.move k1 f2 (LR1.lt this) (hkeep c) this⟩
       have g1:=f1.setVar (k:=k) (FX':=[]) (by simpa using hkk) (by
        simp only
        rw [zal _ _ (by simpa using hkk),if_pos rfl])
        (by
         intro i hi c
         simp only [List.length_set,List.length_map] at hi
         simp only
         rw [zal _ _ (by simpa using hi)]
         split
         ·by_cases h0:c=0
          ·subst h0;trivial
          ·rw [zai (by simp [V.cells];omega)];trivial
         ·rw [zas (f:=V.leafwise (V.killVar1 k)) _ rfl,zae (zau k),zas (f:=V.killVar1 k) _ rfl]
          exact zd9)
        (fun j hj c=>k1.boxkept j hj c)
        (fun c _=>hkeep c) hpend (fun b=>by rw [k2 b];simp)
       simp only [List.set_set] at g1
       have g2:=g1.push (val:=undef) (v:=.gone) (G:=fun _=>[]) (FX':=[]) ⟨trivial,fun c hc=>by
        have:c=0:=by simpa [V.cells] using hc
        subst this;exact rfl⟩ (fun b=>by simp [cat,V.cells])
       refine ⟨_,_,_,?_,?_,?_,?_,g2,?_⟩
       all_goals try rfl
       refine ⟨by simp [Cx.push,St.push,ht.len,hlen],fun i t' hi=> ?_,by simp [Act.put,ht.size],ht.defers,by show B.nb<=s1.boxes.length;rw [k4.blen];exact ht.nbx,ht.phi,(zcm ht _).1,fun u v hu=>by
        have h1:=(zcm ht none).2 u v hu
        exact ⟨by rw [zfa (zzm (ht.kp u v hu).2 hall)];exact h1.1,h1.2⟩⟩
       rw [zbn] at hi
       split at hi
       ·cases hi
       ·rename_i hne
        rw [ht.len] at hne
        simp only [Cx.push,List.length_set,List.length_map,hlen,zam _ _ hne]
        by_cases e:i=k
        ·subst e
         rw [htk] at hi
         cases hi
         rw [zaj,zm6 (by rw [ht.size];exact htn)]
        ·rw [zam _ _ e]
         have hi2:i<ts.length:=Classical.byContradiction fun hn=>by rw [zai hn] at hi;cases hi
         have:(ts.set k none).getD i none=some t':=by rw [zal _ _ hi2,if_neg e];exact hi
         rw [zfa (zzl hall this)]
         exact ht.tie i t' hi
      ·cases hs
     ·cases hd
end Go.Pm
