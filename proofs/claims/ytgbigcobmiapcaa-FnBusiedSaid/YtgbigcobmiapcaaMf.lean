/- Proved: the law FnBusied answers true at all arguments, for every operating system that has started; no conditions beyond the row's own. -/
import Derived.Test.YtgbigcobmiapcaaMe
import Derived.Laws.MakeOwn
set_option linter.unusedVariables false
set_option linter.unusedSimpArgs false
namespace Go.Pm
variable {P:Program} {B:Base} {x:Cx} {FV FC:Nat->Nat->List Nat} {FX:List Nat} {a:Act} {ts:List (Option Nat)} {n:Nat}
theorem zb9 {n:Nat} {F:Nat->List Nat} {b:Nat} (hF:∀ i,i<n->b ∉ F i):tot n F b=0:=by
 induction n with
 | zero=>rfl
 | succ n ih=>
   rw [zak,ih fun i hi=>hF i (by omega)]
   have:(F n).count b=0:=List.count_eq_zero.2 (hF n (by omega))
   omega
theorem SR.held_out (h:SR B x FV FC FX) (FX':List Nat) {b:Nat} (hb:x.w.heap.size<=b):zar x.st x.φ FV FC FX' b=FX'.count b:=by
 unfold zar
 rw [zb9,zb9]
 ·omega
 ·intro k hk hm
  rcases List.mem_cons.1 hm with rfl|hm
  ·have:=h.box_lt hk;omega
  ·obtain ⟨c,hc,hm⟩:=mem_cat.1 hm
   have:=h.lt (r:=.box k) (zbl hk) hc hm;omega
 ·intro i hi hm
  obtain ⟨c,hc,hm⟩:=mem_cat.1 hm
  have:=h.lt (r:=.var i) (zbo hi) hc hm;omega
theorem SR.grow (h:SR B x FV FC FX) {w':World} {I':Nat->Prop} {FX':List Nat} (hw:∀ b,b<x.w.heap.size->w'.heap[b]? =x.w.heap[b]?) (hgw:Grow x.w w')
 (hI:∀ b,x.I b->I' b) (hIn:∀ b,I' b->x.I b\/(x.w.heap.size<=b/\FX'.count b=0)) (hIl:∀ b,I' b->b<w'.heap.size) (hF:∀ b,b<x.w.heap.size->FX'.count b<=FX.count b) (hF':∀ b,x.w.heap.size<=b->FX'.count b<=1):
 SR B ⟨w',I',x.φ,x.tm,x.st⟩ FV FC FX'/\Moves x ⟨w',I',x.φ,x.tm,x.st⟩ (fun _=>True):=by
 have hsz:=hgw.size
 have hm:Moves x ⟨w',I',x.φ,x.tm,x.st⟩ (fun _=>True):=by
  refine ⟨fun r _ cs hcs=>⟨cs,hcs,rfl,fun _ _ _ _ h=>h⟩,?_,fun _ _=>rfl,hI,hw⟩
  intro r _ cs hcs c hc
  rcases za6 hcs with ⟨i,rfl,hi,rfl⟩|⟨k,rfl,hk,rfl⟩
  ·rfl
  ·show zad w' (x.φ k) c=zad x.w (x.φ k) c
   simp only [zad,World.cell?,hw _ (h.box_lt hk)]
 have hle:∀ b,b<x.w.heap.size->zar x.st x.φ FV FC FX' b<=zar x.st x.φ FV FC FX b:=by
  intro b hb
  have:=hF b hb
  unfold zar;omega
 refine ⟨⟨h.shape,?_,?_,?_,h.bmark,?_,?_,hIl,?_,h.gr.trans hgw,?_,fun b hb=>hI b (h.imm b hb),?_⟩,hm⟩
 ·intro i hi c hc
  have:=h.vars i hi c hc
  rw [hm.rv (.var i) trivial _ (zbo hi) c hc]
  exact LR1.move h hm (LR1.lt this) zc2 this
 ·intro k hk
  obtain ⟨cs,E,lo,hi,h1,h2⟩:=h.box k hk
  exact ⟨cs,E,lo,hi,(hw _ (h.box_lt hk)).trans h1,h2⟩
 ·intro k hk c hc
  have:=h.boxes k hk c hc
  rw [hm.rv (.box k) trivial _ (zbl hk) c hc]
  exact LR1.move h hm (LR1.lt this) zc2 this
 ·intro b
  by_cases hb:b<x.w.heap.size
  ·exact Nat.le_trans (hle b hb) (h.one b)
  ·show zar x.st x.φ FV FC FX' b<=1
   rw [h.held_out FX' (by omega)];exact hF' b (by omega)
 ·intro b hb
  show zar x.st x.φ FV FC FX' b=0
  rcases hIn b hb with h1|⟨h1,h2⟩
  ·have:=hle b (h.ilt b h1);have:=h.apart b h1;omega
  ·rw [h.held_out FX' h1];exact h2
 ·intro b hb hO
  exact (hw b (Nat.lt_of_lt_of_le hb h.size)).trans (h.keep b hb hO)
 ·intro b hb
  by_cases hlt:b<x.w.heap.size
  ·exact h.held b (Nat.lt_of_lt_of_le hb (hle b hlt))
  ·exact .inr (Nat.le_trans h.size (by omega))
 ·intro b hb
  rcases hIn b hb with h1|⟨h1,_⟩
  ·exact h.new b h1
  ·exact .inr (.inr (Nat.le_trans h.size h1))
def St.pushBox (s:St) (z:List V):St:={ s with boxes:=s.boxes ++ [z] }
theorem zd3 {s:St} {z:List V} {k:Nat} (h:k<s.boxes.length):(s.pushBox z).boxes.getD k []=s.boxes.getD k []:=by
 simp [St.pushBox,List.getD,List.getElem?_append_left h]
theorem zd6 {s:St} {z:List V}:(s.pushBox z).boxes.getD s.boxes.length []=z:=by simp [St.pushBox,List.getD]
theorem SR.pushBox (h:SR B x FV FC FX) {z:List V} {b:Nat} {G:Nat->List Nat} {FX':List Nat} (hrows:Rows x.w b z.length) (hz:∀ c,c<z.length->x.LR1 (zad x.w b c) (z.getD c .gone) (G c))
 (hm:∀ c,c<z.length->(z.getD c .gone).mark=true->∃ k' c',z.getD c .gone=.ref (.box k') c' [])
 (hF:∀ i,(if i=b then 1 else 0)+(cat z.length G).count i+FX'.count i<=FX.count i):
 SR B ⟨x.w,x.I,upd x.φ x.st.boxes.length b,x.tm,x.st.pushBox z⟩ FV (upd FC x.st.boxes.length G) FX'/\Moves x ⟨x.w,x.I,upd x.φ x.st.boxes.length b,x.tm,x.st.pushBox z⟩ (fun r=>∀ k,r=.box k->k<x.st.boxes.length):=by
 have hmv:Moves x ⟨x.w,x.I,upd x.φ x.st.boxes.length b,x.tm,x.st.pushBox z⟩ (fun r=>∀ k,r=.box k->k<x.st.boxes.length):=by
  refine ⟨?_,?_,?_,fun _ h=>h,fun _ _=>rfl⟩
  ·intro r _ cs hcs
   refine ⟨cs,?_,rfl,fun _ _ _ _ h=>h⟩
   rcases za6 hcs with ⟨i,rfl,hi,rfl⟩|⟨k,rfl,hk,rfl⟩
   ·exact hcs
   ·show (x.st.pushBox z).root (.box k)=_
    rw [zbl (by simp [St.pushBox];omega),zd3 hk]
  ·intro r _ cs hcs c hc
   rcases za6 hcs with ⟨i,rfl,hi,rfl⟩|⟨k,rfl,hk,rfl⟩
   ·rfl
   ·show zad x.w (upd x.φ x.st.boxes.length b k) c=_
    rw [zam _ _ (by omega)];rfl
  ·intro k hk;exact zam _ _ (by have:=hk k rfl;omega)
 have kept:∀ v z' F,x.LR1 v z' F->zbe (fun r=>∀ k,r=.box k->k<x.st.boxes.length) z':=by
  intro v z' F hL
  cases z' with
  | ref r c up=>
    intro k e;subst e
    cases up with
    | nil=>obtain ⟨_,k',cs,e,h1,_⟩:=hL;cases e;exact (List.getElem?_eq_some_iff.1 h1).1
    | cons s up=>
      obtain ⟨i,e,c'⟩:=s
      obtain ⟨_,⟨cs,h1⟩,_⟩:=hL
      obtain ⟨F',_,_,rs,hrs,_⟩:=h.at (.box k) up _ (zaf h1).choose_spec.choose_spec.1 c' (zaf h1).choose_spec.choose_spec.2.1
      exact (List.getElem?_eq_some_iff.1 hrs).1
  | hd e r c up lo hi=>
    intro k e';subst e'
    obtain ⟨_,xs,h1,_⟩:=hL
    obtain ⟨cs,hcs,hlt,_⟩:=zba h1
    obtain ⟨F',_,_,rs,hrs,_⟩:=h.at (.box k) up cs hcs c hlt
    exact (List.getElem?_eq_some_iff.1 hrs).1
  | fn f caps=>
    obtain ⟨_,cs,_,_,h4⟩:=hL
    intro i k hi hc k' e
    cases e
    obtain ⟨⟨b,h5⟩,_⟩:=h4 i k hi hc
    exact (List.getElem?_eq_some_iff.1 h5).1
  | _=>trivial
 have hlen:(x.st.pushBox z).boxes.length=x.st.boxes.length+1:=by simp [St.pushBox]
 have hheld:∀ i,zar (x.st.pushBox z) (upd x.φ x.st.boxes.length b) FV (upd FC x.st.boxes.length G) FX' i<=zar x.st x.φ FV FC FX i:=by
  intro i
  unfold zar
  rw [hlen,zak]
  have e1:tot x.st.boxes.length (fun k=>upd x.φ x.st.boxes.length b k::cat ((x.st.pushBox z).boxes.getD k []).length (upd FC x.st.boxes.length G k)) i=
   tot x.st.boxes.length (fun k=>x.φ k::cat (x.st.boxes.getD k []).length (FC k)) i:=zaa i fun k hk=>by rw [zd3 hk,zam _ _ (by omega),zam _ _ (by omega)]
  rw [e1,zd6,zaj,zaj,List.count_cons]
  have:=hF i
  have e2:(if (b == i)=true then 1 else 0)=(if i=b then 1 else 0):=by
   by_cases e:i=b
   ·subst e;simp
   ·have:¬ b=i:=fun h=>e h.symm
    simp [e,this]
  rw [e2]
  show tot x.st.vars.length (fun i=>cat (x.st.vars.getD i .gone).cells.length (FV i)) i+_+_<=_
  omega
 refine ⟨⟨h.shape,?_,?_,?_,?_,fun i=>Nat.le_trans (hheld i) (h.one i),fun i hi=> ?_,h.ilt,h.keep,h.gr,fun i hi=>h.held i (Nat.lt_of_lt_of_le hi (hheld i)),h.imm,h.new⟩,hmv⟩
 ·intro i hi c hc
  have:=h.vars i hi c hc
  exact LR1.move h hmv (LR1.lt this) (kept _ _ _ this) this
 ·intro k hk
  have hk':k<x.st.boxes.length+1:=by simpa [St.pushBox] using hk
  by_cases e:k=x.st.boxes.length
  ·subst e;simp only [zaj,zd6];exact hrows
  ·simp only [zam _ _ e,zd3 (show k<x.st.boxes.length by omega)];exact h.box k (by omega)
 ·intro k hk c hc
  have hk':k<x.st.boxes.length+1:=by simpa [St.pushBox] using hk
  by_cases e:k=x.st.boxes.length
  ·subst e
   simp only [zd6] at hc ⊢
   have:=hz c hc
   simp only [Cx.rv,zaj]
   exact LR1.move h hmv (LR1.lt this) (kept _ _ _ this) this
  ·have hk2:k<x.st.boxes.length:=by omega
   simp only [zd3 hk2] at hc ⊢
   have:=h.boxes k hk2 c hc
   simp only [Cx.rv,zam _ _ e]
   exact LR1.move h hmv (LR1.lt this) (kept _ _ _ this) this
 ·intro k hk c hc
  have hk':k<x.st.boxes.length+1:=by simpa [St.pushBox] using hk
  by_cases e:k=x.st.boxes.length
  ·subst e
   simp only [zd6] at hc ⊢
   exact hm c hc
  ·have hk2:k<x.st.boxes.length:=by omega
   simp only [zd3 hk2] at hc ⊢
   exact h.bmark k hk2 c hc
 ·have:=h.apart i hi
  have:=hheld i
  show zar (x.st.pushBox z) (upd x.φ x.st.boxes.length b) FV (upd FC x.st.boxes.length G) FX' i=0
  omega
def okZ:Value->V->Bool
 | .int k m,.int k' m'=>k == k'&&m == m'
 | .bool b,.bool b'=>b == b'
 | .string s,.str s'=>s.data.toList == s'.data.toList
 | .pointer none,.pnil=>true
 | .slice none 0 0,.own _ []=>true
 | .slice none 0 0,.imm _ []=>true
 | v,.gone=>v.oneCell'
 | _,_=>false
def yao:List Value->List V->Bool
 | [],[]=>true
 | v::vs,x::xs=>okZ v x&&yao vs xs
 | _,_=>false
theorem ykx {w I v y} (h:okZ v y=true):VR w I v y []/\y.leaf=true:=by
 unfold okZ at h
 split at h
 ·simp only [Bool.and_eq_true,beq_iff_eq] at h;obtain ⟨rfl,rfl⟩:=h;exact ⟨VR.int _ _,rfl⟩
 ·simp only [beq_iff_eq] at h;subst h;exact ⟨VR.bool _,rfl⟩
 ·rename_i s s'
  simp only [beq_iff_eq] at h
  have:s=s':=by
   cases s;cases s';congr 1
   exact Array.toList_inj.1 h
  subst this;exact ⟨VR.str _,rfl⟩
 ·exact ⟨VR.pnil,rfl⟩
 ·exact ⟨VR.own0 _,rfl⟩
 ·exact ⟨VR.imm0 _ _ _,rfl⟩
 ·exact ⟨VR.gone _ h,rfl⟩
 ·cases h
theorem zn4 {w I}:∀ {vs:List Value} {ys:List V},yao vs ys=true->vs.length=ys.length/\∀ c,c<ys.length->VR w I (vs.getD c undef) (ys.getD c .gone) []/\(ys.getD c .gone).leaf=true
 | [],[],_=>⟨rfl,fun c hc=>by simp at hc⟩
 | v::vs,y::ys,h=>by
   simp only [yao,Bool.and_eq_true] at h
   obtain ⟨h1,h2⟩:=zn4 (w:=w) (I:=I) h.2
   refine ⟨by simp [h1],fun c hc=> ?_⟩
   cases c with
   | zero=>exact ykx h.1
   | succ c=>exact h2 c (by simpa using hc)
 | [],_::_,h=>by cases h
 | _::_,[],h=>by cases h
def zu4 (P:Program) (t:TypeId) (z:List V):Bool:=
 match P.info? t with
 | some i=>match i.zero with
   | some v=>yao v.cells.toList z
   | none=>false
 | none=>false
theorem zsb {t z} (h:zu4 P t z=true):∃ i v,P.info? t=some i/\i.zero=some v/\yao v.cells.toList z=true:=by
 unfold zu4 at h
 split at h
 ·rename_i i hi
  split at h
  ·rename_i v hv;exact ⟨i,v,hi,hv,h⟩
  ·cases h
 ·cases h
theorem zvf (w:World) (cs:Array Value) (t:TypeId) (m:Nat) (hm:m<=cs.size):Rows (w.alloc (.cells cs t)) w.heap.size m:=
 ⟨cs,t,0,0,heap_alloc_new w _,hm,fun o _=>by omega⟩
theorem ybc (h:SR B x FV FC FX) (ht:Tied B ts n x a) {t:TypeId} {cs:Array Value} {z:List V} {G:Nat->List Nat} (hl:cs.size=z.length)
 (hz:∀ c,c<z.length->VR x.w x.I (cs.getD c undef) (z.getD c .gone) (G c)/\(z.getD c .gone).leaf=true) (hF:∀ b,FX.count b=(cat z.length G).count b):
 Out B n ts a (x.st.pushBox z) (.ref (.box x.st.boxes.length) 0 []) (.pointer (some ⟨x.w.heap.size,0,none⟩)) (x.w.alloc (.cells cs t)):=by
 have hw:∀ b,b<x.w.heap.size->(x.w.alloc (.cells cs t)).heap[b]? =x.w.heap[b]? :=fun b hb=>heap_alloc_old x.w _ b hb
 have hFlt:∀ b,x.w.heap.size<=b->FX.count b=0:=by
  intro b hb
  rw [hF b,za2]
  refine zb9 fun c hc hm=> ?_
  have:=(hz c hc).1.lt b hm;omega
 obtain ⟨g1,g2⟩:=h.grow (w':=x.w.alloc (.cells cs t)) (I':=x.I) (FX':=x.w.heap.size::FX) hw ⟨by simp,rfl,rfl,rfl⟩ (fun _ h=>h) (fun b hb=>.inl hb) (fun b hb=>by have:=h.ilt b hb;simp;omega)
  (fun b hb=>by rw [List.count_cons,if_neg (by simp;omega)];omega)
  (fun b hb=>by rw [List.count_cons,hFlt b hb];split <;> omega)
 have hcell:∀ c,c<z.length->zad (x.w.alloc (.cells cs t)) x.w.heap.size c=cs.getD c undef:=by
  intro c hc
  simp [zad,Array.getD_eq_getD_getElem?]
 obtain ⟨g3,g4⟩:=g1.pushBox (z:=z) (b:=x.w.heap.size) (G:=G) (FX':=[]) (zvf x.w cs t z.length (by omega))
  (fun c hc=>by
   rw [hcell c hc]
   have:=(hz c hc).1.keep (w':=x.w.alloc (.cells cs t)) (I':=x.I) (fun _ h=>h) (fun b hb=>hw b (h.ilt b hb)) (fun b hb=>hw b ((hz c hc).1.lt b hb))
   exact za8 this (hz c hc).2)
  (fun c hc hm=>by rw [zbm (hz c hc).1] at hm;cases hm)
  (fun i=>by
   rw [List.count_cons,hF i]
   by_cases e:i=x.w.heap.size
   ·subst e;simp;omega
   ·have e':¬ x.w.heap.size=i:=fun h=>e h.symm
    simp [e,e'])
 refine ⟨_,_,_,[],fun _=>[],rfl,rfl,g3,⟨ht.len,ht.tie,ht.size,ht.defers,?_,?_,ht.nk,ht.kp⟩,Pend.leaf ⟨rfl,x.st.boxes.length,z,rfl,?_,?_⟩,fun b=>by rw [zb6]⟩
 ·have:=ht.nbx;simp [St.pushBox];omega
 ·intro k hk
  have:=ht.nbx
  show upd x.φ x.st.boxes.length x.w.heap.size k=B.φ k
  rw [zam _ _ (by omega)];exact ht.phi k hk
 ·simp [St.pushBox]
 ·simp
theorem ych (h:SR B x FV FC []) (ht:Tied B ts n x a) {o:Oper} {t:TypeId} {z:List V} (ho:o.op=.alloc t) (hz:zu4 P t z=true):
 zc6 P o a x.w (Out B n ts a (x.st.pushBox z) (.ref (.box x.st.boxes.length) 0 [])):=by
 obtain ⟨i,v,hi,hv,hzs⟩:=zsb hz
 obtain ⟨h1,h2⟩:=zn4 (w:=x.w) (I:=x.I) hzs
 refine za9 (val:=.pointer (some ⟨x.w.heap.size,0,none⟩)) (w':=x.w.alloc (.cells v.cells t)) ?_ (ybc (G:=fun _=>[]) h ht (by simpa using h1) (fun c hc=> ?_) fun b=>by rw [zb6])
 ·simp [execOp,ho,Instr.alloc,zeroValue,typeInfo,hi,hv,newVar,newRow]
 ·have:=h2 c hc
  have e:v.cells.toList.getD c undef=v.cells.getD c undef:=by simp [List.getD,Array.getD_eq_getD_getElem?]
  rw [e] at this;exact this
end Go.Pm
namespace Go.Pm
variable {P:Program} {B:Base} {x:Cx} {FV FC:Nat->Nat->List Nat} {FX:List Nat} {a:Act} {ts:List (Option Nat)} {n:Nat}
theorem Tied.gho (ht:Tied B ts n x a) {I' s1} (g:Gho x.st s1):Tied B ts n ⟨x.w,I',x.φ,x.tm,s1⟩ a:=
 ⟨ht.len.trans g.vlen.symm,ht.tie,ht.size,ht.defers,by show B.nb<=s1.boxes.length;rw [g.blen];exact ht.nbx,ht.phi,ht.nk,ht.kp⟩
def zkw (frz:Bool):St->V->Option (V×St):=if frz then St.freezeLeaf else St.takeLeaf
theorem zf7 (frz:Bool):zpx (zkw frz):=by cases frz;exact zci;exact zgj
theorem zgh (frz:Bool):yc7 (zkw frz):=by cases frz;exact zdu;exact zht
theorem zh6 (frz:Bool) (s:St) (v:V):(if frz then s.freeze v else s.take v)=opw (zkw frz) s v:=by
 cases frz
 ·exact zf8 s v
 ·exact zh4 s v
theorem zbb (cs:Array Value) (c:Nat):cs.toList.getD c undef=cs.getD c undef:=by simp [List.getD,Array.getD_eq_getD_getElem?]
theorem zcf {val:Value} {y:V} (hs:zbk val y) (hnt:∀ vs,y ≠ .tup vs) (hg:y ≠ .gone):val.cells.size=y.cells.length/\∀ c,c<y.cells.length->val.cells.getD c undef=zac val y c:=by
 by_cases hag:∃ cs,y=.agg cs
 ·obtain ⟨cs,rfl⟩:=hag
  obtain ⟨arr,rfl,h2⟩:=hs
  exact ⟨h2,fun c _=>(zbb arr c).symm⟩
 ·have h1:val.cells= #[val]:=by cases y <;> first|exact absurd rfl hg|exact absurd rfl (hnt _)|exact absurd ⟨_,rfl⟩ hag|exact hs
  have h2:y.cells=[y]:=by cases y <;> first|exact absurd rfl (hnt _)|exact absurd ⟨_,rfl⟩ hag|rfl
  have h3:∀ c,zac val y c=val:=fun c=>by cases y <;> first|exact absurd rfl (hnt _)|exact absurd ⟨_,rfl⟩ hag|rfl
  rw [h1,h2]
  refine ⟨rfl,fun c hc=> ?_⟩
  have:c=0:=by simpa using hc
  subst this
  rw [h3];rfl
theorem yll (h:SR B x FV FC []) (ht:Tied B ts n x a) {o:Oper} {t:TypeId} {y oy} (ho:o.op=.box t y) (hy:za1 ts y oy=true) {v z s1} (hr:x.st.rd oy=some v) (hz:x.st.take v=some (z,s1)):
 zc6 P o a x.w (Out B n ts a (s1.pushBox z.cells) (.ref (.box s1.boxes.length) 0 [])):=by
 rw [zf8] at hz
 obtain ⟨I',FV',FC',FX1,G,H,hsh,hnt,hg⟩:=zgm zci zdu (x0:=x) (I:=x.I) (s:=x.st) h (fun _ h=>h) (.refl _) (zaq h ht hy hr) hz
 obtain ⟨h1,h2⟩:=zcf hsh hnt hg
 refine za9 (val:=.pointer (some ⟨x.w.heap.size,0,none⟩)) (w':=x.w.alloc (.cells (a.eval y).cells t)) ?_ ?_
 ·simp [execOp,ho,Instr.box,newVar,newRow]
 ·refine ybc (x:=⟨x.w,I',x.φ,x.tm,s1⟩) H.sr (ht.gho H.gho) h1 (fun c hc=> ?_) (fun b=>by have:=H.fx b;simpa using this)
  obtain ⟨h3,h4⟩:=H.vr c hc
  rw [h2 c hc]
  exact ⟨h3,zav h4⟩
theorem zd0 (frz:Bool) {x0:Cx}:∀ (vs:List V) (vals:Nat->Value) {I:Nat->Prop} {s:St} {FV FC:Nat->Nat->List Nat} {FX:List Nat} {ys s1},
 SR B ⟨x0.w,I,x0.φ,x0.tm,s⟩ FV FC FX->(∀ b,x0.I b->I b)->Gho x0.st s->(∀ i,i<vs.length->Pend x0 (vals i) (vs.getD i .gone) fun _=>[])->s.takesAll frz vs=some (ys,s1)->
 ∃ (I':Nat->Prop) (FV' FC':Nat->Nat->List Nat) (FX1:List Nat) (G:Nat->Nat->List Nat),(∀ b,I b->I' b)/\SR B ⟨x0.w,I',x0.φ,x0.tm,s1⟩ FV' FC' FX1/\(∀ b,FX1.count b=tot vs.length (fun i=>cat (ys.getD i .gone).cells.length (G i)) b+FX.count b)/\ys.length=vs.length/\
   (∀ i,i<vs.length->zbk (vals i) (ys.getD i .gone)/\(∀ us,ys.getD i .gone ≠ .tup us)/\ys.getD i .gone ≠ .gone/\∀ c,c<(ys.getD i .gone).cells.length->
    VR x0.w I' (zac (vals i) (ys.getD i .gone) c) ((ys.getD i .gone).cells.getD c .gone) (G i c)/\((ys.getD i .gone).cells.getD c .gone).firm=true)/\Gho x0.st s1
 | [],vals,I,s,FV,FC,FX,ys,s1,h,hI,g,hp,ht=>by
   cases ht
   exact ⟨I,FV,FC,FX,fun _ _=>[],fun _ h=>h,h,fun b=>by simp [tot],rfl,fun i hi=>by simp at hi,g⟩
 | v::vs,vals,I,s,FV,FC,FX,ys,s1,h,hI,g,hp,ht=>by
   simp only [St.takesAll,zh6] at ht
   split at ht
   ·rename_i y s2 ho
    simp only [Option.map_eq_some_iff] at ht
    obtain ⟨⟨ys',s3⟩,hr,he⟩:=ht
    simp only [Prod.mk.injEq] at he
    obtain ⟨rfl,rfl⟩:=he
    obtain ⟨I1,FV1,FC1,FX1,G1,H1,k1,k2,k3⟩:=zgm (zf7 frz) (zgh frz) h hI g (hp 0 (by simp)) ho
    obtain ⟨I2,FV2,FC2,FX2,G2,j1,j2,j3,j4,j5,j6⟩:=zd0 frz vs (fun i=>vals (i+1)) H1.sr (fun b hb=>H1.I b (hI b hb)) H1.gho (fun i hi=>hp (i+1) (by simpa using hi)) hr
    refine ⟨I2,FV2,FC2,FX2,fun i=>if i=0 then G1 else G2 (i - 1),fun b hb=>j1 b (H1.I b hb),j2,?_,by simp [j4],?_,j6⟩
    ·intro b
     have e1:=j3 b
     have e2:=H1.fx b
     have e3:=zb5 1 vs.length (fun i=>cat ((y::ys').getD i .gone).cells.length (if i=0 then G1 else G2 (i - 1))) b
     have e4:tot vs.length (fun q=>cat ((y::ys').getD (1+q) .gone).cells.length (if 1+q=0 then G1 else G2 (1+q - 1))) b=tot vs.length (fun i=>cat (ys'.getD i .gone).cells.length (G2 i)) b:=zaa b fun i _=>by
      rw [if_neg (by omega),Nat.add_comm 1 i];simp
     have e5:tot 1 (fun i=>cat ((y::ys').getD i .gone).cells.length (if i=0 then G1 else G2 (i - 1))) b=(cat y.cells.length G1).count b:=by simp [tot]
     have e7:1+vs.length=(v::vs).length:=by simp;omega
     rw [e7] at e3
     simp only [e4,e5] at e3
     show FX2.count b=tot (v::vs).length (fun i=>cat ((y::ys').getD i .gone).cells.length (if i=0 then G1 else G2 (i - 1))) b+FX.count b
     omega
    ·intro i hi
     cases i with
     | zero=>
       simp only [List.getD_cons_zero]
       refine ⟨k1,k2,k3,fun c hc=> ?_⟩
       obtain ⟨h1,h2⟩:=H1.vr c hc
       exact ⟨h1.keep j1 (fun _ _=>rfl) (fun _ _=>rfl),h2⟩
     | succ i=>
       have:=j5 i (by simpa using hi)
       simpa using this
   ·cases ht
theorem zut (e:Nat) (he:0<e) (F:Nat->Nat->List Nat) (b:Nat):∀ m,tot (m * e) (fun q=>F (q / e) (q % e)) b=tot m (fun i=>cat e (F i)) b
 | 0=>by simp [tot]
 | m+1=>by
   rw [zak,za2,<- zut e he F b m,Nat.add_mul,Nat.one_mul]
   have h1:=zb5 (m * e) e (fun q=>F (q / e) (q % e)) b
   have h2:tot e (fun q=>F ((m * e+q) / e) ((m * e+q) % e)) b=tot e (F m) b:=zaa b fun q hq=>by
    have h3:(m * e+q) / e=m:=by rw [Nat.add_comm,Nat.mul_comm,Nat.add_mul_div_left _ _ he,Nat.div_eq_of_lt hq];omega
    have h4:(m * e+q) % e=q:=by rw [Nat.add_comm,Nat.mul_comm,Nat.add_mul_mod_self_left,Nat.mod_eq_of_lt hq]
    rw [h3,h4]
   simp only [h2] at h1
   omega
theorem ykl {y:V} (hnt:∀ vs,y ≠ .tup vs) (h:∀ c,c<y.cells.length->(y.cells.getD c .gone).leaf=true):y.okE=true:=by
 cases y with
 | agg cs=>
   simp only [V.okE,List.all_eq_true]
   intro z hz
   obtain ⟨c,hc,rfl⟩:=List.mem_iff_getElem.1 hz
   have:=h c hc
   simp only [V.cells] at this
   rwa [za3 hc] at this
 | tup vs=>exact absurd rfl (hnt vs)
 | _=>rfl
theorem zr5 (h:SR B x FV FC FX) (ht:Tied B ts n x a) {t:TypeId} {cs:Array Value} {e:Nat} {ys:List V} {cap:Nat} {G:Nat->Nat->List Nat} (he:0<e) (hcap:ys.length<=cap) (hl:cap * e<=cs.size) {w':World}
 (hw:∀ b,b<x.w.heap.size->w'.heap[b]? =x.w.heap[b]?) (hsz:x.w.heap.size<w'.heap.size) (hgw:Grow x.w w') (hblk:∃ fz,w'.heap[x.w.heap.size]? =some (.cells cs t fz)/\∀ o,o<cs.size->¬(fz.1<=o/\o<fz.2))
 (hz:∀ y∈ys,y.cells.length=e) (hf:∀ y∈ys,y.okE=true)
 (hv:∀ i j,i<ys.length->j<e->VR x.w x.I (cs.getD (i * e+j) undef) (elt ys i j) (G i j)) (hF:∀ b,FX.count b=tot ys.length (fun i=>cat e (G i)) b):
 Out B n ts a x.st (.own e ys) (.slice (some ⟨x.w.heap.size,0,none⟩) ys.length cap) w':=by
 have hFlt:∀ b,x.w.heap.size<=b->FX.count b=0:=by
  intro b hb
  rw [hF b]
  refine zb9 fun i hi hm=> ?_
  obtain ⟨j,hj,hm⟩:=mem_cat.1 hm
  have:=(hv i j hi hj).lt b hm;omega
 obtain ⟨g1,g2⟩:=h.grow (w':=w') (I':=x.I) (FX':=x.w.heap.size::FX) hw hgw (fun _ h=>h) (fun b hb=>.inl hb) (fun b hb=>by have:=h.ilt b hb;omega)
  (fun b hb=>by rw [List.count_cons,if_neg (by simp;omega)];omega)
  (fun b hb=>by rw [List.count_cons,hFlt b hb];split <;> omega)
 obtain ⟨⟨lo,hi⟩,hb,hfz⟩:=hblk
 have hV:=VR.own (w:=w') (I:=x.I) ⟨x.w.heap.size,0,none⟩ cap e ys (fun q=>cs.getD q undef) (fun q=>G (q / e) (q % e)) rfl he hz hcap
  ⟨cs,t,lo,hi,hb,by simpa using hl,hfz⟩
  (fun q hq=>by
   have hq':q<cs.size:=by
    have:=Nat.mul_le_mul_right e hcap;omega
   simp [World.cell?,hb,Array.getD_eq_getD_getElem?,hq'])
  hf
  (fun i j hi hj=>by
   have h3:(i * e+j) / e=i:=by rw [Nat.add_comm,Nat.mul_comm,Nat.add_mul_div_left _ _ he,Nat.div_eq_of_lt hj];omega
   have h4:(i * e+j) % e=j:=by rw [Nat.add_comm,Nat.mul_comm,Nat.add_mul_mod_self_left,Nat.mod_eq_of_lt hj]
   rw [h3,h4]
   exact (hv i j hi hj).keep (fun _ h=>h) (fun b hb=>hw b (h.ilt b hb)) (fun b hb=>hw b ((hv i j hi hj).lt b hb)))
 refine ⟨⟨w',x.I,x.φ,x.tm,x.st⟩,FV,FC,x.w.heap.size::FX,fun _=>x.w.heap.size::cat (ys.length * e) fun q=>G (q / e) (q % e),rfl,rfl,g1,⟨ht.len,ht.tie,ht.size,ht.defers,ht.nbx,ht.phi,ht.nk,ht.kp⟩,⟨rfl,fun c hc=> ?_⟩,fun b=> ?_⟩
 ·have:c=0:=by simpa [V.cells] using hc
  subst this
  exact za8 hV rfl
 ·have e1:(cat (V.own e ys).cells.length fun _=>x.w.heap.size::cat (ys.length * e) fun q=>G (q / e) (q % e))=x.w.heap.size::cat (ys.length * e) fun q=>G (q / e) (q % e):=by simp [V.cells,cat]
  rw [e1,List.count_cons,List.count_cons,hF b,za2,zut e he]
theorem yd6 (h:SR B x FV FC []) (ht:Tied B ts n x a) {o:Oper} {t el:TypeId} {y y' oy} {e bytes:Nat} {z:V} {i:TypeInfo} {zv:Value} (ho:o.op=.makeSlice t y y') (hev:a.eval y=a.eval y') (hy:za1 ts y oy=true) (hu:P.underlying t=some (.slice el))
 (hi:P.info? el=some i) (hzv:i.zero=some zv) (hzs:yao zv.cells.toList z.cells=true) (hnt:z.okE=true) (hsize:i.size=e) (hby:i.bytes=bytes) (hze:z.cells.length=e) (he:0<e)
 {k m} (hr:x.st.rd oy=some (.int k m)) (h0:0<=m) (hb:m.toNat * bytes<=70368744177664) (h63:m<=9223372036854775807):zc6 P o a x.w (Out B n ts a x.st (.own e (List.replicate m.toNat z))):=by
 have e1:=zb1 (zaq h ht hy hr)
 have e1':a.eval y'=.int k m:=hev ▸ e1
 subst hsize hby
 obtain ⟨h1,h2⟩:=zn4 (w:=x.w) (I:=x.I) hzs
 have hzsz:zv.cells.size=i.size:=by rw [<- hze,<- h1];simp
 have hrun:=run_make (P:=P) x.w t el i zv hu hi hzv k k m m h0 (Int.le_refl _) (by
  have:((m.toNat * i.bytes:Nat):Int)<=70368744177664:=by omega
  rw [Int.natCast_mul] at this
  have hm:(m.toNat:Int)=m:=by omega
  rw [hm,Int.mul_comm] at this;omega) h63
 refine za9 (val:=.slice (some ⟨x.w.heap.size,0,none⟩) (List.replicate m.toNat z).length m.toNat) (w':=x.w.alloc (.cells (madeCells zv.cells (m.toNat * i.size)) el)) ?_
  (zr5 (G:=fun _ _=>[]) (cs:=madeCells zv.cells (m.toNat * i.size)) (t:=el) h ht he (by simp) (by rw [size_madeCells];exact Nat.le_refl _) (fun b hb=>heap_alloc_old _ _ b hb) (by simp) ⟨by simp,rfl,rfl,rfl⟩ ⟨(0,0),heap_alloc_new _ _,fun o _=>by simp⟩
   (fun y hy=>by rw [List.eq_of_mem_replicate hy];exact hze) (fun y hy=>by rw [List.eq_of_mem_replicate hy];exact hnt) ?_ (fun b=>by rw [zb9];rfl;intro i _ hm;rw [zb6] at hm;cases hm))
 ·simp [execOp,ho,e1,e1',hrun]
 ·intro q j hq hj
  simp only [List.length_replicate] at hq
  have h3:=(h2 j (by omega)).1
  have h4:elt (List.replicate m.toNat z) q j=z.cells.getD j .gone:=by unfold elt;simp [List.getD,hq]
  have h5:(madeCells zv.cells (m.toNat * i.size)).getD (q * i.size+j) undef=zv.cells.toList.getD j undef:=by
   have hlt:=zca (e:=i.size) hq hj
   rw [zbb]
   have h6:(q * i.size+j) % i.size=j:=by rw [Nat.add_comm,Nat.mul_comm,Nat.add_mul_mod_self_left,Nat.mod_eq_of_lt hj]
   have hj':j<zv.cells.size:=by omega
   simp only [madeCells,Array.getD_eq_getD_getElem?,Array.getElem?_map,Array.getElem?_range,if_pos hlt,hzsz,h6,Option.map_some,Option.getD_some]
   simp [hj']
  rw [h4,h5]
  exact h3
end Go.Pm
