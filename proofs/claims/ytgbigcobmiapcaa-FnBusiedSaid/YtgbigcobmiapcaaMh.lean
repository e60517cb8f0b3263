/- Proved: the law FnBusied answers true at all arguments, for every operating system that has started; no conditions beyond the row's own. -/
import Derived.Test.YtgbigcobmiapcaaMg
import Derived.Laws.Tables
set_option linter.unusedVariables false
set_option linter.unusedSimpArgs false
namespace Go.Pm
variable {P:Program} {B:Base} {x:Cx} {FV FC:Nat->Nat->List Nat} {FX:List Nat} {a:Act} {ts:List (Option Nat)} {n:Nat}
def yjg (place:Nat->Option (Nat×Nat)) (ts:List (Option Nat)) (m:Nat):List (Nat×Operand)->List (Nat×Nat×Opnd)->Bool
 | [],[]=>true
 | (i,y)::ys,(off,k,o)::os=>place i == some (off,k)&&decide (off+k<=m)&&za1 ts y o&&yjg place ts m ys os
 | _,_=>false
theorem zle (h:SR B x FV FC FX) (ht:Tied B ts n x a) (place:Nat->Option (Nat×Nat)) (m:Nat):∀ (parts:List (Nat×Operand)) (ps:List (Nat×Nat×Opnd)) (vs:List (Nat×V)) (cs:Array Value) (z:List V),
 yjg place ts m parts ps=true->x.st.rdParts ps=some vs->cs.size=m->z.length=m->(∀ c,c<m->x.LR1 (cs.getD c undef) (z.getD c .gone) [])->
 ∃ cs',Instr.fill place cs (parts.map fun(i,y)=>(i,a.eval y))=some cs'/\cs'.size=m/\(zr1 z vs).length=m/\∀ c,c<m->x.LR1 (cs'.getD c undef) ((zr1 z vs).getD c .gone) []
 | [],[],vs,cs,z,_,hr,h1,h2,h3=>by cases hr;exact ⟨cs,rfl,h1,h2,h3⟩
 | (i,y)::ys,(off,k,o)::os,vs,cs,z,hp,hr,h1,h2,h3=>by
   simp only [yjg,Bool.and_eq_true,beq_iff_eq,decide_eq_true_eq] at hp
   obtain ⟨⟨⟨hpl,hle⟩,ho⟩,hrest⟩:=hp
   simp only [St.rdParts] at hr
   split at hr
   ·rename_i v hv
    split at hr
    ·rename_i hc
     simp only [Bool.and_eq_true,beq_iff_eq] at hc
     simp only [Option.map_eq_some_iff] at hr
     obtain ⟨vs',hr',rfl⟩:=hr
     have hpend:=zaq h ht ho hv
     have hnt:∀ us,v ≠ .tup us:=fun us e=>by subst e;cases hc.1
     have hng:v ≠ .gone:=fun e=>by subst e;cases hc.1
     obtain ⟨w1,w2⟩:=zcf hpend.shape hnt hng
     have hsz:(a.eval y).cells.size=k:=by rw [w1];exact hc.2
     obtain ⟨f1,f2⟩:=zg1 off (a.eval y).cells.toList 0 cs
     have e0:(a.eval y).cells.zipIdx.foldl (fun cs (c,j)=>cs.setIfInBounds (off+j) c) cs=((a.eval y).cells.toList.zipIdx 0).foldl (fun cs (c,j)=>cs.setIfInBounds (off+j) c) cs:=by
      rw [<- Array.foldl_toList,Array.toList_zipIdx]
     generalize hcs:((a.eval y).cells.toList.zipIdx 0).foldl (fun cs (c,j)=>cs.setIfInBounds (off+j) c) cs=cs1 at f1 f2 e0
     have hlen:(z.take off++v.cells++z.drop (off+v.cells.length)).length=m:=by simp;omega
     have hget:∀ c,c<m->(z.take off++v.cells++z.drop (off+v.cells.length)).getD c .gone=if off<=c/\c<off+k then v.cells.getD (c - off) .gone else z.getD c .gone:=by
      intro c hcm
      have ht1:(z.take off).length=off:=by simp;omega
      simp only [List.getD,List.append_assoc,List.getElem?_append,ht1]
      by_cases g1:c<off
      ·rw [if_pos g1,if_neg (by omega),List.getElem?_take,if_pos g1]
      ·rw [if_neg g1]
       by_cases g2:c - off<v.cells.length
       ·rw [if_pos g2,if_pos (by omega)]
       ·rw [if_neg g2,if_neg (by omega),List.getElem?_drop]
        congr 2;omega
     obtain ⟨cs',g1,g2,g3,g4⟩:=zle h ht place m ys os vs' cs1 (z.take off++v.cells++z.drop (off+v.cells.length)) hrest hr' (by rw [f1];exact h1) hlen (fun c hcm=>by
      rw [hget c hcm,f2 c (by omega)]
      simp only [Nat.add_zero,Array.length_toList,hsz]
      by_cases g:off<=c/\c<off+k
      ·rw [if_pos g,if_pos g,zbb,w2 _ (by omega)]
       exact hpend.cells _ (by omega)
      ·rw [if_neg g,if_neg g];exact h3 c hcm)
     refine ⟨cs',?_,g2,g3,g4⟩
     simp only [List.map_cons,Instr.fill,hpl]
     rw [if_neg (by simp [hsz];omega),e0]
     exact g1
    ·cases hr
   ·cases hr
 | [],_::_,_,_,_,h,_,_,_,_=>by cases h
 | _::_,[],_,_,_,h,_,_,_,_=>by cases h
def zt0 (P:Program) (ts:List (Option Nat)) (t:TypeId) (parts:List (Nat×Operand)) (ps:List (Nat×Nat×Opnd)) (z:List V):Bool:=
 match P.info? t,P.underlying t with
 | some it,some (.array _ e)=>
   match it.zero,P.info? e with
   | some zv,some ie=>yao zv.cells.toList z&&yjg (fun i=>some (i * ie.size,ie.size)) ts z.length parts ps
   | _,_=>false
 | some it,some (.struct fields)=>
   match it.zero,fields.toList.mapM (fun f=>(P.info? f.type).map fun i=>(f.offset,i.size)) with
   | some zv,some places=>yao zv.cells.toList z&&yjg (places.toArray[·]?) ts z.length parts ps
   | _,_=>false
 | _,_=>false
theorem ydu (h:SR B x FV FC []) (ht:Tied B ts n x a) {o:Oper} {t:TypeId} {parts:Array (Nat×Operand)} {ps:List (Nat×Nat×Opnd)} {z:List V} (ho:o.op=.build t parts) (hok:zt0 P ts t parts.toList ps z=true)
 {vs} (hr:x.st.rdParts ps=some vs):zc6 P o a x.w (Out B n ts a x.st (.agg (zr1 z vs))):=by
 have main:∀ (place:Nat->Option (Nat×Nat)) (zv:Value),yao zv.cells.toList z=true->yjg place ts z.length parts.toList ps=true->
  (∀ cells,Instr.fill place zv.cells (parts.map fun(i,x)=>(i,a.eval x)).toList=some cells->P.built t (parts.map fun(i,x)=>(i,a.eval x)).toList=some cells)->zc6 P o a x.w (Out B n ts a x.st (.agg (zr1 z vs))):=by
  intro place zv hz hp hb
  obtain ⟨h1,h2⟩:=zn4 (w:=x.w) (I:=x.I) hz
  obtain ⟨cs',g1,g2,g3,g4⟩:=zle h ht place z.length parts.toList ps vs zv.cells z hp hr (by simpa using h1) rfl (fun c hc=>by
   have:=h2 c hc
   rw [zbb] at this
   exact za8 this.1 this.2)
  have hb':=hb cs' (by rw [Array.toList_map];exact g1)
  refine za9 (val:=.agg cs') (w':=x.w) ?_ (Out.simple h ht ⟨⟨cs',rfl,by omega⟩,fun c hc=> ?_⟩)
  ·simp only [execOp,ho,Sem.run_bind,run_build x.w t _ cs' hb',Result.andThen_ok,Sem.run_pure]
  ·simp only [V.cells] at hc ⊢
   have e:zac (.agg cs') (.agg (zr1 z vs)) c=cs'.getD c undef:=zbb cs' c
   rw [e]
   exact g4 c (by omega)
 unfold zt0 at hok
 split at hok
 ·rename_i it len e hit hu
  split at hok
  ·rename_i zv ie hzv hie
   simp only [Bool.and_eq_true] at hok
   exact main _ zv hok.1 hok.2 fun cells hc=>by simp only [Program.built,hit,hu,hzv,hie];exact hc
  ·cases hok
 ·rename_i it fields hit hu
  split at hok
  ·rename_i zv places hzv hpl
   simp only [Bool.and_eq_true] at hok
   exact main _ zv hok.1 hok.2 fun cells hc=>by simp only [Program.built,hit,hu,hzv,hpl];exact hc
  ·cases hok
 ·cases hok
end Go.Pm
namespace Go.Pm
theorem zdo (r:Root) (c0:Nat) (z:V):∃ D,∀ d,D<=d->V.kill1 r c0 d z=z:=by
 cases z with
 | hd e r' c up lo hi=>exact ⟨up.length+1,fun d hd=>by simp only [V.kill1];rw [if_neg (by omega)]⟩
 | ref r' c up=>exact ⟨up.length+1,fun d hd=>by simp only [V.kill1];rw [if_neg (by omega)]⟩
 | _=>exact ⟨0,fun _ _=>rfl⟩
theorem zgq {f:Nat->V->V} (hf:∀ z,∃ D,∀ d,D<=d->f d z=z):∀ cs:List V,∃ D,∀ d,D<=d->cs.map (f d)=cs
 | []=>⟨0,fun _ _=>rfl⟩
 | z::cs=>by
   obtain ⟨D1,h1⟩:=hf z
   obtain ⟨D2,h2⟩:=zgq hf cs
   exact ⟨max D1 D2,fun d hd=>by rw [List.map_cons,h1 d (by omega),h2 d (by omega)]⟩
theorem zp1 (r:Root) (c0:Nat) (z:V):∃ D,∀ d,D<=d->V.leafwise (V.kill1 r c0 d) z=z:=by
 cases z with
 | agg cs=>
   obtain ⟨D,h⟩:=zgq (zdo r c0) cs
   exact ⟨D,fun d hd=>by simp only [V.leafwise,h d hd]⟩
 | tup vs=>
   obtain ⟨D,h⟩:=zgq (f:=fun d v=>match v with | .agg cs=>.agg (cs.map (V.kill1 r c0 d))|v=>V.kill1 r c0 d v) (fun z=>by
    by_cases hz:∃ cs,z=.agg cs
    ·obtain ⟨cs,rfl⟩:=hz
     obtain ⟨D,h⟩:=zgq (zdo r c0) cs
     exact ⟨D,fun d hd=>by simp only [h d hd]⟩
    ·obtain ⟨D,h⟩:=zdo r c0 z
     refine ⟨D,fun d hd=> ?_⟩
     have:=h d hd
     cases z <;> first|exact absurd ⟨_,rfl⟩ hz|exact this) vs
   exact ⟨D,fun d hd=>congrArg V.tup (h d hd)⟩
 | int k m=>exact ⟨0,fun _ _=>rfl⟩
 | bool b=>exact ⟨0,fun _ _=>rfl⟩
 | str b=>exact ⟨0,fun _ _=>rfl⟩
 | imm e xs=>exact ⟨0,fun _ _=>rfl⟩
 | own e xs=>exact ⟨0,fun _ _=>rfl⟩
 | pnil=>exact ⟨0,fun _ _=>rfl⟩
 | eptr cs c=>exact ⟨0,fun _ _=>rfl⟩
 | fn f cs=>exact ⟨0,fun _ _=>rfl⟩
 | clo f cs=>exact ⟨0,fun _ _=>rfl⟩
 | gone=>exact ⟨0,fun _ _=>rfl⟩
 | ref r' c up=>exact zdo r c0 (.ref r' c up)
 | hd e r' c up lo hi=>exact zdo r c0 (.hd e r' c up lo hi)
theorem yb7 (s:St) (r:Root) (c0:Nat):∃ D,∀ d,D<=d->s.kill r c0 d=s:=by
 obtain ⟨D,h⟩:=zgq (zp1 r c0) s.vars
 exact ⟨D,fun d hd=>by simp only [St.kill,h d hd]⟩
theorem zgz {v e xs} (h:zgb v=true):v ≠ .own e xs:=by intro e';subst e';cases h
theorem zb2 (w:World) (b o:Nat) (v:Value) {k:Nat} (h:k≠b):(w.setCell ⟨b,o,none⟩ v).heap[k]? =w.heap[k]? :=heap_setCell_other w ⟨b,o,none⟩ k v h
theorem zco {w:World} {b o m k:Nat} {v:Value} (h:Rows w k m):Rows (w.setCell ⟨b,o,none⟩ v) k m:=by
 obtain ⟨cs,E,lo,hi,h1,h2,h3⟩:=h
 by_cases e:k=b
 ·subst e
  refine ⟨cs.setIfInBounds o v,E,lo,hi,?_,by simpa using h2,fun q hq=>h3 q (by simpa using hq)⟩
  have hlt:=(Array.getElem?_eq_some_iff.1 h1).1
  have he:=(Array.getElem?_eq_some_iff.1 h1).2
  show (w.heap.modify k _)[k]? =_
  rw [Array.getElem?_modify,if_pos rfl,h1]
  rfl
 ·exact ⟨cs,E,lo,hi,(zb2 w b o v e).trans h1,h2,h3⟩
theorem zes {w:World} {b o:Nat} {v u:Value} (h:w.cell? ⟨b,o,none⟩=some u):(w.setCell ⟨b,o,none⟩ v).cell? ⟨b,o,none⟩=some v:=by
 first|exact World.cell?_setCell_same w _ _ h|exact World.cell?_setCell_same _ _ _ _ h|exact World.cell?_setCell_same w ⟨b,o,none⟩ v h
theorem zap {w:World} {b o k q:Nat} {v:Value} (h:k≠b\/q≠o):(w.setCell ⟨b,o,none⟩ v).cell? ⟨k,q,none⟩=w.cell? ⟨k,q,none⟩:=
by
 have hne:(⟨b,o,none⟩:Addr)≠⟨k,q,none⟩:=fun e=>by cases e;rcases h with h|h <;> exact h rfl
 first|exact World.cell?_setCell_other w _ _ _ hne|exact World.cell?_setCell_other w _ _ hne|exact World.cell?_setCell_other _ _ _ _ _ hne
variable {B:Base} {x:Cx} {FV FC:Nat->Nat->List Nat} {FX:List Nat}
theorem yan (h:SR B x FV FC FX) {k c:Nat} {cs:List V} (hc:x.st.root (.box k)=some cs) (hlt:c<cs.length) {nv:Value} {y:V} {G FX':List Nat} (hV:x.LR1 nv y G) (hg:y ≠ .gone) (hmk:y.mark=true->∃ k' c',y=.ref (.box k') c' [])
 (hF:∀ b,G.count b+FX'.count b<=FX.count b) {d:Nat} (hd:d=0\/(zgb (cs.getD c .gone)=true)):
 ∃ FV' FC',SR B ⟨x.w.setCell ⟨x.φ k,c,none⟩ nv,x.I,x.φ,x.tm,x.st.turn (.box k) c y d⟩ FV' FC' FX'/\
   ∀ v z F,z.mark=true->V.kill1 (.box k) c d z=z->x.LR1 v z F->Cx.LR1 ⟨x.w.setCell ⟨x.φ k,c,none⟩ nv,x.I,x.φ,x.tm,x.st.turn (.box k) c y d⟩ v z F:=by
 have hk:k<x.st.boxes.length:=(List.getElem?_eq_some_iff.1 hc).1
 have hcs:cs=x.st.boxes.getD k []:=by rw [zbl hk] at hc;cases hc;rfl
 have hRF:=fun b=>zek (FX:=FX) (FV:=FV) (FC:=FC) (.box k) cs hc c hlt b
 obtain ⟨hb1,hb2⟩:=h.boxBlock hk hc hlt
 have hIne:∀ b,x.I b->b≠x.φ k:=by
  intro b hb e;subst e;have:=h.apart _ hb;have:=h.box_pos hk;omega
 have hGne:∀ b∈G,b≠x.φ k:=by
  intro b hb e;subst e
  have e1:=hF (x.φ k)
  have e2:0<G.count (x.φ k):=List.count_pos_iff.2 hb
  omega
 have hcell:∃ u,x.w.cell? ⟨x.φ k,c,none⟩=some u:=(h.box k hk).cell (by rw [<- hcs];exact hlt)
 obtain ⟨u,hu⟩:=hcell
 have hy:y.leaf=true:=zbp hV
 have hkill:V.kill1 (.box k) c d y=y:=by
  by_cases hm:y.mark=true
  ·obtain ⟨k',c',e⟩:=hmk hm
   rw [e];simp [V.kill1]
  ·exact zdg (by simpa using hm)
 have hother:∀ j,j<x.st.boxes.length->Root.box k ≠ .box j->∀ q,zad (x.w.setCell ⟨x.φ k,c,none⟩ nv) (x.φ j) q=zad x.w (x.φ j) q:=by
  intro j hj hne q
  have:x.φ j≠x.φ k:=h.boxNe hj hk (fun e=>hne (by rw [e]))
  simp only [zad,zap (.inl this)]
 have hmarks:∀ v z F,z.mark=true->V.kill1 (.box k) c d z=z->x.LR1 v z F->Cx.LR1 ⟨x.w.setCell ⟨x.φ k,c,none⟩ nv,x.I,x.φ,x.tm,x.st.turn (.box k) c y d⟩ v z F:=by
  refine h.marks hc hlt hy hkill (fun i e=>by cases e) ?_ (fun _ h=>h) (fun b hb=>zb2 _ _ _ _ (hIne b hb)) ?_ hother ?_
  ·rcases hd with rfl|hd
   ·trivial
   ·cases d with
    | zero=>trivial
    | succ d=>intro e xs ho;exact absurd ho (zgz hd)
  ·intro j e q e' ys hd0 hq hown
   cases e
   have:q≠c:=by
    rcases hd0 with hd0|hd0
    ·rcases hd with rfl|hd
     ·omega
     ·intro e;subst e;exact zgz hd hown
    ·exact hd0
   simp only [zad,zap (.inr this)]
  ·intro r2 up i e c' cs2 c2 e2 ys a m cap hcc _ _ hp _
   obtain ⟨os,xs,ho,hc',hown,hi,rfl⟩:=zaf hcc
   obtain ⟨F,hL,hFF,rs,hrs,hrc⟩:=h.at r2 up os ho c' hc'
   rw [hown] at hL
   have hm:=zbq (show VR x.w x.I _ (.own e xs) F from hL) hp
   have hne:a.block≠x.φ k:=by
    intro e'
    have e1:=(h.boxBlock hk hrs hrc).1
    have e2:=hFF a.block
    have e3:0<F.count a.block:=List.count_pos_iff.2 hm
    rw [e'] at e2 e3;omega
   simp only [zad,zap (.inl hne)]
 refine ⟨zf2 FV (.box k) c G,zem FC (.box k) c G,h.turn (G0:=G) (FX':=FX') hc hlt hy hkill (fun i e=>by cases e) ?_ (fun _ _ hm=>hmk hm) ?_ ?_ ?_ ?_ (fun _ h=>h) (fun _ h=>.inl h) ?_ ?_ ?_ ?_ hmarks,hmarks⟩
 ·have e1:x.nrv (x.w.setCell ⟨x.φ k,c,none⟩ nv) (.box k) c=nv:=by
   show zad _ _ _=nv
   simp only [zad,zes hu,Option.getD_some]
  rw [e1]
  by_cases hm:y.mark=true
  ·obtain ⟨k',c',rfl⟩:=hmk hm
   exact hmarks _ _ _ hm hkill hV
  ·exact za8 ((zbs hV (by simpa using hm) hg).keep (fun _ h=>h) (fun b hb=>zb2 _ _ _ _ (hIne b hb)) (fun b hb=>zb2 _ _ _ _ (hGne b hb))) hy
 ·intro j e q hq
  cases e
  simp only [zad,zap (.inr hq)]
 ·intro j e
  cases e
  rw [hcs];exact zco (h.box k hk)
 ·intro b _ _ hne
  exact zb2 _ _ _ _ (hne k rfl)
 ·exact ⟨by simp [World.setCell],rfl,rfl,rfl⟩
 ·intro b hb;have:=h.ilt b hb;simpa [World.setCell] using this
 ·intro b hb
  have e1:=hF b;have e2:=hRF b;have e3:=h.apart b hb;omega
 ·intro b _;have e1:=hF b;omega
 ·intro b _;have e1:=hF b;have e2:=hRF b;have e3:=h.one b;omega
theorem zvu (h:SR B x FV FC FX) {r:Root} {i e c' c:Nat} {up:List zbv} {cs:List V} (hc:x.st.cont r ((i,e,c')::up)=some cs) (hlt:c<cs.length) {a:Addr} {m cap:Nat} (hp:x.place r up c'=.slice (some a) m cap)
 {nv:Value} {y:V} {G FX':List Nat} (hV:VR x.w x.I nv y G) (hy:y.leaf=true) (hF:∀ b,G.count b+FX'.count b<=FX.count b) {d:Nat} (hd:d=up.length+1\/(up.length+1<=d/\zgb (cs.getD c .gone)=true))
 {s':St} (hput:x.st.put r c ((i,e,c')::up) y=some s'):
 (∃ u,x.w.cell? ⟨a.block,a.off+i * e+c,none⟩=some u)/\(∃ m,Rows x.w a.block m)/\
 ∃ FV' FC',SR B ⟨x.w.setCell ⟨a.block,a.off+i * e+c,none⟩ nv,x.I,x.φ,x.tm,s'.kill r (rootCell c' up) d⟩ FV' FC' FX'/\
   ∀ v z F,z.mark=true->V.kill1 r (rootCell c' up) d z=z->x.LR1 v z F->Cx.LR1 ⟨x.w.setCell ⟨a.block,a.off+i * e+c,none⟩ nv,x.I,x.φ,x.tm,s'.kill r (rootCell c' up) d⟩ v z F:=by
 obtain ⟨os,xs,ho,hc',hown,hi,rfl⟩:=zaf hc
 obtain ⟨_,hput'⟩:=zuc ho hc' hown hi hput
 obtain ⟨F,hL,hFle,hin⟩:=h.inner r up os ho c' hc'
 rw [hown] at hL
 have hVP:VR x.w x.I (x.place r up c') (.own e xs) F:=hL
 obtain ⟨rs,hrs,hrc,hro⟩:=zig up os c' ho hc' fun _=>⟨e,xs,hown⟩
 have hRF:=fun b=>zek (FX:=FX) (FV:=FV) (FC:=FC) r rs hrs _ hrc b
 have hFone:∀ b,F.count b<=1:=fun b=>by have:=hFle b;have:=hRF b;have:=h.one b;omega
 obtain ⟨a',m',cap',Fo,hpl,hce,hleaf,hold,hcnt,hrows,hin',hnc,hset⟩:=VR.set hVP hi hlt hFone
 rw [hp] at hpl
 cases hpl
 have hassoc:a.off+(i * e+c)=a.off+i * e+c:=by omega
 rw [hassoc] at hold hset
 have hane:∀ b,x.I b->b≠a.block:=by
  intro b hb e';subst e'
  have e1:=hcnt a.block;have e2:=hFle a.block;have e3:=hRF a.block;have e4:=h.apart _ hb
  simp at e1;omega
 have haG:∀ b∈G,b≠a.block:=by
  intro b hb e';subst e'
  have e1:=hcnt a.block;have e2:=hFle a.block;have e3:=hRF a.block;have e4:=h.one a.block;have e5:=hF a.block
  have e6:0<G.count a.block:=List.count_pos_iff.2 hb
  simp at e1;omega
 have haFo:a.block ∉ Fo:=fun hb=>by
  have h1:=hcnt a.block;have h2:=hFone a.block;have h3:0<Fo.count a.block:=List.count_pos_iff.2 hb
  simp at h1;omega
 have haF:a.block∈F:=List.count_pos_iff.1 (by have:=hcnt a.block;simp at this;omega)
 have haRF:a.block∈RF FV FC r (rootCell c' up):=List.count_pos_iff.1 (by have:=hFle a.block;have:0<F.count a.block:=List.count_pos_iff.2 haF;omega)
 have hbox:∀ k,k<x.st.boxes.length->x.φ k≠a.block:=by
  intro k hk e'
  have:=(h.boxBlock hk hrs hrc).1
  have h2:0<(RF FV FC r (rootCell c' up)).count a.block:=List.count_pos_iff.2 haRF
  rw [e'] at this;omega
 obtain ⟨u,hu⟩:=hrows.cell (o:=a.off+i * e+c) (by
  have hq:i * e+c<cap * e:=zca (Nat.lt_of_lt_of_le hin' hnc) hce
  omega)
 have hheap:∀ b,b≠a.block->(x.w.setCell ⟨a.block,a.off+i * e+c,none⟩ nv).heap[b]? =x.w.heap[b]? :=fun b hb=>zb2 _ _ _ _ hb
 have hVnew:VR (x.w.setCell ⟨a.block,a.off+i * e+c,none⟩ nv) x.I nv y G:=hV.keep (fun _ h=>h) (fun b hb=>hheap b (hane b hb)) (fun b hb=>hheap b (haG b hb))
 obtain ⟨F',hV',hF'⟩:=hset (x.w.setCell ⟨a.block,a.off+i * e+c,none⟩ nv) x.I nv y G hy (fun _ h=>h) (fun b hb=>hheap b (hane b hb)) hVnew (fun b _ _ hb=>hheap b hb)
  (zco hrows) (zes hu) (fun o ho'=>zap (.inr ho'))
 obtain ⟨rs',y0,G0,h1,h2,h3,h4,h5,h6,h7,_⟩:=hin (x.w.setCell ⟨a.block,a.off+i * e+c,none⟩ nv) x.I _ F' s' hput' rfl hV'
  (fun b _ hb=>hheap b (fun e'=>hb (e' ▸ haF))) (fun _ h=>h)
 rw [hrs] at h1
 cases h1
 have hk0:=zdg (r:=r) (c0:=rootCell c' up) (d:=d) (zbm h5)
 have hst:s'.kill r (rootCell c' up) d=x.st.turn r (rootCell c' up) y0 d:=by rw [h3];simp only [St.turn,hrs,Option.getD_some]
 have hvar:∀ i,r=.var i->(∃ e xs,rs.getD (rootCell c' up) .gone=.own e xs)\/(x.st.vars.getD i .gone=.gone->zbk (x.tm i) y0):=fun _ _=>.inl hro
 have hok:(xs.getD i .gone).okE=true:=by
  generalize x.place r up c'=pv at hVP
  cases hVP with
  | own0=>cases hi
  | own a cap _ _ vs Fs hs he hz hl hb hcs hf hr=>rw [za3 hi];exact hf _ (List.getElem_mem hi)
 obtain ⟨hlike,_⟩:=zim hok hlt hy
 have hsimP:∀ q,(q=0\/zgb ((xs.getD i .gone).cells.getD c .gone)=true)->SimC (q+1) (.own e xs) (.own e (xs.set i ((xs.getD i .gone).like ((xs.getD i .gone).cells.set c y)))):=by
  intro q hq e' xs' he
  cases he
  refine ⟨_,rfl,by simp,fun k hk=> ?_⟩
  rw [zal _ _ hk]
  by_cases hki:k=i
  ·subst hki
   rw [if_pos rfl,hlike]
   refine ⟨by simp,fun j=> ?_⟩
   rcases hq with rfl|hq
   ·trivial
   ·by_cases hj:j<(xs.getD k .gone).cells.length
    ·rw [zal _ _ hj]
     by_cases hjc:j=c
     ·subst hjc
      cases q with
      | zero=>trivial
      | succ q=>intro e2 ys ho2;exact absurd ho2 (zgz hq)
     ·rw [if_neg hjc];exact .refl _ _
    ·rw [zai hj,zai (by simpa using hj)];exact .refl _ _
  ·rw [if_neg hki];exact ⟨rfl,fun _=>.refl _ _⟩
 have hsim:SimC d (rs.getD (rootCell c' up) .gone) y0:=by
  rcases hd with rfl|⟨hd,hsc⟩
  ·exact h7 1 (by rw [hown];exact hsimP 0 (.inl rfl))
  ·have:=h7 (d - up.length - 1+1) (by rw [hown];exact hsimP _ (.inr hsc))
   rwa [show up.length+(d - up.length - 1+1)=d by omega] at this
 rw [hst]
 have hmarks:∀ v z F,z.mark=true->V.kill1 r (rootCell c' up) d z=z->x.LR1 v z F->Cx.LR1 ⟨x.w.setCell ⟨a.block,a.off+i * e+c,none⟩ nv,x.I,x.φ,x.tm,x.st.turn r (rootCell c' up) y0 d⟩ v z F:=by
  refine h.marks hrs hrc h4 hk0 hvar hsim (fun _ h=>h) (fun b hb=>hheap b (hane b hb)) ?_ ?_ ?_
  ·intro k e' q _ _ _ _ _
   subst e'
   have hk:k<x.st.boxes.length:=(List.getElem?_eq_some_iff.1 hrs).1
   simp only [zad,zap (.inl (hbox k hk))]
  ·intro k hk _ q
   simp only [zad,zap (.inl (hbox k hk))]
  ·intro r2 up2 i2 e2 c2' cs2 c2 e3 ys a2 m2 cap2 hcc hlt2 hown2 hp2 hdeep
   obtain ⟨os2,xs2,ho2,hc2',hownP,hi2,rfl⟩:=zaf hcc
   by_cases hsame:r=r2/\up=up2/\c'=c2'
   ·obtain ⟨rfl,rfl,rfl⟩:=hsame
    rw [ho] at ho2
    cases ho2
    rw [hown] at hownP
    cases hownP
    rw [hp] at hp2
    cases hp2
    rcases hd with rfl|⟨_,hsc⟩
    ·rcases hdeep with h9|h9|h9
     ·exact absurd rfl h9
     ·exact absurd rfl h9
     ·omega
    ·have hne:a.off+i2 * e+c2≠a.off+i * e+c:=by
      intro e'
      have hce2:c2<e:=by
       generalize x.place r up c'=pv at hVP
       cases hVP with
       | own0=>cases hi
       | own a cap _ _ vs Fs hs he hz hl hb hcs hf hr=>rw [ze6 hz hi2] at hlt2;exact hlt2
      have h8:i2 * e+c2=i * e+c:=by omega
      have h9:(i2 * e+c2) / e=i2:=by rw [Nat.add_comm,Nat.mul_comm,Nat.add_mul_div_left _ _ (by omega),Nat.div_eq_of_lt hce2];omega
      have h10:(i * e+c) / e=i:=by rw [Nat.add_comm,Nat.mul_comm,Nat.add_mul_div_left _ _ (by omega),Nat.div_eq_of_lt hce];omega
      have:i2=i:=by rw [<- h9,<- h10,h8]
      subst this
      have:c2=c:=by omega
      subst this
      exact zgz hsc hown2
     simp only [zad,zap (.inr hne)]
   ·have hne:=h.heads ho hc' hown hp ho2 hc2' hownP hp2 (by
     by_cases g1:r=r2
     ·by_cases g2:up=up2
      ·exact .inr (.inr fun g3=>hsame ⟨g1,g2,g3⟩)
      ·exact .inr (.inl g2)
     ·exact .inl g1)
    simp only [zad,zap (.inl hne.symm)]
 refine ⟨⟨u,hu⟩,⟨_,hrows⟩,zf2 FV r (rootCell c' up) G0,zem FC r (rootCell c' up) G0,h.turn (G0:=G0) (FX':=FX') hrs hrc h4 hk0 hvar ?_ (fun k _ hm=>by rw [zbm h5] at hm;cases hm) ?_ ?_ ?_ ⟨by simp [World.setCell],rfl,rfl,rfl⟩ (fun _ h=>h) (fun _ h=>.inl h) ?_ ?_ ?_ ?_ hmarks,hmarks⟩
 ·have:x.nrv (x.w.setCell ⟨a.block,a.off+i * e+c,none⟩ nv) r (rootCell c' up)=x.rv r (rootCell c' up):=by
   rcases za6 hrs with ⟨j,rfl,_,_⟩|⟨k,rfl,hk,_⟩
   ·rfl
   ·show zad _ (x.φ k) _=zad _ (x.φ k) _
    simp only [zad,zap (.inl (hbox k hk))]
  rw [this]
  exact za8 h5 h4
 ·intro k e' q _
  subst e'
  have hk:k<x.st.boxes.length:=(List.getElem?_eq_some_iff.1 hrs).1
  simp only [zad,zap (.inl (hbox k hk))]
 ·intro k e'
  subst e'
  have hk:k<x.st.boxes.length:=(List.getElem?_eq_some_iff.1 hrs).1
  have:rs=x.st.boxes.getD k []:=by rw [zbl hk] at hrs;cases hrs;rfl
  rw [this];exact zco (h.box k hk)
 ·intro b _ hb _
  exact hheap b (fun e'=>hb (e' ▸ haRF))
 ·intro b hb;have:=h.ilt b hb;simpa [World.setCell] using this
 ·intro b hb
  have e1:=hF b;have e2:=h6 b;have e3:=hF' b;have e4:=hRF b;have e5:=h.apart b hb;omega
 ·intro b _
  have e1:=hF b;have e2:=h6 b;have e3:=hF' b;omega
 ·intro b _
  have e1:=hF b;have e2:=h6 b;have e3:=hF' b;have e4:=hRF b;have e5:=h.one b;omega
end Go.Pm
namespace Go.Pm
theorem ze9 {w:World} {b m o:Nat} (h:Rows w b m) {u} (hu:w.cell? ⟨b,o,none⟩=some u):w.frozen? ⟨b,o,none⟩=false:=by
 obtain ⟨cs,E,lo,hi,h1,_,h3⟩:=h
 have ho:o<cs.size:=by
  simp only [World.cell?,h1] at hu
  exact (Array.getElem?_eq_some_iff.1 hu).1
 have:=h3 o ho
 simp only [World.frozen?,h1,Bool.and_eq_false_iff,decide_eq_false_iff_not]
 by_cases hlo:lo<=o
 ·right;exact fun hh=>this ⟨hlo,hh⟩
 ·exact .inl hlo
variable {P:Program} {B:Base} {x:Cx} {FV FC:Nat->Nat->List Nat} {FX:List Nat} {a:Act} {ts:List (Option Nat)} {n:Nat}
theorem ydb (s:St) (r c0 d):(s.kill r c0 d).vars.length=s.vars.length/\(s.kill r c0 d).boxes.length=s.boxes.length:=by simp [St.kill]
theorem zqu (s:St) (r cs):(s.setRoot r cs).vars.length=s.vars.length/\(s.setRoot r cs).boxes.length=s.boxes.length:=by cases r <;> simp [St.setRoot]
theorem zk0:∀ (up:List zbv) (s s':St) (r:Root) (cs:List V),s.setCont r up cs=some s'->s'.vars.length=s.vars.length/\s'.boxes.length=s.boxes.length
 | [],s,s',r,cs,h=>by simp only [St.setCont,Option.some.injEq] at h;subst h;exact zqu s r cs
 | (i,e,c)::up,s,s',r,cs,h=>by
   simp only [St.setCont] at h
   split at h
   ·split at h
    ·split at h
     ·exact zk0 up s s' r _ h
     ·cases h
    ·cases h
   ·cases h
theorem yi9 {s s':St} {r c up y} (h:s.put r c up y=some s'):s'.vars.length=s.vars.length/\s'.boxes.length=s.boxes.length:=by
 simp only [St.put] at h
 split at h
 ·split at h
  ·exact zk0 _ _ _ _ _ h
  ·cases h
 ·cases h
theorem zpe {b q c:Nat} {r:Root} {up:List zbv} (h:x.LR1 (.pointer (some ⟨b,q+c,none⟩)) (.ref r c up) []):x.LR1 (.pointer (some ⟨b,q+(c+1),none⟩)) (.ref r (c+1) up) []:=by
 cases up with
 | nil=>
   obtain ⟨_,k,cs,rfl,h1,h2⟩:=h
   simp only [Value.pointer.injEq,Option.some.injEq,Addr.mk.injEq] at h2
   have:q=0:=by omega
   refine ⟨rfl,k,cs,rfl,h1,?_⟩
   rw [this,Nat.zero_add,h2.1]
 | cons s up=>
   obtain ⟨i,e,c'⟩:=s
   obtain ⟨_,hc,ad,m,cap,h1,h2⟩:=h
   simp only [Value.pointer.injEq,Option.some.injEq,Addr.mk.injEq] at h2
   refine ⟨rfl,hc,ad,m,cap,h1,?_⟩
   have e1:q=ad.off+i * e:=by omega
   rw [h2.1,e1]
theorem zl4 (h:SR B x FV FC FX) {r:Root} {c b q:Nat} {up:List zbv} (hL:x.LR1 (.pointer (some ⟨b,q+c,none⟩)) (.ref r c up) []) {nv:Value} {y:V} {G FX':List Nat} (hV:x.LR1 nv y G) (hg:y ≠ .gone)
 (hmk:y.mark=true->up=[]/\∃ k' c',y=.ref (.box k') c' []) (hF:∀ b,G.count b+FX'.count b<=FX.count b) {s':St} (hput:x.st.putCell r c up y=some s'):
 (∃ u,x.w.cell? ⟨b,q+c,none⟩=some u)/\x.w.frozen? ⟨b,q+c,none⟩=false/\FX.count b=0/\¬ x.I b/\(∃ FV' FC',SR B ⟨x.w.setCell ⟨b,q+c,none⟩ nv,x.I,x.φ,x.tm,s'⟩ FV' FC' FX')/\
  Cx.LR1 ⟨x.w.setCell ⟨b,q+c,none⟩ nv,x.I,x.φ,x.tm,s'⟩ (.pointer (some ⟨b,q+(c+1),none⟩)) (.ref r (c+1) up) []/\s'.vars.length=x.st.vars.length/\s'.boxes.length=x.st.boxes.length:=by
 simp only [St.putCell] at hput
 split at hput
 ·rename_i old hget
  simp only [Option.map_eq_some_iff] at hput
  obtain ⟨s0,hp0,hs'⟩:=hput
  obtain ⟨cs,hcs,hlt,hold⟩:=zba hget
  obtain ⟨D,hD⟩:=yb7 s0 r (rootCell c up)
  have hd:∃ d,s'=s0.kill r (rootCell c up) d/\up.length<=d/\(d=up.length\/zgb (cs.getD c .gone)=true):=by
   by_cases hs:(zgb old&&zgb y)=true
   ·rw [if_pos hs] at hs'
    simp only [Bool.and_eq_true] at hs
    exact ⟨max D up.length,by rw [hD _ (by omega)];exact hs'.symm,by omega,.inr (by rw [hold];exact hs.1)⟩
   ·rw [if_neg hs] at hs'
    exact ⟨up.length,hs'.symm,Nat.le_refl _,.inl rfl⟩
  obtain ⟨d,rfl,hdl,hdd⟩:=hd
  have hlens:=yi9 hp0
  have hkl:=ydb s0 r (rootCell c up) d
  have hrefk:V.kill1 r (rootCell c up) d (.ref r c up)=.ref r c up:=by simp only [V.kill1];rw [if_neg (by omega)]
  cases up with
  | nil=>
    have hL0:=hL
    obtain ⟨_,k,cs',rfl,h1,h2⟩:=hL0
    simp only [Value.pointer.injEq,Option.some.injEq,Addr.mk.injEq] at h2
    obtain ⟨rfl,hq,_⟩:=h2
    have hq:q=0:=by omega
    subst hq
    simp only [Nat.zero_add]
    simp only [St.cont,St.root] at hcs
    rw [h1] at hcs
    cases hcs
    have hk:=(List.getElem?_eq_some_iff.1 h1).1
    have hkd:x.st.boxes.getD k []=cs:=by rw [za3 hk,(List.getElem?_eq_some_iff.1 h1).2]
    obtain ⟨FV',FC',hsr,hm⟩:=yan h (k:=k) (by simpa [St.root] using h1) hlt hV hg (fun hm=>(hmk hm).2) hF (d:=d) (hdd.imp (fun h=>by simpa using h) id)
    have hst:s0.kill (.box k) (rootCell c []) d=x.st.turn (.box k) c y d:=by
     simp only [St.put,St.cont,St.root,h1,if_pos hlt,St.setCont,Option.some.injEq] at hp0
     subst hp0
     simp only [St.turn,St.root,h1,Option.getD_some,rootCell]
    rw [hst]
    have hrows:=h.box k hk
    obtain ⟨u,hu⟩:=hrows.cell (show c<_ by rw [hkd];exact hlt)
    refine ⟨⟨u,hu⟩,ze9 hrows hu,(h.boxBlock hk (zbl hk) (by rw [hkd];exact hlt)).2,?_,⟨FV',FC',hsr⟩,?_,zaw _ _ _ _ _,zao _ _ _ _ _⟩
    ·intro hb;have:=h.apart _ hb;have:=h.box_pos hk;omega
    ·have:=hm _ _ _ rfl hrefk hL
     have:=zpe (q:=0) this
     simpa using this
  | cons s up=>
    obtain ⟨i,e,c'⟩:=s
    have hL0:=hL
    obtain ⟨_,_,ad,m,cap,h1,h2⟩:=hL0
    simp only [Value.pointer.injEq,Option.some.injEq,Addr.mk.injEq] at h2
    obtain ⟨hb,hq,_⟩:=h2
    have hq':q+c=ad.off+i * e+c:=hq
    have hnm:y.mark=false:=by
     cases hm:y.mark with
     | false=>rfl
     | true=>have:=(hmk hm).1;cases this
    obtain ⟨os,xs,ho,hc',hown,_,_⟩:=zaf hcs
    obtain ⟨F,hLF,hFF,rs,hrs,hrc⟩:=h.at r up os ho c' hc'
    rw [hown] at hLF
    have hmem:=zbq (show VR x.w x.I _ (.own e xs) F from hLF) h1
    have hcount:FX.count ad.block=0/\¬ x.I ad.block:=by
     have e1:=hFF ad.block;have e2:=zek (FX:=FX) (FV:=FV) (FC:=FC) r rs hrs _ hrc ad.block
     have e3:=h.one ad.block;have e4:0<F.count ad.block:=List.count_pos_iff.2 hmem
     exact ⟨by omega,fun hb=>by have:=h.apart _ hb;omega⟩
    subst hb
    rw [hq']
    obtain ⟨⟨u,hu⟩,⟨mm,hrows⟩,FV',FC',hsr,hm⟩:=zvu h hcs hlt h1 (zbs hV hnm hg) (zbp hV) hF (d:=d) (by
     rcases hdd with h|h
     ·left;simpa using h
     ·right;exact ⟨by simpa using hdl,h⟩) hp0
    refine ⟨⟨u,hu⟩,ze9 hrows hu,hcount.1,hcount.2,⟨FV',FC',hsr⟩,?_,hkl.1.trans hlens.1,hkl.2.trans hlens.2⟩
    have:=hm _ _ _ rfl hrefk hL
    exact zpe this
 ·cases hput
theorem zt3 {w I v y F} (h:VR w I v y F) (hl:y.firm=true):v.oneCell'=true:=by
 have hl1:=zav hl
 have hg:=zit hl
 cases h <;> first|exact absurd rfl hg|(cases hl1;done)|rfl
theorem zjv {r:Root} {b q:Nat} {up:List zbv} {φ:Nat->Nat} {tm:Nat->Value} {I:Nat->Prop}:∀ (ys:List V) (nvs:List Value) (G:Nat->List Nat) (c i0 q0:Nat) {w:World} {s s':St} {FV FC:Nat->Nat->List Nat} {FX FX0:List Nat},
 SR B ⟨w,I,φ,tm,s⟩ FV FC FX->Cx.LR1 ⟨w,I,φ,tm,s⟩ (.pointer (some ⟨b,q+c,none⟩)) (.ref r c up) []->q0+i0=q+c->nvs.length=ys.length->
 (∀ i,i<ys.length->VR w I (nvs.getD i undef) (ys.getD i .gone) (G i)/\(ys.getD i .gone).firm=true)->(∀ b,(cat ys.length G).count b+FX0.count b<=FX.count b)->s.putCells r c up ys=some s'->
 ∃ w' FV' FC',(storeCells ⟨b,q0,none⟩ nvs i0).run P w=.ok () w'/\SR B ⟨w',I,φ,tm,s'⟩ FV' FC' FX0/\s'.vars.length=s.vars.length/\s'.boxes.length=s.boxes.length/\w'.heap.size=w.heap.size
 | [],[],G,c,i0,q0,w,s,s',FV,FC,FX,FX0,h,hL,hq,_,_,hF,hput=>by
   cases hput
   obtain ⟨g1,_⟩:=h.grow (w':=w) (I':=I) (FX':=FX0) (fun _ _=>rfl) (.refl _) (fun _ h=>h) (fun b hb=>.inl hb) h.ilt (fun b _=>by have:=hF b;omega) (fun b hb=>by
    have:=hF b;have h2:=h.held_out FX hb;have h3:=h.one b
    simp only at h2 h3
    omega)
   exact ⟨w,FV,FC,by simp [storeCells],g1,rfl,rfl,rfl⟩
 | y::ys,nv::nvs,G,c,i0,q0,w,s,s',FV,FC,FX,FX0,h,hL,hq,hl,hV,hF,hput=>by
   simp only [St.putCells] at hput
   split at hput
   ·rename_i s1 hp1
    obtain ⟨hv0,hf0⟩:=hV 0 (by simp)
    simp only [List.getD_cons_zero] at hv0 hf0
    have hsplit:∀ b,(cat (y::ys).length G).count b=(G 0).count b+(cat ys.length fun i=>G (i+1)).count b:=by
     intro b
     rw [za2,za2]
     have e3:=zb5 1 ys.length G b
     have e4:tot ys.length (fun q=>G (1+q)) b=tot ys.length (fun i=>G (i+1)) b:=zaa b fun i _=>by rw [Nat.add_comm]
     have e5:tot 1 G b=(G 0).count b:=by simp [tot]
     have e7:1+ys.length=(y::ys).length:=by simp;omega
     rw [e7] at e3
     simp only [e4,e5] at e3
     omega
    obtain ⟨⟨u,hu⟩,hfr,hc0,hI0,⟨FV1,FC1,g1⟩,g2,g3,g4⟩:=zl4 (FX':=(cat ys.length fun i=>G (i+1))++FX0) h hL (za8 hv0 (zav hf0)) (zit hf0) (fun hm=>by rw [zbm hv0] at hm;cases hm)
     (fun b=>by have e1:=hF b;have e2:=hsplit b;rw [List.count_append];omega) hp1
    have hne:∀ i,i<ys.length->∀ k∈G (i+1),k≠b:=by
     intro i hi k hk e
     subst e
     have e1:=hF k;have e2:=hsplit k
     have e3:=zat hi (fun i=>G (i+1)) k
     rw [<- za2] at e3
     have e4:0<(G (i+1)).count k:=List.count_pos_iff.2 hk
     omega
    obtain ⟨w',FV2,FC2,k1,k2,k3,k4,k5⟩:=zjv ys nvs (fun i=>G (i+1)) (c+1) (i0+1) q0 (FX0:=FX0) g1 g2 (by omega) (by simpa using hl)
     (fun i hi=>by
      obtain ⟨e1,e2⟩:=hV (i+1) (by simpa using hi)
      simp only [List.getD_cons_succ] at e1 e2
      exact ⟨e1.keep (fun _ h=>h) (fun k hk=>zb2 _ _ _ _ (fun e=>by subst e;exact hI0 hk)) (fun k hk=>zb2 _ _ _ _ (hne i hi k hk)),e2⟩)
     (fun b=>by rw [List.count_append];exact Nat.le_refl _) hput
    refine ⟨w',FV2,FC2,?_,k2,k3.trans g3,k4.trans g4,?_⟩
    ·simp only [storeCells,zbh,hq,Sem.run_bind,run_store P w _ _ _ (zt3 hv0 hf0),hu,hfr,Bool.false_eq_true,if_false,Result.andThen_ok,k1]
    ·rw [k5];simp [World.setCell]
   ·cases hput
 | [],_::_,_,_,_,_,_,_,_,_,_,_,_,_,_,_,h,_,_,_=>by simp at h
 | _::_,[],_,_,_,_,_,_,_,_,_,_,_,_,_,_,h,_,_,_=>by simp at h
end Go.Pm
namespace Go.Pm
variable {P:Program} {B:Base} {x:Cx} {FV FC:Nat->Nat->List Nat} {FX:List Nat} {a:Act} {ts:List (Option Nat)} {n:Nat}
theorem yi0 {x:Cx} {I':Nat->Prop} {s1:St} (g:Gho x.st s1) {val r c up} (hL:x.LR1 val (.ref r c up) []) (hc:∃ cs,s1.cont r up=some cs):Cx.LR1 ⟨x.w,I',x.φ,x.tm,s1⟩ val (.ref r c up) []:=by
 cases up with
 | nil=>
   obtain ⟨_,k,cs,rfl,h1,h2⟩:=hL
   have hk:=(List.getElem?_eq_some_iff.1 h1).1
   have hk':k<s1.boxes.length:=by rw [g.blen];exact hk
   exact ⟨rfl,k,_,rfl,List.getElem?_eq_getElem hk',h2⟩
 | cons s up=>
   obtain ⟨i,e,c'⟩:=s
   obtain ⟨_,_,ad,m,cap,h1,h2⟩:=hL
   exact ⟨rfl,hc,ad,m,cap,(g.place x.w x.I I' x.φ x.tm r up c').trans h1,h2⟩
theorem zms {val:Value} {r:Root} {c:Nat} {up:List zbv} (hL:x.LR1 val (.ref r c up) []):∃ b q,val=.pointer (some ⟨b,q+c,none⟩):=by
 cases up with
 | nil=>obtain ⟨_,k,cs,rfl,h1,h2⟩:=hL;exact ⟨x.φ k,0,by rw [Nat.zero_add];exact h2⟩
 | cons s up=>obtain ⟨i,e,c'⟩:=s;obtain ⟨_,_,ad,m,cap,h1,h2⟩:=hL;exact ⟨_,_,h2⟩
theorem znz {s s':St} {r c up y ys} (h:s.putCells r c up (y::ys)=some s'):∃ cs,s.cont r up=some cs:=by
 simp only [St.putCells] at h
 split at h
 ·rename_i s1 h1
  simp only [St.putCell] at h1
  split at h1
  ·rename_i old hg;obtain ⟨cs,hcs,_⟩:=zba hg;exact ⟨cs,hcs⟩
  ·cases h1
 ·cases h
theorem ydg (h:SR B x FV FC []) (ht:Tied B ts n x a) {o:Oper} {t y z oy oz} {m:Nat} {frz:Bool} (ho:o.op=.store t y z) (hy:za1 ts y oy=true) (hz:za1 ts z oz=true) (hm:zcn P t=some m) (h0:m≠0)
 {r c up v u s1 s2} (hr:x.st.rd oy=some (.ref r c up)) (hv:x.st.rd oz=some v) (htk:(if frz then x.st.freeze v else x.st.take v)=some (u,s1)) (hl:u.cells.length=m) (hput:s1.putCells r c up u.cells=some s2):
 zc6 P o a x.w (Out B n ts a s2 .gone):=by
 rw [zh6] at htk
 obtain ⟨I',FV',FC',FX1,G,H,hsh,hnt,hg⟩:=zgm (zf7 frz) (zgh frz) (x0:=x) (I:=x.I) (s:=x.st) h (fun _ h=>h) (.refl _) (zaq h ht hz hv) htk
 obtain ⟨w1,w2⟩:=zcf hsh hnt hg
 have hL:=zag (zaq h ht hy hr) rfl
 obtain ⟨b,q,e1⟩:=zms hL
 have hcont:∃ cs,s1.cont r up=some cs:=by
  cases hu:u.cells with
  | nil=>rw [hu] at hl;simp at hl;omega
  | cons y' ys'=>rw [hu] at hput;exact znz hput
 have hL1:=yi0 (I':=I') H.gho (by rw [e1] at hL;exact hL) hcont
 obtain ⟨w',FV2,FC2,k1,k2,k3,k4,_⟩:=zjv (P:=P) (FX0:=[]) u.cells (a.eval z).cells.toList G c 0 (q+c) H.sr hL1 (by omega) (by simpa using w1)
  (fun i hi=>by
   obtain ⟨h1,h2⟩:=H.vr i hi
   rw [zbb,w2 i hi];exact ⟨h1,h2⟩)
  (fun b=>by have:=H.fx b;simp at this ⊢;omega) hput
 refine zq8 (w':=w') ?_ ⟨⟨w',I',x.φ,x.tm,s2⟩,FV2,FC2,[],fun _=>[],rfl,rfl,k2,⟨?_,ht.tie,ht.size,ht.defers,?_,ht.phi,ht.nk,ht.kp⟩,zji,fun b=>by rw [zb6]⟩
 ·simp only [execOp,ho,e1,Instr.storeAt,Instr.sureAddr,Sem.run_bind,Sem.run_pure,Result.andThen_ok,storeVar,zb7 hm]
  rw [if_neg (by simp;omega)]
  simp only [k1,Result.andThen_ok]
 ·show ts.length=s2.vars.length
  rw [k3,H.gho.vlen];exact ht.len
 ·show B.nb<=s2.boxes.length
  rw [k4,H.gho.blen];exact ht.nbx
theorem zzh (h:SR B x FV FC []) (ht:Tied B ts n x a) {o:Oper} {t y z oy oz} (ho:o.op=.store t y z) (hy:za1 ts y oy=true) (hz:za1 ts z oz=true) (hm:zcn P t=some 1)
 {r c k off s2} (hr:x.st.rd oy=some (.ref r c [])) (hv:x.st.rd oz=some (.ref (.box k) off [])) (hput:x.st.putCells r c [] [.ref (.box k) off []]=some s2):
 zc6 P o a x.w (Out B n ts a s2 .gone):=by
 have hL:=zag (zaq h ht hy hr) rfl
 have hLv:=zag (zaq h ht hz hv) rfl
 obtain ⟨b,q,e1⟩:=zms hL
 obtain ⟨b2,q2,e2⟩:=zms hLv
 simp only [St.putCells] at hput
 split at hput
 ·rename_i s1 hp
  cases hput
  rw [e1] at hL
  rw [e2] at hLv
  obtain ⟨⟨u,hu⟩,hfr,_,_,⟨FV1,FC1,g1⟩,_,g3,g4⟩:=zl4 (FX':=[]) h hL hLv (fun h=>by cases h) (fun _=>⟨rfl,k,off,rfl⟩) (fun b=>by simp) hp
  refine zq8 (w':=x.w.setCell ⟨b,q+c,none⟩ (.pointer (some ⟨b2,q2+off,none⟩))) ?_ ⟨_,FV1,FC1,[],fun _=>[],rfl,rfl,g1,⟨?_,ht.tie,ht.size,ht.defers,?_,ht.phi,ht.nk,ht.kp⟩,zji,fun b=>by rw [zb6]⟩
  ·have hz1:(a.eval z).cells= #[.pointer (some ⟨b2,q2+off,none⟩)]:=by rw [e2];rfl
   have ha0:(⟨b,q+c,none⟩:Addr).add 0=⟨b,q+c,none⟩   :=by rw [zbh,Nat.add_zero]
   simp only [execOp,ho,e1,Instr.storeAt,Instr.sureAddr,Sem.run_bind,Sem.run_pure,Result.andThen_ok,storeVar,zb7 hm,hz1]
   rw [if_neg (by simp)]
   simp only [Sem.run_bind,Sem.run_pure,Result.andThen_ok,storeCells,ha0,run_store P x.w _ (.pointer (some ⟨b2,q2+off,none⟩)) .plain rfl,hu,hfr,Bool.false_eq_true,if_false]
  ·show ts.length=s2.vars.length
   rw [g3];exact ht.len
  ·show B.nb<=s2.boxes.length
   rw [g4];exact ht.nbx
 ·cases hput
end Go.Pm
namespace Go.Pm
variable {P:Program} {B:Base} {x:Cx} {FV FC:Nat->Nat->List Nat} {FX:List Nat} {a:Act} {ts:List (Option Nat)} {n:Nat}
theorem SR.regrow (h:SR B x FV FC FX) {w':World} {FX':List Nat} (hw:∀ b,b<x.w.heap.size->FX.count b=0->w'.heap[b]? =x.w.heap[b]?) (hgw:Grow x.w w')
 (hF:∀ b,b<x.w.heap.size->FX'.count b<=FX.count b) (hF':∀ b,x.w.heap.size<=b->FX'.count b<=1):SR B ⟨w',x.I,x.φ,x.tm,x.st⟩ FV FC FX':=by
 have hsz:=hgw.size
 have hfree:∀ {r rs c b},x.st.root r=some rs->c<rs.length->b∈RF FV FC r c->b<x.w.heap.size/\FX.count b=0:=by
  intro r rs c b hr hc hb
  refine ⟨h.lt hr hc hb,?_⟩
  have e1:=zek (FX:=FX) (FV:=FV) (FC:=FC) r rs hr c hc b
  have e2:=h.one b
  have e3:0<(RF FV FC r c).count b:=List.count_pos_iff.2 hb
  omega
 have hIw:∀ b,x.I b->w'.heap[b]? =x.w.heap[b]? :=fun b hb=>hw b (h.ilt b hb) (by
  have:=h.apart b hb;unfold zar at this;omega)
 have hboxw:∀ k,k<x.st.boxes.length->w'.heap[x.φ k]? =x.w.heap[x.φ k]? :=fun k hk=>hw _ (h.box_lt hk) (by
  have e1:=h.one (x.φ k)
  unfold zar at e1
  have e':=zat hk (fun k=>x.φ k::cat (x.st.boxes.getD k []).length (FC k)) (x.φ k)
  simp only [List.count_cons,beq_self_eq_true,if_true] at e'
  omega)
 have hplace:∀ (up:List zbv) (r:Root) (cs:List V),x.st.cont r up=some cs->∀ c,c<cs.length->Cx.place ⟨w',x.I,x.φ,x.tm,x.st⟩ r up c=x.place r up c:=by
  intro up
  induction up with
  | nil=>
    intro r cs hcs c hc
    rcases za6 hcs with ⟨i,rfl,hi,rfl⟩|⟨k,rfl,hk,rfl⟩
    ·rfl
    ·show zad w' (x.φ k) c=zad x.w (x.φ k) c
     simp only [zad,World.cell?,hboxw k hk]
  | cons s up ih=>
    obtain ⟨i,e,c'⟩:=s
    intro r cs hcs c hc
    obtain ⟨os,xs,ho,hc',hown,hi,rfl⟩:=zaf hcs
    simp only [Cx.place,ih r os ho c' hc']
    cases hp:x.place r up c' with
    | slice ad m cap=>
      cases ad with
      | none=>rfl
      | some ad=>
        obtain ⟨F,hL,hFF,rs,hrs,hrc⟩:=h.at r up os ho c' hc'
        rw [hown] at hL
        have hm:=zbq (show VR x.w x.I _ (.own e xs) F from hL) hp
        have hm2:ad.block∈RF FV FC r (rootCell c' up):=List.count_pos_iff.1 (by have:=hFF ad.block;have:0<F.count ad.block:=List.count_pos_iff.2 hm;omega)
        obtain ⟨h1,h2⟩:=hfree hrs hrc hm2
        simp only [zad,World.cell?,hw _ h1 h2]
    | _=>rfl
 have hL1:∀ v z F,x.LR1 v z F->(∀ b∈F,w'.heap[b]? =x.w.heap[b]?)->Cx.LR1 ⟨w',x.I,x.φ,x.tm,x.st⟩ v z F:=by
  intro v z F hL hFF
  refine LR1.keep hL ?_ (fun _ h=>h) hIw hFF
  intro hm
  cases z with
  | ref r c up=>
    cases up with
    | nil=>exact hL
    | cons s up=>
      obtain ⟨i,e,c'⟩:=s
      obtain ⟨h1,⟨cs,h2⟩,ad,m,cap,h3,h4⟩:=hL
      obtain ⟨os,xs,ho,hc',_⟩:=zaf h2
      exact ⟨h1,⟨cs,h2⟩,ad,m,cap,(hplace up r os ho c' hc').trans h3,h4⟩
  | hd e r c up lo hi=>
    obtain ⟨h1,xs,h2,h3⟩:=hL
    obtain ⟨cs,hcs,hlt,_⟩:=zba h2
    exact ⟨h1,xs,h2,by rw [hplace up r cs hcs c hlt];exact h3⟩
  | eptr cs c=>
    obtain ⟨h1,b,o,h2,h3,vs,h4⟩:=hL
    refine ⟨h1,b,o,h2,h3,vs,fun j hj=> ?_⟩
    obtain ⟨h5,h6⟩:=h4 j hj
    refine ⟨?_,h6.1.keep (fun _ h=>h) hIw (by simp),h6.2⟩
    rw [<- h5];simp [World.cell?,hIw b h3]
  | fn f caps=>exact hL
  | _=>cases hm
 have hle:∀ b,b<x.w.heap.size->zar x.st x.φ FV FC FX' b<=zar x.st x.φ FV FC FX b:=by
  intro b hb
  have:=hF b hb
  unfold zar;omega
 refine ⟨h.shape,?_,?_,?_,h.bmark,?_,?_,fun b hb=>Nat.lt_of_lt_of_le (h.ilt b hb) hsz,?_,h.gr.trans hgw,?_,h.imm,h.new⟩
 ·intro i hi c hc
  have:=h.vars i hi c hc
  refine hL1 _ _ _ this fun b hb=> ?_
  obtain ⟨h1,h2⟩:=hfree (r:=.var i) (zbo hi) hc hb
  exact hw b h1 h2
 ·intro k hk
  obtain ⟨cs,E,lo,hi,h1,h2⟩:=h.box k hk
  exact ⟨cs,E,lo,hi,(hboxw k hk).trans h1,h2⟩
 ·intro k hk c hc
  have:=h.boxes k hk c hc
  have hrv:Cx.rv ⟨w',x.I,x.φ,x.tm,x.st⟩ (.box k) c=x.rv (.box k) c:=by
   show zad w' (x.φ k) c=zad x.w (x.φ k) c
   simp only [zad,World.cell?,hboxw k hk]
  rw [hrv]
  refine hL1 _ _ _ this fun b hb=> ?_
  obtain ⟨h1,h2⟩:=hfree (r:=.box k) (zbl hk) hc hb
  exact hw b h1 h2
 ·intro b
  by_cases hb:b<x.w.heap.size
  ·exact Nat.le_trans (hle b hb) (h.one b)
  ·show zar x.st x.φ FV FC FX' b<=1
   rw [h.held_out FX' (by omega)];exact hF' b (by omega)
 ·intro b hb
  show zar x.st x.φ FV FC FX' b=0
  have:=hle b (h.ilt b hb);have:=h.apart b hb;omega
 ·intro b hb hO
  refine (hw b (Nat.lt_of_lt_of_le hb h.size) ?_).trans (h.keep b hb hO)
  by_cases h0:FX.count b=0
  ·exact h0
  ·exfalso
   rcases h.held b (by unfold zar;omega) with h1|h1
   ·exact hO h1
   ·omega
 ·intro b hb
  by_cases hlt:b<x.w.heap.size
  ·exact h.held b (Nat.lt_of_lt_of_le hb (hle b hlt))
  ·exact .inr (Nat.le_trans h.size (by omega))
end Go.Pm
namespace Go.Pm
variable {P:Program} {B:Base} {x:Cx} {FV FC:Nat->Nat->List Nat} {FX:List Nat} {a:Act} {ts:List (Option Nat)} {n:Nat}
structure RowOf (w:World) (I:Nat->Prop) (val:Value) (e:Nat) (ys:List V) (us:Nat->Value) (Fs:Nat->List Nat):Prop where
 cells:∀ y∈ys,y.cells.length=e
 okE:∀ y∈ys,y.okE=true
 vr:∀ i j,i<ys.length->j<e->VR w I (us (i * e+j)) (elt ys i j) (Fs (i * e+j))
 first:∀ (P:Program) (w2:World),w2.heap=w.heap->(Builtin.firstCells e ys.length val).run P w2=.ok ((List.range (ys.length * e)).map us).toArray w2
 len:∀ (P:Program) (w2:World),(Builtin.lenOf val).run P w2=.ok ys.length w2
theorem zzy {w w2:World} (h:w2.heap=w.heap) (b o:Nat):w2.cell? ⟨b,o,none⟩=w.cell? ⟨b,o,none⟩:=by simp [World.cell?,h]
theorem zee {w:World} {b of m e cap:Nat} {us:Nat->Value} (h:∀ q,q<m * e->w.cell? ⟨b,of+q,none⟩=some (us q)) (P:Program) (w2:World) (hw:w2.heap=w.heap):
 (Builtin.firstCells e m (.slice (some ⟨b,of,none⟩) m cap)).run P w2=.ok ((List.range (m * e)).map us).toArray w2:=
 run_loadCells (P:=P) w2 ⟨b,of,none⟩ (m * e) us (fun j hj=>by rw [zbh,zzy hw];exact h j hj)
theorem yga {w I val e ys F} (hV:VR w I val (.own e ys) F):∃ us Fs,RowOf w I val e ys us Fs/\∀ b,(cat (ys.length * e) Fs).count b<=F.count b:=by
 cases hV with
 | own0=>
   exact ⟨fun _=>undef,fun _=>[],⟨by simp,by simp,fun i j hi=>by simp at hi,fun P w2 _=>by simp [Builtin.firstCells],fun P w2=>by simp [Builtin.lenOf]⟩,fun b=>by rw [zb6];simp⟩
 | own ad cap _ _ vs Fs hs he hz hl hb hc hf hr=>
   obtain ⟨b,of,sp⟩:=ad
   simp only at hs
   subst hs
   exact ⟨vs,Fs,⟨hz,hf,hr,zee hc,fun P w2=>by simp [Builtin.lenOf]⟩,fun b=>by rw [List.count_cons];omega⟩
theorem zxs {w I val e ys} (hV:VR w I val (.imm e ys) []):∃ us,RowOf w I val e ys us fun _=>[]:=by
 cases hV with
 | imm0 _ ad cap=>
   refine ⟨fun _=>undef,⟨by simp,by simp,fun i j hi=>by simp at hi,fun P w2 _=> ?_,fun P w2=>by simp [Builtin.lenOf]⟩⟩
   cases ad <;> simp [Builtin.firstCells,loadCells,loadCellsFrom]
 | imm ad cap _ _ vs hs hI he hl hz hc hf hr=>
   obtain ⟨b,of,sp⟩:=ad
   simp only at hs
   subst hs
   exact ⟨vs,⟨hz,hf,hr,zee hc,fun P w2=>by simp [Builtin.lenOf]⟩⟩
theorem yg9 {w I} (s:ByteArray):∃ us,RowOf w I (.string s) 1 (zc7 s) us fun _=>[]:=by
 have hlen:(zc7 s).length=s.size:=by simp [zc7]
 refine ⟨fun q=>.int .u8 (s.data.getD q 0).toNat,⟨?_,?_,?_,?_,?_⟩⟩
 ·intro z hz;obtain ⟨u,_,rfl⟩:=List.mem_map.1 hz;rfl
 ·intro z hz;obtain ⟨u,_,rfl⟩:=List.mem_map.1 hz;rfl
 ·intro i j hi hj
  have:j=0:=by omega
  subst this
  have hi':i<s.data.size:=by rw [hlen] at hi;exact hi
  have h0:s.data[i]? =some s.data[i]:=Array.getElem?_eq_getElem hi'
  have h1:elt (zc7 s) i 0=zpk s.data[i]:=by unfold elt;simp [zc7,List.getD,h0,zpk,V.cells]
  have h2:s.data.getD (i * 1+0) 0=s.data[i]:=by simp [Array.getD_eq_getD_getElem?,h0]
  rw [h1,h2]
  exact VR.int _ _
 ·intro P w2 _
  simp only [Builtin.firstCells,hlen,Nat.mul_one,Sem.run_pure]
  congr 1
  apply Array.ext'
  have e1:s.extract 0 s.size=s:=by
   apply ByteArray.ext
   rw [ByteArray.data_extract]
   exact Array.extract_size
  rw [e1]
  simp only [Array.toList_map]
  apply List.ext_getElem
  ·rw [List.length_map,List.length_map,List.length_range];rfl
  ·intro i h1 h2
   simp only [List.getElem_map,List.getElem_range,Array.getElem_toList]
   simp only [List.length_map,List.length_range] at h2
   have h2':i<s.data.size:=h2
   have h0:s.data[i]? =some s.data[i]:=Array.getElem?_eq_getElem h2'
   simp only [Array.getD_eq_getD_getElem?,h0,Option.getD_some]
 ·intro P w2;simp [Builtin.lenOf,hlen]
theorem zgs (b q m:Nat):∀ (vs:List Value) (i0:Nat) (w:World),Rows w b m->q+i0+vs.length<=m->(∀ v∈vs,v.oneCell'=true)->
 ∃ w',(storeCells ⟨b,q,none⟩ vs i0).run P w=.ok () w'/\(w'.heap.size=w.heap.size/\Grow w w')/\(∀ k,k≠b->w'.heap[k]? =w.heap[k]?)/\Rows w' b m/\
   (∀ j,j<vs.length->w'.cell? ⟨b,q+i0+j,none⟩=some (vs.getD j undef))/\(∀ o,(o<q+i0\/q+i0+vs.length<=o)->w'.cell? ⟨b,o,none⟩=w.cell? ⟨b,o,none⟩)
 | [],i0,w,hr,_,_=>⟨w,by simp [storeCells],⟨rfl,.refl _⟩,fun _ _=>rfl,hr,fun j hj=>by simp at hj,fun _ _=>rfl⟩
 | v::vs,i0,w,hr,hm,h1=>by
   simp only [List.length_cons] at hm
   obtain ⟨u,hu⟩:=hr.cell (o:=q+i0) (by omega)
   have hfr:=ze9 hr hu
   obtain ⟨w',k1,⟨k2,kg⟩,k3,k4,k5,k6⟩:=zgs b q m vs (i0+1) (w.setCell ⟨b,q+i0,none⟩ v) (zco hr) (by omega) (fun u hu=>h1 u (by simp [hu]))
   refine ⟨w',?_,⟨by rw [k2];simp [World.setCell],Grow.trans (w1:=w.setCell ⟨b,q+i0,none⟩ v) ⟨by simp [World.setCell],rfl,rfl,rfl⟩ kg⟩,fun k hk=>(k3 k hk).trans (zb2 _ _ _ _ hk),k4,?_,?_⟩
   ·simp only [storeCells,zbh,Sem.run_bind,run_store P w _ _ _ (h1 v (by simp)),hu,hfr,Bool.false_eq_true,if_false,Result.andThen_ok,k1]
   ·intro j hj
    cases j with
    | zero=>
      simp only [Nat.add_zero,List.getD_cons_zero]
      rw [k6 _ (.inl (by omega))]
      exact zes hu
    | succ j=>
      have:=k5 j (by simpa using hj)
      rw [show q+(i0+1)+j=q+i0+(j+1) by omega] at this
      simpa using this
   ·intro o ho
    simp only [List.length_cons] at ho
    rw [k6 o (by omega)]
    exact zap (.inr (by omega))
def zk9 (P:Program) (u:TypeId):Bool:=
 match P.underlying u with
 | some (.slice _)=>true
 | some .string=>true
 | _=>false
theorem zfp {u:TypeId} (hu:zk9 P u=true):(∃ e,P.underlying u=some (.slice e))\/P.underlying u=some .string:=by
 unfold zk9 at hu
 split at hu
 ·exact .inl ⟨_,by assumption⟩
 ·exact .inr (by assumption)
 ·cases hu
theorem zgp {t u ty el:TypeId} {e sLen sCap m:Nat} {base:Option Addr} {xv:Value} {new:Array Value} {w w':World} (ht:P.underlying t=some (.slice el)) (hu:zk9 P u=true) (hsz:zcn P el=some e)
 (hlen:(Builtin.lenOf xv).run P w=.ok m w) (hfirst:(Builtin.firstCells e m xv).run P w=.ok new w) (hroom:sLen+m<=sCap)
 (hst:(match base with|none=>(Pure.pure ():Sem Unit)|some ad=>storeCells (ad.add (sLen * e)) new.toList).run P w=.ok () w'):
 (Builtin.append_ #[t,u] ty #[.slice base sLen sCap,xv]).run P w=.ok (.slice base (sLen+m) sCap) w':=by
 cases base with
 | none=>
   simp at hst
   subst hst
   rcases zfp hu with ⟨q,hd⟩|hd
   ·simp [Builtin.append_,run_underlying ht,run_underlying hd,zb7 hsz,hlen,hroom,hfirst]
   ·simp [Builtin.append_,run_underlying ht,run_underlying hd,zb7 hsz,hlen,hroom,hfirst]
 | some ad=>
   rcases zfp hu with ⟨q,hd⟩|hd
   ·simp [Builtin.append_,run_underlying ht,run_underlying hd,zb7 hsz,hlen,hroom,hfirst,hst]
   ·simp [Builtin.append_,run_underlying ht,run_underlying hd,zb7 hsz,hlen,hroom,hfirst,hst]
theorem zkv {t u ty el:TypeId} {i:TypeInfo} {z:Value} {sLen sCap m:Nat} {base:Option Addr} {xv:Value} {old new:Array Value} {w:World} (ht:P.underlying t=some (.slice el)) (hu:zk9 P u=true)
 (hi:P.info? el=some i) (hz:i.zero=some z) (hlen:(Builtin.lenOf xv).run P w=.ok m w) (hfirst:∀ w2:World,w2.heap=w.heap->(Builtin.firstCells i.size m xv).run P w2=.ok new w2)
 (hold:∀ w2:World,w2.heap=w.heap->(Builtin.firstCells i.size sLen (.slice base sLen sCap)).run P w2=.ok old w2) (hroom:sCap<sLen+m) (h63:((sLen+m:Nat):Int)<=9223372036854775807) (hfit:Builtin.nextslicecap (sLen+m) sCap * i.bytes<=281474976710656):
 (Builtin.append_ #[t,u] ty #[.slice base sLen sCap,xv]).run P w=.ok (.slice (some ⟨w.heap.size,0,none⟩) (sLen+m) (grownCap w (sLen+m) sCap el))
  (w.drew.alloc (.cells (old++new++Builtin.zeroCells z.cells (grownCap w (sLen+m) sCap el - (sLen+m))) el)):=by
 have hn:¬(sLen+m<=sCap):=by omega
 have h63':¬(9223372036854775807<((sLen:Int)+(m:Int))):=by omega
 have h48':¬(281474976710656<Builtin.nextslicecap (sLen+m) sCap * i.bytes):=by omega
 have h1:=hfirst w.drew rfl
 have h2:=hold w.drew rfl
 rcases zfp hu with ⟨q,hd⟩|hd
 ·simp [Builtin.append_,run_underlying ht,run_underlying hd,sizeOf,typeInfo,zeroValue,hi,hz,hlen,hn,h63',h48',Question.forced,h1,h2,newRow,grownCap]
 ·simp [Builtin.append_,run_underlying ht,run_underlying hd,sizeOf,typeInfo,zeroValue,hi,hz,hlen,hn,h63',h48',Question.forced,h1,h2,newRow,grownCap]
end Go.Pm
namespace Go.Pm
variable {P:Program} {B:Base} {x:Cx} {FV FC:Nat->Nat->List Nat} {FX:List Nat} {a:Act} {ts:List (Option Nat)} {n:Nat}
theorem zhd {xs ys:List V} {i j:Nat}:elt (xs++ys) i j=if i<xs.length then elt xs i j else elt ys (i - xs.length) j:=by
 unfold elt
 simp only [List.getD,List.getElem?_append]
 split <;> rfl
def zp7 {α:Type} (m:Nat) (f g:Nat->α) (q:Nat):α:=if q<m then f q else g (q - m)
theorem zol {α:Type} {e k i j:Nat} (f g:Nat->α) (hj:j<e):zp7 (k * e) f g (i * e+j)=if i<k then f (i * e+j) else g ((i - k) * e+j):=by
 unfold zp7
 by_cases h:i<k
 ·rw [if_pos h,if_pos (zca h hj)]
 ·have h1:k * e<=i * e:=Nat.mul_le_mul_right _ (by omega)
  have h2:(i - k) * e+k * e=i * e:=by rw [<- Nat.add_mul];congr 1;omega
  rw [if_neg h,if_neg (by omega)]
  congr 1;omega
theorem zmd (m k:Nat) (F G:Nat->List Nat) (b):tot (m+k) (zp7 m F G) b=tot m F b+tot k G b:=by
 have h1:=zb5 m k (zp7 m F G) b
 have h2:tot k (fun q=>zp7 m F G (m+q)) b=tot k G b:=zaa b fun i _=>by
  unfold zp7;rw [if_neg (by omega)];congr 2;omega
 have h3:tot m (zp7 m F G) b=tot m F b:=zaa b fun i hi=>by unfold zp7;rw [if_pos hi]
 simp only [h2,h3] at h1
 omega
theorem zxx (h:SR B x FV FC FX) {sval yval:Value} {xs ys:List V} {F0:List Nat} {us:Nat->Value} {Fs2:Nat->List Nat} {e bytes:Nat} (hV:VR x.w x.I sval (.own e xs) F0) (hR:RowOf x.w x.I yval e ys us Fs2)
 (hcnt:∀ b,F0.count b+(cat (ys.length * e) Fs2).count b<=FX.count b) (he:0<e) {t u ty el:TypeId} {i:TypeInfo} {z:Value} (ht:P.underlying t=some (.slice el)) (hu:zk9 P u=true)
 (hi:P.info? el=some i) (hz:i.zero=some z) (hsz:i.size=e) (hby:i.bytes=bytes) (hzs:z.cells.size=e) (hb0:0<bytes) (hfit:(xs.length+ys.length) * bytes<=70368744177664):
 ∃ val w' F',(Builtin.append_ #[t,u] ty #[sval,yval]).run P x.w=.ok val w'/\SR B ⟨w',x.I,x.φ,x.tm,x.st⟩ FV FC F'/\VR w' x.I val (.own e (xs++ys)) F':=by
 have hone:∀ b,FX.count b<=1:=fun b=>by have:=h.one b;unfold zar at this;omega
 have hlt:∀ b,0<FX.count b->b<x.w.heap.size\/x.w.heap.size<=b:=fun b _=>Nat.lt_or_ge _ _
 have hsize:zcn P el=some e:=by unfold zcn;rw [hi];simp [hsz]
 have hlen63:xs.length+ys.length<=70368744177664:=Nat.le_trans (Nat.le_mul_of_pos_right _ hb0) hfit
 have hz2:∀ w∈xs++ys,w.cells.length=e->True:=fun _ _ _=>trivial
 have grow:∀ (base:Option Addr) (sCap:Nat) (vs:Nat->Value) (Fs:Nat->List Nat),sval=.slice base xs.length sCap->sCap<xs.length+ys.length->(∀ y∈xs,y.cells.length=e)->(∀ y∈xs,y.okE=true)->
  (∀ w2:World,w2.heap=x.w.heap->(Builtin.firstCells i.size xs.length (.slice base xs.length sCap)).run P w2=.ok ((List.range (xs.length * e)).map vs).toArray w2)->
  (∀ k j,k<xs.length->j<e->VR x.w x.I (vs (k * e+j)) (elt xs k j) (Fs (k * e+j)))->(∀ b,(cat (xs.length * e) Fs).count b<=F0.count b)->
  ∃ val w' F',(Builtin.append_ #[t,u] ty #[sval,yval]).run P x.w=.ok val w'/\SR B ⟨w',x.I,x.φ,x.tm,x.st⟩ FV FC F'/\VR w' x.I val (.own e (xs++ys)) F':=by
  intro base sCap vs Fs hsv hroom hxe hxo hold hvr hFs
  have hge:=grownCap_ge x.w (xs.length+ys.length) sCap el
  have hrun:=zkv (P:=P) (t:=t) (u:=u) (ty:=ty) (sLen:=xs.length) (sCap:=sCap) (m:=ys.length) (base:=base) (xv:=yval) (w:=x.w) ht hu hi hz (hR.len P x.w)
   (fun w2 hw2=>by rw [hsz];exact hR.first P w2 hw2) hold hroom (by omega) (growslice_fits hroom (by rw [hby];omega))
  have hcsz:∀ q,q<(xs.length+ys.length) * e->((((List.range (xs.length * e)).map vs).toArray++((List.range (ys.length * e)).map us).toArray++Builtin.zeroCells z.cells (grownCap x.w (xs.length+ys.length) sCap el - (xs.length+ys.length)):Array Value))[q]? =some (zp7 (xs.length * e) vs us q):=by
   intro q hq
   rw [Nat.add_mul] at hq
   unfold zp7
   rw [Array.getElem?_append_left (by simp;omega)]
   by_cases hq1:q<xs.length * e
   ·rw [if_pos hq1,Array.getElem?_append_left (by simpa using hq1)]
    simp [hq1]
   ·rw [if_neg hq1,Array.getElem?_append_right (by simp;omega)]
    have:q - xs.length * e<ys.length * e:=by omega
    simp [this]
  have hw:∀ b,b<x.w.heap.size->(x.w.drew.alloc (.cells (((List.range (xs.length * e)).map vs).toArray++((List.range (ys.length * e)).map us).toArray++Builtin.zeroCells z.cells (grownCap x.w (xs.length+ys.length) sCap el - (xs.length+ys.length))) el)).heap[b]? =x.w.heap[b]? :=
   fun b hb=>heap_alloc_old x.w.drew _ b hb
  have hVlt:∀ k j,k<xs.length->j<e->∀ b∈Fs (k * e+j),b<x.w.heap.size:=fun k j hk hj b hb=>(hvr k j hk hj).lt b hb
  have hYlt:∀ k j,k<ys.length->j<e->∀ b∈Fs2 (k * e+j),b<x.w.heap.size:=fun k j hk hj b hb=>(hR.vr k j hk hj).lt b hb
  have hnoX:∀ b,x.w.heap.size<=b->tot (xs.length * e) Fs b=0:=fun b hb=>zb9 fun q hq hm=>by
   have h1:q / e<xs.length:=Nat.div_lt_of_lt_mul (by rw [Nat.mul_comm];exact hq)
   have h3:q / e * e+q % e=q:=by rw [Nat.mul_comm];exact Nat.div_add_mod q e
   have:=hVlt (q / e) (q % e) h1 (Nat.mod_lt _ he) b (by rw [h3];exact hm)
   omega
  have hnoY:∀ b,x.w.heap.size<=b->tot (ys.length * e) Fs2 b=0:=fun b hb=>zb9 fun q hq hm=>by
   have h1:q / e<ys.length:=Nat.div_lt_of_lt_mul (by rw [Nat.mul_comm];exact hq)
   have h3:q / e * e+q % e=q:=by rw [Nat.mul_comm];exact Nat.div_add_mod q e
   have:=hYlt (q / e) (q % e) h1 (Nat.mod_lt _ he) b (by rw [h3];exact hm)
   omega
  have hmul:(xs++ys).length * e=xs.length * e+ys.length * e:=by rw [List.length_append,Nat.add_mul]
  have hFcount:∀ b,(x.w.heap.size::cat ((xs++ys).length * e) (zp7 (xs.length * e) Fs Fs2)).count b=(if b=x.w.heap.size then 1 else 0)+tot (xs.length * e) Fs b+tot (ys.length * e) Fs2 b:=by
   intro b
   rw [List.count_cons,za2,hmul,zmd]
   by_cases e':b=x.w.heap.size
   ·subst e';simp;omega
   ·have:¬ x.w.heap.size=b:=fun h=>e' h.symm
    simp [e',this]
  refine ⟨_,_,x.w.heap.size::cat ((xs++ys).length * e) (zp7 (xs.length * e) Fs Fs2),by rw [hsv];exact hrun,h.regrow (fun b hb _=>hw b hb) ⟨by simp,rfl,rfl,rfl⟩ ?_ ?_,?_⟩
  ·intro b hb
   have e1:=hFcount b;have e2:=hcnt b;have e3:=hFs b
   rw [za2] at e2 e3
   rw [if_neg (by omega)] at e1
   omega
  ·intro b hb
   have e1:=hFcount b
   rw [hnoX b hb,hnoY b hb] at e1
   split at e1 <;> omega
  ·have hlen:(xs++ys).length=xs.length+ys.length:=by simp
   have:=VR.own (w:=x.w.drew.alloc (.cells (((List.range (xs.length * e)).map vs).toArray++((List.range (ys.length * e)).map us).toArray++Builtin.zeroCells z.cells (grownCap x.w (xs.length+ys.length) sCap el - (xs.length+ys.length))) el)) (I:=x.I)
    ⟨x.w.heap.size,0,none⟩ (grownCap x.w (xs.length+ys.length) sCap el) e (xs++ys) (zp7 (xs.length * e) vs us) (zp7 (xs.length * e) Fs Fs2) rfl he
    (fun y hy=>(List.mem_append.1 hy).elim (hxe y) (hR.cells y)) (by rw [hlen];exact hge) ?_ ?_ (fun y hy=>(List.mem_append.1 hy).elim (hxo y) (hR.okE y)) ?_
   ·rw [hlen] at this;rw [hlen];exact this
   ·refine ⟨_,el,0,0,heap_alloc_new x.w.drew _,?_,fun o _=>by omega⟩
    have e1:(xs.length+ys.length) * e+(grownCap x.w (xs.length+ys.length) sCap el - (xs.length+ys.length)) * e=grownCap x.w (xs.length+ys.length) sCap el * e:=by rw [<- Nat.add_mul];congr 1;omega
    simp only [Array.size_append,List.size_toArray,List.length_map,List.length_range,size_zeroCells,hzs]
    rw [Nat.add_mul] at e1
    omega
   ·intro q hq
    rw [hlen] at hq
    have h0:=heap_alloc_new x.w.drew (.cells (((List.range (xs.length * e)).map vs).toArray++((List.range (ys.length * e)).map us).toArray++Builtin.zeroCells z.cells (grownCap x.w (xs.length+ys.length) sCap el - (xs.length+ys.length))) el)
    have h00:(x.w.drew.alloc (.cells (((List.range (xs.length * e)).map vs).toArray++((List.range (ys.length * e)).map us).toArray++Builtin.zeroCells z.cells (grownCap x.w (xs.length+ys.length) sCap el - (xs.length+ys.length))) el)).heap[x.w.heap.size]? =_:=h0
    have h1:=hcsz q hq
    simp only [World.cell?,h00,Nat.zero_add]
    exact h1
   ·intro k j hk hj
    rw [hlen] at hk
    rw [zhd,zol _ _ hj,zol _ _ hj]
    by_cases hk1:k<xs.length
    ·rw [if_pos hk1,if_pos hk1,if_pos hk1]
     exact (hvr k j hk1 hj).keep (fun _ h=>h) (fun b hb=>hw b (h.ilt b hb)) (fun b hb=>hw b (hVlt k j hk1 hj b hb))
    ·rw [if_neg hk1,if_neg hk1,if_neg hk1]
     exact (hR.vr (k - xs.length) j (by omega) hj).keep (fun _ h=>h) (fun b hb=>hw b (h.ilt b hb)) (fun b hb=>hw b (hYlt _ j (by omega) hj b hb))
 cases hV with
 | own0=>
   by_cases hm:ys.length=0
   ·have hys:ys=[]:=List.eq_nil_of_length_eq_zero hm
    subst hys
    refine ⟨.slice none 0 0,x.w,[],?_,h.regrow (fun _ _ _=>rfl) (.refl _) (fun b _=>by simp) (fun b _=>by simp),VR.own0 e⟩
    exact zgp (P:=P) (base:=none) (sLen:=0) (sCap:=0) (m:=0) (new:= #[]) ht hu hsize (hR.len P x.w) (by have:=hR.first P x.w rfl;simpa using this) (Nat.le_refl _) (by simp)
   ·exact grow none 0 (fun _=>undef) (fun _=>[]) rfl (by simp;omega) (by simp) (by simp) (fun w2 _=>by simp [Builtin.firstCells]) (fun k j hk=>by simp at hk) (fun b=>by rw [zb6];simp)
 | own ad cap _ _ vs Fs hs _ hzz hl hb hcs hf hr=>
   obtain ⟨bl,of,sp⟩:=ad
   simp only at hs
   subst hs
   simp only at hb hcs hcnt
   have hFle:∀ b,(cat (xs.length * e) Fs).count b<=(bl::cat (xs.length * e) Fs).count b:=fun b=>by rw [List.count_cons];omega
   by_cases hroom:xs.length+ys.length<=cap
   ·have hcap:(xs.length+ys.length) * e<=cap * e:=Nat.mul_le_mul_right _ hroom
    have hone':∀ v∈((List.range (ys.length * e)).map us),v.oneCell'=true:=by
     intro v hv
     obtain ⟨q,hq,rfl⟩:=List.mem_map.1 hv
     have hq:=List.mem_range.1 hq
     have h1:q / e<ys.length:=Nat.div_lt_of_lt_mul (by rw [Nat.mul_comm];exact hq)
     have h3:q / e * e+q % e=q:=by rw [Nat.mul_comm];exact Nat.div_add_mod q e
     have:=hR.vr (q / e) (q % e) h1 (Nat.mod_lt _ he)
     rw [h3] at this
     exact zhn this (zeb hR.okE hR.cells h1 (Nat.mod_lt _ he))
    obtain ⟨w',k1,⟨k2,kg⟩,k3,k4,k5,k6⟩:=zgs (P:=P) bl (of+xs.length * e) (of+cap * e) ((List.range (ys.length * e)).map us) 0 x.w hb (by simp;rw [Nat.add_mul] at hcap;omega) hone'
    simp only [Nat.add_zero,List.length_map,List.length_range] at k5 k6
    have hbl:0<FX.count bl:=by have:=hcnt bl;rw [List.count_cons] at this;simp at this;omega
    have hIne:∀ b,x.I b->b≠bl:=by
     intro b hb' e';subst e';have:=h.apart _ hb';unfold zar at this;omega
    have hXne:∀ k j,k<xs.length->j<e->∀ b∈Fs (k * e+j),b≠bl:=by
     intro k j hk hj b hb' e';subst e'
     have e1:=hcnt b;have e2:=hone b
     rw [List.count_cons,za2] at e1
     have e3:=zat (zca hk hj) Fs b
     have e4:0<(Fs (k * e+j)).count b:=List.count_pos_iff.2 hb'
     simp at e1;omega
    have hYne:∀ k j,k<ys.length->j<e->∀ b∈Fs2 (k * e+j),b≠bl:=by
     intro k j hk hj b hb' e';subst e'
     have e1:=hcnt b;have e2:=hone b
     rw [List.count_cons,za2,za2] at e1
     have e3:=zat (zca hk hj) Fs2 b
     have e4:0<(Fs2 (k * e+j)).count b:=List.count_pos_iff.2 hb'
     simp at e1;omega
    have hmul:(xs++ys).length * e=xs.length * e+ys.length * e:=by rw [List.length_append,Nat.add_mul]
    refine ⟨.slice (some ⟨bl,of,none⟩) (xs.length+ys.length) cap,w',bl::cat ((xs++ys).length * e) (zp7 (xs.length * e) Fs Fs2),?_,h.regrow (fun b _ hb'=>k3 b (fun e'=>by subst e';omega)) kg ?_ ?_,?_⟩
    ·refine zgp (P:=P) ht hu hsize (hR.len P x.w) (hR.first P x.w rfl) hroom ?_
     simp only [zbh]
     exact k1
    ·intro b _
     have e1:=hcnt b
     rw [List.count_cons,za2,za2] at e1
     rw [List.count_cons,za2,hmul,zmd];omega
    ·intro b hb'
     have e1:=hcnt b;have e2:=hone b
     rw [List.count_cons,za2,za2] at e1
     rw [List.count_cons,za2,hmul,zmd];omega
    ·have hlen:(xs++ys).length=xs.length+ys.length:=by simp
     rw [<- hlen]
     refine VR.own ⟨bl,of,none⟩ cap e (xs++ys) (zp7 (xs.length * e) vs us) (zp7 (xs.length * e) Fs Fs2) rfl he (fun y hy=>(List.mem_append.1 hy).elim (hzz y) (hR.cells y)) (by rw [hlen];exact hroom) k4 ?_
      (fun y hy=>(List.mem_append.1 hy).elim (hf y) (hR.okE y)) ?_
     ·intro q hq
      rw [hmul] at hq
      show w'.cell? ⟨bl,of+q,none⟩=_
      unfold zp7
      by_cases hq1:q<xs.length * e
      ·rw [if_pos hq1,k6 _ (.inl (by omega))];exact hcs q hq1
      ·rw [if_neg hq1]
       have:=k5 (q - xs.length * e) (by omega)
       rw [show of+xs.length * e+(q - xs.length * e)=of+q by omega] at this
       rw [this]
       have hlt:q - xs.length * e<ys.length * e:=by omega
       simp [List.getD,hlt]
     ·intro k j hk hj
      rw [hlen] at hk
      rw [zhd,zol _ _ hj,zol _ _ hj]
      by_cases hk1:k<xs.length
      ·rw [if_pos hk1,if_pos hk1,if_pos hk1]
       exact (hr k j hk1 hj).keep (fun _ h=>h) (fun b hb=>k3 b (hIne b hb)) (fun b hb=>k3 b (hXne k j hk1 hj b hb))
      ·rw [if_neg hk1,if_neg hk1,if_neg hk1]
       exact (hR.vr (k - xs.length) j (by omega) hj).keep (fun _ h=>h) (fun b hb=>k3 b (hIne b hb)) (fun b hb=>k3 b (hYne _ j (by omega) hj b hb))
   ·exact grow (some ⟨bl,of,none⟩) cap vs Fs rfl (by omega) hzz hf (fun w2 hw2=>by rw [hsz];exact zee hcs P w2 hw2) hr hFle
end Go.Pm
namespace Go.Pm
variable {P:Program} {B:Base} {x:Cx} {FV FC:Nat->Nat->List Nat} {FX:List Nat} {a:Act} {ts:List (Option Nat)} {n:Nat}
structure AppTy (P:Program) (t u el:TypeId) (e bytes:Nat):Prop where
 t:P.underlying t=some (.slice el)
 u:zk9 P u=true
 info:∃ i z,P.info? el=some i/\i.zero=some z/\i.size=e/\i.bytes=bytes/\z.cells.size=e
 e:0<e
 bytes:0<bytes
def yi8 (P:Program) (t u:TypeId) (e bytes:Nat):Bool:=
 match P.underlying t with
 | some (.slice el)=>
   zk9 P u&&decide (0<e)&&decide (0<bytes) &&
   (match P.info? el with
    | some i=>match i.zero with
      | some z=>i.size == e&&i.bytes == bytes&&z.cells.size == e
      | none=>false
    | none=>false)
 | _=>false
theorem zw7 {t u:TypeId} {e bytes:Nat} (h:yi8 P t u e bytes=true):∃ el,AppTy P t u el e bytes:=by
 unfold yi8 at h
 split at h
 ·rename_i el hel
  simp only [Bool.and_eq_true,decide_eq_true_eq] at h
  obtain ⟨⟨⟨h1,h2⟩,h3⟩,h4⟩:=h
  split at h4
  ·rename_i i hi
   split at h4
   ·rename_i z hz
    simp only [Bool.and_eq_true,beq_iff_eq] at h4
    exact ⟨el,hel,h1,⟨i,z,hi,hz,h4.1.1,h4.1.2,h4.2⟩,h2,h3⟩
   ·cases h4
  ·cases h4
 ·cases h
theorem zcj (h:SR B x FV FC FX) (ht:Tied B ts n x a) {o:Oper} {t u el:TypeId} {y z:Operand} {e bytes:Nat} (ho:o.op=.call { callee:=.builtin .append,args:= #[y,z],argTypes:= #[t,u] }) (hty:AppTy P t u el e bytes)
 {xs ys:List V} {F0:List Nat} {us:Nat->Value} {Fs2:Nat->List Nat} (hV:VR x.w x.I (a.eval y) (.own e xs) F0) (hR:RowOf x.w x.I (a.eval z) e ys us Fs2) (hcnt:∀ b,F0.count b+(cat (ys.length * e) Fs2).count b<=FX.count b)
 (hfit:(xs.length+ys.length) * bytes<=70368744177664):zc6 P o a x.w (Out B n ts a x.st (.own e (xs++ys))):=by
 obtain ⟨i,zv,h1,h2,h3,h4,h5⟩:=hty.info
 obtain ⟨val,w',F',hrun,hsr,hvr⟩:=zxx (P:=P) (ty:=o.type) h hV hR hcnt hty.e hty.t hty.u h1 h2 h3 h4 h5 hty.bytes hfit
 refine za9 (val:=val) (w':=w') ?_ ⟨⟨w',x.I,x.φ,x.tm,x.st⟩,FV,FC,F',fun _=>F',rfl,rfl,hsr,⟨ht.len,ht.tie,ht.size,ht.defers,ht.nbx,ht.phi,ht.nk,ht.kp⟩,⟨zik hvr rfl,fun c hc=> ?_⟩,fun b=>by simp [V.cells,cat]⟩
 ·simp only [execOp,ho,resolve,invoke,builtin,Sem.run_bind,Sem.run_pure,Result.andThen_ok,List.map_toArray,List.map_cons,List.map_nil,hrun]
 ·have:c=0:=by simpa [V.cells] using hc
  subst this
  exact za8 hvr rfl
theorem zk5 (h:SR B x FV FC []) (ht:Tied B ts n x a) {y oy v e xs s1} (hy:za1 ts y oy=true) (hr:x.st.rd oy=some v) (htk:x.st.take v=some (.own e xs,s1)):
 ∃ I1 FV1 FC1 FX1,(∀ b,x.I b->I1 b)/\SR B ⟨x.w,I1,x.φ,x.tm,s1⟩ FV1 FC1 FX1/\Tied B ts n ⟨x.w,I1,x.φ,x.tm,s1⟩ a/\∃ F0,VR x.w I1 (a.eval y) (.own e xs) F0/\∀ b,FX1.count b=F0.count b:=by
 rw [zf8] at htk
 obtain ⟨I',FV',FC',FX1,G,H,hsh,hnt,hg⟩:=zgm zci zdu (x0:=x) (I:=x.I) (s:=x.st) h (fun _ h=>h) (.refl _) (zaq h ht hy hr) htk
 obtain ⟨hv,_⟩:=H.vr 0 (by simp [V.cells])
 exact ⟨I',FV',FC',FX1,H.I,H.sr,ht.gho H.gho,G 0,hv,fun b=>by have:=H.fx b;simpa [V.cells,cat] using this⟩
theorem zvd (h:SR B x FV FC []) (ht:Tied B ts n x a) {o:Oper} {t u el:TypeId} {y z:Operand} {oy oz:Opnd} {bytes:Nat} (ho:o.op=.call { callee:=.builtin .append,args:= #[y,z],argTypes:= #[t,u] }) (hty:AppTy P t u el 1 bytes)
 (hy:za1 ts y oy=true) (hz:za1 ts z oz=true) {v xs s1 s} (hr:x.st.rd oy=some v) (htk:x.st.take v=some (.own 1 xs,s1)) (hs:s1.rd oz=some (.str s)) (hfit:(xs.length+s.size) * bytes<=70368744177664):
 zc6 P o a x.w (Out B n ts a s1 (.own 1 (xs++zc7 s))):=by
 obtain ⟨I1,FV1,FC1,FX1,hI,hsr,ht1,F0,hV,hc⟩:=zk5 h ht hy hr htk
 have e1:=zf4 (zaq hsr ht1 hz hs)
 obtain ⟨us,hR⟩:=yg9 (w:=x.w) (I:=I1) s
 refine zcj (x:=⟨x.w,I1,x.φ,x.tm,s1⟩) hsr ht1 ho hty hV (by rw [e1];exact hR) (fun b=>by rw [hc b,zb6];simp) ?_
 have:(zc7 s).length=s.size:=by simp [zc7]
 rw [this];exact hfit
theorem zw3 (h:SR B x FV FC []) (ht:Tied B ts n x a) {o:Oper} {t u el:TypeId} {y z:Operand} {oy oz:Opnd} {e bytes:Nat} (ho:o.op=.call { callee:=.builtin .append,args:= #[y,z],argTypes:= #[t,u] }) (hty:AppTy P t u el e bytes)
 (hy:za1 ts y oy=true) (hz:za1 ts z oz=true) {v xs s1 ys} (hr:x.st.rd oy=some v) (htk:x.st.take v=some (.own e xs,s1)) (hs:s1.rd oz=some (.imm e ys)) (hfit:(xs.length+ys.length) * bytes<=70368744177664):
 zc6 P o a x.w (Out B n ts a s1 (.own e (xs++ys))):=by
 obtain ⟨I1,FV1,FC1,FX1,hI,hsr,ht1,F0,hV,hc⟩:=zk5 h ht hy hr htk
 have hL:=zag (zaq hsr ht1 hz hs) rfl
 obtain ⟨us,hR⟩:=zxs (w:=x.w) (I:=I1) (show VR x.w I1 (a.eval z) (.imm e ys) [] from hL)
 exact zcj (x:=⟨x.w,I1,x.φ,x.tm,s1⟩) hsr ht1 ho hty hV hR (fun b=>by rw [hc b,zb6];simp) hfit
theorem zlp (h:SR B x FV FC []) (ht:Tied B ts n x a) {o:Oper} {t u el:TypeId} {y z:Operand} {oy oz:Opnd} {e bytes:Nat} (ho:o.op=.call { callee:=.builtin .append,args:= #[y,z],argTypes:= #[t,u] }) (hty:AppTy P t u el e bytes)
 (hy:za1 ts y oy=true) (hz:za1 ts z oz=true) {v xs s1 v2 r s2 ys} {frz:Bool} (hr:x.st.rd oy=some v) (htk:x.st.take v=some (.own e xs,s1)) (hs:s1.rd oz=some v2) (htk2:(if frz then s1.freeze v2 else s1.take v2)=some (r,s2))
 (hrr:r=.own e ys\/r=.imm e ys) (hfit:(xs.length+ys.length) * bytes<=70368744177664):zc6 P o a x.w (Out B n ts a s2 (.own e (xs++ys))):=by
 obtain ⟨I1,FV1,FC1,FX1,hI,hsr,ht1,F0,hV,hc⟩:=zk5 h ht hy hr htk
 rw [zh6] at htk2
 obtain ⟨I2,FV2,FC2,FX2,G,H,hsh,hnt,hg⟩:=zgm (zf7 frz) (zgh frz) (x0:=⟨x.w,I1,x.φ,x.tm,s1⟩) (I:=I1) (s:=s1) hsr (fun _ h=>h) (.refl _) (zaq hsr ht1 hz hs) htk2
 have hV2:VR x.w I2 (a.eval y) (.own e xs) F0:=hV.keep H.I (fun _ _=>rfl) (fun _ _=>rfl)
 have ht2:=ht1.gho (I':=I2) H.gho
 rcases hrr with rfl|rfl
 ·obtain ⟨hv,_⟩:=H.vr 0 (by simp [V.cells])
  obtain ⟨us,Fs,hR,hle⟩:=yga (show VR x.w I2 (a.eval z) (.own e ys) (G 0) from hv)
  refine zcj (x:=⟨x.w,I2,x.φ,x.tm,s2⟩) H.sr ht2 ho hty hV2 hR (fun b=> ?_) hfit
  have e1:=H.fx b;have e2:=hle b;have e3:=hc b
  simp only [V.cells,List.length_singleton,cat,List.range_one,List.flatMap_cons,List.flatMap_nil,List.append_nil] at e1 e2 ⊢
  omega
 ·obtain ⟨hv,_⟩:=H.vr 0 (by simp [V.cells])
  have hv':VR x.w I2 (a.eval z) (.imm e ys) (G 0):=hv
  have hG:G 0=[]:=by generalize a.eval z=q at hv';generalize G 0=F at hv';cases hv' <;> rfl
  rw [hG] at hv'
  obtain ⟨us,hR⟩:=zxs hv'
  refine zcj (x:=⟨x.w,I2,x.φ,x.tm,s2⟩) H.sr ht2 ho hty hV2 hR (fun b=> ?_) hfit
  have e1:=H.fx b;have e3:=hc b
  rw [zb6]
  simp only [List.count_nil]
  omega
end Go.Pm
namespace Go.Pm
variable {P:Program} {B:Base} {x:Cx} {FV FC:Nat->Nat->List Nat} {FX:List Nat} {a:Act} {ts:List (Option Nat)} {n:Nat}
theorem SR.rebox (h:SR B x FV FC FX) {k:Nat} (hk:k<x.st.boxes.length) {b':List V} (hlen:b'.length=(x.st.boxes.getD k []).length) {G:Nat->List Nat} {FX':List Nat}
 (hz:∀ c,c<b'.length->x.LR1 (zad x.w (x.φ k) c) (b'.getD c .gone) (G c)/\(b'.getD c .gone).mark=false)
 (hF:∀ b,(cat b'.length G).count b+FX'.count b<=(cat (x.st.boxes.getD k []).length (FC k)).count b+FX.count b):
 SR B ⟨x.w,x.I,x.φ,x.tm,{ vars:=x.st.vars.map (V.leafwise (V.killBox1 k)),boxes:=x.st.boxes.set k b' }⟩ FV (upd FC k G) FX':=by
 have hst:=zay k
 have hg:V.killBox1 k .gone=.gone:=rfl
 have hown:∀ e xs,V.killBox1 k (.own e xs)=.own e xs:=fun _ _=>rfl
 have hvar:∀ i,i<x.st.vars.length->(x.st.vars.map (V.leafwise (V.killBox1 k))).getD i .gone=V.leafwise (V.killBox1 k) (x.st.vars.getD i .gone):=fun i _=>zas (f:=V.leafwise (V.killBox1 k)) _ rfl i
 have hbold:∀ j,j<x.st.boxes.length->j≠k->(x.st.boxes.set k b').getD j []=x.st.boxes.getD j []:=fun j hj hne=>by rw [zal _ _ hj,if_neg hne]
 have hbnew:(x.st.boxes.set k b').getD k []=b':=by rw [zal _ _ hk,if_pos rfl]
 have hm:Moves x ⟨x.w,x.I,x.φ,x.tm,{ vars:=x.st.vars.map (V.leafwise (V.killBox1 k)),boxes:=x.st.boxes.set k b' }⟩ (· ≠ .box k):=by
  refine ⟨?_,?_,fun _ _=>rfl,fun _ h=>h,fun _ _=>rfl⟩
  ·intro r hr cs hcs
   rcases za6 hcs with ⟨i,rfl,hi,rfl⟩|⟨j,rfl,hj,rfl⟩
   ·refine ⟨_,zbo (by simpa using hi),?_,?_⟩
    ·simp only [hvar i hi,zae hst,List.length_map]
    ·intro c e xs _ ho
     simp only [hvar i hi,zae hst]
     rw [zas (f:=V.killBox1 k) _ rfl,ho];rfl
   ·have hne:j≠k:=fun e=>hr (by rw [e])
    refine ⟨_,zbl (by simpa using hj),?_,?_⟩
    ·simp only [hbold j hj hne]
    ·intro c e xs _ ho;simp only [hbold j hj hne];exact ho
  ·intro r hr cs hcs c _
   rcases za6 hcs with ⟨i,rfl,hi,rfl⟩|⟨j,rfl,hj,rfl⟩
   ·show zac (x.tm i) ((x.st.vars.map (V.leafwise (V.killBox1 k))).getD i .gone) c=_
    rw [hvar i hi];exact zb3 hst _ _ _
   ·rfl
 have mv:∀ v z F,x.LR1 v z F->V.killBox1 k z=z->Cx.LR1 ⟨x.w,x.I,x.φ,x.tm,{ vars:=x.st.vars.map (V.leafwise (V.killBox1 k)),boxes:=x.st.boxes.set k b' }⟩ v z F:=by
  intro v z F hL hkz
  have hbx:∀ (j:Nat) (cs:List V),x.st.boxes[j]? =some cs->∃ cs',(x.st.boxes.set k b')[j]? =some cs':=by
   intro j cs hj
   have:=(List.getElem?_eq_some_iff.1 hj).1
   exact ⟨_,List.getElem?_eq_getElem (by simpa using this)⟩
  cases z with
  | ref r c up=>
    cases up with
    | nil=>
      obtain ⟨h1,j,cs,rfl,h3,h4⟩:=hL
      obtain ⟨cs',h5⟩:=hbx j cs h3
      exact ⟨h1,j,cs',rfl,h5,h4⟩
    | cons s up=>
      refine LR1.move h hm (LR1.lt hL) ?_ hL
      intro e;subst e
      simp [V.killBox1] at hkz
  | hd e r c up lo hi=>
    refine LR1.move h hm (LR1.lt hL) ?_ hL
    intro e';subst e'
    simp [V.killBox1] at hkz
  | fn f caps=>
    obtain ⟨h1,cs,h2,h3,h4⟩:=hL
    refine ⟨h1,cs,h2,h3,fun i j hi hc=> ?_⟩
    obtain ⟨⟨b,h5⟩,h6⟩:=h4 i j hi hc
    exact ⟨hbx j b h5,h6⟩
  | _=>exact LR1.move h hm (LR1.lt hL) trivial hL
 have hmark:∀ z,V.killBox1 k z≠z->z.mark=true:=fun z hz=>by cases z <;> first|rfl|exact absurd rfl hz
 have hheld:∀ b,zar { vars:=x.st.vars.map (V.leafwise (V.killBox1 k)),boxes:=x.st.boxes.set k b' } x.φ FV (upd FC k G) FX' b<=zar x.st x.φ FV FC FX b:=by
  intro b
  unfold zar
  simp only [List.length_map,List.length_set]
  have e1:tot x.st.vars.length (fun i=>cat ((x.st.vars.map (V.leafwise (V.killBox1 k))).getD i .gone).cells.length (FV i)) b=tot x.st.vars.length (fun i=>cat (x.st.vars.getD i .gone).cells.length (FV i)) b:=
   zaa b fun i hi=>by rw [hvar i hi,zae hst,List.length_map]
  have e2:tot x.st.boxes.length (fun j=>x.φ j::cat ((x.st.boxes.set k b').getD j []).length (upd FC k G j)) b=
   tot x.st.boxes.length (upd (fun j=>x.φ j::cat (x.st.boxes.getD j []).length (FC j)) k (x.φ k::cat b'.length G)) b:=zaa b fun j hj=>by
   by_cases e:j=k
   ·subst e;rw [hbnew,zaj,zaj]
   ·rw [hbold j hj e,zam _ _ e,zam _ _ e]
  have e3:=zga hk (fun j=>x.φ j::cat (x.st.boxes.getD j []).length (FC j)) (x.φ k::cat b'.length G) b
  have e4:=hF b
  simp only [List.count_cons] at e3
  omega
 refine ⟨?_,?_,?_,?_,?_,fun b=>Nat.le_trans (hheld b) (h.one b),fun b hb=> ?_,h.ilt,h.keep,h.gr,fun b hb=>h.held b (Nat.lt_of_lt_of_le hb (hheld b)),h.imm,h.new⟩
 ·intro i hi
  have hi':i<x.st.vars.length:=by simpa using hi
  show zbk (x.tm i) ((x.st.vars.map (V.leafwise (V.killBox1 k))).getD i .gone)
  rw [hvar i hi'];exact zdj hst (h.shape i hi')
 ·intro i hi c hc
  have hi':i<x.st.vars.length:=by simpa using hi
  simp only [hvar i hi',zae hst,List.length_map] at hc
  have hL:=h.vars i hi' c hc
  show Cx.LR1 _ (zac (x.tm i) ((x.st.vars.map (V.leafwise (V.killBox1 k))).getD i .gone) c) (((x.st.vars.map (V.leafwise (V.killBox1 k))).getD i .gone).cells.getD c .gone) (FV i c)
  rw [hvar i hi',zb3 hst,zae hst,zas (f:=V.killBox1 k) _ rfl]
  have hL':x.LR1 (zac (x.tm i) (x.st.vars.getD i .gone) c) ((x.st.vars.getD i .gone).cells.getD c .gone) (FV i c):=hL
  generalize (x.st.vars.getD i .gone).cells.getD c .gone=z at hL'
  by_cases hz':V.killBox1 k z=z
  ·rw [hz'];exact mv _ _ _ hL' hz'
  ·have h2:V.killBox1 k z=.gone:=(hst.or z).resolve_left hz'
   rw [h2];exact zck hL' (hmark z hz')
 ·intro j hj
  have hj':j<x.st.boxes.length:=by simpa using hj
  show Rows x.w (x.φ j) ((x.st.boxes.set k b').getD j []).length
  by_cases e:j=k
  ·subst e;rw [hbnew,hlen];exact h.box j hj'
  ·rw [hbold j hj' e];exact h.box j hj'
 ·intro j hj c hc
  have hj':j<x.st.boxes.length:=by simpa using hj
  show Cx.LR1 _ (zad x.w (x.φ j) c) (((x.st.boxes.set k b').getD j []).getD c .gone) (upd FC k G j c)
  by_cases e:j=k
  ·subst e
   simp only [hbnew] at hc
   rw [hbnew,zaj]
   obtain ⟨h1,h2⟩:=hz c hc
   refine mv _ _ _ h1 ?_
   exact Classical.byContradiction fun hne=>by rw [hmark _ hne] at h2;cases h2
  ·simp only [hbold j hj' e] at hc
   rw [hbold j hj' e,zam _ _ e]
   have hL:=h.boxes j hj' c hc
   refine mv _ _ _ hL ?_
   by_cases hmk:((x.st.boxes.getD j []).getD c .gone).mark=true
   ·obtain ⟨k',c',e'⟩:=h.bmark j hj' c hc hmk
    rw [e'];simp [V.killBox1]
   ·exact Classical.byContradiction fun hne=>hmk (hmark _ hne)
 ·intro j hj c hc
  have hj':j<x.st.boxes.length:=by simpa using hj
  simp only at hc ⊢
  by_cases e:j=k
  ·subst e
   simp only [hbnew] at hc ⊢
   intro hmk;rw [(hz c hc).2] at hmk;cases hmk
  ·simp only [hbold j hj' e] at hc ⊢
   exact h.bmark j hj' c hc
 ·have:=h.apart b hb
  have:=hheld b
  show zar { vars:=x.st.vars.map (V.leafwise (V.killBox1 k)),boxes:=x.st.boxes.set k b' } x.φ FV (upd FC k G) FX' b=0
  omega
end Go.Pm
namespace Go.Pm
variable {P:Program} {B:Base} {x:Cx} {FV FC:Nat->Nat->List Nat} {FX:List Nat} {a:Act} {ts:List (Option Nat)} {n:Nat}
theorem SR.away (h:SR B x FV FC FX) (S:Nat->Prop) (hS:∀ k,k<x.st.boxes.length->S k->∀ c,c<(x.st.boxes.getD k []).length->(x.st.boxes.getD k []).getD c .gone=.gone) {w':World} {I':Nat->Prop} {FX':List Nat}
 (hw:∀ b,b<x.w.heap.size->FX.count b=0->(∀ k,k<x.st.boxes.length->S k->b≠x.φ k)->w'.heap[b]? =x.w.heap[b]?) (hrows:∀ k,k<x.st.boxes.length->S k->Rows w' (x.φ k) (x.st.boxes.getD k []).length) (hgw:Grow x.w w')
 (hI:∀ b,x.I b->I' b) (hIn:∀ b,I' b->x.I b\/0<FX.count b\/x.w.heap.size<=b) (hIl:∀ b,I' b->b<w'.heap.size) (hI0:∀ b,I' b->FX'.count b=0)
 (hF:∀ b,b<x.w.heap.size->FX'.count b<=FX.count b) (hF':∀ b,x.w.heap.size<=b->FX'.count b<=1):SR B ⟨w',I',x.φ,x.tm,x.st⟩ FV FC FX':=by
 have hsz:=hgw.size
 have hfree:∀ {r rs c b},x.st.root r=some rs->c<rs.length->b∈RF FV FC r c->b<x.w.heap.size/\FX.count b=0/\∀ k,k<x.st.boxes.length->S k->b≠x.φ k:=by
  intro r rs c b hr hc hb
  have e3:0<(RF FV FC r c).count b:=List.count_pos_iff.2 hb
  refine ⟨h.lt hr hc hb,?_,?_⟩
  ·have e1:=zek (FX:=FX) (FV:=FV) (FC:=FC) r rs hr c hc b
   have e2:=h.one b
   omega
  ·intro k hk _ e
   have:=(h.boxBlock hk hr hc).1
   rw [<- e] at this;omega
 have hIw:∀ b,x.I b->w'.heap[b]? =x.w.heap[b]? :=fun b hb=>hw b (h.ilt b hb) (by have:=h.apart b hb;unfold zar at this;omega) (fun k hk _ e=>by
  subst e;have:=h.apart _ hb;have:=h.box_pos hk;omega)
 have hboxw:∀ k,k<x.st.boxes.length->¬ S k->w'.heap[x.φ k]? =x.w.heap[x.φ k]? :=fun k hk hns=>hw _ (h.box_lt hk) (by
  have e1:=h.one (x.φ k)
  unfold zar at e1
  have e':=zat hk (fun k=>x.φ k::cat (x.st.boxes.getD k []).length (FC k)) (x.φ k)
  simp only [List.count_cons,beq_self_eq_true,if_true] at e'
  omega) (fun j hj hs=>h.boxNe hk hj (fun e=>hns (e ▸ hs)))
 have hplace:∀ (up:List zbv) (r:Root) (cs:List V),x.st.cont r up=some cs->∀ c,c<cs.length->(∃ e xs,cs.getD c .gone=.own e xs)->Cx.place ⟨w',I',x.φ,x.tm,x.st⟩ r up c=x.place r up c:=by
  intro up
  induction up with
  | nil=>
    intro r cs hcs c hc hown
    rcases za6 hcs with ⟨i,rfl,hi,rfl⟩|⟨k,rfl,hk,rfl⟩
    ·rfl
    ·show zad w' (x.φ k) c=zad x.w (x.φ k) c
     have hns:¬ S k:=fun hs=>by
      obtain ⟨e,xs,ho⟩:=hown
      rw [hS k hk hs c hc] at ho;cases ho
     simp only [zad,World.cell?,hboxw k hk hns]
  | cons s up ih=>
    obtain ⟨i,e,c'⟩:=s
    intro r cs hcs c hc _
    obtain ⟨os,xs,ho,hc',hown,hi,rfl⟩:=zaf hcs
    simp only [Cx.place,ih r os ho c' hc' ⟨e,xs,hown⟩]
    cases hp:x.place r up c' with
    | slice ad m cap=>
      cases ad with
      | none=>rfl
      | some ad=>
        obtain ⟨F,hL,hFF,rs,hrs,hrc⟩:=h.at r up os ho c' hc'
        rw [hown] at hL
        have hm:=zbq (show VR x.w x.I _ (.own e xs) F from hL) hp
        have hm2:ad.block∈RF FV FC r (rootCell c' up):=List.count_pos_iff.1 (by have:=hFF ad.block;have:0<F.count ad.block:=List.count_pos_iff.2 hm;omega)
        obtain ⟨h1,h2,h3⟩:=hfree hrs hrc hm2
        simp only [zad,World.cell?,hw _ h1 h2 h3]
    | _=>rfl
 have hL1:∀ v z F,x.LR1 v z F->(∀ b∈F,w'.heap[b]? =x.w.heap[b]?)->Cx.LR1 ⟨w',I',x.φ,x.tm,x.st⟩ v z F:=by
  intro v z F hL hFF
  refine LR1.keep hL ?_ hI hIw hFF
  intro hm
  cases z with
  | ref r c up=>
    cases up with
    | nil=>exact hL
    | cons s up=>
      obtain ⟨i,e,c'⟩:=s
      obtain ⟨h1,⟨cs,h2⟩,ad,m,cap,h3,h4⟩:=hL
      obtain ⟨os,xs,ho,hc',hown,_⟩:=zaf h2
      exact ⟨h1,⟨cs,h2⟩,ad,m,cap,(hplace up r os ho c' hc' ⟨e,xs,hown⟩).trans h3,h4⟩
  | hd e r c up lo hi=>
    obtain ⟨h1,xs,h2,h3⟩:=hL
    obtain ⟨cs,hcs,hlt,hown⟩:=zba h2
    exact ⟨h1,xs,h2,by rw [hplace up r cs hcs c hlt ⟨e,xs,hown⟩];exact h3⟩
  | eptr cs c=>
    obtain ⟨h1,b,o,h2,h3,vs,h4⟩:=hL
    refine ⟨h1,b,o,h2,hI b h3,vs,fun j hj=> ?_⟩
    obtain ⟨h5,h6⟩:=h4 j hj
    refine ⟨?_,h6.1.keep hI hIw (by simp),h6.2⟩
    rw [<- h5];simp [World.cell?,hIw b h3]
  | fn f caps=>exact hL
  | _=>cases hm
 have hle:∀ b,b<x.w.heap.size->zar x.st x.φ FV FC FX' b<=zar x.st x.φ FV FC FX b:=by
  intro b hb
  have:=hF b hb
  unfold zar;omega
 refine ⟨h.shape,?_,?_,?_,h.bmark,?_,?_,hIl,?_,h.gr.trans hgw,?_,fun b hb=>hI b (h.imm b hb),?_⟩
 ·intro i hi c hc
  have:=h.vars i hi c hc
  refine hL1 _ _ _ this fun b hb=> ?_
  obtain ⟨h1,h2,h3⟩:=hfree (r:=.var i) (zbo hi) hc hb
  exact hw b h1 h2 h3
 ·intro k hk
  by_cases hs:S k
  ·exact hrows k hk hs
  ·obtain ⟨cs,E,lo,hi,h1,h2⟩:=h.box k hk
   exact ⟨cs,E,lo,hi,(hboxw k hk hs).trans h1,h2⟩
 ·intro k hk c hc
  have hL:=h.boxes k hk c hc
  by_cases hs:S k
  ·have hgz:=hS k hk hs c hc
   show Cx.LR1 _ _ ((x.st.boxes.getD k []).getD c .gone) (FC k c)
   rw [hgz] at hL ⊢
   exact hL
  ·have hrv:Cx.rv ⟨w',I',x.φ,x.tm,x.st⟩ (.box k) c=x.rv (.box k) c:=by
    show zad w' (x.φ k) c=zad x.w (x.φ k) c
    simp only [zad,World.cell?,hboxw k hk hs]
   rw [hrv]
   refine hL1 _ _ _ hL fun b hb=> ?_
   obtain ⟨h1,h2,h3⟩:=hfree (r:=.box k) (zbl hk) hc hb
   exact hw b h1 h2 h3
 ·intro b
  by_cases hb:b<x.w.heap.size
  ·exact Nat.le_trans (hle b hb) (h.one b)
  ·show zar x.st x.φ FV FC FX' b<=1
   rw [h.held_out FX' (by omega)];exact hF' b (by omega)
 ·intro b hb
  show zar x.st x.φ FV FC FX' b=0
  have h0:=hI0 b hb
  by_cases hlt:b<x.w.heap.size
  ·rcases hIn b hb with h1|h1|h1
   ·have:=hle b hlt;have:=h.apart b h1;omega
   ·have:=h.one b
    unfold zar at this ⊢;omega
   ·omega
  ·rw [h.held_out FX' (by omega)];exact h0
 ·intro b hb hO
  refine (hw b (Nat.lt_of_lt_of_le hb h.size) ?_ ?_).trans (h.keep b hb hO)
  ·by_cases h0:FX.count b=0
   ·exact h0
   ·exfalso
    rcases h.held b (by unfold zar;omega) with h1|h1
    ·exact hO h1
    ·omega
  ·intro k hk _ e
   subst e
   rcases h.held _ (h.box_pos hk) with h1|h1
   ·exact hO h1
   ·omega
 ·intro b hb
  by_cases hlt:b<x.w.heap.size
  ·exact h.held b (Nat.lt_of_lt_of_le hb (hle b hlt))
  ·exact .inr (Nat.le_trans h.size (by omega))
 ·intro b hb
  rcases hIn b hb with h1|h1|h1
  ·exact h.new b h1
  ·rcases h.held b (by unfold zar;omega) with h2|h2
   ·exact .inr (.inl h2)
   ·exact .inr (.inr h2)
  ·exact .inr (.inr (Nat.le_trans h.size h1))
end Go.Pm
namespace Go.Pm
def zwc (P:Program) (f:FuncId):Bool:=
 match P.funcs[f]? with
 | some fn => fn.body.isSome && !(fn.name == "runtime.NumGoroutine")
 | none=>false
structure Glob where
 J:World->(Nat->Prop)->Prop
 stable:∀ (w w':World) (I I':Nat->Prop),J w I->(∀ b,I b->w'.heap[b]? =w.heap[b]?)->Grow w w'->(∀ b,I b->I' b)->J w' I'
def Glob.none:Glob:=⟨fun _ _=>True,fun _ _ _ _ _ _ _ _=>trivial⟩
theorem Glob.on (J:Glob) {B:Base} {x:Cx} {FV FC:Nat->Nat->List Nat} {FX:List Nat} (hl:∀ b,B.I b->b<B.w.heap.size) (hO:∀ b,B.I b->¬ B.O b) (hj:J.J B.w B.I) (h:SR B x FV FC FX):J.J x.w x.I:=
 J.stable B.w x.w B.I x.I hj (fun b hb=>h.keep b (hl b hb) (hO b hb)) h.gr h.imm
def ykc (J:Glob) (P:Program) (f:FuncId) (args:List V) (bs:List (List V)) (r:V) (bs':List (List V)):Prop:=
 ∀ (w:World) (O I:Nat->Prop) (vals:Array Value) (φ:Nat->Nat) (GA GB:Nat->Nat->List Nat),vals.size=args.length->
   SR ⟨w,O,I,bs.length,φ,0,fun _=>none⟩ ⟨w,I,φ,fun i=>vals.getD i undef,⟨args,bs⟩⟩ GA GB []->(∀ b,I b->¬ O b)->J.J w I->
   Calls P f vals w (fun
    | .returned v,w'=>∃ I' φ' FV FC,(∀ j,j<bs.length->φ' j=φ j)/\SR ⟨w,O,I,bs.length,φ,0,fun _=>none⟩ ⟨w',I',φ',fun _=>v,⟨[r],bs'⟩⟩ FV FC []
    | _,_=>False)
def yct (J:Glob) (P:Program) (f:FuncId) (args:List V) (r0 t:V):Prop:=
 ∀ (w:World) (O I:Nat->Prop) (vals:Array Value) (φ:Nat->Nat) (GA GB:Nat->Nat->List Nat),vals.size=args.length->
   SR ⟨w,O,I,0,φ,0,fun _=>none⟩ ⟨w,I,φ,fun i=>vals.getD i undef,⟨args,[]⟩⟩ GA GB []->(∀ b,I b->¬ O b)->J.J w I->
   Calls P f vals w (fun
    | .returned v,w'=>∃ I' φ' FV FC,SR ⟨w,O,I,0,φ,0,fun _=>none⟩ ⟨w',I',φ',fun _=>.tuple #[v,vals.getD 0 undef],⟨[.tup [r0,t]],[]⟩⟩ FV FC []
    | _,_=>False)
def yhd (J:Glob) (P:Program) (R:zan):Prop:=
 ∀ (f:FuncId) (args:List V) (bs:List (List V)) (r:V) (bs':List (List V)),R f args bs=some (r,bs')->
   zwc P f=true/\(bs ≠ [[.gone]]->ykc J P f args bs r bs')/\(∀ r0 t,bs=[[.gone]]->r=.tup [r0,.tup [t]]->yct J P f args r0 t)
def zwx (P:Program) (R:zan) (B:Base):Prop:=∃ J:Glob,yhd J P R/\∀ (x:Cx) FV FC FX,SR B x FV FC FX->J.J x.w x.I
variable {P:Program} {B:Base} {x:Cx} {FV FC:Nat->Nat->List Nat} {FX:List Nat} {a:Act} {ts:List (Option Nat)} {n:Nat}
def Arg (x0:Cx) (I:Nat->Prop) (nb:Nat) (ws:List (Nat×Nat×Nat)) (val:Value) (v y:V) (G:Nat->List Nat):Prop:=
 (∃ j k off m,y=.ref (.box (nb+j)) 0 []/\ws[j]? =some (k,off,m)/\v=.ref (.box k) off []/\G 0=[])\/
 (zbk val y/\(∀ us,y ≠ .tup us)/\y ≠ .gone/\∀ c,c<y.cells.length->VR x0.w I (zac val y c) (y.cells.getD c .gone) (G c)/\(y.cells.getD c .gone).firm=true)
theorem Arg.keep {x0:Cx} {I I':Nat->Prop} {nb ws val v y G} (h:Arg x0 I nb ws val v y G) (hI:∀ b,I b->I' b):Arg x0 I' nb ws val v y G:=by
 rcases h with h|⟨h1,h2,h3,h4⟩
 ·exact .inl h
 ·exact .inr ⟨h1,h2,h3,fun c hc=>⟨(h4 c hc).1.keep hI (fun _ _=>rfl) (fun _ _=>rfl),(h4 c hc).2⟩⟩
theorem zgf {x0:Cx}:∀ (ms:List PM) (vs:List V) (vals:Nat->Value) (nb:Nat) {I:Nat->Prop} {s s1:St} {FV FC:Nat->Nat->List Nat} {FX:List Nat} {ys ws},
 SR B ⟨x0.w,I,x0.φ,x0.tm,s⟩ FV FC FX->(∀ b,x0.I b->I b)->Gho x0.st s->(∀ i,i<vs.length->Pend x0 (vals i) (vs.getD i .gone) fun _=>[])->s.passes nb ms vs=some (ys,ws,s1)->
 ∃ (I':Nat->Prop) (FV' FC':Nat->Nat->List Nat) (FX1:List Nat) (G:Nat->Nat->List Nat),(∀ b,I b->I' b)/\SR B ⟨x0.w,I',x0.φ,x0.tm,s1⟩ FV' FC' FX1/\
   (∀ b,FX1.count b=tot vs.length (fun i=>cat (ys.getD i .gone).cells.length (G i)) b+FX.count b)/\ys.length=vs.length/\
   (∀ i,i<vs.length->Arg x0 I' nb ws (vals i) (vs.getD i .gone) (ys.getD i .gone) (G i))/\Gho x0.st s1
 | [],[],vals,nb,I,s,s1,FV,FC,FX,ys,ws,h,hI,g,_,ht=>by
   cases ht
   exact ⟨I,FV,FC,FX,fun _ _=>[],fun _ h=>h,h,fun b=>by simp [tot],rfl,fun i hi=>by simp at hi,g⟩
 | m::ms,v::vs,vals,nb,I,s,s1,FV,FC,FX,ys,ws,h,hI,g,hp,ht=>by
   have hshift:∀ (b:Nat) (y:V) (ys':List V) (G1:Nat->List Nat) (G2:Nat->Nat->List Nat),
    tot (v::vs).length (fun i=>cat ((y::ys').getD i .gone).cells.length (if i=0 then G1 else G2 (i - 1))) b=(cat y.cells.length G1).count b+tot vs.length (fun i=>cat (ys'.getD i .gone).cells.length (G2 i)) b:=by
    intro b y ys' G1 G2
    have e3:=zb5 1 vs.length (fun i=>cat ((y::ys').getD i .gone).cells.length (if i=0 then G1 else G2 (i - 1))) b
    have e4:tot vs.length (fun q=>cat ((y::ys').getD (1+q) .gone).cells.length (if 1+q=0 then G1 else G2 (1+q - 1))) b=tot vs.length (fun i=>cat (ys'.getD i .gone).cells.length (G2 i)) b:=zaa b fun i _=>by
     rw [if_neg (by omega),Nat.add_comm 1 i];simp
    have e5:tot 1 (fun i=>cat ((y::ys').getD i .gone).cells.length (if i=0 then G1 else G2 (i - 1))) b=(cat y.cells.length G1).count b:=by simp [tot]
    have e7:1+vs.length=(v::vs).length:=by simp;omega
    rw [e7] at e3
    simp only [e4,e5] at e3
    omega
   have handed:∀ (frz:Bool) {y s2 ys' ws'},opw (zkw frz) s v=some (y,s2)->s2.passes nb ms vs=some (ys',ws',s1)->ys=y::ys'->ws=ws'->
    ∃ (I':Nat->Prop) (FV' FC':Nat->Nat->List Nat) (FX1:List Nat) (G:Nat->Nat->List Nat),(∀ b,I b->I' b)/\SR B ⟨x0.w,I',x0.φ,x0.tm,s1⟩ FV' FC' FX1/\
      (∀ b,FX1.count b=tot (v::vs).length (fun i=>cat (ys.getD i .gone).cells.length (G i)) b+FX.count b)/\ys.length=(v::vs).length/\
      (∀ i,i<(v::vs).length->Arg x0 I' nb ws (vals i) ((v::vs).getD i .gone) (ys.getD i .gone) (G i))/\Gho x0.st s1:=by
    intro frz y s2 ys' ws' ho hr e1 e2
    subst e1 e2
    obtain ⟨I1,FV1,FC1,FX1,G1,H1,k1,k2,k3⟩:=zgm (zf7 frz) (zgh frz) h hI g (hp 0 (by simp)) ho
    obtain ⟨I2,FV2,FC2,FX2,G2,j1,j2,j3,j4,j5,j6⟩:=zgf ms vs (fun i=>vals (i+1)) nb H1.sr (fun b hb=>H1.I b (hI b hb)) H1.gho (fun i hi=>hp (i+1) (by simpa using hi)) hr
    refine ⟨I2,FV2,FC2,FX2,fun i=>if i=0 then G1 else G2 (i - 1),fun b hb=>j1 b (H1.I b hb),j2,?_,by simp [j4],?_,j6⟩
    ·intro b
     have e1:=j3 b;have e2:=H1.fx b;have e3:=hshift b y ys' G1 G2
     show FX2.count b=tot (v::vs).length (fun i=>cat ((y::ys').getD i .gone).cells.length (if i=0 then G1 else G2 (i - 1))) b+FX.count b
     omega
    ·intro i hi
     cases i with
     | zero=>
       refine .inr ⟨k1,k2,k3,fun c hc=> ?_⟩
       obtain ⟨h1,h2⟩:=H1.vr c hc
       exact ⟨h1.keep j1 (fun _ _=>rfl) (fun _ _=>rfl),h2⟩
     | succ i=>exact j5 i (by simpa using hi)
   cases m with
   | view=>
     simp only [St.passes] at ht
     split at ht
     ·rename_i y s2 ho
      simp only [Option.map_eq_some_iff] at ht
      obtain ⟨⟨ys',ws',s3⟩,hr,he⟩:=ht
      simp only [Prod.mk.injEq] at he
      obtain ⟨rfl,rfl,rfl⟩:=he
      rw [zh4] at ho
      exact handed true ho hr rfl rfl
     ·cases ht
   | own=>
     simp only [St.passes] at ht
     split at ht
     ·rename_i y s2 ho
      simp only [Option.map_eq_some_iff] at ht
      obtain ⟨⟨ys',ws',s3⟩,hr,he⟩:=ht
      simp only [Prod.mk.injEq] at he
      obtain ⟨rfl,rfl,rfl⟩:=he
      rw [zf8] at ho
      exact handed false ho hr rfl rfl
     ·cases ht
   | box k=>
     cases v with
     | ref r off up=>
       cases r with
       | var j=>cases ht
       | box j=>
         cases up with
         | cons s up=>cases ht
         | nil=>
           simp only [St.passes,Option.map_eq_some_iff] at ht
           obtain ⟨⟨ys',ws',s3⟩,hr,he⟩:=ht
           simp only [Prod.mk.injEq] at he
           obtain ⟨rfl,rfl,rfl⟩:=he
           obtain ⟨I2,FV2,FC2,FX2,G2,j1,j2,j3,j4,j5,j6⟩:=zgf ms vs (fun i=>vals (i+1)) (nb+1) h hI g (fun i hi=>hp (i+1) (by simpa using hi)) hr
           refine ⟨I2,FV2,FC2,FX2,fun i=>if i=0 then fun _=>[] else G2 (i - 1),j1,j2,?_,by simp [j4],?_,j6⟩
           ·intro b
            have e1:=j3 b;have e3:=hshift b (.ref (.box nb) 0 []) ys' (fun _=>[]) G2
            rw [zb6] at e3
            show FX2.count b=tot _ (fun i=>cat ((V.ref (.box nb) 0 []::ys').getD i .gone).cells.length (if i=0 then fun _=>[] else G2 (i - 1))) b+FX.count b
            simp only [List.count_nil] at e3
            omega
           ·intro i hi
            cases i with
            | zero=>exact .inl ⟨0,j,off,k,rfl,rfl,rfl,rfl⟩
            | succ i=>
              rcases j5 i (by simpa using hi) with ⟨q,k',off',m',h1,h2,h3,h4⟩|h1
              ·refine .inl ⟨q+1,k',off',m',?_,by simpa using h2,by simpa using h3,by simpa using h4⟩
               simp only [List.getD_cons_succ]
               rw [h1];congr 2;omega
              ·exact .inr h1
     | _=>cases ht
 | [],_::_,_,_,_,_,_,_,_,_,_,_,_,_,_,_,h=>by cases h
 | _::_,[],_,_,_,_,_,_,_,_,_,_,_,_,_,_,h=>by
   rename_i m _ _ _ _ _ _ _ _ _ _ _ _ _ _ _
   cases m <;> cases h
end Go.Pm
namespace Go.Pm
theorem zbg {f g:V->V} (hf:Strike f) (hg:Strike g) (v:V):V.leafwise f (V.leafwise g v)=V.leafwise (fun z=>f (g z)) v:=by
 have hfg:∀ z,(∀ cs,z ≠ .agg cs)->(∀ cs,z ≠ .tup cs)->V.leafwise f (g z)=f (g z):=by
  intro z h1 h2
  rcases hg.or z with h|h
  ·rw [h];cases z <;> first|exact absurd rfl (h1 _)|exact absurd rfl (h2 _)|rfl
  ·rw [h];rfl
 cases v with
 | agg cs=>simp only [V.leafwise,List.map_map];rfl
 | tup vs=>
   simp only [V.leafwise,List.map_map]
   congr 1
   apply List.map_congr_left
   intro y _
   cases y with
   | agg cs=>simp [Function.comp]
   | _=>simp only [Function.comp];rcases hg.or _ with h|h <;> rw [h]
 | int k m=>exact hfg _ (by simp) (by simp)
 | bool b=>exact hfg _ (by simp) (by simp)
 | str b=>exact hfg _ (by simp) (by simp)
 | imm e xs=>exact hfg _ (by simp) (by simp)
 | own e xs=>exact hfg _ (by simp) (by simp)
 | pnil=>exact hfg _ (by simp) (by simp)
 | ref r c up=>exact hfg _ (by simp) (by simp)
 | eptr cs c=>exact hfg _ (by simp) (by simp)
 | hd e r c up lo hi=>exact hfg _ (by simp) (by simp)
 | fn f' cs=>exact hfg _ (by simp) (by simp)
 | clo f' cs=>exact hfg _ (by simp) (by simp)
 | gone=>exact hfg _ (by simp) (by simp)
theorem zpm (j k:Nat) (z:V):V.killBox1 j (V.killBox1 k z)=V.killBox1 k (V.killBox1 j z):=by
 cases z with
 | hd e r c up lo hi=>cases r with
   | var i=>rfl
   | box i=>simp only [V.killBox1];by_cases h1:i=k <;> by_cases h2:i=j <;> simp [h1,h2,V.killBox1] <;> (intros;simp_all)
 | ref r c up=>cases r with
   | var i=>rfl
   | box i=>simp only [V.killBox1];by_cases h1:i=k <;> by_cases h2:i=j <;> by_cases h3:up=[] <;> simp [h1,h2,h3,V.killBox1] <;> (intros;simp_all)
 | _=>rfl
theorem zpp (k:Nat) (z:V):V.killBox1 k (V.killBox1 k z)=V.killBox1 k z:=by
 rcases (zay k).or z with h|h
 ·rw [h,h]
 ·rw [h];rfl
def zc1 (ks:List Nat) (vars:List V):List V:=ks.foldl (fun vs k=>vs.map (V.leafwise (V.killBox1 k))) vars
theorem zx1 (j k:Nat) (vars:List V):(vars.map (V.leafwise (V.killBox1 j))).map (V.leafwise (V.killBox1 k))=(vars.map (V.leafwise (V.killBox1 k))).map (V.leafwise (V.killBox1 j)):=by
 simp only [List.map_map]
 apply List.map_congr_left
 intro v _
 simp only [Function.comp,zbg (zay _) (zay _)]
 congr 1;funext z;exact zpm k j z
theorem yag (k:Nat) (vars:List V):(vars.map (V.leafwise (V.killBox1 k))).map (V.leafwise (V.killBox1 k))=vars.map (V.leafwise (V.killBox1 k)):=by
 simp only [List.map_map]
 apply List.map_congr_left
 intro v _
 simp only [Function.comp,zbg (zay _) (zay _)]
 congr 1;funext z;exact zpp k z
theorem zri (ks:List Nat) (k:Nat):∀ vars:List V,zc1 ks (vars.map (V.leafwise (V.killBox1 k)))=(zc1 ks vars).map (V.leafwise (V.killBox1 k)):=by
 induction ks with
 | nil=>intro vars;rfl
 | cons j ks ih=>
   intro vars
   show zc1 ks ((vars.map (V.leafwise (V.killBox1 k))).map (V.leafwise (V.killBox1 j)))=(zc1 ks (vars.map (V.leafwise (V.killBox1 j)))).map (V.leafwise (V.killBox1 k))
   rw [zx1 k j,ih]
theorem zqd (ks:List Nat):∀ vars:List V,zc1 ks (zc1 ks vars)=zc1 ks vars:=by
 induction ks with
 | nil=>intro vars;rfl
 | cons j ks ih=>
   intro vars
   show zc1 ks ((zc1 ks (vars.map (V.leafwise (V.killBox1 j)))).map (V.leafwise (V.killBox1 j)))=zc1 ks (vars.map (V.leafwise (V.killBox1 j)))
   rw [<- zri ks j,yag,ih]
end Go.Pm
namespace Go.Pm
def St.evac (s:St):List (Nat×Nat×Nat)->St
 | []=>s
 | (k,_,_)::ws=>St.evac { vars:=s.vars.map (V.leafwise (V.killBox1 k)),boxes:=s.boxes.set k (List.replicate (s.boxes.getD k []).length .gone) } ws
theorem zj8:∀ (ws:List (Nat×Nat×Nat)) (s:St),(s.evac ws).vars=zc1 (ws.map (·.1)) s.vars
 | [],s=>rfl
 | (k,_,_)::ws,s=>by simp only [St.evac,zj8 ws];rfl
theorem zdm:∀ (ws:List (Nat×Nat×Nat)) (s:St),(s.evac ws).boxes.length=s.boxes.length
 | [],s=>rfl
 | (k,_,_)::ws,s=>by simp only [St.evac,zdm ws];simp
theorem zz5 (ws:List (Nat×Nat×Nat)) (s:St):(s.evac ws).vars.length=s.vars.length:=by
 rw [zj8]
 have:∀ (ks:List Nat) (vars:List V),(zc1 ks vars).length=vars.length:=by
  intro ks
  induction ks with
  | nil=>intro vars;rfl
  | cons k ks ih=>intro vars;show (zc1 ks _).length=_;rw [ih];simp
 exact this _ _
theorem znm:∀ (ws:List (Nat×Nat×Nat)) (s:St) (j:Nat),j<s.boxes.length->(s.evac ws).boxes.getD j []=if j∈ws.map (·.1) then List.replicate (s.boxes.getD j []).length .gone else s.boxes.getD j []
 | [],s,j,_=>by simp [St.evac]
 | (k,_,_)::ws,s,j,hj=>by
   simp only [St.evac]
   rw [znm ws _ j (by simpa using hj)]
   simp only [zal _ _ hj]
   by_cases e:j=k
   ·subst e;simp
   ·rw [if_neg e]
    simp only [List.map_cons,List.mem_cons,e,false_or]
theorem zhw {v:V} (h:bnd v=true):v.mark=false/\v ≠ .gone:=by cases v <;> first|(cases h;done)|exact ⟨rfl,by simp⟩
variable {B:Base} {w:World} {I:Nat->Prop} {φ:Nat->Nat} {tm:Nat->Value}
theorem yas:∀ (ws:List (Nat×Nat×Nat)) {s:St} {FV FC:Nat->Nat->List Nat} {FX:List Nat} {bs:List (List V)},SR B ⟨w,I,φ,tm,s⟩ FV FC FX->s.windows ws=some bs->
 ∃ (FC':Nat->Nat->List Nat) (FX':List Nat) (GB:Nat->Nat->List Nat),SR B ⟨w,I,φ,tm,s.evac ws⟩ FV FC' FX'/\(∀ b,FX'.count b=FX.count b+tot ws.length (fun j=>cat (bs.getD j []).length (GB j)) b)/\bs.length=ws.length/\
   (ws.map (·.1)).Nodup/\∀ j,j<ws.length->(ws.getD j default).1<s.boxes.length/\bs.getD j []=s.boxes.getD (ws.getD j default).1 []/\(ws.getD j default).2.1=0/\(ws.getD j default).2.2=(bs.getD j []).length/\
    ∀ c,c<(bs.getD j []).length->VR w I (zad w (φ (ws.getD j default).1) c) ((bs.getD j []).getD c .gone) (GB j c)/\bnd ((bs.getD j []).getD c .gone)=true
 | [],s,FV,FC,FX,bs,h,hw=>by
   cases hw
   exact ⟨FC,FX,fun _ _=>[],h,fun b=>by simp [tot],rfl,by simp,fun j hj=>by simp at hj⟩
 | (k,off,m)::ws,s,FV,FC,FX,bs,h,hw=>by
   simp only [St.windows] at hw
   split at hw
   ·rename_i cs hcs
    split at hw
    ·rename_i hc
     obtain ⟨⟨hoff,hmlen,hbnd⟩,hdis⟩:(off=0/\m=cs.length/\cs.all bnd=true)/\ws.all (fun w=>w.1 != k)=true:=by
      simp only [and_assoc] at hc ⊢
      exact hc
     simp only [Option.map_eq_some_iff] at hw
     obtain ⟨bs',hw',rfl⟩:=hw
     obtain ⟨hk,hcs'⟩:=List.getElem?_eq_some_iff.1 hcs
     have hkd:s.boxes.getD k []=cs:=by rw [za3 hk,hcs']
     have hbc:∀ c,c<cs.length->bnd (cs.getD c .gone)=true:=fun c hc=>by
      rw [za3 hc];exact (List.all_eq_true.1 hbnd) _ (List.getElem_mem hc)
     have g1:=h.rebox (k:=k) hk (b':=List.replicate (s.boxes.getD k []).length .gone) (by simp) (G:=fun _=>[]) (FX':=cat (s.boxes.getD k []).length (FC k)++FX)
      (fun c hc=>by
       have hg:(List.replicate (s.boxes.getD k []).length V.gone).getD c .gone=.gone:=by
        simp only [List.getD,List.getElem?_replicate];split <;> rfl
       rw [hg];exact ⟨rfl,rfl⟩)
      (fun b=>by rw [zb6,List.count_append];simp)
     have hwin:∀ (ws:List (Nat×Nat×Nat)),ws.all (fun w=>w.1 != k)=true->∀ bs,s.windows ws=some bs->
      St.windows { vars:=s.vars.map (V.leafwise (V.killBox1 k)),boxes:=s.boxes.set k (List.replicate (s.boxes.getD k []).length .gone) } ws=some bs:=by
      intro ws
      induction ws with
      | nil=>intro _ bs hb;exact hb
      | cons q ws ih=>
        obtain ⟨k',off',m'⟩:=q
        intro hd bs hb
        simp only [List.all_cons,Bool.and_eq_true,bne_iff_ne,ne_eq] at hd
        have hne:¬ k=k':=fun e=>hd.1 e.symm
        simp only [St.windows,List.getElem?_set,if_neg hne] at hb ⊢
        split at hb
        ·rename_i cs2 hcs2
         split at hb
         ·rename_i hc2
          rw [if_pos hc2]
          simp only [Option.map_eq_some_iff] at hb ⊢
          obtain ⟨b2,hb2,rfl⟩:=hb
          exact ⟨b2,ih hd.2 b2 hb2,rfl⟩
         ·cases hb
        ·cases hb
     obtain ⟨FC',FX',GB,k1,k2,k3,k4,k5⟩:=yas ws g1 (hwin ws hdis bs' hw')
     refine ⟨FC',FX',fun j=>if j=0 then FC k else GB (j - 1),k1,?_,by simp [k3],?_,?_⟩
     ·intro b
      have e1:=k2 b
      rw [List.count_append] at e1
      have e3:=zb5 1 ws.length (fun j=>cat ((cs::bs').getD j []).length (if j=0 then FC k else GB (j - 1))) b
      have e4:tot ws.length (fun q=>cat ((cs::bs').getD (1+q) []).length (if 1+q=0 then FC k else GB (1+q - 1))) b=tot ws.length (fun j=>cat (bs'.getD j []).length (GB j)) b:=zaa b fun i _=>by
       rw [if_neg (by omega),Nat.add_comm 1 i];simp
      have e5:tot 1 (fun j=>cat ((cs::bs').getD j []).length (if j=0 then FC k else GB (j - 1))) b=(cat cs.length (FC k)).count b:=by simp [tot]
      have e7:1+ws.length=((k,off,m)::ws).length:=by simp;omega
      rw [e7] at e3
      simp only [e4,e5] at e3
      rw [hkd] at e1
      show FX'.count b=FX.count b+tot ((k,off,m)::ws).length (fun j=>cat ((cs::bs').getD j []).length (if j=0 then FC k else GB (j - 1))) b
      omega
     ·simp only [List.map_cons,List.nodup_cons]
      refine ⟨?_,k4⟩
      intro hm
      obtain ⟨q,hq,e⟩:=List.mem_map.1 hm
      have:=(List.all_eq_true.1 hdis) q hq
      simp [e] at this
     ·intro j hj
      cases j with
      | zero=>
        refine ⟨hk,hkd.symm,hoff,hmlen,fun c hc=> ?_⟩
        have hc':c<cs.length:=hc
        have hL:=h.boxes k hk c (by rw [hkd];exact hc')
        simp only [hkd] at hL
        obtain ⟨b1,b2⟩:=zhw (hbc c hc')
        exact ⟨zbs hL b1 b2,hbc c hc'⟩
      | succ j=>
        obtain ⟨l1,l2,l3,l4,l5⟩:=k5 j (by simpa using hj)
        have hlt:(ws.getD j default).1<s.boxes.length:=by simpa using l1
        have hne:(ws.getD j default).1≠k:=by
         intro e
         have hjw:j<ws.length:=by simpa using hj
         have hmem:ws.getD j default∈ws:=by rw [za3 hjw];exact List.getElem_mem _
         have:=(List.all_eq_true.1 hdis) _ hmem
         simp only [bne_iff_ne,ne_eq] at this
         exact this e
        simp only [List.getD_cons_succ]
        refine ⟨hlt,?_,l3,l4,fun c hc=> ?_⟩
        ·rw [l2]
         show (s.boxes.set k _).getD _ []=_
         rw [zal _ _ hlt,if_neg hne]
        ·exact l5 c hc
    ·cases hw
   ·cases hw
end Go.Pm
namespace Go.Pm
theorem zv8:∀ (ws:List (Nat×Nat×Nat)) (bs:List (List V)) (s t:St),s.boxes.length=t.boxes.length->(∀ j,j ∉ ws.map (·.1)->s.boxes[j]? =t.boxes[j]?)->zc1 (ws.map (·.1)) s.vars=zc1 (ws.map (·.1)) t.vars->
 s.backs ws bs=t.backs ws bs
 | [],bs,s,t,_,hb,hv=>by
   have h1:s.vars=t.vars:=hv
   have h2:s.boxes=t.boxes:=List.ext_getElem? fun j=>hb j (by simp)
   cases s;cases t
   simp only at h1 h2
   subst h1 h2
   rfl
 | (k,off,m)::ws,[],s,t,_,_,_=>rfl
 | (k,off,m)::ws,b::bs,s,t,hl,hb,hv=>by
   simp only [St.backs]
   have hsome:∀ {α:Type} (f g:α),(match s.boxes[k]? with|some _=>f|none=>g)=(match t.boxes[k]? with|some _=>f|none=>g):=by
    intro α f g
    by_cases hk:k<s.boxes.length
    ·rw [List.getElem?_eq_getElem hk,List.getElem?_eq_getElem (by omega)]
    ·rw [List.getElem?_eq_none (by omega),List.getElem?_eq_none (by omega)]
   have hrec:St.backs { vars:=s.vars.map (V.leafwise (V.killBox1 k)),boxes:=s.boxes.set k b } ws bs=St.backs { vars:=t.vars.map (V.leafwise (V.killBox1 k)),boxes:=t.boxes.set k b } ws bs:=by
    refine zv8 ws bs _ _ (by simpa using hl) (fun j hj=> ?_) hv
    simp only [List.getElem?_set]
    by_cases e:k=j
    ·subst e
     simp only [if_true]
     by_cases hk:k<s.boxes.length
     ·rw [if_pos hk,if_pos (by omega)]
     ·rw [if_neg hk,if_neg (by omega)]
    ·simp only [if_neg e]
     exact hb j (by simp only [List.map_cons,List.mem_cons,not_or];exact ⟨fun h=>e h.symm,hj⟩)
   rw [hrec]
   exact hsome _ _
theorem zvi (ws:List (Nat×Nat×Nat)) (bs:List (List V)) (s:St):s.backs ws bs=(s.evac ws).backs ws bs:=by
 refine zv8 ws bs _ _ (zdm ws s).symm (fun j hj=> ?_) ?_
 ·by_cases hk:j<s.boxes.length
  ·have h1:=znm ws s j hk
   rw [if_neg hj,za3 hk,za3 (by rw [zdm];exact hk)] at h1
   rw [List.getElem?_eq_getElem hk,List.getElem?_eq_getElem (by rw [zdm];exact hk),h1]
  ·rw [List.getElem?_eq_none (by omega),List.getElem?_eq_none (by rw [zdm];omega)]
 ·rw [zj8,zqd]
variable {B:Base} {w:World} {I:Nat->Prop} {φ:Nat->Nat} {tm:Nat->Value}
theorem zpt:∀ (ws:List (Nat×Nat×Nat)) {s s2:St} {FV FC:Nat->Nat->List Nat} {FX FX':List Nat} {bs more:List (List V)} {GB:Nat->Nat->List Nat},SR B ⟨w,I,φ,tm,s⟩ FV FC FX->(ws.map (·.1)).Nodup->
 (∀ j,j<ws.length->(ws.getD j default).1<s.boxes.length/\(ws.getD j default).2.2=(s.boxes.getD (ws.getD j default).1 []).length/\
  ∀ c,c<(bs.getD j []).length->VR w I (zad w (φ (ws.getD j default).1) c) ((bs.getD j []).getD c .gone) (GB j c)/\((bs.getD j []).getD c .gone).leaf=true)->
 (∀ b,tot ws.length (fun j=>cat (bs.getD j []).length (GB j)) b+FX'.count b<=FX.count b)->s.backs ws bs=some (s2,more)->
 (∃ FC',SR B ⟨w,I,φ,tm,s2⟩ FV FC' FX')/\more=bs.drop ws.length/\s2.vars.length=s.vars.length/\s2.boxes.length=s.boxes.length
 | [],s,s2,FV,FC,FX,FX',bs,more,GB,h,_,_,hF,hb=>by
   simp only [St.backs,Option.some.injEq,Prod.mk.injEq] at hb
   obtain ⟨rfl,rfl⟩:=hb
   have h1:=h.away (fun _=>False) (fun _ _ hs=>hs.elim) (w':=w) (I':=I) (FX':=FX') (fun _ _ _ _=>rfl) (fun _ _ hs=>hs.elim) (.refl _) (fun _ h=>h) (fun _ h=>.inl h) h.ilt
    (fun b hb=>by have:=hF b;have:=h.apart b hb;unfold zar at this;simp only [List.length_nil,tot,List.range_zero,List.map_nil,List.sum_nil] at *;omega)
    (fun b _=>by have:=hF b;simp only [List.length_nil,tot,List.range_zero,List.map_nil,List.sum_nil] at this;omega)
    (fun b _=>by have:=hF b;have:=h.one b;unfold zar at this;simp only [List.length_nil,tot,List.range_zero,List.map_nil,List.sum_nil] at *;omega)
   exact ⟨⟨FC,h1⟩,rfl,rfl,rfl⟩
 | (k,off,m)::ws,s,s2,FV,FC,FX,FX',[],more,GB,h,_,_,hF,hb=>by cases hb
 | (k,off,m)::ws,s,s2,FV,FC,FX,FX',b0::bs,more,GB,h,hnd,hz,hF,hb=>by
   simp only [St.backs] at hb
   split at hb
   ·rename_i old hold
    split at hb
    ·rename_i hlen
     obtain ⟨hlen,_⟩:=hlen
     obtain ⟨z1,z2,z3⟩:=hz 0 (by simp)
     simp only [List.getD_cons_zero] at z1 z2 z3
     simp only [List.map_cons,List.nodup_cons] at hnd
     have hsplit:∀ b,tot ((k,off,m)::ws).length (fun j=>cat ((b0::bs).getD j []).length (GB j)) b=(cat b0.length (GB 0)).count b+tot ws.length (fun j=>cat (bs.getD j []).length (GB (j+1))) b:=by
      intro b
      have e3:=zb5 1 ws.length (fun j=>cat ((b0::bs).getD j []).length (GB j)) b
      have e4:tot ws.length (fun q=>cat ((b0::bs).getD (1+q) []).length (GB (1+q))) b=tot ws.length (fun j=>cat (bs.getD j []).length (GB (j+1))) b:=zaa b fun i _=>by rw [Nat.add_comm 1 i];simp
      have e5:tot 1 (fun j=>cat ((b0::bs).getD j []).length (GB j)) b=(cat b0.length (GB 0)).count b:=by simp [tot]
      have e7:1+ws.length=((k,off,m)::ws).length:=by simp;omega
      rw [e7] at e3
      simp only [e4,e5] at e3
      omega
     have g1:=h.rebox (k:=k) z1 (b':=b0) (by rw [hlen];exact z2) (G:=GB 0) (FX':=cat ws.length (fun j=>cat (bs.getD j []).length (GB (j+1)))++FX')
      (fun c hc=>⟨za8 (z3 c hc).1 (z3 c hc).2,zbm (z3 c hc).1⟩)
      (fun b=>by
       have e1:=hF b;have e2:=hsplit b
       rw [List.count_append,za2 ws.length]
       omega)
     obtain ⟨⟨FC2,k1⟩,k2,k3,k4⟩:=zpt ws (FX':=FX') (GB:=fun j=>GB (j+1)) g1 hnd.2 (fun j hj=>by
      obtain ⟨y1,y2,y3⟩:=hz (j+1) (by simpa using hj)
      simp only [List.getD_cons_succ] at y1 y2 y3
      have hne:(ws.getD j default).1≠k:=by
       intro e
       exact hnd.1 (List.mem_map.2 ⟨ws.getD j default,by rw [za3 hj];exact List.getElem_mem _,e⟩)
      refine ⟨by simpa using y1,?_,y3⟩
      show _=((s.boxes.set k b0).getD _ []).length
      rw [zal _ _ y1,if_neg hne];exact y2)
      (fun b=>by rw [List.count_append,za2];exact Nat.le_refl _) hb
     exact ⟨⟨FC2,k1⟩,by simpa using k2,k3.trans (by simp),k4.trans (by simp)⟩
    ·cases hb
   ·cases hb
end Go.Pm
namespace Go.Pm
theorem zz1 {ψ:Nat->Nat} {b:Nat}:∀ {m:Nat},(∀ i j,i<m->j<m->i≠j->ψ i≠ψ j)->tot m (fun j=>[ψ j]) b<=1
 | 0,_=>by simp [tot]
 | m+1,h=>by
   rw [zak]
   have ih:=zz1 (ψ:=ψ) (b:=b) (m:=m) fun i j hi hj=>h i j (by omega) (by omega)
   by_cases e:ψ m=b
   ·have:tot m (fun j=>[ψ j]) b=0:=zb9 fun i hi hm=>by
     have:b=ψ i:=by simpa using hm
     exact h i m (by omega) (by omega) (by omega) (this.symm.trans e.symm)
    rw [this];simp [e]
   ·have:[ψ m].count b=0:=List.count_eq_zero.2 (by simpa using fun h=>e h.symm)
    omega
theorem zu5 {n:Nat} {ψ:Nat->Nat} {F:Nat->List Nat} {b:Nat}:tot n (fun j=>ψ j::F j) b=tot n (fun j=>[ψ j]) b+tot n F b:=by
 induction n with
 | zero=>simp [tot]
 | succ n ih=>rw [zak,zak,zak,ih,List.count_cons,List.count_singleton];omega
variable {P:Program} {B:Base} {x:Cx} {FV FC:Nat->Nat->List Nat} {FX:List Nat} {a:Act} {ts:List (Option Nat)} {n:Nat}
theorem callee (h:SR B x FV FC FX) {ys:List V} {vals:Nat->Value} {vs:List V} {ws:List (Nat×Nat×Nat)} {bs:List (List V)} {G GB:Nat->Nat->List Nat} (hnd:(ws.map (·.1)).Nodup)
 (hp:∀ i,i<ys.length->Pend x (vals i) (vs.getD i .gone) (fun _=>[])\/∀ k off,vs.getD i .gone ≠ .ref (.box k) off [])
 (harg:∀ i,i<ys.length->Arg x x.I 0 ws (vals i) (vs.getD i .gone) (ys.getD i .gone) (G i)) (hbl:bs.length=ws.length)
 (hw:∀ j,j<ws.length->(ws.getD j default).1<x.st.boxes.length/\(bs.getD j []).length=(x.st.boxes.getD (ws.getD j default).1 []).length/\(ws.getD j default).2.1=0/\
  ∀ c,c<(bs.getD j []).length->VR x.w x.I (zad x.w (x.φ (ws.getD j default).1) c) ((bs.getD j []).getD c .gone) (GB j c)/\bnd ((bs.getD j []).getD c .gone)=true)
 (hoff:∀ (i j k off m:Nat),i<ys.length->vs.getD i .gone=.ref (.box k) off []->ws[j]? =some (k,off,m)->off=0)
 (hF:∀ b,FX.count b=tot ys.length (fun i=>cat (ys.getD i .gone).cells.length (G i)) b+tot ws.length (fun j=>cat (bs.getD j []).length (GB j)) b):
 SR ⟨x.w,fun b=>0<FX.count b+tot ws.length (fun j=>[x.φ (ws.getD j default).1]) b,x.I,bs.length,fun j=>x.φ (ws.getD j default).1,0,fun _=>none⟩
  ⟨x.w,x.I,fun j=>x.φ (ws.getD j default).1,vals,⟨ys,bs⟩⟩ G GB []:=by
 have hinj:∀ i j,i<ws.length->j<ws.length->i≠j->x.φ (ws.getD i default).1≠x.φ (ws.getD j default).1:=by
  intro i j hi hj hne
  refine h.boxNe (hw i hi).1 (hw j hj).1 ?_
  intro e
  have hi':i<(ws.map (·.1)).length:=by simpa using hi
  have hj':j<(ws.map (·.1)).length:=by simpa using hj
  have hpw:=List.pairwise_iff_getElem.1 hnd
  have e':(ws.map (·.1))[i]=(ws.map (·.1))[j]:=by
   simp only [List.getElem_map]
   rw [za3 hi,za3 hj] at e;exact e
  rcases Nat.lt_or_gt_of_ne hne with hlt|hgt
  ·exact hpw i j hi' hj' hlt e'
  ·exact hpw j i hj' hi' hgt e'.symm
 have hone:∀ b,FX.count b<=1:=fun b=>by have:=h.one b;unfold zar at this;omega
 have htot:∀ b,zar ⟨ys,bs⟩ (fun j=>x.φ (ws.getD j default).1) G GB [] b=FX.count b+tot ws.length (fun j=>[x.φ (ws.getD j default).1]) b:=by
  intro b
  unfold zar
  simp only [hbl,List.count_nil]
  rw [zu5]
  have:=hF b
  omega
 have hle:∀ b,zar ⟨ys,bs⟩ (fun j=>x.φ (ws.getD j default).1) G GB [] b<=1/\(0<zar ⟨ys,bs⟩ (fun j=>x.φ (ws.getD j default).1) G GB [] b->0<zar x.st x.φ FV FC FX b):=by
  intro b
  rw [htot b]
  by_cases hb:∃ j,j<ws.length/\x.φ (ws.getD j default).1=b
  ·obtain ⟨j,hj,rfl⟩:=hb
   have h1:FX.count (x.φ (ws.getD j default).1)=0:=by
    have e1:=h.one (x.φ (ws.getD j default).1)
    unfold zar at e1
    have e':=zat (hw j hj).1 (fun k=>x.φ k::cat (x.st.boxes.getD k []).length (FC k)) (x.φ (ws.getD j default).1)
    simp only [List.count_cons,beq_self_eq_true,if_true] at e'
    omega
   have h2:=zz1 (b:=x.φ (ws.getD j default).1) hinj
   exact ⟨by omega,fun _=>h.box_pos (hw j hj).1⟩
  ·have h1:tot ws.length (fun j=>[x.φ (ws.getD j default).1]) b=0:=zb9 fun j hj hm=>hb ⟨j,hj,(List.mem_singleton.1 hm).symm⟩
   have h2:=hone b
   refine ⟨by omega,fun h3=> ?_⟩
   unfold zar;omega
 refine ⟨?_,?_,?_,?_,?_,fun b=>(hle b).1,?_,h.ilt,fun _ _ _=>rfl,.refl _,fun b hb=>.inl (by have:=htot b;show 0<_;rw [<- this];exact hb),fun _ h=>h,fun _ h=>.inl h⟩
 ·intro i hi
  rcases harg i hi with ⟨j,k,off,m,h1,h2,h3,h4⟩|⟨h1,_⟩
  ·show zbk (vals i) (ys.getD i .gone)
   rw [h1]
   rcases hp i hi with h5|h5
   ·rw [h3] at h5
    obtain ⟨_,k',cs,e1,e2,e3⟩:=zag h5 rfl
    rw [e3];exact rfl
   ·exact absurd h3 (h5 k off)
  ·exact h1
 ·intro i hi c hc
  rcases harg i hi with ⟨j,k,off,m,h1,h2,h3,h4⟩|⟨h1,h2,h3,h4⟩
  ·simp only at hc
   rw [h1] at hc
   have hc0:c=0:=by simpa [V.cells] using hc
   subst hc0
   show Cx.LR1 _ (zac (vals i) (ys.getD i .gone) 0) ((ys.getD i .gone).cells.getD 0 .gone) (G i 0)
   rw [h1,h4]
   have hj:=(List.getElem?_eq_some_iff.1 h2).1
   refine ⟨rfl,0+j,bs.getD j [],rfl,?_,?_⟩
   ·show bs[0+j]? =_
    rw [Nat.zero_add,List.getElem?_eq_getElem (by omega),za3 (by omega)]
   ·rcases hp i hi with h5|h5
    ·rw [h3] at h5
     obtain ⟨_,k',cs,e1,e2,e3⟩:=zag h5 rfl
     cases e1
     have e4:=hoff i j k off m hi h3 h2
     subst e4
     show vals i=_
     rw [e3]
     have e5:(ws.getD (0+j) default).1=k:=by rw [Nat.zero_add,za3 hj,(List.getElem?_eq_some_iff.1 h2).2]
     simp only [e5]
    ·exact absurd h3 (h5 k off)
  ·exact za8 (h4 c hc).1 (zav (h4 c hc).2)
 ·intro j hj
  have hj':j<ws.length:=by rw [<- hbl];exact hj
  show Rows x.w (x.φ (ws.getD j default).1) (bs.getD j []).length
  rw [(hw j hj').2.1]
  exact h.box _ (hw j hj').1
 ·intro j hj c hc
  have hj':j<ws.length:=by rw [<- hbl];exact hj
  obtain ⟨h1,h2⟩:=(hw j hj').2.2.2 c hc
  exact za8 h1 (by revert h2;generalize (bs.getD j []).getD c .gone=z;intro h2;cases z <;> first|rfl|(cases h2;done))
 ·intro j hj c hc hm
  have hj':j<ws.length:=by rw [<- hbl];exact hj
  have:=(zhw ((hw j hj').2.2.2 c hc).2).1
  simp only at hm
  rw [this] at hm;cases hm
 ·intro b hb
  show zar ⟨ys,bs⟩ (fun j=>x.φ (ws.getD j default).1) G GB [] b=0
  have h1:=h.apart b hb
  have h2:=(hle b).2
  omega
def zgi (r:V) (bs':List (List V)) (nw:Nat) (φ':Nat->Nat) (F0:Nat->List Nat) (FC':Nat->Nat->List Nat):List Nat:=
 cat r.cells.length F0++cat bs'.length fun j=>if j<nw then cat (bs'.getD j []).length (FC' j) else φ' j::cat (bs'.getD j []).length (FC' j)
theorem zlk (h:SR B x FV FC FX) {ws:List (Nat×Nat×Nat)} {nbs:Nat} {w':World} {I':Nat->Prop} {φ':Nat->Nat} {v:Value} {r:V} {bs':List (List V)} {FV' FC':Nat->Nat->List Nat} (hlen:ws.length<=bs'.length)
 (hgone:∀ j,j<ws.length->(ws.getD j default).1<x.st.boxes.length/\(bs'.getD j []).length=(x.st.boxes.getD (ws.getD j default).1 []).length/\
  ∀ c,c<(x.st.boxes.getD (ws.getD j default).1 []).length->(x.st.boxes.getD (ws.getD j default).1 []).getD c .gone=.gone)
 (hφ:∀ j,j<ws.length->φ' j=x.φ (ws.getD j default).1)
 (hsr:SR ⟨x.w,fun b=>0<FX.count b+tot ws.length (fun j=>[x.φ (ws.getD j default).1]) b,x.I,nbs,fun j=>x.φ (ws.getD j default).1,0,fun _=>none⟩ ⟨w',I',φ',fun _=>v,⟨[r],bs'⟩⟩ FV' FC' []):
 SR B ⟨w',I',x.φ,x.tm,x.st⟩ FV FC (zgi r bs' ws.length φ' (FV' 0) FC'):=by
 have hT:∀ b,(zgi r bs' ws.length φ' (FV' 0) FC').count b+tot ws.length (fun j=>[φ' j]) b=zar ⟨[r],bs'⟩ φ' FV' FC' [] b:=by
  intro b
  unfold zar zgi
  rw [List.count_append,za2 bs'.length]
  have e1:tot [r].length (fun i=>cat ([r].getD i .gone).cells.length (FV' i)) b=(cat r.cells.length (FV' 0)).count b:=by simp [tot]
  have e2:∀ m,m<=bs'.length->ws.length<=m->tot m (fun j=>if j<ws.length then cat (bs'.getD j []).length (FC' j) else φ' j::cat (bs'.getD j []).length (FC' j)) b+tot ws.length (fun j=>[φ' j]) b=tot m (fun k=>φ' k::cat (bs'.getD k []).length (FC' k)) b:=by
   intro m
   induction m with
   | zero=>
     intro _ h0
     have:ws.length=0:=by omega
     rw [this];simp [tot]
   | succ m ih=>
     intro h1 h2
     by_cases e:ws.length=m+1
     ·have hc:=zu5 (n:=ws.length) (ψ:=φ') (F:=fun j=>cat (bs'.getD j []).length (FC' j)) (b:=b)
      rw [<- e]
      have:tot ws.length (fun j=>if j<ws.length then cat (bs'.getD j []).length (FC' j) else φ' j::cat (bs'.getD j []).length (FC' j)) b=tot ws.length (fun j=>cat (bs'.getD j []).length (FC' j)) b:=zaa b fun j hj=>by rw [if_pos hj]
      omega
     ·have:=ih (by omega) (by omega)
      rw [zak,zak,if_neg (by omega)]
      omega
  have e3:=e2 bs'.length (Nat.le_refl _) hlen
  rw [e1]
  simp only [List.count_nil]
  omega
 have hone:∀ b,zar ⟨[r],bs'⟩ φ' FV' FC' [] b<=1:=hsr.one
 have hψ:∀ b,tot ws.length (fun j=>[φ' j]) b=tot ws.length (fun j=>[x.φ (ws.getD j default).1]) b:=fun b=>zaa b fun j hj=>by rw [hφ j hj]
 refine h.away (fun k=>∃ j,j<ws.length/\(ws.getD j default).1=k) ?_ ?_ ?_ hsr.gr hsr.imm ?_ hsr.ilt ?_ ?_ ?_
 ·rintro k hk ⟨j,hj,rfl⟩ c hc
  exact (hgone j hj).2.2 c hc
 ·intro b hb h0 hne
  refine hsr.keep b hb ?_
  show ¬ 0<FX.count b+tot ws.length (fun j=>[x.φ (ws.getD j default).1]) b
  have:tot ws.length (fun j=>[x.φ (ws.getD j default).1]) b=0:=zb9 fun j hj hm=>hne _ (hgone j hj).1 ⟨j,hj,rfl⟩ (List.mem_singleton.1 hm)
  omega
 ·rintro k hk ⟨j,hj,rfl⟩
  have:=hsr.box j (show j<bs'.length by omega)
  simp only at this
  rw [hφ j hj,(hgone j hj).2.1] at this
  exact this
 ·intro b hb
  rcases hsr.new b hb with h1|h1|h1
  ·exact .inl h1
  ·right;left
   have h2:=hsr.apart b hb
   have h3:=hT b;have h4:=hψ b
   have h1':0<FX.count b+tot ws.length (fun j=>[x.φ (ws.getD j default).1]) b:=h1
   have h2':zar ⟨[r],bs'⟩ φ' FV' FC' [] b=0:=h2
   omega
  ·exact .inr (.inr h1)
 ·intro b hb
  have h2:zar ⟨[r],bs'⟩ φ' FV' FC' [] b=0:=hsr.apart b hb
  have h3:=hT b
  omega
 ·intro b hb
  have h3:=hT b;have h4:=hψ b;have h5:=hone b
  by_cases h0:0<(zgi r bs' ws.length φ' (FV' 0) FC').count b
  ·have h6:=hsr.held b (show 0<zar ⟨[r],bs'⟩ φ' FV' FC' [] b by omega)
   rcases h6 with h6|h6
   ·have h6':0<FX.count b+tot ws.length (fun j=>[x.φ (ws.getD j default).1]) b:=h6
    omega
   ·have h6':x.w.heap.size<=b:=h6
    omega
  ·omega
 ·intro b _
  have h3:=hT b;have h5:=hone b
  omega
end Go.Pm
namespace Go.Pm
variable {P:Program} {B:Base} {x:Cx} {FV FC:Nat->Nat->List Nat} {FX:List Nat} {a:Act} {ts:List (Option Nat)} {n:Nat}
theorem zjy {o:Oper} {f:FuncId} {argsA:Array Operand} {ats:Array TypeId} (ho:o.op=.call { callee:=.value (.func f),args:=argsA,argTypes:=ats }) (hf:zwc P f=true) {w:World} {K:Value->World->Prop}
 (h:Calls P f (argsA.map a.eval) w (fun | .returned v,w'=>K v w'|_,_=>False)):zc6 P o a w K:=by
 unfold zwc at hf
 cases hfn:P.funcs[f]? with
 | none=>rw [hfn] at hf;cases hf
 | some fn=>
   rw [hfn] at hf
   simp only [Bool.and_eq_true,Bool.not_eq_true'] at hf
   have hb:fn.body≠none:=by intro hb;rw [hb] at hf;cases hf.1
   have hn : fn.name ≠ "runtime.NumGoroutine" := by intro hn; rw [hn] at hf; simp at hf
   have hrun:(execOp a.eval o).run P w=.ok (.enter f (argsA.map a.eval)) w:=by
    simp [execOp,ho,resolve,Deferred.ofValue,Act.eval,invoke,callFunc,hfn,hn,hb]
   unfold zc6 Oper.wp
   rw [hrun]
   refine Calls.mono h fun e w' hh=> ?_
   cases e with
   | returned v=>exact ⟨v,rfl,hh⟩
   | panicked c=>exact hh.elim
   | outgrown=>exact hh.elim
theorem zpb:∀ {ws:List (Nat×Nat×Nat)} {bs:List (List V)} {s s2:St} {more:List (List V)},s.backs ws bs=some (s2,more)->ws.length<=bs.length/\∀ j,j<ws.length->(bs.getD j []).length=(ws.getD j default).2.2/\(bs.getD j []).all bnd=true
 | [],bs,s,s2,more,_=>⟨Nat.zero_le _,fun j hj=>by simp at hj⟩
 | (k,off,m)::ws,[],s,s2,more,h=>by cases h
 | (k,off,m)::ws,b::bs,s,s2,more,h=>by
   simp only [St.backs] at h
   split at h
   ·split at h
    ·rename_i hl
     obtain ⟨h1,h2⟩:=zpb h
     refine ⟨by simp;omega,fun j hj=> ?_⟩
     cases j with
     | zero=>exact ⟨hl.1,hl.2⟩
     | succ j=>simpa using h2 j (by simpa using hj)
    ·cases h
   ·cases h
theorem zhu (h:SR B x FV FC FX) {ws:List (Nat×Nat×Nat)} (hw:∀ j,j<ws.length->(ws.getD j default).1<x.st.boxes.length) (b:Nat) (hb:x.I b):¬ 0<FX.count b+tot ws.length (fun j=>[x.φ (ws.getD j default).1]) b:=by
 intro hpos
 have h0:=h.apart b hb
 by_cases h1:0<FX.count b
 ·unfold zar at h0;omega
 ·have h2:¬ ∀ j,j<ws.length->b ∉ [x.φ (ws.getD j default).1]:=fun hall=>by
   have:=zb9 (n:=ws.length) (F:=fun j=>[x.φ (ws.getD j default).1]) (b:=b) hall
   omega
  apply h2
  intro j hj hm
  have e:b=x.φ (ws.getD j default).1:=by simpa using hm
  have:=h.box_pos (hw j hj)
  rw [<- e] at this
  omega
theorem yis {R:zan} (hR:zwx P R B) (h:SR B x FV FC []) (ht:Tied B ts n x a) {o:Oper} {f:FuncId} {argsA:Array Operand} {ats:Array TypeId} {args:List Opnd} {ms:List PM}
 (ho:o.op=.call { callee:=.value (.func f),args:=argsA,argTypes:=ats }) (hargs:zcb ts argsA.toList args=true)
 {vs xs:List V} {ws:List (Nat×Nat×Nat)} {s1 s2 s3:St} {bs bs' more:List (List V)} {r res:V} (hr:x.st.rds args=some vs) (hp:x.st.passes 0 ms vs=some (xs,ws,s1)) (hw:s1.windows ws=some bs) (hrun:R f xs bs=some (r,bs'))
 (hb:s1.backs ws bs'=some (s2,more)) (hl:s2.land ws.length r more=some (res,s3)):zc6 P o a x.w (Out B n ts a s3 res):=by
 obtain ⟨k1,k2⟩:=zk3 h ht hargs hr
 obtain ⟨I1,FV1,FC1,FX1,G,j1,j2,j3,j4,j5,j6⟩:=zgf (x0:=x) ms vs (fun i=>(argsA.toList.map a.eval).getD i undef) 0 (I:=x.I) (s:=x.st) h (fun _ h=>h) (.refl _) (fun i hi=>k2 i (by omega)) hp
 obtain ⟨FC2,FX2,GB,e1,e2,e3,e4,e5⟩:=yas ws j2 hw
 have hblen:(s1.evac ws).boxes.length=s1.boxes.length:=zdm ws s1
 have hs1b:s1.boxes.length=x.st.boxes.length:=j6.blen
 have hebox:∀ j,j<ws.length->(s1.evac ws).boxes.getD (ws.getD j default).1 []=List.replicate (bs.getD j []).length .gone:=by
  intro j hj
  obtain ⟨l1,l2,_⟩:=e5 j hj
  rw [znm ws s1 _ l1,if_pos (List.mem_map.2 ⟨ws.getD j default,by rw [za3 hj];exact List.getElem_mem _,rfl⟩),l2]
 have hxs:xs.length=vs.length:=j4
 have hcal:=callee (x:=⟨x.w,I1,x.φ,x.tm,s1.evac ws⟩) (ys:=xs) (vals:=fun i=>(argsA.toList.map a.eval).getD i undef) (vs:=vs) (ws:=ws) (bs:=bs) (G:=G) (GB:=GB) e1 e4
  (fun i hi=>by
   by_cases hv:∃ k off,vs.getD i .gone=.ref (.box k) off []
   ·left
    obtain ⟨k,off,hv⟩:=hv
    have hpd:=k2 i (by omega)
    rw [hv] at hpd ⊢
    obtain ⟨_,k',cs,c1,c2,c3⟩:=zag hpd rfl
    cases c1
    have hk:=(List.getElem?_eq_some_iff.1 c2).1
    exact Pend.leaf ⟨rfl,k,(s1.evac ws).boxes.getD k [],rfl,by
     have hk2:k<(s1.evac ws).boxes.length:=by omega
     show (s1.evac ws).boxes[k]? =_
     rw [za3 hk2,List.getElem?_eq_getElem hk2],c3⟩
   ·right;intro k off hv';exact hv ⟨k,off,hv'⟩)
  (fun i hi=>j5 i (by omega)) e3
  (fun j hj=>by
   obtain ⟨l1,l2,l3,l4,l5⟩:=e5 j hj
   refine ⟨by show _<(s1.evac ws).boxes.length;omega,?_,l3,l5⟩
   show _=((s1.evac ws).boxes.getD _ []).length
   rw [hebox j hj];simp)
  (fun i j k off m hi hv hj=>by
   obtain ⟨hjl,hje⟩:=List.getElem?_eq_some_iff.1 hj
   have:=(e5 j hjl).2.2.1
   rw [za3 hjl,hje] at this
   exact this)
  (fun b=>by have q1:=e2 b;have q2:=j3 b;rw [hxs];rw [List.count_nil,Nat.add_zero] at q2;omega)
 obtain ⟨J,hR,hJ⟩:=hR
 obtain ⟨hf,hcallp,_⟩:=hR f xs bs r bs' hrun
 have hcall0:=hcallp (by
  intro hbm
  have hj:0<ws.length:=by rw [<- e3,hbm];simp
  obtain ⟨_,_,_,_,l5⟩:=e5 0 hj
  have:=(l5 0 (by rw [hbm];simp)).2
  rw [hbm] at this
  simp [bnd] at this)
 have hcall:=hcall0 x.w _ I1 (argsA.map a.eval) _ G GB (by simp;rw [hxs,k1];simp) (by
  have:(fun i=>(argsA.map a.eval).getD i undef)=fun i=>(argsA.toList.map a.eval).getD i undef:=by
   funext i;rw [<- zbb,Array.toList_map]
  rw [this];exact hcal) (zhu (x:=⟨x.w,I1,x.φ,x.tm,s1.evac ws⟩) e1 (fun j hj=>by
   obtain ⟨l1,_⟩:=e5 j hj
   show _<(s1.evac ws).boxes.length;omega)) (hJ _ _ _ _ e1)
 refine zjy ho hf (Calls.mono hcall fun e w' hh=> ?_)
 cases e with
 | panicked c=>exact hh.elim
 | outgrown=>exact hh.elim
 | returned v=>
   obtain ⟨I',φ',FV',FC',hφ,hsr⟩:=hh
   have hba:=zpb hb
   have hbsl:bs.length=ws.length:=e3
   have hA:=zlk (x:=⟨x.w,I1,x.φ,x.tm,s1.evac ws⟩) e1 (nbs:=bs.length) hba.1 (fun j hj=>by
    obtain ⟨l1,l2,l3,l4,l5⟩:=e5 j hj
    refine ⟨by show _<(s1.evac ws).boxes.length;omega,?_,?_⟩
    ·show (bs'.getD j []).length=((s1.evac ws).boxes.getD _ []).length
     rw [hebox j hj,(hba.2 j hj).1,l4];simp
    ·intro c _
     show ((s1.evac ws).boxes.getD _ []).getD c .gone=.gone
     rw [hebox j hj]
     simp only [List.getD,List.getElem?_replicate];split <;> rfl) (fun j hj=>hφ j (by omega)) hsr
   rw [zvi] at hb
   have hcell:∀ j,j<bs'.length->(bs'.getD j []).all bnd=true->∀ c,c<(bs'.getD j []).length->VR w' I' (zad w' (φ' j) c) ((bs'.getD j []).getD c .gone) (FC' j c)/\((bs'.getD j []).getD c .gone).leaf=true:=by
    intro j hj hbnd c hc
    have hL:Cx.LR1 ⟨w',I',φ',fun _=>v,⟨[r],bs'⟩⟩ (zad w' (φ' j) c) ((bs'.getD j []).getD c .gone) (FC' j c):=hsr.boxes j hj c hc
    have hbc:bnd ((bs'.getD j []).getD c .gone)=true:=by rw [za3 hc];exact (List.all_eq_true.1 hbnd) _ (List.getElem_mem hc)
    obtain ⟨q1,q2⟩:=zhw hbc
    exact ⟨zbs hL q1 q2,zbp hL⟩
   have hfill:∀ FX',(∀ b,tot ws.length (fun j=>cat (bs'.getD j []).length (FC' j)) b+FX'.count b<=(zgi r bs' ws.length φ' (FV' 0) FC').count b)->
    (∃ FC3,SR B ⟨w',I',x.φ,x.tm,s2⟩ FV1 FC3 FX')/\more=bs'.drop ws.length/\s2.vars.length=(s1.evac ws).vars.length/\s2.boxes.length=(s1.evac ws).boxes.length:=by
    intro FX' hcount
    refine zpt ws (FX':=FX') (GB:=FC') hA e4 (fun j hj=> ?_) hcount hb
    obtain ⟨l1,l2,l3,l4,l5⟩:=e5 j hj
    refine ⟨by omega,?_,?_⟩
    ·rw [hebox j hj,l4];simp
    ·have:=hcell j (by omega) (hba.2 j hj).2
     rw [<- hφ j (by omega)]
     exact this
   have hvl:∀ {s2v:Nat},s2v=(s1.evac ws).vars.length->ts.length=s2v:=by
    intro s2v e;rw [e,zz5,j6.vlen];exact ht.len
   have hbx:B.nb<=(s1.evac ws).boxes.length:=by rw [hblen,hs1b];exact ht.nbx
   have hcnt:∀ b,(zgi r bs' ws.length φ' (FV' 0) FC').count b=(cat r.cells.length (FV' 0)).count b+tot bs'.length (fun j=>if j<ws.length then cat (bs'.getD j []).length (FC' j) else φ' j::cat (bs'.getD j []).length (FC' j)) b:=fun b=>by
    unfold zgi;rw [List.count_append,za2 bs'.length]
   have hnw:∀ b,tot ws.length (fun j=>if j<ws.length then cat (bs'.getD j []).length (FC' j) else φ' j::cat (bs'.getD j []).length (FC' j)) b=tot ws.length (fun j=>cat (bs'.getD j []).length (FC' j)) b:=fun b=>zaa b fun j hj=>by rw [if_pos hj]
   cases hmore:more with
   | nil=>
     rw [hmore] at hl
     obtain ⟨⟨FC3,g1⟩,g2,g3,g4⟩:=hfill (cat r.cells.length (FV' 0)) (fun b=>by
      have q1:=hcnt b
      have q2:=hnw b
      have q3:=zct hba.1 (fun j=>if j<ws.length then cat (bs'.getD j []).length (FC' j) else φ' j::cat (bs'.getD j []).length (FC' j)) b
      omega)
     have hland:r.cells.all bnd=true/\res=r/\s3=s2:=by
      cases r with
      | ref rt c up=>cases rt <;> cases up <;> simp only [St.land] at hl <;> (split at hl <;> first|(cases hl;done)|(rename_i hh;cases hl;exact ⟨hh,rfl,rfl⟩))
      | _=>simp only [St.land] at hl;split at hl <;> first|(cases hl;done)|(rename_i hh;cases hl;exact ⟨hh,rfl,rfl⟩)
     obtain ⟨hbnd,rfl,rfl⟩:=hland
     refine ⟨⟨w',I',x.φ,x.tm,s3⟩,FV1,FC3,_,FV' 0,rfl,rfl,g1,⟨hvl g3,ht.tie,ht.size,ht.defers,by show B.nb<=s3.boxes.length;rw [g4];exact hbx,ht.phi,ht.nk,ht.kp⟩,⟨hsr.shape 0 (by simp),fun c hc=> ?_⟩,fun b=>rfl⟩
     have hL:Cx.LR1 ⟨w',I',φ',fun _=>v,⟨[res],bs'⟩⟩ (zac v res c) (res.cells.getD c .gone) (FV' 0 c):=hsr.vars 0 (by simp) c hc
     have hbc:bnd (res.cells.getD c .gone)=true:=by rw [za3 hc];exact (List.all_eq_true.1 hbnd) _ (List.getElem_mem hc)
     obtain ⟨q1,q2⟩:=zhw hbc
     have hv:VR w' I' (zac v res c) (res.cells.getD c .gone) (FV' 0 c):=zbs hL q1 q2
     exact za8 hv (zbp hL)
   | cons b0 more'=>
     rw [hmore] at hl
     have hland:r=.ref (.box ws.length) 0 []/\more'=[]/\b0.all bnd=true/\res=.ref (.box s2.boxes.length) 0 []/\s3=s2.pushBox b0:=by
      cases r with
      | ref rt c up=>
        cases rt with
        | var i=>cases up <;> cases c <;> simp only [St.land] at hl <;> cases hl
        | box i=>
          cases up with
          | cons s up=>cases c <;> simp only [St.land] at hl <;> cases hl
          | nil=>
            cases c with
            | succ c=>simp only [St.land] at hl;cases hl
            | zero=>
              cases more' with
              | cons b1 more'=>simp only [St.land] at hl;cases hl
              | nil=>
                simp only [St.land] at hl
                split at hl
                ·rename_i hh
                 cases hl
                 obtain ⟨rfl,h2⟩:=hh
                 exact ⟨rfl,rfl,h2,rfl,rfl⟩
                ·cases hl
      | _=>simp only [St.land] at hl;cases hl
     obtain ⟨rfl,rfl,hbnd,rfl,rfl⟩:=hland
     obtain ⟨_,hd,_,_⟩:=hfill [] (fun b=>by
      have q1:=hcnt b
      have q2:=hnw b
      have q3:=zct hba.1 (fun j=>if j<ws.length then cat (bs'.getD j []).length (FC' j) else φ' j::cat (bs'.getD j []).length (FC' j)) b
      simp only [List.count_nil]
      omega)
     rw [hmore] at hd
     have hlen1:bs'.length=ws.length+1:=by have:=congrArg List.length hd;simp at this;omega
     have hb0:bs'.getD ws.length []=b0:=by
      have:(bs'.drop ws.length).getD 0 []=b0:=by rw [<- hd];rfl
      simpa [List.getD] using this
     obtain ⟨⟨FC3,g1⟩,_,g3,g4⟩:=hfill (φ' ws.length::cat b0.length (FC' ws.length)) (fun b=>by
      have q1:=hcnt b
      have q2:=hnw b
      rw [hlen1,zak,if_neg (by omega),hb0] at q1
      omega)
     have hcell0:=hcell ws.length (by omega) (by rw [hb0];exact hbnd)
     rw [hb0] at hcell0
     have hrows:=hsr.box ws.length (show ws.length<bs'.length by omega)
     simp only at hrows
     rw [hb0] at hrows
     obtain ⟨g5,_⟩:=g1.pushBox (z:=b0) (b:=φ' ws.length) (G:=FC' ws.length) (FX':=[]) hrows (fun c hc=>za8 (hcell0 c hc).1 (hcell0 c hc).2) (fun c hc hm=>by rw [zbm (hcell0 c hc).1] at hm;cases hm)
      (fun i=>by
       rw [List.count_cons]
       by_cases e:i=φ' ws.length
       ·subst e;simp;omega
       ·have:¬ φ' ws.length=i:=fun h=>e h.symm
        simp [e,this])
     have hvL:v=.pointer (some ⟨φ' ws.length,0,none⟩):=by
      have hL:=hsr.vars 0 (by simp) 0 (by simp [V.cells])
      obtain ⟨_,k,cs,c1,c2,c3⟩:=hL
      cases c1
      exact c3
     refine ⟨_,FV1,_,[],fun _=>[],rfl,rfl,g5,⟨?_,ht.tie,ht.size,ht.defers,?_,?_,ht.nk,ht.kp⟩,Pend.leaf ⟨rfl,s2.boxes.length,b0,rfl,?_,?_⟩,fun b=>by rw [zb6]⟩
     ·show ts.length=s2.vars.length;exact hvl g3
     ·show B.nb<=(s2.boxes ++ [b0]).length;simp;omega
     ·intro k hk
      show upd x.φ s2.boxes.length (φ' ws.length) k=B.φ k
      rw [zam _ _ (by omega)];exact ht.phi k hk
     ·simp [St.pushBox]
     ·show v=.pointer (some ⟨upd x.φ s2.boxes.length (φ' ws.length) s2.boxes.length,0,none⟩)
      rw [zaj];exact hvL
end Go.Pm
namespace Go.Pm
variable {P:Program} {B:Base} {x:Cx} {FV FC:Nat->Nat->List Nat} {FX:List Nat} {a:Act} {ts:List (Option Nat)} {n:Nat}
def zd7 (x:Cx) (FV FC:Nat->Nat->List Nat) (FX:List Nat) (b:Nat):Prop:=x.I b\/0<zar x.st x.φ FV FC FX b
theorem zis (h:SR B x FV FC FX) {v z y} (hL:x.LR1 v z []) (hv:x.st.viewLeaf z=some y):VR x.w (zd7 x FV FC FX) v y []/\y.firm=true:=by
 have hI:∀ b,x.I b->zd7 x FV FC FX b:=fun b hb=>.inl hb
 have plain:z.mark=false->z ≠ .gone->VR x.w (zd7 x FV FC FX) v z []:=fun hm hg=>(zbs hL hm hg).keep hI (fun _ _=>rfl) (by simp)
 cases z with
 | hd e0 r c up lo hi=>
   simp only [St.viewLeaf] at hv
   split at hv
   ·rename_i e xs hg
    split at hv
    ·rename_i hhi
     cases hv
     have hs:zsc e (x.place r up c) v lo hi:=by
      obtain ⟨_,xs',h1,h2⟩:=hL
      rw [hg] at h1;cases h1;exact h2
     obtain ⟨cs,hcs,hlt,hown⟩:=zba hg
     obtain ⟨F,hLo,hF,rs,hrs,hrc⟩:=h.at r up cs hcs c hlt
     rw [hown] at hLo
     obtain ⟨G,hG,hGF⟩:=zox (show VR x.w x.I (x.place r up c) (.own e xs) F from hLo) hs hhi
     have:=hG.erased (I':=zd7 x FV FC FX) hI fun b hb=>by
      right
      have h1:0<G.count b:=List.count_pos_iff.2 hb
      have h2:=hGF b
      have h3:=hF b
      exact h.held_pos hrs hrc (List.count_pos_iff.1 (by omega))
     exact ⟨this,rfl⟩
    ·cases hv
   ·cases hv
 | int k m=>cases hv;exact ⟨plain rfl (by simp),rfl⟩
 | bool b=>cases hv;exact ⟨plain rfl (by simp),rfl⟩
 | str b=>cases hv;exact ⟨plain rfl (by simp),rfl⟩
 | imm e xs=>cases hv;exact ⟨plain rfl (by simp),rfl⟩
 | pnil=>cases hv;exact ⟨plain rfl (by simp),rfl⟩
 | clo f cs=>cases hv;exact ⟨plain rfl (by simp),rfl⟩
 | own e xs=>
   cases xs with
   | nil=>
     cases hv
     have h1:=(plain rfl (by simp)).erased (I':=zd7 x FV FC FX) (fun _ h=>h) (by simp)
     exact ⟨h1,rfl⟩
   | cons y ys=>cases hv
 | _=>cases hv
theorem zo3 (h:SR B x FV FC FX):∀ (zs:List V) (vals:Nat->Value) {ys},(∀ c,c<zs.length->x.LR1 (vals c) (zs.getD c .gone) [])->x.st.views zs=some ys->
 ys.length=zs.length/\∀ c,c<zs.length->VR x.w (zd7 x FV FC FX) (vals c) (ys.getD c .gone) []/\(ys.getD c .gone).firm=true
 | [],vals,ys,_,hv=>by cases hv;exact ⟨rfl,fun c hc=>by simp at hc⟩
 | z::zs,vals,ys,hL,hv=>by
   simp only [St.views] at hv
   split at hv
   ·rename_i y hy
    simp only [Option.map_eq_some_iff] at hv
    obtain ⟨ys',h1,rfl⟩:=hv
    obtain ⟨h2,h3⟩:=zo3 h zs (fun c=>vals (c+1)) (fun c hc=>hL (c+1) (by simpa using hc)) h1
    refine ⟨by simp [h2],fun c hc=> ?_⟩
    cases c with
    | zero=>exact zis h (hL 0 (by simp)) hy
    | succ c=>simpa using h3 c (by simpa using hc)
   ·cases hv
theorem zi4 (h:SR B x FV FC FX) {r:Root} {up:List zbv} {cs ys:List V} (hc:x.st.cont r up=some cs) (hv:x.st.views (borrows r up 0 cs)=some ys):
 ys.length=cs.length/\∀ c,c<cs.length->VR x.w (zd7 x FV FC FX) (x.place r up c) (ys.getD c .gone) []/\(ys.getD c .gone).firm=true:=by
 obtain ⟨h1,h2⟩:=zo3 h _ (fun c=>x.place r up c) (fun c hlt=>by
  rw [zb8] at hlt
  rw [zd2 r up 0 cs c hlt]
  simp only [Nat.zero_add]
  exact zcz h hc hlt) hv
 rw [zb8] at h1 h2
 exact ⟨h1,h2⟩
theorem zjr (h:SR B x FV FC FX):∀ (caps:List V) {conts},x.st.viewCaps caps=some conts->
 conts.length=caps.length/\∀ i,i<caps.length->∃ k cs ys,caps.getD i .gone=.ref (.box k) 0 []/\x.st.boxes[k]? =some cs/\conts.getD i .gone=.agg ys/\ys.length=cs.length/\
  ∀ c,c<cs.length->VR x.w (zd7 x FV FC FX) (x.place (.box k) [] c) (ys.getD c .gone) []/\(ys.getD c .gone).firm=true
 | [],conts,hv=>by cases hv;exact ⟨rfl,fun i hi=>by simp at hi⟩
 | v::vs,conts,hv=>by
   unfold St.viewCaps at hv
   split at hv
   ·rename_i heq;cases heq
   ·rename_i k vs' heq
    simp only [List.cons.injEq] at heq
    obtain ⟨rfl,rfl⟩:=heq
    split at hv
    ·rename_i cs hb
     split at hv
     ·rename_i ys hy
      simp only [Option.map_eq_some_iff] at hv
      obtain ⟨cs',h1,rfl⟩:=hv
      obtain ⟨h2,h3⟩:=zjr h vs h1
      refine ⟨by simp [h2],fun i hi=> ?_⟩
      cases i with
      | zero=>
        obtain ⟨h4,h5⟩:=zi4 h (r:=.box k) (up:=[]) (by simp only [St.cont,St.root];exact hb) hy
        exact ⟨k,cs,ys,rfl,hb,rfl,h4,h5⟩
      | succ i=>simpa using h3 i (by simpa using hi)
     ·cases hv
    ·cases hv
   ·cases hv
theorem zz3 (h:SR B x FV FC FX) {val v y} (hp:Pend x val v fun _=>[]) (hv:x.st.view v=some y) (φ':Nat->Nat) (tm':Nat->Value) (st':St):
 Pend ⟨x.w,zd7 x FV FC FX,φ',tm',st'⟩ val y fun _=>[]:=by
 have leafcase:x.st.viewLeaf v=some y->Pend ⟨x.w,zd7 x FV FC FX,φ',tm',st'⟩ val y fun _=>[]:=by
  intro hv
  have hvl:v.leaf=true:=by cases v <;> first|rfl|(cases hv;done)
  have hL:=hp.cells 0 (by cases v <;> first|(simp [V.cells];done)|(cases hvl;done))
  have hL':x.LR1 val v []:=by cases v <;> first|exact hL|(cases hvl;done)
  obtain ⟨h1,h2⟩:=zis h hL' hv
  exact Pend.leaf (za8 h1 (zav h2))
 cases v with
 | agg cs=>
   simp only [St.view,Option.map_eq_some_iff] at hv
   obtain ⟨ys,h1,rfl⟩:=hv
   obtain ⟨h2,h3⟩:=zo3 h cs (zac val (.agg cs)) (fun c hc=>hp.cells c hc) h1
   refine ⟨?_,fun c hc=> ?_⟩
   ·obtain ⟨u,e1,e2⟩:=hp.shape
    exact ⟨u,e1,by rw [h2];exact e2⟩
   ·simp only [V.cells] at hc ⊢
    obtain ⟨h4,h5⟩:=h3 c (by omega)
    exact za8 h4 (zav h5)
 | fn f caps=>
   simp only [St.view,Option.map_eq_some_iff] at hv
   obtain ⟨conts,h1,rfl⟩:=hv
   obtain ⟨h2,h3⟩:=zjr h caps h1
   have hL:=hp.cells 0 (by simp [V.cells])
   obtain ⟨_,cs,e1,e2,e3⟩:=(show x.LR1 val (.fn f caps) [] from hL)
   subst e1
   refine Pend.leaf ?_
   have key:∀ i,i<conts.length->∃ k,cs.getD i undef=.pointer (some ⟨x.φ k,0,none⟩)/\zd7 x FV FC FX (x.φ k)/\
    ∀ j,j<(conts.getD i .gone).cells.length->∃ v,x.w.cell? ⟨x.φ k,j,none⟩=some v/\VR x.w (zd7 x FV FC FX) v (elt conts i j) []:=by
    intro i hi
    rw [h2] at hi
    obtain ⟨k,bs,ys,f1,f2,f3,f4,f5⟩:=h3 i hi
    obtain ⟨_,g2⟩:=e3 i k hi f1
    have hk:k<x.st.boxes.length:=(List.getElem?_eq_some_iff.1 f2).1
    refine ⟨k,g2,.inr (h.box_pos hk),fun j hj=> ?_⟩
    rw [f3] at hj
    simp only [V.cells] at hj
    have hbe:x.st.boxes.getD k []=bs:=by rw [za3 hk];exact (List.getElem?_eq_some_iff.1 f2).2
    obtain ⟨u,hu⟩:=(h.box k hk).cell (o:=j) (by rw [hbe];omega)
    refine ⟨u,hu,?_⟩
    have:=(f5 j (by omega)).1
    have e4:x.place (.box k) [] j=u:=by simp only [Cx.place,Cx.rv,zad,hu];rfl
    rw [e4] at this
    unfold elt
    rw [f3];exact this
   have key2:∃ bs:Nat->Nat,∀ i,i<conts.length->cs.getD i undef=.pointer (some ⟨bs i,0,none⟩)/\zd7 x FV FC FX (bs i)/\
    ∀ j,j<(conts.getD i .gone).cells.length->∃ v,x.w.cell? ⟨bs i,j,none⟩=some v/\VR x.w (zd7 x FV FC FX) v (elt conts i j) []:=by
    have:∀ i,∃ b,i<conts.length->cs.getD i undef=.pointer (some ⟨b,0,none⟩)/\zd7 x FV FC FX b/\
     ∀ j,j<(conts.getD i .gone).cells.length->∃ v,x.w.cell? ⟨b,j,none⟩=some v/\VR x.w (zd7 x FV FC FX) v (elt conts i j) []:=by
     intro i
     by_cases hi:i<conts.length
     ·obtain ⟨k,q1,q2⟩:=key i hi
      exact ⟨x.φ k,fun _=>⟨q1,q2⟩⟩
     ·exact ⟨0,fun h=>absurd h hi⟩
    exact ⟨fun i=>Classical.choose (this i),fun i hi=>Classical.choose_spec (this i) hi⟩
   obtain ⟨bs,hbs⟩:=key2
   exact VR.clo f cs conts (by omega) bs (fun i hi=>⟨(hbs i hi).1,(hbs i hi).2.1⟩) (fun i j=>zad x.w (bs i) j)
    (fun i j hi hj=>by obtain ⟨u,hu,_⟩:=(hbs i hi).2.2 j hj;simp only [zad,hu];rfl)
    (fun i j hi hj=>by obtain ⟨u,hu,hV⟩:=(hbs i hi).2.2 j hj;simp only [zad,hu];exact hV)
 | ref r c up=>
   simp only [St.view] at hv
   split at hv
   ·rename_i cs hc
    simp only [Option.map_eq_some_iff] at hv
    obtain ⟨ys,h1,rfl⟩:=hv
    obtain ⟨h2,h3⟩:=zi4 h hc h1
    have hL:x.LR1 val (.ref r c up) []:=hp.cells 0 (by simp [V.cells])
    refine Pend.leaf ?_
    cases up with
    | nil=>
      obtain ⟨_,k,cs',rfl,e1,e2⟩:=hL
      have hk:k<x.st.boxes.length:=(List.getElem?_eq_some_iff.1 e1).1
      have hcc:cs=cs':=by simp only [St.cont,St.root] at hc;rw [hc] at e1;exact Option.some.inj e1
      subst hcc
      have hbe:x.st.boxes.getD k []=cs:=by rw [za3 hk];exact (List.getElem?_eq_some_iff.1 e1).2
      refine ⟨rfl,x.φ k,0,by rw [Nat.zero_add];exact e2,.inr (h.box_pos hk),fun j=>zad x.w (x.φ k) j,fun j hj=> ?_⟩
      obtain ⟨u,hu⟩:=(h.box k hk).cell (o:=j) (by rw [hbe];omega)
      obtain ⟨h4,h5⟩:=h3 j (by omega)
      refine ⟨by simp only [Nat.zero_add,zad,hu];rfl,h4,zav h5⟩
    | cons s up=>
      obtain ⟨i,e,c'⟩:=s
      obtain ⟨_,_,ad,m,cap,e1,e2⟩:=hL
      obtain ⟨os,xs,ho,hc',hown,hi,rfl⟩:=zaf hc
      obtain ⟨F,hLo,hF,rs,hrs,hrc⟩:=h.at r up os ho c' hc'
      rw [hown] at hLo
      have hV:VR x.w x.I (x.place r up c') (.own e xs) F:=hLo
      have hm:=zbq hV e1
      rw [e1] at hV
      refine ⟨rfl,ad.block,ad.off+i * e,e2,.inr (h.held_pos hrs hrc (List.count_pos_iff.1 (by have:=hF ad.block;have:0<F.count ad.block:=List.count_pos_iff.2 hm;omega))),fun j=>zad x.w ad.block (ad.off+i * e+j),fun j hj=> ?_⟩
      obtain ⟨h4,h5⟩:=h3 j (by omega)
      have hpl:x.place r ((i,e,c')::up) j=zad x.w ad.block (ad.off+i * e+j):=by simp only [Cx.place,e1]
      rw [hpl] at h4
      refine ⟨?_,h4,zav h5⟩
      cases hV with
      | own _ _ _ _ vs Fs hs he hz hl hb hcs hf hr=>
        have hlen:=ze6 hz hi
        have:=hcs _ (zca hi (show j<e by omega))
        simp only [<- Nat.add_assoc] at this
        simp only [zad,this];rfl
   ·cases hv
 | _=>exact leafcase hv
theorem zg7 (h:SR B x FV FC FX) (φ':Nat->Nat) (tm':Nat->Value) (st':St):∀ (vs:List V) (vals:Nat->Value) {xs},(∀ i,i<vs.length->Pend x (vals i) (vs.getD i .gone) fun _=>[])->x.st.viewsAll vs=some xs->
 xs.length=vs.length/\∀ i,i<vs.length->Pend ⟨x.w,zd7 x FV FC FX,φ',tm',st'⟩ (vals i) (xs.getD i .gone) fun _=>[]
 | [],vals,xs,_,hv=>by cases hv;exact ⟨rfl,fun i hi=>by simp at hi⟩
 | v::vs,vals,xs,hp,hv=>by
   simp only [St.viewsAll] at hv
   split at hv
   ·rename_i y hy
    simp only [Option.map_eq_some_iff] at hv
    obtain ⟨ys,h1,rfl⟩:=hv
    obtain ⟨h2,h3⟩:=zg7 h φ' tm' st' vs (fun i=>vals (i+1)) (fun i hi=>hp (i+1) (by simpa using hi)) h1
    refine ⟨by simp [h2],fun i hi=> ?_⟩
    cases i with
    | zero=>exact zz3 h (hp 0 (by simp)) hy φ' tm' st'
    | succ i=>simpa using h3 i (by simpa using hi)
   ·cases hv
theorem zdv:∀ (xs:List V),V.freshL xs=xs.all V.fresh
 | []=>rfl
 | x::xs=>by simp [V.freshL,zdv xs]
theorem ziv {v:V} (h:v.fresh=true):∀ c,c<v.cells.length->(v.cells.getD c .gone).fresh=true:=by
 have one:∀ (u:V),u.fresh=true->∀ z∈u.cells1,z.fresh=true:=by
  intro u hu z hz
  cases u with
  | agg cs=>
    simp only [V.fresh,zdv,List.all_eq_true] at hu
    exact hu z hz
  | _=>simp only [V.cells1,List.mem_singleton] at hz;subst hz;exact hu
 intro c hc
 rw [za3 hc]
 have hm:=List.getElem_mem hc
 generalize v.cells[c]=z at hm
 cases v with
 | agg cs=>exact one _ h z hm
 | tup vs=>
   simp only [V.fresh,zdv,List.all_eq_true] at h
   simp only [V.cells,List.mem_flatMap] at hm
   obtain ⟨u,hu,hz⟩:=hm
   exact one u (h u hu) z hz
 | _=>exact one _ h z hm
theorem VR.refresh {w:World} {I I':Nat->Prop}:∀ {v x F},VR w I v x F->x.fresh=true->VR w I' v x F:=by
 intro v x F h
 induction h with
 | int k n=>intro _;exact .int k n
 | bool b=>intro _;exact .bool b
 | str s=>intro _;exact .str s
 | imm0 e a cap=>intro _;exact .imm0 e a cap
 | imm a cap xs e vs hs hIa he hl hz hc hf hr ih=>
   intro hx
   cases xs with
   | nil=>exact .imm0 e (some a) cap
   | cons y ys=>cases hx
 | own0 e=>intro _;exact .own0 e
 | own a cap e xs vs Fs hs he hz hl hb hc hf hr ih=>
   intro hx
   simp only [V.fresh,zdv,List.all_eq_true] at hx
   refine .own a cap e xs vs Fs hs he hz hl hb hc hf fun i j hi hj=>ih i j hi hj ?_
   have h1:=hx _ (List.getElem_mem hi)
   have h2:=ze6 hz hi
   rw [<- za3 hi .gone] at h1
   exact ziv h1 j (by omega)
 | agg cs vs Fs hl hr ih=>
   intro hx
   simp only [V.fresh,zdv,List.all_eq_true] at hx
   exact .agg cs vs Fs hl fun i hi=>ih i hi (hx _ (by rw [za3 hi];exact List.getElem_mem hi))
 | pnil=>intro hx;cases hx
 | clo f caps conts hl bs hp vs hc hr ih=>intro hx;cases hx
 | gone v hv=>intro hx;cases hx
theorem zkk {z:V} (h:z.fresh=true):z.mark=false/\z ≠ .gone:=by
 cases z <;> first|(cases h;done)|(refine ⟨rfl,fun h0=> ?_⟩;cases h0)
theorem yaq {n:Nat} {F:Nat->List Nat} {b:Nat} (h:0<tot n F b):∃ i,i<n/\b∈F i:=
 Classical.byContradiction fun hn=>by
  have:tot n F b=0:=zb9 fun i hi hm=>hn ⟨i,hi,hm⟩
  omega
theorem SR.heldlt (h:SR B x FV FC []) {b:Nat} (hb:0<zar x.st x.φ FV FC [] b):b<x.w.heap.size:=by
 by_cases h1:0<tot x.st.vars.length (fun i=>cat (x.st.vars.getD i .gone).cells.length (FV i)) b
 ·obtain ⟨i,hi,hm⟩:=yaq h1
  obtain ⟨c,hc,hm⟩:=mem_cat.1 hm
  exact h.lt (r:=.var i) (zbo hi) hc hm
 ·have h2:0<tot x.st.boxes.length (fun k=>x.φ k::cat (x.st.boxes.getD k []).length (FC k)) b:=by
   unfold zar at hb;simp only [List.count_nil] at hb;omega
  obtain ⟨k,hk,hm⟩:=yaq h2
  rcases List.mem_cons.1 hm with rfl|hm
  ·exact h.box_lt hk
  ·obtain ⟨c,hc,hm⟩:=mem_cat.1 hm
   exact h.lt (r:=.box k) (zbl hk) hc hm
theorem look {R:zan} (hR:zwx P R B) (h:SR B x FV FC []) (ht:Tied B ts n x a) {o:Oper} {f:FuncId} {vals:Array Value} {xs:List V} {r:V}
 (hl:vals.size=xs.length) (hp:∀ i,i<xs.length->Pend ⟨x.w,zd7 x FV FC [],x.φ,fun i=>vals.getD i undef,⟨xs,[]⟩⟩ (vals.getD i undef) (xs.getD i .gone) fun _=>[])
 (hrun:R f xs []=some (r,[])) (hfr:r.fresh=true)
 (hdoes:zwc P f=true->∀ K:Value->World->Prop,Calls P f vals x.w (fun | .returned v,w'=>K v w'|_,_=>False)->zc6 P o a x.w K):zc6 P o a x.w (Out B n ts a x.st r):=by
 have hcal:SR ⟨x.w,fun _=>False,zd7 x FV FC [],0,x.φ,0,fun _=>none⟩ ⟨x.w,zd7 x FV FC [],x.φ,fun i=>vals.getD i undef,⟨xs,[]⟩⟩ (fun _ _=>[]) (fun _ _=>[]) []:=by
  have h0:∀ b,zar ⟨xs,[]⟩ x.φ (fun _ _=>[]) (fun _ _=>[]) [] b=0:=by
   intro b
   unfold zar
   have:tot xs.length (fun i=>cat (xs.getD i .gone).cells.length fun _=>([]:List Nat)) b=0:=zb9 fun i _ hm=>by rw [zb6] at hm;cases hm
   simp only [this];simp [tot]
  refine ⟨fun i hi=>(hp i hi).shape,fun i hi c hc=>(hp i hi).cells c hc,fun k hk=>by simp at hk,fun k hk=>by simp at hk,fun k hk=>by simp at hk,fun b=>by
   show zar ⟨xs,[]⟩ _ _ _ _ b<=1;rw [h0 b];omega,fun b _=>h0 b,fun b hb=> ?_,fun _ _ _=>rfl,.refl _,fun b hb=> ?_,fun _ h=>h,fun _ h=>.inl h⟩
  ·rcases hb with hb|hb
   ·exact h.ilt b hb
   ·exact h.heldlt hb
  ·have hb':0<zar ⟨xs,[]⟩ x.φ (fun _ _=>[]) (fun _ _=>[]) [] b:=hb
   rw [h0 b] at hb';omega
 obtain ⟨J,hR,hJ⟩:=hR
 obtain ⟨hf,hcallp,_⟩:=hR f xs [] r [] hrun
 have hjx:=J.stable x.w x.w x.I (zd7 x FV FC []) (hJ _ _ _ _ h) (fun _ _=>rfl) (.refl _) (fun b hb=>.inl hb)
 have hcall:=hcallp (by simp)
 refine hdoes hf _ (Calls.mono (hcall x.w (fun _=>False) (zd7 x FV FC []) vals x.φ _ _ hl hcal (fun _ _ h=>h) hjx) fun e w' hh=> ?_)
 cases e with
 | panicked c=>exact hh.elim
 | outgrown=>exact hh.elim
 | returned v=>
   obtain ⟨I',φ',FV',FC',hφ,hsr⟩:=hh
   have hcount:∀ b,(cat r.cells.length (FV' 0)).count b=zar ⟨[r],[]⟩ φ' FV' FC' [] b:=by
    intro b;unfold zar;simp [tot]
   have hnew:∀ b,0<(cat r.cells.length (FV' 0)).count b->x.w.heap.size<=b:=by
    intro b hb
    rw [hcount b] at hb
    rcases hsr.held b hb with h1|h1
    ·exact h1.elim
    ·exact h1
   have hA:=h.away (fun _=>False) (fun _ _ h=>h.elim) (w':=w') (I':=x.I) (FX':=cat r.cells.length (FV' 0))
    (fun b hb _ _=>hsr.keep b hb (fun h=>h)) (fun _ _ h=>h.elim) hsr.gr (fun _ h=>h) (fun b hb=>.inl hb) (fun b hb=>Nat.lt_of_lt_of_le (h.ilt b hb) hsr.size)
    (fun b hb=>by
     by_cases h0:0<(cat r.cells.length (FV' 0)).count b
     ·have:=hnew b h0;have:=h.ilt b hb;omega
     ·omega)
    (fun b hb=>by
     by_cases h0:0<(cat r.cells.length (FV' 0)).count b
     ·have:=hnew b h0;omega
     ·omega)
    (fun b _=>by
     rw [hcount b];exact hsr.one b)
   refine ⟨⟨w',x.I,x.φ,x.tm,x.st⟩,FV,FC,_,FV' 0,rfl,rfl,hA,⟨ht.len,ht.tie,ht.size,ht.defers,ht.nbx,ht.phi,ht.nk,ht.kp⟩,⟨hsr.shape 0 (by simp),fun c hc=> ?_⟩,fun b=>rfl⟩
   have hL:Cx.LR1 ⟨w',I',φ',fun _=>v,⟨[r],[]⟩⟩ (zac v r c) (r.cells.getD c .gone) (FV' 0 c):=hsr.vars 0 (by simp) c hc
   have hfc:=ziv hfr c hc
   obtain ⟨q1,q2⟩:=zkk hfc
   exact za8 ((zbs hL q1 q2).refresh hfc) (zbp hL)
theorem yiv {R:zan} (hR:zwx P R B) (h:SR B x FV FC []) (ht:Tied B ts n x a) {o:Oper} {f:FuncId} {argsA:Array Operand} {ats:Array TypeId} {args:List Opnd}
 (ho:o.op=.call { callee:=.value (.func f),args:=argsA,argTypes:=ats }) (hargs:zcb ts argsA.toList args=true)
 {vs xs:List V} {r:V} (hr:x.st.rds args=some vs) (hv:x.st.viewsAll vs=some xs) (hrun:R f xs []=some (r,[])) (hfr:r.fresh=true):zc6 P o a x.w (Out B n ts a x.st r):=by
 obtain ⟨k1,k2⟩:=zk3 h ht hargs hr
 obtain ⟨j1,j2⟩:=zg7 h x.φ (fun i=>(argsA.map a.eval).getD i undef) ⟨xs,[]⟩ vs (fun i=>(argsA.map a.eval).getD i undef) (fun i hi=>by
  have:=k2 i (by omega)
  rw [<- Array.toList_map,zbb] at this;exact this) hv
 exact look hR h ht (by simp;rw [j1,k1];simp) (fun i hi=>j2 i (by omega)) hrun hfr fun hf K hK=>zjy ho hf hK
theorem ycm {o:Oper} {f:FuncId} {fy:Operand} {argsA:Array Operand} {ats:Array TypeId} {caps:Array Value} (ho:o.op=.call { callee:=.value fy,args:=argsA,argTypes:=ats }) (hv:a.eval fy=.func (.func f) #[] caps) (hf:zwc P f=true) {w:World} {K:Value->World->Prop}
 (h:Calls P f (argsA.map a.eval++caps) w (fun | .returned v,w'=>K v w'|_,_=>False)):zc6 P o a w K:=by
 unfold zwc at hf
 cases hfn:P.funcs[f]? with
 | none=>rw [hfn] at hf;cases hf
 | some fn=>
   rw [hfn] at hf
   simp only [Bool.and_eq_true,Bool.not_eq_true'] at hf
   have hb:fn.body≠none:=by intro hb;rw [hb] at hf;cases hf.1
   have hn : fn.name ≠ "runtime.NumGoroutine" := by intro hn; rw [hn] at hf; simp at hf
   have hrun:(execOp a.eval o).run P w=.ok (.enter f (argsA.map a.eval++caps)) w:=by
    simp [execOp,ho,resolve,hv,Deferred.ofValue,invoke,callFunc,hfn,hn,hb]
   unfold zc6 Oper.wp
   rw [hrun]
   refine Calls.mono h fun e w' hh=> ?_
   cases e with
   | returned v=>exact ⟨v,rfl,hh⟩
   | panicked c=>exact hh.elim
   | outgrown=>exact hh.elim
theorem ykg {R:zan} (hR:zwx P R B) (h:SR B x FV FC []) (ht:Tied B ts n x a) {o:Oper} {fy:Operand} {ofy:Opnd} {argsA:Array Operand} {ats:Array TypeId} {args:List Opnd}
 (ho:o.op=.call { callee:=.value fy,args:=argsA,argTypes:=ats }) (hy:za1 ts fy ofy=true) (hargs:zcb ts argsA.toList args=true)
 {fv:V} {f:FuncId} {conts vs xs:List V} {r:V} (hfv:x.st.rd ofy=some fv) (hvf:x.st.view fv=some (.clo f conts)) (hr:x.st.rds args=some vs) (hv:x.st.viewsAll vs=some xs) (hall:conts.all V.okE=true)
 (hrun:R f (xs++conts.map fun c=>.eptr c.cells 0) []=some (r,[])) (hfr:r.fresh=true):zc6 P o a x.w (Out B n ts a x.st r):=by
 obtain ⟨k1,k2⟩:=zk3 h ht hargs hr
 have hclo:=zz3 h (zaq h ht hy hfv) hvf x.φ x.tm x.st
 have hV:VR x.w (zd7 x FV FC []) (a.eval fy) (.clo f conts) []:=hclo.cells 0 (by simp [V.cells])
 generalize hg:a.eval fy=fval at hV
 cases hV with
 | clo _ caps _ hl bs hp vs' hc hrr=>
   obtain ⟨j1,j2⟩:=zg7 h x.φ (fun i=>(argsA.map a.eval++caps).getD i undef) ⟨xs++conts.map fun c=>.eptr c.cells 0,[]⟩ vs (fun i=>(argsA.map a.eval).getD i undef) (fun i hi=>by
    have:=k2 i (by omega)
    rw [<- Array.toList_map,zbb] at this;exact this) hv
   have hsz:(argsA.map a.eval).size=xs.length:=by simp;rw [j1,k1];simp
   refine look hR h ht (vals:=argsA.map a.eval++caps) (by simp at hsz;simp [hl,hsz]) (fun i hi=> ?_) hrun hfr fun hf K hK=>ycm ho hg hf hK
   by_cases hlt:i<xs.length
   ·have e1:(argsA.map a.eval++caps).getD i undef=(argsA.map a.eval).getD i undef:=by
     simp only [Array.getD_eq_getD_getElem?]
     rw [Array.getElem?_append_left (by omega)]
    have e2:(xs++conts.map fun c=>V.eptr c.cells 0).getD i .gone=xs.getD i .gone:=by
     simp only [List.getD];rw [List.getElem?_append_left hlt]
    rw [e1,e2]
    exact j2 i (by omega)
   ·have hk:i - xs.length<conts.length:=by simp at hi;omega
    have e1:(argsA.map a.eval++caps).getD i undef=caps.getD (i - xs.length) undef:=by
     simp only [Array.getD_eq_getD_getElem?]
     rw [Array.getElem?_append_right (by omega),hsz]
    have e2:(xs++conts.map fun c=>V.eptr c.cells 0).getD i .gone=.eptr (conts.getD (i - xs.length) .gone).cells 0:=by
     simp only [List.getD];rw [List.getElem?_append_right (by omega)]
     rw [List.getElem?_map,List.getElem?_eq_getElem hk];rfl
    rw [e1,e2]
    refine Pend.leaf ⟨rfl,bs (i - xs.length),0,(hp _ hk).1,(hp _ hk).2,fun j=>vs' (i - xs.length) j,fun j hj=>⟨by rw [Nat.zero_add];exact hc _ j hk hj,hrr _ j hk hj,?_⟩⟩
    have hok:=(List.all_eq_true.1 hall) _ (List.getElem_mem hk)
    exact zeb (xs:=[conts[i - xs.length]]) (i:=0) (j:=j) (e:=(conts.getD (i - xs.length) .gone).cells.length) (fun z hz=>by
     have:z=conts[i - xs.length]:=by simpa using hz
     subst this;exact hok) (fun z hz=>by
     have:z=conts[i - xs.length]:=by simpa using hz
     subst this;rw [za3 hk]) (by simp) hj |> fun h=>by
      unfold elt at h;rw [za3 hk];exact h
end Go.Pm
namespace Go.Pm
variable {P:Program} {B:Base} {x:Cx} {FV FC:Nat->Nat->List Nat} {FX:List Nat} {a:Act} {ts:List (Option Nat)} {n:Nat}
def SameP (s s':St):Prop:=∀ i v c,zac v (s'.vars.getD i .gone) c=zac v (s.vars.getD i .gone) c
theorem SameP.place {s s':St} (g:SameP s s') (w:World) (I I':Nat->Prop) (φ:Nat->Nat) (tm:Nat->Value) (r:Root):∀ (up:List zbv) (c:Nat),Cx.place ⟨w,I',φ,tm,s'⟩ r up c=Cx.place ⟨w,I,φ,tm,s⟩ r up c
 | [],c=>by
   cases r with
   | var i=>exact g i (tm i) c
   | box k=>rfl
 | (i,e,c')::up,c=>by
   simp only [Cx.place,SameP.place g w I I' φ tm r up c']
theorem SameP.refl (s:St):SameP s s:=fun _ _ _=>rfl
theorem SameP.trans {s s' s'':St} (g:SameP s s') (g':SameP s' s''):SameP s s'':=fun i v c=>(g' i v c).trans (g i v c)
theorem yi5 (h:SR B x FV FC FX) {r:Root} {rs:List V} {c0 d:Nat} {y0:V} (hr:x.st.root r=some rs) (hy:y0.leaf=true):SameP x.st (x.st.turn r c0 y0 d):=by
 have hst:=zbf r c0 d
 have hvr:∀ i,r=.var i->i<x.st.vars.length/\rs=(x.st.vars.getD i .gone).cells:=by
  intro i e;subst e
  rcases za6 hr with ⟨j,e,hj,h1⟩|⟨k,e,_⟩
  ·cases e;exact ⟨hj,h1⟩
  ·cases e
 have hsetleaf:∀ i,r=.var i->∀ y∈(x.st.vars.getD i .gone).cells.set c0 y0,y.leaf=true:=by
  intro i e y hy'
  rcases List.mem_or_eq_of_mem_set hy' with h1|h1
  ·exact h.leafs (hvr i e).1 y h1
  ·subst h1;exact hy
 intro i v c
 by_cases hi:i<x.st.vars.length
 ·rw [zcx _ _ _ _ _ hi,zb3 hst]
  split
  ·rename_i e;exact zf6 (by simp) (hsetleaf i e) _ _
  ·rfl
 ·rw [zai (by rw [zaw];exact hi),zai hi]
theorem SR.give (h:SR B x FV FC FX) {r:Root} {c:Nat} {up:List zbv} {cs:List V} (hcs:x.st.cont r up=some cs) (hlt:c<cs.length)
 {y:V} {G FX':List Nat} {st':St} (hp:x.st.put r c up y=some st') (hy:y.leaf=true) (hv:VR x.w x.I (x.place r up c) y G) (hcnt:∀ b,G.count b+FX'.count b<=FX.count b):
 ∃ FV' FC',SR B ⟨x.w,x.I,x.φ,x.tm,st'.kill r (rootCell c up) up.length⟩ FV' FC' FX'/\SameP x.st (st'.kill r (rootCell c up) up.length)/\(st'.kill r (rootCell c up) up.length).vars.length=x.st.vars.length/\(st'.kill r (rootCell c up) up.length).boxes.length=x.st.boxes.length:=by
 obtain ⟨F,hL,hF,hput⟩:=h.inner r up cs hcs c hlt
 obtain ⟨rs,y0,G0,hrs,hrc,h3,h4,h5,h6,h7,h8⟩:=hput x.w x.I y G st' hp hy hv (fun _ _ _=>rfl) (fun _ h=>h)
 have hsim:=h7 0 trivial
 simp only [Nat.add_zero] at hsim
 have hk:=zdg (r:=r) (c0:=rootCell c up) (d:=up.length) (zbm h5)
 have hst:st'.kill r (rootCell c up) up.length=x.st.turn r (rootCell c up) y0 up.length:=by rw [h3];simp only [St.turn,hrs,Option.getD_some]
 have hvar:∀ i,r=.var i->(∃ e xs,rs.getD (rootCell c up) .gone=.own e xs)\/(x.st.vars.getD i .gone=.gone->zbk (x.tm i) y0):=by
  intro i e
  cases up with
  | cons s up=>
    left
    obtain ⟨rs',hrs',_,ho⟩:=zig (s::up) cs c hcs hlt (fun e=>by cases e)
    rw [hrs] at hrs'
    cases hrs'
    exact ho
  | nil=>
    right
    intro hvg
    have hrv:x.rv r (rootCell c [])=x.tm i:=by
     subst e
     show zac (x.tm i) (x.st.vars.getD i .gone) c=x.tm i
     rw [hvg];rfl
    rw [hrv] at h5
    exact zik h5 h4
 have hRF:=fun b=>zek (FX:=FX) (FV:=FV) (FC:=FC) r rs hrs _ hrc b
 rw [hst]
 have hmarks:=h.marks hrs hrc h4 hk hvar hsim (fun _ h=>h) (fun _ _=>rfl) (fun _ _ _ _ _ _ _ _=>rfl) (fun _ _ _ _=>rfl) (fun _ _ _ _ _ _ _ _ _ _ _ _ _ _ _ _ _=>rfl)
 refine ⟨zf2 FV r (rootCell c up) G0,zem FC r (rootCell c up) G0,?_,yi5 h hrs h4,zaw _ _ _ _ _,zao _ _ _ _ _⟩
 refine h.turn (FX':=FX') (G0:=G0) hrs hrc h4 hk hvar ?_ ?_ (fun k e c hc=>rfl) ?_ (fun b hb _ _=>rfl) (.refl _) (fun _ h=>h) ?_ h.ilt ?_ ?_ ?_ ?_
 ·have:x.nrv x.w r (rootCell c up)=x.rv r (rootCell c up):=by cases r <;> rfl
  rw [this]
  exact za8 h5 h4
 ·intro k e hm
  rw [zbm h5] at hm;cases hm
 ·intro k e;subst e
  rcases za6 hrs with ⟨_,e,_⟩|⟨j,e,hj,h1⟩
  ·cases e
  ·cases e;rw [h1];exact h.box k hj
 ·intro b hb
  exact .inl hb
 ·intro b hb
  have e1:=hcnt b;have e2:=h6 b;have e4:=hRF b
  have e6:=h.apart b hb
  omega
 ·intro b _
  have e1:=hcnt b;have e2:=h6 b;omega
 ·intro b hb
  have e1:=hcnt b;have e2:=h6 b;have e3:=h.one b;have e4:=hRF b;omega
 ·exact hmarks
theorem SR.away_place (h:SR B x FV FC FX) {w':World} (hw:∀ b,b<x.w.heap.size->FX.count b=0->w'.heap[b]? =x.w.heap[b]?) (I':Nat->Prop):
 ∀ (up:List zbv) (r:Root) (cs:List V),x.st.cont r up=some cs->∀ c,Cx.place ⟨w',I',x.φ,x.tm,x.st⟩ r up c=x.place r up c:=by
 have hfree:∀ {r rs c b},x.st.root r=some rs->c<rs.length->b∈RF FV FC r c->b<x.w.heap.size/\FX.count b=0:=by
  intro r rs c b hr hc hb
  have e3:0<(RF FV FC r c).count b:=List.count_pos_iff.2 hb
  refine ⟨h.lt hr hc hb,?_⟩
  have e1:=zek (FX:=FX) (FV:=FV) (FC:=FC) r rs hr c hc b
  have e2:=h.one b
  omega
 have hboxw:∀ k,k<x.st.boxes.length->w'.heap[x.φ k]? =x.w.heap[x.φ k]? :=fun k hk=>hw _ (h.box_lt hk) (by
  have e1:=h.one (x.φ k)
  unfold zar at e1
  have e':=zat hk (fun k=>x.φ k::cat (x.st.boxes.getD k []).length (FC k)) (x.φ k)
  simp only [List.count_cons,beq_self_eq_true,if_true] at e'
  omega)
 intro up
 induction up with
 | nil=>
   intro r cs hcs c
   rcases za6 hcs with ⟨i,rfl,hi,rfl⟩|⟨k,rfl,hk,rfl⟩
   ·rfl
   ·show zad w' (x.φ k) c=zad x.w (x.φ k) c
    simp only [zad,World.cell?,hboxw k hk]
 | cons s up ih=>
   obtain ⟨i,e,c'⟩:=s
   intro r cs hcs c
   obtain ⟨os,xs,ho,hc',hown,hi,rfl⟩:=zaf hcs
   simp only [Cx.place,ih r os ho c']
   cases hp:x.place r up c' with
   | slice ad m cap=>
     cases ad with
     | none=>rfl
     | some ad=>
       obtain ⟨F,hL,hFF,rs,hrs,hrc⟩:=h.at r up os ho c' hc'
       rw [hown] at hL
       have hm:=zbq (show VR x.w x.I _ (.own e xs) F from hL) hp
       have hm2:ad.block∈RF FV FC r (rootCell c' up):=List.count_pos_iff.1 (by have:=hFF ad.block;have:0<F.count ad.block:=List.count_pos_iff.2 hm;omega)
       obtain ⟨h1,h2⟩:=hfree hrs hrc hm2
       simp only [zad,World.cell?,hw _ h1 h2]
   | _=>rfl
theorem ze5 {s:St} {z:V} {p:V×St} (h:s.lendLeaf z=some p):s.takeLeaf z=some p:=by
 cases z with
 | hd e r c up lo hi=>
   simp only [St.lendLeaf] at h
   simp only [St.takeLeaf]
   split at h
   ·rename_i e' xs hget
    split at h
    ·rename_i hc
     obtain ⟨rfl,rfl,rfl⟩:=hc
     simp only [hget,Nat.le_refl,if_true,List.take_length,List.drop_zero]
     exact h
    ·cases h
   ·cases h
 | _=>exact h
theorem zfr:∀ {zs:List V} {s:St} {p:List V×St},s.lends zs=some p->s.takes zs=some p
 | [],s,p,h=>h
 | z::zs,s,p,h=>by
   simp only [St.lends] at h
   simp only [St.takes]
   split at h
   ·rename_i y s1 h1
    rw [ze5 h1]
    simp only [Option.map_eq_some_iff] at h ⊢
    obtain ⟨q,h2,h3⟩:=h
    exact ⟨q,zfr h2,h3⟩
   ·cases h
theorem zys {s:St} {v:V} {p:V×St} (h:s.lend v=some p):s.take v=some p:=by
 cases v with
 | agg cs=>
   simp only [St.lend,Option.map_eq_some_iff] at h
   simp only [St.take,Option.map_eq_some_iff]
   obtain ⟨q,h2,h3⟩:=h
   exact ⟨q,zfr h2,h3⟩
 | _=>
   simp only [St.lend] at h
   simp only [St.take]
   exact ze5 h
def yvk (x0:Cx) (I:Nat->Prop) (s:St) (vals:Nat->Value) (zs:List V):Prop:=
 ∀ i e r c up lo hi,i<zs.length->zs.getD i .gone=.hd e r c up lo hi->Cx.place ⟨x0.w,I,x0.φ,x0.tm,s⟩ r up c=vals i
theorem zw2 {w I h v e xs F} (hV:VR w I h (.own e xs) F) (hs:zsc e h v 0 xs.length):v=h:=by
 obtain ⟨_,h1,_⟩:=hs
 cases hV with
 | own0=>exact h1 rfl _ _ _ rfl rfl
 | own a cap e xs vs Fs=>exact h1 rfl _ _ _ rfl rfl
theorem zo0 {I:Nat->Prop} {s s1:St} (h:SR B ⟨x.w,I,x.φ,x.tm,s⟩ FV FC FX) (g:Gho x.st s) {v:Value} {z y:V} (hL:x.LR1 v z []) (hl:s.lendLeaf z=some (y,s1)):
 ∀ e r c up lo hi,z=.hd e r c up lo hi->Cx.place ⟨x.w,I,x.φ,x.tm,s⟩ r up c=v:=by
 intro e r c up lo hi hz
 subst hz
 simp only [St.lendLeaf] at hl
 split at hl
 ·rename_i e' xs hget
  split at hl
  ·rename_i hc
   obtain ⟨rfl,rfl,rfl⟩:=hc
   have hsub:=zuv (I:=I) g hL hget
   obtain ⟨cs,hcs,hlt,hown⟩:=zba hget
   obtain ⟨F,hLL,_⟩:=h.at r up cs hcs c hlt
   rw [hown] at hLL
   exact (zw2 (show VR x.w I _ (.own e' xs) F from hLL) hsub).symm
  ·cases hl
 ·cases hl
theorem zlo:∀ (zs:List V) (vals:Nat->Value) {I:Nat->Prop} {s:St} {FV FC:Nat->Nat->List Nat} {FX:List Nat} {ys:List V} {s1:St},SR B ⟨x.w,I,x.φ,x.tm,s⟩ FV FC FX->(∀ b,x.I b->I b)->Gho x.st s->
 (∀ c,c<zs.length->x.LR1 (vals c) (zs.getD c .gone) [])->s.lends zs=some (ys,s1)->∀ I',yvk x I' s1 vals zs
 | [],_,_,_,_,_,_,_,_,_,_,_,_,_,_=>fun i _ _ _ _ _ _ hi=>by simp at hi
 | z::zs,vals,I,s,FV,FC,FX,ys,s1,h,hI,g,hL,hl,I'=>by
   simp only [St.lends] at hl
   split at hl
   ·rename_i y s2 h1
    simp only [Option.map_eq_some_iff] at hl
    obtain ⟨⟨ys',s3⟩,h2,h3⟩:=hl
    simp only [Prod.mk.injEq] at h3
    obtain ⟨rfl,rfl⟩:=h3
    have hL0:=hL 0 (by simp)
    simp only [List.getD_cons_zero] at hL0
    have hz:=zo0 h g hL0 h1
    obtain ⟨FV',FC',G,k1,_,_,k2,_⟩:=zjj h hI g hL0 (ze5 h1)
    have ih:=zlo zs (fun i=>vals (i+1)) k1 hI k2 (fun c hc=>by have:=hL (c+1) (by simpa using hc);simpa using this) h2 I'
    have hgs:∀ r up c,Cx.place ⟨x.w,I',x.φ,x.tm,s3⟩ r up c=Cx.place ⟨x.w,I,x.φ,x.tm,s⟩ r up c:=by
     intro r up c
     have g3:Gho x.st s3:=by
      obtain ⟨_,_,_,_,_,H⟩:=zwu zci zs (fun i=>vals (i+1)) k1 hI k2 (fun c hc=>by have:=hL (c+1) (by simpa using hc);simpa using this) (by rw [<- zj0];exact zfr h2)
      exact H.gho
     rw [g3.place x.w I I' x.φ x.tm r up c,g.place x.w I I x.φ x.tm r up c]
    intro i e r c up lo hi hi' hz'
    cases i with
    | zero=>
      rw [hgs]
      exact hz e r c up lo hi (by simpa using hz')
    | succ i=>exact ih i e r c up lo hi (by simpa using hi') (by simpa using hz')
   ·cases hl
theorem SR.lessFX (h:SR B x FV FC FX) {FX':List Nat} (hle:∀ b,FX'.count b<=FX.count b):SR B x FV FC FX':=by
 have hh:∀ b,zar x.st x.φ FV FC FX' b<=zar x.st x.φ FV FC FX b:=fun b=>by unfold zar;have:=hle b;omega
 exact ⟨h.shape,h.vars,h.box,h.boxes,h.bmark,fun b=>Nat.le_trans (hh b) (h.one b),fun b hb=>by have:=h.apart b hb;have:=hh b;omega,h.ilt,h.keep,h.gr,fun b hb=>h.held b (Nat.lt_of_lt_of_le hb (hh b)),h.imm,h.new⟩
theorem ycg {z:V} (h:bnd z=true):z.leaf=true:=by cases z <;> first|rfl|(cases h;done)
theorem zok {w:World} {I:Nat->Prop} {φ:Nat->Nat} {tm:Nat->Value}:∀ (zs us:List V) (vals:Nat->Value) (G:Nat->List Nat) {s s':St} {FV FC:Nat->Nat->List Nat} {FX:List Nat},SR B ⟨w,I,φ,tm,s⟩ FV FC FX->
 (∀ i e r c up lo hi,i<zs.length->zs.getD i .gone=.hd e r c up lo hi->Cx.place ⟨w,I,φ,tm,s⟩ r up c=vals i)->
 (∀ i,i<us.length->VR w I (vals i) (us.getD i .gone) (G i)/\bnd (us.getD i .gone)=true)->
 (∀ b,tot us.length G b<=FX.count b)->s.gives zs us=some s'->
 ∃ FV' FC',SR B ⟨w,I,φ,tm,s'⟩ FV' FC' []/\SameP s s'/\s'.vars.length=s.vars.length/\s'.boxes.length=s.boxes.length
 | [],[],vals,G,s,s',FV,FC,FX,h,_,_,_,hg=>by
   simp only [St.gives,Option.some.injEq] at hg
   subst hg
   exact ⟨FV,FC,h.lessFX fun b=>by simp,.refl _,rfl,rfl⟩
 | z::zs,u::us,vals,G,s,s',FV,FC,FX,h,hpl,hv,hF,hg=>by
   have hsh:∀ b,tot (u::us).length G b=(G 0).count b+tot us.length (fun i=>G (i+1)) b:=by
    intro b
    have e:=zb5 1 us.length G b
    have e2:tot us.length (fun q=>G (1+q)) b=tot us.length (fun i=>G (i+1)) b:=zaa b fun i _=>by rw [Nat.add_comm]
    have e3:tot 1 G b=(G 0).count b:=by simp [tot]
    have e4:1+us.length=(u::us).length:=by simp;omega
    rw [e4] at e
    omega
   have hv':∀ i,i<us.length->VR w I (vals (i+1)) (us.getD i .gone) (G (i+1))/\bnd (us.getD i .gone)=true:=fun i hi=>by have:=hv (i+1) (by simpa using hi);simpa using this
   have skip:s.gives zs us=some s'->∃ FV' FC',SR B ⟨w,I,φ,tm,s'⟩ FV' FC' []/\SameP s s'/\s'.vars.length=s.vars.length/\s'.boxes.length=s.boxes.length:=by
    intro hg'
    exact zok zs us (fun i=>vals (i+1)) (fun i=>G (i+1)) h (fun i e r c up lo hi hi' hz=>hpl (i+1) e r c up lo hi (by simpa using hi') (by simpa using hz)) hv' (fun b=>by have e1:=hF b;have e2:=hsh b;omega) hg'
   cases z with
   | hd e r c up lo hi=>
     simp only [St.gives] at hg
     split at hg
     ·rename_i s1 hput
      obtain ⟨cs,hcs,hlt⟩:=zur hput
      have hp0:=hpl 0 e r c up lo hi (by simp) (by simp)
      obtain ⟨q1,q2⟩:=hv 0 (by simp)
      simp only [List.getD_cons_zero] at q1 q2
      obtain ⟨FV1,FC1,k1,k2,k3,k4⟩:=h.give (FX':=cat us.length (fun i=>G (i+1))) hcs hlt hput (ycg q2) (by rw [hp0];exact q1) (fun b=>by rw [za2];have e1:=hF b;have e2:=hsh b;omega)
      obtain ⟨FV2,FC2,j1,j0,j2,j3⟩:=zok zs us (fun i=>vals (i+1)) (fun i=>G (i+1)) k1 (fun i e2 r2 c2 up2 lo2 hi2 hi' hz=>by
       rw [k2.place w I I φ tm r2 up2 c2]
       exact hpl (i+1) e2 r2 c2 up2 lo2 hi2 (by simpa using hi') (by simpa using hz)) hv' (fun b=>by rw [za2];exact Nat.le_refl _) hg
      exact ⟨FV2,FC2,j1,k2.trans j0,j2.trans k3,j3.trans k4⟩
     ·cases hg
   | _=>exact skip hg
 | [],_::_,_,_,_,_,_,_,_,_,_,_,_,hg=>by cases hg
 | _::_,[],_,_,_,_,_,_,_,_,_,_,_,hg=>by cases hg
theorem zl7:∀ {zs:List V},zpw zs=true->∃ (r0:Root) (up0:List zbv),∀ (i e:Nat) (r:Root) (c:Nat) (up:List zbv) (lo hi:Nat),i<zs.length->zs.getD i .gone=.hd e r c up lo hi->r=r0/\up=up0
 | [],_=>⟨.var 0,[],fun i _ _ _ _ _ _ hi=>by simp at hi⟩
 | z::zs,h=>by
   have skip:(∀ e r c up lo hi,z ≠ .hd e r c up lo hi)->zpw zs=true->∃ (r0:Root) (up0:List zbv),∀ (i e:Nat) (r:Root) (c:Nat) (up:List zbv) (lo hi:Nat),i<(z::zs).length->(z::zs).getD i .gone=.hd e r c up lo hi->r=r0/\up=up0:=by
    intro hz h'
    obtain ⟨r0,up0,h0⟩:=zl7 h'
    refine ⟨r0,up0,fun i e r c up lo hi hi' hh=> ?_⟩
    cases i with
    | zero=>exact absurd (by simpa using hh) (hz e r c up lo hi)
    | succ i=>exact h0 i e r c up lo hi (by simpa using hi') (by simpa using hh)
   cases z with
   | hd e0 r0 c0 up0 lo0 hi0=>
     simp only [zpw,List.all_eq_true] at h
     refine ⟨r0,up0,fun i e r c up lo hi hi' hh=> ?_⟩
     cases i with
     | zero=>
       simp only [List.getD_cons_zero,V.hd.injEq] at hh
       exact ⟨hh.2.1.symm,hh.2.2.2.1.symm⟩
     | succ i=>
       simp only [List.getD_cons_succ] at hh
       have hi2:i<zs.length:=by simpa using hi'
       have hm:zs.getD i .gone∈zs:=by rw [za3 hi2];exact List.getElem_mem _
       have:=h _ hm
       rw [hh] at this
       simp only [Bool.and_eq_true,List.isEmpty_iff,decide_eq_true_eq] at this
       exact ⟨this.2,this.1.2.trans this.1.1.symm⟩
   | _=>exact skip (fun _ _ _ _ _ _ e=>by cases e) (by simpa [zpw] using h)
theorem zl6 {r0:Root} {up0:List zbv}:∀ {zs us:List V} {s s':St},s.gives zs us=some s'->(∀ (i e:Nat) (r:Root) (c:Nat) (up:List zbv) (lo hi:Nat),i<zs.length->zs.getD i .gone=.hd e r c up lo hi->r=r0/\up=up0)->
 (∃ (i e:Nat) (r:Root) (c:Nat) (up:List zbv) (lo hi:Nat),i<zs.length/\zs.getD i .gone=.hd e r c up lo hi)->∃ cs,s.cont r0 up0=some cs
 | [],_,_,_,_,_,⟨i,_,_,_,_,_,_,hi,_⟩=>by simp at hi
 | z::zs,[],_,_,hg,_,_=>by cases hg
 | z::zs,u::us,s,s',hg,hs,he=>by
   have skip:(∀ e r c up lo hi,z ≠ .hd e r c up lo hi)->s.gives zs us=some s'->∃ cs,s.cont r0 up0=some cs:=by
    intro hz h'
    refine zl6 h' (fun i e r c up lo hi hi' hh=>hs (i+1) e r c up lo hi (by simpa using hi') (by simpa using hh)) ?_
    obtain ⟨i,e,r,c,up,lo,hi,h1,h2⟩:=he
    cases i with
    | zero=>exact absurd (by simpa using h2) (hz e r c up lo hi)
    | succ i=>exact ⟨i,e,r,c,up,lo,hi,by simpa using h1,by simpa using h2⟩
   cases z with
   | hd e r c up lo hi=>
     obtain ⟨rfl,rfl⟩:=hs 0 e r c up lo hi (by simp) (by simp)
     simp only [St.gives] at hg
     split at hg
     ·rename_i s1 hput
      obtain ⟨cs,hcs,hlt⟩:=zur hput
      exact ⟨cs,hcs⟩
     ·cases hg
   | _=>exact skip (fun _ _ _ _ _ _ e=>by cases e) (by simpa [St.gives] using hg)
theorem zku {s s1:St} {z y:V} (h:s.lendLeaf z=some (y,s1)):z.cells=[z]/\y.cells=[y]/\∀ ds,y ≠ .agg ds:=by
 cases z with
 | hd e r c up lo hi=>
   simp only [St.lendLeaf] at h
   split at h
   ·split at h
    ·simp only [Option.map_eq_some_iff,Prod.mk.injEq] at h
     obtain ⟨_,_,rfl,_⟩:=h
     exact ⟨rfl,rfl,fun _ e=>by cases e⟩
    ·cases h
   ·cases h
 | own e xs=>
   cases xs with
   | nil=>cases h;exact ⟨rfl,rfl,fun _ e=>by cases e⟩
   | cons u us=>cases h
 | int|bool|str|imm|pnil=>cases h;exact ⟨rfl,rfl,fun _ e=>by cases e⟩
 | _=>cases h
theorem zvn {s s1:St} {v y:V} (h:s.lend v=some (y,s1)):s.lends v.cells=some (y.cells,s1)/\((∃ cs ds,v=.agg cs/\y=.agg ds)\/(v.cells=[v]/\(∀ ds,y ≠ .agg ds)/\∀ cs,v ≠ .agg cs)):=by
 cases v with
 | agg cs=>
   simp only [St.lend,Option.map_eq_some_iff,Prod.mk.injEq] at h
   obtain ⟨⟨ys,s2⟩,h2,rfl,rfl⟩:=h
   exact ⟨h2,.inl ⟨_,_,rfl,rfl⟩⟩
 | _=>
   simp only [St.lend] at h
   obtain ⟨h1,h2,h3⟩:=zku h
   refine ⟨?_,.inr ⟨h1,h3,fun _ e=>by cases e⟩⟩
   rw [h1,h2]
   simp only [St.lends,h,Option.map_some]
end Go.Pm
namespace Go.Pm
variable {P:Program} {B:Base} {x:Cx} {FV FC:Nat->Nat->List Nat} {FX:List Nat} {a:Act} {ts:List (Option Nat)} {n:Nat}
theorem zdx {val:Value} {y:V} (h:zbk val y) (hnt:∀ us,y ≠ .tup us) (hg:y ≠ .gone):zcs val y:=by
 cases y <;> first|exact h|exact absurd rfl (hnt _)|exact absurd rfl hg
theorem zgt:∀ (xs:List V) (vals:List Value) (Gs:Nat->Nat->List Nat),vals.length=xs.length->(∀ i,i<xs.length->zcs (vals.getD i undef) (xs.getD i .gone))->(∀ i,i<xs.length->∀ us,xs.getD i .gone ≠ .tup us)->
 ∃ G':Nat->List Nat,(∀ c,c<(xs.flatMap V.cells1).length->∃ i c',i<xs.length/\c'<(xs.getD i .gone).cells.length/\(xs.flatMap V.cells1).getD c .gone=(xs.getD i .gone).cells.getD c' .gone/\
  (vals.flatMap fun v=>v.cells.toList).getD c undef=zac (vals.getD i undef) (xs.getD i .gone) c'/\G' c=Gs i c')/\
   ∀ b,(cat (xs.flatMap V.cells1).length G').count b=tot xs.length (fun i=>cat (xs.getD i .gone).cells.length (Gs i)) b
 | [],vals,Gs,_,_,_=>⟨fun _=>[],fun c hc=>by simp at hc,fun b=>by simp [cat,tot]⟩
 | y::xs,[],Gs,hl,_,_=>by simp at hl
 | y::xs,u::vals,Gs,hl,hs,hnt=>by
   obtain ⟨G2,h1,h2⟩:=zgt xs vals (fun i=>Gs (i+1)) (by simpa using hl) (fun i hi=>by have:=hs (i+1) (by simpa using hi);simpa using this) (fun i hi=>by have:=hnt (i+1) (by simpa using hi);simpa using this)
   have hs0:=hs 0 (by simp)
   have hnt0:=hnt 0 (by simp)
   simp only [List.getD_cons_zero] at hs0 hnt0
   have hcells:y.cells=y.cells1:=by cases y <;> first|exact absurd rfl (hnt0 _)|rfl
   have hsz:u.cells.toList.length=y.cells1.length:=by rw [ziu hs0];simp
   refine ⟨fun c=>if c<y.cells1.length then Gs 0 c else G2 (c - y.cells1.length),fun c hc=> ?_,fun b=> ?_⟩
   ·simp only [List.flatMap_cons,List.length_append] at hc
    by_cases h0:c<y.cells1.length
    ·refine ⟨0,c,by simp,by simp only [List.getD_cons_zero];rw [hcells];exact h0,?_,?_,by simp [h0]⟩
     ·simp only [List.flatMap_cons,List.getD_cons_zero,hcells]
      simp only [List.getD,List.getElem?_append,h0,if_true]
     ·simp only [List.flatMap_cons,List.getD_cons_zero]
      have:c<u.cells.toList.length:=by omega
      have e1:(u.cells.toList++vals.flatMap fun v=>v.cells.toList).getD c undef=u.cells.toList.getD c undef:=by
       simp only [List.getD,List.getElem?_append,this,if_true]
      rw [e1]
      by_cases hag:∃ cs,y=.agg cs
      ·obtain ⟨cs,rfl⟩:=hag
       obtain ⟨b,rfl,hb2⟩:=hs0
       rfl
      ·have k1:u.cells= #[u]:=by cases y <;> first|exact absurd rfl (hnt0 _)|exact absurd ⟨_,rfl⟩ hag|exact hs0
       have k2:y.cells1=[y]:=by cases y <;> first|exact absurd ⟨_,rfl⟩ hag|rfl
       have k3:zac u y c=u:=by cases y <;> first|exact absurd rfl (hnt0 _)|exact absurd ⟨_,rfl⟩ hag|rfl
       rw [k2] at h0
       have:c=0:=by simpa using h0
       subst this
       rw [k3,k1];rfl
    ·obtain ⟨i,c',g1,g2,g3,g4,g5⟩:=h1 (c - y.cells1.length) (by omega)
     refine ⟨i+1,c',by simpa using g1,by simpa using g2,?_,?_,by simp only [if_neg h0];exact g5⟩
     ·simp only [List.flatMap_cons,List.getD_cons_succ]
      rw [<- g3]
      simp only [List.getD,List.getElem?_append]
      rw [if_neg h0]
     ·simp only [List.flatMap_cons,List.getD_cons_succ]
      rw [<- g4]
      simp only [List.getD,List.getElem?_append,hsz]
      rw [if_neg h0]
   ·simp only [List.flatMap_cons,List.length_append]
    rw [za2,<- zb5 y.cells1.length (xs.flatMap V.cells1).length]
    have e1:tot (xs.flatMap V.cells1).length (fun q=>if y.cells1.length+q<y.cells1.length then Gs 0 (y.cells1.length+q) else G2 (y.cells1.length+q - y.cells1.length)) b=tot (xs.flatMap V.cells1).length G2 b:=zaa b fun q _=>by
     rw [if_neg (by omega)];congr 2;omega
    have e2:tot y.cells1.length (fun q=>if q<y.cells1.length then Gs 0 q else G2 (q - y.cells1.length)) b=tot y.cells1.length (Gs 0) b:=zaa b fun q hq=>by rw [if_pos hq]
    have e3:=h2 b
    rw [za2] at e3
    have e4:=zb5 1 xs.length (fun i=>cat ((y::xs).getD i .gone).cells.length (Gs i)) b
    have e5:tot xs.length (fun q=>cat ((y::xs).getD (1+q) .gone).cells.length (Gs (1+q))) b=tot xs.length (fun i=>cat (xs.getD i .gone).cells.length (Gs (i+1))) b:=zaa b fun i _=>by
     rw [Nat.add_comm 1 i];simp
    have e6:tot 1 (fun i=>cat ((y::xs).getD i .gone).cells.length (Gs i)) b=tot y.cells1.length (Gs 0) b:=by simp [tot,za2,hcells]
    have e7:1+xs.length=(y::xs).length:=by simp;omega
    rw [e7] at e4
    simp only [e5,e6] at e4
    simp only [e1,e2]
    omega
theorem zhr (bs:List (List V)) (z u:V):zg8 bs z u=u\/(u=.gone/\∃ e q c lo hi ys,z=.hd e (.box q) c [] lo hi/\zg8 bs z u=z/\(bs[q]?).bind (·[c]?)=some (.own e ys)):=by
 unfold zg8
 split
 ·rename_i e q c lo hi
  split
  ·rename_i e' ys hb
   split
   ·rename_i he
    subst he
    exact .inr ⟨rfl,_,_,_,_,_,ys,rfl,rfl,hb⟩
   ·exact .inl rfl
  ·exact .inl rfl
 ·exact .inl rfl
theorem zfv (bs:List (List V)):∀ (zs us:List V),(zdk bs zs us).length=us.length
 | [],us=>by cases us <;> rfl
 | z::zs,[]=>rfl
 | z::zs,u::us=>by simp [zdk,zfv bs zs us]
theorem zkn (bs:List (List V)):∀ (zs us:List V) (c:Nat),(zdk bs zs us).getD c .gone=us.getD c .gone\/(us.getD c .gone=.gone/\c<us.length/\c<zs.length/\(zdk bs zs us).getD c .gone=zg8 bs (zs.getD c .gone) .gone)
 | [],us,c=>by cases us <;> exact .inl rfl
 | z::zs,[],c=>.inl rfl
 | z::zs,u::us,c=>by
   cases c with
   | zero=>
     simp only [zdk,List.getD_cons_zero]
     rcases zhr bs z u with h|⟨rfl,_⟩
     ·exact .inl h
     ·exact .inr ⟨rfl,by simp,by simp,rfl⟩
   | succ c=>
     simp only [zdk,List.getD_cons_succ]
     rcases zkn bs zs us c with h|⟨h1,h2,h3,h4⟩
     ·exact .inl h
     ·exact .inr ⟨h1,by simpa using h2,by simpa using h3,h4⟩
theorem zve (bs:List (List V)) (z u:V):(zbc bs z u).cells.length=u.cells.length/\(∀ v c,zac v (zbc bs z u) c=zac v u c)/\(u ≠ .gone->∀ v,zbk v u->zbk v (zbc bs z u))/\
 (u=.gone->zbc bs z u=.gone\/(∃ e q c lo hi,z=.hd e (.box q) c [] lo hi/\zbc bs z u=.hd e (.box q) c [] lo hi))/\
 ∀ c,(zbc bs z u).cells.getD c .gone=u.cells.getD c .gone\/(u.cells.getD c .gone=.gone/\c<u.cells.length/\∃ e q c' lo hi ys,z.cells.getD c .gone=.hd e (.box q) c' [] lo hi/\(zbc bs z u).cells.getD c .gone=.hd e (.box q) c' [] lo hi/\(bs[q]?).bind (·[c']?)=some (.own e ys)):=by
 have same:zbc bs z u=u->(zbc bs z u).cells.length=u.cells.length/\(∀ v c,zac v (zbc bs z u) c=zac v u c)/\(u ≠ .gone->∀ v,zbk v u->zbk v (zbc bs z u))/\
  (u=.gone->zbc bs z u=.gone\/(∃ e q c lo hi,z=.hd e (.box q) c [] lo hi/\zbc bs z u=.hd e (.box q) c [] lo hi))/\
  ∀ c,(zbc bs z u).cells.getD c .gone=u.cells.getD c .gone\/(u.cells.getD c .gone=.gone/\c<u.cells.length/\∃ e q c' lo hi ys,z.cells.getD c .gone=.hd e (.box q) c' [] lo hi/\(zbc bs z u).cells.getD c .gone=.hd e (.box q) c' [] lo hi/\(bs[q]?).bind (·[c']?)=some (.own e ys)):=by
  intro e
  rw [e]
  exact ⟨rfl,fun _ _=>rfl,fun _ _ h=>h,fun h=>.inl h,fun _=>.inl rfl⟩
 cases u with
 | agg us=>
   cases z with
   | agg zs=>
     refine ⟨zfv bs zs us,fun _ _=>rfl,fun _ v h=> ?_,fun e=>(by cases e),fun c=> ?_⟩
     ·obtain ⟨arr,h1,h2⟩:=h
      exact ⟨arr,h1,h2.trans (zfv bs zs us).symm⟩
     ·rcases zkn bs zs us c with h|⟨h1,h2,h3,h4⟩
      ·exact .inl h
      ·rcases zhr bs (zs.getD c .gone) .gone with h5|⟨_,e,q,c',lo,hi,ys,h6,h7,h8⟩
       ·left
        show (zdk bs zs us).getD c .gone=us.getD c .gone
        rw [h4,h5,h1]
       ·right
        refine ⟨h1,h2,e,q,c',lo,hi,ys,h6,?_,h8⟩
        show (zdk bs zs us).getD c .gone=_
        rw [h4,h7,h6]
   | _=>exact same rfl
 | gone=>
   by_cases hz:∀ ds,z ≠ .agg ds
   ·have hr:zbc bs z .gone=zg8 bs z .gone:=by cases z <;> first|rfl|exact absurd rfl (hz _)
    rcases zhr bs z .gone with h5|⟨_,e,q,c',lo,hi,ys,h6,h7,h8⟩
    ·exact same (hr.trans h5)
    ·have hr2:zbc bs z .gone=.hd e (.box q) c' [] lo hi:=by rw [hr,h7,h6]
     refine ⟨by rw [hr2];rfl,fun v c=>by rw [hr2];rfl,fun h=>absurd rfl h,fun _=>.inr ⟨_,_,_,_,_,h6,hr2⟩,fun c=> ?_⟩
     rw [hr2]
     cases c with
     | zero=>exact .inr ⟨rfl,by simp [V.cells],e,q,c',lo,hi,ys,by rw [h6];rfl,rfl,h8⟩
     | succ c=>left;simp [V.cells]
   ·have:∃ ds,z=.agg ds:=Classical.byContradiction fun hn=>hz fun ds e=>hn ⟨ds,e⟩
    obtain ⟨ds,rfl⟩:=this
    exact same rfl
 | _=>exact same (by cases z <;> rfl)
theorem zdh (bs:List (List V)):∀ (zs us:List V),(zeh bs zs us).length=us.length
 | [],us=>by cases us <;> rfl
 | z::zs,[]=>rfl
 | z::zs,u::us=>by simp [zeh,zdh bs zs us]
theorem zi7 (bs:List (List V)):∀ (zs us:List V) (i:Nat),i<us.length->(zeh bs zs us).getD i .gone=us.getD i .gone\/(zeh bs zs us).getD i .gone=zbc bs (zs.getD i .gone) (us.getD i .gone)
 | [],us,i,_=>by cases us <;> exact .inl rfl
 | z::zs,[],i,h=>by simp at h
 | z::zs,u::us,i,h=>by
   cases i with
   | zero=>exact .inr rfl
   | succ i=>
     simp only [zeh,List.getD_cons_succ]
     exact zi7 bs zs us i (by simpa using h)
theorem SR.remark (h:SR B x FV FC FX) (zs:List V)
 (hz:∀ i c e q c' lo hi,i<x.st.vars.length->(zs.getD i .gone).cells.getD c .gone=.hd e (.box q) c' [] lo hi->c<(x.st.vars.getD i .gone).cells.length->(x.st.vars.getD i .gone).cells.getD c .gone=.gone->
  ∀ ys,x.st.get (.box q) c' []=some (.own e ys)->zsc e (x.rv (.box q) c') (x.rv (.var i) c) lo hi)
 (hs:∀ (i e q c lo hi:Nat),i<x.st.vars.length->x.st.vars.getD i .gone=.gone->zs.getD i .gone=.hd e (.box q) c [] lo hi->(x.tm i).cells= #[x.tm i]):
 SR B ⟨x.w,x.I,x.φ,x.tm,x.st.remark zs⟩ FV FC FX:=by
 have hvl:(x.st.remark zs).vars.length=x.st.vars.length:=zdh _ _ _
 have hvar:∀ i,i<x.st.vars.length->((x.st.remark zs).vars.getD i .gone).cells.length=(x.st.vars.getD i .gone).cells.length/\(∀ v c,zac v ((x.st.remark zs).vars.getD i .gone) c=zac v (x.st.vars.getD i .gone) c)/\
  (x.st.vars.getD i .gone ≠ .gone->∀ v,zbk v (x.st.vars.getD i .gone)->zbk v ((x.st.remark zs).vars.getD i .gone))/\
  (x.st.vars.getD i .gone=.gone->(x.st.remark zs).vars.getD i .gone=.gone\/(∃ e q c lo hi,zs.getD i .gone=.hd e (.box q) c [] lo hi/\(x.st.remark zs).vars.getD i .gone=.hd e (.box q) c [] lo hi))/\
  ∀ c,((x.st.remark zs).vars.getD i .gone).cells.getD c .gone=(x.st.vars.getD i .gone).cells.getD c .gone\/((x.st.vars.getD i .gone).cells.getD c .gone=.gone/\c<(x.st.vars.getD i .gone).cells.length/\
    ∃ e q c' lo hi ys,(zs.getD i .gone).cells.getD c .gone=.hd e (.box q) c' [] lo hi/\((x.st.remark zs).vars.getD i .gone).cells.getD c .gone=.hd e (.box q) c' [] lo hi/\(x.st.boxes[q]?).bind (·[c']?)=some (.own e ys)):=by
  intro i hi
  rcases zi7 x.st.boxes zs x.st.vars i hi with h1|h1
  ·have h2:(x.st.remark zs).vars.getD i .gone=x.st.vars.getD i .gone:=h1
   rw [h2]
   exact ⟨rfl,fun _ _=>rfl,fun _ _ h=>h,fun h=>.inl h,fun _=>.inl rfl⟩
  ·have h2:(x.st.remark zs).vars.getD i .gone=zbc x.st.boxes (zs.getD i .gone) (x.st.vars.getD i .gone):=h1
   rw [h2]
   exact zve _ _ _
 have hmv:Moves x ⟨x.w,x.I,x.φ,x.tm,x.st.remark zs⟩ (fun _=>True):=by
  refine ⟨?_,?_,fun _ _=>rfl,fun _ h=>h,fun _ _=>rfl⟩
  ·intro r _ cs hcs
   rcases za6 hcs with ⟨i,rfl,hi,rfl⟩|⟨k,rfl,hk,rfl⟩
   ·refine ⟨_,zbo (by rw [hvl];exact hi),(hvar i hi).1,fun c e xs hc ho=> ?_⟩
    rcases (hvar i hi).2.2.2.2 c with h1|⟨h1,_⟩
    ·rw [h1,ho]
    ·rw [h1] at ho;cases ho
   ·exact ⟨_,hcs,rfl,fun _ _ _ _ h=>h⟩
  ·intro r _ cs hcs c hc
   rcases za6 hcs with ⟨i,rfl,hi,rfl⟩|⟨k,rfl,hk,rfl⟩
   ·exact (hvar i hi).2.1 _ _
   ·rfl
 have hheld:∀ b,zar (x.st.remark zs) x.φ FV FC FX b=zar x.st x.φ FV FC FX b:=by
  intro b
  unfold zar
  rw [hvl]
  congr 2
  exact zaa b fun i hi=>by rw [(hvar i hi).1]
 refine ⟨fun i hi=> ?_,fun i hi c hc=> ?_,h.box,fun k hk c hc=> ?_,h.bmark,fun b=>by rw [hheld];exact h.one b,fun b hb=>by rw [hheld];exact h.apart b hb,h.ilt,h.keep,h.gr,fun b hb=>h.held b (by rw [<- hheld];exact hb),h.imm,h.new⟩
 ·rw [hvl] at hi
  obtain ⟨_,_,h3,h4,_⟩:=hvar i hi
  by_cases hg:x.st.vars.getD i .gone=.gone
  ·rcases h4 hg with h5|⟨e,q,c,lo,hi',h6,h7⟩
   ·show zbk (x.tm i) ((x.st.remark zs).vars.getD i .gone)
    rw [h5];trivial
   ·show zbk (x.tm i) ((x.st.remark zs).vars.getD i .gone)
    rw [h7];exact hs i e q c lo hi' hi hg h6
  ·exact h3 hg _ (h.shape i hi)
 ·rw [hvl] at hi
  obtain ⟨h1,h2,_,_,h5⟩:=hvar i hi
  have hc':c<(x.st.vars.getD i .gone).cells.length:=by rw [<- h1];exact hc
  have hL:=h.vars i hi c hc'
  have hrv:Cx.rv ⟨x.w,x.I,x.φ,x.tm,x.st.remark zs⟩ (.var i) c=x.rv (.var i) c:=h2 _ _
  rw [hrv]
  rcases h5 c with h6|⟨h6,_,e,q,c',lo,hi',ys,h7,h8,h9⟩
  ·simp only [h6]
   exact LR1.move h hmv (LR1.lt hL) zc2 hL
  ·rw [h6] at hL
   have hF:FV i c=[]:=hL
   rw [hF]
   show Cx.LR1 _ _ (((x.st.remark zs).vars.getD i .gone).cells.getD c .gone) []
   rw [h8]
   exact ⟨rfl,ys,h9,hz i c e q c' lo hi' hi h7 hc' h6 ys h9⟩
 ·exact LR1.move h hmv (LR1.lt (h.boxes k hk c hc)) zc2 (h.boxes k hk c hc)
theorem yco {R:zan} (hR:zwx P R B) (h:SR B x FV FC []) (ht:Tied B ts n x a) {o:Oper} {f:FuncId} {argsA:Array Operand} {ats:Array TypeId} {xo ko:Opnd}
 (ho:o.op=.call { callee:=.value (.func f),args:=argsA,argTypes:=ats }) (hargs:zcb ts argsA.toList [xo,ko]=true)
 {v y t:V} {ik jk:IntKind} {im m:Int} {s1 s':St} {more:List (List V)} (hv:x.st.rd xo=some v) (hk:x.st.rd ko=some (.int ik im)) (hl:x.st.lend v=some (y,s1))
 (hrun:R f [y,.int ik im] [[.gone]]=some (.tup [.int jk m,.tup [t]],more)) (hat:zpw v.cells=true) (hlike:ztk y t=true) (hg:s1.gives v.cells t.cells=some s'):zc6 P o a x.w (Out B n ts a (s'.remark x.st.vars) (.int jk m)):=by
 have hr:x.st.rds [xo,ko]=some [v,.int ik im]:=by simp [St.rds,hv,hk]
 obtain ⟨k1,k2⟩:=zk3 h ht hargs hr
 have htake:=zys hl
 have hp:x.st.passes 0 [.own,.own] [v,.int ik im]=some ([y,.int ik im],[],s1):=by
  have ht2:s1.take (.int ik im)=some (.int ik im,s1):=rfl
  simp only [St.passes,htake,ht2,Option.map_some]
 obtain ⟨I1,FV1,FC1,FX1,G,j1,j2,j3,j4,j5,j6⟩:=zgf (x0:=x) [.own,.own] [v,.int ik im] (fun i=>(argsA.toList.map a.eval).getD i undef) 0 (I:=x.I) (s:=x.st) h (fun _ h=>h) (.refl _) (fun i hi=>k2 i (by rw [<- k1];exact hi)) hp
 have hcal:=callee (x:=⟨x.w,I1,x.φ,x.tm,s1⟩) (ys:=[y,.int ik im]) (vals:=fun i=>(argsA.toList.map a.eval).getD i undef) (vs:=[v,.int ik im]) (ws:=[]) (bs:=[]) (G:=G) (GB:=fun _ _=>[]) j2 (by simp)
  (fun i hi=>by
   right
   intro k off hv'
   have hi2:i=0\/i=1:=by simp at hi;omega
   rcases hi2 with rfl|rfl
   ·simp only [List.getD_cons_zero] at hv'
    subst hv'
    simp only [St.take,St.takeLeaf] at htake
    cases htake
   ·simp at hv')
  (fun i hi=>j5 i (by simpa using hi)) rfl (fun j hj=>by simp at hj) (fun i j k off m hi hv hj=>by simp at hj)
  (fun b=>by have q:=j3 b;simp only [List.count_nil,Nat.add_zero] at q;simp only [List.length_nil];rw [q];simp [tot])
 obtain ⟨J,hR,hJ⟩:=hR
 obtain ⟨hf,_,hlp⟩:=hR f _ _ _ _ hrun
 have hlend:=hlp (.int jk m) t rfl rfl
 have hvals:(fun i=>(argsA.map a.eval).getD i undef)=fun i=>(argsA.toList.map a.eval).getD i undef:=by
  funext i;rw [<- zbb,Array.toList_map]
 have hsz:(argsA.map a.eval).size=2:=by
  have:=k1;simp only [List.length_cons,List.length_nil,Array.length_toList] at this;simp only [Array.size_map];omega
 have hcall:=hlend x.w _ I1 (argsA.map a.eval) _ G (fun _ _=>[]) (by simpa using hsz) (by rw [hvals];exact hcal) (zhu (x:=⟨x.w,I1,x.φ,x.tm,s1⟩) (ws:=[]) j2 (fun j hj=>by simp at hj)) (hJ _ _ _ _ j2)
 refine zjy ho hf (Calls.mono hcall fun e w' hh=> ?_)
 cases e with
 | panicked c=>exact hh.elim
 | outgrown=>exact hh.elim
 | returned v'=>
   obtain ⟨I',φ',FV',FC',hsr⟩:=hh
   have hval0:(argsA.map a.eval).getD 0 undef=(argsA.toList.map a.eval).getD 0 undef:=congrFun hvals 0
   rw [hval0] at hsr
   generalize hV0:(argsA.toList.map a.eval).getD 0 undef=val0 at hsr
   have hpv:Pend x val0 v fun _=>[]:=by have:=k2 0 (by rw [<- k1];simp);rw [hV0] at this;exact this
   have hA:=zlk (x:=⟨x.w,I1,x.φ,x.tm,s1⟩) j2 (ws:=[]) (nbs:=0) (bs':=[]) (Nat.le_refl _) (fun j hj=>by simp at hj) (fun j hj=>by simp at hj) hsr
   have hback:zgi (.tup [.int jk m,t]) [] 0 φ' (FV' 0) FC'=cat (V.tup [.int jk m,t]).cells.length (FV' 0):=by simp [zgi,cat]
   rw [List.length_nil,hback] at hA
   obtain ⟨hlc,hform⟩:=zvn hl
   have hform2:t.cells1=t.cells/\t.cells.all bnd=true/\t.cells.length=y.cells.length/\((∃ cs ds us,v=.agg cs/\y=.agg ds/\t=.agg us)\/(v.cells=[v]/\(∀ cs,v ≠ .agg cs)/\t.cells=[t]/\∀ us,t ≠ .agg us)):=by
    cases y with
    | agg ds=>
      cases t with
      | agg us=>
        simp only [ztk,Bool.and_eq_true,beq_iff_eq] at hlike
        refine ⟨rfl,hlike.2,hlike.1.symm,?_⟩
        rcases hform with ⟨cs,ds',rfl,h2⟩|⟨h1,h2,h3⟩
        ·exact .inl ⟨_,_,_,rfl,rfl,rfl⟩
        ·exact absurd rfl (h2 _)
      | _=>simp [ztk] at hlike
    | own e1 xs1=>
      cases t with
      | own e2 xs2=>
        refine ⟨rfl,rfl,rfl,?_⟩
        rcases hform with ⟨cs,ds',rfl,h2⟩|⟨h1,h2,h3⟩
        ·cases h2
        ·exact .inr ⟨h1,h3,rfl,fun _ e=>by cases e⟩
      | _=>simp [ztk] at hlike
    | _=>cases t <;> simp [ztk] at hlike
   obtain ⟨hc1,hbnd,hlen,hcase⟩:=hform2
   have hcells:(V.tup [.int jk m,t]).cells=.int jk m::t.cells:=by simp [V.cells,V.cells1] at hc1 ⊢;exact hc1
   have hshape:zbk (.tuple #[v',val0]) (.tup [.int jk m,t]):=hsr.shape 0 (by simp)
   obtain ⟨aa,haa,hasz,hsh⟩:=hshape
   cases haa
   have hs0:v'.cells= #[v']:=hsh 0 (by simp)
   have hs1:zcs val0 t:=hsh 1 (by simp)
   have hpc:∀ c,zac (.tuple #[v',val0]) (.tup [.int jk m,t]) c=(v'::val0.cells.toList).getD c undef:=by
    intro c
    simp [zac,zdl,hs0]
   have hv':v'=.int jk m:=by
    have q:=hsr.vars 0 (by simp) 0 (by show 0<(V.tup [.int jk m,t]).cells.length;rw [hcells];simp)
    have q2:Cx.LR1 ⟨w',I',φ',fun _=>.tuple #[v',val0],⟨[.tup [.int jk m,t]],[]⟩⟩ (zac (.tuple #[v',val0]) (.tup [.int jk m,t]) 0) ((V.tup [.int jk m,t]).cells.getD 0 .gone) (FV' 0 0):=q
    rw [hpc,hcells] at q2
    simp only [List.getD_cons_zero] at q2
    have q3:VR w' I' v' (.int jk m) (FV' 0 0):=q2
    generalize FV' 0 0=F at q3
    cases q3;rfl
   have hcell:∀ i,i<t.cells.length->val0.cells.toList.getD i undef=zac val0 v i:=by
    intro i hi
    rcases hcase with ⟨cs,ds,us,rfl,rfl,rfl⟩|⟨h1,h2,h3,h4⟩
    ·obtain ⟨arr,rfl,_⟩:=hs1
     rfl
    ·have hs2:val0.cells= #[val0]:=by
      cases t <;> first|exact hs1|exact absurd rfl (h4 _)
     have hi0:i=0:=by rw [h3] at hi;simpa using hi
     subst hi0
     rw [hs2]
     cases v <;> first|rfl|exact absurd rfl (h2 _)|(simp [St.lend,St.lendLeaf,St.takeLeaf] at hl;done)
   have hVR:∀ i,i<t.cells.length->VR w' I' (zac val0 v i) (t.cells.getD i .gone) (FV' 0 (i+1))/\bnd (t.cells.getD i .gone)=true:=by
    intro i hi
    have hbc:bnd (t.cells.getD i .gone)=true:=by rw [za3 hi];exact (List.all_eq_true.1 hbnd) _ (List.getElem_mem hi)
    have q:=hsr.vars 0 (by simp) (i+1) (by show i+1<(V.tup [.int jk m,t]).cells.length;rw [hcells];simpa using hi)
    have q2:Cx.LR1 ⟨w',I',φ',fun _=>.tuple #[v',val0],⟨[.tup [.int jk m,t]],[]⟩⟩ (zac (.tuple #[v',val0]) (.tup [.int jk m,t]) (i+1)) ((V.tup [.int jk m,t]).cells.getD (i+1) .gone) (FV' 0 (i+1)):=q
    rw [hpc,hcells] at q2
    simp only [List.getD_cons_succ] at q2
    rw [hcell i hi] at q2
    obtain ⟨p1,p2⟩:=zhw hbc
    exact ⟨zbs q2 p1 p2,hbc⟩
   have hlent:=zlo (x:=x) v.cells (fun i=>zac val0 v i) (I:=x.I) (s:=x.st) h (fun _ h=>h) (.refl _) (fun c hc=>hpv.cells c hc) hlc I1
   obtain ⟨r0,up0,hone⟩:=zl7 hat
   have hplace:∀ i e r c up lo hi,i<v.cells.length->v.cells.getD i .gone=.hd e r c up lo hi->Cx.place ⟨w',I',x.φ,x.tm,s1⟩ r up c=zac val0 v i:=by
    intro i e r c up lo hi hi' hz
    obtain ⟨cs,hcs⟩:=zl6 hg hone ⟨i,e,r,c,up,lo,hi,hi',hz⟩
    obtain ⟨rfl,rfl⟩:=hone i e r c up lo hi hi' hz
    have:=j2.away_place (w':=w') (fun b hb h0=>hsr.keep b hb (by
     show ¬ 0<FX1.count b+tot ([]:List (Nat×Nat×Nat)).length _ b
     simp [tot,h0])) I' up r cs hcs c
    rw [this]
    exact hlent i e r c up lo hi hi' hz
   obtain ⟨FV2,FC2,g1,g4,g2,g3⟩:=zok v.cells t.cells (fun i=>zac val0 v i) (fun i=>FV' 0 (i+1)) hA hplace hVR (fun b=>by
    rw [hcells,za2]
    have e:=zb5 1 t.cells.length (FV' 0) b
    have e2:tot t.cells.length (fun q=>FV' 0 (1+q)) b=tot t.cells.length (fun i=>FV' 0 (i+1)) b:=zaa b fun i _=>by rw [Nat.add_comm]
    have e4:1+t.cells.length=(V.int jk m::t.cells).length:=by simp;omega
    rw [e4] at e
    omega) hg
   have hpcs:∀ i v c,zac v (s'.vars.getD i .gone) c=zac v (x.st.vars.getD i .gone) c:=fun i v c=>(g4 i v c).trans (j6.pc i v c)
   have hvl:s'.vars.length=x.st.vars.length:=g2.trans j6.vlen
   have hbl:s'.boxes.length=x.st.boxes.length:=g3.trans j6.blen
   have g5:=g1.remark x.st.vars (fun i c e q c' lo hi hi' hz hc hgo ys hget=>by
    have hi2:i<x.st.vars.length:=by rw [<- hvl];exact hi'
    have hcl:c<(x.st.vars.getD i .gone).cells.length:=by
     refine Classical.byContradiction fun hn=> ?_
     rw [zai hn] at hz;cases hz
    have hL:=h.vars i hi2 c hcl
    rw [hz] at hL
    obtain ⟨_,xs,hg0,hsub⟩:=hL
    have hrv:Cx.rv ⟨w',I',x.φ,x.tm,s'⟩ (.var i) c=x.rv (.var i) c:=hpcs i (x.tm i) c
    obtain ⟨cs0,hcs0,_,_⟩:=zba hg0
    obtain ⟨k,e1,hk,_⟩:∃ k,Root.box q=.box k/\k<x.st.boxes.length/\True:=by
     rcases za6 hcs0 with ⟨_,e,_⟩|⟨k,e,hk,_⟩
     ·cases e
     ·exact ⟨k,e,hk,trivial⟩
    cases e1
    have hpl:=j2.away_place (w':=w') (fun b hb h0=>hsr.keep b hb (by
     show ¬ 0<FX1.count b+tot ([]:List (Nat×Nat×Nat)).length _ b
     simp [tot,h0])) I' [] (.box q) (s1.boxes.getD q []) (zbl (by show q<s1.boxes.length;rw [j6.blen];exact hk)) c'
    have hpl2:Cx.rv ⟨w',I',x.φ,x.tm,s'⟩ (.box q) c'=x.rv (.box q) c':=hpl
    rw [hrv,hpl2]
    exact hsub)
    (fun i e q c lo hi hi' hg0 hz=>by
     have hsh:=h.shape i (by rw [<- hvl];exact hi')
     rw [hz] at hsh
     exact hsh)
   refine ⟨⟨w',I',x.φ,x.tm,s'.remark x.st.vars⟩,FV2,FC2,[],fun _=>[],rfl,rfl,g5,⟨?_,ht.tie,ht.size,ht.defers,?_,ht.phi,ht.nk,ht.kp⟩,?_,fun b=>by rw [zb6]⟩
   ·show ts.length=(s'.remark x.st.vars).vars.length
    rw [show (s'.remark x.st.vars).vars.length=s'.vars.length from zdh _ _ _,hvl];exact ht.len
   ·show B.nb<=s'.boxes.length
    rw [hbl];exact ht.nbx
   ·subst hv';exact Pend.leaf (VR.int jk m)
theorem zls (q:Nat):∀ (ys:List V) (c0 c:Nat) {e k c':Nat} {lo hi:Nat},(zgk q c0 ys).getD c .gone=.hd e (.box k) c' [] lo hi->k=q/\c'=c0+c/\lo=0/\∃ us,ys.getD c .gone=.own e us/\hi=us.length
 | [],_,_,_,_,_,_,_,h=>by simp [zgk] at h
 | y::ys,c0,c,e,k,c',lo,hi,h=>by
   cases c with
   | zero=>
     cases y <;> simp only [zgk,List.getD_cons_zero] at h <;> first|(cases h;done)|skip
     simp only [V.hd.injEq,Root.box.injEq,true_and] at h
     obtain ⟨rfl,rfl,rfl,rfl,rfl⟩:=h
     exact ⟨rfl,rfl,rfl,_,rfl,rfl⟩
   | succ c=>
     have h2:(zgk q (c0+1) ys).getD c .gone=.hd e (.box k) c' [] lo hi:=by
      cases y <;> simpa [zgk] using h
     obtain ⟨r1,r2,r3,us,r4,r5⟩:=zls q ys (c0+1) c h2
     exact ⟨r1,by omega,r3,us,by simpa using r4,r5⟩
theorem yhh (h:SR B x FV FC []) (ht:Tied B ts n x a) {o:Oper} {t:TypeId} {y:Operand} {i:Nat} (ho:o.op=.box t y) (hy:za1 ts y (.reg i)=true) {v z:V} {s1:St} (hr:x.st.rd (.reg i)=some v) (hz:x.st.take v=some (z,s1)):
 zc6 P o a x.w (Out B n ts a (St.remark (s1.vars.set i (zej s1.boxes.length z)) (s1.pushBox z.cells)) (.ref (.box s1.boxes.length) 0 [])):=by
 have hr0:=zaq h ht hy hr
 rw [zf8] at hz
 obtain ⟨I',FV',FC',FX1,G,H,hsh,hnt,hg⟩:=zgm zci zdu (x0:=x) (I:=x.I) (s:=x.st) h (fun _ h=>h) (.refl _) hr0 hz
 obtain ⟨h1,h2⟩:=zcf hsh hnt hg
 refine za9 (val:=.pointer (some ⟨x.w.heap.size,0,none⟩)) (w':=x.w.alloc (.cells (a.eval y).cells t)) ?_ ?_
 ·simp [execOp,ho,Instr.box,newVar,newRow]
 have hnew:=ybc (x:=⟨x.w,I',x.φ,x.tm,s1⟩) (t:=t) H.sr (ht.gho H.gho) h1 (fun c hc=> ?_) (fun b=>by have:=H.fx b;simpa using this)
 rotate_left
 ·obtain ⟨h3,h4⟩:=H.vr c hc
  rw [h2 c hc]
  exact ⟨h3,zav h4⟩
 obtain ⟨x1,FV1,FC1,FX2,G2,e1,e2,e3,e4,e5,e6⟩:=hnew
 have hvl:x1.st.vars.length=s1.vars.length:=by rw [e2];rfl
 have hti:∃ r,y=.tmp r/\ts.getD i none=some r:=by
  cases y with
  | tmp r=>exact ⟨r,rfl,by simpa [za1] using hy⟩
  | _=>cases hy
 obtain ⟨r,rfl,hti⟩:=hti
 have htm1:x1.tm i=a.eval (.tmp r):=e4.tie i r hti
 have hil:i<s1.vars.length:=by
  rw [<- hvl,<- e4.len]
  refine Classical.byContradiction fun hn=> ?_
  simp only [List.getD,List.getElem?_eq_none (Nat.le_of_not_lt hn)] at hti
  cases hti
 have hφ:x1.φ s1.boxes.length=x.w.heap.size:=by
  have q:=e5.cells 0 (by simp [V.cells])
  obtain ⟨_,k,cs,c1,c2,c3⟩:=q
  cases c1
  have c3':(Value.pointer (some ⟨x.w.heap.size,0,none⟩))=.pointer (some ⟨x1.φ s1.boxes.length,0,none⟩):=c3
  simp only [Value.pointer.injEq,Option.some.injEq,Addr.mk.injEq] at c3'
  exact c3'.1.symm
 have hcell:∀ c,c<z.cells.length->zad x1.w (x1.φ s1.boxes.length) c=(a.eval (.tmp r)).cells.getD c undef:=by
  intro c hc
  rw [hφ,e1]
  simp [zad,Array.getD_eq_getD_getElem?]
 have hbx:x1.st.boxes.getD s1.boxes.length []=z.cells:=by rw [e2];exact zd6
 have hbl:s1.boxes.length<x1.st.boxes.length:=by rw [e2];simp [St.pushBox]
 have g5:=e3.remark (s1.vars.set i (zej s1.boxes.length z)) (fun j c e q c' lo hi hj hzz hc hgo ys hget=>by
  rw [hvl] at hj
  by_cases hji:j=i
  ·subst hji
   have hset:(s1.vars.set j (zej s1.boxes.length z)).getD j .gone=zej s1.boxes.length z:=by simp [List.getD,hil]
   rw [hset] at hzz
   cases z with
   | agg zs=>
     obtain ⟨rfl,rfl,rfl,us,r4,r5⟩:=zls s1.boxes.length zs 0 c (show (zgk s1.boxes.length 0 zs).getD c .gone=_ from hzz)
     rw [Nat.zero_add] at hget ⊢
     have hclt:c<zs.length:=by
      refine Classical.byContradiction fun hn=> ?_
      rw [zai hn] at r4;cases r4
     have hgetz:zs.getD c .gone=.own e ys:=by
      have:x1.st.get (.box s1.boxes.length) c []=some (zs.getD c .gone):=by
       simp only [St.get,St.cont,zbl hbl,hbx,Option.bind_some]
       show zs[c]? =_
       rw [List.getElem?_eq_getElem hclt,za3 hclt]
      rw [this] at hget
      exact Option.some.inj hget
     rw [hgetz] at r4
     cases r4
     subst r5
     have hV:=(H.vr c hclt).1
     have hown:VR x.w I' (zac (a.eval (.tmp r)) (.agg zs) c) (.own e ys) (G c):=by have:=hV;rw [show (V.agg zs).cells=zs from rfl,hgetz] at this;exact this
     have hval:x1.rv (.box s1.boxes.length) c=zac (a.eval (.tmp r)) (.agg zs) c:=by
      show zad x1.w (x1.φ s1.boxes.length) c=_
      rw [hcell c hclt,h2 c hclt]
     have hvar:x1.rv (.var j) c=zac (a.eval (.tmp r)) (.agg zs) c:=by
      show zac (x1.tm j) (x1.st.vars.getD j .gone) c=_
      rw [htm1]
      have hs1:x1.st.vars.getD j .gone=s1.vars.getD j .gone:=by rw [e2];rfl
      rw [hs1,H.gho.pc j]
      have hform:∀ c,zac (a.eval (.tmp r)) (x.st.vars.getD j .gone) c=zac (a.eval (.tmp r)) v c:=by
       intro c
       have hv2:V.borrowAll j (x.st.vars.getD j .gone)=v:=by
        simp only [St.rd,Option.map_eq_some_iff] at hr
        obtain ⟨u,hu1,hu2⟩:=hr
        have hlj:=(List.getElem?_eq_some_iff.1 hu1).1
        rw [za3 hlj,(List.getElem?_eq_some_iff.1 hu1).2];exact hu2
       rw [<- hv2]
       generalize x.st.vars.getD j .gone=u
       cases u <;> rfl
      rw [hform]
      cases v with
      | agg cs=>rfl
      | hd e0 r0 c0 up0 lo0 hi0=>
        simp only [opw,St.takeLeaf] at hz
        split at hz
        ·split at hz
         ·simp only [Option.map_eq_some_iff,Prod.mk.injEq] at hz
          obtain ⟨_,_,hz,_⟩:=hz
          cases hz
         ·cases hz
        ·cases hz
      | own e0 xs0=>cases xs0 <;> simp [opw,St.takeLeaf] at hz
      | _=>simp [opw,St.takeLeaf] at hz
     rw [hval,hvar]
     exact zlg hown
   | _=>simp [zej,V.cells] at hzz <;> cases c <;> simp at hzz
  ·exfalso
   have hset:(s1.vars.set i (zej s1.boxes.length z)).getD j .gone=s1.vars.getD j .gone:=by
    simp only [List.getD,List.getElem?_set]
    rw [if_neg (fun e=>hji e.symm)]
   have hs1:x1.st.vars.getD j .gone=s1.vars.getD j .gone:=by rw [e2];rfl
   rw [hset] at hzz
   rw [hs1,hzz] at hgo
   cases hgo)
  (fun j e q c lo hi hj hg0 hzz=>by
   exfalso
   by_cases hji:j=i
   ·subst hji
    have hset:(s1.vars.set j (zej s1.boxes.length z)).getD j .gone=zej s1.boxes.length z:=by simp [List.getD,hil]
    rw [hset] at hzz
    cases z <;> cases hzz
   ·have hset:(s1.vars.set i (zej s1.boxes.length z)).getD j .gone=s1.vars.getD j .gone:=by
     simp only [List.getD,List.getElem?_set]
     rw [if_neg (fun e=>hji e.symm)]
    have hs1:x1.st.vars.getD j .gone=s1.vars.getD j .gone:=by rw [e2];rfl
    rw [hset] at hzz
    rw [hs1,hzz] at hg0
    cases hg0)
 refine ⟨⟨x1.w,x1.I,x1.φ,x1.tm,x1.st.remark (s1.vars.set i (zej s1.boxes.length z))⟩,FV1,FC1,FX2,G2,e1,?_,g5,⟨?_,e4.tie,e4.size,e4.defers,e4.nbx,e4.phi,e4.nk,e4.kp⟩,⟨e5.shape,fun c hc=> ?_⟩,e6⟩
 ·show x1.st.remark _=_
  rw [e2]
 ·show ts.length=(x1.st.remark _).vars.length
  rw [show (x1.st.remark _).vars.length=x1.st.vars.length from zdh _ _ _];exact e4.len
 ·have hc0:c=0:=by simpa [V.cells] using hc
  subst hc0
  obtain ⟨q1,k,cs,q2,q3,q4⟩:=e5.cells 0 (by simp [V.cells])
  exact ⟨q1,k,cs,q2,q3,q4⟩
theorem ygq (h:SR B x FV FC []) (ht:Tied B ts n x a) {o:Oper} {y oy i} (ho:o.op=.extract y i) (hy:za1 ts y oy=true) {vs v z s1} (hr:x.st.rd oy=some (.tup vs)) (hv:vs[i]? =some v) (hz:x.st.take v=some (z,s1)):
 zc6 P o a x.w (Out B n ts a s1 z):=by
 obtain ⟨arr,u,h1,h2,h3⟩:=zmq (zaq h ht hy hr) hv
 rw [zf8] at hz
 obtain ⟨I',FV',FC',FX1,G,H,hsh,_,_⟩:=zgm zci zdu (x0:=x) (I:=x.I) (s:=x.st) h (fun _ h=>h) (.refl _) h3 hz
 refine za9 (val:=u) (w':=x.w) (by simp [execOp,ho,h1,Instr.extract,h2]) ?_
 refine ⟨⟨x.w,I',x.φ,x.tm,s1⟩,FV',FC',FX1,G,rfl,rfl,H.sr,ht.gho H.gho,⟨hsh,fun c hc=> ?_⟩,fun b=>by have:=H.fx b;simpa using this⟩
 obtain ⟨h4,h5⟩:=H.vr c hc
 exact za8 h4 (zav h5)
theorem zy5 (h:SR B x FV FC []) (ht:Tied B ts n x a) {o:Oper} {y oy} (ho:o.op=.move y\/o.op=.assign y) (hy:za1 ts y oy=true) {v z s1} (hr:x.st.rd oy=some v) (hz:x.st.freeze v=some (z,s1)):
 zc6 P o a x.w (Out B n ts a s1 z):=by
 have h3:=zaq h ht hy hr
 rw [zh4] at hz
 obtain ⟨I',FV',FC',FX1,G,H,hsh,_,_⟩:=zgm zgj zht (x0:=x) (I:=x.I) (s:=x.st) h (fun _ h=>h) (.refl _) h3 hz
 refine za9 (val:=a.eval y) (w':=x.w) (by rcases ho with ho|ho <;> simp [execOp,ho]) ?_
 refine ⟨⟨x.w,I',x.φ,x.tm,s1⟩,FV',FC',FX1,G,rfl,rfl,H.sr,ht.gho H.gho,⟨hsh,fun c hc=> ?_⟩,fun b=>by have:=H.fx b;simpa using this⟩
 obtain ⟨h4,h5⟩:=H.vr c hc
 exact za8 h4 (zav h5)
theorem ya2 (h:SR B x FV FC []) (ht:Tied B ts n x a) {o:Oper} {y oy} (ho:o.op=.move y\/o.op=.assign y) (hy:za1 ts y oy=true) {vs ys s1} (hr:x.st.rd oy=some (.tup vs)) (hz:x.st.takesAll false vs=some (ys,s1)):
 zc6 P o a x.w (Out B n ts a s1 (.tup ys)):=by
 have hp:=zaq h ht hy hr
 obtain ⟨arr,harr,hsz,_⟩:=hp.shape
 have hpi:∀ i,i<vs.length->Pend x (arr.toList.getD i undef) (vs.getD i .gone) fun _=>[]:=by
  intro i hi
  obtain ⟨arr',u,e1,e2,e3⟩:=zmq hp (List.getElem?_eq_getElem hi)
  rw [harr] at e1
  cases e1
  have:arr.toList.getD i undef=u:=by
   rw [zbb,Array.getD_eq_getD_getElem?,e2];rfl
  rw [this,za3 hi];exact e3
 obtain ⟨I',FV',FC',FX1,G,k1,k2,k3,k4,k5,k6⟩:=zd0 false (x0:=x) vs (fun i=>arr.toList.getD i undef) (I:=x.I) (s:=x.st) h (fun _ h=>h) (.refl _) hpi hz
 have hlen:arr.toList.length=ys.length:=by rw [k4];simpa using hsz
 obtain ⟨G',m1,m2⟩:=zgt ys arr.toList G hlen (fun i hi=>zdx (k5 i (by omega)).1 (k5 i (by omega)).2.1 (k5 i (by omega)).2.2.1) (fun i hi=>(k5 i (by omega)).2.1)
 refine za9 (val:=a.eval y) (w':=x.w) (by rcases ho with ho|ho <;> simp [execOp,ho]) ?_
 refine ⟨⟨x.w,I',x.φ,x.tm,s1⟩,FV',FC',FX1,G',rfl,rfl,k2,ht.gho k6,⟨?_,fun c hcc=> ?_⟩,fun b=>by have e1:=k3 b;have e2:=m2 b;rw [<- k4] at e1;simp only [V.cells];rw [e2];simp only [List.count_nil] at e1;omega⟩
 ·rw [harr]
  refine ⟨arr,rfl,by omega,fun j hj=> ?_⟩
  have:=zdx (k5 j (by omega)).1 (k5 j (by omega)).2.1 (k5 j (by omega)).2.2.1
  rw [zbb] at this
  exact this
 ·obtain ⟨i,c',p1,p2,p3,p4,p5⟩:=m1 c hcc
  obtain ⟨q1,q2⟩:=(k5 i (by omega)).2.2.2 c' p2
  have e:zac (a.eval y) (.tup ys) c=(arr.toList.flatMap fun v=>v.cells.toList).getD c undef:=by rw [harr];simp [zac,zdl]
  simp only [V.cells]
  rw [e,p3,p4,p5]
  exact za8 q1 (zav q2)
end Go.Pm
namespace Go.Pm
variable {P:Program} {B:Base} {x:Cx} {FV FC:Nat->Nat->List Nat} {FX:List Nat} {a:Act} {ts:List (Option Nat)} {n:Nat}
def zml (P:Program) (t:TypeId) (e:Nat):Bool:=
 match P.underlying t with
 | some (.slice el)=>zcn P el == some e
 | _=>false
def zti (P:Program) (t:TypeId):Bool:=match P.underlying t with|some .string=>true|_=>false
def yda (P:Program) (t:TypeId):Bool:=
 match P.underlying t with
 | some (.slice el)=>(match P.underlying el with|some (.int .u8)=>true|_=>false)
 | _=>false
def zm2 (P:Program) (t:TypeId) (f off:Nat) (m:Option (Option Nat)):Bool:=
 match P.underlying t with
 | some (.struct fs)=>
   match fs[f]? with
   | some fl=>fl.offset == off&&(match m with
     | some m=>zdb P fl.type m
     | none=>(match zcn P fl.type with|some k=>k != 0|none=>false))
   | none=>false
 | _=>false
def ybn (P:Program) (t:TypeId) (e bytes:Nat) (z:V):Bool:=
 match P.underlying t with
 | some (.slice el)=>
   match P.info? el with
   | some i=>
     match i.zero with
     | some zv=>yao zv.cells.toList z.cells&&z.okE&&i.size == e&&i.bytes == bytes&&z.cells.length == e&&decide (0<e)&&decide (0<bytes)
     | none=>false
   | none=>false
 | _=>false
def zdd (P:Program) (ts:List (Option Nat)) (o:Op):HOp->Bool
 | .mov x=>match o with | .move y=>za1 ts y x | .assign y=>za1 ts y x|_=>false
 | .pick c u v=>match o with | .pick c' u' v'=>za1 ts c' c&&za1 ts u' u&&za1 ts v' v|_=>false
 | .alloc z=>match o with | .alloc t=>zu4 P t z|_=>false
 | .box x=>match o with | .box _ y=>za1 ts y x|_=>false
 | .build z ps=>match o with | .build t parts=>zt0 P ts t parts.toList ps z|_=>false
 | .list e _ xs=>match o with
   | .buildSlice t len parts=>zjw ts 0 parts.toList xs&&parts.toList.length == len&&decide (0<e)&&decide (len * e<=16777216) &&
    (match P.underlying t with
     | some (.slice el)=>zcn P el == some e&&(match P.info? el with|some i=>i.zero.isSome|none=>false)
     | _=>false)
   | _=>false
 | .load m p=>match o with | .load t y=>za1 ts y p&&zdb P t m|_=>false
 | .store m _ p x=>match o with
   | .store t y z=>za1 ts y p&&za1 ts z x&&zcn P t == some (m.getD 1)&&m.getD 1 != 0
   | _=>false
 | .chk x=>match o with | .nilCheck y=>za1 ts y x|_=>false
 | .bin op x y=>match o with | .binOp op' _ u v _=>decide (op=op')&&za1 ts u x&&za1 ts v y|_=>false
 | .beq neg x y=>match o with
   | .binOp op' t u v _=>decide (op'=if neg then .neq else .eql)&&za1 ts u x&&za1 ts v y&&(match P.underlying t with|some .bool=>true|_=>false)
   | _=>false
 | .aeq m x y=>match o with
   | .binOp .eql t u v _=>za1 ts u x&&za1 ts v y&&yfk P t m
   | _=>false
 | .un op x=>match o with | .unOp op' _ y=>decide (op=op')&&za1 ts y x|_=>false
 | .conv k x=>match o with
   | .convert s d y=>za1 ts y x&&(P.underlying s).isSome&&(match P.underlying d with|some (.int k')=>k == k'|_=>false)
   | _=>false
 | .toStr x=>match o with | .convert s d y=>za1 ts y x&&yda P s&&zti P d|_=>false
 | .toBytes x=>match o with | .convert s d y=>za1 ts y x&&zti P s&&yda P d|_=>false
 | .func f caps=>match o with | .makeFunc (.func g) first cs=>f == g&&first.toList.isEmpty&&zcb ts cs.toList caps|_=>false
 | .make e bytes z x=>match o with | .makeSlice t y y'=>za1 ts y x&&za1 ts y' x&&ybn P t e bytes z|_=>false
 | .slice e x lo hi=>match o with | .slice t y l h m=>za1 ts y x&&zky ts l lo&&zky ts h hi&&m.isNone&&zml P t e|_=>false
 | .sslice x lo hi=>match o with | .slice t y l h m=>za1 ts y x&&zky ts l lo&&zky ts h hi&&m.isNone&&zti P t|_=>false
 | .fld off p=>match o with | .fieldAddr t y f=>za1 ts y p&&zm2 P t f off none|_=>false
 | .idx e p i=>match o with | .indexAddr t y z=>za1 ts y p&&za1 ts z i&&zml P t e|_=>false
 | .aidx m e p i=>match o with
   | .indexAddr t y z=>za1 ts y p&&za1 ts z i&&(match P.underlying t with|some (.array len el)=>len == m&&zcn P el == some e|_=>false)
   | _=>false
 | .part m off x=>match o with | .field t y f=>za1 ts y x&&zm2 P t f off (some m)|_=>false
 | .ext i x=>match o with | .extract y j=>i == j&&za1 ts y x|_=>false
 | .tmov x=>match o with | .move y=>za1 ts y x | .assign y=>za1 ts y x|_=>false
 | .extt i x=>match o with | .extract y j=>i == j&&za1 ts y x|_=>false
 | .sidx x i=>match o with | .index t y z=>za1 ts y x&&za1 ts z i&&zti P t|_=>false
 | .len x=>match o with
   | .call { callee:=.builtin .len,args,argTypes }=>(match args.toList,argTypes.toList with
     | [y],t::_=>za1 ts y x&&(match P.underlying t with|some (.slice _)=>true|_=>false)
     | _,_=>false)
   | _=>false
 | .slen x=>match o with
   | .call { callee:=.builtin .len,args,argTypes }=>(match args.toList,argTypes.toList with
     | [y],t::_=>za1 ts y x&&zti P t
     | _,_=>false)
   | _=>false
 | .append e bytes _ x y=>match o with
   | .call { callee:=.builtin .append,args,argTypes }=>(match args.toList,argTypes.toList with
     | [u,v],[t,t']=>za1 ts u x&&za1 ts v y&&yi8 P t t' e bytes
     | _,_=>false)
   | _=>false
 | .copy _ _ _=>false
 | .min2 x y=>match o with
   | .call { callee:=.builtin .min,args,.. }=>(match args.toList with | [u,v]=>za1 ts u x&&za1 ts v y|_=>false)
   | _=>false
 | .min3 x y z=>match o with
   | .call { callee:=.builtin .min,args,.. }=>(match args.toList with | [u,v,w]=>za1 ts u x&&za1 ts v y&&za1 ts w z|_=>false)
   | _=>false
 | .max2 x y=>match o with
   | .call { callee:=.builtin .max,args,.. }=>(match args.toList with | [u,v]=>za1 ts u x&&za1 ts v y|_=>false)
   | _=>false
 | .call f _ _ args=>match o with
   | .call { callee:=.value (.func g),args:=as,.. }=>f == g&&zcb ts as.toList args
   | _=>false
 | .boxk i=>match o with
   | .box t y=>za1 ts y (.reg i)
   | _=>false
 | .lcall f x k=>match o with
   | .call { callee:=.value (.func g),args:=as,.. }=>f == g&&zcb ts as.toList [x,k]
   | _=>false
 | .dyn x args=>match o with
   | .call { callee:=.value y,args:=as,.. }=>za1 ts y x&&zcb ts as.toList args
   | _=>false
theorem zl8 {α:Type} {as:Array α} {y:α} (h:as.toList=[y]):as= #[y]:=by
 apply Array.toList_inj.1;simpa using h
theorem zfd {α:Type} {as:Array α} {y z:α} (h:as.toList=[y,z]):as= #[y,z]:=by
 apply Array.toList_inj.1;simpa using h
theorem zi2 {α:Type} {as:Array α} {y:α} {ys} (h:as.toList=y::ys):as[0]? =some y:=by
 rw [<- Array.getElem?_toList,h];rfl
theorem zdt {t} (h:zti P t=true):P.underlying t=some .string:=by
 unfold zti at h;split at h
 ·assumption
 ·cases h
theorem zhs {t e} (h:zml P t e=true):∃ el,P.underlying t=some (.slice el)/\zcn P el=some e:=by
 unfold zml at h;split at h
 ·rename_i el hu;exact ⟨el,hu,by simpa using h⟩
 ·cases h
theorem zlh {t} (h:yda P t=true):∃ el,P.underlying t=some (.slice el)/\P.underlying el=some (.int .u8):=by
 unfold yda at h;split at h
 ·rename_i el hu
  split at h
  ·rename_i h8;exact ⟨el,hu,h8⟩
  ·cases h
 ·cases h
theorem zi6 {t f off m} (h:zm2 P t f off m=true):∃ fs fl,P.underlying t=some (.struct fs)/\fs[f]? =some fl/\fl.offset=off/\
 (∀ m',m=some m'->zdb P fl.type m'=true)/\(m=none->∃ k,zcn P fl.type=some k/\k≠0):=by
 unfold zm2 at h
 split at h
 ·rename_i fs hu
  split at h
  ·rename_i fl hf
   simp only [Bool.and_eq_true,beq_iff_eq] at h
   refine ⟨fs,fl,hu,hf,h.1,fun m' e=> ?_,fun e=> ?_⟩
   ·subst e;exact h.2
   ·subst e
    have h2:=h.2
    simp only at h2
    split at h2
    ·rename_i k hk;exact ⟨k,hk,by simpa using h2⟩
    ·cases h2
  ·cases h
 ·cases h
theorem zt8 {t e bytes z} (h:ybn P t e bytes z=true):∃ el i zv,P.underlying t=some (.slice el)/\P.info? el=some i/\i.zero=some zv/\yao zv.cells.toList z.cells=true/\z.okE=true/\i.size=e/\i.bytes=bytes/\z.cells.length=e/\0<e/\0<bytes:=by
 unfold ybn at h
 split at h
 ·rename_i el hu
  split at h
  ·rename_i i hi
   split at h
   ·rename_i zv hz
    simp only [Bool.and_eq_true,beq_iff_eq,decide_eq_true_eq] at h
    obtain ⟨⟨⟨⟨⟨⟨h1,h2⟩,h3⟩,h4⟩,h5⟩,h6⟩,h7⟩:=h
    exact ⟨el,i,zv,hu,hi,hz,h1,h2,h3,h4,h5,h6,h7⟩
   ·cases h
  ·cases h
 ·cases h
end Go.Pm
namespace Go.Pm
variable {P:Program} {B:Base} {x:Cx} {FV FC:Nat->Nat->List Nat} {FX:List Nat} {a:Act} {ts:List (Option Nat)} {n:Nat}
theorem ztf {R:zan} (hR:zwx P R B) (h:SR B x FV FC []) (ht:Tied B ts n x a) {o:Oper} {ho:HOp} (hok:zdd P ts o.op ho=true) {v:V} {s1:St} (hs:x.st.step R ho=some (v,s1)):
 zc6 P o a x.w (Out B n ts a s1 v):=by
 cases ho with
 | mov y=>
   simp only [St.step,Option.map_eq_some_iff] at hs
   obtain ⟨u,hr,he⟩:=hs
   simp only [Prod.mk.injEq] at he
   obtain ⟨rfl,rfl⟩:=he
   simp only [zdd] at hok
   split at hok
   ·rename_i z hz;exact zxp h ht (.inl hz) hok hr
   ·rename_i z hz;exact zxp h ht (.inr hz) hok hr
   ·cases hok
 | pick c y z=>
   simp only [zdd] at hok
   split at hok
   ·rename_i c' y' z' hz
    simp only [Bool.and_eq_true] at hok
    simp only [St.step] at hs
    split at hs
    ·rename_i t hc
     simp only [Option.map_eq_some_iff] at hs
     obtain ⟨u,hr,he⟩:=hs
     simp only [Prod.mk.injEq] at he
     obtain ⟨rfl,rfl⟩:=he
     exact yfl h ht hz hok.1.1 hok.1.2 hok.2 hc hr
    ·cases hs
   ·cases hok
 | alloc z=>
   simp only [zdd] at hok
   split at hok
   ·rename_i t hz
    cases hs
    exact ych h ht hz hok
   ·cases hok
 | box y=>
   simp only [zdd] at hok
   split at hok
   ·rename_i t y' hz
    simp only [St.step] at hs
    split at hs
    ·rename_i u hr
     simp only [Option.map_eq_some_iff] at hs
     obtain ⟨⟨u',s2⟩,ht2,he⟩:=hs
     simp only [Prod.mk.injEq] at he
     obtain ⟨rfl,rfl⟩:=he
     exact yll h ht hz hok hr ht2
    ·cases hs
   ·cases hok
 | build z ps=>
   simp only [zdd] at hok
   split at hok
   ·rename_i t parts hz
    simp only [St.step,Option.map_eq_some_iff] at hs
    obtain ⟨vs,hr,he⟩:=hs
    simp only [Prod.mk.injEq] at he
    obtain ⟨rfl,rfl⟩:=he
    exact ydu h ht hz hok hr
   ·cases hok
 | list e frz xs=>
   simp only [zdd] at hok
   split at hok
   ·rename_i t len parts hz
    simp only [Bool.and_eq_true,beq_iff_eq,decide_eq_true_eq] at hok
    obtain ⟨⟨⟨⟨h1,h2⟩,h3⟩,h4⟩,h5⟩:=hok
    split at h5
    ·rename_i el hu
     simp only [Bool.and_eq_true,beq_iff_eq] at h5
     have hinf:∃ i v,P.info? el=some i/\i.zero=some v:=by
      have h6:=h5.2
      split at h6
      ·rename_i i hi
       obtain ⟨v,hv⟩:=Option.isSome_iff_exists.1 h6
       exact ⟨i,v,hi,hv⟩
      ·cases h6
     simp only [St.step] at hs
     split at hs
     ·rename_i vs hr
      split at hs
      ·rename_i ys s2 htk
       split at hs
       ·rename_i hall
        simp only [Option.some.injEq,Prod.mk.injEq] at hs
        obtain ⟨rfl,rfl⟩:=hs
        refine yiz h ht hz h1 h2 hu h5.1 h3 h4 hinf hr htk fun y hy=> ?_
        have:=(List.all_eq_true.1 hall) y hy
        simpa using this
       ·cases hs
      ·cases hs
     ·cases hs
    ·cases h5
   ·cases hok
 | load m p=>
   simp only [zdd] at hok
   split at hok
   ·rename_i t y hz
    simp only [Bool.and_eq_true] at hok
    simp only [St.step] at hs
    split at hs
    ·rename_i r c up hr
     split at hs
     ·rename_i cs hc
      have hload:zkz r up c cs m=some v/\s1=x.st:=by
       cases m with
       | none=>
         simp only [Option.map_eq_some_iff] at hs
         obtain ⟨u,h1,h2⟩:=hs
         simp only [Prod.mk.injEq] at h2
         obtain ⟨rfl,rfl⟩:=h2
         exact ⟨by simp [zkz,h1],rfl⟩
       | some m=>
         simp only at hs
         split at hs
         ·rename_i hle
          simp only [Option.some.injEq,Prod.mk.injEq] at hs
          obtain ⟨rfl,rfl⟩:=hs
          exact ⟨by simp [zkz,hle],rfl⟩
         ·cases hs
      obtain ⟨h1,rfl⟩:=hload
      exact yia h ht hz hok.1 hok.2 hr hc h1
     ·cases hs
    ·rename_i cs c hr
     have hload:zwv cs c m=some v/\s1=x.st:=by
      cases m with
      | none=>
        simp only [Option.map_eq_some_iff] at hs
        obtain ⟨u,h1,h2⟩:=hs
        simp only [Prod.mk.injEq] at h2
        obtain ⟨rfl,rfl⟩:=h2
        exact ⟨h1,rfl⟩
      | some m=>
        simp only at hs
        split at hs
        ·rename_i hle
         simp only [Option.some.injEq,Prod.mk.injEq] at hs
         obtain ⟨rfl,rfl⟩:=hs
         exact ⟨by simp [zwv,hle],rfl⟩
        ·cases hs
     obtain ⟨h1,rfl⟩:=hload
     exact yd0 h ht hz hok.1 hok.2 hr h1
    ·cases hs
   ·cases hok
 | store m frz p y=>
   simp only [zdd] at hok
   split at hok
   ·rename_i t y' z' hz
    simp only [Bool.and_eq_true,beq_iff_eq,bne_iff_ne,ne_eq] at hok
    obtain ⟨⟨⟨h1,h2⟩,h3⟩,h4⟩:=hok
    simp only [St.step] at hs
    split at hs
    ·rename_i r c up k off hp hx
     split at hs
     ·rename_i hc
      obtain ⟨rfl,rfl,_⟩:=hc
      simp only [Option.map_eq_some_iff] at hs
      obtain ⟨s2,hput,he⟩:=hs
      simp only [Prod.mk.injEq] at he
      obtain ⟨rfl,rfl⟩:=he
      exact zzh h ht hz h1 h2 h3 hp hx hput
     ·cases hs
    ·rename_i r c up u hne hp hx
     split at hs
     ·split at hs
      ·rename_i z s2 htk
       split at hs
       ·rename_i hl
        simp only [Option.map_eq_some_iff] at hs
        obtain ⟨s3,hput,he⟩:=hs
        simp only [Prod.mk.injEq] at he
        obtain ⟨rfl,rfl⟩:=he
        exact ydg h ht hz h1 h2 h3 h4 hp hx htk hl hput
       ·cases hs
      ·cases hs
     ·cases hs
    ·cases hs
   ·cases hok
 | chk y=>
   simp only [zdd] at hok
   split at hok
   ·rename_i y' hz
    simp only [St.step] at hs
    split at hs <;> first
     | (cases hs;done)
     | (rename_i hr;cases hs;exact ylb h ht hz hok hr (by simp))
   ·cases hok
 | bin op y z=>
   simp only [zdd] at hok
   split at hok
   ·rename_i op' t u w t' hz
    simp only [Bool.and_eq_true,decide_eq_true_eq] at hok
    obtain ⟨⟨rfl,h1⟩,h2⟩:=hok
    simp only [St.step] at hs
    split at hs
    ·rename_i p q hp hq
     simp only [Option.map_eq_some_iff] at hs
     obtain ⟨r,hb,he⟩:=hs
     simp only [Prod.mk.injEq] at he
     obtain ⟨rfl,rfl⟩:=he
     exact yl2 h ht hz h1 h2 hp hq hb
    ·cases hs
   ·cases hok
 | beq neg y z=>
   simp only [zdd] at hok
   split at hok
   ·rename_i op' t u w t' hz
    simp only [Bool.and_eq_true,decide_eq_true_eq] at hok
    obtain ⟨⟨⟨rfl,h1⟩,h2⟩,h3⟩:=hok
    split at h3
    ·rename_i hu
     simp only [St.step] at hs
     split at hs
     ·rename_i p q hp hq
      cases hs
      exact ylr h ht hz h1 h2 hu hp hq
     ·cases hs
    ·cases h3
   ·cases hok
 | aeq m y z=>
   simp only [zdd] at hok
   split at hok
   ·rename_i t u v t' hz
    simp only [Bool.and_eq_true] at hok
    simp only [St.step] at hs
    split at hs
    ·rename_i cs ds hp hq
     split at hs
     ·rename_i hm
      simp only [Option.map_eq_some_iff] at hs
      obtain ⟨r,hr,hs⟩:=hs
      cases hs
      exact yk8 h ht hz hok.1.1 hok.1.2 hok.2 hp hq hm hr
     ·cases hs
    ·cases hs
   ·cases hok
 | un op y=>
   simp only [zdd] at hok
   split at hok
   ·rename_i op' t u hz
    simp only [Bool.and_eq_true,decide_eq_true_eq] at hok
    obtain ⟨rfl,h1⟩:=hok
    simp only [St.step,Option.map_eq_some_iff,Option.bind_eq_some_iff] at hs
    obtain ⟨r,⟨p,hp,hb⟩,he⟩:=hs
    simp only [Prod.mk.injEq] at he
    obtain ⟨rfl,rfl⟩:=he
    exact yot h ht hz h1 hp hb
   ·cases hok
 | conv k y=>
   simp only [zdd] at hok
   split at hok
   ·rename_i s d u hz
    simp only [Bool.and_eq_true] at hok
    obtain ⟨⟨h1,h2⟩,h3⟩:=hok
    obtain ⟨e,he⟩:=Option.isSome_iff_exists.1 h2
    split at h3
    ·rename_i k' hd
     simp only [beq_iff_eq] at h3
     subst h3
     simp only [St.step] at hs
     split at hs
     ·rename_i k2 m hr
      cases hs
      exact ygf h ht hz h1 he hd hr
     ·cases hs
    ·cases h3
   ·cases hok
 | toStr y=>
   simp only [zdd] at hok
   split at hok
   ·rename_i s d u hz
    simp only [Bool.and_eq_true] at hok
    obtain ⟨⟨h1,h2⟩,h3⟩:=hok
    obtain ⟨el,e1,e2⟩:=zlh h2
    simp only [St.step] at hs
    split at hs
    ·rename_i p hr
     simp only [Option.map_eq_some_iff,Option.bind_eq_some_iff] at hs
     obtain ⟨bs,⟨ys,h4,h5⟩,he⟩:=hs
     simp only [Prod.mk.injEq] at he
     obtain ⟨rfl,rfl⟩:=he
     exact ycy h ht hz h1 e1 e2 (zdt h3) hr (by cases p <;> first|rfl|(cases h4;done)) h4 h5
    ·cases hs
   ·cases hok
 | toBytes y=>
   simp only [zdd] at hok
   split at hok
   ·rename_i s d u hz
    simp only [Bool.and_eq_true] at hok
    obtain ⟨⟨h1,h2⟩,h3⟩:=hok
    obtain ⟨el,e1,e2⟩:=zlh h3
    simp only [St.step] at hs
    split at hs
    ·rename_i b hr
     cases hs
     exact zvl h ht hz h1 (zdt h2) e1 e2 hr
    ·cases hs
   ·cases hok
 | func f caps=>
   simp only [zdd] at hok
   split at hok
   ·rename_i g first cs hz
    simp only [Bool.and_eq_true,beq_iff_eq] at hok
    obtain ⟨⟨rfl,h1⟩,h2⟩:=hok
    simp only [St.step,Option.map_eq_some_iff] at hs
    obtain ⟨vs,hr,he⟩:=hs
    simp only [Prod.mk.injEq] at he
    obtain ⟨rfl,rfl⟩:=he
    exact ygn h ht hz (by simpa using h1) h2 hr
   ·cases hok
 | make e bytes z y=>
   simp only [zdd] at hok
   split at hok
   ·rename_i t y' y'' hz
    simp only [Bool.and_eq_true] at hok
    obtain ⟨⟨h1,h2⟩,h3⟩:=hok
    obtain ⟨el,i,zv,e1,e2,e3,e4,e5,e6,e7,e8,e9,e10⟩:=zt8 h3
    simp only [St.step] at hs
    split at hs
    ·rename_i k m hr
     split at hs
     ·rename_i hc
      cases hs
      have hev:a.eval y'=a.eval y'':=by rw [zb1 (zaq h ht h1 hr),zb1 (zaq h ht h2 hr)]
      have h63:m<=9223372036854775807:=by
       have:m.toNat * 1<=m.toNat * bytes:=Nat.mul_le_mul_left _ e10
       omega
      exact yd6 h ht hz hev h1 e1 e2 e3 e4 e5 e6 e7 e8 e9 hr hc.1 hc.2 h63
     ·cases hs
    ·cases hs
   ·cases hok
 | slice e y lo hi=>
   simp only [zdd] at hok
   split at hok
   ·rename_i t y' l u mx hz
    simp only [Bool.and_eq_true,Option.isNone_iff_eq_none] at hok
    obtain ⟨⟨⟨⟨h1,h2⟩,h3⟩,rfl⟩,h5⟩:=hok
    obtain ⟨el,e1,e2⟩:=zhs h5
    simp only [St.step] at hs
    split at hs
    ·rename_i p hr
     split at hs
     ·rename_i m l' hm hl
      split at hs
      ·rename_i u' hu'
       split at hs
       ·rename_i hc
        have hsl:zjt e p l'.toNat u'.toNat=some v/\s1=x.st:=by
         split at hs <;> first
          | (cases hs;done)
          | (split at hs <;> first
           | (cases hs;done)
           | (rename_i he;cases hs;exact ⟨by simp [zjt,he],rfl⟩))
        obtain ⟨hsl,rfl⟩:=hsl
        exact ycs h ht hz h1 h2 h3 e1 e2 hr hm (by cases lo <;> exact hl) (by cases hi <;> exact hu') hc.1 hc.2.1 hc.2.2 hsl
       ·cases hs
      ·cases hs
     ·cases hs
    ·cases hs
   ·cases hok
 | sslice y lo hi=>
   simp only [zdd] at hok
   split at hok
   ·rename_i t y' l u mx hz
    simp only [Bool.and_eq_true,Option.isNone_iff_eq_none] at hok
    obtain ⟨⟨⟨⟨h1,h2⟩,h3⟩,rfl⟩,h5⟩:=hok
    simp only [St.step] at hs
    split at hs
    ·rename_i b hr
     split at hs
     ·rename_i l' hl
      split at hs
      ·rename_i u' hu'
       split at hs
       ·rename_i hc
        cases hs
        exact zxy h ht hz h1 h2 h3 (zdt h5) hr (by cases lo <;> exact hl) (by cases hi <;> exact hu') hc.1 hc.2.1 hc.2.2
       ·cases hs
      ·cases hs
     ·cases hs
    ·cases hs
   ·cases hok
 | fld off p=>
   simp only [zdd] at hok
   split at hok
   ·rename_i t y f hz
    simp only [Bool.and_eq_true] at hok
    obtain ⟨fs,fl,e1,e2,rfl,_,e4⟩:=zi6 hok.2
    obtain ⟨k,e5,e6⟩:=e4 rfl
    simp only [St.step] at hs
    split at hs
    ·rename_i r c up hr;cases hs;exact yk4 h ht hz hok.1 e1 e2 e5 e6 hr
    ·rename_i cs c hr;cases hs;exact yhj h ht hz hok.1 e1 e2 e5 e6 hr
    ·cases hs
   ·cases hok
 | idx e p i=>
   simp only [zdd] at hok
   split at hok
   ·rename_i t y z hz
    simp only [Bool.and_eq_true] at hok
    obtain ⟨el,e1,e2⟩:=zhs hok.2
    simp only [St.step] at hs
    split at hs
    ·rename_i e' r c up lo hi k m hr hi'
     split at hs
     ·rename_i hc
      obtain ⟨rfl,h0,h1⟩:=hc
      cases hs
      exact yk0 h ht hz hok.1.1 hok.1.2 e1 e2 hr hi' h0 h1
     ·cases hs
    ·rename_i e' xs k m hr hi'
     split at hs
     ·rename_i hc
      obtain ⟨rfl,h0⟩:=hc
      simp only [Option.map_eq_some_iff] at hs
      obtain ⟨u,hu,he⟩:=hs
      simp only [Prod.mk.injEq] at he
      obtain ⟨rfl,rfl⟩:=he
      exact yhc h ht hz hok.1.1 hok.1.2 e1 e2 hr hi' h0 hu
     ·cases hs
    ·cases hs
   ·cases hok
 | aidx m e p i=>
   simp only [zdd] at hok
   split at hok
   ·rename_i t y z hz
    simp only [Bool.and_eq_true] at hok
    obtain ⟨⟨h1,h2⟩,h3⟩:=hok
    split at h3
    ·rename_i len el hu
     simp only [Bool.and_eq_true,beq_iff_eq] at h3
     obtain ⟨rfl,h4⟩:=h3
     simp only [St.step] at hs
     split at hs
     ·rename_i r c up k q hr hi'
      split at hs
      ·rename_i hc
       cases hs
       exact yfv h ht hz h1 h2 hu h4 hr hi' hc.1 hc.2
      ·cases hs
     ·cases hs
    ·cases h3
   ·cases hok
 | part m off y=>
   simp only [zdd] at hok
   split at hok
   ·rename_i t y' f hz
    simp only [Bool.and_eq_true] at hok
    obtain ⟨fs,fl,e1,e2,rfl,e3,_⟩:=zi6 hok.2
    simp only [St.step] at hs
    split at hs
    ·rename_i cs hr
     have hcut:zwv cs fl.offset m=some v/\s1=x.st:=by
      cases m with
      | none=>
        simp only [Option.map_eq_some_iff] at hs
        obtain ⟨u,h1,h2⟩:=hs
        simp only [Prod.mk.injEq] at h2
        obtain ⟨rfl,rfl⟩:=h2
        exact ⟨h1,rfl⟩
      | some m=>
        simp only at hs
        split at hs
        ·rename_i hle
         simp only [Option.some.injEq,Prod.mk.injEq] at hs
         obtain ⟨rfl,rfl⟩:=hs
         exact ⟨by simp [zwv,hle],rfl⟩
        ·cases hs
     obtain ⟨h1,rfl⟩:=hcut
     exact ygg h ht hz hok.1 e1 e2 (e3 m rfl) hr h1
    ·cases hs
   ·cases hok
 | ext i y=>
   simp only [zdd] at hok
   split at hok
   ·rename_i y' j hz
    simp only [Bool.and_eq_true,beq_iff_eq] at hok
    obtain ⟨rfl,h1⟩:=hok
    simp only [St.step] at hs
    split at hs
    ·rename_i vs hr
     simp only [Option.map_eq_some_iff] at hs
     obtain ⟨u,hu,he⟩:=hs
     simp only [Prod.mk.injEq] at he
     obtain ⟨rfl,rfl⟩:=he
     exact ylh h ht hz h1 hr hu
    ·cases hs
   ·cases hok
 | sidx y i=>
   simp only [zdd] at hok
   split at hok
   ·rename_i t y' z hz
    simp only [Bool.and_eq_true] at hok
    simp only [St.step] at hs
    split at hs
    ·rename_i b k m hr hi'
     split at hs
     ·rename_i h0
      simp only [Option.map_eq_some_iff] at hs
      obtain ⟨u,hu,he⟩:=hs
      simp only [Prod.mk.injEq] at he
      obtain ⟨rfl,rfl⟩:=he
      exact yhl h ht hz hok.1.1 hok.1.2 (zdt hok.2) hr hi' h0 hu
     ·cases hs
    ·cases hs
   ·cases hok
 | len y=>
   simp only [zdd] at hok
   split at hok
   ·rename_i args ats hz
    split at hok
    ·rename_i y' t ts' ha hat
     have ha':=zl8 ha
     subst ha'
     simp only [Bool.and_eq_true] at hok
     have h2:=hok.2
     split at h2
     ·rename_i el hu
      simp only [St.step] at hs
      split at hs
      case h_2=>cases hs
      rename_i m hbm
      obtain ⟨p,hp,hm⟩:=Option.bind_eq_some_iff.1 hbm
      cases hs
      exact ylk h ht hz (zi2 hat) hok.1 hu hp hm
     ·cases h2
    ·cases hok
   ·cases hok
 | slen y=>
   simp only [zdd] at hok
   split at hok
   ·rename_i args ats hz
    split at hok
    ·rename_i y' t ts' ha hat
     have ha':=zl8 ha
     subst ha'
     simp only [Bool.and_eq_true] at hok
     simp only [St.step] at hs
     split at hs
     ·rename_i b hr
      cases hs
      exact yhr h ht hz (zi2 hat) hok.1 (zdt hok.2) hr
     ·cases hs
    ·cases hok
   ·cases hok
 | append e bytes frz y z=>
   simp only [zdd] at hok
   split at hok
   ·rename_i args ats hz
    split at hok
    ·rename_i u w t t' ha hat
     have ha':=zfd ha
     have hat':=zfd hat
     subst ha' hat'
     simp only [Bool.and_eq_true] at hok
     obtain ⟨⟨h1,h2⟩,h3⟩:=hok
     obtain ⟨el,hty⟩:=zw7 h3
     simp only [St.step] at hs
     split at hs
     ·rename_i p hp
      split at hs
      ·rename_i e' xs s2 htk
       split at hs
       ·rename_i he
        subst he
        split at hs
        ·rename_i b hb
         split at hs
         ·rename_i hc
          obtain ⟨rfl,hc⟩:=hc
          cases hs
          exact zvd h ht hz hty h1 h2 hp htk hb hc
         ·cases hs
        ·rename_i e2 ys hb
         split at hs
         ·rename_i hc
          obtain ⟨rfl,hc⟩:=hc
          cases hs
          exact zw3 h ht hz hty h1 h2 hp htk hb hc
         ·cases hs
        ·rename_i q hq1 hq2 hb
         split at hs
         ·rename_i e2 ys s3 htk2
          split at hs
          ·rename_i hc
           obtain ⟨rfl,hc⟩:=hc
           cases hs
           exact zlp h ht hz hty h1 h2 hp htk hb htk2 (.inl rfl) hc
          ·cases hs
         ·rename_i e2 ys s3 htk2
          split at hs
          ·rename_i hc
           obtain ⟨rfl,hc⟩:=hc
           cases hs
           exact zlp h ht hz hty h1 h2 hp htk hb htk2 (.inr rfl) hc
          ·cases hs
         ·cases hs
        ·cases hs
       ·cases hs
      ·cases hs
     ·cases hs
    ·cases hok
   ·cases hok
 | copy e y z=>cases hok
 | min2 y z=>
   simp only [zdd] at hok
   split at hok
   ·rename_i args ats hz
    split at hok
    ·rename_i u w ha
     have ha':=zfd ha
     subst ha'
     simp only [Bool.and_eq_true] at hok
     simp only [St.step] at hs
     split at hs
     ·rename_i k p k' q hp hq
      cases hs
      exact zpv h ht false hz hok.1 hok.2 hp hq
     ·cases hs
    ·cases hok
   ·cases hok
 | min3 y z u=>
   simp only [zdd] at hok
   split at hok
   ·rename_i args ats hz
    split at hok
    ·rename_i u w v ha
     have ha':args= #[u,w,v]:=by apply Array.toList_inj.1;simpa using ha
     subst ha'
     simp only [Bool.and_eq_true] at hok
     simp only [St.step] at hs
     split at hs
     ·rename_i k p k' q k2 r hp hq hr
      cases hs
      exact yht h ht hz hok.1.1 hok.1.2 hok.2 hp hq hr
     ·cases hs
    ·cases hok
   ·cases hok
 | max2 y z=>
   simp only [zdd] at hok
   split at hok
   ·rename_i args ats hz
    split at hok
    ·rename_i u w ha
     have ha':=zfd ha
     subst ha'
     simp only [Bool.and_eq_true] at hok
     simp only [St.step] at hs
     split at hs
     ·rename_i k p k' q hp hq
      cases hs
      exact zpv h ht true hz hok.1 hok.2 hp hq
     ·cases hs
    ·cases hok
   ·cases hok
 | call f ms frz args=>
   simp only [zdd] at hok
   split at hok
   ·rename_i g as ats hz
    simp only [Bool.and_eq_true,beq_iff_eq] at hok
    obtain ⟨rfl,h1⟩:=hok
    simp only [St.step] at hs
    split at hs
    ·rename_i vs hr
     split at hs
     ·split at hs
      ·rename_i xs ws s2 hp
       split at hs
       ·rename_i bs hw
        split at hs
        ·rename_i r bs' hrun
         split at hs
         ·rename_i s3 more hb
          exact yis hR h ht hz h1 hr hp hw hrun hb hs
         ·cases hs
        ·cases hs
       ·cases hs
      ·cases hs
     ·split at hs
      ·rename_i xs hv
       split at hs
       ·rename_i r bs' hrun
        split at hs
        ·rename_i hc
         obtain ⟨hbe,hfr⟩:=hc
         cases hs
         have:bs'=[]:=by simpa using hbe
         subst this
         exact yiv hR h ht hz h1 hr hv hrun hfr
        ·cases hs
       ·cases hs
      ·cases hs
    ·cases hs
   ·cases hok
 | tmov y=>
   simp only [St.step] at hs
   split at hs
   ·rename_i vs hr
    simp only [Option.map_eq_some_iff,Prod.mk.injEq] at hs
    obtain ⟨⟨ys,s2⟩,h1,rfl,rfl⟩:=hs
    simp only [zdd] at hok
    split at hok
    ·rename_i z hz;exact ya2 h ht (.inl hz) hok hr h1
    ·rename_i z hz;exact ya2 h ht (.inr hz) hok hr h1
    ·cases hok
   ·rename_i v _ hr
    simp only [zdd] at hok
    split at hok
    ·rename_i z hz;exact zy5 h ht (.inl hz) hok hr hs
    ·rename_i z hz;exact zy5 h ht (.inr hz) hok hr hs
    ·cases hok
   ·cases hs
 | extt i y=>
   simp only [zdd] at hok
   split at hok
   ·rename_i y' j hz
    simp only [Bool.and_eq_true,beq_iff_eq] at hok
    obtain ⟨rfl,h1⟩:=hok
    simp only [St.step] at hs
    split at hs
    ·rename_i vs hr
     simp only [Option.bind_eq_some_iff] at hs
     obtain ⟨u,hu,htk⟩:=hs
     exact ygq h ht hz h1 hr hu htk
    ·cases hs
   ·cases hok
 | boxk i=>
   simp only [zdd] at hok
   split at hok
   ·rename_i t y hz
    simp only [St.step] at hs
    split at hs
    ·rename_i u hu
     simp only [Option.map_eq_some_iff,Prod.mk.injEq] at hs
     obtain ⟨⟨z,s2⟩,h1,rfl,rfl⟩:=hs
     exact yhh h ht hz hok hu h1
    ·cases hs
   ·cases hok
 | lcall f y k=>
   simp only [zdd] at hok
   split at hok
   ·rename_i g as ats hz
    simp only [Bool.and_eq_true,beq_iff_eq] at hok
    obtain ⟨rfl,h1⟩:=hok
    simp only [St.step] at hs
    split at hs
    ·rename_i u ik im hu hk
     split at hs
     ·rename_i y1 s2 hl
      split at hs
      ·rename_i jk m t more hrun
       split at hs
       ·rename_i hc
        simp only [Bool.and_eq_true] at hc
        simp only [Option.map_eq_some_iff,Prod.mk.injEq] at hs
        obtain ⟨s3,hg,rfl,rfl⟩:=hs
        exact yco hR h ht hz h1 hu hk hl hrun hc.1 hc.2 hg
       ·cases hs
      ·cases hs
     ·cases hs
    ·cases hs
   ·cases hok
 | dyn y args=>
   simp only [zdd] at hok
   split at hok
   ·rename_i y' as ats hz
    simp only [Bool.and_eq_true] at hok
    simp only [St.step] at hs
    split at hs
    ·rename_i fv vs hf hr
     split at hs
     ·rename_i f conts xs hv hxs
      split at hs
      ·rename_i hall
       split at hs
       ·rename_i r bs' hrun
        split at hs
        ·rename_i hc
         obtain ⟨hbe,hfr⟩:=hc
         cases hs
         have:bs'=[]:=by simpa using hbe
         subst this
         exact ykg hR h ht hz hok.1 hok.2 hf hv hr hxs hall hrun hfr
        ·cases hs
       ·cases hs
      ·cases hs
     ·cases hs
    ·cases hs
   ·cases hok
end Go.Pm
namespace Go.Pm
structure Ext (X:Nat->Prop) (s s':St):Prop where
 len:s'.vars.length=s.vars.length
 boxes:s'.boxes=s.boxes
 eq:∀ i,¬ X i->s'.vars.getD i .gone=s.vars.getD i .gone
 gone:∀ i,X i->s.vars.getD i .gone=.gone
variable {X:Nat->Prop} {s s':St}
theorem zoh {s:St} {i:Nat} {v:V} (h:s.vars[i]? =some v):i<s.vars.length/\s.vars.getD i .gone=v:=by
 obtain ⟨hi,rfl⟩:=List.getElem?_eq_some_iff.1 h
 exact ⟨hi,za3 hi _⟩
theorem Ext.var (e:Ext X s s') {i:Nat} {v:V} (h:s.vars[i]? =some v) (hg:v ≠ .gone):s'.vars[i]? =some v:=by
 obtain ⟨hi,hv⟩:=zoh h
 have hx:¬ X i:=fun hx=>hg (by rw [<- hv,e.gone i hx])
 have h1:=e.eq i hx
 have hi':i<s'.vars.length:=by rw [e.len];exact hi
 rw [List.getElem?_eq_getElem hi',<- za3 hi' .gone,h1,hv]
theorem Ext.rd (e:Ext X s s') {o:Opnd} {v:V} (h:s.rd o=some v) (hg:v ≠ .gone):s'.rd o=some v:=by
 cases o with
 | con y=>exact h
 | reg i=>
   simp only [St.rd,Option.map_eq_some_iff] at h ⊢
   obtain ⟨u,hu,rfl⟩:=h
   refine ⟨u,e.var hu ?_,rfl⟩
   intro hu0;subst hu0;exact hg rfl
theorem Ext.root (e:Ext X s s') {r:Root} {cs:List V} (h:s.root r=some cs):s'.root r=some cs\/(∃ i,r=.var i/\s.vars.getD i .gone=.gone/\cs=[.gone]):=by
 cases r with
 | box k=>left;simp only [St.root] at h ⊢;rw [e.boxes];exact h
 | var i=>
   simp only [St.root,Option.map_eq_some_iff] at h ⊢
   obtain ⟨u,hu,rfl⟩:=h
   by_cases hg:u=.gone
   ·subst hg;right;exact ⟨i,rfl,(zoh hu).2,rfl⟩
   ·left;exact ⟨u,e.var hu hg,rfl⟩
theorem Ext.cont (e:Ext X s s'):∀ {up:List zbv} {r:Root} {cs:List V},s.cont r up=some cs->s'.cont r up=some cs\/(up=[]/\(∃ i,r=.var i/\s.vars.getD i .gone=.gone)/\cs=[.gone])
 | [],r,cs,h=>by
   rcases e.root h with h1|⟨i,h1,h2,h3⟩
   ·exact .inl h1
   ·exact .inr ⟨rfl,⟨i,h1,h2⟩,h3⟩
 | (i,e0,c)::up,r,cs,h=>by
   left
   simp only [St.cont] at h ⊢
   split at h
   ·rename_i os ho
    rcases Ext.cont e ho with h1|⟨_,_,h2⟩
    ·rw [h1];exact h
    ·subst h2
     split at h
     ·rename_i e' xs hx
      cases c with
      | zero=>simp at hx
      | succ c=>simp at hx
     ·cases h
   ·cases h
theorem Ext.cont_ok (e:Ext X s s') {up:List zbv} {r:Root} {cs:List V} (hok:r.okAt up=true) (h:s.cont r up=some cs):s'.cont r up=some cs:=by
 rcases e.cont h with h1|⟨rfl,⟨i,rfl,_⟩,_⟩
 ·exact h1
 ·cases hok
theorem Ext.get (e:Ext X s s') {r c up v} (h:s.get r c up=some v) (hg:v ≠ .gone):s'.get r c up=some v:=by
 simp only [St.get,Option.bind_eq_some_iff] at h ⊢
 obtain ⟨cs,h1,h2⟩:=h
 rcases e.cont h1 with h3|⟨_,_,h3⟩
 ·exact ⟨cs,h3,h2⟩
 ·subst h3
  cases c with
  | zero=>simp at h2;exact absurd h2.symm hg
  | succ c=>simp at h2
theorem Ext.wanted (e:Ext X s s') {g b} (h:s.wanted g=some b):s'.wanted g=some b:=by
 cases g with
 | none=>exact h
 | some p=>
   obtain ⟨j,w⟩:=p
   simp only [St.wanted] at h ⊢
   split at h
   ·rename_i b' hb
    rw [e.var hb (by simp)];exact h
   ·rename_i hb
    rw [e.var hb (by simp)];exact h
   ·cases h
theorem Ext.rds (e:Ext X s s'):∀ {os:List Opnd} {vs:List V},s.rds os=some vs->(∀ v∈vs,v ≠ .gone)->s'.rds os=some vs
 | [],vs,h,_=>h
 | o::os,vs,h,hg=>by
   simp only [St.rds] at h ⊢
   split at h
   ·rename_i v hv
    simp only [Option.map_eq_some_iff] at h
    obtain ⟨vs',h1,rfl⟩:=h
    rw [e.rd hv (hg v (by simp)),Ext.rds e h1 fun u hu=>hg u (by simp [hu])]
    rfl
   ·cases h
theorem Ext.rdParts (e:Ext X s s'):∀ {os:List (Nat×Nat×Opnd)} {vs},s.rdParts os=some vs->s'.rdParts os=some vs
 | [],vs,h=>h
 | (i,m,o)::os,vs,h=>by
   simp only [St.rdParts] at h ⊢
   split at h
   ·rename_i v hv
    split at h
    ·rename_i hc
     simp only [Option.map_eq_some_iff] at h
     obtain ⟨vs',h1,rfl⟩:=h
     have hs:v ≠ .gone:=by
      intro h0;subst h0;simp [V.solid] at hc
     rw [e.rd hv hs]
     simp only
     rw [if_pos hc,Ext.rdParts e h1]
     rfl
    ·cases h
   ·cases h
theorem Ext.elems (e:Ext X s s') {n v xs} (h:s.elems n v=some xs):s'.elems n v=some xs:=by
 unfold St.elems at h ⊢
 split at h
 ·split at h
  ·rename_i hg
   rw [e.get hg (by simp)];exact h
  ·cases h
 ·exact h
 ·exact h
 ·cases h
theorem Ext.viewLeaf (e:Ext X s s') {v y} (h:s.viewLeaf v=some y):s'.viewLeaf v=some y:=by
 unfold St.viewLeaf at h ⊢
 split at h
 ·split at h
  ·rename_i hg
   rw [e.get hg (by simp)];exact h
  ·cases h
 all_goals first|exact h|cases h
theorem Ext.views (e:Ext X s s'):∀ {vs ys},s.views vs=some ys->s'.views vs=some ys
 | [],ys,h=>h
 | v::vs,ys,h=>by
   simp only [St.views] at h ⊢
   split at h
   ·rename_i y hy
    simp only [Option.map_eq_some_iff] at h
    obtain ⟨ys',h1,rfl⟩:=h
    rw [e.viewLeaf hy,Ext.views e h1];rfl
   ·cases h
theorem Ext.viewCaps (e:Ext X s s'):∀ {vs ys},s.viewCaps vs=some ys->s'.viewCaps vs=some ys
 | [],ys,h=>h
 | v::vs,ys,h=>by
   unfold St.viewCaps at h
   split at h
   ·rename_i heq;cases heq
   ·rename_i k vs' heq
    simp only [List.cons.injEq] at heq
    obtain ⟨rfl,rfl⟩:=heq
    split at h
    ·rename_i cs hb
     split at h
     ·rename_i zs hz
      simp only [Option.map_eq_some_iff] at h
      obtain ⟨ys',h1,rfl⟩:=h
      unfold St.viewCaps
      have hb':s'.boxes[k]? =some cs:=by rw [e.boxes];exact hb
      simp only [hb',e.views hz,Ext.viewCaps e h1];rfl
     ·cases h
    ·cases h
   ·cases h
theorem Ext.view (e:Ext X s s') {v y} (h:s.view v=some y):s'.view v=some y:=by
 cases v with
 | agg cs=>
   simp only [St.view,Option.map_eq_some_iff] at h ⊢
   obtain ⟨ys,h1,h2⟩:=h
   exact ⟨ys,e.views h1,h2⟩
 | fn f caps=>
   simp only [St.view,Option.map_eq_some_iff] at h ⊢
   obtain ⟨ys,h1,h2⟩:=h
   exact ⟨ys,e.viewCaps h1,h2⟩
 | ref r c up=>
   simp only [St.view] at h ⊢
   split at h
   ·rename_i cs hc
    simp only [Option.map_eq_some_iff] at h
    obtain ⟨ys,h1,h2⟩:=h
    rcases e.cont hc with h3|⟨_,_,h3⟩
    ·rw [h3];simp only [Option.map_eq_some_iff];exact ⟨ys,e.views h1,h2⟩
    ·subst h3
     simp [borrows,V.borrow,St.views,St.viewLeaf] at h1
   ·cases h
 | _=>simp only [St.view] at h ⊢;exact e.viewLeaf h
theorem zlr {s:St} {v y} (h:s.view v=some y):v ≠ .gone:=by intro h0;subst h0;cases h
theorem Ext.viewsAll (e:Ext X s s'):∀ {vs ys},s.viewsAll vs=some ys->s'.viewsAll vs=some ys/\∀ v∈vs,v ≠ .gone
 | [],ys,h=>⟨h,by simp⟩
 | v::vs,ys,h=>by
   simp only [St.viewsAll] at h ⊢
   split at h
   ·rename_i y hy
    simp only [Option.map_eq_some_iff] at h
    obtain ⟨ys',h1,rfl⟩:=h
    obtain ⟨h2,h3⟩:=Ext.viewsAll e h1
    refine ⟨by rw [e.view hy,h2];rfl,fun u hu=> ?_⟩
    rcases List.mem_cons.1 hu with rfl|hu
    ·exact zlr hy
    ·exact h3 u hu
   ·cases h
theorem zdn {v:V} (h:zkx v=true) (s:St) (frz:Bool):zkw frz s v=some (v,s):=by
 cases v <;> first|(cases h;done)|(cases frz <;> rfl)
theorem ztx {s:St} {frz:Bool}:∀ {cs:List V},cs.all zkx=true->opl (zkw frz) s cs=some (cs,s)
 | [],_=>rfl
 | c::cs,h=>by
   simp only [List.all_cons,Bool.and_eq_true] at h
   simp only [opl,zdn h.1,ztx h.2];rfl
theorem ydf {s s1:St} {frz:Bool} {v y:V} (hf:zvk v=true) (h:opw (zkw frz) s v=some (y,s1)):s1=s/\∀ s':St,opw (zkw frz) s' v=some (y,s'):=by
 cases v with
 | agg cs=>
   have hf':cs.all zkx=true:=hf
   simp only [opw,ztx hf',Option.map_some,Option.some.injEq,Prod.mk.injEq] at h ⊢
   obtain ⟨rfl,rfl⟩:=h
   exact ⟨rfl,fun s'=>⟨rfl,trivial⟩⟩
 | tup vs=>cases frz <;> cases h
 | int k m=>simp only [opw,zdn (show zkx (.int k m)=true from rfl)] at h ⊢;cases h;exact ⟨rfl,fun _=>rfl⟩
 | bool b=>simp only [opw,zdn (show zkx (.bool b)=true from rfl)] at h ⊢;cases h;exact ⟨rfl,fun _=>rfl⟩
 | str b=>simp only [opw,zdn (show zkx (.str b)=true from rfl)] at h ⊢;cases h;exact ⟨rfl,fun _=>rfl⟩
 | imm e xs=>simp only [opw,zdn (show zkx (.imm e xs)=true from rfl)] at h ⊢;cases h;exact ⟨rfl,fun _=>rfl⟩
 | _=>simp [zvk,V.cells,zkx,zgb] at hf
theorem zge {frz:Bool}:∀ {vs:List V} {s s1:St} {ys},vs.all zvk=true->s.takesAll frz vs=some (ys,s1)->s1=s/\∀ s':St,s'.takesAll frz vs=some (ys,s')
 | [],s,s1,ys,_,h=>by cases h;exact ⟨rfl,fun _=>rfl⟩
 | v::vs,s,s1,ys,hf,h=>by
   simp only [List.all_cons,Bool.and_eq_true] at hf
   simp only [St.takesAll,zh6] at h ⊢
   split at h
   ·rename_i y s2 ho
    simp only [Option.map_eq_some_iff] at h
    obtain ⟨⟨ys',s3⟩,h1,h2⟩:=h
    simp only [Prod.mk.injEq] at h2
    obtain ⟨rfl,rfl⟩:=h2
    obtain ⟨rfl,g1⟩:=ydf hf.1 ho
    obtain ⟨rfl,g2⟩:=zge hf.2 h1
    exact ⟨rfl,fun s'=>by rw [g1 s'];simp only;rw [g2 s'];rfl⟩
   ·cases h
theorem zvm {vs:List V} (h:vs.all zvk=true):∀ v∈vs,v ≠ .gone:=by
 intro v hv h0
 subst h0
 have:=(List.all_eq_true.1 h) _ hv
 simp [zvk,V.cells,zkx,zgb] at this
theorem zte {v:V} (h:v.whole=true):v ≠ .gone:=by intro h0;subst h0;simp [V.whole,V.parts,V.cells,V.notGone] at h
end Go.Pm
namespace Go.Pm
variable {X:Nat->Prop} {s s':St}
theorem zib (e:Ext X s s') {d:Int} {o:Option Opnd} {i:Int} (h:zqk s d o=some i):zqk s' d o=some i:=by
 cases o with
 | none=>exact h
 | some o=>
   simp only [zqk,Option.bind_eq_some_iff] at h ⊢
   obtain ⟨v,h1,h2⟩:=h
   exact ⟨v,e.rd h1 (by intro h0;subst h0;cases h2),h2⟩
theorem ydl {R:zan} {h:HOp} {v:V} {s1:St} (hp:h.pure=true) (hl:s.listOk h=true)
 (hs:s.step R h=some (v,s1)) (hw:v.whole=true):s1=s/\∀ {X s'},Ext X s s'->s'.step R h=some (v,s')/\s'.listOk h=true:=by
 have hg:=zte hw
 cases h with
 | mov x=>
   simp only [St.step,Option.map_eq_some_iff,Prod.mk.injEq] at hs
   obtain ⟨u,h1,rfl,rfl⟩:=hs
   exact ⟨rfl,fun e=>⟨by simp only [St.step,e.rd h1 hg,Option.map_some],rfl⟩⟩
 | pick c a b=>
   simp only [St.step] at hs
   split at hs
   ·rename_i t hc
    simp only [Option.map_eq_some_iff,Prod.mk.injEq] at hs
    obtain ⟨u,h1,rfl,rfl⟩:=hs
    exact ⟨rfl,fun e=>⟨by simp only [St.step,e.rd hc (by simp),e.rd h1 hg,Option.map_some],rfl⟩⟩
   ·cases hs
 | build z ps=>
   simp only [St.step,Option.map_eq_some_iff,Prod.mk.injEq] at hs
   obtain ⟨u,h1,rfl,rfl⟩:=hs
   exact ⟨rfl,fun e=>⟨by simp only [St.step,e.rdParts h1,Option.map_some],rfl⟩⟩
 | list n frz xs=>
   simp only [St.step] at hs
   split at hs
   ·rename_i vs hr
    simp only [St.listOk,hr] at hl
    split at hs
    ·rename_i ys s2 htk
     obtain ⟨rfl,htk'⟩:=zge hl htk
     split at hs
     ·rename_i hc
      simp only [Option.some.injEq,Prod.mk.injEq] at hs
      obtain ⟨rfl,rfl⟩:=hs
      refine ⟨rfl,fun {X s'} e=> ?_⟩
      have hr':=e.rds hr (zvm hl)
      exact ⟨by simp only [St.step,hr',htk' s',if_pos hc],by simp only [St.listOk,hr',hl]⟩
     ·cases hs
    ·cases hs
   ·cases hs
 | load n p=>
   simp only [St.step] at hs
   split at hs
   ·rename_i r c up hr
    split at hs
    ·rename_i cs hc
     have key:(cs=[.gone]->False):=by
      intro h0
      subst h0
      cases n with
      | none=>
        simp only [Option.map_eq_some_iff,Prod.mk.injEq] at hs
        obtain ⟨u,h1,rfl,_⟩:=hs
        cases c with
        | zero=>simp at h1;subst h1;exact hg rfl
        | succ c=>simp at h1
      | some m=>
        simp only at hs
        split at hs
        ·simp only [Option.some.injEq,Prod.mk.injEq] at hs
         obtain ⟨rfl,_⟩:=hs
         simp only [V.whole,V.cells,Bool.and_eq_true] at hw
         obtain ⟨⟨_,h1⟩,h2⟩:=hw
         cases c with
         | zero=>
           cases m with
           | zero=>simp [borrows] at h1
           | succ m=>simp [borrows,V.borrow,V.notGone] at h2
         | succ c=>simp [borrows] at h1
        ·cases hs
     have hs1:s1=s:=by
      cases n with
      | none=>
        simp only [Option.map_eq_some_iff,Prod.mk.injEq] at hs
        obtain ⟨u,_,_,h1⟩:=hs;exact h1.symm
      | some m=>
        simp only at hs
        split at hs
        ·simp only [Option.some.injEq,Prod.mk.injEq] at hs;exact hs.2.symm
        ·cases hs
     refine ⟨hs1,fun {X s'} e=>⟨?_,rfl⟩⟩
     rcases e.cont hc with h1|⟨_,_,h1⟩
     ·simp only [St.step,e.rd hr (by simp),h1]
      cases n with
      | none=>
        simp only [Option.map_eq_some_iff,Prod.mk.injEq] at hs ⊢
        obtain ⟨u,h1,h2,_⟩:=hs;exact ⟨u,h1,h2,by trivial⟩
      | some m=>
        simp only at hs ⊢
        split at hs
        ·rename_i hle
         simp only [Option.some.injEq,Prod.mk.injEq] at hs
         rw [if_pos hle,hs.1]
        ·cases hs
     ·exact (key h1).elim
    ·cases hs
   ·rename_i cs c hr
    have hs1:s1=s:=by
     cases n with
     | none=>
       simp only [Option.map_eq_some_iff,Prod.mk.injEq] at hs
       obtain ⟨u,_,_,h1⟩:=hs;exact h1.symm
     | some m=>
       simp only at hs
       split at hs
       ·simp only [Option.some.injEq,Prod.mk.injEq] at hs;exact hs.2.symm
       ·cases hs
    refine ⟨hs1,fun {X s'} e=>⟨?_,rfl⟩⟩
    simp only [St.step,e.rd hr (by simp)]
    cases n with
    | none=>
      simp only [Option.map_eq_some_iff,Prod.mk.injEq] at hs ⊢
      obtain ⟨u,h1,h2,_⟩:=hs;exact ⟨u,h1,h2,by trivial⟩
    | some m=>
      simp only at hs ⊢
      split at hs
      ·rename_i hle
       simp only [Option.some.injEq,Prod.mk.injEq] at hs
       rw [if_pos hle,hs.1]
      ·cases hs
   ·cases hs
 | chk x=>
   simp only [St.step] at hs
   split at hs <;> first
    | (cases hs;done)
    | (rename_i hr;cases hs;exact ⟨rfl,fun e=>⟨by simp only [St.step,e.rd hr (by simp)],rfl⟩⟩)
 | bin op x y=>
   simp only [St.step] at hs
   split at hs
   ·rename_i p q h1 h2
    simp only [Option.map_eq_some_iff,Prod.mk.injEq] at hs
    obtain ⟨u,h3,rfl,rfl⟩:=hs
    have n1:p ≠ .gone:=by intro h0;subst h0;cases h3
    have n2:q ≠ .gone:=by intro h0;subst h0;cases p <;> cases h3
    exact ⟨rfl,fun e=>⟨by simp only [St.step,e.rd h1 n1,e.rd h2 n2,h3,Option.map_some],rfl⟩⟩
   ·cases hs
 | beq neg x y=>
   simp only [St.step] at hs
   split at hs
   ·rename_i p q h1 h2
    cases hs
    exact ⟨rfl,fun e=>⟨by simp only [St.step,e.rd h1 (by simp),e.rd h2 (by simp)],rfl⟩⟩
   ·cases hs
 | un op x=>
   simp only [St.step,Option.map_eq_some_iff,Option.bind_eq_some_iff,Prod.mk.injEq] at hs
   obtain ⟨u,⟨p,h1,h2⟩,rfl,rfl⟩:=hs
   have n1:p ≠ .gone:=by intro h0;subst h0;cases h2
   exact ⟨rfl,fun e=>⟨by simp only [St.step,e.rd h1 n1,Option.bind_some,h2,Option.map_some],rfl⟩⟩
 | conv k x=>
   simp only [St.step] at hs
   split at hs
   ·rename_i h1
    cases hs
    exact ⟨rfl,fun e=>⟨by simp only [St.step,e.rd h1 (by simp)],rfl⟩⟩
   ·cases hs
 | toStr x=>
   simp only [St.step] at hs
   split at hs
   ·rename_i p h1
    simp only [Option.map_eq_some_iff,Option.bind_eq_some_iff,Prod.mk.injEq] at hs
    obtain ⟨bs,⟨ys,h2,h3⟩,rfl,rfl⟩:=hs
    have n1:p ≠ .gone:=by intro h0;subst h0;cases h2
    exact ⟨rfl,fun e=>⟨by simp only [St.step,e.rd h1 n1,e.elems h2,Option.bind_some,h3,Option.map_some],rfl⟩⟩
   ·cases hs
 | toBytes x=>
   simp only [St.step] at hs
   split at hs
   ·rename_i h1
    cases hs
    exact ⟨rfl,fun e=>⟨by simp only [St.step,e.rd h1 (by simp)],rfl⟩⟩
   ·cases hs
 | func f caps=>
   simp only [St.step,Option.map_eq_some_iff,Prod.mk.injEq] at hs
   obtain ⟨vs,h1,rfl,rfl⟩:=hs
   have hn:∀ u∈vs,u ≠ .gone:=by
    intro u hu h0
    subst h0
    simp only [V.whole,V.parts,V.cells,List.all_cons,List.all_nil,V.notGone,Bool.and_eq_true,List.all_eq_true] at hw
    have:=hw.2.1 _ hu
    simp [V.isGone] at this
   exact ⟨rfl,fun e=>⟨by simp only [St.step,e.rds h1 hn,Option.map_some],rfl⟩⟩
 | make n b z x=>
   simp only [St.step] at hs
   split at hs
   ·rename_i h1
    split at hs
    ·rename_i hc
     cases hs
     exact ⟨rfl,fun e=>⟨by simp only [St.step,e.rd h1 (by simp),if_pos hc],rfl⟩⟩
    ·cases hs
   ·cases hs
 | slice n x lo hi=>
   simp only [St.step] at hs
   split at hs
   ·rename_i p h1
    split at hs
    ·rename_i m l hm hl'
     have n1:p ≠ .gone:=by intro h0;subst h0;cases hm
     split at hs
     ·rename_i u hu
      split at hs
      ·rename_i hc
       have hs1:s1=s:=by
        split at hs <;> first
         | (cases hs;done)
         | (split at hs <;> first|(cases hs;done)|(cases hs;rfl))
       subst hs1
       refine ⟨rfl,fun {X s'} e=>⟨?_,rfl⟩⟩
       have hl2:=zib (d:=0) (o:=lo) e (by cases lo <;> exact hl')
       have hu2:=zib (d:=(m:Int)) (o:=hi) e (by cases hi <;> exact hu)
       cases lo <;> cases hi <;> simp only [zqk,Option.some.injEq] at hl2 hu2 <;> (try subst hl2) <;> (try subst hu2) <;> simp only [St.step,e.rd h1 n1,hm, *,if_pos hc]
       all_goals split at hs <;> first
        | (cases hs;done)
        | (split at hs <;> first|(cases hs;done)|(rename_i he;cases hs;simp [he]))
      ·cases hs
     ·cases hs
    ·cases hs
   ·cases hs
 | sslice x lo hi=>
   simp only [St.step] at hs
   split at hs
   ·rename_i b h1
    split at hs
    ·rename_i l hl'
     split at hs
     ·rename_i u hu
      split at hs
      ·rename_i hc
       cases hs
       refine ⟨rfl,fun {X s'} e=>⟨?_,rfl⟩⟩
       have hl2:=zib (d:=0) (o:=lo) e (by cases lo <;> exact hl')
       have hu2:=zib (d:=(b.size:Int)) (o:=hi) e (by cases hi <;> exact hu)
       cases lo <;> cases hi <;> simp only [zqk,Option.some.injEq] at hl2 hu2 <;> (try subst hl2) <;> (try subst hu2) <;> simp only [St.step,e.rd h1 (by simp), *,if_pos hc,and_self,if_true]
      ·cases hs
     ·cases hs
    ·cases hs
   ·cases hs
 | fld off p=>
   simp only [St.step] at hs
   split at hs <;> first
    | (cases hs;done)
    | (rename_i hr;cases hs;exact ⟨rfl,fun e=>⟨by simp only [St.step,e.rd hr (by simp)],rfl⟩⟩)
 | idx n p i=>
   simp only [St.step] at hs
   split at hs
   ·rename_i h1 h2
    split at hs
    ·rename_i hc
     cases hs
     exact ⟨rfl,fun e=>⟨by simp only [St.step,e.rd h1 (by simp),e.rd h2 (by simp),if_pos hc],rfl⟩⟩
    ·cases hs
   ·rename_i h1 h2
    split at hs
    ·rename_i hc
     simp only [Option.map_eq_some_iff,Prod.mk.injEq] at hs
     obtain ⟨u,h3,rfl,rfl⟩:=hs
     exact ⟨rfl,fun e=>⟨by simp only [St.step,e.rd h1 (by simp),e.rd h2 (by simp),if_pos hc,h3,Option.map_some],rfl⟩⟩
    ·cases hs
   ·cases hs
 | aidx m n p i=>
   simp only [St.step] at hs
   split at hs
   ·rename_i h1 h2
    split at hs
    ·rename_i hc
     cases hs
     exact ⟨rfl,fun e=>⟨by simp only [St.step,e.rd h1 (by simp),e.rd h2 (by simp),if_pos hc],rfl⟩⟩
    ·cases hs
   ·cases hs
 | part n off x=>
   simp only [St.step] at hs
   split at hs
   ·rename_i cs h1
    have hs1:s1=s:=by
     cases n with
     | none=>
       simp only [Option.map_eq_some_iff,Prod.mk.injEq] at hs
       obtain ⟨u,_,_,h1⟩:=hs;exact h1.symm
     | some m=>
       simp only at hs
       split at hs
       ·simp only [Option.some.injEq,Prod.mk.injEq] at hs;exact hs.2.symm
       ·cases hs
    refine ⟨hs1,fun {X s'} e=>⟨?_,rfl⟩⟩
    simp only [St.step,e.rd h1 (by simp)]
    cases n with
    | none=>
      simp only [Option.map_eq_some_iff,Prod.mk.injEq] at hs ⊢
      obtain ⟨u,h1,h2,_⟩:=hs;exact ⟨u,h1,h2,by trivial⟩
    | some m=>
      simp only at hs ⊢
      split at hs
      ·rename_i hle
       simp only [Option.some.injEq,Prod.mk.injEq] at hs
       rw [if_pos hle,hs.1]
      ·cases hs
   ·cases hs
 | ext i x=>
   simp only [St.step] at hs
   split at hs
   ·rename_i vs h1
    simp only [Option.map_eq_some_iff,Prod.mk.injEq] at hs
    obtain ⟨u,h3,rfl,rfl⟩:=hs
    exact ⟨rfl,fun e=>⟨by simp only [St.step,e.rd h1 (by simp),h3,Option.map_some],rfl⟩⟩
   ·cases hs
 | sidx x i=>
   simp only [St.step] at hs
   split at hs
   ·rename_i h1 h2
    split at hs
    ·rename_i hc
     simp only [Option.map_eq_some_iff,Prod.mk.injEq] at hs
     obtain ⟨u,h3,rfl,rfl⟩:=hs
     exact ⟨rfl,fun e=>⟨by simp only [St.step,e.rd h1 (by simp),e.rd h2 (by simp),if_pos hc,h3,Option.map_some],rfl⟩⟩
    ·cases hs
   ·cases hs
 | len x=>
   simp only [St.step] at hs
   split at hs
   ·rename_i n hn
    obtain ⟨p,h1,h2⟩:=Option.bind_eq_some_iff.1 hn
    cases hs
    have n1:p ≠ .gone:=by intro h0;subst h0;cases h2
    exact ⟨rfl,fun e=>⟨by simp only [St.step,e.rd h1 n1,Option.bind_some,h2],rfl⟩⟩
   ·cases hs
 | slen x=>
   simp only [St.step] at hs
   split at hs
   ·rename_i h1
    cases hs
    exact ⟨rfl,fun e=>⟨by simp only [St.step,e.rd h1 (by simp)],rfl⟩⟩
   ·cases hs
 | aeq m x y=>
   simp only [St.step] at hs
   split at hs
   ·rename_i h1 h2
    split at hs
    ·rename_i hm
     simp only [Option.map_eq_some_iff] at hs
     obtain ⟨r,hr,hs⟩:=hs
     cases hs
     exact ⟨rfl,fun e=>⟨by simp only [St.step,e.rd h1 (by simp),e.rd h2 (by simp),if_pos hm,hr,Option.map_some],rfl⟩⟩
    ·cases hs
   ·cases hs
 | min2 x y=>
   simp only [St.step] at hs
   split at hs
   ·rename_i h1 h2
    cases hs
    exact ⟨rfl,fun e=>⟨by simp only [St.step,e.rd h1 (by simp),e.rd h2 (by simp)],rfl⟩⟩
   ·cases hs
 | min3 x y z=>
   simp only [St.step] at hs
   split at hs
   ·rename_i h1 h2 h3
    cases hs
    exact ⟨rfl,fun e=>⟨by simp only [St.step,e.rd h1 (by simp),e.rd h2 (by simp),e.rd h3 (by simp)],rfl⟩⟩
   ·cases hs
 | max2 x y=>
   simp only [St.step] at hs
   split at hs
   ·rename_i h1 h2
    cases hs
    exact ⟨rfl,fun e=>⟨by simp only [St.step,e.rd h1 (by simp),e.rd h2 (by simp)],rfl⟩⟩
   ·cases hs
 | tmov y=>cases hl
 | extt i y=>cases hl
 | boxk i=>cases hl
 | lcall f y k=>cases hl
 | call f ms frz args=>
   have hfrz:frz=false:=by simpa [HOp.pure] using hp
   subst hfrz
   simp only [St.step] at hs
   split at hs
   ·rename_i vs h1
    simp only [Bool.false_eq_true,if_false] at hs
    split at hs
    ·rename_i xs h2
     split at hs
     ·rename_i r bs' h3
      split at hs
      ·rename_i hc
       cases hs
       refine ⟨rfl,fun {X s'} e=>⟨?_,rfl⟩⟩
       obtain ⟨h4,h5⟩:=e.viewsAll h2
       simp only [St.step,e.rds h1 h5,Bool.false_eq_true,if_false,h4,h3,if_pos hc]
      ·cases hs
     ·cases hs
    ·cases hs
   ·cases hs
 | dyn x args=>
   simp only [St.step] at hs
   split at hs
   ·rename_i fv vs h1 h2
    split at hs
    ·rename_i f conts xs h3 h4
     split at hs
     ·rename_i hall
      split at hs
      ·rename_i r bs' h5
       split at hs
       ·rename_i hc
        cases hs
        refine ⟨rfl,fun {X s'} e=>⟨?_,rfl⟩⟩
        obtain ⟨h6,h7⟩:=e.viewsAll h4
        simp only [St.step,e.rd h1 (zlr h3),e.rds h2 h7,e.view h3,h6,if_pos hall,h5,if_pos hc]
       ·cases hs
      ·cases hs
     ·cases hs
    ·cases hs
   ·cases hs
 | _=>cases hp
theorem zkg {R:zan} {h:HOp} {v:V} (hp:s.peek R h=some v):h.pure=true/\v.whole=true/\s.step R h=some (v,s)/\∀ {X s'},Ext X s s'->s'.peek R h=some v:=by
 unfold St.peek at hp
 split at hp
 ·rename_i hpure
  split at hp
  ·rename_i u s1 hl hs
   split at hp
   ·rename_i hw
    cases hp
    obtain ⟨rfl,h1⟩:=ydl hpure hl hs hw
    refine ⟨hpure,hw,hs,fun {X s'} e=> ?_⟩
    obtain ⟨h2,h3⟩:=h1 e
    unfold St.peek
    rw [if_pos hpure,h2]
    split
    ·rename_i heq;cases heq;rw [if_pos hw]
    ·rename_i hn;exact (hn _ _ h3 rfl).elim
   ·cases hp
  ·cases hp
 ·cases hp
theorem zwq {R:zan} {ns:Nat} {q:Item} {v:V} {s0:St} (h0:s0.only ns q.keep=s) (he:zd1 R s0 ns q=some v) (e:Ext X s s'):
 (s'.wanted q.g=some true/\s'.peek R q.h=some v)\/(s'.wanted q.g=some false/\v=.tup []):=by
 unfold zd1 at he
 rw [h0] at he
 split at he
 ·rename_i hw;exact .inl ⟨e.wanted hw,(zkg he).2.2.2 e⟩
 ·rename_i hw;exact .inr ⟨e.wanted hw,by cases he;rfl⟩
 ·cases he
end Go.Pm
namespace Go.Pm
def XT {α:Type} (s s1:St) (F:St->Option (α×St)) (r:α):Prop:=
 ∃ K:V->V,Strike K/\∀ (X:Nat->Prop) (s':St),Ext X s s'->∃ s1',F s'=some (r,s1')/\Ext X s1 s1'/\∀ i,X i->s1'.vars.getD i .gone=V.leafwise K (s'.vars.getD i .gone)
theorem zdr:Strike (fun v=>v):=⟨fun _=>.inl rfl,fun _=>rfl,fun _=>rfl⟩
theorem zch (v:V):V.leafwise (fun v=>v) v=v:=by
 cases v with
 | agg cs=>simp [V.leafwise]
 | tup vs=>
   simp only [V.leafwise]
   congr 1
   induction vs with
   | nil=>rfl
   | cons v vs ih=>simp only [List.map_cons,ih];congr 1;cases v <;> simp
 | _=>rfl
theorem zbi {f:V->V} (hf:Strike f):V.leafwise f .gone=.gone:=by
 simp only [V.leafwise];rcases hf.or .gone with h|h <;> exact h
section
variable {α β:Type} {s s1 s2:St}
theorem XT.refl {F:St->Option (α×St)} {r:α} (h:∀ X s',Ext X s s'->F s'=some (r,s')):XT s s F r:=
 ⟨fun v=>v,zdr,fun X s' e=>⟨s',h X s' e,e,fun i _=>(zch _).symm⟩⟩
theorem XT.bind {F:St->Option (α×St)} {r:α} {G:α->St->Option (β×St)} {t:β} (h1:XT s s1 F r) (h2:XT s1 s2 (G r) t):
 XT s s2 (fun s=>match F s with|some (x,s1)=>G x s1|none=>none) t:=by
 obtain ⟨K1,k1,f1⟩:=h1
 obtain ⟨K2,k2,f2⟩:=h2
 refine ⟨fun v=>K2 (K1 v),zc3 k2 k1,fun X s' e=> ?_⟩
 obtain ⟨s1',g1,e1,x1⟩:=f1 X s' e
 obtain ⟨s2',g2,e2,x2⟩:=f2 X s1' e1
 exact ⟨s2',by simp only [g1,g2],e2,fun i hi=>by rw [x2 i hi,x1 i hi,zbg k2 k1]⟩
theorem XT.eq {F G:St->Option (α×St)} {r:α} (h:XT s s1 F r) (hh:∀ s,F s=G s):XT s s1 G r:=by
 obtain ⟨K,k,f⟩:=h
 exact ⟨K,k,fun X s' e=>by rw [<- hh];exact f X s' e⟩
theorem XT.eqE {F G:St->Option (α×St)} {r:α} (h:XT s s1 F r) (hh:∀ X s',Ext X s s'->F s'=G s'):XT s s1 G r:=by
 obtain ⟨K,k,f⟩:=h
 exact ⟨K,k,fun X s' e=>by rw [<- hh X s' e];exact f X s' e⟩
theorem XT.map {F:St->Option (α×St)} {r:α} (h:XT s s1 F r) (m:α->β):XT s s1 (fun s=>(F s).map fun(x,s)=>(m x,s)) (m r):=by
 obtain ⟨K,k,f⟩:=h
 refine ⟨K,k,fun X s' e=> ?_⟩
 obtain ⟨s1',g1,e1,x1⟩:=f X s' e
 exact ⟨s1',by simp only [g1,Option.map_some],e1,x1⟩
end
variable {X:Nat->Prop} {s s' s1:St}
theorem Ext.map (e:Ext X s s') {K:V->V} (hK:Strike K) (bs:List (List V)):Ext X { vars:=s.vars.map (V.leafwise K),boxes:=bs } { vars:=s'.vars.map (V.leafwise K),boxes:=bs }/\
 ∀ i,X i->(s'.vars.map (V.leafwise K)).getD i .gone=V.leafwise K (s'.vars.getD i .gone):=by
 have hg:=zbi hK
 refine ⟨⟨by simp [e.len],rfl,fun i hi=> ?_,fun i hi=> ?_⟩,fun i _=>zas _ hg i⟩
 ·simp only;rw [zas _ hg,zas _ hg,e.eq i hi]
 ·simp only;rw [zas _ hg,e.gone i hi,hg]
theorem zg0 (l:List V) (i j:Nat) (f:V->V):(l.modify i f).getD j .gone=if i=j/\j<l.length then f (l.getD j .gone) else l.getD j .gone:=by
 simp only [List.getD,List.getElem?_modify]
 by_cases h:i=j
 ·subst h
  by_cases hl:i<l.length
  ·simp [hl]
  ·simp [hl]
 ·simp [h]
theorem Ext.setRoot (e:Ext X s s') {r:Root} {cs:List V} (hr:∀ i,r=.var i->¬ X i):Ext X (s.setRoot r cs) (s'.setRoot r cs)/\∀ i,X i->(s'.setRoot r cs).vars.getD i .gone=s'.vars.getD i .gone:=by
 cases r with
 | var i=>
   have hi:=hr i rfl
   refine ⟨⟨by simp [St.setRoot,e.len],e.boxes,fun j hj=> ?_,fun j hj=> ?_⟩,fun j hj=> ?_⟩
   ·simp only [St.setRoot,zg0,e.len,e.eq j hj]
   ·simp only [St.setRoot,zg0]
    rw [if_neg (fun (h:i=j/\_)=>hi (h.1 ▸ hj))];exact e.gone j hj
   ·simp only [St.setRoot,zg0]
    rw [if_neg (fun (h:i=j/\_)=>hi (h.1 ▸ hj))]
 | box k=>
   exact ⟨⟨e.len,by simp [St.setRoot,e.boxes],e.eq,e.gone⟩,fun _ _=>rfl⟩
theorem Ext.setCont:∀ {up:List zbv} {r:Root} {cs:List V} {s1:St},Ext X s s'->(up=[]->∀ i,r=.var i->s.vars.getD i .gone ≠ .gone)->s.setCont r up cs=some s1->
 ∃ s1',s'.setCont r up cs=some s1'/\Ext X s1 s1'/\∀ i,X i->s1'.vars.getD i .gone=s'.vars.getD i .gone
 | [],r,cs,s1,e,hr,h=>by
   simp only [St.setCont,Option.some.injEq] at h
   subst h
   obtain ⟨h1,h2⟩:=e.setRoot (r:=r) (cs:=cs) (fun i hi hx=>hr rfl i hi (e.gone i hx))
   exact ⟨_,rfl,h1,h2⟩
 | (i,n,c)::up,r,cs,s1,e,hr,h=>by
   simp only [St.setCont] at h ⊢
   split at h
   ·rename_i os ho
    split at h
    ·rename_i e' xs hx
     split at h
     ·rename_i y hy
      have hr2:up=[]->∀ j,r=.var j->s.vars.getD j .gone ≠ .gone:=by
       intro h0 j hj hgj
       subst h0 hj
       simp only [St.cont] at ho
       rcases za6 ho with ⟨j',h1,_,rfl⟩|⟨k,h1,_⟩
       ·cases h1
        rw [hgj] at hx
        cases c with
        | zero=>simp [V.cells] at hx
        | succ c=>simp [V.cells] at hx
       ·cases h1
      obtain ⟨s1',h1,h2,h3⟩:=Ext.setCont e hr2 h
      refine ⟨s1',?_,h2,h3⟩
      rcases e.cont ho with h4|⟨h4,⟨j,hj,_⟩,h5⟩
      ·simp only [h4,hx,hy];exact h1
      ·subst h5
       cases c with
       | zero=>simp at hx
       | succ c=>simp at hx
     ·cases h
    ·cases h
   ·cases h
theorem Ext.put (e:Ext X s s') {r c up v s1} (hr:up=[]->∀ i,r=.var i->s.vars.getD i .gone ≠ .gone) (h:s.put r c up v=some s1):
 ∃ s1',s'.put r c up v=some s1'/\Ext X s1 s1'/\∀ i,X i->s1'.vars.getD i .gone=s'.vars.getD i .gone:=by
 simp only [St.put] at h ⊢
 split at h
 ·rename_i cs hc
  split at h
  ·rename_i hlt
   obtain ⟨s1',h1,h2,h3⟩:=e.setCont hr h
   refine ⟨s1',?_,h2,h3⟩
   rcases e.cont hc with h4|⟨h4,⟨j,hj,h5⟩,_⟩
   ·simp only [h4,if_pos hlt];exact h1
   ·exact (hr h4 j hj h5).elim
  ·cases h
 ·cases h
theorem yc9 {r c up v} (h:s.get r c up=some v) (hg:v ≠ .gone):up=[]->∀ i,r=.var i->s.vars.getD i .gone ≠ .gone:=by
 intro h0 i hi h1
 subst h0 hi
 obtain ⟨cs,h2,h3,h4⟩:=zba h
 rcases za6 (show s.root (.var i)=some cs from h2) with ⟨j,h5,_,rfl⟩|⟨k,h5,_⟩
 ·cases h5
  rw [h1] at h3 h4
  have:c=0:=by simpa [V.cells] using h3
  subst this
  exact hg h4.symm
 ·cases h5
theorem zl3 {r c up u v:_} {c0 d:Nat} {y:V} (hg:s.get r c up=some u) (hu:u ≠ .gone) (h:s.put r c up v=some s1):
 XT s (s1.kill r c0 d) (fun s=>(s.put r c up v).map fun s'=>(y,s'.kill r c0 d)) y:=by
 refine ⟨V.kill1 r c0 d,zbf r c0 d,fun X s' e=> ?_⟩
 obtain ⟨s1',h1,h2,h3⟩:=e.put (yc9 hg hu) h
 obtain ⟨h4,h5⟩:=h2.map (zbf r c0 d) s1.boxes
 refine ⟨s1'.kill r c0 d,by simp only [h1,Option.map_some],?_,fun i hi=> ?_⟩
 ·have:s1'.boxes=s1.boxes:=h2.boxes
  show Ext X { s1 with vars:=_ } { s1' with vars:=_ }
  rw [this];exact h4
 ·have:=h5 i hi
  rw [h3 i hi] at this;exact this
theorem zjh {z y:V} (h:s.takeLeaf z=some (y,s1)):XT s s1 (fun s=>s.takeLeaf z) y:=by
 have plain:(∀ s:St,s.takeLeaf z=some (z,s))->XT s s1 (fun s=>s.takeLeaf z) y:=fun hp=>by
  rw [hp s] at h;cases h
  exact .refl fun X s' e=>hp s'
 cases z with
 | hd e0 r c up lo hi=>
   simp only [St.takeLeaf] at h
   split at h
   ·rename_i e xs hg
    split at h
    ·rename_i hle
     simp only [Option.map_eq_some_iff,Prod.mk.injEq] at h
     obtain ⟨s2,h1,rfl,rfl⟩:=h
     refine (zl3 hg (by simp) h1).eqE fun X s' ex=> ?_
     simp only [St.takeLeaf,ex.get hg (by simp),if_pos hle]
    ·cases h
   ·cases h
 | int k m=>exact plain fun _=>rfl
 | bool b=>exact plain fun _=>rfl
 | str b=>exact plain fun _=>rfl
 | imm e xs=>exact plain fun _=>rfl
 | pnil=>exact plain fun _=>rfl
 | own e xs=>
   cases xs with
   | nil=>exact plain fun _=>rfl
   | cons x xs=>cases h
 | _=>cases h
theorem zoa {z y:V} (h:s.freezeLeaf z=some (y,s1)):XT s s1 (fun s=>s.freezeLeaf z) y:=by
 have plain:∀ z',(∀ s:St,s.freezeLeaf z=some (z',s))->XT s s1 (fun s=>s.freezeLeaf z) y:=fun z' hp=>by
  rw [hp s] at h;cases h
  exact .refl fun X s' e=>hp s'
 cases z with
 | hd e0 r c up lo hi=>
   simp only [St.freezeLeaf] at h
   split at h
   ·rename_i e xs hg
    split at h
    ·rename_i hle
     simp only [Option.map_eq_some_iff,Prod.mk.injEq] at h
     obtain ⟨s2,h1,rfl,rfl⟩:=h
     refine (zl3 hg (by simp) h1).eqE fun X s' ex=> ?_
     simp only [St.freezeLeaf,ex.get hg (by simp),if_pos hle]
    ·cases h
   ·cases h
 | int k m=>exact plain _ fun _=>rfl
 | bool b=>exact plain _ fun _=>rfl
 | str b=>exact plain _ fun _=>rfl
 | imm e xs=>exact plain _ fun _=>rfl
 | pnil=>exact plain _ fun _=>rfl
 | own e xs=>
   cases xs with
   | nil=>exact plain _ fun _=>rfl
   | cons x xs=>cases h
 | _=>cases h
theorem ydv {frz:Bool} {z y:V} (h:zkw frz s z=some (y,s1)):XT s s1 (fun s=>zkw frz s z) y:=by
 cases frz
 ·exact zjh h
 ·exact zoa h
theorem zz4 {op:St->V->Option (V×St)} (hop:∀ (s s1:St) (z y:V),op s z=some (y,s1)->XT s s1 (fun s=>op s z) y):∀ {cs ys:List V} {s s1:St},opl op s cs=some (ys,s1)->XT s s1 (fun s=>opl op s cs) ys
 | [],ys,s,s1,h=>by cases h;exact .refl fun _ _ _=>rfl
 | c::cs,ys,s,s1,h=>by
   simp only [opl] at h
   split at h
   ·rename_i y s2 ho
    simp only [Option.map_eq_some_iff,Prod.mk.injEq] at h
    obtain ⟨⟨ys',s3⟩,h1,rfl,rfl⟩:=h
    refine (XT.bind (hop _ _ _ _ ho) ((zz4 hop h1).map (y :: ·)) (G:=fun x s1=>(opl op s1 cs).map fun(xs,s2)=>(x::xs,s2))).eq fun s=> ?_
    simp only [opl]
    cases op s c <;> rfl
   ·cases h
theorem yk5 {op:St->V->Option (V×St)} (hop:∀ (s s1:St) (z y:V),op s z=some (y,s1)->XT s s1 (fun s=>op s z) y) {v y:V} {s s1:St} (h:opw op s v=some (y,s1)):XT s s1 (fun s=>opw op s v) y:=by
 cases v with
 | agg cs=>
   simp only [opw,Option.map_eq_some_iff,Prod.mk.injEq] at h
   obtain ⟨⟨ys',s3⟩,h1,rfl,rfl⟩:=h
   exact (zz4 hop h1).map V.agg
 | _=>exact hop _ _ _ _ h
theorem zhl {frz:Bool} {v y:V} {s s1:St} (h:(if frz then s.freeze v else s.take v)=some (y,s1)):XT s s1 (fun s=>if frz then s.freeze v else s.take v) y:=by
 rw [zh6] at h
 exact (yk5 (fun _ _ _ _ h=>ydv h) h).eq fun s=>(zh6 frz s v).symm
theorem zrl {v y:V} {s s1:St} (h:s.take v=some (y,s1)):XT s s1 (fun s=>s.take v) y:=zhl (frz:=false) h
theorem yac {v y:V} {s s1:St} (h:s.freeze v=some (y,s1)):XT s s1 (fun s=>s.freeze v) y:=zhl (frz:=true) h
theorem zc4 {frz:Bool} {v:V} {p} (h:(if frz then s.freeze v else s.take v)=some p):v ≠ .gone:=by
 intro h0;subst h0;cases frz <;> cases h
theorem zva {r c up v} (hok:r.okAt up=true) (h:s.putCell r c up v=some s1):XT s s1 (fun s=>(s.putCell r c up v).map (((),·))) ():=by
 simp only [St.putCell] at h
 split at h
 ·rename_i old hg
  simp only [Option.map_eq_some_iff] at h
  obtain ⟨s2,h1,h2⟩:=h
  have hroot:up=[]->∀ i,r=.var i->s.vars.getD i .gone ≠ .gone:=by intro h0 i hi;subst h0 hi;cases hok
  have hget:∀ {X s'},Ext X s s'->s'.get r c up=some old:=by
   intro X s' e
   simp only [St.get,Option.bind_eq_some_iff] at hg ⊢
   obtain ⟨cs,h3,h4⟩:=hg
   exact ⟨cs,e.cont_ok hok h3,h4⟩
  by_cases hs:zgb old&&zgb v
  ·rw [if_pos hs] at h2
   subst h2
   refine ⟨fun v=>v,zdr,fun X s' e=> ?_⟩
   obtain ⟨s1',g1,g2,g3⟩:=e.put hroot h1
   exact ⟨s1',by simp only [St.putCell,hget e,g1,Option.map_some,if_pos hs],g2,fun i hi=>by rw [zch,g3 i hi]⟩
  ·rw [if_neg hs] at h2
   subst h2
   refine ⟨V.kill1 r (rootCell c up) up.length,zbf r _ _,fun X s' e=> ?_⟩
   obtain ⟨s1',g1,g2,g3⟩:=e.put hroot h1
   obtain ⟨g4,g5⟩:=g2.map (zbf r (rootCell c up) up.length) s2.boxes
   refine ⟨s1'.kill r (rootCell c up) up.length,by simp only [St.putCell,hget e,g1,Option.map_some,if_neg hs],?_,fun i hi=> ?_⟩
   ·have:s1'.boxes=s2.boxes:=g2.boxes
    show Ext X { s2 with vars:=_ } { s1' with vars:=_ }
    rw [this];exact g4
   ·have:=g5 i hi
    rw [g3 i hi] at this;exact this
 ·cases h
theorem zg3 {r up} (hok:r.okAt up=true):∀ {vs:List V} {c:Nat} {s s1:St},s.putCells r c up vs=some s1->XT s s1 (fun s=>(s.putCells r c up vs).map (((),·))) ()
 | [],c,s,s1,h=>by cases h;exact .refl fun _ _ _=>rfl
 | v::vs,c,s,s1,h=>by
   simp only [St.putCells] at h
   split at h
   ·rename_i s2 h1
    refine (XT.bind (zva hok h1) (zg3 hok h) (G:=fun _ s1=>(s1.putCells r (c+1) up vs).map (((),·)))).eq fun s=> ?_
    simp only [St.putCells]
    cases s.putCell r c up v <;> rfl
   ·cases h
theorem Ext.pushBox (e:Ext X s s') (z:List V):Ext X { s with boxes:=s.boxes ++ [z] } { s' with boxes:=s'.boxes ++ [z] }:=⟨e.len,by simp [e.boxes],e.eq,e.gone⟩
theorem zhk {α:Type} (z:List V) (r:St->α) (hr:∀ X s',Ext X s s'->r s'=r s):XT s { s with boxes:=s.boxes ++ [z] } (fun s=>some (r s,{ s with boxes:=s.boxes ++ [z] })) (r s):=
 ⟨fun v=>v,zdr,fun X s' e=>⟨_,by show some (r s',_)=_;rw [hr X s' e],e.pushBox z,fun i _=>(zch _).symm⟩⟩
theorem zh0:∀ {ms:List PM} {vs:List V} {nb:Nat} {s s1:St} {xs bs},s.passes nb ms vs=some (xs,bs,s1)->XT s s1 (fun s=>(s.passes nb ms vs).map fun(a,b,s)=>((a,b),s)) (xs,bs)
 | [],[],nb,s,s1,xs,bs,h=>by cases h;exact .refl fun _ _ _=>rfl
 | .view::ms,v::vs,nb,s,s1,xs,bs,h=>by
   simp only [St.passes] at h
   split at h
   ·rename_i y s2 ho
    simp only [Option.map_eq_some_iff,Prod.mk.injEq] at h
    obtain ⟨⟨ys',bs',s3⟩,h1,rfl,rfl,rfl⟩:=h
    refine (XT.bind (yac ho) ((zh0 h1).map fun p=>(y::p.1,p.2)) (G:=fun x s1=>((s1.passes nb ms vs).map fun(a,b,s)=>((a,b),s)).map fun(p,s)=>((x::p.1,p.2),s))).eq fun s=> ?_
    simp only [St.passes]
    cases s.freeze v with
    | none=>rfl
    | some p=>simp only;cases p.2.passes nb ms vs <;> rfl
   ·cases h
 | .own::ms,v::vs,nb,s,s1,xs,bs,h=>by
   simp only [St.passes] at h
   split at h
   ·rename_i y s2 ho
    simp only [Option.map_eq_some_iff,Prod.mk.injEq] at h
    obtain ⟨⟨ys',bs',s3⟩,h1,rfl,rfl,rfl⟩:=h
    refine (XT.bind (zrl ho) ((zh0 h1).map fun p=>(y::p.1,p.2)) (G:=fun x s1=>((s1.passes nb ms vs).map fun(a,b,s)=>((a,b),s)).map fun(p,s)=>((x::p.1,p.2),s))).eq fun s=> ?_
    simp only [St.passes]
    cases s.take v with
    | none=>rfl
    | some p=>simp only;cases p.2.passes nb ms vs <;> rfl
   ·cases h
 | .box k::ms,v::vs,nb,s,s1,xs,bs,h=>by
   unfold St.passes at h
   split at h
   case h_4=>
    rename_i n' ms' k' off vs' heq1 heq2
    cases heq1;cases heq2
    simp only [Option.map_eq_some_iff,Prod.mk.injEq] at h
    obtain ⟨⟨ys',bs',s3⟩,h1,rfl,rfl,rfl⟩:=h
    refine ((zh0 h1).map fun p=>(V.ref (.box nb) 0 []::p.1,(k',off,k)::p.2)).eq fun s=> ?_
    simp only [St.passes]
    cases s.passes (nb+1) ms vs <;> rfl
   all_goals first|(cases h;done)|(rename_i heq1 heq2;cases heq1;done)|(rename_i heq1 _;cases heq1;done)|(rename_i heq1 _ _;cases heq1;done)
 | [],_::_,_,_,_,_,_,h=>by cases h
 | m::_,[],_,_,_,_,_,h=>by cases m <;> cases h
theorem zjs (e:Ext X s s'):∀ {ws:List (Nat×Nat×Nat)},s'.windows ws=s.windows ws
 | []=>rfl
 | (k,off,n)::ws=>by simp only [St.windows,e.boxes,zjs e (ws:=ws)]
theorem zu0:∀ {ws:List (Nat×Nat×Nat)} {bs:List (List V)} {s s1:St} {more},s.backs ws bs=some (s1,more)->XT s s1 (fun s=>(s.backs ws bs).map fun(s,m)=>(m,s)) more
 | [],bs,s,s1,more,h=>by cases h;exact .refl fun _ _ _=>rfl
 | (k,off,n)::ws,[],s,s1,more,h=>by cases h
 | (k,off,n)::ws,b::bs,s,s1,more,h=>by
   simp only [St.backs] at h
   split at h
   ·rename_i cs hb
    split at h
    ·rename_i hc
     have h1:XT s { vars:=s.vars.map (V.leafwise (V.killBox1 k)),boxes:=s.boxes.set k b } (fun s=>some ((),{ vars:=s.vars.map (V.leafwise (V.killBox1 k)),boxes:=s.boxes.set k b })) ():=by
      refine ⟨V.killBox1 k,zay k,fun X s' e=> ?_⟩
      obtain ⟨g1,g2⟩:=e.map (zay k) (s.boxes.set k b)
      exact ⟨_,rfl,by rw [e.boxes];exact g1,g2⟩
     refine (XT.bind h1 (zu0 h) (G:=fun _ s=>(s.backs ws bs).map fun(s,m)=>(m,s))).eqE fun X s' e=> ?_
     simp only [St.backs,e.boxes,hb,if_pos hc]
    ·cases h
   ·cases h
theorem yh6 {nb:Nat} {r res:V} {more:List (List V)} (h:s.land nb r more=some (res,s1)):XT s s1 (fun s=>s.land nb r more) res:=by
 unfold St.land at h
 split at h
 ·split at h
  ·rename_i hc
   cases h
   refine (zhk _ (fun s=>V.ref (.box s.boxes.length) 0 []) fun X s' e=>by simp only [e.boxes]).eq fun s=> ?_
   simp only [St.land,if_pos hc]
  ·cases h
 ·rename_i hne
  split at h
  ·rename_i hc
   cases h
   refine .refl fun X s' e=> ?_
   have:s'.land nb r []=if r.cells.all bnd then some (r,s') else none:=by
    cases r with
    | ref r c up=>cases r <;> cases c <;> cases up <;> rfl
    | _=>rfl
   rw [this,if_pos hc]
  ·cases h
 ·cases h
end Go.Pm
namespace Go.Pm
variable {X:Nat->Prop} {s s' s1:St}
theorem zki {frz:Bool}:∀ {vs ys:List V} {s s1:St},s.takesAll frz vs=some (ys,s1)->XT s s1 (fun s=>s.takesAll frz vs) ys
 | [],ys,s,s1,h=>by cases h;exact .refl fun _ _ _=>rfl
 | v::vs,ys,s,s1,h=>by
   simp only [St.takesAll] at h
   split at h
   ·rename_i y s2 ho
    simp only [Option.map_eq_some_iff,Prod.mk.injEq] at h
    obtain ⟨⟨ys',s3⟩,h1,rfl,rfl⟩:=h
    refine (XT.bind (zhl ho) ((zki h1).map (y :: ·)) (G:=fun x s1=>(s1.takesAll frz vs).map fun(xs,s2)=>(x::xs,s2))).eq fun s=> ?_
    simp only [St.takesAll]
    cases (if frz=true then s.freeze v else s.take v) <;> rfl
   ·cases h
theorem zfk {frz:Bool}:∀ {vs ys:List V} {s s1:St},s.takesAll frz vs=some (ys,s1)->∀ v∈vs,v ≠ .gone
 | [],_,_,_,_=>by simp
 | v::vs,ys,s,s1,h=>by
   simp only [St.takesAll] at h
   split at h
   ·rename_i y s2 ho
    simp only [Option.map_eq_some_iff,Prod.mk.injEq] at h
    obtain ⟨⟨ys',s3⟩,h1,rfl,rfl⟩:=h
    intro u hu
    rcases List.mem_cons.1 hu with rfl|hu
    ·exact zc4 ho
    ·exact zfk h1 u hu
   ·cases h
theorem yil {R:zan} {h:HOp} {v:V} (hp:h.pureD=false) (hc:∀ e x y,h ≠ .copy e x y) (hs:s.step R h=some (v,s1)):XT s s1 (fun s=>s.step R h) v:=by
 cases h with
 | alloc z=>
   cases hs
   exact (zhk z (fun s=>V.ref (.box s.boxes.length) 0 []) fun X s' e=>by simp only [e.boxes]).eq fun s=>rfl
 | box x=>
   simp only [St.step] at hs
   split at hs
   ·rename_i u hr
    simp only [Option.map_eq_some_iff,Prod.mk.injEq] at hs
    obtain ⟨⟨y,s2⟩,h1,rfl,rfl⟩:=hs
    refine (XT.bind (zrl h1) (zhk y.cells (fun s=>V.ref (.box s.boxes.length) 0 []) fun X s' e=>by simp only [e.boxes]) (G:=fun y s1=>some (V.ref (.box s1.boxes.length) 0 [],{ s1 with boxes:=s1.boxes ++ [y.cells] }))).eqE fun X s' e=> ?_
    simp only [St.step,e.rd hr (zc4 (frz:=false) h1)]
    cases s'.take u <;> rfl
   ·cases hs
 | store n frz p x=>
   simp only [St.step] at hs
   split at hs
   ·rename_i r c up k off h1 h2
    split at hs
    ·rename_i hcnd
     simp only [Option.map_eq_some_iff,Prod.mk.injEq] at hs
     obtain ⟨s2,h3,rfl,rfl⟩:=hs
     refine ((zg3 hcnd.2.2 h3).map fun _=>V.gone).eqE fun X s' e=> ?_
     simp only [St.step,e.rd h1 (by simp),e.rd h2 (by simp),if_pos hcnd]
     cases s'.putCells r c up [.ref (.box k) off []] <;> rfl
    ·cases hs
   ·rename_i r c up u hne h1 h2
    split at hs
    ·rename_i hok
     split at hs
     ·rename_i y s2 h3
      split at hs
      ·rename_i hl
       simp only [Option.map_eq_some_iff,Prod.mk.injEq] at hs
       obtain ⟨s3,h4,rfl,rfl⟩:=hs
       have h5:XT s2 s3 (fun s1=>if y.cells.length=n.getD 1 then(s1.putCells r c up y.cells).map (V.gone,·) else none) V.gone:=((zg3 hok h4).map fun _=>V.gone).eq fun s=>by
        simp only [if_pos hl]
        cases s.putCells r c up y.cells <;> rfl
       refine (XT.bind (zhl h3) h5 (G:=fun y s1=>if y.cells.length=n.getD 1 then(s1.putCells r c up y.cells).map (V.gone,·) else none)).eqE fun X s' e=> ?_
       simp only [St.step,e.rd h1 (by simp),e.rd h2 (zc4 h3),if_pos hok]
       cases (if frz=true then s'.freeze u else s'.take u) <;> rfl
      ·cases hs
     ·cases hs
    ·cases hs
   ·cases hs
 | append e bytes frz x y=>
   simp only [St.step] at hs
   split at hs
   ·rename_i a h1
    split at hs
    ·rename_i e' xs s2 h2
     split at hs
     ·rename_i he
      subst he
      have tail:XT s2 s1 (fun s1=>match s1.rd y with
       | some (.str b)=>if e'=1/\(xs.length+b.size) * bytes<=70368744177664 then some (V.own e' (xs++zc7 b),s1) else none
       | some (.imm e'' ys)=>if e''=e'/\(xs.length+ys.length) * bytes<=70368744177664 then some (V.own e' (xs++ys),s1) else none
       | some v=>
         match (if frz then s1.freeze v else s1.take v) with
         | some (.own e'' ys,s2)=>if e''=e'/\(xs.length+ys.length) * bytes<=70368744177664 then some (V.own e' (xs++ys),s2) else none
         | some (.imm e'' ys,s2)=>if e''=e'/\(xs.length+ys.length) * bytes<=70368744177664 then some (V.own e' (xs++ys),s2) else none
         | _=>none
       | none=>none) v:=by
       split at hs
       ·rename_i b hb
        split at hs
        ·rename_i hcnd
         cases hs
         exact .refl fun X s' e=>by simp only [e.rd hb (by simp),if_pos hcnd]
        ·cases hs
       ·rename_i e2 ys hb
        split at hs
        ·rename_i hcnd
         cases hs
         exact .refl fun X s' e=>by simp only [e.rd hb (by simp),if_pos hcnd]
        ·cases hs
       ·rename_i q hq1 hq2 hb
        split at hs
        ·rename_i e2 ys s3 h3
         split at hs
         ·rename_i hcnd
          cases hs
          obtain ⟨K,k,f⟩:=zhl h3
          refine ⟨K,k,fun X s' e=> ?_⟩
          obtain ⟨s1',g1,g2,g3⟩:=f X s' e
          refine ⟨s1',?_,g2,g3⟩
          simp only at g1
          have hrd:=e.rd hb (zc4 h3)
          simp only [hrd]
          cases q <;> first
           | (simp only [g1,if_pos hcnd];done)
           | exact (hq1 _ rfl).elim
           | exact (hq2 _ _ rfl).elim
         ·cases hs
        ·rename_i e2 ys s3 h3
         split at hs
         ·rename_i hcnd
          cases hs
          obtain ⟨K,k,f⟩:=zhl h3
          refine ⟨K,k,fun X s' e=> ?_⟩
          obtain ⟨s1',g1,g2,g3⟩:=f X s' e
          refine ⟨s1',?_,g2,g3⟩
          simp only at g1
          have hrd:=e.rd hb (zc4 h3)
          simp only [hrd]
          cases q <;> first
           | (simp only [g1,if_pos hcnd];done)
           | exact (hq1 _ rfl).elim
           | exact (hq2 _ _ rfl).elim
         ·cases hs
        ·cases hs
       ·cases hs
      obtain ⟨K1,k1,f1⟩:=zrl h2
      obtain ⟨K2,k2,f2⟩:=tail
      refine ⟨fun v=>K2 (K1 v),zc3 k2 k1,fun X s' e=> ?_⟩
      obtain ⟨s1',g1,e1,x1⟩:=f1 X s' e
      obtain ⟨s2',g2,e2,x2⟩:=f2 X s1' e1
      refine ⟨s2',?_,e2,fun i hi=>by rw [x2 i hi,x1 i hi,zbg k2 k1]⟩
      simp only at g1
      simp only [St.step,e.rd h1 (zc4 (frz:=false) h2),g1,if_true]
      exact g2
     ·cases hs
    ·cases hs
   ·cases hs
 | tmov y=>cases hp
 | extt i y=>cases hp
 | boxk i=>cases hp
 | lcall f y k=>cases hp
 | call f ms frz args=>
   have hfrz:frz=true:=by simpa [HOp.pureD,HOp.pure] using hp
   subst hfrz
   simp only [St.step] at hs
   split at hs
   ·rename_i vs h1
    simp only [if_true] at hs
    split at hs
    ·rename_i xs ws s2 h2
     split at hs
     ·rename_i bs h3
      split at hs
      ·rename_i r bs' h4
       split at hs
       ·rename_i s3 more h5
        have hng:∀ v∈vs,v ≠ .gone:=by
         have:∀ {ms:List PM} {vs:List V} {nb:Nat} {s s1:St} {xs bs},s.passes nb ms vs=some (xs,bs,s1)->∀ v∈vs,v ≠ .gone:=by
          intro ms
          induction ms with
          | nil=>intro vs nb s s1 xs bs h;cases vs with
            | nil=>simp
            | cons v vs=>cases h
          | cons m ms ih=>
            intro vs nb s s1 xs bs h
            cases vs with
            | nil=>cases m <;> cases h
            | cons v vs=>
              intro u hu
              have hv:v ≠ .gone/\∃ nb s s1 xs bs,St.passes s nb ms vs=some (xs,bs,s1):=by
               cases m with
               | view=>
                 simp only [St.passes] at h
                 split at h
                 ·rename_i ho
                  simp only [Option.map_eq_some_iff] at h
                  obtain ⟨⟨a,b,c⟩,h1,_⟩:=h
                  exact ⟨zc4 (frz:=true) ho,_,_,_,_,_,h1⟩
                 ·cases h
               | own=>
                 simp only [St.passes] at h
                 split at h
                 ·rename_i ho
                  simp only [Option.map_eq_some_iff] at h
                  obtain ⟨⟨a,b,c⟩,h1,_⟩:=h
                  exact ⟨zc4 (frz:=false) ho,_,_,_,_,_,h1⟩
                 ·cases h
               | box k=>
                 cases v with
                 | ref r off up=>
                   cases r with
                   | var j=>cases h
                   | box j=>
                     cases up with
                     | cons s up=>cases h
                     | nil=>
                       simp only [St.passes,Option.map_eq_some_iff] at h
                       obtain ⟨⟨a,b,c⟩,h1,_⟩:=h
                       exact ⟨by simp,_,_,_,_,_,h1⟩
                 | _=>cases h
              obtain ⟨h1,nb',s',s1',xs',bs',h2⟩:=hv
              rcases List.mem_cons.1 hu with rfl|hu
              ·exact h1
              ·exact ih h2 u hu
         exact this h2
        obtain ⟨K1,k1,f1⟩:=zh0 h2
        obtain ⟨K2,k2,f2⟩:=zu0 h5
        obtain ⟨K3,k3,f3⟩:=yh6 hs
        refine ⟨fun v=>K3 (K2 (K1 v)),zc3 k3 (zc3 k2 k1),fun X s' e=> ?_⟩
        obtain ⟨s1',g1,e1,x1⟩:=f1 X s' e
        obtain ⟨s2',g2,e2,x2⟩:=f2 X s1' e1
        obtain ⟨s3',g3,e3,x3⟩:=f3 X s2' e2
        refine ⟨s3',?_,e3,fun i hi=>by rw [x3 i hi,x2 i hi,x1 i hi,zbg k2 k1,zbg k3 (zc3 k2 k1)]⟩
        have q1:s'.passes 0 ms vs=some (xs,ws,s1'):=by
         simp only [Option.map_eq_some_iff,Prod.mk.injEq] at g1
         obtain ⟨⟨a,b,c⟩,h,⟨rfl,rfl⟩,rfl⟩:=g1
         exact h
        have q2:s1'.backs ws bs'=some (s2',more):=by
         simp only [Option.map_eq_some_iff,Prod.mk.injEq] at g2
         obtain ⟨⟨a,b⟩,h,rfl,rfl⟩:=g2
         exact h
        simp only [St.step,e.rds h1 hng,if_true,q1,zjs e1,h3,h4,q2]
        exact g3
       ·cases hs
      ·cases hs
     ·cases hs
    ·cases hs
   ·cases hs
 | copy e x y=>exact (hc _ _ _ rfl).elim
 | list e frz xs=>
   simp only [St.step] at hs
   split at hs
   ·rename_i vs hr
    split at hs
    ·rename_i ys s2 htk
     split at hs
     ·rename_i hc2
      simp only [Option.some.injEq,Prod.mk.injEq] at hs
      obtain ⟨rfl,rfl⟩:=hs
      obtain ⟨K,k,f⟩:=zki htk
      refine ⟨K,k,fun X s' E=> ?_⟩
      obtain ⟨s1',g1,e1,x1⟩:=f X s' E
      exact ⟨s1',by simp only [St.step,E.rds hr (zfk htk),g1,if_pos hc2],e1,x1⟩
     ·cases hs
    ·cases hs
   ·cases hs
 | _=>cases hp
theorem zu8 {R:zan} {h:HOp} {v:V} (hc:∀ e x y,h ≠ .copy e x y) (hs:s.stepD R h=some (v,s1)):XT s s1 (fun s=>s.stepD R h) v/\s.step R h=some (v,s1):=by
 unfold St.stepD at hs
 split at hs
 ·rename_i hp
  simp only [Option.map_eq_some_iff,Prod.mk.injEq] at hs
  obtain ⟨u,h1,rfl,rfl⟩:=hs
  obtain ⟨_,_,h2,h3⟩:=zkg h1
  refine ⟨.refl fun X s' e=> ?_,h2⟩
  simp only [St.stepD,if_pos hp,h3 e,Option.map_some]
 ·rename_i hp
  refine ⟨(yil (by simpa using hp) hc hs).eq fun s=> ?_,hs⟩
  simp only [St.stepD,if_neg hp]
theorem zgu {ns k:Nat} {z y:V} (h:s.settleLeaf ns k z=some (y,s1)):XT s s1 (fun s=>s.settleLeaf ns k z) y:=by
 have plain:(∀ s:St,s.settleLeaf ns k z=some (z,s))->XT s s1 (fun s=>s.settleLeaf ns k z) y:=fun hp=>by
  rw [hp s] at h;cases h
  exact .refl fun X s' e=>hp s'
 cases z with
 | hd e r c up lo hi=>
   cases r with
   | var j=>
     by_cases hj:j=k\/ns<=j
     ·simp only [St.settleLeaf,if_pos hj] at h ⊢
      exact zjh h
     ·exact plain fun s=>by simp only [St.settleLeaf,if_neg hj]
   | box j=>exact plain fun _=>rfl
 | _=>exact plain fun _=>rfl
theorem zfs (ns k:Nat):∀ (cs:List V) (s:St),s.settles ns k cs=opl (fun s z=>s.settleLeaf ns k z) s cs
 | [],s=>rfl
 | c::cs,s=>by
   simp only [St.settles,opl]
   cases s.settleLeaf ns k c with
   | none=>rfl
   | some p=>simp only;rw [zfs ns k cs]
theorem zzw {ns k:Nat} {v y:V} (h:s.settle ns k v=some (y,s1)):XT s s1 (fun s=>s.settle ns k v) y:=by
 cases v with
 | agg cs=>
   simp only [St.settle,Option.map_eq_some_iff,Prod.mk.injEq] at h
   obtain ⟨⟨ys,s2⟩,h1,rfl,rfl⟩:=h
   rw [zfs] at h1
   refine ((zz4 (fun _ _ _ _ h=>zgu h) h1).map V.agg).eq fun s=> ?_
   simp only [St.settle,zfs]
 | tup vs=>cases h
 | _=>simp only [St.settle] at h ⊢;exact zgu h
theorem Ext.setVar (e:Ext X s s') {k:Nat} (hk:¬ X k) (v:V):Ext X { s with vars:=s.vars.set k v } { s' with vars:=s'.vars.set k v }/\∀ i,X i->(s'.vars.set k v).getD i .gone=s'.vars.getD i .gone:=by
 have hne:∀ i,X i->i≠k:=fun i hi h=>hk (h ▸ hi)
 have hget:∀ (l:List V) i,(l.set k v).getD i .gone=if i=k/\i<l.length then v else l.getD i .gone:=by
  intro l i
  simp only [List.getD,List.getElem?_set]
  by_cases h:k=i
  ·subst h
   by_cases hl:k<l.length
   ·simp [hl]
   ·simp [hl]
  ·have:¬ i=k:=fun h'=>h h'.symm
   simp [h,this]
 refine ⟨⟨by simp [e.len],e.boxes,fun i hi=> ?_,fun i hi=> ?_⟩,fun i hi=> ?_⟩
 ·simp only [hget,e.len,e.eq i hi]
 ·simp only [hget];rw [if_neg (fun h=>hne i hi h.1)];exact e.gone i hi
 ·simp only [hget];rw [if_neg (fun h=>hne i hi h.1)]
def XTX {α:Type} (X:Nat->Prop) (s s1:St) (F:St->Option (α×St)) (r:α):Prop:=
 ∃ K:V->V,Strike K/\∀ (Y:Nat->Prop) (s':St),(∀ i,Y i->X i)->Ext Y s s'->∃ s1',F s'=some (r,s1')/\Ext Y s1 s1'/\∀ i,Y i->s1'.vars.getD i .gone=V.leafwise K (s'.vars.getD i .gone)
theorem ydo {X:Nat->Prop} {ns pos:Nat} {d:Option Nat} {v:V} (hpos:¬ X pos) (hd:∀ k,d=some k->¬ X k) (h:s.destD ns pos d v=some s1):XTX X s s1 (fun s=>(s.destD ns pos d v).map (((),·))) ():=by
 cases d with
 | none=>
   simp only [St.destD,Option.some.injEq] at h
   subst h
   refine ⟨fun v=>v,zdr,fun Y s' hY e=> ?_⟩
   obtain ⟨h1,h2⟩:=e.setVar (k:=pos) (fun h=>hpos (hY _ h)) v
   exact ⟨_,rfl,h1,fun i hi=>by rw [zch];exact h2 i hi⟩
 | some k=>
   simp only [St.destD] at h
   split at h
   ·rename_i y s2 h1
    cases h
    obtain ⟨K,kk,f⟩:=zzw h1
    refine ⟨fun v=>V.killVar1 k (K v),zc3 (f:=V.killVar1 k) (zau k) kk,fun Y s' hY e=> ?_⟩
    obtain ⟨s1',g1,e1,x1⟩:=f Y s' e
    simp only at g1
    obtain ⟨h2,h3⟩:=e1.map (zau k) s2.boxes
    obtain ⟨h4,h5⟩:=h2.setVar (k:=k) (fun h=>hd k rfl (hY _ h)) (y.leafwise (V.only1 ns k))
    refine ⟨{ s1' with vars:=(s1'.vars.map (V.leafwise (V.killVar1 k))).set k (y.leafwise (V.only1 ns k)) },by simp only [St.destD,g1,Option.map_some],?_,fun i hi=> ?_⟩
    ·have:s1'.boxes=s2.boxes:=e1.boxes
     rw [this];exact h4
    ·have:=h5 i hi
     simp only at this ⊢
     rw [this,h3 i hi,x1 i hi,zbg (zau k) kk]
   ·cases h
end Go.Pm
namespace Go.Pm
variable {P:Program} {B:Base} {x:Cx} {FV FC:Nat->Nat->List Nat} {FX:List Nat} {a:Act} {ts:List (Option Nat)} {n:Nat} {Q:Exit->Act->World->Prop}
theorem Oper.wp_weaken {o:Oper} {w:World} {K K':Act->World->Prop} (hh:o.wp P a w K (fun _ _ _=>False)) (h:∀ a w,K a w->K' a w):o.wp P a w K' Q:=by
 unfold Oper.wp at *
 generalize (execOp a.eval o).run P w=r at *
 cases r with
 | ok n w'=>
   cases n <;> simp only [Oper.upon] at hh ⊢ <;>
    first
     | exact h _ _ hh
     | exact Calls.mono hh (fun e w'' he=>by
      cases e with
      | returned v=>exact h _ _ he
      | panicked c=>exact he.elim
      | outgrown=>obtain ⟨_,_,hf⟩:=he;exact hf.elim)
     | exact Go.Rows.mono hh (fun _ _ he=>h _ _ he)
 | halt x w'=>cases x <;> simp only [Oper.upon] at hh ⊢ <;> exact hh
theorem zug (h:SR B x FV FC []) (ht:Tied B ts n x a) {ns:Nat} (hns:ns<=ts.length) (hnk:B.nk<=ns):∃ FV',SR B ⟨x.w,x.I,x.φ,x.tm,x.st.fin ns⟩ FV' FC []/\Tied B (ts.take ns) n ⟨x.w,x.I,x.φ,x.tm,x.st.fin ns⟩ a:=by
 have hlen:ns<=x.st.vars.length:=by rw [<- ht.len];exact hns
 have hfl:(x.st.fin ns).vars.length=ns:=by simp [St.fin];omega
 have hg:(V.unloc1 ns) .gone=.gone:=rfl
 have hv:∀ i,i<ns->(x.st.fin ns).vars.getD i .gone=V.leafwise (V.unloc1 ns) (x.st.vars.getD i .gone):=by
  intro i hi
  simp only [St.fin]
  rw [zas (f:=V.leafwise (V.unloc1 ns)) _ rfl]
  congr 1
  simp only [List.getD,List.getElem?_take]
  rw [if_pos hi]
 obtain ⟨h1,_⟩:=h.forget (st':=x.st.fin ns) (K:=fun r=>match r with | .var i=>i<ns | .box _=>True) (zcw ns)
  (fun z hz=>by cases z <;> first|rfl|exact absurd rfl hz) (fun _=>false) (by omega) (Nat.le_refl _)
  (fun i hi=>by rw [hfl] at hi;simpa using hv i hi) (fun k _=>rfl)
  (fun i hi _=>⟨by rw [hfl];exact hi,rfl⟩) (fun k _ hk=>hk)
  (fun i hi c=>by
   rw [hfl] at hi
   rw [hv i hi,zae (zcw ns),zas _ hg]
   generalize (x.st.vars.getD i .gone).cells.getD c .gone=z
   cases z with
   | hd e r c up lo hi=>
     cases r with
     | var j=>simp only [V.unloc1];split <;> simp_all [zbe]
     | box j=>trivial
   | ref r c up=>
     cases r with
     | var j=>simp only [V.unloc1];split <;> simp_all [zbe]
     | box j=>trivial
   | fn f caps=>intro _ _ _ _;trivial
   | _=>trivial)
  (fun k hk c=>by
   by_cases hc:c<(x.st.boxes.getD k []).length
   ·by_cases hm:((x.st.boxes.getD k []).getD c .gone).mark=true
    ·obtain ⟨k',c',e⟩:=h.bmark k hk c hc hm
     show zbe _ ((x.st.boxes.getD k []).getD c .gone)
     rw [e];trivial
    ·show zbe _ ((x.st.boxes.getD k []).getD c .gone)
     generalize (x.st.boxes.getD k []).getD c .gone=z at hm
     cases z <;> first|trivial|exact absurd rfl hm
   ·show zbe _ ((x.st.boxes.getD k []).getD c .gone)
    rw [zai hc];trivial)
 refine ⟨_,h1,⟨by rw [hfl];simp;omega,fun i t hi=> ?_,ht.size,ht.defers,ht.nbx,ht.phi,by simp;omega,fun t v h=>by
  rw [List.take_take,Nat.min_eq_left hnk];exact ht.kp t v h⟩⟩
 have hi':ts.getD i none=some t:=by
  simp only [List.getD,List.getElem?_take] at hi ⊢
  split at hi
  ·exact hi
  ·cases hi
 exact ht.tie i t hi'
def zjd (opers:Array Oper) (ts:List (Option Nat)):Option (Nat×Bool)->Option (Nat×Bool)->Bool
 | none,none=>true
 | some (j,w),some (v,w')=>w == w'&&(match (opers[j]?).bind (·.dst) with|some t=>ts.getD v none == some t|none=>false)
 | _,_=>false
theorem zds (h:SR B x FV FC []) (ht:Tied B ts n x a) {opers:Array Oper} {o:Oper} {g:Option (Nat×Bool)} (hg:zjd opers ts o.guard g=true) {b:Bool} (hw:x.st.wanted g=some b):
 Region.wanted o (yielded opers a.tmps)=b:=by
 unfold Region.wanted
 unfold zjd at hg
 split at hg
 ·rename_i h1
  rw [h1];cases hw;rfl
 ·rename_i j w v w' h1
  rw [h1]
  simp only [Bool.and_eq_true,beq_iff_eq] at hg
  obtain ⟨rfl,hg⟩:=hg
  split at hg
  ·rename_i t hd
   simp only [beq_iff_eq] at hg
   simp only [St.wanted] at hw
   split at hw
   ·rename_i b' hb
    cases hw
    have hv:=zoh hb
    have hsz:t<a.tmps.size:=by
     refine Classical.byContradiction fun hn=> ?_
     have hle:a.tmps.size<=t:=Nat.le_of_not_lt hn
     have h2:=h.vars v hv.1 0 (by rw [hv.2];simp [V.cells])
     rw [hv.2] at h2
     have h3:VR x.w x.I (x.tm v) (.bool b') (FV v 0):=by
      have e:x.rv (.var v) 0=x.tm v:=by show zac (x.tm v) (x.st.vars.getD v .gone) 0=_;rw [hv.2];rfl
      rw [e] at h2;exact h2
     rw [ht.tie v t hg] at h3
     rw [Array.getD_eq_getD_getElem?,Array.getElem?_eq_none hle] at h3
     generalize FV v 0=F at h3
     cases h3
    have h2:=h.vars v hv.1 0 (by rw [hv.2];simp [V.cells])
    rw [hv.2] at h2
    have h3:VR x.w x.I (x.tm v) (.bool b') (FV v 0):=by
     have e:x.rv (.var v) 0=x.tm v:=by show zac (x.tm v) (x.st.vars.getD v .gone) 0=_;rw [hv.2];rfl
     rw [e] at h2;exact h2
    rw [ht.tie v t hg] at h3
    have h4:a.tmps.getD t undef=.bool b':=by generalize FV v 0=F at h3;generalize a.tmps.getD t undef=u at h3;cases h3;rfl
    have h5:a.tmps[t]? =some (.bool b'):=by
     rw [Array.getD_eq_getD_getElem?,Array.getElem?_eq_getElem hsz] at h4
     rw [Array.getElem?_eq_getElem hsz];exact congrArg some h4
    simp only [yielded,hd,Option.bind_some,h5]
    cases b' <;> cases w <;> rfl
   ·rename_i hb
    cases hw
    have hv:=zoh hb
    have hs:=h.shape v hv.1
    have e0:x.tm v=undef:=by
     have hs2:zbk (x.tm v) (.tup []):=by rw [<- hv.2];exact hs
     obtain ⟨arr,e,hl,_⟩:=hs2
     have:arr= #[]:=by
      apply Array.eq_empty_of_size_eq_zero
      simpa using hl
     rw [e,this];rfl
    have e1:a.tmps.getD t undef=undef:=by rw [<- ht.tie v t hg];exact e0
    simp only [yielded,hd,Option.bind_some]
    cases h5:a.tmps[t]? with
    | none=>rfl
    | some u=>
      have:u=undef:=by rw [<- e1,Array.getD_eq_getD_getElem?,h5];rfl
      subst this
      rfl
   ·cases hw
  ·cases hg
 ·cases hg
def ycx (P:Program) (n:Nat) (opers:Array Oper):List (Option Nat)->List Oper->List (HOp×Option Nat×Option (Nat×Bool))->Option (List (Option Nat))
 | ts,[],[]=>some ts
 | ts,o::os,(h,d,g)::hs=>
   if zjd opers ts o.guard g&&zdd P ts o.op h then
    match zjp ts n o.dst d with
    | some ts'=>ycx P n opers ts' os hs
    | none=>none
   else none
 | _,_,_=>none
theorem zzg {R:zan} (hR:zwx P R B) {opers:Array Oper} {ns:Nat} {s':St} {tsE:List (Option Nat)}:∀ (os:List Oper) (hs:List (HOp×Option Nat×Option (Nat×Bool))) (i:Nat) {x:Cx} {FV FC} {a:Act} {ts:List (Option Nat)},
 opers.toList.drop i=os->SR B x FV FC []->Tied B ts n x a->zc5 R ns hs x.st=some s'->ycx P n opers ts os hs=some tsE->
 (∀ x' FV' FC' a',x'.st=s'->SR B x' FV' FC' []->Tied B tsE n x' a'->Q .normal a' x'.w)->wpOps P opers Q (List.range' i os.length) a x.w
 | [],[],i,x,FV,FC,a,ts,hd,h,ht,hrun,hok,hQ=>by
   cases hrun;cases hok
   exact hQ x FV FC a rfl h ht
 | o::os,(ho,d,g)::hs,i,x,FV,FC,a,ts,hd,h,ht,hrun,hok,hQ=>by
   have hi:opers[i]? =some o:=by
    have:=congrArg (·[0]?) hd
    simp only [List.getElem?_drop,Nat.add_zero,List.getElem?_cons_zero] at this
    rw [<- Array.getElem?_toList];exact this
   have hd':opers.toList.drop (i+1)=os:=by
    rw [<- List.drop_drop,hd];rfl
   simp only [ycx] at hok
   split at hok
   ·rename_i hc
    simp only [Bool.and_eq_true] at hc
    split at hok
    ·rename_i ts' hdst
     simp only [List.length_cons,List.range'_succ,wpOps,hi]
     simp only [zc5] at hrun
     split at hrun
     ·rename_i hw
      rw [if_pos (zds h ht hc.1 hw)]
      split at hrun
      ·rename_i v s1 hs1
       split at hrun
       ·rename_i s2 hs2
        left
        refine Oper.wp_weaken (ztf hR h ht hc.2 hs1) ?_
        rintro a1 w1 ⟨val,rfl,x1,FV1,FC1,FX1,G,rfl,h2,h3,h4,h5,h6⟩
        obtain ⟨x2,FV2,FC2,e1,e2,e3,e4,e5,e6⟩:=zko h3 h4 h5 h6 hdst (ns:=ns) (s2:=s2) (by rw [h2];exact hs2)
        rw [<- e1]
        exact zzg hR os hs (i+1) hd' e5 e6 (by rw [e2];exact hrun) hok hQ
       ·cases hrun
      ·cases hrun
     ·rename_i hw
      rw [if_neg (by rw [zds h ht hc.1 hw];simp)]
      split at hrun
      ·rename_i hdn
       subst hdn
       have hp:Pend x undef (.tup []) fun _=>[]:=⟨⟨#[],rfl,rfl,fun j hj=>by cases hj⟩,fun c hc=>by simp [V.cells] at hc⟩
       obtain ⟨x2,FV2,FC2,e1,e2,e3,e4,e5,e6⟩:=zko h ht hp (fun b=>by rw [zb6]) hdst (ns:=ns) (s2:={ x.st with vars:=x.st.vars ++ [.tup []] }) rfl
       rw [<- e1]
       exact zzg hR os hs (i+1) hd' e5 e6 (by rw [e2];exact hrun) hok hQ
      ·cases hrun
     ·cases hrun
    ·cases hok
   ·cases hok
 | [],_::_,_,_,_,_,_,_,_,_,_,_,hok,_=>by cases hok
 | _::_,[],_,_,_,_,_,_,_,_,_,_,hok,_=>by cases hok
end Go.Pm
