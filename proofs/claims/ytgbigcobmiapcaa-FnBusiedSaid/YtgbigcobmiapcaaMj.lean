/- Proved: the law FnBusied answers true at all arguments, for every operating system that has started; no conditions beyond the row's own. -/
import Derived.Test.YtgbigcobmiapcaaMi
import Derived.LoopN
set_option linter.unusedVariables false
set_option linter.unusedSimpArgs false
namespace Go.Pm
variable {P:Program} {B:Base} {x:Cx} {FV FC:Nat->Nat->List Nat} {FX:List Nat} {a:Act} {ts:List (Option Nat)} {n:Nat} {Q:Exit->Act->World->Prop} {R:zan}
theorem zfq {md:Region.Mode} {opers:Array Oper} {ord:List Nat} (h:zua md opers ord=true):∀ i o,opers[i]? =some o->∀ e∈o.after,Region.binds md e=true->e.on<opers.size/\ord.idxOf e.on<ord.idxOf i:=by
 intro i o hi e he hb
 have hlt:=(Array.getElem?_eq_some_iff.1 hi).1
 have:=(List.all_eq_true.1 h) i (List.mem_range.2 hlt)
 rw [hi] at this
 simp only at this
 have:=(List.all_eq_true.1 this) e (Array.mem_toList_iff.2 he)
 rw [hb] at this
 simpa using this
theorem zpl {opers:Array Oper} {mixed:Bool} {t:Nat} {w:World} {all:List Item}
 (hm:∀ md,(md=.any\/md=.text\/md=.gc)->wpAny P md opers Q opers.size (Array.replicate opers.size false) a w):wpOps P opers Q (Region.schedule mixed opers t) a w:=by
 unfold Region.schedule
 split
 ·exact wpAny_sound opers.size t _ a w (hm .any (.inl rfl))
 ·split
  ·exact wpAny_sound opers.size (t / 2) _ a w (hm .text (.inr (.inl rfl)))
  ·exact wpAny_sound opers.size (t / 2) _ a w (hm .gc (.inr (.inr rfl)))
theorem SR.drew (h:SR B x FV FC []) (ht:Tied B ts n x a) (k:Nat):SR B ⟨{ x.w with drawn:=k },x.I,x.φ,x.tm,x.st⟩ FV FC []/\Tied B ts n ⟨{ x.w with drawn:=k },x.I,x.φ,x.tm,x.st⟩ a:=by
 refine ⟨h.away (fun _=>False) (fun _ _ h=>h.elim) (w':={ x.w with drawn:=k }) (I':=x.I) (FX':=[]) (fun _ _ _ _=>rfl) (fun _ _ h=>h.elim) ⟨Nat.le_refl _,rfl,rfl,rfl⟩ (fun _ h=>h) (fun _ h=>.inl h) h.ilt (fun _ _=>rfl) (fun _ _=>by simp) (fun _ _=>by simp),
  ⟨ht.len,ht.tie,ht.size,ht.defers,ht.nbx,ht.phi,ht.nk,ht.kp⟩⟩
theorem zxt (hR:zwx P R B) {opers:Array Oper} {m id:Nat} {its:List Item} {perms:List (List Nat)} {sf:St} (h:SR B x FV FC []) (ht:Tied B ts n x a) (hok:ztw P n ts opers m its perms=true)
 (hrunP:zgn R ts.length its perms { x.st with vars:=x.st.vars++List.replicate m .gone }=some sf)
 (hQ:∀ x' FV' FC' a',x'.st=sf->SR B x' FV' FC' []->Tied B (ts++zl0 opers its) n x' a'->Q .normal a' x'.w):(Code.region id opers true).wp P Q a x.w:=by
 unfold ztw at hok
 simp only [Bool.and_eq_true,beq_iff_eq] at hok
 obtain ⟨⟨⟨⟨⟨⟨⟨rfl,h1⟩,h2⟩,hperm⟩,hcv⟩,h3⟩,h4⟩,h5⟩:=hok
 obtain ⟨hrun,hrunA⟩:zfj R ts.length [] [] its { x.st with vars:=x.st.vars++List.replicate opers.size .gone }=some sf/\∀ p∈perms,zfj R ts.length [] [] (zer its p) { x.st with vars:=x.st.vars++List.replicate opers.size .gone }=some sf:=by
  unfold zgn at hrunP
  split at hrunP
  ·rename_i s1 g1
   split at hrunP
   ·rename_i g2
    cases hrunP
    exact ⟨g1,g2⟩
   ·cases hrunP
  ·cases hrunP
 refine wp_region_draw fun t=> ?_
 obtain ⟨g1,g2⟩:=h.drew ht (x.w.drawn+1)
 obtain ⟨x',FV',e1,e2,e3,e4⟩:=zgy (zl0 opers its) g1 g2
 have hlt:(zl0 opers its).length=opers.size:=by simp [zl0]
 rw [hlt] at e2
 have hw:({ x.w with drawn:=x.w.drawn+1 }:World)=x'.w:=e1.symm
 rw [hw]
 have hcov:∀ j,j<opers.size->∃ q∈its,q.i=j:=by
  intro j hj
  have:=(List.all_eq_true.1 h2) j (List.mem_range.2 hj)
  simpa using this
 have hWlen:({ x.st with vars:=x.st.vars++List.replicate opers.size .gone }:St).vars.length=ts.length+opers.size:=by simp [ht.len]
 have hsubP:∀ p,∀ q∈zer its p,q∈its:=by
  intro p q hq
  obtain ⟨k,_,hk⟩:=List.mem_filterMap.1 hq
  exact List.mem_of_getElem? hk
 have huq:∀ q∈its,∀ q'∈its,q.i=q'.i->q=q':=by
  have key2:∀ (all T seen:List Item),zcc P n (ts++zl0 opers its) ts.length opers all seen T=true->∀ q∈T,∀ q'∈T,q.i=q'.i->q=q':=by
   intro all T
   induction T with
   | nil=>intro _ _ q hq;cases hq
   | cons z T ih=>
     intro seen hk q hq q' hq' e
     simp only [zcc,Bool.and_eq_true] at hk
     rcases List.mem_cons.1 hq with g1|g1
     ·rcases List.mem_cons.1 hq' with g2|g2
      ·rw [g1,g2]
      ·exact ((okItems_mem hk.2 q' g2).2 z (by simp) (by rw [<- g1];exact e)).elim
     ·rcases List.mem_cons.1 hq' with g2|g2
      ·exact ((okItems_mem hk.2 q g1).2 z (by simp) (by rw [<- g2];exact e.symm)).elim
      ·exact ih _ hk.2 q g1 q' g2 e
  exact key2 its its [] h1
 have hPl:∀ T,(T=its\/∃ p∈perms,T=zer its p)->Pl P R n (ts++zl0 opers its) ts.length opers its [] [] T { x.st with vars:=x.st.vars++List.replicate opers.size .gone } sf:=by
  intro T hT
  have hrunT:zfj R ts.length [] [] T { x.st with vars:=x.st.vars++List.replicate opers.size .gone }=some sf:=by
   rcases hT with rfl|⟨p,hp,rfl⟩
   ·exact hrun
   ·exact hrunA p hp
  have hokT:zcc P n (ts++zl0 opers its) ts.length opers its [] T=true:=by
   rcases hT with rfl|⟨p,hp,rfl⟩
   ·exact h1
   ·have:=(List.all_eq_true.1 hperm) p hp
    simp only [Bool.and_eq_true] at this
    exact this.1.1
  have hsub:∀ q∈T,q∈its:=by
   rcases hT with rfl|⟨p,hp,rfl⟩
   ·exact fun _ h=>h
   ·exact hsubP p
  have hall:∀ q∈its,q∈T:=by
   rcases hT with rfl|⟨p,hp,rfl⟩
   ·exact fun _ h=>h
   ·intro q hq
    have:=(List.all_eq_true.1 hperm) p hp
    simp only [Bool.and_eq_true] at this
    obtain ⟨q',hq',e⟩:=List.any_eq_true.1 ((List.all_eq_true.1 this.1.2) q hq)
    have:q'=q:=huq q' (hsubP p q' hq') q hq (by simpa using e)
    subst this;exact hq'
  refine ⟨hrunT,hWlen,fun q hq=>.inr (.inr (hall q hq)),fun q hq=>hsub q (by simpa using hq),fun q hq=>by simp at hq,fun q hq=>by simp at hq,fun q hq=> ?_,fun q hq=>by simp at hq,fun q hq=>by simp at hq,[],hokT,fun q=>by simp,fun q hq=>by simp at hq⟩
  simp only [List.getD]
  rw [List.getElem?_append_right (by rw [<- ht.len];omega)]
  simp only [List.getElem?_replicate]
  split <;> rfl
 have hfalse:∀ j,(List.replicate opers.size false).getD j false=false:=fun j=>by simp only [List.getD,List.getElem?_replicate];split <;> rfl
 have hpure:∀ T,(T=its\/∃ p∈perms,T=zer its p)->zb4 T=zb4 its:=by
  rintro T (rfl|⟨p,hp,rfl⟩)
  ·rfl
  ·have:=(List.all_eq_true.1 hperm) p hp
   simp only [Bool.and_eq_true,beq_iff_eq] at this
   have c2:=this.2
   have sub:∀ (r:List Item),(∀ z∈r,z∈its)->∀ z∈zb4 r,z∈its:=by
    intro r
    induction r with
    | nil=>intro _ z hz;cases hz
    | cons w r ihr=>
      intro hw z hz
      unfold zb4 at hz
      split at hz
      ·cases hz
      ·rcases List.mem_cons.1 hz with rfl|hz
       ·exact hw _ (by simp)
       ·exact ihr (fun z hz=>hw z (by simp [hz])) z hz
   have eqL:∀ (A C:List Item),(∀ z∈A,z∈its)->(∀ z∈C,z∈its)->A.map (·.i)=C.map (·.i)->A=C:=by
    intro A
    induction A with
    | nil=>intro C _ _ e;cases C with
      | nil=>rfl
      | cons _ _=>cases e
    | cons z A ihA=>
      intro C h1 h2 e
      cases C with
      | nil=>cases e
      | cons w C=>
        simp only [List.map_cons,List.cons.injEq] at e
        rw [huq z (h1 z (by simp)) w (h2 w (by simp)) e.1,ihA C (fun z hz=>h1 z (by simp [hz])) (fun z hz=>h2 z (by simp [hz])) e.2]
   exact eqL _ _ (sub _ (hsubP p)) (sub _ fun _ h=>h) c2
 have hmemT:∀ T∈(its::perms.map (zer its)),T=its\/∃ p∈perms,T=zer its p:=by
  intro T hT
  rcases List.mem_cons.1 hT with rfl|hT
  ·exact .inl rfl
  ·obtain ⟨p,hp,rfl⟩:=List.mem_map.1 hT
   exact .inr ⟨p,hp,rfl⟩
 have p4:=((hPl its (.inl rfl)).skip).2.2.2
 have hst:x'.st=(tell R ts.length (zb4 its) { x.st with vars:=x.st.vars++List.replicate opers.size .gone }).only ts.length (List.replicate opers.size false):=by
  rw [p4 _ (by simp) (fun q _=>hfalse _),e2]
  refine St.ext' rfl (by rw [zc9 hWlen (by simp)];exact hWlen) fun i=> ?_
  rw [zbz hWlen (by simp)]
  by_cases hi:i<ts.length
  ·rw [if_pos (.inl hi)]
  ·rw [if_neg]
   ·simp only [List.getD]
    rw [List.getElem?_append_right (by rw [<- ht.len];omega)]
    simp only [List.getElem?_replicate]
    split <;> rfl
   ·rintro (h6|h6)
    ·exact hi h6
    ·rw [hfalse] at h6;cases h6
 refine zpl (all:=its) fun md hmd=> ?_
 have main:∀ rk:Nat->Nat,(∀ i o,opers[i]? =some o->∀ e∈o.after,Region.binds md e=true->e.on<opers.size/\rk e.on<rk i)->wpAny P md opers Q opers.size (Array.replicate opers.size false) a x'.w:=by
  intro rk hrk
  exact ydd (ns:=ts.length) hR hQ rk hrk hcov huq (by simp [zl0]) opers.size _ a x' FV' FC ((zb4 its).reverse ++ []) [] (dropPure its) (tell R ts.length (zb4 its) { x.st with vars:=x.st.vars++List.replicate opers.size .gone }) ((its::perms.map (zer its)).map dropPure) (its.length+1) (by simp) (fun T hT=>by
   obtain ⟨T',hT',rfl⟩:=List.mem_map.1 hT
   have:=((hPl T' (hmemT T' hT')).skip).1
   rw [hpure T' (hmemT T' hT')] at this
   exact this) hcv (fun T hT=>by
   obtain ⟨T',hT',rfl⟩:=List.mem_map.1 hT
   refine ⟨by simp,fun q hq hk=> ?_,fun q hq=>by simp at hq,fun q hq=> ?_⟩
   ·rw [show (Array.replicate opers.size false).toList=List.replicate opers.size false by simp,hfalse] at hk;cases hk
   ·rw [show (Array.replicate opers.size false).toList=List.replicate opers.size false by simp];exact hfalse _) (by
   have:unl (List.replicate opers.size false)<=opers.size:=by unfold unl;exact Nat.le_trans (List.length_filter_le _ _) (by simp)
   simpa using this) (by simpa using hst) e3 e4
 rcases hmd with rfl|rfl|rfl
 ·exact main (fun i=>(List.range opers.size).idxOf i) (zfq h3)
 ·exact main (fun i=>(List.range opers.size).idxOf i) (zfq h4)
 ·exact main (fun i=>(Region.linearise .gc opers 0).idxOf i) (zfq h5)
def zc8 (P:Program) (n:Nat) (ts:List (Option Nat)):Code->HCode->Bool
 | .skip,.skip=>true
 | .seq a b,.seq a' b'=>zc8 P n ts a a'&&zc8 P n ts b b'
 | .region _ ops false,.region hs=>(match ycx P n ops ts ops.toList hs with|some ts'=>ts'.take ts.length == ts|none=>false)
 | .region _ ops true,.draw m its=>ztw P n ts ops m its []
 | .region _ ops true,.drawP m its perms=>ztw P n ts ops m its perms
 | .cond c a b,.cond c' a' b'=>za1 ts c c'&&zc8 P n ts a a'&&zc8 P n ts b b'
 | .block id a,.block id' a'=>id == id'&&zc8 P n ts a a'
 | .exit id,.exit id'=>id == id'
 | .loop a,.loop _ a'=>zc8 P n ts a a'
 | .ret,.ret=>true
 | _,.dead=>true
 | _,_=>false
def Ex.to:Ex->Exit
 | .normal=>.normal
 | .exit id=>.exit id
 | .ret=>.ret
def ykm (B:Base) (n:Nat) (ts:List (Option Nat)) (ex:Ex) (s:St):Exit->Act->World->Prop:=fun e a w=>e=ex.to/\∃ x FV FC,x.w=w/\x.st=s/\SR B x FV FC []/\Tied B ts n x a
theorem yhg (h:SR B x FV FC []) (ht:Tied B ts n x a) {nb:Nat} {dead:List Nat} {s:St} (hnb:B.nb<=nb) (hs:x.st.trim nb dead=some s):∃ FV',SR B ⟨x.w,x.I,x.φ,x.tm,s⟩ FV' FC []/\Tied B ts n ⟨x.w,x.I,x.φ,x.tm,s⟩ a:=by
 unfold St.trim at hs
 have deads:∀ (dead:List Nat) (vs:List V) (FV:Nat->Nat->List Nat),SR B ⟨x.w,x.I,x.φ,x.tm,⟨vs,x.st.boxes⟩⟩ FV FC []->
  ∃ FV',SR B ⟨x.w,x.I,x.φ,x.tm,⟨dead.foldl (fun vs d=>(vs.map (V.leafwise (V.killVar1 d))).set d .gone) vs,x.st.boxes⟩⟩ FV' FC []/\(dead.foldl (fun vs d=>(vs.map (V.leafwise (V.killVar1 d))).set d .gone) vs).length=vs.length:=by
  intro dead
  induction dead with
  | nil=>intro vs FV h;exact ⟨FV,h,rfl⟩
  | cons d dead ih=>
    intro vs FV h
    have hget:∀ i,((vs.map (V.leafwise (V.killVar1 d))).set d .gone).getD i .gone=if i=d then .gone else V.leafwise (V.killVar1 d) (vs.getD i .gone):=by
     intro i
     rw [zgg]
     by_cases e:i=d
     ·subst e
      by_cases hl:i<vs.length
      ·rw [if_pos ⟨rfl,by simpa using hl⟩,if_pos rfl]
      ·rw [if_neg (fun h=>hl (by simpa using h.2)),if_pos rfl,zai (by simpa using hl)]
     ·rw [if_neg (fun h=>e h.1),if_neg e,zas _ rfl]
    obtain ⟨f1,_⟩:=h.forget (st':=⟨(vs.map (V.leafwise (V.killVar1 d))).set d .gone,x.st.boxes⟩) (K:=(· ≠ .var d)) (zau d) (fun z=>zhv) (fun i=>decide (i=d))
     (by simp) (Nat.le_refl _) (fun i hi=>by simp only;rw [hget];by_cases e:i=d <;> simp [e]) (fun _ _=>rfl)
     (fun i hK hi=>⟨by simpa using hi,by simp only [decide_eq_false_iff_not];intro e;exact hK (by rw [e])⟩) (fun _ _ h=>h)
     (fun i hi c=>by
      simp only;rw [hget]
      split
      ·by_cases h0:c=0
       ·subst h0;trivial
       ·rw [zai (by simp [V.cells];omega)];trivial
      ·rw [zae (zau d),zas (f:=V.killVar1 d) _ rfl]
       exact zd9)
     (fun j hj c=>h.boxkept j hj c)
    obtain ⟨FV',g1,g2⟩:=ih _ _ f1
    exact ⟨FV',g1,by simpa using g2⟩
 obtain ⟨FV1,g1,g2⟩:=deads dead x.st.vars FV h
 simp only at hs
 split at hs
 ·rename_i hc
  cases hs
  obtain ⟨hv,hb⟩:=hc
  generalize hvs:dead.foldl (fun vs d=>(vs.map (V.leafwise (V.killVar1 d))).set d .gone) x.st.vars=vs at g1 g2 hv
  have hkeep:∀ z:V,V.under1 nb z=true->zbe (fun r=>match r with | .var _=>True | .box k=>k<nb) z:=by
   intro z hz
   cases z with
   | hd e r c up lo hi=>cases r <;> first|trivial|simpa [V.under1,zbe] using hz
   | ref r c up=>cases r <;> first|trivial|simpa [V.under1,zbe] using hz
   | fn f caps=>
     intro i k hi he
     simp only [V.under1,List.all_eq_true] at hz
     have:=hz _ (List.getElem_mem hi)
     rw [za3 hi] at he
     rw [he] at this
     simpa using this
   | _=>trivial
  have hcell:∀ (zs:List V),zs.all (V.under1 nb)=true->∀ c,V.under1 nb (zs.getD c .gone)=true:=by
   intro zs hz c
   by_cases hc:c<zs.length
   ·rw [za3 hc];exact (List.all_eq_true.1 hz) _ (List.getElem_mem hc)
   ·rw [zai hc];rfl
  obtain ⟨f1,_⟩:=g1.forget (st':=⟨vs,x.st.boxes.take nb⟩) (K:=fun r=>match r with | .var _=>True | .box k=>k<nb) (f:=fun v=>v) zdr (fun z hz=>absurd rfl hz) (fun _=>false)
   (Nat.le_refl _) (by simp;omega) (fun i _=>by simp [zch])
   (fun k hk=>by
    simp only [List.length_take] at hk
    simp only [List.getD,List.getElem?_take]
    rw [if_pos (show k<nb by omega)])
   (fun i _ hi=>⟨hi,rfl⟩) (fun k hk hl=>by simp only [List.length_take];simp only at hl;omega)
   (fun i hi c=>hkeep _ (by
    have:=(List.all_eq_true.1 hv) _ (List.getElem_mem hi)
    simp only
    rw [za3 hi]
    exact hcell _ this c))
   (fun k hk c=>hkeep _ (by
    have:=(List.all_eq_true.1 hb) _ (List.getElem_mem hk)
    rw [List.all_eq_true] at this
    simp only
    rw [za3 hk]
    by_cases hc:c<(x.st.boxes.take nb)[k].length
    ·have h2:=this _ (List.getElem_mem hc)
     rw [za3 hc]
     generalize (x.st.boxes.take nb)[k][c]=z at h2
     cases z with
     | agg cs=>rfl
     | tup vs=>rfl
     | _=>simpa [V.under,V.cells] using h2
    ·rw [zai hc];rfl))
  refine ⟨_,f1,⟨by show ts.length=vs.length;rw [g2];exact ht.len,ht.tie,ht.size,ht.defers,by have:=ht.nbx;simp only [List.length_take];omega,ht.phi,ht.nk,ht.kp⟩⟩
 ·cases hs
theorem zy0 {c:Code} {nb:Nat} {dead:List Nat} {f:St->Option (Ex×St)} (hnb:B.nb<=nb)
 (hf:∀ {x:Cx} {FV FC:Nat->Nat->List Nat} {a:Act} {ex s1},SR B x FV FC []->Tied B ts n x a->f x.st=some (ex,s1)->c.wp P (ykm B n ts ex s1) a x.w):
 ∀ (k:Nat) {x:Cx} {FV FC:Nat->Nat->List Nat} {a:Act} {ex s1},SR B x FV FC []->Tied B ts n x a->zvb f nb dead k x.st=some (ex,s1)->Code.rounds P c (ykm B n ts ex s1) k a x.w
 | 0,x,FV,FC,a,ex,s1,h,ht,hr=>by cases hr
 | k+1,x,FV,FC,a,ex,s1,h,ht,hr=>by
   simp only [zvb] at hr
   split at hr
   ·rename_i s0 htr
    obtain ⟨FV0,h0,ht0⟩:=yhg h ht hnb htr
    rw [rounds_succ]
    split at hr
    ·rename_i s2 hf0
     refine wp_mono (hf (x:=⟨x.w,x.I,x.φ,x.tm,s0⟩) h0 ht0 hf0) ?_
     rintro e a' w' ⟨rfl,x',FV',FC',rfl,e2,h',ht'⟩
     exact zy0 hnb hf k h' ht' (by rw [e2];exact hr)
    ·rename_i hne
     refine wp_mono (hf (x:=⟨x.w,x.I,x.φ,x.tm,s0⟩) h0 ht0 hr) ?_
     rintro e a' w' ⟨rfl,hh⟩
     cases ex with
     | normal=>exact (hne _ hr).elim
     | exit id=>exact ⟨rfl,hh⟩
     | ret=>exact ⟨rfl,hh⟩
   ·cases hr
theorem zja {R:zan} (hR:zwx P R B) {k:Nat}:∀ (c:Code) (hc:HCode) {x:Cx} {FV FC:Nat->Nat->List Nat} {a:Act} {ex s1},zc8 P n ts c hc=true->SR B x FV FC []->Tied B ts n x a->
 zcy R k ts.length hc x.st=some (ex,s1)->c.wp P (ykm B n ts ex s1) a x.w:=by
 intro c hc
 induction hc generalizing c with
 | skip=>
   intro x FV FC a ex s1 hok h ht hr
   cases c <;> first|(cases hok;done)|(rename_i d;cases d <;> cases hok;done)|skip
   cases hr
   exact wp_skip ⟨rfl,x,FV,FC,rfl,rfl,h,ht⟩
 | ret=>
   intro x FV FC a ex s1 hok h ht hr
   cases c <;> first|(cases hok;done)|(rename_i d;cases d <;> cases hok;done)|skip
   cases hr
   exact wp_ret ⟨rfl,x,FV,FC,rfl,rfl,h,ht⟩
 | dead=>intro x FV FC a ex s1 hok h ht hr;cases hr
 | exit id=>
   intro x FV FC a ex s1 hok h ht hr
   cases c <;> first|(cases hok;done)|(rename_i d;cases d <;> cases hok;done)|skip
   simp only [zc8,beq_iff_eq] at hok
   subst hok
   cases hr
   exact wp_exit ⟨rfl,x,FV,FC,rfl,rfl,h,ht⟩
 | seq A C ih1 ih2=>
   intro x FV FC a ex s1 hok h ht hr
   cases c <;> first|(cases hok;done)|(rename_i d;cases d <;> cases hok;done)|skip
   simp only [zc8,Bool.and_eq_true] at hok
   simp only [zcy] at hr
   refine wp_seq ?_
   split at hr
   ·rename_i s2 h1
    refine wp_mono (ih1 _ hok.1 h ht h1) ?_
    rintro e a' w' ⟨rfl,x',FV',FC',rfl,e2,h',ht'⟩
    exact ih2 _ hok.2 h' ht' (by rw [e2];exact hr)
   ·rename_i hne
    refine wp_mono (ih1 _ hok.1 h ht hr) ?_
    rintro e a' w' ⟨rfl,hh⟩
    cases ex with
    | normal=>exact (hne _ hr).elim
    | exit id=>exact ⟨rfl,hh⟩
    | ret=>exact ⟨rfl,hh⟩
 | region hs=>
   intro x FV FC a ex s1 hok h ht hr
   cases c with
   | region id ops d=>
     cases d with
     | true=>cases hok
     | false=>
       simp only [zc8] at hok
       split at hok
       ·rename_i ts' hops
        simp only [zcy,Option.map_eq_some_iff,Prod.mk.injEq] at hr
        obtain ⟨s2,h1,rfl,rfl⟩:=hr
        refine wp_region ?_
        have:=zzg hR (opers:=ops) (ns:=ts.length) (Q:=ykm B n ts .normal (s2.fin ts.length)) ops.toList hs 0 (by simp) h ht h1 hops (fun x' FV' FC' a' e1 h' ht'=> ?_)
        ·rw [List.range_eq_range'];simpa using this
        ·have hle:ts.length<=ts'.length:=by
          have:=congrArg List.length (eq_of_beq hok)
          simp at this;omega
         obtain ⟨FV2,h2,ht2⟩:=zug h' ht' hle ht.nk
         rw [eq_of_beq hok] at ht2
         exact ⟨rfl,⟨x'.w,x'.I,x'.φ,x'.tm,x'.st.fin ts.length⟩,FV2,FC',rfl,by simp only [e1],h2,ht2⟩
       ·cases hok
   | _=>cases hok
 | draw m its=>
   intro x FV FC a ex s1 hok h ht hr
   cases c with
   | region id ops d=>
     cases d with
     | false=>cases hok
     | true=>
       simp only [zc8] at hok
       simp only [zcy,Option.map_eq_some_iff,Prod.mk.injEq] at hr
       obtain ⟨s2,h1,rfl,rfl⟩:=hr
       refine zxt hR (perms:=[]) (sf:=s2) h ht hok (by unfold zgn;rw [h1];simp) fun x' FV' FC' a' e1 h' ht'=> ?_
       obtain ⟨FV2,h2,ht2⟩:=zug (ns:=ts.length) h' ht' (by simp) ht.nk
       rw [List.take_left] at ht2
       exact ⟨rfl,⟨x'.w,x'.I,x'.φ,x'.tm,x'.st.fin ts.length⟩,FV2,FC',rfl,by simp only [e1],h2,ht2⟩
   | _=>cases hok
 | drawP m its perms=>
   intro x FV FC a ex s1 hok h ht hr
   cases c with
   | region id ops d=>
     cases d with
     | false=>cases hok
     | true=>
       simp only [zc8] at hok
       simp only [zcy,Option.map_eq_some_iff,Prod.mk.injEq] at hr
       obtain ⟨s2,h1,rfl,rfl⟩:=hr
       refine zxt hR h ht hok h1 fun x' FV' FC' a' e1 h' ht'=> ?_
       obtain ⟨FV2,h2,ht2⟩:=zug (ns:=ts.length) h' ht' (by simp) ht.nk
       rw [List.take_left] at ht2
       exact ⟨rfl,⟨x'.w,x'.I,x'.φ,x'.tm,x'.st.fin ts.length⟩,FV2,FC',rfl,by simp only [e1],h2,ht2⟩
   | _=>cases hok
 | cond c' A C ih1 ih2=>
   intro x FV FC a ex s1 hok h ht hr
   cases c <;> first|(cases hok;done)|(rename_i d;cases d <;> cases hok;done)|skip
   simp only [zc8,Bool.and_eq_true] at hok
   obtain ⟨⟨hc,hA⟩,hC⟩:=hok
   simp only [zcy] at hr
   split at hr
   ·rename_i t hrd
    have hb:=zd5 (zaq h ht hc hrd)
    refine wp_cond hb ?_
    cases t with
    | true=>exact ih1 _ hA h ht hr
    | false=>exact ih2 _ hC h ht hr
   ·cases hr
 | block id A ih=>
   intro x FV FC a ex s1 hok h ht hr
   cases c <;> first|(cases hok;done)|(rename_i d;cases d <;> cases hok;done)|skip
   simp only [zc8,Bool.and_eq_true,beq_iff_eq] at hok
   obtain ⟨rfl,hA⟩:=hok
   simp only [zcy] at hr
   refine wp_block ?_
   split at hr
   ·rename_i id' s2 h1
    refine wp_mono (ih _ hA h ht h1) ?_
    rintro e a' w' ⟨rfl,hh⟩
    simp only [Ex.to,Exit.inBlock]
    split at hr
    ·rename_i he;cases hr;rw [if_pos he];exact ⟨rfl,hh⟩
    ·rename_i he;cases hr;rw [if_neg he];exact ⟨rfl,hh⟩
   ·rename_i hne
    refine wp_mono (ih _ hA h ht hr) ?_
    rintro e a' w' ⟨rfl,hh⟩
    cases ex with
    | exit id=>exact (hne _ _ hr).elim
    | normal=>exact ⟨rfl,hh⟩
    | ret=>exact ⟨rfl,hh⟩
 | loop dead A ih=>
   intro x FV FC a ex s1 hok h ht hr
   cases c <;> first|(cases hok;done)|(rename_i d;cases d <;> cases hok;done)|skip
   simp only [zc8] at hok
   simp only [zcy] at hr
   exact wp_loop_rounds k (zy0 ht.nbx (fun h ht hf=>ih _ hok h ht hf) k h ht hr)
end Go.Pm
namespace Go.Pm
variable {P:Program} {B:Base} {x:Cx} {FV FC:Nat->Nat->List Nat} {FX:List Nat} {a:Act} {ts:List (Option Nat)} {n:Nat} {R:zan}
theorem zy7 (h:SR B x FV FC []) {val:Value} {t:TypeId} {m:Option Nat} (hm:zdb P t m=true) {r c up cs v} (hL:x.LR1 val (.ref r c up) []) (hc:x.st.cont r up=some cs) (hv:zkz r up c cs m=some v):
 ∃ ad u,val=.pointer (some ad)/\(loadVar t ad).run P x.w=.ok u x.w/\Pend x u v fun _=>[]:=by
 obtain ⟨b,of,e1,hcell⟩:=zpg h hL hc
 have hload:=zce (P:=P) hm (w:=x.w) (b:=b) (o:=of) (f:=fun j=>x.place r up (c+j))
 cases m with
 | none=>
   simp only [zkz,Option.map_eq_some_iff] at hv
   obtain ⟨z,hz,rfl⟩:=hv
   obtain ⟨hlt,he⟩:=List.getElem?_eq_some_iff.1 hz
   have:=hload (fun j hj=>hcell j (by have:j=0:=by simpa using hj
                                      subst this;exact hlt))
   simp only [Nat.add_zero] at this
   have hb:=zcz h hc hlt
   rw [za3 hlt,he] at hb
   exact ⟨_,_,e1,this,Pend.leaf hb⟩
 | some k=>
   simp only [zkz] at hv
   split at hv
   ·rename_i hle
    cases hv
    have hlen:((cs.drop c).take k).length=k:=by simp;omega
    have:=hload (fun j hj=>hcell j (by simp at hj;omega))
    refine ⟨_,_,e1,this,⟨⟨_,rfl,?_⟩,?_⟩⟩
    ·rw [zb8,hlen];simp
    ·intro j hj
     simp only [V.cells,zb8,hlen] at hj ⊢
     rw [zd2 _ _ _ _ _ (by rw [hlen];exact hj)]
     have e2:((cs.drop c).take k).getD j .gone=cs.getD (c+j) .gone:=by simp [List.getD,hj]
     have e3:zac (.agg ((List.range k).map fun j=>x.place r up (c+j)).toArray) (.agg (borrows r up c ((cs.drop c).take k))) j=x.place r up (c+j):=by
      simp [zac,zdl,List.getD,hj]
     rw [e2,e3]
     exact zcz h hc (by omega)
   ·cases hv
def zq4 (P:Program) (ts:List (Option Nat)):List ResultVar->List (Nat×Option (Option Nat))->Bool
 | [],[]=>true
 | .tmp t::rs,(i,none)::hs=>ts.getD i none == some t&&zq4 P ts rs hs
 | .cell t ty::rs,(i,some m)::hs=>ts.getD i none == some t&&zdb P ty m&&zq4 P ts rs hs
 | _,_=>false
theorem zie (h:SR B x FV FC []) (ht:Tied B ts n x a):∀ {rs:List ResultVar} {hs:List (Nat×Option (Option Nat))} {vs:List V},zq4 P ts rs hs=true->x.st.rdRes hs=some vs->
 ∃ vals:List Value,(rs.mapM (m:=Sem) fun | .tmp t=>pure (a.tmps.getD t undef) | .cell ad t=>do loadVar t (<- asAddr (a.tmps.getD ad undef))).run P x.w=.ok vals x.w/\vals.length=vs.length/\
   ∀ i,i<vs.length->Pend x (vals.getD i undef) (vs.getD i .gone) fun _=>[]
 | [],[],vs,_,hr=>by
   cases hr
   exact ⟨[],by simp,rfl,fun i hi=>by simp at hi⟩
 | .tmp t::rs,(i,none)::hs,vs,hok,hr=>by
   simp only [zq4,Bool.and_eq_true] at hok
   simp only [St.rdRes] at hr
   split at hr
   ·rename_i v hv
    simp only [Option.map_eq_some_iff] at hr
    obtain ⟨vs',h1,rfl⟩:=hr
    obtain ⟨vals,g1,g2,g3⟩:=zie h ht hok.2 h1
    have hrd:x.st.rd (.reg i)=some v:=by
     revert hv
     cases hq:x.st.rd (.reg i) with
     | none=>intro hv;cases hv
     | some u=>intro hv;simpa using hv
    have hp:=zaq h ht (y:=.tmp t) (o:=.reg i) (by simpa [za1] using hok.1) hrd
    have hev:a.eval (.tmp t)=a.tmps.getD t undef:=by simp [Act.eval,Array.getD_eq_getD_getElem?]
    refine ⟨a.tmps.getD t undef::vals,?_,by simp [g2],fun j hj=> ?_⟩
    ·rw [List.mapM_cons]
     simp only [Sem.run_bind,Sem.run_pure,Result.andThen_ok,g1]
    ·cases j with
     | zero=>simp only [List.getD_cons_zero];rw [<- hev];exact hp
     | succ j=>simpa using g3 j (by simpa using hj)
   ·cases hr
 | .cell t ty::rs,(i,some m)::hs,vs,hok,hr=>by
   simp only [zq4,Bool.and_eq_true] at hok
   obtain ⟨⟨hok1,hok2⟩,hok3⟩:=hok
   simp only [St.rdRes] at hr
   split at hr
   ·rename_i v hv
    simp only [Option.map_eq_some_iff] at hr
    obtain ⟨vs',h1,rfl⟩:=hr
    obtain ⟨vals,g1,g2,g3⟩:=zie h ht hok3 h1
    have hq:∃ r c up cs,x.st.rd (.reg i)=some (.ref r c up)/\x.st.cont r up=some cs/\zkz r up c cs m=some v:=by
     revert hv
     cases hq:x.st.rd (.reg i) with
     | none=>intro hv;cases m <;> cases hv
     | some u=>
       intro hv
       cases u with
       | ref r c up=>
         cases m with
         | none=>
           simp only [Option.bind_eq_some_iff] at hv
           obtain ⟨cs,h1,h2⟩:=hv
           exact ⟨r,c,up,cs,rfl,h1,h2⟩
         | some m=>
           simp only [Option.bind_eq_some_iff] at hv
           obtain ⟨cs,h1,h2⟩:=hv
           exact ⟨r,c,up,cs,rfl,h1,h2⟩
       | _=>cases m <;> cases hv
    obtain ⟨r,c,up,cs,q1,q2,q3⟩:=hq
    have hp:=zaq h ht (y:=.tmp t) (o:=.reg i) (by simpa [za1] using hok1) q1
    have hev:a.eval (.tmp t)=a.tmps.getD t undef:=by simp [Act.eval,Array.getD_eq_getD_getElem?]
    rw [hev] at hp
    obtain ⟨ad,u,k1,k2,k3⟩:=zy7 h hok2 (zag hp rfl) q2 q3
    have hA:(asAddr (a.tmps.getD t undef):Sem Addr)=pure ad:=by rw [k1];rfl
    refine ⟨u::vals,?_,by simp [g2],fun j hj=> ?_⟩
    ·rw [List.mapM_cons]
     simp only [Sem.run_bind,Sem.run_pure,Result.andThen_ok,hA,k2,g1]
    ·cases j with
     | zero=>simpa using k3
     | succ j=>simpa using g3 j (by simpa using hj)
   ·cases hr
 | [],_::_,_,hok,_=>by cases hok
 | .tmp _::_,[],_,hok,_=>by cases hok
 | .cell _ _::_,[],_,hok,_=>by cases hok
 | .tmp _::_,(_,some _)::_,_,hok,_=>by cases hok
 | .cell _ _::_,(_,none)::_,_,hok,_=>by cases hok
end Go.Pm
namespace Go.Pm
variable {P:Program} {B:Base} {x:Cx} {FV FC:Nat->Nat->List Nat} {FX:List Nat} {a:Act} {ts:List (Option Nat)} {n:Nat} {R:zan}
theorem zkf (h:SR B x FV FC FX) (hnb:B.nb<=x.st.boxes.length) {v:Value} {r:V} {G:Nat->List Nat} (hs:zbk v r) (hc:∀ c,c<r.cells.length->VR x.w x.I (zac v r c) (r.cells.getD c .gone) (G c)/\(r.cells.getD c .gone).leaf=true)
 (hF:∀ b,(cat r.cells.length G).count b<=tot x.st.vars.length (fun i=>cat (x.st.vars.getD i .gone).cells.length (FV i)) b+FX.count b) (hb:((x.st.boxes.take B.nb).all fun b=>b.all bnd)=true):
 SR B ⟨x.w,x.I,x.φ,fun _=>v,⟨[r],x.st.boxes.take B.nb⟩⟩ (fun _=>G) FC []:=by
 have hlen:(x.st.boxes.take B.nb).length=B.nb:=by simp;omega
 have hbox:∀ k,k<B.nb->(x.st.boxes.take B.nb).getD k []=x.st.boxes.getD k []:=by
  intro k hk
  simp only [List.getD,List.getElem?_take]
  rw [if_pos hk]
 have hbnd:∀ k,k<B.nb->∀ c,c<(x.st.boxes.getD k []).length->bnd ((x.st.boxes.getD k []).getD c .gone)=true:=by
  intro k hk c hc
  rw [<- hbox k hk] at hc ⊢
  have h1:=(List.all_eq_true.1 hb) _ (List.getElem_mem (show k<(x.st.boxes.take B.nb).length by omega))
  have hk':k<(x.st.boxes.take B.nb).length:=by omega
  rw [za3 hk'] at hc ⊢
  rw [za3 hc]
  exact (List.all_eq_true.1 h1) _ (List.getElem_mem hc)
 have hheld:∀ b,zar ⟨[r],x.st.boxes.take B.nb⟩ x.φ (fun _=>G) FC [] b<=zar x.st x.φ FV FC FX b:=by
  intro b
  unfold zar
  simp only [hlen,List.count_nil]
  have e1:tot [r].length (fun i=>cat ([r].getD i .gone).cells.length G) b=(cat r.cells.length G).count b:=by simp [tot]
  have e2:tot B.nb (fun k=>x.φ k::cat ((x.st.boxes.take B.nb).getD k []).length (FC k)) b=tot B.nb (fun k=>x.φ k::cat (x.st.boxes.getD k []).length (FC k)) b:=zaa b fun k hk=>by rw [hbox k hk]
  have e3:=zct hnb (fun k=>x.φ k::cat (x.st.boxes.getD k []).length (FC k)) b
  have:=hF b
  omega
 refine ⟨fun i hi=> ?_,fun i hi c hcc=> ?_,fun k hk=> ?_,fun k hk c hcc=> ?_,fun k hk c hcc hm=> ?_,fun b=>Nat.le_trans (hheld b) (h.one b),fun b hb=> ?_,h.ilt,h.keep,h.gr,fun b hb=>h.held b (Nat.lt_of_lt_of_le hb (hheld b)),h.imm,h.new⟩
 ·have:i=0:=by simpa using hi
  subst this;exact hs
 ·have:i=0:=by simpa using hi
  subst this
  obtain ⟨h1,h2⟩:=hc c hcc
  exact za8 h1 h2
 ·simp only [hlen] at hk
  show Rows x.w (x.φ k) ((x.st.boxes.take B.nb).getD k []).length
  rw [hbox k hk];exact h.box k (by omega)
 ·simp only [hlen] at hk
  simp only [hbox k hk] at hcc ⊢
  obtain ⟨q1,q2⟩:=zhw (hbnd k hk c hcc)
  have hL:=h.boxes k (by omega) c hcc
  have hV:VR x.w x.I (x.rv (.box k) c) ((x.st.boxes.getD k []).getD c .gone) (FC k c):=zbs hL q1 q2
  exact za8 (x:=⟨x.w,x.I,x.φ,fun _=>v,⟨[r],x.st.boxes.take B.nb⟩⟩) hV (zbp hL)
 ·simp only [hlen] at hk
  simp only [hbox k hk] at hcc hm
  obtain ⟨q1,_⟩:=zhw (hbnd k hk c hcc)
  rw [q1] at hm;cases hm
 ·have:=h.apart b hb
  have:=hheld b
  show zar ⟨[r],x.st.boxes.take B.nb⟩ x.φ (fun _=>G) FC [] b=0
  omega
theorem ziq (h:SR B x FV FC []) (ht:Tied B ts n x a) {fn:Func} {hf:HFunc} (hok:zq4 P ts fn.results.toList hf.res=true) {r:V} {bs':List (List V)} (hr:x.st.finish hf B.nb=some (r,bs')):
 ∃ v,(results fn a.tmps).run P x.w=.ok v x.w/\∃ I' φ' FV' FC',(∀ j,j<B.nb->φ' j=B.φ j)/\SR B ⟨x.w,I',φ',fun _=>v,⟨[r],bs'⟩⟩ FV' FC' []:=by
 have hrun:∀ {vals:List Value},(fn.results.toList.mapM (m:=Sem) fun | .tmp t=>pure (a.tmps.getD t undef) | .cell ad t=>do loadVar t (<- asAddr (a.tmps.getD ad undef))).run P x.w=.ok vals x.w->
  (results fn a.tmps).run P x.w=.ok (match vals with | [v]=>v|vs=>.tuple vs.toArray) x.w:=by
  intro vals hv
  have e:results fn a.tmps=(do
   let vs <- fn.results.mapM fun | .tmp t=>pure (a.tmps.getD t undef) | .cell ad t=>do loadVar t (<- asAddr (a.tmps.getD ad undef))
   pure (if h:vs.size=1 then vs[0] else .tuple vs)):=rfl
  rw [e,Array.mapM_eq_mapM_toList]
  simp only [Sem.run_bind,Sem.run_map,Sem.run_pure]
  rw [hv]
  simp only [Result.andThen_ok]
  congr 1
  match vals with
  | []=>rfl
  | [v]=>rfl
  | v::u::vs=>simp
 unfold St.finish at hr
 split at hr
 ·
  rename_i k hrd
  split at hr
  ·rename_i b hb
   split at hr
   ·rename_i hc
    obtain ⟨hk,hbb,hbs⟩:=hc
    cases hr
    obtain ⟨vals,g1,g2,g3⟩:=zie h ht hok hrd
    have hlv:∃ v,vals=[v]:=by
     match vals,g2 with
     | [v],_=>exact ⟨v,rfl⟩
    obtain ⟨v,rfl⟩:=hlv
    have hp:=g3 0 (by simp)
    simp only [List.getD_cons_zero] at hp
    obtain ⟨_,k',cs,e1,e2,e3⟩:=zag hp rfl
    cases e1
    rw [hb] at e2
    cases e2
    have hkl:k<x.st.boxes.length:=(List.getElem?_eq_some_iff.1 hb).1
    have hbk:x.st.boxes.getD k []=b:=by rw [za3 hkl];exact (List.getElem?_eq_some_iff.1 hb).2
    have hlen:(x.st.boxes.take B.nb).length=B.nb:=by simp;omega
    have hbox:∀ j,j<B.nb->(x.st.boxes.take B.nb ++ [b]).getD j []=x.st.boxes.getD j []:=by
     intro j hj
     simp only [List.getD]
     rw [List.getElem?_append_left (by omega),List.getElem?_take,if_pos hj]
    have hlast:(x.st.boxes.take B.nb ++ [b]).getD B.nb []=b:=by
     simp only [List.getD]
     rw [List.getElem?_append_right (by omega),hlen];simp
    have hcell:∀ j,j<x.st.boxes.length->(x.st.boxes.getD j []).all bnd=true->∀ c,c<(x.st.boxes.getD j []).length->VR x.w x.I (x.rv (.box j) c) ((x.st.boxes.getD j []).getD c .gone) (FC j c)/\((x.st.boxes.getD j []).getD c .gone).leaf=true/\((x.st.boxes.getD j []).getD c .gone).mark=false:=by
     intro j hj hbnd c hc
     have hbc:bnd ((x.st.boxes.getD j []).getD c .gone)=true:=by rw [za3 hc];exact (List.all_eq_true.1 hbnd) _ (List.getElem_mem hc)
     obtain ⟨q1,q2⟩:=zhw hbc
     have hL:=h.boxes j hj c hc
     exact ⟨zbs hL q1 q2,zbp hL,q1⟩
    have hold:∀ j,j<B.nb->(x.st.boxes.getD j []).all bnd=true:=by
     intro j hj
     have h1:=(List.all_eq_true.1 hbs) _ (List.getElem_mem (show j<(x.st.boxes.take B.nb).length by omega))
     have:(x.st.boxes.take B.nb)[j]'(by omega)=x.st.boxes.getD j []:=by rw [List.getElem_take,za3 (by omega)]
     rw [this] at h1;exact h1
    have hheld:∀ c,zar ⟨[V.ref (.box B.nb) 0 []],x.st.boxes.take B.nb ++ [b]⟩ (upd x.φ B.nb (x.φ k)) (fun _ _=>[]) (fun j=>if j=B.nb then FC k else FC j) [] c<=zar x.st x.φ FV FC [] c:=by
     intro c
     unfold zar
     have e1:tot [V.ref (.box B.nb) 0 []].length (fun i=>cat (([V.ref (.box B.nb) 0 []]:List V).getD i .gone).cells.length (fun _=>([]:List Nat))) c=0:=zb9 fun i _ hm=>by rw [zb6] at hm;cases hm
     have e2:(x.st.boxes.take B.nb ++ [b]).length=B.nb+1:=by simp;omega
     simp only [e1,e2,List.count_nil]
     rw [zak]
     have e3:tot B.nb (fun j=>upd x.φ B.nb (x.φ k) j::cat ((x.st.boxes.take B.nb ++ [b]).getD j []).length (if j=B.nb then FC k else FC j)) c=tot B.nb (fun j=>x.φ j::cat (x.st.boxes.getD j []).length (FC j)) c:=zaa c fun j hj=>by
      rw [zam _ _ (by omega),hbox j hj,if_neg (by omega)]
     rw [e3,zaj,hlast,if_pos rfl,<- hbk]
     have e4:tot B.nb (fun j=>x.φ j::cat (x.st.boxes.getD j []).length (FC j)) c+(x.φ k::cat (x.st.boxes.getD k []).length (FC k)).count c<=tot (k+1) (fun j=>x.φ j::cat (x.st.boxes.getD j []).length (FC j)) c:=by
      rw [zak]
      have:=zct hk (fun j=>x.φ j::cat (x.st.boxes.getD j []).length (FC j)) c
      omega
     have e5:=zct (show k+1<=x.st.boxes.length by omega) (fun j=>x.φ j::cat (x.st.boxes.getD j []).length (FC j)) c
     omega
    refine ⟨v,hrun g1,x.I,upd x.φ B.nb (x.φ k),fun _ _=>[],fun j=>if j=B.nb then FC k else FC j,fun j hj=>by rw [zam _ _ (by omega)];exact ht.phi j hj,?_⟩
    have hjcase:∀ j,j<(x.st.boxes.take B.nb ++ [b]).length->j<B.nb\/j=B.nb:=by
     intro j hj;simp at hj;omega
    refine ⟨fun i hi=> ?_,fun i hi c hcc=> ?_,fun j hj=> ?_,fun j hj c hcc=> ?_,fun j hj c hcc hm=> ?_,fun b=>Nat.le_trans (hheld b) (h.one b),fun b0 hb0=> ?_,h.ilt,h.keep,h.gr,fun b hb=>h.held b (Nat.lt_of_lt_of_le hb (hheld b)),h.imm,h.new⟩
    ·have:i=0:=by simpa using hi
     subst this;rw [e3];exact rfl
    ·have:i=0:=by simpa using hi
     subst this
     have:c=0:=by simpa [V.cells] using hcc
     subst this
     refine ⟨rfl,B.nb,b,rfl,?_,?_⟩
     ·show (x.st.boxes.take B.nb ++ [b])[B.nb]? =_
      rw [List.getElem?_append_right (by omega),hlen];simp
     ·show v=.pointer (some ⟨upd x.φ B.nb (x.φ k) B.nb,0,none⟩)
      rw [zaj];exact e3
    ·rcases hjcase j hj with hlt|rfl
     ·show Rows x.w (upd x.φ B.nb (x.φ k) j) ((x.st.boxes.take B.nb ++ [b]).getD j []).length
      rw [zam _ _ (by omega),hbox j hlt];exact h.box j (by omega)
     ·show Rows x.w (upd x.φ B.nb (x.φ k) B.nb) ((x.st.boxes.take B.nb ++ [b]).getD B.nb []).length
      rw [zaj,hlast,<- hbk];exact h.box k hkl
    ·rcases hjcase j hj with hlt|rfl
     ·simp only [hbox j hlt] at hcc ⊢
      obtain ⟨q1,q2,_⟩:=hcell j (by omega) (hold j hlt) c hcc
      have hrv:Cx.rv ⟨x.w,x.I,upd x.φ B.nb (x.φ k),fun _=>v,⟨[V.ref (.box B.nb) 0 []],x.st.boxes.take B.nb ++ [b]⟩⟩ (.box j) c=x.rv (.box j) c:=by
       show zad x.w (upd x.φ B.nb (x.φ k) j) c=zad x.w (x.φ j) c
       rw [zam _ _ (by omega)]
      rw [hrv,if_neg (by omega)]
      exact za8 (x:=⟨x.w,x.I,_,_,_⟩) q1 q2
     ·simp only [hlast] at hcc ⊢
      obtain ⟨q1,q2,_⟩:=hcell k hkl (by rw [hbk];exact hbb) c (by rw [hbk];exact hcc)
      rw [hbk] at q1 q2
      have hrv:Cx.rv ⟨x.w,x.I,upd x.φ B.nb (x.φ k),fun _=>v,⟨[V.ref (.box B.nb) 0 []],x.st.boxes.take B.nb ++ [b]⟩⟩ (.box B.nb) c=x.rv (.box k) c:=by
       show zad x.w (upd x.φ B.nb (x.φ k) B.nb) c=zad x.w (x.φ k) c
       rw [zaj]
      rw [hrv]
      simp only [if_true]
      exact za8 (x:=⟨x.w,x.I,_,_,_⟩) q1 q2
    ·rcases hjcase j hj with hlt|rfl
     ·simp only [hbox j hlt] at hcc hm
      obtain ⟨_,_,q3⟩:=hcell j (by omega) (hold j hlt) c hcc
      rw [q3] at hm;cases hm
     ·simp only [hlast] at hcc hm
      obtain ⟨_,_,q3⟩:=hcell k hkl (by rw [hbk];exact hbb) c (by rw [hbk];exact hcc)
      rw [hbk,hm] at q3;cases q3
    ·have:=h.apart b0 hb0
     have:=hheld b0
     show zar ⟨[V.ref (.box B.nb) 0 []],x.st.boxes.take B.nb ++ [b]⟩ (upd x.φ B.nb (x.φ k)) (fun _ _=>[]) (fun j=>if j=B.nb then FC k else FC j) [] b0=0
     omega
   ·cases hr
  ·cases hr
 ·
  rename_i vs hne hrd
  split at hr
  ·rename_i xs s1 htk
   split at hr
   ·rename_i hc
    obtain ⟨hbnd,hbs⟩:=hc
    simp only [Option.some.injEq,Prod.mk.injEq] at hr
    obtain ⟨rfl,rfl⟩:=hr
    obtain ⟨vals,g1,g2,g3⟩:=zie h ht hok hrd
    obtain ⟨I',FV',FC',FX1,G,k1,k2,k3,k4,k5,k6⟩:=zd0 (!hf.own) (x0:=x) vs (fun i=>vals.getD i undef) (I:=x.I) (s:=x.st) h (fun _ h=>h) (.refl _) g3 htk
    have hnb:B.nb<=s1.boxes.length:=by rw [k6.blen];exact ht.nbx
    have hleaf:∀ (z:V),bnd z=true->z.leaf=true:=by intro z hz;cases z <;> first|rfl|(cases hz;done)
    have hone:∀ (y:V),xs=[y]->∃ v,(results fn a.tmps).run P x.w=.ok v x.w/\∃ I' φ' FV' FC',(∀ j,j<B.nb->φ' j=B.φ j)/\SR B ⟨x.w,I',φ',fun _=>v,⟨[y],s1.boxes.take B.nb⟩⟩ FV' FC' []:=by
     intro y hy
     subst hy
     have hl1:vs.length=1:=by simpa using k4.symm
     have hlv:∃ v,vals=[v]:=by
      rw [hl1] at g2
      match vals,g2 with
      | [v],_=>exact ⟨v,rfl⟩
     obtain ⟨v,rfl⟩:=hlv
     obtain ⟨q1,q2,q3,q4⟩:=k5 0 (by omega)
     simp only [List.getD_cons_zero] at q1 q2 q3 q4
     refine ⟨v,hrun g1,I',x.φ,fun _=>G 0,FC',fun j hj=>ht.phi j hj,?_⟩
     exact zkf (x:=⟨x.w,I',x.φ,x.tm,s1⟩) k2 hnb q1 (fun c hcc=>⟨(q4 c hcc).1,zav (q4 c hcc).2⟩) (fun b=>by
      have:=k3 b
      rw [hl1] at this
      have e:tot 1 (fun i=>cat (([y]:List V).getD i .gone).cells.length (G i)) b=(cat y.cells.length (G 0)).count b:=by simp [tot]
      rw [e] at this
      simp at this;exact Nat.le_trans (by omega) (Nat.le_add_left _ _)) hbs
    have hmany:(∀ y,xs ≠ [y])->∃ v,(results fn a.tmps).run P x.w=.ok v x.w/\∃ I' φ' FV' FC',(∀ j,j<B.nb->φ' j=B.φ j)/\SR B ⟨x.w,I',φ',fun _=>v,⟨[.tup xs],s1.boxes.take B.nb⟩⟩ FV' FC' []:=by
     intro hny
     have hlen:vals.length=xs.length:=by rw [g2,k4]
     obtain ⟨G',m1,m2⟩:=zgt xs vals G hlen (fun i hi=>zdx (k5 i (by omega)).1 (k5 i (by omega)).2.1 (k5 i (by omega)).2.2.1) (fun i hi=>(k5 i (by omega)).2.1)
     have hv:(results fn a.tmps).run P x.w=.ok (.tuple vals.toArray) x.w:=by
      have:=hrun g1
      match vals,hlen,this with
      | [],_,h=>exact h
      | [v],hl,_=>
        match xs,hl,hny with
        | [y],_,hny=>exact (hny y rfl).elim
      | v::u::vs,_,h=>exact h
     refine ⟨_,hv,I',x.φ,fun _=>G',FC',fun j hj=>ht.phi j hj,?_⟩
     refine zkf (x:=⟨x.w,I',x.φ,x.tm,s1⟩) k2 hnb ⟨vals.toArray,rfl,by simpa using hlen,fun j hj=> ?_⟩ (fun c hcc=> ?_) (fun b=>by have e1:=k3 b;have e2:=m2 b;rw [<- k4] at e1;simp only [V.cells] ;rw [e2];simp only [List.count_nil] at e1;exact Nat.le_trans (by omega) (Nat.le_add_left _ _)) hbs
     ·have:=zdx (k5 j (by omega)).1 (k5 j (by omega)).2.1 (k5 j (by omega)).2.2.1
      have e:vals.toArray.getD j undef=vals.getD j undef:=by simp [Array.getD_eq_getD_getElem?,List.getD]
      rw [e];exact this
     ·obtain ⟨i,c',p1,p2,p3,p4,p5⟩:=m1 c hcc
      obtain ⟨q1,q2⟩:=(k5 i (by omega)).2.2.2 c' p2
      have e:zac (.tuple vals.toArray) (.tup xs) c=(vals.flatMap fun v=>v.cells.toList).getD c undef:=by simp [zac,zdl]
      simp only [V.cells]
      rw [e,p3,p4,p5]
      exact ⟨q1,zav q2⟩
    clear htk
    rcases xs with _|⟨y,_|⟨z,zs⟩⟩
    ·exact hmany (by simp)
    ·exact hone y rfl
    ·exact hmany (by simp)
   ·cases hr
  ·cases hr
 ·cases hr
end Go.Pm
namespace Go.Pm
variable {P:Program} {T:Tab}
def zu7 (P:Program) (fn:Func) (h:HFunc) (ts:List (Option Nat)):Bool:=
 h.ns == ts.length && decide (h.np <= ts.length) && ts.take h.np == (List.range h.np).map some && decide (h.np <= fn.ntmps) && !(fn.name == "runtime.NumGoroutine") &&
 zq4 P ts fn.results.toList h.res&&(match fn.body with|some c=>zc8 P fn.ntmps ts c h.body|none=>false)
def PrimOk (P:Program) (f:FuncId) (p:List V->Option V):Prop:=
 zwc P f=true/\∀ (args:List V) (r:V),p args=some r->∀ (w:World) (O I:Nat->Prop) (vals:Array Value) (φ:Nat->Nat) (GA GB:Nat->Nat->List Nat),vals.size=args.length->
  SR ⟨w,O,I,0,φ,0,fun _=>none⟩ ⟨w,I,φ,fun i=>vals.getD i undef,⟨args,[]⟩⟩ GA GB []->
  Calls P f vals w (fun
   | .returned v,w'=>∃ I' φ' FV FC,SR ⟨w,O,I,0,φ,0,fun _=>none⟩ ⟨w',I',φ',fun _=>v,⟨[r],[]⟩⟩ FV FC []
   | _,_=>False)
def zwn (J:Glob) (P:Program) (f:FuncId) (p:List V->Option V):Prop:=
 zwc P f=true/\∀ (args:List V) (r:V),p args=some r->∀ (w:World) (O I:Nat->Prop) (vals:Array Value) (φ:Nat->Nat) (GA GB:Nat->Nat->List Nat),vals.size=args.length->J.J w I->
  SR ⟨w,O,I,0,φ,0,fun _=>none⟩ ⟨w,I,φ,fun i=>vals.getD i undef,⟨args,[]⟩⟩ GA GB []->
  Calls P f vals w (fun
   | .returned v,w'=>∃ I' φ' FV FC,SR ⟨w,O,I,0,φ,0,fun _=>none⟩ ⟨w',I',φ',fun _=>v,⟨[r],[]⟩⟩ FV FC []
   | _,_=>False)
theorem PrimOk.toJ {J:Glob} {f:FuncId} {p:List V->Option V} (h:PrimOk P f p):zwn J P f p:=⟨h.1,fun args r hp w O I vals φ GA GB hsz _ hsr=>h.2 args r hp w O I vals φ GA GB hsz hsr⟩
def yeo (P:Program) (fn:Func) (h:HFunc) (ts:List (Option Nat)):Bool:=zu7 P fn h ts&&decide (2<=ts.count (some 0))&&decide (1<=h.np)
def yb5 (J:Glob) (P:Program) (f:FuncId):Body->Prop
 | .go h=>∃ fn ts,P.funcs[f]? =some fn/\zu7 P fn h ts=true
 | .prim p=>zwn J P f p
 | .lend h=>∃ fn ts,P.funcs[f]? =some fn/\yeo P fn h ts=true
def zvv (J:Glob) (P:Program) (T:Tab):Prop:=∀ f b,T f=some b->yb5 J P f b
theorem zlx {s:St} {h:HFunc} {nb:Nat} {r:V} {bs':List (List V)} (hr:s.finish h nb=some (r,bs')) (r0 t:V):r ≠ .tup [r0,.tup [t]]:=by
 unfold St.finish at hr
 split at hr
 ·split at hr
  ·split at hr
   ·simp only [Option.some.injEq,Prod.mk.injEq] at hr
    rw [<- hr.1];exact fun e=>by cases e
   ·cases hr
  ·cases hr
 ·split at hr
  ·split at hr
   ·rename_i hc
    simp only [Option.some.injEq,Prod.mk.injEq] at hr
    rw [<- hr.1]
    intro e
    rw [e] at hc
    simp [V.cells,V.cells1,bnd] at hc
   ·cases hr
  ·cases hr
 ·cases hr
theorem SR.rebase {B B':Base} {x:Cx} {FV FC:Nat->Nat->List Nat} {FX:List Nat} (h:SR B x FV FC FX) (h1:B'.w=B.w) (h2:B'.O=B.O) (h3:B'.I=B.I):SR B' x FV FC FX:=by
 obtain ⟨a1,a2,a3,a4,a5,a6,a7,a8,a9,a10,a11,a12,a13⟩:=h
 exact ⟨a1,a2,a3,a4,a5,a6,a7,a8,by rw [h1,h2];exact a9,by rw [h1];exact a10,by rw [h1,h2];exact a11,by rw [h3];exact a12,by rw [h1,h2,h3];exact a13⟩
theorem SR.lent {B:Base} {x:Cx} {FV FC:Nat->Nat->List Nat} (h:SR B x FV FC []) (hb0:B.nb=0) {v t:V} {s1:St} (hi:Pend x (x.tm 0) v fun _=>[]) (htk:x.st.take v=some (t,s1)) (ht:t.lentOk=true) (k:IntKind) (m:Int):
 ∃ I' FV' FC',SR B ⟨x.w,I',x.φ,fun _=>.tuple #[.int k m,x.tm 0],⟨[.tup [.int k m,t]],[]⟩⟩ FV' FC' []:=by
 have hall:x.st.takesAll false [.int k m,v]=some ([.int k m,t],s1):=by
  have h0:x.st.take (.int k m)=some (.int k m,x.st):=rfl
  simp only [St.takesAll,Bool.false_eq_true,if_false,h0,htk,Option.map_some]
 obtain ⟨I',FV',FC',FX1,G,k1,k2,k3,k4,k5,k6⟩:=zd0 false (x0:=x) [.int k m,v] (fun i=>([.int k m,x.tm 0]:List Value).getD i undef) (I:=x.I) (s:=x.st) h (fun _ h=>h) (.refl _)
  (fun i hi'=>by
   have:i=0\/i=1:=by simp at hi';omega
   rcases this with rfl|rfl
   ·exact zcl
   ·exact hi) hall
 have hb:t.cells.all bnd=true/\(∀ us,t ≠ .tup us):=by
  unfold V.lentOk at ht
  split at ht
  ·cases ht
  ·rename_i hn;exact ⟨ht,fun us e=>hn us e⟩
 obtain ⟨G',m1,m2⟩:=zgt [.int k m,t] [.int k m,x.tm 0] G rfl (fun i hi'=>zdx (k5 i hi').1 (k5 i hi').2.1 (k5 i hi').2.2.1) (fun i hi'=>(k5 i hi').2.1)
 refine ⟨I',fun _=>G',FC',?_⟩
 have hbx:s1.boxes.take B.nb=[]:=by rw [hb0];rfl
 have:=zkf (x:=⟨x.w,I',x.φ,x.tm,s1⟩) k2 (by rw [hb0];exact Nat.zero_le _) (v:=.tuple #[.int k m,x.tm 0]) (r:=.tup [.int k m,t]) (G:=G')
  ⟨_,rfl,rfl,fun j hj=>by
   have h1:=zdx (k5 j hj).1 (k5 j hj).2.1 (k5 j hj).2.2.1
   have:j=0\/j=1:=by simp at hj;omega
   rcases this with rfl|rfl <;> exact h1⟩
  (fun c hcc=>by
   obtain ⟨i,c',p1,p2,p3,p4,p5⟩:=m1 c hcc
   obtain ⟨q1,q2⟩:=(k5 i p1).2.2.2 c' p2
   have e:zac (.tuple #[.int k m,x.tm 0]) (.tup [.int k m,t]) c=(([.int k m,x.tm 0]:List Value).flatMap fun v=>v.cells.toList).getD c undef:=by simp [zac,zdl]
   simp only [V.cells]
   rw [e,p3,p4,p5]
   exact ⟨q1,zav q2⟩)
  (fun b=>by
   have e1:=m2 b
   have e2:=k3 b
   have e4:(V.tup [.int k m,t]).cells=([.int k m,t]:List V).flatMap V.cells1:=rfl
   rw [e4,e1]
   simp only [List.count_nil,Nat.add_zero] at e2
   exact Nat.le_trans (Nat.le_of_eq e2.symm) (Nat.le_add_left _ _))
  (by rw [hbx];rfl)
 rw [hbx] at this
 exact this
theorem zyw {J:Glob} (hT:zvv J P T):∀ k,yhd J P (zff T k)
 | 0=>fun f args bs r bs' h=>by cases h
 | k+1=>fun f args bs r bs' hr=>by
   have ih:=zyw hT k
   simp only [zff] at hr
   split at hr
   ·rename_i h hf
    split at hr
    ·rename_i hl
     obtain ⟨fn,ts,hfn,hok⟩:=hT f _ hf
     unfold zu7 at hok
     simp only [Bool.and_eq_true,beq_iff_eq,decide_eq_true_eq,Bool.not_eq_true'] at hok
     obtain ⟨⟨⟨⟨⟨⟨h1,h2⟩,h3⟩,h4⟩,h5⟩,h6⟩,h7⟩:=hok
     split at h7
     ·rename_i c hbody
      refine ⟨by simp [zwc,hfn,hbody];simpa using h5,fun _ w O I vals φ GA GB hsz hsr hOI hJw=> ?_,fun r0 t _ he=> ?_⟩
      rotate_left
      ·split at hr
       ·cases hr
       ·exact absurd he (zlx hr r0 t)
       ·cases hr
      refine calls_of_wp hfn hbody ?_
      have hvl:vals.size=h.np:=by rw [hsz,hl]
      have htie0:Tied ⟨w,O,I,bs.length,φ,0,fun _=>none⟩ (ts.take h.np) fn.ntmps ⟨w,I,φ,fun i=>vals.getD i undef,⟨args,bs⟩⟩ { tmps:=vals++Array.replicate (fn.ntmps - vals.size) undef,defers:=[] }:=by
       refine ⟨by simp [hl];omega,fun i t hi=> ?_,by simp;omega,rfl,Nat.le_refl _,fun _ _=>rfl,Nat.zero_le _,fun _ _ h=>by cases h⟩
       rw [h3] at hi
       have hi2:i<h.np/\t=i:=by
        simp only [List.getD,List.getElem?_map] at hi
        by_cases hlt:i<h.np
        ·rw [List.getElem?_range hlt] at hi
         simp at hi
         exact ⟨hlt,hi.symm⟩
        ·rw [List.getElem?_eq_none (by simp;omega)] at hi
         cases hi
       obtain ⟨hi3,rfl⟩:=hi2
       show vals.getD t undef=(vals++Array.replicate (fn.ntmps - vals.size) undef).getD t undef
       simp only [Array.getD_eq_getD_getElem?]
       rw [Array.getElem?_append_left (by omega)]
      obtain ⟨x',FV',e1,e2,e3,e4⟩:=zgy (ts.drop h.np) hsr htie0
      rw [List.take_append_drop] at e4
      have hst:x'.st={ vars:=args++List.replicate (h.ns - h.np) .gone,boxes:=bs }:=by
       rw [e2];simp [h1]
      split at hr
      ·cases hr
      ·rename_i ex s hne hrun
       rw [<- hst] at hrun
       rw [h1] at hrun
       have hw:=zja (B:=⟨w,O,I,bs.length,φ,0,fun _=>none⟩) ⟨J,ih,fun x FV FC FX hx=>J.on hsr.ilt hOI hJw hx⟩ c h.body h7 e3 e4 hrun
       rw [e1] at hw
       refine wp_mono hw ?_
       rintro e a' w' ⟨rfl,x2,FV2,FC2,rfl,rfl,h',ht'⟩
       obtain ⟨v,g1,I',φ',FV3,FC3,g2,g3⟩:=ziq h' ht' h6 hr
       cases ex with
       | exit id=>exact (hne id rfl).elim
       | normal=>exact ⟨ht'.defers,v,g1,I',φ',FV3,FC3,g2,g3⟩
       | ret=>exact ⟨ht'.defers,v,g1,I',φ',FV3,FC3,g2,g3⟩
      ·cases hr
     ·cases h7
    ·cases hr
   ·rename_i p hf
    split at hr
    ·rename_i hb
     simp only [Option.map_eq_some_iff,Prod.mk.injEq] at hr
     obtain ⟨r',hp,rfl,rfl⟩:=hr
     obtain ⟨h1,h2⟩:=hT f _ hf
     subst hb
     refine ⟨h1,fun _ w O I vals φ GA GB hsz hsr hOI hJw=> ?_,fun r0 t hb=>by cases hb⟩
     refine Calls.mono (h2 args r' hp w O I vals φ GA GB hsz hJw hsr) fun e w' hh=> ?_
     cases e with
     | returned v=>
       obtain ⟨I',φ',FV,FC,g⟩:=hh
       exact ⟨I',φ',FV,FC,fun j hj=>by simp at hj,g⟩
     | panicked c=>exact hh
     | outgrown=>exact hh
    ·cases hr
   ·rename_i h hf
    split at hr
    ·split at hr
     ·rename_i hl
      obtain ⟨fn,ts,hfn,hok⟩:=hT f _ hf
      unfold yeo zu7 at hok
      simp only [Bool.and_eq_true,beq_iff_eq,decide_eq_true_eq,Bool.not_eq_true'] at hok
      obtain ⟨⟨⟨⟨⟨⟨⟨⟨h1,h2⟩,h3⟩,h4⟩,h5⟩,h6⟩,h7⟩,h8⟩,h9⟩:=hok
      split at h7
      ·rename_i c hbody
       refine ⟨by simp [zwc,hfn,hbody];simpa using h5,fun hne=>absurd rfl hne,fun r0 t _ he=> ?_⟩
       subst he
       intro w O I vals φ GA GB hsz hsr hOI hJw
       refine calls_of_wp hfn hbody ?_
       have hvl:vals.size=h.np:=by rw [hsz,hl]
       have htie0:Tied ⟨w,O,I,0,φ,0,fun _=>none⟩ (ts.take h.np) fn.ntmps ⟨w,I,φ,fun i=>vals.getD i undef,⟨args,[]⟩⟩ { tmps:=vals++Array.replicate (fn.ntmps - vals.size) undef,defers:=[] }:=by
        refine ⟨by simp [hl];omega,fun i t hi=> ?_,by simp;omega,rfl,Nat.le_refl _,fun _ _=>rfl,Nat.zero_le _,fun _ _ h=>by cases h⟩
        rw [h3] at hi
        have hi2:i<h.np/\t=i:=by
         simp only [List.getD,List.getElem?_map] at hi
         by_cases hlt:i<h.np
         ·rw [List.getElem?_range hlt] at hi
          simp at hi
          exact ⟨hlt,hi.symm⟩
         ·rw [List.getElem?_eq_none (by simp;omega)] at hi
          cases hi
        obtain ⟨hi3,rfl⟩:=hi2
        show vals.getD t undef=(vals++Array.replicate (fn.ntmps - vals.size) undef).getD t undef
        simp only [Array.getD_eq_getD_getElem?]
        rw [Array.getElem?_append_left (by omega)]
       obtain ⟨x',FV',e1,e2,e3,e4⟩:=zgy (ts.drop h.np) hsr htie0
       rw [List.take_append_drop] at e4
       have hst:x'.st={ vars:=args++List.replicate (h.ns - h.np) .gone,boxes:=[] }:=by
        rw [e2];simp [h1]
       have hv0:(vals++Array.replicate (fn.ntmps - vals.size) undef).getD 0 undef=vals.getD 0 undef:=by
        simp only [Array.getD_eq_getD_getElem?]
        rw [Array.getElem?_append_left (by omega)]
       let B2:Base:=⟨w,O,I,0,φ,ts.length,fun t=>if t=0 then some (vals.getD 0 undef) else none⟩
       have e3':SR B2 x' FV' GB []:=e3.rebase rfl rfl rfl
       have e4':Tied B2 ts fn.ntmps x' { tmps:=vals++Array.replicate (fn.ntmps - vals.size) undef,defers:=[] }:=by
        refine ⟨e4.len,e4.tie,e4.size,e4.defers,Nat.zero_le _,fun k hk=>absurd hk (Nat.not_lt_zero _),Nat.le_refl _,fun t v hkp=> ?_⟩
        simp only [B2] at hkp
        split at hkp
        ·rename_i ht0
         subst ht0
         cases hkp
         exact ⟨hv0,by show 2<=(ts.take ts.length).count _;rw [List.take_length];exact h8⟩
        ·cases hkp
       split at hr
       ·cases hr
       ·rename_i ex s hne hrun
        rw [<- hst] at hrun
        rw [h1] at hrun
        have hw:=zja (B:=B2) ⟨J,ih,fun x FV FC FX hx=>J.on (B:=B2) hsr.ilt hOI hJw hx⟩ c h.body h7 e3' e4' hrun
        rw [e1] at hw
        refine wp_mono hw ?_
        rintro e a' w' ⟨rfl,x2,FV2,FC2,rfl,rfl,h',ht'⟩
        simp only [Option.map_eq_some_iff,Prod.mk.injEq,V.tup.injEq,List.cons.injEq,and_true] at hr
        obtain ⟨r1,hr1,hr2,rfl⟩:=hr
        subst hr2
        unfold St.lendBack at hr1
        split at hr1
        ·rename_i ik im tv hres htv
         split at hr1
         ·rename_i t2 s2 htk
          split at hr1
          ·rename_i hlo
           simp only [Option.some.injEq,V.tup.injEq,List.cons.injEq,and_true] at hr1
           obtain ⟨rfl,rfl⟩:=hr1
           obtain ⟨vv,g1,I',φ',FV3,FC3,g2,g3⟩:=ziq (hf:=h) (r:=.int ik im) (bs':=[]) h' ht' h6 (by
            unfold St.finish
            rw [hres]
            simp [St.takesAll,St.take,St.freeze,St.takeLeaf,St.freezeLeaf,yj7,V.cells,bnd,B2])
           have hvv:vv=.int ik im:=by
            have q:=g3.vars 0 (by simp) 0 (by simp [V.cells])
            have q2:VR x2.w I' vv (.int ik im) (FV3 0 0):=q
            generalize FV3 0 0=F at q2
            cases q2;rfl
           subst hvv
           have hts0:ts.getD 0 none=some 0:=by
            have h30:=congrArg (·[0]?) h3
            simp only [List.getElem?_map,List.getElem?_take,if_pos (show 0<h.np by omega),List.getElem?_range (show 0<h.np by omega),Option.map_some] at h30
            simp only [List.getD,h30];rfl
           have htm0:x2.tm 0=a'.eval (.tmp 0):=ht'.tie 0 0 hts0
           obtain ⟨I4,FV4,FC4,g4⟩:=h'.lent rfl (by
            rw [htm0]
            exact zaq h' ht' (o:=.reg 0) (by simp only [za1,hts0];simp) htv) htk hlo ik im
           have htm:x2.tm 0=vals.getD 0 undef:=by
            have hk0:=ht'.kp 0 (vals.getD 0 undef) (by simp [B2])
            rw [<- hk0.1]
            exact htm0
           rw [htm] at g4
           have g5:SR ⟨w,O,I,0,φ,0,fun _=>none⟩ _ FV4 FC4 []:=g4.rebase rfl rfl rfl
           cases ex with
           | exit id=>exact (hne id rfl).elim
           | normal=>exact ⟨ht'.defers,_,g1,I4,x2.φ,FV4,FC4,g5⟩
           | ret=>exact ⟨ht'.defers,_,g1,I4,x2.φ,FV4,FC4,g5⟩
          ·cases hr1
         ·cases hr1
        ·cases hr1
       ·cases hr
      ·cases h7
     ·cases hr
    ·cases hr
   ·cases hr
theorem yle {J:Glob} (hT:zvv J P T):yhd J P (Run T):=fun f args bs r bs' hr=>by
 obtain ⟨k,hk⟩:=Run_iff.1 hr
 exact zyw hT k f args bs r bs' hk
end Go.Pm
namespace Go.Pm
variable {P:Program} {B:Base} {x:Cx} {FV FC:Nat->Nat->List Nat} {a:Act} {ts:List (Option Nat)} {n:Nat}
theorem zw6 {t el:TypeId} (hu:P.underlying t=some (.slice el)) (ad:Option Addr) (l c:Nat) (w:World):(Op.equal t (.slice ad l c) (.slice none 0 0)).run P w=.ok ad.isNone w:=by
 have e:Op.equal t (.slice ad l c) (.slice none 0 0)=Op.equalIn (9999+1) t (.slice ad l c) (.slice none 0 0):=rfl
 rw [e,Op.equalIn,Sem.run_bind,run_underlying hu]
 cases ad <;> rfl
theorem ycf (h:SR B x FV FC []) (ht:Tied B ts n x a) {o:Oper} {t y t' oy el} (ho:o.op=.binOp .eql t y (.const (.slice none 0 0)) t') (hy:za1 ts y oy=true) (hu:P.underlying t=some (.slice el))
 {e xs} (h1:x.st.rd oy=some (.imm e xs)):∃ b:Bool,(b=true->xs=[])/\zc6 P o a x.w (fun val w'=>val=.bool b/\Out B n ts a x.st (.bool b) val w'):=by
 have hp:=zaq h ht hy h1
 have hL:=hp.cells 0 (by simp [V.cells])
 have hV:VR x.w x.I (a.eval y) (.imm e xs) []:=hL
 have hs:∃ ad l c,a.eval y=.slice ad l c/\(ad=none->xs=[]):=by
  generalize a.eval y=u at hV
  cases hV
  ·rename_i ad cap;exact ⟨ad,0,cap,rfl,fun _=>rfl⟩
  ·rename_i ad cap vs _ _ _ _ _ _ _ _;exact ⟨some ad,_,cap,rfl,fun h=>by cases h⟩
 obtain ⟨ad,l,c,hv,hn⟩:=hs
 refine ⟨ad.isNone,fun hb=>hn (by simpa using hb),?_⟩
 refine za9 (val:=.bool ad.isNone) (w':=x.w) ?_ ⟨rfl,Out.simple h ht zey⟩
 have hg:(eqGuard .eql t y (.const (.slice none 0 0)) (.slice ad l c) (.slice none 0 0)).run P x.w=.ok () x.w:=by unfold eqGuard;simp
 have hc:a.eval (.const (.slice none 0 0))=.slice none 0 0:=rfl
 simp only [execOp,ho,hv,hc,Sem.run_bind,hg,Result.andThen_ok,binOp,zw6 hu,Sem.run_pure]
theorem zvw {Q:Exit->Act->World->Prop} (h:SR B x FV FC []) (ht:Tied B ts n x a) {id:Nat} {o1 o2:Oper} {t t' el:TypeId} {i0 t0 t3 t4:Nat} (g1:o1.guard=none) (g2:o2.guard=none) (p1:o1.op=.move (.tmp t0)) (p2:o2.op=.binOp .eql t (.tmp t3) (.const (.slice none 0 0)) t')
 (d1:zjp ts n o1.dst none=some (ts ++ [some t3])) (d2:zjp (ts ++ [some t3]) n o2.dst none=some (ts ++ [some t3] ++ [some t4])) (e2:o2.dst=some t4) (h4:t4<n)
 (hy:za1 ts (.tmp t0) (.reg i0)=true) (hu:P.underlying t=some (.slice el)) {e xs} (hr:x.st.rd (.reg i0)=some (.imm e xs))
 (hy2:za1 (ts ++ [some t3]) (.tmp t3) (.reg ts.length)=true)
 (hQ:∀ (b:Bool) x' FV' FC' a',(b=true->xs=[])->x'.st=x.st.fin ts.length->a'.eval (.tmp t4)=.bool b->SR B x' FV' FC' []->Tied B ts n x' a'->Q .normal a' x'.w):(Code.region id #[o1,o2] false).wp P Q a x.w:=by
 refine wp_region ?_
 show wpOps P #[o1,o2] Q [0,1] a x.w
 have w1:Region.wanted o1 (yielded #[o1,o2] a.tmps)=true:=by unfold Region.wanted;rw [g1]
 have hi1:(#[o1,o2]:Array Oper)[0]? =some o1:=rfl
 have hi2:(#[o1,o2]:Array Oper)[1]? =some o2:=rfl
 simp only [wpOps,hi1,hi2]
 rw [if_pos w1]
 left
 refine Oper.wp_weaken (zxp h ht (.inl p1) hy hr) ?_
 rintro a1 w1' ⟨val,rfl,x1,FV1,FC1,FX1,G,rfl,h2,h3,h4',h5,h6⟩
 obtain ⟨x2,FV2,FC2,k1,k2,k3,k4,k5,k6⟩:=zko h3 h4' h5 h6 d1 (ns:=ts.length) (s2:={ x.st with vars:=x.st.vars ++ [.imm e xs] }) (by rw [h2];rfl)
 rw [<- k1]
 have w2:Region.wanted o2 (yielded #[o1,o2] (a.put o1.dst val).tmps)=true:=by unfold Region.wanted;rw [g2]
 rw [if_pos w2]
 left
 have hlen:x.st.vars.length=ts.length:=ht.len.symm
 have hrd:x2.st.rd (.reg ts.length)=some (.imm e xs):=by
  rw [k2]
  simp only [St.rd]
  rw [List.getElem?_append_right (by omega),hlen,Nat.sub_self]
  rfl
 obtain ⟨b,hb,hd⟩:=ycf k5 k6 p2 hy2 hu hrd
 refine Oper.wp_weaken hd ?_
 rintro a2 w2' ⟨val2,rfl,rfl,x3,FV3,FC3,FX3,G3,rfl,m2,m3,m4,m5,m6⟩
 obtain ⟨x4,FV4,FC4,q1,q2,q3,q4,q5,q6⟩:=zko m3 m4 m5 m6 d2 (ns:=ts.length) (s2:={ x2.st with vars:=x2.st.vars ++ [.bool b] }) (by rw [m2];rfl)
 rw [<- q1]
 obtain ⟨FV5,r1,r2⟩:=zug q5 q6 (ns:=ts.length) (by simp) ht.nk
 have ets:(ts ++ [some t3] ++ [some t4]).take ts.length=ts:=by simp
 rw [ets] at r2
 refine hQ b ⟨x4.w,x4.I,x4.φ,x4.tm,x4.st.fin ts.length⟩ FV5 FC4 _ hb ?_ ?_ r1 r2
 ·simp only [q2,k2,St.fin,List.append_assoc]
  rw [List.take_append_of_le_length (by omega)]
 ·have hsz:=k6.size
  rw [e2]
  show (Act.put (a.put o1.dst val) (some t4) (.bool b)).tmps.getD t4 undef=.bool b
  have h4n:t4<(a.put o1.dst val).tmps.size:=by rw [hsz];exact h4
  simp only [Act.put,Array.getD_eq_getD_getElem?] at h4n ⊢
  rw [Array.getElem?_setIfInBounds_self_of_lt h4n]
  rfl
def zax (e bytes:Nat):List V->Option V
 | [.imm e' xs]=>if e'=e/\xs.length * bytes<=70368744177664 then some (.own e xs) else none
 | _=>none
def zzz (e:Nat):HCode:=.region [(.mov (.con (.own e [])),some 1,none)]
def zye (e:Nat):HCode:=.seq (.region [(.mov (.con (.own e [])),some 1,none)]) .ret
def zv1 (e bytes:Nat):HCode:=.seq (.region [(.list e false [],none,none),(.mov (.reg 0),none,none),(.append e bytes true (.reg 2) (.reg 3),none,none),(.mov (.reg 4),some 1,none)]) .ret
def cloneH:HFunc:={ np:=1,ns:=2,own:=true,res:=[(1,none)],body:=.skip }
def ybl (P:Program) (fn:Func) (e bytes r:Nat):Bool:=
 decide (1 <= fn.ntmps) && !(fn.name == "runtime.NumGoroutine") && decide (0 < e) && zq4 P [some 0, some r] fn.results.toList cloneH.res &&
 match fn.body with
 | some (.seq A (.seq (.seq (.region _ ops false) (.cond (.tmp t4) Bc .skip)) C))=>
   zc8 P fn.ntmps [some 0,some r] A (zzz e)&&zc8 P fn.ntmps [some 0,some r] Bc (zye e)&&zc8 P fn.ntmps [some 0,some r] C (zv1 e bytes) &&
   (match ops.toList with
    | [o1,o2]=>o1.guard.isNone&&o2.guard.isNone&&o2.dst == some t4&&decide (t4<fn.ntmps) &&
      (match o1.dst,o1.op,o2.op with
       | some t3,.move (.tmp 0),.binOp .eql t (.tmp t3') (.const (.slice none 0 0)) _=>
         t3' == t3&&zjp [some 0,some r] fn.ntmps (some t3) none == some [some 0,some r,some t3]&&zjp [some 0,some r,some t3] fn.ntmps (some t4) none == some [some 0,some r,some t3,some t4] &&
         (match P.underlying t with|some (.slice _)=>true|_=>false)
       | _,_,_=>false)
    | _=>false)
 | _=>false
theorem zic {f:FuncId} {fn:Func} {e bytes r:Nat} (hfn:P.funcs[f]? =some fn) (hok:ybl P fn e bytes r=true):PrimOk P f (zax e bytes):=by
 unfold ybl at hok
 simp only [Bool.and_eq_true,decide_eq_true_eq,Bool.not_eq_true'] at hok
 obtain ⟨⟨⟨⟨h1,h2⟩,h3⟩,h4⟩,hb⟩:=hok
 split at hb
 ·rename_i A id ops t4 Bc C hbody
  simp only [Bool.and_eq_true] at hb
  obtain ⟨⟨⟨hA,hB⟩,hC⟩,ho⟩:=hb
  split at ho
  ·rename_i o1 o2 hops
   have hops':ops= #[o1,o2]:=by apply Array.toList_inj.1;simpa using hops
   subst hops'
   simp only [Bool.and_eq_true,Option.isNone_iff_eq_none,beq_iff_eq,decide_eq_true_eq] at ho
   obtain ⟨⟨⟨⟨g1,g2⟩,d2⟩,h4n⟩,ho⟩:=ho
   split at ho
   ·rename_i t3 t t3' t' hd1 hp1 hp2
    simp only [Bool.and_eq_true,beq_iff_eq] at ho
    obtain ⟨⟨⟨rfl,k1⟩,k2⟩,k3⟩:=ho
    split at k3
    ·rename_i el hu
     refine ⟨by simp [zwc,hfn,hbody];simpa using h2,fun args rr hp w O I vals φ GA GB hsz hsr=> ?_⟩
     unfold zax at hp
     split at hp
     rotate_left
     ·cases hp
     rename_i e' xs
     split at hp
     rotate_left
     ·cases hp
     rename_i hc
     obtain ⟨rfl,hbig⟩:=hc
     cases hp
     refine calls_of_wp hfn hbody ?_
     have hvl:vals.size=1:=by simpa using hsz
     have htie0:Tied ⟨w,O,I,0,φ,0,fun _=>none⟩ [some 0] fn.ntmps ⟨w,I,φ,fun i=>vals.getD i undef,⟨[.imm e' xs],[]⟩⟩ { tmps:=vals++Array.replicate (fn.ntmps - vals.size) undef,defers:=[] }:=by
      refine ⟨by simp,fun i t hi=> ?_,by simp;omega,rfl,Nat.le_refl _,fun _ _=>rfl,Nat.zero_le _,fun _ _ h=>by cases h⟩
      have hi2:i=0/\t=0:=by
       cases i with
       | zero=>simp at hi;exact ⟨rfl,hi.symm⟩
       | succ i=>simp at hi
      obtain ⟨rfl,rfl⟩:=hi2
      show vals.getD 0 undef=(vals++Array.replicate (fn.ntmps - vals.size) undef).getD 0 undef
      simp only [Array.getD_eq_getD_getElem?]
      rw [Array.getElem?_append_left (by omega)]
     obtain ⟨x1,FV1,e1,e2,e3,e4⟩:=zgy [some r] hsr htie0
     have hR:zwx P (fun _ _ _=>none) ⟨w,O,I,0,φ,0,fun _=>none⟩:=⟨Glob.none,(fun f args bs r bs' h=>by cases h),fun _ _ _ _ _=>trivial⟩
     have runA:zcy (fun _ _ _=>none) 1 2 (zzz e') x1.st=some (.normal,⟨[.imm e' xs,.own e' []],[]⟩):=by rw [e2];rfl
     have hwA:=zja hR A (zzz e') hA e3 e4 runA
     rw [e1] at hwA
     refine wp_seq (wp_mono hwA ?_)
     rintro ex a1 w1 ⟨rfl,x2,FV2,FC2,rfl,st2,s2,ht2⟩
     refine wp_seq (wp_seq ?_)
     refine zvw s2 ht2 g1 g2 hp1 hp2 (t3:=t3') (t4:=t4) (i0:=0) (el:=el) (e:=e') (xs:=xs) (by rw [hd1];exact k1) (by rw [d2];exact k2) d2 h4n (by rfl) hu (by rw [st2];rfl) (by simp [za1]) ?_
     intro b x3 FV3 FC3 a3 hbx st3 hev s3 ht3
     have st3':x3.st=⟨[.imm e' xs,.own e' []],[]⟩:=by rw [st3,st2];rfl
     have hfinS:(⟨[.imm e' xs,.own e' xs],[]⟩:St).finish cloneH 0=some (.own e' xs,[]):=by
      simp [St.finish,cloneH,St.rdRes,St.rd,V.borrowAll,V.borrow,St.takesAll,St.take,St.takeLeaf,St.get,St.cont,St.root,St.put,St.setCont,St.setRoot,V.like,V.like1,V.cells,St.kill,yj7,bnd,V.cells1]
     have fini:∀ a' w' (K:Exit->Act->World->Prop),ykm ⟨w,O,I,0,φ,0,fun _=>none⟩ fn.ntmps [some 0,some r] .ret ⟨[.imm e' xs,.own e' xs],[]⟩ .ret a' w'->bodyPost P fn (fun
      | .returned v,w'=>∃ I' φ' FV FC,SR ⟨w,O,I,0,φ,0,fun _=>none⟩ ⟨w',I',φ',fun _=>v,⟨[.own e' xs],[]⟩⟩ FV FC []
      | _,_=>False) .ret a' w':=by
      rintro a' w' K ⟨_,x',FV',FC',rfl,hst,h',ht'⟩
      obtain ⟨v,q1,I',φ',FV3,FC3,q2,q3⟩:=ziq h' ht' h4 (by rw [hst];exact hfinS)
      exact ⟨ht'.defers,v,q1,I',φ',FV3,FC3,q3⟩
     show (Code.cond (.tmp t4) Bc .skip).wp P _ a3 x3.w
     refine wp_cond hev ?_
     cases b with
     | true=>
       have hx:=hbx rfl
       subst hx
       have runB:zcy (fun _ _ _=>none) 1 2 (zye e') x3.st=some (.ret,⟨[.imm e' [],.own e' []],[]⟩):=by rw [st3'];rfl
       refine wp_mono (zja hR Bc (zye e') hB s3 ht3 runB) ?_
       intro ex a4 w4 hh
       obtain ⟨rfl,h5⟩:=hh
       exact fini a4 w4 (fun _ _ _=>True) ⟨rfl,h5⟩
     | false=>
       refine wp_skip ?_
       have runCC:zcy (fun _ _ _=>none) 1 2 (zv1 e' bytes) x3.st=some (.ret,⟨[.imm e' xs,.own e' xs],[]⟩):=by
        rw [st3']
        simp [zv1,zcy,zc5,St.wanted,St.step,St.rds,St.takesAll,St.dest,St.rd,V.borrowAll,V.borrow,St.take,St.takeLeaf,St.get,St.cont,St.root,St.put,St.setCont,St.setRoot,V.like,V.like1,V.cells,St.kill,hbig,St.settle,St.settleLeaf,St.fin,V.leafwise,V.killVar1,V.unloc1,V.only1,V.kill1]
       refine wp_mono (zja hR C (zv1 e' bytes) hC s3 ht3 runCC) ?_
       intro ex a4 w4 hh
       obtain ⟨rfl,h5⟩:=hh
       exact fini a4 w4 (fun _ _ _=>True) ⟨rfl,h5⟩
    ·cases k3
   ·cases ho
  ·cases ho
 ·cases hb
end Go.Pm
