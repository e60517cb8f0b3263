/- Proved: the law FnBusied answers true at all arguments, for every operating system that has started; no conditions beyond the row's own. -/
import Derived.Test.YtgbigcobmiapcaaMk
import Derived.Handed
import Derived.RowKit
set_option linter.unusedVariables false
set_option linter.unusedSimpArgs false
namespace Go.Pm
open Go.RowKit Go.WideShapes Go.ChangeShapes
variable {H:Type} {enc:TypeId×Value->H} {P:Program} {T:Tab}
def yg8 (s:Bool×List PT) (y:V):Prop:=y.leaf= !s.1/\PT.hasAll s.2 y.cells1
def zgw:List (Bool×List PT)->List V->Prop
 | [],ys=>ys=[]
 | s::ss,ys=>∃ y ys',ys=y::ys'/\yg8 s y/\zgw ss ys'
theorem ydn {W:World} {r:Reach} {b0 base:Nat} {spare:Nat->Bool} {held:Bool} {t:TypeId} {v:Value} {d:DataW H} {ps:List MemPlace} {n:Nat} {s:Bool×List PT}
 (hval:Value.okWide P W r b0 t v) (hd:DataW.Trod enc P W base spare held t v d ps) (hp:ptOf P n t=some s.2) (hag:isAggT P t=s.1) (h1:s.1=false->s.2.length=1) (φ:Nat->Nat) (tm:Nat->Value) (st:St):
 ∃ y,yg8 s y/\Pend ⟨W,fun b=>b<W.heap.size,φ,tm,st⟩ v y fun _=>[]:=by
 obtain ⟨fuel,hf⟩:=hd
 obtain ⟨ys,k1,k2,k3⟩:=read_ok fuel t _ _ n s.2 hf hp
 have hleaf:=hasAll_leaf k1
 cases hs:s.1 with
 | true=>
   rw [hs] at hag
   have hst:∃ cs,v=.agg cs:=by
    unfold isAggT at hag
    unfold Value.okWide at hval
    split at hag
    ·rename_i fs hu
     rw [hu] at hval
     obtain ⟨cs,h,_⟩:=hval
     exact ⟨cs,h⟩
    ·cases hag
   obtain ⟨cs,rfl⟩:=hst
   have hcl:cs.size=ys.length:=by rw [k2];simp [Value.cells]
   refine ⟨.agg ys,⟨by rw [hs];rfl,k1⟩,⟨cs,rfl,hcl⟩,fun c hc=> ?_⟩
   simp only [V.cells] at hc ⊢
   have e:zac (.agg cs) (.agg ys) c=(Value.agg cs).cells.toList.getD c undef:=rfl
   rw [e]
   exact za8 (k3 c hc) (by rw [za3 hc];exact hleaf _ (List.getElem_mem hc))
 | false=>
   have hl:=h1 hs
   have hyl:=hasAll_len k1
   rw [hl] at hyl
   match ys,hyl,k1,k2,k3,hleaf with
   | [y],_,k1,k2,k3,hleaf=>
     have hyleaf:=hleaf y (by simp)
     have hc1:y.cells1=[y]:=by cases y <;> first|rfl|(cases hyleaf;done)
     have hvc:v.cells= #[v]:=by
      cases n with
      | zero=>cases hp
      | succ n=>
        unfold Value.okWide at hval
        simp only [ptOf] at hp
        split at hp
        ·rename_i k hu;rw [hu] at hval;simp only [Cell.okWide,hu] at hval;cases v <;> first|rfl|(simp [Cell.ok,hu] at hval;done)
        ·rename_i hu;rw [hu] at hval;simp only [Cell.okWide,hu] at hval;cases v <;> first|rfl|(simp [Cell.ok,hu] at hval;done)
        ·rename_i hu;rw [hu] at hval;simp only [Cell.okWide,hu] at hval;cases v <;> first|rfl|(simp [Cell.ok,hu] at hval;done)
        ·rename_i e hu;rw [hu] at hval;simp only [Cell.okWide,hu] at hval;cases v <;> first|rfl|(simp [Cell.ok,hu] at hval;done)
        ·rename_i fs hu
         unfold isAggT at hag
         rw [hu,hs] at hag
         cases hag
        ·cases hp
     have h0:=k3 0 (by simp)
     have hv0:v.cells.toList.getD 0 undef=v:=by rw [hvc];rfl
     rw [hv0] at h0
     simp only [List.getD_cons_zero] at h0
     exact ⟨y,⟨by rw [hs,hyleaf];rfl,by rw [hc1];exact k1⟩,Pend.leaf (za8 h0 hyleaf)⟩
theorem zpq {W:World} {b0 base:Nat} {spare:Nat->Bool} {held:Bool} {n:Nat} (φ:Nat->Nat) (tm:Nat->Value) (st:St):
 ∀ {ts:List TypeId} {vs:List Value} {ds:List (DataW H)} {ps:List MemPlace} {ss:List (Bool×List PT)},(∀ (j:Nat) t v,ts[j]? =some t->vs[j]? =some v->Value.okWide P W .any b0 t v)->
   DataW.TrodAll enc P W base spare held ts vs ds ps->ts.map (fun t=>(isAggT P t,ptOf P n t))=ss.map (fun s=>(s.1,some s.2))->(∀ s∈ss,s.1=false->s.2.length=1)->
   ∃ ys,zgw ss ys/\vs.length=ys.length/\∀ i,i<ys.length->Pend ⟨W,fun b=>b<W.heap.size,φ,tm,st⟩ (vs.getD i undef) (ys.getD i .gone) fun _=>[]
 | [],[],[],ps,[],_,_,_,_=>⟨[],rfl,rfl,fun i hi=>by simp at hi⟩
 | t::ts,v::vs,d::ds,ps,s::ss,hv,hA,hsig,h1=>by
   obtain ⟨p,q,hd,hA',_⟩:=hA
   simp only [List.map_cons,List.cons.injEq,Prod.mk.injEq] at hsig
   obtain ⟨⟨e1,e2⟩,e3⟩:=hsig
   obtain ⟨y,k1,k2⟩:=ydn (hv 0 t v rfl rfl) hd e2 e1 (h1 s (by simp)) φ tm st
   obtain ⟨ys,j1,j2,j3⟩:=zpq φ tm st (fun j t v h1 h2=>hv (j+1) t v (by simpa using h1) (by simpa using h2)) hA' e3 (fun s hs=>h1 s (by simp [hs]))
   refine ⟨y::ys,⟨y,ys,rfl,k1,j1⟩,by simp [j2],fun i hi=> ?_⟩
   cases i with
   | zero=>exact k2
   | succ i=>simpa using j3 i (by simpa using hi)
 | t::ts,v::vs,d::ds,ps,[],_,_,hsig,_=>by simp at hsig
 | [],_::_,_,_,_,_,hA,_,_=>by cases hA
 | [],[],_::_,_,_,_,hA,_,_=>by cases hA
 | [],[],[],_,_::_,_,_,hsig,_=>by simp at hsig
 | _::_,[],_,_,_,_,hA,_,_=>by cases hA
 | _::_,_::_,[],_,_,_,hA,_,_=>by cases hA
theorem zqb (hl:laidOutB P=true) {W W':World} (hb:Below W.heap.size W W'):∀ {ts:List TypeId} {vs:List Value} {ds:List (DataW H)} {ps:List MemPlace},(∀ t∈ts,P.readableRec t=true/\t<P.types.size)->
 DataW.TrodAll enc P W 0 (fun _=>true) true ts vs ds ps->(∀ x∈ps,x.block<W.heap.size)->DataW.TrodAll enc P W' 0 (fun b=>decide (b<W.heap.size)) true ts vs ds ps
 | [],[],[],ps,_,h,_=>h
 | t::ts,v::vs,d::ds,ps,hr,⟨p,q,h1,h2,e⟩,hlt=>by
   subst e
   obtain ⟨r1,r2⟩:=hr t (by simp)
   exact ⟨p,q,Below.trod hl r1 r2 h1 hb fun x hx=>hlt x (List.mem_append_left _ hx),zqb hl hb (fun t ht=>hr t (by simp [ht])) h2 fun x hx=>hlt x (List.mem_append_right _ hx),rfl⟩
 | [],_::_,_,_,_,h,_=>by cases h
 | [],[],_::_,_,_,h,_=>by cases h
 | _::_,[],_,_,_,h,_=>by cases h
 | _::_,_::_,[],_,_,h,_=>by cases h
theorem yfs {J:Glob} (hT:zvv J P T) (hlaid:laidOutB P=true) {f:FuncId} {fn:Func} {s:ChangeSpec} {n:Nat} {sig:List (Bool×List PT)} {tb:TypeId} (hvars:s.vars=[])
 (hspec:∀ ds:List (DataW H),ds.length=sig.length->s.fn H ds={ results:=[.lit (.bool true)],args:=ds }) (hres:fn.resultTypes= #[tb]) (htb:P.underlying tb=some .bool)
 (hread:∀ t∈fn.params.toList,P.readableRec t=true/\t<P.types.size)
 (hsig:fn.params.toList.map (fun t=>(isAggT P t,ptOf P n t))=sig.map (fun s=>(s.1,some s.2))) (h1:∀ s∈sig,s.1=false->s.2.length=1)
 (hrun:∀ ys,zgw sig ys->Run T f ys []=some (.bool true,[]))
 {W:World} {b0:Nat} {args:Array Value} {ds gs:List (DataW H)} {before:List MemPlace} {apart fresh handsOn again:Bool}
 (hval:∀ (j:Nat) t v,fn.params[j]? =some t->args[j]? =some v->Value.okWide P W .any b0 t v) (hW:DataW.Whole enc P fn.params.toList s.vars apart W args.toList ds gs before) (hJ:J.J W fun b=>b<W.heap.size):
 Calls P f args W fun e W'=>∃ v,e=.returned v/\s.post enc P fn apart fresh handsOn again W args v W':=by
 have hW':=hW
 obtain ⟨p,q,hA,hV,rfl,hfz,hnd⟩:=hW
 rw [hvars] at hV
 obtain ⟨rfl,rfl⟩:=trodVars_none hV
 have hlt:∀ x∈p,x.block<W.heap.size:=fun x hx=>hW'.lt x (List.mem_append_left _ hx)
 obtain ⟨ys,k1,k2,k3⟩:=zpq (fun _=>0) (fun i=>args.getD i undef) ⟨[],[]⟩ (b0:=b0) (n:=n) (ss:=sig) (fun j t v h2 h3=>hval j t v (by simpa using h2) (by simpa using h3)) hA hsig h1
 have hget:∀ i,args.toList.getD i undef=args.getD i undef:=fun i=>by simp [List.getD,Array.getD_eq_getD_getElem?]
 obtain ⟨hf,hcall⟩:=yle hT f ys [] (.bool true) [] (hrun ys k1)
 have h0:∀ b,zar ⟨ys,[]⟩ (fun _=>0) (fun _ _=>[]) (fun _ _=>[]) [] b=0:=by
  intro b
  unfold zar
  have:tot ys.length (fun i=>cat (ys.getD i .gone).cells.length fun _=>([]:List Nat)) b=0:=zb9 fun i _ hm=>by rw [zb6] at hm;cases hm
  simp only [this];simp [tot]
 have hsr:SR ⟨W,fun _=>False,fun b=>b<W.heap.size,0,fun _=>0,0,fun _=>none⟩ ⟨W,fun b=>b<W.heap.size,fun _=>0,fun i=>args.getD i undef,⟨ys,[]⟩⟩ (fun _ _=>[]) (fun _ _=>[]) []:=by
  have hpend:∀ i,i<ys.length->Pend ⟨W,fun b=>b<W.heap.size,fun _=>0,fun i=>args.getD i undef,⟨ys,[]⟩⟩ (args.getD i undef) (ys.getD i .gone) fun _=>[]:=by
   intro i hi
   have h3:=k3 i hi
   rw [hget] at h3
   refine ⟨h3.shape,fun c hc=> ?_⟩
   have hL:=h3.cells c hc
   refine LR1.keep hL (fun hm=> ?_) (fun _ h=>h) (fun _ _=>rfl) (fun _ _=>rfl)
   exfalso
   have key:∀ (ss:List (Bool×List PT)) (ys:List V),zgw ss ys->∀ i,i<ys.length->∀ c,c<(ys.getD i .gone).cells.length->((ys.getD i .gone).cells.getD c .gone).mark=false:=by
    intro ss
    induction ss with
    | nil=>intro ys h i hi;simp only [zgw] at h;subst h;simp at hi
    | cons s ss ih=>
      intro ys h i hi c hc
      simp only [zgw] at h
      obtain ⟨y,ys',rfl,hy,hys⟩:=h
      cases i with
      | succ i=>exact ih ys' hys i (by simpa using hi) c (by simpa using hc)
      | zero=>
        simp only [List.getD_cons_zero] at hc ⊢
        have hm:∀ (ps:List PT) (vs:List V),PT.hasAll ps vs->∀ v∈vs,v.mark=false:=by
         intro ps
         induction ps with
         | nil=>intro vs h;simp only [PT.hasAll] at h;subst h;simp
         | cons p ps ih=>
           intro vs h u hu
           simp only [PT.hasAll] at h
           obtain ⟨v,vs',rfl,hv,hvs⟩:=h
           rcases List.mem_cons.1 hu with rfl|hu
           ·cases p <;> simp only [PT.has] at hv
            ·obtain ⟨_,rfl,_⟩:=hv;rfl
            ·obtain ⟨_,rfl⟩:=hv;rfl
            ·obtain ⟨_,rfl,_⟩:=hv;rfl
            ·obtain ⟨_,rfl,_⟩:=hv;rfl
           ·exact ih vs' hvs u hu
        have hcc:=cells_of_cells1 y (hasAll_leaf hy.2)
        rw [hcc] at hc ⊢
        rw [za3 hc]
        exact hm _ _ hy.2 _ (List.getElem_mem hc)
   rw [key sig ys k1 i hi c hc] at hm
   cases hm
  exact ⟨fun i hi=>(hpend i hi).shape,fun i hi c hc=>(hpend i hi).cells c hc,fun k hk=>by simp at hk,fun k hk=>by simp at hk,fun k hk=>by simp at hk,fun b=>by
   show zar ⟨ys,[]⟩ _ _ _ _ b<=1;rw [h0 b];omega,fun b _=>h0 b,fun b hb=>hb,fun _ _ _=>rfl,.refl _,fun b hb=>by
   have hb':0<zar ⟨ys,[]⟩ (fun _=>0) (fun _ _=>[]) (fun _ _=>[]) [] b:=hb
   rw [h0 b] at hb';omega,fun _ h=>h,fun _ h=>.inl h⟩
 refine Calls.mono (hcall.1 (by simp) W (fun _=>False) (fun b=>b<W.heap.size) args (fun _=>0) _ _ (by rw [<- k2];simp) hsr (fun _ _ h=>h) hJ) fun e W' hh=> ?_
 cases e with
 | panicked c=>exact hh.elim
 | outgrown=>exact hh.elim
 | returned v=>
   obtain ⟨I',φ',FV,FC,hφ,hs⟩:=hh
   refine ⟨v,rfl,?_⟩
   have hv:v=.bool true:=by
    have hp:Pend ⟨W',I',φ',fun _=>v,⟨[V.bool true],[]⟩⟩ v (.bool true) (FV 0):=⟨hs.shape 0 (by simp),fun c hc=>hs.vars 0 (by simp) c hc⟩
    exact zd5 hp
   subst hv
   have hb:Below W.heap.size W W':=⟨hs.gr.os,hs.gr.tape,hs.gr.output,hs.gr.size,fun k hk=>hs.keep k hk (fun h=>h)⟩
   have hdl:ds.length=sig.length:=by
    have e1:∀ {ts:List TypeId} {vs:List Value} {ds:List (DataW H)} {ps:List MemPlace},DataW.TrodAll enc P W 0 (fun _=>true) true ts vs ds ps->ds.length=ts.length:=by
     intro ts
     induction ts with
     | nil=>intro vs ds ps h;cases vs <;> cases ds <;> first|rfl|(cases h;done)
     | cons t ts ih=>
       intro vs ds ps h
       cases vs with
       | nil=>cases h
       | cons v vs=>
         cases ds with
         | nil=>cases h
         | cons d ds=>obtain ⟨_,_,_,h2,_⟩:=h;simp [ih h2]
    have e2:=congrArg List.length hsig
    simp at e2
    rw [e1 hA];simpa using e2
   have hsp:=hspec ds hdl
   rw [<- List.append_nil ds] at hsp
   have hstay:=zqb hlaid hb hread hA hlt
   have hrl:(Value.bool true).resultList fn.resultTypes.size=[.bool true]:=by rw [hres];rfl
   have hrt:fn.resultTypes.toList=[tb]:=by rw [hres]
   have hresr:∀ (b:Nat) (sp:Nat->Bool) (hd:Bool),DataW.TrodAll enc P W' b sp hd fn.resultTypes.toList ((Value.bool true).resultList fn.resultTypes.size) [.lit (.bool true)] []:=by
    intro b sp hd
    rw [hrl,hrt]
    exact trodAll_mk1 (shut_bool htb true)
   refine ⟨ds,[],p ++ [],[],p,[],hW',?_,?_,?_,World.keptBut_mono (fun x hx=> ?_) (hb.frame (· ∈p ++ [])),fun _=> ?_⟩
   ·rw [hsp];exact hresr _ _ _
   ·rw [hsp];simpa using hstay
   ·rw [hsp,hvars];exact rfl
   ·simp only [List.append_nil] at hx;simp [hx]
   ·have hx:DataW.TrodAll enc P W' 0 (fun _=>true) true fn.params.toList args.toList ds p:=by
     have go:∀ {ts:List TypeId} {vs:List Value} {ds:List (DataW H)} {ps:List MemPlace},(∀ t∈ts,P.readableRec t=true/\t<P.types.size)->
      DataW.TrodAll enc P W 0 (fun _=>true) true ts vs ds ps->(∀ x∈ps,x.block<W.heap.size)->DataW.TrodAll enc P W' 0 (fun _=>true) true ts vs ds ps:=by
      intro ts
      induction ts with
      | nil=>intro vs ds ps _ h _;cases vs <;> cases ds <;> first|exact h|(cases h;done)
      | cons t ts ih=>
        intro vs ds ps hr h hlt
        cases vs with
        | nil=>cases h
        | cons v vs=>
          cases ds with
          | nil=>cases h
          | cons d ds=>
            obtain ⟨p,q,h1,h2,rfl⟩:=h
            obtain ⟨r1,r2⟩:=hr t (by simp)
            exact ⟨p,q,WideElems.Trod_stays hlaid r1 r2 h1 (fun x hx=>hb.same (hlt x (List.mem_append_left _ hx))) (fun _ _=>rfl),ih (fun t ht=>hr t (by simp [ht])) h2 (fun x hx=>hlt x (List.mem_append_right _ hx)),rfl⟩
     exact go hread hA hlt
    refine ⟨ok_one hres (by rfl) (okWide_bool_mk htb true),_,[],([]++p) ++ [],⟨[]++p,[],trodAll_append hx (hresr _ _ _),?_,rfl,?_,?_⟩,fun x hx _=>by simpa using hx⟩
    ·rw [hvars];exact rfl
    ·intro b off hp
     have hin:MemPlace.cell b off∈p ++ []:=by simpa using hp
     rw [hb.frozen (hlt _ (by simpa using hp))]
     exact hfz b off hin
    ·intro ha
     have:=hnd ha
     simpa using this
theorem yks (hT:zvv Glob.none P T) (hlaid:laidOutB P=true) {f:FuncId} {fn:Func} {s:ChangeSpec} {n:Nat} {sig:List (Bool×List PT)} {tb:TypeId} (hvars:s.vars=[])
 (hspec:∀ ds:List (DataW H),ds.length=sig.length->s.fn H ds={ results:=[.lit (.bool true)],args:=ds }) (hres:fn.resultTypes= #[tb]) (htb:P.underlying tb=some .bool)
 (hread:∀ t∈fn.params.toList,P.readableRec t=true/\t<P.types.size)
 (hsig:fn.params.toList.map (fun t=>(isAggT P t,ptOf P n t))=sig.map (fun s=>(s.1,some s.2))) (h1:∀ s∈sig,s.1=false->s.2.length=1)
 (hrun:∀ ys,zgw sig ys->Run T f ys []=some (.bool true,[]))
 {W:World} {b0:Nat} {args:Array Value} {ds gs:List (DataW H)} {before:List MemPlace} {apart fresh handsOn again:Bool}
 (hval:∀ (j:Nat) t v,fn.params[j]? =some t->args[j]? =some v->Value.okWide P W .any b0 t v) (hW:DataW.Whole enc P fn.params.toList s.vars apart W args.toList ds gs before):
 Calls P f args W fun e W'=>∃ v,e=.returned v/\s.post enc P fn apart fresh handsOn again W args v W':=yfs hT hlaid hvars hspec hres htb hread hsig h1 hrun hval hW trivial
end Go.Pm
namespace Go.Pm
def tbN:Nat:=0x7124d85da42f44e3e154ab8c34b1475080ed106242040
def tb (d:Nat):Nat:=tbN / 64 ^ d % 64
def nx (n:Nat):Nat×Nat:=
 let d:=n % 16
 let r:=n / 16
 match Nat.ble 14 d with
 | false=>(tb d,r)
 | true=>match Nat.ble 15 d with
   | false=>(tb (14+r % 16),r / 16)
   | true=>(r / 16 % 16 ^ (r % 16),r / 16 / 16 ^ (r % 16))
abbrev De (α:Type):=Nat->α×Nat
def De.map {α β:Type} (f:α->β) (m:De α):De β:=fun n=>match m n with|(a,n)=>(f a,n)
def De.two {α β γ:Type} (f:α->β->γ) (m:De α) (k:De β):De γ:=fun n=>match m n with|(a,n)=>match k n with|(b,n)=>(f a b,n)
def De.three {α β γ δ:Type} (f:α->β->γ->δ) (m:De α) (k:De β) (l:De γ):De δ:=fun n=>match m n with|(a,n)=>match k n with|(b,n)=>match l n with|(c,n)=>(f a b c,n)
def yru {α:Type} (m:De α):Nat->De (List α)
 | 0,n=>([],n)
 | k+1,n=>match m n with|(a,n)=>match yru m k n with|(as,n)=>(a::as,n)
def zfg {α:Type} (m:De α):De (List α):=fun n=>match nx n with|(k,n)=>yru m k n
def dB:De Bool:=fun n=>match nx n with|(k,n)=>(k == 1,n)
def zwa {α:Type} (m:De α):De (Option α):=fun n=>match nx n with
 | (0,n)=>(none,n)
 | (_,n)=>match m n with|(a,n)=>(some a,n)
def yej:Nat->IntKind
 | 0=>.i64|1=>.u8|2=>.i8|3=>.i16|4=>.i32|5=>.u16|6=>.u32|_=>.u64
def yza:De Int:=fun n=>match nx n with|(s,n)=>match nx n with|(m,n)=>(if s == 1 then -(m:Int) else(m:Int),n)
def dV:Nat->De V
 | 0,n=>(.gone,n)
 | q+1,n=>match nx n with
   | (0,n)=>De.two (fun k i=>V.int (yej k) i) nx yza n
   | (1,n)=>(.bool false,n)
   | (2,n)=>(.bool true,n)
   | (3,n)=>match zfg nx n with|(l,n)=>(.str ⟨(l.map UInt8.ofNat).toArray⟩,n)
   | (4,n)=>match nx n with|(e,n)=>(.own e [],n)
   | (5,n)=>match zfg (dV q) n with|(l,n)=>(.agg l,n)
   | (6,n)=>(.pnil,n)
   | (7,n)=>match nx n with|(f,n)=>(.fn f [],n)
   | (9,n)=>match nx n with|(k,n)=>(.int .i64 k,n)
   | (10,n)=>match nx n with|(e,n)=>(.imm e [],n)
   | (_,n)=>(.gone,n)
def dO:De Opnd:=fun n=>match nx n with
 | (0,n)=>match dV 9 n with|(v,n)=>(.con v,n)
 | (k+1,n)=>(.reg k,n)
def yz7:Nat->BinOp
 | 0=>.add|1=>.sub|2=>.mul|3=>.quo|4=>.rem|5=>.and|6=>.or|7=>.xor|8=>.andNot|9=>.shl|10=>.shr|11=>.eql|12=>.neq|13=>.lss|14=>.leq|15=>.gtr|_=>.geq
def dPM:De PM:=fun n=>match nx n with
 | (0,n)=>(.view,n)
 | (1,n)=>(.own,n)
 | (_,n)=>match nx n with|(k,n)=>(.box k,n)
def dHt (t n:Nat):HOp×Nat:=match (t,n) with
 | (0,n)=>De.map .mov dO n
 | (1,n)=>De.three .pick dO dO dO n
 | (2,n)=>De.map .alloc (zfg (dV 9)) n
 | (3,n)=>De.map .box dO n
 | (4,n)=>De.two .build (zfg (dV 9)) (zfg (De.three (fun a b c=>(a,b,c)) nx nx dO)) n
 | (5,n)=>De.three .list nx dB (zfg dO) n
 | (6,n)=>De.two .load (zwa nx) dO n
 | (7,n)=>De.two (fun p q=>.store p.1 p.2 q.1 q.2) (De.two Prod.mk (zwa nx) dB) (De.two Prod.mk dO dO) n
 | (8,n)=>De.map .chk dO n
 | (9,n)=>De.three (fun b=>.bin (yz7 b)) nx dO dO n
 | (10,n)=>De.three .beq dB dO dO n
 | (11,n)=>De.three .aeq nx dO dO n
 | (12,n)=>De.two (fun b=>.un (if b == 0 then .not else .neg)) nx dO n
 | (13,n)=>De.two (fun k=>.conv (yej k)) nx dO n
 | (14,n)=>De.map .toStr dO n
 | (15,n)=>De.map .toBytes dO n
 | (16,n)=>De.two .func nx (zfg dO) n
 | (17,n)=>De.two (fun p q=>.make p.1 p.2 q.1 q.2) (De.two Prod.mk nx nx) (De.two Prod.mk (dV 9) dO) n
 | (18,n)=>De.two (fun p q=>.slice p.1 p.2 q.1 q.2) (De.two Prod.mk nx dO) (De.two Prod.mk (zwa dO) (zwa dO)) n
 | (19,n)=>De.three .sslice dO (zwa dO) (zwa dO) n
 | (20,n)=>De.two .fld nx dO n
 | (21,n)=>De.three .idx nx dO dO n
 | (22,n)=>De.two (fun p q=>.aidx p.1 p.2 q.1 q.2) (De.two Prod.mk nx nx) (De.two Prod.mk dO dO) n
 | (23,n)=>De.three .part (zwa nx) nx dO n
 | (24,n)=>De.two .ext nx dO n
 | (25,n)=>De.two .sidx dO dO n
 | (26,n)=>De.map .len dO n
 | (27,n)=>De.map .slen dO n
 | (28,n)=>De.two (fun p q=>.append p.1 p.2.1 p.2.2 q.1 q.2) (De.three (fun a b c=>(a,b,c)) nx nx dB) (De.two Prod.mk dO dO) n
 | (29,n)=>De.three .copy nx dO dO n
 | (30,n)=>De.two .min2 dO dO n
 | (31,n)=>De.three .min3 dO dO dO n
 | (32,n)=>De.two .max2 dO dO n
 | (33,n)=>De.two (fun p q=>.call p.1 p.2 q.1 q.2) (De.two Prod.mk nx (zfg dPM)) (De.two Prod.mk dB (zfg dO)) n
 | (34,n)=>De.two .dyn dO (zfg dO) n
 | (35,n)=>De.three .lcall nx dO dO n
 | (36,n)=>De.map .boxk nx n
 | (37,n)=>De.two .extt nx dO n
 | (38,n)=>De.map .tmov dO n
 | (_,n)=>(.mov (.con .gone),n)
def dH:De HOp:=fun n=>match nx n with|(t,n)=>dHt t n
def dOp:De (HOp×Option Nat×Option (Nat×Bool)):=fun n=>match nx n with
 | (45,n)=>De.two (fun d h=>(h,some d,none)) nx dH n
 | (46,n)=>De.two (fun j h=>(h,none,some (j,true))) nx dH n
 | (47,n)=>De.two (fun j h=>(h,none,some (j,false))) nx dH n
 | (48,n)=>De.three (fun d g h=>(h,d,g)) (zwa nx) (zwa (De.two Prod.mk nx dB)) dH n
 | (t,n)=>match dHt t n with|(h,n)=>((h,none,none),n)
def dIt (m:Nat):De Item:=fun n=>match nx n with
 | (44,n)=>De.two (fun (p:Option Nat×HOp) (q:Nat×Nat)=>⟨q.1,p.2,p.1,none,bits m q.2,true⟩) (De.two Prod.mk (zwa nx) dH) (De.two Prod.mk nx nx) n
 | (45,n)=>De.two (fun (p:Nat×HOp×Option Nat) (q:Option (Nat×Bool)×Nat×Bool)=>⟨p.1,p.2.1,p.2.2,q.1,bits m q.2.1,q.2.2⟩) (De.three (fun a b c=>(a,b,c)) nx dH (zwa nx)) (De.three (fun a b c=>(a,b,c)) (zwa (De.two Prod.mk nx dB)) nx dB) n
 | (46,n)=>De.two (fun (p:Nat×HOp) (q:Nat×Nat)=>⟨q.1,p.2,none,some (p.1,true),bits m q.2,false⟩) (De.two Prod.mk nx dH) (De.two Prod.mk nx nx) n
 | (47,n)=>De.two (fun (p:Nat×HOp) (q:Nat×Nat)=>⟨q.1,p.2,none,some (p.1,false),bits m q.2,false⟩) (De.two Prod.mk nx dH) (De.two Prod.mk nx nx) n
 | (t,n)=>match dHt t n with|(h,n)=>De.two (fun i k=>⟨i,h,none,none,bits m k,false⟩) nx nx n
def dC (ls:List HCode):Nat->De HCode
 | 0,n=>(.skip,n)
 | q+1,n=>match nx n with
   | (0,n)=>(.skip,n)
   | (1,n)=>De.two .seq (dC ls q) (dC ls q) n
   | (2,n)=>De.map .region (zfg dOp) n
   | (3,n)=>match nx n with|(m,n)=>De.map (.draw m) (zfg (dIt m)) n
   | (10,n)=>match nx n with|(m,n)=>De.two (.drawP m) (zfg (dIt m)) (zfg (zfg nx)) n
   | (4,n)=>De.three .cond dO (dC ls q) (dC ls q) n
   | (5,n)=>De.two .block nx (dC ls q) n
   | (6,n)=>De.map .exit nx n
   | (7,n)=>De.two (fun d i=>.loop d (ls.getD i .skip)) (zfg nx) nx n
   | (9,n)=>(.dead,n)
   | (_,n)=>(.ret,n)
def tx (ls:List HCode) (n:Nat):HCode:=(dC ls 200 n).1
end Go.Pm
