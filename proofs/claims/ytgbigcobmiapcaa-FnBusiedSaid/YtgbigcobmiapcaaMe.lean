/- Proved: the law FnBusied answers true at all arguments, for every operating system that has started; no conditions beyond the row's own. -/
import Derived.Test.YtgbigcobmiapcaaMd
import Derived.Laws.StructEq
set_option linter.unusedVariables false
set_option linter.unusedSimpArgs false
namespace Go.Pm
variable {P:Program} {B:Base} {x:Cx} {FV FC:Nat->Nat->List Nat} {a:Act} {ts:List (Option Nat)} {n:Nat}
def zuu (P:Program):List Field->Nat->Bool
 | [],_=>true
 | f :: fs, i => f.name != "_" && f.offset == i && (match P.underlying f.type with | some (.int _) => true | _ => false) && zuu P fs (i + 1)
def yfk (P:Program) (t:TypeId) (m:Nat):Bool:=
 match P.underlying t with
 | some (.struct fs)=> !P.stoodInHeld t && !P.eqGuardType P.depth t&&fs.toList.length == m&&zuu P fs.toList 0
 | _=>false
theorem zuw {arr brr:Array Value} {cs ds:List V} (d:Nat) (h1:∀ c,c<cs.length->x.LR1 (arr.getD c undef) (cs.getD c .gone) []) (h2:∀ c,c<ds.length->x.LR1 (brr.getD c undef) (ds.getD c .gone) [])
 (l1:arr.size=cs.length) (l2:brr.size=ds.length) (w:World):∀ (fs:List Field) (i:Nat) (r:Bool),zuu P fs i=true->i+fs.length=cs.length->i+fs.length=ds.length->zst (cs.drop i) (ds.drop i)=some r->
  (Op.eqFields (d+1) arr brr fs).run P w=.ok r w
 | [],i,r,_,e1,e2,h=>by
   rw [List.drop_eq_nil_of_le (by simp at e1;omega),List.drop_eq_nil_of_le (by simp at e2;omega)] at h
   simp only [zst,Option.some.injEq] at h
   subst h
   simp [Op.eqFields]
 | f::fs,i,r,hf,e1,e2,h=>by
   simp only [List.length_cons] at e1 e2
   simp only [zuu,Bool.and_eq_true,bne_iff_ne,ne_eq,beq_iff_eq] at hf
   obtain ⟨⟨⟨f1,f2⟩,f3⟩,f4⟩:=hf
   have g1:i<cs.length:=by omega
   have g2:i<ds.length:=by omega
   rw [List.drop_eq_getElem_cons g1,List.drop_eq_getElem_cons g2] at h
   split at f3
   ·rename_i kk hu
    have hag:yj2 P f.type=some false:=by unfold yj2;rw [hu]
    have p1:(part f.type arr i).run P w=.ok (arr.getD i undef) w:=by
     unfold part
     have:i<arr.size:=by omega
     simp [zdy hag,this,Array.getD]
    have p2:(part f.type brr i).run P w=.ok (brr.getD i undef) w:=by
     unfold part
     have:i<brr.size:=by omega
     simp [zdy hag,this,Array.getD]
    have q1:=h1 i g1
    have q2:=h2 i g2
    rw [za3 g1] at q1
    rw [za3 g2] at q2
    generalize hc:cs[i]=u at h q1
    generalize hd:ds[i]=v at h q2
    cases u <;> cases v <;> first|(simp only [zst] at h;cases h;done)|skip
    rename_i k p k' q
    simp only [zst] at h
    split at h
    ·rename_i hk
     subst hk
     split at h
     ·rename_i r' hr
      cases h
      have v1:=zb1 (Pend.leaf q1)
      have v2:=zb1 (Pend.leaf q2)
      have ih:=zuw d h1 h2 l1 l2 w fs (i+1) r' f4 (by omega) (by omega) hr
      simp only [Op.eqFields,ne_eq,f1,not_false_eq_true,if_true,Sem.run_bind,f2,p1,Result.andThen_ok,p2,v1,v2,run_equalIn_int w d f.type k kk p q hu]
      by_cases hpq:p=q
      ·simp [hpq,ih]
      ·simp [hpq]
     ·cases h
    ·cases h
   ·cases f3
theorem yk8 (h:SR B x FV FC []) (ht:Tied B ts n x a) {o:Oper} {t y z t' oy oz} {m:Nat} (ho:o.op=.binOp .eql t y z t') (hy:za1 ts y oy=true) (hz:za1 ts z oz=true)
 (hk:yfk P t m=true) {cs ds r} (h1:x.st.rd oy=some (.agg cs)) (h2:x.st.rd oz=some (.agg ds)) (hm:cs.length=m/\ds.length=m) (hr:zst cs ds=some r):zc6 P o a x.w (Out B n ts a x.st (.bool r)):=by
 have hp:=zaq h ht hy h1
 have hq:=zaq h ht hz h2
 obtain ⟨arr,ea,l1⟩:=hp.shape
 obtain ⟨brr,eb,l2⟩:=hq.shape
 have c1:∀ c,c<cs.length->x.LR1 (arr.getD c undef) (cs.getD c .gone) []:=by
  intro c hc
  have:=hp.cells c hc
  rw [ea] at this
  have e:zac (.agg arr) (.agg cs) c=arr.getD c undef:=by simp [zac,zdl,List.getD,Array.getD_eq_getD_getElem?]
  rw [e] at this;exact this
 have c2:∀ c,c<ds.length->x.LR1 (brr.getD c undef) (ds.getD c .gone) []:=by
  intro c hc
  have:=hq.cells c hc
  rw [eb] at this
  have e:zac (.agg brr) (.agg ds) c=brr.getD c undef:=by simp [zac,zdl,List.getD,Array.getD_eq_getD_getElem?]
  rw [e] at this;exact this
 unfold yfk at hk
 split at hk
 ·rename_i fs hu
  simp only [Bool.and_eq_true,Bool.not_eq_true',beq_iff_eq] at hk
  obtain ⟨⟨⟨k1,k2⟩,k3⟩,k4⟩:=hk
  have hfo:P.fieldsOf t=fs:=by unfold Program.fieldsOf;rw [hu]
  have key:=zuw (P:=P) (arr:=arr) (brr:=brr) 9998 c1 c2 l1 l2 x.w fs.toList 0 r k4 (by omega) (by omega) (by simpa using hr)
  refine za9 (val:=.bool r) (w':=x.w) ?_ (Out.simple h ht zey)
  simp only [execOp,ho,ea,eb,Sem.run_bind,run_eqGuard_agg x.w .eql t y z arr brr k2,Result.andThen_ok,run_eql_struct]
  rw [run_equalIn_struct x.w 9999 t arr brr (by rw [hfo];exact hu) k1,hfo,key]
  rfl
 ·cases hk
end Go.Pm
namespace Go.Pm
variable {P:Program} {B:Base} {x:Cx} {FV FC:Nat->Nat->List Nat} {FX:List Nat} {a:Act} {ts:List (Option Nat)} {n:Nat}
theorem zbh (b o k:Nat):(⟨b,o,none⟩:Addr).add k=⟨b,o+k,none⟩:=by unfold Addr.add;split <;> simp_all
theorem zln {w:World} {b o:Nat} {v} (h:w.cell? ⟨b,o,none⟩=some v):w.cell? ⟨b,o,none⟩=some (zad w b o):=by simp [zad,h]
theorem zpg (h:SR B x FV FC FX) {val r c up} (hL:x.LR1 val (.ref r c up) []) {cs} (hc:x.st.cont r up=some cs):
 ∃ b o,val=.pointer (some ⟨b,o,none⟩)/\∀ j,c+j<cs.length->x.w.cell? ⟨b,o+j,none⟩=some (x.place r up (c+j)):=by
 cases up with
 | nil=>
   obtain ⟨_,k,cs',rfl,h1,h2⟩:=hL
   simp only [St.cont,St.root] at hc
   rw [h1] at hc
   cases hc
   obtain ⟨hk,he⟩:=List.getElem?_eq_some_iff.1 h1
   have hrows:=h.box k hk
   rw [za3 hk,he] at hrows
   refine ⟨x.φ k,c,h2,fun j hj=> ?_⟩
   obtain ⟨u,hu⟩:=hrows.cell hj
   rw [zln hu];rfl
 | cons s up=>
   obtain ⟨i,e,c'⟩:=s
   obtain ⟨_,_,ad,m,cap,h1,h2⟩:=hL
   obtain ⟨os,xs,ho,hc',hown,hi,rfl⟩:=zaf hc
   obtain ⟨F,hL',_⟩:=h.at r up os ho c' hc'
   rw [hown] at hL'
   have hV:VR x.w x.I (x.place r up c') (.own e xs) F:=hL'
   rw [h1] at hV
   refine ⟨ad.block,ad.off+i * e+c,h2,fun j hj=> ?_⟩
   cases hV with
   | own _ _ _ _ vs Fs hs he hz hl hb hcs hf hr=>
     have hlen:=ze6 hz hi
     rw [hlen] at hj
     have h3:=hcs (i * e+(c+j)) (zca hi hj)
     simp only [Cx.place,h1]
     have h4:ad.off+i * e+c+j=ad.off+(i * e+(c+j)):=by omega
     have h5:ad.off+i * e+(c+j)=ad.off+(i * e+(c+j)):=by omega
     rw [h4,h5]
     exact zln h3
theorem zce {t:TypeId} {m:Option Nat} (hm:zdb P t m=true) {w:World} {b o:Nat} {f:Nat->Value} (h:∀ j,j<m.getD 1->w.cell? ⟨b,o+j,none⟩=some (f j)):
 (loadVar t ⟨b,o,none⟩).run P w=.ok (match m with|none=>f 0|some k=>.agg ((List.range k).map f).toArray) w:=by
 cases m with
 | none=>
   simp only [zdb,beq_iff_eq] at hm
   have:=h 0 (by simp)
   simp only [Nat.add_zero] at this
   simp [loadVar,zdy hm,this]
 | some k=>
   simp only [zdb,Bool.and_eq_true,beq_iff_eq] at hm
   have:=run_loadCells (P:=P) w ⟨b,o,none⟩ k f (fun j hj=>by rw [zbh];exact h j hj)
   simp [loadVar,zdy hm.1,zb7 hm.2,this]
def zkz (r:Root) (up:List zbv) (c:Nat) (cs:List V):Option Nat->Option V
 | none=>(cs[c]?).map (V.borrow r c up)
 | some m=>if c+m<=cs.length then some (.agg (borrows r up c ((cs.drop c).take m))) else none
theorem yia (h:SR B x FV FC []) (ht:Tied B ts n x a) {o:Oper} {t y oy} {m:Option Nat} (ho:o.op=.load t y) (hy:za1 ts y oy=true) (hm:zdb P t m=true)
 {r c up cs v} (hr:x.st.rd oy=some (.ref r c up)) (hc:x.st.cont r up=some cs) (hv:zkz r up c cs m=some v):zc6 P o a x.w (Out B n ts a x.st v):=by
 obtain ⟨b,of,e1,hcell⟩:=zpg h (zag (zaq h ht hy hr) rfl) hc
 have hload:=zce (P:=P) hm (w:=x.w) (b:=b) (o:=of) (f:=fun j=>x.place r up (c+j))
 cases m with
 | none=>
   simp only [zkz,Option.map_eq_some_iff] at hv
   obtain ⟨z,hz,rfl⟩:=hv
   obtain ⟨hlt,he⟩:=List.getElem?_eq_some_iff.1 hz
   have:=hload (fun j hj=>hcell j (by have:j=0:=by simpa using hj
                                      subst this;exact hlt))
   simp only [Nat.add_zero] at this
   refine za9 (val:=x.place r up c) (w':=x.w) ?_ (Out.simple h ht ?_)
   ·simp [execOp,ho,e1,Instr.loadAt,Instr.sureAddr,this]
   ·have hb:=zcz h hc hlt
    rw [za3 hlt,he] at hb
    exact Pend.leaf hb
 | some k=>
   simp only [zkz] at hv
   split at hv
   ·rename_i hle
    cases hv
    have hlen:((cs.drop c).take k).length=k:=by simp;omega
    have:=hload (fun j hj=>hcell j (by simp at hj;omega))
    refine za9 (val:=.agg ((List.range k).map fun j=>x.place r up (c+j)).toArray) (w':=x.w) ?_ (Out.simple h ht ⟨⟨_,rfl,?_⟩,?_⟩)
    ·simp [execOp,ho,e1,Instr.loadAt,Instr.sureAddr,this]
    ·rw [zb8,hlen];simp
    ·intro j hj
     simp only [V.cells,zb8,hlen] at hj ⊢
     rw [zd2 _ _ _ _ _ (by rw [hlen];exact hj)]
     have e2:((cs.drop c).take k).getD j .gone=cs.getD (c+j) .gone:=by simp [List.getD,hj]
     have e3:zac (.agg ((List.range k).map fun j=>x.place r up (c+j)).toArray) (.agg (borrows r up c ((cs.drop c).take k))) j=x.place r up (c+j):=by
      simp [zac,zdl,List.getD,hj]
     rw [e2,e3]
     exact zcz h hc (by omega)
   ·cases hv
theorem yd0 (h:SR B x FV FC []) (ht:Tied B ts n x a) {o:Oper} {t y oy} {m:Option Nat} (ho:o.op=.load t y) (hy:za1 ts y oy=true) (hm:zdb P t m=true)
 {c cs v} (hr:x.st.rd oy=some (.eptr cs c)) (hv:zwv cs c m=some v):zc6 P o a x.w (Out B n ts a x.st v):=by
 obtain ⟨_,b,of,e1,hIb,vs,hcell⟩:=zag (zaq h ht hy hr) rfl
 have hload:=zce (P:=P) hm (w:=x.w) (b:=b) (o:=of+c) (f:=fun j=>vs (c+j))
 have hL:∀ j,j<cs.length->x.LR1 (vs j) (cs.getD j .gone) []:=fun j hj=>za8 (hcell j hj).2.1 (hcell j hj).2.2
 cases m with
 | none=>
   simp only [zwv] at hv
   obtain ⟨hlt,he⟩:=List.getElem?_eq_some_iff.1 hv
   have:=hload (fun j hj=>by
    have:j=0:=by simpa using hj
    subst this;exact (hcell c hlt).1)
   simp only [Nat.add_zero] at this
   have hV:=hL c hlt
   rw [za3 hlt,he] at hV
   refine za9 (val:=vs c) (w':=x.w) ?_ (Out.simple h ht (Pend.leaf hV))
   simp [execOp,ho,e1,Instr.loadAt,Instr.sureAddr,this]
 | some k=>
   simp only [zwv] at hv
   split at hv
   ·rename_i hle
    cases hv
    have hlen:((cs.drop c).take k).length=k:=by simp;omega
    have:=hload (fun j hj=>by
     simp at hj
     rw [Nat.add_assoc];exact (hcell (c+j) (by omega)).1)
    refine za9 (val:=.agg ((List.range k).map fun j=>vs (c+j)).toArray) (w':=x.w) ?_ (Out.simple h ht ⟨⟨_,rfl,?_⟩,?_⟩)
    ·simp [execOp,ho,e1,Instr.loadAt,Instr.sureAddr,this]
    ·rw [hlen];simp
    ·intro j hj
     simp only [V.cells,hlen] at hj ⊢
     have e2:((cs.drop c).take k).getD j .gone=cs.getD (c+j) .gone:=by simp [List.getD,hj]
     have e3:zac (.agg ((List.range k).map fun j=>vs (c+j)).toArray) (.agg ((cs.drop c).take k)) j=vs (c+j):=by
      simp [zac,zdl,List.getD,hj]
     rw [e2,e3]
     exact hL _ (by omega)
   ·cases hv
theorem zfy {t:TypeId} {fs:Array Field} {f:Nat} {fl:Field} {m:Nat} (hu:P.underlying t=some (.struct fs)) (hf:fs[f]? =some fl) (hm:zcn P fl.type=some m) (h0:m≠0) (b o:Nat) (w:World):
 (Instr.fieldAt t (.pointer (some ⟨b,o,none⟩)) f).run P w=.ok (.pointer (some ⟨b,o+fl.offset,none⟩)) w:=by
 simp [Instr.fieldAt,run_underlying hu,hf,Instr.sureAddr,fieldPlace,zb7 hm,h0,zbh]
theorem yk4 (h:SR B x FV FC []) (ht:Tied B ts n x a) {o:Oper} {t y oy f fs} {fl:Field} {m:Nat} (ho:o.op=.fieldAddr t y f) (hy:za1 ts y oy=true) (hu:P.underlying t=some (.struct fs)) (hf:fs[f]? =some fl)
 (hm:zcn P fl.type=some m) (h0:m≠0) {r c up} (hr:x.st.rd oy=some (.ref r c up)):zc6 P o a x.w (Out B n ts a x.st (.ref r (c+fl.offset) up)):=by
 have hL:=zag (zaq h ht hy hr) rfl
 cases up with
 | nil=>
   obtain ⟨_,k,cs,rfl,h1,h2⟩:=hL
   exact za9 (val:=.pointer (some ⟨x.φ k,c+fl.offset,none⟩)) (w':=x.w) (by simp [execOp,ho,h2,zfy hu hf hm h0]) (Out.simple h ht (Pend.leaf ⟨rfl,k,cs,rfl,h1,rfl⟩))
 | cons s up=>
   obtain ⟨i,e,c'⟩:=s
   obtain ⟨_,hc,ad,q,cap,h1,h2⟩:=hL
   exact za9 (val:=.pointer (some ⟨ad.block,ad.off+i * e+(c+fl.offset),none⟩)) (w':=x.w) (by simp [execOp,ho,h2,zfy hu hf hm h0,Nat.add_assoc])
    (Out.simple h ht (Pend.leaf ⟨rfl,hc,ad,q,cap,h1,rfl⟩))
theorem yhj (h:SR B x FV FC []) (ht:Tied B ts n x a) {o:Oper} {t y oy f fs} {fl:Field} {m:Nat} (ho:o.op=.fieldAddr t y f) (hy:za1 ts y oy=true) (hu:P.underlying t=some (.struct fs)) (hf:fs[f]? =some fl)
 (hm:zcn P fl.type=some m) (h0:m≠0) {cs c} (hr:x.st.rd oy=some (.eptr cs c)):zc6 P o a x.w (Out B n ts a x.st (.eptr cs (c+fl.offset))):=by
 obtain ⟨_,b,of,e1,hI,vs,hc⟩:=zag (zaq h ht hy hr) rfl
 exact za9 (val:=.pointer (some ⟨b,of+(c+fl.offset),none⟩)) (w':=x.w) (by simp [execOp,ho,e1,zfy hu hf hm h0,Nat.add_assoc]) (Out.simple h ht (Pend.leaf ⟨rfl,b,of,rfl,hI,vs,hc⟩))
theorem zuf {t el:TypeId} {len e:Nat} (hu:P.underlying t=some (.array len el)) (he:zcn P el=some e) {k:IntKind} {m:Int} (h0:0<=m) (hm:m<len) (b o:Nat) (w:World):
 (Instr.indexAt t (.pointer (some ⟨b,o,none⟩)) (.int k m)).run P w=.ok (.pointer (some ⟨b,o+m.toNat * e,none⟩)) w:=by
 simp [Instr.indexAt,asIntOf,run_underlying hu,Instr.sureAddr,h0,hm,zb7 he,zbh]
theorem yfv (h:SR B x FV FC []) (ht:Tied B ts n x a) {o:Oper} {t y z oy oz} {el:TypeId} {len e:Nat} (ho:o.op=.indexAddr t y z) (hy:za1 ts y oy=true) (hz:za1 ts z oz=true) (hu:P.underlying t=some (.array len el))
 (he:zcn P el=some e) {r c up k m} (hr:x.st.rd oy=some (.ref r c up)) (hi:x.st.rd oz=some (.int k m)) (h0:0<=m) (hm:m<len):zc6 P o a x.w (Out B n ts a x.st (.ref r (c+m.toNat * e) up)):=by
 have hL:=zag (zaq h ht hy hr) rfl
 have e2:=zb1 (zaq h ht hz hi)
 cases up with
 | nil=>
   obtain ⟨_,q,cs,rfl,h1,h2⟩:=hL
   exact za9 (val:=.pointer (some ⟨x.φ q,c+m.toNat * e,none⟩)) (w':=x.w) (by simp [execOp,ho,h2,e2,zuf hu he h0 hm]) (Out.simple h ht (Pend.leaf ⟨rfl,q,cs,rfl,h1,rfl⟩))
 | cons s up=>
   obtain ⟨i,e',c'⟩:=s
   obtain ⟨_,hc,ad,q,cap,h1,h2⟩:=hL
   exact za9 (val:=.pointer (some ⟨ad.block,ad.off+i * e'+(c+m.toNat * e),none⟩)) (w':=x.w) (by simp [execOp,ho,h2,e2,zuf hu he h0 hm,Nat.add_assoc])
    (Out.simple h ht (Pend.leaf ⟨rfl,hc,ad,q,cap,h1,rfl⟩))
theorem zuz {t el:TypeId} {e:Nat} (hu:P.underlying t=some (.slice el)) (he:zcn P el=some e) {k:IntKind} {m:Int} (b o len cap:Nat) (h0:0<=m) (hm:m<len) (w:World):
 (Instr.indexAt t (.slice (some ⟨b,o,none⟩) len cap) (.int k m)).run P w=.ok (.pointer (some ⟨b,o+m.toNat * e,none⟩)) w:=by
 simp [Instr.indexAt,asIntOf,run_underlying hu,h0,hm,zb7 he,zbh]
theorem yk0 (h:SR B x FV FC []) (ht:Tied B ts n x a) {o:Oper} {t y z oy oz} {el:TypeId} {e:Nat} (ho:o.op=.indexAddr t y z) (hy:za1 ts y oy=true) (hz:za1 ts z oz=true) (hu:P.underlying t=some (.slice el))
 (he:zcn P el=some e) {r c up lo hi k m} (hr:x.st.rd oy=some (.hd e r c up lo hi)) (hi':x.st.rd oz=some (.int k m)) (h0:0<=m) (hm:m<(hi - lo:Nat)):
 zc6 P o a x.w (Out B n ts a x.st (.ref r 0 ((lo+m.toNat,e,c)::up))):=by
 obtain ⟨_,xs,hget,hlo,_,ad0,q,cap,a2,cap2,h1,h2,hn,halt⟩:=zag (zaq h ht hy hr) rfl
 have e2:=zb1 (zaq h ht hz hi')
 rcases halt with ⟨_,_,hz0,_⟩|⟨ad,of,rfl,hsp,rfl,hqc,ho2,hroom,hcap⟩
 ·omega
 ·have hof:of=ad.off+lo * e:=ho2.resolve_left (by omega)
  obtain ⟨os,hos,hlt,hown⟩:=zba hget
  obtain ⟨F,hL,_⟩:=h.at r up os hos c hlt
  rw [hown] at hL
  have hV:VR x.w x.I (x.place r up c) (.own e xs) F:=hL
  have hq:q=xs.length:=by rw [h1] at hV;cases hV;rfl
  refine za9 (val:=.pointer (some ⟨ad.block,ad.off+(lo+m.toNat) * e+0,none⟩)) (w':=x.w) ?_ (Out.simple h ht (Pend.leaf ⟨rfl,⟨(xs.getD (lo+m.toNat) .gone).cells,?_⟩,ad,q,cap,h1,rfl⟩))
  ·have hadd:of+m.toNat * e=ad.off+(lo+m.toNat) * e+0:=by rw [hof,Nat.add_mul];omega
   simp [execOp,ho,h2,e2,zuz hu he _ _ _ _ h0 hm]
   rw [hadd];simp
  ·have e1:os[c]? =some (.own e xs):=by rw [List.getElem?_eq_getElem hlt,<- hown,za3 hlt]
   have e3:xs[lo+m.toNat]? =some (xs.getD (lo+m.toNat) .gone):=by rw [za3 (by omega),List.getElem?_eq_getElem (by omega)]
   simp only [St.cont,hos,e1,if_true,e3,Option.map_some]
theorem yhc (h:SR B x FV FC []) (ht:Tied B ts n x a) {o:Oper} {t y z oy oz} {el:TypeId} {e:Nat} (ho:o.op=.indexAddr t y z) (hy:za1 ts y oy=true) (hz:za1 ts z oz=true) (hu:P.underlying t=some (.slice el))
 (he:zcn P el=some e) {xs k m u} (hr:x.st.rd oy=some (.imm e xs)) (hi':x.st.rd oz=some (.int k m)) (h0:0<=m) (hm:xs[m.toNat]? =some u):
 zc6 P o a x.w (Out B n ts a x.st (.eptr u.cells 0)):=by
 have hL:=zag (zaq h ht hy hr) rfl
 have hV:VR x.w x.I (a.eval y) (.imm e xs) []:=hL
 have e2:=zb1 (zaq h ht hz hi')
 generalize hval:a.eval y=val at hV
 obtain ⟨hlt,hu'⟩:=List.getElem?_eq_some_iff.1 hm
 cases hV with
 | imm0=>simp at hlt
 | imm ad cap _ _ vs hs hI hp hl hzz hc hf hr'=>
   obtain ⟨b,of,sp⟩:=ad
   simp only at hs
   subst hs
   have hue:u.cells.length=e:=hzz u (by rw [<- hu'];exact List.getElem_mem hlt)
   have hug:xs.getD m.toNat .gone=u:=by rw [za3 hlt,hu']
   refine za9 (val:=.pointer (some ⟨b,of+m.toNat * e+0,none⟩)) (w':=x.w) ?_ (Out.simple h ht (Pend.leaf ⟨rfl,b,of+m.toNat * e,rfl,hI,fun j=>vs (m.toNat * e+j),?_⟩))
   ·simp [execOp,ho,hval,e2,zuz hu he _ _ _ _ h0 (show m<(xs.length:Int) by omega)]
   ·intro j hj
    rw [hue] at hj
    have h1:=hr' m.toNat j hlt hj
    have h2:=zeb hf hzz hlt hj
    have h3:elt xs m.toNat j=u.cells.getD j .gone:=by unfold elt;rw [hug]
    rw [h3] at h1 h2
    have h4:=hc (m.toNat * e+j) (zca hlt hj)
    simp only [<- Nat.add_assoc] at h4
    exact ⟨h4,h1,h2⟩
end Go.Pm
namespace Go.Pm
variable {P:Program} {B:Base} {x:Cx} {FV FC:Nat->Nat->List Nat} {FX:List Nat} {a:Act} {ts:List (Option Nat)} {n:Nat}
theorem ylp {val v m} (hL:x.LR1 val v []) (h:ydq v=some m):∃ ad cap,val=.slice ad m cap/\m<=cap:=by
 cases v with
 | hd e r c up lo hi=>
   cases h
   obtain ⟨_,xs,hget,hlo,hsame,ad0,q,cap,a2,cap2,h1,h2,hn,halt⟩:=hL
   refine ⟨a2,cap2,h2,?_⟩
   rcases halt with ⟨_,_,h0,_⟩|⟨_,_,_,_,_,_,_,_,h3⟩ <;> omega
 | imm e xs=>
   cases h
   have hV:VR x.w x.I val (.imm e xs) []:=hL
   cases hV with
   | imm0 _ ad cap=>exact ⟨ad,cap,rfl,Nat.zero_le _⟩
   | imm ad cap _ _ vs hs hI hp hl hzz hc hf hr'=>exact ⟨some ad,cap,rfl,hl⟩
 | own e xs=>
   cases xs with
   | nil=>
     cases h
     have hV:VR x.w x.I val (.own e []) []:=hL
     cases hV with
     | own0=>exact ⟨none,0,rfl,Nat.le_refl _⟩
   | cons y ys=>cases h
 | _=>cases h
theorem zq5 {v m} (h:ydq v=some m):v.leaf=true:=by cases v <;> first|rfl|cases h
theorem ylk (h:SR B x FV FC []) (ht:Tied B ts n x a) {o:Oper} {y oy t el ats} (ho:o.op=.call { callee:=.builtin .len,args:= #[y],argTypes:=ats }) (hat:ats[0]? =some t) (hy:za1 ts y oy=true)
 (hu:P.underlying t=some (.slice el)) {v m} (hr:x.st.rd oy=some v) (hm:ydq v=some m):zc6 P o a x.w (Out B n ts a x.st (.int .i64 m)):=by
 obtain ⟨ad,cap,e1,_⟩:=ylp (zag (zaq h ht hy hr) (zq5 hm)) hm
 exact za9 (val:=.int .i64 m) (w':=x.w) (by simp [execOp,ho,e1,resolve,invoke,builtin,Builtin.len_,hat,run_underlying hu,goInt]) (Out.simple h ht zcl)
theorem yhr (h:SR B x FV FC []) (ht:Tied B ts n x a) {o:Oper} {y oy t ats} (ho:o.op=.call { callee:=.builtin .len,args:= #[y],argTypes:=ats }) (hat:ats[0]? =some t) (hy:za1 ts y oy=true)
 (hu:P.underlying t=some .string) {s} (hr:x.st.rd oy=some (.str s)):zc6 P o a x.w (Out B n ts a x.st (.int .i64 s.size)):=by
 have e1:=zf4 (zaq h ht hy hr)
 exact za9 (val:=.int .i64 s.size) (w':=x.w) (by simp [execOp,ho,e1,resolve,invoke,builtin,Builtin.len_,hat,run_underlying hu,goInt]) (Out.simple h ht zcl)
def zqk (s:St) (d:Int):Option Opnd->Option Int
 | none=>some d
 | some o=>(s.rd o).bind yf2
def zky (ts:List (Option Nat)):Option Operand->Option Opnd->Bool
 | none,none=>true
 | some y,some o=>za1 ts y o
 | _,_=>false
theorem zqc {v m} (h:yf2 v=some m):∃ k,v=.int k m:=by cases v <;> cases h;exact ⟨_,rfl⟩
theorem zp9 (h:SR B x FV FC []) (ht:Tied B ts n x a) {lo hi:Option Operand} {ol oh:Option Opnd} (hl:zky ts lo ol=true) (hh:zky ts hi oh=true) {len cap:Nat} {l u:Int} (b:Bool)
 (h1:zqk x.st 0 ol=some l) (h2:zqk x.st len oh=some u) (h0:0<=l) (hlu:l<=u) (hun:u<=len) (hcap:len<=cap) (w:World):
 (Instr.sliceBounds b len cap (lo.map a.eval) (hi.map a.eval) none).run P w=.ok (l.toNat,u.toNat,cap) w:=by
 have hhi:∀ y oh',hi=some y->oh=some oh'->∃ k,a.eval y=.int k u:=by
  intro y oh' e1 e2
  subst e1 e2
  simp only [zqk] at h2
  cases hr:x.st.rd oh' with
  | none=>rw [hr] at h2;cases h2
  | some v=>
    rw [hr] at h2
    obtain ⟨k,rfl⟩:=zqc h2
    exact ⟨k,zb1 (zaq h ht hh hr)⟩
 have hlo:∀ y ol',lo=some y->ol=some ol'->∃ k,a.eval y=.int k l:=by
  intro y ol' e1 e2
  subst e1 e2
  simp only [zqk] at h1
  cases hr:x.st.rd ol' with
  | none=>rw [hr] at h1;cases h1
  | some v=>
    rw [hr] at h1
    obtain ⟨k,rfl⟩:=zqc h1
    exact ⟨k,zb1 (zaq h ht hl hr)⟩
 have hu0:0<=u:=by omega
 have huc:u<=cap:=by omega
 have hlu':l<=(u.toNat:Int):=by omega
 cases hi with
 | none=>
   cases oh with
   | some _=>cases hh
   | none=>
     simp only [zqk,Option.some.injEq] at h2
     subst h2
     cases lo with
     | none=>
       cases ol with
       | some _=>cases hl
       | none=>
         simp only [zqk,Option.some.injEq] at h1
         subst h1
         simp [Instr.sliceBounds]
     | some y=>
       cases ol with
       | none=>cases hl
       | some ol'=>
         obtain ⟨k,e⟩:=hlo y ol' rfl rfl
         simp [Instr.sliceBounds,e,Instr.sliceBound,asIntOf,h0,hlu]
 | some z=>
   cases oh with
   | none=>cases hh
   | some oh'=>
     obtain ⟨k2,e2⟩:=hhi z oh' rfl rfl
     cases lo with
     | none=>
       cases ol with
       | some _=>cases hl
       | none=>
         simp only [zqk,Option.some.injEq] at h1
         subst h1
         simp [Instr.sliceBounds,e2,Instr.sliceBound,asIntOf,hu0,huc]
     | some y=>
       cases ol with
       | none=>cases hl
       | some ol'=>
         obtain ⟨k,e⟩:=hlo y ol' rfl rfl
         simp only [Instr.sliceBounds,Option.map_some,Option.isSome_none,Sem.run_bind,e,e2,Instr.sliceBound,asIntOf,Sem.run_pure,Result.andThen_ok]
         rw [if_pos ⟨hu0,huc⟩]
         simp only [Sem.run_pure,Result.andThen_ok]
         rw [if_pos ⟨h0,hlu'⟩]
         simp
def zjt (e:Nat) (v:V) (l u:Nat):Option V:=
 match v with
 | .hd e' r c up lo _=>if e'=e then some (.hd e r c up (lo+l) (lo+u)) else none
 | .imm e' xs=>if e'=e then some (.imm e ((xs.take u).drop l)) else none
 | .own e' []=>if e'=e then some (.own e []) else none
 | _=>none
theorem ybm {v y:V} {u:Value} {e m:Nat} {l hh:Nat} (hL:x.LR1 u v []) (hm:ydq v=some m) (hs:zjt e v l hh=some y) (hlh:l<=hh) (hhm:hh<=m):
 ∃ ad cap,u=.slice ad m cap/\m<=cap/\x.LR1 (.slice (if cap=l then ad else ad.map (·.add (l * e))) (hh - l) (cap - l)) y []:=by
 cases v with
 | hd e' r c up lo hi=>
   cases hm
   simp only [zjt] at hs
   split at hs
   ·rename_i he
    cases hs
    subst he
    obtain ⟨_,xs,hget,hlo,hsame,ad0,q,cap,a2,cap2,h1,h2,hn,halt⟩:=hL
    have hcap2:hi - lo<=cap2:=by rcases halt with ⟨_,_,h0,_⟩|⟨_,_,_,_,_,_,_,_,h3⟩ <;> omega
    refine ⟨a2,cap2,h2,hcap2,rfl,xs,hget,by omega,?_,ad0,q,cap,if cap2=l then a2 else a2.map (·.add (l * e')),cap2 - l,h1,?_,by omega,?_⟩
    ·intro hl0 a' n' cap' hp hhi
     have hl:l=0:=by omega
     have hlo0:lo=0:=by omega
     rw [h1] at hp
     cases hp
     have hq:hi=q:=by omega
     have hu:=hsame hlo0 ad0 q cap h1 hq
     rw [<- hu,h2]
     subst hl
     have e1:(if cap2=0 then a2 else a2.map (·.add (0 * e')))=a2:=by
      split
      ·rfl
      ·cases a2 with
       | none=>rfl
       | some ad=>simp [Addr.add]
     rw [e1,Nat.sub_zero,Nat.sub_zero]
     congr 1;omega
    ·rw [show lo+hh - (lo+l)=hh - l by omega]
    ·rcases halt with ⟨rfl,rfl,h0,h3⟩|⟨ad,of,rfl,hsp,rfl,hqc,ho2,hroom,hcap⟩
     ·refine .inl ⟨rfl,?_,h0,by omega⟩
      split <;> rfl
     ·refine .inr ⟨ad,if cap2=l then of else of+l * e',rfl,hsp,?_,hqc,?_,?_,by omega⟩
      ·split
       ·rfl
       ·simp [zbh]
      ·by_cases h4:cap2=l
       ·exact .inl (by omega)
       ·rw [if_neg h4]
        rcases ho2 with h5|h5
        ·exact .inl (by omega)
        ·right;rw [h5,Nat.add_mul];omega
      ·have h6:(cap2 - l) * e'+l * e'=cap2 * e':=by rw [<- Nat.add_mul];congr 1;omega
       split
       ·have:cap2 - l=0:=by omega
        rw [this,Nat.zero_mul];omega
       ·omega
   ·cases hs
 | imm e' xs=>
   cases hm
   simp only [zjt] at hs
   split at hs
   ·rename_i he
    cases hs
    subst he
    have hV:VR x.w x.I u (.imm e' xs) []:=hL
    cases hV with
    | imm0 _ ad cap=>
      have h1:hh=0:=by simpa using hhm
      subst h1
      have h2:l=0:=by omega
      subst h2
      exact ⟨ad,cap,rfl,Nat.zero_le _,VR.imm0 _ _ _⟩
    | imm ad cap _ _ vs hsp hI hp hl hzz hc hf hr'=>
      refine ⟨some ad,cap,rfl,hl,?_⟩
      have hlen:((xs.take hh).drop l).length=hh - l:=by simp;omega
      by_cases h0:hh=l
      ·subst h0
       have:(xs.take hh).drop hh=[]:=by apply List.eq_nil_of_length_eq_zero;simp
       rw [this,Nat.sub_self]
       exact VR.imm0 _ _ _
      ·have hne:¬ cap=l:=by omega
       rw [if_neg hne,<- hlen]
       obtain ⟨b,of,sp⟩:=ad
       simp only at hsp
       subst hsp
       simp only [Option.map_some,zbh]
       refine VR.imm ⟨b,of+l * e',none⟩ (cap - l) _ e' (fun q=>vs (l * e'+q)) rfl hI hp (by rw [hlen];omega) (fun z hz=>hzz z (znr hz)) ?_ (fun z hz=>hf z (znr hz)) ?_
       ·intro q hq
        rw [hlen] at hq
        have h1:l * e'+(hh - l) * e'=hh * e':=by rw [<- Nat.add_mul];congr 1;omega
        have h2:hh * e'<=xs.length * e':=Nat.mul_le_mul_right _ hhm
        have:=hc (l * e'+q) (by omega)
        rw [<- this];simp [Nat.add_assoc]
       ·intro i j hi hj
        rw [hlen] at hi
        have h1:elt ((xs.take hh).drop l) i j=elt xs (l+i) j:=by unfold elt;rw [zup hhm hi]
        have h2:=hr' (l+i) j (by omega) hj
        rw [h1]
        have h3:(l+i) * e'+j=l * e'+(i * e'+j):=by rw [Nat.add_mul,Nat.add_assoc]
        rw [h3] at h2
        exact h2
   ·cases hs
 | own e' xs=>
   cases xs with
   | nil=>
     cases hm
     simp only [zjt] at hs
     split at hs
     ·rename_i he
      cases hs
      subst he
      have hV:VR x.w x.I u (.own e' []) []:=hL
      cases hV with
      | own0=>
        have h1:hh=0:=by omega
        subst h1
        have h2:l=0:=by omega
        subst h2
        exact ⟨none,0,rfl,Nat.le_refl _,VR.own0 _⟩
     ·cases hs
   | cons y ys=>cases hm
 | _=>cases hm
theorem ycs (h:SR B x FV FC []) (ht:Tied B ts n x a) {o:Oper} {t y oy lo hi ol oh} {el:TypeId} {e:Nat} (ho:o.op=.slice t y lo hi none) (hy:za1 ts y oy=true) (hl:zky ts lo ol=true) (hh:zky ts hi oh=true)
 (hu:P.underlying t=some (.slice el)) (he:zcn P el=some e) {v z:V} {m:Nat} {l u:Int} (hr:x.st.rd oy=some v) (hm:ydq v=some m) (h1:zqk x.st 0 ol=some l) (h2:zqk x.st m oh=some u)
 (h0:0<=l) (hlu:l<=u) (hun:u<=m) (hs:zjt e v l.toNat u.toNat=some z):zc6 P o a x.w (Out B n ts a x.st z):=by
 obtain ⟨ad,cap,e1,hcap,hL⟩:=ybm (zag (zaq h ht hy hr) (zq5 hm)) hm hs (by omega) (by omega)
 refine za9 (val:=_) (w':=x.w) ?_ (Out.simple h ht (Pend.leaf hL))
 have hb:=zp9 (P:=P) h ht hl hh (cap:=cap) true h1 h2 h0 hlu hun hcap x.w
 simp only [execOp,ho,Option.map_none,Instr.sliceAt,Sem.run_bind,run_underlying hu,Result.andThen_ok,Instr.slice,e1,hb,zb7 he,Sem.run_pure]
theorem zxy (h:SR B x FV FC []) (ht:Tied B ts n x a) {o:Oper} {t y oy lo hi ol oh} (ho:o.op=.slice t y lo hi none) (hy:za1 ts y oy=true) (hl:zky ts lo ol=true) (hh:zky ts hi oh=true)
 (hu:P.underlying t=some .string) {s:ByteArray} {l u:Int} (hr:x.st.rd oy=some (.str s)) (h1:zqk x.st 0 ol=some l) (h2:zqk x.st s.size oh=some u)
 (h0:0<=l) (hlu:l<=u) (hun:u<=s.size):zc6 P o a x.w (Out B n ts a x.st (.str (s.extract l.toNat u.toNat))):=by
 have e1:=zf4 (zaq h ht hy hr)
 refine za9 (val:=.string (s.extract l.toNat u.toNat)) (w':=x.w) ?_ (Out.simple h ht znk)
 have hb:=zp9 (P:=P) h ht hl hh (cap:=s.size) false h1 h2 h0 hlu hun (Nat.le_refl _) x.w
 simp [execOp,ho,Instr.sliceAt,run_underlying hu,Instr.slice,e1,hb]
end Go.Pm
namespace Go.Pm
variable {P:Program} {B:Base} {x:Cx} {FV FC:Nat->Nat->List Nat} {FX:List Nat} {a:Act} {ts:List (Option Nat)} {n:Nat}
theorem VR.any {w I v y F} (h:VR w I v y F):VR w (fun _=>True) v y F:=h.keep (fun _ _=>trivial) (fun _ _=>rfl) (fun _ _=>rfl)
theorem yd7 (h:SR B x FV FC FX) {val v e ys} (hL:x.LR1 val v []) (he:x.st.elems e v=some ys):
 ∃ ad cap,val=.slice ad ys.length cap/\((ys=[])\/∃ b of,ad=some ⟨b,of,none⟩/\0<e/\(∀ y∈ys,y.cells.length=e)/\(∀ y∈ys,y.okE=true)/\
   ∃ (us:Nat->Value) (Fs:Nat->List Nat),(∀ q,q<ys.length * e->x.w.cell? ⟨b,of+q,none⟩=some (us q))/\(∀ i j,i<ys.length->j<e->VR x.w (fun _=>True) (us (i * e+j)) (elt ys i j) (Fs (i * e+j)))):=by
 cases v with
 | hd e' r c up lo hi=>
   simp only [St.elems] at he
   split at he
   ·rename_i e0 xs hget
    split at he
    ·rename_i hh
     cases he
     obtain ⟨rfl,hh2⟩:=hh
     have hh:True/\hi<=xs.length:=⟨trivial,hh2⟩
     have hsub:=zuv (x0:=x) (I:=x.I) (Gho.refl x.st) hL hget
     obtain ⟨_,xs',h1,_⟩:=hL
     rw [hget] at h1
     cases h1
     obtain ⟨os,hos,hlt,hown⟩:=zba hget
     obtain ⟨F,hL',_⟩:=h.at r up os hos c hlt
     rw [hown] at hL'
     obtain ⟨G,hVG,_⟩:=zox (show VR x.w x.I (x.place r up c) (.own e' xs) F from hL') hsub hh.2
     generalize (xs.take hi).drop lo=ys at hVG
     cases hVG with
     | own0=>exact ⟨none,0,rfl,.inl rfl⟩
     | own ad cap _ _ vs Fs hs hp hz hl hb hc hf hr=>
       obtain ⟨b,of,sp⟩:=ad
       simp only at hs
       subst hs
       exact ⟨_,cap,rfl,.inr ⟨b,of,rfl,hp,hz,hf,vs,Fs,hc,fun i j hi hj=>(hr i j hi hj).any⟩⟩
    ·cases he
   ·cases he
 | imm e' xs=>
   simp only [St.elems] at he
   split at he
   ·rename_i hee
    cases he
    subst hee
    have hV:VR x.w x.I val (.imm e' ys) []:=hL
    cases hV with
    | imm0 _ ad cap=>exact ⟨ad,cap,rfl,.inl rfl⟩
    | imm ad cap _ _ vs hs hI hp hl hz hc hf hr=>
      obtain ⟨b,of,sp⟩:=ad
      simp only at hs
      subst hs
      exact ⟨_,cap,rfl,.inr ⟨b,of,rfl,hp,hz,hf,vs,fun _=>[],hc,fun i j hi hj=>(hr i j hi hj).any⟩⟩
   ·cases he
 | own e' xs=>
   cases xs with
   | nil=>
     cases he
     have hV:VR x.w x.I val (.own e' []) []:=hL
     cases hV
     exact ⟨none,0,rfl,.inl rfl⟩
   | cons y ys=>cases he
 | _=>cases he
theorem zi0:∀ {ys:List V} {bs:List UInt8},zg6 ys=some bs->bs.length=ys.length/\∀ i,i<ys.length->∃ m,ys.getD i .gone=.int .u8 m/\bs.getD i 0=UInt8.ofNat m.toNat
 | [],bs,h=>by cases h;exact ⟨rfl,fun i hi=>by simp at hi⟩
 | y::ys,bs,h=>by
   simp only [zg6] at h
   split at h
   ·rename_i b hb
    simp only [Option.map_eq_some_iff] at h
    obtain ⟨bs',h1,rfl⟩:=h
    obtain ⟨h2,h3⟩:=zi0 h1
    refine ⟨by simp [h2],fun i hi=> ?_⟩
    cases i with
    | zero=>
      cases y with
      | int k m=>cases k <;> simp only [yet] at hb <;> first|(cases hb;done)|(cases hb;exact ⟨m,rfl,rfl⟩)
      | _=>cases hb
    | succ i=>simpa using h3 i (by simpa using hi)
   ·cases h
theorem zvs (ns:List Int) (s:ByteArray):ns.foldl (fun r n=>r.push (UInt8.ofNat n.toNat)) s=⟨(s.data.toList++ns.map fun n=>UInt8.ofNat n.toNat).toArray⟩:=by
 induction ns generalizing s with
 | nil=>simp
 | cons n ns ih=>rw [List.foldl_cons,ih];simp [ByteArray.push]
theorem ycy (h:SR B x FV FC []) (ht:Tied B ts n x a) {o:Oper} {s d el y oy} (ho:o.op=.convert s d y) (hy:za1 ts y oy=true) (hs:P.underlying s=some (.slice el)) (he:P.underlying el=some (.int .u8)) (hd:P.underlying d=some .string)
 {v ys bs} (hr:x.st.rd oy=some v) (hv:v.leaf=true) (hys:x.st.elems 1 v=some ys) (hbs:zg6 ys=some bs):zc6 P o a x.w (Out B n ts a x.st (.str ⟨bs.toArray⟩)):=by
 obtain ⟨ad,cap,e1,halt⟩:=yd7 h (zag (zaq h ht hy hr) hv) hys
 refine za9 (val:=.string ⟨bs.toArray⟩) (w':=x.w) ?_ (Out.simple h ht znk)
 obtain ⟨hlen,hget⟩:=zi0 hbs
 simp only [execOp,ho,e1,Sem.run_bind,run_convert_bytes_string x.w s d el ad ys.length cap hs he hd]
 cases ad with
 | none=>
   have:ys=[]:=by
    rcases halt with h|⟨_,_,h,_⟩
    ·exact h
    ·cases h
   subst this
   have:bs=[]:=by cases hbs;rfl
   subst this
   simp [Conv.bytesToString];rfl
 | some ad=>
   have hload:(loadCells ad ys.length).run P x.w=.ok ((bs.map fun b=>(b.toNat:Int)).map (Value.int .u8)).toArray x.w\/∃ ns:List Int,(loadCells ad ys.length).run P x.w=.ok (ns.map (Value.int .u8)).toArray x.w/\ns.map (fun n=>UInt8.ofNat n.toNat)=bs:=by
    right
    rcases halt with h0|⟨b,of,h1,hp,hz,hf,us,Fs,hc,hr'⟩
    ·subst h0
     have:bs=[]:=by cases hbs;rfl
     subst this
     exact ⟨[],by simp [loadCells,loadCellsFrom],rfl⟩
    ·cases h1
     have hcell:∀ j,j<ys.length->∃ m:Int,us j=.int .u8 m/\bs.getD j 0=UInt8.ofNat m.toNat:=by
      intro j hj
      obtain ⟨m,h2,h3⟩:=hget j hj
      have h4:=hr' j 0 hj (by omega)
      have h5:elt ys j 0=.int .u8 m:=by unfold elt;rw [h2];rfl
      rw [h5] at h4
      simp only [Nat.mul_one,Nat.add_zero] at h4
      generalize us j=q at h4
      generalize Fs j=F at h4
      cases h4
      exact ⟨m,rfl,h3⟩
     have hall:∃ f:Nat->Int,∀ j,j<ys.length->us j=.int .u8 (f j)/\bs.getD j 0=UInt8.ofNat (f j).toNat:=
      ⟨fun j=>match us j with | .int _ m=>m|_=>0,fun j hj=>by obtain ⟨m,h1,h2⟩:=hcell j hj;simp only [h1];exact ⟨trivial,h2⟩⟩
     obtain ⟨f,hf'⟩:=hall
     refine ⟨(List.range ys.length).map f,?_,?_⟩
     ·rw [run_loadCells (P:=P) x.w ⟨b,of,none⟩ ys.length us (fun j hj=>by rw [zbh];exact hc j (by omega))]
      congr 2
      rw [List.map_map]
      exact List.map_congr_left fun j hj=>(hf' j (List.mem_range.1 hj)).1
     ·apply List.ext_getElem
      ·simp [hlen]
      ·intro i h1 h2
       simp only [List.length_map,List.length_range] at h1
       simp only [List.getElem_map,List.getElem_range]
       have:=(hf' i h1).2
       rw [za3 h2] at this
       exact this.symm
   have:∃ ns:List Int,(loadCells ad ys.length).run P x.w=.ok (ns.map (Value.int .u8)).toArray x.w/\ns.map (fun n=>UInt8.ofNat n.toNat)=bs:=by
    rcases hload with h1|h1
    ·refine ⟨_,h1,?_⟩
     rw [List.map_map]
     conv=>rhs;rw [<- List.map_id bs]
     exact List.map_congr_left fun b _=>by simp
    ·exact h1
   obtain ⟨ns,h1,h2⟩:=this
   rw [run_bytesToString x.w ad ys.length cap ns h1]
   simp only [Result.andThen_ok,Sem.run_pure,zvs]
   rw [h2]
   rfl
def zcb (ts:List (Option Nat)):List Operand->List Opnd->Bool
 | [],[]=>true
 | y::ys,o::os=>za1 ts y o&&zcb ts ys os
 | _,_=>false
theorem zk3 (h:SR B x FV FC FX) (ht:Tied B ts n x a):∀ {ys:List Operand} {os:List Opnd} {vs:List V},zcb ts ys os=true->x.st.rds os=some vs->
 vs.length=ys.length/\∀ i,i<ys.length->Pend x ((ys.map a.eval).getD i undef) (vs.getD i .gone) fun _=>[]
 | [],[],vs,_,hr=>by cases hr;exact ⟨rfl,fun i hi=>by simp at hi⟩
 | y::ys,o::os,vs,hy,hr=>by
   simp only [zcb,Bool.and_eq_true] at hy
   simp only [St.rds] at hr
   split at hr
   ·rename_i v hv
    simp only [Option.map_eq_some_iff] at hr
    obtain ⟨vs',h1,rfl⟩:=hr
    obtain ⟨h2,h3⟩:=zk3 h ht hy.2 h1
    refine ⟨by simp [h2],fun i hi=> ?_⟩
    cases i with
    | zero=>exact zaq h ht hy.1 hv
    | succ i=>simpa using h3 i (by simpa using hi)
   ·cases hr
 | [],_::_,_,h,_=>by cases h
 | _::_,[],_,h,_=>by cases h
theorem ygn (h:SR B x FV FC []) (ht:Tied B ts n x a) {o:Oper} {f:FuncId} {first caps:Array Operand} {os:List Opnd} (ho:o.op=.makeFunc (.func f) first caps) (h0:first.toList=[]) (hc:zcb ts caps.toList os=true)
 {vs:List V} (hr:x.st.rds os=some vs):zc6 P o a x.w (Out B n ts a x.st (.fn f vs)):=by
 obtain ⟨h1,h2⟩:=zk3 h ht hc hr
 have hfirst:first= #[]:=by simpa using h0
 subst hfirst
 refine za9 (val:=.func (.func f) #[] (caps.map a.eval)) (w':=x.w) (by simp [execOp,ho,Instr.makeFunc]) (Out.simple h ht (Pend.leaf ⟨rfl,caps.map a.eval,rfl,by simp [h1],fun i k hi hv=> ?_⟩))
 have:=h2 i (by omega)
 rw [hv] at this
 obtain ⟨_,k',cs,e1,e2,e3⟩:=zag this rfl
 cases e1
 refine ⟨⟨cs,e2⟩,?_⟩
 rw [<- e3]
 simp [List.getD,Array.getD_eq_getD_getElem?]
end Go.Pm
