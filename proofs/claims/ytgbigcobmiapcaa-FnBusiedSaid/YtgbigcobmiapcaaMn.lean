/- Proved: the law FnBusied answers true at all arguments, for every operating system that has started; no conditions beyond the row's own. -/
import Derived.Test.YtgbigcobmiapcaaMm
import Derived.Shelf.Slices.Delete
import Derived.Deep.MidRow
set_option linter.unusedVariables false
set_option linter.unusedSimpArgs false
namespace Go.Pm
open Go.Proofs Go.Shelf Go.RowKit Go.Lib Go.Sort
variable {P:Program} {ρ:Ren}
theorem zjg (w:World) (t e ty:TypeId) (z:Value) (zs:List Value) (b o n c:Nat) (ht:P.underlying t=some (.slice e)) (hv:∀ w,(zeroValue e).run P w=.ok z w) (hz:(Builtin.zeroCells z.cells n).toList=zs) (h1:∀ v∈zs,v.oneCell'=true) (hn:0<n)
 (hc:∀ j,j<zs.length->(w.cell? ⟨b,o+j,none⟩).isSome=true) (hf:∀ j,j<zs.length->w.frozen? ⟨b,o+j,none⟩=false):
 (Builtin.clear_ #[t] ty #[.slice (some ⟨b,o,none⟩) n c]).run P w=.ok (.tuple #[]) (w.setCells b o zs):=by
 have hst:=run_storeCells_cells (P:=P) b o zs 0 w (by simpa using hc) (by simpa using hf) h1
 simp only [Nat.add_zero] at hst
 obtain ⟨m,rfl⟩:∃ m,n=m+1:=⟨n - 1,by omega⟩
 simp [Builtin.clear_,run_underlying ht,hv,hz,hst]
set_option maxHeartbeats 4000000 in
set_option maxRecDepth 1000000 in
theorem ztp {f:FuncId} {nm og:String} {tg ps rt:Array TypeId} {tn:Array String} {E:TypeId} {e:Nat} {i0:TypeInfo} {z:Value}
 (hfn:P.funcs[f]? =some { Body2.n23 ρ with name:=nm,origin:=og,targs:=tg,params:=ps,resultTypes:=rt,tmpNames:=tn })
 (mixed:P.follows .mixedOrders=true)
 (t22:P.underlying (ρ.t 22)=some (TypeDesc.slice E))
 (iE:P.info? E=some i0) (hz1:i0.size=e) (zE:∀ w,(Go.sizeOf E).run P w=.ok e w) (vE:∀ w,(zeroValue E).run P w=.ok z w) (hzz:z.cells.size=e) (hz1c:∀ n,∀ v∈(Builtin.zeroCells z.cells n).toList,v.oneCell'=true)
 (blk off cap i j len:Nat) (d:List Value) (w:World) (hd:d.length=len * e) (he:0<e) (hc:∀ q u,d[q]? =some u->w.cell? ⟨blk,off+q,none⟩=some u) (hfr:∀ q,q<len * e->w.frozen? ⟨blk,off+q,none⟩=false) (h1:∀ u∈d,u.oneCell'=true)
 (hcap:len<=cap) (hij:i<j) (hj:j<=len):
 Calls P f #[.slice (some ⟨blk,off,none⟩) len cap,.int .i64 i,.int .i64 j] w fun r w'=>r=.returned (.slice (some ⟨blk,off,none⟩) (len - (j - i)) cap)/\∃ zs:List Value,zs.length=(j - i) * e/\w'=(w.drew.setCells blk (off+i * e) (d.drop (j * e))).setCells blk (off+(len - (j - i)) * e) zs:=by
 obtain ⟨news,hnews⟩:∃ news,news=d.drop (j * e):=⟨_,rfl⟩
 have hlen:news.length=(len - j) * e:=by rw [hnews,List.length_drop,hd,Nat.sub_mul]
 have hget:∀ t u,news[t]? =some u->d[j * e+t]? =some u:=by
  intro t u hu
  rw [hnews,List.getElem?_drop] at hu
  exact hu
 have hje:j * e<=len * e:=Nat.mul_le_mul_right e hj
 have hie:i * e+e<=j * e:=by rw [<- Nat.succ_mul];exact Nat.mul_le_mul_right e hij
 have hsub:(len - j) * e=len * e - j * e:=Nat.sub_mul _ _ _
 have hsub2:(len - (j - i)) * e=len * e - (j - i) * e:=Nat.sub_mul _ _ _
 have hsub3:(j - i) * e=j * e - i * e:=Nat.sub_mul _ _ _
 obtain ⟨A,hA,hsrc⟩:∃ A:Addr,(if cap=j then some (⟨blk,off,none⟩:Addr) else some ⟨blk,off+j * e,none⟩)=some A/\Hid (∀ t u,news[t]? =some u->w.drew.cell? (A.add t)=some u):=by
  by_cases h:cap=j
  ·refine ⟨⟨blk,off,none⟩,by simp [h],fun t u hu=> ?_⟩
   have h0:news.length=0:=by rw [hlen,show len - j=0 by omega];simp
   rw [List.length_eq_zero_iff.1 h0] at hu
   simp at hu
  ·refine ⟨⟨blk,off+j * e,none⟩,by simp [h],fun t u hu=> ?_⟩
   rw [Addr.add_lit,show off+j * e+t=off+(j * e+t) by omega]
   exact hc _ _ (hget t u hu)
 have cellw:∀ q,q<len * e->(w.cell? ⟨blk,off+q,none⟩).isSome=true:=by
  intro q hq
  obtain ⟨u,hu⟩:∃ u,d[q]? =some u:=⟨_,List.getElem?_eq_getElem (by omega)⟩
  rw [hc q u hu];rfl
 have s1:Hid (news.length=(len - j) * e):=hlen
 have s2:Hid (∀ u∈news,u.oneCell'=true):=by
  intro u hu
  rw [hnews] at hu
  exact h1 u (List.mem_of_mem_drop hu)
 have s3:Hid (∀ t,t<news.length->(w.drew.cell? ⟨blk,off+i * e+t,none⟩).isSome=true/\w.drew.frozen? ⟨blk,off+i * e+t,none⟩=false):=by
  intro t ht
  rw [hlen] at ht
  rw [Nat.add_assoc]
  exact ⟨cellw (i * e+t) (by omega),hfr (i * e+t) (by omega)⟩
 obtain ⟨W1,hW1⟩:∃ W1,W1=w.drew.setCells blk (off+i * e) news:=⟨_,rfl⟩
 obtain ⟨zs,hzs⟩:∃ zs,zs=(Builtin.zeroCells z.cells (j - i)).toList:=⟨_,rfl⟩
 have hzl:zs.length=(j - i) * e:=by rw [hzs];simp [Builtin.zeroCells,hzz]
 have hk:i+(len - j)=len - (j - i):=by omega
 have hcw1:∀ q,q<len * e->(W1.cell? ⟨blk,off+q,none⟩).isSome=true:=by
  intro q hq
  rw [hW1]
  exact World.isSome_setCells blk _ _ _ _ (cellw q hq)
 have hfw1:∀ q,q<len * e->W1.frozen? ⟨blk,off+q,none⟩=false:=by
  intro q hq
  rw [hW1,World.frozen?_setCells]
  exact hfr q hq
 have hcl:∀ ty,(Builtin.clear_ #[ρ.t 22] ty #[.slice (some ⟨blk,off+(i+(len - j)) * e,none⟩) (len - (i+(len - j))) (cap - (i+(len - j)))]).run P W1=.ok (.tuple #[]) (W1.setCells blk (off+(i+(len - j)) * e) zs):=by
  intro ty
  refine zjg W1 _ _ ty _ zs blk _ _ _ t22 vE (by rw [hzs,show len - (i+(len - j))=j - i by omega]) (by rw [hzs];exact hz1c _) (by omega) (fun t ht=> ?_) (fun t ht=> ?_)
  ·rw [Nat.add_assoc];exact hcw1 _ (by rw [hk];omega)
  ·rw [Nat.add_assoc];exact hfw1 _ (by rw [hk];omega)
 have hW:Hid (W1=w.drew.setCells blk (off+i * e) news):=hW1
 have hic:i<=cap:=by omega
 have hjc:j<=cap:=by omega
 have heq:i≠j:=by omega
 have X:Aside (zs.length=(j - i) * e/\W1.setCells blk (off+(i+(len - j)) * e) zs=(w.drew.setCells blk (off+i * e) (d.drop (j * e))).setCells blk (off+(len - (j - i)) * e) zs):=⟨hzl,by rw [hW1,hnews,hk]⟩
 clear hW1 hcw1 hfw1 hget hnews hlen hzs hz1c cellw hfr hc h1 hd hsub2 hsub3 hsub hie hje hzl hk
 go_enter hfn,Body2.n23_ntmps ρ
 go_wp2_with fail
 go_region_law_o (refine step_append_room rfl (.tmp 22) (.tmp 25) (ρ.t 22) rfl E i0 e t22 iE hz1 blk off i cap (by simp [Act.eval,Act.put]) A (len - j) (cap - j) news (by simp [Act.eval,Act.put]) s1.out hsrc.out s2.out (by omega) s3.out ?_;rw [<- hW.out])
 go_wp2
 go_ret
 refine ⟨by rw [show len - (j - i)=i+(len - j) by omega];rfl,zs,X.out⟩
def zfx (e:Nat):List V->Option V
 | [.own e' xs,.int .i64 i,.int .i64 j]=>if e'=e/\0<=i/\i<j/\j<=xs.length then some (.own e (xs.take i.toNat++xs.drop j.toNat)) else none
 | _=>none
theorem zv0 (F:Nat->List Nat) (a k:Nat) (b:Nat):∀ m,tot (a+m) (fun q=>F (if q<a then q else q+k)) b+tot (a+k) F b=tot a F b+tot (a+k+m) F b
 | 0=>by
   rw [Nat.add_zero,Nat.add_zero,zaa (G:=F) b fun i hi=>by simp only [if_pos hi]]
 | m+1=>by
   have:=zv0 F a k b m
   rw [show a+(m+1)=(a+m)+1 by omega,show a+k+(m+1)=(a+k+m)+1 by omega,zak,zak,if_neg (by omega),show a+m+k=a+k+m by omega]
   omega
theorem zef (b:Nat):∀ (vs:List Value) (o:Nat) (w:World) (k:Nat),k≠b->(w.setCells b o vs).heap[k]? =w.heap[k]?
 | [],_,_,_,_=>rfl
 | v::r,o,w,k,h=>by
   show ((w.setCell ⟨b,o,none⟩ v).setCells b (o+1) r).heap[k]? =_
   rw [zef b r _ _ k h,zb2 _ _ _ _ h]
theorem zeg (b:Nat) {m:Nat}:∀ (vs:List Value) (o:Nat) (w:World),Rows w b m->Rows (w.setCells b o vs) b m
 | [],_,_,h=>h
 | v::r,o,w,h=>zeg b r (o+1) _ (zco h)
theorem ze3 (b:Nat):∀ (vs:List Value) (o:Nat) (w:World),(w.setCells b o vs).heap.size=w.heap.size
 | [],_,_=>rfl
 | v::r,o,w=>by
   show ((w.setCell ⟨b,o,none⟩ v).setCells b (o+1) r).heap.size=_
   rw [ze3 b r];simp [World.setCell]
theorem ze4 (b:Nat):∀ (vs:List Value) (o:Nat) (w:World),Grow w (w.setCells b o vs)
 | [],_,w=>.refl w
 | v::r,o,w=>Grow.trans (w1:=w.setCell ⟨b,o,none⟩ v) ⟨by simp [World.setCell],rfl,rfl,rfl⟩ (ze4 b r (o+1) _)
def yk3 (P:Program) (f:FuncId) (e:Nat):Prop:=∀ (blk off cap i j len:Nat) (d:List Value) (w:World),d.length=len * e->0<e->(∀ q u,d[q]? =some u->w.cell? ⟨blk,off+q,none⟩=some u)->(∀ q,q<len * e->w.frozen? ⟨blk,off+q,none⟩=false)->(∀ u∈d,u.oneCell'=true)->
    len<=cap->i<j->j<=len->
    Calls P f #[.slice (some ⟨blk,off,none⟩) len cap,.int .i64 i,.int .i64 j] w fun r w'=>r=.returned (.slice (some ⟨blk,off,none⟩) (len - (j - i)) cap)/\∃ zs:List Value,zs.length=(j - i) * e/\w'=(w.drew.setCells blk (off+i * e) (d.drop (j * e))).setCells blk (off+(len - (j - i)) * e) zs
theorem zwp {f:FuncId} {e:Nat} (hf:zwc P f=true) (hD:yk3 P f e):PrimOk P f (zfx e):=by
 refine ⟨hf,fun args r hp w O I vals φ GA GB hsz hsr=> ?_⟩
 unfold zfx at hp
 split at hp
 rotate_left
 ·cases hp
 rename_i e' xs i j
 split at hp
 rotate_left
 ·cases hp
 rename_i hc
 obtain ⟨rfl,hi0,hij,hjl⟩:=hc
 cases hp
 obtain ⟨i,rfl⟩:=Int.eq_ofNat_of_zero_le hi0
 obtain ⟨j,rfl⟩:=Int.eq_ofNat_of_zero_le (show 0<=j by omega)
 have hij':i<j:=by omega
 have hjl':j<=xs.length:=by omega
 have L0:=hsr.vars 0 (by simp) 0 (by simp [V.cells])
 have L1:=hsr.vars 1 (by simp) 0 (by simp [V.cells])
 have L2:=hsr.vars 2 (by simp) 0 (by simp [V.cells])
 simp only [List.getD_cons_zero,List.getD_cons_succ,V.cells,Cx.rv,zac] at L0 L1 L2
 have V0:VR w I (vals.getD 0 undef) (.own e' xs) (GA 0 0):=L0
 have V1:VR w I (vals.getD 1 undef) (.int .i64 i) (GA 1 0):=L1
 have V2:VR w I (vals.getD 2 undef) (.int .i64 j) (GA 2 0):=L2
 have hone:∀ b,zar ⟨[.own e' xs,.int .i64 (i:Int),.int .i64 (j:Int)],[]⟩ φ GA GB [] b<=1:=hsr.one
 have hapart:∀ b,I b->zar ⟨[.own e' xs,.int .i64 (i:Int),.int .i64 (j:Int)],[]⟩ φ GA GB [] b=0:=hsr.apart
 have hheld:∀ b,0<zar ⟨[.own e' xs,.int .i64 (i:Int),.int .i64 (j:Int)],[]⟩ φ GA GB [] b->O b\/w.heap.size<=b:=hsr.held
 have E:∀ b,(GA 0 0).count b<=zar ⟨[.own e' xs,.int .i64 i,.int .i64 j],[]⟩ φ GA GB [] b:=by
  intro b
  have h0:=zat (n:=3) (i:=0) (by omega) (fun q=>cat (([V.own e' xs,.int .i64 i,.int .i64 j]:List V).getD q .gone).cells.length (GA q)) b
  have e0:cat (([V.own e' xs,.int .i64 i,.int .i64 j]:List V).getD 0 .gone).cells.length (GA 0)=GA 0 0:=by simp [cat,V.cells]
  simp only [e0] at h0
  unfold zar
  exact Nat.le_trans h0 (Nat.le_trans (Nat.le_add_right _ _) (Nat.le_add_right _ _))
 have ev:vals= #[vals.getD 0 undef,vals.getD 1 undef,vals.getD 2 undef]:=by
  have h3:vals.size=3:=by simpa using hsz
  apply Array.ext (by simpa using h3)
  intro q h1 h2
  have hq:q=0\/q=1\/q=2:=by omega
  rcases hq with rfl|rfl|rfl <;> simp [Array.getD_eq_getD_getElem?,h1]
 generalize vals.getD 0 undef=v0 at V0 ev
 generalize vals.getD 1 undef=v1 at V1 ev
 generalize vals.getD 2 undef=v2 at V2 ev
 generalize GA 0 0=F0 at V0 E
 generalize GA 1 0=F1 at V1
 generalize GA 2 0=F2 at V2
 subst ev
 cases V1
 cases V2
 cases V0 with
 | own0=>simp at hjl';omega
 | own a cap _ _ us Fs hs he hz hl hb hcell hfe hr=>
   obtain ⟨blk,off,spot⟩:=a
   simp only at hs hb hcell
   subst hs
   have hk:j * e' - i * e'=(j - i) * e':=(Nat.sub_mul _ _ _).symm
   have hji:i * e'+e'<=j * e':=by rw [<- Nat.succ_mul];exact Nat.mul_le_mul_right e' hij'
   have hjx:j * e'<=xs.length * e':=Nat.mul_le_mul_right e' hjl'
   have hlk:(xs.length - (j - i)) * e'=xs.length * e' - (j - i) * e':=Nat.sub_mul _ _ _
   have hcapk:xs.length * e'<=cap * e':=Nat.mul_le_mul_right e' hl
   obtain ⟨d,hd⟩:∃ d,d=(List.range (xs.length * e')).map us:=⟨_,rfl⟩
   have hdl:d.length=xs.length * e':=by rw [hd];simp
   have hdg:∀ q u,d[q]? =some u->q<xs.length * e'/\u=us q:=by
    intro q u hu
    rw [hd] at hu
    simp only [List.getElem?_map,Option.map_eq_some_iff] at hu
    obtain ⟨q',h1,rfl⟩:=hu
    obtain ⟨h2,h3⟩:=List.getElem?_eq_some_iff.1 h1
    simp only [List.getElem_range] at h3
    subst h3
    exact ⟨by simpa using h2,rfl⟩
   have hdrop:∀ q,q<xs.length * e' - j * e'->(d.drop (j * e'))[q]? =some (us (j * e'+q)):=by
    intro q hq
    rw [List.getElem?_drop,hd,List.getElem?_map,List.getElem?_range (by omega)]
    rfl
   have hsplit:∀ q,q<xs.length * e'->q / e'<xs.length/\q % e'<e'/\q / e' * e'+q % e'=q:=by
    intro q hq
    exact ⟨(Nat.div_lt_iff_lt_mul he).2 hq,Nat.mod_lt _ he,by rw [Nat.mul_comm];exact Nat.div_add_mod q e'⟩
   have hone1:∀ u∈d,u.oneCell'=true:=by
    intro u hu
    rw [hd] at hu
    obtain ⟨q,hq,rfl⟩:=List.mem_map.1 hu
    obtain ⟨q1,q2,q3⟩:=hsplit q (by simpa using hq)
    have:=zhn (hr _ _ q1 q2) (zeb hfe hz q1 q2)
    rwa [q3] at this
   have call:=hD blk off cap i j xs.length d w hdl he (fun q u hu=>by obtain ⟨h1,rfl⟩:=hdg q u hu;exact hcell q h1)
    (fun q hq=>ze9 hb (hcell q hq)) hone1 hl hij' hjl'
   refine Calls.mono call fun r w' hh=> ?_
   obtain ⟨rfl,zs,hzl,hw'⟩:=hh
   have wheap:∀ k,k≠blk->w'.heap[k]? =w.heap[k]? :=fun k hk'=>by rw [hw',zef _ _ _ _ _ hk',zef _ _ _ _ _ hk'];rfl
   have wrows:Rows w' blk (off+cap * e'):=by rw [hw'];exact zeg _ _ _ _ (zeg _ _ _ _ hb)
   have wsize:w'.heap.size=w.heap.size:=by rw [hw',ze3,ze3];rfl
   have wgrow:Grow w w':=by rw [hw'];exact Grow.trans (w1:=w.drew) ⟨Nat.le_refl _,rfl,rfl,rfl⟩ (Grow.trans (ze4 _ _ _ _) (ze4 _ _ _ _))
   have wcell:∀ q,q<(xs.length - (j - i)) * e'->w'.cell? ⟨blk,off+q,none⟩=some (us (if q<i * e' then q else q+(j - i) * e')):=by
    intro q hq
    rw [hw',World.cell?_setCells_out _ _ _ _ _ (fun _ _=>.inl (by show off+q<_;omega))]
    by_cases hqi:q<i * e'
    ·rw [if_pos hqi,World.cell?_setCells_out _ _ _ _ _ (fun _ _=>.inl (by show off+q<_;omega))]
     exact hcell q (by omega)
    ·rw [if_neg hqi]
     have hlen:(d.drop (j * e')).length=xs.length * e' - j * e':=by rw [List.length_drop,hdl]
     have hin:=World.cell?_setCells_in blk (d.drop (j * e')) (off+i * e') w.drew (fun t ht=>by
      rw [Nat.add_assoc]
      have:=hcell (i * e'+t) (by omega)
      show (w.cell? _).isSome=true
      rw [this];rfl) (q - i * e') (by omega)
     rw [show off+i * e'+(q - i * e')=off+q by omega] at hin
     rw [hin]
     have:=hdrop (q - i * e') (by omega)
     rw [List.getElem?_eq_getElem (by omega)] at this
     rw [this,show j * e'+(q - i * e')=q+(j - i) * e' by omega]
   have hblk0:¬ I blk:=fun hI=>by
    have h1:=hapart blk hI
    have h2:=E blk
    rw [List.count_cons_self] at h2
    omega
   have hnb:∀ q,q<xs.length * e'->blk ∉ Fs q:=by
    intro q hq hm
    have h1:=hone blk
    have h2:=E blk
    rw [List.count_cons_self,za2] at h2
    have h3:=zat hq Fs blk
    have h4:=List.count_pos_iff.2 hm
    omega
   have hcount:∀ b,(blk::cat ((xs.length - (j - i)) * e') fun q=>Fs (if q<i * e' then q else q+(j - i) * e')).count b<=(blk::cat (xs.length * e') Fs).count b:=by
    intro b
    rw [List.count_cons,List.count_cons,za2,za2]
    have h1:=zv0 Fs (i * e') ((j - i) * e') b (xs.length * e' - j * e')
    rw [show i * e'+(xs.length * e' - j * e')=(xs.length - (j - i)) * e' by omega,show i * e'+(j - i) * e'+(xs.length * e' - j * e')=xs.length * e' by omega] at h1
    have h2:=zct (show i * e'<=i * e'+(j - i) * e' by omega) Fs b
    omega
   have hlen':(xs.take i++xs.drop j).length=xs.length - (j - i):=by simp;omega
   have hmem:∀ y∈xs.take i++xs.drop j,y∈xs:=by
    intro y hy
    rcases List.mem_append.1 hy with h|h
    ·exact List.mem_of_mem_take h
    ·exact List.mem_of_mem_drop h
   have helt:∀ p c,p<xs.length - (j - i)->elt (xs.take i++xs.drop j) p c=elt xs (if p<i then p else p+(j - i)) c:=by
    intro p c hp
    rw [zhd]
    have hti:(xs.take i).length=i:=by simp;omega
    rw [hti]
    by_cases h:p<i
    ·rw [if_pos h,if_pos h]
     simp only [elt,List.getD,List.getElem?_take,if_pos h]
    ·rw [if_neg h,if_neg h]
     simp only [elt,List.getD,List.getElem?_drop,show j+(p - i)=p+(j - i) by omega]
   have hV:VR w' I (.slice (some ⟨blk,off,none⟩) (xs.length - (j - i)) cap) (.own e' (xs.take i++xs.drop j)) (blk::cat ((xs.length - (j - i)) * e') fun q=>Fs (if q<i * e' then q else q+(j - i) * e')):=by
    have:=VR.own (w:=w') (I:=I) ⟨blk,off,none⟩ cap e' (xs.take i++xs.drop j) (fun q=>us (if q<i * e' then q else q+(j - i) * e')) (fun q=>Fs (if q<i * e' then q else q+(j - i) * e')) rfl he (fun y hy=>hz y (hmem y hy)) (by omega) wrows
     (fun q hq=>wcell q (by rwa [hlen'] at hq)) (fun y hy=>hfe y (hmem y hy)) (fun p c hp hc=>by
      rw [hlen'] at hp
      rw [helt p c hp]
      have hlt:(if p<i then p else p+(j - i))<xs.length:=by split <;> omega
      have hq:(if p * e'+c<i * e' then p * e'+c else p * e'+c+(j - i) * e')=(if p<i then p else p+(j - i)) * e'+c:=by
       by_cases h:p<i
       ·have:=zca h hc
        rw [if_pos h,if_pos this]
       ·have:i * e'<=p * e':=Nat.mul_le_mul_right e' (by omega)
        rw [if_neg h,if_neg (by omega),Nat.add_mul];omega
      simp only [hq]
      have hql:=zca hlt hc
      refine (hr _ _ hlt hc).keep (fun _ h=>h) (fun b hb'=>wheap b fun h=>hblk0 (h ▸ hb')) fun b hb'=>wheap b fun h=>hnb _ hql (h ▸ hb'))
    rw [hlen'] at this
    exact this
   refine ⟨I,φ,fun _ _=>(blk::cat ((xs.length - (j - i)) * e') fun q=>Fs (if q<i * e' then q else q+(j - i) * e')),fun _ _=>[],?_⟩
   have hHeld:∀ b,zar ⟨[.own e' (xs.take i++xs.drop j)],[]⟩ φ (fun _ _=>(blk::cat ((xs.length - (j - i)) * e') fun q=>Fs (if q<i * e' then q else q+(j - i) * e'))) (fun _ _=>[]) [] b<=zar ⟨[.own e' xs,.int .i64 i,.int .i64 j],[]⟩ φ GA GB [] b:=by
    intro b
    refine Nat.le_trans ?_ (Nat.le_trans (hcount b) (E b))
    simp [zar,tot,cat,V.cells]
   have hblkO:O blk\/w.heap.size<=blk:=hheld blk (by have h2:=E blk;rw [List.count_cons_self] at h2;omega)
   refine ⟨fun p hp=> ?_,fun p hp c hc=> ?_,fun k hk=>by simp at hk,fun k hk=>by simp at hk,fun k hk=>by simp at hk,fun b=>Nat.le_trans (hHeld b) (hone b),fun b hb=> ?_,fun b hb=> ?_,fun b hlt hO=> ?_,wgrow,fun b hb=>hheld b (Nat.lt_of_lt_of_le hb (hHeld b)),fun b hb=>hb,fun b hb=>.inl hb⟩
   ·have:p=0:=by simpa using hp
    subst this
    rfl
   ·have:p=0:=by simpa using hp
    subst this
    have:c=0:=by simpa [V.cells] using hc
    subst this
    exact za8 hV rfl
   ·exact Nat.le_zero.1 (Nat.le_trans (hHeld b) (Nat.le_of_eq (hapart b hb)))
   ·have:=hsr.ilt b hb
    exact Nat.lt_of_lt_of_eq this wsize.symm
   ·refine wheap b fun h=> ?_
    subst h
    rcases hblkO with h|h
    ·exact hO h
    ·have:b<w.heap.size:=hlt
     omega
end Go.Pm
namespace Go.Pm
structure Ctr where
 f:FuncId
 xs:List V
 bs:List (List V)
 α:Type
 x:Option α
 o:α->V×List (List V)
structure Lct where
 ns:Nat
 b:HCode
 nb:Nat
 dead:List Nat
 s:Option St
 α:Type
 x:Option α
 o:α->Ex×St
structure Lc2 where
 ns:Nat
 b:HCode
 nb:Nat
 dead:List Nat
 s:Option St
 α:Type
 β:Type
 x:Option (α⊕β)
 o:α->Ex×St
 q:β->Ex×St
structure Lc3 where
 ns:Nat
 b:HCode
 nb:Nat
 dead:List Nat
 s:Option St
 α:Type
 β:Type
 γ:Type
 x:Option (α⊕β⊕γ)
 o:α->Ex×St
 q:β->Ex×St
 p:γ->Ex×St
variable {T:Tab}
def Ctr.ok (T:Tab) (C:Ctr):Prop:=∀ a,C.x=some a->Run T C.f C.xs C.bs=some (C.o a)
def Ctr.okF (T:Tab) (C:Ctr):Prop:=∀ a,C.x=some a->Run T C.f C.xs C.bs=some (C.o a)/\(C.o a).2=[]/\(C.o a).1.fresh=true
def zfh (T:Tab) (ns:Nat) (b:HCode) (nb:Nat) (dead:List Nat) (o:Option St) (r:Ex×St):Prop:=∀ s,s.trim nb dead=o->zea T ns b nb dead s=some r
def Lct.ok (T:Tab) (L:Lct):Prop:=∀ a,L.x=some a->zfh T L.ns L.b L.nb L.dead L.s (L.o a)
def Lc2.ok (T:Tab) (L:Lc2):Prop:=(∀ a,L.x=some (.inl a)->zfh T L.ns L.b L.nb L.dead L.s (L.o a))/\(∀ a,L.x=some (.inr a)->zfh T L.ns L.b L.nb L.dead L.s (L.q a))
def Lc3.ok (T:Tab) (L:Lc3):Prop:=(∀ a,L.x=some (.inl a)->zfh T L.ns L.b L.nb L.dead L.s (L.o a))/\(∀ a,L.x=some (.inr (.inl a))->zfh T L.ns L.b L.nb L.dead L.s (L.q a))/\(∀ a,L.x=some (.inr (.inr a))->zfh T L.ns L.b L.nb L.dead L.s (L.p a))
inductive Tree (ρ ω:Type):Type 1 where
 | bad
 | leaf (r:ρ) (o:ω)
 | br (c:Bool) (t f:Tree ρ ω)
 | kb (c b:Bool) (k:Tree ρ ω)
 | call (C:Ctr) (k:C.α->Tree ρ ω)
 | callF (C:Ctr) (k:C.α->Tree ρ ω)
 | lp (L:Lct) (k:L.α->Tree ρ ω)
 | lp2 (L:Lc2) (k:L.α->Tree ρ ω) (k':L.β->Tree ρ ω)
 | lp3 (L:Lc3) (k:L.α->Tree ρ ω) (k':L.β->Tree ρ ω) (k'':L.γ->Tree ρ ω)
 | look (α:Type) (o:Option α) (f:α->V) (v:Option V) (k:α->Tree ρ ω)
 | guard (p:Prop) (d:Decidable p) (k:Tree ρ ω)
 | ob (p:Prop) (k:Tree ρ ω)
 | seg (xs:List V) (lo hi:Nat) (ys:List V) (k:Tree ρ ω)
 | eqL (xs ys:List V) (k:Tree ρ ω)
 | eqI (n m:Int) (k:Tree ρ ω)
 | byt (xs:List V) (bs:List UInt8) (k:Tree ρ ω)
 | sk (k:Tree ρ ω)
 | eqN (α:Type) (a:α) (f:α->List V) (xs:List V) (k:α->Tree ρ ω)
 | lk (w:V) (v:Option V) (k:Tree ρ ω)
variable {ρ ω:Type} {out:ρ->ω}
def Tree.eval:Tree ρ ω->Option ρ
 | .bad=>none
 | .leaf r _=>some r
 | .br c t f=>cond c t.eval f.eval
 | .kb _ _ k=>k.eval
 | .call C k=>C.x.bind fun a=>(k a).eval
 | .callF C k=>C.x.bind fun a=>(k a).eval
 | .lp L k=>L.x.bind fun a=>(k a).eval
 | .lp2 L k k'=>L.x.bind fun | .inl a=>(k a).eval | .inr a=>(k' a).eval
 | .lp3 L k k' k''=>L.x.bind fun | .inl a=>(k a).eval | .inr (.inl a)=>(k' a).eval | .inr (.inr a)=>(k'' a).eval
 | .look _ o _ _ k=>o.bind fun a=>(k a).eval
 | .guard _ d k=>match d with|isTrue _=>k.eval|isFalse _=>none
 | .ob _ k=>k.eval
 | .seg _ _ _ _ k=>k.eval
 | .eqL _ _ k=>k.eval
 | .eqI _ _ k=>k.eval
 | .byt _ _ k=>k.eval
 | .sk k=>k.eval
 | .eqN _ a _ _ k=>(k a).eval
 | .lk _ _ k=>k.eval
def Tree.ok (T:Tab) (out:ρ->ω):Tree ρ ω->Prop
 | .bad=>False
 | .leaf r o=>o=out r
 | .br c t f=>(c=true->t.ok T out)/\(c=false->f.ok T out)
 | .kb c b k=>c=b/\k.ok T out
 | .call C k=>C.ok T/\∀ a,C.x=some a->(k a).ok T out
 | .callF C k=>C.okF T/\∀ a,C.x=some a->(k a).ok T out
 | .lp L k=>L.ok T/\∀ a,L.x=some a->(k a).ok T out
 | .lp2 L k k'=>L.ok T/\(∀ a,L.x=some (.inl a)->(k a).ok T out)/\∀ a,L.x=some (.inr a)->(k' a).ok T out
 | .lp3 L k k' k''=>L.ok T/\(∀ a,L.x=some (.inl a)->(k a).ok T out)/\(∀ a,L.x=some (.inr (.inl a))->(k' a).ok T out)/\∀ a,L.x=some (.inr (.inr a))->(k'' a).ok T out
 | .look _ o f v k=>v=o.map f/\∀ a,o=some a->(k a).ok T out
 | .guard p _ k=>p->k.ok T out
 | .ob p k=>p/\k.ok T out
 | .seg xs lo hi ys k=>(hi<=xs.length/\(xs.take hi).drop lo=ys)/\k.ok T out
 | .eqL xs ys k=>xs=ys/\k.ok T out
 | .eqI n m k=>n=m/\k.ok T out
 | .byt xs bs k=>zg6 xs=some bs/\k.ok T out
 | .sk k=>k.ok T out
 | .eqN _ a f xs k=>xs=f a/\∀ v,v=a->(k v).ok T out
 | .lk w v k=>v=some w/\k.ok T out
def yjo (T:Tab) (out:ρ->ω) (t:Tree ρ ω) (r:ρ):Prop:=t.ok T out/\t.eval=some r
def M (ρ ω β:Type):Type 1:=Tree ρ ω->(β->Tree ρ ω->Tree ρ ω)->Tree ρ ω
variable {β γ:Type}
def M.pure (b:β):M ρ ω β:=fun tp k=>k b tp
def M.bind (m:M ρ ω β) (f:β->M ρ ω γ):M ρ ω γ:=fun tp k=>m tp fun b tp'=>f b tp' k
def M.fail:M ρ ω β:=fun _ _=>.bad
def M.opt (o:Option β):M ρ ω β:=fun tp k=>match o with|some b=>k b tp|none=>.bad
def M.must (c:Bool):M ρ ω Unit:=fun tp k=>match c with|true=>k () tp|false=>.bad
def M.req (p:Prop) [d:Decidable p]:M ρ ω Unit:=fun tp k=>match tp with
 | .guard _ _ t=>.guard p d (k () t)
 | .ob _ t=>.ob p (k () t)
 | .sk t=>match d with|isTrue _=>.sk (k () t)|isFalse _=>.bad
 | _=>.bad
def M.know (c:Bool):M ρ ω Unit:=fun tp k=>match tp with
 | .kb _ _ t=>.kb c true (k () t)
 | .sk t=>match c with|true=>.sk (k () t)|false=>.bad
 | _=>.bad
def M.seg (xs:List V) (lo hi:Nat):M ρ ω (List V):=fun tp k=>match tp with | .seg _ _ _ ys t=>.seg xs lo hi ys (k ys t) | .guard _ _ (.seg _ _ _ ys t)=>.guard (hi<=xs.length) inferInstance (.seg xs lo hi ys (k ys t))|_=>.bad
def M.eqL (xs:List V):M ρ ω (List V):=fun tp k=>match tp with | .eqL _ ys t=>.eqL xs ys (k ys t) | .eqN α a f _ t=>.eqN α a f xs (fun v=>k (f v) (t v)) | .sk t=>.sk (k xs t)|_=>.bad
def M.eqI (n:Int):M ρ ω Int:=fun tp k=>match tp with | .eqI _ m t=>.eqI n m (k m t) | .sk t=>.sk (k n t)|_=>.bad
def M.byt (xs:List V):M ρ ω (List UInt8):=fun tp k=>match tp with | .byt _ bs t=>.byt xs bs (k bs t)|_=>.bad
def M.look (o:Option V):M ρ ω V:=fun tp k=>match tp with
 | .look α a f _ t=>.look α a f o fun x=>k (f x) (t x)
 | .lk w _ t=>.lk w o (k w t)
 | .sk t=>match o with|some v=>.sk (k v t)|none=>.bad
 | _=>.bad
def M.br (c:Bool):M ρ ω Bool:=fun tp k=>match tp with
 | .br _ x y=>.br c (k true x) (k false y)
 | .kb _ b x=>.kb c b (k b x)
 | .sk x=>.sk (match c with|true=>k true x|false=>k false x)
 | _=>.bad
def M.call (f:FuncId) (xs:List V) (bs:List (List V)):M ρ ω (V×List (List V)):=fun tp k=>match tp with
 | .call C t=>.call ⟨f,xs,bs,C.α,C.x,C.o⟩ fun a=>k (C.o a) (t a)
 | _=>.bad
def M.callF (f:FuncId) (xs:List V):M ρ ω V:=fun tp k=>match tp with
 | .callF C t=>.callF ⟨f,xs,[],C.α,C.x,C.o⟩ fun a=>k (C.o a).1 (t a)
 | _=>.bad
def M.loop (ns:Nat) (b:HCode) (nb:Nat) (dead:List Nat) (s:St):M ρ ω (Ex×St):=fun tp k=>match tp with
 | .lp L t=>.lp ⟨ns,b,nb,dead,s.trim nb dead,L.α,L.x,L.o⟩ fun a=>k (L.o a) (t a)
 | .lp2 L t t'=>.lp2 ⟨ns,b,nb,dead,s.trim nb dead,L.α,L.β,L.x,L.o,L.q⟩ (fun a=>k (L.o a) (t a)) (fun a=>k (L.q a) (t' a))
 | .lp3 L t t' t''=>.lp3 ⟨ns,b,nb,dead,s.trim nb dead,L.α,L.β,L.γ,L.x,L.o,L.q,L.p⟩ (fun a=>k (L.o a) (t a)) (fun a=>k (L.q a) (t' a)) (fun a=>k (L.p a) (t'' a))
 | _=>.bad
def Sound (T:Tab) (out:ρ->ω) (m:M ρ ω β) (P:β->Prop):Prop:=∀ tp k r,yjo T out (m tp k) r->∃ b tp',P b/\yjo T out (k b tp') r
namespace Sound
theorem bind {m:M ρ ω β} {P:β->Prop} {f:β->M ρ ω γ} {Q:γ->Prop} (h:Sound T out m P) (hf:∀ b,P b->Sound T out (f b) Q):Sound T out (m.bind f) Q:=fun tp k r hg=>by
 obtain ⟨b,tp',hp,hg'⟩:=h tp _ r hg
 exact hf b hp tp' k r hg'
theorem pure {b:β} {P:β->Prop} (h:P b):Sound T out (M.pure b) P:=fun tp _ _ hg=>⟨b,tp,h,hg⟩
theorem no {r:ρ} {Q:Prop} (h:yjo T out .bad r):Q:=h.1.elim
theorem fail {P:β->Prop}:Sound T out (M.fail:M ρ ω β) P:=fun _ _ _ hg=>no hg
theorem opt (o:Option β):Sound T out (M.opt o) (fun b=>o=some b):=fun tp k r hg=>by
 unfold M.opt at hg
 split at hg
 ·exact ⟨_,_,rfl,hg⟩
 ·exact no hg
theorem must (c:Bool):Sound T out (M.must c) (fun _=>c=true):=fun tp k r hg=>by
 unfold M.must at hg
 split at hg
 ·exact ⟨_,_,rfl,hg⟩
 ·exact no hg
theorem req (p:Prop) [d:Decidable p]:Sound T out (M.req p) (fun _=>p):=fun tp k r hg=>by
 unfold M.req at hg
 split at hg
 ·obtain ⟨h1,h2⟩:=hg
  simp only [Tree.ok,Tree.eval] at h1 h2
  split at h2
  ·rename_i hp
   exact ⟨_,_,hp,h1 hp,h2⟩
  ·cases h2
 ·obtain ⟨h1,h2⟩:=hg
  exact ⟨_,_,h1.1,h1.2,h2⟩
 ·split at hg
  ·rename_i hp
   exact ⟨_,_,hp,hg⟩
  ·exact no hg
 ·exact no hg
theorem know (c:Bool):Sound T out (M.know c) (fun _=>c=true):=fun tp k r hg=>by
 unfold M.know at hg
 split at hg
 ·obtain ⟨h1,h2⟩:=hg
  exact ⟨_,_,h1.1,h1.2,h2⟩
 ·split at hg
  ·exact ⟨_,_,rfl,hg⟩
  ·exact no hg
 ·exact no hg
theorem seg (xs:List V) (lo hi:Nat):Sound T out (M.seg xs lo hi) (fun ys=>hi<=xs.length/\(xs.take hi).drop lo=ys):=fun tp k r hg=>by
 unfold M.seg at hg
 split at hg
 ·obtain ⟨h1,h2⟩:=hg
  exact ⟨_,_,h1.1,h1.2,h2⟩
 ·obtain ⟨h1,h2⟩:=hg
  simp only [Tree.ok,Tree.eval] at h1 h2
  split at h2
  ·rename_i hp _
   obtain ⟨h3,h4⟩:=h1 hp
   exact ⟨_,_,h3,h4,h2⟩
  ·cases h2
 ·exact no hg
theorem eqL (xs:List V):Sound T out (M.eqL xs) (fun ys=>xs=ys):=fun tp k r hg=>by
 unfold M.eqL at hg
 split at hg
 ·obtain ⟨h1,h2⟩:=hg
  exact ⟨_,_,h1.1,h1.2,h2⟩
 ·obtain ⟨h1,h2⟩:=hg
  exact ⟨_,_,h1.1,h1.2 _ rfl,h2⟩
 ·exact ⟨_,_,rfl,hg⟩
 ·exact no hg
theorem eqI (n:Int):Sound T out (M.eqI n) (fun m=>n=m):=fun tp k r hg=>by
 unfold M.eqI at hg
 split at hg
 ·obtain ⟨h1,h2⟩:=hg
  exact ⟨_,_,h1.1,h1.2,h2⟩
 ·exact ⟨_,_,rfl,hg⟩
 ·exact no hg
theorem byt (xs:List V):Sound T out (M.byt xs) (fun bs=>zg6 xs=some bs):=fun tp k r hg=>by
 unfold M.byt at hg
 split at hg
 ·obtain ⟨h1,h2⟩:=hg
  exact ⟨_,_,h1.1,h1.2,h2⟩
 ·exact no hg
theorem look (o:Option V):Sound T out (M.look o) (fun v=>o=some v):=fun tp k r hg=>by
 unfold M.look at hg
 split at hg
 ·rename_i α a f _ t
  obtain ⟨h1,h2⟩:=hg
  simp only [Tree.ok,Tree.eval] at h1 h2
  cases a with
  | none=>cases h2
  | some x=>exact ⟨f x,t x,h1.1,h1.2 x rfl,h2⟩
 ·obtain ⟨h1,h2⟩:=hg
  exact ⟨_,_,h1.1,h1.2,h2⟩
 ·split at hg
  ·exact ⟨_,_,rfl,hg⟩
  ·exact no hg
 ·exact no hg
theorem br (c:Bool):Sound T out (M.br c) (fun b=>c=b):=fun tp k r hg=>by
 unfold M.br at hg
 split at hg
 ·obtain ⟨h1,h2⟩:=hg
  simp only [Tree.ok,Tree.eval] at h1 h2
  cases c with
  | true=>exact ⟨_,_,rfl,h1.1 rfl,h2⟩
  | false=>exact ⟨_,_,rfl,h1.2 rfl,h2⟩
 ·obtain ⟨h1,h2⟩:=hg
  exact ⟨_,_,h1.1,h1.2,h2⟩
 ·cases c with
  | true=>exact ⟨_,_,rfl,hg⟩
  | false=>exact ⟨_,_,rfl,hg⟩
 ·exact no hg
theorem call (f:FuncId) (xs:List V) (bs:List (List V)):Sound T out (M.call f xs bs) (fun r=>Run T f xs bs=some r):=fun tp k r hg=>by
 unfold M.call at hg
 split at hg
 ·rename_i C t
  obtain ⟨h1,h2⟩:=hg
  simp only [Tree.ok,Tree.eval] at h1 h2
  cases hx:C.x with
  | none=>rw [hx] at h2;cases h2
  | some a=>
    rw [hx] at h2
    exact ⟨C.o a,t a,h1.1 a hx,h1.2 a hx,h2⟩
 ·exact no hg
theorem callF (f:FuncId) (xs:List V):Sound T out (M.callF f xs) (fun r=>Run T f xs []=some (r,[])/\r.fresh=true):=fun tp k r hg=>by
 unfold M.callF at hg
 split at hg
 ·rename_i C t
  obtain ⟨h1,h2⟩:=hg
  simp only [Tree.ok,Tree.eval] at h1 h2
  cases hx:C.x with
  | none=>rw [hx] at h2;cases h2
  | some a=>
    rw [hx] at h2
    obtain ⟨h3,h4,h5⟩:=h1.1 a hx
    refine ⟨(C.o a).1,t a,⟨?_,h5⟩,h1.2 a hx,h2⟩
    rw [h3]
    simp only at h4 ⊢
    rw [<- h4]
 ·exact no hg
theorem loop (ns:Nat) (b:HCode) (nb:Nat) (dead:List Nat) (s:St):Sound T out (M.loop ns b nb dead s) (fun r=>zea T ns b nb dead s=some r):=fun tp k r hg=>by
 unfold M.loop at hg
 split at hg
 ·rename_i L t
  obtain ⟨h1,h2⟩:=hg
  simp only [Tree.ok,Tree.eval] at h1 h2
  cases hx:L.x with
  | none=>rw [hx] at h2;cases h2
  | some a=>
    rw [hx] at h2
    exact ⟨L.o a,t a,h1.1 a hx s rfl,h1.2 a hx,h2⟩
 ·rename_i L t t'
  obtain ⟨h1,h2⟩:=hg
  simp only [Tree.ok,Tree.eval] at h1 h2
  cases hx:L.x with
  | none=>rw [hx] at h2;cases h2
  | some a=>
    rw [hx] at h2
    cases a with
    | inl a=>exact ⟨L.o a,t a,h1.1.1 a hx s rfl,h1.2.1 a hx,h2⟩
    | inr a=>exact ⟨L.q a,t' a,h1.1.2 a hx s rfl,h1.2.2 a hx,h2⟩
 ·rename_i L t t' t''
  obtain ⟨h1,h2⟩:=hg
  simp only [Tree.ok,Tree.eval] at h1 h2
  cases hx:L.x with
  | none=>rw [hx] at h2;cases h2
  | some a=>
    rw [hx] at h2
    rcases a with a|a|a
    ·exact ⟨L.o a,t a,h1.1.1 a hx s rfl,h1.2.1 a hx,h2⟩
    ·exact ⟨L.q a,t' a,h1.1.2.1 a hx s rfl,h1.2.2.1 a hx,h2⟩
    ·exact ⟨L.p a,t'' a,h1.1.2.2 a hx s rfl,h1.2.2.2 a hx,h2⟩
 ·exact no hg
theorem mono {m:M ρ ω β} {P Q:β->Prop} (h:Sound T out m P) (hq:∀ b,P b->Q b):Sound T out m Q:=fun tp k r hg=>by
 obtain ⟨b,tp',hp,hg'⟩:=h tp k r hg
 exact ⟨b,tp',hq b hp,hg'⟩
end Sound
theorem kbN {a b:Int} {t:Bool} (h:decide (a=b)=t):decide (a≠b)= !t:=by rw [decide_not,h]
end Go.Pm
namespace Go.Pm
variable {T:Tab} {ρ ω:Type} {out:ρ->ω}
def St.contM (s:St) (r:Root):List zbv->M ρ ω (List V)
 | []=>M.opt (s.root r)
 | (i,e,c)::up=>(s.contM r up).bind fun cs=>(M.opt cs[c]?).bind fun v=>match v with
   | .own e' xs=>(M.must (e' == e)).bind fun _=>(M.look xs[i]?).bind fun x=>M.pure x.cells
   | _=>M.fail
theorem zde (s:St) (r:Root):∀ up,Sound T out (s.contM r up:M ρ ω _) (fun cs=>s.cont r up=some cs)
 | []=>Sound.opt _
 | (i,e,c)::up=>by
   unfold St.contM
   refine Sound.bind (zde s r up) fun cs h1=>Sound.bind (Sound.opt _) fun v h2=> ?_
   split
   ·refine Sound.bind (Sound.must _) fun _ h3=>Sound.bind (Sound.look _) fun x h4=>Sound.pure ?_
    have h3:=eq_of_beq h3
    simp only [St.cont,h1,h2]
    rw [if_pos h3,h4];rfl
   ·exact Sound.fail
def St.getM (s:St) (r:Root) (c:Nat) (up:List zbv):M ρ ω V:=(s.contM r up).bind fun cs=>M.opt cs[c]?
theorem zoi (s:St) (r c up):Sound T out (s.getM r c up:M ρ ω _) (fun v=>s.get r c up=some v):=by
 refine Sound.bind (zde s r up) fun cs h1=>(Sound.opt _).mono fun v h2=> ?_
 unfold St.get;rw [h1];exact h2
def St.setContM (s:St) (r:Root):List zbv->List V->M ρ ω St
 | [],cs=>M.pure (s.setRoot r cs)
 | (i,_,c)::up,cs=>(s.contM r up).bind fun os=>(M.opt os[c]?).bind fun v=>match v with
   | .own e' xs=>(M.look xs[i]?).bind fun x=>(M.eqL (xs.set i (x.like cs))).bind fun ys=>s.setContM r up (os.set c (.own e' ys))
   | _=>M.fail
theorem zj2 (s:St) (r:Root):∀ up cs,Sound T out (s.setContM r up cs:M ρ ω _) (fun s'=>s.setCont r up cs=some s')
 | [],cs=>Sound.pure rfl
 | (i,e,c)::up,cs=>by
   unfold St.setContM
   refine Sound.bind (zde s r up) fun os h1=>Sound.bind (Sound.opt _) fun v h2=> ?_
   split
   ·refine Sound.bind (Sound.look _) fun x h4=>Sound.bind (Sound.eqL _) fun ys h5=>(zj2 s r up _).mono fun s' h6=> ?_
    simp only [St.setCont,h1,h2,h4]
    rw [h5];exact h6
   ·exact Sound.fail
def St.putM (s:St) (r:Root) (c:Nat) (up:List zbv) (v:V):M ρ ω St:=(s.contM r up).bind fun cs=>(M.must (decide (c<cs.length))).bind fun _=>s.setContM r up (cs.set c v)
theorem zhj (s:St) (r c up v):Sound T out (s.putM r c up v:M ρ ω _) (fun s'=>s.put r c up v=some s'):=by
 refine Sound.bind (zde s r up) fun cs h1=>Sound.bind (Sound.must _) fun _ h2=>(zj2 s r up _).mono fun s' h3=> ?_
 have h2:=of_decide_eq_true h2
 simp only [St.put,h1]
 rw [if_pos h2];exact h3
def St.gets (s:St) (r:Root) (c:Nat) (up:List zbv) (lo hi:Nat):M ρ ω (Nat×List V×List V):=(s.getM r c up).bind fun v=>match v with
 | .own e xs=>(M.seg xs lo hi).bind fun ys=>M.pure (e,xs,ys)
 | _=>M.fail
theorem zly (s:St) (r c up lo hi):Sound T out (s.gets r c up lo hi:M ρ ω _) (fun q=>s.get r c up=some (.own q.1 q.2.1)/\hi<=q.2.1.length/\(q.2.1.take hi).drop lo=q.2.2):=by
 refine Sound.bind (zoi s r c up) fun v h1=> ?_
 split
 ·exact Sound.bind (Sound.seg _ _ _) fun ys h2=>Sound.pure ⟨h1,h2⟩
 ·exact Sound.fail
def St.viewLeafM (s:St):V->M ρ ω V
 | .hd _ r c up lo hi=>(s.gets r c up lo hi).bind fun q=>(M.eqL (V.eraseL q.2.2)).bind fun zs=>M.pure (.imm q.1 zs)
 | v=>M.opt (s.viewLeaf v)
theorem zi8 (s:St) (v:V):Sound T out (s.viewLeafM v:M ρ ω _) (fun x=>s.viewLeaf v=some x):=by
 cases v <;> simp only [St.viewLeafM]
 case hd e r c up lo hi=>
  refine Sound.bind (zly s r c up lo hi) fun q h1=>Sound.bind (Sound.eqL _) fun zs h2=>Sound.pure ?_
  simp only [St.viewLeaf,h1.1]
  rw [if_pos h1.2.1,h1.2.2,h2]
 all_goals exact Sound.opt _
def St.viewsM (s:St):List V->M ρ ω (List V)
 | []=>M.pure []
 | v::vs=>(s.viewLeafM v).bind fun x=>(s.viewsM vs).bind fun xs=>M.pure (x::xs)
theorem zgr (s:St):∀ vs,Sound T out (s.viewsM vs:M ρ ω _) (fun x=>s.views vs=some x)
 | []=>Sound.pure rfl
 | v::vs=>Sound.bind (zi8 s v) fun x h1=>Sound.bind (zgr s vs) fun xs h2=>Sound.pure (by simp only [St.views,h1,h2,Option.map_some])
def St.viewCapsM (s:St):List V->M ρ ω (List V)
 | []=>M.pure []
 | .ref (.box k) 0 []::vs=>(M.opt s.boxes[k]?).bind fun cs=>(s.viewsM (borrows (.box k) [] 0 cs)).bind fun ys=>(s.viewCapsM vs).bind fun xs=>M.pure (.agg ys::xs)
 | _::_=>M.fail
theorem zhx (s:St):∀ vs,Sound T out (s.viewCapsM vs:M ρ ω _) (fun x=>s.viewCaps vs=some x)
 | []=>Sound.pure rfl
 | v::vs=>by
   unfold St.viewCapsM
   split
   ·rename_i h;cases h
   ·rename_i k vs' h
    cases h
    exact Sound.bind (Sound.opt _) fun cs h1=>Sound.bind (zgr s _) fun ys h2=>Sound.bind (zhx s vs) fun xs h3=>Sound.pure (by simp only [St.viewCaps,h1,h2,h3,Option.map_some])
   ·exact Sound.fail
def St.viewM (s:St):V->M ρ ω V
 | .agg cs=>(s.viewsM cs).bind fun xs=>M.pure (.agg xs)
 | .fn f caps=>(s.viewCapsM caps).bind fun xs=>M.pure (.clo f xs)
 | .ref r c up=>(s.contM r up).bind fun cs=>(s.viewsM (borrows r up 0 cs)).bind fun xs=>M.pure (.eptr xs c)
 | v=>s.viewLeafM v
theorem zv5 (s:St) (v:V):Sound T out (s.viewM v:M ρ ω _) (fun x=>s.view v=some x):=by
 cases v <;> simp only [St.viewM]
 case agg cs=>exact Sound.bind (zgr s _) fun xs h=>Sound.pure (by simp only [St.view,h,Option.map_some])
 case fn f caps=>exact Sound.bind (zhx s _) fun xs h=>Sound.pure (by simp only [St.view,h,Option.map_some])
 case ref r c up=>exact Sound.bind (zde s r up) fun cs h1=>Sound.bind (zgr s _) fun xs h=>Sound.pure (by simp only [St.view,h1,h,Option.map_some])
 all_goals exact zi8 s _
def St.viewsAllM (s:St):List V->M ρ ω (List V)
 | []=>M.pure []
 | v::vs=>(s.viewM v).bind fun x=>(s.viewsAllM vs).bind fun xs=>M.pure (x::xs)
theorem zep (s:St):∀ vs,Sound T out (s.viewsAllM vs:M ρ ω _) (fun x=>s.viewsAll vs=some x)
 | []=>Sound.pure rfl
 | v::vs=>Sound.bind (zv5 s v) fun x h1=>Sound.bind (zep s vs) fun xs h2=>Sound.pure (by simp only [St.viewsAll,h1,h2,Option.map_some])
def St.takeLeafM (s:St):V->M ρ ω (V×St)
 | .hd _ r c up lo hi=>(s.gets r c up lo hi).bind fun q=>(s.putM r c up .gone).bind fun s'=>M.pure (.own q.1 q.2.2,s'.kill r (rootCell c up) up.length)
 | v=>M.opt (s.takeLeaf v)
theorem zex (s:St) (v:V):Sound T out (s.takeLeafM v:M ρ ω _) (fun x=>s.takeLeaf v=some x):=by
 cases v <;> simp only [St.takeLeafM]
 case hd e r c up lo hi=>
  refine Sound.bind (zly s r c up lo hi) fun q h1=>Sound.bind (zhj s _ _ _ _) fun s' h2=>Sound.pure ?_
  simp only [St.takeLeaf,h1.1]
  rw [if_pos h1.2.1,h1.2.2,h2];rfl
 all_goals exact Sound.opt _
def St.takesM (s:St):List V->M ρ ω (List V×St)
 | []=>M.pure ([],s)
 | v::vs=>(s.takeLeafM v).bind fun q=>(q.2.takesM vs).bind fun p=>M.pure (q.1::p.1,p.2)
theorem zq1:∀ (vs:List V) (s:St),Sound T out (s.takesM vs:M ρ ω _) (fun x=>s.takes vs=some x)
 | [],_=>Sound.pure rfl
 | v::vs,s=>Sound.bind (zex s v) fun q h1=>Sound.bind (zq1 vs q.2) fun p h2=>Sound.pure (by simp only [St.takes,h1,h2,Option.map_some])
def St.takeM (s:St):V->M ρ ω (V×St)
 | .agg cs=>(s.takesM cs).bind fun q=>M.pure (.agg q.1,q.2)
 | v=>s.takeLeafM v
theorem zf5 (s:St) (v:V):Sound T out (s.takeM v:M ρ ω _) (fun x=>s.take v=some x):=by
 cases v <;> simp only [St.takeM]
 case agg cs=>exact Sound.bind (zq1 _ s) fun xs h=>Sound.pure (by simp only [St.take,h,Option.map_some])
 all_goals exact zex s _
def St.lendLeafM (s:St):V->M ρ ω (V×St)
 | .hd e r c up lo hi=>(s.getM r c up).bind fun w=>match w with
   | .own e' xs=>(M.must (lo == 0&&e' == e)).bind fun _=>(M.req (hi=xs.length)).bind fun _=>(s.putM r c up .gone).bind fun s'=>M.pure (.own e xs,s'.kill r (rootCell c up) up.length)
   | _=>M.fail
 | v=>M.opt (s.takeLeaf v)
theorem zi9 (s:St) (v:V):Sound T out (s.lendLeafM v:M ρ ω _) (fun x=>s.lendLeaf v=some x):=by
 cases v <;> simp only [St.lendLeafM]
 case hd e r c up lo hi=>
  refine Sound.bind (zoi s r c up) fun w h1=> ?_
  split
  ·refine Sound.bind (Sound.must _) fun _ h2=>Sound.bind (Sound.req _) fun _ h3=>Sound.bind (zhj s _ _ _ _) fun s' h4=>Sound.pure ?_
   simp only [Bool.and_eq_true,beq_iff_eq] at h2
   simp only [St.lendLeaf,h1]
   rw [if_pos ⟨h2.1,h3,h2.2⟩,h4];rfl
  ·exact Sound.fail
 all_goals exact Sound.opt _
def St.lendsM (s:St):List V->M ρ ω (List V×St)
 | []=>M.pure ([],s)
 | v::vs=>(s.lendLeafM v).bind fun q=>(q.2.lendsM vs).bind fun p=>M.pure (q.1::p.1,p.2)
theorem zpc:∀ (vs:List V) (s:St),Sound T out (s.lendsM vs:M ρ ω _) (fun x=>s.lends vs=some x)
 | [],_=>Sound.pure rfl
 | v::vs,s=>Sound.bind (zi9 s v) fun q h1=>Sound.bind (zpc vs q.2) fun p h2=>Sound.pure (by simp only [St.lends,h1,h2,Option.map_some])
def St.lendM (s:St):V->M ρ ω (V×St)
 | .agg cs=>(s.lendsM cs).bind fun q=>M.pure (.agg q.1,q.2)
 | v=>s.lendLeafM v
theorem yde (s:St) (v:V):Sound T out (s.lendM v:M ρ ω _) (fun x=>s.lend v=some x):=by
 cases v <;> simp only [St.lendM]
 case agg cs=>exact Sound.bind (zpc _ s) fun xs h=>Sound.pure (by simp only [St.lend,h,Option.map_some])
 all_goals exact zi9 s _
def St.givesM (s:St):List V->List V->M ρ ω St
 | [],[]=>M.pure s
 | z::zs,t::ts=>match z with
   | .hd _ r c up _ _=>(s.putM r c up t).bind fun s'=>(s'.kill r (rootCell c up) up.length).givesM zs ts
   | _=>s.givesM zs ts
 | _,_=>M.fail
theorem zjc:∀ (zs ts:List V) (s:St),Sound T out (s.givesM zs ts:M ρ ω _) (fun x=>s.gives zs ts=some x)
 | [],[],_=>Sound.pure rfl
 | z::zs,t::ts,s=>by
   unfold St.givesM
   split
   ·refine Sound.bind (zhj s _ _ _ _) fun s' h1=>(zjc zs ts _).mono fun x h2=> ?_
    simp only [St.gives,h1];exact h2
   ·rename_i hn
    refine (zjc zs ts s).mono fun x h2=> ?_
    cases z with
    | hd e r c up lo hi=>exact absurd rfl (hn e r c up lo hi)
    | _=>exact h2
 | [],_::_,_=>Sound.fail
 | _::_,[],_=>Sound.fail
def St.freezeLeafM (s:St):V->M ρ ω (V×St)
 | .hd _ r c up lo hi=>(s.gets r c up lo hi).bind fun q=>(M.eqL (V.eraseL q.2.1)).bind fun zs=>(s.putM r c up (.imm q.1 zs)).bind fun s'=>(M.eqL (V.eraseL q.2.2)).bind fun ws=>M.pure (.imm q.1 ws,s'.kill r (rootCell c up) up.length)
 | v=>M.opt (s.freezeLeaf v)
theorem zfo (s:St) (v:V):Sound T out (s.freezeLeafM v:M ρ ω _) (fun x=>s.freezeLeaf v=some x):=by
 cases v <;> simp only [St.freezeLeafM]
 case hd e r c up lo hi=>
  refine Sound.bind (zly s r c up lo hi) fun q h1=>Sound.bind (Sound.eqL _) fun zs h3=>Sound.bind (zhj s _ _ _ _) fun s' h2=>Sound.bind (Sound.eqL _) fun ws h4=>Sound.pure ?_
  simp only [St.freezeLeaf,h1.1]
  rw [if_pos h1.2.1,h1.2.2,h3,h2,h4];rfl
 all_goals exact Sound.opt _
def St.freezesM (s:St):List V->M ρ ω (List V×St)
 | []=>M.pure ([],s)
 | v::vs=>(s.freezeLeafM v).bind fun q=>(q.2.freezesM vs).bind fun p=>M.pure (q.1::p.1,p.2)
theorem zj9:∀ (vs:List V) (s:St),Sound T out (s.freezesM vs:M ρ ω _) (fun x=>s.freezes vs=some x)
 | [],_=>Sound.pure rfl
 | v::vs,s=>Sound.bind (zfo s v) fun q h1=>Sound.bind (zj9 vs q.2) fun p h2=>Sound.pure (by simp only [St.freezes,h1,h2,Option.map_some])
def St.freezeM (s:St):V->M ρ ω (V×St)
 | .agg cs=>(s.freezesM cs).bind fun q=>M.pure (.agg q.1,q.2)
 | v=>s.freezeLeafM v
theorem zh8 (s:St) (v:V):Sound T out (s.freezeM v:M ρ ω _) (fun x=>s.freeze v=some x):=by
 cases v <;> simp only [St.freezeM]
 case agg cs=>exact Sound.bind (zj9 _ s) fun xs h=>Sound.pure (by simp only [St.freeze,h,Option.map_some])
 all_goals exact zfo s _
def St.handM (s:St) (frz:Bool) (v:V):M ρ ω (V×St):=match frz with
 | true=>s.freezeM v
 | false=>s.takeM v
theorem zm1 (s:St) (frz:Bool) (v:V):Sound T out (s.handM frz v:M ρ ω _) (fun x=>(if frz then s.freeze v else s.take v)=some x):=by
 cases frz
 ·exact zf5 s v
 ·exact zh8 s v
def St.takesAllM (s:St) (frz:Bool):List V->M ρ ω (List V×St)
 | []=>M.pure ([],s)
 | v::vs=>(s.handM frz v).bind fun q=>(q.2.takesAllM frz vs).bind fun p=>M.pure (q.1::p.1,p.2)
theorem zdf (frz:Bool):∀ (vs:List V) (s:St),Sound T out (s.takesAllM frz vs:M ρ ω _) (fun x=>s.takesAll frz vs=some x)
 | [],_=>Sound.pure rfl
 | v::vs,s=>Sound.bind (zm1 s frz v) fun q h1=>Sound.bind (zdf frz vs q.2) fun p h2=>Sound.pure (by simp only [St.takesAll,h1,h2,Option.map_some])
def St.elemsM (s:St) (e:Nat):V->M ρ ω (List V)
 | .hd e' r c up lo hi=>(s.gets r c up lo hi).bind fun q=>(M.must (e' == e)).bind fun _=>M.pure q.2.2
 | v=>M.opt (s.elems e v)
theorem zpf (s:St) (e:Nat) (v:V):Sound T out (s.elemsM e v:M ρ ω _) (fun x=>s.elems e v=some x):=by
 cases v <;> simp only [St.elemsM]
 case hd e' r c up lo hi=>
  refine Sound.bind (zly s r c up lo hi) fun q h1=>Sound.bind (Sound.must _) fun _ h3=>Sound.pure ?_
  simp only [St.elems,h1.1]
  rw [if_pos ⟨eq_of_beq h3,h1.2.1⟩,h1.2.2]
 all_goals exact Sound.opt _
def St.putCellM (s:St) (r:Root) (c:Nat) (up:List zbv) (v:V):M ρ ω St:=(s.getM r c up).bind fun old=>(s.putM r c up v).bind fun s'=>match zgb old&&zgb v with
 | true=>M.pure s'
 | false=>M.pure (s'.kill r (rootCell c up) up.length)
theorem zt6 (s:St) (r c up v):Sound T out (s.putCellM r c up v:M ρ ω _) (fun x=>s.putCell r c up v=some x):=by
 refine Sound.bind (zoi s _ _ _) fun old h1=>Sound.bind (zhj s _ _ _ _) fun s' h2=> ?_
 split
 ·rename_i h;exact Sound.pure (by simp only [St.putCell,h1,h2,Option.map_some,h,if_true])
 ·rename_i h;exact Sound.pure (by simp only [St.putCell,h1,h2,Option.map_some,h,Bool.false_eq_true,if_false])
def St.putCellsM (s:St) (r:Root) (c:Nat) (up:List zbv):List V->M ρ ω St
 | []=>M.pure s
 | v::vs=>(s.putCellM r c up v).bind fun s'=>s'.putCellsM r (c+1) up vs
theorem zez (r up):∀ (vs:List V) (s:St) (c:Nat),Sound T out (s.putCellsM r c up vs:M ρ ω _) (fun x=>s.putCells r c up vs=some x)
 | [],_,_=>Sound.pure rfl
 | v::vs,s,c=>Sound.bind (zt6 s _ _ _ _) fun s' h1=>(zez r up vs s' (c+1)).mono fun x h2=>by simp only [St.putCells,h1,h2]
def St.passesM (s:St) (nb:Nat):List PM->List V->M ρ ω (List V×List (Nat×Nat×Nat)×St)
 | [],[]=>M.pure ([],[],s)
 | .view::ms,v::vs=>(s.freezeM v).bind fun q=>(q.2.passesM nb ms vs).bind fun p=>M.pure (q.1::p.1,p.2.1,p.2.2)
 | .own::ms,v::vs=>(s.takeM v).bind fun q=>(q.2.passesM nb ms vs).bind fun p=>M.pure (q.1::p.1,p.2.1,p.2.2)
 | .box n::ms,.ref (.box k) off []::vs=>(s.passesM (nb+1) ms vs).bind fun p=>M.pure (.ref (.box nb) 0 []::p.1,(k,off,n)::p.2.1,p.2.2)
 | _,_=>M.fail
theorem zf9:∀ (ms:List PM) (vs:List V) (s:St) (nb:Nat),Sound T out (s.passesM nb ms vs:M ρ ω _) (fun x=>s.passes nb ms vs=some x)
 | [],[],_,_=>Sound.pure rfl
 | .view::ms,v::vs,s,nb=>by
   unfold St.passesM
   exact Sound.bind (zh8 s v) fun q h1=>Sound.bind (zf9 ms vs q.2 nb) fun p h2=>Sound.pure (by simp only [St.passes,h1,h2,Option.map_some])
 | .own::ms,v::vs,s,nb=>by
   unfold St.passesM
   exact Sound.bind (zf5 s v) fun q h1=>Sound.bind (zf9 ms vs q.2 nb) fun p h2=>Sound.pure (by simp only [St.passes,h1,h2,Option.map_some])
 | .box n::ms,v::vs,s,nb=>by
   unfold St.passesM
   split
   ·rename_i e _;cases e
   ·rename_i e _;cases e
   ·rename_i e _;cases e
   ·rename_i n' ms' k off vs' e1 e2
    cases e1;cases e2
    exact Sound.bind (zf9 ms vs s (nb+1)) fun p h2=>Sound.pure (by simp only [St.passes,h2,Option.map_some])
   ·exact Sound.fail
 | [],_::_,_,_=>Sound.fail
 | m::_,[],s,nb=>by
   cases m <;> exact Sound.fail
def St.settleLeafM (s:St) (ns k:Nat):V->M ρ ω (V×St)
 | .hd e (.var j) c up lo hi=>match decide (j=k\/ns<=j) with
   | true=>s.takeLeafM (.hd e (.var j) c up lo hi)
   | false=>M.pure (.hd e (.var j) c up lo hi,s)
 | v=>M.pure (v,s)
theorem zfm (s:St) (ns k:Nat) (v:V):Sound T out (s.settleLeafM ns k v:M ρ ω _) (fun x=>s.settleLeaf ns k v=some x):=by
 cases v <;> simp only [St.settleLeafM]
 case hd e r c up lo hi=>
  cases r with
  | var j=>
    simp only
    split
    ·rename_i h
     have h:=of_decide_eq_true h
     exact (zex s _).mono fun x hx=>by simp only [St.settleLeaf];rw [if_pos h];exact hx
    ·rename_i h
     have h:=of_decide_eq_false h
     exact Sound.pure (by simp only [St.settleLeaf];rw [if_neg h])
  | box k=>exact Sound.pure rfl
 all_goals exact Sound.pure rfl
def St.settlesM (s:St) (ns k:Nat):List V->M ρ ω (List V×St)
 | []=>M.pure ([],s)
 | v::vs=>(s.settleLeafM ns k v).bind fun q=>(q.2.settlesM ns k vs).bind fun p=>M.pure (q.1::p.1,p.2)
theorem ziw (ns k:Nat):∀ (vs:List V) (s:St),Sound T out (s.settlesM ns k vs:M ρ ω _) (fun x=>s.settles ns k vs=some x)
 | [],_=>Sound.pure rfl
 | v::vs,s=>Sound.bind (zfm s ns k v) fun q h1=>Sound.bind (ziw ns k vs q.2) fun p h2=>Sound.pure (by simp only [St.settles,h1,h2,Option.map_some])
def St.settleM (s:St) (ns k:Nat):V->M ρ ω (V×St)
 | .agg cs=>(s.settlesM ns k cs).bind fun q=>M.pure (.agg q.1,q.2)
 | .tup _=>M.fail
 | v=>s.settleLeafM ns k v
theorem zll (s:St) (ns k:Nat) (v:V):Sound T out (s.settleM ns k v:M ρ ω _) (fun x=>s.settle ns k v=some x):=by
 cases v <;> simp only [St.settleM]
 case agg cs=>exact Sound.bind (ziw ns k _ s) fun xs h=>Sound.pure (by simp only [St.settle,h,Option.map_some])
 case tup vs=>exact Sound.fail
 all_goals exact zfm s _ _ _
def St.destM (s:St) (ns:Nat):Option Nat->V->M ρ ω St
 | none,v=>M.pure { s with vars:=s.vars ++ [v] }
 | some k,v=>(s.settleM ns k v).bind fun q=>M.pure ⟨((q.2.vars.map (V.leafwise (V.killVar1 k))).set k (q.1.leafwise (V.only1 ns k))) ++ [.gone],q.2.boxes⟩
theorem zv6 (s:St) (ns:Nat) (d:Option Nat) (v:V):Sound T out (s.destM ns d v:M ρ ω _) (fun x=>s.dest ns d v=some x):=by
 cases d <;> simp only [St.destM]
 ·exact Sound.pure rfl
 ·exact Sound.bind (zll s _ _ _) fun q h=>Sound.pure (by simp only [St.dest,h])
def St.destDM (s:St) (ns pos:Nat):Option Nat->V->M ρ ω St
 | none,v=>M.pure { s with vars:=s.vars.set pos v }
 | some k,v=>(s.settleM ns k v).bind fun q=>M.pure ⟨(q.2.vars.map (V.leafwise (V.killVar1 k))).set k (q.1.leafwise (V.only1 ns k)),q.2.boxes⟩
theorem zke (s:St) (ns pos:Nat) (d:Option Nat) (v:V):Sound T out (s.destDM ns pos d v:M ρ ω _) (fun x=>s.destD ns pos d v=some x):=by
 cases d <;> simp only [St.destDM]
 ·exact Sound.pure rfl
 ·exact Sound.bind (zll s _ _ _) fun q h=>Sound.pure (by simp only [St.destD,h])
def St.res1 (s:St) (v:Option V) (how:Option (Option Nat)):Option V:=match v,how with
 | some v,none=>some v
 | some (.ref r c up),some none=>(s.cont r up).bind fun cs=>(cs[c]?).map (V.borrow r c up)
 | some (.ref r c up),some (some m)=>(s.cont r up).bind fun cs=>if c+m<=cs.length then some (.agg (borrows r up c ((cs.drop c).take m))) else none
 | _,_=>none
theorem zw5 (s:St) (i how rs):s.rdRes ((i,how)::rs)=(match s.res1 (s.rd (.reg i)) how with
 | some v=>(s.rdRes rs).map (v :: ·)
 | none=>none):=rfl
def St.res1M (s:St) (v:V) (how:Option (Option Nat)):M ρ ω V:=match how,v with
    | none,v=>M.pure v
    | some none,.ref r c up=>(s.contM r up).bind fun cs=>(M.opt cs[c]?).bind fun v=>M.pure (v.borrow r c up)
    | some (some m),.ref r c up=>(s.contM r up).bind fun cs=>(M.must (decide (c+m<=cs.length))).bind fun _=>M.pure (.agg (borrows r up c ((cs.drop c).take m)))
    | _,_=>M.fail
theorem ydc (s:St) (v:V) (how:Option (Option Nat)):Sound T out (s.res1M v how:M ρ ω _) (fun x=>s.res1 (some v) how=some x):=by
 unfold St.res1M
 split
 ·exact Sound.pure rfl
 ·exact Sound.bind (zde s _ _) fun cs h2=>Sound.bind (Sound.opt _) fun v h3=>Sound.pure (by simp only [St.res1,h2,Option.bind_some,h3,Option.map_some])
 ·exact Sound.bind (zde s _ _) fun cs h2=>Sound.bind (Sound.must _) fun _ h3=>Sound.pure (by simp only [St.res1,h2,Option.bind_some];rw [if_pos (of_decide_eq_true h3)])
 ·exact Sound.fail
def St.rdResM (s:St):List (Nat×Option (Option Nat))->M ρ ω (List V)
 | []=>M.pure []
 | (i,how)::rs=>(M.opt (s.rd (.reg i))).bind fun v=>(s.res1M v how).bind fun v=>(s.rdResM rs).bind fun vs=>M.pure (v::vs)
theorem zph (s:St):∀ rs,Sound T out (s.rdResM rs:M ρ ω _) (fun x=>s.rdRes rs=some x)
 | []=>Sound.pure rfl
 | (i,how)::rs=>Sound.bind (Sound.opt _) fun v h1=>Sound.bind (ydc s v how) fun v' h2=>Sound.bind (zph s rs) fun vs h3=>Sound.pure (by rw [zw5,h1];simp only [h2,h3,Option.map_some])
end Go.Pm
namespace Go.Pm
variable {T:Tab} {ρ ω:Type} {out:ρ->ω}
abbrev Kn:=List Bool
def yn6 (kn:Kn):Opnd->Bool
 | .reg j=>kn.getD j false
 | .con _=>true
def branchM (s:St) (kn:Kn) (c:Opnd):M ρ ω (Bool×St×Kn):=(M.opt (s.rd c)).bind fun v=>match v with
 | .bool t=>match yn6 kn c with
   | true=>(match t with|true=>M.pure (true,s,kn)|false=>M.pure (false,s,kn))
   | false=>(match c with
     | .reg j=>(M.br t).bind fun t'=>M.pure (t',{ s with vars:=s.vars.set j (.bool t') },kn.set j true)
     | _=>M.fail)
 | _=>M.fail
theorem ydk {s:St} {j:Nat} {t:Bool} (hc:s.rd (.reg j)=some (.bool t)):({ s with vars:=s.vars.set j (.bool t) }:St)=s:=by
 have hv:∃ u,s.vars[j]? =some u/\V.borrowAll j u=.bool t:=by
  simp only [St.rd,Option.map_eq_some_iff] at hc
  obtain ⟨u,h1,h2⟩:=hc
  exact ⟨u,h1,h2⟩
 obtain ⟨u,h1,h2⟩:=hv
 have hu:u=.bool t:=by cases u <;> simp [V.borrowAll,V.borrow] at h2 <;> simp [h2]
 subst hu
 obtain ⟨hl,he⟩:=List.getElem?_eq_some_iff.1 h1
 have:s.vars.set j (.bool t)=s.vars:=by rw [<- he];exact List.set_getElem_self hl
 rw [this]
theorem zhi (s:St) (kn:Kn) (c:Opnd):Sound T out (branchM s kn c:M ρ ω _) (fun q=>s.rd c=some (.bool q.1)/\q.2.1=s):=by
 refine Sound.bind (Sound.opt _) fun v h1=> ?_
 split
 ·rename_i t
  split
  ·split
   ·exact Sound.pure ⟨h1,rfl⟩
   ·exact Sound.pure ⟨h1,rfl⟩
  ·split
   ·rename_i j _
    refine Sound.bind (Sound.br t) fun t' h2=>Sound.pure ?_
    subst h2
    exact ⟨h1,ydk h1⟩
   ·exact Sound.fail
 ·exact Sound.fail
def binM (op:BinOp) (a b:V):M ρ ω V:=
 match op with
 | .quo=>(match a,b with
   | .int k m,.int k' n=>(M.must (decide (k=k'))).bind fun _=>(M.req (n≠0)).bind fun _=>M.pure (.int k (k.wrap (m.tdiv n)))
   | _,_=>M.fail)
 | .rem=>(match a,b with
   | .int k m,.int k' n=>(M.must (decide (k=k'))).bind fun _=>(M.req (n≠0)).bind fun _=>M.pure (.int k (m.tmod n))
   | _,_=>M.fail)
 | .shl=>(match a,b with
   | .int k m,.int _ n=>(M.req (¬ n<0)).bind fun _=>M.pure (.int k (k.wrap (m * 2 ^ (min n.toNat k.bits))))
   | _,_=>M.fail)
 | .shr=>(match a,b with
   | .int k m,.int _ n=>(M.req (¬ n<0)).bind fun _=>M.pure (.int k (m.fdiv (2 ^ (min n.toNat k.bits))))
   | _,_=>M.fail)
 | .add=>(match a,b with
   | .str x,.str y=>(M.req (x.size+y.size<=9223372036854775807)).bind fun _=>M.pure (.str (x++y))
   | a,b=>M.opt (zw8 .add a b))
 | op=>M.opt (zw8 op a b)
theorem ygm (op:BinOp) (a b:V):Sound T out (binM op a b:M ρ ω _) (fun v=>zw8 op a b=some v):=by
 unfold binM
 split
 ·split
  ·exact Sound.bind (Sound.must _) fun _ h1=>Sound.bind (Sound.req _) fun _ h2=>Sound.pure (by simp only [zw8];rw [if_pos (of_decide_eq_true h1)];simp only [zps];rw [if_neg h2])
  ·exact Sound.fail
 ·split
  ·exact Sound.bind (Sound.must _) fun _ h1=>Sound.bind (Sound.req _) fun _ h2=>Sound.pure (by simp only [zw8];rw [if_pos (of_decide_eq_true h1)];simp only [zps];rw [if_neg h2])
  ·exact Sound.fail
 ·split
  ·exact Sound.bind (Sound.req _) fun _ h2=>Sound.pure (by simp only [zw8];rw [if_neg h2])
  ·exact Sound.fail
 ·split
  ·exact Sound.bind (Sound.req _) fun _ h2=>Sound.pure (by simp only [zw8];rw [if_neg h2])
  ·exact Sound.fail
 ·split
  ·exact Sound.bind (Sound.req _) fun _ h2=>Sound.pure (by simp only [zw8];rw [if_pos h2])
  ·exact Sound.opt _
 ·exact Sound.opt _
def yji (s:St):Option Opnd->Option Int
 | none=>some 0
 | some o=>(s.rd o).bind yf2
def yjc (s:St) (n:Int):Option Opnd->Option Int
 | none=>some n
 | some o=>(s.rd o).bind yf2
abbrev Rs:=V×Bool×St×Kn
def callsM (s:St) (kn:Kn) (f:FuncId) (ms:List PM) (frz:Bool) (vs:List V):M ρ ω Rs:=match frz with
 | true=>(s.passesM 0 ms vs).bind fun p=>(M.opt (p.2.2.windows p.2.1)).bind fun bs=>(M.call f p.1 bs).bind fun r=>(M.opt (p.2.2.backs p.2.1 r.2)).bind fun q=>(M.opt (q.1.land p.2.1.length r.1 q.2)).bind fun w=>M.pure (w.1,false,w.2,kn)
 | false=>(s.viewsAllM vs).bind fun xs=>(M.callF f xs).bind fun r=>M.pure (r,false,s,kn)
def appM (s:St) (kn:Kn) (e bytes:Nat) (frz:Bool) (xs:List V) (y:Opnd):M ρ ω Rs:=(M.opt (s.rd y)).bind fun v=>match v with
 | .str b=>(M.must (e == 1)).bind fun _=>(M.req ((xs.length+b.size) * bytes<=70368744177664)).bind fun _=>(M.eqL (xs++zc7 b)).bind fun zs=>M.pure (.own e zs,false,s,kn)
 | .imm e' ys=>(M.must (e' == e)).bind fun _=>(M.req ((xs.length+ys.length) * bytes<=70368744177664)).bind fun _=>(M.eqL (xs++ys)).bind fun zs=>M.pure (.own e zs,false,s,kn)
 | v=>(s.handM frz v).bind fun q=>match q.1 with
   | .own e' ys=>(M.must (e' == e)).bind fun _=>(M.req ((xs.length+ys.length) * bytes<=70368744177664)).bind fun _=>(M.eqL (xs++ys)).bind fun zs=>M.pure (.own e zs,false,q.2,kn)
   | .imm e' ys=>(M.must (e' == e)).bind fun _=>(M.req ((xs.length+ys.length) * bytes<=70368744177664)).bind fun _=>(M.eqL (xs++ys)).bind fun zs=>M.pure (.own e zs,false,q.2,kn)
   | _=>M.fail
def stepM (s:St) (kn:Kn):HOp->M ρ ω Rs
 | .mov x=>(M.opt (s.rd x)).bind fun v=>M.pure (v,yn6 kn x,s,kn)
 | .un op x=>(M.opt (s.rd x)).bind fun v=>(M.opt (unV op v)).bind fun v=>M.pure (v,yn6 kn x,s,kn)
 | .pick c a b=>(branchM s kn c).bind fun q=>(M.opt (q.2.1.rd (match q.1 with|true=>a|false=>b))).bind fun v=>M.pure (v,yn6 q.2.2 (match q.1 with|true=>a|false=>b),q.2.1,q.2.2)
 | .box x=>(M.opt (s.rd x)).bind fun v=>(s.takeM v).bind fun q=>M.pure (.ref (.box q.2.boxes.length) 0 [],false,{ q.2 with boxes:=q.2.boxes ++ [q.1.cells] },kn)
 | .tmov x=>(M.opt (s.rd x)).bind fun w=>match w with
   | .tup vs=>(s.takesAllM false vs).bind fun q=>M.pure (.tup q.1,false,q.2,kn)
   | v=>(s.freezeM v).bind fun q=>M.pure (q.1,false,q.2,kn)
 | .extt i x=>(M.opt (s.rd x)).bind fun w=>match w with
   | .tup vs=>(M.opt vs[i]?).bind fun v=>(s.takeM v).bind fun q=>M.pure (q.1,false,q.2,kn)
   | _=>M.fail
 | .boxk i=>(M.opt (s.rd (.reg i))).bind fun v=>(s.takeM v).bind fun q=>M.pure (.ref (.box q.2.boxes.length) 0 [],false,St.remark (q.2.vars.set i (zej q.2.boxes.length q.1)) { q.2 with boxes:=q.2.boxes ++ [q.1.cells] },kn)
 | .list e frz xs=>(M.opt (s.rds xs)).bind fun vs=>(s.takesAllM frz vs).bind fun p=>(M.must (p.1.all (fun y=>y.cells.length == e))).bind fun _=>(M.eqL p.1).bind fun ys=>M.pure (.own e ys,false,p.2,kn)
 | .load n p=>(M.opt (s.rd p)).bind fun v=>match v with
   | .ref r c up=>(s.contM r up).bind fun cs=>(match n with
     | none=>(M.opt cs[c]?).bind fun v=>M.pure (v.borrow r c up,false,s,kn)
     | some m=>(M.must (decide (c+m<=cs.length))).bind fun _=>M.pure (.agg (borrows r up c ((cs.drop c).take m)),false,s,kn))
   | .eptr cs c=>(match n with
     | none=>(M.opt cs[c]?).bind fun v=>M.pure (v,false,s,kn)
     | some m=>(M.must (decide (c+m<=cs.length))).bind fun _=>M.pure (.agg ((cs.drop c).take m),false,s,kn))
   | _=>M.fail
 | .store n frz p x=>(M.opt (s.rd p)).bind fun vp=>(M.opt (s.rd x)).bind fun vx=>match vp,vx with
   | .ref r c up,.ref (.box k) off []=>(M.must (decide (n=none)&&up.isEmpty&&r.okAt up)).bind fun _=>(s.putCellsM r c up [.ref (.box k) off []]).bind fun s'=>M.pure (.gone,false,s',kn)
   | .ref r c up,v=>(M.must (r.okAt up)).bind fun _=>(s.handM frz v).bind fun q=>(M.must (decide (q.1.cells.length=n.getD 1))).bind fun _=>(q.2.putCellsM r c up q.1.cells).bind fun s'=>M.pure (.gone,false,s',kn)
   | _,_=>M.fail
 | .bin op x y=>(M.opt (s.rd x)).bind fun a=>(M.opt (s.rd y)).bind fun b=>(binM op a b).bind fun v=>M.pure (v,false,s,kn)
 | .toStr x=>(M.opt (s.rd x)).bind fun v=>(s.elemsM 1 v).bind fun xs=>(M.byt xs).bind fun bs=>M.pure (.str ⟨bs.toArray⟩,false,s,kn)
 | .toBytes x=>(M.opt (s.rd x)).bind fun v=>match v with
   | .str b=>(M.eqL (zc7 b)).bind fun ys=>M.pure (.own 1 ys,false,s,kn)
   | _=>M.fail
 | .make e bytes z x=>(M.opt (s.rd x)).bind fun v=>match v with
   | .int _ n=>(M.req (0<=n/\n.toNat * bytes<=70368744177664)).bind fun _=>(M.eqL (List.replicate n.toNat z)).bind fun ys=>M.pure (.own e ys,false,s,kn)
   | _=>M.fail
 | .slice e x lo hi=>(M.opt (s.rd x)).bind fun v=>(M.opt (ydq v)).bind fun n=>(M.opt (yji s lo)).bind fun l=>(M.opt (yjc s n hi)).bind fun h=>(M.req (0<=l/\l<=h/\h<=n)).bind fun _=>match v with
   | .hd e' r c up lo' _=>(M.must (e' == e)).bind fun _=>M.pure (.hd e r c up (lo'+l.toNat) (lo'+h.toNat),false,s,kn)
   | .imm e' xs=>(M.must (e' == e)).bind fun _=>(M.eqL ((xs.take h.toNat).drop l.toNat)).bind fun ys=>M.pure (.imm e ys,false,s,kn)
   | .own e' []=>(M.must (e' == e)).bind fun _=>M.pure (.own e [],false,s,kn)
   | _=>M.fail
 | .sslice x lo hi=>(M.opt (s.rd x)).bind fun v=>match v with
   | .str b=>(M.opt (yji s lo)).bind fun l=>(M.opt (yjc s b.size hi)).bind fun h=>(M.req (0<=l/\l<=h/\h<=b.size)).bind fun _=>M.pure (.str (b.extract l.toNat h.toNat),false,s,kn)
   | _=>M.fail
 | .idx e p i=>(M.opt (s.rd p)).bind fun v=>(M.opt (s.rd i)).bind fun w=>match v,w with
   | .hd e' r c up lo hi,.int _ n=>(M.must (e' == e)).bind fun _=>(M.req (0<=n/\n<(hi - lo:Nat))).bind fun _=>M.pure (.ref r 0 ((lo+n.toNat,e,c)::up),false,s,kn)
   | .imm e' xs,.int _ n=>(M.must (e' == e)).bind fun _=>(M.req (0<=n)).bind fun _=>(M.look xs[n.toNat]?).bind fun x=>M.pure (.eptr x.cells 0,false,s,kn)
   | _,_=>M.fail
 | .aidx n e p i=>(M.opt (s.rd p)).bind fun v=>(M.opt (s.rd i)).bind fun w=>match v,w with
   | .ref r c up,.int _ m=>(M.req (0<=m/\m<n)).bind fun _=>M.pure (.ref r (c+m.toNat * e) up,false,s,kn)
   | _,_=>M.fail
 | .sidx x i=>(M.opt (s.rd x)).bind fun v=>(M.opt (s.rd i)).bind fun w=>match v,w with
   | .str b,.int _ n=>(M.req (0<=n)).bind fun _=>(M.look ((b.data.toList[n.toNat]?).map zpk)).bind fun x=>M.pure (x,false,s,kn)
   | _,_=>M.fail
 | .len x=>(M.opt (s.rd x)).bind fun v=>(M.opt (ydq v)).bind fun n=>(M.eqI (n:Nat)).bind fun m=>M.pure (.int .i64 m,false,s,kn)
 | .append e bytes frz x y=>(M.opt (s.rd x)).bind fun a=>(s.takeM a).bind fun q=>match q.1 with
   | .own e' xs=>(M.must (e' == e)).bind fun _=>appM q.2 kn e bytes frz xs y
   | _=>M.fail
 | .copy e x y=>(M.opt (s.rd x)).bind fun a=>(M.opt (s.rd y)).bind fun v=>match a with
   | .hd e' r c up lo hi=>(s.getM r c up).bind fun w=>(match w with
     | .own _ xs=>(s.elemsM e v).bind fun ys=>(M.must (e' == e)).bind fun _=>(M.req (hi<=xs.length/\lo<=hi)).bind fun _=>(M.know (ys.all ykz)).bind fun _=>
       (M.eqL (xs.take lo++ys.take (hi - lo)++xs.drop (lo+min ys.length (hi - lo)))).bind fun zs=>(s.putM r c up (.own e zs)).bind fun s'=>M.pure (.int .i64 (min ys.length (hi - lo):Nat),false,s',kn)
     | _=>M.fail)
   | _=>M.fail
 | .call f ms frz args=>(M.opt (s.rds args)).bind fun vs=>callsM s kn f ms frz vs
 | .lcall f x k=>(M.opt (s.rd x)).bind fun v=>(M.opt (s.rd k)).bind fun w=>match w with
   | .int ik m=>(s.lendM v).bind fun q=>(M.call f [q.1,.int ik m] [[.gone]]).bind fun r=>(match r.1 with
     | .tup [.int jk n,.tup [t]]=>(M.must (zpw v.cells&&ztk q.1 t)).bind fun _=>(q.2.givesM v.cells t.cells).bind fun s'=>M.pure (.int jk n,false,s'.remark s.vars,kn)
     | _=>M.fail)
   | _=>M.fail
 | .dyn x args=>(M.opt (s.rd x)).bind fun fv=>(M.opt (s.rds args)).bind fun vs=>(s.viewM fv).bind fun w=>match w with
   | .clo f conts=>(s.viewsAllM vs).bind fun xs=>(M.must (conts.all V.okE)).bind fun _=>(M.callF f (xs++conts.map fun c=>.eptr c.cells 0)).bind fun r=>M.pure (r,false,s,kn)
   | _=>M.fail
 | h=>(M.opt (s.step (fun _ _ _=>none) h)).bind fun q=>M.pure (q.1,false,q.2,kn)
theorem zx8 (s:St) (kn:Kn) (f ms frz args) {vs:List V} (h1:s.rds args=some vs):Sound T out (callsM s kn f ms frz vs:M ρ ω _) (fun q=>s.step (Run T) (.call f ms frz args)=some (q.1,q.2.2.1)):=by
 cases frz <;> simp only [callsM]
 ·exact Sound.bind (zep s vs) fun xs h2=>Sound.bind (Sound.callF _ _) fun r h3=>Sound.pure (by simp only [St.step,h1,h2,h3.1];simp [h3.2])
 ·refine Sound.bind (zf9 ms vs s 0) fun p h2=>Sound.bind (Sound.opt _) fun bs h3=>Sound.bind (Sound.call _ _ _) fun r h4=>Sound.bind (Sound.opt _) fun q h5=>Sound.bind (Sound.opt _) fun w h6=>Sound.pure ?_
  obtain ⟨xs,ws,s1⟩:=p
  obtain ⟨r,bs'⟩:=r
  obtain ⟨s2,more⟩:=q
  simp only [St.step,h1,h2,h3,h4,h5,if_true]
  exact h6
theorem yfp (s s1:St) (kn:Kn) (e bytes frz x y) {a:V} {xs:List V} (h1:s.rd x=some a) (h2:s.take a=some (.own e xs,s1)):Sound T out (appM s1 kn e bytes frz xs y:M ρ ω _) (fun q=>s.step (Run T) (.append e bytes frz x y)=some (q.1,q.2.2.1)):=by
 refine Sound.bind (Sound.opt _) fun v h3=> ?_
 split
 ·refine Sound.bind (Sound.must _) fun _ h4=>Sound.bind (Sound.req _) fun _ h5=>Sound.bind (Sound.eqL _) fun zs h6=>Sound.pure ?_
  simp only [St.step,h1,h2,if_true,h3]
  rw [if_pos ⟨eq_of_beq h4,h5⟩,h6]
 ·refine Sound.bind (Sound.must _) fun _ h4=>Sound.bind (Sound.req _) fun _ h5=>Sound.bind (Sound.eqL _) fun zs h6=>Sound.pure ?_
  simp only [St.step,h1,h2,if_true,h3]
  rw [if_pos ⟨eq_of_beq h4,h5⟩,h6]
 ·rename_i n1 n2
  refine Sound.bind (zm1 s1 frz v) fun q h7=> ?_
  obtain ⟨qv,s2⟩:=q
  simp only
  split
  ·refine Sound.bind (Sound.must _) fun _ h4=>Sound.bind (Sound.req _) fun _ h5=>Sound.bind (Sound.eqL _) fun zs h6=>Sound.pure ?_
   simp only [St.step,h1,h2,if_true,h3,h7]
   rw [if_pos ⟨eq_of_beq h4,h5⟩,h6]
  ·refine Sound.bind (Sound.must _) fun _ h4=>Sound.bind (Sound.req _) fun _ h5=>Sound.bind (Sound.eqL _) fun zs h6=>Sound.pure ?_
   simp only [St.step,h1,h2,if_true,h3,h7]
   rw [if_pos ⟨eq_of_beq h4,h5⟩,h6]
  ·exact Sound.fail
theorem yo1 {s:St} {h:HOp} {q:V×St} (e:s.step (fun _ _ _=>none) h=some q):s.step (Run T) h=some q:=zdp (R:=fun _ _ _=>none) (R':=Run T) (fun _ _ _ _ h=>by cases h) s h q e
theorem zii (s:St) (kn:Kn) (h:HOp):Sound T out (stepM s kn h:M ρ ω _) (fun q=>s.step (Run T) h=some (q.1,q.2.2.1)):=by
 cases h <;> simp only [stepM]
 case mov x=>exact Sound.bind (Sound.opt _) fun v h1=>Sound.pure (by simp only [St.step,h1,Option.map_some])
 case un op x=>exact Sound.bind (Sound.opt _) fun v h1=>Sound.bind (Sound.opt _) fun w h2=>Sound.pure (by simp only [St.step,h1,Option.bind_some,h2,Option.map_some])
 case pick c a b=>
  refine Sound.bind (zhi s kn c) fun q h1=>Sound.bind (Sound.opt _) fun v h2=>Sound.pure ?_
  obtain ⟨t,s',kn'⟩:=q
  obtain ⟨h1,rfl⟩:=h1
  cases t
  ·simp only at h1 h2 ⊢;simp only [St.step,h1,Bool.false_eq_true,if_false,h2,Option.map_some]
  ·simp only at h1 h2 ⊢;simp only [St.step,h1,if_true,h2,Option.map_some]
 case box x=>exact Sound.bind (Sound.opt _) fun v h1=>Sound.bind (zf5 s v) fun q h2=>Sound.pure (by simp only [St.step,h1,h2,Option.map_some])
 case tmov x=>
  refine Sound.bind (Sound.opt _) fun w h1=> ?_
  split
  ·exact Sound.bind (zdf false _ s) fun q h3=>Sound.pure (by simp only [St.step,h1,h3,Option.map_some])
  ·rename_i hne
   exact Sound.bind (zh8 s _) fun q h3=>Sound.pure (by
    simp only [St.step,h1];exact h3)
 case extt i x=>
  refine Sound.bind (Sound.opt _) fun w h1=> ?_
  split
  ·exact Sound.bind (Sound.opt _) fun v h2=>Sound.bind (zf5 s v) fun q h3=>Sound.pure (by simp only [St.step,h1,h2,Option.bind_some,h3])
  ·exact Sound.fail
 case boxk i=>exact Sound.bind (Sound.opt _) fun v h1=>Sound.bind (zf5 s v) fun q h2=>Sound.pure (by simp only [St.step,h1,h2,Option.map_some])
 case list e frz xs=>
  refine Sound.bind (Sound.opt _) fun vs h1=>Sound.bind (zdf frz vs s) fun p h2=>Sound.bind (Sound.must _) fun _ h3=>Sound.bind (Sound.eqL _) fun ys h4=>Sound.pure ?_
  obtain ⟨p1,p2⟩:=p
  simp only at h3 h4
  simp only [St.step,h1,h2,h3,if_true,<- h4]
 case load n p=>
  refine Sound.bind (Sound.opt _) fun v h1=> ?_
  split
  ·refine Sound.bind (zde s _ _) fun cs h2=> ?_
   split
   ·exact Sound.bind (Sound.opt _) fun w h3=>Sound.pure (by simp only [St.step,h1,h2,h3,Option.map_some])
   ·exact Sound.bind (Sound.must _) fun _ h3=>Sound.pure (by simp only [St.step,h1,h2];rw [if_pos (of_decide_eq_true h3)])
  ·split
   ·exact Sound.bind (Sound.opt _) fun w h3=>Sound.pure (by simp only [St.step,h1,h3,Option.map_some])
   ·exact Sound.bind (Sound.must _) fun _ h3=>Sound.pure (by simp only [St.step,h1];rw [if_pos (of_decide_eq_true h3)])
  ·exact Sound.fail
 case store n frz p x=>
  refine Sound.bind (Sound.opt _) fun vp h1=>Sound.bind (Sound.opt _) fun vx h2=> ?_
  split
  ·refine Sound.bind (Sound.must _) fun _ h3=>Sound.bind (zez _ _ _ _ _) fun s' h4=>Sound.pure ?_
   simp only [Bool.and_eq_true,decide_eq_true_eq,List.isEmpty_iff] at h3
   simp only [St.step,h1,h2]
   rw [if_pos ⟨h3.1.1,h3.1.2,h3.2⟩,h4];rfl
  ·refine Sound.bind (Sound.must _) fun _ h3=>Sound.bind (zm1 s frz vx) fun q h4=>Sound.bind (Sound.must _) fun _ h5=>Sound.bind (zez _ _ _ _ _) fun s' h6=>Sound.pure ?_
   obtain ⟨qv,s2⟩:=q
   simp only at h5 h6
   simp only [St.step,h1,h2]
   rw [if_pos h3]
   simp only [h4]
   rw [if_pos (of_decide_eq_true h5),h6];rfl
  ·exact Sound.fail
 case bin op x y=>exact Sound.bind (Sound.opt _) fun a h1=>Sound.bind (Sound.opt _) fun b h2=>Sound.bind (ygm op a b) fun v h3=>Sound.pure (by simp only [St.step,h1,h2,h3,Option.map_some])
 case toStr x=>exact Sound.bind (Sound.opt _) fun v h1=>Sound.bind (zpf s 1 v) fun xs h2=>Sound.bind (Sound.byt _) fun bs h3=>Sound.pure (by simp only [St.step,h1,h2,Option.bind_some,h3,Option.map_some])
 case toBytes x=>
  refine Sound.bind (Sound.opt _) fun v h1=> ?_
  split
  ·exact Sound.bind (Sound.eqL _) fun ys h2=>Sound.pure (by simp only [St.step,h1,h2])
  ·exact Sound.fail
 case make e bytes z x=>
  refine Sound.bind (Sound.opt _) fun v h1=> ?_
  split
  ·exact Sound.bind (Sound.req _) fun _ h3=>Sound.bind (Sound.eqL _) fun ys h2=>Sound.pure (by simp only [St.step,h1,h2];rw [if_pos h3])
  ·exact Sound.fail
 case slice e x lo hi=>
  refine Sound.bind (Sound.opt _) fun v h1=>Sound.bind (Sound.opt _) fun n h2=>Sound.bind (Sound.opt _) fun l h3=>Sound.bind (Sound.opt _) fun h h4=>Sound.bind (Sound.req _) fun _ h5=> ?_
  split
  ·refine Sound.bind (Sound.must _) fun _ h6=>Sound.pure ?_
   cases lo <;> cases hi <;> (simp only [yji,yjc,Option.some.injEq] at h3 h4;first|(simp only [St.step,h1,h2,h3,h4];rw [if_pos h5,if_pos (eq_of_beq h6)])|(subst h4;simp only [St.step,h1,h2,h3];rw [if_pos h5,if_pos (eq_of_beq h6)])|(subst h3;simp only [St.step,h1,h2,h4];rw [if_pos h5,if_pos (eq_of_beq h6)])|(subst h3;subst h4;simp only [St.step,h1,h2];rw [if_pos h5,if_pos (eq_of_beq h6)]))
  ·refine Sound.bind (Sound.must _) fun _ h6=>Sound.bind (Sound.eqL _) fun ys h7=>Sound.pure ?_
   cases lo <;> cases hi <;> (simp only [yji,yjc,Option.some.injEq] at h3 h4;first|(simp only [St.step,h1,h2,h3,h4];rw [if_pos h5,if_pos (eq_of_beq h6),h7])|(subst h4;simp only [St.step,h1,h2,h3];rw [if_pos h5,if_pos (eq_of_beq h6),h7])|(subst h3;simp only [St.step,h1,h2,h4];rw [if_pos h5,if_pos (eq_of_beq h6),h7])|(subst h3;subst h4;simp only [St.step,h1,h2];rw [if_pos h5,if_pos (eq_of_beq h6),h7]))
  ·refine Sound.bind (Sound.must _) fun _ h6=>Sound.pure ?_
   cases lo <;> cases hi <;> (simp only [yji,yjc,Option.some.injEq] at h3 h4;first|(simp only [St.step,h1,h2,h3,h4];rw [if_pos h5,if_pos (eq_of_beq h6)])|(subst h4;simp only [St.step,h1,h2,h3];rw [if_pos h5,if_pos (eq_of_beq h6)])|(subst h3;simp only [St.step,h1,h2,h4];rw [if_pos h5,if_pos (eq_of_beq h6)])|(subst h3;subst h4;simp only [St.step,h1,h2];rw [if_pos h5,if_pos (eq_of_beq h6)]))
  ·exact Sound.fail
 case sslice x lo hi=>
  refine Sound.bind (Sound.opt _) fun v h1=> ?_
  split
  ·rename_i b
   refine Sound.bind (Sound.opt _) fun l h3=>Sound.bind (Sound.opt _) fun h h4=>Sound.bind (Sound.req _) fun _ h5=>Sound.pure ?_
   cases lo <;> cases hi <;> (simp only [yji,yjc,Option.some.injEq] at h3 h4;first|(simp only [St.step,h1,h3,h4];rw [if_pos h5])|(subst h4;simp only [St.step,h1,h3];rw [if_pos h5])|(subst h3;simp only [St.step,h1,h4];rw [if_pos h5])|(subst h3;subst h4;simp only [St.step,h1];rw [if_pos h5]))
  ·exact Sound.fail
 case idx e p i=>
  refine Sound.bind (Sound.opt _) fun v h1=>Sound.bind (Sound.opt _) fun w h2=> ?_
  split
  ·exact Sound.bind (Sound.must _) fun _ h3=>Sound.bind (Sound.req _) fun _ h4=>Sound.pure (by simp only [St.step,h1,h2];rw [if_pos ⟨eq_of_beq h3,h4⟩])
  ·exact Sound.bind (Sound.must _) fun _ h3=>Sound.bind (Sound.req _) fun _ h4=>Sound.bind (Sound.look _) fun x h5=>Sound.pure (by simp only [St.step,h1,h2];rw [if_pos ⟨eq_of_beq h3,h4⟩,h5];rfl)
  ·exact Sound.fail
 case aidx n e p i=>
  refine Sound.bind (Sound.opt _) fun v h1=>Sound.bind (Sound.opt _) fun w h2=> ?_
  split
  ·exact Sound.bind (Sound.req _) fun _ h4=>Sound.pure (by simp only [St.step,h1,h2];rw [if_pos h4])
  ·exact Sound.fail
 case sidx x i=>
  refine Sound.bind (Sound.opt _) fun v h1=>Sound.bind (Sound.opt _) fun w h2=> ?_
  split
  ·refine Sound.bind (Sound.req _) fun _ h4=>Sound.bind (Sound.look _) fun x h5=>Sound.pure ?_
   simp only [Option.map_eq_some_iff] at h5
   obtain ⟨u,h6,h7⟩:=h5
   simp only [St.step,h1,h2];rw [if_pos h4,h6];simp only [Option.map_some,h7]
  ·exact Sound.fail
 case len x=>
  refine Sound.bind (Sound.opt _) fun v h1=>Sound.bind (Sound.opt _) fun n h2=>Sound.bind (Sound.eqI _) fun m h3=>Sound.pure ?_
  simp only [St.step,h1,Option.bind_some,h2,h3]
 case append e bytes frz x y=>
  refine Sound.bind (Sound.opt _) fun a h1=>Sound.bind (zf5 s a) fun q h2=> ?_
  obtain ⟨qv,s1⟩:=q
  simp only
  split
  ·refine Sound.bind (Sound.must _) fun _ h3=> ?_
   have h3:=eq_of_beq h3
   subst h3
   exact yfp s s1 kn _ _ _ _ _ h1 h2
  ·exact Sound.fail
 case copy e x y=>
  refine Sound.bind (Sound.opt _) fun a h1=>Sound.bind (Sound.opt _) fun v h2=> ?_
  split
  ·refine Sound.bind (zoi s _ _ _) fun w h3=> ?_
   split
   ·refine Sound.bind (zpf s e v) fun ys h4=>Sound.bind (Sound.must _) fun _ h5=>Sound.bind (Sound.req _) fun _ h6=>Sound.bind (Sound.know _) fun _ h7=>Sound.bind (Sound.eqL _) fun zs h8=>Sound.bind (zhj s _ _ _ _) fun s' h9=>Sound.pure ?_
    simp only [St.step,h1,h2,h3,h4]
    rw [if_pos ⟨eq_of_beq h5,h6.1,h6.2,h7⟩,h8,h9];rfl
   ·exact Sound.fail
  ·exact Sound.fail
 case call f ms frz args=>exact Sound.bind (Sound.opt _) fun vs h1=>zx8 s kn f ms frz args h1
 case lcall f x k=>
  refine Sound.bind (Sound.opt _) fun v h1=>Sound.bind (Sound.opt _) fun w h2=> ?_
  split
  ·refine Sound.bind (yde s v) fun q h3=>Sound.bind (Sound.call _ _ _) fun r h4=> ?_
   obtain ⟨y,s1⟩:=q
   obtain ⟨r,bs'⟩:=r
   simp only at h4 ⊢
   split
   ·refine Sound.bind (Sound.must _) fun _ h5=>Sound.bind (zjc _ _ _) fun s' h6=>Sound.pure ?_
    simp only [St.step,h1,h2,h3,h4,h5,if_true,h6,Option.map_some]
   ·exact Sound.fail
  ·exact Sound.fail
 case dyn x args=>
  refine Sound.bind (Sound.opt _) fun fv h1=>Sound.bind (Sound.opt _) fun vs h2=>Sound.bind (zv5 s fv) fun w h3=> ?_
  split
  ·refine Sound.bind (zep s vs) fun xs h4=>Sound.bind (Sound.must _) fun _ h5=>Sound.bind (Sound.callF _ _) fun r h6=>Sound.pure ?_
   simp only [St.step,h1,h2,h3,h4]
   rw [if_pos h5]
   simp [h6.1,h6.2]
  ·exact Sound.fail
 all_goals exact Sound.bind (Sound.opt _) fun q h1=>Sound.pure (yo1 h1)
end Go.Pm
namespace Go.Pm
variable {T:Tab} {ρ ω:Type} {out:ρ->ω} {ns:Nat}
def kn1 (kn:Kn) (d:Option Nat) (l:Bool):Kn:=match d with
 | none=>kn ++ [l]
 | some j=>(kn.set j l) ++ [false]
def opsM (ns:Nat):List (HOp×Option Nat×Option (Nat×Bool))->St->Kn->M ρ ω (St×Kn)
 | [],s,kn=>M.pure (s,kn)
 | (o,d,none)::os,s,kn=>(stepM s kn o).bind fun q=>(q.2.2.1.destM ns d q.1).bind fun s1=>opsM ns os s1 (kn1 q.2.2.2 d q.2.1)
 | (o,d,some (j,want))::os,s,kn=>
   match s.vars[j]? with
   | some (.tup [])=>(match d with
     | none=>opsM ns os ⟨s.vars ++ [.tup []],s.boxes⟩ (kn ++ [false])
     | some _=>M.fail)
   | _=>(branchM s kn (.reg j)).bind fun b=>match b.1 == want with
     | true=>(stepM b.2.1 b.2.2 o).bind fun q=>(q.2.2.1.destM ns d q.1).bind fun s1=>opsM ns os s1 (kn1 q.2.2.2 d q.2.1)
     | false=>match d with
       | none=>opsM ns os ⟨b.2.1.vars ++ [.tup []],b.2.1.boxes⟩ (b.2.2 ++ [false])
       | some _=>M.fail
theorem yfy {s:St} {j:Nat} {t:Bool} (hc:s.rd (.reg j)=some (.bool t)):s.vars[j]? =some (.bool t):=by
 simp only [St.rd,Option.map_eq_some_iff] at hc
 obtain ⟨u,h1,h2⟩:=hc
 have hu:u=.bool t:=by cases u <;> simp [V.borrowAll,V.borrow] at h2 <;> simp [h2]
 rw [h1,hu]
theorem zj5:∀ (os) (s:St) (kn:Kn),Sound T out (opsM ns os s kn:M ρ ω _) (fun q=>zc5 (Run T) ns os s=some q.1)
 | [],s,kn=>Sound.pure rfl
 | (o,d,none)::os,s,kn=>Sound.bind (zii s kn o) fun q h1=>Sound.bind (zv6 _ ns d q.1) fun s1 h2=>(zj5 os s1 _).mono fun r h3=>by simp only [zc5,St.wanted,h1,h2,h3]
 | (o,d,some (j,want))::os,s,kn=>by
   unfold opsM
   split
   ·rename_i hv
    split
    ·exact (zj5 os _ _).mono fun r h3=>by simp only [zc5,St.wanted,hv,if_true,h3]
    ·exact Sound.fail
   ·refine Sound.bind (zhi s kn _) fun b hb=> ?_
    obtain ⟨t,s',kn'⟩:=b
    obtain ⟨h0,rfl⟩:=hb
    have hv:=yfy h0
    simp only at hv ⊢
    split
    ·rename_i hw
     exact Sound.bind (zii s' kn' o) fun q h1=>Sound.bind (zv6 _ ns d q.1) fun s1 h2=>(zj5 os s1 _).mono fun r h3=>by simp only [zc5,St.wanted,hv,hw,h1,h2,h3]
    ·rename_i hw
     split
     ·exact (zj5 os _ _).mono fun r h3=>by simp only [zc5,St.wanted,hv,hw,if_true,h3]
     ·exact Sound.fail
def zz8 (s:St) (ns:Nat) (keep:List Bool):Bool:=keep.length == (s.vars.drop ns).length&&(List.zipWith (fun b v=>b||V.isGone v) keep (s.vars.drop ns)).all id
theorem zsg {s:St} {keep:List Bool} (h:zz8 s ns keep=true):s.only ns keep=s:=by
 unfold zz8 at h
 simp only [Bool.and_eq_true,beq_iff_eq] at h
 have key:∀ (ks:List Bool) (vs:List V),ks.length=vs.length->(List.zipWith (fun b v=>b||V.isGone v) ks vs).all id=true->List.zipWith (fun (b:Bool) v=>if b then v else .gone) ks vs=vs:=by
  intro ks
  induction ks with
  | nil=>intro vs hl _;cases vs with|nil=>rfl|cons=>simp at hl
  | cons k ks ih=>
    intro vs hl ha
    cases vs with
    | nil=>simp at hl
    | cons v vs=>
      simp only [List.zipWith_cons_cons,List.all_cons,Bool.and_eq_true,id] at ha ⊢
      rw [ih vs (by simpa using hl) ha.2]
      cases k with
      | true=>rfl
      | false=>
        have:v=.gone:=by
         have:=ha.1
         cases v <;> simp [V.isGone] at this ⊢
        rw [this];rfl
 have e:=key keep (s.vars.drop ns) h.1 h.2
 unfold St.only
 rw [e,List.take_append_drop]
theorem zvq {s:St} {keep:List Bool} {j:Nat} {t:Bool} (h:(s.only ns keep).vars[j]? =some (.bool t)):s.vars[j]? =some (.bool t):=by
 unfold St.only at h
 simp only at h
 by_cases hj:j<(s.vars.take ns).length
 ·rw [List.getElem?_append_left hj,List.getElem?_take] at h
  split at h
  ·exact h
  ·cases h
 ·rw [List.getElem?_append_right (by omega)] at h
  simp only [List.getElem?_zipWith] at h
  split at h
  ·rename_i b v h1 h2
   cases b with
   | false=>cases h
   | true=>
     simp only [if_true,Option.some.injEq] at h
     subst h
     have e:(s.vars.take ns).length=ns\/s.vars.drop ns=[]:=by
      simp only [List.length_take]
      by_cases hn:ns<=s.vars.length
      ·left;omega
      ·right;exact List.drop_eq_nil_of_le (by omega)
     rcases e with e|e
     ·rw [e] at h2
      have hj':ns<=j:=by omega
      rw [List.getElem?_drop] at h2
      rw [<- h2];congr 1;omega
     ·rw [e] at h2;cases h2
  ·cases h
def guardM (s:St) (ns:Nat) (keep:List Bool) (kn:Kn) (j:Nat):M ρ ω (Bool×St×Kn):=(M.opt (s.only ns keep).vars[j]?).bind fun v=>match v with
 | .bool t=>(match kn.getD j false with
   | true=>(match t with|true=>M.pure (true,s,kn)|false=>M.pure (false,s,kn))
   | false=>(M.br t).bind fun t'=>M.pure (t',⟨s.vars.set j (.bool t'),s.boxes⟩,kn.set j true))
 | _=>M.fail
theorem zxk (s:St) (keep:List Bool) (kn:Kn) (j:Nat):Sound T out (guardM s ns keep kn j:M ρ ω _) (fun q=>(s.only ns keep).vars[j]? =some (.bool q.1)/\q.2.1=s):=by
 refine Sound.bind (Sound.opt _) fun v h1=> ?_
 split
 ·rename_i t
  split
  ·split
   ·exact Sound.pure ⟨h1,rfl⟩
   ·exact Sound.pure ⟨h1,rfl⟩
  ·refine Sound.bind (Sound.br t) fun t' h2=>Sound.pure ?_
   subst h2
   have h2:=zvq h1
   obtain ⟨hl,he⟩:=List.getElem?_eq_some_iff.1 h2
   have:s.vars.set j (.bool t)=s.vars:=by rw [<- he];exact List.set_getElem_self hl
   exact ⟨h1,by simp only [this]⟩
 ·exact Sound.fail
def listM (s:St):HOp->M ρ ω Unit
 | .list e frz xs=>M.know (s.listOk (.list e frz xs))
 | .lcall _ _ _=>M.fail
 | .boxk _=>M.fail
 | .extt _ _=>M.fail
 | .tmov _=>M.fail
 | _=>M.pure ()
theorem yck (s:St) (h:HOp):Sound T out (listM s h:M ρ ω _) (fun _=>s.listOk h=true):=by
 cases h
 case list e frz xs=>exact Sound.know _
 case lcall f x k=>exact Sound.fail
 case boxk i=>exact Sound.fail
 case extt i x=>exact Sound.fail
 case tmov x=>exact Sound.fail
 all_goals exact Sound.pure rfl
def peekM (s:St) (kn:Kn) (h:HOp):M ρ ω (V×Bool):=(M.must h.pure).bind fun _=>(listM s h).bind fun _=>(stepM s kn h).bind fun q=>(M.must q.1.whole).bind fun _=>M.pure (q.1,q.2.1)
theorem zin (s:St) (kn:Kn) (h:HOp):Sound T out (peekM s kn h:M ρ ω _) (fun q=>s.peek (Run T) h=some q.1):=
 Sound.bind (Sound.must _) fun _ h1=>Sound.bind (yck s h) fun _ h2=>Sound.bind (zii s kn h) fun q h3=>Sound.bind (Sound.must _) fun _ h4=>Sound.pure (by unfold St.peek;rw [if_pos h1,h2,h3];simp [h4])
def stepDM (s:St) (kn:Kn) (h:HOp):M ρ ω (V×Bool×St):=match h.pureD with
 | true=>(peekM s kn h).bind fun q=>M.pure (q.1,q.2,s)
 | false=>(stepM s kn h).bind fun q=>M.pure (q.1,q.2.1,q.2.2.1)
theorem zir (s:St) (kn:Kn) (h:HOp):Sound T out (stepDM s kn h:M ρ ω _) (fun q=>s.stepD (Run T) h=some (q.1,q.2.2)):=by
 unfold stepDM
 split
 ·rename_i hp
  exact Sound.bind (zin s kn h) fun q h1=>Sound.pure (by unfold St.stepD;rw [if_pos hp,h1];rfl)
 ·rename_i hp
  exact Sound.bind (zii s kn h) fun q h1=>Sound.pure (by unfold St.stepD;rw [hp];simpa using h1)
def M.prf (p:Prop):M ρ ω Unit:=fun tp k=>match tp with
 | .ob _ t=>.ob p (k () t)
 | _=>.bad
theorem Sound.prf (p:Prop):Sound T out (M.prf p) (fun _=>p):=fun tp k r hg=>by
 unfold M.prf at hg
 split at hg
 ·obtain ⟨h1,h2⟩:=hg
  exact ⟨_,_,h1.1,h1.2,h2⟩
 ·exact Sound.no hg
def chkM (ns:Nat) (keep:List Bool) (s s2:St) (kn:Kn):List Item->M ρ ω Unit
 | []=>M.pure ()
 | q::qs=>match keep.getD q.i false with
   | true=>chkM ns keep s s2 kn qs
   | false=>match q.g with
     | none=>(M.prf (s2.vars.getD (ns+q.i) .gone=s.vars.getD (ns+q.i) .gone)).bind fun _=>(peekM (s2.only ns q.keep) kn q.h).bind fun v=>(M.prf (v.1=s2.vars.getD (ns+q.i) .gone)).bind fun _=>chkM ns keep s s2 kn qs
     | some _=>M.fail
theorem zl9 {R:zan} {keep:List Bool} {s s2:St}:∀ {dn:List Item},dn.all (fun q=>keep.getD q.i false)=true->ycz R ns keep s s2 dn
 | [],_=>trivial
 | q::dn,h=>by
   simp only [List.all_cons,Bool.and_eq_true] at h
   exact ⟨fun hk=>absurd (h.1.symm.trans hk) (by simp),zl9 h.2⟩
theorem ztt (keep:List Bool) (s s2:St) (kn:Kn):∀ dn,Sound T out (chkM ns keep s s2 kn dn:M ρ ω _) (fun _=>ycz (Run T) ns keep s s2 dn)
 | []=>Sound.pure trivial
 | q::qs=>by
   unfold chkM
   split
   ·rename_i hk
    exact (ztt keep s s2 kn qs).mono fun _ h1=>⟨fun e=>absurd (hk.symm.trans e) (by simp),h1⟩
   ·split
    ·rename_i hg
     exact Sound.bind (Sound.prf _) fun _ h1=>Sound.bind (zin _ kn q.h) fun v h4=>Sound.bind (Sound.prf _) fun _ h6=>(ztt keep s s2 kn qs).mono fun _ h9=>
      ⟨fun _=>⟨h1,by unfold zd1;rw [hg];simp only [St.wanted];rw [h4,h6]⟩,h9⟩
    ·exact Sound.fail
def drawM (ns:Nat):List Bool->List Item->List Item->St->Kn->M ρ ω (St×Kn)
 | _,_,[],s,kn=>M.pure (s,kn)
 | ks,dn,it::its,s,kn=>
   match it.st with
   | true=>
     match it.g,zz8 s ns it.keep&&dn.all (fun q=>(orB ks it.keep).getD q.i false) with
     | none,true=>(stepDM s kn it.h).bind fun q=>(q.2.2.destDM ns (ns+it.i) it.d q.1).bind fun s2=>drawM ns (orB ks it.keep) dn its s2 (kn.set (it.d.getD (ns+it.i)) q.2.1)
     | none,false=>(stepDM (s.only ns it.keep) kn it.h).bind fun q=>(q.2.2.destDM ns (ns+it.i) it.d q.1).bind fun _=>(stepDM s kn it.h).bind fun p=>(p.2.2.destDM ns (ns+it.i) it.d q.1).bind fun s2=>
      (chkM ns (orB ks it.keep) s s2 kn dn).bind fun _=>drawM ns (orB ks it.keep) dn its s2 (kn.set (it.d.getD (ns+it.i)) p.2.1)
     | some _,_=>M.fail
   | false=>
     match it.d with
     | none=>
       match it.g with
       | none=>(peekM (s.only ns it.keep) kn it.h).bind fun q=>drawM ns ks (it::dn) its ⟨s.vars.set (ns+it.i) q.1,s.boxes⟩ (kn.set (ns+it.i) q.2)
       | some (j,want)=>
         match (s.only ns it.keep).vars[j]? with
         | some (.tup [])=>drawM ns ks (it::dn) its ⟨s.vars.set (ns+it.i) (.tup []),s.boxes⟩ kn
         | _=>(guardM s ns it.keep kn j).bind fun b=>match b.1 == want with
           | true=>(peekM (b.2.1.only ns it.keep) b.2.2 it.h).bind fun q=>drawM ns ks (it::dn) its ⟨b.2.1.vars.set (ns+it.i) q.1,b.2.1.boxes⟩ (b.2.2.set (ns+it.i) q.2)
           | false=>drawM ns ks (it::dn) its ⟨b.2.1.vars.set (ns+it.i) (.tup []),b.2.1.boxes⟩ b.2.2
     | some _=>M.fail
theorem zcv:∀ (its ks dn) (s:St) (kn:Kn),Sound T out (drawM ns ks dn its s kn:M ρ ω _) (fun q=>zfj (Run T) ns ks dn its s=some q.1)
 | [],ks,dn,s,kn=>Sound.pure rfl
 | it::its,ks,dn,s,kn=>by
   unfold drawM
   split
   ·rename_i hst
    split
    ·rename_i hg hc
     simp only [Bool.and_eq_true] at hc
     have hon:=zsg hc.1
     refine Sound.bind (zir s kn it.h) fun q h1=>Sound.bind (zke _ _ _ _ _) fun s2 h2=>(zcv its _ dn s2 _).mono fun r h3=> ?_
     simp only [zfj,hst,if_true,hg,Option.isNone_none,hon,h1,h2]
     rw [if_pos (zl9 hc.2)]
     exact h3
    ·rename_i hg hc
     refine Sound.bind (zir (s.only ns it.keep) kn it.h) fun q h1=>Sound.bind (zke _ _ _ _ _) fun s1 h2=>Sound.bind (zir s kn it.h) fun p h4=>Sound.bind (zke _ _ _ _ _) fun s2 h5=>Sound.bind (ztt _ _ _ _ _) fun _ h6=>(zcv its _ dn s2 _).mono fun r h3=> ?_
     simp only [zfj,hst,if_true,hg,Option.isNone_none,h1,h4,h2,h5]
     rw [if_pos h6]
     exact h3
    ·exact Sound.fail
   ·rename_i hst
    split
    ·rename_i hd
     split
     ·rename_i hg
      refine Sound.bind (zin _ kn it.h) fun q h1=>(zcv its _ _ _ _).mono fun r h3=> ?_
      simp only [zfj,hst,Bool.false_eq_true,if_false,zd1,hg,St.wanted,h1,hd,if_true]
      exact h3
     ·rename_i j want hg
      split
      ·rename_i ht
       refine (zcv its _ _ _ _).mono fun r h3=> ?_
       simp only [zfj,hst,Bool.false_eq_true,if_false,zd1,hg,St.wanted,ht,hd,if_true]
       exact h3
      ·refine Sound.bind (zxk s it.keep kn j) fun b hb=> ?_
       obtain ⟨t,s',kn'⟩:=b
       obtain ⟨ht,rfl⟩:=hb
       simp only at ht ⊢
       split
       ·rename_i hw
        refine Sound.bind (zin _ kn' it.h) fun q h1=>(zcv its _ _ _ _).mono fun r h3=> ?_
        simp only [zfj,hst,Bool.false_eq_true,if_false,zd1,hg,St.wanted,ht,hw,h1,hd,if_true]
        exact h3
       ·rename_i hw
        refine (zcv its _ _ _ _).mono fun r h3=> ?_
        simp only [zfj,hst,Bool.false_eq_true,if_false,zd1,hg,St.wanted,ht,hw,hd,if_true]
        exact h3
    ·exact Sound.fail
def permsM (ns:Nat) (its:List Item) (s:St) (kn:Kn) (s1:St):List (List Nat)->M ρ ω Unit
 | []=>M.pure ()
 | p::ps=>(drawM ns [] [] (zer its p) s kn).bind fun q=>(M.prf (q.1=s1)).bind fun _=>permsM ns its s kn s1 ps
theorem zpz (its:List Item) (s:St) (kn:Kn) (s1:St):∀ ps,Sound T out (permsM ns its s kn s1 ps:M ρ ω _) (fun _=>∀ p∈ps,zfj (Run T) ns [] [] (zer its p) s=some s1)
 | []=>Sound.pure (by simp)
 | p::ps=>Sound.bind (zcv (zer its p) [] [] s kn) fun q h1=>Sound.bind (Sound.prf _) fun _ h2=>(zpz its s kn s1 ps).mono fun _ h3=>by
   subst h2
   intro p' hp'
   rcases List.mem_cons.1 hp' with rfl|hp'
   ·exact h1
   ·exact h3 p' hp'
def drawPM (ns:Nat) (its:List Item) (perms:List (List Nat)) (s:St) (kn:Kn):M ρ ω (St×Kn):=
 (drawM ns [] [] its s kn).bind fun q=>(permsM ns its s kn q.1 perms).bind fun _=>M.pure q
theorem ybj (its:List Item) (perms) (s:St) (kn:Kn):Sound T out (drawPM ns its perms s kn:M ρ ω _) (fun q=>zgn (Run T) ns its perms s=some q.1):=
 Sound.bind (zcv its [] [] s kn) fun q h1=>Sound.bind (zpz its s kn q.1 perms) fun _ h2=>Sound.pure (by unfold zgn;rw [h1];simp only;rw [if_pos h2])
def codeM (ns:Nat):HCode->St->Kn->M ρ ω (Ex×St×Kn)
 | .skip,s,kn=>M.pure (.normal,s,kn)
 | .seq a b,s,kn=>(codeM ns a s kn).bind fun q=>match q.1 with
   | .normal=>codeM ns b q.2.1 q.2.2
   | .exit id=>M.pure (.exit id,q.2.1,q.2.2)
   | .ret=>M.pure (.ret,q.2.1,q.2.2)
 | .region ops,s,kn=>(opsM ns ops s kn).bind fun q=>M.pure (.normal,q.1.fin ns,q.2.take ns)
 | .draw m its,s,kn=>(drawM ns [] [] its ⟨s.vars++List.replicate m .gone,s.boxes⟩ (kn++List.replicate m false)).bind fun q=>M.pure (.normal,q.1.fin ns,q.2.take ns)
 | .drawP m its perms,s,kn=>(drawPM ns its perms ⟨s.vars++List.replicate m .gone,s.boxes⟩ (kn++List.replicate m false)).bind fun q=>M.pure (.normal,q.1.fin ns,q.2.take ns)
 | .cond c a b,s,kn=>(branchM s kn c).bind fun q=>match q.1 with
   | true=>codeM ns a q.2.1 q.2.2
   | false=>codeM ns b q.2.1 q.2.2
 | .block id b,s,kn=>(codeM ns b s kn).bind fun q=>match q.1 with
   | .normal=>M.pure (.normal,q.2.1,q.2.2)
   | .exit id'=>(match id' == id with
     | true=>M.pure (.normal,q.2.1,q.2.2)
     | false=>M.pure (.exit id',q.2.1,q.2.2))
   | .ret=>M.pure (.ret,q.2.1,q.2.2)
 | .exit id,s,kn=>M.pure (.exit id,s,kn)
 | .loop dead b,s,_=>(M.loop ns b s.boxes.length dead s).bind fun q=>M.pure (q.1,q.2,List.replicate ns false)
 | .ret,s,kn=>M.pure (.ret,s,kn)
 | .dead,_,_=>M.fail
theorem ze2:∀ (c:HCode) (s:St) (kn:Kn),Sound T out (codeM ns c s kn:M ρ ω _) (fun q=>zhz T ns c s=some (q.1,q.2.1))
 | .skip,s,kn=>Sound.pure (zxv s)
 | .exit id,s,kn=>Sound.pure (zyp id s)
 | .ret,s,kn=>Sound.pure (yca s)
 | .dead,s,kn=>Sound.fail
 | .seq a b,s,kn=>by
   unfold codeM
   refine Sound.bind (ze2 a s kn) fun q h1=> ?_
   obtain ⟨ex,s1,kn1⟩:=q
   simp only at h1 ⊢
   cases ex with
   | normal=>exact (ze2 b s1 kn1).mono fun r h2=>by rw [zo5,h1];exact h2
   | exit id=>exact Sound.pure (by rw [zo5,h1])
   | ret=>exact Sound.pure (by rw [zo5,h1])
 | .region ops,s,kn=>by
   unfold codeM
   exact Sound.bind (zj5 ops s kn) fun q h1=>Sound.pure (by rw [zs0,h1];rfl)
 | .draw m its,s,kn=>by
   unfold codeM
   exact Sound.bind (zcv its [] [] _ _) fun q h1=>Sound.pure (by rw [ybg,h1];rfl)
 | .drawP m its perms,s,kn=>by
   unfold codeM
   exact Sound.bind (ybj its perms _ _) fun q h1=>Sound.pure (by rw [zvy,h1];rfl)
 | .cond c a b,s,kn=>by
   unfold codeM
   refine Sound.bind (zhi s kn c) fun q hq=> ?_
   obtain ⟨t,s',kn'⟩:=q
   obtain ⟨h1,rfl⟩:=hq
   simp only at h1 ⊢
   cases t with
   | true=>exact (ze2 a s' kn').mono fun r h2=>by rw [zq3,h1];simpa using h2
   | false=>exact (ze2 b s' kn').mono fun r h2=>by rw [zq3,h1];simpa using h2
 | .block id b,s,kn=>by
   unfold codeM
   refine Sound.bind (ze2 b s kn) fun q h1=> ?_
   obtain ⟨ex,s1,kn1⟩:=q
   simp only at h1 ⊢
   cases ex with
   | normal=>exact Sound.pure (by rw [zfe,h1])
   | ret=>exact Sound.pure (by rw [zfe,h1])
   | exit id'=>
     simp only
     split
     ·rename_i e
      exact Sound.pure (by rw [zfe,h1];simp only;rw [if_pos (eq_of_beq e)])
     ·rename_i e
      exact Sound.pure (by rw [zfe,h1];simp only;rw [if_neg (by simpa using e)])
 | .loop dead b,s,kn=>by
   unfold codeM
   exact Sound.bind (Sound.loop _ _ _ _ _) fun q h1=>Sound.pure (by rw [yar];exact h1)
def ywc (s:St) (k nb:Nat):Option (V×List (List V)):=match s.boxes[k]? with
 | some b=>if nb<=k/\b.all bnd/\(s.boxes.take nb).all (·.all bnd) then some (.ref (.box nb) 0 [],s.boxes.take nb ++ [b]) else none
 | none=>none
def finishM (s:St) (h:HFunc) (nb:Nat):M ρ ω (V×List (List V)):=(s.rdResM h.res).bind fun vs=>match vs with
 | [.ref (.box k) 0 []]=>M.opt (ywc s k nb)
 | vs=>(s.takesAllM (!h.own) vs).bind fun q=>(M.must ((yj7 q.1).cells.all bnd&&(q.2.boxes.take nb).all (·.all bnd))).bind fun _=>M.pure (yj7 q.1,q.2.boxes.take nb)
theorem zl5 (s:St) (h:HFunc) (nb:Nat):Sound T out (finishM s h nb:M ρ ω _) (fun o=>s.finish h nb=some o):=by
 refine Sound.bind (zph s h.res) fun vs h1=> ?_
 split
 ·exact (Sound.opt _).mono fun o h2=>by simp only [St.finish,h1];exact h2
 ·refine Sound.bind (zdf _ vs s) fun q h2=>Sound.bind (Sound.must _) fun _ h3=>Sound.pure ?_
  simp only [Bool.and_eq_true] at h3
  simp only [St.finish,h1,h2]
  rw [if_pos h3]
def zp6 {ω:Type}:ω->Tree ρ ω->Tree ρ ω:=fun o tp=>match tp with
 | .leaf r _=>.leaf r o
 | _=>.bad
theorem zxd {o:ω} {tp:Tree ρ ω} {r:ρ} (h:yjo T out (zp6 o tp) r):o=out r:=by
 unfold zp6 at h
 split at h
 ·obtain ⟨h1,h2⟩:=h
  cases h2
  exact h1
 ·exact Sound.no h
def funcM (h:HFunc) (args:List V) (bs:List (List V)):M ρ ω (V×List (List V)):=(codeM h.ns h.body ⟨args++List.replicate (h.ns - h.np) .gone,bs⟩ (List.replicate h.ns false)).bind fun q=>match q.1 with
 | .exit _=>M.fail
 | .normal=>finishM q.2.1 h bs.length
 | .ret=>finishM q.2.1 h bs.length
theorem yhx {ρ:Type} {out:ρ->V×List (List V)} {f:FuncId} {h:HFunc} {args:List V} {bs:List (List V)} (hT:T f=some (.go h)) (hl:args.length=h.np) (t:Tree ρ (V×List (List V))) (he:funcM h args bs t zp6=t)
 (hok:t.ok T out) {r:ρ} (hr:t.eval=some r):Run T f args bs=some (out r):=by
 have hg:yjo T out (funcM h args bs t zp6) r:=by rw [he];exact ⟨hok,hr⟩
 have key:Sound T out (funcM h args bs:M ρ (V×List (List V)) _) (fun o=>Run T f args bs=some o):=by
  refine Sound.bind (ze2 _ _ _) fun q h1=> ?_
  obtain ⟨ex,s1,kn1⟩:=q
  simp only at h1 ⊢
  have hrun:=yju hT args bs hl
  rw [h1] at hrun
  cases ex with
  | exit id=>exact Sound.fail
  | normal=>exact (zl5 s1 h _).mono fun o h2=>by rw [hrun];exact h2
  | ret=>exact (zl5 s1 h _).mono fun o h2=>by rw [hrun];exact h2
 obtain ⟨o,tp',h2,h3⟩:=key _ _ _ hg
 rw [h2,zxd h3]
def zel {σ ε:Type} (body:σ->Option (σ⊕ε)):Nat->σ->Option ε
 | 0,_=>none
 | n+1,s=>(body s).bind fun | .inl s'=>zel body n s' | .inr e=>some e
def zab {α σ ε:Type} (body:Int->α->σ->Option (σ⊕ε)) (last:σ->Option ε):List α->Int->σ->Option ε
 | [],_,s=>last s
 | x::t,k,s=>(body k x s).bind fun | .inl s'=>zab body last t (k+1) s' | .inr e=>some e
def qb0 (nb:Nat) (dead:List Nat):Ex×St×Kn->Option (Ex×St)
 | (.normal,s,_)=>(s.trim nb dead).map (.normal,·)
 | (.exit id,s,_)=>some (.exit id,s)
 | (.ret,s,_)=>some (.ret,s)
def zwb:Ex->Bool
 | .normal=>false
 | _=>true
def roundM (ns nb:Nat) (dead:List Nat) (b:HCode) (s:St):M ρ ω (Option (Ex×St)):=(codeM ns b s (List.replicate ns false)).bind fun q=>M.pure (qb0 nb dead q)
theorem zya (nb dead) (b:HCode) (s:St):Sound T out (roundM ns nb dead b s:M ρ ω _) (fun o=>∃ ex s1,zhz T ns b s=some (ex,s1)/\o=(if zwb ex then some (ex,s1) else(s1.trim nb dead).map (Ex.normal,·))):=by
 refine Sound.bind (ze2 b s _) fun q h1=>Sound.pure ?_
 obtain ⟨ex,s1,kn1⟩:=q
 refine ⟨ex,s1,h1,?_⟩
 cases ex <;> rfl
variable {σ ε α:Type} {nb:Nat} {dead:List Nat} {b:HCode}
def zcd (J:σ->St) (o:ε->Ex×St):σ⊕ε->Option (Ex×St)
 | .inl s=>some (.normal,J s)
 | .inr e=>some (o e)
theorem zhg {J:σ->St} {o:ε->Ex×St} {s0:St} {t:Tree (σ⊕ε) (Option (Ex×St))} (he:roundM ns nb dead b s0 t zp6=t) (hok:t.ok T (zcd J o)) (ho:∀ e,zwb (o e).1=true) {r:σ⊕ε} (hr:t.eval=some r):
 match r with
 | .inl s'=>∃ s1,zhz T ns b s0=some (.normal,s1)/\s1.trim nb dead=some (J s')
 | .inr e=>zhz T ns b s0=some (o e)/\(o e).1 ≠ .normal:=by
 have hg:yjo T (zcd J o) (roundM ns nb dead b s0 t zp6) r:=by rw [he];exact ⟨hok,hr⟩
 obtain ⟨q,tp',⟨ex,s1,h1,h2⟩,h3⟩:=zya (T:=T) (out:=zcd J o) nb dead b s0 _ _ _ hg
 have h4:=zxd h3
 rw [h2] at h4
 cases r with
 | inl s'=>
   simp only [zcd] at h4 ⊢
   split at h4
   ·rename_i hn
    cases h4
    cases hn
   ·rename_i hn
    have:ex=.normal:=by cases ex <;> simp [zwb] at hn ⊢
    subst this
    simp only [Option.map_eq_some_iff,Prod.mk.injEq,true_and,exists_eq_right] at h4
    exact ⟨s1,h1,h4⟩
 | inr e=>
   simp only [zcd] at h4 ⊢
   have hne:(o e).1 ≠ .normal:=fun h=>by have:=ho e;rw [h] at this;cases this
   refine ⟨?_,hne⟩
   split at h4
   ·have h5:=Option.some.inj h4;rw [h1,h5]
   ·simp only [Option.map_eq_some_iff] at h4
    obtain ⟨_,_,h5⟩:=h4
    exact absurd (by rw [<- h5]) hne
theorem yab {J:σ->St} {o:ε->Ex×St} {B:σ->Tree (σ⊕ε) (Option (Ex×St))} (he:∀ s,roundM ns nb dead b (J s) (B s) zp6=B s) (hok:∀ s,(B s).ok T (zcd J o)) (ho:∀ e,zwb (o e).1=true):
 ∀ n s e,zel (fun s=>(B s).eval) n s=some e->zfh T ns b nb dead (some (J s)) (o e)
 | 0,s,e,h=>by cases h
 | n+1,s,e,h=>by
   intro s0 hs0
   simp only [zel] at h
   cases hb:(B s).eval with
   | none=>rw [hb] at h;cases h
   | some r=>
     rw [hb] at h
     have hn:=zhg (he s) (hok s) ho hb
     cases r with
     | inl s'=>
       obtain ⟨s1,h1,h2⟩:=hn
       rw [zp8 hs0 h1]
       exact yab he hok ho n s' e h s1 h2
     | inr e'=>
       cases h
       exact zjb hs0 hn.1 hn.2
def zui:Option (σ⊕ε)->Option ε
 | some (.inr e)=>some e
 | _=>none
theorem yio {J:Int->σ->St} {o:ε->Ex×St} (xs:List α) {B:Int->α->σ->Tree (σ⊕ε) (Option (Ex×St))} {E:σ->Tree (σ⊕ε) (Option (Ex×St))}
 (he:∀ k x s,roundM ns nb dead b (J k s) (B k x s) zp6=B k x s)
 (hok:∀ d x t s,d++x::t=xs->(B ((d.length:Nat):Int) x s).ok T (zcd (J (IntKind.i64.wrap (((d.length:Nat):Int)+1))) o)) (ho:∀ e,zwb (o e).1=true)
 (hE:∀ s,roundM ns nb dead b (J ((xs.length:Nat):Int) s) (E s) zp6=E s) (hoE:∀ s,(E s).ok T (zcd (J 0) o))
 (s:σ) (e:ε) (h0:(if xs.length<=9223372036854775806 then zab (fun k x s=>(B k x s).eval) (fun s=>zui (E s).eval) xs 0 s else none)=some e):zfh T ns b nb dead (some (J 0 s)) (o e):=by
 split at h0
 rotate_left
 ·cases h0
 rename_i hlen
 have key:∀ (t d:List α) (s:σ),d++t=xs->zab (fun k x s=>(B k x s).eval) (fun s=>zui (E s).eval) t ((d.length:Nat):Int) s=some e->zfh T ns b nb dead (some (J ((d.length:Nat):Int) s)) (o e):=by
  intro t
  induction t with
  | nil=>
    intro d s he' h s0 hs0
    have hd:d=xs:=by simpa using he'
    subst hd
    simp only [zab] at h
    cases hb:(E s).eval with
    | none=>rw [hb] at h;cases h
    | some r=>
      rw [hb] at h
      have hn:=zhg (hE s) (hoE s) ho hb
      cases r with
      | inl s'=>cases h
      | inr e'=>
        cases h
        exact zjb hs0 hn.1 hn.2
  | cons x t ih=>
    intro d s he' h s0 hs0
    simp only [zab] at h
    cases hb:(B ((d.length:Nat):Int) x s).eval with
    | none=>rw [hb] at h;cases h
    | some r=>
      rw [hb] at h
      have hn:=zhg (he _ x s) (hok d x t s he') ho hb
      cases r with
      | inl s'=>
        obtain ⟨s1,h1,h2⟩:=hn
        have hl:d.length<xs.length:=by rw [<- he'];simp
        rw [ycv (by omega)] at h2
        rw [zp8 hs0 h1]
        have e1:((d.length:Nat):Int)+1=(((d ++ [x]).length:Nat):Int):=by simp
        rw [e1] at h2
        rw [e1] at h
        exact ih (d ++ [x]) s' (by simpa using he') h s1 h2
      | inr e'=>
        cases h
        exact zjb hs0 hn.1 hn.2
 exact key xs [] s rfl h0
theorem yd8 {J:Int->σ->St} {o:ε->Ex×St} (xs:List α) {B:Int->α->σ->Tree (σ⊕ε) (Option (Ex×St))} {E:σ->Tree (σ⊕ε) (Option (Ex×St))}
 (he:∀ k x s,roundM ns nb dead b (J k s) (B k x s) zp6=B k x s)
 (hok:∀ d x t s,d++x::t=xs->(B ((d.length:Nat):Int) x s).ok T (zcd (J (IntKind.i64.wrap (((d.length:Nat):Int)+1))) o)) (ho:∀ e,zwb (o e).1=true)
 (hE:∀ s,roundM ns nb dead b (J ((xs.length:Nat):Int) s) (E s) zp6=E s) (hoE:∀ s,(E s).ok T (zcd (J 0) o))
 {body:Int->α->σ->Option (σ⊕ε)} {last:σ->Option ε} (hB:(fun k x s=>(B k x s).eval)=body) (hL:(fun s=>zui (E s).eval)=last)
 (s:σ) (e:ε) (h0:(if xs.length<=9223372036854775806 then zab body last xs 0 s else none)=some e):zfh T ns b nb dead (some (J 0 s)) (o e):=
 yio xs he hok ho hE hoE s e (by rw [hB,hL];exact h0)
theorem ycp {J:σ->St} {o:ε->Ex×St} {B:σ->Tree (σ⊕ε) (Option (Ex×St))} (he:∀ s,roundM ns nb dead b (J s) (B s) zp6=B s) (hok:∀ s,(B s).ok T (zcd J o)) (ho:∀ e,zwb (o e).1=true)
 {body:σ->Option (σ⊕ε)} (hB:(fun s=>(B s).eval)=body) (n:Nat) (s:σ) (e:ε) (h:zel body n s=some e):zfh T ns b nb dead (some (J s)) (o e):=yab he hok ho n s e (by rw [hB];exact h)
theorem zbw {L:Lct} (h:∀ e,L.x=some e->zfh T L.ns L.b L.nb L.dead L.s (L.o e)):L.ok T:=h
theorem zbr {L:Lc2} (h:∀ e,L.x=some e->zfh T L.ns L.b L.nb L.dead L.s (Sum.elim L.o L.q e)):L.ok T:=⟨fun a h'=>h (.inl a) h',fun a h'=>h (.inr a) h'⟩
theorem ykv {L:Lc3} (h:∀ e,L.x=some e->zfh T L.ns L.b L.nb L.dead L.s (Sum.elim L.o (Sum.elim L.q L.p) e)):L.ok T:=⟨fun a h'=>h (.inl a) h',fun a h'=>h (.inr (.inl a)) h',fun a h'=>h (.inr (.inr a)) h'⟩
theorem ho2 {β γ:Type} {f:β->Ex×St} {g:γ->Ex×St} (h:∀ e,zwb (f e).1=true) (h':∀ e,zwb (g e).1=true):∀ e,zwb (Sum.elim f g e).1=true:=fun e=>by cases e;exact h _;exact h' _
end Go.Pm
