/- Proved: the law FnExactFabricSwap answers true at all arguments, for every operating system that has started; no conditions beyond the row's own. -/
import Derived.Test.YtfoflieoeahhfaaGreatMp
set_option linter.unusedVariables false
set_option linter.unusedSimpArgs false
namespace Go.Pm
def ze5 (c:Ta):Tk:=⟨c.fk,c.fr⟩
def zra (fits:Ta->Bool):List Ta->List Tk->Option (List Tk)
 | [],seen=>some seen
 | c::t,seen=>if fits c=true/\¬ ze5 c∈seen then zra fits t (seen ++ [ze5 c]) else none
def zrd (fits:Int->Ta->Bool) (cs:Tc->List Ta):List Tc->Int->List Tk->Option (List Tk)
 | [],_,seen=>some seen
 | l::t,k,seen=>if zp1 l=true then(zra (fits k) (cs l) seen).bind fun s=>zrd fits cs t (k+1) s else none
def ybs (fits:Ta->Bool) (t:List Ta) (seen:List Tk):Prop:=(∀ c∈t,fits c=true)/\(t.map ze5).Nodup/\∀ c∈t,¬ ze5 c∈seen
theorem seeC_some {fits:Ta->Bool}:∀ {t:List Ta} {seen s:List Tk},zra fits t seen=some s↔ybs fits t seen/\s=seen++t.map ze5
 | [],seen,s=>by
   simp only [zra,ybs,Option.some.injEq,List.map_nil,List.append_nil]
   exact ⟨fun h=>⟨⟨by simp,by simp,by simp⟩,h.symm⟩,fun h=>h.2.symm⟩
 | c::t,seen,s=>by
   simp only [zra]
   split
   ·rename_i h
    rw [seeC_some]
    simp only [ybs,List.mem_cons,List.map_cons,List.nodup_cons,List.mem_append,List.mem_singleton,forall_eq_or_imp,List.mem_map]
    constructor
    ·rintro ⟨⟨h1,h2,h3⟩,rfl⟩
     refine ⟨⟨⟨h.1,h1⟩,⟨?_,h2⟩,h.2,fun x hx hs=>h3 x hx (.inl hs)⟩,by simp⟩
     rintro ⟨x,hx,e⟩
     exact h3 x hx (.inr (.inl e))
    ·rintro ⟨⟨⟨_,h1⟩,⟨h4,h2⟩,_,h3⟩,rfl⟩
     refine ⟨⟨h1,h2,fun x hx hs=> ?_⟩,by simp⟩
     rcases hs with hs|hs|hs
     ·exact h3 x hx hs
     ·exact h4 ⟨x,hx,hs⟩
     ·cases hs
   ·rename_i h
    simp only [false_iff,not_and,reduceCtorEq]
    rintro ⟨h1,h2,h3⟩
    exact absurd ⟨h1 c (by simp),h3 c (by simp)⟩ h
theorem yb5 {fits:Ta->Bool} {t t':List Ta} {seen seen':List Tk} (ht:t.Perm t') (hs:seen.Perm seen') (h:ybs fits t seen):ybs fits t' seen':=
 ⟨fun c hc=>h.1 c (ht.mem_iff.2 hc),(ht.map ze5).nodup_iff.1 h.2.1,fun c hc hm=>h.2.2 c (ht.mem_iff.2 hc) (hs.mem_iff.2 hm)⟩
theorem zix {fits:Int->Ta->Bool} {cs cs':Tc->List Ta} (hc:∀ l,(cs l).Perm (cs' l)):∀ (ls:List Tc) (k:Int) (seen seen' s:List Tk),seen.Perm seen'->zrd fits cs ls k seen=some s->∃ s',zrd fits cs' ls k seen'=some s'/\s.Perm s'
 | [],k,seen,seen',s,hs,h=>by cases h;exact ⟨seen',rfl,hs⟩
 | l::ls,k,seen,seen',s,hs,h=>by
   simp only [zrd] at h ⊢
   split at h
   ·rename_i hl
    rw [if_pos hl]
    cases hr:zra (fits k) (cs l) seen with
    | none=>rw [hr] at h;cases h
    | some s1=>
      rw [hr] at h
      obtain ⟨hg,rfl⟩:=seeC_some.1 hr
      have hr':=seeC_some.2 ⟨yb5 (hc l) hs hg,rfl⟩
      rw [hr']
      exact zix hc ls (k+1) _ _ s (hs.append ((hc l).map ze5)) h
   ·cases h
def zzw (f:Th):Bool:=match zrd (zd1 f.fh) zd3 f.fi 0 [] with
 | some s=>decide (((s.length:Nat):Int)=(waitN f.fh:Int))
 | none=>false
theorem yk8 (f:Th):zzw f=match zrd (zd1 f.fh) zen f.fi 0 [] with
 | some s=>decide (((s.length:Nat):Int)=(waitN f.fh:Int))
 | none=>false:=by
 unfold zzw
 cases h:zrd (zd1 f.fh) zd3 f.fi 0 [] with
 | some s=>
   obtain ⟨s',hs',hp⟩:=zix zhx f.fi 0 [] [] s (List.Perm.refl _) h
   rw [hs'];simp only [hp.length_eq]
 | none=>
   cases h':zrd (zd1 f.fh) zen f.fi 0 [] with
   | none=>rfl
   | some s=>
     obtain ⟨s',hs',_⟩:=zix (fun l=>(zhx l).symm) f.fi 0 [] [] s (List.Perm.refl _) h'
     rw [h] at hs';cases hs'
def zfn (f:Th):Bool:=
 ylw f.far&&(zgf f.fj&&(zck f.fh&&(decide (f.fi.length=6)&&(zlx f.fap&&(zlx f.fas&&(zlx f.faq&&(zlx f.fat&&zzw f)))))))
theorem ybp (l:List Tk) (x:Tk):qaf l x=decide (x∈l):=by
 have h:qaf l x=l.any (fun (y:Tk)=>(decide (x.fid=y.fid)&&(decide (x.fpart=y.fpart)&&true))):=zjh
 rw [h,Bool.eq_iff_iff]
 simp only [List.any_eq_true,Bool.and_eq_true,decide_eq_true_eq,and_true]
 constructor
 ·rintro ⟨y,hy,h1,h2⟩
  have:x=y:=by cases x;cases y;simp_all
  rw [this];exact hy
 ·intro hx;exact ⟨x,hx,rfl,rfl⟩
theorem zs0 {l:Tc} (h:zp1 l=true) {c:Ta} (hc:c∈zd3 l):0<=c.fr:=by
 unfold zp1 at h
 simp only [Bool.and_eq_true,Bool.not_eq_true'] at h
 have key:∀ c:Ta,zsr c=true->0<=c.fr:=by
  intro c h
  simp only [zsr,zbb] at h
  cases zlx c.fk
  ·simp_all
  ·by_cases h0:0<=c.fr
   ·exact h0
   ·simp_all
 have hq:∀ c∈l.fu,zsr c=true:=by
  intro c hc
  have:=h.2.2.2.1
  rw [List.any_eq_false] at this
  have:=this c hc
  simpa using this
 unfold zd3 at hc
 cases hb:l.fah
 ·rw [hb] at hc;exact key c (hq c hc)
 ·rw [hb] at hc
  simp only [cond_true,List.mem_append,List.mem_singleton] at hc
  rcases hc with hc|rfl
  ·exact key c (hq c hc)
  ·have:=h.2.2.2.2
   rw [hb] at this
   simp only [Bool.not_true,cond_false,Bool.and_eq_true] at this
   exact key _ this.1
theorem yw1 (f:Th) (hf:f.fh.sz<=1048576) (ht:zck f.fh=true) (port:Int) (l:Tc) (cs:List Ta) (hp:∀ c∈cs,0<=c.fr/\c.sz<=1048576) (hl:cs.length<=1048576) (seen:List Tk) (hs:seen.length+cs.length<=1048576):
 (zra (zd1 f.fh port) cs seen=none/\∃ j,zkp f port l cs seen=some (.inl j))\/(∃ s,zra (zd1 f.fh port) cs seen=some s/\zkp f port l cs seen=some (.inr s)):=by
 unfold zkp
 rw [if_pos (by omega)]
 have key:∀ (body) (last),(∀ k x s,body k x s=(zx1 f port l cs k x s))->(∀ s,last s=yc1 f port l cs s)->∀ (t d:List Ta) (seen:List Tk),d++t=cs->seen.length+t.length<=1048576->
  (zra (zd1 f.fh port) t seen=none/\∃ j,za5 body last t ((d.length:Nat):Int) seen=some (.inl j))\/(∃ s,zra (zd1 f.fh port) t seen=some s/\za5 body last t ((d.length:Nat):Int) seen=some (.inr s)):=by
  intro body last hb hlast t
  induction t with
  | nil=>intro d seen _ _;exact .inr ⟨seen,rfl,by simp only [za5,hlast];rfl⟩
  | cons x t ih=>
    intro d seen he hs
    have hlt:=zfd he
    have hx:=hp x (ze3 he)
    simp only [List.length_cons] at hs
    simp only [za5,hb,zx1,List.length_map,Nat.sub_zero]
    rw [if_pos (by omega),qrq f.fh port x hf hx.2 ht hx.1]
    simp only [Option.bind_some,zra]
    cases hfit:zd1 f.fh port x
    ·exact .inl ⟨by simp,_,rfl⟩
    ·simp only [Bool.not_true,cond_false]
     rw [qv2 seen ⟨x.fk,x.fr⟩ (by omega)]
     simp only [Option.bind_some,ybp]
     by_cases hm:ze5 x∈seen
     ·have hm':decide ((⟨x.fk,x.fr⟩:Tk)∈seen)=true:=by simpa [ze5] using hm
      simp only [hm',cond_true]
      exact .inl ⟨by simp [hm],_,rfl⟩
     ·have hm':decide ((⟨x.fk,x.fr⟩:Tk)∈seen)=false:=by simpa [ze5] using hm
      simp only [hm',cond_false,List.length_map,List.length_singleton]
      rw [if_pos (show (seen.length+1) * 16<=70368744177664 by omega)]
      have:=ih (d ++ [x]) (seen ++ [ze5 x]) (by simpa using he) (by simp;omega)
      simp only [Option.bind_some]
      rw [if_pos ⟨trivial,hm⟩]
      simpa [ze5] using this
 exact key _ _ (fun _ _ _=>rfl) (fun _=>rfl) cs [] seen rfl hs
theorem yvx (f:Th) (hf:f.sz<=1048576) (ht:zck f.fh=true) (h6:f.fi.length=6):
 (zrd (zd1 f.fh) zd3 f.fi 0 []=none/\((∃ j,zhj f []=some (.inl j))\/∃ j,zhj f []=some (.inr (.inl j))))\/(∃ s,zrd (zd1 f.fh) zd3 f.fi 0 []=some s/\zhj f []=some (.inr (.inr s))):=by
 simp only [Th.sz,szL] at hf
 unfold zhj
 rw [if_pos (by omega)]
 have key:∀ (body) (last),(∀ k x s,body k x s=(zy8 f k x s))->(∀ s,last s=yd1 f s)->∀ (t d:List Tc) (seen:List Tk),d++t=f.fi->seen.length+(t.map Tc.sz).sum+t.length<=1048576->
  (zrd (zd1 f.fh) zd3 t ((d.length:Nat):Int) seen=none/\((∃ j,za5 body last t ((d.length:Nat):Int) seen=some (.inl j))\/∃ j,za5 body last t ((d.length:Nat):Int) seen=some (.inr (.inl j))))\/(∃ s,zrd (zd1 f.fh) zd3 t ((d.length:Nat):Int) seen=some s/\za5 body last t ((d.length:Nat):Int) seen=some (.inr (.inr s))):=by
  intro body last hb hlast t
  induction t with
  | nil=>intro d seen _ _;exact .inr ⟨seen,rfl,by simp only [za5,hlast];rfl⟩
  | cons x t ih=>
    intro d seen he hs
    have hx:=zaj (f:=Tc.sz) (ze3 he)
    simp only [szL] at hx
    simp only [List.length_cons,List.map_cons,List.sum_cons] at hs
    have hq:=zai (f:=Ta.sz) (xs:=x.fu)
    have hcl:=(zs3 x).1
    have hxs:x.sz=szL Ta.sz x.fu+(x.fd.sz+0):=rfl
    simp only [za5,hb,zy8,zrd,qos x (by omega),Option.bind_some]
    cases hlb:zp1 x
    ·exact .inl ⟨by simp,.inl ⟨_,rfl⟩⟩
    ·simp only [Bool.not_true,cond_false,if_true,qsu x (by omega),Option.bind_some]
     rcases yw1 f (by omega) ht ((d.length:Nat):Int) x (zd3 x) (fun c hc=>⟨zs0 hlb hc,by have:=zz2 x hc;omega⟩) (by omega) seen (by omega) with ⟨h1,j,h2⟩|⟨s,h1,h2⟩
     ·rw [h1,h2];exact .inl ⟨rfl,.inr ⟨_,rfl⟩⟩
     ·rw [h1,h2]
      simp only [Option.bind_some,zbw]
      have hsl:s.length=seen.length+(zd3 x).length:=by
       obtain ⟨_,rfl⟩:=seeC_some.1 h1;simp
      have:=ih (d ++ [x]) s (by simpa using he) (by omega)
      simpa using this
 exact key _ _ (fun _ _ _=>rfl) (fun _=>rfl) f.fi [] [] rfl (by simp;omega)
theorem qtg (v1:Th) (hv1:v1.sz<=1048576):yx6 v1=some (zfn v1):=by
 have g:=hv1
 simp only [Th.sz] at g
 rw [yx6]
 simp only [qet,qr3 v1.fj (by omega),qkk v1.fh (by omega),yyg,qnu v1.fh (by omega),Option.bind_some]
 unfold zfn
 cases ylw v1.far
 ·rfl
 cases zgf v1.fj
 ·rfl
 cases ht:zck v1.fh
 ·rfl
 by_cases h6:v1.fi.length=6
 rotate_left
 ·have:¬((v1.fi.length:Nat):Int)=6:=by omega
  simp [h6,this]
 simp only [h6,Bool.not_true,cond_false,show decide (((6:Nat):Int)≠6)=false from rfl,decide_true,Bool.true_and,cond_true]
 cases zlx v1.fap
 ·rfl
 cases zlx v1.fas
 ·rfl
 cases zlx v1.faq
 ·rfl
 cases zlx v1.fat
 ·rfl
 simp only [Bool.not_true,cond_false,Bool.true_and]
 unfold zzw
 rcases yvx v1 hv1 ht h6 with ⟨h1,⟨j,h2⟩|⟨j,h2⟩⟩|⟨s,h1,h2⟩ <;> rw [h1,h2] <;> rfl
end Go.Pm
namespace Go.Pm
theorem yvb (f:Th) (port:Int) (cs all:List Ta) (i:Nat) (c:Ta) (hc:cs[i]? =some c) (hall:all.length<=1048576):
 (ze5 c∈all.map ze5/\∃ j,zkl f port cs all (i:Int) ()=some (.inl j))\/(¬ ze5 c∈all.map ze5/\zkl f port cs all (i:Int) ()=some (.inr ())):=by
 have hi:i<cs.length:=(List.getElem?_eq_some_iff.1 hc).1
 unfold zkl
 rw [if_pos (by omega)]
 have hb:∀ d x t,d++x::t=all->∃ e:Int⊕Unit,(zj5 f port cs all (i:Int) ((d.length:Nat):Int) x ())=some (if decide (ze5 x=ze5 c) then .inr e else .inl ()):=by
  intro d x t he
  have hlt:=zfd he
  refine ⟨.inl ((d.length:Nat):Int),?_⟩
  rw [zj5]
  simp only [List.length_map,Nat.sub_zero,za8,hc]
  rw [if_pos (by omega),if_pos (by omega)]
  simp only [Option.bind_some]
  by_cases h1:x.fk=c.fk
  ·by_cases h2:x.fr=c.fr
   ·simp [h1,h2,ze5];omega
   ·simp [h1,h2,ze5];omega
  ·simp [h1,ze5]
 obtain ⟨h1,h2⟩:=qcf (body:=fun k x s=>(zj5 f port cs all (i:Int) k x s)) (xs:=all) (last:=fun s=>yfg f port cs all (i:Int) s) (fun _ x=>decide (ze5 x=ze5 c)) hb
 simp only [zda] at h1 h2
 by_cases hm:ze5 c∈all.map ze5
 ·have ha:(all.any fun x=>decide (ze5 x=ze5 c))=true:=by
   rw [List.any_eq_true]
   obtain ⟨y,hy,e⟩:=List.mem_map.1 hm
   exact ⟨y,hy,by simpa using e⟩
  obtain ⟨d,x,t,e,he,_,hx,hbe,hr⟩:=h1 ha
  left
  refine ⟨hm,?_⟩
  obtain ⟨e',hbe'⟩:=hb d x t he
  rw [zj5] at hbe
  have hlt:=zfd he
  simp only [List.length_map,Nat.sub_zero,za8,hc] at hbe
  rw [if_pos (by omega),if_pos (by omega)] at hbe
  have hk:ze5 x=ze5 c:=by simpa using hx
  have e1:x.fk=c.fk:=congrArg Tk.fid hk
  have e2:x.fr=c.fr:=congrArg Tk.fpart hk
  simp only [Option.bind_some,e1,e2,decide_true,cond_true] at hbe
  rw [if_pos (by omega),if_pos (by omega)] at hbe
  cases hbe
  exact ⟨_,hr⟩
 ·have ha:(all.any fun x=>decide (ze5 x=ze5 c))=false:=by
   rw [List.any_eq_false]
   intro y hy e
   exact hm (List.mem_map.2 ⟨y,hy,by simpa using e⟩)
  right
  exact ⟨hm,by rw [h2 ha];rfl⟩
theorem yw5 (f:Th) (hf:f.fh.sz<=1048576) (ht:zck f.fh=true) (port:Int) (cs:List Ta) (hp:∀ c∈cs,0<=c.fr/\c.sz<=1048576) (hl:cs.length<=1048576) (all:List Ta) (hs:all.length+cs.length<=1048576):
 (zra (zd1 f.fh port) cs (all.map ze5)=none/\∃ j,zko f port cs all=some (.inl j))\/(∃ s,zra (zd1 f.fh port) cs (all.map ze5)=some (s.map ze5)/\zko f port cs all=some (.inr s)):=by
 unfold zko
 rw [if_pos (by omega)]
 have key:∀ (body) (last),(∀ k x s,body k x s=(zxn f port cs k x s))->(∀ s,last s=yjt f port cs s)->∀ (t d:List Ta) (all:List Ta),d++t=cs->all.length+t.length<=1048576->
  (zra (zd1 f.fh port) t (all.map ze5)=none/\∃ j,za5 body last t ((d.length:Nat):Int) all=some (.inl j))\/(∃ s,zra (zd1 f.fh port) t (all.map ze5)=some (s.map ze5)/\za5 body last t ((d.length:Nat):Int) all=some (.inr s)):=by
  intro body last hb hlast t
  induction t with
  | nil=>intro d all _ _;exact .inr ⟨all,rfl,by simp only [za5,hlast];rfl⟩
  | cons x t ih=>
    intro d all he hs
    have hlt:=zfd he
    have hx:=hp x (ze3 he)
    simp only [List.length_cons] at hs
    simp only [za5,hb,zxn]
    rcases yvb f port cs all d.length x (zcq he) (by omega) with ⟨hm,j,hr⟩|⟨hm,hr⟩
    ·rw [hr]
     left
     exact ⟨by simp [zra,hm],_,rfl⟩
    ·rw [hr]
     simp only [Option.bind_some,zbw,List.length_map,Nat.sub_zero]
     rw [if_pos (show (0:Int)<=((d.length:Nat):Int)/\((d.length:Nat):Int)<((cs.length:Nat):Int) by omega),qst f port x hf hx.2 ht hx.1]
     simp only [Option.bind_some]
     cases hfit:zd1 f.fh port x
     ·exact .inl ⟨by simp [zra,hfit],_,rfl⟩
     ·simp only [Bool.not_true,cond_false,List.length_singleton]
      rw [if_pos (show (0:Int)<=((d.length:Nat):Int)/\((d.length:Nat):Int)<((cs.length:Nat):Int) by omega),if_pos (show (all.length+1) * 104<=70368744177664 by omega)]
      have:=ih (d ++ [x]) (all ++ [x]) (by simpa using he) (by simp;omega)
      simp only [Option.bind_some,zra]
      rw [if_pos ⟨hfit,hm⟩]
      simpa using this
 exact key _ _ (fun _ _ _=>rfl) (fun _=>rfl) cs [] all rfl hs
theorem yun (f:Th) (hf:f.sz<=1048576) (ht:zck f.fh=true) (h6:f.fi.length=6):
 (zrd (zd1 f.fh) zen f.fi 0 []=none/\∃ j,zkf f []=some (.inl j))\/(∃ s,zrd (zd1 f.fh) zen f.fi 0 []=some (s.map ze5)/\zkf f []=some (.inr s)):=by
 simp only [Th.sz,szL] at hf
 unfold zkf
 rw [if_pos (by omega)]
 have key:∀ (body) (last),(∀ k x s,body k x s=(zvh f k x s))->(∀ s,last s=yc0 f s)->∀ (t d:List Tc) (all:List Ta),d++t=f.fi->all.length+(t.map Tc.sz).sum+t.length<=1048576->
  (zrd (zd1 f.fh) zen t ((d.length:Nat):Int) (all.map ze5)=none/\∃ j,za5 body last t ((d.length:Nat):Int) all=some (.inl j))\/(∃ s,zrd (zd1 f.fh) zen t ((d.length:Nat):Int) (all.map ze5)=some (s.map ze5)/\za5 body last t ((d.length:Nat):Int) all=some (.inr s)):=by
  intro body last hb hlast t
  induction t with
  | nil=>intro d all _ _;exact .inr ⟨all,rfl,by simp only [za5,hlast];rfl⟩
  | cons x t ih=>
    intro d all he hs
    have hx:=zaj (f:=Tc.sz) (ze3 he)
    simp only [szL] at hx
    simp only [List.length_cons,List.map_cons,List.sum_cons] at hs
    have hq:=zai (f:=Ta.sz) (xs:=x.fu)
    have hcl:=(zs3 x).2
    have hxs:x.sz=szL Ta.sz x.fu+(x.fd.sz+0):=rfl
    simp only [za5,hb,zvh,zrd,qqj x (by omega),Option.bind_some]
    cases hlb:zp1 x
    ·exact .inl ⟨by simp,_,rfl⟩
    ·simp only [Bool.not_true,cond_false,if_true,qx6 x (by omega),Option.bind_some]
     rcases yw5 f (by omega) ht ((d.length:Nat):Int) (zen x) (fun c hc=>by
      have hc:=(zhx x).mem_iff.2 hc
      exact ⟨zs0 hlb hc,by have:=zz2 x hc;omega⟩) (by omega) all (by omega) with ⟨h1,j,h2⟩|⟨s,h1,h2⟩
     ·rw [h1,h2];exact .inl ⟨rfl,_,rfl⟩
     ·rw [h1,h2]
      simp only [Option.bind_some,zbw]
      have hsl:s.length=all.length+(zen x).length:=by
       have h3:=(seeC_some.1 h1).2
       have:=congrArg List.length h3
       simpa using this
      have:=ih (d ++ [x]) s (by simpa using he) (by omega)
      simpa using this
 exact key _ _ (fun _ _ _=>rfl) (fun _=>rfl) f.fi [] [] rfl (by simp;omega)
theorem qxo (v1:Th) (hv1:v1.sz<=1048576) (hok:v1.ok):yxo v1=some (zfn v1):=by
 have g:=hv1
 simp only [Th.sz] at g
 rw [yxo]
 simp only [qem,qwd v1.fj (by omega) hok.2.1,qb6 v1.fh (by omega),zf3,qx5 v1.fh (by omega),Option.bind_some]
 unfold zfn zlx
 cases ylw v1.far
 ·rfl
 cases zgf v1.fj
 ·rfl
 cases ht:zck v1.fh
 ·rfl
 by_cases h6:v1.fi.length=6
 rotate_left
 ·have:¬((v1.fi.length:Nat):Int)=6:=by omega
  simp [h6,this]
 simp only [h6,Bool.not_true,cond_false,show decide (((6:Nat):Int)≠6)=false from rfl,decide_true,Bool.true_and,cond_true]
 cases zbb v1.fap 0 1000000000
 ·rfl
 cases zbb v1.fas 0 1000000000
 ·rfl
 cases zbb v1.faq 0 1000000000
 ·rfl
 cases zbb v1.fat 0 1000000000
 ·rfl
 simp only [Bool.not_true,cond_false,Bool.true_and]
 rw [yk8]
 rcases yun v1 hv1 ht h6 with ⟨h1,j,h2⟩|⟨s,h1,h2⟩ <;> rw [h1,h2]
 ·rfl
 ·simp [zbw]
end Go.Pm
namespace Go.Pm
open IntKind (i64)
def mk {α:Type} (f:Int->α) (k:Int) (n:Nat):List α:=(List.range n).map fun(i:Nat)=>f (k+(i:Int))
theorem zh0 {α:Type} (f:Int->α) (k:Int) (n:Nat):(mk f k n).length=n:=by simp [mk]
theorem yqs {α:Type} (f:Int->α) (k:Int) (n:Nat):mk f k (n+1)=mk f k n ++ [f (k+(n:Int))]:=by simp [mk,List.range_succ]
theorem zf2 {n:Int} (h0:0<=n) (h1:n<=4611686018427387904):i64.wrap n=n:=zc6 (by omega) (by omega)
theorem yv7 {α:Type} (f:Int->α) (g:α->V) {body:List α×Int×Int->Option ((List α×Int×Int)⊕(List α×Int×Int))}
 (hb:∀ s,body s=bif decide (s.2.2<((s.1.length:Nat):Int)) then(if 0<=s.2.2/\(s.2.2:Int)<(((s.1.map g).length - 0:Nat):Int) then(((s.1)[s.2.2.toNat]?).bind fun _=>(some (.inl (s.1.set (s.2.2.toNat) (f s.2.1),(i64.wrap (s.2.1+1)),(i64.wrap (s.2.2+1)))))) else none) else(some (.inr (s.1,s.2.1,s.2.2))))
 (l:List α) {k:Int} (hl:l.length<=1048576) (hk:0<=k) (hk':k<=1099511627776):zbf body BIG (l,k,0)=some (mk f k l.length,k+(l.length:Int),(l.length:Int)):=by
 have key:∀ (j i n:Nat),i+j=l.length->j<n->zbf body n (mk f k i++l.drop i,k+(i:Int),(i:Int))=some (mk f k l.length,k+(l.length:Int),(l.length:Int)):=by
  intro j
  induction j with
  | zero=>
    intro i n hi hn
    obtain ⟨n,rfl⟩:∃ q,n=q+1:=⟨n - 1,by omega⟩
    have:i=l.length:=by omega
    subst this
    rw [zbf,hb]
    have hlen:(mk f k l.length++l.drop l.length).length=l.length:=by rw [List.length_append,zh0,List.length_drop];omega
    have hd:decide ((l.length:Int)<(((mk f k l.length++l.drop l.length).length:Nat):Int))=false:=by rw [hlen];simp
    simp only [hd,cond_false,Option.bind_some]
    simp
  | succ j ih=>
    intro i n hi hn
    obtain ⟨n,rfl⟩:∃ q,n=q+1:=⟨n - 1,by omega⟩
    have hil:i<l.length:=by omega
    rw [zbf,hb]
    have hlen:(mk f k i++l.drop i).length=l.length:=by rw [List.length_append,zh0,List.length_drop];omega
    have hd:decide ((i:Int)<(((mk f k i++l.drop i).length:Nat):Int))=true:=by rw [hlen];simp;omega
    simp only [hd,cond_true]
    rw [if_pos ⟨by omega,by rw [List.length_map,hlen];omega⟩]
    have hg:(mk f k i++l.drop i)[((i:Nat):Int).toNat]? =some l[i]:=by
     rw [Int.toNat_natCast,List.getElem?_append_right (by rw [zh0];omega),zh0,Nat.sub_self,List.getElem?_drop,Nat.add_zero,List.getElem?_eq_getElem hil]
    have hset:(mk f k i++l.drop i).set ((i:Nat):Int).toNat (f (k+(i:Int)))=mk f k (i+1)++l.drop (i+1):=by
     rw [Int.toNat_natCast,List.set_append_right _ _ (by rw [zh0];omega),zh0,Nat.sub_self,List.drop_eq_getElem_cons hil,List.set_cons_zero,yqs,List.append_assoc];rfl
    rw [hg,hset]
    simp only [Option.bind_some]
    rw [zf2 (n:=k+(i:Int)+1) (by omega) (by omega),zf2 (n:=(i:Int)+1) (by omega) (by omega)]
    have:=ih (i+1) n (by omega) (by omega)
    rw [show k+(i:Int)+1=k+((i+1:Nat):Int) by omega,show (i:Int)+1=((i+1:Nat):Int) by omega]
    exact this
 have:=key l.length 0 BIG (by omega) (by simp only [BIG];omega)
 simpa [mk] using this
theorem yv1 {α:Type} [DecidableEq α] (f:Int->α) {body:Int->α->Int->Option (Int⊕((Int×Int)⊕Int))} {last:Int->Option ((Int×Int)⊕Int)}
 (hb:∀ k x s,x=f s->body k x s=some (.inl (i64.wrap (s+1)))) (hlast:∀ s,last s=some (.inr s)) (n:Nat) {k:Int} (hk:0<=k) (hk':k<=1099511627776) (hn:n<=1048576):
 (if (mk f k n).length<=9223372036854775806 then za5 body last (mk f k n) 0 k else none)=some (.inr (k+(n:Int))):=by
 rw [if_pos (by rw [zh0];omega)]
 have key:∀ (j i:Nat) (q:Int),i+j=n->za5 body last ((mk f k n).drop i) q (k+(i:Int))=some (.inr (k+(n:Int))):=by
  intro j
  induction j with
  | zero=>
    intro i q hi
    have:i=n:=by omega
    subst this
    rw [List.drop_of_length_le (by rw [zh0];omega),za5,hlast]
  | succ j ih=>
    intro i q hi
    have hil:i<(mk f k n).length:=by rw [zh0];omega
    rw [List.drop_eq_getElem_cons hil,za5,hb _ _ _ (by simp [mk])]
    simp only [Option.bind_some]
    rw [zf2 (n:=k+(i:Int)+1) (by omega) (by omega),show k+(i:Int)+1=k+((i+1:Nat):Int) by omega]
    exact ih (i+1) (q+1) (by omega)
 have:=key n 0 0 (by omega)
 simpa using this
def mB (k:Int):Bool:=decide ((k.tmod 3)=0)
theorem zc1 (l:List Int) {k:Int} (hl:l.length<=1048576) (hk:0<=k) (hk':k<=1099511627776):ynu l k=some (k+(l.length:Int),mk id k l.length):=by
 unfold ynu zxs
 rw [yv7 id (V.int .i64) (fun s=>by rw [ygg];rfl) l hl hk hk'];rfl
theorem zbr (l:List Bool) {k:Int} (hl:l.length<=1048576) (hk:0<=k) (hk':k<=1099511627776):ykx l k=some (k+(l.length:Int),mk mB k l.length):=by
 unfold ykx zu2
 rw [yv7 mB V.bool (fun s=>by rw [yfn];rfl) l hl hk hk'];rfl
theorem zdb (n:Nat) {k:Int} (hk:0<=k) (hk':k<=1099511627776) (hn:n<=1048576):ymy (mk id k n) k=some (k+(n:Int)):=by
 unfold ymy ztm
 have e:=yv1 (body:=zum (mk id k n)) (last:=ydc (mk id k n)) id (fun q x s h=>by rw [zum,h];simp) (fun _=>rfl) n hk hk' hn
 rw [e];rfl
theorem zcv (n:Nat) {k:Int} (hk:0<=k) (hk':k<=1099511627776) (hn:n<=1048576):yku (mk mB k n) k=some (k+(n:Int)):=by
 unfold yku ztq
 have e:=yv1 (body:=zyk (mk mB k n)) (last:=yfi (mk mB k n)) mB (fun q x s h=>by rw [zyk,h];simp [mB]) (fun _=>rfl) n hk hk' hn
 rw [e];rfl
theorem zoo {α:Type} {l:List α} {n:Nat} (h:l.length=n):(l.take n).drop 0=l:=by subst h;simp
theorem dlt {n:Int} (h:0<=n):decide (n<0)=false:=by simp;omega
def Rnd {α ρ:Type} (hbd:List α->Int->α->Int->Option (Int⊕ρ)) (l:List α) (i:Nat) (k B:Int) (X:Option ((List α×Int×Int)⊕(List α×Int×Int))):Prop:=∃ y k',X=some (.inl (l.set i y,k',(i:Int)+1))/\k<=k'/\k'<=k+B/\∀ L q,hbd L q y k=some (.inl k')
theorem zho {α ρ:Type} (sz:α->Nat) {body:List α×Int×Int->Option ((List α×Int×Int)⊕(List α×Int×Int))} {hbd:List α->Int->α->Int->Option (Int⊕ρ)} {lst:List α->Int->Option ρ}
 (hend:∀ (l:List α) (k:Int),body (l,k,(l.length:Int))=some (.inr (l,k,(l.length:Int))))
 (hb:∀ (l:List α) (k:Int) (i:Nat) (x:α),(l[i]? =some x)->l.length<=1048576->sz x<=1048576->0<=k->k+64 * (1+(sz x:Int))<=1000000000000->Rnd hbd l i k (64 * (1+(sz x:Int))) (body (l,k,(i:Int))))
 (l:List α) {k:Int} (hl:szL sz l<=1048576) (hk:0<=k) (hk':k+64 * (szL sz l:Int)<=1000000000000):∃ l' k',zbf body BIG (l,k,0)=some (l',k',(l.length:Int))/\l'.length=l.length/\k<=k'/\k'<=k+64 * (szL sz l:Int)/\∀ L q,za5 (hbd L) (lst L) l' q k=lst L k':=by
 have key:∀ (t:List α) (i n:Nat) (l':List α) (q:Int),l'.length=i+t.length->l'.drop i=t->szL sz t<=1048576->l'.length<=1048576->t.length<n->0<=q->q+64 * (szL sz t:Int)<=1000000000000->
  ∃ l2 k',zbf body n (l',q,(i:Int))=some (l2,k',(l'.length:Int))/\l2.length=l'.length/\q<=k'/\k'<=q+64 * (szL sz t:Int)/\l2.take i=l'.take i/\∀ L p,za5 (hbd L) (lst L) (l2.drop i) p q=lst L k':=by
  intro t
  induction t with
  | nil=>
    intro i n l' q h1 h2 h3 h4 h5 h6 h7
    obtain ⟨n,rfl⟩:∃ m,n=m+1:=⟨n - 1,by omega⟩
    have hi:i=l'.length:=by simp at h1;omega
    subst hi
    refine ⟨l',q,?_,rfl,by omega,by omega,rfl,fun L p=>by rw [List.drop_length];rfl⟩
    rw [zbf,hend];rfl
  | cons x t ih=>
    intro i n l' q h1 h2 h3 h4 h5 h6 h7
    obtain ⟨n,rfl⟩:∃ m,n=m+1:=⟨n - 1,by omega⟩
    have hs:szL sz (x::t)=1+sz x+szL sz t:=by simp [szL];omega
    have hx:l'[i]? =some x:=by
     have:=congrArg (·[0]?) h2
     simpa using this
    have hil:i<l'.length:=by simp at h1;omega
    obtain ⟨y,k1,e1,e2,e3,e4⟩:=hb l' q i x hx h4 (by omega) h6 (by omega)
    rw [zbf,e1]
    simp only [Option.bind_some]
    obtain ⟨l2,k2,f1,f2,f3,f4,f5,f6⟩:=ih (i+1) n (l'.set i y) k1 (by simp at h1 ⊢;omega) (by
     rw [List.drop_set_of_lt (by omega),<- List.tail_drop,h2];rfl) (by omega) (by rw [List.length_set];exact h4) (by simp at h5;omega) (by omega) (by omega)
    have hl2:l2.length=l'.length:=by rw [f2,List.length_set]
    refine ⟨l2,k2,?_,hl2,by omega,by omega,?_,fun L p=> ?_⟩
    ·rw [show (i:Int)+1=((i+1:Nat):Int) by omega,f1,List.length_set]
    ·have:=congrArg (List.take i) f5
     rw [List.take_take,List.take_take,Nat.min_eq_left (by omega)] at this
     rw [this,List.take_set_of_le (Nat.le_refl i)]
    ·have hy:l2[i]'(by omega)=y:=by
      have:=congrArg (·[i]?) f5
      simp only [List.getElem?_take,if_pos (Nat.lt_succ_self i),List.getElem?_set_self hil,List.getElem?_eq_getElem (show i<l2.length by omega),Option.some.injEq] at this
      exact this
     rw [List.drop_eq_getElem_cons (by omega),hy,za5,e4]
     simp only [Option.bind_some]
     exact f6 L (p+1)
 have hlen:l.length<=szL sz l:=zai
 obtain ⟨l2,k2,f1,f2,f3,f4,f5,f6⟩:=key l 0 BIG l k (by simp) (by simp) hl (by omega) (by simp only [BIG];omega) hk (by omega)
 exact ⟨l2,k2,f1,f2,f3,f4,fun L q=>by simpa using f6 L q⟩
def zjt {α:Type} (sz:α->Nat) (f:List α->Int->Option (Int×List α)) (h:List α->Int->Option Int):Prop:=∀ (l:List α) (k:Int),szL sz l<=1048576->0<=k->k+64 * (szL sz l:Int)<=1000000000000->∃ k' l',f l k=some (k',l')/\l'.length=l.length/\k<=k'/\k'<=k+64 * (szL sz l:Int)/\h l' k=some k'
theorem yc8 {α β ρ:Type} {sz:α->Nat} {f:List α->Int->Option (Int×List α)} {h:List α->Int->Option Int} (hf:zjt sz f h) {hbd:List β->Int->β->Int->Option (Int⊕ρ)} {q:List α} {K:Int} {l:List β} {i:Nat} {k B:Int} {g:Int×List α->Option ((List β×Int×Int)⊕(List β×Int×Int))}
 (hl:szL sz q<=1048576) (hK:0<=K) (hK':K+64 * (szL sz q:Int)<=1000000000000) (H:∀ k1 l1,l1.length=q.length->K<=k1->k1<=K+64 * (szL sz q:Int)->h l1 K=some k1->Rnd hbd l i k B (g (k1,l1))):Rnd hbd l i k B ((f q K).bind g):=by
 obtain ⟨k1,l1,e1,e2,e3,e4,e5⟩:=hf q K hl hK hK'
 rw [e1]
 exact H k1 l1 e2 e3 e4 e5
theorem ltI {n:Int}:decide (n<n)=false:=by simp
theorem neI {n:Int}:decide (n≠n)=false:=by simp
theorem neB {b:Bool}:(true ^^ (b == b))=false:=by simp
end Go.Pm
namespace Go.Pm
theorem yh5:zjt Td.sz yw6 yyq:=by
 intro l k hl hk hk'
 obtain ⟨l',k',e1,e2,e3,e4,e5⟩:=zho Td.sz (body:=zr1) (hbd:=zus) (lst:=yd5) (fun l k=>by rw [zr1];simp only [ltI,cond_false]) (fun l k i x hx hl hz hk hk'=>by
  have hi:i<l.length:=(List.getElem?_eq_some_iff.1 hx).1
  have hd:decide ((i:Int)<((l.length:Nat):Int))=true:=by simp;omega
  have hg:(0<=(i:Int)/\(i:Int)<((l.length:Nat):Int))=True:=by simp;omega
  rw [zr1]
  simp only [Td.sz] at hz hk' ⊢
  simp (disch:=omega) only [w1,hd,cond_true,List.length_map,List.length_set,Nat.sub_zero,hg,if_true,Int.toNat_natCast,hx,Option.bind_some,Option.map_some,List.getElem?_set_self,List.set_set,zf2,zc1,zbr]
  refine ⟨_,_,rfl,by omega,by omega,fun L q=> ?_⟩
  rw [zus]
  simp (disch:=omega) only [w1,neI,neB,cond_false,Option.bind_some,zf2,zdb,zcv,dlt]) l hl hk hk'
 exact ⟨k',l',by unfold yw6 zwg;rw [e1];rfl,e2,e3,e4,by unfold yyq zu9;rw [if_pos (by have:=zai (f:=Td.sz) (xs:=l);omega),e5];rfl⟩
theorem ysm:zjt Tf.sz yzr yzu:=by
 intro l k hl hk hk'
 obtain ⟨l',k',e1,e2,e3,e4,e5⟩:=zho Tf.sz (body:=zqn) (hbd:=zwn) (lst:=yg0) (fun l k=>by rw [zqn];simp only [ltI,cond_false]) (fun l k i x hx hl hz hk hk'=>by
  have hi:i<l.length:=(List.getElem?_eq_some_iff.1 hx).1
  have hd:decide ((i:Int)<((l.length:Nat):Int))=true:=by simp;omega
  have hg:(0<=(i:Int)/\(i:Int)<((l.length:Nat):Int))=True:=by simp;omega
  rw [zqn]
  simp only [Tf.sz,Tg.sz] at hz hk' ⊢
  simp (disch:=omega) only [w1,hd,cond_true,List.length_map,List.length_set,Nat.sub_zero,hg,if_true,Int.toNat_natCast,hx,Option.bind_some,Option.map_some,List.getElem?_set_self,List.set_set,zf2,zc1,zbr]
  refine ⟨_,_,rfl,by omega,by omega,fun L q=> ?_⟩
  rw [zwn]
  simp (disch:=omega) only [w1,neI,neB,cond_false,Option.bind_some,zf2,zdb,zcv,dlt]) l hl hk hk'
 exact ⟨k',l',by unfold yzr zw8;rw [e1];rfl,e2,e3,e4,by unfold yzu zui;rw [if_pos (by have:=zai (f:=Tf.sz) (xs:=l);omega),e5];rfl⟩
theorem ytg:zjt Te.sz yyt yzz:=by
 intro l k hl hk hk'
 obtain ⟨l',k',e1,e2,e3,e4,e5⟩:=zho Te.sz (body:=zqm) (hbd:=zup) (lst:=ycx) (fun l k=>by rw [zqm];simp only [ltI,cond_false]) (fun l k i x hx hl hz hk hk'=>by
  have hi:i<l.length:=(List.getElem?_eq_some_iff.1 hx).1
  have hd:decide ((i:Int)<((l.length:Nat):Int))=true:=by simp;omega
  have hg:(0<=(i:Int)/\(i:Int)<((l.length:Nat):Int))=True:=by simp;omega
  rw [zqm]
  simp only [Te.sz] at hz hk' ⊢
  simp (disch:=omega) only [w1,hd,cond_true,List.length_map,List.length_set,Nat.sub_zero,hg,if_true,Int.toNat_natCast,hx,Option.bind_some,Option.map_some,List.getElem?_set_self,List.set_set,zf2,zc1,zbr]
  refine ⟨_,_,rfl,by omega,by omega,fun L q=> ?_⟩
  rw [zup]
  simp (disch:=omega) only [w1,neI,neB,cond_false,Option.bind_some,zf2,zdb,zcv,dlt]) l hl hk hk'
 exact ⟨k',l',by unfold yyt ztz;rw [e1];rfl,e2,e3,e4,by unfold yzz zug;rw [if_pos (by have:=zai (f:=Te.sz) (xs:=l);omega),e5];rfl⟩
theorem yox:zjt Ta.sz yx8 yye:=by
 intro l k hl hk hk'
 obtain ⟨l',k',e1,e2,e3,e4,e5⟩:=zho Ta.sz (body:=zq9) (hbd:=zw3) (lst:=yjd) (fun l k=>by rw [zq9];simp only [ltI,cond_false]) (fun l k i x hx hl hz hk hk'=>by
  have hi:i<l.length:=(List.getElem?_eq_some_iff.1 hx).1
  have hd:decide ((i:Int)<((l.length:Nat):Int))=true:=by simp;omega
  have hg:(0<=(i:Int)/\(i:Int)<((l.length:Nat):Int))=True:=by simp;omega
  rw [zq9]
  simp only [Ta.sz,Tg.sz] at hz hk' ⊢
  simp (disch:=omega) only [w1,hd,cond_true,List.length_map,List.length_set,Nat.sub_zero,hg,if_true,Int.toNat_natCast,hx,Option.bind_some,Option.map_some,List.getElem?_set_self,List.set_set,zf2,zc1,zbr]
  refine ⟨_,_,rfl,by omega,by omega,fun L q=> ?_⟩
  rw [zw3]
  simp (disch:=omega) only [w1,neI,neB,cond_false,Option.bind_some,zf2,zdb,zcv,dlt]) l hl hk hk'
 exact ⟨k',l',by unfold yx8 zvv;rw [e1];rfl,e2,e3,e4,by unfold yye zyj;rw [if_pos (by have:=zai (f:=Ta.sz) (xs:=l);omega),e5];rfl⟩
theorem yqa:zjt Tb.sz yyj yxp:=by
 intro l k hl hk hk'
 obtain ⟨l',k',e1,e2,e3,e4,e5⟩:=zho Tb.sz (body:=zmz) (hbd:=zy9) (lst:=yih) (fun l k=>by rw [zmz];simp only [ltI,cond_false]) (fun l k i x hx hl hz hk hk'=>by
  have hi:i<l.length:=(List.getElem?_eq_some_iff.1 hx).1
  have hd:decide ((i:Int)<((l.length:Nat):Int))=true:=by simp;omega
  have hg:(0<=(i:Int)/\(i:Int)<((l.length:Nat):Int))=True:=by simp;omega
  rw [zmz]
  simp only [Tb.sz,Tg.sz] at hz hk' ⊢
  simp (disch:=omega) only [w1,hd,cond_true,List.length_map,List.length_set,Nat.sub_zero,hg,if_true,Int.toNat_natCast,hx,Option.bind_some,Option.map_some,List.getElem?_set_self,List.set_set,zf2,zc1,zbr]
  refine yc8 ysm (by omega) (by omega) (by omega) fun k0 l0 g01 g02 g03 g04=> ?_
  simp (disch:=omega) only [w1,hd,cond_true,List.length_map,List.length_set,Nat.sub_zero,hg,if_true,Int.toNat_natCast,hx,Option.bind_some,Option.map_some,List.getElem?_set_self,List.set_set,zf2,zc1,zbr]
  refine yc8 ytg (by omega) (by omega) (by omega) fun k1 l1 g11 g12 g13 g14=> ?_
  simp (disch:=omega) only [w1,hd,cond_true,List.length_map,List.length_set,Nat.sub_zero,hg,if_true,Int.toNat_natCast,hx,Option.bind_some,Option.map_some,List.getElem?_set_self,List.set_set,zf2,zc1,zbr]
  refine ⟨_,_,rfl,by omega,by omega,fun L q=> ?_⟩
  rw [zy9]
  simp (disch:=omega) only [w1,neI,neB,cond_false,Option.bind_some,zf2,zdb,zcv,dlt,g04,g14]) l hl hk hk'
 exact ⟨k',l',by unfold yyj ztu;rw [e1];rfl,e2,e3,e4,by unfold yxp zwc;rw [if_pos (by have:=zai (f:=Tb.sz) (xs:=l);omega),e5];rfl⟩
theorem yrc:zjt Tc.sz yyb yyu:=by
 intro l k hl hk hk'
 obtain ⟨l',k',e1,e2,e3,e4,e5⟩:=zho Tc.sz (body:=zq4) (hbd:=zvq) (lst:=yja) (fun l k=>by rw [zq4];simp only [ltI,cond_false]) (fun l k i x hx hl hz hk hk'=>by
  have hi:i<l.length:=(List.getElem?_eq_some_iff.1 hx).1
  have hd:decide ((i:Int)<((l.length:Nat):Int))=true:=by simp;omega
  have hg:(0<=(i:Int)/\(i:Int)<((l.length:Nat):Int))=True:=by simp;omega
  rw [zq4]
  simp only [Tc.sz,Ta.sz,Tg.sz] at hz hk' ⊢
  simp (disch:=omega) only [w1,hd,cond_true,List.length_map,List.length_set,Nat.sub_zero,hg,if_true,Int.toNat_natCast,hx,Option.bind_some,Option.map_some,List.getElem?_set_self,List.set_set,zf2,zc1,zbr]
  refine yc8 yox (by omega) (by omega) (by omega) fun k0 l0 g01 g02 g03 g04=> ?_
  simp (disch:=omega) only [w1,hd,cond_true,List.length_map,List.length_set,Nat.sub_zero,hg,if_true,Int.toNat_natCast,hx,Option.bind_some,Option.map_some,List.getElem?_set_self,List.set_set,zf2,zc1,zbr]
  refine ⟨_,_,rfl,by omega,by omega,fun L q=> ?_⟩
  rw [zvq]
  simp (disch:=omega) only [w1,neI,neB,cond_false,Option.bind_some,zf2,zdb,zcv,dlt,g04]) l hl hk hk'
 exact ⟨k',l',by unfold yyb zuq;rw [e1];rfl,e2,e3,e4,by unfold yyu zvd;rw [if_pos (by have:=zai (f:=Tc.sz) (xs:=l);omega),e5];rfl⟩
end Go.Pm
namespace Go.Pm
theorem zl3 {α:Type} {body:Int->α->List α->Option (List α⊕List α)} {last:List α->Option (List α)} (xs:List α) (hlast:∀ s,last s=some s) (hl:xs.length<=1048576)
 (hb:∀ k x (s:List α),x∈xs->s.length<=1048576->body k x s=some (.inl (s ++ [x]))):za5 body last xs 0 []=some xs:=by
 have key:∀ (t d:List α) (k:Int),d++t=xs->za5 body last t k d=some xs:=by
  intro t
  induction t with
  | nil=>intro d k h;rw [za5,hlast,<- h,List.append_nil]
  | cons x t ih=>
    intro d k h
    rw [za5,hb k x d (by rw [<- h];simp) (by rw [<- h] at hl;simp at hl;omega)]
    exact ih (d ++ [x]) (k+1) (by rw [<- h];simp)
 exact key xs [] 0 rfl
theorem qc9 (v1:Tg) (h:v1.sz<=1048576):ytq v1=some v1:=by
 simp only [Tg.sz] at h
 unfold ytq
 simp (disch:=first|omega|(simp only [List.length_nil,List.length_map,List.length_cons,List.length_singleton,Nat.zero_add];omega)) only [Option.bind_some,if_pos]
theorem qpe (v1:Te) (h:v1.sz<=1048576):yz0 v1=some v1:=by
 simp only [Te.sz] at h
 unfold yz0
 simp (disch:=first|omega|(simp only [List.length_nil,List.length_map,List.length_cons,List.length_singleton,Nat.zero_add];omega)) only [Option.bind_some,if_pos]
theorem qpq (v1:List Tf) (h:szL Tf.sz v1<=1048576):yyi v1=some v1:=by
 have hl:=zai (f:=Tf.sz) (xs:=v1)
 have e:=zl3 (body:=zx3 v1) (last:=ygi v1) v1 (fun _=>rfl) (by omega) (fun k x s hx hs=>by
  have hxs:=zaj (f:=Tf.sz) hx
  have hxz:x.sz<=1048576:=by omega
  simp only [Tf.sz] at hxs
  rw [zx3]
  simp (disch:=first|omega|(simp only [List.length_nil,List.length_map,List.length_cons,List.length_singleton,Nat.zero_add];omega)) only [qc9,Option.bind_some,if_pos])
 unfold yyi zvn
 rw [if_pos (by omega),e]
 rfl
theorem qu6 (v1:List Te) (h:szL Te.sz v1<=1048576):ywk v1=some v1:=by
 have hl:=zai (f:=Te.sz) (xs:=v1)
 have e:=zl3 (body:=zy7 v1) (last:=yft v1) v1 (fun _=>rfl) (by omega) (fun k x s hx hs=>by
  have hxs:=zaj (f:=Te.sz) hx
  have hxz:x.sz<=1048576:=by omega
  simp only [Te.sz] at hxs
  rw [zy7]
  simp (disch:=first|omega|(simp only [List.length_nil,List.length_map,List.length_cons,List.length_singleton,Nat.zero_add];omega)) only [qpe,Option.bind_some,if_pos])
 unfold ywk zst
 rw [if_pos (by omega),e]
 rfl
theorem qvf (v1:Tb) (h:v1.sz<=1048576):qa2 v1=some v1:=by
 simp only [Tb.sz] at h
 unfold qa2
 simp (disch:=first|omega|(simp only [List.length_nil,List.length_map,List.length_cons,List.length_singleton,Nat.zero_add];omega)) only [qc9,qpq,qu6,Option.bind_some,if_pos]
theorem qs5 (v1:Ti) (h:v1.sz<=1048576):yxc v1=some v1:=by
 simp only [Ti.sz] at h
 have hl:=zai (f:=Tb.sz) (xs:=v1.fg)
 have e:=zl3 (body:=zxv v1) (last:=yej v1) v1.fg (fun _=>rfl) (by omega) (fun k x s hx hs=>by
  have hxs:=zaj (f:=Tb.sz) hx
  have hxz:x.sz<=1048576:=by omega
  simp only [Tb.sz] at hxs
  rw [zxv]
  simp (disch:=first|omega|(simp only [List.length_nil,List.length_map,List.length_cons,List.length_singleton,Nat.zero_add];omega)) only [qvf,Option.bind_some,if_pos])
 have e2:zqd v1 []=some v1.fg:=by
  unfold zqd
  rw [if_pos (by omega),e]
 unfold yxc
 simp (disch:=first|omega|(simp only [List.length_nil,List.length_map,List.length_cons,List.length_singleton,Nat.zero_add];omega)) only [e2,Option.bind_some,if_pos]
theorem qff (v1:Ta) (h:v1.sz<=1048576):yvk v1=some v1:=by
 simp only [Ta.sz] at h
 unfold yvk
 simp (disch:=first|omega|(simp only [List.length_nil,List.length_map,List.length_cons,List.length_singleton,Nat.zero_add];omega)) only [qc9,Option.bind_some,if_pos]
theorem qv6 (v1:Tc) (h:v1.sz<=1048576):qa5 v1=some v1:=by
 simp only [Tc.sz] at h
 have hl:=zai (f:=Ta.sz) (xs:=v1.fu)
 have e:=zl3 (body:=zvs v1 v1.fd) (last:=yeg v1 v1.fd) v1.fu (fun _=>rfl) (by omega) (fun k x s hx hs=>by
  have hxs:=zaj (f:=Ta.sz) hx
  have hxz:x.sz<=1048576:=by omega
  simp only [Ta.sz] at hxs
  rw [zvs]
  simp (disch:=first|omega|(simp only [List.length_nil,List.length_map,List.length_cons,List.length_singleton,Nat.zero_add];omega)) only [qff,Option.bind_some,if_pos])
 have e2:zpi v1 v1.fd []=some v1.fu:=by
  unfold zpi
  rw [if_pos (by omega),e]
 unfold qa5
 simp (disch:=first|omega|(simp only [List.length_nil,List.length_map,List.length_cons,List.length_singleton,Nat.zero_add];omega)) only [qff,e2,Option.bind_some,if_pos]
theorem qts (v1:Th) (h:v1.sz<=1048576):ywo v1=some v1:=by
 simp only [Th.sz,Tl.sz] at h
 have hr:=zai (f:=Td.sz) (xs:=v1.fj.ft)
 have hl:=zai (f:=Tc.sz) (xs:=v1.fi)
 have e:=zl3 (body:=zth v1 v1.fh) (last:=yho v1 v1.fh) v1.fi (fun _=>rfl) (by omega) (fun k x s hx hs=>by
  have hxs:=zaj (f:=Tc.sz) hx
  have hxz:x.sz<=1048576:=by omega
  simp only [Tc.sz] at hxs
  rw [zth]
  simp (disch:=first|omega|(simp only [List.length_nil,List.length_map,List.length_cons,List.length_singleton,Nat.zero_add];omega)) only [qv6,Option.bind_some,if_pos])
 have e2:zpa v1 v1.fh []=some v1.fi:=by
  unfold zpa
  rw [if_pos (by omega),e]
 unfold ywo
 simp (disch:=first|omega|(simp only [List.length_nil,List.length_map,List.length_cons,List.length_singleton,Nat.zero_add];omega)) only [qs5,e2,Option.bind_some,if_pos]
theorem qaj (v1:Tg) (h:v1.sz<=1048576):yts v1=some v1:=by
 simp only [Tg.sz] at h
 unfold yts
 simp (disch:=first|omega|(simp only [List.length_nil,List.length_map,List.length_cons,List.length_singleton,Nat.zero_add];omega)) only [Option.bind_some,if_pos]
theorem qup (v1:Te) (h:v1.sz<=1048576):qad v1=some v1:=by
 simp only [Te.sz] at h
 unfold qad
 simp (disch:=first|omega|(simp only [List.length_nil,List.length_map,List.length_cons,List.length_singleton,Nat.zero_add];omega)) only [Option.bind_some,if_pos]
theorem qvh (v1:Tf) (h:v1.sz<=1048576):yx5 v1=some v1:=by
 simp only [Tf.sz] at h
 unfold yx5
 simp (disch:=first|omega|(simp only [List.length_nil,List.length_map,List.length_cons,List.length_singleton,Nat.zero_add];omega)) only [qaj,Option.bind_some,if_pos]
theorem qq2 (v1:List Tf) (h:szL Tf.sz v1<=1048576):yz9 v1=some v1:=by
 have hl:=zai (f:=Tf.sz) (xs:=v1)
 have e:=zl3 (body:=zx4 v1) (last:=yhr v1) v1 (fun _=>rfl) (by omega) (fun k x s hx hs=>by
  have hxs:=zaj (f:=Tf.sz) hx
  have hxz:x.sz<=1048576:=by omega
  simp only [Tf.sz] at hxs
  rw [zx4]
  simp (disch:=first|omega|(simp only [List.length_nil,List.length_map,List.length_cons,List.length_singleton,Nat.zero_add];omega)) only [qvh,Option.bind_some,if_pos])
 unfold yz9 zxx
 rw [if_pos (by omega),e]
 rfl
theorem qnj (v1:List Te) (h:szL Te.sz v1<=1048576):yzq v1=some v1:=by
 have hl:=zai (f:=Te.sz) (xs:=v1)
 have e:=zl3 (body:=zv6 v1) (last:=yge v1) v1 (fun _=>rfl) (by omega) (fun k x s hx hs=>by
  have hxs:=zaj (f:=Te.sz) hx
  have hxz:x.sz<=1048576:=by omega
  simp only [Te.sz] at hxs
  rw [zv6]
  simp (disch:=first|omega|(simp only [List.length_nil,List.length_map,List.length_cons,List.length_singleton,Nat.zero_add];omega)) only [qup,Option.bind_some,if_pos])
 unfold yzq zv1
 rw [if_pos (by omega),e]
 rfl
theorem qv1 (v1:Ti) (h:v1.sz<=1048576):ywy v1=some v1:=by
 simp only [Ti.sz] at h
 have hl:=zai (f:=Tb.sz) (xs:=v1.fg)
 have e:=zl3 (body:=zxl v1) (last:=yjo v1) v1.fg (fun _=>rfl) (by omega) (fun k x s hx hs=>by
  have hxs:=zaj (f:=Tb.sz) hx
  have hxz:x.sz<=1048576:=by omega
  simp only [Tb.sz] at hxs
  rw [zxl]
  simp (disch:=first|omega|(simp only [List.length_nil,List.length_map,List.length_cons,List.length_singleton,Nat.zero_add];omega)) only [qaj,qq2,qnj,Option.bind_some,if_pos])
 have e2:zou v1 []=some v1.fg:=by
  unfold zou
  rw [if_pos (by omega),e]
 unfold ywy
 simp (disch:=first|omega|(simp only [List.length_nil,List.length_map,List.length_cons,List.length_singleton,Nat.zero_add];omega)) only [e2,Option.bind_some,if_pos]
theorem qjr (v1:Ta) (h:v1.sz<=1048576):yuk v1=some v1:=by
 simp only [Ta.sz] at h
 unfold yuk
 simp (disch:=first|omega|(simp only [List.length_nil,List.length_map,List.length_cons,List.length_singleton,Nat.zero_add];omega)) only [qaj,Option.bind_some,if_pos]
theorem qw7 (v1:Tc) (h:v1.sz<=1048576):yz7 v1=some v1:=by
 simp only [Tc.sz] at h
 have hl:=zai (f:=Ta.sz) (xs:=v1.fu)
 have e:=zl3 (body:=ztd v1 v1.fd) (last:=yc3 v1 v1.fd) v1.fu (fun _=>rfl) (by omega) (fun k x s hx hs=>by
  have hxs:=zaj (f:=Ta.sz) hx
  have hxz:x.sz<=1048576:=by omega
  simp only [Ta.sz] at hxs
  rw [ztd]
  simp (disch:=first|omega|(simp only [List.length_nil,List.length_map,List.length_cons,List.length_singleton,Nat.zero_add];omega)) only [qjr,Option.bind_some,if_pos])
 have e2:znn v1 v1.fd []=some v1.fu:=by
  unfold znn
  rw [if_pos (by omega),e]
 unfold yz7
 simp (disch:=first|omega|(simp only [List.length_nil,List.length_map,List.length_cons,List.length_singleton,Nat.zero_add];omega)) only [qjr,e2,Option.bind_some,if_pos]
theorem qmv (v1:Tl) (h:v1.sz<=1048576):qa3 v1=some v1:=by
 simp only [Tl.sz] at h
 unfold qa3
 simp (disch:=first|omega|(simp only [List.length_nil,List.length_map,List.length_cons,List.length_singleton,Nat.zero_add];omega)) only [Option.bind_some,if_pos]
theorem qoh (v1:Th) (h:v1.sz<=1048576):yxy v1=some v1:=by
 simp only [Th.sz] at h
 have hl:=zai (f:=Tc.sz) (xs:=v1.fi)
 have e:=zl3 (body:=zu0 v1 v1.fj v1.fh) (last:=ycb v1 v1.fj v1.fh) v1.fi (fun _=>rfl) (by omega) (fun k x s hx hs=>by
  have hxs:=zaj (f:=Tc.sz) hx
  have hxz:x.sz<=1048576:=by omega
  simp only [Tc.sz] at hxs
  rw [zu0]
  simp (disch:=first|omega|(simp only [List.length_nil,List.length_map,List.length_cons,List.length_singleton,Nat.zero_add];omega)) only [qw7,Option.bind_some,if_pos])
 have e2:zpz v1 v1.fj v1.fh []=some v1.fi:=by
  unfold zpz
  rw [if_pos (by omega),e]
 unfold yxy
 simp (disch:=first|omega|(simp only [List.length_nil,List.length_map,List.length_cons,List.length_singleton,Nat.zero_add];omega)) only [qmv,qv1,e2,Option.bind_some,if_pos]
end Go.Pm
namespace Go.Pm
theorem zyv (l:List Td):szL Td.sz l=l.length:=by
 have:(l.map Td.sz).sum=0:=by
  induction l with
  | nil=>rfl
  | cons x t ih=>simp only [List.map_cons,List.sum_cons,ih,Td.sz]
 unfold szL;omega
theorem zz7 (a:Th) (k:Int) (hz:a.sz<=1048576) (hk:0<=k) (hk':k+64 * (a.sz:Int)<=1000000000000):∃ k' f,yvq a k=some (k',f)/\k<=k'/\k'<=k+64 * (a.sz:Int)/\∀ g:Th,g.fj.ft=f.fj.ft->g.fh.fg=f.fh.fg->g.fi=f.fi->ytz g k=some k':=by
 simp only [Th.sz,Tl.sz,Ti.sz] at hz hk' ⊢
 have hr0:=zyv a.fj.ft
 obtain ⟨k1,l1,e1,f1,g1,h1,i1⟩:=yh5 a.fj.ft k (by omega) hk (by omega)
 obtain ⟨k2,l2,e2,f2,g2,h2,i2⟩:=yqa a.fh.fg k1 (by omega) (by omega) (by omega)
 obtain ⟨k3,l3,e3,f3,g3,h3,i3⟩:=yrc a.fi k2 (by omega) (by omega) (by omega)
 refine ⟨k3,{ a with fj:={ a.fj with ft:=l1 },fh:=⟨a.fh.faa,l2⟩,fi:=l3 },?_,by omega,by omega,?_⟩
 ·unfold yvq qbg qbk
  simp only [e1,e2,e3,Option.bind_some,List.length_map,f1,f2,f3,Nat.le_refl,if_true,zoo f1,zoo f2,zoo f3]
  try rfl
 ·intro g q1 q2 q3
  simp only at q1 q2 q3
  unfold ytz qcn qao
  simp only [q1,q2,q3,i1,i2,i3,Option.bind_some,dlt (show (0:Int)<=k1 by omega),dlt (show (0:Int)<=k2 by omega),dlt (show (0:Int)<=k3 by omega),cond_false]
def zsd (a:Th) (r:List Td):Th×Bool:=bif zfn a&&zgr r then({ a with fj:={ a.fj with ft:=r } },true) else(a,false)
theorem yiz (a:Th) (r:List Td) (hs:a.sz<=1048576) (hr:r.length<=1048576):ywh a r=some (zsd a r):=by
 unfold ywh zsd
 simp only [qoh a hs,qtg a hs,qma r hr,Option.bind_some]
 rw [if_pos (by omega)]
 cases zfn a <;> cases zgr r <;> rfl
theorem yjb (a:Th) (r:List Td) (ha:a.ok) (hok:∀ x∈r,x.ok) (hs:a.sz<=1048576) (hr:r.length<=1048576):yzc a r=some (zsd a r):=by
 unfold yzc zsd
 simp only [qts a hs,qxo a hs ha,ql1 r hr hok,Option.bind_some]
 rw [if_pos (by simp only [List.length_nil,List.length_map];omega)]
 cases zfn a <;> cases zgr r <;> rfl
theorem ypm (a:Th) (r:List Td):(zsd a r).1.sz<=a.sz+r.length:=by
 unfold zsd
 cases zfn a&&zgr r
 ·exact Nat.le_add_right _ _
 ·simp only [cond_true,Th.sz,Tl.sz];omega
theorem zfg (a:Th) (r:List Td) (h:a.ok) (hl:r.length<=9223372036854775807) (hok:∀ x∈r,x.ok):qan a r=some true:=by
 rw [qan]
 obtain ⟨h1,h2⟩:=ybf a h 1048576 (by omega) (by omega)
 by_cases hs:a.sz<=1048576
 ·rw [h1 (by omega)]
  have hd:decide ((1048576:Int) - (a.sz:Int)<0)=false:=by simp;omega
  simp only [Option.bind_some,hd,cond_false]
  obtain ⟨g1,g2⟩:=zrz r hl (1048576 - (a.sz:Int)) (by omega) (by omega)
  by_cases hs2:a.sz+r.length<=1048576
  ·rw [g1 (by omega)]
   have hd2:decide ((1048576:Int) - (a.sz:Int) - (r.length:Int)<0)=false:=by simp;omega
   have hsw:=ypm a r
   obtain ⟨k1,f1,e1,e2,e3,_⟩:=zz7 a 1 hs (by omega) (by omega)
   obtain ⟨k2,l2,e4,_,e5,e6,_⟩:=yh5 r k1 (by rw [zyv];omega) (by omega) (by rw [zyv];omega)
   obtain ⟨k3,f3,e7,e8,e9,e10⟩:=zz7 (zsd a r).1 1 (by omega) (by omega) (by omega)
   have hh:∀ n w t m p q u v,ytz ⟨n,⟨w,t,f3.fj.ft⟩,⟨m,f3.fh.fg⟩,f3.fi,p,q,u,v⟩ 1=some k3:=fun n w t m p q u v=>e10 _ rfl rfl rfl
   simp only [Option.bind_some,hd2,cond_false,yb6 a hs,zrq r (by omega),yiz a r hs (by omega),yjb a r h hok hs (by omega),zl9 a hs,zl9 (zsd a r).1 (by omega),zrt r (by omega),e1,e4,e7,BEq.rfl,Bool.true_xor,Bool.not_true,dlt (show (0:Int)<=k2 by omega)]
   simp only [hh,Option.bind_some,cond_false,dlt (show (0:Int)<=k3 by omega),neI]
  ·obtain ⟨v,hv,h0⟩:=g2 (by omega)
   rw [hv]
   have hd:decide (v<0)=true:=by simp;exact h0
   simp only [Option.bind_some,hd,cond_true]
 ·obtain ⟨v,hv,h0⟩:=h2 (by omega)
  rw [hv]
  have hd:decide (v<0)=true:=by simp;exact h0
  simp only [Option.bind_some,hd,cond_true]
end Go.Pm
