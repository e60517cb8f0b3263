/- Proved: the law FnExactWorldOk answers true at all arguments, for every operating system that has started; no conditions beyond the row's own. -/
import Derived.Test.YtfoflieoeahhfaaGreatMp
set_option linter.unusedVariables false
set_option linter.unusedSimpArgs false
namespace Go.Pm
open IntKind (i64)
theorem ykh (l:List Bool) (x:Bool):qlj l x=l.any (fun y=>false ^^ (x == y)):=zg2
def zg8 (p:Tb) (d:List Th) (x:Th):Bool:=
 !ysk x||(match p.fu[d.length]?,p.fab[d.length]? with
  | some h,some r=>(bif h then !zj7 x.fa r else !yok r ⟨0,0,0,0,[],[]⟩)
  | _,_=>false)
def zkb (p:Tb):Bool:=zkq p.fai&&(zkq p.faj&&(znj p.fa&&(zbc ((p.fo.length:Nat):Int) 1 8&&(decide (p.fu.length=p.fo.length)&&(decide (p.fab.length=p.fo.length)&&(!anyP (zg8 p) [] p.fo&&p.fu.any (fun h=> !h)))))))
theorem mem_mid {α:Type} {d t xs:List α} {x:α} (he:d++x::t=xs):x∈xs:=by rw [<- he];simp
theorem jdt (v1:Tb) (hv1:v1.sz<=1048576):yy3 v1=some (decide (0<=v1.fk)&&zkb v1):=by
 have g:=hv1
 simp only [Tb.sz] at g
 have gp:=zay (f:=Th.sz) (xs:=v1.fo)
 have gt:=zay (f:=Td.sz) (xs:=v1.fab)
 rw [yy3]
 by_cases hid:v1.fk<0
 ·have:¬ 0<=v1.fk:=by omega
  simp [hid,this]
 have hid':0<=v1.fk:=by omega
 simp only [hid,hid',decide_false,cond_false,decide_true,Bool.true_and,yws,ytz v1.fa (by omega),zrs,Option.bind_some]
 unfold zkb
 cases zkq v1.fai
 ·rfl
 cases zkq v1.faj
 ·rfl
 cases znj v1.fa
 ·rfl
 cases zbc ((v1.fo.length:Nat):Int) 1 8
 ·rfl
 by_cases h1:v1.fu.length=v1.fo.length
 rotate_left
 ·have h1':¬((v1.fu.length:Nat):Int)=((v1.fo.length:Nat):Int):=by omega
  simp [h1,h1']
 by_cases h2:v1.fab.length=v1.fo.length
 rotate_left
 ·have h2':¬((v1.fab.length:Nat):Int)=((v1.fo.length:Nat):Int):=by omega
  simp [h1,h2,h2']
 simp only [h1,h2,Bool.not_true,cond_false,ne_eq,not_true_eq_false,decide_false,decide_true,Bool.true_and]
 unfold zvq
 rw [ya4 (zg8 v1) (by omega) rfl (fun d x t he=>⟨_,by
  have hlt:=zdy he
  have hm:=zan (f:=Th.sz) (mem_mid he)
  have hx:x.sz=x.fa.sz+0:=rfl
  have hh:d.length<v1.fu.length:=by omega
  have ht:d.length<v1.fab.length:=by omega
  have hr:v1.fab[d.length].sz<=szL Td.sz v1.fab:=zan (List.getElem_mem ht)
  rw [yh4,zab,List.getElem?_eq_getElem hh,List.getElem?_eq_getElem ht]
  unfold zg8
  rw [List.getElem?_eq_getElem hh,List.getElem?_eq_getElem ht]
  simp only [jdk x (by omega),Option.bind_some,qzh x.fa v1.fab[d.length] (by omega) (by omega),qmy v1.fab[d.length] ⟨0,0,0,0,[],[]⟩ (by omega) (by simp [Td.sz])]
  cases ysk x
  ·rfl
  ·cases v1.fu[d.length]
   ·rcases Bool.eq_false_or_eq_true (yok v1.fab[d.length] ⟨0,0,0,0,[],[]⟩) with hs|hs <;> simp only [hs] <;> rfl
   ·rcases Bool.eq_false_or_eq_true (zj7 x.fa v1.fab[d.length]) with hs|hs <;> simp only [hs] <;> rfl⟩),qnd v1.fu false (by omega),Option.bind_some,ykh]
 have e:(fun y=>false ^^ (false == y))=fun h:Bool=> !h:=by funext y;cases y <;> rfl
 rw [e]
 cases anyP (zg8 v1) [] v1.fo <;> rfl
theorem zy6 {α:Type} (has:List Bool):∀ (t d:List α) (s:Bool),d.length+t.length=has.length->zrp (fun s d _=>bif s then(has[d.length]?).getD false else false) s d t=(s&&(has.drop d.length).all id)
 | [],d,s,h=>by
   have:has.drop d.length=[]:=List.drop_eq_nil_of_le (by simpa using Nat.le_of_eq h.symm)
   simp [zrp,this]
 | x::t,d,s,h=>by
   have hlt:d.length<has.length:=by simp at h;omega
   simp only [zrp]
   rw [zy6 has t (d ++ [x]) _ (by simp at h ⊢;omega),List.drop_eq_getElem_cons hlt,List.getElem?_eq_getElem hlt]
   simp only [List.length_append,List.length_singleton,List.all_cons,Option.getD_some,id]
   cases s <;> cases has[d.length] <;> simp
theorem qrq (v1:Tb) (hv1:v1.sz<=1048576):yyj v1=some (zkb v1):=by
 have g:=hv1
 simp only [Tb.sz] at g
 have gp:=zay (f:=Th.sz) (xs:=v1.fo)
 have gt:=zay (f:=Td.sz) (xs:=v1.fab)
 rw [yyj]
 simp only [zea,yu1 v1.fa (by omega),Option.bind_some]
 unfold zkb zkq
 cases zbc v1.fai 0 1000000000
 ·rfl
 cases zbc v1.faj 0 1000000000
 ·rfl
 cases znj v1.fa
 ·rfl
 cases zbc ((v1.fo.length:Nat):Int) 1 8
 ·rfl
 by_cases h1:v1.fu.length=v1.fo.length
 rotate_left
 ·have h1':¬((v1.fu.length:Nat):Int)=((v1.fo.length:Nat):Int):=by omega
  simp [h1,h1']
 by_cases h2:v1.fab.length=v1.fo.length
 rotate_left
 ·have h2':¬((v1.fab.length:Nat):Int)=((v1.fo.length:Nat):Int):=by omega
  simp [h1,h2,h2']
 simp only [h1,h2,Bool.not_true,cond_false,ne_eq,not_true_eq_false,decide_false,decide_true,Bool.true_and]
 unfold zsr
 rw [qqm (last:=yhw v1) (zg8 v1) (fun s d _=>bif s then(v1.fu[d.length]?).getD false else false) id (by omega) (fun s=>rfl) (fun d x t s he=>⟨(s,((d.length:Nat):Int)),by
  have hlt:=zdy he
  have hm:=zan (f:=Th.sz) (mem_mid he)
  have hx:x.sz=x.fa.sz+0:=rfl
  have hh:d.length<v1.fu.length:=by omega
  have ht:d.length<v1.fab.length:=by omega
  have hr:v1.fab[d.length].sz<=szL Td.sz v1.fab:=zan (List.getElem_mem ht)
  rw [ybg,zab,List.getElem?_eq_getElem hh,List.getElem?_eq_getElem ht]
  unfold zg8
  rw [List.getElem?_eq_getElem hh,List.getElem?_eq_getElem ht]
  simp only [qty x (by omega),Option.bind_some,qw3 x.fa v1.fab[d.length] (by omega) (by omega),qok v1.fab[d.length] (by omega),zrc,Option.getD_some]
  cases ysk x
  ·rfl
  ·cases v1.fu[d.length]
   ·rcases Bool.eq_false_or_eq_true (yok v1.fab[d.length] ⟨0,0,0,0,[],[]⟩) with hs|hs <;> simp only [hs] <;> cases s <;> rfl
   ·rcases Bool.eq_false_or_eq_true (zj7 x.fa v1.fab[d.length]) with hs|hs <;> simp only [hs] <;> cases s <;> rfl⟩)]
 rw [zy6 v1.fu v1.fo [] true (by simp;omega)]
 have e:(!(v1.fu.all id))=v1.fu.any (fun h=> !h):=by rw [List.all_eq_not_any_not,Bool.not_not];rfl
 simp only [List.length_nil,List.drop_zero,Bool.true_and,id,e]
 cases anyP (zg8 v1) [] v1.fo <;> simp
def zk2 (l:List Tb) (d:List Tb) (x:Tb):Bool:=bif decide (0<d.length) then(match l[d.length - 1]? with|some y=>decide (x.fk<=y.fk)|none=>false) else false
def zhm (t:Tn) (d:List Tb) (x:Tb):Bool:= !(decide (0<=x.fk)&&zkb x)||(decide (t.fw<=x.fk)||zk2 t.fj d x)
def zci (t:Tn):Bool:= !anyP (zhm t) [] t.fj&&(zkq t.fw&&decide (((t.fj.length:Nat):Int)<=16))
theorem ye7 {l d t:List Tb} {x:Tb} (he:d++x::t=l) (hl:l.length<=1048576) {ε:Type} (A B:Option ε):
 (bif decide (0<((d.length:Nat):Int)) then(if 0<=(i64.wrap (((d.length:Nat):Int) - 1)) then((l[(i64.wrap (((d.length:Nat):Int) - 1)).toNat]?).bind fun v=>(bif decide (x.fk<=v.fk) then A else B)) else none) else B)=if zk2 l d x then A else B:=by
 have hlt:d.length<l.length:=zdy he
 unfold zk2
 by_cases h0:0<d.length
 ·have hw:i64.wrap (((d.length:Nat):Int) - 1)=((d.length - 1:Nat):Int):=by rw [zc0 (by omega) (by omega)];omega
  have hd:decide (0<((d.length:Nat):Int))=true:=by simp;omega
  have hd':decide (0<d.length)=true:=by simp [h0]
  rw [hw,hd,hd',zab,List.getElem?_eq_getElem (show d.length - 1<l.length by omega)]
  simp only [cond_true,if_pos (Int.natCast_nonneg _),Option.bind_some]
  by_cases hx:x.fk<=l[d.length - 1].fk <;> simp [hx]
 ·have hd:decide (0<((d.length:Nat):Int))=false:=by simp only [decide_eq_false_iff_not];omega
  have hd':decide (0<d.length)=false:=by simp [h0]
  rw [hd,hd'];rfl
theorem qnn (v1:Tn) (hv1:v1.sz<=1048576):ytm v1=some (zci v1):=by
 have g:=hv1
 simp only [Tn.sz] at g
 have gl:=zay (f:=Tb.sz) (xs:=v1.fj)
 rw [ytm];unfold zs4
 rw [ya4 (zhm v1) (by omega) rfl (fun d x t he=>⟨_,by
  have hm:=zan (f:=Tb.sz) (mem_mid he)
  rw [ybx,ye7 he (by omega),jdt x (by omega),Option.bind_some]
  unfold zhm
  cases (decide (0<=x.fk)&&zkb x)
  ·rfl
  ·cases decide (v1.fw<=x.fk)
   ·cases zk2 v1.fj d x <;> rfl
   ·rfl⟩),yws]
 simp only [Option.bind_some]
 unfold zci
 cases anyP (zhm v1) [] v1.fj <;> cases zkq v1.fw <;> rfl
theorem qhq (v1:Tn) (hv1:v1.sz<=1048576):ysu v1=some (zci v1):=by
 have g:=hv1
 simp only [Tn.sz] at g
 have gl:=zay (f:=Tb.sz) (xs:=v1.fj)
 rw [ysu,zea,Option.bind_some]
 unfold zci zkq
 cases hn:zbc v1.fw 0 1000000000
 ·simp
 have hn':0<=v1.fw/\v1.fw<=1000000000:=by
  simp only [zbc] at hn
  by_cases h:0<=v1.fw
  ·simpa [h] using hn
  ·simp [h] at hn
 by_cases hl:16<((v1.fj.length:Nat):Int)
 ·have:¬((v1.fj.length:Nat):Int)<=16:=by omega
  simp [hl,this]
 have hl':((v1.fj.length:Nat):Int)<=16:=by omega
 simp only [hl,hl',decide_false,decide_true,cond_false,Bool.not_true,Bool.and_true]
 unfold zut
 rw [ya4 (zhm v1) (by omega) rfl (fun d x t he=>⟨((d.length:Nat):Int),by
  have hm:=zan (f:=Tb.sz) (mem_mid he)
  rw [yfx,ye7 he (by omega),qrq x (by omega),zea,zc0 (n:=v1.fw - 1) (by omega) (by omega)]
  simp only [Option.bind_some]
  unfold zhm zbc
  cases zkb x
  ·simp
  ·by_cases h0:0<=x.fk
   ·by_cases h1:v1.fw<=x.fk
    ·have:¬ x.fk<=v1.fw - 1:=by omega
     simp [h0,h1,this]
    ·have:x.fk<=v1.fw - 1:=by omega
     cases zk2 v1.fj d x <;> simp [h0,h1,this]
   ·simp [h0]⟩)]
 cases anyP (zhm v1) [] v1.fj <;> rfl
end Go.Pm
namespace Go.Pm
open IntKind (i64)
def zrq (v1:Ta):Bool:=(let v2:=zkq v1.fk;(bif v2 then(let v4:=zbc v1.fr 0 7;(bif v4 then(let v6:=yh9 v1.fg;(bif v6 then(let v8:=znj v1.fa;v8) else false)) else false)) else false))
theorem qo3 (v1:Ta) (hv1:v1.sz<=1048576):yti v1=some (zrq v1):=by
 rw [yti];first|rfl|(simp only [yws v1.fk,zrs v1.fr 0 7,ys0 v1.fg,ytz v1.fa (by simp only [Ta.sz] at hv1;omega),Option.bind_some,za8];rfl)
def qon (v1:Ta):Bool:=(let v2:=zbc v1.fk 0 1000000000;(bif v2 then(let v4:=zbc v1.fr 0 7;(bif v4 then(let v6:=zbc v1.fg 1 247;(bif v6 then(let v8:=znj v1.fa;v8) else false)) else false)) else false))
theorem jeh (v1:Ta) (hv1:v1.sz<=1048576):ys7 v1=some (qon v1):=by
 rw [ys7];first|rfl|(simp only [zea v1.fk 0 1000000000,zea v1.fr 0 7,zea v1.fg 1 247,yu1 v1.fa (by simp only [Ta.sz] at hv1;omega),Option.bind_some,za8];rfl)
def qjm (v1:Ta):Bool:=(bif decide (v1.fk=0) then(bif decide (v1.fr=0) then(bif decide (v1.fg=0) then(let v5:=ytx v1.fa;v5) else false) else false) else false)
theorem qv8 (v1:Ta) (hv1:v1.sz<=1048576):ytl v1=some (qjm v1):=by
 rw [ytl];first|rfl|(simp only [ql8 v1.fa (by simp only [Ta.sz] at hv1;omega),Option.bind_some,za8];rfl)
theorem qpx (v1:Ta) (hv1:v1.sz<=1048576):qon v1=zrq v1:=by
 rfl
theorem qlo (v1:Ta) (hv1:v1.sz<=1048576):ys7 v1=some (zrq v1):=by rw [jeh v1 hv1,qpx v1 hv1]
theorem jj8 (v1:Ta) (hv1:v1.sz<=1048576):qjm v1=ypu v1:=by
 simp only [qjm,ypu,zxt]
theorem qsd (v1:Ta) (hv1:v1.sz<=1048576):ytl v1=some (ypu v1):=by rw [qv8 v1 hv1,jj8 v1 hv1]
def qh4 (v1:List Tm) (v2:Tm):Int:=zhz (fun (x:Tm)=>(decide (v2.fid=x.fid)&&(decide (v2.fpart=x.fpart)&&true))) v1 0
theorem jay (v1:List Tm) (v2:Tm) (hv1:v1.length<=1048576):yz3 v1 v2=some (qh4 v1 v2):=by
 have hlen:v1.length<=9223372036854775806:=by have hq:v1.length<=v1.length:=Nat.le_refl _;omega
 rw [yz3];unfold zvs qh4
 exact ym7 (fun (x:Tm)=>(decide (v2.fid=x.fid)&&(decide (v2.fpart=x.fpart)&&true))) hlen rfl (fun d x t he=>by rw [ye8];first|rfl|(simp only [Option.bind_some];done)|(simp only [Option.bind_some];rfl)|done)
def qgt (v1:Tb) (v2:Ta):Bool:=decide (v1.fk=v2.fk)
theorem ql0 (v1:Tb) (v2:Ta) (hv1:v1.sz<=1048576) (hv2:v2.sz<=1048576):qa5 v1 v2=some (qgt v1 v2):=by
 rw [qa5];first|rfl|(simp only [Option.bind_some,za8];rfl)
def qg3 (v1:List Tb) (v2:Ta):Int:=zhz (fun (x:Tb)=>qgt x v2) v1 0
theorem qqg (v1:List Tb) (v2:Ta) (hv1:szL Tb.sz v1<=1048576) (hv2:v2.sz<=1048576):yyq v1 v2=some (qg3 v1 v2):=by
 have hlen:v1.length<=9223372036854775806:=by have hq:v1.length<=szL Tb.sz v1:=zay;omega
 rw [yyq];unfold zuw qg3
 exact ym7 (fun (x:Tb)=>qgt x v2) hlen rfl (fun d x t he=>by rw [yds];first|rfl|(simp only [ql0 x v2 (by have:=zan (f:=Tb.sz) (he ▸ (by simp:x∈d++x::t));omega) hv2,Option.bind_some];done)|(simp only [ql0 x v2 (by have:=zan (f:=Tb.sz) (he ▸ (by simp:x∈d++x::t));omega) hv2,Option.bind_some];rfl)|done)
def qi9 (v1:List Tm) (v2:Tm):Bool:=(let v3:=qh4 v1 v2;decide (0<=v3))
theorem qpt (v1:List Tm) (v2:Tm) (hv1:v1.length<=1048576):yyo v1 v2=some (qi9 v1 v2):=by
 rw [yyo];first|rfl|(simp only [jay v1 v2 hv1,Option.bind_some,za8];rfl)
def zoe (l:Tc):Bool:=
 yp9 l.faf l.fad&&(!decide (40<((l.fac.length:Nat):Int))&&(zgd l.fw&&(!l.fac.any (fun c=> !zrq c) &&
  (bif !l.faw then ypu l.ff&&(decide (l.fag=0)&&(decide (l.fay=0)&&decide (l.faz=0))) else
   zrq l.ff&&(zgd l.fag&&(yj3 l.fay&&zbc l.faz 0 l.fad))))))
theorem qtw (v1:Tc) (hv1:v1.sz<=1048576):qa9 v1=some (zoe v1):=by
 have g:=hv1
 simp only [Tc.sz] at g
 have gl:=zay (f:=Ta.sz) (xs:=v1.fac)
 rw [qa9]
 simp only [qo7,yi5,qzm v1.ff (by omega),qo3 v1.ff (by omega),qkw,zrs,Option.bind_some,za8]
 unfold zu1
 rw [ya4 (fun _ c=> !zrq c) (by omega) rfl (fun d x t he=>⟨_,by
  have hm:=zan (f:=Ta.sz) (mem_mid he)
  rw [yg8,qo3 x (by omega),Option.bind_some]
  cases zrq x <;> rfl⟩),zcq]
 unfold zoe
 cases yp9 v1.faf v1.fad <;> cases decide (40<((v1.fac.length:Nat):Int)) <;> cases zgd v1.fw <;> cases (v1.fac.any fun c=> !zrq c) <;> try rfl
 cases v1.faw
 ·cases ypu v1.ff <;> cases decide (v1.fag=0) <;> cases decide (v1.fay=0) <;> cases decide (v1.faz=0) <;> rfl
 ·cases zrq v1.ff <;> cases zgd v1.fag <;> cases yj3 v1.fay <;> cases zbc v1.faz 0 v1.fad <;> rfl
theorem jbm (v1:Tc) (hv1:v1.sz<=1048576):qbp v1=some (zoe v1):=by
 have g:=hv1
 simp only [Tc.sz] at g
 have gl:=zay (f:=Ta.sz) (xs:=v1.fac)
 rw [qbp]
 simp only [zea,qsd v1.ff (by omega),qlo v1.ff (by omega),qo5,Option.bind_some,za8]
 unfold zwh
 rw [ya4 (fun _ c=> !zrq c) (by omega) rfl (fun d x t he=>⟨_,by
  have hm:=zan (f:=Ta.sz) (mem_mid he)
  rw [ybv,qlo x (by omega),Option.bind_some]
  cases zrq x <;> rfl⟩),zcq]
 unfold zoe yp9 zgd
 cases zbc v1.faf 1 100 <;> cases zbc v1.fad 0 5 <;> cases decide (40<((v1.fac.length:Nat):Int)) <;> cases zbc v1.fw 0 65535 <;> cases (v1.fac.any fun c=> !zrq c) <;> try rfl
 cases v1.faw
 ·cases ypu v1.ff <;> cases decide (v1.fag=0) <;> cases decide (v1.fay=0) <;> cases decide (v1.faz=0) <;> rfl
 ·cases zrq v1.ff <;> cases zbc v1.fag 0 65535 <;> cases yj3 v1.fay <;> cases zbc v1.faz 0 v1.fad <;> rfl
def zd0 (l:Tc):List Ta:=bif l.faw then l.fac ++ [l.ff] else l.fac
def ze1 (l:Tc):List Ta:=bif l.faw then [l.ff]++l.fac else l.fac
theorem ja0 (v1:Tc) (hv1:v1.sz<=1048576):qb6 v1=some (zd0 v1):=by
 simp only [Tc.sz] at hv1
 have gl:=zay (f:=Ta.sz) (xs:=v1.fac)
 rw [qb6]
 rw [if_pos (by omega)]
 simp only [Option.bind_some,List.length_map,List.length_singleton]
 rw [if_pos (by omega),za8];rfl
theorem jjf (v1:Tc) (hv1:v1.sz<=1048576):qbo v1=some (ze1 v1):=by
 simp only [Tc.sz] at hv1
 have gl:=zay (f:=Ta.sz) (xs:=v1.fac)
 rw [qbo]
 simp only [List.length_map,List.length_singleton,List.length_nil]
 rw [if_pos (by omega),if_pos (by omega),if_pos (by omega),za8];rfl
theorem zha (l:Tc):(zd0 l).Perm (ze1 l):=by
 unfold zd0 ze1
 cases l.faw
 ·exact List.Perm.refl _
 ·exact List.perm_append_comm
theorem zri (l:Tc):(zd0 l).length<=l.fac.length+1/\(ze1 l).length<=l.fac.length+1:=by
 unfold zd0 ze1;cases l.faw <;> simp
theorem zxl (l:Tc) {c:Ta} (h:c∈zd0 l):c.sz<=l.sz:=by
 simp only [Tc.sz]
 unfold zd0 at h
 cases hb:l.faw <;> simp only [hb,cond_false,cond_true,List.mem_append,List.mem_singleton] at h
 ·have:=zan (f:=Ta.sz) h;omega
 ·rcases h with h|rfl
  ·have:=zan (f:=Ta.sz) h;omega
  ·omega
def zcz (t:Tn) (port:Int) (c:Ta):Bool:=match t.fj.find? (fun x=>decide (x.fk=c.fk)) with
 | none=>false
 | some p=>bif decide (((p.fo.length:Nat):Int)<=c.fr) then false else match p.fu[c.fr.toNat]?,p.fo[c.fr.toNat]? with
   | some h,some q=>bif h then false else decide (q.fp=port)&&(decide (q.fg=c.fg)&&yk9 q.fa c.fa)
   | _,_=>false
theorem zr8 {α:Type} {p:α->Bool} {xs:List α}:(xs.find? p=none->zhz p xs 0= -1)/\∀ y,xs.find? p=some y->∃ i:Nat,zhz p xs 0=(i:Int)/\xs[i]? =some y:=by
 constructor
 ·intro h
  apply zj9
  rw [List.find?_eq_none] at h
  rw [List.any_eq_false];exact h
 ·intro y h
  obtain ⟨hp,d,t,rfl,hd⟩:=List.find?_eq_some_iff_append.1 h
  have hd':d.any p=false:=by rw [List.any_eq_false];intro x hx;have:=hd x hx;simpa using this
  refine ⟨d.length,?_,by simp⟩
  rw [znk hd' hp];simp
theorem zkh {α:Type} {p:List α->α->Bool}:∀ {t d:List α},anyP p d t=false->∀ a x b,t=a++x::b->p (d++a) x=false
 | [],d,_,a,x,b,h=>by cases a <;> cases h
 | y::t,d,hp,a,x,b,h=>by
   simp only [anyP,Bool.or_eq_false_iff] at hp
   cases a with
   | nil=>cases h;simpa using hp.1
   | cons z a=>
     cases h
     have:=zkh hp.2 a x b rfl
     simpa using this
theorem yie {α:Type} {p:List α->α->Bool} {xs:List α} (h:anyP p [] xs=false) {x:α} (hx:x∈xs):∃ d,p d x=false:=by
 obtain ⟨a,b,rfl⟩:=List.append_of_mem hx
 exact ⟨a,by have:=zkh h a x b rfl;simpa using this⟩
theorem zku {t:Tn} (h:zci t=true) {p:Tb} (hp:p∈t.fj):zkb p=true:=by
 unfold zci at h
 simp only [Bool.and_eq_true,Bool.not_eq_true'] at h
 obtain ⟨d,hd⟩:=yie h.1 hp
 unfold zhm at hd
 simp only [Bool.or_eq_false_iff,Bool.not_eq_false',Bool.and_eq_true] at hd
 exact hd.1.2
theorem zxe {p:Tb} (h:zkb p=true):p.fu.length=p.fo.length/\p.fab.length=p.fo.length:=by
 unfold zkb at h
 simp only [Bool.and_eq_true,decide_eq_true_eq] at h
 exact ⟨h.2.2.2.2.1,h.2.2.2.2.2.1⟩
theorem jcd (v1:Tn) (v2:Int) (v3:Ta) (hv1:v1.sz<=1048576) (hv3:v3.sz<=1048576) (ht:zci v1=true) (h0:0<=v3.fr):yzj v1 v2 v3=some (zcz v1 v2 v3):=by
 have g:=hv1
 simp only [Tn.sz] at g
 rw [yzj,qqg v1.fj v3 (by omega) hv3,Option.bind_some,show qg3 v1.fj v3=zhz (fun x=>decide (x.fk=v3.fk)) v1.fj 0 from rfl]
 unfold zcz
 obtain ⟨f1,f2⟩:=zr8 (p:=fun x=>decide (x.fk=v3.fk)) (xs:=v1.fj)
 cases hf:v1.fj.find? (fun x=>decide (x.fk=v3.fk)) with
 | none=>rw [f1 hf];rfl
 | some p=>
   obtain ⟨i,hi,hp⟩:=f2 p hf
   have hm:p∈v1.fj:=List.mem_of_getElem? hp
   have hl:=zxe (zku ht hm)
   have hsz:=zan (f:=Tb.sz) hm
   rw [hi]
   have hd:decide ((i:Int)<0)=false:=by simp
   simp only [hd,cond_false,if_pos (Int.natCast_nonneg _),zab,hp,Option.bind_some]
   by_cases hc:((p.fo.length:Nat):Int)<=v3.fr
   ·simp [hc]
   ·have h1:v3.fr.toNat<p.fu.length:=by omega
    have h2:v3.fr.toNat<p.fo.length:=by omega
    have hq:p.fo[v3.fr.toNat].sz<=szL Th.sz p.fo:=zan (List.getElem_mem h2)
    simp only [Tb.sz] at hsz
    have hq':p.fo[v3.fr.toNat].sz=p.fo[v3.fr.toNat].fa.sz+0:=rfl
    have hc3:v3.sz=v3.fa.sz+0:=rfl
    simp only [hc,decide_false,cond_false,if_pos h0,List.getElem?_eq_getElem h1,List.getElem?_eq_getElem h2,Option.bind_some,qdq p.fo[v3.fr.toNat].fa v3.fa (by omega) (by omega)]
    cases p.fu[v3.fr.toNat]
    ·by_cases e1:p.fo[v3.fr.toNat].fp=v2 <;> by_cases e2:p.fo[v3.fr.toNat].fg=v3.fg <;> simp [e1,e2]
    ·rfl
theorem jcx (v1:Tn) (v2:Int) (hv1:v1.fj.length<=1048576):ywe v1 v2=some (zhz (fun x=>decide (x.fk=v2)) v1.fj 0):=by
 rw [ywe];unfold zws
 exact ym7 (xs:=v1.fj) (fun (x:Tb)=>decide (x.fk=v2)) (by omega) rfl (fun d x t he=>by rw [yfz])
theorem qwt (v1:To) (v2:Int) (v3:Ta) (hv1:v1.fq.sz<=1048576) (hv3:v3.sz<=1048576) (ht:zci v1.fq=true) (h0:0<=v3.fr):yxb v1 v2 v3=some (zcz v1.fq v2 v3):=by
 have g:=hv1
 simp only [Tn.sz] at g
 have gl:=zay (f:=Tb.sz) (xs:=v1.fq.fj)
 rw [yxb,jcx v1.fq v3.fk (by omega),Option.bind_some]
 unfold zcz
 obtain ⟨f1,f2⟩:=zr8 (p:=fun x=>decide (x.fk=v3.fk)) (xs:=v1.fq.fj)
 cases hf:v1.fq.fj.find? (fun x=>decide (x.fk=v3.fk)) with
 | none=>rw [f1 hf];rfl
 | some p=>
   obtain ⟨i,hi,hp⟩:=f2 p hf
   have hm:p∈v1.fq.fj:=List.mem_of_getElem? hp
   have hl:=zxe (zku ht hm)
   have hsz:=zan (f:=Tb.sz) hm
   rw [hi]
   have hd:decide ((i:Int)<0)=false:=by simp
   simp only [hd,cond_false,if_pos (Int.natCast_nonneg _),zab,hp,Option.bind_some]
   by_cases hc:((p.fo.length:Nat):Int)<=v3.fr
   ·simp [hc]
   ·have h1:v3.fr.toNat<p.fu.length:=by omega
    have h2:v3.fr.toNat<p.fo.length:=by omega
    have hq:p.fo[v3.fr.toNat].sz<=szL Th.sz p.fo:=zan (List.getElem_mem h2)
    simp only [Tb.sz] at hsz
    have hq':p.fo[v3.fr.toNat].sz=p.fo[v3.fr.toNat].fa.sz+0:=rfl
    have hc3:v3.sz=v3.fa.sz+0:=rfl
    simp only [hc,decide_false,cond_false,if_pos h0,List.getElem?_eq_getElem h1,List.getElem?_eq_getElem h2,Option.bind_some,qq3 p.fo[v3.fr.toNat].fa v3.fa (by omega) (by omega)]
    cases p.fu[v3.fr.toNat]
    ·by_cases e1:p.fo[v3.fr.toNat].fp=v2 <;> by_cases e2:p.fo[v3.fr.toNat].fg=v3.fg <;> simp [e1,e2]
    ·rfl
def waitN (t:Tn):Nat:=(t.fj.map fun p=>p.fu.countP fun h=> !h).sum
theorem yod (v1:Tn) (v2:Int) (p:Tb) (s:Int) (h0:0<=s) (h1:s+p.fu.length<=1048576):zir v1 v2 p s=some (s+(p.fu.countP fun h=> !h:Nat)):=by
 unfold zir
 rw [if_pos (by omega)]
 have key:∀ (body:Int->Bool->Int->Option (Int⊕Int)) (last:Int->Option Int),(∀ k x s,body k x s=(bif !x then(some (.inl (i64.wrap (s+1)))) else(some (.inl s))))->(∀ s,last s=some s)->∀ (t:List Bool) (k s:Int),0<=s->s+t.length<=1048576->zaf body last t k s=some (s+(t.countP fun h=> !h:Nat)):=by
  intro body last hb hlast t
  induction t with
  | nil=>intro k s _ _;simp [zaf,hlast]
  | cons x t ih=>
    intro k s h0 h1
    simp only [List.length_cons] at h1
    simp only [zaf,hb]
    cases x
    ·simp only [Bool.not_false,cond_true,Option.bind_some,zc0 (n:=s+1) (by omega) (by omega)]
     rw [ih (k+1) (s+1) (by omega) (by omega)]
     simp [List.countP_cons];omega
    ·simp only [Bool.not_true,cond_false,Option.bind_some]
     rw [ih (k+1) s h0 (by omega)]
     simp [List.countP_cons]
 exact key _ _ (fun k x s=>rfl) (fun s=>rfl) p.fu 0 s h0 h1
theorem yle (p:Tb):(p.fu.countP fun h=> !h)<=p.sz:=by
 have:=List.countP_le_length (p:=fun h:Bool=> !h) (l:=p.fu)
 simp only [Tb.sz];omega
theorem qow (v1:Tn) (hv1:v1.sz<=1048576):yvs v1=some (bif zci v1 then(waitN v1:Int) else 0):=by
 have g:=hv1
 simp only [Tn.sz,szL] at g
 rw [yvs,qnn v1 hv1,Option.bind_some]
 cases zci v1
 ·rfl
 simp only [Bool.not_true,cond_false,cond_true]
 unfold ztl
 rw [if_pos (by omega)]
 have key:∀ (body:Int->Tb->Int->Option (Int⊕Int)) (last:Int->Option Int),(∀ k x s,body k x s=((zir v1 k x s).bind fun(v51:Int)=>(some (.inl v51))))->(∀ s,last s=some s)->∀ (t:List Tb) (k s:Int),0<=s->s+(t.map Tb.sz).sum<=1048576->zaf body last t k s=some (s+((t.map fun p=>p.fu.countP fun h=> !h).sum:Nat)):=by
  intro body last hb hlast t
  induction t with
  | nil=>intro k s _ _;simp [zaf,hlast]
  | cons x t ih=>
    intro k s h0 h1
    simp only [List.map_cons,List.sum_cons] at h1
    have hx:=yle x
    have hx2:x.fu.length<=x.sz:=by simp only [Tb.sz];omega
    simp only [zaf,hb]
    rw [yod v1 k x s h0 (by omega)]
    simp only [Option.bind_some]
    rw [ih (k+1) _ (by omega) (by omega)]
    simp only [List.map_cons,List.sum_cons];congr 1;omega
 rw [key (ye9 v1) (yfu v1) (fun k x s=>rfl) (fun s=>rfl) v1.fj 0 0 (by omega) (by omega)]
 simp [waitN]
theorem yr5 (v1:Tn) (hv1:v1.sz<=1048576) {i:Nat} {p:Tb} (hp:v1.fj[i]? =some p) (s:Int) (h0:0<=s) (h1:s+p.fu.length<=1048576):∃ k,zpp v1 (i:Int) (s,0)=some (s+(p.fu.countP fun h=> !h:Nat),k):=by
 unfold zpp
 have key:∀ (body:Int×Int->Option ((Int×Int)⊕(Int×Int))),(∀ s,body s=(zlz v1 (i:Int) s))->∀ (t d:List Bool) (n:Nat) (s:Int),d++t=p.fu->t.length<n->0<=s->s+t.length<=1048576->∃ k,zcl body n (s,((d.length:Nat):Int))=some (s+(t.countP fun h=> !h:Nat),k):=by
  intro body hb t
  induction t with
  | nil=>
    intro d n s he hn h0 h1
    obtain ⟨n,rfl⟩:∃ q,n=q+1:=⟨n - 1,by simp at hn;omega⟩
    have he:d=p.fu:=by simpa using he
    subst he
    refine ⟨((p.fu.length:Nat):Int),?_⟩
    simp only [zcl,hb,zlz,if_pos (Int.natCast_nonneg _),zab,hp,Option.bind_some]
    simp
  | cons x t ih=>
    intro d n s he hn h0 h1
    obtain ⟨n,rfl⟩:∃ q,n=q+1:=⟨n - 1,by simp at hn;omega⟩
    have hlt:=zdy he
    have hl:p.fu.length<=1048576:=by
     have:=zan (f:=Tb.sz) (List.mem_of_getElem? hp)
     simp only [Tn.sz,Tb.sz] at hv1 this;omega
    simp only [List.length_cons] at h1 hn
    have hd:decide (((d.length:Nat):Int)<((p.fu.length:Nat):Int))=true:=by simp;omega
    have hw:i64.wrap (((d.length:Nat):Int)+1)=(((d ++ [x]).length:Nat):Int):=by rw [zc0 (by omega) (by omega)];simp
    simp only [zcl,hb,zlz,if_pos (Int.natCast_nonneg _),zab,hp,Option.bind_some,hd,cond_true,zbu he,hw]
    cases x
    ·simp only [Bool.not_false,cond_true,zc0 (n:=s+1) (by omega) (by omega)]
     obtain ⟨k,hk⟩:=ih (d ++ [false]) n (s+1) (by simpa using he) (by omega) (by omega) (by omega)
     refine ⟨k,?_⟩
     show zcl body n (s+1,_)=_
     rw [hk];simp [List.countP_cons];omega
    ·simp only [Bool.not_true,cond_false]
     obtain ⟨k,hk⟩:=ih (d ++ [true]) n s (by simpa using he) (by omega) h0 (by omega)
     refine ⟨k,?_⟩
     show zcl body n (s,_)=_
     rw [hk];simp [List.countP_cons]
 have hl:p.fu.length<=1048576:=by
  have:=zan (f:=Tb.sz) (List.mem_of_getElem? hp)
  simp only [Tn.sz,Tb.sz] at hv1 this;omega
 exact key _ (fun _=>rfl) p.fu [] BIG s rfl (by simp only [BIG];omega) h0 h1
theorem jbl (v1:Tn) (hv1:v1.sz<=1048576):yzs v1=some (bif zci v1 then(waitN v1:Int) else 0):=by
 have g:=hv1
 simp only [Tn.sz,szL] at g
 rw [yzs]
 unfold zto
 rw [if_pos (by omega)]
 cases ht:zci v1
 ·cases hl:v1.fj with
  | nil=>simp [zaf,zom]
  | cons p l=>simp [zaf,zhc,qhq v1 hv1,ht]
 have key:∀ (body:Int->Tb->Int->Option (Int⊕(Int×Int))) (last:Int->Option (Int×Int)),(∀ k x s,body k x s=(zhc v1 k x s))->(∀ s,last s=some (s,((v1.fj.length:Nat):Int)))->∀ (t d:List Tb) (s:Int),d++t=v1.fj->0<=s->s+(t.map Tb.sz).sum<=1048576->∃ k,zaf body last t ((d.length:Nat):Int) s=some (s+((t.map fun p=>p.fu.countP fun h=> !h).sum:Nat),k):=by
  intro body last hb hlast t
  induction t with
  | nil=>intro d s _ _ _;exact ⟨((v1.fj.length:Nat):Int),by simp [zaf,hlast]⟩
  | cons x t ih=>
    intro d s he h0 h1
    simp only [List.map_cons,List.sum_cons] at h1
    have hx:=yle x
    have hx2:x.fu.length<=x.sz:=by simp only [Tb.sz];omega
    obtain ⟨k2,hk2⟩:=yr5 v1 hv1 (zbu he) s h0 (by omega)
    obtain ⟨k,hk⟩:=ih (d ++ [x]) (s+(x.fu.countP fun h=> !h:Nat)) (by simpa using he) (by omega) (by omega)
    refine ⟨k,?_⟩
    simp only [zaf,hb,zhc,qhq v1 hv1,ht,Option.bind_some,cond_true,hk2]
    have e:((d.length:Nat):Int)+1=(((d ++ [x]).length:Nat):Int):=by simp
    rw [e,hk]
    simp only [List.map_cons,List.sum_cons];congr 2;omega
 obtain ⟨k,hk⟩:=key (fun k x s=>(zhc v1 k x s)) (fun s=>zom v1 s) (fun _ _ _=>rfl) (fun s=>rfl) v1.fj [] 0 rfl (by omega) (by omega)
 have hk':zaf (fun k x s=>(zhc v1 k x s)) (fun s=>zom v1 s) v1.fj 0 0=_:=hk
 rw [hk']
 simp [waitN]
end Go.Pm
namespace Go.Pm
def ze5 (c:Ta):Tm:=⟨c.fk,c.fr⟩
def zq5 (fits:Ta->Bool):List Ta->List Tm->Option (List Tm)
 | [],seen=>some seen
 | c::t,seen=>if fits c=true/\¬ ze5 c∈seen then zq5 fits t (seen ++ [ze5 c]) else none
def zq4 (fits:Int->Ta->Bool) (cs:Tc->List Ta):List Tc->Int->List Tm->Option (List Tm)
 | [],_,seen=>some seen
 | l::t,k,seen=>if zoe l=true then(zq5 (fits k) (cs l) seen).bind fun s=>zq4 fits cs t (k+1) s else none
def ygp (fits:Ta->Bool) (t:List Ta) (seen:List Tm):Prop:=(∀ c∈t,fits c=true)/\(t.map ze5).Nodup/\∀ c∈t,¬ ze5 c∈seen
theorem seeC_some {fits:Ta->Bool}:∀ {t:List Ta} {seen s:List Tm},zq5 fits t seen=some s↔ygp fits t seen/\s=seen++t.map ze5
 | [],seen,s=>by
   simp only [zq5,ygp,Option.some.injEq,List.map_nil,List.append_nil]
   exact ⟨fun h=>⟨⟨by simp,by simp,by simp⟩,h.symm⟩,fun h=>h.2.symm⟩
 | c::t,seen,s=>by
   simp only [zq5]
   split
   ·rename_i h
    rw [seeC_some]
    simp only [ygp,List.mem_cons,List.map_cons,List.nodup_cons,List.mem_append,List.mem_singleton,forall_eq_or_imp,List.mem_map]
    constructor
    ·rintro ⟨⟨h1,h2,h3⟩,rfl⟩
     refine ⟨⟨⟨h.1,h1⟩,⟨?_,h2⟩,h.2,fun x hx hs=>h3 x hx (.inl hs)⟩,by simp⟩
     rintro ⟨x,hx,e⟩
     exact h3 x hx (.inr (.inl e))
    ·rintro ⟨⟨⟨_,h1⟩,⟨h4,h2⟩,_,h3⟩,rfl⟩
     refine ⟨⟨h1,h2,fun x hx hs=> ?_⟩,by simp⟩
     rcases hs with hs|hs|hs
     ·exact h3 x hx hs
     ·exact h4 ⟨x,hx,hs⟩
     ·cases hs
   ·rename_i h
    simp only [false_iff,not_and,reduceCtorEq]
    rintro ⟨h1,h2,h3⟩
    exact absurd ⟨h1 c (by simp),h3 c (by simp)⟩ h
theorem zz5 {fits:Ta->Bool} {t t':List Ta} {seen seen':List Tm} (ht:t.Perm t') (hs:seen.Perm seen') (h:ygp fits t seen):ygp fits t' seen':=
 ⟨fun c hc=>h.1 c (ht.mem_iff.2 hc),(ht.map ze5).nodup_iff.1 h.2.1,fun c hc hm=>h.2.2 c (ht.mem_iff.2 hc) (hs.mem_iff.2 hm)⟩
theorem zjn {fits:Int->Ta->Bool} {cs cs':Tc->List Ta} (hc:∀ l,(cs l).Perm (cs' l)):∀ (ls:List Tc) (k:Int) (seen seen' s:List Tm),seen.Perm seen'->zq4 fits cs ls k seen=some s->∃ s',zq4 fits cs' ls k seen'=some s'/\s.Perm s'
 | [],k,seen,seen',s,hs,h=>by cases h;exact ⟨seen',rfl,hs⟩
 | l::ls,k,seen,seen',s,hs,h=>by
   simp only [zq4] at h ⊢
   split at h
   ·rename_i hl
    rw [if_pos hl]
    cases hr:zq5 (fits k) (cs l) seen with
    | none=>rw [hr] at h;cases h
    | some s1=>
      rw [hr] at h
      obtain ⟨hg,rfl⟩:=seeC_some.1 hr
      have hr':=seeC_some.2 ⟨zz5 (hc l) hs hg,rfl⟩
      rw [hr']
      exact zjn hc ls (k+1) _ _ s (hs.append ((hc l).map ze5)) h
   ·cases h
def zxv (f:To):Bool:=match zq4 (zcz f.fq) zd0 f.faa 0 [] with
 | some s=>decide (((s.length:Nat):Int)=(waitN f.fq:Int))
 | none=>false
theorem yjt (f:To):zxv f=match zq4 (zcz f.fq) ze1 f.faa 0 [] with
 | some s=>decide (((s.length:Nat):Int)=(waitN f.fq:Int))
 | none=>false:=by
 unfold zxv
 cases h:zq4 (zcz f.fq) zd0 f.faa 0 [] with
 | some s=>
   obtain ⟨s',hs',hp⟩:=zjn zha f.faa 0 [] [] s (List.Perm.refl _) h
   rw [hs'];simp only [hp.length_eq]
 | none=>
   cases h':zq4 (zcz f.fq) ze1 f.faa 0 [] with
   | none=>rfl
   | some s=>
     obtain ⟨s',hs',_⟩:=zjn (fun l=>(zha l).symm) f.faa 0 [] [] s (List.Perm.refl _) h'
     rw [h] at hs';cases hs'
def zg0 (f:To):Bool:=
 yj3 f.fat&&(zfq f.ft&&(zci f.fq&&(decide (f.faa.length=6)&&(zkq f.far&&(zkq f.fau&&(zkq f.fas&&(zkq f.fav&&zxv f)))))))
theorem yct (l:List Tm) (x:Tm):qi9 l x=decide (x∈l):=by
 have h:qi9 l x=l.any (fun (y:Tm)=>(decide (x.fid=y.fid)&&(decide (x.fpart=y.fpart)&&true))):=zg2
 rw [h,Bool.eq_iff_iff]
 simp only [List.any_eq_true,Bool.and_eq_true,decide_eq_true_eq,and_true]
 constructor
 ·rintro ⟨y,hy,h1,h2⟩
  have:x=y:=by cases x;cases y;simp_all
  rw [this];exact hy
 ·intro hx;exact ⟨x,hx,rfl,rfl⟩
theorem zr9 {l:Tc} (h:zoe l=true) {c:Ta} (hc:c∈zd0 l):0<=c.fr:=by
 unfold zoe at h
 simp only [Bool.and_eq_true,Bool.not_eq_true'] at h
 have key:∀ c:Ta,zrq c=true->0<=c.fr:=by
  intro c h
  simp only [zrq,zbc] at h
  cases zkq c.fk
  ·simp_all
  ·by_cases h0:0<=c.fr
   ·exact h0
   ·simp_all
 have hq:∀ c∈l.fac,zrq c=true:=by
  intro c hc
  have:=h.2.2.2.1
  rw [List.any_eq_false] at this
  have:=this c hc
  simpa using this
 unfold zd0 at hc
 cases hb:l.faw
 ·rw [hb] at hc;exact key c (hq c hc)
 ·rw [hb] at hc
  simp only [cond_true,List.mem_append,List.mem_singleton] at hc
  rcases hc with hc|rfl
  ·exact key c (hq c hc)
  ·have:=h.2.2.2.2
   rw [hb] at this
   simp only [Bool.not_true,cond_false,Bool.and_eq_true] at this
   exact key _ this.1
theorem yu0 (f:To) (hf:f.fq.sz<=1048576) (ht:zci f.fq=true) (port:Int) (l:Tc) (cs:List Ta) (hp:∀ c∈cs,0<=c.fr/\c.sz<=1048576) (hl:cs.length<=1048576) (seen:List Tm) (hs:seen.length+cs.length<=1048576):
 (zq5 (zcz f.fq port) cs seen=none/\∃ j,zjb f port l cs seen=some (.inl j))\/(∃ s,zq5 (zcz f.fq port) cs seen=some s/\zjb f port l cs seen=some (.inr s)):=by
 unfold zjb
 rw [if_pos (by omega)]
 have key:∀ (body) (last),(∀ k x s,body k x s=(zs7 f port l cs k x s))->(∀ s,last s=ydf f port l cs s)->∀ (t d:List Ta) (seen:List Tm),d++t=cs->seen.length+t.length<=1048576->
  (zq5 (zcz f.fq port) t seen=none/\∃ j,zaf body last t ((d.length:Nat):Int) seen=some (.inl j))\/(∃ s,zq5 (zcz f.fq port) t seen=some s/\zaf body last t ((d.length:Nat):Int) seen=some (.inr s)):=by
  intro body last hb hlast t
  induction t with
  | nil=>intro d seen _ _;exact .inr ⟨seen,rfl,by simp only [zaf,hlast];rfl⟩
  | cons x t ih=>
    intro d seen he hs
    have hlt:=zdy he
    have hx:=hp x (mem_mid he)
    simp only [List.length_cons] at hs
    simp only [zaf,hb,zs7,List.length_map,Nat.sub_zero]
    rw [if_pos (by omega),jcd f.fq port x hf hx.2 ht hx.1]
    simp only [Option.bind_some,zq5]
    cases hfit:zcz f.fq port x
    ·exact .inl ⟨by simp,_,rfl⟩
    ·simp only [Bool.not_true,cond_false]
     rw [qpt seen ⟨x.fk,x.fr⟩ (by omega)]
     simp only [Option.bind_some,yct]
     by_cases hm:ze5 x∈seen
     ·have hm':decide ((⟨x.fk,x.fr⟩:Tm)∈seen)=true:=by simpa [ze5] using hm
      simp only [hm',cond_true]
      exact .inl ⟨by simp [hm],_,rfl⟩
     ·have hm':decide ((⟨x.fk,x.fr⟩:Tm)∈seen)=false:=by simpa [ze5] using hm
      simp only [hm',cond_false,List.length_map,List.length_singleton]
      rw [if_pos (show (seen.length+1) * 16<=70368744177664 by omega)]
      have:=ih (d ++ [x]) (seen ++ [ze5 x]) (by simpa using he) (by simp;omega)
      simp only [Option.bind_some]
      rw [if_pos ⟨trivial,hm⟩]
      simpa [ze5] using this
 exact key _ _ (fun _ _ _=>rfl) (fun _=>rfl) cs [] seen rfl hs
theorem ytk (f:To) (hf:f.sz<=1048576) (ht:zci f.fq=true) (h6:f.faa.length=6):
 (zq4 (zcz f.fq) zd0 f.faa 0 []=none/\((∃ j,zgz f []=some (.inl j))\/∃ j,zgz f []=some (.inr (.inl j))))\/(∃ s,zq4 (zcz f.fq) zd0 f.faa 0 []=some s/\zgz f []=some (.inr (.inr s))):=by
 simp only [To.sz,szL] at hf
 unfold zgz
 rw [if_pos (by omega)]
 have key:∀ (body) (last),(∀ k x s,body k x s=(zvb f k x s))->(∀ s,last s=yft f s)->∀ (t d:List Tc) (seen:List Tm),d++t=f.faa->seen.length+(t.map Tc.sz).sum+t.length<=1048576->
  (zq4 (zcz f.fq) zd0 t ((d.length:Nat):Int) seen=none/\((∃ j,zaf body last t ((d.length:Nat):Int) seen=some (.inl j))\/∃ j,zaf body last t ((d.length:Nat):Int) seen=some (.inr (.inl j))))\/(∃ s,zq4 (zcz f.fq) zd0 t ((d.length:Nat):Int) seen=some s/\zaf body last t ((d.length:Nat):Int) seen=some (.inr (.inr s))):=by
  intro body last hb hlast t
  induction t with
  | nil=>intro d seen _ _;exact .inr ⟨seen,rfl,by simp only [zaf,hlast];rfl⟩
  | cons x t ih=>
    intro d seen he hs
    have hx:=zan (f:=Tc.sz) (mem_mid he)
    simp only [szL] at hx
    simp only [List.length_cons,List.map_cons,List.sum_cons] at hs
    have hq:=zay (f:=Ta.sz) (xs:=x.fac)
    have hcl:=(zri x).1
    have hxs:x.sz=szL Ta.sz x.fac+(x.ff.sz+0):=rfl
    simp only [zaf,hb,zvb,zq4,qtw x (by omega),Option.bind_some]
    cases hlb:zoe x
    ·exact .inl ⟨by simp,.inl ⟨_,rfl⟩⟩
    ·simp only [Bool.not_true,cond_false,if_true,ja0 x (by omega),Option.bind_some]
     rcases yu0 f (by omega) ht ((d.length:Nat):Int) x (zd0 x) (fun c hc=>⟨zr9 hlb hc,by have:=zxl x hc;omega⟩) (by omega) seen (by omega) with ⟨h1,j,h2⟩|⟨s,h1,h2⟩
     ·rw [h1,h2];exact .inl ⟨rfl,.inr ⟨_,rfl⟩⟩
     ·rw [h1,h2]
      simp only [Option.bind_some,zbj]
      have hsl:s.length=seen.length+(zd0 x).length:=by
       obtain ⟨_,rfl⟩:=seeC_some.1 h1;simp
      have:=ih (d ++ [x]) s (by simpa using he) (by omega)
      simpa using this
 exact key _ _ (fun _ _ _=>rfl) (fun _=>rfl) f.faa [] [] rfl (by simp;omega)
theorem qra (v1:To) (hv1:v1.sz<=1048576):yv3 v1=some (zg0 v1):=by
 have g:=hv1
 simp only [To.sz] at g
 rw [yv3]
 simp only [qkw,jcv v1.ft (by omega),qnn v1.fq (by omega),yws,qow v1.fq (by omega),Option.bind_some]
 unfold zg0
 cases yj3 v1.fat
 ·rfl
 cases zfq v1.ft
 ·rfl
 cases ht:zci v1.fq
 ·rfl
 by_cases h6:v1.faa.length=6
 rotate_left
 ·have:¬((v1.faa.length:Nat):Int)=6:=by omega
  simp [h6,this]
 simp only [h6,Bool.not_true,cond_false,show decide (((6:Nat):Int)≠6)=false from rfl,decide_true,Bool.true_and,cond_true]
 cases zkq v1.far
 ·rfl
 cases zkq v1.fau
 ·rfl
 cases zkq v1.fas
 ·rfl
 cases zkq v1.fav
 ·rfl
 simp only [Bool.not_true,cond_false,Bool.true_and]
 unfold zxv
 rcases ytk v1 hv1 ht h6 with ⟨h1,⟨j,h2⟩|⟨j,h2⟩⟩|⟨s,h1,h2⟩ <;> rw [h1,h2] <;> rfl
end Go.Pm
namespace Go.Pm
theorem yuj (f:To) (port:Int) (cs all:List Ta) (i:Nat) (c:Ta) (hc:cs[i]? =some c) (hall:all.length<=1048576):
 (ze5 c∈all.map ze5/\∃ j,zjl f port cs all (i:Int) ()=some (.inl j))\/(¬ ze5 c∈all.map ze5/\zjl f port cs all (i:Int) ()=some (.inr ())):=by
 have hi:i<cs.length:=(List.getElem?_eq_some_iff.1 hc).1
 unfold zjl
 rw [if_pos (by omega)]
 have hb:∀ d x t,d++x::t=all->∃ e:Int⊕Unit,(zio f port cs all (i:Int) ((d.length:Nat):Int) x ())=some (if decide (ze5 x=ze5 c) then .inr e else .inl ()):=by
  intro d x t he
  have hlt:=zdy he
  refine ⟨.inl ((d.length:Nat):Int),?_⟩
  rw [zio]
  simp only [List.length_map,Nat.sub_zero,zab,hc]
  rw [if_pos (by omega),if_pos (by omega)]
  simp only [Option.bind_some]
  by_cases h1:x.fk=c.fk
  ·by_cases h2:x.fr=c.fr
   ·simp [h1,h2,ze5];omega
   ·simp [h1,h2,ze5];omega
  ·simp [h1,ze5]
 obtain ⟨h1,h2⟩:=qj8 (body:=fun k x s=>(zio f port cs all (i:Int) k x s)) (xs:=all) (last:=fun s=>ybz f port cs all (i:Int) s) (fun _ x=>decide (ze5 x=ze5 c)) hb
 simp only [zcq] at h1 h2
 by_cases hm:ze5 c∈all.map ze5
 ·have ha:(all.any fun x=>decide (ze5 x=ze5 c))=true:=by
   rw [List.any_eq_true]
   obtain ⟨y,hy,e⟩:=List.mem_map.1 hm
   exact ⟨y,hy,by simpa using e⟩
  obtain ⟨d,x,t,e,he,_,hx,hbe,hr⟩:=h1 ha
  left
  refine ⟨hm,?_⟩
  obtain ⟨e',hbe'⟩:=hb d x t he
  rw [zio] at hbe
  have hlt:=zdy he
  simp only [List.length_map,Nat.sub_zero,zab,hc] at hbe
  rw [if_pos (by omega),if_pos (by omega)] at hbe
  have hk:ze5 x=ze5 c:=by simpa using hx
  have e1:x.fk=c.fk:=congrArg Tm.fid hk
  have e2:x.fr=c.fr:=congrArg Tm.fpart hk
  simp only [Option.bind_some,e1,e2,decide_true,cond_true] at hbe
  rw [if_pos (by omega),if_pos (by omega)] at hbe
  cases hbe
  exact ⟨_,hr⟩
 ·have ha:(all.any fun x=>decide (ze5 x=ze5 c))=false:=by
   rw [List.any_eq_false]
   intro y hy e
   exact hm (List.mem_map.2 ⟨y,hy,by simpa using e⟩)
  right
  exact ⟨hm,by rw [h2 ha];rfl⟩
theorem ytr (f:To) (hf:f.fq.sz<=1048576) (ht:zci f.fq=true) (port:Int) (cs:List Ta) (hp:∀ c∈cs,0<=c.fr/\c.sz<=1048576) (hl:cs.length<=1048576) (all:List Ta) (hs:all.length+cs.length<=1048576):
 (zq5 (zcz f.fq port) cs (all.map ze5)=none/\∃ j,zik f port cs all=some (.inl j))\/(∃ s,zq5 (zcz f.fq port) cs (all.map ze5)=some (s.map ze5)/\zik f port cs all=some (.inr s)):=by
 unfold zik
 rw [if_pos (by omega)]
 have key:∀ (body) (last),(∀ k x s,body k x s=(zsp f port cs k x s))->(∀ s,last s=ybi f port cs s)->∀ (t d:List Ta) (all:List Ta),d++t=cs->all.length+t.length<=1048576->
  (zq5 (zcz f.fq port) t (all.map ze5)=none/\∃ j,zaf body last t ((d.length:Nat):Int) all=some (.inl j))\/(∃ s,zq5 (zcz f.fq port) t (all.map ze5)=some (s.map ze5)/\zaf body last t ((d.length:Nat):Int) all=some (.inr s)):=by
  intro body last hb hlast t
  induction t with
  | nil=>intro d all _ _;exact .inr ⟨all,rfl,by simp only [zaf,hlast];rfl⟩
  | cons x t ih=>
    intro d all he hs
    have hlt:=zdy he
    have hx:=hp x (mem_mid he)
    simp only [List.length_cons] at hs
    simp only [zaf,hb,zsp]
    rcases yuj f port cs all d.length x (zbu he) (by omega) with ⟨hm,j,hr⟩|⟨hm,hr⟩
    ·rw [hr]
     left
     exact ⟨by simp [zq5,hm],_,rfl⟩
    ·rw [hr]
     simp only [Option.bind_some,zbj,List.length_map,Nat.sub_zero]
     rw [if_pos (show (0:Int)<=((d.length:Nat):Int)/\((d.length:Nat):Int)<((cs.length:Nat):Int) by omega),qwt f port x hf hx.2 ht hx.1]
     simp only [Option.bind_some]
     cases hfit:zcz f.fq port x
     ·exact .inl ⟨by simp [zq5,hfit],_,rfl⟩
     ·simp only [Bool.not_true,cond_false,List.length_singleton]
      rw [if_pos (show (0:Int)<=((d.length:Nat):Int)/\((d.length:Nat):Int)<((cs.length:Nat):Int) by omega),if_pos (show (all.length+1) * 104<=70368744177664 by omega)]
      have:=ih (d ++ [x]) (all ++ [x]) (by simpa using he) (by simp;omega)
      simp only [Option.bind_some,zq5]
      rw [if_pos ⟨hfit,hm⟩]
      simpa using this
 exact key _ _ (fun _ _ _=>rfl) (fun _=>rfl) cs [] all rfl hs
theorem ysp (f:To) (hf:f.sz<=1048576) (ht:zci f.fq=true) (h6:f.faa.length=6):
 (zq4 (zcz f.fq) ze1 f.faa 0 []=none/\∃ j,zjp f []=some (.inl j))\/(∃ s,zq4 (zcz f.fq) ze1 f.faa 0 []=some (s.map ze5)/\zjp f []=some (.inr s)):=by
 simp only [To.sz,szL] at hf
 unfold zjp
 rw [if_pos (by omega)]
 have key:∀ (body) (last),(∀ k x s,body k x s=(zs3 f k x s))->(∀ s,last s=ygw f s)->∀ (t d:List Tc) (all:List Ta),d++t=f.faa->all.length+(t.map Tc.sz).sum+t.length<=1048576->
  (zq4 (zcz f.fq) ze1 t ((d.length:Nat):Int) (all.map ze5)=none/\∃ j,zaf body last t ((d.length:Nat):Int) all=some (.inl j))\/(∃ s,zq4 (zcz f.fq) ze1 t ((d.length:Nat):Int) (all.map ze5)=some (s.map ze5)/\zaf body last t ((d.length:Nat):Int) all=some (.inr s)):=by
  intro body last hb hlast t
  induction t with
  | nil=>intro d all _ _;exact .inr ⟨all,rfl,by simp only [zaf,hlast];rfl⟩
  | cons x t ih=>
    intro d all he hs
    have hx:=zan (f:=Tc.sz) (mem_mid he)
    simp only [szL] at hx
    simp only [List.length_cons,List.map_cons,List.sum_cons] at hs
    have hq:=zay (f:=Ta.sz) (xs:=x.fac)
    have hcl:=(zri x).2
    have hxs:x.sz=szL Ta.sz x.fac+(x.ff.sz+0):=rfl
    simp only [zaf,hb,zs3,zq4,jbm x (by omega),Option.bind_some]
    cases hlb:zoe x
    ·exact .inl ⟨by simp,_,rfl⟩
    ·simp only [Bool.not_true,cond_false,if_true,jjf x (by omega),Option.bind_some]
     rcases ytr f (by omega) ht ((d.length:Nat):Int) (ze1 x) (fun c hc=>by
      have hc:=(zha x).mem_iff.2 hc
      exact ⟨zr9 hlb hc,by have:=zxl x hc;omega⟩) (by omega) all (by omega) with ⟨h1,j,h2⟩|⟨s,h1,h2⟩
     ·rw [h1,h2];exact .inl ⟨rfl,_,rfl⟩
     ·rw [h1,h2]
      simp only [Option.bind_some,zbj]
      have hsl:s.length=all.length+(ze1 x).length:=by
       have h3:=(seeC_some.1 h1).2
       have:=congrArg List.length h3
       simpa using this
      have:=ih (d ++ [x]) s (by simpa using he) (by omega)
      simpa using this
 exact key _ _ (fun _ _ _=>rfl) (fun _=>rfl) f.faa [] [] rfl (by simp;omega)
theorem qub (v1:To) (hv1:v1.sz<=1048576) (hok:v1.ok):yy8 v1=some (zg0 v1):=by
 have g:=hv1
 simp only [To.sz] at g
 rw [yy8]
 simp only [qo5,jis v1.ft (by omega) hok.2.1,qhq v1.fq (by omega),zea,jbl v1.fq (by omega),Option.bind_some]
 unfold zg0 zkq
 cases yj3 v1.fat
 ·rfl
 cases zfq v1.ft
 ·rfl
 cases ht:zci v1.fq
 ·rfl
 by_cases h6:v1.faa.length=6
 rotate_left
 ·have:¬((v1.faa.length:Nat):Int)=6:=by omega
  simp [h6,this]
 simp only [h6,Bool.not_true,cond_false,show decide (((6:Nat):Int)≠6)=false from rfl,decide_true,Bool.true_and,cond_true]
 cases zbc v1.far 0 1000000000
 ·rfl
 cases zbc v1.fau 0 1000000000
 ·rfl
 cases zbc v1.fas 0 1000000000
 ·rfl
 cases zbc v1.fav 0 1000000000
 ·rfl
 simp only [Bool.not_true,cond_false,Bool.true_and]
 rw [yjt]
 rcases ysp v1 hv1 ht h6 with ⟨h1,j,h2⟩|⟨s,h1,h2⟩ <;> rw [h1,h2]
 ·rfl
 ·simp [zbj]
end Go.Pm
namespace Go.Pm
open IntKind (i64)
def ys1 (v1:Tq):Bool:=(bif decide (((v1.fao.length:Nat):Int)<=64) then(bif decide (((v1.fap.length:Nat):Int)<=64) then(bif decide (((v1.fam.length:Nat):Int)<=64) then(bif decide (((v1.fb.length:Nat):Int)<=64) then(let v6:=zcf v1.fam;(bif v6 then(let v8:=zcf v1.fb;v8) else false)) else false) else false) else false) else false)
theorem jg7 (v1:Tq) (hv1:v1.sz<=1048576):qco v1=some (ys1 v1):=by
 rw [qco];first|rfl|(simp only [qbk v1.fam (by simp only [Tq.sz] at hv1;omega),qbk v1.fb (by simp only [Tq.sz] at hv1;omega),Option.bind_some,za8];rfl)
def qm2 (v1:Tq):Bool:=(bif decide (((v1.fao.length:Nat):Int)<=64) then(bif decide (((v1.fap.length:Nat):Int)<=64) then(bif decide (((v1.fam.length:Nat):Int)<=64) then(bif decide (((v1.fb.length:Nat):Int)<=64) then(let v6:=zcf v1.fam;(bif v6 then(let v8:=zcf v1.fb;v8) else false)) else false) else false) else false) else false)
theorem jae (v1:Tq) (hv1:v1.sz<=1048576):yuh v1=some (qm2 v1):=by
 rw [yuh];first|rfl|(simp only [yzm v1.fam (by simp only [Tq.sz] at hv1;omega),yzm v1.fb (by simp only [Tq.sz] at hv1;omega),Option.bind_some,za8];rfl)
def ybq (v1:Tg):Bool:=(let v2:=yju v1.fp;(bif !v2 then false else(let v4:=yh9 v1.fg;(bif !v4 then false else(let v6:=zgd v1.fag;(bif !v6 then false else(bif v1.fbe then(let v9:=zsb v1.fh;(bif v9 then(let v11:=yk9 v1.fa (⟨0,0,0,[],[],0⟩:Tk);v11) else false)) else(let v12:=znj v1.fa;(bif v12 then(let v14:=yok v1.fh (⟨0,0,0,0,[],[]⟩:Td);v14) else false)))))))))
theorem jju (v1:Tg) (hv1:v1.sz<=1048576):yyr v1=some (ybq v1):=by
 rw [yyr];first|rfl|(simp only [yyy v1.fp,ys0 v1.fg,yi5 v1.fag,qlz v1.fh (by simp only [Tg.sz] at hv1;omega),qdq v1.fa (⟨0,0,0,[],[],0⟩:Tk) (by simp only [Tg.sz] at hv1;omega) (by simp [Tk.sz]),ytz v1.fa (by simp only [Tg.sz] at hv1;omega),qmy v1.fh (⟨0,0,0,0,[],[]⟩:Td) (by simp only [Tg.sz] at hv1;omega) (by simp [Td.sz]),Option.bind_some,za8];rfl)
def qfh (v1:Tg):Bool:=(let v2:=zbc v1.fp 0 5;(bif !v2 then false else(let v4:=zbc v1.fg 1 247;(bif !v4 then false else(let v6:=zbc v1.fag 0 65535;(bif !v6 then false else(bif v1.fbe then(let v9:=zsb v1.fh;(bif v9 then(let v11:=ytx v1.fa;v11) else false)) else(let v12:=znj v1.fa;(bif v12 then(let v14:=yzu v1.fh;v14) else false)))))))))
theorem jfg (v1:Tg) (hv1:v1.sz<=1048576):ytb v1=some (qfh v1):=by
 rw [ytb];first|rfl|(simp only [zea v1.fp 0 5,zea v1.fg 1 247,zea v1.fag 0 65535,qoh v1.fh (by simp only [Tg.sz] at hv1;omega),ql8 v1.fa (by simp only [Tg.sz] at hv1;omega),yu1 v1.fa (by simp only [Tg.sz] at hv1;omega),qok v1.fh (by simp only [Tg.sz] at hv1;omega),Option.bind_some,za8];rfl)
def yl4 (v1:Tg):Bool:=(let v2:=ybq v1;!v2)
theorem qmv (v1:Tg) (hv1:v1.sz<=1048576):yw5 v1=some (yl4 v1):=by
 rw [yw5];first|rfl|(simp only [jju v1 hv1,Option.bind_some,za8];rfl)
def yqm (v1:Tf) (v2:Tf):Bool:=(bif decide (v1.fp=v2.fp) then decide (v1.fg=v2.fg) else false)
theorem qnu (v1:Tf) (v2:Tf) (hv1:v1.sz<=1048576) (hv2:v2.sz<=1048576):ywa v1 v2=some (yqm v1 v2):=by
 rw [ywa];first|rfl|(simp only [Option.bind_some,za8];rfl)
theorem jc2 (v1:Tq) (hv1:v1.sz<=1048576):qm2 v1=ys1 v1:=by
 rfl
theorem jir (v1:Tq) (hv1:v1.sz<=1048576):yuh v1=some (ys1 v1):=by rw [jae v1 hv1,jc2 v1 hv1]
theorem qt6 (v1:Tg) (hv1:v1.sz<=1048576):qfh v1=ybq v1:=by
 simp only [qfh,ybq,zxt,zrc,yju,yh9,zgd]
theorem jbt (v1:Tg) (hv1:v1.sz<=1048576):ytb v1=some (ybq v1):=by rw [jfg v1 hv1,qt6 v1 hv1]
def qh3 (v1:List Tg):Int:=zhz (fun (x:Tg)=>yl4 x) v1 0
theorem jap (v1:List Tg) (hv1:szL Tg.sz v1<=1048576):qbf v1=some (qh3 v1):=by
 have hlen:v1.length<=9223372036854775806:=by have hq:v1.length<=szL Tg.sz v1:=zay;omega
 rw [qbf];unfold ztf qh3
 exact ym7 (fun (x:Tg)=>yl4 x) hlen rfl (fun d x t he=>by rw [yan];first|rfl|(simp only [qmv x (by have:=zan (f:=Tg.sz) (he ▸ (by simp:x∈d++x::t));omega),Option.bind_some];done)|(simp only [qmv x (by have:=zan (f:=Tg.sz) (he ▸ (by simp:x∈d++x::t));omega),Option.bind_some];rfl)|done)
def qf9 (v1:List Tf) (v2:Tf):Int:=zhz (fun (x:Tf)=>yqm x v2) v1 0
theorem jja (v1:List Tf) (v2:Tf) (hv1:szL Tf.sz v1<=1048576) (hv2:v2.sz<=1048576):ywf v1 v2=some (qf9 v1 v2):=by
 have hlen:v1.length<=9223372036854775806:=by have hq:v1.length<=szL Tf.sz v1:=zay;omega
 rw [ywf];unfold zvi qf9
 exact ym7 (fun (x:Tf)=>yqm x v2) hlen rfl (fun d x t he=>by rw [yhq];first|rfl|(simp only [qnu x v2 (by have:=zan (f:=Tf.sz) (he ▸ (by simp:x∈d++x::t));omega) hv2,Option.bind_some];done)|(simp only [qnu x v2 (by have:=zan (f:=Tf.sz) (he ▸ (by simp:x∈d++x::t));omega) hv2,Option.bind_some];rfl)|done)
def qls (v1:List Tg):Bool:=(let v2:=qh3 v1;decide (0<=v2))
theorem jdo (v1:List Tg) (hv1:szL Tg.sz v1<=1048576):qcd v1=some (qls v1):=by
 rw [qcd];first|rfl|(simp only [jap v1 hv1,Option.bind_some,za8];rfl)
def qkc (v1:List Tf) (v2:Tf):Bool:=(let v3:=qf9 v1 v2;decide (0<=v3))
theorem jit (v1:List Tf) (v2:Tf) (hv1:szL Tf.sz v1<=1048576) (hv2:v2.sz<=1048576):yz5 v1 v2=some (qkc v1 v2):=by
 rw [yz5];first|rfl|(simp only [jja v1 v2 hv1 hv2,Option.bind_some,za8];rfl)
def zh4 (y x:Tf):Bool:=yqm y x
def zet (d:List Tf) (x:Tf):Bool:= !yju x.fp||(!yh9 x.fg||(!ys1 x.fD||d.any fun y=>zh4 y x))
def zk3 (l:List Tf):Bool:= !anyP zet [] l&&decide (((l.length:Nat):Int)<=8)
theorem yjk (l:List Tf) (x:Tf):qkc l x=l.any (fun y=>yqm y x):=zg2
theorem zzj (l:List Tg):qls l=l.any (fun y=>yl4 y):=zg2
theorem je6 (v1:List Tf) (hv1:szL Tf.sz v1<=1048576) (hl:v1.length<=1048576):qcw v1=some (zk3 v1):=by
 rw [qcw];unfold zwc
 rw [ya4 zet (by omega) rfl (fun d x t he=>⟨_,by
  rw [ya6]
  have hd:(v1.take (((d.length:Nat):Int)).toNat).drop (0:Int).toNat=d:=by
   rw [zab,<- he];simp
  have hlt:=zdy he
  have hx:x.sz<=1048576:=by subst he;have:=zan (f:=Tf.sz) (mem_mid rfl:x∈d++x::t);omega
  have hs:szL Tf.sz d<=1048576:=by subst he;simp only [szL,List.map_append,List.sum_append] at hv1 ⊢;omega
  have hD:x.fD.sz<=1048576:=by simp only [Tf.sz] at hx;omega
  rw [yyy,ys0,jg7 x.fD hD,hd,if_pos (by simp only [List.length_map];omega)]
  simp only [jit d x (by first|omega|exact hs) (by first|omega|exact hx),Option.bind_some,yjk]
  show _=some (if zet d x=true then _ else _)
  unfold zet zh4
  cases yju x.fp
  ·rfl
  ·cases yh9 x.fg
   ·rfl
   ·cases ys1 x.fD
    ·rfl
    ·cases ha:d.any fun y=>yqm y x <;> rfl⟩)]
 unfold zk3
 cases anyP zet [] v1 <;> rfl
theorem yny (v1:List Tf) (hv1:v1.length<=1048576) {d t:List Tf} {x:Tf} (he:d++x::t=v1) {γ:Type} (A B:Option γ):
 (zih v1 ((d.length:Nat):Int) 0).bind (zbj (fun _=>A) (fun _=>B))=if d.any (fun y=>zh4 y x) then A else B:=by
 have hlt:=zdy he
 unfold zih
 rw [qlh (fun i=>(v1[i]?).any (fun y=>zh4 y x)) d.length (by omega) (fun i hi=> ?_) ⟨((d.length:Nat):Int),by rw [zrx];simp⟩,zqw (fun y=>zh4 y x) he]
 have hi':i<v1.length:=by omega
 refine ⟨(i:Int),?_⟩
 rw [zrx,zab,zab,zbu he,List.getElem?_eq_getElem hi']
 have hd:decide (((i:Nat):Int)<((d.length:Nat):Int))=true:=by simp;omega
 have hw:i64.wrap ((i:Int)+1)=(i:Int)+1:=zc0 (by omega) (by omega)
 simp only [hd,cond_true,Option.bind_some,hw,Option.any_some,zh4,yqm,if_pos (Int.natCast_nonneg _)]
 by_cases h1:v1[i].fp=x.fp <;> by_cases h2:v1[i].fg=x.fg <;> simp [h1,h2]
theorem qx0 (v1:List Tf) (hv1:szL Tf.sz v1<=1048576) (hl:v1.length<=1048576):yxl v1=some (zk3 v1):=by
 rw [yxl];unfold zur
 unfold zk3
 rw [ya4 zet (by omega) rfl (fun d x t he=> ?_)]
 ·cases anyP zet [] v1 <;> rfl
 ·have hx:x.sz<=1048576:=by subst he;have:=zan (f:=Tf.sz) (mem_mid rfl:x∈d++x::t);omega
  have hD:x.fD.sz<=1048576:=by simp only [Tf.sz] at hx;omega
  rw [yad]
  simp only [zea,jir x.fD hD,Option.bind_some]
  unfold zet
  simp only [yju,yh9]
  rcases Bool.eq_false_or_eq_true (zbc x.fp 0 5) with h5|h5
  case inr=>simp only [h5];exact ⟨_,rfl⟩
  ·rcases Bool.eq_false_or_eq_true (zbc x.fg 1 247) with h6|h6
   case inr=>simp only [h5,h6];exact ⟨_,rfl⟩
   ·rcases Bool.eq_false_or_eq_true (ys1 x.fD) with h7|h7
    case inr=>simp only [h5,h6,h7];exact ⟨_,rfl⟩
    ·simp only [h5,h6,h7,Bool.not_true,cond_false,Bool.false_or]
     have h:=fun(A B:Option (Unit⊕((Int×V×V×V)⊕Unit)))=>yny v1 hl he A B
     cases hx:zih v1 ((d.length:Nat):Int) 0 with
     | none=>have:=h (some (.inl ())) (some (.inl ()));rw [hx] at this;simp at this
     | some r=>
       have h1:=h (some (.inr (.inr ()))) (some (.inl ()))
       rw [hx] at h1
       cases r with
       | inl a=>
         simp only [Option.bind_some,zbj] at h1 ⊢
         refine ⟨(((d.length:Nat):Int),(.int .i64 a:V),(.gone:V),(.bool true:V)),?_⟩
         split at h1
         ·rename_i ha;rw [if_pos ha]
         ·cases h1
       | inr a=>
         simp only [Option.bind_some,zbj] at h1 ⊢
         refine ⟨(((d.length:Nat):Int),(.gone:V),(.gone:V),(.gone:V)),?_⟩
         split at h1
         ·cases h1
         ·rename_i ha;rw [if_neg ha]
def zy9 (w:Tp):Bool:=zg0 w.fF&&(zk3 w.fax&&(decide (((w.fak.length:Nat):Int)<=60)&&(decide (((w.fbb.length:Nat):Int)<=5000)&&(decide (((w.fbc.length:Nat):Int)<=5000) && !w.fak.any (fun p=> !ybq p)))))
theorem jfv (w:Tp) (hw:w.sz<=1048576):yw1 w=some (zy9 w):=by
 simp only [Tp.sz] at hw
 have hp:w.fax.length<=1048576:=by simp only [szL] at hw;omega
 have hn:(fun p=> !ybq p)=yl4:=rfl
 rw [yw1,qra w.fF (by omega),je6 w.fax (by omega) hp,jdo w.fak (by omega)]
 simp only [Option.bind_some,zzj]
 unfold zy9
 rw [hn]
 have e:(w.fak.any fun y=>yl4 y)=w.fak.any yl4:=rfl
 rw [e]
 cases zg0 w.fF <;> cases zk3 w.fax <;> cases decide (((w.fak.length:Nat):Int)<=60) <;> cases decide (((w.fbb.length:Nat):Int)<=5000) <;> cases decide (((w.fbc.length:Nat):Int)<=5000) <;> cases w.fak.any yl4 <;> rfl
theorem zyk (a b:Int):decide (a<b)= !decide (b<=a):=by
 rw [<- decide_not];exact decide_eq_decide.2 (by omega)
theorem jbi (w:Tp) (hw:w.sz<=1048576) (hok:w.ok):qcr w=some (zy9 w):=by
 simp only [Tp.sz] at hw
 have hp:w.fax.length<=1048576:=by simp only [szL] at hw;omega
 have hn:w.fak.length<=1048576:=by simp only [szL] at hw;omega
 have hL:∀ A B:Option Bool,(zpb w ()).bind (zbj (fun _=>A) (fun _=>B))=if w.fak.any (fun p=> !ybq p) then A else B:=by
  intro A B
  unfold zpb
  rw [ya4 (fun _ p=> !ybq p) (by omega) rfl (fun d x t he=>⟨_,by
   have hx:x.sz<=szL Tg.sz w.fak:=zan (f:=Tg.sz) (mem_mid he)
   rw [yax,jbt x (by omega),Option.bind_some]
   cases ybq x <;> rfl⟩),zcq]
 rw [qcr,qub w.fF (by omega) hok.1,qx0 w.fax (by omega) hp]
 simp only [Option.bind_some,hL,zyk]
 unfold zy9
 cases zg0 w.fF <;> cases zk3 w.fax <;> cases decide (((w.fak.length:Nat):Int)<=60) <;> cases decide (((w.fbb.length:Nat):Int)<=5000) <;> cases decide (((w.fbc.length:Nat):Int)<=5000) <;> cases w.fak.any (fun p=> !ybq p) <;> rfl
theorem zgj (a:Tp) (h:a.ok):qf0 a=some true:=by
 rw [qf0]
 obtain ⟨h1,h2⟩:=yeq a h 1048576 (by omega) (by omega)
 by_cases hs:a.sz<=1048576
 ·rw [h1 (by omega)]
  have hd:decide ((1048576:Int) - (a.sz:Int)<0)=false:=by simp;omega
  simp only [Option.bind_some,hd,cond_false,yb1 a hs,jbi a hs h,jfv a hs,yep a hs]
  simp
 ·obtain ⟨r,hr,h0⟩:=h2 (by omega)
  rw [hr]
  have hd:decide (r<0)=true:=by simp;exact h0
  simp only [Option.bind_some,hd,cond_true]
end Go.Pm
