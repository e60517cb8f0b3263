/- Proved: the law FnExactEnough answers true at all arguments, for every operating system that has started; no conditions beyond the row's own. -/
import Derived.Test.YtfoflieoeahhfaaGreatMp
set_option linter.unusedVariables false
set_option linter.unusedSimpArgs false
namespace Go.Pm
theorem zq9 (l:List Bool) (x:Bool):p_ee l x=l.any (fun y=>false ^^ (x == y)):=zgt
def partBad (p:Tb) (d:List Tf) (x:Tf):Bool:=
 !p_ef x || (match p.ft[d.length]?,p.faa[d.length]? with
  | some h,some r=>(bif h then !suitsB x.fa r else !p_en r ⟨0,0,0,0,[],[]⟩)
  | _,_=>false)
def pendB (p:Tb):Bool:=p_du p.fah && (p_du p.fai && (p_ec p.fa && (p_di ((p.fm.length:Nat):Int) 1 8 && (decide (p.ft.length=p.fm.length) && (decide (p.faa.length=p.fm.length) && (!anyP (partBad p) [] p.fm && p.ft.any (fun h=> !h)))))))
theorem zcx {α:Type} {d t xs:List α} {x:α} (he:d ++ x :: t=xs):x ∈ xs:=by rw [<- he];simp
theorem ybp (v1:Tb) (hv1:v1.sz <= 1048576):x_eo v1=some (decide (0 <= v1.fk) && pendB v1):=by
 have g:=hv1
 simp only [Tb.sz] at g
 have gp:=zar (f:=Tf.sz) (xs:=v1.fm)
 have gt:=zar (f:=Te.sz) (xs:=v1.faa)
 rw [x_eo]
 by_cases hid:v1.fk < 0
 ·have:¬ 0 <= v1.fk:=by omega
  simp [hid,this]
 have hid':0 <= v1.fk:=by omega
 simp only [hid,hid',decide_false,cond_false,decide_true,Bool.true_and,zw3,zvv v1.fa (by omega),zkl,Option.bind_some]
 unfold pendB
 cases p_du v1.fah
 ·rfl
 cases p_du v1.fai
 ·rfl
 cases p_ec v1.fa
 ·rfl
 cases p_di ((v1.fm.length:Nat):Int) 1 8
 ·rfl
 by_cases h1:v1.ft.length=v1.fm.length
 rotate_left
 ·have h1':¬((v1.ft.length:Nat):Int)=((v1.fm.length:Nat):Int):=by omega
  simp [h1,h1']
 by_cases h2:v1.faa.length=v1.fm.length
 rotate_left
 ·have h2':¬((v1.faa.length:Nat):Int)=((v1.fm.length:Nat):Int):=by omega
  simp [h1,h2,h2']
 simp only [h1,h2,Bool.not_true,cond_false,ne_eq,not_true_eq_false,decide_false,decide_true,Bool.true_and]
 unfold x_eo_L1
 rw [zq6 (partBad v1) (by omega) rfl (fun d x t he=>⟨_,by
  have hlt:=zdy he
  have hm:=zal (f:=Tf.sz) (zcx he)
  have hx:x.sz=x.fa.sz + 0:=rfl
  have hh:d.length < v1.ft.length:=by omega
  have ht:d.length < v1.faa.length:=by omega
  have hr:v1.faa[d.length].sz <= szL Te.sz v1.faa:=zal (List.getElem_mem ht)
  rw [b_eo_L1,za8,List.getElem?_eq_getElem hh,List.getElem?_eq_getElem ht]
  unfold partBad
  rw [List.getElem?_eq_getElem hh,List.getElem?_eq_getElem ht]
  simp only [yb9 x (by omega),Option.bind_some,yai x.fa v1.faa[d.length] (by omega) (by omega),ycc v1.faa[d.length] ⟨0,0,0,0,[],[]⟩ (by omega) (by simp [Te.sz])]
  cases p_ef x
  ·rfl
  ·cases v1.ft[d.length]
   ·rcases Bool.eq_false_or_eq_true (p_en v1.faa[d.length] ⟨0,0,0,0,[],[]⟩) with hs | hs <;> simp only [hs] <;> rfl
   ·rcases Bool.eq_false_or_eq_true (suitsB x.fa v1.faa[d.length]) with hs | hs <;> simp only [hs] <;> rfl⟩),zxk v1.ft false (by omega),Option.bind_some,zq9]
 have e:(fun y=>false ^^ (false == y))=fun h:Bool=> !h:=by funext y;cases y <;> rfl
 rw [e]
 cases anyP (partBad v1) [] v1.fm <;> rfl
theorem zlw {α:Type} (has:List Bool):∀ (t d:List α) (s:Bool),d.length + t.length=has.length->foldP (fun s d _=>bif s then(has[d.length]?).getD false else false) s d t=(s && (has.drop d.length).all id)
 | [],d,s,h=>by
   have:has.drop d.length=[]:=List.drop_eq_nil_of_le (by simpa using Nat.le_of_eq h.symm)
   simp [foldP,this]
 | x :: t,d,s,h=>by
   have hlt:d.length < has.length:=by simp at h;omega
   simp only [foldP]
   rw [zlw has t (d ++ [x]) _ (by simp at h ⊢;omega),List.drop_eq_getElem_cons hlt,List.getElem?_eq_getElem hlt]
   simp only [List.length_append,List.length_singleton,List.all_cons,Option.getD_some,id]
   cases s <;> cases has[d.length] <;> simp
theorem yl2 (v1:Tb) (hv1:v1.sz <= 1048576):x_ct v1=some (pendB v1):=by
 have g:=hv1
 simp only [Tb.sz] at g
 have gp:=zar (f:=Tf.sz) (xs:=v1.fm)
 have gt:=zar (f:=Te.sz) (xs:=v1.faa)
 rw [x_ct]
 simp only [zdi,zvw v1.fa (by omega),Option.bind_some]
 unfold pendB p_du
 cases p_di v1.fah 0 1000000000
 ·rfl
 cases p_di v1.fai 0 1000000000
 ·rfl
 cases p_ec v1.fa
 ·rfl
 cases p_di ((v1.fm.length:Nat):Int) 1 8
 ·rfl
 by_cases h1:v1.ft.length=v1.fm.length
 rotate_left
 ·have h1':¬((v1.ft.length:Nat):Int)=((v1.fm.length:Nat):Int):=by omega
  simp [h1,h1']
 by_cases h2:v1.faa.length=v1.fm.length
 rotate_left
 ·have h2':¬((v1.faa.length:Nat):Int)=((v1.fm.length:Nat):Int):=by omega
  simp [h1,h2,h2']
 simp only [h1,h2,Bool.not_true,cond_false,ne_eq,not_true_eq_false,decide_false,decide_true,Bool.true_and]
 unfold x_ct_L1
 rw [ydn (last:=e_ct_L1 v1) (partBad v1) (fun s d _=>bif s then(v1.ft[d.length]?).getD false else false) id (by omega) (fun s=>rfl) (fun d x t s he=>⟨(s,((d.length:Nat):Int)),by
  have hlt:=zdy he
  have hm:=zal (f:=Tf.sz) (zcx he)
  have hx:x.sz=x.fa.sz + 0:=rfl
  have hh:d.length < v1.ft.length:=by omega
  have ht:d.length < v1.faa.length:=by omega
  have hr:v1.faa[d.length].sz <= szL Te.sz v1.faa:=zal (List.getElem_mem ht)
  rw [b_ct_L1,za8,List.getElem?_eq_getElem hh,List.getElem?_eq_getElem ht]
  unfold partBad
  rw [List.getElem?_eq_getElem hh,List.getElem?_eq_getElem ht]
  simp only [ya4 x (by omega),Option.bind_some,ygx x.fa v1.faa[d.length] (by omega) (by omega),yla v1.faa[d.length] (by omega),zpc,Option.getD_some]
  cases p_ef x
  ·rfl
  ·cases v1.ft[d.length]
   ·rcases Bool.eq_false_or_eq_true (p_en v1.faa[d.length] ⟨0,0,0,0,[],[]⟩) with hs | hs <;> simp only [hs] <;> cases s <;> rfl
   ·rcases Bool.eq_false_or_eq_true (suitsB x.fa v1.faa[d.length]) with hs | hs <;> simp only [hs] <;> cases s <;> rfl⟩)]
 rw [zlw v1.ft v1.fm [] true (by simp;omega)]
 have e:(!(v1.ft.all id))=v1.ft.any (fun h=> !h):=by rw [List.all_eq_not_any_not,Bool.not_not];rfl
 simp only [List.length_nil,List.drop_zero,Bool.true_and,id,e]
 cases anyP (partBad v1) [] v1.fm <;> simp
def prevBad (l:List Tb) (d:List Tb) (x:Tb):Bool:=bif decide (0 < d.length) then(match l[d.length - 1]? with | some y=>decide (x.fk <= y.fk) | none=>false) else false
def tabBad (t:To) (d:List Tb) (x:Tb):Bool:= !(decide (0 <= x.fk) && pendB x) || (decide (t.fu <= x.fk) || prevBad t.fj d x)
def tableB (t:To):Bool:= !anyP (tabBad t) [] t.fj && (p_du t.fu && decide (((t.fj.length:Nat):Int) <= 16))
theorem znl {l d t:List Tb} {x:Tb} (he:d ++ x :: t=l) (hl:l.length <= 1048576) {ε:Type} (A B:Option ε):
 (bif decide (0 < ((d.length:Nat):Int)) then(if 0 <= (IntKind.i64.wrap (((d.length:Nat):Int) - 1)) then((l[(IntKind.i64.wrap (((d.length:Nat):Int) - 1)).toNat]?).bind fun v=>(bif decide (x.fk <= v.fk) then A else B)) else none) else B)=if prevBad l d x then A else B:=by
 have hlt:d.length < l.length:=zdy he
 unfold prevBad
 by_cases h0:0 < d.length
 ·have hw:IntKind.i64.wrap (((d.length:Nat):Int) - 1)=((d.length - 1:Nat):Int):=by rw [zbk (by omega) (by omega)];omega
  have hd:decide (0 < ((d.length:Nat):Int))=true:=by simp;omega
  have hd':decide (0 < d.length)=true:=by simp [h0]
  rw [hw,hd,hd',za8,List.getElem?_eq_getElem (show d.length - 1 < l.length by omega)]
  simp only [cond_true,if_pos (Int.natCast_nonneg _),Option.bind_some]
  by_cases hx:x.fk <= l[d.length - 1].fk <;> simp [hx]
 ·have hd:decide (0 < ((d.length:Nat):Int))=false:=by simp only [decide_eq_false_iff_not];omega
  have hd':decide (0 < d.length)=false:=by simp [h0]
  rw [hd,hd'];rfl
theorem zxi (v1:To) (hv1:v1.sz <= 1048576):x_ep v1=some (tableB v1):=by
 have g:=hv1
 simp only [To.sz] at g
 have gl:=zar (f:=Tb.sz) (xs:=v1.fj)
 rw [x_ep];unfold x_ep_L1
 rw [zq6 (tabBad v1) (by omega) rfl (fun d x t he=>⟨_,by
  have hm:=zal (f:=Tb.sz) (zcx he)
  rw [b_ep_L1,znl he (by omega),ybp x (by omega),Option.bind_some]
  unfold tabBad
  cases (decide (0 <= x.fk) && pendB x)
  ·rfl
  ·cases decide (v1.fu <= x.fk)
   ·cases prevBad v1.fj d x <;> rfl
   ·rfl⟩),zw3]
 simp only [Option.bind_some]
 unfold tableB
 cases anyP (tabBad v1) [] v1.fj <;> cases p_du v1.fu <;> rfl
theorem zwi (v1:To) (hv1:v1.sz <= 1048576):x_cu v1=some (tableB v1):=by
 have g:=hv1
 simp only [To.sz] at g
 have gl:=zar (f:=Tb.sz) (xs:=v1.fj)
 rw [x_cu,zdi,Option.bind_some]
 unfold tableB p_du
 cases hn:p_di v1.fu 0 1000000000
 ·simp
 have hn':0 <= v1.fu/\v1.fu <= 1000000000:=by
  simp only [p_di] at hn
  by_cases h:0 <= v1.fu
  ·simpa [h] using hn
  ·simp [h] at hn
 by_cases hl:16 < ((v1.fj.length:Nat):Int)
 ·have:¬((v1.fj.length:Nat):Int) <= 16:=by omega
  simp [hl,this]
 have hl':((v1.fj.length:Nat):Int) <= 16:=by omega
 simp only [hl,hl',decide_false,decide_true,cond_false,Bool.not_true,Bool.and_true]
 unfold x_cu_L1
 rw [zq6 (tabBad v1) (by omega) rfl (fun d x t he=>⟨((d.length:Nat):Int),by
  have hm:=zal (f:=Tb.sz) (zcx he)
  rw [b_cu_L1,znl he (by omega),yl2 x (by omega),zdi,zbk (n:=v1.fu - 1) (by omega) (by omega)]
  simp only [Option.bind_some]
  unfold tabBad p_di
  cases pendB x
  ·simp
  ·by_cases h0:0 <= x.fk
   ·by_cases h1:v1.fu <= x.fk
    ·have:¬ x.fk <= v1.fu - 1:=by omega
     simp [h0,h1,this]
    ·have:x.fk <= v1.fu - 1:=by omega
     cases prevBad v1.fj d x <;> simp [h0,h1,this]
   ·simp [h0]⟩)]
 cases anyP (tabBad v1) [] v1.fj <;> rfl
end Go.Pm
namespace Go.Pm
def p_ey (v1:Ta):Bool:=(let v2:=p_du v1.fk;(bif v2 then(let v4:=p_di v1.fq 0 7;(bif v4 then(let v6:=p_dl v1.fg;(bif v6 then(let v8:=p_ec v1.fa;v8) else false)) else false)) else false))
theorem zx3 (v1:Ta) (hv1:v1.sz <= 1048576):x_ey v1=some (p_ey v1):=by
 rw [x_ey];first | rfl | (simp only [zw3 v1.fk,zkl v1.fq 0 7,zw8 v1.fg,zvv v1.fa (by simp only [Ta.sz] at hv1;omega),Option.bind_some,zab];rfl)
def p_dc (v1:Ta):Bool:=(let v2:=p_di v1.fk 0 1000000000;(bif v2 then(let v4:=p_di v1.fq 0 7;(bif v4 then(let v6:=p_di v1.fg 1 247;(bif v6 then(let v8:=p_ec v1.fa;v8) else false)) else false)) else false))
theorem ydl (v1:Ta) (hv1:v1.sz <= 1048576):x_dc v1=some (p_dc v1):=by
 rw [x_dc];first | rfl | (simp only [zdi v1.fk 0 1000000000,zdi v1.fq 0 7,zdi v1.fg 1 247,zvw v1.fa (by simp only [Ta.sz] at hv1;omega),Option.bind_some,zab];rfl)
def p_db (v1:Ta):Bool:=(bif decide (v1.fk=0) then(bif decide (v1.fq=0) then(bif decide (v1.fg=0) then(let v5:=p_da v1.fa;v5) else false) else false) else false)
theorem yam (v1:Ta) (hv1:v1.sz <= 1048576):x_db v1=some (p_db v1):=by
 rw [x_db];first | rfl | (simp only [ykh v1.fa (by simp only [Ta.sz] at hv1;omega),Option.bind_some,zab];rfl)
theorem yaw (v1:Ta) (hv1:v1.sz <= 1048576):p_dc v1=p_ey v1:=by
 rfl
theorem zxq (v1:Ta) (hv1:v1.sz <= 1048576):x_dc v1=some (p_ey v1):=by rw [ydl v1 hv1,yaw v1 hv1]
theorem yc8 (v1:Ta) (hv1:v1.sz <= 1048576):p_db v1=p_ex v1:=by
 simp only [p_db,p_ex,zri]
theorem ybc (v1:Ta) (hv1:v1.sz <= 1048576):x_db v1=some (p_ex v1):=by rw [yam v1 hv1,yc8 v1 hv1]
def p_ev (v1:List Tm) (v2:Tm):Int:=idx0 (fun (x:Tm)=>(decide (v2.fid=x.fid) && (decide (v2.fpart=x.fpart) && true))) v1 0
theorem ymc (v1:List Tm) (v2:Tm) (hv1:v1.length <= 1048576):x_ev v1 v2=some (p_ev v1 v2):=by
 have hlen:v1.length <= 9223372036854775806:=by have hq:v1.length <= v1.length:=Nat.le_refl _;omega
 rw [x_ev];unfold x_ev_L1 p_ev
 exact zv0 (fun (x:Tm)=>(decide (v2.fid=x.fid) && (decide (v2.fpart=x.fpart) && true))) hlen rfl (fun d x t he=>by rw [b_ev_L1];first | rfl | (simp only [Option.bind_some];done) | (simp only [Option.bind_some];rfl) | done)
def p_er (v1:Tb) (v2:Ta):Bool:=decide (v1.fk=v2.fk)
theorem zwu (v1:Tb) (v2:Ta) (hv1:v1.sz <= 1048576) (hv2:v2.sz <= 1048576):x_er v1 v2=some (p_er v1 v2):=by
 rw [x_er];first | rfl | (simp only [Option.bind_some,zab];rfl)
def p_es (v1:List Tb) (v2:Ta):Int:=idx0 (fun (x:Tb)=>p_er x v2) v1 0
theorem ybz (v1:List Tb) (v2:Ta) (hv1:szL Tb.sz v1 <= 1048576) (hv2:v2.sz <= 1048576):x_es v1 v2=some (p_es v1 v2):=by
 have hlen:v1.length <= 9223372036854775806:=by have hq:v1.length <= szL Tb.sz v1:=zar;omega
 rw [x_es];unfold x_es_L1 p_es
 exact zv0 (fun (x:Tb)=>p_er x v2) hlen rfl (fun d x t he=>by rw [b_es_L1];first | rfl | (simp only [zwu x v2 (by have:=zal (f:=Tb.sz) (he ▸ (by simp:x ∈ d ++ x :: t));omega) hv2,Option.bind_some];done) | (simp only [zwu x v2 (by have:=zal (f:=Tb.sz) (he ▸ (by simp:x ∈ d ++ x :: t));omega) hv2,Option.bind_some];rfl) | done)
def p_ew (v1:List Tm) (v2:Tm):Bool:=(let v3:=p_ev v1 v2;decide (0 <= v3))
theorem ybn (v1:List Tm) (v2:Tm) (hv1:v1.length <= 1048576):x_ew v1 v2=some (p_ew v1 v2):=by
 rw [x_ew];first | rfl | (simp only [ymc v1 v2 hv1,Option.bind_some,zab];rfl)
def lineB (l:Tc):Bool:=
 p_dk l.fad l.fac && (!decide (40 < ((l.fab.length:Nat):Int)) && (p_dm l.fu && (!l.fab.any (fun c=> !p_ey c) &&
  (bif !l.far then p_ex l.ff && (decide (l.fag=0) && (decide (l.fas=0) && decide (l.fat=0))) else
   p_ey l.ff && (p_dm l.fag && (p_dj l.fas && p_di l.fat 0 l.fac))))))
theorem yfv (v1:Tc) (hv1:v1.sz <= 1048576):x_ez v1=some (lineB v1):=by
 have g:=hv1
 simp only [Tc.sz] at g
 have gl:=zar (f:=Ta.sz) (xs:=v1.fab)
 rw [x_ez]
 simp only [zx5,zpy,yaf v1.ff (by omega),zx3 v1.ff (by omega),zwx,zkl,Option.bind_some,zab]
 unfold x_ez_L1
 rw [zq6 (fun _ c=> !p_ey c) (by omega) rfl (fun d x t he=>⟨_,by
  have hm:=zal (f:=Ta.sz) (zcx he)
  rw [b_ez_L1,zx3 x (by omega),Option.bind_some]
  cases p_ey x <;> rfl⟩),zch]
 unfold lineB
 cases p_dk v1.fad v1.fac <;> cases decide (40 < ((v1.fab.length:Nat):Int)) <;> cases p_dm v1.fu <;> cases (v1.fab.any fun c=> !p_ey c) <;> try rfl
 cases v1.far
 ·cases p_ex v1.ff <;> cases decide (v1.fag=0) <;> cases decide (v1.fas=0) <;> cases decide (v1.fat=0) <;> rfl
 ·cases p_ey v1.ff <;> cases p_dm v1.fag <;> cases p_dj v1.fas <;> cases p_di v1.fat 0 v1.fac <;> rfl
theorem ylh (v1:Tc) (hv1:v1.sz <= 1048576):x_dd v1=some (lineB v1):=by
 have g:=hv1
 simp only [Tc.sz] at g
 have gl:=zar (f:=Ta.sz) (xs:=v1.fab)
 rw [x_dd]
 simp only [zdi,ybc v1.ff (by omega),zxq v1.ff (by omega),zx9,Option.bind_some,zab]
 unfold x_dd_L1
 rw [zq6 (fun _ c=> !p_ey c) (by omega) rfl (fun d x t he=>⟨_,by
  have hm:=zal (f:=Ta.sz) (zcx he)
  rw [b_dd_L1,zxq x (by omega),Option.bind_some]
  cases p_ey x <;> rfl⟩),zch]
 unfold lineB p_dk p_dm
 cases p_di v1.fad 1 100 <;> cases p_di v1.fac 0 5 <;> cases decide (40 < ((v1.fab.length:Nat):Int)) <;> cases p_di v1.fu 0 65535 <;> cases (v1.fab.any fun c=> !p_ey c) <;> try rfl
 cases v1.far
 ·cases p_ex v1.ff <;> cases decide (v1.fag=0) <;> cases decide (v1.fas=0) <;> cases decide (v1.fat=0) <;> rfl
 ·cases p_ey v1.ff <;> cases p_di v1.fag 0 65535 <;> cases p_dj v1.fas <;> cases p_di v1.fat 0 v1.fac <;> rfl
def callsI (l:Tc):List Ta:=bif l.far then l.fab ++ [l.ff] else l.fab
def callsS (l:Tc):List Ta:=bif l.far then [l.ff] ++ l.fab else l.fab
theorem zxa (v1:Tc) (hv1:v1.sz <= 1048576):x_fb v1=some (callsI v1):=by
 simp only [Tc.sz] at hv1
 have gl:=zar (f:=Ta.sz) (xs:=v1.fab)
 rw [x_fb]
 rw [if_pos (by omega)]
 simp only [Option.bind_some,List.length_map,List.length_singleton]
 rw [if_pos (by omega),zab];rfl
theorem zxp (v1:Tc) (hv1:v1.sz <= 1048576):x_de v1=some (callsS v1):=by
 simp only [Tc.sz] at hv1
 have gl:=zar (f:=Ta.sz) (xs:=v1.fab)
 rw [x_de]
 simp only [List.length_map,List.length_singleton,List.length_nil]
 rw [if_pos (by omega),if_pos (by omega),if_pos (by omega),zab];rfl
theorem ze9 (l:Tc):(callsI l).Perm (callsS l):=by
 unfold callsI callsS
 cases l.far
 ·exact List.Perm.refl _
 ·exact List.perm_append_comm
theorem zf8 (l:Tc):(callsI l).length <= l.fab.length + 1/\(callsS l).length <= l.fab.length + 1:=by
 unfold callsI callsS;cases l.far <;> simp
theorem zlx (l:Tc) {c:Ta} (h:c ∈ callsI l):c.sz <= l.sz:=by
 simp only [Tc.sz]
 unfold callsI at h
 cases hb:l.far <;> simp only [hb,cond_false,cond_true,List.mem_append,List.mem_singleton] at h
 ·have:=zal (f:=Ta.sz) h;omega
 ·rcases h with h | rfl
  ·have:=zal (f:=Ta.sz) h;omega
  ·omega
def fitsB (t:To) (port:Int) (c:Ta):Bool:=match t.fj.find? (fun x=>decide (x.fk=c.fk)) with
 | none=>false
 | some p=>bif decide (((p.fm.length:Nat):Int) <= c.fq) then false else match p.ft[c.fq.toNat]?,p.fm[c.fq.toNat]? with
   | some h,some q=>bif h then false else decide (q.fw=port) && (decide (q.fg=c.fg) && p_et q.fa c.fa)
   | _,_=>false
theorem zjo {α:Type} {p:α->Bool} {xs:List α}:(xs.find? p=none->idx0 p xs 0= -1)/\∀ y,xs.find? p=some y->∃ i:Nat,idx0 p xs 0=(i:Int)/\xs[i]? =some y:=by
 constructor
 ·intro h
  apply zh6
  rw [List.find?_eq_none] at h
  rw [List.any_eq_false];exact h
 ·intro y h
  obtain ⟨hp,d,t,rfl,hd⟩:=List.find?_eq_some_iff_append.1 h
  have hd':d.any p=false:=by rw [List.any_eq_false];intro x hx;have:=hd x hx;simpa using this
  refine ⟨d.length,?_,by simp⟩
  rw [zik hd' hp];simp
theorem zhv {α:Type} {p:List α->α->Bool}:∀ {t d:List α},anyP p d t=false->∀ a x b,t=a ++ x :: b->p (d ++ a) x=false
 | [],d,_,a,x,b,h=>by cases a <;> cases h
 | y :: t,d,hp,a,x,b,h=>by
   simp only [anyP,Bool.or_eq_false_iff] at hp
   cases a with
   | nil=>cases h;simpa using hp.1
   | cons z a=>
     cases h
     have:=zhv hp.2 a x b rfl
     simpa using this
theorem zqu {α:Type} {p:List α->α->Bool} {xs:List α} (h:anyP p [] xs=false) {x:α} (hx:x ∈ xs):∃ d,p d x=false:=by
 obtain ⟨a,b,rfl⟩:=List.append_of_mem hx
 exact ⟨a,by have:=zhv h a x b rfl;simpa using this⟩
theorem zhx {t:To} (h:tableB t=true) {p:Tb} (hp:p ∈ t.fj):pendB p=true:=by
 unfold tableB at h
 simp only [Bool.and_eq_true,Bool.not_eq_true'] at h
 obtain ⟨d,hd⟩:=zqu h.1 hp
 unfold tabBad at hd
 simp only [Bool.or_eq_false_iff,Bool.not_eq_false',Bool.and_eq_true] at hd
 exact hd.1.2
theorem zly {p:Tb} (h:pendB p=true):p.ft.length=p.fm.length/\p.faa.length=p.fm.length:=by
 unfold pendB at h
 simp only [Bool.and_eq_true,decide_eq_true_eq] at h
 exact ⟨h.2.2.2.2.1,h.2.2.2.2.2.1⟩
theorem ylx (v1:To) (v2:Int) (v3:Ta) (hv1:v1.sz <= 1048576) (hv3:v3.sz <= 1048576) (ht:tableB v1=true) (h0:0 <= v3.fq):x_eu v1 v2 v3=some (fitsB v1 v2 v3):=by
 have g:=hv1
 simp only [To.sz] at g
 rw [x_eu,ybz v1.fj v3 (by omega) hv3,Option.bind_some,show p_es v1.fj v3=idx0 (fun x=>decide (x.fk=v3.fk)) v1.fj 0 from rfl]
 unfold fitsB
 obtain ⟨f1,f2⟩:=zjo (p:=fun x=>decide (x.fk=v3.fk)) (xs:=v1.fj)
 cases hf:v1.fj.find? (fun x=>decide (x.fk=v3.fk)) with
 | none=>rw [f1 hf];rfl
 | some p=>
   obtain ⟨i,hi,hp⟩:=f2 p hf
   have hm:p ∈ v1.fj:=List.mem_of_getElem? hp
   have hl:=zly (zhx ht hm)
   have hsz:=zal (f:=Tb.sz) hm
   rw [hi]
   have hd:decide ((i:Int) < 0)=false:=by simp
   simp only [hd,cond_false,if_pos (Int.natCast_nonneg _),za8,hp,Option.bind_some]
   by_cases hc:((p.fm.length:Nat):Int) <= v3.fq
   ·simp [hc]
   ·have h1:v3.fq.toNat < p.ft.length:=by omega
    have h2:v3.fq.toNat < p.fm.length:=by omega
    have hq:p.fm[v3.fq.toNat].sz <= szL Tf.sz p.fm:=zal (List.getElem_mem h2)
    simp only [Tb.sz] at hsz
    have hq':p.fm[v3.fq.toNat].sz=p.fm[v3.fq.toNat].fa.sz + 0:=rfl
    have hc3:v3.sz=v3.fa.sz + 0:=rfl
    simp only [hc,decide_false,cond_false,if_pos h0,List.getElem?_eq_getElem h1,List.getElem?_eq_getElem h2,Option.bind_some,zxv p.fm[v3.fq.toNat].fa v3.fa (by omega) (by omega)]
    cases p.ft[v3.fq.toNat]
    ·by_cases e1:p.fm[v3.fq.toNat].fw=v2 <;> by_cases e2:p.fm[v3.fq.toNat].fg=v3.fg <;> simp [e1,e2]
    ·rfl
theorem yb4 (v1:To) (v2:Int) (hv1:v1.fj.length <= 1048576):x_cw v1 v2=some (idx0 (fun x=>decide (x.fk=v2)) v1.fj 0):=by
 rw [x_cw];unfold x_cw_L1
 exact zv0 (xs:=v1.fj) (fun (x:Tb)=>decide (x.fk=v2)) (by omega) rfl (fun d x t he=>by rw [b_cw_L1])
theorem ylz (v1:Tn) (v2:Int) (v3:Ta) (hv1:v1.fo.sz <= 1048576) (hv3:v3.sz <= 1048576) (ht:tableB v1.fo=true) (h0:0 <= v3.fq):x_cz v1 v2 v3=some (fitsB v1.fo v2 v3):=by
 have g:=hv1
 simp only [To.sz] at g
 have gl:=zar (f:=Tb.sz) (xs:=v1.fo.fj)
 rw [x_cz,yb4 v1.fo v3.fk (by omega),Option.bind_some]
 unfold fitsB
 obtain ⟨f1,f2⟩:=zjo (p:=fun x=>decide (x.fk=v3.fk)) (xs:=v1.fo.fj)
 cases hf:v1.fo.fj.find? (fun x=>decide (x.fk=v3.fk)) with
 | none=>rw [f1 hf];rfl
 | some p=>
   obtain ⟨i,hi,hp⟩:=f2 p hf
   have hm:p ∈ v1.fo.fj:=List.mem_of_getElem? hp
   have hl:=zly (zhx ht hm)
   have hsz:=zal (f:=Tb.sz) hm
   rw [hi]
   have hd:decide ((i:Int) < 0)=false:=by simp
   simp only [hd,cond_false,if_pos (Int.natCast_nonneg _),za8,hp,Option.bind_some]
   by_cases hc:((p.fm.length:Nat):Int) <= v3.fq
   ·simp [hc]
   ·have h1:v3.fq.toNat < p.ft.length:=by omega
    have h2:v3.fq.toNat < p.fm.length:=by omega
    have hq:p.fm[v3.fq.toNat].sz <= szL Tf.sz p.fm:=zal (List.getElem_mem h2)
    simp only [Tb.sz] at hsz
    have hq':p.fm[v3.fq.toNat].sz=p.fm[v3.fq.toNat].fa.sz + 0:=rfl
    have hc3:v3.sz=v3.fa.sz + 0:=rfl
    simp only [hc,decide_false,cond_false,if_pos h0,List.getElem?_eq_getElem h1,List.getElem?_eq_getElem h2,Option.bind_some,yev p.fm[v3.fq.toNat].fa v3.fa (by omega) (by omega)]
    cases p.ft[v3.fq.toNat]
    ·by_cases e1:p.fm[v3.fq.toNat].fw=v2 <;> by_cases e2:p.fm[v3.fq.toNat].fg=v3.fg <;> simp [e1,e2]
    ·rfl
def waitN (t:To):Nat:=(t.fj.map fun p=>p.ft.countP fun h=> !h).sum
theorem zti (v1:To) (v2:Int) (p:Tb) (s:Int) (h0:0 <= s) (h1:s + p.ft.length <= 1048576):x_eq_L2 v1 v2 p s=some (s + (p.ft.countP fun h=> !h:Nat)):=by
 unfold x_eq_L2
 rw [if_pos (by omega)]
 have key:∀ (body:Int->Bool->Int->Option (Int ⊕ Int)) (last:Int->Option Int),(∀ k x s,body k x s=(bif !x then(some (.inl (IntKind.i64.wrap (s + 1)))) else(some (.inl s))))->(∀ s,last s=some s)->∀ (t:List Bool) (k s:Int),0 <= s->s + t.length <= 1048576->listN body last t k s=some (s + (t.countP fun h=> !h:Nat)):=by
  intro body last hb hlast t
  induction t with
  | nil=>intro k s _ _;simp [listN,hlast]
  | cons x t ih=>
    intro k s h0 h1
    simp only [List.length_cons] at h1
    simp only [listN,hb]
    cases x
    ·simp only [Bool.not_false,cond_true,Option.bind_some,zbk (n:=s + 1) (by omega) (by omega)]
     rw [ih (k + 1) (s + 1) (by omega) (by omega)]
     simp [List.countP_cons];omega
    ·simp only [Bool.not_true,cond_false,Option.bind_some]
     rw [ih (k + 1) s h0 (by omega)]
     simp [List.countP_cons]
 exact key _ _ (fun k x s=>rfl) (fun s=>rfl) p.ft 0 s h0 h1
theorem zry (p:Tb):(p.ft.countP fun h=> !h) <= p.sz:=by
 have:=List.countP_le_length (p:=fun h:Bool=> !h) (l:=p.ft)
 simp only [Tb.sz];omega
theorem ydj (v1:To) (hv1:v1.sz <= 1048576):x_eq v1=some (bif tableB v1 then(waitN v1:Int) else 0):=by
 have g:=hv1
 simp only [To.sz,szL] at g
 rw [x_eq,zxi v1 hv1,Option.bind_some]
 cases tableB v1
 ·rfl
 simp only [Bool.not_true,cond_false,cond_true]
 unfold x_eq_L1
 rw [if_pos (by omega)]
 have key:∀ (body:Int->Tb->Int->Option (Int ⊕ Int)) (last:Int->Option Int),(∀ k x s,body k x s=((x_eq_L2 v1 k x s).bind fun(v51:Int)=>(some (.inl v51))))->(∀ s,last s=some s)->∀ (t:List Tb) (k s:Int),0 <= s->s + (t.map Tb.sz).sum <= 1048576->listN body last t k s=some (s + ((t.map fun p=>p.ft.countP fun h=> !h).sum:Nat)):=by
  intro body last hb hlast t
  induction t with
  | nil=>intro k s _ _;simp [listN,hlast]
  | cons x t ih=>
    intro k s h0 h1
    simp only [List.map_cons,List.sum_cons] at h1
    have hx:=zry x
    have hx2:x.ft.length <= x.sz:=by simp only [Tb.sz];omega
    simp only [listN,hb]
    rw [zti v1 k x s h0 (by omega)]
    simp only [Option.bind_some]
    rw [ih (k + 1) _ (by omega) (by omega)]
    simp only [List.map_cons,List.sum_cons];congr 1;omega
 rw [key (b_eq_L1 v1) (e_eq_L1 v1) (fun k x s=>rfl) (fun s=>rfl) v1.fj 0 0 (by omega) (by omega)]
 simp [waitN]
theorem zt7 (v1:To) (hv1:v1.sz <= 1048576) {i:Nat} {p:Tb} (hp:v1.fj[i]? =some p) (s:Int) (h0:0 <= s) (h1:s + p.ft.length <= 1048576):∃ k,x_cv_L2 v1 (i:Int) (s,0)=some (s + (p.ft.countP fun h=> !h:Nat),k):=by
 unfold x_cv_L2
 have key:∀ (body:Int × Int->Option ((Int × Int) ⊕ (Int × Int))),(∀ s,body s=(b_cv_L2 v1 (i:Int) s))->∀ (t d:List Bool) (n:Nat) (s:Int),d ++ t=p.ft->t.length < n->0 <= s->s + t.length <= 1048576->∃ k,loopN body n (s,((d.length:Nat):Int))=some (s + (t.countP fun h=> !h:Nat),k):=by
  intro body hb t
  induction t with
  | nil=>
    intro d n s he hn h0 h1
    obtain ⟨n,rfl⟩:∃ q,n=q + 1:=⟨n - 1,by simp at hn;omega⟩
    have he:d=p.ft:=by simpa using he
    subst he
    refine ⟨((p.ft.length:Nat):Int),?_⟩
    simp only [loopN,hb,b_cv_L2,if_pos (Int.natCast_nonneg _),za8,hp,Option.bind_some]
    simp
  | cons x t ih=>
    intro d n s he hn h0 h1
    obtain ⟨n,rfl⟩:∃ q,n=q + 1:=⟨n - 1,by simp at hn;omega⟩
    have hlt:=zdy he
    have hl:p.ft.length <= 1048576:=by
     have:=zal (f:=Tb.sz) (List.mem_of_getElem? hp)
     simp only [To.sz,Tb.sz] at hv1 this;omega
    simp only [List.length_cons] at h1 hn
    have hd:decide (((d.length:Nat):Int) < ((p.ft.length:Nat):Int))=true:=by simp;omega
    have hw:IntKind.i64.wrap (((d.length:Nat):Int) + 1)=(((d ++ [x]).length:Nat):Int):=by rw [zbk (by omega) (by omega)];simp
    simp only [loopN,hb,b_cv_L2,if_pos (Int.natCast_nonneg _),za8,hp,Option.bind_some,hd,cond_true,zbm he,hw]
    cases x
    ·simp only [Bool.not_false,cond_true,zbk (n:=s + 1) (by omega) (by omega)]
     obtain ⟨k,hk⟩:=ih (d ++ [false]) n (s + 1) (by simpa using he) (by omega) (by omega) (by omega)
     refine ⟨k,?_⟩
     show loopN body n (s + 1,_)=_
     rw [hk];simp [List.countP_cons];omega
    ·simp only [Bool.not_true,cond_false]
     obtain ⟨k,hk⟩:=ih (d ++ [true]) n s (by simpa using he) (by omega) h0 (by omega)
     refine ⟨k,?_⟩
     show loopN body n (s,_)=_
     rw [hk];simp [List.countP_cons]
 have hl:p.ft.length <= 1048576:=by
  have:=zal (f:=Tb.sz) (List.mem_of_getElem? hp)
  simp only [To.sz,Tb.sz] at hv1 this;omega
 exact key _ (fun _=>rfl) p.ft [] BIG s rfl (by simp only [BIG];omega) h0 h1
theorem ybj (v1:To) (hv1:v1.sz <= 1048576):x_cv v1=some (bif tableB v1 then(waitN v1:Int) else 0):=by
 have g:=hv1
 simp only [To.sz,szL] at g
 rw [x_cv]
 unfold x_cv_L1
 rw [if_pos (by omega)]
 cases ht:tableB v1
 ·cases hl:v1.fj with
  | nil=>simp [listN,e_cv_L1]
  | cons p l=>simp [listN,b_cv_L1,zwi v1 hv1,ht]
 have key:∀ (body:Int->Tb->Int->Option (Int ⊕ (Int × Int))) (last:Int->Option (Int × Int)),(∀ k x s,body k x s=(b_cv_L1 v1 k x s))->(∀ s,last s=some (s,((v1.fj.length:Nat):Int)))->∀ (t d:List Tb) (s:Int),d ++ t=v1.fj->0 <= s->s + (t.map Tb.sz).sum <= 1048576->∃ k,listN body last t ((d.length:Nat):Int) s=some (s + ((t.map fun p=>p.ft.countP fun h=> !h).sum:Nat),k):=by
  intro body last hb hlast t
  induction t with
  | nil=>intro d s _ _ _;exact ⟨((v1.fj.length:Nat):Int),by simp [listN,hlast]⟩
  | cons x t ih=>
    intro d s he h0 h1
    simp only [List.map_cons,List.sum_cons] at h1
    have hx:=zry x
    have hx2:x.ft.length <= x.sz:=by simp only [Tb.sz];omega
    obtain ⟨k2,hk2⟩:=zt7 v1 hv1 (zbm he) s h0 (by omega)
    obtain ⟨k,hk⟩:=ih (d ++ [x]) (s + (x.ft.countP fun h=> !h:Nat)) (by simpa using he) (by omega) (by omega)
    refine ⟨k,?_⟩
    simp only [listN,hb,b_cv_L1,zwi v1 hv1,ht,Option.bind_some,cond_true,hk2]
    have e:((d.length:Nat):Int) + 1=(((d ++ [x]).length:Nat):Int):=by simp
    rw [e,hk]
    simp only [List.map_cons,List.sum_cons];congr 2;omega
 obtain ⟨k,hk⟩:=key (fun k x s=>(b_cv_L1 v1 k x s)) (fun s=>e_cv_L1 v1 s) (fun _ _ _=>rfl) (fun s=>rfl) v1.fj [] 0 rfl (by omega) (by omega)
 have hk':listN (fun k x s=>(b_cv_L1 v1 k x s)) (fun s=>e_cv_L1 v1 s) v1.fj 0 0=_:=hk
 rw [hk']
 simp [waitN]
end Go.Pm
namespace Go.Pm
def keyC (c:Ta):Tm:=⟨c.fk,c.fq⟩
def seeC (fits:Ta->Bool):List Ta->List Tm->Option (List Tm)
 | [],seen=>some seen
 | c :: t,seen=>if fits c=true/\¬ keyC c ∈ seen then seeC fits t (seen ++ [keyC c]) else none
def seeL (fits:Int->Ta->Bool) (cs:Tc->List Ta):List Tc->Int->List Tm->Option (List Tm)
 | [],_,seen=>some seen
 | l :: t,k,seen=>if lineB l=true then(seeC (fits k) (cs l) seen).bind fun s=>seeL fits cs t (k + 1) s else none
def goodC (fits:Ta->Bool) (t:List Ta) (seen:List Tm):Prop:=(∀ c ∈ t,fits c=true)/\(t.map keyC).Nodup/\∀ c ∈ t,¬ keyC c ∈ seen
theorem zdq {fits:Ta->Bool}:∀ {t:List Ta} {seen s:List Tm},seeC fits t seen=some s ↔ goodC fits t seen/\s=seen ++ t.map keyC
 | [],seen,s=>by
   simp only [seeC,goodC,Option.some.injEq,List.map_nil,List.append_nil]
   exact ⟨fun h=>⟨⟨by simp,by simp,by simp⟩,h.symm⟩,fun h=>h.2.symm⟩
 | c :: t,seen,s=>by
   simp only [seeC]
   split
   ·rename_i h
    rw [zdq]
    simp only [goodC,List.mem_cons,List.map_cons,List.nodup_cons,List.mem_append,List.mem_singleton,forall_eq_or_imp,List.mem_map]
    constructor
    ·rintro ⟨⟨h1,h2,h3⟩,rfl⟩
     refine ⟨⟨⟨h.1,h1⟩,⟨?_,h2⟩,h.2,fun x hx hs=>h3 x hx (.inl hs)⟩,by simp⟩
     rintro ⟨x,hx,e⟩
     exact h3 x hx (.inr (.inl e))
    ·rintro ⟨⟨⟨_,h1⟩,⟨h4,h2⟩,_,h3⟩,rfl⟩
     refine ⟨⟨h1,h2,fun x hx hs=> ?_⟩,by simp⟩
     rcases hs with hs | hs | hs
     ·exact h3 x hx hs
     ·exact h4 ⟨x,hx,hs⟩
     ·cases hs
   ·rename_i h
    simp only [false_iff,not_and,reduceCtorEq]
    rintro ⟨h1,h2,h3⟩
    exact absurd ⟨h1 c (by simp),h3 c (by simp)⟩ h
theorem zm3 {fits:Ta->Bool} {t t':List Ta} {seen seen':List Tm} (ht:t.Perm t') (hs:seen.Perm seen') (h:goodC fits t seen):goodC fits t' seen':=
 ⟨fun c hc=>h.1 c (ht.mem_iff.2 hc),(ht.map keyC).nodup_iff.1 h.2.1,fun c hc hm=>h.2.2 c (ht.mem_iff.2 hc) (hs.mem_iff.2 hm)⟩
theorem zgs {fits:Int->Ta->Bool} {cs cs':Tc->List Ta} (hc:∀ l,(cs l).Perm (cs' l)):∀ (ls:List Tc) (k:Int) (seen seen' s:List Tm),seen.Perm seen'->seeL fits cs ls k seen=some s->∃ s',seeL fits cs' ls k seen'=some s'/\s.Perm s'
 | [],k,seen,seen',s,hs,h=>by cases h;exact ⟨seen',rfl,hs⟩
 | l :: ls,k,seen,seen',s,hs,h=>by
   simp only [seeL] at h ⊢
   split at h
   ·rename_i hl
    rw [if_pos hl]
    cases hr:seeC (fits k) (cs l) seen with
    | none=>rw [hr] at h;cases h
    | some s1=>
      rw [hr] at h
      obtain ⟨hg,rfl⟩:=zdq.1 hr
      have hr':=zdq.2 ⟨zm3 (hc l) hs hg,rfl⟩
      rw [hr']
      exact zgs hc ls (k + 1) _ _ s (hs.append ((hc l).map keyC)) h
   ·cases h
def callsB (f:Tn):Bool:=match seeL (fitsB f.fo) callsI f.fr 0 [] with
 | some s=>decide (((s.length:Nat):Int)=(waitN f.fo:Int))
 | none=>false
theorem zqy (f:Tn):callsB f=match seeL (fitsB f.fo) callsS f.fr 0 [] with
 | some s=>decide (((s.length:Nat):Int)=(waitN f.fo:Int))
 | none=>false:=by
 unfold callsB
 cases h:seeL (fitsB f.fo) callsI f.fr 0 [] with
 | some s=>
   obtain ⟨s',hs',hp⟩:=zgs ze9 f.fr 0 [] [] s (List.Perm.refl _) h
   rw [hs'];simp only [hp.length_eq]
 | none=>
   cases h':seeL (fitsB f.fo) callsS f.fr 0 [] with
   | none=>rfl
   | some s=>
     obtain ⟨s',hs',_⟩:=zgs (fun l=>(ze9 l).symm) f.fr 0 [] [] s (List.Perm.refl _) h'
     rw [h] at hs';cases hs'
def fabricB (f:Tn):Bool:=
 p_dj f.fan && (configB f.fp && (tableB f.fo && (decide (f.fr.length=6) && (p_du f.fal && (p_du f.fao && (p_du f.fam && (p_du f.fap && callsB f)))))))
theorem zp7 (l:List Tm) (x:Tm):p_ew l x=decide (x ∈ l):=by
 have h:p_ew l x=l.any (fun (y:Tm)=>(decide (x.fid=y.fid) && (decide (x.fpart=y.fpart) && true))):=zgt
 rw [h,Bool.eq_iff_iff]
 simp only [List.any_eq_true,Bool.and_eq_true,decide_eq_true_eq,and_true]
 constructor
 ·rintro ⟨y,hy,h1,h2⟩
  have:x=y:=by cases x;cases y;simp_all
  rw [this];exact hy
 ·intro hx;exact ⟨x,hx,rfl,rfl⟩
theorem zke {l:Tc} (h:lineB l=true) {c:Ta} (hc:c ∈ callsI l):0 <= c.fq:=by
 unfold lineB at h
 simp only [Bool.and_eq_true,Bool.not_eq_true'] at h
 have key:∀ c:Ta,p_ey c=true->0 <= c.fq:=by
  intro c h
  simp only [p_ey,p_di] at h
  cases p_du c.fk
  ·simp_all
  ·by_cases h0:0 <= c.fq
   ·exact h0
   ·simp_all
 have hq:∀ c ∈ l.fab,p_ey c=true:=by
  intro c hc
  have:=h.2.2.2.1
  rw [List.any_eq_false] at this
  have:=this c hc
  simpa using this
 unfold callsI at hc
 cases hb:l.far
 ·rw [hb] at hc;exact key c (hq c hc)
 ·rw [hb] at hc
  simp only [cond_true,List.mem_append,List.mem_singleton] at hc
  rcases hc with hc | rfl
  ·exact key c (hq c hc)
  ·have:=h.2.2.2.2
   rw [hb] at this
   simp only [Bool.not_true,cond_false,Bool.and_eq_true] at this
   exact key _ this.1
theorem zv9 (f:Tn) (hf:f.fo.sz <= 1048576) (ht:tableB f.fo=true) (port:Int) (l:Tc) (cs:List Ta) (hp:∀ c ∈ cs,0 <= c.fq/\c.sz <= 1048576) (hl:cs.length <= 1048576) (seen:List Tm) (hs:seen.length + cs.length <= 1048576):
 (seeC (fitsB f.fo port) cs seen=none/\∃ j,x_fc_L2 f port l cs seen=some (.inl j))\/(∃ s,seeC (fitsB f.fo port) cs seen=some s/\x_fc_L2 f port l cs seen=some (.inr s)):=by
 unfold x_fc_L2
 rw [if_pos (by omega)]
 have key:∀ (body) (last),(∀ k x s,body k x s=(b_fc_L2 f port l cs k x s))->(∀ s,last s=e_fc_L2 f port l cs s)->∀ (t d:List Ta) (seen:List Tm),d ++ t=cs->seen.length + t.length <= 1048576->
  (seeC (fitsB f.fo port) t seen=none/\∃ j,listN body last t ((d.length:Nat):Int) seen=some (.inl j))\/(∃ s,seeC (fitsB f.fo port) t seen=some s/\listN body last t ((d.length:Nat):Int) seen=some (.inr s)):=by
  intro body last hb hlast t
  induction t with
  | nil=>intro d seen _ _;exact .inr ⟨seen,rfl,by simp only [listN,hlast];rfl⟩
  | cons x t ih=>
    intro d seen he hs
    have hlt:=zdy he
    have hx:=hp x (zcx he)
    simp only [List.length_cons] at hs
    simp only [listN,hb,b_fc_L2,List.length_map,Nat.sub_zero]
    rw [if_pos (by omega),ylx f.fo port x hf hx.2 ht hx.1]
    simp only [Option.bind_some,seeC]
    cases hfit:fitsB f.fo port x
    ·exact .inl ⟨by simp,_,rfl⟩
    ·simp only [Bool.not_true,cond_false]
     rw [ybn seen ⟨x.fk,x.fq⟩ (by omega)]
     simp only [Option.bind_some,zp7]
     by_cases hm:keyC x ∈ seen
     ·have hm':decide ((⟨x.fk,x.fq⟩:Tm) ∈ seen)=true:=by simpa [keyC] using hm
      simp only [hm',cond_true]
      exact .inl ⟨by simp [hm],_,rfl⟩
     ·have hm':decide ((⟨x.fk,x.fq⟩:Tm) ∈ seen)=false:=by simpa [keyC] using hm
      simp only [hm',cond_false,List.length_map,List.length_singleton]
      rw [if_pos (show (seen.length + 1) * 16 <= 70368744177664 by omega)]
      have:=ih (d ++ [x]) (seen ++ [keyC x]) (by simpa using he) (by simp;omega)
      simp only [Option.bind_some]
      rw [if_pos ⟨trivial,hm⟩]
      simpa [keyC] using this
 exact key _ _ (fun _ _ _=>rfl) (fun _=>rfl) cs [] seen rfl hs
theorem zvr (f:Tn) (hf:f.sz <= 1048576) (ht:tableB f.fo=true) (h6:f.fr.length=6):
 (seeL (fitsB f.fo) callsI f.fr 0 []=none/\((∃ j,x_fc_L1 f []=some (.inl j))\/∃ j,x_fc_L1 f []=some (.inr (.inl j))))\/(∃ s,seeL (fitsB f.fo) callsI f.fr 0 []=some s/\x_fc_L1 f []=some (.inr (.inr s))):=by
 simp only [Tn.sz,szL] at hf
 unfold x_fc_L1
 rw [if_pos (by omega)]
 have key:∀ (body) (last),(∀ k x s,body k x s=(b_fc_L1 f k x s))->(∀ s,last s=e_fc_L1 f s)->∀ (t d:List Tc) (seen:List Tm),d ++ t=f.fr->seen.length + (t.map Tc.sz).sum + t.length <= 1048576->
  (seeL (fitsB f.fo) callsI t ((d.length:Nat):Int) seen=none/\((∃ j,listN body last t ((d.length:Nat):Int) seen=some (.inl j))\/∃ j,listN body last t ((d.length:Nat):Int) seen=some (.inr (.inl j))))\/(∃ s,seeL (fitsB f.fo) callsI t ((d.length:Nat):Int) seen=some s/\listN body last t ((d.length:Nat):Int) seen=some (.inr (.inr s))):=by
  intro body last hb hlast t
  induction t with
  | nil=>intro d seen _ _;exact .inr ⟨seen,rfl,by simp only [listN,hlast];rfl⟩
  | cons x t ih=>
    intro d seen he hs
    have hx:=zal (f:=Tc.sz) (zcx he)
    simp only [szL] at hx
    simp only [List.length_cons,List.map_cons,List.sum_cons] at hs
    have hq:=zar (f:=Ta.sz) (xs:=x.fab)
    have hcl:=(zf8 x).1
    have hxs:x.sz=szL Ta.sz x.fab + (x.ff.sz + 0):=rfl
    simp only [listN,hb,b_fc_L1,seeL,yfv x (by omega),Option.bind_some]
    cases hlb:lineB x
    ·exact .inl ⟨by simp,.inl ⟨_,rfl⟩⟩
    ·simp only [Bool.not_true,cond_false,if_true,zxa x (by omega),Option.bind_some]
     rcases zv9 f (by omega) ht ((d.length:Nat):Int) x (callsI x) (fun c hc=>⟨zke hlb hc,by have:=zlx x hc;omega⟩) (by omega) seen (by omega) with ⟨h1,j,h2⟩ | ⟨s,h1,h2⟩
     ·rw [h1,h2];exact .inl ⟨rfl,.inr ⟨_,rfl⟩⟩
     ·rw [h1,h2]
      simp only [Option.bind_some,sel2]
      have hsl:s.length=seen.length + (callsI x).length:=by
       obtain ⟨_,rfl⟩:=zdq.1 h1;simp
      have:=ih (d ++ [x]) s (by simpa using he) (by omega)
      simpa using this
 exact key _ _ (fun _ _ _=>rfl) (fun _=>rfl) f.fr [] [] rfl (by simp;omega)
theorem ydc (v1:Tn) (hv1:v1.sz <= 1048576):x_fc v1=some (fabricB v1):=by
 have g:=hv1
 simp only [Tn.sz] at g
 rw [x_fc]
 simp only [zwx,yk7 v1.fp (by omega),zxi v1.fo (by omega),zw3,ydj v1.fo (by omega),Option.bind_some]
 unfold fabricB
 cases p_dj v1.fan
 ·rfl
 cases configB v1.fp
 ·rfl
 cases ht:tableB v1.fo
 ·rfl
 by_cases h6:v1.fr.length=6
 rotate_left
 ·have:¬((v1.fr.length:Nat):Int)=6:=by omega
  simp [h6,this]
 simp only [h6,Bool.not_true,cond_false,show decide (((6:Nat):Int) ≠ 6)=false from rfl,decide_true,Bool.true_and,cond_true]
 cases p_du v1.fal
 ·rfl
 cases p_du v1.fao
 ·rfl
 cases p_du v1.fam
 ·rfl
 cases p_du v1.fap
 ·rfl
 simp only [Bool.not_true,cond_false,Bool.true_and]
 unfold callsB
 rcases zvr v1 hv1 ht h6 with ⟨h1,⟨j,h2⟩ | ⟨j,h2⟩⟩ | ⟨s,h1,h2⟩ <;> rw [h1,h2] <;> rfl
end Go.Pm
namespace Go.Pm
theorem zv8 (f:Tn) (port:Int) (cs all:List Ta) (i:Nat) (c:Ta) (hc:cs[i]? =some c) (hall:all.length <= 1048576):
 (keyC c ∈ all.map keyC/\∃ j,x_df_L3 f port cs all (i:Int) ()=some (.inl j))\/(¬ keyC c ∈ all.map keyC/\x_df_L3 f port cs all (i:Int) ()=some (.inr ())):=by
 have hi:i < cs.length:=(List.getElem?_eq_some_iff.1 hc).1
 unfold x_df_L3
 rw [if_pos (by omega)]
 have hb:∀ d x t,d ++ x :: t=all->∃ e:Int ⊕ Unit,(b_df_L3 f port cs all (i:Int) ((d.length:Nat):Int) x ())=some (if decide (keyC x=keyC c) then .inr e else .inl ()):=by
  intro d x t he
  have hlt:=zdy he
  refine ⟨.inl ((d.length:Nat):Int),?_⟩
  rw [b_df_L3]
  simp only [List.length_map,Nat.sub_zero,za8,hc]
  rw [if_pos (by omega),if_pos (by omega)]
  simp only [Option.bind_some]
  by_cases h1:x.fk=c.fk
  ·by_cases h2:x.fq=c.fq
   ·simp [h1,h2,keyC];omega
   ·simp [h1,h2,keyC];omega
  ·simp [h1,keyC]
 obtain ⟨h1,h2⟩:=zwc (body:=fun k x s=>(b_df_L3 f port cs all (i:Int) k x s)) (xs:=all) (last:=fun s=>e_df_L3 f port cs all (i:Int) s) (fun _ x=>decide (keyC x=keyC c)) hb
 simp only [zch] at h1 h2
 by_cases hm:keyC c ∈ all.map keyC
 ·have ha:(all.any fun x=>decide (keyC x=keyC c))=true:=by
   rw [List.any_eq_true]
   obtain ⟨y,hy,e⟩:=List.mem_map.1 hm
   exact ⟨y,hy,by simpa using e⟩
  obtain ⟨d,x,t,e,he,_,hx,hbe,hr⟩:=h1 ha
  left
  refine ⟨hm,?_⟩
  obtain ⟨e',hbe'⟩:=hb d x t he
  rw [b_df_L3] at hbe
  have hlt:=zdy he
  simp only [List.length_map,Nat.sub_zero,za8,hc] at hbe
  rw [if_pos (by omega),if_pos (by omega)] at hbe
  have hk:keyC x=keyC c:=by simpa using hx
  have e1:x.fk=c.fk:=congrArg Tm.fid hk
  have e2:x.fq=c.fq:=congrArg Tm.fpart hk
  simp only [Option.bind_some,e1,e2,decide_true,cond_true] at hbe
  rw [if_pos (by omega),if_pos (by omega)] at hbe
  cases hbe
  exact ⟨_,hr⟩
 ·have ha:(all.any fun x=>decide (keyC x=keyC c))=false:=by
   rw [List.any_eq_false]
   intro y hy e
   exact hm (List.mem_map.2 ⟨y,hy,by simpa using e⟩)
  right
  exact ⟨hm,by rw [h2 ha];rfl⟩
theorem zvf (f:Tn) (hf:f.fo.sz <= 1048576) (ht:tableB f.fo=true) (port:Int) (cs:List Ta) (hp:∀ c ∈ cs,0 <= c.fq/\c.sz <= 1048576) (hl:cs.length <= 1048576) (all:List Ta) (hs:all.length + cs.length <= 1048576):
 (seeC (fitsB f.fo port) cs (all.map keyC)=none/\∃ j,x_df_L2 f port cs all=some (.inl j))\/(∃ s,seeC (fitsB f.fo port) cs (all.map keyC)=some (s.map keyC)/\x_df_L2 f port cs all=some (.inr s)):=by
 unfold x_df_L2
 rw [if_pos (by omega)]
 have key:∀ (body) (last),(∀ k x s,body k x s=(b_df_L2 f port cs k x s))->(∀ s,last s=e_df_L2 f port cs s)->∀ (t d:List Ta) (all:List Ta),d ++ t=cs->all.length + t.length <= 1048576->
  (seeC (fitsB f.fo port) t (all.map keyC)=none/\∃ j,listN body last t ((d.length:Nat):Int) all=some (.inl j))\/(∃ s,seeC (fitsB f.fo port) t (all.map keyC)=some (s.map keyC)/\listN body last t ((d.length:Nat):Int) all=some (.inr s)):=by
  intro body last hb hlast t
  induction t with
  | nil=>intro d all _ _;exact .inr ⟨all,rfl,by simp only [listN,hlast];rfl⟩
  | cons x t ih=>
    intro d all he hs
    have hlt:=zdy he
    have hx:=hp x (zcx he)
    simp only [List.length_cons] at hs
    simp only [listN,hb,b_df_L2]
    rcases zv8 f port cs all d.length x (zbm he) (by omega) with ⟨hm,j,hr⟩ | ⟨hm,hr⟩
    ·rw [hr]
     left
     exact ⟨by simp [seeC,hm],_,rfl⟩
    ·rw [hr]
     simp only [Option.bind_some,sel2,List.length_map,Nat.sub_zero]
     rw [if_pos (show (0:Int) <= ((d.length:Nat):Int)/\((d.length:Nat):Int) < ((cs.length:Nat):Int) by omega),ylz f port x hf hx.2 ht hx.1]
     simp only [Option.bind_some]
     cases hfit:fitsB f.fo port x
     ·exact .inl ⟨by simp [seeC,hfit],_,rfl⟩
     ·simp only [Bool.not_true,cond_false,List.length_singleton]
      rw [if_pos (show (0:Int) <= ((d.length:Nat):Int)/\((d.length:Nat):Int) < ((cs.length:Nat):Int) by omega),if_pos (show (all.length + 1) * 104 <= 70368744177664 by omega)]
      have:=ih (d ++ [x]) (all ++ [x]) (by simpa using he) (by simp;omega)
      simp only [Option.bind_some,seeC]
      rw [if_pos ⟨hfit,hm⟩]
      simpa using this
 exact key _ _ (fun _ _ _=>rfl) (fun _=>rfl) cs [] all rfl hs
theorem zvc (f:Tn) (hf:f.sz <= 1048576) (ht:tableB f.fo=true) (h6:f.fr.length=6):
 (seeL (fitsB f.fo) callsS f.fr 0 []=none/\∃ j,x_df_L1 f []=some (.inl j))\/(∃ s,seeL (fitsB f.fo) callsS f.fr 0 []=some (s.map keyC)/\x_df_L1 f []=some (.inr s)):=by
 simp only [Tn.sz,szL] at hf
 unfold x_df_L1
 rw [if_pos (by omega)]
 have key:∀ (body) (last),(∀ k x s,body k x s=(b_df_L1 f k x s))->(∀ s,last s=e_df_L1 f s)->∀ (t d:List Tc) (all:List Ta),d ++ t=f.fr->all.length + (t.map Tc.sz).sum + t.length <= 1048576->
  (seeL (fitsB f.fo) callsS t ((d.length:Nat):Int) (all.map keyC)=none/\∃ j,listN body last t ((d.length:Nat):Int) all=some (.inl j))\/(∃ s,seeL (fitsB f.fo) callsS t ((d.length:Nat):Int) (all.map keyC)=some (s.map keyC)/\listN body last t ((d.length:Nat):Int) all=some (.inr s)):=by
  intro body last hb hlast t
  induction t with
  | nil=>intro d all _ _;exact .inr ⟨all,rfl,by simp only [listN,hlast];rfl⟩
  | cons x t ih=>
    intro d all he hs
    have hx:=zal (f:=Tc.sz) (zcx he)
    simp only [szL] at hx
    simp only [List.length_cons,List.map_cons,List.sum_cons] at hs
    have hq:=zar (f:=Ta.sz) (xs:=x.fab)
    have hcl:=(zf8 x).2
    have hxs:x.sz=szL Ta.sz x.fab + (x.ff.sz + 0):=rfl
    simp only [listN,hb,b_df_L1,seeL,ylh x (by omega),Option.bind_some]
    cases hlb:lineB x
    ·exact .inl ⟨by simp,_,rfl⟩
    ·simp only [Bool.not_true,cond_false,if_true,zxp x (by omega),Option.bind_some]
     rcases zvf f (by omega) ht ((d.length:Nat):Int) (callsS x) (fun c hc=>by
      have hc:=(ze9 x).mem_iff.2 hc
      exact ⟨zke hlb hc,by have:=zlx x hc;omega⟩) (by omega) all (by omega) with ⟨h1,j,h2⟩ | ⟨s,h1,h2⟩
     ·rw [h1,h2];exact .inl ⟨rfl,_,rfl⟩
     ·rw [h1,h2]
      simp only [Option.bind_some,sel2]
      have hsl:s.length=all.length + (callsS x).length:=by
       have h3:=(zdq.1 h1).2
       have:=congrArg List.length h3
       simpa using this
      have:=ih (d ++ [x]) s (by simpa using he) (by omega)
      simpa using this
 exact key _ _ (fun _ _ _=>rfl) (fun _=>rfl) f.fr [] [] rfl (by simp;omega)
theorem ykz (v1:Tn) (hv1:v1.sz <= 1048576) (hok:v1.ok):x_df v1=some (fabricB v1):=by
 have g:=hv1
 simp only [Tn.sz] at g
 rw [x_df]
 simp only [zx9,yf0 v1.fp (by omega) hok.2.1,zwi v1.fo (by omega),zdi,ybj v1.fo (by omega),Option.bind_some]
 unfold fabricB p_du
 cases p_dj v1.fan
 ·rfl
 cases configB v1.fp
 ·rfl
 cases ht:tableB v1.fo
 ·rfl
 by_cases h6:v1.fr.length=6
 rotate_left
 ·have:¬((v1.fr.length:Nat):Int)=6:=by omega
  simp [h6,this]
 simp only [h6,Bool.not_true,cond_false,show decide (((6:Nat):Int) ≠ 6)=false from rfl,decide_true,Bool.true_and,cond_true]
 cases p_di v1.fal 0 1000000000
 ·rfl
 cases p_di v1.fao 0 1000000000
 ·rfl
 cases p_di v1.fam 0 1000000000
 ·rfl
 cases p_di v1.fap 0 1000000000
 ·rfl
 simp only [Bool.not_true,cond_false,Bool.true_and]
 rw [zqy]
 rcases zvc v1 hv1 ht h6 with ⟨h1,j,h2⟩ | ⟨s,h1,h2⟩ <;> rw [h1,h2]
 ·rfl
 ·simp [sel2]
def loadN (f:Tn):Nat:=(f.fr.map fun l=>(callsI l).length).sum
theorem ygg (v1:Tn) (hv1:v1.sz <= 1048576):x_fd v1=some (loadN v1:Int):=by
 simp only [Tn.sz,szL] at hv1
 rw [x_fd];unfold x_fd_L1
 rw [if_pos (by omega)]
 have key:∀ (body) (last),(∀ k x s,body k x s=(b_fd_L1 v1 k x s))->(∀ s,last s=e_fd_L1 v1 s)->∀ (t:List Tc) (k s:Int),0 <= s->s + (t.map Tc.sz).sum + t.length <= 2097152->(∀ x ∈ t,x.sz <= 1048576)->listN body last t k s=some (s + ((t.map fun l=>(callsI l).length).sum:Nat)):=by
  intro body last hb hlast t
  induction t with
  | nil=>intro k s _ _ _;simp [listN,hlast,e_fd_L1]
  | cons x t ih=>
    intro k s h0 h1 hx
    simp only [List.map_cons,List.sum_cons,List.length_cons] at h1
    have hxs:=hx x (by simp)
    have hc:=(zf8 x).1
    have hq:=zar (f:=Ta.sz) (xs:=x.fab)
    have hx2:x.sz=szL Ta.sz x.fab + (x.ff.sz + 0):=rfl
    simp only [listN,hb,b_fd_L1,zxa x hxs,Option.bind_some]
    rw [zbk (by omega) (by omega),ih (k + 1) _ (by omega) (by omega) (fun y hy=>hx y (by simp [hy]))]
    simp only [List.map_cons,List.sum_cons];congr 1;omega
 rw [key (b_fd_L1 v1) (e_fd_L1 v1) (fun _ _ _=>rfl) (fun _=>rfl) v1.fr 0 0 (by omega) (by omega) (fun x hx=>by have:=zal (f:=Tc.sz) hx;simp only [szL] at this;omega)]
 simp [loadN]
theorem zzm (v1:Tn) (hv1:v1.sz <= 1048576):x_fe v1=some (bif fabricB v1 then(loadN v1:Int) else 0):=by
 rw [x_fe,ydc v1 hv1,ygg v1 hv1]
 cases fabricB v1 <;> rfl
theorem yiy (v1:Tn) (hv1:v1.sz <= 1048576) (hok:v1.ok):x_dg v1=some (bif fabricB v1 then(loadN v1:Int) else 0):=by
 have hF:=ykz v1 hv1 hok
 simp only [Tn.sz,szL] at hv1
 rw [x_dg];unfold x_dg_L1
 rw [if_pos (by omega)]
 cases hb:fabricB v1
 ·cases hl:v1.fr with
  | nil=>simp [listN,e_dg_L1]
  | cons p l=>simp [listN,b_dg_L1,hF,hb]
 have key:∀ (body) (last),(∀ k x s,body k x s=(b_dg_L1 v1 k x s))->(∀ s,last s=e_dg_L1 v1 s)->∀ (t:List Tc) (k s:Int),0 <= s->s + (t.map Tc.sz).sum + t.length <= 2097152->(∀ x ∈ t,x.sz <= 1048576)->∃ j,listN body last t k s=some (s + ((t.map fun l=>(callsI l).length).sum:Nat),j):=by
  intro body last hb' hlast t
  induction t with
  | nil=>intro k s _ _ _;exact ⟨_,by simp only [listN,hlast,e_dg_L1,List.map_nil,List.sum_nil];congr 2;omega⟩
  | cons x t ih=>
    intro k s h0 h1 hx
    simp only [List.map_cons,List.sum_cons,List.length_cons] at h1
    have hxs:=hx x (by simp)
    have hc:=(zf8 x).1
    have hq:=zar (f:=Ta.sz) (xs:=x.fab)
    have hx2:x.sz=szL Ta.sz x.fab + (x.ff.sz + 0):=rfl
    simp only [listN,hb',b_dg_L1,hF,hb,zxp x hxs,Option.bind_some,cond_true,<- (ze9 x).length_eq]
    rw [zbk (by omega) (by omega)]
    obtain ⟨j,hj⟩:=ih (k + 1) (s + ((callsI x).length:Nat)) (by omega) (by omega) (fun y hy=>hx y (by simp [hy]))
    refine ⟨j,?_⟩
    rw [hj]
    simp only [List.map_cons,List.sum_cons];congr 2;omega
 obtain ⟨j,hj⟩:=key (b_dg_L1 v1) (e_dg_L1 v1) (fun _ _ _=>rfl) (fun _=>rfl) v1.fr 0 0 (by omega) (by omega) (fun x hx=>by have:=zal (f:=Tc.sz) hx;simp only [szL] at this;omega)
 rw [hj]
 simp [loadN]
end Go.Pm
namespace Go.Pm
theorem zfe (a:Tp) (h:a.ok):x_gi a=some true:=by
 rw [x_gi]
 obtain ⟨h1,h2⟩:=zpd a h 1048576 (by omega) (by omega)
 by_cases hs:a.sz <= 1048576
 ·rw [h1 (by omega)]
  have hd:decide ((1048576:Int) - (a.sz:Int) < 0)=false:=by simp;omega
  have hf:a.fF.sz <= 1048576:=by simp only [Tp.sz] at hs;omega
  simp only [Option.bind_some,hd,cond_false,zo2 a hs,x_dh,x_ff,yiy a.fF hf h.1,zzm a.fF hf,zps a hs]
  simp
 ·obtain ⟨r,hr,h0⟩:=h2 (by omega)
  rw [hr]
  have hd:decide (r < 0)=true:=by simp;exact h0
  simp only [Option.bind_some,hd,cond_true]
end Go.Pm
