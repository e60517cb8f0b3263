/- Proved: the law FnBoxes answers true at all arguments, for every operating system that has started; no conditions beyond the row's own. -/
import Derived.Test.YtjcloehoolpgkaaMo
set_option linter.unusedVariables false
set_option linter.unusedSimpArgs false
namespace Go.Pm
theorem zhg {a:Te} (h:znh a=true) (hf:a.fg≠0):(a.fa=1\/a.fa=2\/a.fa=3\/a.fa=4\/a.fa=5\/a.fa=6\/a.fa=15\/a.fa=16\/a.fa=22\/a.fa=23)/\1<=a.fg/\a.fg<=255:=by
 simp only [znh,zj9,ybn,zch] at h
 simp [hf,-List.length_eq_zero_iff] at h
 omega
theorem zir {a:Te} (h:znh a=true) (h0:a.fg=0):zc8 a.fc=true/\(a.fa=1\/a.fa=2\/a.fa=3\/a.fa=4\/a.fa=5\/a.fa=6\/a.fa=15\/a.fa=16\/a.fa=22\/a.fa=23)/\
 (a.fa=1\/a.fa=2->1<=a.fe.length/\a.fe.length<=2000)/\(a.fa=3\/a.fa=4\/a.fa=23->1<=a.fc.length/\a.fc.length<=125)/\
 (a.fa=5->isW a.fd/\a.fe.length=1)/\(a.fa=6->isW a.fd/\a.fc.length=1)/\(a.fa=22->isW a.fd/\a.fc.length=2)/\
 (a.fa=15->isW a.fd/\1<=a.fN/\a.fN<=1968)/\(a.fa=16->isW a.fd/\1<=a.fN/\a.fN<=123):=by
 simp only [znh,zj9,yg2,zlz,zch,h0] at h
 cases hw:zc8 a.fc
 ·simp [hw] at h
 simp only [hw] at h
 refine ⟨rfl,?_⟩
 unfold isW
 by_cases k1:a.fa=1
 ·simp [k1,-List.length_eq_zero_iff] at h ⊢;omega
 by_cases k2:a.fa=2
 ·simp [k2,-List.length_eq_zero_iff] at h ⊢;omega
 by_cases k3:a.fa=3
 ·simp [k3,-List.length_eq_zero_iff] at h ⊢;omega
 by_cases k4:a.fa=4
 ·simp [k4,-List.length_eq_zero_iff] at h ⊢;omega
 by_cases k5:a.fa=5
 ·simp [k5,-List.length_eq_zero_iff] at h ⊢;omega
 by_cases k6:a.fa=6
 ·simp [k6,-List.length_eq_zero_iff] at h ⊢;omega
 by_cases k15:a.fa=15
 ·simp [k15,-List.length_eq_zero_iff] at h ⊢;omega
 by_cases k16:a.fa=16
 ·simp [k16,-List.length_eq_zero_iff] at h ⊢;omega
 by_cases k22:a.fa=22
 ·simp [k22,-List.length_eq_zero_iff] at h ⊢;omega
 by_cases k23:a.fa=23
 ·simp [k23,-List.length_eq_zero_iff] at h ⊢;omega
 simp [k1,k2,k3,k4,k5,k6,k15,k16,k22,k23] at h;omega
def zek (a:Te):List Int:=
 if a.fg≠0 then [a.fa+128,a.fg]
 else a.fa::(
  if a.fa=1\/a.fa=2 then((zeh a.fe).length:Int) % 256::zeh a.fe
  else if a.fa=3\/a.fa=4\/a.fa=23 then(2 * (a.fc.length:Int)) % 256::wbs a.fc
  else wb a.fd++(if a.fa=5 then wb (bif a.fe.headD false then 65280 else 0) else if a.fa=6\/a.fa=22 then wbs a.fc else wb a.fN))
theorem yjg {k:Int} (h:0<=k) (h':k<128):IntKind.u8.wrap ((BitVec.ofInt IntKind.u8.bits (k:Int) ||| BitVec.ofInt IntKind.u8.bits 128).toNat:Nat)=k+128:=by
 obtain ⟨n,rfl⟩:∃ n:Nat,k=n:=⟨k.toNat,by omega⟩
 have hp:=zub (v:=n) (r:=7) (by omega) (by simp;omega)
 have e:IntKind.u8.wrap (1 * 2 ^ (min 7 IntKind.u8.bits))=128:=rfl
 rw [e] at hp
 rw [hp];simp
theorem yrh {a:Te} (ha:a.sz<=1048576):yeu a=some (if znh a=true then zek a else []):=by
 have g:=ha
 simp only [Te.sz] at g
 unfold yeu
 rw [ymo a ha,Option.bind_some]
 cases hr:znh a with
 | false=>rfl
 | true=>
   rw [if_pos rfl]
   simp only [Bool.not_true,cond_false]
   by_cases hf:a.fg=0
   ·obtain ⟨hw,hk,f1,f2,f3,f4,f5,f6,f7⟩:=zir hr hf
    have hWs:=zgn hw
    unfold zek
    rcases hk with k|k|k|k|k|k|k|k|k|k
    all_goals simp only [k,hf,u8w,Int.reduceEq,ne_eq,not_true_eq_false,decide_false,decide_true,cond_false,cond_true,if_true,if_false,or_true,true_or,or_self,or_false,false_or]
    ·have:=f1 (.inl k)
     rw [yie (by omega)]
     simp only [Option.bind_some]
     rw [zyx (by rw [zbr];simp;omega)]
     simp
    ·have:=f1 (.inr k)
     rw [yie (by omega)]
     simp only [Option.bind_some]
     rw [zyx (by rw [zbr];simp;omega)]
     simp
    ·have:=f2 (.inl k)
     rw [zi4 hWs (by simp;omega)]
     simp only [Option.bind_some]
     rw [zyx (by simp [zb6];omega)]
     simp [zb6]
    ·have:=f2 (.inr (.inl k))
     rw [zi4 hWs (by simp;omega)]
     simp only [Option.bind_some]
     rw [zyx (by simp [zb6];omega)]
     simp [zb6]
    ·obtain ⟨hA,h1⟩:=f3 k
     obtain ⟨x,hx⟩:=List.length_eq_one_iff.1 h1
     rw [hx]
     have hbw:ycv x=some (bif x then 65280 else 0):=by cases x <;> rfl
     have hW:isW (bif x then 65280 else 0):=by cases x <;> exact ⟨by simp,by simp⟩
     simp only [List.getElem?_cons_zero,show (0:Int).toNat=0 from rfl,Option.bind_some,hbw]
     rw [zi4 (by intro y hy;simp at hy;rcases hy with rfl|rfl <;> assumption) (by simp)]
     simp [wbs,wb]
    ·obtain ⟨hA,h1⟩:=f4 k
     rw [zi4 (v:=[6 % 256]) (l:=[a.fd]) (by intro x hx;simp at hx;rcases hx with rfl;assumption) (by simp)]
     simp only [Option.bind_some]
     rw [zi4 hWs (by simp [zb6];omega)]
     simp [wbs,wb]
    ·obtain ⟨hA,h1⟩:=f6 k
     rw [zi4 (by intro y hy;simp at hy;rcases hy with rfl|rfl;exact hA;exact ⟨by omega,by omega⟩) (by simp)]
     simp [wbs,wb]
    ·obtain ⟨hA,h1⟩:=f7 k
     rw [zi4 (by intro y hy;simp at hy;rcases hy with rfl|rfl;exact hA;exact ⟨by omega,by omega⟩) (by simp)]
     simp [wbs,wb]
    ·obtain ⟨hA,h1⟩:=f5 k
     rw [zi4 (v:=[22 % 256]) (l:=[a.fd]) (by intro x hx;simp at hx;rcases hx with rfl;assumption) (by simp)]
     simp only [Option.bind_some]
     rw [zi4 hWs (by simp [zb6];omega)]
     simp [wbs,wb]
    ·have:=f2 (.inr (.inr k))
     rw [zi4 hWs (by simp;omega)]
     simp only [Option.bind_some]
     rw [zyx (by simp [zb6];omega)]
     simp [zb6]
   ·obtain ⟨hk,h1,h2⟩:=zhg hr hf
    unfold zek
    have hk':0<=a.fa/\a.fa<128:=by omega
    have hd:decide (a.fg≠0)=true:=by simp [hf]
    rw [if_pos hf,hd]
    simp only [cond_true]
    rw [show IntKind.u8.wrap a.fa=a.fa from zge hk'.1 (by omega),yjg hk'.1 hk'.2,show IntKind.u8.wrap a.fg=a.fg from zge (by omega) (by omega)]
theorem yq9 {a:Te} (ha:a.sz<=1048576):ycs a=some (if znh a=true then zek a else []):=by
 have g:=ha
 simp only [Te.sz] at g
 unfold ycs
 rw [yn9 a ha,Option.bind_some]
 cases hr:znh a with
 | false=>rfl
 | true=>
   rw [if_pos rfl]
   simp only [Bool.not_true,cond_false]
   by_cases hf:a.fg=0
   ·obtain ⟨hw,hk,f1,f2,f3,f4,f5,f6,f7⟩:=zir hr hf
    have hWs:=zgn hw
    unfold zek
    rcases hk with k|k|k|k|k|k|k|k|k|k
    all_goals simp only [k,hf,u8w,Int.reduceEq,Int.lt_irrefl,ne_eq,not_true_eq_false,decide_false,decide_true,cond_false,cond_true,if_true,if_false,or_true,true_or,or_self,or_false,false_or]
    ·have:=f1 (.inl k)
     rw [yhm (by omega)]
     simp only [Option.bind_some]
     rw [if_pos (by simp),if_pos (by simp [zbr];omega)]
     simp
    ·have:=f1 (.inr k)
     rw [yhm (by omega)]
     simp only [Option.bind_some]
     rw [if_pos (by simp),if_pos (by simp [zbr];omega)]
     simp
    ·have:=f2 (.inl k)
     rw [if_pos (by simp),if_pos (by simp),za6 (n:=2 * ((a.fc.length:Nat):Int)) (by omega) (by omega),zy2 hWs (by simp;omega)]
     simp
    ·have:=f2 (.inr (.inl k))
     rw [if_pos (by simp),if_pos (by simp),za6 (n:=2 * ((a.fc.length:Nat):Int)) (by omega) (by omega),zy2 hWs (by simp;omega)]
     simp
    ·obtain ⟨hA,h1⟩:=f3 k
     obtain ⟨x,hx⟩:=List.length_eq_one_iff.1 h1
     rw [hx,zmv (by simp) hA]
     simp only [List.getElem?_cons_zero,show (0:Int).toNat=0 from rfl,Option.bind_some]
     rw [ykn (by simp [wb])]
     simp [wb]
    ·obtain ⟨hA,h1⟩:=f4 k
     rw [zmv (by simp) hA]
     simp only [Option.bind_some]
     rw [zy2 hWs (by simp [wb];omega)]
     simp [wb]
    ·obtain ⟨hA,h1⟩:=f6 k
     rw [zmv (n:=a.fd) (by simp) hA]
     simp only [Option.bind_some]
     rw [zmv (n:=a.fN) (by simp [wb]) ⟨by omega,by omega⟩]
     simp [wb]
    ·obtain ⟨hA,h1⟩:=f7 k
     rw [zmv (n:=a.fd) (by simp) hA]
     simp only [Option.bind_some]
     rw [zmv (n:=a.fN) (by simp [wb]) ⟨by omega,by omega⟩]
     simp [wb]
    ·obtain ⟨hA,h1⟩:=f5 k
     rw [zmv (by simp) hA]
     simp only [Option.bind_some]
     rw [zy2 hWs (by simp [wb];omega)]
     simp [wb]
    ·have:=f2 (.inr (.inr k))
     rw [if_pos (by simp),if_pos (by simp),za6 (n:=2 * ((a.fc.length:Nat):Int)) (by omega) (by omega),zy2 hWs (by simp;omega)]
     simp
   ·obtain ⟨hk,h1,h2⟩:=zhg hr hf
    unfold zek
    have hk':0<=a.fa/\a.fa<128:=by omega
    have hd:decide (0<a.fg)=true:=by simp;omega
    rw [if_pos hf,hd]
    simp only [cond_true]
    rw [za6 (n:=a.fa+128) (by omega) (by omega),show IntKind.u8.wrap (a.fa+128)=a.fa+128 from zge (by omega) (by omega),show IntKind.u8.wrap a.fg=a.fg from zge (by omega) (by omega)]
end Go.Pm
namespace Go.Pm
open IntKind (i64)
theorem zfe {x y:Int} (hx:isB x) (hy:isB y):wb (x * 256+y)=[x,y]:=by
 have:=hx.1;have:=hx.2;have:=hy.1;have:=hy.2
 unfold wb
 rw [show (x * 256+y) / 256=x by omega,show (x * 256+y) % 256=y by omega]
theorem zdm (n:Int):n / 256 * 256+n % 256=n:=by omega
theorem yd3 {x y:Int} (hx:isB x) (hy:isB y):isW (x * 256+y):=by
 have:=hx.1;have:=hx.2;have:=hy.1;have:=hy.2
 exact ⟨by omega,by omega⟩
def za9 (b:List Int) (n:Nat):Int:=b.getD n 0 * 256+b.getD (n+1) 0
theorem zn0 {b:List Int} {n:Nat} (hl:b.length<=1048576) (hB:∀ x∈b,isB x) (h:n+2<=b.length):ybj b (n:Int)=some (za9 b n,true):=by
 unfold ybj
 rw [yb3,Option.bind_some,za6 (n:=((b.length:Nat):Int) - 2) (by omega) (by omega)]
 have e:zch (n:Int) 0 (((b.length:Nat):Int) - 2)=true:=by simp [zch];omega
 have h1:n<b.length:=by omega
 have h2:n+1<b.length:=by omega
 rw [e]
 simp only [Bool.not_true,cond_false]
 rw [if_pos (by omega),zba,List.getElem?_eq_getElem h1]
 simp only [Option.bind_some]
 rw [za6 (n:=(n:Int)+1) (by omega) (by omega),if_pos (by omega),show ((n:Int)+1).toNat=n+1 by omega,List.getElem?_eq_getElem h2]
 simp only [Option.bind_some]
 have b1:=hB _ (List.getElem_mem h1)
 have b2:=hB _ (List.getElem_mem h2)
 rw [zw9 b1.1 b1.2 b2.1 b2.2]
 simp [za9,List.getD,List.getElem?_eq_getElem h1,List.getElem?_eq_getElem h2]
theorem znt {b:List Int} {n:Nat} (hl:b.length<=1048576) (h:b.length<n+2):ybj b (n:Int)=some (0,false):=by
 unfold ybj
 rw [yb3,Option.bind_some,za6 (n:=((b.length:Nat):Int) - 2) (by omega) (by omega)]
 have e:zch (n:Int) 0 (((b.length:Nat):Int) - 2)=false:=by simp [zch];omega
 rw [e];rfl
theorem zkp {b:List Int} {n:Nat} (hl:b.length<=1048576) (hB:∀ x∈b,isB x) (h:n+2<=b.length):zwm b (n:Int)=some (za9 b n,true):=by
 unfold zwm
 rw [zn9,Option.bind_some,za6 (n:=((b.length:Nat):Int) - 2) (by omega) (by omega)]
 have e:zch (n:Int) 0 (((b.length:Nat):Int) - 2)=true:=by simp [zch];omega
 have h1:n<b.length:=by omega
 have h2:n+1<b.length:=by omega
 rw [e]
 simp only [Bool.not_true,cond_false]
 rw [if_pos (by omega),zba,List.getElem?_eq_getElem h1]
 simp only [Option.bind_some]
 rw [za6 (n:=(n:Int)+1) (by omega) (by omega),if_pos (by omega),show ((n:Int)+1).toNat=n+1 by omega,List.getElem?_eq_getElem h2]
 simp only [Option.bind_some]
 have b1:=hB _ (List.getElem_mem h1)
 have b2:=hB _ (List.getElem_mem h2)
 rw [zw9 b1.1 b1.2 b2.1 b2.2]
 simp [za9,List.getD,List.getElem?_eq_getElem h1,List.getElem?_eq_getElem h2]
theorem zsq {b:List Int} {n:Nat} (hl:b.length<=1048576) (h:b.length<n+2):zwm b (n:Int)=some (0,false):=by
 unfold zwm
 rw [zn9,Option.bind_some,za6 (n:=((b.length:Nat):Int) - 2) (by omega) (by omega)]
 have e:zch (n:Int) 0 (((b.length:Nat):Int) - 2)=false:=by simp [zch];omega
 rw [e];rfl
theorem zb2 {b:List Int} {n:Nat} (hl:b.length<=1048576) (hB:∀ x∈b,isB x) (h:n+2<=b.length):x_az ⟨b,n,false⟩=some (za9 b n,⟨b,((n+2:Nat):Int),false⟩):=by
 unfold x_az
 dsimp only
 rw [zn0 hl hB h]
 simp only [Option.bind_some,cond_false,Bool.not_true]
 rw [za6 (n:=(n:Int)+2) (by omega) (by omega)]
 rfl
theorem zce {b:List Int} {n:Nat} (hl:b.length<=1048576) (h:b.length<n+2):x_az ⟨b,n,false⟩=some (0,⟨b,n,true⟩):=by
 unfold x_az
 dsimp only
 rw [znt hl h];rfl
theorem zck {b:List Int} {n:Nat} (hl:b.length<=1048576) (hB:∀ x∈b,isB x):x_az ⟨b,n,true⟩=some (0,⟨b,n,true⟩):=by
 unfold x_az
 dsimp only
 by_cases h:n+2<=b.length
 ·rw [zn0 hl hB h];rfl
 ·rw [znt hl (by omega)];rfl
def zah (b:List Int) (n m:Nat):List Int:=(List.range m).map fun i=>za9 b (n+2 * i)
theorem zmf {b:List Int} {n m:Nat} (hl:b.length<=1048576) (hB:∀ x∈b,isB x) (h:n+2 * m<=b.length):zud (m:Int) ⟨b,n,false⟩=some (zah b n m,⟨b,((n+2 * m:Nat):Int),false⟩):=by
 have key:∀ (j i f:Nat),i+j=m->j<f->zbs (zev (m:Int)) f (⟨b,((n+2 * i:Nat):Int),false⟩,zah b n i,(i:Int))=some (zah b n m,(m:Int),⟨b,((n+2 * m:Nat):Int),false⟩):=by
  intro j
  induction j with
  | zero=>
    intro i f hi hf
    obtain ⟨f,rfl⟩:∃ q,f=q+1:=⟨f - 1,by omega⟩
    have:i=m:=by omega
    subst this
    have hd:decide ((i:Int)<(i:Int))=false:=by simp
    simp only [zbs,zev,hd,cond_false]
    rfl
  | succ j ih=>
    intro i f hi hf
    obtain ⟨f,rfl⟩:∃ q,f=q+1:=⟨f - 1,by omega⟩
    have hd:decide ((i:Int)<(m:Int))=true:=by simp;omega
    simp only [zbs,zev,hd,cond_true,Bool.not_false]
    rw [zb2 hl hB (by omega)]
    simp only [Option.bind_some]
    rw [if_pos (by simp [zah];omega),za6 (n:=(i:Int)+1) (by omega) (by omega)]
    have:=ih (i+1) f (by omega) (by omega)
    have e1:zah b n i ++ [za9 b (n+2 * i)]=zah b n (i+1):=by simp [zah,List.range_succ]
    rw [e1]
    simpa [Nat.mul_add,Nat.add_assoc] using this
 unfold zud zit
 have:=key m 0 BIG (by omega) (by simp only [BIG];omega)
 simp only [Nat.mul_zero,Nat.add_zero,show zah b n 0=[] from rfl,show ((0:Nat):Int)=0 from rfl] at this
 rw [this];rfl
theorem zxz {b:List Int} {n m:Nat} (hl:b.length<=1048576) (hB:∀ x∈b,isB x) (hn:n<=b.length) (hm:m<=1048576) (h:b.length<n+2 * m):∃ l t,zud (m:Int) ⟨b,n,false⟩=some (l,t)/\t.fbad=true/\l.length<=m:=by
 have key:∀ (j i f:Nat),i+j=m->j+1<f->n+2 * i<=b.length->∃ l k t,zbs (zev (m:Int)) f (⟨b,((n+2 * i:Nat):Int),false⟩,zah b n i,(i:Int))=some (l,k,t)/\t.fbad=true/\l.length<=m:=by
  intro j
  induction j with
  | zero=>intro i f hi hf hle;omega
  | succ j ih=>
    intro i f hi hf hle
    obtain ⟨f,rfl⟩:∃ q,f=q+2:=⟨f - 2,by omega⟩
    have hd:decide ((i:Int)<(m:Int))=true:=by simp;omega
    rw [show f+2=(f+1)+1 from rfl,zbs]
    simp only [zev,hd,cond_true,Bool.not_false]
    by_cases h2:n+2 * i+2<=b.length
    ·rw [zb2 hl hB h2]
     simp only [Option.bind_some]
     rw [if_pos (by simp [zah];omega),za6 (n:=(i:Int)+1) (by omega) (by omega)]
     have:=ih (i+1) (f+1) (by omega) (by omega) (by omega)
     have e1:zah b n i ++ [za9 b (n+2 * i)]=zah b n (i+1):=by simp [zah,List.range_succ]
     rw [e1]
     simpa [Nat.mul_add,Nat.add_assoc] using this
    ·rw [zce hl (by omega)]
     simp only [Option.bind_some]
     rw [if_pos (by simp [zah];omega)]
     simp only [zbs,zev,Bool.not_true,cond_false]
     refine ⟨zah b n i ++ [0],i64.wrap ((i:Int)+1),⟨b,((n+2 * i:Nat):Int),true⟩,?_,rfl,by simp [zah];omega⟩
     rw [Option.bind_some]
     dsimp only
     cases decide (i64.wrap ((i:Int)+1)<(m:Int)) <;> rfl
 unfold zud zit
 obtain ⟨l,k,t,h1,h2,h3⟩:=key m 0 BIG (by omega) (by simp only [BIG];omega) (by omega)
 simp only [Nat.mul_zero,Nat.add_zero,show zah b n 0=[] from rfl,show ((0:Nat):Int)=0 from rfl] at h1
 exact ⟨l,t,by rw [h1];rfl,h2,h3⟩
theorem zv9 {b:List Int} {n m:Nat}:zud (m:Int) ⟨b,n,true⟩=some ([],⟨b,n,true⟩):=by
 unfold zud zit
 rw [show BIG=(BIG - 1)+1 from rfl,zbs]
 simp only [zev,Bool.not_true,cond_false]
 cases decide ((0:Int)<(m:Int)) <;> rfl
theorem zdv {b:List Int} {n:Nat} (hl:b.length<=1048576) (hB:∀ x∈b,isB x) (h:n<b.length):zzy ⟨b,n,false⟩=some (b.drop (n+1),⟨b,(b.length:Int),decide (((b.length - (n+1):Nat):Int)≠b.getD n 0)⟩):=by
 have hv:=hB _ (List.getElem_mem h)
 unfold zzy yfb
 have hd:decide (((b.length:Nat):Int)<=(n:Int))=false:=by simp;omega
 simp only [cond_false,hd]
 rw [za6 (n:=(n:Int)+1) (by omega) (by omega),za6 (n:=(n:Int)+1 - 1) (by omega) (by omega),if_pos (by omega),show ((n:Int)+1 - 1).toNat=n by omega,List.getElem?_eq_getElem h]
 simp only [Option.bind_some]
 unfold yda
 dsimp only
 rw [if_pos ⟨by omega,by simp;omega,Int.le_refl _⟩]
 simp only [Option.bind_some,cond_false,zba,List.length_map,List.take_length,show ((n:Int)+1).toNat=n+1 by omega,List.length_drop]
 have e:i64.wrap b[n]=b[n]:=za6 (by have:=hv.1;omega) (by have:=hv.2;omega)
 rw [e]
 simp [List.getD,List.getElem?_eq_getElem h]
theorem zko {b:List Int} {n:Nat} {bad:Bool} (hl:b.length<=1048576) (hn:n<=b.length) (h:b.length<=n\/bad=true):zzy ⟨b,n,bad⟩=some (b.drop n,⟨b,(b.length:Int),true⟩):=by
 unfold zzy yfb
 have hb:(bif bad then some ((0:Int),(⟨b,n,true⟩:Td)) else bif decide (((b.length:Nat):Int)<=(n:Int)) then some (0,⟨b,n,true⟩) else none)=some (0,⟨b,n,true⟩):=by
  cases bad with
  | true=>rfl
  | false=>
    have hd:decide (((b.length:Nat):Int)<=(n:Int))=true:=by simp at h ⊢;omega
    simp only [cond_false,hd,cond_true]
 have key:∀ (X:Option (Int×Td)),(bif bad then some ((0:Int),(⟨b,n,true⟩:Td)) else bif decide (((b.length:Nat):Int)<=(n:Int)) then some (0,⟨b,n,true⟩) else X)=some (0,⟨b,n,true⟩):=by
  intro X
  cases bad with
  | true=>rfl
  | false=>
    have hd:decide (((b.length:Nat):Int)<=(n:Int))=true:=by simp at h ⊢;omega
    simp only [cond_false,hd,cond_true]
 dsimp only
 rw [key]
 simp only [Option.bind_some]
 unfold yda
 dsimp only
 rw [if_pos ⟨by omega,by simp;omega,Int.le_refl _⟩]
 simp
end Go.Pm
namespace Go.Pm
theorem zf0 {q:Tb} (h:zdo q=true) (hk:q.fa≠23):q.ff=0:=by
 have hk10:=(zav h).2.1
 simp only [zdo,zj9,ybc,ya6,zlz,zch] at h
 rcases hk10 with k|k|k|k|k|k|k|k|k|k
 all_goals first|exact absurd k hk|(simp [k,-List.length_eq_zero_iff] at h;omega)
def Parsed (b:List Int) (x:Option (Tb×Td)):Prop:=
 ∃ q t,x=some (q,t)/\q.sz<=1048576/\(t.fbad=false->t.fat=(b.length:Int)->zdo q=true->zam q=b)/\∀ q',zdo q'=true->zam q'=b->q=q'/\t=⟨b,b.length,false⟩
theorem Parsed.bad {b:List Int} {x:Option (Tb×Td)} {q:Tb} {t:Td} (hx:x=some (q,t)) (hq:q.sz<=1048576) (ht:t.fbad=true) (hno:∀ q',zdo q'=true->zam q'=b->False):Parsed b x:=
 ⟨q,t,hx,hq,fun h=>(by rw [ht] at h;cases h),fun q' h1 h2=>(hno q' h1 h2).elim⟩
theorem zf1 {q:Tb} {k:Int} {r:List Int} (h:zam q=k::r):q.fa=k:=by unfold zam at h;exact (List.cons.inj h).1
theorem yho {r:List Int} (h:r.length=4):∃ a b c d,r=[a,b,c,d]:=by
 match r,h with
 | [a,b,c,d],_=>exact ⟨a,b,c,d,rfl⟩
theorem zii {α:Type} {l:List α} (h:l.length=0):l=[]:=List.eq_nil_of_length_eq_zero h
theorem zjk {q:Tb} {k:Int} {r:List Int} (hk:k=1\/k=2\/k=3\/k=4) (h:zdo q=true) (hp:zam q=k::r):q=⟨k,q.fd,q.fN,[],[],0⟩/\r=wb q.fd++wb q.fN:=by
 have e:=zf1 hp
 obtain ⟨_,_,_,_,f1,f2,_⟩:=zav h
 have hw:=zf0 h (by omega)
 have hz:q.fc.length=0/\q.fe.length=0:=by
  rcases hk with rfl|rfl|rfl|rfl
  ·exact ⟨(f1 (.inl e)).2.2.1,(f1 (.inl e)).2.2.2⟩
  ·exact ⟨(f1 (.inr e)).2.2.1,(f1 (.inr e)).2.2.2⟩
  ·exact ⟨(f2 (.inl e)).2.2.1,(f2 (.inl e)).2.2.2⟩
  ·exact ⟨(f2 (.inr e)).2.2.1,(f2 (.inr e)).2.2.2⟩
 constructor
 ·cases q;simp only at e hw hz ⊢;rw [e,hw,zii hz.1,zii hz.2]
 ·unfold zam at hp
  rw [e] at hp
  rcases hk with rfl|rfl|rfl|rfl <;> simp at hp <;> exact hp.symm
theorem zeb {k:Int} {r:List Int} (hk:k=1\/k=2\/k=3\/k=4) (hl:(k::r).length<=4096) (hB:∀ x∈k::r,isB x):Parsed (k::r) (x_bi k ⟨k::r,1,false⟩):=by
 have hno:(k::r).length≠5->∀ q',zdo q'=true->zam q'=k::r->False:=by
  intro hn q' h1 h2
  have:=(zjk hk h1 h2).2
  rw [this] at hn
  simp [wb] at hn
 have hx:x_bi k ⟨k::r,1,false⟩=(x_az ⟨k::r,((1:Nat):Int),false⟩).bind fun v3=>(x_az v3.2).bind fun v5=>some (⟨k,v3.1,v5.1,[],[],0⟩,v5.2):=by
  unfold x_bi
  rcases hk with rfl|rfl|rfl|rfl <;> rfl
 rw [hx]
 by_cases h3:3<=(k::r).length
 ·rw [zb2 (by omega) hB h3]
  simp only [Option.bind_some]
  by_cases h5:5<=(k::r).length
  ·rw [zb2 (by omega) hB h5]
   refine ⟨_,_,rfl,by simp [Tb.sz],fun _ hat _=> ?_,fun q' h1 h2=> ?_⟩
   ·simp only at hat
    have hr:r.length=4:=by simp at hat;omega
    obtain ⟨a1,a2,a3,a4,rfl⟩:=yho hr
    have b1:=hB a1 (by simp);have b2:=hB a2 (by simp);have b3:=hB a3 (by simp);have b4:=hB a4 (by simp)
    unfold zam
    rcases hk with rfl|rfl|rfl|rfl <;> simp [za9,zfe b1 b2,zfe b3 b4]
   ·obtain ⟨e1,e2⟩:=zjk hk h1 h2
    subst e2
    have m1:=zdm q'.fd
    have m2:=zdm q'.fN
    constructor
    ·rw [e1];simp [za9,wb,m1,m2]
    ·simp [wb]
  ·rw [zce (by omega) (by omega)]
   exact Parsed.bad rfl (by simp [Tb.sz]) rfl (hno (by omega))
 ·rw [zce (by omega) (by omega)]
  simp only [Option.bind_some]
  rw [zck (by omega) hB]
  exact Parsed.bad rfl (by simp [Tb.sz]) rfl (hno (by omega))
end Go.Pm
namespace Go.Pm
theorem zhk (b:List Int) (n m:Nat):zah b n (m+1)=za9 b n::zah b (n+2) m:=by
 unfold zah
 rw [List.range_succ_eq_map,List.map_cons,List.map_map]
 congr 1
 apply List.map_congr_left
 intro i _
 simp only [Function.comp,Nat.succ_eq_add_one]
 congr 1;omega
theorem zbu (b:List Int) (n m:Nat):(zah b n m).length=m:=by simp [zah]
theorem ze5 {b:List Int} (hB:∀ x∈b,isB x):∀ {m n:Nat},n+2 * m<=b.length->wbs (zah b n m)=(b.drop n).take (2 * m)
 | 0,n,h=>by simp [zah,wbs]
 | m+1,n,h=>by
   have h1:n<b.length:=by omega
   have h2:n+1<b.length:=by omega
   rw [zhk,zgd,ze5 hB (m:=m) (n:=n+2) (by omega),List.drop_eq_getElem_cons h1,List.drop_eq_getElem_cons h2,show 2 * (m+1)=2 * m+1+1 by omega,List.take_succ_cons,List.take_succ_cons]
   have e:wb (za9 b n)=[b[n],b[n+1]]:=by
    unfold za9
    rw [List.getD_eq_getElem?_getD,List.getD_eq_getElem?_getD,List.getElem?_eq_getElem h1,List.getElem?_eq_getElem h2]
    exact zfe (hB _ (List.getElem_mem h1)) (hB _ (List.getElem_mem h2))
   rw [e];rfl
theorem zsk (p:List Int) (x:Int) (r:List Int):za9 (p++(wb x++r)) p.length=x:=by
 have e1:(p++(wb x++r))[p.length]? =some (x / 256):=by rw [List.getElem?_append_right (Nat.le_refl _)];simp [wb]
 have e2:(p++(wb x++r))[p.length+1]? =some (x % 256):=by rw [List.getElem?_append_right (Nat.le_succ _)];simp [wb]
 unfold za9
 rw [List.getD_eq_getElem?_getD,List.getD_eq_getElem?_getD,e1,e2]
 exact zdm x
theorem zvp {r:List Int} (h:2<=r.length):∃ a b r',r=a::b::r':=by
 match r,h with
 | a::b::r',_=>exact ⟨a,b,r',rfl⟩
theorem zc7:∀ (l p:List Int),zah (p++wbs l) p.length l.length=l
 | [],p=>rfl
 | x::l,p=>by
   rw [List.length_cons,zhk,zgd,zsk]
   have:=zc7 l (p++wb x)
   rw [List.append_assoc] at this
   have e:(p++wb x).length=p.length+2:=by simp [wb]
   rw [e] at this
   rw [this]
def zfp (b:List Int) (x:Option (Tb×Td)):Prop:=
 (∃ q t,x=some (q,t)/\q.sz<=1048576/\(t.fbad=false->t.fat=(b.length:Int)->zdo q=true->zam q=b))/\∀ q',zdo q'=true->zam q'=b->x=some (q',⟨b,b.length,false⟩)
theorem Parsed.two {b:List Int} {x:Option (Tb×Td)} (h:Parsed b x):zfp b x:=by
 obtain ⟨q,t,h1,h2,h3,h4⟩:=h
 refine ⟨⟨q,t,h1,h2,h3⟩,fun q' g1 g2=> ?_⟩
 obtain ⟨rfl,rfl⟩:=h4 q' g1 g2
 exact h1
theorem zo7 {q:Tb} {r:List Int} (h:zdo q=true) (hp:zam q=5::r):∃ x,q=⟨5,q.fd,0,[],[x],0⟩/\r=wb q.fd++wb (bif x then 65280 else 0):=by
 have e:=zf1 hp
 obtain ⟨_,_,_,_,_,_,f3,_⟩:=zav h
 have hw:=zf0 h (by omega)
 obtain ⟨g1,g2,g3⟩:=f3 e
 obtain ⟨x,hx⟩:=List.length_eq_one_iff.1 g3
 refine ⟨x,?_,?_⟩
 ·cases q;simp only at e hw g1 g2 hx ⊢;rw [e,hw,zii g2,g1,hx]
 ·unfold zam at hp
  rw [e,hx] at hp
  simp at hp;exact hp.symm
theorem zqc {r:List Int} (hl:(5::r).length<=4096) (hB:∀ x∈(5:Int)::r,isB x):zfp (5::r) (x_bi 5 ⟨5::r,1,false⟩):=by
 have hx:x_bi 5 ⟨5::r,1,false⟩=(x_az ⟨5::r,((1:Nat):Int),false⟩).bind fun v3=>(ybl v3.2).bind fun v13=>some (⟨5,v3.1,0,[],v13.1,0⟩,v13.2):=rfl
 rw [hx]
 constructor
 ·by_cases h3:3<=((5:Int)::r).length
  ·rw [zb2 (by omega) hB h3]
   simp only [Option.bind_some]
   unfold ybl
   by_cases h5:5<=((5:Int)::r).length
   ·rw [zb2 (by omega) hB h5]
    simp only [Option.bind_some,cond_false]
    by_cases hn:za9 (5::r) 3=0
    ·simp only [hn,ne_eq,not_true_eq_false,decide_false,cond_false,Option.bind_some]
     refine ⟨_,_,rfl,by simp [Tb.sz],fun _ hat _=> ?_⟩
     have hr:r.length=4:=by simp at hat;omega
     obtain ⟨a1,a2,a3,a4,rfl⟩:=yho hr
     have b1:=hB a1 (by simp);have b2:=hB a2 (by simp);have b3:=hB a3 (by simp);have b4:=hB a4 (by simp)
     have e3:=zfe b3 b4
     have hn':a3 * 256+a4=0:=by simpa [za9] using hn
     rw [hn'] at e3
     unfold zam
     simp [za9,zfe b1 b2,e3]
    ·simp only [hn,ne_eq,not_false_eq_true,decide_true,cond_true,Option.bind_some]
     refine ⟨_,_,rfl,by simp [Tb.sz],fun hb hat _=> ?_⟩
     have hr:r.length=4:=by simp at hat;omega
     obtain ⟨a1,a2,a3,a4,rfl⟩:=yho hr
     have b1:=hB a1 (by simp);have b2:=hB a2 (by simp);have b3:=hB a3 (by simp);have b4:=hB a4 (by simp)
     have e3:=zfe b3 b4
     have hn':a3 * 256+a4=65280:=by simpa [za9] using hb
     rw [hn'] at e3
     unfold zam
     simp [za9,zfe b1 b2,e3]
   ·rw [zce (by omega) (by omega)]
    exact ⟨_,_,rfl,by simp [Tb.sz],fun h=>by cases h⟩
  ·rw [zce (by omega) (by omega)]
   simp only [Option.bind_some]
   unfold ybl
   rw [zck (by omega) hB]
   exact ⟨_,_,rfl,by simp [Tb.sz],fun h=>by cases h⟩
 ·intro q' h1 h2
  obtain ⟨x,e1,e2⟩:=zo7 h1 h2
  rw [e1]
  subst e2
  generalize q'.fd=A at *
  have w1:za9 (5::(wb A++wb (bif x then 65280 else 0))) 1=A:=by simp [za9,wb,zdm]
  have w2:za9 (5::(wb A++wb (bif x then 65280 else 0))) 3=bif x then 65280 else 0:=by simp [za9,wb,zdm]
  rw [zb2 (by omega) hB (by simp [wb]),w1]
  simp only [Option.bind_some]
  unfold ybl
  rw [zb2 (by omega) hB (by simp [wb]),w2]
  cases x <;> simp [wb]
theorem zkc {q:Tb} {k:Int} {m:Nat} {r:List Int} (hk:(k=6/\m=1)\/(k=22/\m=2)) (h:zdo q=true) (hp:zam q=k::r):q=⟨k,q.fd,0,q.fc,[],0⟩/\q.fc.length=m/\r=wb q.fd++wbs q.fc:=by
 have e:=zf1 hp
 obtain ⟨_,_,_,_,_,_,_,f4,_,_,f7,_⟩:=zav h
 have hw:=zf0 h (by omega)
 have hz:q.fN=0/\q.fc.length=m/\q.fe.length=0:=by
  rcases hk with ⟨rfl,rfl⟩|⟨rfl,rfl⟩
  ·exact f4 e
  ·exact f7 e
 refine ⟨?_,hz.2.1,?_⟩
 ·obtain ⟨g1,_,g3⟩:=hz
  cases q;simp only at e hw g1 g3 ⊢;rw [e,hw,zii g3,g1]
 ·unfold zam at hp
  rw [e] at hp
  rcases hk with ⟨rfl,rfl⟩|⟨rfl,rfl⟩ <;> simp at hp <;> exact hp.symm
theorem zhc {k:Int} {m:Nat} {r:List Int} (hk:(k=6/\m=1)\/(k=22/\m=2)) (hl:(k::r).length<=4096) (hB:∀ x∈k::r,isB x):zfp (k::r) (x_bi k ⟨k::r,1,false⟩):=by
 have hx:x_bi k ⟨k::r,1,false⟩=(x_az ⟨k::r,((1:Nat):Int),false⟩).bind fun v3=>(zud (m:Int) v3.2).bind fun v15=>some (⟨k,v3.1,0,v15.1,[],0⟩,v15.2):=by
  unfold x_bi
  rcases hk with ⟨rfl,rfl⟩|⟨rfl,rfl⟩ <;> rfl
 have hm:m<=2:=by omega
 rw [hx]
 constructor
 ·by_cases h3:3<=(k::r).length
  ·rw [zb2 (by omega) hB h3]
   simp only [Option.bind_some]
   by_cases h5:3+2 * m<=(k::r).length
   ·rw [zmf (n:=3) (by omega) hB h5]
    refine ⟨_,_,rfl,by simp [Tb.sz,zbu];omega,fun _ hat _=> ?_⟩
    simp only at hat
    have e:=ze5 hB h5
    have hlen:(k::r).length=3+2 * m:=by omega
    have h6:((k::r).drop 3).take (2 * m)=(k::r).drop 3:=List.take_of_length_le (by rw [List.length_drop];omega)
    rw [h6] at e
    have hp:zam ⟨k,za9 (k::r) 1,0,zah (k::r) 3 m,[],0⟩=k::(wb (za9 (k::r) 1)++wbs (zah (k::r) 3 m)):=by
     unfold zam
     rcases hk with ⟨rfl,rfl⟩|⟨rfl,rfl⟩ <;> simp
    show zam ⟨k,za9 (k::r) 1,0,zah (k::r) 3 m,[],0⟩=_
    rw [hp,e]
    obtain ⟨a1,a2,r',rfl⟩:=zvp (r:=r) (by simp at hlen;omega)
    have b1:isB a1:=hB a1 (by simp)
    have b2:isB a2:=hB a2 (by simp)
    simp [za9,zfe b1 b2]
   ·obtain ⟨l,t,g1,g2,g3⟩:=zxz (n:=3) (m:=m) (b:=k::r) (by omega) hB h3 (by omega) (by omega)
    rw [g1]
    exact ⟨_,_,rfl,by simp [Tb.sz];omega,fun h=>by simp only at h;rw [g2] at h;cases h⟩
  ·rw [zce (by omega) (by omega)]
   simp only [Option.bind_some]
   rw [zv9]
   exact ⟨_,_,rfl,by simp [Tb.sz],fun h=>by cases h⟩
 ·intro q' h1 h2
  obtain ⟨e1,e3,e2⟩:=zkc hk h1 h2
  rw [e1]
  subst e2
  generalize q'.fd=A at *
  generalize q'.fc=W at *
  have w1:za9 (k::(wb A++wbs W)) 1=A:=by simp [za9,wb,zdm]
  have w2:zah (k::(wb A++wbs W)) 3 m=W:=by
   have:=zc7 W (k::wb A)
   rw [e3] at this
   simpa [wb] using this
  have hlen:(k::(wb A++wbs W)).length=3+2 * m:=by simp [wb,zb6,e3];omega
  rw [zb2 (by omega) hB (by omega),w1]
  simp only [Option.bind_some]
  rw [zmf (n:=3) (by omega) hB (by omega),w2,hlen]
  rfl
end Go.Pm
namespace Go.Pm
theorem zhq {b:List Int} {n:Nat} (hB:∀ x∈b,isB x):∀ x∈b.drop n,isB x:=fun x hx=>hB x (List.mem_of_mem_drop hx)
theorem zx7 {b:List Int} {n m:Nat} (hl:b.length<=4096) (hB:∀ x∈b,isB x) (h:n<b.length) (hc:((b.length - (n+1):Nat):Int)=b.getD n 0) (h2:b.length - (n+1)=2 * m):
 x_bh (m:Int) ⟨b,n,false⟩=some (zah (b.drop (n+1)) 0 m,⟨b,b.length,false⟩):=by
 unfold x_bh
 rw [zdv (by omega) hB h]
 have hd:decide (((b.length - (n+1):Nat):Int)≠b.getD n 0)=false:=by simp [hc]
 simp only [Option.bind_some,hd,cond_false,List.length_drop]
 rw [za6 (n:=2 * (m:Int)) (by omega) (by omega)]
 have hd2:decide (((b.length - (n+1):Nat):Int)≠2 * (m:Int))=false:=by simp;omega
 simp only [hd2,cond_false]
 have:=zmf (b:=b.drop (n+1)) (n:=0) (m:=m) (by simp;omega) (zhq hB) (by simp;omega)
 rw [show ((0:Nat):Int)=0 from rfl] at this
 rw [this];rfl
theorem zi6 {b:List Int} {n m:Nat} {bad:Bool} (hl:b.length<=4096) (hB:∀ x∈b,isB x) (hn:n<=b.length) (hm:m<=65535):(∃ t,x_bh (m:Int) ⟨b,n,bad⟩=some ([],t)/\t.fbad=true)\/
 (bad=false/\n<b.length/\((b.length - (n+1):Nat):Int)=b.getD n 0/\b.length - (n+1)=2 * m):=by
 by_cases h:b.length<=n\/bad=true
 ·left
  unfold x_bh
  rw [zko (by omega) hn h]
  exact ⟨_,rfl,rfl⟩
 ·have hb:bad=false:=by cases bad <;> simp_all
  subst hb
  have hlt:n<b.length:=by simp at h;omega
  by_cases hc:((b.length - (n+1):Nat):Int)=b.getD n 0
  ·by_cases h2:b.length - (n+1)=2 * m
   ·exact .inr ⟨rfl,hlt,hc,h2⟩
   ·left
    unfold x_bh
    rw [zdv (by omega) hB hlt]
    have hd:decide (((b.length - (n+1):Nat):Int)≠b.getD n 0)=false:=by simp [hc]
    simp only [Option.bind_some,hd,cond_false,List.length_drop]
    rw [za6 (n:=2 * (m:Int)) (by omega) (by omega)]
    have hd2:decide (((b.length - (n+1):Nat):Int)≠2 * (m:Int))=true:=by simp;omega
    simp only [hd2,cond_true]
    exact ⟨_,rfl,rfl⟩
  ·left
   unfold x_bh
   rw [zdv (by omega) hB hlt]
   have hd:decide (((b.length - (n+1):Nat):Int)≠b.getD n 0)=true:=by simp;exact fun h=>hc (by simpa using h)
   simp only [Option.bind_some,hd,cond_true]
   exact ⟨_,rfl,rfl⟩
theorem zf7 {b:List Int} {n:Nat} (hB:∀ x∈b,isB x) (h:n+2<=b.length):isW (za9 b n):=by
 unfold za9
 rw [List.getD_eq_getElem?_getD,List.getD_eq_getElem?_getD,List.getElem?_eq_getElem (show n<b.length by omega),List.getElem?_eq_getElem (show n+1<b.length by omega)]
 exact yd3 (hB _ (List.getElem_mem _)) (hB _ (List.getElem_mem _))
theorem zmx {q:Tb} {r:List Int} (h:zdo q=true) (hp:zam q=16::r):q=⟨16,q.fd,0,q.fc,[],0⟩/\q.fc.length<=123/\r=wb q.fd++(wb (q.fc.length:Int)++((2 * (q.fc.length:Int)) % 256::wbs q.fc)):=by
 have e:=zf1 hp
 obtain ⟨_,_,_,_,_,_,_,_,_,f6,_,_⟩:=zav h
 have hw:=zf0 h (by omega)
 obtain ⟨g1,g2,g3,g4⟩:=f6 e
 refine ⟨?_,g3,?_⟩
 ·cases q;simp only at e hw g1 g4 ⊢;rw [e,hw,zii g4,g1]
 ·unfold zam at hp
  rw [e] at hp
  simp at hp;rw [<- hp]
theorem zom {r:List Int} (h:5<=r.length):∃ a b c d e r',r=a::b::c::d::e::r':=by
 match r,h with
 | a::b::c::d::e::r',_=>exact ⟨a,b,c,d,e,r',rfl⟩
theorem zoj {r:List Int} (hl:(16::r).length<=4096) (hB:∀ x∈(16:Int)::r,isB x):zfp (16::r) (x_bi 16 ⟨16::r,1,false⟩):=by
 have hx:x_bi 16 ⟨16::r,1,false⟩=(x_az ⟨16::r,((1:Nat):Int),false⟩).bind fun v3=>(x_az v3.2).bind fun v20=>(x_bh v20.1 v20.2).bind fun v21=>some (⟨16,v3.1,0,v21.1,[],0⟩,v21.2):=rfl
 rw [hx]
 constructor
 ·have badw:∀ (n:Nat) (A:Int),n<=((16:Int)::r).length->∃ q t,((x_bh 0 ⟨16::r,(n:Int),true⟩).bind fun v21=>some ((⟨16,A,0,v21.1,[],0⟩:Tb),v21.2))=some (q,t)/\q.sz<=1048576/\(t.fbad=false->t.fat=(((16:Int)::r).length:Int)->zdo q=true->zam q=16::r):=by
   intro n A hn
   rcases zi6 (m:=0) (bad:=true) hl hB hn (by omega) with ⟨t,g1,g2⟩|⟨g,_⟩
   ·rw [show ((0:Nat):Int)=0 from rfl] at g1
    rw [g1]
    exact ⟨_,_,rfl,by simp [Tb.sz],fun h=>by simp only at h;rw [g2] at h;cases h⟩
   ·cases g
  by_cases h3:3<=((16:Int)::r).length
  ·rw [zb2 (by omega) hB h3]
   simp only [Option.bind_some]
   by_cases h5:5<=((16:Int)::r).length
   ·rw [zb2 (by omega) hB h5]
    simp only [Option.bind_some]
    have hW:=zf7 hB (n:=3) h5
    obtain ⟨m,hm⟩:∃ m:Nat,za9 (16::r) 3=m:=⟨(za9 (16::r) 3).toNat,by have:=hW.1;omega⟩
    have hm':m<=65535:=by have:=hW.2;omega
    rw [hm]
    rcases zi6 (m:=m) (bad:=false) (n:=5) hl hB h5 hm' with ⟨t,g1,g2⟩|⟨_,g1,g2,g3⟩
    ·rw [g1]
     exact ⟨_,_,rfl,by simp [Tb.sz],fun h=>by simp only at h;rw [g2] at h;cases h⟩
    ·rw [zx7 hl hB g1 g2 g3]
     refine ⟨_,_,rfl,by simp [Tb.sz,zbu];simp at hl g3;omega,fun _ _ _=> ?_⟩
     obtain ⟨a1,a2,a3,a4,a5,r',rfl⟩:=zom (r:=r) (by simp at g1;omega)
     have b1:=hB a1 (by simp);have b2:=hB a2 (by simp);have b3:=hB a3 (by simp);have b4:=hB a4 (by simp);have b5:=hB a5 (by simp)
     have hr':r'.length=2 * m:=by simpa using g3
     have e:=ze5 (b:=r') (n:=0) (m:=m) (fun x hx=>hB x (by simp [hx])) (by omega)
     rw [List.drop_zero,List.take_of_length_le (by omega)] at e
     have hm2:a3 * 256+a4=(m:Int):=by simpa [za9] using hm
     have h5':(2 * (m:Int))=a5:=by simp at g2;omega
     have h5m:(2 * (m:Int)) % 256=a5:=by rw [h5'];exact zge b5.1 b5.2
     have e2:=zfe b3 b4
     rw [hm2] at e2
     unfold zam
     simp [za9,zfe b1 b2,zbu,e,e2,h5m]
   ·rw [zce (by omega) (by omega)]
    exact badw 3 _ h3
  ·rw [zce (by omega) (by omega)]
   simp only [Option.bind_some]
   rw [zck (by omega) hB]
   exact badw 1 _ (by simp)
 ·intro q' h1 h2
  obtain ⟨e1,e3,e2⟩:=zmx h1 h2
  rw [e1]
  subst e2
  generalize q'.fd=A at *
  generalize q'.fc=W at *
  have hlen:((16:Int)::(wb A++(wb (W.length:Int)++(2 * (W.length:Int) % 256::wbs W)))).length=6+2 * W.length:=by simp [wb,zb6];omega
  have w1:za9 (16::(wb A++(wb (W.length:Int)++(2 * (W.length:Int) % 256::wbs W)))) 1=A:=by simp [za9,wb,zdm]
  have w2:za9 (16::(wb A++(wb (W.length:Int)++(2 * (W.length:Int) % 256::wbs W)))) 3=W.length:=by simp [za9,wb,zdm]
  rw [zb2 (by omega) hB (by omega),w1]
  simp only [Option.bind_some]
  rw [zb2 (by omega) hB (by omega),w2]
  simp only [Option.bind_some]
  rw [zx7 (n:=5) hl hB (by omega) (by rw [hlen];simp [wb];omega) (by omega)]
  simp only [Option.bind_some]
  have w3:=zc7 W []
  simp only [List.nil_append,List.length_nil] at w3
  simp [wb,w3]
theorem znj {q:Tb} {r:List Int} (h:zdo q=true) (hp:zam q=23::r):q=⟨23,q.fd,q.fN,q.fc,[],q.ff⟩/\q.fc.length<=121/\r=wb q.fd++(wb q.fN++(wb q.ff++(wb (q.fc.length:Int)++((2 * (q.fc.length:Int)) % 256::wbs q.fc)))):=by
 have e:=zf1 hp
 obtain ⟨_,_,_,_,_,_,_,_,_,_,_,f8⟩:=zav h
 obtain ⟨g1,g2,g3,g4,g5⟩:=f8 e
 refine ⟨?_,g4,?_⟩
 ·cases q;simp only at e g5 ⊢;rw [e,zii g5]
 ·unfold zam at hp
  rw [e] at hp
  simp at hp;rw [<- hp]
theorem zot {r:List Int} (hl:(23::r).length<=4096) (hB:∀ x∈(23:Int)::r,isB x):zfp (23::r) (x_bi 23 ⟨23::r,1,false⟩):=by
 have hx:x_bi 23 ⟨23::r,1,false⟩=(x_az ⟨23::r,((1:Nat):Int),false⟩).bind fun v3=>(x_az v3.2).bind fun v24=>(x_az v24.2).bind fun v25=>(x_az v25.2).bind fun v26=>(x_bh v26.1 v26.2).bind fun v27=>some (⟨23,v3.1,v24.1,v27.1,[],v25.1⟩,v27.2):=rfl
 rw [hx]
 constructor
 ·have badw:∀ (n:Nat) (A N U:Int),n<=((23:Int)::r).length->∃ q t,((x_bh 0 ⟨23::r,(n:Int),true⟩).bind fun v21=>some ((⟨23,A,N,v21.1,[],U⟩:Tb),v21.2))=some (q,t)/\q.sz<=1048576/\(t.fbad=false->t.fat=(((23:Int)::r).length:Int)->zdo q=true->zam q=23::r):=by
   intro n A N U hn
   rcases zi6 (m:=0) (bad:=true) hl hB hn (by omega) with ⟨t,g1,g2⟩|⟨g,_⟩
   ·rw [show ((0:Nat):Int)=0 from rfl] at g1
    rw [g1]
    exact ⟨_,_,rfl,by simp [Tb.sz],fun h=>by simp only at h;rw [g2] at h;cases h⟩
   ·cases g
  by_cases h3:3<=((23:Int)::r).length
  ·rw [zb2 (by omega) hB h3]
   simp only [Option.bind_some]
   by_cases h5:5<=((23:Int)::r).length
   ·rw [zb2 (by omega) hB h5]
    simp only [Option.bind_some]
    by_cases h7:7<=((23:Int)::r).length
    ·rw [zb2 (by omega) hB h7]
     simp only [Option.bind_some]
     by_cases h9:9<=((23:Int)::r).length
     ·rw [zb2 (by omega) hB h9]
      simp only [Option.bind_some]
      have hW:=zf7 hB (n:=7) h9
      obtain ⟨m,hm⟩:∃ m:Nat,za9 (23::r) 7=m:=⟨(za9 (23::r) 7).toNat,by have:=hW.1;omega⟩
      have hm':m<=65535:=by have:=hW.2;omega
      have hm0:za9 (23::r) (3+2+2)=m:=hm
      rw [show ((23:Int)::r).length=((23:Int)::r).length from rfl]
      simp only [show 1+2=3 from rfl,show 3+2=5 from rfl,show 5+2=7 from rfl,show 7+2=9 from rfl,hm]
      rcases zi6 (m:=m) (bad:=false) (n:=9) hl hB h9 hm' with ⟨t,g1,g2⟩|⟨_,g1,g2,g3⟩
      ·rw [g1]
       exact ⟨_,_,rfl,by simp [Tb.sz],fun h=>by simp only at h;rw [g2] at h;cases h⟩
      ·rw [zx7 hl hB g1 g2 g3]
       refine ⟨_,_,rfl,by simp [Tb.sz,zbu];simp at hl g3;omega,fun _ _ _=> ?_⟩
       obtain ⟨a1,a2,a3,a4,a5,r1,rfl⟩:=zom (r:=r) (by simp at g1;omega)
       obtain ⟨a6,a7,r2,rfl⟩:=zvp (r:=r1) (by simp at g1;omega)
       obtain ⟨a8,a9,r',rfl⟩:=zvp (r:=r2) (by simp at g1;omega)
       have b1:=hB a1 (by simp);have b2:=hB a2 (by simp);have b3:=hB a3 (by simp);have b4:=hB a4 (by simp);have b5:=hB a5 (by simp)
       have b6:=hB a6 (by simp);have b7:=hB a7 (by simp);have b8:=hB a8 (by simp);have b9:=hB a9 (by simp)
       have hr':r'.length=2 * m:=by simpa using g3
       have e:=ze5 (b:=r') (n:=0) (m:=m) (fun x hx=>hB x (by simp [hx])) (by omega)
       rw [List.drop_zero,List.take_of_length_le (by omega)] at e
       have hm2:a7 * 256+a8=(m:Int):=by simpa [za9] using hm
       have h5':(2 * (m:Int))=a9:=by simp at g2;omega
       have h5m:(2 * (m:Int)) % 256=a9:=by rw [h5'];exact zge b9.1 b9.2
       have e2:=zfe b7 b8
       rw [hm2] at e2
       unfold zam
       simp [za9,zfe b1 b2,zfe b3 b4,zfe b5 b6,zbu,e,e2,h5m]
     ·rw [zce (by omega) (by omega)]
      exact badw 7 _ _ _ h7
    ·rw [zce (by omega) (by omega)]
     simp only [Option.bind_some]
     rw [zck (by omega) hB]
     exact badw 5 _ _ _ h5
   ·rw [zce (by omega) (by omega)]
    simp only [Option.bind_some]
    rw [zck (by omega) hB]
    simp only [Option.bind_some]
    rw [zck (by omega) hB]
    exact badw 3 _ _ _ h3
  ·rw [zce (by omega) (by omega)]
   simp only [Option.bind_some]
   rw [zck (by omega) hB]
   simp only [Option.bind_some]
   rw [zck (by omega) hB]
   simp only [Option.bind_some]
   rw [zck (by omega) hB]
   exact badw 1 _ _ _ (by simp)
 ·intro q' h1 h2
  obtain ⟨e1,e3,e2⟩:=znj h1 h2
  rw [e1]
  subst e2
  generalize q'.fd=A at *
  generalize q'.fN=N at *
  generalize q'.ff=U at *
  generalize q'.fc=W at *
  have hlen:((23:Int)::(wb A++(wb N++(wb U++(wb (W.length:Int)++(2 * (W.length:Int) % 256::wbs W)))))).length=10+2 * W.length:=by simp [wb,zb6];omega
  have w1:za9 (23::(wb A++(wb N++(wb U++(wb (W.length:Int)++(2 * (W.length:Int) % 256::wbs W)))))) 1=A:=by simp [za9,wb,zdm]
  have w2:za9 (23::(wb A++(wb N++(wb U++(wb (W.length:Int)++(2 * (W.length:Int) % 256::wbs W)))))) 3=N:=by simp [za9,wb,zdm]
  have w4:za9 (23::(wb A++(wb N++(wb U++(wb (W.length:Int)++(2 * (W.length:Int) % 256::wbs W)))))) 5=U:=by simp [za9,wb,zdm]
  have w5:za9 (23::(wb A++(wb N++(wb U++(wb (W.length:Int)++(2 * (W.length:Int) % 256::wbs W)))))) 7=W.length:=by simp [za9,wb,zdm]
  rw [zb2 (by omega) hB (by omega),w1]
  simp only [Option.bind_some]
  rw [zb2 (by omega) hB (by omega),w2]
  simp only [Option.bind_some]
  rw [zb2 (by omega) hB (by omega),w4]
  simp only [Option.bind_some]
  rw [zb2 (by omega) hB (by omega),w5]
  simp only [Option.bind_some]
  rw [zx7 (n:=9) hl hB (by omega) (by rw [hlen];simp [wb];omega) (by omega)]
  simp only [Option.bind_some]
  have w3:=zc7 W []
  simp only [List.nil_append,List.length_nil] at w3
  simp [wb,w3]
end Go.Pm
namespace Go.Pm
theorem zh0 {q:Tb} {r:List Int} (h:zdo q=true) (hp:zam q=15::r):q=⟨15,q.fd,0,[],q.fe,0⟩/\q.fe.length<=1968/\r=wb q.fd++(wb (q.fe.length:Int)++(((zeh q.fe).length:Int) % 256::zeh q.fe)):=by
 have e:=zf1 hp
 obtain ⟨_,_,_,_,_,_,_,_,f5,_,_,_⟩:=zav h
 have hw:=zf0 h (by omega)
 obtain ⟨g1,g2,g3,g4⟩:=f5 e
 refine ⟨?_,g4,?_⟩
 ·cases q;simp only at e hw g1 g2 ⊢;rw [e,hw,zii g2,g1]
 ·unfold zam at hp
  rw [e] at hp
  simp at hp;rw [<- hp]
theorem zrg {b:List Int} {n:Nat} {bad:Bool} {m:Int} (hl:b.length<=4096) (hB:∀ x∈b,isB x) (hn:n<=b.length):(∃ l t,x_bg m ⟨b,n,bad⟩=some (l,t)/\t.fbad=true/\l.length<=8 * b.length)\/
 (bad=false/\n<b.length/\((b.length - (n+1):Nat):Int)=b.getD n 0/\okU (b.drop (n+1)) m/\x_bg m ⟨b,n,bad⟩=some (zb5 (b.drop (n+1)) m.toNat,⟨b,b.length,false⟩)):=by
 have short:∀ (c:List Int),c.length<=b.length->(if okU c m then(zb5 c m.toNat,true) else([],false)).1.length<=8 * b.length:=by
  intro c hc
  by_cases h:okU c m
  ·rw [if_pos h];have:=h.1;have:=h.2.1;simp [zb5];omega
  ·rw [if_neg h];simp
 by_cases h:b.length<=n\/bad=true
 ·left
  unfold x_bg
  rw [zko (by omega) hn h]
  simp only [Option.bind_some]
  rw [yi7 (by simp;omega) (zhq hB)]
  simp only [Option.bind_some,cond_true]
  exact ⟨_,_,rfl,rfl,short _ (by simp)⟩
 ·have hb:bad=false:=by cases bad <;> simp_all
  subst hb
  have hlt:n<b.length:=by simp at h;omega
  unfold x_bg
  rw [zdv (by omega) hB hlt]
  simp only [Option.bind_some]
  rw [yi7 (by simp;omega) (zhq hB)]
  simp only [Option.bind_some]
  by_cases hc:((b.length - (n+1):Nat):Int)=b.getD n 0
  ·have hd:decide (((b.length - (n+1):Nat):Int)≠b.getD n 0)=false:=by simp [hc]
   simp only [hd,cond_false]
   by_cases ho:okU (b.drop (n+1)) m
   ·right
    rw [if_pos ho]
    exact ⟨trivial,hlt,hc,ho,rfl⟩
   ·left
    rw [if_neg ho]
    exact ⟨_,_,rfl,rfl,by simp⟩
  ·left
   have hd:decide (((b.length - (n+1):Nat):Int)≠b.getD n 0)=true:=by simp;exact fun h=>hc (by simpa using h)
   simp only [hd,cond_true]
   exact ⟨_,_,rfl,rfl,short _ (by simp)⟩
theorem zn3 {r:List Int} (hl:(15::r).length<=4096) (hB:∀ x∈(15:Int)::r,isB x):zfp (15::r) (x_bi 15 ⟨15::r,1,false⟩):=by
 have hx:x_bi 15 ⟨15::r,1,false⟩=(x_az ⟨15::r,((1:Nat):Int),false⟩).bind fun v3=>(x_az v3.2).bind fun v17=>(x_bg v17.1 v17.2).bind fun v18=>some (⟨15,v3.1,0,[],v18.1,0⟩,v18.2):=rfl
 rw [hx]
 constructor
 ·have badw:∀ (n:Nat) (A:Int),n<=((15:Int)::r).length->∃ q t,((x_bg 0 ⟨15::r,(n:Int),true⟩).bind fun v21=>some ((⟨15,A,0,[],v21.1,0⟩:Tb),v21.2))=some (q,t)/\q.sz<=1048576/\(t.fbad=false->t.fat=(((15:Int)::r).length:Int)->zdo q=true->zam q=15::r):=by
   intro n A hn
   rcases zrg (m:=0) (bad:=true) hl hB hn with ⟨l,t,g1,g2,g3⟩|⟨g,_⟩
   ·rw [g1]
    exact ⟨_,_,rfl,by simp [Tb.sz];omega,fun h=>by simp only at h;rw [g2] at h;cases h⟩
   ·cases g
  by_cases h3:3<=((15:Int)::r).length
  ·rw [zb2 (by omega) hB h3]
   simp only [Option.bind_some]
   by_cases h5:5<=((15:Int)::r).length
   ·rw [zb2 (by omega) hB h5]
    simp only [Option.bind_some]
    have hW:=zf7 hB (n:=3) h5
    rcases zrg (m:=za9 (15::r) (1+2)) (bad:=false) (n:=5) hl hB h5 with ⟨l,t,g1,g2,g3⟩|⟨_,g1,g2,g3,g4⟩
    ·rw [g1]
     exact ⟨_,_,rfl,by simp [Tb.sz];omega,fun h=>by simp only at h;rw [g2] at h;cases h⟩
    ·rw [g4]
     have h0:=g3.1;have h1:=g3.2.1
     refine ⟨_,_,rfl,?_,fun _ _ _=> ?_⟩
     ·simp [Tb.sz,zb5] at h0 h1 ⊢;simp at hl;omega
     obtain ⟨a1,a2,a3,a4,a5,r',rfl⟩:=zom (r:=r) (by simp at g1;omega)
     have b1:=hB a1 (by simp);have b2:=hB a2 (by simp);have b3:=hB a3 (by simp);have b4:=hB a4 (by simp);have b5:=hB a5 (by simp)
     have hBr:∀ x∈r',isB x:=fun x hx=>hB x (by simp [hx])
     have w:za9 (15::a1::a2::a3::a4::a5::r') (1+2)=a3 * 256+a4:=by simp [za9]
     rw [w] at g3 h0 h1 ⊢
     have hd:(15::a1::a2::a3::a4::a5::r').drop (5+1)=r':=rfl
     rw [hd] at g3 h1 ⊢
     have hp:=zqm hBr g3
     have hlen:(zb5 r' (a3 * 256+a4).toNat).length=(a3 * 256+a4).toNat:=by simp [zb5]
     have hL:(((zb5 r' (a3 * 256+a4).toNat).length:Nat):Int)=a3 * 256+a4:=by rw [hlen];omega
     have h5:((r'.length:Nat):Int)=a5:=by simp at g2;omega
     have h5m:((r'.length:Nat):Int) % 256=a5:=by rw [h5];exact zge b5.1 b5.2
     unfold zam
     simp only [Int.reduceEq,if_false,or_self,if_true,hp,hL,h5m,zfe b3 b4]
     simp [za9,zfe b1 b2]
   ·rw [zce (by omega) (by omega)]
    exact badw 3 _ h3
  ·rw [zce (by omega) (by omega)]
   simp only [Option.bind_some]
   rw [zck (by omega) hB]
   exact badw 1 _ (by simp)
 ·intro q' h1 h2
  obtain ⟨e1,e3,e2⟩:=zh0 h1 h2
  rw [e1]
  subst e2
  generalize q'.fd=A at *
  generalize q'.fe=W at *
  have hpl:=zbr W
  have hlen:((15:Int)::(wb A++(wb (W.length:Int)++(((zeh W).length:Int) % 256::zeh W)))).length=6+(zeh W).length:=by simp [wb];omega
  have w1:za9 (15::(wb A++(wb (W.length:Int)++(((zeh W).length:Int) % 256::zeh W)))) 1=A:=by simp [za9,wb,zdm]
  have w2:za9 (15::(wb A++(wb (W.length:Int)++(((zeh W).length:Int) % 256::zeh W)))) 3=W.length:=by simp [za9,wb,zdm]
  rw [zb2 (by omega) hB (by omega),w1]
  simp only [Option.bind_some]
  rw [zb2 (by omega) hB (by omega),w2]
  simp only [Option.bind_some]
  have hd:((15:Int)::(wb A++(wb (W.length:Int)++(((zeh W).length:Int) % 256::zeh W)))).drop (5+1)=zeh W:=by simp [wb]
  have ho:=zqr W
  have hb:=zio W
  unfold x_bg
  rw [zdv (n:=5) (by omega) hB (by omega),hd]
  simp only [Option.bind_some]
  rw [yi7 (by omega) (zqz W),if_pos ho]
  have hc:decide (((((15:Int)::(wb A++(wb (W.length:Int)++(((zeh W).length:Int) % 256::zeh W)))).length - (5+1):Nat):Int)≠((15:Int)::(wb A++(wb (W.length:Int)++(((zeh W).length:Int) % 256::zeh W)))).getD 5 0)=false:=by
   rw [hlen];simp [wb];omega
  simp only [Option.bind_some,hc,cond_false,zba,hb]
  rfl
def zjx (b:List Int) (x:Option (Tb×Int)):Prop:=∃ q c,x=some (q,c)/\((c=1/\(b=[]\/∃ k r,b=k::r/\zj9 k=false))\/((∃ k r,b=k::r/\zj9 k=true)/\((c=0/\zdo q=true/\zam q=b)\/(c=3/\∀ q',zdo q'=true->zam q'≠b))))
theorem zr3 {k:Int} (h:zj9 k=true):k=1\/k=2\/k=3\/k=4\/k=5\/k=6\/k=15\/k=16\/k=22\/k=23:=by
 simp [zj9,zch] at h;omega
theorem zt4 {k:Int} {r:List Int} (hk:zj9 k=true) (hl:(k::r).length<=4096) (hB:∀ x∈k::r,isB x):zfp (k::r) (x_bi k ⟨k::r,1,false⟩):=by
 rcases zr3 hk with h|h|h|h|h|h|h|h|h|h
 ·exact (zeb (.inl h) hl hB).two
 ·exact (zeb (.inr (.inl h)) hl hB).two
 ·exact (zeb (.inr (.inr (.inl h))) hl hB).two
 ·exact (zeb (.inr (.inr (.inr h))) hl hB).two
 ·subst h;exact zqc hl hB
 ·exact zhc (.inl ⟨h,rfl⟩) hl hB
 ·subst h;exact zn3 hl hB
 ·subst h;exact zoj hl hB
 ·exact zhc (.inr ⟨h,rfl⟩) hl hB
 ·subst h;exact zot hl hB
theorem zr2 {b:List Int} (hl:b.length<=4096) (hB:∀ x∈b,isB x):zjx b (ycj b):=by
 cases b with
 | nil=>exact ⟨_,_,rfl,.inl ⟨rfl,.inl rfl⟩⟩
 | cons k r=>
   have hk0:=hB k (by simp)
   have hd:decide (((((k::r).length:Nat):Int))=0)=false:=by simp;omega
   unfold ycj
   rw [hd]
   simp only [cond_false,show (0:Int).toNat=0 from rfl,List.getElem?_cons_zero,Option.bind_some]
   rw [za6 (n:=k) (by have:=hk0.1;omega) (by have:=hk0.2;omega),yiq,Option.bind_some]
   cases hk:zj9 k with
   | false=>exact ⟨_,_,rfl,.inl ⟨rfl,.inr ⟨k,r,rfl,hk⟩⟩⟩
   | true=>
     simp only [Bool.not_true,cond_false]
     obtain ⟨⟨q,t,h1,h2,h3⟩,h4⟩:=zt4 hk hl hB
     rw [h1]
     simp only [Option.bind_some]
     have no3:(t.fbad=true\/t.fat≠(((k::r).length:Nat):Int)\/zdo q=false)->∀ q',zdo q'=true->zam q'≠k::r:=by
      intro hh q' g1 g2
      have:=h4 q' g1 g2
      rw [h1] at this
      simp only [Option.some.injEq,Prod.mk.injEq] at this
      obtain ⟨rfl,rfl⟩:=this
      rcases hh with hh|hh|hh
      ·cases hh
      ·exact hh rfl
      ·rw [g1] at hh;cases hh
     cases hb:t.fbad with
     | true=>exact ⟨_,_,rfl,.inr ⟨⟨k,r,rfl,hk⟩,.inr ⟨rfl,no3 (.inl hb)⟩⟩⟩
     | false=>
       simp only [cond_false]
       by_cases hat:t.fat=(((k::r).length:Nat):Int)
       ·have hd2:decide (t.fat≠(((k::r).length:Nat):Int))=false:=by simp [hat]
        rw [hd2]
        simp only [cond_false]
        rw [ykp q h2,Option.bind_some]
        cases hr:zdo q with
        | false=>exact ⟨_,_,rfl,.inr ⟨⟨k,r,rfl,hk⟩,.inr ⟨rfl,no3 (.inr (.inr hr))⟩⟩⟩
        | true=>exact ⟨_,_,rfl,.inr ⟨⟨k,r,rfl,hk⟩,.inl ⟨rfl,hr,h3 hb hat hr⟩⟩⟩
       ·have hd2:decide (t.fat≠(((k::r).length:Nat):Int))=true:=by simp;exact fun h=>hat (by simpa using h)
        rw [hd2]
        exact ⟨_,_,rfl,.inr ⟨⟨k,r,rfl,hk⟩,.inr ⟨rfl,no3 (.inr (.inl hat))⟩⟩⟩
end Go.Pm
namespace Go.Pm
theorem ylj {α:Type} [DecidableEq α] {β γ:Type} {a c:List α} (hl:a.length<=1048576) {body:Int->α->Unit->Option (Unit⊕(Int⊕Unit))} {last:Unit->Option (Int⊕Unit)} (hlast:last ()=some (.inr ()))
 (hb:∀ k x,body k x ()=(c[k.toNat]?).bind fun v=>(bif !decide (x=v) then some (.inr (.inl k)) else some (.inl ()))):
 (bif decide (((a.length:Nat):Int)≠((c.length:Nat):Int)) then some false else(if a.length<=9223372036854775806 then zbl body last a 0 () else none).bind (zoh (fun _=>some false) (fun _=>some true)))=some (decide (a=c)):=by
 by_cases he:a.length=c.length
 ·have h0:decide (((a.length:Nat):Int)≠((c.length:Nat):Int))=false:=by simp [he]
  rw [h0,cond_false,ykh (fun d x=> !decide (some x=c[d.length]?)) (by omega) hlast (fun d x t h=> ?_)]
  ·have key:∀ (t d:List α),d++t=a->d=c.take d.length->(anyP (fun d x=> !decide (some x=c[d.length]?)) d t=false↔t=c.drop d.length):=by
    intro t
    induction t with
    | nil=>intro d h _;simp [anyP];have:d=a:=by simpa using h
           subst this;simp [he]
    | cons x t ih=>
      intro d h hd
      have hlt:d.length<c.length:=by rw [<- he,<- h];simp
      simp only [anyP,Bool.or_eq_false_iff]
      rw [List.drop_eq_getElem_cons hlt,List.getElem?_eq_getElem hlt]
      by_cases hx:x=c[d.length]
      ·have:=ih (d ++ [x]) (by simpa using h) (by rw [List.length_append,List.length_singleton,List.take_add_one,List.getElem?_eq_getElem hlt,<- hd,hx];rfl)
       simp only [hx,decide_true,Bool.not_true,true_and,List.cons.injEq]
       rw [<- hx,this];simp
      ·exact ⟨fun h=>by simp [hx] at h,fun h=>absurd (List.cons.inj h).1 hx⟩
   have:=key a [] rfl (by simp)
   simp only [List.length_nil,List.drop_zero] at this
   by_cases hac:a=c
   ·rw [if_neg (by rw [this.2 hac];simp)];simp [hac]
   ·have hp:anyP (fun d x=> !decide (some x=c[d.length]?)) [] a=true:=by
     cases h:anyP (fun d x=> !decide (some x=c[d.length]?)) [] a
     ·exact absurd (this.1 h) hac
     ·rfl
    rw [if_pos hp];simp [hac]
  ·have hlt:d.length<c.length:=by rw [<- he,<- h];simp
   refine ⟨((d.length:Nat):Int),?_⟩
   rw [hb,zba,List.getElem?_eq_getElem hlt,Option.bind_some]
   by_cases hx:x=c[d.length] <;> simp [hx]
 ·have h0:decide (((a.length:Nat):Int)≠((c.length:Nat):Int))=true:=by simp;omega
  rw [h0,cond_true]
  have:¬ a=c:=fun e=>he (by rw [e])
  simp [this]
theorem yti (a b:List Int) (h:a.length<=1048576):zt9 a b=some (decide (a=b)):=by
 rw [zt9];unfold zqf
 exact ylj (β:=Unit) (γ:=Unit) h rfl (fun k x=>by rw [zv4];simp only [ne_eq,decide_not])
theorem yjs (a b:List Int) (h:a.length<=1048576):zza a b=some (decide (a=b)):=by
 rw [zza];unfold zq7
 exact ylj (β:=Unit) (γ:=Unit) h rfl (fun k x=>by rw [zui];simp only [ne_eq,decide_not])
def zl3 (q:Tb) (b:List Int):Option (Tb×Int):=
 (zro q).bind fun(v17:Bool)=>(bif !v17 then(some ((⟨0,0,0,[],[],0⟩:Tb),3)) else((zs6 q).bind fun(v19:List Int)=>((zt9 v19 b).bind fun(v20:Bool)=>(bif !v20 then(some ((⟨0,0,0,[],[],0⟩:Tb),3)) else(some (q,0))))))
theorem zk8 {q:Tb} (h:zdo q=true):(zam q).length<=300:=by
 have hs:=zc5 h
 have hp:=zbr q.fe
 unfold zam
 simp only [List.length_cons,List.length_append]
 have hw:∀ n,(wb n).length=2:=fun _=>rfl
 have hws:=zb6 q.fc
 split
 ·simp [hw]
 ·split
  ·rw [hws];simp [hw];omega
  ·split
   ·simp [hw,hp];omega
   ·split
    ·simp [hw,hws];omega
    ·split
     ·simp [hw,hws];omega
     ·simp [hw]
theorem zec {q:Tb} {k:Int} {r:List Int} (hq:q.sz<=1048576) (hk:zj9 k=true) (hc:∀ q',zdo q'=true->zam q'=k::r->q=q'):zjx (k::r) (zl3 q (k::r)):=by
 unfold zl3
 rw [ykk q hq,Option.bind_some]
 cases hr:zdo q with
 | false=>exact ⟨_,_,rfl,.inr ⟨⟨k,r,rfl,hk⟩,.inr ⟨rfl,fun q' g1 g2=>by have:=hc q' g1 g2;subst this;rw [g1] at hr;cases hr⟩⟩⟩
 | true=>
   rw [yjt hq,if_pos hr]
   simp only [Bool.not_true,cond_false,Option.bind_some]
   rw [yti _ _ (by have:=zk8 hr;omega),Option.bind_some]
   by_cases he:zam q=k::r
   ·simp only [he,decide_true,Bool.not_true,cond_false]
    exact ⟨_,_,rfl,.inr ⟨⟨k,r,rfl,hk⟩,.inl ⟨rfl,hr,he⟩⟩⟩
   ·simp only [he,decide_false,Bool.not_false,cond_true]
    exact ⟨_,_,rfl,.inr ⟨⟨k,r,rfl,hk⟩,.inr ⟨rfl,fun q' g1 g2=>by have:=hc q' g1 g2;subst this;exact he g2⟩⟩⟩
theorem zhr {b:List Int} {n:Nat} (hl:b.length<=4096) (hB:∀ x∈b,isB x) (hn:n<=4096):yaq b (n:Int)=some (zah b n ((b.length - n) / 2)):=by
 unfold yaq zq1
 have key:∀ (j i f:Nat),i+j=(b.length - n) / 2->j<f->zbs (zma b (n:Int)) f (zah b n i,((n+2 * i:Nat):Int))=some (zah b n ((b.length - n) / 2),((n+2 * ((b.length - n) / 2):Nat):Int)):=by
  intro j
  induction j with
  | zero=>
    intro i f hi hf
    obtain ⟨f,rfl⟩:∃ q,f=q+1:=⟨f - 1,by omega⟩
    have:i=(b.length - n) / 2:=by omega
    subst this
    rw [zbs,zma]
    dsimp only
    rw [za6 (n:=((n+2 * ((b.length - n) / 2):Nat):Int)+1) (by omega) (by omega)]
    have hd:decide (((n+2 * ((b.length - n) / 2):Nat):Int)+1<((b.length:Nat):Int))=false:=by simp;omega
    rw [hd];rfl
  | succ j ih=>
    intro i f hi hf
    obtain ⟨f,rfl⟩:∃ q,f=q+1:=⟨f - 1,by omega⟩
    rw [zbs,zma]
    dsimp only
    rw [za6 (n:=((n+2 * i:Nat):Int)+1) (by omega) (by omega)]
    have hd:decide (((n+2 * i:Nat):Int)+1<((b.length:Nat):Int))=true:=by simp;omega
    rw [hd,cond_true,zkp (by omega) hB (by omega)]
    simp only [Option.bind_some]
    rw [if_pos (by simp [zah];omega),za6 (n:=((n+2 * i:Nat):Int)+2) (by omega) (by omega)]
    have:=ih (i+1) f (by omega) (by omega)
    have e1:zah b n i ++ [za9 b (n+2 * i)]=zah b n (i+1):=by simp [zah,List.range_succ]
    have e2:((n+2 * i:Nat):Int)+2=((n+2 * (i+1):Nat):Int):=by push_cast;omega
    rw [e1,e2]
    exact this
 have:=key ((b.length - n) / 2) 0 BIG (by omega) (by simp only [BIG];omega)
 simp only [Nat.mul_zero,Nat.add_zero,show zah b n 0=[] from rfl] at this
 rw [this];rfl
theorem zgs {b:List Int} (n:Nat) (hl:b.length<=4096) (hB:∀ x∈b,isB x):∃ v ok,zwm b (n:Int)=some (v,ok)/\isW v/\(n+2<=b.length->v=za9 b n):=by
 by_cases h:n+2<=b.length
 ·exact ⟨_,_,zkp (by omega) hB h,zf7 hB h,fun _=>rfl⟩
 ·exact ⟨_,_,zsq (by omega) (by omega),⟨by omega,by omega⟩,fun g=>absurd g h⟩
theorem zxk {b:List Int} (hl:b.length<=4096) (hB:∀ x∈b,isB x):zjx b (ybx b):=by
 cases b with
 | nil=>exact ⟨_,_,rfl,.inl ⟨rfl,.inl rfl⟩⟩
 | cons k r=>
   have hk0:=hB k (by simp)
   have hd:decide (((((k::r).length:Nat):Int))=0)=false:=by simp;omega
   unfold ybx
   rw [hd]
   simp only [cond_false,show (0:Int).toNat=0 from rfl,List.getElem?_cons_zero,Option.bind_some]
   rw [za6 (n:=k) (by have:=hk0.1;omega) (by have:=hk0.2;omega),yli,Option.bind_some]
   cases hk:zj9 k with
   | false=>exact ⟨_,_,rfl,.inl ⟨rfl,.inr ⟨k,r,rfl,hk⟩⟩⟩
   | true=>
     simp only [Bool.not_true,cond_false]
     obtain ⟨A,oa,hA,wA,eA⟩:=zgs 1 hl hB
     obtain ⟨N,on,hN,wN,eN⟩:=zgs 3 hl hB
     rw [show ((1:Nat):Int)=1 from rfl] at hA
     rw [show ((3:Nat):Int)=3 from rfl] at hN
     rw [hA,hN]
     simp only [Option.bind_some]
     have read:∀ (hkk:k=1\/k=2\/k=3\/k=4),zjx (k::r) (zl3 ⟨k,A,N,[],[],0⟩ (k::r)):=by
      intro hkk
      refine zec (by simp [Tb.sz]) hk fun q' h1 h2=> ?_
      obtain ⟨e1,e2⟩:=zjk hkk h1 h2
      subst e2
      rw [e1,eA (by simp [wb]),eN (by simp [wb])]
      simp [za9,wb,zdm]
     have words:∀ m,((k=6/\m=1)\/(k=22/\m=2))->zjx (k::r) (zl3 ⟨k,A,0,zah (k::r) 3 (((k::r).length - 3) / 2),[],0⟩ (k::r)):=by
      intro m hkk
      refine zec (by simp only [Tb.sz,zbu,List.length_nil];omega) hk fun q' h1 h2=> ?_
      obtain ⟨e1,e3,e2⟩:=zkc hkk h1 h2
      rw [e1]
      subst e2
      generalize q'.fd=X at *
      generalize q'.fc=W at *
      have w2:zah (k::(wb X++wbs W)) 3 W.length=W:=by
       have:=zc7 W (k::wb X)
       simpa [wb] using this
      have hlen:((k::(wb X++wbs W)).length - 3) / 2=W.length:=by simp [wb,zb6]
      rw [eA (by simp [wb]),hlen,w2]
      simp [za9,wb,zdm]
     rcases zr3 hk with h|h|h|h|h|h|h|h|h|h
     ·have:=read (.inl h);subst h;exact this
     ·have:=read (.inr (.inl h));subst h;exact this
     ·have:=read (.inr (.inr (.inl h)));subst h;exact this
     ·have:=read (.inr (.inr (.inr h)));subst h;exact this
     ·subst h
      show zjx (5::r) (zl3 ⟨5,A,0,[],[decide (N≠0)],0⟩ (5::r))
      refine zec (by simp [Tb.sz]) hk fun q' h1 h2=> ?_
      obtain ⟨x,e1,e2⟩:=zo7 h1 h2
      subst e2
      rw [e1,eA (by simp [wb]),eN (by simp [wb])]
      cases x <;> simp [za9,wb,zdm]
     ·have g:=zhr (n:=3) hl hB (by omega)
      rw [show ((3:Nat):Int)=3 from rfl] at g
      have:=words 1 (.inl ⟨h,rfl⟩)
      subst h
      simp only [Int.reduceEq,decide_false,decide_true,cond_false,cond_true,g,Option.bind_some]
      exact this
     ·subst h
      simp only [Int.reduceEq,decide_false,decide_true,cond_false,cond_true]
      by_cases h6:6<(((15:Int)::r).length)
      ·have hd6:decide ((6:Int)<((((15:Int)::r).length:Nat):Int))=true:=by simp at h6 ⊢;omega
       rw [hd6,cond_true,if_pos ⟨by omega,by simp at h6 ⊢;omega,Int.le_refl _⟩]
       rw [show ((((15:Int)::r).map (V.int .u8)).length:Int).toNat=((15:Int)::r).length by simp,List.take_length,show (6:Int).toNat=6 from rfl]
       obtain ⟨u,g1,g2,g3⟩:=yob (b:=((15:Int)::r).drop 6) (n:=N) (by rw [List.length_drop];omega) (zhq hB)
       rw [g1]
       simp only [Option.bind_some]
       show zjx (15::r) (zl3 ⟨15,A,0,[],u.1,0⟩ (15::r))
       refine zec (by rw [List.length_drop] at g2;simp only [Tb.sz,List.length_nil];omega) hk fun q' h1 h2=> ?_
       obtain ⟨e1,e3,e2⟩:=zh0 h1 h2
       have hn1:1<=q'.fe.length:=by
        obtain ⟨_,_,_,_,_,_,_,_,f5,_⟩:=zav h1
        exact (f5 (by rw [e1])).2.2.1
       rw [e1]
       subst e2
       generalize q'.fd=X at *
       generalize q'.fe=W at *
       have hdd:((15:Int)::(wb X++(wb (W.length:Int)++(((zeh W).length:Int) % 256::zeh W)))).drop 6=zeh W:=by simp [wb]
       have hNN:N=(W.length:Int):=by rw [eN (by simp [wb])];simp [za9,wb,zdm]
       rw [hdd,hNN] at g3
       have e:=g3 (zqr W) (by omega)
       rw [zba,zio] at e
       rw [e,eA (by simp [wb])]
       simp [za9,wb,zdm]
      ·have hd6:decide ((6:Int)<((((15:Int)::r).length:Nat):Int))=false:=by simp at h6 ⊢;omega
       rw [hd6,cond_false]
       show zjx (15::r) (zl3 ⟨15,A,0,[],[],0⟩ (15::r))
       refine zec (by simp [Tb.sz]) hk fun q' h1 h2=> ?_
       obtain ⟨e1,e3,e2⟩:=zh0 h1 h2
       have hn1:1<=q'.fe.length:=by
        obtain ⟨_,_,_,_,_,_,_,_,f5,_⟩:=zav h1
        exact (f5 (by rw [e1])).2.2.1
       exfalso
       have:=zbr q'.fe
       have hL:r.length=5+(zeh q'.fe).length:=by rw [e2];simp [wb];omega
       simp at h6;omega
     ·subst h
      have g:=zhr (n:=6) hl hB (by omega)
      rw [show ((6:Nat):Int)=6 from rfl] at g
      simp only [Int.reduceEq,decide_false,decide_true,cond_false,cond_true,g,Option.bind_some]
      show zjx (16::r) (zl3 ⟨16,A,0,zah (16::r) 6 ((((16:Int)::r).length - 6) / 2),[],0⟩ (16::r))
      refine zec (by simp only [Tb.sz,zbu,List.length_nil];omega) hk fun q' h1 h2=> ?_
      obtain ⟨e1,e3,e2⟩:=zmx h1 h2
      rw [e1]
      subst e2
      generalize q'.fd=X at *
      generalize q'.fc=W at *
      have w2:zah (16::(wb X++(wb (W.length:Int)++(2 * (W.length:Int) % 256::wbs W)))) 6 W.length=W:=by
       have:=zc7 W (16::(wb X++(wb (W.length:Int) ++ [2 * (W.length:Int) % 256])))
       simpa [wb] using this
      have hlen:(((16:Int)::(wb X++(wb (W.length:Int)++(2 * (W.length:Int) % 256::wbs W)))).length - 6) / 2=W.length:=by simp [wb,zb6]
      rw [eA (by simp [wb]),hlen,w2]
      simp [za9,wb,zdm]
     ·have g:=zhr (n:=3) hl hB (by omega)
      rw [show ((3:Nat):Int)=3 from rfl] at g
      have:=words 2 (.inr ⟨h,rfl⟩)
      subst h
      simp only [Int.reduceEq,decide_false,decide_true,cond_false,cond_true,g,Option.bind_some]
      exact this
     ·subst h
      have g:=zhr (n:=10) hl hB (by omega)
      rw [show ((10:Nat):Int)=10 from rfl] at g
      obtain ⟨U,ou,hU,wU,eU⟩:=zgs 5 hl hB
      rw [show ((5:Nat):Int)=5 from rfl] at hU
      simp only [Int.reduceEq,decide_false,decide_true,cond_false,cond_true,g,hU,Option.bind_some]
      show zjx (23::r) (zl3 ⟨23,A,N,zah (23::r) 10 ((((23:Int)::r).length - 10) / 2),[],U⟩ (23::r))
      refine zec (by simp only [Tb.sz,zbu,List.length_nil];omega) hk fun q' h1 h2=> ?_
      obtain ⟨e1,e3,e2⟩:=znj h1 h2
      rw [e1]
      subst e2
      generalize q'.fd=X at *
      generalize q'.fN=Y at *
      generalize q'.ff=Z at *
      generalize q'.fc=W at *
      have w2:zah (23::(wb X++(wb Y++(wb Z++(wb (W.length:Int)++(2 * (W.length:Int) % 256::wbs W)))))) 10 W.length=W:=by
       have:=zc7 W (23::(wb X++(wb Y++(wb Z++(wb (W.length:Int) ++ [2 * (W.length:Int) % 256])))))
       simpa [wb] using this
      have hlen:(((23:Int)::(wb X++(wb Y++(wb Z++(wb (W.length:Int)++(2 * (W.length:Int) % 256::wbs W)))))).length - 10) / 2=W.length:=by simp [wb,zb6]
      rw [eA (by simp [wb]),eN (by simp [wb]),eU (by simp [wb]),hlen,w2]
      simp [za9,wb,zdm]
end Go.Pm
namespace Go.Pm
open IntKind (i64)
def Cur (c:Ta):Prop:=0<=c.fi/\c.fb.length<=1048576
def Dr {α:Type} (x:Option (α×Ta)) (P:α->Prop):Prop:=∃ a c,x=some (a,c)/\P a/\Cur c
theorem Dr.bind {α β:Type} {x:Option (α×Ta)} {P:α->Prop} {f:α×Ta->Option (β×Ta)} {Q:β->Prop} (h:Dr x P) (hf:∀ a c,P a->Cur c->Dr (f (a,c)) Q):Dr (x.bind f) Q:=by
 obtain ⟨a,c,rfl,hp,hc⟩:=h
 exact hf a c hp hc
theorem Dr.pure {α:Type} {a:α} {c:Ta} {P:α->Prop} (h:P a) (hc:Cur c):Dr (some (a,c)) P:=⟨a,c,rfl,h,hc⟩
theorem Dr.mono {α:Type} {x:Option (α×Ta)} {P Q:α->Prop} (h:Dr x P) (hpq:∀ a,P a->Q a):Dr x Q:=by
 obtain ⟨a,c,e,hp,hc⟩:=h
 exact ⟨a,c,e,hpq a hp,hc⟩
theorem zy8 (x:Int):0<=i64.wrap ((BitVec.ofInt IntKind.i64.bits x &&& BitVec.ofInt IntKind.i64.bits 255).toNat:Nat)/\i64.wrap ((BitVec.ofInt IntKind.i64.bits x &&& BitVec.ofInt IntKind.i64.bits 255).toNat:Nat)<=255:=by
 rw [BitVec.toNat_and,zd8 (n:=255) (by omega) (by omega)]
 have:(BitVec.ofInt IntKind.i64.bits x).toNat &&& (255:Int).toNat<=255:=Nat.and_le_right
 rw [za6 (by omega) (by omega)]
 omega
theorem znc {c:Ta} (hc:Cur c):Dr (zyv c) (fun v=>0<=v/\v<=255):=by
 obtain ⟨h1,h2⟩:=hc
 unfold zyv
 by_cases h:c.fi<((c.fb.length:Nat):Int)
 ·simp only [h,decide_true,cond_true]
  rw [if_pos h1,List.getElem?_eq_getElem (by omega)]
  simp only [Option.bind_some]
  exact Dr.pure (zy8 _) ⟨by rw [za6 (by omega) (by omega)];show 0<=c.fi+1;omega,h2⟩
 ·simp only [h,decide_false,cond_false]
  exact Dr.pure (zy8 _) ⟨h1,h2⟩
theorem zvz {a n:Int} (ha:0<=a) (hn:0<n):0<=a.tmod n/\a.tmod n<n:=by
 rw [Int.tmod_eq_emod_of_nonneg ha]
 exact ⟨Int.emod_nonneg _ (by omega),Int.emod_lt_of_pos _ hn⟩
theorem zbp {c:Ta} {n:Int} (hc:Cur c) (hn:0<n):Dr (zjz n c) (fun v=>0<=v/\v<n):=by
 unfold zjz
 have h0:decide (n<=0)=false:=by simp;omega
 rw [h0,cond_false]
 by_cases h:n<=256
 ·simp only [h,decide_true,cond_true]
  refine (znc hc).bind fun v c hv hc=> ?_
  rw [if_pos (by omega)]
  exact Dr.pure (zvz hv.1 hn) hc
 ·simp only [h,decide_false,cond_false]
  refine (znc hc).bind fun x c hx hc=>(znc hc).bind fun y c hy hc=>(znc hc).bind fun z c hz hc=> ?_
  rw [if_pos (by omega)]
  refine Dr.pure (zvz ?_ hn) hc
  simp only
  rw [za6 (n:=x * 65536) (by omega) (by omega),za6 (n:=y * 256) (by omega) (by omega),za6 (n:=x * 65536+y * 256) (by omega) (by omega),za6 (by omega) (by omega)]
  omega
theorem zsd {c:Ta} {l:List Int} (hc:Cur c) (hl:l ≠ []):Dr (zy3 l c) (fun v=>v∈l):=by
 unfold zy3
 have hp:0<l.length:=List.length_pos_iff.2 hl
 refine (zbp hc (by omega)).bind fun v c hv hc=> ?_
 simp only
 rw [if_pos hv.1,List.getElem?_eq_getElem (show v.toNat<l.length by omega)]
 exact Dr.pure (List.getElem_mem _) hc
theorem zua {c:Ta} {n:Int} (hc:Cur c) (hn:0<n):Dr (ybo n c) (fun _=>True):=by
 unfold ybo
 exact (zbp hc hn).bind fun v c hv hc=>Dr.pure trivial hc
theorem zu5 {α:Type} {n:Int} {P:α->Prop} {body:(Ta×List α×Int)->Option ((Ta×List α×Int)⊕(List α×Int×Ta))} (hn:n<=100000)
 (hb:∀ c l (i:Nat),Cur c->l.length=i->(i:Int)<n->∃ a c',body (c,l,i)=some (.inl (c',l ++ [a],(i:Int)+1))/\P a/\Cur c')
 (he:∀ c l (i:Nat),¬(i:Int)<n->body (c,l,(i:Int))=some (.inr (l,(i:Int),c))) {c:Ta} (hc:Cur c):
 Dr ((zbs body BIG (c,[],0)).bind fun v=>some (v.1,v.2.2)) (fun l=>l.length=n.toNat/\∀ x∈l,P x):=by
 have key:∀ (j i f:Nat) (c:Ta) (l:List α),i+j=n.toNat->j<f->Cur c->l.length=i->(∀ x∈l,P x)->Dr ((zbs body f (c,l,(i:Int))).bind fun v=>some (v.1,v.2.2)) (fun l=>l.length=n.toNat/\∀ x∈l,P x):=by
  intro j
  induction j with
  | zero=>
    intro i f c l hi hf hc hl hP
    obtain ⟨f,rfl⟩:∃ q,f=q+1:=⟨f - 1,by omega⟩
    rw [zbs,he c l i (by omega)]
    exact Dr.pure ⟨by show l.length=_;omega,hP⟩ hc
  | succ j ih=>
    intro i f c l hi hf hc hl hP
    obtain ⟨f,rfl⟩:∃ q,f=q+1:=⟨f - 1,by omega⟩
    obtain ⟨a,c',h1,h2,h3⟩:=hb c l i hc hl (by omega)
    rw [zbs,h1]
    have:=ih (i+1) f c' (l ++ [a]) (by omega) (by omega) h3 (by simp [hl]) (by intro x hx;rcases List.mem_append.1 hx with hx|hx;exact hP x hx;simp at hx;rw [hx];exact h2)
    simpa using this
 have:=key n.toNat 0 BIG c [] (by omega) (by simp only [BIG];omega) hc rfl (by simp)
 simpa using this
theorem zqx {c:Ta} {n:Int} (hc:Cur c) (hn:n<=100000):Dr (zzu n c) (fun l=>l.length=n.toNat):=by
 unfold zzu zp0
 refine (zu5 (P:=fun _:Bool=>True) (body:=zll n) hn (fun c l i hc hl hi=> ?_) (fun c l i hi=> ?_) hc).mono fun l h=>h.1
 ·obtain ⟨a,c',h1,_,h3⟩:=zua (n:=2) hc (by omega)
  refine ⟨a,c',?_,trivial,h3⟩
  rw [zll]
  simp only [hi,decide_true,cond_true,h1,Option.bind_some]
  rw [if_pos (by simp;omega),za6 (by omega) (by omega)]
 ·rw [zll]
  simp only [hi,decide_false,cond_false]
theorem ziy {c:Ta} {n:Int} (hc:Cur c) (hn:n<=100000):Dr (zws n c) (fun l=>l.length=n.toNat/\∀ x∈l,isW x):=by
 unfold zws zpf
 refine zu5 (P:=isW) (body:=zlk n) hn (fun c l i hc hl hi=> ?_) (fun c l i hi=> ?_) hc
 ·obtain ⟨v,c1,h1,hv,h3⟩:=zbp (n:=65536) hc (by omega)
  obtain ⟨a,c2,h4,ha,h5⟩:=zsd (l:=[0,1,65535,256,v]) h3 (by simp)
  refine ⟨a,c2,?_,?_,h5⟩
  ·rw [zlk]
   simp only [hi,decide_true,cond_true,h1,h4,Option.bind_some]
   rw [if_pos (by simp;omega),za6 (by omega) (by omega)]
  ·simp at ha;rcases ha with rfl|rfl|rfl|rfl|rfl <;> exact ⟨by omega,by omega⟩
 ·rw [zlk]
  simp only [hi,decide_false,cond_false]
theorem ya4 {c:Ta} {n:Int} (hc:Cur c) (hn:n<=100000):Dr (yge n c) (fun l=>l.length=n.toNat/\∀ x∈l,isB x):=by
 unfold yge zpm
 refine zu5 (P:=isB) (body:=zlx n) hn (fun c l i hc hl hi=> ?_) (fun c l i hi=> ?_) hc
 ·obtain ⟨v,c1,h1,hv,h3⟩:=znc hc
  refine ⟨IntKind.u8.wrap v,c1,?_,?_,h3⟩
  ·rw [zlx]
   simp only [hi,decide_true,cond_true,h1,Option.bind_some]
   rw [if_pos (by simp;omega),za6 (by omega) (by omega)]
  ·rw [u8w,zge hv.1 (by omega)];exact ⟨hv.1,by omega⟩
 ·rw [zlx]
  simp only [hi,decide_false,cond_false]
theorem zg6 {l:List Int} (h:∀ x∈l,isW x):zc8 l=true:=by
 unfold zc8
 rw [List.all_eq_true]
 intro x hx
 have:=h x hx
 simp [this.1,this.2]
theorem zcp {q:Tb} (hw:zc8 q.fc=true) (hA:0<=q.fd/\q.fd<=100) (hU:0<=q.ff/\q.ff<=100)
 (hk:((q.fa=1\/q.fa=2\/q.fa=3\/q.fa=4)/\1<=q.fN/\q.fN<=6/\q.fc.length=0/\q.fe.length=0/\q.ff=0)\/
  (q.fa=5/\q.fN=0/\q.fc.length=0/\q.fe.length=1/\q.ff=0)\/(q.fa=6/\q.fN=0/\q.fc.length=1/\q.fe.length=0/\q.ff=0)\/
  (q.fa=22/\q.fN=0/\q.fc.length=2/\q.fe.length=0/\q.ff=0)\/(q.fa=15/\q.fN=0/\q.fc.length=0/\1<=q.fe.length/\q.fe.length<=100/\q.ff=0)\/
  (q.fa=16/\q.fN=0/\1<=q.fc.length/\q.fc.length<=100/\q.fe.length=0/\q.ff=0)\/(q.fa=23/\1<=q.fN/\q.fN<=6/\1<=q.fc.length/\q.fc.length<=100/\q.fe.length=0)):zdo q=true:=by
 have e1:=zfn (q.fd+q.fN)
 have e6:=zfn ((q.fc.length:Int)+(q.fe.length:Int))
 have e7:=zfn (q.fd+i64.wrap ((q.fc.length:Int)+(q.fe.length:Int)))
 have e8:=zfn (q.ff+i64.wrap ((q.fc.length:Int)+(q.fe.length:Int)))
 have e9:=zfn (q.fd+1)
 have g1:(0:Int)<=q.fc.length:=by omega
 have g2:(0:Int)<=q.fe.length:=by omega
 simp only [zdo,hw,zj9,ybc,ya6,zlz,zch]
 rcases hk with ⟨k|k|k|k,hk⟩|⟨k,hk⟩|⟨k,hk⟩|⟨k,hk⟩|⟨k,hk⟩|⟨k,hk⟩|⟨k,hk⟩ <;> (simp [k,-List.length_eq_zero_iff];omega)
theorem ycg {c:Ta} (hc:Cur c):Dr (ycm 0 c) (fun q=>zdo q=true/\q.fN<=6):=by
 unfold ycm
 refine (zsd hc (by simp)).bind fun k c hk hc=>(zbp hc (by omega)).bind fun A c hA hc=>(zbp hc (by omega)).bind fun N c hN hc=> ?_
 simp only
 rw [za6 (n:=0+A) (by omega) (by omega),za6 (n:=1+N) (by omega) (by omega),Int.zero_add]
 have hk':k=1\/k=2\/k=3\/k=4\/k=5\/k=6\/k=15\/k=16\/k=22\/k=23:=by simp at hk;omega
 have hw0:zc8 []=true:=rfl
 have hA':0<=A/\A<=100:=⟨hA.1,by omega⟩
 rcases hk' with rfl|rfl|rfl|rfl|rfl|rfl|rfl|rfl|rfl|rfl <;> simp only [Int.reduceEq,decide_false,decide_true,cond_false,cond_true]
 ·exact Dr.pure ⟨zcp hw0 hA' ⟨by simp,by simp⟩ (by simp;omega),by simp;omega⟩ hc
 ·exact Dr.pure ⟨zcp hw0 hA' ⟨by simp,by simp⟩ (by simp;omega),by simp;omega⟩ hc
 ·exact Dr.pure ⟨zcp hw0 hA' ⟨by simp,by simp⟩ (by simp;omega),by simp;omega⟩ hc
 ·exact Dr.pure ⟨zcp hw0 hA' ⟨by simp,by simp⟩ (by simp;omega),by simp;omega⟩ hc
 ·exact (zqx hc (by omega)).bind fun l c hl hc=>Dr.pure ⟨zcp hw0 hA' ⟨by simp,by simp⟩ (by simp;simpa using hl),by simp⟩ hc
 ·exact (ziy hc (by omega)).bind fun l c hl hc=>Dr.pure ⟨zcp (zg6 hl.2) hA' ⟨by simp,by simp⟩ (by simp;simpa using hl.1),by simp⟩ hc
 ·refine (zbp hc (by omega)).bind fun X c hX hc=> ?_
  simp only
  rw [za6 (n:=1+N+X) (by omega) (by omega)]
  exact (zqx hc (by omega)).bind fun l c hl hc=>Dr.pure ⟨zcp hw0 hA' ⟨by simp,by simp⟩ (by simp;omega),by simp⟩ hc
 ·exact (ziy hc (by omega)).bind fun l c hl hc=>Dr.pure ⟨zcp (zg6 hl.2) hA' ⟨by simp,by simp⟩ (by have:=hl.1;simp;omega),by simp⟩ hc
 ·exact (ziy hc (by omega)).bind fun l c hl hc=>Dr.pure ⟨zcp (zg6 hl.2) hA' ⟨by simp,by simp⟩ (by simp;simpa using hl.1),by simp⟩ hc
 ·refine (zbp hc (by omega)).bind fun X c hX hc=>(zbp hc (by omega)).bind fun Y c hY hc=> ?_
  simp only
  rw [za6 (n:=1+Y) (by omega) (by omega),za6 (n:=0+X) (by omega) (by omega)]
  exact (ziy hc (by omega)).bind fun l c hl hc=>Dr.pure ⟨zcp (zg6 hl.2) hA' ⟨by simp;omega,by simp;omega⟩ (by have:=hl.1;simp;omega),by simp;omega⟩ hc
theorem zyy {c:Ta} {body:List Bool->Option (List Bool⊕List Bool)} (hb:∀ s,s.length<=1000->body s=if s.length % 8=0 then some (.inr s) else some (.inl (s ++ [false]))) {l:List Bool} (hl:l.length<=900):∃ r,zbs body BIG l=some r/\r.length<=1000:=by
 have key:∀ (j f:Nat) (s:List Bool),(8 - s.length % 8) % 8=j->j<f->s.length+j<=1000->∃ r,zbs body f s=some r/\r.length<=1000:=by
  intro j
  induction j with
  | zero=>
    intro f s hj hf hs
    obtain ⟨f,rfl⟩:∃ q,f=q+1:=⟨f - 1,by omega⟩
    rw [zbs,hb s (by omega),if_pos (by omega)]
    exact ⟨s,rfl,by omega⟩
  | succ j ih=>
    intro f s hj hf hs
    obtain ⟨f,rfl⟩:∃ q,f=q+1:=⟨f - 1,by omega⟩
    rw [zbs,hb s (by omega),if_neg (by omega)]
    exact ih f (s ++ [false]) (by simp;omega) (by omega) (by simp;omega)
 exact key _ BIG l rfl (by simp only [BIG];omega) (by omega)
theorem ybu {c:Ta} {q:Tb} (hc:Cur c) (hq:zdo q=true) (hN:q.fN<=6):Dr (yee q c) (fun a=>a.sz<=4096):=by
 have hs:=zc5 hq
 have hk:=(zav hq).2.1
 unfold yee
 refine (zua hc (by omega)).bind fun o c _ hc=> ?_
 cases o with
 | true=>
   simp only [cond_true]
   exact (zbp hc (by omega)).bind fun v _ hv _=>(zbp hc (by omega)).bind fun w c hw hc=>Dr.pure (by simp [Te.sz]) hc
 | false=>
   simp only [cond_false]
   rcases hk with k|k|k|k|k|k|k|k|k|k <;> simp only [k,Int.reduceEq,decide_false,decide_true,cond_false,cond_true]
   ·refine (zqx hc (by omega)).bind fun l c' hl hc'=> ?_
    obtain ⟨r,h1,h2⟩:=zyy (c:=c) (body:=zq2 q (l,c')) (l:=l) (fun s hs=>by
     rw [zq2,r8]
     by_cases h:s.length % 8=0
     ·rw [if_pos h];simp [h]
     ·rw [if_neg h]
      have:decide (((s.length % 8:Nat):Int)≠0)=true:=by simp;omega
      rw [this,cond_true,if_pos (by simp;omega)]) (by omega)
    simp only [zpq,h1,Option.bind_some]
    exact Dr.pure (by simp [Te.sz];omega) hc'
   ·refine (zqx hc (by omega)).bind fun l c' hl hc'=> ?_
    obtain ⟨r,h1,h2⟩:=zyy (c:=c) (body:=zpj q (l,c')) (l:=l) (fun s hs=>by
     rw [zpj,r8]
     by_cases h:s.length % 8=0
     ·rw [if_pos h];simp [h]
     ·rw [if_neg h]
      have:decide (((s.length % 8:Nat):Int)≠0)=true:=by simp;omega
      rw [this,cond_true,if_pos (by simp;omega)]) (by omega)
    simp only [zok,h1,Option.bind_some]
    exact Dr.pure (by simp [Te.sz];omega) hc'
   ·exact (ziy hc (by omega)).bind fun l c hl hc=>Dr.pure (by have:=hl.1;simp [Te.sz];omega) hc
   ·exact (ziy hc (by omega)).bind fun l c hl hc=>Dr.pure (by have:=hl.1;simp [Te.sz];omega) hc
   ·rw [if_pos (by simp;omega)];exact Dr.pure (by simp [Te.sz];omega) hc
   ·rw [if_pos (by simp;omega)];exact Dr.pure (by simp [Te.sz];omega) hc
   ·exact Dr.pure (by simp [Te.sz]) hc
   ·exact Dr.pure (by simp [Te.sz]) hc
   ·rw [if_pos (by simp;omega)];exact Dr.pure (by simp [Te.sz];omega) hc
   ·exact (ziy hc (by omega)).bind fun l c hl hc=>Dr.pure (by have:=hl.1;simp [Te.sz];omega) hc
theorem yc3 {c:Ta} {a:Te} (hc:Cur c) (ha:a.sz<=4096):Dr (yfn a c) (fun a=>a.sz<=8192):=by
 simp only [Te.sz] at ha
 unfold yfn
 refine (zbp hc (by omega)).bind fun v c hv hc=> ?_
 simp only
 by_cases h0:v=0
 ·simp only [h0,decide_true,cond_true]
  exact (zbp hc (by omega)).bind fun w c _ hc=>Dr.pure (by simp [Te.sz];omega) hc
 by_cases h1:v=1
 ·simp only [h1,Int.reduceEq,decide_false,decide_true,cond_false,cond_true]
  exact (zsd hc (by simp)).bind fun w c _ hc=>Dr.pure (by simp [Te.sz];omega) hc
 by_cases h2:v=2
 ·simp only [h2,Int.reduceEq,decide_false,decide_true,cond_false,cond_true]
  exact (zsd hc (by simp)).bind fun w _ _ _=>(zsd hc (by simp)).bind fun u c _ hc=>Dr.pure (by simp [Te.sz];omega) hc
 by_cases h3:v=3
 ·simp only [h3,Int.reduceEq,decide_false,decide_true,cond_false,cond_true]
  exact Dr.pure (by simp [Te.sz];omega) hc
 by_cases h4:v=4
 ·simp only [h4,Int.reduceEq,decide_false,decide_true,cond_false,cond_true]
  rw [if_pos (by simp;omega)]
  refine (zsd hc (by simp)).bind fun w c _ hc=> ?_
  simp only
  rw [if_pos (by simp;omega)]
  exact Dr.pure (by simp [Te.sz];omega) hc
 by_cases h5:v=5
 ·simp only [h5,Int.reduceEq,decide_false,decide_true,cond_false,cond_true]
  rw [if_pos (by simp;omega),if_pos (by simp;omega)]
  exact Dr.pure (by simp [Te.sz];omega) hc
 ·simp only [h0,h1,h2,h3,h4,h5,decide_false,cond_false]
  exact Dr.pure (by simp [Te.sz];omega) hc
theorem ycy {c:Ta} (hc:Cur c):Dr (yfy c) (fun a=>a.sz<=8192):=by
 unfold yfy
 refine (ycg hc).bind fun q c hq hc=>(ybu hc hq.1 hq.2).bind fun a c ha hc=>(zua hc (by omega)).bind fun o c _ hc=> ?_
 simp only
 cases o with
 | true=>simp only [cond_true];exact (yc3 hc ha).bind fun b c hb hc=>Dr.pure hb hc
 | false=>simp only [cond_false];exact Dr.pure (by omega) hc
theorem zkm {q:Tb} (h:zdo q=true):∀ x∈zam q,isB x:=by
 have F:=zav h
 obtain ⟨hw,hk,hat,hwat,f1,f2,f3,f4,f5,f6,f7,f8⟩:=F
 have hwb:∀ n,isW n->∀ x∈wb n,isB x:=by
  intro n hn x hx
  have:=hn.1;have:=hn.2
  simp [wb] at hx
  rcases hx with rfl|rfl <;> exact ⟨by omega,by omega⟩
 have hws:∀ x∈wbs q.fc,isB x:=by
  intro x hx
  obtain ⟨y,hy,hx⟩:=List.mem_flatMap.1 hx
  exact hwb y (zgn hw y hy) x hx
 have hm:∀ n:Int,isB (n % 256):=fun n=>⟨by omega,by omega⟩
 have hs:=zc5 h
 have hL1:isW (q.fe.length:Int):=zem (by omega)
 have hL2:isW (q.fc.length:Int):=zem (by omega)
 have hk0:isB q.fa:=⟨by omega,by omega⟩
 intro x hx
 unfold zam at hx
 rcases List.mem_cons.1 hx with rfl|hx
 ·exact hk0
 rcases List.mem_append.1 hx with hx|hx
 ·exact hwb _ hat x hx
 split at hx
 ·exact hwb _ (by cases q.fe.headD false <;> exact ⟨by simp,by simp⟩) x hx
 split at hx
 ·exact hws x hx
 split at hx
 ·rcases List.mem_append.1 hx with hx|hx
  ·exact hwb _ hL1 x hx
  ·rcases List.mem_cons.1 hx with rfl|hx
   ·exact hm _
   ·exact zqz _ x hx
 split at hx
 ·rcases List.mem_append.1 hx with hx|hx
  ·exact hwb _ hL2 x hx
  ·rcases List.mem_cons.1 hx with rfl|hx
   ·exact hm _
   ·exact hws x hx
 have hN:isW q.fN:=by
  rcases hk with k|k|k|k|k|k|k|k|k|k
  ·have:=f1 (.inl k);exact ⟨by omega,by omega⟩
  ·have:=f1 (.inr k);exact ⟨by omega,by omega⟩
  ·have:=f2 (.inl k);exact ⟨by omega,by omega⟩
  ·have:=f2 (.inr k);exact ⟨by omega,by omega⟩
  ·have:=f3 k;exact ⟨by omega,by omega⟩
  ·have:=f4 k;exact ⟨by omega,by omega⟩
  ·have:=f5 k;exact ⟨by omega,by omega⟩
  ·have:=f6 k;exact ⟨by omega,by omega⟩
  ·have:=f7 k;exact ⟨by omega,by omega⟩
  ·have:=f8 k;exact ⟨by omega,by omega⟩
 split at hx
 ·rcases List.mem_append.1 hx with hx|hx
  ·exact hwb _ hN x hx
  rcases List.mem_append.1 hx with hx|hx
  ·exact hwb _ hwat x hx
  rcases List.mem_append.1 hx with hx|hx
  ·exact hwb _ hL2 x hx
  ·rcases List.mem_cons.1 hx with rfl|hx
   ·exact hm _
   ·exact hws x hx
 ·exact hwb _ hN x hx
theorem ya9 {c:Ta} (hc:Cur c):Dr (yd0 c) (fun b=>b.fj.length<=4096/\∀ x∈b.fj,isB x):=by
 unfold yd0
 refine (zbp hc (by omega)).bind fun n c _ hc=>(zbp hc (by omega)).bind fun u c _ hc=>(ycg hc).bind fun q c hq hc=> ?_
 have hs:=zc5 hq.1
 have hl:=zk8 hq.1
 simp only
 rw [yjt (by simp [Tb.sz];omega),if_pos hq.1]
 simp only [Option.bind_some]
 refine (zbp hc (by omega)).bind fun v c hv hc=> ?_
 simp only
 by_cases h0:v=0
 ·simp only [h0,decide_true,cond_true]
  refine (zbp hc (by omega)).bind fun w c hw hc=>(ya4 hc (by omega)).bind fun l c hl hc=>Dr.pure ⟨?_,hl.2⟩ hc
  have:=hl.1;simp only;omega
 by_cases h1:v=1
 ·simp only [h1,Int.reduceEq,decide_false,decide_true,cond_false,cond_true]
  refine (zbp hc (by omega)).bind fun w _ hw _=>(zbp hc (by omega)).bind fun w2 c hw2 hc=> ?_
  have hp:0<(zam q).length:=by simp [zam]
  simp only
  rw [if_pos ⟨Int.le_refl _,by simp;omega⟩,show (0:Int).toNat=0 from rfl,List.getElem?_eq_getElem hp]
  simp only [Option.bind_some]
  refine Dr.pure ⟨by simp;omega,fun x hx=> ?_⟩ hc
  rcases List.mem_or_eq_of_mem_set hx with hx|rfl
  ·exact zkm hq.1 x hx
  ·rw [u8w];exact ⟨by omega,by omega⟩
 ·simp only [h0,h1,decide_false,cond_false]
  exact Dr.pure ⟨by simp only;omega,zkm hq.1⟩ hc
theorem ycd {v:List Int} (hl:v.length<=1048576):∃ c,yd1 v=some c/\Cur c:=by
 unfold yd1 zon
 rw [if_pos (by omega)]
 have key:∀ (t:List Int) (k s:Int),∃ r,zbl (zqe v) (zto v) t k s=some r:=by
  intro t
  induction t with
  | nil=>intro k s;exact ⟨_,rfl⟩
  | cons x t ih=>
    intro k s
    rw [zbl,zqe]
    cases decide (k<4000) with
    | true=>exact ih _ _
    | false=>exact ⟨_,rfl⟩
 obtain ⟨r,hr⟩:=key v 0 (i64.wrap (272272+((v.length:Nat):Int)))
 rw [hr]
 exact ⟨_,rfl,Int.le_refl _,hl⟩
end Go.Pm
namespace Go.Pm
open IntKind (i64)
theorem zrw {f:Int} (h:isB f):127<IntKind.u8.wrap ((BitVec.ofInt IntKind.u8.bits f ||| BitVec.ofInt IntKind.u8.bits 128).toNat:Nat):=by
 rw [BitVec.toNat_or,u8w]
 have e:(BitVec.ofInt IntKind.u8.bits (128:Int)).toNat=128:=rfl
 rw [e]
 have h1:128<=(BitVec.ofInt IntKind.u8.bits f).toNat ||| 128:=Nat.right_le_or
 have h2:(BitVec.ofInt IntKind.u8.bits f).toNat ||| 128<2 ^ 8:=Nat.or_lt_two_pow (BitVec.isLt _) (by omega)
 generalize (BitVec.ofInt IntKind.u8.bits f).toNat ||| 128=m at *
 have h2':m<256:=h2
 rw [zge (by omega) (by omega)]
 omega
theorem ycz {box:Tf} (hl:box.fj.length<=4096) (hB:∀ x∈box.fj,isB x):∃ q c,ycj box.fj=some (q,c)/\((c=0/\zzp box=some (box.fk,q,[]))\/
 (c≠0/\∃ f,127<f/\∃ z,zzp box=some (0,z,[f,if c=1 then 1 else 3]))):=by
 obtain ⟨q,c,h1,h2⟩:=zr2 hl hB
 refine ⟨q,c,h1,?_⟩
 unfold zzp
 rw [h1]
 simp only [Option.bind_some]
 by_cases hc:c=0
 ·left
  refine ⟨hc,?_⟩
  simp only [hc,decide_true,cond_true]
 ·right
  refine ⟨hc,?_⟩
  simp only [hc,decide_false,cond_false]
  cases hb:box.fj with
  | nil=>
    have hd:decide ((0:Int)<((([]:List Int).length:Nat):Int))=false:=rfl
    simp only [hd,cond_false]
    refine ⟨_,zrw (f:=0) ⟨by omega,by omega⟩,(⟨0,0,0,[],[],0⟩:Tb),?_⟩
    by_cases h1:c=1
    ·simp only [h1,decide_true,cond_true,if_true]
    ·simp only [h1,decide_false,cond_false,if_false]
  | cons k r=>
    have hk:isB k:=hB k (by rw [hb];simp)
    have hd:decide ((0:Int)<(((k::r).length:Nat):Int))=true:=by simp
    simp only [hd,cond_true,show (0:Int).toNat=0 from rfl,List.getElem?_cons_zero,Option.bind_some]
    refine ⟨_,zrw hk,(⟨0,0,0,[],[],0⟩:Tb),?_⟩
    by_cases h1:c=1
    ·simp only [h1,decide_true,cond_true,if_true]
    ·simp only [h1,decide_false,cond_false,if_false]
theorem zp7 (v1:List Int):yhv v1=some true:=by
 unfold yhv yjh
 rw [Option.bind_some]
 by_cases hbig:(1048576:Int)<((v1.length:Nat):Int)
 ·simp only [hbig,decide_true,cond_true]
 simp only [hbig,decide_false,cond_false]
 have hv:v1.length<=1048576:=by omega
 obtain ⟨c0,n1,n2⟩:=ycd hv
 obtain ⟨box,c1,d1,⟨d2,d3⟩,_⟩:=ya9 n2
 obtain ⟨a,c2,d4,d5,_⟩:=ycy (ya9 n2).choose_spec.choose_spec.2.2
 have hask:yfw v1=some box:=by unfold yfw;rw [n1];simp only [Option.bind_some];rw [d1];rfl
 have htell:∃ a box',yca v1=some (box',a)/\a.sz<=8192:=by
  unfold yca
  rw [n1];simp only [Option.bind_some]
  obtain ⟨box',c1',e1,_,e2⟩:=ya9 n2
  rw [e1];simp only [Option.bind_some]
  obtain ⟨a,c2,e3,e4,_⟩:=ycy e2
  rw [e3];simp only [Option.bind_some]
  exact ⟨a,box',rfl,e4⟩
 obtain ⟨a,box',t1,t2⟩:=htell
 rw [hask]
 simp only [Option.bind_some]
 obtain ⟨q,c,g1,g2⟩:=ycz d2 d3
 obtain ⟨q1,c1',i1,i2⟩:=zr2 d2 d3
 rw [g1] at i1
 simp only [Option.some.injEq,Prod.mk.injEq] at i1
 obtain ⟨rfl,rfl⟩:=i1
 obtain ⟨qs,cs,s1,s2⟩:=zxk d2 d3
 have hcc:c=cs:=by
  rcases i2 with ⟨a1,a2⟩|⟨⟨k,r,a2,a3⟩,a4⟩
  ·rcases s2 with ⟨b1,_⟩|⟨⟨k,r,b2,b3⟩,_⟩
   ·rw [a1,b1]
   ·rcases a2 with a2|⟨k',r',a2,a3⟩
    ·rw [a2] at b2;cases b2
    ·rw [a2] at b2;cases b2;rw [a3] at b3;cases b3
  ·rcases s2 with ⟨b1,b2⟩|⟨_,b4⟩
   ·rcases b2 with b2|⟨k',r',b2,b3⟩
    ·rw [a2] at b2;cases b2
    ·rw [a2] at b2;cases b2;rw [a3] at b3;cases b3
   ·rcases a4 with ⟨x1,x2,x3⟩|⟨x1,x2⟩
    ·rcases b4 with ⟨y1,_⟩|⟨y1,y2⟩
     ·rw [x1,y1]
     ·exact absurd x3 (y2 _ x2)
    ·rcases b4 with ⟨y1,y2,y3⟩|⟨y1,y2⟩
     ·exact absurd y3 (x2 _ y2)
     ·rw [x1,y1]
 subst hcc
 have hPI:=yrh (a:=a) (by omega)
 have hPS:=yq9 (a:=a) (by omega)
 have hlen:(if znh a=true then zek a else []).length<=1048576:=by
  by_cases hr:znh a=true
  ·rw [if_pos hr]
   simp only [Te.sz] at t2
   have hp:=zbr a.fe
   have hws:=zb6 a.fc
   have hw:∀ n,(wb n).length=2:=fun _=>rfl
   unfold zek
   split
   ·simp
   ·simp only [List.length_cons]
    split
    ·simp only [List.length_cons];omega
    ·split
     ·simp only [List.length_cons];omega
     ·rw [List.length_append,hw]
      split
      ·rw [hw];omega
      ·split
       ·omega
       ·rw [hw];omega
  ·rw [if_neg hr];simp
 have hend:∀ v5:Int×Tb×List Int,(c=0->v5.1=box.fk/\v5.2.2=[]/\∃ z,ybh v5.2.1=some z/\z=box.fj)->(c≠0->v5.1=0/\∃ f,127<f/\v5.2.2=[f,c])->
  zzp box=some v5->((zzp box).bind fun(v5:Int×Tb×List Int)=>((ybx box.fj).bind fun(v6:Tb×Int)=>((yca v1).bind fun(v7:Tf×Te)=>((yf7 box v7.2).bind fun(v8:Tf)=>(bif decide (v8.fo≠box.fo) then(some false) else(bif decide (v8.fk≠box.fk) then(some false) else((ycs v7.2).bind fun(v11:List Int)=>((zza v8.fj v11).bind fun(v12:Bool)=>(bif !v12 then(some false) else(bif decide (v6.2=0) then(bif decide (((v5.2.2.length:Nat):Int)=0) then(bif decide (v5.1=box.fk) then((ybh v5.2.1).bind fun(v17:List Int)=>((zza v17 box.fj).bind fun(v18:Bool)=>(some v18))) else(some false)) else(some false)) else(bif decide (((v5.2.2.length:Nat):Int)=2) then(((v5.2.2)[(0:Int).toNat]?).bind fun v20=>(bif decide (127<v20) then(((v5.2.2)[(1:Int).toNat]?).bind fun v23=>(bif decide ((i64.wrap v23)=v6.2) then(some (decide (v5.1=0))) else(some false))) else(some false))) else(some false))))))))))))=some true:=by
  intro v5 h0 hn hx
  rw [hx,s1,t1]
  simp only [Option.bind_some]
  unfold yf7
  rw [hPI,hPS]
  simp only [Option.bind_some,ne_eq,not_true_eq_false,decide_false,cond_false]
  rw [yjs _ _ hlen]
  simp only [decide_true,Option.bind_some,Bool.not_true,cond_false]
  by_cases hc:c=0
  ·obtain ⟨u1,u2,z,u3,u4⟩:=h0 hc
   simp only [hc,decide_true,cond_true,u1,u2,u3,u4,List.length_nil,show ((0:Nat):Int)=0 from rfl,Option.bind_some]
   rw [yjs _ _ (by omega)]
   simp
  ·obtain ⟨u1,f,u2,u3⟩:=hn hc
   have hcr:c=1\/c=3:=by
    rcases s2 with ⟨b1,_⟩|⟨_,⟨b1,_⟩|⟨b1,_⟩⟩
    ·exact .inl b1
    ·exact absurd b1 hc
    ·exact .inr b1
   have hw:i64.wrap c=c:=za6 (by omega) (by omega)
   simp [hc,u1,u2,u3,hw]
 rcases g2 with ⟨e1,e2⟩|⟨e1,f,e2,z,e3⟩
 ·refine hend _ (fun _=> ?_) (fun h=>absurd e1 h) e2
  refine ⟨rfl,rfl,?_⟩
  rcases i2 with ⟨a1,_⟩|⟨_,⟨a1,a2,a3⟩|⟨a1,_⟩⟩
  ·rw [e1] at a1;cases a1
  ·refine ⟨_,yn3 (by have:=zc5 a2;simp only [Tb.sz];omega),?_⟩
   rw [if_pos a2,a3]
  ·rw [e1] at a1;cases a1
 ·refine hend _ (fun h=>absurd h e1) (fun _=> ?_) e3
  refine ⟨rfl,f,e2,?_⟩
  rcases i2 with ⟨a1,_⟩|⟨_,⟨a1,_⟩|⟨a1,_⟩⟩
  ·rw [a1];rfl
  ·exact absurd a1 e1
  ·rw [a1];rfl
end Go.Pm
