/- Proved: the law FnExactBoxAsk answers true at all arguments, for every operating system that has started; no conditions beyond the row's own. -/
import Derived.Test.YtcjfkblhogdmbaaMn
set_option linter.unusedVariables false
set_option linter.unusedSimpArgs false
namespace Go.Pm
theorem zih {b:List Int} {n:Nat} (hB:∀ x∈b,isB x):∀ x∈b.drop n,isB x:=fun x hx=>hB x (List.mem_of_mem_drop hx)
theorem zyq {b:List Int} {n m:Nat} (hl:b.length<=1048576) (hB:∀ x∈b,isB x) (h:n<b.length) (hc:((b.length - (n+1):Nat):Int)=b.getD n 0) (h2:b.length - (n+1)=2 * m):
 x_ct (m:Int) ⟨b,n,false⟩=some (zah (b.drop (n+1)) 0 m,⟨b,b.length,false⟩):=by
 unfold x_ct
 rw [zdv (by omega) hB h]
 have hd:decide (((b.length - (n+1):Nat):Int)≠b.getD n 0)=false:=by simp [hc]
 simp only [Option.bind_some,hd,cond_false,List.length_drop]
 rw [zae (n:=2 * (m:Int)) (by omega) (by omega)]
 have hd2:decide (((b.length - (n+1):Nat):Int)≠2 * (m:Int))=false:=by simp;omega
 simp only [hd2,cond_false]
 have:=zn5 (b:=b.drop (n+1)) (n:=0) (m:=m) (by simp;omega) (zih hB) (by simp;omega)
 rw [show ((0:Nat):Int)=0 from rfl] at this
 rw [this];rfl
theorem zia {b:List Int} {n m:Nat} {bad:Bool} (hl:b.length<=1048576) (hB:∀ x∈b,isB x) (hn:n<=b.length) (hm:m<=65535):(∃ t,x_ct (m:Int) ⟨b,n,bad⟩=some ([],t)/\t.fbad=true)\/
 (bad=false/\n<b.length/\((b.length - (n+1):Nat):Int)=b.getD n 0/\b.length - (n+1)=2 * m):=by
 by_cases h:b.length<=n\/bad=true
 ·left
  unfold x_ct
  rw [zld (by omega) hn h]
  exact ⟨_,rfl,rfl⟩
 ·have hb:bad=false:=by cases bad <;> simp_all
  subst hb
  have hlt:n<b.length:=by simp at h;omega
  by_cases hc:((b.length - (n+1):Nat):Int)=b.getD n 0
  ·by_cases h2:b.length - (n+1)=2 * m
   ·exact .inr ⟨rfl,hlt,hc,h2⟩
   ·left
    unfold x_ct
    rw [zdv (by omega) hB hlt]
    have hd:decide (((b.length - (n+1):Nat):Int)≠b.getD n 0)=false:=by simp [hc]
    simp only [Option.bind_some,hd,cond_false,List.length_drop]
    rw [zae (n:=2 * (m:Int)) (by omega) (by omega)]
    have hd2:decide (((b.length - (n+1):Nat):Int)≠2 * (m:Int))=true:=by simp;omega
    simp only [hd2,cond_true]
    exact ⟨_,rfl,rfl⟩
  ·left
   unfold x_ct
   rw [zdv (by omega) hB hlt]
   have hd:decide (((b.length - (n+1):Nat):Int)≠b.getD n 0)=true:=by simp;exact fun h=>hc (by simpa using h)
   simp only [Option.bind_some,hd,cond_true]
   exact ⟨_,rfl,rfl⟩
theorem zfn {b:List Int} {n:Nat} (hB:∀ x∈b,isB x) (h:n+2<=b.length):isW (zaa b n):=by
 unfold zaa
 rw [List.getD_eq_getElem?_getD,List.getD_eq_getElem?_getD,List.getElem?_eq_getElem (show n<b.length by omega),List.getElem?_eq_getElem (show n+1<b.length by omega)]
 exact ye0 (hB _ (List.getElem_mem _)) (hB _ (List.getElem_mem _))
theorem zo7 {q:Ta} {r:List Int} (h:zeo q=true) (hp:zap q=16::r):q=⟨16,q.fe,0,q.fa,[],0⟩/\q.fa.length<=123/\r=wb q.fe++(wb (q.fa.length:Int)++((2 * (q.fa.length:Int)) % 256::wbs q.fa)):=by
 have e:=zfj hp
 obtain ⟨_,_,_,_,_,_,_,_,_,f6,_,_⟩:=zb7 h
 have hw:=zf1 h (by omega)
 obtain ⟨g1,g2,g3,g4⟩:=f6 e
 refine ⟨?_,g3,?_⟩
 ·cases q;simp only at e hw g1 g4 ⊢;rw [e,hw,ziy g4,g1]
 ·unfold zap at hp
  rw [e] at hp
  simp at hp;rw [<- hp]
theorem zqw {r:List Int} (h:5<=r.length):∃ a b c d e r',r=a::b::c::d::e::r':=by
 match r,h with
 | a::b::c::d::e::r',_=>exact ⟨a,b,c,d,e,r',rfl⟩
theorem zr5 {r:List Int} (hl:(16::r).length<=1048576) (hB:∀ x∈(16:Int)::r,isB x):zfy (16::r) (x_cu 16 ⟨16::r,1,false⟩):=by
 have hx:x_cu 16 ⟨16::r,1,false⟩=(x_cl ⟨16::r,((1:Nat):Int),false⟩).bind fun v3=>(x_cl v3.2).bind fun v20=>(x_ct v20.1 v20.2).bind fun v21=>some (⟨16,v3.1,0,v21.1,[],0⟩,v21.2):=rfl
 rw [hx]
 constructor
 ·have badw:∀ (n:Nat) (A:Int),n<=((16:Int)::r).length->∃ q t,((x_ct 0 ⟨16::r,(n:Int),true⟩).bind fun v21=>some ((⟨16,A,0,v21.1,[],0⟩:Ta),v21.2))=some (q,t)/\q.sz<=1048576/\(t.fbad=false->t.fat=(((16:Int)::r).length:Int)->zeo q=true->zap q=16::r):=by
   intro n A hn
   rcases zia (m:=0) (bad:=true) hl hB hn (by omega) with ⟨t,g1,g2⟩|⟨g,_⟩
   ·rw [show ((0:Nat):Int)=0 from rfl] at g1
    rw [g1]
    exact ⟨_,_,rfl,by simp [Ta.sz],fun h=>by simp only at h;rw [g2] at h;cases h⟩
   ·cases g
  by_cases h3:3<=((16:Int)::r).length
  ·rw [zb2 (by omega) hB h3]
   simp only [Option.bind_some]
   by_cases h5:5<=((16:Int)::r).length
   ·rw [zb2 (by omega) hB h5]
    simp only [Option.bind_some]
    have hW:=zfn hB (n:=3) h5
    obtain ⟨m,hm⟩:∃ m:Nat,zaa (16::r) 3=m:=⟨(zaa (16::r) 3).toNat,by have:=hW.1;omega⟩
    have hm':m<=65535:=by have:=hW.2;omega
    rw [hm]
    rcases zia (m:=m) (bad:=false) (n:=5) hl hB h5 hm' with ⟨t,g1,g2⟩|⟨_,g1,g2,g3⟩
    ·rw [g1]
     exact ⟨_,_,rfl,by simp [Ta.sz],fun h=>by simp only at h;rw [g2] at h;cases h⟩
    ·rw [zyq hl hB g1 g2 g3]
     refine ⟨_,_,rfl,by simp [Ta.sz,zbu];simp at hl g3;omega,fun _ _ _=> ?_⟩
     obtain ⟨a1,a2,a3,a4,a5,r',rfl⟩:=zqw (r:=r) (by simp at g1;omega)
     have b1:=hB a1 (by simp);have b2:=hB a2 (by simp);have b3:=hB a3 (by simp);have b4:=hB a4 (by simp);have b5:=hB a5 (by simp)
     have hr':r'.length=2 * m:=by simpa using g3
     have e:=zej (b:=r') (n:=0) (m:=m) (fun x hx=>hB x (by simp [hx])) (by omega)
     rw [List.drop_zero,List.take_of_length_le (by omega)] at e
     have hm2:a3 * 256+a4=(m:Int):=by simpa [zaa] using hm
     have h5':(2 * (m:Int))=a5:=by simp at g2;omega
     have h5m:(2 * (m:Int)) % 256=a5:=by rw [h5'];exact zum b5.1 b5.2
     have e2:=zfr b3 b4
     rw [hm2] at e2
     unfold zap
     simp [zaa,zfr b1 b2,zbu,e,e2,h5m]
   ·rw [zcd (by omega) (by omega)]
    exact badw 3 _ h3
  ·rw [zcd (by omega) (by omega)]
   simp only [Option.bind_some]
   rw [zco (by omega) hB]
   exact badw 1 _ (by simp)
 ·intro q' h1 h2
  obtain ⟨e1,e3,e2⟩:=zo7 h1 h2
  rw [e1]
  subst e2
  generalize q'.fe=A at *
  generalize q'.fa=W at *
  have hlen:((16:Int)::(wb A++(wb (W.length:Int)++(2 * (W.length:Int) % 256::wbs W)))).length=6+2 * W.length:=by simp [wb,zgb];omega
  have w1:zaa (16::(wb A++(wb (W.length:Int)++(2 * (W.length:Int) % 256::wbs W)))) 1=A:=by simp [zaa,wb,zdn]
  have w2:zaa (16::(wb A++(wb (W.length:Int)++(2 * (W.length:Int) % 256::wbs W)))) 3=W.length:=by simp [zaa,wb,zdn]
  rw [zb2 (by omega) hB (by omega),w1]
  simp only [Option.bind_some]
  rw [zb2 (by omega) hB (by omega),w2]
  simp only [Option.bind_some]
  rw [zyq (n:=5) hl hB (by omega) (by rw [hlen];simp [wb];omega) (by omega)]
  simp only [Option.bind_some]
  have w3:=zc6 W []
  simp only [List.nil_append,List.length_nil] at w3
  simp [wb,w3]
theorem znk {q:Ta} {r:List Int} (h:zeo q=true) (hp:zap q=23::r):q=⟨23,q.fe,q.fN,q.fa,[],q.ff⟩/\q.fa.length<=121/\r=wb q.fe++(wb q.fN++(wb q.ff++(wb (q.fa.length:Int)++((2 * (q.fa.length:Int)) % 256::wbs q.fa)))):=by
 have e:=zfj hp
 obtain ⟨_,_,_,_,_,_,_,_,_,_,_,f8⟩:=zb7 h
 obtain ⟨g1,g2,g3,g4,g5⟩:=f8 e
 refine ⟨?_,g4,?_⟩
 ·cases q;simp only at e g5 ⊢;rw [e,ziy g5]
 ·unfold zap at hp
  rw [e] at hp
  simp at hp;rw [<- hp]
theorem zq3 {r:List Int} (hl:(23::r).length<=1048576) (hB:∀ x∈(23:Int)::r,isB x):zfy (23::r) (x_cu 23 ⟨23::r,1,false⟩):=by
 have hx:x_cu 23 ⟨23::r,1,false⟩=(x_cl ⟨23::r,((1:Nat):Int),false⟩).bind fun v3=>(x_cl v3.2).bind fun v24=>(x_cl v24.2).bind fun v25=>(x_cl v25.2).bind fun v26=>(x_ct v26.1 v26.2).bind fun v27=>some (⟨23,v3.1,v24.1,v27.1,[],v25.1⟩,v27.2):=rfl
 rw [hx]
 constructor
 ·have badw:∀ (n:Nat) (A N U:Int),n<=((23:Int)::r).length->∃ q t,((x_ct 0 ⟨23::r,(n:Int),true⟩).bind fun v21=>some ((⟨23,A,N,v21.1,[],U⟩:Ta),v21.2))=some (q,t)/\q.sz<=1048576/\(t.fbad=false->t.fat=(((23:Int)::r).length:Int)->zeo q=true->zap q=23::r):=by
   intro n A N U hn
   rcases zia (m:=0) (bad:=true) hl hB hn (by omega) with ⟨t,g1,g2⟩|⟨g,_⟩
   ·rw [show ((0:Nat):Int)=0 from rfl] at g1
    rw [g1]
    exact ⟨_,_,rfl,by simp [Ta.sz],fun h=>by simp only at h;rw [g2] at h;cases h⟩
   ·cases g
  by_cases h3:3<=((23:Int)::r).length
  ·rw [zb2 (by omega) hB h3]
   simp only [Option.bind_some]
   by_cases h5:5<=((23:Int)::r).length
   ·rw [zb2 (by omega) hB h5]
    simp only [Option.bind_some]
    by_cases h7:7<=((23:Int)::r).length
    ·rw [zb2 (by omega) hB h7]
     simp only [Option.bind_some]
     by_cases h9:9<=((23:Int)::r).length
     ·rw [zb2 (by omega) hB h9]
      simp only [Option.bind_some]
      have hW:=zfn hB (n:=7) h9
      obtain ⟨m,hm⟩:∃ m:Nat,zaa (23::r) 7=m:=⟨(zaa (23::r) 7).toNat,by have:=hW.1;omega⟩
      have hm':m<=65535:=by have:=hW.2;omega
      have hm0:zaa (23::r) (3+2+2)=m:=hm
      rw [show ((23:Int)::r).length=((23:Int)::r).length from rfl]
      simp only [show 1+2=3 from rfl,show 3+2=5 from rfl,show 5+2=7 from rfl,show 7+2=9 from rfl,hm]
      rcases zia (m:=m) (bad:=false) (n:=9) hl hB h9 hm' with ⟨t,g1,g2⟩|⟨_,g1,g2,g3⟩
      ·rw [g1]
       exact ⟨_,_,rfl,by simp [Ta.sz],fun h=>by simp only at h;rw [g2] at h;cases h⟩
      ·rw [zyq hl hB g1 g2 g3]
       refine ⟨_,_,rfl,by simp [Ta.sz,zbu];simp at hl g3;omega,fun _ _ _=> ?_⟩
       obtain ⟨a1,a2,a3,a4,a5,r1,rfl⟩:=zqw (r:=r) (by simp at g1;omega)
       obtain ⟨a6,a7,r2,rfl⟩:=zvi (r:=r1) (by simp at g1;omega)
       obtain ⟨a8,a9,r',rfl⟩:=zvi (r:=r2) (by simp at g1;omega)
       have b1:=hB a1 (by simp);have b2:=hB a2 (by simp);have b3:=hB a3 (by simp);have b4:=hB a4 (by simp);have b5:=hB a5 (by simp)
       have b6:=hB a6 (by simp);have b7:=hB a7 (by simp);have b8:=hB a8 (by simp);have b9:=hB a9 (by simp)
       have hr':r'.length=2 * m:=by simpa using g3
       have e:=zej (b:=r') (n:=0) (m:=m) (fun x hx=>hB x (by simp [hx])) (by omega)
       rw [List.drop_zero,List.take_of_length_le (by omega)] at e
       have hm2:a7 * 256+a8=(m:Int):=by simpa [zaa] using hm
       have h5':(2 * (m:Int))=a9:=by simp at g2;omega
       have h5m:(2 * (m:Int)) % 256=a9:=by rw [h5'];exact zum b9.1 b9.2
       have e2:=zfr b7 b8
       rw [hm2] at e2
       unfold zap
       simp [zaa,zfr b1 b2,zfr b3 b4,zfr b5 b6,zbu,e,e2,h5m]
     ·rw [zcd (by omega) (by omega)]
      exact badw 7 _ _ _ h7
    ·rw [zcd (by omega) (by omega)]
     simp only [Option.bind_some]
     rw [zco (by omega) hB]
     exact badw 5 _ _ _ h5
   ·rw [zcd (by omega) (by omega)]
    simp only [Option.bind_some]
    rw [zco (by omega) hB]
    simp only [Option.bind_some]
    rw [zco (by omega) hB]
    exact badw 3 _ _ _ h3
  ·rw [zcd (by omega) (by omega)]
   simp only [Option.bind_some]
   rw [zco (by omega) hB]
   simp only [Option.bind_some]
   rw [zco (by omega) hB]
   simp only [Option.bind_some]
   rw [zco (by omega) hB]
   exact badw 1 _ _ _ (by simp)
 ·intro q' h1 h2
  obtain ⟨e1,e3,e2⟩:=znk h1 h2
  rw [e1]
  subst e2
  generalize q'.fe=A at *
  generalize q'.fN=N at *
  generalize q'.ff=U at *
  generalize q'.fa=W at *
  have hlen:((23:Int)::(wb A++(wb N++(wb U++(wb (W.length:Int)++(2 * (W.length:Int) % 256::wbs W)))))).length=10+2 * W.length:=by simp [wb,zgb];omega
  have w1:zaa (23::(wb A++(wb N++(wb U++(wb (W.length:Int)++(2 * (W.length:Int) % 256::wbs W)))))) 1=A:=by simp [zaa,wb,zdn]
  have w2:zaa (23::(wb A++(wb N++(wb U++(wb (W.length:Int)++(2 * (W.length:Int) % 256::wbs W)))))) 3=N:=by simp [zaa,wb,zdn]
  have w4:zaa (23::(wb A++(wb N++(wb U++(wb (W.length:Int)++(2 * (W.length:Int) % 256::wbs W)))))) 5=U:=by simp [zaa,wb,zdn]
  have w5:zaa (23::(wb A++(wb N++(wb U++(wb (W.length:Int)++(2 * (W.length:Int) % 256::wbs W)))))) 7=W.length:=by simp [zaa,wb,zdn]
  rw [zb2 (by omega) hB (by omega),w1]
  simp only [Option.bind_some]
  rw [zb2 (by omega) hB (by omega),w2]
  simp only [Option.bind_some]
  rw [zb2 (by omega) hB (by omega),w4]
  simp only [Option.bind_some]
  rw [zb2 (by omega) hB (by omega),w5]
  simp only [Option.bind_some]
  rw [zyq (n:=9) hl hB (by omega) (by rw [hlen];simp [wb];omega) (by omega)]
  simp only [Option.bind_some]
  have w3:=zc6 W []
  simp only [List.nil_append,List.length_nil] at w3
  simp [wb,w3]
end Go.Pm
namespace Go.Pm
theorem zhc {q:Ta} {r:List Int} (h:zeo q=true) (hp:zap q=15::r):q=⟨15,q.fe,0,[],q.fc,0⟩/\q.fc.length<=1968/\r=wb q.fe++(wb (q.fc.length:Int)++(((zfp q.fc).length:Int) % 256::zfp q.fc)):=by
 have e:=zfj hp
 obtain ⟨_,_,_,_,_,_,_,_,f5,_,_,_⟩:=zb7 h
 have hw:=zf1 h (by omega)
 obtain ⟨g1,g2,g3,g4⟩:=f5 e
 refine ⟨?_,g4,?_⟩
 ·cases q;simp only at e hw g1 g2 ⊢;rw [e,hw,ziy g2,g1]
 ·unfold zap at hp
  rw [e] at hp
  simp at hp;rw [<- hp]
theorem zrv {b:List Int} {n:Nat} {bad:Bool} {m:Int} (hl:b.length<=1048576) (hB:∀ x∈b,isB x) (hn:n<=b.length) (hm:m<=65535):(∃ l t,x_cs m ⟨b,n,bad⟩=some (l,t)/\t.fbad=true/\l.length<=65535)\/
 (bad=false/\n<b.length/\((b.length - (n+1):Nat):Int)=b.getD n 0/\okU (b.drop (n+1)) m/\x_cs m ⟨b,n,bad⟩=some (zb3 (b.drop (n+1)) m.toNat,⟨b,b.length,false⟩)):=by
 have short:∀ (c:List Int),c.length<=b.length->(if okU c m then(zb3 c m.toNat,true) else([],false)).1.length<=65535:=by
  intro c hc
  by_cases h:okU c m
  ·rw [if_pos h];have:=h.1;have:=h.2.1;simp [zb3];omega
  ·rw [if_neg h];simp
 by_cases h:b.length<=n\/bad=true
 ·left
  unfold x_cs
  rw [zld (by omega) hn h]
  simp only [Option.bind_some]
  rw [yio (by simp;omega) (zih hB)]
  simp only [Option.bind_some,cond_true]
  exact ⟨_,_,rfl,rfl,short _ (by simp)⟩
 ·have hb:bad=false:=by cases bad <;> simp_all
  subst hb
  have hlt:n<b.length:=by simp at h;omega
  unfold x_cs
  rw [zdv (by omega) hB hlt]
  simp only [Option.bind_some]
  rw [yio (by simp;omega) (zih hB)]
  simp only [Option.bind_some]
  by_cases hc:((b.length - (n+1):Nat):Int)=b.getD n 0
  ·have hd:decide (((b.length - (n+1):Nat):Int)≠b.getD n 0)=false:=by simp [hc]
   simp only [hd,cond_false]
   by_cases ho:okU (b.drop (n+1)) m
   ·right
    rw [if_pos ho]
    exact ⟨trivial,hlt,hc,ho,rfl⟩
   ·left
    rw [if_neg ho]
    exact ⟨_,_,rfl,rfl,by simp⟩
  ·left
   have hd:decide (((b.length - (n+1):Nat):Int)≠b.getD n 0)=true:=by simp;exact fun h=>hc (by simpa using h)
   simp only [hd,cond_true]
   exact ⟨_,_,rfl,rfl,short _ (by simp)⟩
theorem zoi {r:List Int} (hl:(15::r).length<=1048576) (hB:∀ x∈(15:Int)::r,isB x):zfy (15::r) (x_cu 15 ⟨15::r,1,false⟩):=by
 have hx:x_cu 15 ⟨15::r,1,false⟩=(x_cl ⟨15::r,((1:Nat):Int),false⟩).bind fun v3=>(x_cl v3.2).bind fun v17=>(x_cs v17.1 v17.2).bind fun v18=>some (⟨15,v3.1,0,[],v18.1,0⟩,v18.2):=rfl
 rw [hx]
 constructor
 ·have badw:∀ (n:Nat) (A:Int),n<=((15:Int)::r).length->∃ q t,((x_cs 0 ⟨15::r,(n:Int),true⟩).bind fun v21=>some ((⟨15,A,0,[],v21.1,0⟩:Ta),v21.2))=some (q,t)/\q.sz<=1048576/\(t.fbad=false->t.fat=(((15:Int)::r).length:Int)->zeo q=true->zap q=15::r):=by
   intro n A hn
   rcases zrv (m:=0) (bad:=true) hl hB hn (by omega) with ⟨l,t,g1,g2,g3⟩|⟨g,_⟩
   ·rw [g1]
    exact ⟨_,_,rfl,by simp [Ta.sz];omega,fun h=>by simp only at h;rw [g2] at h;cases h⟩
   ·cases g
  by_cases h3:3<=((15:Int)::r).length
  ·rw [zb2 (by omega) hB h3]
   simp only [Option.bind_some]
   by_cases h5:5<=((15:Int)::r).length
   ·rw [zb2 (by omega) hB h5]
    simp only [Option.bind_some]
    have hW:=zfn hB (n:=3) h5
    rcases zrv (m:=zaa (15::r) (1+2)) (bad:=false) (n:=5) hl hB h5 hW.2 with ⟨l,t,g1,g2,g3⟩|⟨_,g1,g2,g3,g4⟩
    ·rw [g1]
     exact ⟨_,_,rfl,by simp [Ta.sz];omega,fun h=>by simp only at h;rw [g2] at h;cases h⟩
    ·rw [g4]
     have h0:=g3.1;have h1:=g3.2.1
     refine ⟨_,_,rfl,?_,fun _ _ _=> ?_⟩
     ·have h9:=hW.2;simp [Ta.sz,zb3] at h0 h1 h9 ⊢;omega
     obtain ⟨a1,a2,a3,a4,a5,r',rfl⟩:=zqw (r:=r) (by simp at g1;omega)
     have b1:=hB a1 (by simp);have b2:=hB a2 (by simp);have b3:=hB a3 (by simp);have b4:=hB a4 (by simp);have b5:=hB a5 (by simp)
     have hBr:∀ x∈r',isB x:=fun x hx=>hB x (by simp [hx])
     have w:zaa (15::a1::a2::a3::a4::a5::r') (1+2)=a3 * 256+a4:=by simp [zaa]
     rw [w] at g3 h0 h1 ⊢
     have hd:(15::a1::a2::a3::a4::a5::r').drop (5+1)=r':=rfl
     rw [hd] at g3 h1 ⊢
     have hp:=zp4 hBr g3
     have hlen:(zb3 r' (a3 * 256+a4).toNat).length=(a3 * 256+a4).toNat:=by simp [zb3]
     have hL:(((zb3 r' (a3 * 256+a4).toNat).length:Nat):Int)=a3 * 256+a4:=by rw [hlen];omega
     have h5:((r'.length:Nat):Int)=a5:=by simp at g2;omega
     have h5m:((r'.length:Nat):Int) % 256=a5:=by rw [h5];exact zum b5.1 b5.2
     unfold zap
     simp only [Int.reduceEq,if_false,or_self,if_true,hp,hL,h5m,zfr b3 b4]
     simp [zaa,zfr b1 b2]
   ·rw [zcd (by omega) (by omega)]
    exact badw 3 _ h3
  ·rw [zcd (by omega) (by omega)]
   simp only [Option.bind_some]
   rw [zco (by omega) hB]
   exact badw 1 _ (by simp)
 ·intro q' h1 h2
  obtain ⟨e1,e3,e2⟩:=zhc h1 h2
  rw [e1]
  subst e2
  generalize q'.fe=A at *
  generalize q'.fc=W at *
  have hpl:=zdi W
  have hlen:((15:Int)::(wb A++(wb (W.length:Int)++(((zfp W).length:Int) % 256::zfp W)))).length=6+(zfp W).length:=by simp [wb];omega
  have w1:zaa (15::(wb A++(wb (W.length:Int)++(((zfp W).length:Int) % 256::zfp W)))) 1=A:=by simp [zaa,wb,zdn]
  have w2:zaa (15::(wb A++(wb (W.length:Int)++(((zfp W).length:Int) % 256::zfp W)))) 3=W.length:=by simp [zaa,wb,zdn]
  rw [zb2 (by omega) hB (by omega),w1]
  simp only [Option.bind_some]
  rw [zb2 (by omega) hB (by omega),w2]
  simp only [Option.bind_some]
  have hd:((15:Int)::(wb A++(wb (W.length:Int)++(((zfp W).length:Int) % 256::zfp W)))).drop (5+1)=zfp W:=by simp [wb]
  have ho:=zsc W
  have hb:=zjl W
  unfold x_cs
  rw [zdv (n:=5) (by omega) hB (by omega),hd]
  simp only [Option.bind_some]
  rw [yio (by omega) (zyz W),if_pos ho]
  have hc:decide (((((15:Int)::(wb A++(wb (W.length:Int)++(((zfp W).length:Int) % 256::zfp W)))).length - (5+1):Nat):Int)≠((15:Int)::(wb A++(wb (W.length:Int)++(((zfp W).length:Int) % 256::zfp W)))).getD 5 0)=false:=by
   rw [hlen];simp [wb];omega
  simp only [Option.bind_some,hc,cond_false,zb1,hb]
  rfl
def zkb (b:List Int) (x:Option (Ta×Int)):Prop:=∃ q c,x=some (q,c)/\((c=1/\(b=[]\/∃ k r,b=k::r/\zow k=false))\/((∃ k r,b=k::r/\zow k=true)/\((c=0/\zeo q=true/\zap q=b)\/(c=3/\∀ q',zeo q'=true->zap q'≠b))))
theorem zse {k:Int} (h:zow k=true):k=1\/k=2\/k=3\/k=4\/k=5\/k=6\/k=15\/k=16\/k=22\/k=23:=by
 simp [zow,zfo] at h;omega
theorem zl7 {k:Int} {r:List Int} (hk:zow k=true) (hl:(k::r).length<=1048576) (hB:∀ x∈k::r,isB x):zfy (k::r) (x_cu k ⟨k::r,1,false⟩):=by
 rcases zse hk with h|h|h|h|h|h|h|h|h|h
 ·exact (zeh (.inl h) hl hB).two
 ·exact (zeh (.inr (.inl h)) hl hB).two
 ·exact (zeh (.inr (.inr (.inl h))) hl hB).two
 ·exact (zeh (.inr (.inr (.inr h))) hl hB).two
 ·subst h;exact zpf hl hB
 ·exact zhq (.inl ⟨h,rfl⟩) hl hB
 ·subst h;exact zoi hl hB
 ·subst h;exact zr5 hl hB
 ·exact zhq (.inr ⟨h,rfl⟩) hl hB
 ·subst h;exact zq3 hl hB
theorem zyr {b:List Int} (hl:b.length<=1048576) (hB:∀ x∈b,isB x):zkb b (ydi b):=by
 cases b with
 | nil=>exact ⟨_,_,rfl,.inl ⟨rfl,.inl rfl⟩⟩
 | cons k r=>
   have hk0:=hB k (by simp)
   have hd:decide (((((k::r).length:Nat):Int))=0)=false:=by simp;omega
   unfold ydi
   rw [hd]
   simp only [cond_false,show (0:Int).toNat=0 from rfl,List.getElem?_cons_zero,Option.bind_some]
   rw [zae (n:=k) (by have:=hk0.1;omega) (by have:=hk0.2;omega),ykg,Option.bind_some]
   cases hk:zow k with
   | false=>exact ⟨_,_,rfl,.inl ⟨rfl,.inr ⟨k,r,rfl,hk⟩⟩⟩
   | true=>
     simp only [Bool.not_true,cond_false]
     obtain ⟨⟨q,t,h1,h2,h3⟩,h4⟩:=zl7 hk hl hB
     rw [h1]
     simp only [Option.bind_some]
     have no3:(t.fbad=true\/t.fat≠(((k::r).length:Nat):Int)\/zeo q=false)->∀ q',zeo q'=true->zap q'≠k::r:=by
      intro hh q' g1 g2
      have:=h4 q' g1 g2
      rw [h1] at this
      simp only [Option.some.injEq,Prod.mk.injEq] at this
      obtain ⟨rfl,rfl⟩:=this
      rcases hh with hh|hh|hh
      ·cases hh
      ·exact hh rfl
      ·rw [g1] at hh;cases hh
     cases hb:t.fbad with
     | true=>exact ⟨_,_,rfl,.inr ⟨⟨k,r,rfl,hk⟩,.inr ⟨rfl,no3 (.inl hb)⟩⟩⟩
     | false=>
       simp only [cond_false]
       by_cases hat:t.fat=(((k::r).length:Nat):Int)
       ·have hd2:decide (t.fat≠(((k::r).length:Nat):Int))=false:=by simp [hat]
        rw [hd2]
        simp only [cond_false]
        rw [ynf q h2,Option.bind_some]
        cases hr:zeo q with
        | false=>exact ⟨_,_,rfl,.inr ⟨⟨k,r,rfl,hk⟩,.inr ⟨rfl,no3 (.inr (.inr hr))⟩⟩⟩
        | true=>exact ⟨_,_,rfl,.inr ⟨⟨k,r,rfl,hk⟩,.inl ⟨rfl,hr,h3 hb hat hr⟩⟩⟩
       ·have hd2:decide (t.fat≠(((k::r).length:Nat):Int))=true:=by simp;exact fun h=>hat (by simpa using h)
        rw [hd2]
        exact ⟨_,_,rfl,.inr ⟨⟨k,r,rfl,hk⟩,.inr ⟨rfl,no3 (.inr (.inl hat))⟩⟩⟩
end Go.Pm
namespace Go.Pm
theorem ysx {α:Type} [DecidableEq α] {β γ:Type} {a c:List α} (hl:a.length<=1048576) {body:Int->α->Unit->Option (Unit⊕(Int⊕Unit))} {last:Unit->Option (Int⊕Unit)} (hlast:last ()=some (.inr ()))
 (hb:∀ k x,body k x ()=(c[k.toNat]?).bind fun v=>(bif !decide (x=v) then some (.inr (.inl k)) else some (.inl ()))):
 (bif decide (((a.length:Nat):Int)≠((c.length:Nat):Int)) then some false else(if a.length<=9223372036854775806 then zb5 body last a 0 () else none).bind (zkj (fun _=>some false) (fun _=>some true)))=some (decide (a=c)):=by
 by_cases he:a.length=c.length
 ·have h0:decide (((a.length:Nat):Int)≠((c.length:Nat):Int))=false:=by simp [he]
  rw [h0,cond_false,yju (fun d x=> !decide (some x=c[d.length]?)) (by omega) hlast (fun d x t h=> ?_)]
  ·have key:∀ (t d:List α),d++t=a->d=c.take d.length->(anyP (fun d x=> !decide (some x=c[d.length]?)) d t=false↔t=c.drop d.length):=by
    intro t
    induction t with
    | nil=>intro d h _;simp [anyP];have:d=a:=by simpa using h
           subst this;simp [he]
    | cons x t ih=>
      intro d h hd
      have hlt:d.length<c.length:=by rw [<- he,<- h];simp
      simp only [anyP,Bool.or_eq_false_iff]
      rw [List.drop_eq_getElem_cons hlt,List.getElem?_eq_getElem hlt]
      by_cases hx:x=c[d.length]
      ·have:=ih (d ++ [x]) (by simpa using h) (by rw [List.length_append,List.length_singleton,List.take_add_one,List.getElem?_eq_getElem hlt,<- hd,hx];rfl)
       simp only [hx,decide_true,Bool.not_true,true_and,List.cons.injEq]
       rw [<- hx,this];simp
      ·exact ⟨fun h=>by simp [hx] at h,fun h=>absurd (List.cons.inj h).1 hx⟩
   have:=key a [] rfl (by simp)
   simp only [List.length_nil,List.drop_zero] at this
   by_cases hac:a=c
   ·rw [if_neg (by rw [this.2 hac];simp)];simp [hac]
   ·have hp:anyP (fun d x=> !decide (some x=c[d.length]?)) [] a=true:=by
     cases h:anyP (fun d x=> !decide (some x=c[d.length]?)) [] a
     ·exact absurd (this.1 h) hac
     ·rfl
    rw [if_pos hp];simp [hac]
  ·have hlt:d.length<c.length:=by rw [<- he,<- h];simp
   refine ⟨((d.length:Nat):Int),?_⟩
   rw [hb,zb1,List.getElem?_eq_getElem hlt,Option.bind_some]
   by_cases hx:x=c[d.length] <;> simp [hx]
 ·have h0:decide (((a.length:Nat):Int)≠((c.length:Nat):Int))=true:=by simp;omega
  rw [h0,cond_true]
  have:¬ a=c:=fun e=>he (by rw [e])
  simp [this]
theorem yrn (a b:List Int) (h:a.length<=1048576):zto a b=some (decide (a=b)):=by
 rw [zto];unfold zqp
 exact ysx (β:=Unit) (γ:=Unit) h rfl (fun k x=>by rw [zv5];simp only [ne_eq,decide_not])
def zm2 (q:Ta) (b:List Int):Option (Ta×Int):=
 (zsk q).bind fun(v17:Bool)=>(bif !v17 then(some ((⟨0,0,0,[],[],0⟩:Ta),3)) else((ztq q).bind fun(v19:List Int)=>((zto v19 b).bind fun(v20:Bool)=>(bif !v20 then(some ((⟨0,0,0,[],[],0⟩:Ta),3)) else(some (q,0))))))
theorem ztc {q:Ta} (h:zeo q=true):(zap q).length<=300:=by
 have hs:=zg8 h
 have hp:=zdi q.fc
 unfold zap
 simp only [List.length_cons,List.length_append]
 have hw:∀ n,(wb n).length=2:=fun _=>rfl
 have hws:=zgb q.fa
 split
 ·simp [hw]
 ·split
  ·rw [hws];simp [hw];omega
  ·split
   ·simp [hw,hp];omega
   ·split
    ·simp [hw,hws];omega
    ·split
     ·simp [hw,hws];omega
     ·simp [hw]
theorem ze8 {q:Ta} {k:Int} {r:List Int} (hq:q.sz<=1048576) (hk:zow k=true) (hc:∀ q',zeo q'=true->zap q'=k::r->q=q'):zkb (k::r) (zm2 q (k::r)):=by
 unfold zm2
 rw [yjz q hq,Option.bind_some]
 cases hr:zeo q with
 | false=>exact ⟨_,_,rfl,.inr ⟨⟨k,r,rfl,hk⟩,.inr ⟨rfl,fun q' g1 g2=>by have:=hc q' g1 g2;subst this;rw [g1] at hr;cases hr⟩⟩⟩
 | true=>
   rw [ypx hq,if_pos hr]
   simp only [Bool.not_true,cond_false,Option.bind_some]
   rw [yrn _ _ (by have:=ztc hr;omega),Option.bind_some]
   by_cases he:zap q=k::r
   ·simp only [he,decide_true,Bool.not_true,cond_false]
    exact ⟨_,_,rfl,.inr ⟨⟨k,r,rfl,hk⟩,.inl ⟨rfl,hr,he⟩⟩⟩
   ·simp only [he,decide_false,Bool.not_false,cond_true]
    exact ⟨_,_,rfl,.inr ⟨⟨k,r,rfl,hk⟩,.inr ⟨rfl,fun q' g1 g2=>by have:=hc q' g1 g2;subst this;exact he g2⟩⟩⟩
theorem zij {b:List Int} {n:Nat} (hl:b.length<=1048576) (hB:∀ x∈b,isB x) (hn:n<=1048576):yah b (n:Int)=some (zah b n ((b.length - n) / 2)):=by
 unfold yah zr7
 have key:∀ (j i f:Nat),i+j=(b.length - n) / 2->j<f->zcf (zms b (n:Int)) f (zah b n i,((n+2 * i:Nat):Int))=some (zah b n ((b.length - n) / 2),((n+2 * ((b.length - n) / 2):Nat):Int)):=by
  intro j
  induction j with
  | zero=>
    intro i f hi hf
    obtain ⟨f,rfl⟩:∃ q,f=q+1:=⟨f - 1,by omega⟩
    have:i=(b.length - n) / 2:=by omega
    subst this
    rw [zcf,zms]
    dsimp only
    rw [zae (n:=((n+2 * ((b.length - n) / 2):Nat):Int)+1) (by omega) (by omega)]
    have hd:decide (((n+2 * ((b.length - n) / 2):Nat):Int)+1<((b.length:Nat):Int))=false:=by simp;omega
    rw [hd];rfl
  | succ j ih=>
    intro i f hi hf
    obtain ⟨f,rfl⟩:∃ q,f=q+1:=⟨f - 1,by omega⟩
    rw [zcf,zms]
    dsimp only
    rw [zae (n:=((n+2 * i:Nat):Int)+1) (by omega) (by omega)]
    have hd:decide (((n+2 * i:Nat):Int)+1<((b.length:Nat):Int))=true:=by simp;omega
    rw [hd,cond_true,zl5 (by omega) hB (by omega)]
    simp only [Option.bind_some]
    rw [if_pos (by simp [zah];omega),zae (n:=((n+2 * i:Nat):Int)+2) (by omega) (by omega)]
    have:=ih (i+1) f (by omega) (by omega)
    have e1:zah b n i ++ [zaa b (n+2 * i)]=zah b n (i+1):=by simp [zah,List.range_succ]
    have e2:((n+2 * i:Nat):Int)+2=((n+2 * (i+1):Nat):Int):=by push_cast;omega
    rw [e1,e2]
    exact this
 have:=key ((b.length - n) / 2) 0 BIG (by omega) (by simp only [BIG];omega)
 simp only [Nat.mul_zero,Nat.add_zero,show zah b n 0=[] from rfl] at this
 rw [this];rfl
theorem zh9 {b:List Int} (n:Nat) (hl:b.length<=1048576) (hB:∀ x∈b,isB x):∃ v ok,zxa b (n:Int)=some (v,ok)/\isW v/\(n+2<=b.length->v=zaa b n):=by
 by_cases h:n+2<=b.length
 ·exact ⟨_,_,zl5 (by omega) hB h,zfn hB h,fun _=>rfl⟩
 ·exact ⟨_,_,zsp (by omega) (by omega),⟨by omega,by omega⟩,fun g=>absurd g h⟩
theorem ybw {b:List Int} {n:Int} {r:List Bool×Bool} (hl:b.length<=1048576) (h:ycd b n=some r) (hr:r.1.length<=8 * b.length) (hn:n<=65535):r.1.length<=65543:=by
 by_cases h2:n<=8 * ((b.length:Nat):Int) - 8
 ·unfold ycd at h
  rw [zae (n:=8 * ((b.length:Nat):Int)) (by omega) (by omega),zae (n:=8 * ((b.length:Nat):Int) - 8) (by omega) (by omega)] at h
  have h1:¬ 8 * ((b.length:Nat):Int)<n:=by omega
  simp only [h1,h2,decide_false,decide_true,cond_true,cond_false] at h
  have:r.1=[]:=by
   cases hd:decide (n<0) <;> cases hz:decide (n=0) <;> simp only [hd,hz,cond_true,cond_false,Option.some.injEq] at h <;> (rw [<- h])
  rw [this];simp
 ·omega
theorem zyc {b:List Int} (hl:b.length<=1048576) (hB:∀ x∈b,isB x):zkb b (ydb b):=by
 cases b with
 | nil=>exact ⟨_,_,rfl,.inl ⟨rfl,.inl rfl⟩⟩
 | cons k r=>
   have hk0:=hB k (by simp)
   have hd:decide (((((k::r).length:Nat):Int))=0)=false:=by simp;omega
   unfold ydb
   rw [hd]
   simp only [cond_false,show (0:Int).toNat=0 from rfl,List.getElem?_cons_zero,Option.bind_some]
   rw [zae (n:=k) (by have:=hk0.1;omega) (by have:=hk0.2;omega),yre,Option.bind_some]
   cases hk:zow k with
   | false=>exact ⟨_,_,rfl,.inl ⟨rfl,.inr ⟨k,r,rfl,hk⟩⟩⟩
   | true=>
     simp only [Bool.not_true,cond_false]
     obtain ⟨A,oa,hA,wA,eA⟩:=zh9 1 hl hB
     obtain ⟨N,on,hN,wN,eN⟩:=zh9 3 hl hB
     rw [show ((1:Nat):Int)=1 from rfl] at hA
     rw [show ((3:Nat):Int)=3 from rfl] at hN
     rw [hA,hN]
     simp only [Option.bind_some]
     have read:∀ (hkk:k=1\/k=2\/k=3\/k=4),zkb (k::r) (zm2 ⟨k,A,N,[],[],0⟩ (k::r)):=by
      intro hkk
      refine ze8 (by simp [Ta.sz]) hk fun q' h1 h2=> ?_
      obtain ⟨e1,e2⟩:=zju hkk h1 h2
      subst e2
      rw [e1,eA (by simp [wb]),eN (by simp [wb])]
      simp [zaa,wb,zdn]
     have words:∀ m,((k=6/\m=1)\/(k=22/\m=2))->zkb (k::r) (zm2 ⟨k,A,0,zah (k::r) 3 (((k::r).length - 3) / 2),[],0⟩ (k::r)):=by
      intro m hkk
      refine ze8 (by simp only [Ta.sz,zbu,List.length_nil];omega) hk fun q' h1 h2=> ?_
      obtain ⟨e1,e3,e2⟩:=zl9 hkk h1 h2
      rw [e1]
      subst e2
      generalize q'.fe=X at *
      generalize q'.fa=W at *
      have w2:zah (k::(wb X++wbs W)) 3 W.length=W:=by
       have:=zc6 W (k::wb X)
       simpa [wb] using this
      have hlen:((k::(wb X++wbs W)).length - 3) / 2=W.length:=by simp [wb,zgb]
      rw [eA (by simp [wb]),hlen,w2]
      simp [zaa,wb,zdn]
     rcases zse hk with h|h|h|h|h|h|h|h|h|h
     ·have:=read (.inl h);subst h;exact this
     ·have:=read (.inr (.inl h));subst h;exact this
     ·have:=read (.inr (.inr (.inl h)));subst h;exact this
     ·have:=read (.inr (.inr (.inr h)));subst h;exact this
     ·subst h
      show zkb (5::r) (zm2 ⟨5,A,0,[],[decide (N≠0)],0⟩ (5::r))
      refine ze8 (by simp [Ta.sz]) hk fun q' h1 h2=> ?_
      obtain ⟨x,e1,e2⟩:=zom h1 h2
      subst e2
      rw [e1,eA (by simp [wb]),eN (by simp [wb])]
      cases x <;> simp [zaa,wb,zdn]
     ·have g:=zij (n:=3) hl hB (by omega)
      rw [show ((3:Nat):Int)=3 from rfl] at g
      have:=words 1 (.inl ⟨h,rfl⟩)
      subst h
      simp only [Int.reduceEq,decide_false,decide_true,cond_false,cond_true,g,Option.bind_some]
      exact this
     ·subst h
      simp only [Int.reduceEq,decide_false,decide_true,cond_false,cond_true]
      by_cases h6:6<(((15:Int)::r).length)
      ·have hd6:decide ((6:Int)<((((15:Int)::r).length:Nat):Int))=true:=by simp at h6 ⊢;omega
       rw [hd6,cond_true,if_pos ⟨by omega,by simp at h6 ⊢;omega,Int.le_refl _⟩]
       rw [show ((((15:Int)::r).map (V.int .u8)).length:Int).toNat=((15:Int)::r).length by simp,List.take_length,show (6:Int).toNat=6 from rfl]
       obtain ⟨u,g1,g2,g3⟩:=yog (b:=((15:Int)::r).drop 6) (n:=N) (by rw [List.length_drop];omega) (zih hB)
       rw [g1]
       simp only [Option.bind_some]
       show zkb (15::r) (zm2 ⟨15,A,0,[],u.1,0⟩ (15::r))
       have g9:=ybw (by rw [List.length_drop];omega) g1 g2 wN.2
       refine ze8 (by simp only [Ta.sz,List.length_nil];omega) hk fun q' h1 h2=> ?_
       obtain ⟨e1,e3,e2⟩:=zhc h1 h2
       have hn1:1<=q'.fc.length:=by
        obtain ⟨_,_,_,_,_,_,_,_,f5,_⟩:=zb7 h1
        exact (f5 (by rw [e1])).2.2.1
       rw [e1]
       subst e2
       generalize q'.fe=X at *
       generalize q'.fc=W at *
       have hdd:((15:Int)::(wb X++(wb (W.length:Int)++(((zfp W).length:Int) % 256::zfp W)))).drop 6=zfp W:=by simp [wb]
       have hNN:N=(W.length:Int):=by rw [eN (by simp [wb])];simp [zaa,wb,zdn]
       rw [hdd,hNN] at g3
       have e:=g3 (zsc W) (by omega)
       rw [zb1,zjl] at e
       rw [e,eA (by simp [wb])]
       simp [zaa,wb,zdn]
      ·have hd6:decide ((6:Int)<((((15:Int)::r).length:Nat):Int))=false:=by simp at h6 ⊢;omega
       rw [hd6,cond_false]
       show zkb (15::r) (zm2 ⟨15,A,0,[],[],0⟩ (15::r))
       refine ze8 (by simp [Ta.sz]) hk fun q' h1 h2=> ?_
       obtain ⟨e1,e3,e2⟩:=zhc h1 h2
       have hn1:1<=q'.fc.length:=by
        obtain ⟨_,_,_,_,_,_,_,_,f5,_⟩:=zb7 h1
        exact (f5 (by rw [e1])).2.2.1
       exfalso
       have:=zdi q'.fc
       have hL:r.length=5+(zfp q'.fc).length:=by rw [e2];simp [wb];omega
       simp at h6;omega
     ·subst h
      have g:=zij (n:=6) hl hB (by omega)
      rw [show ((6:Nat):Int)=6 from rfl] at g
      simp only [Int.reduceEq,decide_false,decide_true,cond_false,cond_true,g,Option.bind_some]
      show zkb (16::r) (zm2 ⟨16,A,0,zah (16::r) 6 ((((16:Int)::r).length - 6) / 2),[],0⟩ (16::r))
      refine ze8 (by simp only [Ta.sz,zbu,List.length_nil];omega) hk fun q' h1 h2=> ?_
      obtain ⟨e1,e3,e2⟩:=zo7 h1 h2
      rw [e1]
      subst e2
      generalize q'.fe=X at *
      generalize q'.fa=W at *
      have w2:zah (16::(wb X++(wb (W.length:Int)++(2 * (W.length:Int) % 256::wbs W)))) 6 W.length=W:=by
       have:=zc6 W (16::(wb X++(wb (W.length:Int) ++ [2 * (W.length:Int) % 256])))
       simpa [wb] using this
      have hlen:(((16:Int)::(wb X++(wb (W.length:Int)++(2 * (W.length:Int) % 256::wbs W)))).length - 6) / 2=W.length:=by simp [wb,zgb]
      rw [eA (by simp [wb]),hlen,w2]
      simp [zaa,wb,zdn]
     ·have g:=zij (n:=3) hl hB (by omega)
      rw [show ((3:Nat):Int)=3 from rfl] at g
      have:=words 2 (.inr ⟨h,rfl⟩)
      subst h
      simp only [Int.reduceEq,decide_false,decide_true,cond_false,cond_true,g,Option.bind_some]
      exact this
     ·subst h
      have g:=zij (n:=10) hl hB (by omega)
      rw [show ((10:Nat):Int)=10 from rfl] at g
      obtain ⟨U,ou,hU,wU,eU⟩:=zh9 5 hl hB
      rw [show ((5:Nat):Int)=5 from rfl] at hU
      simp only [Int.reduceEq,decide_false,decide_true,cond_false,cond_true,g,hU,Option.bind_some]
      show zkb (23::r) (zm2 ⟨23,A,N,zah (23::r) 10 ((((23:Int)::r).length - 10) / 2),[],U⟩ (23::r))
      refine ze8 (by simp only [Ta.sz,zbu,List.length_nil];omega) hk fun q' h1 h2=> ?_
      obtain ⟨e1,e3,e2⟩:=znk h1 h2
      rw [e1]
      subst e2
      generalize q'.fe=X at *
      generalize q'.fN=Y at *
      generalize q'.ff=Z at *
      generalize q'.fa=W at *
      have w2:zah (23::(wb X++(wb Y++(wb Z++(wb (W.length:Int)++(2 * (W.length:Int) % 256::wbs W)))))) 10 W.length=W:=by
       have:=zc6 W (23::(wb X++(wb Y++(wb Z++(wb (W.length:Int) ++ [2 * (W.length:Int) % 256])))))
       simpa [wb] using this
      have hlen:(((23:Int)::(wb X++(wb Y++(wb Z++(wb (W.length:Int)++(2 * (W.length:Int) % 256::wbs W)))))).length - 10) / 2=W.length:=by simp [wb,zgb]
      rw [eA (by simp [wb]),eN (by simp [wb]),eU (by simp [wb]),hlen,w2]
      simp [zaa,wb,zdn]
end Go.Pm
namespace Go.Pm
open IntKind (i64)
def mk {α:Type} (f:Int->α) (k:Int) (n:Nat):List α:=(List.range n).map fun(i:Nat)=>f (k+(i:Int))
theorem zdj {α:Type} (f:Int->α) (k:Int) (n:Nat):(mk f k n).length=n:=by simp [mk]
theorem yas {α:Type} (f:Int->α) (k:Int) (n:Nat):mk f k (n+1)=mk f k n ++ [f (k+(n:Int))]:=by simp [mk,List.range_succ]
theorem ya4 {n:Int} (h0:0<=n) (h1:n<=4611686018427387904):i64.wrap n=n:=zae (by omega) (by omega)
theorem ybn {α:Type} (f:Int->α) (g:α->V) {body:List α×Int×Int->Option ((List α×Int×Int)⊕(List α×Int×Int))}
 (hb:∀ s,body s=bif decide (s.2.2<((s.1.length:Nat):Int)) then(if 0<=s.2.2/\(s.2.2:Int)<(((s.1.map g).length - 0:Nat):Int) then(((s.1)[s.2.2.toNat]?).bind fun _=>(some (.inl (s.1.set (s.2.2.toNat) (f s.2.1),(i64.wrap (s.2.1+1)),(i64.wrap (s.2.2+1)))))) else none) else(some (.inr (s.1,s.2.1,s.2.2))))
 (l:List α) {k:Int} (hl:l.length<=1048576) (hk:0<=k) (hk':k<=1099511627776):zcf body BIG (l,k,0)=some (mk f k l.length,k+(l.length:Int),(l.length:Int)):=by
 have key:∀ (j i n:Nat),i+j=l.length->j<n->zcf body n (mk f k i++l.drop i,k+(i:Int),(i:Int))=some (mk f k l.length,k+(l.length:Int),(l.length:Int)):=by
  intro j
  induction j with
  | zero=>
    intro i n hi hn
    obtain ⟨n,rfl⟩:∃ q,n=q+1:=⟨n - 1,by omega⟩
    have:i=l.length:=by omega
    subst this
    rw [zcf,hb]
    have hlen:(mk f k l.length++l.drop l.length).length=l.length:=by rw [List.length_append,zdj,List.length_drop];omega
    have hd:decide ((l.length:Int)<(((mk f k l.length++l.drop l.length).length:Nat):Int))=false:=by rw [hlen];simp
    simp only [hd,cond_false,Option.bind_some]
    simp
  | succ j ih=>
    intro i n hi hn
    obtain ⟨n,rfl⟩:∃ q,n=q+1:=⟨n - 1,by omega⟩
    have hil:i<l.length:=by omega
    rw [zcf,hb]
    have hlen:(mk f k i++l.drop i).length=l.length:=by rw [List.length_append,zdj,List.length_drop];omega
    have hd:decide ((i:Int)<(((mk f k i++l.drop i).length:Nat):Int))=true:=by rw [hlen];simp;omega
    simp only [hd,cond_true]
    rw [if_pos ⟨by omega,by rw [List.length_map,hlen];omega⟩]
    have hg:(mk f k i++l.drop i)[((i:Nat):Int).toNat]? =some l[i]:=by
     rw [Int.toNat_natCast,List.getElem?_append_right (by rw [zdj];omega),zdj,Nat.sub_self,List.getElem?_drop,Nat.add_zero,List.getElem?_eq_getElem hil]
    have hset:(mk f k i++l.drop i).set ((i:Nat):Int).toNat (f (k+(i:Int)))=mk f k (i+1)++l.drop (i+1):=by
     rw [Int.toNat_natCast,List.set_append_right _ _ (by rw [zdj];omega),zdj,Nat.sub_self,List.drop_eq_getElem_cons hil,List.set_cons_zero,yas,List.append_assoc];rfl
    rw [hg,hset]
    simp only [Option.bind_some]
    rw [ya4 (n:=k+(i:Int)+1) (by omega) (by omega),ya4 (n:=(i:Int)+1) (by omega) (by omega)]
    have:=ih (i+1) n (by omega) (by omega)
    rw [show k+(i:Int)+1=k+((i+1:Nat):Int) by omega,show (i:Int)+1=((i+1:Nat):Int) by omega]
    exact this
 have:=key l.length 0 BIG (by omega) (by simp only [BIG];omega)
 simpa [mk] using this
theorem ya9 {α:Type} [DecidableEq α] (f:Int->α) {body:Int->α->Int->Option (Int⊕((Int×Int)⊕Int))} {last:Int->Option ((Int×Int)⊕Int)}
 (hb:∀ k x s,x=f s->body k x s=some (.inl (i64.wrap (s+1)))) (hlast:∀ s,last s=some (.inr s)) (n:Nat) {k:Int} (hk:0<=k) (hk':k<=1099511627776) (hn:n<=1048576):
 (if (mk f k n).length<=9223372036854775806 then zb5 body last (mk f k n) 0 k else none)=some (.inr (k+(n:Int))):=by
 rw [if_pos (by rw [zdj];omega)]
 have key:∀ (j i:Nat) (q:Int),i+j=n->zb5 body last ((mk f k n).drop i) q (k+(i:Int))=some (.inr (k+(n:Int))):=by
  intro j
  induction j with
  | zero=>
    intro i q hi
    have:i=n:=by omega
    subst this
    rw [List.drop_of_length_le (by rw [zdj];omega),zb5,hlast]
  | succ j ih=>
    intro i q hi
    have hil:i<(mk f k n).length:=by rw [zdj];omega
    rw [List.drop_eq_getElem_cons hil,zb5,hb _ _ _ (by simp [mk])]
    simp only [Option.bind_some]
    rw [ya4 (n:=k+(i:Int)+1) (by omega) (by omega),show k+(i:Int)+1=k+((i+1:Nat):Int) by omega]
    exact ih (i+1) (q+1) (by omega)
 have:=key n 0 0 (by omega)
 simpa using this
def m8 (k:Int):Int:=IntKind.u8.wrap k
def mB (k:Int):Bool:=decide ((k.tmod 3)=0)
theorem zja (l:List Int) {k:Int} (hl:l.length<=1048576) (hk:0<=k) (hk':k<=1099511627776):ycv l k=some (k+(l.length:Int),mk m8 k l.length):=by
 unfold ycv zpe
 rw [ybn m8 (V.int .u8) (fun s=>by rw [ztw];rfl) l hl hk hk'];rfl
theorem ztg (l:List Int) {k:Int} (hl:l.length<=1048576) (hk:0<=k) (hk':k<=1099511627776):yg1 l k=some (k+(l.length:Int),mk id k l.length):=by
 unfold yg1 zrc
 rw [ybn id (V.int .i64) (fun s=>by rw [zuk];rfl) l hl hk hk'];rfl
theorem zpo (l:List Bool) {k:Int} (hl:l.length<=1048576) (hk:0<=k) (hk':k<=1099511627776):yg3 l k=some (k+(l.length:Int),mk mB k l.length):=by
 unfold yg3 zp9
 rw [ybn mB V.bool (fun s=>by rw [zuo];rfl) l hl hk hk'];rfl
theorem zr9 (n:Nat) {k:Int} (hk:0<=k) (hk':k<=1099511627776) (hn:n<=1048576):ycp (mk m8 k n) k=some (k+(n:Int)):=by
 unfold ycp zqr
 have e:=ya9 (body:=zq4 (mk m8 k n)) (last:=zvg (mk m8 k n)) m8 (fun q x s h=>by rw [zq4,h];simp [m8]) (fun _=>rfl) n hk hk' hn
 rw [e];rfl
theorem zsy (n:Nat) {k:Int} (hk:0<=k) (hk':k<=1099511627776) (hn:n<=1048576):ygi (mk id k n) k=some (k+(n:Int)):=by
 unfold ygi zql
 have e:=ya9 (body:=zp1 (mk id k n)) (last:=zue (mk id k n)) id (fun q x s h=>by rw [zp1,h];simp) (fun _=>rfl) n hk hk' hn
 rw [e];rfl
theorem zp5 (n:Nat) {k:Int} (hk:0<=k) (hk':k<=1099511627776) (hn:n<=1048576):ygo (mk mB k n) k=some (k+(n:Int)):=by
 unfold ygo zqn
 have e:=ya9 (body:=zq0 (mk mB k n)) (last:=zv3 (mk mB k n)) mB (fun q x s h=>by rw [zq0,h];simp [mB]) (fun _=>rfl) n hk hk' hn
 rw [e];rfl
theorem zmp {α:Type} {l:List α} {n:Nat} (h:l.length=n):(l.take n).drop 0=l:=by subst h;simp
theorem zur (b:Td) {k:Int} (hl:b.sz<=1048576) (hk:0<=k) (hk':k<=1099511627776):yg7 b k=some (k+(b.fg.length:Int),{ b with fg:=mk m8 k b.fg.length }):=by
 simp only [Td.sz] at hl
 unfold yg7
 rw [zja _ hl hk hk']
 simp only [Option.bind_some,List.length_map,zdj,Nat.le_refl,if_true]
 rw [zmp (zdj _ _ _)]
theorem zut (b:Ta) {k:Int} (hl:b.sz<=1048576) (hk:0<=k) (hk':k<=1000000000000):yff b k=some (k+(b.fa.length:Int)+(b.fc.length:Int),{ b with fa:=mk id k b.fa.length,fc:=mk mB (k+(b.fa.length:Int)) b.fc.length }):=by
 simp only [Ta.sz] at hl
 unfold yff
 rw [ztg _ (by omega) hk (by omega)]
 simp only [Option.bind_some]
 rw [zpo _ (by omega) (by omega) (by omega)]
 simp only [Option.bind_some,List.length_map,zdj,Nat.le_refl,if_true]
 rw [zmp (zdj _ _ _),zmp (zdj _ _ _)]
theorem dlt {n:Int} (h:0<=n):decide (n<0)=false:=by simp;omega
theorem zv0 (b:Ta) {k:Int} (n m:Nat) (hn:n<=1048576) (hm:m<=1048576) (hk:0<=k) (hk':k<=1000000000000):ydk { b with fa:=mk id k n,fc:=mk mB (k+(n:Int)) m } k=some (k+(n:Int)+(m:Int)):=by
 unfold ydk
 dsimp only
 rw [zsy n hk (by omega) hn]
 simp only [Option.bind_some]
 rw [dlt (by omega)]
 simp only [cond_false]
 rw [zp5 m (by omega) (by omega) hm]
 simp only [Option.bind_some]
 rw [dlt (by omega)];rfl
end Go.Pm
namespace Go.Pm
theorem zyf {b:List Int} (hl:b.length<=1048576) (hB:∀ x∈b,isB x):∃ q c q',ydi b=some (q,c)/\ydb b=some (q',c)/\(c=0\/c=1\/c=3)/\(c=0->q=q'/\q.sz<=1048576):=by
 obtain ⟨q,c,i1,i2⟩:=zyr hl hB
 obtain ⟨q',c',s1,s2⟩:=zyc hl hB
 have hcc:c=c':=by
  rcases i2 with ⟨a1,a2⟩|⟨⟨k,r,a2,a3⟩,a4⟩
  ·rcases s2 with ⟨b1,_⟩|⟨⟨k,r,b2,b3⟩,_⟩
   ·rw [a1,b1]
   ·rcases a2 with a2|⟨k',r',a2,a3⟩
    ·rw [a2] at b2;cases b2
    ·rw [a2] at b2;cases b2;rw [a3] at b3;cases b3
  ·rcases s2 with ⟨b1,b2⟩|⟨_,b4⟩
   ·rcases b2 with b2|⟨k',r',b2,b3⟩
    ·rw [a2] at b2;cases b2
    ·rw [a2] at b2;cases b2;rw [a3] at b3;cases b3
   ·rcases a4 with ⟨x1,x2,x3⟩|⟨x1,x2⟩
    ·rcases b4 with ⟨y1,_⟩|⟨y1,y2⟩
     ·rw [x1,y1]
     ·exact absurd x3 (y2 _ x2)
    ·rcases b4 with ⟨y1,y2,y3⟩|⟨y1,y2⟩
     ·exact absurd y3 (x2 _ y2)
     ·rw [x1,y1]
 subst hcc
 refine ⟨q,c,q',i1,s1,?_,fun h0=> ?_⟩
 ·rcases i2 with ⟨a1,_⟩|⟨_,⟨a1,_⟩|⟨a1,_⟩⟩
  ·exact .inr (.inl a1)
  ·exact .inl a1
  ·exact .inr (.inr a1)
 ·subst h0
  have hi:zeo q=true/\zap q=b:=by
   rcases i2 with ⟨a1,_⟩|⟨_,⟨_,a2,a3⟩|⟨a1,_⟩⟩
   ·cases a1
   ·exact ⟨a2,a3⟩
   ·cases a1
  have hs:zeo q'=true/\zap q'=b:=by
   rcases s2 with ⟨a1,_⟩|⟨_,⟨_,a2,a3⟩|⟨a1,_⟩⟩
   ·cases a1
   ·exact ⟨a2,a3⟩
   ·cases a1
  have hsm:=zg8 hi.1
  refine ⟨?_,by simp only [Ta.sz];omega⟩
  obtain ⟨k,r,hkr,hk⟩:∃ k r,b=k::r/\zow k=true:=by
   rcases i2 with ⟨a1,_⟩|⟨h,_⟩
   ·cases a1
   ·exact h
  have hp:=zl7 hk (by rw [<- hkr];exact hl) (by rw [<- hkr];exact hB)
  have e1:=hp.2 q hi.1 (by rw [hi.2,hkr])
  have e2:=hp.2 q' hs.1 (by rw [hs.2,hkr])
  rw [e1] at e2
  simp only [Option.some.injEq,Prod.mk.injEq] at e2
  exact e2.1
def ydn (b:Td) (q:Ta) (c:Int):Int×Ta×List Int:=if c=0 then(b.fh,q,[]) else(0,⟨0,0,0,[],[],0⟩,[IntKind.u8.wrap ((BitVec.ofInt IntKind.u8.bits (b.fg.headD 0) ||| BitVec.ofInt IntKind.u8.bits 128).toNat:Nat),c])
theorem zyy {b:Td} (hl:b.fg.length<=1048576) (hB:∀ x∈b.fg,isB x):∃ v:Int×Ta×List Int,ydf b=some v/\yeh b=some v/\v.2.1.sz<=1048576/\v.2.2.length<=2:=by
 obtain ⟨q,c,q',i1,s1,hc,h0⟩:=zyf hl hB
 refine ⟨ydn b q c,?_,?_,?_,?_⟩
 ·unfold ydf ydn
  rw [i1]
  simp only [Option.bind_some]
  rcases hc with hc|hc|hc <;> subst hc <;> cases hb:b.fg <;> simp
 ·unfold yeh ydn
  rw [s1]
  simp only [Option.bind_some]
  rcases hc with hc|hc|hc
  ·subst hc;rw [(h0 rfl).1];simp
  ·subst hc;cases hb:b.fg <;> simp <;> rfl
  ·subst hc;cases hb:b.fg <;> simp <;> rfl
 ·unfold ydn
  by_cases h:c=0
  ·rw [if_pos h];exact (h0 h).2
  ·rw [if_neg h];simp [Ta.sz]
 ·unfold ydn
  by_cases h:c=0
  ·rw [if_pos h];simp
  ·rw [if_neg h];simp
theorem zhb (b:Td) (hb:b.ok):yim b=some true:=by
 rw [yim]
 obtain ⟨h1,h2⟩:=yax b hb 1048576 (by omega) (by omega)
 by_cases hs:b.sz<=1048576
 ·rw [h1 (by omega)]
  have hd:decide ((1048576:Int) - (b.sz:Int)<0)=false:=by simp;omega
  have hs':b.fg.length<=1048576:=hs
  obtain ⟨v,e1,e2,e3,e4⟩:=zyy hs' (fun x hx=>by have h:=hb.2.2.2 x hx;exact ⟨h.1,by omega⟩)
  have e3':=e3
  simp only [Ta.sz] at e3'
  simp only [Option.bind_some,hd,cond_false,yc5 b hs,e1,e2,ybd _ e3,zo5 v.2.2 (by omega),yaz b hs,zur b hs (k:=1) (by omega) (by omega),ne_eq,not_true_eq_false,decide_false,Bool.not_true]
  rw [dlt (by omega)]
  simp only [cond_false,Option.bind_some,zut v.2.1 e3 (k:=1) (by omega) (by omega)]
  rw [zja v.2.2 (by omega) (by omega) (by omega)]
  have hh:=zv0 v.2.1 (k:=1) v.2.1.fa.length v.2.1.fc.length (by omega) (by omega) (by omega) (by omega)
  have hk:=zr9 v.2.2.length (k:=1+(v.2.1.fa.length:Int)+(v.2.1.fc.length:Int)) (by omega) (by omega) (by omega)
  simp only [Option.bind_some,hh,hk]
  rw [dlt (by omega)]
  simp only [cond_false,Option.bind_some,hk]
  rw [dlt (by omega)]
  simp
 ·obtain ⟨r,hr,h0⟩:=h2 (by omega)
  rw [hr]
  have hd:decide (r<0)=true:=by simp;exact h0
  simp only [Option.bind_some,hd,cond_true]
end Go.Pm
