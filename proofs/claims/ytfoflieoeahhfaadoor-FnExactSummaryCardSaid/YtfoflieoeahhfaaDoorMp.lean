/- Proved: the law FnExactSummary answers true at all arguments, for every operating system that has started, where the library's three tables lie as the program's text lays them, and that they lie so is tied to the text. -/
import Derived.Test.YtfoflieoeahhfaaDoorMo
import Derived.Lib.ItoaLen
set_option linter.unusedVariables false
set_option linter.unusedSimpArgs false
namespace Go.Pm
open IntKind (i64)
set_option maxRecDepth 100000
theorem zxf {v1:Int}:(⟨17,[.int .i64 v1],[],ByteArray,if -9223372036854775808<=v1/\v1<=9223372036854775807 then some ⟨(Lib.itoa v1).toArray⟩ else none,fun r=>(.str r,[])⟩:Ctr).okF tab:=by
 intro r hr
 simp only at hr
 split at hr
 ·rename_i h
  cases hr
  refine ⟨?_,rfl,rfl⟩
  show Run tab _ _ _=_
  rw [zy9 yis]
  simp only [zf0]
  rw [if_pos h]
  rfl
 ·cases hr
def zzi (v1:Int):Option ByteArray:=if -9223372036854775808<v1/\v1<=9223372036854775807 then some ⟨(Lib.itoa v1).toArray⟩ else none
def yes (v1:Int):Ctr:=⟨36,[.int .i64 v1],[],ByteArray,zzi v1,fun r=>(.str r,[])⟩
theorem zid (a b:List UInt8):(⟨a.toArray⟩:ByteArray)++⟨b.toArray⟩=⟨(a++b).toArray⟩:=by
 apply ByteArray.ext
 simp [ByteArray.data_append]
theorem zdm (a:List UInt8):(⟨a.toArray⟩:ByteArray).size=a.length:=by simp [ByteArray.size]
theorem zud {n:Int} (h0: -9223372036854775808<=n) (h1:n<=9223372036854775807):i64.wrap n=n:=zny h0 h1
theorem zyl (n:Int) (h0:0<=n) (h1:n<10):zms ([IntKind.u8.wrap (i64.wrap (48+n))]:List Int)=⟨[UInt8.ofNat (48+n.toNat)].toArray⟩:=by
 rw [zud (by omega) (by omega)]
 have:IntKind.u8.wrap (48+n)=48+n:=by
  obtain ⟨m,rfl⟩:=Int.eq_ofNat_of_zero_le h0
  have hm:m<10:=by omega
  match m,hm with
  | 0,_=>rfl|1,_=>rfl|2,_=>rfl|3,_=>rfl|4,_=>rfl|5,_=>rfl|6,_=>rfl|7,_=>rfl|8,_=>rfl|9,_=>rfl
 rw [this]
 have e:(48+n).toNat=48+n.toNat:=by omega
 simp only [zms,List.map_cons,List.map_nil,e]
def ygm (v1:Int):Option ByteArray:=(bif decide (v1<0) then((zzi (i64.wrap (0 - v1))).bind fun(v3:ByteArray)=>(if (⟨#[45]⟩:ByteArray).size+v3.size<=9223372036854775807 then(some ((⟨#[45]⟩:ByteArray)++v3)) else none)) else(bif decide (v1<10) then(some (zms ([(IntKind.u8.wrap (i64.wrap (48+v1)))]:List Int))) else((zzi (i64.wrap (v1.tdiv 10))).bind fun(v6:ByteArray)=>(if v6.size+(zms ([(IntKind.u8.wrap (i64.wrap (48+(v1.tmod 10))))]:List Int)).size<=9223372036854775807 then(some (v6++(zms ([(IntKind.u8.wrap (i64.wrap (48+(v1.tmod 10))))]:List Int)))) else none))))
theorem zxz (v1:Int) (h0: -9223372036854775808<v1) (h1:v1<=9223372036854775807):ygm v1=some ⟨(Lib.itoa v1).toArray⟩:=by
 unfold ygm
 by_cases hn:v1<0
 ·have hl:=Lib.itoa_length_le (0 - v1) (by omega) (by omega)
  have e1:(⟨#[45]⟩:ByteArray)=⟨[(45:UInt8)].toArray⟩:=rfl
  have e2:Lib.itoa v1=45::Lib.itoa (0 - v1):=by
   have hd:¬(0 - v1:Int)<0:=by omega
   have hab:v1.natAbs=(0 - v1).toNat:=by omega
   unfold Lib.itoa
   rw [if_pos hn,if_neg hd,hab]
  simp only [hn,decide_true,cond_true]
  rw [zud (by omega) (by omega)]
  unfold zzi
  rw [if_pos ⟨by omega,by omega⟩,Option.bind_some,e1,zdm,zdm,if_pos (by simp only [List.length_cons,List.length_nil];omega),zid,e2]
  rfl
 ·simp only [hn,decide_false,cond_false]
  have hi:∀ n:Int,0<=n->Lib.itoa n=Lib.decDigits n.toNat:=fun n h=>by unfold Lib.itoa;rw [if_neg (by omega)]
  by_cases ht:v1<10
  ·simp only [ht,decide_true,cond_true]
   rw [zyl v1 (by omega) ht,hi v1 (by omega),Lib.decDigits,dif_pos (by omega)]
  ·simp only [ht,decide_false,cond_false]
   have hq:v1.tdiv 10=v1 / 10:=Int.tdiv_eq_ediv_of_nonneg (by omega)
   have hr:v1.tmod 10=v1 % 10:=Int.tmod_eq_emod_of_nonneg (by omega)
   have hl:=Lib.itoa_length_le (v1 / 10) (by omega) (by omega)
   rw [hq,hr,zud (n:=v1 / 10) (by omega) (by omega),zyl (v1 % 10) (by omega) (by omega)]
   unfold zzi
   rw [if_pos ⟨by omega,by omega⟩,Option.bind_some,zdm,zdm,if_pos (by simp only [List.length_cons,List.length_nil];omega),zid,hi v1 (by omega),hi (v1 / 10) (by omega)]
   conv=>rhs;rw [Lib.decDigits,dif_neg (by omega)]
   have e1:(v1 / 10).toNat=v1.toNat / 10:=by omega
   have e2:(v1 % 10).toNat=v1.toNat % 10:=by omega
   rw [e1,e2]
theorem zoe:∀ (m:Nat) (v1:Int),(if v1<0 then v1.natAbs+1 else v1.toNat)<m->(yes v1).okF tab
 | 0,v1,h=>by omega
 | m+1,v1,h=>fun r hr=>by
   have hr':zzi v1=some r:=hr
   unfold zzi at hr'
   split at hr'
   ·rename_i hb
    cases hr'
    refine ⟨za7 ylw rfl (out:=fun r=>(.str r,[])) (.br (decide (v1<0)) (.callF (yes (i64.wrap (0 - v1))) fun(v3:ByteArray)=>.guard ((⟨#[45]⟩:ByteArray).size+v3.size<=9223372036854775807) inferInstance<|.lfA (fun r=>(V.str r,[])) (⟨#[45]⟩++v3))<|.br (decide (v1<10)) (.eqL [.int .u8 (IntKind.u8.wrap (i64.wrap (48+v1)))] (([(IntKind.u8.wrap (i64.wrap (48+v1)))]:List Int).map (V.int .u8))<|.segA (V.int .u8) ([(IntKind.u8.wrap (i64.wrap (48+v1)))]:List Int)<|.bytA ([(IntKind.u8.wrap (i64.wrap (48+v1)))]:List Int)<|.lfA (fun r=>(V.str r,[])) (zms ([(IntKind.u8.wrap (i64.wrap (48+v1)))]:List Int)))<|.sk<|.callF (yes (i64.wrap (v1.tdiv 10))) fun(v6:ByteArray)=>.sk<|.sk<|.eqL [.int .u8 (IntKind.u8.wrap (i64.wrap (48+(v1.tmod 10))))] (([(IntKind.u8.wrap (i64.wrap (48+(v1.tmod 10))))]:List Int).map (V.int .u8))<|.segA (V.int .u8) ([(IntKind.u8.wrap (i64.wrap (48+(v1.tmod 10))))]:List Int)<|.bytA ([(IntKind.u8.wrap (i64.wrap (48+(v1.tmod 10))))]:List Int)<|.guard (v6.size+(zms ([(IntKind.u8.wrap (i64.wrap (48+(v1.tmod 10))))]:List Int)).size<=9223372036854775807) inferInstance<|.lfA (fun r=>(V.str r,[])) (v6++(zms ([(IntKind.u8.wrap (i64.wrap (48+(v1.tmod 10))))]:List Int))):Tree ByteArray _) (by kernel_rfl) (x:=ygm v1) (by kernel_rfl) ?_ ?_,rfl,rfl⟩
    ·refine ⟨fun hc=>cF (zoe m _ ?_) fun v3=>gU<|rfl,fun hc=>⟨fun _=>⟨rfl,sA<|⟨zfi _,rfl⟩⟩,fun hc2=>cF (zoe m _ ?_) fun v6=>⟨rfl,sA<|⟨zfi _,gU<|rfl⟩⟩⟩⟩
     ·have hn:v1<0:=by simpa using hc
      rw [if_pos hn] at h
      rw [zud (by omega) (by omega),if_neg (by omega)]
      omega
     ·have hn:¬ v1<0:=by simpa using hc
      rw [if_neg hn] at h
      have ht:¬ v1<10:=by simpa using hc2
      have hq:v1.tdiv 10=v1 / 10:=Int.tdiv_eq_ediv_of_nonneg (by omega)
      rw [hq,zud (by omega) (by omega),if_neg (by omega)]
      omega
    ·exact zxz v1 hb.1 hb.2
   ·cases hr'
theorem yan {v1:Int}:(⟨36,[.int .i64 v1],[],ByteArray,if -9223372036854775808<v1/\v1<=9223372036854775807 then some ⟨(Lib.itoa v1).toArray⟩ else none,fun r=>(.str r,[])⟩:Ctr).okF tab:=zoe _ v1 (Nat.lt_succ_self _)
end Go.Pm
namespace Go.Pm
set_option maxRecDepth 100000
set_option maxHeartbeats 400000
structure Tf where
 fg:Int
 fat:Int
 fap:Int
 fan:Int
 fab:Int
 fav:Int
 far:Int
deriving DecidableEq
def Tf.i (a:Tf):V:=.agg [.int .i64 a.fg,.int .i64 a.fat,.int .i64 a.fap,.int .i64 a.fan,.int .i64 a.fab,.int .i64 a.fav,.int .i64 a.far]
def Tf.o (a:Tf):V:=.agg [.int .i64 a.fg,.int .i64 a.fat,.int .i64 a.fap,.int .i64 a.fan,.int .i64 a.fab,.int .i64 a.fav,.int .i64 a.far]
theorem Tf.o_i (a:Tf):(a.o).erase=a.i:=rfl
theorem Tf.o_f (a:Tf):(a.o).fresh=true:=rfl
structure Tj where
 fw:Int
 fu:Int
 fp:List Tf
deriving DecidableEq
def Tj.i (a:Tj):V:=.agg [.int .i64 a.fw,.int .i64 a.fu,.imm 7 (a.fp.map Tf.i)]
def Tj.o (a:Tj):V:=.agg [.int .i64 a.fw,.int .i64 a.fu,.own 7 (a.fp.map Tf.i)]
theorem Tj.o_i (a:Tj):(a.o).erase=a.i:=by
 simp only [Tj.o,Tj.i,V.erase,V.eraseL]
 simp only [zal (f:=Tf.i) (g:=Tf.i) Tf.o_i]
theorem Tj.o_f (a:Tj):(a.o).fresh=true:=by
 simp only [Tj.o,V.fresh,V.freshL,za2 (f:=Tf.i) Tf.o_f,Bool.and_self]
structure Tg where
 fo:Int
 fk:Int
 fN:Int
 fc:List Int
 fd:List Bool
 fq:Int
deriving DecidableEq
def Tg.i (a:Tg):V:=.agg [.int .i64 a.fo,.int .i64 a.fk,.int .i64 a.fN,.imm 1 (a.fc.map (V.int .i64)),.imm 1 (a.fd.map V.bool),.int .i64 a.fq]
def Tg.o (a:Tg):V:=.agg [.int .i64 a.fo,.int .i64 a.fk,.int .i64 a.fN,.own 1 (a.fc.map (V.int .i64)),.own 1 (a.fd.map V.bool),.int .i64 a.fq]
theorem Tg.o_i (a:Tg):(a.o).erase=a.i:=by
 simp only [Tg.o,Tg.i,V.erase,V.eraseL]
 simp only [zal (f:=(V.int .i64)) (g:=(V.int .i64)) (fun _=>rfl),zal (f:=V.bool) (g:=V.bool) (fun _=>rfl)]
theorem Tg.o_f (a:Tg):(a.o).fresh=true:=by
 simp only [Tg.o,V.fresh,V.freshL,za2 (f:=(V.int .i64)) (fun _=>rfl),za2 (f:=V.bool) (fun _=>rfl),Bool.and_self]
structure Td where
 fab:Int
 fg:Int
 fa:Tg
deriving DecidableEq
def Td.i (a:Td):V:=.agg [.int .i64 a.fab,.int .i64 a.fg,.int .i64 a.fa.fo,.int .i64 a.fa.fk,.int .i64 a.fa.fN,.imm 1 (a.fa.fc.map (V.int .i64)),.imm 1 (a.fa.fd.map V.bool),.int .i64 a.fa.fq]
def Td.o (a:Td):V:=.agg [.int .i64 a.fab,.int .i64 a.fg,.int .i64 a.fa.fo,.int .i64 a.fa.fk,.int .i64 a.fa.fN,.own 1 (a.fa.fc.map (V.int .i64)),.own 1 (a.fa.fd.map V.bool),.int .i64 a.fa.fq]
theorem Td.o_i (a:Td):(a.o).erase=a.i:=by
 simp only [Td.o,Td.i,V.erase,V.eraseL]
 simp only [zal (f:=(V.int .i64)) (g:=(V.int .i64)) (fun _=>rfl),zal (f:=V.bool) (g:=V.bool) (fun _=>rfl)]
theorem Td.o_f (a:Td):(a.o).fresh=true:=by
 simp only [Td.o,V.fresh,V.freshL,za2 (f:=(V.int .i64)) (fun _=>rfl),za2 (f:=V.bool) (fun _=>rfl),Bool.and_self]
structure Te where
 fo:Int
 fam:Int
 fk:Int
 fN:Int
 fc:List Int
 fd:List Bool
deriving DecidableEq
def Te.i (a:Te):V:=.agg [.int .i64 a.fo,.int .i64 a.fam,.int .i64 a.fk,.int .i64 a.fN,.imm 1 (a.fc.map (V.int .i64)),.imm 1 (a.fd.map V.bool)]
def Te.o (a:Te):V:=.agg [.int .i64 a.fo,.int .i64 a.fam,.int .i64 a.fk,.int .i64 a.fN,.own 1 (a.fc.map (V.int .i64)),.own 1 (a.fd.map V.bool)]
theorem Te.o_i (a:Te):(a.o).erase=a.i:=by
 simp only [Te.o,Te.i,V.erase,V.eraseL]
 simp only [zal (f:=(V.int .i64)) (g:=(V.int .i64)) (fun _=>rfl),zal (f:=V.bool) (g:=V.bool) (fun _=>rfl)]
theorem Te.o_f (a:Te):(a.o).fresh=true:=by
 simp only [Te.o,V.fresh,V.freshL,za2 (f:=(V.int .i64)) (fun _=>rfl),za2 (f:=V.bool) (fun _=>rfl),Bool.and_self]
structure Tb where
 fr:Int
 fas:Int
 fau:Int
 fg:Int
 fa:Tg
 fac:List Td
 fag:List Bool
 fad:List Te
deriving DecidableEq
def Tb.i (a:Tb):V:=.agg [.int .i64 a.fr,.int .i64 a.fas,.int .i64 a.fau,.int .i64 a.fg,.int .i64 a.fa.fo,.int .i64 a.fa.fk,.int .i64 a.fa.fN,.imm 1 (a.fa.fc.map (V.int .i64)),.imm 1 (a.fa.fd.map V.bool),.int .i64 a.fa.fq,.imm 8 (a.fac.map Td.i),.imm 1 (a.fag.map V.bool),.imm 6 (a.fad.map Te.i)]
def Tb.o (a:Tb):V:=.agg [.int .i64 a.fr,.int .i64 a.fas,.int .i64 a.fau,.int .i64 a.fg,.int .i64 a.fa.fo,.int .i64 a.fa.fk,.int .i64 a.fa.fN,.own 1 (a.fa.fc.map (V.int .i64)),.own 1 (a.fa.fd.map V.bool),.int .i64 a.fa.fq,.own 8 (a.fac.map Td.o),.own 1 (a.fag.map V.bool),.own 6 (a.fad.map Te.o)]
theorem Tb.o_i (a:Tb):(a.o).erase=a.i:=by
 simp only [Tb.o,Tb.i,V.erase,V.eraseL]
 simp only [zal (f:=(V.int .i64)) (g:=(V.int .i64)) (fun _=>rfl),zal (f:=V.bool) (g:=V.bool) (fun _=>rfl),zal (f:=Td.o) (g:=Td.i) Td.o_i,zal (f:=Te.o) (g:=Te.i) Te.o_i]
theorem Tb.o_f (a:Tb):(a.o).fresh=true:=by
 simp only [Tb.o,V.fresh,V.freshL,za2 (f:=(V.int .i64)) (fun _=>rfl),za2 (f:=V.bool) (fun _=>rfl),za2 (f:=Td.o) Td.o_f,za2 (f:=Te.o) Te.o_f,Bool.and_self]
structure Ti where
 ft:Int
 fi:List Tb
deriving DecidableEq
def Ti.i (a:Ti):V:=.agg [.int .i64 a.ft,.imm 13 (a.fi.map Tb.i)]
def Ti.o (a:Ti):V:=.agg [.int .i64 a.ft,.own 13 (a.fi.map Tb.o)]
theorem Ti.o_i (a:Ti):(a.o).erase=a.i:=by
 simp only [Ti.o,Ti.i,V.erase,V.eraseL]
 simp only [zal (f:=Tb.o) (g:=Tb.i) Tb.o_i]
theorem Ti.o_f (a:Ti):(a.o).fresh=true:=by
 simp only [Ti.o,V.fresh,V.freshL,za2 (f:=Tb.o) Tb.o_f,Bool.and_self]
structure Tc where
 fr:Int
 faj:Int
 fg:Int
 fa:Tg
deriving DecidableEq
def Tc.i (a:Tc):V:=.agg [.int .i64 a.fr,.int .i64 a.faj,.int .i64 a.fg,.int .i64 a.fa.fo,.int .i64 a.fa.fk,.int .i64 a.fa.fN,.imm 1 (a.fa.fc.map (V.int .i64)),.imm 1 (a.fa.fd.map V.bool),.int .i64 a.fa.fq]
def Tc.o (a:Tc):V:=.agg [.int .i64 a.fr,.int .i64 a.faj,.int .i64 a.fg,.int .i64 a.fa.fo,.int .i64 a.fa.fk,.int .i64 a.fa.fN,.own 1 (a.fa.fc.map (V.int .i64)),.own 1 (a.fa.fd.map V.bool),.int .i64 a.fa.fq]
theorem Tc.o_i (a:Tc):(a.o).erase=a.i:=by
 simp only [Tc.o,Tc.i,V.erase,V.eraseL]
 simp only [zal (f:=(V.int .i64)) (g:=(V.int .i64)) (fun _=>rfl),zal (f:=V.bool) (g:=V.bool) (fun _=>rfl)]
theorem Tc.o_f (a:Tc):(a.o).fresh=true:=by
 simp only [Tc.o,V.fresh,V.freshL,za2 (f:=(V.int .i64)) (fun _=>rfl),za2 (f:=V.bool) (fun _=>rfl),Bool.and_self]
structure Ta where
 ff:List Tc
 faa:Bool
 fb:Tc
 faq:Int
 fal:Int
 fao:Int
 ft:Int
 fw:Int
 fu:Int
deriving DecidableEq
def Ta.i (a:Ta):V:=.agg [.imm 9 (a.ff.map Tc.i),.bool a.faa,.int .i64 a.fb.fr,.int .i64 a.fb.faj,.int .i64 a.fb.fg,.int .i64 a.fb.fa.fo,.int .i64 a.fb.fa.fk,.int .i64 a.fb.fa.fN,.imm 1 (a.fb.fa.fc.map (V.int .i64)),.imm 1 (a.fb.fa.fd.map V.bool),.int .i64 a.fb.fa.fq,.int .i64 a.faq,.int .i64 a.fal,.int .i64 a.fao,.int .i64 a.ft,.int .i64 a.fw,.int .i64 a.fu]
def Ta.o (a:Ta):V:=.agg [.own 9 (a.ff.map Tc.o),.bool a.faa,.int .i64 a.fb.fr,.int .i64 a.fb.faj,.int .i64 a.fb.fg,.int .i64 a.fb.fa.fo,.int .i64 a.fb.fa.fk,.int .i64 a.fb.fa.fN,.own 1 (a.fb.fa.fc.map (V.int .i64)),.own 1 (a.fb.fa.fd.map V.bool),.int .i64 a.fb.fa.fq,.int .i64 a.faq,.int .i64 a.fal,.int .i64 a.fao,.int .i64 a.ft,.int .i64 a.fw,.int .i64 a.fu]
theorem Ta.o_i (a:Ta):(a.o).erase=a.i:=by
 simp only [Ta.o,Ta.i,V.erase,V.eraseL]
 simp only [zal (f:=Tc.o) (g:=Tc.i) Tc.o_i,zal (f:=(V.int .i64)) (g:=(V.int .i64)) (fun _=>rfl),zal (f:=V.bool) (g:=V.bool) (fun _=>rfl)]
theorem Ta.o_f (a:Ta):(a.o).fresh=true:=by
 simp only [Ta.o,V.fresh,V.freshL,za2 (f:=Tc.o) Tc.o_f,za2 (f:=(V.int .i64)) (fun _=>rfl),za2 (f:=V.bool) (fun _=>rfl),Bool.and_self]
structure Th where
 fak:Int
 fj:Tj
 fh:Ti
 fe:List Ta
 fae:Int
 fah:Int
 faf:Int
 fai:Int
deriving DecidableEq
def Th.i (a:Th):V:=.agg [.int .i64 a.fak,.int .i64 a.fj.fw,.int .i64 a.fj.fu,.imm 7 (a.fj.fp.map Tf.i),.int .i64 a.fh.ft,.imm 13 (a.fh.fi.map Tb.i),.imm 17 (a.fe.map Ta.i),.int .i64 a.fae,.int .i64 a.fah,.int .i64 a.faf,.int .i64 a.fai]
def Th.o (a:Th):V:=.agg [.int .i64 a.fak,.int .i64 a.fj.fw,.int .i64 a.fj.fu,.own 7 (a.fj.fp.map Tf.i),.int .i64 a.fh.ft,.own 13 (a.fh.fi.map Tb.o),.own 17 (a.fe.map Ta.o),.int .i64 a.fae,.int .i64 a.fah,.int .i64 a.faf,.int .i64 a.fai]
theorem Th.o_i (a:Th):(a.o).erase=a.i:=by
 simp only [Th.o,Th.i,V.erase,V.eraseL]
 simp only [zal (f:=Tf.i) (g:=Tf.i) Tf.o_i,zal (f:=Tb.o) (g:=Tb.i) Tb.o_i,zal (f:=Ta.o) (g:=Ta.i) Ta.o_i]
theorem Th.o_f (a:Th):(a.o).fresh=true:=by
 simp only [Th.o,V.fresh,V.freshL,za2 (f:=Tf.i) Tf.o_f,za2 (f:=Tb.o) Tb.o_f,za2 (f:=Ta.o) Ta.o_f,Bool.and_self]
def Tf.ok (a:Tf):Prop:=(-9223372036854775808<=a.fg/\a.fg<=9223372036854775807)/\(-9223372036854775808<=a.fat/\a.fat<=9223372036854775807)/\(-9223372036854775808<=a.fap/\a.fap<=9223372036854775807)/\(-9223372036854775808<=a.fan/\a.fan<=9223372036854775807)/\(-9223372036854775808<=a.fab/\a.fab<=9223372036854775807)/\(-9223372036854775808<=a.fav/\a.fav<=9223372036854775807)/\(-9223372036854775808<=a.far/\a.far<=9223372036854775807)
def Tf.sz (a:Tf):Nat:=0
def Tj.ok (a:Tj):Prop:=(-9223372036854775808<=a.fw/\a.fw<=9223372036854775807)/\(-9223372036854775808<=a.fu/\a.fu<=9223372036854775807)/\a.fp.length<=9223372036854775807/\(∀ b∈a.fp,b.ok)
def Tj.sz (a:Tj):Nat:=a.fp.length+(0)
def Tg.ok (a:Tg):Prop:=(-9223372036854775808<=a.fo/\a.fo<=9223372036854775807)/\(-9223372036854775808<=a.fk/\a.fk<=9223372036854775807)/\(-9223372036854775808<=a.fN/\a.fN<=9223372036854775807)/\a.fc.length<=9223372036854775807/\(∀ b∈a.fc,-9223372036854775808<=b/\b<=9223372036854775807)/\a.fd.length<=9223372036854775807/\(-9223372036854775808<=a.fq/\a.fq<=9223372036854775807)
def Tg.sz (a:Tg):Nat:=a.fc.length+(a.fd.length+(0))
def Td.ok (a:Td):Prop:=(-9223372036854775808<=a.fab/\a.fab<=9223372036854775807)/\(-9223372036854775808<=a.fg/\a.fg<=9223372036854775807)/\a.fa.ok
def Td.sz (a:Td):Nat:=a.fa.sz+(0)
def Te.ok (a:Te):Prop:=(-9223372036854775808<=a.fo/\a.fo<=9223372036854775807)/\(-9223372036854775808<=a.fam/\a.fam<=9223372036854775807)/\(-9223372036854775808<=a.fk/\a.fk<=9223372036854775807)/\(-9223372036854775808<=a.fN/\a.fN<=9223372036854775807)/\a.fc.length<=9223372036854775807/\(∀ b∈a.fc,-9223372036854775808<=b/\b<=9223372036854775807)/\a.fd.length<=9223372036854775807
def Te.sz (a:Te):Nat:=a.fc.length+(a.fd.length+(0))
def Tb.ok (a:Tb):Prop:=(-9223372036854775808<=a.fr/\a.fr<=9223372036854775807)/\(-9223372036854775808<=a.fas/\a.fas<=9223372036854775807)/\(-9223372036854775808<=a.fau/\a.fau<=9223372036854775807)/\(-9223372036854775808<=a.fg/\a.fg<=9223372036854775807)/\a.fa.ok/\a.fac.length<=9223372036854775807/\(∀ b∈a.fac,b.ok)/\a.fag.length<=9223372036854775807/\a.fad.length<=9223372036854775807/\(∀ b∈a.fad,b.ok)
def Tb.sz (a:Tb):Nat:=a.fa.sz+(szL Td.sz a.fac+(a.fag.length+(szL Te.sz a.fad+(0))))
def Ti.ok (a:Ti):Prop:=(-9223372036854775808<=a.ft/\a.ft<=9223372036854775807)/\a.fi.length<=9223372036854775807/\(∀ b∈a.fi,b.ok)
def Ti.sz (a:Ti):Nat:=szL Tb.sz a.fi+(0)
def Tc.ok (a:Tc):Prop:=(-9223372036854775808<=a.fr/\a.fr<=9223372036854775807)/\(-9223372036854775808<=a.faj/\a.faj<=9223372036854775807)/\(-9223372036854775808<=a.fg/\a.fg<=9223372036854775807)/\a.fa.ok
def Tc.sz (a:Tc):Nat:=a.fa.sz+(0)
def Ta.ok (a:Ta):Prop:=a.ff.length<=9223372036854775807/\(∀ b∈a.ff,b.ok)/\a.fb.ok/\(-9223372036854775808<=a.faq/\a.faq<=9223372036854775807)/\(-9223372036854775808<=a.fal/\a.fal<=9223372036854775807)/\(-9223372036854775808<=a.fao/\a.fao<=9223372036854775807)/\(-9223372036854775808<=a.ft/\a.ft<=9223372036854775807)/\(-9223372036854775808<=a.fw/\a.fw<=9223372036854775807)/\(-9223372036854775808<=a.fu/\a.fu<=9223372036854775807)
def Ta.sz (a:Ta):Nat:=szL Tc.sz a.ff+(a.fb.sz+(0))
def Th.ok (a:Th):Prop:=(-9223372036854775808<=a.fak/\a.fak<=9223372036854775807)/\a.fj.ok/\a.fh.ok/\a.fe.length<=9223372036854775807/\(∀ b∈a.fe,b.ok)/\(-9223372036854775808<=a.fae/\a.fae<=9223372036854775807)/\(-9223372036854775808<=a.fah/\a.fah<=9223372036854775807)/\(-9223372036854775808<=a.faf/\a.faf<=9223372036854775807)/\(-9223372036854775808<=a.fai/\a.fai<=9223372036854775807)
def Th.sz (a:Th):Nat:=a.fj.sz+(a.fh.sz+(szL Ta.sz a.fe+(0)))
end Go.Pm
namespace Go.Pm
open IntKind (i64)
set_option maxRecDepth 100000
set_option maxHeartbeats 400000
def yfi (v1:List Tf) (v2:Int):Option Int:=bif decide ((i64.wrap (v2 - (v1.length:Int)))<0) then(some (-1)) else(some (i64.wrap (v2 - (v1.length:Int))))
def yig (v1:List Tf) (v2:Int):Ctr:=⟨22,[.imm 7 (v1.map Tf.i),.I v2],[],Int,yfi v1 v2,rI⟩
theorem ym7 {v1:List Tf} {v2:Int}:(yig v1 v2).okF tab:=fun r hr=>⟨za7 yko rfl (.lenA Tf.i v1<|.br (decide ((i64.wrap (v2 - (v1.length:Int)))<0)) (.lfA rI (-1))<|.lfA rI (i64.wrap (v2 - (v1.length:Int))):Tree Int _) (by kernel_rfl) (by kernel_rfl) (lA<|bR (rfl)<|rfl) hr,rfl,rfl⟩
def yfo (v1:Tj) (v2:Int):Option Int:=(yfi v1.fp v2).bind fun v3=>(bif decide (v3<0) then(some (-1)) else(some v3))
def yho (v1:Tj) (v2:Int):Ctr:=⟨9,[v1.i,.I v2],[],Int,yfo v1 v2,rI⟩
theorem yje {v1:Tj} {v2:Int}:(yho v1 v2).okF tab:=fun r hr=>⟨za7 ynd rfl (.callF (yig v1.fp v2) fun(v3:Int)=>.br (decide (v3<0)) (.lfA rI (-1))<|.lfA rI v3:Tree Int _) (by kernel_rfl) (by kernel_rfl) (cF ym7 fun v3=>bR (rfl)<|rfl) hr,rfl,rfl⟩
def yef (v1:List Int) (v2:Int):Option Int:=bif decide ((i64.wrap (v2 - (v1.length:Int)))<0) then(some (-1)) else(some (i64.wrap (v2 - (v1.length:Int))))
def yg3 (v1:List Int) (v2:Int):Ctr:=⟨62,[.imm 1 (v1.map (V.int .i64)),.I v2],[],Int,yef v1 v2,rI⟩
theorem yhg {v1:List Int} {v2:Int}:(yg3 v1 v2).okF tab:=fun r hr=>⟨za7 yn7 rfl (.lenA (V.int .i64) v1<|.br (decide ((i64.wrap (v2 - (v1.length:Int)))<0)) (.lfA rI (-1))<|.lfA rI (i64.wrap (v2 - (v1.length:Int))):Tree Int _) (by kernel_rfl) (by kernel_rfl) (lA<|bR (rfl)<|rfl) hr,rfl,rfl⟩
def ycu (v1:List Bool) (v2:Int):Option Int:=bif decide ((i64.wrap (v2 - (v1.length:Int)))<0) then(some (-1)) else(some (i64.wrap (v2 - (v1.length:Int))))
def yd1 (v1:List Bool) (v2:Int):Ctr:=⟨48,[.imm 1 (v1.map V.bool),.I v2],[],Int,ycu v1 v2,rI⟩
theorem ygf {v1:List Bool} {v2:Int}:(yd1 v1 v2).okF tab:=fun r hr=>⟨za7 yjf rfl (.lenA V.bool v1<|.br (decide ((i64.wrap (v2 - (v1.length:Int)))<0)) (.lfA rI (-1))<|.lfA rI (i64.wrap (v2 - (v1.length:Int))):Tree Int _) (by kernel_rfl) (by kernel_rfl) (lA<|bR (rfl)<|rfl) hr,rfl,rfl⟩
def yct (v1:Tg) (v2:Int):Option Int:=(yef v1.fc v2).bind fun v3=>(bif decide (v3<0) then(some (-1)) else((ycu v1.fd v3).bind fun v6=>(bif decide (v6<0) then(some (-1)) else(some v6))))
def ydj (v1:Tg) (v2:Int):Ctr:=⟨46,[v1.i,.I v2],[],Int,yct v1 v2,rI⟩
theorem yez {v1:Tg} {v2:Int}:(ydj v1 v2).okF tab:=fun r hr=>⟨za7 yj0 rfl (.callF (yg3 v1.fc v2) fun(v3:Int)=>.br (decide (v3<0)) (.lfA rI (-1))<|.callF (yd1 v1.fd v3) fun(v6:Int)=>.br (decide (v6<0)) (.lfA rI (-1))<|.lfA rI v6:Tree Int _) (by kernel_rfl) (by kernel_rfl) (cF yhg fun v3=>bR (rfl)<|cF ygf fun v6=>bR (rfl)<|rfl) hr,rfl,rfl⟩
def yfv (v1:Td) (v2:Int):Option Int:=(yct v1.fa v2).bind fun v3=>(bif decide (v3<0) then(some (-1)) else(some v3))
def yif (v1:Td) (v2:Int):Ctr:=⟨63,[v1.i,.I v2],[],Int,yfv v1 v2,rI⟩
theorem yj3 {v1:Td} {v2:Int}:(yif v1 v2).okF tab:=fun r hr=>⟨za7 ym8 rfl (.callF (ydj v1.fa v2) fun(v3:Int)=>.br (decide (v3<0)) (.lfA rI (-1))<|.lfA rI v3:Tree Int _) (by kernel_rfl) (by kernel_rfl) (cF yez fun v3=>bR (rfl)<|rfl) hr,rfl,rfl⟩
def zo5 (v1:List Td) (k:Int) (s:Int):St:=⟨sv 7 [(0,.imm 8 (v1.map Td.i)),(1,.I s),(3,.I k)],[]⟩
def zlz (v1:List Td):(Int×Int)->Ex×St:=fun p=>(.ret,⟨sv 7 [(0,.imm 8 (v1.map Td.i)),(1,.I p.1),(2,.I (-1)),(3,.I p.2),(5,.bool true),(6,.bool true)],[]⟩)
def zko (v1:List Td):Int->Ex×St:=fun p=>((.exit 0),⟨sv 7 [(0,.imm 8 (v1.map Td.i)),(1,.I p),(3,.I (v1.length:Int)),(5,.bool false)],[]⟩)
def zob (v1:List Td) (k:Int):=zf6 (zo5 v1 k) (Sum.elim (zlz v1) (zko v1))
def yah (v1:List Td) (k:Int) (x:Td) (s:Int):Option ((Int)⊕((Int×Int)⊕Int)):=(yfv x s).bind fun v19=>(bif decide (v19<0) then(some (.inr (.inl (v19,k)))) else(some (.inl v19)))
def zzz (v1:List Td) (s:Int):Option ((Int×Int)⊕Int):=some ((.inr s))
def zte (v1:List Td) (s:Int):Option ((Int×Int)⊕Int):=if v1.length<=9223372036854775806 then zb4 (yah v1) (zzz v1) v1 0 s else none
def zrz (v1:List Td) (s:Int):Lc2:=⟨7,zyi,0,[2,4,5,6],some (zo5 v1 0 s),Int×Int,Int,zte v1 s,zlz v1,zko v1⟩
theorem ybn {v1:List Td} {s:Int}:(zrz v1 s).ok tab:=zdp (zax (J:=zo5 v1) (o:=(Sum.elim (zlz v1) (zko v1))) v1 (B:=fun(k:Int) (x:Td) (s:Int)=>(.lenA Td.i v1<|.kb (decide (k<(v1.length:Int))) true<|.ob (0<=k)<|.lkX Td.i v1 (k.toNat) x<|.callF (yif x s) fun(v19:Int)=>.br (decide (v19<0)) (.lfA (zob v1 (i64.wrap (k+1))) (.inr (.inl (v19,k))))<|.lfA (zob v1 (i64.wrap (k+1))) (.inl v19):Tree ((Int)⊕((Int×Int)⊕Int)) _)) (E:=fun(s:Int)=>(.lenA Td.i v1<|.kb (decide ((v1.length:Int)<(v1.length:Int))) false<|.lfA (zob v1 0) (.inr (.inr s)):Tree ((Int)⊕((Int×Int)⊕Int)) _)) (fun k x s=>by kernel_rfl) (fun d x t s he=>lA<|⟨ltX he,⟨Int.natCast_nonneg _,⟨zap Td.i he,cF yj3 fun v19=>bR (rfl)<|rfl⟩⟩⟩) (ho2 (fun _=>rfl) fun _=>rfl) (fun s=>by kernel_rfl) (fun s=>lA<|⟨ltE _,rfl⟩) (by kernel_rfl) (by kernel_rfl) s)
def yex (v1:List Td) (v2:Int):Option Int:=bif decide ((i64.wrap (v2 - (v1.length:Int)))<0) then(some (-1)) else((zte v1 (i64.wrap (v2 - (v1.length:Int)))).bind (zo0 (fun (v22:Int×Int)=>(some (-1))) (fun (v23:Int)=>(some v23))))
def yhd (v1:List Td) (v2:Int):Ctr:=⟨47,[.imm 8 (v1.map Td.i),.I v2],[],Int,yex v1 v2,rI⟩
theorem ylt {v1:List Td} {v2:Int}:(yhd v1 v2).okF tab:=fun r hr=>⟨za7 yl5 rfl (.lenA Td.i v1<|.br (decide ((i64.wrap (v2 - (v1.length:Int)))<0)) (.lfA rI (-1))<|.lp2 (zrz v1 (i64.wrap (v2 - (v1.length:Int)))) (fun (v22:Int×Int)=>.lfA rI (-1)) (fun (v23:Int)=>.lfA rI v23):Tree Int _) (by kernel_rfl) (by kernel_rfl) (lA<|bR (rfl)<|lQ ybn (fun v22=>rfl) (fun v23=>rfl)) hr,rfl,rfl⟩
def yfg (v1:Te) (v2:Int):Option Int:=(yef v1.fc v2).bind fun v3=>(bif decide (v3<0) then(some (-1)) else((ycu v1.fd v3).bind fun v6=>(bif decide (v6<0) then(some (-1)) else(some v6))))
def yi4 (v1:Te) (v2:Int):Ctr:=⟨64,[v1.i,.I v2],[],Int,yfg v1 v2,rI⟩
theorem ykv {v1:Te} {v2:Int}:(yi4 v1 v2).okF tab:=fun r hr=>⟨za7 ykb rfl (.callF (yg3 v1.fc v2) fun(v3:Int)=>.br (decide (v3<0)) (.lfA rI (-1))<|.callF (yd1 v1.fd v3) fun(v6:Int)=>.br (decide (v6<0)) (.lfA rI (-1))<|.lfA rI v6:Tree Int _) (by kernel_rfl) (by kernel_rfl) (cF yhg fun v3=>bR (rfl)<|cF ygf fun v6=>bR (rfl)<|rfl) hr,rfl,rfl⟩
def zni (v1:List Te) (k:Int) (s:Int):St:=⟨sv 7 [(0,.imm 6 (v1.map Te.i)),(1,.I s),(3,.I k)],[]⟩
def zlj (v1:List Te):(Int×Int)->Ex×St:=fun p=>(.ret,⟨sv 7 [(0,.imm 6 (v1.map Te.i)),(1,.I p.1),(2,.I (-1)),(3,.I p.2),(5,.bool true),(6,.bool true)],[]⟩)
def zka (v1:List Te):Int->Ex×St:=fun p=>((.exit 0),⟨sv 7 [(0,.imm 6 (v1.map Te.i)),(1,.I p),(3,.I (v1.length:Int)),(5,.bool false)],[]⟩)
def zoi (v1:List Te) (k:Int):=zf6 (zni v1 k) (Sum.elim (zlj v1) (zka v1))
def yav (v1:List Te) (k:Int) (x:Te) (s:Int):Option ((Int)⊕((Int×Int)⊕Int)):=(yfg x s).bind fun v19=>(bif decide (v19<0) then(some (.inr (.inl (v19,k)))) else(some (.inl v19)))
def zzp (v1:List Te) (s:Int):Option ((Int×Int)⊕Int):=some ((.inr s))
def zvw (v1:List Te) (s:Int):Option ((Int×Int)⊕Int):=if v1.length<=9223372036854775806 then zb4 (yav v1) (zzp v1) v1 0 s else none
def ztk (v1:List Te) (s:Int):Lc2:=⟨7,zza,0,[2,4,5,6],some (zni v1 0 s),Int×Int,Int,zvw v1 s,zlj v1,zka v1⟩
theorem yab {v1:List Te} {s:Int}:(ztk v1 s).ok tab:=zdp (zax (J:=zni v1) (o:=(Sum.elim (zlj v1) (zka v1))) v1 (B:=fun(k:Int) (x:Te) (s:Int)=>(.lenA Te.i v1<|.kb (decide (k<(v1.length:Int))) true<|.ob (0<=k)<|.lkX Te.i v1 (k.toNat) x<|.callF (yi4 x s) fun(v19:Int)=>.br (decide (v19<0)) (.lfA (zoi v1 (i64.wrap (k+1))) (.inr (.inl (v19,k))))<|.lfA (zoi v1 (i64.wrap (k+1))) (.inl v19):Tree ((Int)⊕((Int×Int)⊕Int)) _)) (E:=fun(s:Int)=>(.lenA Te.i v1<|.kb (decide ((v1.length:Int)<(v1.length:Int))) false<|.lfA (zoi v1 0) (.inr (.inr s)):Tree ((Int)⊕((Int×Int)⊕Int)) _)) (fun k x s=>by kernel_rfl) (fun d x t s he=>lA<|⟨ltX he,⟨Int.natCast_nonneg _,⟨zap Te.i he,cF ykv fun v19=>bR (rfl)<|rfl⟩⟩⟩) (ho2 (fun _=>rfl) fun _=>rfl) (fun s=>by kernel_rfl) (fun s=>lA<|⟨ltE _,rfl⟩) (by kernel_rfl) (by kernel_rfl) s)
def yf6 (v1:List Te) (v2:Int):Option Int:=bif decide ((i64.wrap (v2 - (v1.length:Int)))<0) then(some (-1)) else((zvw v1 (i64.wrap (v2 - (v1.length:Int)))).bind (zo0 (fun (v22:Int×Int)=>(some (-1))) (fun (v23:Int)=>(some v23))))
def yih (v1:List Te) (v2:Int):Ctr:=⟨49,[.imm 6 (v1.map Te.i),.I v2],[],Int,yf6 v1 v2,rI⟩
theorem ymm {v1:List Te} {v2:Int}:(yih v1 v2).okF tab:=fun r hr=>⟨za7 ylq rfl (.lenA Te.i v1<|.br (decide ((i64.wrap (v2 - (v1.length:Int)))<0)) (.lfA rI (-1))<|.lp2 (ztk v1 (i64.wrap (v2 - (v1.length:Int)))) (fun (v22:Int×Int)=>.lfA rI (-1)) (fun (v23:Int)=>.lfA rI v23):Tree Int _) (by kernel_rfl) (by kernel_rfl) (lA<|bR (rfl)<|lQ yab (fun v22=>rfl) (fun v23=>rfl)) hr,rfl,rfl⟩
def yf2 (v1:Tb) (v2:Int):Option Int:=(yct v1.fa v2).bind fun v3=>(bif decide (v3<0) then(some (-1)) else((yex v1.fac v3).bind fun v6=>(bif decide (v6<0) then(some (-1)) else((ycu v1.fag v6).bind fun v9=>(bif decide (v9<0) then(some (-1)) else((yf6 v1.fad v9).bind fun v12=>(bif decide (v12<0) then(some (-1)) else(some v12))))))))
def yht (v1:Tb) (v2:Int):Ctr:=⟨33,[v1.i,.I v2],[],Int,yf2 v1 v2,rI⟩
theorem ynj {v1:Tb} {v2:Int}:(yht v1 v2).okF tab:=fun r hr=>⟨za7 ykf rfl (.callF (ydj v1.fa v2) fun(v3:Int)=>.br (decide (v3<0)) (.lfA rI (-1))<|.callF (yhd v1.fac v3) fun(v6:Int)=>.br (decide (v6<0)) (.lfA rI (-1))<|.callF (yd1 v1.fag v6) fun(v9:Int)=>.br (decide (v9<0)) (.lfA rI (-1))<|.callF (yih v1.fad v9) fun(v12:Int)=>.br (decide (v12<0)) (.lfA rI (-1))<|.lfA rI v12:Tree Int _) (by kernel_rfl) (by kernel_rfl) (cF yez fun v3=>bR (rfl)<|cF ylt fun v6=>bR (rfl)<|cF ygf fun v9=>bR (rfl)<|cF ymm fun v12=>bR (rfl)<|rfl) hr,rfl,rfl⟩
def zok (v1:List Tb) (k:Int) (s:Int):St:=⟨sv 7 [(0,.imm 13 (v1.map Tb.i)),(1,.I s),(3,.I k)],[]⟩
def zlt (v1:List Tb):(Int×Int)->Ex×St:=fun p=>(.ret,⟨sv 7 [(0,.imm 13 (v1.map Tb.i)),(1,.I p.1),(2,.I (-1)),(3,.I p.2),(5,.bool true),(6,.bool true)],[]⟩)
def zlq (v1:List Tb):Int->Ex×St:=fun p=>((.exit 0),⟨sv 7 [(0,.imm 13 (v1.map Tb.i)),(1,.I p),(3,.I (v1.length:Int)),(5,.bool false)],[]⟩)
def zoo (v1:List Tb) (k:Int):=zf6 (zok v1 k) (Sum.elim (zlt v1) (zlq v1))
def yal (v1:List Tb) (k:Int) (x:Tb) (s:Int):Option ((Int)⊕((Int×Int)⊕Int)):=(yf2 x s).bind fun v19=>(bif decide (v19<0) then(some (.inr (.inl (v19,k)))) else(some (.inl v19)))
def ybk (v1:List Tb) (s:Int):Option ((Int×Int)⊕Int):=some ((.inr s))
def zvp (v1:List Tb) (s:Int):Option ((Int×Int)⊕Int):=if v1.length<=9223372036854775806 then zb4 (yal v1) (ybk v1) v1 0 s else none
def zvu (v1:List Tb) (s:Int):Lc2:=⟨7,zyq,0,[2,4,5,6],some (zok v1 0 s),Int×Int,Int,zvp v1 s,zlt v1,zlq v1⟩
theorem yaj {v1:List Tb} {s:Int}:(zvu v1 s).ok tab:=zdp (zax (J:=zok v1) (o:=(Sum.elim (zlt v1) (zlq v1))) v1 (B:=fun(k:Int) (x:Tb) (s:Int)=>(.lenA Tb.i v1<|.kb (decide (k<(v1.length:Int))) true<|.ob (0<=k)<|.lkX Tb.i v1 (k.toNat) x<|.callF (yht x s) fun(v19:Int)=>.br (decide (v19<0)) (.lfA (zoo v1 (i64.wrap (k+1))) (.inr (.inl (v19,k))))<|.lfA (zoo v1 (i64.wrap (k+1))) (.inl v19):Tree ((Int)⊕((Int×Int)⊕Int)) _)) (E:=fun(s:Int)=>(.lenA Tb.i v1<|.kb (decide ((v1.length:Int)<(v1.length:Int))) false<|.lfA (zoo v1 0) (.inr (.inr s)):Tree ((Int)⊕((Int×Int)⊕Int)) _)) (fun k x s=>by kernel_rfl) (fun d x t s he=>lA<|⟨ltX he,⟨Int.natCast_nonneg _,⟨zap Tb.i he,cF ynj fun v19=>bR (rfl)<|rfl⟩⟩⟩) (ho2 (fun _=>rfl) fun _=>rfl) (fun s=>by kernel_rfl) (fun s=>lA<|⟨ltE _,rfl⟩) (by kernel_rfl) (by kernel_rfl) s)
def yet (v1:List Tb) (v2:Int):Option Int:=bif decide ((i64.wrap (v2 - (v1.length:Int)))<0) then(some (-1)) else((zvp v1 (i64.wrap (v2 - (v1.length:Int)))).bind (zo0 (fun (v22:Int×Int)=>(some (-1))) (fun (v23:Int)=>(some v23))))
def yhl (v1:List Tb) (v2:Int):Ctr:=⟨23,[.imm 13 (v1.map Tb.i),.I v2],[],Int,yet v1 v2,rI⟩
theorem yj9 {v1:List Tb} {v2:Int}:(yhl v1 v2).okF tab:=fun r hr=>⟨za7 yky rfl (.lenA Tb.i v1<|.br (decide ((i64.wrap (v2 - (v1.length:Int)))<0)) (.lfA rI (-1))<|.lp2 (zvu v1 (i64.wrap (v2 - (v1.length:Int)))) (fun (v22:Int×Int)=>.lfA rI (-1)) (fun (v23:Int)=>.lfA rI v23):Tree Int _) (by kernel_rfl) (by kernel_rfl) (lA<|bR (rfl)<|lQ yaj (fun v22=>rfl) (fun v23=>rfl)) hr,rfl,rfl⟩
def ygz (v1:Ti) (v2:Int):Option Int:=(yet v1.fi v2).bind fun v3=>(bif decide (v3<0) then(some (-1)) else(some v3))
def yhi (v1:Ti) (v2:Int):Ctr:=⟨10,[v1.i,.I v2],[],Int,ygz v1 v2,rI⟩
theorem ynw {v1:Ti} {v2:Int}:(yhi v1 v2).okF tab:=fun r hr=>⟨za7 yng rfl (.callF (yhl v1.fi v2) fun(v3:Int)=>.br (decide (v3<0)) (.lfA rI (-1))<|.lfA rI v3:Tree Int _) (by kernel_rfl) (by kernel_rfl) (cF yj9 fun v3=>bR (rfl)<|rfl) hr,rfl,rfl⟩
def yd5 (v1:Tc) (v2:Int):Option Int:=(yct v1.fa v2).bind fun v3=>(bif decide (v3<0) then(some (-1)) else(some v3))
def yh0 (v1:Tc) (v2:Int):Ctr:=⟨35,[v1.i,.I v2],[],Int,yd5 v1 v2,rI⟩
theorem yhf {v1:Tc} {v2:Int}:(yh0 v1 v2).okF tab:=fun r hr=>⟨za7 ymf rfl (.callF (ydj v1.fa v2) fun(v3:Int)=>.br (decide (v3<0)) (.lfA rI (-1))<|.lfA rI v3:Tree Int _) (by kernel_rfl) (by kernel_rfl) (cF yez fun v3=>bR (rfl)<|rfl) hr,rfl,rfl⟩
def zod (v1:List Tc) (k:Int) (s:Int):St:=⟨sv 7 [(0,.imm 9 (v1.map Tc.i)),(1,.I s),(3,.I k)],[]⟩
def zm3 (v1:List Tc):(Int×Int)->Ex×St:=fun p=>(.ret,⟨sv 7 [(0,.imm 9 (v1.map Tc.i)),(1,.I p.1),(2,.I (-1)),(3,.I p.2),(5,.bool true),(6,.bool true)],[]⟩)
def zki (v1:List Tc):Int->Ex×St:=fun p=>((.exit 0),⟨sv 7 [(0,.imm 9 (v1.map Tc.i)),(1,.I p),(3,.I (v1.length:Int)),(5,.bool false)],[]⟩)
def zpi (v1:List Tc) (k:Int):=zf6 (zod v1 k) (Sum.elim (zm3 v1) (zki v1))
def zzs (v1:List Tc) (k:Int) (x:Tc) (s:Int):Option ((Int)⊕((Int×Int)⊕Int)):=(yd5 x s).bind fun v19=>(bif decide (v19<0) then(some (.inr (.inl (v19,k)))) else(some (.inl v19)))
def zzx (v1:List Tc) (s:Int):Option ((Int×Int)⊕Int):=some ((.inr s))
def zu7 (v1:List Tc) (s:Int):Option ((Int×Int)⊕Int):=if v1.length<=9223372036854775806 then zb4 (zzs v1) (zzx v1) v1 0 s else none
def ztr (v1:List Tc) (s:Int):Lc2:=⟨7,zzd,0,[2,4,5,6],some (zod v1 0 s),Int×Int,Int,zu7 v1 s,zm3 v1,zki v1⟩
theorem ya1 {v1:List Tc} {s:Int}:(ztr v1 s).ok tab:=zdp (zax (J:=zod v1) (o:=(Sum.elim (zm3 v1) (zki v1))) v1 (B:=fun(k:Int) (x:Tc) (s:Int)=>(.lenA Tc.i v1<|.kb (decide (k<(v1.length:Int))) true<|.ob (0<=k)<|.lkX Tc.i v1 (k.toNat) x<|.callF (yh0 x s) fun(v19:Int)=>.br (decide (v19<0)) (.lfA (zpi v1 (i64.wrap (k+1))) (.inr (.inl (v19,k))))<|.lfA (zpi v1 (i64.wrap (k+1))) (.inl v19):Tree ((Int)⊕((Int×Int)⊕Int)) _)) (E:=fun(s:Int)=>(.lenA Tc.i v1<|.kb (decide ((v1.length:Int)<(v1.length:Int))) false<|.lfA (zpi v1 0) (.inr (.inr s)):Tree ((Int)⊕((Int×Int)⊕Int)) _)) (fun k x s=>by kernel_rfl) (fun d x t s he=>lA<|⟨ltX he,⟨Int.natCast_nonneg _,⟨zap Tc.i he,cF yhf fun v19=>bR (rfl)<|rfl⟩⟩⟩) (ho2 (fun _=>rfl) fun _=>rfl) (fun s=>by kernel_rfl) (fun s=>lA<|⟨ltE _,rfl⟩) (by kernel_rfl) (by kernel_rfl) s)
def yfj (v1:List Tc) (v2:Int):Option Int:=bif decide ((i64.wrap (v2 - (v1.length:Int)))<0) then(some (-1)) else((zu7 v1 (i64.wrap (v2 - (v1.length:Int)))).bind (zo0 (fun (v22:Int×Int)=>(some (-1))) (fun (v23:Int)=>(some v23))))
def yhq (v1:List Tc) (v2:Int):Ctr:=⟨34,[.imm 9 (v1.map Tc.i),.I v2],[],Int,yfj v1 v2,rI⟩
theorem ylb {v1:List Tc} {v2:Int}:(yhq v1 v2).okF tab:=fun r hr=>⟨za7 ymo rfl (.lenA Tc.i v1<|.br (decide ((i64.wrap (v2 - (v1.length:Int)))<0)) (.lfA rI (-1))<|.lp2 (ztr v1 (i64.wrap (v2 - (v1.length:Int)))) (fun (v22:Int×Int)=>.lfA rI (-1)) (fun (v23:Int)=>.lfA rI v23):Tree Int _) (by kernel_rfl) (by kernel_rfl) (lA<|bR (rfl)<|lQ ya1 (fun v22=>rfl) (fun v23=>rfl)) hr,rfl,rfl⟩
def ygg (v1:Ta) (v2:Int):Option Int:=(yfj v1.ff v2).bind fun v3=>(bif decide (v3<0) then(some (-1)) else((yd5 v1.fb v3).bind fun v6=>(bif decide (v6<0) then(some (-1)) else(some v6))))
def yhy (v1:Ta) (v2:Int):Ctr:=⟨24,[v1.i,.I v2],[],Int,ygg v1 v2,rI⟩
theorem yms {v1:Ta} {v2:Int}:(yhy v1 v2).okF tab:=fun r hr=>⟨za7 yj1 rfl (.callF (yhq v1.ff v2) fun(v3:Int)=>.br (decide (v3<0)) (.lfA rI (-1))<|.callF (yh0 v1.fb v3) fun(v6:Int)=>.br (decide (v6<0)) (.lfA rI (-1))<|.lfA rI v6:Tree Int _) (by kernel_rfl) (by kernel_rfl) (cF ylb fun v3=>bR (rfl)<|cF yhf fun v6=>bR (rfl)<|rfl) hr,rfl,rfl⟩
def zpp (v1:List Ta) (k:Int) (s:Int):St:=⟨sv 7 [(0,.imm 17 (v1.map Ta.i)),(1,.I s),(3,.I k)],[]⟩
def zm5 (v1:List Ta):(Int×Int)->Ex×St:=fun p=>(.ret,⟨sv 7 [(0,.imm 17 (v1.map Ta.i)),(1,.I p.1),(2,.I (-1)),(3,.I p.2),(5,.bool true),(6,.bool true)],[]⟩)
def zlb (v1:List Ta):Int->Ex×St:=fun p=>((.exit 0),⟨sv 7 [(0,.imm 17 (v1.map Ta.i)),(1,.I p),(3,.I (v1.length:Int)),(5,.bool false)],[]⟩)
def zp5 (v1:List Ta) (k:Int):=zf6 (zpp v1 k) (Sum.elim (zm5 v1) (zlb v1))
def yag (v1:List Ta) (k:Int) (x:Ta) (s:Int):Option ((Int)⊕((Int×Int)⊕Int)):=(ygg x s).bind fun v19=>(bif decide (v19<0) then(some (.inr (.inl (v19,k)))) else(some (.inl v19)))
def ya3 (v1:List Ta) (s:Int):Option ((Int×Int)⊕Int):=some ((.inr s))
def zrw (v1:List Ta) (s:Int):Option ((Int×Int)⊕Int):=if v1.length<=9223372036854775806 then zb4 (yag v1) (ya3 v1) v1 0 s else none
def zum (v1:List Ta) (s:Int):Lc2:=⟨7,zzc,0,[2,4,5,6],some (zpp v1 0 s),Int×Int,Int,zrw v1 s,zm5 v1,zlb v1⟩
theorem ya6 {v1:List Ta} {s:Int}:(zum v1 s).ok tab:=zdp (zax (J:=zpp v1) (o:=(Sum.elim (zm5 v1) (zlb v1))) v1 (B:=fun(k:Int) (x:Ta) (s:Int)=>(.lenA Ta.i v1<|.kb (decide (k<(v1.length:Int))) true<|.ob (0<=k)<|.lkX Ta.i v1 (k.toNat) x<|.callF (yhy x s) fun(v19:Int)=>.br (decide (v19<0)) (.lfA (zp5 v1 (i64.wrap (k+1))) (.inr (.inl (v19,k))))<|.lfA (zp5 v1 (i64.wrap (k+1))) (.inl v19):Tree ((Int)⊕((Int×Int)⊕Int)) _)) (E:=fun(s:Int)=>(.lenA Ta.i v1<|.kb (decide ((v1.length:Int)<(v1.length:Int))) false<|.lfA (zp5 v1 0) (.inr (.inr s)):Tree ((Int)⊕((Int×Int)⊕Int)) _)) (fun k x s=>by kernel_rfl) (fun d x t s he=>lA<|⟨ltX he,⟨Int.natCast_nonneg _,⟨zap Ta.i he,cF yms fun v19=>bR (rfl)<|rfl⟩⟩⟩) (ho2 (fun _=>rfl) fun _=>rfl) (fun s=>by kernel_rfl) (fun s=>lA<|⟨ltE _,rfl⟩) (by kernel_rfl) (by kernel_rfl) s)
def yge (v1:List Ta) (v2:Int):Option Int:=bif decide ((i64.wrap (v2 - (v1.length:Int)))<0) then(some (-1)) else((zrw v1 (i64.wrap (v2 - (v1.length:Int)))).bind (zo0 (fun (v22:Int×Int)=>(some (-1))) (fun (v23:Int)=>(some v23))))
def yie (v1:List Ta) (v2:Int):Ctr:=⟨11,[.imm 17 (v1.map Ta.i),.I v2],[],Int,yge v1 v2,rI⟩
theorem yl9 {v1:List Ta} {v2:Int}:(yie v1 v2).okF tab:=fun r hr=>⟨za7 ym1 rfl (.lenA Ta.i v1<|.br (decide ((i64.wrap (v2 - (v1.length:Int)))<0)) (.lfA rI (-1))<|.lp2 (zum v1 (i64.wrap (v2 - (v1.length:Int)))) (fun (v22:Int×Int)=>.lfA rI (-1)) (fun (v23:Int)=>.lfA rI v23):Tree Int _) (by kernel_rfl) (by kernel_rfl) (lA<|bR (rfl)<|lQ ya6 (fun v22=>rfl) (fun v23=>rfl)) hr,rfl,rfl⟩
def yfx (v1:Th) (v2:Int):Option Int:=(yfo v1.fj v2).bind fun v3=>(bif decide (v3<0) then(some (-1)) else((ygz v1.fh v3).bind fun v6=>(bif decide (v6<0) then(some (-1)) else((yge v1.fe v6).bind fun v9=>(bif decide (v9<0) then(some (-1)) else(some v9))))))
def yh9 (v1:Th) (v2:Int):Ctr:=⟨4,[v1.i,.I v2],[],Int,yfx v1 v2,rI⟩
theorem ymn {v1:Th} {v2:Int}:(yh9 v1 v2).okF tab:=fun r hr=>⟨za7 ymz rfl (.callF (yho v1.fj v2) fun(v3:Int)=>.br (decide (v3<0)) (.lfA rI (-1))<|.callF (yhi v1.fh v3) fun(v6:Int)=>.br (decide (v6<0)) (.lfA rI (-1))<|.callF (yie v1.fe v6) fun(v9:Int)=>.br (decide (v9<0)) (.lfA rI (-1))<|.lfA rI v9:Tree Int _) (by kernel_rfl) (by kernel_rfl) (cF yje fun v3=>bR (rfl)<|cF ynw fun v6=>bR (rfl)<|cF yl9 fun v9=>bR (rfl)<|rfl) hr,rfl,rfl⟩
def ye3 (v1:Tf):Option Tf:=some v1
def yhx (v1:Tf):Ctr:=⟨37,[v1.i],[],Tf,ye3 v1,(rv Tf.i)⟩
theorem yip (r:Tf):((rv Tf.i) r).1.fresh=true:=by simp only [rv,Tf.i,V.fresh,V.freshL,Bool.and_self,Bool.true_and]
theorem yo2 {v1:Tf}:(yhx v1).okF tab:=fun r hr=>⟨za7 ylj rfl (.lfA (rv Tf.i) v1:Tree Tf _) (by kernel_rfl) (by kernel_rfl) rfl hr,rfl,yip r⟩
def zoy (v1:List Tf) (k:Int) (s:List Tf):St:=⟨sv 5 [(0,.imm 7 (v1.map Tf.i)),(2,.own 7 (s.map Tf.i)),(3,.I k)],[]⟩
def zl4 (v1:List Tf):(List Tf)->Ex×St:=fun p=>((.exit 0),⟨sv 5 [(0,.imm 7 (v1.map Tf.i)),(2,.own 7 (p.map Tf.i)),(3,.I (v1.length:Int)),(4,.bool false)],[]⟩)
def zur (v1:List Tf) (k:Int):=zf6 (zoy v1 k) (zl4 v1)
def zup (v1:List Tf) (k:Int) (x:Tf) (s:List Tf):Option ((List Tf)⊕((List Tf))):=(ye3 x).bind fun v57=>(if 0<=k/\(k:Int)<(((s.map Tf.i).length - 0:Nat):Int) then(((s)[k.toNat]?).bind fun v59=>(let v61:=s.set (k.toNat) ({ v59 with fg:=v57.fg }:Tf);(((v61)[k.toNat]?).bind fun v62=>(let v64:=v61.set (k.toNat) ({ v62 with fat:=v57.fat }:Tf);(((v64)[k.toNat]?).bind fun v65=>(let v67:=v64.set (k.toNat) ({ v65 with fap:=v57.fap }:Tf);(((v67)[k.toNat]?).bind fun v68=>(let v70:=v67.set (k.toNat) ({ v68 with fan:=v57.fan }:Tf);(((v70)[k.toNat]?).bind fun v71=>(let v73:=v70.set (k.toNat) ({ v71 with fab:=v57.fab }:Tf);(((v73)[k.toNat]?).bind fun v74=>(let v76:=v73.set (k.toNat) ({ v74 with fav:=v57.fav }:Tf);(((v76)[k.toNat]?).bind fun v77=>(let v79:=v76.set (k.toNat) ({ v77 with far:=v57.far }:Tf);(some (.inl v79)))))))))))))))) else none)
def ztb (v1:List Tf) (s:List Tf):Option ((List Tf)):=some (s)
def znn (v1:List Tf) (s:List Tf):Option ((List Tf)):=if v1.length<=9223372036854775806 then zb4 (zup v1) (ztb v1) v1 0 s else none
def zti (v1:List Tf) (s:List Tf):Lct:=⟨5,zz5,0,[1,4],some (zoy v1 0 s),List Tf,znn v1 s,zl4 v1⟩
theorem ybf {v1:List Tf} {s:List Tf}:(zti v1 s).ok tab:=zeq (zax (J:=zoy v1) (o:=(zl4 v1)) v1 (B:=fun(k:Int) (x:Tf) (s:List Tf)=>(.lenA Tf.i v1<|.kb (decide (k<(v1.length:Int))) true<|.ob (0<=k)<|.lkX Tf.i v1 (k.toNat) x<|.callF (yhx x) fun(v57:Tf)=>.guard (0<=k/\(k:Int)<(((s.map Tf.i).length - 0:Nat):Int)) inferInstance<|.lookB Tf.i s (k.toNat) fun v59=>.lkY Tf.i s (k.toNat) v59<|.lkY Tf.i s (k.toNat) v59<|.setN Tf.i s (k.toNat) ({ v59 with fg:=v57.fg }:Tf) fun v61=>.lookB Tf.i v61 (k.toNat) fun v62=>.lkY Tf.i v61 (k.toNat) v62<|.lkY Tf.i v61 (k.toNat) v62<|.setN Tf.i v61 (k.toNat) ({ v62 with fat:=v57.fat }:Tf) fun v64=>.lookB Tf.i v64 (k.toNat) fun v65=>.lkY Tf.i v64 (k.toNat) v65<|.lkY Tf.i v64 (k.toNat) v65<|.setN Tf.i v64 (k.toNat) ({ v65 with fap:=v57.fap }:Tf) fun v67=>.lookB Tf.i v67 (k.toNat) fun v68=>.lkY Tf.i v67 (k.toNat) v68<|.lkY Tf.i v67 (k.toNat) v68<|.setN Tf.i v67 (k.toNat) ({ v68 with fan:=v57.fan }:Tf) fun v70=>.lookB Tf.i v70 (k.toNat) fun v71=>.lkY Tf.i v70 (k.toNat) v71<|.lkY Tf.i v70 (k.toNat) v71<|.setN Tf.i v70 (k.toNat) ({ v71 with fab:=v57.fab }:Tf) fun v73=>.lookB Tf.i v73 (k.toNat) fun v74=>.lkY Tf.i v73 (k.toNat) v74<|.lkY Tf.i v73 (k.toNat) v74<|.setN Tf.i v73 (k.toNat) ({ v74 with fav:=v57.fav }:Tf) fun v76=>.lookB Tf.i v76 (k.toNat) fun v77=>.lkY Tf.i v76 (k.toNat) v77<|.lkY Tf.i v76 (k.toNat) v77<|.setN Tf.i v76 (k.toNat) ({ v77 with far:=v57.far }:Tf) fun v79=>.lfA (zur v1 (i64.wrap (k+1))) (.inl v79):Tree ((List Tf)⊕((List Tf))) _)) (E:=fun(s:List Tf)=>(.lenA Tf.i v1<|.kb (decide ((v1.length:Int)<(v1.length:Int))) false<|.lfA (zur v1 0) (.inr s):Tree ((List Tf)⊕((List Tf))) _)) (fun k x s=>by kernel_rfl) (fun d x t s he=>lA<|⟨ltX he,⟨Int.natCast_nonneg _,⟨zap Tf.i he,cF yo2 fun v57=>gU<|⟨za6 _ _ _,fun v59 h60=>⟨za0 _ h60,⟨za0 _ h60,⟨za9 _ _ _ _,fun v61 _=>⟨za6 _ _ _,fun v62 h63=>⟨za0 _ h63,⟨za0 _ h63,⟨za9 _ _ _ _,fun v64 _=>⟨za6 _ _ _,fun v65 h66=>⟨za0 _ h66,⟨za0 _ h66,⟨za9 _ _ _ _,fun v67 _=>⟨za6 _ _ _,fun v68 h69=>⟨za0 _ h69,⟨za0 _ h69,⟨za9 _ _ _ _,fun v70 _=>⟨za6 _ _ _,fun v71 h72=>⟨za0 _ h72,⟨za0 _ h72,⟨za9 _ _ _ _,fun v73 _=>⟨za6 _ _ _,fun v74 h75=>⟨za0 _ h75,⟨za0 _ h75,⟨za9 _ _ _ _,fun v76 _=>⟨za6 _ _ _,fun v77 h78=>⟨za0 _ h78,⟨za0 _ h78,⟨za9 _ _ _ _,fun v79 _=>rfl⟩⟩⟩⟩⟩⟩⟩⟩⟩⟩⟩⟩⟩⟩⟩⟩⟩⟩⟩⟩⟩⟩⟩⟩⟩⟩⟩⟩⟩⟩⟩) (fun _=>rfl) (fun s=>by kernel_rfl) (fun s=>lA<|⟨ltE _,rfl⟩) (by kernel_rfl) (by kernel_rfl) s)
def ye9:List Tf->V×List (List V):=fun r=>(.own 7 (r.map Tf.i),[])
def ydm (v1:List Tf):Option (List Tf):=if 0<=(v1.length:Int)/\(v1.length:Int).toNat * 56<=70368744177664 then((znn v1 (List.replicate (v1.length:Int).toNat (⟨(0:Int),(0:Int),(0:Int),(0:Int),(0:Int),(0:Int),(0:Int)⟩:Tf))).bind fun v80=>(some v80)) else none
def yik (v1:List Tf):Ctr:=⟨26,[.imm 7 (v1.map Tf.i)],[],List Tf,ydm v1,ye9⟩
theorem yiu (r:List Tf):(ye9 r).1.fresh=true:=by simp only [ye9,V.fresh,V.freshL,za2 (f:=Tf.i) (fun _=>rfl),Bool.and_self,Bool.true_and]
theorem yk1 {v1:List Tf}:(yik v1).okF tab:=fun r hr=>⟨za7 ylo rfl (.lenA Tf.i v1<|.guard (0<=(v1.length:Int)/\(v1.length:Int).toNat * 56<=70368744177664) inferInstance<|.repA Tf.i (v1.length:Int).toNat (⟨(0:Int),(0:Int),(0:Int),(0:Int),(0:Int),(0:Int),(0:Int)⟩:Tf)<|.segA Tf.i (List.replicate (v1.length:Int).toNat (⟨(0:Int),(0:Int),(0:Int),(0:Int),(0:Int),(0:Int),(0:Int)⟩:Tf))<|.lp (zti v1 (List.replicate (v1.length:Int).toNat (⟨(0:Int),(0:Int),(0:Int),(0:Int),(0:Int),(0:Int),(0:Int)⟩:Tf))) fun(v80:List Tf)=>.segA Tf.i v80<|.lfA ye9 v80:Tree (List Tf) _) (by kernel_rfl) (by kernel_rfl) (lA<|gU<|⟨zef _ _ _,sA<|lP ybf fun v80=>sA<|rfl⟩) hr,rfl,yiu r⟩
def ydu (v1:Tj):Option Tj:=(ydm v1.fp).bind fun v2=>(some ({ v1 with fp:=v2 }:Tj))
def yic (v1:Tj):Ctr:=⟨13,[v1.i],[],Tj,ydu v1,(rv Tj.o)⟩
theorem yml (r:Tj):((rv Tj.o) r).1.fresh=true:=by simp only [rv,Tj.o,V.fresh,V.freshL,za2 (f:=Tf.i) (fun _=>rfl),Bool.and_self,Bool.true_and]
theorem yk5 {v1:Tj}:(yic v1).okF tab:=fun r hr=>⟨za7 yl8 rfl (.callF (yik v1.fp) fun(v2:List Tf)=>.segA Tf.i v2<|.segA Tf.i v2<|.segA Tf.i v2<|.lfA (rv Tj.o) ({ v1 with fp:=v2 }:Tj):Tree Tj _) (by kernel_rfl) (by kernel_rfl) (cF yk1 fun v2=>sA<|sA<|sA<|rfl) hr,rfl,yml r⟩
def zpj (v1:List Int) (k:Int) (s:List Int):St:=⟨sv 5 [(0,.imm 1 (v1.map (V.int .i64))),(2,.own 1 (s.map (V.int .i64))),(3,.I k)],[]⟩
def zla (v1:List Int):(List Int)->Ex×St:=fun p=>((.exit 0),⟨sv 5 [(0,.imm 1 (v1.map (V.int .i64))),(2,.own 1 (p.map (V.int .i64))),(3,.I (v1.length:Int)),(4,.bool false)],[]⟩)
def zt0 (v1:List Int) (k:Int):=zf6 (zpj v1 k) (zla v1)
def zs1 (v1:List Int) (k:Int) (x:Int) (s:List Int):Option ((List Int)⊕((List Int))):=if 0<=k/\(k:Int)<(((s.map (V.int .i64)).length - 0:Nat):Int) then(((s)[k.toNat]?).bind fun v17=>(let v19:=s.set (k.toNat) x;(some (.inl v19)))) else none
def zvc (v1:List Int) (s:List Int):Option ((List Int)):=some (s)
def zno (v1:List Int) (s:List Int):Option ((List Int)):=if v1.length<=9223372036854775806 then zb4 (zs1 v1) (zvc v1) v1 0 s else none
def zs2 (v1:List Int) (s:List Int):Lct:=⟨5,zz3,0,[1,4],some (zpj v1 0 s),List Int,zno v1 s,zla v1⟩
theorem ybg {v1:List Int} {s:List Int}:(zs2 v1 s).ok tab:=zeq (zax (J:=zpj v1) (o:=(zla v1)) v1 (B:=fun(k:Int) (x:Int) (s:List Int)=>(.lenA (V.int .i64) v1<|.kb (decide (k<(v1.length:Int))) true<|.ob (0<=k)<|.lkX (V.int .i64) v1 (k.toNat) x<|.guard (0<=k/\(k:Int)<(((s.map (V.int .i64)).length - 0:Nat):Int)) inferInstance<|.lookB (V.int .i64) s (k.toNat) fun v17=>.lkY (V.int .i64) s (k.toNat) v17<|.lkY (V.int .i64) s (k.toNat) v17<|.setN (V.int .i64) s (k.toNat) x fun v19=>.lfA (zt0 v1 (i64.wrap (k+1))) (.inl v19):Tree ((List Int)⊕((List Int))) _)) (E:=fun(s:List Int)=>(.lenA (V.int .i64) v1<|.kb (decide ((v1.length:Int)<(v1.length:Int))) false<|.lfA (zt0 v1 0) (.inr s):Tree ((List Int)⊕((List Int))) _)) (fun k x s=>by kernel_rfl) (fun d x t s he=>lA<|⟨ltX he,⟨Int.natCast_nonneg _,⟨zap (V.int .i64) he,gU<|⟨za6 _ _ _,fun v17 h18=>⟨za0 _ h18,⟨za0 _ h18,⟨za9 _ _ _ _,fun v19 _=>rfl⟩⟩⟩⟩⟩⟩⟩) (fun _=>rfl) (fun s=>by kernel_rfl) (fun s=>lA<|⟨ltE _,rfl⟩) (by kernel_rfl) (by kernel_rfl) s)
def ydx:List Int->V×List (List V):=fun r=>(.own 1 (r.map (V.int .i64)),[])
def ycm (v1:List Int):Option (List Int):=if 0<=(v1.length:Int)/\(v1.length:Int).toNat * 8<=70368744177664 then((zno v1 (List.replicate (v1.length:Int).toNat (0:Int))).bind fun v20=>(some v20)) else none
def ygj (v1:List Int):Ctr:=⟨65,[.imm 1 (v1.map (V.int .i64))],[],List Int,ycm v1,ydx⟩
theorem yiz (r:List Int):(ydx r).1.fresh=true:=by simp only [ydx,V.fresh,V.freshL,za2 (f:=(V.int .i64)) (fun _=>rfl),Bool.and_self,Bool.true_and]
theorem yi1 {v1:List Int}:(ygj v1).okF tab:=fun r hr=>⟨za7 ykt rfl (.lenA (V.int .i64) v1<|.guard (0<=(v1.length:Int)/\(v1.length:Int).toNat * 8<=70368744177664) inferInstance<|.repA (V.int .i64) (v1.length:Int).toNat (0:Int)<|.segA (V.int .i64) (List.replicate (v1.length:Int).toNat (0:Int))<|.lp (zs2 v1 (List.replicate (v1.length:Int).toNat (0:Int))) fun(v20:List Int)=>.segA (V.int .i64) v20<|.lfA ydx v20:Tree (List Int) _) (by kernel_rfl) (by kernel_rfl) (lA<|gU<|⟨zef _ _ _,sA<|lP ybg fun v20=>sA<|rfl⟩) hr,rfl,yiz r⟩
def zpk (v1:List Bool) (k:Int) (s:List Bool):St:=⟨sv 5 [(0,.imm 1 (v1.map V.bool)),(2,.own 1 (s.map V.bool)),(3,.I k)],[]⟩
def zkl (v1:List Bool):(List Bool)->Ex×St:=fun p=>((.exit 0),⟨sv 5 [(0,.imm 1 (v1.map V.bool)),(2,.own 1 (p.map V.bool)),(3,.I (v1.length:Int)),(4,.bool false)],[]⟩)
def zsf (v1:List Bool) (k:Int):=zf6 (zpk v1 k) (zkl v1)
def zug (v1:List Bool) (k:Int) (x:Bool) (s:List Bool):Option ((List Bool)⊕((List Bool))):=if 0<=k/\(k:Int)<(((s.map V.bool).length - 0:Nat):Int) then(((s)[k.toNat]?).bind fun v17=>(let v19:=s.set (k.toNat) x;(some (.inl v19)))) else none
def zt1 (v1:List Bool) (s:List Bool):Option ((List Bool)):=some (s)
def zp0 (v1:List Bool) (s:List Bool):Option ((List Bool)):=if v1.length<=9223372036854775806 then zb4 (zug v1) (zt1 v1) v1 0 s else none
def zv9 (v1:List Bool) (s:List Bool):Lct:=⟨5,zyg,0,[1,4],some (zpk v1 0 s),List Bool,zp0 v1 s,zkl v1⟩
theorem zzo {v1:List Bool} {s:List Bool}:(zv9 v1 s).ok tab:=zeq (zax (J:=zpk v1) (o:=(zkl v1)) v1 (B:=fun(k:Int) (x:Bool) (s:List Bool)=>(.lenA V.bool v1<|.kb (decide (k<(v1.length:Int))) true<|.ob (0<=k)<|.lkX V.bool v1 (k.toNat) x<|.guard (0<=k/\(k:Int)<(((s.map V.bool).length - 0:Nat):Int)) inferInstance<|.lookB V.bool s (k.toNat) fun v17=>.lkY V.bool s (k.toNat) v17<|.lkY V.bool s (k.toNat) v17<|.setN V.bool s (k.toNat) x fun v19=>.lfA (zsf v1 (i64.wrap (k+1))) (.inl v19):Tree ((List Bool)⊕((List Bool))) _)) (E:=fun(s:List Bool)=>(.lenA V.bool v1<|.kb (decide ((v1.length:Int)<(v1.length:Int))) false<|.lfA (zsf v1 0) (.inr s):Tree ((List Bool)⊕((List Bool))) _)) (fun k x s=>by kernel_rfl) (fun d x t s he=>lA<|⟨ltX he,⟨Int.natCast_nonneg _,⟨zap V.bool he,gU<|⟨za6 _ _ _,fun v17 h18=>⟨za0 _ h18,⟨za0 _ h18,⟨za9 _ _ _ _,fun v19 _=>rfl⟩⟩⟩⟩⟩⟩⟩) (fun _=>rfl) (fun s=>by kernel_rfl) (fun s=>lA<|⟨ltE _,rfl⟩) (by kernel_rfl) (by kernel_rfl) s)
def yd2:List Bool->V×List (List V):=fun r=>(.own 1 (r.map V.bool),[])
def ybv (v1:List Bool):Option (List Bool):=if 0<=(v1.length:Int)/\(v1.length:Int).toNat * 1<=70368744177664 then((zp0 v1 (List.replicate (v1.length:Int).toNat false)).bind fun v20=>(some v20)) else none
def yd6 (v1:List Bool):Ctr:=⟨52,[.imm 1 (v1.map V.bool)],[],List Bool,ybv v1,yd2⟩
theorem ylh (r:List Bool):(yd2 r).1.fresh=true:=by simp only [yd2,V.fresh,V.freshL,za2 (f:=V.bool) (fun _=>rfl),Bool.and_self,Bool.true_and]
theorem yg6 {v1:List Bool}:(yd6 v1).okF tab:=fun r hr=>⟨za7 ynk rfl (.lenA V.bool v1<|.guard (0<=(v1.length:Int)/\(v1.length:Int).toNat * 1<=70368744177664) inferInstance<|.repA V.bool (v1.length:Int).toNat false<|.segA V.bool (List.replicate (v1.length:Int).toNat false)<|.lp (zv9 v1 (List.replicate (v1.length:Int).toNat false)) fun(v20:List Bool)=>.segA V.bool v20<|.lfA yd2 v20:Tree (List Bool) _) (by kernel_rfl) (by kernel_rfl) (lA<|gU<|⟨zef _ _ _,sA<|lP zzo fun v20=>sA<|rfl⟩) hr,rfl,ylh r⟩
def ybt (v1:Tg):Option Tg:=(ycm v1.fc).bind fun v2=>((ybv v1.fd).bind fun v4=>(some ({ v1 with fc:=v2,fd:=v4 }:Tg)))
def ydc (v1:Tg):Ctr:=⟨50,[v1.i],[],Tg,ybt v1,(rv Tg.o)⟩
theorem ymh (r:Tg):((rv Tg.o) r).1.fresh=true:=by simp only [rv,Tg.o,V.fresh,V.freshL,za2 (f:=(V.int .i64)) (fun _=>rfl),za2 (f:=V.bool) (fun _=>rfl),Bool.and_self,Bool.true_and]
theorem yfq {v1:Tg}:(ydc v1).okF tab:=fun r hr=>⟨za7 yme rfl (.callF (ygj v1.fc) fun(v2:List Int)=>.segA (V.int .i64) v2<|.callF (yd6 v1.fd) fun(v4:List Bool)=>.segA V.bool v4<|.segA (V.int .i64) v2<|.segA V.bool v4<|.segA (V.int .i64) v2<|.segA V.bool v4<|.lfA (rv Tg.o) ({ v1 with fc:=v2,fd:=v4 }:Tg):Tree Tg _) (by kernel_rfl) (by kernel_rfl) (cF yi1 fun v2=>sA<|cF yg6 fun v4=>sA<|sA<|sA<|sA<|sA<|rfl) hr,rfl,ymh r⟩
def yee (v1:Td):Option Td:=(ybt v1.fa).bind fun v2=>(some ({ v1 with fa:=v2 }:Td))
def yhu (v1:Td):Ctr:=⟨66,[v1.i],[],Td,yee v1,(rv Td.o)⟩
theorem yny (r:Td):((rv Td.o) r).1.fresh=true:=by simp only [rv,Td.o,V.fresh,V.freshL,za2 (f:=(V.int .i64)) (fun _=>rfl),za2 (f:=V.bool) (fun _=>rfl),Bool.and_self,Bool.true_and]
theorem ym9 {v1:Td}:(yhu v1).okF tab:=fun r hr=>⟨za7 yn3 rfl (.callF (ydc v1.fa) fun(v2:Tg)=>.segA (V.int .i64) v2.fc<|.segA V.bool v2.fd<|.segA (V.int .i64) v2.fc<|.segA V.bool v2.fd<|.segA (V.int .i64) v2.fc<|.segA V.bool v2.fd<|.lfA (rv Td.o) ({ v1 with fa:=v2 }:Td):Tree Td _) (by kernel_rfl) (by kernel_rfl) (cF yfq fun v2=>sA<|sA<|sA<|sA<|sA<|sA<|rfl) hr,rfl,yny r⟩
def zpg (v1:List Td) (k:Int) (s:List Td):St:=⟨sv 5 [(0,.imm 8 (v1.map Td.i)),(2,.own 8 (s.map Td.o)),(3,.I k)],[]⟩
def zkr (v1:List Td):(List Td)->Ex×St:=fun p=>((.exit 0),⟨sv 5 [(0,.imm 8 (v1.map Td.i)),(2,.own 8 (p.map Td.o)),(3,.I (v1.length:Int)),(4,.bool false)],[]⟩)
def zwb (v1:List Td) (k:Int):=zf6 (zpg v1 k) (zkr v1)
def zw6 (v1:List Td) (k:Int) (x:Td) (s:List Td):Option ((List Td)⊕((List Td))):=(yee x).bind fun v63=>(if 0<=k/\(k:Int)<(((s.map Td.o).length - 0:Nat):Int) then(((s)[k.toNat]?).bind fun v65=>(let v67:=s.set (k.toNat) ({ v65 with fab:=v63.fab }:Td);(((v67)[k.toNat]?).bind fun v68=>(let v70:=v67.set (k.toNat) ({ v68 with fg:=v63.fg }:Td);(((v70)[k.toNat]?).bind fun v71=>(let v73:=v70.set (k.toNat) ({ v71 with fa:=({ v71.fa with fo:=v63.fa.fo }:Tg) }:Td);(((v73)[k.toNat]?).bind fun v74=>(let v76:=v73.set (k.toNat) ({ v74 with fa:=({ v74.fa with fk:=v63.fa.fk }:Tg) }:Td);(((v76)[k.toNat]?).bind fun v77=>(let v79:=v76.set (k.toNat) ({ v77 with fa:=({ v77.fa with fN:=v63.fa.fN }:Tg) }:Td);(((v79)[k.toNat]?).bind fun v80=>(let v82:=v79.set (k.toNat) ({ v80 with fa:=({ v80.fa with fc:=v63.fa.fc }:Tg) }:Td);(((v82)[k.toNat]?).bind fun v83=>(let v85:=v82.set (k.toNat) ({ v83 with fa:=({ v83.fa with fd:=v63.fa.fd }:Tg) }:Td);(((v85)[k.toNat]?).bind fun v86=>(let v88:=v85.set (k.toNat) ({ v86 with fa:=({ v86.fa with fq:=v63.fa.fq }:Tg) }:Td);(some (.inl v88)))))))))))))))))) else none)
def zsa (v1:List Td) (s:List Td):Option ((List Td)):=some (s)
def znr (v1:List Td) (s:List Td):Option ((List Td)):=if v1.length<=9223372036854775806 then zb4 (zw6 v1) (zsa v1) v1 0 s else none
def zw8 (v1:List Td) (s:List Td):Lct:=⟨5,zyx,0,[1,4],some (zpg v1 0 s),List Td,znr v1 s,zkr v1⟩
theorem yb7 {v1:List Td} {s:List Td}:(zw8 v1 s).ok tab:=zeq (zax (J:=zpg v1) (o:=(zkr v1)) v1 (B:=fun(k:Int) (x:Td) (s:List Td)=>(.lenA Td.i v1<|.kb (decide (k<(v1.length:Int))) true<|.ob (0<=k)<|.lkX Td.i v1 (k.toNat) x<|.callF (yhu x) fun(v63:Td)=>.guard (0<=k/\(k:Int)<(((s.map Td.o).length - 0:Nat):Int)) inferInstance<|.segA (V.int .i64) v63.fa.fc<|.segA V.bool v63.fa.fd<|.lookB Td.o s (k.toNat) fun v65=>.lkY Td.o s (k.toNat) v65<|.lkY Td.o s (k.toNat) v65<|.setN Td.o s (k.toNat) ({ v65 with fab:=v63.fab }:Td) fun v67=>.lookB Td.o v67 (k.toNat) fun v68=>.lkY Td.o v67 (k.toNat) v68<|.lkY Td.o v67 (k.toNat) v68<|.setN Td.o v67 (k.toNat) ({ v68 with fg:=v63.fg }:Td) fun v70=>.lookB Td.o v70 (k.toNat) fun v71=>.lkY Td.o v70 (k.toNat) v71<|.lkY Td.o v70 (k.toNat) v71<|.setN Td.o v70 (k.toNat) ({ v71 with fa:=({ v71.fa with fo:=v63.fa.fo }:Tg) }:Td) fun v73=>.lookB Td.o v73 (k.toNat) fun v74=>.lkY Td.o v73 (k.toNat) v74<|.lkY Td.o v73 (k.toNat) v74<|.setN Td.o v73 (k.toNat) ({ v74 with fa:=({ v74.fa with fk:=v63.fa.fk }:Tg) }:Td) fun v76=>.lookB Td.o v76 (k.toNat) fun v77=>.lkY Td.o v76 (k.toNat) v77<|.lkY Td.o v76 (k.toNat) v77<|.setN Td.o v76 (k.toNat) ({ v77 with fa:=({ v77.fa with fN:=v63.fa.fN }:Tg) }:Td) fun v79=>.lookB Td.o v79 (k.toNat) fun v80=>.lkY Td.o v79 (k.toNat) v80<|.lkY Td.o v79 (k.toNat) v80<|.setN Td.o v79 (k.toNat) ({ v80 with fa:=({ v80.fa with fc:=v63.fa.fc }:Tg) }:Td) fun v82=>.lookB Td.o v82 (k.toNat) fun v83=>.lkY Td.o v82 (k.toNat) v83<|.lkY Td.o v82 (k.toNat) v83<|.setN Td.o v82 (k.toNat) ({ v83 with fa:=({ v83.fa with fd:=v63.fa.fd }:Tg) }:Td) fun v85=>.lookB Td.o v85 (k.toNat) fun v86=>.lkY Td.o v85 (k.toNat) v86<|.lkY Td.o v85 (k.toNat) v86<|.setN Td.o v85 (k.toNat) ({ v86 with fa:=({ v86.fa with fq:=v63.fa.fq }:Tg) }:Td) fun v88=>.lfA (zwb v1 (i64.wrap (k+1))) (.inl v88):Tree ((List Td)⊕((List Td))) _)) (E:=fun(s:List Td)=>(.lenA Td.i v1<|.kb (decide ((v1.length:Int)<(v1.length:Int))) false<|.lfA (zwb v1 0) (.inr s):Tree ((List Td)⊕((List Td))) _)) (fun k x s=>by kernel_rfl) (fun d x t s he=>lA<|⟨ltX he,⟨Int.natCast_nonneg _,⟨zap Td.i he,cF ym9 fun v63=>gU<|sA<|sA<|⟨za6 _ _ _,fun v65 h66=>⟨za0 _ h66,⟨za0 _ h66,⟨za9 _ _ _ _,fun v67 _=>⟨za6 _ _ _,fun v68 h69=>⟨za0 _ h69,⟨za0 _ h69,⟨za9 _ _ _ _,fun v70 _=>⟨za6 _ _ _,fun v71 h72=>⟨za0 _ h72,⟨za0 _ h72,⟨za9 _ _ _ _,fun v73 _=>⟨za6 _ _ _,fun v74 h75=>⟨za0 _ h75,⟨za0 _ h75,⟨za9 _ _ _ _,fun v76 _=>⟨za6 _ _ _,fun v77 h78=>⟨za0 _ h78,⟨za0 _ h78,⟨za9 _ _ _ _,fun v79 _=>⟨za6 _ _ _,fun v80 h81=>⟨za0 _ h81,⟨za0 _ h81,⟨za9 _ _ _ _,fun v82 _=>⟨za6 _ _ _,fun v83 h84=>⟨za0 _ h84,⟨za0 _ h84,⟨za9 _ _ _ _,fun v85 _=>⟨za6 _ _ _,fun v86 h87=>⟨za0 _ h87,⟨za0 _ h87,⟨za9 _ _ _ _,fun v88 _=>rfl⟩⟩⟩⟩⟩⟩⟩⟩⟩⟩⟩⟩⟩⟩⟩⟩⟩⟩⟩⟩⟩⟩⟩⟩⟩⟩⟩⟩⟩⟩⟩⟩⟩⟩⟩) (fun _=>rfl) (fun s=>by kernel_rfl) (fun s=>lA<|⟨ltE _,rfl⟩) (by kernel_rfl) (by kernel_rfl) s)
def ye6:List Td->V×List (List V):=fun r=>(.own 8 (r.map Td.o),[])
def ydz (v1:List Td):Option (List Td):=if 0<=(v1.length:Int)/\(v1.length:Int).toNat * 96<=70368744177664 then((znr v1 (List.replicate (v1.length:Int).toNat (⟨(0:Int),(0:Int),(⟨(0:Int),(0:Int),(0:Int),[],[],(0:Int)⟩:Tg)⟩:Td))).bind fun v89=>(some v89)) else none
def yi3 (v1:List Td):Ctr:=⟨51,[.imm 8 (v1.map Td.i)],[],List Td,ydz v1,ye6⟩
theorem ynh (r:List Td):(ye6 r).1.fresh=true:=by simp only [ye6,V.fresh,V.freshL,za2 (f:=Td.o) Td.o_f,Bool.and_self,Bool.true_and]
theorem yks {v1:List Td}:(yi3 v1).okF tab:=fun r hr=>⟨za7 yj4 rfl (.lenA Td.i v1<|.guard (0<=(v1.length:Int)/\(v1.length:Int).toNat * 96<=70368744177664) inferInstance<|.repA Td.o (v1.length:Int).toNat (⟨(0:Int),(0:Int),(⟨(0:Int),(0:Int),(0:Int),[],[],(0:Int)⟩:Tg)⟩:Td)<|.segA Td.o (List.replicate (v1.length:Int).toNat (⟨(0:Int),(0:Int),(⟨(0:Int),(0:Int),(0:Int),[],[],(0:Int)⟩:Tg)⟩:Td))<|.lp (zw8 v1 (List.replicate (v1.length:Int).toNat (⟨(0:Int),(0:Int),(⟨(0:Int),(0:Int),(0:Int),[],[],(0:Int)⟩:Tg)⟩:Td))) fun(v89:List Td)=>.segA Td.o v89<|.lfA ye6 v89:Tree (List Td) _) (by kernel_rfl) (by kernel_rfl) (lA<|gU<|⟨zef _ _ _,sA<|lP yb7 fun v89=>sA<|rfl⟩) hr,rfl,ynh r⟩
def ydf (v1:Te):Option Te:=(ycm v1.fc).bind fun v2=>((ybv v1.fd).bind fun v4=>(some ({ v1 with fc:=v2,fd:=v4 }:Te)))
def yij (v1:Te):Ctr:=⟨67,[v1.i],[],Te,ydf v1,(rv Te.o)⟩
theorem yk2 (r:Te):((rv Te.o) r).1.fresh=true:=by simp only [rv,Te.o,V.fresh,V.freshL,za2 (f:=(V.int .i64)) (fun _=>rfl),za2 (f:=V.bool) (fun _=>rfl),Bool.and_self,Bool.true_and]
theorem ykh {v1:Te}:(yij v1).okF tab:=fun r hr=>⟨za7 ylz rfl (.callF (ygj v1.fc) fun(v2:List Int)=>.segA (V.int .i64) v2<|.callF (yd6 v1.fd) fun(v4:List Bool)=>.segA V.bool v4<|.segA (V.int .i64) v2<|.segA V.bool v4<|.segA (V.int .i64) v2<|.segA V.bool v4<|.lfA (rv Te.o) ({ v1 with fc:=v2,fd:=v4 }:Te):Tree Te _) (by kernel_rfl) (by kernel_rfl) (cF yi1 fun v2=>sA<|cF yg6 fun v4=>sA<|sA<|sA<|sA<|sA<|rfl) hr,rfl,yk2 r⟩
def zp1 (v1:List Te) (k:Int) (s:List Te):St:=⟨sv 5 [(0,.imm 6 (v1.map Te.i)),(2,.own 6 (s.map Te.o)),(3,.I k)],[]⟩
def zle (v1:List Te):(List Te)->Ex×St:=fun p=>((.exit 0),⟨sv 5 [(0,.imm 6 (v1.map Te.i)),(2,.own 6 (p.map Te.o)),(3,.I (v1.length:Int)),(4,.bool false)],[]⟩)
def zt3 (v1:List Te) (k:Int):=zf6 (zp1 v1 k) (zle v1)
def zt8 (v1:List Te) (k:Int) (x:Te) (s:List Te):Option ((List Te)⊕((List Te))):=(ydf x).bind fun v51=>(if 0<=k/\(k:Int)<(((s.map Te.o).length - 0:Nat):Int) then(((s)[k.toNat]?).bind fun v53=>(let v55:=s.set (k.toNat) ({ v53 with fo:=v51.fo }:Te);(((v55)[k.toNat]?).bind fun v56=>(let v58:=v55.set (k.toNat) ({ v56 with fam:=v51.fam }:Te);(((v58)[k.toNat]?).bind fun v59=>(let v61:=v58.set (k.toNat) ({ v59 with fk:=v51.fk }:Te);(((v61)[k.toNat]?).bind fun v62=>(let v64:=v61.set (k.toNat) ({ v62 with fN:=v51.fN }:Te);(((v64)[k.toNat]?).bind fun v65=>(let v67:=v64.set (k.toNat) ({ v65 with fc:=v51.fc }:Te);(((v67)[k.toNat]?).bind fun v68=>(let v70:=v67.set (k.toNat) ({ v68 with fd:=v51.fd }:Te);(some (.inl v70)))))))))))))) else none)
def zv1 (v1:List Te) (s:List Te):Option ((List Te)):=some (s)
def znh (v1:List Te) (s:List Te):Option ((List Te)):=if v1.length<=9223372036854775806 then zb4 (zt8 v1) (zv1 v1) v1 0 s else none
def zvz (v1:List Te) (s:List Te):Lct:=⟨5,zz7,0,[1,4],some (zp1 v1 0 s),List Te,znh v1 s,zle v1⟩
theorem ya8 {v1:List Te} {s:List Te}:(zvz v1 s).ok tab:=zeq (zax (J:=zp1 v1) (o:=(zle v1)) v1 (B:=fun(k:Int) (x:Te) (s:List Te)=>(.lenA Te.i v1<|.kb (decide (k<(v1.length:Int))) true<|.ob (0<=k)<|.lkX Te.i v1 (k.toNat) x<|.callF (yij x) fun(v51:Te)=>.guard (0<=k/\(k:Int)<(((s.map Te.o).length - 0:Nat):Int)) inferInstance<|.segA (V.int .i64) v51.fc<|.segA V.bool v51.fd<|.lookB Te.o s (k.toNat) fun v53=>.lkY Te.o s (k.toNat) v53<|.lkY Te.o s (k.toNat) v53<|.setN Te.o s (k.toNat) ({ v53 with fo:=v51.fo }:Te) fun v55=>.lookB Te.o v55 (k.toNat) fun v56=>.lkY Te.o v55 (k.toNat) v56<|.lkY Te.o v55 (k.toNat) v56<|.setN Te.o v55 (k.toNat) ({ v56 with fam:=v51.fam }:Te) fun v58=>.lookB Te.o v58 (k.toNat) fun v59=>.lkY Te.o v58 (k.toNat) v59<|.lkY Te.o v58 (k.toNat) v59<|.setN Te.o v58 (k.toNat) ({ v59 with fk:=v51.fk }:Te) fun v61=>.lookB Te.o v61 (k.toNat) fun v62=>.lkY Te.o v61 (k.toNat) v62<|.lkY Te.o v61 (k.toNat) v62<|.setN Te.o v61 (k.toNat) ({ v62 with fN:=v51.fN }:Te) fun v64=>.lookB Te.o v64 (k.toNat) fun v65=>.lkY Te.o v64 (k.toNat) v65<|.lkY Te.o v64 (k.toNat) v65<|.setN Te.o v64 (k.toNat) ({ v65 with fc:=v51.fc }:Te) fun v67=>.lookB Te.o v67 (k.toNat) fun v68=>.lkY Te.o v67 (k.toNat) v68<|.lkY Te.o v67 (k.toNat) v68<|.setN Te.o v67 (k.toNat) ({ v68 with fd:=v51.fd }:Te) fun v70=>.lfA (zt3 v1 (i64.wrap (k+1))) (.inl v70):Tree ((List Te)⊕((List Te))) _)) (E:=fun(s:List Te)=>(.lenA Te.i v1<|.kb (decide ((v1.length:Int)<(v1.length:Int))) false<|.lfA (zt3 v1 0) (.inr s):Tree ((List Te)⊕((List Te))) _)) (fun k x s=>by kernel_rfl) (fun d x t s he=>lA<|⟨ltX he,⟨Int.natCast_nonneg _,⟨zap Te.i he,cF ykh fun v51=>gU<|sA<|sA<|⟨za6 _ _ _,fun v53 h54=>⟨za0 _ h54,⟨za0 _ h54,⟨za9 _ _ _ _,fun v55 _=>⟨za6 _ _ _,fun v56 h57=>⟨za0 _ h57,⟨za0 _ h57,⟨za9 _ _ _ _,fun v58 _=>⟨za6 _ _ _,fun v59 h60=>⟨za0 _ h60,⟨za0 _ h60,⟨za9 _ _ _ _,fun v61 _=>⟨za6 _ _ _,fun v62 h63=>⟨za0 _ h63,⟨za0 _ h63,⟨za9 _ _ _ _,fun v64 _=>⟨za6 _ _ _,fun v65 h66=>⟨za0 _ h66,⟨za0 _ h66,⟨za9 _ _ _ _,fun v67 _=>⟨za6 _ _ _,fun v68 h69=>⟨za0 _ h69,⟨za0 _ h69,⟨za9 _ _ _ _,fun v70 _=>rfl⟩⟩⟩⟩⟩⟩⟩⟩⟩⟩⟩⟩⟩⟩⟩⟩⟩⟩⟩⟩⟩⟩⟩⟩⟩⟩⟩) (fun _=>rfl) (fun s=>by kernel_rfl) (fun s=>lA<|⟨ltE _,rfl⟩) (by kernel_rfl) (by kernel_rfl) s)
def ydi:List Te->V×List (List V):=fun r=>(.own 6 (r.map Te.o),[])
def yed (v1:List Te):Option (List Te):=if 0<=(v1.length:Int)/\(v1.length:Int).toNat * 80<=70368744177664 then((znh v1 (List.replicate (v1.length:Int).toNat (⟨(0:Int),(0:Int),(0:Int),(0:Int),[],[]⟩:Te))).bind fun v71=>(some v71)) else none
def yhs (v1:List Te):Ctr:=⟨53,[.imm 6 (v1.map Te.i)],[],List Te,yed v1,ydi⟩
theorem yiv (r:List Te):(ydi r).1.fresh=true:=by simp only [ydi,V.fresh,V.freshL,za2 (f:=Te.o) Te.o_f,Bool.and_self,Bool.true_and]
theorem yn6 {v1:List Te}:(yhs v1).okF tab:=fun r hr=>⟨za7 ykg rfl (.lenA Te.i v1<|.guard (0<=(v1.length:Int)/\(v1.length:Int).toNat * 80<=70368744177664) inferInstance<|.repA Te.o (v1.length:Int).toNat (⟨(0:Int),(0:Int),(0:Int),(0:Int),[],[]⟩:Te)<|.segA Te.o (List.replicate (v1.length:Int).toNat (⟨(0:Int),(0:Int),(0:Int),(0:Int),[],[]⟩:Te))<|.lp (zvz v1 (List.replicate (v1.length:Int).toNat (⟨(0:Int),(0:Int),(0:Int),(0:Int),[],[]⟩:Te))) fun(v71:List Te)=>.segA Te.o v71<|.lfA ydi v71:Tree (List Te) _) (by kernel_rfl) (by kernel_rfl) (lA<|gU<|⟨zef _ _ _,sA<|lP ya8 fun v71=>sA<|rfl⟩) hr,rfl,yiv r⟩
def ydv (v1:Tb):Option Tb:=(ybt v1.fa).bind fun v2=>((ydz v1.fac).bind fun v4=>((ybv v1.fag).bind fun v6=>((yed v1.fad).bind fun v8=>(some ({ v1 with fa:=v2,fac:=v4,fag:=v6,fad:=v8 }:Tb)))))
def yi9 (v1:Tb):Ctr:=⟨38,[v1.i],[],Tb,ydv v1,(rv Tb.o)⟩
theorem ylm (r:Tb):((rv Tb.o) r).1.fresh=true:=by simp only [rv,Tb.o,V.fresh,V.freshL,za2 (f:=(V.int .i64)) (fun _=>rfl),za2 (f:=V.bool) (fun _=>rfl),za2 (f:=Td.o) Td.o_f,za2 (f:=Te.o) Te.o_f,Bool.and_self,Bool.true_and]
theorem ym6 {v1:Tb}:(yi9 v1).okF tab:=fun r hr=>⟨za7 ym4 rfl (.callF (ydc v1.fa) fun(v2:Tg)=>.segA (V.int .i64) v2.fc<|.segA V.bool v2.fd<|.callF (yi3 v1.fac) fun(v4:List Td)=>.segA Td.o v4<|.callF (yd6 v1.fag) fun(v6:List Bool)=>.segA V.bool v6<|.callF (yhs v1.fad) fun(v8:List Te)=>.segA Te.o v8<|.segA (V.int .i64) v2.fc<|.segA V.bool v2.fd<|.segA Td.o v4<|.segA V.bool v6<|.segA Te.o v8<|.segA (V.int .i64) v2.fc<|.segA V.bool v2.fd<|.segA Td.o v4<|.segA V.bool v6<|.segA Te.o v8<|.lfA (rv Tb.o) ({ v1 with fa:=v2,fac:=v4,fag:=v6,fad:=v8 }:Tb):Tree Tb _) (by kernel_rfl) (by kernel_rfl) (cF yfq fun v2=>sA<|sA<|cF yks fun v4=>sA<|cF yg6 fun v6=>sA<|cF yn6 fun v8=>sA<|sA<|sA<|sA<|sA<|sA<|sA<|sA<|sA<|sA<|sA<|rfl) hr,rfl,ylm r⟩
def zoq (v1:List Tb) (k:Int) (s:List Tb):St:=⟨sv 5 [(0,.imm 13 (v1.map Tb.i)),(2,.own 13 (s.map Tb.o)),(3,.I k)],[]⟩
def zkt (v1:List Tb):(List Tb)->Ex×St:=fun p=>((.exit 0),⟨sv 5 [(0,.imm 13 (v1.map Tb.i)),(2,.own 13 (p.map Tb.o)),(3,.I (v1.length:Int)),(4,.bool false)],[]⟩)
def zsi (v1:List Tb) (k:Int):=zf6 (zoq v1 k) (zkt v1)
def zu6 (v1:List Tb) (k:Int) (x:Tb) (s:List Tb):Option ((List Tb)⊕((List Tb))):=(ydv x).bind fun v93=>(if 0<=k/\(k:Int)<(((s.map Tb.o).length - 0:Nat):Int) then(((s)[k.toNat]?).bind fun v95=>(let v97:=s.set (k.toNat) ({ v95 with fr:=v93.fr }:Tb);(((v97)[k.toNat]?).bind fun v98=>(let v100:=v97.set (k.toNat) ({ v98 with fas:=v93.fas }:Tb);(((v100)[k.toNat]?).bind fun v101=>(let v103:=v100.set (k.toNat) ({ v101 with fau:=v93.fau }:Tb);(((v103)[k.toNat]?).bind fun v104=>(let v106:=v103.set (k.toNat) ({ v104 with fg:=v93.fg }:Tb);(((v106)[k.toNat]?).bind fun v107=>(let v109:=v106.set (k.toNat) ({ v107 with fa:=({ v107.fa with fo:=v93.fa.fo }:Tg) }:Tb);(((v109)[k.toNat]?).bind fun v110=>(let v112:=v109.set (k.toNat) ({ v110 with fa:=({ v110.fa with fk:=v93.fa.fk }:Tg) }:Tb);(((v112)[k.toNat]?).bind fun v113=>(let v115:=v112.set (k.toNat) ({ v113 with fa:=({ v113.fa with fN:=v93.fa.fN }:Tg) }:Tb);(((v115)[k.toNat]?).bind fun v116=>(let v118:=v115.set (k.toNat) ({ v116 with fa:=({ v116.fa with fc:=v93.fa.fc }:Tg) }:Tb);(((v118)[k.toNat]?).bind fun v119=>(let v121:=v118.set (k.toNat) ({ v119 with fa:=({ v119.fa with fd:=v93.fa.fd }:Tg) }:Tb);(((v121)[k.toNat]?).bind fun v122=>(let v124:=v121.set (k.toNat) ({ v122 with fa:=({ v122.fa with fq:=v93.fa.fq }:Tg) }:Tb);(((v124)[k.toNat]?).bind fun v125=>(let v127:=v124.set (k.toNat) ({ v125 with fac:=v93.fac }:Tb);(((v127)[k.toNat]?).bind fun v128=>(let v130:=v127.set (k.toNat) ({ v128 with fag:=v93.fag }:Tb);(((v130)[k.toNat]?).bind fun v131=>(let v133:=v130.set (k.toNat) ({ v131 with fad:=v93.fad }:Tb);(some (.inl v133)))))))))))))))))))))))))))) else none)
def zvx (v1:List Tb) (s:List Tb):Option ((List Tb)):=some (s)
def zng (v1:List Tb) (s:List Tb):Option ((List Tb)):=if v1.length<=9223372036854775806 then zb4 (zu6 v1) (zvx v1) v1 0 s else none
def zus (v1:List Tb) (s:List Tb):Lct:=⟨5,zyj,0,[1,4],some (zoq v1 0 s),List Tb,zng v1 s,zkt v1⟩
theorem ya7 {v1:List Tb} {s:List Tb}:(zus v1 s).ok tab:=zeq (zax (J:=zoq v1) (o:=(zkt v1)) v1 (B:=fun(k:Int) (x:Tb) (s:List Tb)=>(.lenA Tb.i v1<|.kb (decide (k<(v1.length:Int))) true<|.ob (0<=k)<|.lkX Tb.i v1 (k.toNat) x<|.callF (yi9 x) fun(v93:Tb)=>.guard (0<=k/\(k:Int)<(((s.map Tb.o).length - 0:Nat):Int)) inferInstance<|.segA (V.int .i64) v93.fa.fc<|.segA V.bool v93.fa.fd<|.segA Td.o v93.fac<|.segA V.bool v93.fag<|.segA Te.o v93.fad<|.lookB Tb.o s (k.toNat) fun v95=>.lkY Tb.o s (k.toNat) v95<|.lkY Tb.o s (k.toNat) v95<|.setN Tb.o s (k.toNat) ({ v95 with fr:=v93.fr }:Tb) fun v97=>.lookB Tb.o v97 (k.toNat) fun v98=>.lkY Tb.o v97 (k.toNat) v98<|.lkY Tb.o v97 (k.toNat) v98<|.setN Tb.o v97 (k.toNat) ({ v98 with fas:=v93.fas }:Tb) fun v100=>.lookB Tb.o v100 (k.toNat) fun v101=>.lkY Tb.o v100 (k.toNat) v101<|.lkY Tb.o v100 (k.toNat) v101<|.setN Tb.o v100 (k.toNat) ({ v101 with fau:=v93.fau }:Tb) fun v103=>.lookB Tb.o v103 (k.toNat) fun v104=>.lkY Tb.o v103 (k.toNat) v104<|.lkY Tb.o v103 (k.toNat) v104<|.setN Tb.o v103 (k.toNat) ({ v104 with fg:=v93.fg }:Tb) fun v106=>.lookB Tb.o v106 (k.toNat) fun v107=>.lkY Tb.o v106 (k.toNat) v107<|.lkY Tb.o v106 (k.toNat) v107<|.setN Tb.o v106 (k.toNat) ({ v107 with fa:=({ v107.fa with fo:=v93.fa.fo }:Tg) }:Tb) fun v109=>.lookB Tb.o v109 (k.toNat) fun v110=>.lkY Tb.o v109 (k.toNat) v110<|.lkY Tb.o v109 (k.toNat) v110<|.setN Tb.o v109 (k.toNat) ({ v110 with fa:=({ v110.fa with fk:=v93.fa.fk }:Tg) }:Tb) fun v112=>.lookB Tb.o v112 (k.toNat) fun v113=>.lkY Tb.o v112 (k.toNat) v113<|.lkY Tb.o v112 (k.toNat) v113<|.setN Tb.o v112 (k.toNat) ({ v113 with fa:=({ v113.fa with fN:=v93.fa.fN }:Tg) }:Tb) fun v115=>.lookB Tb.o v115 (k.toNat) fun v116=>.lkY Tb.o v115 (k.toNat) v116<|.lkY Tb.o v115 (k.toNat) v116<|.setN Tb.o v115 (k.toNat) ({ v116 with fa:=({ v116.fa with fc:=v93.fa.fc }:Tg) }:Tb) fun v118=>.lookB Tb.o v118 (k.toNat) fun v119=>.lkY Tb.o v118 (k.toNat) v119<|.lkY Tb.o v118 (k.toNat) v119<|.setN Tb.o v118 (k.toNat) ({ v119 with fa:=({ v119.fa with fd:=v93.fa.fd }:Tg) }:Tb) fun v121=>.lookB Tb.o v121 (k.toNat) fun v122=>.lkY Tb.o v121 (k.toNat) v122<|.lkY Tb.o v121 (k.toNat) v122<|.setN Tb.o v121 (k.toNat) ({ v122 with fa:=({ v122.fa with fq:=v93.fa.fq }:Tg) }:Tb) fun v124=>.lookB Tb.o v124 (k.toNat) fun v125=>.lkY Tb.o v124 (k.toNat) v125<|.lkY Tb.o v124 (k.toNat) v125<|.setN Tb.o v124 (k.toNat) ({ v125 with fac:=v93.fac }:Tb) fun v127=>.lookB Tb.o v127 (k.toNat) fun v128=>.lkY Tb.o v127 (k.toNat) v128<|.lkY Tb.o v127 (k.toNat) v128<|.setN Tb.o v127 (k.toNat) ({ v128 with fag:=v93.fag }:Tb) fun v130=>.lookB Tb.o v130 (k.toNat) fun v131=>.lkY Tb.o v130 (k.toNat) v131<|.lkY Tb.o v130 (k.toNat) v131<|.setN Tb.o v130 (k.toNat) ({ v131 with fad:=v93.fad }:Tb) fun v133=>.lfA (zsi v1 (i64.wrap (k+1))) (.inl v133):Tree ((List Tb)⊕((List Tb))) _)) (E:=fun(s:List Tb)=>(.lenA Tb.i v1<|.kb (decide ((v1.length:Int)<(v1.length:Int))) false<|.lfA (zsi v1 0) (.inr s):Tree ((List Tb)⊕((List Tb))) _)) (fun k x s=>by kernel_rfl) (fun d x t s he=>lA<|⟨ltX he,⟨Int.natCast_nonneg _,⟨zap Tb.i he,cF ym6 fun v93=>gU<|sA<|sA<|sA<|sA<|sA<|⟨za6 _ _ _,fun v95 h96=>⟨za0 _ h96,⟨za0 _ h96,⟨za9 _ _ _ _,fun v97 _=>⟨za6 _ _ _,fun v98 h99=>⟨za0 _ h99,⟨za0 _ h99,⟨za9 _ _ _ _,fun v100 _=>⟨za6 _ _ _,fun v101 h102=>⟨za0 _ h102,⟨za0 _ h102,⟨za9 _ _ _ _,fun v103 _=>⟨za6 _ _ _,fun v104 h105=>⟨za0 _ h105,⟨za0 _ h105,⟨za9 _ _ _ _,fun v106 _=>⟨za6 _ _ _,fun v107 h108=>⟨za0 _ h108,⟨za0 _ h108,⟨za9 _ _ _ _,fun v109 _=>⟨za6 _ _ _,fun v110 h111=>⟨za0 _ h111,⟨za0 _ h111,⟨za9 _ _ _ _,fun v112 _=>⟨za6 _ _ _,fun v113 h114=>⟨za0 _ h114,⟨za0 _ h114,⟨za9 _ _ _ _,fun v115 _=>⟨za6 _ _ _,fun v116 h117=>⟨za0 _ h117,⟨za0 _ h117,⟨za9 _ _ _ _,fun v118 _=>⟨za6 _ _ _,fun v119 h120=>⟨za0 _ h120,⟨za0 _ h120,⟨za9 _ _ _ _,fun v121 _=>⟨za6 _ _ _,fun v122 h123=>⟨za0 _ h123,⟨za0 _ h123,⟨za9 _ _ _ _,fun v124 _=>⟨za6 _ _ _,fun v125 h126=>⟨za0 _ h126,⟨za0 _ h126,⟨za9 _ _ _ _,fun v127 _=>⟨za6 _ _ _,fun v128 h129=>⟨za0 _ h129,⟨za0 _ h129,⟨za9 _ _ _ _,fun v130 _=>⟨za6 _ _ _,fun v131 h132=>⟨za0 _ h132,⟨za0 _ h132,⟨za9 _ _ _ _,fun v133 _=>rfl⟩⟩⟩⟩⟩⟩⟩⟩⟩⟩⟩⟩⟩⟩⟩⟩⟩⟩⟩⟩⟩⟩⟩⟩⟩⟩⟩⟩⟩⟩⟩⟩⟩⟩⟩⟩⟩⟩⟩⟩⟩⟩⟩⟩⟩⟩⟩⟩⟩⟩⟩⟩⟩⟩⟩) (fun _=>rfl) (fun s=>by kernel_rfl) (fun s=>lA<|⟨ltE _,rfl⟩) (by kernel_rfl) (by kernel_rfl) s)
def ydy:List Tb->V×List (List V):=fun r=>(.own 13 (r.map Tb.o),[])
def ye1 (v1:List Tb):Option (List Tb):=if 0<=(v1.length:Int)/\(v1.length:Int).toNat * 184<=70368744177664 then((zng v1 (List.replicate (v1.length:Int).toNat (⟨(0:Int),(0:Int),(0:Int),(0:Int),(⟨(0:Int),(0:Int),(0:Int),[],[],(0:Int)⟩:Tg),[],[],[]⟩:Tb))).bind fun v134=>(some v134)) else none
def yib (v1:List Tb):Ctr:=⟨27,[.imm 13 (v1.map Tb.i)],[],List Tb,ye1 v1,ydy⟩
theorem ym3 (r:List Tb):(ydy r).1.fresh=true:=by simp only [ydy,V.fresh,V.freshL,za2 (f:=Tb.o) Tb.o_f,Bool.and_self,Bool.true_and]
theorem yo0 {v1:List Tb}:(yib v1).okF tab:=fun r hr=>⟨za7 ymx rfl (.lenA Tb.i v1<|.guard (0<=(v1.length:Int)/\(v1.length:Int).toNat * 184<=70368744177664) inferInstance<|.repA Tb.o (v1.length:Int).toNat (⟨(0:Int),(0:Int),(0:Int),(0:Int),(⟨(0:Int),(0:Int),(0:Int),[],[],(0:Int)⟩:Tg),[],[],[]⟩:Tb)<|.segA Tb.o (List.replicate (v1.length:Int).toNat (⟨(0:Int),(0:Int),(0:Int),(0:Int),(⟨(0:Int),(0:Int),(0:Int),[],[],(0:Int)⟩:Tg),[],[],[]⟩:Tb))<|.lp (zus v1 (List.replicate (v1.length:Int).toNat (⟨(0:Int),(0:Int),(0:Int),(0:Int),(⟨(0:Int),(0:Int),(0:Int),[],[],(0:Int)⟩:Tg),[],[],[]⟩:Tb))) fun(v134:List Tb)=>.segA Tb.o v134<|.lfA ydy v134:Tree (List Tb) _) (by kernel_rfl) (by kernel_rfl) (lA<|gU<|⟨zef _ _ _,sA<|lP ya7 fun v134=>sA<|rfl⟩) hr,rfl,ym3 r⟩
def yd7 (v1:Ti):Option Ti:=(ye1 v1.fi).bind fun v2=>(some (⟨v1.ft,v2⟩:Ti))
def yhj (v1:Ti):Ctr:=⟨14,[v1.i],[],Ti,yd7 v1,(rv Ti.o)⟩
theorem ymu (r:Ti):((rv Ti.o) r).1.fresh=true:=by simp only [rv,Ti.o,V.fresh,V.freshL,za2 (f:=Tb.o) Tb.o_f,Bool.and_self,Bool.true_and]
theorem yj5 {v1:Ti}:(yhj v1).okF tab:=fun r hr=>⟨za7 ylr rfl (.callF (yib v1.fi) fun(v2:List Tb)=>.segA Tb.o v2<|.segA Tb.o v2<|.segA Tb.o v2<|.lfA (rv Ti.o) (⟨v1.ft,v2⟩:Ti):Tree Ti _) (by kernel_rfl) (by kernel_rfl) (cF yo0 fun v2=>sA<|sA<|sA<|rfl) hr,rfl,ymu r⟩
def yc9 (v1:Tc):Option Tc:=(ybt v1.fa).bind fun v2=>(some ({ v1 with fa:=v2 }:Tc))
def yg9 (v1:Tc):Ctr:=⟨40,[v1.i],[],Tc,yc9 v1,(rv Tc.o)⟩
theorem ym5 (r:Tc):((rv Tc.o) r).1.fresh=true:=by simp only [rv,Tc.o,V.fresh,V.freshL,za2 (f:=(V.int .i64)) (fun _=>rfl),za2 (f:=V.bool) (fun _=>rfl),Bool.and_self,Bool.true_and]
theorem yhk {v1:Tc}:(yg9 v1).okF tab:=fun r hr=>⟨za7 yk9 rfl (.callF (ydc v1.fa) fun(v2:Tg)=>.segA (V.int .i64) v2.fc<|.segA V.bool v2.fd<|.segA (V.int .i64) v2.fc<|.segA V.bool v2.fd<|.segA (V.int .i64) v2.fc<|.segA V.bool v2.fd<|.lfA (rv Tc.o) ({ v1 with fa:=v2 }:Tc):Tree Tc _) (by kernel_rfl) (by kernel_rfl) (cF yfq fun v2=>sA<|sA<|sA<|sA<|sA<|sA<|rfl) hr,rfl,ym5 r⟩
def znv (v1:List Tc) (k:Int) (s:List Tc):St:=⟨sv 5 [(0,.imm 9 (v1.map Tc.i)),(2,.own 9 (s.map Tc.o)),(3,.I k)],[]⟩
def zln (v1:List Tc):(List Tc)->Ex×St:=fun p=>((.exit 0),⟨sv 5 [(0,.imm 9 (v1.map Tc.i)),(2,.own 9 (p.map Tc.o)),(3,.I (v1.length:Int)),(4,.bool false)],[]⟩)
def zuo (v1:List Tc) (k:Int):=zf6 (znv v1 k) (zln v1)
def zv8 (v1:List Tc) (k:Int) (x:Tc) (s:List Tc):Option ((List Tc)⊕((List Tc))):=(yc9 x).bind fun v69=>(if 0<=k/\(k:Int)<(((s.map Tc.o).length - 0:Nat):Int) then(((s)[k.toNat]?).bind fun v71=>(let v73:=s.set (k.toNat) ({ v71 with fr:=v69.fr }:Tc);(((v73)[k.toNat]?).bind fun v74=>(let v76:=v73.set (k.toNat) ({ v74 with faj:=v69.faj }:Tc);(((v76)[k.toNat]?).bind fun v77=>(let v79:=v76.set (k.toNat) ({ v77 with fg:=v69.fg }:Tc);(((v79)[k.toNat]?).bind fun v80=>(let v82:=v79.set (k.toNat) ({ v80 with fa:=({ v80.fa with fo:=v69.fa.fo }:Tg) }:Tc);(((v82)[k.toNat]?).bind fun v83=>(let v85:=v82.set (k.toNat) ({ v83 with fa:=({ v83.fa with fk:=v69.fa.fk }:Tg) }:Tc);(((v85)[k.toNat]?).bind fun v86=>(let v88:=v85.set (k.toNat) ({ v86 with fa:=({ v86.fa with fN:=v69.fa.fN }:Tg) }:Tc);(((v88)[k.toNat]?).bind fun v89=>(let v91:=v88.set (k.toNat) ({ v89 with fa:=({ v89.fa with fc:=v69.fa.fc }:Tg) }:Tc);(((v91)[k.toNat]?).bind fun v92=>(let v94:=v91.set (k.toNat) ({ v92 with fa:=({ v92.fa with fd:=v69.fa.fd }:Tg) }:Tc);(((v94)[k.toNat]?).bind fun v95=>(let v97:=v94.set (k.toNat) ({ v95 with fa:=({ v95.fa with fq:=v69.fa.fq }:Tg) }:Tc);(some (.inl v97)))))))))))))))))))) else none)
def ztg (v1:List Tc) (s:List Tc):Option ((List Tc)):=some (s)
def znw (v1:List Tc) (s:List Tc):Option ((List Tc)):=if v1.length<=9223372036854775806 then zb4 (zv8 v1) (ztg v1) v1 0 s else none
def zuu (v1:List Tc) (s:List Tc):Lct:=⟨5,zys,0,[1,4],some (znv v1 0 s),List Tc,znw v1 s,zln v1⟩
theorem yai {v1:List Tc} {s:List Tc}:(zuu v1 s).ok tab:=zeq (zax (J:=znv v1) (o:=(zln v1)) v1 (B:=fun(k:Int) (x:Tc) (s:List Tc)=>(.lenA Tc.i v1<|.kb (decide (k<(v1.length:Int))) true<|.ob (0<=k)<|.lkX Tc.i v1 (k.toNat) x<|.callF (yg9 x) fun(v69:Tc)=>.guard (0<=k/\(k:Int)<(((s.map Tc.o).length - 0:Nat):Int)) inferInstance<|.segA (V.int .i64) v69.fa.fc<|.segA V.bool v69.fa.fd<|.lookB Tc.o s (k.toNat) fun v71=>.lkY Tc.o s (k.toNat) v71<|.lkY Tc.o s (k.toNat) v71<|.setN Tc.o s (k.toNat) ({ v71 with fr:=v69.fr }:Tc) fun v73=>.lookB Tc.o v73 (k.toNat) fun v74=>.lkY Tc.o v73 (k.toNat) v74<|.lkY Tc.o v73 (k.toNat) v74<|.setN Tc.o v73 (k.toNat) ({ v74 with faj:=v69.faj }:Tc) fun v76=>.lookB Tc.o v76 (k.toNat) fun v77=>.lkY Tc.o v76 (k.toNat) v77<|.lkY Tc.o v76 (k.toNat) v77<|.setN Tc.o v76 (k.toNat) ({ v77 with fg:=v69.fg }:Tc) fun v79=>.lookB Tc.o v79 (k.toNat) fun v80=>.lkY Tc.o v79 (k.toNat) v80<|.lkY Tc.o v79 (k.toNat) v80<|.setN Tc.o v79 (k.toNat) ({ v80 with fa:=({ v80.fa with fo:=v69.fa.fo }:Tg) }:Tc) fun v82=>.lookB Tc.o v82 (k.toNat) fun v83=>.lkY Tc.o v82 (k.toNat) v83<|.lkY Tc.o v82 (k.toNat) v83<|.setN Tc.o v82 (k.toNat) ({ v83 with fa:=({ v83.fa with fk:=v69.fa.fk }:Tg) }:Tc) fun v85=>.lookB Tc.o v85 (k.toNat) fun v86=>.lkY Tc.o v85 (k.toNat) v86<|.lkY Tc.o v85 (k.toNat) v86<|.setN Tc.o v85 (k.toNat) ({ v86 with fa:=({ v86.fa with fN:=v69.fa.fN }:Tg) }:Tc) fun v88=>.lookB Tc.o v88 (k.toNat) fun v89=>.lkY Tc.o v88 (k.toNat) v89<|.lkY Tc.o v88 (k.toNat) v89<|.setN Tc.o v88 (k.toNat) ({ v89 with fa:=({ v89.fa with fc:=v69.fa.fc }:Tg) }:Tc) fun v91=>.lookB Tc.o v91 (k.toNat) fun v92=>.lkY Tc.o v91 (k.toNat) v92<|.lkY Tc.o v91 (k.toNat) v92<|.setN Tc.o v91 (k.toNat) ({ v92 with fa:=({ v92.fa with fd:=v69.fa.fd }:Tg) }:Tc) fun v94=>.lookB Tc.o v94 (k.toNat) fun v95=>.lkY Tc.o v94 (k.toNat) v95<|.lkY Tc.o v94 (k.toNat) v95<|.setN Tc.o v94 (k.toNat) ({ v95 with fa:=({ v95.fa with fq:=v69.fa.fq }:Tg) }:Tc) fun v97=>.lfA (zuo v1 (i64.wrap (k+1))) (.inl v97):Tree ((List Tc)⊕((List Tc))) _)) (E:=fun(s:List Tc)=>(.lenA Tc.i v1<|.kb (decide ((v1.length:Int)<(v1.length:Int))) false<|.lfA (zuo v1 0) (.inr s):Tree ((List Tc)⊕((List Tc))) _)) (fun k x s=>by kernel_rfl) (fun d x t s he=>lA<|⟨ltX he,⟨Int.natCast_nonneg _,⟨zap Tc.i he,cF yhk fun v69=>gU<|sA<|sA<|⟨za6 _ _ _,fun v71 h72=>⟨za0 _ h72,⟨za0 _ h72,⟨za9 _ _ _ _,fun v73 _=>⟨za6 _ _ _,fun v74 h75=>⟨za0 _ h75,⟨za0 _ h75,⟨za9 _ _ _ _,fun v76 _=>⟨za6 _ _ _,fun v77 h78=>⟨za0 _ h78,⟨za0 _ h78,⟨za9 _ _ _ _,fun v79 _=>⟨za6 _ _ _,fun v80 h81=>⟨za0 _ h81,⟨za0 _ h81,⟨za9 _ _ _ _,fun v82 _=>⟨za6 _ _ _,fun v83 h84=>⟨za0 _ h84,⟨za0 _ h84,⟨za9 _ _ _ _,fun v85 _=>⟨za6 _ _ _,fun v86 h87=>⟨za0 _ h87,⟨za0 _ h87,⟨za9 _ _ _ _,fun v88 _=>⟨za6 _ _ _,fun v89 h90=>⟨za0 _ h90,⟨za0 _ h90,⟨za9 _ _ _ _,fun v91 _=>⟨za6 _ _ _,fun v92 h93=>⟨za0 _ h93,⟨za0 _ h93,⟨za9 _ _ _ _,fun v94 _=>⟨za6 _ _ _,fun v95 h96=>⟨za0 _ h96,⟨za0 _ h96,⟨za9 _ _ _ _,fun v97 _=>rfl⟩⟩⟩⟩⟩⟩⟩⟩⟩⟩⟩⟩⟩⟩⟩⟩⟩⟩⟩⟩⟩⟩⟩⟩⟩⟩⟩⟩⟩⟩⟩⟩⟩⟩⟩⟩⟩⟩⟩) (fun _=>rfl) (fun s=>by kernel_rfl) (fun s=>lA<|⟨ltE _,rfl⟩) (by kernel_rfl) (by kernel_rfl) s)
def yd3:List Tc->V×List (List V):=fun r=>(.own 9 (r.map Tc.o),[])
def ydd (v1:List Tc):Option (List Tc):=if 0<=(v1.length:Int)/\(v1.length:Int).toNat * 104<=70368744177664 then((znw v1 (List.replicate (v1.length:Int).toNat (⟨(0:Int),(0:Int),(0:Int),(⟨(0:Int),(0:Int),(0:Int),[],[],(0:Int)⟩:Tg)⟩:Tc))).bind fun v98=>(some v98)) else none
def yhe (v1:List Tc):Ctr:=⟨39,[.imm 9 (v1.map Tc.i)],[],List Tc,ydd v1,yd3⟩
theorem ykm (r:List Tc):(yd3 r).1.fresh=true:=by simp only [yd3,V.fresh,V.freshL,za2 (f:=Tc.o) Tc.o_f,Bool.and_self,Bool.true_and]
theorem yiw {v1:List Tc}:(yhe v1).okF tab:=fun r hr=>⟨za7 yj7 rfl (.lenA Tc.i v1<|.guard (0<=(v1.length:Int)/\(v1.length:Int).toNat * 104<=70368744177664) inferInstance<|.repA Tc.o (v1.length:Int).toNat (⟨(0:Int),(0:Int),(0:Int),(⟨(0:Int),(0:Int),(0:Int),[],[],(0:Int)⟩:Tg)⟩:Tc)<|.segA Tc.o (List.replicate (v1.length:Int).toNat (⟨(0:Int),(0:Int),(0:Int),(⟨(0:Int),(0:Int),(0:Int),[],[],(0:Int)⟩:Tg)⟩:Tc))<|.lp (zuu v1 (List.replicate (v1.length:Int).toNat (⟨(0:Int),(0:Int),(0:Int),(⟨(0:Int),(0:Int),(0:Int),[],[],(0:Int)⟩:Tg)⟩:Tc))) fun(v98:List Tc)=>.segA Tc.o v98<|.lfA yd3 v98:Tree (List Tc) _) (by kernel_rfl) (by kernel_rfl) (lA<|gU<|⟨zef _ _ _,sA<|lP yai fun v98=>sA<|rfl⟩) hr,rfl,ykm r⟩
def ydt (v1:Ta):Option Ta:=(ydd v1.ff).bind fun v2=>((yc9 v1.fb).bind fun v4=>(some ({ v1 with ff:=v2,fb:=v4 }:Ta)))
def yio (v1:Ta):Ctr:=⟨28,[v1.i],[],Ta,ydt v1,(rv Ta.o)⟩
theorem ynt (r:Ta):((rv Ta.o) r).1.fresh=true:=by simp only [rv,Ta.o,V.fresh,V.freshL,za2 (f:=Tc.o) Tc.o_f,za2 (f:=(V.int .i64)) (fun _=>rfl),za2 (f:=V.bool) (fun _=>rfl),Bool.and_self,Bool.true_and]
theorem yma {v1:Ta}:(yio v1).okF tab:=fun r hr=>⟨za7 ykp rfl (.callF (yhe v1.ff) fun(v2:List Tc)=>.segA Tc.o v2<|.callF (yg9 v1.fb) fun(v4:Tc)=>.segA (V.int .i64) v4.fa.fc<|.segA V.bool v4.fa.fd<|.segA Tc.o v2<|.segA (V.int .i64) v4.fa.fc<|.segA V.bool v4.fa.fd<|.segA Tc.o v2<|.segA (V.int .i64) v4.fa.fc<|.segA V.bool v4.fa.fd<|.lfA (rv Ta.o) ({ v1 with ff:=v2,fb:=v4 }:Ta):Tree Ta _) (by kernel_rfl) (by kernel_rfl) (cF yiw fun v2=>sA<|cF yhk fun v4=>sA<|sA<|sA<|sA<|sA<|sA<|sA<|sA<|rfl) hr,rfl,ynt r⟩
def zpt (v1:List Ta) (k:Int) (s:List Ta):St:=⟨sv 5 [(0,.imm 17 (v1.map Ta.i)),(2,.own 17 (s.map Ta.o)),(3,.I k)],[]⟩
def zlm (v1:List Ta):(List Ta)->Ex×St:=fun p=>((.exit 0),⟨sv 5 [(0,.imm 17 (v1.map Ta.i)),(2,.own 17 (p.map Ta.o)),(3,.I (v1.length:Int)),(4,.bool false)],[]⟩)
def zv7 (v1:List Ta) (k:Int):=zf6 (zpt v1 k) (zlm v1)
def zu8 (v1:List Ta) (k:Int) (x:Ta) (s:List Ta):Option ((List Ta)⊕((List Ta))):=(ydt x).bind fun v117=>(if 0<=k/\(k:Int)<(((s.map Ta.o).length - 0:Nat):Int) then(((s)[k.toNat]?).bind fun v119=>(let v121:=s.set (k.toNat) ({ v119 with ff:=v117.ff }:Ta);(((v121)[k.toNat]?).bind fun v122=>(let v124:=v121.set (k.toNat) ({ v122 with faa:=v117.faa }:Ta);(((v124)[k.toNat]?).bind fun v125=>(let v127:=v124.set (k.toNat) ({ v125 with fb:=({ v125.fb with fr:=v117.fb.fr }:Tc) }:Ta);(((v127)[k.toNat]?).bind fun v128=>(let v130:=v127.set (k.toNat) ({ v128 with fb:=({ v128.fb with faj:=v117.fb.faj }:Tc) }:Ta);(((v130)[k.toNat]?).bind fun v131=>(let v133:=v130.set (k.toNat) ({ v131 with fb:=({ v131.fb with fg:=v117.fb.fg }:Tc) }:Ta);(((v133)[k.toNat]?).bind fun v134=>(let v136:=v133.set (k.toNat) ({ v134 with fb:=({ v134.fb with fa:=({ v134.fb.fa with fo:=v117.fb.fa.fo }:Tg) }:Tc) }:Ta);(((v136)[k.toNat]?).bind fun v137=>(let v139:=v136.set (k.toNat) ({ v137 with fb:=({ v137.fb with fa:=({ v137.fb.fa with fk:=v117.fb.fa.fk }:Tg) }:Tc) }:Ta);(((v139)[k.toNat]?).bind fun v140=>(let v142:=v139.set (k.toNat) ({ v140 with fb:=({ v140.fb with fa:=({ v140.fb.fa with fN:=v117.fb.fa.fN }:Tg) }:Tc) }:Ta);(((v142)[k.toNat]?).bind fun v143=>(let v145:=v142.set (k.toNat) ({ v143 with fb:=({ v143.fb with fa:=({ v143.fb.fa with fc:=v117.fb.fa.fc }:Tg) }:Tc) }:Ta);(((v145)[k.toNat]?).bind fun v146=>(let v148:=v145.set (k.toNat) ({ v146 with fb:=({ v146.fb with fa:=({ v146.fb.fa with fd:=v117.fb.fa.fd }:Tg) }:Tc) }:Ta);(((v148)[k.toNat]?).bind fun v149=>(let v151:=v148.set (k.toNat) ({ v149 with fb:=({ v149.fb with fa:=({ v149.fb.fa with fq:=v117.fb.fa.fq }:Tg) }:Tc) }:Ta);(((v151)[k.toNat]?).bind fun v152=>(let v154:=v151.set (k.toNat) ({ v152 with faq:=v117.faq }:Ta);(((v154)[k.toNat]?).bind fun v155=>(let v157:=v154.set (k.toNat) ({ v155 with fal:=v117.fal }:Ta);(((v157)[k.toNat]?).bind fun v158=>(let v160:=v157.set (k.toNat) ({ v158 with fao:=v117.fao }:Ta);(((v160)[k.toNat]?).bind fun v161=>(let v163:=v160.set (k.toNat) ({ v161 with ft:=v117.ft }:Ta);(((v163)[k.toNat]?).bind fun v164=>(let v166:=v163.set (k.toNat) ({ v164 with fw:=v117.fw }:Ta);(((v166)[k.toNat]?).bind fun v167=>(let v169:=v166.set (k.toNat) ({ v167 with fu:=v117.fu }:Ta);(some (.inl v169)))))))))))))))))))))))))))))))))))) else none)
def zvt (v1:List Ta) (s:List Ta):Option ((List Ta)):=some (s)
def znf (v1:List Ta) (s:List Ta):Option ((List Ta)):=if v1.length<=9223372036854775806 then zb4 (zu8 v1) (zvt v1) v1 0 s else none
def zu9 (v1:List Ta) (s:List Ta):Lct:=⟨5,zym,0,[1,4],some (zpt v1 0 s),List Ta,znf v1 s,zlm v1⟩
theorem ybo {v1:List Ta} {s:List Ta}:(zu9 v1 s).ok tab:=zeq (zax (J:=zpt v1) (o:=(zlm v1)) v1 (B:=fun(k:Int) (x:Ta) (s:List Ta)=>(.lenA Ta.i v1<|.kb (decide (k<(v1.length:Int))) true<|.ob (0<=k)<|.lkX Ta.i v1 (k.toNat) x<|.callF (yio x) fun(v117:Ta)=>.guard (0<=k/\(k:Int)<(((s.map Ta.o).length - 0:Nat):Int)) inferInstance<|.segA Tc.o v117.ff<|.segA (V.int .i64) v117.fb.fa.fc<|.segA V.bool v117.fb.fa.fd<|.lookB Ta.o s (k.toNat) fun v119=>.lkY Ta.o s (k.toNat) v119<|.lkY Ta.o s (k.toNat) v119<|.setN Ta.o s (k.toNat) ({ v119 with ff:=v117.ff }:Ta) fun v121=>.lookB Ta.o v121 (k.toNat) fun v122=>.lkY Ta.o v121 (k.toNat) v122<|.lkY Ta.o v121 (k.toNat) v122<|.setN Ta.o v121 (k.toNat) ({ v122 with faa:=v117.faa }:Ta) fun v124=>.lookB Ta.o v124 (k.toNat) fun v125=>.lkY Ta.o v124 (k.toNat) v125<|.lkY Ta.o v124 (k.toNat) v125<|.setN Ta.o v124 (k.toNat) ({ v125 with fb:=({ v125.fb with fr:=v117.fb.fr }:Tc) }:Ta) fun v127=>.lookB Ta.o v127 (k.toNat) fun v128=>.lkY Ta.o v127 (k.toNat) v128<|.lkY Ta.o v127 (k.toNat) v128<|.setN Ta.o v127 (k.toNat) ({ v128 with fb:=({ v128.fb with faj:=v117.fb.faj }:Tc) }:Ta) fun v130=>.lookB Ta.o v130 (k.toNat) fun v131=>.lkY Ta.o v130 (k.toNat) v131<|.lkY Ta.o v130 (k.toNat) v131<|.setN Ta.o v130 (k.toNat) ({ v131 with fb:=({ v131.fb with fg:=v117.fb.fg }:Tc) }:Ta) fun v133=>.lookB Ta.o v133 (k.toNat) fun v134=>.lkY Ta.o v133 (k.toNat) v134<|.lkY Ta.o v133 (k.toNat) v134<|.setN Ta.o v133 (k.toNat) ({ v134 with fb:=({ v134.fb with fa:=({ v134.fb.fa with fo:=v117.fb.fa.fo }:Tg) }:Tc) }:Ta) fun v136=>.lookB Ta.o v136 (k.toNat) fun v137=>.lkY Ta.o v136 (k.toNat) v137<|.lkY Ta.o v136 (k.toNat) v137<|.setN Ta.o v136 (k.toNat) ({ v137 with fb:=({ v137.fb with fa:=({ v137.fb.fa with fk:=v117.fb.fa.fk }:Tg) }:Tc) }:Ta) fun v139=>.lookB Ta.o v139 (k.toNat) fun v140=>.lkY Ta.o v139 (k.toNat) v140<|.lkY Ta.o v139 (k.toNat) v140<|.setN Ta.o v139 (k.toNat) ({ v140 with fb:=({ v140.fb with fa:=({ v140.fb.fa with fN:=v117.fb.fa.fN }:Tg) }:Tc) }:Ta) fun v142=>.lookB Ta.o v142 (k.toNat) fun v143=>.lkY Ta.o v142 (k.toNat) v143<|.lkY Ta.o v142 (k.toNat) v143<|.setN Ta.o v142 (k.toNat) ({ v143 with fb:=({ v143.fb with fa:=({ v143.fb.fa with fc:=v117.fb.fa.fc }:Tg) }:Tc) }:Ta) fun v145=>.lookB Ta.o v145 (k.toNat) fun v146=>.lkY Ta.o v145 (k.toNat) v146<|.lkY Ta.o v145 (k.toNat) v146<|.setN Ta.o v145 (k.toNat) ({ v146 with fb:=({ v146.fb with fa:=({ v146.fb.fa with fd:=v117.fb.fa.fd }:Tg) }:Tc) }:Ta) fun v148=>.lookB Ta.o v148 (k.toNat) fun v149=>.lkY Ta.o v148 (k.toNat) v149<|.lkY Ta.o v148 (k.toNat) v149<|.setN Ta.o v148 (k.toNat) ({ v149 with fb:=({ v149.fb with fa:=({ v149.fb.fa with fq:=v117.fb.fa.fq }:Tg) }:Tc) }:Ta) fun v151=>.lookB Ta.o v151 (k.toNat) fun v152=>.lkY Ta.o v151 (k.toNat) v152<|.lkY Ta.o v151 (k.toNat) v152<|.setN Ta.o v151 (k.toNat) ({ v152 with faq:=v117.faq }:Ta) fun v154=>.lookB Ta.o v154 (k.toNat) fun v155=>.lkY Ta.o v154 (k.toNat) v155<|.lkY Ta.o v154 (k.toNat) v155<|.setN Ta.o v154 (k.toNat) ({ v155 with fal:=v117.fal }:Ta) fun v157=>.lookB Ta.o v157 (k.toNat) fun v158=>.lkY Ta.o v157 (k.toNat) v158<|.lkY Ta.o v157 (k.toNat) v158<|.setN Ta.o v157 (k.toNat) ({ v158 with fao:=v117.fao }:Ta) fun v160=>.lookB Ta.o v160 (k.toNat) fun v161=>.lkY Ta.o v160 (k.toNat) v161<|.lkY Ta.o v160 (k.toNat) v161<|.setN Ta.o v160 (k.toNat) ({ v161 with ft:=v117.ft }:Ta) fun v163=>.lookB Ta.o v163 (k.toNat) fun v164=>.lkY Ta.o v163 (k.toNat) v164<|.lkY Ta.o v163 (k.toNat) v164<|.setN Ta.o v163 (k.toNat) ({ v164 with fw:=v117.fw }:Ta) fun v166=>.lookB Ta.o v166 (k.toNat) fun v167=>.lkY Ta.o v166 (k.toNat) v167<|.lkY Ta.o v166 (k.toNat) v167<|.setN Ta.o v166 (k.toNat) ({ v167 with fu:=v117.fu }:Ta) fun v169=>.lfA (zv7 v1 (i64.wrap (k+1))) (.inl v169):Tree ((List Ta)⊕((List Ta))) _)) (E:=fun(s:List Ta)=>(.lenA Ta.i v1<|.kb (decide ((v1.length:Int)<(v1.length:Int))) false<|.lfA (zv7 v1 0) (.inr s):Tree ((List Ta)⊕((List Ta))) _)) (fun k x s=>by kernel_rfl) (fun d x t s he=>lA<|⟨ltX he,⟨Int.natCast_nonneg _,⟨zap Ta.i he,cF yma fun v117=>gU<|sA<|sA<|sA<|⟨za6 _ _ _,fun v119 h120=>⟨za0 _ h120,⟨za0 _ h120,⟨za9 _ _ _ _,fun v121 _=>⟨za6 _ _ _,fun v122 h123=>⟨za0 _ h123,⟨za0 _ h123,⟨za9 _ _ _ _,fun v124 _=>⟨za6 _ _ _,fun v125 h126=>⟨za0 _ h126,⟨za0 _ h126,⟨za9 _ _ _ _,fun v127 _=>⟨za6 _ _ _,fun v128 h129=>⟨za0 _ h129,⟨za0 _ h129,⟨za9 _ _ _ _,fun v130 _=>⟨za6 _ _ _,fun v131 h132=>⟨za0 _ h132,⟨za0 _ h132,⟨za9 _ _ _ _,fun v133 _=>⟨za6 _ _ _,fun v134 h135=>⟨za0 _ h135,⟨za0 _ h135,⟨za9 _ _ _ _,fun v136 _=>⟨za6 _ _ _,fun v137 h138=>⟨za0 _ h138,⟨za0 _ h138,⟨za9 _ _ _ _,fun v139 _=>⟨za6 _ _ _,fun v140 h141=>⟨za0 _ h141,⟨za0 _ h141,⟨za9 _ _ _ _,fun v142 _=>⟨za6 _ _ _,fun v143 h144=>⟨za0 _ h144,⟨za0 _ h144,⟨za9 _ _ _ _,fun v145 _=>⟨za6 _ _ _,fun v146 h147=>⟨za0 _ h147,⟨za0 _ h147,⟨za9 _ _ _ _,fun v148 _=>⟨za6 _ _ _,fun v149 h150=>⟨za0 _ h150,⟨za0 _ h150,⟨za9 _ _ _ _,fun v151 _=>⟨za6 _ _ _,fun v152 h153=>⟨za0 _ h153,⟨za0 _ h153,⟨za9 _ _ _ _,fun v154 _=>⟨za6 _ _ _,fun v155 h156=>⟨za0 _ h156,⟨za0 _ h156,⟨za9 _ _ _ _,fun v157 _=>⟨za6 _ _ _,fun v158 h159=>⟨za0 _ h159,⟨za0 _ h159,⟨za9 _ _ _ _,fun v160 _=>⟨za6 _ _ _,fun v161 h162=>⟨za0 _ h162,⟨za0 _ h162,⟨za9 _ _ _ _,fun v163 _=>⟨za6 _ _ _,fun v164 h165=>⟨za0 _ h165,⟨za0 _ h165,⟨za9 _ _ _ _,fun v166 _=>⟨za6 _ _ _,fun v167 h168=>⟨za0 _ h168,⟨za0 _ h168,⟨za9 _ _ _ _,fun v169 _=>rfl⟩⟩⟩⟩⟩⟩⟩⟩⟩⟩⟩⟩⟩⟩⟩⟩⟩⟩⟩⟩⟩⟩⟩⟩⟩⟩⟩⟩⟩⟩⟩⟩⟩⟩⟩⟩⟩⟩⟩⟩⟩⟩⟩⟩⟩⟩⟩⟩⟩⟩⟩⟩⟩⟩⟩⟩⟩⟩⟩⟩⟩⟩⟩⟩⟩⟩⟩⟩⟩⟩⟩) (fun _=>rfl) (fun s=>by kernel_rfl) (fun s=>lA<|⟨ltE _,rfl⟩) (by kernel_rfl) (by kernel_rfl) s)
def ydn:List Ta->V×List (List V):=fun r=>(.own 17 (r.map Ta.o),[])
def ydh (v1:List Ta):Option (List Ta):=if 0<=(v1.length:Int)/\(v1.length:Int).toNat * 184<=70368744177664 then((znf v1 (List.replicate (v1.length:Int).toNat (⟨[],false,(⟨(0:Int),(0:Int),(0:Int),(⟨(0:Int),(0:Int),(0:Int),[],[],(0:Int)⟩:Tg)⟩:Tc),(0:Int),(0:Int),(0:Int),(0:Int),(0:Int),(0:Int)⟩:Ta))).bind fun v170=>(some v170)) else none
def yil (v1:List Ta):Ctr:=⟨15,[.imm 17 (v1.map Ta.i)],[],List Ta,ydh v1,ydn⟩
theorem ymp (r:List Ta):(ydn r).1.fresh=true:=by simp only [ydn,V.fresh,V.freshL,za2 (f:=Ta.o) Ta.o_f,Bool.and_self,Bool.true_and]
theorem ynq {v1:List Ta}:(yil v1).okF tab:=fun r hr=>⟨za7 ymq rfl (.lenA Ta.i v1<|.guard (0<=(v1.length:Int)/\(v1.length:Int).toNat * 184<=70368744177664) inferInstance<|.repA Ta.o (v1.length:Int).toNat (⟨[],false,(⟨(0:Int),(0:Int),(0:Int),(⟨(0:Int),(0:Int),(0:Int),[],[],(0:Int)⟩:Tg)⟩:Tc),(0:Int),(0:Int),(0:Int),(0:Int),(0:Int),(0:Int)⟩:Ta)<|.segA Ta.o (List.replicate (v1.length:Int).toNat (⟨[],false,(⟨(0:Int),(0:Int),(0:Int),(⟨(0:Int),(0:Int),(0:Int),[],[],(0:Int)⟩:Tg)⟩:Tc),(0:Int),(0:Int),(0:Int),(0:Int),(0:Int),(0:Int)⟩:Ta))<|.lp (zu9 v1 (List.replicate (v1.length:Int).toNat (⟨[],false,(⟨(0:Int),(0:Int),(0:Int),(⟨(0:Int),(0:Int),(0:Int),[],[],(0:Int)⟩:Tg)⟩:Tc),(0:Int),(0:Int),(0:Int),(0:Int),(0:Int),(0:Int)⟩:Ta))) fun(v170:List Ta)=>.segA Ta.o v170<|.lfA ydn v170:Tree (List Ta) _) (by kernel_rfl) (by kernel_rfl) (lA<|gU<|⟨zef _ _ _,sA<|lP ybo fun v170=>sA<|rfl⟩) hr,rfl,ymp r⟩
def ybw (v1:Th):Option Th:=(ydu v1.fj).bind fun v2=>((yd7 v1.fh).bind fun v4=>((ydh v1.fe).bind fun v6=>(some ({ v1 with fj:=v2,fh:=v4,fe:=v6 }:Th))))
def ye5 (v1:Th):Ctr:=⟨6,[v1.i],[],Th,ybw v1,(rv Th.o)⟩
theorem ykr (r:Th):((rv Th.o) r).1.fresh=true:=by simp only [rv,Th.o,V.fresh,V.freshL,za2 (f:=Tf.i) (fun _=>rfl),za2 (f:=Tb.o) Tb.o_f,za2 (f:=Ta.o) Ta.o_f,Bool.and_self,Bool.true_and]
theorem yh1 {v1:Th}:(ye5 v1).okF tab:=fun r hr=>⟨za7 yn0 rfl (.callF (yic v1.fj) fun(v2:Tj)=>.segA Tf.i v2.fp<|.callF (yhj v1.fh) fun(v4:Ti)=>.segA Tb.o v4.fi<|.callF (yil v1.fe) fun(v6:List Ta)=>.segA Ta.o v6<|.segA Tf.i v2.fp<|.segA Tb.o v4.fi<|.segA Ta.o v6<|.segA Tf.i v2.fp<|.segA Tb.o v4.fi<|.segA Ta.o v6<|.lfA (rv Th.o) ({ v1 with fj:=v2,fh:=v4,fe:=v6 }:Th):Tree Th _) (by kernel_rfl) (by kernel_rfl) (cF yk5 fun v2=>sA<|cF yj5 fun v4=>sA<|cF ynq fun v6=>sA<|sA<|sA<|sA<|sA<|sA<|sA<|rfl) hr,rfl,ykr r⟩
def yen (v1:Int):Option ByteArray:=if -9223372036854775808<v1/\v1<=9223372036854775807 then some ⟨(Lib.itoa v1).toArray⟩ else none
def yi2 (v1:Int):Ctr:=⟨36,[.I v1],[],ByteArray,yen v1,fun r=>(.str r,[])⟩
theorem ynz {v1:Int}:(yi2 v1).okF tab:=yan
def yeh:ByteArray->V×List (List V):=fun r=>(.str r,[])
def zrs (v1:Int):Option ByteArray:=bif decide (v1=(-9223372036854775808)) then(some (⟨#[45,57,50,50,51,51,55,50,48,51,54,56,53,52,55,55,53,56,48,56]⟩:ByteArray)) else((yen v1).bind fun v3=>(some v3))
def zwe (v1:Int):Ctr:=⟨25,[.I v1],[],ByteArray,zrs v1,yeh⟩
theorem zxc {v1:Int}:(zwe v1).okF tab:=fun r hr=>⟨za7 yk6 rfl (.br (decide (v1=(-9223372036854775808))) (.lfA yeh (⟨#[45,57,50,50,51,51,55,50,48,51,54,56,53,52,55,55,53,56,48,56]⟩:ByteArray))<|.callF (yi2 v1) fun(v3:ByteArray)=>.lfA yeh v3:Tree ByteArray _) (by kernel_rfl) (by kernel_rfl) (bR (rfl)<|cF ynz fun v3=>rfl) hr,rfl,rfl⟩
def zpr (v1:Th) (k:Int) (s:List ByteArray):St:=⟨sv 9 [(1,.ref (.box 0) 0 []),(3,.own 1 (s.map V.str)),(4,.I k)],[[.I v1.fak,.I v1.fj.fw,.I v1.fj.fu,.imm 7 (v1.fj.fp.map Tf.i),.I v1.fh.ft,.imm 13 (v1.fh.fi.map Tb.i),.imm 17 (v1.fe.map Ta.i),.I v1.fae,.I v1.fah,.I v1.faf,.I v1.fai]]⟩
def zlf (v1:Th):(List ByteArray)->Ex×St:=fun p=>((.exit 0),⟨sv 9 [(1,.ref (.box 0) 0 []),(3,.own 1 (p.map V.str)),(4,.I (v1.fe.length:Int)),(6,.bool false)],[[.I v1.fak,.I v1.fj.fw,.I v1.fj.fu,.imm 7 (v1.fj.fp.map Tf.i),.I v1.fh.ft,.imm 13 (v1.fh.fi.map Tb.i),.imm 17 (v1.fe.map Ta.i),.I v1.fae,.I v1.fah,.I v1.faf,.I v1.fai]]⟩)
def zky (v1:Th) (k:Int):=zf6 (zpr v1 k) (zlf v1)
def zkp (v1:Th) (k:Int) (x:Ta) (s:List ByteArray):Option ((List ByteArray)⊕((List ByteArray))):=bif x.faa then((zrs k).bind fun v42=>(if (⟨#[112,111,114,116,32]⟩:ByteArray).size+v42.size<=9223372036854775807 then(if ((⟨#[112,111,114,116,32]⟩:ByteArray)++v42).size+(⟨#[32,98,117,115,121,32]⟩:ByteArray).size<=9223372036854775807 then(if (((⟨#[112,111,114,116,32]⟩:ByteArray)++v42)++(⟨#[32,98,117,115,121,32]⟩:ByteArray)).size+(⟨#[49]⟩:ByteArray).size<=9223372036854775807 then(if ((((⟨#[112,111,114,116,32]⟩:ByteArray)++v42)++(⟨#[32,98,117,115,121,32]⟩:ByteArray))++(⟨#[49]⟩:ByteArray)).size+(⟨#[32,119,97,105,116,105,110,103,32]⟩:ByteArray).size<=9223372036854775807 then((zrs (x.ff.length:Int)).bind fun v44=>(if (((((⟨#[112,111,114,116,32]⟩:ByteArray)++v42)++(⟨#[32,98,117,115,121,32]⟩:ByteArray))++(⟨#[49]⟩:ByteArray))++(⟨#[32,119,97,105,116,105,110,103,32]⟩:ByteArray)).size+v44.size<=9223372036854775807 then(if ((s.map V.str).length+(([((((((⟨#[112,111,114,116,32]⟩:ByteArray)++v42)++(⟨#[32,98,117,115,121,32]⟩:ByteArray))++(⟨#[49]⟩:ByteArray))++(⟨#[32,119,97,105,116,105,110,103,32]⟩:ByteArray))++v44)]:List ByteArray).map V.str).length) * 16<=70368744177664 then(some (.inl (s++([((((((⟨#[112,111,114,116,32]⟩:ByteArray)++v42)++(⟨#[32,98,117,115,121,32]⟩:ByteArray))++(⟨#[49]⟩:ByteArray))++(⟨#[32,119,97,105,116,105,110,103,32]⟩:ByteArray))++v44)]:List ByteArray)))) else none) else none)) else none) else none) else none) else none)) else(bif decide (0<(x.ff.length:Int)) then((zrs k).bind fun v47=>(if (⟨#[112,111,114,116,32]⟩:ByteArray).size+v47.size<=9223372036854775807 then(if ((⟨#[112,111,114,116,32]⟩:ByteArray)++v47).size+(⟨#[32,98,117,115,121,32]⟩:ByteArray).size<=9223372036854775807 then(if (((⟨#[112,111,114,116,32]⟩:ByteArray)++v47)++(⟨#[32,98,117,115,121,32]⟩:ByteArray)).size+(⟨#[48]⟩:ByteArray).size<=9223372036854775807 then(if ((((⟨#[112,111,114,116,32]⟩:ByteArray)++v47)++(⟨#[32,98,117,115,121,32]⟩:ByteArray))++(⟨#[48]⟩:ByteArray)).size+(⟨#[32,119,97,105,116,105,110,103,32]⟩:ByteArray).size<=9223372036854775807 then((zrs (x.ff.length:Int)).bind fun v49=>(if (((((⟨#[112,111,114,116,32]⟩:ByteArray)++v47)++(⟨#[32,98,117,115,121,32]⟩:ByteArray))++(⟨#[48]⟩:ByteArray))++(⟨#[32,119,97,105,116,105,110,103,32]⟩:ByteArray)).size+v49.size<=9223372036854775807 then(if ((s.map V.str).length+(([((((((⟨#[112,111,114,116,32]⟩:ByteArray)++v47)++(⟨#[32,98,117,115,121,32]⟩:ByteArray))++(⟨#[48]⟩:ByteArray))++(⟨#[32,119,97,105,116,105,110,103,32]⟩:ByteArray))++v49)]:List ByteArray).map V.str).length) * 16<=70368744177664 then(some (.inl (s++([((((((⟨#[112,111,114,116,32]⟩:ByteArray)++v47)++(⟨#[32,98,117,115,121,32]⟩:ByteArray))++(⟨#[48]⟩:ByteArray))++(⟨#[32,119,97,105,116,105,110,103,32]⟩:ByteArray))++v49)]:List ByteArray)))) else none) else none)) else none) else none) else none) else none)) else(some (.inl s)))
def zpo (v1:Th) (s:List ByteArray):Option ((List ByteArray)):=some (s)
def zkm (v1:Th) (s:List ByteArray):Option ((List ByteArray)):=if v1.fe.length<=9223372036854775806 then zb4 (zkp v1) (zpo v1) v1.fe 0 s else none
def zrv (v1:Th) (s:List ByteArray):Lct:=⟨9,zyv,1,[0,2,5,6,7,8],some (zpr v1 0 s),List ByteArray,zkm v1 s,zlf v1⟩
theorem zzg {v1:Th} {s:List ByteArray}:(zrv v1 s).ok tab:=zeq (zax (J:=zpr v1) (o:=(zlf v1)) v1.fe (B:=fun(k:Int) (x:Ta) (s:List ByteArray)=>(.lenA Ta.i v1.fe<|.kb (decide (k<(v1.fe.length:Int))) true<|.ob (0<=k)<|.lkX Ta.i v1.fe (k.toNat) x<|.br x.faa (.ob (0<=k)<|.lkX Ta.i v1.fe (k.toNat) x<|.kb x.faa true<|.callF (zwe k) fun(v42:ByteArray)=>.guard ((⟨#[112,111,114,116,32]⟩:ByteArray).size+v42.size<=9223372036854775807) inferInstance<|.guard (((⟨#[112,111,114,116,32]⟩:ByteArray)++v42).size+(⟨#[32,98,117,115,121,32]⟩:ByteArray).size<=9223372036854775807) inferInstance<|.guard ((((⟨#[112,111,114,116,32]⟩:ByteArray)++v42)++(⟨#[32,98,117,115,121,32]⟩:ByteArray)).size+(⟨#[49]⟩:ByteArray).size<=9223372036854775807) inferInstance<|.guard (((((⟨#[112,111,114,116,32]⟩:ByteArray)++v42)++(⟨#[32,98,117,115,121,32]⟩:ByteArray))++(⟨#[49]⟩:ByteArray)).size+(⟨#[32,119,97,105,116,105,110,103,32]⟩:ByteArray).size<=9223372036854775807) inferInstance<|.ob (0<=k)<|.lkX Ta.i v1.fe (k.toNat) x<|.lenA Tc.i x.ff<|.callF (zwe (x.ff.length:Int)) fun(v44:ByteArray)=>.guard ((((((⟨#[112,111,114,116,32]⟩:ByteArray)++v42)++(⟨#[32,98,117,115,121,32]⟩:ByteArray))++(⟨#[49]⟩:ByteArray))++(⟨#[32,119,97,105,116,105,110,103,32]⟩:ByteArray)).size+v44.size<=9223372036854775807) inferInstance<|.sk<|.eqL [.str ((((((⟨#[112,111,114,116,32]⟩:ByteArray)++v42)++(⟨#[32,98,117,115,121,32]⟩:ByteArray))++(⟨#[49]⟩:ByteArray))++(⟨#[32,119,97,105,116,105,110,103,32]⟩:ByteArray))++v44)] (([((((((⟨#[112,111,114,116,32]⟩:ByteArray)++v42)++(⟨#[32,98,117,115,121,32]⟩:ByteArray))++(⟨#[49]⟩:ByteArray))++(⟨#[32,119,97,105,116,105,110,103,32]⟩:ByteArray))++v44)]:List ByteArray).map V.str)<|.segA V.str s<|.segA V.str ([((((((⟨#[112,111,114,116,32]⟩:ByteArray)++v42)++(⟨#[32,98,117,115,121,32]⟩:ByteArray))++(⟨#[49]⟩:ByteArray))++(⟨#[32,119,97,105,116,105,110,103,32]⟩:ByteArray))++v44)]:List ByteArray)<|.guard (((s.map V.str).length+(([((((((⟨#[112,111,114,116,32]⟩:ByteArray)++v42)++(⟨#[32,98,117,115,121,32]⟩:ByteArray))++(⟨#[49]⟩:ByteArray))++(⟨#[32,119,97,105,116,105,110,103,32]⟩:ByteArray))++v44)]:List ByteArray).map V.str).length) * 16<=70368744177664) inferInstance<|.appA V.str s ([((((((⟨#[112,111,114,116,32]⟩:ByteArray)++v42)++(⟨#[32,98,117,115,121,32]⟩:ByteArray))++(⟨#[49]⟩:ByteArray))++(⟨#[32,119,97,105,116,105,110,103,32]⟩:ByteArray))++v44)]:List ByteArray)<|.segA V.str (s++([((((((⟨#[112,111,114,116,32]⟩:ByteArray)++v42)++(⟨#[32,98,117,115,121,32]⟩:ByteArray))++(⟨#[49]⟩:ByteArray))++(⟨#[32,119,97,105,116,105,110,103,32]⟩:ByteArray))++v44)]:List ByteArray))<|.lfA (zky v1 (i64.wrap (k+1))) (.inl (s++([((((((⟨#[112,111,114,116,32]⟩:ByteArray)++v42)++(⟨#[32,98,117,115,121,32]⟩:ByteArray))++(⟨#[49]⟩:ByteArray))++(⟨#[32,119,97,105,116,105,110,103,32]⟩:ByteArray))++v44)]:List ByteArray))))<|.ob (0<=k)<|.lkX Ta.i v1.fe (k.toNat) x<|.kb x.faa false<|.ob (0<=k)<|.lkX Ta.i v1.fe (k.toNat) x<|.lenA Tc.i x.ff<|.br (decide (0<(x.ff.length:Int))) (.callF (zwe k) fun(v47:ByteArray)=>.guard ((⟨#[112,111,114,116,32]⟩:ByteArray).size+v47.size<=9223372036854775807) inferInstance<|.guard (((⟨#[112,111,114,116,32]⟩:ByteArray)++v47).size+(⟨#[32,98,117,115,121,32]⟩:ByteArray).size<=9223372036854775807) inferInstance<|.guard ((((⟨#[112,111,114,116,32]⟩:ByteArray)++v47)++(⟨#[32,98,117,115,121,32]⟩:ByteArray)).size+(⟨#[48]⟩:ByteArray).size<=9223372036854775807) inferInstance<|.guard (((((⟨#[112,111,114,116,32]⟩:ByteArray)++v47)++(⟨#[32,98,117,115,121,32]⟩:ByteArray))++(⟨#[48]⟩:ByteArray)).size+(⟨#[32,119,97,105,116,105,110,103,32]⟩:ByteArray).size<=9223372036854775807) inferInstance<|.ob (0<=k)<|.lkX Ta.i v1.fe (k.toNat) x<|.lenA Tc.i x.ff<|.callF (zwe (x.ff.length:Int)) fun(v49:ByteArray)=>.guard ((((((⟨#[112,111,114,116,32]⟩:ByteArray)++v47)++(⟨#[32,98,117,115,121,32]⟩:ByteArray))++(⟨#[48]⟩:ByteArray))++(⟨#[32,119,97,105,116,105,110,103,32]⟩:ByteArray)).size+v49.size<=9223372036854775807) inferInstance<|.sk<|.eqL [.str ((((((⟨#[112,111,114,116,32]⟩:ByteArray)++v47)++(⟨#[32,98,117,115,121,32]⟩:ByteArray))++(⟨#[48]⟩:ByteArray))++(⟨#[32,119,97,105,116,105,110,103,32]⟩:ByteArray))++v49)] (([((((((⟨#[112,111,114,116,32]⟩:ByteArray)++v47)++(⟨#[32,98,117,115,121,32]⟩:ByteArray))++(⟨#[48]⟩:ByteArray))++(⟨#[32,119,97,105,116,105,110,103,32]⟩:ByteArray))++v49)]:List ByteArray).map V.str)<|.segA V.str s<|.segA V.str ([((((((⟨#[112,111,114,116,32]⟩:ByteArray)++v47)++(⟨#[32,98,117,115,121,32]⟩:ByteArray))++(⟨#[48]⟩:ByteArray))++(⟨#[32,119,97,105,116,105,110,103,32]⟩:ByteArray))++v49)]:List ByteArray)<|.guard (((s.map V.str).length+(([((((((⟨#[112,111,114,116,32]⟩:ByteArray)++v47)++(⟨#[32,98,117,115,121,32]⟩:ByteArray))++(⟨#[48]⟩:ByteArray))++(⟨#[32,119,97,105,116,105,110,103,32]⟩:ByteArray))++v49)]:List ByteArray).map V.str).length) * 16<=70368744177664) inferInstance<|.appA V.str s ([((((((⟨#[112,111,114,116,32]⟩:ByteArray)++v47)++(⟨#[32,98,117,115,121,32]⟩:ByteArray))++(⟨#[48]⟩:ByteArray))++(⟨#[32,119,97,105,116,105,110,103,32]⟩:ByteArray))++v49)]:List ByteArray)<|.segA V.str (s++([((((((⟨#[112,111,114,116,32]⟩:ByteArray)++v47)++(⟨#[32,98,117,115,121,32]⟩:ByteArray))++(⟨#[48]⟩:ByteArray))++(⟨#[32,119,97,105,116,105,110,103,32]⟩:ByteArray))++v49)]:List ByteArray))<|.lfA (zky v1 (i64.wrap (k+1))) (.inl (s++([((((((⟨#[112,111,114,116,32]⟩:ByteArray)++v47)++(⟨#[32,98,117,115,121,32]⟩:ByteArray))++(⟨#[48]⟩:ByteArray))++(⟨#[32,119,97,105,116,105,110,103,32]⟩:ByteArray))++v49)]:List ByteArray))))<|.lfA (zky v1 (i64.wrap (k+1))) (.inl s):Tree ((List ByteArray)⊕((List ByteArray))) _)) (E:=fun(s:List ByteArray)=>(.lenA Ta.i v1.fe<|.kb (decide ((v1.fe.length:Int)<(v1.fe.length:Int))) false<|.lfA (zky v1 0) (.inr s):Tree ((List ByteArray)⊕((List ByteArray))) _)) (fun k x s=>by kernel_rfl) (fun d x t s he=>lA<|⟨ltX he,⟨Int.natCast_nonneg _,⟨zap Ta.i he,⟨fun h41=>⟨Int.natCast_nonneg _,⟨zap Ta.i he,⟨h41,cF zxc fun v42=>gU<|gU<|gU<|gU<|⟨Int.natCast_nonneg _,⟨zap Ta.i he,lA<|cF zxc fun v44=>gU<|⟨rfl,sA<|sA<|gU<|aA<|sA<|rfl⟩⟩⟩⟩⟩⟩,fun h41=>⟨Int.natCast_nonneg _,⟨zap Ta.i he,⟨h41,⟨Int.natCast_nonneg _,⟨zap Ta.i he,lA<|bR (cF zxc fun v47=>gU<|gU<|gU<|gU<|⟨Int.natCast_nonneg _,⟨zap Ta.i he,lA<|cF zxc fun v49=>gU<|⟨rfl,sA<|sA<|gU<|aA<|sA<|rfl⟩⟩⟩)<|rfl⟩⟩⟩⟩⟩⟩⟩⟩⟩) (fun _=>rfl) (fun s=>by kernel_rfl) (fun s=>lA<|⟨ltE _,rfl⟩) (by kernel_rfl) (by kernel_rfl) s)
def ydq:List ByteArray->V×List (List V):=fun r=>(.own 1 (r.map V.str),[])
def yfd (v1:Th):Option (List ByteArray):=(zrs v1.fae).bind fun v2=>(if (⟨#[97,115,107,101,100,32]⟩:ByteArray).size+v2.size<=9223372036854775807 then((zrs v1.fah).bind fun v4=>(if (⟨#[114,101,112,108,105,101,100,32]⟩:ByteArray).size+v4.size<=9223372036854775807 then((zrs v1.faf).bind fun v6=>(if (⟨#[102,97,117,108,116,115,32]⟩:ByteArray).size+v6.size<=9223372036854775807 then((zrs v1.fai).bind fun v8=>(if (⟨#[115,101,110,116,32]⟩:ByteArray).size+v8.size<=9223372036854775807 then((zrs (v1.fh.fi.length:Int)).bind fun v10=>(if (⟨#[111,112,101,110,32]⟩:ByteArray).size+v10.size<=9223372036854775807 then((zkm v1 ([((⟨#[97,115,107,101,100,32]⟩:ByteArray)++v2),((⟨#[114,101,112,108,105,101,100,32]⟩:ByteArray)++v4),((⟨#[102,97,117,108,116,115,32]⟩:ByteArray)++v6),((⟨#[115,101,110,116,32]⟩:ByteArray)++v8),((⟨#[111,112,101,110,32]⟩:ByteArray)++v10)]:List ByteArray)).bind fun v51=>(some v51)) else none)) else none)) else none)) else none)) else none)
def yhb (v1:Th):Ctr:=⟨12,[v1.i],[],List ByteArray,yfd v1,ydq⟩
theorem yj8 (r:List ByteArray):(ydq r).1.fresh=true:=by simp only [ydq,V.fresh,V.freshL,za2 (f:=V.str) (fun _=>rfl),Bool.and_self,Bool.true_and]
theorem yjz {v1:Th}:(yhb v1).okF tab:=fun r hr=>⟨za7 ylg rfl (.callF (zwe v1.fae) fun(v2:ByteArray)=>.guard ((⟨#[97,115,107,101,100,32]⟩:ByteArray).size+v2.size<=9223372036854775807) inferInstance<|.callF (zwe v1.fah) fun(v4:ByteArray)=>.guard ((⟨#[114,101,112,108,105,101,100,32]⟩:ByteArray).size+v4.size<=9223372036854775807) inferInstance<|.callF (zwe v1.faf) fun(v6:ByteArray)=>.guard ((⟨#[102,97,117,108,116,115,32]⟩:ByteArray).size+v6.size<=9223372036854775807) inferInstance<|.callF (zwe v1.fai) fun(v8:ByteArray)=>.guard ((⟨#[115,101,110,116,32]⟩:ByteArray).size+v8.size<=9223372036854775807) inferInstance<|.lenA Tb.i v1.fh.fi<|.callF (zwe (v1.fh.fi.length:Int)) fun(v10:ByteArray)=>.guard ((⟨#[111,112,101,110,32]⟩:ByteArray).size+v10.size<=9223372036854775807) inferInstance<|.sk<|.eqL [.str ((⟨#[97,115,107,101,100,32]⟩:ByteArray)++v2),.str ((⟨#[114,101,112,108,105,101,100,32]⟩:ByteArray)++v4),.str ((⟨#[102,97,117,108,116,115,32]⟩:ByteArray)++v6),.str ((⟨#[115,101,110,116,32]⟩:ByteArray)++v8),.str ((⟨#[111,112,101,110,32]⟩:ByteArray)++v10)] (([((⟨#[97,115,107,101,100,32]⟩:ByteArray)++v2),((⟨#[114,101,112,108,105,101,100,32]⟩:ByteArray)++v4),((⟨#[102,97,117,108,116,115,32]⟩:ByteArray)++v6),((⟨#[115,101,110,116,32]⟩:ByteArray)++v8),((⟨#[111,112,101,110,32]⟩:ByteArray)++v10)]:List ByteArray).map V.str)<|.segA V.str ([((⟨#[97,115,107,101,100,32]⟩:ByteArray)++v2),((⟨#[114,101,112,108,105,101,100,32]⟩:ByteArray)++v4),((⟨#[102,97,117,108,116,115,32]⟩:ByteArray)++v6),((⟨#[115,101,110,116,32]⟩:ByteArray)++v8),((⟨#[111,112,101,110,32]⟩:ByteArray)++v10)]:List ByteArray)<|.lp (zrv v1 ([((⟨#[97,115,107,101,100,32]⟩:ByteArray)++v2),((⟨#[114,101,112,108,105,101,100,32]⟩:ByteArray)++v4),((⟨#[102,97,117,108,116,115,32]⟩:ByteArray)++v6),((⟨#[115,101,110,116,32]⟩:ByteArray)++v8),((⟨#[111,112,101,110,32]⟩:ByteArray)++v10)]:List ByteArray)) fun(v51:List ByteArray)=>.segA V.str v51<|.lfA ydq v51:Tree (List ByteArray) _) (by kernel_rfl) (by kernel_rfl) (cF zxc fun v2=>gU<|cF zxc fun v4=>gU<|cF zxc fun v6=>gU<|cF zxc fun v8=>gU<|lA<|cF zxc fun v10=>gU<|⟨rfl,sA<|lP zzg fun v51=>sA<|rfl⟩) hr,rfl,yj8 r⟩
def zpl (v1:Th) (v2:List ByteArray) (k:Int) (s:ByteArray):St:=⟨sv 7 [(3,.str s),(4,.own 1 (v2.map V.str)),(5,.I k)],[[.I v1.fak,.I v1.fj.fw,.I v1.fj.fu,.imm 7 (v1.fj.fp.map Tf.i),.I v1.fh.ft,.imm 13 (v1.fh.fi.map Tb.i),.imm 17 (v1.fe.map Ta.i),.I v1.fae,.I v1.fah,.I v1.faf,.I v1.fai]]⟩
def zk1 (v1:Th) (v2:List ByteArray):ByteArray->Ex×St:=fun p=>((.exit 0),⟨sv 7 [(3,.str p),(4,.own 1 (v2.map V.str)),(5,.I (v2.length:Int)),(6,.bool false)],[[.I v1.fak,.I v1.fj.fw,.I v1.fj.fu,.imm 7 (v1.fj.fp.map Tf.i),.I v1.fh.ft,.imm 13 (v1.fh.fi.map Tb.i),.imm 17 (v1.fe.map Ta.i),.I v1.fae,.I v1.fah,.I v1.faf,.I v1.fai]]⟩)
def zt4 (v1:Th) (v2:List ByteArray) (k:Int):=zf6 (zpl v1 v2 k) (zk1 v1 v2)
def zk8 (v1:Th) (v2:List ByteArray) (k:Int) (x:ByteArray) (s:ByteArray):Option ((ByteArray)⊕(ByteArray)):=if 0<=k/\(k:Int)<(((v2.map V.str).length - 0:Nat):Int) then(if s.size+x.size<=9223372036854775807 then(if (s++x).size+(⟨#[10]⟩:ByteArray).size<=9223372036854775807 then(some (.inl ((s++x)++(⟨#[10]⟩:ByteArray)))) else none) else none) else none
def zoz (v1:Th) (v2:List ByteArray) (s:ByteArray):Option ByteArray:=some (s)
def zm2 (v1:Th) (v2:List ByteArray) (s:ByteArray):Option ByteArray:=if v2.length<=9223372036854775806 then zb4 (zk8 v1 v2) (zoz v1 v2) v2 0 s else none
def ztz (v1:Th) (v2:List ByteArray) (s:ByteArray):Lct:=⟨7,zyk,1,[0,1,2,6],some (zpl v1 v2 0 s),ByteArray,zm2 v1 v2 s,zk1 v1 v2⟩
theorem ybe {v1:Th} {v2:List ByteArray} {s:ByteArray}:(ztz v1 v2 s).ok tab:=zeq (zax (J:=zpl v1 v2) (o:=(zk1 v1 v2)) v2 (B:=fun(k:Int) (x:ByteArray) (s:ByteArray)=>(.lenB V.str v2<|.kb (decide (k<(v2.length:Int))) true<|.guard (0<=k/\(k:Int)<(((v2.map V.str).length - 0:Nat):Int)) inferInstance<|.lkY V.str v2 (k.toNat) x<|.guard (s.size+x.size<=9223372036854775807) inferInstance<|.guard ((s++x).size+(⟨#[10]⟩:ByteArray).size<=9223372036854775807) inferInstance<|.lfA (zt4 v1 v2 (i64.wrap (k+1))) (.inl ((s++x)++(⟨#[10]⟩:ByteArray))):Tree ((ByteArray)⊕(ByteArray)) _)) (E:=fun(s:ByteArray)=>(.lenB V.str v2<|.kb (decide ((v2.length:Int)<(v2.length:Int))) false<|.lfA (zt4 v1 v2 0) (.inr s):Tree ((ByteArray)⊕(ByteArray)) _)) (fun k x s=>by kernel_rfl) (fun d x t s he=>lB<|⟨ltX he,gU<|⟨zy6 V.str he,gU<|gU<|rfl⟩⟩) (fun _=>rfl) (fun s=>by kernel_rfl) (fun s=>lB<|⟨ltE _,rfl⟩) (by kernel_rfl) (by kernel_rfl) s)
def yia:ByteArray->V×List (List V):=fun r=>(.str r,[])
def ydo (v1:Th):Option ByteArray:=(yfd v1).bind fun v2=>((zm2 v1 v2 ByteArray.empty).bind fun v13=>(some v13))
def yi7 (v1:Th):Ctr:=⟨5,[v1.i],[],ByteArray,ydo v1,yia⟩
theorem yka {v1:Th}:(yi7 v1).okF tab:=fun r hr=>⟨za7 yjk rfl (.callF (yhb v1) fun(v2:List ByteArray)=>.segA V.str v2<|.lp (ztz v1 v2 ByteArray.empty) fun(v13:ByteArray)=>.lfA yia v13:Tree ByteArray _) (by kernel_rfl) (by kernel_rfl) (cF yjz fun v2=>sA<|lP ybe fun v13=>rfl) hr,rfl,rfl⟩
def zyw (v1:Int):Option ByteArray:=if -9223372036854775808<=v1/\v1<=9223372036854775807 then some ⟨(Lib.itoa v1).toArray⟩ else none
def ybr (v1:Int):Ctr:=⟨17,[.I v1],[],ByteArray,zyw v1,fun r=>(.str r,[])⟩
theorem ycg {v1:Int}:(ybr v1).okF tab:=zxf
def yim:ByteArray->V×List (List V):=fun r=>(.str r,[])
def zyf (v1:ByteArray) (v2:Int):Option ByteArray:=if v1.size+(⟨#[32]⟩:ByteArray).size<=9223372036854775807 then((zyw v2).bind fun v3=>(if (v1++(⟨#[32]⟩:ByteArray)).size+v3.size<=9223372036854775807 then(if ((v1++(⟨#[32]⟩:ByteArray))++v3).size+(⟨#[10]⟩:ByteArray).size<=9223372036854775807 then(some (((v1++(⟨#[32]⟩:ByteArray))++v3)++(⟨#[10]⟩:ByteArray))) else none) else none)) else none
def ybz (v1:ByteArray) (v2:Int):Ctr:=⟨16,[.str v1,.I v2],[],ByteArray,zyf v1 v2,yim⟩
theorem yca {v1:ByteArray} {v2:Int}:(ybz v1 v2).okF tab:=fun r hr=>⟨za7 ymb rfl (.guard (v1.size+(⟨#[32]⟩:ByteArray).size<=9223372036854775807) inferInstance<|.callF (ybr v2) fun(v3:ByteArray)=>.guard ((v1++(⟨#[32]⟩:ByteArray)).size+v3.size<=9223372036854775807) inferInstance<|.guard (((v1++(⟨#[32]⟩:ByteArray))++v3).size+(⟨#[10]⟩:ByteArray).size<=9223372036854775807) inferInstance<|.lfA yim (((v1++(⟨#[32]⟩:ByteArray))++v3)++(⟨#[10]⟩:ByteArray)):Tree ByteArray _) (by kernel_rfl) (by kernel_rfl) (gU<|cF ycg fun v3=>gU<|gU<|rfl) hr,rfl,rfl⟩
def yek:ByteArray->V×List (List V):=fun r=>(.str r,[])
def ydr (v1:Bool):Option ByteArray:=bif v1 then(some (⟨#[49]⟩:ByteArray)) else(some (⟨#[48]⟩:ByteArray))
def yeu (v1:Bool):Ctr:=⟨18,[.bool v1],[],ByteArray,ydr v1,yek⟩
theorem yi0 {v1:Bool}:(yeu v1).okF tab:=fun r hr=>⟨za7 yn1 rfl (.br v1 (.lfA yek (⟨#[49]⟩:ByteArray))<|.lfA yek (⟨#[48]⟩:ByteArray):Tree ByteArray _) (by kernel_rfl) (by kernel_rfl) (bR (rfl)<|rfl) hr,rfl,rfl⟩
def zns (v1:Th) (k:Int) (s:ByteArray):St:=⟨sv 12 [(4,.str s),(7,.imm 17 (v1.fe.map Ta.i)),(8,.I (v1.fe.length:Int)),(9,.I k)],[[.I v1.fak,.I v1.fj.fw,.I v1.fj.fu,.imm 7 (v1.fj.fp.map Tf.i),.I v1.fh.ft,.imm 13 (v1.fh.fi.map Tb.i),.imm 17 (v1.fe.map Ta.i),.I v1.fae,.I v1.fah,.I v1.faf,.I v1.fai]]⟩
def zkz (v1:Th):ByteArray->Ex×St:=fun p=>((.exit 0),⟨sv 12 [(4,.str p),(7,.imm 17 (v1.fe.map Ta.i)),(8,.I (v1.fe.length:Int)),(9,.I (v1.fe.length:Int)),(10,.bool false)],[[.I v1.fak,.I v1.fj.fw,.I v1.fj.fu,.imm 7 (v1.fj.fp.map Tf.i),.I v1.fh.ft,.imm 13 (v1.fh.fi.map Tb.i),.imm 17 (v1.fe.map Ta.i),.I v1.fae,.I v1.fah,.I v1.faf,.I v1.fai]]⟩)
def zlw (v1:Th) (k:Int):=zf6 (zns v1 k) (zkz v1)
def zl7 (v1:Th) (k:Int) (x:Ta) (s:ByteArray):Option ((ByteArray)⊕(ByteArray)):=bif x.faa then((zyw k).bind fun v50=>(if (⟨#[112,111,114,116,32]⟩:ByteArray).size+v50.size<=9223372036854775807 then(if ((⟨#[112,111,114,116,32]⟩:ByteArray)++v50).size+(⟨#[32,98,117,115,121,32]⟩:ByteArray).size<=9223372036854775807 then((ydr x.faa).bind fun v52=>(if (((⟨#[112,111,114,116,32]⟩:ByteArray)++v50)++(⟨#[32,98,117,115,121,32]⟩:ByteArray)).size+v52.size<=9223372036854775807 then(if ((((⟨#[112,111,114,116,32]⟩:ByteArray)++v50)++(⟨#[32,98,117,115,121,32]⟩:ByteArray))++v52).size+(⟨#[32,119,97,105,116,105,110,103,32]⟩:ByteArray).size<=9223372036854775807 then((zyw (x.ff.length:Int)).bind fun v54=>(if (((((⟨#[112,111,114,116,32]⟩:ByteArray)++v50)++(⟨#[32,98,117,115,121,32]⟩:ByteArray))++v52)++(⟨#[32,119,97,105,116,105,110,103,32]⟩:ByteArray)).size+v54.size<=9223372036854775807 then(if ((((((⟨#[112,111,114,116,32]⟩:ByteArray)++v50)++(⟨#[32,98,117,115,121,32]⟩:ByteArray))++v52)++(⟨#[32,119,97,105,116,105,110,103,32]⟩:ByteArray))++v54).size+(⟨#[10]⟩:ByteArray).size<=9223372036854775807 then(if s.size+(((((((⟨#[112,111,114,116,32]⟩:ByteArray)++v50)++(⟨#[32,98,117,115,121,32]⟩:ByteArray))++v52)++(⟨#[32,119,97,105,116,105,110,103,32]⟩:ByteArray))++v54)++(⟨#[10]⟩:ByteArray)).size<=9223372036854775807 then(some (.inl (s++(((((((⟨#[112,111,114,116,32]⟩:ByteArray)++v50)++(⟨#[32,98,117,115,121,32]⟩:ByteArray))++v52)++(⟨#[32,119,97,105,116,105,110,103,32]⟩:ByteArray))++v54)++(⟨#[10]⟩:ByteArray))))) else none) else none) else none)) else none) else none)) else none) else none)) else(bif decide (0<(x.ff.length:Int)) then((zyw k).bind fun v57=>(if (⟨#[112,111,114,116,32]⟩:ByteArray).size+v57.size<=9223372036854775807 then(if ((⟨#[112,111,114,116,32]⟩:ByteArray)++v57).size+(⟨#[32,98,117,115,121,32]⟩:ByteArray).size<=9223372036854775807 then((ydr x.faa).bind fun v59=>(if (((⟨#[112,111,114,116,32]⟩:ByteArray)++v57)++(⟨#[32,98,117,115,121,32]⟩:ByteArray)).size+v59.size<=9223372036854775807 then(if ((((⟨#[112,111,114,116,32]⟩:ByteArray)++v57)++(⟨#[32,98,117,115,121,32]⟩:ByteArray))++v59).size+(⟨#[32,119,97,105,116,105,110,103,32]⟩:ByteArray).size<=9223372036854775807 then((zyw (x.ff.length:Int)).bind fun v61=>(if (((((⟨#[112,111,114,116,32]⟩:ByteArray)++v57)++(⟨#[32,98,117,115,121,32]⟩:ByteArray))++v59)++(⟨#[32,119,97,105,116,105,110,103,32]⟩:ByteArray)).size+v61.size<=9223372036854775807 then(if ((((((⟨#[112,111,114,116,32]⟩:ByteArray)++v57)++(⟨#[32,98,117,115,121,32]⟩:ByteArray))++v59)++(⟨#[32,119,97,105,116,105,110,103,32]⟩:ByteArray))++v61).size+(⟨#[10]⟩:ByteArray).size<=9223372036854775807 then(if s.size+(((((((⟨#[112,111,114,116,32]⟩:ByteArray)++v57)++(⟨#[32,98,117,115,121,32]⟩:ByteArray))++v59)++(⟨#[32,119,97,105,116,105,110,103,32]⟩:ByteArray))++v61)++(⟨#[10]⟩:ByteArray)).size<=9223372036854775807 then(some (.inl (s++(((((((⟨#[112,111,114,116,32]⟩:ByteArray)++v57)++(⟨#[32,98,117,115,121,32]⟩:ByteArray))++v59)++(⟨#[32,119,97,105,116,105,110,103,32]⟩:ByteArray))++v61)++(⟨#[10]⟩:ByteArray))))) else none) else none) else none)) else none) else none)) else none) else none)) else(some (.inl s)))
def zo2 (v1:Th) (s:ByteArray):Option ByteArray:=some (s)
def zkq (v1:Th) (s:ByteArray):Option ByteArray:=if v1.fe.length<=9223372036854775806 then zb4 (zl7 v1) (zo2 v1) v1.fe 0 s else none
def zu0 (v1:Th) (s:ByteArray):Lct:=⟨12,zyp,1,[0,1,2,3,5,6,10,11],some (zns v1 0 s),ByteArray,zkq v1 s,zkz v1⟩
theorem yb4 {v1:Th} {s:ByteArray}:(zu0 v1 s).ok tab:=zeq (zax (J:=zns v1) (o:=(zkz v1)) v1.fe (B:=fun(k:Int) (x:Ta) (s:ByteArray)=>(.kb (decide (k<(v1.fe.length:Int))) true<|.ob (0<=k)<|.lkX Ta.i v1.fe (k.toNat) x<|.br x.faa (.callF (ybr k) fun(v50:ByteArray)=>.guard ((⟨#[112,111,114,116,32]⟩:ByteArray).size+v50.size<=9223372036854775807) inferInstance<|.guard (((⟨#[112,111,114,116,32]⟩:ByteArray)++v50).size+(⟨#[32,98,117,115,121,32]⟩:ByteArray).size<=9223372036854775807) inferInstance<|.callF (yeu x.faa) fun(v52:ByteArray)=>.guard ((((⟨#[112,111,114,116,32]⟩:ByteArray)++v50)++(⟨#[32,98,117,115,121,32]⟩:ByteArray)).size+v52.size<=9223372036854775807) inferInstance<|.guard (((((⟨#[112,111,114,116,32]⟩:ByteArray)++v50)++(⟨#[32,98,117,115,121,32]⟩:ByteArray))++v52).size+(⟨#[32,119,97,105,116,105,110,103,32]⟩:ByteArray).size<=9223372036854775807) inferInstance<|.lenA Tc.i x.ff<|.callF (ybr (x.ff.length:Int)) fun(v54:ByteArray)=>.guard ((((((⟨#[112,111,114,116,32]⟩:ByteArray)++v50)++(⟨#[32,98,117,115,121,32]⟩:ByteArray))++v52)++(⟨#[32,119,97,105,116,105,110,103,32]⟩:ByteArray)).size+v54.size<=9223372036854775807) inferInstance<|.guard (((((((⟨#[112,111,114,116,32]⟩:ByteArray)++v50)++(⟨#[32,98,117,115,121,32]⟩:ByteArray))++v52)++(⟨#[32,119,97,105,116,105,110,103,32]⟩:ByteArray))++v54).size+(⟨#[10]⟩:ByteArray).size<=9223372036854775807) inferInstance<|.guard (s.size+(((((((⟨#[112,111,114,116,32]⟩:ByteArray)++v50)++(⟨#[32,98,117,115,121,32]⟩:ByteArray))++v52)++(⟨#[32,119,97,105,116,105,110,103,32]⟩:ByteArray))++v54)++(⟨#[10]⟩:ByteArray)).size<=9223372036854775807) inferInstance<|.lfA (zlw v1 (i64.wrap (k+1))) (.inl (s++(((((((⟨#[112,111,114,116,32]⟩:ByteArray)++v50)++(⟨#[32,98,117,115,121,32]⟩:ByteArray))++v52)++(⟨#[32,119,97,105,116,105,110,103,32]⟩:ByteArray))++v54)++(⟨#[10]⟩:ByteArray)))))<|.lenA Tc.i x.ff<|.br (decide (0<(x.ff.length:Int))) (.callF (ybr k) fun(v57:ByteArray)=>.guard ((⟨#[112,111,114,116,32]⟩:ByteArray).size+v57.size<=9223372036854775807) inferInstance<|.guard (((⟨#[112,111,114,116,32]⟩:ByteArray)++v57).size+(⟨#[32,98,117,115,121,32]⟩:ByteArray).size<=9223372036854775807) inferInstance<|.callF (yeu x.faa) fun(v59:ByteArray)=>.guard ((((⟨#[112,111,114,116,32]⟩:ByteArray)++v57)++(⟨#[32,98,117,115,121,32]⟩:ByteArray)).size+v59.size<=9223372036854775807) inferInstance<|.guard (((((⟨#[112,111,114,116,32]⟩:ByteArray)++v57)++(⟨#[32,98,117,115,121,32]⟩:ByteArray))++v59).size+(⟨#[32,119,97,105,116,105,110,103,32]⟩:ByteArray).size<=9223372036854775807) inferInstance<|.lenA Tc.i x.ff<|.callF (ybr (x.ff.length:Int)) fun(v61:ByteArray)=>.guard ((((((⟨#[112,111,114,116,32]⟩:ByteArray)++v57)++(⟨#[32,98,117,115,121,32]⟩:ByteArray))++v59)++(⟨#[32,119,97,105,116,105,110,103,32]⟩:ByteArray)).size+v61.size<=9223372036854775807) inferInstance<|.guard (((((((⟨#[112,111,114,116,32]⟩:ByteArray)++v57)++(⟨#[32,98,117,115,121,32]⟩:ByteArray))++v59)++(⟨#[32,119,97,105,116,105,110,103,32]⟩:ByteArray))++v61).size+(⟨#[10]⟩:ByteArray).size<=9223372036854775807) inferInstance<|.guard (s.size+(((((((⟨#[112,111,114,116,32]⟩:ByteArray)++v57)++(⟨#[32,98,117,115,121,32]⟩:ByteArray))++v59)++(⟨#[32,119,97,105,116,105,110,103,32]⟩:ByteArray))++v61)++(⟨#[10]⟩:ByteArray)).size<=9223372036854775807) inferInstance<|.lfA (zlw v1 (i64.wrap (k+1))) (.inl (s++(((((((⟨#[112,111,114,116,32]⟩:ByteArray)++v57)++(⟨#[32,98,117,115,121,32]⟩:ByteArray))++v59)++(⟨#[32,119,97,105,116,105,110,103,32]⟩:ByteArray))++v61)++(⟨#[10]⟩:ByteArray)))))<|.lfA (zlw v1 (i64.wrap (k+1))) (.inl s):Tree ((ByteArray)⊕(ByteArray)) _)) (E:=fun(s:ByteArray)=>(.kb (decide ((v1.fe.length:Int)<(v1.fe.length:Int))) false<|.lfA (zlw v1 0) (.inr s):Tree ((ByteArray)⊕(ByteArray)) _)) (fun k x s=>by kernel_rfl) (fun d x t s he=>⟨ltX he,⟨Int.natCast_nonneg _,⟨zap Ta.i he,bR (cF ycg fun v50=>gU<|gU<|cF yi0 fun v52=>gU<|gU<|lA<|cF ycg fun v54=>gU<|gU<|gU<|rfl)<|lA<|bR (cF ycg fun v57=>gU<|gU<|cF yi0 fun v59=>gU<|gU<|lA<|cF ycg fun v61=>gU<|gU<|gU<|rfl)<|rfl⟩⟩⟩) (fun _=>rfl) (fun s=>by kernel_rfl) (fun s=>⟨ltE _,rfl⟩) (by kernel_rfl) (by kernel_rfl) s)
def yii:ByteArray->V×List (List V):=fun r=>(.str r,[])
def ydp (v1:Th):Option ByteArray:=(zyf (⟨#[97,115,107,101,100]⟩:ByteArray) v1.fae).bind fun v2=>((zyf (⟨#[114,101,112,108,105,101,100]⟩:ByteArray) v1.fah).bind fun v4=>(if v2.size+v4.size<=9223372036854775807 then((zyf (⟨#[102,97,117,108,116,115]⟩:ByteArray) v1.faf).bind fun v6=>(if (v2++v4).size+v6.size<=9223372036854775807 then((zyf (⟨#[115,101,110,116]⟩:ByteArray) v1.fai).bind fun v8=>(if ((v2++v4)++v6).size+v8.size<=9223372036854775807 then((zyf (⟨#[111,112,101,110]⟩:ByteArray) (v1.fh.fi.length:Int)).bind fun v10=>(if (((v2++v4)++v6)++v8).size+v10.size<=9223372036854775807 then((zkq v1 ((((v2++v4)++v6)++v8)++v10)).bind fun v63=>(some v63)) else none)) else none)) else none)) else none))
def yi6 (v1:Th):Ctr:=⟨7,[v1.i],[],ByteArray,ydp v1,yii⟩
theorem yll {v1:Th}:(yi6 v1).okF tab:=fun r hr=>⟨za7 ykx rfl (.callF (ybz (⟨#[97,115,107,101,100]⟩:ByteArray) v1.fae) fun(v2:ByteArray)=>.callF (ybz (⟨#[114,101,112,108,105,101,100]⟩:ByteArray) v1.fah) fun(v4:ByteArray)=>.guard (v2.size+v4.size<=9223372036854775807) inferInstance<|.callF (ybz (⟨#[102,97,117,108,116,115]⟩:ByteArray) v1.faf) fun(v6:ByteArray)=>.guard ((v2++v4).size+v6.size<=9223372036854775807) inferInstance<|.callF (ybz (⟨#[115,101,110,116]⟩:ByteArray) v1.fai) fun(v8:ByteArray)=>.guard (((v2++v4)++v6).size+v8.size<=9223372036854775807) inferInstance<|.lenA Tb.i v1.fh.fi<|.callF (ybz (⟨#[111,112,101,110]⟩:ByteArray) (v1.fh.fi.length:Int)) fun(v10:ByteArray)=>.guard ((((v2++v4)++v6)++v8).size+v10.size<=9223372036854775807) inferInstance<|.lenA Ta.i v1.fe<|.lp (zu0 v1 ((((v2++v4)++v6)++v8)++v10)) fun(v63:ByteArray)=>.lfA yii v63:Tree ByteArray _) (by kernel_rfl) (by kernel_rfl) (cF yca fun v2=>cF yca fun v4=>gU<|cF yca fun v6=>gU<|cF yca fun v8=>gU<|lA<|cF yca fun v10=>gU<|lA<|lP yb4 fun v63=>rfl) hr,rfl,rfl⟩
def yd4 (v1:Tf) (v2:Tf):Option Bool:=bif decide (v1.fg≠v2.fg) then(some false) else(bif decide (v1.fat≠v2.fat) then(some false) else(bif decide (v1.fap≠v2.fap) then(some false) else(bif decide (v1.fan≠v2.fan) then(some false) else(bif decide (v1.fab≠v2.fab) then(some false) else(bif decide (v1.fav≠v2.fav) then(some false) else(bif decide (v1.far≠v2.far) then(some false) else(some true)))))))
def yh7 (v1:Tf) (v2:Tf):Ctr:=⟨42,[v1.i,v2.i],[],Bool,yd4 v1 v2,rB⟩
theorem yjq {v1:Tf} {v2:Tf}:(yh7 v1 v2).okF tab:=fun r hr=>⟨za7 yn2 rfl (.br (decide (v1.fg≠v2.fg)) (.lfA rB false)<|.br (decide (v1.fat≠v2.fat)) (.lfA rB false)<|.br (decide (v1.fap≠v2.fap)) (.lfA rB false)<|.br (decide (v1.fan≠v2.fan)) (.lfA rB false)<|.br (decide (v1.fab≠v2.fab)) (.lfA rB false)<|.br (decide (v1.fav≠v2.fav)) (.lfA rB false)<|.br (decide (v1.far≠v2.far)) (.lfA rB false)<|.lfA rB true:Tree Bool _) (by kernel_rfl) (by kernel_rfl) (bR (rfl)<|bR (rfl)<|bR (rfl)<|bR (rfl)<|bR (rfl)<|bR (rfl)<|bR (rfl)<|rfl) hr,rfl,rfl⟩
def zoj (v1:List Tf) (v2:List Tf) (k:Int) (s:Unit):St:=⟨sv 7 [(0,.imm 7 (v1.map Tf.i)),(1,.imm 7 (v2.map Tf.i)),(3,.I k)],[]⟩
def zkc (v1:List Tf) (v2:List Tf):Int->Ex×St:=fun p=>(.ret,⟨sv 7 [(0,.imm 7 (v1.map Tf.i)),(1,.imm 7 (v2.map Tf.i)),(2,.bool false),(3,.I p),(5,.bool true),(6,.bool true)],[]⟩)
def zm0 (v1:List Tf) (v2:List Tf):Unit->Ex×St:=fun p=>((.exit 0),⟨sv 7 [(0,.imm 7 (v1.map Tf.i)),(1,.imm 7 (v2.map Tf.i)),(3,.I (v1.length:Int)),(5,.bool false)],[]⟩)
def zpe (v1:List Tf) (v2:List Tf) (k:Int):=zf6 (zoj v1 v2 k) (Sum.elim (zkc v1 v2) (zm0 v1 v2))
def zsx (v1:List Tf) (v2:List Tf) (k:Int) (x:Tf) (s:Unit):Option ((Unit)⊕(Int⊕Unit)):=((v2)[k.toNat]?).bind fun v22=>((yd4 x v22).bind fun v24=>(bif !v24 then(some (.inr (.inl k))) else(some (.inl ()))))
def zvi (v1:List Tf) (v2:List Tf) (s:Unit):Option (Int⊕Unit):=some ((.inr ()))
def zp6 (v1:List Tf) (v2:List Tf) (s:Unit):Option (Int⊕Unit):=if v1.length<=9223372036854775806 then zb4 (zsx v1 v2) (zvi v1 v2) v1 0 s else none
def zvq (v1:List Tf) (v2:List Tf) (s:Unit):Lc2:=⟨7,zz2,0,[2,4,5,6],some (zoj v1 v2 0 s),Int,Unit,zp6 v1 v2 s,zkc v1 v2,zm0 v1 v2⟩
theorem ybi {v1:List Tf} {v2:List Tf} {s:Unit}:(zvq v1 v2 s).ok tab:=zdp (zax (J:=zoj v1 v2) (o:=(Sum.elim (zkc v1 v2) (zm0 v1 v2))) v1 (B:=fun(k:Int) (x:Tf) (s:Unit)=>(.lenA Tf.i v1<|.kb (decide (k<(v1.length:Int))) true<|.ob (0<=k)<|.lkX Tf.i v1 (k.toNat) x<|.ob (0<=k)<|.lookA Tf.i v2 (k.toNat) fun v22=>.callF (yh7 x v22) fun v24=>.br (!v24) (.lfA (zpe v1 v2 (i64.wrap (k+1))) (.inr (.inl k)))<|.lfA (zpe v1 v2 (i64.wrap (k+1))) (.inl ()):Tree ((Unit)⊕(Int⊕Unit)) _)) (E:=fun(s:Unit)=>(.lenA Tf.i v1<|.kb (decide ((v1.length:Int)<(v1.length:Int))) false<|.lfA (zpe v1 v2 0) (.inr (.inr ())):Tree ((Unit)⊕(Int⊕Unit)) _)) (fun k x s=>by kernel_rfl) (fun d x t s he=>lA<|⟨ltX he,⟨Int.natCast_nonneg _,⟨zap Tf.i he,⟨Int.natCast_nonneg _,kA fun v22=>cF yjq fun v24=>bR (rfl)<|rfl⟩⟩⟩⟩) (ho2 (fun _=>rfl) fun _=>rfl) (fun s=>by kernel_rfl) (fun s=>lA<|⟨ltE _,rfl⟩) (by kernel_rfl) (by kernel_rfl) s)
def ydk (v1:List Tf) (v2:List Tf):Option Bool:=bif decide ((v1.length:Int)≠(v2.length:Int)) then(some false) else((zp6 v1 v2 ()).bind (zo0 (fun (v27:Int)=>(some false)) (fun (v28:Unit)=>(some true))))
def yhv (v1:List Tf) (v2:List Tf):Ctr:=⟨30,[.imm 7 (v1.map Tf.i),.imm 7 (v2.map Tf.i)],[],Bool,ydk v1 v2,rB⟩
theorem yja {v1:List Tf} {v2:List Tf}:(yhv v1 v2).okF tab:=fun r hr=>⟨za7 yiy rfl (.lenA Tf.i v1<|.lenA Tf.i v2<|.br (decide ((v1.length:Int)≠(v2.length:Int))) (.lfA rB false)<|.lp2 (zvq v1 v2 ()) (fun (v27:Int)=>.lfA rB false) (fun (v28:Unit)=>.lfA rB true):Tree Bool _) (by kernel_rfl) (by kernel_rfl) (lA<|lA<|bR (rfl)<|lQ ybi (fun v27=>rfl) (fun v28=>rfl)) hr,rfl,rfl⟩
def ye4 (v1:Tj) (v2:Tj):Option Bool:=bif decide (v1.fw≠v2.fw) then(some false) else(bif decide (v1.fu≠v2.fu) then(some false) else((ydk v1.fp v2.fp).bind fun v5=>(bif !v5 then(some false) else(some true))))
def yhh (v1:Tj) (v2:Tj):Ctr:=⟨19,[v1.i,v2.i],[],Bool,ye4 v1 v2,rB⟩
theorem ym0 {v1:Tj} {v2:Tj}:(yhh v1 v2).okF tab:=fun r hr=>⟨za7 ymc rfl (.br (decide (v1.fw≠v2.fw)) (.lfA rB false)<|.br (decide (v1.fu≠v2.fu)) (.lfA rB false)<|.callF (yhv v1.fp v2.fp) fun v5=>.br (!v5) (.lfA rB false)<|.lfA rB true:Tree Bool _) (by kernel_rfl) (by kernel_rfl) (bR (rfl)<|bR (rfl)<|cF yja fun v5=>bR (rfl)<|rfl) hr,rfl,rfl⟩
def znz (v1:List Int) (v2:List Int) (k:Int) (s:Unit):St:=⟨sv 7 [(0,.imm 1 (v1.map (V.int .i64))),(1,.imm 1 (v2.map (V.int .i64))),(3,.I k)],[]⟩
def zl2 (v1:List Int) (v2:List Int):Int->Ex×St:=fun p=>(.ret,⟨sv 7 [(0,.imm 1 (v1.map (V.int .i64))),(1,.imm 1 (v2.map (V.int .i64))),(2,.bool false),(3,.I p),(5,.bool true),(6,.bool true)],[]⟩)
def zl5 (v1:List Int) (v2:List Int):Unit->Ex×St:=fun p=>((.exit 0),⟨sv 7 [(0,.imm 1 (v1.map (V.int .i64))),(1,.imm 1 (v2.map (V.int .i64))),(3,.I (v1.length:Int)),(5,.bool false)],[]⟩)
def zp7 (v1:List Int) (v2:List Int) (k:Int):=zf6 (znz v1 v2 k) (Sum.elim (zl2 v1 v2) (zl5 v1 v2))
def zsz (v1:List Int) (v2:List Int) (k:Int) (x:Int) (s:Unit):Option ((Unit)⊕(Int⊕Unit)):=((v2)[k.toNat]?).bind fun v18=>(bif decide (x≠v18) then(some (.inr (.inl k))) else(some (.inl ())))
def zt6 (v1:List Int) (v2:List Int) (s:Unit):Option (Int⊕Unit):=some ((.inr ()))
def zo8 (v1:List Int) (v2:List Int) (s:Unit):Option (Int⊕Unit):=if v1.length<=9223372036854775806 then zb4 (zsz v1 v2) (zt6 v1 v2) v1 0 s else none
def ztq (v1:List Int) (v2:List Int) (s:Unit):Lc2:=⟨7,zyr,0,[2,4,5,6],some (znz v1 v2 0 s),Int,Unit,zo8 v1 v2 s,zl2 v1 v2,zl5 v1 v2⟩
theorem zzv {v1:List Int} {v2:List Int} {s:Unit}:(ztq v1 v2 s).ok tab:=zdp (zax (J:=znz v1 v2) (o:=(Sum.elim (zl2 v1 v2) (zl5 v1 v2))) v1 (B:=fun(k:Int) (x:Int) (s:Unit)=>(.lenA (V.int .i64) v1<|.kb (decide (k<(v1.length:Int))) true<|.ob (0<=k)<|.lkX (V.int .i64) v1 (k.toNat) x<|.ob (0<=k)<|.lookA (V.int .i64) v2 (k.toNat) fun v18=>.br (decide (x≠v18)) (.lfA (zp7 v1 v2 (i64.wrap (k+1))) (.inr (.inl k)))<|.lfA (zp7 v1 v2 (i64.wrap (k+1))) (.inl ()):Tree ((Unit)⊕(Int⊕Unit)) _)) (E:=fun(s:Unit)=>(.lenA (V.int .i64) v1<|.kb (decide ((v1.length:Int)<(v1.length:Int))) false<|.lfA (zp7 v1 v2 0) (.inr (.inr ())):Tree ((Unit)⊕(Int⊕Unit)) _)) (fun k x s=>by kernel_rfl) (fun d x t s he=>lA<|⟨ltX he,⟨Int.natCast_nonneg _,⟨zap (V.int .i64) he,⟨Int.natCast_nonneg _,kA fun v18=>bR (rfl)<|rfl⟩⟩⟩⟩) (ho2 (fun _=>rfl) fun _=>rfl) (fun s=>by kernel_rfl) (fun s=>lA<|⟨ltE _,rfl⟩) (by kernel_rfl) (by kernel_rfl) s)
def yci (v1:List Int) (v2:List Int):Option Bool:=bif decide ((v1.length:Int)≠(v2.length:Int)) then(some false) else((zo8 v1 v2 ()).bind (zo0 (fun (v21:Int)=>(some false)) (fun (v22:Unit)=>(some true))))
def yel (v1:List Int) (v2:List Int):Ctr:=⟨73,[.imm 1 (v1.map (V.int .i64)),.imm 1 (v2.map (V.int .i64))],[],Bool,yci v1 v2,rB⟩
theorem yhz {v1:List Int} {v2:List Int}:(yel v1 v2).okF tab:=fun r hr=>⟨za7 yo1 rfl (.lenA (V.int .i64) v1<|.lenA (V.int .i64) v2<|.br (decide ((v1.length:Int)≠(v2.length:Int))) (.lfA rB false)<|.lp2 (ztq v1 v2 ()) (fun (v21:Int)=>.lfA rB false) (fun (v22:Unit)=>.lfA rB true):Tree Bool _) (by kernel_rfl) (by kernel_rfl) (lA<|lA<|bR (rfl)<|lQ zzv (fun v21=>rfl) (fun v22=>rfl)) hr,rfl,rfl⟩
def znj (v1:List Bool) (v2:List Bool) (k:Int) (s:Unit):St:=⟨sv 7 [(0,.imm 1 (v1.map V.bool)),(1,.imm 1 (v2.map V.bool)),(3,.I k)],[]⟩
def zku (v1:List Bool) (v2:List Bool):Int->Ex×St:=fun p=>(.ret,⟨sv 7 [(0,.imm 1 (v1.map V.bool)),(1,.imm 1 (v2.map V.bool)),(2,.bool false),(3,.I p),(5,.bool true),(6,.bool true)],[]⟩)
def zkg (v1:List Bool) (v2:List Bool):Unit->Ex×St:=fun p=>((.exit 0),⟨sv 7 [(0,.imm 1 (v1.map V.bool)),(1,.imm 1 (v2.map V.bool)),(3,.I (v1.length:Int)),(5,.bool false)],[]⟩)
def zps (v1:List Bool) (v2:List Bool) (k:Int):=zf6 (znj v1 v2 k) (Sum.elim (zku v1 v2) (zkg v1 v2))
def zw3 (v1:List Bool) (v2:List Bool) (k:Int) (x:Bool) (s:Unit):Option ((Unit)⊕(Int⊕Unit)):=((v2)[k.toNat]?).bind fun v18=>(bif true ^^ (x == v18) then(some (.inr (.inl k))) else(some (.inl ())))
def zva (v1:List Bool) (v2:List Bool) (s:Unit):Option (Int⊕Unit):=some ((.inr ()))
def zpu (v1:List Bool) (v2:List Bool) (s:Unit):Option (Int⊕Unit):=if v1.length<=9223372036854775806 then zb4 (zw3 v1 v2) (zva v1 v2) v1 0 s else none
def zuv (v1:List Bool) (v2:List Bool) (s:Unit):Lc2:=⟨7,zz0,0,[2,4,5,6],some (znj v1 v2 0 s),Int,Unit,zpu v1 v2 s,zku v1 v2,zkg v1 v2⟩
theorem yb8 {v1:List Bool} {v2:List Bool} {s:Unit}:(zuv v1 v2 s).ok tab:=zdp (zax (J:=znj v1 v2) (o:=(Sum.elim (zku v1 v2) (zkg v1 v2))) v1 (B:=fun(k:Int) (x:Bool) (s:Unit)=>(.lenA V.bool v1<|.kb (decide (k<(v1.length:Int))) true<|.ob (0<=k)<|.lkX V.bool v1 (k.toNat) x<|.ob (0<=k)<|.lookA V.bool v2 (k.toNat) fun v18=>.br (true ^^ (x == v18)) (.lfA (zps v1 v2 (i64.wrap (k+1))) (.inr (.inl k)))<|.lfA (zps v1 v2 (i64.wrap (k+1))) (.inl ()):Tree ((Unit)⊕(Int⊕Unit)) _)) (E:=fun(s:Unit)=>(.lenA V.bool v1<|.kb (decide ((v1.length:Int)<(v1.length:Int))) false<|.lfA (zps v1 v2 0) (.inr (.inr ())):Tree ((Unit)⊕(Int⊕Unit)) _)) (fun k x s=>by kernel_rfl) (fun d x t s he=>lA<|⟨ltX he,⟨Int.natCast_nonneg _,⟨zap V.bool he,⟨Int.natCast_nonneg _,kA fun v18=>bR (rfl)<|rfl⟩⟩⟩⟩) (ho2 (fun _=>rfl) fun _=>rfl) (fun s=>by kernel_rfl) (fun s=>lA<|⟨ltE _,rfl⟩) (by kernel_rfl) (by kernel_rfl) s)
def yby (v1:List Bool) (v2:List Bool):Option Bool:=bif decide ((v1.length:Int)≠(v2.length:Int)) then(some false) else((zpu v1 v2 ()).bind (zo0 (fun (v21:Int)=>(some false)) (fun (v22:Unit)=>(some true))))
def ydw (v1:List Bool) (v2:List Bool):Ctr:=⟨60,[.imm 1 (v1.map V.bool),.imm 1 (v2.map V.bool)],[],Bool,yby v1 v2,rB⟩
theorem yf8 {v1:List Bool} {v2:List Bool}:(ydw v1 v2).okF tab:=fun r hr=>⟨za7 yl7 rfl (.lenA V.bool v1<|.lenA V.bool v2<|.br (decide ((v1.length:Int)≠(v2.length:Int))) (.lfA rB false)<|.lp2 (zuv v1 v2 ()) (fun (v21:Int)=>.lfA rB false) (fun (v22:Unit)=>.lfA rB true):Tree Bool _) (by kernel_rfl) (by kernel_rfl) (lA<|lA<|bR (rfl)<|lQ yb8 (fun v21=>rfl) (fun v22=>rfl)) hr,rfl,rfl⟩
def ybs (v1:Tg) (v2:Tg):Option Bool:=bif decide (v1.fo≠v2.fo) then(some false) else(bif decide (v1.fk≠v2.fk) then(some false) else(bif decide (v1.fN≠v2.fN) then(some false) else((yci v1.fc v2.fc).bind fun v6=>(bif !v6 then(some false) else((yby v1.fd v2.fd).bind fun v9=>(bif !v9 then(some false) else(bif decide (v1.fq≠v2.fq) then(some false) else(some true))))))))
def yd9 (v1:Tg) (v2:Tg):Ctr:=⟨58,[v1.i,v2.i],[],Bool,ybs v1 v2,rB⟩
theorem ygs {v1:Tg} {v2:Tg}:(yd9 v1 v2).okF tab:=fun r hr=>⟨za7 yku rfl (.br (decide (v1.fo≠v2.fo)) (.lfA rB false)<|.br (decide (v1.fk≠v2.fk)) (.lfA rB false)<|.br (decide (v1.fN≠v2.fN)) (.lfA rB false)<|.callF (yel v1.fc v2.fc) fun v6=>.br (!v6) (.lfA rB false)<|.callF (ydw v1.fd v2.fd) fun v9=>.br (!v9) (.lfA rB false)<|.br (decide (v1.fq≠v2.fq)) (.lfA rB false)<|.lfA rB true:Tree Bool _) (by kernel_rfl) (by kernel_rfl) (bR (rfl)<|bR (rfl)<|bR (rfl)<|cF yhz fun v6=>bR (rfl)<|cF yf8 fun v9=>bR (rfl)<|bR (rfl)<|rfl) hr,rfl,rfl⟩
def ye0 (v1:Td) (v2:Td):Option Bool:=bif decide (v1.fab≠v2.fab) then(some false) else(bif decide (v1.fg≠v2.fg) then(some false) else((ybs v1.fa v2.fa).bind fun v5=>(bif !v5 then(some false) else(some true))))
def yhn (v1:Td) (v2:Td):Ctr:=⟨74,[v1.i,v2.i],[],Bool,ye0 v1 v2,rB⟩
theorem yjj {v1:Td} {v2:Td}:(yhn v1 v2).okF tab:=fun r hr=>⟨za7 yna rfl (.br (decide (v1.fab≠v2.fab)) (.lfA rB false)<|.br (decide (v1.fg≠v2.fg)) (.lfA rB false)<|.callF (yd9 v1.fa v2.fa) fun v5=>.br (!v5) (.lfA rB false)<|.lfA rB true:Tree Bool _) (by kernel_rfl) (by kernel_rfl) (bR (rfl)<|bR (rfl)<|cF ygs fun v5=>bR (rfl)<|rfl) hr,rfl,rfl⟩
def zou (v1:List Td) (v2:List Td) (k:Int) (s:Unit):St:=⟨sv 7 [(0,.imm 8 (v1.map Td.i)),(1,.imm 8 (v2.map Td.i)),(3,.I k)],[]⟩
def zkv (v1:List Td) (v2:List Td):Int->Ex×St:=fun p=>(.ret,⟨sv 7 [(0,.imm 8 (v1.map Td.i)),(1,.imm 8 (v2.map Td.i)),(2,.bool false),(3,.I p),(5,.bool true),(6,.bool true)],[]⟩)
def zk7 (v1:List Td) (v2:List Td):Unit->Ex×St:=fun p=>((.exit 0),⟨sv 7 [(0,.imm 8 (v1.map Td.i)),(1,.imm 8 (v2.map Td.i)),(3,.I (v1.length:Int)),(5,.bool false)],[]⟩)
def zov (v1:List Td) (v2:List Td) (k:Int):=zf6 (zou v1 v2 k) (Sum.elim (zkv v1 v2) (zk7 v1 v2))
def ztx (v1:List Td) (v2:List Td) (k:Int) (x:Td) (s:Unit):Option ((Unit)⊕(Int⊕Unit)):=((v2)[k.toNat]?).bind fun v22=>((ye0 x v22).bind fun v24=>(bif !v24 then(some (.inr (.inl k))) else(some (.inl ()))))
def zuy (v1:List Td) (v2:List Td) (s:Unit):Option (Int⊕Unit):=some ((.inr ()))
def zpf (v1:List Td) (v2:List Td) (s:Unit):Option (Int⊕Unit):=if v1.length<=9223372036854775806 then zb4 (ztx v1 v2) (zuy v1 v2) v1 0 s else none
def zta (v1:List Td) (v2:List Td) (s:Unit):Lc2:=⟨7,zz4,0,[2,4,5,6],some (zou v1 v2 0 s),Int,Unit,zpf v1 v2 s,zkv v1 v2,zk7 v1 v2⟩
theorem ybb {v1:List Td} {v2:List Td} {s:Unit}:(zta v1 v2 s).ok tab:=zdp (zax (J:=zou v1 v2) (o:=(Sum.elim (zkv v1 v2) (zk7 v1 v2))) v1 (B:=fun(k:Int) (x:Td) (s:Unit)=>(.lenA Td.i v1<|.kb (decide (k<(v1.length:Int))) true<|.ob (0<=k)<|.lkX Td.i v1 (k.toNat) x<|.ob (0<=k)<|.lookA Td.i v2 (k.toNat) fun v22=>.callF (yhn x v22) fun v24=>.br (!v24) (.lfA (zov v1 v2 (i64.wrap (k+1))) (.inr (.inl k)))<|.lfA (zov v1 v2 (i64.wrap (k+1))) (.inl ()):Tree ((Unit)⊕(Int⊕Unit)) _)) (E:=fun(s:Unit)=>(.lenA Td.i v1<|.kb (decide ((v1.length:Int)<(v1.length:Int))) false<|.lfA (zov v1 v2 0) (.inr (.inr ())):Tree ((Unit)⊕(Int⊕Unit)) _)) (fun k x s=>by kernel_rfl) (fun d x t s he=>lA<|⟨ltX he,⟨Int.natCast_nonneg _,⟨zap Td.i he,⟨Int.natCast_nonneg _,kA fun v22=>cF yjj fun v24=>bR (rfl)<|rfl⟩⟩⟩⟩) (ho2 (fun _=>rfl) fun _=>rfl) (fun s=>by kernel_rfl) (fun s=>lA<|⟨ltE _,rfl⟩) (by kernel_rfl) (by kernel_rfl) s)
def yeb (v1:List Td) (v2:List Td):Option Bool:=bif decide ((v1.length:Int)≠(v2.length:Int)) then(some false) else((zpf v1 v2 ()).bind (zo0 (fun (v27:Int)=>(some false)) (fun (v28:Unit)=>(some true))))
def yh6 (v1:List Td) (v2:List Td):Ctr:=⟨59,[.imm 8 (v1.map Td.i),.imm 8 (v2.map Td.i)],[],Bool,yeb v1 v2,rB⟩
theorem yji {v1:List Td} {v2:List Td}:(yh6 v1 v2).okF tab:=fun r hr=>⟨za7 ynu rfl (.lenA Td.i v1<|.lenA Td.i v2<|.br (decide ((v1.length:Int)≠(v2.length:Int))) (.lfA rB false)<|.lp2 (zta v1 v2 ()) (fun (v27:Int)=>.lfA rB false) (fun (v28:Unit)=>.lfA rB true):Tree Bool _) (by kernel_rfl) (by kernel_rfl) (lA<|lA<|bR (rfl)<|lQ ybb (fun v27=>rfl) (fun v28=>rfl)) hr,rfl,rfl⟩
def yds (v1:Te) (v2:Te):Option Bool:=bif decide (v1.fo≠v2.fo) then(some false) else(bif decide (v1.fam≠v2.fam) then(some false) else(bif decide (v1.fk≠v2.fk) then(some false) else(bif decide (v1.fN≠v2.fN) then(some false) else((yci v1.fc v2.fc).bind fun v7=>(bif !v7 then(some false) else((yby v1.fd v2.fd).bind fun v10=>(bif !v10 then(some false) else(some true))))))))
def yid (v1:Te) (v2:Te):Ctr:=⟨75,[v1.i,v2.i],[],Bool,yds v1 v2,rB⟩
theorem yn9 {v1:Te} {v2:Te}:(yid v1 v2).okF tab:=fun r hr=>⟨za7 ykc rfl (.br (decide (v1.fo≠v2.fo)) (.lfA rB false)<|.br (decide (v1.fam≠v2.fam)) (.lfA rB false)<|.br (decide (v1.fk≠v2.fk)) (.lfA rB false)<|.br (decide (v1.fN≠v2.fN)) (.lfA rB false)<|.callF (yel v1.fc v2.fc) fun v7=>.br (!v7) (.lfA rB false)<|.callF (ydw v1.fd v2.fd) fun v10=>.br (!v10) (.lfA rB false)<|.lfA rB true:Tree Bool _) (by kernel_rfl) (by kernel_rfl) (bR (rfl)<|bR (rfl)<|bR (rfl)<|bR (rfl)<|cF yhz fun v7=>bR (rfl)<|cF yf8 fun v10=>bR (rfl)<|rfl) hr,rfl,rfl⟩
def zpd (v1:List Te) (v2:List Te) (k:Int) (s:Unit):St:=⟨sv 7 [(0,.imm 6 (v1.map Te.i)),(1,.imm 6 (v2.map Te.i)),(3,.I k)],[]⟩
def zkb (v1:List Te) (v2:List Te):Int->Ex×St:=fun p=>(.ret,⟨sv 7 [(0,.imm 6 (v1.map Te.i)),(1,.imm 6 (v2.map Te.i)),(2,.bool false),(3,.I p),(5,.bool true),(6,.bool true)],[]⟩)
def zl8 (v1:List Te) (v2:List Te):Unit->Ex×St:=fun p=>((.exit 0),⟨sv 7 [(0,.imm 6 (v1.map Te.i)),(1,.imm 6 (v2.map Te.i)),(3,.I (v1.length:Int)),(5,.bool false)],[]⟩)
def zog (v1:List Te) (v2:List Te) (k:Int):=zf6 (zpd v1 v2 k) (Sum.elim (zkb v1 v2) (zl8 v1 v2))
def zw7 (v1:List Te) (v2:List Te) (k:Int) (x:Te) (s:Unit):Option ((Unit)⊕(Int⊕Unit)):=((v2)[k.toNat]?).bind fun v22=>((yds x v22).bind fun v24=>(bif !v24 then(some (.inr (.inl k))) else(some (.inl ()))))
def zs0 (v1:List Te) (v2:List Te) (s:Unit):Option (Int⊕Unit):=some ((.inr ()))
def zoh (v1:List Te) (v2:List Te) (s:Unit):Option (Int⊕Unit):=if v1.length<=9223372036854775806 then zb4 (zw7 v1 v2) (zs0 v1 v2) v1 0 s else none
def zsb (v1:List Te) (v2:List Te) (s:Unit):Lc2:=⟨7,zyy,0,[2,4,5,6],some (zpd v1 v2 0 s),Int,Unit,zoh v1 v2 s,zkb v1 v2,zl8 v1 v2⟩
theorem yat {v1:List Te} {v2:List Te} {s:Unit}:(zsb v1 v2 s).ok tab:=zdp (zax (J:=zpd v1 v2) (o:=(Sum.elim (zkb v1 v2) (zl8 v1 v2))) v1 (B:=fun(k:Int) (x:Te) (s:Unit)=>(.lenA Te.i v1<|.kb (decide (k<(v1.length:Int))) true<|.ob (0<=k)<|.lkX Te.i v1 (k.toNat) x<|.ob (0<=k)<|.lookA Te.i v2 (k.toNat) fun v22=>.callF (yid x v22) fun v24=>.br (!v24) (.lfA (zog v1 v2 (i64.wrap (k+1))) (.inr (.inl k)))<|.lfA (zog v1 v2 (i64.wrap (k+1))) (.inl ()):Tree ((Unit)⊕(Int⊕Unit)) _)) (E:=fun(s:Unit)=>(.lenA Te.i v1<|.kb (decide ((v1.length:Int)<(v1.length:Int))) false<|.lfA (zog v1 v2 0) (.inr (.inr ())):Tree ((Unit)⊕(Int⊕Unit)) _)) (fun k x s=>by kernel_rfl) (fun d x t s he=>lA<|⟨ltX he,⟨Int.natCast_nonneg _,⟨zap Te.i he,⟨Int.natCast_nonneg _,kA fun v22=>cF yn9 fun v24=>bR (rfl)<|rfl⟩⟩⟩⟩) (ho2 (fun _=>rfl) fun _=>rfl) (fun s=>by kernel_rfl) (fun s=>lA<|⟨ltE _,rfl⟩) (by kernel_rfl) (by kernel_rfl) s)
def yda (v1:List Te) (v2:List Te):Option Bool:=bif decide ((v1.length:Int)≠(v2.length:Int)) then(some false) else((zoh v1 v2 ()).bind (zo0 (fun (v27:Int)=>(some false)) (fun (v28:Unit)=>(some true))))
def yhp (v1:List Te) (v2:List Te):Ctr:=⟨61,[.imm 6 (v1.map Te.i),.imm 6 (v2.map Te.i)],[],Bool,yda v1 v2,rB⟩
theorem yjt {v1:List Te} {v2:List Te}:(yhp v1 v2).okF tab:=fun r hr=>⟨za7 yn4 rfl (.lenA Te.i v1<|.lenA Te.i v2<|.br (decide ((v1.length:Int)≠(v2.length:Int))) (.lfA rB false)<|.lp2 (zsb v1 v2 ()) (fun (v27:Int)=>.lfA rB false) (fun (v28:Unit)=>.lfA rB true):Tree Bool _) (by kernel_rfl) (by kernel_rfl) (lA<|lA<|bR (rfl)<|lQ yat (fun v27=>rfl) (fun v28=>rfl)) hr,rfl,rfl⟩
def yea (v1:Tb) (v2:Tb):Option Bool:=bif decide (v1.fr≠v2.fr) then(some false) else(bif decide (v1.fas≠v2.fas) then(some false) else(bif decide (v1.fau≠v2.fau) then(some false) else(bif decide (v1.fg≠v2.fg) then(some false) else((ybs v1.fa v2.fa).bind fun v7=>(bif !v7 then(some false) else((yeb v1.fac v2.fac).bind fun v10=>(bif !v10 then(some false) else((yby v1.fag v2.fag).bind fun v13=>(bif !v13 then(some false) else((yda v1.fad v2.fad).bind fun v16=>(bif !v16 then(some false) else(some true))))))))))))
def yhc (v1:Tb) (v2:Tb):Ctr:=⟨43,[v1.i,v2.i],[],Bool,yea v1 v2,rB⟩
theorem ykk {v1:Tb} {v2:Tb}:(yhc v1 v2).okF tab:=fun r hr=>⟨za7 ykl rfl (.br (decide (v1.fr≠v2.fr)) (.lfA rB false)<|.br (decide (v1.fas≠v2.fas)) (.lfA rB false)<|.br (decide (v1.fau≠v2.fau)) (.lfA rB false)<|.br (decide (v1.fg≠v2.fg)) (.lfA rB false)<|.callF (yd9 v1.fa v2.fa) fun v7=>.br (!v7) (.lfA rB false)<|.callF (yh6 v1.fac v2.fac) fun v10=>.br (!v10) (.lfA rB false)<|.callF (ydw v1.fag v2.fag) fun v13=>.br (!v13) (.lfA rB false)<|.callF (yhp v1.fad v2.fad) fun v16=>.br (!v16) (.lfA rB false)<|.lfA rB true:Tree Bool _) (by kernel_rfl) (by kernel_rfl) (bR (rfl)<|bR (rfl)<|bR (rfl)<|bR (rfl)<|cF ygs fun v7=>bR (rfl)<|cF yji fun v10=>bR (rfl)<|cF yf8 fun v13=>bR (rfl)<|cF yjt fun v16=>bR (rfl)<|rfl) hr,rfl,rfl⟩
def znu (v1:List Tb) (v2:List Tb) (k:Int) (s:Unit):St:=⟨sv 7 [(0,.imm 13 (v1.map Tb.i)),(1,.imm 13 (v2.map Tb.i)),(3,.I k)],[]⟩
def zlh (v1:List Tb) (v2:List Tb):Int->Ex×St:=fun p=>(.ret,⟨sv 7 [(0,.imm 13 (v1.map Tb.i)),(1,.imm 13 (v2.map Tb.i)),(2,.bool false),(3,.I p),(5,.bool true),(6,.bool true)],[]⟩)
def zlg (v1:List Tb) (v2:List Tb):Unit->Ex×St:=fun p=>((.exit 0),⟨sv 7 [(0,.imm 13 (v1.map Tb.i)),(1,.imm 13 (v2.map Tb.i)),(3,.I (v1.length:Int)),(5,.bool false)],[]⟩)
def zol (v1:List Tb) (v2:List Tb) (k:Int):=zf6 (znu v1 v2 k) (Sum.elim (zlh v1 v2) (zlg v1 v2))
def zsm (v1:List Tb) (v2:List Tb) (k:Int) (x:Tb) (s:Unit):Option ((Unit)⊕(Int⊕Unit)):=((v2)[k.toNat]?).bind fun v22=>((yea x v22).bind fun v24=>(bif !v24 then(some (.inr (.inl k))) else(some (.inl ()))))
def ztl (v1:List Tb) (v2:List Tb) (s:Unit):Option (Int⊕Unit):=some ((.inr ()))
def zox (v1:List Tb) (v2:List Tb) (s:Unit):Option (Int⊕Unit):=if v1.length<=9223372036854775806 then zb4 (zsm v1 v2) (ztl v1 v2) v1 0 s else none
def zu3 (v1:List Tb) (v2:List Tb) (s:Unit):Lc2:=⟨7,zz8,0,[2,4,5,6],some (znu v1 v2 0 s),Int,Unit,zox v1 v2 s,zlh v1 v2,zlg v1 v2⟩
theorem yba {v1:List Tb} {v2:List Tb} {s:Unit}:(zu3 v1 v2 s).ok tab:=zdp (zax (J:=znu v1 v2) (o:=(Sum.elim (zlh v1 v2) (zlg v1 v2))) v1 (B:=fun(k:Int) (x:Tb) (s:Unit)=>(.lenA Tb.i v1<|.kb (decide (k<(v1.length:Int))) true<|.ob (0<=k)<|.lkX Tb.i v1 (k.toNat) x<|.ob (0<=k)<|.lookA Tb.i v2 (k.toNat) fun v22=>.callF (yhc x v22) fun v24=>.br (!v24) (.lfA (zol v1 v2 (i64.wrap (k+1))) (.inr (.inl k)))<|.lfA (zol v1 v2 (i64.wrap (k+1))) (.inl ()):Tree ((Unit)⊕(Int⊕Unit)) _)) (E:=fun(s:Unit)=>(.lenA Tb.i v1<|.kb (decide ((v1.length:Int)<(v1.length:Int))) false<|.lfA (zol v1 v2 0) (.inr (.inr ())):Tree ((Unit)⊕(Int⊕Unit)) _)) (fun k x s=>by kernel_rfl) (fun d x t s he=>lA<|⟨ltX he,⟨Int.natCast_nonneg _,⟨zap Tb.i he,⟨Int.natCast_nonneg _,kA fun v22=>cF ykk fun v24=>bR (rfl)<|rfl⟩⟩⟩⟩) (ho2 (fun _=>rfl) fun _=>rfl) (fun s=>by kernel_rfl) (fun s=>lA<|⟨ltE _,rfl⟩) (by kernel_rfl) (by kernel_rfl) s)
def ydb (v1:List Tb) (v2:List Tb):Option Bool:=bif decide ((v1.length:Int)≠(v2.length:Int)) then(some false) else((zox v1 v2 ()).bind (zo0 (fun (v27:Int)=>(some false)) (fun (v28:Unit)=>(some true))))
def yin (v1:List Tb) (v2:List Tb):Ctr:=⟨31,[.imm 13 (v1.map Tb.i),.imm 13 (v2.map Tb.i)],[],Bool,ydb v1 v2,rB⟩
theorem ymi {v1:List Tb} {v2:List Tb}:(yin v1 v2).okF tab:=fun r hr=>⟨za7 ylv rfl (.lenA Tb.i v1<|.lenA Tb.i v2<|.br (decide ((v1.length:Int)≠(v2.length:Int))) (.lfA rB false)<|.lp2 (zu3 v1 v2 ()) (fun (v27:Int)=>.lfA rB false) (fun (v28:Unit)=>.lfA rB true):Tree Bool _) (by kernel_rfl) (by kernel_rfl) (lA<|lA<|bR (rfl)<|lQ yba (fun v27=>rfl) (fun v28=>rfl)) hr,rfl,rfl⟩
def yd0 (v1:Ti) (v2:Ti):Option Bool:=bif decide (v1.ft≠v2.ft) then(some false) else((ydb v1.fi v2.fi).bind fun v4=>(bif !v4 then(some false) else(some true)))
def yi8 (v1:Ti) (v2:Ti):Ctr:=⟨20,[v1.i,v2.i],[],Bool,yd0 v1 v2,rB⟩
theorem yiq {v1:Ti} {v2:Ti}:(yi8 v1 v2).okF tab:=fun r hr=>⟨za7 yjx rfl (.br (decide (v1.ft≠v2.ft)) (.lfA rB false)<|.callF (yin v1.fi v2.fi) fun v4=>.br (!v4) (.lfA rB false)<|.lfA rB true:Tree Bool _) (by kernel_rfl) (by kernel_rfl) (bR (rfl)<|cF ymi fun v4=>bR (rfl)<|rfl) hr,rfl,rfl⟩
def ycy (v1:Tc) (v2:Tc):Option Bool:=bif decide (v1.fr≠v2.fr) then(some false) else(bif decide (v1.faj≠v2.faj) then(some false) else(bif decide (v1.fg≠v2.fg) then(some false) else((ybs v1.fa v2.fa).bind fun v6=>(bif !v6 then(some false) else(some true)))))
def ygd (v1:Tc) (v2:Tc):Ctr:=⟨45,[v1.i,v2.i],[],Bool,ycy v1 v2,rB⟩
theorem yi5 {v1:Tc} {v2:Tc}:(ygd v1 v2).okF tab:=fun r hr=>⟨za7 yld rfl (.br (decide (v1.fr≠v2.fr)) (.lfA rB false)<|.br (decide (v1.faj≠v2.faj)) (.lfA rB false)<|.br (decide (v1.fg≠v2.fg)) (.lfA rB false)<|.callF (yd9 v1.fa v2.fa) fun v6=>.br (!v6) (.lfA rB false)<|.lfA rB true:Tree Bool _) (by kernel_rfl) (by kernel_rfl) (bR (rfl)<|bR (rfl)<|bR (rfl)<|cF ygs fun v6=>bR (rfl)<|rfl) hr,rfl,rfl⟩
def znx (v1:List Tc) (v2:List Tc) (k:Int) (s:Unit):St:=⟨sv 7 [(0,.imm 9 (v1.map Tc.i)),(1,.imm 9 (v2.map Tc.i)),(3,.I k)],[]⟩
def zm6 (v1:List Tc) (v2:List Tc):Int->Ex×St:=fun p=>(.ret,⟨sv 7 [(0,.imm 9 (v1.map Tc.i)),(1,.imm 9 (v2.map Tc.i)),(2,.bool false),(3,.I p),(5,.bool true),(6,.bool true)],[]⟩)
def zlk (v1:List Tc) (v2:List Tc):Unit->Ex×St:=fun p=>((.exit 0),⟨sv 7 [(0,.imm 9 (v1.map Tc.i)),(1,.imm 9 (v2.map Tc.i)),(3,.I (v1.length:Int)),(5,.bool false)],[]⟩)
def zow (v1:List Tc) (v2:List Tc) (k:Int):=zf6 (znx v1 v2 k) (Sum.elim (zm6 v1 v2) (zlk v1 v2))
def zs8 (v1:List Tc) (v2:List Tc) (k:Int) (x:Tc) (s:Unit):Option ((Unit)⊕(Int⊕Unit)):=((v2)[k.toNat]?).bind fun v22=>((ycy x v22).bind fun v24=>(bif !v24 then(some (.inr (.inl k))) else(some (.inl ()))))
def zuw (v1:List Tc) (v2:List Tc) (s:Unit):Option (Int⊕Unit):=some ((.inr ()))
def zp4 (v1:List Tc) (v2:List Tc) (s:Unit):Option (Int⊕Unit):=if v1.length<=9223372036854775806 then zb4 (zs8 v1 v2) (zuw v1 v2) v1 0 s else none
def ztv (v1:List Tc) (v2:List Tc) (s:Unit):Lc2:=⟨7,zz6,0,[2,4,5,6],some (znx v1 v2 0 s),Int,Unit,zp4 v1 v2 s,zm6 v1 v2,zlk v1 v2⟩
theorem ybj {v1:List Tc} {v2:List Tc} {s:Unit}:(ztv v1 v2 s).ok tab:=zdp (zax (J:=znx v1 v2) (o:=(Sum.elim (zm6 v1 v2) (zlk v1 v2))) v1 (B:=fun(k:Int) (x:Tc) (s:Unit)=>(.lenA Tc.i v1<|.kb (decide (k<(v1.length:Int))) true<|.ob (0<=k)<|.lkX Tc.i v1 (k.toNat) x<|.ob (0<=k)<|.lookA Tc.i v2 (k.toNat) fun v22=>.callF (ygd x v22) fun v24=>.br (!v24) (.lfA (zow v1 v2 (i64.wrap (k+1))) (.inr (.inl k)))<|.lfA (zow v1 v2 (i64.wrap (k+1))) (.inl ()):Tree ((Unit)⊕(Int⊕Unit)) _)) (E:=fun(s:Unit)=>(.lenA Tc.i v1<|.kb (decide ((v1.length:Int)<(v1.length:Int))) false<|.lfA (zow v1 v2 0) (.inr (.inr ())):Tree ((Unit)⊕(Int⊕Unit)) _)) (fun k x s=>by kernel_rfl) (fun d x t s he=>lA<|⟨ltX he,⟨Int.natCast_nonneg _,⟨zap Tc.i he,⟨Int.natCast_nonneg _,kA fun v22=>cF yi5 fun v24=>bR (rfl)<|rfl⟩⟩⟩⟩) (ho2 (fun _=>rfl) fun _=>rfl) (fun s=>by kernel_rfl) (fun s=>lA<|⟨ltE _,rfl⟩) (by kernel_rfl) (by kernel_rfl) s)
def yd8 (v1:List Tc) (v2:List Tc):Option Bool:=bif decide ((v1.length:Int)≠(v2.length:Int)) then(some false) else((zp4 v1 v2 ()).bind (zo0 (fun (v27:Int)=>(some false)) (fun (v28:Unit)=>(some true))))
def yhw (v1:List Tc) (v2:List Tc):Ctr:=⟨44,[.imm 9 (v1.map Tc.i),.imm 9 (v2.map Tc.i)],[],Bool,yd8 v1 v2,rB⟩
theorem yjg {v1:List Tc} {v2:List Tc}:(yhw v1 v2).okF tab:=fun r hr=>⟨za7 ykz rfl (.lenA Tc.i v1<|.lenA Tc.i v2<|.br (decide ((v1.length:Int)≠(v2.length:Int))) (.lfA rB false)<|.lp2 (ztv v1 v2 ()) (fun (v27:Int)=>.lfA rB false) (fun (v28:Unit)=>.lfA rB true):Tree Bool _) (by kernel_rfl) (by kernel_rfl) (lA<|lA<|bR (rfl)<|lQ ybj (fun v27=>rfl) (fun v28=>rfl)) hr,rfl,rfl⟩
def yec (v1:Ta) (v2:Ta):Option Bool:=(yd8 v1.ff v2.ff).bind fun v3=>(bif !v3 then(some false) else(bif true ^^ (v1.faa == v2.faa) then(some false) else((ycy v1.fb v2.fb).bind fun v7=>(bif !v7 then(some false) else(bif decide (v1.faq≠v2.faq) then(some false) else(bif decide (v1.fal≠v2.fal) then(some false) else(bif decide (v1.fao≠v2.fao) then(some false) else(bif decide (v1.ft≠v2.ft) then(some false) else(bif decide (v1.fw≠v2.fw) then(some false) else(bif decide (v1.fu≠v2.fu) then(some false) else(some true)))))))))))
def yhr (v1:Ta) (v2:Ta):Ctr:=⟨32,[v1.i,v2.i],[],Bool,yec v1 v2,rB⟩
theorem ynm {v1:Ta} {v2:Ta}:(yhr v1 v2).okF tab:=fun r hr=>⟨za7 ykn rfl (.callF (yhw v1.ff v2.ff) fun v3=>.br (!v3) (.lfA rB false)<|.br (true ^^ (v1.faa == v2.faa)) (.lfA rB false)<|.callF (ygd v1.fb v2.fb) fun v7=>.br (!v7) (.lfA rB false)<|.br (decide (v1.faq≠v2.faq)) (.lfA rB false)<|.br (decide (v1.fal≠v2.fal)) (.lfA rB false)<|.br (decide (v1.fao≠v2.fao)) (.lfA rB false)<|.br (decide (v1.ft≠v2.ft)) (.lfA rB false)<|.br (decide (v1.fw≠v2.fw)) (.lfA rB false)<|.br (decide (v1.fu≠v2.fu)) (.lfA rB false)<|.lfA rB true:Tree Bool _) (by kernel_rfl) (by kernel_rfl) (cF yjg fun v3=>bR (rfl)<|bR (rfl)<|cF yi5 fun v7=>bR (rfl)<|bR (rfl)<|bR (rfl)<|bR (rfl)<|bR (rfl)<|bR (rfl)<|bR (rfl)<|rfl) hr,rfl,rfl⟩
def zpq (v1:List Ta) (v2:List Ta) (k:Int) (s:Unit):St:=⟨sv 7 [(0,.imm 17 (v1.map Ta.i)),(1,.imm 17 (v2.map Ta.i)),(3,.I k)],[]⟩
def zls (v1:List Ta) (v2:List Ta):Int->Ex×St:=fun p=>(.ret,⟨sv 7 [(0,.imm 17 (v1.map Ta.i)),(1,.imm 17 (v2.map Ta.i)),(2,.bool false),(3,.I p),(5,.bool true),(6,.bool true)],[]⟩)
def zlv (v1:List Ta) (v2:List Ta):Unit->Ex×St:=fun p=>((.exit 0),⟨sv 7 [(0,.imm 17 (v1.map Ta.i)),(1,.imm 17 (v2.map Ta.i)),(3,.I (v1.length:Int)),(5,.bool false)],[]⟩)
def znp (v1:List Ta) (v2:List Ta) (k:Int):=zf6 (zpq v1 v2 k) (Sum.elim (zls v1 v2) (zlv v1 v2))
def zss (v1:List Ta) (v2:List Ta) (k:Int) (x:Ta) (s:Unit):Option ((Unit)⊕(Int⊕Unit)):=((v2)[k.toNat]?).bind fun v22=>((yec x v22).bind fun v24=>(bif !v24 then(some (.inr (.inl k))) else(some (.inl ()))))
def zue (v1:List Ta) (v2:List Ta) (s:Unit):Option (Int⊕Unit):=some ((.inr ()))
def znt (v1:List Ta) (v2:List Ta) (s:Unit):Option (Int⊕Unit):=if v1.length<=9223372036854775806 then zb4 (zss v1 v2) (zue v1 v2) v1 0 s else none
def ztc (v1:List Ta) (v2:List Ta) (s:Unit):Lc2:=⟨7,zze,0,[2,4,5,6],some (zpq v1 v2 0 s),Int,Unit,znt v1 v2 s,zls v1 v2,zlv v1 v2⟩
theorem zzy {v1:List Ta} {v2:List Ta} {s:Unit}:(ztc v1 v2 s).ok tab:=zdp (zax (J:=zpq v1 v2) (o:=(Sum.elim (zls v1 v2) (zlv v1 v2))) v1 (B:=fun(k:Int) (x:Ta) (s:Unit)=>(.lenA Ta.i v1<|.kb (decide (k<(v1.length:Int))) true<|.ob (0<=k)<|.lkX Ta.i v1 (k.toNat) x<|.ob (0<=k)<|.lookA Ta.i v2 (k.toNat) fun v22=>.callF (yhr x v22) fun v24=>.br (!v24) (.lfA (znp v1 v2 (i64.wrap (k+1))) (.inr (.inl k)))<|.lfA (znp v1 v2 (i64.wrap (k+1))) (.inl ()):Tree ((Unit)⊕(Int⊕Unit)) _)) (E:=fun(s:Unit)=>(.lenA Ta.i v1<|.kb (decide ((v1.length:Int)<(v1.length:Int))) false<|.lfA (znp v1 v2 0) (.inr (.inr ())):Tree ((Unit)⊕(Int⊕Unit)) _)) (fun k x s=>by kernel_rfl) (fun d x t s he=>lA<|⟨ltX he,⟨Int.natCast_nonneg _,⟨zap Ta.i he,⟨Int.natCast_nonneg _,kA fun v22=>cF ynm fun v24=>bR (rfl)<|rfl⟩⟩⟩⟩) (ho2 (fun _=>rfl) fun _=>rfl) (fun s=>by kernel_rfl) (fun s=>lA<|⟨ltE _,rfl⟩) (by kernel_rfl) (by kernel_rfl) s)
def ye8 (v1:List Ta) (v2:List Ta):Option Bool:=bif decide ((v1.length:Int)≠(v2.length:Int)) then(some false) else((znt v1 v2 ()).bind (zo0 (fun (v27:Int)=>(some false)) (fun (v28:Unit)=>(some true))))
def yha (v1:List Ta) (v2:List Ta):Ctr:=⟨21,[.imm 17 (v1.map Ta.i),.imm 17 (v2.map Ta.i)],[],Bool,ye8 v1 v2,rB⟩
theorem yn5 {v1:List Ta} {v2:List Ta}:(yha v1 v2).okF tab:=fun r hr=>⟨za7 yne rfl (.lenA Ta.i v1<|.lenA Ta.i v2<|.br (decide ((v1.length:Int)≠(v2.length:Int))) (.lfA rB false)<|.lp2 (ztc v1 v2 ()) (fun (v27:Int)=>.lfA rB false) (fun (v28:Unit)=>.lfA rB true):Tree Bool _) (by kernel_rfl) (by kernel_rfl) (lA<|lA<|bR (rfl)<|lQ zzy (fun v27=>rfl) (fun v28=>rfl)) hr,rfl,rfl⟩
def ydg (v1:Th) (v2:Th):Option Bool:=bif decide (v1.fak≠v2.fak) then(some false) else((ye4 v1.fj v2.fj).bind fun v4=>(bif !v4 then(some false) else((yd0 v1.fh v2.fh).bind fun v7=>(bif !v7 then(some false) else((ye8 v1.fe v2.fe).bind fun v10=>(bif !v10 then(some false) else(bif decide (v1.fae≠v2.fae) then(some false) else(bif decide (v1.fah≠v2.fah) then(some false) else(bif decide (v1.faf≠v2.faf) then(some false) else(bif decide (v1.fai≠v2.fai) then(some false) else(some true)))))))))))
def yh8 (v1:Th) (v2:Th):Ctr:=⟨8,[v1.i,v2.i],[],Bool,ydg v1 v2,rB⟩
theorem ymd {v1:Th} {v2:Th}:(yh8 v1 v2).okF tab:=fun r hr=>⟨za7 yjm rfl (.br (decide (v1.fak≠v2.fak)) (.lfA rB false)<|.callF (yhh v1.fj v2.fj) fun v4=>.br (!v4) (.lfA rB false)<|.callF (yi8 v1.fh v2.fh) fun v7=>.br (!v7) (.lfA rB false)<|.callF (yha v1.fe v2.fe) fun v10=>.br (!v10) (.lfA rB false)<|.br (decide (v1.fae≠v2.fae)) (.lfA rB false)<|.br (decide (v1.fah≠v2.fah)) (.lfA rB false)<|.br (decide (v1.faf≠v2.faf)) (.lfA rB false)<|.br (decide (v1.fai≠v2.fai)) (.lfA rB false)<|.lfA rB true:Tree Bool _) (by kernel_rfl) (by kernel_rfl) (bR (rfl)<|cF ym0 fun v4=>bR (rfl)<|cF yiq fun v7=>bR (rfl)<|cF yn5 fun v10=>bR (rfl)<|bR (rfl)<|bR (rfl)<|bR (rfl)<|bR (rfl)<|rfl) hr,rfl,rfl⟩
def yf3 (v1:Th):Option Bool:=(yfx v1 1048576).bind fun v2=>(bif decide (v2<0) then(some true) else((ybw v1).bind fun v5=>((ydo v5).bind fun v7=>((ybw v1).bind fun v9=>((ydp v9).bind fun v11=>(bif !(v11.toList == v7.toList) then(some false) else((ybw v1).bind fun v14=>((ydg v9 v14).bind fun v16=>(bif !v16 then(some false) else(some true))))))))))
def yk7 (v1:Th):Ctr:=⟨3,[v1.i],[],Bool,yf3 v1,rB⟩
theorem yl3 {v1:Th}:(yk7 v1).okF tab:=fun r hr=>⟨za7 ylf rfl (.callF (yh9 v1 1048576) fun(v2:Int)=>.br (decide (v2<0)) (.lfA rB true)<|.callF (ye5 v1) fun(v5:Th)=>.segA Tf.i v5.fj.fp<|.eraA Tf.i Tf.i v5.fj.fp<|.segA Tb.o v5.fh.fi<|.eraA Tb.o Tb.i v5.fh.fi<|.segA Ta.o v5.fe<|.eraA Ta.o Ta.i v5.fe<|.callF (yi7 v5) fun(v7:ByteArray)=>.callF (ye5 v1) fun(v9:Th)=>.segA Tf.i v9.fj.fp<|.segA Tb.o v9.fh.fi<|.segA Ta.o v9.fe<|.segA Tf.i v9.fj.fp<|.eraA Tf.i Tf.i v9.fj.fp<|.segA Tb.o v9.fh.fi<|.eraA Tb.o Tb.i v9.fh.fi<|.segA Ta.o v9.fe<|.eraA Ta.o Ta.i v9.fe<|.callF (yi6 v9) fun(v11:ByteArray)=>.br (!(v11.toList == v7.toList)) (.lfA rB false)<|.callF (ye5 v1) fun(v14:Th)=>.segA Tf.i v9.fj.fp<|.eraA Tf.i Tf.i v9.fj.fp<|.segA Tb.o v9.fh.fi<|.eraA Tb.o Tb.i v9.fh.fi<|.segA Ta.o v9.fe<|.eraA Ta.o Ta.i v9.fe<|.segA Tf.i v14.fj.fp<|.eraA Tf.i Tf.i v14.fj.fp<|.segA Tb.o v14.fh.fi<|.eraA Tb.o Tb.i v14.fh.fi<|.segA Ta.o v14.fe<|.eraA Ta.o Ta.i v14.fe<|.callF (yh8 v9 v14) fun v16=>.br (!v16) (.lfA rB false)<|.lfA rB true:Tree Bool _) (by kernel_rfl) (by kernel_rfl) (cF ymn fun v2=>bR (rfl)<|cF yh1 fun v5=>sA<|eO (fun _=>rfl)<|sA<|eO Tb.o_i<|sA<|eO Ta.o_i<|cF yka fun v7=>cF yh1 fun v9=>sA<|sA<|sA<|sA<|eO (fun _=>rfl)<|sA<|eO Tb.o_i<|sA<|eO Ta.o_i<|cF yll fun v11=>bR (rfl)<|cF yh1 fun v14=>sA<|eO (fun _=>rfl)<|sA<|eO Tb.o_i<|sA<|eO Ta.o_i<|sA<|eO (fun _=>rfl)<|sA<|eO Tb.o_i<|sA<|eO Ta.o_i<|cF ymd fun v16=>bR (rfl)<|rfl) hr,rfl,rfl⟩
end Go.Pm
namespace Go.Pm
set_option maxRecDepth 100000
set_option maxHeartbeats 400000
theorem za1 {p:PT} {ps:List PT} {vs:List V} (h:PT.hasAll (p::ps) vs):∃ v vs',vs=v::vs'/\p.has v/\PT.hasAll ps vs':=by simpa only [PT.hasAll] using h
theorem zbn {vs:List V} (h:PT.hasAll [] vs):vs=[]:=by simpa only [PT.hasAll] using h
theorem zbr:∀ {ps qs:List PT} {vs:List V},PT.hasAll (ps++qs) vs->∃ us ws,vs=us++ws/\PT.hasAll ps us/\PT.hasAll qs ws
 | [],qs,vs,h=>⟨[],vs,rfl,by simp only [PT.hasAll],h⟩
 | p::ps,qs,vs,h=>by
   obtain ⟨v,vs',rfl,h1,h2⟩:=za1 h
   obtain ⟨us,ws,rfl,h3,h4⟩:=zbr h2
   exact ⟨v::us,ws,rfl,by simp only [PT.hasAll];exact ⟨v,us,rfl,h1,h3⟩,h4⟩
theorem zaj {v:V} (h:(PT.int .i64).has v):∃ n,v=.int .i64 n/\ -9223372036854775808<=n/\n<=9223372036854775807:=by
 simp only [PT.has] at h
 obtain ⟨n,rfl,h1,h2⟩:=h
 exact ⟨n,rfl,by simpa [IntKind.min,IntKind.signed,IntKind.bits] using h1,by simpa [IntKind.max,IntKind.signed,IntKind.bits] using h2⟩
theorem zpz {v:V} (h:PT.bool.has v):∃ b,v=.bool b:=by simpa only [PT.has] using h
theorem zn8 {α:Type} {f:α->V} {Q:α->Prop}:∀ {xs:List V},(∀ x∈xs,∃ a,x=f a/\Q a)->∃ as:List α,xs=as.map f/\∀ a∈as,Q a
 | [],_=>⟨[],rfl,by simp⟩
 | x::xs,h=>by
   obtain ⟨a,rfl,ha⟩:=h x (by simp)
   obtain ⟨as,rfl,has⟩:=zn8 (f:=f) (Q:=Q) (xs:=xs) (fun y hy=>h y (by simp [hy]))
   exact ⟨a::as,rfl,by simpa using ⟨ha,has⟩⟩
theorem zd0 {α:Type} {f:α->V} {Q:α->Prop} {ag:Bool} {es:List PT} {v:V} (h:(PT.list ag es).has v) (he:∀ x:V,x.leaf= !ag->PT.hasAll es x.cells1->∃ a,x=f a/\Q a):
 ∃ as:List α,v=.imm es.length (as.map f)/\as.length<=9223372036854775807/\∀ a∈as,Q a:=by
 simp only [PT.has] at h
 obtain ⟨xs,rfl,hl,hx⟩:=h
 obtain ⟨as,rfl,ha⟩:=zn8 (f:=f) (Q:=Q) (fun x hm=>he x (hx x hm).1 (hx x hm).2)
 exact ⟨as,rfl,by simpa using hl,ha⟩
theorem zyo {p:PT} {x:V} (hx:x.leaf= !false) (h:PT.hasAll [p] x.cells1):p.has x:=by
 obtain ⟨v,vs,e,h1,h2⟩:=za1 h
 cases x <;> first|(simp only [V.cells1,List.cons.injEq] at e;rw [e.1];exact h1)|(cases hx;done)
theorem zqf {v:V} (h:(PT.list false [.int .i64]).has v):∃ as:List Int,v=.imm 1 (as.map (.int .i64))/\as.length<=9223372036854775807/\∀ a∈as,-9223372036854775808<=a/\a<=9223372036854775807:=
 zd0 h fun _ hx h=>zaj (zyo hx h)
theorem zih {v:V} (h:(PT.list false [.bool]).has v):∃ as:List Bool,v=.imm 1 (as.map .bool)/\as.length<=9223372036854775807/\∀ a∈as,True:=
 zd0 h fun _ hx h=>by obtain ⟨b,rfl⟩:=zpz (zyo hx h);exact ⟨b,rfl,trivial⟩
def zip:List PT:=.int .i64 :: .int .i64 :: .int .i64 :: .int .i64 :: .int .i64 :: .int .i64 :: .int .i64 :: []
theorem ybh {vs:List V} (g0:PT.hasAll zip vs):∃ a:Tf,a.ok/\V.agg vs=a.i:=by
 unfold zip at g0
 obtain ⟨_,_,rfl,h0,g1⟩:=za1 g0
 obtain ⟨x0,rfl,k0⟩:=zaj h0
 obtain ⟨_,_,rfl,h1,g2⟩:=za1 g1
 obtain ⟨x1,rfl,k1⟩:=zaj h1
 obtain ⟨_,_,rfl,h2,g3⟩:=za1 g2
 obtain ⟨x2,rfl,k2⟩:=zaj h2
 obtain ⟨_,_,rfl,h3,g4⟩:=za1 g3
 obtain ⟨x3,rfl,k3⟩:=zaj h3
 obtain ⟨_,_,rfl,h4,g5⟩:=za1 g4
 obtain ⟨x4,rfl,k4⟩:=zaj h4
 obtain ⟨_,_,rfl,h5,g6⟩:=za1 g5
 obtain ⟨x5,rfl,k5⟩:=zaj h5
 obtain ⟨_,_,rfl,h6,g7⟩:=za1 g6
 obtain ⟨x6,rfl,k6⟩:=zaj h6
 obtain rfl:=zbn g7
 exact ⟨⟨x0,x1,x2,x3,x4,x5,x6⟩,⟨k0,k1,k2,k3,k4,k5,k6⟩,rfl⟩
theorem zwv {x:V} (hx:x.leaf= !true) (h:PT.hasAll zip x.cells1):∃ a:Tf,x=a.i/\a.ok:=by
 obtain ⟨a,ha,e⟩:=ybh h
 cases x with
 | agg cs=>exact ⟨a,e,ha⟩
 | tup vs=>exfalso;have:=hasAll_leaf h (V.tup vs) (by simp [V.cells1]);cases this
 | _=>cases hx
theorem zwt {v:V} (h:(PT.list true zip).has v):∃ as:List Tf,v=.imm 7 (as.map Tf.i)/\as.length<=9223372036854775807/\∀ a∈as,a.ok:=zd0 h fun _ hx h=>zwv hx h
def zj1:List PT:=.int .i64 :: .int .i64 :: .list true zip :: []
theorem zw5 {vs:List V} (g0:PT.hasAll zj1 vs):∃ a:Tj,a.ok/\V.agg vs=a.i:=by
 unfold zj1 at g0
 obtain ⟨_,_,rfl,h0,g1⟩:=za1 g0
 obtain ⟨x0,rfl,k0⟩:=zaj h0
 obtain ⟨_,_,rfl,h1,g2⟩:=za1 g1
 obtain ⟨x1,rfl,k1⟩:=zaj h1
 obtain ⟨_,_,rfl,h2,g3⟩:=za1 g2
 obtain ⟨x2,rfl,j2,k2⟩:=zwt h2
 obtain rfl:=zbn g3
 exact ⟨⟨x0,x1,x2⟩,⟨k0,k1,j2,k2⟩,rfl⟩
def pt_Req:List PT:=.int .i64 :: .int .i64 :: .int .i64 :: .list false [.int .i64] :: .list false [.bool] :: .int .i64 :: []
theorem zvd {vs:List V} (g0:PT.hasAll pt_Req vs):∃ a:Tg,a.ok/\V.agg vs=a.i:=by
 unfold pt_Req at g0
 obtain ⟨_,_,rfl,h0,g1⟩:=za1 g0
 obtain ⟨x0,rfl,k0⟩:=zaj h0
 obtain ⟨_,_,rfl,h1,g2⟩:=za1 g1
 obtain ⟨x1,rfl,k1⟩:=zaj h1
 obtain ⟨_,_,rfl,h2,g3⟩:=za1 g2
 obtain ⟨x2,rfl,k2⟩:=zaj h2
 obtain ⟨_,_,rfl,h3,g4⟩:=za1 g3
 obtain ⟨x3,rfl,j3,k3⟩:=zqf h3
 obtain ⟨_,_,rfl,h4,g5⟩:=za1 g4
 obtain ⟨x4,rfl,j4,_⟩:=zih h4
 obtain ⟨_,_,rfl,h5,g6⟩:=za1 g5
 obtain ⟨x5,rfl,k5⟩:=zaj h5
 obtain rfl:=zbn g6
 exact ⟨⟨x0,x1,x2,x3,x4,x5⟩,⟨k0,k1,k2,j3,k3,j4,k5⟩,rfl⟩
def pt_Part:List PT:=.int .i64 :: .int .i64::(pt_Req ++ [])
theorem zzq {vs:List V} (g0:PT.hasAll pt_Part vs):∃ a:Td,a.ok/\V.agg vs=a.i:=by
 unfold pt_Part at g0
 obtain ⟨_,_,rfl,h0,g1⟩:=za1 g0
 obtain ⟨x0,rfl,k0⟩:=zaj h0
 obtain ⟨_,_,rfl,h1,g2⟩:=za1 g1
 obtain ⟨x1,rfl,k1⟩:=zaj h1
 obtain ⟨_,_,rfl,h2,g3⟩:=zbr g2
 obtain ⟨x2,k2,e2⟩:=zvd h2
 obtain rfl:=V.agg.inj e2
 obtain rfl:=zbn g3
 exact ⟨⟨x0,x1,x2⟩,⟨k0,k1,k2⟩,rfl⟩
theorem zx6 {x:V} (hx:x.leaf= !true) (h:PT.hasAll pt_Part x.cells1):∃ a:Td,x=a.i/\a.ok:=by
 obtain ⟨a,ha,e⟩:=zzq h
 cases x with
 | agg cs=>exact ⟨a,e,ha⟩
 | tup vs=>exfalso;have:=hasAll_leaf h (V.tup vs) (by simp [V.cells1]);cases this
 | _=>cases hx
theorem zws {v:V} (h:(PT.list true pt_Part).has v):∃ as:List Td,v=.imm 8 (as.map Td.i)/\as.length<=9223372036854775807/\∀ a∈as,a.ok:=zd0 h fun _ hx h=>zx6 hx h
def zhi:List PT:=.int .i64 :: .int .i64 :: .int .i64 :: .int .i64 :: .list false [.int .i64] :: .list false [.bool] :: []
theorem ya5 {vs:List V} (g0:PT.hasAll zhi vs):∃ a:Te,a.ok/\V.agg vs=a.i:=by
 unfold zhi at g0
 obtain ⟨_,_,rfl,h0,g1⟩:=za1 g0
 obtain ⟨x0,rfl,k0⟩:=zaj h0
 obtain ⟨_,_,rfl,h1,g2⟩:=za1 g1
 obtain ⟨x1,rfl,k1⟩:=zaj h1
 obtain ⟨_,_,rfl,h2,g3⟩:=za1 g2
 obtain ⟨x2,rfl,k2⟩:=zaj h2
 obtain ⟨_,_,rfl,h3,g4⟩:=za1 g3
 obtain ⟨x3,rfl,k3⟩:=zaj h3
 obtain ⟨_,_,rfl,h4,g5⟩:=za1 g4
 obtain ⟨x4,rfl,j4,k4⟩:=zqf h4
 obtain ⟨_,_,rfl,h5,g6⟩:=za1 g5
 obtain ⟨x5,rfl,j5,_⟩:=zih h5
 obtain rfl:=zbn g6
 exact ⟨⟨x0,x1,x2,x3,x4,x5⟩,⟨k0,k1,k2,k3,j4,k4,j5⟩,rfl⟩
theorem zxs {x:V} (hx:x.leaf= !true) (h:PT.hasAll zhi x.cells1):∃ a:Te,x=a.i/\a.ok:=by
 obtain ⟨a,ha,e⟩:=ya5 h
 cases x with
 | agg cs=>exact ⟨a,e,ha⟩
 | tup vs=>exfalso;have:=hasAll_leaf h (V.tup vs) (by simp [V.cells1]);cases this
 | _=>cases hx
theorem zwy {v:V} (h:(PT.list true zhi).has v):∃ as:List Te,v=.imm 6 (as.map Te.i)/\as.length<=9223372036854775807/\∀ a∈as,a.ok:=zd0 h fun _ hx h=>zxs hx h
def zis:List PT:=.int .i64 :: .int .i64 :: .int .i64 :: .int .i64::(pt_Req ++ .list true pt_Part :: .list false [.bool] :: .list true zhi :: [])
theorem zzn {vs:List V} (g0:PT.hasAll zis vs):∃ a:Tb,a.ok/\V.agg vs=a.i:=by
 unfold zis at g0
 obtain ⟨_,_,rfl,h0,g1⟩:=za1 g0
 obtain ⟨x0,rfl,k0⟩:=zaj h0
 obtain ⟨_,_,rfl,h1,g2⟩:=za1 g1
 obtain ⟨x1,rfl,k1⟩:=zaj h1
 obtain ⟨_,_,rfl,h2,g3⟩:=za1 g2
 obtain ⟨x2,rfl,k2⟩:=zaj h2
 obtain ⟨_,_,rfl,h3,g4⟩:=za1 g3
 obtain ⟨x3,rfl,k3⟩:=zaj h3
 obtain ⟨_,_,rfl,h4,g5⟩:=zbr g4
 obtain ⟨x4,k4,e4⟩:=zvd h4
 obtain rfl:=V.agg.inj e4
 obtain ⟨_,_,rfl,h5,g6⟩:=za1 g5
 obtain ⟨x5,rfl,j5,k5⟩:=zws h5
 obtain ⟨_,_,rfl,h6,g7⟩:=za1 g6
 obtain ⟨x6,rfl,j6,_⟩:=zih h6
 obtain ⟨_,_,rfl,h7,g8⟩:=za1 g7
 obtain ⟨x7,rfl,j7,k7⟩:=zwy h7
 obtain rfl:=zbn g8
 exact ⟨⟨x0,x1,x2,x3,x4,x5,x6,x7⟩,⟨k0,k1,k2,k3,k4,j5,k5,j6,j7,k7⟩,rfl⟩
theorem zy2 {x:V} (hx:x.leaf= !true) (h:PT.hasAll zis x.cells1):∃ a:Tb,x=a.i/\a.ok:=by
 obtain ⟨a,ha,e⟩:=zzn h
 cases x with
 | agg cs=>exact ⟨a,e,ha⟩
 | tup vs=>exfalso;have:=hasAll_leaf h (V.tup vs) (by simp [V.cells1]);cases this
 | _=>cases hx
theorem zwh {v:V} (h:(PT.list true zis).has v):∃ as:List Tb,v=.imm 13 (as.map Tb.i)/\as.length<=9223372036854775807/\∀ a∈as,a.ok:=zd0 h fun _ hx h=>zy2 hx h
def pt_Table:List PT:=.int .i64 :: .list true zis :: []
theorem zxo {vs:List V} (g0:PT.hasAll pt_Table vs):∃ a:Ti,a.ok/\V.agg vs=a.i:=by
 unfold pt_Table at g0
 obtain ⟨_,_,rfl,h0,g1⟩:=za1 g0
 obtain ⟨x0,rfl,k0⟩:=zaj h0
 obtain ⟨_,_,rfl,h1,g2⟩:=za1 g1
 obtain ⟨x1,rfl,j1,k1⟩:=zwh h1
 obtain rfl:=zbn g2
 exact ⟨⟨x0,x1⟩,⟨k0,j1,k1⟩,rfl⟩
def pt_Call:List PT:=.int .i64 :: .int .i64 :: .int .i64::(pt_Req ++ [])
theorem zun {vs:List V} (g0:PT.hasAll pt_Call vs):∃ a:Tc,a.ok/\V.agg vs=a.i:=by
 unfold pt_Call at g0
 obtain ⟨_,_,rfl,h0,g1⟩:=za1 g0
 obtain ⟨x0,rfl,k0⟩:=zaj h0
 obtain ⟨_,_,rfl,h1,g2⟩:=za1 g1
 obtain ⟨x1,rfl,k1⟩:=zaj h1
 obtain ⟨_,_,rfl,h2,g3⟩:=za1 g2
 obtain ⟨x2,rfl,k2⟩:=zaj h2
 obtain ⟨_,_,rfl,h3,g4⟩:=zbr g3
 obtain ⟨x3,k3,e3⟩:=zvd h3
 obtain rfl:=V.agg.inj e3
 obtain rfl:=zbn g4
 exact ⟨⟨x0,x1,x2,x3⟩,⟨k0,k1,k2,k3⟩,rfl⟩
theorem zxv {x:V} (hx:x.leaf= !true) (h:PT.hasAll pt_Call x.cells1):∃ a:Tc,x=a.i/\a.ok:=by
 obtain ⟨a,ha,e⟩:=zun h
 cases x with
 | agg cs=>exact ⟨a,e,ha⟩
 | tup vs=>exfalso;have:=hasAll_leaf h (V.tup vs) (by simp [V.cells1]);cases this
 | _=>cases hx
theorem zxt {v:V} (h:(PT.list true pt_Call).has v):∃ as:List Tc,v=.imm 9 (as.map Tc.i)/\as.length<=9223372036854775807/\∀ a∈as,a.ok:=zd0 h fun _ hx h=>zxv hx h
def pt_Line:List PT:=.list true pt_Call :: .bool::(pt_Call ++ .int .i64 :: .int .i64 :: .int .i64 :: .int .i64 :: .int .i64 :: .int .i64 :: [])
theorem ybd {vs:List V} (g0:PT.hasAll pt_Line vs):∃ a:Ta,a.ok/\V.agg vs=a.i:=by
 unfold pt_Line at g0
 obtain ⟨_,_,rfl,h0,g1⟩:=za1 g0
 obtain ⟨x0,rfl,j0,k0⟩:=zxt h0
 obtain ⟨_,_,rfl,h1,g2⟩:=za1 g1
 obtain ⟨x1,rfl⟩:=zpz h1
 obtain ⟨_,_,rfl,h2,g3⟩:=zbr g2
 obtain ⟨x2,k2,e2⟩:=zun h2
 obtain rfl:=V.agg.inj e2
 obtain ⟨_,_,rfl,h3,g4⟩:=za1 g3
 obtain ⟨x3,rfl,k3⟩:=zaj h3
 obtain ⟨_,_,rfl,h4,g5⟩:=za1 g4
 obtain ⟨x4,rfl,k4⟩:=zaj h4
 obtain ⟨_,_,rfl,h5,g6⟩:=za1 g5
 obtain ⟨x5,rfl,k5⟩:=zaj h5
 obtain ⟨_,_,rfl,h6,g7⟩:=za1 g6
 obtain ⟨x6,rfl,k6⟩:=zaj h6
 obtain ⟨_,_,rfl,h7,g8⟩:=za1 g7
 obtain ⟨x7,rfl,k7⟩:=zaj h7
 obtain ⟨_,_,rfl,h8,g9⟩:=za1 g8
 obtain ⟨x8,rfl,k8⟩:=zaj h8
 obtain rfl:=zbn g9
 exact ⟨⟨x0,x1,x2,x3,x4,x5,x6,x7,x8⟩,⟨j0,k0,k2,k3,k4,k5,k6,k7,k8⟩,rfl⟩
theorem zxe {x:V} (hx:x.leaf= !true) (h:PT.hasAll pt_Line x.cells1):∃ a:Ta,x=a.i/\a.ok:=by
 obtain ⟨a,ha,e⟩:=ybd h
 cases x with
 | agg cs=>exact ⟨a,e,ha⟩
 | tup vs=>exfalso;have:=hasAll_leaf h (V.tup vs) (by simp [V.cells1]);cases this
 | _=>cases hx
theorem zy7 {v:V} (h:(PT.list true pt_Line).has v):∃ as:List Ta,v=.imm 17 (as.map Ta.i)/\as.length<=9223372036854775807/\∀ a∈as,a.ok:=zd0 h fun _ hx h=>zxe hx h
def zgc:List PT:=.int .i64::(zj1++(pt_Table ++ .list true pt_Line :: .int .i64 :: .int .i64 :: .int .i64 :: .int .i64 :: []))
theorem zvv {vs:List V} (g0:PT.hasAll zgc vs):∃ a:Th,a.ok/\V.agg vs=a.i:=by
 unfold zgc at g0
 obtain ⟨_,_,rfl,h0,g1⟩:=za1 g0
 obtain ⟨x0,rfl,k0⟩:=zaj h0
 obtain ⟨_,_,rfl,h1,g2⟩:=zbr g1
 obtain ⟨x1,k1,e1⟩:=zw5 h1
 obtain rfl:=V.agg.inj e1
 obtain ⟨_,_,rfl,h2,g3⟩:=zbr g2
 obtain ⟨x2,k2,e2⟩:=zxo h2
 obtain rfl:=V.agg.inj e2
 obtain ⟨_,_,rfl,h3,g4⟩:=za1 g3
 obtain ⟨x3,rfl,j3,k3⟩:=zy7 h3
 obtain ⟨_,_,rfl,h4,g5⟩:=za1 g4
 obtain ⟨x4,rfl,k4⟩:=zaj h4
 obtain ⟨_,_,rfl,h5,g6⟩:=za1 g5
 obtain ⟨x5,rfl,k5⟩:=zaj h5
 obtain ⟨_,_,rfl,h6,g7⟩:=za1 g6
 obtain ⟨x6,rfl,k6⟩:=zaj h6
 obtain ⟨_,_,rfl,h7,g8⟩:=za1 g7
 obtain ⟨x7,rfl,k7⟩:=zaj h7
 obtain rfl:=zbn g8
 exact ⟨⟨x0,x1,x2,x3,x4,x5,x6,x7⟩,⟨k0,k1,k2,j3,k3,k4,k5,k6,k7⟩,rfl⟩
theorem zri {x:V} (hx:x.leaf= !true) (h:PT.hasAll zgc x.cells1):∃ a:Th,x=a.i/\a.ok:=by
 obtain ⟨a,ha,e⟩:=zvv h
 cases x with
 | agg cs=>exact ⟨a,e,ha⟩
 | tup vs=>exfalso;have:=hasAll_leaf h (V.tup vs) (by simp [V.cells1]);cases this
 | _=>cases hx
end Go.Pm
namespace Go.Pm
set_option maxRecDepth 100000
set_option maxHeartbeats 400000
theorem zqk (a:List Int) (h:a.length<=9223372036854775807):SzOk (yef a) (a.length):=SzOk.of (fun l=>rfl) (SzOk.len h)
theorem zq2 (a:List Int) (h:a.length<=1048576):ycm a=some a:=by
 have hl:a.length<=1048576:=h
 rw [ycm,if_pos ⟨by omega,by rw [zam];omega⟩]
 unfold zno
 rw [if_pos (by omega),zn5 (xs:=a)]
 ·rw [zvc];rfl
 ·intro d x t s he hd
  rw [zs1]
  obtain ⟨z,hz⟩:∃ z,s[d.length]? =some z:=⟨s[d.length],List.getElem?_eq_getElem hd⟩
  simp only [zam,List.length_map,Nat.sub_zero]
  rw [if_pos ⟨by omega,by omega⟩]
  simp only [hz,Option.bind_some,List.set_set,List.length_set,hd,zed]
 ·simp
theorem zqm (a:List Int) (h:a.length<=1048576):yci a a=some true:=by
 have hl:a.length<=1048576:=h
 rw [yci]
 unfold zo8
 rw [if_pos (by omega),zyu (xs:=a)]
 ·simp only [ne_eq,not_true_eq_false,decide_false,cond_false,zt6];rfl
 ·intro d x t he
  rw [zsz]
  simp only [zam,zek he,Option.bind_some,ne_eq,not_true_eq_false,decide_false,cond_false,BEq.rfl,bne_self_eq_false,Bool.true_xor,Bool.not_true]
theorem ziv (a:List Bool) (h:a.length<=9223372036854775807):SzOk (ycu a) (a.length):=SzOk.of (fun l=>rfl) (SzOk.len h)
theorem zia (a:List Bool) (h:a.length<=1048576):ybv a=some a:=by
 have hl:a.length<=1048576:=h
 rw [ybv,if_pos ⟨by omega,by rw [zam];omega⟩]
 unfold zp0
 rw [if_pos (by omega),zn5 (xs:=a)]
 ·rw [zt1];rfl
 ·intro d x t s he hd
  rw [zug]
  obtain ⟨z,hz⟩:∃ z,s[d.length]? =some z:=⟨s[d.length],List.getElem?_eq_getElem hd⟩
  simp only [zam,List.length_map,Nat.sub_zero]
  rw [if_pos ⟨by omega,by omega⟩]
  simp only [hz,Option.bind_some,List.set_set,List.length_set,hd,zed]
 ·simp
theorem zhq (a:List Bool) (h:a.length<=1048576):yby a a=some true:=by
 have hl:a.length<=1048576:=h
 rw [yby]
 unfold zpu
 rw [if_pos (by omega),zyu (xs:=a)]
 ·simp only [ne_eq,not_true_eq_false,decide_false,cond_false,zva];rfl
 ·intro d x t he
  rw [zw3]
  simp only [zam,zek he,Option.bind_some,ne_eq,not_true_eq_false,decide_false,cond_false,BEq.rfl,bne_self_eq_false,Bool.true_xor,Bool.not_true]
theorem zxm (a:Tf) (h:a.sz<=1048576):ye3 a=some a:=by rw [ye3]
theorem zx8 (a:Tf) (h:a.sz<=1048576):yd4 a a=some true:=by
 simp only [Tf.sz] at h
 rw [yd4]
 simp only [Option.bind_some,ne_eq,not_true_eq_false,decide_false,cond_false,BEq.rfl,bne_self_eq_false,Bool.true_xor,Bool.not_true]
theorem zsj (a:List Tf) (h:a.length<=9223372036854775807):SzOk (yfi a) (a.length):=SzOk.of (fun l=>rfl) (SzOk.len h)
theorem zuz (a:List Tf) (h:a.length<=1048576):ydm a=some a:=by
 have hl:a.length<=1048576:=h
 rw [ydm,if_pos ⟨by omega,by rw [zam];omega⟩]
 unfold znn
 rw [if_pos (by omega),zn5 (xs:=a)]
 ·rw [ztb];rfl
 ·intro d x t s he hd
  rw [zup]
  obtain ⟨z,hz⟩:∃ z,s[d.length]? =some z:=⟨s[d.length],List.getElem?_eq_getElem hd⟩
  simp only [zxm x (by simp [Tf.sz]),Option.bind_some,zam,List.length_map,Nat.sub_zero]
  rw [if_pos ⟨by omega,by omega⟩]
  simp only [hz,Option.bind_some,List.set_set,List.length_set,hd,zed]
 ·simp
theorem zuh (a:List Tf) (h:a.length<=1048576):ydk a a=some true:=by
 have hl:a.length<=1048576:=h
 rw [ydk]
 unfold zp6
 rw [if_pos (by omega),zyu (xs:=a)]
 ·simp only [ne_eq,not_true_eq_false,decide_false,cond_false,zvi];rfl
 ·intro d x t he
  rw [zsx]
  simp only [zam,zek he,Option.bind_some,zx8 x (by simp [Tf.sz]),ne_eq,not_true_eq_false,decide_false,cond_false,BEq.rfl,bne_self_eq_false,Bool.true_xor,Bool.not_true]
theorem zrl (a:Tj) (h:a.ok):SzOk (yfo a) (a.sz):=SzOk.of (fun l=>rfl) (SzOk.one (zsj a.fp (by exact h.2.2.1)))
theorem zrc (a:Tj) (h:a.sz<=1048576):ydu a=some a:=by
 simp only [Tj.sz] at h
 rw [ydu]
 simp only [zuz a.fp (by first|omega|(simp only [Tj.sz];omega)),Option.bind_some]
theorem zr8 (a:Tj) (h:a.sz<=1048576):ye4 a a=some true:=by
 simp only [Tj.sz] at h
 rw [ye4]
 simp only [zuh a.fp (by first|omega|(simp only [Tj.sz];omega)),Option.bind_some,ne_eq,not_true_eq_false,decide_false,cond_false,BEq.rfl,bne_self_eq_false,Bool.true_xor,Bool.not_true]
theorem znq (a:Tg) (h:a.ok):SzOk (yct a) (a.sz):=SzOk.of (fun l=>rfl) (SzOk.seq (zqk a.fc (by exact h.2.2.2.1)) (SzOk.one (ziv a.fd (by exact h.2.2.2.2.2.1))))
theorem zph (a:Tg) (h:a.sz<=1048576):ybt a=some a:=by
 simp only [Tg.sz] at h
 rw [ybt]
 simp only [zq2 a.fc (by first|omega|(simp only [Tg.sz];omega)),zia a.fd (by first|omega|(simp only [Tg.sz];omega)),Option.bind_some]
theorem zon (a:Tg) (h:a.sz<=1048576):ybs a a=some true:=by
 simp only [Tg.sz] at h
 rw [ybs]
 simp only [zqm a.fc (by first|omega|(simp only [Tg.sz];omega)),zhq a.fd (by first|omega|(simp only [Tg.sz];omega)),Option.bind_some,ne_eq,not_true_eq_false,decide_false,cond_false,BEq.rfl,bne_self_eq_false,Bool.true_xor,Bool.not_true]
theorem zwl (a:Td) (h:a.ok):SzOk (yfv a) (a.sz):=SzOk.of (fun l=>rfl) (SzOk.one (znq a.fa (by exact h.2.2)))
theorem zxj (a:Td) (h:a.sz<=1048576):yee a=some a:=by
 simp only [Td.sz] at h
 rw [yee]
 simp only [zph a.fa (by first|omega|(simp only [Td.sz];omega)),Option.bind_some]
theorem zwr (a:Td) (h:a.sz<=1048576):ye0 a a=some true:=by
 simp only [Td.sz] at h
 rw [ye0]
 simp only [zon a.fa (by first|omega|(simp only [Td.sz];omega)),Option.bind_some,ne_eq,not_true_eq_false,decide_false,cond_false,BEq.rfl,bne_self_eq_false,Bool.true_xor,Bool.not_true]
theorem zt9 (a:List Td) (h:a.length<=9223372036854775807/\∀ b∈a,b.ok):SzOk (yex a) (szL Td.sz a):=SzOk.of (fun l=>rfl) (SzOk.list h.1 (fun x hx=>zwl x (h.2 x hx)) (fun k x s=>rfl) (fun s=>rfl))
theorem zvr (a:List Td) (h:szL Td.sz a<=1048576):ydz a=some a:=by
 have hl:a.length<=1048576:=by have:=zce (f:=Td.sz) (xs:=a);omega
 rw [ydz,if_pos ⟨by omega,by rw [zam];omega⟩]
 unfold znr
 rw [if_pos (by omega),zn5 (xs:=a)]
 ·rw [zsa];rfl
 ·intro d x t s he hd
  rw [zw6]
  obtain ⟨z,hz⟩:∃ z,s[d.length]? =some z:=⟨s[d.length],List.getElem?_eq_getElem hd⟩
  simp only [zxj x (by have:=zcy (f:=Td.sz) (he ▸ (by simp:x∈d++x::t));omega),Option.bind_some,zam,List.length_map,Nat.sub_zero]
  rw [if_pos ⟨by omega,by omega⟩]
  simp only [hz,Option.bind_some,List.set_set,List.length_set,hd,zed]
 ·simp
theorem zst (a:List Td) (h:szL Td.sz a<=1048576):yeb a a=some true:=by
 have hl:a.length<=1048576:=by have:=zce (f:=Td.sz) (xs:=a);omega
 rw [yeb]
 unfold zpf
 rw [if_pos (by omega),zyu (xs:=a)]
 ·simp only [ne_eq,not_true_eq_false,decide_false,cond_false,zuy];rfl
 ·intro d x t he
  rw [ztx]
  simp only [zam,zek he,Option.bind_some,zwr x (by have:=zcy (f:=Td.sz) (he ▸ (by simp:x∈d++x::t));omega),ne_eq,not_true_eq_false,decide_false,cond_false,BEq.rfl,bne_self_eq_false,Bool.true_xor,Bool.not_true]
theorem zxl (a:Te) (h:a.ok):SzOk (yfg a) (a.sz):=SzOk.of (fun l=>rfl) (SzOk.seq (zqk a.fc (by exact h.2.2.2.2.1)) (SzOk.one (ziv a.fd (by exact h.2.2.2.2.2.2))))
theorem zwz (a:Te) (h:a.sz<=1048576):ydf a=some a:=by
 simp only [Te.sz] at h
 rw [ydf]
 simp only [zq2 a.fc (by first|omega|(simp only [Te.sz];omega)),zia a.fd (by first|omega|(simp only [Te.sz];omega)),Option.bind_some]
theorem zya (a:Te) (h:a.sz<=1048576):yds a a=some true:=by
 simp only [Te.sz] at h
 rw [yds]
 simp only [zqm a.fc (by first|omega|(simp only [Te.sz];omega)),zhq a.fd (by first|omega|(simp only [Te.sz];omega)),Option.bind_some,ne_eq,not_true_eq_false,decide_false,cond_false,BEq.rfl,bne_self_eq_false,Bool.true_xor,Bool.not_true]
theorem zuf (a:List Te) (h:a.length<=9223372036854775807/\∀ b∈a,b.ok):SzOk (yf6 a) (szL Te.sz a):=SzOk.of (fun l=>rfl) (SzOk.list h.1 (fun x hx=>zxl x (h.2 x hx)) (fun k x s=>rfl) (fun s=>rfl))
theorem zv2 (a:List Te) (h:szL Te.sz a<=1048576):yed a=some a:=by
 have hl:a.length<=1048576:=by have:=zce (f:=Te.sz) (xs:=a);omega
 rw [yed,if_pos ⟨by omega,by rw [zam];omega⟩]
 unfold znh
 rw [if_pos (by omega),zn5 (xs:=a)]
 ·rw [zv1];rfl
 ·intro d x t s he hd
  rw [zt8]
  obtain ⟨z,hz⟩:∃ z,s[d.length]? =some z:=⟨s[d.length],List.getElem?_eq_getElem hd⟩
  simp only [zwz x (by have:=zcy (f:=Te.sz) (he ▸ (by simp:x∈d++x::t));omega),Option.bind_some,zam,List.length_map,Nat.sub_zero]
  rw [if_pos ⟨by omega,by omega⟩]
  simp only [hz,Option.bind_some,List.set_set,List.length_set,hd,zed]
 ·simp
theorem zv4 (a:List Te) (h:szL Te.sz a<=1048576):yda a a=some true:=by
 have hl:a.length<=1048576:=by have:=zce (f:=Te.sz) (xs:=a);omega
 rw [yda]
 unfold zoh
 rw [if_pos (by omega),zyu (xs:=a)]
 ·simp only [ne_eq,not_true_eq_false,decide_false,cond_false,zs0];rfl
 ·intro d x t he
  rw [zw7]
  simp only [zam,zek he,Option.bind_some,zya x (by have:=zcy (f:=Te.sz) (he ▸ (by simp:x∈d++x::t));omega),ne_eq,not_true_eq_false,decide_false,cond_false,BEq.rfl,bne_self_eq_false,Bool.true_xor,Bool.not_true]
theorem zye (a:Tb) (h:a.ok):SzOk (yf2 a) (a.sz):=SzOk.of (fun l=>rfl) (SzOk.seq (znq a.fa (by exact h.2.2.2.2.1)) (SzOk.seq (zt9 a.fac (by exact ⟨h.2.2.2.2.2.1,h.2.2.2.2.2.2.1⟩)) (SzOk.seq (ziv a.fag (by exact h.2.2.2.2.2.2.2.1)) (SzOk.one (zuf a.fad (by exact ⟨h.2.2.2.2.2.2.2.2.1,h.2.2.2.2.2.2.2.2.2⟩))))))
theorem zyc (a:Tb) (h:a.sz<=1048576):ydv a=some a:=by
 simp only [Tb.sz] at h
 rw [ydv]
 simp only [zph a.fa (by first|omega|(simp only [Tb.sz];omega)),zvr a.fac (by first|omega|(simp only [Tb.sz];omega)),zia a.fag (by first|omega|(simp only [Tb.sz];omega)),zv2 a.fad (by first|omega|(simp only [Tb.sz];omega)),Option.bind_some]
theorem zxp (a:Tb) (h:a.sz<=1048576):yea a a=some true:=by
 simp only [Tb.sz] at h
 rw [yea]
 simp only [zon a.fa (by first|omega|(simp only [Tb.sz];omega)),zst a.fac (by first|omega|(simp only [Tb.sz];omega)),zhq a.fag (by first|omega|(simp only [Tb.sz];omega)),zv4 a.fad (by first|omega|(simp only [Tb.sz];omega)),Option.bind_some,ne_eq,not_true_eq_false,decide_false,cond_false,BEq.rfl,bne_self_eq_false,Bool.true_xor,Bool.not_true]
theorem zsw (a:List Tb) (h:a.length<=9223372036854775807/\∀ b∈a,b.ok):SzOk (yet a) (szL Tb.sz a):=SzOk.of (fun l=>rfl) (SzOk.list h.1 (fun x hx=>zye x (h.2 x hx)) (fun k x s=>rfl) (fun s=>rfl))
theorem zv3 (a:List Tb) (h:szL Tb.sz a<=1048576):ye1 a=some a:=by
 have hl:a.length<=1048576:=by have:=zce (f:=Tb.sz) (xs:=a);omega
 rw [ye1,if_pos ⟨by omega,by rw [zam];omega⟩]
 unfold zng
 rw [if_pos (by omega),zn5 (xs:=a)]
 ·rw [zvx];rfl
 ·intro d x t s he hd
  rw [zu6]
  obtain ⟨z,hz⟩:∃ z,s[d.length]? =some z:=⟨s[d.length],List.getElem?_eq_getElem hd⟩
  simp only [zyc x (by have:=zcy (f:=Tb.sz) (he ▸ (by simp:x∈d++x::t));omega),Option.bind_some,zam,List.length_map,Nat.sub_zero]
  rw [if_pos ⟨by omega,by omega⟩]
  simp only [hz,Option.bind_some,List.set_set,List.length_set,hd,zed]
 ·simp
theorem zsr (a:List Tb) (h:szL Tb.sz a<=1048576):ydb a a=some true:=by
 have hl:a.length<=1048576:=by have:=zce (f:=Tb.sz) (xs:=a);omega
 rw [ydb]
 unfold zox
 rw [if_pos (by omega),zyu (xs:=a)]
 ·simp only [ne_eq,not_true_eq_false,decide_false,cond_false,ztl];rfl
 ·intro d x t he
  rw [zsm]
  simp only [zam,zek he,Option.bind_some,zxp x (by have:=zcy (f:=Tb.sz) (he ▸ (by simp:x∈d++x::t));omega),ne_eq,not_true_eq_false,decide_false,cond_false,BEq.rfl,bne_self_eq_false,Bool.true_xor,Bool.not_true]
theorem zs5 (a:Ti) (h:a.ok):SzOk (ygz a) (a.sz):=SzOk.of (fun l=>rfl) (SzOk.one (zsw a.fi (by exact ⟨h.2.1,h.2.2⟩)))
theorem zts (a:Ti) (h:a.sz<=1048576):yd7 a=some a:=by
 simp only [Ti.sz] at h
 rw [yd7]
 simp only [zv3 a.fi (by first|omega|(simp only [Ti.sz];omega)),Option.bind_some]
theorem zv6 (a:Ti) (h:a.sz<=1048576):yd0 a a=some true:=by
 simp only [Ti.sz] at h
 rw [yd0]
 simp only [zsr a.fi (by first|omega|(simp only [Ti.sz];omega)),Option.bind_some,ne_eq,not_true_eq_false,decide_false,cond_false,BEq.rfl,bne_self_eq_false,Bool.true_xor,Bool.not_true]
theorem zqd (a:Tc) (h:a.ok):SzOk (yd5 a) (a.sz):=SzOk.of (fun l=>rfl) (SzOk.one (znq a.fa (by exact h.2.2.2)))
theorem zqx (a:Tc) (h:a.sz<=1048576):yc9 a=some a:=by
 simp only [Tc.sz] at h
 rw [yc9]
 simp only [zph a.fa (by first|omega|(simp only [Tc.sz];omega)),Option.bind_some]
theorem zpx (a:Tc) (h:a.sz<=1048576):ycy a a=some true:=by
 simp only [Tc.sz] at h
 rw [ycy]
 simp only [zon a.fa (by first|omega|(simp only [Tc.sz];omega)),Option.bind_some,ne_eq,not_true_eq_false,decide_false,cond_false,BEq.rfl,bne_self_eq_false,Bool.true_xor,Bool.not_true]
theorem zv0 (a:List Tc) (h:a.length<=9223372036854775807/\∀ b∈a,b.ok):SzOk (yfj a) (szL Tc.sz a):=SzOk.of (fun l=>rfl) (SzOk.list h.1 (fun x hx=>zqd x (h.2 x hx)) (fun k x s=>rfl) (fun s=>rfl))
theorem zsg (a:List Tc) (h:szL Tc.sz a<=1048576):ydd a=some a:=by
 have hl:a.length<=1048576:=by have:=zce (f:=Tc.sz) (xs:=a);omega
 rw [ydd,if_pos ⟨by omega,by rw [zam];omega⟩]
 unfold znw
 rw [if_pos (by omega),zn5 (xs:=a)]
 ·rw [ztg];rfl
 ·intro d x t s he hd
  rw [zv8]
  obtain ⟨z,hz⟩:∃ z,s[d.length]? =some z:=⟨s[d.length],List.getElem?_eq_getElem hd⟩
  simp only [zqx x (by have:=zcy (f:=Tc.sz) (he ▸ (by simp:x∈d++x::t));omega),Option.bind_some,zam,List.length_map,Nat.sub_zero]
  rw [if_pos ⟨by omega,by omega⟩]
  simp only [hz,Option.bind_some,List.set_set,List.length_set,hd,zed]
 ·simp
theorem zsd (a:List Tc) (h:szL Tc.sz a<=1048576):yd8 a a=some true:=by
 have hl:a.length<=1048576:=by have:=zce (f:=Tc.sz) (xs:=a);omega
 rw [yd8]
 unfold zp4
 rw [if_pos (by omega),zyu (xs:=a)]
 ·simp only [ne_eq,not_true_eq_false,decide_false,cond_false,zuw];rfl
 ·intro d x t he
  rw [zs8]
  simp only [zam,zek he,Option.bind_some,zpx x (by have:=zcy (f:=Tc.sz) (he ▸ (by simp:x∈d++x::t));omega),ne_eq,not_true_eq_false,decide_false,cond_false,BEq.rfl,bne_self_eq_false,Bool.true_xor,Bool.not_true]
theorem zyb (a:Ta) (h:a.ok):SzOk (ygg a) (a.sz):=SzOk.of (fun l=>rfl) (SzOk.seq (zv0 a.ff (by exact ⟨h.1,h.2.1⟩)) (SzOk.one (zqd a.fb (by exact h.2.2.1))))
theorem zx5 (a:Ta) (h:a.sz<=1048576):ydt a=some a:=by
 simp only [Ta.sz] at h
 rw [ydt]
 simp only [zsg a.ff (by first|omega|(simp only [Ta.sz];omega)),zqx a.fb (by first|omega|(simp only [Ta.sz];omega)),Option.bind_some]
theorem zxh (a:Ta) (h:a.sz<=1048576):yec a a=some true:=by
 simp only [Ta.sz] at h
 rw [yec]
 simp only [zsd a.ff (by first|omega|(simp only [Ta.sz];omega)),zpx a.fb (by first|omega|(simp only [Ta.sz];omega)),Option.bind_some,ne_eq,not_true_eq_false,decide_false,cond_false,BEq.rfl,bne_self_eq_false,Bool.true_xor,Bool.not_true]
theorem zsk (a:List Ta) (h:a.length<=9223372036854775807/\∀ b∈a,b.ok):SzOk (yge a) (szL Ta.sz a):=SzOk.of (fun l=>rfl) (SzOk.list h.1 (fun x hx=>zyb x (h.2 x hx)) (fun k x s=>rfl) (fun s=>rfl))
theorem ztd (a:List Ta) (h:szL Ta.sz a<=1048576):ydh a=some a:=by
 have hl:a.length<=1048576:=by have:=zce (f:=Ta.sz) (xs:=a);omega
 rw [ydh,if_pos ⟨by omega,by rw [zam];omega⟩]
 unfold znf
 rw [if_pos (by omega),zn5 (xs:=a)]
 ·rw [zvt];rfl
 ·intro d x t s he hd
  rw [zu8]
  obtain ⟨z,hz⟩:∃ z,s[d.length]? =some z:=⟨s[d.length],List.getElem?_eq_getElem hd⟩
  simp only [zx5 x (by have:=zcy (f:=Ta.sz) (he ▸ (by simp:x∈d++x::t));omega),Option.bind_some,zam,List.length_map,Nat.sub_zero]
  rw [if_pos ⟨by omega,by omega⟩]
  simp only [hz,Option.bind_some,List.set_set,List.length_set,hd,zed]
 ·simp
theorem zvy (a:List Ta) (h:szL Ta.sz a<=1048576):ye8 a a=some true:=by
 have hl:a.length<=1048576:=by have:=zce (f:=Ta.sz) (xs:=a);omega
 rw [ye8]
 unfold znt
 rw [if_pos (by omega),zyu (xs:=a)]
 ·simp only [ne_eq,not_true_eq_false,decide_false,cond_false,zue];rfl
 ·intro d x t he
  rw [zss]
  simp only [zam,zek he,Option.bind_some,zxh x (by have:=zcy (f:=Ta.sz) (he ▸ (by simp:x∈d++x::t));omega),ne_eq,not_true_eq_false,decide_false,cond_false,BEq.rfl,bne_self_eq_false,Bool.true_xor,Bool.not_true]
theorem zrk (a:Th) (h:a.ok):SzOk (yfx a) (a.sz):=SzOk.of (fun l=>rfl) (SzOk.seq (zrl a.fj (by exact h.2.1)) (SzOk.seq (zs5 a.fh (by exact h.2.2.1)) (SzOk.one (zsk a.fe (by exact ⟨h.2.2.2.1,h.2.2.2.2.1⟩)))))
theorem zr0 (a:Th) (h:a.sz<=1048576):ybw a=some a:=by
 simp only [Th.sz] at h
 rw [ybw]
 simp only [zrc a.fj (by first|omega|(simp only [Th.sz];omega)),zts a.fh (by first|omega|(simp only [Th.sz];omega)),ztd a.fe (by first|omega|(simp only [Th.sz];omega)),Option.bind_some]
theorem zr9 (a:Th) (h:a.sz<=1048576):ydg a a=some true:=by
 simp only [Th.sz] at h
 rw [ydg]
 simp only [zr8 a.fj (by first|omega|(simp only [Th.sz];omega)),zv6 a.fh (by first|omega|(simp only [Th.sz];omega)),zvy a.fe (by first|omega|(simp only [Th.sz];omega)),Option.bind_some,ne_eq,not_true_eq_false,decide_false,cond_false,BEq.rfl,bne_self_eq_false,Bool.true_xor,Bool.not_true]
end Go.Pm
namespace Go.Pm
def bs (l:List UInt8):ByteArray:=⟨l.toArray⟩
theorem zn2 (l:List UInt8):(⟨l.toArray⟩:ByteArray)=bs l:=rfl
theorem zgq (a b:List UInt8):bs a++bs b=bs (a++b):=zid a b
theorem zer (a:List UInt8):(bs a).size=a.length:=zdm a
theorem zc0 (n:Int) (h0: -9223372036854775808<=n) (h1:n<=9223372036854775807):(Lib.itoa n).length<=21:=Lib.itoa_length_le n h0 h1
theorem zn9 (n:Int) (h0: -9223372036854775808<=n) (h1:n<=9223372036854775807):zyw n=some (bs (Lib.itoa n)):=by
 unfold zyw;rw [if_pos ⟨h0,h1⟩];rfl
theorem zkd (n:Int) (h0: -9223372036854775808<=n) (h1:n<=9223372036854775807):zrs n=some (bs (Lib.itoa n)):=by
 unfold zrs
 by_cases h:n= -9223372036854775808
 ·subst h
  have e:Lib.itoa (-9223372036854775808)=[45,57,50,50,51,51,55,50,48,51,54,56,53,52,55,55,53,56,48,56]:=by
   simp [Lib.itoa,Lib.decDigits]
  rw [e];rfl
 ·simp only [h,decide_false,cond_false]
  unfold yen
  rw [if_pos ⟨by omega,h1⟩];rfl
def zor (k:Int) (x:Ta):List UInt8:=[112,111,114,116,32]++Lib.itoa k ++ [32,98,117,115,121,32]++(bif x.faa then [49] else [48]) ++ [32,119,97,105,116,105,110,103,32]++Lib.itoa ((x.ff.length:Nat):Int)
def zh2 (x:Ta):Bool:=x.faa||decide (0<((x.ff.length:Nat):Int))
def zd4:Int->List Ta->List (List UInt8)
 | _,[]=>[]
 | k,x::t=>(bif zh2 x then [zor k x] else [])++zd4 (k+1) t
def zdx (ls:List (List UInt8)):List UInt8:=ls.flatMap (· ++ [10])
theorem zxd (a b:List (List UInt8)):zdx (a++b)=zdx a++zdx b:=by simp [zdx]
theorem zqt (k:Int) (x:Ta) (hk:0<=k) (hk':k<=1048576) (hq:x.ff.length<=1048576):(zor k x).length<=100:=by
 have h1:=zc0 k (by omega) (by omega)
 have h2:=zc0 ((x.ff.length:Nat):Int) (by omega) (by omega)
 unfold zor
 cases x.faa <;> simp <;> omega
theorem zw1 (v1:Th) (k:Int) (x:Ta) (t:List UInt8) (hk:0<=k) (hk':k<=1048576) (hq:x.ff.length<=1048576) (ht:t.length<=1000000000000):
 zl7 v1 k x (bs t)=some (.inl (bs (t++zdx (bif zh2 x then [zor k x] else [])))):=by
 have h1:=zc0 k (by omega) (by omega)
 have h2:=zc0 ((x.ff.length:Nat):Int) (by omega) (by omega)
 unfold zl7 ydr zh2 zor
 cases x.faa
 ·cases hd:decide (0<((x.ff.length:Nat):Int))
  ·simp [zdx]
  ·simp (disch:=(simp only [List.length_append,List.length_cons,List.length_nil];omega)) only [cond_false,cond_true,zn2,zn9 k (by omega) (by omega),zn9 ((x.ff.length:Nat):Int) (by omega) (by omega),Option.bind_some,zgq,zer,if_pos,Bool.or_true]
   simp [zdx]
 ·simp (disch:=(simp only [List.length_append,List.length_cons,List.length_nil];omega)) only [cond_false,cond_true,zn2,zn9 k (by omega) (by omega),zn9 ((x.ff.length:Nat):Int) (by omega) (by omega),Option.bind_some,zgq,zer,if_pos,Bool.true_or]
  simp [zdx]
theorem zmg (v1:Th):∀ (l:List Ta) (k:Int) (t:List UInt8),0<=k->k+l.length<=1048576->(∀ x∈l,x.ff.length<=1048576)->t.length+101 * l.length<=1000000000000->zb4 (zl7 v1) (zo2 v1) l k (bs t)=some (bs (t++zdx (zd4 k l)))
 | [],k,t,_,_,_,_=>by simp [zb4,zo2,zd4,zdx]
 | x::l,k,t,h0,h1,hq,ht=>by
   simp only [List.length_cons] at h1 ht
   have hp:=zqt k x h0 (by omega) (hq x (by simp))
   rw [zb4,zw1 v1 k x t h0 (by omega) (hq x (by simp)) (by omega)]
   simp only [Option.bind_some]
   rw [zmg v1 l (k+1) _ (by omega) (by omega) (fun y hy=>hq y (by simp [hy])) (by
    cases zh2 x
    ·simp [zdx];omega
    ·simp [zdx];omega)]
   simp only [zd4,zxd,List.append_assoc]
theorem zth (v1:Th) (k:Int) (x:Ta) (s:List (List UInt8)) (hk:0<=k) (hk':k<=1048576) (hq:x.ff.length<=1048576) (hs:s.length<=2097152):
 zkp v1 k x (s.map bs)=some (.inl ((s++(bif zh2 x then [zor k x] else [])).map bs)):=by
 have h1:=zc0 k (by omega) (by omega)
 have h2:=zc0 ((x.ff.length:Nat):Int) (by omega) (by omega)
 unfold zkp zh2 zor
 cases x.faa
 ·cases hd:decide (0<((x.ff.length:Nat):Int))
  ·simp
  ·simp (disch:=(simp only [List.length_append,List.length_cons,List.length_nil,List.length_map];omega)) only [cond_false,cond_true,zn2,zkd k (by omega) (by omega),zkd ((x.ff.length:Nat):Int) (by omega) (by omega),Option.bind_some,zgq,zer,if_pos,Bool.or_true]
   simp
 ·simp (disch:=(simp only [List.length_append,List.length_cons,List.length_nil,List.length_map];omega)) only [cond_false,cond_true,zn2,zkd k (by omega) (by omega),zkd ((x.ff.length:Nat):Int) (by omega) (by omega),Option.bind_some,zgq,zer,if_pos,Bool.true_or]
  simp
theorem zmw (v1:Th):∀ (l:List Ta) (k:Int) (s:List (List UInt8)),0<=k->k+l.length<=1048576->(∀ x∈l,x.ff.length<=1048576)->s.length+l.length<=2097152->zb4 (zkp v1) (zpo v1) l k (s.map bs)=some ((s++zd4 k l).map bs)
 | [],k,s,_,_,_,_=>by simp [zb4,zpo,zd4]
 | x::l,k,s,h0,h1,hq,ht=>by
   simp only [List.length_cons] at h1 ht
   rw [zb4,zth v1 k x s h0 (by omega) (hq x (by simp)) (by omega)]
   simp only [Option.bind_some]
   rw [zmw v1 l (k+1) _ (by omega) (by omega) (fun y hy=>hq y (by simp [hy])) (by
    cases zh2 x
    ·simp;omega
    ·simp;omega)]
   simp only [zd4,List.append_assoc]
theorem zqn (v1:Th) (v2:List ByteArray):∀ (l:List (List UInt8)) (k:Int) (t:List UInt8),0<=k->k+l.length=v2.length->(∀ x∈l,x.length<=200)->t.length+201 * l.length<=1000000000000->zb4 (zk8 v1 v2) (zoz v1 v2) (l.map bs) k (bs t)=some (bs (t++zdx l))
 | [],k,t,_,_,_,_=>by simp [zb4,zoz,zdx]
 | x::l,k,t,h0,h1,hq,ht=>by
   simp only [List.length_cons] at h1 ht
   have hx:=hq x (by simp)
   have hb:zk8 v1 v2 k (bs x) (bs t)=some (.inl (bs (t++x ++ [10]))):=by
    unfold zk8
    rw [if_pos ⟨h0,by simp only [List.length_map];omega⟩]
    simp only [zn2,zgq,zer]
    rw [if_pos (by omega),if_pos (by simp only [List.length_append,List.length_cons,List.length_nil];omega)]
   rw [List.map_cons,zb4,hb]
   simp only [Option.bind_some]
   rw [zqn v1 v2 l (k+1) (t++x ++ [10]) (by omega) (by omega) (fun y hy=>hq y (by simp [hy])) (by simp;omega)]
   simp [zdx]
def zl3 (f:Th):List (List UInt8):=[[97,115,107,101,100,32]++Lib.itoa f.fae,[114,101,112,108,105,101,100,32]++Lib.itoa f.fah,[102,97,117,108,116,115,32]++Lib.itoa f.faf,[115,101,110,116,32]++Lib.itoa f.fai,[111,112,101,110,32]++Lib.itoa ((f.fh.fi.length:Nat):Int)]
def yfm (f:Th):List UInt8:=zdx (zl3 f++zd4 0 f.fe)
theorem ziq (w:List UInt8) (n:Int) (hw:w.length<=100) (h0: -9223372036854775808<=n) (h1:n<=9223372036854775807):zyf (bs w) n=some (bs (w ++ [32]++Lib.itoa n ++ [10])):=by
 have h2:=zc0 n h0 h1
 unfold zyf
 simp (disch:=(simp only [List.length_append,List.length_cons,List.length_nil];omega)) only [zn2,zn9 n h0 h1,Option.bind_some,zgq,zer,if_pos]
theorem zmd:∀ (l:List Ta) (k:Int),0<=k->k+l.length<=1048576->(∀ x∈l,x.ff.length<=1048576)->(zd4 k l).length<=l.length/\∀ p∈zd4 k l,p.length<=100
 | [],k,_,_,_=>by simp [zd4]
 | x::l,k,h0,h1,hq=>by
   simp only [List.length_cons] at h1 ⊢
   obtain ⟨i1,i2⟩:=zmd l (k+1) (by omega) (by omega) (fun y hy=>hq y (by simp [hy]))
   have hp:=zqt k x h0 (by omega) (hq x (by simp))
   unfold zd4
   cases zh2 x
   ·exact ⟨by simp;omega,by simpa using i2⟩
   ·refine ⟨by simp;omega,fun p hp'=> ?_⟩
    simp only [cond_true,List.cons_append,List.nil_append,List.mem_cons] at hp'
    rcases hp' with rfl|hp'
    ·exact hp
    ·exact i2 p hp'
theorem yce (f:Th) (hs:f.sz<=1048576) (hok:f.ok):ydp f=some (bs (yfm f))/\ydo f=some (bs (yfm f)):=by
 have hll:=zce (f:=Ta.sz) (xs:=f.fe)
 have hoo:=zce (f:=Tb.sz) (xs:=f.fh.fi)
 simp only [Th.ok] at hok
 obtain ⟨_,_,_,_,_,⟨a1,a2⟩,⟨b1,b2⟩,⟨c1,c2⟩,d1,d2⟩:=hok
 have hsz:=hs
 simp only [Th.sz,Ti.sz] at hsz
 have hq:∀ x∈f.fe,x.ff.length<=1048576:=fun x hx=>by
  have h1:=zcy (f:=Ta.sz) hx
  have h2:=zce (f:=Tc.sz) (xs:=x.ff)
  simp only [Ta.sz] at h1
  omega
 have l1:=zc0 f.fae a1 a2
 have l2:=zc0 f.fah b1 b2
 have l3:=zc0 f.faf c1 c2
 have l4:=zc0 f.fai d1 d2
 have l5:=zc0 ((f.fh.fi.length:Nat):Int) (by omega) (by omega)
 obtain ⟨p1,p2⟩:=zmd f.fe 0 (by omega) (by omega) hq
 constructor
 ·have hl:=fun t ht=>zmg f f.fe 0 t (by omega) (by omega) hq ht
  have hx:∀ t,t.length+101 * f.fe.length<=1000000000000->zkq f (bs t)=some (bs (t++zdx (zd4 0 f.fe))):=fun t ht=>by
   unfold zkq
   rw [if_pos (by omega),hl t ht]
  unfold ydp
  simp only [zn2]
  rw [ziq _ f.fae (by simp) a1 a2,ziq _ f.fah (by simp) b1 b2,ziq _ f.faf (by simp) c1 c2,ziq _ f.fai (by simp) d1 d2,ziq _ ((f.fh.fi.length:Nat):Int) (by simp) (by omega) (by omega)]
  simp (disch:=(simp only [List.length_append,List.length_cons,List.length_nil];omega)) only [zgq,zer,if_pos,Option.bind_some,hx]
  simp [yfm,zl3,zdx]
 ·unfold ydo yfd
  simp (disch:=(simp only [List.length_append,List.length_cons,List.length_nil];omega)) only [zn2,zkd _ a1 a2,zkd _ b1 b2,zkd _ c1 c2,zkd _ d1 d2,zkd ((f.fh.fi.length:Nat):Int) (by omega) (by omega),zgq,zer,if_pos,Option.bind_some]
  have e0:zkm f ((zl3 f).map bs)=some ((zl3 f++zd4 0 f.fe).map bs):=by
   unfold zkm
   rw [if_pos (by omega),zmw f f.fe 0 (zl3 f) (by omega) (by omega) hq (by simp [zl3];omega)]
  have e1:∀ ls:List (List UInt8),ls.length<=2097152->(∀ p∈ls,p.length<=200)->zm2 f (ls.map bs) ByteArray.empty=some (bs (zdx ls)):=fun ls h1 h2=>by
   unfold zm2
   have e:ByteArray.empty=bs []:=rfl
   rw [if_pos (by simp;omega),e,zqn f (ls.map bs) ls 0 [] (by omega) (by simp) h2 (by simp;omega)]
   rfl
  have eh:(zl3 f).map bs=[bs ([97,115,107,101,100,32]++Lib.itoa f.fae),bs ([114,101,112,108,105,101,100,32]++Lib.itoa f.fah),bs ([102,97,117,108,116,115,32]++Lib.itoa f.faf),bs ([115,101,110,116,32]++Lib.itoa f.fai),bs ([111,112,101,110,32]++Lib.itoa ((f.fh.fi.length:Nat):Int))]:=rfl
  rw [<- eh,e0]
  simp only [Option.bind_some]
  rw [e1 _ (by simp [zl3];omega) (fun p hp=>by
   rcases List.mem_append.1 hp with h|h
   ·simp only [zl3,List.mem_cons,List.not_mem_nil,or_false] at h
    rcases h with rfl|rfl|rfl|rfl|rfl <;> (simp only [List.length_append,List.length_cons,List.length_nil];omega)
   ·have:=p2 p h;omega)]
  rfl
theorem zfz (a:Th) (h:a.ok):yf3 a=some true:=by
 rw [yf3]
 obtain ⟨h1,h2⟩:=zrk a h 1048576 (by omega) (by omega)
 by_cases hs:a.sz<=1048576
 ·rw [h1 (by omega)]
  have hd:decide ((1048576:Int) - (a.sz:Int)<0)=false:=by simp;omega
  obtain ⟨e1,e2⟩:=yce a hs h
  simp only [Option.bind_some,hd,cond_false,zr0 a hs,e1,e2,zr9 a hs,BEq.rfl,Bool.not_true]
 ·obtain ⟨r,hr,h0⟩:=h2 (by omega)
  rw [hr]
  have hd:decide (r<0)=true:=by simp;exact h0
  simp only [Option.bind_some,hd,cond_true]
end Go.Pm
