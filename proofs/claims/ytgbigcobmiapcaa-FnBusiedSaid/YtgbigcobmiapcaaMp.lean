/- Proved: the law FnBusied answers true at all arguments, for every operating system that has started; no conditions beyond the row's own. -/
import Derived.Test.YtgbigcobmiapcaaMo
set_option linter.unusedVariables false
set_option linter.unusedSimpArgs false
namespace Go.Pm
open IntKind (i64)
set_option maxRecDepth 100000
set_option maxHeartbeats 400000
def zof (v4:Ti) (v8:List Te×Int) (v11:Bool×Tg) (v18:Tm×Int×Bool) (s:List Ta):Option ((List Ta)):=if v8.1.length<=9223372036854775806 then zab (zqq v4 v8 v11 v18) (zwl v4 v8 v11 v18) v8.1 0 s else none
def ybt (v4:Ti) (v8:List Te×Int) (v11:Bool×Tg) (v18:Tm×Int×Bool) (s:List Ta):Lct:=⟨20,yek,3,[1,2,3,4,5,6,8,9,11,12,13,14,15,19],some (zsv v4 v8 v11 v18 0 s),List Ta,zof v4 v8 v11 v18 s,zlv v4 v8 v11 v18⟩
theorem yi1 {v4:Ti} {v8:List Te×Int} {v11:Bool×Tg} {v18:Tm×Int×Bool} {s:List Ta}:(ybt v4 v8 v11 v18 s).ok tab:=zbw (list_oky (J:=zsv v4 v8 v11 v18) (o:=(zlv v4 v8 v11 v18)) v8.1 (B:=fun k x s=>(.kb (decide (k<(v8.1.length:Int))) true<|.kx Te.i v8.1 k x<|.guard (0<=x.fae/\(x.fae:Int)<(((s.map Ta.o).length - 0:Nat):Int)) inferInstance<|.lookB Ta.o s (x.fae.toNat) fun v41=>.callF (yc0 x.fa) fun(v43:Ti)=>.segA (V.int .i64) v43.fg<|.segA V.bool v43.fe<|.eqL [.agg [.int .i64 v18.2.1,.int .i64 k,.int .i64 x.fp,.int .i64 v43.ff,.int .i64 v43.fd,.int .i64 v43.fN,.own 1 (v43.fg.map (V.int .i64)),.own 1 (v43.fe.map V.bool),.int .i64 v43.fj]] (([(⟨v18.2.1,k,x.fp,v43⟩:Td)]:List Td).map Td.o)<|.segA (V.int .i64) v43.fg<|.segA V.bool v43.fe<|.eqL [.agg [.int .i64 v18.2.1,.int .i64 k,.int .i64 x.fp,.int .i64 v43.ff,.int .i64 v43.fd,.int .i64 v43.fN,.own 1 (v43.fg.map (V.int .i64)),.own 1 (v43.fe.map V.bool),.int .i64 v43.fj]] (([(⟨v18.2.1,k,x.fp,v43⟩:Td)]:List Td).map Td.o)<|.oq (.hd 9 (.box 0) 0 [(0+x.fae.toNat,17,6)] 0 (v41.fh.map Td.o).length)<|.lkY Ta.o s (x.fae.toNat) v41<|.oq (.hd 9 (.box 0) 0 [(0+x.fae.toNat,17,6)] 0 (v41.fh.map Td.o).length)<|.oq (.ref (.box 0) 0 [(0+x.fae.toNat,17,6)])<|.oq (.ref (.box 0) 0 [(0+x.fae.toNat,17,6)])<|.oq (.ref (.box 0) 0 [(0+x.fae.toNat,17,6)])<|.oq (.ref (.box 0) 0 [(0+x.fae.toNat,17,6)])<|.oq (.ref (.box 0) 0 [(0+x.fae.toNat,17,6)])<|.oq (.ref (.box 0) 0 [(0+x.fae.toNat,17,6)])<|.oq (.ref (.box 0) 0 [(0+x.fae.toNat,17,6)])<|.oq (.ref (.box 0) 0 [(0+x.fae.toNat,17,6)])<|.lkY Ta.o s (x.fae.toNat) v41<|.segA Td.o v41.fh<|.lkY Ta.o s (x.fae.toNat) v41<|.lkY Ta.o s (x.fae.toNat) v41<|.sk<|.segA Td.o ([(⟨v18.2.1,k,x.fp,v43⟩:Td)]:List Td)<|.guard (((v41.fh.map Td.o).length+(([(⟨v18.2.1,k,x.fp,v43⟩:Td)]:List Td).map Td.o).length) * 104<=70368744177664) inferInstance<|.appA Td.o v41.fh ([(⟨v18.2.1,k,x.fp,v43⟩:Td)]:List Td)<|.lkY Ta.o s (x.fae.toNat) v41<|.segA Td.o v41.fh<|.lkY Ta.o s (x.fae.toNat) v41<|.lkY Ta.o s (x.fae.toNat) v41<|.sk<|.segA Td.o ([(⟨v18.2.1,k,x.fp,v43⟩:Td)]:List Td)<|.guard (((v41.fh.map Td.o).length+(([(⟨v18.2.1,k,x.fp,v43⟩:Td)]:List Td).map Td.o).length) * 104<=70368744177664) inferInstance<|.appA Td.o v41.fh ([(⟨v18.2.1,k,x.fp,v43⟩:Td)]:List Td)<|.oq (.ref (.box 0) 0 [(0+x.fae.toNat,17,6)])<|.oq (.ref (.box 0) 0 [(0+x.fae.toNat,17,6)])<|.segA Td.o (v41.fh++([(⟨v18.2.1,k,x.fp,v43⟩:Td)]:List Td))<|.holA Ta.o s x.fae.toNat (.agg [.gone,.bool v41.fam,.int .i64 v41.fc.fk,.int .i64 v41.fc.fu,.int .i64 v41.fc.fp,.int .i64 v41.fc.fa.ff,.int .i64 v41.fc.fa.fd,.int .i64 v41.fc.fa.fN,.own 1 (v41.fc.fa.fg.map (V.int .i64)),.own 1 (v41.fc.fa.fe.map V.bool),.int .i64 v41.fc.fa.fj,.int .i64 v41.fao,.int .i64 v41.faq,.int .i64 v41.fap,.int .i64 v41.fo,.int .i64 v41.fac,.int .i64 v41.fab]) fun _=>.hs Ta.o s (x.fae.toNat) (.agg [.gone,.bool v41.fam,.int .i64 v41.fc.fk,.int .i64 v41.fc.fu,.int .i64 v41.fc.fp,.int .i64 v41.fc.fa.ff,.int .i64 v41.fc.fa.fd,.int .i64 v41.fc.fa.fN,.own 1 (v41.fc.fa.fg.map (V.int .i64)),.own 1 (v41.fc.fa.fe.map V.bool),.int .i64 v41.fc.fa.fj,.int .i64 v41.fao,.int .i64 v41.faq,.int .i64 v41.fap,.int .i64 v41.fo,.int .i64 v41.fac,.int .i64 v41.fab]) ({ v41 with fh:=(v41.fh++([(⟨v18.2.1,k,x.fp,v43⟩:Td)]:List Td)) }:Ta) fun v45=>.lfA (zwr v4 v8 v11 v18 (w1 k)) (.inl v45))) (E:=fun s=>(.kb (decide ((v8.1.length:Int)<(v8.1.length:Int))) false<|.lfA (zwr v4 v8 v11 v18 0) (.inr s))) (by kernel_rfl) (fun d x t s he=>⟨ltX he,kX he<|gU<|lK fun v41 h42=>cF yc8 fun v43=>sA<|sA<|⟨rfl,sA<|sA<|⟨rfl,⟨rfl,lD h42<|⟨rfl,⟨rfl,⟨rfl,⟨rfl,⟨rfl,⟨rfl,⟨rfl,⟨rfl,⟨rfl,lD h42<|sA<|lD h42<|lD h42<|sA<|gU<|aA<|lD h42<|sA<|lD h42<|lD h42<|sA<|gU<|aA<|⟨rfl,⟨rfl,sA<|⟨zb0 _ _ _ _,fun _ _=>hS fun v45=>rfl⟩⟩⟩⟩⟩⟩⟩⟩⟩⟩⟩⟩⟩⟩⟩⟩) (fun _=>rfl) (fun s=>⟨ltE _,rfl⟩) s)
def ym3:(List Th×Tg)->V×List (List V):=fun r=>(.imm 16 (r.1.map Th.i),[[.int .i64 r.2.fag,.int .i64 r.2.fr.fac,.int .i64 r.2.fr.fab,.own 7 (r.2.fr.faf.map Tf.i),.int .i64 r.2.ft.fo,.own 13 (r.2.ft.fi.map Tb.o),.own 17 (r.2.fq.map Ta.o),.int .i64 r.2.faj,.int .i64 r.2.fai,.int .i64 r.2.fal,.int .i64 r.2.fan]])
def yjj (v1:Int) (v2:Int) (v3:Int) (v4:Ti) (v5:Tg):Option (List Th×Tg):=(zwe v5.faj 1).bind fun v6=>((ylw v5.fr.faf v3 v4).bind fun v8=>(bif decide (v8.2=0) then((ynk v8.1 ({ v5 with faj:=v6 }:Tg)).bind fun v11=>(bif v11.1 then((zw9 v4).bind fun v13=>((zxn v4 6).bind fun v15=>((yjf ([(⟨v1,v2,v13,[],[],v15⟩:Th)]:List Th) v11.2).bind fun v17=>(some (v17.1,v17.2))))) else((yjx v11.2.ft v1 v2 v3 v4 v8.1).bind fun v18=>((yjx v11.2.ft v1 v2 v3 v4 v8.1).bind fun v20=>((zof v4 v8 v11 v18 v11.2.fq).bind fun v46=>(some ([],({ v11.2 with ft:=v18.1,fq:=v46 }:Tg)))))))) else((zw9 v4).bind fun v47=>((zxn v4 v8.2).bind fun v49=>((yjf ([(⟨v1,v2,v47,[],[],v49⟩:Th)]:List Th) ({ v5 with faj:=v6 }:Tg)).bind fun v51=>(some (v51.1,v51.2)))))))
def yq4 (v1:Int) (v2:Int) (v3:Int) (v4:Ti) (v5:Tg):Ctr:=⟨16,[.ref (.box 0) 0 [],.I v1,.I v2,.I v3,v4.i],[[.I v5.fag,.I v5.fr.fac,.I v5.fr.fab,.own 7 (v5.fr.faf.map Tf.i),.I v5.ft.fo,.own 13 (v5.ft.fi.map Tb.o),.own 17 (v5.fq.map Ta.o),.I v5.faj,.I v5.fai,.I v5.fal,.I v5.fan]],List Th×Tg,yjj v1 v2 v3 v4 v5,ym3⟩
theorem yzj {v1:Int} {v2:Int} {v3:Int} {v4:Ti} {v5:Tg}:(yq4 v1 v2 v3 v4 v5).ok tab:=okX_of rfl rfl (.callF (yke v5.faj 1) fun(v6:Int)=>.se Tf.i Tf.i v5.fr.faf<|.callF (yrp v5.fr.faf v3 v4) fun(v8:List Te×Int)=>.segA Te.o v8.1<|.segA Te.o v8.1<|.oq (.int .i64 v8.2)<|.oq (.int .i64 v8.2)<|.br (decide (v8.2=0)) (.se Te.o Te.i v8.1<|.eraA Te.o Te.i v8.1<|.call (ypz v8.1 ({ v5 with faj:=v6 }:Tg)) fun(v11:Bool×Tg)=>.br v11.1 (.sk<|.callF (yc0 v4) fun(v13:Ti)=>.callF (ye2 v4 6) fun(v15:Tc)=>.segA (V.int .i64) v13.fg<|.segA V.bool v13.fe<|.seg [] 0 0 []<|.seg [] 0 0 []<|.segA (V.int .i64) v15.fg<|.segA V.bool v15.fe<|.eqL [.agg [.int .i64 v1,.int .i64 v2,.int .i64 v13.ff,.int .i64 v13.fd,.int .i64 v13.fN,.own 1 (v13.fg.map (V.int .i64)),.own 1 (v13.fe.map V.bool),.int .i64 v13.fj,.own 8 ([]:List V),.own 6 ([]:List V),.int .i64 v15.ff,.int .i64 v15.fak,.int .i64 v15.fd,.int .i64 v15.fN,.own 1 (v15.fg.map (V.int .i64)),.own 1 (v15.fe.map V.bool)]] (([(⟨v1,v2,v13,[],[],v15⟩:Th)]:List Th).map Th.o)<|.segA (V.int .i64) v13.fg<|.segA V.bool v13.fe<|.seg [] 0 0 []<|.seg [] 0 0 []<|.segA (V.int .i64) v15.fg<|.segA V.bool v15.fe<|.eqL [.agg [.int .i64 v1,.int .i64 v2,.int .i64 v13.ff,.int .i64 v13.fd,.int .i64 v13.fN,.own 1 (v13.fg.map (V.int .i64)),.own 1 (v13.fe.map V.bool),.int .i64 v13.fj,.own 8 ([]:List V),.own 6 ([]:List V),.int .i64 v15.ff,.int .i64 v15.fak,.int .i64 v15.fd,.int .i64 v15.fN,.own 1 (v15.fg.map (V.int .i64)),.own 1 (v15.fe.map V.bool)]] (([(⟨v1,v2,v13,[],[],v15⟩:Th)]:List Th).map Th.o)<|.oq (.ref (.box 0) 0 [])<|.oq (.ref (.box 0) 0 [])<|.segA Th.o ([(⟨v1,v2,v13,[],[],v15⟩:Th)]:List Th)<|.eraA Th.o Th.i ([(⟨v1,v2,v13,[],[],v15⟩:Th)]:List Th)<|.eraA Th.o Th.i ([(⟨v1,v2,v13,[],[],v15⟩:Th)]:List Th)<|.call (ym7 ([(⟨v1,v2,v13,[],[],v15⟩:Th)]:List Th) v11.2) fun(v17:List Th×Tg)=>.lfA ym3 (v17.1,v17.2))<|.kb (decide (v8.2≠0)) false<|.se Tb.o Tb.i v11.2.ft.fi<|.callF (ynq v11.2.ft v1 v2 v3 v4 v8.1) fun(v18:Tm×Int×Bool)=>.oq (.bool v18.2.2)<|.oq (.bool v18.2.2)<|.oq (.int .i64 v18.2.1)<|.oq (.int .i64 v18.2.1)<|.oq (.agg [.int .i64 v18.1.fo,.hd 13 (.var 29) 1 [] 0 (v18.1.fi.map Tb.o).length])<|.oq (.agg [.int .i64 v18.1.fo,.hd 13 (.var 29) 1 [] 0 (v18.1.fi.map Tb.o).length])<|.oq (.tup [.agg [.int .i64 v18.1.fo,.hd 13 (.var 29) 1 [] 0 (v18.1.fi.map Tb.o).length],.int .i64 v18.2.1,.bool v18.2.2])<|.oq (.tup [.agg [.int .i64 v18.1.fo,.hd 13 (.var 29) 1 [] 0 (v18.1.fi.map Tb.o).length],.int .i64 v18.2.1,.bool v18.2.2])<|.oq (.tup [v18.1.o,.int .i64 v18.2.1,.bool v18.2.2])<|.se Tb.o Tb.i v11.2.ft.fi<|.callF (ynq v11.2.ft v1 v2 v3 v4 v8.1) fun(v20:Tm×Int×Bool)=>.ob ((.tup [v20.1.o,.int .i64 v20.2.1,.bool v20.2.2]:V)=.tup [v18.1.o,.int .i64 v18.2.1,.bool v18.2.2])<|.oq (.imm 8 (v8.1.map Te.i))<|.oq (.imm 8 (v8.1.map Te.i))<|.oq (v4.i)<|.oq (v4.i)<|.oq (.int .i64 v3)<|.oq (.int .i64 v3)<|.oq (.int .i64 v2)<|.oq (.int .i64 v2)<|.oq (.int .i64 v1)<|.oq (.int .i64 v1)<|.oq (.agg [.int .i64 v11.2.ft.fo,.hd 13 (.box 0) 5 [] 0 (v11.2.ft.fi.map Tb.o).length])<|.oq (.agg [.int .i64 v11.2.ft.fo,.hd 13 (.box 0) 5 [] 0 (v11.2.ft.fi.map Tb.o).length])<|.oq (.ref (.box 0) 4 [])<|.oq (.ref (.box 0) 4 [])<|.oq (.ref (.box 0) 0 [])<|.oq (.ref (.box 0) 0 [])<|.oq (.ref (.box 0) 0 [])<|.oq (.ref (.box 0) 0 [])<|.segA Tb.o v18.1.fi<|.segA Tb.o v18.1.fi<|.oq (.bool v18.2.2)<|.oq (.bool v18.2.2)<|.oq (.int .i64 v18.2.1)<|.oq (.int .i64 v18.2.1)<|.oq (.bool v18.2.2)<|.oq (.bool v18.2.2)<|.segA Tb.o v18.1.fi<|.lenA Te.i v8.1<|.lp (ybt v4 v8 v11 v18 v11.2.fq) fun(v46:List Ta)=>.seg [] 0 0 []<|.eqL [] []<|.eqL [] []<|.lfA ym3 ([],({ v11.2 with ft:=v18.1,fq:=v46 }:Tg)))<|.kb (decide (v8.2≠0)) true<|.callF (yc0 v4) fun(v47:Ti)=>.callF (ye2 v4 v8.2) fun(v49:Tc)=>.segA (V.int .i64) v47.fg<|.segA V.bool v47.fe<|.seg [] 0 0 []<|.seg [] 0 0 []<|.segA (V.int .i64) v49.fg<|.segA V.bool v49.fe<|.eqL [.agg [.int .i64 v1,.int .i64 v2,.int .i64 v47.ff,.int .i64 v47.fd,.int .i64 v47.fN,.own 1 (v47.fg.map (V.int .i64)),.own 1 (v47.fe.map V.bool),.int .i64 v47.fj,.own 8 ([]:List V),.own 6 ([]:List V),.int .i64 v49.ff,.int .i64 v49.fak,.int .i64 v49.fd,.int .i64 v49.fN,.own 1 (v49.fg.map (V.int .i64)),.own 1 (v49.fe.map V.bool)]] (([(⟨v1,v2,v47,[],[],v49⟩:Th)]:List Th).map Th.o)<|.segA (V.int .i64) v47.fg<|.segA V.bool v47.fe<|.seg [] 0 0 []<|.seg [] 0 0 []<|.segA (V.int .i64) v49.fg<|.segA V.bool v49.fe<|.eqL [.agg [.int .i64 v1,.int .i64 v2,.int .i64 v47.ff,.int .i64 v47.fd,.int .i64 v47.fN,.own 1 (v47.fg.map (V.int .i64)),.own 1 (v47.fe.map V.bool),.int .i64 v47.fj,.own 8 ([]:List V),.own 6 ([]:List V),.int .i64 v49.ff,.int .i64 v49.fak,.int .i64 v49.fd,.int .i64 v49.fN,.own 1 (v49.fg.map (V.int .i64)),.own 1 (v49.fe.map V.bool)]] (([(⟨v1,v2,v47,[],[],v49⟩:Th)]:List Th).map Th.o)<|.oq (.ref (.box 0) 0 [])<|.oq (.ref (.box 0) 0 [])<|.segA Th.o ([(⟨v1,v2,v47,[],[],v49⟩:Th)]:List Th)<|.eraA Th.o Th.i ([(⟨v1,v2,v47,[],[],v49⟩:Th)]:List Th)<|.eraA Th.o Th.i ([(⟨v1,v2,v47,[],[],v49⟩:Th)]:List Th)<|.call (ym7 ([(⟨v1,v2,v47,[],[],v49⟩:Th)]:List Th) ({ v5 with faj:=v6 }:Tg)) fun(v51:List Th×Tg)=>.lfA ym3 (v51.1,v51.2)) (by kernel_rfl) (cF ynd fun v6=>sE (fun _=>rfl)<|cF yxk fun v8=>sA<|sA<|⟨rfl,⟨rfl,⟨fun h10=>sE Te.o_i<|eO Te.o_i<|cE yvw fun v11=>bR (cF yc8 fun v13=>cF ygw fun v15=>sA<|sA<|⟨za0 [],⟨za0 [],sA<|sA<|⟨rfl,sA<|sA<|⟨za0 [],⟨za0 [],sA<|sA<|⟨rfl,⟨rfl,⟨rfl,sA<|⟨za5 Th.o_i ([(⟨v1,v2,v13,[],[],v15⟩:Th)]:List Th),⟨za5 Th.o_i ([(⟨v1,v2,v13,[],[],v15⟩:Th)]:List Th),cE yo9 fun v17=>rfl⟩⟩⟩⟩⟩⟩⟩⟩⟩⟩)<|⟨kbN h10,sE Tb.o_i<|⟨ysx,fun v18 h19=>⟨rfl,⟨rfl,⟨rfl,⟨rfl,⟨rfl,⟨rfl,⟨rfl,⟨rfl,⟨rfl,sE Tb.o_i<|⟨ysx,fun v20 h21=>⟨by rw [show v20=v18 from Option.some.inj (h21.symm.trans h19)],⟨rfl,⟨rfl,⟨rfl,⟨rfl,⟨rfl,⟨rfl,⟨rfl,⟨rfl,⟨rfl,⟨rfl,⟨rfl,⟨rfl,⟨rfl,⟨rfl,⟨rfl,⟨rfl,⟨rfl,⟨rfl,sA<|sA<|⟨rfl,⟨rfl,⟨rfl,⟨rfl,⟨rfl,⟨rfl,sA<|lA<|lP yi1 fun v46=>⟨za0 [],⟨rfl,⟨rfl,rfl⟩⟩⟩⟩⟩⟩⟩⟩⟩⟩⟩⟩⟩⟩⟩⟩⟩⟩⟩⟩⟩⟩⟩⟩⟩⟩⟩⟩⟩⟩⟩⟩⟩⟩⟩⟩⟩⟩⟩⟩,fun h10=>⟨kbN h10,cF yc8 fun v47=>cF ygw fun v49=>sA<|sA<|⟨za0 [],⟨za0 [],sA<|sA<|⟨rfl,sA<|sA<|⟨za0 [],⟨za0 [],sA<|sA<|⟨rfl,⟨rfl,⟨rfl,sA<|⟨za5 Th.o_i ([(⟨v1,v2,v47,[],[],v49⟩:Th)]:List Th),⟨za5 Th.o_i ([(⟨v1,v2,v47,[],[],v49⟩:Th)]:List Th),cE yo9 fun v51=>rfl⟩⟩⟩⟩⟩⟩⟩⟩⟩⟩⟩⟩⟩⟩)
def ymz:(Tg×List Th)->V×List (List V):=fun r=>(.tup [r.1.o,.imm 16 (r.2.map Th.i)],[])
def yf6 (v1:Tg) (v2:Int) (v3:Int) (v4:Int) (v5:Ti):Option (Tg×List Th):=(yl8 v1).bind fun v6=>((yjb v1).bind fun v8=>(bif !v8 then(some (v6,[])) else((yn9 v2 v3 v5).bind fun v11=>(bif !v11 then(some (v6,[])) else((yjj v2 v3 v4 v5 v6).bind fun v14=>(some (v14.2,v14.1)))))))
def ynz (v1:Tg) (v2:Int) (v3:Int) (v4:Int) (v5:Ti):Ctr:=⟨7,[v1.i,.I v2,.I v3,.I v4,v5.i],[],Tg×List Th,yf6 v1 v2 v3 v4 v5,ymz⟩
theorem yrg {v1:Tg} {v2:Int} {v3:Int} {v4:Int} {v5:Ti}:(ynz v1 v2 v3 v4 v5).ok tab:=okX_of rfl rfl (.callF (ype v1) fun(v6:Tg)=>.segA Tf.i v6.fr.faf<|.segA Tb.o v6.ft.fi<|.segA Ta.o v6.fq<|.callF (ymg v1) fun v8=>.br (!v8) (.segA Tf.i v6.fr.faf<|.segA Tb.o v6.ft.fi<|.segA Ta.o v6.fq<|.segA Tf.i v6.fr.faf<|.segA Tb.o v6.ft.fi<|.segA Ta.o v6.fq<|.lfA ymz (v6,[]))<|.callF (yuv v2 v3 v5) fun v11=>.br (!v11) (.segA Tf.i v6.fr.faf<|.segA Tb.o v6.ft.fi<|.segA Ta.o v6.fq<|.segA Tf.i v6.fr.faf<|.segA Tb.o v6.ft.fi<|.segA Ta.o v6.fq<|.lfA ymz (v6,[]))<|.call (yq4 v2 v3 v4 v5 v6) fun(v14:List Th×Tg)=>.segA Tf.i v14.2.fr.faf<|.segA Tb.o v14.2.ft.fi<|.segA Ta.o v14.2.fq<|.segA Tf.i v14.2.fr.faf<|.segA Tb.o v14.2.ft.fi<|.segA Ta.o v14.2.fq<|.lfA ymz (v14.2,v14.1)) (by kernel_rfl) (cF yqz fun v6=>sA<|sA<|sA<|cF ynx fun v8=>bR (sA<|sA<|sA<|sA<|sA<|sA<|rfl)<|cF yvq fun v11=>bR (sA<|sA<|sA<|sA<|sA<|sA<|rfl)<|cE yzj fun v14=>sA<|sA<|sA<|sA<|sA<|sA<|rfl)
def zrc (v1:Tg) (k:Int) (s:Int):St:=⟨sv 9 [(3,.I s),(5,.imm 17 (v1.fq.map Ta.i)),(6,.I (v1.fq.length:Int)),(7,.I k)],[[.I v1.fag,.I v1.fr.fac,.I v1.fr.fab,.imm 7 (v1.fr.faf.map Tf.i),.I v1.ft.fo,.imm 13 (v1.ft.fi.map Tb.i),.imm 17 (v1.fq.map Ta.i),.I v1.faj,.I v1.fai,.I v1.fal,.I v1.fan]]⟩
def zo8 (v1:Tg):Int->Ex×St:=fun p=>((.exit 0),⟨sv 9 [(3,.I p),(5,.imm 17 (v1.fq.map Ta.i)),(6,.I (v1.fq.length:Int)),(7,.I (v1.fq.length:Int)),(8,.bool false)],[[.I v1.fag,.I v1.fr.fac,.I v1.fr.fab,.imm 7 (v1.fr.faf.map Tf.i),.I v1.ft.fo,.imm 13 (v1.ft.fi.map Tb.i),.imm 17 (v1.fq.map Ta.i),.I v1.faj,.I v1.fai,.I v1.fal,.I v1.fan]]⟩)
def yat (v1:Tg) (k:Int):=zcd (zrc v1 k) (zo8 v1)
def zg9 (v1:Tg) (k:Int) (x:Ta) (s:Int):Option ((Int)⊕(Int)):=(yhu x).bind fun v13=>(some (.inl (i64.wrap (s+(v13.length:Int)))))
def zfu (v1:Tg) (s:Int):Option Int:=some (s)
def zor (v1:Tg) (s:Int):Option Int:=if v1.fq.length<=9223372036854775806 then zab (zg9 v1) (zfu v1) v1.fq 0 s else none
def zzu (v1:Tg) (s:Int):Lct:=⟨9,yel,1,[0,1,2,4,8],some (zrc v1 0 s),Int,zor v1 s,zo8 v1⟩
theorem yg6 {v1:Tg} {s:Int}:(zzu v1 s).ok tab:=zbw (list_oky (J:=zrc v1) (o:=(zo8 v1)) v1.fq (B:=fun k x s=>(.kb (decide (k<(v1.fq.length:Int))) true<|.kx Ta.i v1.fq k x<|.call (yp2 x) fun(v13:List Td)=>.lenB Td.i v13<|.lfA (yat v1 (w1 k)) (.inl (i64.wrap (s+(v13.length:Int)))))) (E:=fun s=>(.kb (decide ((v1.fq.length:Int)<(v1.fq.length:Int))) false<|.lfA (yat v1 0) (.inr s))) (by kernel_rfl) (fun d x t s he=>⟨ltX he,kX he<|cE ytn fun v13=>lB<|rfl⟩) (fun _=>rfl) (fun s=>⟨ltE _,rfl⟩) s)
def yoo (v1:Tg):Option Int:=(zor v1 0).bind fun v14=>(some v14)
def yul (v1:Tg):Ctr:=⟨17,[v1.i],[],Int,yoo v1,rI⟩
theorem yxe {v1:Tg}:(yul v1).okF tab:=okF_of rfl rfl (.lenA Ta.i v1.fq<|.lp (zzu v1 0) fun(v14:Int)=>.lfA rI v14:Tree Int _) (by kernel_rfl) (lA<|lP yg6 fun v14=>rfl)
def ykn (v1:Tg):Option Int:=(yjb v1).bind fun v2=>(bif !v2 then(some 0) else((yoo v1).bind fun v5=>(some v5)))
def yod (v1:Tg):Ctr:=⟨8,[v1.i],[],Int,ykn v1,rI⟩
theorem ytx {v1:Tg}:(yod v1).okF tab:=okF_of rfl rfl (.callF (ymg v1) fun v2=>.br (!v2) (.lfA rI 0)<|.callF (yul v1) fun(v5:Int)=>.lfA rI v5:Tree Int _) (by kernel_rfl) (cF ynx fun v2=>bR rfl<|cF yxe fun v5=>rfl)
def yc4 (v1:Int) (v2:Int):Option Int:=(zyx v1).bind fun v3=>(bif !v3 then(some 0) else((zyx v2).bind fun v6=>(bif !v6 then(some 0) else(some ((i64.wrap (v1+v2)).tmod 4294967296)))))
def ygz (v1:Int) (v2:Int):Ctr:=⟨40,[.I v1,.I v2],[],Int,yc4 v1 v2,rI⟩
theorem yjd {v1:Int} {v2:Int}:(ygz v1 v2).okF tab:=okF_of rfl rfl (.callF (yd4 v1) fun v3=>.br (!v3) (.lfA rI 0)<|.callF (yd4 v2) fun v6=>.br (!v6) (.lfA rI 0)<|.sk<|.lfA rI ((i64.wrap (v1+v2)).tmod 4294967296):Tree Int _) (by kernel_rfl) (cF yeq fun v3=>bR rfl<|cF yeq fun v6=>bR rfl<|rfl)
def yni (v1:Int) (v2:Int):Option Int:=(zyx v1).bind fun v3=>(bif !v3 then(some 0) else((zyx v2).bind fun v6=>(bif !v6 then(some 0) else(some ((i64.wrap ((i64.wrap ((i64.wrap (v2 - v1))+4294967295))+1)).tmod 4294967296)))))
def yt5 (v1:Int) (v2:Int):Ctr:=⟨89,[.I v1,.I v2],[],Int,yni v1 v2,rI⟩
theorem yvz {v1:Int} {v2:Int}:(yt5 v1 v2).okF tab:=okF_of rfl rfl (.callF (yd4 v1) fun v3=>.br (!v3) (.lfA rI 0)<|.callF (yd4 v2) fun v6=>.br (!v6) (.lfA rI 0)<|.sk<|.lfA rI ((i64.wrap ((i64.wrap ((i64.wrap (v2 - v1))+4294967295))+1)).tmod 4294967296):Tree Int _) (by kernel_rfl) (cF yeq fun v3=>bR rfl<|cF yeq fun v6=>bR rfl<|rfl)
def ykt (v1:Int) (v2:Int):Option Bool:=(zyx v1).bind fun v3=>(bif v3 then((zyx v2).bind fun v6=>(bif v6 then((yni v2 v1).bind fun v9=>(some (decide (v9<2147483648)))) else(some false))) else(some false))
def ysa (v1:Int) (v2:Int):Ctr:=⟨70,[.I v1,.I v2],[],Bool,ykt v1 v2,rB⟩
theorem yxd {v1:Int} {v2:Int}:(ysa v1 v2).okF tab:=okF_of rfl rfl (.callF (yd4 v1) fun v3=>.br v3 (.callF (yd4 v2) fun v6=>.br v6 (.callF (yt5 v2 v1) fun(v9:Int)=>.lfA rB (decide (v9<2147483648)))<|.lfA rB false)<|.lfA rB false) (by kernel_rfl) (cF yeq fun v3=>bR (cF yeq fun v6=>bR (cF yvz fun v9=>rfl)<|rfl)<|rfl)
def yu0:(Tj×Ta)->V×List (List V):=fun r=>(r.1.o,[[.own 9 (r.2.fh.map Td.o),.bool r.2.fam,.int .i64 r.2.fc.fk,.int .i64 r.2.fc.fu,.int .i64 r.2.fc.fp,.int .i64 r.2.fc.fa.ff,.int .i64 r.2.fc.fa.fd,.int .i64 r.2.fc.fa.fN,.own 1 (r.2.fc.fa.fg.map (V.int .i64)),.own 1 (r.2.fc.fa.fe.map V.bool),.int .i64 r.2.fc.fa.fj,.int .i64 r.2.fao,.int .i64 r.2.faq,.int .i64 r.2.fap,.int .i64 r.2.fo,.int .i64 r.2.fac,.int .i64 r.2.fab]])
def yep (v1:Ta):Option (Tj×Ta):=(zw9 v1.fc.fa).bind fun v2=>(some ((⟨v1.fao,v1.fc.fp,v2⟩:Tj),v1))
def yj9 (v1:Ta):Ctr:=⟨71,[.ref (.box 0) 0 []],[[.own 9 (v1.fh.map Td.o),.bool v1.fam,.I v1.fc.fk,.I v1.fc.fu,.I v1.fc.fp,.I v1.fc.fa.ff,.I v1.fc.fa.fd,.I v1.fc.fa.fN,.own 1 (v1.fc.fa.fg.map (V.int .i64)),.own 1 (v1.fc.fa.fe.map V.bool),.I v1.fc.fa.fj,.I v1.fao,.I v1.faq,.I v1.fap,.I v1.fo,.I v1.fac,.I v1.fab]],Tj×Ta,yep v1,yu0⟩
theorem yln {v1:Ta}:(yj9 v1).ok tab:=okX_of rfl rfl (.se (V.int .i64) (V.int .i64) v1.fc.fa.fg<|.se V.bool V.bool v1.fc.fa.fe<|.callF (yc0 v1.fc.fa) fun(v2:Ti)=>.segA (V.int .i64) v2.fg<|.segA V.bool v2.fe<|.segA (V.int .i64) v2.fg<|.segA V.bool v2.fe<|.lfA yu0 ((⟨v1.fao,v1.fc.fp,v2⟩:Tj),v1)) (by kernel_rfl) (sE (fun _=>rfl)<|sE (fun _=>rfl)<|cF yc8 fun v2=>sA<|sA<|sA<|sA<|rfl)
def ytb:Ta->V×List (List V):=fun r=>(.tup [],[[.own 9 (r.fh.map Td.o),.bool r.fam,.int .i64 r.fc.fk,.int .i64 r.fc.fu,.int .i64 r.fc.fp,.int .i64 r.fc.fa.ff,.int .i64 r.fc.fa.fd,.int .i64 r.fc.fa.fN,.own 1 (r.fc.fa.fg.map (V.int .i64)),.own 1 (r.fc.fa.fe.map V.bool),.int .i64 r.fc.fa.fj,.int .i64 r.fao,.int .i64 r.faq,.int .i64 r.fap,.int .i64 r.fo,.int .i64 r.fac,.int .i64 r.fab]])
def ynn (v1:Ta):Option Ta:=some ({ v1 with fam:=false,fc:=⟨0,0,0,⟨0,0,0,[],[],0⟩⟩,fao:=0,faq:=0,fap:=0 }:Ta)
def yuk (v1:Ta):Ctr:=⟨72,[.ref (.box 0) 0 []],[[.own 9 (v1.fh.map Td.o),.bool v1.fam,.I v1.fc.fk,.I v1.fc.fu,.I v1.fc.fp,.I v1.fc.fa.ff,.I v1.fc.fa.fd,.I v1.fc.fa.fN,.own 1 (v1.fc.fa.fg.map (V.int .i64)),.own 1 (v1.fc.fa.fe.map V.bool),.I v1.fc.fa.fj,.I v1.fao,.I v1.faq,.I v1.fap,.I v1.fo,.I v1.fac,.I v1.fab]],Ta,ynn v1,ytb⟩
theorem yvs {v1:Ta}:(yuk v1).ok tab:=okX_of rfl rfl (.seg [] 0 0 []<|.seg [] 0 0 []<|.lfA ytb ({ v1 with fam:=false,fc:=⟨0,0,0,⟨0,0,0,[],[],0⟩⟩,fao:=0,faq:=0,fap:=0 }:Ta)) (by kernel_rfl) ⟨za0 [],⟨za0 [],rfl⟩⟩
def zsk:(Ta×List Tj×List Tn)->V×List (List V):=fun r=>(.tup [r.1.o,.own 8 (r.2.1.map Tj.o),.own 8 (r.2.2.map Tn.o)],[])
def zql (v1:Ta) (v2:Int):Option (Ta×List Tj×List Tn):=(yk6 v1).bind fun v3=>(bif v3.fam then((ykt v2 v3.faq).bind fun v6=>(bif v6 then(bif decide (0<v3.fap) then((yc4 v2 v3.fac).bind fun v10=>((yep ({ v3 with faq:=v10,fap:=(i64.wrap (v3.fap - 1)) }:Ta)).bind fun v12=>(if (([]:List V).length+(([v12.1]:List Tj).map Tj.o).length) * 96<=70368744177664 then(bif !v12.2.fam then(bif decide (0<(v12.2.fh.length:Int)) then(if (0:Int)<=0/\(0:Int)<(((v12.2.fh.map Td.o).length - 0:Nat):Int) then(((v12.2.fh)[(0:Int).toNat]?).bind fun v15=>((((v12.2.fh)[(0:Int).toNat]?).map fun _=>()).bind fun _=>((((v12.2.fh)[(0:Int).toNat]?).map fun _=>()).bind fun _=>((((v12.2.fh)[(0:Int).toNat]?).map fun _=>()).bind fun _=>(if (0:Int)<=1/\(1:Int)<=((((v12.2.fh.map Td.o).set (0+(0:Int).toNat) (.agg [.int .i64 v15.fk,.int .i64 v15.fu,.int .i64 v15.fp,.int .i64 v15.fa.ff,.int .i64 v15.fa.fd,.int .i64 v15.fa.fN,.gone,.gone,.int .i64 v15.fa.fj])).length - 0:Nat):Int)/\((((v12.2.fh.map Td.o).set (0+(0:Int).toNat) (.agg [.int .i64 v15.fk,.int .i64 v15.fu,.int .i64 v15.fp,.int .i64 v15.fa.ff,.int .i64 v15.fa.fd,.int .i64 v15.fa.fN,.gone,.gone,.int .i64 v15.fa.fj])).length - 0:Nat):Int)<=((((v12.2.fh.map Td.o).set (0+(0:Int).toNat) (.agg [.int .i64 v15.fk,.int .i64 v15.fu,.int .i64 v15.fp,.int .i64 v15.fa.ff,.int .i64 v15.fa.fd,.int .i64 v15.fa.fN,.gone,.gone,.int .i64 v15.fa.fj])).length - 0:Nat):Int) then((yc4 v2 v12.2.fac).bind fun v17=>((yep ({ v12.2 with fh:=(v12.2.fh.drop (0+(1:Int).toNat)),fam:=true,fc:=v15,fao:=v12.2.fo,faq:=v17,fap:=v12.2.fab,fo:=((i64.wrap (v12.2.fo+1)).tmod 65536) }:Ta)).bind fun v19=>(if ((([v12.1]:List Tj).map Tj.o).length+(([v19.1]:List Tj).map Tj.o).length) * 96<=70368744177664 then(some (v19.2,(([v12.1]:List Tj)++([v19.1]:List Tj)),[])) else none))) else none))))) else none) else(some (v12.2,([v12.1]:List Tj),[]))) else(some (v12.2,([v12.1]:List Tj),[]))) else none))) else((zxn v3.fc.fa 11).bind fun v20=>(if (([]:List V).length+(([({ v3.fc with fah:=v20 }:Tn)]:List Tn).map Tn.o).length) * 96<=70368744177664 then((ynn v3).bind fun v22=>(bif !v22.fam then(bif decide (0<(v22.fh.length:Int)) then(if (0:Int)<=0/\(0:Int)<(((v22.fh.map Td.o).length - 0:Nat):Int) then(((v22.fh)[(0:Int).toNat]?).bind fun v25=>((((v22.fh)[(0:Int).toNat]?).map fun _=>()).bind fun _=>((((v22.fh)[(0:Int).toNat]?).map fun _=>()).bind fun _=>((((v22.fh)[(0:Int).toNat]?).map fun _=>()).bind fun _=>(if (0:Int)<=1/\(1:Int)<=((((v22.fh.map Td.o).set (0+(0:Int).toNat) (.agg [.int .i64 v25.fk,.int .i64 v25.fu,.int .i64 v25.fp,.int .i64 v25.fa.ff,.int .i64 v25.fa.fd,.int .i64 v25.fa.fN,.gone,.gone,.int .i64 v25.fa.fj])).length - 0:Nat):Int)/\((((v22.fh.map Td.o).set (0+(0:Int).toNat) (.agg [.int .i64 v25.fk,.int .i64 v25.fu,.int .i64 v25.fp,.int .i64 v25.fa.ff,.int .i64 v25.fa.fd,.int .i64 v25.fa.fN,.gone,.gone,.int .i64 v25.fa.fj])).length - 0:Nat):Int)<=((((v22.fh.map Td.o).set (0+(0:Int).toNat) (.agg [.int .i64 v25.fk,.int .i64 v25.fu,.int .i64 v25.fp,.int .i64 v25.fa.ff,.int .i64 v25.fa.fd,.int .i64 v25.fa.fN,.gone,.gone,.int .i64 v25.fa.fj])).length - 0:Nat):Int) then((yc4 v2 v22.fac).bind fun v27=>((yep ({ v22 with fh:=(v22.fh.drop (0+(1:Int).toNat)),fam:=true,fc:=v25,fao:=v22.fo,faq:=v27,fap:=v22.fab,fo:=((i64.wrap (v22.fo+1)).tmod 65536) }:Ta)).bind fun v29=>(if (([]:List V).length+(([v29.1]:List Tj).map Tj.o).length) * 96<=70368744177664 then(some (v29.2,([v29.1]:List Tj),([({ v3.fc with fah:=v20 }:Tn)]:List Tn))) else none))) else none))))) else none) else(some (v22,[],([({ v3.fc with fah:=v20 }:Tn)]:List Tn)))) else(some (v22,[],([({ v3.fc with fah:=v20 }:Tn)]:List Tn))))) else none))) else(bif !v3.fam then(bif decide (0<(v3.fh.length:Int)) then(if (0:Int)<=0/\(0:Int)<(((v3.fh.map Td.o).length - 0:Nat):Int) then(((v3.fh)[(0:Int).toNat]?).bind fun v32=>((((v3.fh)[(0:Int).toNat]?).map fun _=>()).bind fun _=>((((v3.fh)[(0:Int).toNat]?).map fun _=>()).bind fun _=>((((v3.fh)[(0:Int).toNat]?).map fun _=>()).bind fun _=>(if (0:Int)<=1/\(1:Int)<=((((v3.fh.map Td.o).set (0+(0:Int).toNat) (.agg [.int .i64 v32.fk,.int .i64 v32.fu,.int .i64 v32.fp,.int .i64 v32.fa.ff,.int .i64 v32.fa.fd,.int .i64 v32.fa.fN,.gone,.gone,.int .i64 v32.fa.fj])).length - 0:Nat):Int)/\((((v3.fh.map Td.o).set (0+(0:Int).toNat) (.agg [.int .i64 v32.fk,.int .i64 v32.fu,.int .i64 v32.fp,.int .i64 v32.fa.ff,.int .i64 v32.fa.fd,.int .i64 v32.fa.fN,.gone,.gone,.int .i64 v32.fa.fj])).length - 0:Nat):Int)<=((((v3.fh.map Td.o).set (0+(0:Int).toNat) (.agg [.int .i64 v32.fk,.int .i64 v32.fu,.int .i64 v32.fp,.int .i64 v32.fa.ff,.int .i64 v32.fa.fd,.int .i64 v32.fa.fN,.gone,.gone,.int .i64 v32.fa.fj])).length - 0:Nat):Int) then((yc4 v2 v3.fac).bind fun v34=>((yep ({ v3 with fh:=(v3.fh.drop (0+(1:Int).toNat)),fam:=true,fc:=v32,fao:=v3.fo,faq:=v34,fap:=v3.fab,fo:=((i64.wrap (v3.fo+1)).tmod 65536) }:Ta)).bind fun v36=>(if (([]:List V).length+(([v36.1]:List Tj).map Tj.o).length) * 96<=70368744177664 then(some (v36.2,([v36.1]:List Tj),[])) else none))) else none))))) else none) else(some (v3,[],[]))) else(some (v3,[],[]))))) else(bif !v3.fam then(bif decide (0<(v3.fh.length:Int)) then(if (0:Int)<=0/\(0:Int)<(((v3.fh.map Td.o).length - 0:Nat):Int) then(((v3.fh)[(0:Int).toNat]?).bind fun v39=>((((v3.fh)[(0:Int).toNat]?).map fun _=>()).bind fun _=>((((v3.fh)[(0:Int).toNat]?).map fun _=>()).bind fun _=>((((v3.fh)[(0:Int).toNat]?).map fun _=>()).bind fun _=>(if (0:Int)<=1/\(1:Int)<=((((v3.fh.map Td.o).set (0+(0:Int).toNat) (.agg [.int .i64 v39.fk,.int .i64 v39.fu,.int .i64 v39.fp,.int .i64 v39.fa.ff,.int .i64 v39.fa.fd,.int .i64 v39.fa.fN,.gone,.gone,.int .i64 v39.fa.fj])).length - 0:Nat):Int)/\((((v3.fh.map Td.o).set (0+(0:Int).toNat) (.agg [.int .i64 v39.fk,.int .i64 v39.fu,.int .i64 v39.fp,.int .i64 v39.fa.ff,.int .i64 v39.fa.fd,.int .i64 v39.fa.fN,.gone,.gone,.int .i64 v39.fa.fj])).length - 0:Nat):Int)<=((((v3.fh.map Td.o).set (0+(0:Int).toNat) (.agg [.int .i64 v39.fk,.int .i64 v39.fu,.int .i64 v39.fp,.int .i64 v39.fa.ff,.int .i64 v39.fa.fd,.int .i64 v39.fa.fN,.gone,.gone,.int .i64 v39.fa.fj])).length - 0:Nat):Int) then((yc4 v2 v3.fac).bind fun v41=>((yep ({ v3 with fh:=(v3.fh.drop (0+(1:Int).toNat)),fam:=true,fc:=v39,fao:=v3.fo,faq:=v41,fap:=v3.fab,fo:=((i64.wrap (v3.fo+1)).tmod 65536) }:Ta)).bind fun v43=>(if (([]:List V).length+(([v43.1]:List Tj).map Tj.o).length) * 96<=70368744177664 then(some (v43.2,([v43.1]:List Tj),[])) else none))) else none))))) else none) else(some (v3,[],[]))) else(some (v3,[],[]))))
def yon (v1:Ta) (v2:Int):Ctr:=⟨41,[v1.i,.I v2],[],Ta×List Tj×List Tn,zql v1 v2,zsk⟩
theorem yzw (r:Ta×List Tj×List Tn):(zsk r).1.fresh=true:=by simp only [Ta.o,zsk,V.fresh,V.freshL,za4 (f:=Td.o) Td.o_f,za4 (f:=(V.int .i64)) (fun _=>rfl),za4 (f:=V.bool) (fun _=>rfl),za4 (f:=Tj.o) Tj.o_f,za4 (f:=Tn.o) Tn.o_f,Bool.and_self,Bool.true_and]
theorem yth {v1:Ta} {v2:Int}:(yon v1 v2).okF tab:=okF_of rfl rfl (.callF (yo8 v1) fun(v3:Ta)=>.segA Td.o v3.fh<|.segA (V.int .i64) v3.fc.fa.fg<|.segA V.bool v3.fc.fa.fe<|.sk<|.sk<|.seg [] 0 0 []<|.seg [] 0 0 []<|.br v3.fam (.callF (ysa v2 v3.faq) fun v6=>.br v6 (.br (decide (0<v3.fap)) (.callF (ygz v2 v3.fac) fun(v10:Int)=>.call (yj9 ({ v3 with faq:=v10,fap:=(i64.wrap (v3.fap - 1)) }:Ta)) fun(v12:Tj×Ta)=>.segA (V.int .i64) v12.1.fa.fg<|.segA V.bool v12.1.fa.fe<|.eqL [v12.1.o] (([v12.1]:List Tj).map Tj.o)<|.seg [] 0 0 []<|.segA Tj.o ([v12.1]:List Tj)<|.guard ((([]:List V).length+(([v12.1]:List Tj).map Tj.o).length) * 96<=70368744177664) inferInstance<|.eqL ([]++(([v12.1]:List Tj).map Tj.o)) (([v12.1]:List Tj).map Tj.o)<|.segA Tj.o ([v12.1]:List Tj)<|.br (!v12.2.fam) (.lenB Td.o v12.2.fh<|.br (decide (0<(v12.2.fh.length:Int))) (.guard ((0:Int)<=0/\(0:Int)<(((v12.2.fh.map Td.o).length - 0:Nat):Int)) inferInstance<|.lookB Td.o v12.2.fh ((0:Int).toNat) fun v15=>.lkY Td.o v12.2.fh ((0:Int).toNat) v15<|.segA (V.int .i64) v15.fa.fg<|.lkY Td.o v12.2.fh ((0:Int).toNat) v15<|.lkY Td.o v12.2.fh ((0:Int).toNat) v15<|.sk<|.holA Td.o v12.2.fh ((0:Int).toNat) (.agg [.int .i64 v15.fk,.int .i64 v15.fu,.int .i64 v15.fp,.int .i64 v15.fa.ff,.int .i64 v15.fa.fd,.int .i64 v15.fa.fN,.gone,.own 1 (v15.fa.fe.map V.bool),.int .i64 v15.fa.fj]) fun _=>.segA V.bool v15.fa.fe<|.holA Td.o v12.2.fh ((0:Int).toNat) (.agg [.int .i64 v15.fk,.int .i64 v15.fu,.int .i64 v15.fp,.int .i64 v15.fa.ff,.int .i64 v15.fa.fd,.int .i64 v15.fa.fN,.gone,.own 1 (v15.fa.fe.map V.bool),.int .i64 v15.fa.fj]) fun _=>.holA Td.o v12.2.fh ((0:Int).toNat) (.agg [.int .i64 v15.fk,.int .i64 v15.fu,.int .i64 v15.fp,.int .i64 v15.fa.ff,.int .i64 v15.fa.fd,.int .i64 v15.fa.fN,.gone,.own 1 (v15.fa.fe.map V.bool),.int .i64 v15.fa.fj]) fun _=>.setI Td.o v12.2.fh ((0:Int).toNat) (.agg [.int .i64 v15.fk,.int .i64 v15.fu,.int .i64 v15.fp,.int .i64 v15.fa.ff,.int .i64 v15.fa.fd,.int .i64 v15.fa.fN,.gone,.own 1 (v15.fa.fe.map V.bool),.int .i64 v15.fa.fj]) (.agg [.int .i64 v15.fk,.int .i64 v15.fu,.int .i64 v15.fp,.int .i64 v15.fa.ff,.int .i64 v15.fa.fd,.int .i64 v15.fa.fN,.gone,.gone,.int .i64 v15.fa.fj])<|.guard ((0:Int)<=1/\(1:Int)<=((((v12.2.fh.map Td.o).set (0+(0:Int).toNat) (.agg [.int .i64 v15.fk,.int .i64 v15.fu,.int .i64 v15.fp,.int .i64 v15.fa.ff,.int .i64 v15.fa.fd,.int .i64 v15.fa.fN,.gone,.gone,.int .i64 v15.fa.fj])).length - 0:Nat):Int)/\((((v12.2.fh.map Td.o).set (0+(0:Int).toNat) (.agg [.int .i64 v15.fk,.int .i64 v15.fu,.int .i64 v15.fp,.int .i64 v15.fa.ff,.int .i64 v15.fa.fd,.int .i64 v15.fa.fN,.gone,.gone,.int .i64 v15.fa.fj])).length - 0:Nat):Int)<=((((v12.2.fh.map Td.o).set (0+(0:Int).toNat) (.agg [.int .i64 v15.fk,.int .i64 v15.fu,.int .i64 v15.fp,.int .i64 v15.fa.ff,.int .i64 v15.fa.fd,.int .i64 v15.fa.fN,.gone,.gone,.int .i64 v15.fa.fj])).length - 0:Nat):Int)) inferInstance<|.seg ((v12.2.fh.map Td.o).set (0+(0:Int).toNat) (.agg [.int .i64 v15.fk,.int .i64 v15.fu,.int .i64 v15.fp,.int .i64 v15.fa.ff,.int .i64 v15.fa.fd,.int .i64 v15.fa.fN,.gone,.gone,.int .i64 v15.fa.fj])) (0+(1:Int).toNat) (0+((((v12.2.fh.map Td.o).set (0+(0:Int).toNat) (.agg [.int .i64 v15.fk,.int .i64 v15.fu,.int .i64 v15.fp,.int .i64 v15.fa.ff,.int .i64 v15.fa.fd,.int .i64 v15.fa.fN,.gone,.gone,.int .i64 v15.fa.fj])).length - 0:Nat):Int).toNat) ((v12.2.fh.drop (0+(1:Int).toNat)).map Td.o)<|.sk<|.callF (ygz v2 v12.2.fac) fun(v17:Int)=>.call (yj9 ({ v12.2 with fh:=(v12.2.fh.drop (0+(1:Int).toNat)),fam:=true,fc:=v15,fao:=v12.2.fo,faq:=v17,fap:=v12.2.fab,fo:=((i64.wrap (v12.2.fo+1)).tmod 65536) }:Ta)) fun(v19:Tj×Ta)=>.segA (V.int .i64) v19.1.fa.fg<|.segA V.bool v19.1.fa.fe<|.eqL [v19.1.o] (([v19.1]:List Tj).map Tj.o)<|.segA Tj.o ([v12.1]:List Tj)<|.segA Tj.o ([v19.1]:List Tj)<|.guard (((([v12.1]:List Tj).map Tj.o).length+(([v19.1]:List Tj).map Tj.o).length) * 96<=70368744177664) inferInstance<|.appA Tj.o ([v12.1]:List Tj) ([v19.1]:List Tj)<|.segA Tj.o (([v12.1]:List Tj)++([v19.1]:List Tj))<|.segA Td.o v19.2.fh<|.segA (V.int .i64) v19.2.fc.fa.fg<|.segA V.bool v19.2.fc.fa.fe<|.segA Td.o v19.2.fh<|.segA (V.int .i64) v19.2.fc.fa.fg<|.segA V.bool v19.2.fc.fa.fe<|.segA Tj.o (([v12.1]:List Tj)++([v19.1]:List Tj))<|.seg [] 0 0 []<|.lfA zsk (v19.2,(([v12.1]:List Tj)++([v19.1]:List Tj)),[]))<|.segA Td.o v12.2.fh<|.segA (V.int .i64) v12.2.fc.fa.fg<|.segA V.bool v12.2.fc.fa.fe<|.segA Td.o v12.2.fh<|.segA (V.int .i64) v12.2.fc.fa.fg<|.segA V.bool v12.2.fc.fa.fe<|.segA Tj.o ([v12.1]:List Tj)<|.seg [] 0 0 []<|.lfA zsk (v12.2,([v12.1]:List Tj),[]))<|.segA Td.o v12.2.fh<|.segA (V.int .i64) v12.2.fc.fa.fg<|.segA V.bool v12.2.fc.fa.fe<|.segA Td.o v12.2.fh<|.segA (V.int .i64) v12.2.fc.fa.fg<|.segA V.bool v12.2.fc.fa.fe<|.segA Tj.o ([v12.1]:List Tj)<|.seg [] 0 0 []<|.lfA zsk (v12.2,([v12.1]:List Tj),[]))<|.se (V.int .i64) (V.int .i64) v3.fc.fa.fg<|.se V.bool V.bool v3.fc.fa.fe<|.callF (ye2 v3.fc.fa 11) fun(v20:Tc)=>.segA (V.int .i64) v20.fg<|.segA V.bool v20.fe<|.eqL [.agg [.int .i64 v3.fc.fk,.int .i64 v3.fc.fu,.int .i64 v20.ff,.int .i64 v20.fak,.int .i64 v20.fd,.int .i64 v20.fN,.own 1 (v20.fg.map (V.int .i64)),.own 1 (v20.fe.map V.bool)]] (([({ v3.fc with fah:=v20 }:Tn)]:List Tn).map Tn.o)<|.segA (V.int .i64) v20.fg<|.segA V.bool v20.fe<|.eqL [.agg [.int .i64 v3.fc.fk,.int .i64 v3.fc.fu,.int .i64 v20.ff,.int .i64 v20.fak,.int .i64 v20.fd,.int .i64 v20.fN,.own 1 (v20.fg.map (V.int .i64)),.own 1 (v20.fe.map V.bool)]] (([({ v3.fc with fah:=v20 }:Tn)]:List Tn).map Tn.o)<|.oq (.hd 8 (.var 8) 0 [] 0 ([]:List V).length)<|.oq (.hd 8 (.var 8) 0 [] 0 ([]:List V).length)<|.seg [] 0 0 []<|.segA Tn.o ([({ v3.fc with fah:=v20 }:Tn)]:List Tn)<|.guard ((([]:List V).length+(([({ v3.fc with fah:=v20 }:Tn)]:List Tn).map Tn.o).length) * 96<=70368744177664) inferInstance<|.eqL ([]++(([({ v3.fc with fah:=v20 }:Tn)]:List Tn).map Tn.o)) (([({ v3.fc with fah:=v20 }:Tn)]:List Tn).map Tn.o)<|.segA Tn.o ([({ v3.fc with fah:=v20 }:Tn)]:List Tn)<|.call (yuk v3) fun(v22:Ta)=>.br (!v22.fam) (.lenB Td.o v22.fh<|.br (decide (0<(v22.fh.length:Int))) (.guard ((0:Int)<=0/\(0:Int)<(((v22.fh.map Td.o).length - 0:Nat):Int)) inferInstance<|.lookB Td.o v22.fh ((0:Int).toNat) fun v25=>.lkY Td.o v22.fh ((0:Int).toNat) v25<|.segA (V.int .i64) v25.fa.fg<|.lkY Td.o v22.fh ((0:Int).toNat) v25<|.lkY Td.o v22.fh ((0:Int).toNat) v25<|.sk<|.holA Td.o v22.fh ((0:Int).toNat) (.agg [.int .i64 v25.fk,.int .i64 v25.fu,.int .i64 v25.fp,.int .i64 v25.fa.ff,.int .i64 v25.fa.fd,.int .i64 v25.fa.fN,.gone,.own 1 (v25.fa.fe.map V.bool),.int .i64 v25.fa.fj]) fun _=>.segA V.bool v25.fa.fe<|.holA Td.o v22.fh ((0:Int).toNat) (.agg [.int .i64 v25.fk,.int .i64 v25.fu,.int .i64 v25.fp,.int .i64 v25.fa.ff,.int .i64 v25.fa.fd,.int .i64 v25.fa.fN,.gone,.own 1 (v25.fa.fe.map V.bool),.int .i64 v25.fa.fj]) fun _=>.holA Td.o v22.fh ((0:Int).toNat) (.agg [.int .i64 v25.fk,.int .i64 v25.fu,.int .i64 v25.fp,.int .i64 v25.fa.ff,.int .i64 v25.fa.fd,.int .i64 v25.fa.fN,.gone,.own 1 (v25.fa.fe.map V.bool),.int .i64 v25.fa.fj]) fun _=>.setI Td.o v22.fh ((0:Int).toNat) (.agg [.int .i64 v25.fk,.int .i64 v25.fu,.int .i64 v25.fp,.int .i64 v25.fa.ff,.int .i64 v25.fa.fd,.int .i64 v25.fa.fN,.gone,.own 1 (v25.fa.fe.map V.bool),.int .i64 v25.fa.fj]) (.agg [.int .i64 v25.fk,.int .i64 v25.fu,.int .i64 v25.fp,.int .i64 v25.fa.ff,.int .i64 v25.fa.fd,.int .i64 v25.fa.fN,.gone,.gone,.int .i64 v25.fa.fj])<|.guard ((0:Int)<=1/\(1:Int)<=((((v22.fh.map Td.o).set (0+(0:Int).toNat) (.agg [.int .i64 v25.fk,.int .i64 v25.fu,.int .i64 v25.fp,.int .i64 v25.fa.ff,.int .i64 v25.fa.fd,.int .i64 v25.fa.fN,.gone,.gone,.int .i64 v25.fa.fj])).length - 0:Nat):Int)/\((((v22.fh.map Td.o).set (0+(0:Int).toNat) (.agg [.int .i64 v25.fk,.int .i64 v25.fu,.int .i64 v25.fp,.int .i64 v25.fa.ff,.int .i64 v25.fa.fd,.int .i64 v25.fa.fN,.gone,.gone,.int .i64 v25.fa.fj])).length - 0:Nat):Int)<=((((v22.fh.map Td.o).set (0+(0:Int).toNat) (.agg [.int .i64 v25.fk,.int .i64 v25.fu,.int .i64 v25.fp,.int .i64 v25.fa.ff,.int .i64 v25.fa.fd,.int .i64 v25.fa.fN,.gone,.gone,.int .i64 v25.fa.fj])).length - 0:Nat):Int)) inferInstance<|.seg ((v22.fh.map Td.o).set (0+(0:Int).toNat) (.agg [.int .i64 v25.fk,.int .i64 v25.fu,.int .i64 v25.fp,.int .i64 v25.fa.ff,.int .i64 v25.fa.fd,.int .i64 v25.fa.fN,.gone,.gone,.int .i64 v25.fa.fj])) (0+(1:Int).toNat) (0+((((v22.fh.map Td.o).set (0+(0:Int).toNat) (.agg [.int .i64 v25.fk,.int .i64 v25.fu,.int .i64 v25.fp,.int .i64 v25.fa.ff,.int .i64 v25.fa.fd,.int .i64 v25.fa.fN,.gone,.gone,.int .i64 v25.fa.fj])).length - 0:Nat):Int).toNat) ((v22.fh.drop (0+(1:Int).toNat)).map Td.o)<|.sk<|.callF (ygz v2 v22.fac) fun(v27:Int)=>.call (yj9 ({ v22 with fh:=(v22.fh.drop (0+(1:Int).toNat)),fam:=true,fc:=v25,fao:=v22.fo,faq:=v27,fap:=v22.fab,fo:=((i64.wrap (v22.fo+1)).tmod 65536) }:Ta)) fun(v29:Tj×Ta)=>.segA (V.int .i64) v29.1.fa.fg<|.segA V.bool v29.1.fa.fe<|.eqL [v29.1.o] (([v29.1]:List Tj).map Tj.o)<|.seg [] 0 0 []<|.segA Tj.o ([v29.1]:List Tj)<|.guard ((([]:List V).length+(([v29.1]:List Tj).map Tj.o).length) * 96<=70368744177664) inferInstance<|.eqL ([]++(([v29.1]:List Tj).map Tj.o)) (([v29.1]:List Tj).map Tj.o)<|.segA Tj.o ([v29.1]:List Tj)<|.segA Td.o v29.2.fh<|.segA (V.int .i64) v29.2.fc.fa.fg<|.segA V.bool v29.2.fc.fa.fe<|.segA Td.o v29.2.fh<|.segA (V.int .i64) v29.2.fc.fa.fg<|.segA V.bool v29.2.fc.fa.fe<|.segA Tj.o ([v29.1]:List Tj)<|.segA Tn.o ([({ v3.fc with fah:=v20 }:Tn)]:List Tn)<|.lfA zsk (v29.2,([v29.1]:List Tj),([({ v3.fc with fah:=v20 }:Tn)]:List Tn)))<|.segA Td.o v22.fh<|.segA (V.int .i64) v22.fc.fa.fg<|.segA V.bool v22.fc.fa.fe<|.segA Td.o v22.fh<|.segA (V.int .i64) v22.fc.fa.fg<|.segA V.bool v22.fc.fa.fe<|.seg [] 0 0 []<|.segA Tn.o ([({ v3.fc with fah:=v20 }:Tn)]:List Tn)<|.lfA zsk (v22,[],([({ v3.fc with fah:=v20 }:Tn)]:List Tn)))<|.segA Td.o v22.fh<|.segA (V.int .i64) v22.fc.fa.fg<|.segA V.bool v22.fc.fa.fe<|.segA Td.o v22.fh<|.segA (V.int .i64) v22.fc.fa.fg<|.segA V.bool v22.fc.fa.fe<|.seg [] 0 0 []<|.segA Tn.o ([({ v3.fc with fah:=v20 }:Tn)]:List Tn)<|.lfA zsk (v22,[],([({ v3.fc with fah:=v20 }:Tn)]:List Tn)))<|.br (!v3.fam) (.lenB Td.o v3.fh<|.br (decide (0<(v3.fh.length:Int))) (.guard ((0:Int)<=0/\(0:Int)<(((v3.fh.map Td.o).length - 0:Nat):Int)) inferInstance<|.lookB Td.o v3.fh ((0:Int).toNat) fun v32=>.lkY Td.o v3.fh ((0:Int).toNat) v32<|.segA (V.int .i64) v32.fa.fg<|.lkY Td.o v3.fh ((0:Int).toNat) v32<|.lkY Td.o v3.fh ((0:Int).toNat) v32<|.sk<|.holA Td.o v3.fh ((0:Int).toNat) (.agg [.int .i64 v32.fk,.int .i64 v32.fu,.int .i64 v32.fp,.int .i64 v32.fa.ff,.int .i64 v32.fa.fd,.int .i64 v32.fa.fN,.gone,.own 1 (v32.fa.fe.map V.bool),.int .i64 v32.fa.fj]) fun _=>.segA V.bool v32.fa.fe<|.holA Td.o v3.fh ((0:Int).toNat) (.agg [.int .i64 v32.fk,.int .i64 v32.fu,.int .i64 v32.fp,.int .i64 v32.fa.ff,.int .i64 v32.fa.fd,.int .i64 v32.fa.fN,.gone,.own 1 (v32.fa.fe.map V.bool),.int .i64 v32.fa.fj]) fun _=>.holA Td.o v3.fh ((0:Int).toNat) (.agg [.int .i64 v32.fk,.int .i64 v32.fu,.int .i64 v32.fp,.int .i64 v32.fa.ff,.int .i64 v32.fa.fd,.int .i64 v32.fa.fN,.gone,.own 1 (v32.fa.fe.map V.bool),.int .i64 v32.fa.fj]) fun _=>.setI Td.o v3.fh ((0:Int).toNat) (.agg [.int .i64 v32.fk,.int .i64 v32.fu,.int .i64 v32.fp,.int .i64 v32.fa.ff,.int .i64 v32.fa.fd,.int .i64 v32.fa.fN,.gone,.own 1 (v32.fa.fe.map V.bool),.int .i64 v32.fa.fj]) (.agg [.int .i64 v32.fk,.int .i64 v32.fu,.int .i64 v32.fp,.int .i64 v32.fa.ff,.int .i64 v32.fa.fd,.int .i64 v32.fa.fN,.gone,.gone,.int .i64 v32.fa.fj])<|.guard ((0:Int)<=1/\(1:Int)<=((((v3.fh.map Td.o).set (0+(0:Int).toNat) (.agg [.int .i64 v32.fk,.int .i64 v32.fu,.int .i64 v32.fp,.int .i64 v32.fa.ff,.int .i64 v32.fa.fd,.int .i64 v32.fa.fN,.gone,.gone,.int .i64 v32.fa.fj])).length - 0:Nat):Int)/\((((v3.fh.map Td.o).set (0+(0:Int).toNat) (.agg [.int .i64 v32.fk,.int .i64 v32.fu,.int .i64 v32.fp,.int .i64 v32.fa.ff,.int .i64 v32.fa.fd,.int .i64 v32.fa.fN,.gone,.gone,.int .i64 v32.fa.fj])).length - 0:Nat):Int)<=((((v3.fh.map Td.o).set (0+(0:Int).toNat) (.agg [.int .i64 v32.fk,.int .i64 v32.fu,.int .i64 v32.fp,.int .i64 v32.fa.ff,.int .i64 v32.fa.fd,.int .i64 v32.fa.fN,.gone,.gone,.int .i64 v32.fa.fj])).length - 0:Nat):Int)) inferInstance<|.seg ((v3.fh.map Td.o).set (0+(0:Int).toNat) (.agg [.int .i64 v32.fk,.int .i64 v32.fu,.int .i64 v32.fp,.int .i64 v32.fa.ff,.int .i64 v32.fa.fd,.int .i64 v32.fa.fN,.gone,.gone,.int .i64 v32.fa.fj])) (0+(1:Int).toNat) (0+((((v3.fh.map Td.o).set (0+(0:Int).toNat) (.agg [.int .i64 v32.fk,.int .i64 v32.fu,.int .i64 v32.fp,.int .i64 v32.fa.ff,.int .i64 v32.fa.fd,.int .i64 v32.fa.fN,.gone,.gone,.int .i64 v32.fa.fj])).length - 0:Nat):Int).toNat) ((v3.fh.drop (0+(1:Int).toNat)).map Td.o)<|.sk<|.callF (ygz v2 v3.fac) fun(v34:Int)=>.call (yj9 ({ v3 with fh:=(v3.fh.drop (0+(1:Int).toNat)),fam:=true,fc:=v32,fao:=v3.fo,faq:=v34,fap:=v3.fab,fo:=((i64.wrap (v3.fo+1)).tmod 65536) }:Ta)) fun(v36:Tj×Ta)=>.segA (V.int .i64) v36.1.fa.fg<|.segA V.bool v36.1.fa.fe<|.eqL [v36.1.o] (([v36.1]:List Tj).map Tj.o)<|.seg [] 0 0 []<|.segA Tj.o ([v36.1]:List Tj)<|.guard ((([]:List V).length+(([v36.1]:List Tj).map Tj.o).length) * 96<=70368744177664) inferInstance<|.eqL ([]++(([v36.1]:List Tj).map Tj.o)) (([v36.1]:List Tj).map Tj.o)<|.segA Tj.o ([v36.1]:List Tj)<|.segA Td.o v36.2.fh<|.segA (V.int .i64) v36.2.fc.fa.fg<|.segA V.bool v36.2.fc.fa.fe<|.segA Td.o v36.2.fh<|.segA (V.int .i64) v36.2.fc.fa.fg<|.segA V.bool v36.2.fc.fa.fe<|.segA Tj.o ([v36.1]:List Tj)<|.seg [] 0 0 []<|.lfA zsk (v36.2,([v36.1]:List Tj),[]))<|.segA Td.o v3.fh<|.segA (V.int .i64) v3.fc.fa.fg<|.segA V.bool v3.fc.fa.fe<|.segA Td.o v3.fh<|.segA (V.int .i64) v3.fc.fa.fg<|.segA V.bool v3.fc.fa.fe<|.seg [] 0 0 []<|.seg [] 0 0 []<|.lfA zsk (v3,[],[]))<|.segA Td.o v3.fh<|.segA (V.int .i64) v3.fc.fa.fg<|.segA V.bool v3.fc.fa.fe<|.segA Td.o v3.fh<|.segA (V.int .i64) v3.fc.fa.fg<|.segA V.bool v3.fc.fa.fe<|.seg [] 0 0 []<|.seg [] 0 0 []<|.lfA zsk (v3,[],[]))<|.br (!v3.fam) (.lenB Td.o v3.fh<|.br (decide (0<(v3.fh.length:Int))) (.guard ((0:Int)<=0/\(0:Int)<(((v3.fh.map Td.o).length - 0:Nat):Int)) inferInstance<|.lookB Td.o v3.fh ((0:Int).toNat) fun v39=>.lkY Td.o v3.fh ((0:Int).toNat) v39<|.segA (V.int .i64) v39.fa.fg<|.lkY Td.o v3.fh ((0:Int).toNat) v39<|.lkY Td.o v3.fh ((0:Int).toNat) v39<|.sk<|.holA Td.o v3.fh ((0:Int).toNat) (.agg [.int .i64 v39.fk,.int .i64 v39.fu,.int .i64 v39.fp,.int .i64 v39.fa.ff,.int .i64 v39.fa.fd,.int .i64 v39.fa.fN,.gone,.own 1 (v39.fa.fe.map V.bool),.int .i64 v39.fa.fj]) fun _=>.segA V.bool v39.fa.fe<|.holA Td.o v3.fh ((0:Int).toNat) (.agg [.int .i64 v39.fk,.int .i64 v39.fu,.int .i64 v39.fp,.int .i64 v39.fa.ff,.int .i64 v39.fa.fd,.int .i64 v39.fa.fN,.gone,.own 1 (v39.fa.fe.map V.bool),.int .i64 v39.fa.fj]) fun _=>.holA Td.o v3.fh ((0:Int).toNat) (.agg [.int .i64 v39.fk,.int .i64 v39.fu,.int .i64 v39.fp,.int .i64 v39.fa.ff,.int .i64 v39.fa.fd,.int .i64 v39.fa.fN,.gone,.own 1 (v39.fa.fe.map V.bool),.int .i64 v39.fa.fj]) fun _=>.setI Td.o v3.fh ((0:Int).toNat) (.agg [.int .i64 v39.fk,.int .i64 v39.fu,.int .i64 v39.fp,.int .i64 v39.fa.ff,.int .i64 v39.fa.fd,.int .i64 v39.fa.fN,.gone,.own 1 (v39.fa.fe.map V.bool),.int .i64 v39.fa.fj]) (.agg [.int .i64 v39.fk,.int .i64 v39.fu,.int .i64 v39.fp,.int .i64 v39.fa.ff,.int .i64 v39.fa.fd,.int .i64 v39.fa.fN,.gone,.gone,.int .i64 v39.fa.fj])<|.guard ((0:Int)<=1/\(1:Int)<=((((v3.fh.map Td.o).set (0+(0:Int).toNat) (.agg [.int .i64 v39.fk,.int .i64 v39.fu,.int .i64 v39.fp,.int .i64 v39.fa.ff,.int .i64 v39.fa.fd,.int .i64 v39.fa.fN,.gone,.gone,.int .i64 v39.fa.fj])).length - 0:Nat):Int)/\((((v3.fh.map Td.o).set (0+(0:Int).toNat) (.agg [.int .i64 v39.fk,.int .i64 v39.fu,.int .i64 v39.fp,.int .i64 v39.fa.ff,.int .i64 v39.fa.fd,.int .i64 v39.fa.fN,.gone,.gone,.int .i64 v39.fa.fj])).length - 0:Nat):Int)<=((((v3.fh.map Td.o).set (0+(0:Int).toNat) (.agg [.int .i64 v39.fk,.int .i64 v39.fu,.int .i64 v39.fp,.int .i64 v39.fa.ff,.int .i64 v39.fa.fd,.int .i64 v39.fa.fN,.gone,.gone,.int .i64 v39.fa.fj])).length - 0:Nat):Int)) inferInstance<|.seg ((v3.fh.map Td.o).set (0+(0:Int).toNat) (.agg [.int .i64 v39.fk,.int .i64 v39.fu,.int .i64 v39.fp,.int .i64 v39.fa.ff,.int .i64 v39.fa.fd,.int .i64 v39.fa.fN,.gone,.gone,.int .i64 v39.fa.fj])) (0+(1:Int).toNat) (0+((((v3.fh.map Td.o).set (0+(0:Int).toNat) (.agg [.int .i64 v39.fk,.int .i64 v39.fu,.int .i64 v39.fp,.int .i64 v39.fa.ff,.int .i64 v39.fa.fd,.int .i64 v39.fa.fN,.gone,.gone,.int .i64 v39.fa.fj])).length - 0:Nat):Int).toNat) ((v3.fh.drop (0+(1:Int).toNat)).map Td.o)<|.sk<|.callF (ygz v2 v3.fac) fun(v41:Int)=>.call (yj9 ({ v3 with fh:=(v3.fh.drop (0+(1:Int).toNat)),fam:=true,fc:=v39,fao:=v3.fo,faq:=v41,fap:=v3.fab,fo:=((i64.wrap (v3.fo+1)).tmod 65536) }:Ta)) fun(v43:Tj×Ta)=>.segA (V.int .i64) v43.1.fa.fg<|.segA V.bool v43.1.fa.fe<|.eqL [v43.1.o] (([v43.1]:List Tj).map Tj.o)<|.seg [] 0 0 []<|.segA Tj.o ([v43.1]:List Tj)<|.guard ((([]:List V).length+(([v43.1]:List Tj).map Tj.o).length) * 96<=70368744177664) inferInstance<|.eqL ([]++(([v43.1]:List Tj).map Tj.o)) (([v43.1]:List Tj).map Tj.o)<|.segA Tj.o ([v43.1]:List Tj)<|.segA Td.o v43.2.fh<|.segA (V.int .i64) v43.2.fc.fa.fg<|.segA V.bool v43.2.fc.fa.fe<|.segA Td.o v43.2.fh<|.segA (V.int .i64) v43.2.fc.fa.fg<|.segA V.bool v43.2.fc.fa.fe<|.segA Tj.o ([v43.1]:List Tj)<|.seg [] 0 0 []<|.lfA zsk (v43.2,([v43.1]:List Tj),[]))<|.segA Td.o v3.fh<|.segA (V.int .i64) v3.fc.fa.fg<|.segA V.bool v3.fc.fa.fe<|.segA Td.o v3.fh<|.segA (V.int .i64) v3.fc.fa.fg<|.segA V.bool v3.fc.fa.fe<|.seg [] 0 0 []<|.seg [] 0 0 []<|.lfA zsk (v3,[],[]))<|.segA Td.o v3.fh<|.segA (V.int .i64) v3.fc.fa.fg<|.segA V.bool v3.fc.fa.fe<|.segA Td.o v3.fh<|.segA (V.int .i64) v3.fc.fa.fg<|.segA V.bool v3.fc.fa.fe<|.seg [] 0 0 []<|.seg [] 0 0 []<|.lfA zsk (v3,[],[])) (by kernel_rfl) (cF yuj fun v3=>sA<|sA<|sA<|⟨za0 [],⟨za0 [],bR (cF yxd fun v6=>bR (bR (cF yjd fun v10=>cE yln fun v12=>sA<|sA<|⟨rfl,⟨za0 [],sA<|gU<|⟨List.nil_append _,sA<|bR (lB<|bR (gU<|lK fun v15 h16=>lD h16<|sA<|lD h16<|lD h16<|⟨zb0 _ _ _ _,fun _ _=>sA<|⟨zb0 _ _ _ _,fun _ _=>⟨zb0 _ _ _ _,fun _ _=>⟨zg4 _ _ _ _ _,gU<|⟨zns _ _ _ (by decide),cF yjd fun v17=>cE yln fun v19=>sA<|sA<|⟨rfl,sA<|sA<|gU<|aA<|sA<|sA<|sA<|sA<|sA<|sA<|sA<|sA<|⟨za0 [],rfl⟩⟩⟩⟩⟩⟩⟩)<|sA<|sA<|sA<|sA<|sA<|sA<|sA<|⟨za0 [],rfl⟩)<|sA<|sA<|sA<|sA<|sA<|sA<|sA<|⟨za0 [],rfl⟩⟩⟩⟩)<|sE (fun _=>rfl)<|sE (fun _=>rfl)<|cF ygw fun v20=>sA<|sA<|⟨rfl,sA<|sA<|⟨rfl,⟨rfl,⟨rfl,⟨za0 [],sA<|gU<|⟨List.nil_append _,sA<|cE yvs fun v22=>bR (lB<|bR (gU<|lK fun v25 h26=>lD h26<|sA<|lD h26<|lD h26<|⟨zb0 _ _ _ _,fun _ _=>sA<|⟨zb0 _ _ _ _,fun _ _=>⟨zb0 _ _ _ _,fun _ _=>⟨zg4 _ _ _ _ _,gU<|⟨zns _ _ _ (by decide),cF yjd fun v27=>cE yln fun v29=>sA<|sA<|⟨rfl,⟨za0 [],sA<|gU<|⟨List.nil_append _,sA<|sA<|sA<|sA<|sA<|sA<|sA<|sA<|sA<|rfl⟩⟩⟩⟩⟩⟩⟩⟩)<|sA<|sA<|sA<|sA<|sA<|sA<|⟨za0 [],sA<|rfl⟩)<|sA<|sA<|sA<|sA<|sA<|sA<|⟨za0 [],sA<|rfl⟩⟩⟩⟩⟩⟩⟩)<|bR (lB<|bR (gU<|lK fun v32 h33=>lD h33<|sA<|lD h33<|lD h33<|⟨zb0 _ _ _ _,fun _ _=>sA<|⟨zb0 _ _ _ _,fun _ _=>⟨zb0 _ _ _ _,fun _ _=>⟨zg4 _ _ _ _ _,gU<|⟨zns _ _ _ (by decide),cF yjd fun v34=>cE yln fun v36=>sA<|sA<|⟨rfl,⟨za0 [],sA<|gU<|⟨List.nil_append _,sA<|sA<|sA<|sA<|sA<|sA<|sA<|sA<|⟨za0 [],rfl⟩⟩⟩⟩⟩⟩⟩⟩⟩)<|sA<|sA<|sA<|sA<|sA<|sA<|⟨za0 [],⟨za0 [],rfl⟩⟩)<|sA<|sA<|sA<|sA<|sA<|sA<|⟨za0 [],⟨za0 [],rfl⟩⟩)<|bR (lB<|bR (gU<|lK fun v39 h40=>lD h40<|sA<|lD h40<|lD h40<|⟨zb0 _ _ _ _,fun _ _=>sA<|⟨zb0 _ _ _ _,fun _ _=>⟨zb0 _ _ _ _,fun _ _=>⟨zg4 _ _ _ _ _,gU<|⟨zns _ _ _ (by decide),cF yjd fun v41=>cE yln fun v43=>sA<|sA<|⟨rfl,⟨za0 [],sA<|gU<|⟨List.nil_append _,sA<|sA<|sA<|sA<|sA<|sA<|sA<|sA<|⟨za0 [],rfl⟩⟩⟩⟩⟩⟩⟩⟩⟩)<|sA<|sA<|sA<|sA<|sA<|sA<|⟨za0 [],⟨za0 [],rfl⟩⟩)<|sA<|sA<|sA<|sA<|sA<|sA<|⟨za0 [],⟨za0 [],rfl⟩⟩⟩⟩) fun r=>⟨rfl,yzw r⟩
def yp7 (v1:Tb) (v2:Int):Option Bool:=some (decide (v1.fk=v2))
def yre (v1:Tb) (v2:Int):Ctr:=⟨90,[v1.i,.eptr [.I v2] 0],[],Bool,yp7 v1 v2,rB⟩
theorem qa5 {v1:Tb} {v2:Int}:(yre v1 v2).okF tab:=okF_of rfl rfl (.lfA rB (decide (v1.fk=v2))) (by kernel_rfl) rfl
def zjx (v1:List Tb) (v2:Int) (k:Int) (s:Unit):St:=⟨sv 8 [(0,.imm 13 (v1.map Tb.i)),(1,.clo 90 [.agg [.I v2]]),(4,.I (v1.length:Int)),(5,.I k)],[]⟩
def zhc (v1:List Tb) (v2:Int):Int->Ex×St:=fun p=>(.ret,⟨sv 8 [(0,.imm 13 (v1.map Tb.i)),(1,.clo 90 [.agg [.I v2]]),(2,.I p),(3,.I p),(4,.I (v1.length:Int)),(5,.I p),(6,.bool true),(7,.bool true)],[]⟩)
def zh3 (v1:List Tb) (v2:Int):Unit->Ex×St:=fun p=>((.exit 0),⟨sv 8 [(0,.imm 13 (v1.map Tb.i)),(1,.clo 90 [.agg [.I v2]]),(4,.I (v1.length:Int)),(5,.I (v1.length:Int)),(6,.bool false)],[]⟩)
def zip (v1:List Tb) (v2:Int) (k:Int):=zcd (zjx v1 v2 k) (Sum.elim (zhc v1 v2) (zh3 v1 v2))
def zpu (v1:List Tb) (v2:Int) (k:Int) (x:Tb) (s:Unit):Option ((Unit)⊕(Int⊕Unit)):=(yp7 x v2).bind fun v17=>(bif v17 then(some (.inr (.inl k))) else(some (.inl ())))
def ya9 (v1:List Tb) (v2:Int) (s:Unit):Option (Int⊕Unit):=some ((.inr ()))
def zkb (v1:List Tb) (v2:Int) (s:Unit):Option (Int⊕Unit):=if v1.length<=9223372036854775806 then zab (zpu v1 v2) (ya9 v1 v2) v1 0 s else none
def zpj (v1:List Tb) (v2:Int) (s:Unit):Lc2:=⟨8,ybf,0,[2,3,6,7],some (zjx v1 v2 0 s),Int,Unit,zkb v1 v2 s,zhc v1 v2,zh3 v1 v2⟩
theorem zyg {v1:List Tb} {v2:Int} {s:Unit}:(zpj v1 v2 s).ok tab:=zbr (list_oky (J:=zjx v1 v2) (o:=(Sum.elim (zhc v1 v2) (zh3 v1 v2))) v1 (B:=fun k x s=>(.kb (decide (k<(v1.length:Int))) true<|.kx Tb.i v1 k x<|.callF (yre x v2) fun v17=>.br v17 (.lfA (zip v1 v2 (w1 k)) (.inr (.inl k)))<|.lfA (zip v1 v2 (w1 k)) (.inl ()))) (E:=fun s=>(.kb (decide ((v1.length:Int)<(v1.length:Int))) false<|.lfA (zip v1 v2 0) (.inr (.inr ())))) (by kernel_rfl) (fun d x t s he=>⟨ltX he,kX he<|cF qa5 fun v17=>bR rfl<|rfl⟩) (ho2 (fun _=>rfl) fun _=>rfl) (fun s=>⟨ltE _,rfl⟩) s)
def zul (v1:List Tb) (v2:Int):Option Int:=(zkb v1 v2 ()).bind (ze8 (fun (v20:Int)=>(some v20)) (fun (v21:Unit)=>(some (-1))))
def yec (v1:List Tb) (v2:Int):Ctr:=⟨56,[.imm 13 (v1.map Tb.i),.clo 90 [.agg [.I v2]]],[],Int,zul v1 v2,rI⟩
theorem yku {v1:List Tb} {v2:Int}:(yec v1 v2).okF tab:=okF_of rfl rfl (.lenA Tb.i v1<|.lp2 (zpj v1 v2 ()) (fun (v20:Int)=>.lfA rI v20) (fun (v21:Unit)=>.lfA rI (-1)):Tree Int _) (by kernel_rfl) (lA<|lQ zyg (fun v20=>rfl) (fun v21=>rfl))
def yns (v1:Tc):Option Bool:=some (decide (v1.fak≠0))
def ysm (v1:Tc):Ctr:=⟨98,[v1.i],[],Bool,yns v1,rB⟩
theorem yyj {v1:Tc}:(ysm v1).okF tab:=okF_of rfl rfl (.lfA rB (decide (v1.fak≠0))) (by kernel_rfl) rfl
def zs7 (v1:List Tc) (k:Int) (s:Unit):St:=⟨sv 8 [(0,.imm 6 (v1.map Tc.i)),(1,.clo 98 []),(4,.I (v1.length:Int)),(5,.I k)],[]⟩
def znu (v1:List Tc):Int->Ex×St:=fun p=>(.ret,⟨sv 8 [(0,.imm 6 (v1.map Tc.i)),(1,.clo 98 []),(2,.I p),(3,.I p),(4,.I (v1.length:Int)),(5,.I p),(6,.bool true),(7,.bool true)],[]⟩)
def zng (v1:List Tc):Unit->Ex×St:=fun p=>((.exit 0),⟨sv 8 [(0,.imm 6 (v1.map Tc.i)),(1,.clo 98 []),(4,.I (v1.length:Int)),(5,.I (v1.length:Int)),(6,.bool false)],[]⟩)
def zqy (v1:List Tc) (k:Int):=zcd (zs7 v1 k) (Sum.elim (znu v1) (zng v1))
def zzq (v1:List Tc) (k:Int) (x:Tc) (s:Unit):Option ((Unit)⊕(Int⊕Unit)):=(yns x).bind fun v16=>(bif v16 then(some (.inr (.inl k))) else(some (.inl ())))
def yft (v1:List Tc) (s:Unit):Option (Int⊕Unit):=some ((.inr ()))
def zrj (v1:List Tc) (s:Unit):Option (Int⊕Unit):=if v1.length<=9223372036854775806 then zab (zzq v1) (yft v1) v1 0 s else none
def yay (v1:List Tc) (s:Unit):Lc2:=⟨8,ye6,0,[2,3,6,7],some (zs7 v1 0 s),Int,Unit,zrj v1 s,znu v1,zng v1⟩
theorem yi7 {v1:List Tc} {s:Unit}:(yay v1 s).ok tab:=zbr (list_oky (J:=zs7 v1) (o:=(Sum.elim (znu v1) (zng v1))) v1 (B:=fun k x s=>(.kb (decide (k<(v1.length:Int))) true<|.kx Tc.i v1 k x<|.callF (ysm x) fun v16=>.br v16 (.lfA (zqy v1 (w1 k)) (.inr (.inl k)))<|.lfA (zqy v1 (w1 k)) (.inl ()))) (E:=fun s=>(.kb (decide ((v1.length:Int)<(v1.length:Int))) false<|.lfA (zqy v1 0) (.inr (.inr ())))) (by kernel_rfl) (fun d x t s he=>⟨ltX he,kX he<|cF yyj fun v16=>bR rfl<|rfl⟩) (ho2 (fun _=>rfl) fun _=>rfl) (fun s=>⟨ltE _,rfl⟩) s)
def ym8 (v1:List Tc):Option Int:=(zrj v1 ()).bind (ze8 (fun (v19:Int)=>(some v19)) (fun (v20:Unit)=>(some (-1))))
def ypk (v1:List Tc):Ctr:=⟨97,[.imm 6 (v1.map Tc.i),.clo 98 []],[],Int,ym8 v1,rI⟩
theorem yvh {v1:List Tc}:(ypk v1).okF tab:=okF_of rfl rfl (.lenA Tc.i v1<|.lp2 (yay v1 ()) (fun (v19:Int)=>.lfA rI v19) (fun (v20:Unit)=>.lfA rI (-1)):Tree Int _) (by kernel_rfl) (lA<|lQ yi7 (fun v19=>rfl) (fun v20=>rfl))
def zr8 (s:List Bool):St:=⟨sv 4 [(2,.own 1 (s.map V.bool))],[]⟩
def zmt:(List Bool)->Ex×St:=fun p=>((.exit 0),⟨sv 4 [(2,.own 1 (p.map V.bool)),(3,.bool false)],[]⟩)
def yau:=zcd (zr8) (zmt)
def yhy (s:List Bool):Option ((List Bool)⊕((List Bool))):=bif decide (((s.length:Int).tmod 8)≠0) then(if ((s.map V.bool).length+(([false]:List Bool).map V.bool).length) * 1<=70368744177664 then(some (.inl (s++([false]:List Bool)))) else none) else(some (.inr s))
def zy9 (s:List Bool):Option ((List Bool)):=zel (yhy) BIG s
def zyl (s:List Bool):Lct:=⟨4,yf5,0,[0,1,3],some (zr8 s),List Bool,zy9 s,zmt⟩
theorem yfj {s:List Bool}:(zyl s).ok tab:=zbw (loop_oky (J:=zr8) (o:=(zmt)) (B:=fun(s:List Bool)=>(.lenB V.bool s<|.sk<|.br (decide (((s.length:Int).tmod 8)≠0)) (.eqL [.bool false] (([false]:List Bool).map V.bool)<|.segA V.bool s<|.segA V.bool ([false]:List Bool)<|.guard (((s.map V.bool).length+(([false]:List Bool).map V.bool).length) * 1<=70368744177664) inferInstance<|.appA V.bool s ([false]:List Bool)<|.segA V.bool (s++([false]:List Bool))<|.lfA (yau) (.inl (s++([false]:List Bool))))<|.lfA (yau) (.inr s))) (by kernel_rfl) (fun s=>lB<|bR (⟨rfl,sA<|sA<|gU<|aA<|sA<|rfl⟩)<|rfl) (fun _=>rfl) BIG s)
def ymj:List Bool->V×List (List V):=fun r=>(.own 1 (r.map V.bool),[])
def ynr (v1:List Bool):Option (List Bool):=(if v1.length * 1<=70368744177664 then some v1 else none).bind fun v2=>((zy9 v2).bind fun v8=>(some v8))
def yph (v1:List Bool):Ctr:=⟨99,[.imm 1 (v1.map V.bool)],[],List Bool,ynr v1,ymj⟩
theorem qaj (r:List Bool):(ymj r).1.fresh=true:=by simp only [ymj,V.fresh,V.freshL,za4 (f:=V.bool) (fun _=>rfl),Bool.and_self,Bool.true_and]
theorem yt2 {v1:List Bool}:(yph v1).okF tab:=okF_of rfl rfl (.callF (ygc v1) fun(v2:List Bool)=>.segA V.bool v2<|.lp (zyl v2) fun(v8:List Bool)=>.segA V.bool v8<|.lfA ymj v8) (by kernel_rfl) (cF yj6 fun v2=>sA<|lP yfj fun v8=>sA<|rfl) fun r=>⟨rfl,qaj r⟩
def yqy (v1:Ti):Option Tc:=bif decide (v1.ff=15) then((yae v1).bind fun v3=>(some ({ v1 with fak:=0,fN:=v3,fg:=[],fe:=[] }:Tc))) else(bif decide (v1.ff=16) then((yae v1).bind fun v6=>(some ({ v1 with fak:=0,fN:=v6,fg:=[],fe:=[] }:Tc))) else((if v1.fe.length * 1<=70368744177664 then some v1.fe else none).bind fun v8=>((if v1.fg.length * 8<=70368744177664 then some v1.fg else none).bind fun v10=>(some ({ v1 with fak:=0,fN:=0,fg:=v10,fe:=v8 }:Tc)))))
def yq9 (v1:Ti):Ctr:=⟨100,[v1.i],[],Tc,yqy v1,(rv Tc.o)⟩
theorem yyv (r:Tc):((rv Tc.o) r).1.fresh=true:=Tc.o_f r
theorem yxx {v1:Ti}:(yq9 v1).okF tab:=okF_of rfl rfl (.seg [] 0 0 []<|.seg [] 0 0 []<|.br (decide (v1.ff=15)) (.callF (ydj v1) fun(v3:Int)=>.seg [] 0 0 []<|.seg [] 0 0 []<|.seg [] 0 0 []<|.seg [] 0 0 []<|.lfA (rv Tc.o) ({ v1 with fak:=0,fN:=v3,fg:=[],fe:=[] }:Tc))<|.br (decide (v1.ff=16)) (.callF (ydj v1) fun(v6:Int)=>.seg [] 0 0 []<|.seg [] 0 0 []<|.seg [] 0 0 []<|.seg [] 0 0 []<|.lfA (rv Tc.o) ({ v1 with fak:=0,fN:=v6,fg:=[],fe:=[] }:Tc))<|.callF (ygc v1.fe) fun(v8:List Bool)=>.callF (yjm v1.fg) fun(v10:List Int)=>.segA V.bool v8<|.segA (V.int .i64) v10<|.segA (V.int .i64) v10<|.segA V.bool v8<|.segA (V.int .i64) v10<|.segA V.bool v8<|.lfA (rv Tc.o) ({ v1 with fak:=0,fN:=0,fg:=v10,fe:=v8 }:Tc)) (by kernel_rfl) ⟨za0 [],⟨za0 [],bR (cF yee fun v3=>⟨za0 [],⟨za0 [],⟨za0 [],⟨za0 [],rfl⟩⟩⟩⟩)<|bR (cF yee fun v6=>⟨za0 [],⟨za0 [],⟨za0 [],⟨za0 [],rfl⟩⟩⟩⟩)<|cF yj6 fun v8=>cF ylf fun v10=>sA<|sA<|sA<|sA<|sA<|sA<|rfl⟩⟩ fun r=>⟨rfl,yyv r⟩
def zra (v1:Ti) (v2:List Te) (v3:List Tc) (k:Int) (s:Unit):St:=⟨sv 30 [(1,.imm 8 (v2.map Te.i)),(2,.imm 6 (v3.map Tc.i)),(3,.ref (.box 0) 0 []),(4,.ref (.box 1) 0 []),(13,.imm 6 (v3.map Tc.i)),(14,.I (v3.length:Int)),(15,.I k)],[[.I v1.ff,.I v1.fd,.I v1.fN,.imm 1 (v1.fg.map (V.int .i64)),.imm 1 (v1.fe.map V.bool),.I v1.fj],[.I 0,.I 0,.I 0,.I 0,.own 1 ([]:List V),.own 1 ([]:List V)]]⟩
def zo1 (v1:Ti) (v2:List Te) (v3:List Tc):(Int×Tc×Tc)->Ex×St:=fun p=>(.ret,⟨sv 30 [(1,.imm 8 (v2.map Te.i)),(2,.imm 6 (v3.map Tc.i)),(3,.ref (.box 0) 0 []),(4,.ref (.box 1) 0 []),(5,.I p.1),(6,.ref (.box 2) 0 []),(13,.imm 6 (v3.map Tc.i)),(14,.I (v3.length:Int)),(15,.I p.1),(16,.bool true),(17,.bool true)],[[.I v1.ff,.I v1.fd,.I v1.fN,.imm 1 (v1.fg.map (V.int .i64)),.imm 1 (v1.fe.map V.bool),.I v1.fj],[.I p.2.1.ff,.I p.2.1.fak,.I p.2.1.fd,.I p.2.1.fN,.own 1 (p.2.1.fg.map (V.int .i64)),.own 1 (p.2.1.fe.map V.bool)],[.I p.2.2.ff,.I p.2.2.fak,.I p.2.2.fd,.I p.2.2.fN,.imm 1 (p.2.2.fg.map (V.int .i64)),.imm 1 (p.2.2.fe.map V.bool)]]⟩)
def zop (v1:Ti) (v2:List Te) (v3:List Tc):Unit->Ex×St:=fun p=>((.exit 0),⟨sv 30 [(1,.imm 8 (v2.map Te.i)),(2,.imm 6 (v3.map Tc.i)),(3,.ref (.box 0) 0 []),(4,.ref (.box 1) 0 []),(13,.imm 6 (v3.map Tc.i)),(14,.I (v3.length:Int)),(15,.I (v3.length:Int)),(16,.bool false)],[[.I v1.ff,.I v1.fd,.I v1.fN,.imm 1 (v1.fg.map (V.int .i64)),.imm 1 (v1.fe.map V.bool),.I v1.fj],[.I 0,.I 0,.I 0,.I 0,.own 1 ([]:List V),.own 1 ([]:List V)]]⟩)
def zqr (v1:Ti) (v2:List Te) (v3:List Tc) (k:Int):=zcd (zra v1 v2 v3 k) (Sum.elim (zo1 v1 v2 v3) (zop v1 v2 v3))
def zwh (v1:Ti) (v2:List Te) (v3:List Tc) (k:Int) (x:Tc) (s:Unit):Option ((Unit)⊕((Int×Tc×Tc)⊕Unit)):=((v2)[k.toNat]?).bind fun v32=>((yf4 v32.fa x).bind fun v34=>(bif !v34 then((zxn v1 4).bind fun v37=>(some (.inr (.inl (k,v37,x))))) else(some (.inl ()))))
def zx6 (v1:Ti) (v2:List Te) (v3:List Tc) (s:Unit):Option ((Int×Tc×Tc)⊕Unit):=some ((.inr ()))
def zm0 (v1:Ti) (v2:List Te) (v3:List Tc) (s:Unit):Option ((Int×Tc×Tc)⊕Unit):=if v3.length<=9223372036854775806 then zab (zwh v1 v2 v3) (zx6 v1 v2 v3) v3 0 s else none
def zy1 (v1:Ti) (v2:List Te) (v3:List Tc) (s:Unit):Lc2:=⟨30,zud,2,[0,5,6,7,8,9,10,11,12,16,17,18,19,20,21,22,23,24,25,26,27,28,29],some (zra v1 v2 v3 0 s),Int×Tc×Tc,Unit,zm0 v1 v2 v3 s,zo1 v1 v2 v3,zop v1 v2 v3⟩
theorem yhw {v1:Ti} {v2:List Te} {v3:List Tc} {s:Unit}:(zy1 v1 v2 v3 s).ok tab:=zbr (list_oky (J:=zra v1 v2 v3) (o:=(Sum.elim (zo1 v1 v2 v3) (zop v1 v2 v3))) v3 (B:=fun k x s=>(.kb (decide (k<(v3.length:Int))) true<|.kx Tc.i v3 k x<|.ob (0<=k)<|.lookA Te.i v2 (k.toNat) fun v32=>.callF (ync v32.fa x) fun v34=>.br (!v34) (.callF (ye2 v1 4) fun(v37:Tc)=>.segA (V.int .i64) v37.fg<|.segA V.bool v37.fe<|.lfA (zqr v1 v2 v3 (w1 k)) (.inr (.inl (k,v37,x))))<|.lfA (zqr v1 v2 v3 (w1 k)) (.inl ()))) (E:=fun s=>(.kb (decide ((v3.length:Int)<(v3.length:Int))) false<|.lfA (zqr v1 v2 v3 0) (.inr (.inr ())))) (by kernel_rfl) (fun d x t s he=>⟨ltX he,kX he<|⟨Int.natCast_nonneg _,kA fun v32=>cF ynw fun v34=>bR (cF ygw fun v37=>sA<|sA<|rfl)<|rfl⟩⟩) (ho2 (fun _=>rfl) fun _=>rfl) (fun s=>⟨ltE _,rfl⟩) s)
def zrt (v1:Ti) (v2:List Te) (v3:List Tc) (k:Int) (s:List Bool):St:=⟨sv 30 [(1,.imm 8 (v2.map Te.i)),(2,.imm 6 (v3.map Tc.i)),(4,.ref (.box 1) 0 []),(8,.ref (.box 2) 0 []),(21,.imm 6 (v3.map Tc.i)),(22,.I (v3.length:Int)),(23,.I k)],[[.I v1.ff,.I v1.fd,.I v1.fN,.imm 1 (v1.fg.map (V.int .i64)),.imm 1 (v1.fe.map V.bool),.I v1.fj],[.I 0,.I 0,.I 0,.I 0,.own 1 ([]:List V),.own 1 ([]:List V)],[.I v1.ff,.I 0,.I 0,.I 0,.own 1 ([]:List V),.own 1 (s.map V.bool)]]⟩
def zo4 (v1:Ti) (v2:List Te) (v3:List Tc):(List Bool)->Ex×St:=fun p=>((.exit 3),⟨sv 30 [(1,.imm 8 (v2.map Te.i)),(2,.imm 6 (v3.map Tc.i)),(4,.ref (.box 1) 0 []),(8,.ref (.box 2) 0 []),(21,.imm 6 (v3.map Tc.i)),(22,.I (v3.length:Int)),(23,.I (v3.length:Int)),(24,.bool false)],[[.I v1.ff,.I v1.fd,.I v1.fN,.imm 1 (v1.fg.map (V.int .i64)),.imm 1 (v1.fe.map V.bool),.I v1.fj],[.I 0,.I 0,.I 0,.I 0,.own 1 ([]:List V),.own 1 ([]:List V)],[.I v1.ff,.I 0,.I 0,.I 0,.own 1 ([]:List V),.own 1 (p.map V.bool)]]⟩)
def ybq (v1:Ti) (v2:List Te) (v3:List Tc) (k:Int):=zcd (zrt v1 v2 v3 k) (zo4 v1 v2 v3)
def yfq (v1:Ti) (v2:List Te) (v3:List Tc) (k:Int) (x:Tc) (s:List Bool):Option ((List Bool)⊕((List Bool))):=((v2)[k.toNat]?).bind fun v62=>(if (0:Int)<=0/\(0:Int)<=(if v62.fa.fN<(x.fe.length:Int) then v62.fa.fN else(x.fe.length:Int))/\(if v62.fa.fN<(x.fe.length:Int) then v62.fa.fN else(x.fe.length:Int))<=(((x.fe.map V.bool).length:Nat):Int) then(if ((s.map V.bool).length+(((x.fe.take (((if v62.fa.fN<(x.fe.length:Int) then v62.fa.fN else(x.fe.length:Int)):Int).toNat)).drop ((0:Int).toNat)).map V.bool).length) * 1<=70368744177664 then(some (.inl (s++((x.fe.take (((if v62.fa.fN<(x.fe.length:Int) then v62.fa.fN else(x.fe.length:Int)):Int).toNat)).drop ((0:Int).toNat))))) else none) else none)
def yhm (v1:Ti) (v2:List Te) (v3:List Tc) (s:List Bool):Option ((List Bool)):=some (s)
def ya7 (v1:Ti) (v2:List Te) (v3:List Tc) (s:List Bool):Option ((List Bool)):=if v3.length<=9223372036854775806 then zab (yfq v1 v2 v3) (yhm v1 v2 v3) v3 0 s else none
def zz2 (v1:Ti) (v2:List Te) (v3:List Tc) (s:List Bool):Lct:=⟨30,ymx,3,[0,3,5,6,7,9,10,11,12,13,14,15,16,17,18,19,20,24,25,26,27,28,29],some (zrt v1 v2 v3 0 s),List Bool,ya7 v1 v2 v3 s,zo4 v1 v2 v3⟩
theorem yfi {v1:Ti} {v2:List Te} {v3:List Tc} {s:List Bool}:(zz2 v1 v2 v3 s).ok tab:=zbw (list_oky (J:=zrt v1 v2 v3) (o:=(zo4 v1 v2 v3)) v3 (B:=fun k x s=>(.kb (decide (k<(v3.length:Int))) true<|.kx Tc.i v3 k x<|.lenA V.bool x.fe<|.ob (0<=k)<|.lookA Te.i v2 (k.toNat) fun v62=>.guard ((0:Int)<=0/\(0:Int)<=(if v62.fa.fN<(x.fe.length:Int) then v62.fa.fN else(x.fe.length:Int))/\(if v62.fa.fN<(x.fe.length:Int) then v62.fa.fN else(x.fe.length:Int))<=(((x.fe.map V.bool).length:Nat):Int)) inferInstance<|.cutA V.bool x.fe ((0:Int).toNat) (((if v62.fa.fN<(x.fe.length:Int) then v62.fa.fN else(x.fe.length:Int)):Int).toNat)<|.segA V.bool s<|.guard (((s.map V.bool).length+(((x.fe.take (((if v62.fa.fN<(x.fe.length:Int) then v62.fa.fN else(x.fe.length:Int)):Int).toNat)).drop ((0:Int).toNat)).map V.bool).length) * 1<=70368744177664) inferInstance<|.appA V.bool s ((x.fe.take (((if v62.fa.fN<(x.fe.length:Int) then v62.fa.fN else(x.fe.length:Int)):Int).toNat)).drop ((0:Int).toNat))<|.segA V.bool (s++((x.fe.take (((if v62.fa.fN<(x.fe.length:Int) then v62.fa.fN else(x.fe.length:Int)):Int).toNat)).drop ((0:Int).toNat)))<|.lfA (ybq v1 v2 v3 (w1 k)) (.inl (s++((x.fe.take (((if v62.fa.fN<(x.fe.length:Int) then v62.fa.fN else(x.fe.length:Int)):Int).toNat)).drop ((0:Int).toNat)))))) (E:=fun s=>(.kb (decide ((v3.length:Int)<(v3.length:Int))) false<|.lfA (ybq v1 v2 v3 0) (.inr s))) (by kernel_rfl) (fun d x t s he=>⟨ltX he,kX he<|lA<|⟨Int.natCast_nonneg _,kA fun v62=>gU<|⟨zh2 _ _ _ _,sA<|gU<|aA<|sA<|rfl⟩⟩⟩) (fun _=>rfl) (fun s=>⟨ltE _,rfl⟩) s)
def ztm (v1:Ti) (v2:List Te) (v3:List Tc) (k:Int) (s:List Bool):St:=⟨sv 30 [(1,.imm 8 (v2.map Te.i)),(2,.imm 6 (v3.map Tc.i)),(4,.ref (.box 1) 0 []),(8,.ref (.box 2) 0 []),(21,.imm 6 (v3.map Tc.i)),(22,.I (v3.length:Int)),(23,.I k)],[[.I v1.ff,.I v1.fd,.I v1.fN,.imm 1 (v1.fg.map (V.int .i64)),.imm 1 (v1.fe.map V.bool),.I v1.fj],[.I 0,.I 0,.I 0,.I 0,.own 1 ([]:List V),.own 1 ([]:List V)],[.I v1.ff,.I 0,.I 0,.I 0,.own 1 ([]:List V),.own 1 (s.map V.bool)]]⟩
def zna (v1:Ti) (v2:List Te) (v3:List Tc):(List Bool)->Ex×St:=fun p=>((.exit 3),⟨sv 30 [(1,.imm 8 (v2.map Te.i)),(2,.imm 6 (v3.map Tc.i)),(4,.ref (.box 1) 0 []),(8,.ref (.box 2) 0 []),(21,.imm 6 (v3.map Tc.i)),(22,.I (v3.length:Int)),(23,.I (v3.length:Int)),(24,.bool false)],[[.I v1.ff,.I v1.fd,.I v1.fN,.imm 1 (v1.fg.map (V.int .i64)),.imm 1 (v1.fe.map V.bool),.I v1.fj],[.I 0,.I 0,.I 0,.I 0,.own 1 ([]:List V),.own 1 ([]:List V)],[.I v1.ff,.I 0,.I 0,.I 0,.own 1 ([]:List V),.own 1 (p.map V.bool)]]⟩)
def ybo (v1:Ti) (v2:List Te) (v3:List Tc) (k:Int):=zcd (ztm v1 v2 v3 k) (zna v1 v2 v3)
def yh4 (v1:Ti) (v2:List Te) (v3:List Tc) (k:Int) (x:Tc) (s:List Bool):Option ((List Bool)⊕((List Bool))):=((v2)[k.toNat]?).bind fun v81=>(if (0:Int)<=0/\(0:Int)<=(if v81.fa.fN<(x.fe.length:Int) then v81.fa.fN else(x.fe.length:Int))/\(if v81.fa.fN<(x.fe.length:Int) then v81.fa.fN else(x.fe.length:Int))<=(((x.fe.map V.bool).length:Nat):Int) then(if ((s.map V.bool).length+(((x.fe.take (((if v81.fa.fN<(x.fe.length:Int) then v81.fa.fN else(x.fe.length:Int)):Int).toNat)).drop ((0:Int).toNat)).map V.bool).length) * 1<=70368744177664 then(some (.inl (s++((x.fe.take (((if v81.fa.fN<(x.fe.length:Int) then v81.fa.fN else(x.fe.length:Int)):Int).toNat)).drop ((0:Int).toNat))))) else none) else none)
def yik (v1:Ti) (v2:List Te) (v3:List Tc) (s:List Bool):Option ((List Bool)):=some (s)
def zwk (v1:Ti) (v2:List Te) (v3:List Tc) (s:List Bool):Option ((List Bool)):=if v3.length<=9223372036854775806 then zab (yh4 v1 v2 v3) (yik v1 v2 v3) v3 0 s else none
def zyd (v1:Ti) (v2:List Te) (v3:List Tc) (s:List Bool):Lct:=⟨30,ymx,3,[0,3,5,6,7,9,10,11,12,13,14,15,16,17,18,19,20,24,25,26,27,28,29],some (ztm v1 v2 v3 0 s),List Bool,zwk v1 v2 v3 s,zna v1 v2 v3⟩
theorem yi3 {v1:Ti} {v2:List Te} {v3:List Tc} {s:List Bool}:(zyd v1 v2 v3 s).ok tab:=zbw (list_oky (J:=ztm v1 v2 v3) (o:=(zna v1 v2 v3)) v3 (B:=fun k x s=>(.kb (decide (k<(v3.length:Int))) true<|.kx Tc.i v3 k x<|.lenA V.bool x.fe<|.ob (0<=k)<|.lookA Te.i v2 (k.toNat) fun v81=>.guard ((0:Int)<=0/\(0:Int)<=(if v81.fa.fN<(x.fe.length:Int) then v81.fa.fN else(x.fe.length:Int))/\(if v81.fa.fN<(x.fe.length:Int) then v81.fa.fN else(x.fe.length:Int))<=(((x.fe.map V.bool).length:Nat):Int)) inferInstance<|.cutA V.bool x.fe ((0:Int).toNat) (((if v81.fa.fN<(x.fe.length:Int) then v81.fa.fN else(x.fe.length:Int)):Int).toNat)<|.segA V.bool s<|.guard (((s.map V.bool).length+(((x.fe.take (((if v81.fa.fN<(x.fe.length:Int) then v81.fa.fN else(x.fe.length:Int)):Int).toNat)).drop ((0:Int).toNat)).map V.bool).length) * 1<=70368744177664) inferInstance<|.appA V.bool s ((x.fe.take (((if v81.fa.fN<(x.fe.length:Int) then v81.fa.fN else(x.fe.length:Int)):Int).toNat)).drop ((0:Int).toNat))<|.segA V.bool (s++((x.fe.take (((if v81.fa.fN<(x.fe.length:Int) then v81.fa.fN else(x.fe.length:Int)):Int).toNat)).drop ((0:Int).toNat)))<|.lfA (ybo v1 v2 v3 (w1 k)) (.inl (s++((x.fe.take (((if v81.fa.fN<(x.fe.length:Int) then v81.fa.fN else(x.fe.length:Int)):Int).toNat)).drop ((0:Int).toNat)))))) (E:=fun s=>(.kb (decide ((v3.length:Int)<(v3.length:Int))) false<|.lfA (ybo v1 v2 v3 0) (.inr s))) (by kernel_rfl) (fun d x t s he=>⟨ltX he,kX he<|lA<|⟨Int.natCast_nonneg _,kA fun v81=>gU<|⟨zh2 _ _ _ _,sA<|gU<|aA<|sA<|rfl⟩⟩⟩) (fun _=>rfl) (fun s=>⟨ltE _,rfl⟩) s)
def zts (v1:Ti) (v3:List Tc) (k:Int) (s:List Int):St:=⟨sv 30 [(2,.imm 6 (v3.map Tc.i)),(4,.ref (.box 1) 0 []),(8,.ref (.box 2) 0 []),(26,.imm 6 (v3.map Tc.i)),(27,.I (v3.length:Int)),(28,.I k)],[[.I v1.ff,.I v1.fd,.I v1.fN,.imm 1 (v1.fg.map (V.int .i64)),.imm 1 (v1.fe.map V.bool),.I v1.fj],[.I 0,.I 0,.I 0,.I 0,.own 1 ([]:List V),.own 1 ([]:List V)],[.I v1.ff,.I 0,.I 0,.I 0,.own 1 (s.map (V.int .i64)),.own 1 ([]:List V)]]⟩
def zm9 (v1:Ti) (v3:List Tc):(List Int)->Ex×St:=fun p=>((.exit 5),⟨sv 30 [(2,.imm 6 (v3.map Tc.i)),(4,.ref (.box 1) 0 []),(8,.ref (.box 2) 0 []),(26,.imm 6 (v3.map Tc.i)),(27,.I (v3.length:Int)),(28,.I (v3.length:Int)),(29,.bool false)],[[.I v1.ff,.I v1.fd,.I v1.fN,.imm 1 (v1.fg.map (V.int .i64)),.imm 1 (v1.fe.map V.bool),.I v1.fj],[.I 0,.I 0,.I 0,.I 0,.own 1 ([]:List V),.own 1 ([]:List V)],[.I v1.ff,.I 0,.I 0,.I 0,.own 1 (p.map (V.int .i64)),.own 1 ([]:List V)]]⟩)
def ybh (v1:Ti) (v3:List Tc) (k:Int):=zcd (zts v1 v3 k) (zm9 v1 v3)
def ygy (v1:Ti) (v3:List Tc) (k:Int) (x:Tc) (s:List Int):Option ((List Int)⊕((List Int))):=if((s.map (V.int .i64)).length+(x.fg.map (V.int .i64)).length) * 8<=70368744177664 then(some (.inl (s++x.fg))) else none
def yiy (v1:Ti) (v3:List Tc) (s:List Int):Option ((List Int)):=some (s)
def zww (v1:Ti) (v3:List Tc) (s:List Int):Option ((List Int)):=if v3.length<=9223372036854775806 then zab (ygy v1 v3) (yiy v1 v3) v3 0 s else none
def zx7 (v1:Ti) (v3:List Tc) (s:List Int):Lct:=⟨30,zue,3,[0,1,3,5,6,7,9,10,11,12,13,14,15,16,17,18,19,20,21,22,23,24,25,29],some (zts v1 v3 0 s),List Int,zww v1 v3 s,zm9 v1 v3⟩
theorem yfo {v1:Ti} {v3:List Tc} {s:List Int}:(zx7 v1 v3 s).ok tab:=zbw (list_oky (J:=zts v1 v3) (o:=(zm9 v1 v3)) v3 (B:=fun k x s=>(.kb (decide (k<(v3.length:Int))) true<|.kx Tc.i v3 k x<|.segA (V.int .i64) s<|.guard (((s.map (V.int .i64)).length+(x.fg.map (V.int .i64)).length) * 8<=70368744177664) inferInstance<|.appA (V.int .i64) s x.fg<|.segA (V.int .i64) (s++x.fg)<|.lfA (ybh v1 v3 (w1 k)) (.inl (s++x.fg)))) (E:=fun s=>(.kb (decide ((v3.length:Int)<(v3.length:Int))) false<|.lfA (ybh v1 v3 0) (.inr s))) (by kernel_rfl) (fun d x t s he=>⟨ltX he,kX he<|sA<|gU<|aA<|sA<|rfl⟩) (fun _=>rfl) (fun s=>⟨ltE _,rfl⟩) s)
def zsz (v1:Ti) (v3:List Tc) (k:Int) (s:List Int):St:=⟨sv 30 [(2,.imm 6 (v3.map Tc.i)),(4,.ref (.box 1) 0 []),(8,.ref (.box 2) 0 []),(26,.imm 6 (v3.map Tc.i)),(27,.I (v3.length:Int)),(28,.I k)],[[.I v1.ff,.I v1.fd,.I v1.fN,.imm 1 (v1.fg.map (V.int .i64)),.imm 1 (v1.fe.map V.bool),.I v1.fj],[.I 0,.I 0,.I 0,.I 0,.own 1 ([]:List V),.own 1 ([]:List V)],[.I v1.ff,.I 0,.I 0,.I 0,.own 1 (s.map (V.int .i64)),.own 1 ([]:List V)]]⟩
def zom (v1:Ti) (v3:List Tc):(List Int)->Ex×St:=fun p=>((.exit 5),⟨sv 30 [(2,.imm 6 (v3.map Tc.i)),(4,.ref (.box 1) 0 []),(8,.ref (.box 2) 0 []),(26,.imm 6 (v3.map Tc.i)),(27,.I (v3.length:Int)),(28,.I (v3.length:Int)),(29,.bool false)],[[.I v1.ff,.I v1.fd,.I v1.fN,.imm 1 (v1.fg.map (V.int .i64)),.imm 1 (v1.fe.map V.bool),.I v1.fj],[.I 0,.I 0,.I 0,.I 0,.own 1 ([]:List V),.own 1 ([]:List V)],[.I v1.ff,.I 0,.I 0,.I 0,.own 1 (p.map (V.int .i64)),.own 1 ([]:List V)]]⟩)
def zwz (v1:Ti) (v3:List Tc) (k:Int):=zcd (zsz v1 v3 k) (zom v1 v3)
def yiu (v1:Ti) (v3:List Tc) (k:Int) (x:Tc) (s:List Int):Option ((List Int)⊕((List Int))):=if((s.map (V.int .i64)).length+(x.fg.map (V.int .i64)).length) * 8<=70368744177664 then(some (.inl (s++x.fg))) else none
def yg5 (v1:Ti) (v3:List Tc) (s:List Int):Option ((List Int)):=some (s)
def ybd (v1:Ti) (v3:List Tc) (s:List Int):Option ((List Int)):=if v3.length<=9223372036854775806 then zab (yiu v1 v3) (yg5 v1 v3) v3 0 s else none
def zxe (v1:Ti) (v3:List Tc) (s:List Int):Lct:=⟨30,zue,3,[0,1,3,5,6,7,9,10,11,12,13,14,15,16,17,18,19,20,21,22,23,24,25,29],some (zsz v1 v3 0 s),List Int,ybd v1 v3 s,zom v1 v3⟩
theorem ygo {v1:Ti} {v3:List Tc} {s:List Int}:(zxe v1 v3 s).ok tab:=zbw (list_oky (J:=zsz v1 v3) (o:=(zom v1 v3)) v3 (B:=fun k x s=>(.kb (decide (k<(v3.length:Int))) true<|.kx Tc.i v3 k x<|.segA (V.int .i64) s<|.guard (((s.map (V.int .i64)).length+(x.fg.map (V.int .i64)).length) * 8<=70368744177664) inferInstance<|.appA (V.int .i64) s x.fg<|.segA (V.int .i64) (s++x.fg)<|.lfA (zwz v1 v3 (w1 k)) (.inl (s++x.fg)))) (E:=fun s=>(.kb (decide ((v3.length:Int)<(v3.length:Int))) false<|.lfA (zwz v1 v3 0) (.inr s))) (by kernel_rfl) (fun d x t s he=>⟨ltX he,kX he<|sA<|gU<|aA<|sA<|rfl⟩) (fun _=>rfl) (fun s=>⟨ltE _,rfl⟩) s)
def zqz (v1:Ti) (v3:List Tc) (k:Int) (s:List Int):St:=⟨sv 30 [(2,.imm 6 (v3.map Tc.i)),(4,.ref (.box 1) 0 []),(8,.ref (.box 2) 0 []),(26,.imm 6 (v3.map Tc.i)),(27,.I (v3.length:Int)),(28,.I k)],[[.I v1.ff,.I v1.fd,.I v1.fN,.imm 1 (v1.fg.map (V.int .i64)),.imm 1 (v1.fe.map V.bool),.I v1.fj],[.I 0,.I 0,.I 0,.I 0,.own 1 ([]:List V),.own 1 ([]:List V)],[.I v1.ff,.I 0,.I 0,.I 0,.own 1 (s.map (V.int .i64)),.own 1 ([]:List V)]]⟩
def zp2 (v1:Ti) (v3:List Tc):(List Int)->Ex×St:=fun p=>((.exit 5),⟨sv 30 [(2,.imm 6 (v3.map Tc.i)),(4,.ref (.box 1) 0 []),(8,.ref (.box 2) 0 []),(26,.imm 6 (v3.map Tc.i)),(27,.I (v3.length:Int)),(28,.I (v3.length:Int)),(29,.bool false)],[[.I v1.ff,.I v1.fd,.I v1.fN,.imm 1 (v1.fg.map (V.int .i64)),.imm 1 (v1.fe.map V.bool),.I v1.fj],[.I 0,.I 0,.I 0,.I 0,.own 1 ([]:List V),.own 1 ([]:List V)],[.I v1.ff,.I 0,.I 0,.I 0,.own 1 (p.map (V.int .i64)),.own 1 ([]:List V)]]⟩)
def zy6 (v1:Ti) (v3:List Tc) (k:Int):=zcd (zqz v1 v3 k) (zp2 v1 v3)
def yfr (v1:Ti) (v3:List Tc) (k:Int) (x:Tc) (s:List Int):Option ((List Int)⊕((List Int))):=if((s.map (V.int .i64)).length+(x.fg.map (V.int .i64)).length) * 8<=70368744177664 then(some (.inl (s++x.fg))) else none
def yhs (v1:Ti) (v3:List Tc) (s:List Int):Option ((List Int)):=some (s)
def zxz (v1:Ti) (v3:List Tc) (s:List Int):Option ((List Int)):=if v3.length<=9223372036854775806 then zab (yfr v1 v3) (yhs v1 v3) v3 0 s else none
def ybx (v1:Ti) (v3:List Tc) (s:List Int):Lct:=⟨30,zue,3,[0,1,3,5,6,7,9,10,11,12,13,14,15,16,17,18,19,20,21,22,23,24,25,29],some (zqz v1 v3 0 s),List Int,zxz v1 v3 s,zp2 v1 v3⟩
theorem yh2 {v1:Ti} {v3:List Tc} {s:List Int}:(ybx v1 v3 s).ok tab:=zbw (list_oky (J:=zqz v1 v3) (o:=(zp2 v1 v3)) v3 (B:=fun k x s=>(.kb (decide (k<(v3.length:Int))) true<|.kx Tc.i v3 k x<|.segA (V.int .i64) s<|.guard (((s.map (V.int .i64)).length+(x.fg.map (V.int .i64)).length) * 8<=70368744177664) inferInstance<|.appA (V.int .i64) s x.fg<|.segA (V.int .i64) (s++x.fg)<|.lfA (zy6 v1 v3 (w1 k)) (.inl (s++x.fg)))) (E:=fun s=>(.kb (decide ((v3.length:Int)<(v3.length:Int))) false<|.lfA (zy6 v1 v3 0) (.inr s))) (by kernel_rfl) (fun d x t s he=>⟨ltX he,kX he<|sA<|gU<|aA<|sA<|rfl⟩) (fun _=>rfl) (fun s=>⟨ltE _,rfl⟩) s)
def ylc (v1:Ti) (v2:List Te) (v3:List Tc):Option Tc:=bif decide ((v2.length:Int)=0) then((zxn v1 4).bind fun v5=>(some v5)) else(bif decide ((v3.length:Int)≠(v2.length:Int)) then((zxn v1 4).bind fun v8=>(some v8)) else((zm0 v1 v2 v3 ()).bind (ze8 (fun (v39:Int×Tc×Tc)=>(some v39.2.1)) (fun (v40:Unit)=>((ym8 v3).bind fun v41=>(bif decide (0<=v41) then(if 0<=v41 then(((v3)[v41.toNat]?).bind fun v44=>((zxn v1 v44.fak).bind fun v46=>(some v46))) else none) else(bif decide (v1.ff=1) then((ya7 v1 v2 v3 ([])).bind fun v64=>((ynr v64).bind fun v65=>(some (⟨v1.ff,0,0,0,[],v65⟩:Tc)))) else(bif decide (v1.ff=2) then((zwk v1 v2 v3 ([])).bind fun v83=>((ynr v83).bind fun v84=>(some (⟨v1.ff,0,0,0,[],v84⟩:Tc)))) else(bif decide (v1.ff=3) then((zww v1 v3 ([])).bind fun v96=>(some (⟨v1.ff,0,0,0,v96,[]⟩:Tc))) else(bif decide (v1.ff=4) then((ybd v1 v3 ([])).bind fun v107=>(some (⟨v1.ff,0,0,0,v107,[]⟩:Tc))) else(bif decide (v1.ff=23) then((zxz v1 v3 ([])).bind fun v118=>(some (⟨v1.ff,0,0,0,v118,[]⟩:Tc))) else((yqy v1).bind fun v119=>(some v119)))))))))))))
def yoi (v1:Ti) (v2:List Te) (v3:List Tc):Ctr:=⟨91,[v1.i,.imm 8 (v2.map Te.i),.imm 6 (v3.map Tc.i)],[],Tc,ylc v1 v2 v3,(rv Tc.o)⟩
theorem yx7 (r:Tc):((rv Tc.o) r).1.fresh=true:=Tc.o_f r
theorem yqi {v1:Ti} {v2:List Te} {v3:List Tc}:(yoi v1 v2 v3).okF tab:=okF_of rfl rfl (.lenA Te.i v2<|.br (decide ((v2.length:Int)=0)) (.callF (ye2 v1 4) fun(v5:Tc)=>.segA (V.int .i64) v5.fg<|.segA V.bool v5.fe<|.segA (V.int .i64) v5.fg<|.segA V.bool v5.fe<|.lfA (rv Tc.o) v5)<|.lenA Tc.i v3<|.lenA Te.i v2<|.br (decide ((v3.length:Int)≠(v2.length:Int))) (.callF (ye2 v1 4) fun(v8:Tc)=>.segA (V.int .i64) v8.fg<|.segA V.bool v8.fe<|.segA (V.int .i64) v8.fg<|.segA V.bool v8.fe<|.lfA (rv Tc.o) v8)<|.lenA Tc.i v3<|.lp2 (zy1 v1 v2 v3 ()) (fun (v39:Int×Tc×Tc)=>.segA (V.int .i64) v39.2.1.fg<|.segA V.bool v39.2.1.fe<|.lfA (rv Tc.o) v39.2.1) (fun (v40:Unit)=>.callF (ypk v3) fun(v41:Int)=>.br (decide (0<=v41)) (.guard (0<=v41) inferInstance<|.lookA Tc.i v3 (v41.toNat) fun v44=>.callF (ye2 v1 v44.fak) fun(v46:Tc)=>.segA (V.int .i64) v46.fg<|.segA V.bool v46.fe<|.segA (V.int .i64) v46.fg<|.segA V.bool v46.fe<|.lfA (rv Tc.o) v46)<|.seg [] 0 0 []<|.seg [] 0 0 []<|.br (decide (v1.ff=1)) (.lenA Tc.i v3<|.lp (zz2 v1 v2 v3 ([])) fun(v64:List Bool)=>.se V.bool V.bool v64<|.callF (yph v64) fun(v65:List Bool)=>.segA V.bool v65<|.seg [] 0 0 []<|.segA V.bool v65<|.seg [] 0 0 []<|.segA V.bool v65<|.lfA (rv Tc.o) (⟨v1.ff,0,0,0,[],v65⟩:Tc))<|.br (decide (v1.ff=2)) (.lenA Tc.i v3<|.lp (zyd v1 v2 v3 ([])) fun(v83:List Bool)=>.se V.bool V.bool v83<|.callF (yph v83) fun(v84:List Bool)=>.segA V.bool v84<|.seg [] 0 0 []<|.segA V.bool v84<|.seg [] 0 0 []<|.segA V.bool v84<|.lfA (rv Tc.o) (⟨v1.ff,0,0,0,[],v84⟩:Tc))<|.br (decide (v1.ff=3)) (.lenA Tc.i v3<|.lp (zx7 v1 v3 ([])) fun(v96:List Int)=>.segA (V.int .i64) v96<|.seg [] 0 0 []<|.segA (V.int .i64) v96<|.seg [] 0 0 []<|.lfA (rv Tc.o) (⟨v1.ff,0,0,0,v96,[]⟩:Tc))<|.br (decide (v1.ff=4)) (.lenA Tc.i v3<|.lp (zxe v1 v3 ([])) fun(v107:List Int)=>.segA (V.int .i64) v107<|.seg [] 0 0 []<|.segA (V.int .i64) v107<|.seg [] 0 0 []<|.lfA (rv Tc.o) (⟨v1.ff,0,0,0,v107,[]⟩:Tc))<|.br (decide (v1.ff=23)) (.lenA Tc.i v3<|.lp (ybx v1 v3 ([])) fun(v118:List Int)=>.segA (V.int .i64) v118<|.seg [] 0 0 []<|.segA (V.int .i64) v118<|.seg [] 0 0 []<|.lfA (rv Tc.o) (⟨v1.ff,0,0,0,v118,[]⟩:Tc))<|.callF (yq9 v1) fun(v119:Tc)=>.segA (V.int .i64) v119.fg<|.segA V.bool v119.fe<|.segA (V.int .i64) v119.fg<|.segA V.bool v119.fe<|.lfA (rv Tc.o) v119)) (by kernel_rfl) (lA<|bR (cF ygw fun v5=>sA<|sA<|sA<|sA<|rfl)<|lA<|lA<|bR (cF ygw fun v8=>sA<|sA<|sA<|sA<|rfl)<|lA<|lQ yhw (fun v39=>sA<|sA<|rfl) (fun v40=>cF yvh fun v41=>bR (gU<|kA fun v44=>cF ygw fun v46=>sA<|sA<|sA<|sA<|rfl)<|⟨za0 [],⟨za0 [],bR (lA<|lP yfi fun v64=>sE (fun _=>rfl)<|cF yt2 fun v65=>sA<|⟨za0 [],sA<|⟨za0 [],sA<|rfl⟩⟩)<|bR (lA<|lP yi3 fun v83=>sE (fun _=>rfl)<|cF yt2 fun v84=>sA<|⟨za0 [],sA<|⟨za0 [],sA<|rfl⟩⟩)<|bR (lA<|lP yfo fun v96=>sA<|⟨za0 [],sA<|⟨za0 [],rfl⟩⟩)<|bR (lA<|lP ygo fun v107=>sA<|⟨za0 [],sA<|⟨za0 [],rfl⟩⟩)<|bR (lA<|lP yh2 fun v118=>sA<|⟨za0 [],sA<|⟨za0 [],rfl⟩⟩)<|cF yxx fun v119=>sA<|sA<|sA<|sA<|rfl⟩⟩)) fun r=>⟨rfl,yx7 r⟩
def yny (a:List Tb) (i j:Int) (h:V):Option (List Tb):=ymt a i j
def ytc (a:List Tb) (i j:Int) (h:V):Ctr:=⟨92,[.own 13 ((a.map Tb.o).set (0+i.toNat) h),.I i,.I j],[],List Tb,yny a i j h,fun r=>(.own 13 (r.map Tb.o),[])⟩
theorem yxf {a:List Tb} {i j:Int} {h:V}:(ytc a i j h).ok tab:=yfw yz0 Tb.o a i j h
def ycu:(Tm×List Th)->V×List (List V):=fun r=>(.tup [r.1.o,.own 16 (r.2.map Th.o)],[])
def ylm (v1:Tm) (v2:Int) (v3:Int) (v4:Tc):Option (Tm×List Th):=(ygh v1).bind fun v5=>((zul v1.fi v2).bind fun v7=>(bif decide (v7<0) then(some (v5,[])) else(if 0<=v7 then(((v1.fi)[v7.toNat]?).bind fun v10=>((zgc v3 0 (i64.wrap ((v10.faa.length:Int) - 1))).bind fun v12=>(bif !v12 then(some (v5,[])) else(if 0<=v7 then(if 0<=v3 then(((v10.fad)[v3.toNat]?).bind fun v15=>(bif v15 then(some (v5,[])) else(if 0<=v7 then(if 0<=v3 then(((v10.faa)[v3.toNat]?).bind fun v18=>((yf4 v18.fa v4).bind fun v20=>(bif !v20 then(some (v5,[])) else(if 0<=v7/\(v7:Int)<(((v5.fi.map Tb.o).length - 0:Nat):Int) then(((v5.fi)[v7.toNat]?).bind fun v23=>((yjl v4).bind fun v25=>(if 0<=v3/\(v3:Int)<(((v23.fad.map V.bool).length - 0:Nat):Int) then(((v23.fad)[v3.toNat]?).bind fun v27=>(let v29:=v23.fad.set (v3.toNat) true;(let v30:=v5.fi.set (v7.toNat) ({ v23 with fad:=v29 }:Tb);(let v31:=v23.fad.set (v3.toNat) true;(let v32:=v5.fi.set (v7.toNat) ({ v23 with fad:=v31 }:Tb);(if 0<=v3/\(v3:Int)<(((v23.fw.map Tc.o).length - 0:Nat):Int) then(((v32)[v7.toNat]?).bind fun v33=>(((v33.fw)[v3.toNat]?).bind fun v35=>(let v37:=v33.fw.set (v3.toNat) ({ v35 with ff:=v25.ff }:Tc);(let v38:=v32.set (v7.toNat) ({ v33 with fw:=v37 }:Tb);(((v38)[v7.toNat]?).bind fun v39=>(((v39.fw)[v3.toNat]?).bind fun v41=>(let v43:=v39.fw.set (v3.toNat) ({ v41 with fak:=v25.fak }:Tc);(let v44:=v38.set (v7.toNat) ({ v39 with fw:=v43 }:Tb);(((v44)[v7.toNat]?).bind fun v45=>(((v45.fw)[v3.toNat]?).bind fun v47=>(let v49:=v45.fw.set (v3.toNat) ({ v47 with fd:=v25.fd }:Tc);(let v50:=v44.set (v7.toNat) ({ v45 with fw:=v49 }:Tb);(((v50)[v7.toNat]?).bind fun v51=>(((v51.fw)[v3.toNat]?).bind fun v53=>(let v55:=v51.fw.set (v3.toNat) ({ v53 with fN:=v25.fN }:Tc);(let v56:=v50.set (v7.toNat) ({ v51 with fw:=v55 }:Tb);(((v56)[v7.toNat]?).bind fun v57=>(((v57.fw)[v3.toNat]?).bind fun v59=>(let v61:=v57.fw.set (v3.toNat) ({ v59 with fg:=v25.fg }:Tc);(let v62:=v56.set (v7.toNat) ({ v57 with fw:=v61 }:Tb);(((v62)[v7.toNat]?).bind fun v63=>(((v63.fw)[v3.toNat]?).bind fun v65=>(let v67:=v63.fw.set (v3.toNat) ({ v65 with fe:=v25.fe }:Tc);(let v68:=v62.set (v7.toNat) ({ v63 with fw:=v67 }:Tb);(((v68)[v7.toNat]?).bind fun v69=>((yfu v69.fad false).bind fun v71=>(bif v71 then(some ((⟨v5.fo,v68⟩:Tm),[])) else((ylc v69.fa v69.faa v69.fw).bind fun v74=>((ylc v69.fa v69.faa v69.fw).bind fun v76=>((((v68)[v7.toNat]?).map fun _=>()).bind fun _=>((((v68)[v7.toNat]?).map fun _=>()).bind fun _=>((((v68)[v7.toNat]?).map fun _=>()).bind fun _=>((((v68)[v7.toNat]?).map fun _=>()).bind fun _=>((((v68)[v7.toNat]?).map fun _=>()).bind fun _=>((((v68)[v7.toNat]?).map fun _=>()).bind fun _=>((((v68)[v7.toNat]?).map fun _=>()).bind fun _=>((((v68)[v7.toNat]?).map fun _=>()).bind fun _=>((((v68)[v7.toNat]?).map fun _=>()).bind fun _=>((yny v68 v7 (i64.wrap (v7+1)) (.agg [.int .i64 v69.fk,.int .i64 v69.far,.int .i64 v69.fas,.int .i64 v69.fp,.int .i64 v69.fa.ff,.int .i64 v69.fa.fd,.int .i64 v69.fa.fN,.gone,.gone,.int .i64 v69.fa.fj,.gone,.own 1 (v69.fad.map V.bool),.gone])).bind fun v78=>(some ((⟨v5.fo,v78⟩:Tm),([({ v69 with fah:=v74 }:Th)]:List Th)))))))))))))))))))))))))))))))))))))))))) else none)))))) else none))) else none)))) else none) else none))) else none) else none)))) else none)))
def yoy (v1:Tm) (v2:Int) (v3:Int) (v4:Tc):Ctr:=⟨73,[v1.i,.I v2,.I v3,v4.i],[],Tm×List Th,ylm v1 v2 v3 v4,ycu⟩
theorem qa7 (r:Tm×List Th):(ycu r).1.fresh=true:=by simp only [Tm.o,ycu,V.fresh,V.freshL,za4 (f:=Tb.o) Tb.o_f,za4 (f:=Th.o) Th.o_f,Bool.and_self,Bool.true_and]
theorem yqr {v1:Tm} {v2:Int} {v3:Int} {v4:Tc}:(yoy v1 v2 v3 v4).okF tab:=okF_of rfl rfl (.callF (ykh v1) fun(v5:Tm)=>.segA Tb.o v5.fi<|.callF (yec v1.fi v2) fun(v7:Int)=>.br (decide (v7<0)) (.segA Tb.o v5.fi<|.segA Tb.o v5.fi<|.seg [] 0 0 []<|.lfA ycu (v5,[]))<|.guard (0<=v7) inferInstance<|.lookA Tb.i v1.fi (v7.toNat) fun v10=>.lenA Te.i v10.faa<|.callF (zhp v3 0 (i64.wrap ((v10.faa.length:Int) - 1))) fun(v12:Bool)=>.br (!v12) (.segA Tb.o v5.fi<|.segA Tb.o v5.fi<|.seg [] 0 0 []<|.lfA ycu (v5,[]))<|.guard (0<=v7) inferInstance<|.lkX Tb.i v1.fi (v7.toNat) v10<|.guard (0<=v3) inferInstance<|.lookA V.bool v10.fad (v3.toNat) fun v15=>.br v15 (.segA Tb.o v5.fi<|.segA Tb.o v5.fi<|.seg [] 0 0 []<|.lfA ycu (v5,[]))<|.guard (0<=v7) inferInstance<|.lkX Tb.i v1.fi (v7.toNat) v10<|.guard (0<=v3) inferInstance<|.lookA Te.i v10.faa (v3.toNat) fun v18=>.callF (ync v18.fa v4) fun v20=>.br (!v20) (.segA Tb.o v5.fi<|.segA Tb.o v5.fi<|.seg [] 0 0 []<|.lfA ycu (v5,[]))<|.guard (0<=v7/\(v7:Int)<(((v5.fi.map Tb.o).length - 0:Nat):Int)) inferInstance<|.lookB Tb.o v5.fi (v7.toNat) fun v23=>.lkY Tb.o v5.fi (v7.toNat) v23<|.callF (yo2 v4) fun(v25:Tc)=>.guard (0<=v3/\(v3:Int)<(((v23.fad.map V.bool).length - 0:Nat):Int)) inferInstance<|.lkY Tb.o v5.fi (v7.toNat) v23<|.lookB V.bool v23.fad (v3.toNat) fun v27=>.lkY Tb.o v5.fi (v7.toNat) v23<|.lkY V.bool v23.fad (v3.toNat) v27<|.lkY Tb.o v5.fi (v7.toNat) v23<|.lkY V.bool v23.fad (v3.toNat) v27<|.setN V.bool v23.fad (v3.toNat) true fun v29=>.lkY Tb.o v5.fi (v7.toNat) v23<|.setN Tb.o v5.fi (v7.toNat) ({ v23 with fad:=v29 }:Tb) fun v30=>.lkY Tb.o v5.fi (v7.toNat) v23<|.lkY V.bool v23.fad (v3.toNat) v27<|.lkY Tb.o v5.fi (v7.toNat) v23<|.lkY V.bool v23.fad (v3.toNat) v27<|.lkY Tb.o v5.fi (v7.toNat) v23<|.lkY V.bool v23.fad (v3.toNat) v27<|.setN V.bool v23.fad (v3.toNat) true fun v31=>.lkY Tb.o v5.fi (v7.toNat) v23<|.setN Tb.o v5.fi (v7.toNat) ({ v23 with fad:=v31 }:Tb) fun v32=>.oq (.int .i64 v3)<|.oq (.int .i64 v3)<|.guard (0<=v3/\(v3:Int)<(((v23.fw.map Tc.o).length - 0:Nat):Int)) inferInstance<|.segA (V.int .i64) v25.fg<|.segA V.bool v25.fe<|.lookB Tb.o v32 (v7.toNat) fun v33=>.lookB Tc.o v33.fw (v3.toNat) fun v35=>.lkY Tb.o v32 (v7.toNat) v33<|.lkY Tc.o v33.fw (v3.toNat) v35<|.lkY Tb.o v32 (v7.toNat) v33<|.lkY Tc.o v33.fw (v3.toNat) v35<|.setN Tc.o v33.fw (v3.toNat) ({ v35 with ff:=v25.ff }:Tc) fun v37=>.lkY Tb.o v32 (v7.toNat) v33<|.setN Tb.o v32 (v7.toNat) ({ v33 with fw:=v37 }:Tb) fun v38=>.lookB Tb.o v38 (v7.toNat) fun v39=>.lookB Tc.o v39.fw (v3.toNat) fun v41=>.lkY Tb.o v38 (v7.toNat) v39<|.lkY Tc.o v39.fw (v3.toNat) v41<|.lkY Tb.o v38 (v7.toNat) v39<|.lkY Tc.o v39.fw (v3.toNat) v41<|.setN Tc.o v39.fw (v3.toNat) ({ v41 with fak:=v25.fak }:Tc) fun v43=>.lkY Tb.o v38 (v7.toNat) v39<|.setN Tb.o v38 (v7.toNat) ({ v39 with fw:=v43 }:Tb) fun v44=>.lookB Tb.o v44 (v7.toNat) fun v45=>.lookB Tc.o v45.fw (v3.toNat) fun v47=>.lkY Tb.o v44 (v7.toNat) v45<|.lkY Tc.o v45.fw (v3.toNat) v47<|.lkY Tb.o v44 (v7.toNat) v45<|.lkY Tc.o v45.fw (v3.toNat) v47<|.setN Tc.o v45.fw (v3.toNat) ({ v47 with fd:=v25.fd }:Tc) fun v49=>.lkY Tb.o v44 (v7.toNat) v45<|.setN Tb.o v44 (v7.toNat) ({ v45 with fw:=v49 }:Tb) fun v50=>.lookB Tb.o v50 (v7.toNat) fun v51=>.lookB Tc.o v51.fw (v3.toNat) fun v53=>.lkY Tb.o v50 (v7.toNat) v51<|.lkY Tc.o v51.fw (v3.toNat) v53<|.lkY Tb.o v50 (v7.toNat) v51<|.lkY Tc.o v51.fw (v3.toNat) v53<|.setN Tc.o v51.fw (v3.toNat) ({ v53 with fN:=v25.fN }:Tc) fun v55=>.lkY Tb.o v50 (v7.toNat) v51<|.setN Tb.o v50 (v7.toNat) ({ v51 with fw:=v55 }:Tb) fun v56=>.lookB Tb.o v56 (v7.toNat) fun v57=>.lookB Tc.o v57.fw (v3.toNat) fun v59=>.lkY Tb.o v56 (v7.toNat) v57<|.lkY Tc.o v57.fw (v3.toNat) v59<|.lkY Tb.o v56 (v7.toNat) v57<|.lkY Tc.o v57.fw (v3.toNat) v59<|.setN Tc.o v57.fw (v3.toNat) ({ v59 with fg:=v25.fg }:Tc) fun v61=>.lkY Tb.o v56 (v7.toNat) v57<|.setN Tb.o v56 (v7.toNat) ({ v57 with fw:=v61 }:Tb) fun v62=>.lookB Tb.o v62 (v7.toNat) fun v63=>.lookB Tc.o v63.fw (v3.toNat) fun v65=>.lkY Tb.o v62 (v7.toNat) v63<|.lkY Tc.o v63.fw (v3.toNat) v65<|.lkY Tb.o v62 (v7.toNat) v63<|.lkY Tc.o v63.fw (v3.toNat) v65<|.setN Tc.o v63.fw (v3.toNat) ({ v65 with fe:=v25.fe }:Tc) fun v67=>.lkY Tb.o v62 (v7.toNat) v63<|.setN Tb.o v62 (v7.toNat) ({ v63 with fw:=v67 }:Tb) fun v68=>.lookB Tb.o v68 (v7.toNat) fun v69=>.lkY Tb.o v68 (v7.toNat) v69<|.se V.bool V.bool v69.fad<|.callF (ylz v69.fad false) fun v71=>.br v71 (.segA Tb.o v68<|.segA Tb.o v68<|.seg [] 0 0 []<|.lfA ycu ((⟨v5.fo,v68⟩:Tm),[]))<|.lkY Tb.o v68 (v7.toNat) v69<|.lkY Tb.o v68 (v7.toNat) v69<|.lkY Tb.o v68 (v7.toNat) v69<|.lkY Tb.o v68 (v7.toNat) v69<|.lkY Tb.o v68 (v7.toNat) v69<|.lkY Tb.o v68 (v7.toNat) v69<|.lkY Tb.o v68 (v7.toNat) v69<|.lkY Tb.o v68 (v7.toNat) v69<|.lkY Tb.o v68 (v7.toNat) v69<|.se (V.int .i64) (V.int .i64) v69.fa.fg<|.lkY Tb.o v68 (v7.toNat) v69<|.se V.bool V.bool v69.fa.fe<|.lkY Tb.o v68 (v7.toNat) v69<|.se Te.o Te.i v69.faa<|.lkY Tb.o v68 (v7.toNat) v69<|.se Tc.o Tc.i v69.fw<|.callF (yoi v69.fa v69.faa v69.fw) fun(v74:Tc)=>.oq (.agg [.int .i64 v69.far,.int .i64 v69.fas,.int .i64 v69.fa.ff,.int .i64 v69.fa.fd,.int .i64 v69.fa.fN,.hd 1 (.box 4) 7 [(0+v7.toNat,13,1)] 0 (v69.fa.fg.map (V.int .i64)).length,.hd 1 (.box 4) 8 [(0+v7.toNat,13,1)] 0 (v69.fa.fe.map V.bool).length,.int .i64 v69.fa.fj,.hd 8 (.box 4) 10 [(0+v7.toNat,13,1)] 0 (v69.faa.map Te.o).length,.hd 6 (.box 4) 12 [(0+v7.toNat,13,1)] 0 (v69.fw.map Tc.o).length,.int .i64 v74.ff,.int .i64 v74.fak,.int .i64 v74.fd,.int .i64 v74.fN,.hd 1 (.var 47) 4 [] 0 (v74.fg.map (V.int .i64)).length,.hd 1 (.var 47) 5 [] 0 (v74.fe.map V.bool).length])<|.oq (.agg [.int .i64 v69.far,.int .i64 v69.fas,.int .i64 v69.fa.ff,.int .i64 v69.fa.fd,.int .i64 v69.fa.fN,.hd 1 (.box 4) 7 [(0+v7.toNat,13,1)] 0 (v69.fa.fg.map (V.int .i64)).length,.hd 1 (.box 4) 8 [(0+v7.toNat,13,1)] 0 (v69.fa.fe.map V.bool).length,.int .i64 v69.fa.fj,.hd 8 (.box 4) 10 [(0+v7.toNat,13,1)] 0 (v69.faa.map Te.o).length,.hd 6 (.box 4) 12 [(0+v7.toNat,13,1)] 0 (v69.fw.map Tc.o).length,.int .i64 v74.ff,.int .i64 v74.fak,.int .i64 v74.fd,.int .i64 v74.fN,.hd 1 (.var 47) 4 [] 0 (v74.fg.map (V.int .i64)).length,.hd 1 (.var 47) 5 [] 0 (v74.fe.map V.bool).length])<|.oq (v74.o)<|.lkY Tb.o v68 (v7.toNat) v69<|.se (V.int .i64) (V.int .i64) v69.fa.fg<|.lkY Tb.o v68 (v7.toNat) v69<|.se V.bool V.bool v69.fa.fe<|.lkY Tb.o v68 (v7.toNat) v69<|.se Te.o Te.i v69.faa<|.lkY Tb.o v68 (v7.toNat) v69<|.se Tc.o Tc.i v69.fw<|.callF (yoi v69.fa v69.faa v69.fw) fun(v76:Tc)=>.ob ((v76.o:V)=v74.o)<|.oq (.hd 6 (.box 4) 12 [(0+v7.toNat,13,1)] 0 (v69.fw.map Tc.o).length)<|.lkY Tb.o v68 (v7.toNat) v69<|.oq (.hd 6 (.box 4) 12 [(0+v7.toNat,13,1)] 0 (v69.fw.map Tc.o).length)<|.oq (.ref (.box 4) 12 [(0+v7.toNat,13,1)])<|.oq (.ref (.box 4) 12 [(0+v7.toNat,13,1)])<|.oq (.ref (.box 4) 0 [(0+v7.toNat,13,1)])<|.oq (.ref (.box 4) 0 [(0+v7.toNat,13,1)])<|.oq (.ref (.box 4) 0 [(0+v7.toNat,13,1)])<|.oq (.ref (.box 4) 0 [(0+v7.toNat,13,1)])<|.oq (.hd 8 (.box 4) 10 [(0+v7.toNat,13,1)] 0 (v69.faa.map Te.o).length)<|.lkY Tb.o v68 (v7.toNat) v69<|.oq (.hd 8 (.box 4) 10 [(0+v7.toNat,13,1)] 0 (v69.faa.map Te.o).length)<|.oq (.ref (.box 4) 10 [(0+v7.toNat,13,1)])<|.oq (.ref (.box 4) 10 [(0+v7.toNat,13,1)])<|.oq (.ref (.box 4) 0 [(0+v7.toNat,13,1)])<|.oq (.ref (.box 4) 0 [(0+v7.toNat,13,1)])<|.oq (.ref (.box 4) 0 [(0+v7.toNat,13,1)])<|.oq (.ref (.box 4) 0 [(0+v7.toNat,13,1)])<|.oq (.agg [.int .i64 v69.fa.ff,.int .i64 v69.fa.fd,.int .i64 v69.fa.fN,.hd 1 (.box 4) 7 [(0+v7.toNat,13,1)] 0 (v69.fa.fg.map (V.int .i64)).length,.hd 1 (.box 4) 8 [(0+v7.toNat,13,1)] 0 (v69.fa.fe.map V.bool).length,.int .i64 v69.fa.fj])<|.lkY Tb.o v68 (v7.toNat) v69<|.oq (.agg [.int .i64 v69.fa.ff,.int .i64 v69.fa.fd,.int .i64 v69.fa.fN,.hd 1 (.box 4) 7 [(0+v7.toNat,13,1)] 0 (v69.fa.fg.map (V.int .i64)).length,.hd 1 (.box 4) 8 [(0+v7.toNat,13,1)] 0 (v69.fa.fe.map V.bool).length,.int .i64 v69.fa.fj])<|.oq (.ref (.box 4) 4 [(0+v7.toNat,13,1)])<|.oq (.ref (.box 4) 4 [(0+v7.toNat,13,1)])<|.oq (.ref (.box 4) 0 [(0+v7.toNat,13,1)])<|.oq (.ref (.box 4) 0 [(0+v7.toNat,13,1)])<|.oq (.ref (.box 4) 0 [(0+v7.toNat,13,1)])<|.oq (.ref (.box 4) 0 [(0+v7.toNat,13,1)])<|.oq (.hd 6 (.box 4) 12 [(0+v7.toNat,13,1)] 0 (v69.fw.map Tc.o).length)<|.lkY Tb.o v68 (v7.toNat) v69<|.oq (.hd 6 (.box 4) 12 [(0+v7.toNat,13,1)] 0 (v69.fw.map Tc.o).length)<|.oq (.ref (.box 4) 12 [(0+v7.toNat,13,1)])<|.oq (.ref (.box 4) 12 [(0+v7.toNat,13,1)])<|.oq (.ref (.box 4) 0 [(0+v7.toNat,13,1)])<|.oq (.ref (.box 4) 0 [(0+v7.toNat,13,1)])<|.oq (.ref (.box 4) 0 [(0+v7.toNat,13,1)])<|.oq (.ref (.box 4) 0 [(0+v7.toNat,13,1)])<|.oq (.hd 8 (.box 4) 10 [(0+v7.toNat,13,1)] 0 (v69.faa.map Te.o).length)<|.lkY Tb.o v68 (v7.toNat) v69<|.oq (.hd 8 (.box 4) 10 [(0+v7.toNat,13,1)] 0 (v69.faa.map Te.o).length)<|.oq (.ref (.box 4) 10 [(0+v7.toNat,13,1)])<|.oq (.ref (.box 4) 10 [(0+v7.toNat,13,1)])<|.oq (.ref (.box 4) 0 [(0+v7.toNat,13,1)])<|.oq (.ref (.box 4) 0 [(0+v7.toNat,13,1)])<|.oq (.ref (.box 4) 0 [(0+v7.toNat,13,1)])<|.oq (.ref (.box 4) 0 [(0+v7.toNat,13,1)])<|.oq (.agg [.int .i64 v69.fa.ff,.int .i64 v69.fa.fd,.int .i64 v69.fa.fN,.hd 1 (.box 4) 7 [(0+v7.toNat,13,1)] 0 (v69.fa.fg.map (V.int .i64)).length,.hd 1 (.box 4) 8 [(0+v7.toNat,13,1)] 0 (v69.fa.fe.map V.bool).length,.int .i64 v69.fa.fj])<|.lkY Tb.o v68 (v7.toNat) v69<|.oq (.agg [.int .i64 v69.fa.ff,.int .i64 v69.fa.fd,.int .i64 v69.fa.fN,.hd 1 (.box 4) 7 [(0+v7.toNat,13,1)] 0 (v69.fa.fg.map (V.int .i64)).length,.hd 1 (.box 4) 8 [(0+v7.toNat,13,1)] 0 (v69.fa.fe.map V.bool).length,.int .i64 v69.fa.fj])<|.oq (.ref (.box 4) 4 [(0+v7.toNat,13,1)])<|.oq (.ref (.box 4) 4 [(0+v7.toNat,13,1)])<|.oq (.ref (.box 4) 0 [(0+v7.toNat,13,1)])<|.oq (.ref (.box 4) 0 [(0+v7.toNat,13,1)])<|.oq (.ref (.box 4) 0 [(0+v7.toNat,13,1)])<|.oq (.ref (.box 4) 0 [(0+v7.toNat,13,1)])<|.oq (.int .i64 v69.fas)<|.lkY Tb.o v68 (v7.toNat) v69<|.oq (.int .i64 v69.fas)<|.oq (.ref (.box 4) 2 [(0+v7.toNat,13,1)])<|.oq (.ref (.box 4) 2 [(0+v7.toNat,13,1)])<|.oq (.ref (.box 4) 0 [(0+v7.toNat,13,1)])<|.oq (.ref (.box 4) 0 [(0+v7.toNat,13,1)])<|.oq (.ref (.box 4) 0 [(0+v7.toNat,13,1)])<|.oq (.ref (.box 4) 0 [(0+v7.toNat,13,1)])<|.oq (.int .i64 v69.far)<|.lkY Tb.o v68 (v7.toNat) v69<|.oq (.int .i64 v69.far)<|.oq (.ref (.box 4) 1 [(0+v7.toNat,13,1)])<|.oq (.ref (.box 4) 1 [(0+v7.toNat,13,1)])<|.oq (.ref (.box 4) 0 [(0+v7.toNat,13,1)])<|.oq (.ref (.box 4) 0 [(0+v7.toNat,13,1)])<|.oq (.ref (.box 4) 0 [(0+v7.toNat,13,1)])<|.oq (.ref (.box 4) 0 [(0+v7.toNat,13,1)])<|.lkY Tb.o v68 (v7.toNat) v69<|.segA (V.int .i64) v69.fa.fg<|.lkY Tb.o v68 (v7.toNat) v69<|.lkY Tb.o v68 (v7.toNat) v69<|.sk<|.holA Tb.o v68 v7.toNat (.agg [.int .i64 v69.fk,.int .i64 v69.far,.int .i64 v69.fas,.int .i64 v69.fp,.int .i64 v69.fa.ff,.int .i64 v69.fa.fd,.int .i64 v69.fa.fN,.gone,.own 1 (v69.fa.fe.map V.bool),.int .i64 v69.fa.fj,.own 8 (v69.faa.map Te.o),.own 1 (v69.fad.map V.bool),.own 6 (v69.fw.map Tc.o)]) fun _=>.segA V.bool v69.fa.fe<|.holA Tb.o v68 v7.toNat (.agg [.int .i64 v69.fk,.int .i64 v69.far,.int .i64 v69.fas,.int .i64 v69.fp,.int .i64 v69.fa.ff,.int .i64 v69.fa.fd,.int .i64 v69.fa.fN,.gone,.own 1 (v69.fa.fe.map V.bool),.int .i64 v69.fa.fj,.own 8 (v69.faa.map Te.o),.own 1 (v69.fad.map V.bool),.own 6 (v69.fw.map Tc.o)]) fun _=>.holA Tb.o v68 v7.toNat (.agg [.int .i64 v69.fk,.int .i64 v69.far,.int .i64 v69.fas,.int .i64 v69.fp,.int .i64 v69.fa.ff,.int .i64 v69.fa.fd,.int .i64 v69.fa.fN,.gone,.own 1 (v69.fa.fe.map V.bool),.int .i64 v69.fa.fj,.own 8 (v69.faa.map Te.o),.own 1 (v69.fad.map V.bool),.own 6 (v69.fw.map Tc.o)]) fun _=>.setI Tb.o v68 (v7.toNat) (.agg [.int .i64 v69.fk,.int .i64 v69.far,.int .i64 v69.fas,.int .i64 v69.fp,.int .i64 v69.fa.ff,.int .i64 v69.fa.fd,.int .i64 v69.fa.fN,.gone,.own 1 (v69.fa.fe.map V.bool),.int .i64 v69.fa.fj,.own 8 (v69.faa.map Te.o),.own 1 (v69.fad.map V.bool),.own 6 (v69.fw.map Tc.o)]) (.agg [.int .i64 v69.fk,.int .i64 v69.far,.int .i64 v69.fas,.int .i64 v69.fp,.int .i64 v69.fa.ff,.int .i64 v69.fa.fd,.int .i64 v69.fa.fN,.gone,.gone,.int .i64 v69.fa.fj,.own 8 (v69.faa.map Te.o),.own 1 (v69.fad.map V.bool),.own 6 (v69.fw.map Tc.o)])<|.holA Tb.o v68 v7.toNat (.agg [.int .i64 v69.fk,.int .i64 v69.far,.int .i64 v69.fas,.int .i64 v69.fp,.int .i64 v69.fa.ff,.int .i64 v69.fa.fd,.int .i64 v69.fa.fN,.gone,.gone,.int .i64 v69.fa.fj,.own 8 (v69.faa.map Te.o),.own 1 (v69.fad.map V.bool),.own 6 (v69.fw.map Tc.o)]) fun _=>.segA Te.o v69.faa<|.holA Tb.o v68 v7.toNat (.agg [.int .i64 v69.fk,.int .i64 v69.far,.int .i64 v69.fas,.int .i64 v69.fp,.int .i64 v69.fa.ff,.int .i64 v69.fa.fd,.int .i64 v69.fa.fN,.gone,.gone,.int .i64 v69.fa.fj,.own 8 (v69.faa.map Te.o),.own 1 (v69.fad.map V.bool),.own 6 (v69.fw.map Tc.o)]) fun _=>.holA Tb.o v68 v7.toNat (.agg [.int .i64 v69.fk,.int .i64 v69.far,.int .i64 v69.fas,.int .i64 v69.fp,.int .i64 v69.fa.ff,.int .i64 v69.fa.fd,.int .i64 v69.fa.fN,.gone,.gone,.int .i64 v69.fa.fj,.own 8 (v69.faa.map Te.o),.own 1 (v69.fad.map V.bool),.own 6 (v69.fw.map Tc.o)]) fun _=>.setI Tb.o v68 (v7.toNat) (.agg [.int .i64 v69.fk,.int .i64 v69.far,.int .i64 v69.fas,.int .i64 v69.fp,.int .i64 v69.fa.ff,.int .i64 v69.fa.fd,.int .i64 v69.fa.fN,.gone,.gone,.int .i64 v69.fa.fj,.own 8 (v69.faa.map Te.o),.own 1 (v69.fad.map V.bool),.own 6 (v69.fw.map Tc.o)]) (.agg [.int .i64 v69.fk,.int .i64 v69.far,.int .i64 v69.fas,.int .i64 v69.fp,.int .i64 v69.fa.ff,.int .i64 v69.fa.fd,.int .i64 v69.fa.fN,.gone,.gone,.int .i64 v69.fa.fj,.gone,.own 1 (v69.fad.map V.bool),.own 6 (v69.fw.map Tc.o)])<|.holA Tb.o v68 v7.toNat (.agg [.int .i64 v69.fk,.int .i64 v69.far,.int .i64 v69.fas,.int .i64 v69.fp,.int .i64 v69.fa.ff,.int .i64 v69.fa.fd,.int .i64 v69.fa.fN,.gone,.gone,.int .i64 v69.fa.fj,.gone,.own 1 (v69.fad.map V.bool),.own 6 (v69.fw.map Tc.o)]) fun _=>.segA Tc.o v69.fw<|.holA Tb.o v68 v7.toNat (.agg [.int .i64 v69.fk,.int .i64 v69.far,.int .i64 v69.fas,.int .i64 v69.fp,.int .i64 v69.fa.ff,.int .i64 v69.fa.fd,.int .i64 v69.fa.fN,.gone,.gone,.int .i64 v69.fa.fj,.gone,.own 1 (v69.fad.map V.bool),.own 6 (v69.fw.map Tc.o)]) fun _=>.holA Tb.o v68 v7.toNat (.agg [.int .i64 v69.fk,.int .i64 v69.far,.int .i64 v69.fas,.int .i64 v69.fp,.int .i64 v69.fa.ff,.int .i64 v69.fa.fd,.int .i64 v69.fa.fN,.gone,.gone,.int .i64 v69.fa.fj,.gone,.own 1 (v69.fad.map V.bool),.own 6 (v69.fw.map Tc.o)]) fun _=>.setI Tb.o v68 (v7.toNat) (.agg [.int .i64 v69.fk,.int .i64 v69.far,.int .i64 v69.fas,.int .i64 v69.fp,.int .i64 v69.fa.ff,.int .i64 v69.fa.fd,.int .i64 v69.fa.fN,.gone,.gone,.int .i64 v69.fa.fj,.gone,.own 1 (v69.fad.map V.bool),.own 6 (v69.fw.map Tc.o)]) (.agg [.int .i64 v69.fk,.int .i64 v69.far,.int .i64 v69.fas,.int .i64 v69.fp,.int .i64 v69.fa.ff,.int .i64 v69.fa.fd,.int .i64 v69.fa.fN,.gone,.gone,.int .i64 v69.fa.fj,.gone,.own 1 (v69.fad.map V.bool),.gone])<|.segA (V.int .i64) v74.fg<|.segA V.bool v74.fe<|.seg ((v68.map Tb.o).set (0+v7.toNat) (.agg [.int .i64 v69.fk,.int .i64 v69.far,.int .i64 v69.fas,.int .i64 v69.fp,.int .i64 v69.fa.ff,.int .i64 v69.fa.fd,.int .i64 v69.fa.fN,.gone,.gone,.int .i64 v69.fa.fj,.gone,.own 1 (v69.fad.map V.bool),.gone])) 0 ((v68.map Tb.o).set (0+v7.toNat) (.agg [.int .i64 v69.fk,.int .i64 v69.far,.int .i64 v69.fas,.int .i64 v69.fp,.int .i64 v69.fa.ff,.int .i64 v69.fa.fd,.int .i64 v69.fa.fN,.gone,.gone,.int .i64 v69.fa.fj,.gone,.own 1 (v69.fad.map V.bool),.gone])).length ((v68.map Tb.o).set (0+v7.toNat) (.agg [.int .i64 v69.fk,.int .i64 v69.far,.int .i64 v69.fas,.int .i64 v69.fp,.int .i64 v69.fa.ff,.int .i64 v69.fa.fd,.int .i64 v69.fa.fN,.gone,.gone,.int .i64 v69.fa.fj,.gone,.own 1 (v69.fad.map V.bool),.gone]))<|.call (ytc v68 v7 (i64.wrap (v7+1)) (.agg [.int .i64 v69.fk,.int .i64 v69.far,.int .i64 v69.fas,.int .i64 v69.fp,.int .i64 v69.fa.ff,.int .i64 v69.fa.fd,.int .i64 v69.fa.fN,.gone,.gone,.int .i64 v69.fa.fj,.gone,.own 1 (v69.fad.map V.bool),.gone])) fun(v78:List Tb)=>.segA Tb.o v78<|.segA (V.int .i64) v69.fa.fg<|.segA V.bool v69.fa.fe<|.segA Te.o v69.faa<|.segA Tc.o v69.fw<|.segA (V.int .i64) v74.fg<|.segA V.bool v74.fe<|.eqL [.agg [.int .i64 v69.far,.int .i64 v69.fas,.int .i64 v69.fa.ff,.int .i64 v69.fa.fd,.int .i64 v69.fa.fN,.own 1 (v69.fa.fg.map (V.int .i64)),.own 1 (v69.fa.fe.map V.bool),.int .i64 v69.fa.fj,.own 8 (v69.faa.map Te.o),.own 6 (v69.fw.map Tc.o),.int .i64 v74.ff,.int .i64 v74.fak,.int .i64 v74.fd,.int .i64 v74.fN,.own 1 (v74.fg.map (V.int .i64)),.own 1 (v74.fe.map V.bool)]] (([({ v69 with fah:=v74 }:Th)]:List Th).map Th.o)<|.segA (V.int .i64) v69.fa.fg<|.segA V.bool v69.fa.fe<|.segA Te.o v69.faa<|.segA Tc.o v69.fw<|.segA (V.int .i64) v74.fg<|.segA V.bool v74.fe<|.eqL [.agg [.int .i64 v69.far,.int .i64 v69.fas,.int .i64 v69.fa.ff,.int .i64 v69.fa.fd,.int .i64 v69.fa.fN,.own 1 (v69.fa.fg.map (V.int .i64)),.own 1 (v69.fa.fe.map V.bool),.int .i64 v69.fa.fj,.own 8 (v69.faa.map Te.o),.own 6 (v69.fw.map Tc.o),.int .i64 v74.ff,.int .i64 v74.fak,.int .i64 v74.fd,.int .i64 v74.fN,.own 1 (v74.fg.map (V.int .i64)),.own 1 (v74.fe.map V.bool)]] (([({ v69 with fah:=v74 }:Th)]:List Th).map Th.o)<|.oq (.agg [.int .i64 v5.fo,.hd 13 (.box 4) 1 [] 0 (v78.map Tb.o).length])<|.oq (.agg [.int .i64 v5.fo,.hd 13 (.box 4) 1 [] 0 (v78.map Tb.o).length])<|.segA Tb.o v78<|.segA Tb.o v78<|.segA Th.o ([({ v69 with fah:=v74 }:Th)]:List Th)<|.segA Tb.o v78<|.segA Tb.o v78<|.oq (.agg [.int .i64 v69.far,.int .i64 v69.fas,.int .i64 v69.fa.ff,.int .i64 v69.fa.fd,.int .i64 v69.fa.fN,.hd 1 (.box 5) 5 [] 0 (v69.fa.fg.map (V.int .i64)).length,.hd 1 (.box 5) 6 [] 0 (v69.fa.fe.map V.bool).length,.int .i64 v69.fa.fj,.hd 8 (.box 5) 8 [] 0 (v69.faa.map Te.o).length,.hd 6 (.box 5) 9 [] 0 (v69.fw.map Tc.o).length,.int .i64 v74.ff,.int .i64 v74.fak,.int .i64 v74.fd,.int .i64 v74.fN,.hd 1 (.box 5) 14 [] 0 (v74.fg.map (V.int .i64)).length,.hd 1 (.box 5) 15 [] 0 (v74.fe.map V.bool).length])<|.oq (.agg [.int .i64 v69.far,.int .i64 v69.fas,.int .i64 v69.fa.ff,.int .i64 v69.fa.fd,.int .i64 v69.fa.fN,.hd 1 (.box 5) 5 [] 0 (v69.fa.fg.map (V.int .i64)).length,.hd 1 (.box 5) 6 [] 0 (v69.fa.fe.map V.bool).length,.int .i64 v69.fa.fj,.hd 8 (.box 5) 8 [] 0 (v69.faa.map Te.o).length,.hd 6 (.box 5) 9 [] 0 (v69.fw.map Tc.o).length,.int .i64 v74.ff,.int .i64 v74.fak,.int .i64 v74.fd,.int .i64 v74.fN,.hd 1 (.box 5) 14 [] 0 (v74.fg.map (V.int .i64)).length,.hd 1 (.box 5) 15 [] 0 (v74.fe.map V.bool).length])<|.segA (V.int .i64) v69.fa.fg<|.segA V.bool v69.fa.fe<|.segA Te.o v69.faa<|.segA Tc.o v69.fw<|.segA (V.int .i64) v74.fg<|.segA V.bool v74.fe<|.eqL [.agg [.int .i64 v69.far,.int .i64 v69.fas,.int .i64 v69.fa.ff,.int .i64 v69.fa.fd,.int .i64 v69.fa.fN,.own 1 (v69.fa.fg.map (V.int .i64)),.own 1 (v69.fa.fe.map V.bool),.int .i64 v69.fa.fj,.own 8 (v69.faa.map Te.o),.own 6 (v69.fw.map Tc.o),.int .i64 v74.ff,.int .i64 v74.fak,.int .i64 v74.fd,.int .i64 v74.fN,.own 1 (v74.fg.map (V.int .i64)),.own 1 (v74.fe.map V.bool)]] (([({ v69 with fah:=v74 }:Th)]:List Th).map Th.o)<|.segA (V.int .i64) v69.fa.fg<|.segA V.bool v69.fa.fe<|.segA Te.o v69.faa<|.segA Tc.o v69.fw<|.segA (V.int .i64) v74.fg<|.segA V.bool v74.fe<|.eqL [.agg [.int .i64 v69.far,.int .i64 v69.fas,.int .i64 v69.fa.ff,.int .i64 v69.fa.fd,.int .i64 v69.fa.fN,.own 1 (v69.fa.fg.map (V.int .i64)),.own 1 (v69.fa.fe.map V.bool),.int .i64 v69.fa.fj,.own 8 (v69.faa.map Te.o),.own 6 (v69.fw.map Tc.o),.int .i64 v74.ff,.int .i64 v74.fak,.int .i64 v74.fd,.int .i64 v74.fN,.own 1 (v74.fg.map (V.int .i64)),.own 1 (v74.fe.map V.bool)]] (([({ v69 with fah:=v74 }:Th)]:List Th).map Th.o)<|.segA Th.o ([({ v69 with fah:=v74 }:Th)]:List Th)<|.ob ((⟨sv 20 [(0,v1.i),(1,.int .i64 v2),(2,.int .i64 v3),(3,v4.i),(4,.ref (.box 0) 0 []),(5,.ref (.box 1) 0 []),(6,.ref (.box 2) 0 []),(7,.ref (.box 3) 0 []),(8,.own 16 (([({ v69 with fah:=v74 }:Th)]:List Th).map Th.o)),(9,.ref (.box 4) 0 []),(10,.int .i64 v7),(12,.ref (.box 5) 0 []),(13,.bool false),(14,.bool false),(15,.agg [.int .i64 v5.fo,.gone]),(16,.agg [.int .i64 v69.far,.int .i64 v69.fas,.int .i64 v69.fa.ff,.int .i64 v69.fa.fd,.int .i64 v69.fa.fN,.gone,.gone,.int .i64 v69.fa.fj,.gone,.gone,.int .i64 v74.ff,.int .i64 v74.fak,.int .i64 v74.fd,.int .i64 v74.fN,.gone,.gone])],[[.int .i64 v1.fo,.imm 13 (v1.fi.map Tb.i)],[.int .i64 v2],[.int .i64 v4.ff,.int .i64 v4.fak,.int .i64 v4.fd,.int .i64 v4.fN,.imm 1 (v4.fg.map (V.int .i64)),.imm 1 (v4.fe.map V.bool)],[.int .i64 v5.fo,.own 13 (v78.map Tb.o)],[.int .i64 v5.fo,.gone],[.int .i64 v69.far,.int .i64 v69.fas,.int .i64 v69.fa.ff,.int .i64 v69.fa.fd,.int .i64 v69.fa.fN,.gone,.gone,.int .i64 v69.fa.fj,.gone,.gone,.int .i64 v74.ff,.int .i64 v74.fak,.int .i64 v74.fd,.int .i64 v74.fN,.gone,.gone]]⟩:St)=⟨sv 20 [(0,v1.i),(1,.int .i64 v2),(2,.int .i64 v3),(3,v4.i),(4,.ref (.box 0) 0 []),(5,.ref (.box 1) 0 []),(6,.ref (.box 2) 0 []),(7,.ref (.box 3) 0 []),(8,.own 16 (([({ v69 with fah:=v74 }:Th)]:List Th).map Th.o)),(9,.ref (.box 4) 0 []),(10,.int .i64 v7),(12,.ref (.box 5) 0 []),(13,.bool false),(14,.bool false),(15,.agg [.int .i64 v5.fo,.gone]),(16,.agg [.int .i64 v69.far,.int .i64 v69.fas,.int .i64 v69.fa.ff,.int .i64 v69.fa.fd,.int .i64 v69.fa.fN,.gone,.gone,.int .i64 v69.fa.fj,.gone,.gone,.int .i64 v74.ff,.int .i64 v74.fak,.int .i64 v74.fd,.int .i64 v74.fN,.gone,.gone])],[[.int .i64 v1.fo,.imm 13 (v1.fi.map Tb.i)],[.int .i64 v2],[.int .i64 v4.ff,.int .i64 v4.fak,.int .i64 v4.fd,.int .i64 v4.fN,.imm 1 (v4.fg.map (V.int .i64)),.imm 1 (v4.fe.map V.bool)],[.int .i64 v5.fo,.own 13 (v78.map Tb.o)],[.int .i64 v5.fo,.gone],[.int .i64 v69.far,.int .i64 v69.fas,.int .i64 v69.fa.ff,.int .i64 v69.fa.fd,.int .i64 v69.fa.fN,.gone,.gone,.int .i64 v69.fa.fj,.gone,.gone,.int .i64 v74.ff,.int .i64 v74.fak,.int .i64 v74.fd,.int .i64 v74.fN,.gone,.gone]]⟩)<|.segA Tb.o v78<|.segA Th.o ([({ v69 with fah:=v74 }:Th)]:List Th)<|.lfA ycu ((⟨v5.fo,v78⟩:Tm),([({ v69 with fah:=v74 }:Th)]:List Th))) (by kernel_rfl) (cF yna fun v5=>sA<|cF yku fun v7=>bR (sA<|sA<|⟨za0 [],rfl⟩)<|gU<|⟨zed _ _ _,fun v10 h11=>lA<|cF zi1 fun v12=>bR (sA<|sA<|⟨za0 [],rfl⟩)<|gU<|⟨zc0 _ h11,gU<|kA fun v15=>bR (sA<|sA<|⟨za0 [],rfl⟩)<|gU<|⟨zc0 _ h11,gU<|kA fun v18=>cF ynw fun v20=>bR (sA<|sA<|⟨za0 [],rfl⟩)<|gU<|lK fun v23 h24=>lD h24<|cF ypq fun v25=>gU<|lD h24<|lK fun v27 h28=>lD h24<|lD h28<|lD h24<|lD h28<|sN fun v29=>lD h24<|sN fun v30=>lD h24<|lD h28<|lD h24<|lD h28<|lD h24<|lD h28<|sN fun v31=>lD h24<|sN fun v32=>⟨rfl,⟨rfl,gU<|sA<|sA<|lK fun v33 h34=>lK fun v35 h36=>lD h34<|lD h36<|lD h34<|lD h36<|sN fun v37=>lD h34<|sN fun v38=>lK fun v39 h40=>lK fun v41 h42=>lD h40<|lD h42<|lD h40<|lD h42<|sN fun v43=>lD h40<|sN fun v44=>lK fun v45 h46=>lK fun v47 h48=>lD h46<|lD h48<|lD h46<|lD h48<|sN fun v49=>lD h46<|sN fun v50=>lK fun v51 h52=>lK fun v53 h54=>lD h52<|lD h54<|lD h52<|lD h54<|sN fun v55=>lD h52<|sN fun v56=>lK fun v57 h58=>lK fun v59 h60=>lD h58<|lD h60<|lD h58<|lD h60<|sN fun v61=>lD h58<|sN fun v62=>lK fun v63 h64=>lK fun v65 h66=>lD h64<|lD h66<|lD h64<|lD h66<|sN fun v67=>lD h64<|sN fun v68=>lK fun v69 h70=>lD h70<|sE (fun _=>rfl)<|cF yp9 fun v71=>bR (sA<|sA<|⟨za0 [],rfl⟩)<|lD h70<|lD h70<|lD h70<|lD h70<|lD h70<|lD h70<|lD h70<|lD h70<|lD h70<|sE (fun _=>rfl)<|lD h70<|sE (fun _=>rfl)<|lD h70<|sE Te.o_i<|lD h70<|sE Tc.o_i<|⟨yqi,fun v74 h75=>⟨rfl,⟨rfl,⟨rfl,lD h70<|sE (fun _=>rfl)<|lD h70<|sE (fun _=>rfl)<|lD h70<|sE Te.o_i<|lD h70<|sE Tc.o_i<|⟨yqi,fun v76 h77=>⟨by rw [show v76=v74 from Option.some.inj (h77.symm.trans h75)],⟨rfl,lD h70<|⟨rfl,⟨rfl,⟨rfl,⟨rfl,⟨rfl,⟨rfl,⟨rfl,⟨rfl,lD h70<|⟨rfl,⟨rfl,⟨rfl,⟨rfl,⟨rfl,⟨rfl,⟨rfl,⟨rfl,lD h70<|⟨rfl,⟨rfl,⟨rfl,⟨rfl,⟨rfl,⟨rfl,⟨rfl,⟨rfl,lD h70<|⟨rfl,⟨rfl,⟨rfl,⟨rfl,⟨rfl,⟨rfl,⟨rfl,⟨rfl,lD h70<|⟨rfl,⟨rfl,⟨rfl,⟨rfl,⟨rfl,⟨rfl,⟨rfl,⟨rfl,lD h70<|⟨rfl,⟨rfl,⟨rfl,⟨rfl,⟨rfl,⟨rfl,⟨rfl,⟨rfl,lD h70<|⟨rfl,⟨rfl,⟨rfl,⟨rfl,⟨rfl,⟨rfl,⟨rfl,⟨rfl,lD h70<|⟨rfl,⟨rfl,⟨rfl,⟨rfl,⟨rfl,⟨rfl,⟨rfl,lD h70<|sA<|lD h70<|lD h70<|⟨zb0 _ _ _ _,fun _ _=>sA<|⟨zb0 _ _ _ _,fun _ _=>⟨zb0 _ _ _ _,fun _ _=>⟨zg4 _ _ _ _ _,⟨zb0 _ _ _ _,fun _ _=>sA<|⟨zb0 _ _ _ _,fun _ _=>⟨zb0 _ _ _ _,fun _ _=>⟨zg4 _ _ _ _ _,⟨zb0 _ _ _ _,fun _ _=>sA<|⟨zb0 _ _ _ _,fun _ _=>⟨zb0 _ _ _ _,fun _ _=>⟨zg4 _ _ _ _ _,sA<|sA<|⟨za0 ((v68.map Tb.o).set (0+v7.toNat) (.agg [.int .i64 v69.fk,.int .i64 v69.far,.int .i64 v69.fas,.int .i64 v69.fp,.int .i64 v69.fa.ff,.int .i64 v69.fa.fd,.int .i64 v69.fa.fN,.gone,.gone,.int .i64 v69.fa.fj,.gone,.own 1 (v69.fad.map V.bool),.gone])),cE yxf fun v78=>sA<|sA<|sA<|sA<|sA<|sA<|sA<|⟨rfl,sA<|sA<|sA<|sA<|sA<|sA<|⟨rfl,⟨rfl,⟨rfl,sA<|sA<|sA<|sA<|sA<|⟨rfl,⟨rfl,sA<|sA<|sA<|sA<|sA<|sA<|⟨rfl,sA<|sA<|sA<|sA<|sA<|sA<|⟨rfl,sA<|⟨rfl,sA<|sA<|rfl⟩⟩⟩⟩⟩⟩⟩⟩⟩⟩⟩⟩⟩⟩⟩⟩⟩⟩⟩⟩⟩⟩⟩⟩⟩⟩⟩⟩⟩⟩⟩⟩⟩⟩⟩⟩⟩⟩⟩⟩⟩⟩⟩⟩⟩⟩⟩⟩⟩⟩⟩⟩⟩⟩⟩⟩⟩⟩⟩⟩⟩⟩⟩⟩⟩⟩⟩⟩⟩⟩⟩⟩⟩⟩⟩⟩⟩⟩⟩⟩⟩⟩⟩⟩⟩⟩⟩⟩⟩⟩⟩⟩⟩⟩⟩⟩⟩) fun r=>⟨rfl,qa7 r⟩
def zsn (v1:List Tn) (k:Int) (s:Tg×List Th):St:=⟨sv 11 [(0,.ref (.box 0) 0 []),(1,.imm 8 (v1.map Tn.i)),(3,.own 16 (s.2.map Th.i)),(7,.imm 8 (v1.map Tn.i)),(8,.I (v1.length:Int)),(9,.I k)],[[.I s.1.fag,.I s.1.fr.fac,.I s.1.fr.fab,.own 7 (s.1.fr.faf.map Tf.i),.I s.1.ft.fo,.own 13 (s.1.ft.fi.map Tb.o),.own 17 (s.1.fq.map Ta.o),.I s.1.faj,.I s.1.fai,.I s.1.fal,.I s.1.fan]]⟩
def znv (v1:List Tn):(List Th×Tg)->Ex×St:=fun p=>((.exit 0),⟨sv 11 [(0,.ref (.box 0) 0 []),(1,.imm 8 (v1.map Tn.i)),(3,.own 16 (p.1.map Th.i)),(7,.imm 8 (v1.map Tn.i)),(8,.I (v1.length:Int)),(9,.I (v1.length:Int)),(10,.bool false)],[[.I p.2.fag,.I p.2.fr.fac,.I p.2.fr.fab,.own 7 (p.2.fr.faf.map Tf.i),.I p.2.ft.fo,.own 13 (p.2.ft.fi.map Tb.o),.own 17 (p.2.fq.map Ta.o),.I p.2.faj,.I p.2.fai,.I p.2.fal,.I p.2.fan]]⟩)
def ybk (v1:List Tn) (k:Int):=zcd (zsn v1 k) (znv v1)
def zzt (v1:List Tn) (k:Int) (x:Tn) (s:Tg×List Th):Option ((Tg×List Th)⊕((List Th×Tg))):=(ylm s.1.ft x.fk x.fu x.fah).bind fun v23=>((ylm s.1.ft x.fk x.fu x.fah).bind fun v25=>((yjf v23.2 ({ s.1 with ft:=v23.1 }:Tg)).bind fun v27=>(if ((s.2.map Th.i).length+(v27.1.map Th.i).length) * 224<=70368744177664 then(some (.inl (v27.2,(s.2++v27.1)))) else none)))
def zz9 (v1:List Tn) (s:Tg×List Th):Option ((List Th×Tg)):=some ((s.2,s.1))
def zot (v1:List Tn) (s:Tg×List Th):Option ((List Th×Tg)):=if v1.length<=9223372036854775806 then zab (zzt v1) (zz9 v1) v1 0 s else none
def yaj (v1:List Tn) (s:Tg×List Th):Lct:=⟨11,yem,1,[2,4,5,6,10],some (zsn v1 0 s),List Th×Tg,zot v1 s,znv v1⟩
theorem yif {v1:List Tn} {s:Tg×List Th}:(yaj v1 s).ok tab:=zbw (list_oky (J:=zsn v1) (o:=(znv v1)) v1 (B:=fun k x s=>(.kb (decide (k<(v1.length:Int))) true<|.kx Tn.i v1 k x<|.se Tb.o Tb.i s.1.ft.fi<|.callF (yoy s.1.ft x.fk x.fu x.fah) fun(v23:Tm×List Th)=>.oq (.hd 16 (.var 21) 2 [] 0 (v23.2.map Th.o).length)<|.oq (.hd 16 (.var 21) 2 [] 0 (v23.2.map Th.o).length)<|.oq (.agg [.int .i64 v23.1.fo,.hd 13 (.var 21) 1 [] 0 (v23.1.fi.map Tb.o).length])<|.oq (.agg [.int .i64 v23.1.fo,.hd 13 (.var 21) 1 [] 0 (v23.1.fi.map Tb.o).length])<|.oq (.tup [.agg [.int .i64 v23.1.fo,.hd 13 (.var 21) 1 [] 0 (v23.1.fi.map Tb.o).length],.hd 16 (.var 21) 2 [] 0 (v23.2.map Th.o).length])<|.oq (.tup [.agg [.int .i64 v23.1.fo,.hd 13 (.var 21) 1 [] 0 (v23.1.fi.map Tb.o).length],.hd 16 (.var 21) 2 [] 0 (v23.2.map Th.o).length])<|.oq (.tup [v23.1.o,.own 16 (v23.2.map Th.o)])<|.se Tb.o Tb.i s.1.ft.fi<|.callF (yoy s.1.ft x.fk x.fu x.fah) fun(v25:Tm×List Th)=>.ob ((.tup [v25.1.o,.own 16 (v25.2.map Th.o)]:V)=.tup [v23.1.o,.own 16 (v23.2.map Th.o)])<|.oq (x.fah.i)<|.oq (x.fah.i)<|.oq (.ref (.box 1) 2 [])<|.oq (.ref (.box 1) 2 [])<|.oq (.int .i64 x.fu)<|.oq (.int .i64 x.fu)<|.oq (.ref (.box 1) 1 [])<|.oq (.ref (.box 1) 1 [])<|.oq (.int .i64 x.fk)<|.oq (.int .i64 x.fk)<|.oq (.ref (.box 1) 0 [])<|.oq (.ref (.box 1) 0 [])<|.oq (.agg [.int .i64 s.1.ft.fo,.hd 13 (.box 0) 5 [] 0 (s.1.ft.fi.map Tb.o).length])<|.oq (.agg [.int .i64 s.1.ft.fo,.hd 13 (.box 0) 5 [] 0 (s.1.ft.fi.map Tb.o).length])<|.oq (.ref (.box 0) 4 [])<|.oq (.ref (.box 0) 4 [])<|.oq (.ref (.box 0) 0 [])<|.oq (.ref (.box 0) 0 [])<|.oq (.ref (.box 0) 0 [])<|.oq (.ref (.box 0) 0 [])<|.segA Tb.o v23.1.fi<|.segA Tb.o v23.1.fi<|.oq (.hd 16 (.var 21) 2 [] 0 (v23.2.map Th.o).length)<|.oq (.hd 16 (.var 21) 2 [] 0 (v23.2.map Th.o).length)<|.segA Th.o v23.2<|.segA Tb.o v23.1.fi<|.se Th.o Th.i v23.2<|.eraA Th.o Th.i v23.2<|.call (ym7 v23.2 ({ s.1 with ft:=v23.1 }:Tg)) fun(v27:List Th×Tg)=>.segA Th.i s.2<|.guard (((s.2.map Th.i).length+(v27.1.map Th.i).length) * 224<=70368744177664) inferInstance<|.appA Th.i s.2 v27.1<|.segA Th.i (s.2++v27.1)<|.lfA (ybk v1 (w1 k)) (.inl (v27.2,(s.2++v27.1))))) (E:=fun s=>(.kb (decide ((v1.length:Int)<(v1.length:Int))) false<|.lfA (ybk v1 0) (.inr (s.2,s.1)))) (by kernel_rfl) (fun d x t s he=>⟨ltX he,kX he<|sE Tb.o_i<|⟨yqr,fun v23 h24=>⟨rfl,⟨rfl,⟨rfl,⟨rfl,⟨rfl,⟨rfl,⟨rfl,sE Tb.o_i<|⟨yqr,fun v25 h26=>⟨by rw [show v25=v23 from Option.some.inj (h26.symm.trans h24)],⟨rfl,⟨rfl,⟨rfl,⟨rfl,⟨rfl,⟨rfl,⟨rfl,⟨rfl,⟨rfl,⟨rfl,⟨rfl,⟨rfl,⟨rfl,⟨rfl,⟨rfl,⟨rfl,⟨rfl,⟨rfl,⟨rfl,⟨rfl,sA<|sA<|⟨rfl,⟨rfl,sA<|sA<|sE Th.o_i<|eO Th.o_i<|cE yo9 fun v27=>sA<|gU<|aA<|sA<|rfl⟩⟩⟩⟩⟩⟩⟩⟩⟩⟩⟩⟩⟩⟩⟩⟩⟩⟩⟩⟩⟩⟩⟩⟩⟩⟩⟩⟩⟩⟩⟩⟩⟩) (fun _=>rfl) (fun s=>⟨ltE _,rfl⟩) s)
def ysh:(List Th×Tg)->V×List (List V):=fun r=>(.own 16 (r.1.map Th.i),[[.int .i64 r.2.fag,.int .i64 r.2.fr.fac,.int .i64 r.2.fr.fab,.own 7 (r.2.fr.faf.map Tf.i),.int .i64 r.2.ft.fo,.own 13 (r.2.ft.fi.map Tb.o),.own 17 (r.2.fq.map Ta.o),.int .i64 r.2.faj,.int .i64 r.2.fai,.int .i64 r.2.fal,.int .i64 r.2.fan]])
def yds (v1:List Tn) (v2:Tg):Option (List Th×Tg):=(zot v1 (v2,[])).bind fun v28=>(some (v28.1,v28.2))
def yto (v1:List Tn) (v2:Tg):Ctr:=⟨42,[.ref (.box 0) 0 [],.imm 8 (v1.map Tn.i)],[[.I v2.fag,.I v2.fr.fac,.I v2.fr.fab,.own 7 (v2.fr.faf.map Tf.i),.I v2.ft.fo,.own 13 (v2.ft.fi.map Tb.o),.own 17 (v2.fq.map Ta.o),.I v2.faj,.I v2.fai,.I v2.fal,.I v2.fan]],List Th×Tg,yds v1 v2,ysh⟩
theorem yw0 {v1:List Tn} {v2:Tg}:(yto v1 v2).ok tab:=okX_of rfl rfl (.sk<|.seg [] 0 0 []<|.lenA Tn.i v1<|.lp (yaj v1 (v2,[])) fun(v28:List Th×Tg)=>.segA Th.i v28.1<|.lfA ysh (v28.1,v28.2)) (by kernel_rfl) ⟨za0 [],lA<|lP yif fun v28=>sA<|rfl⟩
def zqw (v1:Tg) (v73:Tg) (v74:Int) (v76:List Th) (v149:Ta×List Tj×List Tn) (v201:List Ta) (k:Int) (s:List To):St:=⟨sv 17 [(0,.ref (.box 0) 0 []),(3,.own 9 (s.map To.i)),(4,.own 16 (v76.map Th.i)),(5,.I v74),(7,.imm 8 (v149.2.1.map Tj.i)),(8,.own 8 (v149.2.2.map Tn.o)),(10,.I (v1.fq.length:Int)),(11,.I v74),(13,.imm 8 (v149.2.1.map Tj.i)),(14,.I (v149.2.1.length:Int)),(15,.I k)],[[.I v73.fag,.I v73.fr.fac,.I v73.fr.fab,.own 7 (v73.fr.faf.map Tf.i),.I v73.ft.fo,.own 13 (v73.ft.fi.map Tb.o),.own 17 (v201.map Ta.o),.I v73.faj,.I v73.fai,.I v73.fal,.I v73.fan],[.gone,.bool v149.1.fam,.I v149.1.fc.fk,.I v149.1.fc.fu,.I v149.1.fc.fp,.I v149.1.fc.fa.ff,.I v149.1.fc.fa.fd,.I v149.1.fc.fa.fN,.gone,.gone,.I v149.1.fc.fa.fj,.I v149.1.fao,.I v149.1.faq,.I v149.1.fap,.I v149.1.fo,.I v149.1.fac,.I v149.1.fab]]⟩
def zni (v1:Tg) (v73:Tg) (v74:Int) (v76:List Th) (v149:Ta×List Tj×List Tn) (v201:List Ta):(List To)->Ex×St:=fun p=>((.exit 2),⟨sv 17 [(0,.ref (.box 0) 0 []),(3,.own 9 (p.map To.i)),(4,.own 16 (v76.map Th.i)),(5,.I v74),(7,.imm 8 (v149.2.1.map Tj.i)),(8,.own 8 (v149.2.2.map Tn.o)),(10,.I (v1.fq.length:Int)),(11,.I v74),(13,.imm 8 (v149.2.1.map Tj.i)),(14,.I (v149.2.1.length:Int)),(15,.I (v149.2.1.length:Int)),(16,.bool false)],[[.I v73.fag,.I v73.fr.fac,.I v73.fr.fab,.own 7 (v73.fr.faf.map Tf.i),.I v73.ft.fo,.own 13 (v73.ft.fi.map Tb.o),.own 17 (v201.map Ta.o),.I v73.faj,.I v73.fai,.I v73.fal,.I v73.fan],[.gone,.bool v149.1.fam,.I v149.1.fc.fk,.I v149.1.fc.fu,.I v149.1.fc.fp,.I v149.1.fc.fa.ff,.I v149.1.fc.fa.fd,.I v149.1.fc.fa.fN,.gone,.gone,.I v149.1.fc.fa.fj,.I v149.1.fao,.I v149.1.faq,.I v149.1.fap,.I v149.1.fo,.I v149.1.fac,.I v149.1.fab]]⟩)
def yba (v1:Tg) (v73:Tg) (v74:Int) (v76:List Th) (v149:Ta×List Tj×List Tn) (v201:List Ta) (k:Int):=zcd (zqw v1 v73 v74 v76 v149 v201 k) (zni v1 v73 v74 v76 v149 v201)
def yam (v1:Tg) (v73:Tg) (v74:Int) (v76:List Th) (v149:Ta×List Tj×List Tn) (v201:List Ta) (k:Int) (x:Tj) (s:List To):Option ((List To)⊕((List To))):=if((s.map To.i).length+(([(⟨v74,x⟩:To)]:List To).map To.i).length) * 104<=70368744177664 then(some (.inl (s++([(⟨v74,x⟩:To)]:List To)))) else none
def yh3 (v1:Tg) (v73:Tg) (v74:Int) (v76:List Th) (v149:Ta×List Tj×List Tn) (v201:List Ta) (s:List To):Option ((List To)):=some (s)
def zmj (v1:Tg) (v73:Tg) (v74:Int) (v76:List Th) (v149:Ta×List Tj×List Tn) (v201:List Ta) (s:List To):Option ((List To)):=if v149.2.1.length<=9223372036854775806 then zab (yam v1 v73 v74 v76 v149 v201) (yh3 v1 v73 v74 v76 v149 v201) v149.2.1 0 s else none
def yak (v1:Tg) (v73:Tg) (v74:Int) (v76:List Th) (v149:Ta×List Tj×List Tn) (v201:List Ta) (s:List To):Lct:=⟨17,zws,2,[1,2,6,9,12,16],some (zqw v1 v73 v74 v76 v149 v201 0 s),List To,zmj v1 v73 v74 v76 v149 v201 s,zni v1 v73 v74 v76 v149 v201⟩
theorem yir {v1:Tg} {v73:Tg} {v74:Int} {v76:List Th} {v149:Ta×List Tj×List Tn} {v201:List Ta} {s:List To}:(yak v1 v73 v74 v76 v149 v201 s).ok tab:=zbw (list_oky (J:=zqw v1 v73 v74 v76 v149 v201) (o:=(zni v1 v73 v74 v76 v149 v201)) v149.2.1 (B:=fun k x s=>(.kb (decide (k<(v149.2.1.length:Int))) true<|.kx Tj.i v149.2.1 k x<|.eqL [.agg [.int .i64 v74,.int .i64 x.fao,.int .i64 x.fp,.int .i64 x.fa.ff,.int .i64 x.fa.fd,.int .i64 x.fa.fN,.imm 1 (x.fa.fg.map (V.int .i64)),.imm 1 (x.fa.fe.map V.bool),.int .i64 x.fa.fj]] (([(⟨v74,x⟩:To)]:List To).map To.i)<|.segA To.i s<|.segA To.i ([(⟨v74,x⟩:To)]:List To)<|.guard (((s.map To.i).length+(([(⟨v74,x⟩:To)]:List To).map To.i).length) * 104<=70368744177664) inferInstance<|.appA To.i s ([(⟨v74,x⟩:To)]:List To)<|.segA To.i (s++([(⟨v74,x⟩:To)]:List To))<|.lfA (yba v1 v73 v74 v76 v149 v201 (w1 k)) (.inl (s++([(⟨v74,x⟩:To)]:List To))))) (E:=fun s=>(.kb (decide ((v149.2.1.length:Int)<(v149.2.1.length:Int))) false<|.lfA (yba v1 v73 v74 v76 v149 v201 0) (.inr s))) (by kernel_rfl) (fun d x t s he=>⟨ltX he,kX he<|⟨rfl,sA<|sA<|gU<|aA<|sA<|rfl⟩⟩) (fun _=>rfl) (fun s=>⟨ltE _,rfl⟩) s)
def zss (v1:Tg) (k:Int) (s:Tg×List To×List Th):St:=⟨sv 17 [(0,.ref (.box 0) 0 []),(3,.own 9 (s.2.1.map To.i)),(4,.own 16 (s.2.2.map Th.i)),(10,.I (v1.fq.length:Int)),(11,.I k)],[[.I s.1.fag,.I s.1.fr.fac,.I s.1.fr.fab,.own 7 (s.1.fr.faf.map Tf.i),.I s.1.ft.fo,.own 13 (s.1.ft.fi.map Tb.o),.own 17 (s.1.fq.map Ta.o),.I s.1.faj,.I s.1.fai,.I s.1.fal,.I s.1.fan]]⟩
def zn8 (v1:Tg):(List To×List Th×Tg)->Ex×St:=fun p=>((.exit 0),⟨sv 17 [(0,.ref (.box 0) 0 []),(3,.own 9 (p.1.map To.i)),(4,.own 16 (p.2.1.map Th.i)),(10,.I (v1.fq.length:Int)),(11,.I (v1.fq.length:Int)),(12,.bool false)],[[.I p.2.2.fag,.I p.2.2.fr.fac,.I p.2.2.fr.fab,.own 7 (p.2.2.fr.faf.map Tf.i),.I p.2.2.ft.fo,.own 13 (p.2.2.ft.fi.map Tb.o),.own 17 (p.2.2.fq.map Ta.o),.I p.2.2.faj,.I p.2.2.fai,.I p.2.2.fal,.I p.2.2.fan]]⟩)
def yb4 (v1:Tg) (k:Int):=zcd (zss v1 k) (zn8 v1)
def zfw (v1:Tg) (k:Int) (x:Ta) (s:Tg×List To×List Th):Option ((Tg×List To×List Th)⊕((List To×List Th×Tg))):=if 0<=k/\(k:Int)<(((s.1.fq.map Ta.o).length - 0:Nat):Int) then(((s.1.fq)[k.toNat]?).bind fun v147=>((zql v147 s.1.fag).bind fun v149=>((zql v147 s.1.fag).bind fun v151=>(if 0<=k/\(k:Int)<(((s.1.fq.map Ta.o).length - 0:Nat):Int) then(if 0<=k/\(k:Int)<(((s.1.fq.map Ta.o).length - 0:Nat):Int) then(let v153:=s.1.fq.set (k.toNat) ({ v147 with fh:=v149.1.fh }:Ta);(((v153)[k.toNat]?).bind fun v154=>(let v156:=v153.set (k.toNat) ({ v154 with fam:=v149.1.fam }:Ta);(((v156)[k.toNat]?).bind fun v157=>(let v159:=v156.set (k.toNat) ({ v157 with fc:=({ v157.fc with fk:=v149.1.fc.fk }:Td) }:Ta);(((v159)[k.toNat]?).bind fun v160=>(let v162:=v159.set (k.toNat) ({ v160 with fc:=({ v160.fc with fu:=v149.1.fc.fu }:Td) }:Ta);(((v162)[k.toNat]?).bind fun v163=>(let v165:=v162.set (k.toNat) ({ v163 with fc:=({ v163.fc with fp:=v149.1.fc.fp }:Td) }:Ta);(((v165)[k.toNat]?).bind fun v166=>(let v168:=v165.set (k.toNat) ({ v166 with fc:=({ v166.fc with fa:=({ v166.fc.fa with ff:=v149.1.fc.fa.ff }:Ti) }:Td) }:Ta);(((v168)[k.toNat]?).bind fun v169=>(let v171:=v168.set (k.toNat) ({ v169 with fc:=({ v169.fc with fa:=({ v169.fc.fa with fd:=v149.1.fc.fa.fd }:Ti) }:Td) }:Ta);(((v171)[k.toNat]?).bind fun v172=>(let v174:=v171.set (k.toNat) ({ v172 with fc:=({ v172.fc with fa:=({ v172.fc.fa with fN:=v149.1.fc.fa.fN }:Ti) }:Td) }:Ta);(((v174)[k.toNat]?).bind fun v175=>(let v177:=v174.set (k.toNat) ({ v175 with fc:=({ v175.fc with fa:=({ v175.fc.fa with fg:=v149.1.fc.fa.fg }:Ti) }:Td) }:Ta);(((v177)[k.toNat]?).bind fun v178=>(let v180:=v177.set (k.toNat) ({ v178 with fc:=({ v178.fc with fa:=({ v178.fc.fa with fe:=v149.1.fc.fa.fe }:Ti) }:Td) }:Ta);(((v180)[k.toNat]?).bind fun v181=>(let v183:=v180.set (k.toNat) ({ v181 with fc:=({ v181.fc with fa:=({ v181.fc.fa with fj:=v149.1.fc.fa.fj }:Ti) }:Td) }:Ta);(((v183)[k.toNat]?).bind fun v184=>(let v186:=v183.set (k.toNat) ({ v184 with fao:=v149.1.fao }:Ta);(((v186)[k.toNat]?).bind fun v187=>(let v189:=v186.set (k.toNat) ({ v187 with faq:=v149.1.faq }:Ta);(((v189)[k.toNat]?).bind fun v190=>(let v192:=v189.set (k.toNat) ({ v190 with fap:=v149.1.fap }:Ta);(((v192)[k.toNat]?).bind fun v193=>(let v195:=v192.set (k.toNat) ({ v193 with fo:=v149.1.fo }:Ta);(((v195)[k.toNat]?).bind fun v196=>(let v198:=v195.set (k.toNat) ({ v196 with fac:=v149.1.fac }:Ta);(((v198)[k.toNat]?).bind fun v199=>(let v201:=v198.set (k.toNat) ({ v199 with fab:=v149.1.fab }:Ta);((zmj v1 s.1 k s.2.2 v149 v201 s.2.1).bind fun v211=>((zwe s.1.fan (v149.2.1.length:Int)).bind fun v212=>((yds v149.2.2 ({ s.1 with fq:=v201,fan:=v212 }:Tg)).bind fun v214=>(if ((s.2.2.map Th.i).length+(v214.1.map Th.i).length) * 224<=70368744177664 then(some (.inl (v214.2,v211,(s.2.2++v214.1)))) else none))))))))))))))))))))))))))))))))))))) else none) else none)))) else none
def zsw (v1:Tg) (s:Tg×List To×List Th):Option ((List To×List Th×Tg)):=some ((s.2.1,s.2.2,s.1))
def zoe (v1:Tg) (s:Tg×List To×List Th):Option ((List To×List Th×Tg)):=if v1.fq.length<=9223372036854775806 then zab (zfw v1) (zsw v1) v1.fq 0 s else none
def yb0 (v1:Tg) (s:Tg×List To×List Th):Lct:=⟨17,ydx,1,[1,2,5,6,7,8,9,12,13,14,15,16],some (zss v1 0 s),List To×List Th×Tg,zoe v1 s,zn8 v1⟩
theorem yhv {v1:Tg} {s:Tg×List To×List Th}:(yb0 v1 s).ok tab:=zbw (list_oky (J:=zss v1) (o:=(zn8 v1)) v1.fq (B:=fun k x s=>(.kb (decide (k<(v1.fq.length:Int))) true<|.guard (0<=k/\(k:Int)<(((s.1.fq.map Ta.o).length - 0:Nat):Int)) inferInstance<|.lookB Ta.o s.1.fq (k.toNat) fun v147=>.lkY Ta.o s.1.fq (k.toNat) v147<|.se Td.o Td.i v147.fh<|.lkY Ta.o s.1.fq (k.toNat) v147<|.se (V.int .i64) (V.int .i64) v147.fc.fa.fg<|.lkY Ta.o s.1.fq (k.toNat) v147<|.se V.bool V.bool v147.fc.fa.fe<|.callF (yon v147 s.1.fag) fun(v149:Ta×List Tj×List Tn)=>.oq (.hd 8 (.var 28) 18 [] 0 (v149.2.2.map Tn.o).length)<|.oq (.hd 8 (.var 28) 18 [] 0 (v149.2.2.map Tn.o).length)<|.oq (.hd 8 (.var 28) 17 [] 0 (v149.2.1.map Tj.o).length)<|.oq (.hd 8 (.var 28) 17 [] 0 (v149.2.1.map Tj.o).length)<|.oq (.agg [.hd 9 (.var 28) 0 [] 0 (v149.1.fh.map Td.o).length,.bool v149.1.fam,.int .i64 v149.1.fc.fk,.int .i64 v149.1.fc.fu,.int .i64 v149.1.fc.fp,.int .i64 v149.1.fc.fa.ff,.int .i64 v149.1.fc.fa.fd,.int .i64 v149.1.fc.fa.fN,.hd 1 (.var 28) 8 [] 0 (v149.1.fc.fa.fg.map (V.int .i64)).length,.hd 1 (.var 28) 9 [] 0 (v149.1.fc.fa.fe.map V.bool).length,.int .i64 v149.1.fc.fa.fj,.int .i64 v149.1.fao,.int .i64 v149.1.faq,.int .i64 v149.1.fap,.int .i64 v149.1.fo,.int .i64 v149.1.fac,.int .i64 v149.1.fab])<|.oq (.agg [.hd 9 (.var 28) 0 [] 0 (v149.1.fh.map Td.o).length,.bool v149.1.fam,.int .i64 v149.1.fc.fk,.int .i64 v149.1.fc.fu,.int .i64 v149.1.fc.fp,.int .i64 v149.1.fc.fa.ff,.int .i64 v149.1.fc.fa.fd,.int .i64 v149.1.fc.fa.fN,.hd 1 (.var 28) 8 [] 0 (v149.1.fc.fa.fg.map (V.int .i64)).length,.hd 1 (.var 28) 9 [] 0 (v149.1.fc.fa.fe.map V.bool).length,.int .i64 v149.1.fc.fa.fj,.int .i64 v149.1.fao,.int .i64 v149.1.faq,.int .i64 v149.1.fap,.int .i64 v149.1.fo,.int .i64 v149.1.fac,.int .i64 v149.1.fab])<|.oq (.tup [.agg [.hd 9 (.var 28) 0 [] 0 (v149.1.fh.map Td.o).length,.bool v149.1.fam,.int .i64 v149.1.fc.fk,.int .i64 v149.1.fc.fu,.int .i64 v149.1.fc.fp,.int .i64 v149.1.fc.fa.ff,.int .i64 v149.1.fc.fa.fd,.int .i64 v149.1.fc.fa.fN,.hd 1 (.var 28) 8 [] 0 (v149.1.fc.fa.fg.map (V.int .i64)).length,.hd 1 (.var 28) 9 [] 0 (v149.1.fc.fa.fe.map V.bool).length,.int .i64 v149.1.fc.fa.fj,.int .i64 v149.1.fao,.int .i64 v149.1.faq,.int .i64 v149.1.fap,.int .i64 v149.1.fo,.int .i64 v149.1.fac,.int .i64 v149.1.fab],.hd 8 (.var 28) 17 [] 0 (v149.2.1.map Tj.o).length,.hd 8 (.var 28) 18 [] 0 (v149.2.2.map Tn.o).length])<|.oq (.tup [.agg [.hd 9 (.var 28) 0 [] 0 (v149.1.fh.map Td.o).length,.bool v149.1.fam,.int .i64 v149.1.fc.fk,.int .i64 v149.1.fc.fu,.int .i64 v149.1.fc.fp,.int .i64 v149.1.fc.fa.ff,.int .i64 v149.1.fc.fa.fd,.int .i64 v149.1.fc.fa.fN,.hd 1 (.var 28) 8 [] 0 (v149.1.fc.fa.fg.map (V.int .i64)).length,.hd 1 (.var 28) 9 [] 0 (v149.1.fc.fa.fe.map V.bool).length,.int .i64 v149.1.fc.fa.fj,.int .i64 v149.1.fao,.int .i64 v149.1.faq,.int .i64 v149.1.fap,.int .i64 v149.1.fo,.int .i64 v149.1.fac,.int .i64 v149.1.fab],.hd 8 (.var 28) 17 [] 0 (v149.2.1.map Tj.o).length,.hd 8 (.var 28) 18 [] 0 (v149.2.2.map Tn.o).length])<|.oq (.tup [v149.1.o,.own 8 (v149.2.1.map Tj.o),.own 8 (v149.2.2.map Tn.o)])<|.lkY Ta.o s.1.fq (k.toNat) v147<|.se Td.o Td.i v147.fh<|.lkY Ta.o s.1.fq (k.toNat) v147<|.se (V.int .i64) (V.int .i64) v147.fc.fa.fg<|.lkY Ta.o s.1.fq (k.toNat) v147<|.se V.bool V.bool v147.fc.fa.fe<|.callF (yon v147 s.1.fag) fun(v151:Ta×List Tj×List Tn)=>.ob ((.tup [v151.1.o,.own 8 (v151.2.1.map Tj.o),.own 8 (v151.2.2.map Tn.o)]:V)=.tup [v149.1.o,.own 8 (v149.2.1.map Tj.o),.own 8 (v149.2.2.map Tn.o)])<|.oq (.int .i64 s.1.fag)<|.oq (.int .i64 s.1.fag)<|.oq (.ref (.box 0) 0 [])<|.oq (.ref (.box 0) 0 [])<|.oq (.ref (.box 0) 0 [])<|.oq (.ref (.box 0) 0 [])<|.oq (.ref (.box 0) 0 [])<|.oq (.ref (.box 0) 0 [])<|.oq (.agg [.hd 9 (.box 0) 0 [(0+k.toNat,17,6)] 0 (v147.fh.map Td.o).length,.bool v147.fam,.int .i64 v147.fc.fk,.int .i64 v147.fc.fu,.int .i64 v147.fc.fp,.int .i64 v147.fc.fa.ff,.int .i64 v147.fc.fa.fd,.int .i64 v147.fc.fa.fN,.hd 1 (.box 0) 8 [(0+k.toNat,17,6)] 0 (v147.fc.fa.fg.map (V.int .i64)).length,.hd 1 (.box 0) 9 [(0+k.toNat,17,6)] 0 (v147.fc.fa.fe.map V.bool).length,.int .i64 v147.fc.fa.fj,.int .i64 v147.fao,.int .i64 v147.faq,.int .i64 v147.fap,.int .i64 v147.fo,.int .i64 v147.fac,.int .i64 v147.fab])<|.lkY Ta.o s.1.fq (k.toNat) v147<|.oq (.agg [.hd 9 (.box 0) 0 [(0+k.toNat,17,6)] 0 (v147.fh.map Td.o).length,.bool v147.fam,.int .i64 v147.fc.fk,.int .i64 v147.fc.fu,.int .i64 v147.fc.fp,.int .i64 v147.fc.fa.ff,.int .i64 v147.fc.fa.fd,.int .i64 v147.fc.fa.fN,.hd 1 (.box 0) 8 [(0+k.toNat,17,6)] 0 (v147.fc.fa.fg.map (V.int .i64)).length,.hd 1 (.box 0) 9 [(0+k.toNat,17,6)] 0 (v147.fc.fa.fe.map V.bool).length,.int .i64 v147.fc.fa.fj,.int .i64 v147.fao,.int .i64 v147.faq,.int .i64 v147.fap,.int .i64 v147.fo,.int .i64 v147.fac,.int .i64 v147.fab])<|.oq (.ref (.box 0) 0 [(0+k.toNat,17,6)])<|.guard (0<=k/\(k:Int)<(((s.1.fq.map Ta.o).length - 0:Nat):Int)) inferInstance<|.oq (.ref (.box 0) 0 [(0+k.toNat,17,6)])<|.oq (.int .i64 k)<|.oq (.int .i64 k)<|.oq (.hd 17 (.box 0) 6 [] 0 (s.1.fq.map Ta.o).length)<|.oq (.hd 17 (.box 0) 6 [] 0 (s.1.fq.map Ta.o).length)<|.oq (.ref (.box 0) 6 [])<|.oq (.ref (.box 0) 6 [])<|.oq (.ref (.box 0) 0 [])<|.oq (.ref (.box 0) 0 [])<|.oq (.ref (.box 0) 0 [])<|.oq (.ref (.box 0) 0 [])<|.segA Td.o v149.1.fh<|.segA (V.int .i64) v149.1.fc.fa.fg<|.segA V.bool v149.1.fc.fa.fe<|.segA Td.o v149.1.fh<|.segA (V.int .i64) v149.1.fc.fa.fg<|.segA V.bool v149.1.fc.fa.fe<|.oq (.hd 8 (.var 28) 18 [] 0 (v149.2.2.map Tn.o).length)<|.oq (.hd 8 (.var 28) 18 [] 0 (v149.2.2.map Tn.o).length)<|.oq (.hd 8 (.var 28) 17 [] 0 (v149.2.1.map Tj.o).length)<|.oq (.hd 8 (.var 28) 17 [] 0 (v149.2.1.map Tj.o).length)<|.segA Tj.o v149.2.1<|.segA Tj.o v149.2.1<|.oq (.hd 8 (.var 28) 18 [] 0 (v149.2.2.map Tn.o).length)<|.oq (.hd 8 (.var 28) 18 [] 0 (v149.2.2.map Tn.o).length)<|.segA Tn.o v149.2.2<|.guard (0<=k/\(k:Int)<(((s.1.fq.map Ta.o).length - 0:Nat):Int)) inferInstance<|.segA Td.o v149.1.fh<|.segA (V.int .i64) v149.1.fc.fa.fg<|.segA V.bool v149.1.fc.fa.fe<|.lkY Ta.o s.1.fq (k.toNat) v147<|.lkY Ta.o s.1.fq (k.toNat) v147<|.lkY Ta.o s.1.fq (k.toNat) v147<|.setN Ta.o s.1.fq (k.toNat) ({ v147 with fh:=v149.1.fh }:Ta) fun v153=>.lookB Ta.o v153 (k.toNat) fun v154=>.lkY Ta.o v153 (k.toNat) v154<|.lkY Ta.o v153 (k.toNat) v154<|.setN Ta.o v153 (k.toNat) ({ v154 with fam:=v149.1.fam }:Ta) fun v156=>.lookB Ta.o v156 (k.toNat) fun v157=>.lkY Ta.o v156 (k.toNat) v157<|.lkY Ta.o v156 (k.toNat) v157<|.setN Ta.o v156 (k.toNat) ({ v157 with fc:=({ v157.fc with fk:=v149.1.fc.fk }:Td) }:Ta) fun v159=>.lookB Ta.o v159 (k.toNat) fun v160=>.lkY Ta.o v159 (k.toNat) v160<|.lkY Ta.o v159 (k.toNat) v160<|.setN Ta.o v159 (k.toNat) ({ v160 with fc:=({ v160.fc with fu:=v149.1.fc.fu }:Td) }:Ta) fun v162=>.lookB Ta.o v162 (k.toNat) fun v163=>.lkY Ta.o v162 (k.toNat) v163<|.lkY Ta.o v162 (k.toNat) v163<|.setN Ta.o v162 (k.toNat) ({ v163 with fc:=({ v163.fc with fp:=v149.1.fc.fp }:Td) }:Ta) fun v165=>.lookB Ta.o v165 (k.toNat) fun v166=>.lkY Ta.o v165 (k.toNat) v166<|.lkY Ta.o v165 (k.toNat) v166<|.setN Ta.o v165 (k.toNat) ({ v166 with fc:=({ v166.fc with fa:=({ v166.fc.fa with ff:=v149.1.fc.fa.ff }:Ti) }:Td) }:Ta) fun v168=>.lookB Ta.o v168 (k.toNat) fun v169=>.lkY Ta.o v168 (k.toNat) v169<|.lkY Ta.o v168 (k.toNat) v169<|.setN Ta.o v168 (k.toNat) ({ v169 with fc:=({ v169.fc with fa:=({ v169.fc.fa with fd:=v149.1.fc.fa.fd }:Ti) }:Td) }:Ta) fun v171=>.lookB Ta.o v171 (k.toNat) fun v172=>.lkY Ta.o v171 (k.toNat) v172<|.lkY Ta.o v171 (k.toNat) v172<|.setN Ta.o v171 (k.toNat) ({ v172 with fc:=({ v172.fc with fa:=({ v172.fc.fa with fN:=v149.1.fc.fa.fN }:Ti) }:Td) }:Ta) fun v174=>.lookB Ta.o v174 (k.toNat) fun v175=>.lkY Ta.o v174 (k.toNat) v175<|.lkY Ta.o v174 (k.toNat) v175<|.setN Ta.o v174 (k.toNat) ({ v175 with fc:=({ v175.fc with fa:=({ v175.fc.fa with fg:=v149.1.fc.fa.fg }:Ti) }:Td) }:Ta) fun v177=>.lookB Ta.o v177 (k.toNat) fun v178=>.lkY Ta.o v177 (k.toNat) v178<|.lkY Ta.o v177 (k.toNat) v178<|.setN Ta.o v177 (k.toNat) ({ v178 with fc:=({ v178.fc with fa:=({ v178.fc.fa with fe:=v149.1.fc.fa.fe }:Ti) }:Td) }:Ta) fun v180=>.lookB Ta.o v180 (k.toNat) fun v181=>.lkY Ta.o v180 (k.toNat) v181<|.lkY Ta.o v180 (k.toNat) v181<|.setN Ta.o v180 (k.toNat) ({ v181 with fc:=({ v181.fc with fa:=({ v181.fc.fa with fj:=v149.1.fc.fa.fj }:Ti) }:Td) }:Ta) fun v183=>.lookB Ta.o v183 (k.toNat) fun v184=>.lkY Ta.o v183 (k.toNat) v184<|.lkY Ta.o v183 (k.toNat) v184<|.setN Ta.o v183 (k.toNat) ({ v184 with fao:=v149.1.fao }:Ta) fun v186=>.lookB Ta.o v186 (k.toNat) fun v187=>.lkY Ta.o v186 (k.toNat) v187<|.lkY Ta.o v186 (k.toNat) v187<|.setN Ta.o v186 (k.toNat) ({ v187 with faq:=v149.1.faq }:Ta) fun v189=>.lookB Ta.o v189 (k.toNat) fun v190=>.lkY Ta.o v189 (k.toNat) v190<|.lkY Ta.o v189 (k.toNat) v190<|.setN Ta.o v189 (k.toNat) ({ v190 with fap:=v149.1.fap }:Ta) fun v192=>.lookB Ta.o v192 (k.toNat) fun v193=>.lkY Ta.o v192 (k.toNat) v193<|.lkY Ta.o v192 (k.toNat) v193<|.setN Ta.o v192 (k.toNat) ({ v193 with fo:=v149.1.fo }:Ta) fun v195=>.lookB Ta.o v195 (k.toNat) fun v196=>.lkY Ta.o v195 (k.toNat) v196<|.lkY Ta.o v195 (k.toNat) v196<|.setN Ta.o v195 (k.toNat) ({ v196 with fac:=v149.1.fac }:Ta) fun v198=>.lookB Ta.o v198 (k.toNat) fun v199=>.lkY Ta.o v198 (k.toNat) v199<|.lkY Ta.o v198 (k.toNat) v199<|.setN Ta.o v198 (k.toNat) ({ v199 with fab:=v149.1.fab }:Ta) fun v201=>.se Tj.o Tj.i v149.2.1<|.eraA Tj.o Tj.i v149.2.1<|.lenA Tj.i v149.2.1<|.lp (yak v1 s.1 k s.2.2 v149 v201 s.2.1) fun(v211:List To)=>.lenA Tj.i v149.2.1<|.callF (yke s.1.fan (v149.2.1.length:Int)) fun(v212:Int)=>.se Tn.o Tn.i v149.2.2<|.eraA Tn.o Tn.i v149.2.2<|.call (yto v149.2.2 ({ s.1 with fq:=v201,fan:=v212 }:Tg)) fun(v214:List Th×Tg)=>.segA Th.i s.2.2<|.se Th.i Th.i v214.1<|.eraA Th.i Th.i v214.1<|.guard (((s.2.2.map Th.i).length+(v214.1.map Th.i).length) * 224<=70368744177664) inferInstance<|.appA Th.i s.2.2 v214.1<|.segA Th.i (s.2.2++v214.1)<|.lfA (yb4 v1 (w1 k)) (.inl (v214.2,v211,(s.2.2++v214.1))))) (E:=fun s=>(.kb (decide ((v1.fq.length:Int)<(v1.fq.length:Int))) false<|.lfA (yb4 v1 0) (.inr (s.2.1,s.2.2,s.1)))) (by kernel_rfl) (fun d x t s he=>⟨ltX he,gU<|lK fun v147 h148=>lD h148<|sE Td.o_i<|lD h148<|sE (fun _=>rfl)<|lD h148<|sE (fun _=>rfl)<|⟨yth,fun v149 h150=>⟨rfl,⟨rfl,⟨rfl,⟨rfl,⟨rfl,⟨rfl,⟨rfl,⟨rfl,⟨rfl,lD h148<|sE Td.o_i<|lD h148<|sE (fun _=>rfl)<|lD h148<|sE (fun _=>rfl)<|⟨yth,fun v151 h152=>⟨by rw [show v151=v149 from Option.some.inj (h152.symm.trans h150)],⟨rfl,⟨rfl,⟨rfl,⟨rfl,⟨rfl,⟨rfl,⟨rfl,⟨rfl,⟨rfl,lD h148<|⟨rfl,⟨rfl,gU<|⟨rfl,⟨rfl,⟨rfl,⟨rfl,⟨rfl,⟨rfl,⟨rfl,⟨rfl,⟨rfl,⟨rfl,⟨rfl,sA<|sA<|sA<|sA<|sA<|sA<|⟨rfl,⟨rfl,⟨rfl,⟨rfl,sA<|sA<|⟨rfl,⟨rfl,sA<|gU<|sA<|sA<|sA<|lD h148<|lD h148<|lD h148<|sN fun v153=>lK fun v154 h155=>lD h155<|lD h155<|sN fun v156=>lK fun v157 h158=>lD h158<|lD h158<|sN fun v159=>lK fun v160 h161=>lD h161<|lD h161<|sN fun v162=>lK fun v163 h164=>lD h164<|lD h164<|sN fun v165=>lK fun v166 h167=>lD h167<|lD h167<|sN fun v168=>lK fun v169 h170=>lD h170<|lD h170<|sN fun v171=>lK fun v172 h173=>lD h173<|lD h173<|sN fun v174=>lK fun v175 h176=>lD h176<|lD h176<|sN fun v177=>lK fun v178 h179=>lD h179<|lD h179<|sN fun v180=>lK fun v181 h182=>lD h182<|lD h182<|sN fun v183=>lK fun v184 h185=>lD h185<|lD h185<|sN fun v186=>lK fun v187 h188=>lD h188<|lD h188<|sN fun v189=>lK fun v190 h191=>lD h191<|lD h191<|sN fun v192=>lK fun v193 h194=>lD h194<|lD h194<|sN fun v195=>lK fun v196 h197=>lD h197<|lD h197<|sN fun v198=>lK fun v199 h200=>lD h200<|lD h200<|sN fun v201=>sE Tj.o_i<|eO Tj.o_i<|lA<|lP yir fun v211=>lA<|cF ynd fun v212=>sE Tn.o_i<|eO Tn.o_i<|cE yw0 fun v214=>sA<|sE (fun _=>rfl)<|eO (fun _=>rfl)<|gU<|aA<|sA<|rfl⟩⟩⟩⟩⟩⟩⟩⟩⟩⟩⟩⟩⟩⟩⟩⟩⟩⟩⟩⟩⟩⟩⟩⟩⟩⟩⟩⟩⟩⟩⟩⟩⟩⟩⟩⟩⟩⟩⟩⟩⟩) (fun _=>rfl) (fun s=>⟨ltE _,rfl⟩) s)
def yui:(List To×List Th×Tg)->V×List (List V):=fun r=>(.tup [.own 9 (r.1.map To.i),.own 16 (r.2.1.map Th.i)],[[.int .i64 r.2.2.fag,.int .i64 r.2.2.fr.fac,.int .i64 r.2.2.fr.fab,.own 7 (r.2.2.fr.faf.map Tf.i),.int .i64 r.2.2.ft.fo,.own 13 (r.2.2.ft.fi.map Tb.o),.own 17 (r.2.2.fq.map Ta.o),.int .i64 r.2.2.faj,.int .i64 r.2.2.fai,.int .i64 r.2.2.fal,.int .i64 r.2.2.fan]])
def yoe (v1:Tg):Option (List To×List Th×Tg):=(yc4 v1.fag 1).bind fun v2=>((zoe v1 (({ v1 with fag:=v2 }:Tg),[],[])).bind fun v215=>(some (v215.1,v215.2.1,v215.2.2)))
def ysl (v1:Tg):Ctr:=⟨18,[.ref (.box 0) 0 []],[[.I v1.fag,.I v1.fr.fac,.I v1.fr.fab,.own 7 (v1.fr.faf.map Tf.i),.I v1.ft.fo,.own 13 (v1.ft.fi.map Tb.o),.own 17 (v1.fq.map Ta.o),.I v1.faj,.I v1.fai,.I v1.fal,.I v1.fan]],List To×List Th×Tg,yoe v1,yui⟩
theorem ywf {v1:Tg}:(ysl v1).ok tab:=okX_of rfl rfl (.sk<|.sk<|.seg [] 0 0 []<|.seg [] 0 0 []<|.callF (ygz v1.fag 1) fun(v2:Int)=>.lenB Ta.o v1.fq<|.lp (yb0 v1 (({ v1 with fag:=v2 }:Tg),[],[])) fun(v215:List To×List Th×Tg)=>.segA To.i v215.1<|.segA Th.i v215.2.1<|.lfA yui (v215.1,v215.2.1,v215.2.2)) (by kernel_rfl) ⟨za0 [],⟨za0 [],cF yjd fun v2=>lB<|lP yhv fun v215=>sA<|sA<|rfl⟩⟩
def yo4:(Tg×List To×List Th)->V×List (List V):=fun r=>(.tup [r.1.o,.own 9 (r.2.1.map To.i),.own 16 (r.2.2.map Th.i)],[])
def yd3 (v1:Tg):Option (Tg×List To×List Th):=(yl8 v1).bind fun v2=>((yjb v1).bind fun v4=>(bif !v4 then(some (v2,[],[])) else((yoe v2).bind fun v7=>(some (v7.2.2,v7.1,v7.2.1)))))
def yqw (v1:Tg):Ctr:=⟨9,[v1.i],[],Tg×List To×List Th,yd3 v1,yo4⟩
theorem yyx {v1:Tg}:(yqw v1).ok tab:=okX_of rfl rfl (.callF (ype v1) fun(v2:Tg)=>.segA Tf.i v2.fr.faf<|.segA Tb.o v2.ft.fi<|.segA Ta.o v2.fq<|.callF (ymg v1) fun v4=>.br (!v4) (.segA Tf.i v2.fr.faf<|.segA Tb.o v2.ft.fi<|.segA Ta.o v2.fq<|.segA Tf.i v2.fr.faf<|.segA Tb.o v2.ft.fi<|.segA Ta.o v2.fq<|.seg [] 0 0 []<|.seg [] 0 0 []<|.lfA yo4 (v2,[],[]))<|.call (ysl v2) fun(v7:List To×List Th×Tg)=>.segA To.i v7.1<|.segA Th.i v7.2.1<|.segA Tf.i v7.2.2.fr.faf<|.segA Tb.o v7.2.2.ft.fi<|.segA Ta.o v7.2.2.fq<|.segA Tf.i v7.2.2.fr.faf<|.segA Tb.o v7.2.2.ft.fi<|.segA Ta.o v7.2.2.fq<|.segA To.i v7.1<|.segA Th.i v7.2.1<|.lfA yo4 (v7.2.2,v7.1,v7.2.1)) (by kernel_rfl) (cF yqz fun v2=>sA<|sA<|sA<|cF ynx fun v4=>bR (sA<|sA<|sA<|sA<|sA<|sA<|⟨za0 [],⟨za0 [],rfl⟩⟩)<|cE ywf fun v7=>sA<|sA<|sA<|sA<|sA<|sA<|sA<|sA<|sA<|sA<|rfl)
def zr3 (v11:Int) (v13:Int) (v15:Int) (v35:Int) (v53:Tg×List Th) (k:Int) (s:Int):St:=⟨sv 22 [(3,.ref (.box 0) 0 []),(4,.ref (.box 1) 0 []),(5,.I (i64.wrap (16+(v15.tmod 5)))),(6,.I s),(7,.I v35),(9,.imm 16 (v53.2.map Th.i)),(10,.I k)],[[.I v53.1.fag,.I v53.1.fr.fac,.I v53.1.fr.fab,.own 7 (v53.1.fr.faf.map Tf.i),.I v53.1.ft.fo,.own 13 (v53.1.ft.fi.map Tb.o),.own 17 (v53.1.fq.map Ta.o),.I v53.1.faj,.I v53.1.fai,.I v53.1.fal,.I v53.1.fan],[.I 3,.I (v11.tmod 50),.I (i64.wrap (1+(v13.tmod 9))),.imm 1 ([]:List V),.imm 1 ([]:List V),.I 0],[.I v53.1.fag,.I v53.1.fr.fac,.I v53.1.fr.fab,.gone,.I v53.1.ft.fo,.gone,.gone,.I v53.1.faj,.I v53.1.fai,.I v53.1.fal,.I v53.1.fan]]⟩
def zme (v11:Int) (v13:Int) (v15:Int) (v35:Int) (v53:Tg×List Th):(Int×Int)->Ex×St:=fun p=>(.ret,⟨sv 22 [(1,.bool false),(3,.ref (.box 0) 0 []),(4,.ref (.box 1) 0 []),(5,.I (i64.wrap (16+(v15.tmod 5)))),(6,.I p.1),(7,.I v35),(9,.imm 16 (v53.2.map Th.i)),(10,.I p.2),(18,.bool true),(19,.bool true)],[[.I v53.1.fag,.I v53.1.fr.fac,.I v53.1.fr.fab,.own 7 (v53.1.fr.faf.map Tf.i),.I v53.1.ft.fo,.own 13 (v53.1.ft.fi.map Tb.o),.own 17 (v53.1.fq.map Ta.o),.I v53.1.faj,.I v53.1.fai,.I v53.1.fal,.I v53.1.fan],[.I 3,.I (v11.tmod 50),.I (i64.wrap (1+(v13.tmod 9))),.imm 1 ([]:List V),.imm 1 ([]:List V),.I 0],[.I v53.1.fag,.I v53.1.fr.fac,.I v53.1.fr.fab,.gone,.I v53.1.ft.fo,.gone,.gone,.I v53.1.faj,.I v53.1.fai,.I v53.1.fal,.I v53.1.fan]]⟩)
def zmm (v11:Int) (v13:Int) (v15:Int) (v35:Int) (v53:Tg×List Th):Int->Ex×St:=fun p=>((.exit 2),⟨sv 22 [(3,.ref (.box 0) 0 []),(4,.ref (.box 1) 0 []),(5,.I (i64.wrap (16+(v15.tmod 5)))),(6,.I p),(7,.I v35),(9,.imm 16 (v53.2.map Th.i)),(10,.I (v53.2.length:Int)),(18,.bool false)],[[.I v53.1.fag,.I v53.1.fr.fac,.I v53.1.fr.fab,.own 7 (v53.1.fr.faf.map Tf.i),.I v53.1.ft.fo,.own 13 (v53.1.ft.fi.map Tb.o),.own 17 (v53.1.fq.map Ta.o),.I v53.1.faj,.I v53.1.fai,.I v53.1.fal,.I v53.1.fan],[.I 3,.I (v11.tmod 50),.I (i64.wrap (1+(v13.tmod 9))),.imm 1 ([]:List V),.imm 1 ([]:List V),.I 0],[.I v53.1.fag,.I v53.1.fr.fac,.I v53.1.fr.fab,.gone,.I v53.1.ft.fo,.gone,.gone,.I v53.1.faj,.I v53.1.fai,.I v53.1.fal,.I v53.1.fan]]⟩)
def zrm (v11:Int) (v13:Int) (v15:Int) (v35:Int) (v53:Tg×List Th) (k:Int):=zcd (zr3 v11 v13 v15 v35 v53 k) (Sum.elim (zme v11 v13 v15 v35 v53) (zmm v11 v13 v15 v35 v53))
def ya8 (v11:Int) (v13:Int) (v15:Int) (v35:Int) (v53:Tg×List Th) (k:Int) (x:Th) (s:Int):Option ((Int)⊕((Int×Int)⊕Int)):=bif decide (x.fah.fak≠6) then(some (.inr (.inl (s,k)))) else(some (.inl (i64.wrap (s+1))))
def zy8 (v11:Int) (v13:Int) (v15:Int) (v35:Int) (v53:Tg×List Th) (s:Int):Option ((Int×Int)⊕Int):=some ((.inr s))
def zje (v11:Int) (v13:Int) (v15:Int) (v35:Int) (v53:Tg×List Th) (s:Int):Option ((Int×Int)⊕Int):=if v53.2.length<=9223372036854775806 then zab (ya8 v11 v13 v15 v35 v53) (zy8 v11 v13 v15 v35 v53) v53.2 0 s else none
def zxc (v11:Int) (v13:Int) (v15:Int) (v35:Int) (v53:Tg×List Th) (s:Int):Lc2:=⟨22,zum,3,[0,1,2,8,11,12,13,14,15,16,17,18,19,20,21],some (zr3 v11 v13 v15 v35 v53 0 s),Int×Int,Int,zje v11 v13 v15 v35 v53 s,zme v11 v13 v15 v35 v53,zmm v11 v13 v15 v35 v53⟩
theorem yix {v11:Int} {v13:Int} {v15:Int} {v35:Int} {v53:Tg×List Th} {s:Int}:(zxc v11 v13 v15 v35 v53 s).ok tab:=zbr (list_oky (J:=zr3 v11 v13 v15 v35 v53) (o:=(Sum.elim (zme v11 v13 v15 v35 v53) (zmm v11 v13 v15 v35 v53))) v53.2 (B:=fun k x s=>(.hT Th.i v53.2 k<|.kx Th.i v53.2 k x<|.br (decide (x.fah.fak≠6)) (.lfA (zrm v11 v13 v15 v35 v53 (w1 k)) (.inr (.inl (s,k))))<|.lfA (zrm v11 v13 v15 v35 v53 (w1 k)) (.inl (i64.wrap (s+1))))) (E:=fun s=>(.hE Th.i v53.2<|.lfA (zrm v11 v13 v15 v35 v53 0) (.inr (.inr s)))) (by kernel_rfl) (fun d x t s he=>hD he<|kX he<|bR rfl<|rfl) (ho2 (fun _=>rfl) fun _=>rfl) (fun s=>hZ rfl) s)
def ztl (v11:Int) (v13:Int) (v15:Int) (s:Tg×Int×Int):St:=⟨sv 22 [(3,.ref (.box 0) 0 []),(4,.ref (.box 1) 0 []),(5,.I (i64.wrap (16+(v15.tmod 5)))),(6,.I s.2.1),(7,.I s.2.2)],[[.I s.1.fag,.I s.1.fr.fac,.I s.1.fr.fab,.own 7 (s.1.fr.faf.map Tf.i),.I s.1.ft.fo,.own 13 (s.1.ft.fi.map Tb.o),.own 17 (s.1.fq.map Ta.o),.I s.1.faj,.I s.1.fai,.I s.1.fal,.I s.1.fan],[.I 3,.I (v11.tmod 50),.I (i64.wrap (1+(v13.tmod 9))),.imm 1 ([]:List V),.imm 1 ([]:List V),.I 0]]⟩
def zp0 (v11:Int) (v13:Int) (v15:Int):(Int×Int×List Th×Int×Tg×Int×Int×Int×Int×Int×Int×Int×Int)->Ex×St:=fun p=>(.ret,⟨sv 22 [(1,.bool false),(3,.ref (.box 0) 0 []),(4,.ref (.box 1) 0 []),(5,.I (i64.wrap (16+(v15.tmod 5)))),(6,.I p.1),(7,.I p.2.1),(9,.imm 16 (p.2.2.1.map Th.i)),(10,.I p.2.2.2.1),(18,.bool true),(19,.bool true)],[[.I p.2.2.2.2.1.fag,.I p.2.2.2.2.1.fr.fac,.I p.2.2.2.2.1.fr.fab,.own 7 (p.2.2.2.2.1.fr.faf.map Tf.i),.I p.2.2.2.2.1.ft.fo,.own 13 (p.2.2.2.2.1.ft.fi.map Tb.o),.own 17 (p.2.2.2.2.1.fq.map Ta.o),.I p.2.2.2.2.1.faj,.I p.2.2.2.2.1.fai,.I p.2.2.2.2.1.fal,.I p.2.2.2.2.1.fan],[.I 3,.I (v11.tmod 50),.I (i64.wrap (1+(v13.tmod 9))),.imm 1 ([]:List V),.imm 1 ([]:List V),.I 0],[.I p.2.2.2.2.2.1,.I p.2.2.2.2.2.2.1,.I p.2.2.2.2.2.2.2.1,.gone,.I p.2.2.2.2.2.2.2.2.1,.gone,.gone,.I p.2.2.2.2.2.2.2.2.2.1,.I p.2.2.2.2.2.2.2.2.2.2.1,.I p.2.2.2.2.2.2.2.2.2.2.2.1,.I p.2.2.2.2.2.2.2.2.2.2.2.2]]⟩)
def zmc (v11:Int) (v13:Int) (v15:Int):(Int×Int×Tg)->Ex×St:=fun p=>((.exit 0),⟨sv 22 [(3,.ref (.box 0) 0 []),(4,.ref (.box 1) 0 []),(5,.I (i64.wrap (16+(v15.tmod 5)))),(6,.I p.1),(7,.I p.2.1),(17,.bool false)],[[.I p.2.2.fag,.I p.2.2.fr.fac,.I p.2.2.fr.fab,.own 7 (p.2.2.fr.faf.map Tf.i),.I p.2.2.ft.fo,.own 13 (p.2.2.ft.fi.map Tb.o),.own 17 (p.2.2.fq.map Ta.o),.I p.2.2.faj,.I p.2.2.fai,.I p.2.2.fal,.I p.2.2.fan],[.I 3,.I (v11.tmod 50),.I (i64.wrap (1+(v13.tmod 9))),.imm 1 ([]:List V),.imm 1 ([]:List V),.I 0]]⟩)
def zrd (v11:Int) (v13:Int) (v15:Int):=zcd (ztl v11 v13 v15) (Sum.elim (zp0 v11 v13 v15) (zmc v11 v13 v15))
def zmp (v11:Int) (v13:Int) (v15:Int) (s:Tg×Int×Int):Option ((Tg×Int×Int)⊕((Int×Int×List Th×Int×Tg×Int×Int×Int×Int×Int×Int×Int×Int)⊕(Int×Int×Tg))):=bif decide (s.2.2<(i64.wrap (16+(v15.tmod 5)))) then((yf6 s.1 0 s.2.2 1 (⟨3,(v11.tmod 50),(i64.wrap (1+(v13.tmod 9))),[],[],0⟩:Ti)).bind fun v53=>((zje v11 v13 v15 s.2.2 v53 s.2.1).bind (ze8 (fun (v66:Int×Int)=>(some (.inr (.inl (v66.1,s.2.2,v53.2,v66.2,v53.1,v53.1.fag,v53.1.fr.fac,v53.1.fr.fab,v53.1.ft.fo,v53.1.faj,v53.1.fai,v53.1.fal,v53.1.fan))))) (fun (v67:Int)=>(some (.inl (v53.1,v67,(i64.wrap (s.2.2+1))))))))) else(some (.inr (.inr (s.2.1,s.2.2,s.1))))
def znb (v11:Int) (v13:Int) (v15:Int) (s:Tg×Int×Int):Option ((Int×Int×List Th×Int×Tg×Int×Int×Int×Int×Int×Int×Int×Int)⊕(Int×Int×Tg)):=zel (zmp v11 v13 v15) BIG s
def yb9 (v11:Int) (v13:Int) (v15:Int) (s:Tg×Int×Int):Lc2:=⟨22,ya5,2,[0,1,2,8,9,10,11,12,13,14,15,16,17,18,19,20,21],some (ztl v11 v13 v15 s),Int×Int×List Th×Int×Tg×Int×Int×Int×Int×Int×Int×Int×Int,Int×Int×Tg,znb v11 v13 v15 s,zp0 v11 v13 v15,zmc v11 v13 v15⟩
theorem yh7 {v11:Int} {v13:Int} {v15:Int} {s:Tg×Int×Int}:(yb9 v11 v13 v15 s).ok tab:=zbr (loop_oky (J:=ztl v11 v13 v15) (o:=(Sum.elim (zp0 v11 v13 v15) (zmc v11 v13 v15))) (B:=fun(s:Tg×Int×Int)=>(.br (decide (s.2.2<(i64.wrap (16+(v15.tmod 5))))) (.se Tf.i Tf.i s.1.fr.faf<|.eraA Tf.i Tf.i s.1.fr.faf<|.se Tb.o Tb.i s.1.ft.fi<|.eraA Tb.o Tb.i s.1.ft.fi<|.se Ta.o Ta.i s.1.fq<|.eraA Ta.o Ta.i s.1.fq<|.call (ynz s.1 0 s.2.2 1 (⟨3,(v11.tmod 50),(i64.wrap (1+(v13.tmod 9))),[],[],0⟩:Ti)) fun(v53:Tg×List Th)=>.segA Tf.i v53.1.fr.faf<|.segA Tb.o v53.1.ft.fi<|.segA Ta.o v53.1.fq<|.segA Tf.i v53.1.fr.faf<|.segA Tb.o v53.1.ft.fi<|.segA Ta.o v53.1.fq<|.lp2 (zxc v11 v13 v15 s.2.2 v53 s.2.1) (fun (v66:Int×Int)=>.lfA (zrd v11 v13 v15) (.inr (.inl (v66.1,s.2.2,v53.2,v66.2,v53.1,v53.1.fag,v53.1.fr.fac,v53.1.fr.fab,v53.1.ft.fo,v53.1.faj,v53.1.fai,v53.1.fal,v53.1.fan)))) (fun (v67:Int)=>.lfA (zrd v11 v13 v15) (.inl (v53.1,v67,(i64.wrap (s.2.2+1))))))<|.lfA (zrd v11 v13 v15) (.inr (.inr (s.2.1,s.2.2,s.1))))) (by kernel_rfl) (fun s=>bR (sE (fun _=>rfl)<|eO (fun _=>rfl)<|sE Tb.o_i<|eO Tb.o_i<|sE Ta.o_i<|eO Ta.o_i<|cE yrg fun v53=>sA<|sA<|sA<|sA<|sA<|sA<|lQ yix (fun v66=>rfl) (fun v67=>rfl))<|rfl) (ho2 (fun _=>rfl) fun _=>rfl) BIG s)
def zqp (v11:Int) (v13:Int) (s:Tg×Int×Int):St:=⟨sv 22 [(3,.ref (.box 0) 0 []),(4,.ref (.box 1) 0 []),(11,.I s.2.1),(12,.I s.2.2)],[[.I s.1.fag,.I s.1.fr.fac,.I s.1.fr.fab,.own 7 (s.1.fr.faf.map Tf.i),.I s.1.ft.fo,.own 13 (s.1.ft.fi.map Tb.o),.own 17 (s.1.fq.map Ta.o),.I s.1.faj,.I s.1.fai,.I s.1.fal,.I s.1.fan],[.I 3,.I (v11.tmod 50),.I (i64.wrap (1+(v13.tmod 9))),.imm 1 ([]:List V),.imm 1 ([]:List V),.I 0]]⟩
def zn6 (v11:Int) (v13:Int):(Int×Int×Tg)->Ex×St:=fun p=>((.exit 4),⟨sv 22 [(3,.ref (.box 0) 0 []),(4,.ref (.box 1) 0 []),(11,.I p.1),(12,.I p.2.1),(21,.bool false)],[[.I p.2.2.fag,.I p.2.2.fr.fac,.I p.2.2.fr.fab,.own 7 (p.2.2.fr.faf.map Tf.i),.I p.2.2.ft.fo,.own 13 (p.2.2.ft.fi.map Tb.o),.own 17 (p.2.2.fq.map Ta.o),.I p.2.2.faj,.I p.2.2.fai,.I p.2.2.fal,.I p.2.2.fan],[.I 3,.I (v11.tmod 50),.I (i64.wrap (1+(v13.tmod 9))),.imm 1 ([]:List V),.imm 1 ([]:List V),.I 0]]⟩)
def ya3 (v11:Int) (v13:Int):=zcd (zqp v11 v13) (zn6 v11 v13)
def zdi (v11:Int) (v13:Int) (s:Tg×Int×Int):Option ((Tg×Int×Int)⊕((Int×Int×Tg))):=bif decide (s.2.2<60) then((yd3 s.1).bind fun v81=>(some (.inl (v81.1,(i64.wrap (s.2.1+(v81.2.2.length:Int))),(i64.wrap (s.2.2+1)))))) else(some (.inr (s.2.1,s.2.2,s.1)))
def zoo (v11:Int) (v13:Int) (s:Tg×Int×Int):Option ((Int×Int×Tg)):=zel (zdi v11 v13) BIG s
def yah (v11:Int) (v13:Int) (s:Tg×Int×Int):Lct:=⟨22,yfc,2,[0,1,2,5,6,7,8,9,10,13,14,15,16,17,18,19,20,21],some (zqp v11 v13 s),Int×Int×Tg,zoo v11 v13 s,zn6 v11 v13⟩
theorem ygd {v11:Int} {v13:Int} {s:Tg×Int×Int}:(yah v11 v13 s).ok tab:=zbw (loop_oky (J:=zqp v11 v13) (o:=(zn6 v11 v13)) (B:=fun(s:Tg×Int×Int)=>(.br (decide (s.2.2<60)) (.se Tf.i Tf.i s.1.fr.faf<|.eraA Tf.i Tf.i s.1.fr.faf<|.se Tb.o Tb.i s.1.ft.fi<|.eraA Tb.o Tb.i s.1.ft.fi<|.se Ta.o Ta.i s.1.fq<|.eraA Ta.o Ta.i s.1.fq<|.call (yqw s.1) fun(v81:Tg×List To×List Th)=>.segA Tf.i v81.1.fr.faf<|.segA Tb.o v81.1.ft.fi<|.segA Ta.o v81.1.fq<|.segA Th.i v81.2.2<|.segA Tf.i v81.1.fr.faf<|.segA Tb.o v81.1.ft.fi<|.segA Ta.o v81.1.fq<|.lenB Th.i v81.2.2<|.lfA (ya3 v11 v13) (.inl (v81.1,(i64.wrap (s.2.1+(v81.2.2.length:Int))),(i64.wrap (s.2.2+1)))))<|.lfA (ya3 v11 v13) (.inr (s.2.1,s.2.2,s.1)))) (by kernel_rfl) (fun s=>bR (sE (fun _=>rfl)<|eO (fun _=>rfl)<|sE Tb.o_i<|eO Tb.o_i<|sE Ta.o_i<|eO Ta.o_i<|cE yyx fun v81=>sA<|sA<|sA<|sA<|sA<|sA<|sA<|lB<|rfl)<|rfl) (fun _=>rfl) BIG s)
def ypg (v1:List Int):Option Bool:=(yp4 v1).bind fun v2=>(bif v2 then(some true) else((zvx v1 2).bind fun v5=>((zvx v1 3).bind fun v7=>((yly (⟨(i64.wrap (1+(v7.tmod 3))),0,([(⟨1,2,0,99,(v5.tmod 6),9,0⟩:Tf)]:List Tf)⟩:Tp)).bind fun v9=>((zvx v1 4).bind fun v11=>((zvx v1 5).bind fun v13=>((zvx v1 6).bind fun v15=>((znb v11 v13 v15 (v9,0,0)).bind (ze8 (fun (v68:Int×Int×List Th×Int×Tg×Int×Int×Int×Int×Int×Int×Int×Int)=>(some false)) (fun (v69:Int×Int×Tg)=>(bif decide (v69.1≠(i64.wrap ((i64.wrap (16+(v15.tmod 5))) - 16))) then(some false) else((ykn v69.2.2).bind fun v71=>(bif decide (v71≠16) then(some false) else((zoo v11 v13 (v69.2.2,0,0)).bind fun v82=>((yf6 v82.2.2 0 999 1 (⟨3,(v11.tmod 50),(i64.wrap (1+(v13.tmod 9))),[],[],0⟩:Ti)).bind fun v83=>(bif decide (v82.1=16) then((ykn v82.2.2).bind fun v85=>(bif decide (v85=0) then(some (decide ((v83.2.length:Int)=0))) else(some false))) else(some false)))))))))))))))))
def yx4 (v1:List Int):Ctr:=⟨3,[.imm 1 (v1.map (V.int .u8))],[],Bool,ypg v1,rB⟩
theorem qa6 {v1:List Int}:(yx4 v1).okF tab:=okF_of rfl rfl (.callF (ytr v1) fun v2=>.br v2 (.lfA rB true)<|.callF (yjp v1 2) fun(v5:Int)=>.sk<|.eqL [.agg [.int .i64 1,.int .i64 2,.int .i64 0,.int .i64 99,.int .i64 (v5.tmod 6),.int .i64 9,.int .i64 0]] (([(⟨1,2,0,99,(v5.tmod 6),9,0⟩:Tf)]:List Tf).map Tf.i)<|.segA Tf.i ([(⟨1,2,0,99,(v5.tmod 6),9,0⟩:Tf)]:List Tf)<|.callF (yjp v1 3) fun(v7:Int)=>.sk<|.segA Tf.i ([(⟨1,2,0,99,(v5.tmod 6),9,0⟩:Tf)]:List Tf)<|.eraA Tf.i Tf.i ([(⟨1,2,0,99,(v5.tmod 6),9,0⟩:Tf)]:List Tf)<|.callF (yrt (⟨(i64.wrap (1+(v7.tmod 3))),0,([(⟨1,2,0,99,(v5.tmod 6),9,0⟩:Tf)]:List Tf)⟩:Tp)) fun(v9:Tg)=>.segA Tf.i v9.fr.faf<|.segA Tb.o v9.ft.fi<|.segA Ta.o v9.fq<|.callF (yjp v1 4) fun(v11:Int)=>.sk<|.callF (yjp v1 5) fun(v13:Int)=>.sk<|.seg [] 0 0 []<|.eqL [] []<|.eqL [] []<|.seg [] 0 0 []<|.eqL [] []<|.eqL [] []<|.callF (yjp v1 6) fun(v15:Int)=>.sk<|.lp2 (yb9 v11 v13 v15 (v9,0,0)) (fun (v68:Int×Int×List Th×Int×Tg×Int×Int×Int×Int×Int×Int×Int×Int)=>.lfA rB false) (fun (v69:Int×Int×Tg)=>.br (decide (v69.1≠(i64.wrap ((i64.wrap (16+(v15.tmod 5))) - 16)))) (.lfA rB false)<|.se Tf.i Tf.i v69.2.2.fr.faf<|.se Tb.o Tb.i v69.2.2.ft.fi<|.se Ta.o Ta.i v69.2.2.fq<|.callF (yod v69.2.2) fun(v71:Int)=>.br (decide (v71≠16)) (.lfA rB false)<|.lp (yah v11 v13 (v69.2.2,0,0)) fun(v82:Int×Int×Tg)=>.se Tf.i Tf.i v82.2.2.fr.faf<|.eraA Tf.i Tf.i v82.2.2.fr.faf<|.se Tb.o Tb.i v82.2.2.ft.fi<|.eraA Tb.o Tb.i v82.2.2.ft.fi<|.se Ta.o Ta.i v82.2.2.fq<|.eraA Ta.o Ta.i v82.2.2.fq<|.call (ynz v82.2.2 0 999 1 (⟨3,(v11.tmod 50),(i64.wrap (1+(v13.tmod 9))),[],[],0⟩:Ti)) fun(v83:Tg×List Th)=>.segA Tf.i v83.1.fr.faf<|.segA Tb.o v83.1.ft.fi<|.segA Ta.o v83.1.fq<|.br (decide (v82.1=16)) (.callF (yod v82.2.2) fun(v85:Int)=>.br (decide (v85=0)) (.lenA Th.i v83.2<|.lfA rB (decide ((v83.2.length:Int)=0)))<|.lfA rB false)<|.lfA rB false)) (by kernel_rfl) (cF ywe fun v2=>bR rfl<|cF yli fun v5=>⟨rfl,sA<|cF yli fun v7=>sA<|⟨za5 (fun _=>rfl) ([(⟨1,2,0,99,(v5.tmod 6),9,0⟩:Tf)]:List Tf),cF yxc fun v9=>sA<|sA<|sA<|cF yli fun v11=>cF yli fun v13=>⟨za0 [],⟨rfl,⟨rfl,⟨za0 [],⟨rfl,⟨rfl,cF yli fun v15=>lQ yh7 (fun v68=>rfl) (fun v69=>bR rfl<|sE (fun _=>rfl)<|sE Tb.o_i<|sE Ta.o_i<|cF ytx fun v71=>bR rfl<|lP ygd fun v82=>sE (fun _=>rfl)<|eO (fun _=>rfl)<|sE Tb.o_i<|eO Tb.o_i<|sE Ta.o_i<|eO Ta.o_i<|cE yrg fun v83=>sA<|sA<|sA<|bR (cF ytx fun v85=>bR (lA<|rfl)<|rfl)<|rfl)⟩⟩⟩⟩⟩⟩⟩⟩)
end Go.Pm
namespace Go.Pm
set_option maxRecDepth 100000
set_option maxHeartbeats 400000
theorem zrq {p:PT} {ps:List PT} {vs:List V} (h:PT.hasAll (p::ps) vs):∃ v vs',vs=v::vs'/\p.has v/\PT.hasAll ps vs':=by simpa only [PT.hasAll] using h
theorem ylj {v:V} (h:(PT.int .u8).has v):∃ n,v=.int .u8 n/\0<=n/\n<=255:=by
 simp only [PT.has] at h
 obtain ⟨n,rfl,h1,h2⟩:=h
 exact ⟨n,rfl,by simpa [IntKind.min,IntKind.signed,IntKind.bits] using h1,by simpa [IntKind.max,IntKind.signed,IntKind.bits] using h2⟩
theorem zpd {α:Type} {f:α->V} {Q:α->Prop}:∀ {xs:List V},(∀ x∈xs,∃ a,x=f a/\Q a)->∃ zs:List α,xs=zs.map f/\∀ a∈zs,Q a
 | [],_=>⟨[],rfl,by simp⟩
 | x::xs,h=>by
   obtain ⟨a,rfl,ha⟩:=h x (by simp)
   obtain ⟨zs,rfl,has⟩:=zpd (f:=f) (Q:=Q) (xs:=xs) (fun y hy=>h y (by simp [hy]))
   exact ⟨a::zs,rfl,by simpa using ⟨ha,has⟩⟩
theorem ycn {α:Type} {f:α->V} {Q:α->Prop} {ag:Bool} {es:List PT} {v:V} (h:(PT.list ag es).has v) (he:∀ x:V,x.leaf= !ag->PT.hasAll es x.cells1->∃ a,x=f a/\Q a):
 ∃ zs:List α,v=.imm es.length (zs.map f)/\zs.length<=9223372036854775807/\∀ a∈zs,Q a:=by
 simp only [PT.has] at h
 obtain ⟨xs,rfl,hl,hx⟩:=h
 obtain ⟨zs,rfl,ha⟩:=zpd (f:=f) (Q:=Q) (fun x hm=>he x (hx x hm).1 (hx x hm).2)
 exact ⟨zs,rfl,by simpa using hl,ha⟩
theorem yf9 {p:PT} {x:V} (hx:x.leaf= !false) (h:PT.hasAll [p] x.cells1):p.has x:=by
 obtain ⟨v,vs,e,h1,h2⟩:=zrq h
 cases x <;> first|(simp only [V.cells1,List.cons.injEq] at e;rw [e.1];exact h1)|(cases hx;done)
theorem zzf {v:V} (h:(PT.list false [.int .u8]).has v):∃ zs:List Int,v=.imm 1 (zs.map (.int .u8))/\zs.length<=9223372036854775807/\∀ a∈zs,0<=a/\a<=255:=
 ycn h fun _ hx h=>ylj (yf9 hx h)
end Go.Pm
namespace Go.Pm
set_option maxRecDepth 100000
set_option maxHeartbeats 400000
end Go.Pm
namespace Go.Pm
open IntKind (i64)
def zei (v1:Int) (v2:Int) (v3:Int):Bool:=(bif decide (v2<=v1) then decide (v1<=v3) else false)
theorem zov (v1:Int) (v2:Int) (v3:Int)  :zgc v1 v2 v3=some (zei v1 v2 v3):=by
 rw [zgc];first|rfl|(simp only [Option.bind_some,za7];rfl)
def zw4 (v1:Int):Bool:=(let v2:=zei v1 0 4294967295;v2)
theorem yfa (v1:Int)  :zyx v1=some (zw4 v1):=by
 rw [zyx];first|rfl|(simp only [zov v1 0 4294967295,Option.bind_some,za7];rfl)
def zrz (v1:Int) (v2:Int):Bool:=(let v3:=zei v1 1 100;(bif v3 then(let v6:=zei v2 0 5;v6) else false))
theorem ynv (v1:Int) (v2:Int)  :yjr v1 v2=some (zrz v1 v2):=by
 rw [yjr];first|rfl|(simp only [zov v1 1 100,zov v2 0 5,Option.bind_some,za7];rfl)
def ydy (v1:Int):Bool:=(let v2:=zei v1 1 247;v2)
theorem yn4 (v1:Int)  :ygv v1=some (ydy v1):=by
 rw [ygv];first|rfl|(simp only [zov v1 1 247,Option.bind_some,za7];rfl)
def zh1 (v1:Int):Bool:=(let v2:=zei v1 0 65535;v2)
theorem ycc (v1:Int)  :zlc v1=some (zh1 v1):=by
 rw [zlc];first|rfl|(simp only [zov v1 0 65535,Option.bind_some,za7];rfl)
def ylq (v1:Int):Bool:=(let v2:=zei v1 0 5;v2)
theorem ysy (v1:Int)  :yko v1=some (ylq v1):=by
 rw [yko];first|rfl|(simp only [zov v1 0 5,Option.bind_some,za7];rfl)
def zkr (v1:Int):Bool:=(let v2:=zei v1 0 1000000000;v2)
theorem yjq (v1:Int)  :zvg v1=some (zkr v1):=by
 rw [zvg];first|rfl|(simp only [zov v1 0 1000000000,Option.bind_some,za7];rfl)
def yk9 (v1:Tf):Bool:=(let v2:=ydy v1.fp;(bif !v2 then false else(let v5:=zei v1.fay 0 3;(bif !v5 then false else(let v8:=zh1 v1.fav;(bif !v8 then false else(let v11:=zh1 v1.fat;(bif !v11 then false else(bif decide (v1.fat<v1.fav) then false else(let v15:=ylq v1.fae;(bif !v15 then false else(let v18:=ydy v1.faw;(bif !v18 then false else(let v21:=zei v1.fau (-65535) 65535;(bif v21 then(let v24:=zh1 (i64.wrap (v1.fav+v1.fau));(bif v24 then(let v27:=zh1 (i64.wrap (v1.fat+v1.fau));v27) else false)) else false)))))))))))))))
theorem qam (v1:Tf)  :ym6 v1=some (yk9 v1):=by
 rw [ym6];first|rfl|(simp only [yn4 v1.fp,zov v1.fay 0 3,ycc v1.fav,ycc v1.fat,ysy v1.fae,yn4 v1.faw,zov v1.fau (-65535) 65535,ycc (i64.wrap (v1.fav+v1.fau)),ycc (i64.wrap (v1.fat+v1.fau)),Option.bind_some,za7];rfl)
def yj3 (v1:Tf) (v2:Tf):Bool:=(bif decide (v1.fp=v2.fp) then(bif decide (v1.fay=v2.fay) then(bif decide (v1.fav<=v2.fat) then decide (v2.fav<=v1.fat) else false) else false) else false)
theorem yrx (v1:Tf) (v2:Tf)  :ym0 v1 v2=some (yj3 v1 v2):=by
 rw [ym0];first|rfl|(simp only [Option.bind_some,za7];rfl)
def ymb (v1:Int):Tk×Tk×Tk:=(bif decide (v1=1) then((⟨1,2000⟩:Tk),⟨0,0⟩,(⟨0,0⟩:Tk)) else(bif decide (v1=2) then((⟨1,2000⟩:Tk),⟨0,0⟩,(⟨0,0⟩:Tk)) else(bif decide (v1=3) then((⟨1,125⟩:Tk),⟨0,0⟩,(⟨0,0⟩:Tk)) else(bif decide (v1=4) then((⟨1,125⟩:Tk),⟨0,0⟩,(⟨0,0⟩:Tk)) else(bif decide (v1=5) then((⟨0,0⟩:Tk),⟨0,0⟩,(⟨1,1⟩:Tk)) else(bif decide (v1=6) then((⟨0,0⟩:Tk),(⟨1,1⟩:Tk),(⟨0,0⟩:Tk)) else(bif decide (v1=15) then((⟨0,0⟩:Tk),⟨0,0⟩,(⟨1,1968⟩:Tk)) else(bif decide (v1=16) then((⟨0,0⟩:Tk),(⟨1,123⟩:Tk),(⟨0,0⟩:Tk)) else(bif decide (v1=22) then((⟨0,0⟩:Tk),(⟨2,2⟩:Tk),(⟨0,0⟩:Tk)) else((⟨1,125⟩:Tk),(⟨1,121⟩:Tk),(⟨0,0⟩:Tk)))))))))))
theorem qa0 (v1:Int)  :ym5 v1=some (ymb v1):=by
 rw [ym5];first|rfl|(simp only [Option.bind_some,za7];rfl)
def ygu (v1:Int):Bool:=(let v2:=zei v1 1 6;(bif v2 then true else(bif decide (v1=15) then true else(bif decide (v1=16) then true else(bif decide (v1=22) then true else decide (v1=23))))))
theorem yrs (v1:Int)  :yl9 v1=some (ygu v1):=by
 rw [yl9];first|rfl|(simp only [zov v1 1 6,Option.bind_some,za7];rfl)
def yer (v1:Ti):Int:=(bif decide (v1.ff=22) then 1 else i64.wrap (((v1.fg.length:Nat):Int)+((v1.fe.length:Nat):Int)))
theorem ymf (v1:Ti) (hv1:v1.sz<=1048576):yae v1=some (yer v1):=by
 rw [yae];first|rfl|(simp only [Option.bind_some,za7];rfl)
def ynj (v1:Tc):Bool:=(let v2:=zei v1.fak 1 255;(bif v2 then(bif decide (v1.fd=0) then(bif decide (v1.fN=0) then(bif decide (((v1.fg.length:Nat):Int)=0) then decide (((v1.fe.length:Nat):Int)=0) else false) else false) else false) else false))
theorem yxs (v1:Tc) (hv1:v1.sz<=1048576):yn0 v1=some (ynj v1):=by
 rw [yn0];first|rfl|(simp only [zov v1.fak 1 255,Option.bind_some,za7];rfl)
def yt8 (v1:Int):Tk×Tk×Int×Bool:=(bif decide (v1=1) then((⟨0,0⟩:Tk),(⟨1,2000⟩:Tk),0,false) else(bif decide (v1=2) then((⟨0,0⟩:Tk),(⟨1,2000⟩:Tk),0,false) else(bif decide (v1=3) then((⟨1,125⟩:Tk),⟨0,0⟩,0,false) else(bif decide (v1=4) then((⟨1,125⟩:Tk),⟨0,0⟩,0,false) else(bif decide (v1=23) then((⟨1,125⟩:Tk),⟨0,0⟩,0,false) else(bif decide (v1=5) then((⟨0,0⟩:Tk),(⟨1,1⟩:Tk),0,true) else(bif decide (v1=6) then((⟨1,1⟩:Tk),⟨0,0⟩,0,true) else(bif decide (v1=15) then((⟨0,0⟩:Tk),⟨0,0⟩,1968,true) else(bif decide (v1=16) then((⟨0,0⟩:Tk),⟨0,0⟩,123,true) else((⟨2,2⟩:Tk),⟨0,0⟩,0,true))))))))))
theorem yzs (v1:Int)  :yn5 v1=some (yt8 v1):=by
 rw [yn5];first|rfl|(simp only [Option.bind_some,za7];rfl)
def yne (v1:Int):Bool:=(let v2:=zh1 v1;!v2)
theorem yuw (v1:Int)  :yn8 v1=some (yne v1):=by
 rw [yn8];first|rfl|(simp only [ycc v1,Option.bind_some,za7];rfl)
def ypa (v1:List Tf) (v2:Tf):Int:=zl1 (fun (x:Tf)=>yj3 x v2) v1 0
theorem yxa (v1:List Tf) (v2:Tf) (hv1:v1.length<=1048576):ym1 v1 v2=some (ypa v1 v2):=by
 have hlen:v1.length<=9223372036854775806:=by have hq:v1.length<=v1.length:=Nat.le_refl _;omega
 rw [ym1];unfold zrk ypa
 exact yk2 (fun (x:Tf)=>yj3 x v2) hlen rfl (fun d x t he=>by rw [zx5];first|rfl|(simp only [yrx x v2,Option.bind_some];done)|(simp only [yrx x v2,Option.bind_some];rfl)|done)
def ynh (v1:List Int):Int:=zl1 (fun (x:Int)=>yne x) v1 0
theorem yzd (v1:List Int) (hv1:v1.length<=1048576):ym2 v1=some (ynh v1):=by
 have hlen:v1.length<=9223372036854775806:=by have hq:v1.length<=v1.length:=Nat.le_refl _;omega
 rw [ym2];unfold zrs ynh
 exact yk2 (fun (x:Int)=>yne x) hlen rfl (fun d x t he=>by rw [zwt];first|rfl|(simp only [yuw x,Option.bind_some];done)|(simp only [yuw x,Option.bind_some];rfl)|done)
def yop (v1:List Bool) (v2:Bool):Int:=zl1 (fun (x:Bool)=>(false ^^ (v2 == x))) v1 0
theorem yx1 (v1:List Bool) (v2:Bool) (hv1:v1.length<=1048576):ynf v1 v2=some (yop v1 v2):=by
 have hlen:v1.length<=9223372036854775806:=by have hq:v1.length<=v1.length:=Nat.le_refl _;omega
 rw [ynf];unfold ztn yop
 exact yk2 (fun (x:Bool)=>(false ^^ (v2 == x))) hlen rfl (fun d x t he=>by rw [zzn];first|rfl|(simp only [Option.bind_some];done)|(simp only [Option.bind_some];rfl)|done)
def yqx (v1:List Tf) (v2:Tf):Bool:=(let v3:=ypa v1 v2;decide (0<=v3))
theorem yw1 (v1:List Tf) (v2:Tf) (hv1:v1.length<=1048576):ym4 v1 v2=some (yqx v1 v2):=by
 rw [ym4];first|rfl|(simp only [yxa v1 v2 hv1,Option.bind_some,za7];rfl)
def yoh (v1:List Int):Bool:=(let v2:=ynh v1;decide (0<=v2))
theorem yvb (v1:List Int) (hv1:v1.length<=1048576):ymo v1=some (yoh v1):=by
 rw [ymo];first|rfl|(simp only [yzd v1 hv1,Option.bind_some,za7];rfl)
def yro (v1:List Bool) (v2:Bool):Bool:=(let v3:=yop v1 v2;decide (0<=v3))
theorem yok (v1:List Bool) (v2:Bool) (hv1:v1.length<=1048576):yfu v1 v2=some (yro v1 v2):=by
 rw [yfu];first|rfl|(simp only [yx1 v1 v2 hv1,Option.bind_some,za7];rfl)
def yor (v1:List Int):Bool:=(let v2:=yoh v1;!v2)
theorem yyr (v1:List Int) (hv1:v1.length<=1048576):yje v1=some (yor v1):=by
 rw [yje];first|rfl|(simp only [yvb v1 hv1,Option.bind_some,za7];rfl)
def zhy (l:List Int):Bool:=l.all fun n=>decide (0<=n)&&decide (n<=65535)
theorem zs1 (l:List Int):yor l=zhy l:=by
 unfold yor yoh ynh zhy
 simp only [ziy,List.all_eq_not_any_not]
 congr 2;funext n
 unfold yne zh1 zei
 by_cases h:0<=n <;> simp [h]
theorem ysr (v1:List Int) (hv1:v1.length<=1048576):yje v1=some (zhy v1):=by rw [yyr v1 hv1,zs1]
def zkq (v1:Ti):Bool:=(let v2:=ymb v1.ff;(let v4:=ygu v1.ff;(bif !v4 then false else(let v7:=zei v1.fN v2.1.f0 v2.1.f1;(bif !v7 then false else(let v10:=zei ((v1.fg.length:Nat):Int) v2.2.1.f0 v2.2.1.f1;(bif !v10 then false else(let v13:=zei ((v1.fe.length:Nat):Int) v2.2.2.f0 v2.2.2.f1;(bif !v13 then false else(let v16:=zh1 v1.fd;(bif !v16 then false else(let v19:=zh1 v1.fj;(bif !v19 then false else(let v22:=zhy v1.fg;(bif !v22 then false else(bif decide (65536<(i64.wrap (v1.fd+v1.fN))) then false else(bif decide (v1.ff=23) then(let v27:=yer v1;decide ((i64.wrap (v1.fj+v27))<=65536)) else(bif decide (v1.fj=0) then(let v30:=yer v1;decide ((i64.wrap (v1.fd+v30))<=65536)) else false))))))))))))))))))
theorem yeb (v1:Ti) (hv1:v1.sz<=1048576):zyk v1=some (zkq v1):=by
 rw [zyk];first|rfl|(simp only [qa0 v1.ff,yrs v1.ff,ycc v1.fd,ycc v1.fj,ysr v1.fg (by simp only [Ti.sz] at hv1;omega),ymf v1 hv1,zov,Option.bind_some,za7];rfl)
def yjv (v1:Tc):Bool:=(let v2:=ygu v1.ff;(bif !v2 then false else(bif decide (v1.fak≠0) then(let v6:=ynj v1;v6) else(let v8:=yt8 v1.ff;(let v10:=zei ((v1.fg.length:Nat):Int) v8.1.f0 v8.1.f1;(bif !v10 then false else(let v13:=zei ((v1.fe.length:Nat):Int) v8.2.1.f0 v8.2.1.f1;(bif !v13 then false else(let v16:=zhy v1.fg;(bif !v16 then false else(bif decide (1<v8.2.1.f1) then(bif decide ((((v1.fe.length:Nat):Int).tmod 8)≠0) then false else(bif decide (v8.2.2.1=0) then(bif decide (v1.fN≠0) then false else(bif decide (0<v8.2.2.1) then(let v24:=zei v1.fN 1 v8.2.2.1;(bif !v24 then false else(bif v8.2.2.2 then(let v28:=zh1 v1.fd;(bif v28 then true else decide (v1.fd=0))) else decide (v1.fd=0)))) else(bif v8.2.2.2 then(let v32:=zh1 v1.fd;(bif v32 then true else decide (v1.fd=0))) else decide (v1.fd=0)))) else(bif decide (0<v8.2.2.1) then(let v36:=zei v1.fN 1 v8.2.2.1;(bif !v36 then false else(bif v8.2.2.2 then(let v40:=zh1 v1.fd;(bif v40 then true else decide (v1.fd=0))) else decide (v1.fd=0)))) else(bif v8.2.2.2 then(let v44:=zh1 v1.fd;(bif v44 then true else decide (v1.fd=0))) else decide (v1.fd=0))))) else(bif decide (v8.2.2.1=0) then(bif decide (v1.fN≠0) then false else(bif decide (0<v8.2.2.1) then(let v50:=zei v1.fN 1 v8.2.2.1;(bif !v50 then false else(bif v8.2.2.2 then(let v54:=zh1 v1.fd;(bif v54 then true else decide (v1.fd=0))) else decide (v1.fd=0)))) else(bif v8.2.2.2 then(let v58:=zh1 v1.fd;(bif v58 then true else decide (v1.fd=0))) else decide (v1.fd=0)))) else(bif decide (0<v8.2.2.1) then(let v62:=zei v1.fN 1 v8.2.2.1;(bif !v62 then false else(bif v8.2.2.2 then(let v66:=zh1 v1.fd;(bif v66 then true else decide (v1.fd=0))) else decide (v1.fd=0)))) else(bif v8.2.2.2 then(let v70:=zh1 v1.fd;(bif v70 then true else decide (v1.fd=0))) else decide (v1.fd=0)))))))))))))))
theorem yy5 (v1:Tc) (hv1:v1.sz<=1048576):ynm v1=some (yjv v1):=by
 rw [ynm];first|rfl|(simp only [yrs v1.ff,yxs v1 hv1,yzs v1.ff,ysr v1.fg (by simp only [Tc.sz] at hv1;omega),ycc v1.fd,zov,Option.bind_some,za7];rfl)
def zli (n:Int):Int:=i64.wrap ((i64.wrap ((i64.wrap (n+7)).tdiv 8)) * 8)
theorem ybi {n:Int} (h1:1<=n) (h2:n<=2000):n<=zli n/\zli n<=2007:=by
 unfold zli
 rw [zah (n:=n+7) (by omega) (by omega),Int.tdiv_eq_ediv_of_nonneg (by omega),zah (n:=(n+7) / 8) (by omega) (by omega),zah (by omega) (by omega)]
 omega
def yj0 (n:Int) (bs:List Bool):Bool:=bif decide (((bs.length:Nat):Int)=zli n) then !((bs.drop n.toNat).any id) else false
theorem yt3 (v1:Int) (v2:List Bool) (h:v2.length<=1048576) (h1:1<=v1) (h2:v1<=2000):yjt v1 v2=some (yj0 v1 v2):=by
 rw [yjt]
 show (bif decide (((v2.length:Nat):Int)=zli v1) then _ else _)=_
 have hb:=ybi h1 h2
 unfold yj0
 by_cases he:((v2.length:Nat):Int)=zli v1
 ·simp only [he,decide_true,cond_true]
  rw [if_pos (by simp only [List.length_map];omega)]
  have hd:(v2.take ((((v2.map V.bool).length:Nat):Int).toNat)).drop (v1:Int).toNat=v2.drop v1.toNat:=by
   rw [zby,List.length_map,List.take_length]
  rw [hd,yok _ _ (by simp;omega)]
  show some (!decide (0<=zl1 _ _ 0))=some (!((v2.drop v1.toNat).any id))
  rw [ziy]
  congr 3;funext x;cases x <;> rfl
 ·simp [he]
def zi3 (q:Ti) (a:Tc):Bool:=
 bif !zkq q then false else bif !yjv a then false else bif decide (a.ff≠q.ff) then false else bif decide (a.fak≠0) then true else
 bif decide (q.ff=1)||decide (q.ff=2) then yj0 q.fN a.fe else
 bif decide (q.ff=3)||(decide (q.ff=4)||decide (q.ff=23)) then decide (((a.fg.length:Nat):Int)=q.fN) else
 bif decide (q.ff=15) then decide (a.fd=q.fd)&&decide (a.fN=((q.fe.length:Nat):Int)) else
 bif decide (q.ff=16) then decide (a.fd=q.fd)&&decide (a.fN=((q.fg.length:Nat):Int)) else
 decide (a.fd=q.fd)&&(decide (a.fg=q.fg)&&decide (a.fe=q.fe))
theorem zsx {q:Ti} (h:zkq q=true):zhy q.fg=true/\(q.ff=1\/q.ff=2\/q.ff=3\/q.ff=4\/q.ff=5\/q.ff=6\/q.ff=15\/q.ff=16\/q.ff=22\/q.ff=23)/\
 (0<=q.fd/\q.fd<=65535)/\(0<=q.fj/\q.fj<=65535)/\
 (q.ff=1\/q.ff=2->1<=q.fN/\q.fN<=2000/\q.fg.length=0/\q.fe.length=0)/\(q.ff=3\/q.ff=4->1<=q.fN/\q.fN<=125/\q.fg.length=0/\q.fe.length=0)/\
 (q.ff=5->q.fN=0/\q.fg.length=0/\q.fe.length=1)/\(q.ff=6->q.fN=0/\q.fg.length=1/\q.fe.length=0)/\
 (q.ff=15->q.fN=0/\q.fg.length=0/\1<=q.fe.length/\q.fe.length<=1968)/\(q.ff=16->q.fN=0/\1<=q.fg.length/\q.fg.length<=123/\q.fe.length=0)/\
 (q.ff=22->q.fN=0/\q.fg.length=2/\q.fe.length=0)/\(q.ff=23->1<=q.fN/\q.fN<=125/\1<=q.fg.length/\q.fg.length<=121/\q.fe.length=0):=by
 simp only [zkq,ygu,ymb,yer,zh1,zei] at h
 cases hw:zhy q.fg
 ·simp [hw] at h
 simp only [hw] at h
 refine ⟨rfl,?_⟩
 by_cases k1:q.ff=1
 ·simp [k1,-List.length_eq_zero_iff] at h ⊢;omega
 by_cases k2:q.ff=2
 ·simp [k2,-List.length_eq_zero_iff] at h ⊢;omega
 by_cases k3:q.ff=3
 ·simp [k3,-List.length_eq_zero_iff] at h ⊢;omega
 by_cases k4:q.ff=4
 ·simp [k4,-List.length_eq_zero_iff] at h ⊢;omega
 by_cases k5:q.ff=5
 ·simp [k5,-List.length_eq_zero_iff] at h ⊢;omega
 by_cases k6:q.ff=6
 ·simp [k6,-List.length_eq_zero_iff] at h ⊢;omega
 by_cases k15:q.ff=15
 ·simp [k15,-List.length_eq_zero_iff] at h ⊢;omega
 by_cases k16:q.ff=16
 ·simp [k16,-List.length_eq_zero_iff] at h ⊢;omega
 by_cases k22:q.ff=22
 ·simp [k22,-List.length_eq_zero_iff] at h ⊢;omega
 by_cases k23:q.ff=23
 ·simp [k23,-List.length_eq_zero_iff] at h ⊢;omega
 simp [k1,k2,k3,k4,k5,k6,k15,k16,k22,k23] at h;omega
theorem ytl {α:Type} [DecidableEq α] {β γ:Type} {a c:List α} (hl:a.length<=1048576) {body:Int->α->Unit->Option (Unit⊕(Int⊕Unit))} {last:Unit->Option (Int⊕Unit)} (hlast:last ()=some (.inr ()))
 (hb:∀ k x,body k x ()=(c[k.toNat]?).bind fun v=>(bif !decide (x=v) then some (.inr (.inl k)) else some (.inl ()))):
 (bif decide (((a.length:Nat):Int)≠((c.length:Nat):Int)) then some false else(if a.length<=9223372036854775806 then zab body last a 0 () else none).bind (ze8 (fun _=>some false) (fun _=>some true)))=some (decide (a=c)):=by
 by_cases he:a.length=c.length
 ·have h0:decide (((a.length:Nat):Int)≠((c.length:Nat):Int))=false:=by simp [he]
  rw [h0,cond_false,yk7 (fun d x=> !decide (some x=c[d.length]?)) (by omega) hlast (fun d x t h=> ?_)]
  ·have key:∀ (t d:List α),d++t=a->d=c.take d.length->(anyP (fun d x=> !decide (some x=c[d.length]?)) d t=false↔t=c.drop d.length):=by
    intro t
    induction t with
    | nil=>intro d h _;simp [anyP];have:d=a:=by simpa using h
           subst this;simp [he]
    | cons x t ih=>
      intro d h hd
      have hlt:d.length<c.length:=by rw [<- he,<- h];simp
      simp only [anyP,Bool.or_eq_false_iff]
      rw [List.drop_eq_getElem_cons hlt,List.getElem?_eq_getElem hlt]
      by_cases hx:x=c[d.length]
      ·have:=ih (d ++ [x]) (by simpa using h) (by rw [List.length_append,List.length_singleton,List.take_add_one,List.getElem?_eq_getElem hlt,<- hd,hx];rfl)
       simp only [hx,decide_true,Bool.not_true,true_and,List.cons.injEq]
       rw [<- hx,this];simp
      ·exact ⟨fun h=>by simp [hx] at h,fun h=>absurd (List.cons.inj h).1 hx⟩
   have:=key a [] rfl (by simp)
   simp only [List.length_nil,List.drop_zero] at this
   by_cases hac:a=c
   ·rw [if_neg (by rw [this.2 hac];simp)];simp [hac]
   ·have hp:anyP (fun d x=> !decide (some x=c[d.length]?)) [] a=true:=by
     cases h:anyP (fun d x=> !decide (some x=c[d.length]?)) [] a
     ·exact absurd (this.1 h) hac
     ·rfl
    rw [if_pos hp];simp [hac]
  ·have hlt:d.length<c.length:=by rw [<- he,<- h];simp
   refine ⟨((d.length:Nat):Int),?_⟩
   rw [hb,zby,List.getElem?_eq_getElem hlt,Option.bind_some]
   by_cases hx:x=c[d.length] <;> simp [hx]
 ·have h0:decide (((a.length:Nat):Int)≠((c.length:Nat):Int))=true:=by simp;omega
  rw [h0,cond_true]
  have:¬ a=c:=fun e=>he (by rw [e])
  simp [this]
theorem zcp (v1:List Int) (v2:List Int) (hv1:v1.length<=1048576) (hv2:v2.length<=1048576):yjh v1 v2=some (decide (v1=v2)):=by
 rw [yjh];unfold zs2
 exact ytl (β:=Unit) (γ:=Unit) hv1 rfl (fun k x=>by rw [zwg];simp only [ne_eq,decide_not])
theorem yzh (a b:Bool):(true ^^ (a == b))= !decide (a=b):=by cases a <;> cases b <;> rfl
theorem zcg (v1:List Bool) (v2:List Bool) (hv1:v1.length<=1048576) (hv2:v2.length<=1048576):yj5 v1 v2=some (decide (v1=v2)):=by
 rw [yj5];unfold zs5
 exact ytl (β:=Unit) (γ:=Unit) hv1 rfl (fun k x=>by rw [zz6];simp only [yzh])
def eqI (a b:List Int):Bool:=decide (a=b)
def eqB (a b:List Bool):Bool:=decide (a=b)
theorem ypf (v1:Ti) (v2:Tc) (hv1:v1.sz<=1048576) (hv2:v2.sz<=1048576):yf4 v1 v2=some (zi3 v1 v2):=by
 have g1:=hv1;have g2:=hv2
 simp only [Ti.sz,Tc.sz] at g1 g2
 rw [yf4]
 simp only [yeb v1 hv1,yy5 v2 hv2,Option.bind_some]
 unfold zi3
 cases hq:zkq v1
 ·rfl
 cases ha:yjv v2
 ·rfl
 have F:=zsx hq
 by_cases hk:v2.ff=v1.ff
 rotate_left
 ·simp [hk]
 by_cases hf:v2.fak=0
 rotate_left
 ·simp [hk,hf]
 simp only [hk,hf,ne_eq,not_true_eq_false,decide_false,cond_false,Bool.not_true]
 by_cases k1:v1.ff=1
 ·have:=F.2.2.2.2.1 (.inl k1);simp [k1,yt3 v1.fN v2.fe (by omega) this.1 this.2.1]
 by_cases k2:v1.ff=2
 ·have:=F.2.2.2.2.1 (.inr k2);simp [k2,yt3 v1.fN v2.fe (by omega) this.1 this.2.1]
 by_cases k3:v1.ff=3
 ·simp [k3]
 by_cases k4:v1.ff=4
 ·simp [k4]
 by_cases k23:v1.ff=23
 ·simp [k23]
 by_cases k15:v1.ff=15
 ·have h15:=F.2.2.2.2.2.2.2.2.1 k15
  have hw:i64.wrap ((v1.fg.length:Int)+(v1.fe.length:Int))=v1.fe.length:=by rw [zah (by omega) (by omega)];omega
  simp only [ymf v1 hv1,yer,k15,hw]
  by_cases hAt:v2.fd=v1.fd <;> simp [hAt]
 by_cases k16:v1.ff=16
 ·have h16:=F.2.2.2.2.2.2.2.2.2.1 k16
  have hw:i64.wrap ((v1.fg.length:Int)+(v1.fe.length:Int))=v1.fg.length:=by rw [zah (by omega) (by omega)];omega
  simp only [ymf v1 hv1,yer,k16,hw]
  by_cases hAt:v2.fd=v1.fd <;> simp [hAt]
 simp only [k1,k2,k3,k4,k23,k15,k16,zcp v2.fg v1.fg (by omega) (by omega),zcg v2.fe v1.fe (by omega) (by omega)]
 by_cases hAt:v2.fd=v1.fd <;> by_cases hw:v2.fg=v1.fg <;> simp [hAt,hw]
end Go.Pm
namespace Go.Pm
def yl3 (x y:Tf):Bool:=yj3 x y
def zho (d:List Tf) (x:Tf):Bool:= !yk9 x||d.any (fun y=>yl3 y x)
def zpr (l:List Tf):Bool:= !anyP zho [] l&&decide (((l.length:Nat):Int)<=24)
theorem yc5 (l:List Tf) (x:Tf):yqx l x=l.any (fun y=>yj3 y x):=ziy
theorem ypo (v1:List Tf) (hv1:v1.length<=1048576):ykq v1=some (zpr v1):=by
 rw [ykq];unfold zsf
 rw [yk7 zho (by omega) rfl (fun d x t he=>⟨_,by
  rw [zzc]
  have hd:(v1.take (((d.length:Nat):Int)).toNat).drop (0:Int).toNat=d:=by
   rw [zby,<- he];simp
  have hlt:=zuy he
  rw [qam,hd,yw1 d x (by omega),if_pos (by simp only [List.length_map];omega)]
  simp only [Option.bind_some,yc5]
  show _=some (if zho d x=true then _ else _)
  unfold zho yl3
  cases hr:yk9 x
  ·rfl
  ·cases ha:d.any fun y=>yj3 y x <;> rfl⟩)]
 unfold zpr
 cases anyP zho [] v1 <;> rfl
def zf0 (c:Tp):Bool:=zrz c.fac c.fab&&zpr c.faf
theorem yrw (c:Tp) (h:c.sz<=1048576):ykf c=some (zf0 c):=by
 simp only [Tp.sz] at h
 rw [ykf,ynv,Option.bind_some]
 unfold zf0
 cases zrz c.fac c.fab
 ·rfl
 ·simp only [cond_true,ypo c.faf (by omega),Option.bind_some,Bool.true_and]
def yi6 (v1:Ti) (v2:Ti):Bool:=(bif decide (v1.ff=v2.ff) then(bif decide (v1.fd=v2.fd) then(bif decide (v1.fN=v2.fN) then(bif decide (v1.fj=v2.fj) then(let v7:=eqI v1.fg v2.fg;(bif v7 then(let v10:=eqB v1.fe v2.fe;v10) else false)) else false) else false) else false) else false)
theorem yrb (v1:Ti) (v2:Ti) (hv1:v1.sz<=1048576) (hv2:v2.sz<=1048576):yla v1 v2=some (yi6 v1 v2):=by
 rw [yla];first|rfl|(simp only [zcp v1.fg v2.fg (by simp only [Ti.sz] at hv1;omega) (by simp only [Ti.sz] at hv2;omega),zcg v1.fe v2.fe (by simp only [Ti.sz] at hv1;omega) (by simp only [Ti.sz] at hv2;omega),Option.bind_some,za7];rfl)
def ym9 (v1:Tc) (v2:Tc):Bool:=(bif decide (v1.ff=v2.ff) then(bif decide (v1.fak=v2.fak) then(bif decide (v1.fd=v2.fd) then(bif decide (v1.fN=v2.fN) then(let v7:=eqI v1.fg v2.fg;(bif v7 then(let v10:=eqB v1.fe v2.fe;v10) else false)) else false) else false) else false) else false)
theorem yyd (v1:Tc) (v2:Tc) (hv1:v1.sz<=1048576) (hv2:v2.sz<=1048576):yjw v1 v2=some (ym9 v1 v2):=by
 rw [yjw];first|rfl|(simp only [zcp v1.fg v2.fg (by simp only [Tc.sz] at hv1;omega) (by simp only [Tc.sz] at hv2;omega),zcg v1.fe v2.fe (by simp only [Tc.sz] at hv1;omega) (by simp only [Tc.sz] at hv2;omega),Option.bind_some,za7];rfl)
def yng (v1:Te):Bool:=(let v2:=ylq v1.fae;(bif v2 then(let v5:=ydy v1.fp;(bif v5 then(let v8:=zkq v1.fa;v8) else false)) else false))
theorem ywt (v1:Te) (hv1:v1.sz<=1048576):yn1 v1=some (yng v1):=by
 rw [yn1];first|rfl|(simp only [ysy v1.fae,yn4 v1.fp,yeb v1.fa (by simp only [Te.sz] at hv1;omega),Option.bind_some,za7];rfl)
def yjn (v1:Td):Bool:=(bif decide (v1.fk=0) then(bif decide (v1.fu=0) then(bif decide (v1.fp=0) then(let v5:=yi6 v1.fa (⟨0,0,0,[],[],0⟩:Ti);v5) else false) else false) else false)
theorem qau (v1:Td) (hv1:v1.sz<=1048576):ymn v1=some (yjn v1):=by
 rw [ymn];first|rfl|(simp only [yrb v1.fa (⟨0,0,0,[],[],0⟩:Ti) (by simp only [Td.sz] at hv1;omega) (by simp [Ti.sz]),Option.bind_some,za7];rfl)
end Go.Pm
namespace Go.Pm
open IntKind (i64)
theorem yd1 (l:List Bool) (x:Bool):yro l x=l.any (fun y=>false ^^ (x == y)):=ziy
def zjf (p:Tb) (d:List Te) (x:Te):Bool:=
 !yng x||(match p.fad[d.length]?,p.fw[d.length]? with
  | some h,some r=>(bif h then !zi3 x.fa r else !ym9 r ⟨0,0,0,0,[],[]⟩)
  | _,_=>false)
def znq (p:Tb):Bool:=zkr p.far&&(zkr p.fas&&(zkq p.fa&&(zei ((p.faa.length:Nat):Int) 1 8&&(decide (p.fad.length=p.faa.length)&&(decide (p.fw.length=p.faa.length)&&(!anyP (zjf p) [] p.faa&&p.fad.any (fun h=> !h)))))))
theorem zju {α:Type} {d t xs:List α} {x:α} (he:d++x::t=xs):x∈xs:=by rw [<- he];simp
theorem yw6 (v1:Tb) (hv1:v1.sz<=1048576):ymv v1=some (decide (0<=v1.fk)&&znq v1):=by
 have g:=hv1
 simp only [Tb.sz] at g
 have gp:=zcq (f:=Te.sz) (xs:=v1.faa)
 have gt:=zcq (f:=Tc.sz) (xs:=v1.fw)
 rw [ymv]
 by_cases hid:v1.fk<0
 ·have:¬ 0<=v1.fk:=by omega
  simp [hid,this]
 have hid':0<=v1.fk:=by omega
 simp only [hid,hid',decide_false,cond_false,decide_true,Bool.true_and,yjq,yeb v1.fa (by omega),zov,Option.bind_some]
 unfold znq
 cases zkr v1.far
 ·rfl
 cases zkr v1.fas
 ·rfl
 cases zkq v1.fa
 ·rfl
 cases zei ((v1.faa.length:Nat):Int) 1 8
 ·rfl
 by_cases h1:v1.fad.length=v1.faa.length
 rotate_left
 ·have h1':¬((v1.fad.length:Nat):Int)=((v1.faa.length:Nat):Int):=by omega
  simp [h1,h1']
 by_cases h2:v1.fw.length=v1.faa.length
 rotate_left
 ·have h2':¬((v1.fw.length:Nat):Int)=((v1.faa.length:Nat):Int):=by omega
  simp [h1,h2,h2']
 simp only [h1,h2,Bool.not_true,cond_false,ne_eq,not_true_eq_false,decide_false,decide_true,Bool.true_and]
 unfold zqv
 rw [yk7 (zjf v1) (by omega) rfl (fun d x t he=>⟨_,by
  have hlt:=zuy he
  have hm:=zbt (f:=Te.sz) (zju he)
  have hx:x.sz=x.fa.sz+0:=rfl
  have hh:d.length<v1.fad.length:=by omega
  have ht:d.length<v1.fw.length:=by omega
  have hr:v1.fw[d.length].sz<=szL Tc.sz v1.fw:=zbt (List.getElem_mem ht)
  rw [yal,zby,List.getElem?_eq_getElem hh,List.getElem?_eq_getElem ht]
  unfold zjf
  rw [List.getElem?_eq_getElem hh,List.getElem?_eq_getElem ht]
  simp only [ywt x (by omega),Option.bind_some,ypf x.fa v1.fw[d.length] (by omega) (by omega),yyd v1.fw[d.length] ⟨0,0,0,0,[],[]⟩ (by omega) (by simp [Tc.sz])]
  cases yng x
  ·rfl
  ·cases v1.fad[d.length]
   ·rcases Bool.eq_false_or_eq_true (ym9 v1.fw[d.length] ⟨0,0,0,0,[],[]⟩) with hs|hs <;> simp only [hs] <;> rfl
   ·rcases Bool.eq_false_or_eq_true (zi3 x.fa v1.fw[d.length]) with hs|hs <;> simp only [hs] <;> rfl⟩),yok v1.fad false (by omega),Option.bind_some,yd1]
 have e:(fun y=>false ^^ (false == y))=fun h:Bool=> !h:=by funext y;cases y <;> rfl
 rw [e]
 cases anyP (zjf v1) [] v1.faa <;> rfl
def zhm (l:List Tb) (d:List Tb) (x:Tb):Bool:=bif decide (0<d.length) then(match l[d.length - 1]? with|some y=>decide (x.fk<=y.fk)|none=>false) else false
def zkp (t:Tm) (d:List Tb) (x:Tb):Bool:= !(decide (0<=x.fk)&&znq x)||(decide (t.fo<=x.fk)||zhm t.fi d x)
def zda (t:Tm):Bool:= !anyP (zkp t) [] t.fi&&(zkr t.fo&&decide (((t.fi.length:Nat):Int)<=16))
theorem yg4 {l d t:List Tb} {x:Tb} (he:d++x::t=l) (hl:l.length<=1048576) {ε:Type} (A B:Option ε):
 (bif decide (0<((d.length:Nat):Int)) then(if 0<=(i64.wrap (((d.length:Nat):Int) - 1)) then((l[(i64.wrap (((d.length:Nat):Int) - 1)).toNat]?).bind fun v=>(bif decide (x.fk<=v.fk) then A else B)) else none) else B)=if zhm l d x then A else B:=by
 have hlt:d.length<l.length:=zuy he
 unfold zhm
 by_cases h0:0<d.length
 ·have hw:i64.wrap (((d.length:Nat):Int) - 1)=((d.length - 1:Nat):Int):=by rw [zah (by omega) (by omega)];omega
  have hd:decide (0<((d.length:Nat):Int))=true:=by simp;omega
  have hd':decide (0<d.length)=true:=by simp [h0]
  rw [hw,hd,hd',zby,List.getElem?_eq_getElem (show d.length - 1<l.length by omega)]
  simp only [cond_true,if_pos (Int.natCast_nonneg _),Option.bind_some]
  by_cases hx:x.fk<=l[d.length - 1].fk <;> simp [hx]
 ·have hd:decide (0<((d.length:Nat):Int))=false:=by simp only [decide_eq_false_iff_not];omega
  have hd':decide (0<d.length)=false:=by simp [h0]
  rw [hd,hd'];rfl
theorem ylu (v1:Tm) (hv1:v1.sz<=1048576):yge v1=some (zda v1):=by
 have g:=hv1
 simp only [Tm.sz] at g
 have gl:=zcq (f:=Tb.sz) (xs:=v1.fi)
 rw [yge];unfold zrv
 rw [yk7 (zkp v1) (by omega) rfl (fun d x t he=>⟨_,by
  have hm:=zbt (f:=Tb.sz) (zju he)
  rw [zzx,yg4 he (by omega),yw6 x (by omega),Option.bind_some]
  unfold zkp
  cases (decide (0<=x.fk)&&znq x)
  ·rfl
  ·cases decide (v1.fo<=x.fk)
   ·cases zhm v1.fi d x <;> rfl
   ·rfl⟩),yjq]
 simp only [Option.bind_some]
 unfold zda
 cases anyP (zkp v1) [] v1.fi <;> cases zkr v1.fo <;> rfl
end Go.Pm
namespace Go.Pm
open IntKind (i64)
def zvc (v1:Td):Bool:=(let v2:=zkr v1.fk;(bif v2 then(let v5:=zei v1.fu 0 7;(bif v5 then(let v8:=ydy v1.fp;(bif v8 then(let v11:=zkq v1.fa;v11) else false)) else false)) else false))
theorem yr0 (v1:Td) (hv1:v1.sz<=1048576):ykj v1=some (zvc v1):=by
 rw [ykj];first|rfl|(simp only [yjq v1.fk,zov v1.fu 0 7,yn4 v1.fp,yeb v1.fa (by simp only [Td.sz] at hv1;omega),Option.bind_some,za7];rfl)
def yp8 (v1:List Tl) (v2:Tl):Int:=zl1 (fun (x:Tl)=>(decide (v2.fid=x.fid)&&(decide (v2.fpart=x.fpart)&&true))) v1 0
theorem yvo (v1:List Tl) (v2:Tl) (hv1:v1.length<=1048576):yml v1 v2=some (yp8 v1 v2):=by
 have hlen:v1.length<=9223372036854775806:=by have hq:v1.length<=v1.length:=Nat.le_refl _;omega
 rw [yml];unfold ztj yp8
 exact yk2 (fun (x:Tl)=>(decide (v2.fid=x.fid)&&(decide (v2.fpart=x.fpart)&&true))) hlen rfl (fun d x t he=>by rw [ybz];first|rfl|(simp only [Option.bind_some];done)|(simp only [Option.bind_some];rfl)|done)
def yos (v1:Tb) (v2:Td):Bool:=decide (v1.fk=v2.fk)
theorem yus (v1:Tb) (v2:Td) (hv1:v1.sz<=1048576) (hv2:v2.sz<=1048576):ynb v1 v2=some (yos v1 v2):=by
 rw [ynb];first|rfl|(simp only [Option.bind_some,za7];rfl)
def yog (v1:List Tb) (v2:Td):Int:=zl1 (fun (x:Tb)=>yos x v2) v1 0
theorem ywz (v1:List Tb) (v2:Td) (hv1:szL Tb.sz v1<=1048576) (hv2:v2.sz<=1048576):ynl v1 v2=some (yog v1 v2):=by
 have hlen:v1.length<=9223372036854775806:=by have hq:v1.length<=szL Tb.sz v1:=zcq;omega
 rw [ynl];unfold zrf yog
 exact yk2 (fun (x:Tb)=>yos x v2) hlen rfl (fun d x t he=>by rw [yap];first|rfl|(simp only [yus x v2 (by have:=zbt (f:=Tb.sz) (he ▸ (by simp:x∈d++x::t));omega) hv2,Option.bind_some];done)|(simp only [yus x v2 (by have:=zbt (f:=Tb.sz) (he ▸ (by simp:x∈d++x::t));omega) hv2,Option.bind_some];rfl)|done)
def yom (v1:List Tl) (v2:Tl):Bool:=(let v3:=yp8 v1 v2;decide (0<=v3))
theorem ywk (v1:List Tl) (v2:Tl) (hv1:v1.length<=1048576):ymk v1 v2=some (yom v1 v2):=by
 rw [ymk];first|rfl|(simp only [yvo v1 v2 hv1,Option.bind_some,za7];rfl)
def zfi (l:Ta):Bool:=
 zrz l.fac l.fab&&(!decide (40<((l.fh.length:Nat):Int))&&(zh1 l.fo&&(!l.fh.any (fun c=> !zvc c) &&
  (bif !l.fam then yjn l.fc&&(decide (l.fao=0)&&(decide (l.faq=0)&&decide (l.fap=0))) else
   zvc l.fc&&(zh1 l.fao&&(zw4 l.faq&&zei l.fap 0 l.fab))))))
theorem yzb (v1:Ta) (hv1:v1.sz<=1048576):ymc v1=some (zfi v1):=by
 have g:=hv1
 simp only [Ta.sz] at g
 have gl:=zcq (f:=Td.sz) (xs:=v1.fh)
 rw [ymc]
 simp only [ynv,ycc,qau v1.fc (by omega),yr0 v1.fc (by omega),yfa,zov,Option.bind_some,za7]
 unfold zsr
 rw [yk7 (fun _ c=> !zvc c) (by omega) rfl (fun d x t he=>⟨_,by
  have hm:=zbt (f:=Td.sz) (zju he)
  rw [zxw,yr0 x (by omega),Option.bind_some]
  cases zvc x <;> rfl⟩),zh9]
 unfold zfi
 cases zrz v1.fac v1.fab <;> cases decide (40<((v1.fh.length:Nat):Int)) <;> cases zh1 v1.fo <;> cases (v1.fh.any fun c=> !zvc c) <;> try rfl
 cases v1.fam
 ·cases yjn v1.fc <;> cases decide (v1.fao=0) <;> cases decide (v1.faq=0) <;> cases decide (v1.fap=0) <;> rfl
 ·cases zvc v1.fc <;> cases zh1 v1.fao <;> cases zw4 v1.faq <;> cases zei v1.fap 0 v1.fab <;> rfl
def zbu (l:Ta):List Td:=bif l.fam then l.fh ++ [l.fc] else l.fh
def yeh (l:Ta):List Td:=bif l.fam then [l.fc]++l.fh else l.fh
theorem ynu (v1:Ta) (hv1:v1.sz<=1048576):yhu v1=some (zbu v1):=by
 simp only [Ta.sz] at hv1
 have gl:=zcq (f:=Td.sz) (xs:=v1.fh)
 rw [yhu]
 rw [if_pos (by omega)]
 simp only [Option.bind_some,List.length_map,List.length_singleton]
 rw [if_pos (by omega),za7];rfl
theorem zxq (l:Ta):(zbu l).length<=l.fh.length+1/\(yeh l).length<=l.fh.length+1:=by
 unfold zbu yeh;cases l.fam <;> simp
theorem yce (l:Ta) {c:Td} (h:c∈zbu l):c.sz<=l.sz:=by
 simp only [Ta.sz]
 unfold zbu at h
 cases hb:l.fam <;> simp only [hb,cond_false,cond_true,List.mem_append,List.mem_singleton] at h
 ·have:=zbt (f:=Td.sz) h;omega
 ·rcases h with h|rfl
  ·have:=zbt (f:=Td.sz) h;omega
  ·omega
def zg2 (t:Tm) (port:Int) (c:Td):Bool:=match t.fi.find? (fun x=>decide (x.fk=c.fk)) with
 | none=>false
 | some p=>bif decide (((p.faa.length:Nat):Int)<=c.fu) then false else match p.fad[c.fu.toNat]?,p.faa[c.fu.toNat]? with
   | some h,some q=>bif h then false else decide (q.fae=port)&&(decide (q.fp=c.fp)&&yi6 q.fa c.fa)
   | _,_=>false
theorem ya0 {α:Type} {p:α->Bool} {xs:List α}:(xs.find? p=none->zl1 p xs 0= -1)/\∀ y,xs.find? p=some y->∃ i:Nat,zl1 p xs 0=(i:Int)/\xs[i]? =some y:=by
 constructor
 ·intro h
  apply zkd
  rw [List.find?_eq_none] at h
  rw [List.any_eq_false];exact h
 ·intro y h
  obtain ⟨hp,d,t,rfl,hd⟩:=List.find?_eq_some_iff_append.1 h
  have hd':d.any p=false:=by rw [List.any_eq_false];intro x hx;have:=hd x hx;simpa using this
  refine ⟨d.length,?_,by simp⟩
  rw [zmv hd' hp];simp
theorem zlt {α:Type} {p:List α->α->Bool}:∀ {t d:List α},anyP p d t=false->∀ a x b,t=a++x::b->p (d++a) x=false
 | [],d,_,a,x,b,h=>by cases a <;> cases h
 | y::t,d,hp,a,x,b,h=>by
   simp only [anyP,Bool.or_eq_false_iff] at hp
   cases a with
   | nil=>cases h;simpa using hp.1
   | cons z a=>
     cases h
     have:=zlt hp.2 a x b rfl
     simpa using this
theorem ycj {α:Type} {p:List α->α->Bool} {xs:List α} (h:anyP p [] xs=false) {x:α} (hx:x∈xs):∃ d,p d x=false:=by
 obtain ⟨a,b,rfl⟩:=List.append_of_mem hx
 exact ⟨a,by have:=zlt h a x b rfl;simpa using this⟩
theorem zvh {t:Tm} (h:zda t=true) {p:Tb} (hp:p∈t.fi):znq p=true:=by
 unfold zda at h
 simp only [Bool.and_eq_true,Bool.not_eq_true'] at h
 obtain ⟨d,hd⟩:=ycj h.1 hp
 unfold zkp at hd
 simp only [Bool.or_eq_false_iff,Bool.not_eq_false',Bool.and_eq_true] at hd
 exact hd.1.2
theorem ydm {p:Tb} (h:znq p=true):p.fad.length=p.faa.length/\p.fw.length=p.faa.length:=by
 unfold znq at h
 simp only [Bool.and_eq_true,decide_eq_true_eq] at h
 exact ⟨h.2.2.2.2.1,h.2.2.2.2.2.1⟩
theorem yw8 (v1:Tm) (v2:Int) (v3:Td) (hv1:v1.sz<=1048576) (hv3:v3.sz<=1048576) (ht:zda v1=true) (h0:0<=v3.fu):ymp v1 v2 v3=some (zg2 v1 v2 v3):=by
 have g:=hv1
 simp only [Tm.sz] at g
 rw [ymp,ywz v1.fi v3 (by omega) hv3,Option.bind_some,show yog v1.fi v3=zl1 (fun x=>decide (x.fk=v3.fk)) v1.fi 0 from rfl]
 unfold zg2
 obtain ⟨f1,f2⟩:=ya0 (p:=fun x=>decide (x.fk=v3.fk)) (xs:=v1.fi)
 cases hf:v1.fi.find? (fun x=>decide (x.fk=v3.fk)) with
 | none=>rw [f1 hf];rfl
 | some p=>
   obtain ⟨i,hi,hp⟩:=f2 p hf
   have hm:p∈v1.fi:=List.mem_of_getElem? hp
   have hl:=ydm (zvh ht hm)
   have hsz:=zbt (f:=Tb.sz) hm
   rw [hi]
   have hd:decide ((i:Int)<0)=false:=by simp
   simp only [hd,cond_false,if_pos (Int.natCast_nonneg _),zby,hp,Option.bind_some]
   by_cases hc:((p.faa.length:Nat):Int)<=v3.fu
   ·simp [hc]
   ·have h1:v3.fu.toNat<p.fad.length:=by omega
    have h2:v3.fu.toNat<p.faa.length:=by omega
    have hq:p.faa[v3.fu.toNat].sz<=szL Te.sz p.faa:=zbt (List.getElem_mem h2)
    simp only [Tb.sz] at hsz
    have hq':p.faa[v3.fu.toNat].sz=p.faa[v3.fu.toNat].fa.sz+0:=rfl
    have hc3:v3.sz=v3.fa.sz+0:=rfl
    simp only [hc,decide_false,cond_false,if_pos h0,List.getElem?_eq_getElem h1,List.getElem?_eq_getElem h2,Option.bind_some,yrb p.faa[v3.fu.toNat].fa v3.fa (by omega) (by omega)]
    cases p.fad[v3.fu.toNat]
    ·by_cases e1:p.faa[v3.fu.toNat].fae=v2 <;> by_cases e2:p.faa[v3.fu.toNat].fp=v3.fp <;> simp [e1,e2]
    ·rfl
def waitN (t:Tm):Nat:=(t.fi.map fun p=>p.fad.countP fun h=> !h).sum
theorem yii (v1:Tm) (v2:Int) (p:Tb) (s:Int) (h0:0<=s) (h1:s+p.fad.length<=1048576):zjq v1 v2 p s=some (s+(p.fad.countP fun h=> !h:Nat)):=by
 unfold zjq
 rw [if_pos (by omega)]
 have key:∀ (body:Int->Bool->Int->Option (Int⊕Int)) (last:Int->Option Int),(∀ k x s,body k x s=(bif !x then(some (.inl (i64.wrap (s+1)))) else(some (.inl s))))->(∀ s,last s=some s)->∀ (t:List Bool) (k s:Int),0<=s->s+t.length<=1048576->zab body last t k s=some (s+(t.countP fun h=> !h:Nat)):=by
  intro body last hb hlast t
  induction t with
  | nil=>intro k s _ _;simp [zab,hlast]
  | cons x t ih=>
    intro k s h0 h1
    simp only [List.length_cons] at h1
    simp only [zab,hb]
    cases x
    ·simp only [Bool.not_false,cond_true,Option.bind_some,zah (n:=s+1) (by omega) (by omega)]
     rw [ih (k+1) (s+1) (by omega) (by omega)]
     simp [List.countP_cons];omega
    ·simp only [Bool.not_true,cond_false,Option.bind_some]
     rw [ih (k+1) s h0 (by omega)]
     simp [List.countP_cons]
 exact key _ _ (fun k x s=>rfl) (fun s=>rfl) p.fad 0 s h0 h1
theorem yka (p:Tb):(p.fad.countP fun h=> !h)<=p.sz:=by
 have:=List.countP_le_length (p:=fun h:Bool=> !h) (l:=p.fad)
 simp only [Tb.sz];omega
theorem ywj (v1:Tm) (hv1:v1.sz<=1048576):ymq v1=some (bif zda v1 then(waitN v1:Int) else 0):=by
 have g:=hv1
 simp only [Tm.sz,szL] at g
 rw [ymq,ylu v1 hv1,Option.bind_some]
 cases zda v1
 ·rfl
 simp only [Bool.not_true,cond_false,cond_true]
 unfold zrx
 rw [if_pos (by omega)]
 have key:∀ (body:Int->Tb->Int->Option (Int⊕Int)) (last:Int->Option Int),(∀ k x s,body k x s=((zjq v1 k x s).bind fun(v51:Int)=>(some (.inl v51))))->(∀ s,last s=some s)->∀ (t:List Tb) (k s:Int),0<=s->s+(t.map Tb.sz).sum<=1048576->zab body last t k s=some (s+((t.map fun p=>p.fad.countP fun h=> !h).sum:Nat)):=by
  intro body last hb hlast t
  induction t with
  | nil=>intro k s _ _;simp [zab,hlast]
  | cons x t ih=>
    intro k s h0 h1
    simp only [List.map_cons,List.sum_cons] at h1
    have hx:=yka x
    have hx2:x.fad.length<=x.sz:=by simp only [Tb.sz];omega
    simp only [zab,hb]
    rw [yii v1 k x s h0 (by omega)]
    simp only [Option.bind_some]
    rw [ih (k+1) _ (by omega) (by omega)]
    simp only [List.map_cons,List.sum_cons];congr 1;omega
 rw [key (zy4 v1) (zwj v1) (fun k x s=>rfl) (fun s=>rfl) v1.fi 0 0 (by omega) (by omega)]
 simp [waitN]
end Go.Pm
namespace Go.Pm
def zwd (c:Td):Tl:=⟨c.fk,c.fu⟩
def zp5 (fits:Td->Bool):List Td->List Tl->Option (List Tl)
 | [],seen=>some seen
 | c::t,seen=>if fits c=true/\¬ zwd c∈seen then zp5 fits t (seen ++ [zwd c]) else none
def zv3 (fits:Int->Td->Bool) (cs:Ta->List Td):List Ta->Int->List Tl->Option (List Tl)
 | [],_,seen=>some seen
 | l::t,k,seen=>if zfi l=true then(zp5 (fits k) (cs l) seen).bind fun s=>zv3 fits cs t (k+1) s else none
def yfm (fits:Td->Bool) (t:List Td) (seen:List Tl):Prop:=(∀ c∈t,fits c=true)/\(t.map zwd).Nodup/\∀ c∈t,¬ zwd c∈seen
theorem seeC_some {fits:Td->Bool}:∀ {t:List Td} {seen s:List Tl},zp5 fits t seen=some s↔yfm fits t seen/\s=seen++t.map zwd
 | [],seen,s=>by
   simp only [zp5,yfm,Option.some.injEq,List.map_nil,List.append_nil]
   exact ⟨fun h=>⟨⟨by simp,by simp,by simp⟩,h.symm⟩,fun h=>h.2.symm⟩
 | c::t,seen,s=>by
   simp only [zp5]
   split
   ·rename_i h
    rw [seeC_some]
    simp only [yfm,List.mem_cons,List.map_cons,List.nodup_cons,List.mem_append,List.mem_singleton,forall_eq_or_imp,List.mem_map]
    constructor
    ·rintro ⟨⟨h1,h2,h3⟩,rfl⟩
     refine ⟨⟨⟨h.1,h1⟩,⟨?_,h2⟩,h.2,fun x hx hs=>h3 x hx (.inl hs)⟩,by simp⟩
     rintro ⟨x,hx,e⟩
     exact h3 x hx (.inr (.inl e))
    ·rintro ⟨⟨⟨_,h1⟩,⟨h4,h2⟩,_,h3⟩,rfl⟩
     refine ⟨⟨h1,h2,fun x hx hs=> ?_⟩,by simp⟩
     rcases hs with hs|hs|hs
     ·exact h3 x hx hs
     ·exact h4 ⟨x,hx,hs⟩
     ·cases hs
   ·rename_i h
    simp only [false_iff,not_and,reduceCtorEq]
    rintro ⟨h1,h2,h3⟩
    exact absurd ⟨h1 c (by simp),h3 c (by simp)⟩ h
def zuo (f:Tg):Bool:=match zv3 (zg2 f.ft) zbu f.fq 0 [] with
 | some s=>decide (((s.length:Nat):Int)=(waitN f.ft:Int))
 | none=>false
def zft (f:Tg):Bool:=
 zw4 f.fag&&(zf0 f.fr&&(zda f.ft&&(decide (f.fq.length=6)&&(zkr f.faj&&(zkr f.fai&&(zkr f.fal&&(zkr f.fan&&zuo f)))))))
theorem zxl (l:List Tl) (x:Tl):yom l x=decide (x∈l):=by
 have h:yom l x=l.any (fun (y:Tl)=>(decide (x.fid=y.fid)&&(decide (x.fpart=y.fpart)&&true))):=ziy
 rw [h,Bool.eq_iff_iff]
 simp only [List.any_eq_true,Bool.and_eq_true,decide_eq_true_eq,and_true]
 constructor
 ·rintro ⟨y,hy,h1,h2⟩
  have:x=y:=by cases x;cases y;simp_all
  rw [this];exact hy
 ·intro hx;exact ⟨x,hx,rfl,rfl⟩
theorem zyi {l:Ta} (h:zfi l=true) {c:Td} (hc:c∈zbu l):0<=c.fu:=by
 unfold zfi at h
 simp only [Bool.and_eq_true,Bool.not_eq_true'] at h
 have key:∀ c:Td,zvc c=true->0<=c.fu:=by
  intro c h
  simp only [zvc,zei] at h
  cases zkr c.fk
  ·simp_all
  ·by_cases h0:0<=c.fu
   ·exact h0
   ·simp_all
 have hq:∀ c∈l.fh,zvc c=true:=by
  intro c hc
  have:=h.2.2.2.1
  rw [List.any_eq_false] at this
  have:=this c hc
  simpa using this
 unfold zbu at hc
 cases hb:l.fam
 ·rw [hb] at hc;exact key c (hq c hc)
 ·rw [hb] at hc
  simp only [cond_true,List.mem_append,List.mem_singleton] at hc
  rcases hc with hc|rfl
  ·exact key c (hq c hc)
  ·have:=h.2.2.2.2
   rw [hb] at this
   simp only [Bool.not_true,cond_false,Bool.and_eq_true] at this
   exact key _ this.1
theorem yk1 (f:Tg) (hf:f.ft.sz<=1048576) (ht:zda f.ft=true) (port:Int) (l:Ta) (cs:List Td) (hp:∀ c∈cs,0<=c.fu/\c.sz<=1048576) (hl:cs.length<=1048576) (seen:List Tl) (hs:seen.length+cs.length<=1048576):
 (zp5 (zg2 f.ft port) cs seen=none/\∃ j,zk1 f port l cs seen=some (.inl j))\/(∃ s,zp5 (zg2 f.ft port) cs seen=some s/\zk1 f port l cs seen=some (.inr s)):=by
 unfold zk1
 rw [if_pos (by omega)]
 have key:∀ (body) (last),(∀ k x s,body k x s=(zrg f port l cs k x s))->(∀ s,last s=zxj f port l cs s)->∀ (t d:List Td) (seen:List Tl),d++t=cs->seen.length+t.length<=1048576->
  (zp5 (zg2 f.ft port) t seen=none/\∃ j,zab body last t ((d.length:Nat):Int) seen=some (.inl j))\/(∃ s,zp5 (zg2 f.ft port) t seen=some s/\zab body last t ((d.length:Nat):Int) seen=some (.inr s)):=by
  intro body last hb hlast t
  induction t with
  | nil=>intro d seen _ _;exact .inr ⟨seen,rfl,by simp only [zab,hlast];rfl⟩
  | cons x t ih=>
    intro d seen he hs
    have hlt:=zuy he
    have hx:=hp x (zju he)
    simp only [List.length_cons] at hs
    simp only [zab,hb,zrg,List.length_map,Nat.sub_zero]
    rw [if_pos (by omega),yw8 f.ft port x hf hx.2 ht hx.1]
    simp only [Option.bind_some,zp5]
    cases hfit:zg2 f.ft port x
    ·exact .inl ⟨by simp,_,rfl⟩
    ·simp only [Bool.not_true,cond_false]
     rw [ywk seen ⟨x.fk,x.fu⟩ (by omega)]
     simp only [Option.bind_some,zxl]
     by_cases hm:zwd x∈seen
     ·have hm':decide ((⟨x.fk,x.fu⟩:Tl)∈seen)=true:=by simpa [zwd] using hm
      simp only [hm',cond_true]
      exact .inl ⟨by simp [hm],_,rfl⟩
     ·have hm':decide ((⟨x.fk,x.fu⟩:Tl)∈seen)=false:=by simpa [zwd] using hm
      simp only [hm',cond_false,List.length_map,List.length_singleton]
      rw [if_pos (show (seen.length+1) * 16<=70368744177664 by omega)]
      have:=ih (d ++ [x]) (seen ++ [zwd x]) (by simpa using he) (by simp;omega)
      simp only [Option.bind_some]
      rw [if_pos ⟨trivial,hm⟩]
      simpa [zwd] using this
 exact key _ _ (fun _ _ _=>rfl) (fun _=>rfl) cs [] seen rfl hs
theorem yld (f:Tg) (hf:f.sz<=1048576) (ht:zda f.ft=true) (h6:f.fq.length=6):
 (zv3 (zg2 f.ft) zbu f.fq 0 []=none/\((∃ j,zhh f []=some (.inl j))\/∃ j,zhh f []=some (.inr (.inl j))))\/(∃ s,zv3 (zg2 f.ft) zbu f.fq 0 []=some s/\zhh f []=some (.inr (.inr s))):=by
 simp only [Tg.sz,szL] at hf
 unfold zhh
 rw [if_pos (by omega)]
 have key:∀ (body) (last),(∀ k x s,body k x s=(zr2 f k x s))->(∀ s,last s=zy3 f s)->∀ (t d:List Ta) (seen:List Tl),d++t=f.fq->seen.length+(t.map Ta.sz).sum+t.length<=1048576->
  (zv3 (zg2 f.ft) zbu t ((d.length:Nat):Int) seen=none/\((∃ j,zab body last t ((d.length:Nat):Int) seen=some (.inl j))\/∃ j,zab body last t ((d.length:Nat):Int) seen=some (.inr (.inl j))))\/(∃ s,zv3 (zg2 f.ft) zbu t ((d.length:Nat):Int) seen=some s/\zab body last t ((d.length:Nat):Int) seen=some (.inr (.inr s))):=by
  intro body last hb hlast t
  induction t with
  | nil=>intro d seen _ _;exact .inr ⟨seen,rfl,by simp only [zab,hlast];rfl⟩
  | cons x t ih=>
    intro d seen he hs
    have hx:=zbt (f:=Ta.sz) (zju he)
    simp only [szL] at hx
    simp only [List.length_cons,List.map_cons,List.sum_cons] at hs
    have hq:=zcq (f:=Td.sz) (xs:=x.fh)
    have hcl:=(zxq x).1
    have hxs:x.sz=szL Td.sz x.fh+(x.fc.sz+0):=rfl
    simp only [zab,hb,zr2,zv3,yzb x (by omega),Option.bind_some]
    cases hlb:zfi x
    ·exact .inl ⟨by simp,.inl ⟨_,rfl⟩⟩
    ·simp only [Bool.not_true,cond_false,if_true,ynu x (by omega),Option.bind_some]
     rcases yk1 f (by omega) ht ((d.length:Nat):Int) x (zbu x) (fun c hc=>⟨zyi hlb hc,by have:=yce x hc;omega⟩) (by omega) seen (by omega) with ⟨h1,j,h2⟩|⟨s,h1,h2⟩
     ·rw [h1,h2];exact .inl ⟨rfl,.inr ⟨_,rfl⟩⟩
     ·rw [h1,h2]
      simp only [Option.bind_some,ze8]
      have hsl:s.length=seen.length+(zbu x).length:=by
       obtain ⟨_,rfl⟩:=seeC_some.1 h1;simp
      have:=ih (d ++ [x]) s (by simpa using he) (by omega)
      simpa using this
 exact key _ _ (fun _ _ _=>rfl) (fun _=>rfl) f.fq [] [] rfl (by simp;omega)
theorem ylv (v1:Tg) (hv1:v1.sz<=1048576):yjb v1=some (zft v1):=by
 have g:=hv1
 simp only [Tg.sz] at g
 rw [yjb]
 simp only [yfa,yrw v1.fr (by omega),ylu v1.ft (by omega),yjq,ywj v1.ft (by omega),Option.bind_some]
 unfold zft
 cases zw4 v1.fag
 ·rfl
 cases zf0 v1.fr
 ·rfl
 cases ht:zda v1.ft
 ·rfl
 by_cases h6:v1.fq.length=6
 rotate_left
 ·have:¬((v1.fq.length:Nat):Int)=6:=by omega
  simp [h6,this]
 simp only [h6,Bool.not_true,cond_false,show decide (((6:Nat):Int)≠6)=false from rfl,decide_true,Bool.true_and,cond_true]
 cases zkr v1.faj
 ·rfl
 cases zkr v1.fai
 ·rfl
 cases zkr v1.fal
 ·rfl
 cases zkr v1.fan
 ·rfl
 simp only [Bool.not_true,cond_false,Bool.true_and]
 unfold zuo
 rcases yld v1 hv1 ht h6 with ⟨h1,⟨j,h2⟩|⟨j,h2⟩⟩|⟨s,h1,h2⟩ <;> rw [h1,h2] <;> rfl
end Go.Pm
namespace Go.Pm
theorem zxi {α:Type} {body:Int->α->List α->Option (List α⊕List α)} {last:List α->Option (List α)} (xs:List α) (hlast:∀ s,last s=some s) (hl:xs.length<=1048576)
 (hb:∀ k x (s:List α),x∈xs->s.length<=1048576->body k x s=some (.inl (s ++ [x]))):zab body last xs 0 []=some xs:=by
 have key:∀ (t d:List α) (k:Int),d++t=xs->zab body last t k d=some xs:=by
  intro t
  induction t with
  | nil=>intro d k h;rw [zab,hlast,<- h,List.append_nil]
  | cons x t ih=>
    intro d k h
    rw [zab,hb k x d (by rw [<- h];simp) (by rw [<- h] at hl;simp at hl;omega)]
    exact ih (d ++ [x]) (k+1) (by rw [<- h];simp)
 exact key xs [] 0 rfl
theorem yh9 (v1:Ti) (h:v1.sz<=1048576):zw9 v1=some v1:=by
 simp only [Ti.sz] at h
 unfold zw9
 simp (disch:=first|omega|(simp only [List.length_nil,List.length_map,List.length_cons,List.length_singleton,Nat.zero_add];omega)) only [Option.bind_some,if_pos]
theorem yr3 (v1:Tc) (h:v1.sz<=1048576):yjl v1=some v1:=by
 simp only [Tc.sz] at h
 unfold yjl
 simp (disch:=first|omega|(simp only [List.length_nil,List.length_map,List.length_cons,List.length_singleton,Nat.zero_add];omega)) only [Option.bind_some,if_pos]
theorem qav (v1:Te) (h:v1.sz<=1048576):ymy v1=some v1:=by
 simp only [Te.sz] at h
 unfold ymy
 simp (disch:=first|omega|(simp only [List.length_nil,List.length_map,List.length_cons,List.length_singleton,Nat.zero_add];omega)) only [yh9,Option.bind_some,if_pos]
theorem ys7 (v1:List Te) (h:szL Te.sz v1<=1048576):ykd v1=some v1:=by
 have hl:=zcq (f:=Te.sz) (xs:=v1)
 have e:=zxi (body:=zrh v1) (last:=yby v1) v1 (fun _=>rfl) (by omega) (fun k x s hx hs=>by
  have hxs:=zbt (f:=Te.sz) hx
  have hxz:x.sz<=1048576:=by omega
  simp only [Te.sz] at hxs
  rw [zrh]
  simp (disch:=first|omega|(simp only [List.length_nil,List.length_map,List.length_cons,List.length_singleton,Nat.zero_add];omega)) only [qav,Option.bind_some,if_pos])
 unfold ykd zsy
 rw [if_pos (by omega),e]
 rfl
theorem yxz (v1:List Tc) (h:szL Tc.sz v1<=1048576):ymw v1=some v1:=by
 have hl:=zcq (f:=Tc.sz) (xs:=v1)
 have e:=zxi (body:=zt9 v1) (last:=zyh v1) v1 (fun _=>rfl) (by omega) (fun k x s hx hs=>by
  have hxs:=zbt (f:=Tc.sz) hx
  have hxz:x.sz<=1048576:=by omega
  simp only [Tc.sz] at hxs
  rw [zt9]
  simp (disch:=first|omega|(simp only [List.length_nil,List.length_map,List.length_cons,List.length_singleton,Nat.zero_add];omega)) only [yr3,Option.bind_some,if_pos])
 unfold ymw zry
 rw [if_pos (by omega),e]
 rfl
theorem yoa (v1:Tm) (h:v1.sz<=1048576):ygh v1=some v1:=by
 simp only [Tm.sz] at h
 have hl:=zcq (f:=Tb.sz) (xs:=v1.fi)
 have e:=zxi (body:=zt5 v1) (last:=zx0 v1) v1.fi (fun _=>rfl) (by omega) (fun k x s hx hs=>by
  have hxs:=zbt (f:=Tb.sz) hx
  have hxz:x.sz<=1048576:=by omega
  simp only [Tb.sz] at hxs
  rw [zt5]
  simp (disch:=first|omega|(simp only [List.length_nil,List.length_map,List.length_cons,List.length_singleton,Nat.zero_add];omega)) only [yh9,ys7,yxz,Option.bind_some,if_pos])
 have e2:znt v1 []=some v1.fi:=by
  unfold znt
  rw [if_pos (by omega),e]
 unfold ygh
 simp (disch:=first|omega|(simp only [List.length_nil,List.length_map,List.length_cons,List.length_singleton,Nat.zero_add];omega)) only [e2,Option.bind_some,if_pos]
theorem yv4 (v1:Td) (h:v1.sz<=1048576):ykp v1=some v1:=by
 simp only [Td.sz] at h
 unfold ykp
 simp (disch:=first|omega|(simp only [List.length_nil,List.length_map,List.length_cons,List.length_singleton,Nat.zero_add];omega)) only [yh9,Option.bind_some,if_pos]
theorem yja (v1:Ta) (h:v1.sz<=1048576):yk6 v1=some v1:=by
 simp only [Ta.sz] at h
 have hl:=zcq (f:=Td.sz) (xs:=v1.fh)
 have e:=zxi (body:=zsj v1 v1.fc) (last:=zxb v1 v1.fc) v1.fh (fun _=>rfl) (by omega) (fun k x s hx hs=>by
  have hxs:=zbt (f:=Td.sz) hx
  have hxz:x.sz<=1048576:=by omega
  simp only [Td.sz] at hxs
  rw [zsj]
  simp (disch:=first|omega|(simp only [List.length_nil,List.length_map,List.length_cons,List.length_singleton,Nat.zero_add];omega)) only [yv4,Option.bind_some,if_pos])
 have e2:zm3 v1 v1.fc []=some v1.fh:=by
  unfold zm3
  rw [if_pos (by omega),e]
 unfold yk6
 simp (disch:=first|omega|(simp only [List.length_nil,List.length_map,List.length_cons,List.length_singleton,Nat.zero_add];omega)) only [yv4,e2,Option.bind_some,if_pos]
theorem yr2 (v1:Tp) (h:v1.sz<=1048576):ykw v1=some v1:=by
 simp only [Tp.sz] at h
 unfold ykw
 simp (disch:=first|omega|(simp only [List.length_nil,List.length_map,List.length_cons,List.length_singleton,Nat.zero_add];omega)) only [Option.bind_some,if_pos]
theorem yo0 (v1:Tg) (h:v1.sz<=1048576):yl8 v1=some v1:=by
 simp only [Tg.sz] at h
 have hl:=zcq (f:=Ta.sz) (xs:=v1.fq)
 have e:=zxi (body:=zr6 v1 v1.fr v1.ft) (last:=yai v1 v1.fr v1.ft) v1.fq (fun _=>rfl) (by omega) (fun k x s hx hs=>by
  have hxs:=zbt (f:=Ta.sz) hx
  have hxz:x.sz<=1048576:=by omega
  simp only [Ta.sz] at hxs
  rw [zr6]
  simp (disch:=first|omega|(simp only [List.length_nil,List.length_map,List.length_cons,List.length_singleton,Nat.zero_add];omega)) only [yja,Option.bind_some,if_pos])
 have e2:znp v1 v1.fr v1.ft []=some v1.fq:=by
  unfold znp
  rw [if_pos (by omega),e]
 unfold yl8
 simp (disch:=first|omega|(simp only [List.length_nil,List.length_map,List.length_cons,List.length_singleton,Nat.zero_add];omega)) only [yr2,yoa,e2,Option.bind_some,if_pos]
end Go.Pm
namespace Go.Pm
def ypb (v1:Int) (v2:Int):Ta:=(let v3:=zrz v1 v2;(bif !v3 then(⟨[],false,⟨0,0,0,⟨0,0,0,[],[],0⟩⟩,0,0,0,0,0,0⟩:Ta) else(⟨[],false,⟨0,0,0,⟨0,0,0,[],[],0⟩⟩,0,0,0,0,v1,v2⟩:Ta)))
theorem yw5 (v1:Int) (v2:Int)  :yme v1 v2=some (ypb v1 v2):=by
 rw [yme];first|rfl|(simp only [ynv v1 v2,Option.bind_some,za7];rfl)
def yo3 (v1:Int) (v2:Int):Int:=if(IntKind.i64.wrap (v1+v2))<1000000000 then(IntKind.i64.wrap (v1+v2)) else 1000000000
theorem yqp (v1:Int) (v2:Int)  :zwe v1 v2=some (yo3 v1 v2):=by
 rw [zwe];first|rfl|(simp only [Option.bind_some,za7];rfl)
def ytz (v1:Int) (v2:Int):Int:=(let v3:=zw4 v1;(bif !v3 then 0 else(let v6:=zw4 v2;(bif !v6 then 0 else(IntKind.i64.wrap (v1+v2)).tmod 4294967296))))
theorem qa8 (v1:Int) (v2:Int)  :yc4 v1 v2=some (ytz v1 v2):=by
 rw [yc4];first|rfl|(simp only [yfa v1,yfa v2,Option.bind_some,za7];rfl)
def yov (v1:Int) (v2:Int):Int:=(let v3:=zw4 v1;(bif !v3 then 0 else(let v6:=zw4 v2;(bif !v6 then 0 else(IntKind.i64.wrap ((IntKind.i64.wrap ((IntKind.i64.wrap (v2 - v1))+4294967295))+1)).tmod 4294967296))))
theorem ywl (v1:Int) (v2:Int)  :yni v1 v2=some (yov v1 v2):=by
 rw [yni];first|rfl|(simp only [yfa v1,yfa v2,Option.bind_some,za7];rfl)
def ys4 (v1:Int) (v2:Int):Bool:=(let v3:=zw4 v1;(bif v3 then(let v6:=zw4 v2;(bif v6 then(let v9:=yov v2 v1;decide (v9<2147483648)) else false)) else false))
theorem yzl (v1:Int) (v2:Int)  :ykt v1 v2=some (ys4 v1 v2):=by
 rw [ykt];first|rfl|(simp only [yfa v1,yfa v2,ywl v2 v1,Option.bind_some,za7];rfl)
def yt7 (v1:Ti) (v2:Int):Tc:=(let v3:=zkq v1;(bif !v3 then(⟨0,0,0,0,[],[]⟩:Tc) else(let v6:=zei v2 1 255;(bif !v6 then(⟨0,0,0,0,[],[]⟩:Tc) else(⟨v1.ff,v2,0,0,[],[]⟩:Tc)))))
theorem yym (v1:Ti) (v2:Int) (hv1:v1.sz<=1048576):zxn v1 v2=some (yt7 v1 v2):=by
 rw [zxn];first|rfl|(simp only [yeb v1 hv1,zov v2 1 255,Option.bind_some,za7];rfl)
def ylg (v1:Int) (v2:Int) (v3:Ti):Bool:=(let v4:=zkr v1;(bif v4 then(let v7:=zkr v2;(bif v7 then(let v10:=zkq v3;v10) else false)) else false))
theorem yv5 (v1:Int) (v2:Int) (v3:Ti) (hv3:v3.sz<=1048576):yn9 v1 v2 v3=some (ylg v1 v2 v3):=by
 rw [yn9];first|rfl|(simp only [yjq v1,yjq v2,yeb v3 hv3,Option.bind_some,za7];rfl)
def yq3 (v1:Tf) (v2:Int):Bool:=decide (v1.fp=v2)
theorem yzz (v1:Tf) (v2:Int)  :ylt v1 v2=some (yq3 v1 v2):=by
 rw [ylt];first|rfl|(simp only [Option.bind_some,za7];rfl)
def yty (v1:Tf) (v2:Int) (v3:Int) (v4:Int):Bool:=(bif decide (v1.fp=v2) then(bif decide (v1.fay=v3) then(let v7:=zei v4 v1.fav v1.fat;v7) else false) else false)
theorem ywg (v1:Tf) (v2:Int) (v3:Int) (v4:Int)  :yn2 v1 v2 v3 v4=some (yty v1 v2 v3 v4):=by
 rw [yn2];first|rfl|(simp only [zov v4 v1.fav v1.fat,Option.bind_some,za7];rfl)
def yu3 (v1:Ti):Int×Int×Int:=(let v2:=zkq v1;(bif !v2 then((-1),0,0) else(bif decide (v1.fN=0) then(let v6:=yer v1;(bif decide (v1.ff=1) then(0,v1.fd,v6) else(bif decide (v1.ff=5) then(0,v1.fd,v6) else(bif decide (v1.ff=15) then(0,v1.fd,v6) else(bif decide (v1.ff=2) then(1,v1.fd,v6) else(bif decide (v1.ff=4) then(3,v1.fd,v6) else(2,v1.fd,v6))))))) else(bif decide (v1.ff=1) then(0,v1.fd,v1.fN) else(bif decide (v1.ff=5) then(0,v1.fd,v1.fN) else(bif decide (v1.ff=15) then(0,v1.fd,v1.fN) else(bif decide (v1.ff=2) then(1,v1.fd,v1.fN) else(bif decide (v1.ff=4) then(3,v1.fd,v1.fN) else(2,v1.fd,v1.fN)))))))))
theorem yyo (v1:Ti) (hv1:v1.sz<=1048576):yky v1=some (yu3 v1):=by
 rw [yky];first|rfl|(simp only [yeb v1 hv1,ymf v1 hv1,Option.bind_some,za7];rfl)
end Go.Pm
namespace Go.Pm
def zc:Td:=⟨0,0,0,⟨0,0,0,[],[],0⟩⟩
def zr:Tc:=⟨0,0,0,0,[],[]⟩
def qq (A N:Int):Ti:=⟨3,A,N,[],[],0⟩
def pt (p:Nat) (q:Ti):Te:=⟨p,9,q⟩
def pd (p:Nat) (q:Ti) (g:Nat->Int) (i:Nat):Tb:=⟨i,0,g i,1,q,[pt p q],[false],[zr]⟩
def cl (q:Ti) (i:Nat):Td:=⟨i,0,9,q⟩
def rl (p:Nat):Tf:=⟨1,2,0,99,p,9,0⟩
def zkt (w:Int):Ta:=⟨[],false,zc,0,0,0,0,w,0⟩
def tbq (p:Nat) (q:Ti) (g:Nat->Int) (j m:Nat):Tm:=⟨((j+m:Nat):Int),(List.range' j m).map (pd p q g)⟩
def six (p:Nat) (w:Int) (l:Ta):List Ta:=(List.replicate 6 (zkt w)).set p l
def fb (p:Nat) (w now:Int) (t:Tm) (l:Ta) (a r f s:Int):Tg:=⟨now,⟨w,0,[rl p]⟩,t,six p w l,a,r,f,s⟩
theorem zcr {x a b:Int} (h1:a<=x) (h2:x<=b):zei x a b=true:=by simp [zei,h1,h2]
theorem zcu {x:Int} (h1:0<=x) (h2:x<=1000000000):zkr x=true:=zcr h1 h2
theorem zh7 {x:Int} (h1:0<=x) (h2:x<=1000):zw4 x=true:=zcr h1 (by omega)
theorem yf3 {A N:Int} (h1:0<=A) (h2:A<=49) (h3:1<=N) (h4:N<=9):zkq (qq A N)=true:=by
 have e:IntKind.i64.wrap (A+N)=A+N:=zah (by omega) (by omega)
 simp [zkq,qq,ygu,zhy,zh1,ymb,yer,e,zcr (show (0:Int)<=A by omega) (show A<=65535 by omega),zcr (show (1:Int)<=N by omega) (show N<=125 by omega),zcr (show (0:Int)<=0 by omega) (show (0:Int)<=65535 by omega),show IntKind.i64.wrap 0=0 from rfl]
 exact ⟨rfl,rfl,by omega,by rw [zah (by omega) (by omega)];omega⟩
theorem yax {α:Type} {p:List α->α->Bool}:∀ {t d:List α},(∀ a x b,t=a++x::b->p (d++a) x=false)->anyP p d t=false
 | [],d,_=>rfl
 | y::t,d,h=>by
   simp only [anyP,Bool.or_eq_false_iff]
   exact ⟨by simpa using h [] y t rfl,yax fun a x b e=>by have:=h (y::a) x b (by rw [e];rfl);simpa using this⟩
theorem ygt {p:Nat} {q:Ti} {g:Nat->Int} {i:Nat} (hp:p<6) (hq:zkq q=true) (hg:0<=g i/\g i<=1000000000):znq (pd p q g i)=true:=by
 have hs:ym9 zr ⟨0,0,0,0,[],[]⟩=true:=by rfl
 have e1:ylq (p:Int)=true:=zcr (by omega) (by omega)
 simp [znq,pd,pt,hq,zcu hg.1 hg.2,zcu (show (0:Int)<=0 by omega) (by omega),anyP,zjf,yng,e1,hs,ydy,zei]
theorem zre {α:Type} {j m:Nat} {f:Nat->α} {a b:List α} {x:α} (h:(List.range' j m).map f=a++x::b):x=f (j+a.length)/\a.length<m/\a=(List.range' j a.length).map f:=by
 have hl:a.length<m:=by have:=congrArg List.length h;simp at this;omega
 have hx:((List.range' j m).map f)[a.length]? =some x:=by rw [h];simp
 simp only [List.getElem?_map,List.getElem?_range' hl,Option.map_some,Option.some.injEq] at hx
 refine ⟨by rw [<- hx];simp,hl,?_⟩
 have:=congrArg (List.take a.length) h
 rw [List.take_left,<- List.map_take] at this
 refine this.symm.trans ?_;congr 1
 apply List.ext_getElem?;intro i
 by_cases hi:i<a.length
 ·simp [List.getElem?_take,hi,List.getElem?_range' (show i<m by omega),List.getElem?_range' hi]
 ·simp [List.getElem?_take,hi]
theorem zmy {p:Nat} {q:Ti} {g:Nat->Int} {j m:Nat} (hp:p<6) (hq:zkq q=true) (hg:∀ i,i<j+m->0<=g i/\g i<=1000000000) (hm:m<=16) (hj:j<=16):zda (tbq p q g j m)=true:=by
 have e1:zkr ((j+m:Nat):Int)=true:=zcu (by omega) (by omega)
 unfold zda
 have e2:anyP (zkp (tbq p q g j m)) [] (tbq p q g j m).fi=false:=by
  refine yax fun a x b h=> ?_
  obtain ⟨rfl,hl,ha⟩:=zre (show (List.range' j m).map (pd p q g)=a++x::b from h)
  simp only [List.nil_append,zkp,ygt hp hq (hg _ (show j+a.length<j+m by omega))]
  have e3:zhm (tbq p q g j m).fi a (pd p q g (j+a.length))=false:=by
   unfold zhm
   cases hn:a.length with
   | zero=>rfl
   | succ n=>
     have:(tbq p q g j m).fi[n]? =some (pd p q g (j+n)):=by
      simp only [tbq,List.getElem?_map,List.getElem?_range' (show n<m by omega),Option.map_some];simp
     simp [this,pd];omega
  rw [e3]
  have e4:¬((j+m:Nat):Int)<=((j+a.length:Nat):Int):=by omega
  have e5:(0:Int)<=((j+a.length:Nat):Int):=by omega
  simp only [pd,tbq,e4,e5,decide_true,decide_false,Bool.and_self,Bool.not_true,Bool.or_self]
 rw [e2]
 simp only [tbq,e1,Bool.not_false,Bool.true_and,List.length_map,List.length_range']
 simp;omega
theorem zyz {p:Nat} {q:Ti} {g:Nat->Int} {i:Nat}:∀ (m j:Nat),j<=i->i<j+m->((List.range' j m).map (pd p q g)).find? (fun x=>decide (x.fk=(i:Int)))=some (pd p q g i)
 | 0,j,h1,h2=>by omega
 | m+1,j,h1,h2=>by
   rw [List.range'_succ,List.map_cons,List.find?_cons]
   by_cases e:j=i
   ·subst e;simp [pd]
   ·have:decide ((pd p q g j).fk=(i:Int))=false:=by
     have:¬((j:Nat):Int)=(i:Int):=by omega
     simp only [pd,this,decide_false]
    rw [this]
    exact zyz m (j+1) (by omega) (by omega)
theorem zwi (q:Ti):yi6 q q=true:=by simp [yi6,eqI,eqB]
theorem yhk {p:Nat} {q:Ti} {g:Nat->Int} {i j m:Nat} (h1:j<=i) (h2:i<j+m):zg2 (tbq p q g j m) p (cl q i)=true:=by
 unfold zg2
 have:(tbq p q g j m).fi.find? (fun x=>decide (x.fk=(cl q i).fk))=some (pd p q g i):=zyz m j h1 h2
 rw [this]
 simp [pd,cl,pt,zwi]
theorem ydi {fits:Int->Td->Bool} {p:Nat} {w:Int} {l:Ta} {s:List Tl} (hp:p<6) (hi:zfi (zkt w)=true) (hl:zfi l=true) (hs:zp5 (fits p) (zbu l) []=some s):zv3 fits zbu (six p w l) 0 []=some s:=by
 have e:zbu (zkt w)=[]:=rfl
 match p,hp with
 | 0,_=>simp [six,List.replicate,zv3,hi,hl,e,zp5];exact hs
 | 1,_=>simp [six,List.replicate,zv3,hi,hl,e,zp5];exact hs
 | 2,_=>simp [six,List.replicate,zv3,hi,hl,e,zp5];exact hs
 | 3,_=>simp [six,List.replicate,zv3,hi,hl,e,zp5];exact hs
 | 4,_=>simp [six,List.replicate,zv3,hi,hl,e,zp5];exact hs
 | 5,_=>simp [six,List.replicate,zv3,hi,hl,e,zp5];exact hs
theorem ygj {p:Nat} {q:Ti} {g:Nat->Int} {j m:Nat}:waitN (tbq p q g j m)=m:=by
 unfold waitN
 have:∀ l:List Nat,((l.map (pd p q g)).map fun p=>p.fad.countP fun h=> !h).sum=l.length:=by
  intro l
  induction l with
  | nil=>rfl
  | cons x l ih=>simp only [List.map_cons,List.sum_cons,ih,List.length_cons,pd];simp;omega
 simp only [tbq]
 rw [this];simp
structure Par (p:Nat) (w:Int) (q:Ti) (g:Nat->Int):Prop where
 hp:p<6
 hw:1<=w/\w<=3
 hq:zkq q=true
 hg:∀ i,i<=32->0<=g i/\g i<=1000000000
 hs:q.sz=0
 hi:zfi (zkt w)=true
theorem yaa {w:Int} (h:1<=w/\w<=3):zfi (zkt w)=true:=by
 simp [zfi,zkt,zrz,zcr (show (1:Int)<=w by omega) (show w<=100 by omega),zcr (show (0:Int)<=0 by omega) (show (0:Int)<=5 by omega),zh1,zcr (show (0:Int)<=0 by omega) (show (0:Int)<=65535 by omega),yjn,zc,yi6,eqI,eqB]
theorem zm7 {p:Nat} (hp:p<6):zpr [rl p]=true:=by
 have e:yk9 (rl p)=true:=by simp [yk9,rl,ydy,zh1,ylq,zcr (show (0:Int)<=p by omega) (show (p:Int)<=5 by omega)];simp [zei,show IntKind.i64.wrap 0=0 from rfl,show IntKind.i64.wrap 99=99 from rfl]
 simp [zpr,anyP,zho,e]
theorem ye9 {p:Nat} {w:Int} {q:Ti} {g:Nat->Int} (P:Par p w q g) {now a r f s:Int} {j m:Nat} {l:Ta} {ids:List Nat} (hn:0<=now/\now<=1000) (ha:0<=a/\a<=1000) (hr:0<=r/\r<=1000) (hf:0<=f/\f<=1000) (hs:0<=s/\s<=1000)
 (hm:m<=16) (hj:j<=16) (hl:zfi l=true) (hc:zbu l=ids.map (cl q)) (h1:ids.Nodup) (h2:∀ i∈ids,j<=i/\i<j+m) (h3:ids.length=m):zft (fb p w now (tbq p q g j m) l a r f s)=true:=by
 have e1:zw4 now=true:=zh7 hn.1 hn.2
 have e2:zf0 ⟨w,0,[rl p]⟩=true:=by
  have:=P.hw
  simp [zf0,zrz,zm7 P.hp,zcr (show (1:Int)<=w by omega) (show w<=100 by omega),zcr (show (0:Int)<=0 by omega) (show (0:Int)<=5 by omega)]
 have e3:zda (tbq p q g j m)=true:=zmy P.hp P.hq (fun i hi=>P.hg i (by omega)) hm hj
 have ec:∀ x:Int,0<=x/\x<=1000->zkr x=true:=fun x h=>zcu h.1 (by omega)
 have e4:(six p w l).length=6:=by simp [six]
 have e5:zuo (fb p w now (tbq p q g j m) l a r f s)=true:=by
  have hsee:zp5 (zg2 (tbq p q g j m) p) (zbu l) []=some ([]++(zbu l).map zwd):=by
   refine seeC_some.2 ⟨⟨fun c hc'=> ?_,?_,fun c _ h=>by cases h⟩,rfl⟩
   ·rw [hc] at hc'
    obtain ⟨i,hi,rfl⟩:=List.mem_map.1 hc'
    exact yhk (h2 i hi).1 (h2 i hi).2
   ·rw [hc,List.map_map]
    refine List.Pairwise.map _ (fun x y hne e=>hne ?_) h1
    have:(x:Int)=(y:Int):=by simpa [zwd,cl] using e
    omega
  unfold zuo
  rw [show (fb p w now (tbq p q g j m) l a r f s).fq=six p w l from rfl,show (fb p w now (tbq p q g j m) l a r f s).ft=tbq p q g j m from rfl,ydi P.hp P.hi hl hsee,ygj]
  simp [hc,h3]
 unfold zft
 simp [e5,show (fb p w now (tbq p q g j m) l a r f s).fag=now from rfl,e1,show (fb p w now (tbq p q g j m) l a r f s).fr=⟨w,0,[rl p]⟩ from rfl,e2,show (fb p w now (tbq p q g j m) l a r f s).ft=tbq p q g j m from rfl,e3,
  show (fb p w now (tbq p q g j m) l a r f s).fq=six p w l from rfl,e4,show (fb p w now (tbq p q g j m) l a r f s).faj=a from rfl,show (fb p w now (tbq p q g j m) l a r f s).fai=r from rfl,show (fb p w now (tbq p q g j m) l a r f s).fal=f from rfl,
  show (fb p w now (tbq p q g j m) l a r f s).fan=s from rfl,ec a ha,ec r hr,ec f hf,ec s hs]
end Go.Pm
namespace Go.Pm
set_option maxRecDepth 100000
theorem yp0 {p:Nat} {q:Ti} {g:Nat->Int} (hq:q.sz=0) (i:Nat):(pd p q g i).sz=3:=by
 simp only [Tb.sz,pd,szL,List.length_cons,List.length_nil,List.map_cons,List.map_nil,List.sum_cons,List.sum_nil,Te.sz,pt,hq,Tc.sz,zr]
 rfl
theorem zjo {p:Nat} {q:Ti} {g:Nat->Int} (hq:q.sz=0) (j m:Nat):(tbq p q g j m).sz=4 * m:=by
 have:∀ l:List Nat,((l.map (pd p q g)).map Tb.sz).sum=3 * l.length:=by
  intro l
  induction l with
  | nil=>rfl
  | cons x l ih=>simp only [List.map_cons,List.sum_cons,ih,yp0 hq,List.length_cons];omega
 simp only [Tm.sz,tbq,szL,this,List.length_map,List.length_range'];omega
theorem yl5 {q:Ti} (hq:q.sz=0) (i:Nat):(cl q i).sz=0:=by simp only [Td.sz,cl,hq]
theorem ydw {q:Ti} (hq:q.sz=0) (l:List Nat):szL Td.sz (l.map (cl q))=l.length:=by
 have:∀ l:List Nat,((l.map (cl q)).map Td.sz).sum=0:=by
  intro l
  induction l with
  | nil=>rfl
  | cons x l ih=>simp only [List.map_cons,List.sum_cons,ih,yl5 hq]
 simp only [szL,this,List.length_map];omega
theorem ylo {p:Nat} {w:Int} {l:Ta} (hp:p<6):szL Ta.sz (six p w l)=6+l.sz:=by
 have e:(zkt w).sz=0:=rfl
 match p,hp with
 | 0,_=>simp [six,List.replicate,szL,e]
 | 1,_=>simp [six,List.replicate,szL,e]
 | 2,_=>simp [six,List.replicate,szL,e]
 | 3,_=>simp [six,List.replicate,szL,e]
 | 4,_=>simp [six,List.replicate,szL,e]
 | 5,_=>simp [six,List.replicate,szL,e]
theorem ztg {p:Nat} {w:Int} {l:Ta} (hp:p<6):(six p w l)[p]? =some l:=by
 simp [six,List.getElem?_set,hp]
theorem zxf {p:Nat} {w:Int} {l l':Ta}:(six p w l).set p l'=six p w l':=by simp [six,List.set_set]
theorem zj6 {p:Nat} {w:Int} {l:Ta}:(six p w l).length=6:=by simp [six]
theorem zpo {p:Nat} {w now:Int} {t:Tm} {l:Ta} {a r f s:Int} (hp:p<6):(fb p w now t l a r f s).sz=7+t.sz+l.sz:=by
 have e:(fb p w now t l a r f s).sz=(1+0)+(t.sz+(szL Ta.sz (six p w l)+0)):=rfl
 rw [e,ylo hp];omega
def lN (q:Ti) (w:Int) (j n:Nat):Ta:=⟨(List.range' j n).map (cl q),false,zc,0,0,0,j,w,0⟩
def lBq (q:Ti) (w:Int) (j n:Nat) (due:Int):Ta:=⟨(List.range' (j+1) n).map (cl q),true,cl q j,j,due,0,(j+1:Nat),w,0⟩
theorem zpa {q:Ti} {w:Int} {j n:Nat} (hq:q.sz=0):(lN q w j n).sz=n:=by
 have e:(lN q w j n).sz=szL Td.sz ((List.range' j n).map (cl q))+0:=rfl
 rw [e,ydw hq];simp
theorem zlb {q:Ti} {w:Int} {j n:Nat} {due:Int} (hq:q.sz=0):(lBq q w j n due).sz=n:=by
 have e:(lBq q w j n due).sz=szL Td.sz ((List.range' (j+1) n).map (cl q))+((cl q j).sz+0):=rfl
 rw [e,ydw hq,yl5 hq];simp
theorem yb1 {q:Ti} (hq:zkq q=true) {i:Nat} (hi:i<=32):zvc (cl q i)=true:=by
 simp [zvc,cl,hq,zcu (show (0:Int)<=i by omega) (show (i:Int)<=1000000000 by omega),ydy,zei]
theorem zun {q:Ti} (hq:zkq q=true) {j n:Nat} (h:j+n<=32):((List.range' j n).map (cl q)).any (fun c=> !zvc c)=false:=by
 rw [List.any_eq_false]
 intro c hc
 obtain ⟨i,hi,rfl⟩:=List.mem_map.1 hc
 rw [List.mem_range'_1] at hi
 simp [yb1 hq (show i<=32 by omega)]
theorem yp6 {p:Nat} {w:Int} {q:Ti} {g:Nat->Int} (P:Par p w q g) {j n:Nat} (hn:n<=16) (hj:j<=16):zfi (lN q w j n)=true:=by
 have hw:=P.hw
 have e1:zrz w 0=true:=by simp [zrz,zcr (show (1:Int)<=w by omega) (show w<=100 by omega),zcr (show (0:Int)<=0 by omega) (show (0:Int)<=5 by omega)]
 have e2:zh1 (j:Int)=true:=zcr (by omega) (by omega)
 have e3:yjn zc=true:=by simp [yjn,zc,yi6,eqI,eqB]
 have e4:¬(40:Int)<(n:Int):=by omega
 simp only [zfi,lN,e1,e2,e3,zun P.hq (show j+n<=32 by omega),List.length_map,List.length_range',e4]
 rfl
theorem yl0 {p:Nat} {w:Int} {q:Ti} {g:Nat->Int} (P:Par p w q g) {j n:Nat} {due:Int} (hn:j+1+n<=16) (hd:0<=due/\due<=1000):zfi (lBq q w j n due)=true:=by
 have hw:=P.hw
 have e1:zrz w 0=true:=by simp [zrz,zcr (show (1:Int)<=w by omega) (show w<=100 by omega),zcr (show (0:Int)<=0 by omega) (show (0:Int)<=5 by omega)]
 have e2:zh1 ((j+1:Nat):Int)=true:=zcr (by omega) (by omega)
 have e5:zh1 (j:Int)=true:=zcr (by omega) (by omega)
 have e4:¬(40:Int)<(n:Int):=by omega
 simp only [zfi,lBq,e1,e2,e5,zun P.hq (show j+1+n<=32 by omega),yb1 P.hq (show j<=32 by omega),zh7 hd.1 hd.2,List.length_map,List.length_range',e4]
 rfl
theorem zkm {p:Nat} {w:Int} {q:Ti} {g:Nat->Int} (P:Par p w q g) {now a r f s:Int} {j n:Nat} (hn:0<=now/\now<=1000) (ha:0<=a/\a<=1000) (hr:0<=r/\r<=1000) (hf:0<=f/\f<=1000) (hs:0<=s/\s<=1000)
 (hm:n<=16) (hj:j<=16):zft (fb p w now (tbq p q g j n) (lN q w j n) a r f s)=true:=
 ye9 P hn ha hr hf hs hm hj (yp6 P hm hj) (ids:=List.range' j n) rfl List.nodup_range' (fun i hi=>by rw [List.mem_range'_1] at hi;exact hi) (by simp)
theorem zqs {p:Nat} {w:Int} {q:Ti} {g:Nat->Int} (P:Par p w q g) {now a r f s due:Int} {j n:Nat} (hn:0<=now/\now<=1000) (ha:0<=a/\a<=1000) (hr:0<=r/\r<=1000) (hf:0<=f/\f<=1000) (hs:0<=s/\s<=1000)
 (hm:j+1+n<=16) (hd:0<=due/\due<=1000):zft (fb p w now (tbq p q g j (n+1)) (lBq q w j n due) a r f s)=true:=by
 refine ye9 P hn ha hr hf hs (by omega) (by omega) (yl0 P hm hd) (ids:=List.range' (j+1) n ++ [j]) (by simp [zbu,lBq]) ?_ (fun i hi=> ?_) (by simp)
 ·rw [List.nodup_append]
  refine ⟨List.nodup_range',by simp,fun x hx y hy=> ?_⟩
  rw [List.mem_range'_1] at hx
  simp at hy
  omega
 ·simp only [List.mem_append,List.mem_range'_1,List.mem_singleton] at hi;omega
theorem zld {α:Type} (f:Nat->α) (j n:Nat):(List.range' j n).map f ++ [f (j+n)]=(List.range' j (n+1)).map f:=by
 rw [List.range'_concat,List.map_append];simp
theorem ybw {σ ε:Type} {body:σ->Option (σ⊕ε)} {n:Nat} {s s':σ} (h:body s=some (.inl s')):zel body (n+1) s=zel body n s':=by rw [zel,h];rfl
theorem zub {σ ε:Type} {body:σ->Option (σ⊕ε)} {n:Nat} {s:σ} {e:ε} (h:body s=some (.inr e)):zel body (n+1) s=some e:=by rw [zel,h];rfl
theorem ygi:∃ n,BIG=n+1+1:=⟨4611686018427387902,rfl⟩
theorem zz7 {p:Nat} {A N:Int} (hp:p<6) (h1:0<=A) (h2:A<=49) (h3:1<=N) (h4:N<=9):ylw [rl p] 1 (qq A N)=some ([pt p (qq A N)],0):=by
 have hq:=yf3 h1 h2 h3 h4
 have hsz:(qq A N).sz<=1048576:=by simp [Ti.sz,qq]
 have e1:zu2 [rl p] 1=some true:=by
  rw [zu2,ya4]
  simp [zkc,zab,zqf,yzz,yq3,rl,ze8]
 have e2:yky (qq A N)=some (2,A,N):=by
  rw [yyo _ hsz,yu3,hq]
  have:¬ N=0:=by omega
  simp [qq,this]
 have e3:yjk [rl p] 1 2 A=some 0:=by
  rw [yjk,zzo]
  simp [zk2,zab,zqa,ywg,yty,rl,ze8,zcr h1 (show A<=99 by omega)]
 have w1:∀ x:Int,-1000<=x->x<=1000->IntKind.i64.wrap x=x:=fun x a b=>zah (by omega) (by omega)
 have e4:yn3 (qq A N) 0 N 0=some (qq A N):=by
  rw [yn3]
  have:decide (0<(qq A N).fN)=true:=decide_eq_true (show 0<N by omega)
  rw [this]
  simp [qq,w1 A (by omega) (by omega)]
 rw [ylw,ypo _ (by simp),zm7 hp,yeb _ hsz,hq]
 simp only [Option.bind_some,Bool.not_true,cond_false,e1,e2]
 have hk:decide ((qq A N).ff=23)=false:=rfl
 rw [hk]
 simp only [cond_false]
 have e5:zlu [rl p] 1 (qq A N) (2,A,N) ([],0)=some (.inr ([pt p (qq A N)],N)):=by
  unfold zlu
  have b1:zka [rl p] 1 (qq A N) (2,A,N) ([],0)=some (.inl ([pt p (qq A N)],N)):=by
   rw [zka]
   have hN:decide (((0:Int))<N)=true:=by simp;omega
   simp only [hN,cond_true,Int.add_zero,w1 A (by omega) (by omega),e3,Option.bind_some]
   have hm:(if (IntKind.i64.wrap ((IntKind.i64.wrap ((IntKind.i64.wrap ((rl p).fat - A)) - 0))+1))<(IntKind.i64.wrap (N - 0)) then(IntKind.i64.wrap ((IntKind.i64.wrap ((IntKind.i64.wrap ((rl p).fat - A)) - 0))+1)) else(IntKind.i64.wrap (N - 0)))=N:=by
    have:(rl p).fat=99:=rfl
    rw [this,Int.sub_zero,Int.sub_zero,w1 (99 - A) (by omega) (by omega),w1 (99 - A) (by omega) (by omega),w1 (99 - A+1) (by omega) (by omega),w1 N (by omega) (by omega),if_neg (by omega)]
   simp only [show decide ((0:Int)<0)=false from rfl,cond_false,show (0:Int)<=0 from Int.le_refl _,if_true,show (0:Int).toNat=0 from rfl,List.getElem?_cons_zero,Option.bind_some,hm,show (rl p).fau=0 from rfl,e4,Int.zero_add,w1 N (by omega) (by omega)]
   rfl
  have b2:zka [rl p] 1 (qq A N) (2,A,N) ([pt p (qq A N)],N)=some (.inr (.inr ([pt p (qq A N)],N))):=by
   rw [zka]
   have hN:decide (N<N)=false:=by simp
   simp only [hN,cond_false]
  obtain ⟨n,hn⟩:=ygi
  rw [hn,ybw b1,zub b2]
 rw [e5]
 simp [ze8]
theorem yef {p:Nat} {w:Int} {q:Ti} {g:Nat->Int} (P:Par p w q g) {now a r f s:Int} {j n:Nat} (hn:n<=16) (hj:j<=16):
 ynk [pt p q] (fb p w now (tbq p q g j n) (lN q w j n) a r f s)=some (decide (n=16),fb p w now (tbq p q g j n) (lN q w j n) a r f s):=by
 have hp:=P.hp
 rw [ynk]
 have el:(fb p w now (tbq p q g j n) (lN q w j n) a r f s).ft.fi.length=n:=by simp [fb,tbq]
 have en:(fb p w now (tbq p q g j n) (lN q w j n) a r f s).ft.fo=((j+n:Nat):Int):=rfl
 have eL:(fb p w now (tbq p q g j n) (lN q w j n) a r f s).fq=six p w (lN q w j n):=rfl
 rw [el,en]
 by_cases h:n=16
 ·subst h;rfl
 have h1:decide ((16:Int)<=(n:Int))=false:=by simp;omega
 have h2:decide ((1000000000:Int)<=((j+n:Nat):Int))=false:=by simp;omega
 simp only [h1,h2,cond_false]
 have hb:∀ s0:List Int,s0=List.replicate 6 0->zs4 [pt p q] (fb p w now (tbq p q g j n) (lN q w j n) a r f s) 0 (pt p q) s0=some (.inl (s0.set p 1)):=by
  intro s0 hs0
  have hl:s0.length=6:=by rw [hs0];rfl
  have hg:s0[p]? =some 0:=by rw [hs0,List.getElem?_replicate,if_pos hp]
  have hz:(0:Int)<=p/\(p:Int)<((6 - 0:Nat):Int):=⟨by omega,by omega⟩
  rw [zs4]
  simp only [pt,List.length_map,hl,if_pos hz,zby,hg,Option.bind_some,eL,zj6,ztg hp,List.length_set]
  have e1:(s0.set p (IntKind.i64.wrap (0+1)))[p]? =some 1:=by simp [List.getElem?_set,hl,hp];rfl
  have e2:(IntKind.i64.wrap ((((lN q w j n).fh.length - 0:Nat):Int)+1))=(n:Int)+1:=by
   rw [zah] <;> simp [lN] <;> omega
  have e3:decide ((40:Int)<(n:Int)+1)=false:=by simp;omega
  simp only [e1,Option.bind_some,e2,e3,cond_false]
  rfl
 have e5:zmn [pt p q] (fb p w now (tbq p q g j n) (lN q w j n) a r f s) (List.replicate (6:Int).toNat (0:Int))=some (.inr ((List.replicate 6 (0:Int)).set p 1)):=by
  unfold zmn
  rw [if_pos (by simp),zab,hb (List.replicate (6:Int).toNat (0:Int)) rfl]
  simp only [Option.bind_some,zab,yaz]
  rfl
 rw [e5]
 simp [ze8,h]
end Go.Pm
namespace Go.Pm
set_option maxRecDepth 100000
theorem zdc {x:Int} (h1:0<=x) (h2:x<=1000):zwe x 1=some (x+1):=by
 rw [yqp,yo3,zah (by omega) (by omega),if_pos (by omega)]
theorem zij {A N f:Int} (hq:zkq (qq A N)=true) (h1:1<=f) (h2:f<=255):zxn (qq A N) f=some ⟨3,f,0,0,[],[]⟩:=by
 rw [yym _ _ (by simp [Ti.sz,qq]),yt7,hq,zcr h1 h2];rfl
theorem ykk {p:Nat} {w:Int} {q:Ti} {g:Nat->Int} (P:Par p w q g) {j n:Nat} (hn:n<16) (hj:j<=16):
 yjx (tbq p q g j n) 0 (g (j+n)) 1 q [pt p q]=some (tbq p q g j (n+1),((j+n:Nat):Int),true):=by
 have hsz:(tbq p q g j n).sz<=1048576:=by rw [zjo P.hs];omega
 have hsz2:(tbq p q g j (n+1)).sz<=1048576:=by rw [zjo P.hs];omega
 have hqs:q.sz<=1048576:=by rw [P.hs];omega
 have hps:szL Te.sz [pt p q]<=1048576:=by simp [szL,Te.sz,pt,P.hs]
 have ht:=zmy (g:=g) (j:=j) (m:=n) P.hp P.hq (fun i hi=>P.hg i (by omega)) (by omega) hj
 have ht2:=zmy (g:=g) (j:=j) (m:=n+1) P.hp P.hq (fun i hi=>P.hg i (by omega)) (by omega) hj
 have el:(tbq p q g j n).fi.length=n:=by simp [tbq]
 have en:(tbq p q g j n).fo=((j+n:Nat):Int):=rfl
 have h16:decide ((16:Int)<=(n:Int))=false:=by simp;omega
 have ew:IntKind.i64.wrap (((j+n:Nat):Int)+1)=((j+(n+1):Nat):Int):=by rw [zah (by omega) (by omega)];omega
 have eo:(⟨IntKind.i64.wrap (((j+n:Nat):Int)+1),(tbq p q g j n).fi ++ [⟨((j+n:Nat):Int),0,g (j+n),1,q,[pt p q],List.replicate ((([pt p q]:List Te).length:Nat):Int).toNat false,List.replicate ((([pt p q]:List Te).length:Nat):Int).toNat (⟨0,0,0,0,[],[]⟩:Tc)⟩]⟩:Tm)=tbq p q g j (n+1):=by
  rw [ew]
  simp only [tbq]
  congr 1
  exact zld (pd p q g) j n
 rw [yjx]
 simp only [yoa _ hsz,ylu _ hsz,ht,Option.bind_some,Bool.not_true,cond_false,el,h16,yh9 _ hqs,ys7 _ hps,en]
 rw [if_pos (by simp),if_pos (by simp),if_pos (by simp [el];omega)]
 rw [eo,ylu _ hsz2,ht2]
 rfl
theorem zv4 {p:Nat} {w A N:Int} {g:Nat->Int} (P:Par p w (qq A N) g) (hA:0<=A/\A<=49) (hN:1<=N/\N<=9) {now a r f s:Int} {j n:Nat} (hnow:0<=now/\now<=1000) (ha:0<=a/\a<=999) (hr:0<=r/\r<=1000) (hf:0<=f/\f<=1000) (hs:0<=s/\s<=1000)
 (hn:n<16) (hj:j<=16):yf6 (fb p w now (tbq p (qq A N) g j n) (lN (qq A N) w j n) a r f s) 0 (g (j+n)) 1 (qq A N)=
  some (fb p w now (tbq p (qq A N) g j (n+1)) (lN (qq A N) w j (n+1)) (a+1) r f s,[]):=by
 have hp:=P.hp
 have hsz:(fb p w now (tbq p (qq A N) g j n) (lN (qq A N) w j n) a r f s).sz<=1048576:=by rw [zpo hp,zjo P.hs,zpa P.hs];omega
 have hqs:(qq A N).sz<=1048576:=by rw [P.hs];omega
 have hok:=zkm P (n:=n) (j:=j) hnow (by omega) hr hf hs (by omega) hj (a:=a)
 have hmay:ylg 0 (g (j+n)) (qq A N)=true:=by
  have:=P.hg (j+n) (by omega)
  simp [ylg,zcu (show (0:Int)<=0 by omega) (by omega),zcu this.1 this.2,P.hq]
 rw [yf6,yo0 _ hsz,Option.bind_some,ylv _ hsz,hok,Option.bind_some,yv5 _ _ _ hqs,hmay,Option.bind_some]
 simp only [Bool.not_true,cond_false]
 have e0:∀ a',(let F:=fb p w now (tbq p (qq A N) g j n) (lN (qq A N) w j n) a r f s;(⟨F.fag,F.fr,F.ft,F.fq,a',F.fai,F.fal,F.fan⟩:Tg))=fb p w now (tbq p (qq A N) g j n) (lN (qq A N) w j n) a' r f s:=fun _=>rfl
 simp only at e0
 have hb:decide (n=16)=false:=by simp;omega
 have eL:∀ t l a' ,(fb p w now t l a' r f s).fq=six p w l:=fun _ _ _=>rfl
 have eO:∀ t l a' ,(fb p w now t l a' r f s).ft=t:=fun _ _ _=>rfl
 have e1:yjj 0 (g (j+n)) 1 (qq A N) (fb p w now (tbq p (qq A N) g j n) (lN (qq A N) w j n) a r f s)=some ([],fb p w now (tbq p (qq A N) g j (n+1)) (lN (qq A N) w j (n+1)) (a+1) r f s):=by
  rw [yjj]
  simp only [show (fb p w now (tbq p (qq A N) g j n) (lN (qq A N) w j n) a r f s).faj=a from rfl,zdc ha.1 (by omega),Option.bind_some,show (fb p w now (tbq p (qq A N) g j n) (lN (qq A N) w j n) a r f s).fr.faf=[rl p] from rfl,zz7 hp hA.1 hA.2 hN.1 hN.2,
   decide_true,cond_true,e0,yef P (show n<=16 by omega) hj,hb,cond_false]
  simp only [eO,ykk P hn hj,eL,Option.bind_some]
  have e2:zof (qq A N) ([pt p (qq A N)],0) (false,fb p w now (tbq p (qq A N) g j n) (lN (qq A N) w j n) (a+1) r f s) (tbq p (qq A N) g j (n+1),((j+n:Nat):Int),true) (six p w (lN (qq A N) w j n))=some (six p w (lN (qq A N) w j (n+1))):=by
   unfold zof
   rw [if_pos (by simp)]
   have b1:zqq (qq A N) ([pt p (qq A N)],0) (false,fb p w now (tbq p (qq A N) g j n) (lN (qq A N) w j n) (a+1) r f s) (tbq p (qq A N) g j (n+1),((j+n:Nat):Int),true) 0 (pt p (qq A N)) (six p w (lN (qq A N) w j n))=some (.inl (six p w (lN (qq A N) w j (n+1)))):=by
    have hz:(0:Int)<=p/\(p:Int)<((6 - 0:Nat):Int):=⟨by omega,by omega⟩
    have eq2:(lN (qq A N) w j n).fh.length=n:=by simp [lN]
    rw [zqq]
    simp only [pt,List.length_map,zj6,if_pos hz,zby,ztg hp,Option.bind_some,yh9 _ hqs,eq2,List.length_singleton,Option.map_some]
    rw [if_pos (by omega),if_pos (by omega)]
    simp only [zxf]
    have e3:(lN (qq A N) w j n).fh ++ [(⟨((j+n:Nat):Int),0,9,qq A N⟩:Td)]=(lN (qq A N) w j (n+1)).fh:=zld (cl (qq A N)) j n
    rw [e3]
    rfl
   simp only [zab,b1,Option.bind_some,zwl]
  rw [e2]
  rfl
 rw [e1]
 rfl
theorem yd2 {p:Nat} {w A N:Int} {g:Nat->Int} (P:Par p w (qq A N) g) (hA:0<=A/\A<=49) (hN:1<=N/\N<=9) {now a r f s tg:Int} (hnow:0<=now/\now<=1000) (ha:0<=a/\a<=999) (hr:0<=r/\r<=999) (hf:0<=f/\f<=999) (hs:0<=s/\s<=1000)
 (htg:0<=tg/\tg<=1000000000):yf6 (fb p w now (tbq p (qq A N) g 0 16) (lN (qq A N) w 0 16) a r f s) 0 tg 1 (qq A N)=
  some (fb p w now (tbq p (qq A N) g 0 16) (lN (qq A N) w 0 16) (a+1) (r+1) (f+1) s,[⟨0,tg,qq A N,[],[],⟨3,6,0,0,[],[]⟩⟩]):=by
 have hp:=P.hp
 have hsz:(fb p w now (tbq p (qq A N) g 0 16) (lN (qq A N) w 0 16) a r f s).sz<=1048576:=by rw [zpo hp,zjo P.hs,zpa P.hs];omega
 have hqs:(qq A N).sz<=1048576:=by rw [P.hs];omega
 have hok:=zkm P (n:=16) (j:=0) hnow (by omega) (by omega) (by omega) hs (by omega) (by omega) (a:=a) (r:=r) (f:=f)
 have hmay:ylg 0 tg (qq A N)=true:=by
  simp [ylg,zcu (show (0:Int)<=0 by omega) (by omega),zcu htg.1 htg.2,P.hq]
 rw [yf6,yo0 _ hsz,Option.bind_some,ylv _ hsz,hok,Option.bind_some,yv5 _ _ _ hqs,hmay,Option.bind_some]
 simp only [Bool.not_true,cond_false]
 have e0:∀ a',(let F:=fb p w now (tbq p (qq A N) g 0 16) (lN (qq A N) w 0 16) a r f s;(⟨F.fag,F.fr,F.ft,F.fq,a',F.fai,F.fal,F.fan⟩:Tg))=fb p w now (tbq p (qq A N) g 0 16) (lN (qq A N) w 0 16) a' r f s:=fun _=>rfl
 simp only at e0
 have e1:yjj 0 tg 1 (qq A N) (fb p w now (tbq p (qq A N) g 0 16) (lN (qq A N) w 0 16) a r f s)=some ([⟨0,tg,qq A N,[],[],⟨3,6,0,0,[],[]⟩⟩],fb p w now (tbq p (qq A N) g 0 16) (lN (qq A N) w 0 16) (a+1) (r+1) (f+1) s):=by
  rw [yjj]
  simp only [show (fb p w now (tbq p (qq A N) g 0 16) (lN (qq A N) w 0 16) a r f s).faj=a from rfl,zdc ha.1 (by omega),Option.bind_some,show (fb p w now (tbq p (qq A N) g 0 16) (lN (qq A N) w 0 16) a r f s).fr.faf=[rl p] from rfl,zz7 hp hA.1 hA.2 hN.1 hN.2,
   decide_true,cond_true,e0,yef P (show 16<=16 by omega) (show 0<=16 by omega),yh9 _ hqs,zij P.hq (show (1:Int)<=6 by omega) (by omega)]
  rw [yjf,znd]
  simp only [List.length_singleton,show (1:Nat)<=9223372036854775806 by omega,if_true,zab,zsi,show (fb p w now (tbq p (qq A N) g 0 16) (lN (qq A N) w 0 16) (a+1) r f s).fai=r from rfl,show (fb p w now (tbq p (qq A N) g 0 16) (lN (qq A N) w 0 16) (a+1) r f s).fal=f from rfl,zdc hr.1 (show r<=1000 by omega),zdc hf.1 (show f<=1000 by omega),Option.bind_some]
  rfl
 rw [e1]
 rfl
end Go.Pm
namespace Go.Pm
set_option maxRecDepth 100000
theorem zr4 {t n:Int} (h1:0<=t) (h2:t<=500) (h3:0<=n) (h4:n<=500):yc4 t n=some (t+n):=by
 rw [qa8,ytz,zh7 h1 (by omega),zh7 h3 (by omega),zah (by omega) (by omega)]
 simp only [Bool.not_true,cond_false]
 rw [Int.tmod_eq_of_lt (by omega) (by omega)]
theorem zos {t d:Int} (h1:0<=t) (h2:t<=1000) (h3:0<=d) (h4:d<=1000):ykt t d=some (decide (d<=t)):=by
 rw [yzl,ys4,yov,zh7 h1 h2,zh7 h3 h4]
 simp only [Bool.not_true,cond_false,cond_true]
 rw [zah (n:=t - d) (by omega) (by omega),zah (n:=t - d+4294967295) (by omega) (by omega),zah (by omega) (by omega)]
 by_cases h:d<=t
 ·have e:(t - d+4294967295+1).tmod 4294967296=t - d:=by
   rw [Int.tmod_eq_emod_of_nonneg (by omega)];omega
  rw [e];simp [h];omega
 ·rw [Int.tmod_eq_of_lt (by omega) (by omega)]
  simp [h];omega
section
variable {p:Nat} {w A N:Int} {g:Nat->Int}
theorem order_ok (l:Ta) (h:l.fc.fa.sz<=1048576):yep l=some (⟨l.fao,l.fc.fp,l.fc.fa⟩,l):=by
 rw [yep,yh9 _ h];rfl
theorem tick_idle (P:Par p w (qq A N) g) (now:Int) (j:Nat):zql (lN (qq A N) w j 0) now=some (lN (qq A N) w j 0,[],[]):=by
 rw [zql,yja _ (by rw [zpa P.hs];omega)]
 rfl
theorem tick_first (P:Par p w (qq A N) g) {now:Int} (h1:0<=now) (h2:now<=500) {j n:Nat} (hn:j+n<=16):zql (lN (qq A N) w j (n+1)) now=some (lBq (qq A N) w j n (now+w),[⟨j,9,qq A N⟩],[]):=by
 have hw:=P.hw
 have hq:(lN (qq A N) w j (n+1)).fh=cl (qq A N) j::(List.range' (j+1) n).map (cl (qq A N)):=by simp [lN,List.range'_succ]
 have hb:(lN (qq A N) w j (n+1)).fam=false:=rfl
 rw [zql,yja _ (by rw [zpa P.hs];omega)]
 simp only [Option.bind_some,hb,cond_false,Bool.not_false,cond_true,hq,List.length_cons,List.length_map,List.length_range',List.length_set,show decide ((0:Int)<((n+1:Nat):Int))=true from decide_eq_true (by omega),show (0:Int).toNat=0 from rfl,List.getElem?_cons_zero,Option.map_some]
 rw [if_pos (by omega),if_pos (by omega)]
 have ew:IntKind.i64.wrap ((j:Int)+1)=((j+1:Nat):Int):=by
  rw [zah (by omega) (by omega)];omega
 have em:((j+1:Nat):Int).tmod 65536=((j+1:Nat):Int):=Int.tmod_eq_of_lt (by omega) (by omega)
 simp only [show (lN (qq A N) w j (n+1)).fac=w from rfl,zr4 h1 h2 (show 0<=w by omega) (show w<=500 by omega),Option.bind_some,ew,em,show (lN (qq A N) w j (n+1)).fo=j from rfl,show (lN (qq A N) w j (n+1)).fab=0 from rfl]
 rw [order_ok _ (by show (qq A N).sz<=_;rw [P.hs];omega)]
 simp only [Option.bind_some,List.length_nil,List.length_map,List.length_singleton]
 rw [if_pos (by omega)]
 rfl
theorem tick_wait (P:Par p w (qq A N) g) {now due:Int} (h1:0<=now) (h2:now<due) (h3:due<=1000) {j n:Nat} (hn:n<=16):zql (lBq (qq A N) w j n due) now=some (lBq (qq A N) w j n due,[],[]):=by
 have hb:(lBq (qq A N) w j n due).fam=true:=rfl
 have hd:decide (due<=now)=false:=by simp;omega
 rw [zql,yja _ (by rw [zlb P.hs];omega)]
 simp only [Option.bind_some,hb,cond_true,show (lBq (qq A N) w j n due).faq=due from rfl,zos h1 (show now<=1000 by omega) (show 0<=due by omega) h3,hd,cond_false,Bool.not_true]
def dn (j:Nat):Tn:=⟨j,0,⟨3,11,0,0,[],[]⟩⟩
theorem tick_next (P:Par p w (qq A N) g) {now due:Int} (h1:due<=now) (h2:now<=500) (h3:0<=due) {j n:Nat} (hn:j+n<=16):zql (lBq (qq A N) w j (n+1) due) now=some (lBq (qq A N) w (j+1) n (now+w),[⟨(j+1:Nat),9,qq A N⟩],[dn j]):=by
 have hw:=P.hw
 have hb:(lBq (qq A N) w j (n+1) due).fam=true:=rfl
 have hd:decide (due<=now)=true:=by simp;omega
 rw [zql,yja _ (by rw [zlb P.hs];omega)]
 simp only [Option.bind_some,hb,cond_true,show (lBq (qq A N) w j (n+1) due).faq=due from rfl,zos (show 0<=now by omega) (show now<=1000 by omega) h3 (show due<=1000 by omega),hd,
  show (lBq (qq A N) w j (n+1) due).fap=0 from rfl,show decide ((0:Int)<0)=false from rfl,cond_false,show (lBq (qq A N) w j (n+1) due).fc.fa=qq A N from rfl,zij P.hq (show (1:Int)<=11 by omega) (show (11:Int)<=255 by omega)]
 rw [if_pos (by simp)]
 rw [ynn,Option.bind_some]
 have hq:(lBq (qq A N) w j (n+1) due).fh=cl (qq A N) (j+1)::(List.range' (j+1+1) n).map (cl (qq A N)):=by simp [lBq,List.range'_succ]
 simp only [Bool.not_false,cond_true,hq,List.length_cons,List.length_map,List.length_range',List.length_set,show decide ((0:Int)<((n+1:Nat):Int))=true from decide_eq_true (by omega),show (0:Int).toNat=0 from rfl,List.getElem?_cons_zero,Option.map_some,Option.bind_some]
 rw [if_pos (by omega),if_pos (by omega)]
 have ew:IntKind.i64.wrap (((j+1:Nat):Int)+1)=((j+1+1:Nat):Int):=by
  rw [zah (by omega) (by omega)];omega
 have em:((j+1+1:Nat):Int).tmod 65536=((j+1+1:Nat):Int):=Int.tmod_eq_of_lt (by omega) (by omega)
 simp only [show (lBq (qq A N) w j (n+1) due).fac=w from rfl,zr4 (show 0<=now by omega) h2 (show 0<=w by omega) (show w<=500 by omega),Option.bind_some,ew,em,show (lBq (qq A N) w j (n+1) due).fo=((j+1:Nat):Int) from rfl,show (lBq (qq A N) w j (n+1) due).fab=0 from rfl]
 rw [order_ok _ (by show (qq A N).sz<=_;rw [P.hs];omega)]
 simp only [Option.bind_some,List.length_nil,List.length_map,List.length_singleton]
 rw [if_pos (by omega)]
 rfl
theorem tick_last (P:Par p w (qq A N) g) {now due:Int} (h1:due<=now) (h2:now<=500) (h3:0<=due) {j:Nat}:zql (lBq (qq A N) w j 0 due) now=some (lN (qq A N) w (j+1) 0,[],[dn j]):=by
 have hb:(lBq (qq A N) w j 0 due).fam=true:=rfl
 have hd:decide (due<=now)=true:=by simp;omega
 rw [zql,yja _ (by rw [zlb P.hs];omega)]
 simp only [Option.bind_some,hb,cond_true,show (lBq (qq A N) w j 0 due).faq=due from rfl,zos (show 0<=now by omega) (show now<=1000 by omega) h3 (show due<=1000 by omega),hd,
  show (lBq (qq A N) w j 0 due).fap=0 from rfl,show decide ((0:Int)<0)=false from rfl,cond_false,show (lBq (qq A N) w j 0 due).fc.fa=qq A N from rfl,zij P.hq (show (1:Int)<=11 by omega) (show (11:Int)<=255 by omega)]
 rw [if_pos (by simp)]
 rfl
def rp (g:Nat->Int) (p:Nat) (q:Ti) (j:Nat):Th:=⟨0,g j,q,[pt p q],[⟨3,11,0,0,[],[]⟩],⟨3,11,0,0,[],[]⟩⟩
theorem joined_ok (P:Par p w (qq A N) g):ylc (qq A N) [pt p (qq A N)] [⟨3,11,0,0,[],[]⟩]=some ⟨3,11,0,0,[],[]⟩:=by
 have hq':zkq ⟨3,A,N,[],[],0⟩=true:=P.hq
 have hf:zi3 (qq A N) ⟨3,11,0,0,[],[]⟩=true:=by simp [zi3,hq',qq,yjv,ynj,ygu,zei]
 have hsu:yf4 (qq A N) ⟨3,11,0,0,[],[]⟩=some true:=by rw [ypf _ _ (by rw [P.hs];omega) (by simp [Tc.sz]),hf]
 have h1:zm0 (qq A N) [pt p (qq A N)] [⟨3,11,0,0,[],[]⟩] ()=some (.inr ()):=by
  unfold zm0
  rw [if_pos (by simp)]
  simp [zab,zwh,zx6,pt,hsu]
 have h2:ym8 [⟨3,11,0,0,[],[]⟩]=some 0:=by
  rw [ym8]
  simp [zrj,zab,zzq,yns,ze8]
 rw [ylc]
 simp only [List.length_singleton,show decide (((1:Nat):Int)=0)=false from rfl,show decide (((1:Nat):Int)≠((1:Nat):Int))=false from rfl,cond_false,h1,Option.bind_some,ze8,h2,decide_true,cond_true,show (0:Int)<=0 from Int.le_refl _,decide_true,cond_true,if_true,show (0:Int).toNat=0 from rfl,List.getElem?_cons_zero,zij P.hq (show (1:Int)<=11 by omega) (show (11:Int)<=255 by omega)]
theorem fillQ_ok (P:Par p w (qq A N) g) {j n:Nat} (hn:j+n<=20):ylm (tbq p (qq A N) g j (n+1)) j 0 ⟨3,11,0,0,[],[]⟩=some (⟨((j+(n+1):Nat):Int),(List.range' (j+1) n).map (pd p (qq A N) g)⟩,[rp g p (qq A N) j]):=by
 have hsz:(tbq p (qq A N) g j (n+1)).sz<=1048576:=by rw [zjo P.hs];omega
 have hl:(tbq p (qq A N) g j (n+1)).fi=pd p (qq A N) g j::(List.range' (j+1) n).map (pd p (qq A N) g):=by simp [tbq,List.range'_succ]
 have hq':zkq ⟨3,A,N,[],[],0⟩=true:=P.hq
 have hf:zi3 (qq A N) ⟨3,11,0,0,[],[]⟩=true:=by simp [zi3,hq',qq,yjv,ynj,ygu,zei]
 have hsu:yf4 (qq A N) ⟨3,11,0,0,[],[]⟩=some true:=by rw [ypf _ _ (by rw [P.hs];omega) (by simp [Tc.sz]),hf]
 have hix:zul (pd p (qq A N) g j::(List.range' (j+1) n).map (pd p (qq A N) g)) j=some 0:=by
  rw [zul]
  unfold zkb
  rw [if_pos (by simp;omega)]
  simp [zab,zpu,yp7,pd,ze8]
 have hcl:yjl ⟨3,11,0,0,[],[]⟩=some ⟨3,11,0,0,[],[]⟩:=yr3 _ (by simp [Tc.sz])
 have hct:yfu [true] false=some false:=by
  rw [yok _ _ (by simp)];rfl
 have hin:zgc 0 0 0=some true:=by rw [zov];rfl
 have hw0:IntKind.i64.wrap (((1:Nat):Int) - 1)=0:=rfl
 have hw1:IntKind.i64.wrap ((0:Int)+1)=1:=rfl
 rw [ylm,yoa _ hsz,Option.bind_some,hl,hix]
 simp only [Option.bind_some,show decide ((0:Int)<0)=false from rfl,cond_false,show (0:Int)<=0 from Int.le_refl _,if_true,show (0:Int).toNat=0 from rfl,List.getElem?_cons_zero,show (pd p (qq A N) g j).faa=[pt p (qq A N)] from rfl,show (pd p (qq A N) g j).fad=[false] from rfl,
  List.length_nil,Nat.zero_add,true_and,hw0,hin,Bool.not_true,show (pt p (qq A N)).fa=qq A N from rfl,hsu,List.length_cons,List.length_map,List.length_range',hcl,List.set_cons_zero,show (pd p (qq A N) g j).fw=[zr] from rfl]
 rw [if_pos (by omega)]
 simp only [show (0:Int)<((1 - 0:Nat):Int) from by decide,if_true,hct,Option.bind_some,cond_false,show (pd p (qq A N) g j).fa=qq A N from rfl,joined_ok P,Option.map_some,yny,hw1,ymt]
 rw [if_pos (by simp;omega)]
 simp only [Option.bind_some]
 rfl
end
end Go.Pm
namespace Go.Pm
set_option maxRecDepth 100000
theorem yd9 (v1 v73:Tg) (k:Int) (v76:List Th) (v149:Ta×List Tj×List Tn) (v201:List Ta) (s:List To) (h:s.length+v149.2.1.length<=1000000):zmj v1 v73 k v76 v149 v201 s=some (s++v149.2.1.map fun o=>⟨k,o⟩):=by
 unfold zmj
 rw [if_pos (by omega)]
 have key:∀ (body:Int->Tj->List To->Option (List To⊕List To)) (last:List To->Option (List To)),(∀ i x s,s.length<=1000000->body i x s=some (.inl (s ++ [⟨k,x⟩])))->(∀ s,last s=some s)->∀ (t:List Tj) (i:Int) (s:List To),s.length+t.length<=1000000->zab body last t i s=some (s++t.map fun o=>⟨k,o⟩):=by
  intro body last hb hl t
  induction t with
  | nil=>intro i s _;simp [zab,hl]
  | cons x t ih=>
    intro i s hs
    simp only [List.length_cons] at hs
    simp only [zab,hb i x s (by omega),Option.bind_some]
    rw [ih (i+1) (s ++ [(⟨k,x⟩:To)]) (by simp;omega)]
    simp
 refine key _ _ (fun i x s hs=> ?_) (fun s=>rfl) _ _ _ h
 rw [yam,if_pos (by simp;omega)]
theorem yha {l:List Ta} {k:Nat} {x:Ta} (h:k<l.length):(l.set k x)[k]? =some x:=by simp [List.getElem?_set,h]
theorem zuq (v1 F F':Tg) (sends:List To) (replies rs:List Th) (k:Nat) (x l l':Ta) (os:List Tj) (ds:List Tn) (sent':Int) (hk:F.fq[k]? =some l) (ht:zql l F.fag=some (l',os,ds)) (hs:sends.length+os.length<=100000) (hr:replies.length+rs.length<=100000)
 (hm:zwe F.fan os.length=some sent') (hf:yds ds ⟨F.fag,F.fr,F.ft,F.fq.set k l',F.faj,F.fai,F.fal,sent'⟩=some (rs,F')):
 zfw v1 k x (F,sends,replies)=some (.inl (F',sends++os.map (fun o=>⟨k,o⟩),replies++rs)):=by
 have hlt:k<F.fq.length:=(List.getElem?_eq_some_iff.1 hk).1
 have hz:(0:Int)<=k/\(k:Int)<((F.fq.length - 0:Nat):Int):=⟨by omega,by omega⟩
 rw [zfw]
 simp only [List.length_map,if_pos hz,zby,hk,Option.bind_some,ht,List.set_set,yha hlt]
 rw [yd9 _ _ _ _ _ _ _ (show sends.length+os.length<=1000000 by omega)]
 simp only [Option.bind_some,hm,hf,List.length_map]
 rw [if_pos (by omega)]
theorem zgo (F:Tg):yds [] F=some ([],F):=by
 rw [yds];rfl
theorem zgx {x:Int} (h1:0<=x) (h2:x<=1000):zwe x 0=some x:=by
 rw [yqp,yo3,zah (by omega) (by omega),if_pos (by omega)];simp
theorem yen {p k:Nat} {w:Int} {l:Ta} (hk:k<6) (hne:k≠p):(six p w l)[k]? =some (zkt w):=by
 simp only [six,List.getElem?_set,List.getElem?_replicate,if_pos hk]
 rw [if_neg (fun e=>hne e.symm)]
theorem zw0 {p k:Nat} {w:Int} {l:Ta} (hk:k<6) (hne:k≠p):(six p w l).set k (zkt w)=six p w l:=by
 apply List.ext_getElem?;intro i
 rw [List.getElem?_set]
 by_cases e:k=i
 ·subst e;rw [if_pos rfl,if_pos (by rw [zj6];exact hk),yen hk hne]
 ·rw [if_neg e]
section
variable {p:Nat} {w A N:Int} {g:Nat->Int}
theorem body_idle (P:Par p w (qq A N) g) {now a r f s:Int} {t:Tm} {l:Ta} (hs:0<=s/\s<=1000) (v1:Tg) (x:Ta) (k:Nat) (hk:k<6) (hne:k≠p) (sends:List To) (replies:List Th) (h1:sends.length<=1000) (h2:replies.length<=1000):
 zfw v1 k x (fb p w now t l a r f s,sends,replies)=some (.inl (fb p w now t l a r f s,sends,replies)):=by
 have:=zuq v1 (fb p w now t l a r f s) (fb p w now t l a r f s) sends replies [] k x (zkt w) (zkt w) [] [] s (yen hk hne) (tick_idle P now 0) (by simp;omega) (by simp;omega) (zgx hs.1 hs.2) (by
  rw [zgo]
  show some ([],(⟨now,⟨w,0,[rl p]⟩,t,(six p w l).set k (zkt w),a,r,f,s⟩:Tg))=_
  rw [zw0 hk hne];rfl)
 rw [this];simp
theorem lines_ok (P:Par p w (qq A N) g) {now a r f s r' f' s':Int} {t t':Tm} {l l':Ta} (hs:0<=s/\s<=1000) (hs':0<=s'/\s'<=1000) (os:List Tj) (ds:List Tn) (rs:List Th) (v1:Tg) (hv:v1.fq.length=6)
 (ht:zql l now=some (l',os,ds)) (ho:os.length<=100) (hrs:rs.length<=100) (hm:zwe s os.length=some s') (hf:yds ds (fb p w now t l' a r f s')=some (rs,fb p w now t' l' a r' f' s')):
 ∃ sn,zoe v1 (fb p w now t l a r f s,[],[])=some (sn,rs,fb p w now t' l' a r' f' s'):=by
 have hp:=P.hp
 have hB:∀ x,zfw v1 p x (fb p w now t l a r f s,[],[])=some (.inl (fb p w now t' l' a r' f' s',os.map (fun o=>⟨p,o⟩),rs)):=by
  intro x
  have:=zuq v1 (fb p w now t l a r f s) (fb p w now t' l' a r' f' s') [] [] rs p x l l' os ds s' (ztg hp) ht (by simp;omega) (by simp;omega) hm (by
   rw [show (fb p w now t l a r f s).fq.set p l'=six p w l' from zxf]
   exact hf)
  rw [this];simp
 have hI:=fun x k (hk:k<6) (hne:k≠p)=>body_idle P (now:=now) (a:=a) (r:=r) (f:=f) (t:=t) (l:=l) hs v1 x k hk hne [] [] (by simp) (by simp)
 have hJ:=fun x k (hk:k<6) (hne:k≠p)=>body_idle P (now:=now) (a:=a) (r:=r') (f:=f') (t:=t') (l:=l') hs' v1 x k hk hne (os.map (fun o=>⟨p,o⟩)) rs (by simp;omega) (by omega)
 unfold zoe
 rw [if_pos (by omega)]
 refine ⟨os.map (fun o=>⟨p,o⟩),?_⟩
 have after:∀ (xs:List Ta) (k:Nat),p<k->k+xs.length=6->zab (zfw v1) (zsw v1) xs k (fb p w now t' l' a r' f' s',os.map (fun o=>⟨p,o⟩),rs)=some (os.map (fun o=>⟨p,o⟩),rs,fb p w now t' l' a r' f' s'):=by
  intro xs
  induction xs with
  | nil=>intro k _ _;rfl
  | cons x xs ih=>
    intro k h1 h2
    simp only [List.length_cons] at h2
    rw [zab,hJ x k (by omega) (by omega)]
    exact ih (k+1) (by omega) (by omega)
 have upto:∀ (xs:List Ta) (k:Nat),k<=p->k+xs.length=6->zab (zfw v1) (zsw v1) xs k (fb p w now t l a r f s,[],[])=some (os.map (fun o=>⟨p,o⟩),rs,fb p w now t' l' a r' f' s'):=by
  intro xs
  induction xs with
  | nil=>intro k h1 h2;simp at h2;omega
  | cons x xs ih=>
    intro k h1 h2
    simp only [List.length_cons] at h2
    by_cases e:k=p
    ·subst e
     rw [zab,hB x]
     exact after xs (k+1) (by omega) (by omega)
    ·rw [zab,hI x k (by omega) e]
     exact ih (k+1) (by omega) (by omega)
 exact upto v1.fq 0 (by omega) (by omega)
theorem tick_gen (P:Par p w (qq A N) g) {now a r f s r' f' s':Int} {t t':Tm} {l l':Ta} (hnow:0<=now/\now<=400) (hok:zft (fb p w now t l a r f s)=true) (hsz:(fb p w now t l a r f s).sz<=1048576) (hs:0<=s/\s<=1000) (hs':0<=s'/\s'<=1000) (os:List Tj) (ds:List Tn) (rs:List Th)
 (ht:zql l (now+1)=some (l',os,ds)) (ho:os.length<=100) (hrs:rs.length<=100) (hm:zwe s os.length=some s') (hf:yds ds (fb p w (now+1) t l' a r f s')=some (rs,fb p w (now+1) t' l' a r' f' s')):
 ∃ sn,yd3 (fb p w now t l a r f s)=some (fb p w (now+1) t' l' a r' f' s',sn,rs):=by
 obtain ⟨sn,h⟩:=lines_ok P (now:=now+1) (a:=a) (r:=r) (f:=f) (t:=t) hs hs' os ds rs (fb p w now t l a r f s) zj6 ht ho hrs hm hf
 refine ⟨sn,?_⟩
 rw [yd3,yo0 _ hsz,Option.bind_some,ylv _ hsz,hok,Option.bind_some]
 simp only [Bool.not_true,cond_false]
 rw [yoe,show (fb p w now t l a r f s).fag=now from rfl,zr4 hnow.1 (by omega) (by omega) (by omega),Option.bind_some]
 rw [show (⟨now+1,(fb p w now t l a r f s).fr,(fb p w now t l a r f s).ft,(fb p w now t l a r f s).fq,(fb p w now t l a r f s).faj,(fb p w now t l a r f s).fai,(fb p w now t l a r f s).fal,(fb p w now t l a r f s).fan⟩:Tg)=fb p w (now+1) t l a r f s from rfl,h]
 rfl
theorem tellOne (P:Par p w (qq A N) g) {now a r f s:Int} {l:Ta} {j n:Nat} (hn:j+n<=20) (hr:0<=r/\r<=999) (hf:0<=f/\f<=999):
 yds [dn j] (fb p w now (tbq p (qq A N) g j (n+1)) l a r f s)=some ([rp g p (qq A N) j],fb p w now (tbq p (qq A N) g (j+1) n) l a (r+1) (f+1) s):=by
 have et:(⟨((j+(n+1):Nat):Int),(List.range' (j+1) n).map (pd p (qq A N) g)⟩:Tm)=tbq p (qq A N) g (j+1) n:=by simp only [tbq];congr 1;omega
 have e1:zot [dn j] (fb p w now (tbq p (qq A N) g j (n+1)) l a r f s,[])=some ([rp g p (qq A N) j],fb p w now (tbq p (qq A N) g (j+1) n) l a (r+1) (f+1) s):=by
  unfold zot
  rw [if_pos (by simp)]
  simp only [zab,zzt,zz9]
  rw [show (fb p w now (tbq p (qq A N) g j (n+1)) l a r f s).ft=tbq p (qq A N) g j (n+1) from rfl,show (dn j).fk=(j:Int) from rfl,show (dn j).fu=0 from rfl,show (dn j).fah=⟨3,11,0,0,[],[]⟩ from rfl,fillQ_ok P hn,et]
  simp only [Option.bind_some]
  rw [yjf,znd]
  simp only [List.length_singleton,show (1:Nat)<=9223372036854775806 by omega,if_true,zab,zsi,show (fb p w now (tbq p (qq A N) g j (n+1)) l a r f s).fai=r from rfl,show (fb p w now (tbq p (qq A N) g j (n+1)) l a r f s).fal=f from rfl,zdc hr.1 (show r<=1000 by omega),zdc hf.1 (show f<=1000 by omega),Option.bind_some,
   show decide ((rp g p (qq A N) j).fah.fak≠0)=true from rfl,cond_true,ybv,List.length_map,List.length_nil]
  rw [if_pos (by omega)]
  rfl
 rw [yds,e1];rfl
end
end Go.Pm
namespace Go.Pm
set_option maxRecDepth 100000
theorem zio {σ ε:Type} {body:σ->Option (σ⊕ε)} (st:Nat->σ) (e:ε):∀ (N:Nat) (i n:Nat),(∀ k,i<=k->k<i+N->body (st k)=some (.inl (st (k+1))))->body (st (i+N))=some (.inr e)->N<n->zel body n (st i)=some e
 | 0,i,n,_,he,hn=>by
   obtain ⟨m,rfl⟩:∃ m,n=m+1:=⟨n - 1,by omega⟩
   exact zub he
 | N+1,i,n,h,he,hn=>by
   obtain ⟨m,rfl⟩:∃ m,n=m+1:=⟨n - 1,by omega⟩
   rw [ybw (h i (Nat.le_refl _) (by omega))]
   exact zio st e N (i+1) m (fun k h1 h2=>h k (by omega) (by omega)) (by rw [show i+1+N=i+(N+1) by omega];exact he) (by omega)
theorem zyy {l:List Int} (h:∀ x∈l,0<=x/\x<=255) (hl:l.length<=1048576) (k:Nat) (hk:k<=100):∃ v:Int,zvx l k=some v/\0<=v/\v<=255:=by
 unfold zvx
 by_cases c:(k:Int)<(l.length:Int)
 ·have hk':k<l.length:=by omega
  have hm:=h _ (List.getElem_mem hk')
  simp only [c,decide_true,cond_true,show (0:Int)<=k by omega,if_true,zby,List.getElem?_eq_getElem hk',Option.bind_some]
  exact ⟨_,rfl,by rw [zah (by omega) (by omega)];exact hm.1,by rw [zah (by omega) (by omega)];exact hm.2⟩
 ·simp only [c,decide_false,cond_false]
  rw [zah (n:=(k:Int) * 31) (by omega) (by omega),zah (n:=((l.length:Nat):Int) * 7) (by omega) (by omega),zah (by omega) (by omega)]
  refine ⟨_,rfl,?_,?_⟩ <;> rw [Int.tmod_eq_emod_of_nonneg (by omega)] <;> omega
section
variable {p:Nat} {w A N:Int} {g:Nat->Int}
theorem new_fab (P:Par p w (qq A N) g):yly ⟨w,0,[rl p]⟩=some (fb p w 0 (tbq p (qq A N) g 0 0) (lN (qq A N) w 0 0) 0 0 0 0):=by
 have hw:=P.hw
 have hc:zf0 ⟨w,0,[rl p]⟩=true:=by
  simp [zf0,zrz,zm7 P.hp,zcr (show (1:Int)<=w by omega) (show w<=100 by omega),zcr (show (0:Int)<=0 by omega) (show (0:Int)<=5 by omega)]
 have hz:(⟨w,0,[rl p]⟩:Tp).sz<=1048576:=by simp [Tp.sz]
 have hwo:zrz w 0=true:=by simp [zrz,zcr (show (1:Int)<=w by omega) (show w<=100 by omega),zcr (show (0:Int)<=0 by omega) (show (0:Int)<=5 by omega)]
 rw [yly,yrw _ hz,hc,Option.bind_some]
 simp only [Bool.not_true,cond_false]
 rw [yr2 _ hz,Option.bind_some]
 have hl:zoc ⟨w,0,[rl p]⟩ ⟨w,0,[rl p]⟩ ([],0)=some (6,List.replicate 6 (zkt w)):=by
  unfold zoc
  refine zio (fun i=>(List.replicate i (zkt w),(i:Int))) (6,List.replicate 6 (zkt w)) 6 0 BIG (fun k _ hk=> ?_) ?_ (by simp only [BIG];omega)
  ·have hd:decide ((k:Int)<6)=true:=by simp;omega
   simp only [zxo,hd,cond_true,yw5,Option.bind_some,List.length_map,List.length_replicate,List.length_singleton]
   rw [if_pos (by omega),zah (by omega) (by omega)]
   have e:ypb w 0=zkt w:=by simp [ypb,hwo,zkt,zc]
   rw [e,List.replicate_succ']
   rfl
  ·rfl
 rw [hl]
 have e:six p w (lN (qq A N) w 0 0)=List.replicate 6 (zkt w):=by
  show (List.replicate 6 (zkt w)).set p (zkt w)=_
  apply List.ext_getElem?;intro i
  rw [List.getElem?_set,List.getElem?_replicate]
  by_cases h:p=i
  ·subst h;simp [P.hp]
  ·simp [h]
 show some _=some (⟨0,⟨w,0,[rl p]⟩,_,six p w (lN (qq A N) w 0 0),0,0,0,0⟩:Tg)
 rw [e];rfl
theorem load_ok (P:Par p w (qq A N) g) {now a r f s:Int} {j n:Nat} (hnow:0<=now/\now<=1000) (ha:0<=a/\a<=1000) (hr:0<=r/\r<=1000) (hf:0<=f/\f<=1000) (hs:0<=s/\s<=1000) (hn:n<=16) (hj:j<=16):
 ykn (fb p w now (tbq p (qq A N) g j n) (lN (qq A N) w j n) a r f s)=some (n:Int):=by
 have hp:=P.hp
 have hsz:(fb p w now (tbq p (qq A N) g j n) (lN (qq A N) w j n) a r f s).sz<=1048576:=by rw [zpo hp,zjo P.hs,zpa P.hs];omega
 rw [ykn,ylv _ hsz,zkm P hnow ha hr hf hs hn hj,Option.bind_some]
 simp only [Bool.not_true,cond_false]
 have hI:yhu (zkt w)=some []:=by rw [ynu _ (by show 0<=_;omega)];rfl
 have hL:yhu (lN (qq A N) w j n)=some (lN (qq A N) w j n).fh:=by rw [ynu _ (by rw [zpa P.hs];omega)];rfl
 have hq:(lN (qq A N) w j n).fh.length=n:=by simp [lN]
 have wn:IntKind.i64.wrap (n:Int)=n:=zah (by omega) (by omega)
 have wn0:IntKind.i64.wrap ((n:Int)+0)=n:=by rw [Int.add_zero];exact wn
 have w0:IntKind.i64.wrap 0=0:=rfl
 have h:zor (fb p w now (tbq p (qq A N) g j n) (lN (qq A N) w j n) a r f s) 0=some (n:Int):=by
  unfold zor
  rw [show (fb p w now (tbq p (qq A N) g j n) (lN (qq A N) w j n) a r f s).fq=six p w (lN (qq A N) w j n) from rfl,if_pos (by rw [zj6];omega)]
  match p,hp with
  | 0,_=>simp [six,List.replicate,zab,zg9,zfu,hI,hL,hq,wn,w0]
  | 1,_=>simp [six,List.replicate,zab,zg9,zfu,hI,hL,hq,wn,w0]
  | 2,_=>simp [six,List.replicate,zab,zg9,zfu,hI,hL,hq,wn,w0]
  | 3,_=>simp [six,List.replicate,zab,zg9,zfu,hI,hL,hq,wn,w0]
  | 4,_=>simp [six,List.replicate,zab,zg9,zfu,hI,hL,hq,wn,w0]
  | 5,_=>simp [six,List.replicate,zab,zg9,zfu,hI,hL,hq,wn,w0]
 rw [yoo,h];rfl
def stA (p:Nat) (w A N:Int) (i:Nat):Tg×Int×Int:=
 if i<=16 then(fb p w 0 (tbq p (qq A N) (fun i=>i) 0 i) (lN (qq A N) w 0 i) i 0 0 0,0,i) else(fb p w 0 (tbq p (qq A N) (fun i=>i) 0 16) (lN (qq A N) w 0 16) i ((i - 16:Nat):Int) ((i - 16:Nat):Int) 0,((i - 16:Nat):Int),i)
theorem asks_ok (P:Par p w (qq A N) (fun i=>i)) (hA:0<=A/\A<=49) (hN:1<=N/\N<=9) {v11 v13 v15:Int} (e1:v11.tmod 50=A) (e2:IntKind.i64.wrap (1+v13.tmod 9)=N) {m:Nat} (hm:m<=4) (e3:v15.tmod 5=m):
 znb v11 v13 v15 (fb p w 0 (tbq p (qq A N) (fun i=>i) 0 0) (lN (qq A N) w 0 0) 0 0 0 0,0,0)=some (.inr ((m:Int),((16+m:Nat):Int),(stA p w A N (16+m)).1)):=by
 have eq0:(⟨3,v11.tmod 50,IntKind.i64.wrap (1+v13.tmod 9),[],[],0⟩:Ti)=qq A N:=by rw [e1,e2];rfl
 have em:IntKind.i64.wrap (16+v15.tmod 5)=((16+m:Nat):Int):=by rw [e3,zah (by omega) (by omega)];omega
 unfold znb
 refine zio (stA p w A N) _ (16+m) 0 BIG (fun k _ hk=> ?_) ?_ (by simp only [BIG];omega)
 ·by_cases h16:k<16
  ·have es:stA p w A N k=(fb p w 0 (tbq p (qq A N) (fun i=>i) 0 k) (lN (qq A N) w 0 k) k 0 0 0,0,(k:Int)):=by unfold stA;rw [if_pos (by omega)]
   have es':stA p w A N (k+1)=(fb p w 0 (tbq p (qq A N) (fun i=>i) 0 (k+1)) (lN (qq A N) w 0 (k+1)) ((k+1:Nat):Int) 0 0 0,0,((k+1:Nat):Int)):=by unfold stA;rw [if_pos (by omega)]
   have hd:decide ((k:Int)<((16+m:Nat):Int))=true:=by simp;omega
   have ha:=zv4 P hA hN (now:=0) (a:=k) (r:=0) (f:=0) (s:=0) (j:=0) (n:=k) (by omega) (by omega) (by omega) (by omega) (by omega) h16 (by omega)
   simp only [Nat.zero_add] at ha
   rw [es,es']
   simp only [zmp,em,hd,cond_true,eq0,ha,Option.bind_some]
   have hl:zje v11 v13 v15 k (fb p w 0 (tbq p (qq A N) (fun i=>i) 0 (k+1)) (lN (qq A N) w 0 (k+1)) ((k:Int)+1) 0 0 0,[]) 0=some (.inr 0):=rfl
   rw [hl]
   simp only [Option.bind_some,ze8]
   rw [zah (by omega) (by omega)];rfl
  ·have es:stA p w A N k=(fb p w 0 (tbq p (qq A N) (fun i=>i) 0 16) (lN (qq A N) w 0 16) k ((k - 16:Nat):Int) ((k - 16:Nat):Int) 0,((k - 16:Nat):Int),(k:Int)):=by
    unfold stA
    by_cases h:k<=16
    ·have:k=16:=by omega
     subst this;rfl
    ·rw [if_neg h]
   have es':stA p w A N (k+1)=(fb p w 0 (tbq p (qq A N) (fun i=>i) 0 16) (lN (qq A N) w 0 16) ((k+1:Nat):Int) ((k - 16+1:Nat):Int) ((k - 16+1:Nat):Int) 0,((k - 16+1:Nat):Int),((k+1:Nat):Int)):=by
    unfold stA;rw [if_neg (by omega),show k+1 - 16=k - 16+1 by omega]
   have hd:decide ((k:Int)<((16+m:Nat):Int))=true:=by simp;omega
   have ha:=yd2 P hA hN (now:=0) (a:=k) (r:=((k - 16:Nat):Int)) (f:=((k - 16:Nat):Int)) (s:=0) (tg:=k) (by omega) (by omega) (by omega) (by omega) (by omega) (by omega)
   rw [es,es']
   simp only [zmp,em,hd,cond_true,eq0,ha,Option.bind_some]
   have hl:zje v11 v13 v15 k (fb p w 0 (tbq p (qq A N) (fun i=>i) 0 16) (lN (qq A N) w 0 16) ((k:Int)+1) (((k - 16:Nat):Int)+1) (((k - 16:Nat):Int)+1) 0,[⟨0,(k:Int),qq A N,[],[],⟨3,6,0,0,[],[]⟩⟩]) ((k - 16:Nat):Int)=some (.inr ((k - 16+1:Nat):Int)):=by
    unfold zje
    rw [if_pos (by simp)]
    simp only [zab,ya8,zy8,show decide ((6:Int)≠6)=false from rfl,cond_false,Option.bind_some]
    rw [zah (by omega) (by omega)];rfl
   rw [hl]
   simp only [Option.bind_some,ze8]
   rw [zah (by omega) (by omega)];rfl
 ·have es:stA p w A N (0+(16+m))=(fb p w 0 (tbq p (qq A N) (fun i=>i) 0 16) (lN (qq A N) w 0 16) ((16+m:Nat):Int) (m:Int) (m:Int) 0,(m:Int),((16+m:Nat):Int)):=by
   rw [Nat.zero_add];unfold stA
   by_cases h:16+m<=16
   ·have:m=0:=by omega
    subst this;rfl
   ·rw [if_neg h,show 16+m - 16=m by omega]
  have es2:=es
  rw [Nat.zero_add] at es2
  have hd:decide (((16+m:Nat):Int)<((16+m:Nat):Int))=false:=by simp
  rw [es,es2]
  simp only [zmp,em,hd,cond_false]
end
end Go.Pm
namespace Go.Pm
set_option maxRecDepth 100000
section
variable {p:Nat} {w A N:Int}
def stB (p:Nat) (w A N:Int) (m i c:Nat):Tg×Int×Int:=
 if i=0 then(fb p w 0 (tbq p (qq A N) (fun i=>i) 0 16) (lN (qq A N) w 0 16) ((16+m:Nat):Int) m m 0,0,0) else
 if c<16 then(fb p w i (tbq p (qq A N) (fun i=>i) c (16 - c)) (lBq (qq A N) w c (15 - c) (1+(c+1) * w)) ((16+m:Nat):Int) ((m+c:Nat):Int) ((m+c:Nat):Int) ((c+1:Nat):Int),c,i)
 else(fb p w i (tbq p (qq A N) (fun i=>i) 16 0) (lN (qq A N) w 16 0) ((16+m:Nat):Int) ((m+16:Nat):Int) ((m+16:Nat):Int) 16,16,i)
theorem tick_A (P:Par p w (qq A N) (fun i=>i)) {a r f:Int} (ha:0<=a/\a<=1000) (hr:0<=r/\r<=1000) (hf:0<=f/\f<=1000):
 ∃ sn,yd3 (fb p w 0 (tbq p (qq A N) (fun i=>i) 0 16) (lN (qq A N) w 0 16) a r f 0)=some (fb p w 1 (tbq p (qq A N) (fun i=>i) 0 16) (lBq (qq A N) w 0 15 (1+w)) a r f 1,sn,[]):=
 tick_gen P (now:=0) (by omega) (zkm P (by omega) ha hr hf (by omega) (by omega) (by omega)) (by rw [zpo P.hp,zjo P.hs,zpa P.hs];omega) (by omega) (by omega) _ [] []
  (tick_first P (now:=1) (by omega) (by omega) (j:=0) (n:=15) (by omega)) (by simp) (by simp) (zdc (by omega) (by omega)) (zgo _)
theorem tick_B (P:Par p w (qq A N) (fun i=>i)) {now a r f s due:Int} {c n:Nat} (hnow:0<=now/\now<=100) (ha:0<=a/\a<=1000) (hr:0<=r/\r<=1000) (hf:0<=f/\f<=1000) (hs:0<=s/\s<=900) (hn:c+1+n<=16) (hd:now+1<due) (hd2:due<=500):
 ∃ sn,yd3 (fb p w now (tbq p (qq A N) (fun i=>i) c (n+1)) (lBq (qq A N) w c n due) a r f s)=some (fb p w (now+1) (tbq p (qq A N) (fun i=>i) c (n+1)) (lBq (qq A N) w c n due) a r f s,sn,[]):=
 tick_gen P (by omega) (zqs P (by omega) ha hr hf (by omega) hn (by omega)) (by rw [zpo P.hp,zjo P.hs,zlb P.hs];omega) (by omega) (by omega) [] [] []
  (tick_wait P (by omega) hd (by omega) (by omega)) (by simp) (by simp) (zgx hs.1 (by omega)) (zgo _)
theorem tick_C (P:Par p w (qq A N) (fun i=>i)) {now a r f s due:Int} {c n:Nat} (hnow:0<=now/\now<=100) (ha:0<=a/\a<=1000) (hr:0<=r/\r<=900) (hf:0<=f/\f<=900) (hs:0<=s/\s<=900) (hn:c+1+(n+1)<=16) (hd:due<=now+1) (hd2:0<=due):
 ∃ sn,yd3 (fb p w now (tbq p (qq A N) (fun i=>i) c (n+1+1)) (lBq (qq A N) w c (n+1) due) a r f s)=some (fb p w (now+1) (tbq p (qq A N) (fun i=>i) (c+1) (n+1)) (lBq (qq A N) w (c+1) n (now+1+w)) a (r+1) (f+1) (s+1),sn,[rp (fun i=>i) p (qq A N) c]):=
 tick_gen P (by omega) (zqs P (by omega) ha (by omega) (by omega) (by omega) hn (by omega)) (by rw [zpo P.hp,zjo P.hs,zlb P.hs];omega) (by omega) (by omega) _ [dn c] [rp (fun i=>i) p (qq A N) c]
  (tick_next P hd (by omega) hd2 (by omega)) (by simp) (by simp) (zdc hs.1 (by omega)) (tellOne P (by omega) (by omega) (by omega))
theorem tick_D (P:Par p w (qq A N) (fun i=>i)) {now a r f s due:Int} (hnow:0<=now/\now<=100) (ha:0<=a/\a<=1000) (hr:0<=r/\r<=900) (hf:0<=f/\f<=900) (hs:0<=s/\s<=900) (hd:due<=now+1) (hd2:0<=due):
 ∃ sn,yd3 (fb p w now (tbq p (qq A N) (fun i=>i) 15 1) (lBq (qq A N) w 15 0 due) a r f s)=some (fb p w (now+1) (tbq p (qq A N) (fun i=>i) 16 0) (lN (qq A N) w 16 0) a (r+1) (f+1) s,sn,[rp (fun i=>i) p (qq A N) 15]):=
 tick_gen P (by omega) (zqs P (by omega) ha (by omega) (by omega) (by omega) (by omega) (by omega)) (by rw [zpo P.hp,zjo P.hs,zlb P.hs];omega) (by omega) (by omega) [] [dn 15] [rp (fun i=>i) p (qq A N) 15]
  (tick_last P hd (by omega) hd2) (by simp) (by simp) (zgx hs.1 (by omega)) (tellOne P (n:=0) (by omega) (by omega) (by omega))
theorem tick_E (P:Par p w (qq A N) (fun i=>i)) {now a r f s:Int} (hnow:0<=now/\now<=100) (ha:0<=a/\a<=1000) (hr:0<=r/\r<=1000) (hf:0<=f/\f<=1000) (hs:0<=s/\s<=900):
 ∃ sn,yd3 (fb p w now (tbq p (qq A N) (fun i=>i) 16 0) (lN (qq A N) w 16 0) a r f s)=some (fb p w (now+1) (tbq p (qq A N) (fun i=>i) 16 0) (lN (qq A N) w 16 0) a r f s,sn,[]):=
 tick_gen P (by omega) (zkm P (by omega) ha hr hf (by omega) (by omega) (by omega)) (by rw [zpo P.hp,zjo P.hs,zpa P.hs];omega) (by omega) (by omega) [] [] []
  (tick_idle P _ _) (by simp) (by simp) (zgx hs.1 (by omega)) (zgo _)
theorem stB_step (P:Par p w (qq A N) (fun i=>i)) {m i c c':Nat} (hm:m<=4) (hi:i<60) (hc:i≠0->c<16->c * w<i/\i<=(c+1) * w) (hc':c'<16->c' * w<i+1/\i+1<=(c'+1) * w) (h0:i=0->c=0) (h16:c'<=16) (h16':c<=16) (hcc:c'=c\/c'=c+1/\((c:Int)+1) * w<=i) (hcn:c'=c->c<16->i≠0->(i:Int)<(c+1) * w) (hcz:i=0->c'=0) (v11 v13:Int):
 zdi v11 v13 (stB p w A N m i c)=some (.inl (stB p w A N m (i+1) c')):=by
 have hw:=P.hw
 by_cases hz:i=0
 ·subst hz
  have e0:=h0 rfl
  have e1:=hcz rfl
  subst e0 e1
  obtain ⟨sn,h⟩:=tick_A P (a:=((16+m:Nat):Int)) (r:=m) (f:=m) (by omega) (by omega) (by omega)
  have es:stB p w A N m 0 0=(fb p w 0 (tbq p (qq A N) (fun i=>i) 0 16) (lN (qq A N) w 0 16) ((16+m:Nat):Int) m m 0,0,0):=rfl
  have es':stB p w A N m (0+1) 0=(fb p w 1 (tbq p (qq A N) (fun i=>i) 0 16) (lBq (qq A N) w 0 15 (1+w)) ((16+m:Nat):Int) m m 1,0,1):=by
   unfold stB;rw [if_neg (by omega),if_pos (by omega)]
   simp
  rw [es,es']
  simp only [zdi,show decide ((0:Int)<60)=true from rfl,cond_true,h,Option.bind_some]
  rfl
 have hd:decide ((i:Int)<60)=true:=by simp;omega
 have wi:IntKind.i64.wrap ((i:Int)+1)=((i+1:Nat):Int):=by rw [zah (by omega) (by omega)];omega
 have ei:((i:Int)+1)=((i+1:Nat):Int):=by omega
 by_cases hlt:c<16
 ·have es:stB p w A N m i c=(fb p w i (tbq p (qq A N) (fun i=>i) c (16 - c)) (lBq (qq A N) w c (15 - c) (1+(c+1) * w)) ((16+m:Nat):Int) ((m+c:Nat):Int) ((m+c:Nat):Int) ((c+1:Nat):Int),(c:Int),(i:Int)):=by
   unfold stB;rw [if_neg hz,if_pos hlt]
  have hb:=hc hz hlt
  have hcw:((c:Int)+1) * w<=48:=by
   have h1:((c:Int)+1) * w<=((c:Int)+1) * 3:=Int.mul_le_mul_of_nonneg_left (by omega) (by omega)
   omega
  have hcw0:0<=((c:Int)+1) * w:=Int.mul_nonneg (by omega) (by omega)
  rcases hcc with rfl|⟨rfl,hge⟩
  ·have hnd:=hcn rfl hlt hz
   have es':stB p w A N m (i+1) c'=(fb p w ((i+1:Nat):Int) (tbq p (qq A N) (fun i=>i) c' (16 - c')) (lBq (qq A N) w c' (15 - c') (1+(c'+1) * w)) ((16+m:Nat):Int) ((m+c':Nat):Int) ((m+c':Nat):Int) ((c'+1:Nat):Int),(c':Int),((i+1:Nat):Int)):=by
    unfold stB;rw [if_neg (by omega),if_pos hlt]
   obtain ⟨sn,h⟩:=tick_B P (now:=i) (a:=((16+m:Nat):Int)) (r:=((m+c':Nat):Int)) (f:=((m+c':Nat):Int)) (s:=((c'+1:Nat):Int)) (due:=1+(c'+1) * w) (c:=c') (n:=15 - c') (by omega) (by omega) (by omega) (by omega) (by omega) (by omega) (by omega) (by omega)
   rw [show 15 - c'+1=16 - c' by omega,ei] at h
   rw [es,es']
   simp only [zdi,hd,cond_true,h,Option.bind_some,wi,List.length_nil]
   rw [zah (by omega) (by omega)];simp
  ·by_cases hl:c+1<16
   ·have hb':=hc' hl
    have eq:(i:Int)=((c:Int)+1) * w:=by omega
    have es':stB p w A N m (i+1) (c+1)=(fb p w ((i+1:Nat):Int) (tbq p (qq A N) (fun i=>i) (c+1) (15 - c)) (lBq (qq A N) w (c+1) (14 - c) (((i+1:Nat):Int)+w)) ((16+m:Nat):Int) (((m+c:Nat):Int)+1) (((m+c:Nat):Int)+1) (((c+1:Nat):Int)+1),((c+1:Nat):Int),((i+1:Nat):Int)):=by
     unfold stB;rw [if_neg (by omega),if_pos hl,show 16 - (c+1)=15 - c by omega,show 15 - (c+1)=14 - c by omega,show (((m+(c+1):Nat):Int))=((m+c:Nat):Int)+1 by omega,show ((c+1+1:Nat):Int)=((c+1:Nat):Int)+1 by omega]
     have:(1:Int)+(((c+1:Nat):Int)+1) * w=((i+1:Nat):Int)+w:=by
      have e2:(((c+1:Nat):Int)+1) * w=((c:Int)+1) * w+w:=by rw [show ((c+1:Nat):Int)=(c:Int)+1 by omega,Int.add_mul ((c:Int)+1) 1 w,Int.one_mul]
      omega
     rw [this]
    obtain ⟨sn,h⟩:=tick_C P (now:=i) (a:=((16+m:Nat):Int)) (r:=((m+c:Nat):Int)) (f:=((m+c:Nat):Int)) (s:=((c+1:Nat):Int)) (due:=1+(c+1) * w) (c:=c) (n:=14 - c) (by omega) (by omega) (by omega) (by omega) (by omega) (by omega) (by omega) (by omega)
    rw [show 14 - c+1=15 - c by omega,show 15 - c+1=16 - c by omega,ei] at h
    rw [es,es']
    simp only [zdi,hd,cond_true,h,Option.bind_some,wi,List.length_singleton]
    rw [zah (by omega) (by omega)];rfl
   ·have hce:c=15:=by omega
    subst hce
    have es':stB p w A N m (i+1) (15+1)=(fb p w ((i+1:Nat):Int) (tbq p (qq A N) (fun i=>i) 16 0) (lN (qq A N) w 16 0) ((16+m:Nat):Int) (((m+15:Nat):Int)+1) (((m+15:Nat):Int)+1) 16,16,((i+1:Nat):Int)):=by
     unfold stB;rw [if_neg (by omega),if_neg (by omega),show (((m+16:Nat):Int))=((m+15:Nat):Int)+1 by omega]
    obtain ⟨sn,h⟩:=tick_D P (now:=i) (a:=((16+m:Nat):Int)) (r:=((m+15:Nat):Int)) (f:=((m+15:Nat):Int)) (s:=16) (due:=1+((15:Nat)+1) * w) (by omega) (by omega) (by omega) (by omega) (by omega) (by omega) (by omega)
    rw [ei] at h
    rw [es,es']
    simp only [zdi,hd,cond_true]
    rw [show (16 - 15:Nat)=1 from rfl,show (15 - 15:Nat)=0 from rfl,show ((15+1:Nat):Int)=16 from rfl,h]
    simp only [Option.bind_some,wi,List.length_singleton]
    rfl
 ·have hce:c=16:=by omega
  subst hce
  have hc2:c'=16:=by omega
  subst hc2
  have es:∀ i,i≠0->stB p w A N m i 16=(fb p w i (tbq p (qq A N) (fun i=>i) 16 0) (lN (qq A N) w 16 0) ((16+m:Nat):Int) ((m+16:Nat):Int) ((m+16:Nat):Int) 16,16,(i:Int)):=fun i hi=>by
   unfold stB;rw [if_neg hi,if_neg (by omega)]
  obtain ⟨sn,h⟩:=tick_E P (now:=i) (a:=((16+m:Nat):Int)) (r:=((m+16:Nat):Int)) (f:=((m+16:Nat):Int)) (s:=16) (by omega) (by omega) (by omega) (by omega) (by omega)
  rw [ei] at h
  rw [es i hz,es (i+1) (by omega)]
  simp only [zdi,hd,cond_true,h,Option.bind_some,wi,List.length_nil]
  rfl
end
end Go.Pm
namespace Go.Pm
set_option maxRecDepth 100000
def cnt (w i:Nat):Nat:=if i=0 then 0 else min 16 ((i - 1) / w)
theorem ycb {p:Nat} {A N:Int} {w:Nat} (P:Par p w (qq A N) (fun i=>i)) (hw:w=1\/w=2\/w=3) {m i:Nat} (hm:m<=4) (hi:i<60) (v11 v13:Int):
 zdi v11 v13 (stB p w A N m i (cnt w i))=some (.inl (stB p w A N m (i+1) (cnt w (i+1)))):=by
 have e1:cnt w (i+1)=min 16 (i / w):=by simp [cnt]
 have e0:cnt w 0=0:=rfl
 have e2:i≠0->cnt w i=min 16 ((i - 1) / w):=fun h=>by simp [cnt,h]
 generalize hc:cnt w i=c at *
 generalize hc':cnt w (i+1)=c' at *
 have e3:i=0->c=0:=fun h=>by subst h;exact hc.symm
 refine stB_step P hm hi ?_ ?_ e3 ?_ ?_ ?_ ?_ ?_ v11 v13
 ·intro h1 h2
  have:=e2 h1
  rcases hw with rfl|rfl|rfl <;> omega
 ·intro h1
  rcases hw with rfl|rfl|rfl <;> omega
 ·omega
 ·by_cases h:i=0
  ·rw [e3 h];omega
  ·rw [e2 h];omega
 ·by_cases h:i=0
  ·left;rw [e3 h,e1,h];simp
  ·have:=e2 h
   rcases hw with rfl|rfl|rfl <;> omega
 ·intro h1 h2 h3
  rcases hw with rfl|rfl|rfl <;> omega
 ·intro h;rw [e1,h];simp
theorem ydr {p:Nat} {A N:Int} {w:Nat} (P:Par p w (qq A N) (fun i=>i)) (hw:w=1\/w=2\/w=3) {m:Nat} (hm:m<=4) (v11 v13:Int):
 zoo v11 v13 (fb p w 0 (tbq p (qq A N) (fun i=>i) 0 16) (lN (qq A N) w 0 16) ((16+m:Nat):Int) m m 0,0,0)=some (16,60,fb p w 60 (tbq p (qq A N) (fun i=>i) 16 0) (lN (qq A N) w 16 0) ((16+m:Nat):Int) ((m+16:Nat):Int) ((m+16:Nat):Int) 16):=by
 unfold zoo
 have hc:cnt w 60=16:=by rcases hw with rfl|rfl|rfl <;> rfl
 refine zio (fun i=>stB p w A N m i (cnt w i)) _ 60 0 BIG (fun k _ hk=>ycb P hw hm (by omega) v11 v13) ?_ (by simp only [BIG];omega)
 show zdi v11 v13 (stB p w A N m 60 (cnt w 60))=_
 rw [hc]
 have es:stB p w A N m 60 16=(fb p w 60 (tbq p (qq A N) (fun i=>i) 16 0) (lN (qq A N) w 16 0) ((16+m:Nat):Int) ((m+16:Nat):Int) ((m+16:Nat):Int) 16,16,60):=rfl
 rw [es]
 simp only [zdi,show decide ((60:Int)<60)=false from rfl,cond_false]
theorem zq2 (v1:List Int) (h:∀ x∈v1,0<=x/\x<=255):ypg v1=some true:=by
 unfold ypg yp4
 rw [Option.bind_some]
 by_cases hbig:(1048576:Int)<((v1.length:Nat):Int)
 ·simp only [hbig,decide_true,cond_true]
 simp only [hbig,decide_false,cond_false]
 have hv:v1.length<=1048576:=by omega
 obtain ⟨a2,h2,b2,c2⟩:=zyy h hv 2 (by omega)
 obtain ⟨a3,h3,b3,c3⟩:=zyy h hv 3 (by omega)
 obtain ⟨a4,h4,b4,c4⟩:=zyy h hv 4 (by omega)
 obtain ⟨a5,h5,b5,c5⟩:=zyy h hv 5 (by omega)
 obtain ⟨a6,h6,b6,c6⟩:=zyy h hv 6 (by omega)
 have tm:∀ a n:Int,0<=a->0<n->0<=a.tmod n/\a.tmod n<n:=fun a n h1 h2=>by
  rw [Int.tmod_eq_emod_of_nonneg h1];exact ⟨Int.emod_nonneg _ (by omega),Int.emod_lt_of_pos _ h2⟩
 obtain ⟨p,hp⟩:=Int.eq_ofNat_of_zero_le (tm a2 6 b2 (by omega)).1
 obtain ⟨u,hu⟩:=Int.eq_ofNat_of_zero_le (tm a3 3 b3 (by omega)).1
 obtain ⟨m,hm⟩:=Int.eq_ofNat_of_zero_le (tm a6 5 b6 (by omega)).1
 have hp6:=(tm a2 6 b2 (by omega)).2
 have hu3:=(tm a3 3 b3 (by omega)).2
 have hm5:=(tm a6 5 b6 (by omega)).2
 have hA:=tm a4 50 b4 (by omega)
 have hN:=tm a5 9 b5 (by omega)
 have ew:IntKind.i64.wrap (1+a3.tmod 3)=((1+u:Nat):Int):=by rw [hu,zah (by omega) (by omega)];omega
 have eN:IntKind.i64.wrap (1+a5.tmod 9)=1+a5.tmod 9:=zah (by omega) (by omega)
 have em:IntKind.i64.wrap (16+a6.tmod 5)=((16+m:Nat):Int):=by rw [hm,zah (by omega) (by omega)];omega
 have em2:IntKind.i64.wrap (((16+m:Nat):Int) - 16)=(m:Int):=by rw [zah (by omega) (by omega)];omega
 have hq:zkq (qq (a4.tmod 50) (1+a5.tmod 9))=true:=yf3 hA.1 (by omega) (by omega) (by omega)
 have hs:(qq (a4.tmod 50) (1+a5.tmod 9)).sz=0:=rfl
 have P:Par p ((1+u:Nat):Int) (qq (a4.tmod 50) (1+a5.tmod 9)) (fun i=>i):=⟨by omega,by omega,hq,fun i hi=>by constructor <;> omega,hs,yaa (by omega)⟩
 have P9:Par p ((1+u:Nat):Int) (qq (a4.tmod 50) (1+a5.tmod 9)) (fun i=>999):=⟨by omega,by omega,hq,fun i hi=>by constructor <;> omega,hs,yaa (by omega)⟩
 have hnew:=new_fab P
 have hask:=asks_ok P (show 0<=a4.tmod 50/\a4.tmod 50<=49 by omega) (show 1<=1+a5.tmod 9/\1+a5.tmod 9<=9 by omega) (v11:=a4) (v13:=a5) (v15:=a6) rfl eN (m:=m) (by omega) hm
 have hst:(stA p ((1+u:Nat):Int) (a4.tmod 50) (1+a5.tmod 9) (16+m)).1=fb p ((1+u:Nat):Int) 0 (tbq p (qq (a4.tmod 50) (1+a5.tmod 9)) (fun i=>i) 0 16) (lN (qq (a4.tmod 50) (1+a5.tmod 9)) ((1+u:Nat):Int) 0 16) ((16+m:Nat):Int) m m 0:=by
  unfold stA
  by_cases h:16+m<=16
  ·have:m=0:=by omega
   subst this;rfl
  ·rw [if_neg h,show 16+m - 16=m by omega]
 rw [hst] at hask
 have htick:=ydr P (show 1+u=1\/1+u=2\/1+u=3 by omega) (m:=m) (by omega) a4 a5
 have hload:=load_ok P (now:=0) (a:=((16+m:Nat):Int)) (r:=m) (f:=m) (s:=0) (j:=0) (n:=16) (by omega) (by omega) (by omega) (by omega) (by omega) (by omega) (by omega)
 have hload2:=load_ok P (now:=60) (a:=((16+m:Nat):Int)) (r:=((m+16:Nat):Int)) (f:=((m+16:Nat):Int)) (s:=16) (j:=16) (n:=0) (by omega) (by omega) (by omega) (by omega) (by omega) (by omega) (by omega)
 have hlast:=zv4 P9 (show 0<=a4.tmod 50/\a4.tmod 50<=49 by omega) (show 1<=1+a5.tmod 9/\1+a5.tmod 9<=9 by omega) (now:=60) (a:=((16+m:Nat):Int)) (r:=((m+16:Nat):Int)) (f:=((m+16:Nat):Int)) (s:=16) (j:=16) (n:=0) (by omega) (by omega) (by omega) (by omega) (by omega) (by omega) (by omega)
 have e2:zvx v1 2=some a2:=h2
 have e3:zvx v1 3=some a3:=h3
 have e4:zvx v1 4=some a4:=h4
 have e5:zvx v1 5=some a5:=h5
 have e6:zvx v1 6=some a6:=h6
 have er:([(⟨1,2,0,99,a2.tmod 6,9,0⟩:Tf)]:List Tf)=[rl p]:=by rw [hp];rfl
 simp only [e2,e3,e4,e5,e6,Option.bind_some,ew,er,hnew,hask,ze8,em,em2,show decide ((m:Int)≠(m:Int))=false by simp,cond_false,hload,show decide (((16:Nat):Int)≠16)=false from rfl,htick]
 have eq0:(⟨3,a4.tmod 50,IntKind.i64.wrap (1+a5.tmod 9),[],[],0⟩:Ti)=qq (a4.tmod 50) (1+a5.tmod 9):=by rw [eN];rfl
 have hl2:yf6 (fb p ((1+u:Nat):Int) 60 (tbq p (qq (a4.tmod 50) (1+a5.tmod 9)) (fun i=>i) 16 0) (lN (qq (a4.tmod 50) (1+a5.tmod 9)) ((1+u:Nat):Int) 16 0) ((16+m:Nat):Int) ((m+16:Nat):Int) ((m+16:Nat):Int) 16) 0 999 1 (qq (a4.tmod 50) (1+a5.tmod 9))=_:=hlast
 rw [eq0,hl2]
 simp only [Option.bind_some,decide_true,cond_true,hload2,show decide (((0:Nat):Int)=0)=true from rfl,List.length_nil]
end Go.Pm
