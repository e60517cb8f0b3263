/- Proved: the law FnExactWorldOk answers true at all arguments, for every operating system that has started; no conditions beyond the row's own. -/
import Derived.Test.YtfoflieoeahhfaaGreatMo
set_option linter.unusedVariables false
set_option linter.unusedSimpArgs false
namespace Go.Pm
open IntKind (i64)
set_option maxRecDepth 100000
set_option maxHeartbeats 400000
def zik (v1:To) (v86:Int) (v179:List Ta) (s:List Ta):Option ((List Ta×Int×Int×Bool×V×V)⊕(List Ta)):=if v179.length<=9223372036854775806 then zaf (zsp v1 v86 v179) (ybi v1 v86 v179) v179 0 s else none
def ycj (v1:To) (v86:Int) (v179:List Ta) (s:List Ta):Lc2:=⟨15,ydj,1,[0,2,7,8,9,10,11,12,13,14],some (zvm v1 v86 v179 0 s),List Ta×Int×Int×Bool×V×V,List Ta,zik v1 v86 v179 s,zo9 v1 v86 v179,zon v1 v86 v179⟩
theorem yq8 {v1:To} {v86:Int} {v179:List Ta} {s:List Ta}:(ycj v1 v86 v179 s).ok tab:=zar (zaa (J:=zvm v1 v86 v179) (o:=(Sum.elim (zo9 v1 v86 v179) (zon v1 v86 v179))) v179 (B:=fun(k:Int) (x:Ta) (s:List Ta)=>(.lenB Ta.i v179<|.kb (decide (k<(v179.length:Int))) true<|.lp2 (yga v1 v86 v179 s k ()) (fun (v257:Int)=>.lfA (zmb v1 v86 v179 (i64.wrap (k+1))) (.inr (.inl (s,k,v257,true,(.bool true:V),(.gone:V))))) (fun (v258:Unit)=>.guard (0<=k/\(k:Int)<(((v179.map Ta.i).length - 0:Nat):Int)) inferInstance<|.lkY Ta.i v179 (k.toNat) x<|.callF (qkz v1 v86 x) fun(v259:Bool)=>.br (!v259) (.lfA (zmb v1 v86 v179 (i64.wrap (k+1))) (.inr (.inl (s,k,(s.length:Int),false,(.gone:V),(.bool true:V)))))<|.guard (0<=k/\(k:Int)<(((v179.map Ta.i).length - 0:Nat):Int)) inferInstance<|.lkY Ta.i v179 (k.toNat) x<|.eqL [.agg [.int .i64 x.fk,.int .i64 x.fr,.int .i64 x.fg,.int .i64 x.fa.fd,.int .i64 x.fa.fe,.int .i64 x.fa.fN,.imm 1 (x.fa.fb.map (V.int .i64)),.imm 1 (x.fa.fc.map V.bool),.int .i64 x.fa.fi]] (([x]:List Ta).map Ta.i)<|.segA Ta.i s<|.segA Ta.i ([x]:List Ta)<|.guard (((s.map Ta.i).length+(([x]:List Ta).map Ta.i).length) * 104<=70368744177664) inferInstance<|.appA Ta.i s ([x]:List Ta)<|.segA Ta.i (s++([x]:List Ta))<|.lfA (zmb v1 v86 v179 (i64.wrap (k+1))) (.inl (s++([x]:List Ta)))):Tree ((List Ta)⊕((List Ta×Int×Int×Bool×V×V)⊕(List Ta))) _)) (E:=fun(s:List Ta)=>(.lenB Ta.i v179<|.kb (decide ((v179.length:Int)<(v179.length:Int))) false<|.lfA (zmb v1 v86 v179 0) (.inr (.inr s)):Tree ((List Ta)⊕((List Ta×Int×Int×Bool×V×V)⊕(List Ta))) _)) (fun k x s=>by kernel_rfl) (fun d x t s he=>lB<|⟨ltX he,lQ yp8 (fun v257=>rfl) (fun v258=>gU<|⟨zgh Ta.i he,cF qxx fun v259=>bR (rfl)<|gU<|⟨zgh Ta.i he,⟨rfl,sA<|sA<|gU<|aA<|sA<|rfl⟩⟩⟩)⟩) (ho2 (fun _=>rfl) fun _=>rfl) (fun s=>by kernel_rfl) (fun s=>lB<|⟨ltE _,rfl⟩) (by kernel_rfl) (by kernel_rfl) s)
def zul (v1:To) (k:Int) (s:List Ta):St:=⟨sv 15 [(1,.ref (.box 0) 0 []),(3,.own 9 (s.map Ta.i)),(4,.I k)],[[.I v1.fat,.I v1.ft.faf,.I v1.ft.fad,.imm 7 (v1.ft.fah.map Te.i),.I v1.fq.fw,.imm 13 (v1.fq.fj.map Tb.i),.imm 17 (v1.faa.map Tc.i),.I v1.far,.I v1.fau,.I v1.fas,.I v1.fav]]⟩
def zpt (v1:To):(List Ta×Int×V×V×V×V×V×V×V)->Ex×St:=fun p=>(.ret,⟨sv 15 [(1,.ref (.box 0) 0 []),(2,.bool false),(3,.own 9 (p.1.map Ta.i)),(4,.I p.2.1),(5,p.2.2.1),(6,p.2.2.2.1),(7,p.2.2.2.2.1),(9,p.2.2.2.2.2.1),(10,p.2.2.2.2.2.1),(12,p.2.2.2.2.2.2.1),(13,p.2.2.2.2.2.2.2.1),(14,p.2.2.2.2.2.2.2.2)],[[.I v1.fat,.I v1.ft.faf,.I v1.ft.fad,.imm 7 (v1.ft.fah.map Te.i),.I v1.fq.fw,.imm 13 (v1.fq.fj.map Tb.i),.imm 17 (v1.faa.map Tc.i),.I v1.far,.I v1.fau,.I v1.fas,.I v1.fav]]⟩)
def zml (v1:To):(List Ta)->Ex×St:=fun p=>((.exit 0),⟨sv 15 [(1,.ref (.box 0) 0 []),(3,.own 9 (p.map Ta.i)),(4,.I (v1.faa.length:Int)),(9,.bool false)],[[.I v1.fat,.I v1.ft.faf,.I v1.ft.fad,.imm 7 (v1.ft.fah.map Te.i),.I v1.fq.fw,.imm 13 (v1.fq.fj.map Tb.i),.imm 17 (v1.faa.map Tc.i),.I v1.far,.I v1.fau,.I v1.fas,.I v1.fav]]⟩)
def zop (v1:To) (k:Int):=zbn (zul v1 k) (Sum.elim (zpt v1) (zml v1))
def zs3 (v1:To) (k:Int) (x:Tc) (s:List Ta):Option ((List Ta)⊕((List Ta×Int×V×V×V×V×V×V×V)⊕(List Ta))):=(qbp x).bind fun v177=>(bif !v177 then(some (.inr (.inl (s,k,(.gone:V),(.gone:V),(.gone:V),(.bool true:V),(.gone:V),(.gone:V),(.gone:V))))) else((qbo x).bind fun v179=>((zik v1 k v179 s).bind (zbj (fun (v261:List Ta×Int×Int×Bool×V×V)=>(some (.inr (.inl (v261.1,k,(.own 9 (v179.map Ta.i):V),(.int .i64 v261.2.1:V),(.int .i64 v261.2.2.1:V),(.gone:V),(.bool v261.2.2.2.1:V),(v261.2.2.2.2.1:V),(v261.2.2.2.2.2:V)))))) (fun (v262:List Ta)=>(some (.inl v262)))))))
def ygw (v1:To) (s:List Ta):Option ((List Ta×Int×V×V×V×V×V×V×V)⊕(List Ta)):=some ((.inr s))
def zjp (v1:To) (s:List Ta):Option ((List Ta×Int×V×V×V×V×V×V×V)⊕(List Ta)):=if v1.faa.length<=9223372036854775806 then zaf (zs3 v1) (ygw v1) v1.faa 0 s else none
def yfo (v1:To) (s:List Ta):Lc2:=⟨15,yl8,1,[0,2,5,6,7,8,9,10,11,12,13,14],some (zul v1 0 s),List Ta×Int×V×V×V×V×V×V×V,List Ta,zjp v1 s,zpt v1,zml v1⟩
theorem yoh {v1:To} {s:List Ta}:(yfo v1 s).ok tab:=zar (zaa (J:=zul v1) (o:=(Sum.elim (zpt v1) (zml v1))) v1.faa (B:=fun(k:Int) (x:Tc) (s:List Ta)=>(.lenA Tc.i v1.faa<|.kb (decide (k<(v1.faa.length:Int))) true<|.ob (0<=k)<|.lkX Tc.i v1.faa (k.toNat) x<|.callF (qky x) fun(v177:Bool)=>.br (!v177) (.lfA (zop v1 (i64.wrap (k+1))) (.inr (.inl (s,k,(.gone:V),(.gone:V),(.gone:V),(.bool true:V),(.gone:V),(.gone:V),(.gone:V)))))<|.ob (0<=k)<|.lkX Tc.i v1.faa (k.toNat) x<|.call (qki x) fun(v179:List Ta)=>.segA Ta.i v179<|.lp2 (ycj v1 k v179 s) (fun (v261:List Ta×Int×Int×Bool×V×V)=>.lfA (zop v1 (i64.wrap (k+1))) (.inr (.inl (v261.1,k,(.own 9 (v179.map Ta.i):V),(.int .i64 v261.2.1:V),(.int .i64 v261.2.2.1:V),(.gone:V),(.bool v261.2.2.2.1:V),(v261.2.2.2.2.1:V),(v261.2.2.2.2.2:V))))) (fun (v262:List Ta)=>.lfA (zop v1 (i64.wrap (k+1))) (.inl v262)):Tree ((List Ta)⊕((List Ta×Int×V×V×V×V×V×V×V)⊕(List Ta))) _)) (E:=fun(s:List Ta)=>(.lenA Tc.i v1.faa<|.kb (decide ((v1.faa.length:Int)<(v1.faa.length:Int))) false<|.lfA (zop v1 0) (.inr (.inr s)):Tree ((List Ta)⊕((List Ta×Int×V×V×V×V×V×V×V)⊕(List Ta))) _)) (fun k x s=>by kernel_rfl) (fun d x t s he=>lA<|⟨ltX he,⟨Int.natCast_nonneg _,⟨za7 Tc.i he,cF qsy fun v177=>bR (rfl)<|⟨Int.natCast_nonneg _,⟨za7 Tc.i he,cE qv2 fun v179=>sA<|lQ yq8 (fun v261=>rfl) (fun v262=>rfl)⟩⟩⟩⟩⟩) (ho2 (fun _=>rfl) fun _=>rfl) (fun s=>by kernel_rfl) (fun s=>lA<|⟨ltE _,rfl⟩) (by kernel_rfl) (by kernel_rfl) s)
def yy8 (v1:To):Option Bool:=(ys4 v1.fat).bind fun v2=>(bif !v2 then(some false) else((qbr v1.ft).bind fun v4=>(bif !v4 then(some false) else((ysu v1.fq).bind fun v6=>(bif !v6 then(some false) else(bif decide ((v1.faa.length:Int)≠6) then(some false) else((zcd v1.far 0 1000000000).bind fun v9=>(bif !v9 then(some false) else((zcd v1.fau 0 1000000000).bind fun v11=>(bif !v11 then(some false) else((zcd v1.fas 0 1000000000).bind fun v13=>(bif !v13 then(some false) else((zcd v1.fav 0 1000000000).bind fun v15=>(bif !v15 then(some false) else((zjp v1 ([])).bind (zbj (fun (v263:List Ta×Int×V×V×V×V×V×V×V)=>(some false)) (fun (v264:List Ta)=>((yzs v1.fq).bind fun v265=>(some (decide ((v264.length:Int)=v265)))))))))))))))))))))
def qoj (v1:To):Ctr:=⟨yxc,[.agg [.I v1.fat,.I v1.ft.faf,.I v1.ft.fad,.imm 7 (v1.ft.fah.map Te.i),.I v1.fq.fw,.imm 13 (v1.fq.fj.map Tb.i),.imm 17 (v1.faa.map Tc.i),.I v1.far,.I v1.fau,.I v1.fas,.I v1.fav]],[],Bool,yy8 v1,rB⟩
theorem qr7 {v1:To}:(qoj v1).okF tab:=fun r hr=>⟨za1 jab rfl (.callF (qg8 v1.fat) fun(v2:Bool)=>.br (!v2) (.lfA rB false)<|.callF (qoi v1.ft) fun(v4:Bool)=>.br (!v4) (.lfA rB false)<|.callF (qgk v1.fq) fun(v6:Bool)=>.br (!v6) (.lfA rB false)<|.lenA Tc.i v1.faa<|.br (decide ((v1.faa.length:Int)≠6)) (.lfA rB false)<|.callF (zcj v1.far 0 1000000000) fun(v9:Bool)=>.br (!v9) (.lfA rB false)<|.callF (zcj v1.fau 0 1000000000) fun(v11:Bool)=>.br (!v11) (.lfA rB false)<|.callF (zcj v1.fas 0 1000000000) fun(v13:Bool)=>.br (!v13) (.lfA rB false)<|.callF (zcj v1.fav 0 1000000000) fun(v15:Bool)=>.br (!v15) (.lfA rB false)<|.sk<|.seg [] 0 0 []<|.lp2 (yfo v1 ([])) (fun (v263:List Ta×Int×V×V×V×V×V×V×V)=>.lfA rB false) (fun (v264:List Ta)=>.lenB Ta.i v264<|.callF (qlm v1.fq) fun(v265:Int)=>.lfA rB (decide ((v264.length:Int)=v265))):Tree Bool _) (by kernel_rfl) (by kernel_rfl) (cF qm3 fun v2=>bR (rfl)<|cF qux fun v4=>bR (rfl)<|cF ql2 fun v6=>bR (rfl)<|lA<|bR (rfl)<|cF zck fun v9=>bR (rfl)<|cF zck fun v11=>bR (rfl)<|cF zck fun v13=>bR (rfl)<|cF zck fun v15=>bR (rfl)<|⟨zc1 [],lQ yoh (fun v263=>rfl) (fun v264=>lB<|cF qqy fun v265=>rfl)⟩) hr,rfl,rfl⟩
def yuh (v1:Tq):Option Bool:=bif decide ((v1.fao.length:Int)<=64) then(bif decide ((v1.fap.length:Int)<=64) then(bif decide ((v1.fam.length:Int)<=64) then(bif decide ((v1.fb.length:Int)<=64) then((yrq v1.fam).bind fun v6=>(bif v6 then((yrq v1.fb).bind fun v8=>(some v8)) else(some false))) else(some false)) else(some false)) else(some false)) else(some false)
def qnq (v1:Tq):Ctr:=⟨qa8,[.agg [.imm 1 (v1.fao.map V.bool),.imm 1 (v1.fap.map V.bool),.imm 1 (v1.fam.map (V.int .i64)),.imm 1 (v1.fb.map (V.int .i64))]],[],Bool,yuh v1,rB⟩
theorem qwk {v1:Tq}:(qnq v1).okF tab:=fun r hr=>⟨za1 jjn rfl (.lenA V.bool v1.fao<|.br (decide ((v1.fao.length:Int)<=64)) (.lenA V.bool v1.fap<|.br (decide ((v1.fap.length:Int)<=64)) (.lenA (V.int .i64) v1.fam<|.br (decide ((v1.fam.length:Int)<=64)) (.lenA (V.int .i64) v1.fb<|.br (decide ((v1.fb.length:Int)<=64)) (.callF (yu7 v1.fam) fun(v6:Bool)=>.br v6 (.callF (yu7 v1.fb) fun(v8:Bool)=>.lfA rB v8)<|.lfA rB false)<|.lfA rB false)<|.lfA rB false)<|.lfA rB false)<|.lfA rB false:Tree Bool _) (by kernel_rfl) (by kernel_rfl) (lA<|bR (lA<|bR (lA<|bR (lA<|bR (cF yvt fun v6=>bR (cF yvt fun v8=>rfl)<|rfl)<|rfl)<|rfl)<|rfl)<|rfl) hr,rfl,rfl⟩
def zwb (v1:List Tf) (v12:Int) (s:Int):St:=⟨sv 8 [(0,.imm 6 (v1.map Tf.i)),(2,.I v12),(3,.I s)],[]⟩
def zmn (v1:List Tf) (v12:Int):Int->Ex×St:=fun p=>(.ret,⟨sv 8 [(0,.imm 6 (v1.map Tf.i)),(1,.bool false),(2,.I v12),(3,.I p),(6,.bool true),(7,.bool true)],[]⟩)
def zos (v1:List Tf) (v12:Int):Int->Ex×St:=fun p=>((.exit 2),⟨sv 8 [(0,.imm 6 (v1.map Tf.i)),(2,.I v12),(3,.I p),(6,.bool false)],[]⟩)
def zpr (v1:List Tf) (v12:Int):=zbn (zwb v1 v12) (Sum.elim (zmn v1 v12) (zos v1 v12))
def zrx (v1:List Tf) (v12:Int) (s:Int):Option ((Int)⊕(Int⊕Int)):=bif decide (s<v12) then(if 0<=s then(((v1)[s.toNat]?).bind fun v69=>(if 0<=v12 then(((v1)[v12.toNat]?).bind fun v71=>(bif decide (v69.fp=v71.fp) then(if 0<=s then(if 0<=v12 then(bif decide (v69.fg=v71.fg) then(some (.inr (.inl s))) else(some (.inl (i64.wrap (s+1))))) else none) else none) else(some (.inl (i64.wrap (s+1)))))) else none)) else none) else(some (.inr (.inr s)))
def zih (v1:List Tf) (v12:Int) (s:Int):Option (Int⊕Int):=zcl (zrx v1 v12) BIG s
def yc0 (v1:List Tf) (v12:Int) (s:Int):Lc2:=⟨8,yhm,0,[1,4,5,6,7],some (zwb v1 v12 s),Int,Int,zih v1 v12 s,zmn v1 v12,zos v1 v12⟩
theorem yoz {v1:List Tf} {v12:Int} {s:Int}:(yc0 v1 v12 s).ok tab:=zar (zgk (J:=zwb v1 v12) (o:=(Sum.elim (zmn v1 v12) (zos v1 v12))) (B:=fun(s:Int)=>(.br (decide (s<v12)) (.guard (0<=s) inferInstance<|.lookA Tf.i v1 (s.toNat) fun v69=>.guard (0<=v12) inferInstance<|.lookA Tf.i v1 (v12.toNat) fun v71=>.br (decide (v69.fp=v71.fp)) (.guard (0<=s) inferInstance<|.lkX Tf.i v1 (s.toNat) v69<|.guard (0<=v12) inferInstance<|.lkX Tf.i v1 (v12.toNat) v71<|.br (decide (v69.fg=v71.fg)) (.lfA (zpr v1 v12) (.inr (.inl s)))<|.lfA (zpr v1 v12) (.inl (i64.wrap (s+1))))<|.lfA (zpr v1 v12) (.inl (i64.wrap (s+1))))<|.lfA (zpr v1 v12) (.inr (.inr s)):Tree ((Int)⊕(Int⊕Int)) _)) (fun s=>by kernel_rfl) (fun s=>bR (gU<|⟨zbw _ _ _,fun v69 h70=>gU<|⟨zbw _ _ _,fun v71 h72=>bR (gU<|⟨zaw _ h70,gU<|⟨zaw _ h72,bR (rfl)<|rfl⟩⟩)<|rfl⟩⟩)<|rfl) (ho2 (fun _=>rfl) fun _=>rfl) (by kernel_rfl) BIG s)
def zwr (v1:List Tf) (k:Int) (s:Unit):St:=⟨sv 8 [(0,.imm 6 (v1.map Tf.i)),(2,.I k)],[]⟩
def zoh (v1:List Tf):(Int×V×V×V)->Ex×St:=fun p=>(.ret,⟨sv 8 [(0,.imm 6 (v1.map Tf.i)),(1,.bool false),(2,.I p.1),(3,p.2.1),(4,p.2.2.1),(5,p.2.2.1),(6,p.2.2.2),(7,p.2.2.2)],[]⟩)
def zns (v1:List Tf):Unit->Ex×St:=fun p=>((.exit 0),⟨sv 8 [(0,.imm 6 (v1.map Tf.i)),(2,.I (v1.length:Int)),(4,.bool false)],[]⟩)
def zgy (v1:List Tf) (k:Int):=zbn (zwr v1 k) (Sum.elim (zoh v1) (zns v1))
def yad (v1:List Tf) (k:Int) (x:Tf) (s:Unit):Option ((Unit)⊕((Int×V×V×V)⊕Unit)):=(zcd x.fp 0 5).bind fun v47=>(bif !v47 then(some (.inr (.inl (k,(.gone:V),(.bool true:V),(.gone:V))))) else((zcd x.fg 1 247).bind fun v49=>(bif !v49 then(some (.inr (.inl (k,(.gone:V),(.bool true:V),(.gone:V))))) else((yuh x.fD).bind fun v51=>(bif !v51 then(some (.inr (.inl (k,(.gone:V),(.bool true:V),(.gone:V))))) else((zih v1 k 0).bind (zbj (fun (v75:Int)=>(some (.inr (.inl (k,(.int .i64 v75:V),(.gone:V),(.bool true:V)))))) (fun (v76:Int)=>(some (.inl ()))))))))))
def ypn (v1:List Tf) (s:Unit):Option ((Int×V×V×V)⊕Unit):=some ((.inr ()))
def zur (v1:List Tf) (s:Unit):Option ((Int×V×V×V)⊕Unit):=if v1.length<=9223372036854775806 then zaf (yad v1) (ypn v1) v1 0 s else none
def yhp (v1:List Tf) (s:Unit):Lc2:=⟨8,ylj,0,[1,3,4,5,6,7],some (zwr v1 0 s),Int×V×V×V,Unit,zur v1 s,zoh v1,zns v1⟩
theorem yqx {v1:List Tf} {s:Unit}:(yhp v1 s).ok tab:=zar (zaa (J:=zwr v1) (o:=(Sum.elim (zoh v1) (zns v1))) v1 (B:=fun(k:Int) (x:Tf) (s:Unit)=>(.lenA Tf.i v1<|.kb (decide (k<(v1.length:Int))) true<|.ob (0<=k)<|.lkX Tf.i v1 (k.toNat) x<|.callF (zcj x.fp 0 5) fun(v47:Bool)=>.br (!v47) (.lfA (zgy v1 (i64.wrap (k+1))) (.inr (.inl (k,(.gone:V),(.bool true:V),(.gone:V)))))<|.ob (0<=k)<|.lkX Tf.i v1 (k.toNat) x<|.callF (zcj x.fg 1 247) fun(v49:Bool)=>.br (!v49) (.lfA (zgy v1 (i64.wrap (k+1))) (.inr (.inl (k,(.gone:V),(.bool true:V),(.gone:V)))))<|.ob (0<=k)<|.lkX Tf.i v1 (k.toNat) x<|.callF (qnq x.fD) fun(v51:Bool)=>.br (!v51) (.lfA (zgy v1 (i64.wrap (k+1))) (.inr (.inl (k,(.gone:V),(.bool true:V),(.gone:V)))))<|.lp2 (yc0 v1 k 0) (fun (v75:Int)=>.lfA (zgy v1 (i64.wrap (k+1))) (.inr (.inl (k,(.int .i64 v75:V),(.gone:V),(.bool true:V))))) (fun (v76:Int)=>.lfA (zgy v1 (i64.wrap (k+1))) (.inl ())):Tree ((Unit)⊕((Int×V×V×V)⊕Unit)) _)) (E:=fun(s:Unit)=>(.lenA Tf.i v1<|.kb (decide ((v1.length:Int)<(v1.length:Int))) false<|.lfA (zgy v1 0) (.inr (.inr ())):Tree ((Unit)⊕((Int×V×V×V)⊕Unit)) _)) (fun k x s=>by kernel_rfl) (fun d x t s he=>lA<|⟨ltX he,⟨Int.natCast_nonneg _,⟨za7 Tf.i he,cF zck fun v47=>bR (rfl)<|⟨Int.natCast_nonneg _,⟨za7 Tf.i he,cF zck fun v49=>bR (rfl)<|⟨Int.natCast_nonneg _,⟨za7 Tf.i he,cF qwk fun v51=>bR (rfl)<|lQ yoz (fun v75=>rfl) (fun v76=>rfl)⟩⟩⟩⟩⟩⟩⟩) (ho2 (fun _=>rfl) fun _=>rfl) (fun s=>by kernel_rfl) (fun s=>lA<|⟨ltE _,rfl⟩) (by kernel_rfl) (by kernel_rfl) s)
def yxl (v1:List Tf):Option Bool:=(zur v1 ()).bind (zbj (fun (v77:Int×V×V×V)=>(some false)) (fun (v78:Unit)=>(some (decide ((v1.length:Int)<=8)))))
def qmd (v1:List Tf):Ctr:=⟨yzp,[.imm 6 (v1.map Tf.i)],[],Bool,yxl v1,rB⟩
theorem jdu {v1:List Tf}:(qmd v1).okF tab:=fun r hr=>⟨za1 jdl rfl (.lp2 (yhp v1 ()) (fun (v77:Int×V×V×V)=>.lfA rB false) (fun (v78:Unit)=>.lenA Tf.i v1<|.lfA rB (decide ((v1.length:Int)<=8))):Tree Bool _) (by kernel_rfl) (by kernel_rfl) (lQ yqx (fun v77=>rfl) (fun v78=>lA<|rfl)) hr,rfl,rfl⟩
def ytb (v1:Tg):Option Bool:=(zcd v1.fp 0 5).bind fun v2=>(bif !v2 then(some false) else((zcd v1.fg 1 247).bind fun v4=>(bif !v4 then(some false) else((zcd v1.fag 0 65535).bind fun v6=>(bif !v6 then(some false) else(bif v1.fbe then((ysd v1.fh).bind fun v9=>(bif v9 then((yug v1.fa).bind fun v11=>(some v11)) else(some false))) else((yk7 v1.fa).bind fun v12=>(bif v12 then((ys8 v1.fh).bind fun v14=>(some v14)) else(some false)))))))))
def qnj (v1:Tg):Ctr:=⟨yyl,[.agg [.bool v1.fbe,.I v1.fp,.I v1.fag,.I v1.fg,.I v1.fa.fd,.I v1.fa.fe,.I v1.fa.fN,.imm 1 (v1.fa.fb.map (V.int .i64)),.imm 1 (v1.fa.fc.map V.bool),.I v1.fa.fi,.I v1.fh.fd,.I v1.fh.fae,.I v1.fh.fe,.I v1.fh.fN,.imm 1 (v1.fh.fb.map (V.int .i64)),.imm 1 (v1.fh.fc.map V.bool)]],[],Bool,ytb v1,rB⟩
theorem qrs {v1:Tg}:(qnj v1).okF tab:=fun r hr=>⟨za1 qws rfl (.callF (zcj v1.fp 0 5) fun(v2:Bool)=>.br (!v2) (.lfA rB false)<|.callF (zcj v1.fg 1 247) fun(v4:Bool)=>.br (!v4) (.lfA rB false)<|.callF (zcj v1.fag 0 65535) fun(v6:Bool)=>.br (!v6) (.lfA rB false)<|.br v1.fbe (.callF (qg6 v1.fh) fun(v9:Bool)=>.br v9 (.callF (qjk v1.fa) fun(v11:Bool)=>.lfA rB v11)<|.lfA rB false)<|.callF (yso v1.fa) fun(v12:Bool)=>.br v12 (.callF (yzl v1.fh) fun(v14:Bool)=>.lfA rB v14)<|.lfA rB false:Tree Bool _) (by kernel_rfl) (by kernel_rfl) (cF zck fun v2=>bR (rfl)<|cF zck fun v4=>bR (rfl)<|cF zck fun v6=>bR (rfl)<|bR (cF qna fun v9=>bR (cF qkb fun v11=>rfl)<|rfl)<|cF yud fun v12=>bR (cF qjq fun v14=>rfl)<|rfl) hr,rfl,rfl⟩
def zx0 (v1:Tp) (k:Int) (s:Unit):St:=⟨sv 7 [(1,.ref (.box 0) 0 []),(3,.I k)],[[.I v1.fF.fat,.I v1.fF.ft.faf,.I v1.fF.ft.fad,.imm 7 (v1.fF.ft.fah.map Te.i),.I v1.fF.fq.fw,.imm 13 (v1.fF.fq.fj.map Tb.i),.imm 17 (v1.fF.faa.map Tc.i),.I v1.fF.far,.I v1.fF.fau,.I v1.fF.fas,.I v1.fF.fav,.imm 6 (v1.fax.map Tf.i),.imm 16 (v1.fak.map Tg.i),.imm 16 (v1.fbb.map Ti.i),.imm 15 (v1.fbc.map Tj.i)]]⟩
def zpq (v1:Tp):Int->Ex×St:=fun p=>(.ret,⟨sv 7 [(1,.ref (.box 0) 0 []),(2,.bool false),(3,.I p),(5,.bool true),(6,.bool true)],[[.I v1.fF.fat,.I v1.fF.ft.faf,.I v1.fF.ft.fad,.imm 7 (v1.fF.ft.fah.map Te.i),.I v1.fF.fq.fw,.imm 13 (v1.fF.fq.fj.map Tb.i),.imm 17 (v1.fF.faa.map Tc.i),.I v1.fF.far,.I v1.fF.fau,.I v1.fF.fas,.I v1.fF.fav,.imm 6 (v1.fax.map Tf.i),.imm 16 (v1.fak.map Tg.i),.imm 16 (v1.fbb.map Ti.i),.imm 15 (v1.fbc.map Tj.i)]]⟩)
def zpa (v1:Tp):Unit->Ex×St:=fun p=>((.exit 0),⟨sv 7 [(1,.ref (.box 0) 0 []),(3,.I (v1.fak.length:Int)),(5,.bool false)],[[.I v1.fF.fat,.I v1.fF.ft.faf,.I v1.fF.ft.fad,.imm 7 (v1.fF.ft.fah.map Te.i),.I v1.fF.fq.fw,.imm 13 (v1.fF.fq.fj.map Tb.i),.imm 17 (v1.fF.faa.map Tc.i),.I v1.fF.far,.I v1.fF.fau,.I v1.fF.fas,.I v1.fF.fav,.imm 6 (v1.fax.map Tf.i),.imm 16 (v1.fak.map Tg.i),.imm 16 (v1.fbb.map Ti.i),.imm 15 (v1.fbc.map Tj.i)]]⟩)
def zu5 (v1:Tp) (k:Int):=zbn (zx0 v1 k) (Sum.elim (zpq v1) (zpa v1))
def yax (v1:Tp) (k:Int) (x:Tg) (s:Unit):Option ((Unit)⊕(Int⊕Unit)):=(ytb x).bind fun v21=>(bif !v21 then(some (.inr (.inl k))) else(some (.inl ())))
def yqn (v1:Tp) (s:Unit):Option (Int⊕Unit):=some ((.inr ()))
def zpb (v1:Tp) (s:Unit):Option (Int⊕Unit):=if v1.fak.length<=9223372036854775806 then zaf (yax v1) (yqn v1) v1.fak 0 s else none
def ygx (v1:Tp) (s:Unit):Lc2:=⟨7,ymu,1,[0,2,4,5,6],some (zx0 v1 0 s),Int,Unit,zpb v1 s,zpq v1,zpa v1⟩
theorem ynj {v1:Tp} {s:Unit}:(ygx v1 s).ok tab:=zar (zaa (J:=zx0 v1) (o:=(Sum.elim (zpq v1) (zpa v1))) v1.fak (B:=fun(k:Int) (x:Tg) (s:Unit)=>(.lenA Tg.i v1.fak<|.kb (decide (k<(v1.fak.length:Int))) true<|.ob (0<=k)<|.lkX Tg.i v1.fak (k.toNat) x<|.callF (qnj x) fun(v21:Bool)=>.br (!v21) (.lfA (zu5 v1 (i64.wrap (k+1))) (.inr (.inl k)))<|.lfA (zu5 v1 (i64.wrap (k+1))) (.inl ()):Tree ((Unit)⊕(Int⊕Unit)) _)) (E:=fun(s:Unit)=>(.lenA Tg.i v1.fak<|.kb (decide ((v1.fak.length:Int)<(v1.fak.length:Int))) false<|.lfA (zu5 v1 0) (.inr (.inr ())):Tree ((Unit)⊕(Int⊕Unit)) _)) (fun k x s=>by kernel_rfl) (fun d x t s he=>lA<|⟨ltX he,⟨Int.natCast_nonneg _,⟨za7 Tg.i he,cF qrs fun v21=>bR (rfl)<|rfl⟩⟩⟩) (ho2 (fun _=>rfl) fun _=>rfl) (fun s=>by kernel_rfl) (fun s=>lA<|⟨ltE _,rfl⟩) (by kernel_rfl) (by kernel_rfl) s)
def qcr (v1:Tp):Option Bool:=(yy8 v1.fF).bind fun v2=>(bif !v2 then(some false) else((yxl v1.fax).bind fun v4=>(bif !v4 then(some false) else(bif decide (60<(v1.fak.length:Int)) then(some false) else(bif decide (5000<(v1.fbb.length:Int)) then(some false) else(bif decide (5000<(v1.fbc.length:Int)) then(some false) else((zpb v1 ()).bind (zbj (fun (v23:Int)=>(some false)) (fun (v24:Unit)=>(some true))))))))))
def qn3 (v1:Tp):Ctr:=⟨yvl,[.agg [.I v1.fF.fat,.I v1.fF.ft.faf,.I v1.fF.ft.fad,.imm 7 (v1.fF.ft.fah.map Te.i),.I v1.fF.fq.fw,.imm 13 (v1.fF.fq.fj.map Tb.i),.imm 17 (v1.fF.faa.map Tc.i),.I v1.fF.far,.I v1.fF.fau,.I v1.fF.fas,.I v1.fF.fav,.imm 6 (v1.fax.map Tf.i),.imm 16 (v1.fak.map Tg.i),.imm 16 (v1.fbb.map Ti.i),.imm 15 (v1.fbc.map Tj.i)]],[],Bool,qcr v1,rB⟩
theorem ji0 {v1:Tp}:(qn3 v1).okF tab:=fun r hr=>⟨za1 qt8 rfl (.callF (qoj v1.fF) fun(v2:Bool)=>.br (!v2) (.lfA rB false)<|.callF (qmd v1.fax) fun(v4:Bool)=>.br (!v4) (.lfA rB false)<|.lenA Tg.i v1.fak<|.br (decide (60<(v1.fak.length:Int))) (.lfA rB false)<|.lenA Ti.i v1.fbb<|.br (decide (5000<(v1.fbb.length:Int))) (.lfA rB false)<|.lenA Tj.i v1.fbc<|.br (decide (5000<(v1.fbc.length:Int))) (.lfA rB false)<|.lp2 (ygx v1 ()) (fun (v23:Int)=>.lfA rB false) (fun (v24:Unit)=>.lfA rB true):Tree Bool _) (by kernel_rfl) (by kernel_rfl) (cF qr7 fun v2=>bR (rfl)<|cF jdu fun v4=>bR (rfl)<|lA<|bR (rfl)<|lA<|bR (rfl)<|lA<|bR (rfl)<|lQ ynj (fun v23=>rfl) (fun v24=>rfl)) hr,rfl,rfl⟩
def zhf (v1:Int) (v2:Int) (v3:Int):Option Bool:=bif decide (v2<=v1) then(some (decide (v1<=v3))) else(some false)
def zia (v1:Int) (v2:Int) (v3:Int):Ctr:=⟨qa6,[.I v1,.I v2,.I v3],[],Bool,zhf v1 v2 v3,rB⟩
theorem zit {v1:Int} {v2:Int} {v3:Int}:(zia v1 v2 v3).okF tab:=fun r hr=>⟨za1 qpe rfl (.br (decide (v2<=v1)) (.lfA rB (decide (v1<=v3)))<|.lfA rB false:Tree Bool _) (by kernel_rfl) (by kernel_rfl) (bR (rfl)<|rfl) hr,rfl,rfl⟩
def yu2 (v1:Int):Option Bool:=(zhf v1 0 4294967295).bind fun v2=>(some v2)
def qe2 (v1:Int):Ctr:=⟨yyn,[.I v1],[],Bool,yu2 v1,rB⟩
theorem qnx {v1:Int}:(qe2 v1).okF tab:=fun r hr=>⟨za1 jg4 rfl (.callF (zia v1 0 4294967295) fun(v2:Bool)=>.lfA rB v2:Tree Bool _) (by kernel_rfl) (by kernel_rfl) (cF zit fun v2=>rfl) hr,rfl,rfl⟩
def yt8 (v1:Int) (v2:Int):Option Bool:=(zhf v1 1 100).bind fun v3=>(bif v3 then((zhf v2 0 5).bind fun v5=>(some v5)) else(some false))
def qf8 (v1:Int) (v2:Int):Ctr:=⟨qa1,[.I v1,.I v2],[],Bool,yt8 v1 v2,rB⟩
theorem qof {v1:Int} {v2:Int}:(qf8 v1 v2).okF tab:=fun r hr=>⟨za1 qxn rfl (.callF (zia v1 1 100) fun(v3:Bool)=>.br v3 (.callF (zia v2 0 5) fun(v5:Bool)=>.lfA rB v5)<|.lfA rB false:Tree Bool _) (by kernel_rfl) (by kernel_rfl) (cF zit fun v3=>bR (cF zit fun v5=>rfl)<|rfl) hr,rfl,rfl⟩
def yij (v1:Int):Option Bool:=(zhf v1 1 247).bind fun v2=>(some v2)
def ypr (v1:Int):Ctr:=⟨qai,[.I v1],[],Bool,yij v1,rB⟩
theorem ysn {v1:Int}:(ypr v1).okF tab:=fun r hr=>⟨za1 jci rfl (.callF (zia v1 1 247) fun(v2:Bool)=>.lfA rB v2:Tree Bool _) (by kernel_rfl) (by kernel_rfl) (cF zit fun v2=>rfl) hr,rfl,rfl⟩
def zkf (v1:Int):Option Bool:=(zhf v1 0 65535).bind fun v2=>(some v2)
def znf (v1:Int):Ctr:=⟨qay,[.I v1],[],Bool,zkf v1,rB⟩
theorem zq3 {v1:Int}:(znf v1).okF tab:=fun r hr=>⟨za1 qth rfl (.callF (zia v1 0 65535) fun(v2:Bool)=>.lfA rB v2:Tree Bool _) (by kernel_rfl) (by kernel_rfl) (cF zit fun v2=>rfl) hr,rfl,rfl⟩
def ypo (v1:Int):Option Bool:=(zhf v1 0 5).bind fun v2=>(some v2)
def ytc (v1:Int):Ctr:=⟨yz1,[.I v1],[],Bool,ypo v1,rB⟩
theorem yzh {v1:Int}:(ytc v1).okF tab:=fun r hr=>⟨za1 qy1 rfl (.callF (zia v1 0 5) fun(v2:Bool)=>.lfA rB v2:Tree Bool _) (by kernel_rfl) (by kernel_rfl) (cF zit fun v2=>rfl) hr,rfl,rfl⟩
def yvd (v1:Te):Option Bool:=(yij v1.fg).bind fun v2=>(bif !v2 then(some false) else((zhf v1.fba 0 3).bind fun v4=>(bif !v4 then(some false) else((zkf v1.fal).bind fun v6=>(bif !v6 then(some false) else((zkf v1.fan).bind fun v8=>(bif !v8 then(some false) else(bif decide (v1.fan<v1.fal) then(some false) else((ypo v1.fp).bind fun v11=>(bif !v11 then(some false) else((yij v1.fbd).bind fun v13=>(bif !v13 then(some false) else((zhf v1.faq (-65535) 65535).bind fun v15=>(bif v15 then((zkf (i64.wrap (v1.fal+v1.faq))).bind fun v17=>(bif v17 then((zkf (i64.wrap (v1.fan+v1.faq))).bind fun v19=>(some v19)) else(some false))) else(some false)))))))))))))))
def qlt (v1:Te):Ctr:=⟨yyi,[.agg [.I v1.fg,.I v1.fba,.I v1.fal,.I v1.fan,.I v1.fp,.I v1.fbd,.I v1.faq]],[],Bool,yvd v1,rB⟩
theorem jin {v1:Te}:(qlt v1).okF tab:=fun r hr=>⟨za1 qpz rfl (.callF (ypr v1.fg) fun(v2:Bool)=>.br (!v2) (.lfA rB false)<|.callF (zia v1.fba 0 3) fun(v4:Bool)=>.br (!v4) (.lfA rB false)<|.callF (znf v1.fal) fun(v6:Bool)=>.br (!v6) (.lfA rB false)<|.callF (znf v1.fan) fun(v8:Bool)=>.br (!v8) (.lfA rB false)<|.br (decide (v1.fan<v1.fal)) (.lfA rB false)<|.callF (ytc v1.fp) fun(v11:Bool)=>.br (!v11) (.lfA rB false)<|.callF (ypr v1.fbd) fun(v13:Bool)=>.br (!v13) (.lfA rB false)<|.callF (zia v1.faq (-65535) 65535) fun(v15:Bool)=>.br v15 (.callF (znf (i64.wrap (v1.fal+v1.faq))) fun(v17:Bool)=>.br v17 (.callF (znf (i64.wrap (v1.fan+v1.faq))) fun(v19:Bool)=>.lfA rB v19)<|.lfA rB false)<|.lfA rB false:Tree Bool _) (by kernel_rfl) (by kernel_rfl) (cF ysn fun v2=>bR (rfl)<|cF zit fun v4=>bR (rfl)<|cF zq3 fun v6=>bR (rfl)<|cF zq3 fun v8=>bR (rfl)<|bR (rfl)<|cF yzh fun v11=>bR (rfl)<|cF ysn fun v13=>bR (rfl)<|cF zit fun v15=>bR (cF zq3 fun v17=>bR (cF zq3 fun v19=>rfl)<|rfl)<|rfl) hr,rfl,rfl⟩
def qc8 (v1:Te) (v2:Te):Option Bool:=bif decide (v1.fg=v2.fg) then(bif decide (v1.fba=v2.fba) then(bif decide (v1.fal<=v2.fan) then(some (decide (v2.fal<=v1.fan))) else(some false)) else(some false)) else(some false)
def qns (v1:Te) (v2:Te):Ctr:=⟨yjx,[.agg [.I v1.fg,.I v1.fba,.I v1.fal,.I v1.fan,.I v1.fp,.I v1.fbd,.I v1.faq],.eptr [.I v2.fg,.I v2.fba,.I v2.fal,.I v2.fan,.I v2.fp,.I v2.fbd,.I v2.faq] 0],[],Bool,qc8 v1 v2,rB⟩
theorem qtk {v1:Te} {v2:Te}:(qns v1 v2).okF tab:=fun r hr=>⟨za1 qy9 rfl (.br (decide (v1.fg=v2.fg)) (.br (decide (v1.fba=v2.fba)) (.br (decide (v1.fal<=v2.fan)) (.lfA rB (decide (v2.fal<=v1.fan)))<|.lfA rB false)<|.lfA rB false)<|.lfA rB false:Tree Bool _) (by kernel_rfl) (by kernel_rfl) (bR (bR (bR (rfl)<|rfl)<|rfl)<|rfl) hr,rfl,rfl⟩
def zsw (v1:List Te) (v2:Te) (k:Int) (s:Unit):St:=⟨sv 8 [(0,.imm 7 (v1.map Te.i)),(1,.clo yjx [.agg [.I v2.fg,.I v2.fba,.I v2.fal,.I v2.fan,.I v2.fp,.I v2.fbd,.I v2.faq]]),(4,.I (v1.length:Int)),(5,.I k)],[]⟩
def zmm (v1:List Te) (v2:Te):Int->Ex×St:=fun p=>(.ret,⟨sv 8 [(0,.imm 7 (v1.map Te.i)),(1,.clo yjx [.agg [.I v2.fg,.I v2.fba,.I v2.fal,.I v2.fan,.I v2.fp,.I v2.fbd,.I v2.faq]]),(2,.I p),(3,.I p),(4,.I (v1.length:Int)),(5,.I p),(6,.bool true),(7,.bool true)],[]⟩)
def zoy (v1:List Te) (v2:Te):Unit->Ex×St:=fun p=>((.exit 0),⟨sv 8 [(0,.imm 7 (v1.map Te.i)),(1,.clo yjx [.agg [.I v2.fg,.I v2.fba,.I v2.fal,.I v2.fan,.I v2.fp,.I v2.fbd,.I v2.faq]]),(4,.I (v1.length:Int)),(5,.I (v1.length:Int)),(6,.bool false)],[]⟩)
def ztx (v1:List Te) (v2:Te) (k:Int):=zbn (zsw v1 v2 k) (Sum.elim (zmm v1 v2) (zoy v1 v2))
def yfj (v1:List Te) (v2:Te) (k:Int) (x:Te) (s:Unit):Option ((Unit)⊕(Int⊕Unit)):=(qc8 x v2).bind fun v15=>(bif v15 then(some (.inr (.inl k))) else(some (.inl ())))
def yqs (v1:List Te) (v2:Te) (s:Unit):Option (Int⊕Unit):=some ((.inr ()))
def zsv (v1:List Te) (v2:Te) (s:Unit):Option (Int⊕Unit):=if v1.length<=9223372036854775806 then zaf (yfj v1 v2) (yqs v1 v2) v1 0 s else none
def yi1 (v1:List Te) (v2:Te) (s:Unit):Lc2:=⟨8,ymp,0,[2,3,6,7],some (zsw v1 v2 0 s),Int,Unit,zsv v1 v2 s,zmm v1 v2,zoy v1 v2⟩
theorem yo3 {v1:List Te} {v2:Te} {s:Unit}:(yi1 v1 v2 s).ok tab:=zar (zaa (J:=zsw v1 v2) (o:=(Sum.elim (zmm v1 v2) (zoy v1 v2))) v1 (B:=fun(k:Int) (x:Te) (s:Unit)=>(.kb (decide (k<(v1.length:Int))) true<|.ob (0<=k)<|.lkX Te.i v1 (k.toNat) x<|.callF (qns x v2) fun(v15:Bool)=>.br v15 (.lfA (ztx v1 v2 (i64.wrap (k+1))) (.inr (.inl k)))<|.lfA (ztx v1 v2 (i64.wrap (k+1))) (.inl ()):Tree ((Unit)⊕(Int⊕Unit)) _)) (E:=fun(s:Unit)=>(.kb (decide ((v1.length:Int)<(v1.length:Int))) false<|.lfA (ztx v1 v2 0) (.inr (.inr ())):Tree ((Unit)⊕(Int⊕Unit)) _)) (fun k x s=>by kernel_rfl) (fun d x t s he=>⟨ltX he,⟨Int.natCast_nonneg _,⟨za7 Te.i he,cF qtk fun v15=>bR (rfl)<|rfl⟩⟩⟩) (ho2 (fun _=>rfl) fun _=>rfl) (fun s=>by kernel_rfl) (fun s=>⟨ltE _,rfl⟩) (by kernel_rfl) (by kernel_rfl) s)
def qad (v1:List Te) (v2:Te):Option Int:=(zsv v1 v2 ()).bind (zbj (fun (v17:Int)=>(some v17)) (fun (v18:Unit)=>(some (-1))))
def qlw (v1:List Te) (v2:Te):Ctr:=⟨ywd,[.imm 7 (v1.map Te.i),.clo yjx [.agg [.I v2.fg,.I v2.fba,.I v2.fal,.I v2.fan,.I v2.fp,.I v2.fbd,.I v2.faq]]],[],Int,qad v1 v2,rI⟩
theorem jix {v1:List Te} {v2:Te}:(qlw v1 v2).okF tab:=fun r hr=>⟨za1 jg1 rfl (.lenA Te.i v1<|.lp2 (yi1 v1 v2 ()) (fun (v17:Int)=>.lfA rI v17) (fun (v18:Unit)=>.lfA rI (-1)):Tree Int _) (by kernel_rfl) (by kernel_rfl) (lA<|lQ yo3 (fun v17=>rfl) (fun v18=>rfl)) hr,rfl,rfl⟩
def qca (v1:List Te) (v2:Te):Option Bool:=(qad v1 v2).bind fun v3=>(some (decide (0<=v3)))
def qk5 (v1:List Te) (v2:Te):Ctr:=⟨qas,[.imm 7 (v1.map Te.i),.clo yjx [.agg [.I v2.fg,.I v2.fba,.I v2.fal,.I v2.fan,.I v2.fp,.I v2.fbd,.I v2.faq]]],[],Bool,qca v1 v2,rB⟩
theorem qts {v1:List Te} {v2:Te}:(qk5 v1 v2).okF tab:=fun r hr=>⟨za1 qte rfl (.callF (qlw v1 v2) fun(v3:Int)=>.lfA rB (decide (0<=v3)):Tree Bool _) (by kernel_rfl) (by kernel_rfl) (cF jix fun v3=>rfl) hr,rfl,rfl⟩
def zru (v1:List Te) (k:Int) (s:Unit):St:=⟨sv 9 [(0,.imm 7 (v1.map Te.i)),(4,.imm 7 (v1.map Te.i)),(5,.I (v1.length:Int)),(6,.I k)],[]⟩
def zlu (v1:List Te):(Int×Te)->Ex×St:=fun p=>(.ret,⟨sv 9 [(0,.imm 7 (v1.map Te.i)),(1,.bool false),(2,.I p.1),(3,.ref (.box 0) 0 []),(4,.imm 7 (v1.map Te.i)),(5,.I (v1.length:Int)),(6,.I p.1),(7,.bool true),(8,.bool true)],[[.I p.2.fg,.I p.2.fba,.I p.2.fal,.I p.2.fan,.I p.2.fp,.I p.2.fbd,.I p.2.faq]]⟩)
def zq1 (v1:List Te):Unit->Ex×St:=fun p=>((.exit 0),⟨sv 9 [(0,.imm 7 (v1.map Te.i)),(4,.imm 7 (v1.map Te.i)),(5,.I (v1.length:Int)),(6,.I (v1.length:Int)),(7,.bool false)],[]⟩)
def zli (v1:List Te) (k:Int):=zbn (zru v1 k) (Sum.elim (zlu v1) (zq1 v1))
def yi2 (v1:List Te) (k:Int) (x:Te) (s:Unit):Option ((Unit)⊕((Int×Te)⊕Unit)):=(yvd x).bind fun v18=>(bif !v18 then(some (.inr (.inl (k,x)))) else(if (0:Int)<=0/\(0:Int)<=k/\k<=(((v1.map Te.i).length:Nat):Int) then((qca ((v1.take ((k:Int).toNat)).drop ((0:Int).toNat)) x).bind fun v20=>(bif v20 then(some (.inr (.inl (k,x)))) else(some (.inl ())))) else none))
def yqf (v1:List Te) (s:Unit):Option ((Int×Te)⊕Unit):=some ((.inr ()))
def zt8 (v1:List Te) (s:Unit):Option ((Int×Te)⊕Unit):=if v1.length<=9223372036854775806 then zaf (yi2 v1) (yqf v1) v1 0 s else none
def yhh (v1:List Te) (s:Unit):Lc2:=⟨9,ym9,0,[1,2,3,7,8],some (zru v1 0 s),Int×Te,Unit,zt8 v1 s,zlu v1,zq1 v1⟩
theorem yqg {v1:List Te} {s:Unit}:(yhh v1 s).ok tab:=zar (zaa (J:=zru v1) (o:=(Sum.elim (zlu v1) (zq1 v1))) v1 (B:=fun(k:Int) (x:Te) (s:Unit)=>(.kb (decide (k<(v1.length:Int))) true<|.ob (0<=k)<|.lkX Te.i v1 (k.toNat) x<|.callF (qlt x) fun(v18:Bool)=>.br (!v18) (.lfA (zli v1 (i64.wrap (k+1))) (.inr (.inl (k,x))))<|.guard ((0:Int)<=0/\(0:Int)<=k/\k<=(((v1.map Te.i).length:Nat):Int)) inferInstance<|.cutA Te.i v1 ((0:Int).toNat) ((k:Int).toNat)<|.callF (qk5 ((v1.take ((k:Int).toNat)).drop ((0:Int).toNat)) x) fun(v20:Bool)=>.br v20 (.lfA (zli v1 (i64.wrap (k+1))) (.inr (.inl (k,x))))<|.lfA (zli v1 (i64.wrap (k+1))) (.inl ()):Tree ((Unit)⊕((Int×Te)⊕Unit)) _)) (E:=fun(s:Unit)=>(.kb (decide ((v1.length:Int)<(v1.length:Int))) false<|.lfA (zli v1 0) (.inr (.inr ())):Tree ((Unit)⊕((Int×Te)⊕Unit)) _)) (fun k x s=>by kernel_rfl) (fun d x t s he=>⟨ltX he,⟨Int.natCast_nonneg _,⟨za7 Te.i he,cF jin fun v18=>bR (rfl)<|gU<|⟨zuu _ _ _ _,cF qts fun v20=>bR (rfl)<|rfl⟩⟩⟩⟩) (ho2 (fun _=>rfl) fun _=>rfl) (fun s=>by kernel_rfl) (fun s=>⟨ltE _,rfl⟩) (by kernel_rfl) (by kernel_rfl) s)
def qav (v1:List Te):Option Bool:=(zt8 v1 ()).bind (zbj (fun (v22:Int×Te)=>(some false)) (fun (v23:Unit)=>(some (decide ((v1.length:Int)<=24)))))
def qn6 (v1:List Te):Ctr:=⟨qa7,[.imm 7 (v1.map Te.i)],[],Bool,qav v1,rB⟩
theorem qsm {v1:List Te}:(qn6 v1).okF tab:=fun r hr=>⟨za1 jgd rfl (.lenA Te.i v1<|.lp2 (yhh v1 ()) (fun (v22:Int×Te)=>.lfA rB false) (fun (v23:Unit)=>.lenA Te.i v1<|.lfA rB (decide ((v1.length:Int)<=24))):Tree Bool _) (by kernel_rfl) (by kernel_rfl) (lA<|lQ yqg (fun v22=>rfl) (fun v23=>lA<|rfl)) hr,rfl,rfl⟩
def yyg (v1:Tr):Option Bool:=(yt8 v1.faf v1.fad).bind fun v2=>(bif v2 then((qav v1.fah).bind fun v4=>(some v4)) else(some false))
def qly (v1:Tr):Ctr:=⟨yxg,[.agg [.I v1.faf,.I v1.fad,.imm 7 (v1.fah.map Te.i)]],[],Bool,yyg v1,rB⟩
theorem jgt {v1:Tr}:(qly v1).okF tab:=fun r hr=>⟨za1 jbs rfl (.callF (qf8 v1.faf v1.fad) fun(v2:Bool)=>.br v2 (.callF (qn6 v1.fah) fun(v4:Bool)=>.lfA rB v4)<|.lfA rB false:Tree Bool _) (by kernel_rfl) (by kernel_rfl) (cF qof fun v2=>bR (cF qsm fun v4=>rfl)<|rfl) hr,rfl,rfl⟩
def ygr (v1:Int):Option Bool:=(zhf v1 0 1000000000).bind fun v2=>(some v2)
def yip (v1:Int):Ctr:=⟨qd1,[.I v1],[],Bool,ygr v1,rB⟩
theorem ymo {v1:Int}:(yip v1).okF tab:=fun r hr=>⟨za1 jih rfl (.callF (zia v1 0 1000000000) fun(v2:Bool)=>.lfA rB v2:Tree Bool _) (by kernel_rfl) (by kernel_rfl) (cF zit fun v2=>rfl) hr,rfl,rfl⟩
def zyj:(Tl×Tl×Tl)->V×List (List V):=fun r=>(.tup [.agg [.int .i64 r.1.f0,.int .i64 r.1.f1],.agg [.int .i64 r.2.1.f0,.int .i64 r.2.1.f1],.agg [.int .i64 r.2.2.f0,.int .i64 r.2.2.f1]],[])
def yyx (v1:Int):Option (Tl×Tl×Tl):=bif decide (v1=1) then(some ((⟨1,2000⟩:Tl),(⟨0,0⟩:Tl),(⟨0,0⟩:Tl))) else(bif decide (v1=2) then(some ((⟨1,2000⟩:Tl),(⟨0,0⟩:Tl),(⟨0,0⟩:Tl))) else(bif decide (v1=3) then(some ((⟨1,125⟩:Tl),(⟨0,0⟩:Tl),(⟨0,0⟩:Tl))) else(bif decide (v1=4) then(some ((⟨1,125⟩:Tl),(⟨0,0⟩:Tl),(⟨0,0⟩:Tl))) else(bif decide (v1=5) then(some ((⟨0,0⟩:Tl),(⟨0,0⟩:Tl),(⟨1,1⟩:Tl))) else(bif decide (v1=6) then(some ((⟨0,0⟩:Tl),(⟨1,1⟩:Tl),(⟨0,0⟩:Tl))) else(bif decide (v1=15) then(some ((⟨0,0⟩:Tl),(⟨0,0⟩:Tl),(⟨1,1968⟩:Tl))) else(bif decide (v1=16) then(some ((⟨0,0⟩:Tl),(⟨1,123⟩:Tl),(⟨0,0⟩:Tl))) else(bif decide (v1=22) then(some ((⟨0,0⟩:Tl),(⟨2,2⟩:Tl),(⟨0,0⟩:Tl))) else(some ((⟨1,125⟩:Tl),(⟨1,121⟩:Tl),(⟨0,0⟩:Tl)))))))))))
def qnz (v1:Int):Ctr:=⟨qch,[.I v1],[],Tl×Tl×Tl,yyx v1,zyj⟩
theorem qxg (r:Tl×Tl×Tl):(zyj r).1.fresh=true:=by simp only [zyj,V.fresh,V.freshL,Bool.and_self,Bool.true_and]
theorem jdi {v1:Int}:(qnz v1).okF tab:=fun r hr=>⟨za1 jez rfl (.br (decide (v1=1)) (.ob ((.agg [.int .i64 0,.int .i64 0]:V)=.agg [.int .i64 0,.int .i64 0])<|.ob ((.agg [.int .i64 0,.int .i64 0]:V)=.agg [.int .i64 0,.int .i64 0])<|.ob ((.agg [.int .i64 0,.int .i64 0]:V)=.agg [.int .i64 0,.int .i64 0])<|.ob ((.agg [.int .i64 0,.int .i64 0]:V)=.agg [.int .i64 0,.int .i64 0])<|.ob ((.agg [.int .i64 0,.int .i64 0]:V)=.agg [.int .i64 0,.int .i64 0])<|.ob ((.agg [.int .i64 0,.int .i64 0]:V)=.agg [.int .i64 0,.int .i64 0])<|.lfA zyj ((⟨1,2000⟩:Tl),(⟨0,0⟩:Tl),(⟨0,0⟩:Tl)))<|.br (decide (v1=2)) (.ob ((.agg [.int .i64 0,.int .i64 0]:V)=.agg [.int .i64 0,.int .i64 0])<|.ob ((.agg [.int .i64 0,.int .i64 0]:V)=.agg [.int .i64 0,.int .i64 0])<|.ob ((.agg [.int .i64 0,.int .i64 0]:V)=.agg [.int .i64 0,.int .i64 0])<|.ob ((.agg [.int .i64 0,.int .i64 0]:V)=.agg [.int .i64 0,.int .i64 0])<|.ob ((.agg [.int .i64 0,.int .i64 0]:V)=.agg [.int .i64 0,.int .i64 0])<|.ob ((.agg [.int .i64 0,.int .i64 0]:V)=.agg [.int .i64 0,.int .i64 0])<|.lfA zyj ((⟨1,2000⟩:Tl),(⟨0,0⟩:Tl),(⟨0,0⟩:Tl)))<|.br (decide (v1=3)) (.ob ((.agg [.int .i64 0,.int .i64 0]:V)=.agg [.int .i64 0,.int .i64 0])<|.ob ((.agg [.int .i64 0,.int .i64 0]:V)=.agg [.int .i64 0,.int .i64 0])<|.ob ((.agg [.int .i64 0,.int .i64 0]:V)=.agg [.int .i64 0,.int .i64 0])<|.ob ((.agg [.int .i64 0,.int .i64 0]:V)=.agg [.int .i64 0,.int .i64 0])<|.ob ((.agg [.int .i64 0,.int .i64 0]:V)=.agg [.int .i64 0,.int .i64 0])<|.ob ((.agg [.int .i64 0,.int .i64 0]:V)=.agg [.int .i64 0,.int .i64 0])<|.lfA zyj ((⟨1,125⟩:Tl),(⟨0,0⟩:Tl),(⟨0,0⟩:Tl)))<|.br (decide (v1=4)) (.ob ((.agg [.int .i64 0,.int .i64 0]:V)=.agg [.int .i64 0,.int .i64 0])<|.ob ((.agg [.int .i64 0,.int .i64 0]:V)=.agg [.int .i64 0,.int .i64 0])<|.ob ((.agg [.int .i64 0,.int .i64 0]:V)=.agg [.int .i64 0,.int .i64 0])<|.ob ((.agg [.int .i64 0,.int .i64 0]:V)=.agg [.int .i64 0,.int .i64 0])<|.ob ((.agg [.int .i64 0,.int .i64 0]:V)=.agg [.int .i64 0,.int .i64 0])<|.ob ((.agg [.int .i64 0,.int .i64 0]:V)=.agg [.int .i64 0,.int .i64 0])<|.lfA zyj ((⟨1,125⟩:Tl),(⟨0,0⟩:Tl),(⟨0,0⟩:Tl)))<|.br (decide (v1=5)) (.ob ((.agg [.int .i64 1,.int .i64 1]:V)=.agg [.int .i64 1,.int .i64 1])<|.ob ((.agg [.int .i64 1,.int .i64 1]:V)=.agg [.int .i64 1,.int .i64 1])<|.ob ((.agg [.int .i64 0,.int .i64 0]:V)=.agg [.int .i64 0,.int .i64 0])<|.ob ((.agg [.int .i64 0,.int .i64 0]:V)=.agg [.int .i64 0,.int .i64 0])<|.ob ((.agg [.int .i64 1,.int .i64 1]:V)=.agg [.int .i64 1,.int .i64 1])<|.ob ((.agg [.int .i64 1,.int .i64 1]:V)=.agg [.int .i64 1,.int .i64 1])<|.lfA zyj ((⟨0,0⟩:Tl),(⟨0,0⟩:Tl),(⟨1,1⟩:Tl)))<|.br (decide (v1=6)) (.ob ((.agg [.int .i64 0,.int .i64 0]:V)=.agg [.int .i64 0,.int .i64 0])<|.ob ((.agg [.int .i64 0,.int .i64 0]:V)=.agg [.int .i64 0,.int .i64 0])<|.ob ((.agg [.int .i64 1,.int .i64 1]:V)=.agg [.int .i64 1,.int .i64 1])<|.ob ((.agg [.int .i64 1,.int .i64 1]:V)=.agg [.int .i64 1,.int .i64 1])<|.ob ((.agg [.int .i64 0,.int .i64 0]:V)=.agg [.int .i64 0,.int .i64 0])<|.ob ((.agg [.int .i64 0,.int .i64 0]:V)=.agg [.int .i64 0,.int .i64 0])<|.lfA zyj ((⟨0,0⟩:Tl),(⟨1,1⟩:Tl),(⟨0,0⟩:Tl)))<|.br (decide (v1=15)) (.ob ((.agg [.int .i64 1,.int .i64 1968]:V)=.agg [.int .i64 1,.int .i64 1968])<|.ob ((.agg [.int .i64 1,.int .i64 1968]:V)=.agg [.int .i64 1,.int .i64 1968])<|.ob ((.agg [.int .i64 0,.int .i64 0]:V)=.agg [.int .i64 0,.int .i64 0])<|.ob ((.agg [.int .i64 0,.int .i64 0]:V)=.agg [.int .i64 0,.int .i64 0])<|.ob ((.agg [.int .i64 1,.int .i64 1968]:V)=.agg [.int .i64 1,.int .i64 1968])<|.ob ((.agg [.int .i64 1,.int .i64 1968]:V)=.agg [.int .i64 1,.int .i64 1968])<|.lfA zyj ((⟨0,0⟩:Tl),(⟨0,0⟩:Tl),(⟨1,1968⟩:Tl)))<|.br (decide (v1=16)) (.ob ((.agg [.int .i64 0,.int .i64 0]:V)=.agg [.int .i64 0,.int .i64 0])<|.ob ((.agg [.int .i64 0,.int .i64 0]:V)=.agg [.int .i64 0,.int .i64 0])<|.ob ((.agg [.int .i64 1,.int .i64 123]:V)=.agg [.int .i64 1,.int .i64 123])<|.ob ((.agg [.int .i64 1,.int .i64 123]:V)=.agg [.int .i64 1,.int .i64 123])<|.ob ((.agg [.int .i64 0,.int .i64 0]:V)=.agg [.int .i64 0,.int .i64 0])<|.ob ((.agg [.int .i64 0,.int .i64 0]:V)=.agg [.int .i64 0,.int .i64 0])<|.lfA zyj ((⟨0,0⟩:Tl),(⟨1,123⟩:Tl),(⟨0,0⟩:Tl)))<|.br (decide (v1=22)) (.ob ((.agg [.int .i64 0,.int .i64 0]:V)=.agg [.int .i64 0,.int .i64 0])<|.ob ((.agg [.int .i64 0,.int .i64 0]:V)=.agg [.int .i64 0,.int .i64 0])<|.ob ((.agg [.int .i64 2,.int .i64 2]:V)=.agg [.int .i64 2,.int .i64 2])<|.ob ((.agg [.int .i64 2,.int .i64 2]:V)=.agg [.int .i64 2,.int .i64 2])<|.ob ((.agg [.int .i64 0,.int .i64 0]:V)=.agg [.int .i64 0,.int .i64 0])<|.ob ((.agg [.int .i64 0,.int .i64 0]:V)=.agg [.int .i64 0,.int .i64 0])<|.lfA zyj ((⟨0,0⟩:Tl),(⟨2,2⟩:Tl),(⟨0,0⟩:Tl)))<|.ob ((.agg [.int .i64 0,.int .i64 0]:V)=.agg [.int .i64 0,.int .i64 0])<|.ob ((.agg [.int .i64 0,.int .i64 0]:V)=.agg [.int .i64 0,.int .i64 0])<|.ob ((.agg [.int .i64 1,.int .i64 121]:V)=.agg [.int .i64 1,.int .i64 121])<|.ob ((.agg [.int .i64 1,.int .i64 121]:V)=.agg [.int .i64 1,.int .i64 121])<|.ob ((.agg [.int .i64 0,.int .i64 0]:V)=.agg [.int .i64 0,.int .i64 0])<|.ob ((.agg [.int .i64 0,.int .i64 0]:V)=.agg [.int .i64 0,.int .i64 0])<|.lfA zyj ((⟨1,125⟩:Tl),(⟨1,121⟩:Tl),(⟨0,0⟩:Tl)):Tree (Tl×Tl×Tl) _) (by kernel_rfl) (by kernel_rfl) (bR (⟨rfl,⟨rfl,⟨rfl,⟨rfl,⟨rfl,⟨rfl,rfl⟩⟩⟩⟩⟩⟩)<|bR (⟨rfl,⟨rfl,⟨rfl,⟨rfl,⟨rfl,⟨rfl,rfl⟩⟩⟩⟩⟩⟩)<|bR (⟨rfl,⟨rfl,⟨rfl,⟨rfl,⟨rfl,⟨rfl,rfl⟩⟩⟩⟩⟩⟩)<|bR (⟨rfl,⟨rfl,⟨rfl,⟨rfl,⟨rfl,⟨rfl,rfl⟩⟩⟩⟩⟩⟩)<|bR (⟨rfl,⟨rfl,⟨rfl,⟨rfl,⟨rfl,⟨rfl,rfl⟩⟩⟩⟩⟩⟩)<|bR (⟨rfl,⟨rfl,⟨rfl,⟨rfl,⟨rfl,⟨rfl,rfl⟩⟩⟩⟩⟩⟩)<|bR (⟨rfl,⟨rfl,⟨rfl,⟨rfl,⟨rfl,⟨rfl,rfl⟩⟩⟩⟩⟩⟩)<|bR (⟨rfl,⟨rfl,⟨rfl,⟨rfl,⟨rfl,⟨rfl,rfl⟩⟩⟩⟩⟩⟩)<|bR (⟨rfl,⟨rfl,⟨rfl,⟨rfl,⟨rfl,⟨rfl,rfl⟩⟩⟩⟩⟩⟩)<|⟨rfl,⟨rfl,⟨rfl,⟨rfl,⟨rfl,⟨rfl,rfl⟩⟩⟩⟩⟩⟩) hr,rfl,qxg r⟩
def yu8 (v1:Int):Option Bool:=(zhf v1 1 6).bind fun v2=>(bif v2 then(some true) else(bif decide (v1=15) then(some true) else(bif decide (v1=16) then(some true) else(bif decide (v1=22) then(some true) else(some (decide (v1=23)))))))
def qi3 (v1:Int):Ctr:=⟨yyt,[.I v1],[],Bool,yu8 v1,rB⟩
theorem qoq {v1:Int}:(qi3 v1).okF tab:=fun r hr=>⟨za1 qxo rfl (.callF (zia v1 1 6) fun(v2:Bool)=>.br v2 (.lfA rB true)<|.br (decide (v1=15)) (.lfA rB true)<|.br (decide (v1=16)) (.lfA rB true)<|.br (decide (v1=22)) (.lfA rB true)<|.lfA rB (decide (v1=23)):Tree Bool _) (by kernel_rfl) (by kernel_rfl) (cF zit fun v2=>bR (rfl)<|bR (rfl)<|bR (rfl)<|bR (rfl)<|rfl) hr,rfl,rfl⟩
def ywp (v1:Int):Option Bool:=(zkf v1).bind fun v2=>(some (!v2))
def qm1 (v1:Int):Ctr:=⟨yjy,[.I v1],[],Bool,ywp v1,rB⟩
theorem jd8 {v1:Int}:(qm1 v1).okF tab:=fun r hr=>⟨za1 qy2 rfl (.callF (znf v1) fun(v2:Bool)=>.lfA rB (!v2):Tree Bool _) (by kernel_rfl) (by kernel_rfl) (cF zq3 fun v2=>rfl) hr,rfl,rfl⟩
def zs1 (v1:List Int) (k:Int) (s:Unit):St:=⟨sv 8 [(0,.imm 1 (v1.map (V.int .i64))),(1,.clo yjy []),(4,.I (v1.length:Int)),(5,.I k)],[]⟩
def zmd (v1:List Int):Int->Ex×St:=fun p=>(.ret,⟨sv 8 [(0,.imm 1 (v1.map (V.int .i64))),(1,.clo yjy []),(2,.I p),(3,.I p),(4,.I (v1.length:Int)),(5,.I p),(6,.bool true),(7,.bool true)],[]⟩)
def zpg (v1:List Int):Unit->Ex×St:=fun p=>((.exit 0),⟨sv 8 [(0,.imm 1 (v1.map (V.int .i64))),(1,.clo yjy []),(4,.I (v1.length:Int)),(5,.I (v1.length:Int)),(6,.bool false)],[]⟩)
def zuv (v1:List Int) (k:Int):=zbn (zs1 v1 k) (Sum.elim (zmd v1) (zpg v1))
def yd4 (v1:List Int) (k:Int) (x:Int) (s:Unit):Option ((Unit)⊕(Int⊕Unit)):=(ywp x).bind fun v14=>(bif v14 then(some (.inr (.inl k))) else(some (.inl ())))
def ynh (v1:List Int) (s:Unit):Option (Int⊕Unit):=some ((.inr ()))
def zu8 (v1:List Int) (s:Unit):Option (Int⊕Unit):=if v1.length<=9223372036854775806 then zaf (yd4 v1) (ynh v1) v1 0 s else none
def yez (v1:List Int) (s:Unit):Lc2:=⟨8,ykt,0,[2,3,6,7],some (zs1 v1 0 s),Int,Unit,zu8 v1 s,zmd v1,zpg v1⟩
theorem ypa {v1:List Int} {s:Unit}:(yez v1 s).ok tab:=zar (zaa (J:=zs1 v1) (o:=(Sum.elim (zmd v1) (zpg v1))) v1 (B:=fun(k:Int) (x:Int) (s:Unit)=>(.kb (decide (k<(v1.length:Int))) true<|.ob (0<=k)<|.lkX (V.int .i64) v1 (k.toNat) x<|.callF (qm1 x) fun(v14:Bool)=>.br v14 (.lfA (zuv v1 (i64.wrap (k+1))) (.inr (.inl k)))<|.lfA (zuv v1 (i64.wrap (k+1))) (.inl ()):Tree ((Unit)⊕(Int⊕Unit)) _)) (E:=fun(s:Unit)=>(.kb (decide ((v1.length:Int)<(v1.length:Int))) false<|.lfA (zuv v1 0) (.inr (.inr ())):Tree ((Unit)⊕(Int⊕Unit)) _)) (fun k x s=>by kernel_rfl) (fun d x t s he=>⟨ltX he,⟨Int.natCast_nonneg _,⟨za7 (V.int .i64) he,cF jd8 fun v14=>bR (rfl)<|rfl⟩⟩⟩) (ho2 (fun _=>rfl) fun _=>rfl) (fun s=>by kernel_rfl) (fun s=>⟨ltE _,rfl⟩) (by kernel_rfl) (by kernel_rfl) s)
def yxr (v1:List Int):Option Int:=(zu8 v1 ()).bind (zbj (fun (v16:Int)=>(some v16)) (fun (v17:Unit)=>(some (-1))))
def qk6 (v1:List Int):Ctr:=⟨yym,[.imm 1 (v1.map (V.int .i64)),.clo yjy []],[],Int,yxr v1,rI⟩
theorem qyu {v1:List Int}:(qk6 v1).okF tab:=fun r hr=>⟨za1 jeq rfl (.lenA (V.int .i64) v1<|.lp2 (yez v1 ()) (fun (v16:Int)=>.lfA rI v16) (fun (v17:Unit)=>.lfA rI (-1)):Tree Int _) (by kernel_rfl) (by kernel_rfl) (lA<|lQ ypa (fun v16=>rfl) (fun v17=>rfl)) hr,rfl,rfl⟩
def qcn (v1:List Int):Option Bool:=(yxr v1).bind fun v2=>(some (decide (0<=v2)))
def qnp (v1:List Int):Ctr:=⟨qcv,[.imm 1 (v1.map (V.int .i64)),.clo yjy []],[],Bool,qcn v1,rB⟩
theorem qpn {v1:List Int}:(qnp v1).okF tab:=fun r hr=>⟨za1 ji5 rfl (.callF (qk6 v1) fun(v2:Int)=>.lfA rB (decide (0<=v2)):Tree Bool _) (by kernel_rfl) (by kernel_rfl) (cF qyu fun v2=>rfl) hr,rfl,rfl⟩
def yls (v1:List Int):Option Bool:=(qcn v1).bind fun v2=>(some (!v2))
def yue (v1:List Int):Ctr:=⟨yvj,[.imm 1 (v1.map (V.int .i64))],[],Bool,yls v1,rB⟩
theorem yv8 {v1:List Int}:(yue v1).okF tab:=fun r hr=>⟨za1 jbf rfl (.callF (qnp v1) fun(v2:Bool)=>.lfA rB (!v2):Tree Bool _) (by kernel_rfl) (by kernel_rfl) (cF qpn fun v2=>rfl) hr,rfl,rfl⟩
def ynl (v1:Tk):Option Int:=bif decide (v1.fd=22) then(some 1) else(some (i64.wrap ((v1.fb.length:Int)+(v1.fc.length:Int))))
def yst (v1:Tk):Ctr:=⟨yvf,[.agg [.I v1.fd,.I v1.fe,.I v1.fN,.imm 1 (v1.fb.map (V.int .i64)),.imm 1 (v1.fc.map V.bool),.I v1.fi]],[],Int,ynl v1,rI⟩
theorem yz7 {v1:Tk}:(yst v1).okF tab:=fun r hr=>⟨za1 qzn rfl (.br (decide (v1.fd=22)) (.lfA rI 1)<|.lenA (V.int .i64) v1.fb<|.lenA V.bool v1.fc<|.lfA rI (i64.wrap ((v1.fb.length:Int)+(v1.fc.length:Int))):Tree Int _) (by kernel_rfl) (by kernel_rfl) (bR (rfl)<|lA<|lA<|rfl) hr,rfl,rfl⟩
def yms (v1:Tk):Option Bool:=(yyx v1.fd).bind fun v2=>((yu8 v1.fd).bind fun v3=>(bif !v3 then(some false) else((zhf v1.fN v2.1.f0 v2.1.f1).bind fun v5=>(bif !v5 then(some false) else((zhf (v1.fb.length:Int) v2.2.1.f0 v2.2.1.f1).bind fun v7=>(bif !v7 then(some false) else((zhf (v1.fc.length:Int) v2.2.2.f0 v2.2.2.f1).bind fun v9=>(bif !v9 then(some false) else((zkf v1.fe).bind fun v11=>(bif !v11 then(some false) else((zkf v1.fi).bind fun v13=>(bif !v13 then(some false) else((yls v1.fb).bind fun v15=>(bif !v15 then(some false) else(bif decide (65536<(i64.wrap (v1.fe+v1.fN))) then(some false) else(bif decide (v1.fd=23) then((ynl v1).bind fun v19=>(some (decide ((i64.wrap (v1.fi+v19))<=65536)))) else(bif decide (v1.fi=0) then((ynl v1).bind fun v21=>(some (decide ((i64.wrap (v1.fe+v21))<=65536)))) else(some false))))))))))))))))))
def ysa (v1:Tk):Ctr:=⟨yx9,[.agg [.I v1.fd,.I v1.fe,.I v1.fN,.imm 1 (v1.fb.map (V.int .i64)),.imm 1 (v1.fc.map V.bool),.I v1.fi]],[],Bool,yms v1,rB⟩
theorem yu9 {v1:Tk}:(ysa v1).okF tab:=fun r hr=>⟨za1 je5 rfl (.callF (qnz v1.fd) fun(v2:Tl×Tl×Tl)=>.callF (qi3 v1.fd) fun(v3:Bool)=>.br (!v3) (.lfA rB false)<|.sk<|.sk<|.callF (zia v1.fN v2.1.f0 v2.1.f1) fun(v5:Bool)=>.br (!v5) (.lfA rB false)<|.lenA (V.int .i64) v1.fb<|.sk<|.sk<|.callF (zia (v1.fb.length:Int) v2.2.1.f0 v2.2.1.f1) fun(v7:Bool)=>.br (!v7) (.lfA rB false)<|.lenA V.bool v1.fc<|.sk<|.sk<|.callF (zia (v1.fc.length:Int) v2.2.2.f0 v2.2.2.f1) fun(v9:Bool)=>.br (!v9) (.lfA rB false)<|.callF (znf v1.fe) fun(v11:Bool)=>.br (!v11) (.lfA rB false)<|.callF (znf v1.fi) fun(v13:Bool)=>.br (!v13) (.lfA rB false)<|.callF (yue v1.fb) fun(v15:Bool)=>.br (!v15) (.lfA rB false)<|.br (decide (65536<(i64.wrap (v1.fe+v1.fN)))) (.lfA rB false)<|.br (decide (v1.fd=23)) (.callF (yst v1) fun(v19:Int)=>.lfA rB (decide ((i64.wrap (v1.fi+v19))<=65536)))<|.br (decide (v1.fi=0)) (.callF (yst v1) fun(v21:Int)=>.lfA rB (decide ((i64.wrap (v1.fe+v21))<=65536)))<|.lfA rB false:Tree Bool _) (by kernel_rfl) (by kernel_rfl) (cF jdi fun v2=>cF qoq fun v3=>bR (rfl)<|cF zit fun v5=>bR (rfl)<|lA<|cF zit fun v7=>bR (rfl)<|lA<|cF zit fun v9=>bR (rfl)<|cF zq3 fun v11=>bR (rfl)<|cF zq3 fun v13=>bR (rfl)<|cF yv8 fun v15=>bR (rfl)<|bR (rfl)<|bR (cF yz7 fun v19=>rfl)<|bR (cF yz7 fun v21=>rfl)<|rfl) hr,rfl,rfl⟩
def yw8 (v1:Th):Option Bool:=(ypo v1.fp).bind fun v2=>(bif v2 then((yij v1.fg).bind fun v4=>(bif v4 then((yms v1.fa).bind fun v6=>(some v6)) else(some false))) else(some false))
def qoa (v1:Th):Ctr:=⟨yy4,[.agg [.I v1.fp,.I v1.fg,.I v1.fa.fd,.I v1.fa.fe,.I v1.fa.fN,.imm 1 (v1.fa.fb.map (V.int .i64)),.imm 1 (v1.fa.fc.map V.bool),.I v1.fa.fi]],[],Bool,yw8 v1,rB⟩
theorem qx3 {v1:Th}:(qoa v1).okF tab:=fun r hr=>⟨za1 jh1 rfl (.callF (ytc v1.fp) fun(v2:Bool)=>.br v2 (.callF (ypr v1.fg) fun(v4:Bool)=>.br v4 (.callF (ysa v1.fa) fun(v6:Bool)=>.lfA rB v6)<|.lfA rB false)<|.lfA rB false:Tree Bool _) (by kernel_rfl) (by kernel_rfl) (cF yzh fun v2=>bR (cF ysn fun v4=>bR (cF yu9 fun v6=>rfl)<|rfl)<|rfl) hr,rfl,rfl⟩
def yz8 (v1:Td):Option Bool:=(zhf v1.fae 1 255).bind fun v2=>(bif v2 then(bif decide (v1.fe=0) then(bif decide (v1.fN=0) then(bif decide ((v1.fb.length:Int)=0) then(some (decide ((v1.fc.length:Int)=0))) else(some false)) else(some false)) else(some false)) else(some false))
def qma (v1:Td):Ctr:=⟨qat,[.agg [.I v1.fd,.I v1.fae,.I v1.fe,.I v1.fN,.imm 1 (v1.fb.map (V.int .i64)),.imm 1 (v1.fc.map V.bool)]],[],Bool,yz8 v1,rB⟩
theorem jeu {v1:Td}:(qma v1).okF tab:=fun r hr=>⟨za1 jc4 rfl (.callF (zia v1.fae 1 255) fun(v2:Bool)=>.br v2 (.br (decide (v1.fe=0)) (.br (decide (v1.fN=0)) (.lenA (V.int .i64) v1.fb<|.br (decide ((v1.fb.length:Int)=0)) (.lenA V.bool v1.fc<|.lfA rB (decide ((v1.fc.length:Int)=0)))<|.lfA rB false)<|.lfA rB false)<|.lfA rB false)<|.lfA rB false:Tree Bool _) (by kernel_rfl) (by kernel_rfl) (cF zit fun v2=>bR (bR (bR (lA<|bR (lA<|rfl)<|rfl)<|rfl)<|rfl)<|rfl) hr,rfl,rfl⟩
def zz6:(Tl×Tl×Int×Bool)->V×List (List V):=fun r=>(.tup [.agg [.int .i64 r.1.f0,.int .i64 r.1.f1],.agg [.int .i64 r.2.1.f0,.int .i64 r.2.1.f1],.int .i64 r.2.2.1,.bool r.2.2.2],[])
def yvc (v1:Int):Option (Tl×Tl×Int×Bool):=bif decide (v1=1) then(some ((⟨0,0⟩:Tl),(⟨1,2000⟩:Tl),0,false)) else(bif decide (v1=2) then(some ((⟨0,0⟩:Tl),(⟨1,2000⟩:Tl),0,false)) else(bif decide (v1=3) then(some ((⟨1,125⟩:Tl),(⟨0,0⟩:Tl),0,false)) else(bif decide (v1=4) then(some ((⟨1,125⟩:Tl),(⟨0,0⟩:Tl),0,false)) else(bif decide (v1=23) then(some ((⟨1,125⟩:Tl),(⟨0,0⟩:Tl),0,false)) else(bif decide (v1=5) then(some ((⟨0,0⟩:Tl),(⟨1,1⟩:Tl),0,true)) else(bif decide (v1=6) then(some ((⟨1,1⟩:Tl),(⟨0,0⟩:Tl),0,true)) else(bif decide (v1=15) then(some ((⟨0,0⟩:Tl),(⟨0,0⟩:Tl),1968,true)) else(bif decide (v1=16) then(some ((⟨0,0⟩:Tl),(⟨0,0⟩:Tl),123,true)) else(some ((⟨2,2⟩:Tl),(⟨0,0⟩:Tl),0,true))))))))))
def qm0 (v1:Int):Ctr:=⟨yur,[.I v1],[],Tl×Tl×Int×Bool,yvc v1,zz6⟩
theorem qwc (r:Tl×Tl×Int×Bool):(zz6 r).1.fresh=true:=by simp only [zz6,V.fresh,V.freshL,Bool.and_self,Bool.true_and]
theorem jfm {v1:Int}:(qm0 v1).okF tab:=fun r hr=>⟨za1 ja1 rfl (.br (decide (v1=1)) (.lfA zz6 ((⟨0,0⟩:Tl),(⟨1,2000⟩:Tl),0,false))<|.br (decide (v1=2)) (.lfA zz6 ((⟨0,0⟩:Tl),(⟨1,2000⟩:Tl),0,false))<|.br (decide (v1=3)) (.lfA zz6 ((⟨1,125⟩:Tl),(⟨0,0⟩:Tl),0,false))<|.br (decide (v1=4)) (.lfA zz6 ((⟨1,125⟩:Tl),(⟨0,0⟩:Tl),0,false))<|.br (decide (v1=23)) (.lfA zz6 ((⟨1,125⟩:Tl),(⟨0,0⟩:Tl),0,false))<|.br (decide (v1=5)) (.lfA zz6 ((⟨0,0⟩:Tl),(⟨1,1⟩:Tl),0,true))<|.br (decide (v1=6)) (.lfA zz6 ((⟨1,1⟩:Tl),(⟨0,0⟩:Tl),0,true))<|.br (decide (v1=15)) (.lfA zz6 ((⟨0,0⟩:Tl),(⟨0,0⟩:Tl),1968,true))<|.br (decide (v1=16)) (.lfA zz6 ((⟨0,0⟩:Tl),(⟨0,0⟩:Tl),123,true))<|.lfA zz6 ((⟨2,2⟩:Tl),(⟨0,0⟩:Tl),0,true):Tree (Tl×Tl×Int×Bool) _) (by kernel_rfl) (by kernel_rfl) (bR (rfl)<|bR (rfl)<|bR (rfl)<|bR (rfl)<|bR (rfl)<|bR (rfl)<|bR (rfl)<|bR (rfl)<|bR (rfl)<|rfl) hr,rfl,qwc r⟩
def yt0 (v1:Td):Option Bool:=(yu8 v1.fd).bind fun v2=>(bif !v2 then(some false) else(bif decide (v1.fae≠0) then((yz8 v1).bind fun v5=>(some v5)) else((yvc v1.fd).bind fun v6=>((zhf (v1.fb.length:Int) v6.1.f0 v6.1.f1).bind fun v7=>(bif !v7 then(some false) else((zhf (v1.fc.length:Int) v6.2.1.f0 v6.2.1.f1).bind fun v9=>(bif !v9 then(some false) else((yls v1.fb).bind fun v11=>(bif !v11 then(some false) else(bif decide (1<v6.2.1.f1) then(bif decide (((v1.fc.length:Int).tmod 8)≠0) then(some false) else(bif decide (v6.2.2.1=0) then(bif decide (v1.fN≠0) then(some false) else(bif decide (0<v6.2.2.1) then((zhf v1.fN 1 v6.2.2.1).bind fun v18=>(bif !v18 then(some false) else(bif v6.2.2.2 then((zkf v1.fe).bind fun v21=>(bif v21 then(some true) else(some (decide (v1.fe=0))))) else(some (decide (v1.fe=0)))))) else(bif v6.2.2.2 then((zkf v1.fe).bind fun v24=>(bif v24 then(some true) else(some (decide (v1.fe=0))))) else(some (decide (v1.fe=0)))))) else(bif decide (0<v6.2.2.1) then((zhf v1.fN 1 v6.2.2.1).bind fun v27=>(bif !v27 then(some false) else(bif v6.2.2.2 then((zkf v1.fe).bind fun v30=>(bif v30 then(some true) else(some (decide (v1.fe=0))))) else(some (decide (v1.fe=0)))))) else(bif v6.2.2.2 then((zkf v1.fe).bind fun v33=>(bif v33 then(some true) else(some (decide (v1.fe=0))))) else(some (decide (v1.fe=0))))))) else(bif decide (v6.2.2.1=0) then(bif decide (v1.fN≠0) then(some false) else(bif decide (0<v6.2.2.1) then((zhf v1.fN 1 v6.2.2.1).bind fun v38=>(bif !v38 then(some false) else(bif v6.2.2.2 then((zkf v1.fe).bind fun v41=>(bif v41 then(some true) else(some (decide (v1.fe=0))))) else(some (decide (v1.fe=0)))))) else(bif v6.2.2.2 then((zkf v1.fe).bind fun v44=>(bif v44 then(some true) else(some (decide (v1.fe=0))))) else(some (decide (v1.fe=0)))))) else(bif decide (0<v6.2.2.1) then((zhf v1.fN 1 v6.2.2.1).bind fun v47=>(bif !v47 then(some false) else(bif v6.2.2.2 then((zkf v1.fe).bind fun v50=>(bif v50 then(some true) else(some (decide (v1.fe=0))))) else(some (decide (v1.fe=0)))))) else(bif v6.2.2.2 then((zkf v1.fe).bind fun v53=>(bif v53 then(some true) else(some (decide (v1.fe=0))))) else(some (decide (v1.fe=0))))))))))))))))
def qj4 (v1:Td):Ctr:=⟨yys,[.agg [.I v1.fd,.I v1.fae,.I v1.fe,.I v1.fN,.imm 1 (v1.fb.map (V.int .i64)),.imm 1 (v1.fc.map V.bool)]],[],Bool,yt0 v1,rB⟩
theorem qoo {v1:Td}:(qj4 v1).okF tab:=fun r hr=>⟨za1 jfs rfl (.callF (qi3 v1.fd) fun(v2:Bool)=>.br (!v2) (.lfA rB false)<|.br (decide (v1.fae≠0)) (.callF (qma v1) fun(v5:Bool)=>.lfA rB v5)<|.callF (qm0 v1.fd) fun(v6:Tl×Tl×Int×Bool)=>.lenA (V.int .i64) v1.fb<|.sk<|.sk<|.callF (zia (v1.fb.length:Int) v6.1.f0 v6.1.f1) fun(v7:Bool)=>.br (!v7) (.lfA rB false)<|.lenA V.bool v1.fc<|.sk<|.sk<|.callF (zia (v1.fc.length:Int) v6.2.1.f0 v6.2.1.f1) fun(v9:Bool)=>.br (!v9) (.lfA rB false)<|.callF (yue v1.fb) fun(v11:Bool)=>.br (!v11) (.lfA rB false)<|.sk<|.br (decide (1<v6.2.1.f1)) (.lenA V.bool v1.fc<|.sk<|.br (decide (((v1.fc.length:Int).tmod 8)≠0)) (.lfA rB false)<|.br (decide (v6.2.2.1=0)) (.br (decide (v1.fN≠0)) (.lfA rB false)<|.br (decide (0<v6.2.2.1)) (.callF (zia v1.fN 1 v6.2.2.1) fun(v18:Bool)=>.br (!v18) (.lfA rB false)<|.br v6.2.2.2 (.callF (znf v1.fe) fun(v21:Bool)=>.br v21 (.lfA rB true)<|.lfA rB (decide (v1.fe=0)))<|.lfA rB (decide (v1.fe=0)))<|.br v6.2.2.2 (.callF (znf v1.fe) fun(v24:Bool)=>.br v24 (.lfA rB true)<|.lfA rB (decide (v1.fe=0)))<|.lfA rB (decide (v1.fe=0)))<|.br (decide (0<v6.2.2.1)) (.callF (zia v1.fN 1 v6.2.2.1) fun(v27:Bool)=>.br (!v27) (.lfA rB false)<|.br v6.2.2.2 (.callF (znf v1.fe) fun(v30:Bool)=>.br v30 (.lfA rB true)<|.lfA rB (decide (v1.fe=0)))<|.lfA rB (decide (v1.fe=0)))<|.br v6.2.2.2 (.callF (znf v1.fe) fun(v33:Bool)=>.br v33 (.lfA rB true)<|.lfA rB (decide (v1.fe=0)))<|.lfA rB (decide (v1.fe=0)))<|.br (decide (v6.2.2.1=0)) (.br (decide (v1.fN≠0)) (.lfA rB false)<|.br (decide (0<v6.2.2.1)) (.callF (zia v1.fN 1 v6.2.2.1) fun(v38:Bool)=>.br (!v38) (.lfA rB false)<|.br v6.2.2.2 (.callF (znf v1.fe) fun(v41:Bool)=>.br v41 (.lfA rB true)<|.lfA rB (decide (v1.fe=0)))<|.lfA rB (decide (v1.fe=0)))<|.br v6.2.2.2 (.callF (znf v1.fe) fun(v44:Bool)=>.br v44 (.lfA rB true)<|.lfA rB (decide (v1.fe=0)))<|.lfA rB (decide (v1.fe=0)))<|.br (decide (0<v6.2.2.1)) (.callF (zia v1.fN 1 v6.2.2.1) fun(v47:Bool)=>.br (!v47) (.lfA rB false)<|.br v6.2.2.2 (.callF (znf v1.fe) fun(v50:Bool)=>.br v50 (.lfA rB true)<|.lfA rB (decide (v1.fe=0)))<|.lfA rB (decide (v1.fe=0)))<|.br v6.2.2.2 (.callF (znf v1.fe) fun(v53:Bool)=>.br v53 (.lfA rB true)<|.lfA rB (decide (v1.fe=0)))<|.lfA rB (decide (v1.fe=0)):Tree Bool _) (by kernel_rfl) (by kernel_rfl) (cF qoq fun v2=>bR (rfl)<|bR (cF jeu fun v5=>rfl)<|cF jfm fun v6=>lA<|cF zit fun v7=>bR (rfl)<|lA<|cF zit fun v9=>bR (rfl)<|cF yv8 fun v11=>bR (rfl)<|bR (lA<|bR (rfl)<|bR (bR (rfl)<|bR (cF zit fun v18=>bR (rfl)<|bR (cF zq3 fun v21=>bR (rfl)<|rfl)<|rfl)<|bR (cF zq3 fun v24=>bR (rfl)<|rfl)<|rfl)<|bR (cF zit fun v27=>bR (rfl)<|bR (cF zq3 fun v30=>bR (rfl)<|rfl)<|rfl)<|bR (cF zq3 fun v33=>bR (rfl)<|rfl)<|rfl)<|bR (bR (rfl)<|bR (cF zit fun v38=>bR (rfl)<|bR (cF zq3 fun v41=>bR (rfl)<|rfl)<|rfl)<|bR (cF zq3 fun v44=>bR (rfl)<|rfl)<|rfl)<|bR (cF zit fun v47=>bR (rfl)<|bR (cF zq3 fun v50=>bR (rfl)<|rfl)<|rfl)<|bR (cF zq3 fun v53=>bR (rfl)<|rfl)<|rfl) hr,rfl,rfl⟩
def zs5 (v1:List Bool) (v2:Bool) (k:Int) (s:Unit):St:=⟨sv 8 [(0,.imm 1 (v1.map V.bool)),(1,.bool v2),(4,.I (v1.length:Int)),(5,.I k)],[]⟩
def zna (v1:List Bool) (v2:Bool):Int->Ex×St:=fun p=>(.ret,⟨sv 8 [(0,.imm 1 (v1.map V.bool)),(1,.bool v2),(2,.I p),(3,.I p),(4,.I (v1.length:Int)),(5,.I p),(6,.bool true),(7,.bool true)],[]⟩)
def zpz (v1:List Bool) (v2:Bool):Unit->Ex×St:=fun p=>((.exit 0),⟨sv 8 [(0,.imm 1 (v1.map V.bool)),(1,.bool v2),(4,.I (v1.length:Int)),(5,.I (v1.length:Int)),(6,.bool false)],[]⟩)
def zwt (v1:List Bool) (v2:Bool) (k:Int):=zbn (zs5 v1 v2 k) (Sum.elim (zna v1 v2) (zpz v1 v2))
def ygl (v1:List Bool) (v2:Bool) (k:Int) (x:Bool) (s:Unit):Option ((Unit)⊕(Int⊕Unit)):=bif false ^^ (v2 == x) then(some (.inr (.inl k))) else(some (.inl ()))
def yn0 (v1:List Bool) (v2:Bool) (s:Unit):Option (Int⊕Unit):=some ((.inr ()))
def zt6 (v1:List Bool) (v2:Bool) (s:Unit):Option (Int⊕Unit):=if v1.length<=9223372036854775806 then zaf (ygl v1 v2) (yn0 v1 v2) v1 0 s else none
def yhg (v1:List Bool) (v2:Bool) (s:Unit):Lc2:=⟨8,ykz,0,[2,3,6,7],some (zs5 v1 v2 0 s),Int,Unit,zt6 v1 v2 s,zna v1 v2,zpz v1 v2⟩
theorem yr7 {v1:List Bool} {v2:Bool} {s:Unit}:(yhg v1 v2 s).ok tab:=zar (zaa (J:=zs5 v1 v2) (o:=(Sum.elim (zna v1 v2) (zpz v1 v2))) v1 (B:=fun(k:Int) (x:Bool) (s:Unit)=>(.kb (decide (k<(v1.length:Int))) true<|.ob (0<=k)<|.lkX V.bool v1 (k.toNat) x<|.br (false ^^ (v2 == x)) (.lfA (zwt v1 v2 (i64.wrap (k+1))) (.inr (.inl k)))<|.lfA (zwt v1 v2 (i64.wrap (k+1))) (.inl ()):Tree ((Unit)⊕(Int⊕Unit)) _)) (E:=fun(s:Unit)=>(.kb (decide ((v1.length:Int)<(v1.length:Int))) false<|.lfA (zwt v1 v2 0) (.inr (.inr ())):Tree ((Unit)⊕(Int⊕Unit)) _)) (fun k x s=>by kernel_rfl) (fun d x t s he=>⟨ltX he,⟨Int.natCast_nonneg _,⟨za7 V.bool he,bR (rfl)<|rfl⟩⟩⟩) (ho2 (fun _=>rfl) fun _=>rfl) (fun s=>by kernel_rfl) (fun s=>⟨ltE _,rfl⟩) (by kernel_rfl) (by kernel_rfl) s)
def yye (v1:List Bool) (v2:Bool):Option Int:=(zt6 v1 v2 ()).bind (zbj (fun (v14:Int)=>(some v14)) (fun (v15:Unit)=>(some (-1))))
def qo4 (v1:List Bool) (v2:Bool):Ctr:=⟨qa4,[.imm 1 (v1.map V.bool),.bool v2],[],Int,yye v1 v2,rI⟩
theorem jgp {v1:List Bool} {v2:Bool}:(qo4 v1 v2).okF tab:=fun r hr=>⟨za1 jhz rfl (.lenA V.bool v1<|.lp2 (yhg v1 v2 ()) (fun (v14:Int)=>.lfA rI v14) (fun (v15:Unit)=>.lfA rI (-1)):Tree Int _) (by kernel_rfl) (by kernel_rfl) (lA<|lQ yr7 (fun v14=>rfl) (fun v15=>rfl)) hr,rfl,rfl⟩
def yt7 (v1:List Bool) (v2:Bool):Option Bool:=(yye v1 v2).bind fun v3=>(some (decide (0<=v3)))
def qix (v1:List Bool) (v2:Bool):Ctr:=⟨yxj,[.imm 1 (v1.map V.bool),.bool v2],[],Bool,yt7 v1 v2,rB⟩
theorem qo0 {v1:List Bool} {v2:Bool}:(qix v1 v2).okF tab:=fun r hr=>⟨za1 jaw rfl (.callF (qo4 v1 v2) fun(v3:Int)=>.lfA rB (decide (0<=v3)):Tree Bool _) (by kernel_rfl) (by kernel_rfl) (cF jgp fun v3=>rfl) hr,rfl,rfl⟩
def yt4 (v1:Int) (v2:List Bool):Option Bool:=bif decide ((v2.length:Int)=(i64.wrap ((i64.wrap ((i64.wrap (v1+7)).tdiv 8)) * 8))) then(if (0:Int)<=v1/\(v1:Int)<=(((v2.map V.bool).length:Nat):Int)/\(((v2.map V.bool).length:Nat):Int)<=(((v2.map V.bool).length:Nat):Int) then((yt7 ((v2.take ((((v2.map V.bool).length:Nat):Int).toNat)).drop ((v1:Int).toNat)) true).bind fun v4=>(some (!v4))) else none) else(some false)
def qf6 (v1:Int) (v2:List Bool):Ctr:=⟨yv1,[.I v1,.imm 1 (v2.map V.bool)],[],Bool,yt4 v1 v2,rB⟩
theorem qm6 {v1:Int} {v2:List Bool}:(qf6 v1 v2).okF tab:=fun r hr=>⟨za1 jdc rfl (.lenA V.bool v2<|.sk<|.br (decide ((v2.length:Int)=(i64.wrap ((i64.wrap ((i64.wrap (v1+7)).tdiv 8)) * 8)))) (.guard ((0:Int)<=v1/\(v1:Int)<=(((v2.map V.bool).length:Nat):Int)/\(((v2.map V.bool).length:Nat):Int)<=(((v2.map V.bool).length:Nat):Int)) inferInstance<|.cutA V.bool v2 ((v1:Int).toNat) ((((v2.map V.bool).length:Nat):Int).toNat)<|.callF (qix ((v2.take ((((v2.map V.bool).length:Nat):Int).toNat)).drop ((v1:Int).toNat)) true) fun(v4:Bool)=>.lfA rB (!v4))<|.lfA rB false:Tree Bool _) (by kernel_rfl) (by kernel_rfl) (lA<|bR (gU<|⟨zuu _ _ _ _,cF qo0 fun v4=>rfl⟩)<|rfl) hr,rfl,rfl⟩
def zte (v1:List Int) (v2:List Int) (k:Int) (s:Unit):St:=⟨sv 9 [(0,.imm 1 (v1.map (V.int .i64))),(1,.imm 1 (v2.map (V.int .i64))),(5,.I (v1.length:Int)),(6,.I k)],[]⟩
def zm9 (v1:List Int) (v2:List Int):Int->Ex×St:=fun p=>(.ret,⟨sv 9 [(0,.imm 1 (v1.map (V.int .i64))),(1,.imm 1 (v2.map (V.int .i64))),(2,.bool false),(3,.I p),(5,.I (v1.length:Int)),(6,.I p),(7,.bool true),(8,.bool true)],[]⟩)
def zmi (v1:List Int) (v2:List Int):Unit->Ex×St:=fun p=>((.exit 0),⟨sv 9 [(0,.imm 1 (v1.map (V.int .i64))),(1,.imm 1 (v2.map (V.int .i64))),(5,.I (v1.length:Int)),(6,.I (v1.length:Int)),(7,.bool false)],[]⟩)
def zw1 (v1:List Int) (v2:List Int) (k:Int):=zbn (zte v1 v2 k) (Sum.elim (zm9 v1 v2) (zmi v1 v2))
def yew (v1:List Int) (v2:List Int) (k:Int) (x:Int) (s:Unit):Option ((Unit)⊕(Int⊕Unit)):=((v2)[k.toNat]?).bind fun v18=>(bif decide (x≠v18) then(some (.inr (.inl k))) else(some (.inl ())))
def yph (v1:List Int) (v2:List Int) (s:Unit):Option (Int⊕Unit):=some ((.inr ()))
def zw8 (v1:List Int) (v2:List Int) (s:Unit):Option (Int⊕Unit):=if v1.length<=9223372036854775806 then zaf (yew v1 v2) (yph v1 v2) v1 0 s else none
def yej (v1:List Int) (v2:List Int) (s:Unit):Lc2:=⟨9,ylm,0,[2,3,4,7,8],some (zte v1 v2 0 s),Int,Unit,zw8 v1 v2 s,zm9 v1 v2,zmi v1 v2⟩
theorem ynw {v1:List Int} {v2:List Int} {s:Unit}:(yej v1 v2 s).ok tab:=zar (zaa (J:=zte v1 v2) (o:=(Sum.elim (zm9 v1 v2) (zmi v1 v2))) v1 (B:=fun(k:Int) (x:Int) (s:Unit)=>(.kb (decide (k<(v1.length:Int))) true<|.ob (0<=k)<|.lkX (V.int .i64) v1 (k.toNat) x<|.ob (0<=k)<|.lookA (V.int .i64) v2 (k.toNat) fun v18=>.br (decide (x≠v18)) (.lfA (zw1 v1 v2 (i64.wrap (k+1))) (.inr (.inl k)))<|.lfA (zw1 v1 v2 (i64.wrap (k+1))) (.inl ()):Tree ((Unit)⊕(Int⊕Unit)) _)) (E:=fun(s:Unit)=>(.kb (decide ((v1.length:Int)<(v1.length:Int))) false<|.lfA (zw1 v1 v2 0) (.inr (.inr ())):Tree ((Unit)⊕(Int⊕Unit)) _)) (fun k x s=>by kernel_rfl) (fun d x t s he=>⟨ltX he,⟨Int.natCast_nonneg _,⟨za7 (V.int .i64) he,⟨Int.natCast_nonneg _,kA fun v18=>bR (rfl)<|rfl⟩⟩⟩⟩) (ho2 (fun _=>rfl) fun _=>rfl) (fun s=>by kernel_rfl) (fun s=>⟨ltE _,rfl⟩) (by kernel_rfl) (by kernel_rfl) s)
def ysi (v1:List Int) (v2:List Int):Option Bool:=bif decide ((v1.length:Int)≠(v2.length:Int)) then(some false) else((zw8 v1 v2 ()).bind (zbj (fun (v21:Int)=>(some false)) (fun (v22:Unit)=>(some true))))
def yv9 (v1:List Int) (v2:List Int):Ctr:=⟨yvu,[.imm 1 (v1.map (V.int .i64)),.imm 1 (v2.map (V.int .i64))],[],Bool,ysi v1 v2,rB⟩
theorem qj9 {v1:List Int} {v2:List Int}:(yv9 v1 v2).okF tab:=fun r hr=>⟨za1 jdd rfl (.lenA (V.int .i64) v1<|.lenA (V.int .i64) v2<|.br (decide ((v1.length:Int)≠(v2.length:Int))) (.lfA rB false)<|.lenA (V.int .i64) v1<|.lp2 (yej v1 v2 ()) (fun (v21:Int)=>.lfA rB false) (fun (v22:Unit)=>.lfA rB true):Tree Bool _) (by kernel_rfl) (by kernel_rfl) (lA<|lA<|bR (rfl)<|lA<|lQ ynw (fun v21=>rfl) (fun v22=>rfl)) hr,rfl,rfl⟩
def zx5 (v1:List Bool) (v2:List Bool) (k:Int) (s:Unit):St:=⟨sv 9 [(0,.imm 1 (v1.map V.bool)),(1,.imm 1 (v2.map V.bool)),(5,.I (v1.length:Int)),(6,.I k)],[]⟩
def zp5 (v1:List Bool) (v2:List Bool):Int->Ex×St:=fun p=>(.ret,⟨sv 9 [(0,.imm 1 (v1.map V.bool)),(1,.imm 1 (v2.map V.bool)),(2,.bool false),(3,.I p),(5,.I (v1.length:Int)),(6,.I p),(7,.bool true),(8,.bool true)],[]⟩)
def zlp (v1:List Bool) (v2:List Bool):Unit->Ex×St:=fun p=>((.exit 0),⟨sv 9 [(0,.imm 1 (v1.map V.bool)),(1,.imm 1 (v2.map V.bool)),(5,.I (v1.length:Int)),(6,.I (v1.length:Int)),(7,.bool false)],[]⟩)
def zw7 (v1:List Bool) (v2:List Bool) (k:Int):=zbn (zx5 v1 v2 k) (Sum.elim (zp5 v1 v2) (zlp v1 v2))
def yeu (v1:List Bool) (v2:List Bool) (k:Int) (x:Bool) (s:Unit):Option ((Unit)⊕(Int⊕Unit)):=((v2)[k.toNat]?).bind fun v18=>(bif true ^^ (x == v18) then(some (.inr (.inl k))) else(some (.inl ())))
def yn9 (v1:List Bool) (v2:List Bool) (s:Unit):Option (Int⊕Unit):=some ((.inr ()))
def ztj (v1:List Bool) (v2:List Bool) (s:Unit):Option (Int⊕Unit):=if v1.length<=9223372036854775806 then zaf (yeu v1 v2) (yn9 v1 v2) v1 0 s else none
def yg5 (v1:List Bool) (v2:List Bool) (s:Unit):Lc2:=⟨9,ykn,0,[2,3,4,7,8],some (zx5 v1 v2 0 s),Int,Unit,ztj v1 v2 s,zp5 v1 v2,zlp v1 v2⟩
theorem yq2 {v1:List Bool} {v2:List Bool} {s:Unit}:(yg5 v1 v2 s).ok tab:=zar (zaa (J:=zx5 v1 v2) (o:=(Sum.elim (zp5 v1 v2) (zlp v1 v2))) v1 (B:=fun(k:Int) (x:Bool) (s:Unit)=>(.kb (decide (k<(v1.length:Int))) true<|.ob (0<=k)<|.lkX V.bool v1 (k.toNat) x<|.ob (0<=k)<|.lookA V.bool v2 (k.toNat) fun v18=>.br (true ^^ (x == v18)) (.lfA (zw7 v1 v2 (i64.wrap (k+1))) (.inr (.inl k)))<|.lfA (zw7 v1 v2 (i64.wrap (k+1))) (.inl ()):Tree ((Unit)⊕(Int⊕Unit)) _)) (E:=fun(s:Unit)=>(.kb (decide ((v1.length:Int)<(v1.length:Int))) false<|.lfA (zw7 v1 v2 0) (.inr (.inr ())):Tree ((Unit)⊕(Int⊕Unit)) _)) (fun k x s=>by kernel_rfl) (fun d x t s he=>⟨ltX he,⟨Int.natCast_nonneg _,⟨za7 V.bool he,⟨Int.natCast_nonneg _,kA fun v18=>bR (rfl)<|rfl⟩⟩⟩⟩) (ho2 (fun _=>rfl) fun _=>rfl) (fun s=>by kernel_rfl) (fun s=>⟨ltE _,rfl⟩) (by kernel_rfl) (by kernel_rfl) s)
def ys2 (v1:List Bool) (v2:List Bool):Option Bool:=bif decide ((v1.length:Int)≠(v2.length:Int)) then(some false) else((ztj v1 v2 ()).bind (zbj (fun (v21:Int)=>(some false)) (fun (v22:Unit)=>(some true))))
def qal (v1:List Bool) (v2:List Bool):Ctr:=⟨yvz,[.imm 1 (v1.map V.bool),.imm 1 (v2.map V.bool)],[],Bool,ys2 v1 v2,rB⟩
theorem qd9 {v1:List Bool} {v2:List Bool}:(qal v1 v2).okF tab:=fun r hr=>⟨za1 jfq rfl (.lenA V.bool v1<|.lenA V.bool v2<|.br (decide ((v1.length:Int)≠(v2.length:Int))) (.lfA rB false)<|.lenA V.bool v1<|.lp2 (yg5 v1 v2 ()) (fun (v21:Int)=>.lfA rB false) (fun (v22:Unit)=>.lfA rB true):Tree Bool _) (by kernel_rfl) (by kernel_rfl) (lA<|lA<|bR (rfl)<|lA<|lQ yq2 (fun v21=>rfl) (fun v22=>rfl)) hr,rfl,rfl⟩
def yv7 (v1:Tk) (v2:Td):Option Bool:=(yms v1).bind fun v3=>(bif !v3 then(some false) else((yt0 v2).bind fun v5=>(bif !v5 then(some false) else(bif decide (v2.fd≠v1.fd) then(some false) else(bif decide (v2.fae≠0) then(some true) else(bif decide (v1.fd=1) then((yt4 v1.fN v2.fc).bind fun v10=>(some v10)) else(bif decide (v1.fd=2) then((yt4 v1.fN v2.fc).bind fun v12=>(some v12)) else(bif decide (v1.fd=3) then(some (decide ((v2.fb.length:Int)=v1.fN))) else(bif decide (v1.fd=4) then(some (decide ((v2.fb.length:Int)=v1.fN))) else(bif decide (v1.fd=23) then(some (decide ((v2.fb.length:Int)=v1.fN))) else(bif decide (v1.fd=15) then(bif decide (v2.fe=v1.fe) then((ynl v1).bind fun v18=>(some (decide (v2.fN=v18)))) else(some false)) else(bif decide (v1.fd=16) then(bif decide (v2.fe=v1.fe) then((ynl v1).bind fun v21=>(some (decide (v2.fN=v21)))) else(some false)) else(bif decide (v2.fe=v1.fe) then((ysi v2.fb v1.fb).bind fun v23=>(bif v23 then((ys2 v2.fc v1.fc).bind fun v25=>(some v25)) else(some false))) else(some false))))))))))))))
def qlg (v1:Tk) (v2:Td):Ctr:=⟨ywb,[.agg [.I v1.fd,.I v1.fe,.I v1.fN,.imm 1 (v1.fb.map (V.int .i64)),.imm 1 (v1.fc.map V.bool),.I v1.fi],.agg [.I v2.fd,.I v2.fae,.I v2.fe,.I v2.fN,.imm 1 (v2.fb.map (V.int .i64)),.imm 1 (v2.fc.map V.bool)]],[],Bool,yv7 v1 v2,rB⟩
theorem qr1 {v1:Tk} {v2:Td}:(qlg v1 v2).okF tab:=fun r hr=>⟨za1 qxp rfl (.callF (ysa v1) fun(v3:Bool)=>.br (!v3) (.lfA rB false)<|.callF (qj4 v2) fun(v5:Bool)=>.br (!v5) (.lfA rB false)<|.br (decide (v2.fd≠v1.fd)) (.lfA rB false)<|.br (decide (v2.fae≠0)) (.lfA rB true)<|.br (decide (v1.fd=1)) (.callF (qf6 v1.fN v2.fc) fun(v10:Bool)=>.lfA rB v10)<|.br (decide (v1.fd=2)) (.callF (qf6 v1.fN v2.fc) fun(v12:Bool)=>.lfA rB v12)<|.br (decide (v1.fd=3)) (.lenA (V.int .i64) v2.fb<|.lfA rB (decide ((v2.fb.length:Int)=v1.fN)))<|.br (decide (v1.fd=4)) (.lenA (V.int .i64) v2.fb<|.lfA rB (decide ((v2.fb.length:Int)=v1.fN)))<|.br (decide (v1.fd=23)) (.lenA (V.int .i64) v2.fb<|.lfA rB (decide ((v2.fb.length:Int)=v1.fN)))<|.br (decide (v1.fd=15)) (.br (decide (v2.fe=v1.fe)) (.callF (yst v1) fun(v18:Int)=>.lfA rB (decide (v2.fN=v18)))<|.lfA rB false)<|.br (decide (v1.fd=16)) (.br (decide (v2.fe=v1.fe)) (.callF (yst v1) fun(v21:Int)=>.lfA rB (decide (v2.fN=v21)))<|.lfA rB false)<|.br (decide (v2.fe=v1.fe)) (.callF (yv9 v2.fb v1.fb) fun(v23:Bool)=>.br v23 (.callF (qal v2.fc v1.fc) fun(v25:Bool)=>.lfA rB v25)<|.lfA rB false)<|.lfA rB false:Tree Bool _) (by kernel_rfl) (by kernel_rfl) (cF yu9 fun v3=>bR (rfl)<|cF qoo fun v5=>bR (rfl)<|bR (rfl)<|bR (rfl)<|bR (cF qm6 fun v10=>rfl)<|bR (cF qm6 fun v12=>rfl)<|bR (lA<|rfl)<|bR (lA<|rfl)<|bR (lA<|rfl)<|bR (bR (cF yz7 fun v18=>rfl)<|rfl)<|bR (bR (cF yz7 fun v21=>rfl)<|rfl)<|bR (cF qj9 fun v23=>bR (cF qd9 fun v25=>rfl)<|rfl)<|rfl) hr,rfl,rfl⟩
def ys5 (v1:Td) (v2:Td):Option Bool:=bif decide (v1.fd=v2.fd) then(bif decide (v1.fae=v2.fae) then(bif decide (v1.fe=v2.fe) then(bif decide (v1.fN=v2.fN) then((ysi v1.fb v2.fb).bind fun v7=>(bif v7 then((ys2 v1.fc v2.fc).bind fun v9=>(some v9)) else(some false))) else(some false)) else(some false)) else(some false)) else(some false)
def yxy (v1:Td) (v2:Td):Ctr:=⟨qc2,[.agg [.I v1.fd,.I v1.fae,.I v1.fe,.I v1.fN,.imm 1 (v1.fb.map (V.int .i64)),.imm 1 (v1.fc.map V.bool)],.agg [.I v2.fd,.I v2.fae,.I v2.fe,.I v2.fN,.imm 1 (v2.fb.map (V.int .i64)),.imm 1 (v2.fc.map V.bool)]],[],Bool,ys5 v1 v2,rB⟩
theorem qed {v1:Td} {v2:Td}:(yxy v1 v2).okF tab:=fun r hr=>⟨za1 qsi rfl (.br (decide (v1.fd=v2.fd)) (.br (decide (v1.fae=v2.fae)) (.br (decide (v1.fe=v2.fe)) (.br (decide (v1.fN=v2.fN)) (.callF (yv9 v1.fb v2.fb) fun(v7:Bool)=>.br v7 (.callF (qal v1.fc v2.fc) fun(v9:Bool)=>.lfA rB v9)<|.lfA rB false)<|.lfA rB false)<|.lfA rB false)<|.lfA rB false)<|.lfA rB false:Tree Bool _) (by kernel_rfl) (by kernel_rfl) (bR (bR (bR (bR (cF qj9 fun v7=>bR (cF qd9 fun v9=>rfl)<|rfl)<|rfl)<|rfl)<|rfl)<|rfl) hr,rfl,rfl⟩
def zs8 (v1:Tb) (k:Int) (s:Unit):St:=⟨sv 12 [(1,.ref (.box 0) 0 []),(7,.imm 8 (v1.fo.map Th.i)),(8,.I (v1.fo.length:Int)),(9,.I k)],[[.I v1.fk,.I v1.fai,.I v1.faj,.I v1.fg,.I v1.fa.fd,.I v1.fa.fe,.I v1.fa.fN,.imm 1 (v1.fa.fb.map (V.int .i64)),.imm 1 (v1.fa.fc.map V.bool),.I v1.fa.fi,.imm 8 (v1.fo.map Th.i),.imm 1 (v1.fu.map V.bool),.imm 6 (v1.fab.map Td.i)]]⟩
def zoo (v1:Tb):(Int×Th)->Ex×St:=fun p=>(.ret,⟨sv 12 [(1,.ref (.box 0) 0 []),(2,.bool false),(4,.I p.1),(5,.ref (.box 1) 0 []),(7,.imm 8 (v1.fo.map Th.i)),(8,.I (v1.fo.length:Int)),(9,.I p.1),(10,.bool true),(11,.bool true)],[[.I v1.fk,.I v1.fai,.I v1.faj,.I v1.fg,.I v1.fa.fd,.I v1.fa.fe,.I v1.fa.fN,.imm 1 (v1.fa.fb.map (V.int .i64)),.imm 1 (v1.fa.fc.map V.bool),.I v1.fa.fi,.imm 8 (v1.fo.map Th.i),.imm 1 (v1.fu.map V.bool),.imm 6 (v1.fab.map Td.i)],[.I p.2.fp,.I p.2.fg,.I p.2.fa.fd,.I p.2.fa.fe,.I p.2.fa.fN,.imm 1 (p.2.fa.fb.map (V.int .i64)),.imm 1 (p.2.fa.fc.map V.bool),.I p.2.fa.fi]]⟩)
def zo7 (v1:Tb):Unit->Ex×St:=fun p=>((.exit 0),⟨sv 12 [(1,.ref (.box 0) 0 []),(7,.imm 8 (v1.fo.map Th.i)),(8,.I (v1.fo.length:Int)),(9,.I (v1.fo.length:Int)),(10,.bool false)],[[.I v1.fk,.I v1.fai,.I v1.faj,.I v1.fg,.I v1.fa.fd,.I v1.fa.fe,.I v1.fa.fN,.imm 1 (v1.fa.fb.map (V.int .i64)),.imm 1 (v1.fa.fc.map V.bool),.I v1.fa.fi,.imm 8 (v1.fo.map Th.i),.imm 1 (v1.fu.map V.bool),.imm 6 (v1.fab.map Td.i)]]⟩)
def zei (v1:Tb) (k:Int):=zbn (zs8 v1 k) (Sum.elim (zoo v1) (zo7 v1))
def yh4 (v1:Tb) (k:Int) (x:Th) (s:Unit):Option ((Unit)⊕((Int×Th)⊕Unit)):=(yw8 x).bind fun v55=>(bif !v55 then(some (.inr (.inl (k,x)))) else(((v1.fu)[k.toNat]?).bind fun v57=>(bif v57 then(((v1.fab)[k.toNat]?).bind fun v60=>((yv7 x.fa v60).bind fun v62=>(bif !v62 then(some (.inr (.inl (k,x)))) else(bif !v57 then((ys5 v60 (⟨0,0,0,0,[],[]⟩:Td)).bind fun v65=>(bif !v65 then(some (.inr (.inl (k,x)))) else(some (.inl ())))) else(some (.inl ())))))) else(bif !v57 then(((v1.fab)[k.toNat]?).bind fun v68=>((ys5 v68 (⟨0,0,0,0,[],[]⟩:Td)).bind fun v70=>(bif !v70 then(some (.inr (.inl (k,x)))) else(some (.inl ()))))) else(some (.inl ()))))))
def yp3 (v1:Tb) (s:Unit):Option ((Int×Th)⊕Unit):=some ((.inr ()))
def zvq (v1:Tb) (s:Unit):Option ((Int×Th)⊕Unit):=if v1.fo.length<=9223372036854775806 then zaf (yh4 v1) (yp3 v1) v1.fo 0 s else none
def ydp (v1:Tb) (s:Unit):Lc2:=⟨12,ylh,1,[0,2,3,4,5,6,10,11],some (zs8 v1 0 s),Int×Th,Unit,zvq v1 s,zoo v1,zo7 v1⟩
theorem yr1 {v1:Tb} {s:Unit}:(ydp v1 s).ok tab:=zar (zaa (J:=zs8 v1) (o:=(Sum.elim (zoo v1) (zo7 v1))) v1.fo (B:=fun(k:Int) (x:Th) (s:Unit)=>(.kb (decide (k<(v1.fo.length:Int))) true<|.ob (0<=k)<|.lkX Th.i v1.fo (k.toNat) x<|.callF (qoa x) fun(v55:Bool)=>.br (!v55) (.lfA (zei v1 (i64.wrap (k+1))) (.inr (.inl (k,x))))<|.ob (0<=k)<|.lookA V.bool v1.fu (k.toNat) fun v57=>.br v57 (.ob (0<=k)<|.lookA Td.i v1.fab (k.toNat) fun v60=>.callF (qlg x.fa v60) fun(v62:Bool)=>.br (!v62) (.lfA (zei v1 (i64.wrap (k+1))) (.inr (.inl (k,x))))<|.ob (0<=k)<|.lkX V.bool v1.fu (k.toNat) v57<|.br (!v57) (.ob (0<=k)<|.lkX Td.i v1.fab (k.toNat) v60<|.seg [] 0 0 []<|.eqL [] []<|.seg [] 0 0 []<|.eqL [] []<|.callF (yxy v60 (⟨0,0,0,0,[],[]⟩:Td)) fun(v65:Bool)=>.br (!v65) (.lfA (zei v1 (i64.wrap (k+1))) (.inr (.inl (k,x))))<|.lfA (zei v1 (i64.wrap (k+1))) (.inl ()))<|.lfA (zei v1 (i64.wrap (k+1))) (.inl ()))<|.ob (0<=k)<|.lkX V.bool v1.fu (k.toNat) v57<|.br (!v57) (.ob (0<=k)<|.lookA Td.i v1.fab (k.toNat) fun v68=>.seg [] 0 0 []<|.eqL [] []<|.seg [] 0 0 []<|.eqL [] []<|.callF (yxy v68 (⟨0,0,0,0,[],[]⟩:Td)) fun(v70:Bool)=>.br (!v70) (.lfA (zei v1 (i64.wrap (k+1))) (.inr (.inl (k,x))))<|.lfA (zei v1 (i64.wrap (k+1))) (.inl ()))<|.lfA (zei v1 (i64.wrap (k+1))) (.inl ()):Tree ((Unit)⊕((Int×Th)⊕Unit)) _)) (E:=fun(s:Unit)=>(.kb (decide ((v1.fo.length:Int)<(v1.fo.length:Int))) false<|.lfA (zei v1 0) (.inr (.inr ())):Tree ((Unit)⊕((Int×Th)⊕Unit)) _)) (fun k x s=>by kernel_rfl) (fun d x t s he=>⟨ltX he,⟨Int.natCast_nonneg _,⟨za7 Th.i he,cF qx3 fun v55=>bR (rfl)<|⟨Int.natCast_nonneg _,⟨zbw _ _ _,fun v57 h58=>bR (⟨Int.natCast_nonneg _,⟨zbw _ _ _,fun v60 h61=>cF qr1 fun v62=>bR (rfl)<|⟨Int.natCast_nonneg _,⟨zaw _ h58,bR (⟨Int.natCast_nonneg _,⟨zaw _ h61,⟨zc1 [],⟨rfl,⟨zc1 [],⟨rfl,cF qed fun v65=>bR (rfl)<|rfl⟩⟩⟩⟩⟩⟩)<|rfl⟩⟩⟩⟩)<|⟨Int.natCast_nonneg _,⟨zaw _ h58,bR (⟨Int.natCast_nonneg _,kA fun v68=>⟨zc1 [],⟨rfl,⟨zc1 [],⟨rfl,cF qed fun v70=>bR (rfl)<|rfl⟩⟩⟩⟩⟩)<|rfl⟩⟩⟩⟩⟩⟩⟩) (ho2 (fun _=>rfl) fun _=>rfl) (fun s=>by kernel_rfl) (fun s=>⟨ltE _,rfl⟩) (by kernel_rfl) (by kernel_rfl) s)
def yy3 (v1:Tb):Option Bool:=bif decide (v1.fk<0) then(some false) else((ygr v1.fai).bind fun v3=>(bif !v3 then(some false) else((ygr v1.faj).bind fun v5=>(bif !v5 then(some false) else((yms v1.fa).bind fun v7=>(bif !v7 then(some false) else((zhf (v1.fo.length:Int) 1 8).bind fun v9=>(bif !v9 then(some false) else(bif decide ((v1.fu.length:Int)≠(v1.fo.length:Int)) then(some false) else(bif decide ((v1.fab.length:Int)≠(v1.fo.length:Int)) then(some false) else((zvq v1 ()).bind (zbj (fun (v72:Int×Th)=>(some false)) (fun (v73:Unit)=>((yt7 v1.fu false).bind fun v74=>(some v74)))))))))))))))
def qme (v1:Tb):Ctr:=⟨ywt,[.agg [.I v1.fk,.I v1.fai,.I v1.faj,.I v1.fg,.I v1.fa.fd,.I v1.fa.fe,.I v1.fa.fN,.imm 1 (v1.fa.fb.map (V.int .i64)),.imm 1 (v1.fa.fc.map V.bool),.I v1.fa.fi,.imm 8 (v1.fo.map Th.i),.imm 1 (v1.fu.map V.bool),.imm 6 (v1.fab.map Td.i)]],[],Bool,yy3 v1,rB⟩
theorem qqp {v1:Tb}:(qme v1).okF tab:=fun r hr=>⟨za1 jik rfl (.lenA Th.i v1.fo<|.br (decide (v1.fk<0)) (.lfA rB false)<|.callF (yip v1.fai) fun(v3:Bool)=>.br (!v3) (.lfA rB false)<|.callF (yip v1.faj) fun(v5:Bool)=>.br (!v5) (.lfA rB false)<|.callF (ysa v1.fa) fun(v7:Bool)=>.br (!v7) (.lfA rB false)<|.callF (zia (v1.fo.length:Int) 1 8) fun(v9:Bool)=>.br (!v9) (.lfA rB false)<|.lenA V.bool v1.fu<|.br (decide ((v1.fu.length:Int)≠(v1.fo.length:Int))) (.lfA rB false)<|.lenA Td.i v1.fab<|.br (decide ((v1.fab.length:Int)≠(v1.fo.length:Int))) (.lfA rB false)<|.lenA Th.i v1.fo<|.lp2 (ydp v1 ()) (fun (v72:Int×Th)=>.lfA rB false) (fun (v73:Unit)=>.callF (qix v1.fu false) fun(v74:Bool)=>.lfA rB v74):Tree Bool _) (by kernel_rfl) (by kernel_rfl) (lA<|bR (rfl)<|cF ymo fun v3=>bR (rfl)<|cF ymo fun v5=>bR (rfl)<|cF yu9 fun v7=>bR (rfl)<|cF zit fun v9=>bR (rfl)<|lA<|bR (rfl)<|lA<|bR (rfl)<|lA<|lQ yr1 (fun v72=>rfl) (fun v73=>cF qo0 fun v74=>rfl)) hr,rfl,rfl⟩
def zt7 (v1:Tn) (k:Int) (s:Unit):St:=⟨sv 10 [(1,.ref (.box 0) 0 []),(5,.imm 13 (v1.fj.map Tb.i)),(6,.I (v1.fj.length:Int)),(7,.I k)],[[.I v1.fw,.imm 13 (v1.fj.map Tb.i)]]⟩
def zlb (v1:Tn):(Int×Tb)->Ex×St:=fun p=>(.ret,⟨sv 10 [(1,.ref (.box 0) 0 []),(2,.bool false),(3,.I p.1),(4,.ref (.box 1) 0 []),(5,.imm 13 (v1.fj.map Tb.i)),(6,.I (v1.fj.length:Int)),(7,.I p.1),(8,.bool true),(9,.bool true)],[[.I v1.fw,.imm 13 (v1.fj.map Tb.i)],[.I p.2.fk,.I p.2.fai,.I p.2.faj,.I p.2.fg,.I p.2.fa.fd,.I p.2.fa.fe,.I p.2.fa.fN,.imm 1 (p.2.fa.fb.map (V.int .i64)),.imm 1 (p.2.fa.fc.map V.bool),.I p.2.fa.fi,.imm 8 (p.2.fo.map Th.i),.imm 1 (p.2.fu.map V.bool),.imm 6 (p.2.fab.map Td.i)]]⟩)
def zle (v1:Tn):Unit->Ex×St:=fun p=>((.exit 0),⟨sv 10 [(1,.ref (.box 0) 0 []),(5,.imm 13 (v1.fj.map Tb.i)),(6,.I (v1.fj.length:Int)),(7,.I (v1.fj.length:Int)),(8,.bool false)],[[.I v1.fw,.imm 13 (v1.fj.map Tb.i)]]⟩)
def zgw (v1:Tn) (k:Int):=zbn (zt7 v1 k) (Sum.elim (zlb v1) (zle v1))
def ybx (v1:Tn) (k:Int) (x:Tb) (s:Unit):Option ((Unit)⊕((Int×Tb)⊕Unit)):=(yy3 x).bind fun v20=>(bif !v20 then(some (.inr (.inl (k,x)))) else(bif decide (v1.fw<=x.fk) then(some (.inr (.inl (k,x)))) else(bif decide (0<k) then(if 0<=(i64.wrap (k - 1)) then(((v1.fj)[(i64.wrap (k - 1)).toNat]?).bind fun v24=>(bif decide (x.fk<=v24.fk) then(some (.inr (.inl (k,x)))) else(some (.inl ())))) else none) else(some (.inl ())))))
def ype (v1:Tn) (s:Unit):Option ((Int×Tb)⊕Unit):=some ((.inr ()))
def zs4 (v1:Tn) (s:Unit):Option ((Int×Tb)⊕Unit):=if v1.fj.length<=9223372036854775806 then zaf (ybx v1) (ype v1) v1.fj 0 s else none
def yf1 (v1:Tn) (s:Unit):Lc2:=⟨10,ymi,1,[0,2,3,4,8,9],some (zt7 v1 0 s),Int×Tb,Unit,zs4 v1 s,zlb v1,zle v1⟩
theorem yqh {v1:Tn} {s:Unit}:(yf1 v1 s).ok tab:=zar (zaa (J:=zt7 v1) (o:=(Sum.elim (zlb v1) (zle v1))) v1.fj (B:=fun(k:Int) (x:Tb) (s:Unit)=>(.kb (decide (k<(v1.fj.length:Int))) true<|.ob (0<=k)<|.lkX Tb.i v1.fj (k.toNat) x<|.callF (qme x) fun(v20:Bool)=>.br (!v20) (.lfA (zgw v1 (i64.wrap (k+1))) (.inr (.inl (k,x))))<|.br (decide (v1.fw<=x.fk)) (.lfA (zgw v1 (i64.wrap (k+1))) (.inr (.inl (k,x))))<|.br (decide (0<k)) (.guard (0<=(i64.wrap (k - 1))) inferInstance<|.lookA Tb.i v1.fj ((i64.wrap (k - 1)).toNat) fun v24=>.br (decide (x.fk<=v24.fk)) (.lfA (zgw v1 (i64.wrap (k+1))) (.inr (.inl (k,x))))<|.lfA (zgw v1 (i64.wrap (k+1))) (.inl ()))<|.lfA (zgw v1 (i64.wrap (k+1))) (.inl ()):Tree ((Unit)⊕((Int×Tb)⊕Unit)) _)) (E:=fun(s:Unit)=>(.kb (decide ((v1.fj.length:Int)<(v1.fj.length:Int))) false<|.lfA (zgw v1 0) (.inr (.inr ())):Tree ((Unit)⊕((Int×Tb)⊕Unit)) _)) (fun k x s=>by kernel_rfl) (fun d x t s he=>⟨ltX he,⟨Int.natCast_nonneg _,⟨za7 Tb.i he,cF qqp fun v20=>bR (rfl)<|bR (rfl)<|bR (gU<|kA fun v24=>bR (rfl)<|rfl)<|rfl⟩⟩⟩) (ho2 (fun _=>rfl) fun _=>rfl) (fun s=>by kernel_rfl) (fun s=>⟨ltE _,rfl⟩) (by kernel_rfl) (by kernel_rfl) s)
def ytm (v1:Tn):Option Bool:=(zs4 v1 ()).bind (zbj (fun (v27:Int×Tb)=>(some false)) (fun (v28:Unit)=>((ygr v1.fw).bind fun v29=>(bif v29 then(some (decide ((v1.fj.length:Int)<=16))) else(some false)))))
def qd8 (v1:Tn):Ctr:=⟨yzw,[.agg [.I v1.fw,.imm 13 (v1.fj.map Tb.i)]],[],Bool,ytm v1,rB⟩
theorem qmc {v1:Tn}:(qd8 v1).okF tab:=fun r hr=>⟨za1 jb6 rfl (.lenA Tb.i v1.fj<|.lp2 (yf1 v1 ()) (fun (v27:Int×Tb)=>.lfA rB false) (fun (v28:Unit)=>.callF (yip v1.fw) fun(v29:Bool)=>.br v29 (.lenA Tb.i v1.fj<|.lfA rB (decide ((v1.fj.length:Int)<=16)))<|.lfA rB false):Tree Bool _) (by kernel_rfl) (by kernel_rfl) (lA<|lQ yqh (fun v27=>rfl) (fun v28=>cF ymo fun v29=>bR (lA<|rfl)<|rfl)) hr,rfl,rfl⟩
def yti (v1:Ta):Option Bool:=(ygr v1.fk).bind fun v2=>(bif v2 then((zhf v1.fr 0 7).bind fun v4=>(bif v4 then((yij v1.fg).bind fun v6=>(bif v6 then((yms v1.fa).bind fun v8=>(some v8)) else(some false))) else(some false))) else(some false))
def qhi (v1:Ta):Ctr:=⟨qb4,[.agg [.I v1.fk,.I v1.fr,.I v1.fg,.I v1.fa.fd,.I v1.fa.fe,.I v1.fa.fN,.imm 1 (v1.fa.fb.map (V.int .i64)),.imm 1 (v1.fa.fc.map V.bool),.I v1.fa.fi]],[],Bool,yti v1,rB⟩
theorem qm9 {v1:Ta}:(qhi v1).okF tab:=fun r hr=>⟨za1 jds rfl (.callF (yip v1.fk) fun(v2:Bool)=>.br v2 (.callF (zia v1.fr 0 7) fun(v4:Bool)=>.br v4 (.callF (ypr v1.fg) fun(v6:Bool)=>.br v6 (.callF (ysa v1.fa) fun(v8:Bool)=>.lfA rB v8)<|.lfA rB false)<|.lfA rB false)<|.lfA rB false:Tree Bool _) (by kernel_rfl) (by kernel_rfl) (cF ymo fun v2=>bR (cF zit fun v4=>bR (cF ysn fun v6=>bR (cF yu9 fun v8=>rfl)<|rfl)<|rfl)<|rfl) hr,rfl,rfl⟩
def yrx (v1:Tk) (v2:Tk):Option Bool:=bif decide (v1.fd=v2.fd) then(bif decide (v1.fe=v2.fe) then(bif decide (v1.fN=v2.fN) then(bif decide (v1.fi=v2.fi) then((ysi v1.fb v2.fb).bind fun v7=>(bif v7 then((ys2 v1.fc v2.fc).bind fun v9=>(some v9)) else(some false))) else(some false)) else(some false)) else(some false)) else(some false)
def ywv (v1:Tk) (v2:Tk):Ctr:=⟨qbv,[.agg [.I v1.fd,.I v1.fe,.I v1.fN,.imm 1 (v1.fb.map (V.int .i64)),.imm 1 (v1.fc.map V.bool),.I v1.fi],.agg [.I v2.fd,.I v2.fe,.I v2.fN,.imm 1 (v2.fb.map (V.int .i64)),.imm 1 (v2.fc.map V.bool),.I v2.fi]],[],Bool,yrx v1 v2,rB⟩
theorem qid {v1:Tk} {v2:Tk}:(ywv v1 v2).okF tab:=fun r hr=>⟨za1 qr0 rfl (.br (decide (v1.fd=v2.fd)) (.br (decide (v1.fe=v2.fe)) (.br (decide (v1.fN=v2.fN)) (.br (decide (v1.fi=v2.fi)) (.callF (yv9 v1.fb v2.fb) fun(v7:Bool)=>.br v7 (.callF (qal v1.fc v2.fc) fun(v9:Bool)=>.lfA rB v9)<|.lfA rB false)<|.lfA rB false)<|.lfA rB false)<|.lfA rB false)<|.lfA rB false:Tree Bool _) (by kernel_rfl) (by kernel_rfl) (bR (bR (bR (bR (cF qj9 fun v7=>bR (cF qd9 fun v9=>rfl)<|rfl)<|rfl)<|rfl)<|rfl)<|rfl) hr,rfl,rfl⟩
def yxd (v1:Ta):Option Bool:=bif decide (v1.fk=0) then(bif decide (v1.fr=0) then(bif decide (v1.fg=0) then((yrx v1.fa (⟨0,0,0,[],[],0⟩:Tk)).bind fun v5=>(some v5)) else(some false)) else(some false)) else(some false)
def qmk (v1:Ta):Ctr:=⟨yx4,[.agg [.I v1.fk,.I v1.fr,.I v1.fg,.I v1.fa.fd,.I v1.fa.fe,.I v1.fa.fN,.imm 1 (v1.fa.fb.map (V.int .i64)),.imm 1 (v1.fa.fc.map V.bool),.I v1.fa.fi]],[],Bool,yxd v1,rB⟩
theorem qyi {v1:Ta}:(qmk v1).okF tab:=fun r hr=>⟨za1 qqn rfl (.br (decide (v1.fk=0)) (.br (decide (v1.fr=0)) (.br (decide (v1.fg=0)) (.seg [] 0 0 []<|.eqL [] []<|.seg [] 0 0 []<|.eqL [] []<|.callF (ywv v1.fa (⟨0,0,0,[],[],0⟩:Tk)) fun(v5:Bool)=>.lfA rB v5)<|.lfA rB false)<|.lfA rB false)<|.lfA rB false:Tree Bool _) (by kernel_rfl) (by kernel_rfl) (bR (bR (bR (⟨zc1 [],⟨rfl,⟨zc1 [],⟨rfl,cF qid fun v5=>rfl⟩⟩⟩⟩)<|rfl)<|rfl)<|rfl) hr,rfl,rfl⟩
def zwk (v1:Tc) (k:Int) (s:Unit):St:=⟨sv 11 [(1,.ref (.box 0) 0 []),(5,.imm 9 (v1.fac.map Ta.i)),(6,.I (v1.fac.length:Int)),(7,.I k)],[[.imm 9 (v1.fac.map Ta.i),.bool v1.faw,.I v1.ff.fk,.I v1.ff.fr,.I v1.ff.fg,.I v1.ff.fa.fd,.I v1.ff.fa.fe,.I v1.ff.fa.fN,.imm 1 (v1.ff.fa.fb.map (V.int .i64)),.imm 1 (v1.ff.fa.fc.map V.bool),.I v1.ff.fa.fi,.I v1.fag,.I v1.fay,.I v1.faz,.I v1.fw,.I v1.faf,.I v1.fad]]⟩
def zln (v1:Tc):(Int×Ta)->Ex×St:=fun p=>(.ret,⟨sv 11 [(1,.ref (.box 0) 0 []),(2,.bool false),(3,.ref (.box 1) 0 []),(5,.imm 9 (v1.fac.map Ta.i)),(6,.I (v1.fac.length:Int)),(7,.I p.1),(8,.bool true),(9,.bool true)],[[.imm 9 (v1.fac.map Ta.i),.bool v1.faw,.I v1.ff.fk,.I v1.ff.fr,.I v1.ff.fg,.I v1.ff.fa.fd,.I v1.ff.fa.fe,.I v1.ff.fa.fN,.imm 1 (v1.ff.fa.fb.map (V.int .i64)),.imm 1 (v1.ff.fa.fc.map V.bool),.I v1.ff.fa.fi,.I v1.fag,.I v1.fay,.I v1.faz,.I v1.fw,.I v1.faf,.I v1.fad],[.I p.2.fk,.I p.2.fr,.I p.2.fg,.I p.2.fa.fd,.I p.2.fa.fe,.I p.2.fa.fN,.imm 1 (p.2.fa.fb.map (V.int .i64)),.imm 1 (p.2.fa.fc.map V.bool),.I p.2.fa.fi]]⟩)
def zlv (v1:Tc):Unit->Ex×St:=fun p=>((.exit 0),⟨sv 11 [(1,.ref (.box 0) 0 []),(5,.imm 9 (v1.fac.map Ta.i)),(6,.I (v1.fac.length:Int)),(7,.I (v1.fac.length:Int)),(8,.bool false)],[[.imm 9 (v1.fac.map Ta.i),.bool v1.faw,.I v1.ff.fk,.I v1.ff.fr,.I v1.ff.fg,.I v1.ff.fa.fd,.I v1.ff.fa.fe,.I v1.ff.fa.fN,.imm 1 (v1.ff.fa.fb.map (V.int .i64)),.imm 1 (v1.ff.fa.fc.map V.bool),.I v1.ff.fa.fi,.I v1.fag,.I v1.fay,.I v1.faz,.I v1.fw,.I v1.faf,.I v1.fad]]⟩)
def zts (v1:Tc) (k:Int):=zbn (zwk v1 k) (Sum.elim (zln v1) (zlv v1))
def yg8 (v1:Tc) (k:Int) (x:Ta) (s:Unit):Option ((Unit)⊕((Int×Ta)⊕Unit)):=(yti x).bind fun v19=>(bif !v19 then(some (.inr (.inl (k,x)))) else(some (.inl ())))
def ypf (v1:Tc) (s:Unit):Option ((Int×Ta)⊕Unit):=some ((.inr ()))
def zu1 (v1:Tc) (s:Unit):Option ((Int×Ta)⊕Unit):=if v1.fac.length<=9223372036854775806 then zaf (yg8 v1) (ypf v1) v1.fac 0 s else none
def yd9 (v1:Tc) (s:Unit):Lc2:=⟨11,ym5,1,[0,2,3,4,8,9,10],some (zwk v1 0 s),Int×Ta,Unit,zu1 v1 s,zln v1,zlv v1⟩
theorem yrk {v1:Tc} {s:Unit}:(yd9 v1 s).ok tab:=zar (zaa (J:=zwk v1) (o:=(Sum.elim (zln v1) (zlv v1))) v1.fac (B:=fun(k:Int) (x:Ta) (s:Unit)=>(.kb (decide (k<(v1.fac.length:Int))) true<|.ob (0<=k)<|.lkX Ta.i v1.fac (k.toNat) x<|.callF (qhi x) fun(v19:Bool)=>.br (!v19) (.lfA (zts v1 (i64.wrap (k+1))) (.inr (.inl (k,x))))<|.lfA (zts v1 (i64.wrap (k+1))) (.inl ()):Tree ((Unit)⊕((Int×Ta)⊕Unit)) _)) (E:=fun(s:Unit)=>(.kb (decide ((v1.fac.length:Int)<(v1.fac.length:Int))) false<|.lfA (zts v1 0) (.inr (.inr ())):Tree ((Unit)⊕((Int×Ta)⊕Unit)) _)) (fun k x s=>by kernel_rfl) (fun d x t s he=>⟨ltX he,⟨Int.natCast_nonneg _,⟨za7 Ta.i he,cF qm9 fun v19=>bR (rfl)<|rfl⟩⟩⟩) (ho2 (fun _=>rfl) fun _=>rfl) (fun s=>by kernel_rfl) (fun s=>⟨ltE _,rfl⟩) (by kernel_rfl) (by kernel_rfl) s)
def qa9 (v1:Tc):Option Bool:=(yt8 v1.faf v1.fad).bind fun v2=>(bif !v2 then(some false) else(bif decide (40<(v1.fac.length:Int)) then(some false) else((zkf v1.fw).bind fun v5=>(bif !v5 then(some false) else((zu1 v1 ()).bind (zbj (fun (v21:Int×Ta)=>(some false)) (fun (v22:Unit)=>(bif !v1.faw then((yxd v1.ff).bind fun v24=>(bif v24 then(bif decide (v1.fag=0) then(bif decide (v1.fay=0) then(some (decide (v1.faz=0))) else(some false)) else(some false)) else(some false))) else((yti v1.ff).bind fun v28=>(bif v28 then((zkf v1.fag).bind fun v30=>(bif v30 then((yu2 v1.fay).bind fun v32=>(bif v32 then((zhf v1.faz 0 v1.fad).bind fun v34=>(some v34)) else(some false))) else(some false))) else(some false)))))))))))
def qko (v1:Tc):Ctr:=⟨qc1,[.agg [.imm 9 (v1.fac.map Ta.i),.bool v1.faw,.I v1.ff.fk,.I v1.ff.fr,.I v1.ff.fg,.I v1.ff.fa.fd,.I v1.ff.fa.fe,.I v1.ff.fa.fN,.imm 1 (v1.ff.fa.fb.map (V.int .i64)),.imm 1 (v1.ff.fa.fc.map V.bool),.I v1.ff.fa.fi,.I v1.fag,.I v1.fay,.I v1.faz,.I v1.fw,.I v1.faf,.I v1.fad]],[],Bool,qa9 v1,rB⟩
theorem qrk {v1:Tc}:(qko v1).okF tab:=fun r hr=>⟨za1 jgi rfl (.callF (qf8 v1.faf v1.fad) fun(v2:Bool)=>.br (!v2) (.lfA rB false)<|.lenA Ta.i v1.fac<|.br (decide (40<(v1.fac.length:Int))) (.lfA rB false)<|.callF (znf v1.fw) fun(v5:Bool)=>.br (!v5) (.lfA rB false)<|.lenA Ta.i v1.fac<|.lp2 (yd9 v1 ()) (fun (v21:Int×Ta)=>.lfA rB false) (fun (v22:Unit)=>.br (!v1.faw) (.callF (qmk v1.ff) fun(v24:Bool)=>.br v24 (.br (decide (v1.fag=0)) (.br (decide (v1.fay=0)) (.lfA rB (decide (v1.faz=0)))<|.lfA rB false)<|.lfA rB false)<|.lfA rB false)<|.callF (qhi v1.ff) fun(v28:Bool)=>.br v28 (.callF (znf v1.fag) fun(v30:Bool)=>.br v30 (.callF (qe2 v1.fay) fun(v32:Bool)=>.br v32 (.callF (zia v1.faz 0 v1.fad) fun(v34:Bool)=>.lfA rB v34)<|.lfA rB false)<|.lfA rB false)<|.lfA rB false):Tree Bool _) (by kernel_rfl) (by kernel_rfl) (cF qof fun v2=>bR (rfl)<|lA<|bR (rfl)<|cF zq3 fun v5=>bR (rfl)<|lA<|lQ yrk (fun v21=>rfl) (fun v22=>bR (cF qyi fun v24=>bR (bR (bR (rfl)<|rfl)<|rfl)<|rfl)<|cF qm9 fun v28=>bR (cF zq3 fun v30=>bR (cF qnx fun v32=>bR (cF zit fun v34=>rfl)<|rfl)<|rfl)<|rfl)) hr,rfl,rfl⟩
def qmr (a:List Ta):Ctr:=⟨yx3,[.imm 9 (a.map Ta.i)],[],List Ta,if a.length * 104<=70368744177664 then some a else none,fun r=>(.own 9 (r.map Ta.i),[])⟩
theorem qrv {a:List Ta}:(qmr a).ok tab:=yf4 qyw Ta.i a
def qft:List Ta->V×List (List V):=fun r=>(.own 9 (r.map Ta.i),[])
def qb6 (v1:Tc):Option (List Ta):=(if v1.fac.length * 104<=70368744177664 then some v1.fac else none).bind fun v2=>(bif v1.faw then(if ((v2.map Ta.i).length+(([v1.ff]:List Ta).map Ta.i).length) * 104<=70368744177664 then(some (v2++([v1.ff]:List Ta))) else none) else(some v2))
def qmf (v1:Tc):Ctr:=⟨qbs,[.agg [.imm 9 (v1.fac.map Ta.i),.bool v1.faw,.I v1.ff.fk,.I v1.ff.fr,.I v1.ff.fg,.I v1.ff.fa.fd,.I v1.ff.fa.fe,.I v1.ff.fa.fN,.imm 1 (v1.ff.fa.fb.map (V.int .i64)),.imm 1 (v1.ff.fa.fc.map V.bool),.I v1.ff.fa.fi,.I v1.fag,.I v1.fay,.I v1.faz,.I v1.fw,.I v1.faf,.I v1.fad]],[],List Ta,qb6 v1,qft⟩
theorem jaj {v1:Tc}:(qmf v1).ok tab:=fun r hr=>za1 qz8 rfl (.call (qmr v1.fac) fun(v2:List Ta)=>.segA Ta.i v2<|.br v1.faw (.eqL [.agg [.int .i64 v1.ff.fk,.int .i64 v1.ff.fr,.int .i64 v1.ff.fg,.int .i64 v1.ff.fa.fd,.int .i64 v1.ff.fa.fe,.int .i64 v1.ff.fa.fN,.imm 1 (v1.ff.fa.fb.map (V.int .i64)),.imm 1 (v1.ff.fa.fc.map V.bool),.int .i64 v1.ff.fa.fi]] (([v1.ff]:List Ta).map Ta.i)<|.segA Ta.i v2<|.segA Ta.i ([v1.ff]:List Ta)<|.guard (((v2.map Ta.i).length+(([v1.ff]:List Ta).map Ta.i).length) * 104<=70368744177664) inferInstance<|.appA Ta.i v2 ([v1.ff]:List Ta)<|.segA Ta.i (v2++([v1.ff]:List Ta))<|.segA Ta.i (v2++([v1.ff]:List Ta))<|.lfA qft (v2++([v1.ff]:List Ta)))<|.segA Ta.i v2<|.lfA qft v2:Tree (List Ta) _) (by kernel_rfl) (by kernel_rfl) (cE qrv fun v2=>sA<|bR (⟨rfl,sA<|sA<|gU<|aA<|sA<|sA<|rfl⟩)<|sA<|rfl) hr
def qa5 (v1:Tb) (v2:Ta):Option Bool:=some (decide (v1.fk=v2.fk))
def qnb (v1:Tb) (v2:Ta):Ctr:=⟨yml,[.agg [.I v1.fk,.I v1.fai,.I v1.faj,.I v1.fg,.I v1.fa.fd,.I v1.fa.fe,.I v1.fa.fN,.imm 1 (v1.fa.fb.map (V.int .i64)),.imm 1 (v1.fa.fc.map V.bool),.I v1.fa.fi,.imm 8 (v1.fo.map Th.i),.imm 1 (v1.fu.map V.bool),.imm 6 (v1.fab.map Td.i)],.eptr [.I v2.fk,.I v2.fr,.I v2.fg,.I v2.fa.fd,.I v2.fa.fe,.I v2.fa.fN,.imm 1 (v2.fa.fb.map (V.int .i64)),.imm 1 (v2.fa.fc.map V.bool),.I v2.fa.fi] 0],[],Bool,qa5 v1 v2,rB⟩
theorem jbr {v1:Tb} {v2:Ta}:(qnb v1 v2).okF tab:=fun r hr=>⟨za1 que rfl (.lfA rB (decide (v1.fk=v2.fk)):Tree Bool _) (by kernel_rfl) (by kernel_rfl) rfl hr,rfl,rfl⟩
def zv8 (v1:List Tb) (v2:Ta) (k:Int) (s:Unit):St:=⟨sv 8 [(0,.imm 13 (v1.map Tb.i)),(1,.clo yml [.agg [.I v2.fk,.I v2.fr,.I v2.fg,.I v2.fa.fd,.I v2.fa.fe,.I v2.fa.fN,.imm 1 (v2.fa.fb.map (V.int .i64)),.imm 1 (v2.fa.fc.map V.bool),.I v2.fa.fi]]),(4,.I (v1.length:Int)),(5,.I k)],[]⟩
def zlt (v1:List Tb) (v2:Ta):Int->Ex×St:=fun p=>(.ret,⟨sv 8 [(0,.imm 13 (v1.map Tb.i)),(1,.clo yml [.agg [.I v2.fk,.I v2.fr,.I v2.fg,.I v2.fa.fd,.I v2.fa.fe,.I v2.fa.fN,.imm 1 (v2.fa.fb.map (V.int .i64)),.imm 1 (v2.fa.fc.map V.bool),.I v2.fa.fi]]),(2,.I p),(3,.I p),(4,.I (v1.length:Int)),(5,.I p),(6,.bool true),(7,.bool true)],[]⟩)
def zpy (v1:List Tb) (v2:Ta):Unit->Ex×St:=fun p=>((.exit 0),⟨sv 8 [(0,.imm 13 (v1.map Tb.i)),(1,.clo yml [.agg [.I v2.fk,.I v2.fr,.I v2.fg,.I v2.fa.fd,.I v2.fa.fe,.I v2.fa.fN,.imm 1 (v2.fa.fb.map (V.int .i64)),.imm 1 (v2.fa.fc.map V.bool),.I v2.fa.fi]]),(4,.I (v1.length:Int)),(5,.I (v1.length:Int)),(6,.bool false)],[]⟩)
def zuf (v1:List Tb) (v2:Ta) (k:Int):=zbn (zv8 v1 v2 k) (Sum.elim (zlt v1 v2) (zpy v1 v2))
def yds (v1:List Tb) (v2:Ta) (k:Int) (x:Tb) (s:Unit):Option ((Unit)⊕(Int⊕Unit)):=(qa5 x v2).bind fun v15=>(bif v15 then(some (.inr (.inl k))) else(some (.inl ())))
def yrj (v1:List Tb) (v2:Ta) (s:Unit):Option (Int⊕Unit):=some ((.inr ()))
def zuw (v1:List Tb) (v2:Ta) (s:Unit):Option (Int⊕Unit):=if v1.length<=9223372036854775806 then zaf (yds v1 v2) (yrj v1 v2) v1 0 s else none
def ybu (v1:List Tb) (v2:Ta) (s:Unit):Lc2:=⟨8,ym2,0,[2,3,6,7],some (zv8 v1 v2 0 s),Int,Unit,zuw v1 v2 s,zlt v1 v2,zpy v1 v2⟩
theorem ynr {v1:List Tb} {v2:Ta} {s:Unit}:(ybu v1 v2 s).ok tab:=zar (zaa (J:=zv8 v1 v2) (o:=(Sum.elim (zlt v1 v2) (zpy v1 v2))) v1 (B:=fun(k:Int) (x:Tb) (s:Unit)=>(.kb (decide (k<(v1.length:Int))) true<|.ob (0<=k)<|.lkX Tb.i v1 (k.toNat) x<|.callF (qnb x v2) fun(v15:Bool)=>.br v15 (.lfA (zuf v1 v2 (i64.wrap (k+1))) (.inr (.inl k)))<|.lfA (zuf v1 v2 (i64.wrap (k+1))) (.inl ()):Tree ((Unit)⊕(Int⊕Unit)) _)) (E:=fun(s:Unit)=>(.kb (decide ((v1.length:Int)<(v1.length:Int))) false<|.lfA (zuf v1 v2 0) (.inr (.inr ())):Tree ((Unit)⊕(Int⊕Unit)) _)) (fun k x s=>by kernel_rfl) (fun d x t s he=>⟨ltX he,⟨Int.natCast_nonneg _,⟨za7 Tb.i he,cF jbr fun v15=>bR (rfl)<|rfl⟩⟩⟩) (ho2 (fun _=>rfl) fun _=>rfl) (fun s=>by kernel_rfl) (fun s=>⟨ltE _,rfl⟩) (by kernel_rfl) (by kernel_rfl) s)
def yyq (v1:List Tb) (v2:Ta):Option Int:=(zuw v1 v2 ()).bind (zbj (fun (v17:Int)=>(some v17)) (fun (v18:Unit)=>(some (-1))))
def qku (v1:List Tb) (v2:Ta):Ctr:=⟨yvi,[.imm 13 (v1.map Tb.i),.clo yml [.agg [.I v2.fk,.I v2.fr,.I v2.fg,.I v2.fa.fd,.I v2.fa.fe,.I v2.fa.fN,.imm 1 (v2.fa.fb.map (V.int .i64)),.imm 1 (v2.fa.fc.map V.bool),.I v2.fa.fi]]],[],Int,yyq v1 v2,rI⟩
theorem qt5 {v1:List Tb} {v2:Ta}:(qku v1 v2).okF tab:=fun r hr=>⟨za1 qz2 rfl (.lenA Tb.i v1<|.lp2 (ybu v1 v2 ()) (fun (v17:Int)=>.lfA rI v17) (fun (v18:Unit)=>.lfA rI (-1)):Tree Int _) (by kernel_rfl) (by kernel_rfl) (lA<|lQ ynr (fun v17=>rfl) (fun v18=>rfl)) hr,rfl,rfl⟩
def yzj (v1:Tn) (v2:Int) (v3:Ta):Option Bool:=(yyq v1.fj v3).bind fun v4=>(bif decide (v4<0) then(some false) else(if 0<=v4 then(((v1.fj)[v4.toNat]?).bind fun v6=>(bif decide ((v6.fo.length:Int)<=v3.fr) then(some false) else(if 0<=v4 then(if 0<=v3.fr then(((v6.fu)[v3.fr.toNat]?).bind fun v9=>(bif v9 then(some false) else(if 0<=v4 then(if 0<=v3.fr then(((v6.fo)[v3.fr.toNat]?).bind fun v12=>(if 0<=v3.fr then(if 0<=v4 then(bif decide (v12.fp=v2) then(bif decide (v12.fg=v3.fg) then((yrx v12.fa v3.fa).bind fun v16=>(some v16)) else(some false)) else(some false)) else none) else none)) else none) else none))) else none) else none))) else none))
def qmz (v1:Tn) (v2:Int) (v3:Ta):Ctr:=⟨yzn,[.agg [.I v1.fw,.imm 13 (v1.fj.map Tb.i)],.I v2,.agg [.I v3.fk,.I v3.fr,.I v3.fg,.I v3.fa.fd,.I v3.fa.fe,.I v3.fa.fN,.imm 1 (v3.fa.fb.map (V.int .i64)),.imm 1 (v3.fa.fc.map V.bool),.I v3.fa.fi]],[],Bool,yzj v1 v2 v3,rB⟩
theorem qw1 {v1:Tn} {v2:Int} {v3:Ta}:(qmz v1 v2 v3).okF tab:=fun r hr=>⟨za1 je9 rfl (.callF (qku v1.fj v3) fun(v4:Int)=>.br (decide (v4<0)) (.lfA rB false)<|.guard (0<=v4) inferInstance<|.lookA Tb.i v1.fj (v4.toNat) fun v6=>.lenA Th.i v6.fo<|.br (decide ((v6.fo.length:Int)<=v3.fr)) (.lfA rB false)<|.guard (0<=v4) inferInstance<|.lkX Tb.i v1.fj (v4.toNat) v6<|.guard (0<=v3.fr) inferInstance<|.lookA V.bool v6.fu (v3.fr.toNat) fun v9=>.br v9 (.lfA rB false)<|.guard (0<=v4) inferInstance<|.lkX Tb.i v1.fj (v4.toNat) v6<|.guard (0<=v3.fr) inferInstance<|.lookA Th.i v6.fo (v3.fr.toNat) fun v12=>.ob ((.agg [.int .i64 v12.fp,.int .i64 v12.fg,.int .i64 v12.fa.fd,.int .i64 v12.fa.fe,.int .i64 v12.fa.fN,.imm 1 (v12.fa.fb.map (V.int .i64)),.imm 1 (v12.fa.fc.map V.bool),.int .i64 v12.fa.fi]:V)=.agg [.int .i64 v12.fp,.int .i64 v12.fg,.int .i64 v12.fa.fd,.int .i64 v12.fa.fe,.int .i64 v12.fa.fN,.imm 1 (v12.fa.fb.map (V.int .i64)),.imm 1 (v12.fa.fc.map V.bool),.int .i64 v12.fa.fi])<|.ob ((.agg [.int .i64 v12.fp,.int .i64 v12.fg,.int .i64 v12.fa.fd,.int .i64 v12.fa.fe,.int .i64 v12.fa.fN,.imm 1 (v12.fa.fb.map (V.int .i64)),.imm 1 (v12.fa.fc.map V.bool),.int .i64 v12.fa.fi]:V)=.agg [.int .i64 v12.fp,.int .i64 v12.fg,.int .i64 v12.fa.fd,.int .i64 v12.fa.fe,.int .i64 v12.fa.fN,.imm 1 (v12.fa.fb.map (V.int .i64)),.imm 1 (v12.fa.fc.map V.bool),.int .i64 v12.fa.fi])<|.ob ((.eptr [.int .i64 v12.fp,.int .i64 v12.fg,.int .i64 v12.fa.fd,.int .i64 v12.fa.fe,.int .i64 v12.fa.fN,.imm 1 (v12.fa.fb.map (V.int .i64)),.imm 1 (v12.fa.fc.map V.bool),.int .i64 v12.fa.fi] 0:V)=.eptr [.int .i64 v12.fp,.int .i64 v12.fg,.int .i64 v12.fa.fd,.int .i64 v12.fa.fe,.int .i64 v12.fa.fN,.imm 1 (v12.fa.fb.map (V.int .i64)),.imm 1 (v12.fa.fc.map V.bool),.int .i64 v12.fa.fi] 0)<|.guard (0<=v3.fr) inferInstance<|.lkX Th.i v6.fo (v3.fr.toNat) v12<|.ob ((.eptr [.int .i64 v12.fp,.int .i64 v12.fg,.int .i64 v12.fa.fd,.int .i64 v12.fa.fe,.int .i64 v12.fa.fN,.imm 1 (v12.fa.fb.map (V.int .i64)),.imm 1 (v12.fa.fc.map V.bool),.int .i64 v12.fa.fi] 0:V)=.eptr [.int .i64 v12.fp,.int .i64 v12.fg,.int .i64 v12.fa.fd,.int .i64 v12.fa.fe,.int .i64 v12.fa.fN,.imm 1 (v12.fa.fb.map (V.int .i64)),.imm 1 (v12.fa.fc.map V.bool),.int .i64 v12.fa.fi] 0)<|.ob ((.int .i64 v3.fr:V)=.int .i64 v3.fr)<|.ob ((.int .i64 v3.fr:V)=.int .i64 v3.fr)<|.ob ((.ref (.box 1) 1 []:V)=.ref (.box 1) 1 [])<|.ob ((.ref (.box 1) 1 []:V)=.ref (.box 1) 1 [])<|.ob ((.imm 8 (v6.fo.map Th.i):V)=.imm 8 (v6.fo.map Th.i))<|.ob ((.imm 8 (v6.fo.map Th.i):V)=.imm 8 (v6.fo.map Th.i))<|.ob ((.eptr [.int .i64 v6.fk,.int .i64 v6.fai,.int .i64 v6.faj,.int .i64 v6.fg,.int .i64 v6.fa.fd,.int .i64 v6.fa.fe,.int .i64 v6.fa.fN,.imm 1 (v6.fa.fb.map (V.int .i64)),.imm 1 (v6.fa.fc.map V.bool),.int .i64 v6.fa.fi,.imm 8 (v6.fo.map Th.i),.imm 1 (v6.fu.map V.bool),.imm 6 (v6.fab.map Td.i)] 10:V)=.eptr [.int .i64 v6.fk,.int .i64 v6.fai,.int .i64 v6.faj,.int .i64 v6.fg,.int .i64 v6.fa.fd,.int .i64 v6.fa.fe,.int .i64 v6.fa.fN,.imm 1 (v6.fa.fb.map (V.int .i64)),.imm 1 (v6.fa.fc.map V.bool),.int .i64 v6.fa.fi,.imm 8 (v6.fo.map Th.i),.imm 1 (v6.fu.map V.bool),.imm 6 (v6.fab.map Td.i)] 10)<|.ob ((.eptr [.int .i64 v6.fk,.int .i64 v6.fai,.int .i64 v6.faj,.int .i64 v6.fg,.int .i64 v6.fa.fd,.int .i64 v6.fa.fe,.int .i64 v6.fa.fN,.imm 1 (v6.fa.fb.map (V.int .i64)),.imm 1 (v6.fa.fc.map V.bool),.int .i64 v6.fa.fi,.imm 8 (v6.fo.map Th.i),.imm 1 (v6.fu.map V.bool),.imm 6 (v6.fab.map Td.i)] 10:V)=.eptr [.int .i64 v6.fk,.int .i64 v6.fai,.int .i64 v6.faj,.int .i64 v6.fg,.int .i64 v6.fa.fd,.int .i64 v6.fa.fe,.int .i64 v6.fa.fN,.imm 1 (v6.fa.fb.map (V.int .i64)),.imm 1 (v6.fa.fc.map V.bool),.int .i64 v6.fa.fi,.imm 8 (v6.fo.map Th.i),.imm 1 (v6.fu.map V.bool),.imm 6 (v6.fab.map Td.i)] 10)<|.ob ((.eptr [.int .i64 v6.fk,.int .i64 v6.fai,.int .i64 v6.faj,.int .i64 v6.fg,.int .i64 v6.fa.fd,.int .i64 v6.fa.fe,.int .i64 v6.fa.fN,.imm 1 (v6.fa.fb.map (V.int .i64)),.imm 1 (v6.fa.fc.map V.bool),.int .i64 v6.fa.fi,.imm 8 (v6.fo.map Th.i),.imm 1 (v6.fu.map V.bool),.imm 6 (v6.fab.map Td.i)] 0:V)=.eptr [.int .i64 v6.fk,.int .i64 v6.fai,.int .i64 v6.faj,.int .i64 v6.fg,.int .i64 v6.fa.fd,.int .i64 v6.fa.fe,.int .i64 v6.fa.fN,.imm 1 (v6.fa.fb.map (V.int .i64)),.imm 1 (v6.fa.fc.map V.bool),.int .i64 v6.fa.fi,.imm 8 (v6.fo.map Th.i),.imm 1 (v6.fu.map V.bool),.imm 6 (v6.fab.map Td.i)] 0)<|.guard (0<=v4) inferInstance<|.lkX Tb.i v1.fj (v4.toNat) v6<|.ob ((.eptr [.int .i64 v6.fk,.int .i64 v6.fai,.int .i64 v6.faj,.int .i64 v6.fg,.int .i64 v6.fa.fd,.int .i64 v6.fa.fe,.int .i64 v6.fa.fN,.imm 1 (v6.fa.fb.map (V.int .i64)),.imm 1 (v6.fa.fc.map V.bool),.int .i64 v6.fa.fi,.imm 8 (v6.fo.map Th.i),.imm 1 (v6.fu.map V.bool),.imm 6 (v6.fab.map Td.i)] 0:V)=.eptr [.int .i64 v6.fk,.int .i64 v6.fai,.int .i64 v6.faj,.int .i64 v6.fg,.int .i64 v6.fa.fd,.int .i64 v6.fa.fe,.int .i64 v6.fa.fN,.imm 1 (v6.fa.fb.map (V.int .i64)),.imm 1 (v6.fa.fc.map V.bool),.int .i64 v6.fa.fi,.imm 8 (v6.fo.map Th.i),.imm 1 (v6.fu.map V.bool),.imm 6 (v6.fab.map Td.i)] 0)<|.ob ((.int .i64 v4:V)=.int .i64 v4)<|.ob ((.int .i64 v4:V)=.int .i64 v4)<|.ob ((.imm 13 (v1.fj.map Tb.i):V)=.imm 13 (v1.fj.map Tb.i))<|.ob ((.imm 13 (v1.fj.map Tb.i):V)=.imm 13 (v1.fj.map Tb.i))<|.ob ((.ref (.box 0) 1 []:V)=.ref (.box 0) 1 [])<|.ob ((.ref (.box 0) 1 []:V)=.ref (.box 0) 1 [])<|.br (decide (v12.fp=v2)) (.br (decide (v12.fg=v3.fg)) (.callF (ywv v12.fa v3.fa) fun(v16:Bool)=>.lfA rB v16)<|.lfA rB false)<|.lfA rB false:Tree Bool _) (by kernel_rfl) (by kernel_rfl) (cF qt5 fun v4=>bR (rfl)<|gU<|⟨zbw _ _ _,fun v6 h7=>lA<|bR (rfl)<|gU<|⟨zaw _ h7,gU<|kA fun v9=>bR (rfl)<|gU<|⟨zaw _ h7,gU<|⟨zbw _ _ _,fun v12 h13=>⟨rfl,⟨rfl,⟨rfl,gU<|⟨zaw _ h13,⟨rfl,⟨rfl,⟨rfl,⟨rfl,⟨rfl,⟨rfl,⟨rfl,⟨rfl,⟨rfl,⟨rfl,gU<|⟨zaw _ h7,⟨rfl,⟨rfl,⟨rfl,⟨rfl,⟨rfl,⟨rfl,⟨rfl,bR (bR (cF qid fun v16=>rfl)<|rfl)<|rfl⟩⟩⟩⟩⟩⟩⟩⟩⟩⟩⟩⟩⟩⟩⟩⟩⟩⟩⟩⟩⟩⟩⟩⟩⟩⟩) hr,rfl,rfl⟩
def zw3 (v1:List Tm) (v2:Tm) (k:Int) (s:Unit):St:=⟨sv 9 [(0,.imm 2 (v1.map Tm.i)),(2,.ref (.box 0) 0 []),(5,.I (v1.length:Int)),(6,.I k)],[[.I v2.fid,.I v2.fpart]]⟩
def zmz (v1:List Tm) (v2:Tm):Int->Ex×St:=fun p=>(.ret,⟨sv 9 [(0,.imm 2 (v1.map Tm.i)),(2,.ref (.box 0) 0 []),(3,.I p),(4,.I p),(5,.I (v1.length:Int)),(6,.I p),(7,.bool true),(8,.bool true)],[[.I v2.fid,.I v2.fpart]]⟩)
def znn (v1:List Tm) (v2:Tm):Unit->Ex×St:=fun p=>((.exit 0),⟨sv 9 [(0,.imm 2 (v1.map Tm.i)),(2,.ref (.box 0) 0 []),(5,.I (v1.length:Int)),(6,.I (v1.length:Int)),(7,.bool false)],[[.I v2.fid,.I v2.fpart]]⟩)
def ztc (v1:List Tm) (v2:Tm) (k:Int):=zbn (zw3 v1 v2 k) (Sum.elim (zmz v1 v2) (znn v1 v2))
def ye8 (v1:List Tm) (v2:Tm) (k:Int) (x:Tm) (s:Unit):Option ((Unit)⊕(Int⊕Unit)):=bif decide (v2.fid=x.fid)&&(decide (v2.fpart=x.fpart)&&true) then(some (.inr (.inl k))) else(some (.inl ()))
def yo1 (v1:List Tm) (v2:Tm) (s:Unit):Option (Int⊕Unit):=some ((.inr ()))
def zvs (v1:List Tm) (v2:Tm) (s:Unit):Option (Int⊕Unit):=if v1.length<=9223372036854775806 then zaf (ye8 v1 v2) (yo1 v1 v2) v1 0 s else none
def ydi (v1:List Tm) (v2:Tm) (s:Unit):Lc2:=⟨9,yll,1,[1,3,4,7,8],some (zw3 v1 v2 0 s),Int,Unit,zvs v1 v2 s,zmz v1 v2,znn v1 v2⟩
theorem ynb {v1:List Tm} {v2:Tm} {s:Unit}:(ydi v1 v2 s).ok tab:=zar (zaa (J:=zw3 v1 v2) (o:=(Sum.elim (zmz v1 v2) (znn v1 v2))) v1 (B:=fun(k:Int) (x:Tm) (s:Unit)=>(.kb (decide (k<(v1.length:Int))) true<|.ob (0<=k)<|.lkX Tm.i v1 (k.toNat) x<|.br (decide (v2.fid=x.fid)&&(decide (v2.fpart=x.fpart)&&true)) (.lfA (ztc v1 v2 (i64.wrap (k+1))) (.inr (.inl k)))<|.lfA (ztc v1 v2 (i64.wrap (k+1))) (.inl ()):Tree ((Unit)⊕(Int⊕Unit)) _)) (E:=fun(s:Unit)=>(.kb (decide ((v1.length:Int)<(v1.length:Int))) false<|.lfA (ztc v1 v2 0) (.inr (.inr ())):Tree ((Unit)⊕(Int⊕Unit)) _)) (fun k x s=>by kernel_rfl) (fun d x t s he=>⟨ltX he,⟨Int.natCast_nonneg _,⟨za7 Tm.i he,bR (rfl)<|rfl⟩⟩⟩) (ho2 (fun _=>rfl) fun _=>rfl) (fun s=>by kernel_rfl) (fun s=>⟨ltE _,rfl⟩) (by kernel_rfl) (by kernel_rfl) s)
def yz3 (v1:List Tm) (v2:Tm):Option Int:=(zvs v1 v2 ()).bind (zbj (fun (v14:Int)=>(some v14)) (fun (v15:Unit)=>(some (-1))))
def qnc (v1:List Tm) (v2:Tm):Ctr:=⟨yvg,[.imm 2 (v1.map Tm.i),.agg [.I v2.fid,.I v2.fpart]],[],Int,yz3 v1 v2,rI⟩
theorem qpv {v1:List Tm} {v2:Tm}:(qnc v1 v2).okF tab:=fun r hr=>⟨za1 qsk rfl (.lenA Tm.i v1<|.lp2 (ydi v1 v2 ()) (fun (v14:Int)=>.lfA rI v14) (fun (v15:Unit)=>.lfA rI (-1)):Tree Int _) (by kernel_rfl) (by kernel_rfl) (lA<|lQ ynb (fun v14=>rfl) (fun v15=>rfl)) hr,rfl,rfl⟩
def yyo (v1:List Tm) (v2:Tm):Option Bool:=(yz3 v1 v2).bind fun v3=>(some (decide (0<=v3)))
def qk8 (v1:List Tm) (v2:Tm):Ctr:=⟨yzt,[.imm 2 (v1.map Tm.i),.agg [.I v2.fid,.I v2.fpart]],[],Bool,yyo v1 v2,rB⟩
theorem qv0 {v1:List Tm} {v2:Tm}:(qk8 v1 v2).okF tab:=fun r hr=>⟨za1 qxq rfl (.callF (qnc v1 v2) fun(v3:Int)=>.lfA rB (decide (0<=v3)):Tree Bool _) (by kernel_rfl) (by kernel_rfl) (cF qpv fun v3=>rfl) hr,rfl,rfl⟩
def zt0 (v1:Tn) (v21:Int) (v38:Tb) (k:Int) (s:Int):St:=⟨sv 16 [(3,.I s),(7,.imm 13 (v1.fj.map Tb.i)),(8,.I (v1.fj.length:Int)),(9,.I v21),(11,.imm 1 (v38.fu.map V.bool)),(12,.I (v38.fu.length:Int)),(13,.I k)],[[.I v1.fw,.imm 13 (v1.fj.map Tb.i)],[.I v38.fk,.I v38.fai,.I v38.faj,.I v38.fg,.I v38.fa.fd,.I v38.fa.fe,.I v38.fa.fN,.imm 1 (v38.fa.fb.map (V.int .i64)),.imm 1 (v38.fa.fc.map V.bool),.I v38.fa.fi,.imm 8 (v38.fo.map Th.i),.imm 1 (v38.fu.map V.bool),.imm 6 (v38.fab.map Td.i)]]⟩
def zpe (v1:Tn) (v21:Int) (v38:Tb):Int->Ex×St:=fun p=>((.exit 2),⟨sv 16 [(3,.I p),(7,.imm 13 (v1.fj.map Tb.i)),(8,.I (v1.fj.length:Int)),(9,.I v21),(11,.imm 1 (v38.fu.map V.bool)),(12,.I (v38.fu.length:Int)),(13,.I (v38.fu.length:Int)),(14,.bool false)],[[.I v1.fw,.imm 13 (v1.fj.map Tb.i)],[.I v38.fk,.I v38.fai,.I v38.faj,.I v38.fg,.I v38.fa.fd,.I v38.fa.fe,.I v38.fa.fN,.imm 1 (v38.fa.fb.map (V.int .i64)),.imm 1 (v38.fa.fc.map V.bool),.I v38.fa.fi,.imm 8 (v38.fo.map Th.i),.imm 1 (v38.fu.map V.bool),.imm 6 (v38.fab.map Td.i)]]⟩)
def zve (v1:Tn) (v21:Int) (v38:Tb) (k:Int):=zbn (zt0 v1 v21 v38 k) (zpe v1 v21 v38)
def yrn (v1:Tn) (v21:Int) (v38:Tb) (k:Int) (x:Bool) (s:Int):Option ((Int)⊕(Int)):=bif !x then(some (.inl (i64.wrap (s+1)))) else(some (.inl s))
def yqv (v1:Tn) (v21:Int) (v38:Tb) (s:Int):Option Int:=some (s)
def zir (v1:Tn) (v21:Int) (v38:Tb) (s:Int):Option Int:=if v38.fu.length<=9223372036854775806 then zaf (yrn v1 v21 v38) (yqv v1 v21 v38) v38.fu 0 s else none
def yg3 (v1:Tn) (v21:Int) (v38:Tb) (s:Int):Lct:=⟨16,yay,2,[0,1,2,4,5,6,10,14,15],some (zt0 v1 v21 v38 0 s),Int,zir v1 v21 v38 s,zpe v1 v21 v38⟩
theorem yop {v1:Tn} {v21:Int} {v38:Tb} {s:Int}:(yg3 v1 v21 v38 s).ok tab:=zd5 (zaa (J:=zt0 v1 v21 v38) (o:=(zpe v1 v21 v38)) v38.fu (B:=fun(k:Int) (x:Bool) (s:Int)=>(.kb (decide (k<(v38.fu.length:Int))) true<|.ob (0<=k)<|.lkX V.bool v38.fu (k.toNat) x<|.br (!x) (.lfA (zve v1 v21 v38 (i64.wrap (k+1))) (.inl (i64.wrap (s+1))))<|.lfA (zve v1 v21 v38 (i64.wrap (k+1))) (.inl s):Tree ((Int)⊕(Int)) _)) (E:=fun(s:Int)=>(.kb (decide ((v38.fu.length:Int)<(v38.fu.length:Int))) false<|.lfA (zve v1 v21 v38 0) (.inr s):Tree ((Int)⊕(Int)) _)) (fun k x s=>by kernel_rfl) (fun d x t s he=>⟨ltX he,⟨Int.natCast_nonneg _,⟨za7 V.bool he,bR (rfl)<|rfl⟩⟩⟩) (fun _=>rfl) (fun s=>by kernel_rfl) (fun s=>⟨ltE _,rfl⟩) (by kernel_rfl) (by kernel_rfl) s)
def zx7 (v1:Tn) (k:Int) (s:Int):St:=⟨sv 16 [(3,.I s),(7,.imm 13 (v1.fj.map Tb.i)),(8,.I (v1.fj.length:Int)),(9,.I k)],[[.I v1.fw,.imm 13 (v1.fj.map Tb.i)]]⟩
def zlc (v1:Tn):Int->Ex×St:=fun p=>((.exit 0),⟨sv 16 [(3,.I p),(7,.imm 13 (v1.fj.map Tb.i)),(8,.I (v1.fj.length:Int)),(9,.I (v1.fj.length:Int)),(10,.bool false)],[[.I v1.fw,.imm 13 (v1.fj.map Tb.i)]]⟩)
def yht (v1:Tn) (k:Int):=zbn (zx7 v1 k) (zlc v1)
def ye9 (v1:Tn) (k:Int) (x:Tb) (s:Int):Option ((Int)⊕(Int)):=(zir v1 k x s).bind fun v51=>(some (.inl v51))
def yfu (v1:Tn) (s:Int):Option Int:=some (s)
def ztl (v1:Tn) (s:Int):Option Int:=if v1.fj.length<=9223372036854775806 then zaf (ye9 v1) (yfu v1) v1.fj 0 s else none
def yb3 (v1:Tn) (s:Int):Lct:=⟨16,ym4,1,[0,1,2,4,5,6,10,11,12,13,14,15],some (zx7 v1 0 s),Int,ztl v1 s,zlc v1⟩
theorem yol {v1:Tn} {s:Int}:(yb3 v1 s).ok tab:=zd5 (zaa (J:=zx7 v1) (o:=(zlc v1)) v1.fj (B:=fun(k:Int) (x:Tb) (s:Int)=>(.kb (decide (k<(v1.fj.length:Int))) true<|.ob (0<=k)<|.lkX Tb.i v1.fj (k.toNat) x<|.lenA V.bool x.fu<|.lp (yg3 v1 k x s) fun(v51:Int)=>.lfA (yht v1 (i64.wrap (k+1))) (.inl v51):Tree ((Int)⊕(Int)) _)) (E:=fun(s:Int)=>(.kb (decide ((v1.fj.length:Int)<(v1.fj.length:Int))) false<|.lfA (yht v1 0) (.inr s):Tree ((Int)⊕(Int)) _)) (fun k x s=>by kernel_rfl) (fun d x t s he=>⟨ltX he,⟨Int.natCast_nonneg _,⟨za7 Tb.i he,lA<|lP yop fun v51=>rfl⟩⟩⟩) (fun _=>rfl) (fun s=>by kernel_rfl) (fun s=>⟨ltE _,rfl⟩) (by kernel_rfl) (by kernel_rfl) s)
def yvs (v1:Tn):Option Int:=(ytm v1).bind fun v2=>(bif !v2 then(some 0) else((ztl v1 0).bind fun v52=>(some v52)))
def qka (v1:Tn):Ctr:=⟨yup,[.agg [.I v1.fw,.imm 13 (v1.fj.map Tb.i)]],[],Int,yvs v1,rI⟩
theorem qpi {v1:Tn}:(qka v1).okF tab:=fun r hr=>⟨za1 qwm rfl (.callF (qd8 v1) fun(v2:Bool)=>.br (!v2) (.lfA rI 0)<|.lenA Tb.i v1.fj<|.lp (yb3 v1 0) fun(v52:Int)=>.lfA rI v52:Tree Int _) (by kernel_rfl) (by kernel_rfl) (cF qmc fun v2=>bR (rfl)<|lA<|lP yol fun v52=>rfl) hr,rfl,rfl⟩
def zwz (v1:To) (v46:Int) (v77:Tc) (v80:List Ta) (k:Int) (s:List Tm):St:=⟨sv 19 [(1,.ref (.box 0) 0 []),(3,.own 2 (s.map Tm.i)),(4,.I v46),(9,.imm 17 (v1.faa.map Tc.i)),(10,.I (v1.faa.length:Int)),(11,.I v46),(14,.own 9 (v80.map Ta.i)),(15,.I (v80.length:Int)),(16,.I k)],[[.I v1.fat,.I v1.ft.faf,.I v1.ft.fad,.imm 7 (v1.ft.fah.map Te.i),.I v1.fq.fw,.imm 13 (v1.fq.fj.map Tb.i),.imm 17 (v1.faa.map Tc.i),.I v1.far,.I v1.fau,.I v1.fas,.I v1.fav],[.imm 9 (v77.fac.map Ta.i),.bool v77.faw,.I v77.ff.fk,.I v77.ff.fr,.I v77.ff.fg,.I v77.ff.fa.fd,.I v77.ff.fa.fe,.I v77.ff.fa.fN,.imm 1 (v77.ff.fa.fb.map (V.int .i64)),.imm 1 (v77.ff.fa.fc.map V.bool),.I v77.ff.fa.fi,.I v77.fag,.I v77.fay,.I v77.faz,.I v77.fw,.I v77.faf,.I v77.fad]]⟩
def zmt (v1:To) (v46:Int) (v77:Tc) (v80:List Ta):(List Tm×Int×Ta×Int×Int)->Ex×St:=fun p=>(.ret,⟨sv 19 [(1,.ref (.box 0) 0 []),(2,.bool false),(3,.own 2 (p.1.map Tm.i)),(4,.I v46),(6,.ref (.box 2) 0 []),(7,.ref (.box 3) 0 []),(9,.imm 17 (v1.faa.map Tc.i)),(10,.I (v1.faa.length:Int)),(11,.I v46),(14,.own 9 (v80.map Ta.i)),(15,.I (v80.length:Int)),(16,.I p.2.1),(17,.bool true),(18,.bool true)],[[.I v1.fat,.I v1.ft.faf,.I v1.ft.fad,.imm 7 (v1.ft.fah.map Te.i),.I v1.fq.fw,.imm 13 (v1.fq.fj.map Tb.i),.imm 17 (v1.faa.map Tc.i),.I v1.far,.I v1.fau,.I v1.fas,.I v1.fav],[.imm 9 (v77.fac.map Ta.i),.bool v77.faw,.I v77.ff.fk,.I v77.ff.fr,.I v77.ff.fg,.I v77.ff.fa.fd,.I v77.ff.fa.fe,.I v77.ff.fa.fN,.imm 1 (v77.ff.fa.fb.map (V.int .i64)),.imm 1 (v77.ff.fa.fc.map V.bool),.I v77.ff.fa.fi,.I v77.fag,.I v77.fay,.I v77.faz,.I v77.fw,.I v77.faf,.I v77.fad],[.I p.2.2.1.fk,.I p.2.2.1.fr,.I p.2.2.1.fg,.I p.2.2.1.fa.fd,.I p.2.2.1.fa.fe,.I p.2.2.1.fa.fN,.imm 1 (p.2.2.1.fa.fb.map (V.int .i64)),.imm 1 (p.2.2.1.fa.fc.map V.bool),.I p.2.2.1.fa.fi],[.I p.2.2.2.1,.I p.2.2.2.2]]⟩)
def zp4 (v1:To) (v46:Int) (v77:Tc) (v80:List Ta):(List Tm)->Ex×St:=fun p=>((.exit 2),⟨sv 19 [(1,.ref (.box 0) 0 []),(3,.own 2 (p.map Tm.i)),(4,.I v46),(9,.imm 17 (v1.faa.map Tc.i)),(10,.I (v1.faa.length:Int)),(11,.I v46),(14,.own 9 (v80.map Ta.i)),(15,.I (v80.length:Int)),(16,.I (v80.length:Int)),(17,.bool false)],[[.I v1.fat,.I v1.ft.faf,.I v1.ft.fad,.imm 7 (v1.ft.fah.map Te.i),.I v1.fq.fw,.imm 13 (v1.fq.fj.map Tb.i),.imm 17 (v1.faa.map Tc.i),.I v1.far,.I v1.fau,.I v1.fas,.I v1.fav],[.imm 9 (v77.fac.map Ta.i),.bool v77.faw,.I v77.ff.fk,.I v77.ff.fr,.I v77.ff.fg,.I v77.ff.fa.fd,.I v77.ff.fa.fe,.I v77.ff.fa.fN,.imm 1 (v77.ff.fa.fb.map (V.int .i64)),.imm 1 (v77.ff.fa.fc.map V.bool),.I v77.ff.fa.fi,.I v77.fag,.I v77.fay,.I v77.faz,.I v77.fw,.I v77.faf,.I v77.fad]]⟩)
def zpv (v1:To) (v46:Int) (v77:Tc) (v80:List Ta) (k:Int):=zbn (zwz v1 v46 v77 v80 k) (Sum.elim (zmt v1 v46 v77 v80) (zp4 v1 v46 v77 v80))
def zs7 (v1:To) (v46:Int) (v77:Tc) (v80:List Ta) (k:Int) (x:Ta) (s:List Tm):Option ((List Tm)⊕((List Tm×Int×Ta×Int×Int)⊕(List Tm))):=if 0<=k/\(k:Int)<(((v80.map Ta.i).length - 0:Nat):Int) then((yzj v1.fq v46 x).bind fun v98=>(bif !v98 then(some (.inr (.inl (s,k,x,x.fk,x.fr)))) else((yyo s (⟨x.fk,x.fr⟩:Tm)).bind fun v100=>(bif v100 then(some (.inr (.inl (s,k,x,x.fk,x.fr)))) else(if ((s.map Tm.i).length+(([(⟨x.fk,x.fr⟩:Tm)]:List Tm).map Tm.i).length) * 16<=70368744177664 then(some (.inl (s++([(⟨x.fk,x.fr⟩:Tm)]:List Tm)))) else none))))) else none
def ydf (v1:To) (v46:Int) (v77:Tc) (v80:List Ta) (s:List Tm):Option ((List Tm×Int×Ta×Int×Int)⊕(List Tm)):=some ((.inr s))
def zjb (v1:To) (v46:Int) (v77:Tc) (v80:List Ta) (s:List Tm):Option ((List Tm×Int×Ta×Int×Int)⊕(List Tm)):=if v80.length<=9223372036854775806 then zaf (zs7 v1 v46 v77 v80) (ydf v1 v46 v77 v80) v80 0 s else none
def yde (v1:To) (v46:Int) (v77:Tc) (v80:List Ta) (s:List Tm):Lc2:=⟨19,ydq,2,[0,2,5,6,7,8,12,13,17,18],some (zwz v1 v46 v77 v80 0 s),List Tm×Int×Ta×Int×Int,List Tm,zjb v1 v46 v77 v80 s,zmt v1 v46 v77 v80,zp4 v1 v46 v77 v80⟩
theorem ypw {v1:To} {v46:Int} {v77:Tc} {v80:List Ta} {s:List Tm}:(yde v1 v46 v77 v80 s).ok tab:=zar (zaa (J:=zwz v1 v46 v77 v80) (o:=(Sum.elim (zmt v1 v46 v77 v80) (zp4 v1 v46 v77 v80))) v80 (B:=fun(k:Int) (x:Ta) (s:List Tm)=>(.kb (decide (k<(v80.length:Int))) true<|.guard (0<=k/\(k:Int)<(((v80.map Ta.i).length - 0:Nat):Int)) inferInstance<|.lkY Ta.i v80 (k.toNat) x<|.callF (qmz v1.fq v46 x) fun(v98:Bool)=>.br (!v98) (.lfA (zpv v1 v46 v77 v80 (i64.wrap (k+1))) (.inr (.inl (s,k,x,x.fk,x.fr))))<|.segA Tm.i s<|.eraA Tm.i Tm.i s<|.callF (qk8 s (⟨x.fk,x.fr⟩:Tm)) fun(v100:Bool)=>.br v100 (.lfA (zpv v1 v46 v77 v80 (i64.wrap (k+1))) (.inr (.inl (s,k,x,x.fk,x.fr))))<|.eqL [.agg [.int .i64 x.fk,.int .i64 x.fr]] (([(⟨x.fk,x.fr⟩:Tm)]:List Tm).map Tm.i)<|.segA Tm.i s<|.segA Tm.i ([(⟨x.fk,x.fr⟩:Tm)]:List Tm)<|.guard (((s.map Tm.i).length+(([(⟨x.fk,x.fr⟩:Tm)]:List Tm).map Tm.i).length) * 16<=70368744177664) inferInstance<|.appA Tm.i s ([(⟨x.fk,x.fr⟩:Tm)]:List Tm)<|.segA Tm.i (s++([(⟨x.fk,x.fr⟩:Tm)]:List Tm))<|.lfA (zpv v1 v46 v77 v80 (i64.wrap (k+1))) (.inl (s++([(⟨x.fk,x.fr⟩:Tm)]:List Tm))):Tree ((List Tm)⊕((List Tm×Int×Ta×Int×Int)⊕(List Tm))) _)) (E:=fun(s:List Tm)=>(.kb (decide ((v80.length:Int)<(v80.length:Int))) false<|.lfA (zpv v1 v46 v77 v80 0) (.inr (.inr s)):Tree ((List Tm)⊕((List Tm×Int×Ta×Int×Int)⊕(List Tm))) _)) (fun k x s=>by kernel_rfl) (fun d x t s he=>⟨ltX he,gU<|⟨zgh Ta.i he,cF qw1 fun v98=>bR (rfl)<|sA<|eO (fun _=>rfl)<|cF qv0 fun v100=>bR (rfl)<|⟨rfl,sA<|sA<|gU<|aA<|sA<|rfl⟩⟩⟩) (ho2 (fun _=>rfl) fun _=>rfl) (fun s=>by kernel_rfl) (fun s=>⟨ltE _,rfl⟩) (by kernel_rfl) (by kernel_rfl) s)
def zuy (v1:To) (k:Int) (s:List Tm):St:=⟨sv 19 [(1,.ref (.box 0) 0 []),(3,.own 2 (s.map Tm.i)),(9,.imm 17 (v1.faa.map Tc.i)),(10,.I (v1.faa.length:Int)),(11,.I k)],[[.I v1.fat,.I v1.ft.faf,.I v1.ft.fad,.imm 7 (v1.ft.fah.map Te.i),.I v1.fq.fw,.imm 13 (v1.fq.fj.map Tb.i),.imm 17 (v1.faa.map Tc.i),.I v1.far,.I v1.fau,.I v1.fas,.I v1.fav]]⟩
def zn9 (v1:To):(List Tm×Int×Tc)->Ex×St:=fun p=>(.ret,⟨sv 19 [(1,.ref (.box 0) 0 []),(2,.bool false),(3,.own 2 (p.1.map Tm.i)),(4,.I p.2.1),(5,.ref (.box 1) 0 []),(9,.imm 17 (v1.faa.map Tc.i)),(10,.I (v1.faa.length:Int)),(11,.I p.2.1),(12,.bool true),(13,.bool true)],[[.I v1.fat,.I v1.ft.faf,.I v1.ft.fad,.imm 7 (v1.ft.fah.map Te.i),.I v1.fq.fw,.imm 13 (v1.fq.fj.map Tb.i),.imm 17 (v1.faa.map Tc.i),.I v1.far,.I v1.fau,.I v1.fas,.I v1.fav],[.imm 9 (p.2.2.fac.map Ta.i),.bool p.2.2.faw,.I p.2.2.ff.fk,.I p.2.2.ff.fr,.I p.2.2.ff.fg,.I p.2.2.ff.fa.fd,.I p.2.2.ff.fa.fe,.I p.2.2.ff.fa.fN,.imm 1 (p.2.2.ff.fa.fb.map (V.int .i64)),.imm 1 (p.2.2.ff.fa.fc.map V.bool),.I p.2.2.ff.fa.fi,.I p.2.2.fag,.I p.2.2.fay,.I p.2.2.faz,.I p.2.2.fw,.I p.2.2.faf,.I p.2.2.fad]]⟩)
def zmw (v1:To):(List Tm×Int×List Ta×Int×Int×Tc×Ta×Int×Int)->Ex×St:=fun p=>(.ret,⟨sv 19 [(1,.ref (.box 0) 0 []),(2,.bool false),(3,.own 2 (p.1.map Tm.i)),(4,.I p.2.1),(6,.ref (.box 2) 0 []),(7,.ref (.box 3) 0 []),(9,.imm 17 (v1.faa.map Tc.i)),(10,.I (v1.faa.length:Int)),(11,.I p.2.1),(14,.own 9 (p.2.2.1.map Ta.i)),(15,.I p.2.2.2.1),(16,.I p.2.2.2.2.1),(17,.bool true),(18,.bool true)],[[.I v1.fat,.I v1.ft.faf,.I v1.ft.fad,.imm 7 (v1.ft.fah.map Te.i),.I v1.fq.fw,.imm 13 (v1.fq.fj.map Tb.i),.imm 17 (v1.faa.map Tc.i),.I v1.far,.I v1.fau,.I v1.fas,.I v1.fav],[.imm 9 (p.2.2.2.2.2.1.fac.map Ta.i),.bool p.2.2.2.2.2.1.faw,.I p.2.2.2.2.2.1.ff.fk,.I p.2.2.2.2.2.1.ff.fr,.I p.2.2.2.2.2.1.ff.fg,.I p.2.2.2.2.2.1.ff.fa.fd,.I p.2.2.2.2.2.1.ff.fa.fe,.I p.2.2.2.2.2.1.ff.fa.fN,.imm 1 (p.2.2.2.2.2.1.ff.fa.fb.map (V.int .i64)),.imm 1 (p.2.2.2.2.2.1.ff.fa.fc.map V.bool),.I p.2.2.2.2.2.1.ff.fa.fi,.I p.2.2.2.2.2.1.fag,.I p.2.2.2.2.2.1.fay,.I p.2.2.2.2.2.1.faz,.I p.2.2.2.2.2.1.fw,.I p.2.2.2.2.2.1.faf,.I p.2.2.2.2.2.1.fad],[.I p.2.2.2.2.2.2.1.fk,.I p.2.2.2.2.2.2.1.fr,.I p.2.2.2.2.2.2.1.fg,.I p.2.2.2.2.2.2.1.fa.fd,.I p.2.2.2.2.2.2.1.fa.fe,.I p.2.2.2.2.2.2.1.fa.fN,.imm 1 (p.2.2.2.2.2.2.1.fa.fb.map (V.int .i64)),.imm 1 (p.2.2.2.2.2.2.1.fa.fc.map V.bool),.I p.2.2.2.2.2.2.1.fa.fi],[.I p.2.2.2.2.2.2.2.1,.I p.2.2.2.2.2.2.2.2]]⟩)
def zpm (v1:To):(List Tm)->Ex×St:=fun p=>((.exit 0),⟨sv 19 [(1,.ref (.box 0) 0 []),(3,.own 2 (p.map Tm.i)),(9,.imm 17 (v1.faa.map Tc.i)),(10,.I (v1.faa.length:Int)),(11,.I (v1.faa.length:Int)),(12,.bool false)],[[.I v1.fat,.I v1.ft.faf,.I v1.ft.fad,.imm 7 (v1.ft.fah.map Te.i),.I v1.fq.fw,.imm 13 (v1.fq.fj.map Tb.i),.imm 17 (v1.faa.map Tc.i),.I v1.far,.I v1.fau,.I v1.fas,.I v1.fav]]⟩)
def zm1 (v1:To) (k:Int):=zbn (zuy v1 k) (Sum.elim (zn9 v1) (Sum.elim (zmw v1) (zpm v1)))
def zvb (v1:To) (k:Int) (x:Tc) (s:List Tm):Option ((List Tm)⊕((List Tm×Int×Tc)⊕(List Tm×Int×List Ta×Int×Int×Tc×Ta×Int×Int)⊕(List Tm))):=(qa9 x).bind fun v78=>(bif !v78 then(some (.inr (.inl (s,k,x)))) else((qb6 x).bind fun v80=>((zjb v1 k x v80 s).bind (zbj (fun (v102:List Tm×Int×Ta×Int×Int)=>(some (.inr (.inr (.inl (v102.1,k,v80,(v80.length:Int),v102.2.1,x,v102.2.2.1,v102.2.2.2.1,v102.2.2.2.2)))))) (fun (v103:List Tm)=>(some (.inl v103)))))))
def yft (v1:To) (s:List Tm):Option ((List Tm×Int×Tc)⊕(List Tm×Int×List Ta×Int×Int×Tc×Ta×Int×Int)⊕(List Tm)):=some ((.inr (.inr s)))
def zgz (v1:To) (s:List Tm):Option ((List Tm×Int×Tc)⊕(List Tm×Int×List Ta×Int×Int×Tc×Ta×Int×Int)⊕(List Tm)):=if v1.faa.length<=9223372036854775806 then zaf (zvb v1) (yft v1) v1.faa 0 s else none
def yhj (v1:To) (s:List Tm):Lc3:=⟨19,ylu,1,[0,2,4,5,6,7,8,12,13,14,15,16,17,18],some (zuy v1 0 s),List Tm×Int×Tc,List Tm×Int×List Ta×Int×Int×Tc×Ta×Int×Int,List Tm,zgz v1 s,zn9 v1,zmw v1,zpm v1⟩
theorem yo7 {v1:To} {s:List Tm}:(yhj v1 s).ok tab:=yt2 (zaa (J:=zuy v1) (o:=(Sum.elim (zn9 v1) (Sum.elim (zmw v1) (zpm v1)))) v1.faa (B:=fun(k:Int) (x:Tc) (s:List Tm)=>(.kb (decide (k<(v1.faa.length:Int))) true<|.ob (0<=k)<|.lkX Tc.i v1.faa (k.toNat) x<|.callF (qko x) fun(v78:Bool)=>.br (!v78) (.lfA (zm1 v1 (i64.wrap (k+1))) (.inr (.inl (s,k,x))))<|.call (qmf x) fun(v80:List Ta)=>.lenB Ta.i v80<|.lp2 (yde v1 k x v80 s) (fun (v102:List Tm×Int×Ta×Int×Int)=>.lfA (zm1 v1 (i64.wrap (k+1))) (.inr (.inr (.inl (v102.1,k,v80,(v80.length:Int),v102.2.1,x,v102.2.2.1,v102.2.2.2.1,v102.2.2.2.2))))) (fun (v103:List Tm)=>.lfA (zm1 v1 (i64.wrap (k+1))) (.inl v103)):Tree ((List Tm)⊕((List Tm×Int×Tc)⊕(List Tm×Int×List Ta×Int×Int×Tc×Ta×Int×Int)⊕(List Tm))) _)) (E:=fun(s:List Tm)=>(.kb (decide ((v1.faa.length:Int)<(v1.faa.length:Int))) false<|.lfA (zm1 v1 0) (.inr (.inr (.inr s))):Tree ((List Tm)⊕((List Tm×Int×Tc)⊕(List Tm×Int×List Ta×Int×Int×Tc×Ta×Int×Int)⊕(List Tm))) _)) (fun k x s=>by kernel_rfl) (fun d x t s he=>⟨ltX he,⟨Int.natCast_nonneg _,⟨za7 Tc.i he,cF qrk fun v78=>bR (rfl)<|cE jaj fun v80=>lB<|lQ ypw (fun v102=>rfl) (fun v103=>rfl)⟩⟩⟩) (ho2 (fun _=>rfl) (ho2 (fun _=>rfl) fun _=>rfl)) (fun s=>by kernel_rfl) (fun s=>⟨ltE _,rfl⟩) (by kernel_rfl) (by kernel_rfl) s)
def yv3 (v1:To):Option Bool:=(yu2 v1.fat).bind fun v2=>(bif !v2 then(some false) else((yyg v1.ft).bind fun v4=>(bif !v4 then(some false) else((ytm v1.fq).bind fun v6=>(bif !v6 then(some false) else(bif decide ((v1.faa.length:Int)≠6) then(some false) else((ygr v1.far).bind fun v9=>(bif !v9 then(some false) else((ygr v1.fau).bind fun v11=>(bif !v11 then(some false) else((ygr v1.fas).bind fun v13=>(bif !v13 then(some false) else((ygr v1.fav).bind fun v15=>(bif !v15 then(some false) else((zgz v1 ([])).bind (qvc (fun (v104:List Tm×Int×Tc)=>(some false)) (fun (v105:List Tm×Int×List Ta×Int×Int×Tc×Ta×Int×Int)=>(some false)) (fun (v106:List Tm)=>((yvs v1.fq).bind fun v107=>(some (decide ((v106.length:Int)=v107)))))))))))))))))))))
def qmh (v1:To):Ctr:=⟨yyv,[.agg [.I v1.fat,.I v1.ft.faf,.I v1.ft.fad,.imm 7 (v1.ft.fah.map Te.i),.I v1.fq.fw,.imm 13 (v1.fq.fj.map Tb.i),.imm 17 (v1.faa.map Tc.i),.I v1.far,.I v1.fau,.I v1.fas,.I v1.fav]],[],Bool,yv3 v1,rB⟩
theorem ja4 {v1:To}:(qmh v1).okF tab:=fun r hr=>⟨za1 qpj rfl (.callF (qe2 v1.fat) fun(v2:Bool)=>.br (!v2) (.lfA rB false)<|.callF (qly v1.ft) fun(v4:Bool)=>.br (!v4) (.lfA rB false)<|.callF (qd8 v1.fq) fun(v6:Bool)=>.br (!v6) (.lfA rB false)<|.lenA Tc.i v1.faa<|.br (decide ((v1.faa.length:Int)≠6)) (.lfA rB false)<|.callF (yip v1.far) fun(v9:Bool)=>.br (!v9) (.lfA rB false)<|.callF (yip v1.fau) fun(v11:Bool)=>.br (!v11) (.lfA rB false)<|.callF (yip v1.fas) fun(v13:Bool)=>.br (!v13) (.lfA rB false)<|.callF (yip v1.fav) fun(v15:Bool)=>.br (!v15) (.lfA rB false)<|.sk<|.seg [] 0 0 []<|.lenA Tc.i v1.faa<|.lp3 (yhj v1 ([])) (fun (v104:List Tm×Int×Tc)=>.lfA rB false) (fun (v105:List Tm×Int×List Ta×Int×Int×Tc×Ta×Int×Int)=>.lfA rB false) (fun (v106:List Tm)=>.lenB Tm.i v106<|.callF (qka v1.fq) fun(v107:Int)=>.lfA rB (decide ((v106.length:Int)=v107))):Tree Bool _) (by kernel_rfl) (by kernel_rfl) (cF qnx fun v2=>bR (rfl)<|cF jgt fun v4=>bR (rfl)<|cF qmc fun v6=>bR (rfl)<|lA<|bR (rfl)<|cF ymo fun v9=>bR (rfl)<|cF ymo fun v11=>bR (rfl)<|cF ymo fun v13=>bR (rfl)<|cF ymo fun v15=>bR (rfl)<|⟨zc1 [],lA<|lR yo7 (fun v104=>rfl) (fun v105=>rfl) (fun v106=>lB<|cF qpi fun v107=>rfl)⟩) hr,rfl,rfl⟩
def qco (v1:Tq):Option Bool:=bif decide ((v1.fao.length:Int)<=64) then(bif decide ((v1.fap.length:Int)<=64) then(bif decide ((v1.fam.length:Int)<=64) then(bif decide ((v1.fb.length:Int)<=64) then((yls v1.fam).bind fun v6=>(bif v6 then((yls v1.fb).bind fun v8=>(some v8)) else(some false))) else(some false)) else(some false)) else(some false)) else(some false)
def qlx (v1:Tq):Ctr:=⟨qd4,[.agg [.imm 1 (v1.fao.map V.bool),.imm 1 (v1.fap.map V.bool),.imm 1 (v1.fam.map (V.int .i64)),.imm 1 (v1.fb.map (V.int .i64))]],[],Bool,qco v1,rB⟩
theorem qoy {v1:Tq}:(qlx v1).okF tab:=fun r hr=>⟨za1 jcb rfl (.lenA V.bool v1.fao<|.br (decide ((v1.fao.length:Int)<=64)) (.lenA V.bool v1.fap<|.br (decide ((v1.fap.length:Int)<=64)) (.lenA (V.int .i64) v1.fam<|.br (decide ((v1.fam.length:Int)<=64)) (.lenA (V.int .i64) v1.fb<|.br (decide ((v1.fb.length:Int)<=64)) (.callF (yue v1.fam) fun(v6:Bool)=>.br v6 (.callF (yue v1.fb) fun(v8:Bool)=>.lfA rB v8)<|.lfA rB false)<|.lfA rB false)<|.lfA rB false)<|.lfA rB false)<|.lfA rB false:Tree Bool _) (by kernel_rfl) (by kernel_rfl) (lA<|bR (lA<|bR (lA<|bR (lA<|bR (cF yv8 fun v6=>bR (cF yv8 fun v8=>rfl)<|rfl)<|rfl)<|rfl)<|rfl)<|rfl) hr,rfl,rfl⟩
def ywa (v1:Tf) (v2:Tf):Option Bool:=bif decide (v1.fp=v2.fp) then(some (decide (v1.fg=v2.fg))) else(some false)
def qk3 (v1:Tf) (v2:Tf):Ctr:=⟨yka,[.agg [.I v1.fp,.I v1.fg,.imm 1 (v1.fD.fao.map V.bool),.imm 1 (v1.fD.fap.map V.bool),.imm 1 (v1.fD.fam.map (V.int .i64)),.imm 1 (v1.fD.fb.map (V.int .i64))],.eptr [.I v2.fp,.I v2.fg,.imm 1 (v2.fD.fao.map V.bool),.imm 1 (v2.fD.fap.map V.bool),.imm 1 (v2.fD.fam.map (V.int .i64)),.imm 1 (v2.fD.fb.map (V.int .i64))] 0],[],Bool,ywa v1 v2,rB⟩
theorem quf {v1:Tf} {v2:Tf}:(qk3 v1 v2).okF tab:=fun r hr=>⟨za1 qv5 rfl (.br (decide (v1.fp=v2.fp)) (.lfA rB (decide (v1.fg=v2.fg)))<|.lfA rB false:Tree Bool _) (by kernel_rfl) (by kernel_rfl) (bR (rfl)<|rfl) hr,rfl,rfl⟩
def zsi (v1:List Tf) (v2:Tf) (k:Int) (s:Unit):St:=⟨sv 8 [(0,.imm 6 (v1.map Tf.i)),(1,.clo yka [.agg [.I v2.fp,.I v2.fg,.imm 1 (v2.fD.fao.map V.bool),.imm 1 (v2.fD.fap.map V.bool),.imm 1 (v2.fD.fam.map (V.int .i64)),.imm 1 (v2.fD.fb.map (V.int .i64))]]),(4,.I (v1.length:Int)),(5,.I k)],[]⟩
def zo5 (v1:List Tf) (v2:Tf):Int->Ex×St:=fun p=>(.ret,⟨sv 8 [(0,.imm 6 (v1.map Tf.i)),(1,.clo yka [.agg [.I v2.fp,.I v2.fg,.imm 1 (v2.fD.fao.map V.bool),.imm 1 (v2.fD.fap.map V.bool),.imm 1 (v2.fD.fam.map (V.int .i64)),.imm 1 (v2.fD.fb.map (V.int .i64))]]),(2,.I p),(3,.I p),(4,.I (v1.length:Int)),(5,.I p),(6,.bool true),(7,.bool true)],[]⟩)
def zlq (v1:List Tf) (v2:Tf):Unit->Ex×St:=fun p=>((.exit 0),⟨sv 8 [(0,.imm 6 (v1.map Tf.i)),(1,.clo yka [.agg [.I v2.fp,.I v2.fg,.imm 1 (v2.fD.fao.map V.bool),.imm 1 (v2.fD.fap.map V.bool),.imm 1 (v2.fD.fam.map (V.int .i64)),.imm 1 (v2.fD.fb.map (V.int .i64))]]),(4,.I (v1.length:Int)),(5,.I (v1.length:Int)),(6,.bool false)],[]⟩)
def zuh (v1:List Tf) (v2:Tf) (k:Int):=zbn (zsi v1 v2 k) (Sum.elim (zo5 v1 v2) (zlq v1 v2))
def yhq (v1:List Tf) (v2:Tf) (k:Int) (x:Tf) (s:Unit):Option ((Unit)⊕(Int⊕Unit)):=(ywa x v2).bind fun v15=>(bif v15 then(some (.inr (.inl k))) else(some (.inl ())))
def yns (v1:List Tf) (v2:Tf) (s:Unit):Option (Int⊕Unit):=some ((.inr ()))
def zvi (v1:List Tf) (v2:Tf) (s:Unit):Option (Int⊕Unit):=if v1.length<=9223372036854775806 then zaf (yhq v1 v2) (yns v1 v2) v1 0 s else none
def yd6 (v1:List Tf) (v2:Tf) (s:Unit):Lc2:=⟨8,yko,0,[2,3,6,7],some (zsi v1 v2 0 s),Int,Unit,zvi v1 v2 s,zo5 v1 v2,zlq v1 v2⟩
theorem yrf {v1:List Tf} {v2:Tf} {s:Unit}:(yd6 v1 v2 s).ok tab:=zar (zaa (J:=zsi v1 v2) (o:=(Sum.elim (zo5 v1 v2) (zlq v1 v2))) v1 (B:=fun(k:Int) (x:Tf) (s:Unit)=>(.kb (decide (k<(v1.length:Int))) true<|.ob (0<=k)<|.lkX Tf.i v1 (k.toNat) x<|.callF (qk3 x v2) fun(v15:Bool)=>.br v15 (.lfA (zuh v1 v2 (i64.wrap (k+1))) (.inr (.inl k)))<|.lfA (zuh v1 v2 (i64.wrap (k+1))) (.inl ()):Tree ((Unit)⊕(Int⊕Unit)) _)) (E:=fun(s:Unit)=>(.kb (decide ((v1.length:Int)<(v1.length:Int))) false<|.lfA (zuh v1 v2 0) (.inr (.inr ())):Tree ((Unit)⊕(Int⊕Unit)) _)) (fun k x s=>by kernel_rfl) (fun d x t s he=>⟨ltX he,⟨Int.natCast_nonneg _,⟨za7 Tf.i he,cF quf fun v15=>bR (rfl)<|rfl⟩⟩⟩) (ho2 (fun _=>rfl) fun _=>rfl) (fun s=>by kernel_rfl) (fun s=>⟨ltE _,rfl⟩) (by kernel_rfl) (by kernel_rfl) s)
def ywf (v1:List Tf) (v2:Tf):Option Int:=(zvi v1 v2 ()).bind (zbj (fun (v17:Int)=>(some v17)) (fun (v18:Unit)=>(some (-1))))
def qkf (v1:List Tf) (v2:Tf):Ctr:=⟨yxz,[.imm 6 (v1.map Tf.i),.clo yka [.agg [.I v2.fp,.I v2.fg,.imm 1 (v2.fD.fao.map V.bool),.imm 1 (v2.fD.fap.map V.bool),.imm 1 (v2.fD.fam.map (V.int .i64)),.imm 1 (v2.fD.fb.map (V.int .i64))]]],[],Int,ywf v1 v2,rI⟩
theorem qsc {v1:List Tf} {v2:Tf}:(qkf v1 v2).okF tab:=fun r hr=>⟨za1 qx8 rfl (.lenA Tf.i v1<|.lp2 (yd6 v1 v2 ()) (fun (v17:Int)=>.lfA rI v17) (fun (v18:Unit)=>.lfA rI (-1)):Tree Int _) (by kernel_rfl) (by kernel_rfl) (lA<|lQ yrf (fun v17=>rfl) (fun v18=>rfl)) hr,rfl,rfl⟩
def yz5 (v1:List Tf) (v2:Tf):Option Bool:=(ywf v1 v2).bind fun v3=>(some (decide (0<=v3)))
def qlf (v1:List Tf) (v2:Tf):Ctr:=⟨yxf,[.imm 6 (v1.map Tf.i),.clo yka [.agg [.I v2.fp,.I v2.fg,.imm 1 (v2.fD.fao.map V.bool),.imm 1 (v2.fD.fap.map V.bool),.imm 1 (v2.fD.fam.map (V.int .i64)),.imm 1 (v2.fD.fb.map (V.int .i64))]]],[],Bool,yz5 v1 v2,rB⟩
theorem jd5 {v1:List Tf} {v2:Tf}:(qlf v1 v2).okF tab:=fun r hr=>⟨za1 ji8 rfl (.callF (qkf v1 v2) fun(v3:Int)=>.lfA rB (decide (0<=v3)):Tree Bool _) (by kernel_rfl) (by kernel_rfl) (cF qsc fun v3=>rfl) hr,rfl,rfl⟩
def zvw (v1:List Tf) (k:Int) (s:Unit):St:=⟨sv 9 [(0,.imm 6 (v1.map Tf.i)),(4,.imm 6 (v1.map Tf.i)),(5,.I (v1.length:Int)),(6,.I k)],[]⟩
def zn4 (v1:List Tf):(Int×Tf)->Ex×St:=fun p=>(.ret,⟨sv 9 [(0,.imm 6 (v1.map Tf.i)),(1,.bool false),(2,.I p.1),(3,.ref (.box 0) 0 []),(4,.imm 6 (v1.map Tf.i)),(5,.I (v1.length:Int)),(6,.I p.1),(7,.bool true),(8,.bool true)],[[.I p.2.fp,.I p.2.fg,.imm 1 (p.2.fD.fao.map V.bool),.imm 1 (p.2.fD.fap.map V.bool),.imm 1 (p.2.fD.fam.map (V.int .i64)),.imm 1 (p.2.fD.fb.map (V.int .i64))]]⟩)
def zmx (v1:List Tf):Unit->Ex×St:=fun p=>((.exit 0),⟨sv 9 [(0,.imm 6 (v1.map Tf.i)),(4,.imm 6 (v1.map Tf.i)),(5,.I (v1.length:Int)),(6,.I (v1.length:Int)),(7,.bool false)],[]⟩)
def zh0 (v1:List Tf) (k:Int):=zbn (zvw v1 k) (Sum.elim (zn4 v1) (zmx v1))
def ya6 (v1:List Tf) (k:Int) (x:Tf) (s:Unit):Option ((Unit)⊕((Int×Tf)⊕Unit)):=(ypo x.fp).bind fun v26=>(bif !v26 then(some (.inr (.inl (k,x)))) else((yij x.fg).bind fun v28=>(bif !v28 then(some (.inr (.inl (k,x)))) else((qco x.fD).bind fun v30=>(bif !v30 then(some (.inr (.inl (k,x)))) else(if (0:Int)<=0/\(0:Int)<=k/\k<=(((v1.map Tf.i).length:Nat):Int) then((yz5 ((v1.take ((k:Int).toNat)).drop ((0:Int).toNat)) x).bind fun v32=>(bif v32 then(some (.inr (.inl (k,x)))) else(some (.inl ())))) else none))))))
def yqw (v1:List Tf) (s:Unit):Option ((Int×Tf)⊕Unit):=some ((.inr ()))
def zwc (v1:List Tf) (s:Unit):Option ((Int×Tf)⊕Unit):=if v1.length<=9223372036854775806 then zaf (ya6 v1) (yqw v1) v1 0 s else none
def ybw (v1:List Tf) (s:Unit):Lc2:=⟨9,ylc,0,[1,2,3,7,8],some (zvw v1 0 s),Int×Tf,Unit,zwc v1 s,zn4 v1,zmx v1⟩
theorem yoe {v1:List Tf} {s:Unit}:(ybw v1 s).ok tab:=zar (zaa (J:=zvw v1) (o:=(Sum.elim (zn4 v1) (zmx v1))) v1 (B:=fun(k:Int) (x:Tf) (s:Unit)=>(.kb (decide (k<(v1.length:Int))) true<|.ob (0<=k)<|.lkX Tf.i v1 (k.toNat) x<|.callF (ytc x.fp) fun(v26:Bool)=>.br (!v26) (.lfA (zh0 v1 (i64.wrap (k+1))) (.inr (.inl (k,x))))<|.callF (ypr x.fg) fun(v28:Bool)=>.br (!v28) (.lfA (zh0 v1 (i64.wrap (k+1))) (.inr (.inl (k,x))))<|.callF (qlx x.fD) fun(v30:Bool)=>.br (!v30) (.lfA (zh0 v1 (i64.wrap (k+1))) (.inr (.inl (k,x))))<|.guard ((0:Int)<=0/\(0:Int)<=k/\k<=(((v1.map Tf.i).length:Nat):Int)) inferInstance<|.cutA Tf.i v1 ((0:Int).toNat) ((k:Int).toNat)<|.callF (qlf ((v1.take ((k:Int).toNat)).drop ((0:Int).toNat)) x) fun(v32:Bool)=>.br v32 (.lfA (zh0 v1 (i64.wrap (k+1))) (.inr (.inl (k,x))))<|.lfA (zh0 v1 (i64.wrap (k+1))) (.inl ()):Tree ((Unit)⊕((Int×Tf)⊕Unit)) _)) (E:=fun(s:Unit)=>(.kb (decide ((v1.length:Int)<(v1.length:Int))) false<|.lfA (zh0 v1 0) (.inr (.inr ())):Tree ((Unit)⊕((Int×Tf)⊕Unit)) _)) (fun k x s=>by kernel_rfl) (fun d x t s he=>⟨ltX he,⟨Int.natCast_nonneg _,⟨za7 Tf.i he,cF yzh fun v26=>bR (rfl)<|cF ysn fun v28=>bR (rfl)<|cF qoy fun v30=>bR (rfl)<|gU<|⟨zuu _ _ _ _,cF jd5 fun v32=>bR (rfl)<|rfl⟩⟩⟩⟩) (ho2 (fun _=>rfl) fun _=>rfl) (fun s=>by kernel_rfl) (fun s=>⟨ltE _,rfl⟩) (by kernel_rfl) (by kernel_rfl) s)
def qcw (v1:List Tf):Option Bool:=(zwc v1 ()).bind (zbj (fun (v34:Int×Tf)=>(some false)) (fun (v35:Unit)=>(some (decide ((v1.length:Int)<=8)))))
def qk7 (v1:List Tf):Ctr:=⟨qao,[.imm 6 (v1.map Tf.i)],[],Bool,qcw v1,rB⟩
theorem jah {v1:List Tf}:(qk7 v1).okF tab:=fun r hr=>⟨za1 qs8 rfl (.lenA Tf.i v1<|.lp2 (ybw v1 ()) (fun (v34:Int×Tf)=>.lfA rB false) (fun (v35:Unit)=>.lenA Tf.i v1<|.lfA rB (decide ((v1.length:Int)<=8))):Tree Bool _) (by kernel_rfl) (by kernel_rfl) (lA<|lQ yoe (fun v34=>rfl) (fun v35=>lA<|rfl)) hr,rfl,rfl⟩
def yyr (v1:Tg):Option Bool:=(ypo v1.fp).bind fun v2=>(bif !v2 then(some false) else((yij v1.fg).bind fun v4=>(bif !v4 then(some false) else((zkf v1.fag).bind fun v6=>(bif !v6 then(some false) else(bif v1.fbe then((yt0 v1.fh).bind fun v9=>(bif v9 then((yrx v1.fa (⟨0,0,0,[],[],0⟩:Tk)).bind fun v11=>(some v11)) else(some false))) else((yms v1.fa).bind fun v12=>(bif v12 then((ys5 v1.fh (⟨0,0,0,0,[],[]⟩:Td)).bind fun v14=>(some v14)) else(some false)))))))))
def qln (v1:Tg):Ctr:=⟨yut,[.agg [.bool v1.fbe,.I v1.fp,.I v1.fag,.I v1.fg,.I v1.fa.fd,.I v1.fa.fe,.I v1.fa.fN,.imm 1 (v1.fa.fb.map (V.int .i64)),.imm 1 (v1.fa.fc.map V.bool),.I v1.fa.fi,.I v1.fh.fd,.I v1.fh.fae,.I v1.fh.fe,.I v1.fh.fN,.imm 1 (v1.fh.fb.map (V.int .i64)),.imm 1 (v1.fh.fc.map V.bool)]],[],Bool,yyr v1,rB⟩
theorem jff {v1:Tg}:(qln v1).okF tab:=fun r hr=>⟨za1 qqw rfl (.callF (ytc v1.fp) fun(v2:Bool)=>.br (!v2) (.lfA rB false)<|.callF (ypr v1.fg) fun(v4:Bool)=>.br (!v4) (.lfA rB false)<|.callF (znf v1.fag) fun(v6:Bool)=>.br (!v6) (.lfA rB false)<|.br v1.fbe (.callF (qj4 v1.fh) fun(v9:Bool)=>.br v9 (.seg [] 0 0 []<|.eqL [] []<|.seg [] 0 0 []<|.eqL [] []<|.callF (ywv v1.fa (⟨0,0,0,[],[],0⟩:Tk)) fun(v11:Bool)=>.lfA rB v11)<|.lfA rB false)<|.callF (ysa v1.fa) fun(v12:Bool)=>.br v12 (.seg [] 0 0 []<|.eqL [] []<|.seg [] 0 0 []<|.eqL [] []<|.callF (yxy v1.fh (⟨0,0,0,0,[],[]⟩:Td)) fun(v14:Bool)=>.lfA rB v14)<|.lfA rB false:Tree Bool _) (by kernel_rfl) (by kernel_rfl) (cF yzh fun v2=>bR (rfl)<|cF ysn fun v4=>bR (rfl)<|cF zq3 fun v6=>bR (rfl)<|bR (cF qoo fun v9=>bR (⟨zc1 [],⟨rfl,⟨zc1 [],⟨rfl,cF qid fun v11=>rfl⟩⟩⟩⟩)<|rfl)<|cF yu9 fun v12=>bR (⟨zc1 [],⟨rfl,⟨zc1 [],⟨rfl,cF qed fun v14=>rfl⟩⟩⟩⟩)<|rfl) hr,rfl,rfl⟩
def yw5 (v1:Tg):Option Bool:=(yyr v1).bind fun v2=>(some (!v2))
def qnv (v1:Tg):Ctr:=⟨yjv,[.agg [.bool v1.fbe,.I v1.fp,.I v1.fag,.I v1.fg,.I v1.fa.fd,.I v1.fa.fe,.I v1.fa.fN,.imm 1 (v1.fa.fb.map (V.int .i64)),.imm 1 (v1.fa.fc.map V.bool),.I v1.fa.fi,.I v1.fh.fd,.I v1.fh.fae,.I v1.fh.fe,.I v1.fh.fN,.imm 1 (v1.fh.fb.map (V.int .i64)),.imm 1 (v1.fh.fc.map V.bool)]],[],Bool,yw5 v1,rB⟩
theorem qwv {v1:Tg}:(qnv v1).okF tab:=fun r hr=>⟨za1 qpa rfl (.callF (qln v1) fun(v2:Bool)=>.lfA rB (!v2):Tree Bool _) (by kernel_rfl) (by kernel_rfl) (cF jff fun v2=>rfl) hr,rfl,rfl⟩
def zv5 (v1:List Tg) (k:Int) (s:Unit):St:=⟨sv 8 [(0,.imm 16 (v1.map Tg.i)),(1,.clo yjv []),(4,.I (v1.length:Int)),(5,.I k)],[]⟩
def zou (v1:List Tg):Int->Ex×St:=fun p=>(.ret,⟨sv 8 [(0,.imm 16 (v1.map Tg.i)),(1,.clo yjv []),(2,.I p),(3,.I p),(4,.I (v1.length:Int)),(5,.I p),(6,.bool true),(7,.bool true)],[]⟩)
def znr (v1:List Tg):Unit->Ex×St:=fun p=>((.exit 0),⟨sv 8 [(0,.imm 16 (v1.map Tg.i)),(1,.clo yjv []),(4,.I (v1.length:Int)),(5,.I (v1.length:Int)),(6,.bool false)],[]⟩)
def zta (v1:List Tg) (k:Int):=zbn (zv5 v1 k) (Sum.elim (zou v1) (znr v1))
def yan (v1:List Tg) (k:Int) (x:Tg) (s:Unit):Option ((Unit)⊕(Int⊕Unit)):=(yw5 x).bind fun v14=>(bif v14 then(some (.inr (.inl k))) else(some (.inl ())))
def ypp (v1:List Tg) (s:Unit):Option (Int⊕Unit):=some ((.inr ()))
def ztf (v1:List Tg) (s:Unit):Option (Int⊕Unit):=if v1.length<=9223372036854775806 then zaf (yan v1) (ypp v1) v1 0 s else none
def ydl (v1:List Tg) (s:Unit):Lc2:=⟨8,ymq,0,[2,3,6,7],some (zv5 v1 0 s),Int,Unit,ztf v1 s,zou v1,znr v1⟩
theorem yr6 {v1:List Tg} {s:Unit}:(ydl v1 s).ok tab:=zar (zaa (J:=zv5 v1) (o:=(Sum.elim (zou v1) (znr v1))) v1 (B:=fun(k:Int) (x:Tg) (s:Unit)=>(.kb (decide (k<(v1.length:Int))) true<|.ob (0<=k)<|.lkX Tg.i v1 (k.toNat) x<|.callF (qnv x) fun(v14:Bool)=>.br v14 (.lfA (zta v1 (i64.wrap (k+1))) (.inr (.inl k)))<|.lfA (zta v1 (i64.wrap (k+1))) (.inl ()):Tree ((Unit)⊕(Int⊕Unit)) _)) (E:=fun(s:Unit)=>(.kb (decide ((v1.length:Int)<(v1.length:Int))) false<|.lfA (zta v1 0) (.inr (.inr ())):Tree ((Unit)⊕(Int⊕Unit)) _)) (fun k x s=>by kernel_rfl) (fun d x t s he=>⟨ltX he,⟨Int.natCast_nonneg _,⟨za7 Tg.i he,cF qwv fun v14=>bR (rfl)<|rfl⟩⟩⟩) (ho2 (fun _=>rfl) fun _=>rfl) (fun s=>by kernel_rfl) (fun s=>⟨ltE _,rfl⟩) (by kernel_rfl) (by kernel_rfl) s)
def qbf (v1:List Tg):Option Int:=(ztf v1 ()).bind (zbj (fun (v16:Int)=>(some v16)) (fun (v17:Unit)=>(some (-1))))
def ql1 (v1:List Tg):Ctr:=⟨qb2,[.imm 16 (v1.map Tg.i),.clo yjv []],[],Int,qbf v1,rI⟩
theorem qpd {v1:List Tg}:(ql1 v1).okF tab:=fun r hr=>⟨za1 qsh rfl (.lenA Tg.i v1<|.lp2 (ydl v1 ()) (fun (v16:Int)=>.lfA rI v16) (fun (v17:Unit)=>.lfA rI (-1)):Tree Int _) (by kernel_rfl) (by kernel_rfl) (lA<|lQ yr6 (fun v16=>rfl) (fun v17=>rfl)) hr,rfl,rfl⟩
def qcd (v1:List Tg):Option Bool:=(qbf v1).bind fun v2=>(some (decide (0<=v2)))
def ql3 (v1:List Tg):Ctr:=⟨qbm,[.imm 16 (v1.map Tg.i),.clo yjv []],[],Bool,qcd v1,rB⟩
theorem qyd {v1:List Tg}:(ql3 v1).okF tab:=fun r hr=>⟨za1 jjs rfl (.callF (ql1 v1) fun(v2:Int)=>.lfA rB (decide (0<=v2)):Tree Bool _) (by kernel_rfl) (by kernel_rfl) (cF qpd fun v2=>rfl) hr,rfl,rfl⟩
def yw1 (v1:Tp):Option Bool:=(yv3 v1.fF).bind fun v2=>(bif v2 then((qcw v1.fax).bind fun v4=>(bif v4 then(bif decide ((v1.fak.length:Int)<=60) then(bif decide ((v1.fbb.length:Int)<=5000) then(bif decide ((v1.fbc.length:Int)<=5000) then((qcd v1.fak).bind fun v9=>(some (!v9))) else(some false)) else(some false)) else(some false)) else(some false))) else(some false))
def qli (v1:Tp):Ctr:=⟨yv5,[.agg [.I v1.fF.fat,.I v1.fF.ft.faf,.I v1.fF.ft.fad,.imm 7 (v1.fF.ft.fah.map Te.i),.I v1.fF.fq.fw,.imm 13 (v1.fF.fq.fj.map Tb.i),.imm 17 (v1.fF.faa.map Tc.i),.I v1.fF.far,.I v1.fF.fau,.I v1.fF.fas,.I v1.fF.fav,.imm 6 (v1.fax.map Tf.i),.imm 16 (v1.fak.map Tg.i),.imm 16 (v1.fbb.map Ti.i),.imm 15 (v1.fbc.map Tj.i)]],[],Bool,yw1 v1,rB⟩
theorem jb3 {v1:Tp}:(qli v1).okF tab:=fun r hr=>⟨za1 jgz rfl (.callF (qmh v1.fF) fun(v2:Bool)=>.br v2 (.callF (qk7 v1.fax) fun(v4:Bool)=>.br v4 (.lenA Tg.i v1.fak<|.br (decide ((v1.fak.length:Int)<=60)) (.lenA Ti.i v1.fbb<|.br (decide ((v1.fbb.length:Int)<=5000)) (.lenA Tj.i v1.fbc<|.br (decide ((v1.fbc.length:Int)<=5000)) (.callF (ql3 v1.fak) fun(v9:Bool)=>.lfA rB (!v9))<|.lfA rB false)<|.lfA rB false)<|.lfA rB false)<|.lfA rB false)<|.lfA rB false:Tree Bool _) (by kernel_rfl) (by kernel_rfl) (cF ja4 fun v2=>bR (cF jah fun v4=>bR (lA<|bR (lA<|bR (lA<|bR (cF qyd fun v9=>rfl)<|rfl)<|rfl)<|rfl)<|rfl)<|rfl) hr,rfl,rfl⟩
def qbu (v1:Te) (v2:Te):Option Bool:=bif decide (v1.fg≠v2.fg) then(some false) else(bif decide (v1.fba≠v2.fba) then(some false) else(bif decide (v1.fal≠v2.fal) then(some false) else(bif decide (v1.fan≠v2.fan) then(some false) else(bif decide (v1.fp≠v2.fp) then(some false) else(bif decide (v1.fbd≠v2.fbd) then(some false) else(bif decide (v1.faq≠v2.faq) then(some false) else(some true)))))))
def qmb (v1:Te) (v2:Te):Ctr:=⟨qcz,[.agg [.I v1.fg,.I v1.fba,.I v1.fal,.I v1.fan,.I v1.fp,.I v1.fbd,.I v1.faq],.agg [.I v2.fg,.I v2.fba,.I v2.fal,.I v2.fan,.I v2.fp,.I v2.fbd,.I v2.faq]],[],Bool,qbu v1 v2,rB⟩
theorem jfw {v1:Te} {v2:Te}:(qmb v1 v2).okF tab:=fun r hr=>⟨za1 qyt rfl (.br (decide (v1.fg≠v2.fg)) (.lfA rB false)<|.br (decide (v1.fba≠v2.fba)) (.lfA rB false)<|.br (decide (v1.fal≠v2.fal)) (.lfA rB false)<|.br (decide (v1.fan≠v2.fan)) (.lfA rB false)<|.br (decide (v1.fp≠v2.fp)) (.lfA rB false)<|.br (decide (v1.fbd≠v2.fbd)) (.lfA rB false)<|.br (decide (v1.faq≠v2.faq)) (.lfA rB false)<|.lfA rB true:Tree Bool _) (by kernel_rfl) (by kernel_rfl) (bR (rfl)<|bR (rfl)<|bR (rfl)<|bR (rfl)<|bR (rfl)<|bR (rfl)<|bR (rfl)<|rfl) hr,rfl,rfl⟩
def zv6 (v1:List Te) (v2:List Te) (k:Int) (s:Unit):St:=⟨sv 7 [(0,.imm 7 (v1.map Te.i)),(1,.imm 7 (v2.map Te.i)),(3,.I k)],[]⟩
def zoi (v1:List Te) (v2:List Te):Int->Ex×St:=fun p=>(.ret,⟨sv 7 [(0,.imm 7 (v1.map Te.i)),(1,.imm 7 (v2.map Te.i)),(2,.bool false),(3,.I p),(5,.bool true),(6,.bool true)],[]⟩)
def zpu (v1:List Te) (v2:List Te):Unit->Ex×St:=fun p=>((.exit 0),⟨sv 7 [(0,.imm 7 (v1.map Te.i)),(1,.imm 7 (v2.map Te.i)),(3,.I (v1.length:Int)),(5,.bool false)],[]⟩)
def zu7 (v1:List Te) (v2:List Te) (k:Int):=zbn (zv6 v1 v2 k) (Sum.elim (zoi v1 v2) (zpu v1 v2))
def ygf (v1:List Te) (v2:List Te) (k:Int) (x:Te) (s:Unit):Option ((Unit)⊕(Int⊕Unit)):=((v2)[k.toNat]?).bind fun v20=>((qbu x v20).bind fun v22=>(bif !v22 then(some (.inr (.inl k))) else(some (.inl ()))))
def ydw (v1:List Te) (v2:List Te) (s:Unit):Option (Int⊕Unit):=some ((.inr ()))
def zwp (v1:List Te) (v2:List Te) (s:Unit):Option (Int⊕Unit):=if v1.length<=9223372036854775806 then zaf (ygf v1 v2) (ydw v1 v2) v1 0 s else none
def ydz (v1:List Te) (v2:List Te) (s:Unit):Lc2:=⟨7,ym8,0,[2,4,5,6],some (zv6 v1 v2 0 s),Int,Unit,zwp v1 v2 s,zoi v1 v2,zpu v1 v2⟩
theorem yra {v1:List Te} {v2:List Te} {s:Unit}:(ydz v1 v2 s).ok tab:=zar (zaa (J:=zv6 v1 v2) (o:=(Sum.elim (zoi v1 v2) (zpu v1 v2))) v1 (B:=fun(k:Int) (x:Te) (s:Unit)=>(.lenA Te.i v1<|.kb (decide (k<(v1.length:Int))) true<|.ob (0<=k)<|.lkX Te.i v1 (k.toNat) x<|.ob (0<=k)<|.lookA Te.i v2 (k.toNat) fun v20=>.callF (qmb x v20) fun(v22:Bool)=>.br (!v22) (.lfA (zu7 v1 v2 (i64.wrap (k+1))) (.inr (.inl k)))<|.lfA (zu7 v1 v2 (i64.wrap (k+1))) (.inl ()):Tree ((Unit)⊕(Int⊕Unit)) _)) (E:=fun(s:Unit)=>(.lenA Te.i v1<|.kb (decide ((v1.length:Int)<(v1.length:Int))) false<|.lfA (zu7 v1 v2 0) (.inr (.inr ())):Tree ((Unit)⊕(Int⊕Unit)) _)) (fun k x s=>by kernel_rfl) (fun d x t s he=>lA<|⟨ltX he,⟨Int.natCast_nonneg _,⟨za7 Te.i he,⟨Int.natCast_nonneg _,kA fun v20=>cF jfw fun v22=>bR (rfl)<|rfl⟩⟩⟩⟩) (ho2 (fun _=>rfl) fun _=>rfl) (fun s=>by kernel_rfl) (fun s=>lA<|⟨ltE _,rfl⟩) (by kernel_rfl) (by kernel_rfl) s)
def yuq (v1:List Te) (v2:List Te):Option Bool:=bif decide ((v1.length:Int)≠(v2.length:Int)) then(some false) else((zwp v1 v2 ()).bind (zbj (fun (v24:Int)=>(some false)) (fun (v25:Unit)=>(some true))))
def qng (v1:List Te) (v2:List Te):Ctr:=⟨qbg,[.imm 7 (v1.map Te.i),.imm 7 (v2.map Te.i)],[],Bool,yuq v1 v2,rB⟩
theorem qw7 {v1:List Te} {v2:List Te}:(qng v1 v2).okF tab:=fun r hr=>⟨za1 qww rfl (.lenA Te.i v1<|.lenA Te.i v2<|.br (decide ((v1.length:Int)≠(v2.length:Int))) (.lfA rB false)<|.lp2 (ydz v1 v2 ()) (fun (v24:Int)=>.lfA rB false) (fun (v25:Unit)=>.lfA rB true):Tree Bool _) (by kernel_rfl) (by kernel_rfl) (lA<|lA<|bR (rfl)<|lQ yra (fun v24=>rfl) (fun v25=>rfl)) hr,rfl,rfl⟩
def ywx (v1:Tr) (v2:Tr):Option Bool:=bif decide (v1.faf≠v2.faf) then(some false) else(bif decide (v1.fad≠v2.fad) then(some false) else((yuq v1.fah v2.fah).bind fun v5=>(bif !v5 then(some false) else(some true))))
def qkq (v1:Tr) (v2:Tr):Ctr:=⟨qcu,[.agg [.I v1.faf,.I v1.fad,.imm 7 (v1.fah.map Te.i)],.agg [.I v2.faf,.I v2.fad,.imm 7 (v2.fah.map Te.i)]],[],Bool,ywx v1 v2,rB⟩
theorem jic {v1:Tr} {v2:Tr}:(qkq v1 v2).okF tab:=fun r hr=>⟨za1 quw rfl (.br (decide (v1.faf≠v2.faf)) (.lfA rB false)<|.br (decide (v1.fad≠v2.fad)) (.lfA rB false)<|.callF (qng v1.fah v2.fah) fun(v5:Bool)=>.br (!v5) (.lfA rB false)<|.lfA rB true:Tree Bool _) (by kernel_rfl) (by kernel_rfl) (bR (rfl)<|bR (rfl)<|cF qw7 fun v5=>bR (rfl)<|rfl) hr,rfl,rfl⟩
def zw0 (v1:List Int) (v2:List Int) (k:Int) (s:Unit):St:=⟨sv 7 [(0,.imm 1 (v1.map (V.int .i64))),(1,.imm 1 (v2.map (V.int .i64))),(3,.I k)],[]⟩
def zm6 (v1:List Int) (v2:List Int):Int->Ex×St:=fun p=>(.ret,⟨sv 7 [(0,.imm 1 (v1.map (V.int .i64))),(1,.imm 1 (v2.map (V.int .i64))),(2,.bool false),(3,.I p),(5,.bool true),(6,.bool true)],[]⟩)
def zo0 (v1:List Int) (v2:List Int):Unit->Ex×St:=fun p=>((.exit 0),⟨sv 7 [(0,.imm 1 (v1.map (V.int .i64))),(1,.imm 1 (v2.map (V.int .i64))),(3,.I (v1.length:Int)),(5,.bool false)],[]⟩)
def zt3 (v1:List Int) (v2:List Int) (k:Int):=zbn (zw0 v1 v2 k) (Sum.elim (zm6 v1 v2) (zo0 v1 v2))
def yb2 (v1:List Int) (v2:List Int) (k:Int) (x:Int) (s:Unit):Option ((Unit)⊕(Int⊕Unit)):=((v2)[k.toNat]?).bind fun v18=>(bif decide (x≠v18) then(some (.inr (.inl k))) else(some (.inl ())))
def ydo (v1:List Int) (v2:List Int) (s:Unit):Option (Int⊕Unit):=some ((.inr ()))
def zux (v1:List Int) (v2:List Int) (s:Unit):Option (Int⊕Unit):=if v1.length<=9223372036854775806 then zaf (yb2 v1 v2) (ydo v1 v2) v1 0 s else none
def yek (v1:List Int) (v2:List Int) (s:Unit):Lc2:=⟨7,ylw,0,[2,4,5,6],some (zw0 v1 v2 0 s),Int,Unit,zux v1 v2 s,zm6 v1 v2,zo0 v1 v2⟩
theorem ynn {v1:List Int} {v2:List Int} {s:Unit}:(yek v1 v2 s).ok tab:=zar (zaa (J:=zw0 v1 v2) (o:=(Sum.elim (zm6 v1 v2) (zo0 v1 v2))) v1 (B:=fun(k:Int) (x:Int) (s:Unit)=>(.lenA (V.int .i64) v1<|.kb (decide (k<(v1.length:Int))) true<|.ob (0<=k)<|.lkX (V.int .i64) v1 (k.toNat) x<|.ob (0<=k)<|.lookA (V.int .i64) v2 (k.toNat) fun v18=>.br (decide (x≠v18)) (.lfA (zt3 v1 v2 (i64.wrap (k+1))) (.inr (.inl k)))<|.lfA (zt3 v1 v2 (i64.wrap (k+1))) (.inl ()):Tree ((Unit)⊕(Int⊕Unit)) _)) (E:=fun(s:Unit)=>(.lenA (V.int .i64) v1<|.kb (decide ((v1.length:Int)<(v1.length:Int))) false<|.lfA (zt3 v1 v2 0) (.inr (.inr ())):Tree ((Unit)⊕(Int⊕Unit)) _)) (fun k x s=>by kernel_rfl) (fun d x t s he=>lA<|⟨ltX he,⟨Int.natCast_nonneg _,⟨za7 (V.int .i64) he,⟨Int.natCast_nonneg _,kA fun v18=>bR (rfl)<|rfl⟩⟩⟩⟩) (ho2 (fun _=>rfl) fun _=>rfl) (fun s=>by kernel_rfl) (fun s=>lA<|⟨ltE _,rfl⟩) (by kernel_rfl) (by kernel_rfl) s)
def yrh (v1:List Int) (v2:List Int):Option Bool:=bif decide ((v1.length:Int)≠(v2.length:Int)) then(some false) else((zux v1 v2 ()).bind (zbj (fun (v21:Int)=>(some false)) (fun (v22:Unit)=>(some true))))
def yt1 (v1:List Int) (v2:List Int):Ctr:=⟨yzk,[.imm 1 (v1.map (V.int .i64)),.imm 1 (v2.map (V.int .i64))],[],Bool,yrh v1 v2,rB⟩
theorem yvy {v1:List Int} {v2:List Int}:(yt1 v1 v2).okF tab:=fun r hr=>⟨za1 jbx rfl (.lenA (V.int .i64) v1<|.lenA (V.int .i64) v2<|.br (decide ((v1.length:Int)≠(v2.length:Int))) (.lfA rB false)<|.lp2 (yek v1 v2 ()) (fun (v21:Int)=>.lfA rB false) (fun (v22:Unit)=>.lfA rB true):Tree Bool _) (by kernel_rfl) (by kernel_rfl) (lA<|lA<|bR (rfl)<|lQ ynn (fun v21=>rfl) (fun v22=>rfl)) hr,rfl,rfl⟩
def ztv (v1:List Bool) (v2:List Bool) (k:Int) (s:Unit):St:=⟨sv 7 [(0,.imm 1 (v1.map V.bool)),(1,.imm 1 (v2.map V.bool)),(3,.I k)],[]⟩
def zma (v1:List Bool) (v2:List Bool):Int->Ex×St:=fun p=>(.ret,⟨sv 7 [(0,.imm 1 (v1.map V.bool)),(1,.imm 1 (v2.map V.bool)),(2,.bool false),(3,.I p),(5,.bool true),(6,.bool true)],[]⟩)
def zm7 (v1:List Bool) (v2:List Bool):Unit->Ex×St:=fun p=>((.exit 0),⟨sv 7 [(0,.imm 1 (v1.map V.bool)),(1,.imm 1 (v2.map V.bool)),(3,.I (v1.length:Int)),(5,.bool false)],[]⟩)
def zwi (v1:List Bool) (v2:List Bool) (k:Int):=zbn (ztv v1 v2 k) (Sum.elim (zma v1 v2) (zm7 v1 v2))
def ydu (v1:List Bool) (v2:List Bool) (k:Int) (x:Bool) (s:Unit):Option ((Unit)⊕(Int⊕Unit)):=((v2)[k.toNat]?).bind fun v18=>(bif true ^^ (x == v18) then(some (.inr (.inl k))) else(some (.inl ())))
def yb9 (v1:List Bool) (v2:List Bool) (s:Unit):Option (Int⊕Unit):=some ((.inr ()))
def zuq (v1:List Bool) (v2:List Bool) (s:Unit):Option (Int⊕Unit):=if v1.length<=9223372036854775806 then zaf (ydu v1 v2) (yb9 v1 v2) v1 0 s else none
def ygj (v1:List Bool) (v2:List Bool) (s:Unit):Lc2:=⟨7,yly,0,[2,4,5,6],some (ztv v1 v2 0 s),Int,Unit,zuq v1 v2 s,zma v1 v2,zm7 v1 v2⟩
theorem yqy {v1:List Bool} {v2:List Bool} {s:Unit}:(ygj v1 v2 s).ok tab:=zar (zaa (J:=ztv v1 v2) (o:=(Sum.elim (zma v1 v2) (zm7 v1 v2))) v1 (B:=fun(k:Int) (x:Bool) (s:Unit)=>(.lenA V.bool v1<|.kb (decide (k<(v1.length:Int))) true<|.ob (0<=k)<|.lkX V.bool v1 (k.toNat) x<|.ob (0<=k)<|.lookA V.bool v2 (k.toNat) fun v18=>.br (true ^^ (x == v18)) (.lfA (zwi v1 v2 (i64.wrap (k+1))) (.inr (.inl k)))<|.lfA (zwi v1 v2 (i64.wrap (k+1))) (.inl ()):Tree ((Unit)⊕(Int⊕Unit)) _)) (E:=fun(s:Unit)=>(.lenA V.bool v1<|.kb (decide ((v1.length:Int)<(v1.length:Int))) false<|.lfA (zwi v1 v2 0) (.inr (.inr ())):Tree ((Unit)⊕(Int⊕Unit)) _)) (fun k x s=>by kernel_rfl) (fun d x t s he=>lA<|⟨ltX he,⟨Int.natCast_nonneg _,⟨za7 V.bool he,⟨Int.natCast_nonneg _,kA fun v18=>bR (rfl)<|rfl⟩⟩⟩⟩) (ho2 (fun _=>rfl) fun _=>rfl) (fun s=>by kernel_rfl) (fun s=>lA<|⟨ltE _,rfl⟩) (by kernel_rfl) (by kernel_rfl) s)
def ylp (v1:List Bool) (v2:List Bool):Option Bool:=bif decide ((v1.length:Int)≠(v2.length:Int)) then(some false) else((zuq v1 v2 ()).bind (zbj (fun (v21:Int)=>(some false)) (fun (v22:Unit)=>(some true))))
def yse (v1:List Bool) (v2:List Bool):Ctr:=⟨yvh,[.imm 1 (v1.map V.bool),.imm 1 (v2.map V.bool)],[],Bool,ylp v1 v2,rB⟩
theorem ytg {v1:List Bool} {v2:List Bool}:(yse v1 v2).okF tab:=fun r hr=>⟨za1 jdy rfl (.lenA V.bool v1<|.lenA V.bool v2<|.br (decide ((v1.length:Int)≠(v2.length:Int))) (.lfA rB false)<|.lp2 (ygj v1 v2 ()) (fun (v21:Int)=>.lfA rB false) (fun (v22:Unit)=>.lfA rB true):Tree Bool _) (by kernel_rfl) (by kernel_rfl) (lA<|lA<|bR (rfl)<|lQ yqy (fun v21=>rfl) (fun v22=>rfl)) hr,rfl,rfl⟩
def ykm (v1:Tk) (v2:Tk):Option Bool:=bif decide (v1.fd≠v2.fd) then(some false) else(bif decide (v1.fe≠v2.fe) then(some false) else(bif decide (v1.fN≠v2.fN) then(some false) else((yrh v1.fb v2.fb).bind fun v6=>(bif !v6 then(some false) else((ylp v1.fc v2.fc).bind fun v8=>(bif !v8 then(some false) else(bif decide (v1.fi≠v2.fi) then(some false) else(some true))))))))
def you (v1:Tk) (v2:Tk):Ctr:=⟨yun,[.agg [.I v1.fd,.I v1.fe,.I v1.fN,.imm 1 (v1.fb.map (V.int .i64)),.imm 1 (v1.fc.map V.bool),.I v1.fi],.agg [.I v2.fd,.I v2.fe,.I v2.fN,.imm 1 (v2.fb.map (V.int .i64)),.imm 1 (v2.fc.map V.bool),.I v2.fi]],[],Bool,ykm v1 v2,rB⟩
theorem ysg {v1:Tk} {v2:Tk}:(you v1 v2).okF tab:=fun r hr=>⟨za1 jag rfl (.br (decide (v1.fd≠v2.fd)) (.lfA rB false)<|.br (decide (v1.fe≠v2.fe)) (.lfA rB false)<|.br (decide (v1.fN≠v2.fN)) (.lfA rB false)<|.callF (yt1 v1.fb v2.fb) fun(v6:Bool)=>.br (!v6) (.lfA rB false)<|.callF (yse v1.fc v2.fc) fun(v8:Bool)=>.br (!v8) (.lfA rB false)<|.br (decide (v1.fi≠v2.fi)) (.lfA rB false)<|.lfA rB true:Tree Bool _) (by kernel_rfl) (by kernel_rfl) (bR (rfl)<|bR (rfl)<|bR (rfl)<|cF yvy fun v6=>bR (rfl)<|cF ytg fun v8=>bR (rfl)<|bR (rfl)<|rfl) hr,rfl,rfl⟩
def qcg (v1:Th) (v2:Th):Option Bool:=bif decide (v1.fp≠v2.fp) then(some false) else(bif decide (v1.fg≠v2.fg) then(some false) else((ykm v1.fa v2.fa).bind fun v5=>(bif !v5 then(some false) else(some true))))
def qno (v1:Th) (v2:Th):Ctr:=⟨qaq,[.agg [.I v1.fp,.I v1.fg,.I v1.fa.fd,.I v1.fa.fe,.I v1.fa.fN,.imm 1 (v1.fa.fb.map (V.int .i64)),.imm 1 (v1.fa.fc.map V.bool),.I v1.fa.fi],.agg [.I v2.fp,.I v2.fg,.I v2.fa.fd,.I v2.fa.fe,.I v2.fa.fN,.imm 1 (v2.fa.fb.map (V.int .i64)),.imm 1 (v2.fa.fc.map V.bool),.I v2.fa.fi]],[],Bool,qcg v1 v2,rB⟩
theorem qwu {v1:Th} {v2:Th}:(qno v1 v2).okF tab:=fun r hr=>⟨za1 jhb rfl (.br (decide (v1.fp≠v2.fp)) (.lfA rB false)<|.br (decide (v1.fg≠v2.fg)) (.lfA rB false)<|.callF (you v1.fa v2.fa) fun(v5:Bool)=>.br (!v5) (.lfA rB false)<|.lfA rB true:Tree Bool _) (by kernel_rfl) (by kernel_rfl) (bR (rfl)<|bR (rfl)<|cF ysg fun v5=>bR (rfl)<|rfl) hr,rfl,rfl⟩
def zx2 (v1:List Th) (v2:List Th) (k:Int) (s:Unit):St:=⟨sv 7 [(0,.imm 8 (v1.map Th.i)),(1,.imm 8 (v2.map Th.i)),(3,.I k)],[]⟩
def zo1 (v1:List Th) (v2:List Th):Int->Ex×St:=fun p=>(.ret,⟨sv 7 [(0,.imm 8 (v1.map Th.i)),(1,.imm 8 (v2.map Th.i)),(2,.bool false),(3,.I p),(5,.bool true),(6,.bool true)],[]⟩)
def znq (v1:List Th) (v2:List Th):Unit->Ex×St:=fun p=>((.exit 0),⟨sv 7 [(0,.imm 8 (v1.map Th.i)),(1,.imm 8 (v2.map Th.i)),(3,.I (v1.length:Int)),(5,.bool false)],[]⟩)
def zsm (v1:List Th) (v2:List Th) (k:Int):=zbn (zx2 v1 v2 k) (Sum.elim (zo1 v1 v2) (znq v1 v2))
def yfc (v1:List Th) (v2:List Th) (k:Int) (x:Th) (s:Unit):Option ((Unit)⊕(Int⊕Unit)):=((v2)[k.toNat]?).bind fun v20=>((qcg x v20).bind fun v22=>(bif !v22 then(some (.inr (.inl k))) else(some (.inl ()))))
def ydt (v1:List Th) (v2:List Th) (s:Unit):Option (Int⊕Unit):=some ((.inr ()))
def zv1 (v1:List Th) (v2:List Th) (s:Unit):Option (Int⊕Unit):=if v1.length<=9223372036854775806 then zaf (yfc v1 v2) (ydt v1 v2) v1 0 s else none
def yff (v1:List Th) (v2:List Th) (s:Unit):Lc2:=⟨7,yme,0,[2,4,5,6],some (zx2 v1 v2 0 s),Int,Unit,zv1 v1 v2 s,zo1 v1 v2,znq v1 v2⟩
theorem yoc {v1:List Th} {v2:List Th} {s:Unit}:(yff v1 v2 s).ok tab:=zar (zaa (J:=zx2 v1 v2) (o:=(Sum.elim (zo1 v1 v2) (znq v1 v2))) v1 (B:=fun(k:Int) (x:Th) (s:Unit)=>(.lenA Th.i v1<|.kb (decide (k<(v1.length:Int))) true<|.ob (0<=k)<|.lkX Th.i v1 (k.toNat) x<|.ob (0<=k)<|.lookA Th.i v2 (k.toNat) fun v20=>.callF (qno x v20) fun(v22:Bool)=>.br (!v22) (.lfA (zsm v1 v2 (i64.wrap (k+1))) (.inr (.inl k)))<|.lfA (zsm v1 v2 (i64.wrap (k+1))) (.inl ()):Tree ((Unit)⊕(Int⊕Unit)) _)) (E:=fun(s:Unit)=>(.lenA Th.i v1<|.kb (decide ((v1.length:Int)<(v1.length:Int))) false<|.lfA (zsm v1 v2 0) (.inr (.inr ())):Tree ((Unit)⊕(Int⊕Unit)) _)) (fun k x s=>by kernel_rfl) (fun d x t s he=>lA<|⟨ltX he,⟨Int.natCast_nonneg _,⟨za7 Th.i he,⟨Int.natCast_nonneg _,kA fun v20=>cF qwu fun v22=>bR (rfl)<|rfl⟩⟩⟩⟩) (ho2 (fun _=>rfl) fun _=>rfl) (fun s=>by kernel_rfl) (fun s=>lA<|⟨ltE _,rfl⟩) (by kernel_rfl) (by kernel_rfl) s)
def yte (v1:List Th) (v2:List Th):Option Bool:=bif decide ((v1.length:Int)≠(v2.length:Int)) then(some false) else((zv1 v1 v2 ()).bind (zbj (fun (v24:Int)=>(some false)) (fun (v25:Unit)=>(some true))))
def qjr (v1:List Th) (v2:List Th):Ctr:=⟨qc0,[.imm 8 (v1.map Th.i),.imm 8 (v2.map Th.i)],[],Bool,yte v1 v2,rB⟩
theorem qol {v1:List Th} {v2:List Th}:(qjr v1 v2).okF tab:=fun r hr=>⟨za1 qyh rfl (.lenA Th.i v1<|.lenA Th.i v2<|.br (decide ((v1.length:Int)≠(v2.length:Int))) (.lfA rB false)<|.lp2 (yff v1 v2 ()) (fun (v24:Int)=>.lfA rB false) (fun (v25:Unit)=>.lfA rB true):Tree Bool _) (by kernel_rfl) (by kernel_rfl) (lA<|lA<|bR (rfl)<|lQ yoc (fun v24=>rfl) (fun v25=>rfl)) hr,rfl,rfl⟩
def yqr (v1:Td) (v2:Td):Option Bool:=bif decide (v1.fd≠v2.fd) then(some false) else(bif decide (v1.fae≠v2.fae) then(some false) else(bif decide (v1.fe≠v2.fe) then(some false) else(bif decide (v1.fN≠v2.fN) then(some false) else((yrh v1.fb v2.fb).bind fun v7=>(bif !v7 then(some false) else((ylp v1.fc v2.fc).bind fun v9=>(bif !v9 then(some false) else(some true))))))))
def yul (v1:Td) (v2:Td):Ctr:=⟨qci,[.agg [.I v1.fd,.I v1.fae,.I v1.fe,.I v1.fN,.imm 1 (v1.fb.map (V.int .i64)),.imm 1 (v1.fc.map V.bool)],.agg [.I v2.fd,.I v2.fae,.I v2.fe,.I v2.fN,.imm 1 (v2.fb.map (V.int .i64)),.imm 1 (v2.fc.map V.bool)]],[],Bool,yqr v1 v2,rB⟩
theorem yuz {v1:Td} {v2:Td}:(yul v1 v2).okF tab:=fun r hr=>⟨za1 jb0 rfl (.br (decide (v1.fd≠v2.fd)) (.lfA rB false)<|.br (decide (v1.fae≠v2.fae)) (.lfA rB false)<|.br (decide (v1.fe≠v2.fe)) (.lfA rB false)<|.br (decide (v1.fN≠v2.fN)) (.lfA rB false)<|.callF (yt1 v1.fb v2.fb) fun(v7:Bool)=>.br (!v7) (.lfA rB false)<|.callF (yse v1.fc v2.fc) fun(v9:Bool)=>.br (!v9) (.lfA rB false)<|.lfA rB true:Tree Bool _) (by kernel_rfl) (by kernel_rfl) (bR (rfl)<|bR (rfl)<|bR (rfl)<|bR (rfl)<|cF yvy fun v7=>bR (rfl)<|cF ytg fun v9=>bR (rfl)<|rfl) hr,rfl,rfl⟩
def zu2 (v1:List Td) (v2:List Td) (k:Int) (s:Unit):St:=⟨sv 7 [(0,.imm 6 (v1.map Td.i)),(1,.imm 6 (v2.map Td.i)),(3,.I k)],[]⟩
def zlw (v1:List Td) (v2:List Td):Int->Ex×St:=fun p=>(.ret,⟨sv 7 [(0,.imm 6 (v1.map Td.i)),(1,.imm 6 (v2.map Td.i)),(2,.bool false),(3,.I p),(5,.bool true),(6,.bool true)],[]⟩)
def zoz (v1:List Td) (v2:List Td):Unit->Ex×St:=fun p=>((.exit 0),⟨sv 7 [(0,.imm 6 (v1.map Td.i)),(1,.imm 6 (v2.map Td.i)),(3,.I (v1.length:Int)),(5,.bool false)],[]⟩)
def zwo (v1:List Td) (v2:List Td) (k:Int):=zbn (zu2 v1 v2 k) (Sum.elim (zlw v1 v2) (zoz v1 v2))
def yb8 (v1:List Td) (v2:List Td) (k:Int) (x:Td) (s:Unit):Option ((Unit)⊕(Int⊕Unit)):=((v2)[k.toNat]?).bind fun v20=>((yqr x v20).bind fun v22=>(bif !v22 then(some (.inr (.inl k))) else(some (.inl ()))))
def yas (v1:List Td) (v2:List Td) (s:Unit):Option (Int⊕Unit):=some ((.inr ()))
def zvk (v1:List Td) (v2:List Td) (s:Unit):Option (Int⊕Unit):=if v1.length<=9223372036854775806 then zaf (yb8 v1 v2) (yas v1 v2) v1 0 s else none
def ya7 (v1:List Td) (v2:List Td) (s:Unit):Lc2:=⟨7,yla,0,[2,4,5,6],some (zu2 v1 v2 0 s),Int,Unit,zvk v1 v2 s,zlw v1 v2,zoz v1 v2⟩
theorem yp5 {v1:List Td} {v2:List Td} {s:Unit}:(ya7 v1 v2 s).ok tab:=zar (zaa (J:=zu2 v1 v2) (o:=(Sum.elim (zlw v1 v2) (zoz v1 v2))) v1 (B:=fun(k:Int) (x:Td) (s:Unit)=>(.lenA Td.i v1<|.kb (decide (k<(v1.length:Int))) true<|.ob (0<=k)<|.lkX Td.i v1 (k.toNat) x<|.ob (0<=k)<|.lookA Td.i v2 (k.toNat) fun v20=>.callF (yul x v20) fun(v22:Bool)=>.br (!v22) (.lfA (zwo v1 v2 (i64.wrap (k+1))) (.inr (.inl k)))<|.lfA (zwo v1 v2 (i64.wrap (k+1))) (.inl ()):Tree ((Unit)⊕(Int⊕Unit)) _)) (E:=fun(s:Unit)=>(.lenA Td.i v1<|.kb (decide ((v1.length:Int)<(v1.length:Int))) false<|.lfA (zwo v1 v2 0) (.inr (.inr ())):Tree ((Unit)⊕(Int⊕Unit)) _)) (fun k x s=>by kernel_rfl) (fun d x t s he=>lA<|⟨ltX he,⟨Int.natCast_nonneg _,⟨za7 Td.i he,⟨Int.natCast_nonneg _,kA fun v20=>cF yuz fun v22=>bR (rfl)<|rfl⟩⟩⟩⟩) (ho2 (fun _=>rfl) fun _=>rfl) (fun s=>by kernel_rfl) (fun s=>lA<|⟨ltE _,rfl⟩) (by kernel_rfl) (by kernel_rfl) s)
def yu3 (v1:List Td) (v2:List Td):Option Bool:=bif decide ((v1.length:Int)≠(v2.length:Int)) then(some false) else((zvk v1 v2 ()).bind (zbj (fun (v24:Int)=>(some false)) (fun (v25:Unit)=>(some true))))
def qjj (v1:List Td) (v2:List Td):Ctr:=⟨yv2,[.imm 6 (v1.map Td.i),.imm 6 (v2.map Td.i)],[],Bool,yu3 v1 v2,rB⟩
theorem qmp {v1:List Td} {v2:List Td}:(qjj v1 v2).okF tab:=fun r hr=>⟨za1 qs7 rfl (.lenA Td.i v1<|.lenA Td.i v2<|.br (decide ((v1.length:Int)≠(v2.length:Int))) (.lfA rB false)<|.lp2 (ya7 v1 v2 ()) (fun (v24:Int)=>.lfA rB false) (fun (v25:Unit)=>.lfA rB true):Tree Bool _) (by kernel_rfl) (by kernel_rfl) (lA<|lA<|bR (rfl)<|lQ yp5 (fun v24=>rfl) (fun v25=>rfl)) hr,rfl,rfl⟩
def qc5 (v1:Tb) (v2:Tb):Option Bool:=bif decide (v1.fk≠v2.fk) then(some false) else(bif decide (v1.fai≠v2.fai) then(some false) else(bif decide (v1.faj≠v2.faj) then(some false) else(bif decide (v1.fg≠v2.fg) then(some false) else((ykm v1.fa v2.fa).bind fun v7=>(bif !v7 then(some false) else((yte v1.fo v2.fo).bind fun v9=>(bif !v9 then(some false) else((ylp v1.fu v2.fu).bind fun v11=>(bif !v11 then(some false) else((yu3 v1.fab v2.fab).bind fun v13=>(bif !v13 then(some false) else(some true))))))))))))
def qmq (v1:Tb) (v2:Tb):Ctr:=⟨yze,[.agg [.I v1.fk,.I v1.fai,.I v1.faj,.I v1.fg,.I v1.fa.fd,.I v1.fa.fe,.I v1.fa.fN,.imm 1 (v1.fa.fb.map (V.int .i64)),.imm 1 (v1.fa.fc.map V.bool),.I v1.fa.fi,.imm 8 (v1.fo.map Th.i),.imm 1 (v1.fu.map V.bool),.imm 6 (v1.fab.map Td.i)],.agg [.I v2.fk,.I v2.fai,.I v2.faj,.I v2.fg,.I v2.fa.fd,.I v2.fa.fe,.I v2.fa.fN,.imm 1 (v2.fa.fb.map (V.int .i64)),.imm 1 (v2.fa.fc.map V.bool),.I v2.fa.fi,.imm 8 (v2.fo.map Th.i),.imm 1 (v2.fu.map V.bool),.imm 6 (v2.fab.map Td.i)]],[],Bool,qc5 v1 v2,rB⟩
theorem jad {v1:Tb} {v2:Tb}:(qmq v1 v2).okF tab:=fun r hr=>⟨za1 qtt rfl (.br (decide (v1.fk≠v2.fk)) (.lfA rB false)<|.br (decide (v1.fai≠v2.fai)) (.lfA rB false)<|.br (decide (v1.faj≠v2.faj)) (.lfA rB false)<|.br (decide (v1.fg≠v2.fg)) (.lfA rB false)<|.callF (you v1.fa v2.fa) fun(v7:Bool)=>.br (!v7) (.lfA rB false)<|.callF (qjr v1.fo v2.fo) fun(v9:Bool)=>.br (!v9) (.lfA rB false)<|.callF (yse v1.fu v2.fu) fun(v11:Bool)=>.br (!v11) (.lfA rB false)<|.callF (qjj v1.fab v2.fab) fun(v13:Bool)=>.br (!v13) (.lfA rB false)<|.lfA rB true:Tree Bool _) (by kernel_rfl) (by kernel_rfl) (bR (rfl)<|bR (rfl)<|bR (rfl)<|bR (rfl)<|cF ysg fun v7=>bR (rfl)<|cF qol fun v9=>bR (rfl)<|cF ytg fun v11=>bR (rfl)<|cF qmp fun v13=>bR (rfl)<|rfl) hr,rfl,rfl⟩
def zsf (v1:List Tb) (v2:List Tb) (k:Int) (s:Unit):St:=⟨sv 7 [(0,.imm 13 (v1.map Tb.i)),(1,.imm 13 (v2.map Tb.i)),(3,.I k)],[]⟩
def zls (v1:List Tb) (v2:List Tb):Int->Ex×St:=fun p=>(.ret,⟨sv 7 [(0,.imm 13 (v1.map Tb.i)),(1,.imm 13 (v2.map Tb.i)),(2,.bool false),(3,.I p),(5,.bool true),(6,.bool true)],[]⟩)
def zpl (v1:List Tb) (v2:List Tb):Unit->Ex×St:=fun p=>((.exit 0),⟨sv 7 [(0,.imm 13 (v1.map Tb.i)),(1,.imm 13 (v2.map Tb.i)),(3,.I (v1.length:Int)),(5,.bool false)],[]⟩)
def zvj (v1:List Tb) (v2:List Tb) (k:Int):=zbn (zsf v1 v2 k) (Sum.elim (zls v1 v2) (zpl v1 v2))
def yem (v1:List Tb) (v2:List Tb) (k:Int) (x:Tb) (s:Unit):Option ((Unit)⊕(Int⊕Unit)):=((v2)[k.toNat]?).bind fun v20=>((qc5 x v20).bind fun v22=>(bif !v22 then(some (.inr (.inl k))) else(some (.inl ()))))
def yae (v1:List Tb) (v2:List Tb) (s:Unit):Option (Int⊕Unit):=some ((.inr ()))
def zup (v1:List Tb) (v2:List Tb) (s:Unit):Option (Int⊕Unit):=if v1.length<=9223372036854775806 then zaf (yem v1 v2) (yae v1 v2) v1 0 s else none
def yc4 (v1:List Tb) (v2:List Tb) (s:Unit):Lc2:=⟨7,ylg,0,[2,4,5,6],some (zsf v1 v2 0 s),Int,Unit,zup v1 v2 s,zls v1 v2,zpl v1 v2⟩
theorem ynz {v1:List Tb} {v2:List Tb} {s:Unit}:(yc4 v1 v2 s).ok tab:=zar (zaa (J:=zsf v1 v2) (o:=(Sum.elim (zls v1 v2) (zpl v1 v2))) v1 (B:=fun(k:Int) (x:Tb) (s:Unit)=>(.lenA Tb.i v1<|.kb (decide (k<(v1.length:Int))) true<|.ob (0<=k)<|.lkX Tb.i v1 (k.toNat) x<|.ob (0<=k)<|.lookA Tb.i v2 (k.toNat) fun v20=>.callF (qmq x v20) fun(v22:Bool)=>.br (!v22) (.lfA (zvj v1 v2 (i64.wrap (k+1))) (.inr (.inl k)))<|.lfA (zvj v1 v2 (i64.wrap (k+1))) (.inl ()):Tree ((Unit)⊕(Int⊕Unit)) _)) (E:=fun(s:Unit)=>(.lenA Tb.i v1<|.kb (decide ((v1.length:Int)<(v1.length:Int))) false<|.lfA (zvj v1 v2 0) (.inr (.inr ())):Tree ((Unit)⊕(Int⊕Unit)) _)) (fun k x s=>by kernel_rfl) (fun d x t s he=>lA<|⟨ltX he,⟨Int.natCast_nonneg _,⟨za7 Tb.i he,⟨Int.natCast_nonneg _,kA fun v20=>cF jad fun v22=>bR (rfl)<|rfl⟩⟩⟩⟩) (ho2 (fun _=>rfl) fun _=>rfl) (fun s=>by kernel_rfl) (fun s=>lA<|⟨ltE _,rfl⟩) (by kernel_rfl) (by kernel_rfl) s)
def ywk (v1:List Tb) (v2:List Tb):Option Bool:=bif decide ((v1.length:Int)≠(v2.length:Int)) then(some false) else((zup v1 v2 ()).bind (zbj (fun (v24:Int)=>(some false)) (fun (v25:Unit)=>(some true))))
def qm4 (v1:List Tb) (v2:List Tb):Ctr:=⟨qbd,[.imm 13 (v1.map Tb.i),.imm 13 (v2.map Tb.i)],[],Bool,ywk v1 v2,rB⟩
theorem qus {v1:List Tb} {v2:List Tb}:(qm4 v1 v2).okF tab:=fun r hr=>⟨za1 jar rfl (.lenA Tb.i v1<|.lenA Tb.i v2<|.br (decide ((v1.length:Int)≠(v2.length:Int))) (.lfA rB false)<|.lp2 (yc4 v1 v2 ()) (fun (v24:Int)=>.lfA rB false) (fun (v25:Unit)=>.lfA rB true):Tree Bool _) (by kernel_rfl) (by kernel_rfl) (lA<|lA<|bR (rfl)<|lQ ynz (fun v24=>rfl) (fun v25=>rfl)) hr,rfl,rfl⟩
def yvx (v1:Tn) (v2:Tn):Option Bool:=bif decide (v1.fw≠v2.fw) then(some false) else((ywk v1.fj v2.fj).bind fun v4=>(bif !v4 then(some false) else(some true)))
def qkm (v1:Tn) (v2:Tn):Ctr:=⟨qck,[.agg [.I v1.fw,.imm 13 (v1.fj.map Tb.i)],.agg [.I v2.fw,.imm 13 (v2.fj.map Tb.i)]],[],Bool,yvx v1 v2,rB⟩
theorem jfl {v1:Tn} {v2:Tn}:(qkm v1 v2).okF tab:=fun r hr=>⟨za1 jhn rfl (.br (decide (v1.fw≠v2.fw)) (.lfA rB false)<|.callF (qm4 v1.fj v2.fj) fun(v4:Bool)=>.br (!v4) (.lfA rB false)<|.lfA rB true:Tree Bool _) (by kernel_rfl) (by kernel_rfl) (bR (rfl)<|cF qus fun v4=>bR (rfl)<|rfl) hr,rfl,rfl⟩
def ysv (v1:Ta) (v2:Ta):Option Bool:=bif decide (v1.fk≠v2.fk) then(some false) else(bif decide (v1.fr≠v2.fr) then(some false) else(bif decide (v1.fg≠v2.fg) then(some false) else((ykm v1.fa v2.fa).bind fun v6=>(bif !v6 then(some false) else(some true)))))
def qe6 (v1:Ta) (v2:Ta):Ctr:=⟨yv4,[.agg [.I v1.fk,.I v1.fr,.I v1.fg,.I v1.fa.fd,.I v1.fa.fe,.I v1.fa.fN,.imm 1 (v1.fa.fb.map (V.int .i64)),.imm 1 (v1.fa.fc.map V.bool),.I v1.fa.fi],.agg [.I v2.fk,.I v2.fr,.I v2.fg,.I v2.fa.fd,.I v2.fa.fe,.I v2.fa.fN,.imm 1 (v2.fa.fb.map (V.int .i64)),.imm 1 (v2.fa.fc.map V.bool),.I v2.fa.fi]],[],Bool,ysv v1 v2,rB⟩
theorem qo1 {v1:Ta} {v2:Ta}:(qe6 v1 v2).okF tab:=fun r hr=>⟨za1 jao rfl (.br (decide (v1.fk≠v2.fk)) (.lfA rB false)<|.br (decide (v1.fr≠v2.fr)) (.lfA rB false)<|.br (decide (v1.fg≠v2.fg)) (.lfA rB false)<|.callF (you v1.fa v2.fa) fun(v6:Bool)=>.br (!v6) (.lfA rB false)<|.lfA rB true:Tree Bool _) (by kernel_rfl) (by kernel_rfl) (bR (rfl)<|bR (rfl)<|bR (rfl)<|cF ysg fun v6=>bR (rfl)<|rfl) hr,rfl,rfl⟩
def ztw (v1:List Ta) (v2:List Ta) (k:Int) (s:Unit):St:=⟨sv 7 [(0,.imm 9 (v1.map Ta.i)),(1,.imm 9 (v2.map Ta.i)),(3,.I k)],[]⟩
def zl8 (v1:List Ta) (v2:List Ta):Int->Ex×St:=fun p=>(.ret,⟨sv 7 [(0,.imm 9 (v1.map Ta.i)),(1,.imm 9 (v2.map Ta.i)),(2,.bool false),(3,.I p),(5,.bool true),(6,.bool true)],[]⟩)
def zm3 (v1:List Ta) (v2:List Ta):Unit->Ex×St:=fun p=>((.exit 0),⟨sv 7 [(0,.imm 9 (v1.map Ta.i)),(1,.imm 9 (v2.map Ta.i)),(3,.I (v1.length:Int)),(5,.bool false)],[]⟩)
def zv0 (v1:List Ta) (v2:List Ta) (k:Int):=zbn (ztw v1 v2 k) (Sum.elim (zl8 v1 v2) (zm3 v1 v2))
def yak (v1:List Ta) (v2:List Ta) (k:Int) (x:Ta) (s:Unit):Option ((Unit)⊕(Int⊕Unit)):=((v2)[k.toNat]?).bind fun v20=>((ysv x v20).bind fun v22=>(bif !v22 then(some (.inr (.inl k))) else(some (.inl ()))))
def yd7 (v1:List Ta) (v2:List Ta) (s:Unit):Option (Int⊕Unit):=some ((.inr ()))
def zvn (v1:List Ta) (v2:List Ta) (s:Unit):Option (Int⊕Unit):=if v1.length<=9223372036854775806 then zaf (yak v1 v2) (yd7 v1 v2) v1 0 s else none
def yai (v1:List Ta) (v2:List Ta) (s:Unit):Lc2:=⟨7,yl2,0,[2,4,5,6],some (ztw v1 v2 0 s),Int,Unit,zvn v1 v2 s,zl8 v1 v2,zm3 v1 v2⟩
theorem yob {v1:List Ta} {v2:List Ta} {s:Unit}:(yai v1 v2 s).ok tab:=zar (zaa (J:=ztw v1 v2) (o:=(Sum.elim (zl8 v1 v2) (zm3 v1 v2))) v1 (B:=fun(k:Int) (x:Ta) (s:Unit)=>(.lenA Ta.i v1<|.kb (decide (k<(v1.length:Int))) true<|.ob (0<=k)<|.lkX Ta.i v1 (k.toNat) x<|.ob (0<=k)<|.lookA Ta.i v2 (k.toNat) fun v20=>.callF (qe6 x v20) fun(v22:Bool)=>.br (!v22) (.lfA (zv0 v1 v2 (i64.wrap (k+1))) (.inr (.inl k)))<|.lfA (zv0 v1 v2 (i64.wrap (k+1))) (.inl ()):Tree ((Unit)⊕(Int⊕Unit)) _)) (E:=fun(s:Unit)=>(.lenA Ta.i v1<|.kb (decide ((v1.length:Int)<(v1.length:Int))) false<|.lfA (zv0 v1 v2 0) (.inr (.inr ())):Tree ((Unit)⊕(Int⊕Unit)) _)) (fun k x s=>by kernel_rfl) (fun d x t s he=>lA<|⟨ltX he,⟨Int.natCast_nonneg _,⟨za7 Ta.i he,⟨Int.natCast_nonneg _,kA fun v20=>cF qo1 fun v22=>bR (rfl)<|rfl⟩⟩⟩⟩) (ho2 (fun _=>rfl) fun _=>rfl) (fun s=>by kernel_rfl) (fun s=>lA<|⟨ltE _,rfl⟩) (by kernel_rfl) (by kernel_rfl) s)
def yyc (v1:List Ta) (v2:List Ta):Option Bool:=bif decide ((v1.length:Int)≠(v2.length:Int)) then(some false) else((zvn v1 v2 ()).bind (zbj (fun (v24:Int)=>(some false)) (fun (v25:Unit)=>(some true))))
def qlc (v1:List Ta) (v2:List Ta):Ctr:=⟨ywh,[.imm 9 (v1.map Ta.i),.imm 9 (v2.map Ta.i)],[],Bool,yyc v1 v2,rB⟩
theorem jjl {v1:List Ta} {v2:List Ta}:(qlc v1 v2).okF tab:=fun r hr=>⟨za1 jiv rfl (.lenA Ta.i v1<|.lenA Ta.i v2<|.br (decide ((v1.length:Int)≠(v2.length:Int))) (.lfA rB false)<|.lp2 (yai v1 v2 ()) (fun (v24:Int)=>.lfA rB false) (fun (v25:Unit)=>.lfA rB true):Tree Bool _) (by kernel_rfl) (by kernel_rfl) (lA<|lA<|bR (rfl)<|lQ yob (fun v24=>rfl) (fun v25=>rfl)) hr,rfl,rfl⟩
def yz0 (v1:Tc) (v2:Tc):Option Bool:=(yyc v1.fac v2.fac).bind fun v3=>(bif !v3 then(some false) else(bif true ^^ (v1.faw == v2.faw) then(some false) else((ysv v1.ff v2.ff).bind fun v6=>(bif !v6 then(some false) else(bif decide (v1.fag≠v2.fag) then(some false) else(bif decide (v1.fay≠v2.fay) then(some false) else(bif decide (v1.faz≠v2.faz) then(some false) else(bif decide (v1.fw≠v2.fw) then(some false) else(bif decide (v1.faf≠v2.faf) then(some false) else(bif decide (v1.fad≠v2.fad) then(some false) else(some true)))))))))))
def qmi (v1:Tc) (v2:Tc):Ctr:=⟨qax,[.agg [.imm 9 (v1.fac.map Ta.i),.bool v1.faw,.I v1.ff.fk,.I v1.ff.fr,.I v1.ff.fg,.I v1.ff.fa.fd,.I v1.ff.fa.fe,.I v1.ff.fa.fN,.imm 1 (v1.ff.fa.fb.map (V.int .i64)),.imm 1 (v1.ff.fa.fc.map V.bool),.I v1.ff.fa.fi,.I v1.fag,.I v1.fay,.I v1.faz,.I v1.fw,.I v1.faf,.I v1.fad],.agg [.imm 9 (v2.fac.map Ta.i),.bool v2.faw,.I v2.ff.fk,.I v2.ff.fr,.I v2.ff.fg,.I v2.ff.fa.fd,.I v2.ff.fa.fe,.I v2.ff.fa.fN,.imm 1 (v2.ff.fa.fb.map (V.int .i64)),.imm 1 (v2.ff.fa.fc.map V.bool),.I v2.ff.fa.fi,.I v2.fag,.I v2.fay,.I v2.faz,.I v2.fw,.I v2.faf,.I v2.fad]],[],Bool,yz0 v1 v2,rB⟩
theorem jgl {v1:Tc} {v2:Tc}:(qmi v1 v2).okF tab:=fun r hr=>⟨za1 jhy rfl (.callF (qlc v1.fac v2.fac) fun(v3:Bool)=>.br (!v3) (.lfA rB false)<|.br (true ^^ (v1.faw == v2.faw)) (.lfA rB false)<|.callF (qe6 v1.ff v2.ff) fun(v6:Bool)=>.br (!v6) (.lfA rB false)<|.br (decide (v1.fag≠v2.fag)) (.lfA rB false)<|.br (decide (v1.fay≠v2.fay)) (.lfA rB false)<|.br (decide (v1.faz≠v2.faz)) (.lfA rB false)<|.br (decide (v1.fw≠v2.fw)) (.lfA rB false)<|.br (decide (v1.faf≠v2.faf)) (.lfA rB false)<|.br (decide (v1.fad≠v2.fad)) (.lfA rB false)<|.lfA rB true:Tree Bool _) (by kernel_rfl) (by kernel_rfl) (cF jjl fun v3=>bR (rfl)<|bR (rfl)<|cF qo1 fun v6=>bR (rfl)<|bR (rfl)<|bR (rfl)<|bR (rfl)<|bR (rfl)<|bR (rfl)<|bR (rfl)<|rfl) hr,rfl,rfl⟩
def zth (v1:List Tc) (v2:List Tc) (k:Int) (s:Unit):St:=⟨sv 7 [(0,.imm 17 (v1.map Tc.i)),(1,.imm 17 (v2.map Tc.i)),(3,.I k)],[]⟩
def zm0 (v1:List Tc) (v2:List Tc):Int->Ex×St:=fun p=>(.ret,⟨sv 7 [(0,.imm 17 (v1.map Tc.i)),(1,.imm 17 (v2.map Tc.i)),(2,.bool false),(3,.I p),(5,.bool true),(6,.bool true)],[]⟩)
def znl (v1:List Tc) (v2:List Tc):Unit->Ex×St:=fun p=>((.exit 0),⟨sv 7 [(0,.imm 17 (v1.map Tc.i)),(1,.imm 17 (v2.map Tc.i)),(3,.I (v1.length:Int)),(5,.bool false)],[]⟩)
def zwa (v1:List Tc) (v2:List Tc) (k:Int):=zbn (zth v1 v2 k) (Sum.elim (zm0 v1 v2) (znl v1 v2))
def yd5 (v1:List Tc) (v2:List Tc) (k:Int) (x:Tc) (s:Unit):Option ((Unit)⊕(Int⊕Unit)):=((v2)[k.toNat]?).bind fun v20=>((yz0 x v20).bind fun v22=>(bif !v22 then(some (.inr (.inl k))) else(some (.inl ()))))
def yao (v1:List Tc) (v2:List Tc) (s:Unit):Option (Int⊕Unit):=some ((.inr ()))
def zw5 (v1:List Tc) (v2:List Tc) (s:Unit):Option (Int⊕Unit):=if v1.length<=9223372036854775806 then zaf (yd5 v1 v2) (yao v1 v2) v1 0 s else none
def yf0 (v1:List Tc) (v2:List Tc) (s:Unit):Lc2:=⟨7,ym0,0,[2,4,5,6],some (zth v1 v2 0 s),Int,Unit,zw5 v1 v2 s,zm0 v1 v2,znl v1 v2⟩
theorem yqt {v1:List Tc} {v2:List Tc} {s:Unit}:(yf0 v1 v2 s).ok tab:=zar (zaa (J:=zth v1 v2) (o:=(Sum.elim (zm0 v1 v2) (znl v1 v2))) v1 (B:=fun(k:Int) (x:Tc) (s:Unit)=>(.lenA Tc.i v1<|.kb (decide (k<(v1.length:Int))) true<|.ob (0<=k)<|.lkX Tc.i v1 (k.toNat) x<|.ob (0<=k)<|.lookA Tc.i v2 (k.toNat) fun v20=>.callF (qmi x v20) fun(v22:Bool)=>.br (!v22) (.lfA (zwa v1 v2 (i64.wrap (k+1))) (.inr (.inl k)))<|.lfA (zwa v1 v2 (i64.wrap (k+1))) (.inl ()):Tree ((Unit)⊕(Int⊕Unit)) _)) (E:=fun(s:Unit)=>(.lenA Tc.i v1<|.kb (decide ((v1.length:Int)<(v1.length:Int))) false<|.lfA (zwa v1 v2 0) (.inr (.inr ())):Tree ((Unit)⊕(Int⊕Unit)) _)) (fun k x s=>by kernel_rfl) (fun d x t s he=>lA<|⟨ltX he,⟨Int.natCast_nonneg _,⟨za7 Tc.i he,⟨Int.natCast_nonneg _,kA fun v20=>cF jgl fun v22=>bR (rfl)<|rfl⟩⟩⟩⟩) (ho2 (fun _=>rfl) fun _=>rfl) (fun s=>by kernel_rfl) (fun s=>lA<|⟨ltE _,rfl⟩) (by kernel_rfl) (by kernel_rfl) s)
def yzy (v1:List Tc) (v2:List Tc):Option Bool:=bif decide ((v1.length:Int)≠(v2.length:Int)) then(some false) else((zw5 v1 v2 ()).bind (zbj (fun (v24:Int)=>(some false)) (fun (v25:Unit)=>(some true))))
def qlb (v1:List Tc) (v2:List Tc):Ctr:=⟨yxw,[.imm 17 (v1.map Tc.i),.imm 17 (v2.map Tc.i)],[],Bool,yzy v1 v2,rB⟩
theorem qxi {v1:List Tc} {v2:List Tc}:(qlb v1 v2).okF tab:=fun r hr=>⟨za1 qpc rfl (.lenA Tc.i v1<|.lenA Tc.i v2<|.br (decide ((v1.length:Int)≠(v2.length:Int))) (.lfA rB false)<|.lp2 (yf0 v1 v2 ()) (fun (v24:Int)=>.lfA rB false) (fun (v25:Unit)=>.lfA rB true):Tree Bool _) (by kernel_rfl) (by kernel_rfl) (lA<|lA<|bR (rfl)<|lQ yqt (fun v24=>rfl) (fun v25=>rfl)) hr,rfl,rfl⟩
def yy9 (v1:To) (v2:To):Option Bool:=bif decide (v1.fat≠v2.fat) then(some false) else((ywx v1.ft v2.ft).bind fun v4=>(bif !v4 then(some false) else((yvx v1.fq v2.fq).bind fun v6=>(bif !v6 then(some false) else((yzy v1.faa v2.faa).bind fun v8=>(bif !v8 then(some false) else(bif decide (v1.far≠v2.far) then(some false) else(bif decide (v1.fau≠v2.fau) then(some false) else(bif decide (v1.fas≠v2.fas) then(some false) else(bif decide (v1.fav≠v2.fav) then(some false) else(some true)))))))))))
def qnf (v1:To) (v2:To):Ctr:=⟨yuw,[.agg [.I v1.fat,.I v1.ft.faf,.I v1.ft.fad,.imm 7 (v1.ft.fah.map Te.i),.I v1.fq.fw,.imm 13 (v1.fq.fj.map Tb.i),.imm 17 (v1.faa.map Tc.i),.I v1.far,.I v1.fau,.I v1.fas,.I v1.fav],.agg [.I v2.fat,.I v2.ft.faf,.I v2.ft.fad,.imm 7 (v2.ft.fah.map Te.i),.I v2.fq.fw,.imm 13 (v2.fq.fj.map Tb.i),.imm 17 (v2.faa.map Tc.i),.I v2.far,.I v2.fau,.I v2.fas,.I v2.fav]],[],Bool,yy9 v1 v2,rB⟩
theorem jbz {v1:To} {v2:To}:(qnf v1 v2).okF tab:=fun r hr=>⟨za1 jak rfl (.br (decide (v1.fat≠v2.fat)) (.lfA rB false)<|.callF (qkq v1.ft v2.ft) fun(v4:Bool)=>.br (!v4) (.lfA rB false)<|.callF (qkm v1.fq v2.fq) fun(v6:Bool)=>.br (!v6) (.lfA rB false)<|.callF (qlb v1.faa v2.faa) fun(v8:Bool)=>.br (!v8) (.lfA rB false)<|.br (decide (v1.far≠v2.far)) (.lfA rB false)<|.br (decide (v1.fau≠v2.fau)) (.lfA rB false)<|.br (decide (v1.fas≠v2.fas)) (.lfA rB false)<|.br (decide (v1.fav≠v2.fav)) (.lfA rB false)<|.lfA rB true:Tree Bool _) (by kernel_rfl) (by kernel_rfl) (bR (rfl)<|cF jic fun v4=>bR (rfl)<|cF jfl fun v6=>bR (rfl)<|cF qxi fun v8=>bR (rfl)<|bR (rfl)<|bR (rfl)<|bR (rfl)<|bR (rfl)<|rfl) hr,rfl,rfl⟩
def yx2 (v1:Tq) (v2:Tq):Option Bool:=(ylp v1.fao v2.fao).bind fun v3=>(bif !v3 then(some false) else((ylp v1.fap v2.fap).bind fun v5=>(bif !v5 then(some false) else((yrh v1.fam v2.fam).bind fun v7=>(bif !v7 then(some false) else((yrh v1.fb v2.fb).bind fun v9=>(bif !v9 then(some false) else(some true))))))))
def qnk (v1:Tq) (v2:Tq):Ctr:=⟨yvb,[.agg [.imm 1 (v1.fao.map V.bool),.imm 1 (v1.fap.map V.bool),.imm 1 (v1.fam.map (V.int .i64)),.imm 1 (v1.fb.map (V.int .i64))],.agg [.imm 1 (v2.fao.map V.bool),.imm 1 (v2.fap.map V.bool),.imm 1 (v2.fam.map (V.int .i64)),.imm 1 (v2.fb.map (V.int .i64))]],[],Bool,yx2 v1 v2,rB⟩
theorem qps {v1:Tq} {v2:Tq}:(qnk v1 v2).okF tab:=fun r hr=>⟨za1 jc3 rfl (.callF (yse v1.fao v2.fao) fun(v3:Bool)=>.br (!v3) (.lfA rB false)<|.callF (yse v1.fap v2.fap) fun(v5:Bool)=>.br (!v5) (.lfA rB false)<|.callF (yt1 v1.fam v2.fam) fun(v7:Bool)=>.br (!v7) (.lfA rB false)<|.callF (yt1 v1.fb v2.fb) fun(v9:Bool)=>.br (!v9) (.lfA rB false)<|.lfA rB true:Tree Bool _) (by kernel_rfl) (by kernel_rfl) (cF ytg fun v3=>bR (rfl)<|cF ytg fun v5=>bR (rfl)<|cF yvy fun v7=>bR (rfl)<|cF yvy fun v9=>bR (rfl)<|rfl) hr,rfl,rfl⟩
def qcy (v1:Tf) (v2:Tf):Option Bool:=bif decide (v1.fp≠v2.fp) then(some false) else(bif decide (v1.fg≠v2.fg) then(some false) else((yx2 v1.fD v2.fD).bind fun v5=>(bif !v5 then(some false) else(some true))))
def qlv (v1:Tf) (v2:Tf):Ctr:=⟨qb5,[.agg [.I v1.fp,.I v1.fg,.imm 1 (v1.fD.fao.map V.bool),.imm 1 (v1.fD.fap.map V.bool),.imm 1 (v1.fD.fam.map (V.int .i64)),.imm 1 (v1.fD.fb.map (V.int .i64))],.agg [.I v2.fp,.I v2.fg,.imm 1 (v2.fD.fao.map V.bool),.imm 1 (v2.fD.fap.map V.bool),.imm 1 (v2.fD.fam.map (V.int .i64)),.imm 1 (v2.fD.fb.map (V.int .i64))]],[],Bool,qcy v1 v2,rB⟩
theorem qyj {v1:Tf} {v2:Tf}:(qlv v1 v2).okF tab:=fun r hr=>⟨za1 jav rfl (.br (decide (v1.fp≠v2.fp)) (.lfA rB false)<|.br (decide (v1.fg≠v2.fg)) (.lfA rB false)<|.callF (qnk v1.fD v2.fD) fun(v5:Bool)=>.br (!v5) (.lfA rB false)<|.lfA rB true:Tree Bool _) (by kernel_rfl) (by kernel_rfl) (bR (rfl)<|bR (rfl)<|cF qps fun v5=>bR (rfl)<|rfl) hr,rfl,rfl⟩
def zs0 (v1:List Tf) (v2:List Tf) (k:Int) (s:Unit):St:=⟨sv 7 [(0,.imm 6 (v1.map Tf.i)),(1,.imm 6 (v2.map Tf.i)),(3,.I k)],[]⟩
def zmy (v1:List Tf) (v2:List Tf):Int->Ex×St:=fun p=>(.ret,⟨sv 7 [(0,.imm 6 (v1.map Tf.i)),(1,.imm 6 (v2.map Tf.i)),(2,.bool false),(3,.I p),(5,.bool true),(6,.bool true)],[]⟩)
def zo6 (v1:List Tf) (v2:List Tf):Unit->Ex×St:=fun p=>((.exit 0),⟨sv 7 [(0,.imm 6 (v1.map Tf.i)),(1,.imm 6 (v2.map Tf.i)),(3,.I (v1.length:Int)),(5,.bool false)],[]⟩)
def zs9 (v1:List Tf) (v2:List Tf) (k:Int):=zbn (zs0 v1 v2 k) (Sum.elim (zmy v1 v2) (zo6 v1 v2))
def yeg (v1:List Tf) (v2:List Tf) (k:Int) (x:Tf) (s:Unit):Option ((Unit)⊕(Int⊕Unit)):=((v2)[k.toNat]?).bind fun v20=>((qcy x v20).bind fun v22=>(bif !v22 then(some (.inr (.inl k))) else(some (.inl ()))))
def ygo (v1:List Tf) (v2:List Tf) (s:Unit):Option (Int⊕Unit):=some ((.inr ()))
def zx4 (v1:List Tf) (v2:List Tf) (s:Unit):Option (Int⊕Unit):=if v1.length<=9223372036854775806 then zaf (yeg v1 v2) (ygo v1 v2) v1 0 s else none
def yet (v1:List Tf) (v2:List Tf) (s:Unit):Lc2:=⟨7,ym1,0,[2,4,5,6],some (zs0 v1 v2 0 s),Int,Unit,zx4 v1 v2 s,zmy v1 v2,zo6 v1 v2⟩
theorem yoo {v1:List Tf} {v2:List Tf} {s:Unit}:(yet v1 v2 s).ok tab:=zar (zaa (J:=zs0 v1 v2) (o:=(Sum.elim (zmy v1 v2) (zo6 v1 v2))) v1 (B:=fun(k:Int) (x:Tf) (s:Unit)=>(.lenA Tf.i v1<|.kb (decide (k<(v1.length:Int))) true<|.ob (0<=k)<|.lkX Tf.i v1 (k.toNat) x<|.ob (0<=k)<|.lookA Tf.i v2 (k.toNat) fun v20=>.callF (qlv x v20) fun(v22:Bool)=>.br (!v22) (.lfA (zs9 v1 v2 (i64.wrap (k+1))) (.inr (.inl k)))<|.lfA (zs9 v1 v2 (i64.wrap (k+1))) (.inl ()):Tree ((Unit)⊕(Int⊕Unit)) _)) (E:=fun(s:Unit)=>(.lenA Tf.i v1<|.kb (decide ((v1.length:Int)<(v1.length:Int))) false<|.lfA (zs9 v1 v2 0) (.inr (.inr ())):Tree ((Unit)⊕(Int⊕Unit)) _)) (fun k x s=>by kernel_rfl) (fun d x t s he=>lA<|⟨ltX he,⟨Int.natCast_nonneg _,⟨za7 Tf.i he,⟨Int.natCast_nonneg _,kA fun v20=>cF qyj fun v22=>bR (rfl)<|rfl⟩⟩⟩⟩) (ho2 (fun _=>rfl) fun _=>rfl) (fun s=>by kernel_rfl) (fun s=>lA<|⟨ltE _,rfl⟩) (by kernel_rfl) (by kernel_rfl) s)
def yzg (v1:List Tf) (v2:List Tf):Option Bool:=bif decide ((v1.length:Int)≠(v2.length:Int)) then(some false) else((zx4 v1 v2 ()).bind (zbj (fun (v24:Int)=>(some false)) (fun (v25:Unit)=>(some true))))
def qk2 (v1:List Tf) (v2:List Tf):Ctr:=⟨yy5,[.imm 6 (v1.map Tf.i),.imm 6 (v2.map Tf.i)],[],Bool,yzg v1 v2,rB⟩
theorem jct {v1:List Tf} {v2:List Tf}:(qk2 v1 v2).okF tab:=fun r hr=>⟨za1 qu5 rfl (.lenA Tf.i v1<|.lenA Tf.i v2<|.br (decide ((v1.length:Int)≠(v2.length:Int))) (.lfA rB false)<|.lp2 (yet v1 v2 ()) (fun (v24:Int)=>.lfA rB false) (fun (v25:Unit)=>.lfA rB true):Tree Bool _) (by kernel_rfl) (by kernel_rfl) (lA<|lA<|bR (rfl)<|lQ yoo (fun v24=>rfl) (fun v25=>rfl)) hr,rfl,rfl⟩
def yxs (v1:Tg) (v2:Tg):Option Bool:=bif true ^^ (v1.fbe == v2.fbe) then(some false) else(bif decide (v1.fp≠v2.fp) then(some false) else(bif decide (v1.fag≠v2.fag) then(some false) else(bif decide (v1.fg≠v2.fg) then(some false) else((ykm v1.fa v2.fa).bind fun v7=>(bif !v7 then(some false) else((yqr v1.fh v2.fh).bind fun v9=>(bif !v9 then(some false) else(some true))))))))
def qo6 (v1:Tg) (v2:Tg):Ctr:=⟨qbi,[.agg [.bool v1.fbe,.I v1.fp,.I v1.fag,.I v1.fg,.I v1.fa.fd,.I v1.fa.fe,.I v1.fa.fN,.imm 1 (v1.fa.fb.map (V.int .i64)),.imm 1 (v1.fa.fc.map V.bool),.I v1.fa.fi,.I v1.fh.fd,.I v1.fh.fae,.I v1.fh.fe,.I v1.fh.fN,.imm 1 (v1.fh.fb.map (V.int .i64)),.imm 1 (v1.fh.fc.map V.bool)],.agg [.bool v2.fbe,.I v2.fp,.I v2.fag,.I v2.fg,.I v2.fa.fd,.I v2.fa.fe,.I v2.fa.fN,.imm 1 (v2.fa.fb.map (V.int .i64)),.imm 1 (v2.fa.fc.map V.bool),.I v2.fa.fi,.I v2.fh.fd,.I v2.fh.fae,.I v2.fh.fe,.I v2.fh.fN,.imm 1 (v2.fh.fb.map (V.int .i64)),.imm 1 (v2.fh.fc.map V.bool)]],[],Bool,yxs v1 v2,rB⟩
theorem qsn {v1:Tg} {v2:Tg}:(qo6 v1 v2).okF tab:=fun r hr=>⟨za1 qv1 rfl (.br (true ^^ (v1.fbe == v2.fbe)) (.lfA rB false)<|.br (decide (v1.fp≠v2.fp)) (.lfA rB false)<|.br (decide (v1.fag≠v2.fag)) (.lfA rB false)<|.br (decide (v1.fg≠v2.fg)) (.lfA rB false)<|.callF (you v1.fa v2.fa) fun(v7:Bool)=>.br (!v7) (.lfA rB false)<|.callF (yul v1.fh v2.fh) fun(v9:Bool)=>.br (!v9) (.lfA rB false)<|.lfA rB true:Tree Bool _) (by kernel_rfl) (by kernel_rfl) (bR (rfl)<|bR (rfl)<|bR (rfl)<|bR (rfl)<|cF ysg fun v7=>bR (rfl)<|cF yuz fun v9=>bR (rfl)<|rfl) hr,rfl,rfl⟩
def zsj (v1:List Tg) (v2:List Tg) (k:Int) (s:Unit):St:=⟨sv 7 [(0,.imm 16 (v1.map Tg.i)),(1,.imm 16 (v2.map Tg.i)),(3,.I k)],[]⟩
def zl6 (v1:List Tg) (v2:List Tg):Int->Ex×St:=fun p=>(.ret,⟨sv 7 [(0,.imm 16 (v1.map Tg.i)),(1,.imm 16 (v2.map Tg.i)),(2,.bool false),(3,.I p),(5,.bool true),(6,.bool true)],[]⟩)
def zmq (v1:List Tg) (v2:List Tg):Unit->Ex×St:=fun p=>((.exit 0),⟨sv 7 [(0,.imm 16 (v1.map Tg.i)),(1,.imm 16 (v2.map Tg.i)),(3,.I (v1.length:Int)),(5,.bool false)],[]⟩)
def zus (v1:List Tg) (v2:List Tg) (k:Int):=zbn (zsj v1 v2 k) (Sum.elim (zl6 v1 v2) (zmq v1 v2))
def yel (v1:List Tg) (v2:List Tg) (k:Int) (x:Tg) (s:Unit):Option ((Unit)⊕(Int⊕Unit)):=((v2)[k.toNat]?).bind fun v20=>((yxs x v20).bind fun v22=>(bif !v22 then(some (.inr (.inl k))) else(some (.inl ()))))
def yfe (v1:List Tg) (v2:List Tg) (s:Unit):Option (Int⊕Unit):=some ((.inr ()))
def zub (v1:List Tg) (v2:List Tg) (s:Unit):Option (Int⊕Unit):=if v1.length<=9223372036854775806 then zaf (yel v1 v2) (yfe v1 v2) v1 0 s else none
def ye0 (v1:List Tg) (v2:List Tg) (s:Unit):Lc2:=⟨7,ymm,0,[2,4,5,6],some (zsj v1 v2 0 s),Int,Unit,zub v1 v2 s,zl6 v1 v2,zmq v1 v2⟩
theorem ypg {v1:List Tg} {v2:List Tg} {s:Unit}:(ye0 v1 v2 s).ok tab:=zar (zaa (J:=zsj v1 v2) (o:=(Sum.elim (zl6 v1 v2) (zmq v1 v2))) v1 (B:=fun(k:Int) (x:Tg) (s:Unit)=>(.lenA Tg.i v1<|.kb (decide (k<(v1.length:Int))) true<|.ob (0<=k)<|.lkX Tg.i v1 (k.toNat) x<|.ob (0<=k)<|.lookA Tg.i v2 (k.toNat) fun v20=>.callF (qo6 x v20) fun(v22:Bool)=>.br (!v22) (.lfA (zus v1 v2 (i64.wrap (k+1))) (.inr (.inl k)))<|.lfA (zus v1 v2 (i64.wrap (k+1))) (.inl ()):Tree ((Unit)⊕(Int⊕Unit)) _)) (E:=fun(s:Unit)=>(.lenA Tg.i v1<|.kb (decide ((v1.length:Int)<(v1.length:Int))) false<|.lfA (zus v1 v2 0) (.inr (.inr ())):Tree ((Unit)⊕(Int⊕Unit)) _)) (fun k x s=>by kernel_rfl) (fun d x t s he=>lA<|⟨ltX he,⟨Int.natCast_nonneg _,⟨za7 Tg.i he,⟨Int.natCast_nonneg _,kA fun v20=>cF qsn fun v22=>bR (rfl)<|rfl⟩⟩⟩⟩) (ho2 (fun _=>rfl) fun _=>rfl) (fun s=>by kernel_rfl) (fun s=>lA<|⟨ltE _,rfl⟩) (by kernel_rfl) (by kernel_rfl) s)
def yw4 (v1:List Tg) (v2:List Tg):Option Bool:=bif decide ((v1.length:Int)≠(v2.length:Int)) then(some false) else((zub v1 v2 ()).bind (zbj (fun (v24:Int)=>(some false)) (fun (v25:Unit)=>(some true))))
def qkn (v1:List Tg) (v2:List Tg):Ctr:=⟨yya,[.imm 16 (v1.map Tg.i),.imm 16 (v2.map Tg.i)],[],Bool,yw4 v1 v2,rB⟩
theorem jb8 {v1:List Tg} {v2:List Tg}:(qkn v1 v2).okF tab:=fun r hr=>⟨za1 qr4 rfl (.lenA Tg.i v1<|.lenA Tg.i v2<|.br (decide ((v1.length:Int)≠(v2.length:Int))) (.lfA rB false)<|.lp2 (ye0 v1 v2 ()) (fun (v24:Int)=>.lfA rB false) (fun (v25:Unit)=>.lfA rB true):Tree Bool _) (by kernel_rfl) (by kernel_rfl) (lA<|lA<|bR (rfl)<|lQ ypg (fun v24=>rfl) (fun v25=>rfl)) hr,rfl,rfl⟩
def yyh (v1:Ti) (v2:Ti):Option Bool:=bif decide (v1.fai≠v2.fai) then(some false) else(bif decide (v1.faj≠v2.faj) then(some false) else((ykm v1.fa v2.fa).bind fun v5=>(bif !v5 then(some false) else((yte v1.fo v2.fo).bind fun v7=>(bif !v7 then(some false) else((yu3 v1.fab v2.fab).bind fun v9=>(bif !v9 then(some false) else((yqr v1.fh v2.fh).bind fun v11=>(bif !v11 then(some false) else(some true))))))))))
def qn0 (v1:Ti) (v2:Ti):Ctr:=⟨ywl,[.agg [.I v1.fai,.I v1.faj,.I v1.fa.fd,.I v1.fa.fe,.I v1.fa.fN,.imm 1 (v1.fa.fb.map (V.int .i64)),.imm 1 (v1.fa.fc.map V.bool),.I v1.fa.fi,.imm 8 (v1.fo.map Th.i),.imm 6 (v1.fab.map Td.i),.I v1.fh.fd,.I v1.fh.fae,.I v1.fh.fe,.I v1.fh.fN,.imm 1 (v1.fh.fb.map (V.int .i64)),.imm 1 (v1.fh.fc.map V.bool)],.agg [.I v2.fai,.I v2.faj,.I v2.fa.fd,.I v2.fa.fe,.I v2.fa.fN,.imm 1 (v2.fa.fb.map (V.int .i64)),.imm 1 (v2.fa.fc.map V.bool),.I v2.fa.fi,.imm 8 (v2.fo.map Th.i),.imm 6 (v2.fab.map Td.i),.I v2.fh.fd,.I v2.fh.fae,.I v2.fh.fe,.I v2.fh.fN,.imm 1 (v2.fh.fb.map (V.int .i64)),.imm 1 (v2.fh.fc.map V.bool)]],[],Bool,yyh v1 v2,rB⟩
theorem qz9 {v1:Ti} {v2:Ti}:(qn0 v1 v2).okF tab:=fun r hr=>⟨za1 qtp rfl (.br (decide (v1.fai≠v2.fai)) (.lfA rB false)<|.br (decide (v1.faj≠v2.faj)) (.lfA rB false)<|.callF (you v1.fa v2.fa) fun(v5:Bool)=>.br (!v5) (.lfA rB false)<|.callF (qjr v1.fo v2.fo) fun(v7:Bool)=>.br (!v7) (.lfA rB false)<|.callF (qjj v1.fab v2.fab) fun(v9:Bool)=>.br (!v9) (.lfA rB false)<|.callF (yul v1.fh v2.fh) fun(v11:Bool)=>.br (!v11) (.lfA rB false)<|.lfA rB true:Tree Bool _) (by kernel_rfl) (by kernel_rfl) (bR (rfl)<|bR (rfl)<|cF ysg fun v5=>bR (rfl)<|cF qol fun v7=>bR (rfl)<|cF qmp fun v9=>bR (rfl)<|cF yuz fun v11=>bR (rfl)<|rfl) hr,rfl,rfl⟩
def zvv (v1:List Ti) (v2:List Ti) (k:Int) (s:Unit):St:=⟨sv 7 [(0,.imm 16 (v1.map Ti.i)),(1,.imm 16 (v2.map Ti.i)),(3,.I k)],[]⟩
def zn8 (v1:List Ti) (v2:List Ti):Int->Ex×St:=fun p=>(.ret,⟨sv 7 [(0,.imm 16 (v1.map Ti.i)),(1,.imm 16 (v2.map Ti.i)),(2,.bool false),(3,.I p),(5,.bool true),(6,.bool true)],[]⟩)
def zn7 (v1:List Ti) (v2:List Ti):Unit->Ex×St:=fun p=>((.exit 0),⟨sv 7 [(0,.imm 16 (v1.map Ti.i)),(1,.imm 16 (v2.map Ti.i)),(3,.I (v1.length:Int)),(5,.bool false)],[]⟩)
def zwy (v1:List Ti) (v2:List Ti) (k:Int):=zbn (zvv v1 v2 k) (Sum.elim (zn8 v1 v2) (zn7 v1 v2))
def ydv (v1:List Ti) (v2:List Ti) (k:Int) (x:Ti) (s:Unit):Option ((Unit)⊕(Int⊕Unit)):=((v2)[k.toNat]?).bind fun v20=>((yyh x v20).bind fun v22=>(bif !v22 then(some (.inr (.inl k))) else(some (.inl ()))))
def yge (v1:List Ti) (v2:List Ti) (s:Unit):Option (Int⊕Unit):=some ((.inr ()))
def zwg (v1:List Ti) (v2:List Ti) (s:Unit):Option (Int⊕Unit):=if v1.length<=9223372036854775806 then zaf (ydv v1 v2) (yge v1 v2) v1 0 s else none
def yha (v1:List Ti) (v2:List Ti) (s:Unit):Lc2:=⟨7,yld,0,[2,4,5,6],some (zvv v1 v2 0 s),Int,Unit,zwg v1 v2 s,zn8 v1 v2,zn7 v1 v2⟩
theorem yqo {v1:List Ti} {v2:List Ti} {s:Unit}:(yha v1 v2 s).ok tab:=zar (zaa (J:=zvv v1 v2) (o:=(Sum.elim (zn8 v1 v2) (zn7 v1 v2))) v1 (B:=fun(k:Int) (x:Ti) (s:Unit)=>(.lenA Ti.i v1<|.kb (decide (k<(v1.length:Int))) true<|.ob (0<=k)<|.lkX Ti.i v1 (k.toNat) x<|.ob (0<=k)<|.lookA Ti.i v2 (k.toNat) fun v20=>.callF (qn0 x v20) fun(v22:Bool)=>.br (!v22) (.lfA (zwy v1 v2 (i64.wrap (k+1))) (.inr (.inl k)))<|.lfA (zwy v1 v2 (i64.wrap (k+1))) (.inl ()):Tree ((Unit)⊕(Int⊕Unit)) _)) (E:=fun(s:Unit)=>(.lenA Ti.i v1<|.kb (decide ((v1.length:Int)<(v1.length:Int))) false<|.lfA (zwy v1 v2 0) (.inr (.inr ())):Tree ((Unit)⊕(Int⊕Unit)) _)) (fun k x s=>by kernel_rfl) (fun d x t s he=>lA<|⟨ltX he,⟨Int.natCast_nonneg _,⟨za7 Ti.i he,⟨Int.natCast_nonneg _,kA fun v20=>cF qz9 fun v22=>bR (rfl)<|rfl⟩⟩⟩⟩) (ho2 (fun _=>rfl) fun _=>rfl) (fun s=>by kernel_rfl) (fun s=>lA<|⟨ltE _,rfl⟩) (by kernel_rfl) (by kernel_rfl) s)
def ywu (v1:List Ti) (v2:List Ti):Option Bool:=bif decide ((v1.length:Int)≠(v2.length:Int)) then(some false) else((zwg v1 v2 ()).bind (zbj (fun (v24:Int)=>(some false)) (fun (v25:Unit)=>(some true))))
def qnw (v1:List Ti) (v2:List Ti):Ctr:=⟨yzv,[.imm 16 (v1.map Ti.i),.imm 16 (v2.map Ti.i)],[],Bool,ywu v1 v2,rB⟩
theorem qqs {v1:List Ti} {v2:List Ti}:(qnw v1 v2).okF tab:=fun r hr=>⟨za1 jeg rfl (.lenA Ti.i v1<|.lenA Ti.i v2<|.br (decide ((v1.length:Int)≠(v2.length:Int))) (.lfA rB false)<|.lp2 (yha v1 v2 ()) (fun (v24:Int)=>.lfA rB false) (fun (v25:Unit)=>.lfA rB true):Tree Bool _) (by kernel_rfl) (by kernel_rfl) (lA<|lA<|bR (rfl)<|lQ yqo (fun v24=>rfl) (fun v25=>rfl)) hr,rfl,rfl⟩
def yvn (v1:Tj) (v2:Tj):Option Bool:=bif decide (v1.fp≠v2.fp) then(some false) else(bif decide (v1.fag≠v2.fag) then(some false) else(bif decide (v1.fg≠v2.fg) then(some false) else((ykm v1.fa v2.fa).bind fun v6=>(bif !v6 then(some false) else((yqr v1.fh v2.fh).bind fun v8=>(bif !v8 then(some false) else(some true)))))))
def qn8 (v1:Tj) (v2:Tj):Ctr:=⟨qbb,[.agg [.I v1.fp,.I v1.fag,.I v1.fg,.I v1.fa.fd,.I v1.fa.fe,.I v1.fa.fN,.imm 1 (v1.fa.fb.map (V.int .i64)),.imm 1 (v1.fa.fc.map V.bool),.I v1.fa.fi,.I v1.fh.fd,.I v1.fh.fae,.I v1.fh.fe,.I v1.fh.fN,.imm 1 (v1.fh.fb.map (V.int .i64)),.imm 1 (v1.fh.fc.map V.bool)],.agg [.I v2.fp,.I v2.fag,.I v2.fg,.I v2.fa.fd,.I v2.fa.fe,.I v2.fa.fN,.imm 1 (v2.fa.fb.map (V.int .i64)),.imm 1 (v2.fa.fc.map V.bool),.I v2.fa.fi,.I v2.fh.fd,.I v2.fh.fae,.I v2.fh.fe,.I v2.fh.fN,.imm 1 (v2.fh.fb.map (V.int .i64)),.imm 1 (v2.fh.fc.map V.bool)]],[],Bool,yvn v1 v2,rB⟩
theorem qug {v1:Tj} {v2:Tj}:(qn8 v1 v2).okF tab:=fun r hr=>⟨za1 qzo rfl (.br (decide (v1.fp≠v2.fp)) (.lfA rB false)<|.br (decide (v1.fag≠v2.fag)) (.lfA rB false)<|.br (decide (v1.fg≠v2.fg)) (.lfA rB false)<|.callF (you v1.fa v2.fa) fun(v6:Bool)=>.br (!v6) (.lfA rB false)<|.callF (yul v1.fh v2.fh) fun(v8:Bool)=>.br (!v8) (.lfA rB false)<|.lfA rB true:Tree Bool _) (by kernel_rfl) (by kernel_rfl) (bR (rfl)<|bR (rfl)<|bR (rfl)<|cF ysg fun v6=>bR (rfl)<|cF yuz fun v8=>bR (rfl)<|rfl) hr,rfl,rfl⟩
def zvo (v1:List Tj) (v2:List Tj) (k:Int) (s:Unit):St:=⟨sv 7 [(0,.imm 15 (v1.map Tj.i)),(1,.imm 15 (v2.map Tj.i)),(3,.I k)],[]⟩
def zmc (v1:List Tj) (v2:List Tj):Int->Ex×St:=fun p=>(.ret,⟨sv 7 [(0,.imm 15 (v1.map Tj.i)),(1,.imm 15 (v2.map Tj.i)),(2,.bool false),(3,.I p),(5,.bool true),(6,.bool true)],[]⟩)
def zoj (v1:List Tj) (v2:List Tj):Unit->Ex×St:=fun p=>((.exit 0),⟨sv 7 [(0,.imm 15 (v1.map Tj.i)),(1,.imm 15 (v2.map Tj.i)),(3,.I (v1.length:Int)),(5,.bool false)],[]⟩)
def zu9 (v1:List Tj) (v2:List Tj) (k:Int):=zbn (zvo v1 v2 k) (Sum.elim (zmc v1 v2) (zoj v1 v2))
def yc9 (v1:List Tj) (v2:List Tj) (k:Int) (x:Tj) (s:Unit):Option ((Unit)⊕(Int⊕Unit)):=((v2)[k.toNat]?).bind fun v20=>((yvn x v20).bind fun v22=>(bif !v22 then(some (.inr (.inl k))) else(some (.inl ()))))
def yh0 (v1:List Tj) (v2:List Tj) (s:Unit):Option (Int⊕Unit):=some ((.inr ()))
def zsy (v1:List Tj) (v2:List Tj) (s:Unit):Option (Int⊕Unit):=if v1.length<=9223372036854775806 then zaf (yc9 v1 v2) (yh0 v1 v2) v1 0 s else none
def ybn (v1:List Tj) (v2:List Tj) (s:Unit):Lc2:=⟨7,ylz,0,[2,4,5,6],some (zvo v1 v2 0 s),Int,Unit,zsy v1 v2 s,zmc v1 v2,zoj v1 v2⟩
theorem yr9 {v1:List Tj} {v2:List Tj} {s:Unit}:(ybn v1 v2 s).ok tab:=zar (zaa (J:=zvo v1 v2) (o:=(Sum.elim (zmc v1 v2) (zoj v1 v2))) v1 (B:=fun(k:Int) (x:Tj) (s:Unit)=>(.lenA Tj.i v1<|.kb (decide (k<(v1.length:Int))) true<|.ob (0<=k)<|.lkX Tj.i v1 (k.toNat) x<|.ob (0<=k)<|.lookA Tj.i v2 (k.toNat) fun v20=>.callF (qn8 x v20) fun(v22:Bool)=>.br (!v22) (.lfA (zu9 v1 v2 (i64.wrap (k+1))) (.inr (.inl k)))<|.lfA (zu9 v1 v2 (i64.wrap (k+1))) (.inl ()):Tree ((Unit)⊕(Int⊕Unit)) _)) (E:=fun(s:Unit)=>(.lenA Tj.i v1<|.kb (decide ((v1.length:Int)<(v1.length:Int))) false<|.lfA (zu9 v1 v2 0) (.inr (.inr ())):Tree ((Unit)⊕(Int⊕Unit)) _)) (fun k x s=>by kernel_rfl) (fun d x t s he=>lA<|⟨ltX he,⟨Int.natCast_nonneg _,⟨za7 Tj.i he,⟨Int.natCast_nonneg _,kA fun v20=>cF qug fun v22=>bR (rfl)<|rfl⟩⟩⟩⟩) (ho2 (fun _=>rfl) fun _=>rfl) (fun s=>by kernel_rfl) (fun s=>lA<|⟨ltE _,rfl⟩) (by kernel_rfl) (by kernel_rfl) s)
def yva (v1:List Tj) (v2:List Tj):Option Bool:=bif decide ((v1.length:Int)≠(v2.length:Int)) then(some false) else((zsy v1 v2 ()).bind (zbj (fun (v24:Int)=>(some false)) (fun (v25:Unit)=>(some true))))
def qkr (v1:List Tj) (v2:List Tj):Ctr:=⟨qaa,[.imm 15 (v1.map Tj.i),.imm 15 (v2.map Tj.i)],[],Bool,yva v1 v2,rB⟩
theorem jcj {v1:List Tj} {v2:List Tj}:(qkr v1 v2).okF tab:=fun r hr=>⟨za1 je2 rfl (.lenA Tj.i v1<|.lenA Tj.i v2<|.br (decide ((v1.length:Int)≠(v2.length:Int))) (.lfA rB false)<|.lp2 (ybn v1 v2 ()) (fun (v24:Int)=>.lfA rB false) (fun (v25:Unit)=>.lfA rB true):Tree Bool _) (by kernel_rfl) (by kernel_rfl) (lA<|lA<|bR (rfl)<|lQ yr9 (fun v24=>rfl) (fun v25=>rfl)) hr,rfl,rfl⟩
def yx1 (v1:Tp) (v2:Tp):Option Bool:=(yy9 v1.fF v2.fF).bind fun v3=>(bif !v3 then(some false) else((yzg v1.fax v2.fax).bind fun v5=>(bif !v5 then(some false) else((yw4 v1.fak v2.fak).bind fun v7=>(bif !v7 then(some false) else((ywu v1.fbb v2.fbb).bind fun v9=>(bif !v9 then(some false) else((yva v1.fbc v2.fbc).bind fun v11=>(bif !v11 then(some false) else(some true))))))))))
def qkk (v1:Tp) (v2:Tp):Ctr:=⟨yyw,[.agg [.I v1.fF.fat,.I v1.fF.ft.faf,.I v1.fF.ft.fad,.imm 7 (v1.fF.ft.fah.map Te.i),.I v1.fF.fq.fw,.imm 13 (v1.fF.fq.fj.map Tb.i),.imm 17 (v1.fF.faa.map Tc.i),.I v1.fF.far,.I v1.fF.fau,.I v1.fF.fas,.I v1.fF.fav,.imm 6 (v1.fax.map Tf.i),.imm 16 (v1.fak.map Tg.i),.imm 16 (v1.fbb.map Ti.i),.imm 15 (v1.fbc.map Tj.i)],.agg [.I v2.fF.fat,.I v2.fF.ft.faf,.I v2.fF.ft.fad,.imm 7 (v2.fF.ft.fah.map Te.i),.I v2.fF.fq.fw,.imm 13 (v2.fF.fq.fj.map Tb.i),.imm 17 (v2.fF.faa.map Tc.i),.I v2.fF.far,.I v2.fF.fau,.I v2.fF.fas,.I v2.fF.fav,.imm 6 (v2.fax.map Tf.i),.imm 16 (v2.fak.map Tg.i),.imm 16 (v2.fbb.map Ti.i),.imm 15 (v2.fbc.map Tj.i)]],[],Bool,yx1 v1 v2,rB⟩
theorem qwi {v1:Tp} {v2:Tp}:(qkk v1 v2).okF tab:=fun r hr=>⟨za1 jcn rfl (.callF (qnf v1.fF v2.fF) fun(v3:Bool)=>.br (!v3) (.lfA rB false)<|.callF (qk2 v1.fax v2.fax) fun(v5:Bool)=>.br (!v5) (.lfA rB false)<|.callF (qkn v1.fak v2.fak) fun(v7:Bool)=>.br (!v7) (.lfA rB false)<|.callF (qnw v1.fbb v2.fbb) fun(v9:Bool)=>.br (!v9) (.lfA rB false)<|.callF (qkr v1.fbc v2.fbc) fun(v11:Bool)=>.br (!v11) (.lfA rB false)<|.lfA rB true:Tree Bool _) (by kernel_rfl) (by kernel_rfl) (cF jbz fun v3=>bR (rfl)<|cF jct fun v5=>bR (rfl)<|cF jb8 fun v7=>bR (rfl)<|cF qqs fun v9=>bR (rfl)<|cF jcj fun v11=>bR (rfl)<|rfl) hr,rfl,rfl⟩
def qf0 (v1:Tp):Option Bool:=(qi6 v1 1048576).bind fun v2=>(bif decide (v2<0) then(some true) else((yru v1).bind fun v4=>((qcr v4).bind fun v5=>((yru v1).bind fun v6=>((yw1 v6).bind fun v7=>(bif true ^^ (v7 == v5) then(some false) else((yru v1).bind fun v9=>((yx1 v6 v9).bind fun v10=>(bif !v10 then(some false) else(some true))))))))))
def jg8 (v1:Tp):Ctr:=⟨yzi,[.agg [.I v1.fF.fat,.I v1.fF.ft.faf,.I v1.fF.ft.fad,.imm 7 (v1.fF.ft.fah.map Te.i),.I v1.fF.fq.fw,.imm 13 (v1.fF.fq.fj.map Tb.i),.imm 17 (v1.fF.faa.map Tc.i),.I v1.fF.far,.I v1.fF.fau,.I v1.fF.fas,.I v1.fF.fav,.imm 6 (v1.fax.map Tf.i),.imm 16 (v1.fak.map Tg.i),.imm 16 (v1.fbb.map Ti.i),.imm 15 (v1.fbc.map Tj.i)]],[],Bool,qf0 v1,rB⟩
theorem je4 {v1:Tp}:(jg8 v1).okF tab:=fun r hr=>⟨za1 qpw rfl (.callF (qk9 v1 1048576) fun(v2:Int)=>.br (decide (v2<0)) (.lfA rB true)<|.callF (yxx v1) fun(v4:Tp)=>.segA Te.i v4.fF.ft.fah<|.eraA Te.i Te.i v4.fF.ft.fah<|.segA Tb.o v4.fF.fq.fj<|.eraA Tb.o Tb.i v4.fF.fq.fj<|.segA Tc.o v4.fF.faa<|.eraA Tc.o Tc.i v4.fF.faa<|.segA Tf.o v4.fax<|.eraA Tf.o Tf.i v4.fax<|.segA Tg.o v4.fak<|.eraA Tg.o Tg.i v4.fak<|.segA Ti.o v4.fbb<|.eraA Ti.o Ti.i v4.fbb<|.segA Tj.o v4.fbc<|.eraA Tj.o Tj.i v4.fbc<|.callF (qn3 v4) fun(v5:Bool)=>.callF (yxx v1) fun(v6:Tp)=>.segA Te.i v6.fF.ft.fah<|.segA Tb.o v6.fF.fq.fj<|.segA Tc.o v6.fF.faa<|.segA Tf.o v6.fax<|.segA Tg.o v6.fak<|.segA Ti.o v6.fbb<|.segA Tj.o v6.fbc<|.segA Te.i v6.fF.ft.fah<|.eraA Te.i Te.i v6.fF.ft.fah<|.segA Tb.o v6.fF.fq.fj<|.eraA Tb.o Tb.i v6.fF.fq.fj<|.segA Tc.o v6.fF.faa<|.eraA Tc.o Tc.i v6.fF.faa<|.segA Tf.o v6.fax<|.eraA Tf.o Tf.i v6.fax<|.segA Tg.o v6.fak<|.eraA Tg.o Tg.i v6.fak<|.segA Ti.o v6.fbb<|.eraA Ti.o Ti.i v6.fbb<|.segA Tj.o v6.fbc<|.eraA Tj.o Tj.i v6.fbc<|.callF (qli v6) fun(v7:Bool)=>.br (true ^^ (v7 == v5)) (.lfA rB false)<|.callF (yxx v1) fun(v9:Tp)=>.segA Te.i v6.fF.ft.fah<|.eraA Te.i Te.i v6.fF.ft.fah<|.segA Tb.o v6.fF.fq.fj<|.eraA Tb.o Tb.i v6.fF.fq.fj<|.segA Tc.o v6.fF.faa<|.eraA Tc.o Tc.i v6.fF.faa<|.segA Tf.o v6.fax<|.eraA Tf.o Tf.i v6.fax<|.segA Tg.o v6.fak<|.eraA Tg.o Tg.i v6.fak<|.segA Ti.o v6.fbb<|.eraA Ti.o Ti.i v6.fbb<|.segA Tj.o v6.fbc<|.eraA Tj.o Tj.i v6.fbc<|.segA Te.i v9.fF.ft.fah<|.eraA Te.i Te.i v9.fF.ft.fah<|.segA Tb.o v9.fF.fq.fj<|.eraA Tb.o Tb.i v9.fF.fq.fj<|.segA Tc.o v9.fF.faa<|.eraA Tc.o Tc.i v9.fF.faa<|.segA Tf.o v9.fax<|.eraA Tf.o Tf.i v9.fax<|.segA Tg.o v9.fak<|.eraA Tg.o Tg.i v9.fak<|.segA Ti.o v9.fbb<|.eraA Ti.o Ti.i v9.fbb<|.segA Tj.o v9.fbc<|.eraA Tj.o Tj.i v9.fbc<|.callF (qkk v6 v9) fun(v10:Bool)=>.br (!v10) (.lfA rB false)<|.lfA rB true:Tree Bool _) (by kernel_rfl) (by kernel_rfl) (cF qza fun v2=>bR (rfl)<|cF qfv fun v4=>sA<|eO (fun _=>rfl)<|sA<|eO Tb.o_i<|sA<|eO Tc.o_i<|sA<|eO Tf.o_i<|sA<|eO Tg.o_i<|sA<|eO Ti.o_i<|sA<|eO Tj.o_i<|cF ji0 fun v5=>cF qfv fun v6=>sA<|sA<|sA<|sA<|sA<|sA<|sA<|sA<|eO (fun _=>rfl)<|sA<|eO Tb.o_i<|sA<|eO Tc.o_i<|sA<|eO Tf.o_i<|sA<|eO Tg.o_i<|sA<|eO Ti.o_i<|sA<|eO Tj.o_i<|cF jb3 fun v7=>bR (rfl)<|cF qfv fun v9=>sA<|eO (fun _=>rfl)<|sA<|eO Tb.o_i<|sA<|eO Tc.o_i<|sA<|eO Tf.o_i<|sA<|eO Tg.o_i<|sA<|eO Ti.o_i<|sA<|eO Tj.o_i<|sA<|eO (fun _=>rfl)<|sA<|eO Tb.o_i<|sA<|eO Tc.o_i<|sA<|eO Tf.o_i<|sA<|eO Tg.o_i<|sA<|eO Ti.o_i<|sA<|eO Tj.o_i<|cF qwi fun v10=>bR (rfl)<|rfl) hr,rfl,rfl⟩
end Go.Pm
namespace Go.Pm
set_option maxRecDepth 100000
set_option maxHeartbeats 400000
theorem za3 {p:PT} {ps:List PT} {vs:List V} (h:PT.hasAll (p::ps) vs):∃ v vs',vs=v::vs'/\p.has v/\PT.hasAll ps vs':=by simpa only [PT.hasAll] using h
theorem zb7 {vs:List V} (h:PT.hasAll [] vs):vs=[]:=by simpa only [PT.hasAll] using h
theorem zau:∀ {ps qs:List PT} {vs:List V},PT.hasAll (ps++qs) vs->∃ us ws,vs=us++ws/\PT.hasAll ps us/\PT.hasAll qs ws
 | [],qs,vs,h=>⟨[],vs,rfl,by simp only [PT.hasAll],h⟩
 | p::ps,qs,vs,h=>by
   obtain ⟨v,vs',rfl,h1,h2⟩:=za3 h
   obtain ⟨us,ws,rfl,h3,h4⟩:=zau h2
   exact ⟨v::us,ws,rfl,by simp only [PT.hasAll];exact ⟨v,us,rfl,h1,h3⟩,h4⟩
theorem zaj {v:V} (h:(PT.int .i64).has v):∃ n,v=.int .i64 n/\ -9223372036854775808<=n/\n<=9223372036854775807:=by
 simp only [PT.has] at h
 obtain ⟨n,rfl,h1,h2⟩:=h
 exact ⟨n,rfl,by simpa [IntKind.min,IntKind.signed,IntKind.bits] using h1,by simpa [IntKind.max,IntKind.signed,IntKind.bits] using h2⟩
theorem znh {v:V} (h:PT.bool.has v):∃ b,v=.bool b:=by simpa only [PT.has] using h
theorem zrd {α:Type} {f:α->V} {Q:α->Prop}:∀ {xs:List V},(∀ x∈xs,∃ a,x=f a/\Q a)->∃ as:List α,xs=as.map f/\∀ a∈as,Q a
 | [],_=>⟨[],rfl,by simp⟩
 | x::xs,h=>by
   obtain ⟨a,rfl,ha⟩:=h x (by simp)
   obtain ⟨as,rfl,has⟩:=zrd (f:=f) (Q:=Q) (xs:=xs) (fun y hy=>h y (by simp [hy]))
   exact ⟨a::as,rfl,by simpa using ⟨ha,has⟩⟩
theorem zc5 {α:Type} {f:α->V} {Q:α->Prop} {ag:Bool} {es:List PT} {v:V} (h:(PT.list ag es).has v) (he:∀ x:V,x.leaf= !ag->PT.hasAll es x.cells1->∃ a,x=f a/\Q a):
 ∃ as:List α,v=.imm es.length (as.map f)/\as.length<=9223372036854775807/\∀ a∈as,Q a:=by
 simp only [PT.has] at h
 obtain ⟨xs,rfl,hl,hx⟩:=h
 obtain ⟨as,rfl,ha⟩:=zrd (f:=f) (Q:=Q) (fun x hm=>he x (hx x hm).1 (hx x hm).2)
 exact ⟨as,rfl,by simpa using hl,ha⟩
theorem yl9 {p:PT} {x:V} (hx:x.leaf= !false) (h:PT.hasAll [p] x.cells1):p.has x:=by
 obtain ⟨v,vs,e,h1,h2⟩:=za3 h
 cases x <;> first|(simp only [V.cells1,List.cons.injEq] at e;rw [e.1];exact h1)|(cases hx;done)
theorem zi0 {v:V} (h:(PT.list false [.int .i64]).has v):∃ as:List Int,v=.imm 1 (as.map (.int .i64))/\as.length<=9223372036854775807/\∀ a∈as,-9223372036854775808<=a/\a<=9223372036854775807:=
 zc5 h fun _ hx h=>zaj (yl9 hx h)
theorem zf8 {v:V} (h:(PT.list false [.bool]).has v):∃ as:List Bool,v=.imm 1 (as.map .bool)/\as.length<=9223372036854775807/\∀ a∈as,True:=
 zc5 h fun _ hx h=>by obtain ⟨b,rfl⟩:=znh (yl9 hx h);exact ⟨b,rfl,trivial⟩
def zk6:List PT:=.int .i64 :: .int .i64 :: .int .i64 :: .int .i64 :: .int .i64 :: .int .i64 :: .int .i64 :: []
theorem yq5 {vs:List V} (g0:PT.hasAll zk6 vs):∃ a:Te,a.ok/\V.agg vs=a.i:=by
 unfold zk6 at g0
 obtain ⟨_,_,rfl,h0,g1⟩:=za3 g0
 obtain ⟨x0,rfl,k0⟩:=zaj h0
 obtain ⟨_,_,rfl,h1,g2⟩:=za3 g1
 obtain ⟨x1,rfl,k1⟩:=zaj h1
 obtain ⟨_,_,rfl,h2,g3⟩:=za3 g2
 obtain ⟨x2,rfl,k2⟩:=zaj h2
 obtain ⟨_,_,rfl,h3,g4⟩:=za3 g3
 obtain ⟨x3,rfl,k3⟩:=zaj h3
 obtain ⟨_,_,rfl,h4,g5⟩:=za3 g4
 obtain ⟨x4,rfl,k4⟩:=zaj h4
 obtain ⟨_,_,rfl,h5,g6⟩:=za3 g5
 obtain ⟨x5,rfl,k5⟩:=zaj h5
 obtain ⟨_,_,rfl,h6,g7⟩:=za3 g6
 obtain ⟨x6,rfl,k6⟩:=zaj h6
 obtain rfl:=zb7 g7
 exact ⟨⟨x0,x1,x2,x3,x4,x5,x6⟩,⟨k0,k1,k2,k3,k4,k5,k6⟩,rfl⟩
theorem yj2 {x:V} (hx:x.leaf= !true) (h:PT.hasAll zk6 x.cells1):∃ a:Te,x=a.i/\a.ok:=by
 obtain ⟨a,ha,e⟩:=yq5 h
 cases x with
 | agg cs=>exact ⟨a,e,ha⟩
 | tup vs=>exfalso;have:=hasAll_leaf h (V.tup vs) (by simp [V.cells1]);cases this
 | _=>cases hx
theorem yj4 {v:V} (h:(PT.list true zk6).has v):∃ as:List Te,v=.imm 7 (as.map Te.i)/\as.length<=9223372036854775807/\∀ a∈as,a.ok:=zc5 h fun _ hx h=>yj2 hx h
def zje:List PT:=.int .i64 :: .int .i64 :: .list true zk6 :: []
theorem yh7 {vs:List V} (g0:PT.hasAll zje vs):∃ a:Tr,a.ok/\V.agg vs=a.i:=by
 unfold zje at g0
 obtain ⟨_,_,rfl,h0,g1⟩:=za3 g0
 obtain ⟨x0,rfl,k0⟩:=zaj h0
 obtain ⟨_,_,rfl,h1,g2⟩:=za3 g1
 obtain ⟨x1,rfl,k1⟩:=zaj h1
 obtain ⟨_,_,rfl,h2,g3⟩:=za3 g2
 obtain ⟨x2,rfl,j2,k2⟩:=yj4 h2
 obtain rfl:=zb7 g3
 exact ⟨⟨x0,x1,x2⟩,⟨k0,k1,j2,k2⟩,rfl⟩
def pt_Req:List PT:=.int .i64 :: .int .i64 :: .int .i64 :: .list false [.int .i64] :: .list false [.bool] :: .int .i64 :: []
theorem zl5 {vs:List V} (g0:PT.hasAll pt_Req vs):∃ a:Tk,a.ok/\V.agg vs=a.i:=by
 unfold pt_Req at g0
 obtain ⟨_,_,rfl,h0,g1⟩:=za3 g0
 obtain ⟨x0,rfl,k0⟩:=zaj h0
 obtain ⟨_,_,rfl,h1,g2⟩:=za3 g1
 obtain ⟨x1,rfl,k1⟩:=zaj h1
 obtain ⟨_,_,rfl,h2,g3⟩:=za3 g2
 obtain ⟨x2,rfl,k2⟩:=zaj h2
 obtain ⟨_,_,rfl,h3,g4⟩:=za3 g3
 obtain ⟨x3,rfl,j3,k3⟩:=zi0 h3
 obtain ⟨_,_,rfl,h4,g5⟩:=za3 g4
 obtain ⟨x4,rfl,j4,_⟩:=zf8 h4
 obtain ⟨_,_,rfl,h5,g6⟩:=za3 g5
 obtain ⟨x5,rfl,k5⟩:=zaj h5
 obtain rfl:=zb7 g6
 exact ⟨⟨x0,x1,x2,x3,x4,x5⟩,⟨k0,k1,k2,j3,k3,j4,k5⟩,rfl⟩
def pt_Part:List PT:=.int .i64 :: .int .i64::(pt_Req ++ [])
theorem yp1 {vs:List V} (g0:PT.hasAll pt_Part vs):∃ a:Th,a.ok/\V.agg vs=a.i:=by
 unfold pt_Part at g0
 obtain ⟨_,_,rfl,h0,g1⟩:=za3 g0
 obtain ⟨x0,rfl,k0⟩:=zaj h0
 obtain ⟨_,_,rfl,h1,g2⟩:=za3 g1
 obtain ⟨x1,rfl,k1⟩:=zaj h1
 obtain ⟨_,_,rfl,h2,g3⟩:=zau g2
 obtain ⟨x2,k2,e2⟩:=zl5 h2
 obtain rfl:=V.agg.inj e2
 obtain rfl:=zb7 g3
 exact ⟨⟨x0,x1,x2⟩,⟨k0,k1,k2⟩,rfl⟩
theorem yir {x:V} (hx:x.leaf= !true) (h:PT.hasAll pt_Part x.cells1):∃ a:Th,x=a.i/\a.ok:=by
 obtain ⟨a,ha,e⟩:=yp1 h
 cases x with
 | agg cs=>exact ⟨a,e,ha⟩
 | tup vs=>exfalso;have:=hasAll_leaf h (V.tup vs) (by simp [V.cells1]);cases this
 | _=>cases hx
theorem zy2 {v:V} (h:(PT.list true pt_Part).has v):∃ as:List Th,v=.imm 8 (as.map Th.i)/\as.length<=9223372036854775807/\∀ a∈as,a.ok:=zc5 h fun _ hx h=>yir hx h
def zed:List PT:=.int .i64 :: .int .i64 :: .int .i64 :: .int .i64 :: .list false [.int .i64] :: .list false [.bool] :: []
theorem zn2 {vs:List V} (g0:PT.hasAll zed vs):∃ a:Td,a.ok/\V.agg vs=a.i:=by
 unfold zed at g0
 obtain ⟨_,_,rfl,h0,g1⟩:=za3 g0
 obtain ⟨x0,rfl,k0⟩:=zaj h0
 obtain ⟨_,_,rfl,h1,g2⟩:=za3 g1
 obtain ⟨x1,rfl,k1⟩:=zaj h1
 obtain ⟨_,_,rfl,h2,g3⟩:=za3 g2
 obtain ⟨x2,rfl,k2⟩:=zaj h2
 obtain ⟨_,_,rfl,h3,g4⟩:=za3 g3
 obtain ⟨x3,rfl,k3⟩:=zaj h3
 obtain ⟨_,_,rfl,h4,g5⟩:=za3 g4
 obtain ⟨x4,rfl,j4,k4⟩:=zi0 h4
 obtain ⟨_,_,rfl,h5,g6⟩:=za3 g5
 obtain ⟨x5,rfl,j5,_⟩:=zf8 h5
 obtain rfl:=zb7 g6
 exact ⟨⟨x0,x1,x2,x3,x4,x5⟩,⟨k0,k1,k2,k3,j4,k4,j5⟩,rfl⟩
theorem yji {x:V} (hx:x.leaf= !true) (h:PT.hasAll zed x.cells1):∃ a:Td,x=a.i/\a.ok:=by
 obtain ⟨a,ha,e⟩:=zn2 h
 cases x with
 | agg cs=>exact ⟨a,e,ha⟩
 | tup vs=>exfalso;have:=hasAll_leaf h (V.tup vs) (by simp [V.cells1]);cases this
 | _=>cases hx
theorem zxn {v:V} (h:(PT.list true zed).has v):∃ as:List Td,v=.imm 6 (as.map Td.i)/\as.length<=9223372036854775807/\∀ a∈as,a.ok:=zc5 h fun _ hx h=>yji hx h
def zj1:List PT:=.int .i64 :: .int .i64 :: .int .i64 :: .int .i64::(pt_Req ++ .list true pt_Part :: .list false [.bool] :: .list true zed :: [])
theorem ymw {vs:List V} (g0:PT.hasAll zj1 vs):∃ a:Tb,a.ok/\V.agg vs=a.i:=by
 unfold zj1 at g0
 obtain ⟨_,_,rfl,h0,g1⟩:=za3 g0
 obtain ⟨x0,rfl,k0⟩:=zaj h0
 obtain ⟨_,_,rfl,h1,g2⟩:=za3 g1
 obtain ⟨x1,rfl,k1⟩:=zaj h1
 obtain ⟨_,_,rfl,h2,g3⟩:=za3 g2
 obtain ⟨x2,rfl,k2⟩:=zaj h2
 obtain ⟨_,_,rfl,h3,g4⟩:=za3 g3
 obtain ⟨x3,rfl,k3⟩:=zaj h3
 obtain ⟨_,_,rfl,h4,g5⟩:=zau g4
 obtain ⟨x4,k4,e4⟩:=zl5 h4
 obtain rfl:=V.agg.inj e4
 obtain ⟨_,_,rfl,h5,g6⟩:=za3 g5
 obtain ⟨x5,rfl,j5,k5⟩:=zy2 h5
 obtain ⟨_,_,rfl,h6,g7⟩:=za3 g6
 obtain ⟨x6,rfl,j6,_⟩:=zf8 h6
 obtain ⟨_,_,rfl,h7,g8⟩:=za3 g7
 obtain ⟨x7,rfl,j7,k7⟩:=zxn h7
 obtain rfl:=zb7 g8
 exact ⟨⟨x0,x1,x2,x3,x4,x5,x6,x7⟩,⟨k0,k1,k2,k3,k4,j5,k5,j6,j7,k7⟩,rfl⟩
theorem yix {x:V} (hx:x.leaf= !true) (h:PT.hasAll zj1 x.cells1):∃ a:Tb,x=a.i/\a.ok:=by
 obtain ⟨a,ha,e⟩:=ymw h
 cases x with
 | agg cs=>exact ⟨a,e,ha⟩
 | tup vs=>exfalso;have:=hasAll_leaf h (V.tup vs) (by simp [V.cells1]);cases this
 | _=>cases hx
theorem yk2 {v:V} (h:(PT.list true zj1).has v):∃ as:List Tb,v=.imm 13 (as.map Tb.i)/\as.length<=9223372036854775807/\∀ a∈as,a.ok:=zc5 h fun _ hx h=>yix hx h
def pt_Table:List PT:=.int .i64 :: .list true zj1 :: []
theorem yjm {vs:List V} (g0:PT.hasAll pt_Table vs):∃ a:Tn,a.ok/\V.agg vs=a.i:=by
 unfold pt_Table at g0
 obtain ⟨_,_,rfl,h0,g1⟩:=za3 g0
 obtain ⟨x0,rfl,k0⟩:=zaj h0
 obtain ⟨_,_,rfl,h1,g2⟩:=za3 g1
 obtain ⟨x1,rfl,j1,k1⟩:=yk2 h1
 obtain rfl:=zb7 g2
 exact ⟨⟨x0,x1⟩,⟨k0,j1,k1⟩,rfl⟩
def pt_Call:List PT:=.int .i64 :: .int .i64 :: .int .i64::(pt_Req ++ [])
theorem yci {vs:List V} (g0:PT.hasAll pt_Call vs):∃ a:Ta,a.ok/\V.agg vs=a.i:=by
 unfold pt_Call at g0
 obtain ⟨_,_,rfl,h0,g1⟩:=za3 g0
 obtain ⟨x0,rfl,k0⟩:=zaj h0
 obtain ⟨_,_,rfl,h1,g2⟩:=za3 g1
 obtain ⟨x1,rfl,k1⟩:=zaj h1
 obtain ⟨_,_,rfl,h2,g3⟩:=za3 g2
 obtain ⟨x2,rfl,k2⟩:=zaj h2
 obtain ⟨_,_,rfl,h3,g4⟩:=zau g3
 obtain ⟨x3,k3,e3⟩:=zl5 h3
 obtain rfl:=V.agg.inj e3
 obtain rfl:=zb7 g4
 exact ⟨⟨x0,x1,x2,x3⟩,⟨k0,k1,k2,k3⟩,rfl⟩
theorem yin {x:V} (hx:x.leaf= !true) (h:PT.hasAll pt_Call x.cells1):∃ a:Ta,x=a.i/\a.ok:=by
 obtain ⟨a,ha,e⟩:=yci h
 cases x with
 | agg cs=>exact ⟨a,e,ha⟩
 | tup vs=>exfalso;have:=hasAll_leaf h (V.tup vs) (by simp [V.cells1]);cases this
 | _=>cases hx
theorem yjw {v:V} (h:(PT.list true pt_Call).has v):∃ as:List Ta,v=.imm 9 (as.map Ta.i)/\as.length<=9223372036854775807/\∀ a∈as,a.ok:=zc5 h fun _ hx h=>yin hx h
def pt_Line:List PT:=.list true pt_Call :: .bool::(pt_Call ++ .int .i64 :: .int .i64 :: .int .i64 :: .int .i64 :: .int .i64 :: .int .i64 :: [])
theorem yrp {vs:List V} (g0:PT.hasAll pt_Line vs):∃ a:Tc,a.ok/\V.agg vs=a.i:=by
 unfold pt_Line at g0
 obtain ⟨_,_,rfl,h0,g1⟩:=za3 g0
 obtain ⟨x0,rfl,j0,k0⟩:=yjw h0
 obtain ⟨_,_,rfl,h1,g2⟩:=za3 g1
 obtain ⟨x1,rfl⟩:=znh h1
 obtain ⟨_,_,rfl,h2,g3⟩:=zau g2
 obtain ⟨x2,k2,e2⟩:=yci h2
 obtain rfl:=V.agg.inj e2
 obtain ⟨_,_,rfl,h3,g4⟩:=za3 g3
 obtain ⟨x3,rfl,k3⟩:=zaj h3
 obtain ⟨_,_,rfl,h4,g5⟩:=za3 g4
 obtain ⟨x4,rfl,k4⟩:=zaj h4
 obtain ⟨_,_,rfl,h5,g6⟩:=za3 g5
 obtain ⟨x5,rfl,k5⟩:=zaj h5
 obtain ⟨_,_,rfl,h6,g7⟩:=za3 g6
 obtain ⟨x6,rfl,k6⟩:=zaj h6
 obtain ⟨_,_,rfl,h7,g8⟩:=za3 g7
 obtain ⟨x7,rfl,k7⟩:=zaj h7
 obtain ⟨_,_,rfl,h8,g9⟩:=za3 g8
 obtain ⟨x8,rfl,k8⟩:=zaj h8
 obtain rfl:=zb7 g9
 exact ⟨⟨x0,x1,x2,x3,x4,x5,x6,x7,x8⟩,⟨j0,k0,k2,k3,k4,k5,k6,k7,k8⟩,rfl⟩
theorem yib {x:V} (hx:x.leaf= !true) (h:PT.hasAll pt_Line x.cells1):∃ a:Tc,x=a.i/\a.ok:=by
 obtain ⟨a,ha,e⟩:=yrp h
 cases x with
 | agg cs=>exact ⟨a,e,ha⟩
 | tup vs=>exfalso;have:=hasAll_leaf h (V.tup vs) (by simp [V.cells1]);cases this
 | _=>cases hx
theorem yil {v:V} (h:(PT.list true pt_Line).has v):∃ as:List Tc,v=.imm 17 (as.map Tc.i)/\as.length<=9223372036854775807/\∀ a∈as,a.ok:=zc5 h fun _ hx h=>yib hx h
def pt_Fabric:List PT:=.int .i64::(zje++(pt_Table ++ .list true pt_Line :: .int .i64 :: .int .i64 :: .int .i64 :: .int .i64 :: []))
theorem ye4 {vs:List V} (g0:PT.hasAll pt_Fabric vs):∃ a:To,a.ok/\V.agg vs=a.i:=by
 unfold pt_Fabric at g0
 obtain ⟨_,_,rfl,h0,g1⟩:=za3 g0
 obtain ⟨x0,rfl,k0⟩:=zaj h0
 obtain ⟨_,_,rfl,h1,g2⟩:=zau g1
 obtain ⟨x1,k1,e1⟩:=yh7 h1
 obtain rfl:=V.agg.inj e1
 obtain ⟨_,_,rfl,h2,g3⟩:=zau g2
 obtain ⟨x2,k2,e2⟩:=yjm h2
 obtain rfl:=V.agg.inj e2
 obtain ⟨_,_,rfl,h3,g4⟩:=za3 g3
 obtain ⟨x3,rfl,j3,k3⟩:=yil h3
 obtain ⟨_,_,rfl,h4,g5⟩:=za3 g4
 obtain ⟨x4,rfl,k4⟩:=zaj h4
 obtain ⟨_,_,rfl,h5,g6⟩:=za3 g5
 obtain ⟨x5,rfl,k5⟩:=zaj h5
 obtain ⟨_,_,rfl,h6,g7⟩:=za3 g6
 obtain ⟨x6,rfl,k6⟩:=zaj h6
 obtain ⟨_,_,rfl,h7,g8⟩:=za3 g7
 obtain ⟨x7,rfl,k7⟩:=zaj h7
 obtain rfl:=zb7 g8
 exact ⟨⟨x0,x1,x2,x3,x4,x5,x6,x7⟩,⟨k0,k1,k2,j3,k3,k4,k5,k6,k7⟩,rfl⟩
def zji:List PT:=.list false [.bool] :: .list false [.bool] :: .list false [.int .i64] :: .list false [.int .i64] :: []
theorem ygz {vs:List V} (g0:PT.hasAll zji vs):∃ a:Tq,a.ok/\V.agg vs=a.i:=by
 unfold zji at g0
 obtain ⟨_,_,rfl,h0,g1⟩:=za3 g0
 obtain ⟨x0,rfl,j0,_⟩:=zf8 h0
 obtain ⟨_,_,rfl,h1,g2⟩:=za3 g1
 obtain ⟨x1,rfl,j1,_⟩:=zf8 h1
 obtain ⟨_,_,rfl,h2,g3⟩:=za3 g2
 obtain ⟨x2,rfl,j2,k2⟩:=zi0 h2
 obtain ⟨_,_,rfl,h3,g4⟩:=za3 g3
 obtain ⟨x3,rfl,j3,k3⟩:=zi0 h3
 obtain rfl:=zb7 g4
 exact ⟨⟨x0,x1,x2,x3⟩,⟨j0,j1,j2,k2,j3,k3⟩,rfl⟩
def pt_Post:List PT:=.int .i64 :: .int .i64::(zji ++ [])
theorem yr3 {vs:List V} (g0:PT.hasAll pt_Post vs):∃ a:Tf,a.ok/\V.agg vs=a.i:=by
 unfold pt_Post at g0
 obtain ⟨_,_,rfl,h0,g1⟩:=za3 g0
 obtain ⟨x0,rfl,k0⟩:=zaj h0
 obtain ⟨_,_,rfl,h1,g2⟩:=za3 g1
 obtain ⟨x1,rfl,k1⟩:=zaj h1
 obtain ⟨_,_,rfl,h2,g3⟩:=zau g2
 obtain ⟨x2,k2,e2⟩:=ygz h2
 obtain rfl:=V.agg.inj e2
 obtain rfl:=zb7 g3
 exact ⟨⟨x0,x1,x2⟩,⟨k0,k1,k2⟩,rfl⟩
theorem yj6 {x:V} (hx:x.leaf= !true) (h:PT.hasAll pt_Post x.cells1):∃ a:Tf,x=a.i/\a.ok:=by
 obtain ⟨a,ha,e⟩:=yr3 h
 cases x with
 | agg cs=>exact ⟨a,e,ha⟩
 | tup vs=>exfalso;have:=hasAll_leaf h (V.tup vs) (by simp [V.cells1]);cases this
 | _=>cases hx
theorem yj9 {v:V} (h:(PT.list true pt_Post).has v):∃ as:List Tf,v=.imm 6 (as.map Tf.i)/\as.length<=9223372036854775807/\∀ a∈as,a.ok:=zc5 h fun _ hx h=>yj6 hx h
def zf4:List PT:=.bool :: .int .i64 :: .int .i64 :: .int .i64::(pt_Req++(zed ++ []))
theorem ye2 {vs:List V} (g0:PT.hasAll zf4 vs):∃ a:Tg,a.ok/\V.agg vs=a.i:=by
 unfold zf4 at g0
 obtain ⟨_,_,rfl,h0,g1⟩:=za3 g0
 obtain ⟨x0,rfl⟩:=znh h0
 obtain ⟨_,_,rfl,h1,g2⟩:=za3 g1
 obtain ⟨x1,rfl,k1⟩:=zaj h1
 obtain ⟨_,_,rfl,h2,g3⟩:=za3 g2
 obtain ⟨x2,rfl,k2⟩:=zaj h2
 obtain ⟨_,_,rfl,h3,g4⟩:=za3 g3
 obtain ⟨x3,rfl,k3⟩:=zaj h3
 obtain ⟨_,_,rfl,h4,g5⟩:=zau g4
 obtain ⟨x4,k4,e4⟩:=zl5 h4
 obtain rfl:=V.agg.inj e4
 obtain ⟨_,_,rfl,h5,g6⟩:=zau g5
 obtain ⟨x5,k5,e5⟩:=zn2 h5
 obtain rfl:=V.agg.inj e5
 obtain rfl:=zb7 g6
 exact ⟨⟨x0,x1,x2,x3,x4,x5⟩,⟨k1,k2,k3,k4,k5⟩,rfl⟩
theorem zyh {x:V} (hx:x.leaf= !true) (h:PT.hasAll zf4 x.cells1):∃ a:Tg,x=a.i/\a.ok:=by
 obtain ⟨a,ha,e⟩:=ye2 h
 cases x with
 | agg cs=>exact ⟨a,e,ha⟩
 | tup vs=>exfalso;have:=hasAll_leaf h (V.tup vs) (by simp [V.cells1]);cases this
 | _=>cases hx
theorem zzk {v:V} (h:(PT.list true zf4).has v):∃ as:List Tg,v=.imm 16 (as.map Tg.i)/\as.length<=9223372036854775807/\∀ a∈as,a.ok:=zc5 h fun _ hx h=>zyh hx h
def zgt:List PT:=.int .i64 :: .int .i64::(pt_Req ++ .list true pt_Part :: .list true zed::(zed ++ []))
theorem yke {vs:List V} (g0:PT.hasAll zgt vs):∃ a:Ti,a.ok/\V.agg vs=a.i:=by
 unfold zgt at g0
 obtain ⟨_,_,rfl,h0,g1⟩:=za3 g0
 obtain ⟨x0,rfl,k0⟩:=zaj h0
 obtain ⟨_,_,rfl,h1,g2⟩:=za3 g1
 obtain ⟨x1,rfl,k1⟩:=zaj h1
 obtain ⟨_,_,rfl,h2,g3⟩:=zau g2
 obtain ⟨x2,k2,e2⟩:=zl5 h2
 obtain rfl:=V.agg.inj e2
 obtain ⟨_,_,rfl,h3,g4⟩:=za3 g3
 obtain ⟨x3,rfl,j3,k3⟩:=zy2 h3
 obtain ⟨_,_,rfl,h4,g5⟩:=za3 g4
 obtain ⟨x4,rfl,j4,k4⟩:=zxn h4
 obtain ⟨_,_,rfl,h5,g6⟩:=zau g5
 obtain ⟨x5,k5,e5⟩:=zn2 h5
 obtain rfl:=V.agg.inj e5
 obtain rfl:=zb7 g6
 exact ⟨⟨x0,x1,x2,x3,x4,x5⟩,⟨k0,k1,k2,j3,k3,j4,k4,k5⟩,rfl⟩
theorem yb4 {x:V} (hx:x.leaf= !true) (h:PT.hasAll zgt x.cells1):∃ a:Ti,x=a.i/\a.ok:=by
 obtain ⟨a,ha,e⟩:=yke h
 cases x with
 | agg cs=>exact ⟨a,e,ha⟩
 | tup vs=>exfalso;have:=hasAll_leaf h (V.tup vs) (by simp [V.cells1]);cases this
 | _=>cases hx
theorem yi4 {v:V} (h:(PT.list true zgt).has v):∃ as:List Ti,v=.imm 16 (as.map Ti.i)/\as.length<=9223372036854775807/\∀ a∈as,a.ok:=zc5 h fun _ hx h=>yb4 hx h
def zez:List PT:=.int .i64 :: .int .i64 :: .int .i64::(pt_Req++(zed ++ []))
theorem yi3 {vs:List V} (g0:PT.hasAll zez vs):∃ a:Tj,a.ok/\V.agg vs=a.i:=by
 unfold zez at g0
 obtain ⟨_,_,rfl,h0,g1⟩:=za3 g0
 obtain ⟨x0,rfl,k0⟩:=zaj h0
 obtain ⟨_,_,rfl,h1,g2⟩:=za3 g1
 obtain ⟨x1,rfl,k1⟩:=zaj h1
 obtain ⟨_,_,rfl,h2,g3⟩:=za3 g2
 obtain ⟨x2,rfl,k2⟩:=zaj h2
 obtain ⟨_,_,rfl,h3,g4⟩:=zau g3
 obtain ⟨x3,k3,e3⟩:=zl5 h3
 obtain rfl:=V.agg.inj e3
 obtain ⟨_,_,rfl,h4,g5⟩:=zau g4
 obtain ⟨x4,k4,e4⟩:=zn2 h4
 obtain rfl:=V.agg.inj e4
 obtain rfl:=zb7 g5
 exact ⟨⟨x0,x1,x2,x3,x4⟩,⟨k0,k1,k2,k3,k4⟩,rfl⟩
theorem zzy {x:V} (hx:x.leaf= !true) (h:PT.hasAll zez x.cells1):∃ a:Tj,x=a.i/\a.ok:=by
 obtain ⟨a,ha,e⟩:=yi3 h
 cases x with
 | agg cs=>exact ⟨a,e,ha⟩
 | tup vs=>exfalso;have:=hasAll_leaf h (V.tup vs) (by simp [V.cells1]);cases this
 | _=>cases hx
theorem zzu {v:V} (h:(PT.list true zez).has v):∃ as:List Tj,v=.imm 15 (as.map Tj.i)/\as.length<=9223372036854775807/\∀ a∈as,a.ok:=zc5 h fun _ hx h=>zzy hx h
def zhx:List PT:=(pt_Fabric ++ .list true pt_Post :: .list true zf4 :: .list true zgt :: .list true zez :: [])
theorem yic {vs:List V} (g0:PT.hasAll zhx vs):∃ a:Tp,a.ok/\V.agg vs=a.i:=by
 unfold zhx at g0
 obtain ⟨_,_,rfl,h0,g1⟩:=zau g0
 obtain ⟨x0,k0,e0⟩:=ye4 h0
 obtain rfl:=V.agg.inj e0
 obtain ⟨_,_,rfl,h1,g2⟩:=za3 g1
 obtain ⟨x1,rfl,j1,k1⟩:=yj9 h1
 obtain ⟨_,_,rfl,h2,g3⟩:=za3 g2
 obtain ⟨x2,rfl,j2,k2⟩:=zzk h2
 obtain ⟨_,_,rfl,h3,g4⟩:=za3 g3
 obtain ⟨x3,rfl,j3,k3⟩:=yi4 h3
 obtain ⟨_,_,rfl,h4,g5⟩:=za3 g4
 obtain ⟨x4,rfl,j4,k4⟩:=zzu h4
 obtain rfl:=zb7 g5
 exact ⟨⟨x0,x1,x2,x3,x4⟩,⟨k0,j1,k1,j2,k2,j3,k3,j4,k4⟩,rfl⟩
theorem yhd {x:V} (hx:x.leaf= !true) (h:PT.hasAll zhx x.cells1):∃ a:Tp,x=a.i/\a.ok:=by
 obtain ⟨a,ha,e⟩:=yic h
 cases x with
 | agg cs=>exact ⟨a,e,ha⟩
 | tup vs=>exfalso;have:=hasAll_leaf h (V.tup vs) (by simp [V.cells1]);cases this
 | _=>cases hx
end Go.Pm
namespace Go.Pm
set_option maxRecDepth 100000
set_option maxHeartbeats 400000
theorem zi1 (a:List Int) (h:a.length<=9223372036854775807):SzOk (yrw a) (a.length):=SzOk.of (fun l=>rfl) (SzOk.len h)
theorem zi3 (a:List Int) (h:a.length<=1048576):yn6 a=some a:=by
 have hl:a.length<=1048576:=h
 rw [yn6,if_pos ⟨by omega,by rw [zab];omega⟩]
 unfold zss
 rw [if_pos (by omega),zhs (xs:=a)]
 ·rw [yaa];rfl
 ·intro d x t s he hd
  rw [yfp]
  obtain ⟨z,hz⟩:∃ z,s[d.length]? =some z:=⟨s[d.length],List.getElem?_eq_getElem hd⟩
  simp only [zab,List.length_map,Nat.sub_zero]
  rw [if_pos ⟨by omega,by omega⟩]
  simp only [hz,Option.bind_some,List.set_set,List.length_set,hd,zd2]
 ·simp
theorem zhw (a:List Int) (h:a.length<=1048576):yrh a a=some true:=by
 have hl:a.length<=1048576:=h
 rw [yrh]
 unfold zux
 rw [if_pos (by omega),ya1 (xs:=a)]
 ·simp only [ne_eq,not_true_eq_false,decide_false,cond_false,ydo];rfl
 ·intro d x t he
  rw [yb2]
  simp only [zab,zbu he,Option.bind_some,ne_eq,not_true_eq_false,decide_false,cond_false,BEq.rfl,bne_self_eq_false,Bool.true_xor,Bool.not_true]
theorem zev (a:List Bool) (h:a.length<=9223372036854775807):SzOk (yr2 a) (a.length):=SzOk.of (fun l=>rfl) (SzOk.len h)
theorem zem (a:List Bool) (h:a.length<=1048576):yl5 a=some a:=by
 have hl:a.length<=1048576:=h
 rw [yl5,if_pos ⟨by omega,by rw [zab];omega⟩]
 unfold zu6
 rw [if_pos (by omega),zhs (xs:=a)]
 ·rw [yb7];rfl
 ·intro d x t s he hd
  rw [ygt]
  obtain ⟨z,hz⟩:∃ z,s[d.length]? =some z:=⟨s[d.length],List.getElem?_eq_getElem hd⟩
  simp only [zab,List.length_map,Nat.sub_zero]
  rw [if_pos ⟨by omega,by omega⟩]
  simp only [hz,Option.bind_some,List.set_set,List.length_set,hd,zd2]
 ·simp
theorem zf9 (a:List Bool) (h:a.length<=1048576):ylp a a=some true:=by
 have hl:a.length<=1048576:=h
 rw [ylp]
 unfold zuq
 rw [if_pos (by omega),ya1 (xs:=a)]
 ·simp only [ne_eq,not_true_eq_false,decide_false,cond_false,yb9];rfl
 ·intro d x t he
  rw [ydu]
  simp only [zab,zbu he,Option.bind_some,ne_eq,not_true_eq_false,decide_false,cond_false,BEq.rfl,bne_self_eq_false,Bool.true_xor,Bool.not_true]
theorem yk6 (a:Te) (h:a.sz<=1048576):yzb a=some a:=by rw [yzb]
theorem yj5 (a:Te) (h:a.sz<=1048576):qbu a a=some true:=by
 simp only [Te.sz] at h
 rw [qbu]
 simp only [Option.bind_some,ne_eq,not_true_eq_false,decide_false,cond_false,BEq.rfl,bne_self_eq_false,Bool.true_xor,Bool.not_true]
theorem ye5 (a:List Te) (h:a.length<=9223372036854775807):SzOk (qdd a) (a.length):=SzOk.of (fun l=>rfl) (SzOk.len h)
theorem ya9 (a:List Te) (h:a.length<=1048576):qc3 a=some a:=by
 have hl:a.length<=1048576:=h
 rw [qc3,if_pos ⟨by omega,by rw [zab];omega⟩]
 unfold zt5
 rw [if_pos (by omega),zhs (xs:=a)]
 ·rw [yca];rfl
 ·intro d x t s he hd
  rw [ycw]
  obtain ⟨z,hz⟩:∃ z,s[d.length]? =some z:=⟨s[d.length],List.getElem?_eq_getElem hd⟩
  simp only [yk6 x (by simp [Te.sz]),Option.bind_some,zab,List.length_map,Nat.sub_zero]
  rw [if_pos ⟨by omega,by omega⟩]
  simp only [hz,Option.bind_some,List.set_set,List.length_set,hd,zd2]
 ·simp
theorem yfb (a:List Te) (h:a.length<=1048576):yuq a a=some true:=by
 have hl:a.length<=1048576:=h
 rw [yuq]
 unfold zwp
 rw [if_pos (by omega),ya1 (xs:=a)]
 ·simp only [ne_eq,not_true_eq_false,decide_false,cond_false,ydw];rfl
 ·intro d x t he
  rw [ygf]
  simp only [zab,zbu he,Option.bind_some,yj5 x (by simp [Te.sz]),ne_eq,not_true_eq_false,decide_false,cond_false,BEq.rfl,bne_self_eq_false,Bool.true_xor,Bool.not_true]
theorem zzs (a:Tr) (h:a.ok):SzOk (qee a) (a.sz):=SzOk.of (fun l=>rfl) (SzOk.one (ye5 a.fah (by exact h.2.2.1)))
theorem zyp (a:Tr) (h:a.sz<=1048576):qbn a=some a:=by
 simp only [Tr.sz] at h
 rw [qbn]
 simp only [ya9 a.fah (by first|omega|(simp only [Tr.sz];omega)),Option.bind_some]
theorem zzw (a:Tr) (h:a.sz<=1048576):ywx a a=some true:=by
 simp only [Tr.sz] at h
 rw [ywx]
 simp only [yfb a.fah (by first|omega|(simp only [Tr.sz];omega)),Option.bind_some,ne_eq,not_true_eq_false,decide_false,cond_false,BEq.rfl,bne_self_eq_false,Bool.true_xor,Bool.not_true]
theorem zh2 (a:Tk) (h:a.ok):SzOk (ykx a) (a.sz):=SzOk.of (fun l=>rfl) (SzOk.seq (zi1 a.fb (by exact h.2.2.2.1)) (SzOk.one (zev a.fc (by exact h.2.2.2.2.2.1))))
theorem zh7 (a:Tk) (h:a.sz<=1048576):yjj a=some a:=by
 simp only [Tk.sz] at h
 rw [yjj]
 simp only [zi3 a.fb (by first|omega|(simp only [Tk.sz];omega)),zem a.fc (by first|omega|(simp only [Tk.sz];omega)),Option.bind_some]
theorem zh9 (a:Tk) (h:a.sz<=1048576):ykm a a=some true:=by
 simp only [Tk.sz] at h
 rw [ykm]
 simp only [zhw a.fb (by first|omega|(simp only [Tk.sz];omega)),zf9 a.fc (by first|omega|(simp only [Tk.sz];omega)),Option.bind_some,ne_eq,not_true_eq_false,decide_false,cond_false,BEq.rfl,bne_self_eq_false,Bool.true_xor,Bool.not_true]
theorem yjo (a:Th) (h:a.ok):SzOk (qf1 a) (a.sz):=SzOk.of (fun l=>rfl) (SzOk.one (zh2 a.fa (by exact h.2.2)))
theorem yk1 (a:Th) (h:a.sz<=1048576):yw0 a=some a:=by
 simp only [Th.sz] at h
 rw [yw0]
 simp only [zh7 a.fa (by first|omega|(simp only [Th.sz];omega)),Option.bind_some]
theorem yik (a:Th) (h:a.sz<=1048576):qcg a a=some true:=by
 simp only [Th.sz] at h
 rw [qcg]
 simp only [zh9 a.fa (by first|omega|(simp only [Th.sz];omega)),Option.bind_some,ne_eq,not_true_eq_false,decide_false,cond_false,BEq.rfl,bne_self_eq_false,Bool.true_xor,Bool.not_true]
theorem zqt (a:List Th) (h:a.length<=9223372036854775807/\∀ b∈a,b.ok):SzOk (yux a) (szL Th.sz a):=SzOk.of (fun l=>rfl) (SzOk.list h.1 (fun x hx=>yjo x (h.2 x hx)) (fun k x s=>rfl) (fun s=>rfl))
theorem zq8 (a:List Th) (h:szL Th.sz a<=1048576):yuf a=some a:=by
 have hl:a.length<=1048576:=by have:=zay (f:=Th.sz) (xs:=a);omega
 rw [yuf,if_pos ⟨by omega,by rw [zab];omega⟩]
 unfold zt9
 rw [if_pos (by omega),zhs (xs:=a)]
 ·rw [ygk];rfl
 ·intro d x t s he hd
  rw [yer]
  obtain ⟨z,hz⟩:∃ z,s[d.length]? =some z:=⟨s[d.length],List.getElem?_eq_getElem hd⟩
  simp only [yk1 x (by have:=zan (f:=Th.sz) (he ▸ (by simp:x∈d++x::t));omega),Option.bind_some,zab,List.length_map,Nat.sub_zero]
  rw [if_pos ⟨by omega,by omega⟩]
  simp only [hz,Option.bind_some,List.set_set,List.length_set,hd,zd2]
 ·simp
theorem zqf (a:List Th) (h:szL Th.sz a<=1048576):yte a a=some true:=by
 have hl:a.length<=1048576:=by have:=zay (f:=Th.sz) (xs:=a);omega
 rw [yte]
 unfold zv1
 rw [if_pos (by omega),ya1 (xs:=a)]
 ·simp only [ne_eq,not_true_eq_false,decide_false,cond_false,ydt];rfl
 ·intro d x t he
  rw [yfc]
  simp only [zab,zbu he,Option.bind_some,yik x (by have:=zan (f:=Th.sz) (he ▸ (by simp:x∈d++x::t));omega),ne_eq,not_true_eq_false,decide_false,cond_false,BEq.rfl,bne_self_eq_false,Bool.true_xor,Bool.not_true]
theorem zie (a:Td) (h:a.ok):SzOk (ysb a) (a.sz):=SzOk.of (fun l=>rfl) (SzOk.seq (zi1 a.fb (by exact h.2.2.2.2.1)) (SzOk.one (zev a.fc (by exact h.2.2.2.2.2.2))))
theorem zic (a:Td) (h:a.sz<=1048576):ypx a=some a:=by
 simp only [Td.sz] at h
 rw [ypx]
 simp only [zi3 a.fb (by first|omega|(simp only [Td.sz];omega)),zem a.fc (by first|omega|(simp only [Td.sz];omega)),Option.bind_some]
theorem zif (a:Td) (h:a.sz<=1048576):yqr a a=some true:=by
 simp only [Td.sz] at h
 rw [yqr]
 simp only [zhw a.fb (by first|omega|(simp only [Td.sz];omega)),zf9 a.fc (by first|omega|(simp only [Td.sz];omega)),Option.bind_some,ne_eq,not_true_eq_false,decide_false,cond_false,BEq.rfl,bne_self_eq_false,Bool.true_xor,Bool.not_true]
theorem zqk (a:List Td) (h:a.length<=9223372036854775807/\∀ b∈a,b.ok):SzOk (qb3 a) (szL Td.sz a):=SzOk.of (fun l=>rfl) (SzOk.list h.1 (fun x hx=>zie x (h.2 x hx)) (fun k x s=>rfl) (fun s=>rfl))
theorem zrg (a:List Td) (h:szL Td.sz a<=1048576):yu5 a=some a:=by
 have hl:a.length<=1048576:=by have:=zay (f:=Td.sz) (xs:=a);omega
 rw [yu5,if_pos ⟨by omega,by rw [zab];omega⟩]
 unfold ztq
 rw [if_pos (by omega),zhs (xs:=a)]
 ·rw [yh3];rfl
 ·intro d x t s he hd
  rw [yc6]
  obtain ⟨z,hz⟩:∃ z,s[d.length]? =some z:=⟨s[d.length],List.getElem?_eq_getElem hd⟩
  simp only [zic x (by have:=zan (f:=Td.sz) (he ▸ (by simp:x∈d++x::t));omega),Option.bind_some,zab,List.length_map,Nat.sub_zero]
  rw [if_pos ⟨by omega,by omega⟩]
  simp only [hz,Option.bind_some,List.set_set,List.length_set,hd,zd2]
 ·simp
theorem zr1 (a:List Td) (h:szL Td.sz a<=1048576):yu3 a a=some true:=by
 have hl:a.length<=1048576:=by have:=zay (f:=Td.sz) (xs:=a);omega
 rw [yu3]
 unfold zvk
 rw [if_pos (by omega),ya1 (xs:=a)]
 ·simp only [ne_eq,not_true_eq_false,decide_false,cond_false,yas];rfl
 ·intro d x t he
  rw [yb8]
  simp only [zab,zbu he,Option.bind_some,zif x (by have:=zan (f:=Td.sz) (he ▸ (by simp:x∈d++x::t));omega),ne_eq,not_true_eq_false,decide_false,cond_false,BEq.rfl,bne_self_eq_false,Bool.true_xor,Bool.not_true]
theorem yjl (a:Tb) (h:a.ok):SzOk (qjv a) (a.sz):=SzOk.of (fun l=>rfl) (SzOk.seq (zh2 a.fa (by exact h.2.2.2.2.1)) (SzOk.seq (zqt a.fo (by exact ⟨h.2.2.2.2.2.1,h.2.2.2.2.2.2.1⟩)) (SzOk.seq (zev a.fu (by exact h.2.2.2.2.2.2.2.1)) (SzOk.one (zqk a.fab (by exact ⟨h.2.2.2.2.2.2.2.2.1,h.2.2.2.2.2.2.2.2.2⟩))))))
theorem yjz (a:Tb) (h:a.sz<=1048576):qab a=some a:=by
 simp only [Tb.sz] at h
 rw [qab]
 simp only [zh7 a.fa (by first|omega|(simp only [Tb.sz];omega)),zq8 a.fo (by first|omega|(simp only [Tb.sz];omega)),zem a.fu (by first|omega|(simp only [Tb.sz];omega)),zrg a.fab (by first|omega|(simp only [Tb.sz];omega)),Option.bind_some]
theorem yif (a:Tb) (h:a.sz<=1048576):qc5 a a=some true:=by
 simp only [Tb.sz] at h
 rw [qc5]
 simp only [zh9 a.fa (by first|omega|(simp only [Tb.sz];omega)),zqf a.fo (by first|omega|(simp only [Tb.sz];omega)),zf9 a.fu (by first|omega|(simp only [Tb.sz];omega)),zr1 a.fab (by first|omega|(simp only [Tb.sz];omega)),Option.bind_some,ne_eq,not_true_eq_false,decide_false,cond_false,BEq.rfl,bne_self_eq_false,Bool.true_xor,Bool.not_true]
theorem yaw (a:List Tb) (h:a.length<=9223372036854775807/\∀ b∈a,b.ok):SzOk (qdj a) (szL Tb.sz a):=SzOk.of (fun l=>rfl) (SzOk.list h.1 (fun x hx=>yjl x (h.2 x hx)) (fun k x s=>rfl) (fun s=>rfl))
theorem yhs (a:List Tb) (h:szL Tb.sz a<=1048576):yy0 a=some a:=by
 have hl:a.length<=1048576:=by have:=zay (f:=Tb.sz) (xs:=a);omega
 rw [yy0,if_pos ⟨by omega,by rw [zab];omega⟩]
 unfold zuo
 rw [if_pos (by omega),zhs (xs:=a)]
 ·rw [yc8];rfl
 ·intro d x t s he hd
  rw [yec]
  obtain ⟨z,hz⟩:∃ z,s[d.length]? =some z:=⟨s[d.length],List.getElem?_eq_getElem hd⟩
  simp only [yjz x (by have:=zan (f:=Tb.sz) (he ▸ (by simp:x∈d++x::t));omega),Option.bind_some,zab,List.length_map,Nat.sub_zero]
  rw [if_pos ⟨by omega,by omega⟩]
  simp only [hz,Option.bind_some,List.set_set,List.length_set,hd,zd2]
 ·simp
theorem yd3 (a:List Tb) (h:szL Tb.sz a<=1048576):ywk a a=some true:=by
 have hl:a.length<=1048576:=by have:=zay (f:=Tb.sz) (xs:=a);omega
 rw [ywk]
 unfold zup
 rw [if_pos (by omega),ya1 (xs:=a)]
 ·simp only [ne_eq,not_true_eq_false,decide_false,cond_false,yae];rfl
 ·intro d x t he
  rw [yem]
  simp only [zab,zbu he,Option.bind_some,yif x (by have:=zan (f:=Tb.sz) (he ▸ (by simp:x∈d++x::t));omega),ne_eq,not_true_eq_false,decide_false,cond_false,BEq.rfl,bne_self_eq_false,Bool.true_xor,Bool.not_true]
theorem ygc (a:Tn) (h:a.ok):SzOk (qik a) (a.sz):=SzOk.of (fun l=>rfl) (SzOk.one (yaw a.fj (by exact ⟨h.2.1,h.2.2⟩)))
theorem ycp (a:Tn) (h:a.sz<=1048576):yyb a=some a:=by
 simp only [Tn.sz] at h
 rw [yyb]
 simp only [yhs a.fj (by first|omega|(simp only [Tn.sz];omega)),Option.bind_some]
theorem ygq (a:Tn) (h:a.sz<=1048576):yvx a a=some true:=by
 simp only [Tn.sz] at h
 rw [yvx]
 simp only [yd3 a.fj (by first|omega|(simp only [Tn.sz];omega)),Option.bind_some,ne_eq,not_true_eq_false,decide_false,cond_false,BEq.rfl,bne_self_eq_false,Bool.true_xor,Bool.not_true]
theorem zy4 (a:Ta) (h:a.ok):SzOk (yyd a) (a.sz):=SzOk.of (fun l=>rfl) (SzOk.one (zh2 a.fa (by exact h.2.2.2)))
theorem zyb (a:Ta) (h:a.sz<=1048576):ysy a=some a:=by
 simp only [Ta.sz] at h
 rw [ysy]
 simp only [zh7 a.fa (by first|omega|(simp only [Ta.sz];omega)),Option.bind_some]
theorem zxo (a:Ta) (h:a.sz<=1048576):ysv a a=some true:=by
 simp only [Ta.sz] at h
 rw [ysv]
 simp only [zh9 a.fa (by first|omega|(simp only [Ta.sz];omega)),Option.bind_some,ne_eq,not_true_eq_false,decide_false,cond_false,BEq.rfl,bne_self_eq_false,Bool.true_xor,Bool.not_true]
theorem yav (a:List Ta) (h:a.length<=9223372036854775807/\∀ b∈a,b.ok):SzOk (qge a) (szL Ta.sz a):=SzOk.of (fun l=>rfl) (SzOk.list h.1 (fun x hx=>zy4 x (h.2 x hx)) (fun k x s=>rfl) (fun s=>rfl))
theorem ygn (a:List Ta) (h:szL Ta.sz a<=1048576):qag a=some a:=by
 have hl:a.length<=1048576:=by have:=zay (f:=Ta.sz) (xs:=a);omega
 rw [qag,if_pos ⟨by omega,by rw [zab];omega⟩]
 unfold zrv
 rw [if_pos (by omega),zhs (xs:=a)]
 ·rw [ybp];rfl
 ·intro d x t s he hd
  rw [yal]
  obtain ⟨z,hz⟩:∃ z,s[d.length]? =some z:=⟨s[d.length],List.getElem?_eq_getElem hd⟩
  simp only [zyb x (by have:=zan (f:=Ta.sz) (he ▸ (by simp:x∈d++x::t));omega),Option.bind_some,zab,List.length_map,Nat.sub_zero]
  rw [if_pos ⟨by omega,by omega⟩]
  simp only [hz,Option.bind_some,List.set_set,List.length_set,hd,zd2]
 ·simp
theorem ygg (a:List Ta) (h:szL Ta.sz a<=1048576):yyc a a=some true:=by
 have hl:a.length<=1048576:=by have:=zay (f:=Ta.sz) (xs:=a);omega
 rw [yyc]
 unfold zvn
 rw [if_pos (by omega),ya1 (xs:=a)]
 ·simp only [ne_eq,not_true_eq_false,decide_false,cond_false,yd7];rfl
 ·intro d x t he
  rw [yak]
  simp only [zab,zbu he,Option.bind_some,zxo x (by have:=zan (f:=Ta.sz) (he ▸ (by simp:x∈d++x::t));omega),ne_eq,not_true_eq_false,decide_false,cond_false,BEq.rfl,bne_self_eq_false,Bool.true_xor,Bool.not_true]
theorem ykk (a:Tc) (h:a.ok):SzOk (qj7 a) (a.sz):=SzOk.of (fun l=>rfl) (SzOk.seq (yav a.fac (by exact ⟨h.1,h.2.1⟩)) (SzOk.one (zy4 a.ff (by exact h.2.2.1))))
theorem yjb (a:Tc) (h:a.sz<=1048576):yvk a=some a:=by
 simp only [Tc.sz] at h
 rw [yvk]
 simp only [ygn a.fac (by first|omega|(simp only [Tc.sz];omega)),zyb a.ff (by first|omega|(simp only [Tc.sz];omega)),Option.bind_some]
theorem ykd (a:Tc) (h:a.sz<=1048576):yz0 a a=some true:=by
 simp only [Tc.sz] at h
 rw [yz0]
 simp only [ygg a.fac (by first|omega|(simp only [Tc.sz];omega)),zxo a.ff (by first|omega|(simp only [Tc.sz];omega)),Option.bind_some,ne_eq,not_true_eq_false,decide_false,cond_false,BEq.rfl,bne_self_eq_false,Bool.true_xor,Bool.not_true]
theorem yat (a:List Tc) (h:a.length<=9223372036854775807/\∀ b∈a,b.ok):SzOk (qdn a) (szL Tc.sz a):=SzOk.of (fun l=>rfl) (SzOk.list h.1 (fun x hx=>ykk x (h.2 x hx)) (fun k x s=>rfl) (fun s=>rfl))
theorem yfm (a:List Tc) (h:szL Tc.sz a<=1048576):qct a=some a:=by
 have hl:a.length<=1048576:=by have:=zay (f:=Tc.sz) (xs:=a);omega
 rw [qct,if_pos ⟨by omega,by rw [zab];omega⟩]
 unfold zua
 rw [if_pos (by omega),zhs (xs:=a)]
 ·rw [yfs];rfl
 ·intro d x t s he hd
  rw [yby]
  obtain ⟨z,hz⟩:∃ z,s[d.length]? =some z:=⟨s[d.length],List.getElem?_eq_getElem hd⟩
  simp only [yjb x (by have:=zan (f:=Tc.sz) (he ▸ (by simp:x∈d++x::t));omega),Option.bind_some,zab,List.length_map,Nat.sub_zero]
  rw [if_pos ⟨by omega,by omega⟩]
  simp only [hz,Option.bind_some,List.set_set,List.length_set,hd,zd2]
 ·simp
theorem yaz (a:List Tc) (h:szL Tc.sz a<=1048576):yzy a a=some true:=by
 have hl:a.length<=1048576:=by have:=zay (f:=Tc.sz) (xs:=a);omega
 rw [yzy]
 unfold zw5
 rw [if_pos (by omega),ya1 (xs:=a)]
 ·simp only [ne_eq,not_true_eq_false,decide_false,cond_false,yao];rfl
 ·intro d x t he
  rw [yd5]
  simp only [zab,zbu he,Option.bind_some,ykd x (by have:=zan (f:=Tc.sz) (he ▸ (by simp:x∈d++x::t));omega),ne_eq,not_true_eq_false,decide_false,cond_false,BEq.rfl,bne_self_eq_false,Bool.true_xor,Bool.not_true]
theorem zzv (a:To) (h:a.ok):SzOk (qe7 a) (a.sz):=SzOk.of (fun l=>rfl) (SzOk.seq (zzs a.ft (by exact h.2.1)) (SzOk.seq (ygc a.fq (by exact h.2.2.1)) (SzOk.one (yat a.faa (by exact ⟨h.2.2.2.1,h.2.2.2.2.1⟩)))))
theorem zzb (a:To) (h:a.sz<=1048576):yzx a=some a:=by
 simp only [To.sz] at h
 rw [yzx]
 simp only [zyp a.ft (by first|omega|(simp only [To.sz];omega)),ycp a.fq (by first|omega|(simp only [To.sz];omega)),yfm a.faa (by first|omega|(simp only [To.sz];omega)),Option.bind_some]
theorem zyn (a:To) (h:a.sz<=1048576):yy9 a a=some true:=by
 simp only [To.sz] at h
 rw [yy9]
 simp only [zzw a.ft (by first|omega|(simp only [To.sz];omega)),ygq a.fq (by first|omega|(simp only [To.sz];omega)),yaz a.faa (by first|omega|(simp only [To.sz];omega)),Option.bind_some,ne_eq,not_true_eq_false,decide_false,cond_false,BEq.rfl,bne_self_eq_false,Bool.true_xor,Bool.not_true]
theorem zz9 (a:Tq) (h:a.ok):SzOk (qg9 a) (a.sz):=SzOk.of (fun l=>rfl) (SzOk.seq (zev a.fao (by exact h.1)) (SzOk.seq (zev a.fap (by exact h.2.1)) (SzOk.seq (zi1 a.fam (by exact h.2.2.1)) (SzOk.one (zi1 a.fb (by exact h.2.2.2.2.1))))))
theorem zyy (a:Tq) (h:a.sz<=1048576):qcc a=some a:=by
 simp only [Tq.sz] at h
 rw [qcc]
 simp only [zem a.fao (by first|omega|(simp only [Tq.sz];omega)),zem a.fap (by first|omega|(simp only [Tq.sz];omega)),zi3 a.fam (by first|omega|(simp only [Tq.sz];omega)),zi3 a.fb (by first|omega|(simp only [Tq.sz];omega)),Option.bind_some]
theorem zzx (a:Tq) (h:a.sz<=1048576):yx2 a a=some true:=by
 simp only [Tq.sz] at h
 rw [yx2]
 simp only [zf9 a.fao (by first|omega|(simp only [Tq.sz];omega)),zf9 a.fap (by first|omega|(simp only [Tq.sz];omega)),zhw a.fam (by first|omega|(simp only [Tq.sz];omega)),zhw a.fb (by first|omega|(simp only [Tq.sz];omega)),Option.bind_some,ne_eq,not_true_eq_false,decide_false,cond_false,BEq.rfl,bne_self_eq_false,Bool.true_xor,Bool.not_true]
theorem yiq (a:Tf) (h:a.ok):SzOk (qeh a) (a.sz):=SzOk.of (fun l=>rfl) (SzOk.one (zz9 a.fD (by exact h.2.2)))
theorem yiy (a:Tf) (h:a.sz<=1048576):yw6 a=some a:=by
 simp only [Tf.sz] at h
 rw [yw6]
 simp only [zyy a.fD (by first|omega|(simp only [Tf.sz];omega)),Option.bind_some]
theorem yim (a:Tf) (h:a.sz<=1048576):qcy a a=some true:=by
 simp only [Tf.sz] at h
 rw [qcy]
 simp only [zzx a.fD (by first|omega|(simp only [Tf.sz];omega)),Option.bind_some,ne_eq,not_true_eq_false,decide_false,cond_false,BEq.rfl,bne_self_eq_false,Bool.true_xor,Bool.not_true]
theorem ybc (a:List Tf) (h:a.length<=9223372036854775807/\∀ b∈a,b.ok):SzOk (qh2 a) (szL Tf.sz a):=SzOk.of (fun l=>rfl) (SzOk.list h.1 (fun x hx=>yiq x (h.2 x hx)) (fun k x s=>rfl) (fun s=>rfl))
theorem yfk (a:List Tf) (h:szL Tf.sz a<=1048576):qc6 a=some a:=by
 have hl:a.length<=1048576:=by have:=zay (f:=Tf.sz) (xs:=a);omega
 rw [qc6,if_pos ⟨by omega,by rw [zab];omega⟩]
 unfold zwn
 rw [if_pos (by omega),zhs (xs:=a)]
 ·rw [ycr];rfl
 ·intro d x t s he hd
  rw [yfq]
  obtain ⟨z,hz⟩:∃ z,s[d.length]? =some z:=⟨s[d.length],List.getElem?_eq_getElem hd⟩
  simp only [yiy x (by have:=zan (f:=Tf.sz) (he ▸ (by simp:x∈d++x::t));omega),Option.bind_some,zab,List.length_map,Nat.sub_zero]
  rw [if_pos ⟨by omega,by omega⟩]
  simp only [hz,Option.bind_some,List.set_set,List.length_set,hd,zd2]
 ·simp
theorem yfi (a:List Tf) (h:szL Tf.sz a<=1048576):yzg a a=some true:=by
 have hl:a.length<=1048576:=by have:=zay (f:=Tf.sz) (xs:=a);omega
 rw [yzg]
 unfold zx4
 rw [if_pos (by omega),ya1 (xs:=a)]
 ·simp only [ne_eq,not_true_eq_false,decide_false,cond_false,ygo];rfl
 ·intro d x t he
  rw [yeg]
  simp only [zab,zbu he,Option.bind_some,yim x (by have:=zan (f:=Tf.sz) (he ▸ (by simp:x∈d++x::t));omega),ne_eq,not_true_eq_false,decide_false,cond_false,BEq.rfl,bne_self_eq_false,Bool.true_xor,Bool.not_true]
theorem zze (a:Tg) (h:a.ok):SzOk (qeu a) (a.sz):=SzOk.of (fun l=>rfl) (SzOk.seq (zh2 a.fa (by exact h.2.2.2.1)) (SzOk.one (zie a.fh (by exact h.2.2.2.2))))
theorem zz7 (a:Tg) (h:a.sz<=1048576):yvm a=some a:=by
 simp only [Tg.sz] at h
 rw [yvm]
 simp only [zh7 a.fa (by first|omega|(simp only [Tg.sz];omega)),zic a.fh (by first|omega|(simp only [Tg.sz];omega)),Option.bind_some]
theorem zza (a:Tg) (h:a.sz<=1048576):yxs a a=some true:=by
 simp only [Tg.sz] at h
 rw [yxs]
 simp only [zh9 a.fa (by first|omega|(simp only [Tg.sz];omega)),zif a.fh (by first|omega|(simp only [Tg.sz];omega)),Option.bind_some,ne_eq,not_true_eq_false,decide_false,cond_false,BEq.rfl,bne_self_eq_false,Bool.true_xor,Bool.not_true]
theorem zrw (a:List Tg) (h:a.length<=9223372036854775807/\∀ b∈a,b.ok):SzOk (qdf a) (szL Tg.sz a):=SzOk.of (fun l=>rfl) (SzOk.list h.1 (fun x hx=>zze x (h.2 x hx)) (fun k x s=>rfl) (fun s=>rfl))
theorem zvg (a:List Tg) (h:szL Tg.sz a<=1048576):yvp a=some a:=by
 have hl:a.length<=1048576:=by have:=zay (f:=Tg.sz) (xs:=a);omega
 rw [yvp,if_pos ⟨by omega,by rw [zab];omega⟩]
 unfold zt2
 rw [if_pos (by omega),zhs (xs:=a)]
 ·rw [yc3];rfl
 ·intro d x t s he hd
  rw [yd8]
  obtain ⟨z,hz⟩:∃ z,s[d.length]? =some z:=⟨s[d.length],List.getElem?_eq_getElem hd⟩
  simp only [zz7 x (by have:=zan (f:=Tg.sz) (he ▸ (by simp:x∈d++x::t));omega),Option.bind_some,zab,List.length_map,Nat.sub_zero]
  rw [if_pos ⟨by omega,by omega⟩]
  simp only [hz,Option.bind_some,List.set_set,List.length_set,hd,zd2]
 ·simp
theorem zxa (a:List Tg) (h:szL Tg.sz a<=1048576):yw4 a a=some true:=by
 have hl:a.length<=1048576:=by have:=zay (f:=Tg.sz) (xs:=a);omega
 rw [yw4]
 unfold zub
 rw [if_pos (by omega),ya1 (xs:=a)]
 ·simp only [ne_eq,not_true_eq_false,decide_false,cond_false,yfe];rfl
 ·intro d x t he
  rw [yel]
  simp only [zab,zbu he,Option.bind_some,zza x (by have:=zan (f:=Tg.sz) (he ▸ (by simp:x∈d++x::t));omega),ne_eq,not_true_eq_false,decide_false,cond_false,BEq.rfl,bne_self_eq_false,Bool.true_xor,Bool.not_true]
theorem yhf (a:Ti) (h:a.ok):SzOk (qgi a) (a.sz):=SzOk.of (fun l=>rfl) (SzOk.seq (zh2 a.fa (by exact h.2.2.1)) (SzOk.seq (zqt a.fo (by exact ⟨h.2.2.2.1,h.2.2.2.2.1⟩)) (SzOk.seq (zqk a.fab (by exact ⟨h.2.2.2.2.2.1,h.2.2.2.2.2.2.1⟩)) (SzOk.one (zie a.fh (by exact h.2.2.2.2.2.2.2))))))
theorem yfw (a:Ti) (h:a.sz<=1048576):yv0 a=some a:=by
 simp only [Ti.sz] at h
 rw [yv0]
 simp only [zh7 a.fa (by first|omega|(simp only [Ti.sz];omega)),zq8 a.fo (by first|omega|(simp only [Ti.sz];omega)),zrg a.fab (by first|omega|(simp only [Ti.sz];omega)),zic a.fh (by first|omega|(simp only [Ti.sz];omega)),Option.bind_some]
theorem yda (a:Ti) (h:a.sz<=1048576):yyh a a=some true:=by
 simp only [Ti.sz] at h
 rw [yyh]
 simp only [zh9 a.fa (by first|omega|(simp only [Ti.sz];omega)),zqf a.fo (by first|omega|(simp only [Ti.sz];omega)),zr1 a.fab (by first|omega|(simp only [Ti.sz];omega)),zif a.fh (by first|omega|(simp only [Ti.sz];omega)),Option.bind_some,ne_eq,not_true_eq_false,decide_false,cond_false,BEq.rfl,bne_self_eq_false,Bool.true_xor,Bool.not_true]
theorem zyv (a:List Ti) (h:a.length<=9223372036854775807/\∀ b∈a,b.ok):SzOk (qjb a) (szL Ti.sz a):=SzOk.of (fun l=>rfl) (SzOk.list h.1 (fun x hx=>yhf x (h.2 x hx)) (fun k x s=>rfl) (fun s=>rfl))
theorem zz8 (a:List Ti) (h:szL Ti.sz a<=1048576):yx5 a=some a:=by
 have hl:a.length<=1048576:=by have:=zay (f:=Ti.sz) (xs:=a);omega
 rw [yx5,if_pos ⟨by omega,by rw [zab];omega⟩]
 unfold ztb
 rw [if_pos (by omega),zhs (xs:=a)]
 ·rw [yi0];rfl
 ·intro d x t s he hd
  rw [ye3]
  obtain ⟨z,hz⟩:∃ z,s[d.length]? =some z:=⟨s[d.length],List.getElem?_eq_getElem hd⟩
  simp only [yfw x (by have:=zan (f:=Ti.sz) (he ▸ (by simp:x∈d++x::t));omega),Option.bind_some,zab,List.length_map,Nat.sub_zero]
  rw [if_pos ⟨by omega,by omega⟩]
  simp only [hz,Option.bind_some,List.set_set,List.length_set,hd,zd2]
 ·simp
theorem zzd (a:List Ti) (h:szL Ti.sz a<=1048576):ywu a a=some true:=by
 have hl:a.length<=1048576:=by have:=zay (f:=Ti.sz) (xs:=a);omega
 rw [ywu]
 unfold zwg
 rw [if_pos (by omega),ya1 (xs:=a)]
 ·simp only [ne_eq,not_true_eq_false,decide_false,cond_false,yge];rfl
 ·intro d x t he
  rw [ydv]
  simp only [zab,zbu he,Option.bind_some,yda x (by have:=zan (f:=Ti.sz) (he ▸ (by simp:x∈d++x::t));omega),ne_eq,not_true_eq_false,decide_false,cond_false,BEq.rfl,bne_self_eq_false,Bool.true_xor,Bool.not_true]
theorem zzi (a:Tj) (h:a.ok):SzOk (qgc a) (a.sz):=SzOk.of (fun l=>rfl) (SzOk.seq (zh2 a.fa (by exact h.2.2.2.1)) (SzOk.one (zie a.fh (by exact h.2.2.2.2))))
theorem zzf (a:Tj) (h:a.sz<=1048576):yvw a=some a:=by
 simp only [Tj.sz] at h
 rw [yvw]
 simp only [zh7 a.fa (by first|omega|(simp only [Tj.sz];omega)),zic a.fh (by first|omega|(simp only [Tj.sz];omega)),Option.bind_some]
theorem zys (a:Tj) (h:a.sz<=1048576):yvn a a=some true:=by
 simp only [Tj.sz] at h
 rw [yvn]
 simp only [zh9 a.fa (by first|omega|(simp only [Tj.sz];omega)),zif a.fh (by first|omega|(simp only [Tj.sz];omega)),Option.bind_some,ne_eq,not_true_eq_false,decide_false,cond_false,BEq.rfl,bne_self_eq_false,Bool.true_xor,Bool.not_true]
theorem zvh (a:List Tj) (h:a.length<=9223372036854775807/\∀ b∈a,b.ok):SzOk (qdz a) (szL Tj.sz a):=SzOk.of (fun l=>rfl) (SzOk.list h.1 (fun x hx=>zzi x (h.2 x hx)) (fun k x s=>rfl) (fun s=>rfl))
theorem zse (a:List Tj) (h:szL Tj.sz a<=1048576):qbh a=some a:=by
 have hl:a.length<=1048576:=by have:=zay (f:=Tj.sz) (xs:=a);omega
 rw [qbh,if_pos ⟨by omega,by rw [zab];omega⟩]
 unfold zsk
 rw [if_pos (by omega),zhs (xs:=a)]
 ·rw [yhx];rfl
 ·intro d x t s he hd
  rw [yah]
  obtain ⟨z,hz⟩:∃ z,s[d.length]? =some z:=⟨s[d.length],List.getElem?_eq_getElem hd⟩
  simp only [zzf x (by have:=zan (f:=Tj.sz) (he ▸ (by simp:x∈d++x::t));omega),Option.bind_some,zab,List.length_map,Nat.sub_zero]
  rw [if_pos ⟨by omega,by omega⟩]
  simp only [hz,Option.bind_some,List.set_set,List.length_set,hd,zd2]
 ·simp
theorem zu4 (a:List Tj) (h:szL Tj.sz a<=1048576):yva a a=some true:=by
 have hl:a.length<=1048576:=by have:=zay (f:=Tj.sz) (xs:=a);omega
 rw [yva]
 unfold zsy
 rw [if_pos (by omega),ya1 (xs:=a)]
 ·simp only [ne_eq,not_true_eq_false,decide_false,cond_false,yh0];rfl
 ·intro d x t he
  rw [yc9]
  simp only [zab,zbu he,Option.bind_some,zys x (by have:=zan (f:=Tj.sz) (he ▸ (by simp:x∈d++x::t));omega),ne_eq,not_true_eq_false,decide_false,cond_false,BEq.rfl,bne_self_eq_false,Bool.true_xor,Bool.not_true]
theorem yeq (a:Tp) (h:a.ok):SzOk (qi6 a) (a.sz):=SzOk.of (fun l=>rfl) (SzOk.seq (zzv a.fF (by exact h.1)) (SzOk.seq (ybc a.fax (by exact ⟨h.2.1,h.2.2.1⟩)) (SzOk.seq (zrw a.fak (by exact ⟨h.2.2.2.1,h.2.2.2.2.1⟩)) (SzOk.seq (zyv a.fbb (by exact ⟨h.2.2.2.2.2.1,h.2.2.2.2.2.2.1⟩)) (SzOk.one (zvh a.fbc (by exact ⟨h.2.2.2.2.2.2.2.1,h.2.2.2.2.2.2.2.2⟩)))))))
theorem yb1 (a:Tp) (h:a.sz<=1048576):yru a=some a:=by
 simp only [Tp.sz] at h
 rw [yru]
 simp only [zzb a.fF (by first|omega|(simp only [Tp.sz];omega)),yfk a.fax (by first|omega|(simp only [Tp.sz];omega)),zvg a.fak (by first|omega|(simp only [Tp.sz];omega)),zz8 a.fbb (by first|omega|(simp only [Tp.sz];omega)),zse a.fbc (by first|omega|(simp only [Tp.sz];omega)),Option.bind_some]
theorem yep (a:Tp) (h:a.sz<=1048576):yx1 a a=some true:=by
 simp only [Tp.sz] at h
 rw [yx1]
 simp only [zyn a.fF (by first|omega|(simp only [Tp.sz];omega)),yfi a.fax (by first|omega|(simp only [Tp.sz];omega)),zxa a.fak (by first|omega|(simp only [Tp.sz];omega)),zzd a.fbb (by first|omega|(simp only [Tp.sz];omega)),zu4 a.fbc (by first|omega|(simp only [Tp.sz];omega)),Option.bind_some,ne_eq,not_true_eq_false,decide_false,cond_false,BEq.rfl,bne_self_eq_false,Bool.true_xor,Bool.not_true]
end Go.Pm
namespace Go.Pm
open IntKind (i64)
def zbc (v1:Int) (v2:Int) (v3:Int):Bool:=(bif decide (v2<=v1) then decide (v1<=v3) else false)
theorem zrs (v1:Int) (v2:Int) (v3:Int)  :zhf v1 v2 v3=some (zbc v1 v2 v3):=by
 rw [zhf];first|rfl|(simp only [Option.bind_some,za8];rfl)
def yj3 (v1:Int):Bool:=(let v2:=zbc v1 0 4294967295;v2)
theorem qkw (v1:Int)  :yu2 v1=some (yj3 v1):=by
 rw [yu2];first|rfl|(simp only [zrs v1 0 4294967295,Option.bind_some,za8];rfl)
def yp9 (v1:Int) (v2:Int):Bool:=(let v3:=zbc v1 1 100;(bif v3 then(let v5:=zbc v2 0 5;v5) else false))
theorem qo7 (v1:Int) (v2:Int)  :yt8 v1 v2=some (yp9 v1 v2):=by
 rw [yt8];first|rfl|(simp only [zrs v1 1 100,zrs v2 0 5,Option.bind_some,za8];rfl)
def yh9 (v1:Int):Bool:=(let v2:=zbc v1 1 247;v2)
theorem ys0 (v1:Int)  :yij v1=some (yh9 v1):=by
 rw [yij];first|rfl|(simp only [zrs v1 1 247,Option.bind_some,za8];rfl)
def zgd (v1:Int):Bool:=(let v2:=zbc v1 0 65535;v2)
theorem yi5 (v1:Int)  :zkf v1=some (zgd v1):=by
 rw [zkf];first|rfl|(simp only [zrs v1 0 65535,Option.bind_some,za8];rfl)
def yju (v1:Int):Bool:=(let v2:=zbc v1 0 5;v2)
theorem yyy (v1:Int)  :ypo v1=some (yju v1):=by
 rw [ypo];first|rfl|(simp only [zrs v1 0 5,Option.bind_some,za8];rfl)
def zkq (v1:Int):Bool:=(let v2:=zbc v1 0 1000000000;v2)
theorem yws (v1:Int)  :ygr v1=some (zkq v1):=by
 rw [ygr];first|rfl|(simp only [zrs v1 0 1000000000,Option.bind_some,za8];rfl)
def ysf (v1:Te):Bool:=(let v2:=yh9 v1.fg;(bif !v2 then false else(let v4:=zbc v1.fba 0 3;(bif !v4 then false else(let v6:=zgd v1.fal;(bif !v6 then false else(let v8:=zgd v1.fan;(bif !v8 then false else(bif decide (v1.fan<v1.fal) then false else(let v11:=yju v1.fp;(bif !v11 then false else(let v13:=yh9 v1.fbd;(bif !v13 then false else(let v15:=zbc v1.faq (-65535) 65535;(bif v15 then(let v17:=zgd (i64.wrap (v1.fal+v1.faq));(bif v17 then(let v19:=zgd (i64.wrap (v1.fan+v1.faq));v19) else false)) else false)))))))))))))))
theorem jgx (v1:Te)  :yvd v1=some (ysf v1):=by
 rw [yvd];first|rfl|(simp only [ys0 v1.fg,zrs v1.fba 0 3,yi5 v1.fal,yi5 v1.fan,yyy v1.fp,ys0 v1.fbd,zrs v1.faq (-65535) 65535,yi5 (i64.wrap (v1.fal+v1.faq)),yi5 (i64.wrap (v1.fan+v1.faq)),Option.bind_some,za8];rfl)
def yr4 (v1:Te) (v2:Te):Bool:=(bif decide (v1.fg=v2.fg) then(bif decide (v1.fba=v2.fba) then(bif decide (v1.fal<=v2.fan) then decide (v2.fal<=v1.fan) else false) else false) else false)
theorem qop (v1:Te) (v2:Te)  :qc8 v1 v2=some (yr4 v1 v2):=by
 rw [qc8];first|rfl|(simp only [Option.bind_some,za8];rfl)
def yxe (v1:Int):Tl×Tl×Tl:=(bif decide (v1=1) then((⟨1,2000⟩:Tl),(⟨0,0⟩:Tl),(⟨0,0⟩:Tl)) else(bif decide (v1=2) then((⟨1,2000⟩:Tl),(⟨0,0⟩:Tl),(⟨0,0⟩:Tl)) else(bif decide (v1=3) then((⟨1,125⟩:Tl),(⟨0,0⟩:Tl),(⟨0,0⟩:Tl)) else(bif decide (v1=4) then((⟨1,125⟩:Tl),(⟨0,0⟩:Tl),(⟨0,0⟩:Tl)) else(bif decide (v1=5) then((⟨0,0⟩:Tl),(⟨0,0⟩:Tl),(⟨1,1⟩:Tl)) else(bif decide (v1=6) then((⟨0,0⟩:Tl),(⟨1,1⟩:Tl),(⟨0,0⟩:Tl)) else(bif decide (v1=15) then((⟨0,0⟩:Tl),(⟨0,0⟩:Tl),(⟨1,1968⟩:Tl)) else(bif decide (v1=16) then((⟨0,0⟩:Tl),(⟨1,123⟩:Tl),(⟨0,0⟩:Tl)) else(bif decide (v1=22) then((⟨0,0⟩:Tl),(⟨2,2⟩:Tl),(⟨0,0⟩:Tl)) else((⟨1,125⟩:Tl),(⟨1,121⟩:Tl),(⟨0,0⟩:Tl)))))))))))
theorem qvx (v1:Int)  :yyx v1=some (yxe v1):=by
 rw [yyx];first|rfl|(simp only [Option.bind_some,za8];rfl)
def ya0 (v1:Int):Bool:=(let v2:=zbc v1 1 6;(bif v2 then true else(bif decide (v1=15) then true else(bif decide (v1=16) then true else(bif decide (v1=22) then true else decide (v1=23))))))
theorem qnm (v1:Int)  :yu8 v1=some (ya0 v1):=by
 rw [yu8];first|rfl|(simp only [zrs v1 1 6,Option.bind_some,za8];rfl)
def yq3 (v1:Tk):Int:=(bif decide (v1.fd=22) then 1 else i64.wrap (((v1.fb.length:Nat):Int)+((v1.fc.length:Nat):Int)))
theorem qdu (v1:Tk) (hv1:v1.sz<=1048576):ynl v1=some (yq3 v1):=by
 rw [ynl];first|rfl|(simp only [Option.bind_some,za8];rfl)
def ysc (v1:Td):Bool:=(let v2:=zbc v1.fae 1 255;(bif v2 then(bif decide (v1.fe=0) then(bif decide (v1.fN=0) then(bif decide (((v1.fb.length:Nat):Int)=0) then decide (((v1.fc.length:Nat):Int)=0) else false) else false) else false) else false))
theorem qzv (v1:Td) (hv1:v1.sz<=1048576):yz8 v1=some (ysc v1):=by
 rw [yz8];first|rfl|(simp only [zrs v1.fae 1 255,Option.bind_some,za8];rfl)
def yz9 (v1:Int):Tl×Tl×Int×Bool:=(bif decide (v1=1) then((⟨0,0⟩:Tl),(⟨1,2000⟩:Tl),0,false) else(bif decide (v1=2) then((⟨0,0⟩:Tl),(⟨1,2000⟩:Tl),0,false) else(bif decide (v1=3) then((⟨1,125⟩:Tl),(⟨0,0⟩:Tl),0,false) else(bif decide (v1=4) then((⟨1,125⟩:Tl),(⟨0,0⟩:Tl),0,false) else(bif decide (v1=23) then((⟨1,125⟩:Tl),(⟨0,0⟩:Tl),0,false) else(bif decide (v1=5) then((⟨0,0⟩:Tl),(⟨1,1⟩:Tl),0,true) else(bif decide (v1=6) then((⟨1,1⟩:Tl),(⟨0,0⟩:Tl),0,true) else(bif decide (v1=15) then((⟨0,0⟩:Tl),(⟨0,0⟩:Tl),1968,true) else(bif decide (v1=16) then((⟨0,0⟩:Tl),(⟨0,0⟩:Tl),123,true) else((⟨2,2⟩:Tl),(⟨0,0⟩:Tl),0,true))))))))))
theorem qvw (v1:Int)  :yvc v1=some (yz9 v1):=by
 rw [yvc];first|rfl|(simp only [Option.bind_some,za8];rfl)
def qar (v1:Int):Bool:=(let v2:=zgd v1;!v2)
theorem qog (v1:Int)  :ywp v1=some (qar v1):=by
 rw [ywp];first|rfl|(simp only [yi5 v1,Option.bind_some,za8];rfl)
def qnl (v1:Int) (v2:Int) (v3:Int):Bool:=(bif decide (v2<=v1) then decide (v1<=v3) else false)
theorem qvv (v1:Int) (v2:Int) (v3:Int)  :zcd v1 v2 v3=some (qnl v1 v2 v3):=by
 rw [zcd];first|rfl|(simp only [Option.bind_some,za8];rfl)
theorem jcm (v1:Int) (v2:Int) (v3:Int)  :qnl v1 v2 v3=zbc v1 v2 v3:=by
 rfl
theorem zea (v1:Int) (v2:Int) (v3:Int)  :zcd v1 v2 v3=some (zbc v1 v2 v3):=by rw [qvv v1 v2 v3 ,jcm v1 v2 v3 ]
def qla (v1:Int):Bool:=(let v2:=zbc v1 0 4294967295;v2)
theorem jha (v1:Int)  :ys4 v1=some (qla v1):=by
 rw [ys4];first|rfl|(simp only [zea v1 0 4294967295,Option.bind_some,za8];rfl)
def qny (v1:Int):Bool:=(let v2:=zbc v1 1 6;(bif v2 then true else(bif decide (v1=15) then true else(bif decide (v1=16) then true else(bif decide (v1=22) then true else decide (v1=23))))))
theorem jdw (v1:Int)  :yu6 v1=some (qny v1):=by
 rw [yu6];first|rfl|(simp only [zea v1 1 6,Option.bind_some,za8];rfl)
def yi6 (v1:Int) (v2:Int):Bool:=(let v3:=zbc v1 0 65535;(bif v3 then decide ((i64.wrap (v1+v2))<=65536) else false))
theorem yz2 (v1:Int) (v2:Int)  :yf6 v1 v2=some (yi6 v1 v2):=by
 rw [yf6];first|rfl|(simp only [zea v1 0 65535,Option.bind_some,za8];rfl)
def ya3 (v1:Tk) (v2:Bool) (v3:Bool) (v4:Bool) (v5:Bool):Bool:=(bif v2 then(bif v3 then(bif v4 then(bif v5 then true else decide (v1.fi=0)) else(bif decide (((v1.fc.length:Nat):Int)=0) then(bif v5 then true else decide (v1.fi=0)) else false)) else(bif decide (((v1.fb.length:Nat):Int)=0) then(bif v4 then(bif v5 then true else decide (v1.fi=0)) else(bif decide (((v1.fc.length:Nat):Int)=0) then(bif v5 then true else decide (v1.fi=0)) else false)) else false)) else(bif decide (v1.fN=0) then(bif v3 then(bif v4 then(bif v5 then true else decide (v1.fi=0)) else(bif decide (((v1.fc.length:Nat):Int)=0) then(bif v5 then true else decide (v1.fi=0)) else false)) else(bif decide (((v1.fb.length:Nat):Int)=0) then(bif v4 then(bif v5 then true else decide (v1.fi=0)) else(bif decide (((v1.fc.length:Nat):Int)=0) then(bif v5 then true else decide (v1.fi=0)) else false)) else false)) else false))
theorem yus (v1:Tk) (v2:Bool) (v3:Bool) (v4:Bool) (v5:Bool) (hv1:v1.sz<=1048576):zyr v1 v2 v3 v4 v5=some (ya3 v1 v2 v3 v4 v5):=by
 rw [zyr];first|rfl|(simp only [Option.bind_some,za8];rfl)
def zy3 (v1:Td) (v2:Bool) (v3:Bool) (v4:Bool) (v5:Bool):Bool:=(bif v2 then(bif v3 then(bif v4 then(bif v5 then true else decide (((v1.fc.length:Nat):Int)=0)) else(bif decide (((v1.fb.length:Nat):Int)=0) then(bif v5 then true else decide (((v1.fc.length:Nat):Int)=0)) else false)) else(bif decide (v1.fN=0) then(bif v4 then(bif v5 then true else decide (((v1.fc.length:Nat):Int)=0)) else(bif decide (((v1.fb.length:Nat):Int)=0) then(bif v5 then true else decide (((v1.fc.length:Nat):Int)=0)) else false)) else false)) else(bif decide (v1.fe=0) then(bif v3 then(bif v4 then(bif v5 then true else decide (((v1.fc.length:Nat):Int)=0)) else(bif decide (((v1.fb.length:Nat):Int)=0) then(bif v5 then true else decide (((v1.fc.length:Nat):Int)=0)) else false)) else(bif decide (v1.fN=0) then(bif v4 then(bif v5 then true else decide (((v1.fc.length:Nat):Int)=0)) else(bif decide (((v1.fb.length:Nat):Int)=0) then(bif v5 then true else decide (((v1.fc.length:Nat):Int)=0)) else false)) else false)) else false))
theorem yrt (v1:Td) (v2:Bool) (v3:Bool) (v4:Bool) (v5:Bool) (hv1:v1.sz<=1048576):zxi v1 v2 v3 v4 v5=some (zy3 v1 v2 v3 v4 v5):=by
 rw [zxi];first|rfl|(simp only [Option.bind_some,za8];rfl)
def qdg (v1:Te):Bool:=(let v2:=zbc v1.fg 1 247;(bif v2 then(let v4:=zbc v1.fba 0 3;(bif v4 then(let v6:=zbc v1.fal 0 65535;(bif v6 then(let v8:=zbc v1.fan v1.fal 65535;(bif v8 then(let v10:=zbc v1.fp 0 5;(bif v10 then(let v12:=zbc v1.fbd 1 247;(bif v12 then(let v14:=zbc v1.faq (-65535) 65535;(bif v14 then(let v16:=zbc (i64.wrap (v1.fal+v1.faq)) 0 65535;(bif v16 then(let v18:=zbc (i64.wrap (v1.fan+v1.faq)) 0 65535;v18) else false)) else false)) else false)) else false)) else false)) else false)) else false)) else false))
theorem qva (v1:Te)  :qa2 v1=some (qdg v1):=by
 rw [qa2];first|rfl|(simp only [zea v1.fg 1 247,zea v1.fba 0 3,zea v1.fal 0 65535,zea v1.fan v1.fal 65535,zea v1.fp 0 5,zea v1.fbd 1 247,zea v1.faq (-65535) 65535,zea (i64.wrap (v1.fal+v1.faq)) 0 65535,zea (i64.wrap (v1.fan+v1.faq)) 0 65535,Option.bind_some,za8];rfl)
theorem qqc (v1:Int)  :qla v1=yj3 v1:=by
 rfl
theorem qo5 (v1:Int)  :ys4 v1=some (yj3 v1):=by rw [jha v1 ,qqc v1 ]
theorem qtq (v1:Int)  :qny v1=ya0 v1:=by
 rfl
theorem jb4 (v1:Int)  :yu6 v1=some (ya0 v1):=by rw [jdw v1 ,qtq v1 ]
def qdp (v1:List Te) (v2:Te):Int:=zhz (fun (x:Te)=>yr4 x v2) v1 0
theorem jio (v1:List Te) (v2:Te) (hv1:v1.length<=1048576):qad v1 v2=some (qdp v1 v2):=by
 have hlen:v1.length<=9223372036854775806:=by have hq:v1.length<=v1.length:=Nat.le_refl _;omega
 rw [qad];unfold zsv qdp
 exact ym7 (fun (x:Te)=>yr4 x v2) hlen rfl (fun d x t he=>by rw [yfj];first|rfl|(simp only [qop x v2,Option.bind_some];done)|(simp only [qop x v2,Option.bind_some];rfl)|done)
def yw3 (v1:List Int):Int:=zhz (fun (x:Int)=>qar x) v1 0
theorem qye (v1:List Int) (hv1:v1.length<=1048576):yxr v1=some (yw3 v1):=by
 have hlen:v1.length<=9223372036854775806:=by have hq:v1.length<=v1.length:=Nat.le_refl _;omega
 rw [yxr];unfold zu8 yw3
 exact ym7 (fun (x:Int)=>qar x) hlen rfl (fun d x t he=>by rw [yd4];first|rfl|(simp only [qog x,Option.bind_some];done)|(simp only [qog x,Option.bind_some];rfl)|done)
def qjh (v1:List Bool) (v2:Bool):Int:=zhz (fun (x:Bool)=>(false ^^ (v2 == x))) v1 0
theorem jeo (v1:List Bool) (v2:Bool) (hv1:v1.length<=1048576):yye v1 v2=some (qjh v1 v2):=by
 have hlen:v1.length<=9223372036854775806:=by have hq:v1.length<=v1.length:=Nat.le_refl _;omega
 rw [yye];unfold zt6 qjh
 exact ym7 (fun (x:Bool)=>(false ^^ (v2 == x))) hlen rfl (fun d x t he=>by rw [ygl];first|rfl|(simp only [Option.bind_some];done)|(simp only [Option.bind_some];rfl)|done)
def ql7 (v1:List Te) (v2:Te):Bool:=(let v3:=qdp v1 v2;decide (0<=v3))
theorem jc7 (v1:List Te) (v2:Te) (hv1:v1.length<=1048576):qca v1 v2=some (ql7 v1 v2):=by
 rw [qca];first|rfl|(simp only [jio v1 v2 hv1,Option.bind_some,za8];rfl)
def qi0 (v1:List Int):Bool:=(let v2:=yw3 v1;decide (0<=v2))
theorem jg9 (v1:List Int) (hv1:v1.length<=1048576):qcn v1=some (qi0 v1):=by
 rw [qcn];first|rfl|(simp only [qye v1 hv1,Option.bind_some,za8];rfl)
def qlj (v1:List Bool) (v2:Bool):Bool:=(let v3:=qjh v1 v2;decide (0<=v3))
theorem qnd (v1:List Bool) (v2:Bool) (hv1:v1.length<=1048576):yt7 v1 v2=some (qlj v1 v2):=by
 rw [yt7];first|rfl|(simp only [jeo v1 v2 hv1,Option.bind_some,za8];rfl)
def qg7 (v1:List Int):Bool:=(let v2:=qi0 v1;!v2)
theorem qrr (v1:List Int) (hv1:v1.length<=1048576):yls v1=some (qg7 v1):=by
 rw [yls];first|rfl|(simp only [jg9 v1 hv1,Option.bind_some,za8];rfl)
def zcf (l:List Int):Bool:=l.all fun n=>decide (0<=n)&&decide (n<=65535)
theorem zuj (l:List Int):qg7 l=zcf l:=by
 unfold qg7 qi0 yw3 zcf
 simp only [zg2,List.all_eq_not_any_not]
 congr 2;funext n
 unfold qar zgd zbc
 by_cases h:0<=n <;> simp [h]
theorem qbk (v1:List Int) (hv1:v1.length<=1048576):yls v1=some (zcf v1):=by rw [qrr v1 hv1,zuj]
theorem yzm (v1:List Int) (hv1:v1.length<=1048576):yrq v1=some (zcf v1):=by
 rw [yrq];unfold zvd
 rw [ya4 (fun _ n=> !(decide (0<=n)&&decide (n<=65535))) (by omega) rfl (fun d x t he=>⟨((d.length:Nat):Int),by
  rw [ybb];simp only [zea,Option.bind_some,zbc]
  by_cases h:0<=x <;> by_cases h':x<=65535 <;> simp [h,h']⟩)]
 rw [zcq]
 unfold zcf
 rw [List.all_eq_not_any_not]
 cases v1.any fun n=> !(decide (0<=n)&&decide (n<=65535)) <;> simp
def znj (v1:Tk):Bool:=(let v2:=yxe v1.fd;(let v3:=ya0 v1.fd;(bif !v3 then false else(let v5:=zbc v1.fN v2.1.f0 v2.1.f1;(bif !v5 then false else(let v7:=zbc ((v1.fb.length:Nat):Int) v2.2.1.f0 v2.2.1.f1;(bif !v7 then false else(let v9:=zbc ((v1.fc.length:Nat):Int) v2.2.2.f0 v2.2.2.f1;(bif !v9 then false else(let v11:=zgd v1.fe;(bif !v11 then false else(let v13:=zgd v1.fi;(bif !v13 then false else(let v15:=zcf v1.fb;(bif !v15 then false else(bif decide (65536<(i64.wrap (v1.fe+v1.fN))) then false else(bif decide (v1.fd=23) then(let v19:=yq3 v1;decide ((i64.wrap (v1.fi+v19))<=65536)) else(bif decide (v1.fi=0) then(let v21:=yq3 v1;decide ((i64.wrap (v1.fe+v21))<=65536)) else false))))))))))))))))))
theorem ytz (v1:Tk) (hv1:v1.sz<=1048576):yms v1=some (znj v1):=by
 rw [yms];first|rfl|(simp only [qvx v1.fd,qnm v1.fd,yi5 v1.fe,yi5 v1.fi,qbk v1.fb (by simp only [Tk.sz] at hv1;omega),qdu v1 hv1,zrs,Option.bind_some,za8];rfl)
def yyu (v1:Tk):Bool:=(let v2:=zcf v1.fb;(bif !v2 then false else(let v4:=zbc v1.fe 0 65535;(bif !v4 then false else(bif decide (v1.fd=1) then(let v7:=ya3 v1 true false false false;(bif v7 then(let v9:=zbc v1.fN 1 2000;(bif v9 then(let v11:=yi6 v1.fe v1.fN;v11) else false)) else false)) else(bif decide (v1.fd=2) then(let v13:=ya3 v1 true false false false;(bif v13 then(let v15:=zbc v1.fN 1 2000;(bif v15 then(let v17:=yi6 v1.fe v1.fN;v17) else false)) else false)) else(bif decide (v1.fd=3) then(let v19:=ya3 v1 true false false false;(bif v19 then(let v21:=zbc v1.fN 1 125;(bif v21 then(let v23:=yi6 v1.fe v1.fN;v23) else false)) else false)) else(bif decide (v1.fd=4) then(let v25:=ya3 v1 true false false false;(bif v25 then(let v27:=zbc v1.fN 1 125;(bif v27 then(let v29:=yi6 v1.fe v1.fN;v29) else false)) else false)) else(bif decide (v1.fd=5) then(let v31:=ya3 v1 false false true false;(bif v31 then decide (((v1.fc.length:Nat):Int)=1) else false)) else(bif decide (v1.fd=6) then(let v34:=ya3 v1 false true false false;(bif v34 then decide (((v1.fb.length:Nat):Int)=1) else false)) else(bif decide (v1.fd=15) then(let v37:=ya3 v1 false false true false;(bif v37 then(let v39:=zbc ((v1.fc.length:Nat):Int) 1 1968;(bif v39 then(let v41:=yi6 v1.fe ((v1.fc.length:Nat):Int);v41) else false)) else false)) else(bif decide (v1.fd=16) then(let v43:=ya3 v1 false true false false;(bif v43 then(let v45:=zbc ((v1.fb.length:Nat):Int) 1 123;(bif v45 then(let v47:=yi6 v1.fe ((v1.fb.length:Nat):Int);v47) else false)) else false)) else(bif decide (v1.fd=22) then(let v49:=ya3 v1 false true false false;(bif v49 then decide (((v1.fb.length:Nat):Int)=2) else false)) else(bif decide (v1.fd=23) then(let v52:=ya3 v1 true true false true;(bif v52 then(let v54:=zbc v1.fN 1 125;(bif v54 then(let v56:=yi6 v1.fe v1.fN;(bif v56 then(let v58:=zbc ((v1.fb.length:Nat):Int) 1 121;(bif v58 then(let v60:=yi6 v1.fi ((v1.fb.length:Nat):Int);v60) else false)) else false)) else false)) else false)) else false))))))))))))))
theorem jg2 (v1:Tk) (hv1:v1.sz<=1048576):yk7 v1=some (yyu v1):=by
 rw [yk7];first|rfl|(simp only [yzm v1.fb (by simp only [Tk.sz] at hv1;omega),zea v1.fe 0 65535,yus v1 true false false false hv1,zea v1.fN 1 2000,yz2 v1.fe v1.fN,zea v1.fN 1 125,yus v1 false false true false hv1,yus v1 false true false false hv1,zea ((v1.fc.length:Nat):Int) 1 1968,yz2 v1.fe ((v1.fc.length:Nat):Int),zea ((v1.fb.length:Nat):Int) 1 123,yz2 v1.fe ((v1.fb.length:Nat):Int),yus v1 true true false true hv1,zea ((v1.fb.length:Nat):Int) 1 121,yz2 v1.fi ((v1.fb.length:Nat):Int),Option.bind_some,za8];rfl)
theorem qrl (v1:Tk) (hv1:v1.sz<=1048576):yyu v1=znj v1:=by
 simp only [Tk.sz] at hv1
 have e1:=zhr (v1.fe+v1.fN)
 have e2:=zhr (v1.fi+v1.fN)
 have e3:=zhr (v1.fe+(v1.fc.length:Int))
 have e4:=zhr (v1.fe+(v1.fb.length:Int))
 have e5:=zhr (v1.fi+(v1.fb.length:Int))
 have e6:=zhr ((v1.fb.length:Int)+(v1.fc.length:Int))
 have e7:=zhr (v1.fe+i64.wrap ((v1.fb.length:Int)+(v1.fc.length:Int)))
 have e8:=zhr (v1.fi+i64.wrap ((v1.fb.length:Int)+(v1.fc.length:Int)))
 have e9:=zhr (v1.fe+1)
 have e10:=zhr (v1.fi+1)
 have g1:(0:Int)<=v1.fb.length:=by omega
 have g2:(0:Int)<=v1.fc.length:=by omega
 have g3:(v1.fb.length:Int)+v1.fc.length<=1048576:=by omega
 clear hv1
 rw [Bool.eq_iff_iff]
 cases hw:zcf v1.fb
 ·simp [yyu,znj,hw]
 simp only [yyu,znj,hw,ya0,yxe,yq3,zgd,zbc,ya3,yi6]
 by_cases k1:v1.fd=1
 ·simp [k1,-List.length_eq_zero_iff];omega
 by_cases k2:v1.fd=2
 ·simp [k2,-List.length_eq_zero_iff];omega
 by_cases k3:v1.fd=3
 ·simp [k3,-List.length_eq_zero_iff];omega
 by_cases k4:v1.fd=4
 ·simp [k4,-List.length_eq_zero_iff];omega
 by_cases k5:v1.fd=5
 ·simp [k5,-List.length_eq_zero_iff];omega
 by_cases k6:v1.fd=6
 ·simp [k6,-List.length_eq_zero_iff];omega
 by_cases k15:v1.fd=15
 ·simp [k15,-List.length_eq_zero_iff];omega
 by_cases k16:v1.fd=16
 ·simp [k16,-List.length_eq_zero_iff];omega
 by_cases k22:v1.fd=22
 ·simp [k22,-List.length_eq_zero_iff];omega
 by_cases k23:v1.fd=23
 ·simp [k23,-List.length_eq_zero_iff];omega
 simp [k1,k2,k3,k4,k5,k6,k15,k16,k22,k23,-List.length_eq_zero_iff];try omega
theorem yu1 (v1:Tk) (hv1:v1.sz<=1048576):yk7 v1=some (znj v1):=by rw [jg2 v1 hv1,qrl v1 hv1]
def zsb (v1:Td):Bool:=(let v2:=ya0 v1.fd;(bif !v2 then false else(bif decide (v1.fae≠0) then(let v5:=ysc v1;v5) else(let v6:=yz9 v1.fd;(let v7:=zbc ((v1.fb.length:Nat):Int) v6.1.f0 v6.1.f1;(bif !v7 then false else(let v9:=zbc ((v1.fc.length:Nat):Int) v6.2.1.f0 v6.2.1.f1;(bif !v9 then false else(let v11:=zcf v1.fb;(bif !v11 then false else(bif decide (1<v6.2.1.f1) then(bif decide ((((v1.fc.length:Nat):Int).tmod 8)≠0) then false else(bif decide (v6.2.2.1=0) then(bif decide (v1.fN≠0) then false else(bif decide (0<v6.2.2.1) then(let v18:=zbc v1.fN 1 v6.2.2.1;(bif !v18 then false else(bif v6.2.2.2 then(let v21:=zgd v1.fe;(bif v21 then true else decide (v1.fe=0))) else decide (v1.fe=0)))) else(bif v6.2.2.2 then(let v24:=zgd v1.fe;(bif v24 then true else decide (v1.fe=0))) else decide (v1.fe=0)))) else(bif decide (0<v6.2.2.1) then(let v27:=zbc v1.fN 1 v6.2.2.1;(bif !v27 then false else(bif v6.2.2.2 then(let v30:=zgd v1.fe;(bif v30 then true else decide (v1.fe=0))) else decide (v1.fe=0)))) else(bif v6.2.2.2 then(let v33:=zgd v1.fe;(bif v33 then true else decide (v1.fe=0))) else decide (v1.fe=0))))) else(bif decide (v6.2.2.1=0) then(bif decide (v1.fN≠0) then false else(bif decide (0<v6.2.2.1) then(let v38:=zbc v1.fN 1 v6.2.2.1;(bif !v38 then false else(bif v6.2.2.2 then(let v41:=zgd v1.fe;(bif v41 then true else decide (v1.fe=0))) else decide (v1.fe=0)))) else(bif v6.2.2.2 then(let v44:=zgd v1.fe;(bif v44 then true else decide (v1.fe=0))) else decide (v1.fe=0)))) else(bif decide (0<v6.2.2.1) then(let v47:=zbc v1.fN 1 v6.2.2.1;(bif !v47 then false else(bif v6.2.2.2 then(let v50:=zgd v1.fe;(bif v50 then true else decide (v1.fe=0))) else decide (v1.fe=0)))) else(bif v6.2.2.2 then(let v53:=zgd v1.fe;(bif v53 then true else decide (v1.fe=0))) else decide (v1.fe=0)))))))))))))))
theorem qlz (v1:Td) (hv1:v1.sz<=1048576):yt0 v1=some (zsb v1):=by
 rw [yt0];first|rfl|(simp only [qnm v1.fd,qzv v1 hv1,qvw v1.fd,qbk v1.fb (by simp only [Td.sz] at hv1;omega),yi5 v1.fe,zrs,Option.bind_some,za8];rfl)
def ysl (v1:Td):Bool:=(let v2:=ya0 v1.fd;(bif !v2 then false else(let v4:=zbc v1.fae 0 255;(bif !v4 then false else(let v6:=zcf v1.fb;(bif !v6 then false else(let v8:=zbc v1.fe 0 65535;(bif !v8 then false else(bif decide (0<v1.fae) then(let v11:=zy3 v1 false false false false;v11) else(bif decide (v1.fd=1) then(let v13:=zy3 v1 false false false true;(bif v13 then(let v15:=zbc ((v1.fc.length:Nat):Int) 1 2000;(bif v15 then decide ((((v1.fc.length:Nat):Int).tmod 8)=0) else false)) else false)) else(bif decide (v1.fd=2) then(let v18:=zy3 v1 false false false true;(bif v18 then(let v20:=zbc ((v1.fc.length:Nat):Int) 1 2000;(bif v20 then decide ((((v1.fc.length:Nat):Int).tmod 8)=0) else false)) else false)) else(bif decide (v1.fd=3) then(let v23:=zy3 v1 false false true false;(bif v23 then(let v25:=zbc ((v1.fb.length:Nat):Int) 1 125;v25) else false)) else(bif decide (v1.fd=4) then(let v27:=zy3 v1 false false true false;(bif v27 then(let v29:=zbc ((v1.fb.length:Nat):Int) 1 125;v29) else false)) else(bif decide (v1.fd=23) then(let v31:=zy3 v1 false false true false;(bif v31 then(let v33:=zbc ((v1.fb.length:Nat):Int) 1 125;v33) else false)) else(bif decide (v1.fd=5) then(let v35:=zy3 v1 true false false true;(bif v35 then decide (((v1.fc.length:Nat):Int)=1) else false)) else(bif decide (v1.fd=6) then(let v38:=zy3 v1 true false true false;(bif v38 then decide (((v1.fb.length:Nat):Int)=1) else false)) else(bif decide (v1.fd=22) then(let v41:=zy3 v1 true false true false;(bif v41 then decide (((v1.fb.length:Nat):Int)=2) else false)) else(bif decide (v1.fd=15) then(let v44:=zy3 v1 true true false false;(bif v44 then(let v46:=zbc v1.fN 1 1968;v46) else false)) else(let v47:=zy3 v1 true true false false;(bif v47 then(let v49:=zbc v1.fN 1 123;v49) else false))))))))))))))))))))
theorem qvl (v1:Td) (hv1:v1.sz<=1048576):ysd v1=some (ysl v1):=by
 rw [ysd];first|rfl|(simp only [jb4 v1.fd,zea v1.fae 0 255,yzm v1.fb (by simp only [Td.sz] at hv1;omega),zea v1.fe 0 65535,yrt v1 false false false false hv1,yrt v1 false false false true hv1,zea ((v1.fc.length:Nat):Int) 1 2000,yrt v1 false false true false hv1,zea ((v1.fb.length:Nat):Int) 1 125,yrt v1 true false false true hv1,yrt v1 true false true false hv1,yrt v1 true true false false hv1,zea v1.fN 1 1968,zea v1.fN 1 123,Option.bind_some,za8];rfl)
theorem qxz (v1:Td) (hv1:v1.sz<=1048576):ysl v1=zsb v1:=by
 simp only [Td.sz] at hv1
 rw [Bool.eq_iff_iff]
 cases hw:zcf v1.fb
 ·by_cases hf:v1.fae=0
  ·simp [ysl,zsb,hw,hf]
  ·simp [ysl,zsb,hw,hf,ysc,ya0,zbc,-List.length_eq_zero_iff]
   intro _ _ _ _ _ h
   have:v1.fb=[]:=List.eq_nil_of_length_eq_zero (by omega)
   rw [this] at hw;cases hw
 by_cases hf:v1.fae=0
 ·simp only [ysl,zsb,hw,ya0,yz9,zgd,zbc,zy3,hf,ysc]
  by_cases k1:v1.fd=1
  ·simp [k1,-List.length_eq_zero_iff];omega
  by_cases k2:v1.fd=2
  ·simp [k2,-List.length_eq_zero_iff];omega
  by_cases k3:v1.fd=3
  ·simp [k3,-List.length_eq_zero_iff];omega
  by_cases k4:v1.fd=4
  ·simp [k4,-List.length_eq_zero_iff];omega
  by_cases k23:v1.fd=23
  ·simp [k23,-List.length_eq_zero_iff];omega
  by_cases k5:v1.fd=5
  ·simp [k5,-List.length_eq_zero_iff];omega
  by_cases k6:v1.fd=6
  ·simp [k6,-List.length_eq_zero_iff];omega
  by_cases k15:v1.fd=15
  ·simp [k15,-List.length_eq_zero_iff];omega
  by_cases k16:v1.fd=16
  ·simp [k16,-List.length_eq_zero_iff];omega
  by_cases k22:v1.fd=22
  ·simp [k22,-List.length_eq_zero_iff];omega
  simp [k1,k2,k3,k4,k5,k6,k15,k16,k22,k23,-List.length_eq_zero_iff];try omega
 ·simp only [ysl,zsb,hw,ya0,zbc,zy3,ysc]
  by_cases hp:0<v1.fae
  ·simp [hf,hp,-List.length_eq_zero_iff];omega
  ·have h0:¬ 0<=v1.fae:=by omega
   have h1:¬ 1<=v1.fae:=by omega
   simp [hf,h0,h1]
theorem qoh (v1:Td) (hv1:v1.sz<=1048576):ysd v1=some (zsb v1):=by rw [qvl v1 hv1,qxz v1 hv1]
def ze0 (n:Int):Int:=i64.wrap ((i64.wrap ((i64.wrap (n+7)).tdiv 8)) * 8)
theorem zqv {n:Int} (h1:1<=n) (h2:n<=2000):n<=ze0 n/\ze0 n<=2007:=by
 unfold ze0
 rw [zc0 (n:=n+7) (by omega) (by omega),Int.tdiv_eq_ediv_of_nonneg (by omega),zc0 (n:=(n+7) / 8) (by omega) (by omega),zc0 (by omega) (by omega)]
 omega
def zzc (n:Int) (bs:List Bool):Bool:=bif decide (((bs.length:Nat):Int)=ze0 n) then !((bs.drop n.toNat).any id) else false
theorem qkh (v1:Int) (v2:List Bool) (h:v2.length<=1048576) (h1:1<=v1) (h2:v1<=2000):yt4 v1 v2=some (zzc v1 v2):=by
 rw [yt4]
 show (bif decide (((v2.length:Nat):Int)=ze0 v1) then _ else _)=_
 have hb:=zqv h1 h2
 unfold zzc
 by_cases he:((v2.length:Nat):Int)=ze0 v1
 ·simp only [he,decide_true,cond_true]
  rw [if_pos (by simp only [List.length_map];omega)]
  have hd:(v2.take ((((v2.map V.bool).length:Nat):Int).toNat)).drop (v1:Int).toNat=v2.drop v1.toNat:=by
   rw [zab,List.length_map,List.take_length]
  rw [hd,qnd _ _ (by simp;omega)]
  show some (!decide (0<=zhz _ _ 0))=some (!((v2.drop v1.toNat).any id))
  rw [zg2]
  congr 3;funext x;cases x <;> rfl
 ·simp [he]
theorem ynq {body:Int->Option (Int⊕(Int⊕Int))} {bs:List Bool} (hl:bs.length<=1048576) (hb:∀ s:Int,body s=(bif decide (s<((bs.length:Nat):Int)) then(if 0<=s then((bs[s.toNat]?).bind fun v=>(bif v then(some (.inr (.inl s))) else(some (.inl (i64.wrap (s+1)))))) else none) else(some (.inr (.inr s))))):
 ∀ (t d:List Bool) (n:Nat),d++t=bs->t.length<n->∀ {γ:Type} (A B:Option γ),(zcl body n ((d.length:Nat):Int)).bind (zbj (fun _=>A) (fun _=>B))=if t.any id then A else B
 | [],d,n,he,hn,γ,A,B=>by
   obtain ⟨n,rfl⟩:∃ m,n=m+1:=⟨n - 1,by simp at hn;omega⟩
   have he:d=bs:=by simpa using he
   subst he
   simp only [zcl,hb]
   simp [zbj]
 | x::t,d,n,he,hn,γ,A,B=>by
   obtain ⟨n,rfl⟩:∃ m,n=m+1:=⟨n - 1,by simp at hn;omega⟩
   have hlt:=zdy he
   simp only [zcl,hb,zab,zbu he]
   have hd:decide (((d.length:Nat):Int)<((bs.length:Nat):Int))=true:=by simp;omega
   simp only [hd,cond_true]
   rw [if_pos (by omega)]
   cases x with
   | true=>simp [zbj]
   | false=>
     simp only [Option.bind_some,cond_false]
     rw [zc0 (by omega) (by omega)]
     have:=ynq hl hb t (d ++ [false]) n (by simpa using he) (by simp at hn;omega) A B
     simpa using this
def zj7 (q:Tk) (a:Td):Bool:=
 bif !znj q then false else bif !zsb a then false else bif decide (a.fd≠q.fd) then false else bif decide (a.fae≠0) then true else
 bif decide (q.fd=1)||decide (q.fd=2) then zzc q.fN a.fc else
 bif decide (q.fd=3)||(decide (q.fd=4)||decide (q.fd=23)) then decide (((a.fb.length:Nat):Int)=q.fN) else
 bif decide (q.fd=15) then decide (a.fe=q.fe)&&decide (a.fN=((q.fc.length:Nat):Int)) else
 bif decide (q.fd=16) then decide (a.fe=q.fe)&&decide (a.fN=((q.fb.length:Nat):Int)) else
 decide (a.fe=q.fe)&&(decide (a.fb=q.fb)&&decide (a.fc=q.fc))
theorem zjv {q:Tk} (h:znj q=true):zcf q.fb=true/\(q.fd=1\/q.fd=2\/q.fd=3\/q.fd=4\/q.fd=5\/q.fd=6\/q.fd=15\/q.fd=16\/q.fd=22\/q.fd=23)/\
 (0<=q.fe/\q.fe<=65535)/\(0<=q.fi/\q.fi<=65535)/\
 (q.fd=1\/q.fd=2->1<=q.fN/\q.fN<=2000/\q.fb.length=0/\q.fc.length=0)/\(q.fd=3\/q.fd=4->1<=q.fN/\q.fN<=125/\q.fb.length=0/\q.fc.length=0)/\
 (q.fd=5->q.fN=0/\q.fb.length=0/\q.fc.length=1)/\(q.fd=6->q.fN=0/\q.fb.length=1/\q.fc.length=0)/\
 (q.fd=15->q.fN=0/\q.fb.length=0/\1<=q.fc.length/\q.fc.length<=1968)/\(q.fd=16->q.fN=0/\1<=q.fb.length/\q.fb.length<=123/\q.fc.length=0)/\
 (q.fd=22->q.fN=0/\q.fb.length=2/\q.fc.length=0)/\(q.fd=23->1<=q.fN/\q.fN<=125/\1<=q.fb.length/\q.fb.length<=121/\q.fc.length=0):=by
 simp only [znj,ya0,yxe,yq3,zgd,zbc] at h
 cases hw:zcf q.fb
 ·simp [hw] at h
 simp only [hw] at h
 refine ⟨rfl,?_⟩
 by_cases k1:q.fd=1
 ·simp [k1,-List.length_eq_zero_iff] at h ⊢;omega
 by_cases k2:q.fd=2
 ·simp [k2,-List.length_eq_zero_iff] at h ⊢;omega
 by_cases k3:q.fd=3
 ·simp [k3,-List.length_eq_zero_iff] at h ⊢;omega
 by_cases k4:q.fd=4
 ·simp [k4,-List.length_eq_zero_iff] at h ⊢;omega
 by_cases k5:q.fd=5
 ·simp [k5,-List.length_eq_zero_iff] at h ⊢;omega
 by_cases k6:q.fd=6
 ·simp [k6,-List.length_eq_zero_iff] at h ⊢;omega
 by_cases k15:q.fd=15
 ·simp [k15,-List.length_eq_zero_iff] at h ⊢;omega
 by_cases k16:q.fd=16
 ·simp [k16,-List.length_eq_zero_iff] at h ⊢;omega
 by_cases k22:q.fd=22
 ·simp [k22,-List.length_eq_zero_iff] at h ⊢;omega
 by_cases k23:q.fd=23
 ·simp [k23,-List.length_eq_zero_iff] at h ⊢;omega
 simp [k1,k2,k3,k4,k5,k6,k15,k16,k22,k23] at h;omega
theorem zrf {a:Td} (h:zsb a=true) (h0:a.fae=0):zcf a.fb=true/\
 (a.fd=5->a.fb.length=0/\a.fc.length=1)/\(a.fd=6->a.fb.length=1/\a.fc.length=0)/\(a.fd=22->a.fb.length=2/\a.fc.length=0)/\
 (a.fd=1\/a.fd=2->a.fb.length=0)/\(a.fd=3\/a.fd=4\/a.fd=23->a.fc.length=0)/\(a.fd=15\/a.fd=16->a.fb.length=0/\a.fc.length=0):=by
 simp only [zsb,ya0,yz9,zgd,zbc,h0] at h
 cases hw:zcf a.fb
 ·simp [hw] at h
 simp only [hw] at h
 refine ⟨rfl,?_⟩
 by_cases k1:a.fd=1
 ·simp [k1,-List.length_eq_zero_iff] at h ⊢;omega
 by_cases k2:a.fd=2
 ·simp [k2,-List.length_eq_zero_iff] at h ⊢;omega
 by_cases k3:a.fd=3
 ·simp [k3,-List.length_eq_zero_iff] at h ⊢;omega
 by_cases k4:a.fd=4
 ·simp [k4,-List.length_eq_zero_iff] at h ⊢;omega
 by_cases k5:a.fd=5
 ·simp [k5,-List.length_eq_zero_iff] at h ⊢;omega
 by_cases k6:a.fd=6
 ·simp [k6,-List.length_eq_zero_iff] at h ⊢;omega
 by_cases k15:a.fd=15
 ·simp [k15,-List.length_eq_zero_iff] at h ⊢;omega
 by_cases k16:a.fd=16
 ·simp [k16,-List.length_eq_zero_iff] at h ⊢;omega
 by_cases k22:a.fd=22
 ·simp [k22,-List.length_eq_zero_iff] at h ⊢;omega
 by_cases k23:a.fd=23
 ·simp [k23,-List.length_eq_zero_iff] at h ⊢;omega
 simp [k1,k2,k3,k4,k5,k6,k15,k16,k22,k23]
theorem yxu {α:Type} [DecidableEq α] {β γ:Type} {a c:List α} (hl:a.length<=1048576) {body:Int->α->Unit->Option (Unit⊕(Int⊕Unit))} {last:Unit->Option (Int⊕Unit)} (hlast:last ()=some (.inr ()))
 (hb:∀ k x,body k x ()=(c[k.toNat]?).bind fun v=>(bif !decide (x=v) then some (.inr (.inl k)) else some (.inl ()))):
 (bif decide (((a.length:Nat):Int)≠((c.length:Nat):Int)) then some false else(if a.length<=9223372036854775806 then zaf body last a 0 () else none).bind (zbj (fun _=>some false) (fun _=>some true)))=some (decide (a=c)):=by
 by_cases he:a.length=c.length
 ·have h0:decide (((a.length:Nat):Int)≠((c.length:Nat):Int))=false:=by simp [he]
  rw [h0,cond_false,ya4 (fun d x=> !decide (some x=c[d.length]?)) (by omega) hlast (fun d x t h=> ?_)]
  ·have key:∀ (t d:List α),d++t=a->d=c.take d.length->(anyP (fun d x=> !decide (some x=c[d.length]?)) d t=false↔t=c.drop d.length):=by
    intro t
    induction t with
    | nil=>intro d h _;simp [anyP];have:d=a:=by simpa using h
           subst this;simp [he]
    | cons x t ih=>
      intro d h hd
      have hlt:d.length<c.length:=by rw [<- he,<- h];simp
      simp only [anyP,Bool.or_eq_false_iff]
      rw [List.drop_eq_getElem_cons hlt,List.getElem?_eq_getElem hlt]
      by_cases hx:x=c[d.length]
      ·have:=ih (d ++ [x]) (by simpa using h) (by rw [List.length_append,List.length_singleton,List.take_add_one,List.getElem?_eq_getElem hlt,<- hd,hx];rfl)
       simp only [hx,decide_true,Bool.not_true,true_and,List.cons.injEq]
       rw [<- hx,this];simp
      ·exact ⟨fun h=>by simp [hx] at h,fun h=>absurd (List.cons.inj h).1 hx⟩
   have:=key a [] rfl (by simp)
   simp only [List.length_nil,List.drop_zero] at this
   by_cases hac:a=c
   ·rw [if_neg (by rw [this.2 hac];simp)];simp [hac]
   ·have hp:anyP (fun d x=> !decide (some x=c[d.length]?)) [] a=true:=by
     cases h:anyP (fun d x=> !decide (some x=c[d.length]?)) [] a
     ·exact absurd (this.1 h) hac
     ·rfl
    rw [if_pos hp];simp [hac]
  ·have hlt:d.length<c.length:=by rw [<- he,<- h];simp
   refine ⟨((d.length:Nat):Int),?_⟩
   rw [hb,zab,List.getElem?_eq_getElem hlt,Option.bind_some]
   by_cases hx:x=c[d.length] <;> simp [hx]
 ·have h0:decide (((a.length:Nat):Int)≠((c.length:Nat):Int))=true:=by simp;omega
  rw [h0,cond_true]
  have:¬ a=c:=fun e=>he (by rw [e])
  simp [this]
theorem zd4 (v1:List Int) (v2:List Int) (hv1:v1.length<=1048576) (hv2:v2.length<=1048576):ysi v1 v2=some (decide (v1=v2)):=by
 rw [ysi];unfold zw8
 exact yxu (β:=Unit) (γ:=Unit) hv1 rfl (fun k x=>by rw [yew];simp only [ne_eq,decide_not])
theorem qo8 (a b:Bool):(true ^^ (a == b))= !decide (a=b):=by cases a <;> cases b <;> rfl
theorem zcp (v1:List Bool) (v2:List Bool) (hv1:v1.length<=1048576) (hv2:v2.length<=1048576):ys2 v1 v2=some (decide (v1=v2)):=by
 rw [ys2];unfold ztj
 exact yxu (β:=Unit) (γ:=Unit) hv1 rfl (fun k x=>by rw [yeu];simp only [qo8])
theorem qfc (v1:List Int) (v2:List Int) (hv1:v1.length<=1048576) (hv2:v2.length<=1048576):ysj v1 v2=some (decide (v1=v2)):=by
 rw [ysj];unfold zwl
 exact yxu (β:=Unit) (γ:=Unit) hv1 rfl (fun k x=>by rw [yag];simp only [ne_eq,decide_not])
theorem qrm (v1:List Bool) (v2:List Bool) (hv1:v1.length<=1048576) (hv2:v2.length<=1048576):yx6 v1 v2=some (decide (v1=v2)):=by
 rw [yx6];unfold zw9
 exact yxu (β:=Unit) (γ:=Unit) hv1 rfl (fun k x=>by rw [yhv];simp only [qo8])
def eqI (a b:List Int):Bool:=decide (a=b)
def eqB (a b:List Bool):Bool:=decide (a=b)
theorem qzh (v1:Tk) (v2:Td) (hv1:v1.sz<=1048576) (hv2:v2.sz<=1048576):yv7 v1 v2=some (zj7 v1 v2):=by
 have g1:=hv1;have g2:=hv2
 simp only [Tk.sz,Td.sz] at g1 g2
 rw [yv7]
 simp only [ytz v1 hv1,qlz v2 hv2,Option.bind_some]
 unfold zj7
 cases hq:znj v1
 ·rfl
 cases ha:zsb v2
 ·rfl
 have F:=zjv hq
 by_cases hk:v2.fd=v1.fd
 rotate_left
 ·simp [hk]
 by_cases hf:v2.fae=0
 rotate_left
 ·simp [hk,hf]
 simp only [hk,hf,ne_eq,not_true_eq_false,decide_false,cond_false,Bool.not_true]
 by_cases k1:v1.fd=1
 ·have:=F.2.2.2.2.1 (.inl k1);simp [k1,qkh v1.fN v2.fc (by omega) this.1 this.2.1]
 by_cases k2:v1.fd=2
 ·have:=F.2.2.2.2.1 (.inr k2);simp [k2,qkh v1.fN v2.fc (by omega) this.1 this.2.1]
 by_cases k3:v1.fd=3
 ·simp [k3]
 by_cases k4:v1.fd=4
 ·simp [k4]
 by_cases k23:v1.fd=23
 ·simp [k23]
 by_cases k15:v1.fd=15
 ·have h15:=F.2.2.2.2.2.2.2.2.1 k15
  have hw:i64.wrap ((v1.fb.length:Int)+(v1.fc.length:Int))=v1.fc.length:=by rw [zc0 (by omega) (by omega)];omega
  simp only [qdu v1 hv1,yq3,k15,hw]
  by_cases hAt:v2.fe=v1.fe <;> simp [hAt]
 by_cases k16:v1.fd=16
 ·have h16:=F.2.2.2.2.2.2.2.2.2.1 k16
  have hw:i64.wrap ((v1.fb.length:Int)+(v1.fc.length:Int))=v1.fb.length:=by rw [zc0 (by omega) (by omega)];omega
  simp only [qdu v1 hv1,yq3,k16,hw]
  by_cases hAt:v2.fe=v1.fe <;> simp [hAt]
 simp only [k1,k2,k3,k4,k23,k15,k16,zd4 v2.fb v1.fb (by omega) (by omega),zcp v2.fc v1.fc (by omega) (by omega)]
 by_cases hAt:v2.fe=v1.fe <;> by_cases hw:v2.fb=v1.fb <;> simp [hAt,hw]
theorem yk0 {l m:List Bool} (h1:l.length=1) (h2:m.length=1):∃ x y,l=[x]/\m=[y]:=by
 obtain ⟨x,rfl⟩:=List.length_eq_one_iff.1 h1
 obtain ⟨y,rfl⟩:=List.length_eq_one_iff.1 h2
 exact ⟨x,y,rfl,rfl⟩
theorem zyd (v1:Tk) (v2:Td) (g2:v2.fc.length<=1048576) (h1:1<=v1.fN) (h2:v1.fN<=2000) {body:Int->Option (Int⊕(Int⊕Int))}
 (h:(zcl body BIG (((v2.fc.take v1.fN.toNat).length:Nat):Int)).bind (zbj (fun _=>some false) (fun _=>some (decide (((v2.fc.length:Nat):Int)=ze0 v1.fN))))=if(v2.fc.drop v1.fN.toNat).any id then some false else some (decide (((v2.fc.length:Nat):Int)=ze0 v1.fN)))
 (hlong:v1.fN<=v2.fc.length->True:=by intro;trivial) (hshort:∀ A:Option Bool,¬ v1.fN<=v2.fc.length->(zcl body BIG v1.fN).bind (zbj (fun _=>some false) (fun _=>A))=A):
 (zcl body BIG v1.fN).bind (zbj (fun _=>some false) (fun _=>some (decide (((v2.fc.length:Nat):Int)=ze0 v1.fN))))=some (zzc v1.fN v2.fc):=by
 have hb:=zqv h1 h2
 by_cases hl:v1.fN<=v2.fc.length
 ·have e:(((v2.fc.take v1.fN.toNat).length:Nat):Int)=v1.fN:=by rw [List.length_take];omega
  rw [e] at h
  rw [h]
  unfold zzc
  cases ha:(v2.fc.drop v1.fN.toNat).any id <;> by_cases hd:((v2.fc.length:Nat):Int)=ze0 v1.fN <;> simp [hd]
 ·rw [hshort _ hl]
  have:¬((v2.fc.length:Nat):Int)=ze0 v1.fN:=by omega
  simp [zzc,this]
theorem qw3 (v1:Tk) (v2:Td) (hv1:v1.sz<=1048576) (hv2:v2.sz<=1048576):yxh v1 v2=some (zj7 v1 v2):=by
 have g1:=hv1;have g2:=hv2
 simp only [Tk.sz,Td.sz] at g1 g2
 rw [yxh]
 simp only [yu1 v1 hv1,qoh v2 hv2,Option.bind_some]
 unfold zj7
 cases hq:znj v1
 ·rfl
 cases ha:zsb v2
 ·rfl
 have F:=zjv hq
 by_cases hk:v1.fd=v2.fd
 rotate_left
 ·have hk':¬ v2.fd=v1.fd:=fun e=>hk e.symm
  simp [hk,hk']
 have hge:0<=v2.fae:=by
  simp only [zsb,ysc,zbc] at ha
  by_cases h0:v2.fae=0
  ·omega
  ·simp [h0,-List.length_eq_zero_iff] at ha;omega
 by_cases hf:v2.fae=0
 rotate_left
 ·have:0<v2.fae:=by omega
  simp [hk,hf,this]
 have Fa:=zrf ha hf
 simp only [<- hk,hf,ne_eq,not_true_eq_false,decide_false,cond_false,Bool.not_true,Int.lt_irrefl]
 rw [<- hk] at Fa
 by_cases k1:v1.fd=1
 ·have hn:=F.2.2.2.2.1 (.inl k1)
  simp only [k1,decide_true,cond_true]
  have h:=ynq (body:=fun s=>(zp9 v1 v2 s)) (bs:=v2.fc) (by omega) (fun s=>rfl) (v2.fc.drop v1.fN.toNat) (v2.fc.take v1.fN.toNat) BIG (List.take_append_drop ..) (by simp [BIG];omega) (some false) (some (decide (((v2.fc.length:Nat):Int)=ze0 v1.fN)))
  simp only [k1,decide_true,cond_true,Bool.true_or]
  exact zyd v1 v2 (by omega) hn.1 hn.2.1 h (hshort:=fun A hl=>by
   have hd:decide (v1.fN<((v2.fc.length:Nat):Int))=false:=by simp only [decide_eq_false_iff_not];omega
   have hb:(zp9 v1 v2 v1.fN)=some (.inr (.inr v1.fN)):=by rw [zp9,hd];rfl
   show (zcl _ (BIG - 1+1) _).bind _=A
   simp only [zcl,hb];rfl)
 by_cases k2:v1.fd=2
 ·have hn:=F.2.2.2.2.1 (.inr k2)
  have h:=ynq (body:=fun s=>(zla v1 v2 s)) (bs:=v2.fc) (by omega) (fun s=>rfl) (v2.fc.drop v1.fN.toNat) (v2.fc.take v1.fN.toNat) BIG (List.take_append_drop ..) (by simp [BIG];omega) (some false) (some (decide (((v2.fc.length:Nat):Int)=ze0 v1.fN)))
  simp only [k2,decide_true,cond_true,Bool.or_true,show decide ((2:Int)=1)=false from rfl,cond_false]
  exact zyd v1 v2 (by omega) hn.1 hn.2.1 h (hshort:=fun A hl=>by
   have hd:decide (v1.fN<((v2.fc.length:Nat):Int))=false:=by simp only [decide_eq_false_iff_not];omega
   have hb:(zla v1 v2 v1.fN)=some (.inr (.inr v1.fN)):=by rw [zla,hd];rfl
   show (zcl _ (BIG - 1+1) _).bind _=A
   simp only [zcl,hb];rfl)
 by_cases k3:v1.fd=3
 ·simp [k3]
 by_cases k4:v1.fd=4
 ·simp [k4]
 by_cases k23:v1.fd=23
 ·simp [k23]
 by_cases k5:v1.fd=5
 ·have h5:=F.2.2.2.2.2.2.1 k5
  have a5:=Fa.2.1 k5
  obtain ⟨x,y,hx,hy⟩:=yk0 h5.2.2 a5.2
  have w1:v1.fb=[]:=List.eq_nil_of_length_eq_zero h5.2.1
  have w2:v2.fb=[]:=List.eq_nil_of_length_eq_zero a5.1
  simp only [k5,hx,hy,w1,w2]
  by_cases hAt:v2.fe=v1.fe <;> cases x <;> cases y <;> simp [hAt]
 by_cases k6:v1.fd=6
 ·have h6:=F.2.2.2.2.2.2.2.1 k6
  have a6:=Fa.2.2.1 k6
  have w1:v1.fc=[]:=List.eq_nil_of_length_eq_zero h6.2.2
  have w2:v2.fc=[]:=List.eq_nil_of_length_eq_zero a6.2
  simp only [k6,w1,w2,qfc v2.fb v1.fb (by omega) (by omega)]
  by_cases hAt:v2.fe=v1.fe <;> simp [hAt]
 by_cases k22:v1.fd=22
 ·have h22:=F.2.2.2.2.2.2.2.2.2.2.1 k22
  have a22:=Fa.2.2.2.1 k22
  have w1:v1.fc=[]:=List.eq_nil_of_length_eq_zero h22.2.2
  have w2:v2.fc=[]:=List.eq_nil_of_length_eq_zero a22.2
  simp only [k22,w1,w2,qfc v2.fb v1.fb (by omega) (by omega)]
  by_cases hAt:v2.fe=v1.fe <;> simp [hAt]
 by_cases k15:v1.fd=15
 ·simp only [k15]
  by_cases hAt:v2.fe=v1.fe <;> simp [hAt]
 have k16:v1.fd=16:=by have:=F.2.1;omega
 simp only [k16]
 by_cases hAt:v2.fe=v1.fe <;> simp [hAt]
end Go.Pm
namespace Go.Pm
open IntKind (i64)
theorem qlh {β δ γ:Type} {body:Int->Option (Int⊕(β⊕δ))} (p:Nat->Bool) (N:Nat) (hN:N<=1048576) (hb:∀ i:Nat,i<N->∃ e,body i=some (if p i then .inr (.inl e) else .inl ((i:Int)+1))) (he:∃ e,body N=some (.inr (.inr e))) (A B:Option γ):
 (zcl body BIG 0).bind (zbj (fun _=>A) (fun _=>B))=if(List.range N).any p then A else B:=by
 have key:∀ (m i n:Nat),i+m=N->m<n->(zcl body n (i:Int)).bind (zbj (fun _=>A) (fun _=>B))=if(List.range' i m).any p then A else B:=by
  intro m
  induction m with
  | zero=>
    intro i n hi hn
    obtain ⟨n,rfl⟩:∃ q,n=q+1:=⟨n - 1,by omega⟩
    have:i=N:=by omega
    subst this
    obtain ⟨e,he⟩:=he
    simp [zcl,he,zbj]
  | succ m ih=>
    intro i n hi hn
    obtain ⟨n,rfl⟩:∃ q,n=q+1:=⟨n - 1,by omega⟩
    obtain ⟨e,hbe⟩:=hb i (by omega)
    simp only [zcl,hbe,List.range'_succ,List.any_cons]
    cases hp:p i with
    | true=>simp [zbj]
    | false=>
      have:=ih (i+1) n (by omega) (by omega)
      rw [Bool.false_or]
      simpa using this
 have:=key N 0 BIG (by omega) (by simp only [BIG];omega)
 rw [List.range_eq_range']
 simpa using this
theorem zqw {α:Type} (q:α->Bool) {xs d t:List α} (h:d++t=xs):(List.range d.length).any (fun i=>(xs[i]?).any q)=d.any q:=by
 subst h
 rw [Bool.eq_iff_iff]
 simp only [List.any_eq_true,List.mem_range,Option.any_eq_true]
 constructor
 ·rintro ⟨i,hi,y,hy,hq⟩
  rw [List.getElem?_append_left hi] at hy
  exact ⟨y,List.mem_of_getElem? hy,hq⟩
 ·rintro ⟨y,hy,hq⟩
  obtain ⟨i,hi,e⟩:=List.getElem_of_mem hy
  exact ⟨i,hi,y,by rw [List.getElem?_append_left hi,List.getElem?_eq_getElem hi,e],hq⟩
def zrp {α σ:Type} (f:σ->List α->α->σ):σ->List α->List α->σ
 | s,_,[]=>s
 | s,d,x::t=>zrp f (f s d x) (d ++ [x]) t
theorem qqm {α β δ σ γ:Type} {body:Int->α->σ->Option (σ⊕(β⊕δ))} {last:σ->Option (β⊕δ)} {xs:List α} (p:List α->α->Bool) (f:σ->List α->α->σ) (g:σ->δ) (hl:xs.length<=9223372036854775806) (hlast:∀ s,last s=some (.inr (g s)))
 (hb:∀ d x t s,d++x::t=xs->∃ e,body ((d.length:Nat):Int) x s=some (if p d x then .inr (.inl e) else .inl (f s d x))) (s0:σ) (A:Option γ) (B:δ->Option γ):
 (if xs.length<=9223372036854775806 then zaf body last xs 0 s0 else none).bind (zbj (fun _=>A) (fun v=>B v))=if anyP p [] xs then A else B (g (zrp f s0 [] xs)):=by
 rw [if_pos hl]
 have key:∀ (t d:List α) (s:σ),d++t=xs->(zaf body last t ((d.length:Nat):Int) s).bind (zbj (fun _=>A) (fun v=>B v))=if anyP p d t then A else B (g (zrp f s d t)):=by
  intro t
  induction t with
  | nil=>intro d s _;simp [zaf,hlast,anyP,zrp,zbj]
  | cons x t ih=>
    intro d s he
    obtain ⟨e,hbe⟩:=hb d x t s he
    simp only [zaf,hbe,anyP,zrp]
    by_cases hp:p d x=true
    ·simp [hp,zbj]
    ·have:=ih (d ++ [x]) (f s d x) (by simpa using he)
     simp only [hp,Bool.false_or]
     simpa using this
 exact key xs [] s0 rfl
def zyw (x y:Te):Bool:=yr4 x y
def zf7 (d:List Te) (x:Te):Bool:= !ysf x||d.any (fun y=>zyw y x)
def zqs (l:List Te):Bool:= !anyP zf7 [] l&&decide (((l.length:Nat):Int)<=24)
theorem ykj (l:List Te) (x:Te):ql7 l x=l.any (fun y=>yr4 y x):=zg2
theorem jbk (v1:List Te) (hv1:v1.length<=1048576):qav v1=some (zqs v1):=by
 rw [qav];unfold zt8
 rw [ya4 zf7 (by omega) rfl (fun d x t he=>⟨_,by
  rw [yi2]
  have hd:(v1.take (((d.length:Nat):Int)).toNat).drop (0:Int).toNat=d:=by
   rw [zab,<- he];simp
  have hlt:=zdy he
  rw [jgx,hd,jc7 d x (by omega),if_pos (by simp only [List.length_map];omega)]
  simp only [Option.bind_some,ykj]
  show _=some (if zf7 d x=true then _ else _)
  unfold zf7 zyw
  cases hr:ysf x
  ·rfl
  ·cases ha:d.any fun y=>yr4 y x <;> rfl⟩)]
 unfold zqs
 cases anyP zf7 [] v1 <;> rfl
theorem yb0 (r:Te) (h:r.ok):qdg r=ysf r:=by
 simp only [Te.ok] at h
 have e1:=zhr (r.fal+r.faq)
 have e2:=zhr (r.fan+r.faq)
 rw [Bool.eq_iff_iff]
 simp [qdg,ysf,yh9,zgd,yju,zbc]
 omega
theorem yrm (v1:List Te) (hv1:v1.length<=1048576) {d t:List Te} {x:Te} (he:d++x::t=v1) {γ:Type} (A B:Option γ):
 (zis v1 ((d.length:Nat):Int) 0).bind (zbj (fun _=>A) (fun _=>B))=if d.any (fun y=>zyw y x) then A else B:=by
 have hlt:=zdy he
 unfold zis
 rw [qlh (fun i=>(v1[i]?).any (fun y=>zyw y x)) d.length (by omega) (fun i hi=> ?_) ⟨((d.length:Nat):Int),by rw [zsq];simp⟩,zqw (fun y=>zyw y x) he]
 have hi':i<v1.length:=by omega
 refine ⟨(i:Int),?_⟩
 rw [zsq,zab,zab,zbu he,List.getElem?_eq_getElem hi']
 have hd:decide (((i:Nat):Int)<((d.length:Nat):Int))=true:=by simp;omega
 have hw:i64.wrap ((i:Int)+1)=(i:Int)+1:=zc0 (by omega) (by omega)
 simp only [hd,cond_true,Option.bind_some,hw,Option.any_some,zyw,yr4,if_pos (Int.natCast_nonneg _)]
 by_cases h1:v1[i].fg=x.fg <;> by_cases h2:v1[i].fba=x.fba <;> by_cases h3:v1[i].fal<=x.fan <;> by_cases h4:x.fal<=v1[i].fan <;> simp [h1,h2,h3,h4]
theorem qv6 (v1:List Te) (hv1:v1.length<=1048576) (hok:∀ r∈v1,r.ok):yuv v1=some (zqs v1):=by
 rw [yuv];unfold ztg
 unfold zqs
 by_cases hl:24<((v1.length:Nat):Int)
 ·have:¬((v1.length:Nat):Int)<=24:=by omega
  simp [hl,this]
 ·have hl':((v1.length:Nat):Int)<=24:=by omega
  simp only [hl,decide_false,cond_false,hl',decide_true,Bool.and_true]
  rw [ya4 zf7 (by omega) rfl (fun d x t he=> ?_)]
  ·cases anyP zf7 [] v1 <;> rfl
  ·rw [ybd,qva,yb0 x (hok x (by rw [<- he];simp))]
   unfold zf7
   simp only [Option.bind_some]
   cases hr:ysf x
   ·exact ⟨_,rfl⟩
   ·simp only [Bool.not_true,cond_false,Bool.false_or]
    have h:=fun(A B:Option (Unit⊕((Int×V×V×V)⊕Unit)))=>yrm v1 hv1 he A B
    cases hx:zis v1 ((d.length:Nat):Int) 0 with
    | none=>have:=h (some (.inl ())) (some (.inl ()));rw [hx] at this;simp at this
    | some r=>
      have h1:=h (some (.inr (.inr ()))) (some (.inl ()))
      rw [hx] at h1
      cases r with
      | inl a=>
        simp only [Option.bind_some,zbj] at h1 ⊢
        refine ⟨(((d.length:Nat):Int),(.int .i64 a:V),(.gone:V),(.bool true:V)),?_⟩
        split at h1
        ·rename_i ha;rw [if_pos ha]
        ·cases h1
      | inr a=>
        simp only [Option.bind_some,zbj] at h1 ⊢
        split at h1
        ·cases h1
        ·rename_i ha;exact ⟨(0,.gone,.gone,.gone),by rw [if_neg ha]⟩
def zfq (c:Tr):Bool:=yp9 c.faf c.fad&&zqs c.fah
theorem jcv (c:Tr) (h:c.sz<=1048576):yyg c=some (zfq c):=by
 simp only [Tr.sz] at h
 rw [yyg,qo7,Option.bind_some]
 unfold zfq
 cases yp9 c.faf c.fad
 ·rfl
 ·simp only [cond_true,jbk c.fah (by omega),Option.bind_some,Bool.true_and]
theorem jis (c:Tr) (h:c.sz<=1048576) (hok:c.ok):qbr c=some (zfq c):=by
 simp only [Tr.sz] at h
 rw [qbr]
 simp only [zea,Option.bind_some,qv6 c.fah (by omega) hok.2.2.2]
 unfold zfq yp9
 cases zbc c.faf 1 100 <;> cases zbc c.fad 0 5 <;> rfl
def yk9 (v1:Tk) (v2:Tk):Bool:=(bif decide (v1.fd=v2.fd) then(bif decide (v1.fe=v2.fe) then(bif decide (v1.fN=v2.fN) then(bif decide (v1.fi=v2.fi) then(let v7:=eqI v1.fb v2.fb;(bif v7 then(let v9:=eqB v1.fc v2.fc;v9) else false)) else false) else false) else false) else false)
theorem qdq (v1:Tk) (v2:Tk) (hv1:v1.sz<=1048576) (hv2:v2.sz<=1048576):yrx v1 v2=some (yk9 v1 v2):=by
 rw [yrx];first|rfl|(simp only [zd4 v1.fb v2.fb (by simp only [Tk.sz] at hv1;omega) (by simp only [Tk.sz] at hv2;omega),zcp v1.fc v2.fc (by simp only [Tk.sz] at hv1;omega) (by simp only [Tk.sz] at hv2;omega),Option.bind_some,za8];rfl)
def yok (v1:Td) (v2:Td):Bool:=(bif decide (v1.fd=v2.fd) then(bif decide (v1.fae=v2.fae) then(bif decide (v1.fe=v2.fe) then(bif decide (v1.fN=v2.fN) then(let v7:=eqI v1.fb v2.fb;(bif v7 then(let v9:=eqB v1.fc v2.fc;v9) else false)) else false) else false) else false) else false)
theorem qmy (v1:Td) (v2:Td) (hv1:v1.sz<=1048576) (hv2:v2.sz<=1048576):ys5 v1 v2=some (yok v1 v2):=by
 rw [ys5];first|rfl|(simp only [zd4 v1.fb v2.fb (by simp only [Td.sz] at hv1;omega) (by simp only [Td.sz] at hv2;omega),zcp v1.fc v2.fc (by simp only [Td.sz] at hv1;omega) (by simp only [Td.sz] at hv2;omega),Option.bind_some,za8];rfl)
def qip (v1:Tk) (v2:Tk):Bool:=(bif decide (v1.fd=v2.fd) then(bif decide (v1.fe=v2.fe) then(bif decide (v1.fN=v2.fN) then(bif decide (v1.fi=v2.fi) then(let v7:=eqI v1.fb v2.fb;(bif v7 then(let v9:=eqB v1.fc v2.fc;v9) else false)) else false) else false) else false) else false)
theorem qzy (v1:Tk) (v2:Tk) (hv1:v1.sz<=1048576) (hv2:v2.sz<=1048576):yu4 v1 v2=some (qip v1 v2):=by
 rw [yu4];first|rfl|(simp only [qfc v1.fb v2.fb (by simp only [Tk.sz] at hv1;omega) (by simp only [Tk.sz] at hv2;omega),qrm v1.fc v2.fc (by simp only [Tk.sz] at hv1;omega) (by simp only [Tk.sz] at hv2;omega),Option.bind_some,za8];rfl)
def ytx (v1:Tk):Bool:=(bif decide (v1.fd=0) then(bif decide (v1.fe=0) then(bif decide (v1.fN=0) then(bif decide (((v1.fb.length:Nat):Int)=0) then(bif decide (((v1.fc.length:Nat):Int)=0) then decide (v1.fi=0) else false) else false) else false) else false) else false)
theorem ql8 (v1:Tk) (hv1:v1.sz<=1048576):yug v1=some (ytx v1):=by
 rw [yug];first|rfl|(simp only [Option.bind_some,za8];rfl)
def yzu (v1:Td):Bool:=(bif decide (v1.fd=0) then(bif decide (v1.fae=0) then(bif decide (v1.fe=0) then(bif decide (v1.fN=0) then(bif decide (((v1.fb.length:Nat):Int)=0) then decide (((v1.fc.length:Nat):Int)=0) else false) else false) else false) else false) else false)
theorem qok (v1:Td) (hv1:v1.sz<=1048576):ys8 v1=some (yzu v1):=by
 rw [ys8];first|rfl|(simp only [Option.bind_some,za8];rfl)
def ysk (v1:Th):Bool:=(let v2:=yju v1.fp;(bif v2 then(let v4:=yh9 v1.fg;(bif v4 then(let v6:=znj v1.fa;v6) else false)) else false))
theorem jdk (v1:Th) (hv1:v1.sz<=1048576):yw8 v1=some (ysk v1):=by
 rw [yw8];first|rfl|(simp only [yyy v1.fp,ys0 v1.fg,ytz v1.fa (by simp only [Th.sz] at hv1;omega),Option.bind_some,za8];rfl)
def qn4 (v1:Th):Bool:=(let v2:=zbc v1.fp 0 5;(bif v2 then(let v4:=zbc v1.fg 1 247;(bif v4 then(let v6:=znj v1.fa;v6) else false)) else false))
theorem qwa (v1:Th) (hv1:v1.sz<=1048576):yuk v1=some (qn4 v1):=by
 rw [yuk];first|rfl|(simp only [zea v1.fp 0 5,zea v1.fg 1 247,yu1 v1.fa (by simp only [Th.sz] at hv1;omega),Option.bind_some,za8];rfl)
def ypu (v1:Ta):Bool:=(bif decide (v1.fk=0) then(bif decide (v1.fr=0) then(bif decide (v1.fg=0) then(let v5:=yk9 v1.fa (⟨0,0,0,[],[],0⟩:Tk);v5) else false) else false) else false)
theorem qzm (v1:Ta) (hv1:v1.sz<=1048576):yxd v1=some (ypu v1):=by
 rw [yxd];first|rfl|(simp only [qdq v1.fa (⟨0,0,0,[],[],0⟩:Tk) (by simp only [Ta.sz] at hv1;omega) (by simp [Tk.sz]),Option.bind_some,za8];rfl)
theorem qt9 (v1:Tk) (v2:Tk) (hv1:v1.sz<=1048576) (hv2:v2.sz<=1048576):qip v1 v2=yk9 v1 v2:=by
 simp only [qip,yk9]
theorem qq3 (v1:Tk) (v2:Tk) (hv1:v1.sz<=1048576) (hv2:v2.sz<=1048576):yu4 v1 v2=some (yk9 v1 v2):=by rw [qzy v1 v2 hv1 hv2,qt9 v1 v2 hv1 hv2]
theorem zxt (a:Tk):ytx a=yk9 a ⟨0,0,0,[],[],0⟩:=by
 simp only [ytx,yk9,eqI,eqB]
 rw [Bool.eq_iff_iff]
 simp [Bool.cond_eq_ite]
 grind
theorem zrc (a:Td):yzu a=yok a ⟨0,0,0,0,[],[]⟩:=by
 simp only [yzu,yok,eqI,eqB]
 rw [Bool.eq_iff_iff]
 simp [Bool.cond_eq_ite]
theorem qzk (v1:Th) (hv1:v1.sz<=1048576):qn4 v1=ysk v1:=by
 rfl
theorem qty (v1:Th) (hv1:v1.sz<=1048576):yuk v1=some (ysk v1):=by rw [qwa v1 hv1,qzk v1 hv1]
end Go.Pm
