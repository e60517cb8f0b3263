/- Proved: the law FnExactFabricSwap answers true at all arguments, for every operating system that has started; no conditions beyond the row's own. -/
import Derived.Test.YtfoflieoeahhfaaGreatMo
set_option linter.unusedVariables false
set_option linter.unusedSimpArgs false
namespace Go.Pm
open IntKind (i64)
set_option maxRecDepth 100000
set_option maxHeartbeats 400000
def yxt (v1:List Int):Option Int:=(zuw v1 ()).bind (zbw (fun (v19:Int)=>(some v19)) (fun (v20:Unit)=>(some (-1))))
def qhf (v1:List Int):Ctr:=⟨316,[.imm 1 (v1.map (V.int .i64)),.clo 301 []],[],Int,yxt v1,rI⟩
theorem qpx {v1:List Int}:(qhf v1).okF tab:=okF_of rfl rfl (.lenA (V.int .i64) v1<|.lp2 (yeq v1 ()) (fun (v19:Int)=>.lfA rI v19) (fun (v20:Unit)=>.lfA rI (-1)):Tree Int _) (by kernel_rfl) (lA<|lQ yqt (fun v19=>rfl) (fun v20=>rfl))
def yxx (v1:List Int):Option Bool:=(yxt v1).bind fun v2=>(some (decide (0<=v2)))
def qfz (v1:List Int):Ctr:=⟨300,[.imm 1 (v1.map (V.int .i64)),.clo 301 []],[],Bool,yxx v1,rB⟩
theorem qq6 {v1:List Int}:(qfz v1).okF tab:=okF_of rfl rfl (.callF (qhf v1) fun(v2:Int)=>.lfA rB (decide (0<=v2))) (by kernel_rfl) (cF qpx fun v2=>rfl)
def yui (v1:List Int):Option Bool:=(yxx v1).bind fun v2=>(some (!v2))
def qbr (v1:List Int):Ctr:=⟨253,[.imm 1 (v1.map (V.int .i64))],[],Bool,yui v1,rB⟩
theorem qf1 {v1:List Int}:(qbr v1).okF tab:=okF_of rfl rfl (.callF (qfz v1) fun v2=>.lfA rB (!v2)) (by kernel_rfl) (cF qq6 fun v2=>rfl)
def ypr (v1:Tg):Option Int:=bif decide (v1.fe=22) then(some 1) else(some (i64.wrap ((v1.fc.length:Int)+(v1.fb.length:Int))))
def yvi (v1:Tg):Ctr:=⟨261,[v1.i],[],Int,ypr v1,rI⟩
theorem yx3 {v1:Tg}:(yvi v1).okF tab:=okF_of rfl rfl (.br (decide (v1.fe=22)) (.lfA rI 1)<|.lenA (V.int .i64) v1.fc<|.lenA V.bool v1.fb<|.lfA rI (i64.wrap ((v1.fc.length:Int)+(v1.fb.length:Int))):Tree Int _) (by kernel_rfl) (bR rfl<|lA<|lA<|rfl)
def yst (v1:Tg):Option Bool:=(yzf v1.fe).bind fun v2=>((yvj v1.fe).bind fun v4=>(bif !v4 then(some false) else((zi0 v1.fN v2.1.f0 v2.1.f1).bind fun v7=>(bif !v7 then(some false) else((zi0 (v1.fc.length:Int) v2.2.1.f0 v2.2.1.f1).bind fun v10=>(bif !v10 then(some false) else((zi0 (v1.fb.length:Int) v2.2.2.f0 v2.2.2.f1).bind fun v13=>(bif !v13 then(some false) else((zm1 v1.ff).bind fun v16=>(bif !v16 then(some false) else((zm1 v1.fp).bind fun v19=>(bif !v19 then(some false) else((yui v1.fc).bind fun v22=>(bif !v22 then(some false) else(bif decide (65536<(i64.wrap (v1.ff+v1.fN))) then(some false) else(bif decide (v1.fe=23) then((ypr v1).bind fun v27=>(some (decide ((i64.wrap (v1.fp+v27))<=65536)))) else(bif decide (v1.fp=0) then((ypr v1).bind fun v30=>(some (decide ((i64.wrap (v1.ff+v30))<=65536)))) else(some false))))))))))))))))))
def yvf (v1:Tg):Ctr:=⟨173,[v1.i],[],Bool,yst v1,rB⟩
theorem yyn {v1:Tg}:(yvf v1).okF tab:=okF_of rfl rfl (.callF (qm7 v1.fe) fun(v2:Tj×Tj×Tj)=>.callF (qb9 v1.fe) fun v4=>.br (!v4) (.lfA rB false)<|.sk<|.sk<|.callF (zih v1.fN v2.1.f0 v2.1.f1) fun v7=>.br (!v7) (.lfA rB false)<|.lenA (V.int .i64) v1.fc<|.sk<|.sk<|.callF (zih (v1.fc.length:Int) v2.2.1.f0 v2.2.1.f1) fun(v10:Bool)=>.br (!v10) (.lfA rB false)<|.lenA V.bool v1.fb<|.sk<|.sk<|.callF (zih (v1.fb.length:Int) v2.2.2.f0 v2.2.2.f1) fun(v13:Bool)=>.br (!v13) (.lfA rB false)<|.callF (zrc v1.ff) fun v16=>.br (!v16) (.lfA rB false)<|.callF (zrc v1.fp) fun v19=>.br (!v19) (.lfA rB false)<|.callF (qbr v1.fc) fun v22=>.br (!v22) (.lfA rB false)<|.br (decide (65536<(i64.wrap (v1.ff+v1.fN)))) (.lfA rB false)<|.br (decide (v1.fe=23)) (.callF (yvi v1) fun(v27:Int)=>.lfA rB (decide ((i64.wrap (v1.fp+v27))<=65536)))<|.br (decide (v1.fp=0)) (.callF (yvi v1) fun(v30:Int)=>.lfA rB (decide ((i64.wrap (v1.ff+v30))<=65536)))<|.lfA rB false) (by kernel_rfl) (cF qqn fun v2=>cF qg4 fun v4=>bR rfl<|cF zkj fun v7=>bR rfl<|lA<|cF zkj fun v10=>bR rfl<|lA<|cF zkj fun v13=>bR rfl<|cF zrl fun v16=>bR rfl<|cF zrl fun v19=>bR rfl<|cF qf1 fun v22=>bR rfl<|bR rfl<|bR (cF yx3 fun v27=>rfl)<|bR (cF yx3 fun v30=>rfl)<|rfl)
def yy9 (v1:Tf):Option Bool:=(yva v1.faf).bind fun v2=>(bif v2 then((yqi v1.fo).bind fun v5=>(bif v5 then((yst v1.fa).bind fun v8=>(some v8)) else(some false))) else(some false))
def qge (v1:Tf):Ctr:=⟨295,[v1.i],[],Bool,yy9 v1,rB⟩
theorem qs7 {v1:Tf}:(qge v1).okF tab:=okF_of rfl rfl (.callF (qby v1.faf) fun v2=>.br v2 (.callF (yvn v1.fo) fun v5=>.br v5 (.callF (yvf v1.fa) fun v8=>.lfA rB v8)<|.lfA rB false)<|.lfA rB false) (by kernel_rfl) (cF qjw fun v2=>bR (cF yzs fun v5=>bR (cF yyn fun v8=>rfl)<|rfl)<|rfl)
def yzh (v1:Te):Option Bool:=(zi0 v1.fae 1 255).bind fun v2=>(bif v2 then(bif decide (v1.ff=0) then(bif decide (v1.fN=0) then(bif decide ((v1.fc.length:Int)=0) then(some (decide ((v1.fb.length:Int)=0))) else(some false)) else(some false)) else(some false)) else(some false))
def qkr (v1:Te):Ctr:=⟨256,[v1.i],[],Bool,yzh v1,rB⟩
theorem qx1 {v1:Te}:(qkr v1).okF tab:=okF_of rfl rfl (.callF (zih v1.fae 1 255) fun v2=>.br v2 (.br (decide (v1.ff=0)) (.br (decide (v1.fN=0)) (.lenA (V.int .i64) v1.fc<|.br (decide ((v1.fc.length:Int)=0)) (.lenA V.bool v1.fb<|.lfA rB (decide ((v1.fb.length:Int)=0)))<|.lfA rB false)<|.lfA rB false)<|.lfA rB false)<|.lfA rB false) (by kernel_rfl) (cF zkj fun v2=>bR (bR (bR (lA<|bR (lA<|rfl)<|rfl)<|rfl)<|rfl)<|rfl)
def yar:(Tj×Tj×Int×Bool)->V×List (List V):=fun r=>(.tup [r.1.i,r.2.1.i,.int .i64 r.2.2.1,.bool r.2.2.2],[])
def yxu (v1:Int):Option (Tj×Tj×Int×Bool):=bif decide (v1=1) then(some ((⟨0,0⟩:Tj),(⟨1,2000⟩:Tj),0,false)) else(bif decide (v1=2) then(some ((⟨0,0⟩:Tj),(⟨1,2000⟩:Tj),0,false)) else(bif decide (v1=3) then(some ((⟨1,125⟩:Tj),⟨0,0⟩,0,false)) else(bif decide (v1=4) then(some ((⟨1,125⟩:Tj),⟨0,0⟩,0,false)) else(bif decide (v1=23) then(some ((⟨1,125⟩:Tj),⟨0,0⟩,0,false)) else(bif decide (v1=5) then(some ((⟨0,0⟩:Tj),(⟨1,1⟩:Tj),0,true)) else(bif decide (v1=6) then(some ((⟨1,1⟩:Tj),⟨0,0⟩,0,true)) else(bif decide (v1=15) then(some ((⟨0,0⟩:Tj),⟨0,0⟩,1968,true)) else(bif decide (v1=16) then(some ((⟨0,0⟩:Tj),⟨0,0⟩,123,true)) else(some ((⟨2,2⟩:Tj),⟨0,0⟩,0,true))))))))))
def qct (v1:Int):Ctr:=⟨257,[.I v1],[],Tj×Tj×Int×Bool,yxu v1,yar⟩
theorem qs8 (r:Tj×Tj×Int×Bool):(yar r).1.fresh=true:=by simp only [Tj.i,yar,V.fresh,V.freshL,Bool.and_self,Bool.true_and]
theorem qpp {v1:Int}:(qct v1).okF tab:=okF_of rfl rfl (.br (decide (v1=1)) (.lfA yar ((⟨0,0⟩:Tj),(⟨1,2000⟩:Tj),0,false))<|.br (decide (v1=2)) (.lfA yar ((⟨0,0⟩:Tj),(⟨1,2000⟩:Tj),0,false))<|.br (decide (v1=3)) (.lfA yar ((⟨1,125⟩:Tj),⟨0,0⟩,0,false))<|.br (decide (v1=4)) (.lfA yar ((⟨1,125⟩:Tj),⟨0,0⟩,0,false))<|.br (decide (v1=23)) (.lfA yar ((⟨1,125⟩:Tj),⟨0,0⟩,0,false))<|.br (decide (v1=5)) (.lfA yar ((⟨0,0⟩:Tj),(⟨1,1⟩:Tj),0,true))<|.br (decide (v1=6)) (.lfA yar ((⟨1,1⟩:Tj),⟨0,0⟩,0,true))<|.br (decide (v1=15)) (.lfA yar ((⟨0,0⟩:Tj),⟨0,0⟩,1968,true))<|.br (decide (v1=16)) (.lfA yar ((⟨0,0⟩:Tj),⟨0,0⟩,123,true))<|.lfA yar ((⟨2,2⟩:Tj),⟨0,0⟩,0,true):Tree (Tj×Tj×Int×Bool) _) (by kernel_rfl) (bR rfl<|bR rfl<|bR rfl<|bR rfl<|bR rfl<|bR rfl<|bR rfl<|bR rfl<|bR rfl<|rfl) fun r=>⟨rfl,qs8 r⟩
def qa7 (v1:Te):Option Bool:=(yvj v1.fe).bind fun v2=>(bif !v2 then(some false) else(bif decide (v1.fae≠0) then((yzh v1).bind fun v6=>(some v6)) else((yxu v1.fe).bind fun v8=>((zi0 (v1.fc.length:Int) v8.1.f0 v8.1.f1).bind fun v10=>(bif !v10 then(some false) else((zi0 (v1.fb.length:Int) v8.2.1.f0 v8.2.1.f1).bind fun v13=>(bif !v13 then(some false) else((yui v1.fc).bind fun v16=>(bif !v16 then(some false) else(bif decide (1<v8.2.1.f1) then(bif decide (((v1.fb.length:Int).tmod 8)≠0) then(some false) else(bif decide (v8.2.2.1=0) then(bif decide (v1.fN≠0) then(some false) else(bif decide (0<v8.2.2.1) then((zi0 v1.fN 1 v8.2.2.1).bind fun v24=>(bif !v24 then(some false) else(bif v8.2.2.2 then((zm1 v1.ff).bind fun v28=>(bif v28 then(some true) else(some (decide (v1.ff=0))))) else(some (decide (v1.ff=0)))))) else(bif v8.2.2.2 then((zm1 v1.ff).bind fun v32=>(bif v32 then(some true) else(some (decide (v1.ff=0))))) else(some (decide (v1.ff=0)))))) else(bif decide (0<v8.2.2.1) then((zi0 v1.fN 1 v8.2.2.1).bind fun v36=>(bif !v36 then(some false) else(bif v8.2.2.2 then((zm1 v1.ff).bind fun v40=>(bif v40 then(some true) else(some (decide (v1.ff=0))))) else(some (decide (v1.ff=0)))))) else(bif v8.2.2.2 then((zm1 v1.ff).bind fun v44=>(bif v44 then(some true) else(some (decide (v1.ff=0))))) else(some (decide (v1.ff=0))))))) else(bif decide (v8.2.2.1=0) then(bif decide (v1.fN≠0) then(some false) else(bif decide (0<v8.2.2.1) then((zi0 v1.fN 1 v8.2.2.1).bind fun v50=>(bif !v50 then(some false) else(bif v8.2.2.2 then((zm1 v1.ff).bind fun v54=>(bif v54 then(some true) else(some (decide (v1.ff=0))))) else(some (decide (v1.ff=0)))))) else(bif v8.2.2.2 then((zm1 v1.ff).bind fun v58=>(bif v58 then(some true) else(some (decide (v1.ff=0))))) else(some (decide (v1.ff=0)))))) else(bif decide (0<v8.2.2.1) then((zi0 v1.fN 1 v8.2.2.1).bind fun v62=>(bif !v62 then(some false) else(bif v8.2.2.2 then((zm1 v1.ff).bind fun v66=>(bif v66 then(some true) else(some (decide (v1.ff=0))))) else(some (decide (v1.ff=0)))))) else(bif v8.2.2.2 then((zm1 v1.ff).bind fun v70=>(bif v70 then(some true) else(some (decide (v1.ff=0))))) else(some (decide (v1.ff=0))))))))))))))))
def ql8 (v1:Te):Ctr:=⟨171,[v1.i],[],Bool,qa7 v1,rB⟩
theorem qrg {v1:Te}:(ql8 v1).okF tab:=okF_of rfl rfl (.callF (qb9 v1.fe) fun v2=>.br (!v2) (.lfA rB false)<|.br (decide (v1.fae≠0)) (.callF (qkr v1) fun v6=>.lfA rB v6)<|.callF (qct v1.fe) fun(v8:Tj×Tj×Int×Bool)=>.lenA (V.int .i64) v1.fc<|.sk<|.sk<|.callF (zih (v1.fc.length:Int) v8.1.f0 v8.1.f1) fun(v10:Bool)=>.br (!v10) (.lfA rB false)<|.lenA V.bool v1.fb<|.sk<|.sk<|.callF (zih (v1.fb.length:Int) v8.2.1.f0 v8.2.1.f1) fun(v13:Bool)=>.br (!v13) (.lfA rB false)<|.callF (qbr v1.fc) fun v16=>.br (!v16) (.lfA rB false)<|.sk<|.br (decide (1<v8.2.1.f1)) (.lenA V.bool v1.fb<|.sk<|.br (decide (((v1.fb.length:Int).tmod 8)≠0)) (.lfA rB false)<|.br (decide (v8.2.2.1=0)) (.br (decide (v1.fN≠0)) (.lfA rB false)<|.br (decide (0<v8.2.2.1)) (.callF (zih v1.fN 1 v8.2.2.1) fun v24=>.br (!v24) (.lfA rB false)<|.br v8.2.2.2 (.callF (zrc v1.ff) fun v28=>.br v28 (.lfA rB true)<|.lfA rB (decide (v1.ff=0)))<|.lfA rB (decide (v1.ff=0)))<|.br v8.2.2.2 (.callF (zrc v1.ff) fun v32=>.br v32 (.lfA rB true)<|.lfA rB (decide (v1.ff=0)))<|.lfA rB (decide (v1.ff=0)))<|.br (decide (0<v8.2.2.1)) (.callF (zih v1.fN 1 v8.2.2.1) fun v36=>.br (!v36) (.lfA rB false)<|.br v8.2.2.2 (.callF (zrc v1.ff) fun v40=>.br v40 (.lfA rB true)<|.lfA rB (decide (v1.ff=0)))<|.lfA rB (decide (v1.ff=0)))<|.br v8.2.2.2 (.callF (zrc v1.ff) fun v44=>.br v44 (.lfA rB true)<|.lfA rB (decide (v1.ff=0)))<|.lfA rB (decide (v1.ff=0)))<|.br (decide (v8.2.2.1=0)) (.br (decide (v1.fN≠0)) (.lfA rB false)<|.br (decide (0<v8.2.2.1)) (.callF (zih v1.fN 1 v8.2.2.1) fun v50=>.br (!v50) (.lfA rB false)<|.br v8.2.2.2 (.callF (zrc v1.ff) fun v54=>.br v54 (.lfA rB true)<|.lfA rB (decide (v1.ff=0)))<|.lfA rB (decide (v1.ff=0)))<|.br v8.2.2.2 (.callF (zrc v1.ff) fun v58=>.br v58 (.lfA rB true)<|.lfA rB (decide (v1.ff=0)))<|.lfA rB (decide (v1.ff=0)))<|.br (decide (0<v8.2.2.1)) (.callF (zih v1.fN 1 v8.2.2.1) fun v62=>.br (!v62) (.lfA rB false)<|.br v8.2.2.2 (.callF (zrc v1.ff) fun v66=>.br v66 (.lfA rB true)<|.lfA rB (decide (v1.ff=0)))<|.lfA rB (decide (v1.ff=0)))<|.br v8.2.2.2 (.callF (zrc v1.ff) fun v70=>.br v70 (.lfA rB true)<|.lfA rB (decide (v1.ff=0)))<|.lfA rB (decide (v1.ff=0))) (by kernel_rfl) (cF qg4 fun v2=>bR rfl<|bR (cF qx1 fun v6=>rfl)<|cF qpp fun v8=>lA<|cF zkj fun v10=>bR rfl<|lA<|cF zkj fun v13=>bR rfl<|cF qf1 fun v16=>bR rfl<|bR (lA<|bR rfl<|bR (bR rfl<|bR (cF zkj fun v24=>bR rfl<|bR (cF zrl fun v28=>bR rfl<|rfl)<|rfl)<|bR (cF zrl fun v32=>bR rfl<|rfl)<|rfl)<|bR (cF zkj fun v36=>bR rfl<|bR (cF zrl fun v40=>bR rfl<|rfl)<|rfl)<|bR (cF zrl fun v44=>bR rfl<|rfl)<|rfl)<|bR (bR rfl<|bR (cF zkj fun v50=>bR rfl<|bR (cF zrl fun v54=>bR rfl<|rfl)<|rfl)<|bR (cF zrl fun v58=>bR rfl<|rfl)<|rfl)<|bR (cF zkj fun v62=>bR rfl<|bR (cF zrl fun v66=>bR rfl<|rfl)<|rfl)<|bR (cF zrl fun v70=>bR rfl<|rfl)<|rfl)
def zvy (v1:List Bool) (v2:Bool) (k:Int) (s:Unit):St:=⟨sv 8 [(0,.imm 1 (v1.map V.bool)),(1,.bool v2),(4,.I (v1.length:Int)),(5,.I k)],[]⟩
def zmf (v1:List Bool) (v2:Bool):Int->Ex×St:=fun p=>(.ret,⟨sv 8 [(0,.imm 1 (v1.map V.bool)),(1,.bool v2),(2,.I p),(3,.I p),(4,.I (v1.length:Int)),(5,.I p),(6,.bool true),(7,.bool true)],[]⟩)
def zom (v1:List Bool) (v2:Bool):Unit->Ex×St:=fun p=>((.exit 0),⟨sv 8 [(0,.imm 1 (v1.map V.bool)),(1,.bool v2),(4,.I (v1.length:Int)),(5,.I (v1.length:Int)),(6,.bool false)],[]⟩)
def ztj (v1:List Bool) (v2:Bool) (k:Int):=zb9 (zvy v1 v2 k) (Sum.elim (zmf v1 v2) (zom v1 v2))
def yd2 (v1:List Bool) (v2:Bool) (k:Int) (x:Bool) (s:Unit):Option ((Unit)⊕(Int⊕Unit)):=bif false ^^ (v2 == x) then(some (.inr (.inl k))) else(some (.inl ()))
def ypx (v1:List Bool) (v2:Bool) (s:Unit):Option (Int⊕Unit):=some ((.inr ()))
def zvc (v1:List Bool) (v2:Bool) (s:Unit):Option (Int⊕Unit):=if v1.length<=9223372036854775806 then za5 (yd2 v1 v2) (ypx v1 v2) v1 0 s else none
def yi6 (v1:List Bool) (v2:Bool) (s:Unit):Lc2:=⟨8,yoa,0,[2,3,6,7],some (zvy v1 v2 0 s),Int,Unit,zvc v1 v2 s,zmf v1 v2,zom v1 v2⟩
theorem yq8 {v1:List Bool} {v2:Bool} {s:Unit}:(yi6 v1 v2 s).ok tab:=zap (list_oky (J:=zvy v1 v2) (o:=(Sum.elim (zmf v1 v2) (zom v1 v2))) v1 (B:=fun k x s=>(.kb (decide (k<(v1.length:Int))) true<|.kx V.bool v1 k x<|.br (false ^^ (v2 == x)) (.lfA (ztj v1 v2 (w1 k)) (.inr (.inl k)))<|.lfA (ztj v1 v2 (w1 k)) (.inl ()))) (E:=fun s=>(.kb (decide ((v1.length:Int)<(v1.length:Int))) false<|.lfA (ztj v1 v2 0) (.inr (.inr ())))) (by kernel_rfl) (fun d x t s he=>⟨ltX he,kX he<|bR rfl<|rfl⟩) (ho2 (fun _=>rfl) fun _=>rfl) (fun s=>⟨ltE _,rfl⟩) s)
def ywl (v1:List Bool) (v2:Bool):Option Int:=(zvc v1 v2 ()).bind (zbw (fun (v14:Int)=>(some v14)) (fun (v15:Unit)=>(some (-1))))
def qie (v1:List Bool) (v2:Bool):Ctr:=⟨315,[.imm 1 (v1.map V.bool),.bool v2],[],Int,ywl v1 v2,rI⟩
theorem qvv {v1:List Bool} {v2:Bool}:(qie v1 v2).okF tab:=okF_of rfl rfl (.lenA V.bool v1<|.lp2 (yi6 v1 v2 ()) (fun (v14:Int)=>.lfA rI v14) (fun (v15:Unit)=>.lfA rI (-1)):Tree Int _) (by kernel_rfl) (lA<|lQ yq8 (fun v14=>rfl) (fun v15=>rfl))
def yvl (v1:List Bool) (v2:Bool):Option Bool:=(ywl v1 v2).bind fun v3=>(some (decide (0<=v3)))
def qck (v1:List Bool) (v2:Bool):Ctr:=⟨297,[.imm 1 (v1.map V.bool),.bool v2],[],Bool,yvl v1 v2,rB⟩
theorem qmn {v1:List Bool} {v2:Bool}:(qck v1 v2).okF tab:=okF_of rfl rfl (.callF (qie v1 v2) fun(v3:Int)=>.lfA rB (decide (0<=v3))) (by kernel_rfl) (cF qvv fun v3=>rfl)
def yve (v1:Int) (v2:List Bool):Option Bool:=bif decide ((v2.length:Int)=(i64.wrap ((i64.wrap ((i64.wrap (v1+7)).tdiv 8)) * 8))) then(if (0:Int)<=v1/\(v1:Int)<=(((v2.map V.bool).length:Nat):Int)/\(((v2.map V.bool).length:Nat):Int)<=(((v2.map V.bool).length:Nat):Int) then((yvl ((v2.take ((((v2.map V.bool).length:Nat):Int).toNat)).drop ((v1:Int).toNat)) true).bind fun v4=>(some (!v4))) else none) else(some false)
def qbb (v1:Int) (v2:List Bool):Ctr:=⟨314,[.I v1,.imm 1 (v2.map V.bool)],[],Bool,yve v1 v2,rB⟩
theorem qk2 {v1:Int} {v2:List Bool}:(qbb v1 v2).okF tab:=okF_of rfl rfl (.lenA V.bool v2<|.sk<|.br (decide ((v2.length:Int)=(i64.wrap ((i64.wrap ((i64.wrap (v1+7)).tdiv 8)) * 8)))) (.guard ((0:Int)<=v1/\(v1:Int)<=(((v2.map V.bool).length:Nat):Int)/\(((v2.map V.bool).length:Nat):Int)<=(((v2.map V.bool).length:Nat):Int)) inferInstance<|.cutA V.bool v2 ((v1:Int).toNat) ((((v2.map V.bool).length:Nat):Int).toNat)<|.callF (qck ((v2.take ((((v2.map V.bool).length:Nat):Int).toNat)).drop ((v1:Int).toNat)) true) fun(v4:Bool)=>.lfA rB (!v4))<|.lfA rB false) (by kernel_rfl) (lA<|bR (gU<|⟨zww _ _ _ _,cF qmn fun v4=>rfl⟩)<|rfl)
def zw5 (v1:List Int) (v2:List Int) (k:Int) (s:Unit):St:=⟨sv 9 [(0,.imm 1 (v1.map (V.int .i64))),(1,.imm 1 (v2.map (V.int .i64))),(5,.I (v1.length:Int)),(6,.I k)],[]⟩
def znq (v1:List Int) (v2:List Int):Int->Ex×St:=fun p=>(.ret,⟨sv 9 [(0,.imm 1 (v1.map (V.int .i64))),(1,.imm 1 (v2.map (V.int .i64))),(2,.bool false),(3,.I p),(5,.I (v1.length:Int)),(6,.I p),(7,.bool true),(8,.bool true)],[]⟩)
def zqi (v1:List Int) (v2:List Int):Unit->Ex×St:=fun p=>((.exit 0),⟨sv 9 [(0,.imm 1 (v1.map (V.int .i64))),(1,.imm 1 (v2.map (V.int .i64))),(5,.I (v1.length:Int)),(6,.I (v1.length:Int)),(7,.bool false)],[]⟩)
def ztc (v1:List Int) (v2:List Int) (k:Int):=zb9 (zw5 v1 v2 k) (Sum.elim (znq v1 v2) (zqi v1 v2))
def yem (v1:List Int) (v2:List Int) (k:Int) (x:Int) (s:Unit):Option ((Unit)⊕(Int⊕Unit)):=((v2)[k.toNat]?).bind fun v18=>(bif decide (x≠v18) then(some (.inr (.inl k))) else(some (.inl ())))
def ypj (v1:List Int) (v2:List Int) (s:Unit):Option (Int⊕Unit):=some ((.inr ()))
def zux (v1:List Int) (v2:List Int) (s:Unit):Option (Int⊕Unit):=if v1.length<=9223372036854775806 then za5 (yem v1 v2) (ypj v1 v2) v1 0 s else none
def yeb (v1:List Int) (v2:List Int) (s:Unit):Lc2:=⟨9,yoh,0,[2,3,4,7,8],some (zw5 v1 v2 0 s),Int,Unit,zux v1 v2 s,znq v1 v2,zqi v1 v2⟩
theorem yrr {v1:List Int} {v2:List Int} {s:Unit}:(yeb v1 v2 s).ok tab:=zap (list_oky (J:=zw5 v1 v2) (o:=(Sum.elim (znq v1 v2) (zqi v1 v2))) v1 (B:=fun k x s=>(.kb (decide (k<(v1.length:Int))) true<|.kx (V.int .i64) v1 k x<|.ob (0<=k)<|.lookA (V.int .i64) v2 (k.toNat) fun v18=>.br (decide (x≠v18)) (.lfA (ztc v1 v2 (w1 k)) (.inr (.inl k)))<|.lfA (ztc v1 v2 (w1 k)) (.inl ()))) (E:=fun s=>(.kb (decide ((v1.length:Int)<(v1.length:Int))) false<|.lfA (ztc v1 v2 0) (.inr (.inr ())))) (by kernel_rfl) (fun d x t s he=>⟨ltX he,kX he<|⟨Int.natCast_nonneg _,kA fun v18=>bR rfl<|rfl⟩⟩) (ho2 (fun _=>rfl) fun _=>rfl) (fun s=>⟨ltE _,rfl⟩) s)
def yu2 (v1:List Int) (v2:List Int):Option Bool:=bif decide ((v1.length:Int)≠(v2.length:Int)) then(some false) else((zux v1 v2 ()).bind (zbw (fun (v21:Int)=>(some false)) (fun (v22:Unit)=>(some true))))
def yyo (v1:List Int) (v2:List Int):Ctr:=⟨258,[.imm 1 (v1.map (V.int .i64)),.imm 1 (v2.map (V.int .i64))],[],Bool,yu2 v1 v2,rB⟩
theorem qbp {v1:List Int} {v2:List Int}:(yyo v1 v2).okF tab:=okF_of rfl rfl (.lenA (V.int .i64) v1<|.lenA (V.int .i64) v2<|.br (decide ((v1.length:Int)≠(v2.length:Int))) (.lfA rB false)<|.lenA (V.int .i64) v1<|.lp2 (yeb v1 v2 ()) (fun (v21:Int)=>.lfA rB false) (fun (v22:Unit)=>.lfA rB true)) (by kernel_rfl) (lA<|lA<|bR rfl<|lA<|lQ yrr (fun v21=>rfl) (fun v22=>rfl))
def zxp (v1:List Bool) (v2:List Bool) (k:Int) (s:Unit):St:=⟨sv 9 [(0,.imm 1 (v1.map V.bool)),(1,.imm 1 (v2.map V.bool)),(5,.I (v1.length:Int)),(6,.I k)],[]⟩
def zp2 (v1:List Bool) (v2:List Bool):Int->Ex×St:=fun p=>(.ret,⟨sv 9 [(0,.imm 1 (v1.map V.bool)),(1,.imm 1 (v2.map V.bool)),(2,.bool false),(3,.I p),(5,.I (v1.length:Int)),(6,.I p),(7,.bool true),(8,.bool true)],[]⟩)
def zoe (v1:List Bool) (v2:List Bool):Unit->Ex×St:=fun p=>((.exit 0),⟨sv 9 [(0,.imm 1 (v1.map V.bool)),(1,.imm 1 (v2.map V.bool)),(5,.I (v1.length:Int)),(6,.I (v1.length:Int)),(7,.bool false)],[]⟩)
def zyc (v1:List Bool) (v2:List Bool) (k:Int):=zb9 (zxp v1 v2 k) (Sum.elim (zp2 v1 v2) (zoe v1 v2))
def yey (v1:List Bool) (v2:List Bool) (k:Int) (x:Bool) (s:Unit):Option ((Unit)⊕(Int⊕Unit)):=((v2)[k.toNat]?).bind fun v18=>(bif true ^^ (x == v18) then(some (.inr (.inl k))) else(some (.inl ())))
def yrd (v1:List Bool) (v2:List Bool) (s:Unit):Option (Int⊕Unit):=some ((.inr ()))
def zun (v1:List Bool) (v2:List Bool) (s:Unit):Option (Int⊕Unit):=if v1.length<=9223372036854775806 then za5 (yey v1 v2) (yrd v1 v2) v1 0 s else none
def yhp (v1:List Bool) (v2:List Bool) (s:Unit):Lc2:=⟨9,ynx,0,[2,3,4,7,8],some (zxp v1 v2 0 s),Int,Unit,zun v1 v2 s,zp2 v1 v2,zoe v1 v2⟩
theorem ypf {v1:List Bool} {v2:List Bool} {s:Unit}:(yhp v1 v2 s).ok tab:=zap (list_oky (J:=zxp v1 v2) (o:=(Sum.elim (zp2 v1 v2) (zoe v1 v2))) v1 (B:=fun k x s=>(.kb (decide (k<(v1.length:Int))) true<|.kx V.bool v1 k x<|.ob (0<=k)<|.lookA V.bool v2 (k.toNat) fun v18=>.br (true ^^ (x == v18)) (.lfA (zyc v1 v2 (w1 k)) (.inr (.inl k)))<|.lfA (zyc v1 v2 (w1 k)) (.inl ()))) (E:=fun s=>(.kb (decide ((v1.length:Int)<(v1.length:Int))) false<|.lfA (zyc v1 v2 0) (.inr (.inr ())))) (by kernel_rfl) (fun d x t s he=>⟨ltX he,kX he<|⟨Int.natCast_nonneg _,kA fun v18=>bR rfl<|rfl⟩⟩) (ho2 (fun _=>rfl) fun _=>rfl) (fun s=>⟨ltE _,rfl⟩) s)
def ytr (v1:List Bool) (v2:List Bool):Option Bool:=bif decide ((v1.length:Int)≠(v2.length:Int)) then(some false) else((zun v1 v2 ()).bind (zbw (fun (v21:Int)=>(some false)) (fun (v22:Unit)=>(some true))))
def yya (v1:List Bool) (v2:List Bool):Ctr:=⟨259,[.imm 1 (v1.map V.bool),.imm 1 (v2.map V.bool)],[],Bool,ytr v1 v2,rB⟩
theorem qcg {v1:List Bool} {v2:List Bool}:(yya v1 v2).okF tab:=okF_of rfl rfl (.lenA V.bool v1<|.lenA V.bool v2<|.br (decide ((v1.length:Int)≠(v2.length:Int))) (.lfA rB false)<|.lenA V.bool v1<|.lp2 (yhp v1 v2 ()) (fun (v21:Int)=>.lfA rB false) (fun (v22:Unit)=>.lfA rB true)) (by kernel_rfl) (lA<|lA<|bR rfl<|lA<|lQ ypf (fun v21=>rfl) (fun v22=>rfl))
def yzt (v1:Tg) (v2:Te):Option Bool:=(yst v1).bind fun v3=>(bif !v3 then(some false) else((qa7 v2).bind fun v6=>(bif !v6 then(some false) else(bif decide (v2.fe≠v1.fe) then(some false) else(bif decide (v2.fae≠0) then(some true) else(bif decide (v1.fe=1) then((yve v1.fN v2.fb).bind fun v12=>(some v12)) else(bif decide (v1.fe=2) then((yve v1.fN v2.fb).bind fun v15=>(some v15)) else(bif decide (v1.fe=3) then(some (decide ((v2.fc.length:Int)=v1.fN))) else(bif decide (v1.fe=4) then(some (decide ((v2.fc.length:Int)=v1.fN))) else(bif decide (v1.fe=23) then(some (decide ((v2.fc.length:Int)=v1.fN))) else(bif decide (v1.fe=15) then(bif decide (v2.ff=v1.ff) then((ypr v1).bind fun v22=>(some (decide (v2.fN=v22)))) else(some false)) else(bif decide (v1.fe=16) then(bif decide (v2.ff=v1.ff) then((ypr v1).bind fun v26=>(some (decide (v2.fN=v26)))) else(some false)) else(bif decide (v2.ff=v1.ff) then((yu2 v2.fc v1.fc).bind fun v29=>(bif v29 then((ytr v2.fb v1.fb).bind fun v32=>(some v32)) else(some false))) else(some false))))))))))))))
def ql9 (v1:Tg) (v2:Te):Ctr:=⟨296,[v1.i,v2.i],[],Bool,yzt v1 v2,rB⟩
theorem qn9 {v1:Tg} {v2:Te}:(ql9 v1 v2).okF tab:=okF_of rfl rfl (.callF (yvf v1) fun v3=>.br (!v3) (.lfA rB false)<|.callF (ql8 v2) fun v6=>.br (!v6) (.lfA rB false)<|.br (decide (v2.fe≠v1.fe)) (.lfA rB false)<|.br (decide (v2.fae≠0)) (.lfA rB true)<|.br (decide (v1.fe=1)) (.callF (qbb v1.fN v2.fb) fun v12=>.lfA rB v12)<|.br (decide (v1.fe=2)) (.callF (qbb v1.fN v2.fb) fun v15=>.lfA rB v15)<|.br (decide (v1.fe=3)) (.lenA (V.int .i64) v2.fc<|.lfA rB (decide ((v2.fc.length:Int)=v1.fN)))<|.br (decide (v1.fe=4)) (.lenA (V.int .i64) v2.fc<|.lfA rB (decide ((v2.fc.length:Int)=v1.fN)))<|.br (decide (v1.fe=23)) (.lenA (V.int .i64) v2.fc<|.lfA rB (decide ((v2.fc.length:Int)=v1.fN)))<|.br (decide (v1.fe=15)) (.br (decide (v2.ff=v1.ff)) (.callF (yvi v1) fun(v22:Int)=>.lfA rB (decide (v2.fN=v22)))<|.lfA rB false)<|.br (decide (v1.fe=16)) (.br (decide (v2.ff=v1.ff)) (.callF (yvi v1) fun(v26:Int)=>.lfA rB (decide (v2.fN=v26)))<|.lfA rB false)<|.br (decide (v2.ff=v1.ff)) (.callF (yyo v2.fc v1.fc) fun v29=>.br v29 (.callF (yya v2.fb v1.fb) fun v32=>.lfA rB v32)<|.lfA rB false)<|.lfA rB false) (by kernel_rfl) (cF yyn fun v3=>bR rfl<|cF qrg fun v6=>bR rfl<|bR rfl<|bR rfl<|bR (cF qk2 fun v12=>rfl)<|bR (cF qk2 fun v15=>rfl)<|bR (lA<|rfl)<|bR (lA<|rfl)<|bR (lA<|rfl)<|bR (bR (cF yx3 fun v22=>rfl)<|rfl)<|bR (bR (cF yx3 fun v26=>rfl)<|rfl)<|bR (cF qbp fun v29=>bR (cF qcg fun v32=>rfl)<|rfl)<|rfl)
def ywd (v1:Te) (v2:Te):Option Bool:=bif decide (v1.fe=v2.fe) then(bif decide (v1.fae=v2.fae) then(bif decide (v1.ff=v2.ff) then(bif decide (v1.fN=v2.fN) then((yu2 v1.fc v2.fc).bind fun v7=>(bif v7 then((ytr v1.fb v2.fb).bind fun v10=>(some v10)) else(some false))) else(some false)) else(some false)) else(some false)) else(some false)
def qb5 (v1:Te) (v2:Te):Ctr:=⟨174,[v1.i,v2.i],[],Bool,ywd v1 v2,rB⟩
theorem qm3 {v1:Te} {v2:Te}:(qb5 v1 v2).okF tab:=okF_of rfl rfl (.br (decide (v1.fe=v2.fe)) (.br (decide (v1.fae=v2.fae)) (.br (decide (v1.ff=v2.ff)) (.br (decide (v1.fN=v2.fN)) (.callF (yyo v1.fc v2.fc) fun v7=>.br v7 (.callF (yya v1.fb v2.fb) fun v10=>.lfA rB v10)<|.lfA rB false)<|.lfA rB false)<|.lfA rB false)<|.lfA rB false)<|.lfA rB false) (by kernel_rfl) (bR (bR (bR (bR (cF qbp fun v7=>bR (cF qcg fun v10=>rfl)<|rfl)<|rfl)<|rfl)<|rfl)<|rfl)
def ztg (v1:Tb) (k:Int) (s:Unit):St:=⟨sv 12 [(1,.ref (.box 0) 0 []),(7,.imm 8 (v1.fq.map Tf.i)),(8,.I (v1.fq.length:Int)),(9,.I k)],[[.I v1.fk,.I v1.fan,.I v1.fao,.I v1.fo,.I v1.fa.fe,.I v1.fa.ff,.I v1.fa.fN,.imm 1 (v1.fa.fc.map (V.int .i64)),.imm 1 (v1.fa.fb.map V.bool),.I v1.fa.fp,.imm 8 (v1.fq.map Tf.i),.imm 1 (v1.fw.map V.bool),.imm 6 (v1.fab.map Te.i)]]⟩
def zqq (v1:Tb):(Int×Tf)->Ex×St:=fun p=>(.ret,⟨sv 12 [(1,.ref (.box 0) 0 []),(2,.bool false),(4,.I p.1),(5,.ref (.box 1) 0 []),(7,.imm 8 (v1.fq.map Tf.i)),(8,.I (v1.fq.length:Int)),(9,.I p.1),(10,.bool true),(11,.bool true)],[[.I v1.fk,.I v1.fan,.I v1.fao,.I v1.fo,.I v1.fa.fe,.I v1.fa.ff,.I v1.fa.fN,.imm 1 (v1.fa.fc.map (V.int .i64)),.imm 1 (v1.fa.fb.map V.bool),.I v1.fa.fp,.imm 8 (v1.fq.map Tf.i),.imm 1 (v1.fw.map V.bool),.imm 6 (v1.fab.map Te.i)],[.I p.2.faf,.I p.2.fo,.I p.2.fa.fe,.I p.2.fa.ff,.I p.2.fa.fN,.imm 1 (p.2.fa.fc.map (V.int .i64)),.imm 1 (p.2.fa.fb.map V.bool),.I p.2.fa.fp]]⟩)
def zn5 (v1:Tb):Unit->Ex×St:=fun p=>((.exit 0),⟨sv 12 [(1,.ref (.box 0) 0 []),(7,.imm 8 (v1.fq.map Tf.i)),(8,.I (v1.fq.length:Int)),(9,.I (v1.fq.length:Int)),(10,.bool false)],[[.I v1.fk,.I v1.fan,.I v1.fao,.I v1.fo,.I v1.fa.fe,.I v1.fa.ff,.I v1.fa.fN,.imm 1 (v1.fa.fc.map (V.int .i64)),.imm 1 (v1.fa.fb.map V.bool),.I v1.fa.fp,.imm 8 (v1.fq.map Tf.i),.imm 1 (v1.fw.map V.bool),.imm 6 (v1.fab.map Te.i)]]⟩)
def zez (v1:Tb) (k:Int):=zb9 (ztg v1 k) (Sum.elim (zqq v1) (zn5 v1))
def ye6 (v1:Tb) (k:Int) (x:Tf) (s:Unit):Option ((Unit)⊕((Int×Tf)⊕Unit)):=(yy9 x).bind fun v67=>(bif !v67 then(some (.inr (.inl (k,x)))) else(((v1.fw)[k.toNat]?).bind fun v70=>(bif v70 then(((v1.fab)[k.toNat]?).bind fun v73=>((yzt x.fa v73).bind fun v75=>(bif !v75 then(some (.inr (.inl (k,x)))) else(bif !v70 then((ywd v73 (⟨0,0,0,0,[],[]⟩:Te)).bind fun v79=>(bif !v79 then(some (.inr (.inl (k,x)))) else(some (.inl ())))) else(some (.inl ())))))) else(bif !v70 then(((v1.fab)[k.toNat]?).bind fun v83=>((ywd v83 (⟨0,0,0,0,[],[]⟩:Te)).bind fun v85=>(bif !v85 then(some (.inr (.inl (k,x)))) else(some (.inl ()))))) else(some (.inl ()))))))
def ypp (v1:Tb) (s:Unit):Option ((Int×Tf)⊕Unit):=some ((.inr ()))
def zwo (v1:Tb) (s:Unit):Option ((Int×Tf)⊕Unit):=if v1.fq.length<=9223372036854775806 then za5 (ye6 v1) (ypp v1) v1.fq 0 s else none
def ydo (v1:Tb) (s:Unit):Lc2:=⟨12,ymz,1,[0,2,3,4,5,6,10,11],some (ztg v1 0 s),Int×Tf,Unit,zwo v1 s,zqq v1,zn5 v1⟩
theorem yq1 {v1:Tb} {s:Unit}:(ydo v1 s).ok tab:=zap (list_oky (J:=ztg v1) (o:=(Sum.elim (zqq v1) (zn5 v1))) v1.fq (B:=fun k x s=>(.kb (decide (k<(v1.fq.length:Int))) true<|.kx Tf.i v1.fq k x<|.callF (qge x) fun v67=>.br (!v67) (.lfA (zez v1 (w1 k)) (.inr (.inl (k,x))))<|.ob (0<=k)<|.lookA V.bool v1.fw (k.toNat) fun v70=>.br v70 (.ob (0<=k)<|.lookA Te.i v1.fab (k.toNat) fun v73=>.callF (ql9 x.fa v73) fun v75=>.br (!v75) (.lfA (zez v1 (w1 k)) (.inr (.inl (k,x))))<|.kx V.bool v1.fw k v70<|.br (!v70) (.kx Te.i v1.fab k v73<|.seg [] 0 0 []<|.eqL [] []<|.seg [] 0 0 []<|.eqL [] []<|.callF (qb5 v73 (⟨0,0,0,0,[],[]⟩:Te)) fun v79=>.br (!v79) (.lfA (zez v1 (w1 k)) (.inr (.inl (k,x))))<|.lfA (zez v1 (w1 k)) (.inl ()))<|.lfA (zez v1 (w1 k)) (.inl ()))<|.kx V.bool v1.fw k v70<|.br (!v70) (.ob (0<=k)<|.lookA Te.i v1.fab (k.toNat) fun v83=>.seg [] 0 0 []<|.eqL [] []<|.seg [] 0 0 []<|.eqL [] []<|.callF (qb5 v83 (⟨0,0,0,0,[],[]⟩:Te)) fun v85=>.br (!v85) (.lfA (zez v1 (w1 k)) (.inr (.inl (k,x))))<|.lfA (zez v1 (w1 k)) (.inl ()))<|.lfA (zez v1 (w1 k)) (.inl ()))) (E:=fun s=>(.kb (decide ((v1.fq.length:Int)<(v1.fq.length:Int))) false<|.lfA (zez v1 0) (.inr (.inr ())))) (by kernel_rfl) (fun d x t s he=>⟨ltX he,kX he<|cF qs7 fun v67=>bR rfl<|⟨Int.natCast_nonneg _,⟨zc9 _ _ _,fun v70 h71=>bR (⟨Int.natCast_nonneg _,⟨zc9 _ _ _,fun v73 h74=>cF qn9 fun v75=>bR rfl<|⟨Int.natCast_nonneg _,⟨zau _ h71,bR (⟨Int.natCast_nonneg _,⟨zau _ h74,⟨zb5 [],⟨rfl,⟨zb5 [],⟨rfl,cF qm3 fun v79=>bR rfl<|rfl⟩⟩⟩⟩⟩⟩)<|rfl⟩⟩⟩⟩)<|⟨Int.natCast_nonneg _,⟨zau _ h71,bR (⟨Int.natCast_nonneg _,kA fun v83=>⟨zb5 [],⟨rfl,⟨zb5 [],⟨rfl,cF qm3 fun v85=>bR rfl<|rfl⟩⟩⟩⟩⟩)<|rfl⟩⟩⟩⟩⟩) (ho2 (fun _=>rfl) fun _=>rfl) (fun s=>⟨ltE _,rfl⟩) s)
def yxn (v1:Tb):Option Bool:=bif decide (v1.fk<0) then(some false) else((yjy v1.fan).bind fun v3=>(bif !v3 then(some false) else((yjy v1.fao).bind fun v6=>(bif !v6 then(some false) else((yst v1.fa).bind fun v9=>(bif !v9 then(some false) else((zi0 (v1.fq.length:Int) 1 8).bind fun v12=>(bif !v12 then(some false) else(bif decide ((v1.fw.length:Int)≠(v1.fq.length:Int)) then(some false) else(bif decide ((v1.fab.length:Int)≠(v1.fq.length:Int)) then(some false) else((zwo v1 ()).bind (zbw (fun (v88:Int×Tf)=>(some false)) (fun (v89:Unit)=>((yvl v1.fw false).bind fun v90=>(some v90)))))))))))))))
def qj0 (v1:Tb):Ctr:=⟨235,[v1.i],[],Bool,yxn v1,rB⟩
theorem qpo {v1:Tb}:(qj0 v1).okF tab:=okF_of rfl rfl (.lenA Tf.i v1.fq<|.br (decide (v1.fk<0)) (.lfA rB false)<|.callF (yka v1.fan) fun v3=>.br (!v3) (.lfA rB false)<|.callF (yka v1.fao) fun v6=>.br (!v6) (.lfA rB false)<|.callF (yvf v1.fa) fun v9=>.br (!v9) (.lfA rB false)<|.callF (zih (v1.fq.length:Int) 1 8) fun(v12:Bool)=>.br (!v12) (.lfA rB false)<|.lenA V.bool v1.fw<|.br (decide ((v1.fw.length:Int)≠(v1.fq.length:Int))) (.lfA rB false)<|.lenA Te.i v1.fab<|.br (decide ((v1.fab.length:Int)≠(v1.fq.length:Int))) (.lfA rB false)<|.lenA Tf.i v1.fq<|.lp2 (ydo v1 ()) (fun (v88:Int×Tf)=>.lfA rB false) (fun (v89:Unit)=>.callF (qck v1.fw false) fun v90=>.lfA rB v90)) (by kernel_rfl) (lA<|bR rfl<|cF yn2 fun v3=>bR rfl<|cF yn2 fun v6=>bR rfl<|cF yyn fun v9=>bR rfl<|cF zkj fun v12=>bR rfl<|lA<|bR rfl<|lA<|bR rfl<|lA<|lQ yq1 (fun v88=>rfl) (fun v89=>cF qmn fun v90=>rfl))
def zwi (v1:Ti) (k:Int) (s:Unit):St:=⟨sv 10 [(1,.ref (.box 0) 0 []),(5,.imm 13 (v1.fg.map Tb.i)),(6,.I (v1.fg.length:Int)),(7,.I k)],[[.I v1.faa,.imm 13 (v1.fg.map Tb.i)]]⟩
def zr0 (v1:Ti):(Int×Tb)->Ex×St:=fun p=>(.ret,⟨sv 10 [(1,.ref (.box 0) 0 []),(2,.bool false),(3,.I p.1),(4,.ref (.box 1) 0 []),(5,.imm 13 (v1.fg.map Tb.i)),(6,.I (v1.fg.length:Int)),(7,.I p.1),(8,.bool true),(9,.bool true)],[[.I v1.faa,.imm 13 (v1.fg.map Tb.i)],[.I p.2.fk,.I p.2.fan,.I p.2.fao,.I p.2.fo,.I p.2.fa.fe,.I p.2.fa.ff,.I p.2.fa.fN,.imm 1 (p.2.fa.fc.map (V.int .i64)),.imm 1 (p.2.fa.fb.map V.bool),.I p.2.fa.fp,.imm 8 (p.2.fq.map Tf.i),.imm 1 (p.2.fw.map V.bool),.imm 6 (p.2.fab.map Te.i)]]⟩)
def zng (v1:Ti):Unit->Ex×St:=fun p=>((.exit 0),⟨sv 10 [(1,.ref (.box 0) 0 []),(5,.imm 13 (v1.fg.map Tb.i)),(6,.I (v1.fg.length:Int)),(7,.I (v1.fg.length:Int)),(8,.bool false)],[[.I v1.faa,.imm 13 (v1.fg.map Tb.i)]]⟩)
def zhq (v1:Ti) (k:Int):=zb9 (zwi v1 k) (Sum.elim (zr0 v1) (zng v1))
def yfh (v1:Ti) (k:Int) (x:Tb) (s:Unit):Option ((Unit)⊕((Int×Tb)⊕Unit)):=(yxn x).bind fun v22=>(bif !v22 then(some (.inr (.inl (k,x)))) else(bif decide (v1.faa<=x.fk) then(some (.inr (.inl (k,x)))) else(bif decide (0<k) then(if 0<=(i64.wrap (k - 1)) then(((v1.fg)[(i64.wrap (k - 1)).toNat]?).bind fun v27=>(bif decide (x.fk<=v27.fk) then(some (.inr (.inl (k,x)))) else(some (.inl ())))) else none) else(some (.inl ())))))
def ys6 (v1:Ti) (s:Unit):Option ((Int×Tb)⊕Unit):=some ((.inr ()))
def zx9 (v1:Ti) (s:Unit):Option ((Int×Tb)⊕Unit):=if v1.fg.length<=9223372036854775806 then za5 (yfh v1) (ys6 v1) v1.fg 0 s else none
def yi8 (v1:Ti) (s:Unit):Lc2:=⟨10,ymt,1,[0,2,3,4,8,9],some (zwi v1 0 s),Int×Tb,Unit,zx9 v1 s,zr0 v1,zng v1⟩
theorem ypi {v1:Ti} {s:Unit}:(yi8 v1 s).ok tab:=zap (list_oky (J:=zwi v1) (o:=(Sum.elim (zr0 v1) (zng v1))) v1.fg (B:=fun k x s=>(.kb (decide (k<(v1.fg.length:Int))) true<|.kx Tb.i v1.fg k x<|.callF (qj0 x) fun v22=>.br (!v22) (.lfA (zhq v1 (w1 k)) (.inr (.inl (k,x))))<|.br (decide (v1.faa<=x.fk)) (.lfA (zhq v1 (w1 k)) (.inr (.inl (k,x))))<|.br (decide (0<k)) (.guard (0<=(i64.wrap (k - 1))) inferInstance<|.lookA Tb.i v1.fg ((i64.wrap (k - 1)).toNat) fun v27=>.br (decide (x.fk<=v27.fk)) (.lfA (zhq v1 (w1 k)) (.inr (.inl (k,x))))<|.lfA (zhq v1 (w1 k)) (.inl ()))<|.lfA (zhq v1 (w1 k)) (.inl ()))) (E:=fun s=>(.kb (decide ((v1.fg.length:Int)<(v1.fg.length:Int))) false<|.lfA (zhq v1 0) (.inr (.inr ())))) (by kernel_rfl) (fun d x t s he=>⟨ltX he,kX he<|cF qpo fun v22=>bR rfl<|bR rfl<|bR (gU<|kA fun v27=>bR rfl<|rfl)<|rfl⟩) (ho2 (fun _=>rfl) fun _=>rfl) (fun s=>⟨ltE _,rfl⟩) s)
def yux (v1:Ti):Option Bool:=(zx9 v1 ()).bind (zbw (fun (v30:Int×Tb)=>(some false)) (fun (v31:Unit)=>((yjy v1.faa).bind fun v32=>(bif v32 then(some (decide ((v1.fg.length:Int)<=16))) else(some false)))))
def qav (v1:Ti):Ctr:=⟨143,[v1.i],[],Bool,yux v1,rB⟩
theorem qlq {v1:Ti}:(qav v1).okF tab:=okF_of rfl rfl (.lenA Tb.i v1.fg<|.lp2 (yi8 v1 ()) (fun (v30:Int×Tb)=>.lfA rB false) (fun (v31:Unit)=>.callF (yka v1.faa) fun v32=>.br v32 (.lenA Tb.i v1.fg<|.lfA rB (decide ((v1.fg.length:Int)<=16)))<|.lfA rB false)) (by kernel_rfl) (lA<|lQ ypi (fun v30=>rfl) (fun v31=>cF yn2 fun v32=>bR (lA<|rfl)<|rfl))
def yw4 (v1:Ta):Option Bool:=(yjy v1.fk).bind fun v2=>(bif v2 then((zi0 v1.fr 0 7).bind fun v5=>(bif v5 then((yqi v1.fo).bind fun v8=>(bif v8 then((yst v1.fa).bind fun v11=>(some v11)) else(some false))) else(some false))) else(some false))
def qcb (v1:Ta):Ctr:=⟨236,[v1.i],[],Bool,yw4 v1,rB⟩
theorem qgy {v1:Ta}:(qcb v1).okF tab:=okF_of rfl rfl (.callF (yka v1.fk) fun v2=>.br v2 (.callF (zih v1.fr 0 7) fun v5=>.br v5 (.callF (yvn v1.fo) fun v8=>.br v8 (.callF (yvf v1.fa) fun v11=>.lfA rB v11)<|.lfA rB false)<|.lfA rB false)<|.lfA rB false) (by kernel_rfl) (cF yn2 fun v2=>bR (cF zkj fun v5=>bR (cF yzs fun v8=>bR (cF yyn fun v11=>rfl)<|rfl)<|rfl)<|rfl)
def ywe (v1:Tg) (v2:Tg):Option Bool:=bif decide (v1.fe=v2.fe) then(bif decide (v1.ff=v2.ff) then(bif decide (v1.fN=v2.fN) then(bif decide (v1.fp=v2.fp) then((yu2 v1.fc v2.fc).bind fun v7=>(bif v7 then((ytr v1.fb v2.fb).bind fun v10=>(some v10)) else(some false))) else(some false)) else(some false)) else(some false)) else(some false)
def qah (v1:Tg) (v2:Tg):Ctr:=⟨172,[v1.i,v2.i],[],Bool,ywe v1 v2,rB⟩
theorem qh6 {v1:Tg} {v2:Tg}:(qah v1 v2).okF tab:=okF_of rfl rfl (.br (decide (v1.fe=v2.fe)) (.br (decide (v1.ff=v2.ff)) (.br (decide (v1.fN=v2.fN)) (.br (decide (v1.fp=v2.fp)) (.callF (yyo v1.fc v2.fc) fun v7=>.br v7 (.callF (yya v1.fb v2.fb) fun v10=>.lfA rB v10)<|.lfA rB false)<|.lfA rB false)<|.lfA rB false)<|.lfA rB false)<|.lfA rB false) (by kernel_rfl) (bR (bR (bR (bR (cF qbp fun v7=>bR (cF qcg fun v10=>rfl)<|rfl)<|rfl)<|rfl)<|rfl)<|rfl)
def yxl (v1:Ta):Option Bool:=bif decide (v1.fk=0) then(bif decide (v1.fr=0) then(bif decide (v1.fo=0) then((ywe v1.fa (⟨0,0,0,[],[],0⟩:Tg)).bind fun v5=>(some v5)) else(some false)) else(some false)) else(some false)
def qjh (v1:Ta):Ctr:=⟨237,[v1.i],[],Bool,yxl v1,rB⟩
theorem qsh {v1:Ta}:(qjh v1).okF tab:=okF_of rfl rfl (.br (decide (v1.fk=0)) (.br (decide (v1.fr=0)) (.br (decide (v1.fo=0)) (.seg [] 0 0 []<|.eqL [] []<|.seg [] 0 0 []<|.eqL [] []<|.callF (qah v1.fa (⟨0,0,0,[],[],0⟩:Tg)) fun v5=>.lfA rB v5)<|.lfA rB false)<|.lfA rB false)<|.lfA rB false) (by kernel_rfl) (bR (bR (bR (⟨zb5 [],⟨rfl,⟨zb5 [],⟨rfl,cF qh6 fun v5=>rfl⟩⟩⟩⟩)<|rfl)<|rfl)<|rfl)
def zx8 (v1:Tc) (k:Int) (s:Unit):St:=⟨sv 11 [(1,.ref (.box 0) 0 []),(5,.imm 9 (v1.fu.map Ta.i)),(6,.I (v1.fu.length:Int)),(7,.I k)],[[.imm 9 (v1.fu.map Ta.i),.bool v1.fah,.I v1.fd.fk,.I v1.fd.fr,.I v1.fd.fo,.I v1.fd.fa.fe,.I v1.fd.fa.ff,.I v1.fd.fa.fN,.imm 1 (v1.fd.fa.fc.map (V.int .i64)),.imm 1 (v1.fd.fa.fb.map V.bool),.I v1.fd.fa.fp,.I v1.fak,.I v1.fai,.I v1.faj,.I v1.faa,.I v1.fad,.I v1.fac]]⟩
def zo7 (v1:Tc):(Int×Ta)->Ex×St:=fun p=>(.ret,⟨sv 11 [(1,.ref (.box 0) 0 []),(2,.bool false),(3,.ref (.box 1) 0 []),(5,.imm 9 (v1.fu.map Ta.i)),(6,.I (v1.fu.length:Int)),(7,.I p.1),(8,.bool true),(9,.bool true)],[[.imm 9 (v1.fu.map Ta.i),.bool v1.fah,.I v1.fd.fk,.I v1.fd.fr,.I v1.fd.fo,.I v1.fd.fa.fe,.I v1.fd.fa.ff,.I v1.fd.fa.fN,.imm 1 (v1.fd.fa.fc.map (V.int .i64)),.imm 1 (v1.fd.fa.fb.map V.bool),.I v1.fd.fa.fp,.I v1.fak,.I v1.fai,.I v1.faj,.I v1.faa,.I v1.fad,.I v1.fac],[.I p.2.fk,.I p.2.fr,.I p.2.fo,.I p.2.fa.fe,.I p.2.fa.ff,.I p.2.fa.fN,.imm 1 (p.2.fa.fc.map (V.int .i64)),.imm 1 (p.2.fa.fb.map V.bool),.I p.2.fa.fp]]⟩)
def zno (v1:Tc):Unit->Ex×St:=fun p=>((.exit 0),⟨sv 11 [(1,.ref (.box 0) 0 []),(5,.imm 9 (v1.fu.map Ta.i)),(6,.I (v1.fu.length:Int)),(7,.I (v1.fu.length:Int)),(8,.bool false)],[[.imm 9 (v1.fu.map Ta.i),.bool v1.fah,.I v1.fd.fk,.I v1.fd.fr,.I v1.fd.fo,.I v1.fd.fa.fe,.I v1.fd.fa.ff,.I v1.fd.fa.fN,.imm 1 (v1.fd.fa.fc.map (V.int .i64)),.imm 1 (v1.fd.fa.fb.map V.bool),.I v1.fd.fa.fp,.I v1.fak,.I v1.fai,.I v1.faj,.I v1.faa,.I v1.fad,.I v1.fac]]⟩)
def zy4 (v1:Tc) (k:Int):=zb9 (zx8 v1 k) (Sum.elim (zo7 v1) (zno v1))
def ygf (v1:Tc) (k:Int) (x:Ta) (s:Unit):Option ((Unit)⊕((Int×Ta)⊕Unit)):=(yw4 x).bind fun v23=>(bif !v23 then(some (.inr (.inl (k,x)))) else(some (.inl ())))
def yry (v1:Tc) (s:Unit):Option ((Int×Ta)⊕Unit):=some ((.inr ()))
def zxq (v1:Tc) (s:Unit):Option ((Int×Ta)⊕Unit):=if v1.fu.length<=9223372036854775806 then za5 (ygf v1) (yry v1) v1.fu 0 s else none
def yjv (v1:Tc) (s:Unit):Lc2:=⟨11,yo5,1,[0,2,3,4,8,9,10],some (zx8 v1 0 s),Int×Ta,Unit,zxq v1 s,zo7 v1,zno v1⟩
theorem yr9 {v1:Tc} {s:Unit}:(yjv v1 s).ok tab:=zap (list_oky (J:=zx8 v1) (o:=(Sum.elim (zo7 v1) (zno v1))) v1.fu (B:=fun k x s=>(.kb (decide (k<(v1.fu.length:Int))) true<|.kx Ta.i v1.fu k x<|.callF (qcb x) fun v23=>.br (!v23) (.lfA (zy4 v1 (w1 k)) (.inr (.inl (k,x))))<|.lfA (zy4 v1 (w1 k)) (.inl ()))) (E:=fun s=>(.kb (decide ((v1.fu.length:Int)<(v1.fu.length:Int))) false<|.lfA (zy4 v1 0) (.inr (.inr ())))) (by kernel_rfl) (fun d x t s he=>⟨ltX he,kX he<|cF qgy fun v23=>bR rfl<|rfl⟩) (ho2 (fun _=>rfl) fun _=>rfl) (fun s=>⟨ltE _,rfl⟩) s)
def yy7 (v1:Tc):Option Bool:=(yuw v1.fad v1.fac).bind fun v2=>(bif !v2 then(some false) else(bif decide (40<(v1.fu.length:Int)) then(some false) else((zm1 v1.faa).bind fun v6=>(bif !v6 then(some false) else((zxq v1 ()).bind (zbw (fun (v26:Int×Ta)=>(some false)) (fun (v27:Unit)=>(bif !v1.fah then((yxl v1.fd).bind fun v29=>(bif v29 then(bif decide (v1.fak=0) then(bif decide (v1.fai=0) then(some (decide (v1.faj=0))) else(some false)) else(some false)) else(some false))) else((yw4 v1.fd).bind fun v34=>(bif v34 then((zm1 v1.fak).bind fun v37=>(bif v37 then((yv2 v1.fai).bind fun v40=>(bif v40 then((zi0 v1.faj 0 v1.fac).bind fun v43=>(some v43)) else(some false))) else(some false))) else(some false)))))))))))
def qfk (v1:Tc):Ctr:=⟨145,[v1.i],[],Bool,yy7 v1,rB⟩
theorem qr4 {v1:Tc}:(qfk v1).okF tab:=okF_of rfl rfl (.callF (qbw v1.fad v1.fac) fun v2=>.br (!v2) (.lfA rB false)<|.lenA Ta.i v1.fu<|.br (decide (40<(v1.fu.length:Int))) (.lfA rB false)<|.callF (zrc v1.faa) fun v6=>.br (!v6) (.lfA rB false)<|.lenA Ta.i v1.fu<|.lp2 (yjv v1 ()) (fun (v26:Int×Ta)=>.lfA rB false) (fun (v27:Unit)=>.br (!v1.fah) (.callF (qjh v1.fd) fun v29=>.br v29 (.br (decide (v1.fak=0)) (.br (decide (v1.fai=0)) (.lfA rB (decide (v1.faj=0)))<|.lfA rB false)<|.lfA rB false)<|.lfA rB false)<|.callF (qcb v1.fd) fun v34=>.br v34 (.callF (zrc v1.fak) fun v37=>.br v37 (.callF (qak v1.fai) fun v40=>.br v40 (.callF (zih v1.faj 0 v1.fac) fun v43=>.lfA rB v43)<|.lfA rB false)<|.lfA rB false)<|.lfA rB false)) (by kernel_rfl) (cF qf4 fun v2=>bR rfl<|lA<|bR rfl<|cF zrl fun v6=>bR rfl<|lA<|lQ yr9 (fun v26=>rfl) (fun v27=>bR (cF qsh fun v29=>bR (bR (bR rfl<|rfl)<|rfl)<|rfl)<|cF qgy fun v34=>bR (cF zrl fun v37=>bR (cF qhb fun v40=>bR (cF zkj fun v43=>rfl)<|rfl)<|rfl)<|rfl))
def ql2 (a:List Ta):Ctr:=⟨238,[.imm 9 (a.map Ta.i)],[],List Ta,if a.length * 104<=70368744177664 then some a else none,fun r=>(.own 9 (r.map Ta.i),[])⟩
theorem qo5 {a:List Ta}:(ql2 a).ok tab:=zru qrj Ta.i a
def qc3:List Ta->V×List (List V):=fun r=>(.own 9 (r.map Ta.i),[])
def ywx (v1:Tc):Option (List Ta):=(if v1.fu.length * 104<=70368744177664 then some v1.fu else none).bind fun v2=>(bif v1.fah then(if ((v2.map Ta.i).length+(([v1.fd]:List Ta).map Ta.i).length) * 104<=70368744177664 then(some (v2++([v1.fd]:List Ta))) else none) else(some v2))
def qkh (v1:Tc):Ctr:=⟨146,[v1.i],[],List Ta,ywx v1,qc3⟩
theorem qwt {v1:Tc}:(qkh v1).ok tab:=okX_of rfl rfl (.call (ql2 v1.fu) fun(v2:List Ta)=>.segA Ta.i v2<|.br v1.fah (.eqL [v1.fd.i] (([v1.fd]:List Ta).map Ta.i)<|.segA Ta.i v2<|.segA Ta.i ([v1.fd]:List Ta)<|.guard (((v2.map Ta.i).length+(([v1.fd]:List Ta).map Ta.i).length) * 104<=70368744177664) inferInstance<|.appA Ta.i v2 ([v1.fd]:List Ta)<|.segA Ta.i (v2++([v1.fd]:List Ta))<|.segA Ta.i (v2++([v1.fd]:List Ta))<|.lfA qc3 (v2++([v1.fd]:List Ta)))<|.segA Ta.i v2<|.lfA qc3 v2) (by kernel_rfl) (cE qo5 fun v2=>sA<|bR (⟨rfl,sA<|sA<|gU<|aA<|sA<|sA<|rfl⟩)<|sA<|rfl)
def yyc (v1:Tb) (v2:Ta):Option Bool:=some (decide (v1.fk=v2.fk))
def qhg (v1:Tb) (v2:Ta):Ctr:=⟨240,[v1.i,.eptr v2.i.cells 0],[],Bool,yyc v1 v2,rB⟩
theorem qmq {v1:Tb} {v2:Ta}:(qhg v1 v2).okF tab:=okF_of rfl rfl (.lfA rB (decide (v1.fk=v2.fk))) (by kernel_rfl) rfl
def zue (v1:List Tb) (v2:Ta) (k:Int) (s:Unit):St:=⟨sv 8 [(0,.imm 13 (v1.map Tb.i)),(1,.clo 240 [v2.i]),(4,.I (v1.length:Int)),(5,.I k)],[]⟩
def zos (v1:List Tb) (v2:Ta):Int->Ex×St:=fun p=>(.ret,⟨sv 8 [(0,.imm 13 (v1.map Tb.i)),(1,.clo 240 [v2.i]),(2,.I p),(3,.I p),(4,.I (v1.length:Int)),(5,.I p),(6,.bool true),(7,.bool true)],[]⟩)
def znl (v1:List Tb) (v2:Ta):Unit->Ex×St:=fun p=>((.exit 0),⟨sv 8 [(0,.imm 13 (v1.map Tb.i)),(1,.clo 240 [v2.i]),(4,.I (v1.length:Int)),(5,.I (v1.length:Int)),(6,.bool false)],[]⟩)
def zxd (v1:List Tb) (v2:Ta) (k:Int):=zb9 (zue v1 v2 k) (Sum.elim (zos v1 v2) (znl v1 v2))
def ygl (v1:List Tb) (v2:Ta) (k:Int) (x:Tb) (s:Unit):Option ((Unit)⊕(Int⊕Unit)):=(yyc x v2).bind fun v17=>(bif v17 then(some (.inr (.inl k))) else(some (.inl ())))
def yrk (v1:List Tb) (v2:Ta) (s:Unit):Option (Int⊕Unit):=some ((.inr ()))
def zv9 (v1:List Tb) (v2:Ta) (s:Unit):Option (Int⊕Unit):=if v1.length<=9223372036854775806 then za5 (ygl v1 v2) (yrk v1 v2) v1 0 s else none
def yh2 (v1:List Tb) (v2:Ta) (s:Unit):Lc2:=⟨8,ymd,0,[2,3,6,7],some (zue v1 v2 0 s),Int,Unit,zv9 v1 v2 s,zos v1 v2,znl v1 v2⟩
theorem yrb {v1:List Tb} {v2:Ta} {s:Unit}:(yh2 v1 v2 s).ok tab:=zap (list_oky (J:=zue v1 v2) (o:=(Sum.elim (zos v1 v2) (znl v1 v2))) v1 (B:=fun k x s=>(.kb (decide (k<(v1.length:Int))) true<|.kx Tb.i v1 k x<|.callF (qhg x v2) fun v17=>.br v17 (.lfA (zxd v1 v2 (w1 k)) (.inr (.inl k)))<|.lfA (zxd v1 v2 (w1 k)) (.inl ()))) (E:=fun s=>(.kb (decide ((v1.length:Int)<(v1.length:Int))) false<|.lfA (zxd v1 v2 0) (.inr (.inr ())))) (by kernel_rfl) (fun d x t s he=>⟨ltX he,kX he<|cF qmq fun v17=>bR rfl<|rfl⟩) (ho2 (fun _=>rfl) fun _=>rfl) (fun s=>⟨ltE _,rfl⟩) s)
def yxz (v1:List Tb) (v2:Ta):Option Int:=(zv9 v1 v2 ()).bind (zbw (fun (v20:Int)=>(some v20)) (fun (v21:Unit)=>(some (-1))))
def qgx (v1:List Tb) (v2:Ta):Ctr:=⟨239,[.imm 13 (v1.map Tb.i),.clo 240 [v2.i]],[],Int,yxz v1 v2,rI⟩
theorem qns {v1:List Tb} {v2:Ta}:(qgx v1 v2).okF tab:=okF_of rfl rfl (.lenA Tb.i v1<|.lp2 (yh2 v1 v2 ()) (fun (v20:Int)=>.lfA rI v20) (fun (v21:Unit)=>.lfA rI (-1)):Tree Int _) (by kernel_rfl) (lA<|lQ yrb (fun v20=>rfl) (fun v21=>rfl))
def yyy (v1:Ti) (v2:Int) (v3:Ta):Option Bool:=(yxz v1.fg v3).bind fun v4=>(bif decide (v4<0) then(some false) else(if 0<=v4 then(((v1.fg)[v4.toNat]?).bind fun v7=>(bif decide ((v7.fq.length:Int)<=v3.fr) then(some false) else(if 0<=v4 then(if 0<=v3.fr then(((v7.fw)[v3.fr.toNat]?).bind fun v10=>(bif v10 then(some false) else(if 0<=v4 then(if 0<=v3.fr then(((v7.fq)[v3.fr.toNat]?).bind fun v13=>(if 0<=v3.fr then(if 0<=v4 then(bif decide (v13.faf=v2) then(bif decide (v13.fo=v3.fo) then((ywe v13.fa v3.fa).bind fun v17=>(some v17)) else(some false)) else(some false)) else none) else none)) else none) else none))) else none) else none))) else none))
def qes (v1:Ti) (v2:Int) (v3:Ta):Ctr:=⟨147,[v1.i,.I v2,v3.i],[],Bool,yyy v1 v2 v3,rB⟩
theorem qog {v1:Ti} {v2:Int} {v3:Ta}:(qes v1 v2 v3).okF tab:=okF_of rfl rfl (.callF (qgx v1.fg v3) fun(v4:Int)=>.br (decide (v4<0)) (.lfA rB false)<|.guard (0<=v4) inferInstance<|.lookA Tb.i v1.fg (v4.toNat) fun v7=>.lenA Tf.i v7.fq<|.br (decide ((v7.fq.length:Int)<=v3.fr)) (.lfA rB false)<|.guard (0<=v4) inferInstance<|.lkX Tb.i v1.fg (v4.toNat) v7<|.guard (0<=v3.fr) inferInstance<|.lookA V.bool v7.fw (v3.fr.toNat) fun v10=>.br v10 (.lfA rB false)<|.guard (0<=v4) inferInstance<|.lkX Tb.i v1.fg (v4.toNat) v7<|.guard (0<=v3.fr) inferInstance<|.lookA Tf.i v7.fq (v3.fr.toNat) fun v13=>.oq (v13.i)<|.oq (v13.i)<|.oq (.eptr v13.i.cells 0)<|.guard (0<=v3.fr) inferInstance<|.lkX Tf.i v7.fq (v3.fr.toNat) v13<|.oq (.eptr v13.i.cells 0)<|.oq (.int .i64 v3.fr)<|.oq (.int .i64 v3.fr)<|.oq (.ref (.box 1) 1 [])<|.oq (.ref (.box 1) 1 [])<|.oq (.imm 8 (v7.fq.map Tf.i))<|.oq (.imm 8 (v7.fq.map Tf.i))<|.oq (.eptr v7.i.cells 10)<|.oq (.eptr v7.i.cells 10)<|.oq (.eptr v7.i.cells 0)<|.guard (0<=v4) inferInstance<|.lkX Tb.i v1.fg (v4.toNat) v7<|.oq (.eptr v7.i.cells 0)<|.oq (.int .i64 v4)<|.oq (.int .i64 v4)<|.oq (.imm 13 (v1.fg.map Tb.i))<|.oq (.imm 13 (v1.fg.map Tb.i))<|.oq (.ref (.box 0) 1 [])<|.oq (.ref (.box 0) 1 [])<|.br (decide (v13.faf=v2)) (.br (decide (v13.fo=v3.fo)) (.callF (qah v13.fa v3.fa) fun v17=>.lfA rB v17)<|.lfA rB false)<|.lfA rB false) (by kernel_rfl) (cF qns fun v4=>bR rfl<|gU<|⟨zc9 _ _ _,fun v7 h8=>lA<|bR rfl<|gU<|⟨zau _ h8,gU<|kA fun v10=>bR rfl<|gU<|⟨zau _ h8,gU<|⟨zc9 _ _ _,fun v13 h14=>⟨rfl,⟨rfl,⟨rfl,gU<|⟨zau _ h14,⟨rfl,⟨rfl,⟨rfl,⟨rfl,⟨rfl,⟨rfl,⟨rfl,⟨rfl,⟨rfl,⟨rfl,gU<|⟨zau _ h8,⟨rfl,⟨rfl,⟨rfl,⟨rfl,⟨rfl,⟨rfl,⟨rfl,bR (bR (cF qh6 fun v17=>rfl)<|rfl)<|rfl⟩⟩⟩⟩⟩⟩⟩⟩⟩⟩⟩⟩⟩⟩⟩⟩⟩⟩⟩⟩⟩⟩⟩⟩⟩⟩)
def zxr (v1:List Tk) (v2:Tk) (k:Int) (s:Unit):St:=⟨sv 9 [(0,.imm 2 (v1.map Tk.i)),(2,.ref (.box 0) 0 []),(5,.I (v1.length:Int)),(6,.I k)],[[.I v2.fid,.I v2.fpart]]⟩
def zmr (v1:List Tk) (v2:Tk):Int->Ex×St:=fun p=>(.ret,⟨sv 9 [(0,.imm 2 (v1.map Tk.i)),(2,.ref (.box 0) 0 []),(3,.I p),(4,.I p),(5,.I (v1.length:Int)),(6,.I p),(7,.bool true),(8,.bool true)],[[.I v2.fid,.I v2.fpart]]⟩)
def zqb (v1:List Tk) (v2:Tk):Unit->Ex×St:=fun p=>((.exit 0),⟨sv 9 [(0,.imm 2 (v1.map Tk.i)),(2,.ref (.box 0) 0 []),(5,.I (v1.length:Int)),(6,.I (v1.length:Int)),(7,.bool false)],[[.I v2.fid,.I v2.fpart]]⟩)
def zwk (v1:List Tk) (v2:Tk) (k:Int):=zb9 (zxr v1 v2 k) (Sum.elim (zmr v1 v2) (zqb v1 v2))
def yew (v1:List Tk) (v2:Tk) (k:Int) (x:Tk) (s:Unit):Option ((Unit)⊕(Int⊕Unit)):=bif decide (v2.fid=x.fid)&&(decide (v2.fpart=x.fpart)&&true) then(some (.inr (.inl k))) else(some (.inl ()))
def ys4 (v1:List Tk) (v2:Tk) (s:Unit):Option (Int⊕Unit):=some ((.inr ()))
def zwy (v1:List Tk) (v2:Tk) (s:Unit):Option (Int⊕Unit):=if v1.length<=9223372036854775806 then za5 (yew v1 v2) (ys4 v1 v2) v1 0 s else none
def yf2 (v1:List Tk) (v2:Tk) (s:Unit):Lc2:=⟨9,ynr,1,[1,3,4,7,8],some (zxr v1 v2 0 s),Int,Unit,zwy v1 v2 s,zmr v1 v2,zqb v1 v2⟩
theorem yte {v1:List Tk} {v2:Tk} {s:Unit}:(yf2 v1 v2 s).ok tab:=zap (list_oky (J:=zxr v1 v2) (o:=(Sum.elim (zmr v1 v2) (zqb v1 v2))) v1 (B:=fun k x s=>(.kb (decide (k<(v1.length:Int))) true<|.kx Tk.i v1 k x<|.br (decide (v2.fid=x.fid)&&(decide (v2.fpart=x.fpart)&&true)) (.lfA (zwk v1 v2 (w1 k)) (.inr (.inl k)))<|.lfA (zwk v1 v2 (w1 k)) (.inl ()))) (E:=fun s=>(.kb (decide ((v1.length:Int)<(v1.length:Int))) false<|.lfA (zwk v1 v2 0) (.inr (.inr ())))) (by kernel_rfl) (fun d x t s he=>⟨ltX he,kX he<|bR rfl<|rfl⟩) (ho2 (fun _=>rfl) fun _=>rfl) (fun s=>⟨ltE _,rfl⟩) s)
def yz6 (v1:List Tk) (v2:Tk):Option Int:=(zwy v1 v2 ()).bind (zbw (fun (v14:Int)=>(some v14)) (fun (v15:Unit)=>(some (-1))))
def qkz (v1:List Tk) (v2:Tk):Ctr:=⟨241,[.imm 2 (v1.map Tk.i),v2.i],[],Int,yz6 v1 v2,rI⟩
theorem qwz {v1:List Tk} {v2:Tk}:(qkz v1 v2).okF tab:=okF_of rfl rfl (.lenA Tk.i v1<|.lp2 (yf2 v1 v2 ()) (fun (v14:Int)=>.lfA rI v14) (fun (v15:Unit)=>.lfA rI (-1)):Tree Int _) (by kernel_rfl) (lA<|lQ yte (fun v14=>rfl) (fun v15=>rfl))
def yzm (v1:List Tk) (v2:Tk):Option Bool:=(yz6 v1 v2).bind fun v3=>(some (decide (0<=v3)))
def qfy (v1:List Tk) (v2:Tk):Ctr:=⟨148,[.imm 2 (v1.map Tk.i),v2.i],[],Bool,yzm v1 v2,rB⟩
theorem qqb {v1:List Tk} {v2:Tk}:(qfy v1 v2).okF tab:=okF_of rfl rfl (.callF (qkz v1 v2) fun(v3:Int)=>.lfA rB (decide (0<=v3))) (by kernel_rfl) (cF qwz fun v3=>rfl)
def zw2 (v1:Ti) (v22:Int) (v39:Tb) (k:Int) (s:Int):St:=⟨sv 16 [(3,.I s),(7,.imm 13 (v1.fg.map Tb.i)),(8,.I (v1.fg.length:Int)),(9,.I v22),(11,.imm 1 (v39.fw.map V.bool)),(12,.I (v39.fw.length:Int)),(13,.I k)],[[.I v1.faa,.imm 13 (v1.fg.map Tb.i)],[.I v39.fk,.I v39.fan,.I v39.fao,.I v39.fo,.I v39.fa.fe,.I v39.fa.ff,.I v39.fa.fN,.imm 1 (v39.fa.fc.map (V.int .i64)),.imm 1 (v39.fa.fb.map V.bool),.I v39.fa.fp,.imm 8 (v39.fq.map Tf.i),.imm 1 (v39.fw.map V.bool),.imm 6 (v39.fab.map Te.i)]]⟩
def zn3 (v1:Ti) (v22:Int) (v39:Tb):Int->Ex×St:=fun p=>((.exit 2),⟨sv 16 [(3,.I p),(7,.imm 13 (v1.fg.map Tb.i)),(8,.I (v1.fg.length:Int)),(9,.I v22),(11,.imm 1 (v39.fw.map V.bool)),(12,.I (v39.fw.length:Int)),(13,.I (v39.fw.length:Int)),(14,.bool false)],[[.I v1.faa,.imm 13 (v1.fg.map Tb.i)],[.I v39.fk,.I v39.fan,.I v39.fao,.I v39.fo,.I v39.fa.fe,.I v39.fa.ff,.I v39.fa.fN,.imm 1 (v39.fa.fc.map (V.int .i64)),.imm 1 (v39.fa.fb.map V.bool),.I v39.fa.fp,.imm 8 (v39.fq.map Tf.i),.imm 1 (v39.fw.map V.bool),.imm 6 (v39.fab.map Te.i)]]⟩)
def zu6 (v1:Ti) (v22:Int) (v39:Tb) (k:Int):=zb9 (zw2 v1 v22 v39 k) (zn3 v1 v22 v39)
def yq9 (v1:Ti) (v22:Int) (v39:Tb) (k:Int) (x:Bool) (s:Int):Option ((Int)⊕(Int)):=bif !x then(some (.inl (i64.wrap (s+1)))) else(some (.inl s))
def yti (v1:Ti) (v22:Int) (v39:Tb) (s:Int):Option Int:=some (s)
def zke (v1:Ti) (v22:Int) (v39:Tb) (s:Int):Option Int:=if v39.fw.length<=9223372036854775806 then za5 (yq9 v1 v22 v39) (yti v1 v22 v39) v39.fw 0 s else none
def yhg (v1:Ti) (v22:Int) (v39:Tb) (s:Int):Lct:=⟨16,ygv,2,[0,1,2,4,5,6,10,14,15],some (zw2 v1 v22 v39 0 s),Int,zke v1 v22 v39 s,zn3 v1 v22 v39⟩
theorem yq5 {v1:Ti} {v22:Int} {v39:Tb} {s:Int}:(yhg v1 v22 v39 s).ok tab:=zba (list_oky (J:=zw2 v1 v22 v39) (o:=(zn3 v1 v22 v39)) v39.fw (B:=fun k x s=>(.kb (decide (k<(v39.fw.length:Int))) true<|.kx V.bool v39.fw k x<|.br (!x) (.lfA (zu6 v1 v22 v39 (w1 k)) (.inl (i64.wrap (s+1))))<|.lfA (zu6 v1 v22 v39 (w1 k)) (.inl s))) (E:=fun s=>(.kb (decide ((v39.fw.length:Int)<(v39.fw.length:Int))) false<|.lfA (zu6 v1 v22 v39 0) (.inr s))) (by kernel_rfl) (fun d x t s he=>⟨ltX he,kX he<|bR rfl<|rfl⟩) (fun _=>rfl) (fun s=>⟨ltE _,rfl⟩) s)
def ztb (v1:Ti) (k:Int) (s:Int):St:=⟨sv 16 [(3,.I s),(7,.imm 13 (v1.fg.map Tb.i)),(8,.I (v1.fg.length:Int)),(9,.I k)],[[.I v1.faa,.imm 13 (v1.fg.map Tb.i)]]⟩
def zqz (v1:Ti):Int->Ex×St:=fun p=>((.exit 0),⟨sv 16 [(3,.I p),(7,.imm 13 (v1.fg.map Tb.i)),(8,.I (v1.fg.length:Int)),(9,.I (v1.fg.length:Int)),(10,.bool false)],[[.I v1.faa,.imm 13 (v1.fg.map Tb.i)]]⟩)
def yc7 (v1:Ti) (k:Int):=zb9 (ztb v1 k) (zqz v1)
def yh3 (v1:Ti) (k:Int) (x:Tb) (s:Int):Option ((Int)⊕(Int)):=(zke v1 k x s).bind fun v52=>(some (.inl v52))
def yg7 (v1:Ti) (s:Int):Option Int:=some (s)
def zut (v1:Ti) (s:Int):Option Int:=if v1.fg.length<=9223372036854775806 then za5 (yh3 v1) (yg7 v1) v1.fg 0 s else none
def yj7 (v1:Ti) (s:Int):Lct:=⟨16,yml,1,[0,1,2,4,5,6,10,11,12,13,14,15],some (ztb v1 0 s),Int,zut v1 s,zqz v1⟩
theorem yrp {v1:Ti} {s:Int}:(yj7 v1 s).ok tab:=zba (list_oky (J:=ztb v1) (o:=(zqz v1)) v1.fg (B:=fun k x s=>(.kb (decide (k<(v1.fg.length:Int))) true<|.kx Tb.i v1.fg k x<|.lenA V.bool x.fw<|.lp (yhg v1 k x s) fun(v52:Int)=>.lfA (yc7 v1 (w1 k)) (.inl v52))) (E:=fun s=>(.kb (decide ((v1.fg.length:Int)<(v1.fg.length:Int))) false<|.lfA (yc7 v1 0) (.inr s))) (by kernel_rfl) (fun d x t s he=>⟨ltX he,kX he<|lA<|lP yq5 fun v52=>rfl⟩) (fun _=>rfl) (fun s=>⟨ltE _,rfl⟩) s)
def yyh (v1:Ti):Option Int:=(yux v1).bind fun v2=>(bif !v2 then(some 0) else((zut v1 0).bind fun v53=>(some v53)))
def qij (v1:Ti):Ctr:=⟨149,[v1.i],[],Int,yyh v1,rI⟩
theorem qv9 {v1:Ti}:(qij v1).okF tab:=okF_of rfl rfl (.callF (qav v1) fun v2=>.br (!v2) (.lfA rI 0)<|.lenA Tb.i v1.fg<|.lp (yj7 v1 0) fun(v53:Int)=>.lfA rI v53:Tree Int _) (by kernel_rfl) (cF qlq fun v2=>bR rfl<|lA<|lP yrp fun v53=>rfl)
def zxb (v1:Th) (v60:Int) (v98:Tc) (v102:List Ta) (k:Int) (s:List Tk):St:=⟨sv 19 [(1,.ref (.box 0) 0 []),(3,.own 2 (s.map Tk.i)),(4,.I v60),(9,.imm 17 (v1.fi.map Tc.i)),(10,.I (v1.fi.length:Int)),(11,.I v60),(14,.own 9 (v102.map Ta.i)),(15,.I (v102.length:Int)),(16,.I k)],[[.I v1.far,.I v1.fj.fad,.I v1.fj.fac,.imm 7 (v1.fj.ft.map Td.i),.I v1.fh.faa,.imm 13 (v1.fh.fg.map Tb.i),.imm 17 (v1.fi.map Tc.i),.I v1.fap,.I v1.fas,.I v1.faq,.I v1.fat],[.imm 9 (v98.fu.map Ta.i),.bool v98.fah,.I v98.fd.fk,.I v98.fd.fr,.I v98.fd.fo,.I v98.fd.fa.fe,.I v98.fd.fa.ff,.I v98.fd.fa.fN,.imm 1 (v98.fd.fa.fc.map (V.int .i64)),.imm 1 (v98.fd.fa.fb.map V.bool),.I v98.fd.fa.fp,.I v98.fak,.I v98.fai,.I v98.faj,.I v98.faa,.I v98.fad,.I v98.fac]]⟩
def zmt (v1:Th) (v60:Int) (v98:Tc) (v102:List Ta):(List Tk×Int×Ta×Int×Int)->Ex×St:=fun p=>(.ret,⟨sv 19 [(1,.ref (.box 0) 0 []),(2,.bool false),(3,.own 2 (p.1.map Tk.i)),(4,.I v60),(6,.ref (.box 2) 0 []),(7,.ref (.box 3) 0 []),(9,.imm 17 (v1.fi.map Tc.i)),(10,.I (v1.fi.length:Int)),(11,.I v60),(14,.own 9 (v102.map Ta.i)),(15,.I (v102.length:Int)),(16,.I p.2.1),(17,.bool true),(18,.bool true)],[[.I v1.far,.I v1.fj.fad,.I v1.fj.fac,.imm 7 (v1.fj.ft.map Td.i),.I v1.fh.faa,.imm 13 (v1.fh.fg.map Tb.i),.imm 17 (v1.fi.map Tc.i),.I v1.fap,.I v1.fas,.I v1.faq,.I v1.fat],[.imm 9 (v98.fu.map Ta.i),.bool v98.fah,.I v98.fd.fk,.I v98.fd.fr,.I v98.fd.fo,.I v98.fd.fa.fe,.I v98.fd.fa.ff,.I v98.fd.fa.fN,.imm 1 (v98.fd.fa.fc.map (V.int .i64)),.imm 1 (v98.fd.fa.fb.map V.bool),.I v98.fd.fa.fp,.I v98.fak,.I v98.fai,.I v98.faj,.I v98.faa,.I v98.fad,.I v98.fac],[.I p.2.2.1.fk,.I p.2.2.1.fr,.I p.2.2.1.fo,.I p.2.2.1.fa.fe,.I p.2.2.1.fa.ff,.I p.2.2.1.fa.fN,.imm 1 (p.2.2.1.fa.fc.map (V.int .i64)),.imm 1 (p.2.2.1.fa.fb.map V.bool),.I p.2.2.1.fa.fp],[.I p.2.2.2.1,.I p.2.2.2.2]]⟩)
def zoz (v1:Th) (v60:Int) (v98:Tc) (v102:List Ta):(List Tk)->Ex×St:=fun p=>((.exit 2),⟨sv 19 [(1,.ref (.box 0) 0 []),(3,.own 2 (p.map Tk.i)),(4,.I v60),(9,.imm 17 (v1.fi.map Tc.i)),(10,.I (v1.fi.length:Int)),(11,.I v60),(14,.own 9 (v102.map Ta.i)),(15,.I (v102.length:Int)),(16,.I (v102.length:Int)),(17,.bool false)],[[.I v1.far,.I v1.fj.fad,.I v1.fj.fac,.imm 7 (v1.fj.ft.map Td.i),.I v1.fh.faa,.imm 13 (v1.fh.fg.map Tb.i),.imm 17 (v1.fi.map Tc.i),.I v1.fap,.I v1.fas,.I v1.faq,.I v1.fat],[.imm 9 (v98.fu.map Ta.i),.bool v98.fah,.I v98.fd.fk,.I v98.fd.fr,.I v98.fd.fo,.I v98.fd.fa.fe,.I v98.fd.fa.ff,.I v98.fd.fa.fN,.imm 1 (v98.fd.fa.fc.map (V.int .i64)),.imm 1 (v98.fd.fa.fb.map V.bool),.I v98.fd.fa.fp,.I v98.fak,.I v98.fai,.I v98.faj,.I v98.faa,.I v98.fad,.I v98.fac]]⟩)
def znv (v1:Th) (v60:Int) (v98:Tc) (v102:List Ta) (k:Int):=zb9 (zxb v1 v60 v98 v102 k) (Sum.elim (zmt v1 v60 v98 v102) (zoz v1 v60 v98 v102))
def zx1 (v1:Th) (v60:Int) (v98:Tc) (v102:List Ta) (k:Int) (x:Ta) (s:List Tk):Option ((List Tk)⊕((List Tk×Int×Ta×Int×Int)⊕(List Tk))):=if 0<=k/\(k:Int)<(((v102.map Ta.i).length - 0:Nat):Int) then((yyy v1.fh v60 x).bind fun v124=>(bif !v124 then(some (.inr (.inl (s,k,x,x.fk,x.fr)))) else((yzm s (⟨x.fk,x.fr⟩:Tk)).bind fun v127=>(bif v127 then(some (.inr (.inl (s,k,x,x.fk,x.fr)))) else(if ((s.map Tk.i).length+(([(⟨x.fk,x.fr⟩:Tk)]:List Tk).map Tk.i).length) * 16<=70368744177664 then(some (.inl (s++([(⟨x.fk,x.fr⟩:Tk)]:List Tk)))) else none))))) else none
def yc1 (v1:Th) (v60:Int) (v98:Tc) (v102:List Ta) (s:List Tk):Option ((List Tk×Int×Ta×Int×Int)⊕(List Tk)):=some ((.inr s))
def zkp (v1:Th) (v60:Int) (v98:Tc) (v102:List Ta) (s:List Tk):Option ((List Tk×Int×Ta×Int×Int)⊕(List Tk)):=if v102.length<=9223372036854775806 then za5 (zx1 v1 v60 v98 v102) (yc1 v1 v60 v98 v102) v102 0 s else none
def yd4 (v1:Th) (v60:Int) (v98:Tc) (v102:List Ta) (s:List Tk):Lc2:=⟨19,ydh,2,[0,2,5,6,7,8,12,13,17,18],some (zxb v1 v60 v98 v102 0 s),List Tk×Int×Ta×Int×Int,List Tk,zkp v1 v60 v98 v102 s,zmt v1 v60 v98 v102,zoz v1 v60 v98 v102⟩
theorem yqn {v1:Th} {v60:Int} {v98:Tc} {v102:List Ta} {s:List Tk}:(yd4 v1 v60 v98 v102 s).ok tab:=zap (list_oky (J:=zxb v1 v60 v98 v102) (o:=(Sum.elim (zmt v1 v60 v98 v102) (zoz v1 v60 v98 v102))) v102 (B:=fun k x s=>(.kb (decide (k<(v102.length:Int))) true<|.guard (0<=k/\(k:Int)<(((v102.map Ta.i).length - 0:Nat):Int)) inferInstance<|.lkY Ta.i v102 (k.toNat) x<|.callF (qes v1.fh v60 x) fun v124=>.br (!v124) (.lfA (znv v1 v60 v98 v102 (w1 k)) (.inr (.inl (s,k,x,x.fk,x.fr))))<|.se Tk.i Tk.i s<|.callF (qfy s (⟨x.fk,x.fr⟩:Tk)) fun v127=>.br v127 (.lfA (znv v1 v60 v98 v102 (w1 k)) (.inr (.inl (s,k,x,x.fk,x.fr))))<|.eqL [.agg [.int .i64 x.fk,.int .i64 x.fr]] (([(⟨x.fk,x.fr⟩:Tk)]:List Tk).map Tk.i)<|.segA Tk.i s<|.segA Tk.i ([(⟨x.fk,x.fr⟩:Tk)]:List Tk)<|.guard (((s.map Tk.i).length+(([(⟨x.fk,x.fr⟩:Tk)]:List Tk).map Tk.i).length) * 16<=70368744177664) inferInstance<|.appA Tk.i s ([(⟨x.fk,x.fr⟩:Tk)]:List Tk)<|.segA Tk.i (s++([(⟨x.fk,x.fr⟩:Tk)]:List Tk))<|.lfA (znv v1 v60 v98 v102 (w1 k)) (.inl (s++([(⟨x.fk,x.fr⟩:Tk)]:List Tk))))) (E:=fun s=>(.kb (decide ((v102.length:Int)<(v102.length:Int))) false<|.lfA (znv v1 v60 v98 v102 0) (.inr (.inr s)))) (by kernel_rfl) (fun d x t s he=>⟨ltX he,gU<|⟨zha Ta.i he,cF qog fun v124=>bR rfl<|sE (fun _=>rfl)<|cF qqb fun v127=>bR rfl<|⟨rfl,sA<|sA<|gU<|aA<|sA<|rfl⟩⟩⟩) (ho2 (fun _=>rfl) fun _=>rfl) (fun s=>⟨ltE _,rfl⟩) s)
def zv3 (v1:Th) (k:Int) (s:List Tk):St:=⟨sv 19 [(1,.ref (.box 0) 0 []),(3,.own 2 (s.map Tk.i)),(9,.imm 17 (v1.fi.map Tc.i)),(10,.I (v1.fi.length:Int)),(11,.I k)],[[.I v1.far,.I v1.fj.fad,.I v1.fj.fac,.imm 7 (v1.fj.ft.map Td.i),.I v1.fh.faa,.imm 13 (v1.fh.fg.map Tb.i),.imm 17 (v1.fi.map Tc.i),.I v1.fap,.I v1.fas,.I v1.faq,.I v1.fat]]⟩
def znw (v1:Th):(List Tk×Int×Tc)->Ex×St:=fun p=>(.ret,⟨sv 19 [(1,.ref (.box 0) 0 []),(2,.bool false),(3,.own 2 (p.1.map Tk.i)),(4,.I p.2.1),(5,.ref (.box 1) 0 []),(9,.imm 17 (v1.fi.map Tc.i)),(10,.I (v1.fi.length:Int)),(11,.I p.2.1),(12,.bool true),(13,.bool true)],[[.I v1.far,.I v1.fj.fad,.I v1.fj.fac,.imm 7 (v1.fj.ft.map Td.i),.I v1.fh.faa,.imm 13 (v1.fh.fg.map Tb.i),.imm 17 (v1.fi.map Tc.i),.I v1.fap,.I v1.fas,.I v1.faq,.I v1.fat],[.imm 9 (p.2.2.fu.map Ta.i),.bool p.2.2.fah,.I p.2.2.fd.fk,.I p.2.2.fd.fr,.I p.2.2.fd.fo,.I p.2.2.fd.fa.fe,.I p.2.2.fd.fa.ff,.I p.2.2.fd.fa.fN,.imm 1 (p.2.2.fd.fa.fc.map (V.int .i64)),.imm 1 (p.2.2.fd.fa.fb.map V.bool),.I p.2.2.fd.fa.fp,.I p.2.2.fak,.I p.2.2.fai,.I p.2.2.faj,.I p.2.2.faa,.I p.2.2.fad,.I p.2.2.fac]]⟩)
def zq3 (v1:Th):(List Tk×Int×List Ta×Int×Int×Tc×Ta×Int×Int)->Ex×St:=fun p=>(.ret,⟨sv 19 [(1,.ref (.box 0) 0 []),(2,.bool false),(3,.own 2 (p.1.map Tk.i)),(4,.I p.2.1),(6,.ref (.box 2) 0 []),(7,.ref (.box 3) 0 []),(9,.imm 17 (v1.fi.map Tc.i)),(10,.I (v1.fi.length:Int)),(11,.I p.2.1),(14,.own 9 (p.2.2.1.map Ta.i)),(15,.I p.2.2.2.1),(16,.I p.2.2.2.2.1),(17,.bool true),(18,.bool true)],[[.I v1.far,.I v1.fj.fad,.I v1.fj.fac,.imm 7 (v1.fj.ft.map Td.i),.I v1.fh.faa,.imm 13 (v1.fh.fg.map Tb.i),.imm 17 (v1.fi.map Tc.i),.I v1.fap,.I v1.fas,.I v1.faq,.I v1.fat],[.imm 9 (p.2.2.2.2.2.1.fu.map Ta.i),.bool p.2.2.2.2.2.1.fah,.I p.2.2.2.2.2.1.fd.fk,.I p.2.2.2.2.2.1.fd.fr,.I p.2.2.2.2.2.1.fd.fo,.I p.2.2.2.2.2.1.fd.fa.fe,.I p.2.2.2.2.2.1.fd.fa.ff,.I p.2.2.2.2.2.1.fd.fa.fN,.imm 1 (p.2.2.2.2.2.1.fd.fa.fc.map (V.int .i64)),.imm 1 (p.2.2.2.2.2.1.fd.fa.fb.map V.bool),.I p.2.2.2.2.2.1.fd.fa.fp,.I p.2.2.2.2.2.1.fak,.I p.2.2.2.2.2.1.fai,.I p.2.2.2.2.2.1.faj,.I p.2.2.2.2.2.1.faa,.I p.2.2.2.2.2.1.fad,.I p.2.2.2.2.2.1.fac],[.I p.2.2.2.2.2.2.1.fk,.I p.2.2.2.2.2.2.1.fr,.I p.2.2.2.2.2.2.1.fo,.I p.2.2.2.2.2.2.1.fa.fe,.I p.2.2.2.2.2.2.1.fa.ff,.I p.2.2.2.2.2.2.1.fa.fN,.imm 1 (p.2.2.2.2.2.2.1.fa.fc.map (V.int .i64)),.imm 1 (p.2.2.2.2.2.2.1.fa.fb.map V.bool),.I p.2.2.2.2.2.2.1.fa.fp],[.I p.2.2.2.2.2.2.2.1,.I p.2.2.2.2.2.2.2.2]]⟩)
def zm6 (v1:Th):(List Tk)->Ex×St:=fun p=>((.exit 0),⟨sv 19 [(1,.ref (.box 0) 0 []),(3,.own 2 (p.map Tk.i)),(9,.imm 17 (v1.fi.map Tc.i)),(10,.I (v1.fi.length:Int)),(11,.I (v1.fi.length:Int)),(12,.bool false)],[[.I v1.far,.I v1.fj.fad,.I v1.fj.fac,.imm 7 (v1.fj.ft.map Td.i),.I v1.fh.faa,.imm 13 (v1.fh.fg.map Tb.i),.imm 17 (v1.fi.map Tc.i),.I v1.fap,.I v1.fas,.I v1.faq,.I v1.fat]]⟩)
def zqa (v1:Th) (k:Int):=zb9 (zv3 v1 k) (Sum.elim (znw v1) (Sum.elim (zq3 v1) (zm6 v1)))
def zy8 (v1:Th) (k:Int) (x:Tc) (s:List Tk):Option ((List Tk)⊕((List Tk×Int×Tc)⊕(List Tk×Int×List Ta×Int×Int×Tc×Ta×Int×Int)⊕(List Tk))):=(yy7 x).bind fun v99=>(bif !v99 then(some (.inr (.inl (s,k,x)))) else((ywx x).bind fun v102=>((zkp v1 k x v102 s).bind (zbw (fun (v130:List Tk×Int×Ta×Int×Int)=>(some (.inr (.inr (.inl (v130.1,k,v102,(v102.length:Int),v130.2.1,x,v130.2.2.1,v130.2.2.2.1,v130.2.2.2.2)))))) (fun (v131:List Tk)=>(some (.inl v131)))))))
def yd1 (v1:Th) (s:List Tk):Option ((List Tk×Int×Tc)⊕(List Tk×Int×List Ta×Int×Int×Tc×Ta×Int×Int)⊕(List Tk)):=some ((.inr (.inr s)))
def zhj (v1:Th) (s:List Tk):Option ((List Tk×Int×Tc)⊕(List Tk×Int×List Ta×Int×Int×Tc×Ta×Int×Int)⊕(List Tk)):=if v1.fi.length<=9223372036854775806 then za5 (zy8 v1) (yd1 v1) v1.fi 0 s else none
def ydg (v1:Th) (s:List Tk):Lc3:=⟨19,yn0,1,[0,2,4,5,6,7,8,12,13,14,15,16,17,18],some (zv3 v1 0 s),List Tk×Int×Tc,List Tk×Int×List Ta×Int×Int×Tc×Ta×Int×Int,List Tk,zhj v1 s,znw v1,zq3 v1,zm6 v1⟩
theorem yq3 {v1:Th} {s:List Tk}:(ydg v1 s).ok tab:=yv9 (list_oky (J:=zv3 v1) (o:=(Sum.elim (znw v1) (Sum.elim (zq3 v1) (zm6 v1)))) v1.fi (B:=fun k x s=>(.kb (decide (k<(v1.fi.length:Int))) true<|.kx Tc.i v1.fi k x<|.callF (qfk x) fun v99=>.br (!v99) (.lfA (zqa v1 (w1 k)) (.inr (.inl (s,k,x))))<|.call (qkh x) fun(v102:List Ta)=>.lenB Ta.i v102<|.lp2 (yd4 v1 k x v102 s) (fun (v130:List Tk×Int×Ta×Int×Int)=>.lfA (zqa v1 (w1 k)) (.inr (.inr (.inl (v130.1,k,v102,(v102.length:Int),v130.2.1,x,v130.2.2.1,v130.2.2.2.1,v130.2.2.2.2))))) (fun (v131:List Tk)=>.lfA (zqa v1 (w1 k)) (.inl v131)))) (E:=fun s=>(.kb (decide ((v1.fi.length:Int)<(v1.fi.length:Int))) false<|.lfA (zqa v1 0) (.inr (.inr (.inr s))))) (by kernel_rfl) (fun d x t s he=>⟨ltX he,kX he<|cF qr4 fun v99=>bR rfl<|cE qwt fun v102=>lB<|lQ yqn (fun v130=>rfl) (fun v131=>rfl)⟩) (ho2 (fun _=>rfl) (ho2 (fun _=>rfl) fun _=>rfl)) (fun s=>⟨ltE _,rfl⟩) s)
def yx6 (v1:Th):Option Bool:=(yv2 v1.far).bind fun v2=>(bif !v2 then(some false) else((yx9 v1.fj).bind fun v5=>(bif !v5 then(some false) else((yux v1.fh).bind fun v8=>(bif !v8 then(some false) else(bif decide ((v1.fi.length:Int)≠6) then(some false) else((yjy v1.fap).bind fun v12=>(bif !v12 then(some false) else((yjy v1.fas).bind fun v15=>(bif !v15 then(some false) else((yjy v1.faq).bind fun v18=>(bif !v18 then(some false) else((yjy v1.fat).bind fun v21=>(bif !v21 then(some false) else((zhj v1 ([])).bind (qva (fun (v132:List Tk×Int×Tc)=>(some false)) (fun (v133:List Tk×Int×List Ta×Int×Int×Tc×Ta×Int×Int)=>(some false)) (fun (v134:List Tk)=>((yyh v1.fh).bind fun v135=>(some (decide ((v134.length:Int)=v135)))))))))))))))))))))
def qdk (v1:Th):Ctr:=⟨68,[v1.i],[],Bool,yx6 v1,rB⟩
theorem qxp {v1:Th}:(qdk v1).okF tab:=okF_of rfl rfl (.callF (qak v1.far) fun v2=>.br (!v2) (.lfA rB false)<|.callF (qhv v1.fj) fun v5=>.br (!v5) (.lfA rB false)<|.callF (qav v1.fh) fun v8=>.br (!v8) (.lfA rB false)<|.lenA Tc.i v1.fi<|.br (decide ((v1.fi.length:Int)≠6)) (.lfA rB false)<|.callF (yka v1.fap) fun v12=>.br (!v12) (.lfA rB false)<|.callF (yka v1.fas) fun v15=>.br (!v15) (.lfA rB false)<|.callF (yka v1.faq) fun v18=>.br (!v18) (.lfA rB false)<|.callF (yka v1.fat) fun v21=>.br (!v21) (.lfA rB false)<|.sk<|.seg [] 0 0 []<|.lenA Tc.i v1.fi<|.lp3 (ydg v1 ([])) (fun (v132:List Tk×Int×Tc)=>.lfA rB false) (fun (v133:List Tk×Int×List Ta×Int×Int×Tc×Ta×Int×Int)=>.lfA rB false) (fun (v134:List Tk)=>.lenB Tk.i v134<|.callF (qij v1.fh) fun(v135:Int)=>.lfA rB (decide ((v134.length:Int)=v135)))) (by kernel_rfl) (cF qhb fun v2=>bR rfl<|cF qx8 fun v5=>bR rfl<|cF qlq fun v8=>bR rfl<|lA<|bR rfl<|cF yn2 fun v12=>bR rfl<|cF yn2 fun v15=>bR rfl<|cF yn2 fun v18=>bR rfl<|cF yn2 fun v21=>bR rfl<|⟨zb5 [],lA<|lR yq3 (fun v132=>rfl) (fun v133=>rfl) (fun v134=>lB<|cF qv9 fun v135=>rfl)⟩)
def yu3:(Th×Bool)->V×List (List V):=fun r=>(.tup [r.1.o,.bool r.2],[])
def ywh (v1:Th) (v2:List Td):Option (Th×Bool):=(yxy v1).bind fun v3=>((yx6 v1).bind fun v5=>(bif !v5 then(some (v3,false)) else((ywb v2).bind fun v8=>(bif !v8 then(some (v3,false)) else((if v2.length * 56<=70368744177664 then some v2 else none).bind fun v11=>(some (({ v3 with fj:=({ v3.fj with ft:=v11 }:Tl) }:Th),true)))))))
def qca (v1:Th) (v2:List Td):Ctr:=⟨43,[v1.i,.imm 7 (v2.map Td.i)],[],Th×Bool,ywh v1 v2,yu3⟩
theorem qw6 (r:Th×Bool):(yu3 r).1.fresh=true:=by simp only [Th.o,yu3,V.fresh,V.freshL,za6 (f:=Td.i) (fun _=>rfl),za6 (f:=Tb.o) Tb.o_f,za6 (f:=Tc.o) Tc.o_f,Bool.and_self,Bool.true_and]
theorem qm4 {v1:Th} {v2:List Td}:(qca v1 v2).okF tab:=okF_of rfl rfl (.callF (qf5 v1) fun(v3:Th)=>.segA Td.i v3.fj.ft<|.segA Tb.o v3.fh.fg<|.segA Tc.o v3.fi<|.callF (qdk v1) fun v5=>.br (!v5) (.segA Td.i v3.fj.ft<|.segA Tb.o v3.fh.fg<|.segA Tc.o v3.fi<|.segA Td.i v3.fj.ft<|.segA Tb.o v3.fh.fg<|.segA Tc.o v3.fi<|.lfA yu3 (v3,false))<|.callF (qb4 v2) fun v8=>.br (!v8) (.segA Td.i v3.fj.ft<|.segA Tb.o v3.fh.fg<|.segA Tc.o v3.fi<|.segA Td.i v3.fj.ft<|.segA Tb.o v3.fh.fg<|.segA Tc.o v3.fi<|.lfA yu3 (v3,false))<|.callF (qci v2) fun(v11:List Td)=>.segA Td.i v11<|.segA Td.i v11<|.segA Tb.o v3.fh.fg<|.segA Tc.o v3.fi<|.segA Td.i v11<|.segA Tb.o v3.fh.fg<|.segA Tc.o v3.fi<|.lfA yu3 (({ v3 with fj:=({ v3.fj with ft:=v11 }:Tl) }:Th),true)) (by kernel_rfl) (cF qtc fun v3=>sA<|sA<|sA<|cF qxp fun v5=>bR (sA<|sA<|sA<|sA<|sA<|sA<|rfl)<|cF qgz fun v8=>bR (sA<|sA<|sA<|sA<|sA<|sA<|rfl)<|cF qhm fun v11=>sA<|sA<|sA<|sA<|sA<|sA<|sA<|rfl) fun r=>⟨rfl,qw6 r⟩
def yx2 (v1:Td) (v2:Td):Option Bool:=bif decide (v1.fo≠v2.fo) then(some false) else(bif decide (v1.fau≠v2.fau) then(some false) else(bif decide (v1.fag≠v2.fag) then(some false) else(bif decide (v1.fal≠v2.fal) then(some false) else(bif decide (v1.faf≠v2.faf) then(some false) else(bif decide (v1.fav≠v2.fav) then(some false) else(bif decide (v1.fam≠v2.fam) then(some false) else(some true)))))))
def qfl (v1:Td) (v2:Td):Ctr:=⟨109,[v1.i,v2.i],[],Bool,yx2 v1 v2,rB⟩
theorem qse {v1:Td} {v2:Td}:(qfl v1 v2).okF tab:=okF_of rfl rfl (.br (decide (v1.fo≠v2.fo)) (.lfA rB false)<|.br (decide (v1.fau≠v2.fau)) (.lfA rB false)<|.br (decide (v1.fag≠v2.fag)) (.lfA rB false)<|.br (decide (v1.fal≠v2.fal)) (.lfA rB false)<|.br (decide (v1.faf≠v2.faf)) (.lfA rB false)<|.br (decide (v1.fav≠v2.fav)) (.lfA rB false)<|.br (decide (v1.fam≠v2.fam)) (.lfA rB false)<|.lfA rB true) (by kernel_rfl) (bR rfl<|bR rfl<|bR rfl<|bR rfl<|bR rfl<|bR rfl<|bR rfl<|rfl)
def zuy (v1:List Td) (v2:List Td) (k:Int) (s:Unit):St:=⟨sv 7 [(0,.imm 7 (v1.map Td.i)),(1,.imm 7 (v2.map Td.i)),(3,.I k)],[]⟩
def znc (v1:List Td) (v2:List Td):Int->Ex×St:=fun p=>(.ret,⟨sv 7 [(0,.imm 7 (v1.map Td.i)),(1,.imm 7 (v2.map Td.i)),(2,.bool false),(3,.I p),(5,.bool true),(6,.bool true)],[]⟩)
def zms (v1:List Td) (v2:List Td):Unit->Ex×St:=fun p=>((.exit 0),⟨sv 7 [(0,.imm 7 (v1.map Td.i)),(1,.imm 7 (v2.map Td.i)),(3,.I (v1.length:Int)),(5,.bool false)],[]⟩)
def zul (v1:List Td) (v2:List Td) (k:Int):=zb9 (zuy v1 v2 k) (Sum.elim (znc v1 v2) (zms v1 v2))
def ycg (v1:List Td) (v2:List Td) (k:Int) (x:Td) (s:Unit):Option ((Unit)⊕(Int⊕Unit)):=((v2)[k.toNat]?).bind fun v22=>((yx2 x v22).bind fun v24=>(bif !v24 then(some (.inr (.inl k))) else(some (.inl ()))))
def ybz (v1:List Td) (v2:List Td) (s:Unit):Option (Int⊕Unit):=some ((.inr ()))
def zyx (v1:List Td) (v2:List Td) (s:Unit):Option (Int⊕Unit):=if v1.length<=9223372036854775806 then za5 (ycg v1 v2) (ybz v1 v2) v1 0 s else none
def yh4 (v1:List Td) (v2:List Td) (s:Unit):Lc2:=⟨7,yn4,0,[2,4,5,6],some (zuy v1 v2 0 s),Int,Unit,zyx v1 v2 s,znc v1 v2,zms v1 v2⟩
theorem yp8 {v1:List Td} {v2:List Td} {s:Unit}:(yh4 v1 v2 s).ok tab:=zap (list_oky (J:=zuy v1 v2) (o:=(Sum.elim (znc v1 v2) (zms v1 v2))) v1 (B:=fun k x s=>(.hT Td.i v1 k<|.kx Td.i v1 k x<|.ob (0<=k)<|.lookA Td.i v2 (k.toNat) fun v22=>.callF (qfl x v22) fun v24=>.br (!v24) (.lfA (zul v1 v2 (w1 k)) (.inr (.inl k)))<|.lfA (zul v1 v2 (w1 k)) (.inl ()))) (E:=fun s=>(.hE Td.i v1<|.lfA (zul v1 v2 0) (.inr (.inr ())))) (by kernel_rfl) (fun d x t s he=>hD he<|kX he<|⟨Int.natCast_nonneg _,kA fun v22=>cF qse fun v24=>bR rfl<|rfl⟩) (ho2 (fun _=>rfl) fun _=>rfl) (fun s=>hZ rfl) s)
def yur (v1:List Td) (v2:List Td):Option Bool:=bif decide ((v1.length:Int)≠(v2.length:Int)) then(some false) else((zyx v1 v2 ()).bind (zbw (fun (v27:Int)=>(some false)) (fun (v28:Unit)=>(some true))))
def qbe (v1:List Td) (v2:List Td):Ctr:=⟨44,[.imm 7 (v1.map Td.i),.imm 7 (v2.map Td.i)],[],Bool,yur v1 v2,rB⟩
theorem qht {v1:List Td} {v2:List Td}:(qbe v1 v2).okF tab:=okF_of rfl rfl (.lenA Td.i v1<|.lenA Td.i v2<|.br (decide ((v1.length:Int)≠(v2.length:Int))) (.lfA rB false)<|.lp2 (yh4 v1 v2 ()) (fun (v27:Int)=>.lfA rB false) (fun (v28:Unit)=>.lfA rB true)) (by kernel_rfl) (lA<|lA<|bR rfl<|lQ yp8 (fun v27=>rfl) (fun v28=>rfl))
def yxa (v1:Tl) (v2:Tl):Option Bool:=bif decide (v1.fad≠v2.fad) then(some false) else(bif decide (v1.fac≠v2.fac) then(some false) else((yur v1.ft v2.ft).bind fun v5=>(bif !v5 then(some false) else(some true))))
def qhy (v1:Tl) (v2:Tl):Ctr:=⟨35,[v1.i,v2.i],[],Bool,yxa v1 v2,rB⟩
theorem qpi {v1:Tl} {v2:Tl}:(qhy v1 v2).okF tab:=okF_of rfl rfl (.br (decide (v1.fad≠v2.fad)) (.lfA rB false)<|.br (decide (v1.fac≠v2.fac)) (.lfA rB false)<|.callF (qbe v1.ft v2.ft) fun v5=>.br (!v5) (.lfA rB false)<|.lfA rB true) (by kernel_rfl) (bR rfl<|bR rfl<|cF qht fun v5=>bR rfl<|rfl)
def zuv (v1:List Int) (v2:List Int) (k:Int) (s:Unit):St:=⟨sv 7 [(0,.imm 1 (v1.map (V.int .i64))),(1,.imm 1 (v2.map (V.int .i64))),(3,.I k)],[]⟩
def zpp (v1:List Int) (v2:List Int):Int->Ex×St:=fun p=>(.ret,⟨sv 7 [(0,.imm 1 (v1.map (V.int .i64))),(1,.imm 1 (v2.map (V.int .i64))),(2,.bool false),(3,.I p),(5,.bool true),(6,.bool true)],[]⟩)
def zn7 (v1:List Int) (v2:List Int):Unit->Ex×St:=fun p=>((.exit 0),⟨sv 7 [(0,.imm 1 (v1.map (V.int .i64))),(1,.imm 1 (v2.map (V.int .i64))),(3,.I (v1.length:Int)),(5,.bool false)],[]⟩)
def zsx (v1:List Int) (v2:List Int) (k:Int):=zb9 (zuv v1 v2 k) (Sum.elim (zpp v1 v2) (zn7 v1 v2))
def ydb (v1:List Int) (v2:List Int) (k:Int) (x:Int) (s:Unit):Option ((Unit)⊕(Int⊕Unit)):=((v2)[k.toNat]?).bind fun v18=>(bif decide (x≠v18) then(some (.inr (.inl k))) else(some (.inl ())))
def yfd (v1:List Int) (v2:List Int) (s:Unit):Option (Int⊕Unit):=some ((.inr ()))
def zvg (v1:List Int) (v2:List Int) (s:Unit):Option (Int⊕Unit):=if v1.length<=9223372036854775806 then za5 (ydb v1 v2) (yfd v1 v2) v1 0 s else none
def yhd (v1:List Int) (v2:List Int) (s:Unit):Lc2:=⟨7,yn1,0,[2,4,5,6],some (zuv v1 v2 0 s),Int,Unit,zvg v1 v2 s,zpp v1 v2,zn7 v1 v2⟩
theorem ypa {v1:List Int} {v2:List Int} {s:Unit}:(yhd v1 v2 s).ok tab:=zap (list_oky (J:=zuv v1 v2) (o:=(Sum.elim (zpp v1 v2) (zn7 v1 v2))) v1 (B:=fun k x s=>(.hT (V.int .i64) v1 k<|.kx (V.int .i64) v1 k x<|.ob (0<=k)<|.lookA (V.int .i64) v2 (k.toNat) fun v18=>.br (decide (x≠v18)) (.lfA (zsx v1 v2 (w1 k)) (.inr (.inl k)))<|.lfA (zsx v1 v2 (w1 k)) (.inl ()))) (E:=fun s=>(.hE (V.int .i64) v1<|.lfA (zsx v1 v2 0) (.inr (.inr ())))) (by kernel_rfl) (fun d x t s he=>hD he<|kX he<|⟨Int.natCast_nonneg _,kA fun v18=>bR rfl<|rfl⟩) (ho2 (fun _=>rfl) fun _=>rfl) (fun s=>hZ rfl) s)
def ywj (v1:List Int) (v2:List Int):Option Bool:=bif decide ((v1.length:Int)≠(v2.length:Int)) then(some false) else((zvg v1 v2 ()).bind (zbw (fun (v21:Int)=>(some false)) (fun (v22:Unit)=>(some true))))
def qcc (v1:List Int) (v2:List Int):Ctr:=⟨20,[.imm 1 (v1.map (V.int .i64)),.imm 1 (v2.map (V.int .i64))],[],Bool,ywj v1 v2,rB⟩
theorem qdm {v1:List Int} {v2:List Int}:(qcc v1 v2).okF tab:=okF_of rfl rfl (.lenA (V.int .i64) v1<|.lenA (V.int .i64) v2<|.br (decide ((v1.length:Int)≠(v2.length:Int))) (.lfA rB false)<|.lp2 (yhd v1 v2 ()) (fun (v21:Int)=>.lfA rB false) (fun (v22:Unit)=>.lfA rB true)) (by kernel_rfl) (lA<|lA<|bR rfl<|lQ ypa (fun v21=>rfl) (fun v22=>rfl))
def zvw (v1:List Bool) (v2:List Bool) (k:Int) (s:Unit):St:=⟨sv 7 [(0,.imm 1 (v1.map V.bool)),(1,.imm 1 (v2.map V.bool)),(3,.I k)],[]⟩
def zok (v1:List Bool) (v2:List Bool):Int->Ex×St:=fun p=>(.ret,⟨sv 7 [(0,.imm 1 (v1.map V.bool)),(1,.imm 1 (v2.map V.bool)),(2,.bool false),(3,.I p),(5,.bool true),(6,.bool true)],[]⟩)
def zmb (v1:List Bool) (v2:List Bool):Unit->Ex×St:=fun p=>((.exit 0),⟨sv 7 [(0,.imm 1 (v1.map V.bool)),(1,.imm 1 (v2.map V.bool)),(3,.I (v1.length:Int)),(5,.bool false)],[]⟩)
def zy5 (v1:List Bool) (v2:List Bool) (k:Int):=zb9 (zvw v1 v2 k) (Sum.elim (zok v1 v2) (zmb v1 v2))
def yc5 (v1:List Bool) (v2:List Bool) (k:Int) (x:Bool) (s:Unit):Option ((Unit)⊕(Int⊕Unit)):=((v2)[k.toNat]?).bind fun v18=>(bif true ^^ (x == v18) then(some (.inr (.inl k))) else(some (.inl ())))
def yhn (v1:List Bool) (v2:List Bool) (s:Unit):Option (Int⊕Unit):=some ((.inr ()))
def zw0 (v1:List Bool) (v2:List Bool) (s:Unit):Option (Int⊕Unit):=if v1.length<=9223372036854775806 then za5 (yc5 v1 v2) (yhn v1 v2) v1 0 s else none
def yc9 (v1:List Bool) (v2:List Bool) (s:Unit):Lc2:=⟨7,yoc,0,[2,4,5,6],some (zvw v1 v2 0 s),Int,Unit,zw0 v1 v2 s,zok v1 v2,zmb v1 v2⟩
theorem ytc {v1:List Bool} {v2:List Bool} {s:Unit}:(yc9 v1 v2 s).ok tab:=zap (list_oky (J:=zvw v1 v2) (o:=(Sum.elim (zok v1 v2) (zmb v1 v2))) v1 (B:=fun k x s=>(.hT V.bool v1 k<|.kx V.bool v1 k x<|.ob (0<=k)<|.lookA V.bool v2 (k.toNat) fun v18=>.br (true ^^ (x == v18)) (.lfA (zy5 v1 v2 (w1 k)) (.inr (.inl k)))<|.lfA (zy5 v1 v2 (w1 k)) (.inl ()))) (E:=fun s=>(.hE V.bool v1<|.lfA (zy5 v1 v2 0) (.inr (.inr ())))) (by kernel_rfl) (fun d x t s he=>hD he<|kX he<|⟨Int.natCast_nonneg _,kA fun v18=>bR rfl<|rfl⟩) (ho2 (fun _=>rfl) fun _=>rfl) (fun s=>hZ rfl) s)
def yu1 (v1:List Bool) (v2:List Bool):Option Bool:=bif decide ((v1.length:Int)≠(v2.length:Int)) then(some false) else((zw0 v1 v2 ()).bind (zbw (fun (v21:Int)=>(some false)) (fun (v22:Unit)=>(some true))))
def yzo (v1:List Bool) (v2:List Bool):Ctr:=⟨124,[.imm 1 (v1.map V.bool),.imm 1 (v2.map V.bool)],[],Bool,yu1 v1 v2,rB⟩
theorem qbo {v1:List Bool} {v2:List Bool}:(yzo v1 v2).okF tab:=okF_of rfl rfl (.lenA V.bool v1<|.lenA V.bool v2<|.br (decide ((v1.length:Int)≠(v2.length:Int))) (.lfA rB false)<|.lp2 (yc9 v1 v2 ()) (fun (v21:Int)=>.lfA rB false) (fun (v22:Unit)=>.lfA rB true)) (by kernel_rfl) (lA<|lA<|bR rfl<|lQ ytc (fun v21=>rfl) (fun v22=>rfl))
def ytn (v1:Tg) (v2:Tg):Option Bool:=bif decide (v1.fe≠v2.fe) then(some false) else(bif decide (v1.ff≠v2.ff) then(some false) else(bif decide (v1.fN≠v2.fN) then(some false) else((ywj v1.fc v2.fc).bind fun v6=>(bif !v6 then(some false) else((yu1 v1.fb v2.fb).bind fun v9=>(bif !v9 then(some false) else(bif decide (v1.fp≠v2.fp) then(some false) else(some true))))))))
def yxd (v1:Tg) (v2:Tg):Ctr:=⟨53,[v1.i,v2.i],[],Bool,ytn v1 v2,rB⟩
theorem qax {v1:Tg} {v2:Tg}:(yxd v1 v2).okF tab:=okF_of rfl rfl (.br (decide (v1.fe≠v2.fe)) (.lfA rB false)<|.br (decide (v1.ff≠v2.ff)) (.lfA rB false)<|.br (decide (v1.fN≠v2.fN)) (.lfA rB false)<|.callF (qcc v1.fc v2.fc) fun v6=>.br (!v6) (.lfA rB false)<|.callF (yzo v1.fb v2.fb) fun v9=>.br (!v9) (.lfA rB false)<|.br (decide (v1.fp≠v2.fp)) (.lfA rB false)<|.lfA rB true) (by kernel_rfl) (bR rfl<|bR rfl<|bR rfl<|cF qdm fun v6=>bR rfl<|cF qbo fun v9=>bR rfl<|bR rfl<|rfl)
def yxr (v1:Tf) (v2:Tf):Option Bool:=bif decide (v1.faf≠v2.faf) then(some false) else(bif decide (v1.fo≠v2.fo) then(some false) else((ytn v1.fa v2.fa).bind fun v5=>(bif !v5 then(some false) else(some true))))
def qj6 (v1:Tf) (v2:Tf):Ctr:=⟨282,[v1.i,v2.i],[],Bool,yxr v1 v2,rB⟩
theorem qxe {v1:Tf} {v2:Tf}:(qj6 v1 v2).okF tab:=okF_of rfl rfl (.br (decide (v1.faf≠v2.faf)) (.lfA rB false)<|.br (decide (v1.fo≠v2.fo)) (.lfA rB false)<|.callF (yxd v1.fa v2.fa) fun v5=>.br (!v5) (.lfA rB false)<|.lfA rB true) (by kernel_rfl) (bR rfl<|bR rfl<|cF qax fun v5=>bR rfl<|rfl)
def zti (v1:List Tf) (v2:List Tf) (k:Int) (s:Unit):St:=⟨sv 7 [(0,.imm 8 (v1.map Tf.i)),(1,.imm 8 (v2.map Tf.i)),(3,.I k)],[]⟩
def zqr (v1:List Tf) (v2:List Tf):Int->Ex×St:=fun p=>(.ret,⟨sv 7 [(0,.imm 8 (v1.map Tf.i)),(1,.imm 8 (v2.map Tf.i)),(2,.bool false),(3,.I p),(5,.bool true),(6,.bool true)],[]⟩)
def zoh (v1:List Tf) (v2:List Tf):Unit->Ex×St:=fun p=>((.exit 0),⟨sv 7 [(0,.imm 8 (v1.map Tf.i)),(1,.imm 8 (v2.map Tf.i)),(3,.I (v1.length:Int)),(5,.bool false)],[]⟩)
def zwh (v1:List Tf) (v2:List Tf) (k:Int):=zb9 (zti v1 v2 k) (Sum.elim (zqr v1 v2) (zoh v1 v2))
def yf3 (v1:List Tf) (v2:List Tf) (k:Int) (x:Tf) (s:Unit):Option ((Unit)⊕(Int⊕Unit)):=((v2)[k.toNat]?).bind fun v22=>((yxr x v22).bind fun v24=>(bif !v24 then(some (.inr (.inl k))) else(some (.inl ()))))
def yga (v1:List Tf) (v2:List Tf) (s:Unit):Option (Int⊕Unit):=some ((.inr ()))
def zvo (v1:List Tf) (v2:List Tf) (s:Unit):Option (Int⊕Unit):=if v1.length<=9223372036854775806 then za5 (yf3 v1 v2) (yga v1 v2) v1 0 s else none
def ye3 (v1:List Tf) (v2:List Tf) (s:Unit):Lc2:=⟨7,yn9,0,[2,4,5,6],some (zti v1 v2 0 s),Int,Unit,zvo v1 v2 s,zqr v1 v2,zoh v1 v2⟩
theorem ypc {v1:List Tf} {v2:List Tf} {s:Unit}:(ye3 v1 v2 s).ok tab:=zap (list_oky (J:=zti v1 v2) (o:=(Sum.elim (zqr v1 v2) (zoh v1 v2))) v1 (B:=fun k x s=>(.hT Tf.i v1 k<|.kx Tf.i v1 k x<|.ob (0<=k)<|.lookA Tf.i v2 (k.toNat) fun v22=>.callF (qj6 x v22) fun v24=>.br (!v24) (.lfA (zwh v1 v2 (w1 k)) (.inr (.inl k)))<|.lfA (zwh v1 v2 (w1 k)) (.inl ()))) (E:=fun s=>(.hE Tf.i v1<|.lfA (zwh v1 v2 0) (.inr (.inr ())))) (by kernel_rfl) (fun d x t s he=>hD he<|kX he<|⟨Int.natCast_nonneg _,kA fun v22=>cF qxe fun v24=>bR rfl<|rfl⟩) (ho2 (fun _=>rfl) fun _=>rfl) (fun s=>hZ rfl) s)
def yz1 (v1:List Tf) (v2:List Tf):Option Bool:=bif decide ((v1.length:Int)≠(v2.length:Int)) then(some false) else((zvo v1 v2 ()).bind (zbw (fun (v27:Int)=>(some false)) (fun (v28:Unit)=>(some true))))
def qgk (v1:List Tf) (v2:List Tf):Ctr:=⟨214,[.imm 8 (v1.map Tf.i),.imm 8 (v2.map Tf.i)],[],Bool,yz1 v1 v2,rB⟩
theorem qvq {v1:List Tf} {v2:List Tf}:(qgk v1 v2).okF tab:=okF_of rfl rfl (.lenA Tf.i v1<|.lenA Tf.i v2<|.br (decide ((v1.length:Int)≠(v2.length:Int))) (.lfA rB false)<|.lp2 (ye3 v1 v2 ()) (fun (v27:Int)=>.lfA rB false) (fun (v28:Unit)=>.lfA rB true)) (by kernel_rfl) (lA<|lA<|bR rfl<|lQ ypc (fun v27=>rfl) (fun v28=>rfl))
def yy5 (v1:Te) (v2:Te):Option Bool:=bif decide (v1.fe≠v2.fe) then(some false) else(bif decide (v1.fae≠v2.fae) then(some false) else(bif decide (v1.ff≠v2.ff) then(some false) else(bif decide (v1.fN≠v2.fN) then(some false) else((ywj v1.fc v2.fc).bind fun v7=>(bif !v7 then(some false) else((yu1 v1.fb v2.fb).bind fun v10=>(bif !v10 then(some false) else(some true))))))))
def qhq (v1:Te) (v2:Te):Ctr:=⟨216,[v1.i,v2.i],[],Bool,yy5 v1 v2,rB⟩
theorem quu {v1:Te} {v2:Te}:(qhq v1 v2).okF tab:=okF_of rfl rfl (.br (decide (v1.fe≠v2.fe)) (.lfA rB false)<|.br (decide (v1.fae≠v2.fae)) (.lfA rB false)<|.br (decide (v1.ff≠v2.ff)) (.lfA rB false)<|.br (decide (v1.fN≠v2.fN)) (.lfA rB false)<|.callF (qcc v1.fc v2.fc) fun v7=>.br (!v7) (.lfA rB false)<|.callF (yzo v1.fb v2.fb) fun v10=>.br (!v10) (.lfA rB false)<|.lfA rB true) (by kernel_rfl) (bR rfl<|bR rfl<|bR rfl<|bR rfl<|cF qdm fun v7=>bR rfl<|cF qbo fun v10=>bR rfl<|rfl)
def zxi (v1:List Te) (v2:List Te) (k:Int) (s:Unit):St:=⟨sv 7 [(0,.imm 6 (v1.map Te.i)),(1,.imm 6 (v2.map Te.i)),(3,.I k)],[]⟩
def zni (v1:List Te) (v2:List Te):Int->Ex×St:=fun p=>(.ret,⟨sv 7 [(0,.imm 6 (v1.map Te.i)),(1,.imm 6 (v2.map Te.i)),(2,.bool false),(3,.I p),(5,.bool true),(6,.bool true)],[]⟩)
def zps (v1:List Te) (v2:List Te):Unit->Ex×St:=fun p=>((.exit 0),⟨sv 7 [(0,.imm 6 (v1.map Te.i)),(1,.imm 6 (v2.map Te.i)),(3,.I (v1.length:Int)),(5,.bool false)],[]⟩)
def ztn (v1:List Te) (v2:List Te) (k:Int):=zb9 (zxi v1 v2 k) (Sum.elim (zni v1 v2) (zps v1 v2))
def yce (v1:List Te) (v2:List Te) (k:Int) (x:Te) (s:Unit):Option ((Unit)⊕(Int⊕Unit)):=((v2)[k.toNat]?).bind fun v22=>((yy5 x v22).bind fun v24=>(bif !v24 then(some (.inr (.inl k))) else(some (.inl ()))))
def ygx (v1:List Te) (v2:List Te) (s:Unit):Option (Int⊕Unit):=some ((.inr ()))
def zwt (v1:List Te) (v2:List Te) (s:Unit):Option (Int⊕Unit):=if v1.length<=9223372036854775806 then za5 (yce v1 v2) (ygx v1 v2) v1 0 s else none
def ydi (v1:List Te) (v2:List Te) (s:Unit):Lc2:=⟨7,yn5,0,[2,4,5,6],some (zxi v1 v2 0 s),Int,Unit,zwt v1 v2 s,zni v1 v2,zps v1 v2⟩
theorem ysx {v1:List Te} {v2:List Te} {s:Unit}:(ydi v1 v2 s).ok tab:=zap (list_oky (J:=zxi v1 v2) (o:=(Sum.elim (zni v1 v2) (zps v1 v2))) v1 (B:=fun k x s=>(.hT Te.i v1 k<|.kx Te.i v1 k x<|.ob (0<=k)<|.lookA Te.i v2 (k.toNat) fun v22=>.callF (qhq x v22) fun v24=>.br (!v24) (.lfA (ztn v1 v2 (w1 k)) (.inr (.inl k)))<|.lfA (ztn v1 v2 (w1 k)) (.inl ()))) (E:=fun s=>(.hE Te.i v1<|.lfA (ztn v1 v2 0) (.inr (.inr ())))) (by kernel_rfl) (fun d x t s he=>hD he<|kX he<|⟨Int.natCast_nonneg _,kA fun v22=>cF quu fun v24=>bR rfl<|rfl⟩) (ho2 (fun _=>rfl) fun _=>rfl) (fun s=>hZ rfl) s)
def yxi (v1:List Te) (v2:List Te):Option Bool:=bif decide ((v1.length:Int)≠(v2.length:Int)) then(some false) else((zwt v1 v2 ()).bind (zbw (fun (v27:Int)=>(some false)) (fun (v28:Unit)=>(some true))))
def qcy (v1:List Te) (v2:List Te):Ctr:=⟨215,[.imm 6 (v1.map Te.i),.imm 6 (v2.map Te.i)],[],Bool,yxi v1 v2,rB⟩
theorem quw {v1:List Te} {v2:List Te}:(qcy v1 v2).okF tab:=okF_of rfl rfl (.lenA Te.i v1<|.lenA Te.i v2<|.br (decide ((v1.length:Int)≠(v2.length:Int))) (.lfA rB false)<|.lp2 (ydi v1 v2 ()) (fun (v27:Int)=>.lfA rB false) (fun (v28:Unit)=>.lfA rB true)) (by kernel_rfl) (lA<|lA<|bR rfl<|lQ ysx (fun v27=>rfl) (fun v28=>rfl))
def yxe (v1:Tb) (v2:Tb):Option Bool:=bif decide (v1.fk≠v2.fk) then(some false) else(bif decide (v1.fan≠v2.fan) then(some false) else(bif decide (v1.fao≠v2.fao) then(some false) else(bif decide (v1.fo≠v2.fo) then(some false) else((ytn v1.fa v2.fa).bind fun v7=>(bif !v7 then(some false) else((yz1 v1.fq v2.fq).bind fun v10=>(bif !v10 then(some false) else((yu1 v1.fw v2.fw).bind fun v13=>(bif !v13 then(some false) else((yxi v1.fab v2.fab).bind fun v16=>(bif !v16 then(some false) else(some true))))))))))))
def qle (v1:Tb) (v2:Tb):Ctr:=⟨242,[v1.i,v2.i],[],Bool,yxe v1 v2,rB⟩
theorem qrs {v1:Tb} {v2:Tb}:(qle v1 v2).okF tab:=okF_of rfl rfl (.br (decide (v1.fk≠v2.fk)) (.lfA rB false)<|.br (decide (v1.fan≠v2.fan)) (.lfA rB false)<|.br (decide (v1.fao≠v2.fao)) (.lfA rB false)<|.br (decide (v1.fo≠v2.fo)) (.lfA rB false)<|.callF (yxd v1.fa v2.fa) fun v7=>.br (!v7) (.lfA rB false)<|.callF (qgk v1.fq v2.fq) fun v10=>.br (!v10) (.lfA rB false)<|.callF (yzo v1.fw v2.fw) fun v13=>.br (!v13) (.lfA rB false)<|.callF (qcy v1.fab v2.fab) fun v16=>.br (!v16) (.lfA rB false)<|.lfA rB true) (by kernel_rfl) (bR rfl<|bR rfl<|bR rfl<|bR rfl<|cF qax fun v7=>bR rfl<|cF qvq fun v10=>bR rfl<|cF qbo fun v13=>bR rfl<|cF quw fun v16=>bR rfl<|rfl)
def zwr (v1:List Tb) (v2:List Tb) (k:Int) (s:Unit):St:=⟨sv 7 [(0,.imm 13 (v1.map Tb.i)),(1,.imm 13 (v2.map Tb.i)),(3,.I k)],[]⟩
def zqx (v1:List Tb) (v2:List Tb):Int->Ex×St:=fun p=>(.ret,⟨sv 7 [(0,.imm 13 (v1.map Tb.i)),(1,.imm 13 (v2.map Tb.i)),(2,.bool false),(3,.I p),(5,.bool true),(6,.bool true)],[]⟩)
def zn8 (v1:List Tb) (v2:List Tb):Unit->Ex×St:=fun p=>((.exit 0),⟨sv 7 [(0,.imm 13 (v1.map Tb.i)),(1,.imm 13 (v2.map Tb.i)),(3,.I (v1.length:Int)),(5,.bool false)],[]⟩)
def zxh (v1:List Tb) (v2:List Tb) (k:Int):=zb9 (zwr v1 v2 k) (Sum.elim (zqx v1 v2) (zn8 v1 v2))
def yen (v1:List Tb) (v2:List Tb) (k:Int) (x:Tb) (s:Unit):Option ((Unit)⊕(Int⊕Unit)):=((v2)[k.toNat]?).bind fun v22=>((yxe x v22).bind fun v24=>(bif !v24 then(some (.inr (.inl k))) else(some (.inl ()))))
def yh6 (v1:List Tb) (v2:List Tb) (s:Unit):Option (Int⊕Unit):=some ((.inr ()))
def zvm (v1:List Tb) (v2:List Tb) (s:Unit):Option (Int⊕Unit):=if v1.length<=9223372036854775806 then za5 (yen v1 v2) (yh6 v1 v2) v1 0 s else none
def yhc (v1:List Tb) (v2:List Tb) (s:Unit):Lc2:=⟨7,ymr,0,[2,4,5,6],some (zwr v1 v2 0 s),Int,Unit,zvm v1 v2 s,zqx v1 v2,zn8 v1 v2⟩
theorem ytf {v1:List Tb} {v2:List Tb} {s:Unit}:(yhc v1 v2 s).ok tab:=zap (list_oky (J:=zwr v1 v2) (o:=(Sum.elim (zqx v1 v2) (zn8 v1 v2))) v1 (B:=fun k x s=>(.hT Tb.i v1 k<|.kx Tb.i v1 k x<|.ob (0<=k)<|.lookA Tb.i v2 (k.toNat) fun v22=>.callF (qle x v22) fun v24=>.br (!v24) (.lfA (zxh v1 v2 (w1 k)) (.inr (.inl k)))<|.lfA (zxh v1 v2 (w1 k)) (.inl ()))) (E:=fun s=>(.hE Tb.i v1<|.lfA (zxh v1 v2 0) (.inr (.inr ())))) (by kernel_rfl) (fun d x t s he=>hD he<|kX he<|⟨Int.natCast_nonneg _,kA fun v22=>cF qrs fun v24=>bR rfl<|rfl⟩) (ho2 (fun _=>rfl) fun _=>rfl) (fun s=>hZ rfl) s)
def yxf (v1:List Tb) (v2:List Tb):Option Bool:=bif decide ((v1.length:Int)≠(v2.length:Int)) then(some false) else((zvm v1 v2 ()).bind (zbw (fun (v27:Int)=>(some false)) (fun (v28:Unit)=>(some true))))
def qe2 (v1:List Tb) (v2:List Tb):Ctr:=⟨150,[.imm 13 (v1.map Tb.i),.imm 13 (v2.map Tb.i)],[],Bool,yxf v1 v2,rB⟩
theorem qq8 {v1:List Tb} {v2:List Tb}:(qe2 v1 v2).okF tab:=okF_of rfl rfl (.lenA Tb.i v1<|.lenA Tb.i v2<|.br (decide ((v1.length:Int)≠(v2.length:Int))) (.lfA rB false)<|.lp2 (yhc v1 v2 ()) (fun (v27:Int)=>.lfA rB false) (fun (v28:Unit)=>.lfA rB true)) (by kernel_rfl) (lA<|lA<|bR rfl<|lQ ytf (fun v27=>rfl) (fun v28=>rfl))
def yz2 (v1:Ti) (v2:Ti):Option Bool:=bif decide (v1.faa≠v2.faa) then(some false) else((yxf v1.fg v2.fg).bind fun v4=>(bif !v4 then(some false) else(some true)))
def qh4 (v1:Ti) (v2:Ti):Ctr:=⟨70,[v1.i,v2.i],[],Bool,yz2 v1 v2,rB⟩
theorem qnp {v1:Ti} {v2:Ti}:(qh4 v1 v2).okF tab:=okF_of rfl rfl (.br (decide (v1.faa≠v2.faa)) (.lfA rB false)<|.callF (qe2 v1.fg v2.fg) fun v4=>.br (!v4) (.lfA rB false)<|.lfA rB true) (by kernel_rfl) (bR rfl<|cF qq8 fun v4=>bR rfl<|rfl)
def yuj (v1:Ta) (v2:Ta):Option Bool:=bif decide (v1.fk≠v2.fk) then(some false) else(bif decide (v1.fr≠v2.fr) then(some false) else(bif decide (v1.fo≠v2.fo) then(some false) else((ytn v1.fa v2.fa).bind fun v6=>(bif !v6 then(some false) else(some true)))))
def qc0 (v1:Ta) (v2:Ta):Ctr:=⟨244,[v1.i,v2.i],[],Bool,yuj v1 v2,rB⟩
theorem qd8 {v1:Ta} {v2:Ta}:(qc0 v1 v2).okF tab:=okF_of rfl rfl (.br (decide (v1.fk≠v2.fk)) (.lfA rB false)<|.br (decide (v1.fr≠v2.fr)) (.lfA rB false)<|.br (decide (v1.fo≠v2.fo)) (.lfA rB false)<|.callF (yxd v1.fa v2.fa) fun v6=>.br (!v6) (.lfA rB false)<|.lfA rB true) (by kernel_rfl) (bR rfl<|bR rfl<|bR rfl<|cF qax fun v6=>bR rfl<|rfl)
def zu5 (v1:List Ta) (v2:List Ta) (k:Int) (s:Unit):St:=⟨sv 7 [(0,.imm 9 (v1.map Ta.i)),(1,.imm 9 (v2.map Ta.i)),(3,.I k)],[]⟩
def zmq (v1:List Ta) (v2:List Ta):Int->Ex×St:=fun p=>(.ret,⟨sv 7 [(0,.imm 9 (v1.map Ta.i)),(1,.imm 9 (v2.map Ta.i)),(2,.bool false),(3,.I p),(5,.bool true),(6,.bool true)],[]⟩)
def znk (v1:List Ta) (v2:List Ta):Unit->Ex×St:=fun p=>((.exit 0),⟨sv 7 [(0,.imm 9 (v1.map Ta.i)),(1,.imm 9 (v2.map Ta.i)),(3,.I (v1.length:Int)),(5,.bool false)],[]⟩)
def zvt (v1:List Ta) (v2:List Ta) (k:Int):=zb9 (zu5 v1 v2 k) (Sum.elim (zmq v1 v2) (znk v1 v2))
def yh0 (v1:List Ta) (v2:List Ta) (k:Int) (x:Ta) (s:Unit):Option ((Unit)⊕(Int⊕Unit)):=((v2)[k.toNat]?).bind fun v22=>((yuj x v22).bind fun v24=>(bif !v24 then(some (.inr (.inl k))) else(some (.inl ()))))
def ycj (v1:List Ta) (v2:List Ta) (s:Unit):Option (Int⊕Unit):=some ((.inr ()))
def ztv (v1:List Ta) (v2:List Ta) (s:Unit):Option (Int⊕Unit):=if v1.length<=9223372036854775806 then za5 (yh0 v1 v2) (ycj v1 v2) v1 0 s else none
def yd9 (v1:List Ta) (v2:List Ta) (s:Unit):Lc2:=⟨7,yo2,0,[2,4,5,6],some (zu5 v1 v2 0 s),Int,Unit,ztv v1 v2 s,zmq v1 v2,znk v1 v2⟩
theorem yor {v1:List Ta} {v2:List Ta} {s:Unit}:(yd9 v1 v2 s).ok tab:=zap (list_oky (J:=zu5 v1 v2) (o:=(Sum.elim (zmq v1 v2) (znk v1 v2))) v1 (B:=fun k x s=>(.hT Ta.i v1 k<|.kx Ta.i v1 k x<|.ob (0<=k)<|.lookA Ta.i v2 (k.toNat) fun v22=>.callF (qc0 x v22) fun v24=>.br (!v24) (.lfA (zvt v1 v2 (w1 k)) (.inr (.inl k)))<|.lfA (zvt v1 v2 (w1 k)) (.inl ()))) (E:=fun s=>(.hE Ta.i v1<|.lfA (zvt v1 v2 0) (.inr (.inr ())))) (by kernel_rfl) (fun d x t s he=>hD he<|kX he<|⟨Int.natCast_nonneg _,kA fun v22=>cF qd8 fun v24=>bR rfl<|rfl⟩) (ho2 (fun _=>rfl) fun _=>rfl) (fun s=>hZ rfl) s)
def yxk (v1:List Ta) (v2:List Ta):Option Bool:=bif decide ((v1.length:Int)≠(v2.length:Int)) then(some false) else((ztv v1 v2 ()).bind (zbw (fun (v27:Int)=>(some false)) (fun (v28:Unit)=>(some true))))
def qi0 (v1:List Ta) (v2:List Ta):Ctr:=⟨243,[.imm 9 (v1.map Ta.i),.imm 9 (v2.map Ta.i)],[],Bool,yxk v1 v2,rB⟩
theorem qsw {v1:List Ta} {v2:List Ta}:(qi0 v1 v2).okF tab:=okF_of rfl rfl (.lenA Ta.i v1<|.lenA Ta.i v2<|.br (decide ((v1.length:Int)≠(v2.length:Int))) (.lfA rB false)<|.lp2 (yd9 v1 v2 ()) (fun (v27:Int)=>.lfA rB false) (fun (v28:Unit)=>.lfA rB true)) (by kernel_rfl) (lA<|lA<|bR rfl<|lQ yor (fun v27=>rfl) (fun v28=>rfl))
def yzx (v1:Tc) (v2:Tc):Option Bool:=(yxk v1.fu v2.fu).bind fun v3=>(bif !v3 then(some false) else(bif true ^^ (v1.fah == v2.fah) then(some false) else((yuj v1.fd v2.fd).bind fun v7=>(bif !v7 then(some false) else(bif decide (v1.fak≠v2.fak) then(some false) else(bif decide (v1.fai≠v2.fai) then(some false) else(bif decide (v1.faj≠v2.faj) then(some false) else(bif decide (v1.faa≠v2.faa) then(some false) else(bif decide (v1.fad≠v2.fad) then(some false) else(bif decide (v1.fac≠v2.fac) then(some false) else(some true)))))))))))
def qen (v1:Tc) (v2:Tc):Ctr:=⟨151,[v1.i,v2.i],[],Bool,yzx v1 v2,rB⟩
theorem qtk {v1:Tc} {v2:Tc}:(qen v1 v2).okF tab:=okF_of rfl rfl (.callF (qi0 v1.fu v2.fu) fun v3=>.br (!v3) (.lfA rB false)<|.br (true ^^ (v1.fah == v2.fah)) (.lfA rB false)<|.callF (qc0 v1.fd v2.fd) fun v7=>.br (!v7) (.lfA rB false)<|.br (decide (v1.fak≠v2.fak)) (.lfA rB false)<|.br (decide (v1.fai≠v2.fai)) (.lfA rB false)<|.br (decide (v1.faj≠v2.faj)) (.lfA rB false)<|.br (decide (v1.faa≠v2.faa)) (.lfA rB false)<|.br (decide (v1.fad≠v2.fad)) (.lfA rB false)<|.br (decide (v1.fac≠v2.fac)) (.lfA rB false)<|.lfA rB true) (by kernel_rfl) (cF qsw fun v3=>bR rfl<|bR rfl<|cF qd8 fun v7=>bR rfl<|bR rfl<|bR rfl<|bR rfl<|bR rfl<|bR rfl<|bR rfl<|rfl)
def zt8 (v1:List Tc) (v2:List Tc) (k:Int) (s:Unit):St:=⟨sv 7 [(0,.imm 17 (v1.map Tc.i)),(1,.imm 17 (v2.map Tc.i)),(3,.I k)],[]⟩
def zpb (v1:List Tc) (v2:List Tc):Int->Ex×St:=fun p=>(.ret,⟨sv 7 [(0,.imm 17 (v1.map Tc.i)),(1,.imm 17 (v2.map Tc.i)),(2,.bool false),(3,.I p),(5,.bool true),(6,.bool true)],[]⟩)
def zme (v1:List Tc) (v2:List Tc):Unit->Ex×St:=fun p=>((.exit 0),⟨sv 7 [(0,.imm 17 (v1.map Tc.i)),(1,.imm 17 (v2.map Tc.i)),(3,.I (v1.length:Int)),(5,.bool false)],[]⟩)
def zxe (v1:List Tc) (v2:List Tc) (k:Int):=zb9 (zt8 v1 v2 k) (Sum.elim (zpb v1 v2) (zme v1 v2))
def yfl (v1:List Tc) (v2:List Tc) (k:Int) (x:Tc) (s:Unit):Option ((Unit)⊕(Int⊕Unit)):=((v2)[k.toNat]?).bind fun v22=>((yzx x v22).bind fun v24=>(bif !v24 then(some (.inr (.inl k))) else(some (.inl ()))))
def yir (v1:List Tc) (v2:List Tc) (s:Unit):Option (Int⊕Unit):=some ((.inr ()))
def zwx (v1:List Tc) (v2:List Tc) (s:Unit):Option (Int⊕Unit):=if v1.length<=9223372036854775806 then za5 (yfl v1 v2) (yir v1 v2) v1 0 s else none
def yid (v1:List Tc) (v2:List Tc) (s:Unit):Lc2:=⟨7,yo3,0,[2,4,5,6],some (zt8 v1 v2 0 s),Int,Unit,zwx v1 v2 s,zpb v1 v2,zme v1 v2⟩
theorem yri {v1:List Tc} {v2:List Tc} {s:Unit}:(yid v1 v2 s).ok tab:=zap (list_oky (J:=zt8 v1 v2) (o:=(Sum.elim (zpb v1 v2) (zme v1 v2))) v1 (B:=fun k x s=>(.hT Tc.i v1 k<|.kx Tc.i v1 k x<|.ob (0<=k)<|.lookA Tc.i v2 (k.toNat) fun v22=>.callF (qen x v22) fun v24=>.br (!v24) (.lfA (zxe v1 v2 (w1 k)) (.inr (.inl k)))<|.lfA (zxe v1 v2 (w1 k)) (.inl ()))) (E:=fun s=>(.hE Tc.i v1<|.lfA (zxe v1 v2 0) (.inr (.inr ())))) (by kernel_rfl) (fun d x t s he=>hD he<|kX he<|⟨Int.natCast_nonneg _,kA fun v22=>cF qtk fun v24=>bR rfl<|rfl⟩) (ho2 (fun _=>rfl) fun _=>rfl) (fun s=>hZ rfl) s)
def ywp (v1:List Tc) (v2:List Tc):Option Bool:=bif decide ((v1.length:Int)≠(v2.length:Int)) then(some false) else((zwx v1 v2 ()).bind (zbw (fun (v27:Int)=>(some false)) (fun (v28:Unit)=>(some true))))
def qey (v1:List Tc) (v2:List Tc):Ctr:=⟨71,[.imm 17 (v1.map Tc.i),.imm 17 (v2.map Tc.i)],[],Bool,ywp v1 v2,rB⟩
theorem qtt {v1:List Tc} {v2:List Tc}:(qey v1 v2).okF tab:=okF_of rfl rfl (.lenA Tc.i v1<|.lenA Tc.i v2<|.br (decide ((v1.length:Int)≠(v2.length:Int))) (.lfA rB false)<|.lp2 (yid v1 v2 ()) (fun (v27:Int)=>.lfA rB false) (fun (v28:Unit)=>.lfA rB true)) (by kernel_rfl) (lA<|lA<|bR rfl<|lQ yri (fun v27=>rfl) (fun v28=>rfl))
def yrl (v1:Th) (v2:Th):Option Bool:=bif decide (v1.far≠v2.far) then(some false) else((yxa v1.fj v2.fj).bind fun v4=>(bif !v4 then(some false) else((yz2 v1.fh v2.fh).bind fun v7=>(bif !v7 then(some false) else((ywp v1.fi v2.fi).bind fun v10=>(bif !v10 then(some false) else(bif decide (v1.fap≠v2.fap) then(some false) else(bif decide (v1.fas≠v2.fas) then(some false) else(bif decide (v1.faq≠v2.faq) then(some false) else(bif decide (v1.fat≠v2.fat) then(some false) else(some true)))))))))))
def yvt (v1:Th) (v2:Th):Ctr:=⟨15,[v1.i,v2.i],[],Bool,yrl v1 v2,rB⟩
theorem yxm {v1:Th} {v2:Th}:(yvt v1 v2).okF tab:=okF_of rfl rfl (.br (decide (v1.far≠v2.far)) (.lfA rB false)<|.callF (qhy v1.fj v2.fj) fun v4=>.br (!v4) (.lfA rB false)<|.callF (qh4 v1.fh v2.fh) fun v7=>.br (!v7) (.lfA rB false)<|.callF (qey v1.fi v2.fi) fun v10=>.br (!v10) (.lfA rB false)<|.br (decide (v1.fap≠v2.fap)) (.lfA rB false)<|.br (decide (v1.fas≠v2.fas)) (.lfA rB false)<|.br (decide (v1.faq≠v2.faq)) (.lfA rB false)<|.br (decide (v1.fat≠v2.fat)) (.lfA rB false)<|.lfA rB true) (by kernel_rfl) (bR rfl<|cF qpi fun v4=>bR rfl<|cF qnp fun v7=>bR rfl<|cF qtt fun v10=>bR rfl<|bR rfl<|bR rfl<|bR rfl<|bR rfl<|rfl)
def zu3 (s:List Td×Int×Int):St:=⟨sv 6 [(0,.own 7 (s.1.map Td.i)),(1,.I s.2.1),(4,.I s.2.2)],[]⟩
def zq8:(List Td×Int×Int)->Ex×St:=fun p=>((.exit 0),⟨sv 6 [(0,.own 7 (p.1.map Td.i)),(1,.I p.2.1),(4,.I p.2.2),(5,.bool false)],[]⟩)
def yj3:=zb9 (zu3) (zq8)
def zr1 (s:List Td×Int×Int):Option ((List Td×Int×Int)⊕((List Td×Int×Int))):=bif decide (s.2.2<(s.1.length:Int)) then(if 0<=s.2.2/\(s.2.2:Int)<(((s.1.map Td.i).length - 0:Nat):Int) then(((s.1)[s.2.2.toNat]?).bind fun v51=>(let v53:=s.1.set (s.2.2.toNat) ({ v51 with fo:=s.2.1 }:Td);(if 0<=s.2.2/\(s.2.2:Int)<(((v53.map Td.i).length - 0:Nat):Int) then(((v53)[s.2.2.toNat]?).bind fun v54=>(let v56:=v53.set (s.2.2.toNat) ({ v54 with fau:=(w1 s.2.1) }:Td);(if 0<=s.2.2/\(s.2.2:Int)<(((v56.map Td.i).length - 0:Nat):Int) then(((v56)[s.2.2.toNat]?).bind fun v57=>(let v59:=v56.set (s.2.2.toNat) ({ v57 with fag:=(w1 (w1 s.2.1)) }:Td);(if 0<=s.2.2/\(s.2.2:Int)<(((v59.map Td.i).length - 0:Nat):Int) then(((v59)[s.2.2.toNat]?).bind fun v60=>(let v62:=v59.set (s.2.2.toNat) ({ v60 with fal:=(w1 (w1 (w1 s.2.1))) }:Td);(if 0<=s.2.2/\(s.2.2:Int)<(((v62.map Td.i).length - 0:Nat):Int) then(((v62)[s.2.2.toNat]?).bind fun v63=>(let v65:=v62.set (s.2.2.toNat) ({ v63 with faf:=(w1 (w1 (w1 (w1 s.2.1)))) }:Td);(if 0<=s.2.2/\(s.2.2:Int)<(((v65.map Td.i).length - 0:Nat):Int) then(((v65)[s.2.2.toNat]?).bind fun v66=>(let v68:=v65.set (s.2.2.toNat) ({ v66 with fav:=(w1 (w1 (w1 (w1 (w1 s.2.1))))) }:Td);(if 0<=s.2.2/\(s.2.2:Int)<(((v68.map Td.i).length - 0:Nat):Int) then(((v68)[s.2.2.toNat]?).bind fun v69=>(let v71:=v68.set (s.2.2.toNat) ({ v69 with fam:=(w1 (w1 (w1 (w1 (w1 (w1 s.2.1)))))) }:Td);(some (.inl (v71,(w1 (w1 (w1 (w1 (w1 (w1 (w1 s.2.1))))))),(w1 s.2.2)))))) else none))) else none))) else none))) else none))) else none))) else none))) else none) else(some (.inr (s.1,s.2.1,s.2.2)))
def zwg (s:List Td×Int×Int):Option ((List Td×Int×Int)):=zbf (zr1) BIG s
def yf4 (s:List Td×Int×Int):Lct:=⟨6,ymn,0,[2,3,5],some (zu3 s),List Td×Int×Int,zwg s,zq8⟩
theorem yp4 {s:List Td×Int×Int}:(yf4 s).ok tab:=zba (loop_oky (J:=zu3) (o:=(zq8)) (B:=fun(s:List Td×Int×Int)=>(.lenB Td.i s.1<|.br (decide (s.2.2<(s.1.length:Int))) (.gl Td.i s.1 s.2.2 fun v51=>.setN Td.i s.1 (s.2.2.toNat) ({ v51 with fo:=s.2.1 }:Td) fun v53=>.gl Td.i v53 s.2.2 fun v54=>.setN Td.i v53 (s.2.2.toNat) ({ v54 with fau:=(w1 s.2.1) }:Td) fun v56=>.gl Td.i v56 s.2.2 fun v57=>.setN Td.i v56 (s.2.2.toNat) ({ v57 with fag:=(w1 (w1 s.2.1)) }:Td) fun v59=>.gl Td.i v59 s.2.2 fun v60=>.setN Td.i v59 (s.2.2.toNat) ({ v60 with fal:=(w1 (w1 (w1 s.2.1))) }:Td) fun v62=>.gl Td.i v62 s.2.2 fun v63=>.setN Td.i v62 (s.2.2.toNat) ({ v63 with faf:=(w1 (w1 (w1 (w1 s.2.1)))) }:Td) fun v65=>.gl Td.i v65 s.2.2 fun v66=>.setN Td.i v65 (s.2.2.toNat) ({ v66 with fav:=(w1 (w1 (w1 (w1 (w1 s.2.1))))) }:Td) fun v68=>.gl Td.i v68 s.2.2 fun v69=>.setN Td.i v68 (s.2.2.toNat) ({ v69 with fam:=(w1 (w1 (w1 (w1 (w1 (w1 s.2.1)))))) }:Td) fun v71=>.lfA (yj3) (.inl (v71,(w1 (w1 (w1 (w1 (w1 (w1 (w1 s.2.1))))))),(w1 s.2.2))))<|.lfA (yj3) (.inr (s.1,s.2.1,s.2.2)))) (by kernel_rfl) (fun s=>lB<|bR (gL fun v51=>sN fun v53=>gL fun v54=>sN fun v56=>gL fun v57=>sN fun v59=>gL fun v60=>sN fun v62=>gL fun v63=>sN fun v65=>gL fun v66=>sN fun v68=>gL fun v69=>sN fun v71=>rfl)<|rfl) (fun _=>rfl) BIG s)
def qju:(Int×List Td)->V×List (List V):=fun r=>(.tup [.int .i64 r.1,.tup [.own 7 (r.2.map Td.i)]],[])
def yw6 (v1:List Td) (v2:Int):Option (Int×List Td):=(zwg (v1,v2,0)).bind fun v72=>(some (v72.2.1,v72.1))
def qaz (v1:List Td) (v2:Int):Ctr:=⟨46,[.own 7 (v1.map Td.i),.I v2],[[.gone]],Int×List Td,yw6 v1 v2,qju⟩
theorem qgq {v1:List Td} {v2:Int}:(qaz v1 v2).ok tab:=okL_of rfl rfl rfl (.lp (yf4 (v1,v2,0)) fun(v72:List Td×Int×Int)=>.segA Td.i v72.1<|.lfA qju (v72.2.1,v72.1):Tree (Int×List Td) _) (by kernel_rfl) (lP yp4 fun v72=>sA<|rfl)
def qh2:(Int×Tl)->V×List (List V):=fun r=>(.tup [.int .i64 r.1,.tup [r.2.o]],[])
def qbg (v1:Tl) (v2:Int):Option (Int×Tl):=(yw6 v1.ft v2).bind fun v3=>(if ((v1.ft.map Td.i).length)<=(v3.2.map Td.i).length then(some (v3.1,({ v1 with ft:=((v3.2.take ((v1.ft.map Td.i).length)).drop 0) }:Tl))) else none)
def qks (v1:Tl) (v2:Int):Ctr:=⟨37,[v1.o,.I v2],[[.gone]],Int×Tl,qbg v1 v2,qh2⟩
theorem qo2 {v1:Tl} {v2:Int}:(qks v1 v2).ok tab:=okL_of rfl rfl rfl (.segA Td.i v1.ft<|.ob ((v1.ft.map Td.i).length=List.length ((v1.ft.map Td.i)))<|.call (qaz v1.ft v2) fun(v3:Int×List Td)=>.segB Td.i v3.2 0 ((v1.ft.map Td.i).length)<|.lfA qh2 (v3.1,({ v1 with ft:=((v3.2.take ((v1.ft.map Td.i).length)).drop 0) }:Tl)):Tree (Int×Tl) _) (by kernel_rfl) (sA<|⟨rfl,cE qgq fun v3=>fun h4=>⟨zjn _ _ _ h4,rfl⟩⟩)
def zuh (s:List Int×Int×Int):St:=⟨sv 6 [(0,.own 1 (s.1.map (V.int .i64))),(1,.I s.2.1),(4,.I s.2.2)],[]⟩
def zof:(List Int×Int×Int)->Ex×St:=fun p=>((.exit 0),⟨sv 6 [(0,.own 1 (p.1.map (V.int .i64))),(1,.I p.2.1),(4,.I p.2.2),(5,.bool false)],[]⟩)
def yg1:=zb9 (zuh) (zof)
def ygg (s:List Int×Int×Int):Option ((List Int×Int×Int)⊕((List Int×Int×Int))):=bif decide (s.2.2<(s.1.length:Int)) then(if 0<=s.2.2/\(s.2.2:Int)<(((s.1.map (V.int .i64)).length - 0:Nat):Int) then(((s.1)[s.2.2.toNat]?).bind fun v15=>(let v17:=s.1.set (s.2.2.toNat) s.2.1;(some (.inl (v17,(w1 s.2.1),(w1 s.2.2)))))) else none) else(some (.inr (s.1,s.2.1,s.2.2)))
def zxs (s:List Int×Int×Int):Option ((List Int×Int×Int)):=zbf (ygg) BIG s
def yf1 (s:List Int×Int×Int):Lct:=⟨6,yo8,0,[2,3,5],some (zuh s),List Int×Int×Int,zxs s,zof⟩
theorem yt4 {s:List Int×Int×Int}:(yf1 s).ok tab:=zba (zzi (J:=zuh) (o:=(zof)) (B:=fun(s:List Int×Int×Int)=>(.lenB (V.int .i64) s.1<|.br (decide (s.2.2<(s.1.length:Int))) (.guard (0<=s.2.2/\(s.2.2:Int)<(((s.1.map (V.int .i64)).length - 0:Nat):Int)) inferInstance<|.lookB (V.int .i64) s.1 (s.2.2.toNat) fun v15=>.lkY (V.int .i64) s.1 (s.2.2.toNat) v15<|.lkY (V.int .i64) s.1 (s.2.2.toNat) v15<|.setN (V.int .i64) s.1 (s.2.2.toNat) s.2.1 fun v17=>.lfA (yg1) (.inl (v17,(w1 s.2.1),(w1 s.2.2))))<|.lfA (yg1) (.inr (s.1,s.2.1,s.2.2)):Tree ((List Int×Int×Int)⊕((List Int×Int×Int))) _)) (fun s=>by kernel_rfl) (fun s=>lB<|bR (gU<|⟨zpu _ _ _,fun v15 h16=>⟨zh8 _ h16,⟨zh8 _ h16,⟨zx7 _ _ _ _,fun v17 _=>rfl⟩⟩⟩⟩)<|rfl) (fun _=>rfl) (by kernel_rfl) BIG s)
def qld:(Int×List Int)->V×List (List V):=fun r=>(.tup [.int .i64 r.1,.tup [.own 1 (r.2.map (V.int .i64))]],[])
def ynu (v1:List Int) (v2:Int):Option (Int×List Int):=(zxs (v1,v2,0)).bind fun v18=>(some (v18.2.1,v18.1))
def yub (v1:List Int) (v2:Int):Ctr:=⟨23,[.own 1 (v1.map (V.int .i64)),.I v2],[[.gone]],Int×List Int,ynu v1 v2,qld⟩
theorem yv6 {v1:List Int} {v2:Int}:(yub v1 v2).ok tab:=okL_of rfl rfl rfl (.lp (yf1 (v1,v2,0)) fun(v18:List Int×Int×Int)=>.segA (V.int .i64) v18.1<|.lfA qld (v18.2.1,v18.1):Tree (Int×List Int) _) (by kernel_rfl) (lP yt4 fun v18=>sA<|rfl)
def zu8 (s:List Bool×Int×Int):St:=⟨sv 6 [(0,.own 1 (s.1.map V.bool)),(1,.I s.2.1),(4,.I s.2.2)],[]⟩
def znx:(List Bool×Int×Int)->Ex×St:=fun p=>((.exit 0),⟨sv 6 [(0,.own 1 (p.1.map V.bool)),(1,.I p.2.1),(4,.I p.2.2),(5,.bool false)],[]⟩)
def yj2:=zb9 (zu8) (znx)
def yfn (s:List Bool×Int×Int):Option ((List Bool×Int×Int)⊕((List Bool×Int×Int))):=bif decide (s.2.2<(s.1.length:Int)) then(if 0<=s.2.2/\(s.2.2:Int)<(((s.1.map V.bool).length - 0:Nat):Int) then(((s.1)[s.2.2.toNat]?).bind fun v15=>(let v17:=s.1.set (s.2.2.toNat) (decide ((s.2.1.tmod 3)=0));(some (.inl (v17,(w1 s.2.1),(w1 s.2.2)))))) else none) else(some (.inr (s.1,s.2.1,s.2.2)))
def zu2 (s:List Bool×Int×Int):Option ((List Bool×Int×Int)):=zbf (yfn) BIG s
def ygb (s:List Bool×Int×Int):Lct:=⟨6,ynp,0,[2,3,5],some (zu8 s),List Bool×Int×Int,zu2 s,znx⟩
theorem yse {s:List Bool×Int×Int}:(ygb s).ok tab:=zba (loop_oky (J:=zu8) (o:=(znx)) (B:=fun(s:List Bool×Int×Int)=>(.lenB V.bool s.1<|.br (decide (s.2.2<(s.1.length:Int))) (.sk<|.gl V.bool s.1 s.2.2 fun v15=>.setN V.bool s.1 (s.2.2.toNat) (decide ((s.2.1.tmod 3)=0)) fun v17=>.lfA (yj2) (.inl (v17,(w1 s.2.1),(w1 s.2.2))))<|.lfA (yj2) (.inr (s.1,s.2.1,s.2.2)))) (by kernel_rfl) (fun s=>lB<|bR (sK<|gL fun v15=>sN fun v17=>rfl)<|rfl) (fun _=>rfl) BIG s)
def qf2:(Int×List Bool)->V×List (List V):=fun r=>(.tup [.int .i64 r.1,.tup [.own 1 (r.2.map V.bool)]],[])
def ykx (v1:List Bool) (v2:Int):Option (Int×List Bool):=(zu2 (v1,v2,0)).bind fun v18=>(some (v18.2.1,v18.1))
def ysu (v1:List Bool) (v2:Int):Ctr:=⟨99,[.own 1 (v1.map V.bool),.I v2],[[.gone]],Int×List Bool,ykx v1 v2,qf2⟩
theorem ytv {v1:List Bool} {v2:Int}:(ysu v1 v2).ok tab:=okL_of rfl rfl rfl (.lp (ygb (v1,v2,0)) fun(v18:List Bool×Int×Int)=>.segA V.bool v18.1<|.lfA qf2 (v18.2.1,v18.1):Tree (Int×List Bool) _) (by kernel_rfl) (lP yse fun v18=>sA<|rfl)
def zts (s:List Tf×Int×Int):St:=⟨sv 6 [(0,.own 8 (s.1.map Tf.o)),(1,.I s.2.1),(4,.I s.2.2)],[]⟩
def zm8:(List Tf×Int×Int)->Ex×St:=fun p=>((.exit 0),⟨sv 6 [(0,.own 8 (p.1.map Tf.o)),(1,.I p.2.1),(4,.I p.2.2),(5,.bool false)],[]⟩)
def ybx:=zb9 (zts) (zm8)
def zqn (s:List Tf×Int×Int):Option ((List Tf×Int×Int)⊕((List Tf×Int×Int))):=bif decide (s.2.2<(s.1.length:Int)) then(if 0<=s.2.2/\(s.2.2:Int)<(((s.1.map Tf.o).length - 0:Nat):Int) then(((s.1)[s.2.2.toNat]?).bind fun v61=>(let v63:=s.1.set (s.2.2.toNat) ({ v61 with faf:=s.2.1 }:Tf);(if 0<=s.2.2/\(s.2.2:Int)<(((v63.map Tf.o).length - 0:Nat):Int) then(((v63)[s.2.2.toNat]?).bind fun v64=>(let v66:=v63.set (s.2.2.toNat) ({ v64 with fo:=(w1 s.2.1) }:Tf);(if 0<=s.2.2/\(s.2.2:Int)<(((v66.map Tf.o).length - 0:Nat):Int) then(((v66)[s.2.2.toNat]?).bind fun v67=>(let v69:=v66.set (s.2.2.toNat) ({ v67 with fa:=({ v67.fa with fe:=(w1 (w1 s.2.1)) }:Tg) }:Tf);(if 0<=s.2.2/\(s.2.2:Int)<(((v69.map Tf.o).length - 0:Nat):Int) then(((v69)[s.2.2.toNat]?).bind fun v70=>(let v72:=v69.set (s.2.2.toNat) ({ v70 with fa:=({ v70.fa with ff:=(w1 (w1 (w1 s.2.1))) }:Tg) }:Tf);(if 0<=s.2.2/\(s.2.2:Int)<(((v72.map Tf.o).length - 0:Nat):Int) then(((v72)[s.2.2.toNat]?).bind fun v73=>(let v75:=v72.set (s.2.2.toNat) ({ v73 with fa:=({ v73.fa with fN:=(w1 (w1 (w1 (w1 s.2.1)))) }:Tg) }:Tf);(if 0<=s.2.2/\(s.2.2:Int)<(((v75.map Tf.o).length - 0:Nat):Int) then(((v75)[s.2.2.toNat]?).bind fun v76=>((ynu v76.fa.fc (w1 (w1 (w1 (w1 (w1 s.2.1)))))).bind fun v78=>((((v75)[s.2.2.toNat]?).map fun _=>()).bind fun _=>((((v75)[s.2.2.toNat]?).map fun _=>()).bind fun _=>(let v79:=v75.set (s.2.2.toNat) ({ v76 with fa:=({ v76.fa with fc:=v78.2 }:Tg) }:Tf);(if 0<=s.2.2/\(s.2.2:Int)<(((v79.map Tf.o).length - 0:Nat):Int) then(((v79)[s.2.2.toNat]?).bind fun v80=>((ykx v80.fa.fb v78.1).bind fun v82=>((((v79)[s.2.2.toNat]?).map fun _=>()).bind fun _=>((((v79)[s.2.2.toNat]?).map fun _=>()).bind fun _=>(let v83:=v79.set (s.2.2.toNat) ({ v80 with fa:=({ v80.fa with fb:=v82.2 }:Tg) }:Tf);(if 0<=s.2.2/\(s.2.2:Int)<(((v83.map Tf.o).length - 0:Nat):Int) then(((v83)[s.2.2.toNat]?).bind fun v84=>(let v86:=v83.set (s.2.2.toNat) ({ v84 with fa:=({ v84.fa with fp:=v82.1 }:Tg) }:Tf);(some (.inl (v86,(w1 v82.1),(w1 s.2.2)))))) else none)))))) else none)))))) else none))) else none))) else none))) else none))) else none))) else none) else(some (.inr (s.1,s.2.1,s.2.2)))
def zw8 (s:List Tf×Int×Int):Option ((List Tf×Int×Int)):=zbf (zqn) BIG s
def yj4 (s:List Tf×Int×Int):Lct:=⟨6,ynv,0,[2,3,5],some (zts s),List Tf×Int×Int,zw8 s,zm8⟩
theorem ypg {s:List Tf×Int×Int}:(yj4 s).ok tab:=zba (loop_oky (J:=zts) (o:=(zm8)) (B:=fun(s:List Tf×Int×Int)=>(.lenB Tf.o s.1<|.br (decide (s.2.2<(s.1.length:Int))) (.gl Tf.o s.1 s.2.2 fun v61=>.setN Tf.o s.1 (s.2.2.toNat) ({ v61 with faf:=s.2.1 }:Tf) fun v63=>.gl Tf.o v63 s.2.2 fun v64=>.setN Tf.o v63 (s.2.2.toNat) ({ v64 with fo:=(w1 s.2.1) }:Tf) fun v66=>.gl Tf.o v66 s.2.2 fun v67=>.setN Tf.o v66 (s.2.2.toNat) ({ v67 with fa:=({ v67.fa with fe:=(w1 (w1 s.2.1)) }:Tg) }:Tf) fun v69=>.gl Tf.o v69 s.2.2 fun v70=>.setN Tf.o v69 (s.2.2.toNat) ({ v70 with fa:=({ v70.fa with ff:=(w1 (w1 (w1 s.2.1))) }:Tg) }:Tf) fun v72=>.gl Tf.o v72 s.2.2 fun v73=>.setN Tf.o v72 (s.2.2.toNat) ({ v73 with fa:=({ v73.fa with fN:=(w1 (w1 (w1 (w1 s.2.1)))) }:Tg) }:Tf) fun v75=>.guard (0<=s.2.2/\(s.2.2:Int)<(((v75.map Tf.o).length - 0:Nat):Int)) inferInstance<|.lookB Tf.o v75 (s.2.2.toNat) fun v76=>.lkY Tf.o v75 (s.2.2.toNat) v76<|.ob ((v76.fa.fc.map (V.int .i64)).length=List.length ((v76.fa.fc.map (V.int .i64))))<|.lkY Tf.o v75 (s.2.2.toNat) v76<|.lkY Tf.o v75 (s.2.2.toNat) v76<|.sk<|.call (yub v76.fa.fc (w1 (w1 (w1 (w1 (w1 s.2.1)))))) fun(v78:Int×List Int)=>.hs Tf.o v75 (s.2.2.toNat) (.agg [.int .i64 v76.faf,.int .i64 v76.fo,.int .i64 v76.fa.fe,.int .i64 v76.fa.ff,.int .i64 v76.fa.fN,.gone,.own 1 (v76.fa.fb.map V.bool),.int .i64 v76.fa.fp]) ({ v76 with fa:=({ v76.fa with fc:=v78.2 }:Tg) }:Tf) fun v79=>.guard (0<=s.2.2/\(s.2.2:Int)<(((v79.map Tf.o).length - 0:Nat):Int)) inferInstance<|.lookB Tf.o v79 (s.2.2.toNat) fun v80=>.lkY Tf.o v79 (s.2.2.toNat) v80<|.ob ((v80.fa.fb.map V.bool).length=List.length ((v80.fa.fb.map V.bool)))<|.lkY Tf.o v79 (s.2.2.toNat) v80<|.lkY Tf.o v79 (s.2.2.toNat) v80<|.sk<|.call (ysu v80.fa.fb v78.1) fun(v82:Int×List Bool)=>.hs Tf.o v79 (s.2.2.toNat) (.agg [.int .i64 v80.faf,.int .i64 v80.fo,.int .i64 v80.fa.fe,.int .i64 v80.fa.ff,.int .i64 v80.fa.fN,.own 1 (v80.fa.fc.map (V.int .i64)),.gone,.int .i64 v80.fa.fp]) ({ v80 with fa:=({ v80.fa with fb:=v82.2 }:Tg) }:Tf) fun v83=>.gl Tf.o v83 s.2.2 fun v84=>.setN Tf.o v83 (s.2.2.toNat) ({ v84 with fa:=({ v84.fa with fp:=v82.1 }:Tg) }:Tf) fun v86=>.lfA (ybx) (.inl (v86,(w1 v82.1),(w1 s.2.2))))<|.lfA (ybx) (.inr (s.1,s.2.1,s.2.2)))) (by kernel_rfl) (fun s=>lB<|bR (gL fun v61=>sN fun v63=>gL fun v64=>sN fun v66=>gL fun v67=>sN fun v69=>gL fun v70=>sN fun v72=>gL fun v73=>sN fun v75=>gU<|lK fun v76 h77=>lD h77<|⟨rfl,lD h77<|lD h77<|cE yv6 fun v78=>hS fun v79=>gU<|lK fun v80 h81=>lD h81<|⟨rfl,lD h81<|lD h81<|cE ytv fun v82=>hS fun v83=>gL fun v84=>sN fun v86=>rfl⟩⟩)<|rfl) (fun _=>rfl) BIG s)
def qgh:(Int×List Tf)->V×List (List V):=fun r=>(.tup [.int .i64 r.1,.tup [.own 8 (r.2.map Tf.o)]],[])
def yzr (v1:List Tf) (v2:Int):Option (Int×List Tf):=(zw8 (v1,v2,0)).bind fun v87=>(some (v87.2.1,v87.1))
def ql6 (v1:List Tf) (v2:Int):Ctr:=⟨125,[.own 8 (v1.map Tf.o),.I v2],[[.gone]],Int×List Tf,yzr v1 v2,qgh⟩
theorem qtu {v1:List Tf} {v2:Int}:(ql6 v1 v2).ok tab:=okL_of rfl rfl rfl (.lp (yj4 (v1,v2,0)) fun(v87:List Tf×Int×Int)=>.segA Tf.o v87.1<|.lfA qgh (v87.2.1,v87.1):Tree (Int×List Tf) _) (by kernel_rfl) (lP ypg fun v87=>sA<|rfl)
def zxg (s:List Te×Int×Int):St:=⟨sv 6 [(0,.own 6 (s.1.map Te.o)),(1,.I s.2.1),(4,.I s.2.2)],[]⟩
def zoq:(List Te×Int×Int)->Ex×St:=fun p=>((.exit 0),⟨sv 6 [(0,.own 6 (p.1.map Te.o)),(1,.I p.2.1),(4,.I p.2.2),(5,.bool false)],[]⟩)
def yju:=zb9 (zxg) (zoq)
def zqm (s:List Te×Int×Int):Option ((List Te×Int×Int)⊕((List Te×Int×Int))):=bif decide (s.2.2<(s.1.length:Int)) then(if 0<=s.2.2/\(s.2.2:Int)<(((s.1.map Te.o).length - 0:Nat):Int) then(((s.1)[s.2.2.toNat]?).bind fun v49=>(let v51:=s.1.set (s.2.2.toNat) ({ v49 with fe:=s.2.1 }:Te);(if 0<=s.2.2/\(s.2.2:Int)<(((v51.map Te.o).length - 0:Nat):Int) then(((v51)[s.2.2.toNat]?).bind fun v52=>(let v54:=v51.set (s.2.2.toNat) ({ v52 with fae:=(w1 s.2.1) }:Te);(if 0<=s.2.2/\(s.2.2:Int)<(((v54.map Te.o).length - 0:Nat):Int) then(((v54)[s.2.2.toNat]?).bind fun v55=>(let v57:=v54.set (s.2.2.toNat) ({ v55 with ff:=(w1 (w1 s.2.1)) }:Te);(if 0<=s.2.2/\(s.2.2:Int)<(((v57.map Te.o).length - 0:Nat):Int) then(((v57)[s.2.2.toNat]?).bind fun v58=>(let v60:=v57.set (s.2.2.toNat) ({ v58 with fN:=(w1 (w1 (w1 s.2.1))) }:Te);(if 0<=s.2.2/\(s.2.2:Int)<(((v60.map Te.o).length - 0:Nat):Int) then(((v60)[s.2.2.toNat]?).bind fun v61=>((ynu v61.fc (w1 (w1 (w1 (w1 s.2.1))))).bind fun v63=>((((v60)[s.2.2.toNat]?).map fun _=>()).bind fun _=>((((v60)[s.2.2.toNat]?).map fun _=>()).bind fun _=>(let v64:=v60.set (s.2.2.toNat) ({ v61 with fc:=v63.2 }:Te);(if 0<=s.2.2/\(s.2.2:Int)<(((v64.map Te.o).length - 0:Nat):Int) then(((v64)[s.2.2.toNat]?).bind fun v65=>((ykx v65.fb v63.1).bind fun v67=>((((v64)[s.2.2.toNat]?).map fun _=>()).bind fun _=>((((v64)[s.2.2.toNat]?).map fun _=>()).bind fun _=>(let v68:=v64.set (s.2.2.toNat) ({ v65 with fb:=v67.2 }:Te);(some (.inl (v68,v67.1,(w1 s.2.2))))))))) else none)))))) else none))) else none))) else none))) else none))) else none) else(some (.inr (s.1,s.2.1,s.2.2)))
def ztz (s:List Te×Int×Int):Option ((List Te×Int×Int)):=zbf (zqm) BIG s
def yk0 (s:List Te×Int×Int):Lct:=⟨6,ymm,0,[2,3,5],some (zxg s),List Te×Int×Int,ztz s,zoq⟩
theorem yt6 {s:List Te×Int×Int}:(yk0 s).ok tab:=zba (loop_oky (J:=zxg) (o:=(zoq)) (B:=fun(s:List Te×Int×Int)=>(.lenB Te.o s.1<|.br (decide (s.2.2<(s.1.length:Int))) (.gl Te.o s.1 s.2.2 fun v49=>.setN Te.o s.1 (s.2.2.toNat) ({ v49 with fe:=s.2.1 }:Te) fun v51=>.gl Te.o v51 s.2.2 fun v52=>.setN Te.o v51 (s.2.2.toNat) ({ v52 with fae:=(w1 s.2.1) }:Te) fun v54=>.gl Te.o v54 s.2.2 fun v55=>.setN Te.o v54 (s.2.2.toNat) ({ v55 with ff:=(w1 (w1 s.2.1)) }:Te) fun v57=>.gl Te.o v57 s.2.2 fun v58=>.setN Te.o v57 (s.2.2.toNat) ({ v58 with fN:=(w1 (w1 (w1 s.2.1))) }:Te) fun v60=>.guard (0<=s.2.2/\(s.2.2:Int)<(((v60.map Te.o).length - 0:Nat):Int)) inferInstance<|.lookB Te.o v60 (s.2.2.toNat) fun v61=>.lkY Te.o v60 (s.2.2.toNat) v61<|.ob ((v61.fc.map (V.int .i64)).length=List.length ((v61.fc.map (V.int .i64))))<|.lkY Te.o v60 (s.2.2.toNat) v61<|.lkY Te.o v60 (s.2.2.toNat) v61<|.sk<|.call (yub v61.fc (w1 (w1 (w1 (w1 s.2.1))))) fun(v63:Int×List Int)=>.hs Te.o v60 (s.2.2.toNat) (.agg [.int .i64 v61.fe,.int .i64 v61.fae,.int .i64 v61.ff,.int .i64 v61.fN,.gone,.own 1 (v61.fb.map V.bool)]) ({ v61 with fc:=v63.2 }:Te) fun v64=>.guard (0<=s.2.2/\(s.2.2:Int)<(((v64.map Te.o).length - 0:Nat):Int)) inferInstance<|.lookB Te.o v64 (s.2.2.toNat) fun v65=>.lkY Te.o v64 (s.2.2.toNat) v65<|.ob ((v65.fb.map V.bool).length=List.length ((v65.fb.map V.bool)))<|.lkY Te.o v64 (s.2.2.toNat) v65<|.lkY Te.o v64 (s.2.2.toNat) v65<|.sk<|.call (ysu v65.fb v63.1) fun(v67:Int×List Bool)=>.hs Te.o v64 (s.2.2.toNat) (.agg [.int .i64 v65.fe,.int .i64 v65.fae,.int .i64 v65.ff,.int .i64 v65.fN,.own 1 (v65.fc.map (V.int .i64)),.gone]) ({ v65 with fb:=v67.2 }:Te) fun v68=>.lfA (yju) (.inl (v68,v67.1,(w1 s.2.2))))<|.lfA (yju) (.inr (s.1,s.2.1,s.2.2)))) (by kernel_rfl) (fun s=>lB<|bR (gL fun v49=>sN fun v51=>gL fun v52=>sN fun v54=>gL fun v55=>sN fun v57=>gL fun v58=>sN fun v60=>gU<|lK fun v61 h62=>lD h62<|⟨rfl,lD h62<|lD h62<|cE yv6 fun v63=>hS fun v64=>gU<|lK fun v65 h66=>lD h66<|⟨rfl,lD h66<|lD h66<|cE ytv fun v67=>hS fun v68=>rfl⟩⟩)<|rfl) (fun _=>rfl) BIG s)
def qgn:(Int×List Te)->V×List (List V):=fun r=>(.tup [.int .i64 r.1,.tup [.own 6 (r.2.map Te.o)]],[])
def yyt (v1:List Te) (v2:Int):Option (Int×List Te):=(ztz (v1,v2,0)).bind fun v69=>(some (v69.2.1,v69.1))
def qgo (v1:List Te) (v2:Int):Ctr:=⟨126,[.own 6 (v1.map Te.o),.I v2],[[.gone]],Int×List Te,yyt v1 v2,qgn⟩
theorem qpr {v1:List Te} {v2:Int}:(qgo v1 v2).ok tab:=okL_of rfl rfl rfl (.lp (yk0 (v1,v2,0)) fun(v69:List Te×Int×Int)=>.segA Te.o v69.1<|.lfA qgn (v69.2.1,v69.1):Tree (Int×List Te) _) (by kernel_rfl) (lP yt6 fun v69=>sA<|rfl)
def zye (s:List Tb×Int×Int):St:=⟨sv 6 [(0,.own 13 (s.1.map Tb.o)),(1,.I s.2.1),(4,.I s.2.2)],[]⟩
def znb:(List Tb×Int×Int)->Ex×St:=fun p=>((.exit 0),⟨sv 6 [(0,.own 13 (p.1.map Tb.o)),(1,.I p.2.1),(4,.I p.2.2),(5,.bool false)],[]⟩)
def yeo:=zb9 (zye) (znb)
def zmz (s:List Tb×Int×Int):Option ((List Tb×Int×Int)⊕((List Tb×Int×Int))):=bif decide (s.2.2<(s.1.length:Int)) then(if 0<=s.2.2/\(s.2.2:Int)<(((s.1.map Tb.o).length - 0:Nat):Int) then(((s.1)[s.2.2.toNat]?).bind fun v97=>(let v99:=s.1.set (s.2.2.toNat) ({ v97 with fk:=s.2.1 }:Tb);(if 0<=s.2.2/\(s.2.2:Int)<(((v99.map Tb.o).length - 0:Nat):Int) then(((v99)[s.2.2.toNat]?).bind fun v100=>(let v102:=v99.set (s.2.2.toNat) ({ v100 with fan:=(w1 s.2.1) }:Tb);(if 0<=s.2.2/\(s.2.2:Int)<(((v102.map Tb.o).length - 0:Nat):Int) then(((v102)[s.2.2.toNat]?).bind fun v103=>(let v105:=v102.set (s.2.2.toNat) ({ v103 with fao:=(w1 (w1 s.2.1)) }:Tb);(if 0<=s.2.2/\(s.2.2:Int)<(((v105.map Tb.o).length - 0:Nat):Int) then(((v105)[s.2.2.toNat]?).bind fun v106=>(let v108:=v105.set (s.2.2.toNat) ({ v106 with fo:=(w1 (w1 (w1 s.2.1))) }:Tb);(if 0<=s.2.2/\(s.2.2:Int)<(((v108.map Tb.o).length - 0:Nat):Int) then(((v108)[s.2.2.toNat]?).bind fun v109=>(let v111:=v108.set (s.2.2.toNat) ({ v109 with fa:=({ v109.fa with fe:=(w1 (w1 (w1 (w1 s.2.1)))) }:Tg) }:Tb);(if 0<=s.2.2/\(s.2.2:Int)<(((v111.map Tb.o).length - 0:Nat):Int) then(((v111)[s.2.2.toNat]?).bind fun v112=>(let v114:=v111.set (s.2.2.toNat) ({ v112 with fa:=({ v112.fa with ff:=(w1 (w1 (w1 (w1 (w1 s.2.1))))) }:Tg) }:Tb);(if 0<=s.2.2/\(s.2.2:Int)<(((v114.map Tb.o).length - 0:Nat):Int) then(((v114)[s.2.2.toNat]?).bind fun v115=>(let v117:=v114.set (s.2.2.toNat) ({ v115 with fa:=({ v115.fa with fN:=(w1 (w1 (w1 (w1 (w1 (w1 s.2.1)))))) }:Tg) }:Tb);(if 0<=s.2.2/\(s.2.2:Int)<(((v117.map Tb.o).length - 0:Nat):Int) then(((v117)[s.2.2.toNat]?).bind fun v118=>((ynu v118.fa.fc (w1 (w1 (w1 (w1 (w1 (w1 (w1 s.2.1)))))))).bind fun v120=>((((v117)[s.2.2.toNat]?).map fun _=>()).bind fun _=>((((v117)[s.2.2.toNat]?).map fun _=>()).bind fun _=>(let v121:=v117.set (s.2.2.toNat) ({ v118 with fa:=({ v118.fa with fc:=v120.2 }:Tg) }:Tb);(if 0<=s.2.2/\(s.2.2:Int)<(((v121.map Tb.o).length - 0:Nat):Int) then(((v121)[s.2.2.toNat]?).bind fun v122=>((ykx v122.fa.fb v120.1).bind fun v124=>((((v121)[s.2.2.toNat]?).map fun _=>()).bind fun _=>((((v121)[s.2.2.toNat]?).map fun _=>()).bind fun _=>(let v125:=v121.set (s.2.2.toNat) ({ v122 with fa:=({ v122.fa with fb:=v124.2 }:Tg) }:Tb);(if 0<=s.2.2/\(s.2.2:Int)<(((v125.map Tb.o).length - 0:Nat):Int) then(((v125)[s.2.2.toNat]?).bind fun v126=>(let v128:=v125.set (s.2.2.toNat) ({ v126 with fa:=({ v126.fa with fp:=v124.1 }:Tg) }:Tb);(if 0<=s.2.2/\(s.2.2:Int)<(((v128.map Tb.o).length - 0:Nat):Int) then(((v128)[s.2.2.toNat]?).bind fun v129=>((yzr v129.fq (w1 v124.1)).bind fun v131=>((((v128)[s.2.2.toNat]?).map fun _=>()).bind fun _=>((((v128)[s.2.2.toNat]?).map fun _=>()).bind fun _=>(let v132:=v128.set (s.2.2.toNat) ({ v129 with fq:=v131.2 }:Tb);(if 0<=s.2.2/\(s.2.2:Int)<(((v132.map Tb.o).length - 0:Nat):Int) then(((v132)[s.2.2.toNat]?).bind fun v133=>((ykx v133.fw v131.1).bind fun v135=>((((v132)[s.2.2.toNat]?).map fun _=>()).bind fun _=>((((v132)[s.2.2.toNat]?).map fun _=>()).bind fun _=>(let v136:=v132.set (s.2.2.toNat) ({ v133 with fw:=v135.2 }:Tb);(if 0<=s.2.2/\(s.2.2:Int)<(((v136.map Tb.o).length - 0:Nat):Int) then(((v136)[s.2.2.toNat]?).bind fun v137=>((yyt v137.fab v135.1).bind fun v139=>((((v136)[s.2.2.toNat]?).map fun _=>()).bind fun _=>((((v136)[s.2.2.toNat]?).map fun _=>()).bind fun _=>(let v140:=v136.set (s.2.2.toNat) ({ v137 with fab:=v139.2 }:Tb);(some (.inl (v140,v139.1,(w1 s.2.2))))))))) else none)))))) else none)))))) else none))) else none)))))) else none)))))) else none))) else none))) else none))) else none))) else none))) else none))) else none))) else none) else(some (.inr (s.1,s.2.1,s.2.2)))
def ztu (s:List Tb×Int×Int):Option ((List Tb×Int×Int)):=zbf (zmz) BIG s
def ycw (s:List Tb×Int×Int):Lct:=⟨6,ymx,0,[2,3,5],some (zye s),List Tb×Int×Int,ztu s,znb⟩
theorem yp0 {s:List Tb×Int×Int}:(ycw s).ok tab:=zba (loop_oky (J:=zye) (o:=(znb)) (B:=fun(s:List Tb×Int×Int)=>(.lenB Tb.o s.1<|.br (decide (s.2.2<(s.1.length:Int))) (.gl Tb.o s.1 s.2.2 fun v97=>.setN Tb.o s.1 (s.2.2.toNat) ({ v97 with fk:=s.2.1 }:Tb) fun v99=>.gl Tb.o v99 s.2.2 fun v100=>.setN Tb.o v99 (s.2.2.toNat) ({ v100 with fan:=(w1 s.2.1) }:Tb) fun v102=>.gl Tb.o v102 s.2.2 fun v103=>.setN Tb.o v102 (s.2.2.toNat) ({ v103 with fao:=(w1 (w1 s.2.1)) }:Tb) fun v105=>.gl Tb.o v105 s.2.2 fun v106=>.setN Tb.o v105 (s.2.2.toNat) ({ v106 with fo:=(w1 (w1 (w1 s.2.1))) }:Tb) fun v108=>.gl Tb.o v108 s.2.2 fun v109=>.setN Tb.o v108 (s.2.2.toNat) ({ v109 with fa:=({ v109.fa with fe:=(w1 (w1 (w1 (w1 s.2.1)))) }:Tg) }:Tb) fun v111=>.gl Tb.o v111 s.2.2 fun v112=>.setN Tb.o v111 (s.2.2.toNat) ({ v112 with fa:=({ v112.fa with ff:=(w1 (w1 (w1 (w1 (w1 s.2.1))))) }:Tg) }:Tb) fun v114=>.gl Tb.o v114 s.2.2 fun v115=>.setN Tb.o v114 (s.2.2.toNat) ({ v115 with fa:=({ v115.fa with fN:=(w1 (w1 (w1 (w1 (w1 (w1 s.2.1)))))) }:Tg) }:Tb) fun v117=>.guard (0<=s.2.2/\(s.2.2:Int)<(((v117.map Tb.o).length - 0:Nat):Int)) inferInstance<|.lookB Tb.o v117 (s.2.2.toNat) fun v118=>.lkY Tb.o v117 (s.2.2.toNat) v118<|.ob ((v118.fa.fc.map (V.int .i64)).length=List.length ((v118.fa.fc.map (V.int .i64))))<|.lkY Tb.o v117 (s.2.2.toNat) v118<|.lkY Tb.o v117 (s.2.2.toNat) v118<|.sk<|.call (yub v118.fa.fc (w1 (w1 (w1 (w1 (w1 (w1 (w1 s.2.1)))))))) fun(v120:Int×List Int)=>.hs Tb.o v117 (s.2.2.toNat) (.agg [.int .i64 v118.fk,.int .i64 v118.fan,.int .i64 v118.fao,.int .i64 v118.fo,.int .i64 v118.fa.fe,.int .i64 v118.fa.ff,.int .i64 v118.fa.fN,.gone,.own 1 (v118.fa.fb.map V.bool),.int .i64 v118.fa.fp,.own 8 (v118.fq.map Tf.o),.own 1 (v118.fw.map V.bool),.own 6 (v118.fab.map Te.o)]) ({ v118 with fa:=({ v118.fa with fc:=v120.2 }:Tg) }:Tb) fun v121=>.guard (0<=s.2.2/\(s.2.2:Int)<(((v121.map Tb.o).length - 0:Nat):Int)) inferInstance<|.lookB Tb.o v121 (s.2.2.toNat) fun v122=>.lkY Tb.o v121 (s.2.2.toNat) v122<|.ob ((v122.fa.fb.map V.bool).length=List.length ((v122.fa.fb.map V.bool)))<|.lkY Tb.o v121 (s.2.2.toNat) v122<|.lkY Tb.o v121 (s.2.2.toNat) v122<|.sk<|.call (ysu v122.fa.fb v120.1) fun(v124:Int×List Bool)=>.hs Tb.o v121 (s.2.2.toNat) (.agg [.int .i64 v122.fk,.int .i64 v122.fan,.int .i64 v122.fao,.int .i64 v122.fo,.int .i64 v122.fa.fe,.int .i64 v122.fa.ff,.int .i64 v122.fa.fN,.own 1 (v122.fa.fc.map (V.int .i64)),.gone,.int .i64 v122.fa.fp,.own 8 (v122.fq.map Tf.o),.own 1 (v122.fw.map V.bool),.own 6 (v122.fab.map Te.o)]) ({ v122 with fa:=({ v122.fa with fb:=v124.2 }:Tg) }:Tb) fun v125=>.gl Tb.o v125 s.2.2 fun v126=>.setN Tb.o v125 (s.2.2.toNat) ({ v126 with fa:=({ v126.fa with fp:=v124.1 }:Tg) }:Tb) fun v128=>.guard (0<=s.2.2/\(s.2.2:Int)<(((v128.map Tb.o).length - 0:Nat):Int)) inferInstance<|.lookB Tb.o v128 (s.2.2.toNat) fun v129=>.lkY Tb.o v128 (s.2.2.toNat) v129<|.ob ((v129.fq.map Tf.o).length=List.length ((v129.fq.map Tf.o)))<|.lkY Tb.o v128 (s.2.2.toNat) v129<|.lkY Tb.o v128 (s.2.2.toNat) v129<|.sk<|.call (ql6 v129.fq (w1 v124.1)) fun(v131:Int×List Tf)=>.hs Tb.o v128 (s.2.2.toNat) (.agg [.int .i64 v129.fk,.int .i64 v129.fan,.int .i64 v129.fao,.int .i64 v129.fo,.int .i64 v129.fa.fe,.int .i64 v129.fa.ff,.int .i64 v129.fa.fN,.own 1 (v129.fa.fc.map (V.int .i64)),.own 1 (v129.fa.fb.map V.bool),.int .i64 v129.fa.fp,.gone,.own 1 (v129.fw.map V.bool),.own 6 (v129.fab.map Te.o)]) ({ v129 with fq:=v131.2 }:Tb) fun v132=>.guard (0<=s.2.2/\(s.2.2:Int)<(((v132.map Tb.o).length - 0:Nat):Int)) inferInstance<|.lookB Tb.o v132 (s.2.2.toNat) fun v133=>.lkY Tb.o v132 (s.2.2.toNat) v133<|.ob ((v133.fw.map V.bool).length=List.length ((v133.fw.map V.bool)))<|.lkY Tb.o v132 (s.2.2.toNat) v133<|.lkY Tb.o v132 (s.2.2.toNat) v133<|.sk<|.call (ysu v133.fw v131.1) fun(v135:Int×List Bool)=>.hs Tb.o v132 (s.2.2.toNat) (.agg [.int .i64 v133.fk,.int .i64 v133.fan,.int .i64 v133.fao,.int .i64 v133.fo,.int .i64 v133.fa.fe,.int .i64 v133.fa.ff,.int .i64 v133.fa.fN,.own 1 (v133.fa.fc.map (V.int .i64)),.own 1 (v133.fa.fb.map V.bool),.int .i64 v133.fa.fp,.own 8 (v133.fq.map Tf.o),.gone,.own 6 (v133.fab.map Te.o)]) ({ v133 with fw:=v135.2 }:Tb) fun v136=>.guard (0<=s.2.2/\(s.2.2:Int)<(((v136.map Tb.o).length - 0:Nat):Int)) inferInstance<|.lookB Tb.o v136 (s.2.2.toNat) fun v137=>.lkY Tb.o v136 (s.2.2.toNat) v137<|.ob ((v137.fab.map Te.o).length=List.length ((v137.fab.map Te.o)))<|.lkY Tb.o v136 (s.2.2.toNat) v137<|.lkY Tb.o v136 (s.2.2.toNat) v137<|.sk<|.call (qgo v137.fab v135.1) fun(v139:Int×List Te)=>.hs Tb.o v136 (s.2.2.toNat) (.agg [.int .i64 v137.fk,.int .i64 v137.fan,.int .i64 v137.fao,.int .i64 v137.fo,.int .i64 v137.fa.fe,.int .i64 v137.fa.ff,.int .i64 v137.fa.fN,.own 1 (v137.fa.fc.map (V.int .i64)),.own 1 (v137.fa.fb.map V.bool),.int .i64 v137.fa.fp,.own 8 (v137.fq.map Tf.o),.own 1 (v137.fw.map V.bool),.gone]) ({ v137 with fab:=v139.2 }:Tb) fun v140=>.lfA (yeo) (.inl (v140,v139.1,(w1 s.2.2))))<|.lfA (yeo) (.inr (s.1,s.2.1,s.2.2)))) (by kernel_rfl) (fun s=>lB<|bR (gL fun v97=>sN fun v99=>gL fun v100=>sN fun v102=>gL fun v103=>sN fun v105=>gL fun v106=>sN fun v108=>gL fun v109=>sN fun v111=>gL fun v112=>sN fun v114=>gL fun v115=>sN fun v117=>gU<|lK fun v118 h119=>lD h119<|⟨rfl,lD h119<|lD h119<|cE yv6 fun v120=>hS fun v121=>gU<|lK fun v122 h123=>lD h123<|⟨rfl,lD h123<|lD h123<|cE ytv fun v124=>hS fun v125=>gL fun v126=>sN fun v128=>gU<|lK fun v129 h130=>lD h130<|⟨rfl,lD h130<|lD h130<|cE qtu fun v131=>hS fun v132=>gU<|lK fun v133 h134=>lD h134<|⟨rfl,lD h134<|lD h134<|cE ytv fun v135=>hS fun v136=>gU<|lK fun v137 h138=>lD h138<|⟨rfl,lD h138<|lD h138<|cE qpr fun v139=>hS fun v140=>rfl⟩⟩⟩⟩⟩)<|rfl) (fun _=>rfl) BIG s)
def ql7:(Int×List Tb)->V×List (List V):=fun r=>(.tup [.int .i64 r.1,.tup [.own 13 (r.2.map Tb.o)]],[])
def yyj (v1:List Tb) (v2:Int):Option (Int×List Tb):=(ztu (v1,v2,0)).bind fun v141=>(some (v141.2.1,v141.1))
def ql4 (v1:List Tb) (v2:Int):Ctr:=⟨192,[.own 13 (v1.map Tb.o),.I v2],[[.gone]],Int×List Tb,yyj v1 v2,ql7⟩
theorem qtn {v1:List Tb} {v2:Int}:(ql4 v1 v2).ok tab:=okL_of rfl rfl rfl (.lp (ycw (v1,v2,0)) fun(v141:List Tb×Int×Int)=>.segA Tb.o v141.1<|.lfA ql7 (v141.2.1,v141.1):Tree (Int×List Tb) _) (by kernel_rfl) (lP yp0 fun v141=>sA<|rfl)
def qgg:(Int×Ti)->V×List (List V):=fun r=>(.tup [.int .i64 r.1,.tup [r.2.o]],[])
def qbk (v1:Ti) (v2:Int):Option (Int×Ti):=(yyj v1.fg v2).bind fun v3=>(if ((v1.fg.map Tb.o).length)<=(v3.2.map Tb.o).length then(some (v3.1,(⟨v1.faa,((v3.2.take ((v1.fg.map Tb.o).length)).drop 0)⟩:Ti))) else none)
def qfo (v1:Ti) (v2:Int):Ctr:=⟨110,[v1.o,.I v2],[[.gone]],Int×Ti,qbk v1 v2,qgg⟩
theorem qx4 {v1:Ti} {v2:Int}:(qfo v1 v2).ok tab:=okL_of rfl rfl rfl (.segA Tb.o v1.fg<|.ob ((v1.fg.map Tb.o).length=List.length ((v1.fg.map Tb.o)))<|.call (ql4 v1.fg v2) fun(v3:Int×List Tb)=>.segB Tb.o v3.2 0 ((v1.fg.map Tb.o).length)<|.lfA qgg (v3.1,(⟨v1.faa,((v3.2.take ((v1.fg.map Tb.o).length)).drop 0)⟩:Ti)):Tree (Int×Ti) _) (by kernel_rfl) (sA<|⟨rfl,cE qtn fun v3=>fun h4=>⟨zjn _ _ _ h4,rfl⟩⟩)
def zya (s:List Ta×Int×Int):St:=⟨sv 6 [(0,.own 9 (s.1.map Ta.o)),(1,.I s.2.1),(4,.I s.2.2)],[]⟩
def zq0:(List Ta×Int×Int)->Ex×St:=fun p=>((.exit 0),⟨sv 6 [(0,.own 9 (p.1.map Ta.o)),(1,.I p.2.1),(4,.I p.2.2),(5,.bool false)],[]⟩)
def ydd:=zb9 (zya) (zq0)
def zq9 (s:List Ta×Int×Int):Option ((List Ta×Int×Int)⊕((List Ta×Int×Int))):=bif decide (s.2.2<(s.1.length:Int)) then(if 0<=s.2.2/\(s.2.2:Int)<(((s.1.map Ta.o).length - 0:Nat):Int) then(((s.1)[s.2.2.toNat]?).bind fun v67=>(let v69:=s.1.set (s.2.2.toNat) ({ v67 with fk:=s.2.1 }:Ta);(if 0<=s.2.2/\(s.2.2:Int)<(((v69.map Ta.o).length - 0:Nat):Int) then(((v69)[s.2.2.toNat]?).bind fun v70=>(let v72:=v69.set (s.2.2.toNat) ({ v70 with fr:=(w1 s.2.1) }:Ta);(if 0<=s.2.2/\(s.2.2:Int)<(((v72.map Ta.o).length - 0:Nat):Int) then(((v72)[s.2.2.toNat]?).bind fun v73=>(let v75:=v72.set (s.2.2.toNat) ({ v73 with fo:=(w1 (w1 s.2.1)) }:Ta);(if 0<=s.2.2/\(s.2.2:Int)<(((v75.map Ta.o).length - 0:Nat):Int) then(((v75)[s.2.2.toNat]?).bind fun v76=>(let v78:=v75.set (s.2.2.toNat) ({ v76 with fa:=({ v76.fa with fe:=(w1 (w1 (w1 s.2.1))) }:Tg) }:Ta);(if 0<=s.2.2/\(s.2.2:Int)<(((v78.map Ta.o).length - 0:Nat):Int) then(((v78)[s.2.2.toNat]?).bind fun v79=>(let v81:=v78.set (s.2.2.toNat) ({ v79 with fa:=({ v79.fa with ff:=(w1 (w1 (w1 (w1 s.2.1)))) }:Tg) }:Ta);(if 0<=s.2.2/\(s.2.2:Int)<(((v81.map Ta.o).length - 0:Nat):Int) then(((v81)[s.2.2.toNat]?).bind fun v82=>(let v84:=v81.set (s.2.2.toNat) ({ v82 with fa:=({ v82.fa with fN:=(w1 (w1 (w1 (w1 (w1 s.2.1))))) }:Tg) }:Ta);(if 0<=s.2.2/\(s.2.2:Int)<(((v84.map Ta.o).length - 0:Nat):Int) then(((v84)[s.2.2.toNat]?).bind fun v85=>((ynu v85.fa.fc (w1 (w1 (w1 (w1 (w1 (w1 s.2.1))))))).bind fun v87=>((((v84)[s.2.2.toNat]?).map fun _=>()).bind fun _=>((((v84)[s.2.2.toNat]?).map fun _=>()).bind fun _=>(let v88:=v84.set (s.2.2.toNat) ({ v85 with fa:=({ v85.fa with fc:=v87.2 }:Tg) }:Ta);(if 0<=s.2.2/\(s.2.2:Int)<(((v88.map Ta.o).length - 0:Nat):Int) then(((v88)[s.2.2.toNat]?).bind fun v89=>((ykx v89.fa.fb v87.1).bind fun v91=>((((v88)[s.2.2.toNat]?).map fun _=>()).bind fun _=>((((v88)[s.2.2.toNat]?).map fun _=>()).bind fun _=>(let v92:=v88.set (s.2.2.toNat) ({ v89 with fa:=({ v89.fa with fb:=v91.2 }:Tg) }:Ta);(if 0<=s.2.2/\(s.2.2:Int)<(((v92.map Ta.o).length - 0:Nat):Int) then(((v92)[s.2.2.toNat]?).bind fun v93=>(let v95:=v92.set (s.2.2.toNat) ({ v93 with fa:=({ v93.fa with fp:=v91.1 }:Tg) }:Ta);(some (.inl (v95,(w1 v91.1),(w1 s.2.2)))))) else none)))))) else none)))))) else none))) else none))) else none))) else none))) else none))) else none))) else none) else(some (.inr (s.1,s.2.1,s.2.2)))
def zvv (s:List Ta×Int×Int):Option ((List Ta×Int×Int)):=zbf (zq9) BIG s
def yil (s:List Ta×Int×Int):Lct:=⟨6,ymk,0,[2,3,5],some (zya s),List Ta×Int×Int,zvv s,zq0⟩
theorem yp1 {s:List Ta×Int×Int}:(yil s).ok tab:=zba (loop_oky (J:=zya) (o:=(zq0)) (B:=fun(s:List Ta×Int×Int)=>(.lenB Ta.o s.1<|.br (decide (s.2.2<(s.1.length:Int))) (.gl Ta.o s.1 s.2.2 fun v67=>.setN Ta.o s.1 (s.2.2.toNat) ({ v67 with fk:=s.2.1 }:Ta) fun v69=>.gl Ta.o v69 s.2.2 fun v70=>.setN Ta.o v69 (s.2.2.toNat) ({ v70 with fr:=(w1 s.2.1) }:Ta) fun v72=>.gl Ta.o v72 s.2.2 fun v73=>.setN Ta.o v72 (s.2.2.toNat) ({ v73 with fo:=(w1 (w1 s.2.1)) }:Ta) fun v75=>.gl Ta.o v75 s.2.2 fun v76=>.setN Ta.o v75 (s.2.2.toNat) ({ v76 with fa:=({ v76.fa with fe:=(w1 (w1 (w1 s.2.1))) }:Tg) }:Ta) fun v78=>.gl Ta.o v78 s.2.2 fun v79=>.setN Ta.o v78 (s.2.2.toNat) ({ v79 with fa:=({ v79.fa with ff:=(w1 (w1 (w1 (w1 s.2.1)))) }:Tg) }:Ta) fun v81=>.gl Ta.o v81 s.2.2 fun v82=>.setN Ta.o v81 (s.2.2.toNat) ({ v82 with fa:=({ v82.fa with fN:=(w1 (w1 (w1 (w1 (w1 s.2.1))))) }:Tg) }:Ta) fun v84=>.guard (0<=s.2.2/\(s.2.2:Int)<(((v84.map Ta.o).length - 0:Nat):Int)) inferInstance<|.lookB Ta.o v84 (s.2.2.toNat) fun v85=>.lkY Ta.o v84 (s.2.2.toNat) v85<|.ob ((v85.fa.fc.map (V.int .i64)).length=List.length ((v85.fa.fc.map (V.int .i64))))<|.lkY Ta.o v84 (s.2.2.toNat) v85<|.lkY Ta.o v84 (s.2.2.toNat) v85<|.sk<|.call (yub v85.fa.fc (w1 (w1 (w1 (w1 (w1 (w1 s.2.1))))))) fun(v87:Int×List Int)=>.hs Ta.o v84 (s.2.2.toNat) (.agg [.int .i64 v85.fk,.int .i64 v85.fr,.int .i64 v85.fo,.int .i64 v85.fa.fe,.int .i64 v85.fa.ff,.int .i64 v85.fa.fN,.gone,.own 1 (v85.fa.fb.map V.bool),.int .i64 v85.fa.fp]) ({ v85 with fa:=({ v85.fa with fc:=v87.2 }:Tg) }:Ta) fun v88=>.guard (0<=s.2.2/\(s.2.2:Int)<(((v88.map Ta.o).length - 0:Nat):Int)) inferInstance<|.lookB Ta.o v88 (s.2.2.toNat) fun v89=>.lkY Ta.o v88 (s.2.2.toNat) v89<|.ob ((v89.fa.fb.map V.bool).length=List.length ((v89.fa.fb.map V.bool)))<|.lkY Ta.o v88 (s.2.2.toNat) v89<|.lkY Ta.o v88 (s.2.2.toNat) v89<|.sk<|.call (ysu v89.fa.fb v87.1) fun(v91:Int×List Bool)=>.hs Ta.o v88 (s.2.2.toNat) (.agg [.int .i64 v89.fk,.int .i64 v89.fr,.int .i64 v89.fo,.int .i64 v89.fa.fe,.int .i64 v89.fa.ff,.int .i64 v89.fa.fN,.own 1 (v89.fa.fc.map (V.int .i64)),.gone,.int .i64 v89.fa.fp]) ({ v89 with fa:=({ v89.fa with fb:=v91.2 }:Tg) }:Ta) fun v92=>.gl Ta.o v92 s.2.2 fun v93=>.setN Ta.o v92 (s.2.2.toNat) ({ v93 with fa:=({ v93.fa with fp:=v91.1 }:Tg) }:Ta) fun v95=>.lfA (ydd) (.inl (v95,(w1 v91.1),(w1 s.2.2))))<|.lfA (ydd) (.inr (s.1,s.2.1,s.2.2)))) (by kernel_rfl) (fun s=>lB<|bR (gL fun v67=>sN fun v69=>gL fun v70=>sN fun v72=>gL fun v73=>sN fun v75=>gL fun v76=>sN fun v78=>gL fun v79=>sN fun v81=>gL fun v82=>sN fun v84=>gU<|lK fun v85 h86=>lD h86<|⟨rfl,lD h86<|lD h86<|cE yv6 fun v87=>hS fun v88=>gU<|lK fun v89 h90=>lD h90<|⟨rfl,lD h90<|lD h90<|cE ytv fun v91=>hS fun v92=>gL fun v93=>sN fun v95=>rfl⟩⟩)<|rfl) (fun _=>rfl) BIG s)
def qgu:(Int×List Ta)->V×List (List V):=fun r=>(.tup [.int .i64 r.1,.tup [.own 9 (r.2.map Ta.o)]],[])
def yx8 (v1:List Ta) (v2:Int):Option (Int×List Ta):=(zvv (v1,v2,0)).bind fun v96=>(some (v96.2.1,v96.1))
def qmc (v1:List Ta) (v2:Int):Ctr:=⟨193,[.own 9 (v1.map Ta.o),.I v2],[[.gone]],Int×List Ta,yx8 v1 v2,qgu⟩
theorem qww {v1:List Ta} {v2:Int}:(qmc v1 v2).ok tab:=okL_of rfl rfl rfl (.lp (yil (v1,v2,0)) fun(v96:List Ta×Int×Int)=>.segA Ta.o v96.1<|.lfA qgu (v96.2.1,v96.1):Tree (Int×List Ta) _) (by kernel_rfl) (lP yp1 fun v96=>sA<|rfl)
def ztk (s:List Tc×Int×Int):St:=⟨sv 6 [(0,.own 17 (s.1.map Tc.o)),(1,.I s.2.1),(4,.I s.2.2)],[]⟩
def zmj:(List Tc×Int×Int)->Ex×St:=fun p=>((.exit 0),⟨sv 6 [(0,.own 17 (p.1.map Tc.o)),(1,.I p.2.1),(4,.I p.2.2),(5,.bool false)],[]⟩)
def yex:=zb9 (ztk) (zmj)
def zq4 (s:List Tc×Int×Int):Option ((List Tc×Int×Int)⊕((List Tc×Int×Int))):=bif decide (s.2.2<(s.1.length:Int)) then(if 0<=s.2.2/\(s.2.2:Int)<(((s.1.map Tc.o).length - 0:Nat):Int) then(((s.1)[s.2.2.toNat]?).bind fun v117=>((yx8 v117.fu s.2.1).bind fun v119=>((((s.1)[s.2.2.toNat]?).map fun _=>()).bind fun _=>((((s.1)[s.2.2.toNat]?).map fun _=>()).bind fun _=>(let v120:=s.1.set (s.2.2.toNat) ({ v117 with fu:=v119.2 }:Tc);(if 0<=s.2.2/\(s.2.2:Int)<(((v120.map Tc.o).length - 0:Nat):Int) then(((v120)[s.2.2.toNat]?).bind fun v121=>(let v123:=v120.set (s.2.2.toNat) ({ v121 with fah:=(decide ((v119.1.tmod 3)=0)) }:Tc);(if 0<=s.2.2/\(s.2.2:Int)<(((v123.map Tc.o).length - 0:Nat):Int) then(((v123)[s.2.2.toNat]?).bind fun v124=>(let v126:=v123.set (s.2.2.toNat) ({ v124 with fd:=({ v124.fd with fk:=(w1 v119.1) }:Ta) }:Tc);(if 0<=s.2.2/\(s.2.2:Int)<(((v126.map Tc.o).length - 0:Nat):Int) then(((v126)[s.2.2.toNat]?).bind fun v127=>(let v129:=v126.set (s.2.2.toNat) ({ v127 with fd:=({ v127.fd with fr:=(w1 (w1 v119.1)) }:Ta) }:Tc);(if 0<=s.2.2/\(s.2.2:Int)<(((v129.map Tc.o).length - 0:Nat):Int) then(((v129)[s.2.2.toNat]?).bind fun v130=>(let v132:=v129.set (s.2.2.toNat) ({ v130 with fd:=({ v130.fd with fo:=(w1 (w1 (w1 v119.1))) }:Ta) }:Tc);(if 0<=s.2.2/\(s.2.2:Int)<(((v132.map Tc.o).length - 0:Nat):Int) then(((v132)[s.2.2.toNat]?).bind fun v133=>(let v135:=v132.set (s.2.2.toNat) ({ v133 with fd:=({ v133.fd with fa:=({ v133.fd.fa with fe:=(w1 (w1 (w1 (w1 v119.1)))) }:Tg) }:Ta) }:Tc);(if 0<=s.2.2/\(s.2.2:Int)<(((v135.map Tc.o).length - 0:Nat):Int) then(((v135)[s.2.2.toNat]?).bind fun v136=>(let v138:=v135.set (s.2.2.toNat) ({ v136 with fd:=({ v136.fd with fa:=({ v136.fd.fa with ff:=(w1 (w1 (w1 (w1 (w1 v119.1))))) }:Tg) }:Ta) }:Tc);(if 0<=s.2.2/\(s.2.2:Int)<(((v138.map Tc.o).length - 0:Nat):Int) then(((v138)[s.2.2.toNat]?).bind fun v139=>(let v141:=v138.set (s.2.2.toNat) ({ v139 with fd:=({ v139.fd with fa:=({ v139.fd.fa with fN:=(w1 (w1 (w1 (w1 (w1 (w1 v119.1)))))) }:Tg) }:Ta) }:Tc);(if 0<=s.2.2/\(s.2.2:Int)<(((v141.map Tc.o).length - 0:Nat):Int) then(((v141)[s.2.2.toNat]?).bind fun v142=>((ynu v142.fd.fa.fc (w1 (w1 (w1 (w1 (w1 (w1 (w1 v119.1)))))))).bind fun v144=>((((v141)[s.2.2.toNat]?).map fun _=>()).bind fun _=>((((v141)[s.2.2.toNat]?).map fun _=>()).bind fun _=>(let v145:=v141.set (s.2.2.toNat) ({ v142 with fd:=({ v142.fd with fa:=({ v142.fd.fa with fc:=v144.2 }:Tg) }:Ta) }:Tc);(if 0<=s.2.2/\(s.2.2:Int)<(((v145.map Tc.o).length - 0:Nat):Int) then(((v145)[s.2.2.toNat]?).bind fun v146=>((ykx v146.fd.fa.fb v144.1).bind fun v148=>((((v145)[s.2.2.toNat]?).map fun _=>()).bind fun _=>((((v145)[s.2.2.toNat]?).map fun _=>()).bind fun _=>(let v149:=v145.set (s.2.2.toNat) ({ v146 with fd:=({ v146.fd with fa:=({ v146.fd.fa with fb:=v148.2 }:Tg) }:Ta) }:Tc);(if 0<=s.2.2/\(s.2.2:Int)<(((v149.map Tc.o).length - 0:Nat):Int) then(((v149)[s.2.2.toNat]?).bind fun v150=>(let v152:=v149.set (s.2.2.toNat) ({ v150 with fd:=({ v150.fd with fa:=({ v150.fd.fa with fp:=v148.1 }:Tg) }:Ta) }:Tc);(if 0<=s.2.2/\(s.2.2:Int)<(((v152.map Tc.o).length - 0:Nat):Int) then(((v152)[s.2.2.toNat]?).bind fun v153=>(let v155:=v152.set (s.2.2.toNat) ({ v153 with fak:=(w1 v148.1) }:Tc);(if 0<=s.2.2/\(s.2.2:Int)<(((v155.map Tc.o).length - 0:Nat):Int) then(((v155)[s.2.2.toNat]?).bind fun v156=>(let v158:=v155.set (s.2.2.toNat) ({ v156 with fai:=(w1 (w1 v148.1)) }:Tc);(if 0<=s.2.2/\(s.2.2:Int)<(((v158.map Tc.o).length - 0:Nat):Int) then(((v158)[s.2.2.toNat]?).bind fun v159=>(let v161:=v158.set (s.2.2.toNat) ({ v159 with faj:=(w1 (w1 (w1 v148.1))) }:Tc);(if 0<=s.2.2/\(s.2.2:Int)<(((v161.map Tc.o).length - 0:Nat):Int) then(((v161)[s.2.2.toNat]?).bind fun v162=>(let v164:=v161.set (s.2.2.toNat) ({ v162 with faa:=(w1 (w1 (w1 (w1 v148.1)))) }:Tc);(if 0<=s.2.2/\(s.2.2:Int)<(((v164.map Tc.o).length - 0:Nat):Int) then(((v164)[s.2.2.toNat]?).bind fun v165=>(let v167:=v164.set (s.2.2.toNat) ({ v165 with fad:=(w1 (w1 (w1 (w1 (w1 v148.1))))) }:Tc);(if 0<=s.2.2/\(s.2.2:Int)<(((v167.map Tc.o).length - 0:Nat):Int) then(((v167)[s.2.2.toNat]?).bind fun v168=>(let v170:=v167.set (s.2.2.toNat) ({ v168 with fac:=(w1 (w1 (w1 (w1 (w1 (w1 v148.1)))))) }:Tc);(some (.inl (v170,(w1 (w1 (w1 (w1 (w1 (w1 (w1 v148.1))))))),(w1 s.2.2)))))) else none))) else none))) else none))) else none))) else none))) else none))) else none)))))) else none)))))) else none))) else none))) else none))) else none))) else none))) else none))) else none))) else none)))))) else none) else(some (.inr (s.1,s.2.1,s.2.2)))
def zuq (s:List Tc×Int×Int):Option ((List Tc×Int×Int)):=zbf (zq4) BIG s
def ygh (s:List Tc×Int×Int):Lct:=⟨6,ync,0,[2,3,5],some (ztk s),List Tc×Int×Int,zuq s,zmj⟩
theorem ysw {s:List Tc×Int×Int}:(ygh s).ok tab:=zba (loop_oky (J:=ztk) (o:=(zmj)) (B:=fun(s:List Tc×Int×Int)=>(.lenB Tc.o s.1<|.br (decide (s.2.2<(s.1.length:Int))) (.guard (0<=s.2.2/\(s.2.2:Int)<(((s.1.map Tc.o).length - 0:Nat):Int)) inferInstance<|.lookB Tc.o s.1 (s.2.2.toNat) fun v117=>.lkY Tc.o s.1 (s.2.2.toNat) v117<|.ob ((v117.fu.map Ta.o).length=List.length ((v117.fu.map Ta.o)))<|.lkY Tc.o s.1 (s.2.2.toNat) v117<|.lkY Tc.o s.1 (s.2.2.toNat) v117<|.sk<|.call (qmc v117.fu s.2.1) fun(v119:Int×List Ta)=>.hs Tc.o s.1 (s.2.2.toNat) (.agg [.gone,.bool v117.fah,.int .i64 v117.fd.fk,.int .i64 v117.fd.fr,.int .i64 v117.fd.fo,.int .i64 v117.fd.fa.fe,.int .i64 v117.fd.fa.ff,.int .i64 v117.fd.fa.fN,.own 1 (v117.fd.fa.fc.map (V.int .i64)),.own 1 (v117.fd.fa.fb.map V.bool),.int .i64 v117.fd.fa.fp,.int .i64 v117.fak,.int .i64 v117.fai,.int .i64 v117.faj,.int .i64 v117.faa,.int .i64 v117.fad,.int .i64 v117.fac]) ({ v117 with fu:=v119.2 }:Tc) fun v120=>.sk<|.gl Tc.o v120 s.2.2 fun v121=>.setN Tc.o v120 (s.2.2.toNat) ({ v121 with fah:=(decide ((v119.1.tmod 3)=0)) }:Tc) fun v123=>.gl Tc.o v123 s.2.2 fun v124=>.setN Tc.o v123 (s.2.2.toNat) ({ v124 with fd:=({ v124.fd with fk:=(w1 v119.1) }:Ta) }:Tc) fun v126=>.gl Tc.o v126 s.2.2 fun v127=>.setN Tc.o v126 (s.2.2.toNat) ({ v127 with fd:=({ v127.fd with fr:=(w1 (w1 v119.1)) }:Ta) }:Tc) fun v129=>.gl Tc.o v129 s.2.2 fun v130=>.setN Tc.o v129 (s.2.2.toNat) ({ v130 with fd:=({ v130.fd with fo:=(w1 (w1 (w1 v119.1))) }:Ta) }:Tc) fun v132=>.gl Tc.o v132 s.2.2 fun v133=>.setN Tc.o v132 (s.2.2.toNat) ({ v133 with fd:=({ v133.fd with fa:=({ v133.fd.fa with fe:=(w1 (w1 (w1 (w1 v119.1)))) }:Tg) }:Ta) }:Tc) fun v135=>.gl Tc.o v135 s.2.2 fun v136=>.setN Tc.o v135 (s.2.2.toNat) ({ v136 with fd:=({ v136.fd with fa:=({ v136.fd.fa with ff:=(w1 (w1 (w1 (w1 (w1 v119.1))))) }:Tg) }:Ta) }:Tc) fun v138=>.gl Tc.o v138 s.2.2 fun v139=>.setN Tc.o v138 (s.2.2.toNat) ({ v139 with fd:=({ v139.fd with fa:=({ v139.fd.fa with fN:=(w1 (w1 (w1 (w1 (w1 (w1 v119.1)))))) }:Tg) }:Ta) }:Tc) fun v141=>.guard (0<=s.2.2/\(s.2.2:Int)<(((v141.map Tc.o).length - 0:Nat):Int)) inferInstance<|.lookB Tc.o v141 (s.2.2.toNat) fun v142=>.lkY Tc.o v141 (s.2.2.toNat) v142<|.ob ((v142.fd.fa.fc.map (V.int .i64)).length=List.length ((v142.fd.fa.fc.map (V.int .i64))))<|.lkY Tc.o v141 (s.2.2.toNat) v142<|.lkY Tc.o v141 (s.2.2.toNat) v142<|.sk<|.call (yub v142.fd.fa.fc (w1 (w1 (w1 (w1 (w1 (w1 (w1 v119.1)))))))) fun(v144:Int×List Int)=>.hs Tc.o v141 (s.2.2.toNat) (.agg [.own 9 (v142.fu.map Ta.o),.bool v142.fah,.int .i64 v142.fd.fk,.int .i64 v142.fd.fr,.int .i64 v142.fd.fo,.int .i64 v142.fd.fa.fe,.int .i64 v142.fd.fa.ff,.int .i64 v142.fd.fa.fN,.gone,.own 1 (v142.fd.fa.fb.map V.bool),.int .i64 v142.fd.fa.fp,.int .i64 v142.fak,.int .i64 v142.fai,.int .i64 v142.faj,.int .i64 v142.faa,.int .i64 v142.fad,.int .i64 v142.fac]) ({ v142 with fd:=({ v142.fd with fa:=({ v142.fd.fa with fc:=v144.2 }:Tg) }:Ta) }:Tc) fun v145=>.guard (0<=s.2.2/\(s.2.2:Int)<(((v145.map Tc.o).length - 0:Nat):Int)) inferInstance<|.lookB Tc.o v145 (s.2.2.toNat) fun v146=>.lkY Tc.o v145 (s.2.2.toNat) v146<|.ob ((v146.fd.fa.fb.map V.bool).length=List.length ((v146.fd.fa.fb.map V.bool)))<|.lkY Tc.o v145 (s.2.2.toNat) v146<|.lkY Tc.o v145 (s.2.2.toNat) v146<|.sk<|.call (ysu v146.fd.fa.fb v144.1) fun(v148:Int×List Bool)=>.hs Tc.o v145 (s.2.2.toNat) (.agg [.own 9 (v146.fu.map Ta.o),.bool v146.fah,.int .i64 v146.fd.fk,.int .i64 v146.fd.fr,.int .i64 v146.fd.fo,.int .i64 v146.fd.fa.fe,.int .i64 v146.fd.fa.ff,.int .i64 v146.fd.fa.fN,.own 1 (v146.fd.fa.fc.map (V.int .i64)),.gone,.int .i64 v146.fd.fa.fp,.int .i64 v146.fak,.int .i64 v146.fai,.int .i64 v146.faj,.int .i64 v146.faa,.int .i64 v146.fad,.int .i64 v146.fac]) ({ v146 with fd:=({ v146.fd with fa:=({ v146.fd.fa with fb:=v148.2 }:Tg) }:Ta) }:Tc) fun v149=>.gl Tc.o v149 s.2.2 fun v150=>.setN Tc.o v149 (s.2.2.toNat) ({ v150 with fd:=({ v150.fd with fa:=({ v150.fd.fa with fp:=v148.1 }:Tg) }:Ta) }:Tc) fun v152=>.gl Tc.o v152 s.2.2 fun v153=>.setN Tc.o v152 (s.2.2.toNat) ({ v153 with fak:=(w1 v148.1) }:Tc) fun v155=>.gl Tc.o v155 s.2.2 fun v156=>.setN Tc.o v155 (s.2.2.toNat) ({ v156 with fai:=(w1 (w1 v148.1)) }:Tc) fun v158=>.gl Tc.o v158 s.2.2 fun v159=>.setN Tc.o v158 (s.2.2.toNat) ({ v159 with faj:=(w1 (w1 (w1 v148.1))) }:Tc) fun v161=>.gl Tc.o v161 s.2.2 fun v162=>.setN Tc.o v161 (s.2.2.toNat) ({ v162 with faa:=(w1 (w1 (w1 (w1 v148.1)))) }:Tc) fun v164=>.gl Tc.o v164 s.2.2 fun v165=>.setN Tc.o v164 (s.2.2.toNat) ({ v165 with fad:=(w1 (w1 (w1 (w1 (w1 v148.1))))) }:Tc) fun v167=>.gl Tc.o v167 s.2.2 fun v168=>.setN Tc.o v167 (s.2.2.toNat) ({ v168 with fac:=(w1 (w1 (w1 (w1 (w1 (w1 v148.1)))))) }:Tc) fun v170=>.lfA (yex) (.inl (v170,(w1 (w1 (w1 (w1 (w1 (w1 (w1 v148.1))))))),(w1 s.2.2))))<|.lfA (yex) (.inr (s.1,s.2.1,s.2.2)))) (by kernel_rfl) (fun s=>lB<|bR (gU<|lK fun v117 h118=>lD h118<|⟨rfl,lD h118<|lD h118<|cE qww fun v119=>hS fun v120=>sK<|gL fun v121=>sN fun v123=>gL fun v124=>sN fun v126=>gL fun v127=>sN fun v129=>gL fun v130=>sN fun v132=>gL fun v133=>sN fun v135=>gL fun v136=>sN fun v138=>gL fun v139=>sN fun v141=>gU<|lK fun v142 h143=>lD h143<|⟨rfl,lD h143<|lD h143<|cE yv6 fun v144=>hS fun v145=>gU<|lK fun v146 h147=>lD h147<|⟨rfl,lD h147<|lD h147<|cE ytv fun v148=>hS fun v149=>gL fun v150=>sN fun v152=>gL fun v153=>sN fun v155=>gL fun v156=>sN fun v158=>gL fun v159=>sN fun v161=>gL fun v162=>sN fun v164=>gL fun v165=>sN fun v167=>gL fun v168=>sN fun v170=>rfl⟩⟩⟩)<|rfl) (fun _=>rfl) BIG s)
def qi9:(Int×List Tc)->V×List (List V):=fun r=>(.tup [.int .i64 r.1,.tup [.own 17 (r.2.map Tc.o)]],[])
def yyb (v1:List Tc) (v2:Int):Option (Int×List Tc):=(zuq (v1,v2,0)).bind fun v171=>(some (v171.2.1,v171.1))
def qd9 (v1:List Tc) (v2:Int):Ctr:=⟨111,[.own 17 (v1.map Tc.o),.I v2],[[.gone]],Int×List Tc,yyb v1 v2,qi9⟩
theorem qoo {v1:List Tc} {v2:Int}:(qd9 v1 v2).ok tab:=okL_of rfl rfl rfl (.lp (ygh (v1,v2,0)) fun(v171:List Tc×Int×Int)=>.segA Tc.o v171.1<|.lfA qi9 (v171.2.1,v171.1):Tree (Int×List Tc) _) (by kernel_rfl) (lP ysw fun v171=>sA<|rfl)
def qjm:(Int×Th)->V×List (List V):=fun r=>(.tup [.int .i64 r.1,.tup [r.2.o]],[])
def yvq (v1:Th) (v2:Int):Option (Int×Th):=(qbg v1.fj v2).bind fun v3=>((qbk v1.fh v3.1).bind fun v4=>((yyb v1.fi v4.1).bind fun v5=>(if ((v1.fj.ft.map Td.i).length)<=(v3.2.ft.map Td.i).length then(if ((v1.fh.fg.map Tb.o).length)<=(v4.2.fg.map Tb.o).length then(if ((v1.fi.map Tc.o).length)<=(v5.2.map Tc.o).length then(some (v5.1,({ v1 with fj:=({ v1.fj with ft:=((v3.2.ft.take ((v1.fj.ft.map Td.i).length)).drop 0) }:Tl),fh:=(⟨v1.fh.faa,((v4.2.fg.take ((v1.fh.fg.map Tb.o).length)).drop 0)⟩:Ti),fi:=((v5.2.take ((v1.fi.map Tc.o).length)).drop 0) }:Th))) else none) else none) else none)))
def qbh (v1:Th) (v2:Int):Ctr:=⟨45,[v1.o,.I v2],[[.gone]],Int×Th,yvq v1 v2,qjm⟩
theorem qi5 {v1:Th} {v2:Int}:(qbh v1 v2).ok tab:=okL_of rfl rfl rfl (.segA Td.i v1.fj.ft<|.segA Tb.o v1.fh.fg<|.segA Tc.o v1.fi<|.ob ((v1.fj.ft.map Td.i).length=List.length ((v1.fj.ft.map Td.i)))<|.call (qks v1.fj v2) fun(v3:Int×Tl)=>.ob ((v1.fh.fg.map Tb.o).length=List.length ((v1.fh.fg.map Tb.o)))<|.call (qfo v1.fh v3.1) fun(v4:Int×Ti)=>.ob ((v1.fi.map Tc.o).length=List.length ((v1.fi.map Tc.o)))<|.call (qd9 v1.fi v4.1) fun(v5:Int×List Tc)=>.segB Td.i v3.2.ft 0 ((v1.fj.ft.map Td.i).length)<|.segB Tb.o v4.2.fg 0 ((v1.fh.fg.map Tb.o).length)<|.segB Tc.o v5.2 0 ((v1.fi.map Tc.o).length)<|.lfA qjm (v5.1,({ v1 with fj:=({ v1.fj with ft:=((v3.2.ft.take ((v1.fj.ft.map Td.i).length)).drop 0) }:Tl),fh:=(⟨v1.fh.faa,((v4.2.fg.take ((v1.fh.fg.map Tb.o).length)).drop 0)⟩:Ti),fi:=((v5.2.take ((v1.fi.map Tc.o).length)).drop 0) }:Th)):Tree (Int×Th) _) (by kernel_rfl) (sA<|sA<|sA<|⟨rfl,cE qo2 fun v3=>⟨rfl,cE qx4 fun v4=>⟨rfl,cE qoo fun v5=>fun h6=>⟨zjn _ _ _ h6,fun h7=>⟨zjn _ _ _ h7,fun h8=>⟨zjn _ _ _ h8,rfl⟩⟩⟩⟩⟩⟩)
def ztf (v1:List Td) (k:Int) (s:Int):St:=⟨sv 12 [(0,.imm 7 (v1.map Td.i)),(1,.I s),(3,.I k)],[]⟩
def zpj (v1:List Td):(Int×Int×Bool×V×V×V×V×V×V)->Ex×St:=fun p=>(.ret,⟨sv 12 [(0,.imm 7 (v1.map Td.i)),(1,.I p.1),(2,.I (-1)),(3,.I p.2.1),(4,.bool true),(5,.bool p.2.2.1),(6,p.2.2.2.1),(7,p.2.2.2.2.1),(8,p.2.2.2.2.2.1),(9,p.2.2.2.2.2.2.1),(10,p.2.2.2.2.2.2.2.1),(11,p.2.2.2.2.2.2.2.2)],[]⟩)
def zqh (v1:List Td):Int->Ex×St:=fun p=>((.exit 0),⟨sv 12 [(0,.imm 7 (v1.map Td.i)),(1,.I p),(3,.I (v1.length:Int)),(4,.bool false)],[]⟩)
def zeu (v1:List Td) (k:Int):=zb9 (ztf v1 k) (Sum.elim (zpj v1) (zqh v1))
def zus (v1:List Td) (k:Int) (x:Td) (s:Int):Option ((Int)⊕((Int×Int×Bool×V×V×V×V×V×V)⊕Int)):=bif decide (x.fo≠s) then(some (.inr (.inl (s,k,true,gn,gn,gn,gn,gn,gn)))) else(bif decide (x.fau≠(w1 s)) then(some (.inr (.inl ((w1 s),k,false,bt,gn,gn,gn,gn,gn)))) else(bif decide (x.fag≠(w1 (w1 s))) then(some (.inr (.inl ((w1 (w1 s)),k,false,bf,bt,gn,gn,gn,gn)))) else(bif decide (x.fal≠(w1 (w1 (w1 s)))) then(some (.inr (.inl ((w1 (w1 (w1 s))),k,false,bf,bf,bt,gn,gn,gn)))) else(bif decide (x.faf≠(w1 (w1 (w1 (w1 s))))) then(some (.inr (.inl ((w1 (w1 (w1 (w1 s)))),k,false,bf,bf,bf,bt,gn,gn)))) else(bif decide (x.fav≠(w1 (w1 (w1 (w1 (w1 s)))))) then(some (.inr (.inl ((w1 (w1 (w1 (w1 (w1 s))))),k,false,bf,bf,bf,bf,bt,gn)))) else(bif decide (x.fam≠(w1 (w1 (w1 (w1 (w1 (w1 s))))))) then(some (.inr (.inl ((w1 (w1 (w1 (w1 (w1 (w1 s)))))),k,false,bf,bf,bf,bf,bf,bt)))) else(some (.inl (w1 (w1 (w1 (w1 (w1 (w1 (w1 s)))))))))))))))
def yd5 (v1:List Td) (s:Int):Option ((Int×Int×Bool×V×V×V×V×V×V)⊕Int):=some ((.inr s))
def zu9 (v1:List Td) (s:Int):Option ((Int×Int×Bool×V×V×V×V×V×V)⊕Int):=if v1.length<=9223372036854775806 then za5 (zus v1) (yd5 v1) v1 0 s else none
def yd0 (v1:List Td) (s:Int):Lc2:=⟨12,yn7,0,[2,4,5,6,7,8,9,10,11],some (ztf v1 0 s),Int×Int×Bool×V×V×V×V×V×V,Int,zu9 v1 s,zpj v1,zqh v1⟩
theorem yqj {v1:List Td} {s:Int}:(yd0 v1 s).ok tab:=zap (list_oky (J:=ztf v1) (o:=(Sum.elim (zpj v1) (zqh v1))) v1 (B:=fun k x s=>(.hT Td.i v1 k<|.kx Td.i v1 k x<|.br (decide (x.fo≠s)) (.lfA (zeu v1 (w1 k)) (.inr (.inl (s,k,true,gn,gn,gn,gn,gn,gn))))<|.kx Td.i v1 k x<|.br (decide (x.fau≠(w1 s))) (.lfA (zeu v1 (w1 k)) (.inr (.inl ((w1 s),k,false,bt,gn,gn,gn,gn,gn))))<|.kx Td.i v1 k x<|.br (decide (x.fag≠(w1 (w1 s)))) (.lfA (zeu v1 (w1 k)) (.inr (.inl ((w1 (w1 s)),k,false,bf,bt,gn,gn,gn,gn))))<|.kx Td.i v1 k x<|.br (decide (x.fal≠(w1 (w1 (w1 s))))) (.lfA (zeu v1 (w1 k)) (.inr (.inl ((w1 (w1 (w1 s))),k,false,bf,bf,bt,gn,gn,gn))))<|.kx Td.i v1 k x<|.br (decide (x.faf≠(w1 (w1 (w1 (w1 s)))))) (.lfA (zeu v1 (w1 k)) (.inr (.inl ((w1 (w1 (w1 (w1 s)))),k,false,bf,bf,bf,bt,gn,gn))))<|.kx Td.i v1 k x<|.br (decide (x.fav≠(w1 (w1 (w1 (w1 (w1 s))))))) (.lfA (zeu v1 (w1 k)) (.inr (.inl ((w1 (w1 (w1 (w1 (w1 s))))),k,false,bf,bf,bf,bf,bt,gn))))<|.kx Td.i v1 k x<|.br (decide (x.fam≠(w1 (w1 (w1 (w1 (w1 (w1 s)))))))) (.lfA (zeu v1 (w1 k)) (.inr (.inl ((w1 (w1 (w1 (w1 (w1 (w1 s)))))),k,false,bf,bf,bf,bf,bf,bt))))<|.lfA (zeu v1 (w1 k)) (.inl (w1 (w1 (w1 (w1 (w1 (w1 (w1 s)))))))))) (E:=fun s=>(.hE Td.i v1<|.lfA (zeu v1 0) (.inr (.inr s)))) (by kernel_rfl) (fun d x t s he=>hD he<|kX he<|bR rfl<|kX he<|bR rfl<|kX he<|bR rfl<|kX he<|bR rfl<|kX he<|bR rfl<|kX he<|bR rfl<|kX he<|bR rfl<|rfl) (ho2 (fun _=>rfl) fun _=>rfl) (fun s=>hZ rfl) s)
def yyq (v1:List Td) (v2:Int):Option Int:=(zu9 v1 v2).bind (zbw (fun (v33:Int×Int×Bool×V×V×V×V×V×V)=>(some (-1))) (fun (v34:Int)=>(some v34)))
def qgc (v1:List Td) (v2:Int):Ctr:=⟨194,[.imm 7 (v1.map Td.i),.I v2],[],Int,yyq v1 v2,rI⟩
theorem qph {v1:List Td} {v2:Int}:(qgc v1 v2).okF tab:=okF_of rfl rfl (.lp2 (yd0 v1 v2) (fun (v33:Int×Int×Bool×V×V×V×V×V×V)=>.lfA rI (-1)) (fun (v34:Int)=>.lfA rI v34):Tree Int _) (by kernel_rfl) (lQ yqj (fun v33=>rfl) (fun v34=>rfl))
def qcn (v1:Tl) (v2:Int):Option Int:=(yyq v1.ft v2).bind fun v3=>(bif decide (v3<0) then(some (-1)) else(some v3))
def qd1 (v1:Tl) (v2:Int):Ctr:=⟨112,[v1.i,.I v2],[],Int,qcn v1 v2,rI⟩
theorem qxv {v1:Tl} {v2:Int}:(qd1 v1 v2).okF tab:=okF_of rfl rfl (.callF (qgc v1.ft v2) fun(v3:Int)=>.br (decide (v3<0)) (.lfA rI (-1))<|.lfA rI v3:Tree Int _) (by kernel_rfl) (cF qph fun v3=>bR rfl<|rfl)
def zvk (v1:List Int) (k:Int) (s:Int):St:=⟨sv 6 [(0,.imm 1 (v1.map (V.int .i64))),(1,.I s),(3,.I k)],[]⟩
def zp9 (v1:List Int):(Int×Int)->Ex×St:=fun p=>(.ret,⟨sv 6 [(0,.imm 1 (v1.map (V.int .i64))),(1,.I p.1),(2,.I (-1)),(3,.I p.2),(4,.bool true),(5,.bool true)],[]⟩)
def zph (v1:List Int):Int->Ex×St:=fun p=>((.exit 0),⟨sv 6 [(0,.imm 1 (v1.map (V.int .i64))),(1,.I p),(3,.I (v1.length:Int)),(4,.bool false)],[]⟩)
def zve (v1:List Int) (k:Int):=zb9 (zvk v1 k) (Sum.elim (zp9 v1) (zph v1))
def zum (v1:List Int) (k:Int) (x:Int) (s:Int):Option ((Int)⊕((Int×Int)⊕Int)):=bif decide (x≠s) then(some (.inr (.inl (s,k)))) else(some (.inl (w1 s)))
def ydc (v1:List Int) (s:Int):Option ((Int×Int)⊕Int):=some ((.inr s))
def ztm (v1:List Int) (s:Int):Option ((Int×Int)⊕Int):=if v1.length<=9223372036854775806 then za5 (zum v1) (ydc v1) v1 0 s else none
def yi4 (v1:List Int) (s:Int):Lc2:=⟨6,ynn,0,[2,4,5],some (zvk v1 0 s),Int×Int,Int,ztm v1 s,zp9 v1,zph v1⟩
theorem yr7 {v1:List Int} {s:Int}:(yi4 v1 s).ok tab:=zap (list_oky (J:=zvk v1) (o:=(Sum.elim (zp9 v1) (zph v1))) v1 (B:=fun k x s=>(.hT (V.int .i64) v1 k<|.kx (V.int .i64) v1 k x<|.br (decide (x≠s)) (.lfA (zve v1 (w1 k)) (.inr (.inl (s,k))))<|.lfA (zve v1 (w1 k)) (.inl (w1 s)))) (E:=fun s=>(.hE (V.int .i64) v1<|.lfA (zve v1 0) (.inr (.inr s)))) (by kernel_rfl) (fun d x t s he=>hD he<|kX he<|bR rfl<|rfl) (ho2 (fun _=>rfl) fun _=>rfl) (fun s=>hZ rfl) s)
def ymy (v1:List Int) (v2:Int):Option Int:=(ztm v1 v2).bind (zbw (fun (v15:Int×Int)=>(some (-1))) (fun (v16:Int)=>(some v16)))
def yug (v1:List Int) (v2:Int):Ctr:=⟨24,[.imm 1 (v1.map (V.int .i64)),.I v2],[],Int,ymy v1 v2,rI⟩
theorem yv0 {v1:List Int} {v2:Int}:(yug v1 v2).okF tab:=okF_of rfl rfl (.lp2 (yi4 v1 v2) (fun (v15:Int×Int)=>.lfA rI (-1)) (fun (v16:Int)=>.lfA rI v16):Tree Int _) (by kernel_rfl) (lQ yr7 (fun v15=>rfl) (fun v16=>rfl))
def zyf (v1:List Bool) (k:Int) (s:Int):St:=⟨sv 6 [(0,.imm 1 (v1.map V.bool)),(1,.I s),(3,.I k)],[]⟩
def znr (v1:List Bool):(Int×Int)->Ex×St:=fun p=>(.ret,⟨sv 6 [(0,.imm 1 (v1.map V.bool)),(1,.I p.1),(2,.I (-1)),(3,.I p.2),(4,.bool true),(5,.bool true)],[]⟩)
def zp0 (v1:List Bool):Int->Ex×St:=fun p=>((.exit 0),⟨sv 6 [(0,.imm 1 (v1.map V.bool)),(1,.I p),(3,.I (v1.length:Int)),(4,.bool false)],[]⟩)
def zuz (v1:List Bool) (k:Int):=zb9 (zyf v1 k) (Sum.elim (znr v1) (zp0 v1))
def zyk (v1:List Bool) (k:Int) (x:Bool) (s:Int):Option ((Int)⊕((Int×Int)⊕Int)):=bif true ^^ (x == (decide ((s.tmod 3)=0))) then(some (.inr (.inl (s,k)))) else(some (.inl (w1 s)))
def yfi (v1:List Bool) (s:Int):Option ((Int×Int)⊕Int):=some ((.inr s))
def ztq (v1:List Bool) (s:Int):Option ((Int×Int)⊕Int):=if v1.length<=9223372036854775806 then za5 (zyk v1) (yfi v1) v1 0 s else none
def yio (v1:List Bool) (s:Int):Lc2:=⟨6,ymo,0,[2,4,5],some (zyf v1 0 s),Int×Int,Int,ztq v1 s,znr v1,zp0 v1⟩
theorem ypz {v1:List Bool} {s:Int}:(yio v1 s).ok tab:=zap (list_oky (J:=zyf v1) (o:=(Sum.elim (znr v1) (zp0 v1))) v1 (B:=fun k x s=>(.hT V.bool v1 k<|.kx V.bool v1 k x<|.sk<|.br (true ^^ (x == (decide ((s.tmod 3)=0)))) (.lfA (zuz v1 (w1 k)) (.inr (.inl (s,k))))<|.lfA (zuz v1 (w1 k)) (.inl (w1 s)))) (E:=fun s=>(.hE V.bool v1<|.lfA (zuz v1 0) (.inr (.inr s)))) (by kernel_rfl) (fun d x t s he=>hD he<|kX he<|bR rfl<|rfl) (ho2 (fun _=>rfl) fun _=>rfl) (fun s=>hZ rfl) s)
def yku (v1:List Bool) (v2:Int):Option Int:=(ztq v1 v2).bind (zbw (fun (v15:Int×Int)=>(some (-1))) (fun (v16:Int)=>(some v16)))
def yt2 (v1:List Bool) (v2:Int):Ctr:=⟨127,[.imm 1 (v1.map V.bool),.I v2],[],Int,yku v1 v2,rI⟩
theorem ytm {v1:List Bool} {v2:Int}:(yt2 v1 v2).okF tab:=okF_of rfl rfl (.lp2 (yio v1 v2) (fun (v15:Int×Int)=>.lfA rI (-1)) (fun (v16:Int)=>.lfA rI v16):Tree Int _) (by kernel_rfl) (lQ ypz (fun v15=>rfl) (fun v16=>rfl))
def zxk (v1:List Tf) (k:Int) (s:Int):St:=⟨sv 13 [(0,.imm 8 (v1.map Tf.i)),(1,.I s),(3,.I k)],[]⟩
def zn2 (v1:List Tf):(Int×Int×Bool×V×V×V×V×V×V×V)->Ex×St:=fun p=>(.ret,⟨sv 13 [(0,.imm 8 (v1.map Tf.i)),(1,.I p.1),(2,.I (-1)),(3,.I p.2.1),(4,.bool true),(5,.bool p.2.2.1),(6,p.2.2.2.1),(7,p.2.2.2.2.1),(8,p.2.2.2.2.2.1),(9,p.2.2.2.2.2.2.1),(10,p.2.2.2.2.2.2.2.1),(11,p.2.2.2.2.2.2.2.2.1),(12,p.2.2.2.2.2.2.2.2.2)],[]⟩)
def zqt (v1:List Tf):Int->Ex×St:=fun p=>((.exit 0),⟨sv 13 [(0,.imm 8 (v1.map Tf.i)),(1,.I p),(3,.I (v1.length:Int)),(4,.bool false)],[]⟩)
def ze1 (v1:List Tf) (k:Int):=zb9 (zxk v1 k) (Sum.elim (zn2 v1) (zqt v1))
def zwn (v1:List Tf) (k:Int) (x:Tf) (s:Int):Option ((Int)⊕((Int×Int×Bool×V×V×V×V×V×V×V)⊕Int)):=bif decide (x.faf≠s) then(some (.inr (.inl (s,k,true,gn,gn,gn,gn,gn,gn,gn)))) else(bif decide (x.fo≠(w1 s)) then(some (.inr (.inl ((w1 s),k,false,bt,gn,gn,gn,gn,gn,gn)))) else(bif decide (x.fa.fe≠(w1 (w1 s))) then(some (.inr (.inl ((w1 (w1 s)),k,false,bf,bt,gn,gn,gn,gn,gn)))) else(bif decide (x.fa.ff≠(w1 (w1 (w1 s)))) then(some (.inr (.inl ((w1 (w1 (w1 s))),k,false,bf,bf,bt,gn,gn,gn,gn)))) else(bif decide (x.fa.fN≠(w1 (w1 (w1 (w1 s))))) then(some (.inr (.inl ((w1 (w1 (w1 (w1 s)))),k,false,bf,bf,bf,bt,gn,gn,gn)))) else((ymy x.fa.fc (w1 (w1 (w1 (w1 (w1 s)))))).bind fun v41=>(bif decide (v41<0) then(some (.inr (.inl (v41,k,false,bf,bf,bf,bf,bt,gn,gn)))) else((yku x.fa.fb v41).bind fun v44=>(bif decide (v44<0) then(some (.inr (.inl (v44,k,false,bf,bf,bf,bf,bf,bt,gn)))) else(bif decide (x.fa.fp≠v44) then(some (.inr (.inl (v44,k,false,bf,bf,bf,bf,bf,bf,bt)))) else(some (.inl (w1 v44))))))))))))
def yg0 (v1:List Tf) (s:Int):Option ((Int×Int×Bool×V×V×V×V×V×V×V)⊕Int):=some ((.inr s))
def zui (v1:List Tf) (s:Int):Option ((Int×Int×Bool×V×V×V×V×V×V×V)⊕Int):=if v1.length<=9223372036854775806 then za5 (zwn v1) (yg0 v1) v1 0 s else none
def ydr (v1:List Tf) (s:Int):Lc2:=⟨13,yob,0,[2,4,5,6,7,8,9,10,11,12],some (zxk v1 0 s),Int×Int×Bool×V×V×V×V×V×V×V,Int,zui v1 s,zn2 v1,zqt v1⟩
theorem yp7 {v1:List Tf} {s:Int}:(ydr v1 s).ok tab:=zap (list_oky (J:=zxk v1) (o:=(Sum.elim (zn2 v1) (zqt v1))) v1 (B:=fun k x s=>(.hT Tf.i v1 k<|.kx Tf.i v1 k x<|.br (decide (x.faf≠s)) (.lfA (ze1 v1 (w1 k)) (.inr (.inl (s,k,true,gn,gn,gn,gn,gn,gn,gn))))<|.kx Tf.i v1 k x<|.br (decide (x.fo≠(w1 s))) (.lfA (ze1 v1 (w1 k)) (.inr (.inl ((w1 s),k,false,bt,gn,gn,gn,gn,gn,gn))))<|.kx Tf.i v1 k x<|.br (decide (x.fa.fe≠(w1 (w1 s)))) (.lfA (ze1 v1 (w1 k)) (.inr (.inl ((w1 (w1 s)),k,false,bf,bt,gn,gn,gn,gn,gn))))<|.kx Tf.i v1 k x<|.br (decide (x.fa.ff≠(w1 (w1 (w1 s))))) (.lfA (ze1 v1 (w1 k)) (.inr (.inl ((w1 (w1 (w1 s))),k,false,bf,bf,bt,gn,gn,gn,gn))))<|.kx Tf.i v1 k x<|.br (decide (x.fa.fN≠(w1 (w1 (w1 (w1 s)))))) (.lfA (ze1 v1 (w1 k)) (.inr (.inl ((w1 (w1 (w1 (w1 s)))),k,false,bf,bf,bf,bt,gn,gn,gn))))<|.kx Tf.i v1 k x<|.callF (yug x.fa.fc (w1 (w1 (w1 (w1 (w1 s)))))) fun(v41:Int)=>.br (decide (v41<0)) (.lfA (ze1 v1 (w1 k)) (.inr (.inl (v41,k,false,bf,bf,bf,bf,bt,gn,gn))))<|.kx Tf.i v1 k x<|.callF (yt2 x.fa.fb v41) fun(v44:Int)=>.br (decide (v44<0)) (.lfA (ze1 v1 (w1 k)) (.inr (.inl (v44,k,false,bf,bf,bf,bf,bf,bt,gn))))<|.kx Tf.i v1 k x<|.br (decide (x.fa.fp≠v44)) (.lfA (ze1 v1 (w1 k)) (.inr (.inl (v44,k,false,bf,bf,bf,bf,bf,bf,bt))))<|.lfA (ze1 v1 (w1 k)) (.inl (w1 v44)))) (E:=fun s=>(.hE Tf.i v1<|.lfA (ze1 v1 0) (.inr (.inr s)))) (by kernel_rfl) (fun d x t s he=>hD he<|kX he<|bR rfl<|kX he<|bR rfl<|kX he<|bR rfl<|kX he<|bR rfl<|kX he<|bR rfl<|kX he<|cF yv0 fun v41=>bR rfl<|kX he<|cF ytm fun v44=>bR rfl<|kX he<|bR rfl<|rfl) (ho2 (fun _=>rfl) fun _=>rfl) (fun s=>hZ rfl) s)
def yzu (v1:List Tf) (v2:Int):Option Int:=(zui v1 v2).bind (zbw (fun (v48:Int×Int×Bool×V×V×V×V×V×V×V)=>(some (-1))) (fun (v49:Int)=>(some v49)))
def qfx (v1:List Tf) (v2:Int):Ctr:=⟨128,[.imm 8 (v1.map Tf.i),.I v2],[],Int,yzu v1 v2,rI⟩
theorem qrt {v1:List Tf} {v2:Int}:(qfx v1 v2).okF tab:=okF_of rfl rfl (.lp2 (ydr v1 v2) (fun (v48:Int×Int×Bool×V×V×V×V×V×V×V)=>.lfA rI (-1)) (fun (v49:Int)=>.lfA rI v49):Tree Int _) (by kernel_rfl) (lQ yp7 (fun v48=>rfl) (fun v49=>rfl))
def zxt (v1:List Te) (k:Int) (s:Int):St:=⟨sv 11 [(0,.imm 6 (v1.map Te.i)),(1,.I s),(3,.I k)],[]⟩
def zoa (v1:List Te):(Int×Int×Bool×V×V×V×V×V)->Ex×St:=fun p=>(.ret,⟨sv 11 [(0,.imm 6 (v1.map Te.i)),(1,.I p.1),(2,.I (-1)),(3,.I p.2.1),(4,.bool true),(5,.bool p.2.2.1),(6,p.2.2.2.1),(7,p.2.2.2.2.1),(8,p.2.2.2.2.2.1),(9,p.2.2.2.2.2.2.1),(10,p.2.2.2.2.2.2.2)],[]⟩)
def zr8 (v1:List Te):Int->Ex×St:=fun p=>((.exit 0),⟨sv 11 [(0,.imm 6 (v1.map Te.i)),(1,.I p),(3,.I (v1.length:Int)),(4,.bool false)],[]⟩)
def zfk (v1:List Te) (k:Int):=zb9 (zxt v1 k) (Sum.elim (zoa v1) (zr8 v1))
def zup (v1:List Te) (k:Int) (x:Te) (s:Int):Option ((Int)⊕((Int×Int×Bool×V×V×V×V×V)⊕Int)):=bif decide (x.fe≠s) then(some (.inr (.inl (s,k,true,gn,gn,gn,gn,gn)))) else(bif decide (x.fae≠(w1 s)) then(some (.inr (.inl ((w1 s),k,false,bt,gn,gn,gn,gn)))) else(bif decide (x.ff≠(w1 (w1 s))) then(some (.inr (.inl ((w1 (w1 s)),k,false,bf,bt,gn,gn,gn)))) else(bif decide (x.fN≠(w1 (w1 (w1 s)))) then(some (.inr (.inl ((w1 (w1 (w1 s))),k,false,bf,bf,bt,gn,gn)))) else((ymy x.fc (w1 (w1 (w1 (w1 s))))).bind fun v36=>(bif decide (v36<0) then(some (.inr (.inl (v36,k,false,bf,bf,bf,bt,gn)))) else((yku x.fb v36).bind fun v39=>(bif decide (v39<0) then(some (.inr (.inl (v39,k,false,bf,bf,bf,bf,bt)))) else(some (.inl v39)))))))))
def ycx (v1:List Te) (s:Int):Option ((Int×Int×Bool×V×V×V×V×V)⊕Int):=some ((.inr s))
def zug (v1:List Te) (s:Int):Option ((Int×Int×Bool×V×V×V×V×V)⊕Int):=if v1.length<=9223372036854775806 then za5 (zup v1) (ycx v1) v1 0 s else none
def yep (v1:List Te) (s:Int):Lc2:=⟨11,ymw,0,[2,4,5,6,7,8,9,10],some (zxt v1 0 s),Int×Int×Bool×V×V×V×V×V,Int,zug v1 s,zoa v1,zr8 v1⟩
theorem yr8 {v1:List Te} {s:Int}:(yep v1 s).ok tab:=zap (list_oky (J:=zxt v1) (o:=(Sum.elim (zoa v1) (zr8 v1))) v1 (B:=fun k x s=>(.hT Te.i v1 k<|.kx Te.i v1 k x<|.br (decide (x.fe≠s)) (.lfA (zfk v1 (w1 k)) (.inr (.inl (s,k,true,gn,gn,gn,gn,gn))))<|.kx Te.i v1 k x<|.br (decide (x.fae≠(w1 s))) (.lfA (zfk v1 (w1 k)) (.inr (.inl ((w1 s),k,false,bt,gn,gn,gn,gn))))<|.kx Te.i v1 k x<|.br (decide (x.ff≠(w1 (w1 s)))) (.lfA (zfk v1 (w1 k)) (.inr (.inl ((w1 (w1 s)),k,false,bf,bt,gn,gn,gn))))<|.kx Te.i v1 k x<|.br (decide (x.fN≠(w1 (w1 (w1 s))))) (.lfA (zfk v1 (w1 k)) (.inr (.inl ((w1 (w1 (w1 s))),k,false,bf,bf,bt,gn,gn))))<|.kx Te.i v1 k x<|.callF (yug x.fc (w1 (w1 (w1 (w1 s))))) fun(v36:Int)=>.br (decide (v36<0)) (.lfA (zfk v1 (w1 k)) (.inr (.inl (v36,k,false,bf,bf,bf,bt,gn))))<|.kx Te.i v1 k x<|.callF (yt2 x.fb v36) fun(v39:Int)=>.br (decide (v39<0)) (.lfA (zfk v1 (w1 k)) (.inr (.inl (v39,k,false,bf,bf,bf,bf,bt))))<|.lfA (zfk v1 (w1 k)) (.inl v39))) (E:=fun s=>(.hE Te.i v1<|.lfA (zfk v1 0) (.inr (.inr s)))) (by kernel_rfl) (fun d x t s he=>hD he<|kX he<|bR rfl<|kX he<|bR rfl<|kX he<|bR rfl<|kX he<|bR rfl<|kX he<|cF yv0 fun v36=>bR rfl<|kX he<|cF ytm fun v39=>bR rfl<|rfl) (ho2 (fun _=>rfl) fun _=>rfl) (fun s=>hZ rfl) s)
def yzz (v1:List Te) (v2:Int):Option Int:=(zug v1 v2).bind (zbw (fun (v42:Int×Int×Bool×V×V×V×V×V)=>(some (-1))) (fun (v43:Int)=>(some v43)))
def qh8 (v1:List Te) (v2:Int):Ctr:=⟨129,[.imm 6 (v1.map Te.i),.I v2],[],Int,yzz v1 v2,rI⟩
theorem qr6 {v1:List Te} {v2:Int}:(qh8 v1 v2).okF tab:=okF_of rfl rfl (.lp2 (yep v1 v2) (fun (v42:Int×Int×Bool×V×V×V×V×V)=>.lfA rI (-1)) (fun (v43:Int)=>.lfA rI v43):Tree Int _) (by kernel_rfl) (lQ yr8 (fun v42=>rfl) (fun v43=>rfl))
def zwq (v1:List Tb) (k:Int) (s:Int):St:=⟨sv 18 [(0,.imm 13 (v1.map Tb.i)),(1,.I s),(3,.I k)],[]⟩
def zmw (v1:List Tb):(Int×Int×Bool×V×V×V×V×V×V×V×V×V×V×V×V)->Ex×St:=fun p=>(.ret,⟨sv 18 [(0,.imm 13 (v1.map Tb.i)),(1,.I p.1),(2,.I (-1)),(3,.I p.2.1),(4,.bool true),(5,.bool p.2.2.1),(6,p.2.2.2.1),(7,p.2.2.2.2.1),(8,p.2.2.2.2.2.1),(9,p.2.2.2.2.2.2.1),(10,p.2.2.2.2.2.2.2.1),(11,p.2.2.2.2.2.2.2.2.1),(12,p.2.2.2.2.2.2.2.2.2.1),(13,p.2.2.2.2.2.2.2.2.2.2.1),(14,p.2.2.2.2.2.2.2.2.2.2.2.1),(15,p.2.2.2.2.2.2.2.2.2.2.2.2.1),(16,p.2.2.2.2.2.2.2.2.2.2.2.2.2.1),(17,p.2.2.2.2.2.2.2.2.2.2.2.2.2.2)],[]⟩)
def zmo (v1:List Tb):Int->Ex×St:=fun p=>((.exit 0),⟨sv 18 [(0,.imm 13 (v1.map Tb.i)),(1,.I p),(3,.I (v1.length:Int)),(4,.bool false)],[]⟩)
def zcd (v1:List Tb) (k:Int):=zb9 (zwq v1 k) (Sum.elim (zmw v1) (zmo v1))
def zy9 (v1:List Tb) (k:Int) (x:Tb) (s:Int):Option ((Int)⊕((Int×Int×Bool×V×V×V×V×V×V×V×V×V×V×V×V)⊕Int)):=bif decide (x.fk≠s) then(some (.inr (.inl (s,k,true,gn,gn,gn,gn,gn,gn,gn,gn,gn,gn,gn,gn)))) else(bif decide (x.fan≠(w1 s)) then(some (.inr (.inl ((w1 s),k,false,bt,gn,gn,gn,gn,gn,gn,gn,gn,gn,gn,gn)))) else(bif decide (x.fao≠(w1 (w1 s))) then(some (.inr (.inl ((w1 (w1 s)),k,false,bf,bt,gn,gn,gn,gn,gn,gn,gn,gn,gn,gn)))) else(bif decide (x.fo≠(w1 (w1 (w1 s)))) then(some (.inr (.inl ((w1 (w1 (w1 s))),k,false,bf,bf,bt,gn,gn,gn,gn,gn,gn,gn,gn,gn)))) else(bif decide (x.fa.fe≠(w1 (w1 (w1 (w1 s))))) then(some (.inr (.inl ((w1 (w1 (w1 (w1 s)))),k,false,bf,bf,bf,bt,gn,gn,gn,gn,gn,gn,gn,gn)))) else(bif decide (x.fa.ff≠(w1 (w1 (w1 (w1 (w1 s)))))) then(some (.inr (.inl ((w1 (w1 (w1 (w1 (w1 s))))),k,false,bf,bf,bf,bf,bt,gn,gn,gn,gn,gn,gn,gn)))) else(bif decide (x.fa.fN≠(w1 (w1 (w1 (w1 (w1 (w1 s))))))) then(some (.inr (.inl ((w1 (w1 (w1 (w1 (w1 (w1 s)))))),k,false,bf,bf,bf,bf,bf,bt,gn,gn,gn,gn,gn,gn)))) else((ymy x.fa.fc (w1 (w1 (w1 (w1 (w1 (w1 (w1 s)))))))).bind fun v65=>(bif decide (v65<0) then(some (.inr (.inl (v65,k,false,bf,bf,bf,bf,bf,bf,bt,gn,gn,gn,gn,gn)))) else((yku x.fa.fb v65).bind fun v68=>(bif decide (v68<0) then(some (.inr (.inl (v68,k,false,bf,bf,bf,bf,bf,bf,bf,bt,gn,gn,gn,gn)))) else(bif decide (x.fa.fp≠v68) then(some (.inr (.inl (v68,k,false,bf,bf,bf,bf,bf,bf,bf,bf,bt,gn,gn,gn)))) else((yzu x.fq (w1 v68)).bind fun v72=>(bif decide (v72<0) then(some (.inr (.inl (v72,k,false,bf,bf,bf,bf,bf,bf,bf,bf,bf,bt,gn,gn)))) else((yku x.fw v72).bind fun v75=>(bif decide (v75<0) then(some (.inr (.inl (v75,k,false,bf,bf,bf,bf,bf,bf,bf,bf,bf,bf,bt,gn)))) else((yzz x.fab v75).bind fun v78=>(bif decide (v78<0) then(some (.inr (.inl (v78,k,false,bf,bf,bf,bf,bf,bf,bf,bf,bf,bf,bf,bt)))) else(some (.inl v78)))))))))))))))))))
def yih (v1:List Tb) (s:Int):Option ((Int×Int×Bool×V×V×V×V×V×V×V×V×V×V×V×V)⊕Int):=some ((.inr s))
def zwc (v1:List Tb) (s:Int):Option ((Int×Int×Bool×V×V×V×V×V×V×V×V×V×V×V×V)⊕Int):=if v1.length<=9223372036854775806 then za5 (zy9 v1) (yih v1) v1 0 s else none
def yg3 (v1:List Tb) (s:Int):Lc2:=⟨18,ymv,0,[2,4,5,6,7,8,9,10,11,12,13,14,15,16,17],some (zwq v1 0 s),Int×Int×Bool×V×V×V×V×V×V×V×V×V×V×V×V,Int,zwc v1 s,zmw v1,zmo v1⟩
theorem yp6 {v1:List Tb} {s:Int}:(yg3 v1 s).ok tab:=zap (list_oky (J:=zwq v1) (o:=(Sum.elim (zmw v1) (zmo v1))) v1 (B:=fun k x s=>(.hT Tb.i v1 k<|.kx Tb.i v1 k x<|.br (decide (x.fk≠s)) (.lfA (zcd v1 (w1 k)) (.inr (.inl (s,k,true,gn,gn,gn,gn,gn,gn,gn,gn,gn,gn,gn,gn))))<|.kx Tb.i v1 k x<|.br (decide (x.fan≠(w1 s))) (.lfA (zcd v1 (w1 k)) (.inr (.inl ((w1 s),k,false,bt,gn,gn,gn,gn,gn,gn,gn,gn,gn,gn,gn))))<|.kx Tb.i v1 k x<|.br (decide (x.fao≠(w1 (w1 s)))) (.lfA (zcd v1 (w1 k)) (.inr (.inl ((w1 (w1 s)),k,false,bf,bt,gn,gn,gn,gn,gn,gn,gn,gn,gn,gn))))<|.kx Tb.i v1 k x<|.br (decide (x.fo≠(w1 (w1 (w1 s))))) (.lfA (zcd v1 (w1 k)) (.inr (.inl ((w1 (w1 (w1 s))),k,false,bf,bf,bt,gn,gn,gn,gn,gn,gn,gn,gn,gn))))<|.kx Tb.i v1 k x<|.br (decide (x.fa.fe≠(w1 (w1 (w1 (w1 s)))))) (.lfA (zcd v1 (w1 k)) (.inr (.inl ((w1 (w1 (w1 (w1 s)))),k,false,bf,bf,bf,bt,gn,gn,gn,gn,gn,gn,gn,gn))))<|.kx Tb.i v1 k x<|.br (decide (x.fa.ff≠(w1 (w1 (w1 (w1 (w1 s))))))) (.lfA (zcd v1 (w1 k)) (.inr (.inl ((w1 (w1 (w1 (w1 (w1 s))))),k,false,bf,bf,bf,bf,bt,gn,gn,gn,gn,gn,gn,gn))))<|.kx Tb.i v1 k x<|.br (decide (x.fa.fN≠(w1 (w1 (w1 (w1 (w1 (w1 s)))))))) (.lfA (zcd v1 (w1 k)) (.inr (.inl ((w1 (w1 (w1 (w1 (w1 (w1 s)))))),k,false,bf,bf,bf,bf,bf,bt,gn,gn,gn,gn,gn,gn))))<|.kx Tb.i v1 k x<|.callF (yug x.fa.fc (w1 (w1 (w1 (w1 (w1 (w1 (w1 s)))))))) fun(v65:Int)=>.br (decide (v65<0)) (.lfA (zcd v1 (w1 k)) (.inr (.inl (v65,k,false,bf,bf,bf,bf,bf,bf,bt,gn,gn,gn,gn,gn))))<|.kx Tb.i v1 k x<|.callF (yt2 x.fa.fb v65) fun(v68:Int)=>.br (decide (v68<0)) (.lfA (zcd v1 (w1 k)) (.inr (.inl (v68,k,false,bf,bf,bf,bf,bf,bf,bf,bt,gn,gn,gn,gn))))<|.kx Tb.i v1 k x<|.br (decide (x.fa.fp≠v68)) (.lfA (zcd v1 (w1 k)) (.inr (.inl (v68,k,false,bf,bf,bf,bf,bf,bf,bf,bf,bt,gn,gn,gn))))<|.kx Tb.i v1 k x<|.callF (qfx x.fq (w1 v68)) fun(v72:Int)=>.br (decide (v72<0)) (.lfA (zcd v1 (w1 k)) (.inr (.inl (v72,k,false,bf,bf,bf,bf,bf,bf,bf,bf,bf,bt,gn,gn))))<|.kx Tb.i v1 k x<|.callF (yt2 x.fw v72) fun(v75:Int)=>.br (decide (v75<0)) (.lfA (zcd v1 (w1 k)) (.inr (.inl (v75,k,false,bf,bf,bf,bf,bf,bf,bf,bf,bf,bf,bt,gn))))<|.kx Tb.i v1 k x<|.callF (qh8 x.fab v75) fun(v78:Int)=>.br (decide (v78<0)) (.lfA (zcd v1 (w1 k)) (.inr (.inl (v78,k,false,bf,bf,bf,bf,bf,bf,bf,bf,bf,bf,bf,bt))))<|.lfA (zcd v1 (w1 k)) (.inl v78))) (E:=fun s=>(.hE Tb.i v1<|.lfA (zcd v1 0) (.inr (.inr s)))) (by kernel_rfl) (fun d x t s he=>hD he<|kX he<|bR rfl<|kX he<|bR rfl<|kX he<|bR rfl<|kX he<|bR rfl<|kX he<|bR rfl<|kX he<|bR rfl<|kX he<|bR rfl<|kX he<|cF yv0 fun v65=>bR rfl<|kX he<|cF ytm fun v68=>bR rfl<|kX he<|bR rfl<|kX he<|cF qrt fun v72=>bR rfl<|kX he<|cF ytm fun v75=>bR rfl<|kX he<|cF qr6 fun v78=>bR rfl<|rfl) (ho2 (fun _=>rfl) fun _=>rfl) (fun s=>hZ rfl) s)
def yxp (v1:List Tb) (v2:Int):Option Int:=(zwc v1 v2).bind (zbw (fun (v81:Int×Int×Bool×V×V×V×V×V×V×V×V×V×V×V×V)=>(some (-1))) (fun (v82:Int)=>(some v82)))
def qel (v1:List Tb) (v2:Int):Ctr:=⟨195,[.imm 13 (v1.map Tb.i),.I v2],[],Int,yxp v1 v2,rI⟩
theorem qr7 {v1:List Tb} {v2:Int}:(qel v1 v2).okF tab:=okF_of rfl rfl (.lp2 (yg3 v1 v2) (fun (v81:Int×Int×Bool×V×V×V×V×V×V×V×V×V×V×V×V)=>.lfA rI (-1)) (fun (v82:Int)=>.lfA rI v82):Tree Int _) (by kernel_rfl) (lQ yp6 (fun v81=>rfl) (fun v82=>rfl))
def qao (v1:Ti) (v2:Int):Option Int:=(yxp v1.fg v2).bind fun v3=>(bif decide (v3<0) then(some (-1)) else(some v3))
def qlh (v1:Ti) (v2:Int):Ctr:=⟨113,[v1.i,.I v2],[],Int,qao v1 v2,rI⟩
theorem qno {v1:Ti} {v2:Int}:(qlh v1 v2).okF tab:=okF_of rfl rfl (.callF (qel v1.fg v2) fun(v3:Int)=>.br (decide (v3<0)) (.lfA rI (-1))<|.lfA rI v3:Tree Int _) (by kernel_rfl) (cF qr7 fun v3=>bR rfl<|rfl)
def zt6 (v1:List Ta) (k:Int) (s:Int):St:=⟨sv 14 [(0,.imm 9 (v1.map Ta.i)),(1,.I s),(3,.I k)],[]⟩
def zq2 (v1:List Ta):(Int×Int×Bool×V×V×V×V×V×V×V×V)->Ex×St:=fun p=>(.ret,⟨sv 14 [(0,.imm 9 (v1.map Ta.i)),(1,.I p.1),(2,.I (-1)),(3,.I p.2.1),(4,.bool true),(5,.bool p.2.2.1),(6,p.2.2.2.1),(7,p.2.2.2.2.1),(8,p.2.2.2.2.2.1),(9,p.2.2.2.2.2.2.1),(10,p.2.2.2.2.2.2.2.1),(11,p.2.2.2.2.2.2.2.2.1),(12,p.2.2.2.2.2.2.2.2.2.1),(13,p.2.2.2.2.2.2.2.2.2.2)],[]⟩)
def zob (v1:List Ta):Int->Ex×St:=fun p=>((.exit 0),⟨sv 14 [(0,.imm 9 (v1.map Ta.i)),(1,.I p),(3,.I (v1.length:Int)),(4,.bool false)],[]⟩)
def zdl (v1:List Ta) (k:Int):=zb9 (zt6 v1 k) (Sum.elim (zq2 v1) (zob v1))
def zw3 (v1:List Ta) (k:Int) (x:Ta) (s:Int):Option ((Int)⊕((Int×Int×Bool×V×V×V×V×V×V×V×V)⊕Int)):=bif decide (x.fk≠s) then(some (.inr (.inl (s,k,true,gn,gn,gn,gn,gn,gn,gn,gn)))) else(bif decide (x.fr≠(w1 s)) then(some (.inr (.inl ((w1 s),k,false,bt,gn,gn,gn,gn,gn,gn,gn)))) else(bif decide (x.fo≠(w1 (w1 s))) then(some (.inr (.inl ((w1 (w1 s)),k,false,bf,bt,gn,gn,gn,gn,gn,gn)))) else(bif decide (x.fa.fe≠(w1 (w1 (w1 s)))) then(some (.inr (.inl ((w1 (w1 (w1 s))),k,false,bf,bf,bt,gn,gn,gn,gn,gn)))) else(bif decide (x.fa.ff≠(w1 (w1 (w1 (w1 s))))) then(some (.inr (.inl ((w1 (w1 (w1 (w1 s)))),k,false,bf,bf,bf,bt,gn,gn,gn,gn)))) else(bif decide (x.fa.fN≠(w1 (w1 (w1 (w1 (w1 s)))))) then(some (.inr (.inl ((w1 (w1 (w1 (w1 (w1 s))))),k,false,bf,bf,bf,bf,bt,gn,gn,gn)))) else((ymy x.fa.fc (w1 (w1 (w1 (w1 (w1 (w1 s))))))).bind fun v44=>(bif decide (v44<0) then(some (.inr (.inl (v44,k,false,bf,bf,bf,bf,bf,bt,gn,gn)))) else((yku x.fa.fb v44).bind fun v47=>(bif decide (v47<0) then(some (.inr (.inl (v47,k,false,bf,bf,bf,bf,bf,bf,bt,gn)))) else(bif decide (x.fa.fp≠v47) then(some (.inr (.inl (v47,k,false,bf,bf,bf,bf,bf,bf,bf,bt)))) else(some (.inl (w1 v47)))))))))))))
def yjd (v1:List Ta) (s:Int):Option ((Int×Int×Bool×V×V×V×V×V×V×V×V)⊕Int):=some ((.inr s))
def zyj (v1:List Ta) (s:Int):Option ((Int×Int×Bool×V×V×V×V×V×V×V×V)⊕Int):=if v1.length<=9223372036854775806 then za5 (zw3 v1) (yjd v1) v1 0 s else none
def ygo (v1:List Ta) (s:Int):Lc2:=⟨14,ymu,0,[2,4,5,6,7,8,9,10,11,12,13],some (zt6 v1 0 s),Int×Int×Bool×V×V×V×V×V×V×V×V,Int,zyj v1 s,zq2 v1,zob v1⟩
theorem yq6 {v1:List Ta} {s:Int}:(ygo v1 s).ok tab:=zap (list_oky (J:=zt6 v1) (o:=(Sum.elim (zq2 v1) (zob v1))) v1 (B:=fun k x s=>(.hT Ta.i v1 k<|.kx Ta.i v1 k x<|.br (decide (x.fk≠s)) (.lfA (zdl v1 (w1 k)) (.inr (.inl (s,k,true,gn,gn,gn,gn,gn,gn,gn,gn))))<|.kx Ta.i v1 k x<|.br (decide (x.fr≠(w1 s))) (.lfA (zdl v1 (w1 k)) (.inr (.inl ((w1 s),k,false,bt,gn,gn,gn,gn,gn,gn,gn))))<|.kx Ta.i v1 k x<|.br (decide (x.fo≠(w1 (w1 s)))) (.lfA (zdl v1 (w1 k)) (.inr (.inl ((w1 (w1 s)),k,false,bf,bt,gn,gn,gn,gn,gn,gn))))<|.kx Ta.i v1 k x<|.br (decide (x.fa.fe≠(w1 (w1 (w1 s))))) (.lfA (zdl v1 (w1 k)) (.inr (.inl ((w1 (w1 (w1 s))),k,false,bf,bf,bt,gn,gn,gn,gn,gn))))<|.kx Ta.i v1 k x<|.br (decide (x.fa.ff≠(w1 (w1 (w1 (w1 s)))))) (.lfA (zdl v1 (w1 k)) (.inr (.inl ((w1 (w1 (w1 (w1 s)))),k,false,bf,bf,bf,bt,gn,gn,gn,gn))))<|.kx Ta.i v1 k x<|.br (decide (x.fa.fN≠(w1 (w1 (w1 (w1 (w1 s))))))) (.lfA (zdl v1 (w1 k)) (.inr (.inl ((w1 (w1 (w1 (w1 (w1 s))))),k,false,bf,bf,bf,bf,bt,gn,gn,gn))))<|.kx Ta.i v1 k x<|.callF (yug x.fa.fc (w1 (w1 (w1 (w1 (w1 (w1 s))))))) fun(v44:Int)=>.br (decide (v44<0)) (.lfA (zdl v1 (w1 k)) (.inr (.inl (v44,k,false,bf,bf,bf,bf,bf,bt,gn,gn))))<|.kx Ta.i v1 k x<|.callF (yt2 x.fa.fb v44) fun(v47:Int)=>.br (decide (v47<0)) (.lfA (zdl v1 (w1 k)) (.inr (.inl (v47,k,false,bf,bf,bf,bf,bf,bf,bt,gn))))<|.kx Ta.i v1 k x<|.br (decide (x.fa.fp≠v47)) (.lfA (zdl v1 (w1 k)) (.inr (.inl (v47,k,false,bf,bf,bf,bf,bf,bf,bf,bt))))<|.lfA (zdl v1 (w1 k)) (.inl (w1 v47)))) (E:=fun s=>(.hE Ta.i v1<|.lfA (zdl v1 0) (.inr (.inr s)))) (by kernel_rfl) (fun d x t s he=>hD he<|kX he<|bR rfl<|kX he<|bR rfl<|kX he<|bR rfl<|kX he<|bR rfl<|kX he<|bR rfl<|kX he<|bR rfl<|kX he<|cF yv0 fun v44=>bR rfl<|kX he<|cF ytm fun v47=>bR rfl<|kX he<|bR rfl<|rfl) (ho2 (fun _=>rfl) fun _=>rfl) (fun s=>hZ rfl) s)
def yye (v1:List Ta) (v2:Int):Option Int:=(zyj v1 v2).bind (zbw (fun (v51:Int×Int×Bool×V×V×V×V×V×V×V×V)=>(some (-1))) (fun (v52:Int)=>(some v52)))
def qhn (v1:List Ta) (v2:Int):Ctr:=⟨196,[.imm 9 (v1.map Ta.i),.I v2],[],Int,yye v1 v2,rI⟩
theorem qy2 {v1:List Ta} {v2:Int}:(qhn v1 v2).okF tab:=okF_of rfl rfl (.lp2 (ygo v1 v2) (fun (v51:Int×Int×Bool×V×V×V×V×V×V×V×V)=>.lfA rI (-1)) (fun (v52:Int)=>.lfA rI v52):Tree Int _) (by kernel_rfl) (lQ yq6 (fun v51=>rfl) (fun v52=>rfl))
def zu1 (v1:List Tc) (k:Int) (s:Int):St:=⟨sv 22 [(0,.imm 17 (v1.map Tc.i)),(1,.I s),(3,.I k)],[]⟩
def zr3 (v1:List Tc):(Int×Int×Bool×V×V×V×V×V×V×V×V×V×V×V×V×V×V×V×V)->Ex×St:=fun p=>(.ret,⟨sv 22 [(0,.imm 17 (v1.map Tc.i)),(1,.I p.1),(2,.I (-1)),(3,.I p.2.1),(4,.bool true),(5,.bool p.2.2.1),(6,p.2.2.2.1),(7,p.2.2.2.2.1),(8,p.2.2.2.2.2.1),(9,p.2.2.2.2.2.2.1),(10,p.2.2.2.2.2.2.2.1),(11,p.2.2.2.2.2.2.2.2.1),(12,p.2.2.2.2.2.2.2.2.2.1),(13,p.2.2.2.2.2.2.2.2.2.2.1),(14,p.2.2.2.2.2.2.2.2.2.2.2.1),(15,p.2.2.2.2.2.2.2.2.2.2.2.2.1),(16,p.2.2.2.2.2.2.2.2.2.2.2.2.2.1),(17,p.2.2.2.2.2.2.2.2.2.2.2.2.2.2.1),(18,p.2.2.2.2.2.2.2.2.2.2.2.2.2.2.2.1),(19,p.2.2.2.2.2.2.2.2.2.2.2.2.2.2.2.2.1),(20,p.2.2.2.2.2.2.2.2.2.2.2.2.2.2.2.2.2.1),(21,p.2.2.2.2.2.2.2.2.2.2.2.2.2.2.2.2.2.2)],[]⟩)
def znm (v1:List Tc):Int->Ex×St:=fun p=>((.exit 0),⟨sv 22 [(0,.imm 17 (v1.map Tc.i)),(1,.I p),(3,.I (v1.length:Int)),(4,.bool false)],[]⟩)
def zbq (v1:List Tc) (k:Int):=zb9 (zu1 v1 k) (Sum.elim (zr3 v1) (znm v1))
def zvq (v1:List Tc) (k:Int) (x:Tc) (s:Int):Option ((Int)⊕((Int×Int×Bool×V×V×V×V×V×V×V×V×V×V×V×V×V×V×V×V)⊕Int)):=(yye x.fu s).bind fun v58=>(bif decide (v58<0) then(some (.inr (.inl (v58,k,true,gn,gn,gn,gn,gn,gn,gn,gn,gn,gn,gn,gn,gn,gn,gn,gn)))) else(bif true ^^ (x.fah == (decide ((v58.tmod 3)=0))) then(some (.inr (.inl (v58,k,false,bt,gn,gn,gn,gn,gn,gn,gn,gn,gn,gn,gn,gn,gn,gn,gn)))) else(bif decide (x.fd.fk≠(w1 v58)) then(some (.inr (.inl ((w1 v58),k,false,bf,bt,gn,gn,gn,gn,gn,gn,gn,gn,gn,gn,gn,gn,gn,gn)))) else(bif decide (x.fd.fr≠(w1 (w1 v58))) then(some (.inr (.inl ((w1 (w1 v58)),k,false,bf,bf,bt,gn,gn,gn,gn,gn,gn,gn,gn,gn,gn,gn,gn,gn)))) else(bif decide (x.fd.fo≠(w1 (w1 (w1 v58)))) then(some (.inr (.inl ((w1 (w1 (w1 v58))),k,false,bf,bf,bf,bt,gn,gn,gn,gn,gn,gn,gn,gn,gn,gn,gn,gn)))) else(bif decide (x.fd.fa.fe≠(w1 (w1 (w1 (w1 v58))))) then(some (.inr (.inl ((w1 (w1 (w1 (w1 v58)))),k,false,bf,bf,bf,bf,bt,gn,gn,gn,gn,gn,gn,gn,gn,gn,gn,gn)))) else(bif decide (x.fd.fa.ff≠(w1 (w1 (w1 (w1 (w1 v58)))))) then(some (.inr (.inl ((w1 (w1 (w1 (w1 (w1 v58))))),k,false,bf,bf,bf,bf,bf,bt,gn,gn,gn,gn,gn,gn,gn,gn,gn,gn)))) else(bif decide (x.fd.fa.fN≠(w1 (w1 (w1 (w1 (w1 (w1 v58))))))) then(some (.inr (.inl ((w1 (w1 (w1 (w1 (w1 (w1 v58)))))),k,false,bf,bf,bf,bf,bf,bf,bt,gn,gn,gn,gn,gn,gn,gn,gn,gn)))) else((ymy x.fd.fa.fc (w1 (w1 (w1 (w1 (w1 (w1 (w1 v58)))))))).bind fun v68=>(bif decide (v68<0) then(some (.inr (.inl (v68,k,false,bf,bf,bf,bf,bf,bf,bf,bt,gn,gn,gn,gn,gn,gn,gn,gn)))) else((yku x.fd.fa.fb v68).bind fun v71=>(bif decide (v71<0) then(some (.inr (.inl (v71,k,false,bf,bf,bf,bf,bf,bf,bf,bf,bt,gn,gn,gn,gn,gn,gn,gn)))) else(bif decide (x.fd.fa.fp≠v71) then(some (.inr (.inl (v71,k,false,bf,bf,bf,bf,bf,bf,bf,bf,bf,bt,gn,gn,gn,gn,gn,gn)))) else(bif decide (x.fak≠(w1 v71)) then(some (.inr (.inl ((w1 v71),k,false,bf,bf,bf,bf,bf,bf,bf,bf,bf,bf,bt,gn,gn,gn,gn,gn)))) else(bif decide (x.fai≠(w1 (w1 v71))) then(some (.inr (.inl ((w1 (w1 v71)),k,false,bf,bf,bf,bf,bf,bf,bf,bf,bf,bf,bf,bt,gn,gn,gn,gn)))) else(bif decide (x.faj≠(w1 (w1 (w1 v71)))) then(some (.inr (.inl ((w1 (w1 (w1 v71))),k,false,bf,bf,bf,bf,bf,bf,bf,bf,bf,bf,bf,bf,bt,gn,gn,gn)))) else(bif decide (x.faa≠(w1 (w1 (w1 (w1 v71))))) then(some (.inr (.inl ((w1 (w1 (w1 (w1 v71)))),k,false,bf,bf,bf,bf,bf,bf,bf,bf,bf,bf,bf,bf,bf,bt,gn,gn)))) else(bif decide (x.fad≠(w1 (w1 (w1 (w1 (w1 v71)))))) then(some (.inr (.inl ((w1 (w1 (w1 (w1 (w1 v71))))),k,false,bf,bf,bf,bf,bf,bf,bf,bf,bf,bf,bf,bf,bf,bf,bt,gn)))) else(bif decide (x.fac≠(w1 (w1 (w1 (w1 (w1 (w1 v71))))))) then(some (.inr (.inl ((w1 (w1 (w1 (w1 (w1 (w1 v71)))))),k,false,bf,bf,bf,bf,bf,bf,bf,bf,bf,bf,bf,bf,bf,bf,bf,bt)))) else(some (.inl (w1 (w1 (w1 (w1 (w1 (w1 (w1 v71))))))))))))))))))))))))))))
def yja (v1:List Tc) (s:Int):Option ((Int×Int×Bool×V×V×V×V×V×V×V×V×V×V×V×V×V×V×V×V)⊕Int):=some ((.inr s))
def zvd (v1:List Tc) (s:Int):Option ((Int×Int×Bool×V×V×V×V×V×V×V×V×V×V×V×V×V×V×V×V)⊕Int):=if v1.length<=9223372036854775806 then za5 (zvq v1) (yja v1) v1 0 s else none
def yco (v1:List Tc) (s:Int):Lc2:=⟨22,yno,0,[2,4,5,6,7,8,9,10,11,12,13,14,15,16,17,18,19,20,21],some (zu1 v1 0 s),Int×Int×Bool×V×V×V×V×V×V×V×V×V×V×V×V×V×V×V×V,Int,zvd v1 s,zr3 v1,znm v1⟩
theorem ysr {v1:List Tc} {s:Int}:(yco v1 s).ok tab:=zap (list_oky (J:=zu1 v1) (o:=(Sum.elim (zr3 v1) (znm v1))) v1 (B:=fun k x s=>(.hT Tc.i v1 k<|.kx Tc.i v1 k x<|.callF (qhn x.fu s) fun(v58:Int)=>.br (decide (v58<0)) (.lfA (zbq v1 (w1 k)) (.inr (.inl (v58,k,true,gn,gn,gn,gn,gn,gn,gn,gn,gn,gn,gn,gn,gn,gn,gn,gn))))<|.kx Tc.i v1 k x<|.sk<|.br (true ^^ (x.fah == (decide ((v58.tmod 3)=0)))) (.lfA (zbq v1 (w1 k)) (.inr (.inl (v58,k,false,bt,gn,gn,gn,gn,gn,gn,gn,gn,gn,gn,gn,gn,gn,gn,gn))))<|.kx Tc.i v1 k x<|.br (decide (x.fd.fk≠(w1 v58))) (.lfA (zbq v1 (w1 k)) (.inr (.inl ((w1 v58),k,false,bf,bt,gn,gn,gn,gn,gn,gn,gn,gn,gn,gn,gn,gn,gn,gn))))<|.kx Tc.i v1 k x<|.br (decide (x.fd.fr≠(w1 (w1 v58)))) (.lfA (zbq v1 (w1 k)) (.inr (.inl ((w1 (w1 v58)),k,false,bf,bf,bt,gn,gn,gn,gn,gn,gn,gn,gn,gn,gn,gn,gn,gn))))<|.kx Tc.i v1 k x<|.br (decide (x.fd.fo≠(w1 (w1 (w1 v58))))) (.lfA (zbq v1 (w1 k)) (.inr (.inl ((w1 (w1 (w1 v58))),k,false,bf,bf,bf,bt,gn,gn,gn,gn,gn,gn,gn,gn,gn,gn,gn,gn))))<|.kx Tc.i v1 k x<|.br (decide (x.fd.fa.fe≠(w1 (w1 (w1 (w1 v58)))))) (.lfA (zbq v1 (w1 k)) (.inr (.inl ((w1 (w1 (w1 (w1 v58)))),k,false,bf,bf,bf,bf,bt,gn,gn,gn,gn,gn,gn,gn,gn,gn,gn,gn))))<|.kx Tc.i v1 k x<|.br (decide (x.fd.fa.ff≠(w1 (w1 (w1 (w1 (w1 v58))))))) (.lfA (zbq v1 (w1 k)) (.inr (.inl ((w1 (w1 (w1 (w1 (w1 v58))))),k,false,bf,bf,bf,bf,bf,bt,gn,gn,gn,gn,gn,gn,gn,gn,gn,gn))))<|.kx Tc.i v1 k x<|.br (decide (x.fd.fa.fN≠(w1 (w1 (w1 (w1 (w1 (w1 v58)))))))) (.lfA (zbq v1 (w1 k)) (.inr (.inl ((w1 (w1 (w1 (w1 (w1 (w1 v58)))))),k,false,bf,bf,bf,bf,bf,bf,bt,gn,gn,gn,gn,gn,gn,gn,gn,gn))))<|.kx Tc.i v1 k x<|.callF (yug x.fd.fa.fc (w1 (w1 (w1 (w1 (w1 (w1 (w1 v58)))))))) fun(v68:Int)=>.br (decide (v68<0)) (.lfA (zbq v1 (w1 k)) (.inr (.inl (v68,k,false,bf,bf,bf,bf,bf,bf,bf,bt,gn,gn,gn,gn,gn,gn,gn,gn))))<|.kx Tc.i v1 k x<|.callF (yt2 x.fd.fa.fb v68) fun(v71:Int)=>.br (decide (v71<0)) (.lfA (zbq v1 (w1 k)) (.inr (.inl (v71,k,false,bf,bf,bf,bf,bf,bf,bf,bf,bt,gn,gn,gn,gn,gn,gn,gn))))<|.kx Tc.i v1 k x<|.br (decide (x.fd.fa.fp≠v71)) (.lfA (zbq v1 (w1 k)) (.inr (.inl (v71,k,false,bf,bf,bf,bf,bf,bf,bf,bf,bf,bt,gn,gn,gn,gn,gn,gn))))<|.kx Tc.i v1 k x<|.br (decide (x.fak≠(w1 v71))) (.lfA (zbq v1 (w1 k)) (.inr (.inl ((w1 v71),k,false,bf,bf,bf,bf,bf,bf,bf,bf,bf,bf,bt,gn,gn,gn,gn,gn))))<|.kx Tc.i v1 k x<|.br (decide (x.fai≠(w1 (w1 v71)))) (.lfA (zbq v1 (w1 k)) (.inr (.inl ((w1 (w1 v71)),k,false,bf,bf,bf,bf,bf,bf,bf,bf,bf,bf,bf,bt,gn,gn,gn,gn))))<|.kx Tc.i v1 k x<|.br (decide (x.faj≠(w1 (w1 (w1 v71))))) (.lfA (zbq v1 (w1 k)) (.inr (.inl ((w1 (w1 (w1 v71))),k,false,bf,bf,bf,bf,bf,bf,bf,bf,bf,bf,bf,bf,bt,gn,gn,gn))))<|.kx Tc.i v1 k x<|.br (decide (x.faa≠(w1 (w1 (w1 (w1 v71)))))) (.lfA (zbq v1 (w1 k)) (.inr (.inl ((w1 (w1 (w1 (w1 v71)))),k,false,bf,bf,bf,bf,bf,bf,bf,bf,bf,bf,bf,bf,bf,bt,gn,gn))))<|.kx Tc.i v1 k x<|.br (decide (x.fad≠(w1 (w1 (w1 (w1 (w1 v71))))))) (.lfA (zbq v1 (w1 k)) (.inr (.inl ((w1 (w1 (w1 (w1 (w1 v71))))),k,false,bf,bf,bf,bf,bf,bf,bf,bf,bf,bf,bf,bf,bf,bf,bt,gn))))<|.kx Tc.i v1 k x<|.br (decide (x.fac≠(w1 (w1 (w1 (w1 (w1 (w1 v71)))))))) (.lfA (zbq v1 (w1 k)) (.inr (.inl ((w1 (w1 (w1 (w1 (w1 (w1 v71)))))),k,false,bf,bf,bf,bf,bf,bf,bf,bf,bf,bf,bf,bf,bf,bf,bf,bt))))<|.lfA (zbq v1 (w1 k)) (.inl (w1 (w1 (w1 (w1 (w1 (w1 (w1 v71)))))))))) (E:=fun s=>(.hE Tc.i v1<|.lfA (zbq v1 0) (.inr (.inr s)))) (by kernel_rfl) (fun d x t s he=>hD he<|kX he<|cF qy2 fun v58=>bR rfl<|kX he<|bR rfl<|kX he<|bR rfl<|kX he<|bR rfl<|kX he<|bR rfl<|kX he<|bR rfl<|kX he<|bR rfl<|kX he<|bR rfl<|kX he<|cF yv0 fun v68=>bR rfl<|kX he<|cF ytm fun v71=>bR rfl<|kX he<|bR rfl<|kX he<|bR rfl<|kX he<|bR rfl<|kX he<|bR rfl<|kX he<|bR rfl<|kX he<|bR rfl<|kX he<|bR rfl<|rfl) (ho2 (fun _=>rfl) fun _=>rfl) (fun s=>hZ rfl) s)
def yyu (v1:List Tc) (v2:Int):Option Int:=(zvd v1 v2).bind (zbw (fun (v81:Int×Int×Bool×V×V×V×V×V×V×V×V×V×V×V×V×V×V×V×V)=>(some (-1))) (fun (v82:Int)=>(some v82)))
def qk5 (v1:List Tc) (v2:Int):Ctr:=⟨114,[.imm 17 (v1.map Tc.i),.I v2],[],Int,yyu v1 v2,rI⟩
theorem qq3 {v1:List Tc} {v2:Int}:(qk5 v1 v2).okF tab:=okF_of rfl rfl (.lp2 (yco v1 v2) (fun (v81:Int×Int×Bool×V×V×V×V×V×V×V×V×V×V×V×V×V×V×V×V)=>.lfA rI (-1)) (fun (v82:Int)=>.lfA rI v82):Tree Int _) (by kernel_rfl) (lQ ysr (fun v81=>rfl) (fun v82=>rfl))
def ytz (v1:Th) (v2:Int):Option Int:=(qcn v1.fj v2).bind fun v3=>(bif decide (v3<0) then(some (-1)) else((qao v1.fh v3).bind fun v6=>(bif decide (v6<0) then(some (-1)) else((yyu v1.fi v6).bind fun v9=>(bif decide (v9<0) then(some (-1)) else(some v9))))))
def qc4 (v1:Th) (v2:Int):Ctr:=⟨47,[v1.i,.I v2],[],Int,ytz v1 v2,rI⟩
theorem qdj {v1:Th} {v2:Int}:(qc4 v1 v2).okF tab:=okF_of rfl rfl (.callF (qd1 v1.fj v2) fun(v3:Int)=>.br (decide (v3<0)) (.lfA rI (-1))<|.callF (qlh v1.fh v3) fun(v6:Int)=>.br (decide (v6<0)) (.lfA rI (-1))<|.callF (qk5 v1.fi v6) fun(v9:Int)=>.br (decide (v9<0)) (.lfA rI (-1))<|.lfA rI v9:Tree Int _) (by kernel_rfl) (cF qxv fun v3=>bR rfl<|cF qno fun v6=>bR rfl<|cF qq3 fun v9=>bR rfl<|rfl)
def qan (v1:Th) (v2:List Td):Option Bool:=(qag v1 1048576).bind fun v3=>(bif decide (v3<0) then(some true) else((yyv v2 v3).bind fun v6=>(bif decide (v6<0) then(some true) else((ypw v1).bind fun v9=>((yok v2).bind fun v11=>((yzc v9 v11).bind fun v13=>((ypw v1).bind fun v15=>((yok v2).bind fun v17=>((ywh v15 v17).bind fun v19=>((yrl v19.1 v13.1).bind fun v21=>(bif !v21 then(some false) else(bif true ^^ (v19.2 == v13.2) then(some false) else((ypw v1).bind fun v25=>((yrl v15 v25).bind fun v27=>(bif !v27 then(some false) else((yok v2).bind fun v30=>((yur v17 v30).bind fun v32=>(bif !v32 then(some false) else((yvq v15 1).bind fun v35=>((yw6 v17 v35.1).bind fun v36=>(bif decide (v36.1<0) then(some false) else((yrl v19.1 v13.1).bind fun v38=>(bif !v38 then(some false) else((yvq v19.1 1).bind fun v41=>((ytz ({ v19.1 with fj:=({ v19.1.fj with ft:=v41.2.fj.ft }:Tl),fh:=(⟨v19.1.fh.faa,v41.2.fh.fg⟩:Ti),fi:=v41.2.fi }:Th) 1).bind fun v42=>(bif decide (v42<0) then(some false) else(bif decide (v42≠v41.1) then(some false) else((ypw v1).bind fun v46=>((yok v2).bind fun v48=>((ywh v46 v48).bind fun v50=>((yrl v50.1 v13.1).bind fun v52=>(bif !v52 then(some false) else(bif true ^^ (v50.2 == v13.2) then(some false) else((ytz ({ v19.1 with fj:=({ v19.1.fj with ft:=v41.2.fj.ft }:Tl),fh:=(⟨v19.1.fh.faa,v41.2.fh.fg⟩:Ti),fi:=v41.2.fi }:Th) 1).bind fun v56=>(bif decide (v56<0) then(some false) else(bif decide (v56≠v41.1) then(some false) else(some true)))))))))))))))))))))))))))))))))))))
def qu4 (v1:Th) (v2:List Td):Ctr:=⟨8,[v1.i,.imm 7 (v2.map Td.i)],[],Bool,qan v1 v2,rB⟩
theorem qs1 {v1:Th} {v2:List Td}:(qu4 v1 v2).okF tab:=okF_of rfl rfl (.callF (qd3 v1 1048576) fun(v3:Int)=>.br (decide (v3<0)) (.lfA rB true)<|.callF (qbl v2 v3) fun(v6:Int)=>.br (decide (v6<0)) (.lfA rB true)<|.callF (yvu v1) fun(v9:Th)=>.callF (yuc v2) fun(v11:List Td)=>.se Td.i Td.i v9.fj.ft<|.se Tb.o Tb.i v9.fh.fg<|.se Tc.o Tc.i v9.fi<|.se Td.i Td.i v11<|.callF (qkx v9 v11) fun(v13:Th×Bool)=>.segA Td.i v13.1.fj.ft<|.segA Tb.o v13.1.fh.fg<|.segA Tc.o v13.1.fi<|.segA Td.i v13.1.fj.ft<|.segA Tb.o v13.1.fh.fg<|.segA Tc.o v13.1.fi<|.segA Td.i v13.1.fj.ft<|.segA Tb.o v13.1.fh.fg<|.segA Tc.o v13.1.fi<|.callF (yvu v1) fun(v15:Th)=>.segA Td.i v15.fj.ft<|.segA Tb.o v15.fh.fg<|.segA Tc.o v15.fi<|.callF (yuc v2) fun(v17:List Td)=>.segA Td.i v17<|.se Td.i Td.i v15.fj.ft<|.se Tb.o Tb.i v15.fh.fg<|.se Tc.o Tc.i v15.fi<|.se Td.i Td.i v17<|.callF (qca v15 v17) fun(v19:Th×Bool)=>.segA Td.i v19.1.fj.ft<|.segA Tb.o v19.1.fh.fg<|.segA Tc.o v19.1.fi<|.segA Td.i v19.1.fj.ft<|.segA Tb.o v19.1.fh.fg<|.segA Tc.o v19.1.fi<|.segA Td.i v19.1.fj.ft<|.segA Tb.o v19.1.fh.fg<|.segA Tc.o v19.1.fi<|.se Td.i Td.i v19.1.fj.ft<|.se Tb.o Tb.i v19.1.fh.fg<|.se Tc.o Tc.i v19.1.fi<|.se Td.i Td.i v13.1.fj.ft<|.se Tb.o Tb.i v13.1.fh.fg<|.se Tc.o Tc.i v13.1.fi<|.callF (yvt v19.1 v13.1) fun v21=>.br (!v21) (.lfA rB false)<|.br (true ^^ (v19.2 == v13.2)) (.lfA rB false)<|.callF (yvu v1) fun(v25:Th)=>.se Td.i Td.i v15.fj.ft<|.se Tb.o Tb.i v15.fh.fg<|.se Tc.o Tc.i v15.fi<|.se Td.i Td.i v25.fj.ft<|.se Tb.o Tb.i v25.fh.fg<|.se Tc.o Tc.i v25.fi<|.callF (yvt v15 v25) fun v27=>.br (!v27) (.lfA rB false)<|.callF (yuc v2) fun(v30:List Td)=>.se Td.i Td.i v17<|.se Td.i Td.i v30<|.callF (qbe v17 v30) fun v32=>.br (!v32) (.lfA rB false)<|.ob ((v15.fj.ft.map Td.i).length=List.length ((v15.fj.ft.map Td.i)))<|.ob ((v15.fh.fg.map Tb.o).length=List.length ((v15.fh.fg.map Tb.o)))<|.ob ((v15.fi.map Tc.o).length=List.length ((v15.fi.map Tc.o)))<|.call (qbh v15 1) fun(v35:Int×Th)=>.ob ((v17.map Td.i).length=List.length ((v17.map Td.i)))<|.call (qaz v17 v35.1) fun(v36:Int×List Td)=>.br (decide (v36.1<0)) (.lfA rB false)<|.se Td.i Td.i v19.1.fj.ft<|.se Tb.o Tb.i v19.1.fh.fg<|.se Tc.o Tc.i v19.1.fi<|.se Td.i Td.i v13.1.fj.ft<|.se Tb.o Tb.i v13.1.fh.fg<|.se Tc.o Tc.i v13.1.fi<|.callF (yvt v19.1 v13.1) fun v38=>.br (!v38) (.lfA rB false)<|.kb (true ^^ (v19.2 == v13.2)) false<|.ob ((v19.1.fj.ft.map Td.i).length=List.length ((v19.1.fj.ft.map Td.i)))<|.ob ((v19.1.fh.fg.map Tb.o).length=List.length ((v19.1.fh.fg.map Tb.o)))<|.ob ((v19.1.fi.map Tc.o).length=List.length ((v19.1.fi.map Tc.o)))<|.call (qbh v19.1 1) fun(v41:Int×Th)=>.se Td.i Td.i v41.2.fj.ft<|.se Tb.o Tb.i v41.2.fh.fg<|.se Tc.o Tc.i v41.2.fi<|.callF (qc4 ({ v19.1 with fj:=({ v19.1.fj with ft:=v41.2.fj.ft }:Tl),fh:=(⟨v19.1.fh.faa,v41.2.fh.fg⟩:Ti),fi:=v41.2.fi }:Th) 1) fun(v42:Int)=>.br (decide (v42<0)) (.lfA rB false)<|.br (decide (v42≠v41.1)) (.lfA rB false)<|.callF (yvu v1) fun(v46:Th)=>.callF (yuc v2) fun(v48:List Td)=>.se Td.i Td.i v46.fj.ft<|.se Tb.o Tb.i v46.fh.fg<|.se Tc.o Tc.i v46.fi<|.se Td.i Td.i v48<|.callF (qca v46 v48) fun(v50:Th×Bool)=>.segA Td.i v50.1.fj.ft<|.segA Tb.o v50.1.fh.fg<|.segA Tc.o v50.1.fi<|.segA Td.i v50.1.fj.ft<|.segA Tb.o v50.1.fh.fg<|.segA Tc.o v50.1.fi<|.segA Td.i v50.1.fj.ft<|.segA Tb.o v50.1.fh.fg<|.segA Tc.o v50.1.fi<|.se Td.i Td.i v50.1.fj.ft<|.se Tb.o Tb.i v50.1.fh.fg<|.se Tc.o Tc.i v50.1.fi<|.se Td.i Td.i v13.1.fj.ft<|.se Tb.o Tb.i v13.1.fh.fg<|.se Tc.o Tc.i v13.1.fi<|.callF (yvt v50.1 v13.1) fun v52=>.br (!v52) (.lfA rB false)<|.br (true ^^ (v50.2 == v13.2)) (.lfA rB false)<|.se Td.i Td.i v41.2.fj.ft<|.se Tb.o Tb.i v41.2.fh.fg<|.se Tc.o Tc.i v41.2.fi<|.callF (qc4 ({ v19.1 with fj:=({ v19.1.fj with ft:=v41.2.fj.ft }:Tl),fh:=(⟨v19.1.fh.faa,v41.2.fh.fg⟩:Ti),fi:=v41.2.fi }:Th) 1) fun(v56:Int)=>.br (decide (v56<0)) (.lfA rB false)<|.br (decide (v56≠v41.1)) (.lfA rB false)<|.lfA rB true) (by kernel_rfl) (cF qui fun v3=>bR rfl<|cF qia fun v6=>bR rfl<|cF yxb fun v9=>cF yvh fun v11=>sE (fun _=>rfl)<|sE Tb.o_i<|sE Tc.o_i<|sE (fun _=>rfl)<|cF qox fun v13=>sA<|sA<|sA<|sA<|sA<|sA<|sA<|sA<|sA<|cF yxb fun v15=>sA<|sA<|sA<|cF yvh fun v17=>sA<|sE (fun _=>rfl)<|sE Tb.o_i<|sE Tc.o_i<|sE (fun _=>rfl)<|cF qm4 fun v19=>sA<|sA<|sA<|sA<|sA<|sA<|sA<|sA<|sA<|sE (fun _=>rfl)<|sE Tb.o_i<|sE Tc.o_i<|sE (fun _=>rfl)<|sE Tb.o_i<|sE Tc.o_i<|cF yxm fun v21=>bR rfl<|⟨fun h24=>rfl,fun h24=>cF yxb fun v25=>sE (fun _=>rfl)<|sE Tb.o_i<|sE Tc.o_i<|sE (fun _=>rfl)<|sE Tb.o_i<|sE Tc.o_i<|cF yxm fun v27=>bR rfl<|cF yvh fun v30=>sE (fun _=>rfl)<|sE (fun _=>rfl)<|cF qht fun v32=>bR rfl<|⟨rfl,⟨rfl,⟨rfl,cE qi5 fun v35=>⟨rfl,cE qgq fun v36=>bR rfl<|sE (fun _=>rfl)<|sE Tb.o_i<|sE Tc.o_i<|sE (fun _=>rfl)<|sE Tb.o_i<|sE Tc.o_i<|cF yxm fun v38=>bR rfl<|⟨h24,⟨rfl,⟨rfl,⟨rfl,cE qi5 fun v41=>sE (fun _=>rfl)<|sE Tb.o_i<|sE Tc.o_i<|cF qdj fun v42=>bR rfl<|bR rfl<|cF yxb fun v46=>cF yvh fun v48=>sE (fun _=>rfl)<|sE Tb.o_i<|sE Tc.o_i<|sE (fun _=>rfl)<|cF qm4 fun v50=>sA<|sA<|sA<|sA<|sA<|sA<|sA<|sA<|sA<|sE (fun _=>rfl)<|sE Tb.o_i<|sE Tc.o_i<|sE (fun _=>rfl)<|sE Tb.o_i<|sE Tc.o_i<|cF yxm fun v52=>bR rfl<|bR rfl<|sE (fun _=>rfl)<|sE Tb.o_i<|sE Tc.o_i<|cF qdj fun v56=>bR rfl<|bR rfl<|rfl⟩⟩⟩⟩⟩⟩⟩⟩⟩)
end Go.Pm
namespace Go.Pm
set_option maxRecDepth 100000
set_option maxHeartbeats 400000
theorem za0 {p:PT} {ps:List PT} {vs:List V} (h:PT.hasAll (p::ps) vs):∃ v vs',vs=v::vs'/\p.has v/\PT.hasAll ps vs':=by simpa only [PT.hasAll] using h
theorem zbu {vs:List V} (h:PT.hasAll [] vs):vs=[]:=by simpa only [PT.hasAll] using h
theorem zc0:∀ {ps qs:List PT} {vs:List V},PT.hasAll (ps++qs) vs->∃ us ws,vs=us++ws/\PT.hasAll ps us/\PT.hasAll qs ws
 | [],qs,vs,h=>⟨[],vs,rfl,by simp only [PT.hasAll],h⟩
 | p::ps,qs,vs,h=>by
   obtain ⟨v,vs',rfl,h1,h2⟩:=za0 h
   obtain ⟨us,ws,rfl,h3,h4⟩:=zc0 h2
   exact ⟨v::us,ws,rfl,by simp only [PT.hasAll];exact ⟨v,us,rfl,h1,h3⟩,h4⟩
theorem zak {v:V} (h:(PT.int .i64).has v):∃ n,v=.int .i64 n/\ -9223372036854775808<=n/\n<=9223372036854775807:=by
 simp only [PT.has] at h
 obtain ⟨n,rfl,h1,h2⟩:=h
 exact ⟨n,rfl,by simpa [IntKind.min,IntKind.signed,IntKind.bits] using h1,by simpa [IntKind.max,IntKind.signed,IntKind.bits] using h2⟩
theorem ya1 {v:V} (h:PT.bool.has v):∃ b,v=.bool b:=by simpa only [PT.has] using h
theorem zrk {α:Type} {f:α->V} {Q:α->Prop}:∀ {xs:List V},(∀ x∈xs,∃ a,x=f a/\Q a)->∃ as:List α,xs=as.map f/\∀ a∈as,Q a
 | [],_=>⟨[],rfl,by simp⟩
 | x::xs,h=>by
   obtain ⟨a,rfl,ha⟩:=h x (by simp)
   obtain ⟨as,rfl,has⟩:=zrk (f:=f) (Q:=Q) (xs:=xs) (fun y hy=>h y (by simp [hy]))
   exact ⟨a::as,rfl,by simpa using ⟨ha,has⟩⟩
theorem zdu {α:Type} {f:α->V} {Q:α->Prop} {ag:Bool} {es:List PT} {v:V} (h:(PT.list ag es).has v) (he:∀ x:V,x.leaf= !ag->PT.hasAll es x.cells1->∃ a,x=f a/\Q a):
 ∃ as:List α,v=.imm es.length (as.map f)/\as.length<=9223372036854775807/\∀ a∈as,Q a:=by
 simp only [PT.has] at h
 obtain ⟨xs,rfl,hl,hx⟩:=h
 obtain ⟨as,rfl,ha⟩:=zrk (f:=f) (Q:=Q) (fun x hm=>he x (hx x hm).1 (hx x hm).2)
 exact ⟨as,rfl,by simpa using hl,ha⟩
theorem yo7 {p:PT} {x:V} (hx:x.leaf= !false) (h:PT.hasAll [p] x.cells1):p.has x:=by
 obtain ⟨v,vs,e,h1,h2⟩:=za0 h
 cases x <;> first|(simp only [V.cells1,List.cons.injEq] at e;rw [e.1];exact h1)|(cases hx;done)
theorem zzq {v:V} (h:(PT.list false [.int .i64]).has v):∃ as:List Int,v=.imm 1 (as.map (.int .i64))/\as.length<=9223372036854775807/\∀ a∈as,-9223372036854775808<=a/\a<=9223372036854775807:=
 zdu h fun _ hx h=>zak (yo7 hx h)
theorem zjg {v:V} (h:(PT.list false [.bool]).has v):∃ as:List Bool,v=.imm 1 (as.map .bool)/\as.length<=9223372036854775807/\∀ a∈as,True:=
 zdu h fun _ hx h=>by obtain ⟨b,rfl⟩:=ya1 (yo7 hx h);exact ⟨b,rfl,trivial⟩
def zhk:List PT:=.int .i64 :: .int .i64 :: .int .i64 :: .int .i64 :: .int .i64 :: .int .i64 :: .int .i64 :: []
theorem ys0 {vs:List V} (g0:PT.hasAll zhk vs):∃ a:Td,a.ok/\V.agg vs=a.i:=by
 unfold zhk at g0
 obtain ⟨_,_,rfl,h0,g1⟩:=za0 g0
 obtain ⟨x0,rfl,k0⟩:=zak h0
 obtain ⟨_,_,rfl,h1,g2⟩:=za0 g1
 obtain ⟨x1,rfl,k1⟩:=zak h1
 obtain ⟨_,_,rfl,h2,g3⟩:=za0 g2
 obtain ⟨x2,rfl,k2⟩:=zak h2
 obtain ⟨_,_,rfl,h3,g4⟩:=za0 g3
 obtain ⟨x3,rfl,k3⟩:=zak h3
 obtain ⟨_,_,rfl,h4,g5⟩:=za0 g4
 obtain ⟨x4,rfl,k4⟩:=zak h4
 obtain ⟨_,_,rfl,h5,g6⟩:=za0 g5
 obtain ⟨x5,rfl,k5⟩:=zak h5
 obtain ⟨_,_,rfl,h6,g7⟩:=za0 g6
 obtain ⟨x6,rfl,k6⟩:=zak h6
 obtain rfl:=zbu g7
 exact ⟨⟨x0,x1,x2,x3,x4,x5,x6⟩,⟨k0,k1,k2,k3,k4,k5,k6⟩,rfl⟩
theorem ykv {x:V} (hx:x.leaf= !true) (h:PT.hasAll zhk x.cells1):∃ a:Td,x=a.i/\a.ok:=by
 obtain ⟨a,ha,e⟩:=ys0 h
 cases x with
 | agg cs=>exact ⟨a,e,ha⟩
 | tup vs=>exfalso;have:=hasAll_leaf h (V.tup vs) (by simp [V.cells1]);cases this
 | _=>cases hx
theorem zzp {v:V} (h:(PT.list true zhk).has v):∃ as:List Td,v=.imm 7 (as.map Td.i)/\as.length<=9223372036854775807/\∀ a∈as,a.ok:=zdu h fun _ hx h=>ykv hx h
def ziw:List PT:=.int .i64 :: .int .i64 :: .list true zhk :: []
theorem yfz {vs:List V} (g0:PT.hasAll ziw vs):∃ a:Tl,a.ok/\V.agg vs=a.i:=by
 unfold ziw at g0
 obtain ⟨_,_,rfl,h0,g1⟩:=za0 g0
 obtain ⟨x0,rfl,k0⟩:=zak h0
 obtain ⟨_,_,rfl,h1,g2⟩:=za0 g1
 obtain ⟨x1,rfl,k1⟩:=zak h1
 obtain ⟨_,_,rfl,h2,g3⟩:=za0 g2
 obtain ⟨x2,rfl,j2,k2⟩:=zzp h2
 obtain rfl:=zbu g3
 exact ⟨⟨x0,x1,x2⟩,⟨k0,k1,j2,k2⟩,rfl⟩
def pt_Req:List PT:=.int .i64 :: .int .i64 :: .int .i64 :: .list false [.int .i64] :: .list false [.bool] :: .int .i64 :: []
theorem ygq {vs:List V} (g0:PT.hasAll pt_Req vs):∃ a:Tg,a.ok/\V.agg vs=a.i:=by
 unfold pt_Req at g0
 obtain ⟨_,_,rfl,h0,g1⟩:=za0 g0
 obtain ⟨x0,rfl,k0⟩:=zak h0
 obtain ⟨_,_,rfl,h1,g2⟩:=za0 g1
 obtain ⟨x1,rfl,k1⟩:=zak h1
 obtain ⟨_,_,rfl,h2,g3⟩:=za0 g2
 obtain ⟨x2,rfl,k2⟩:=zak h2
 obtain ⟨_,_,rfl,h3,g4⟩:=za0 g3
 obtain ⟨x3,rfl,j3,k3⟩:=zzq h3
 obtain ⟨_,_,rfl,h4,g5⟩:=za0 g4
 obtain ⟨x4,rfl,j4,_⟩:=zjg h4
 obtain ⟨_,_,rfl,h5,g6⟩:=za0 g5
 obtain ⟨x5,rfl,k5⟩:=zak h5
 obtain rfl:=zbu g6
 exact ⟨⟨x0,x1,x2,x3,x4,x5⟩,⟨k0,k1,k2,j3,k3,j4,k5⟩,rfl⟩
def pt_Part:List PT:=.int .i64 :: .int .i64::(pt_Req ++ [])
theorem ys2 {vs:List V} (g0:PT.hasAll pt_Part vs):∃ a:Tf,a.ok/\V.agg vs=a.i:=by
 unfold pt_Part at g0
 obtain ⟨_,_,rfl,h0,g1⟩:=za0 g0
 obtain ⟨x0,rfl,k0⟩:=zak h0
 obtain ⟨_,_,rfl,h1,g2⟩:=za0 g1
 obtain ⟨x1,rfl,k1⟩:=zak h1
 obtain ⟨_,_,rfl,h2,g3⟩:=zc0 g2
 obtain ⟨x2,k2,e2⟩:=ygq h2
 obtain rfl:=V.agg.inj e2
 obtain rfl:=zbu g3
 exact ⟨⟨x0,x1,x2⟩,⟨k0,k1,k2⟩,rfl⟩
theorem yks {x:V} (hx:x.leaf= !true) (h:PT.hasAll pt_Part x.cells1):∃ a:Tf,x=a.i/\a.ok:=by
 obtain ⟨a,ha,e⟩:=ys2 h
 cases x with
 | agg cs=>exact ⟨a,e,ha⟩
 | tup vs=>exfalso;have:=hasAll_leaf h (V.tup vs) (by simp [V.cells1]);cases this
 | _=>cases hx
theorem yl5 {v:V} (h:(PT.list true pt_Part).has v):∃ as:List Tf,v=.imm 8 (as.map Tf.i)/\as.length<=9223372036854775807/\∀ a∈as,a.ok:=zdu h fun _ hx h=>yks hx h
def zk0:List PT:=.int .i64 :: .int .i64 :: .int .i64 :: .int .i64 :: .list false [.int .i64] :: .list false [.bool] :: []
theorem yss {vs:List V} (g0:PT.hasAll zk0 vs):∃ a:Te,a.ok/\V.agg vs=a.i:=by
 unfold zk0 at g0
 obtain ⟨_,_,rfl,h0,g1⟩:=za0 g0
 obtain ⟨x0,rfl,k0⟩:=zak h0
 obtain ⟨_,_,rfl,h1,g2⟩:=za0 g1
 obtain ⟨x1,rfl,k1⟩:=zak h1
 obtain ⟨_,_,rfl,h2,g3⟩:=za0 g2
 obtain ⟨x2,rfl,k2⟩:=zak h2
 obtain ⟨_,_,rfl,h3,g4⟩:=za0 g3
 obtain ⟨x3,rfl,k3⟩:=zak h3
 obtain ⟨_,_,rfl,h4,g5⟩:=za0 g4
 obtain ⟨x4,rfl,j4,k4⟩:=zzq h4
 obtain ⟨_,_,rfl,h5,g6⟩:=za0 g5
 obtain ⟨x5,rfl,j5,_⟩:=zjg h5
 obtain rfl:=zbu g6
 exact ⟨⟨x0,x1,x2,x3,x4,x5⟩,⟨k0,k1,k2,k3,j4,k4,j5⟩,rfl⟩
theorem yma {x:V} (hx:x.leaf= !true) (h:PT.hasAll zk0 x.cells1):∃ a:Te,x=a.i/\a.ok:=by
 obtain ⟨a,ha,e⟩:=yss h
 cases x with
 | agg cs=>exact ⟨a,e,ha⟩
 | tup vs=>exfalso;have:=hasAll_leaf h (V.tup vs) (by simp [V.cells1]);cases this
 | _=>cases hx
theorem yl9 {v:V} (h:(PT.list true zk0).has v):∃ as:List Te,v=.imm 6 (as.map Te.i)/\as.length<=9223372036854775807/\∀ a∈as,a.ok:=zdu h fun _ hx h=>yma hx h
def zku:List PT:=.int .i64 :: .int .i64 :: .int .i64 :: .int .i64::(pt_Req ++ .list true pt_Part :: .list false [.bool] :: .list true zk0 :: [])
theorem yth {vs:List V} (g0:PT.hasAll zku vs):∃ a:Tb,a.ok/\V.agg vs=a.i:=by
 unfold zku at g0
 obtain ⟨_,_,rfl,h0,g1⟩:=za0 g0
 obtain ⟨x0,rfl,k0⟩:=zak h0
 obtain ⟨_,_,rfl,h1,g2⟩:=za0 g1
 obtain ⟨x1,rfl,k1⟩:=zak h1
 obtain ⟨_,_,rfl,h2,g3⟩:=za0 g2
 obtain ⟨x2,rfl,k2⟩:=zak h2
 obtain ⟨_,_,rfl,h3,g4⟩:=za0 g3
 obtain ⟨x3,rfl,k3⟩:=zak h3
 obtain ⟨_,_,rfl,h4,g5⟩:=zc0 g4
 obtain ⟨x4,k4,e4⟩:=ygq h4
 obtain rfl:=V.agg.inj e4
 obtain ⟨_,_,rfl,h5,g6⟩:=za0 g5
 obtain ⟨x5,rfl,j5,k5⟩:=yl5 h5
 obtain ⟨_,_,rfl,h6,g7⟩:=za0 g6
 obtain ⟨x6,rfl,j6,_⟩:=zjg h6
 obtain ⟨_,_,rfl,h7,g8⟩:=za0 g7
 obtain ⟨x7,rfl,j7,k7⟩:=yl9 h7
 obtain rfl:=zbu g8
 exact ⟨⟨x0,x1,x2,x3,x4,x5,x6,x7⟩,⟨k0,k1,k2,k3,k4,j5,k5,j6,j7,k7⟩,rfl⟩
theorem yl3 {x:V} (hx:x.leaf= !true) (h:PT.hasAll zku x.cells1):∃ a:Tb,x=a.i/\a.ok:=by
 obtain ⟨a,ha,e⟩:=yth h
 cases x with
 | agg cs=>exact ⟨a,e,ha⟩
 | tup vs=>exfalso;have:=hasAll_leaf h (V.tup vs) (by simp [V.cells1]);cases this
 | _=>cases hx
theorem ykc {v:V} (h:(PT.list true zku).has v):∃ as:List Tb,v=.imm 13 (as.map Tb.i)/\as.length<=9223372036854775807/\∀ a∈as,a.ok:=zdu h fun _ hx h=>yl3 hx h
def pt_Table:List PT:=.int .i64 :: .list true zku :: []
theorem yl7 {vs:List V} (g0:PT.hasAll pt_Table vs):∃ a:Ti,a.ok/\V.agg vs=a.i:=by
 unfold pt_Table at g0
 obtain ⟨_,_,rfl,h0,g1⟩:=za0 g0
 obtain ⟨x0,rfl,k0⟩:=zak h0
 obtain ⟨_,_,rfl,h1,g2⟩:=za0 g1
 obtain ⟨x1,rfl,j1,k1⟩:=ykc h1
 obtain rfl:=zbu g2
 exact ⟨⟨x0,x1⟩,⟨k0,j1,k1⟩,rfl⟩
def pt_Call:List PT:=.int .i64 :: .int .i64 :: .int .i64::(pt_Req ++ [])
theorem yf5 {vs:List V} (g0:PT.hasAll pt_Call vs):∃ a:Ta,a.ok/\V.agg vs=a.i:=by
 unfold pt_Call at g0
 obtain ⟨_,_,rfl,h0,g1⟩:=za0 g0
 obtain ⟨x0,rfl,k0⟩:=zak h0
 obtain ⟨_,_,rfl,h1,g2⟩:=za0 g1
 obtain ⟨x1,rfl,k1⟩:=zak h1
 obtain ⟨_,_,rfl,h2,g3⟩:=za0 g2
 obtain ⟨x2,rfl,k2⟩:=zak h2
 obtain ⟨_,_,rfl,h3,g4⟩:=zc0 g3
 obtain ⟨x3,k3,e3⟩:=ygq h3
 obtain rfl:=V.agg.inj e3
 obtain rfl:=zbu g4
 exact ⟨⟨x0,x1,x2,x3⟩,⟨k0,k1,k2,k3⟩,rfl⟩
theorem yls {x:V} (hx:x.leaf= !true) (h:PT.hasAll pt_Call x.cells1):∃ a:Ta,x=a.i/\a.ok:=by
 obtain ⟨a,ha,e⟩:=yf5 h
 cases x with
 | agg cs=>exact ⟨a,e,ha⟩
 | tup vs=>exfalso;have:=hasAll_leaf h (V.tup vs) (by simp [V.cells1]);cases this
 | _=>cases hx
theorem ykt {v:V} (h:(PT.list true pt_Call).has v):∃ as:List Ta,v=.imm 9 (as.map Ta.i)/\as.length<=9223372036854775807/\∀ a∈as,a.ok:=zdu h fun _ hx h=>yls hx h
def pt_Line:List PT:=.list true pt_Call :: .bool::(pt_Call ++ .int .i64 :: .int .i64 :: .int .i64 :: .int .i64 :: .int .i64 :: .int .i64 :: [])
theorem yqr {vs:List V} (g0:PT.hasAll pt_Line vs):∃ a:Tc,a.ok/\V.agg vs=a.i:=by
 unfold pt_Line at g0
 obtain ⟨_,_,rfl,h0,g1⟩:=za0 g0
 obtain ⟨x0,rfl,j0,k0⟩:=ykt h0
 obtain ⟨_,_,rfl,h1,g2⟩:=za0 g1
 obtain ⟨x1,rfl⟩:=ya1 h1
 obtain ⟨_,_,rfl,h2,g3⟩:=zc0 g2
 obtain ⟨x2,k2,e2⟩:=yf5 h2
 obtain rfl:=V.agg.inj e2
 obtain ⟨_,_,rfl,h3,g4⟩:=za0 g3
 obtain ⟨x3,rfl,k3⟩:=zak h3
 obtain ⟨_,_,rfl,h4,g5⟩:=za0 g4
 obtain ⟨x4,rfl,k4⟩:=zak h4
 obtain ⟨_,_,rfl,h5,g6⟩:=za0 g5
 obtain ⟨x5,rfl,k5⟩:=zak h5
 obtain ⟨_,_,rfl,h6,g7⟩:=za0 g6
 obtain ⟨x6,rfl,k6⟩:=zak h6
 obtain ⟨_,_,rfl,h7,g8⟩:=za0 g7
 obtain ⟨x7,rfl,k7⟩:=zak h7
 obtain ⟨_,_,rfl,h8,g9⟩:=za0 g8
 obtain ⟨x8,rfl,k8⟩:=zak h8
 obtain rfl:=zbu g9
 exact ⟨⟨x0,x1,x2,x3,x4,x5,x6,x7,x8⟩,⟨j0,k0,k2,k3,k4,k5,k6,k7,k8⟩,rfl⟩
theorem ylb {x:V} (hx:x.leaf= !true) (h:PT.hasAll pt_Line x.cells1):∃ a:Tc,x=a.i/\a.ok:=by
 obtain ⟨a,ha,e⟩:=yqr h
 cases x with
 | agg cs=>exact ⟨a,e,ha⟩
 | tup vs=>exfalso;have:=hasAll_leaf h (V.tup vs) (by simp [V.cells1]);cases this
 | _=>cases hx
theorem ym7 {v:V} (h:(PT.list true pt_Line).has v):∃ as:List Tc,v=.imm 17 (as.map Tc.i)/\as.length<=9223372036854775807/\∀ a∈as,a.ok:=zdu h fun _ hx h=>ylb hx h
def zgv:List PT:=.int .i64::(ziw++(pt_Table ++ .list true pt_Line :: .int .i64 :: .int .i64 :: .int .i64 :: .int .i64 :: []))
theorem yje {vs:List V} (g0:PT.hasAll zgv vs):∃ a:Th,a.ok/\V.agg vs=a.i:=by
 unfold zgv at g0
 obtain ⟨_,_,rfl,h0,g1⟩:=za0 g0
 obtain ⟨x0,rfl,k0⟩:=zak h0
 obtain ⟨_,_,rfl,h1,g2⟩:=zc0 g1
 obtain ⟨x1,k1,e1⟩:=yfz h1
 obtain rfl:=V.agg.inj e1
 obtain ⟨_,_,rfl,h2,g3⟩:=zc0 g2
 obtain ⟨x2,k2,e2⟩:=yl7 h2
 obtain rfl:=V.agg.inj e2
 obtain ⟨_,_,rfl,h3,g4⟩:=za0 g3
 obtain ⟨x3,rfl,j3,k3⟩:=ym7 h3
 obtain ⟨_,_,rfl,h4,g5⟩:=za0 g4
 obtain ⟨x4,rfl,k4⟩:=zak h4
 obtain ⟨_,_,rfl,h5,g6⟩:=za0 g5
 obtain ⟨x5,rfl,k5⟩:=zak h5
 obtain ⟨_,_,rfl,h6,g7⟩:=za0 g6
 obtain ⟨x6,rfl,k6⟩:=zak h6
 obtain ⟨_,_,rfl,h7,g8⟩:=za0 g7
 obtain ⟨x7,rfl,k7⟩:=zak h7
 obtain rfl:=zbu g8
 exact ⟨⟨x0,x1,x2,x3,x4,x5,x6,x7⟩,⟨k0,k1,k2,j3,k3,k4,k5,k6,k7⟩,rfl⟩
theorem yaz {x:V} (hx:x.leaf= !true) (h:PT.hasAll zgv x.cells1):∃ a:Th,x=a.i/\a.ok:=by
 obtain ⟨a,ha,e⟩:=yje h
 cases x with
 | agg cs=>exact ⟨a,e,ha⟩
 | tup vs=>exfalso;have:=hasAll_leaf h (V.tup vs) (by simp [V.cells1]);cases this
 | _=>cases hx
end Go.Pm
namespace Go.Pm
set_option maxRecDepth 100000
set_option maxHeartbeats 400000
theorem yad (a:List Int) (h:a.length<=9223372036854775807):SzOk (ywq a) (a.length):=SzOk.of (fun l=>rfl) (SzOk.len h)
theorem ya0 (a:List Int) (h:a.length<=1048576):yuo a=some a:=by
 have hl:a.length<=1048576:=h
 rw [yuo,if_pos ⟨by omega,by rw [za8];omega⟩]
 unfold zsz
 rw [if_pos (by omega),zrs (xs:=a)]
 ·rw [yeh];rfl
 ·intro d x t s he hd
  rw [yit]
  obtain ⟨z,hz⟩:∃ z,s[d.length]? =some z:=⟨s[d.length],List.getElem?_eq_getElem hd⟩
  simp only [za8,List.length_map,Nat.sub_zero]
  rw [if_pos ⟨by omega,by omega⟩]
  simp only [hz,Option.bind_some,List.set_set,List.length_set,hd,zfl]
 ·simp
theorem zz6 (a:List Int) (h:a.length<=1048576):ywj a a=some true:=by
 have hl:a.length<=1048576:=h
 rw [ywj]
 unfold zvg
 rw [if_pos (by omega),yoo (xs:=a)]
 ·simp only [ne_eq,not_true_eq_false,decide_false,cond_false,yfd];rfl
 ·intro d x t he
  rw [ydb]
  simp only [za8,zcq he,Option.bind_some,ne_eq,not_true_eq_false,decide_false,cond_false,BEq.rfl,bne_self_eq_false,Bool.true_xor,Bool.not_true]
theorem zk9 (a:List Bool) (h:a.length<=9223372036854775807):SzOk (yvo a) (a.length):=SzOk.of (fun l=>rfl) (SzOk.len h)
theorem zjz (a:List Bool) (h:a.length<=1048576):yud a=some a:=by
 have hl:a.length<=1048576:=h
 rw [yud,if_pos ⟨by omega,by rw [za8];omega⟩]
 unfold ztw
 rw [if_pos (by omega),zrs (xs:=a)]
 ·rw [ydn];rfl
 ·intro d x t s he hd
  rw [ych]
  obtain ⟨z,hz⟩:∃ z,s[d.length]? =some z:=⟨s[d.length],List.getElem?_eq_getElem hd⟩
  simp only [za8,List.length_map,Nat.sub_zero]
  rw [if_pos ⟨by omega,by omega⟩]
  simp only [hz,Option.bind_some,List.set_set,List.length_set,hd,zfl]
 ·simp
theorem zka (a:List Bool) (h:a.length<=1048576):yu1 a a=some true:=by
 have hl:a.length<=1048576:=h
 rw [yu1]
 unfold zw0
 rw [if_pos (by omega),yoo (xs:=a)]
 ·simp only [ne_eq,not_true_eq_false,decide_false,cond_false,yhn];rfl
 ·intro d x t he
  rw [yc5]
  simp only [za8,zcq he,Option.bind_some,ne_eq,not_true_eq_false,decide_false,cond_false,BEq.rfl,bne_self_eq_false,Bool.true_xor,Bool.not_true]
theorem ykg (a:Td) (h:a.sz<=1048576):yyp a=some a:=by rw [yyp]
theorem ykl (a:Td) (h:a.sz<=1048576):yx2 a a=some true:=by
 simp only [Td.sz] at h
 rw [yx2]
 simp only [Option.bind_some,ne_eq,not_true_eq_false,decide_false,cond_false,BEq.rfl,bne_self_eq_false,Bool.true_xor,Bool.not_true]
theorem zrz (a:List Td) (h:a.length<=9223372036854775807):SzOk (yyv a) (a.length):=SzOk.of (fun l=>rfl) (SzOk.len h)
theorem zrq (a:List Td) (h:a.length<=1048576):yok a=some a:=by
 have hl:a.length<=1048576:=h
 rw [yok,if_pos ⟨by omega,by rw [za8];omega⟩]
 unfold zxw
 rw [if_pos (by omega),zrs (xs:=a)]
 ·rw [ybr];rfl
 ·intro d x t s he hd
  rw [ycc]
  obtain ⟨z,hz⟩:∃ z,s[d.length]? =some z:=⟨s[d.length],List.getElem?_eq_getElem hd⟩
  simp only [ykg x (by simp [Td.sz]),Option.bind_some,za8,List.length_map,Nat.sub_zero]
  rw [if_pos ⟨by omega,by omega⟩]
  simp only [hz,Option.bind_some,List.set_set,List.length_set,hd,zfl]
 ·simp
theorem zrt (a:List Td) (h:a.length<=1048576):yur a a=some true:=by
 have hl:a.length<=1048576:=h
 rw [yur]
 unfold zyx
 rw [if_pos (by omega),yoo (xs:=a)]
 ·simp only [ne_eq,not_true_eq_false,decide_false,cond_false,ybz];rfl
 ·intro d x t he
  rw [ycg]
  simp only [za8,zcq he,Option.bind_some,ykl x (by simp [Td.sz]),ne_eq,not_true_eq_false,decide_false,cond_false,BEq.rfl,bne_self_eq_false,Bool.true_xor,Bool.not_true]
theorem yaq (a:Tl) (h:a.ok):SzOk (qcd a) (a.sz):=SzOk.of (fun l=>rfl) (SzOk.one (zrz a.ft (by exact h.2.2.1)))
theorem yb4 (a:Tl) (h:a.sz<=1048576):yyf a=some a:=by
 simp only [Tl.sz] at h
 rw [yyf]
 simp only [zrq a.ft (by first|omega|(simp only [Tl.sz];omega)),Option.bind_some]
theorem yax (a:Tl) (h:a.sz<=1048576):yxa a a=some true:=by
 simp only [Tl.sz] at h
 rw [yxa]
 simp only [zrt a.ft (by first|omega|(simp only [Tl.sz];omega)),Option.bind_some,ne_eq,not_true_eq_false,decide_false,cond_false,BEq.rfl,bne_self_eq_false,Bool.true_xor,Bool.not_true]
theorem zyo (a:Tg) (h:a.ok):SzOk (ywf a) (a.sz):=SzOk.of (fun l=>rfl) (SzOk.seq (yad a.fc (by exact h.2.2.2.1)) (SzOk.one (zk9 a.fb (by exact h.2.2.2.2.2.1))))
theorem zyl (a:Tg) (h:a.sz<=1048576):yu8 a=some a:=by
 simp only [Tg.sz] at h
 rw [yu8]
 simp only [ya0 a.fc (by first|omega|(simp only [Tg.sz];omega)),zjz a.fb (by first|omega|(simp only [Tg.sz];omega)),Option.bind_some]
theorem zyw (a:Tg) (h:a.sz<=1048576):ytn a a=some true:=by
 simp only [Tg.sz] at h
 rw [ytn]
 simp only [zz6 a.fc (by first|omega|(simp only [Tg.sz];omega)),zka a.fb (by first|omega|(simp only [Tg.sz];omega)),Option.bind_some,ne_eq,not_true_eq_false,decide_false,cond_false,BEq.rfl,bne_self_eq_false,Bool.true_xor,Bool.not_true]
theorem ym3 (a:Tf) (h:a.ok):SzOk (qce a) (a.sz):=SzOk.of (fun l=>rfl) (SzOk.one (zyo a.fa (by exact h.2.2)))
theorem ykb (a:Tf) (h:a.sz<=1048576):qa0 a=some a:=by
 simp only [Tf.sz] at h
 rw [qa0]
 simp only [zyl a.fa (by first|omega|(simp only [Tf.sz];omega)),Option.bind_some]
theorem yk7 (a:Tf) (h:a.sz<=1048576):yxr a a=some true:=by
 simp only [Tf.sz] at h
 rw [yxr]
 simp only [zyw a.fa (by first|omega|(simp only [Tf.sz];omega)),Option.bind_some,ne_eq,not_true_eq_false,decide_false,cond_false,BEq.rfl,bne_self_eq_false,Bool.true_xor,Bool.not_true]
theorem yhj (a:List Tf) (h:a.length<=9223372036854775807/\∀ b∈a,b.ok):SzOk (qb1 a) (szL Tf.sz a):=SzOk.of (fun l=>rfl) (SzOk.list h.1 (fun x hx=>ym3 x (h.2 x hx)) (fun k x s=>rfl) (fun s=>rfl))
theorem yh1 (a:List Tf) (h:szL Tf.sz a<=1048576):ywt a=some a:=by
 have hl:a.length<=1048576:=by have:=zai (f:=Tf.sz) (xs:=a);omega
 rw [ywt,if_pos ⟨by omega,by rw [za8];omega⟩]
 unfold zw7
 rw [if_pos (by omega),zrs (xs:=a)]
 ·rw [yj8];rfl
 ·intro d x t s he hd
  rw [yhz]
  obtain ⟨z,hz⟩:∃ z,s[d.length]? =some z:=⟨s[d.length],List.getElem?_eq_getElem hd⟩
  simp only [ykb x (by have:=zaj (f:=Tf.sz) (he ▸ (by simp:x∈d++x::t));omega),Option.bind_some,za8,List.length_map,Nat.sub_zero]
  rw [if_pos ⟨by omega,by omega⟩]
  simp only [hz,Option.bind_some,List.set_set,List.length_set,hd,zfl]
 ·simp
theorem yee (a:List Tf) (h:szL Tf.sz a<=1048576):yz1 a a=some true:=by
 have hl:a.length<=1048576:=by have:=zai (f:=Tf.sz) (xs:=a);omega
 rw [yz1]
 unfold zvo
 rw [if_pos (by omega),yoo (xs:=a)]
 ·simp only [ne_eq,not_true_eq_false,decide_false,cond_false,yga];rfl
 ·intro d x t he
  rw [yf3]
  simp only [za8,zcq he,Option.bind_some,yk7 x (by have:=zaj (f:=Tf.sz) (he ▸ (by simp:x∈d++x::t));omega),ne_eq,not_true_eq_false,decide_false,cond_false,BEq.rfl,bne_self_eq_false,Bool.true_xor,Bool.not_true]
theorem ylg (a:Te) (h:a.ok):SzOk (qcj a) (a.sz):=SzOk.of (fun l=>rfl) (SzOk.seq (yad a.fc (by exact h.2.2.2.2.1)) (SzOk.one (zk9 a.fb (by exact h.2.2.2.2.2.2))))
theorem ykk (a:Te) (h:a.sz<=1048576):yz5 a=some a:=by
 simp only [Te.sz] at h
 rw [yz5]
 simp only [ya0 a.fc (by first|omega|(simp only [Te.sz];omega)),zjz a.fb (by first|omega|(simp only [Te.sz];omega)),Option.bind_some]
theorem ykr (a:Te) (h:a.sz<=1048576):yy5 a a=some true:=by
 simp only [Te.sz] at h
 rw [yy5]
 simp only [zz6 a.fc (by first|omega|(simp only [Te.sz];omega)),zka a.fb (by first|omega|(simp only [Te.sz];omega)),Option.bind_some,ne_eq,not_true_eq_false,decide_false,cond_false,BEq.rfl,bne_self_eq_false,Bool.true_xor,Bool.not_true]
theorem ygm (a:List Te) (h:a.length<=9223372036854775807/\∀ b∈a,b.ok):SzOk (qau a) (szL Te.sz a):=SzOk.of (fun l=>rfl) (SzOk.list h.1 (fun x hx=>ylg x (h.2 x hx)) (fun k x s=>rfl) (fun s=>rfl))
theorem ycd (a:List Te) (h:szL Te.sz a<=1048576):yym a=some a:=by
 have hl:a.length<=1048576:=by have:=zai (f:=Te.sz) (xs:=a);omega
 rw [yym,if_pos ⟨by omega,by rw [za8];omega⟩]
 unfold zsw
 rw [if_pos (by omega),zrs (xs:=a)]
 ·rw [yhw];rfl
 ·intro d x t s he hd
  rw [yh7]
  obtain ⟨z,hz⟩:∃ z,s[d.length]? =some z:=⟨s[d.length],List.getElem?_eq_getElem hd⟩
  simp only [ykk x (by have:=zaj (f:=Te.sz) (he ▸ (by simp:x∈d++x::t));omega),Option.bind_some,za8,List.length_map,Nat.sub_zero]
  rw [if_pos ⟨by omega,by omega⟩]
  simp only [hz,Option.bind_some,List.set_set,List.length_set,hd,zfl]
 ·simp
theorem yjf (a:List Te) (h:szL Te.sz a<=1048576):yxi a a=some true:=by
 have hl:a.length<=1048576:=by have:=zai (f:=Te.sz) (xs:=a);omega
 rw [yxi]
 unfold zwt
 rw [if_pos (by omega),yoo (xs:=a)]
 ·simp only [ne_eq,not_true_eq_false,decide_false,cond_false,ygx];rfl
 ·intro d x t he
  rw [yce]
  simp only [za8,zcq he,Option.bind_some,ykr x (by have:=zaj (f:=Te.sz) (he ▸ (by simp:x∈d++x::t));omega),ne_eq,not_true_eq_false,decide_false,cond_false,BEq.rfl,bne_self_eq_false,Bool.true_xor,Bool.not_true]
theorem ylq (a:Tb) (h:a.ok):SzOk (qch a) (a.sz):=SzOk.of (fun l=>rfl) (SzOk.seq (zyo a.fa (by exact h.2.2.2.2.1)) (SzOk.seq (yhj a.fq (by exact ⟨h.2.2.2.2.2.1,h.2.2.2.2.2.2.1⟩)) (SzOk.seq (zk9 a.fw (by exact h.2.2.2.2.2.2.2.1)) (SzOk.one (ygm a.fab (by exact ⟨h.2.2.2.2.2.2.2.2.1,h.2.2.2.2.2.2.2.2.2⟩))))))
theorem yly (a:Tb) (h:a.sz<=1048576):yzj a=some a:=by
 simp only [Tb.sz] at h
 rw [yzj]
 simp only [zyl a.fa (by first|omega|(simp only [Tb.sz];omega)),yh1 a.fq (by first|omega|(simp only [Tb.sz];omega)),zjz a.fw (by first|omega|(simp only [Tb.sz];omega)),ycd a.fab (by first|omega|(simp only [Tb.sz];omega)),Option.bind_some]
theorem yl1 (a:Tb) (h:a.sz<=1048576):yxe a a=some true:=by
 simp only [Tb.sz] at h
 rw [yxe]
 simp only [zyw a.fa (by first|omega|(simp only [Tb.sz];omega)),yee a.fq (by first|omega|(simp only [Tb.sz];omega)),zka a.fw (by first|omega|(simp only [Tb.sz];omega)),yjf a.fab (by first|omega|(simp only [Tb.sz];omega)),Option.bind_some,ne_eq,not_true_eq_false,decide_false,cond_false,BEq.rfl,bne_self_eq_false,Bool.true_xor,Bool.not_true]
theorem yip (a:List Tb) (h:a.length<=9223372036854775807/\∀ b∈a,b.ok):SzOk (qbj a) (szL Tb.sz a):=SzOk.of (fun l=>rfl) (SzOk.list h.1 (fun x hx=>ylq x (h.2 x hx)) (fun k x s=>rfl) (fun s=>rfl))
theorem yc4 (a:List Tb) (h:szL Tb.sz a<=1048576):ywm a=some a:=by
 have hl:a.length<=1048576:=by have:=zai (f:=Tb.sz) (xs:=a);omega
 rw [ywm,if_pos ⟨by omega,by rw [za8];omega⟩]
 unfold zwe
 rw [if_pos (by omega),zrs (xs:=a)]
 ·rw [yf7];rfl
 ·intro d x t s he hd
  rw [yj5]
  obtain ⟨z,hz⟩:∃ z,s[d.length]? =some z:=⟨s[d.length],List.getElem?_eq_getElem hd⟩
  simp only [yly x (by have:=zaj (f:=Tb.sz) (he ▸ (by simp:x∈d++x::t));omega),Option.bind_some,za8,List.length_map,Nat.sub_zero]
  rw [if_pos ⟨by omega,by omega⟩]
  simp only [hz,Option.bind_some,List.set_set,List.length_set,hd,zfl]
 ·simp
theorem ycf (a:List Tb) (h:szL Tb.sz a<=1048576):yxf a a=some true:=by
 have hl:a.length<=1048576:=by have:=zai (f:=Tb.sz) (xs:=a);omega
 rw [yxf]
 unfold zvm
 rw [if_pos (by omega),yoo (xs:=a)]
 ·simp only [ne_eq,not_true_eq_false,decide_false,cond_false,yh6];rfl
 ·intro d x t he
  rw [yen]
  simp only [za8,zcq he,Option.bind_some,yl1 x (by have:=zaj (f:=Tb.sz) (he ▸ (by simp:x∈d++x::t));omega),ne_eq,not_true_eq_false,decide_false,cond_false,BEq.rfl,bne_self_eq_false,Bool.true_xor,Bool.not_true]
theorem yi5 (a:Ti) (h:a.ok):SzOk (qco a) (a.sz):=SzOk.of (fun l=>rfl) (SzOk.one (yip a.fg (by exact ⟨h.2.1,h.2.2⟩)))
theorem yjr (a:Ti) (h:a.sz<=1048576):yyx a=some a:=by
 simp only [Ti.sz] at h
 rw [yyx]
 simp only [yc4 a.fg (by first|omega|(simp only [Ti.sz];omega)),Option.bind_some]
theorem yj9 (a:Ti) (h:a.sz<=1048576):yz2 a a=some true:=by
 simp only [Ti.sz] at h
 rw [yz2]
 simp only [ycf a.fg (by first|omega|(simp only [Ti.sz];omega)),Option.bind_some,ne_eq,not_true_eq_false,decide_false,cond_false,BEq.rfl,bne_self_eq_false,Bool.true_xor,Bool.not_true]
theorem ya9 (a:Ta) (h:a.ok):SzOk (yzk a) (a.sz):=SzOk.of (fun l=>rfl) (SzOk.one (zyo a.fa (by exact h.2.2.2)))
theorem zzs (a:Ta) (h:a.sz<=1048576):yvy a=some a:=by
 simp only [Ta.sz] at h
 rw [yvy]
 simp only [zyl a.fa (by first|omega|(simp only [Ta.sz];omega)),Option.bind_some]
theorem zzm (a:Ta) (h:a.sz<=1048576):yuj a a=some true:=by
 simp only [Ta.sz] at h
 rw [yuj]
 simp only [zyw a.fa (by first|omega|(simp only [Ta.sz];omega)),Option.bind_some,ne_eq,not_true_eq_false,decide_false,cond_false,BEq.rfl,bne_self_eq_false,Bool.true_xor,Bool.not_true]
theorem yjz (a:List Ta) (h:a.length<=9223372036854775807/\∀ b∈a,b.ok):SzOk (qb0 a) (szL Ta.sz a):=SzOk.of (fun l=>rfl) (SzOk.list h.1 (fun x hx=>ya9 x (h.2 x hx)) (fun k x s=>rfl) (fun s=>rfl))
theorem yh8 (a:List Ta) (h:szL Ta.sz a<=1048576):yzv a=some a:=by
 have hl:a.length<=1048576:=by have:=zai (f:=Ta.sz) (xs:=a);omega
 rw [yzv,if_pos ⟨by omega,by rw [za8];omega⟩]
 unfold zym
 rw [if_pos (by omega),zrs (xs:=a)]
 ·rw [yht];rfl
 ·intro d x t s he hd
  rw [yhy]
  obtain ⟨z,hz⟩:∃ z,s[d.length]? =some z:=⟨s[d.length],List.getElem?_eq_getElem hd⟩
  simp only [zzs x (by have:=zaj (f:=Ta.sz) (he ▸ (by simp:x∈d++x::t));omega),Option.bind_some,za8,List.length_map,Nat.sub_zero]
  rw [if_pos ⟨by omega,by omega⟩]
  simp only [hz,Option.bind_some,List.set_set,List.length_set,hd,zfl]
 ·simp
theorem yj0 (a:List Ta) (h:szL Ta.sz a<=1048576):yxk a a=some true:=by
 have hl:a.length<=1048576:=by have:=zai (f:=Ta.sz) (xs:=a);omega
 rw [yxk]
 unfold ztv
 rw [if_pos (by omega),yoo (xs:=a)]
 ·simp only [ne_eq,not_true_eq_false,decide_false,cond_false,ycj];rfl
 ·intro d x t he
  rw [yh0]
  simp only [za8,zcq he,Option.bind_some,zzm x (by have:=zaj (f:=Ta.sz) (he ▸ (by simp:x∈d++x::t));omega),ne_eq,not_true_eq_false,decide_false,cond_false,BEq.rfl,bne_self_eq_false,Bool.true_xor,Bool.not_true]
theorem ykp (a:Tc) (h:a.ok):SzOk (qas a) (a.sz):=SzOk.of (fun l=>rfl) (SzOk.seq (yjz a.fu (by exact ⟨h.1,h.2.1⟩)) (SzOk.one (ya9 a.fd (by exact h.2.2.1))))
theorem ylu (a:Tc) (h:a.sz<=1048576):yyw a=some a:=by
 simp only [Tc.sz] at h
 rw [yyw]
 simp only [yh8 a.fu (by first|omega|(simp only [Tc.sz];omega)),zzs a.fd (by first|omega|(simp only [Tc.sz];omega)),Option.bind_some]
theorem ylv (a:Tc) (h:a.sz<=1048576):yzx a a=some true:=by
 simp only [Tc.sz] at h
 rw [yzx]
 simp only [yj0 a.fu (by first|omega|(simp only [Tc.sz];omega)),zzm a.fd (by first|omega|(simp only [Tc.sz];omega)),Option.bind_some,ne_eq,not_true_eq_false,decide_false,cond_false,BEq.rfl,bne_self_eq_false,Bool.true_xor,Bool.not_true]
theorem yjp (a:List Tc) (h:a.length<=9223372036854775807/\∀ b∈a,b.ok):SzOk (qc2 a) (szL Tc.sz a):=SzOk.of (fun l=>rfl) (SzOk.list h.1 (fun x hx=>ykp x (h.2 x hx)) (fun k x s=>rfl) (fun s=>rfl))
theorem ydm (a:List Tc) (h:szL Tc.sz a<=1048576):qae a=some a:=by
 have hl:a.length<=1048576:=by have:=zai (f:=Tc.sz) (xs:=a);omega
 rw [qae,if_pos ⟨by omega,by rw [za8];omega⟩]
 unfold zv8
 rw [if_pos (by omega),zrs (xs:=a)]
 ·rw [yfa];rfl
 ·intro d x t s he hd
  rw [ycy]
  obtain ⟨z,hz⟩:∃ z,s[d.length]? =some z:=⟨s[d.length],List.getElem?_eq_getElem hd⟩
  simp only [ylu x (by have:=zaj (f:=Tc.sz) (he ▸ (by simp:x∈d++x::t));omega),Option.bind_some,za8,List.length_map,Nat.sub_zero]
  rw [if_pos ⟨by omega,by omega⟩]
  simp only [hz,Option.bind_some,List.set_set,List.length_set,hd,zfl]
 ·simp
theorem yjq (a:List Tc) (h:szL Tc.sz a<=1048576):ywp a a=some true:=by
 have hl:a.length<=1048576:=by have:=zai (f:=Tc.sz) (xs:=a);omega
 rw [ywp]
 unfold zwx
 rw [if_pos (by omega),yoo (xs:=a)]
 ·simp only [ne_eq,not_true_eq_false,decide_false,cond_false,yir];rfl
 ·intro d x t he
  rw [yfl]
  simp only [za8,zcq he,Option.bind_some,ylv x (by have:=zaj (f:=Tc.sz) (he ▸ (by simp:x∈d++x::t));omega),ne_eq,not_true_eq_false,decide_false,cond_false,BEq.rfl,bne_self_eq_false,Bool.true_xor,Bool.not_true]
theorem ybf (a:Th) (h:a.ok):SzOk (qag a) (a.sz):=SzOk.of (fun l=>rfl) (SzOk.seq (yaq a.fj (by exact h.2.1)) (SzOk.seq (yi5 a.fh (by exact h.2.2.1)) (SzOk.one (yjp a.fi (by exact ⟨h.2.2.2.1,h.2.2.2.2.1⟩)))))
theorem yb6 (a:Th) (h:a.sz<=1048576):ypw a=some a:=by
 simp only [Th.sz] at h
 rw [ypw]
 simp only [yb4 a.fj (by first|omega|(simp only [Th.sz];omega)),yjr a.fh (by first|omega|(simp only [Th.sz];omega)),ydm a.fi (by first|omega|(simp only [Th.sz];omega)),Option.bind_some]
theorem zl9 (a:Th) (h:a.sz<=1048576):yrl a a=some true:=by
 simp only [Th.sz] at h
 rw [yrl]
 simp only [yax a.fj (by first|omega|(simp only [Th.sz];omega)),yj9 a.fh (by first|omega|(simp only [Th.sz];omega)),yjq a.fi (by first|omega|(simp only [Th.sz];omega)),Option.bind_some,ne_eq,not_true_eq_false,decide_false,cond_false,BEq.rfl,bne_self_eq_false,Bool.true_xor,Bool.not_true]
end Go.Pm
namespace Go.Pm
open IntKind (i64)
def zbb (v1:Int) (v2:Int) (v3:Int):Bool:=(bif decide (v2<=v1) then decide (v1<=v3) else false)
theorem zsq (v1:Int) (v2:Int) (v3:Int)  :zi0 v1 v2 v3=some (zbb v1 v2 v3):=by
 rw [zi0];first|rfl|(simp only [Option.bind_some,za4];rfl)
def ylw (v1:Int):Bool:=(let v2:=zbb v1 0 4294967295;v2)
theorem qet (v1:Int)  :yv2 v1=some (ylw v1):=by
 rw [yv2];first|rfl|(simp only [zsq v1 0 4294967295,Option.bind_some,za4];rfl)
def ysg (v1:Int) (v2:Int):Bool:=(let v3:=zbb v1 1 100;(bif v3 then(let v6:=zbb v2 0 5;v6) else false))
theorem qj4 (v1:Int) (v2:Int)  :yuw v1 v2=some (ysg v1 v2):=by
 rw [yuw];first|rfl|(simp only [zsq v1 1 100,zsq v2 0 5,Option.bind_some,za4];rfl)
def yu9 (v1:Int):Bool:=(let v2:=zbb v1 1 247;v2)
theorem yzi (v1:Int)  :yqi v1=some (yu9 v1):=by
 rw [yqi];first|rfl|(simp only [zsq v1 1 247,Option.bind_some,za4];rfl)
def zhp (v1:Int):Bool:=(let v2:=zbb v1 0 65535;v2)
theorem ymc (v1:Int)  :zm1 v1=some (zhp v1):=by
 rw [zm1];first|rfl|(simp only [zsq v1 0 65535,Option.bind_some,za4];rfl)
def qa8 (v1:Int):Bool:=(let v2:=zbb v1 0 5;v2)
theorem qg7 (v1:Int)  :yva v1=some (qa8 v1):=by
 rw [yva];first|rfl|(simp only [zsq v1 0 5,Option.bind_some,za4];rfl)
def zlx (v1:Int):Bool:=(let v2:=zbb v1 0 1000000000;v2)
theorem yyg (v1:Int)  :yjy v1=some (zlx v1):=by
 rw [yjy];first|rfl|(simp only [zsq v1 0 1000000000,Option.bind_some,za4];rfl)
def yu0 (v1:Td):Bool:=(let v2:=yu9 v1.fo;(bif !v2 then false else(let v5:=zbb v1.fau 0 3;(bif !v5 then false else(let v8:=zhp v1.fag;(bif !v8 then false else(let v11:=zhp v1.fal;(bif !v11 then false else(bif decide (v1.fal<v1.fag) then false else(let v15:=qa8 v1.faf;(bif !v15 then false else(let v18:=yu9 v1.fav;(bif !v18 then false else(let v21:=zbb v1.fam (-65535) 65535;(bif v21 then(let v24:=zhp (i64.wrap (v1.fag+v1.fam));(bif v24 then(let v27:=zhp (i64.wrap (v1.fal+v1.fam));v27) else false)) else false)))))))))))))))
theorem qoz (v1:Td)  :yxw v1=some (yu0 v1):=by
 rw [yxw];first|rfl|(simp only [yzi v1.fo,zsq v1.fau 0 3,ymc v1.fag,ymc v1.fal,qg7 v1.faf,yzi v1.fav,zsq v1.fam (-65535) 65535,ymc (i64.wrap (v1.fag+v1.fam)),ymc (i64.wrap (v1.fal+v1.fam)),Option.bind_some,za4];rfl)
def ysj (v1:Td) (v2:Td):Bool:=(bif decide (v1.fo=v2.fo) then(bif decide (v1.fau=v2.fau) then(bif decide (v1.fag<=v2.fal) then decide (v2.fag<=v1.fal) else false) else false) else false)
theorem qlt (v1:Td) (v2:Td)  :yz3 v1 v2=some (ysj v1 v2):=by
 rw [yz3];first|rfl|(simp only [Option.bind_some,za4];rfl)
def yxq (v1:Int):Tj×Tj×Tj:=(bif decide (v1=1) then((⟨1,2000⟩:Tj),(⟨0,0⟩:Tj),(⟨0,0⟩:Tj)) else(bif decide (v1=2) then((⟨1,2000⟩:Tj),(⟨0,0⟩:Tj),(⟨0,0⟩:Tj)) else(bif decide (v1=3) then((⟨1,125⟩:Tj),(⟨0,0⟩:Tj),(⟨0,0⟩:Tj)) else(bif decide (v1=4) then((⟨1,125⟩:Tj),(⟨0,0⟩:Tj),(⟨0,0⟩:Tj)) else(bif decide (v1=5) then((⟨0,0⟩:Tj),(⟨0,0⟩:Tj),(⟨1,1⟩:Tj)) else(bif decide (v1=6) then((⟨0,0⟩:Tj),(⟨1,1⟩:Tj),(⟨0,0⟩:Tj)) else(bif decide (v1=15) then((⟨0,0⟩:Tj),(⟨0,0⟩:Tj),(⟨1,1968⟩:Tj)) else(bif decide (v1=16) then((⟨0,0⟩:Tj),(⟨1,123⟩:Tj),(⟨0,0⟩:Tj)) else(bif decide (v1=22) then((⟨0,0⟩:Tj),(⟨2,2⟩:Tj),(⟨0,0⟩:Tj)) else((⟨1,125⟩:Tj),(⟨1,121⟩:Tj),(⟨0,0⟩:Tj)))))))))))
theorem qt1 (v1:Int)  :yzf v1=some (yxq v1):=by
 rw [yzf];first|rfl|(simp only [Option.bind_some,za4];rfl)
def ybl (v1:Int):Bool:=(let v2:=zbb v1 1 6;(bif v2 then true else(bif decide (v1=15) then true else(bif decide (v1=16) then true else(bif decide (v1=22) then true else decide (v1=23))))))
theorem qdz (v1:Int)  :yvj v1=some (ybl v1):=by
 rw [yvj];first|rfl|(simp only [zsq v1 1 6,Option.bind_some,za4];rfl)
def ysp (v1:Tg):Int:=(bif decide (v1.fe=22) then 1 else i64.wrap (((v1.fc.length:Nat):Int)+((v1.fb.length:Nat):Int)))
theorem qba (v1:Tg) (hv1:v1.sz<=1048576):ypr v1=some (ysp v1):=by
 rw [ypr];first|rfl|(simp only [Option.bind_some,za4];rfl)
def yu5 (v1:Te):Bool:=(let v2:=zbb v1.fae 1 255;(bif v2 then(bif decide (v1.ff=0) then(bif decide (v1.fN=0) then(bif decide (((v1.fc.length:Nat):Int)=0) then decide (((v1.fb.length:Nat):Int)=0) else false) else false) else false) else false))
theorem quc (v1:Te) (hv1:v1.sz<=1048576):yzh v1=some (yu5 v1):=by
 rw [yzh];first|rfl|(simp only [zsq v1.fae 1 255,Option.bind_some,za4];rfl)
def yzg (v1:Int):Tj×Tj×Int×Bool:=(bif decide (v1=1) then((⟨0,0⟩:Tj),(⟨1,2000⟩:Tj),0,false) else(bif decide (v1=2) then((⟨0,0⟩:Tj),(⟨1,2000⟩:Tj),0,false) else(bif decide (v1=3) then((⟨1,125⟩:Tj),(⟨0,0⟩:Tj),0,false) else(bif decide (v1=4) then((⟨1,125⟩:Tj),(⟨0,0⟩:Tj),0,false) else(bif decide (v1=23) then((⟨1,125⟩:Tj),(⟨0,0⟩:Tj),0,false) else(bif decide (v1=5) then((⟨0,0⟩:Tj),(⟨1,1⟩:Tj),0,true) else(bif decide (v1=6) then((⟨1,1⟩:Tj),(⟨0,0⟩:Tj),0,true) else(bif decide (v1=15) then((⟨0,0⟩:Tj),(⟨0,0⟩:Tj),1968,true) else(bif decide (v1=16) then((⟨0,0⟩:Tj),(⟨0,0⟩:Tj),123,true) else((⟨2,2⟩:Tj),(⟨0,0⟩:Tj),0,true))))))))))
theorem quv (v1:Int)  :yxu v1=some (yzg v1):=by
 rw [yxu];first|rfl|(simp only [Option.bind_some,za4];rfl)
def yyl (v1:Int):Bool:=(let v2:=zhp v1;!v2)
theorem qiv (v1:Int)  :qaa v1=some (yyl v1):=by
 rw [qaa];first|rfl|(simp only [ymc v1,Option.bind_some,za4];rfl)
def qli (v1:Int) (v2:Int) (v3:Int):Bool:=(bif decide (v2<=v1) then decide (v1<=v3) else false)
theorem qu2 (v1:Int) (v2:Int) (v3:Int)  :zcm v1 v2 v3=some (qli v1 v2 v3):=by
 rw [zcm];first|rfl|(simp only [Option.bind_some,za4];rfl)
theorem qss (v1:Int) (v2:Int) (v3:Int)  :qli v1 v2 v3=zbb v1 v2 v3:=by
 rfl
theorem zf3 (v1:Int) (v2:Int) (v3:Int)  :zcm v1 v2 v3=some (zbb v1 v2 v3):=by rw [qu2 v1 v2 v3 ,qss v1 v2 v3 ]
def qlb (v1:Int):Bool:=(let v2:=zbb v1 0 4294967295;v2)
theorem qne (v1:Int)  :yu4 v1=some (qlb v1):=by
 rw [yu4];first|rfl|(simp only [zf3 v1 0 4294967295,Option.bind_some,za4];rfl)
def qfu (v1:Int):Bool:=(let v2:=zbb v1 1 6;(bif v2 then true else(bif decide (v1=15) then true else(bif decide (v1=16) then true else(bif decide (v1=22) then true else decide (v1=23))))))
theorem qmu (v1:Int)  :yw3 v1=some (qfu v1):=by
 rw [yw3];first|rfl|(simp only [zf3 v1 1 6,Option.bind_some,za4];rfl)
def yk3 (v1:Int) (v2:Int):Bool:=(let v3:=zbb v1 0 65535;(bif v3 then decide ((i64.wrap (v1+v2))<=65536) else false))
theorem ywz (v1:Int) (v2:Int)  :ycs v1 v2=some (yk3 v1 v2):=by
 rw [ycs];first|rfl|(simp only [zf3 v1 0 65535,Option.bind_some,za4];rfl)
def ybk (v1:Tg) (v2:Bool) (v3:Bool) (v4:Bool) (v5:Bool):Bool:=(bif v2 then(bif v3 then(bif v4 then(bif v5 then true else decide (v1.fp=0)) else(bif decide (((v1.fb.length:Nat):Int)=0) then(bif v5 then true else decide (v1.fp=0)) else false)) else(bif decide (((v1.fc.length:Nat):Int)=0) then(bif v4 then(bif v5 then true else decide (v1.fp=0)) else(bif decide (((v1.fb.length:Nat):Int)=0) then(bif v5 then true else decide (v1.fp=0)) else false)) else false)) else(bif decide (v1.fN=0) then(bif v3 then(bif v4 then(bif v5 then true else decide (v1.fp=0)) else(bif decide (((v1.fb.length:Nat):Int)=0) then(bif v5 then true else decide (v1.fp=0)) else false)) else(bif decide (((v1.fc.length:Nat):Int)=0) then(bif v4 then(bif v5 then true else decide (v1.fp=0)) else(bif decide (((v1.fb.length:Nat):Int)=0) then(bif v5 then true else decide (v1.fp=0)) else false)) else false)) else false))
theorem qab (v1:Tg) (v2:Bool) (v3:Bool) (v4:Bool) (v5:Bool) (hv1:v1.sz<=1048576):ybe v1 v2 v3 v4 v5=some (ybk v1 v2 v3 v4 v5):=by
 rw [ybe];first|rfl|(simp only [Option.bind_some,za4];rfl)
def zzj (v1:Te) (v2:Bool) (v3:Bool) (v4:Bool) (v5:Bool):Bool:=(bif v2 then(bif v3 then(bif v4 then(bif v5 then true else decide (((v1.fb.length:Nat):Int)=0)) else(bif decide (((v1.fc.length:Nat):Int)=0) then(bif v5 then true else decide (((v1.fb.length:Nat):Int)=0)) else false)) else(bif decide (v1.fN=0) then(bif v4 then(bif v5 then true else decide (((v1.fb.length:Nat):Int)=0)) else(bif decide (((v1.fc.length:Nat):Int)=0) then(bif v5 then true else decide (((v1.fb.length:Nat):Int)=0)) else false)) else false)) else(bif decide (v1.ff=0) then(bif v3 then(bif v4 then(bif v5 then true else decide (((v1.fb.length:Nat):Int)=0)) else(bif decide (((v1.fc.length:Nat):Int)=0) then(bif v5 then true else decide (((v1.fb.length:Nat):Int)=0)) else false)) else(bif decide (v1.fN=0) then(bif v4 then(bif v5 then true else decide (((v1.fb.length:Nat):Int)=0)) else(bif decide (((v1.fc.length:Nat):Int)=0) then(bif v5 then true else decide (((v1.fb.length:Nat):Int)=0)) else false)) else false)) else false))
theorem yuf (v1:Te) (v2:Bool) (v3:Bool) (v4:Bool) (v5:Bool) (hv1:v1.sz<=1048576):zzh v1 v2 v3 v4 v5=some (zzj v1 v2 v3 v4 v5):=by
 rw [zzh];first|rfl|(simp only [Option.bind_some,za4];rfl)
def qar (v1:Td):Bool:=(let v2:=zbb v1.fo 1 247;(bif v2 then(let v5:=zbb v1.fau 0 3;(bif v5 then(let v8:=zbb v1.fag 0 65535;(bif v8 then(let v11:=zbb v1.fal v1.fag 65535;(bif v11 then(let v14:=zbb v1.faf 0 5;(bif v14 then(let v17:=zbb v1.fav 1 247;(bif v17 then(let v20:=zbb v1.fam (-65535) 65535;(bif v20 then(let v23:=zbb (i64.wrap (v1.fag+v1.fam)) 0 65535;(bif v23 then(let v26:=zbb (i64.wrap (v1.fal+v1.fam)) 0 65535;v26) else false)) else false)) else false)) else false)) else false)) else false)) else false)) else false))
theorem qws (v1:Td)  :yza v1=some (qar v1):=by
 rw [yza];first|rfl|(simp only [zf3 v1.fo 1 247,zf3 v1.fau 0 3,zf3 v1.fag 0 65535,zf3 v1.fal v1.fag 65535,zf3 v1.faf 0 5,zf3 v1.fav 1 247,zf3 v1.fam (-65535) 65535,zf3 (i64.wrap (v1.fag+v1.fam)) 0 65535,zf3 (i64.wrap (v1.fal+v1.fam)) 0 65535,Option.bind_some,za4];rfl)
theorem qwi (v1:Int)  :qlb v1=ylw v1:=by
 rfl
theorem qem (v1:Int)  :yu4 v1=some (ylw v1):=by rw [qne v1 ,qwi v1 ]
theorem qv5 (v1:Int)  :qfu v1=ybl v1:=by
 rfl
theorem qvx (v1:Int)  :yw3 v1=some (ybl v1):=by rw [qmu v1 ,qv5 v1 ]
def qcl (v1:List Td) (v2:Td):Int:=zkz (fun (x:Td)=>ysj x v2) v1 0
theorem qo9 (v1:List Td) (v2:Td) (hv1:v1.length<=1048576):qac v1 v2=some (qcl v1 v2):=by
 have hlen:v1.length<=9223372036854775806:=by have hq:v1.length<=v1.length:=Nat.le_refl _;omega
 rw [qac];unfold zws qcl
 exact ytw (fun (x:Td)=>ysj x v2) hlen rfl (fun d x t he=>by rw [ycl];first|rfl|(simp only [qlt x v2,Option.bind_some];done)|(simp only [qlt x v2,Option.bind_some];rfl)|done)
def qa9 (v1:List Int):Int:=zkz (fun (x:Int)=>yyl x) v1 0
theorem qrc (v1:List Int) (hv1:v1.length<=1048576):yxt v1=some (qa9 v1):=by
 have hlen:v1.length<=9223372036854775806:=by have hq:v1.length<=v1.length:=Nat.le_refl _;omega
 rw [yxt];unfold zuw qa9
 exact ytw (fun (x:Int)=>yyl x) hlen rfl (fun d x t he=>by rw [yd3];first|rfl|(simp only [qiv x,Option.bind_some];done)|(simp only [qiv x,Option.bind_some];rfl)|done)
def qbu (v1:List Bool) (v2:Bool):Int:=zkz (fun (x:Bool)=>(false ^^ (v2 == x))) v1 0
theorem qx0 (v1:List Bool) (v2:Bool) (hv1:v1.length<=1048576):ywl v1 v2=some (qbu v1 v2):=by
 have hlen:v1.length<=9223372036854775806:=by have hq:v1.length<=v1.length:=Nat.le_refl _;omega
 rw [ywl];unfold zvc qbu
 exact ytw (fun (x:Bool)=>(false ^^ (v2 == x))) hlen rfl (fun d x t he=>by rw [yd2];first|rfl|(simp only [Option.bind_some];done)|(simp only [Option.bind_some];rfl)|done)
def qm5 (v1:List Td) (v2:Td):Bool:=(let v3:=qcl v1 v2;decide (0<=v3))
theorem qp3 (v1:List Td) (v2:Td) (hv1:v1.length<=1048576):yws v1 v2=some (qm5 v1 v2):=by
 rw [yws];first|rfl|(simp only [qo9 v1 v2 hv1,Option.bind_some,za4];rfl)
def qai (v1:List Int):Bool:=(let v2:=qa9 v1;decide (0<=v2))
theorem qv3 (v1:List Int) (hv1:v1.length<=1048576):yxx v1=some (qai v1):=by
 rw [yxx];first|rfl|(simp only [qrc v1 hv1,Option.bind_some,za4];rfl)
def qhh (v1:List Bool) (v2:Bool):Bool:=(let v3:=qbu v1 v2;decide (0<=v3))
theorem qe5 (v1:List Bool) (v2:Bool) (hv1:v1.length<=1048576):yvl v1 v2=some (qhh v1 v2):=by
 rw [yvl];first|rfl|(simp only [qx0 v1 v2 hv1,Option.bind_some,za4];rfl)
def qaw (v1:List Int):Bool:=(let v2:=qai v1;!v2)
theorem qqo (v1:List Int) (hv1:v1.length<=1048576):yui v1=some (qaw v1):=by
 rw [yui];first|rfl|(simp only [qv3 v1 hv1,Option.bind_some,za4];rfl)
def zdg (l:List Int):Bool:=l.all fun n=>decide (0<=n)&&decide (n<=65535)
theorem zwl (l:List Int):qaw l=zdg l:=by
 unfold qaw qai qa9 zdg
 simp only [zjh,List.all_eq_not_any_not]
 congr 2;funext n
 unfold yyl zhp zbb
 by_cases h:0<=n <;> simp [h]
theorem qe9 (v1:List Int) (hv1:v1.length<=1048576):yui v1=some (zdg v1):=by rw [qqo v1 hv1,zwl]
theorem qmj (v1:List Int) (hv1:v1.length<=1048576):yv8 v1=some (zdg v1):=by
 rw [yv8];unfold zuk
 rw [yl6 (fun _ n=> !(decide (0<=n)&&decide (n<=65535))) (by omega) rfl (fun d x t he=>⟨((d.length:Nat):Int),by
  rw [yef];simp only [zf3,Option.bind_some,zbb]
  by_cases h:0<=x <;> by_cases h':x<=65535 <;> simp [h,h']⟩)]
 rw [zda]
 unfold zdg
 rw [List.all_eq_not_any_not]
 cases v1.any fun n=> !(decide (0<=n)&&decide (n<=65535)) <;> simp
def zs7 (v1:Tg):Bool:=(let v2:=yxq v1.fe;(let v4:=ybl v1.fe;(bif !v4 then false else(let v7:=zbb v1.fN v2.1.f0 v2.1.f1;(bif !v7 then false else(let v10:=zbb ((v1.fc.length:Nat):Int) v2.2.1.f0 v2.2.1.f1;(bif !v10 then false else(let v13:=zbb ((v1.fb.length:Nat):Int) v2.2.2.f0 v2.2.2.f1;(bif !v13 then false else(let v16:=zhp v1.ff;(bif !v16 then false else(let v19:=zhp v1.fp;(bif !v19 then false else(let v22:=zdg v1.fc;(bif !v22 then false else(bif decide (65536<(i64.wrap (v1.ff+v1.fN))) then false else(bif decide (v1.fe=23) then(let v27:=ysp v1;decide ((i64.wrap (v1.fp+v27))<=65536)) else(bif decide (v1.fp=0) then(let v30:=ysp v1;decide ((i64.wrap (v1.ff+v30))<=65536)) else false))))))))))))))))))
theorem yyr (v1:Tg) (hv1:v1.sz<=1048576):yst v1=some (zs7 v1):=by
 rw [yst];first|rfl|(simp only [qt1 v1.fe,qdz v1.fe,ymc v1.ff,ymc v1.fp,qe9 v1.fc (by simp only [Tg.sz] at hv1;omega),qba v1 hv1,zsq,Option.bind_some,za4];rfl)
def yxh (v1:Tg):Bool:=(let v2:=zdg v1.fc;(bif !v2 then false else(let v5:=zbb v1.ff 0 65535;(bif !v5 then false else(bif decide (v1.fe=1) then(let v9:=ybk v1 true false false false;(bif v9 then(let v12:=zbb v1.fN 1 2000;(bif v12 then(let v15:=yk3 v1.ff v1.fN;v15) else false)) else false)) else(bif decide (v1.fe=2) then(let v18:=ybk v1 true false false false;(bif v18 then(let v21:=zbb v1.fN 1 2000;(bif v21 then(let v24:=yk3 v1.ff v1.fN;v24) else false)) else false)) else(bif decide (v1.fe=3) then(let v27:=ybk v1 true false false false;(bif v27 then(let v30:=zbb v1.fN 1 125;(bif v30 then(let v33:=yk3 v1.ff v1.fN;v33) else false)) else false)) else(bif decide (v1.fe=4) then(let v36:=ybk v1 true false false false;(bif v36 then(let v39:=zbb v1.fN 1 125;(bif v39 then(let v42:=yk3 v1.ff v1.fN;v42) else false)) else false)) else(bif decide (v1.fe=5) then(let v45:=ybk v1 false false true false;(bif v45 then decide (((v1.fb.length:Nat):Int)=1) else false)) else(bif decide (v1.fe=6) then(let v49:=ybk v1 false true false false;(bif v49 then decide (((v1.fc.length:Nat):Int)=1) else false)) else(bif decide (v1.fe=15) then(let v53:=ybk v1 false false true false;(bif v53 then(let v56:=zbb ((v1.fb.length:Nat):Int) 1 1968;(bif v56 then(let v59:=yk3 v1.ff ((v1.fb.length:Nat):Int);v59) else false)) else false)) else(bif decide (v1.fe=16) then(let v62:=ybk v1 false true false false;(bif v62 then(let v65:=zbb ((v1.fc.length:Nat):Int) 1 123;(bif v65 then(let v68:=yk3 v1.ff ((v1.fc.length:Nat):Int);v68) else false)) else false)) else(bif decide (v1.fe=22) then(let v71:=ybk v1 false true false false;(bif v71 then decide (((v1.fc.length:Nat):Int)=2) else false)) else(bif decide (v1.fe=23) then(let v75:=ybk v1 true true false true;(bif v75 then(let v78:=zbb v1.fN 1 125;(bif v78 then(let v81:=yk3 v1.ff v1.fN;(bif v81 then(let v84:=zbb ((v1.fc.length:Nat):Int) 1 121;(bif v84 then(let v87:=yk3 v1.fp ((v1.fc.length:Nat):Int);v87) else false)) else false)) else false)) else false)) else false))))))))))))))
theorem qus (v1:Tg) (hv1:v1.sz<=1048576):yof v1=some (yxh v1):=by
 rw [yof];first|rfl|(simp only [qmj v1.fc (by simp only [Tg.sz] at hv1;omega),zf3 v1.ff 0 65535,qab v1 true false false false hv1,zf3 v1.fN 1 2000,ywz v1.ff v1.fN,zf3 v1.fN 1 125,qab v1 false false true false hv1,qab v1 false true false false hv1,zf3 ((v1.fb.length:Nat):Int) 1 1968,ywz v1.ff ((v1.fb.length:Nat):Int),zf3 ((v1.fc.length:Nat):Int) 1 123,ywz v1.ff ((v1.fc.length:Nat):Int),qab v1 true true false true hv1,zf3 ((v1.fc.length:Nat):Int) 1 121,ywz v1.fp ((v1.fc.length:Nat):Int),Option.bind_some,za4];rfl)
theorem qu3 (v1:Tg) (hv1:v1.sz<=1048576):yxh v1=zs7 v1:=by
 simp only [Tg.sz] at hv1
 have e1:=zig (v1.ff+v1.fN)
 have e2:=zig (v1.fp+v1.fN)
 have e3:=zig (v1.ff+(v1.fb.length:Int))
 have e4:=zig (v1.ff+(v1.fc.length:Int))
 have e5:=zig (v1.fp+(v1.fc.length:Int))
 have e6:=zig ((v1.fc.length:Int)+(v1.fb.length:Int))
 have e7:=zig (v1.ff+i64.wrap ((v1.fc.length:Int)+(v1.fb.length:Int)))
 have e8:=zig (v1.fp+i64.wrap ((v1.fc.length:Int)+(v1.fb.length:Int)))
 have e9:=zig (v1.ff+1)
 have e10:=zig (v1.fp+1)
 have g1:(0:Int)<=v1.fc.length:=by omega
 have g2:(0:Int)<=v1.fb.length:=by omega
 have g3:(v1.fc.length:Int)+v1.fb.length<=1048576:=by omega
 clear hv1
 rw [Bool.eq_iff_iff]
 cases hw:zdg v1.fc
 ·simp [yxh,zs7,hw]
 simp only [yxh,zs7,hw,ybl,yxq,ysp,zhp,zbb,ybk,yk3]
 by_cases k1:v1.fe=1
 ·simp [k1,-List.length_eq_zero_iff];omega
 by_cases k2:v1.fe=2
 ·simp [k2,-List.length_eq_zero_iff];omega
 by_cases k3:v1.fe=3
 ·simp [k3,-List.length_eq_zero_iff];omega
 by_cases k4:v1.fe=4
 ·simp [k4,-List.length_eq_zero_iff];omega
 by_cases k5:v1.fe=5
 ·simp [k5,-List.length_eq_zero_iff];omega
 by_cases k6:v1.fe=6
 ·simp [k6,-List.length_eq_zero_iff];omega
 by_cases k15:v1.fe=15
 ·simp [k15,-List.length_eq_zero_iff];omega
 by_cases k16:v1.fe=16
 ·simp [k16,-List.length_eq_zero_iff];omega
 by_cases k22:v1.fe=22
 ·simp [k22,-List.length_eq_zero_iff];omega
 by_cases k23:v1.fe=23
 ·simp [k23,-List.length_eq_zero_iff];omega
 simp [k1,k2,k3,k4,k5,k6,k15,k16,k22,k23,-List.length_eq_zero_iff];try omega
theorem yx7 (v1:Tg) (hv1:v1.sz<=1048576):yof v1=some (zs7 v1):=by rw [qus v1 hv1,qu3 v1 hv1]
def ybc (v1:Te):Bool:=(let v2:=ybl v1.fe;(bif !v2 then false else(bif decide (v1.fae≠0) then(let v6:=yu5 v1;v6) else(let v8:=yzg v1.fe;(let v10:=zbb ((v1.fc.length:Nat):Int) v8.1.f0 v8.1.f1;(bif !v10 then false else(let v13:=zbb ((v1.fb.length:Nat):Int) v8.2.1.f0 v8.2.1.f1;(bif !v13 then false else(let v16:=zdg v1.fc;(bif !v16 then false else(bif decide (1<v8.2.1.f1) then(bif decide ((((v1.fb.length:Nat):Int).tmod 8)≠0) then false else(bif decide (v8.2.2.1=0) then(bif decide (v1.fN≠0) then false else(bif decide (0<v8.2.2.1) then(let v24:=zbb v1.fN 1 v8.2.2.1;(bif !v24 then false else(bif v8.2.2.2 then(let v28:=zhp v1.ff;(bif v28 then true else decide (v1.ff=0))) else decide (v1.ff=0)))) else(bif v8.2.2.2 then(let v32:=zhp v1.ff;(bif v32 then true else decide (v1.ff=0))) else decide (v1.ff=0)))) else(bif decide (0<v8.2.2.1) then(let v36:=zbb v1.fN 1 v8.2.2.1;(bif !v36 then false else(bif v8.2.2.2 then(let v40:=zhp v1.ff;(bif v40 then true else decide (v1.ff=0))) else decide (v1.ff=0)))) else(bif v8.2.2.2 then(let v44:=zhp v1.ff;(bif v44 then true else decide (v1.ff=0))) else decide (v1.ff=0))))) else(bif decide (v8.2.2.1=0) then(bif decide (v1.fN≠0) then false else(bif decide (0<v8.2.2.1) then(let v50:=zbb v1.fN 1 v8.2.2.1;(bif !v50 then false else(bif v8.2.2.2 then(let v54:=zhp v1.ff;(bif v54 then true else decide (v1.ff=0))) else decide (v1.ff=0)))) else(bif v8.2.2.2 then(let v58:=zhp v1.ff;(bif v58 then true else decide (v1.ff=0))) else decide (v1.ff=0)))) else(bif decide (0<v8.2.2.1) then(let v62:=zbb v1.fN 1 v8.2.2.1;(bif !v62 then false else(bif v8.2.2.2 then(let v66:=zhp v1.ff;(bif v66 then true else decide (v1.ff=0))) else decide (v1.ff=0)))) else(bif v8.2.2.2 then(let v70:=zhp v1.ff;(bif v70 then true else decide (v1.ff=0))) else decide (v1.ff=0)))))))))))))))
theorem qoa (v1:Te) (hv1:v1.sz<=1048576):qa7 v1=some (ybc v1):=by
 rw [qa7];first|rfl|(simp only [qdz v1.fe,quc v1 hv1,quv v1.fe,qe9 v1.fc (by simp only [Te.sz] at hv1;omega),ymc v1.ff,zsq,Option.bind_some,za4];rfl)
def ytt (v1:Te):Bool:=(let v2:=ybl v1.fe;(bif !v2 then false else(let v5:=zbb v1.fae 0 255;(bif !v5 then false else(let v8:=zdg v1.fc;(bif !v8 then false else(let v11:=zbb v1.ff 0 65535;(bif !v11 then false else(bif decide (0<v1.fae) then(let v15:=zzj v1 false false false false;v15) else(bif decide (v1.fe=1) then(let v18:=zzj v1 false false false true;(bif v18 then(let v21:=zbb ((v1.fb.length:Nat):Int) 1 2000;(bif v21 then decide ((((v1.fb.length:Nat):Int).tmod 8)=0) else false)) else false)) else(bif decide (v1.fe=2) then(let v25:=zzj v1 false false false true;(bif v25 then(let v28:=zbb ((v1.fb.length:Nat):Int) 1 2000;(bif v28 then decide ((((v1.fb.length:Nat):Int).tmod 8)=0) else false)) else false)) else(bif decide (v1.fe=3) then(let v32:=zzj v1 false false true false;(bif v32 then(let v35:=zbb ((v1.fc.length:Nat):Int) 1 125;v35) else false)) else(bif decide (v1.fe=4) then(let v38:=zzj v1 false false true false;(bif v38 then(let v41:=zbb ((v1.fc.length:Nat):Int) 1 125;v41) else false)) else(bif decide (v1.fe=23) then(let v44:=zzj v1 false false true false;(bif v44 then(let v47:=zbb ((v1.fc.length:Nat):Int) 1 125;v47) else false)) else(bif decide (v1.fe=5) then(let v50:=zzj v1 true false false true;(bif v50 then decide (((v1.fb.length:Nat):Int)=1) else false)) else(bif decide (v1.fe=6) then(let v54:=zzj v1 true false true false;(bif v54 then decide (((v1.fc.length:Nat):Int)=1) else false)) else(bif decide (v1.fe=22) then(let v58:=zzj v1 true false true false;(bif v58 then decide (((v1.fc.length:Nat):Int)=2) else false)) else(bif decide (v1.fe=15) then(let v62:=zzj v1 true true false false;(bif v62 then(let v65:=zbb v1.fN 1 1968;v65) else false)) else(let v67:=zzj v1 true true false false;(bif v67 then(let v70:=zbb v1.fN 1 123;v70) else false))))))))))))))))))))
theorem qqq (v1:Te) (hv1:v1.sz<=1048576):yvv v1=some (ytt v1):=by
 rw [yvv];first|rfl|(simp only [qvx v1.fe,zf3 v1.fae 0 255,qmj v1.fc (by simp only [Te.sz] at hv1;omega),zf3 v1.ff 0 65535,yuf v1 false false false false hv1,yuf v1 false false false true hv1,zf3 ((v1.fb.length:Nat):Int) 1 2000,yuf v1 false false true false hv1,zf3 ((v1.fc.length:Nat):Int) 1 125,yuf v1 true false false true hv1,yuf v1 true false true false hv1,yuf v1 true true false false hv1,zf3 v1.fN 1 1968,zf3 v1.fN 1 123,Option.bind_some,za4];rfl)
theorem qsj (v1:Te) (hv1:v1.sz<=1048576):ytt v1=ybc v1:=by
 simp only [Te.sz] at hv1
 rw [Bool.eq_iff_iff]
 cases hw:zdg v1.fc
 ·by_cases hf:v1.fae=0
  ·simp [ytt,ybc,hw,hf]
  ·simp [ytt,ybc,hw,hf,yu5,ybl,zbb,-List.length_eq_zero_iff]
   intro _ _ _ _ _ h
   have:v1.fc=[]:=List.eq_nil_of_length_eq_zero (by omega)
   rw [this] at hw;cases hw
 by_cases hf:v1.fae=0
 ·simp only [ytt,ybc,hw,ybl,yzg,zhp,zbb,zzj,hf,yu5]
  by_cases k1:v1.fe=1
  ·simp [k1,-List.length_eq_zero_iff];omega
  by_cases k2:v1.fe=2
  ·simp [k2,-List.length_eq_zero_iff];omega
  by_cases k3:v1.fe=3
  ·simp [k3,-List.length_eq_zero_iff];omega
  by_cases k4:v1.fe=4
  ·simp [k4,-List.length_eq_zero_iff];omega
  by_cases k23:v1.fe=23
  ·simp [k23,-List.length_eq_zero_iff];omega
  by_cases k5:v1.fe=5
  ·simp [k5,-List.length_eq_zero_iff];omega
  by_cases k6:v1.fe=6
  ·simp [k6,-List.length_eq_zero_iff];omega
  by_cases k15:v1.fe=15
  ·simp [k15,-List.length_eq_zero_iff];omega
  by_cases k16:v1.fe=16
  ·simp [k16,-List.length_eq_zero_iff];omega
  by_cases k22:v1.fe=22
  ·simp [k22,-List.length_eq_zero_iff];omega
  simp [k1,k2,k3,k4,k5,k6,k15,k16,k22,k23,-List.length_eq_zero_iff];try omega
 ·simp only [ytt,ybc,hw,ybl,zbb,zzj,yu5]
  by_cases hp:0<v1.fae
  ·simp [hf,hp,-List.length_eq_zero_iff];omega
  ·have h0:¬ 0<=v1.fae:=by omega
   have h1:¬ 1<=v1.fae:=by omega
   simp [hf,h0,h1]
theorem qxz (v1:Te) (hv1:v1.sz<=1048576):yvv v1=some (ybc v1):=by rw [qqq v1 hv1,qsj v1 hv1]
def zef (n:Int):Int:=i64.wrap ((i64.wrap ((i64.wrap (n+7)).tdiv 8)) * 8)
theorem zrf {n:Int} (h1:1<=n) (h2:n<=2000):n<=zef n/\zef n<=2007:=by
 unfold zef
 rw [zc6 (n:=n+7) (by omega) (by omega),Int.tdiv_eq_ediv_of_nonneg (by omega),zc6 (n:=(n+7) / 8) (by omega) (by omega),zc6 (by omega) (by omega)]
 omega
def ybb (n:Int) (bs:List Bool):Bool:=bif decide (((bs.length:Nat):Int)=zef n) then !((bs.drop n.toNat).any id) else false
theorem qko (v1:Int) (v2:List Bool) (h:v2.length<=1048576) (h1:1<=v1) (h2:v1<=2000):yve v1 v2=some (ybb v1 v2):=by
 rw [yve]
 show (bif decide (((v2.length:Nat):Int)=zef v1) then _ else _)=_
 have hb:=zrf h1 h2
 unfold ybb
 by_cases he:((v2.length:Nat):Int)=zef v1
 ·simp only [he,decide_true,cond_true]
  rw [if_pos (by simp only [List.length_map];omega)]
  have hd:(v2.take ((((v2.map V.bool).length:Nat):Int).toNat)).drop (v1:Int).toNat=v2.drop v1.toNat:=by
   rw [za8,List.length_map,List.take_length]
  rw [hd,qe5 _ _ (by simp;omega)]
  show some (!decide (0<=zkz _ _ 0))=some (!((v2.drop v1.toNat).any id))
  rw [zjh]
  congr 3;funext x;cases x <;> rfl
 ·simp [he]
theorem yrw {body:Int->Option (Int⊕(Int⊕Int))} {bs:List Bool} (hl:bs.length<=1048576) (hb:∀ s:Int,body s=(bif decide (s<((bs.length:Nat):Int)) then(if 0<=s then((bs[s.toNat]?).bind fun v=>(bif v then(some (.inr (.inl s))) else(some (.inl (i64.wrap (s+1)))))) else none) else(some (.inr (.inr s))))):
 ∀ (t d:List Bool) (n:Nat),d++t=bs->t.length<n->∀ {γ:Type} (A B:Option γ),(zbf body n ((d.length:Nat):Int)).bind (zbw (fun _=>A) (fun _=>B))=if t.any id then A else B
 | [],d,n,he,hn,γ,A,B=>by
   obtain ⟨n,rfl⟩:∃ m,n=m+1:=⟨n - 1,by simp at hn;omega⟩
   have he:d=bs:=by simpa using he
   subst he
   simp only [zbf,hb]
   simp [zbw]
 | x::t,d,n,he,hn,γ,A,B=>by
   obtain ⟨n,rfl⟩:∃ m,n=m+1:=⟨n - 1,by simp at hn;omega⟩
   have hlt:=zfd he
   simp only [zbf,hb,za8,zcq he]
   have hd:decide (((d.length:Nat):Int)<((bs.length:Nat):Int))=true:=by simp;omega
   simp only [hd,cond_true]
   rw [if_pos (by omega)]
   cases x with
   | true=>simp [zbw]
   | false=>
     simp only [Option.bind_some,cond_false]
     rw [zc6 (by omega) (by omega)]
     have:=yrw hl hb t (d ++ [false]) n (by simpa using he) (by simp at hn;omega) A B
     simpa using this
def zkc (q:Tg) (a:Te):Bool:=
 bif !zs7 q then false else bif !ybc a then false else bif decide (a.fe≠q.fe) then false else bif decide (a.fae≠0) then true else
 bif decide (q.fe=1)||decide (q.fe=2) then ybb q.fN a.fb else
 bif decide (q.fe=3)||(decide (q.fe=4)||decide (q.fe=23)) then decide (((a.fc.length:Nat):Int)=q.fN) else
 bif decide (q.fe=15) then decide (a.ff=q.ff)&&decide (a.fN=((q.fb.length:Nat):Int)) else
 bif decide (q.fe=16) then decide (a.ff=q.ff)&&decide (a.fN=((q.fc.length:Nat):Int)) else
 decide (a.ff=q.ff)&&(decide (a.fc=q.fc)&&decide (a.fb=q.fb))
theorem zjp {q:Tg} (h:zs7 q=true):zdg q.fc=true/\(q.fe=1\/q.fe=2\/q.fe=3\/q.fe=4\/q.fe=5\/q.fe=6\/q.fe=15\/q.fe=16\/q.fe=22\/q.fe=23)/\
 (0<=q.ff/\q.ff<=65535)/\(0<=q.fp/\q.fp<=65535)/\
 (q.fe=1\/q.fe=2->1<=q.fN/\q.fN<=2000/\q.fc.length=0/\q.fb.length=0)/\(q.fe=3\/q.fe=4->1<=q.fN/\q.fN<=125/\q.fc.length=0/\q.fb.length=0)/\
 (q.fe=5->q.fN=0/\q.fc.length=0/\q.fb.length=1)/\(q.fe=6->q.fN=0/\q.fc.length=1/\q.fb.length=0)/\
 (q.fe=15->q.fN=0/\q.fc.length=0/\1<=q.fb.length/\q.fb.length<=1968)/\(q.fe=16->q.fN=0/\1<=q.fc.length/\q.fc.length<=123/\q.fb.length=0)/\
 (q.fe=22->q.fN=0/\q.fc.length=2/\q.fb.length=0)/\(q.fe=23->1<=q.fN/\q.fN<=125/\1<=q.fc.length/\q.fc.length<=121/\q.fb.length=0):=by
 simp only [zs7,ybl,yxq,ysp,zhp,zbb] at h
 cases hw:zdg q.fc
 ·simp [hw] at h
 simp only [hw] at h
 refine ⟨rfl,?_⟩
 by_cases k1:q.fe=1
 ·simp [k1,-List.length_eq_zero_iff] at h ⊢;omega
 by_cases k2:q.fe=2
 ·simp [k2,-List.length_eq_zero_iff] at h ⊢;omega
 by_cases k3:q.fe=3
 ·simp [k3,-List.length_eq_zero_iff] at h ⊢;omega
 by_cases k4:q.fe=4
 ·simp [k4,-List.length_eq_zero_iff] at h ⊢;omega
 by_cases k5:q.fe=5
 ·simp [k5,-List.length_eq_zero_iff] at h ⊢;omega
 by_cases k6:q.fe=6
 ·simp [k6,-List.length_eq_zero_iff] at h ⊢;omega
 by_cases k15:q.fe=15
 ·simp [k15,-List.length_eq_zero_iff] at h ⊢;omega
 by_cases k16:q.fe=16
 ·simp [k16,-List.length_eq_zero_iff] at h ⊢;omega
 by_cases k22:q.fe=22
 ·simp [k22,-List.length_eq_zero_iff] at h ⊢;omega
 by_cases k23:q.fe=23
 ·simp [k23,-List.length_eq_zero_iff] at h ⊢;omega
 simp [k1,k2,k3,k4,k5,k6,k15,k16,k22,k23] at h;omega
theorem zrg {a:Te} (h:ybc a=true) (h0:a.fae=0):zdg a.fc=true/\
 (a.fe=5->a.fc.length=0/\a.fb.length=1)/\(a.fe=6->a.fc.length=1/\a.fb.length=0)/\(a.fe=22->a.fc.length=2/\a.fb.length=0)/\
 (a.fe=1\/a.fe=2->a.fc.length=0)/\(a.fe=3\/a.fe=4\/a.fe=23->a.fb.length=0)/\(a.fe=15\/a.fe=16->a.fc.length=0/\a.fb.length=0):=by
 simp only [ybc,ybl,yzg,zhp,zbb,h0] at h
 cases hw:zdg a.fc
 ·simp [hw] at h
 simp only [hw] at h
 refine ⟨rfl,?_⟩
 by_cases k1:a.fe=1
 ·simp [k1,-List.length_eq_zero_iff] at h ⊢;omega
 by_cases k2:a.fe=2
 ·simp [k2,-List.length_eq_zero_iff] at h ⊢;omega
 by_cases k3:a.fe=3
 ·simp [k3,-List.length_eq_zero_iff] at h ⊢;omega
 by_cases k4:a.fe=4
 ·simp [k4,-List.length_eq_zero_iff] at h ⊢;omega
 by_cases k5:a.fe=5
 ·simp [k5,-List.length_eq_zero_iff] at h ⊢;omega
 by_cases k6:a.fe=6
 ·simp [k6,-List.length_eq_zero_iff] at h ⊢;omega
 by_cases k15:a.fe=15
 ·simp [k15,-List.length_eq_zero_iff] at h ⊢;omega
 by_cases k16:a.fe=16
 ·simp [k16,-List.length_eq_zero_iff] at h ⊢;omega
 by_cases k22:a.fe=22
 ·simp [k22,-List.length_eq_zero_iff] at h ⊢;omega
 by_cases k23:a.fe=23
 ·simp [k23,-List.length_eq_zero_iff] at h ⊢;omega
 simp [k1,k2,k3,k4,k5,k6,k15,k16,k22,k23]
theorem ywu {α:Type} [DecidableEq α] {β γ:Type} {a c:List α} (hl:a.length<=1048576) {body:Int->α->Unit->Option (Unit⊕(Int⊕Unit))} {last:Unit->Option (Int⊕Unit)} (hlast:last ()=some (.inr ()))
 (hb:∀ k x,body k x ()=(c[k.toNat]?).bind fun v=>(bif !decide (x=v) then some (.inr (.inl k)) else some (.inl ()))):
 (bif decide (((a.length:Nat):Int)≠((c.length:Nat):Int)) then some false else(if a.length<=9223372036854775806 then za5 body last a 0 () else none).bind (zbw (fun _=>some false) (fun _=>some true)))=some (decide (a=c)):=by
 by_cases he:a.length=c.length
 ·have h0:decide (((a.length:Nat):Int)≠((c.length:Nat):Int))=false:=by simp [he]
  rw [h0,cond_false,yl6 (fun d x=> !decide (some x=c[d.length]?)) (by omega) hlast (fun d x t h=> ?_)]
  ·have key:∀ (t d:List α),d++t=a->d=c.take d.length->(anyP (fun d x=> !decide (some x=c[d.length]?)) d t=false↔t=c.drop d.length):=by
    intro t
    induction t with
    | nil=>intro d h _;simp [anyP];have:d=a:=by simpa using h
           subst this;simp [he]
    | cons x t ih=>
      intro d h hd
      have hlt:d.length<c.length:=by rw [<- he,<- h];simp
      simp only [anyP,Bool.or_eq_false_iff]
      rw [List.drop_eq_getElem_cons hlt,List.getElem?_eq_getElem hlt]
      by_cases hx:x=c[d.length]
      ·have:=ih (d ++ [x]) (by simpa using h) (by rw [List.length_append,List.length_singleton,List.take_add_one,List.getElem?_eq_getElem hlt,<- hd,hx];rfl)
       simp only [hx,decide_true,Bool.not_true,true_and,List.cons.injEq]
       rw [<- hx,this];simp
      ·exact ⟨fun h=>by simp [hx] at h,fun h=>absurd (List.cons.inj h).1 hx⟩
   have:=key a [] rfl (by simp)
   simp only [List.length_nil,List.drop_zero] at this
   by_cases hac:a=c
   ·rw [if_neg (by rw [this.2 hac];simp)];simp [hac]
   ·have hp:anyP (fun d x=> !decide (some x=c[d.length]?)) [] a=true:=by
     cases h:anyP (fun d x=> !decide (some x=c[d.length]?)) [] a
     ·exact absurd (this.1 h) hac
     ·rfl
    rw [if_pos hp];simp [hac]
  ·have hlt:d.length<c.length:=by rw [<- he,<- h];simp
   refine ⟨((d.length:Nat):Int),?_⟩
   rw [hb,za8,List.getElem?_eq_getElem hlt,Option.bind_some]
   by_cases hx:x=c[d.length] <;> simp [hx]
 ·have h0:decide (((a.length:Nat):Int)≠((c.length:Nat):Int))=true:=by simp;omega
  rw [h0,cond_true]
  have:¬ a=c:=fun e=>he (by rw [e])
  simp [this]
theorem zd6 (v1:List Int) (v2:List Int) (hv1:v1.length<=1048576) (hv2:v2.length<=1048576):yu2 v1 v2=some (decide (v1=v2)):=by
 rw [yu2];unfold zux
 exact ywu (β:=Unit) (γ:=Unit) hv1 rfl (fun k x=>by rw [yem];simp only [ne_eq,decide_not])
theorem qfc (a b:Bool):(true ^^ (a == b))= !decide (a=b):=by cases a <;> cases b <;> rfl
theorem zco (v1:List Bool) (v2:List Bool) (hv1:v1.length<=1048576) (hv2:v2.length<=1048576):ytr v1 v2=some (decide (v1=v2)):=by
 rw [ytr];unfold zun
 exact ywu (β:=Unit) (γ:=Unit) hv1 rfl (fun k x=>by rw [yey];simp only [qfc])
theorem qcq (v1:List Int) (v2:List Int) (hv1:v1.length<=1048576) (hv2:v2.length<=1048576):ytx v1 v2=some (decide (v1=v2)):=by
 rw [ytx];unfold zyt
 exact ywu (β:=Unit) (γ:=Unit) hv1 rfl (fun k x=>by rw [yg4];simp only [ne_eq,decide_not])
theorem qn8 (v1:List Bool) (v2:List Bool) (hv1:v1.length<=1048576) (hv2:v2.length<=1048576):yyk v1 v2=some (decide (v1=v2)):=by
 rw [yyk];unfold zuj
 exact ywu (β:=Unit) (γ:=Unit) hv1 rfl (fun k x=>by rw [yj1];simp only [qfc])
def eqI (a b:List Int):Bool:=decide (a=b)
def eqB (a b:List Bool):Bool:=decide (a=b)
theorem qrn (v1:Tg) (v2:Te) (hv1:v1.sz<=1048576) (hv2:v2.sz<=1048576):yzt v1 v2=some (zkc v1 v2):=by
 have g1:=hv1;have g2:=hv2
 simp only [Tg.sz,Te.sz] at g1 g2
 rw [yzt]
 simp only [yyr v1 hv1,qoa v2 hv2,Option.bind_some]
 unfold zkc
 cases hq:zs7 v1
 ·rfl
 cases ha:ybc v2
 ·rfl
 have F:=zjp hq
 by_cases hk:v2.fe=v1.fe
 rotate_left
 ·simp [hk]
 by_cases hf:v2.fae=0
 rotate_left
 ·simp [hk,hf]
 simp only [hk,hf,ne_eq,not_true_eq_false,decide_false,cond_false,Bool.not_true]
 by_cases k1:v1.fe=1
 ·have:=F.2.2.2.2.1 (.inl k1);simp [k1,qko v1.fN v2.fb (by omega) this.1 this.2.1]
 by_cases k2:v1.fe=2
 ·have:=F.2.2.2.2.1 (.inr k2);simp [k2,qko v1.fN v2.fb (by omega) this.1 this.2.1]
 by_cases k3:v1.fe=3
 ·simp [k3]
 by_cases k4:v1.fe=4
 ·simp [k4]
 by_cases k23:v1.fe=23
 ·simp [k23]
 by_cases k15:v1.fe=15
 ·have h15:=F.2.2.2.2.2.2.2.2.1 k15
  have hw:i64.wrap ((v1.fc.length:Int)+(v1.fb.length:Int))=v1.fb.length:=by rw [zc6 (by omega) (by omega)];omega
  simp only [qba v1 hv1,ysp,k15,hw]
  by_cases hAt:v2.ff=v1.ff <;> simp [hAt]
 by_cases k16:v1.fe=16
 ·have h16:=F.2.2.2.2.2.2.2.2.2.1 k16
  have hw:i64.wrap ((v1.fc.length:Int)+(v1.fb.length:Int))=v1.fc.length:=by rw [zc6 (by omega) (by omega)];omega
  simp only [qba v1 hv1,ysp,k16,hw]
  by_cases hAt:v2.ff=v1.ff <;> simp [hAt]
 simp only [k1,k2,k3,k4,k23,k15,k16,zd6 v2.fc v1.fc (by omega) (by omega),zco v2.fb v1.fb (by omega) (by omega)]
 by_cases hAt:v2.ff=v1.ff <;> by_cases hw:v2.fc=v1.fc <;> simp [hAt,hw]
theorem ylf {l m:List Bool} (h1:l.length=1) (h2:m.length=1):∃ x y,l=[x]/\m=[y]:=by
 obtain ⟨x,rfl⟩:=List.length_eq_one_iff.1 h1
 obtain ⟨y,rfl⟩:=List.length_eq_one_iff.1 h2
 exact ⟨x,y,rfl,rfl⟩
theorem zz0 (v1:Tg) (v2:Te) (g2:v2.fb.length<=1048576) (h1:1<=v1.fN) (h2:v1.fN<=2000) {body:Int->Option (Int⊕(Int⊕Int))}
 (h:(zbf body BIG (((v2.fb.take v1.fN.toNat).length:Nat):Int)).bind (zbw (fun _=>some false) (fun _=>some (decide (((v2.fb.length:Nat):Int)=zef v1.fN))))=if(v2.fb.drop v1.fN.toNat).any id then some false else some (decide (((v2.fb.length:Nat):Int)=zef v1.fN)))
 (hlong:v1.fN<=v2.fb.length->True:=by intro;trivial) (hshort:∀ A:Option Bool,¬ v1.fN<=v2.fb.length->(zbf body BIG v1.fN).bind (zbw (fun _=>some false) (fun _=>A))=A):
 (zbf body BIG v1.fN).bind (zbw (fun _=>some false) (fun _=>some (decide (((v2.fb.length:Nat):Int)=zef v1.fN))))=some (ybb v1.fN v2.fb):=by
 have hb:=zrf h1 h2
 by_cases hl:v1.fN<=v2.fb.length
 ·have e:(((v2.fb.take v1.fN.toNat).length:Nat):Int)=v1.fN:=by rw [List.length_take];omega
  rw [e] at h
  rw [h]
  unfold ybb
  cases ha:(v2.fb.drop v1.fN.toNat).any id <;> by_cases hd:((v2.fb.length:Nat):Int)=zef v1.fN <;> simp [hd]
 ·rw [hshort _ hl]
  have:¬((v2.fb.length:Nat):Int)=zef v1.fN:=by omega
  simp [ybb,this]
theorem qp1 (v1:Tg) (v2:Te) (hv1:v1.sz<=1048576) (hv2:v2.sz<=1048576):yx1 v1 v2=some (zkc v1 v2):=by
 have g1:=hv1;have g2:=hv2
 simp only [Tg.sz,Te.sz] at g1 g2
 rw [yx1]
 simp only [yx7 v1 hv1,qxz v2 hv2,Option.bind_some]
 unfold zkc
 cases hq:zs7 v1
 ·rfl
 cases ha:ybc v2
 ·rfl
 have F:=zjp hq
 by_cases hk:v1.fe=v2.fe
 rotate_left
 ·have hk':¬ v2.fe=v1.fe:=fun e=>hk e.symm
  simp [hk,hk']
 have hge:0<=v2.fae:=by
  simp only [ybc,yu5,zbb] at ha
  by_cases h0:v2.fae=0
  ·omega
  ·simp [h0,-List.length_eq_zero_iff] at ha;omega
 by_cases hf:v2.fae=0
 rotate_left
 ·have:0<v2.fae:=by omega
  simp [hk,hf,this]
 have Fa:=zrg ha hf
 simp only [<- hk,hf,ne_eq,not_true_eq_false,decide_false,cond_false,Bool.not_true,Int.lt_irrefl]
 rw [<- hk] at Fa
 by_cases k1:v1.fe=1
 ·have hn:=F.2.2.2.2.1 (.inl k1)
  simp only [k1,decide_true,cond_true]
  have h:=yrw (body:=fun s=>(znu v1 v2 s)) (bs:=v2.fb) (by omega) (fun s=>rfl) (v2.fb.drop v1.fN.toNat) (v2.fb.take v1.fN.toNat) BIG (List.take_append_drop ..) (by simp [BIG];omega) (some false) (some (decide (((v2.fb.length:Nat):Int)=zef v1.fN)))
  simp only [k1,decide_true,cond_true,Bool.true_or]
  exact zz0 v1 v2 (by omega) hn.1 hn.2.1 h (hshort:=fun A hl=>by
   have hd:decide (v1.fN<((v2.fb.length:Nat):Int))=false:=by simp only [decide_eq_false_iff_not];omega
   have hb:(znu v1 v2 v1.fN)=some (.inr (.inr v1.fN)):=by rw [znu,hd];rfl
   show (zbf _ (BIG - 1+1) _).bind _=A
   simp only [zbf,hb];rfl)
 by_cases k2:v1.fe=2
 ·have hn:=F.2.2.2.2.1 (.inr k2)
  have h:=yrw (body:=fun s=>(zmg v1 v2 s)) (bs:=v2.fb) (by omega) (fun s=>rfl) (v2.fb.drop v1.fN.toNat) (v2.fb.take v1.fN.toNat) BIG (List.take_append_drop ..) (by simp [BIG];omega) (some false) (some (decide (((v2.fb.length:Nat):Int)=zef v1.fN)))
  simp only [k2,decide_true,cond_true,Bool.or_true,show decide ((2:Int)=1)=false from rfl,cond_false]
  exact zz0 v1 v2 (by omega) hn.1 hn.2.1 h (hshort:=fun A hl=>by
   have hd:decide (v1.fN<((v2.fb.length:Nat):Int))=false:=by simp only [decide_eq_false_iff_not];omega
   have hb:(zmg v1 v2 v1.fN)=some (.inr (.inr v1.fN)):=by rw [zmg,hd];rfl
   show (zbf _ (BIG - 1+1) _).bind _=A
   simp only [zbf,hb];rfl)
 by_cases k3:v1.fe=3
 ·simp [k3]
 by_cases k4:v1.fe=4
 ·simp [k4]
 by_cases k23:v1.fe=23
 ·simp [k23]
 by_cases k5:v1.fe=5
 ·have h5:=F.2.2.2.2.2.2.1 k5
  have a5:=Fa.2.1 k5
  obtain ⟨x,y,hx,hy⟩:=ylf h5.2.2 a5.2
  have w1:v1.fc=[]:=List.eq_nil_of_length_eq_zero h5.2.1
  have w2:v2.fc=[]:=List.eq_nil_of_length_eq_zero a5.1
  simp only [k5,hx,hy,w1,w2]
  by_cases hAt:v2.ff=v1.ff <;> cases x <;> cases y <;> simp [hAt]
 by_cases k6:v1.fe=6
 ·have h6:=F.2.2.2.2.2.2.2.1 k6
  have a6:=Fa.2.2.1 k6
  have w1:v1.fb=[]:=List.eq_nil_of_length_eq_zero h6.2.2
  have w2:v2.fb=[]:=List.eq_nil_of_length_eq_zero a6.2
  simp only [k6,w1,w2,qcq v2.fc v1.fc (by omega) (by omega)]
  by_cases hAt:v2.ff=v1.ff <;> simp [hAt]
 by_cases k22:v1.fe=22
 ·have h22:=F.2.2.2.2.2.2.2.2.2.2.1 k22
  have a22:=Fa.2.2.2.1 k22
  have w1:v1.fb=[]:=List.eq_nil_of_length_eq_zero h22.2.2
  have w2:v2.fb=[]:=List.eq_nil_of_length_eq_zero a22.2
  simp only [k22,w1,w2,qcq v2.fc v1.fc (by omega) (by omega)]
  by_cases hAt:v2.ff=v1.ff <;> simp [hAt]
 by_cases k15:v1.fe=15
 ·simp only [k15]
  by_cases hAt:v2.ff=v1.ff <;> simp [hAt]
 have k16:v1.fe=16:=by have:=F.2.1;omega
 simp only [k16]
 by_cases hAt:v2.ff=v1.ff <;> simp [hAt]
end Go.Pm
namespace Go.Pm
open IntKind (i64)
theorem qv4 {β δ γ:Type} {body:Int->Option (Int⊕(β⊕δ))} (p:Nat->Bool) (N:Nat) (hN:N<=1048576) (hb:∀ i:Nat,i<N->∃ e,body i=some (if p i then .inr (.inl e) else .inl ((i:Int)+1))) (he:∃ e,body N=some (.inr (.inr e))) (A B:Option γ):
 (zbf body BIG 0).bind (zbw (fun _=>A) (fun _=>B))=if(List.range N).any p then A else B:=by
 have key:∀ (m i n:Nat),i+m=N->m<n->(zbf body n (i:Int)).bind (zbw (fun _=>A) (fun _=>B))=if(List.range' i m).any p then A else B:=by
  intro m
  induction m with
  | zero=>
    intro i n hi hn
    obtain ⟨n,rfl⟩:∃ q,n=q+1:=⟨n - 1,by omega⟩
    have:i=N:=by omega
    subst this
    obtain ⟨e,he⟩:=he
    simp [zbf,he,zbw]
  | succ m ih=>
    intro i n hi hn
    obtain ⟨n,rfl⟩:∃ q,n=q+1:=⟨n - 1,by omega⟩
    obtain ⟨e,hbe⟩:=hb i (by omega)
    simp only [zbf,hbe,List.range'_succ,List.any_cons]
    cases hp:p i with
    | true=>simp [zbw]
    | false=>
      have:=ih (i+1) n (by omega) (by omega)
      rw [Bool.false_or]
      simpa using this
 have:=key N 0 BIG (by omega) (by simp only [BIG];omega)
 rw [List.range_eq_range']
 simpa using this
theorem ygw {α:Type} (q:α->Bool) {xs d t:List α} (h:d++t=xs):(List.range d.length).any (fun i=>(xs[i]?).any q)=d.any q:=by
 subst h
 rw [Bool.eq_iff_iff]
 simp only [List.any_eq_true,List.mem_range,Option.any_eq_true]
 constructor
 ·rintro ⟨i,hi,y,hy,hq⟩
  rw [List.getElem?_append_left hi] at hy
  exact ⟨y,List.mem_of_getElem? hy,hq⟩
 ·rintro ⟨y,hy,hq⟩
  obtain ⟨i,hi,e⟩:=List.getElem_of_mem hy
  exact ⟨i,hi,y,by rw [List.getElem?_append_left hi,List.getElem?_eq_getElem hi,e],hq⟩
def zsm {α σ:Type} (f:σ->List α->α->σ):σ->List α->List α->σ
 | s,_,[]=>s
 | s,d,x::t=>zsm f (f s d x) (d ++ [x]) t
theorem qop {α β δ σ γ:Type} {body:Int->α->σ->Option (σ⊕(β⊕δ))} {last:σ->Option (β⊕δ)} {xs:List α} (p:List α->α->Bool) (f:σ->List α->α->σ) (g:σ->δ) (hl:xs.length<=9223372036854775806) (hlast:∀ s,last s=some (.inr (g s)))
 (hb:∀ d x t s,d++x::t=xs->∃ e,body ((d.length:Nat):Int) x s=some (if p d x then .inr (.inl e) else .inl (f s d x))) (s0:σ) (A:Option γ) (B:δ->Option γ):
 (if xs.length<=9223372036854775806 then za5 body last xs 0 s0 else none).bind (zbw (fun _=>A) (fun v=>B v))=if anyP p [] xs then A else B (g (zsm f s0 [] xs)):=by
 rw [if_pos hl]
 have key:∀ (t d:List α) (s:σ),d++t=xs->(za5 body last t ((d.length:Nat):Int) s).bind (zbw (fun _=>A) (fun v=>B v))=if anyP p d t then A else B (g (zsm f s d t)):=by
  intro t
  induction t with
  | nil=>intro d s _;simp [za5,hlast,anyP,zsm,zbw]
  | cons x t ih=>
    intro d s he
    obtain ⟨e,hbe⟩:=hb d x t s he
    simp only [za5,hbe,anyP,zsm]
    by_cases hp:p d x=true
    ·simp [hp,zbw]
    ·have:=ih (d ++ [x]) (f s d x) (by simpa using he)
     simp only [hp,Bool.false_or]
     simpa using this
 exact key xs [] s0 rfl
def yau (x y:Td):Bool:=ysj x y
def zf4 (d:List Td) (x:Td):Bool:= !yu0 x||d.any (fun y=>yau y x)
def zgr (l:List Td):Bool:= !anyP zf4 [] l&&decide (((l.length:Nat):Int)<=24)
theorem ym6 (l:List Td) (x:Td):qm5 l x=l.any (fun y=>ysj y x):=zjh
theorem qma (v1:List Td) (hv1:v1.length<=1048576):ywb v1=some (zgr v1):=by
 rw [ywb];unfold zt3
 rw [yl6 zf4 (by omega) rfl (fun d x t he=>⟨_,by
  rw [ygj]
  have hd:(v1.take (((d.length:Nat):Int)).toNat).drop (0:Int).toNat=d:=by
   rw [za8,<- he];simp
  have hlt:=zfd he
  rw [qoz,hd,qp3 d x (by omega),if_pos (by simp only [List.length_map];omega)]
  simp only [Option.bind_some,ym6]
  show _=some (if zf4 d x=true then _ else _)
  unfold zf4 yau
  cases hr:yu0 x
  ·rfl
  ·cases ha:d.any fun y=>ysj y x <;> rfl⟩)]
 unfold zgr
 cases anyP zf4 [] v1 <;> rfl
theorem ydw (r:Td) (h:r.ok):qar r=yu0 r:=by
 simp only [Td.ok] at h
 have e1:=zig (r.fag+r.fam)
 have e2:=zig (r.fal+r.fam)
 rw [Bool.eq_iff_iff]
 simp [qar,yu0,yu9,zhp,qa8,zbb]
 omega
theorem yr5 (v1:List Td) (hv1:v1.length<=1048576) {d t:List Td} {x:Td} (he:d++x::t=v1) {γ:Type} (A B:Option γ):
 (zjv v1 ((d.length:Nat):Int) 0).bind (zbw (fun _=>A) (fun _=>B))=if d.any (fun y=>yau y x) then A else B:=by
 have hlt:=zfd he
 unfold zjv
 rw [qv4 (fun i=>(v1[i]?).any (fun y=>yau y x)) d.length (by omega) (fun i hi=> ?_) ⟨((d.length:Nat):Int),by rw [zv7];simp⟩,ygw (fun y=>yau y x) he]
 have hi':i<v1.length:=by omega
 refine ⟨(i:Int),?_⟩
 rw [zv7,za8,za8,zcq he,List.getElem?_eq_getElem hi']
 have hd:decide (((i:Nat):Int)<((d.length:Nat):Int))=true:=by simp;omega
 have hw:i64.wrap ((i:Int)+1)=(i:Int)+1:=zc6 (by omega) (by omega)
 simp only [hd,cond_true,Option.bind_some,hw,Option.any_some,yau,ysj,if_pos (Int.natCast_nonneg _)]
 by_cases h1:v1[i].fo=x.fo <;> by_cases h2:v1[i].fau=x.fau <;> by_cases h3:v1[i].fag<=x.fal <;> by_cases h4:x.fag<=v1[i].fal <;> simp [h1,h2,h3,h4]
theorem ql1 (v1:List Td) (hv1:v1.length<=1048576) (hok:∀ r∈v1,r.ok):yum v1=some (zgr v1):=by
 rw [yum];unfold zy2
 unfold zgr
 by_cases hl:24<((v1.length:Nat):Int)
 ·have:¬((v1.length:Nat):Int)<=24:=by omega
  simp [hl,this]
 ·have hl':((v1.length:Nat):Int)<=24:=by omega
  simp only [hl,decide_false,cond_false,hl',decide_true,Bool.and_true]
  rw [yl6 zf4 (by omega) rfl (fun d x t he=> ?_)]
  ·cases anyP zf4 [] v1 <;> rfl
  ·rw [yf6,qws,ydw x (hok x (by rw [<- he];simp))]
   unfold zf4
   simp only [Option.bind_some]
   cases hr:yu0 x
   ·exact ⟨_,rfl⟩
   ·simp only [Bool.not_true,cond_false,Bool.false_or]
    have h:=fun(A B:Option (Unit⊕((Int×V×V×V)⊕Unit)))=>yr5 v1 hv1 he A B
    cases hx:zjv v1 ((d.length:Nat):Int) 0 with
    | none=>have:=h (some (.inl ())) (some (.inl ()));rw [hx] at this;simp at this
    | some r=>
      have h1:=h (some (.inr (.inr ()))) (some (.inl ()))
      rw [hx] at h1
      cases r with
      | inl a=>
        simp only [Option.bind_some,zbw] at h1 ⊢
        refine ⟨(((d.length:Nat):Int),(.int .i64 a:V),(.gone:V),(.bool true:V)),?_⟩
        split at h1
        ·rename_i ha;rw [if_pos ha]
        ·cases h1
      | inr a=>
        simp only [Option.bind_some,zbw] at h1 ⊢
        split at h1
        ·cases h1
        ·rename_i ha;exact ⟨(0,.gone,.gone,.gone),by rw [if_neg ha]⟩
def zgf (c:Tl):Bool:=ysg c.fad c.fac&&zgr c.ft
theorem qr3 (c:Tl) (h:c.sz<=1048576):yx9 c=some (zgf c):=by
 simp only [Tl.sz] at h
 rw [yx9,qj4,Option.bind_some]
 unfold zgf
 cases ysg c.fad c.fac
 ·rfl
 ·simp only [cond_true,qma c.ft (by omega),Option.bind_some,Bool.true_and]
theorem qwd (c:Tl) (h:c.sz<=1048576) (hok:c.ok):yxj c=some (zgf c):=by
 simp only [Tl.sz] at h
 rw [yxj]
 simp only [zf3,Option.bind_some,ql1 c.ft (by omega) hok.2.2.2]
 unfold zgf ysg
 cases zbb c.fad 1 100 <;> cases zbb c.fac 0 5 <;> rfl
def yny (v1:Tg) (v2:Tg):Bool:=(bif decide (v1.fe=v2.fe) then(bif decide (v1.ff=v2.ff) then(bif decide (v1.fN=v2.fN) then(bif decide (v1.fp=v2.fp) then(let v7:=eqI v1.fc v2.fc;(bif v7 then(let v10:=eqB v1.fb v2.fb;v10) else false)) else false) else false) else false) else false)
theorem qfr (v1:Tg) (v2:Tg) (hv1:v1.sz<=1048576) (hv2:v2.sz<=1048576):ywe v1 v2=some (yny v1 v2):=by
 rw [ywe];first|rfl|(simp only [zd6 v1.fc v2.fc (by simp only [Tg.sz] at hv1;omega) (by simp only [Tg.sz] at hv2;omega),zco v1.fb v2.fb (by simp only [Tg.sz] at hv1;omega) (by simp only [Tg.sz] at hv2;omega),Option.bind_some,za4];rfl)
def yty (v1:Te) (v2:Te):Bool:=(bif decide (v1.fe=v2.fe) then(bif decide (v1.fae=v2.fae) then(bif decide (v1.ff=v2.ff) then(bif decide (v1.fN=v2.fN) then(let v7:=eqI v1.fc v2.fc;(bif v7 then(let v10:=eqB v1.fb v2.fb;v10) else false)) else false) else false) else false) else false)
theorem qxn (v1:Te) (v2:Te) (hv1:v1.sz<=1048576) (hv2:v2.sz<=1048576):ywd v1 v2=some (yty v1 v2):=by
 rw [ywd];first|rfl|(simp only [zd6 v1.fc v2.fc (by simp only [Te.sz] at hv1;omega) (by simp only [Te.sz] at hv2;omega),zco v1.fb v2.fb (by simp only [Te.sz] at hv1;omega) (by simp only [Te.sz] at hv2;omega),Option.bind_some,za4];rfl)
def qap (v1:Tg) (v2:Tg):Bool:=(bif decide (v1.fe=v2.fe) then(bif decide (v1.ff=v2.ff) then(bif decide (v1.fN=v2.fN) then(bif decide (v1.fp=v2.fp) then(let v7:=eqI v1.fc v2.fc;(bif v7 then(let v10:=eqB v1.fb v2.fb;v10) else false)) else false) else false) else false) else false)
theorem qt9 (v1:Tg) (v2:Tg) (hv1:v1.sz<=1048576) (hv2:v2.sz<=1048576):ywi v1 v2=some (qap v1 v2):=by
 rw [ywi];first|rfl|(simp only [qcq v1.fc v2.fc (by simp only [Tg.sz] at hv1;omega) (by simp only [Tg.sz] at hv2;omega),qn8 v1.fb v2.fb (by simp only [Tg.sz] at hv1;omega) (by simp only [Tg.sz] at hv2;omega),Option.bind_some,za4];rfl)
def yx4 (v1:Tg):Bool:=(bif decide (v1.fe=0) then(bif decide (v1.ff=0) then(bif decide (v1.fN=0) then(bif decide (((v1.fc.length:Nat):Int)=0) then(bif decide (((v1.fb.length:Nat):Int)=0) then decide (v1.fp=0) else false) else false) else false) else false) else false)
theorem qqh (v1:Tg) (hv1:v1.sz<=1048576):yxs v1=some (yx4 v1):=by
 rw [yxs];first|rfl|(simp only [Option.bind_some,za4];rfl)
def qc1 (v1:Te):Bool:=(bif decide (v1.fe=0) then(bif decide (v1.fae=0) then(bif decide (v1.ff=0) then(bif decide (v1.fN=0) then(bif decide (((v1.fc.length:Nat):Int)=0) then decide (((v1.fb.length:Nat):Int)=0) else false) else false) else false) else false) else false)
theorem qsr (v1:Te) (hv1:v1.sz<=1048576):yw0 v1=some (qc1 v1):=by
 rw [yw0];first|rfl|(simp only [Option.bind_some,za4];rfl)
def yua (v1:Tf):Bool:=(let v2:=qa8 v1.faf;(bif v2 then(let v5:=yu9 v1.fo;(bif v5 then(let v8:=zs7 v1.fa;v8) else false)) else false))
theorem qo0 (v1:Tf) (hv1:v1.sz<=1048576):yy9 v1=some (yua v1):=by
 rw [yy9];first|rfl|(simp only [qg7 v1.faf,yzi v1.fo,yyr v1.fa (by simp only [Tf.sz] at hv1;omega),Option.bind_some,za4];rfl)
def qfd (v1:Tf):Bool:=(let v2:=zbb v1.faf 0 5;(bif v2 then(let v5:=zbb v1.fo 1 247;(bif v5 then(let v8:=zs7 v1.fa;v8) else false)) else false))
theorem qmp (v1:Tf) (hv1:v1.sz<=1048576):yvs v1=some (qfd v1):=by
 rw [yvs];first|rfl|(simp only [zf3 v1.faf 0 5,zf3 v1.fo 1 247,yx7 v1.fa (by simp only [Tf.sz] at hv1;omega),Option.bind_some,za4];rfl)
def yrq (v1:Ta):Bool:=(bif decide (v1.fk=0) then(bif decide (v1.fr=0) then(bif decide (v1.fo=0) then(let v5:=yny v1.fa (⟨0,0,0,[],[],0⟩:Tg);v5) else false) else false) else false)
theorem qy6 (v1:Ta) (hv1:v1.sz<=1048576):yxl v1=some (yrq v1):=by
 rw [yxl];first|rfl|(simp only [qfr v1.fa (⟨0,0,0,[],[],0⟩:Tg) (by simp only [Ta.sz] at hv1;omega) (by simp [Tg.sz]),Option.bind_some,za4];rfl)
theorem qrw (v1:Tg) (v2:Tg) (hv1:v1.sz<=1048576) (hv2:v2.sz<=1048576):qap v1 v2=yny v1 v2:=by
 simp only [qap,yny]
theorem quz (v1:Tg) (v2:Tg) (hv1:v1.sz<=1048576) (hv2:v2.sz<=1048576):ywi v1 v2=some (yny v1 v2):=by rw [qt9 v1 v2 hv1 hv2,qrw v1 v2 hv1 hv2]
theorem ykw (a:Tg):yx4 a=yny a ⟨0,0,0,[],[],0⟩:=by
 simp only [yx4,yny,eqI,eqB]
 rw [Bool.eq_iff_iff]
 simp [Bool.cond_eq_ite]
 grind
theorem ygp (a:Te):qc1 a=yty a ⟨0,0,0,0,[],[]⟩:=by
 simp only [qc1,yty,eqI,eqB]
 rw [Bool.eq_iff_iff]
 simp [Bool.cond_eq_ite]
theorem qsx (v1:Tf) (hv1:v1.sz<=1048576):qfd v1=yua v1:=by
 rfl
theorem qt7 (v1:Tf) (hv1:v1.sz<=1048576):yvs v1=some (yua v1):=by rw [qmp v1 hv1,qsx v1 hv1]
end Go.Pm
namespace Go.Pm
open IntKind (i64)
theorem ylr (l:List Bool) (x:Bool):qhh l x=l.any (fun y=>false ^^ (x == y)):=zjh
def zge (p:Tb) (d:List Tf) (x:Tf):Bool:=
 !yua x||(match p.fw[d.length]?,p.fab[d.length]? with
  | some h,some r=>(bif h then !zkc x.fa r else !yty r ⟨0,0,0,0,[],[]⟩)
  | _,_=>false)
def zl0 (p:Tb):Bool:=zlx p.fan&&(zlx p.fao&&(zs7 p.fa&&(zbb ((p.fq.length:Nat):Int) 1 8&&(decide (p.fw.length=p.fq.length)&&(decide (p.fab.length=p.fq.length)&&(!anyP (zge p) [] p.fq&&p.fw.any (fun h=> !h)))))))
theorem ze3 {α:Type} {d t xs:List α} {x:α} (he:d++x::t=xs):x∈xs:=by rw [<- he];simp
theorem qxx (v1:Tb) (hv1:v1.sz<=1048576):yxn v1=some (decide (0<=v1.fk)&&zl0 v1):=by
 have g:=hv1
 simp only [Tb.sz] at g
 have gp:=zai (f:=Tf.sz) (xs:=v1.fq)
 have gt:=zai (f:=Te.sz) (xs:=v1.fab)
 rw [yxn]
 by_cases hid:v1.fk<0
 ·have:¬ 0<=v1.fk:=by omega
  simp [hid,this]
 have hid':0<=v1.fk:=by omega
 simp only [hid,hid',decide_false,cond_false,decide_true,Bool.true_and,yyg,yyr v1.fa (by omega),zsq,Option.bind_some]
 unfold zl0
 cases zlx v1.fan
 ·rfl
 cases zlx v1.fao
 ·rfl
 cases zs7 v1.fa
 ·rfl
 cases zbb ((v1.fq.length:Nat):Int) 1 8
 ·rfl
 by_cases h1:v1.fw.length=v1.fq.length
 rotate_left
 ·have h1':¬((v1.fw.length:Nat):Int)=((v1.fq.length:Nat):Int):=by omega
  simp [h1,h1']
 by_cases h2:v1.fab.length=v1.fq.length
 rotate_left
 ·have h2':¬((v1.fab.length:Nat):Int)=((v1.fq.length:Nat):Int):=by omega
  simp [h1,h2,h2']
 simp only [h1,h2,Bool.not_true,cond_false,ne_eq,not_true_eq_false,decide_false,decide_true,Bool.true_and]
 unfold zwo
 rw [yl6 (zge v1) (by omega) rfl (fun d x t he=>⟨_,by
  have hlt:=zfd he
  have hm:=zaj (f:=Tf.sz) (ze3 he)
  have hx:x.sz=x.fa.sz+0:=rfl
  have hh:d.length<v1.fw.length:=by omega
  have ht:d.length<v1.fab.length:=by omega
  have hr:v1.fab[d.length].sz<=szL Te.sz v1.fab:=zaj (List.getElem_mem ht)
  rw [ye6,za8,List.getElem?_eq_getElem hh,List.getElem?_eq_getElem ht]
  unfold zge
  rw [List.getElem?_eq_getElem hh,List.getElem?_eq_getElem ht]
  simp only [qo0 x (by omega),Option.bind_some,qrn x.fa v1.fab[d.length] (by omega) (by omega),qxn v1.fab[d.length] ⟨0,0,0,0,[],[]⟩ (by omega) (by simp [Te.sz])]
  cases yua x
  ·rfl
  ·cases v1.fw[d.length]
   ·rcases Bool.eq_false_or_eq_true (yty v1.fab[d.length] ⟨0,0,0,0,[],[]⟩) with hs|hs <;> simp only [hs] <;> rfl
   ·rcases Bool.eq_false_or_eq_true (zkc x.fa v1.fab[d.length]) with hs|hs <;> simp only [hs] <;> rfl⟩),qe5 v1.fw false (by omega),Option.bind_some,ylr]
 have e:(fun y=>false ^^ (false == y))=fun h:Bool=> !h:=by funext y;cases y <;> rfl
 rw [e]
 cases anyP (zge v1) [] v1.fq <;> rfl
theorem ya7 {α:Type} (has:List Bool):∀ (t d:List α) (s:Bool),d.length+t.length=has.length->zsm (fun s d _=>bif s then(has[d.length]?).getD false else false) s d t=(s&&(has.drop d.length).all id)
 | [],d,s,h=>by
   have:has.drop d.length=[]:=List.drop_eq_nil_of_le (by simpa using Nat.le_of_eq h.symm)
   simp [zsm,this]
 | x::t,d,s,h=>by
   have hlt:d.length<has.length:=by simp at h;omega
   simp only [zsm]
   rw [ya7 has t (d ++ [x]) _ (by simp at h ⊢;omega),List.drop_eq_getElem_cons hlt,List.getElem?_eq_getElem hlt]
   simp only [List.length_append,List.length_singleton,List.all_cons,Option.getD_some,id]
   cases s <;> cases has[d.length] <;> simp
theorem qp8 (v1:Tb) (hv1:v1.sz<=1048576):yzl v1=some (zl0 v1):=by
 have g:=hv1
 simp only [Tb.sz] at g
 have gp:=zai (f:=Tf.sz) (xs:=v1.fq)
 have gt:=zai (f:=Te.sz) (xs:=v1.fab)
 rw [yzl]
 simp only [zf3,yx7 v1.fa (by omega),Option.bind_some]
 unfold zl0 zlx
 cases zbb v1.fan 0 1000000000
 ·rfl
 cases zbb v1.fao 0 1000000000
 ·rfl
 cases zs7 v1.fa
 ·rfl
 cases zbb ((v1.fq.length:Nat):Int) 1 8
 ·rfl
 by_cases h1:v1.fw.length=v1.fq.length
 rotate_left
 ·have h1':¬((v1.fw.length:Nat):Int)=((v1.fq.length:Nat):Int):=by omega
  simp [h1,h1']
 by_cases h2:v1.fab.length=v1.fq.length
 rotate_left
 ·have h2':¬((v1.fab.length:Nat):Int)=((v1.fq.length:Nat):Int):=by omega
  simp [h1,h2,h2']
 simp only [h1,h2,Bool.not_true,cond_false,ne_eq,not_true_eq_false,decide_false,decide_true,Bool.true_and]
 unfold zwp
 rw [qop (last:=yfj v1) (zge v1) (fun s d _=>bif s then(v1.fw[d.length]?).getD false else false) id (by omega) (fun s=>rfl) (fun d x t s he=>⟨(s,((d.length:Nat):Int)),by
  have hlt:=zfd he
  have hm:=zaj (f:=Tf.sz) (ze3 he)
  have hx:x.sz=x.fa.sz+0:=rfl
  have hh:d.length<v1.fw.length:=by omega
  have ht:d.length<v1.fab.length:=by omega
  have hr:v1.fab[d.length].sz<=szL Te.sz v1.fab:=zaj (List.getElem_mem ht)
  rw [yfb,za8,List.getElem?_eq_getElem hh,List.getElem?_eq_getElem ht]
  unfold zge
  rw [List.getElem?_eq_getElem hh,List.getElem?_eq_getElem ht]
  simp only [qt7 x (by omega),Option.bind_some,qp1 x.fa v1.fab[d.length] (by omega) (by omega),qsr v1.fab[d.length] (by omega),ygp,Option.getD_some]
  cases yua x
  ·rfl
  ·cases v1.fw[d.length]
   ·rcases Bool.eq_false_or_eq_true (yty v1.fab[d.length] ⟨0,0,0,0,[],[]⟩) with hs|hs <;> simp only [hs] <;> cases s <;> rfl
   ·rcases Bool.eq_false_or_eq_true (zkc x.fa v1.fab[d.length]) with hs|hs <;> simp only [hs] <;> cases s <;> rfl⟩)]
 rw [ya7 v1.fw v1.fq [] true (by simp;omega)]
 have e:(!(v1.fw.all id))=v1.fw.any (fun h=> !h):=by rw [List.all_eq_not_any_not,Bool.not_not];rfl
 simp only [List.length_nil,List.drop_zero,Bool.true_and,id,e]
 cases anyP (zge v1) [] v1.fq <;> simp
def zjf (l:List Tb) (d:List Tb) (x:Tb):Bool:=bif decide (0<d.length) then(match l[d.length - 1]? with|some y=>decide (x.fk<=y.fk)|none=>false) else false
def zhy (t:Ti) (d:List Tb) (x:Tb):Bool:= !(decide (0<=x.fk)&&zl0 x)||(decide (t.faa<=x.fk)||zjf t.fg d x)
def zck (t:Ti):Bool:= !anyP (zhy t) [] t.fg&&(zlx t.faa&&decide (((t.fg.length:Nat):Int)<=16))
theorem yc2 {l d t:List Tb} {x:Tb} (he:d++x::t=l) (hl:l.length<=1048576) {ε:Type} (A B:Option ε):
 (bif decide (0<((d.length:Nat):Int)) then(if 0<=(i64.wrap (((d.length:Nat):Int) - 1)) then((l[(i64.wrap (((d.length:Nat):Int) - 1)).toNat]?).bind fun v=>(bif decide (x.fk<=v.fk) then A else B)) else none) else B)=if zjf l d x then A else B:=by
 have hlt:d.length<l.length:=zfd he
 unfold zjf
 by_cases h0:0<d.length
 ·have hw:i64.wrap (((d.length:Nat):Int) - 1)=((d.length - 1:Nat):Int):=by rw [zc6 (by omega) (by omega)];omega
  have hd:decide (0<((d.length:Nat):Int))=true:=by simp;omega
  have hd':decide (0<d.length)=true:=by simp [h0]
  rw [hw,hd,hd',za8,List.getElem?_eq_getElem (show d.length - 1<l.length by omega)]
  simp only [cond_true,if_pos (Int.natCast_nonneg _),Option.bind_some]
  by_cases hx:x.fk<=l[d.length - 1].fk <;> simp [hx]
 ·have hd:decide (0<((d.length:Nat):Int))=false:=by simp only [decide_eq_false_iff_not];omega
  have hd':decide (0<d.length)=false:=by simp [h0]
  rw [hd,hd'];rfl
theorem qkk (v1:Ti) (hv1:v1.sz<=1048576):yux v1=some (zck v1):=by
 have g:=hv1
 simp only [Ti.sz] at g
 have gl:=zai (f:=Tb.sz) (xs:=v1.fg)
 rw [yux];unfold zx9
 rw [yl6 (zhy v1) (by omega) rfl (fun d x t he=>⟨_,by
  have hm:=zaj (f:=Tb.sz) (ze3 he)
  rw [yfh,yc2 he (by omega),qxx x (by omega),Option.bind_some]
  unfold zhy
  cases (decide (0<=x.fk)&&zl0 x)
  ·rfl
  ·cases decide (v1.faa<=x.fk)
   ·cases zjf v1.fg d x <;> rfl
   ·rfl⟩),yyg]
 simp only [Option.bind_some]
 unfold zck
 cases anyP (zhy v1) [] v1.fg <;> cases zlx v1.faa <;> rfl
theorem qb6 (v1:Ti) (hv1:v1.sz<=1048576):yw9 v1=some (zck v1):=by
 have g:=hv1
 simp only [Ti.sz] at g
 have gl:=zai (f:=Tb.sz) (xs:=v1.fg)
 rw [yw9,zf3,Option.bind_some]
 unfold zck zlx
 cases hn:zbb v1.faa 0 1000000000
 ·simp
 have hn':0<=v1.faa/\v1.faa<=1000000000:=by
  simp only [zbb] at hn
  by_cases h:0<=v1.faa
  ·simpa [h] using hn
  ·simp [h] at hn
 by_cases hl:16<((v1.fg.length:Nat):Int)
 ·have:¬((v1.fg.length:Nat):Int)<=16:=by omega
  simp [hl,this]
 have hl':((v1.fg.length:Nat):Int)<=16:=by omega
 simp only [hl,hl',decide_false,decide_true,cond_false,Bool.not_true,Bool.and_true]
 unfold zvb
 rw [yl6 (zhy v1) (by omega) rfl (fun d x t he=>⟨((d.length:Nat):Int),by
  have hm:=zaj (f:=Tb.sz) (ze3 he)
  rw [yic,yc2 he (by omega),qp8 x (by omega),zf3,zc6 (n:=v1.faa - 1) (by omega) (by omega)]
  simp only [Option.bind_some]
  unfold zhy zbb
  cases zl0 x
  ·simp
  ·by_cases h0:0<=x.fk
   ·by_cases h1:v1.faa<=x.fk
    ·have:¬ x.fk<=v1.faa - 1:=by omega
     simp [h0,h1,this]
    ·have:x.fk<=v1.faa - 1:=by omega
     cases zjf v1.fg d x <;> simp [h0,h1,this]
   ·simp [h0]⟩)]
 cases anyP (zhy v1) [] v1.fg <;> rfl
end Go.Pm
namespace Go.Pm
open IntKind (i64)
def zsr (v1:Ta):Bool:=(let v2:=zlx v1.fk;(bif v2 then(let v5:=zbb v1.fr 0 7;(bif v5 then(let v8:=yu9 v1.fo;(bif v8 then(let v11:=zs7 v1.fa;v11) else false)) else false)) else false))
theorem qly (v1:Ta) (hv1:v1.sz<=1048576):yw4 v1=some (zsr v1):=by
 rw [yw4];first|rfl|(simp only [yyg v1.fk,zsq v1.fr 0 7,yzi v1.fo,yyr v1.fa (by simp only [Ta.sz] at hv1;omega),Option.bind_some,za4];rfl)
def qjp (v1:Ta):Bool:=(let v2:=zbb v1.fk 0 1000000000;(bif v2 then(let v5:=zbb v1.fr 0 7;(bif v5 then(let v8:=zbb v1.fo 1 247;(bif v8 then(let v11:=zs7 v1.fa;v11) else false)) else false)) else false))
theorem qxr (v1:Ta) (hv1:v1.sz<=1048576):yu6 v1=some (qjp v1):=by
 rw [yu6];first|rfl|(simp only [zf3 v1.fk 0 1000000000,zf3 v1.fr 0 7,zf3 v1.fo 1 247,yx7 v1.fa (by simp only [Ta.sz] at hv1;omega),Option.bind_some,za4];rfl)
def qbm (v1:Ta):Bool:=(bif decide (v1.fk=0) then(bif decide (v1.fr=0) then(bif decide (v1.fo=0) then(let v5:=yx4 v1.fa;v5) else false) else false) else false)
theorem qmr (v1:Ta) (hv1:v1.sz<=1048576):yvd v1=some (qbm v1):=by
 rw [yvd];first|rfl|(simp only [qqh v1.fa (by simp only [Ta.sz] at hv1;omega),Option.bind_some,za4];rfl)
theorem qng (v1:Ta) (hv1:v1.sz<=1048576):qjp v1=zsr v1:=by
 rfl
theorem qeq (v1:Ta) (hv1:v1.sz<=1048576):yu6 v1=some (zsr v1):=by rw [qxr v1 hv1,qng v1 hv1]
theorem qnr (v1:Ta) (hv1:v1.sz<=1048576):qbm v1=yrq v1:=by
 simp only [qbm,yrq,ykw]
theorem qn1 (v1:Ta) (hv1:v1.sz<=1048576):yvd v1=some (yrq v1):=by rw [qmr v1 hv1,qnr v1 hv1]
def qaq (v1:List Tk) (v2:Tk):Int:=zkz (fun (x:Tk)=>(decide (v2.fid=x.fid)&&(decide (v2.fpart=x.fpart)&&true))) v1 0
theorem qy0 (v1:List Tk) (v2:Tk) (hv1:v1.length<=1048576):yz6 v1 v2=some (qaq v1 v2):=by
 have hlen:v1.length<=9223372036854775806:=by have hq:v1.length<=v1.length:=Nat.le_refl _;omega
 rw [yz6];unfold zwy qaq
 exact ytw (fun (x:Tk)=>(decide (v2.fid=x.fid)&&(decide (v2.fpart=x.fpart)&&true))) hlen rfl (fun d x t he=>by rw [yew];first|rfl|(simp only [Option.bind_some];done)|(simp only [Option.bind_some];rfl)|done)
def qbz (v1:Tb) (v2:Ta):Bool:=decide (v1.fk=v2.fk)
theorem qeh (v1:Tb) (v2:Ta) (hv1:v1.sz<=1048576) (hv2:v2.sz<=1048576):yyc v1 v2=some (qbz v1 v2):=by
 rw [yyc];first|rfl|(simp only [Option.bind_some,za4];rfl)
def qbf (v1:List Tb) (v2:Ta):Int:=zkz (fun (x:Tb)=>qbz x v2) v1 0
theorem qwp (v1:List Tb) (v2:Ta) (hv1:szL Tb.sz v1<=1048576) (hv2:v2.sz<=1048576):yxz v1 v2=some (qbf v1 v2):=by
 have hlen:v1.length<=9223372036854775806:=by have hq:v1.length<=szL Tb.sz v1:=zai;omega
 rw [yxz];unfold zv9 qbf
 exact ytw (fun (x:Tb)=>qbz x v2) hlen rfl (fun d x t he=>by rw [ygl];first|rfl|(simp only [qeh x v2 (by have:=zaj (f:=Tb.sz) (he ▸ (by simp:x∈d++x::t));omega) hv2,Option.bind_some];done)|(simp only [qeh x v2 (by have:=zaj (f:=Tb.sz) (he ▸ (by simp:x∈d++x::t));omega) hv2,Option.bind_some];rfl)|done)
def qaf (v1:List Tk) (v2:Tk):Bool:=(let v3:=qaq v1 v2;decide (0<=v3))
theorem qv2 (v1:List Tk) (v2:Tk) (hv1:v1.length<=1048576):yzm v1 v2=some (qaf v1 v2):=by
 rw [yzm];first|rfl|(simp only [qy0 v1 v2 hv1,Option.bind_some,za4];rfl)
def zp1 (l:Tc):Bool:=
 ysg l.fad l.fac&&(!decide (40<((l.fu.length:Nat):Int))&&(zhp l.faa&&(!l.fu.any (fun c=> !zsr c) &&
  (bif !l.fah then yrq l.fd&&(decide (l.fak=0)&&(decide (l.fai=0)&&decide (l.faj=0))) else
   zsr l.fd&&(zhp l.fak&&(ylw l.fai&&zbb l.faj 0 l.fac))))))
theorem qos (v1:Tc) (hv1:v1.sz<=1048576):yy7 v1=some (zp1 v1):=by
 have g:=hv1
 simp only [Tc.sz] at g
 have gl:=zai (f:=Ta.sz) (xs:=v1.fu)
 rw [yy7]
 simp only [qj4,ymc,qy6 v1.fd (by omega),qly v1.fd (by omega),qet,zsq,Option.bind_some,za4]
 unfold zxq
 rw [yl6 (fun _ c=> !zsr c) (by omega) rfl (fun d x t he=>⟨_,by
  have hm:=zaj (f:=Ta.sz) (ze3 he)
  rw [ygf,qly x (by omega),Option.bind_some]
  cases zsr x <;> rfl⟩),zda]
 unfold zp1
 cases ysg v1.fad v1.fac <;> cases decide (40<((v1.fu.length:Nat):Int)) <;> cases zhp v1.faa <;> cases (v1.fu.any fun c=> !zsr c) <;> try rfl
 cases v1.fah
 ·cases yrq v1.fd <;> cases decide (v1.fak=0) <;> cases decide (v1.fai=0) <;> cases decide (v1.faj=0) <;> rfl
 ·cases zsr v1.fd <;> cases zhp v1.fak <;> cases ylw v1.fai <;> cases zbb v1.faj 0 v1.fac <;> rfl
theorem qqj (v1:Tc) (hv1:v1.sz<=1048576):yx0 v1=some (zp1 v1):=by
 have g:=hv1
 simp only [Tc.sz] at g
 have gl:=zai (f:=Ta.sz) (xs:=v1.fu)
 rw [yx0]
 simp only [zf3,qn1 v1.fd (by omega),qeq v1.fd (by omega),qem,Option.bind_some,za4]
 unfold zyb
 rw [yl6 (fun _ c=> !zsr c) (by omega) rfl (fun d x t he=>⟨_,by
  have hm:=zaj (f:=Ta.sz) (ze3 he)
  rw [yel,qeq x (by omega),Option.bind_some]
  cases zsr x <;> rfl⟩),zda]
 unfold zp1 ysg zhp
 cases zbb v1.fad 1 100 <;> cases zbb v1.fac 0 5 <;> cases decide (40<((v1.fu.length:Nat):Int)) <;> cases zbb v1.faa 0 65535 <;> cases (v1.fu.any fun c=> !zsr c) <;> try rfl
 cases v1.fah
 ·cases yrq v1.fd <;> cases decide (v1.fak=0) <;> cases decide (v1.fai=0) <;> cases decide (v1.faj=0) <;> rfl
 ·cases zsr v1.fd <;> cases zbb v1.fak 0 65535 <;> cases ylw v1.fai <;> cases zbb v1.faj 0 v1.fac <;> rfl
def zd3 (l:Tc):List Ta:=bif l.fah then l.fu ++ [l.fd] else l.fu
def zen (l:Tc):List Ta:=bif l.fah then [l.fd]++l.fu else l.fu
theorem qsu (v1:Tc) (hv1:v1.sz<=1048576):ywx v1=some (zd3 v1):=by
 simp only [Tc.sz] at hv1
 have gl:=zai (f:=Ta.sz) (xs:=v1.fu)
 rw [ywx]
 rw [if_pos (by omega)]
 simp only [Option.bind_some,List.length_map,List.length_singleton]
 rw [if_pos (by omega),za4];rfl
theorem qx6 (v1:Tc) (hv1:v1.sz<=1048576):yyz v1=some (zen v1):=by
 simp only [Tc.sz] at hv1
 have gl:=zai (f:=Ta.sz) (xs:=v1.fu)
 rw [yyz]
 simp only [List.length_map,List.length_singleton,List.length_nil]
 rw [if_pos (by omega),if_pos (by omega),if_pos (by omega),za4];rfl
theorem zhx (l:Tc):(zd3 l).Perm (zen l):=by
 unfold zd3 zen
 cases l.fah
 ·exact List.Perm.refl _
 ·exact List.perm_append_comm
theorem zs3 (l:Tc):(zd3 l).length<=l.fu.length+1/\(zen l).length<=l.fu.length+1:=by
 unfold zd3 zen;cases l.fah <;> simp
theorem zz2 (l:Tc) {c:Ta} (h:c∈zd3 l):c.sz<=l.sz:=by
 simp only [Tc.sz]
 unfold zd3 at h
 cases hb:l.fah <;> simp only [hb,cond_false,cond_true,List.mem_append,List.mem_singleton] at h
 ·have:=zaj (f:=Ta.sz) h;omega
 ·rcases h with h|rfl
  ·have:=zaj (f:=Ta.sz) h;omega
  ·omega
def zd1 (t:Ti) (port:Int) (c:Ta):Bool:=match t.fg.find? (fun x=>decide (x.fk=c.fk)) with
 | none=>false
 | some p=>bif decide (((p.fq.length:Nat):Int)<=c.fr) then false else match p.fw[c.fr.toNat]?,p.fq[c.fr.toNat]? with
   | some h,some q=>bif h then false else decide (q.faf=port)&&(decide (q.fo=c.fo)&&yny q.fa c.fa)
   | _,_=>false
theorem zs9 {α:Type} {p:α->Bool} {xs:List α}:(xs.find? p=none->zkz p xs 0= -1)/\∀ y,xs.find? p=some y->∃ i:Nat,zkz p xs 0=(i:Int)/\xs[i]? =some y:=by
 constructor
 ·intro h
  apply zjr
  rw [List.find?_eq_none] at h
  rw [List.any_eq_false];exact h
 ·intro y h
  obtain ⟨hp,d,t,rfl,hd⟩:=List.find?_eq_some_iff_append.1 h
  have hd':d.any p=false:=by rw [List.any_eq_false];intro x hx;have:=hd x hx;simpa using this
  refine ⟨d.length,?_,by simp⟩
  rw [zpk hd' hp];simp
theorem zls {α:Type} {p:List α->α->Bool}:∀ {t d:List α},anyP p d t=false->∀ a x b,t=a++x::b->p (d++a) x=false
 | [],d,_,a,x,b,h=>by cases a <;> cases h
 | y::t,d,hp,a,x,b,h=>by
   simp only [anyP,Bool.or_eq_false_iff] at hp
   cases a with
   | nil=>cases h;simpa using hp.1
   | cons z a=>
     cases h
     have:=zls hp.2 a x b rfl
     simpa using this
theorem ykf {α:Type} {p:List α->α->Bool} {xs:List α} (h:anyP p [] xs=false) {x:α} (hx:x∈xs):∃ d,p d x=false:=by
 obtain ⟨a,b,rfl⟩:=List.append_of_mem hx
 exact ⟨a,by have:=zls h a x b rfl;simpa using this⟩
theorem zlh {t:Ti} (h:zck t=true) {p:Tb} (hp:p∈t.fg):zl0 p=true:=by
 unfold zck at h
 simp only [Bool.and_eq_true,Bool.not_eq_true'] at h
 obtain ⟨d,hd⟩:=ykf h.1 hp
 unfold zhy at hd
 simp only [Bool.or_eq_false_iff,Bool.not_eq_false',Bool.and_eq_true] at hd
 exact hd.1.2
theorem zzy {p:Tb} (h:zl0 p=true):p.fw.length=p.fq.length/\p.fab.length=p.fq.length:=by
 unfold zl0 at h
 simp only [Bool.and_eq_true,decide_eq_true_eq] at h
 exact ⟨h.2.2.2.2.1,h.2.2.2.2.2.1⟩
theorem qrq (v1:Ti) (v2:Int) (v3:Ta) (hv1:v1.sz<=1048576) (hv3:v3.sz<=1048576) (ht:zck v1=true) (h0:0<=v3.fr):yyy v1 v2 v3=some (zd1 v1 v2 v3):=by
 have g:=hv1
 simp only [Ti.sz] at g
 rw [yyy,qwp v1.fg v3 (by omega) hv3,Option.bind_some,show qbf v1.fg v3=zkz (fun x=>decide (x.fk=v3.fk)) v1.fg 0 from rfl]
 unfold zd1
 obtain ⟨f1,f2⟩:=zs9 (p:=fun x=>decide (x.fk=v3.fk)) (xs:=v1.fg)
 cases hf:v1.fg.find? (fun x=>decide (x.fk=v3.fk)) with
 | none=>rw [f1 hf];rfl
 | some p=>
   obtain ⟨i,hi,hp⟩:=f2 p hf
   have hm:p∈v1.fg:=List.mem_of_getElem? hp
   have hl:=zzy (zlh ht hm)
   have hsz:=zaj (f:=Tb.sz) hm
   rw [hi]
   have hd:decide ((i:Int)<0)=false:=by simp
   simp only [hd,cond_false,if_pos (Int.natCast_nonneg _),za8,hp,Option.bind_some]
   by_cases hc:((p.fq.length:Nat):Int)<=v3.fr
   ·simp [hc]
   ·have h1:v3.fr.toNat<p.fw.length:=by omega
    have h2:v3.fr.toNat<p.fq.length:=by omega
    have hq:p.fq[v3.fr.toNat].sz<=szL Tf.sz p.fq:=zaj (List.getElem_mem h2)
    simp only [Tb.sz] at hsz
    have hq':p.fq[v3.fr.toNat].sz=p.fq[v3.fr.toNat].fa.sz+0:=rfl
    have hc3:v3.sz=v3.fa.sz+0:=rfl
    simp only [hc,decide_false,cond_false,if_pos h0,List.getElem?_eq_getElem h1,List.getElem?_eq_getElem h2,Option.bind_some,qfr p.fq[v3.fr.toNat].fa v3.fa (by omega) (by omega)]
    cases p.fw[v3.fr.toNat]
    ·by_cases e1:p.fq[v3.fr.toNat].faf=v2 <;> by_cases e2:p.fq[v3.fr.toNat].fo=v3.fo <;> simp [e1,e2]
    ·rfl
theorem qp6 (v1:Ti) (v2:Int) (hv1:v1.fg.length<=1048576):yzb v1 v2=some (zkz (fun x=>decide (x.fk=v2)) v1.fg 0):=by
 rw [yzb];unfold zvp
 exact ytw (xs:=v1.fg) (fun (x:Tb)=>decide (x.fk=v2)) (by omega) rfl (fun d x t he=>by rw [yde])
theorem qst (v1:Th) (v2:Int) (v3:Ta) (hv1:v1.fh.sz<=1048576) (hv3:v3.sz<=1048576) (ht:zck v1.fh=true) (h0:0<=v3.fr):yzn v1 v2 v3=some (zd1 v1.fh v2 v3):=by
 have g:=hv1
 simp only [Ti.sz] at g
 have gl:=zai (f:=Tb.sz) (xs:=v1.fh.fg)
 rw [yzn,qp6 v1.fh v3.fk (by omega),Option.bind_some]
 unfold zd1
 obtain ⟨f1,f2⟩:=zs9 (p:=fun x=>decide (x.fk=v3.fk)) (xs:=v1.fh.fg)
 cases hf:v1.fh.fg.find? (fun x=>decide (x.fk=v3.fk)) with
 | none=>rw [f1 hf];rfl
 | some p=>
   obtain ⟨i,hi,hp⟩:=f2 p hf
   have hm:p∈v1.fh.fg:=List.mem_of_getElem? hp
   have hl:=zzy (zlh ht hm)
   have hsz:=zaj (f:=Tb.sz) hm
   rw [hi]
   have hd:decide ((i:Int)<0)=false:=by simp
   simp only [hd,cond_false,if_pos (Int.natCast_nonneg _),za8,hp,Option.bind_some]
   by_cases hc:((p.fq.length:Nat):Int)<=v3.fr
   ·simp [hc]
   ·have h1:v3.fr.toNat<p.fw.length:=by omega
    have h2:v3.fr.toNat<p.fq.length:=by omega
    have hq:p.fq[v3.fr.toNat].sz<=szL Tf.sz p.fq:=zaj (List.getElem_mem h2)
    simp only [Tb.sz] at hsz
    have hq':p.fq[v3.fr.toNat].sz=p.fq[v3.fr.toNat].fa.sz+0:=rfl
    have hc3:v3.sz=v3.fa.sz+0:=rfl
    simp only [hc,decide_false,cond_false,if_pos h0,List.getElem?_eq_getElem h1,List.getElem?_eq_getElem h2,Option.bind_some,quz p.fq[v3.fr.toNat].fa v3.fa (by omega) (by omega)]
    cases p.fw[v3.fr.toNat]
    ·by_cases e1:p.fq[v3.fr.toNat].faf=v2 <;> by_cases e2:p.fq[v3.fr.toNat].fo=v3.fo <;> simp [e1,e2]
    ·rfl
def waitN (t:Ti):Nat:=(t.fg.map fun p=>p.fw.countP fun h=> !h).sum
theorem yrz (v1:Ti) (v2:Int) (p:Tb) (s:Int) (h0:0<=s) (h1:s+p.fw.length<=1048576):zke v1 v2 p s=some (s+(p.fw.countP fun h=> !h:Nat)):=by
 unfold zke
 rw [if_pos (by omega)]
 have key:∀ (body:Int->Bool->Int->Option (Int⊕Int)) (last:Int->Option Int),(∀ k x s,body k x s=(bif !x then(some (.inl (i64.wrap (s+1)))) else(some (.inl s))))->(∀ s,last s=some s)->∀ (t:List Bool) (k s:Int),0<=s->s+t.length<=1048576->za5 body last t k s=some (s+(t.countP fun h=> !h:Nat)):=by
  intro body last hb hlast t
  induction t with
  | nil=>intro k s _ _;simp [za5,hlast]
  | cons x t ih=>
    intro k s h0 h1
    simp only [List.length_cons] at h1
    simp only [za5,hb]
    cases x
    ·simp only [Bool.not_false,cond_true,Option.bind_some,zc6 (n:=s+1) (by omega) (by omega)]
     rw [ih (k+1) (s+1) (by omega) (by omega)]
     simp [List.countP_cons];omega
    ·simp only [Bool.not_true,cond_false,Option.bind_some]
     rw [ih (k+1) s h0 (by omega)]
     simp [List.countP_cons]
 exact key _ _ (fun k x s=>rfl) (fun s=>rfl) p.fw 0 s h0 h1
theorem ymh (p:Tb):(p.fw.countP fun h=> !h)<=p.sz:=by
 have:=List.countP_le_length (p:=fun h:Bool=> !h) (l:=p.fw)
 simp only [Tb.sz];omega
theorem qnu (v1:Ti) (hv1:v1.sz<=1048576):yyh v1=some (bif zck v1 then(waitN v1:Int) else 0):=by
 have g:=hv1
 simp only [Ti.sz,szL] at g
 rw [yyh,qkk v1 hv1,Option.bind_some]
 cases zck v1
 ·rfl
 simp only [Bool.not_true,cond_false,cond_true]
 unfold zut
 rw [if_pos (by omega)]
 have key:∀ (body:Int->Tb->Int->Option (Int⊕Int)) (last:Int->Option Int),(∀ k x s,body k x s=((zke v1 k x s).bind fun(v51:Int)=>(some (.inl v51))))->(∀ s,last s=some s)->∀ (t:List Tb) (k s:Int),0<=s->s+(t.map Tb.sz).sum<=1048576->za5 body last t k s=some (s+((t.map fun p=>p.fw.countP fun h=> !h).sum:Nat)):=by
  intro body last hb hlast t
  induction t with
  | nil=>intro k s _ _;simp [za5,hlast]
  | cons x t ih=>
    intro k s h0 h1
    simp only [List.map_cons,List.sum_cons] at h1
    have hx:=ymh x
    have hx2:x.fw.length<=x.sz:=by simp only [Tb.sz];omega
    simp only [za5,hb]
    rw [yrz v1 k x s h0 (by omega)]
    simp only [Option.bind_some]
    rw [ih (k+1) _ (by omega) (by omega)]
    simp only [List.map_cons,List.sum_cons];congr 1;omega
 rw [key (yh3 v1) (yg7 v1) (fun k x s=>rfl) (fun s=>rfl) v1.fg 0 0 (by omega) (by omega)]
 simp [waitN]
theorem yp9 (v1:Ti) (hv1:v1.sz<=1048576) {i:Nat} {p:Tb} (hp:v1.fg[i]? =some p) (s:Int) (h0:0<=s) (h1:s+p.fw.length<=1048576):∃ k,zq7 v1 (i:Int) (s,0)=some (s+(p.fw.countP fun h=> !h:Nat),k):=by
 unfold zq7
 have key:∀ (body:Int×Int->Option ((Int×Int)⊕(Int×Int))),(∀ s,body s=(zmu v1 (i:Int) s))->∀ (t d:List Bool) (n:Nat) (s:Int),d++t=p.fw->t.length<n->0<=s->s+t.length<=1048576->∃ k,zbf body n (s,((d.length:Nat):Int))=some (s+(t.countP fun h=> !h:Nat),k):=by
  intro body hb t
  induction t with
  | nil=>
    intro d n s he hn h0 h1
    obtain ⟨n,rfl⟩:∃ q,n=q+1:=⟨n - 1,by simp at hn;omega⟩
    have he:d=p.fw:=by simpa using he
    subst he
    refine ⟨((p.fw.length:Nat):Int),?_⟩
    simp only [zbf,hb,zmu,if_pos (Int.natCast_nonneg _),za8,hp,Option.bind_some]
    simp
  | cons x t ih=>
    intro d n s he hn h0 h1
    obtain ⟨n,rfl⟩:∃ q,n=q+1:=⟨n - 1,by simp at hn;omega⟩
    have hlt:=zfd he
    have hl:p.fw.length<=1048576:=by
     have:=zaj (f:=Tb.sz) (List.mem_of_getElem? hp)
     simp only [Ti.sz,Tb.sz] at hv1 this;omega
    simp only [List.length_cons] at h1 hn
    have hd:decide (((d.length:Nat):Int)<((p.fw.length:Nat):Int))=true:=by simp;omega
    have hw:i64.wrap (((d.length:Nat):Int)+1)=(((d ++ [x]).length:Nat):Int):=by rw [zc6 (by omega) (by omega)];simp
    simp only [zbf,hb,zmu,if_pos (Int.natCast_nonneg _),za8,hp,Option.bind_some,hd,cond_true,zcq he,hw]
    cases x
    ·simp only [Bool.not_false,cond_true,zc6 (n:=s+1) (by omega) (by omega)]
     obtain ⟨k,hk⟩:=ih (d ++ [false]) n (s+1) (by simpa using he) (by omega) (by omega) (by omega)
     refine ⟨k,?_⟩
     show zbf body n (s+1,_)=_
     rw [hk];simp [List.countP_cons];omega
    ·simp only [Bool.not_true,cond_false]
     obtain ⟨k,hk⟩:=ih (d ++ [true]) n s (by simpa using he) (by omega) h0 (by omega)
     refine ⟨k,?_⟩
     show zbf body n (s,_)=_
     rw [hk];simp [List.countP_cons]
 have hl:p.fw.length<=1048576:=by
  have:=zaj (f:=Tb.sz) (List.mem_of_getElem? hp)
  simp only [Ti.sz,Tb.sz] at hv1 this;omega
 exact key _ (fun _=>rfl) p.fw [] BIG s rfl (by simp only [BIG];omega) h0 h1
theorem qx5 (v1:Ti) (hv1:v1.sz<=1048576):qa1 v1=some (bif zck v1 then(waitN v1:Int) else 0):=by
 have g:=hv1
 simp only [Ti.sz,szL] at g
 rw [qa1]
 unfold zw6
 rw [if_pos (by omega)]
 cases ht:zck v1
 ·cases hl:v1.fg with
  | nil=>simp [za5,zor]
  | cons p l=>simp [za5,zhu,qb6 v1 hv1,ht]
 have key:∀ (body:Int->Tb->Int->Option (Int⊕(Int×Int))) (last:Int->Option (Int×Int)),(∀ k x s,body k x s=(zhu v1 k x s))->(∀ s,last s=some (s,((v1.fg.length:Nat):Int)))->∀ (t d:List Tb) (s:Int),d++t=v1.fg->0<=s->s+(t.map Tb.sz).sum<=1048576->∃ k,za5 body last t ((d.length:Nat):Int) s=some (s+((t.map fun p=>p.fw.countP fun h=> !h).sum:Nat),k):=by
  intro body last hb hlast t
  induction t with
  | nil=>intro d s _ _ _;exact ⟨((v1.fg.length:Nat):Int),by simp [za5,hlast]⟩
  | cons x t ih=>
    intro d s he h0 h1
    simp only [List.map_cons,List.sum_cons] at h1
    have hx:=ymh x
    have hx2:x.fw.length<=x.sz:=by simp only [Tb.sz];omega
    obtain ⟨k2,hk2⟩:=yp9 v1 hv1 (zcq he) s h0 (by omega)
    obtain ⟨k,hk⟩:=ih (d ++ [x]) (s+(x.fw.countP fun h=> !h:Nat)) (by simpa using he) (by omega) (by omega)
    refine ⟨k,?_⟩
    simp only [za5,hb,zhu,qb6 v1 hv1,ht,Option.bind_some,cond_true,hk2]
    have e:((d.length:Nat):Int)+1=(((d ++ [x]).length:Nat):Int):=by simp
    rw [e,hk]
    simp only [List.map_cons,List.sum_cons];congr 2;omega
 obtain ⟨k,hk⟩:=key (fun k x s=>(zhu v1 k x s)) (fun s=>zor v1 s) (fun _ _ _=>rfl) (fun s=>rfl) v1.fg [] 0 rfl (by omega) (by omega)
 have hk':za5 (fun k x s=>(zhu v1 k x s)) (fun s=>zor v1 s) v1.fg 0 0=_:=hk
 rw [hk']
 simp [waitN]
end Go.Pm
