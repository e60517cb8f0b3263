/- Proved: the law FnExactFaultCounts answers true at all arguments, for every operating system that has started; no conditions beyond the row's own. -/
import Derived.Test.YtfoflieoeahhfaaGreatMn
set_option linter.unusedVariables false
set_option linter.unusedSimpArgs false
namespace Go.Pm
open IntKind (i64)
set_option maxRecDepth 100000
set_option maxHeartbeats 400000
def ymv (v1:Tj) (v2:Tj):Option Bool:=bif decide (v1.fk≠v2.fk) then(some false) else(bif decide (v1.fh≠v2.fh) then(some false) else((ym1 v1.fD v2.fD).bind fun v5=>(bif !v5 then(some false) else(some true))))
def yww (v1:Tj) (v2:Tj):Ctr:=⟨ypv,[.agg [.I v1.fk,.I v1.fh,.imm 1 (v1.fD.fam.map V.bool),.imm 1 (v1.fD.fan.map V.bool),.imm 1 (v1.fD.fal.map (V.int .i64)),.imm 1 (v1.fD.fc.map (V.int .i64))],.agg [.I v2.fk,.I v2.fh,.imm 1 (v2.fD.fam.map V.bool),.imm 1 (v2.fD.fan.map V.bool),.imm 1 (v2.fD.fal.map (V.int .i64)),.imm 1 (v2.fD.fc.map (V.int .i64))]],[],Bool,ymv v1 v2,rB⟩
theorem qd0 {v1:Tj} {v2:Tj}:(yww v1 v2).okF tab:=fun r hr=>⟨za5 qap rfl (.br (decide (v1.fk≠v2.fk)) (.lfA rB false)<|.br (decide (v1.fh≠v2.fh)) (.lfA rB false)<|.callF (yug v1.fD v2.fD) fun(v5:Bool)=>.br (!v5) (.lfA rB false)<|.lfA rB true:Tree Bool _) (by kernel_rfl) (by kernel_rfl) (bR (rfl)<|bR (rfl)<|cF yy6 fun v5=>bR (rfl)<|rfl) hr,rfl,rfl⟩
def zsy (v1:List Tj) (v2:List Tj) (k:Int) (s:Unit):St:=⟨sv 7 [(0,.imm 6 (v1.map Tj.i)),(1,.imm 6 (v2.map Tj.i)),(3,.I k)],[]⟩
def zlo (v1:List Tj) (v2:List Tj):Int->Ex×St:=fun p=>(.ret,⟨sv 7 [(0,.imm 6 (v1.map Tj.i)),(1,.imm 6 (v2.map Tj.i)),(2,.bool false),(3,.I p),(5,.bool true),(6,.bool true)],[]⟩)
def zmp (v1:List Tj) (v2:List Tj):Unit->Ex×St:=fun p=>((.exit 0),⟨sv 7 [(0,.imm 6 (v1.map Tj.i)),(1,.imm 6 (v2.map Tj.i)),(3,.I (v1.length:Int)),(5,.bool false)],[]⟩)
def zpv (v1:List Tj) (v2:List Tj) (k:Int):=zcj (zsy v1 v2 k) (Sum.elim (zlo v1 v2) (zmp v1 v2))
def zwu (v1:List Tj) (v2:List Tj) (k:Int) (x:Tj) (s:Unit):Option ((Unit)⊕(Int⊕Unit)):=((v2)[k.toNat]?).bind fun v22=>((ymv x v22).bind fun v24=>(bif !v24 then(some (.inr (.inl k))) else(some (.inl ()))))
def zvr (v1:List Tj) (v2:List Tj) (s:Unit):Option (Int⊕Unit):=some ((.inr ()))
def zq6 (v1:List Tj) (v2:List Tj) (s:Unit):Option (Int⊕Unit):=if v1.length<=9223372036854775806 then zb3 (zwu v1 v2) (zvr v1 v2) v1 0 s else none
def ybc (v1:List Tj) (v2:List Tj) (s:Unit):Lc2:=⟨7,ye4,0,[2,4,5,6],some (zsy v1 v2 0 s),Int,Unit,zq6 v1 v2 s,zlo v1 v2,zmp v1 v2⟩
theorem yif {v1:List Tj} {v2:List Tj} {s:Unit}:(ybc v1 v2 s).ok tab:=zc6 (zan (J:=zsy v1 v2) (o:=(Sum.elim (zlo v1 v2) (zmp v1 v2))) v1 (B:=fun(k:Int) (x:Tj) (s:Unit)=>(.lenA Tj.i v1<|.kb (decide (k<(v1.length:Int))) true<|.ob (0<=k)<|.lkX Tj.i v1 (k.toNat) x<|.ob (0<=k)<|.lookA Tj.i v2 (k.toNat) fun v22=>.callF (yww x v22) fun(v24:Bool)=>.br (!v24) (.lfA (zpv v1 v2 (i64.wrap (k+1))) (.inr (.inl k)))<|.lfA (zpv v1 v2 (i64.wrap (k+1))) (.inl ()):Tree ((Unit)⊕(Int⊕Unit)) _)) (E:=fun(s:Unit)=>(.lenA Tj.i v1<|.kb (decide ((v1.length:Int)<(v1.length:Int))) false<|.lfA (zpv v1 v2 0) (.inr (.inr ())):Tree ((Unit)⊕(Int⊕Unit)) _)) (fun k x s=>by kernel_rfl) (fun d x t s he=>lA<|⟨ltX he,⟨Int.natCast_nonneg _,⟨zao Tj.i he,⟨Int.natCast_nonneg _,kA fun v22=>cF qd0 fun v24=>bR (rfl)<|rfl⟩⟩⟩⟩) (ho2 (fun _=>rfl) fun _=>rfl) (fun s=>by kernel_rfl) (fun s=>lA<|⟨ltE _,rfl⟩) (by kernel_rfl) (by kernel_rfl) s)
def yp9 (v1:List Tj) (v2:List Tj):Option Bool:=bif decide ((v1.length:Int)≠(v2.length:Int)) then(some false) else((zq6 v1 v2 ()).bind (zhs (fun (v27:Int)=>(some false)) (fun (v28:Unit)=>(some true))))
def yws (v1:List Tj) (v2:List Tj):Ctr:=⟨ypd,[.imm 6 (v1.map Tj.i),.imm 6 (v2.map Tj.i)],[],Bool,yp9 v1 v2,rB⟩
theorem yxg {v1:List Tj} {v2:List Tj}:(yws v1 v2).okF tab:=fun r hr=>⟨za5 qal rfl (.lenA Tj.i v1<|.lenA Tj.i v2<|.br (decide ((v1.length:Int)≠(v2.length:Int))) (.lfA rB false)<|.lp2 (ybc v1 v2 ()) (fun (v27:Int)=>.lfA rB false) (fun (v28:Unit)=>.lfA rB true):Tree Bool _) (by kernel_rfl) (by kernel_rfl) (lA<|lA<|bR (rfl)<|lQ yif (fun v27=>rfl) (fun v28=>rfl)) hr,rfl,rfl⟩
def ynk (v1:Td) (v2:Td):Option Bool:=bif true ^^ (v1.faw == v2.faw) then(some false) else(bif decide (v1.fk≠v2.fk) then(some false) else(bif decide (v1.fw≠v2.fw) then(some false) else(bif decide (v1.fh≠v2.fh) then(some false) else((yca v1.fa v2.fa).bind fun v7=>(bif !v7 then(some false) else((yi6 v1.fb v2.fb).bind fun v10=>(bif !v10 then(some false) else(some true))))))))
def yv8 (v1:Td) (v2:Td):Ctr:=⟨ylx,[.agg [.bool v1.faw,.I v1.fk,.I v1.fw,.I v1.fh,.I v1.fa.ff,.I v1.fa.fe,.I v1.fa.fN,.imm 1 (v1.fa.fc.map (V.int .i64)),.imm 1 (v1.fa.fd.map V.bool),.I v1.fa.fi,.I v1.fb.ff,.I v1.fb.fj,.I v1.fb.fe,.I v1.fb.fN,.imm 1 (v1.fb.fc.map (V.int .i64)),.imm 1 (v1.fb.fd.map V.bool)],.agg [.bool v2.faw,.I v2.fk,.I v2.fw,.I v2.fh,.I v2.fa.ff,.I v2.fa.fe,.I v2.fa.fN,.imm 1 (v2.fa.fc.map (V.int .i64)),.imm 1 (v2.fa.fd.map V.bool),.I v2.fa.fi,.I v2.fb.ff,.I v2.fb.fj,.I v2.fb.fe,.I v2.fb.fN,.imm 1 (v2.fb.fc.map (V.int .i64)),.imm 1 (v2.fb.fd.map V.bool)]],[],Bool,ynk v1 v2,rB⟩
theorem qar {v1:Td} {v2:Td}:(yv8 v1 v2).okF tab:=fun r hr=>⟨za5 yyn rfl (.br (true ^^ (v1.faw == v2.faw)) (.lfA rB false)<|.br (decide (v1.fk≠v2.fk)) (.lfA rB false)<|.br (decide (v1.fw≠v2.fw)) (.lfA rB false)<|.br (decide (v1.fh≠v2.fh)) (.lfA rB false)<|.callF (yia v1.fa v2.fa) fun(v7:Bool)=>.br (!v7) (.lfA rB false)<|.callF (ykn v1.fb v2.fb) fun(v10:Bool)=>.br (!v10) (.lfA rB false)<|.lfA rB true:Tree Bool _) (by kernel_rfl) (by kernel_rfl) (bR (rfl)<|bR (rfl)<|bR (rfl)<|bR (rfl)<|cF yjp fun v7=>bR (rfl)<|cF yl4 fun v10=>bR (rfl)<|rfl) hr,rfl,rfl⟩
def zqj (v1:List Td) (v2:List Td) (k:Int) (s:Unit):St:=⟨sv 7 [(0,.imm 16 (v1.map Td.i)),(1,.imm 16 (v2.map Td.i)),(3,.I k)],[]⟩
def zkw (v1:List Td) (v2:List Td):Int->Ex×St:=fun p=>(.ret,⟨sv 7 [(0,.imm 16 (v1.map Td.i)),(1,.imm 16 (v2.map Td.i)),(2,.bool false),(3,.I p),(5,.bool true),(6,.bool true)],[]⟩)
def zlm (v1:List Td) (v2:List Td):Unit->Ex×St:=fun p=>((.exit 0),⟨sv 7 [(0,.imm 16 (v1.map Td.i)),(1,.imm 16 (v2.map Td.i)),(3,.I (v1.length:Int)),(5,.bool false)],[]⟩)
def zqc (v1:List Td) (v2:List Td) (k:Int):=zcj (zqj v1 v2 k) (Sum.elim (zkw v1 v2) (zlm v1 v2))
def zw8 (v1:List Td) (v2:List Td) (k:Int) (x:Td) (s:Unit):Option ((Unit)⊕(Int⊕Unit)):=((v2)[k.toNat]?).bind fun v22=>((ynk x v22).bind fun v24=>(bif !v24 then(some (.inr (.inl k))) else(some (.inl ()))))
def zze (v1:List Td) (v2:List Td) (s:Unit):Option (Int⊕Unit):=some ((.inr ()))
def zsw (v1:List Td) (v2:List Td) (s:Unit):Option (Int⊕Unit):=if v1.length<=9223372036854775806 then zb3 (zw8 v1 v2) (zze v1 v2) v1 0 s else none
def zxq (v1:List Td) (v2:List Td) (s:Unit):Lc2:=⟨7,ye3,0,[2,4,5,6],some (zqj v1 v2 0 s),Int,Unit,zsw v1 v2 s,zkw v1 v2,zlm v1 v2⟩
theorem yjc {v1:List Td} {v2:List Td} {s:Unit}:(zxq v1 v2 s).ok tab:=zc6 (zan (J:=zqj v1 v2) (o:=(Sum.elim (zkw v1 v2) (zlm v1 v2))) v1 (B:=fun(k:Int) (x:Td) (s:Unit)=>(.lenA Td.i v1<|.kb (decide (k<(v1.length:Int))) true<|.ob (0<=k)<|.lkX Td.i v1 (k.toNat) x<|.ob (0<=k)<|.lookA Td.i v2 (k.toNat) fun v22=>.callF (yv8 x v22) fun(v24:Bool)=>.br (!v24) (.lfA (zqc v1 v2 (i64.wrap (k+1))) (.inr (.inl k)))<|.lfA (zqc v1 v2 (i64.wrap (k+1))) (.inl ()):Tree ((Unit)⊕(Int⊕Unit)) _)) (E:=fun(s:Unit)=>(.lenA Td.i v1<|.kb (decide ((v1.length:Int)<(v1.length:Int))) false<|.lfA (zqc v1 v2 0) (.inr (.inr ())):Tree ((Unit)⊕(Int⊕Unit)) _)) (fun k x s=>by kernel_rfl) (fun d x t s he=>lA<|⟨ltX he,⟨Int.natCast_nonneg _,⟨zao Td.i he,⟨Int.natCast_nonneg _,kA fun v22=>cF qar fun v24=>bR (rfl)<|rfl⟩⟩⟩⟩) (ho2 (fun _=>rfl) fun _=>rfl) (fun s=>by kernel_rfl) (fun s=>lA<|⟨ltE _,rfl⟩) (by kernel_rfl) (by kernel_rfl) s)
def yq0 (v1:List Td) (v2:List Td):Option Bool:=bif decide ((v1.length:Int)≠(v2.length:Int)) then(some false) else((zsw v1 v2 ()).bind (zhs (fun (v27:Int)=>(some false)) (fun (v28:Unit)=>(some true))))
def yvq (v1:List Td) (v2:List Td):Ctr:=⟨ypq,[.imm 16 (v1.map Td.i),.imm 16 (v2.map Td.i)],[],Bool,yq0 v1 v2,rB⟩
theorem qfl {v1:List Td} {v2:List Td}:(yvq v1 v2).okF tab:=fun r hr=>⟨za5 qat rfl (.lenA Td.i v1<|.lenA Td.i v2<|.br (decide ((v1.length:Int)≠(v2.length:Int))) (.lfA rB false)<|.lp2 (zxq v1 v2 ()) (fun (v27:Int)=>.lfA rB false) (fun (v28:Unit)=>.lfA rB true):Tree Bool _) (by kernel_rfl) (by kernel_rfl) (lA<|lA<|bR (rfl)<|lQ yjc (fun v27=>rfl) (fun v28=>rfl)) hr,rfl,rfl⟩
def yky (v1:Tb) (v2:Tb):Option Bool:=bif decide (v1.fae≠v2.fae) then(some false) else(bif decide (v1.faf≠v2.faf) then(some false) else((yca v1.fa v2.fa).bind fun v5=>(bif !v5 then(some false) else((yk2 v1.ft v2.ft).bind fun v8=>(bif !v8 then(some false) else((yjx v1.fu v2.fu).bind fun v11=>(bif !v11 then(some false) else((yi6 v1.fb v2.fb).bind fun v14=>(bif !v14 then(some false) else(some true))))))))))
def yv4 (v1:Tb) (v2:Tb):Ctr:=⟨ypl,[.agg [.I v1.fae,.I v1.faf,.I v1.fa.ff,.I v1.fa.fe,.I v1.fa.fN,.imm 1 (v1.fa.fc.map (V.int .i64)),.imm 1 (v1.fa.fd.map V.bool),.I v1.fa.fi,.imm 8 (v1.ft.map Th.i),.imm 6 (v1.fu.map Tf.i),.I v1.fb.ff,.I v1.fb.fj,.I v1.fb.fe,.I v1.fb.fN,.imm 1 (v1.fb.fc.map (V.int .i64)),.imm 1 (v1.fb.fd.map V.bool)],.agg [.I v2.fae,.I v2.faf,.I v2.fa.ff,.I v2.fa.fe,.I v2.fa.fN,.imm 1 (v2.fa.fc.map (V.int .i64)),.imm 1 (v2.fa.fd.map V.bool),.I v2.fa.fi,.imm 8 (v2.ft.map Th.i),.imm 6 (v2.fu.map Tf.i),.I v2.fb.ff,.I v2.fb.fj,.I v2.fb.fe,.I v2.fb.fN,.imm 1 (v2.fb.fc.map (V.int .i64)),.imm 1 (v2.fb.fd.map V.bool)]],[],Bool,yky v1 v2,rB⟩
theorem yzj {v1:Tb} {v2:Tb}:(yv4 v1 v2).okF tab:=fun r hr=>⟨za5 qds rfl (.br (decide (v1.fae≠v2.fae)) (.lfA rB false)<|.br (decide (v1.faf≠v2.faf)) (.lfA rB false)<|.callF (yia v1.fa v2.fa) fun(v5:Bool)=>.br (!v5) (.lfA rB false)<|.callF (ysq v1.ft v2.ft) fun(v8:Bool)=>.br (!v8) (.lfA rB false)<|.callF (ytv v1.fu v2.fu) fun(v11:Bool)=>.br (!v11) (.lfA rB false)<|.callF (ykn v1.fb v2.fb) fun(v14:Bool)=>.br (!v14) (.lfA rB false)<|.lfA rB true:Tree Bool _) (by kernel_rfl) (by kernel_rfl) (bR (rfl)<|bR (rfl)<|cF yjp fun v5=>bR (rfl)<|cF yuz fun v8=>bR (rfl)<|cF yuv fun v11=>bR (rfl)<|cF yl4 fun v14=>bR (rfl)<|rfl) hr,rfl,rfl⟩
def zqr (v1:List Tb) (v2:List Tb) (k:Int) (s:Unit):St:=⟨sv 7 [(0,.imm 16 (v1.map Tb.i)),(1,.imm 16 (v2.map Tb.i)),(3,.I k)],[]⟩
def zln (v1:List Tb) (v2:List Tb):Int->Ex×St:=fun p=>(.ret,⟨sv 7 [(0,.imm 16 (v1.map Tb.i)),(1,.imm 16 (v2.map Tb.i)),(2,.bool false),(3,.I p),(5,.bool true),(6,.bool true)],[]⟩)
def zn3 (v1:List Tb) (v2:List Tb):Unit->Ex×St:=fun p=>((.exit 0),⟨sv 7 [(0,.imm 16 (v1.map Tb.i)),(1,.imm 16 (v2.map Tb.i)),(3,.I (v1.length:Int)),(5,.bool false)],[]⟩)
def zrz (v1:List Tb) (v2:List Tb) (k:Int):=zcj (zqr v1 v2 k) (Sum.elim (zln v1 v2) (zn3 v1 v2))
def yax (v1:List Tb) (v2:List Tb) (k:Int) (x:Tb) (s:Unit):Option ((Unit)⊕(Int⊕Unit)):=((v2)[k.toNat]?).bind fun v22=>((yky x v22).bind fun v24=>(bif !v24 then(some (.inr (.inl k))) else(some (.inl ()))))
def zxg (v1:List Tb) (v2:List Tb) (s:Unit):Option (Int⊕Unit):=some ((.inr ()))
def zt3 (v1:List Tb) (v2:List Tb) (s:Unit):Option (Int⊕Unit):=if v1.length<=9223372036854775806 then zb3 (yax v1 v2) (zxg v1 v2) v1 0 s else none
def zzs (v1:List Tb) (v2:List Tb) (s:Unit):Lc2:=⟨7,yeg,0,[2,4,5,6],some (zqr v1 v2 0 s),Int,Unit,zt3 v1 v2 s,zln v1 v2,zn3 v1 v2⟩
theorem yfz {v1:List Tb} {v2:List Tb} {s:Unit}:(zzs v1 v2 s).ok tab:=zc6 (zan (J:=zqr v1 v2) (o:=(Sum.elim (zln v1 v2) (zn3 v1 v2))) v1 (B:=fun(k:Int) (x:Tb) (s:Unit)=>(.lenA Tb.i v1<|.kb (decide (k<(v1.length:Int))) true<|.ob (0<=k)<|.lkX Tb.i v1 (k.toNat) x<|.ob (0<=k)<|.lookA Tb.i v2 (k.toNat) fun v22=>.callF (yv4 x v22) fun(v24:Bool)=>.br (!v24) (.lfA (zrz v1 v2 (i64.wrap (k+1))) (.inr (.inl k)))<|.lfA (zrz v1 v2 (i64.wrap (k+1))) (.inl ()):Tree ((Unit)⊕(Int⊕Unit)) _)) (E:=fun(s:Unit)=>(.lenA Tb.i v1<|.kb (decide ((v1.length:Int)<(v1.length:Int))) false<|.lfA (zrz v1 v2 0) (.inr (.inr ())):Tree ((Unit)⊕(Int⊕Unit)) _)) (fun k x s=>by kernel_rfl) (fun d x t s he=>lA<|⟨ltX he,⟨Int.natCast_nonneg _,⟨zao Tb.i he,⟨Int.natCast_nonneg _,kA fun v22=>cF yzj fun v24=>bR (rfl)<|rfl⟩⟩⟩⟩) (ho2 (fun _=>rfl) fun _=>rfl) (fun s=>by kernel_rfl) (fun s=>lA<|⟨ltE _,rfl⟩) (by kernel_rfl) (by kernel_rfl) s)
def ync (v1:List Tb) (v2:List Tb):Option Bool:=bif decide ((v1.length:Int)≠(v2.length:Int)) then(some false) else((zt3 v1 v2 ()).bind (zhs (fun (v27:Int)=>(some false)) (fun (v28:Unit)=>(some true))))
def yv2 (v1:List Tb) (v2:List Tb):Ctr:=⟨ynl,[.imm 16 (v1.map Tb.i),.imm 16 (v2.map Tb.i)],[],Bool,ync v1 v2,rB⟩
theorem qen {v1:List Tb} {v2:List Tb}:(yv2 v1 v2).okF tab:=fun r hr=>⟨za5 yzh rfl (.lenA Tb.i v1<|.lenA Tb.i v2<|.br (decide ((v1.length:Int)≠(v2.length:Int))) (.lfA rB false)<|.lp2 (zzs v1 v2 ()) (fun (v27:Int)=>.lfA rB false) (fun (v28:Unit)=>.lfA rB true):Tree Bool _) (by kernel_rfl) (by kernel_rfl) (lA<|lA<|bR (rfl)<|lQ yfz (fun v27=>rfl) (fun v28=>rfl)) hr,rfl,rfl⟩
def ym0 (v1:Te) (v2:Te):Option Bool:=bif decide (v1.fk≠v2.fk) then(some false) else(bif decide (v1.fw≠v2.fw) then(some false) else(bif decide (v1.fh≠v2.fh) then(some false) else((yca v1.fa v2.fa).bind fun v6=>(bif !v6 then(some false) else((yi6 v1.fb v2.fb).bind fun v9=>(bif !v9 then(some false) else(some true)))))))
def yw9 (v1:Te) (v2:Te):Ctr:=⟨yn0,[.agg [.I v1.fk,.I v1.fw,.I v1.fh,.I v1.fa.ff,.I v1.fa.fe,.I v1.fa.fN,.imm 1 (v1.fa.fc.map (V.int .i64)),.imm 1 (v1.fa.fd.map V.bool),.I v1.fa.fi,.I v1.fb.ff,.I v1.fb.fj,.I v1.fb.fe,.I v1.fb.fN,.imm 1 (v1.fb.fc.map (V.int .i64)),.imm 1 (v1.fb.fd.map V.bool)],.agg [.I v2.fk,.I v2.fw,.I v2.fh,.I v2.fa.ff,.I v2.fa.fe,.I v2.fa.fN,.imm 1 (v2.fa.fc.map (V.int .i64)),.imm 1 (v2.fa.fd.map V.bool),.I v2.fa.fi,.I v2.fb.ff,.I v2.fb.fj,.I v2.fb.fe,.I v2.fb.fN,.imm 1 (v2.fb.fc.map (V.int .i64)),.imm 1 (v2.fb.fd.map V.bool)]],[],Bool,ym0 v1 v2,rB⟩
theorem qdl {v1:Te} {v2:Te}:(yw9 v1 v2).okF tab:=fun r hr=>⟨za5 qb6 rfl (.br (decide (v1.fk≠v2.fk)) (.lfA rB false)<|.br (decide (v1.fw≠v2.fw)) (.lfA rB false)<|.br (decide (v1.fh≠v2.fh)) (.lfA rB false)<|.callF (yia v1.fa v2.fa) fun(v6:Bool)=>.br (!v6) (.lfA rB false)<|.callF (ykn v1.fb v2.fb) fun(v9:Bool)=>.br (!v9) (.lfA rB false)<|.lfA rB true:Tree Bool _) (by kernel_rfl) (by kernel_rfl) (bR (rfl)<|bR (rfl)<|bR (rfl)<|cF yjp fun v6=>bR (rfl)<|cF yl4 fun v9=>bR (rfl)<|rfl) hr,rfl,rfl⟩
def zst (v1:List Te) (v2:List Te) (k:Int) (s:Unit):St:=⟨sv 7 [(0,.imm 15 (v1.map Te.i)),(1,.imm 15 (v2.map Te.i)),(3,.I k)],[]⟩
def zlk (v1:List Te) (v2:List Te):Int->Ex×St:=fun p=>(.ret,⟨sv 7 [(0,.imm 15 (v1.map Te.i)),(1,.imm 15 (v2.map Te.i)),(2,.bool false),(3,.I p),(5,.bool true),(6,.bool true)],[]⟩)
def znd (v1:List Te) (v2:List Te):Unit->Ex×St:=fun p=>((.exit 0),⟨sv 7 [(0,.imm 15 (v1.map Te.i)),(1,.imm 15 (v2.map Te.i)),(3,.I (v1.length:Int)),(5,.bool false)],[]⟩)
def zqp (v1:List Te) (v2:List Te) (k:Int):=zcj (zst v1 v2 k) (Sum.elim (zlk v1 v2) (znd v1 v2))
def zwv (v1:List Te) (v2:List Te) (k:Int) (x:Te) (s:Unit):Option ((Unit)⊕(Int⊕Unit)):=((v2)[k.toNat]?).bind fun v22=>((ym0 x v22).bind fun v24=>(bif !v24 then(some (.inr (.inl k))) else(some (.inl ()))))
def ybi (v1:List Te) (v2:List Te) (s:Unit):Option (Int⊕Unit):=some ((.inr ()))
def zsp (v1:List Te) (v2:List Te) (s:Unit):Option (Int⊕Unit):=if v1.length<=9223372036854775806 then zb3 (zwv v1 v2) (ybi v1 v2) v1 0 s else none
def zza (v1:List Te) (v2:List Te) (s:Unit):Lc2:=⟨7,yeb,0,[2,4,5,6],some (zst v1 v2 0 s),Int,Unit,zsp v1 v2 s,zlk v1 v2,znd v1 v2⟩
theorem yhd {v1:List Te} {v2:List Te} {s:Unit}:(zza v1 v2 s).ok tab:=zc6 (zan (J:=zst v1 v2) (o:=(Sum.elim (zlk v1 v2) (znd v1 v2))) v1 (B:=fun(k:Int) (x:Te) (s:Unit)=>(.lenA Te.i v1<|.kb (decide (k<(v1.length:Int))) true<|.ob (0<=k)<|.lkX Te.i v1 (k.toNat) x<|.ob (0<=k)<|.lookA Te.i v2 (k.toNat) fun v22=>.callF (yw9 x v22) fun(v24:Bool)=>.br (!v24) (.lfA (zqp v1 v2 (i64.wrap (k+1))) (.inr (.inl k)))<|.lfA (zqp v1 v2 (i64.wrap (k+1))) (.inl ()):Tree ((Unit)⊕(Int⊕Unit)) _)) (E:=fun(s:Unit)=>(.lenA Te.i v1<|.kb (decide ((v1.length:Int)<(v1.length:Int))) false<|.lfA (zqp v1 v2 0) (.inr (.inr ())):Tree ((Unit)⊕(Int⊕Unit)) _)) (fun k x s=>by kernel_rfl) (fun d x t s he=>lA<|⟨ltX he,⟨Int.natCast_nonneg _,⟨zao Te.i he,⟨Int.natCast_nonneg _,kA fun v22=>cF qdl fun v24=>bR (rfl)<|rfl⟩⟩⟩⟩) (ho2 (fun _=>rfl) fun _=>rfl) (fun s=>by kernel_rfl) (fun s=>lA<|⟨ltE _,rfl⟩) (by kernel_rfl) (by kernel_rfl) s)
def ypp (v1:List Te) (v2:List Te):Option Bool:=bif decide ((v1.length:Int)≠(v2.length:Int)) then(some false) else((zsp v1 v2 ()).bind (zhs (fun (v27:Int)=>(some false)) (fun (v28:Unit)=>(some true))))
def ywu (v1:List Te) (v2:List Te):Ctr:=⟨yn9,[.imm 15 (v1.map Te.i),.imm 15 (v2.map Te.i)],[],Bool,ypp v1 v2,rB⟩
theorem yz9 {v1:List Te} {v2:List Te}:(ywu v1 v2).okF tab:=fun r hr=>⟨za5 qit rfl (.lenA Te.i v1<|.lenA Te.i v2<|.br (decide ((v1.length:Int)≠(v2.length:Int))) (.lfA rB false)<|.lp2 (zza v1 v2 ()) (fun (v27:Int)=>.lfA rB false) (fun (v28:Unit)=>.lfA rB true):Tree Bool _) (by kernel_rfl) (by kernel_rfl) (lA<|lA<|bR (rfl)<|lQ yhd (fun v27=>rfl) (fun v28=>rfl)) hr,rfl,rfl⟩
def ymc (v1:Tl) (v2:Tl):Option Bool:=(ypb v1.fF v2.fF).bind fun v3=>(bif !v3 then(some false) else((yp9 v1.faj v2.faj).bind fun v6=>(bif !v6 then(some false) else((yq0 v1.fai v2.fai).bind fun v9=>(bif !v9 then(some false) else((ync v1.fab v2.fab).bind fun v12=>(bif !v12 then(some false) else((ypp v1.fak v2.fak).bind fun v15=>(bif !v15 then(some false) else(some true))))))))))
def yvj (v1:Tl) (v2:Tl):Ctr:=⟨ym6,[.agg [.I v1.fF.fat,.I v1.fF.fo.fah,.I v1.fF.fo.fag,.imm 7 (v1.fF.fo.fp.map Ti.i),.I v1.fF.fq.fad,.imm 13 (v1.fF.fq.fr.map Tc.i),.imm 17 (v1.fF.faa.map Ta.i),.I v1.fF.far,.I v1.fF.fau,.I v1.fF.fas,.I v1.fF.fav,.imm 6 (v1.faj.map Tj.i),.imm 16 (v1.fai.map Td.i),.imm 16 (v1.fab.map Tb.i),.imm 15 (v1.fak.map Te.i)],.agg [.I v2.fF.fat,.I v2.fF.fo.fah,.I v2.fF.fo.fag,.imm 7 (v2.fF.fo.fp.map Ti.i),.I v2.fF.fq.fad,.imm 13 (v2.fF.fq.fr.map Tc.i),.imm 17 (v2.fF.faa.map Ta.i),.I v2.fF.far,.I v2.fF.fau,.I v2.fF.fas,.I v2.fF.fav,.imm 6 (v2.faj.map Tj.i),.imm 16 (v2.fai.map Td.i),.imm 16 (v2.fab.map Tb.i),.imm 15 (v2.fak.map Te.i)]],[],Bool,ymc v1 v2,rB⟩
theorem qfv {v1:Tl} {v2:Tl}:(yvj v1 v2).okF tab:=fun r hr=>⟨za5 qfw rfl (.callF (yv0 v1.fF v2.fF) fun(v3:Bool)=>.br (!v3) (.lfA rB false)<|.callF (yws v1.faj v2.faj) fun(v6:Bool)=>.br (!v6) (.lfA rB false)<|.callF (yvq v1.fai v2.fai) fun(v9:Bool)=>.br (!v9) (.lfA rB false)<|.callF (yv2 v1.fab v2.fab) fun(v12:Bool)=>.br (!v12) (.lfA rB false)<|.callF (ywu v1.fak v2.fak) fun(v15:Bool)=>.br (!v15) (.lfA rB false)<|.lfA rB true:Tree Bool _) (by kernel_rfl) (by kernel_rfl) (cF qbd fun v3=>bR (rfl)<|cF yxg fun v6=>bR (rfl)<|cF qfl fun v9=>bR (rfl)<|cF qen fun v12=>bR (rfl)<|cF yz9 fun v15=>bR (rfl)<|rfl) hr,rfl,rfl⟩
def zp9 (s:List Ti×Int×Int):St:=⟨sv 6 [(0,.own 7 (s.1.map Ti.i)),(1,.I s.2.1),(4,.I s.2.2)],[]⟩
def zli:(List Ti×Int×Int)->Ex×St:=fun p=>((.exit 0),⟨sv 6 [(0,.own 7 (p.1.map Ti.i)),(1,.I p.2.1),(4,.I p.2.2),(5,.bool false)],[]⟩)
def zz8:=zcj (zp9) (zli)
def zn7 (s:List Ti×Int×Int):Option ((List Ti×Int×Int)⊕((List Ti×Int×Int))):=bif decide (s.2.2<(s.1.length:Int)) then(if 0<=s.2.2/\(s.2.2:Int)<(((s.1.map Ti.i).length - 0:Nat):Int) then(((s.1)[s.2.2.toNat]?).bind fun v51=>(let v53:=s.1.set (s.2.2.toNat) ({ v51 with fh:=s.2.1 }:Ti);(if 0<=s.2.2/\(s.2.2:Int)<(((v53.map Ti.i).length - 0:Nat):Int) then(((v53)[s.2.2.toNat]?).bind fun v54=>(let v56:=v53.set (s.2.2.toNat) ({ v54 with fbd:=(i64.wrap (s.2.1+1)) }:Ti);(if 0<=s.2.2/\(s.2.2:Int)<(((v56.map Ti.i).length - 0:Nat):Int) then(((v56)[s.2.2.toNat]?).bind fun v57=>(let v59:=v56.set (s.2.2.toNat) ({ v57 with fbb:=(i64.wrap ((i64.wrap (s.2.1+1))+1)) }:Ti);(if 0<=s.2.2/\(s.2.2:Int)<(((v59.map Ti.i).length - 0:Nat):Int) then(((v59)[s.2.2.toNat]?).bind fun v60=>(let v62:=v59.set (s.2.2.toNat) ({ v60 with fba:=(i64.wrap ((i64.wrap ((i64.wrap (s.2.1+1))+1))+1)) }:Ti);(if 0<=s.2.2/\(s.2.2:Int)<(((v62.map Ti.i).length - 0:Nat):Int) then(((v62)[s.2.2.toNat]?).bind fun v63=>(let v65:=v62.set (s.2.2.toNat) ({ v63 with fk:=(i64.wrap ((i64.wrap ((i64.wrap ((i64.wrap (s.2.1+1))+1))+1))+1)) }:Ti);(if 0<=s.2.2/\(s.2.2:Int)<(((v65.map Ti.i).length - 0:Nat):Int) then(((v65)[s.2.2.toNat]?).bind fun v66=>(let v68:=v65.set (s.2.2.toNat) ({ v66 with fbe:=(i64.wrap ((i64.wrap ((i64.wrap ((i64.wrap ((i64.wrap (s.2.1+1))+1))+1))+1))+1)) }:Ti);(if 0<=s.2.2/\(s.2.2:Int)<(((v68.map Ti.i).length - 0:Nat):Int) then(((v68)[s.2.2.toNat]?).bind fun v69=>(let v71:=v68.set (s.2.2.toNat) ({ v69 with fbc:=(i64.wrap ((i64.wrap ((i64.wrap ((i64.wrap ((i64.wrap ((i64.wrap (s.2.1+1))+1))+1))+1))+1))+1)) }:Ti);(some (.inl (v71,(i64.wrap ((i64.wrap ((i64.wrap ((i64.wrap ((i64.wrap ((i64.wrap ((i64.wrap (s.2.1+1))+1))+1))+1))+1))+1))+1)),(i64.wrap (s.2.2+1))))))) else none))) else none))) else none))) else none))) else none))) else none))) else none) else(some (.inr (s.1,s.2.1,s.2.2)))
def zse (s:List Ti×Int×Int):Option ((List Ti×Int×Int)):=zd1 (zn7) BIG s
def zx8 (s:List Ti×Int×Int):Lct:=⟨6,yek,0,[2,3,5],some (zp9 s),List Ti×Int×Int,zse s,zli⟩
theorem yfx {s:List Ti×Int×Int}:(zx8 s).ok tab:=zbs (zc8 (J:=zp9) (o:=(zli)) (B:=fun(s:List Ti×Int×Int)=>(.lenB Ti.i s.1<|.br (decide (s.2.2<(s.1.length:Int))) (.guard (0<=s.2.2/\(s.2.2:Int)<(((s.1.map Ti.i).length - 0:Nat):Int)) inferInstance<|.lookB Ti.i s.1 (s.2.2.toNat) fun v51=>.lkY Ti.i s.1 (s.2.2.toNat) v51<|.lkY Ti.i s.1 (s.2.2.toNat) v51<|.setN Ti.i s.1 (s.2.2.toNat) ({ v51 with fh:=s.2.1 }:Ti) fun v53=>.guard (0<=s.2.2/\(s.2.2:Int)<(((v53.map Ti.i).length - 0:Nat):Int)) inferInstance<|.lookB Ti.i v53 (s.2.2.toNat) fun v54=>.lkY Ti.i v53 (s.2.2.toNat) v54<|.lkY Ti.i v53 (s.2.2.toNat) v54<|.setN Ti.i v53 (s.2.2.toNat) ({ v54 with fbd:=(i64.wrap (s.2.1+1)) }:Ti) fun v56=>.guard (0<=s.2.2/\(s.2.2:Int)<(((v56.map Ti.i).length - 0:Nat):Int)) inferInstance<|.lookB Ti.i v56 (s.2.2.toNat) fun v57=>.lkY Ti.i v56 (s.2.2.toNat) v57<|.lkY Ti.i v56 (s.2.2.toNat) v57<|.setN Ti.i v56 (s.2.2.toNat) ({ v57 with fbb:=(i64.wrap ((i64.wrap (s.2.1+1))+1)) }:Ti) fun v59=>.guard (0<=s.2.2/\(s.2.2:Int)<(((v59.map Ti.i).length - 0:Nat):Int)) inferInstance<|.lookB Ti.i v59 (s.2.2.toNat) fun v60=>.lkY Ti.i v59 (s.2.2.toNat) v60<|.lkY Ti.i v59 (s.2.2.toNat) v60<|.setN Ti.i v59 (s.2.2.toNat) ({ v60 with fba:=(i64.wrap ((i64.wrap ((i64.wrap (s.2.1+1))+1))+1)) }:Ti) fun v62=>.guard (0<=s.2.2/\(s.2.2:Int)<(((v62.map Ti.i).length - 0:Nat):Int)) inferInstance<|.lookB Ti.i v62 (s.2.2.toNat) fun v63=>.lkY Ti.i v62 (s.2.2.toNat) v63<|.lkY Ti.i v62 (s.2.2.toNat) v63<|.setN Ti.i v62 (s.2.2.toNat) ({ v63 with fk:=(i64.wrap ((i64.wrap ((i64.wrap ((i64.wrap (s.2.1+1))+1))+1))+1)) }:Ti) fun v65=>.guard (0<=s.2.2/\(s.2.2:Int)<(((v65.map Ti.i).length - 0:Nat):Int)) inferInstance<|.lookB Ti.i v65 (s.2.2.toNat) fun v66=>.lkY Ti.i v65 (s.2.2.toNat) v66<|.lkY Ti.i v65 (s.2.2.toNat) v66<|.setN Ti.i v65 (s.2.2.toNat) ({ v66 with fbe:=(i64.wrap ((i64.wrap ((i64.wrap ((i64.wrap ((i64.wrap (s.2.1+1))+1))+1))+1))+1)) }:Ti) fun v68=>.guard (0<=s.2.2/\(s.2.2:Int)<(((v68.map Ti.i).length - 0:Nat):Int)) inferInstance<|.lookB Ti.i v68 (s.2.2.toNat) fun v69=>.lkY Ti.i v68 (s.2.2.toNat) v69<|.lkY Ti.i v68 (s.2.2.toNat) v69<|.setN Ti.i v68 (s.2.2.toNat) ({ v69 with fbc:=(i64.wrap ((i64.wrap ((i64.wrap ((i64.wrap ((i64.wrap ((i64.wrap (s.2.1+1))+1))+1))+1))+1))+1)) }:Ti) fun v71=>.lfA (zz8) (.inl (v71,(i64.wrap ((i64.wrap ((i64.wrap ((i64.wrap ((i64.wrap ((i64.wrap ((i64.wrap (s.2.1+1))+1))+1))+1))+1))+1))+1)),(i64.wrap (s.2.2+1)))))<|.lfA (zz8) (.inr (s.1,s.2.1,s.2.2)):Tree ((List Ti×Int×Int)⊕((List Ti×Int×Int))) _)) (fun s=>by kernel_rfl) (fun s=>lB<|bR (gU<|⟨za1 _ _ _,fun v51 h52=>⟨za0 _ h52,⟨za0 _ h52,⟨za2 _ _ _ _,fun v53 _=>gU<|⟨za1 _ _ _,fun v54 h55=>⟨za0 _ h55,⟨za0 _ h55,⟨za2 _ _ _ _,fun v56 _=>gU<|⟨za1 _ _ _,fun v57 h58=>⟨za0 _ h58,⟨za0 _ h58,⟨za2 _ _ _ _,fun v59 _=>gU<|⟨za1 _ _ _,fun v60 h61=>⟨za0 _ h61,⟨za0 _ h61,⟨za2 _ _ _ _,fun v62 _=>gU<|⟨za1 _ _ _,fun v63 h64=>⟨za0 _ h64,⟨za0 _ h64,⟨za2 _ _ _ _,fun v65 _=>gU<|⟨za1 _ _ _,fun v66 h67=>⟨za0 _ h67,⟨za0 _ h67,⟨za2 _ _ _ _,fun v68 _=>gU<|⟨za1 _ _ _,fun v69 h70=>⟨za0 _ h70,⟨za0 _ h70,⟨za2 _ _ _ _,fun v71 _=>rfl⟩⟩⟩⟩⟩⟩⟩⟩⟩⟩⟩⟩⟩⟩⟩⟩⟩⟩⟩⟩⟩⟩⟩⟩⟩⟩⟩⟩)<|rfl) (fun _=>rfl) (by kernel_rfl) BIG s)
def yul:(Int×List Ti)->V×List (List V):=fun r=>(.tup [.int .i64 r.1,.tup [.own 7 (r.2.map Ti.i)]],[])
def ylu (v1:List Ti) (v2:Int):Option (Int×List Ti):=(zse (v1,v2,0)).bind fun v72=>(some (v72.2.1,v72.1))
def yva (v1:List Ti) (v2:Int):Ctr:=⟨ymg,[.own 7 (v1.map Ti.i),.I v2],[[.gone]],Int×List Ti,ylu v1 v2,yul⟩
theorem qfs {v1:List Ti} {v2:Int}:(yva v1 v2).ok tab:=fun r hr=>zbc qbp rfl (.lp (zx8 (v1,v2,0)) fun(v72:List Ti×Int×Int)=>.segA Ti.i v72.1<|.lfA yul (v72.2.1,v72.1):Tree (Int×List Ti) _) (by kernel_rfl) (by kernel_rfl) (lP yfx fun v72=>sA<|rfl) hr
def ywh:(Int×To)->V×List (List V):=fun r=>(.tup [.int .i64 r.1,.tup [.agg [.int .i64 r.2.fah,.int .i64 r.2.fag,.own 7 (r.2.fp.map Ti.i)]]],[])
def yr2 (v1:To) (v2:Int):Option (Int×To):=(ylu v1.fp v2).bind fun v3=>(if ((v1.fp.map Ti.i).length)<=(v3.2.map Ti.i).length then(some (v3.1,({ v1 with fp:=((v3.2.take ((v1.fp.map Ti.i).length)).drop (0)) }:To))) else none)
def yvs (v1:To) (v2:Int):Ctr:=⟨ynr,[.agg [.I v1.fah,.I v1.fag,.own 7 (v1.fp.map Ti.i)],.I v2],[[.gone]],Int×To,yr2 v1 v2,ywh⟩
theorem qdc {v1:To} {v2:Int}:(yvs v1 v2).ok tab:=fun r hr=>zbc qei rfl (.segA Ti.i v1.fp<|.ob ((v1.fp.map Ti.i).length=List.length ((v1.fp.map Ti.i)))<|.call (yva v1.fp v2) fun(v3:Int×List Ti)=>.segB Ti.i v3.2 (0) ((v1.fp.map Ti.i).length)<|.lfA ywh (v3.1,({ v1 with fp:=((v3.2.take ((v1.fp.map Ti.i).length)).drop (0)) }:To)):Tree (Int×To) _) (by kernel_rfl) (by kernel_rfl) (sA<|⟨rfl,cE qfs fun v3=>fun h4=>⟨zcz _ _ _ h4,rfl⟩⟩) hr
def zqe (s:List Int×Int×Int):St:=⟨sv 6 [(0,.own 1 (s.1.map (V.int .i64))),(1,.I s.2.1),(4,.I s.2.2)],[]⟩
def zmr:(List Int×Int×Int)->Ex×St:=fun p=>((.exit 0),⟨sv 6 [(0,.own 1 (p.1.map (V.int .i64))),(1,.I p.2.1),(4,.I p.2.2),(5,.bool false)],[]⟩)
def yap:=zcj (zqe) (zmr)
def ybq (s:List Int×Int×Int):Option ((List Int×Int×Int)⊕((List Int×Int×Int))):=bif decide (s.2.2<(s.1.length:Int)) then(if 0<=s.2.2/\(s.2.2:Int)<(((s.1.map (V.int .i64)).length - 0:Nat):Int) then(((s.1)[s.2.2.toNat]?).bind fun v15=>(let v17:=s.1.set (s.2.2.toNat) s.2.1;(some (.inl (v17,(i64.wrap (s.2.1+1)),(i64.wrap (s.2.2+1))))))) else none) else(some (.inr (s.1,s.2.1,s.2.2)))
def zp7 (s:List Int×Int×Int):Option ((List Int×Int×Int)):=zd1 (ybq) BIG s
def yb2 (s:List Int×Int×Int):Lct:=⟨6,yei,0,[2,3,5],some (zqe s),List Int×Int×Int,zp7 s,zmr⟩
theorem yhq {s:List Int×Int×Int}:(yb2 s).ok tab:=zbs (zc8 (J:=zqe) (o:=(zmr)) (B:=fun(s:List Int×Int×Int)=>(.lenB (V.int .i64) s.1<|.br (decide (s.2.2<(s.1.length:Int))) (.guard (0<=s.2.2/\(s.2.2:Int)<(((s.1.map (V.int .i64)).length - 0:Nat):Int)) inferInstance<|.lookB (V.int .i64) s.1 (s.2.2.toNat) fun v15=>.lkY (V.int .i64) s.1 (s.2.2.toNat) v15<|.lkY (V.int .i64) s.1 (s.2.2.toNat) v15<|.setN (V.int .i64) s.1 (s.2.2.toNat) s.2.1 fun v17=>.lfA (yap) (.inl (v17,(i64.wrap (s.2.1+1)),(i64.wrap (s.2.2+1)))))<|.lfA (yap) (.inr (s.1,s.2.1,s.2.2)):Tree ((List Int×Int×Int)⊕((List Int×Int×Int))) _)) (fun s=>by kernel_rfl) (fun s=>lB<|bR (gU<|⟨za1 _ _ _,fun v15 h16=>⟨za0 _ h16,⟨za0 _ h16,⟨za2 _ _ _ _,fun v17 _=>rfl⟩⟩⟩⟩)<|rfl) (fun _=>rfl) (by kernel_rfl) BIG s)
def ywo:(Int×List Int)->V×List (List V):=fun r=>(.tup [.int .i64 r.1,.tup [.own 1 (r.2.map (V.int .i64))]],[])
def znw (v1:List Int) (v2:Int):Option (Int×List Int):=(zp7 (v1,v2,0)).bind fun v18=>(some (v18.2.1,v18.1))
def zsc (v1:List Int) (v2:Int):Ctr:=⟨yp1,[.own 1 (v1.map (V.int .i64)),.I v2],[[.gone]],Int×List Int,znw v1 v2,ywo⟩
theorem zt9 {v1:List Int} {v2:Int}:(zsc v1 v2).ok tab:=fun r hr=>zbc yxu rfl (.lp (yb2 (v1,v2,0)) fun(v18:List Int×Int×Int)=>.segA (V.int .i64) v18.1<|.lfA ywo (v18.2.1,v18.1):Tree (Int×List Int) _) (by kernel_rfl) (by kernel_rfl) (lP yhq fun v18=>sA<|rfl) hr
def zql (s:List Bool×Int×Int):St:=⟨sv 6 [(0,.own 1 (s.1.map V.bool)),(1,.I s.2.1),(4,.I s.2.2)],[]⟩
def zm3:(List Bool×Int×Int)->Ex×St:=fun p=>((.exit 0),⟨sv 6 [(0,.own 1 (p.1.map V.bool)),(1,.I p.2.1),(4,.I p.2.2),(5,.bool false)],[]⟩)
def zym:=zcj (zql) (zm3)
def zy0 (s:List Bool×Int×Int):Option ((List Bool×Int×Int)⊕((List Bool×Int×Int))):=bif decide (s.2.2<(s.1.length:Int)) then(if 0<=s.2.2/\(s.2.2:Int)<(((s.1.map V.bool).length - 0:Nat):Int) then(((s.1)[s.2.2.toNat]?).bind fun v15=>(let v17:=s.1.set (s.2.2.toNat) (decide ((s.2.1.tmod 3)=0));(some (.inl (v17,(i64.wrap (s.2.1+1)),(i64.wrap (s.2.2+1))))))) else none) else(some (.inr (s.1,s.2.1,s.2.2)))
def zrj (s:List Bool×Int×Int):Option ((List Bool×Int×Int)):=zd1 (zy0) BIG s
def zw2 (s:List Bool×Int×Int):Lct:=⟨6,yf0,0,[2,3,5],some (zql s),List Bool×Int×Int,zrj s,zm3⟩
theorem yik {s:List Bool×Int×Int}:(zw2 s).ok tab:=zbs (zc8 (J:=zql) (o:=(zm3)) (B:=fun(s:List Bool×Int×Int)=>(.lenB V.bool s.1<|.br (decide (s.2.2<(s.1.length:Int))) (.sk<|.guard (0<=s.2.2/\(s.2.2:Int)<(((s.1.map V.bool).length - 0:Nat):Int)) inferInstance<|.lookB V.bool s.1 (s.2.2.toNat) fun v15=>.lkY V.bool s.1 (s.2.2.toNat) v15<|.lkY V.bool s.1 (s.2.2.toNat) v15<|.setN V.bool s.1 (s.2.2.toNat) (decide ((s.2.1.tmod 3)=0)) fun v17=>.lfA (zym) (.inl (v17,(i64.wrap (s.2.1+1)),(i64.wrap (s.2.2+1)))))<|.lfA (zym) (.inr (s.1,s.2.1,s.2.2)):Tree ((List Bool×Int×Int)⊕((List Bool×Int×Int))) _)) (fun s=>by kernel_rfl) (fun s=>lB<|bR (sK<|gU<|⟨za1 _ _ _,fun v15 h16=>⟨za0 _ h16,⟨za0 _ h16,⟨za2 _ _ _ _,fun v17 _=>rfl⟩⟩⟩⟩)<|rfl) (fun _=>rfl) (by kernel_rfl) BIG s)
def yua:(Int×List Bool)->V×List (List V):=fun r=>(.tup [.int .i64 r.1,.tup [.own 1 (r.2.map V.bool)]],[])
def zor (v1:List Bool) (v2:Int):Option (Int×List Bool):=(zrj (v1,v2,0)).bind fun v18=>(some (v18.2.1,v18.1))
def zph (v1:List Bool) (v2:Int):Ctr:=⟨yoa,[.own 1 (v1.map V.bool),.I v2],[[.gone]],Int×List Bool,zor v1 v2,yua⟩
theorem ztz {v1:List Bool} {v2:Int}:(zph v1 v2).ok tab:=fun r hr=>zbc qg3 rfl (.lp (zw2 (v1,v2,0)) fun(v18:List Bool×Int×Int)=>.segA V.bool v18.1<|.lfA yua (v18.2.1,v18.1):Tree (Int×List Bool) _) (by kernel_rfl) (by kernel_rfl) (lP yik fun v18=>sA<|rfl) hr
def zp8 (s:List Th×Int×Int):St:=⟨sv 6 [(0,.own 8 (s.1.map Th.o)),(1,.I s.2.1),(4,.I s.2.2)],[]⟩
def zlq:(List Th×Int×Int)->Ex×St:=fun p=>((.exit 0),⟨sv 6 [(0,.own 8 (p.1.map Th.o)),(1,.I p.2.1),(4,.I p.2.2),(5,.bool false)],[]⟩)
def zzz:=zcj (zp8) (zlq)
def zkn (s:List Th×Int×Int):Option ((List Th×Int×Int)⊕((List Th×Int×Int))):=bif decide (s.2.2<(s.1.length:Int)) then(if 0<=s.2.2/\(s.2.2:Int)<(((s.1.map Th.o).length - 0:Nat):Int) then(((s.1)[s.2.2.toNat]?).bind fun v61=>(let v63:=s.1.set (s.2.2.toNat) ({ v61 with fk:=s.2.1 }:Th);(if 0<=s.2.2/\(s.2.2:Int)<(((v63.map Th.o).length - 0:Nat):Int) then(((v63)[s.2.2.toNat]?).bind fun v64=>(let v66:=v63.set (s.2.2.toNat) ({ v64 with fh:=(i64.wrap (s.2.1+1)) }:Th);(if 0<=s.2.2/\(s.2.2:Int)<(((v66.map Th.o).length - 0:Nat):Int) then(((v66)[s.2.2.toNat]?).bind fun v67=>(let v69:=v66.set (s.2.2.toNat) ({ v67 with fa:=({ v67.fa with ff:=(i64.wrap ((i64.wrap (s.2.1+1))+1)) }:Tk) }:Th);(if 0<=s.2.2/\(s.2.2:Int)<(((v69.map Th.o).length - 0:Nat):Int) then(((v69)[s.2.2.toNat]?).bind fun v70=>(let v72:=v69.set (s.2.2.toNat) ({ v70 with fa:=({ v70.fa with fe:=(i64.wrap ((i64.wrap ((i64.wrap (s.2.1+1))+1))+1)) }:Tk) }:Th);(if 0<=s.2.2/\(s.2.2:Int)<(((v72.map Th.o).length - 0:Nat):Int) then(((v72)[s.2.2.toNat]?).bind fun v73=>(let v75:=v72.set (s.2.2.toNat) ({ v73 with fa:=({ v73.fa with fN:=(i64.wrap ((i64.wrap ((i64.wrap ((i64.wrap (s.2.1+1))+1))+1))+1)) }:Tk) }:Th);(if 0<=s.2.2/\(s.2.2:Int)<(((v75.map Th.o).length - 0:Nat):Int) then(((v75)[s.2.2.toNat]?).bind fun v76=>((znw v76.fa.fc (i64.wrap ((i64.wrap ((i64.wrap ((i64.wrap ((i64.wrap (s.2.1+1))+1))+1))+1))+1))).bind fun v78=>((((v75)[s.2.2.toNat]?).map fun _=>()).bind fun _=>((((v75)[s.2.2.toNat]?).map fun _=>()).bind fun _=>(let v79:=v75.set (s.2.2.toNat) ({ v76 with fa:=({ v76.fa with fc:=v78.2 }:Tk) }:Th);(if 0<=s.2.2/\(s.2.2:Int)<(((v79.map Th.o).length - 0:Nat):Int) then(((v79)[s.2.2.toNat]?).bind fun v80=>((zor v80.fa.fd v78.1).bind fun v82=>((((v79)[s.2.2.toNat]?).map fun _=>()).bind fun _=>((((v79)[s.2.2.toNat]?).map fun _=>()).bind fun _=>(let v83:=v79.set (s.2.2.toNat) ({ v80 with fa:=({ v80.fa with fd:=v82.2 }:Tk) }:Th);(if 0<=s.2.2/\(s.2.2:Int)<(((v83.map Th.o).length - 0:Nat):Int) then(((v83)[s.2.2.toNat]?).bind fun v84=>(let v86:=v83.set (s.2.2.toNat) ({ v84 with fa:=({ v84.fa with fi:=v82.1 }:Tk) }:Th);(some (.inl (v86,(i64.wrap (v82.1+1)),(i64.wrap (s.2.2+1))))))) else none)))))) else none)))))) else none))) else none))) else none))) else none))) else none))) else none) else(some (.inr (s.1,s.2.1,s.2.2)))
def zq4 (s:List Th×Int×Int):Option ((List Th×Int×Int)):=zd1 (zkn) BIG s
def zwq (s:List Th×Int×Int):Lct:=⟨6,yfi,0,[2,3,5],some (zp8 s),List Th×Int×Int,zq4 s,zlq⟩
theorem yhs {s:List Th×Int×Int}:(zwq s).ok tab:=zbs (zc8 (J:=zp8) (o:=(zlq)) (B:=fun(s:List Th×Int×Int)=>(.lenB Th.o s.1<|.br (decide (s.2.2<(s.1.length:Int))) (.guard (0<=s.2.2/\(s.2.2:Int)<(((s.1.map Th.o).length - 0:Nat):Int)) inferInstance<|.lookB Th.o s.1 (s.2.2.toNat) fun v61=>.lkY Th.o s.1 (s.2.2.toNat) v61<|.lkY Th.o s.1 (s.2.2.toNat) v61<|.setN Th.o s.1 (s.2.2.toNat) ({ v61 with fk:=s.2.1 }:Th) fun v63=>.guard (0<=s.2.2/\(s.2.2:Int)<(((v63.map Th.o).length - 0:Nat):Int)) inferInstance<|.lookB Th.o v63 (s.2.2.toNat) fun v64=>.lkY Th.o v63 (s.2.2.toNat) v64<|.lkY Th.o v63 (s.2.2.toNat) v64<|.setN Th.o v63 (s.2.2.toNat) ({ v64 with fh:=(i64.wrap (s.2.1+1)) }:Th) fun v66=>.guard (0<=s.2.2/\(s.2.2:Int)<(((v66.map Th.o).length - 0:Nat):Int)) inferInstance<|.lookB Th.o v66 (s.2.2.toNat) fun v67=>.lkY Th.o v66 (s.2.2.toNat) v67<|.lkY Th.o v66 (s.2.2.toNat) v67<|.setN Th.o v66 (s.2.2.toNat) ({ v67 with fa:=({ v67.fa with ff:=(i64.wrap ((i64.wrap (s.2.1+1))+1)) }:Tk) }:Th) fun v69=>.guard (0<=s.2.2/\(s.2.2:Int)<(((v69.map Th.o).length - 0:Nat):Int)) inferInstance<|.lookB Th.o v69 (s.2.2.toNat) fun v70=>.lkY Th.o v69 (s.2.2.toNat) v70<|.lkY Th.o v69 (s.2.2.toNat) v70<|.setN Th.o v69 (s.2.2.toNat) ({ v70 with fa:=({ v70.fa with fe:=(i64.wrap ((i64.wrap ((i64.wrap (s.2.1+1))+1))+1)) }:Tk) }:Th) fun v72=>.guard (0<=s.2.2/\(s.2.2:Int)<(((v72.map Th.o).length - 0:Nat):Int)) inferInstance<|.lookB Th.o v72 (s.2.2.toNat) fun v73=>.lkY Th.o v72 (s.2.2.toNat) v73<|.lkY Th.o v72 (s.2.2.toNat) v73<|.setN Th.o v72 (s.2.2.toNat) ({ v73 with fa:=({ v73.fa with fN:=(i64.wrap ((i64.wrap ((i64.wrap ((i64.wrap (s.2.1+1))+1))+1))+1)) }:Tk) }:Th) fun v75=>.guard (0<=s.2.2/\(s.2.2:Int)<(((v75.map Th.o).length - 0:Nat):Int)) inferInstance<|.lookB Th.o v75 (s.2.2.toNat) fun v76=>.lkY Th.o v75 (s.2.2.toNat) v76<|.ob ((v76.fa.fc.map (V.int .i64)).length=List.length ((v76.fa.fc.map (V.int .i64))))<|.lkY Th.o v75 (s.2.2.toNat) v76<|.lkY Th.o v75 (s.2.2.toNat) v76<|.sk<|.call (zsc v76.fa.fc (i64.wrap ((i64.wrap ((i64.wrap ((i64.wrap ((i64.wrap (s.2.1+1))+1))+1))+1))+1))) fun(v78:Int×List Int)=>.holA Th.o v75 s.2.2.toNat (.agg [.int .i64 v76.fk,.int .i64 v76.fh,.int .i64 v76.fa.ff,.int .i64 v76.fa.fe,.int .i64 v76.fa.fN,.gone,.own 1 (v76.fa.fd.map V.bool),.int .i64 v76.fa.fi]) fun _=>.holA Th.o v75 s.2.2.toNat (.agg [.int .i64 v76.fk,.int .i64 v76.fh,.int .i64 v76.fa.ff,.int .i64 v76.fa.fe,.int .i64 v76.fa.fN,.gone,.own 1 (v76.fa.fd.map V.bool),.int .i64 v76.fa.fi]) fun _=>.setM Th.o v75 (s.2.2.toNat) (.agg [.int .i64 v76.fk,.int .i64 v76.fh,.int .i64 v76.fa.ff,.int .i64 v76.fa.fe,.int .i64 v76.fa.fN,.gone,.own 1 (v76.fa.fd.map V.bool),.int .i64 v76.fa.fi]) ({ v76 with fa:=({ v76.fa with fc:=v78.2 }:Tk) }:Th) fun v79=>.guard (0<=s.2.2/\(s.2.2:Int)<(((v79.map Th.o).length - 0:Nat):Int)) inferInstance<|.lookB Th.o v79 (s.2.2.toNat) fun v80=>.lkY Th.o v79 (s.2.2.toNat) v80<|.ob ((v80.fa.fd.map V.bool).length=List.length ((v80.fa.fd.map V.bool)))<|.lkY Th.o v79 (s.2.2.toNat) v80<|.lkY Th.o v79 (s.2.2.toNat) v80<|.sk<|.call (zph v80.fa.fd v78.1) fun(v82:Int×List Bool)=>.holA Th.o v79 s.2.2.toNat (.agg [.int .i64 v80.fk,.int .i64 v80.fh,.int .i64 v80.fa.ff,.int .i64 v80.fa.fe,.int .i64 v80.fa.fN,.own 1 (v80.fa.fc.map (V.int .i64)),.gone,.int .i64 v80.fa.fi]) fun _=>.holA Th.o v79 s.2.2.toNat (.agg [.int .i64 v80.fk,.int .i64 v80.fh,.int .i64 v80.fa.ff,.int .i64 v80.fa.fe,.int .i64 v80.fa.fN,.own 1 (v80.fa.fc.map (V.int .i64)),.gone,.int .i64 v80.fa.fi]) fun _=>.setM Th.o v79 (s.2.2.toNat) (.agg [.int .i64 v80.fk,.int .i64 v80.fh,.int .i64 v80.fa.ff,.int .i64 v80.fa.fe,.int .i64 v80.fa.fN,.own 1 (v80.fa.fc.map (V.int .i64)),.gone,.int .i64 v80.fa.fi]) ({ v80 with fa:=({ v80.fa with fd:=v82.2 }:Tk) }:Th) fun v83=>.guard (0<=s.2.2/\(s.2.2:Int)<(((v83.map Th.o).length - 0:Nat):Int)) inferInstance<|.lookB Th.o v83 (s.2.2.toNat) fun v84=>.lkY Th.o v83 (s.2.2.toNat) v84<|.lkY Th.o v83 (s.2.2.toNat) v84<|.setN Th.o v83 (s.2.2.toNat) ({ v84 with fa:=({ v84.fa with fi:=v82.1 }:Tk) }:Th) fun v86=>.lfA (zzz) (.inl (v86,(i64.wrap (v82.1+1)),(i64.wrap (s.2.2+1)))))<|.lfA (zzz) (.inr (s.1,s.2.1,s.2.2)):Tree ((List Th×Int×Int)⊕((List Th×Int×Int))) _)) (fun s=>by kernel_rfl) (fun s=>lB<|bR (gU<|⟨za1 _ _ _,fun v61 h62=>⟨za0 _ h62,⟨za0 _ h62,⟨za2 _ _ _ _,fun v63 _=>gU<|⟨za1 _ _ _,fun v64 h65=>⟨za0 _ h65,⟨za0 _ h65,⟨za2 _ _ _ _,fun v66 _=>gU<|⟨za1 _ _ _,fun v67 h68=>⟨za0 _ h68,⟨za0 _ h68,⟨za2 _ _ _ _,fun v69 _=>gU<|⟨za1 _ _ _,fun v70 h71=>⟨za0 _ h71,⟨za0 _ h71,⟨za2 _ _ _ _,fun v72 _=>gU<|⟨za1 _ _ _,fun v73 h74=>⟨za0 _ h74,⟨za0 _ h74,⟨za2 _ _ _ _,fun v75 _=>gU<|⟨za1 _ _ _,fun v76 h77=>⟨za0 _ h77,⟨rfl,⟨za0 _ h77,⟨za0 _ h77,cE zt9 fun v78=>⟨zab _ _ _ _,fun _ _=>⟨zab _ _ _ _,fun _ _=>⟨zax _ _ _ _ _,fun v79 _=>gU<|⟨za1 _ _ _,fun v80 h81=>⟨za0 _ h81,⟨rfl,⟨za0 _ h81,⟨za0 _ h81,cE ztz fun v82=>⟨zab _ _ _ _,fun _ _=>⟨zab _ _ _ _,fun _ _=>⟨zax _ _ _ _ _,fun v83 _=>gU<|⟨za1 _ _ _,fun v84 h85=>⟨za0 _ h85,⟨za0 _ h85,⟨za2 _ _ _ _,fun v86 _=>rfl⟩⟩⟩⟩⟩⟩⟩⟩⟩⟩⟩⟩⟩⟩⟩⟩⟩⟩⟩⟩⟩⟩⟩⟩⟩⟩⟩⟩⟩⟩⟩⟩⟩⟩⟩⟩⟩⟩⟩⟩)<|rfl) (fun _=>rfl) (by kernel_rfl) BIG s)
def ywi:(Int×List Th)->V×List (List V):=fun r=>(.tup [.int .i64 r.1,.tup [.own 8 (r.2.map Th.o)]],[])
def yk6 (v1:List Th) (v2:Int):Option (Int×List Th):=(zq4 (v1,v2,0)).bind fun v87=>(some (v87.2.1,v87.1))
def ysm (v1:List Th) (v2:Int):Ctr:=⟨ynm,[.own 8 (v1.map Th.o),.I v2],[[.gone]],Int×List Th,yk6 v1 v2,ywi⟩
theorem yui {v1:List Th} {v2:Int}:(ysm v1 v2).ok tab:=fun r hr=>zbc qgq rfl (.lp (zwq (v1,v2,0)) fun(v87:List Th×Int×Int)=>.segA Th.o v87.1<|.lfA ywi (v87.2.1,v87.1):Tree (Int×List Th) _) (by kernel_rfl) (by kernel_rfl) (lP yhs fun v87=>sA<|rfl) hr
def zro (s:List Tf×Int×Int):St:=⟨sv 6 [(0,.own 6 (s.1.map Tf.o)),(1,.I s.2.1),(4,.I s.2.2)],[]⟩
def zla:(List Tf×Int×Int)->Ex×St:=fun p=>((.exit 0),⟨sv 6 [(0,.own 6 (p.1.map Tf.o)),(1,.I p.2.1),(4,.I p.2.2),(5,.bool false)],[]⟩)
def ybg:=zcj (zro) (zla)
def zll (s:List Tf×Int×Int):Option ((List Tf×Int×Int)⊕((List Tf×Int×Int))):=bif decide (s.2.2<(s.1.length:Int)) then(if 0<=s.2.2/\(s.2.2:Int)<(((s.1.map Tf.o).length - 0:Nat):Int) then(((s.1)[s.2.2.toNat]?).bind fun v49=>(let v51:=s.1.set (s.2.2.toNat) ({ v49 with ff:=s.2.1 }:Tf);(if 0<=s.2.2/\(s.2.2:Int)<(((v51.map Tf.o).length - 0:Nat):Int) then(((v51)[s.2.2.toNat]?).bind fun v52=>(let v54:=v51.set (s.2.2.toNat) ({ v52 with fj:=(i64.wrap (s.2.1+1)) }:Tf);(if 0<=s.2.2/\(s.2.2:Int)<(((v54.map Tf.o).length - 0:Nat):Int) then(((v54)[s.2.2.toNat]?).bind fun v55=>(let v57:=v54.set (s.2.2.toNat) ({ v55 with fe:=(i64.wrap ((i64.wrap (s.2.1+1))+1)) }:Tf);(if 0<=s.2.2/\(s.2.2:Int)<(((v57.map Tf.o).length - 0:Nat):Int) then(((v57)[s.2.2.toNat]?).bind fun v58=>(let v60:=v57.set (s.2.2.toNat) ({ v58 with fN:=(i64.wrap ((i64.wrap ((i64.wrap (s.2.1+1))+1))+1)) }:Tf);(if 0<=s.2.2/\(s.2.2:Int)<(((v60.map Tf.o).length - 0:Nat):Int) then(((v60)[s.2.2.toNat]?).bind fun v61=>((znw v61.fc (i64.wrap ((i64.wrap ((i64.wrap ((i64.wrap (s.2.1+1))+1))+1))+1))).bind fun v63=>((((v60)[s.2.2.toNat]?).map fun _=>()).bind fun _=>((((v60)[s.2.2.toNat]?).map fun _=>()).bind fun _=>(let v64:=v60.set (s.2.2.toNat) ({ v61 with fc:=v63.2 }:Tf);(if 0<=s.2.2/\(s.2.2:Int)<(((v64.map Tf.o).length - 0:Nat):Int) then(((v64)[s.2.2.toNat]?).bind fun v65=>((zor v65.fd v63.1).bind fun v67=>((((v64)[s.2.2.toNat]?).map fun _=>()).bind fun _=>((((v64)[s.2.2.toNat]?).map fun _=>()).bind fun _=>(let v68:=v64.set (s.2.2.toNat) ({ v65 with fd:=v67.2 }:Tf);(some (.inl (v68,v67.1,(i64.wrap (s.2.2+1)))))))))) else none)))))) else none))) else none))) else none))) else none))) else none) else(some (.inr (s.1,s.2.1,s.2.2)))
def zpf (s:List Tf×Int×Int):Option ((List Tf×Int×Int)):=zd1 (zll) BIG s
def zwf (s:List Tf×Int×Int):Lct:=⟨6,yfk,0,[2,3,5],some (zro s),List Tf×Int×Int,zpf s,zla⟩
theorem ygz {s:List Tf×Int×Int}:(zwf s).ok tab:=zbs (zc8 (J:=zro) (o:=(zla)) (B:=fun(s:List Tf×Int×Int)=>(.lenB Tf.o s.1<|.br (decide (s.2.2<(s.1.length:Int))) (.guard (0<=s.2.2/\(s.2.2:Int)<(((s.1.map Tf.o).length - 0:Nat):Int)) inferInstance<|.lookB Tf.o s.1 (s.2.2.toNat) fun v49=>.lkY Tf.o s.1 (s.2.2.toNat) v49<|.lkY Tf.o s.1 (s.2.2.toNat) v49<|.setN Tf.o s.1 (s.2.2.toNat) ({ v49 with ff:=s.2.1 }:Tf) fun v51=>.guard (0<=s.2.2/\(s.2.2:Int)<(((v51.map Tf.o).length - 0:Nat):Int)) inferInstance<|.lookB Tf.o v51 (s.2.2.toNat) fun v52=>.lkY Tf.o v51 (s.2.2.toNat) v52<|.lkY Tf.o v51 (s.2.2.toNat) v52<|.setN Tf.o v51 (s.2.2.toNat) ({ v52 with fj:=(i64.wrap (s.2.1+1)) }:Tf) fun v54=>.guard (0<=s.2.2/\(s.2.2:Int)<(((v54.map Tf.o).length - 0:Nat):Int)) inferInstance<|.lookB Tf.o v54 (s.2.2.toNat) fun v55=>.lkY Tf.o v54 (s.2.2.toNat) v55<|.lkY Tf.o v54 (s.2.2.toNat) v55<|.setN Tf.o v54 (s.2.2.toNat) ({ v55 with fe:=(i64.wrap ((i64.wrap (s.2.1+1))+1)) }:Tf) fun v57=>.guard (0<=s.2.2/\(s.2.2:Int)<(((v57.map Tf.o).length - 0:Nat):Int)) inferInstance<|.lookB Tf.o v57 (s.2.2.toNat) fun v58=>.lkY Tf.o v57 (s.2.2.toNat) v58<|.lkY Tf.o v57 (s.2.2.toNat) v58<|.setN Tf.o v57 (s.2.2.toNat) ({ v58 with fN:=(i64.wrap ((i64.wrap ((i64.wrap (s.2.1+1))+1))+1)) }:Tf) fun v60=>.guard (0<=s.2.2/\(s.2.2:Int)<(((v60.map Tf.o).length - 0:Nat):Int)) inferInstance<|.lookB Tf.o v60 (s.2.2.toNat) fun v61=>.lkY Tf.o v60 (s.2.2.toNat) v61<|.ob ((v61.fc.map (V.int .i64)).length=List.length ((v61.fc.map (V.int .i64))))<|.lkY Tf.o v60 (s.2.2.toNat) v61<|.lkY Tf.o v60 (s.2.2.toNat) v61<|.sk<|.call (zsc v61.fc (i64.wrap ((i64.wrap ((i64.wrap ((i64.wrap (s.2.1+1))+1))+1))+1))) fun(v63:Int×List Int)=>.holA Tf.o v60 s.2.2.toNat (.agg [.int .i64 v61.ff,.int .i64 v61.fj,.int .i64 v61.fe,.int .i64 v61.fN,.gone,.own 1 (v61.fd.map V.bool)]) fun _=>.holA Tf.o v60 s.2.2.toNat (.agg [.int .i64 v61.ff,.int .i64 v61.fj,.int .i64 v61.fe,.int .i64 v61.fN,.gone,.own 1 (v61.fd.map V.bool)]) fun _=>.setM Tf.o v60 (s.2.2.toNat) (.agg [.int .i64 v61.ff,.int .i64 v61.fj,.int .i64 v61.fe,.int .i64 v61.fN,.gone,.own 1 (v61.fd.map V.bool)]) ({ v61 with fc:=v63.2 }:Tf) fun v64=>.guard (0<=s.2.2/\(s.2.2:Int)<(((v64.map Tf.o).length - 0:Nat):Int)) inferInstance<|.lookB Tf.o v64 (s.2.2.toNat) fun v65=>.lkY Tf.o v64 (s.2.2.toNat) v65<|.ob ((v65.fd.map V.bool).length=List.length ((v65.fd.map V.bool)))<|.lkY Tf.o v64 (s.2.2.toNat) v65<|.lkY Tf.o v64 (s.2.2.toNat) v65<|.sk<|.call (zph v65.fd v63.1) fun(v67:Int×List Bool)=>.holA Tf.o v64 s.2.2.toNat (.agg [.int .i64 v65.ff,.int .i64 v65.fj,.int .i64 v65.fe,.int .i64 v65.fN,.own 1 (v65.fc.map (V.int .i64)),.gone]) fun _=>.holA Tf.o v64 s.2.2.toNat (.agg [.int .i64 v65.ff,.int .i64 v65.fj,.int .i64 v65.fe,.int .i64 v65.fN,.own 1 (v65.fc.map (V.int .i64)),.gone]) fun _=>.setM Tf.o v64 (s.2.2.toNat) (.agg [.int .i64 v65.ff,.int .i64 v65.fj,.int .i64 v65.fe,.int .i64 v65.fN,.own 1 (v65.fc.map (V.int .i64)),.gone]) ({ v65 with fd:=v67.2 }:Tf) fun v68=>.lfA (ybg) (.inl (v68,v67.1,(i64.wrap (s.2.2+1)))))<|.lfA (ybg) (.inr (s.1,s.2.1,s.2.2)):Tree ((List Tf×Int×Int)⊕((List Tf×Int×Int))) _)) (fun s=>by kernel_rfl) (fun s=>lB<|bR (gU<|⟨za1 _ _ _,fun v49 h50=>⟨za0 _ h50,⟨za0 _ h50,⟨za2 _ _ _ _,fun v51 _=>gU<|⟨za1 _ _ _,fun v52 h53=>⟨za0 _ h53,⟨za0 _ h53,⟨za2 _ _ _ _,fun v54 _=>gU<|⟨za1 _ _ _,fun v55 h56=>⟨za0 _ h56,⟨za0 _ h56,⟨za2 _ _ _ _,fun v57 _=>gU<|⟨za1 _ _ _,fun v58 h59=>⟨za0 _ h59,⟨za0 _ h59,⟨za2 _ _ _ _,fun v60 _=>gU<|⟨za1 _ _ _,fun v61 h62=>⟨za0 _ h62,⟨rfl,⟨za0 _ h62,⟨za0 _ h62,cE zt9 fun v63=>⟨zab _ _ _ _,fun _ _=>⟨zab _ _ _ _,fun _ _=>⟨zax _ _ _ _ _,fun v64 _=>gU<|⟨za1 _ _ _,fun v65 h66=>⟨za0 _ h66,⟨rfl,⟨za0 _ h66,⟨za0 _ h66,cE ztz fun v67=>⟨zab _ _ _ _,fun _ _=>⟨zab _ _ _ _,fun _ _=>⟨zax _ _ _ _ _,fun v68 _=>rfl⟩⟩⟩⟩⟩⟩⟩⟩⟩⟩⟩⟩⟩⟩⟩⟩⟩⟩⟩⟩⟩⟩⟩⟩⟩⟩⟩⟩⟩⟩⟩⟩)<|rfl) (fun _=>rfl) (by kernel_rfl) BIG s)
def yue:(Int×List Tf)->V×List (List V):=fun r=>(.tup [.int .i64 r.1,.tup [.own 6 (r.2.map Tf.o)]],[])
def ykt (v1:List Tf) (v2:Int):Option (Int×List Tf):=(zpf (v1,v2,0)).bind fun v69=>(some (v69.2.1,v69.1))
def yq8 (v1:List Tf) (v2:Int):Ctr:=⟨ypn,[.own 6 (v1.map Tf.o),.I v2],[[.gone]],Int×List Tf,ykt v1 v2,yue⟩
theorem yum {v1:List Tf} {v2:Int}:(yq8 v1 v2).ok tab:=fun r hr=>zbc yyw rfl (.lp (zwf (v1,v2,0)) fun(v69:List Tf×Int×Int)=>.segA Tf.o v69.1<|.lfA yue (v69.2.1,v69.1):Tree (Int×List Tf) _) (by kernel_rfl) (by kernel_rfl) (lP ygz fun v69=>sA<|rfl) hr
def zt1 (s:List Tc×Int×Int):St:=⟨sv 6 [(0,.own 13 (s.1.map Tc.o)),(1,.I s.2.1),(4,.I s.2.2)],[]⟩
def zm5:(List Tc×Int×Int)->Ex×St:=fun p=>((.exit 0),⟨sv 6 [(0,.own 13 (p.1.map Tc.o)),(1,.I p.2.1),(4,.I p.2.2),(5,.bool false)],[]⟩)
def zz9:=zcj (zt1) (zm5)
def zn1 (s:List Tc×Int×Int):Option ((List Tc×Int×Int)⊕((List Tc×Int×Int))):=bif decide (s.2.2<(s.1.length:Int)) then(if 0<=s.2.2/\(s.2.2:Int)<(((s.1.map Tc.o).length - 0:Nat):Int) then(((s.1)[s.2.2.toNat]?).bind fun v97=>(let v99:=s.1.set (s.2.2.toNat) ({ v97 with fac:=s.2.1 }:Tc);(if 0<=s.2.2/\(s.2.2:Int)<(((v99.map Tc.o).length - 0:Nat):Int) then(((v99)[s.2.2.toNat]?).bind fun v100=>(let v102:=v99.set (s.2.2.toNat) ({ v100 with fae:=(i64.wrap (s.2.1+1)) }:Tc);(if 0<=s.2.2/\(s.2.2:Int)<(((v102.map Tc.o).length - 0:Nat):Int) then(((v102)[s.2.2.toNat]?).bind fun v103=>(let v105:=v102.set (s.2.2.toNat) ({ v103 with faf:=(i64.wrap ((i64.wrap (s.2.1+1))+1)) }:Tc);(if 0<=s.2.2/\(s.2.2:Int)<(((v105.map Tc.o).length - 0:Nat):Int) then(((v105)[s.2.2.toNat]?).bind fun v106=>(let v108:=v105.set (s.2.2.toNat) ({ v106 with fh:=(i64.wrap ((i64.wrap ((i64.wrap (s.2.1+1))+1))+1)) }:Tc);(if 0<=s.2.2/\(s.2.2:Int)<(((v108.map Tc.o).length - 0:Nat):Int) then(((v108)[s.2.2.toNat]?).bind fun v109=>(let v111:=v108.set (s.2.2.toNat) ({ v109 with fa:=({ v109.fa with ff:=(i64.wrap ((i64.wrap ((i64.wrap ((i64.wrap (s.2.1+1))+1))+1))+1)) }:Tk) }:Tc);(if 0<=s.2.2/\(s.2.2:Int)<(((v111.map Tc.o).length - 0:Nat):Int) then(((v111)[s.2.2.toNat]?).bind fun v112=>(let v114:=v111.set (s.2.2.toNat) ({ v112 with fa:=({ v112.fa with fe:=(i64.wrap ((i64.wrap ((i64.wrap ((i64.wrap ((i64.wrap (s.2.1+1))+1))+1))+1))+1)) }:Tk) }:Tc);(if 0<=s.2.2/\(s.2.2:Int)<(((v114.map Tc.o).length - 0:Nat):Int) then(((v114)[s.2.2.toNat]?).bind fun v115=>(let v117:=v114.set (s.2.2.toNat) ({ v115 with fa:=({ v115.fa with fN:=(i64.wrap ((i64.wrap ((i64.wrap ((i64.wrap ((i64.wrap ((i64.wrap (s.2.1+1))+1))+1))+1))+1))+1)) }:Tk) }:Tc);(if 0<=s.2.2/\(s.2.2:Int)<(((v117.map Tc.o).length - 0:Nat):Int) then(((v117)[s.2.2.toNat]?).bind fun v118=>((znw v118.fa.fc (i64.wrap ((i64.wrap ((i64.wrap ((i64.wrap ((i64.wrap ((i64.wrap ((i64.wrap (s.2.1+1))+1))+1))+1))+1))+1))+1))).bind fun v120=>((((v117)[s.2.2.toNat]?).map fun _=>()).bind fun _=>((((v117)[s.2.2.toNat]?).map fun _=>()).bind fun _=>(let v121:=v117.set (s.2.2.toNat) ({ v118 with fa:=({ v118.fa with fc:=v120.2 }:Tk) }:Tc);(if 0<=s.2.2/\(s.2.2:Int)<(((v121.map Tc.o).length - 0:Nat):Int) then(((v121)[s.2.2.toNat]?).bind fun v122=>((zor v122.fa.fd v120.1).bind fun v124=>((((v121)[s.2.2.toNat]?).map fun _=>()).bind fun _=>((((v121)[s.2.2.toNat]?).map fun _=>()).bind fun _=>(let v125:=v121.set (s.2.2.toNat) ({ v122 with fa:=({ v122.fa with fd:=v124.2 }:Tk) }:Tc);(if 0<=s.2.2/\(s.2.2:Int)<(((v125.map Tc.o).length - 0:Nat):Int) then(((v125)[s.2.2.toNat]?).bind fun v126=>(let v128:=v125.set (s.2.2.toNat) ({ v126 with fa:=({ v126.fa with fi:=v124.1 }:Tk) }:Tc);(if 0<=s.2.2/\(s.2.2:Int)<(((v128.map Tc.o).length - 0:Nat):Int) then(((v128)[s.2.2.toNat]?).bind fun v129=>((yk6 v129.ft (i64.wrap (v124.1+1))).bind fun v131=>((((v128)[s.2.2.toNat]?).map fun _=>()).bind fun _=>((((v128)[s.2.2.toNat]?).map fun _=>()).bind fun _=>(let v132:=v128.set (s.2.2.toNat) ({ v129 with ft:=v131.2 }:Tc);(if 0<=s.2.2/\(s.2.2:Int)<(((v132.map Tc.o).length - 0:Nat):Int) then(((v132)[s.2.2.toNat]?).bind fun v133=>((zor v133.fap v131.1).bind fun v135=>((((v132)[s.2.2.toNat]?).map fun _=>()).bind fun _=>((((v132)[s.2.2.toNat]?).map fun _=>()).bind fun _=>(let v136:=v132.set (s.2.2.toNat) ({ v133 with fap:=v135.2 }:Tc);(if 0<=s.2.2/\(s.2.2:Int)<(((v136.map Tc.o).length - 0:Nat):Int) then(((v136)[s.2.2.toNat]?).bind fun v137=>((ykt v137.fu v135.1).bind fun v139=>((((v136)[s.2.2.toNat]?).map fun _=>()).bind fun _=>((((v136)[s.2.2.toNat]?).map fun _=>()).bind fun _=>(let v140:=v136.set (s.2.2.toNat) ({ v137 with fu:=v139.2 }:Tc);(some (.inl (v140,v139.1,(i64.wrap (s.2.2+1)))))))))) else none)))))) else none)))))) else none))) else none)))))) else none)))))) else none))) else none))) else none))) else none))) else none))) else none))) else none))) else none) else(some (.inr (s.1,s.2.1,s.2.2)))
def zr9 (s:List Tc×Int×Int):Option ((List Tc×Int×Int)):=zd1 (zn1) BIG s
def zyy (s:List Tc×Int×Int):Lct:=⟨6,ye5,0,[2,3,5],some (zt1 s),List Tc×Int×Int,zr9 s,zm5⟩
theorem yh7 {s:List Tc×Int×Int}:(zyy s).ok tab:=zbs (zc8 (J:=zt1) (o:=(zm5)) (B:=fun(s:List Tc×Int×Int)=>(.lenB Tc.o s.1<|.br (decide (s.2.2<(s.1.length:Int))) (.guard (0<=s.2.2/\(s.2.2:Int)<(((s.1.map Tc.o).length - 0:Nat):Int)) inferInstance<|.lookB Tc.o s.1 (s.2.2.toNat) fun v97=>.lkY Tc.o s.1 (s.2.2.toNat) v97<|.lkY Tc.o s.1 (s.2.2.toNat) v97<|.setN Tc.o s.1 (s.2.2.toNat) ({ v97 with fac:=s.2.1 }:Tc) fun v99=>.guard (0<=s.2.2/\(s.2.2:Int)<(((v99.map Tc.o).length - 0:Nat):Int)) inferInstance<|.lookB Tc.o v99 (s.2.2.toNat) fun v100=>.lkY Tc.o v99 (s.2.2.toNat) v100<|.lkY Tc.o v99 (s.2.2.toNat) v100<|.setN Tc.o v99 (s.2.2.toNat) ({ v100 with fae:=(i64.wrap (s.2.1+1)) }:Tc) fun v102=>.guard (0<=s.2.2/\(s.2.2:Int)<(((v102.map Tc.o).length - 0:Nat):Int)) inferInstance<|.lookB Tc.o v102 (s.2.2.toNat) fun v103=>.lkY Tc.o v102 (s.2.2.toNat) v103<|.lkY Tc.o v102 (s.2.2.toNat) v103<|.setN Tc.o v102 (s.2.2.toNat) ({ v103 with faf:=(i64.wrap ((i64.wrap (s.2.1+1))+1)) }:Tc) fun v105=>.guard (0<=s.2.2/\(s.2.2:Int)<(((v105.map Tc.o).length - 0:Nat):Int)) inferInstance<|.lookB Tc.o v105 (s.2.2.toNat) fun v106=>.lkY Tc.o v105 (s.2.2.toNat) v106<|.lkY Tc.o v105 (s.2.2.toNat) v106<|.setN Tc.o v105 (s.2.2.toNat) ({ v106 with fh:=(i64.wrap ((i64.wrap ((i64.wrap (s.2.1+1))+1))+1)) }:Tc) fun v108=>.guard (0<=s.2.2/\(s.2.2:Int)<(((v108.map Tc.o).length - 0:Nat):Int)) inferInstance<|.lookB Tc.o v108 (s.2.2.toNat) fun v109=>.lkY Tc.o v108 (s.2.2.toNat) v109<|.lkY Tc.o v108 (s.2.2.toNat) v109<|.setN Tc.o v108 (s.2.2.toNat) ({ v109 with fa:=({ v109.fa with ff:=(i64.wrap ((i64.wrap ((i64.wrap ((i64.wrap (s.2.1+1))+1))+1))+1)) }:Tk) }:Tc) fun v111=>.guard (0<=s.2.2/\(s.2.2:Int)<(((v111.map Tc.o).length - 0:Nat):Int)) inferInstance<|.lookB Tc.o v111 (s.2.2.toNat) fun v112=>.lkY Tc.o v111 (s.2.2.toNat) v112<|.lkY Tc.o v111 (s.2.2.toNat) v112<|.setN Tc.o v111 (s.2.2.toNat) ({ v112 with fa:=({ v112.fa with fe:=(i64.wrap ((i64.wrap ((i64.wrap ((i64.wrap ((i64.wrap (s.2.1+1))+1))+1))+1))+1)) }:Tk) }:Tc) fun v114=>.guard (0<=s.2.2/\(s.2.2:Int)<(((v114.map Tc.o).length - 0:Nat):Int)) inferInstance<|.lookB Tc.o v114 (s.2.2.toNat) fun v115=>.lkY Tc.o v114 (s.2.2.toNat) v115<|.lkY Tc.o v114 (s.2.2.toNat) v115<|.setN Tc.o v114 (s.2.2.toNat) ({ v115 with fa:=({ v115.fa with fN:=(i64.wrap ((i64.wrap ((i64.wrap ((i64.wrap ((i64.wrap ((i64.wrap (s.2.1+1))+1))+1))+1))+1))+1)) }:Tk) }:Tc) fun v117=>.guard (0<=s.2.2/\(s.2.2:Int)<(((v117.map Tc.o).length - 0:Nat):Int)) inferInstance<|.lookB Tc.o v117 (s.2.2.toNat) fun v118=>.lkY Tc.o v117 (s.2.2.toNat) v118<|.ob ((v118.fa.fc.map (V.int .i64)).length=List.length ((v118.fa.fc.map (V.int .i64))))<|.lkY Tc.o v117 (s.2.2.toNat) v118<|.lkY Tc.o v117 (s.2.2.toNat) v118<|.sk<|.call (zsc v118.fa.fc (i64.wrap ((i64.wrap ((i64.wrap ((i64.wrap ((i64.wrap ((i64.wrap ((i64.wrap (s.2.1+1))+1))+1))+1))+1))+1))+1))) fun(v120:Int×List Int)=>.holA Tc.o v117 s.2.2.toNat (.agg [.int .i64 v118.fac,.int .i64 v118.fae,.int .i64 v118.faf,.int .i64 v118.fh,.int .i64 v118.fa.ff,.int .i64 v118.fa.fe,.int .i64 v118.fa.fN,.gone,.own 1 (v118.fa.fd.map V.bool),.int .i64 v118.fa.fi,.own 8 (v118.ft.map Th.o),.own 1 (v118.fap.map V.bool),.own 6 (v118.fu.map Tf.o)]) fun _=>.holA Tc.o v117 s.2.2.toNat (.agg [.int .i64 v118.fac,.int .i64 v118.fae,.int .i64 v118.faf,.int .i64 v118.fh,.int .i64 v118.fa.ff,.int .i64 v118.fa.fe,.int .i64 v118.fa.fN,.gone,.own 1 (v118.fa.fd.map V.bool),.int .i64 v118.fa.fi,.own 8 (v118.ft.map Th.o),.own 1 (v118.fap.map V.bool),.own 6 (v118.fu.map Tf.o)]) fun _=>.setM Tc.o v117 (s.2.2.toNat) (.agg [.int .i64 v118.fac,.int .i64 v118.fae,.int .i64 v118.faf,.int .i64 v118.fh,.int .i64 v118.fa.ff,.int .i64 v118.fa.fe,.int .i64 v118.fa.fN,.gone,.own 1 (v118.fa.fd.map V.bool),.int .i64 v118.fa.fi,.own 8 (v118.ft.map Th.o),.own 1 (v118.fap.map V.bool),.own 6 (v118.fu.map Tf.o)]) ({ v118 with fa:=({ v118.fa with fc:=v120.2 }:Tk) }:Tc) fun v121=>.guard (0<=s.2.2/\(s.2.2:Int)<(((v121.map Tc.o).length - 0:Nat):Int)) inferInstance<|.lookB Tc.o v121 (s.2.2.toNat) fun v122=>.lkY Tc.o v121 (s.2.2.toNat) v122<|.ob ((v122.fa.fd.map V.bool).length=List.length ((v122.fa.fd.map V.bool)))<|.lkY Tc.o v121 (s.2.2.toNat) v122<|.lkY Tc.o v121 (s.2.2.toNat) v122<|.sk<|.call (zph v122.fa.fd v120.1) fun(v124:Int×List Bool)=>.holA Tc.o v121 s.2.2.toNat (.agg [.int .i64 v122.fac,.int .i64 v122.fae,.int .i64 v122.faf,.int .i64 v122.fh,.int .i64 v122.fa.ff,.int .i64 v122.fa.fe,.int .i64 v122.fa.fN,.own 1 (v122.fa.fc.map (V.int .i64)),.gone,.int .i64 v122.fa.fi,.own 8 (v122.ft.map Th.o),.own 1 (v122.fap.map V.bool),.own 6 (v122.fu.map Tf.o)]) fun _=>.holA Tc.o v121 s.2.2.toNat (.agg [.int .i64 v122.fac,.int .i64 v122.fae,.int .i64 v122.faf,.int .i64 v122.fh,.int .i64 v122.fa.ff,.int .i64 v122.fa.fe,.int .i64 v122.fa.fN,.own 1 (v122.fa.fc.map (V.int .i64)),.gone,.int .i64 v122.fa.fi,.own 8 (v122.ft.map Th.o),.own 1 (v122.fap.map V.bool),.own 6 (v122.fu.map Tf.o)]) fun _=>.setM Tc.o v121 (s.2.2.toNat) (.agg [.int .i64 v122.fac,.int .i64 v122.fae,.int .i64 v122.faf,.int .i64 v122.fh,.int .i64 v122.fa.ff,.int .i64 v122.fa.fe,.int .i64 v122.fa.fN,.own 1 (v122.fa.fc.map (V.int .i64)),.gone,.int .i64 v122.fa.fi,.own 8 (v122.ft.map Th.o),.own 1 (v122.fap.map V.bool),.own 6 (v122.fu.map Tf.o)]) ({ v122 with fa:=({ v122.fa with fd:=v124.2 }:Tk) }:Tc) fun v125=>.guard (0<=s.2.2/\(s.2.2:Int)<(((v125.map Tc.o).length - 0:Nat):Int)) inferInstance<|.lookB Tc.o v125 (s.2.2.toNat) fun v126=>.lkY Tc.o v125 (s.2.2.toNat) v126<|.lkY Tc.o v125 (s.2.2.toNat) v126<|.setN Tc.o v125 (s.2.2.toNat) ({ v126 with fa:=({ v126.fa with fi:=v124.1 }:Tk) }:Tc) fun v128=>.guard (0<=s.2.2/\(s.2.2:Int)<(((v128.map Tc.o).length - 0:Nat):Int)) inferInstance<|.lookB Tc.o v128 (s.2.2.toNat) fun v129=>.lkY Tc.o v128 (s.2.2.toNat) v129<|.ob ((v129.ft.map Th.o).length=List.length ((v129.ft.map Th.o)))<|.lkY Tc.o v128 (s.2.2.toNat) v129<|.lkY Tc.o v128 (s.2.2.toNat) v129<|.sk<|.call (ysm v129.ft (i64.wrap (v124.1+1))) fun(v131:Int×List Th)=>.holA Tc.o v128 s.2.2.toNat (.agg [.int .i64 v129.fac,.int .i64 v129.fae,.int .i64 v129.faf,.int .i64 v129.fh,.int .i64 v129.fa.ff,.int .i64 v129.fa.fe,.int .i64 v129.fa.fN,.own 1 (v129.fa.fc.map (V.int .i64)),.own 1 (v129.fa.fd.map V.bool),.int .i64 v129.fa.fi,.gone,.own 1 (v129.fap.map V.bool),.own 6 (v129.fu.map Tf.o)]) fun _=>.holA Tc.o v128 s.2.2.toNat (.agg [.int .i64 v129.fac,.int .i64 v129.fae,.int .i64 v129.faf,.int .i64 v129.fh,.int .i64 v129.fa.ff,.int .i64 v129.fa.fe,.int .i64 v129.fa.fN,.own 1 (v129.fa.fc.map (V.int .i64)),.own 1 (v129.fa.fd.map V.bool),.int .i64 v129.fa.fi,.gone,.own 1 (v129.fap.map V.bool),.own 6 (v129.fu.map Tf.o)]) fun _=>.setM Tc.o v128 (s.2.2.toNat) (.agg [.int .i64 v129.fac,.int .i64 v129.fae,.int .i64 v129.faf,.int .i64 v129.fh,.int .i64 v129.fa.ff,.int .i64 v129.fa.fe,.int .i64 v129.fa.fN,.own 1 (v129.fa.fc.map (V.int .i64)),.own 1 (v129.fa.fd.map V.bool),.int .i64 v129.fa.fi,.gone,.own 1 (v129.fap.map V.bool),.own 6 (v129.fu.map Tf.o)]) ({ v129 with ft:=v131.2 }:Tc) fun v132=>.guard (0<=s.2.2/\(s.2.2:Int)<(((v132.map Tc.o).length - 0:Nat):Int)) inferInstance<|.lookB Tc.o v132 (s.2.2.toNat) fun v133=>.lkY Tc.o v132 (s.2.2.toNat) v133<|.ob ((v133.fap.map V.bool).length=List.length ((v133.fap.map V.bool)))<|.lkY Tc.o v132 (s.2.2.toNat) v133<|.lkY Tc.o v132 (s.2.2.toNat) v133<|.sk<|.call (zph v133.fap v131.1) fun(v135:Int×List Bool)=>.holA Tc.o v132 s.2.2.toNat (.agg [.int .i64 v133.fac,.int .i64 v133.fae,.int .i64 v133.faf,.int .i64 v133.fh,.int .i64 v133.fa.ff,.int .i64 v133.fa.fe,.int .i64 v133.fa.fN,.own 1 (v133.fa.fc.map (V.int .i64)),.own 1 (v133.fa.fd.map V.bool),.int .i64 v133.fa.fi,.own 8 (v133.ft.map Th.o),.gone,.own 6 (v133.fu.map Tf.o)]) fun _=>.holA Tc.o v132 s.2.2.toNat (.agg [.int .i64 v133.fac,.int .i64 v133.fae,.int .i64 v133.faf,.int .i64 v133.fh,.int .i64 v133.fa.ff,.int .i64 v133.fa.fe,.int .i64 v133.fa.fN,.own 1 (v133.fa.fc.map (V.int .i64)),.own 1 (v133.fa.fd.map V.bool),.int .i64 v133.fa.fi,.own 8 (v133.ft.map Th.o),.gone,.own 6 (v133.fu.map Tf.o)]) fun _=>.setM Tc.o v132 (s.2.2.toNat) (.agg [.int .i64 v133.fac,.int .i64 v133.fae,.int .i64 v133.faf,.int .i64 v133.fh,.int .i64 v133.fa.ff,.int .i64 v133.fa.fe,.int .i64 v133.fa.fN,.own 1 (v133.fa.fc.map (V.int .i64)),.own 1 (v133.fa.fd.map V.bool),.int .i64 v133.fa.fi,.own 8 (v133.ft.map Th.o),.gone,.own 6 (v133.fu.map Tf.o)]) ({ v133 with fap:=v135.2 }:Tc) fun v136=>.guard (0<=s.2.2/\(s.2.2:Int)<(((v136.map Tc.o).length - 0:Nat):Int)) inferInstance<|.lookB Tc.o v136 (s.2.2.toNat) fun v137=>.lkY Tc.o v136 (s.2.2.toNat) v137<|.ob ((v137.fu.map Tf.o).length=List.length ((v137.fu.map Tf.o)))<|.lkY Tc.o v136 (s.2.2.toNat) v137<|.lkY Tc.o v136 (s.2.2.toNat) v137<|.sk<|.call (yq8 v137.fu v135.1) fun(v139:Int×List Tf)=>.holA Tc.o v136 s.2.2.toNat (.agg [.int .i64 v137.fac,.int .i64 v137.fae,.int .i64 v137.faf,.int .i64 v137.fh,.int .i64 v137.fa.ff,.int .i64 v137.fa.fe,.int .i64 v137.fa.fN,.own 1 (v137.fa.fc.map (V.int .i64)),.own 1 (v137.fa.fd.map V.bool),.int .i64 v137.fa.fi,.own 8 (v137.ft.map Th.o),.own 1 (v137.fap.map V.bool),.gone]) fun _=>.holA Tc.o v136 s.2.2.toNat (.agg [.int .i64 v137.fac,.int .i64 v137.fae,.int .i64 v137.faf,.int .i64 v137.fh,.int .i64 v137.fa.ff,.int .i64 v137.fa.fe,.int .i64 v137.fa.fN,.own 1 (v137.fa.fc.map (V.int .i64)),.own 1 (v137.fa.fd.map V.bool),.int .i64 v137.fa.fi,.own 8 (v137.ft.map Th.o),.own 1 (v137.fap.map V.bool),.gone]) fun _=>.setM Tc.o v136 (s.2.2.toNat) (.agg [.int .i64 v137.fac,.int .i64 v137.fae,.int .i64 v137.faf,.int .i64 v137.fh,.int .i64 v137.fa.ff,.int .i64 v137.fa.fe,.int .i64 v137.fa.fN,.own 1 (v137.fa.fc.map (V.int .i64)),.own 1 (v137.fa.fd.map V.bool),.int .i64 v137.fa.fi,.own 8 (v137.ft.map Th.o),.own 1 (v137.fap.map V.bool),.gone]) ({ v137 with fu:=v139.2 }:Tc) fun v140=>.lfA (zz9) (.inl (v140,v139.1,(i64.wrap (s.2.2+1)))))<|.lfA (zz9) (.inr (s.1,s.2.1,s.2.2)):Tree ((List Tc×Int×Int)⊕((List Tc×Int×Int))) _)) (fun s=>by kernel_rfl) (fun s=>lB<|bR (gU<|⟨za1 _ _ _,fun v97 h98=>⟨za0 _ h98,⟨za0 _ h98,⟨za2 _ _ _ _,fun v99 _=>gU<|⟨za1 _ _ _,fun v100 h101=>⟨za0 _ h101,⟨za0 _ h101,⟨za2 _ _ _ _,fun v102 _=>gU<|⟨za1 _ _ _,fun v103 h104=>⟨za0 _ h104,⟨za0 _ h104,⟨za2 _ _ _ _,fun v105 _=>gU<|⟨za1 _ _ _,fun v106 h107=>⟨za0 _ h107,⟨za0 _ h107,⟨za2 _ _ _ _,fun v108 _=>gU<|⟨za1 _ _ _,fun v109 h110=>⟨za0 _ h110,⟨za0 _ h110,⟨za2 _ _ _ _,fun v111 _=>gU<|⟨za1 _ _ _,fun v112 h113=>⟨za0 _ h113,⟨za0 _ h113,⟨za2 _ _ _ _,fun v114 _=>gU<|⟨za1 _ _ _,fun v115 h116=>⟨za0 _ h116,⟨za0 _ h116,⟨za2 _ _ _ _,fun v117 _=>gU<|⟨za1 _ _ _,fun v118 h119=>⟨za0 _ h119,⟨rfl,⟨za0 _ h119,⟨za0 _ h119,cE zt9 fun v120=>⟨zab _ _ _ _,fun _ _=>⟨zab _ _ _ _,fun _ _=>⟨zax _ _ _ _ _,fun v121 _=>gU<|⟨za1 _ _ _,fun v122 h123=>⟨za0 _ h123,⟨rfl,⟨za0 _ h123,⟨za0 _ h123,cE ztz fun v124=>⟨zab _ _ _ _,fun _ _=>⟨zab _ _ _ _,fun _ _=>⟨zax _ _ _ _ _,fun v125 _=>gU<|⟨za1 _ _ _,fun v126 h127=>⟨za0 _ h127,⟨za0 _ h127,⟨za2 _ _ _ _,fun v128 _=>gU<|⟨za1 _ _ _,fun v129 h130=>⟨za0 _ h130,⟨rfl,⟨za0 _ h130,⟨za0 _ h130,cE yui fun v131=>⟨zab _ _ _ _,fun _ _=>⟨zab _ _ _ _,fun _ _=>⟨zax _ _ _ _ _,fun v132 _=>gU<|⟨za1 _ _ _,fun v133 h134=>⟨za0 _ h134,⟨rfl,⟨za0 _ h134,⟨za0 _ h134,cE ztz fun v135=>⟨zab _ _ _ _,fun _ _=>⟨zab _ _ _ _,fun _ _=>⟨zax _ _ _ _ _,fun v136 _=>gU<|⟨za1 _ _ _,fun v137 h138=>⟨za0 _ h138,⟨rfl,⟨za0 _ h138,⟨za0 _ h138,cE yum fun v139=>⟨zab _ _ _ _,fun _ _=>⟨zab _ _ _ _,fun _ _=>⟨zax _ _ _ _ _,fun v140 _=>rfl⟩⟩⟩⟩⟩⟩⟩⟩⟩⟩⟩⟩⟩⟩⟩⟩⟩⟩⟩⟩⟩⟩⟩⟩⟩⟩⟩⟩⟩⟩⟩⟩⟩⟩⟩⟩⟩⟩⟩⟩⟩⟩⟩⟩⟩⟩⟩⟩⟩⟩⟩⟩⟩⟩⟩⟩⟩⟩⟩⟩⟩⟩⟩⟩⟩⟩⟩⟩⟩⟩⟩⟩)<|rfl) (fun _=>rfl) (by kernel_rfl) BIG s)
def yus:(Int×List Tc)->V×List (List V):=fun r=>(.tup [.int .i64 r.1,.tup [.own 13 (r.2.map Tc.o)]],[])
def yna (v1:List Tc) (v2:Int):Option (Int×List Tc):=(zr9 (v1,v2,0)).bind fun v141=>(some (v141.2.1,v141.1))
def yuo (v1:List Tc) (v2:Int):Ctr:=⟨ynq,[.own 13 (v1.map Tc.o),.I v2],[[.gone]],Int×List Tc,yna v1 v2,yus⟩
theorem qa0 {v1:List Tc} {v2:Int}:(yuo v1 v2).ok tab:=fun r hr=>zbc qgt rfl (.lp (zyy (v1,v2,0)) fun(v141:List Tc×Int×Int)=>.segA Tc.o v141.1<|.lfA yus (v141.2.1,v141.1):Tree (Int×List Tc) _) (by kernel_rfl) (by kernel_rfl) (lP yh7 fun v141=>sA<|rfl) hr
def ywm:(Int×Tp)->V×List (List V):=fun r=>(.tup [.int .i64 r.1,.tup [.agg [.int .i64 r.2.fad,.own 13 (r.2.fr.map Tc.o)]]],[])
def ysu (v1:Tp) (v2:Int):Option (Int×Tp):=(yna v1.fr v2).bind fun v3=>(if ((v1.fr.map Tc.o).length)<=(v3.2.map Tc.o).length then(some (v3.1,(⟨v1.fad,((v3.2.take ((v1.fr.map Tc.o).length)).drop (0))⟩:Tp))) else none)
def yvz (v1:Tp) (v2:Int):Ctr:=⟨yp3,[.agg [.I v1.fad,.own 13 (v1.fr.map Tc.o)],.I v2],[[.gone]],Int×Tp,ysu v1 v2,ywm⟩
theorem qbl {v1:Tp} {v2:Int}:(yvz v1 v2).ok tab:=fun r hr=>zbc yx6 rfl (.segA Tc.o v1.fr<|.ob ((v1.fr.map Tc.o).length=List.length ((v1.fr.map Tc.o)))<|.call (yuo v1.fr v2) fun(v3:Int×List Tc)=>.segB Tc.o v3.2 (0) ((v1.fr.map Tc.o).length)<|.lfA ywm (v3.1,(⟨v1.fad,((v3.2.take ((v1.fr.map Tc.o).length)).drop (0))⟩:Tp)):Tree (Int×Tp) _) (by kernel_rfl) (by kernel_rfl) (sA<|⟨rfl,cE qa0 fun v3=>fun h4=>⟨zcz _ _ _ h4,rfl⟩⟩) hr
def zp4 (s:List Tg×Int×Int):St:=⟨sv 6 [(0,.own 9 (s.1.map Tg.o)),(1,.I s.2.1),(4,.I s.2.2)],[]⟩
def zmb:(List Tg×Int×Int)->Ex×St:=fun p=>((.exit 0),⟨sv 6 [(0,.own 9 (p.1.map Tg.o)),(1,.I p.2.1),(4,.I p.2.2),(5,.bool false)],[]⟩)
def zyi:=zcj (zp4) (zmb)
def zm0 (s:List Tg×Int×Int):Option ((List Tg×Int×Int)⊕((List Tg×Int×Int))):=bif decide (s.2.2<(s.1.length:Int)) then(if 0<=s.2.2/\(s.2.2:Int)<(((s.1.map Tg.o).length - 0:Nat):Int) then(((s.1)[s.2.2.toNat]?).bind fun v67=>(let v69:=s.1.set (s.2.2.toNat) ({ v67 with fac:=s.2.1 }:Tg);(if 0<=s.2.2/\(s.2.2:Int)<(((v69.map Tg.o).length - 0:Nat):Int) then(((v69)[s.2.2.toNat]?).bind fun v70=>(let v72:=v69.set (s.2.2.toNat) ({ v70 with fao:=(i64.wrap (s.2.1+1)) }:Tg);(if 0<=s.2.2/\(s.2.2:Int)<(((v72.map Tg.o).length - 0:Nat):Int) then(((v72)[s.2.2.toNat]?).bind fun v73=>(let v75:=v72.set (s.2.2.toNat) ({ v73 with fh:=(i64.wrap ((i64.wrap (s.2.1+1))+1)) }:Tg);(if 0<=s.2.2/\(s.2.2:Int)<(((v75.map Tg.o).length - 0:Nat):Int) then(((v75)[s.2.2.toNat]?).bind fun v76=>(let v78:=v75.set (s.2.2.toNat) ({ v76 with fa:=({ v76.fa with ff:=(i64.wrap ((i64.wrap ((i64.wrap (s.2.1+1))+1))+1)) }:Tk) }:Tg);(if 0<=s.2.2/\(s.2.2:Int)<(((v78.map Tg.o).length - 0:Nat):Int) then(((v78)[s.2.2.toNat]?).bind fun v79=>(let v81:=v78.set (s.2.2.toNat) ({ v79 with fa:=({ v79.fa with fe:=(i64.wrap ((i64.wrap ((i64.wrap ((i64.wrap (s.2.1+1))+1))+1))+1)) }:Tk) }:Tg);(if 0<=s.2.2/\(s.2.2:Int)<(((v81.map Tg.o).length - 0:Nat):Int) then(((v81)[s.2.2.toNat]?).bind fun v82=>(let v84:=v81.set (s.2.2.toNat) ({ v82 with fa:=({ v82.fa with fN:=(i64.wrap ((i64.wrap ((i64.wrap ((i64.wrap ((i64.wrap (s.2.1+1))+1))+1))+1))+1)) }:Tk) }:Tg);(if 0<=s.2.2/\(s.2.2:Int)<(((v84.map Tg.o).length - 0:Nat):Int) then(((v84)[s.2.2.toNat]?).bind fun v85=>((znw v85.fa.fc (i64.wrap ((i64.wrap ((i64.wrap ((i64.wrap ((i64.wrap ((i64.wrap (s.2.1+1))+1))+1))+1))+1))+1))).bind fun v87=>((((v84)[s.2.2.toNat]?).map fun _=>()).bind fun _=>((((v84)[s.2.2.toNat]?).map fun _=>()).bind fun _=>(let v88:=v84.set (s.2.2.toNat) ({ v85 with fa:=({ v85.fa with fc:=v87.2 }:Tk) }:Tg);(if 0<=s.2.2/\(s.2.2:Int)<(((v88.map Tg.o).length - 0:Nat):Int) then(((v88)[s.2.2.toNat]?).bind fun v89=>((zor v89.fa.fd v87.1).bind fun v91=>((((v88)[s.2.2.toNat]?).map fun _=>()).bind fun _=>((((v88)[s.2.2.toNat]?).map fun _=>()).bind fun _=>(let v92:=v88.set (s.2.2.toNat) ({ v89 with fa:=({ v89.fa with fd:=v91.2 }:Tk) }:Tg);(if 0<=s.2.2/\(s.2.2:Int)<(((v92.map Tg.o).length - 0:Nat):Int) then(((v92)[s.2.2.toNat]?).bind fun v93=>(let v95:=v92.set (s.2.2.toNat) ({ v93 with fa:=({ v93.fa with fi:=v91.1 }:Tk) }:Tg);(some (.inl (v95,(i64.wrap (v91.1+1)),(i64.wrap (s.2.2+1))))))) else none)))))) else none)))))) else none))) else none))) else none))) else none))) else none))) else none))) else none) else(some (.inr (s.1,s.2.1,s.2.2)))
def zqa (s:List Tg×Int×Int):Option ((List Tg×Int×Int)):=zd1 (zm0) BIG s
def zxf (s:List Tg×Int×Int):Lct:=⟨6,yer,0,[2,3,5],some (zp4 s),List Tg×Int×Int,zqa s,zmb⟩
theorem yhv {s:List Tg×Int×Int}:(zxf s).ok tab:=zbs (zc8 (J:=zp4) (o:=(zmb)) (B:=fun(s:List Tg×Int×Int)=>(.lenB Tg.o s.1<|.br (decide (s.2.2<(s.1.length:Int))) (.guard (0<=s.2.2/\(s.2.2:Int)<(((s.1.map Tg.o).length - 0:Nat):Int)) inferInstance<|.lookB Tg.o s.1 (s.2.2.toNat) fun v67=>.lkY Tg.o s.1 (s.2.2.toNat) v67<|.lkY Tg.o s.1 (s.2.2.toNat) v67<|.setN Tg.o s.1 (s.2.2.toNat) ({ v67 with fac:=s.2.1 }:Tg) fun v69=>.guard (0<=s.2.2/\(s.2.2:Int)<(((v69.map Tg.o).length - 0:Nat):Int)) inferInstance<|.lookB Tg.o v69 (s.2.2.toNat) fun v70=>.lkY Tg.o v69 (s.2.2.toNat) v70<|.lkY Tg.o v69 (s.2.2.toNat) v70<|.setN Tg.o v69 (s.2.2.toNat) ({ v70 with fao:=(i64.wrap (s.2.1+1)) }:Tg) fun v72=>.guard (0<=s.2.2/\(s.2.2:Int)<(((v72.map Tg.o).length - 0:Nat):Int)) inferInstance<|.lookB Tg.o v72 (s.2.2.toNat) fun v73=>.lkY Tg.o v72 (s.2.2.toNat) v73<|.lkY Tg.o v72 (s.2.2.toNat) v73<|.setN Tg.o v72 (s.2.2.toNat) ({ v73 with fh:=(i64.wrap ((i64.wrap (s.2.1+1))+1)) }:Tg) fun v75=>.guard (0<=s.2.2/\(s.2.2:Int)<(((v75.map Tg.o).length - 0:Nat):Int)) inferInstance<|.lookB Tg.o v75 (s.2.2.toNat) fun v76=>.lkY Tg.o v75 (s.2.2.toNat) v76<|.lkY Tg.o v75 (s.2.2.toNat) v76<|.setN Tg.o v75 (s.2.2.toNat) ({ v76 with fa:=({ v76.fa with ff:=(i64.wrap ((i64.wrap ((i64.wrap (s.2.1+1))+1))+1)) }:Tk) }:Tg) fun v78=>.guard (0<=s.2.2/\(s.2.2:Int)<(((v78.map Tg.o).length - 0:Nat):Int)) inferInstance<|.lookB Tg.o v78 (s.2.2.toNat) fun v79=>.lkY Tg.o v78 (s.2.2.toNat) v79<|.lkY Tg.o v78 (s.2.2.toNat) v79<|.setN Tg.o v78 (s.2.2.toNat) ({ v79 with fa:=({ v79.fa with fe:=(i64.wrap ((i64.wrap ((i64.wrap ((i64.wrap (s.2.1+1))+1))+1))+1)) }:Tk) }:Tg) fun v81=>.guard (0<=s.2.2/\(s.2.2:Int)<(((v81.map Tg.o).length - 0:Nat):Int)) inferInstance<|.lookB Tg.o v81 (s.2.2.toNat) fun v82=>.lkY Tg.o v81 (s.2.2.toNat) v82<|.lkY Tg.o v81 (s.2.2.toNat) v82<|.setN Tg.o v81 (s.2.2.toNat) ({ v82 with fa:=({ v82.fa with fN:=(i64.wrap ((i64.wrap ((i64.wrap ((i64.wrap ((i64.wrap (s.2.1+1))+1))+1))+1))+1)) }:Tk) }:Tg) fun v84=>.guard (0<=s.2.2/\(s.2.2:Int)<(((v84.map Tg.o).length - 0:Nat):Int)) inferInstance<|.lookB Tg.o v84 (s.2.2.toNat) fun v85=>.lkY Tg.o v84 (s.2.2.toNat) v85<|.ob ((v85.fa.fc.map (V.int .i64)).length=List.length ((v85.fa.fc.map (V.int .i64))))<|.lkY Tg.o v84 (s.2.2.toNat) v85<|.lkY Tg.o v84 (s.2.2.toNat) v85<|.sk<|.call (zsc v85.fa.fc (i64.wrap ((i64.wrap ((i64.wrap ((i64.wrap ((i64.wrap ((i64.wrap (s.2.1+1))+1))+1))+1))+1))+1))) fun(v87:Int×List Int)=>.holA Tg.o v84 s.2.2.toNat (.agg [.int .i64 v85.fac,.int .i64 v85.fao,.int .i64 v85.fh,.int .i64 v85.fa.ff,.int .i64 v85.fa.fe,.int .i64 v85.fa.fN,.gone,.own 1 (v85.fa.fd.map V.bool),.int .i64 v85.fa.fi]) fun _=>.holA Tg.o v84 s.2.2.toNat (.agg [.int .i64 v85.fac,.int .i64 v85.fao,.int .i64 v85.fh,.int .i64 v85.fa.ff,.int .i64 v85.fa.fe,.int .i64 v85.fa.fN,.gone,.own 1 (v85.fa.fd.map V.bool),.int .i64 v85.fa.fi]) fun _=>.setM Tg.o v84 (s.2.2.toNat) (.agg [.int .i64 v85.fac,.int .i64 v85.fao,.int .i64 v85.fh,.int .i64 v85.fa.ff,.int .i64 v85.fa.fe,.int .i64 v85.fa.fN,.gone,.own 1 (v85.fa.fd.map V.bool),.int .i64 v85.fa.fi]) ({ v85 with fa:=({ v85.fa with fc:=v87.2 }:Tk) }:Tg) fun v88=>.guard (0<=s.2.2/\(s.2.2:Int)<(((v88.map Tg.o).length - 0:Nat):Int)) inferInstance<|.lookB Tg.o v88 (s.2.2.toNat) fun v89=>.lkY Tg.o v88 (s.2.2.toNat) v89<|.ob ((v89.fa.fd.map V.bool).length=List.length ((v89.fa.fd.map V.bool)))<|.lkY Tg.o v88 (s.2.2.toNat) v89<|.lkY Tg.o v88 (s.2.2.toNat) v89<|.sk<|.call (zph v89.fa.fd v87.1) fun(v91:Int×List Bool)=>.holA Tg.o v88 s.2.2.toNat (.agg [.int .i64 v89.fac,.int .i64 v89.fao,.int .i64 v89.fh,.int .i64 v89.fa.ff,.int .i64 v89.fa.fe,.int .i64 v89.fa.fN,.own 1 (v89.fa.fc.map (V.int .i64)),.gone,.int .i64 v89.fa.fi]) fun _=>.holA Tg.o v88 s.2.2.toNat (.agg [.int .i64 v89.fac,.int .i64 v89.fao,.int .i64 v89.fh,.int .i64 v89.fa.ff,.int .i64 v89.fa.fe,.int .i64 v89.fa.fN,.own 1 (v89.fa.fc.map (V.int .i64)),.gone,.int .i64 v89.fa.fi]) fun _=>.setM Tg.o v88 (s.2.2.toNat) (.agg [.int .i64 v89.fac,.int .i64 v89.fao,.int .i64 v89.fh,.int .i64 v89.fa.ff,.int .i64 v89.fa.fe,.int .i64 v89.fa.fN,.own 1 (v89.fa.fc.map (V.int .i64)),.gone,.int .i64 v89.fa.fi]) ({ v89 with fa:=({ v89.fa with fd:=v91.2 }:Tk) }:Tg) fun v92=>.guard (0<=s.2.2/\(s.2.2:Int)<(((v92.map Tg.o).length - 0:Nat):Int)) inferInstance<|.lookB Tg.o v92 (s.2.2.toNat) fun v93=>.lkY Tg.o v92 (s.2.2.toNat) v93<|.lkY Tg.o v92 (s.2.2.toNat) v93<|.setN Tg.o v92 (s.2.2.toNat) ({ v93 with fa:=({ v93.fa with fi:=v91.1 }:Tk) }:Tg) fun v95=>.lfA (zyi) (.inl (v95,(i64.wrap (v91.1+1)),(i64.wrap (s.2.2+1)))))<|.lfA (zyi) (.inr (s.1,s.2.1,s.2.2)):Tree ((List Tg×Int×Int)⊕((List Tg×Int×Int))) _)) (fun s=>by kernel_rfl) (fun s=>lB<|bR (gU<|⟨za1 _ _ _,fun v67 h68=>⟨za0 _ h68,⟨za0 _ h68,⟨za2 _ _ _ _,fun v69 _=>gU<|⟨za1 _ _ _,fun v70 h71=>⟨za0 _ h71,⟨za0 _ h71,⟨za2 _ _ _ _,fun v72 _=>gU<|⟨za1 _ _ _,fun v73 h74=>⟨za0 _ h74,⟨za0 _ h74,⟨za2 _ _ _ _,fun v75 _=>gU<|⟨za1 _ _ _,fun v76 h77=>⟨za0 _ h77,⟨za0 _ h77,⟨za2 _ _ _ _,fun v78 _=>gU<|⟨za1 _ _ _,fun v79 h80=>⟨za0 _ h80,⟨za0 _ h80,⟨za2 _ _ _ _,fun v81 _=>gU<|⟨za1 _ _ _,fun v82 h83=>⟨za0 _ h83,⟨za0 _ h83,⟨za2 _ _ _ _,fun v84 _=>gU<|⟨za1 _ _ _,fun v85 h86=>⟨za0 _ h86,⟨rfl,⟨za0 _ h86,⟨za0 _ h86,cE zt9 fun v87=>⟨zab _ _ _ _,fun _ _=>⟨zab _ _ _ _,fun _ _=>⟨zax _ _ _ _ _,fun v88 _=>gU<|⟨za1 _ _ _,fun v89 h90=>⟨za0 _ h90,⟨rfl,⟨za0 _ h90,⟨za0 _ h90,cE ztz fun v91=>⟨zab _ _ _ _,fun _ _=>⟨zab _ _ _ _,fun _ _=>⟨zax _ _ _ _ _,fun v92 _=>gU<|⟨za1 _ _ _,fun v93 h94=>⟨za0 _ h94,⟨za0 _ h94,⟨za2 _ _ _ _,fun v95 _=>rfl⟩⟩⟩⟩⟩⟩⟩⟩⟩⟩⟩⟩⟩⟩⟩⟩⟩⟩⟩⟩⟩⟩⟩⟩⟩⟩⟩⟩⟩⟩⟩⟩⟩⟩⟩⟩⟩⟩⟩⟩⟩⟩⟩⟩)<|rfl) (fun _=>rfl) (by kernel_rfl) BIG s)
def ywq:(Int×List Tg)->V×List (List V):=fun r=>(.tup [.int .i64 r.1,.tup [.own 9 (r.2.map Tg.o)]],[])
def ylj (v1:List Tg) (v2:Int):Option (Int×List Tg):=(zqa (v1,v2,0)).bind fun v96=>(some (v96.2.1,v96.1))
def ywy (v1:List Tg) (v2:Int):Ctr:=⟨yor,[.own 9 (v1.map Tg.o),.I v2],[[.gone]],Int×List Tg,ylj v1 v2,ywq⟩
theorem qhc {v1:List Tg} {v2:Int}:(ywy v1 v2).ok tab:=fun r hr=>zbc yxw rfl (.lp (zxf (v1,v2,0)) fun(v96:List Tg×Int×Int)=>.segA Tg.o v96.1<|.lfA ywq (v96.2.1,v96.1):Tree (Int×List Tg) _) (by kernel_rfl) (by kernel_rfl) (lP yhv fun v96=>sA<|rfl) hr
def zqb (s:List Ta×Int×Int):St:=⟨sv 6 [(0,.own 17 (s.1.map Ta.o)),(1,.I s.2.1),(4,.I s.2.2)],[]⟩
def zld:(List Ta×Int×Int)->Ex×St:=fun p=>((.exit 0),⟨sv 6 [(0,.own 17 (p.1.map Ta.o)),(1,.I p.2.1),(4,.I p.2.2),(5,.bool false)],[]⟩)
def yam:=zcj (zqb) (zld)
def zkz (s:List Ta×Int×Int):Option ((List Ta×Int×Int)⊕((List Ta×Int×Int))):=bif decide (s.2.2<(s.1.length:Int)) then(if 0<=s.2.2/\(s.2.2:Int)<(((s.1.map Ta.o).length - 0:Nat):Int) then(((s.1)[s.2.2.toNat]?).bind fun v117=>((ylj v117.faq s.2.1).bind fun v119=>((((s.1)[s.2.2.toNat]?).map fun _=>()).bind fun _=>((((s.1)[s.2.2.toNat]?).map fun _=>()).bind fun _=>(let v120:=s.1.set (s.2.2.toNat) ({ v117 with faq:=v119.2 }:Ta);(if 0<=s.2.2/\(s.2.2:Int)<(((v120.map Ta.o).length - 0:Nat):Int) then(((v120)[s.2.2.toNat]?).bind fun v121=>(let v123:=v120.set (s.2.2.toNat) ({ v121 with faz:=(decide ((v119.1.tmod 3)=0)) }:Ta);(if 0<=s.2.2/\(s.2.2:Int)<(((v123.map Ta.o).length - 0:Nat):Int) then(((v123)[s.2.2.toNat]?).bind fun v124=>(let v126:=v123.set (s.2.2.toNat) ({ v124 with fg:=({ v124.fg with fac:=(i64.wrap (v119.1+1)) }:Tg) }:Ta);(if 0<=s.2.2/\(s.2.2:Int)<(((v126.map Ta.o).length - 0:Nat):Int) then(((v126)[s.2.2.toNat]?).bind fun v127=>(let v129:=v126.set (s.2.2.toNat) ({ v127 with fg:=({ v127.fg with fao:=(i64.wrap ((i64.wrap (v119.1+1))+1)) }:Tg) }:Ta);(if 0<=s.2.2/\(s.2.2:Int)<(((v129.map Ta.o).length - 0:Nat):Int) then(((v129)[s.2.2.toNat]?).bind fun v130=>(let v132:=v129.set (s.2.2.toNat) ({ v130 with fg:=({ v130.fg with fh:=(i64.wrap ((i64.wrap ((i64.wrap (v119.1+1))+1))+1)) }:Tg) }:Ta);(if 0<=s.2.2/\(s.2.2:Int)<(((v132.map Ta.o).length - 0:Nat):Int) then(((v132)[s.2.2.toNat]?).bind fun v133=>(let v135:=v132.set (s.2.2.toNat) ({ v133 with fg:=({ v133.fg with fa:=({ v133.fg.fa with ff:=(i64.wrap ((i64.wrap ((i64.wrap ((i64.wrap (v119.1+1))+1))+1))+1)) }:Tk) }:Tg) }:Ta);(if 0<=s.2.2/\(s.2.2:Int)<(((v135.map Ta.o).length - 0:Nat):Int) then(((v135)[s.2.2.toNat]?).bind fun v136=>(let v138:=v135.set (s.2.2.toNat) ({ v136 with fg:=({ v136.fg with fa:=({ v136.fg.fa with fe:=(i64.wrap ((i64.wrap ((i64.wrap ((i64.wrap ((i64.wrap (v119.1+1))+1))+1))+1))+1)) }:Tk) }:Tg) }:Ta);(if 0<=s.2.2/\(s.2.2:Int)<(((v138.map Ta.o).length - 0:Nat):Int) then(((v138)[s.2.2.toNat]?).bind fun v139=>(let v141:=v138.set (s.2.2.toNat) ({ v139 with fg:=({ v139.fg with fa:=({ v139.fg.fa with fN:=(i64.wrap ((i64.wrap ((i64.wrap ((i64.wrap ((i64.wrap ((i64.wrap (v119.1+1))+1))+1))+1))+1))+1)) }:Tk) }:Tg) }:Ta);(if 0<=s.2.2/\(s.2.2:Int)<(((v141.map Ta.o).length - 0:Nat):Int) then(((v141)[s.2.2.toNat]?).bind fun v142=>((znw v142.fg.fa.fc (i64.wrap ((i64.wrap ((i64.wrap ((i64.wrap ((i64.wrap ((i64.wrap ((i64.wrap (v119.1+1))+1))+1))+1))+1))+1))+1))).bind fun v144=>((((v141)[s.2.2.toNat]?).map fun _=>()).bind fun _=>((((v141)[s.2.2.toNat]?).map fun _=>()).bind fun _=>(let v145:=v141.set (s.2.2.toNat) ({ v142 with fg:=({ v142.fg with fa:=({ v142.fg.fa with fc:=v144.2 }:Tk) }:Tg) }:Ta);(if 0<=s.2.2/\(s.2.2:Int)<(((v145.map Ta.o).length - 0:Nat):Int) then(((v145)[s.2.2.toNat]?).bind fun v146=>((zor v146.fg.fa.fd v144.1).bind fun v148=>((((v145)[s.2.2.toNat]?).map fun _=>()).bind fun _=>((((v145)[s.2.2.toNat]?).map fun _=>()).bind fun _=>(let v149:=v145.set (s.2.2.toNat) ({ v146 with fg:=({ v146.fg with fa:=({ v146.fg.fa with fd:=v148.2 }:Tk) }:Tg) }:Ta);(if 0<=s.2.2/\(s.2.2:Int)<(((v149.map Ta.o).length - 0:Nat):Int) then(((v149)[s.2.2.toNat]?).bind fun v150=>(let v152:=v149.set (s.2.2.toNat) ({ v150 with fg:=({ v150.fg with fa:=({ v150.fg.fa with fi:=v148.1 }:Tk) }:Tg) }:Ta);(if 0<=s.2.2/\(s.2.2:Int)<(((v152.map Ta.o).length - 0:Nat):Int) then(((v152)[s.2.2.toNat]?).bind fun v153=>(let v155:=v152.set (s.2.2.toNat) ({ v153 with fw:=(i64.wrap (v148.1+1)) }:Ta);(if 0<=s.2.2/\(s.2.2:Int)<(((v155.map Ta.o).length - 0:Nat):Int) then(((v155)[s.2.2.toNat]?).bind fun v156=>(let v158:=v155.set (s.2.2.toNat) ({ v156 with fax:=(i64.wrap ((i64.wrap (v148.1+1))+1)) }:Ta);(if 0<=s.2.2/\(s.2.2:Int)<(((v158.map Ta.o).length - 0:Nat):Int) then(((v158)[s.2.2.toNat]?).bind fun v159=>(let v161:=v158.set (s.2.2.toNat) ({ v159 with fay:=(i64.wrap ((i64.wrap ((i64.wrap (v148.1+1))+1))+1)) }:Ta);(if 0<=s.2.2/\(s.2.2:Int)<(((v161.map Ta.o).length - 0:Nat):Int) then(((v161)[s.2.2.toNat]?).bind fun v162=>(let v164:=v161.set (s.2.2.toNat) ({ v162 with fad:=(i64.wrap ((i64.wrap ((i64.wrap ((i64.wrap (v148.1+1))+1))+1))+1)) }:Ta);(if 0<=s.2.2/\(s.2.2:Int)<(((v164.map Ta.o).length - 0:Nat):Int) then(((v164)[s.2.2.toNat]?).bind fun v165=>(let v167:=v164.set (s.2.2.toNat) ({ v165 with fah:=(i64.wrap ((i64.wrap ((i64.wrap ((i64.wrap ((i64.wrap (v148.1+1))+1))+1))+1))+1)) }:Ta);(if 0<=s.2.2/\(s.2.2:Int)<(((v167.map Ta.o).length - 0:Nat):Int) then(((v167)[s.2.2.toNat]?).bind fun v168=>(let v170:=v167.set (s.2.2.toNat) ({ v168 with fag:=(i64.wrap ((i64.wrap ((i64.wrap ((i64.wrap ((i64.wrap ((i64.wrap (v148.1+1))+1))+1))+1))+1))+1)) }:Ta);(some (.inl (v170,(i64.wrap ((i64.wrap ((i64.wrap ((i64.wrap ((i64.wrap ((i64.wrap ((i64.wrap (v148.1+1))+1))+1))+1))+1))+1))+1)),(i64.wrap (s.2.2+1))))))) else none))) else none))) else none))) else none))) else none))) else none))) else none)))))) else none)))))) else none))) else none))) else none))) else none))) else none))) else none))) else none))) else none)))))) else none) else(some (.inr (s.1,s.2.1,s.2.2)))
def zpw (s:List Ta×Int×Int):Option ((List Ta×Int×Int)):=zd1 (zkz) BIG s
def ybk (s:List Ta×Int×Int):Lct:=⟨6,yet,0,[2,3,5],some (zqb s),List Ta×Int×Int,zpw s,zld⟩
theorem yim {s:List Ta×Int×Int}:(ybk s).ok tab:=zbs (zc8 (J:=zqb) (o:=(zld)) (B:=fun(s:List Ta×Int×Int)=>(.lenB Ta.o s.1<|.br (decide (s.2.2<(s.1.length:Int))) (.guard (0<=s.2.2/\(s.2.2:Int)<(((s.1.map Ta.o).length - 0:Nat):Int)) inferInstance<|.lookB Ta.o s.1 (s.2.2.toNat) fun v117=>.lkY Ta.o s.1 (s.2.2.toNat) v117<|.ob ((v117.faq.map Tg.o).length=List.length ((v117.faq.map Tg.o)))<|.lkY Ta.o s.1 (s.2.2.toNat) v117<|.lkY Ta.o s.1 (s.2.2.toNat) v117<|.sk<|.call (ywy v117.faq s.2.1) fun(v119:Int×List Tg)=>.holA Ta.o s.1 s.2.2.toNat (.agg [.gone,.bool v117.faz,.int .i64 v117.fg.fac,.int .i64 v117.fg.fao,.int .i64 v117.fg.fh,.int .i64 v117.fg.fa.ff,.int .i64 v117.fg.fa.fe,.int .i64 v117.fg.fa.fN,.own 1 (v117.fg.fa.fc.map (V.int .i64)),.own 1 (v117.fg.fa.fd.map V.bool),.int .i64 v117.fg.fa.fi,.int .i64 v117.fw,.int .i64 v117.fax,.int .i64 v117.fay,.int .i64 v117.fad,.int .i64 v117.fah,.int .i64 v117.fag]) fun _=>.holA Ta.o s.1 s.2.2.toNat (.agg [.gone,.bool v117.faz,.int .i64 v117.fg.fac,.int .i64 v117.fg.fao,.int .i64 v117.fg.fh,.int .i64 v117.fg.fa.ff,.int .i64 v117.fg.fa.fe,.int .i64 v117.fg.fa.fN,.own 1 (v117.fg.fa.fc.map (V.int .i64)),.own 1 (v117.fg.fa.fd.map V.bool),.int .i64 v117.fg.fa.fi,.int .i64 v117.fw,.int .i64 v117.fax,.int .i64 v117.fay,.int .i64 v117.fad,.int .i64 v117.fah,.int .i64 v117.fag]) fun _=>.setM Ta.o s.1 (s.2.2.toNat) (.agg [.gone,.bool v117.faz,.int .i64 v117.fg.fac,.int .i64 v117.fg.fao,.int .i64 v117.fg.fh,.int .i64 v117.fg.fa.ff,.int .i64 v117.fg.fa.fe,.int .i64 v117.fg.fa.fN,.own 1 (v117.fg.fa.fc.map (V.int .i64)),.own 1 (v117.fg.fa.fd.map V.bool),.int .i64 v117.fg.fa.fi,.int .i64 v117.fw,.int .i64 v117.fax,.int .i64 v117.fay,.int .i64 v117.fad,.int .i64 v117.fah,.int .i64 v117.fag]) ({ v117 with faq:=v119.2 }:Ta) fun v120=>.sk<|.guard (0<=s.2.2/\(s.2.2:Int)<(((v120.map Ta.o).length - 0:Nat):Int)) inferInstance<|.lookB Ta.o v120 (s.2.2.toNat) fun v121=>.lkY Ta.o v120 (s.2.2.toNat) v121<|.lkY Ta.o v120 (s.2.2.toNat) v121<|.setN Ta.o v120 (s.2.2.toNat) ({ v121 with faz:=(decide ((v119.1.tmod 3)=0)) }:Ta) fun v123=>.guard (0<=s.2.2/\(s.2.2:Int)<(((v123.map Ta.o).length - 0:Nat):Int)) inferInstance<|.lookB Ta.o v123 (s.2.2.toNat) fun v124=>.lkY Ta.o v123 (s.2.2.toNat) v124<|.lkY Ta.o v123 (s.2.2.toNat) v124<|.setN Ta.o v123 (s.2.2.toNat) ({ v124 with fg:=({ v124.fg with fac:=(i64.wrap (v119.1+1)) }:Tg) }:Ta) fun v126=>.guard (0<=s.2.2/\(s.2.2:Int)<(((v126.map Ta.o).length - 0:Nat):Int)) inferInstance<|.lookB Ta.o v126 (s.2.2.toNat) fun v127=>.lkY Ta.o v126 (s.2.2.toNat) v127<|.lkY Ta.o v126 (s.2.2.toNat) v127<|.setN Ta.o v126 (s.2.2.toNat) ({ v127 with fg:=({ v127.fg with fao:=(i64.wrap ((i64.wrap (v119.1+1))+1)) }:Tg) }:Ta) fun v129=>.guard (0<=s.2.2/\(s.2.2:Int)<(((v129.map Ta.o).length - 0:Nat):Int)) inferInstance<|.lookB Ta.o v129 (s.2.2.toNat) fun v130=>.lkY Ta.o v129 (s.2.2.toNat) v130<|.lkY Ta.o v129 (s.2.2.toNat) v130<|.setN Ta.o v129 (s.2.2.toNat) ({ v130 with fg:=({ v130.fg with fh:=(i64.wrap ((i64.wrap ((i64.wrap (v119.1+1))+1))+1)) }:Tg) }:Ta) fun v132=>.guard (0<=s.2.2/\(s.2.2:Int)<(((v132.map Ta.o).length - 0:Nat):Int)) inferInstance<|.lookB Ta.o v132 (s.2.2.toNat) fun v133=>.lkY Ta.o v132 (s.2.2.toNat) v133<|.lkY Ta.o v132 (s.2.2.toNat) v133<|.setN Ta.o v132 (s.2.2.toNat) ({ v133 with fg:=({ v133.fg with fa:=({ v133.fg.fa with ff:=(i64.wrap ((i64.wrap ((i64.wrap ((i64.wrap (v119.1+1))+1))+1))+1)) }:Tk) }:Tg) }:Ta) fun v135=>.guard (0<=s.2.2/\(s.2.2:Int)<(((v135.map Ta.o).length - 0:Nat):Int)) inferInstance<|.lookB Ta.o v135 (s.2.2.toNat) fun v136=>.lkY Ta.o v135 (s.2.2.toNat) v136<|.lkY Ta.o v135 (s.2.2.toNat) v136<|.setN Ta.o v135 (s.2.2.toNat) ({ v136 with fg:=({ v136.fg with fa:=({ v136.fg.fa with fe:=(i64.wrap ((i64.wrap ((i64.wrap ((i64.wrap ((i64.wrap (v119.1+1))+1))+1))+1))+1)) }:Tk) }:Tg) }:Ta) fun v138=>.guard (0<=s.2.2/\(s.2.2:Int)<(((v138.map Ta.o).length - 0:Nat):Int)) inferInstance<|.lookB Ta.o v138 (s.2.2.toNat) fun v139=>.lkY Ta.o v138 (s.2.2.toNat) v139<|.lkY Ta.o v138 (s.2.2.toNat) v139<|.setN Ta.o v138 (s.2.2.toNat) ({ v139 with fg:=({ v139.fg with fa:=({ v139.fg.fa with fN:=(i64.wrap ((i64.wrap ((i64.wrap ((i64.wrap ((i64.wrap ((i64.wrap (v119.1+1))+1))+1))+1))+1))+1)) }:Tk) }:Tg) }:Ta) fun v141=>.guard (0<=s.2.2/\(s.2.2:Int)<(((v141.map Ta.o).length - 0:Nat):Int)) inferInstance<|.lookB Ta.o v141 (s.2.2.toNat) fun v142=>.lkY Ta.o v141 (s.2.2.toNat) v142<|.ob ((v142.fg.fa.fc.map (V.int .i64)).length=List.length ((v142.fg.fa.fc.map (V.int .i64))))<|.lkY Ta.o v141 (s.2.2.toNat) v142<|.lkY Ta.o v141 (s.2.2.toNat) v142<|.sk<|.call (zsc v142.fg.fa.fc (i64.wrap ((i64.wrap ((i64.wrap ((i64.wrap ((i64.wrap ((i64.wrap ((i64.wrap (v119.1+1))+1))+1))+1))+1))+1))+1))) fun(v144:Int×List Int)=>.holA Ta.o v141 s.2.2.toNat (.agg [.own 9 (v142.faq.map Tg.o),.bool v142.faz,.int .i64 v142.fg.fac,.int .i64 v142.fg.fao,.int .i64 v142.fg.fh,.int .i64 v142.fg.fa.ff,.int .i64 v142.fg.fa.fe,.int .i64 v142.fg.fa.fN,.gone,.own 1 (v142.fg.fa.fd.map V.bool),.int .i64 v142.fg.fa.fi,.int .i64 v142.fw,.int .i64 v142.fax,.int .i64 v142.fay,.int .i64 v142.fad,.int .i64 v142.fah,.int .i64 v142.fag]) fun _=>.holA Ta.o v141 s.2.2.toNat (.agg [.own 9 (v142.faq.map Tg.o),.bool v142.faz,.int .i64 v142.fg.fac,.int .i64 v142.fg.fao,.int .i64 v142.fg.fh,.int .i64 v142.fg.fa.ff,.int .i64 v142.fg.fa.fe,.int .i64 v142.fg.fa.fN,.gone,.own 1 (v142.fg.fa.fd.map V.bool),.int .i64 v142.fg.fa.fi,.int .i64 v142.fw,.int .i64 v142.fax,.int .i64 v142.fay,.int .i64 v142.fad,.int .i64 v142.fah,.int .i64 v142.fag]) fun _=>.setM Ta.o v141 (s.2.2.toNat) (.agg [.own 9 (v142.faq.map Tg.o),.bool v142.faz,.int .i64 v142.fg.fac,.int .i64 v142.fg.fao,.int .i64 v142.fg.fh,.int .i64 v142.fg.fa.ff,.int .i64 v142.fg.fa.fe,.int .i64 v142.fg.fa.fN,.gone,.own 1 (v142.fg.fa.fd.map V.bool),.int .i64 v142.fg.fa.fi,.int .i64 v142.fw,.int .i64 v142.fax,.int .i64 v142.fay,.int .i64 v142.fad,.int .i64 v142.fah,.int .i64 v142.fag]) ({ v142 with fg:=({ v142.fg with fa:=({ v142.fg.fa with fc:=v144.2 }:Tk) }:Tg) }:Ta) fun v145=>.guard (0<=s.2.2/\(s.2.2:Int)<(((v145.map Ta.o).length - 0:Nat):Int)) inferInstance<|.lookB Ta.o v145 (s.2.2.toNat) fun v146=>.lkY Ta.o v145 (s.2.2.toNat) v146<|.ob ((v146.fg.fa.fd.map V.bool).length=List.length ((v146.fg.fa.fd.map V.bool)))<|.lkY Ta.o v145 (s.2.2.toNat) v146<|.lkY Ta.o v145 (s.2.2.toNat) v146<|.sk<|.call (zph v146.fg.fa.fd v144.1) fun(v148:Int×List Bool)=>.holA Ta.o v145 s.2.2.toNat (.agg [.own 9 (v146.faq.map Tg.o),.bool v146.faz,.int .i64 v146.fg.fac,.int .i64 v146.fg.fao,.int .i64 v146.fg.fh,.int .i64 v146.fg.fa.ff,.int .i64 v146.fg.fa.fe,.int .i64 v146.fg.fa.fN,.own 1 (v146.fg.fa.fc.map (V.int .i64)),.gone,.int .i64 v146.fg.fa.fi,.int .i64 v146.fw,.int .i64 v146.fax,.int .i64 v146.fay,.int .i64 v146.fad,.int .i64 v146.fah,.int .i64 v146.fag]) fun _=>.holA Ta.o v145 s.2.2.toNat (.agg [.own 9 (v146.faq.map Tg.o),.bool v146.faz,.int .i64 v146.fg.fac,.int .i64 v146.fg.fao,.int .i64 v146.fg.fh,.int .i64 v146.fg.fa.ff,.int .i64 v146.fg.fa.fe,.int .i64 v146.fg.fa.fN,.own 1 (v146.fg.fa.fc.map (V.int .i64)),.gone,.int .i64 v146.fg.fa.fi,.int .i64 v146.fw,.int .i64 v146.fax,.int .i64 v146.fay,.int .i64 v146.fad,.int .i64 v146.fah,.int .i64 v146.fag]) fun _=>.setM Ta.o v145 (s.2.2.toNat) (.agg [.own 9 (v146.faq.map Tg.o),.bool v146.faz,.int .i64 v146.fg.fac,.int .i64 v146.fg.fao,.int .i64 v146.fg.fh,.int .i64 v146.fg.fa.ff,.int .i64 v146.fg.fa.fe,.int .i64 v146.fg.fa.fN,.own 1 (v146.fg.fa.fc.map (V.int .i64)),.gone,.int .i64 v146.fg.fa.fi,.int .i64 v146.fw,.int .i64 v146.fax,.int .i64 v146.fay,.int .i64 v146.fad,.int .i64 v146.fah,.int .i64 v146.fag]) ({ v146 with fg:=({ v146.fg with fa:=({ v146.fg.fa with fd:=v148.2 }:Tk) }:Tg) }:Ta) fun v149=>.guard (0<=s.2.2/\(s.2.2:Int)<(((v149.map Ta.o).length - 0:Nat):Int)) inferInstance<|.lookB Ta.o v149 (s.2.2.toNat) fun v150=>.lkY Ta.o v149 (s.2.2.toNat) v150<|.lkY Ta.o v149 (s.2.2.toNat) v150<|.setN Ta.o v149 (s.2.2.toNat) ({ v150 with fg:=({ v150.fg with fa:=({ v150.fg.fa with fi:=v148.1 }:Tk) }:Tg) }:Ta) fun v152=>.guard (0<=s.2.2/\(s.2.2:Int)<(((v152.map Ta.o).length - 0:Nat):Int)) inferInstance<|.lookB Ta.o v152 (s.2.2.toNat) fun v153=>.lkY Ta.o v152 (s.2.2.toNat) v153<|.lkY Ta.o v152 (s.2.2.toNat) v153<|.setN Ta.o v152 (s.2.2.toNat) ({ v153 with fw:=(i64.wrap (v148.1+1)) }:Ta) fun v155=>.guard (0<=s.2.2/\(s.2.2:Int)<(((v155.map Ta.o).length - 0:Nat):Int)) inferInstance<|.lookB Ta.o v155 (s.2.2.toNat) fun v156=>.lkY Ta.o v155 (s.2.2.toNat) v156<|.lkY Ta.o v155 (s.2.2.toNat) v156<|.setN Ta.o v155 (s.2.2.toNat) ({ v156 with fax:=(i64.wrap ((i64.wrap (v148.1+1))+1)) }:Ta) fun v158=>.guard (0<=s.2.2/\(s.2.2:Int)<(((v158.map Ta.o).length - 0:Nat):Int)) inferInstance<|.lookB Ta.o v158 (s.2.2.toNat) fun v159=>.lkY Ta.o v158 (s.2.2.toNat) v159<|.lkY Ta.o v158 (s.2.2.toNat) v159<|.setN Ta.o v158 (s.2.2.toNat) ({ v159 with fay:=(i64.wrap ((i64.wrap ((i64.wrap (v148.1+1))+1))+1)) }:Ta) fun v161=>.guard (0<=s.2.2/\(s.2.2:Int)<(((v161.map Ta.o).length - 0:Nat):Int)) inferInstance<|.lookB Ta.o v161 (s.2.2.toNat) fun v162=>.lkY Ta.o v161 (s.2.2.toNat) v162<|.lkY Ta.o v161 (s.2.2.toNat) v162<|.setN Ta.o v161 (s.2.2.toNat) ({ v162 with fad:=(i64.wrap ((i64.wrap ((i64.wrap ((i64.wrap (v148.1+1))+1))+1))+1)) }:Ta) fun v164=>.guard (0<=s.2.2/\(s.2.2:Int)<(((v164.map Ta.o).length - 0:Nat):Int)) inferInstance<|.lookB Ta.o v164 (s.2.2.toNat) fun v165=>.lkY Ta.o v164 (s.2.2.toNat) v165<|.lkY Ta.o v164 (s.2.2.toNat) v165<|.setN Ta.o v164 (s.2.2.toNat) ({ v165 with fah:=(i64.wrap ((i64.wrap ((i64.wrap ((i64.wrap ((i64.wrap (v148.1+1))+1))+1))+1))+1)) }:Ta) fun v167=>.guard (0<=s.2.2/\(s.2.2:Int)<(((v167.map Ta.o).length - 0:Nat):Int)) inferInstance<|.lookB Ta.o v167 (s.2.2.toNat) fun v168=>.lkY Ta.o v167 (s.2.2.toNat) v168<|.lkY Ta.o v167 (s.2.2.toNat) v168<|.setN Ta.o v167 (s.2.2.toNat) ({ v168 with fag:=(i64.wrap ((i64.wrap ((i64.wrap ((i64.wrap ((i64.wrap ((i64.wrap (v148.1+1))+1))+1))+1))+1))+1)) }:Ta) fun v170=>.lfA (yam) (.inl (v170,(i64.wrap ((i64.wrap ((i64.wrap ((i64.wrap ((i64.wrap ((i64.wrap ((i64.wrap (v148.1+1))+1))+1))+1))+1))+1))+1)),(i64.wrap (s.2.2+1)))))<|.lfA (yam) (.inr (s.1,s.2.1,s.2.2)):Tree ((List Ta×Int×Int)⊕((List Ta×Int×Int))) _)) (fun s=>by kernel_rfl) (fun s=>lB<|bR (gU<|⟨za1 _ _ _,fun v117 h118=>⟨za0 _ h118,⟨rfl,⟨za0 _ h118,⟨za0 _ h118,cE qhc fun v119=>⟨zab _ _ _ _,fun _ _=>⟨zab _ _ _ _,fun _ _=>⟨zax _ _ _ _ _,fun v120 _=>sK<|gU<|⟨za1 _ _ _,fun v121 h122=>⟨za0 _ h122,⟨za0 _ h122,⟨za2 _ _ _ _,fun v123 _=>gU<|⟨za1 _ _ _,fun v124 h125=>⟨za0 _ h125,⟨za0 _ h125,⟨za2 _ _ _ _,fun v126 _=>gU<|⟨za1 _ _ _,fun v127 h128=>⟨za0 _ h128,⟨za0 _ h128,⟨za2 _ _ _ _,fun v129 _=>gU<|⟨za1 _ _ _,fun v130 h131=>⟨za0 _ h131,⟨za0 _ h131,⟨za2 _ _ _ _,fun v132 _=>gU<|⟨za1 _ _ _,fun v133 h134=>⟨za0 _ h134,⟨za0 _ h134,⟨za2 _ _ _ _,fun v135 _=>gU<|⟨za1 _ _ _,fun v136 h137=>⟨za0 _ h137,⟨za0 _ h137,⟨za2 _ _ _ _,fun v138 _=>gU<|⟨za1 _ _ _,fun v139 h140=>⟨za0 _ h140,⟨za0 _ h140,⟨za2 _ _ _ _,fun v141 _=>gU<|⟨za1 _ _ _,fun v142 h143=>⟨za0 _ h143,⟨rfl,⟨za0 _ h143,⟨za0 _ h143,cE zt9 fun v144=>⟨zab _ _ _ _,fun _ _=>⟨zab _ _ _ _,fun _ _=>⟨zax _ _ _ _ _,fun v145 _=>gU<|⟨za1 _ _ _,fun v146 h147=>⟨za0 _ h147,⟨rfl,⟨za0 _ h147,⟨za0 _ h147,cE ztz fun v148=>⟨zab _ _ _ _,fun _ _=>⟨zab _ _ _ _,fun _ _=>⟨zax _ _ _ _ _,fun v149 _=>gU<|⟨za1 _ _ _,fun v150 h151=>⟨za0 _ h151,⟨za0 _ h151,⟨za2 _ _ _ _,fun v152 _=>gU<|⟨za1 _ _ _,fun v153 h154=>⟨za0 _ h154,⟨za0 _ h154,⟨za2 _ _ _ _,fun v155 _=>gU<|⟨za1 _ _ _,fun v156 h157=>⟨za0 _ h157,⟨za0 _ h157,⟨za2 _ _ _ _,fun v158 _=>gU<|⟨za1 _ _ _,fun v159 h160=>⟨za0 _ h160,⟨za0 _ h160,⟨za2 _ _ _ _,fun v161 _=>gU<|⟨za1 _ _ _,fun v162 h163=>⟨za0 _ h163,⟨za0 _ h163,⟨za2 _ _ _ _,fun v164 _=>gU<|⟨za1 _ _ _,fun v165 h166=>⟨za0 _ h166,⟨za0 _ h166,⟨za2 _ _ _ _,fun v167 _=>gU<|⟨za1 _ _ _,fun v168 h169=>⟨za0 _ h169,⟨za0 _ h169,⟨za2 _ _ _ _,fun v170 _=>rfl⟩⟩⟩⟩⟩⟩⟩⟩⟩⟩⟩⟩⟩⟩⟩⟩⟩⟩⟩⟩⟩⟩⟩⟩⟩⟩⟩⟩⟩⟩⟩⟩⟩⟩⟩⟩⟩⟩⟩⟩⟩⟩⟩⟩⟩⟩⟩⟩⟩⟩⟩⟩⟩⟩⟩⟩⟩⟩⟩⟩⟩⟩⟩⟩⟩⟩⟩⟩⟩⟩⟩⟩⟩⟩⟩⟩⟩⟩⟩⟩)<|rfl) (fun _=>rfl) (by kernel_rfl) BIG s)
def yu6:(Int×List Ta)->V×List (List V):=fun r=>(.tup [.int .i64 r.1,.tup [.own 17 (r.2.map Ta.o)]],[])
def ymd (v1:List Ta) (v2:Int):Option (Int×List Ta):=(zpw (v1,v2,0)).bind fun v171=>(some (v171.2.1,v171.1))
def yv3 (v1:List Ta) (v2:Int):Ctr:=⟨yp7,[.own 17 (v1.map Ta.o),.I v2],[[.gone]],Int×List Ta,ymd v1 v2,yu6⟩
theorem qi3 {v1:List Ta} {v2:Int}:(yv3 v1 v2).ok tab:=fun r hr=>zbc qeh rfl (.lp (ybk (v1,v2,0)) fun(v171:List Ta×Int×Int)=>.segA Ta.o v171.1<|.lfA yu6 (v171.2.1,v171.1):Tree (Int×List Ta) _) (by kernel_rfl) (by kernel_rfl) (lP yim fun v171=>sA<|rfl) hr
def yw8:(Int×Tn)->V×List (List V):=fun r=>(.tup [.int .i64 r.1,.tup [.agg [.int .i64 r.2.fat,.int .i64 r.2.fo.fah,.int .i64 r.2.fo.fag,.own 7 (r.2.fo.fp.map Ti.i),.int .i64 r.2.fq.fad,.own 13 (r.2.fq.fr.map Tc.o),.own 17 (r.2.faa.map Ta.o),.int .i64 r.2.far,.int .i64 r.2.fau,.int .i64 r.2.fas,.int .i64 r.2.fav]]],[])
def yma (v1:Tn) (v2:Int):Option (Int×Tn):=(yr2 v1.fo v2).bind fun v3=>((ysu v1.fq v3.1).bind fun v4=>((ymd v1.faa v4.1).bind fun v5=>(if ((v1.fo.fp.map Ti.i).length)<=(v3.2.fp.map Ti.i).length then(if ((v1.fq.fr.map Tc.o).length)<=(v4.2.fr.map Tc.o).length then(if ((v1.faa.map Ta.o).length)<=(v5.2.map Ta.o).length then(some (v5.1,({ v1 with fo:=({ v1.fo with fp:=((v3.2.fp.take ((v1.fo.fp.map Ti.i).length)).drop (0)) }:To),fq:=(⟨v1.fq.fad,((v4.2.fr.take ((v1.fq.fr.map Tc.o).length)).drop (0))⟩:Tp),faa:=((v5.2.take ((v1.faa.map Ta.o).length)).drop (0)) }:Tn))) else none) else none) else none)))
def yu5 (v1:Tn) (v2:Int):Ctr:=⟨ynu,[.agg [.I v1.fat,.I v1.fo.fah,.I v1.fo.fag,.own 7 (v1.fo.fp.map Ti.i),.I v1.fq.fad,.own 13 (v1.fq.fr.map Tc.o),.own 17 (v1.faa.map Ta.o),.I v1.far,.I v1.fau,.I v1.fas,.I v1.fav],.I v2],[[.gone]],Int×Tn,yma v1 v2,yw8⟩
theorem yxn {v1:Tn} {v2:Int}:(yu5 v1 v2).ok tab:=fun r hr=>zbc qeg rfl (.segA Ti.i v1.fo.fp<|.segA Tc.o v1.fq.fr<|.segA Ta.o v1.faa<|.ob ((v1.fo.fp.map Ti.i).length=List.length ((v1.fo.fp.map Ti.i)))<|.call (yvs v1.fo v2) fun(v3:Int×To)=>.ob ((v1.fq.fr.map Tc.o).length=List.length ((v1.fq.fr.map Tc.o)))<|.call (yvz v1.fq v3.1) fun(v4:Int×Tp)=>.ob ((v1.faa.map Ta.o).length=List.length ((v1.faa.map Ta.o)))<|.call (yv3 v1.faa v4.1) fun(v5:Int×List Ta)=>.segB Ti.i v3.2.fp (0) ((v1.fo.fp.map Ti.i).length)<|.segB Tc.o v4.2.fr (0) ((v1.fq.fr.map Tc.o).length)<|.segB Ta.o v5.2 (0) ((v1.faa.map Ta.o).length)<|.lfA yw8 (v5.1,({ v1 with fo:=({ v1.fo with fp:=((v3.2.fp.take ((v1.fo.fp.map Ti.i).length)).drop (0)) }:To),fq:=(⟨v1.fq.fad,((v4.2.fr.take ((v1.fq.fr.map Tc.o).length)).drop (0))⟩:Tp),faa:=((v5.2.take ((v1.faa.map Ta.o).length)).drop (0)) }:Tn)):Tree (Int×Tn) _) (by kernel_rfl) (by kernel_rfl) (sA<|sA<|sA<|⟨rfl,cE qdc fun v3=>⟨rfl,cE qbl fun v4=>⟨rfl,cE qi3 fun v5=>fun h6=>⟨zcz _ _ _ h6,fun h7=>⟨zcz _ _ _ h7,fun h8=>⟨zcz _ _ _ h8,rfl⟩⟩⟩⟩⟩⟩) hr
def zpo (s:List Tj×Int×Int):St:=⟨sv 6 [(0,.own 6 (s.1.map Tj.o)),(1,.I s.2.1),(4,.I s.2.2)],[]⟩
def zm9:(List Tj×Int×Int)->Ex×St:=fun p=>((.exit 0),⟨sv 6 [(0,.own 6 (p.1.map Tj.o)),(1,.I p.2.1),(4,.I p.2.2),(5,.bool false)],[]⟩)
def zvl:=zcj (zpo) (zm9)
def zl0 (s:List Tj×Int×Int):Option ((List Tj×Int×Int)⊕((List Tj×Int×Int))):=bif decide (s.2.2<(s.1.length:Int)) then(if 0<=s.2.2/\(s.2.2:Int)<(((s.1.map Tj.o).length - 0:Nat):Int) then(((s.1)[s.2.2.toNat]?).bind fun v53=>(let v55:=s.1.set (s.2.2.toNat) ({ v53 with fk:=s.2.1 }:Tj);(if 0<=s.2.2/\(s.2.2:Int)<(((v55.map Tj.o).length - 0:Nat):Int) then(((v55)[s.2.2.toNat]?).bind fun v56=>(let v58:=v55.set (s.2.2.toNat) ({ v56 with fh:=(i64.wrap (s.2.1+1)) }:Tj);(if 0<=s.2.2/\(s.2.2:Int)<(((v58.map Tj.o).length - 0:Nat):Int) then(((v58)[s.2.2.toNat]?).bind fun v59=>((zor v59.fD.fam (i64.wrap ((i64.wrap (s.2.1+1))+1))).bind fun v61=>((((v58)[s.2.2.toNat]?).map fun _=>()).bind fun _=>((((v58)[s.2.2.toNat]?).map fun _=>()).bind fun _=>(let v62:=v58.set (s.2.2.toNat) ({ v59 with fD:=({ v59.fD with fam:=v61.2 }:Tm) }:Tj);(if 0<=s.2.2/\(s.2.2:Int)<(((v62.map Tj.o).length - 0:Nat):Int) then(((v62)[s.2.2.toNat]?).bind fun v63=>((zor v63.fD.fan v61.1).bind fun v65=>((((v62)[s.2.2.toNat]?).map fun _=>()).bind fun _=>((((v62)[s.2.2.toNat]?).map fun _=>()).bind fun _=>(let v66:=v62.set (s.2.2.toNat) ({ v63 with fD:=({ v63.fD with fan:=v65.2 }:Tm) }:Tj);(if 0<=s.2.2/\(s.2.2:Int)<(((v66.map Tj.o).length - 0:Nat):Int) then(((v66)[s.2.2.toNat]?).bind fun v67=>((znw v67.fD.fal v65.1).bind fun v69=>((((v66)[s.2.2.toNat]?).map fun _=>()).bind fun _=>((((v66)[s.2.2.toNat]?).map fun _=>()).bind fun _=>(let v70:=v66.set (s.2.2.toNat) ({ v67 with fD:=({ v67.fD with fal:=v69.2 }:Tm) }:Tj);(if 0<=s.2.2/\(s.2.2:Int)<(((v70.map Tj.o).length - 0:Nat):Int) then(((v70)[s.2.2.toNat]?).bind fun v71=>((znw v71.fD.fc v69.1).bind fun v73=>((((v70)[s.2.2.toNat]?).map fun _=>()).bind fun _=>((((v70)[s.2.2.toNat]?).map fun _=>()).bind fun _=>(let v74:=v70.set (s.2.2.toNat) ({ v71 with fD:=({ v71.fD with fc:=v73.2 }:Tm) }:Tj);(some (.inl (v74,v73.1,(i64.wrap (s.2.2+1)))))))))) else none)))))) else none)))))) else none)))))) else none))) else none))) else none) else(some (.inr (s.1,s.2.1,s.2.2)))
def zsj (s:List Tj×Int×Int):Option ((List Tj×Int×Int)):=zd1 (zl0) BIG s
def zyz (s:List Tj×Int×Int):Lct:=⟨6,ye2,0,[2,3,5],some (zpo s),List Tj×Int×Int,zsj s,zm9⟩
theorem yiw {s:List Tj×Int×Int}:(zyz s).ok tab:=zbs (zc8 (J:=zpo) (o:=(zm9)) (B:=fun(s:List Tj×Int×Int)=>(.lenB Tj.o s.1<|.br (decide (s.2.2<(s.1.length:Int))) (.guard (0<=s.2.2/\(s.2.2:Int)<(((s.1.map Tj.o).length - 0:Nat):Int)) inferInstance<|.lookB Tj.o s.1 (s.2.2.toNat) fun v53=>.lkY Tj.o s.1 (s.2.2.toNat) v53<|.lkY Tj.o s.1 (s.2.2.toNat) v53<|.setN Tj.o s.1 (s.2.2.toNat) ({ v53 with fk:=s.2.1 }:Tj) fun v55=>.guard (0<=s.2.2/\(s.2.2:Int)<(((v55.map Tj.o).length - 0:Nat):Int)) inferInstance<|.lookB Tj.o v55 (s.2.2.toNat) fun v56=>.lkY Tj.o v55 (s.2.2.toNat) v56<|.lkY Tj.o v55 (s.2.2.toNat) v56<|.setN Tj.o v55 (s.2.2.toNat) ({ v56 with fh:=(i64.wrap (s.2.1+1)) }:Tj) fun v58=>.guard (0<=s.2.2/\(s.2.2:Int)<(((v58.map Tj.o).length - 0:Nat):Int)) inferInstance<|.lookB Tj.o v58 (s.2.2.toNat) fun v59=>.lkY Tj.o v58 (s.2.2.toNat) v59<|.ob ((v59.fD.fam.map V.bool).length=List.length ((v59.fD.fam.map V.bool)))<|.lkY Tj.o v58 (s.2.2.toNat) v59<|.lkY Tj.o v58 (s.2.2.toNat) v59<|.sk<|.call (zph v59.fD.fam (i64.wrap ((i64.wrap (s.2.1+1))+1))) fun(v61:Int×List Bool)=>.holA Tj.o v58 s.2.2.toNat (.agg [.int .i64 v59.fk,.int .i64 v59.fh,.gone,.own 1 (v59.fD.fan.map V.bool),.own 1 (v59.fD.fal.map (V.int .i64)),.own 1 (v59.fD.fc.map (V.int .i64))]) fun _=>.holA Tj.o v58 s.2.2.toNat (.agg [.int .i64 v59.fk,.int .i64 v59.fh,.gone,.own 1 (v59.fD.fan.map V.bool),.own 1 (v59.fD.fal.map (V.int .i64)),.own 1 (v59.fD.fc.map (V.int .i64))]) fun _=>.setM Tj.o v58 (s.2.2.toNat) (.agg [.int .i64 v59.fk,.int .i64 v59.fh,.gone,.own 1 (v59.fD.fan.map V.bool),.own 1 (v59.fD.fal.map (V.int .i64)),.own 1 (v59.fD.fc.map (V.int .i64))]) ({ v59 with fD:=({ v59.fD with fam:=v61.2 }:Tm) }:Tj) fun v62=>.guard (0<=s.2.2/\(s.2.2:Int)<(((v62.map Tj.o).length - 0:Nat):Int)) inferInstance<|.lookB Tj.o v62 (s.2.2.toNat) fun v63=>.lkY Tj.o v62 (s.2.2.toNat) v63<|.ob ((v63.fD.fan.map V.bool).length=List.length ((v63.fD.fan.map V.bool)))<|.lkY Tj.o v62 (s.2.2.toNat) v63<|.lkY Tj.o v62 (s.2.2.toNat) v63<|.sk<|.call (zph v63.fD.fan v61.1) fun(v65:Int×List Bool)=>.holA Tj.o v62 s.2.2.toNat (.agg [.int .i64 v63.fk,.int .i64 v63.fh,.own 1 (v63.fD.fam.map V.bool),.gone,.own 1 (v63.fD.fal.map (V.int .i64)),.own 1 (v63.fD.fc.map (V.int .i64))]) fun _=>.holA Tj.o v62 s.2.2.toNat (.agg [.int .i64 v63.fk,.int .i64 v63.fh,.own 1 (v63.fD.fam.map V.bool),.gone,.own 1 (v63.fD.fal.map (V.int .i64)),.own 1 (v63.fD.fc.map (V.int .i64))]) fun _=>.setM Tj.o v62 (s.2.2.toNat) (.agg [.int .i64 v63.fk,.int .i64 v63.fh,.own 1 (v63.fD.fam.map V.bool),.gone,.own 1 (v63.fD.fal.map (V.int .i64)),.own 1 (v63.fD.fc.map (V.int .i64))]) ({ v63 with fD:=({ v63.fD with fan:=v65.2 }:Tm) }:Tj) fun v66=>.guard (0<=s.2.2/\(s.2.2:Int)<(((v66.map Tj.o).length - 0:Nat):Int)) inferInstance<|.lookB Tj.o v66 (s.2.2.toNat) fun v67=>.lkY Tj.o v66 (s.2.2.toNat) v67<|.ob ((v67.fD.fal.map (V.int .i64)).length=List.length ((v67.fD.fal.map (V.int .i64))))<|.lkY Tj.o v66 (s.2.2.toNat) v67<|.lkY Tj.o v66 (s.2.2.toNat) v67<|.sk<|.call (zsc v67.fD.fal v65.1) fun(v69:Int×List Int)=>.holA Tj.o v66 s.2.2.toNat (.agg [.int .i64 v67.fk,.int .i64 v67.fh,.own 1 (v67.fD.fam.map V.bool),.own 1 (v67.fD.fan.map V.bool),.gone,.own 1 (v67.fD.fc.map (V.int .i64))]) fun _=>.holA Tj.o v66 s.2.2.toNat (.agg [.int .i64 v67.fk,.int .i64 v67.fh,.own 1 (v67.fD.fam.map V.bool),.own 1 (v67.fD.fan.map V.bool),.gone,.own 1 (v67.fD.fc.map (V.int .i64))]) fun _=>.setM Tj.o v66 (s.2.2.toNat) (.agg [.int .i64 v67.fk,.int .i64 v67.fh,.own 1 (v67.fD.fam.map V.bool),.own 1 (v67.fD.fan.map V.bool),.gone,.own 1 (v67.fD.fc.map (V.int .i64))]) ({ v67 with fD:=({ v67.fD with fal:=v69.2 }:Tm) }:Tj) fun v70=>.guard (0<=s.2.2/\(s.2.2:Int)<(((v70.map Tj.o).length - 0:Nat):Int)) inferInstance<|.lookB Tj.o v70 (s.2.2.toNat) fun v71=>.lkY Tj.o v70 (s.2.2.toNat) v71<|.ob ((v71.fD.fc.map (V.int .i64)).length=List.length ((v71.fD.fc.map (V.int .i64))))<|.lkY Tj.o v70 (s.2.2.toNat) v71<|.lkY Tj.o v70 (s.2.2.toNat) v71<|.sk<|.call (zsc v71.fD.fc v69.1) fun(v73:Int×List Int)=>.holA Tj.o v70 s.2.2.toNat (.agg [.int .i64 v71.fk,.int .i64 v71.fh,.own 1 (v71.fD.fam.map V.bool),.own 1 (v71.fD.fan.map V.bool),.own 1 (v71.fD.fal.map (V.int .i64)),.gone]) fun _=>.holA Tj.o v70 s.2.2.toNat (.agg [.int .i64 v71.fk,.int .i64 v71.fh,.own 1 (v71.fD.fam.map V.bool),.own 1 (v71.fD.fan.map V.bool),.own 1 (v71.fD.fal.map (V.int .i64)),.gone]) fun _=>.setM Tj.o v70 (s.2.2.toNat) (.agg [.int .i64 v71.fk,.int .i64 v71.fh,.own 1 (v71.fD.fam.map V.bool),.own 1 (v71.fD.fan.map V.bool),.own 1 (v71.fD.fal.map (V.int .i64)),.gone]) ({ v71 with fD:=({ v71.fD with fc:=v73.2 }:Tm) }:Tj) fun v74=>.lfA (zvl) (.inl (v74,v73.1,(i64.wrap (s.2.2+1)))))<|.lfA (zvl) (.inr (s.1,s.2.1,s.2.2)):Tree ((List Tj×Int×Int)⊕((List Tj×Int×Int))) _)) (fun s=>by kernel_rfl) (fun s=>lB<|bR (gU<|⟨za1 _ _ _,fun v53 h54=>⟨za0 _ h54,⟨za0 _ h54,⟨za2 _ _ _ _,fun v55 _=>gU<|⟨za1 _ _ _,fun v56 h57=>⟨za0 _ h57,⟨za0 _ h57,⟨za2 _ _ _ _,fun v58 _=>gU<|⟨za1 _ _ _,fun v59 h60=>⟨za0 _ h60,⟨rfl,⟨za0 _ h60,⟨za0 _ h60,cE ztz fun v61=>⟨zab _ _ _ _,fun _ _=>⟨zab _ _ _ _,fun _ _=>⟨zax _ _ _ _ _,fun v62 _=>gU<|⟨za1 _ _ _,fun v63 h64=>⟨za0 _ h64,⟨rfl,⟨za0 _ h64,⟨za0 _ h64,cE ztz fun v65=>⟨zab _ _ _ _,fun _ _=>⟨zab _ _ _ _,fun _ _=>⟨zax _ _ _ _ _,fun v66 _=>gU<|⟨za1 _ _ _,fun v67 h68=>⟨za0 _ h68,⟨rfl,⟨za0 _ h68,⟨za0 _ h68,cE zt9 fun v69=>⟨zab _ _ _ _,fun _ _=>⟨zab _ _ _ _,fun _ _=>⟨zax _ _ _ _ _,fun v70 _=>gU<|⟨za1 _ _ _,fun v71 h72=>⟨za0 _ h72,⟨rfl,⟨za0 _ h72,⟨za0 _ h72,cE zt9 fun v73=>⟨zab _ _ _ _,fun _ _=>⟨zab _ _ _ _,fun _ _=>⟨zax _ _ _ _ _,fun v74 _=>rfl⟩⟩⟩⟩⟩⟩⟩⟩⟩⟩⟩⟩⟩⟩⟩⟩⟩⟩⟩⟩⟩⟩⟩⟩⟩⟩⟩⟩⟩⟩⟩⟩⟩⟩⟩⟩⟩⟩⟩⟩)<|rfl) (fun _=>rfl) (by kernel_rfl) BIG s)
def yvh:(Int×List Tj)->V×List (List V):=fun r=>(.tup [.int .i64 r.1,.tup [.own 6 (r.2.map Tj.o)]],[])
def yoi (v1:List Tj) (v2:Int):Option (Int×List Tj):=(zsj (v1,v2,0)).bind fun v75=>(some (v75.2.1,v75.1))
def ywd (v1:List Tj) (v2:Int):Ctr:=⟨ylz,[.own 6 (v1.map Tj.o),.I v2],[[.gone]],Int×List Tj,yoi v1 v2,yvh⟩
theorem yxj {v1:List Tj} {v2:Int}:(ywd v1 v2).ok tab:=fun r hr=>zbc yzn rfl (.lp (zyz (v1,v2,0)) fun(v75:List Tj×Int×Int)=>.segA Tj.o v75.1<|.lfA yvh (v75.2.1,v75.1):Tree (Int×List Tj) _) (by kernel_rfl) (by kernel_rfl) (lP yiw fun v75=>sA<|rfl) hr
def zre (s:List Td×Int×Int):St:=⟨sv 6 [(0,.own 16 (s.1.map Td.o)),(1,.I s.2.1),(4,.I s.2.2)],[]⟩
def znc:(List Td×Int×Int)->Ex×St:=fun p=>((.exit 0),⟨sv 6 [(0,.own 16 (p.1.map Td.o)),(1,.I p.2.1),(4,.I p.2.2),(5,.bool false)],[]⟩)
def zz2:=zcj (zre) (znc)
def znm (s:List Td×Int×Int):Option ((List Td×Int×Int)⊕((List Td×Int×Int))):=bif decide (s.2.2<(s.1.length:Int)) then(if 0<=s.2.2/\(s.2.2:Int)<(((s.1.map Td.o).length - 0:Nat):Int) then(((s.1)[s.2.2.toNat]?).bind fun v113=>(let v115:=s.1.set (s.2.2.toNat) ({ v113 with faw:=(decide ((s.2.1.tmod 3)=0)) }:Td);(if 0<=s.2.2/\(s.2.2:Int)<(((v115.map Td.o).length - 0:Nat):Int) then(((v115)[s.2.2.toNat]?).bind fun v116=>(let v118:=v115.set (s.2.2.toNat) ({ v116 with fk:=(i64.wrap (s.2.1+1)) }:Td);(if 0<=s.2.2/\(s.2.2:Int)<(((v118.map Td.o).length - 0:Nat):Int) then(((v118)[s.2.2.toNat]?).bind fun v119=>(let v121:=v118.set (s.2.2.toNat) ({ v119 with fw:=(i64.wrap ((i64.wrap (s.2.1+1))+1)) }:Td);(if 0<=s.2.2/\(s.2.2:Int)<(((v121.map Td.o).length - 0:Nat):Int) then(((v121)[s.2.2.toNat]?).bind fun v122=>(let v124:=v121.set (s.2.2.toNat) ({ v122 with fh:=(i64.wrap ((i64.wrap ((i64.wrap (s.2.1+1))+1))+1)) }:Td);(if 0<=s.2.2/\(s.2.2:Int)<(((v124.map Td.o).length - 0:Nat):Int) then(((v124)[s.2.2.toNat]?).bind fun v125=>(let v127:=v124.set (s.2.2.toNat) ({ v125 with fa:=({ v125.fa with ff:=(i64.wrap ((i64.wrap ((i64.wrap ((i64.wrap (s.2.1+1))+1))+1))+1)) }:Tk) }:Td);(if 0<=s.2.2/\(s.2.2:Int)<(((v127.map Td.o).length - 0:Nat):Int) then(((v127)[s.2.2.toNat]?).bind fun v128=>(let v130:=v127.set (s.2.2.toNat) ({ v128 with fa:=({ v128.fa with fe:=(i64.wrap ((i64.wrap ((i64.wrap ((i64.wrap ((i64.wrap (s.2.1+1))+1))+1))+1))+1)) }:Tk) }:Td);(if 0<=s.2.2/\(s.2.2:Int)<(((v130.map Td.o).length - 0:Nat):Int) then(((v130)[s.2.2.toNat]?).bind fun v131=>(let v133:=v130.set (s.2.2.toNat) ({ v131 with fa:=({ v131.fa with fN:=(i64.wrap ((i64.wrap ((i64.wrap ((i64.wrap ((i64.wrap ((i64.wrap (s.2.1+1))+1))+1))+1))+1))+1)) }:Tk) }:Td);(if 0<=s.2.2/\(s.2.2:Int)<(((v133.map Td.o).length - 0:Nat):Int) then(((v133)[s.2.2.toNat]?).bind fun v134=>((znw v134.fa.fc (i64.wrap ((i64.wrap ((i64.wrap ((i64.wrap ((i64.wrap ((i64.wrap ((i64.wrap (s.2.1+1))+1))+1))+1))+1))+1))+1))).bind fun v136=>((((v133)[s.2.2.toNat]?).map fun _=>()).bind fun _=>((((v133)[s.2.2.toNat]?).map fun _=>()).bind fun _=>(let v137:=v133.set (s.2.2.toNat) ({ v134 with fa:=({ v134.fa with fc:=v136.2 }:Tk) }:Td);(if 0<=s.2.2/\(s.2.2:Int)<(((v137.map Td.o).length - 0:Nat):Int) then(((v137)[s.2.2.toNat]?).bind fun v138=>((zor v138.fa.fd v136.1).bind fun v140=>((((v137)[s.2.2.toNat]?).map fun _=>()).bind fun _=>((((v137)[s.2.2.toNat]?).map fun _=>()).bind fun _=>(let v141:=v137.set (s.2.2.toNat) ({ v138 with fa:=({ v138.fa with fd:=v140.2 }:Tk) }:Td);(if 0<=s.2.2/\(s.2.2:Int)<(((v141.map Td.o).length - 0:Nat):Int) then(((v141)[s.2.2.toNat]?).bind fun v142=>(let v144:=v141.set (s.2.2.toNat) ({ v142 with fa:=({ v142.fa with fi:=v140.1 }:Tk) }:Td);(if 0<=s.2.2/\(s.2.2:Int)<(((v144.map Td.o).length - 0:Nat):Int) then(((v144)[s.2.2.toNat]?).bind fun v145=>(let v147:=v144.set (s.2.2.toNat) ({ v145 with fb:=({ v145.fb with ff:=(i64.wrap (v140.1+1)) }:Tf) }:Td);(if 0<=s.2.2/\(s.2.2:Int)<(((v147.map Td.o).length - 0:Nat):Int) then(((v147)[s.2.2.toNat]?).bind fun v148=>(let v150:=v147.set (s.2.2.toNat) ({ v148 with fb:=({ v148.fb with fj:=(i64.wrap ((i64.wrap (v140.1+1))+1)) }:Tf) }:Td);(if 0<=s.2.2/\(s.2.2:Int)<(((v150.map Td.o).length - 0:Nat):Int) then(((v150)[s.2.2.toNat]?).bind fun v151=>(let v153:=v150.set (s.2.2.toNat) ({ v151 with fb:=({ v151.fb with fe:=(i64.wrap ((i64.wrap ((i64.wrap (v140.1+1))+1))+1)) }:Tf) }:Td);(if 0<=s.2.2/\(s.2.2:Int)<(((v153.map Td.o).length - 0:Nat):Int) then(((v153)[s.2.2.toNat]?).bind fun v154=>(let v156:=v153.set (s.2.2.toNat) ({ v154 with fb:=({ v154.fb with fN:=(i64.wrap ((i64.wrap ((i64.wrap ((i64.wrap (v140.1+1))+1))+1))+1)) }:Tf) }:Td);(if 0<=s.2.2/\(s.2.2:Int)<(((v156.map Td.o).length - 0:Nat):Int) then(((v156)[s.2.2.toNat]?).bind fun v157=>((znw v157.fb.fc (i64.wrap ((i64.wrap ((i64.wrap ((i64.wrap ((i64.wrap (v140.1+1))+1))+1))+1))+1))).bind fun v159=>((((v156)[s.2.2.toNat]?).map fun _=>()).bind fun _=>((((v156)[s.2.2.toNat]?).map fun _=>()).bind fun _=>(let v160:=v156.set (s.2.2.toNat) ({ v157 with fb:=({ v157.fb with fc:=v159.2 }:Tf) }:Td);(if 0<=s.2.2/\(s.2.2:Int)<(((v160.map Td.o).length - 0:Nat):Int) then(((v160)[s.2.2.toNat]?).bind fun v161=>((zor v161.fb.fd v159.1).bind fun v163=>((((v160)[s.2.2.toNat]?).map fun _=>()).bind fun _=>((((v160)[s.2.2.toNat]?).map fun _=>()).bind fun _=>(let v164:=v160.set (s.2.2.toNat) ({ v161 with fb:=({ v161.fb with fd:=v163.2 }:Tf) }:Td);(some (.inl (v164,v163.1,(i64.wrap (s.2.2+1)))))))))) else none)))))) else none))) else none))) else none))) else none))) else none))) else none)))))) else none)))))) else none))) else none))) else none))) else none))) else none))) else none))) else none))) else none) else(some (.inr (s.1,s.2.1,s.2.2)))
def zqf (s:List Td×Int×Int):Option ((List Td×Int×Int)):=zd1 (znm) BIG s
def zyh (s:List Td×Int×Int):Lct:=⟨6,yeu,0,[2,3,5],some (zre s),List Td×Int×Int,zqf s,znc⟩
theorem yj6 {s:List Td×Int×Int}:(zyh s).ok tab:=zbs (zc8 (J:=zre) (o:=(znc)) (B:=fun(s:List Td×Int×Int)=>(.lenB Td.o s.1<|.br (decide (s.2.2<(s.1.length:Int))) (.sk<|.guard (0<=s.2.2/\(s.2.2:Int)<(((s.1.map Td.o).length - 0:Nat):Int)) inferInstance<|.lookB Td.o s.1 (s.2.2.toNat) fun v113=>.lkY Td.o s.1 (s.2.2.toNat) v113<|.lkY Td.o s.1 (s.2.2.toNat) v113<|.setN Td.o s.1 (s.2.2.toNat) ({ v113 with faw:=(decide ((s.2.1.tmod 3)=0)) }:Td) fun v115=>.guard (0<=s.2.2/\(s.2.2:Int)<(((v115.map Td.o).length - 0:Nat):Int)) inferInstance<|.lookB Td.o v115 (s.2.2.toNat) fun v116=>.lkY Td.o v115 (s.2.2.toNat) v116<|.lkY Td.o v115 (s.2.2.toNat) v116<|.setN Td.o v115 (s.2.2.toNat) ({ v116 with fk:=(i64.wrap (s.2.1+1)) }:Td) fun v118=>.guard (0<=s.2.2/\(s.2.2:Int)<(((v118.map Td.o).length - 0:Nat):Int)) inferInstance<|.lookB Td.o v118 (s.2.2.toNat) fun v119=>.lkY Td.o v118 (s.2.2.toNat) v119<|.lkY Td.o v118 (s.2.2.toNat) v119<|.setN Td.o v118 (s.2.2.toNat) ({ v119 with fw:=(i64.wrap ((i64.wrap (s.2.1+1))+1)) }:Td) fun v121=>.guard (0<=s.2.2/\(s.2.2:Int)<(((v121.map Td.o).length - 0:Nat):Int)) inferInstance<|.lookB Td.o v121 (s.2.2.toNat) fun v122=>.lkY Td.o v121 (s.2.2.toNat) v122<|.lkY Td.o v121 (s.2.2.toNat) v122<|.setN Td.o v121 (s.2.2.toNat) ({ v122 with fh:=(i64.wrap ((i64.wrap ((i64.wrap (s.2.1+1))+1))+1)) }:Td) fun v124=>.guard (0<=s.2.2/\(s.2.2:Int)<(((v124.map Td.o).length - 0:Nat):Int)) inferInstance<|.lookB Td.o v124 (s.2.2.toNat) fun v125=>.lkY Td.o v124 (s.2.2.toNat) v125<|.lkY Td.o v124 (s.2.2.toNat) v125<|.setN Td.o v124 (s.2.2.toNat) ({ v125 with fa:=({ v125.fa with ff:=(i64.wrap ((i64.wrap ((i64.wrap ((i64.wrap (s.2.1+1))+1))+1))+1)) }:Tk) }:Td) fun v127=>.guard (0<=s.2.2/\(s.2.2:Int)<(((v127.map Td.o).length - 0:Nat):Int)) inferInstance<|.lookB Td.o v127 (s.2.2.toNat) fun v128=>.lkY Td.o v127 (s.2.2.toNat) v128<|.lkY Td.o v127 (s.2.2.toNat) v128<|.setN Td.o v127 (s.2.2.toNat) ({ v128 with fa:=({ v128.fa with fe:=(i64.wrap ((i64.wrap ((i64.wrap ((i64.wrap ((i64.wrap (s.2.1+1))+1))+1))+1))+1)) }:Tk) }:Td) fun v130=>.guard (0<=s.2.2/\(s.2.2:Int)<(((v130.map Td.o).length - 0:Nat):Int)) inferInstance<|.lookB Td.o v130 (s.2.2.toNat) fun v131=>.lkY Td.o v130 (s.2.2.toNat) v131<|.lkY Td.o v130 (s.2.2.toNat) v131<|.setN Td.o v130 (s.2.2.toNat) ({ v131 with fa:=({ v131.fa with fN:=(i64.wrap ((i64.wrap ((i64.wrap ((i64.wrap ((i64.wrap ((i64.wrap (s.2.1+1))+1))+1))+1))+1))+1)) }:Tk) }:Td) fun v133=>.guard (0<=s.2.2/\(s.2.2:Int)<(((v133.map Td.o).length - 0:Nat):Int)) inferInstance<|.lookB Td.o v133 (s.2.2.toNat) fun v134=>.lkY Td.o v133 (s.2.2.toNat) v134<|.ob ((v134.fa.fc.map (V.int .i64)).length=List.length ((v134.fa.fc.map (V.int .i64))))<|.lkY Td.o v133 (s.2.2.toNat) v134<|.lkY Td.o v133 (s.2.2.toNat) v134<|.sk<|.call (zsc v134.fa.fc (i64.wrap ((i64.wrap ((i64.wrap ((i64.wrap ((i64.wrap ((i64.wrap ((i64.wrap (s.2.1+1))+1))+1))+1))+1))+1))+1))) fun(v136:Int×List Int)=>.holA Td.o v133 s.2.2.toNat (.agg [.bool v134.faw,.int .i64 v134.fk,.int .i64 v134.fw,.int .i64 v134.fh,.int .i64 v134.fa.ff,.int .i64 v134.fa.fe,.int .i64 v134.fa.fN,.gone,.own 1 (v134.fa.fd.map V.bool),.int .i64 v134.fa.fi,.int .i64 v134.fb.ff,.int .i64 v134.fb.fj,.int .i64 v134.fb.fe,.int .i64 v134.fb.fN,.own 1 (v134.fb.fc.map (V.int .i64)),.own 1 (v134.fb.fd.map V.bool)]) fun _=>.holA Td.o v133 s.2.2.toNat (.agg [.bool v134.faw,.int .i64 v134.fk,.int .i64 v134.fw,.int .i64 v134.fh,.int .i64 v134.fa.ff,.int .i64 v134.fa.fe,.int .i64 v134.fa.fN,.gone,.own 1 (v134.fa.fd.map V.bool),.int .i64 v134.fa.fi,.int .i64 v134.fb.ff,.int .i64 v134.fb.fj,.int .i64 v134.fb.fe,.int .i64 v134.fb.fN,.own 1 (v134.fb.fc.map (V.int .i64)),.own 1 (v134.fb.fd.map V.bool)]) fun _=>.setM Td.o v133 (s.2.2.toNat) (.agg [.bool v134.faw,.int .i64 v134.fk,.int .i64 v134.fw,.int .i64 v134.fh,.int .i64 v134.fa.ff,.int .i64 v134.fa.fe,.int .i64 v134.fa.fN,.gone,.own 1 (v134.fa.fd.map V.bool),.int .i64 v134.fa.fi,.int .i64 v134.fb.ff,.int .i64 v134.fb.fj,.int .i64 v134.fb.fe,.int .i64 v134.fb.fN,.own 1 (v134.fb.fc.map (V.int .i64)),.own 1 (v134.fb.fd.map V.bool)]) ({ v134 with fa:=({ v134.fa with fc:=v136.2 }:Tk) }:Td) fun v137=>.guard (0<=s.2.2/\(s.2.2:Int)<(((v137.map Td.o).length - 0:Nat):Int)) inferInstance<|.lookB Td.o v137 (s.2.2.toNat) fun v138=>.lkY Td.o v137 (s.2.2.toNat) v138<|.ob ((v138.fa.fd.map V.bool).length=List.length ((v138.fa.fd.map V.bool)))<|.lkY Td.o v137 (s.2.2.toNat) v138<|.lkY Td.o v137 (s.2.2.toNat) v138<|.sk<|.call (zph v138.fa.fd v136.1) fun(v140:Int×List Bool)=>.holA Td.o v137 s.2.2.toNat (.agg [.bool v138.faw,.int .i64 v138.fk,.int .i64 v138.fw,.int .i64 v138.fh,.int .i64 v138.fa.ff,.int .i64 v138.fa.fe,.int .i64 v138.fa.fN,.own 1 (v138.fa.fc.map (V.int .i64)),.gone,.int .i64 v138.fa.fi,.int .i64 v138.fb.ff,.int .i64 v138.fb.fj,.int .i64 v138.fb.fe,.int .i64 v138.fb.fN,.own 1 (v138.fb.fc.map (V.int .i64)),.own 1 (v138.fb.fd.map V.bool)]) fun _=>.holA Td.o v137 s.2.2.toNat (.agg [.bool v138.faw,.int .i64 v138.fk,.int .i64 v138.fw,.int .i64 v138.fh,.int .i64 v138.fa.ff,.int .i64 v138.fa.fe,.int .i64 v138.fa.fN,.own 1 (v138.fa.fc.map (V.int .i64)),.gone,.int .i64 v138.fa.fi,.int .i64 v138.fb.ff,.int .i64 v138.fb.fj,.int .i64 v138.fb.fe,.int .i64 v138.fb.fN,.own 1 (v138.fb.fc.map (V.int .i64)),.own 1 (v138.fb.fd.map V.bool)]) fun _=>.setM Td.o v137 (s.2.2.toNat) (.agg [.bool v138.faw,.int .i64 v138.fk,.int .i64 v138.fw,.int .i64 v138.fh,.int .i64 v138.fa.ff,.int .i64 v138.fa.fe,.int .i64 v138.fa.fN,.own 1 (v138.fa.fc.map (V.int .i64)),.gone,.int .i64 v138.fa.fi,.int .i64 v138.fb.ff,.int .i64 v138.fb.fj,.int .i64 v138.fb.fe,.int .i64 v138.fb.fN,.own 1 (v138.fb.fc.map (V.int .i64)),.own 1 (v138.fb.fd.map V.bool)]) ({ v138 with fa:=({ v138.fa with fd:=v140.2 }:Tk) }:Td) fun v141=>.guard (0<=s.2.2/\(s.2.2:Int)<(((v141.map Td.o).length - 0:Nat):Int)) inferInstance<|.lookB Td.o v141 (s.2.2.toNat) fun v142=>.lkY Td.o v141 (s.2.2.toNat) v142<|.lkY Td.o v141 (s.2.2.toNat) v142<|.setN Td.o v141 (s.2.2.toNat) ({ v142 with fa:=({ v142.fa with fi:=v140.1 }:Tk) }:Td) fun v144=>.guard (0<=s.2.2/\(s.2.2:Int)<(((v144.map Td.o).length - 0:Nat):Int)) inferInstance<|.lookB Td.o v144 (s.2.2.toNat) fun v145=>.lkY Td.o v144 (s.2.2.toNat) v145<|.lkY Td.o v144 (s.2.2.toNat) v145<|.setN Td.o v144 (s.2.2.toNat) ({ v145 with fb:=({ v145.fb with ff:=(i64.wrap (v140.1+1)) }:Tf) }:Td) fun v147=>.guard (0<=s.2.2/\(s.2.2:Int)<(((v147.map Td.o).length - 0:Nat):Int)) inferInstance<|.lookB Td.o v147 (s.2.2.toNat) fun v148=>.lkY Td.o v147 (s.2.2.toNat) v148<|.lkY Td.o v147 (s.2.2.toNat) v148<|.setN Td.o v147 (s.2.2.toNat) ({ v148 with fb:=({ v148.fb with fj:=(i64.wrap ((i64.wrap (v140.1+1))+1)) }:Tf) }:Td) fun v150=>.guard (0<=s.2.2/\(s.2.2:Int)<(((v150.map Td.o).length - 0:Nat):Int)) inferInstance<|.lookB Td.o v150 (s.2.2.toNat) fun v151=>.lkY Td.o v150 (s.2.2.toNat) v151<|.lkY Td.o v150 (s.2.2.toNat) v151<|.setN Td.o v150 (s.2.2.toNat) ({ v151 with fb:=({ v151.fb with fe:=(i64.wrap ((i64.wrap ((i64.wrap (v140.1+1))+1))+1)) }:Tf) }:Td) fun v153=>.guard (0<=s.2.2/\(s.2.2:Int)<(((v153.map Td.o).length - 0:Nat):Int)) inferInstance<|.lookB Td.o v153 (s.2.2.toNat) fun v154=>.lkY Td.o v153 (s.2.2.toNat) v154<|.lkY Td.o v153 (s.2.2.toNat) v154<|.setN Td.o v153 (s.2.2.toNat) ({ v154 with fb:=({ v154.fb with fN:=(i64.wrap ((i64.wrap ((i64.wrap ((i64.wrap (v140.1+1))+1))+1))+1)) }:Tf) }:Td) fun v156=>.guard (0<=s.2.2/\(s.2.2:Int)<(((v156.map Td.o).length - 0:Nat):Int)) inferInstance<|.lookB Td.o v156 (s.2.2.toNat) fun v157=>.lkY Td.o v156 (s.2.2.toNat) v157<|.ob ((v157.fb.fc.map (V.int .i64)).length=List.length ((v157.fb.fc.map (V.int .i64))))<|.lkY Td.o v156 (s.2.2.toNat) v157<|.lkY Td.o v156 (s.2.2.toNat) v157<|.sk<|.call (zsc v157.fb.fc (i64.wrap ((i64.wrap ((i64.wrap ((i64.wrap ((i64.wrap (v140.1+1))+1))+1))+1))+1))) fun(v159:Int×List Int)=>.holA Td.o v156 s.2.2.toNat (.agg [.bool v157.faw,.int .i64 v157.fk,.int .i64 v157.fw,.int .i64 v157.fh,.int .i64 v157.fa.ff,.int .i64 v157.fa.fe,.int .i64 v157.fa.fN,.own 1 (v157.fa.fc.map (V.int .i64)),.own 1 (v157.fa.fd.map V.bool),.int .i64 v157.fa.fi,.int .i64 v157.fb.ff,.int .i64 v157.fb.fj,.int .i64 v157.fb.fe,.int .i64 v157.fb.fN,.gone,.own 1 (v157.fb.fd.map V.bool)]) fun _=>.holA Td.o v156 s.2.2.toNat (.agg [.bool v157.faw,.int .i64 v157.fk,.int .i64 v157.fw,.int .i64 v157.fh,.int .i64 v157.fa.ff,.int .i64 v157.fa.fe,.int .i64 v157.fa.fN,.own 1 (v157.fa.fc.map (V.int .i64)),.own 1 (v157.fa.fd.map V.bool),.int .i64 v157.fa.fi,.int .i64 v157.fb.ff,.int .i64 v157.fb.fj,.int .i64 v157.fb.fe,.int .i64 v157.fb.fN,.gone,.own 1 (v157.fb.fd.map V.bool)]) fun _=>.setM Td.o v156 (s.2.2.toNat) (.agg [.bool v157.faw,.int .i64 v157.fk,.int .i64 v157.fw,.int .i64 v157.fh,.int .i64 v157.fa.ff,.int .i64 v157.fa.fe,.int .i64 v157.fa.fN,.own 1 (v157.fa.fc.map (V.int .i64)),.own 1 (v157.fa.fd.map V.bool),.int .i64 v157.fa.fi,.int .i64 v157.fb.ff,.int .i64 v157.fb.fj,.int .i64 v157.fb.fe,.int .i64 v157.fb.fN,.gone,.own 1 (v157.fb.fd.map V.bool)]) ({ v157 with fb:=({ v157.fb with fc:=v159.2 }:Tf) }:Td) fun v160=>.guard (0<=s.2.2/\(s.2.2:Int)<(((v160.map Td.o).length - 0:Nat):Int)) inferInstance<|.lookB Td.o v160 (s.2.2.toNat) fun v161=>.lkY Td.o v160 (s.2.2.toNat) v161<|.ob ((v161.fb.fd.map V.bool).length=List.length ((v161.fb.fd.map V.bool)))<|.lkY Td.o v160 (s.2.2.toNat) v161<|.lkY Td.o v160 (s.2.2.toNat) v161<|.sk<|.call (zph v161.fb.fd v159.1) fun(v163:Int×List Bool)=>.holA Td.o v160 s.2.2.toNat (.agg [.bool v161.faw,.int .i64 v161.fk,.int .i64 v161.fw,.int .i64 v161.fh,.int .i64 v161.fa.ff,.int .i64 v161.fa.fe,.int .i64 v161.fa.fN,.own 1 (v161.fa.fc.map (V.int .i64)),.own 1 (v161.fa.fd.map V.bool),.int .i64 v161.fa.fi,.int .i64 v161.fb.ff,.int .i64 v161.fb.fj,.int .i64 v161.fb.fe,.int .i64 v161.fb.fN,.own 1 (v161.fb.fc.map (V.int .i64)),.gone]) fun _=>.holA Td.o v160 s.2.2.toNat (.agg [.bool v161.faw,.int .i64 v161.fk,.int .i64 v161.fw,.int .i64 v161.fh,.int .i64 v161.fa.ff,.int .i64 v161.fa.fe,.int .i64 v161.fa.fN,.own 1 (v161.fa.fc.map (V.int .i64)),.own 1 (v161.fa.fd.map V.bool),.int .i64 v161.fa.fi,.int .i64 v161.fb.ff,.int .i64 v161.fb.fj,.int .i64 v161.fb.fe,.int .i64 v161.fb.fN,.own 1 (v161.fb.fc.map (V.int .i64)),.gone]) fun _=>.setM Td.o v160 (s.2.2.toNat) (.agg [.bool v161.faw,.int .i64 v161.fk,.int .i64 v161.fw,.int .i64 v161.fh,.int .i64 v161.fa.ff,.int .i64 v161.fa.fe,.int .i64 v161.fa.fN,.own 1 (v161.fa.fc.map (V.int .i64)),.own 1 (v161.fa.fd.map V.bool),.int .i64 v161.fa.fi,.int .i64 v161.fb.ff,.int .i64 v161.fb.fj,.int .i64 v161.fb.fe,.int .i64 v161.fb.fN,.own 1 (v161.fb.fc.map (V.int .i64)),.gone]) ({ v161 with fb:=({ v161.fb with fd:=v163.2 }:Tf) }:Td) fun v164=>.lfA (zz2) (.inl (v164,v163.1,(i64.wrap (s.2.2+1)))))<|.lfA (zz2) (.inr (s.1,s.2.1,s.2.2)):Tree ((List Td×Int×Int)⊕((List Td×Int×Int))) _)) (fun s=>by kernel_rfl) (fun s=>lB<|bR (sK<|gU<|⟨za1 _ _ _,fun v113 h114=>⟨za0 _ h114,⟨za0 _ h114,⟨za2 _ _ _ _,fun v115 _=>gU<|⟨za1 _ _ _,fun v116 h117=>⟨za0 _ h117,⟨za0 _ h117,⟨za2 _ _ _ _,fun v118 _=>gU<|⟨za1 _ _ _,fun v119 h120=>⟨za0 _ h120,⟨za0 _ h120,⟨za2 _ _ _ _,fun v121 _=>gU<|⟨za1 _ _ _,fun v122 h123=>⟨za0 _ h123,⟨za0 _ h123,⟨za2 _ _ _ _,fun v124 _=>gU<|⟨za1 _ _ _,fun v125 h126=>⟨za0 _ h126,⟨za0 _ h126,⟨za2 _ _ _ _,fun v127 _=>gU<|⟨za1 _ _ _,fun v128 h129=>⟨za0 _ h129,⟨za0 _ h129,⟨za2 _ _ _ _,fun v130 _=>gU<|⟨za1 _ _ _,fun v131 h132=>⟨za0 _ h132,⟨za0 _ h132,⟨za2 _ _ _ _,fun v133 _=>gU<|⟨za1 _ _ _,fun v134 h135=>⟨za0 _ h135,⟨rfl,⟨za0 _ h135,⟨za0 _ h135,cE zt9 fun v136=>⟨zab _ _ _ _,fun _ _=>⟨zab _ _ _ _,fun _ _=>⟨zax _ _ _ _ _,fun v137 _=>gU<|⟨za1 _ _ _,fun v138 h139=>⟨za0 _ h139,⟨rfl,⟨za0 _ h139,⟨za0 _ h139,cE ztz fun v140=>⟨zab _ _ _ _,fun _ _=>⟨zab _ _ _ _,fun _ _=>⟨zax _ _ _ _ _,fun v141 _=>gU<|⟨za1 _ _ _,fun v142 h143=>⟨za0 _ h143,⟨za0 _ h143,⟨za2 _ _ _ _,fun v144 _=>gU<|⟨za1 _ _ _,fun v145 h146=>⟨za0 _ h146,⟨za0 _ h146,⟨za2 _ _ _ _,fun v147 _=>gU<|⟨za1 _ _ _,fun v148 h149=>⟨za0 _ h149,⟨za0 _ h149,⟨za2 _ _ _ _,fun v150 _=>gU<|⟨za1 _ _ _,fun v151 h152=>⟨za0 _ h152,⟨za0 _ h152,⟨za2 _ _ _ _,fun v153 _=>gU<|⟨za1 _ _ _,fun v154 h155=>⟨za0 _ h155,⟨za0 _ h155,⟨za2 _ _ _ _,fun v156 _=>gU<|⟨za1 _ _ _,fun v157 h158=>⟨za0 _ h158,⟨rfl,⟨za0 _ h158,⟨za0 _ h158,cE zt9 fun v159=>⟨zab _ _ _ _,fun _ _=>⟨zab _ _ _ _,fun _ _=>⟨zax _ _ _ _ _,fun v160 _=>gU<|⟨za1 _ _ _,fun v161 h162=>⟨za0 _ h162,⟨rfl,⟨za0 _ h162,⟨za0 _ h162,cE ztz fun v163=>⟨zab _ _ _ _,fun _ _=>⟨zab _ _ _ _,fun _ _=>⟨zax _ _ _ _ _,fun v164 _=>rfl⟩⟩⟩⟩⟩⟩⟩⟩⟩⟩⟩⟩⟩⟩⟩⟩⟩⟩⟩⟩⟩⟩⟩⟩⟩⟩⟩⟩⟩⟩⟩⟩⟩⟩⟩⟩⟩⟩⟩⟩⟩⟩⟩⟩⟩⟩⟩⟩⟩⟩⟩⟩⟩⟩⟩⟩⟩⟩⟩⟩⟩⟩⟩⟩⟩⟩⟩⟩⟩⟩⟩⟩⟩⟩⟩⟩⟩⟩⟩⟩)<|rfl) (fun _=>rfl) (by kernel_rfl) BIG s)
def ywk:(Int×List Td)->V×List (List V):=fun r=>(.tup [.int .i64 r.1,.tup [.own 16 (r.2.map Td.o)]],[])
def ynf (v1:List Td) (v2:Int):Option (Int×List Td):=(zqf (v1,v2,0)).bind fun v165=>(some (v165.2.1,v165.1))
def ywx (v1:List Td) (v2:Int):Ctr:=⟨yon,[.own 16 (v1.map Td.o),.I v2],[[.gone]],Int×List Td,ynf v1 v2,ywk⟩
theorem qb9 {v1:List Td} {v2:Int}:(ywx v1 v2).ok tab:=fun r hr=>zbc qbo rfl (.lp (zyh (v1,v2,0)) fun(v165:List Td×Int×Int)=>.segA Td.o v165.1<|.lfA ywk (v165.2.1,v165.1):Tree (Int×List Td) _) (by kernel_rfl) (by kernel_rfl) (lP yj6 fun v165=>sA<|rfl) hr
def zsr (s:List Tb×Int×Int):St:=⟨sv 6 [(0,.own 16 (s.1.map Tb.o)),(1,.I s.2.1),(4,.I s.2.2)],[]⟩
def zmc:(List Tb×Int×Int)->Ex×St:=fun p=>((.exit 0),⟨sv 6 [(0,.own 16 (p.1.map Tb.o)),(1,.I p.2.1),(4,.I p.2.2),(5,.bool false)],[]⟩)
def ybr:=zcj (zsr) (zmc)
def zkt (s:List Tb×Int×Int):Option ((List Tb×Int×Int)⊕((List Tb×Int×Int))):=bif decide (s.2.2<(s.1.length:Int)) then(if 0<=s.2.2/\(s.2.2:Int)<(((s.1.map Tb.o).length - 0:Nat):Int) then(((s.1)[s.2.2.toNat]?).bind fun v117=>(let v119:=s.1.set (s.2.2.toNat) ({ v117 with fae:=s.2.1 }:Tb);(if 0<=s.2.2/\(s.2.2:Int)<(((v119.map Tb.o).length - 0:Nat):Int) then(((v119)[s.2.2.toNat]?).bind fun v120=>(let v122:=v119.set (s.2.2.toNat) ({ v120 with faf:=(i64.wrap (s.2.1+1)) }:Tb);(if 0<=s.2.2/\(s.2.2:Int)<(((v122.map Tb.o).length - 0:Nat):Int) then(((v122)[s.2.2.toNat]?).bind fun v123=>(let v125:=v122.set (s.2.2.toNat) ({ v123 with fa:=({ v123.fa with ff:=(i64.wrap ((i64.wrap (s.2.1+1))+1)) }:Tk) }:Tb);(if 0<=s.2.2/\(s.2.2:Int)<(((v125.map Tb.o).length - 0:Nat):Int) then(((v125)[s.2.2.toNat]?).bind fun v126=>(let v128:=v125.set (s.2.2.toNat) ({ v126 with fa:=({ v126.fa with fe:=(i64.wrap ((i64.wrap ((i64.wrap (s.2.1+1))+1))+1)) }:Tk) }:Tb);(if 0<=s.2.2/\(s.2.2:Int)<(((v128.map Tb.o).length - 0:Nat):Int) then(((v128)[s.2.2.toNat]?).bind fun v129=>(let v131:=v128.set (s.2.2.toNat) ({ v129 with fa:=({ v129.fa with fN:=(i64.wrap ((i64.wrap ((i64.wrap ((i64.wrap (s.2.1+1))+1))+1))+1)) }:Tk) }:Tb);(if 0<=s.2.2/\(s.2.2:Int)<(((v131.map Tb.o).length - 0:Nat):Int) then(((v131)[s.2.2.toNat]?).bind fun v132=>((znw v132.fa.fc (i64.wrap ((i64.wrap ((i64.wrap ((i64.wrap ((i64.wrap (s.2.1+1))+1))+1))+1))+1))).bind fun v134=>((((v131)[s.2.2.toNat]?).map fun _=>()).bind fun _=>((((v131)[s.2.2.toNat]?).map fun _=>()).bind fun _=>(let v135:=v131.set (s.2.2.toNat) ({ v132 with fa:=({ v132.fa with fc:=v134.2 }:Tk) }:Tb);(if 0<=s.2.2/\(s.2.2:Int)<(((v135.map Tb.o).length - 0:Nat):Int) then(((v135)[s.2.2.toNat]?).bind fun v136=>((zor v136.fa.fd v134.1).bind fun v138=>((((v135)[s.2.2.toNat]?).map fun _=>()).bind fun _=>((((v135)[s.2.2.toNat]?).map fun _=>()).bind fun _=>(let v139:=v135.set (s.2.2.toNat) ({ v136 with fa:=({ v136.fa with fd:=v138.2 }:Tk) }:Tb);(if 0<=s.2.2/\(s.2.2:Int)<(((v139.map Tb.o).length - 0:Nat):Int) then(((v139)[s.2.2.toNat]?).bind fun v140=>(let v142:=v139.set (s.2.2.toNat) ({ v140 with fa:=({ v140.fa with fi:=v138.1 }:Tk) }:Tb);(if 0<=s.2.2/\(s.2.2:Int)<(((v142.map Tb.o).length - 0:Nat):Int) then(((v142)[s.2.2.toNat]?).bind fun v143=>((yk6 v143.ft (i64.wrap (v138.1+1))).bind fun v145=>((((v142)[s.2.2.toNat]?).map fun _=>()).bind fun _=>((((v142)[s.2.2.toNat]?).map fun _=>()).bind fun _=>(let v146:=v142.set (s.2.2.toNat) ({ v143 with ft:=v145.2 }:Tb);(if 0<=s.2.2/\(s.2.2:Int)<(((v146.map Tb.o).length - 0:Nat):Int) then(((v146)[s.2.2.toNat]?).bind fun v147=>((ykt v147.fu v145.1).bind fun v149=>((((v146)[s.2.2.toNat]?).map fun _=>()).bind fun _=>((((v146)[s.2.2.toNat]?).map fun _=>()).bind fun _=>(let v150:=v146.set (s.2.2.toNat) ({ v147 with fu:=v149.2 }:Tb);(if 0<=s.2.2/\(s.2.2:Int)<(((v150.map Tb.o).length - 0:Nat):Int) then(((v150)[s.2.2.toNat]?).bind fun v151=>(let v153:=v150.set (s.2.2.toNat) ({ v151 with fb:=({ v151.fb with ff:=v149.1 }:Tf) }:Tb);(if 0<=s.2.2/\(s.2.2:Int)<(((v153.map Tb.o).length - 0:Nat):Int) then(((v153)[s.2.2.toNat]?).bind fun v154=>(let v156:=v153.set (s.2.2.toNat) ({ v154 with fb:=({ v154.fb with fj:=(i64.wrap (v149.1+1)) }:Tf) }:Tb);(if 0<=s.2.2/\(s.2.2:Int)<(((v156.map Tb.o).length - 0:Nat):Int) then(((v156)[s.2.2.toNat]?).bind fun v157=>(let v159:=v156.set (s.2.2.toNat) ({ v157 with fb:=({ v157.fb with fe:=(i64.wrap ((i64.wrap (v149.1+1))+1)) }:Tf) }:Tb);(if 0<=s.2.2/\(s.2.2:Int)<(((v159.map Tb.o).length - 0:Nat):Int) then(((v159)[s.2.2.toNat]?).bind fun v160=>(let v162:=v159.set (s.2.2.toNat) ({ v160 with fb:=({ v160.fb with fN:=(i64.wrap ((i64.wrap ((i64.wrap (v149.1+1))+1))+1)) }:Tf) }:Tb);(if 0<=s.2.2/\(s.2.2:Int)<(((v162.map Tb.o).length - 0:Nat):Int) then(((v162)[s.2.2.toNat]?).bind fun v163=>((znw v163.fb.fc (i64.wrap ((i64.wrap ((i64.wrap ((i64.wrap (v149.1+1))+1))+1))+1))).bind fun v165=>((((v162)[s.2.2.toNat]?).map fun _=>()).bind fun _=>((((v162)[s.2.2.toNat]?).map fun _=>()).bind fun _=>(let v166:=v162.set (s.2.2.toNat) ({ v163 with fb:=({ v163.fb with fc:=v165.2 }:Tf) }:Tb);(if 0<=s.2.2/\(s.2.2:Int)<(((v166.map Tb.o).length - 0:Nat):Int) then(((v166)[s.2.2.toNat]?).bind fun v167=>((zor v167.fb.fd v165.1).bind fun v169=>((((v166)[s.2.2.toNat]?).map fun _=>()).bind fun _=>((((v166)[s.2.2.toNat]?).map fun _=>()).bind fun _=>(let v170:=v166.set (s.2.2.toNat) ({ v167 with fb:=({ v167.fb with fd:=v169.2 }:Tf) }:Tb);(some (.inl (v170,v169.1,(i64.wrap (s.2.2+1)))))))))) else none)))))) else none))) else none))) else none))) else none))) else none)))))) else none)))))) else none))) else none)))))) else none)))))) else none))) else none))) else none))) else none))) else none))) else none) else(some (.inr (s.1,s.2.1,s.2.2)))
def zsu (s:List Tb×Int×Int):Option ((List Tb×Int×Int)):=zd1 (zkt) BIG s
def zxb (s:List Tb×Int×Int):Lct:=⟨6,yeo,0,[2,3,5],some (zsr s),List Tb×Int×Int,zsu s,zmc⟩
theorem ygs {s:List Tb×Int×Int}:(zxb s).ok tab:=zbs (zc8 (J:=zsr) (o:=(zmc)) (B:=fun(s:List Tb×Int×Int)=>(.lenB Tb.o s.1<|.br (decide (s.2.2<(s.1.length:Int))) (.guard (0<=s.2.2/\(s.2.2:Int)<(((s.1.map Tb.o).length - 0:Nat):Int)) inferInstance<|.lookB Tb.o s.1 (s.2.2.toNat) fun v117=>.lkY Tb.o s.1 (s.2.2.toNat) v117<|.lkY Tb.o s.1 (s.2.2.toNat) v117<|.setN Tb.o s.1 (s.2.2.toNat) ({ v117 with fae:=s.2.1 }:Tb) fun v119=>.guard (0<=s.2.2/\(s.2.2:Int)<(((v119.map Tb.o).length - 0:Nat):Int)) inferInstance<|.lookB Tb.o v119 (s.2.2.toNat) fun v120=>.lkY Tb.o v119 (s.2.2.toNat) v120<|.lkY Tb.o v119 (s.2.2.toNat) v120<|.setN Tb.o v119 (s.2.2.toNat) ({ v120 with faf:=(i64.wrap (s.2.1+1)) }:Tb) fun v122=>.guard (0<=s.2.2/\(s.2.2:Int)<(((v122.map Tb.o).length - 0:Nat):Int)) inferInstance<|.lookB Tb.o v122 (s.2.2.toNat) fun v123=>.lkY Tb.o v122 (s.2.2.toNat) v123<|.lkY Tb.o v122 (s.2.2.toNat) v123<|.setN Tb.o v122 (s.2.2.toNat) ({ v123 with fa:=({ v123.fa with ff:=(i64.wrap ((i64.wrap (s.2.1+1))+1)) }:Tk) }:Tb) fun v125=>.guard (0<=s.2.2/\(s.2.2:Int)<(((v125.map Tb.o).length - 0:Nat):Int)) inferInstance<|.lookB Tb.o v125 (s.2.2.toNat) fun v126=>.lkY Tb.o v125 (s.2.2.toNat) v126<|.lkY Tb.o v125 (s.2.2.toNat) v126<|.setN Tb.o v125 (s.2.2.toNat) ({ v126 with fa:=({ v126.fa with fe:=(i64.wrap ((i64.wrap ((i64.wrap (s.2.1+1))+1))+1)) }:Tk) }:Tb) fun v128=>.guard (0<=s.2.2/\(s.2.2:Int)<(((v128.map Tb.o).length - 0:Nat):Int)) inferInstance<|.lookB Tb.o v128 (s.2.2.toNat) fun v129=>.lkY Tb.o v128 (s.2.2.toNat) v129<|.lkY Tb.o v128 (s.2.2.toNat) v129<|.setN Tb.o v128 (s.2.2.toNat) ({ v129 with fa:=({ v129.fa with fN:=(i64.wrap ((i64.wrap ((i64.wrap ((i64.wrap (s.2.1+1))+1))+1))+1)) }:Tk) }:Tb) fun v131=>.guard (0<=s.2.2/\(s.2.2:Int)<(((v131.map Tb.o).length - 0:Nat):Int)) inferInstance<|.lookB Tb.o v131 (s.2.2.toNat) fun v132=>.lkY Tb.o v131 (s.2.2.toNat) v132<|.ob ((v132.fa.fc.map (V.int .i64)).length=List.length ((v132.fa.fc.map (V.int .i64))))<|.lkY Tb.o v131 (s.2.2.toNat) v132<|.lkY Tb.o v131 (s.2.2.toNat) v132<|.sk<|.call (zsc v132.fa.fc (i64.wrap ((i64.wrap ((i64.wrap ((i64.wrap ((i64.wrap (s.2.1+1))+1))+1))+1))+1))) fun(v134:Int×List Int)=>.holA Tb.o v131 s.2.2.toNat (.agg [.int .i64 v132.fae,.int .i64 v132.faf,.int .i64 v132.fa.ff,.int .i64 v132.fa.fe,.int .i64 v132.fa.fN,.gone,.own 1 (v132.fa.fd.map V.bool),.int .i64 v132.fa.fi,.own 8 (v132.ft.map Th.o),.own 6 (v132.fu.map Tf.o),.int .i64 v132.fb.ff,.int .i64 v132.fb.fj,.int .i64 v132.fb.fe,.int .i64 v132.fb.fN,.own 1 (v132.fb.fc.map (V.int .i64)),.own 1 (v132.fb.fd.map V.bool)]) fun _=>.holA Tb.o v131 s.2.2.toNat (.agg [.int .i64 v132.fae,.int .i64 v132.faf,.int .i64 v132.fa.ff,.int .i64 v132.fa.fe,.int .i64 v132.fa.fN,.gone,.own 1 (v132.fa.fd.map V.bool),.int .i64 v132.fa.fi,.own 8 (v132.ft.map Th.o),.own 6 (v132.fu.map Tf.o),.int .i64 v132.fb.ff,.int .i64 v132.fb.fj,.int .i64 v132.fb.fe,.int .i64 v132.fb.fN,.own 1 (v132.fb.fc.map (V.int .i64)),.own 1 (v132.fb.fd.map V.bool)]) fun _=>.setM Tb.o v131 (s.2.2.toNat) (.agg [.int .i64 v132.fae,.int .i64 v132.faf,.int .i64 v132.fa.ff,.int .i64 v132.fa.fe,.int .i64 v132.fa.fN,.gone,.own 1 (v132.fa.fd.map V.bool),.int .i64 v132.fa.fi,.own 8 (v132.ft.map Th.o),.own 6 (v132.fu.map Tf.o),.int .i64 v132.fb.ff,.int .i64 v132.fb.fj,.int .i64 v132.fb.fe,.int .i64 v132.fb.fN,.own 1 (v132.fb.fc.map (V.int .i64)),.own 1 (v132.fb.fd.map V.bool)]) ({ v132 with fa:=({ v132.fa with fc:=v134.2 }:Tk) }:Tb) fun v135=>.guard (0<=s.2.2/\(s.2.2:Int)<(((v135.map Tb.o).length - 0:Nat):Int)) inferInstance<|.lookB Tb.o v135 (s.2.2.toNat) fun v136=>.lkY Tb.o v135 (s.2.2.toNat) v136<|.ob ((v136.fa.fd.map V.bool).length=List.length ((v136.fa.fd.map V.bool)))<|.lkY Tb.o v135 (s.2.2.toNat) v136<|.lkY Tb.o v135 (s.2.2.toNat) v136<|.sk<|.call (zph v136.fa.fd v134.1) fun(v138:Int×List Bool)=>.holA Tb.o v135 s.2.2.toNat (.agg [.int .i64 v136.fae,.int .i64 v136.faf,.int .i64 v136.fa.ff,.int .i64 v136.fa.fe,.int .i64 v136.fa.fN,.own 1 (v136.fa.fc.map (V.int .i64)),.gone,.int .i64 v136.fa.fi,.own 8 (v136.ft.map Th.o),.own 6 (v136.fu.map Tf.o),.int .i64 v136.fb.ff,.int .i64 v136.fb.fj,.int .i64 v136.fb.fe,.int .i64 v136.fb.fN,.own 1 (v136.fb.fc.map (V.int .i64)),.own 1 (v136.fb.fd.map V.bool)]) fun _=>.holA Tb.o v135 s.2.2.toNat (.agg [.int .i64 v136.fae,.int .i64 v136.faf,.int .i64 v136.fa.ff,.int .i64 v136.fa.fe,.int .i64 v136.fa.fN,.own 1 (v136.fa.fc.map (V.int .i64)),.gone,.int .i64 v136.fa.fi,.own 8 (v136.ft.map Th.o),.own 6 (v136.fu.map Tf.o),.int .i64 v136.fb.ff,.int .i64 v136.fb.fj,.int .i64 v136.fb.fe,.int .i64 v136.fb.fN,.own 1 (v136.fb.fc.map (V.int .i64)),.own 1 (v136.fb.fd.map V.bool)]) fun _=>.setM Tb.o v135 (s.2.2.toNat) (.agg [.int .i64 v136.fae,.int .i64 v136.faf,.int .i64 v136.fa.ff,.int .i64 v136.fa.fe,.int .i64 v136.fa.fN,.own 1 (v136.fa.fc.map (V.int .i64)),.gone,.int .i64 v136.fa.fi,.own 8 (v136.ft.map Th.o),.own 6 (v136.fu.map Tf.o),.int .i64 v136.fb.ff,.int .i64 v136.fb.fj,.int .i64 v136.fb.fe,.int .i64 v136.fb.fN,.own 1 (v136.fb.fc.map (V.int .i64)),.own 1 (v136.fb.fd.map V.bool)]) ({ v136 with fa:=({ v136.fa with fd:=v138.2 }:Tk) }:Tb) fun v139=>.guard (0<=s.2.2/\(s.2.2:Int)<(((v139.map Tb.o).length - 0:Nat):Int)) inferInstance<|.lookB Tb.o v139 (s.2.2.toNat) fun v140=>.lkY Tb.o v139 (s.2.2.toNat) v140<|.lkY Tb.o v139 (s.2.2.toNat) v140<|.setN Tb.o v139 (s.2.2.toNat) ({ v140 with fa:=({ v140.fa with fi:=v138.1 }:Tk) }:Tb) fun v142=>.guard (0<=s.2.2/\(s.2.2:Int)<(((v142.map Tb.o).length - 0:Nat):Int)) inferInstance<|.lookB Tb.o v142 (s.2.2.toNat) fun v143=>.lkY Tb.o v142 (s.2.2.toNat) v143<|.ob ((v143.ft.map Th.o).length=List.length ((v143.ft.map Th.o)))<|.lkY Tb.o v142 (s.2.2.toNat) v143<|.lkY Tb.o v142 (s.2.2.toNat) v143<|.sk<|.call (ysm v143.ft (i64.wrap (v138.1+1))) fun(v145:Int×List Th)=>.holA Tb.o v142 s.2.2.toNat (.agg [.int .i64 v143.fae,.int .i64 v143.faf,.int .i64 v143.fa.ff,.int .i64 v143.fa.fe,.int .i64 v143.fa.fN,.own 1 (v143.fa.fc.map (V.int .i64)),.own 1 (v143.fa.fd.map V.bool),.int .i64 v143.fa.fi,.gone,.own 6 (v143.fu.map Tf.o),.int .i64 v143.fb.ff,.int .i64 v143.fb.fj,.int .i64 v143.fb.fe,.int .i64 v143.fb.fN,.own 1 (v143.fb.fc.map (V.int .i64)),.own 1 (v143.fb.fd.map V.bool)]) fun _=>.holA Tb.o v142 s.2.2.toNat (.agg [.int .i64 v143.fae,.int .i64 v143.faf,.int .i64 v143.fa.ff,.int .i64 v143.fa.fe,.int .i64 v143.fa.fN,.own 1 (v143.fa.fc.map (V.int .i64)),.own 1 (v143.fa.fd.map V.bool),.int .i64 v143.fa.fi,.gone,.own 6 (v143.fu.map Tf.o),.int .i64 v143.fb.ff,.int .i64 v143.fb.fj,.int .i64 v143.fb.fe,.int .i64 v143.fb.fN,.own 1 (v143.fb.fc.map (V.int .i64)),.own 1 (v143.fb.fd.map V.bool)]) fun _=>.setM Tb.o v142 (s.2.2.toNat) (.agg [.int .i64 v143.fae,.int .i64 v143.faf,.int .i64 v143.fa.ff,.int .i64 v143.fa.fe,.int .i64 v143.fa.fN,.own 1 (v143.fa.fc.map (V.int .i64)),.own 1 (v143.fa.fd.map V.bool),.int .i64 v143.fa.fi,.gone,.own 6 (v143.fu.map Tf.o),.int .i64 v143.fb.ff,.int .i64 v143.fb.fj,.int .i64 v143.fb.fe,.int .i64 v143.fb.fN,.own 1 (v143.fb.fc.map (V.int .i64)),.own 1 (v143.fb.fd.map V.bool)]) ({ v143 with ft:=v145.2 }:Tb) fun v146=>.guard (0<=s.2.2/\(s.2.2:Int)<(((v146.map Tb.o).length - 0:Nat):Int)) inferInstance<|.lookB Tb.o v146 (s.2.2.toNat) fun v147=>.lkY Tb.o v146 (s.2.2.toNat) v147<|.ob ((v147.fu.map Tf.o).length=List.length ((v147.fu.map Tf.o)))<|.lkY Tb.o v146 (s.2.2.toNat) v147<|.lkY Tb.o v146 (s.2.2.toNat) v147<|.sk<|.call (yq8 v147.fu v145.1) fun(v149:Int×List Tf)=>.holA Tb.o v146 s.2.2.toNat (.agg [.int .i64 v147.fae,.int .i64 v147.faf,.int .i64 v147.fa.ff,.int .i64 v147.fa.fe,.int .i64 v147.fa.fN,.own 1 (v147.fa.fc.map (V.int .i64)),.own 1 (v147.fa.fd.map V.bool),.int .i64 v147.fa.fi,.own 8 (v147.ft.map Th.o),.gone,.int .i64 v147.fb.ff,.int .i64 v147.fb.fj,.int .i64 v147.fb.fe,.int .i64 v147.fb.fN,.own 1 (v147.fb.fc.map (V.int .i64)),.own 1 (v147.fb.fd.map V.bool)]) fun _=>.holA Tb.o v146 s.2.2.toNat (.agg [.int .i64 v147.fae,.int .i64 v147.faf,.int .i64 v147.fa.ff,.int .i64 v147.fa.fe,.int .i64 v147.fa.fN,.own 1 (v147.fa.fc.map (V.int .i64)),.own 1 (v147.fa.fd.map V.bool),.int .i64 v147.fa.fi,.own 8 (v147.ft.map Th.o),.gone,.int .i64 v147.fb.ff,.int .i64 v147.fb.fj,.int .i64 v147.fb.fe,.int .i64 v147.fb.fN,.own 1 (v147.fb.fc.map (V.int .i64)),.own 1 (v147.fb.fd.map V.bool)]) fun _=>.setM Tb.o v146 (s.2.2.toNat) (.agg [.int .i64 v147.fae,.int .i64 v147.faf,.int .i64 v147.fa.ff,.int .i64 v147.fa.fe,.int .i64 v147.fa.fN,.own 1 (v147.fa.fc.map (V.int .i64)),.own 1 (v147.fa.fd.map V.bool),.int .i64 v147.fa.fi,.own 8 (v147.ft.map Th.o),.gone,.int .i64 v147.fb.ff,.int .i64 v147.fb.fj,.int .i64 v147.fb.fe,.int .i64 v147.fb.fN,.own 1 (v147.fb.fc.map (V.int .i64)),.own 1 (v147.fb.fd.map V.bool)]) ({ v147 with fu:=v149.2 }:Tb) fun v150=>.guard (0<=s.2.2/\(s.2.2:Int)<(((v150.map Tb.o).length - 0:Nat):Int)) inferInstance<|.lookB Tb.o v150 (s.2.2.toNat) fun v151=>.lkY Tb.o v150 (s.2.2.toNat) v151<|.lkY Tb.o v150 (s.2.2.toNat) v151<|.setN Tb.o v150 (s.2.2.toNat) ({ v151 with fb:=({ v151.fb with ff:=v149.1 }:Tf) }:Tb) fun v153=>.guard (0<=s.2.2/\(s.2.2:Int)<(((v153.map Tb.o).length - 0:Nat):Int)) inferInstance<|.lookB Tb.o v153 (s.2.2.toNat) fun v154=>.lkY Tb.o v153 (s.2.2.toNat) v154<|.lkY Tb.o v153 (s.2.2.toNat) v154<|.setN Tb.o v153 (s.2.2.toNat) ({ v154 with fb:=({ v154.fb with fj:=(i64.wrap (v149.1+1)) }:Tf) }:Tb) fun v156=>.guard (0<=s.2.2/\(s.2.2:Int)<(((v156.map Tb.o).length - 0:Nat):Int)) inferInstance<|.lookB Tb.o v156 (s.2.2.toNat) fun v157=>.lkY Tb.o v156 (s.2.2.toNat) v157<|.lkY Tb.o v156 (s.2.2.toNat) v157<|.setN Tb.o v156 (s.2.2.toNat) ({ v157 with fb:=({ v157.fb with fe:=(i64.wrap ((i64.wrap (v149.1+1))+1)) }:Tf) }:Tb) fun v159=>.guard (0<=s.2.2/\(s.2.2:Int)<(((v159.map Tb.o).length - 0:Nat):Int)) inferInstance<|.lookB Tb.o v159 (s.2.2.toNat) fun v160=>.lkY Tb.o v159 (s.2.2.toNat) v160<|.lkY Tb.o v159 (s.2.2.toNat) v160<|.setN Tb.o v159 (s.2.2.toNat) ({ v160 with fb:=({ v160.fb with fN:=(i64.wrap ((i64.wrap ((i64.wrap (v149.1+1))+1))+1)) }:Tf) }:Tb) fun v162=>.guard (0<=s.2.2/\(s.2.2:Int)<(((v162.map Tb.o).length - 0:Nat):Int)) inferInstance<|.lookB Tb.o v162 (s.2.2.toNat) fun v163=>.lkY Tb.o v162 (s.2.2.toNat) v163<|.ob ((v163.fb.fc.map (V.int .i64)).length=List.length ((v163.fb.fc.map (V.int .i64))))<|.lkY Tb.o v162 (s.2.2.toNat) v163<|.lkY Tb.o v162 (s.2.2.toNat) v163<|.sk<|.call (zsc v163.fb.fc (i64.wrap ((i64.wrap ((i64.wrap ((i64.wrap (v149.1+1))+1))+1))+1))) fun(v165:Int×List Int)=>.holA Tb.o v162 s.2.2.toNat (.agg [.int .i64 v163.fae,.int .i64 v163.faf,.int .i64 v163.fa.ff,.int .i64 v163.fa.fe,.int .i64 v163.fa.fN,.own 1 (v163.fa.fc.map (V.int .i64)),.own 1 (v163.fa.fd.map V.bool),.int .i64 v163.fa.fi,.own 8 (v163.ft.map Th.o),.own 6 (v163.fu.map Tf.o),.int .i64 v163.fb.ff,.int .i64 v163.fb.fj,.int .i64 v163.fb.fe,.int .i64 v163.fb.fN,.gone,.own 1 (v163.fb.fd.map V.bool)]) fun _=>.holA Tb.o v162 s.2.2.toNat (.agg [.int .i64 v163.fae,.int .i64 v163.faf,.int .i64 v163.fa.ff,.int .i64 v163.fa.fe,.int .i64 v163.fa.fN,.own 1 (v163.fa.fc.map (V.int .i64)),.own 1 (v163.fa.fd.map V.bool),.int .i64 v163.fa.fi,.own 8 (v163.ft.map Th.o),.own 6 (v163.fu.map Tf.o),.int .i64 v163.fb.ff,.int .i64 v163.fb.fj,.int .i64 v163.fb.fe,.int .i64 v163.fb.fN,.gone,.own 1 (v163.fb.fd.map V.bool)]) fun _=>.setM Tb.o v162 (s.2.2.toNat) (.agg [.int .i64 v163.fae,.int .i64 v163.faf,.int .i64 v163.fa.ff,.int .i64 v163.fa.fe,.int .i64 v163.fa.fN,.own 1 (v163.fa.fc.map (V.int .i64)),.own 1 (v163.fa.fd.map V.bool),.int .i64 v163.fa.fi,.own 8 (v163.ft.map Th.o),.own 6 (v163.fu.map Tf.o),.int .i64 v163.fb.ff,.int .i64 v163.fb.fj,.int .i64 v163.fb.fe,.int .i64 v163.fb.fN,.gone,.own 1 (v163.fb.fd.map V.bool)]) ({ v163 with fb:=({ v163.fb with fc:=v165.2 }:Tf) }:Tb) fun v166=>.guard (0<=s.2.2/\(s.2.2:Int)<(((v166.map Tb.o).length - 0:Nat):Int)) inferInstance<|.lookB Tb.o v166 (s.2.2.toNat) fun v167=>.lkY Tb.o v166 (s.2.2.toNat) v167<|.ob ((v167.fb.fd.map V.bool).length=List.length ((v167.fb.fd.map V.bool)))<|.lkY Tb.o v166 (s.2.2.toNat) v167<|.lkY Tb.o v166 (s.2.2.toNat) v167<|.sk<|.call (zph v167.fb.fd v165.1) fun(v169:Int×List Bool)=>.holA Tb.o v166 s.2.2.toNat (.agg [.int .i64 v167.fae,.int .i64 v167.faf,.int .i64 v167.fa.ff,.int .i64 v167.fa.fe,.int .i64 v167.fa.fN,.own 1 (v167.fa.fc.map (V.int .i64)),.own 1 (v167.fa.fd.map V.bool),.int .i64 v167.fa.fi,.own 8 (v167.ft.map Th.o),.own 6 (v167.fu.map Tf.o),.int .i64 v167.fb.ff,.int .i64 v167.fb.fj,.int .i64 v167.fb.fe,.int .i64 v167.fb.fN,.own 1 (v167.fb.fc.map (V.int .i64)),.gone]) fun _=>.holA Tb.o v166 s.2.2.toNat (.agg [.int .i64 v167.fae,.int .i64 v167.faf,.int .i64 v167.fa.ff,.int .i64 v167.fa.fe,.int .i64 v167.fa.fN,.own 1 (v167.fa.fc.map (V.int .i64)),.own 1 (v167.fa.fd.map V.bool),.int .i64 v167.fa.fi,.own 8 (v167.ft.map Th.o),.own 6 (v167.fu.map Tf.o),.int .i64 v167.fb.ff,.int .i64 v167.fb.fj,.int .i64 v167.fb.fe,.int .i64 v167.fb.fN,.own 1 (v167.fb.fc.map (V.int .i64)),.gone]) fun _=>.setM Tb.o v166 (s.2.2.toNat) (.agg [.int .i64 v167.fae,.int .i64 v167.faf,.int .i64 v167.fa.ff,.int .i64 v167.fa.fe,.int .i64 v167.fa.fN,.own 1 (v167.fa.fc.map (V.int .i64)),.own 1 (v167.fa.fd.map V.bool),.int .i64 v167.fa.fi,.own 8 (v167.ft.map Th.o),.own 6 (v167.fu.map Tf.o),.int .i64 v167.fb.ff,.int .i64 v167.fb.fj,.int .i64 v167.fb.fe,.int .i64 v167.fb.fN,.own 1 (v167.fb.fc.map (V.int .i64)),.gone]) ({ v167 with fb:=({ v167.fb with fd:=v169.2 }:Tf) }:Tb) fun v170=>.lfA (ybr) (.inl (v170,v169.1,(i64.wrap (s.2.2+1)))))<|.lfA (ybr) (.inr (s.1,s.2.1,s.2.2)):Tree ((List Tb×Int×Int)⊕((List Tb×Int×Int))) _)) (fun s=>by kernel_rfl) (fun s=>lB<|bR (gU<|⟨za1 _ _ _,fun v117 h118=>⟨za0 _ h118,⟨za0 _ h118,⟨za2 _ _ _ _,fun v119 _=>gU<|⟨za1 _ _ _,fun v120 h121=>⟨za0 _ h121,⟨za0 _ h121,⟨za2 _ _ _ _,fun v122 _=>gU<|⟨za1 _ _ _,fun v123 h124=>⟨za0 _ h124,⟨za0 _ h124,⟨za2 _ _ _ _,fun v125 _=>gU<|⟨za1 _ _ _,fun v126 h127=>⟨za0 _ h127,⟨za0 _ h127,⟨za2 _ _ _ _,fun v128 _=>gU<|⟨za1 _ _ _,fun v129 h130=>⟨za0 _ h130,⟨za0 _ h130,⟨za2 _ _ _ _,fun v131 _=>gU<|⟨za1 _ _ _,fun v132 h133=>⟨za0 _ h133,⟨rfl,⟨za0 _ h133,⟨za0 _ h133,cE zt9 fun v134=>⟨zab _ _ _ _,fun _ _=>⟨zab _ _ _ _,fun _ _=>⟨zax _ _ _ _ _,fun v135 _=>gU<|⟨za1 _ _ _,fun v136 h137=>⟨za0 _ h137,⟨rfl,⟨za0 _ h137,⟨za0 _ h137,cE ztz fun v138=>⟨zab _ _ _ _,fun _ _=>⟨zab _ _ _ _,fun _ _=>⟨zax _ _ _ _ _,fun v139 _=>gU<|⟨za1 _ _ _,fun v140 h141=>⟨za0 _ h141,⟨za0 _ h141,⟨za2 _ _ _ _,fun v142 _=>gU<|⟨za1 _ _ _,fun v143 h144=>⟨za0 _ h144,⟨rfl,⟨za0 _ h144,⟨za0 _ h144,cE yui fun v145=>⟨zab _ _ _ _,fun _ _=>⟨zab _ _ _ _,fun _ _=>⟨zax _ _ _ _ _,fun v146 _=>gU<|⟨za1 _ _ _,fun v147 h148=>⟨za0 _ h148,⟨rfl,⟨za0 _ h148,⟨za0 _ h148,cE yum fun v149=>⟨zab _ _ _ _,fun _ _=>⟨zab _ _ _ _,fun _ _=>⟨zax _ _ _ _ _,fun v150 _=>gU<|⟨za1 _ _ _,fun v151 h152=>⟨za0 _ h152,⟨za0 _ h152,⟨za2 _ _ _ _,fun v153 _=>gU<|⟨za1 _ _ _,fun v154 h155=>⟨za0 _ h155,⟨za0 _ h155,⟨za2 _ _ _ _,fun v156 _=>gU<|⟨za1 _ _ _,fun v157 h158=>⟨za0 _ h158,⟨za0 _ h158,⟨za2 _ _ _ _,fun v159 _=>gU<|⟨za1 _ _ _,fun v160 h161=>⟨za0 _ h161,⟨za0 _ h161,⟨za2 _ _ _ _,fun v162 _=>gU<|⟨za1 _ _ _,fun v163 h164=>⟨za0 _ h164,⟨rfl,⟨za0 _ h164,⟨za0 _ h164,cE zt9 fun v165=>⟨zab _ _ _ _,fun _ _=>⟨zab _ _ _ _,fun _ _=>⟨zax _ _ _ _ _,fun v166 _=>gU<|⟨za1 _ _ _,fun v167 h168=>⟨za0 _ h168,⟨rfl,⟨za0 _ h168,⟨za0 _ h168,cE ztz fun v169=>⟨zab _ _ _ _,fun _ _=>⟨zab _ _ _ _,fun _ _=>⟨zax _ _ _ _ _,fun v170 _=>rfl⟩⟩⟩⟩⟩⟩⟩⟩⟩⟩⟩⟩⟩⟩⟩⟩⟩⟩⟩⟩⟩⟩⟩⟩⟩⟩⟩⟩⟩⟩⟩⟩⟩⟩⟩⟩⟩⟩⟩⟩⟩⟩⟩⟩⟩⟩⟩⟩⟩⟩⟩⟩⟩⟩⟩⟩⟩⟩⟩⟩⟩⟩⟩⟩⟩⟩⟩⟩⟩⟩⟩⟩⟩⟩⟩⟩⟩⟩⟩⟩⟩⟩⟩⟩⟩⟩⟩⟩)<|rfl) (fun _=>rfl) (by kernel_rfl) BIG s)
def yv9:(Int×List Tb)->V×List (List V):=fun r=>(.tup [.int .i64 r.1,.tup [.own 16 (r.2.map Tb.o)]],[])
def ypr (v1:List Tb) (v2:Int):Option (Int×List Tb):=(zsu (v1,v2,0)).bind fun v171=>(some (v171.2.1,v171.1))
def ywj (v1:List Tb) (v2:Int):Ctr:=⟨ymj,[.own 16 (v1.map Tb.o),.I v2],[[.gone]],Int×List Tb,ypr v1 v2,yv9⟩
theorem qhj {v1:List Tb} {v2:Int}:(ywj v1 v2).ok tab:=fun r hr=>zbc qi4 rfl (.lp (zxb (v1,v2,0)) fun(v171:List Tb×Int×Int)=>.segA Tb.o v171.1<|.lfA yv9 (v171.2.1,v171.1):Tree (Int×List Tb) _) (by kernel_rfl) (by kernel_rfl) (lP ygs fun v171=>sA<|rfl) hr
def zpm (s:List Te×Int×Int):St:=⟨sv 6 [(0,.own 15 (s.1.map Te.o)),(1,.I s.2.1),(4,.I s.2.2)],[]⟩
def znp:(List Te×Int×Int)->Ex×St:=fun p=>((.exit 0),⟨sv 6 [(0,.own 15 (p.1.map Te.o)),(1,.I p.2.1),(4,.I p.2.2),(5,.bool false)],[]⟩)
def zx2:=zcj (zpm) (znp)
def zn0 (s:List Te×Int×Int):Option ((List Te×Int×Int)⊕((List Te×Int×Int))):=bif decide (s.2.2<(s.1.length:Int)) then(if 0<=s.2.2/\(s.2.2:Int)<(((s.1.map Te.o).length - 0:Nat):Int) then(((s.1)[s.2.2.toNat]?).bind fun v107=>(let v109:=s.1.set (s.2.2.toNat) ({ v107 with fk:=s.2.1 }:Te);(if 0<=s.2.2/\(s.2.2:Int)<(((v109.map Te.o).length - 0:Nat):Int) then(((v109)[s.2.2.toNat]?).bind fun v110=>(let v112:=v109.set (s.2.2.toNat) ({ v110 with fw:=(i64.wrap (s.2.1+1)) }:Te);(if 0<=s.2.2/\(s.2.2:Int)<(((v112.map Te.o).length - 0:Nat):Int) then(((v112)[s.2.2.toNat]?).bind fun v113=>(let v115:=v112.set (s.2.2.toNat) ({ v113 with fh:=(i64.wrap ((i64.wrap (s.2.1+1))+1)) }:Te);(if 0<=s.2.2/\(s.2.2:Int)<(((v115.map Te.o).length - 0:Nat):Int) then(((v115)[s.2.2.toNat]?).bind fun v116=>(let v118:=v115.set (s.2.2.toNat) ({ v116 with fa:=({ v116.fa with ff:=(i64.wrap ((i64.wrap ((i64.wrap (s.2.1+1))+1))+1)) }:Tk) }:Te);(if 0<=s.2.2/\(s.2.2:Int)<(((v118.map Te.o).length - 0:Nat):Int) then(((v118)[s.2.2.toNat]?).bind fun v119=>(let v121:=v118.set (s.2.2.toNat) ({ v119 with fa:=({ v119.fa with fe:=(i64.wrap ((i64.wrap ((i64.wrap ((i64.wrap (s.2.1+1))+1))+1))+1)) }:Tk) }:Te);(if 0<=s.2.2/\(s.2.2:Int)<(((v121.map Te.o).length - 0:Nat):Int) then(((v121)[s.2.2.toNat]?).bind fun v122=>(let v124:=v121.set (s.2.2.toNat) ({ v122 with fa:=({ v122.fa with fN:=(i64.wrap ((i64.wrap ((i64.wrap ((i64.wrap ((i64.wrap (s.2.1+1))+1))+1))+1))+1)) }:Tk) }:Te);(if 0<=s.2.2/\(s.2.2:Int)<(((v124.map Te.o).length - 0:Nat):Int) then(((v124)[s.2.2.toNat]?).bind fun v125=>((znw v125.fa.fc (i64.wrap ((i64.wrap ((i64.wrap ((i64.wrap ((i64.wrap ((i64.wrap (s.2.1+1))+1))+1))+1))+1))+1))).bind fun v127=>((((v124)[s.2.2.toNat]?).map fun _=>()).bind fun _=>((((v124)[s.2.2.toNat]?).map fun _=>()).bind fun _=>(let v128:=v124.set (s.2.2.toNat) ({ v125 with fa:=({ v125.fa with fc:=v127.2 }:Tk) }:Te);(if 0<=s.2.2/\(s.2.2:Int)<(((v128.map Te.o).length - 0:Nat):Int) then(((v128)[s.2.2.toNat]?).bind fun v129=>((zor v129.fa.fd v127.1).bind fun v131=>((((v128)[s.2.2.toNat]?).map fun _=>()).bind fun _=>((((v128)[s.2.2.toNat]?).map fun _=>()).bind fun _=>(let v132:=v128.set (s.2.2.toNat) ({ v129 with fa:=({ v129.fa with fd:=v131.2 }:Tk) }:Te);(if 0<=s.2.2/\(s.2.2:Int)<(((v132.map Te.o).length - 0:Nat):Int) then(((v132)[s.2.2.toNat]?).bind fun v133=>(let v135:=v132.set (s.2.2.toNat) ({ v133 with fa:=({ v133.fa with fi:=v131.1 }:Tk) }:Te);(if 0<=s.2.2/\(s.2.2:Int)<(((v135.map Te.o).length - 0:Nat):Int) then(((v135)[s.2.2.toNat]?).bind fun v136=>(let v138:=v135.set (s.2.2.toNat) ({ v136 with fb:=({ v136.fb with ff:=(i64.wrap (v131.1+1)) }:Tf) }:Te);(if 0<=s.2.2/\(s.2.2:Int)<(((v138.map Te.o).length - 0:Nat):Int) then(((v138)[s.2.2.toNat]?).bind fun v139=>(let v141:=v138.set (s.2.2.toNat) ({ v139 with fb:=({ v139.fb with fj:=(i64.wrap ((i64.wrap (v131.1+1))+1)) }:Tf) }:Te);(if 0<=s.2.2/\(s.2.2:Int)<(((v141.map Te.o).length - 0:Nat):Int) then(((v141)[s.2.2.toNat]?).bind fun v142=>(let v144:=v141.set (s.2.2.toNat) ({ v142 with fb:=({ v142.fb with fe:=(i64.wrap ((i64.wrap ((i64.wrap (v131.1+1))+1))+1)) }:Tf) }:Te);(if 0<=s.2.2/\(s.2.2:Int)<(((v144.map Te.o).length - 0:Nat):Int) then(((v144)[s.2.2.toNat]?).bind fun v145=>(let v147:=v144.set (s.2.2.toNat) ({ v145 with fb:=({ v145.fb with fN:=(i64.wrap ((i64.wrap ((i64.wrap ((i64.wrap (v131.1+1))+1))+1))+1)) }:Tf) }:Te);(if 0<=s.2.2/\(s.2.2:Int)<(((v147.map Te.o).length - 0:Nat):Int) then(((v147)[s.2.2.toNat]?).bind fun v148=>((znw v148.fb.fc (i64.wrap ((i64.wrap ((i64.wrap ((i64.wrap ((i64.wrap (v131.1+1))+1))+1))+1))+1))).bind fun v150=>((((v147)[s.2.2.toNat]?).map fun _=>()).bind fun _=>((((v147)[s.2.2.toNat]?).map fun _=>()).bind fun _=>(let v151:=v147.set (s.2.2.toNat) ({ v148 with fb:=({ v148.fb with fc:=v150.2 }:Tf) }:Te);(if 0<=s.2.2/\(s.2.2:Int)<(((v151.map Te.o).length - 0:Nat):Int) then(((v151)[s.2.2.toNat]?).bind fun v152=>((zor v152.fb.fd v150.1).bind fun v154=>((((v151)[s.2.2.toNat]?).map fun _=>()).bind fun _=>((((v151)[s.2.2.toNat]?).map fun _=>()).bind fun _=>(let v155:=v151.set (s.2.2.toNat) ({ v152 with fb:=({ v152.fb with fd:=v154.2 }:Tf) }:Te);(some (.inl (v155,v154.1,(i64.wrap (s.2.2+1)))))))))) else none)))))) else none))) else none))) else none))) else none))) else none))) else none)))))) else none)))))) else none))) else none))) else none))) else none))) else none))) else none))) else none) else(some (.inr (s.1,s.2.1,s.2.2)))
def zrm (s:List Te×Int×Int):Option ((List Te×Int×Int)):=zd1 (zn0) BIG s
def yaw (s:List Te×Int×Int):Lct:=⟨6,yfm,0,[2,3,5],some (zpm s),List Te×Int×Int,zrm s,znp⟩
theorem ygc {s:List Te×Int×Int}:(yaw s).ok tab:=zbs (zc8 (J:=zpm) (o:=(znp)) (B:=fun(s:List Te×Int×Int)=>(.lenB Te.o s.1<|.br (decide (s.2.2<(s.1.length:Int))) (.guard (0<=s.2.2/\(s.2.2:Int)<(((s.1.map Te.o).length - 0:Nat):Int)) inferInstance<|.lookB Te.o s.1 (s.2.2.toNat) fun v107=>.lkY Te.o s.1 (s.2.2.toNat) v107<|.lkY Te.o s.1 (s.2.2.toNat) v107<|.setN Te.o s.1 (s.2.2.toNat) ({ v107 with fk:=s.2.1 }:Te) fun v109=>.guard (0<=s.2.2/\(s.2.2:Int)<(((v109.map Te.o).length - 0:Nat):Int)) inferInstance<|.lookB Te.o v109 (s.2.2.toNat) fun v110=>.lkY Te.o v109 (s.2.2.toNat) v110<|.lkY Te.o v109 (s.2.2.toNat) v110<|.setN Te.o v109 (s.2.2.toNat) ({ v110 with fw:=(i64.wrap (s.2.1+1)) }:Te) fun v112=>.guard (0<=s.2.2/\(s.2.2:Int)<(((v112.map Te.o).length - 0:Nat):Int)) inferInstance<|.lookB Te.o v112 (s.2.2.toNat) fun v113=>.lkY Te.o v112 (s.2.2.toNat) v113<|.lkY Te.o v112 (s.2.2.toNat) v113<|.setN Te.o v112 (s.2.2.toNat) ({ v113 with fh:=(i64.wrap ((i64.wrap (s.2.1+1))+1)) }:Te) fun v115=>.guard (0<=s.2.2/\(s.2.2:Int)<(((v115.map Te.o).length - 0:Nat):Int)) inferInstance<|.lookB Te.o v115 (s.2.2.toNat) fun v116=>.lkY Te.o v115 (s.2.2.toNat) v116<|.lkY Te.o v115 (s.2.2.toNat) v116<|.setN Te.o v115 (s.2.2.toNat) ({ v116 with fa:=({ v116.fa with ff:=(i64.wrap ((i64.wrap ((i64.wrap (s.2.1+1))+1))+1)) }:Tk) }:Te) fun v118=>.guard (0<=s.2.2/\(s.2.2:Int)<(((v118.map Te.o).length - 0:Nat):Int)) inferInstance<|.lookB Te.o v118 (s.2.2.toNat) fun v119=>.lkY Te.o v118 (s.2.2.toNat) v119<|.lkY Te.o v118 (s.2.2.toNat) v119<|.setN Te.o v118 (s.2.2.toNat) ({ v119 with fa:=({ v119.fa with fe:=(i64.wrap ((i64.wrap ((i64.wrap ((i64.wrap (s.2.1+1))+1))+1))+1)) }:Tk) }:Te) fun v121=>.guard (0<=s.2.2/\(s.2.2:Int)<(((v121.map Te.o).length - 0:Nat):Int)) inferInstance<|.lookB Te.o v121 (s.2.2.toNat) fun v122=>.lkY Te.o v121 (s.2.2.toNat) v122<|.lkY Te.o v121 (s.2.2.toNat) v122<|.setN Te.o v121 (s.2.2.toNat) ({ v122 with fa:=({ v122.fa with fN:=(i64.wrap ((i64.wrap ((i64.wrap ((i64.wrap ((i64.wrap (s.2.1+1))+1))+1))+1))+1)) }:Tk) }:Te) fun v124=>.guard (0<=s.2.2/\(s.2.2:Int)<(((v124.map Te.o).length - 0:Nat):Int)) inferInstance<|.lookB Te.o v124 (s.2.2.toNat) fun v125=>.lkY Te.o v124 (s.2.2.toNat) v125<|.ob ((v125.fa.fc.map (V.int .i64)).length=List.length ((v125.fa.fc.map (V.int .i64))))<|.lkY Te.o v124 (s.2.2.toNat) v125<|.lkY Te.o v124 (s.2.2.toNat) v125<|.sk<|.call (zsc v125.fa.fc (i64.wrap ((i64.wrap ((i64.wrap ((i64.wrap ((i64.wrap ((i64.wrap (s.2.1+1))+1))+1))+1))+1))+1))) fun(v127:Int×List Int)=>.holA Te.o v124 s.2.2.toNat (.agg [.int .i64 v125.fk,.int .i64 v125.fw,.int .i64 v125.fh,.int .i64 v125.fa.ff,.int .i64 v125.fa.fe,.int .i64 v125.fa.fN,.gone,.own 1 (v125.fa.fd.map V.bool),.int .i64 v125.fa.fi,.int .i64 v125.fb.ff,.int .i64 v125.fb.fj,.int .i64 v125.fb.fe,.int .i64 v125.fb.fN,.own 1 (v125.fb.fc.map (V.int .i64)),.own 1 (v125.fb.fd.map V.bool)]) fun _=>.holA Te.o v124 s.2.2.toNat (.agg [.int .i64 v125.fk,.int .i64 v125.fw,.int .i64 v125.fh,.int .i64 v125.fa.ff,.int .i64 v125.fa.fe,.int .i64 v125.fa.fN,.gone,.own 1 (v125.fa.fd.map V.bool),.int .i64 v125.fa.fi,.int .i64 v125.fb.ff,.int .i64 v125.fb.fj,.int .i64 v125.fb.fe,.int .i64 v125.fb.fN,.own 1 (v125.fb.fc.map (V.int .i64)),.own 1 (v125.fb.fd.map V.bool)]) fun _=>.setM Te.o v124 (s.2.2.toNat) (.agg [.int .i64 v125.fk,.int .i64 v125.fw,.int .i64 v125.fh,.int .i64 v125.fa.ff,.int .i64 v125.fa.fe,.int .i64 v125.fa.fN,.gone,.own 1 (v125.fa.fd.map V.bool),.int .i64 v125.fa.fi,.int .i64 v125.fb.ff,.int .i64 v125.fb.fj,.int .i64 v125.fb.fe,.int .i64 v125.fb.fN,.own 1 (v125.fb.fc.map (V.int .i64)),.own 1 (v125.fb.fd.map V.bool)]) ({ v125 with fa:=({ v125.fa with fc:=v127.2 }:Tk) }:Te) fun v128=>.guard (0<=s.2.2/\(s.2.2:Int)<(((v128.map Te.o).length - 0:Nat):Int)) inferInstance<|.lookB Te.o v128 (s.2.2.toNat) fun v129=>.lkY Te.o v128 (s.2.2.toNat) v129<|.ob ((v129.fa.fd.map V.bool).length=List.length ((v129.fa.fd.map V.bool)))<|.lkY Te.o v128 (s.2.2.toNat) v129<|.lkY Te.o v128 (s.2.2.toNat) v129<|.sk<|.call (zph v129.fa.fd v127.1) fun(v131:Int×List Bool)=>.holA Te.o v128 s.2.2.toNat (.agg [.int .i64 v129.fk,.int .i64 v129.fw,.int .i64 v129.fh,.int .i64 v129.fa.ff,.int .i64 v129.fa.fe,.int .i64 v129.fa.fN,.own 1 (v129.fa.fc.map (V.int .i64)),.gone,.int .i64 v129.fa.fi,.int .i64 v129.fb.ff,.int .i64 v129.fb.fj,.int .i64 v129.fb.fe,.int .i64 v129.fb.fN,.own 1 (v129.fb.fc.map (V.int .i64)),.own 1 (v129.fb.fd.map V.bool)]) fun _=>.holA Te.o v128 s.2.2.toNat (.agg [.int .i64 v129.fk,.int .i64 v129.fw,.int .i64 v129.fh,.int .i64 v129.fa.ff,.int .i64 v129.fa.fe,.int .i64 v129.fa.fN,.own 1 (v129.fa.fc.map (V.int .i64)),.gone,.int .i64 v129.fa.fi,.int .i64 v129.fb.ff,.int .i64 v129.fb.fj,.int .i64 v129.fb.fe,.int .i64 v129.fb.fN,.own 1 (v129.fb.fc.map (V.int .i64)),.own 1 (v129.fb.fd.map V.bool)]) fun _=>.setM Te.o v128 (s.2.2.toNat) (.agg [.int .i64 v129.fk,.int .i64 v129.fw,.int .i64 v129.fh,.int .i64 v129.fa.ff,.int .i64 v129.fa.fe,.int .i64 v129.fa.fN,.own 1 (v129.fa.fc.map (V.int .i64)),.gone,.int .i64 v129.fa.fi,.int .i64 v129.fb.ff,.int .i64 v129.fb.fj,.int .i64 v129.fb.fe,.int .i64 v129.fb.fN,.own 1 (v129.fb.fc.map (V.int .i64)),.own 1 (v129.fb.fd.map V.bool)]) ({ v129 with fa:=({ v129.fa with fd:=v131.2 }:Tk) }:Te) fun v132=>.guard (0<=s.2.2/\(s.2.2:Int)<(((v132.map Te.o).length - 0:Nat):Int)) inferInstance<|.lookB Te.o v132 (s.2.2.toNat) fun v133=>.lkY Te.o v132 (s.2.2.toNat) v133<|.lkY Te.o v132 (s.2.2.toNat) v133<|.setN Te.o v132 (s.2.2.toNat) ({ v133 with fa:=({ v133.fa with fi:=v131.1 }:Tk) }:Te) fun v135=>.guard (0<=s.2.2/\(s.2.2:Int)<(((v135.map Te.o).length - 0:Nat):Int)) inferInstance<|.lookB Te.o v135 (s.2.2.toNat) fun v136=>.lkY Te.o v135 (s.2.2.toNat) v136<|.lkY Te.o v135 (s.2.2.toNat) v136<|.setN Te.o v135 (s.2.2.toNat) ({ v136 with fb:=({ v136.fb with ff:=(i64.wrap (v131.1+1)) }:Tf) }:Te) fun v138=>.guard (0<=s.2.2/\(s.2.2:Int)<(((v138.map Te.o).length - 0:Nat):Int)) inferInstance<|.lookB Te.o v138 (s.2.2.toNat) fun v139=>.lkY Te.o v138 (s.2.2.toNat) v139<|.lkY Te.o v138 (s.2.2.toNat) v139<|.setN Te.o v138 (s.2.2.toNat) ({ v139 with fb:=({ v139.fb with fj:=(i64.wrap ((i64.wrap (v131.1+1))+1)) }:Tf) }:Te) fun v141=>.guard (0<=s.2.2/\(s.2.2:Int)<(((v141.map Te.o).length - 0:Nat):Int)) inferInstance<|.lookB Te.o v141 (s.2.2.toNat) fun v142=>.lkY Te.o v141 (s.2.2.toNat) v142<|.lkY Te.o v141 (s.2.2.toNat) v142<|.setN Te.o v141 (s.2.2.toNat) ({ v142 with fb:=({ v142.fb with fe:=(i64.wrap ((i64.wrap ((i64.wrap (v131.1+1))+1))+1)) }:Tf) }:Te) fun v144=>.guard (0<=s.2.2/\(s.2.2:Int)<(((v144.map Te.o).length - 0:Nat):Int)) inferInstance<|.lookB Te.o v144 (s.2.2.toNat) fun v145=>.lkY Te.o v144 (s.2.2.toNat) v145<|.lkY Te.o v144 (s.2.2.toNat) v145<|.setN Te.o v144 (s.2.2.toNat) ({ v145 with fb:=({ v145.fb with fN:=(i64.wrap ((i64.wrap ((i64.wrap ((i64.wrap (v131.1+1))+1))+1))+1)) }:Tf) }:Te) fun v147=>.guard (0<=s.2.2/\(s.2.2:Int)<(((v147.map Te.o).length - 0:Nat):Int)) inferInstance<|.lookB Te.o v147 (s.2.2.toNat) fun v148=>.lkY Te.o v147 (s.2.2.toNat) v148<|.ob ((v148.fb.fc.map (V.int .i64)).length=List.length ((v148.fb.fc.map (V.int .i64))))<|.lkY Te.o v147 (s.2.2.toNat) v148<|.lkY Te.o v147 (s.2.2.toNat) v148<|.sk<|.call (zsc v148.fb.fc (i64.wrap ((i64.wrap ((i64.wrap ((i64.wrap ((i64.wrap (v131.1+1))+1))+1))+1))+1))) fun(v150:Int×List Int)=>.holA Te.o v147 s.2.2.toNat (.agg [.int .i64 v148.fk,.int .i64 v148.fw,.int .i64 v148.fh,.int .i64 v148.fa.ff,.int .i64 v148.fa.fe,.int .i64 v148.fa.fN,.own 1 (v148.fa.fc.map (V.int .i64)),.own 1 (v148.fa.fd.map V.bool),.int .i64 v148.fa.fi,.int .i64 v148.fb.ff,.int .i64 v148.fb.fj,.int .i64 v148.fb.fe,.int .i64 v148.fb.fN,.gone,.own 1 (v148.fb.fd.map V.bool)]) fun _=>.holA Te.o v147 s.2.2.toNat (.agg [.int .i64 v148.fk,.int .i64 v148.fw,.int .i64 v148.fh,.int .i64 v148.fa.ff,.int .i64 v148.fa.fe,.int .i64 v148.fa.fN,.own 1 (v148.fa.fc.map (V.int .i64)),.own 1 (v148.fa.fd.map V.bool),.int .i64 v148.fa.fi,.int .i64 v148.fb.ff,.int .i64 v148.fb.fj,.int .i64 v148.fb.fe,.int .i64 v148.fb.fN,.gone,.own 1 (v148.fb.fd.map V.bool)]) fun _=>.setM Te.o v147 (s.2.2.toNat) (.agg [.int .i64 v148.fk,.int .i64 v148.fw,.int .i64 v148.fh,.int .i64 v148.fa.ff,.int .i64 v148.fa.fe,.int .i64 v148.fa.fN,.own 1 (v148.fa.fc.map (V.int .i64)),.own 1 (v148.fa.fd.map V.bool),.int .i64 v148.fa.fi,.int .i64 v148.fb.ff,.int .i64 v148.fb.fj,.int .i64 v148.fb.fe,.int .i64 v148.fb.fN,.gone,.own 1 (v148.fb.fd.map V.bool)]) ({ v148 with fb:=({ v148.fb with fc:=v150.2 }:Tf) }:Te) fun v151=>.guard (0<=s.2.2/\(s.2.2:Int)<(((v151.map Te.o).length - 0:Nat):Int)) inferInstance<|.lookB Te.o v151 (s.2.2.toNat) fun v152=>.lkY Te.o v151 (s.2.2.toNat) v152<|.ob ((v152.fb.fd.map V.bool).length=List.length ((v152.fb.fd.map V.bool)))<|.lkY Te.o v151 (s.2.2.toNat) v152<|.lkY Te.o v151 (s.2.2.toNat) v152<|.sk<|.call (zph v152.fb.fd v150.1) fun(v154:Int×List Bool)=>.holA Te.o v151 s.2.2.toNat (.agg [.int .i64 v152.fk,.int .i64 v152.fw,.int .i64 v152.fh,.int .i64 v152.fa.ff,.int .i64 v152.fa.fe,.int .i64 v152.fa.fN,.own 1 (v152.fa.fc.map (V.int .i64)),.own 1 (v152.fa.fd.map V.bool),.int .i64 v152.fa.fi,.int .i64 v152.fb.ff,.int .i64 v152.fb.fj,.int .i64 v152.fb.fe,.int .i64 v152.fb.fN,.own 1 (v152.fb.fc.map (V.int .i64)),.gone]) fun _=>.holA Te.o v151 s.2.2.toNat (.agg [.int .i64 v152.fk,.int .i64 v152.fw,.int .i64 v152.fh,.int .i64 v152.fa.ff,.int .i64 v152.fa.fe,.int .i64 v152.fa.fN,.own 1 (v152.fa.fc.map (V.int .i64)),.own 1 (v152.fa.fd.map V.bool),.int .i64 v152.fa.fi,.int .i64 v152.fb.ff,.int .i64 v152.fb.fj,.int .i64 v152.fb.fe,.int .i64 v152.fb.fN,.own 1 (v152.fb.fc.map (V.int .i64)),.gone]) fun _=>.setM Te.o v151 (s.2.2.toNat) (.agg [.int .i64 v152.fk,.int .i64 v152.fw,.int .i64 v152.fh,.int .i64 v152.fa.ff,.int .i64 v152.fa.fe,.int .i64 v152.fa.fN,.own 1 (v152.fa.fc.map (V.int .i64)),.own 1 (v152.fa.fd.map V.bool),.int .i64 v152.fa.fi,.int .i64 v152.fb.ff,.int .i64 v152.fb.fj,.int .i64 v152.fb.fe,.int .i64 v152.fb.fN,.own 1 (v152.fb.fc.map (V.int .i64)),.gone]) ({ v152 with fb:=({ v152.fb with fd:=v154.2 }:Tf) }:Te) fun v155=>.lfA (zx2) (.inl (v155,v154.1,(i64.wrap (s.2.2+1)))))<|.lfA (zx2) (.inr (s.1,s.2.1,s.2.2)):Tree ((List Te×Int×Int)⊕((List Te×Int×Int))) _)) (fun s=>by kernel_rfl) (fun s=>lB<|bR (gU<|⟨za1 _ _ _,fun v107 h108=>⟨za0 _ h108,⟨za0 _ h108,⟨za2 _ _ _ _,fun v109 _=>gU<|⟨za1 _ _ _,fun v110 h111=>⟨za0 _ h111,⟨za0 _ h111,⟨za2 _ _ _ _,fun v112 _=>gU<|⟨za1 _ _ _,fun v113 h114=>⟨za0 _ h114,⟨za0 _ h114,⟨za2 _ _ _ _,fun v115 _=>gU<|⟨za1 _ _ _,fun v116 h117=>⟨za0 _ h117,⟨za0 _ h117,⟨za2 _ _ _ _,fun v118 _=>gU<|⟨za1 _ _ _,fun v119 h120=>⟨za0 _ h120,⟨za0 _ h120,⟨za2 _ _ _ _,fun v121 _=>gU<|⟨za1 _ _ _,fun v122 h123=>⟨za0 _ h123,⟨za0 _ h123,⟨za2 _ _ _ _,fun v124 _=>gU<|⟨za1 _ _ _,fun v125 h126=>⟨za0 _ h126,⟨rfl,⟨za0 _ h126,⟨za0 _ h126,cE zt9 fun v127=>⟨zab _ _ _ _,fun _ _=>⟨zab _ _ _ _,fun _ _=>⟨zax _ _ _ _ _,fun v128 _=>gU<|⟨za1 _ _ _,fun v129 h130=>⟨za0 _ h130,⟨rfl,⟨za0 _ h130,⟨za0 _ h130,cE ztz fun v131=>⟨zab _ _ _ _,fun _ _=>⟨zab _ _ _ _,fun _ _=>⟨zax _ _ _ _ _,fun v132 _=>gU<|⟨za1 _ _ _,fun v133 h134=>⟨za0 _ h134,⟨za0 _ h134,⟨za2 _ _ _ _,fun v135 _=>gU<|⟨za1 _ _ _,fun v136 h137=>⟨za0 _ h137,⟨za0 _ h137,⟨za2 _ _ _ _,fun v138 _=>gU<|⟨za1 _ _ _,fun v139 h140=>⟨za0 _ h140,⟨za0 _ h140,⟨za2 _ _ _ _,fun v141 _=>gU<|⟨za1 _ _ _,fun v142 h143=>⟨za0 _ h143,⟨za0 _ h143,⟨za2 _ _ _ _,fun v144 _=>gU<|⟨za1 _ _ _,fun v145 h146=>⟨za0 _ h146,⟨za0 _ h146,⟨za2 _ _ _ _,fun v147 _=>gU<|⟨za1 _ _ _,fun v148 h149=>⟨za0 _ h149,⟨rfl,⟨za0 _ h149,⟨za0 _ h149,cE zt9 fun v150=>⟨zab _ _ _ _,fun _ _=>⟨zab _ _ _ _,fun _ _=>⟨zax _ _ _ _ _,fun v151 _=>gU<|⟨za1 _ _ _,fun v152 h153=>⟨za0 _ h153,⟨rfl,⟨za0 _ h153,⟨za0 _ h153,cE ztz fun v154=>⟨zab _ _ _ _,fun _ _=>⟨zab _ _ _ _,fun _ _=>⟨zax _ _ _ _ _,fun v155 _=>rfl⟩⟩⟩⟩⟩⟩⟩⟩⟩⟩⟩⟩⟩⟩⟩⟩⟩⟩⟩⟩⟩⟩⟩⟩⟩⟩⟩⟩⟩⟩⟩⟩⟩⟩⟩⟩⟩⟩⟩⟩⟩⟩⟩⟩⟩⟩⟩⟩⟩⟩⟩⟩⟩⟩⟩⟩⟩⟩⟩⟩⟩⟩⟩⟩⟩⟩⟩⟩⟩⟩⟩⟩⟩⟩⟩⟩)<|rfl) (fun _=>rfl) (by kernel_rfl) BIG s)
def yw6:(Int×List Te)->V×List (List V):=fun r=>(.tup [.int .i64 r.1,.tup [.own 15 (r.2.map Te.o)]],[])
def yo8 (v1:List Te) (v2:Int):Option (Int×List Te):=(zrm (v1,v2,0)).bind fun v156=>(some (v156.2.1,v156.1))
def yvi (v1:List Te) (v2:Int):Ctr:=⟨yoo,[.own 15 (v1.map Te.o),.I v2],[[.gone]],Int×List Te,yo8 v1 v2,yw6⟩
theorem qc4 {v1:List Te} {v2:Int}:(yvi v1 v2).ok tab:=fun r hr=>zbc qep rfl (.lp (yaw (v1,v2,0)) fun(v156:List Te×Int×Int)=>.segA Te.o v156.1<|.lfA yw6 (v156.2.1,v156.1):Tree (Int×List Te) _) (by kernel_rfl) (by kernel_rfl) (lP ygc fun v156=>sA<|rfl) hr
def ywv:(Int×Tl)->V×List (List V):=fun r=>(.tup [.int .i64 r.1,.tup [.agg [.int .i64 r.2.fF.fat,.int .i64 r.2.fF.fo.fah,.int .i64 r.2.fF.fo.fag,.own 7 (r.2.fF.fo.fp.map Ti.i),.int .i64 r.2.fF.fq.fad,.own 13 (r.2.fF.fq.fr.map Tc.o),.own 17 (r.2.fF.faa.map Ta.o),.int .i64 r.2.fF.far,.int .i64 r.2.fF.fau,.int .i64 r.2.fF.fas,.int .i64 r.2.fF.fav,.own 6 (r.2.faj.map Tj.o),.own 16 (r.2.fai.map Td.o),.own 16 (r.2.fab.map Tb.o),.own 15 (r.2.fak.map Te.o)]]],[])
def yq1 (v1:Tl) (v2:Int):Option (Int×Tl):=(yma v1.fF v2).bind fun v3=>((yoi v1.faj v3.1).bind fun v4=>((ynf v1.fai v4.1).bind fun v5=>((ypr v1.fab v5.1).bind fun v6=>((yo8 v1.fak v6.1).bind fun v7=>(if ((v1.fF.fo.fp.map Ti.i).length)<=(v3.2.fo.fp.map Ti.i).length then(if ((v1.fF.fq.fr.map Tc.o).length)<=(v3.2.fq.fr.map Tc.o).length then(if ((v1.fF.faa.map Ta.o).length)<=(v3.2.faa.map Ta.o).length then(if ((v1.faj.map Tj.o).length)<=(v4.2.map Tj.o).length then(if ((v1.fai.map Td.o).length)<=(v5.2.map Td.o).length then(if ((v1.fab.map Tb.o).length)<=(v6.2.map Tb.o).length then(if ((v1.fak.map Te.o).length)<=(v7.2.map Te.o).length then(some (v7.1,(⟨({ v1.fF with fo:=({ v1.fF.fo with fp:=((v3.2.fo.fp.take ((v1.fF.fo.fp.map Ti.i).length)).drop (0)) }:To),fq:=(⟨v1.fF.fq.fad,((v3.2.fq.fr.take ((v1.fF.fq.fr.map Tc.o).length)).drop (0))⟩:Tp),faa:=((v3.2.faa.take ((v1.fF.faa.map Ta.o).length)).drop (0)) }:Tn),((v4.2.take ((v1.faj.map Tj.o).length)).drop (0)),((v5.2.take ((v1.fai.map Td.o).length)).drop (0)),((v6.2.take ((v1.fab.map Tb.o).length)).drop (0)),((v7.2.take ((v1.fak.map Te.o).length)).drop (0))⟩:Tl))) else none) else none) else none) else none) else none) else none) else none)))))
def yuh (v1:Tl) (v2:Int):Ctr:=⟨yps,[.agg [.I v1.fF.fat,.I v1.fF.fo.fah,.I v1.fF.fo.fag,.own 7 (v1.fF.fo.fp.map Ti.i),.I v1.fF.fq.fad,.own 13 (v1.fF.fq.fr.map Tc.o),.own 17 (v1.fF.faa.map Ta.o),.I v1.fF.far,.I v1.fF.fau,.I v1.fF.fas,.I v1.fF.fav,.own 6 (v1.faj.map Tj.o),.own 16 (v1.fai.map Td.o),.own 16 (v1.fab.map Tb.o),.own 15 (v1.fak.map Te.o)],.I v2],[[.gone]],Int×Tl,yq1 v1 v2,ywv⟩
theorem qfm {v1:Tl} {v2:Int}:(yuh v1 v2).ok tab:=fun r hr=>zbc qfg rfl (.segA Ti.i v1.fF.fo.fp<|.segA Tc.o v1.fF.fq.fr<|.segA Ta.o v1.fF.faa<|.segA Tj.o v1.faj<|.segA Td.o v1.fai<|.segA Tb.o v1.fab<|.segA Te.o v1.fak<|.ob ((v1.fF.fo.fp.map Ti.i).length=List.length ((v1.fF.fo.fp.map Ti.i)))<|.ob ((v1.fF.fq.fr.map Tc.o).length=List.length ((v1.fF.fq.fr.map Tc.o)))<|.ob ((v1.fF.faa.map Ta.o).length=List.length ((v1.fF.faa.map Ta.o)))<|.call (yu5 v1.fF v2) fun(v3:Int×Tn)=>.ob ((v1.faj.map Tj.o).length=List.length ((v1.faj.map Tj.o)))<|.call (ywd v1.faj v3.1) fun(v4:Int×List Tj)=>.ob ((v1.fai.map Td.o).length=List.length ((v1.fai.map Td.o)))<|.call (ywx v1.fai v4.1) fun(v5:Int×List Td)=>.ob ((v1.fab.map Tb.o).length=List.length ((v1.fab.map Tb.o)))<|.call (ywj v1.fab v5.1) fun(v6:Int×List Tb)=>.ob ((v1.fak.map Te.o).length=List.length ((v1.fak.map Te.o)))<|.call (yvi v1.fak v6.1) fun(v7:Int×List Te)=>.segB Ti.i v3.2.fo.fp (0) ((v1.fF.fo.fp.map Ti.i).length)<|.segB Tc.o v3.2.fq.fr (0) ((v1.fF.fq.fr.map Tc.o).length)<|.segB Ta.o v3.2.faa (0) ((v1.fF.faa.map Ta.o).length)<|.segB Tj.o v4.2 (0) ((v1.faj.map Tj.o).length)<|.segB Td.o v5.2 (0) ((v1.fai.map Td.o).length)<|.segB Tb.o v6.2 (0) ((v1.fab.map Tb.o).length)<|.segB Te.o v7.2 (0) ((v1.fak.map Te.o).length)<|.lfA ywv (v7.1,(⟨({ v1.fF with fo:=({ v1.fF.fo with fp:=((v3.2.fo.fp.take ((v1.fF.fo.fp.map Ti.i).length)).drop (0)) }:To),fq:=(⟨v1.fF.fq.fad,((v3.2.fq.fr.take ((v1.fF.fq.fr.map Tc.o).length)).drop (0))⟩:Tp),faa:=((v3.2.faa.take ((v1.fF.faa.map Ta.o).length)).drop (0)) }:Tn),((v4.2.take ((v1.faj.map Tj.o).length)).drop (0)),((v5.2.take ((v1.fai.map Td.o).length)).drop (0)),((v6.2.take ((v1.fab.map Tb.o).length)).drop (0)),((v7.2.take ((v1.fak.map Te.o).length)).drop (0))⟩:Tl)):Tree (Int×Tl) _) (by kernel_rfl) (by kernel_rfl) (sA<|sA<|sA<|sA<|sA<|sA<|sA<|⟨rfl,⟨rfl,⟨rfl,cE yxn fun v3=>⟨rfl,cE yxj fun v4=>⟨rfl,cE qb9 fun v5=>⟨rfl,cE qhj fun v6=>⟨rfl,cE qc4 fun v7=>fun h8=>⟨zcz _ _ _ h8,fun h9=>⟨zcz _ _ _ h9,fun h10=>⟨zcz _ _ _ h10,fun h11=>⟨zcz _ _ _ h11,fun h12=>⟨zcz _ _ _ h12,fun h13=>⟨zcz _ _ _ h13,fun h14=>⟨zcz _ _ _ h14,rfl⟩⟩⟩⟩⟩⟩⟩⟩⟩⟩⟩⟩⟩⟩) hr
def zp6 (v1:List Int) (k:Int) (s:Int):St:=⟨sv 6 [(0,.imm 1 (v1.map (V.int .i64))),(1,.I s),(3,.I k)],[]⟩
def zmh (v1:List Int):(Int×Int)->Ex×St:=fun p=>(.ret,⟨sv 6 [(0,.imm 1 (v1.map (V.int .i64))),(1,.I p.1),(2,.I (-1)),(3,.I p.2),(4,.bool true),(5,.bool true)],[]⟩)
def zlw (v1:List Int):Int->Ex×St:=fun p=>((.exit 0),⟨sv 6 [(0,.imm 1 (v1.map (V.int .i64))),(1,.I p),(3,.I (v1.length:Int)),(4,.bool false)],[]⟩)
def zqv (v1:List Int) (k:Int):=zcj (zp6 v1 k) (Sum.elim (zmh v1) (zlw v1))
def zpy (v1:List Int) (k:Int) (x:Int) (s:Int):Option ((Int)⊕((Int×Int)⊕Int)):=bif decide (x≠s) then(some (.inr (.inl (s,k)))) else(some (.inl (i64.wrap (s+1))))
def zvz (v1:List Int) (s:Int):Option ((Int×Int)⊕Int):=some ((.inr s))
def zq2 (v1:List Int) (s:Int):Option ((Int×Int)⊕Int):=if v1.length<=9223372036854775806 then zb3 (zpy v1) (zvz v1) v1 0 s else none
def zzv (v1:List Int) (s:Int):Lc2:=⟨6,yej,0,[2,4,5],some (zp6 v1 0 s),Int×Int,Int,zq2 v1 s,zmh v1,zlw v1⟩
theorem yg4 {v1:List Int} {s:Int}:(zzv v1 s).ok tab:=zc6 (zan (J:=zp6 v1) (o:=(Sum.elim (zmh v1) (zlw v1))) v1 (B:=fun(k:Int) (x:Int) (s:Int)=>(.lenA (V.int .i64) v1<|.kb (decide (k<(v1.length:Int))) true<|.ob (0<=k)<|.lkX (V.int .i64) v1 (k.toNat) x<|.br (decide (x≠s)) (.lfA (zqv v1 (i64.wrap (k+1))) (.inr (.inl (s,k))))<|.lfA (zqv v1 (i64.wrap (k+1))) (.inl (i64.wrap (s+1))):Tree ((Int)⊕((Int×Int)⊕Int)) _)) (E:=fun(s:Int)=>(.lenA (V.int .i64) v1<|.kb (decide ((v1.length:Int)<(v1.length:Int))) false<|.lfA (zqv v1 0) (.inr (.inr s)):Tree ((Int)⊕((Int×Int)⊕Int)) _)) (fun k x s=>by kernel_rfl) (fun d x t s he=>lA<|⟨ltX he,⟨Int.natCast_nonneg _,⟨zao (V.int .i64) he,bR (rfl)<|rfl⟩⟩⟩) (ho2 (fun _=>rfl) fun _=>rfl) (fun s=>by kernel_rfl) (fun s=>lA<|⟨ltE _,rfl⟩) (by kernel_rfl) (by kernel_rfl) s)
def yk7 (v1:List Int) (v2:Int):Option Int:=(zq2 v1 v2).bind (zhs (fun (v15:Int×Int)=>(some (-1))) (fun (v16:Int)=>(some v16)))
def yql (v1:List Int) (v2:Int):Ctr:=⟨yol,[.imm 1 (v1.map (V.int .i64)),.I v2],[],Int,yk7 v1 v2,rI⟩
theorem yvr {v1:List Int} {v2:Int}:(yql v1 v2).okF tab:=fun r hr=>⟨za5 qbe rfl (.lp2 (zzv v1 v2) (fun (v15:Int×Int)=>.lfA rI (-1)) (fun (v16:Int)=>.lfA rI v16):Tree Int _) (by kernel_rfl) (by kernel_rfl) (lQ yg4 (fun v15=>rfl) (fun v16=>rfl)) hr,rfl,rfl⟩
def yro (v1:Tl):Option Bool:=(yt7 v1 1048576).bind fun v2=>(bif decide (v2<0) then(some true) else((yh1 v1).bind fun v5=>((yrs v5).bind fun v7=>((yh1 v1).bind fun v9=>((yjo v9).bind fun v11=>((ybx v11 v7).bind fun v13=>(bif !v13 then(some false) else((yh1 v1).bind fun v16=>((ymc v9 v16).bind fun v18=>(bif !v18 then(some false) else((yq1 v9 1).bind fun v21=>(bif decide (v21.1<0) then(some false) else((ybx v11 v7).bind fun v23=>(bif !v23 then(some false) else((znw v11 1).bind fun v26=>((yk7 v26.2 1).bind fun v27=>(bif decide (v27<0) then(some false) else(bif decide (v27≠v26.1) then(some false) else((yh1 v1).bind fun v31=>((yjo v31).bind fun v33=>((ybx v33 v7).bind fun v35=>(bif !v35 then(some false) else((yk7 v26.2 1).bind fun v38=>(bif decide (v38<0) then(some false) else(bif decide (v38≠v26.1) then(some false) else(some true))))))))))))))))))))))))))
def qfn (v1:Tl):Ctr:=⟨ylh,[.agg [.I v1.fF.fat,.I v1.fF.fo.fah,.I v1.fF.fo.fag,.imm 7 (v1.fF.fo.fp.map Ti.i),.I v1.fF.fq.fad,.imm 13 (v1.fF.fq.fr.map Tc.i),.imm 17 (v1.fF.faa.map Ta.i),.I v1.fF.far,.I v1.fF.fau,.I v1.fF.fas,.I v1.fF.fav,.imm 6 (v1.faj.map Tj.i),.imm 16 (v1.fai.map Td.i),.imm 16 (v1.fab.map Tb.i),.imm 15 (v1.fak.map Te.i)]],[],Bool,yro v1,rB⟩
theorem qf2 {v1:Tl}:(qfn v1).okF tab:=fun r hr=>⟨za5 qc7 rfl (.callF (yuy v1 1048576) fun(v2:Int)=>.br (decide (v2<0)) (.lfA rB true)<|.callF (yk0 v1) fun(v5:Tl)=>.segA Ti.i v5.fF.fo.fp<|.eraA Ti.i Ti.i v5.fF.fo.fp<|.segA Tc.o v5.fF.fq.fr<|.eraA Tc.o Tc.i v5.fF.fq.fr<|.segA Ta.o v5.fF.faa<|.eraA Ta.o Ta.i v5.fF.faa<|.segA Tj.o v5.faj<|.eraA Tj.o Tj.i v5.faj<|.segA Td.o v5.fai<|.eraA Td.o Td.i v5.fai<|.segA Tb.o v5.fab<|.eraA Tb.o Tb.i v5.fab<|.segA Te.o v5.fak<|.eraA Te.o Te.i v5.fak<|.callF (ywb v5) fun(v7:List Int)=>.segA (V.int .i64) v7<|.callF (yk0 v1) fun(v9:Tl)=>.segA Ti.i v9.fF.fo.fp<|.segA Tc.o v9.fF.fq.fr<|.segA Ta.o v9.fF.faa<|.segA Tj.o v9.faj<|.segA Td.o v9.fai<|.segA Tb.o v9.fab<|.segA Te.o v9.fak<|.segA Ti.i v9.fF.fo.fp<|.eraA Ti.i Ti.i v9.fF.fo.fp<|.segA Tc.o v9.fF.fq.fr<|.eraA Tc.o Tc.i v9.fF.fq.fr<|.segA Ta.o v9.fF.faa<|.eraA Ta.o Ta.i v9.fF.faa<|.segA Tj.o v9.faj<|.eraA Tj.o Tj.i v9.faj<|.segA Td.o v9.fai<|.eraA Td.o Td.i v9.fai<|.segA Tb.o v9.fab<|.eraA Tb.o Tb.i v9.fab<|.segA Te.o v9.fak<|.eraA Te.o Te.i v9.fak<|.callF (yrd v9) fun(v11:List Int)=>.segA (V.int .i64) v11<|.segA (V.int .i64) v11<|.eraA (V.int .i64) (V.int .i64) v11<|.segA (V.int .i64) v7<|.eraA (V.int .i64) (V.int .i64) v7<|.callF (yep v11 v7) fun(v13:Bool)=>.br (!v13) (.lfA rB false)<|.callF (yk0 v1) fun(v16:Tl)=>.segA Ti.i v9.fF.fo.fp<|.eraA Ti.i Ti.i v9.fF.fo.fp<|.segA Tc.o v9.fF.fq.fr<|.eraA Tc.o Tc.i v9.fF.fq.fr<|.segA Ta.o v9.fF.faa<|.eraA Ta.o Ta.i v9.fF.faa<|.segA Tj.o v9.faj<|.eraA Tj.o Tj.i v9.faj<|.segA Td.o v9.fai<|.eraA Td.o Td.i v9.fai<|.segA Tb.o v9.fab<|.eraA Tb.o Tb.i v9.fab<|.segA Te.o v9.fak<|.eraA Te.o Te.i v9.fak<|.segA Ti.i v16.fF.fo.fp<|.eraA Ti.i Ti.i v16.fF.fo.fp<|.segA Tc.o v16.fF.fq.fr<|.eraA Tc.o Tc.i v16.fF.fq.fr<|.segA Ta.o v16.fF.faa<|.eraA Ta.o Ta.i v16.fF.faa<|.segA Tj.o v16.faj<|.eraA Tj.o Tj.i v16.faj<|.segA Td.o v16.fai<|.eraA Td.o Td.i v16.fai<|.segA Tb.o v16.fab<|.eraA Tb.o Tb.i v16.fab<|.segA Te.o v16.fak<|.eraA Te.o Te.i v16.fak<|.callF (yvj v9 v16) fun(v18:Bool)=>.br (!v18) (.lfA rB false)<|.ob ((v9.fF.fo.fp.map Ti.i).length=List.length ((v9.fF.fo.fp.map Ti.i)))<|.ob ((v9.fF.fq.fr.map Tc.o).length=List.length ((v9.fF.fq.fr.map Tc.o)))<|.ob ((v9.fF.faa.map Ta.o).length=List.length ((v9.fF.faa.map Ta.o)))<|.ob ((v9.faj.map Tj.o).length=List.length ((v9.faj.map Tj.o)))<|.ob ((v9.fai.map Td.o).length=List.length ((v9.fai.map Td.o)))<|.ob ((v9.fab.map Tb.o).length=List.length ((v9.fab.map Tb.o)))<|.ob ((v9.fak.map Te.o).length=List.length ((v9.fak.map Te.o)))<|.call (yuh v9 1) fun(v21:Int×Tl)=>.br (decide (v21.1<0)) (.lfA rB false)<|.segA (V.int .i64) v11<|.eraA (V.int .i64) (V.int .i64) v11<|.segA (V.int .i64) v7<|.eraA (V.int .i64) (V.int .i64) v7<|.callF (yep v11 v7) fun(v23:Bool)=>.br (!v23) (.lfA rB false)<|.ob ((v11.map (V.int .i64)).length=List.length ((v11.map (V.int .i64))))<|.call (zsc v11 1) fun(v26:Int×List Int)=>.segA (V.int .i64) v26.2<|.eraA (V.int .i64) (V.int .i64) v26.2<|.callF (yql v26.2 1) fun(v27:Int)=>.br (decide (v27<0)) (.lfA rB false)<|.br (decide (v27≠v26.1)) (.lfA rB false)<|.callF (yk0 v1) fun(v31:Tl)=>.segA Ti.i v31.fF.fo.fp<|.eraA Ti.i Ti.i v31.fF.fo.fp<|.segA Tc.o v31.fF.fq.fr<|.eraA Tc.o Tc.i v31.fF.fq.fr<|.segA Ta.o v31.fF.faa<|.eraA Ta.o Ta.i v31.fF.faa<|.segA Tj.o v31.faj<|.eraA Tj.o Tj.i v31.faj<|.segA Td.o v31.fai<|.eraA Td.o Td.i v31.fai<|.segA Tb.o v31.fab<|.eraA Tb.o Tb.i v31.fab<|.segA Te.o v31.fak<|.eraA Te.o Te.i v31.fak<|.callF (yrd v31) fun(v33:List Int)=>.segA (V.int .i64) v33<|.segA (V.int .i64) v33<|.eraA (V.int .i64) (V.int .i64) v33<|.segA (V.int .i64) v7<|.eraA (V.int .i64) (V.int .i64) v7<|.callF (yep v33 v7) fun(v35:Bool)=>.br (!v35) (.lfA rB false)<|.segA (V.int .i64) v26.2<|.eraA (V.int .i64) (V.int .i64) v26.2<|.callF (yql v26.2 1) fun(v38:Int)=>.br (decide (v38<0)) (.lfA rB false)<|.br (decide (v38≠v26.1)) (.lfA rB false)<|.lfA rB true:Tree Bool _) (by kernel_rfl) (by kernel_rfl) (cF yzu fun v2=>bR (rfl)<|cF ynj fun v5=>sA<|eO (fun _=>rfl)<|sA<|eO Tc.o_i<|sA<|eO Ta.o_i<|sA<|eO Tj.o_i<|sA<|eO Td.o_i<|sA<|eO Tb.o_i<|sA<|eO Te.o_i<|cF qg2 fun v7=>sA<|cF ynj fun v9=>sA<|sA<|sA<|sA<|sA<|sA<|sA<|sA<|eO (fun _=>rfl)<|sA<|eO Tc.o_i<|sA<|eO Ta.o_i<|sA<|eO Tj.o_i<|sA<|eO Td.o_i<|sA<|eO Tb.o_i<|sA<|eO Te.o_i<|cF yuk fun v11=>sA<|sA<|eO (fun _=>rfl)<|sA<|eO (fun _=>rfl)<|cF yid fun v13=>bR (rfl)<|cF ynj fun v16=>sA<|eO (fun _=>rfl)<|sA<|eO Tc.o_i<|sA<|eO Ta.o_i<|sA<|eO Tj.o_i<|sA<|eO Td.o_i<|sA<|eO Tb.o_i<|sA<|eO Te.o_i<|sA<|eO (fun _=>rfl)<|sA<|eO Tc.o_i<|sA<|eO Ta.o_i<|sA<|eO Tj.o_i<|sA<|eO Td.o_i<|sA<|eO Tb.o_i<|sA<|eO Te.o_i<|cF qfv fun v18=>bR (rfl)<|⟨rfl,⟨rfl,⟨rfl,⟨rfl,⟨rfl,⟨rfl,⟨rfl,cE qfm fun v21=>bR (rfl)<|sA<|eO (fun _=>rfl)<|sA<|eO (fun _=>rfl)<|cF yid fun v23=>bR (rfl)<|⟨rfl,cE zt9 fun v26=>sA<|eO (fun _=>rfl)<|cF yvr fun v27=>bR (rfl)<|bR (rfl)<|cF ynj fun v31=>sA<|eO (fun _=>rfl)<|sA<|eO Tc.o_i<|sA<|eO Ta.o_i<|sA<|eO Tj.o_i<|sA<|eO Td.o_i<|sA<|eO Tb.o_i<|sA<|eO Te.o_i<|cF yuk fun v33=>sA<|sA<|eO (fun _=>rfl)<|sA<|eO (fun _=>rfl)<|cF yid fun v35=>bR (rfl)<|sA<|eO (fun _=>rfl)<|cF yvr fun v38=>bR (rfl)<|bR (rfl)<|rfl⟩⟩⟩⟩⟩⟩⟩⟩) hr,rfl,rfl⟩
end Go.Pm
namespace Go.Pm
set_option maxRecDepth 100000
set_option maxHeartbeats 400000
theorem za4 {p:PT} {ps:List PT} {vs:List V} (h:PT.hasAll (p::ps) vs):∃ v vs',vs=v::vs'/\p.has v/\PT.hasAll ps vs':=by simpa only [PT.hasAll] using h
theorem zb6 {vs:List V} (h:PT.hasAll [] vs):vs=[]:=by simpa only [PT.hasAll] using h
theorem zat:∀ {ps qs:List PT} {vs:List V},PT.hasAll (ps++qs) vs->∃ us ws,vs=us++ws/\PT.hasAll ps us/\PT.hasAll qs ws
 | [],qs,vs,h=>⟨[],vs,rfl,by simp only [PT.hasAll],h⟩
 | p::ps,qs,vs,h=>by
   obtain ⟨v,vs',rfl,h1,h2⟩:=za4 h
   obtain ⟨us,ws,rfl,h3,h4⟩:=zat h2
   exact ⟨v::us,ws,rfl,by simp only [PT.hasAll];exact ⟨v,us,rfl,h1,h3⟩,h4⟩
theorem zaj {v:V} (h:(PT.int .i64).has v):∃ n,v=.int .i64 n/\ -9223372036854775808<=n/\n<=9223372036854775807:=by
 simp only [PT.has] at h
 obtain ⟨n,rfl,h1,h2⟩:=h
 exact ⟨n,rfl,by simpa [IntKind.min,IntKind.signed,IntKind.bits] using h1,by simpa [IntKind.max,IntKind.signed,IntKind.bits] using h2⟩
theorem zlb {v:V} (h:PT.bool.has v):∃ b,v=.bool b:=by simpa only [PT.has] using h
theorem zo5 {α:Type} {f:α->V} {Q:α->Prop}:∀ {xs:List V},(∀ x∈xs,∃ a,x=f a/\Q a)->∃ as:List α,xs=as.map f/\∀ a∈as,Q a
 | [],_=>⟨[],rfl,by simp⟩
 | x::xs,h=>by
   obtain ⟨a,rfl,ha⟩:=h x (by simp)
   obtain ⟨as,rfl,has⟩:=zo5 (f:=f) (Q:=Q) (xs:=xs) (fun y hy=>h y (by simp [hy]))
   exact ⟨a::as,rfl,by simpa using ⟨ha,has⟩⟩
theorem zcb {α:Type} {f:α->V} {Q:α->Prop} {ag:Bool} {es:List PT} {v:V} (h:(PT.list ag es).has v) (he:∀ x:V,x.leaf= !ag->PT.hasAll es x.cells1->∃ a,x=f a/\Q a):
 ∃ as:List α,v=.imm es.length (as.map f)/\as.length<=9223372036854775807/\∀ a∈as,Q a:=by
 simp only [PT.has] at h
 obtain ⟨xs,rfl,hl,hx⟩:=h
 obtain ⟨as,rfl,ha⟩:=zo5 (f:=f) (Q:=Q) (fun x hm=>he x (hx x hm).1 (hx x hm).2)
 exact ⟨as,rfl,by simpa using hl,ha⟩
theorem yfh {p:PT} {x:V} (hx:x.leaf= !false) (h:PT.hasAll [p] x.cells1):p.has x:=by
 obtain ⟨v,vs,e,h1,h2⟩:=za4 h
 cases x <;> first|(simp only [V.cells1,List.cons.injEq] at e;rw [e.1];exact h1)|(cases hx;done)
theorem zi4 {v:V} (h:(PT.list false [.int .i64]).has v):∃ as:List Int,v=.imm 1 (as.map (.int .i64))/\as.length<=9223372036854775807/\∀ a∈as,-9223372036854775808<=a/\a<=9223372036854775807:=
 zcb h fun _ hx h=>zaj (yfh hx h)
theorem zes {v:V} (h:(PT.list false [.bool]).has v):∃ as:List Bool,v=.imm 1 (as.map .bool)/\as.length<=9223372036854775807/\∀ a∈as,True:=
 zcb h fun _ hx h=>by obtain ⟨b,rfl⟩:=zlb (yfh hx h);exact ⟨b,rfl,trivial⟩
def zj3:List PT:=.int .i64 :: .int .i64 :: .int .i64 :: .int .i64 :: .int .i64 :: .int .i64 :: .int .i64 :: []
theorem yhh {vs:List V} (g0:PT.hasAll zj3 vs):∃ a:Ti,a.ok/\V.agg vs=a.i:=by
 unfold zj3 at g0
 obtain ⟨_,_,rfl,h0,g1⟩:=za4 g0
 obtain ⟨x0,rfl,k0⟩:=zaj h0
 obtain ⟨_,_,rfl,h1,g2⟩:=za4 g1
 obtain ⟨x1,rfl,k1⟩:=zaj h1
 obtain ⟨_,_,rfl,h2,g3⟩:=za4 g2
 obtain ⟨x2,rfl,k2⟩:=zaj h2
 obtain ⟨_,_,rfl,h3,g4⟩:=za4 g3
 obtain ⟨x3,rfl,k3⟩:=zaj h3
 obtain ⟨_,_,rfl,h4,g5⟩:=za4 g4
 obtain ⟨x4,rfl,k4⟩:=zaj h4
 obtain ⟨_,_,rfl,h5,g6⟩:=za4 g5
 obtain ⟨x5,rfl,k5⟩:=zaj h5
 obtain ⟨_,_,rfl,h6,g7⟩:=za4 g6
 obtain ⟨x6,rfl,k6⟩:=zaj h6
 obtain rfl:=zb6 g7
 exact ⟨⟨x0,x1,x2,x3,x4,x5,x6⟩,⟨k0,k1,k2,k3,k4,k5,k6⟩,rfl⟩
theorem yd8 {x:V} (hx:x.leaf= !true) (h:PT.hasAll zj3 x.cells1):∃ a:Ti,x=a.i/\a.ok:=by
 obtain ⟨a,ha,e⟩:=yhh h
 cases x with
 | agg cs=>exact ⟨a,e,ha⟩
 | tup vs=>exfalso;have:=hasAll_leaf h (V.tup vs) (by simp [V.cells1]);cases this
 | _=>cases hx
theorem yck {v:V} (h:(PT.list true zj3).has v):∃ as:List Ti,v=.imm 7 (as.map Ti.i)/\as.length<=9223372036854775807/\∀ a∈as,a.ok:=zcb h fun _ hx h=>yd8 hx h
def zip:List PT:=.int .i64 :: .int .i64 :: .list true zj3 :: []
theorem zzi {vs:List V} (g0:PT.hasAll zip vs):∃ a:To,a.ok/\V.agg vs=a.i:=by
 unfold zip at g0
 obtain ⟨_,_,rfl,h0,g1⟩:=za4 g0
 obtain ⟨x0,rfl,k0⟩:=zaj h0
 obtain ⟨_,_,rfl,h1,g2⟩:=za4 g1
 obtain ⟨x1,rfl,k1⟩:=zaj h1
 obtain ⟨_,_,rfl,h2,g3⟩:=za4 g2
 obtain ⟨x2,rfl,j2,k2⟩:=yck h2
 obtain rfl:=zb6 g3
 exact ⟨⟨x0,x1,x2⟩,⟨k0,k1,j2,k2⟩,rfl⟩
def pt_Req:List PT:=.int .i64 :: .int .i64 :: .int .i64 :: .list false [.int .i64] :: .list false [.bool] :: .int .i64 :: []
theorem zk2 {vs:List V} (g0:PT.hasAll pt_Req vs):∃ a:Tk,a.ok/\V.agg vs=a.i:=by
 unfold pt_Req at g0
 obtain ⟨_,_,rfl,h0,g1⟩:=za4 g0
 obtain ⟨x0,rfl,k0⟩:=zaj h0
 obtain ⟨_,_,rfl,h1,g2⟩:=za4 g1
 obtain ⟨x1,rfl,k1⟩:=zaj h1
 obtain ⟨_,_,rfl,h2,g3⟩:=za4 g2
 obtain ⟨x2,rfl,k2⟩:=zaj h2
 obtain ⟨_,_,rfl,h3,g4⟩:=za4 g3
 obtain ⟨x3,rfl,j3,k3⟩:=zi4 h3
 obtain ⟨_,_,rfl,h4,g5⟩:=za4 g4
 obtain ⟨x4,rfl,j4,_⟩:=zes h4
 obtain ⟨_,_,rfl,h5,g6⟩:=za4 g5
 obtain ⟨x5,rfl,k5⟩:=zaj h5
 obtain rfl:=zb6 g6
 exact ⟨⟨x0,x1,x2,x3,x4,x5⟩,⟨k0,k1,k2,j3,k3,j4,k5⟩,rfl⟩
def pt_Part:List PT:=.int .i64 :: .int .i64::(pt_Req ++ [])
theorem yja {vs:List V} (g0:PT.hasAll pt_Part vs):∃ a:Th,a.ok/\V.agg vs=a.i:=by
 unfold pt_Part at g0
 obtain ⟨_,_,rfl,h0,g1⟩:=za4 g0
 obtain ⟨x0,rfl,k0⟩:=zaj h0
 obtain ⟨_,_,rfl,h1,g2⟩:=za4 g1
 obtain ⟨x1,rfl,k1⟩:=zaj h1
 obtain ⟨_,_,rfl,h2,g3⟩:=zat g2
 obtain ⟨x2,k2,e2⟩:=zk2 h2
 obtain rfl:=V.agg.inj e2
 obtain rfl:=zb6 g3
 exact ⟨⟨x0,x1,x2⟩,⟨k0,k1,k2⟩,rfl⟩
theorem ye0 {x:V} (hx:x.leaf= !true) (h:PT.hasAll pt_Part x.cells1):∃ a:Th,x=a.i/\a.ok:=by
 obtain ⟨a,ha,e⟩:=yja h
 cases x with
 | agg cs=>exact ⟨a,e,ha⟩
 | tup vs=>exfalso;have:=hasAll_leaf h (V.tup vs) (by simp [V.cells1]);cases this
 | _=>cases hx
theorem ztv {v:V} (h:(PT.list true pt_Part).has v):∃ as:List Th,v=.imm 8 (as.map Th.i)/\as.length<=9223372036854775807/\∀ a∈as,a.ok:=zcb h fun _ hx h=>ye0 hx h
def zej:List PT:=.int .i64 :: .int .i64 :: .int .i64 :: .int .i64 :: .list false [.int .i64] :: .list false [.bool] :: []
theorem zmd {vs:List V} (g0:PT.hasAll zej vs):∃ a:Tf,a.ok/\V.agg vs=a.i:=by
 unfold zej at g0
 obtain ⟨_,_,rfl,h0,g1⟩:=za4 g0
 obtain ⟨x0,rfl,k0⟩:=zaj h0
 obtain ⟨_,_,rfl,h1,g2⟩:=za4 g1
 obtain ⟨x1,rfl,k1⟩:=zaj h1
 obtain ⟨_,_,rfl,h2,g3⟩:=za4 g2
 obtain ⟨x2,rfl,k2⟩:=zaj h2
 obtain ⟨_,_,rfl,h3,g4⟩:=za4 g3
 obtain ⟨x3,rfl,k3⟩:=zaj h3
 obtain ⟨_,_,rfl,h4,g5⟩:=za4 g4
 obtain ⟨x4,rfl,j4,k4⟩:=zi4 h4
 obtain ⟨_,_,rfl,h5,g6⟩:=za4 g5
 obtain ⟨x5,rfl,j5,_⟩:=zes h5
 obtain rfl:=zb6 g6
 exact ⟨⟨x0,x1,x2,x3,x4,x5⟩,⟨k0,k1,k2,k3,j4,k4,j5⟩,rfl⟩
theorem ydr {x:V} (hx:x.leaf= !true) (h:PT.hasAll zej x.cells1):∃ a:Tf,x=a.i/\a.ok:=by
 obtain ⟨a,ha,e⟩:=zmd h
 cases x with
 | agg cs=>exact ⟨a,e,ha⟩
 | tup vs=>exfalso;have:=hasAll_leaf h (V.tup vs) (by simp [V.cells1]);cases this
 | _=>cases hx
theorem zt5 {v:V} (h:(PT.list true zej).has v):∃ as:List Tf,v=.imm 6 (as.map Tf.i)/\as.length<=9223372036854775807/\∀ a∈as,a.ok:=zcb h fun _ hx h=>ydr hx h
def zjb:List PT:=.int .i64 :: .int .i64 :: .int .i64 :: .int .i64::(pt_Req ++ .list true pt_Part :: .list false [.bool] :: .list true zej :: [])
theorem yg0 {vs:List V} (g0:PT.hasAll zjb vs):∃ a:Tc,a.ok/\V.agg vs=a.i:=by
 unfold zjb at g0
 obtain ⟨_,_,rfl,h0,g1⟩:=za4 g0
 obtain ⟨x0,rfl,k0⟩:=zaj h0
 obtain ⟨_,_,rfl,h1,g2⟩:=za4 g1
 obtain ⟨x1,rfl,k1⟩:=zaj h1
 obtain ⟨_,_,rfl,h2,g3⟩:=za4 g2
 obtain ⟨x2,rfl,k2⟩:=zaj h2
 obtain ⟨_,_,rfl,h3,g4⟩:=za4 g3
 obtain ⟨x3,rfl,k3⟩:=zaj h3
 obtain ⟨_,_,rfl,h4,g5⟩:=zat g4
 obtain ⟨x4,k4,e4⟩:=zk2 h4
 obtain rfl:=V.agg.inj e4
 obtain ⟨_,_,rfl,h5,g6⟩:=za4 g5
 obtain ⟨x5,rfl,j5,k5⟩:=ztv h5
 obtain ⟨_,_,rfl,h6,g7⟩:=za4 g6
 obtain ⟨x6,rfl,j6,_⟩:=zes h6
 obtain ⟨_,_,rfl,h7,g8⟩:=za4 g7
 obtain ⟨x7,rfl,j7,k7⟩:=zt5 h7
 obtain rfl:=zb6 g8
 exact ⟨⟨x0,x1,x2,x3,x4,x5,x6,x7⟩,⟨k0,k1,k2,k3,k4,j5,k5,j6,j7,k7⟩,rfl⟩
theorem ycs {x:V} (hx:x.leaf= !true) (h:PT.hasAll zjb x.cells1):∃ a:Tc,x=a.i/\a.ok:=by
 obtain ⟨a,ha,e⟩:=yg0 h
 cases x with
 | agg cs=>exact ⟨a,e,ha⟩
 | tup vs=>exfalso;have:=hasAll_leaf h (V.tup vs) (by simp [V.cells1]);cases this
 | _=>cases hx
theorem yd5 {v:V} (h:(PT.list true zjb).has v):∃ as:List Tc,v=.imm 13 (as.map Tc.i)/\as.length<=9223372036854775807/\∀ a∈as,a.ok:=zcb h fun _ hx h=>ycs hx h
def pt_Table:List PT:=.int .i64 :: .list true zjb :: []
theorem ye1 {vs:List V} (g0:PT.hasAll pt_Table vs):∃ a:Tp,a.ok/\V.agg vs=a.i:=by
 unfold pt_Table at g0
 obtain ⟨_,_,rfl,h0,g1⟩:=za4 g0
 obtain ⟨x0,rfl,k0⟩:=zaj h0
 obtain ⟨_,_,rfl,h1,g2⟩:=za4 g1
 obtain ⟨x1,rfl,j1,k1⟩:=yd5 h1
 obtain rfl:=zb6 g2
 exact ⟨⟨x0,x1⟩,⟨k0,j1,k1⟩,rfl⟩
def pt_Call:List PT:=.int .i64 :: .int .i64 :: .int .i64::(pt_Req ++ [])
theorem zzf {vs:List V} (g0:PT.hasAll pt_Call vs):∃ a:Tg,a.ok/\V.agg vs=a.i:=by
 unfold pt_Call at g0
 obtain ⟨_,_,rfl,h0,g1⟩:=za4 g0
 obtain ⟨x0,rfl,k0⟩:=zaj h0
 obtain ⟨_,_,rfl,h1,g2⟩:=za4 g1
 obtain ⟨x1,rfl,k1⟩:=zaj h1
 obtain ⟨_,_,rfl,h2,g3⟩:=za4 g2
 obtain ⟨x2,rfl,k2⟩:=zaj h2
 obtain ⟨_,_,rfl,h3,g4⟩:=zat g3
 obtain ⟨x3,k3,e3⟩:=zk2 h3
 obtain rfl:=V.agg.inj e3
 obtain rfl:=zb6 g4
 exact ⟨⟨x0,x1,x2,x3⟩,⟨k0,k1,k2,k3⟩,rfl⟩
theorem ydz {x:V} (hx:x.leaf= !true) (h:PT.hasAll pt_Call x.cells1):∃ a:Tg,x=a.i/\a.ok:=by
 obtain ⟨a,ha,e⟩:=zzf h
 cases x with
 | agg cs=>exact ⟨a,e,ha⟩
 | tup vs=>exfalso;have:=hasAll_leaf h (V.tup vs) (by simp [V.cells1]);cases this
 | _=>cases hx
theorem ycg {v:V} (h:(PT.list true pt_Call).has v):∃ as:List Tg,v=.imm 9 (as.map Tg.i)/\as.length<=9223372036854775807/\∀ a∈as,a.ok:=zcb h fun _ hx h=>ydz hx h
def pt_Line:List PT:=.list true pt_Call :: .bool::(pt_Call ++ .int .i64 :: .int .i64 :: .int .i64 :: .int .i64 :: .int .i64 :: .int .i64 :: [])
theorem yhm {vs:List V} (g0:PT.hasAll pt_Line vs):∃ a:Ta,a.ok/\V.agg vs=a.i:=by
 unfold pt_Line at g0
 obtain ⟨_,_,rfl,h0,g1⟩:=za4 g0
 obtain ⟨x0,rfl,j0,k0⟩:=ycg h0
 obtain ⟨_,_,rfl,h1,g2⟩:=za4 g1
 obtain ⟨x1,rfl⟩:=zlb h1
 obtain ⟨_,_,rfl,h2,g3⟩:=zat g2
 obtain ⟨x2,k2,e2⟩:=zzf h2
 obtain rfl:=V.agg.inj e2
 obtain ⟨_,_,rfl,h3,g4⟩:=za4 g3
 obtain ⟨x3,rfl,k3⟩:=zaj h3
 obtain ⟨_,_,rfl,h4,g5⟩:=za4 g4
 obtain ⟨x4,rfl,k4⟩:=zaj h4
 obtain ⟨_,_,rfl,h5,g6⟩:=za4 g5
 obtain ⟨x5,rfl,k5⟩:=zaj h5
 obtain ⟨_,_,rfl,h6,g7⟩:=za4 g6
 obtain ⟨x6,rfl,k6⟩:=zaj h6
 obtain ⟨_,_,rfl,h7,g8⟩:=za4 g7
 obtain ⟨x7,rfl,k7⟩:=zaj h7
 obtain ⟨_,_,rfl,h8,g9⟩:=za4 g8
 obtain ⟨x8,rfl,k8⟩:=zaj h8
 obtain rfl:=zb6 g9
 exact ⟨⟨x0,x1,x2,x3,x4,x5,x6,x7,x8⟩,⟨j0,k0,k2,k3,k4,k5,k6,k7,k8⟩,rfl⟩
theorem ydb {x:V} (hx:x.leaf= !true) (h:PT.hasAll pt_Line x.cells1):∃ a:Ta,x=a.i/\a.ok:=by
 obtain ⟨a,ha,e⟩:=yhm h
 cases x with
 | agg cs=>exact ⟨a,e,ha⟩
 | tup vs=>exfalso;have:=hasAll_leaf h (V.tup vs) (by simp [V.cells1]);cases this
 | _=>cases hx
theorem ydu {v:V} (h:(PT.list true pt_Line).has v):∃ as:List Ta,v=.imm 17 (as.map Ta.i)/\as.length<=9223372036854775807/\∀ a∈as,a.ok:=zcb h fun _ hx h=>ydb hx h
def pt_Fabric:List PT:=.int .i64::(zip++(pt_Table ++ .list true pt_Line :: .int .i64 :: .int .i64 :: .int .i64 :: .int .i64 :: []))
theorem zxs {vs:List V} (g0:PT.hasAll pt_Fabric vs):∃ a:Tn,a.ok/\V.agg vs=a.i:=by
 unfold pt_Fabric at g0
 obtain ⟨_,_,rfl,h0,g1⟩:=za4 g0
 obtain ⟨x0,rfl,k0⟩:=zaj h0
 obtain ⟨_,_,rfl,h1,g2⟩:=zat g1
 obtain ⟨x1,k1,e1⟩:=zzi h1
 obtain rfl:=V.agg.inj e1
 obtain ⟨_,_,rfl,h2,g3⟩:=zat g2
 obtain ⟨x2,k2,e2⟩:=ye1 h2
 obtain rfl:=V.agg.inj e2
 obtain ⟨_,_,rfl,h3,g4⟩:=za4 g3
 obtain ⟨x3,rfl,j3,k3⟩:=ydu h3
 obtain ⟨_,_,rfl,h4,g5⟩:=za4 g4
 obtain ⟨x4,rfl,k4⟩:=zaj h4
 obtain ⟨_,_,rfl,h5,g6⟩:=za4 g5
 obtain ⟨x5,rfl,k5⟩:=zaj h5
 obtain ⟨_,_,rfl,h6,g7⟩:=za4 g6
 obtain ⟨x6,rfl,k6⟩:=zaj h6
 obtain ⟨_,_,rfl,h7,g8⟩:=za4 g7
 obtain ⟨x7,rfl,k7⟩:=zaj h7
 obtain rfl:=zb6 g8
 exact ⟨⟨x0,x1,x2,x3,x4,x5,x6,x7⟩,⟨k0,k1,k2,j3,k3,k4,k5,k6,k7⟩,rfl⟩
def zj8:List PT:=.list false [.bool] :: .list false [.bool] :: .list false [.int .i64] :: .list false [.int .i64] :: []
theorem zxw {vs:List V} (g0:PT.hasAll zj8 vs):∃ a:Tm,a.ok/\V.agg vs=a.i:=by
 unfold zj8 at g0
 obtain ⟨_,_,rfl,h0,g1⟩:=za4 g0
 obtain ⟨x0,rfl,j0,_⟩:=zes h0
 obtain ⟨_,_,rfl,h1,g2⟩:=za4 g1
 obtain ⟨x1,rfl,j1,_⟩:=zes h1
 obtain ⟨_,_,rfl,h2,g3⟩:=za4 g2
 obtain ⟨x2,rfl,j2,k2⟩:=zi4 h2
 obtain ⟨_,_,rfl,h3,g4⟩:=za4 g3
 obtain ⟨x3,rfl,j3,k3⟩:=zi4 h3
 obtain rfl:=zb6 g4
 exact ⟨⟨x0,x1,x2,x3⟩,⟨j0,j1,j2,k2,j3,k3⟩,rfl⟩
def pt_Post:List PT:=.int .i64 :: .int .i64::(zj8 ++ [])
theorem ygd {vs:List V} (g0:PT.hasAll pt_Post vs):∃ a:Tj,a.ok/\V.agg vs=a.i:=by
 unfold pt_Post at g0
 obtain ⟨_,_,rfl,h0,g1⟩:=za4 g0
 obtain ⟨x0,rfl,k0⟩:=zaj h0
 obtain ⟨_,_,rfl,h1,g2⟩:=za4 g1
 obtain ⟨x1,rfl,k1⟩:=zaj h1
 obtain ⟨_,_,rfl,h2,g3⟩:=zat g2
 obtain ⟨x2,k2,e2⟩:=zxw h2
 obtain rfl:=V.agg.inj e2
 obtain rfl:=zb6 g3
 exact ⟨⟨x0,x1,x2⟩,⟨k0,k1,k2⟩,rfl⟩
theorem yd1 {x:V} (hx:x.leaf= !true) (h:PT.hasAll pt_Post x.cells1):∃ a:Tj,x=a.i/\a.ok:=by
 obtain ⟨a,ha,e⟩:=ygd h
 cases x with
 | agg cs=>exact ⟨a,e,ha⟩
 | tup vs=>exfalso;have:=hasAll_leaf h (V.tup vs) (by simp [V.cells1]);cases this
 | _=>cases hx
theorem ych {v:V} (h:(PT.list true pt_Post).has v):∃ as:List Tj,v=.imm 6 (as.map Tj.i)/\as.length<=9223372036854775807/\∀ a∈as,a.ok:=zcb h fun _ hx h=>yd1 hx h
def zer:List PT:=.bool :: .int .i64 :: .int .i64 :: .int .i64::(pt_Req++(zej ++ []))
theorem zy4 {vs:List V} (g0:PT.hasAll zer vs):∃ a:Td,a.ok/\V.agg vs=a.i:=by
 unfold zer at g0
 obtain ⟨_,_,rfl,h0,g1⟩:=za4 g0
 obtain ⟨x0,rfl⟩:=zlb h0
 obtain ⟨_,_,rfl,h1,g2⟩:=za4 g1
 obtain ⟨x1,rfl,k1⟩:=zaj h1
 obtain ⟨_,_,rfl,h2,g3⟩:=za4 g2
 obtain ⟨x2,rfl,k2⟩:=zaj h2
 obtain ⟨_,_,rfl,h3,g4⟩:=za4 g3
 obtain ⟨x3,rfl,k3⟩:=zaj h3
 obtain ⟨_,_,rfl,h4,g5⟩:=zat g4
 obtain ⟨x4,k4,e4⟩:=zk2 h4
 obtain rfl:=V.agg.inj e4
 obtain ⟨_,_,rfl,h5,g6⟩:=zat g5
 obtain ⟨x5,k5,e5⟩:=zmd h5
 obtain rfl:=V.agg.inj e5
 obtain rfl:=zb6 g6
 exact ⟨⟨x0,x1,x2,x3,x4,x5⟩,⟨k1,k2,k3,k4,k5⟩,rfl⟩
theorem zue {x:V} (hx:x.leaf= !true) (h:PT.hasAll zer x.cells1):∃ a:Td,x=a.i/\a.ok:=by
 obtain ⟨a,ha,e⟩:=zy4 h
 cases x with
 | agg cs=>exact ⟨a,e,ha⟩
 | tup vs=>exfalso;have:=hasAll_leaf h (V.tup vs) (by simp [V.cells1]);cases this
 | _=>cases hx
theorem zuf {v:V} (h:(PT.list true zer).has v):∃ as:List Td,v=.imm 16 (as.map Td.i)/\as.length<=9223372036854775807/\∀ a∈as,a.ok:=zcb h fun _ hx h=>zue hx h
def zgs:List PT:=.int .i64 :: .int .i64::(pt_Req ++ .list true pt_Part :: .list true zej::(zej ++ []))
theorem yc7 {vs:List V} (g0:PT.hasAll zgs vs):∃ a:Tb,a.ok/\V.agg vs=a.i:=by
 unfold zgs at g0
 obtain ⟨_,_,rfl,h0,g1⟩:=za4 g0
 obtain ⟨x0,rfl,k0⟩:=zaj h0
 obtain ⟨_,_,rfl,h1,g2⟩:=za4 g1
 obtain ⟨x1,rfl,k1⟩:=zaj h1
 obtain ⟨_,_,rfl,h2,g3⟩:=zat g2
 obtain ⟨x2,k2,e2⟩:=zk2 h2
 obtain rfl:=V.agg.inj e2
 obtain ⟨_,_,rfl,h3,g4⟩:=za4 g3
 obtain ⟨x3,rfl,j3,k3⟩:=ztv h3
 obtain ⟨_,_,rfl,h4,g5⟩:=za4 g4
 obtain ⟨x4,rfl,j4,k4⟩:=zt5 h4
 obtain ⟨_,_,rfl,h5,g6⟩:=zat g5
 obtain ⟨x5,k5,e5⟩:=zmd h5
 obtain rfl:=V.agg.inj e5
 obtain rfl:=zb6 g6
 exact ⟨⟨x0,x1,x2,x3,x4,x5⟩,⟨k0,k1,k2,j3,k3,j4,k4,k5⟩,rfl⟩
theorem zx7 {x:V} (hx:x.leaf= !true) (h:PT.hasAll zgs x.cells1):∃ a:Tb,x=a.i/\a.ok:=by
 obtain ⟨a,ha,e⟩:=yc7 h
 cases x with
 | agg cs=>exact ⟨a,e,ha⟩
 | tup vs=>exfalso;have:=hasAll_leaf h (V.tup vs) (by simp [V.cells1]);cases this
 | _=>cases hx
theorem yb7 {v:V} (h:(PT.list true zgs).has v):∃ as:List Tb,v=.imm 16 (as.map Tb.i)/\as.length<=9223372036854775807/\∀ a∈as,a.ok:=zcb h fun _ hx h=>zx7 hx h
def zew:List PT:=.int .i64 :: .int .i64 :: .int .i64::(pt_Req++(zej ++ []))
theorem zzk {vs:List V} (g0:PT.hasAll zew vs):∃ a:Te,a.ok/\V.agg vs=a.i:=by
 unfold zew at g0
 obtain ⟨_,_,rfl,h0,g1⟩:=za4 g0
 obtain ⟨x0,rfl,k0⟩:=zaj h0
 obtain ⟨_,_,rfl,h1,g2⟩:=za4 g1
 obtain ⟨x1,rfl,k1⟩:=zaj h1
 obtain ⟨_,_,rfl,h2,g3⟩:=za4 g2
 obtain ⟨x2,rfl,k2⟩:=zaj h2
 obtain ⟨_,_,rfl,h3,g4⟩:=zat g3
 obtain ⟨x3,k3,e3⟩:=zk2 h3
 obtain rfl:=V.agg.inj e3
 obtain ⟨_,_,rfl,h4,g5⟩:=zat g4
 obtain ⟨x4,k4,e4⟩:=zmd h4
 obtain rfl:=V.agg.inj e4
 obtain rfl:=zb6 g5
 exact ⟨⟨x0,x1,x2,x3,x4⟩,⟨k0,k1,k2,k3,k4⟩,rfl⟩
theorem zud {x:V} (hx:x.leaf= !true) (h:PT.hasAll zew x.cells1):∃ a:Te,x=a.i/\a.ok:=by
 obtain ⟨a,ha,e⟩:=zzk h
 cases x with
 | agg cs=>exact ⟨a,e,ha⟩
 | tup vs=>exfalso;have:=hasAll_leaf h (V.tup vs) (by simp [V.cells1]);cases this
 | _=>cases hx
theorem zuk {v:V} (h:(PT.list true zew).has v):∃ as:List Te,v=.imm 15 (as.map Te.i)/\as.length<=9223372036854775807/\∀ a∈as,a.ok:=zcb h fun _ hx h=>zud hx h
def zi2:List PT:=(pt_Fabric ++ .list true pt_Post :: .list true zer :: .list true zgs :: .list true zew :: [])
theorem yd6 {vs:List V} (g0:PT.hasAll zi2 vs):∃ a:Tl,a.ok/\V.agg vs=a.i:=by
 unfold zi2 at g0
 obtain ⟨_,_,rfl,h0,g1⟩:=zat g0
 obtain ⟨x0,k0,e0⟩:=zxs h0
 obtain rfl:=V.agg.inj e0
 obtain ⟨_,_,rfl,h1,g2⟩:=za4 g1
 obtain ⟨x1,rfl,j1,k1⟩:=ych h1
 obtain ⟨_,_,rfl,h2,g3⟩:=za4 g2
 obtain ⟨x2,rfl,j2,k2⟩:=zuf h2
 obtain ⟨_,_,rfl,h3,g4⟩:=za4 g3
 obtain ⟨x3,rfl,j3,k3⟩:=yb7 h3
 obtain ⟨_,_,rfl,h4,g5⟩:=za4 g4
 obtain ⟨x4,rfl,j4,k4⟩:=zuk h4
 obtain rfl:=zb6 g5
 exact ⟨⟨x0,x1,x2,x3,x4⟩,⟨k0,j1,k1,j2,k2,j3,k3,j4,k4⟩,rfl⟩
theorem zwc {x:V} (hx:x.leaf= !true) (h:PT.hasAll zi2 x.cells1):∃ a:Tl,x=a.i/\a.ok:=by
 obtain ⟨a,ha,e⟩:=yd6 h
 cases x with
 | agg cs=>exact ⟨a,e,ha⟩
 | tup vs=>exfalso;have:=hasAll_leaf h (V.tup vs) (by simp [V.cells1]);cases this
 | _=>cases hx
end Go.Pm
namespace Go.Pm
set_option maxRecDepth 100000
set_option maxHeartbeats 400000
theorem zhw (a:List Int) (h:a.length<=9223372036854775807):SzOk (yjj a) (a.length):=SzOk.of (fun l=>rfl) (SzOk.len h)
theorem zho (a:List Int) (h:a.length<=1048576):yhy a=some a:=by
 have hl:a.length<=1048576:=h
 rw [yhy,if_pos ⟨by omega,by rw [zae];omega⟩]
 unfold zrg
 rw [if_pos (by omega),zhn (xs:=a)]
 ·rw [zxn];rfl
 ·intro d x t s he hd
  rw [yak]
  obtain ⟨z,hz⟩:∃ z,s[d.length]? =some z:=⟨s[d.length],List.getElem?_eq_getElem hd⟩
  simp only [zae,List.length_map,Nat.sub_zero]
  rw [if_pos ⟨by omega,by omega⟩]
  simp only [hz,Option.bind_some,List.set_set,List.length_set,hd,zcy]
 ·simp
theorem zgm (a:List Int) (h:a.length<=1048576):ybx a a=some true:=by
 have hl:a.length<=1048576:=h
 rw [ybx]
 unfold zrk
 rw [if_pos (by omega),zvh (xs:=a)]
 ·simp only [ne_eq,not_true_eq_false,decide_false,cond_false,ybs];rfl
 ·intro d x t he
  rw [yae]
  simp only [zae,zcx he,Option.bind_some,ne_eq,not_true_eq_false,decide_false,cond_false,BEq.rfl,bne_self_eq_false,Bool.true_xor,Bool.not_true]
theorem zf4 (a:List Bool) (h:a.length<=9223372036854775807):SzOk (ygm a) (a.length):=SzOk.of (fun l=>rfl) (SzOk.len h)
theorem zf5 (a:List Bool) (h:a.length<=1048576):yfp a=some a:=by
 have hl:a.length<=1048576:=h
 rw [yfp,if_pos ⟨by omega,by rw [zae];omega⟩]
 unfold zri
 rw [if_pos (by omega),zhn (xs:=a)]
 ·rw [zzg];rfl
 ·intro d x t s he hd
  rw [zyb]
  obtain ⟨z,hz⟩:∃ z,s[d.length]? =some z:=⟨s[d.length],List.getElem?_eq_getElem hd⟩
  simp only [zae,List.length_map,Nat.sub_zero]
  rw [if_pos ⟨by omega,by omega⟩]
  simp only [hz,Option.bind_some,List.set_set,List.length_set,hd,zcy]
 ·simp
theorem zf8 (a:List Bool) (h:a.length<=1048576):yf7 a a=some true:=by
 have hl:a.length<=1048576:=h
 rw [yf7]
 unfold zsn
 rw [if_pos (by omega),zvh (xs:=a)]
 ·simp only [ne_eq,not_true_eq_false,decide_false,cond_false,yba];rfl
 ·intro d x t he
  rw [yal]
  simp only [zae,zcx he,Option.bind_some,ne_eq,not_true_eq_false,decide_false,cond_false,BEq.rfl,bne_self_eq_false,Bool.true_xor,Bool.not_true]
theorem ycn (a:Ti) (h:a.sz<=1048576):ynd a=some a:=by rw [ynd]
theorem ydp (a:Ti) (h:a.sz<=1048576):ymn a a=some true:=by
 simp only [Ti.sz] at h
 rw [ymn]
 simp only [Option.bind_some,ne_eq,not_true_eq_false,decide_false,cond_false,BEq.rfl,bne_self_eq_false,Bool.true_xor,Bool.not_true]
theorem zy2 (a:List Ti) (h:a.length<=9223372036854775807):SzOk (yqy a) (a.length):=SzOk.of (fun l=>rfl) (SzOk.len h)
theorem zy9 (a:List Ti) (h:a.length<=1048576):ymo a=some a:=by
 have hl:a.length<=1048576:=h
 rw [ymo,if_pos ⟨by omega,by rw [zae];omega⟩]
 unfold zrh
 rw [if_pos (by omega),zhn (xs:=a)]
 ·rw [zz5];rfl
 ·intro d x t s he hd
  rw [zya]
  obtain ⟨z,hz⟩:∃ z,s[d.length]? =some z:=⟨s[d.length],List.getElem?_eq_getElem hd⟩
  simp only [ycn x (by simp [Ti.sz]),Option.bind_some,zae,List.length_map,Nat.sub_zero]
  rw [if_pos ⟨by omega,by omega⟩]
  simp only [hz,Option.bind_some,List.set_set,List.length_set,hd,zcy]
 ·simp
theorem zxp (a:List Ti) (h:a.length<=1048576):yly a a=some true:=by
 have hl:a.length<=1048576:=h
 rw [yly]
 unfold zru
 rw [if_pos (by omega),zvh (xs:=a)]
 ·simp only [ne_eq,not_true_eq_false,decide_false,cond_false,zxv];rfl
 ·intro d x t he
  rw [zvs]
  simp only [zae,zcx he,Option.bind_some,ydp x (by simp [Ti.sz]),ne_eq,not_true_eq_false,decide_false,cond_false,BEq.rfl,bne_self_eq_false,Bool.true_xor,Bool.not_true]
theorem zuu (a:To) (h:a.ok):SzOk (yqk a) (a.sz):=SzOk.of (fun l=>rfl) (SzOk.one (zy2 a.fp (by exact h.2.2.1)))
theorem zup (a:To) (h:a.sz<=1048576):yo2 a=some a:=by
 simp only [To.sz] at h
 rw [yo2]
 simp only [zy9 a.fp (by first|omega|(simp only [To.sz];omega)),Option.bind_some]
theorem zun (a:To) (h:a.sz<=1048576):yov a a=some true:=by
 simp only [To.sz] at h
 rw [yov]
 simp only [zxp a.fp (by first|omega|(simp only [To.sz];omega)),Option.bind_some,ne_eq,not_true_eq_false,decide_false,cond_false,BEq.rfl,bne_self_eq_false,Bool.true_xor,Bool.not_true]
theorem zh6 (a:Tk) (h:a.ok):SzOk (yeq a) (a.sz):=SzOk.of (fun l=>rfl) (SzOk.seq (zhw a.fc (by exact h.2.2.2.1)) (SzOk.one (zf4 a.fd (by exact h.2.2.2.2.2.1))))
theorem zgv (a:Tk) (h:a.sz<=1048576):ydn a=some a:=by
 simp only [Tk.sz] at h
 rw [ydn]
 simp only [zho a.fc (by first|omega|(simp only [Tk.sz];omega)),zf5 a.fd (by first|omega|(simp only [Tk.sz];omega)),Option.bind_some]
theorem zh4 (a:Tk) (h:a.sz<=1048576):yca a a=some true:=by
 simp only [Tk.sz] at h
 rw [yca]
 simp only [zgm a.fc (by first|omega|(simp only [Tk.sz];omega)),zf8 a.fd (by first|omega|(simp only [Tk.sz];omega)),Option.bind_some,ne_eq,not_true_eq_false,decide_false,cond_false,BEq.rfl,bne_self_eq_false,Bool.true_xor,Bool.not_true]
theorem ydc (a:Th) (h:a.ok):SzOk (yt1 a) (a.sz):=SzOk.of (fun l=>rfl) (SzOk.one (zh6 a.fa (by exact h.2.2)))
theorem yds (a:Th) (h:a.sz<=1048576):ynp a=some a:=by
 simp only [Th.sz] at h
 rw [ynp]
 simp only [zgv a.fa (by first|omega|(simp only [Th.sz];omega)),Option.bind_some]
theorem ydq (a:Th) (h:a.sz<=1048576):yph a a=some true:=by
 simp only [Th.sz] at h
 rw [yph]
 simp only [zh4 a.fa (by first|omega|(simp only [Th.sz];omega)),Option.bind_some,ne_eq,not_true_eq_false,decide_false,cond_false,BEq.rfl,bne_self_eq_false,Bool.true_xor,Bool.not_true]
theorem zoh (a:List Th) (h:a.length<=9223372036854775807/\∀ b∈a,b.ok):SzOk (ymw a) (szL Th.sz a):=SzOk.of (fun l=>rfl) (SzOk.list h.1 (fun x hx=>ydc x (h.2 x hx)) (fun k x s=>rfl) (fun s=>rfl))
theorem zo4 (a:List Th) (h:szL Th.sz a<=1048576):ykp a=some a:=by
 have hl:a.length<=1048576:=by have:=zbm (f:=Th.sz) (xs:=a);omega
 rw [ykp,if_pos ⟨by omega,by rw [zae];omega⟩]
 unfold zsm
 rw [if_pos (by omega),zhn (xs:=a)]
 ·rw [ybw];rfl
 ·intro d x t s he hd
  rw [ybb]
  obtain ⟨z,hz⟩:∃ z,s[d.length]? =some z:=⟨s[d.length],List.getElem?_eq_getElem hd⟩
  simp only [yds x (by have:=zby (f:=Th.sz) (he ▸ (by simp:x∈d++x::t));omega),Option.bind_some,zae,List.length_map,Nat.sub_zero]
  rw [if_pos ⟨by omega,by omega⟩]
  simp only [hz,Option.bind_some,List.set_set,List.length_set,hd,zcy]
 ·simp
theorem zoa (a:List Th) (h:szL Th.sz a<=1048576):yk2 a a=some true:=by
 have hl:a.length<=1048576:=by have:=zbm (f:=Th.sz) (xs:=a);omega
 rw [yk2]
 unfold zpd
 rw [if_pos (by omega),zvh (xs:=a)]
 ·simp only [ne_eq,not_true_eq_false,decide_false,cond_false,zvq];rfl
 ·intro d x t he
  rw [zy3]
  simp only [zae,zcx he,Option.bind_some,ydq x (by have:=zby (f:=Th.sz) (he ▸ (by simp:x∈d++x::t));omega),ne_eq,not_true_eq_false,decide_false,cond_false,BEq.rfl,bne_self_eq_false,Bool.true_xor,Bool.not_true]
theorem zhx (a:Tf) (h:a.ok):SzOk (yjf a) (a.sz):=SzOk.of (fun l=>rfl) (SzOk.seq (zhw a.fc (by exact h.2.2.2.2.1)) (SzOk.one (zf4 a.fd (by exact h.2.2.2.2.2.2))))
theorem zht (a:Tf) (h:a.sz<=1048576):yiz a=some a:=by
 simp only [Tf.sz] at h
 rw [yiz]
 simp only [zho a.fc (by first|omega|(simp only [Tf.sz];omega)),zf5 a.fd (by first|omega|(simp only [Tf.sz];omega)),Option.bind_some]
theorem zi1 (a:Tf) (h:a.sz<=1048576):yi6 a a=some true:=by
 simp only [Tf.sz] at h
 rw [yi6]
 simp only [zgm a.fc (by first|omega|(simp only [Tf.sz];omega)),zf8 a.fd (by first|omega|(simp only [Tf.sz];omega)),Option.bind_some,ne_eq,not_true_eq_false,decide_false,cond_false,BEq.rfl,bne_self_eq_false,Bool.true_xor,Bool.not_true]
theorem zou (a:List Tf) (h:a.length<=9223372036854775807/\∀ b∈a,b.ok):SzOk (yn3 a) (szL Tf.sz a):=SzOk.of (fun l=>rfl) (SzOk.list h.1 (fun x hx=>zhx x (h.2 x hx)) (fun k x s=>rfl) (fun s=>rfl))
theorem zo8 (a:List Tf) (h:szL Tf.sz a<=1048576):yjv a=some a:=by
 have hl:a.length<=1048576:=by have:=zbm (f:=Tf.sz) (xs:=a);omega
 rw [yjv,if_pos ⟨by omega,by rw [zae];omega⟩]
 unfold zr6
 rw [if_pos (by omega),zhn (xs:=a)]
 ·rw [yaz];rfl
 ·intro d x t s he hd
  rw [zww]
  obtain ⟨z,hz⟩:∃ z,s[d.length]? =some z:=⟨s[d.length],List.getElem?_eq_getElem hd⟩
  simp only [zht x (by have:=zby (f:=Tf.sz) (he ▸ (by simp:x∈d++x::t));omega),Option.bind_some,zae,List.length_map,Nat.sub_zero]
  rw [if_pos ⟨by omega,by omega⟩]
  simp only [hz,Option.bind_some,List.set_set,List.length_set,hd,zcy]
 ·simp
theorem znu (a:List Tf) (h:szL Tf.sz a<=1048576):yjx a a=some true:=by
 have hl:a.length<=1048576:=by have:=zbm (f:=Tf.sz) (xs:=a);omega
 rw [yjx]
 unfold zs2
 rw [if_pos (by omega),zvh (xs:=a)]
 ·simp only [ne_eq,not_true_eq_false,decide_false,cond_false,zyv];rfl
 ·intro d x t he
  rw [ybh]
  simp only [zae,zcx he,Option.bind_some,zi1 x (by have:=zby (f:=Tf.sz) (he ▸ (by simp:x∈d++x::t));omega),ne_eq,not_true_eq_false,decide_false,cond_false,BEq.rfl,bne_self_eq_false,Bool.true_xor,Bool.not_true]
theorem yd3 (a:Tc) (h:a.ok):SzOk (ysj a) (a.sz):=SzOk.of (fun l=>rfl) (SzOk.seq (zh6 a.fa (by exact h.2.2.2.2.1)) (SzOk.seq (zoh a.ft (by exact ⟨h.2.2.2.2.2.1,h.2.2.2.2.2.2.1⟩)) (SzOk.seq (zf4 a.fap (by exact h.2.2.2.2.2.2.2.1)) (SzOk.one (zou a.fu (by exact ⟨h.2.2.2.2.2.2.2.2.1,h.2.2.2.2.2.2.2.2.2⟩))))))
theorem yde (a:Tc) (h:a.sz<=1048576):ynx a=some a:=by
 simp only [Tc.sz] at h
 rw [ynx]
 simp only [zgv a.fa (by first|omega|(simp only [Tc.sz];omega)),zo4 a.ft (by first|omega|(simp only [Tc.sz];omega)),zf5 a.fap (by first|omega|(simp only [Tc.sz];omega)),zo8 a.fu (by first|omega|(simp only [Tc.sz];omega)),Option.bind_some]
theorem yct (a:Tc) (h:a.sz<=1048576):yni a a=some true:=by
 simp only [Tc.sz] at h
 rw [yni]
 simp only [zh4 a.fa (by first|omega|(simp only [Tc.sz];omega)),zoa a.ft (by first|omega|(simp only [Tc.sz];omega)),zf8 a.fap (by first|omega|(simp only [Tc.sz];omega)),znu a.fu (by first|omega|(simp only [Tc.sz];omega)),Option.bind_some,ne_eq,not_true_eq_false,decide_false,cond_false,BEq.rfl,bne_self_eq_false,Bool.true_xor,Bool.not_true]
theorem ya5 (a:List Tc) (h:a.length<=9223372036854775807/\∀ b∈a,b.ok):SzOk (yr0 a) (szL Tc.sz a):=SzOk.of (fun l=>rfl) (SzOk.list h.1 (fun x hx=>yd3 x (h.2 x hx)) (fun k x s=>rfl) (fun s=>rfl))
theorem ya7 (a:List Tc) (h:szL Tc.sz a<=1048576):ymb a=some a:=by
 have hl:a.length<=1048576:=by have:=zbm (f:=Tc.sz) (xs:=a);omega
 rw [ymb,if_pos ⟨by omega,by rw [zae];omega⟩]
 unfold zpz
 rw [if_pos (by omega),zhn (xs:=a)]
 ·rw [zxr];rfl
 ·intro d x t s he hd
  rw [zz3]
  obtain ⟨z,hz⟩:∃ z,s[d.length]? =some z:=⟨s[d.length],List.getElem?_eq_getElem hd⟩
  simp only [yde x (by have:=zby (f:=Tc.sz) (he ▸ (by simp:x∈d++x::t));omega),Option.bind_some,zae,List.length_map,Nat.sub_zero]
  rw [if_pos ⟨by omega,by omega⟩]
  simp only [hz,Option.bind_some,List.set_set,List.length_set,hd,zcy]
 ·simp
theorem zz6 (a:List Tc) (h:szL Tc.sz a<=1048576):yob a a=some true:=by
 have hl:a.length<=1048576:=by have:=zbm (f:=Tc.sz) (xs:=a);omega
 rw [yob]
 unfold zqx
 rw [if_pos (by omega),zvh (xs:=a)]
 ·simp only [ne_eq,not_true_eq_false,decide_false,cond_false,zxl];rfl
 ·intro d x t he
  rw [zzp]
  simp only [zae,zcx he,Option.bind_some,yct x (by have:=zby (f:=Tc.sz) (he ▸ (by simp:x∈d++x::t));omega),ne_eq,not_true_eq_false,decide_false,cond_false,BEq.rfl,bne_self_eq_false,Bool.true_xor,Bool.not_true]
theorem zxk (a:Tp) (h:a.ok):SzOk (yry a) (a.sz):=SzOk.of (fun l=>rfl) (SzOk.one (ya5 a.fr (by exact ⟨h.2.1,h.2.2⟩)))
theorem zwl (a:Tp) (h:a.sz<=1048576):yos a=some a:=by
 simp only [Tp.sz] at h
 rw [yos]
 simp only [ya7 a.fr (by first|omega|(simp only [Tp.sz];omega)),Option.bind_some]
theorem yaj (a:Tp) (h:a.sz<=1048576):yo4 a a=some true:=by
 simp only [Tp.sz] at h
 rw [yo4]
 simp only [zz6 a.fr (by first|omega|(simp only [Tp.sz];omega)),Option.bind_some,ne_eq,not_true_eq_false,decide_false,cond_false,BEq.rfl,bne_self_eq_false,Bool.true_xor,Bool.not_true]
theorem ztb (a:Tg) (h:a.ok):SzOk (yne a) (a.sz):=SzOk.of (fun l=>rfl) (SzOk.one (zh6 a.fa (by exact h.2.2.2)))
theorem zts (a:Tg) (h:a.sz<=1048576):yk5 a=some a:=by
 simp only [Tg.sz] at h
 rw [yk5]
 simp only [zgv a.fa (by first|omega|(simp only [Tg.sz];omega)),Option.bind_some]
theorem zt8 (a:Tg) (h:a.sz<=1048576):yk1 a a=some true:=by
 simp only [Tg.sz] at h
 rw [yk1]
 simp only [zh4 a.fa (by first|omega|(simp only [Tg.sz];omega)),Option.bind_some,ne_eq,not_true_eq_false,decide_false,cond_false,BEq.rfl,bne_self_eq_false,Bool.true_xor,Bool.not_true]
theorem ya0 (a:List Tg) (h:a.length<=9223372036854775807/\∀ b∈a,b.ok):SzOk (yrq a) (szL Tg.sz a):=SzOk.of (fun l=>rfl) (SzOk.list h.1 (fun x hx=>ztb x (h.2 x hx)) (fun k x s=>rfl) (fun s=>rfl))
theorem zw6 (a:List Tg) (h:szL Tg.sz a<=1048576):ypt a=some a:=by
 have hl:a.length<=1048576:=by have:=zbm (f:=Tg.sz) (xs:=a);omega
 rw [ypt,if_pos ⟨by omega,by rw [zae];omega⟩]
 unfold zpg
 rw [if_pos (by omega),zhn (xs:=a)]
 ·rw [zzu];rfl
 ·intro d x t s he hd
  rw [zxu]
  obtain ⟨z,hz⟩:∃ z,s[d.length]? =some z:=⟨s[d.length],List.getElem?_eq_getElem hd⟩
  simp only [zts x (by have:=zby (f:=Tg.sz) (he ▸ (by simp:x∈d++x::t));omega),Option.bind_some,zae,List.length_map,Nat.sub_zero]
  rw [if_pos ⟨by omega,by omega⟩]
  simp only [hz,Option.bind_some,List.set_set,List.length_set,hd,zcy]
 ·simp
theorem yb4 (a:List Tg) (h:szL Tg.sz a<=1048576):yo3 a a=some true:=by
 have hl:a.length<=1048576:=by have:=zbm (f:=Tg.sz) (xs:=a);omega
 rw [yo3]
 unfold zpx
 rw [if_pos (by omega),zvh (xs:=a)]
 ·simp only [ne_eq,not_true_eq_false,decide_false,cond_false,zwt];rfl
 ·intro d x t he
  rw [ybl]
  simp only [zae,zcx he,Option.bind_some,zt8 x (by have:=zby (f:=Tg.sz) (he ▸ (by simp:x∈d++x::t));omega),ne_eq,not_true_eq_false,decide_false,cond_false,BEq.rfl,bne_self_eq_false,Bool.true_xor,Bool.not_true]
theorem ydo (a:Ta) (h:a.ok):SzOk (ytj a) (a.sz):=SzOk.of (fun l=>rfl) (SzOk.seq (ya0 a.faq (by exact ⟨h.1,h.2.1⟩)) (SzOk.one (ztb a.fg (by exact h.2.2.1))))
theorem ydy (a:Ta) (h:a.sz<=1048576):yn1 a=some a:=by
 simp only [Ta.sz] at h
 rw [yn1]
 simp only [zw6 a.faq (by first|omega|(simp only [Ta.sz];omega)),zts a.fg (by first|omega|(simp only [Ta.sz];omega)),Option.bind_some]
theorem yc4 (a:Ta) (h:a.sz<=1048576):yns a a=some true:=by
 simp only [Ta.sz] at h
 rw [yns]
 simp only [yb4 a.faq (by first|omega|(simp only [Ta.sz];omega)),zt8 a.fg (by first|omega|(simp only [Ta.sz];omega)),Option.bind_some,ne_eq,not_true_eq_false,decide_false,cond_false,BEq.rfl,bne_self_eq_false,Bool.true_xor,Bool.not_true]
theorem zxo (a:List Ta) (h:a.length<=9223372036854775807/\∀ b∈a,b.ok):SzOk (yqf a) (szL Ta.sz a):=SzOk.of (fun l=>rfl) (SzOk.list h.1 (fun x hx=>ydo x (h.2 x hx)) (fun k x s=>rfl) (fun s=>rfl))
theorem yb6 (a:List Ta) (h:szL Ta.sz a<=1048576):yox a=some a:=by
 have hl:a.length<=1048576:=by have:=zbm (f:=Ta.sz) (xs:=a);omega
 rw [yox,if_pos ⟨by omega,by rw [zae];omega⟩]
 unfold zs9
 rw [if_pos (by omega),zhn (xs:=a)]
 ·rw [zwo];rfl
 ·intro d x t s he hd
  rw [yau]
  obtain ⟨z,hz⟩:∃ z,s[d.length]? =some z:=⟨s[d.length],List.getElem?_eq_getElem hd⟩
  simp only [ydy x (by have:=zby (f:=Ta.sz) (he ▸ (by simp:x∈d++x::t));omega),Option.bind_some,zae,List.length_map,Nat.sub_zero]
  rw [if_pos ⟨by omega,by omega⟩]
  simp only [hz,Option.bind_some,List.set_set,List.length_set,hd,zcy]
 ·simp
theorem yb3 (a:List Ta) (h:szL Ta.sz a<=1048576):yme a a=some true:=by
 have hl:a.length<=1048576:=by have:=zbm (f:=Ta.sz) (xs:=a);omega
 rw [yme]
 unfold zq3
 rw [if_pos (by omega),zvh (xs:=a)]
 ·simp only [ne_eq,not_true_eq_false,decide_false,cond_false,zxy];rfl
 ·intro d x t he
  rw [zx5]
  simp only [zae,zcx he,Option.bind_some,yc4 x (by have:=zby (f:=Ta.sz) (he ▸ (by simp:x∈d++x::t));omega),ne_eq,not_true_eq_false,decide_false,cond_false,BEq.rfl,bne_self_eq_false,Bool.true_xor,Bool.not_true]
theorem zv8 (a:Tn) (h:a.ok):SzOk (ysk a) (a.sz):=SzOk.of (fun l=>rfl) (SzOk.seq (zuu a.fo (by exact h.2.1)) (SzOk.seq (zxk a.fq (by exact h.2.2.1)) (SzOk.one (zxo a.faa (by exact ⟨h.2.2.2.1,h.2.2.2.2.1⟩)))))
theorem zu9 (a:Tn) (h:a.sz<=1048576):yp6 a=some a:=by
 simp only [Tn.sz] at h
 rw [yp6]
 simp only [zup a.fo (by first|omega|(simp only [Tn.sz];omega)),zwl a.fq (by first|omega|(simp only [Tn.sz];omega)),yb6 a.faa (by first|omega|(simp only [Tn.sz];omega)),Option.bind_some]
theorem zv4 (a:Tn) (h:a.sz<=1048576):ypb a a=some true:=by
 simp only [Tn.sz] at h
 rw [ypb]
 simp only [zun a.fo (by first|omega|(simp only [Tn.sz];omega)),yaj a.fq (by first|omega|(simp only [Tn.sz];omega)),yb3 a.faa (by first|omega|(simp only [Tn.sz];omega)),Option.bind_some,ne_eq,not_true_eq_false,decide_false,cond_false,BEq.rfl,bne_self_eq_false,Bool.true_xor,Bool.not_true]
theorem zv0 (a:Tm) (h:a.ok):SzOk (yrr a) (a.sz):=SzOk.of (fun l=>rfl) (SzOk.seq (zf4 a.fam (by exact h.1)) (SzOk.seq (zf4 a.fan (by exact h.2.1)) (SzOk.seq (zhw a.fal (by exact h.2.2.1)) (SzOk.one (zhw a.fc (by exact h.2.2.2.2.1))))))
theorem zuc (a:Tm) (h:a.sz<=1048576):yo9 a=some a:=by
 simp only [Tm.sz] at h
 rw [yo9]
 simp only [zf5 a.fam (by first|omega|(simp only [Tm.sz];omega)),zf5 a.fan (by first|omega|(simp only [Tm.sz];omega)),zho a.fal (by first|omega|(simp only [Tm.sz];omega)),zho a.fc (by first|omega|(simp only [Tm.sz];omega)),Option.bind_some]
theorem zvd (a:Tm) (h:a.sz<=1048576):ym1 a a=some true:=by
 simp only [Tm.sz] at h
 rw [ym1]
 simp only [zf8 a.fam (by first|omega|(simp only [Tm.sz];omega)),zf8 a.fan (by first|omega|(simp only [Tm.sz];omega)),zgm a.fal (by first|omega|(simp only [Tm.sz];omega)),zgm a.fc (by first|omega|(simp only [Tm.sz];omega)),Option.bind_some,ne_eq,not_true_eq_false,decide_false,cond_false,BEq.rfl,bne_self_eq_false,Bool.true_xor,Bool.not_true]
theorem yce (a:Tj) (h:a.ok):SzOk (yrw a) (a.sz):=SzOk.of (fun l=>rfl) (SzOk.one (zv0 a.fD (by exact h.2.2)))
theorem ycy (a:Tj) (h:a.sz<=1048576):ynz a=some a:=by
 simp only [Tj.sz] at h
 rw [ynz]
 simp only [zuc a.fD (by first|omega|(simp only [Tj.sz];omega)),Option.bind_some]
theorem yd0 (a:Tj) (h:a.sz<=1048576):ymv a a=some true:=by
 simp only [Tj.sz] at h
 rw [ymv]
 simp only [zvd a.fD (by first|omega|(simp only [Tj.sz];omega)),Option.bind_some,ne_eq,not_true_eq_false,decide_false,cond_false,BEq.rfl,bne_self_eq_false,Bool.true_xor,Bool.not_true]
theorem zzw (a:List Tj) (h:a.length<=9223372036854775807/\∀ b∈a,b.ok):SzOk (yqe a) (szL Tj.sz a):=SzOk.of (fun l=>rfl) (SzOk.list h.1 (fun x hx=>yce x (h.2 x hx)) (fun k x s=>rfl) (fun s=>rfl))
theorem yab (a:List Tj) (h:szL Tj.sz a<=1048576):ylo a=some a:=by
 have hl:a.length<=1048576:=by have:=zbm (f:=Tj.sz) (xs:=a);omega
 rw [ylo,if_pos ⟨by omega,by rw [zae];omega⟩]
 unfold zrn
 rw [if_pos (by omega),zhn (xs:=a)]
 ·rw [zwa];rfl
 ·intro d x t s he hd
  rw [zw9]
  obtain ⟨z,hz⟩:∃ z,s[d.length]? =some z:=⟨s[d.length],List.getElem?_eq_getElem hd⟩
  simp only [ycy x (by have:=zby (f:=Tj.sz) (he ▸ (by simp:x∈d++x::t));omega),Option.bind_some,zae,List.length_map,Nat.sub_zero]
  rw [if_pos ⟨by omega,by omega⟩]
  simp only [hz,Option.bind_some,List.set_set,List.length_set,hd,zcy]
 ·simp
theorem zys (a:List Tj) (h:szL Tj.sz a<=1048576):yp9 a a=some true:=by
 have hl:a.length<=1048576:=by have:=zbm (f:=Tj.sz) (xs:=a);omega
 rw [yp9]
 unfold zq6
 rw [if_pos (by omega),zvh (xs:=a)]
 ·simp only [ne_eq,not_true_eq_false,decide_false,cond_false,zvr];rfl
 ·intro d x t he
  rw [zwu]
  simp only [zae,zcx he,Option.bind_some,yd0 x (by have:=zby (f:=Tj.sz) (he ▸ (by simp:x∈d++x::t));omega),ne_eq,not_true_eq_false,decide_false,cond_false,BEq.rfl,bne_self_eq_false,Bool.true_xor,Bool.not_true]
theorem zv6 (a:Td) (h:a.ok):SzOk (ysc a) (a.sz):=SzOk.of (fun l=>rfl) (SzOk.seq (zh6 a.fa (by exact h.2.2.2.1)) (SzOk.one (zhx a.fb (by exact h.2.2.2.2))))
theorem zuo (a:Td) (h:a.sz<=1048576):ylw a=some a:=by
 simp only [Td.sz] at h
 rw [ylw]
 simp only [zgv a.fa (by first|omega|(simp only [Td.sz];omega)),zht a.fb (by first|omega|(simp only [Td.sz];omega)),Option.bind_some]
theorem zus (a:Td) (h:a.sz<=1048576):ynk a a=some true:=by
 simp only [Td.sz] at h
 rw [ynk]
 simp only [zh4 a.fa (by first|omega|(simp only [Td.sz];omega)),zi1 a.fb (by first|omega|(simp only [Td.sz];omega)),Option.bind_some,ne_eq,not_true_eq_false,decide_false,cond_false,BEq.rfl,bne_self_eq_false,Bool.true_xor,Bool.not_true]
theorem zrf (a:List Td) (h:a.length<=9223372036854775807/\∀ b∈a,b.ok):SzOk (ytt a) (szL Td.sz a):=SzOk.of (fun l=>rfl) (SzOk.list h.1 (fun x hx=>zv6 x (h.2 x hx)) (fun k x s=>rfl) (fun s=>rfl))
theorem zra (a:List Td) (h:szL Td.sz a<=1048576):ymh a=some a:=by
 have hl:a.length<=1048576:=by have:=zbm (f:=Td.sz) (xs:=a);omega
 rw [ymh,if_pos ⟨by omega,by rw [zae];omega⟩]
 unfold zsk
 rw [if_pos (by omega),zhn (xs:=a)]
 ·rw [ybd];rfl
 ·intro d x t s he hd
  rw [zz1]
  obtain ⟨z,hz⟩:∃ z,s[d.length]? =some z:=⟨s[d.length],List.getElem?_eq_getElem hd⟩
  simp only [zuo x (by have:=zby (f:=Td.sz) (he ▸ (by simp:x∈d++x::t));omega),Option.bind_some,zae,List.length_map,Nat.sub_zero]
  rw [if_pos ⟨by omega,by omega⟩]
  simp only [hz,Option.bind_some,List.set_set,List.length_set,hd,zcy]
 ·simp
theorem zrc (a:List Td) (h:szL Td.sz a<=1048576):yq0 a a=some true:=by
 have hl:a.length<=1048576:=by have:=zbm (f:=Td.sz) (xs:=a);omega
 rw [yq0]
 unfold zsw
 rw [if_pos (by omega),zvh (xs:=a)]
 ·simp only [ne_eq,not_true_eq_false,decide_false,cond_false,zze];rfl
 ·intro d x t he
  rw [zw8]
  simp only [zae,zcx he,Option.bind_some,zus x (by have:=zby (f:=Td.sz) (he ▸ (by simp:x∈d++x::t));omega),ne_eq,not_true_eq_false,decide_false,cond_false,BEq.rfl,bne_self_eq_false,Bool.true_xor,Bool.not_true]
theorem zy8 (a:Tb) (h:a.ok):SzOk (ysy a) (a.sz):=SzOk.of (fun l=>rfl) (SzOk.seq (zh6 a.fa (by exact h.2.2.1)) (SzOk.seq (zoh a.ft (by exact ⟨h.2.2.2.1,h.2.2.2.2.1⟩)) (SzOk.seq (zou a.fu (by exact ⟨h.2.2.2.2.2.1,h.2.2.2.2.2.2.1⟩)) (SzOk.one (zhx a.fb (by exact h.2.2.2.2.2.2.2))))))
theorem zz0 (a:Tb) (h:a.sz<=1048576):ymf a=some a:=by
 simp only [Tb.sz] at h
 rw [ymf]
 simp only [zgv a.fa (by first|omega|(simp only [Tb.sz];omega)),zo4 a.ft (by first|omega|(simp only [Tb.sz];omega)),zo8 a.fu (by first|omega|(simp only [Tb.sz];omega)),zht a.fb (by first|omega|(simp only [Tb.sz];omega)),Option.bind_some]
theorem ybo (a:Tb) (h:a.sz<=1048576):yky a a=some true:=by
 simp only [Tb.sz] at h
 rw [yky]
 simp only [zh4 a.fa (by first|omega|(simp only [Tb.sz];omega)),zoa a.ft (by first|omega|(simp only [Tb.sz];omega)),znu a.fu (by first|omega|(simp only [Tb.sz];omega)),zi1 a.fb (by first|omega|(simp only [Tb.sz];omega)),Option.bind_some,ne_eq,not_true_eq_false,decide_false,cond_false,BEq.rfl,bne_self_eq_false,Bool.true_xor,Bool.not_true]
theorem zux (a:List Tb) (h:a.length<=9223372036854775807/\∀ b∈a,b.ok):SzOk (yrb a) (szL Tb.sz a):=SzOk.of (fun l=>rfl) (SzOk.list h.1 (fun x hx=>zy8 x (h.2 x hx)) (fun k x s=>rfl) (fun s=>rfl))
theorem zuz (a:List Tb) (h:szL Tb.sz a<=1048576):ym9 a=some a:=by
 have hl:a.length<=1048576:=by have:=zbm (f:=Tb.sz) (xs:=a);omega
 rw [ym9,if_pos ⟨by omega,by rw [zae];omega⟩]
 unfold zsh
 rw [if_pos (by omega),zhn (xs:=a)]
 ·rw [zvj];rfl
 ·intro d x t s he hd
  rw [zyt]
  obtain ⟨z,hz⟩:∃ z,s[d.length]? =some z:=⟨s[d.length],List.getElem?_eq_getElem hd⟩
  simp only [zz0 x (by have:=zby (f:=Tb.sz) (he ▸ (by simp:x∈d++x::t));omega),Option.bind_some,zae,List.length_map,Nat.sub_zero]
  rw [if_pos ⟨by omega,by omega⟩]
  simp only [hz,Option.bind_some,List.set_set,List.length_set,hd,zcy]
 ·simp
theorem zum (a:List Tb) (h:szL Tb.sz a<=1048576):ync a a=some true:=by
 have hl:a.length<=1048576:=by have:=zbm (f:=Tb.sz) (xs:=a);omega
 rw [ync]
 unfold zt3
 rw [if_pos (by omega),zvh (xs:=a)]
 ·simp only [ne_eq,not_true_eq_false,decide_false,cond_false,zxg];rfl
 ·intro d x t he
  rw [yax]
  simp only [zae,zcx he,Option.bind_some,ybo x (by have:=zby (f:=Tb.sz) (he ▸ (by simp:x∈d++x::t));omega),ne_eq,not_true_eq_false,decide_false,cond_false,BEq.rfl,bne_self_eq_false,Bool.true_xor,Bool.not_true]
theorem zug (a:Te) (h:a.ok):SzOk (ytg a) (a.sz):=SzOk.of (fun l=>rfl) (SzOk.seq (zh6 a.fa (by exact h.2.2.2.1)) (SzOk.one (zhx a.fb (by exact h.2.2.2.2))))
theorem zub (a:Te) (h:a.sz<=1048576):ym2 a=some a:=by
 simp only [Te.sz] at h
 rw [ym2]
 simp only [zgv a.fa (by first|omega|(simp only [Te.sz];omega)),zht a.fb (by first|omega|(simp only [Te.sz];omega)),Option.bind_some]
theorem zu7 (a:Te) (h:a.sz<=1048576):ym0 a a=some true:=by
 simp only [Te.sz] at h
 rw [ym0]
 simp only [zh4 a.fa (by first|omega|(simp only [Te.sz];omega)),zi1 a.fb (by first|omega|(simp only [Te.sz];omega)),Option.bind_some,ne_eq,not_true_eq_false,decide_false,cond_false,BEq.rfl,bne_self_eq_false,Bool.true_xor,Bool.not_true]
theorem zpc (a:List Te) (h:a.length<=9223372036854775807/\∀ b∈a,b.ok):SzOk (ytq a) (szL Te.sz a):=SzOk.of (fun l=>rfl) (SzOk.list h.1 (fun x hx=>zug x (h.2 x hx)) (fun k x s=>rfl) (fun s=>rfl))
theorem zs4 (a:List Te) (h:szL Te.sz a<=1048576):yoq a=some a:=by
 have hl:a.length<=1048576:=by have:=zbm (f:=Te.sz) (xs:=a);omega
 rw [yoq,if_pos ⟨by omega,by rw [zae];omega⟩]
 unfold zsg
 rw [if_pos (by omega),zhn (xs:=a)]
 ·rw [zyk];rfl
 ·intro d x t s he hd
  rw [zz7]
  obtain ⟨z,hz⟩:∃ z,s[d.length]? =some z:=⟨s[d.length],List.getElem?_eq_getElem hd⟩
  simp only [zub x (by have:=zby (f:=Te.sz) (he ▸ (by simp:x∈d++x::t));omega),Option.bind_some,zae,List.length_map,Nat.sub_zero]
  rw [if_pos ⟨by omega,by omega⟩]
  simp only [hz,Option.bind_some,List.set_set,List.length_set,hd,zcy]
 ·simp
theorem zsf (a:List Te) (h:szL Te.sz a<=1048576):ypp a a=some true:=by
 have hl:a.length<=1048576:=by have:=zbm (f:=Te.sz) (xs:=a);omega
 rw [ypp]
 unfold zsp
 rw [if_pos (by omega),zvh (xs:=a)]
 ·simp only [ne_eq,not_true_eq_false,decide_false,cond_false,ybi];rfl
 ·intro d x t he
  rw [zwv]
  simp only [zae,zcx he,Option.bind_some,zu7 x (by have:=zby (f:=Te.sz) (he ▸ (by simp:x∈d++x::t));omega),ne_eq,not_true_eq_false,decide_false,cond_false,BEq.rfl,bne_self_eq_false,Bool.true_xor,Bool.not_true]
theorem zxa (a:Tl) (h:a.ok):SzOk (yt7 a) (a.sz):=SzOk.of (fun l=>rfl) (SzOk.seq (zv8 a.fF (by exact h.1)) (SzOk.seq (zzw a.faj (by exact ⟨h.2.1,h.2.2.1⟩)) (SzOk.seq (zrf a.fai (by exact ⟨h.2.2.2.1,h.2.2.2.2.1⟩)) (SzOk.seq (zux a.fab (by exact ⟨h.2.2.2.2.2.1,h.2.2.2.2.2.2.1⟩)) (SzOk.one (zpc a.fak (by exact ⟨h.2.2.2.2.2.2.2.1,h.2.2.2.2.2.2.2.2⟩)))))))
theorem yar (a:Tl) (h:a.sz<=1048576):yh1 a=some a:=by
 simp only [Tl.sz] at h
 rw [yh1]
 simp only [zu9 a.fF (by first|omega|(simp only [Tl.sz];omega)),yab a.faj (by first|omega|(simp only [Tl.sz];omega)),zra a.fai (by first|omega|(simp only [Tl.sz];omega)),zuz a.fab (by first|omega|(simp only [Tl.sz];omega)),zs4 a.fak (by first|omega|(simp only [Tl.sz];omega)),Option.bind_some]
theorem zvy (a:Tl) (h:a.sz<=1048576):ymc a a=some true:=by
 simp only [Tl.sz] at h
 rw [ymc]
 simp only [zv4 a.fF (by first|omega|(simp only [Tl.sz];omega)),zys a.faj (by first|omega|(simp only [Tl.sz];omega)),zrc a.fai (by first|omega|(simp only [Tl.sz];omega)),zum a.fab (by first|omega|(simp only [Tl.sz];omega)),zsf a.fak (by first|omega|(simp only [Tl.sz];omega)),Option.bind_some,ne_eq,not_true_eq_false,decide_false,cond_false,BEq.rfl,bne_self_eq_false,Bool.true_xor,Bool.not_true]
end Go.Pm
namespace Go.Pm
open IntKind (i64)
def mk {α:Type} (f:Int->α) (k:Int) (n:Nat):List α:=(List.range n).map fun(i:Nat)=>f (k+(i:Int))
theorem zgq {α:Type} (f:Int->α) (k:Int) (n:Nat):(mk f k n).length=n:=by simp [mk]
theorem yi2 {α:Type} (f:Int->α) (k:Int) (n:Nat):mk f k (n+1)=mk f k n ++ [f (k+(n:Int))]:=by simp [mk,List.range_succ]
theorem zeo {n:Int} (h0:0<=n) (h1:n<=4611686018427387904):i64.wrap n=n:=zl3 (by omega) (by omega)
theorem yki {α:Type} (f:Int->α) (g:α->V) {body:List α×Int×Int->Option ((List α×Int×Int)⊕(List α×Int×Int))}
 (hb:∀ s,body s=bif decide (s.2.2<((s.1.length:Nat):Int)) then(if 0<=s.2.2/\(s.2.2:Int)<(((s.1.map g).length - 0:Nat):Int) then(((s.1)[s.2.2.toNat]?).bind fun _=>(some (.inl (s.1.set (s.2.2.toNat) (f s.2.1),(i64.wrap (s.2.1+1)),(i64.wrap (s.2.2+1)))))) else none) else(some (.inr (s.1,s.2.1,s.2.2))))
 (l:List α) {k:Int} (hl:l.length<=1048576) (hk:0<=k) (hk':k<=1099511627776):zd1 body BIG (l,k,0)=some (mk f k l.length,k+(l.length:Int),(l.length:Int)):=by
 have key:∀ (j i n:Nat),i+j=l.length->j<n->zd1 body n (mk f k i++l.drop i,k+(i:Int),(i:Int))=some (mk f k l.length,k+(l.length:Int),(l.length:Int)):=by
  intro j
  induction j with
  | zero=>
    intro i n hi hn
    obtain ⟨n,rfl⟩:∃ q,n=q+1:=⟨n - 1,by omega⟩
    have:i=l.length:=by omega
    subst this
    rw [zd1,hb]
    have hlen:(mk f k l.length++l.drop l.length).length=l.length:=by rw [List.length_append,zgq,List.length_drop];omega
    have hd:decide ((l.length:Int)<(((mk f k l.length++l.drop l.length).length:Nat):Int))=false:=by rw [hlen];simp
    simp only [hd,cond_false,Option.bind_some]
    simp
  | succ j ih=>
    intro i n hi hn
    obtain ⟨n,rfl⟩:∃ q,n=q+1:=⟨n - 1,by omega⟩
    have hil:i<l.length:=by omega
    rw [zd1,hb]
    have hlen:(mk f k i++l.drop i).length=l.length:=by rw [List.length_append,zgq,List.length_drop];omega
    have hd:decide ((i:Int)<(((mk f k i++l.drop i).length:Nat):Int))=true:=by rw [hlen];simp;omega
    simp only [hd,cond_true]
    rw [if_pos ⟨by omega,by rw [List.length_map,hlen];omega⟩]
    have hg:(mk f k i++l.drop i)[((i:Nat):Int).toNat]? =some l[i]:=by
     rw [Int.toNat_natCast,List.getElem?_append_right (by rw [zgq];omega),zgq,Nat.sub_self,List.getElem?_drop,Nat.add_zero,List.getElem?_eq_getElem hil]
    have hset:(mk f k i++l.drop i).set ((i:Nat):Int).toNat (f (k+(i:Int)))=mk f k (i+1)++l.drop (i+1):=by
     rw [Int.toNat_natCast,List.set_append_right _ _ (by rw [zgq];omega),zgq,Nat.sub_self,List.drop_eq_getElem_cons hil,List.set_cons_zero,yi2,List.append_assoc];rfl
    rw [hg,hset]
    simp only [Option.bind_some]
    rw [zeo (n:=k+(i:Int)+1) (by omega) (by omega),zeo (n:=(i:Int)+1) (by omega) (by omega)]
    have:=ih (i+1) n (by omega) (by omega)
    rw [show k+(i:Int)+1=k+((i+1:Nat):Int) by omega,show (i:Int)+1=((i+1:Nat):Int) by omega]
    exact this
 have:=key l.length 0 BIG (by omega) (by simp only [BIG];omega)
 simpa [mk] using this
theorem ys0 {α:Type} [DecidableEq α] (f:Int->α) {body:Int->α->Int->Option (Int⊕((Int×Int)⊕Int))} {last:Int->Option ((Int×Int)⊕Int)}
 (hb:∀ k x s,x=f s->body k x s=some (.inl (i64.wrap (s+1)))) (hlast:∀ s,last s=some (.inr s)) (n:Nat) {k:Int} (hk:0<=k) (hk':k<=1099511627776) (hn:n<=1048576):
 (if (mk f k n).length<=9223372036854775806 then zb3 body last (mk f k n) 0 k else none)=some (.inr (k+(n:Int))):=by
 rw [if_pos (by rw [zgq];omega)]
 have key:∀ (j i:Nat) (q:Int),i+j=n->zb3 body last ((mk f k n).drop i) q (k+(i:Int))=some (.inr (k+(n:Int))):=by
  intro j
  induction j with
  | zero=>
    intro i q hi
    have:i=n:=by omega
    subst this
    rw [List.drop_of_length_le (by rw [zgq];omega),zb3,hlast]
  | succ j ih=>
    intro i q hi
    have hil:i<(mk f k n).length:=by rw [zgq];omega
    rw [List.drop_eq_getElem_cons hil,zb3,hb _ _ _ (by simp [mk])]
    simp only [Option.bind_some]
    rw [zeo (n:=k+(i:Int)+1) (by omega) (by omega),show k+(i:Int)+1=k+((i+1:Nat):Int) by omega]
    exact ih (i+1) (q+1) (by omega)
 have:=key n 0 0 (by omega)
 simpa using this
def mB (k:Int):Bool:=decide ((k.tmod 3)=0)
theorem zb5 (l:List Int) {k:Int} (hl:l.length<=1048576) (hk:0<=k) (hk':k<=1099511627776):znw l k=some (k+(l.length:Int),mk id k l.length):=by
 unfold znw zp7
 rw [yki id (V.int .i64) (fun s=>by rw [ybq];rfl) l hl hk hk'];rfl
theorem zb0 (l:List Bool) {k:Int} (hl:l.length<=1048576) (hk:0<=k) (hk':k<=1099511627776):zor l k=some (k+(l.length:Int),mk mB k l.length):=by
 unfold zor zrj
 rw [yki mB V.bool (fun s=>by rw [zy0];rfl) l hl hk hk'];rfl
theorem zu5 (n:Nat) {k:Int} (hk:0<=k) (hk':k<=1099511627776) (hn:n<=1048576):yk7 (mk id k n) k=some (k+(n:Int)):=by
 unfold yk7 zq2
 have e:=ys0 (body:=zpy (mk id k n)) (last:=zvz (mk id k n)) id (fun q x s h=>by rw [zpy,h];simp) (fun _=>rfl) n hk hk' hn
 rw [e];rfl
theorem dlt {n:Int} (h:0<=n):decide (n<0)=false:=by simp;omega
def Rnd {α:Type} (l:List α) (i:Nat) (k B:Int) (X:Option ((List α×Int×Int)⊕(List α×Int×Int))):Prop:=∃ y k',X=some (.inl (l.set i y,k',(i:Int)+1))/\k<=k'/\k'<=k+B
theorem zdq {α:Type} (sz:α->Nat) {body:List α×Int×Int->Option ((List α×Int×Int)⊕(List α×Int×Int))}
 (hend:∀ (l:List α) (k:Int),body (l,k,(l.length:Int))=some (.inr (l,k,(l.length:Int))))
 (hb:∀ (l:List α) (k:Int) (i:Nat) (x:α),(l[i]? =some x)->l.length<=1048576->sz x<=1048576->0<=k->k+64 * (1+(sz x:Int))<=1000000000000->Rnd l i k (64 * (1+(sz x:Int))) (body (l,k,(i:Int))))
 (l:List α) {k:Int} (hl:szL sz l<=1048576) (hk:0<=k) (hk':k+64 * (szL sz l:Int)<=1000000000000):∃ l' k',zd1 body BIG (l,k,0)=some (l',k',(l.length:Int))/\l'.length=l.length/\k<=k'/\k'<=k+64 * (szL sz l:Int):=by
 have key:∀ (t:List α) (i n:Nat) (l':List α) (q:Int),l'.length=i+t.length->l'.drop i=t->szL sz t<=1048576->l'.length<=1048576->t.length<n->0<=q->q+64 * (szL sz t:Int)<=1000000000000->
  ∃ l2 k',zd1 body n (l',q,(i:Int))=some (l2,k',(l'.length:Int))/\l2.length=l'.length/\q<=k'/\k'<=q+64 * (szL sz t:Int):=by
  intro t
  induction t with
  | nil=>
    intro i n l' q h1 h2 h3 h4 h5 h6 h7
    obtain ⟨n,rfl⟩:∃ m,n=m+1:=⟨n - 1,by omega⟩
    have hi:i=l'.length:=by simp at h1;omega
    subst hi
    refine ⟨l',q,?_,rfl,by omega,by omega⟩
    rw [zd1,hend];rfl
  | cons x t ih=>
    intro i n l' q h1 h2 h3 h4 h5 h6 h7
    obtain ⟨n,rfl⟩:∃ m,n=m+1:=⟨n - 1,by omega⟩
    have hs:szL sz (x::t)=1+sz x+szL sz t:=by simp [szL];omega
    have hx:l'[i]? =some x:=by
     have:=congrArg (·[0]?) h2
     simpa using this
    have hil:i<l'.length:=by simp at h1;omega
    obtain ⟨y,k1,e1,e2,e3⟩:=hb l' q i x hx h4 (by omega) h6 (by omega)
    rw [zd1,e1]
    simp only [Option.bind_some]
    obtain ⟨l2,k2,f1,f2,f3,f4⟩:=ih (i+1) n (l'.set i y) k1 (by simp at h1 ⊢;omega) (by
     rw [List.drop_set_of_lt (by omega),<- List.tail_drop,h2];rfl) (by omega) (by rw [List.length_set];exact h4) (by simp at h5;omega) (by omega) (by omega)
    refine ⟨l2,k2,?_,by rw [f2,List.length_set],by omega,by omega⟩
    rw [show (i:Int)+1=((i+1:Nat):Int) by omega,f1,List.length_set]
 have hlen:l.length<=szL sz l:=zbm
 obtain ⟨l2,k2,f1,f2,f3,f4⟩:=key l 0 BIG l k (by simp) (by simp) hl (by omega) (by simp only [BIG];omega) hk (by omega)
 exact ⟨l2,k2,f1,f2,f3,f4⟩
def zeu {α:Type} (sz:α->Nat) (f:List α->Int->Option (Int×List α)):Prop:=∀ (l:List α) (k:Int),szL sz l<=1048576->0<=k->k+64 * (szL sz l:Int)<=1000000000000->∃ k' l',f l k=some (k',l')/\l'.length=l.length/\k<=k'/\k'<=k+64 * (szL sz l:Int)
theorem zoq {α β:Type} {sz:α->Nat} {f:List α->Int->Option (Int×List α)} (h:zeu sz f) {q:List α} {K:Int} {l:List β} {i:Nat} {k B:Int} {g:Int×List α->Option ((List β×Int×Int)⊕(List β×Int×Int))}
 (hl:szL sz q<=1048576) (hK:0<=K) (hK':K+64 * (szL sz q:Int)<=1000000000000) (H:∀ k1 l1,l1.length=q.length->K<=k1->k1<=K+64 * (szL sz q:Int)->Rnd l i k B (g (k1,l1))):Rnd l i k B ((f q K).bind g):=by
 obtain ⟨k1,l1,e1,e2,e3,e4⟩:=h q K hl hK hK'
 rw [e1]
 exact H k1 l1 e2 e3 e4
theorem ltI {n:Int}:decide (n<n)=false:=by simp
end Go.Pm
namespace Go.Pm
theorem yg5:zeu Ti.sz ylu:=by
 intro l k hl hk hk'
 obtain ⟨l',k',e1,e2,e3,e4⟩:=zdq Ti.sz (body:=zn7) (fun l k=>by rw [zn7];simp only [ltI,cond_false]) (fun l k i x hx hl hz hk hk'=>by
  have hi:i<l.length:=(List.getElem?_eq_some_iff.1 hx).1
  have hd:decide ((i:Int)<((l.length:Nat):Int))=true:=by simp;omega
  have hg:(0<=(i:Int)/\(i:Int)<((l.length:Nat):Int))=True:=by simp;omega
  rw [zn7]
  simp only [Ti.sz] at hz hk' ⊢
  simp (disch:=omega) only [hd,cond_true,List.length_map,List.length_set,Nat.sub_zero,hg,if_true,Int.toNat_natCast,hx,Option.bind_some,Option.map_some,List.getElem?_set_self,List.set_set,zeo,zb5,zb0]
  exact ⟨_,_,rfl,by omega,by omega⟩) l hl hk hk'
 exact ⟨k',l',by unfold ylu zse;rw [e1];rfl,e2,e3,e4⟩
theorem zzx:zeu Th.sz yk6:=by
 intro l k hl hk hk'
 obtain ⟨l',k',e1,e2,e3,e4⟩:=zdq Th.sz (body:=zkn) (fun l k=>by rw [zkn];simp only [ltI,cond_false]) (fun l k i x hx hl hz hk hk'=>by
  have hi:i<l.length:=(List.getElem?_eq_some_iff.1 hx).1
  have hd:decide ((i:Int)<((l.length:Nat):Int))=true:=by simp;omega
  have hg:(0<=(i:Int)/\(i:Int)<((l.length:Nat):Int))=True:=by simp;omega
  rw [zkn]
  simp only [Th.sz,Tk.sz] at hz hk' ⊢
  simp (disch:=omega) only [hd,cond_true,List.length_map,List.length_set,Nat.sub_zero,hg,if_true,Int.toNat_natCast,hx,Option.bind_some,Option.map_some,List.getElem?_set_self,List.set_set,zeo,zb5,zb0]
  exact ⟨_,_,rfl,by omega,by omega⟩) l hl hk hk'
 exact ⟨k',l',by unfold yk6 zq4;rw [e1];rfl,e2,e3,e4⟩
theorem zzh:zeu Tf.sz ykt:=by
 intro l k hl hk hk'
 obtain ⟨l',k',e1,e2,e3,e4⟩:=zdq Tf.sz (body:=zll) (fun l k=>by rw [zll];simp only [ltI,cond_false]) (fun l k i x hx hl hz hk hk'=>by
  have hi:i<l.length:=(List.getElem?_eq_some_iff.1 hx).1
  have hd:decide ((i:Int)<((l.length:Nat):Int))=true:=by simp;omega
  have hg:(0<=(i:Int)/\(i:Int)<((l.length:Nat):Int))=True:=by simp;omega
  rw [zll]
  simp only [Tf.sz] at hz hk' ⊢
  simp (disch:=omega) only [hd,cond_true,List.length_map,List.length_set,Nat.sub_zero,hg,if_true,Int.toNat_natCast,hx,Option.bind_some,Option.map_some,List.getElem?_set_self,List.set_set,zeo,zb5,zb0]
  exact ⟨_,_,rfl,by omega,by omega⟩) l hl hk hk'
 exact ⟨k',l',by unfold ykt zpf;rw [e1];rfl,e2,e3,e4⟩
theorem yga:zeu Tg.sz ylj:=by
 intro l k hl hk hk'
 obtain ⟨l',k',e1,e2,e3,e4⟩:=zdq Tg.sz (body:=zm0) (fun l k=>by rw [zm0];simp only [ltI,cond_false]) (fun l k i x hx hl hz hk hk'=>by
  have hi:i<l.length:=(List.getElem?_eq_some_iff.1 hx).1
  have hd:decide ((i:Int)<((l.length:Nat):Int))=true:=by simp;omega
  have hg:(0<=(i:Int)/\(i:Int)<((l.length:Nat):Int))=True:=by simp;omega
  rw [zm0]
  simp only [Tg.sz,Tk.sz] at hz hk' ⊢
  simp (disch:=omega) only [hd,cond_true,List.length_map,List.length_set,Nat.sub_zero,hg,if_true,Int.toNat_natCast,hx,Option.bind_some,Option.map_some,List.getElem?_set_self,List.set_set,zeo,zb5,zb0]
  exact ⟨_,_,rfl,by omega,by omega⟩) l hl hk hk'
 exact ⟨k',l',by unfold ylj zqa;rw [e1];rfl,e2,e3,e4⟩
theorem yfr:zeu Tc.sz yna:=by
 intro l k hl hk hk'
 obtain ⟨l',k',e1,e2,e3,e4⟩:=zdq Tc.sz (body:=zn1) (fun l k=>by rw [zn1];simp only [ltI,cond_false]) (fun l k i x hx hl hz hk hk'=>by
  have hi:i<l.length:=(List.getElem?_eq_some_iff.1 hx).1
  have hd:decide ((i:Int)<((l.length:Nat):Int))=true:=by simp;omega
  have hg:(0<=(i:Int)/\(i:Int)<((l.length:Nat):Int))=True:=by simp;omega
  rw [zn1]
  simp only [Tc.sz,Tk.sz] at hz hk' ⊢
  simp (disch:=omega) only [hd,cond_true,List.length_map,List.length_set,Nat.sub_zero,hg,if_true,Int.toNat_natCast,hx,Option.bind_some,Option.map_some,List.getElem?_set_self,List.set_set,zeo,zb5,zb0]
  refine zoq zzx (by omega) (by omega) (by omega) fun k0 l0 g01 g02 g03=> ?_
  simp (disch:=omega) only [hd,cond_true,List.length_map,List.length_set,Nat.sub_zero,hg,if_true,Int.toNat_natCast,hx,Option.bind_some,Option.map_some,List.getElem?_set_self,List.set_set,zeo,zb5,zb0]
  refine zoq zzh (by omega) (by omega) (by omega) fun k1 l1 g11 g12 g13=> ?_
  simp (disch:=omega) only [hd,cond_true,List.length_map,List.length_set,Nat.sub_zero,hg,if_true,Int.toNat_natCast,hx,Option.bind_some,Option.map_some,List.getElem?_set_self,List.set_set,zeo,zb5,zb0]
  exact ⟨_,_,rfl,by omega,by omega⟩) l hl hk hk'
 exact ⟨k',l',by unfold yna zr9;rw [e1];rfl,e2,e3,e4⟩
theorem yh4:zeu Ta.sz ymd:=by
 intro l k hl hk hk'
 obtain ⟨l',k',e1,e2,e3,e4⟩:=zdq Ta.sz (body:=zkz) (fun l k=>by rw [zkz];simp only [ltI,cond_false]) (fun l k i x hx hl hz hk hk'=>by
  have hi:i<l.length:=(List.getElem?_eq_some_iff.1 hx).1
  have hd:decide ((i:Int)<((l.length:Nat):Int))=true:=by simp;omega
  have hg:(0<=(i:Int)/\(i:Int)<((l.length:Nat):Int))=True:=by simp;omega
  rw [zkz]
  simp only [Ta.sz,Tg.sz,Tk.sz] at hz hk' ⊢
  simp (disch:=omega) only [hd,cond_true,List.length_map,List.length_set,Nat.sub_zero,hg,if_true,Int.toNat_natCast,hx,Option.bind_some,Option.map_some,List.getElem?_set_self,List.set_set,zeo,zb5,zb0]
  refine zoq yga (by omega) (by omega) (by omega) fun k0 l0 g01 g02 g03=> ?_
  simp (disch:=omega) only [hd,cond_true,List.length_map,List.length_set,Nat.sub_zero,hg,if_true,Int.toNat_natCast,hx,Option.bind_some,Option.map_some,List.getElem?_set_self,List.set_set,zeo,zb5,zb0]
  exact ⟨_,_,rfl,by omega,by omega⟩) l hl hk hk'
 exact ⟨k',l',by unfold ymd zpw;rw [e1];rfl,e2,e3,e4⟩
theorem yj3:zeu Tj.sz yoi:=by
 intro l k hl hk hk'
 obtain ⟨l',k',e1,e2,e3,e4⟩:=zdq Tj.sz (body:=zl0) (fun l k=>by rw [zl0];simp only [ltI,cond_false]) (fun l k i x hx hl hz hk hk'=>by
  have hi:i<l.length:=(List.getElem?_eq_some_iff.1 hx).1
  have hd:decide ((i:Int)<((l.length:Nat):Int))=true:=by simp;omega
  have hg:(0<=(i:Int)/\(i:Int)<((l.length:Nat):Int))=True:=by simp;omega
  rw [zl0]
  simp only [Tj.sz,Tm.sz] at hz hk' ⊢
  simp (disch:=omega) only [hd,cond_true,List.length_map,List.length_set,Nat.sub_zero,hg,if_true,Int.toNat_natCast,hx,Option.bind_some,Option.map_some,List.getElem?_set_self,List.set_set,zeo,zb5,zb0]
  exact ⟨_,_,rfl,by omega,by omega⟩) l hl hk hk'
 exact ⟨k',l',by unfold yoi zsj;rw [e1];rfl,e2,e3,e4⟩
theorem zyp:zeu Td.sz ynf:=by
 intro l k hl hk hk'
 obtain ⟨l',k',e1,e2,e3,e4⟩:=zdq Td.sz (body:=znm) (fun l k=>by rw [znm];simp only [ltI,cond_false]) (fun l k i x hx hl hz hk hk'=>by
  have hi:i<l.length:=(List.getElem?_eq_some_iff.1 hx).1
  have hd:decide ((i:Int)<((l.length:Nat):Int))=true:=by simp;omega
  have hg:(0<=(i:Int)/\(i:Int)<((l.length:Nat):Int))=True:=by simp;omega
  rw [znm]
  simp only [Td.sz,Tk.sz,Tf.sz] at hz hk' ⊢
  simp (disch:=omega) only [hd,cond_true,List.length_map,List.length_set,Nat.sub_zero,hg,if_true,Int.toNat_natCast,hx,Option.bind_some,Option.map_some,List.getElem?_set_self,List.set_set,zeo,zb5,zb0]
  exact ⟨_,_,rfl,by omega,by omega⟩) l hl hk hk'
 exact ⟨k',l',by unfold ynf zqf;rw [e1];rfl,e2,e3,e4⟩
theorem ycz:zeu Tb.sz ypr:=by
 intro l k hl hk hk'
 obtain ⟨l',k',e1,e2,e3,e4⟩:=zdq Tb.sz (body:=zkt) (fun l k=>by rw [zkt];simp only [ltI,cond_false]) (fun l k i x hx hl hz hk hk'=>by
  have hi:i<l.length:=(List.getElem?_eq_some_iff.1 hx).1
  have hd:decide ((i:Int)<((l.length:Nat):Int))=true:=by simp;omega
  have hg:(0<=(i:Int)/\(i:Int)<((l.length:Nat):Int))=True:=by simp;omega
  rw [zkt]
  simp only [Tb.sz,Tk.sz,Tf.sz] at hz hk' ⊢
  simp (disch:=omega) only [hd,cond_true,List.length_map,List.length_set,Nat.sub_zero,hg,if_true,Int.toNat_natCast,hx,Option.bind_some,Option.map_some,List.getElem?_set_self,List.set_set,zeo,zb5,zb0]
  refine zoq zzx (by omega) (by omega) (by omega) fun k0 l0 g01 g02 g03=> ?_
  simp (disch:=omega) only [hd,cond_true,List.length_map,List.length_set,Nat.sub_zero,hg,if_true,Int.toNat_natCast,hx,Option.bind_some,Option.map_some,List.getElem?_set_self,List.set_set,zeo,zb5,zb0]
  refine zoq zzh (by omega) (by omega) (by omega) fun k1 l1 g11 g12 g13=> ?_
  simp (disch:=omega) only [hd,cond_true,List.length_map,List.length_set,Nat.sub_zero,hg,if_true,Int.toNat_natCast,hx,Option.bind_some,Option.map_some,List.getElem?_set_self,List.set_set,zeo,zb5,zb0]
  exact ⟨_,_,rfl,by omega,by omega⟩) l hl hk hk'
 exact ⟨k',l',by unfold ypr zsu;rw [e1];rfl,e2,e3,e4⟩
theorem zyj:zeu Te.sz yo8:=by
 intro l k hl hk hk'
 obtain ⟨l',k',e1,e2,e3,e4⟩:=zdq Te.sz (body:=zn0) (fun l k=>by rw [zn0];simp only [ltI,cond_false]) (fun l k i x hx hl hz hk hk'=>by
  have hi:i<l.length:=(List.getElem?_eq_some_iff.1 hx).1
  have hd:decide ((i:Int)<((l.length:Nat):Int))=true:=by simp;omega
  have hg:(0<=(i:Int)/\(i:Int)<((l.length:Nat):Int))=True:=by simp;omega
  rw [zn0]
  simp only [Te.sz,Tk.sz,Tf.sz] at hz hk' ⊢
  simp (disch:=omega) only [hd,cond_true,List.length_map,List.length_set,Nat.sub_zero,hg,if_true,Int.toNat_natCast,hx,Option.bind_some,Option.map_some,List.getElem?_set_self,List.set_set,zeo,zb5,zb0]
  exact ⟨_,_,rfl,by omega,by omega⟩) l hl hk hk'
 exact ⟨k',l',by unfold yo8 zrm;rw [e1];rfl,e2,e3,e4⟩
end Go.Pm
namespace Go.Pm
theorem yda (a:Tn) (k:Int) (hz:a.sz<=1048576) (hk:0<=k) (hk':k+64 * (a.sz:Int)<=1000000000000):∃ k' f,yma a k=some (k',f)/\f.fo.fp.length=a.fo.fp.length/\f.fq.fr.length=a.fq.fr.length/\f.faa.length=a.faa.length/\k<=k'/\k'<=k+64 * (a.sz:Int):=by
 simp only [Tn.sz,To.sz,Tp.sz] at hz hk' ⊢
 have hr:szL Ti.sz a.fo.fp=a.fo.fp.length:=by
  have:(a.fo.fp.map Ti.sz).sum=0:=by
   induction a.fo.fp with
   | nil=>rfl
   | cons x t ih=>simp only [List.map_cons,List.sum_cons,ih,Ti.sz]
  unfold szL;omega
 obtain ⟨k1,l1,e1,f1,g1,h1⟩:=yg5 a.fo.fp k (by omega) hk (by omega)
 obtain ⟨k2,l2,e2,f2,g2,h2⟩:=yfr a.fq.fr k1 (by omega) (by omega) (by omega)
 obtain ⟨k3,l3,e3,f3,g3,h3⟩:=yh4 a.faa k2 (by omega) (by omega) (by omega)
 unfold yma yr2 ysu
 simp only [e1,e2,e3,Option.bind_some,List.length_map,f1,f2,f3,Nat.le_refl,if_true,List.length_drop,List.length_take,Nat.min_self,Nat.sub_zero]
 exact ⟨_,_,rfl,by simp [f1],by simp [f2],by simp [f3],by omega,by omega⟩
theorem yg1 (a:Tl) (k:Int) (hz:a.sz<=1048576) (hk:0<=k) (hk':k+64 * (a.sz:Int)<=1000000000000):∃ k' f,yq1 a k=some (k',f)/\k<=k':=by
 simp only [Tl.sz] at hz hk'
 obtain ⟨k1,l1,e1,f1,f2,f3,g1,h1⟩:=yda a.fF k (by omega) hk (by omega)
 obtain ⟨k2,l2,e2,f4,g2,h2⟩:=yj3 a.faj k1 (by omega) (by omega) (by omega)
 obtain ⟨k3,l3,e3,f5,g3,h3⟩:=zyp a.fai k2 (by omega) (by omega) (by omega)
 obtain ⟨k4,l4,e4,f6,g4,h4⟩:=ycz a.fab k3 (by omega) (by omega) (by omega)
 obtain ⟨k5,l5,e5,f7,g5,h5⟩:=zyj a.fak k4 (by omega) (by omega) (by omega)
 unfold yq1
 simp only [e1,e2,e3,e4,e5,Option.bind_some,List.length_map,f1,f2,f3,f4,f5,f6,f7,Nat.le_refl,if_true]
 exact ⟨_,_,rfl,by omega⟩
theorem zul (n a b:Int):yl1 n a b=some (decide (a<=n)&&decide (n<=b)):=by
 unfold yl1;by_cases h:a<=n <;> simp [h]
theorem zxh (w:Tl) (hl:w.fab.length<=1048576):∃ v,yjo w=some v/\yrs w=some v/\v.length=11:=by
 have key:∀ (t:List Tb) (q:Int) (s:List Int),s.length=11->∃ v,zb3 (zs8 w) (zw7 w) t q s=some v/\v.length=11:=by
  intro t
  induction t with
  | nil=>intro q s hs;exact ⟨s,rfl,hs⟩
  | cons x t ih=>
    intro q s hs
    rw [zb3,zs8,zul]
    simp only [Option.bind_some]
    by_cases h:1<=x.fb.fj/\x.fb.fj<=11
    ·have hd:(decide (1<=x.fb.fj)&&decide (x.fb.fj<=11))=true:=by simp [h]
     rw [hd,zl3 (n:=x.fb.fj - 1) (by omega) (by omega)]
     have hlt:(x.fb.fj - 1).toNat<s.length:=by omega
     simp only [cond_true,List.length_map,hs,List.getElem?_eq_getElem hlt,Option.bind_some]
     rw [if_pos (by omega),if_pos (by omega)]
     refine ih _ _ ?_
     rw [List.length_set];exact hs
    ·have hd:(decide (1<=x.fb.fj)&&decide (x.fb.fj<=11))=false:=by simp;omega
     rw [hd]
     rw [cond_false]
     exact ih _ _ hs
 obtain ⟨v,h1,h2⟩:=key w.fab 0 (List.replicate (11:Int).toNat (0:Int)) (by simp)
 have hx:yjo w=some v:=by
  unfold yjo zqu
  rw [if_pos (by omega),h1];rfl
 exact ⟨v,hx,by rw [<- hx];rfl,h2⟩
theorem zem (a:Tl) (h:a.ok):yro a=some true:=by
 rw [yro]
 obtain ⟨h1,h2⟩:=zxa a h 1048576 (by omega) (by omega)
 by_cases hs:a.sz<=1048576
 ·rw [h1 (by omega)]
  have hd:decide ((1048576:Int) - (a.sz:Int)<0)=false:=by simp;omega
  have hrl:a.fab.length<=1048576:=by
   have:a.fab.length<=szL Tb.sz a.fab:=zbm
   simp only [Tl.sz] at hs;omega
  obtain ⟨v,e1,e2,e3⟩:=zxh a hrl
  obtain ⟨k',f,e4,e5⟩:=yg1 a 1 hs (by omega) (by omega)
  have hm:=zb5 v (k:=1) (by omega) (by omega) (by omega)
  have hh:=zu5 v.length (k:=1) (by omega) (by omega) (by omega)
  simp only [Option.bind_some,hd,cond_false,yar a hs,e1,e2,zgm v (by omega),zvy a hs,e4,dlt (show (0:Int)<=k' by omega),hm,hh,Bool.not_true,ne_eq,not_true_eq_false,decide_false]
  rw [dlt (by omega)]
  simp
 ·obtain ⟨r,hr,h0⟩:=h2 (by omega)
  rw [hr]
  have hd:decide (r<0)=true:=by simp;exact h0
  simp only [Option.bind_some,hd,cond_true]
end Go.Pm
