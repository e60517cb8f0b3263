/- Proved: the law FnExactWorldNew answers true at all arguments, for every operating system that has started; no conditions beyond the row's own. -/
import Derived.Test.YtfoflieoeahhfaaGreatMn
set_option linter.unusedVariables false
set_option linter.unusedSimpArgs false
namespace Go.Pm
set_option maxRecDepth 100000
set_option maxHeartbeats 400000
def ymq (v1:List Tj) (v2:Int):Option (Int×List Tj):=(zt2 (v1,v2,0)).bind fun v87=>(some (v87.2.1,v87.1))
def yq7 (v1:List Tj) (v2:Int):Ctr:=⟨125,[.own 8 (v1.map Tj.o),.I v2],[[.gone]],Int×List Tj,ymq v1 v2,ytr⟩
theorem yx0 {v1:List Tj} {v2:Int}:(yq7 v1 v2).ok tab:=okL_of rfl rfl rfl (.lp (zyk (v1,v2,0)) fun(v87:List Tj×Int×Int)=>.segA Tj.o v87.1<|.lfA ytr (v87.2.1,v87.1):Tree (Int×List Tj) _) (by kernel_rfl) (lP yje fun v87=>sA<|rfl)
def zsy (s:List Th×Int×Int):St:=⟨sv 6 [(0,.own 6 (s.1.map Th.o)),(1,.I s.2.1),(4,.I s.2.2)],[]⟩
def zoj:(List Th×Int×Int)->Ex×St:=fun p=>((.exit 0),⟨sv 6 [(0,.own 6 (p.1.map Th.o)),(1,.I p.2.1),(4,.I p.2.2),(5,.bool false)],[]⟩)
def zyj:=zc0 (zsy) (zoj)
def zmr (s:List Th×Int×Int):Option ((List Th×Int×Int)⊕((List Th×Int×Int))):=bif decide (s.2.2<(s.1.length:Int)) then(if 0<=s.2.2/\(s.2.2:Int)<(((s.1.map Th.o).length - 0:Nat):Int) then(((s.1)[s.2.2.toNat]?).bind fun v49=>(let v51:=s.1.set (s.2.2.toNat) ({ v49 with fi:=s.2.1 }:Th);(if 0<=s.2.2/\(s.2.2:Int)<(((v51.map Th.o).length - 0:Nat):Int) then(((v51)[s.2.2.toNat]?).bind fun v52=>(let v54:=v51.set (s.2.2.toNat) ({ v52 with faj:=(w1 s.2.1) }:Th);(if 0<=s.2.2/\(s.2.2:Int)<(((v54.map Th.o).length - 0:Nat):Int) then(((v54)[s.2.2.toNat]?).bind fun v55=>(let v57:=v54.set (s.2.2.toNat) ({ v55 with fh:=(w1 (w1 s.2.1)) }:Th);(if 0<=s.2.2/\(s.2.2:Int)<(((v57.map Th.o).length - 0:Nat):Int) then(((v57)[s.2.2.toNat]?).bind fun v58=>(let v60:=v57.set (s.2.2.toNat) ({ v58 with fN:=(w1 (w1 (w1 s.2.1))) }:Th);(if 0<=s.2.2/\(s.2.2:Int)<(((v60.map Th.o).length - 0:Nat):Int) then(((v60)[s.2.2.toNat]?).bind fun v61=>((zqk v61.fc (w1 (w1 (w1 (w1 s.2.1))))).bind fun v63=>((((v60)[s.2.2.toNat]?).map fun _=>()).bind fun _=>((((v60)[s.2.2.toNat]?).map fun _=>()).bind fun _=>(let v64:=v60.set (s.2.2.toNat) ({ v61 with fc:=v63.2 }:Th);(if 0<=s.2.2/\(s.2.2:Int)<(((v64.map Th.o).length - 0:Nat):Int) then(((v64)[s.2.2.toNat]?).bind fun v65=>((zpb v65.ff v63.1).bind fun v67=>((((v64)[s.2.2.toNat]?).map fun _=>()).bind fun _=>((((v64)[s.2.2.toNat]?).map fun _=>()).bind fun _=>(let v68:=v64.set (s.2.2.toNat) ({ v65 with ff:=v67.2 }:Th);(some (.inl (v68,v67.1,(w1 s.2.2))))))))) else none)))))) else none))) else none))) else none))) else none))) else none) else(some (.inr (s.1,s.2.1,s.2.2)))
def zr5 (s:List Th×Int×Int):Option ((List Th×Int×Int)):=zbm (zmr) BIG s
def zz8 (s:List Th×Int×Int):Lct:=⟨6,ygg,0,[2,3,5],some (zsy s),List Th×Int×Int,zr5 s,zoj⟩
theorem yj3 {s:List Th×Int×Int}:(zz8 s).ok tab:=zcf (loop_oky (J:=zsy) (o:=(zoj)) (B:=fun(s:List Th×Int×Int)=>(.lenB Th.o s.1<|.br (decide (s.2.2<(s.1.length:Int))) (.gl Th.o s.1 s.2.2 fun v49=>.setN Th.o s.1 (s.2.2.toNat) ({ v49 with fi:=s.2.1 }:Th) fun v51=>.gl Th.o v51 s.2.2 fun v52=>.setN Th.o v51 (s.2.2.toNat) ({ v52 with faj:=(w1 s.2.1) }:Th) fun v54=>.gl Th.o v54 s.2.2 fun v55=>.setN Th.o v54 (s.2.2.toNat) ({ v55 with fh:=(w1 (w1 s.2.1)) }:Th) fun v57=>.gl Th.o v57 s.2.2 fun v58=>.setN Th.o v57 (s.2.2.toNat) ({ v58 with fN:=(w1 (w1 (w1 s.2.1))) }:Th) fun v60=>.guard (0<=s.2.2/\(s.2.2:Int)<(((v60.map Th.o).length - 0:Nat):Int)) inferInstance<|.lookB Th.o v60 (s.2.2.toNat) fun v61=>.lkY Th.o v60 (s.2.2.toNat) v61<|.ob ((v61.fc.map (V.int .i64)).length=List.length ((v61.fc.map (V.int .i64))))<|.lkY Th.o v60 (s.2.2.toNat) v61<|.lkY Th.o v60 (s.2.2.toNat) v61<|.sk<|.call (zwe v61.fc (w1 (w1 (w1 (w1 s.2.1))))) fun(v63:Int×List Int)=>.hs Th.o v60 (s.2.2.toNat) (.agg [.int .i64 v61.fi,.int .i64 v61.faj,.int .i64 v61.fh,.int .i64 v61.fN,.gone,.own 1 (v61.ff.map V.bool)]) ({ v61 with fc:=v63.2 }:Th) fun v64=>.guard (0<=s.2.2/\(s.2.2:Int)<(((v64.map Th.o).length - 0:Nat):Int)) inferInstance<|.lookB Th.o v64 (s.2.2.toNat) fun v65=>.lkY Th.o v64 (s.2.2.toNat) v65<|.ob ((v65.ff.map V.bool).length=List.length ((v65.ff.map V.bool)))<|.lkY Th.o v64 (s.2.2.toNat) v65<|.lkY Th.o v64 (s.2.2.toNat) v65<|.sk<|.call (zql v65.ff v63.1) fun(v67:Int×List Bool)=>.hs Th.o v64 (s.2.2.toNat) (.agg [.int .i64 v65.fi,.int .i64 v65.faj,.int .i64 v65.fh,.int .i64 v65.fN,.own 1 (v65.fc.map (V.int .i64)),.gone]) ({ v65 with ff:=v67.2 }:Th) fun v68=>.lfA (zyj) (.inl (v68,v67.1,(w1 s.2.2))))<|.lfA (zyj) (.inr (s.1,s.2.1,s.2.2)))) (by kernel_rfl) (fun s=>lB<|bR (gL fun v49=>sN fun v51=>gL fun v52=>sN fun v54=>gL fun v55=>sN fun v57=>gL fun v58=>sN fun v60=>gU<|lK fun v61 h62=>lD h62<|⟨rfl,lD h62<|lD h62<|cE zwv fun v63=>hS fun v64=>gU<|lK fun v65 h66=>lD h66<|⟨rfl,lD h66<|lD h66<|cE zw5 fun v67=>hS fun v68=>rfl⟩⟩)<|rfl) (fun _=>rfl) BIG s)
def yvf:(Int×List Th)->V×List (List V):=fun r=>(.tup [.int .i64 r.1,.tup [.own 6 (r.2.map Th.o)]],[])
def ylz (v1:List Th) (v2:Int):Option (Int×List Th):=(zr5 (v1,v2,0)).bind fun v69=>(some (v69.2.1,v69.1))
def ypw (v1:List Th) (v2:Int):Ctr:=⟨126,[.own 6 (v1.map Th.o),.I v2],[[.gone]],Int×List Th,ylz v1 v2,yvf⟩
theorem yvh {v1:List Th} {v2:Int}:(ypw v1 v2).ok tab:=okL_of rfl rfl rfl (.lp (zz8 (v1,v2,0)) fun(v69:List Th×Int×Int)=>.segA Th.o v69.1<|.lfA yvf (v69.2.1,v69.1):Tree (Int×List Th) _) (by kernel_rfl) (lP yj3 fun v69=>sA<|rfl)
def zr3 (s:List Td×Int×Int):St:=⟨sv 6 [(0,.own 13 (s.1.map Td.o)),(1,.I s.2.1),(4,.I s.2.2)],[]⟩
def zo2:(List Td×Int×Int)->Ex×St:=fun p=>((.exit 0),⟨sv 6 [(0,.own 13 (p.1.map Td.o)),(1,.I p.2.1),(4,.I p.2.2),(5,.bool false)],[]⟩)
def yaj:=zc0 (zr3) (zo2)
def zn6 (s:List Td×Int×Int):Option ((List Td×Int×Int)⊕((List Td×Int×Int))):=bif decide (s.2.2<(s.1.length:Int)) then(if 0<=s.2.2/\(s.2.2:Int)<(((s.1.map Td.o).length - 0:Nat):Int) then(((s.1)[s.2.2.toNat]?).bind fun v97=>(let v99:=s.1.set (s.2.2.toNat) ({ v97 with fan:=s.2.1 }:Td);(if 0<=s.2.2/\(s.2.2:Int)<(((v99.map Td.o).length - 0:Nat):Int) then(((v99)[s.2.2.toNat]?).bind fun v100=>(let v102:=v99.set (s.2.2.toNat) ({ v100 with faq:=(w1 s.2.1) }:Td);(if 0<=s.2.2/\(s.2.2:Int)<(((v102.map Td.o).length - 0:Nat):Int) then(((v102)[s.2.2.toNat]?).bind fun v103=>(let v105:=v102.set (s.2.2.toNat) ({ v103 with far:=(w1 (w1 s.2.1)) }:Td);(if 0<=s.2.2/\(s.2.2:Int)<(((v105.map Td.o).length - 0:Nat):Int) then(((v105)[s.2.2.toNat]?).bind fun v106=>(let v108:=v105.set (s.2.2.toNat) ({ v106 with fe:=(w1 (w1 (w1 s.2.1))) }:Td);(if 0<=s.2.2/\(s.2.2:Int)<(((v108.map Td.o).length - 0:Nat):Int) then(((v108)[s.2.2.toNat]?).bind fun v109=>(let v111:=v108.set (s.2.2.toNat) ({ v109 with fa:=({ v109.fa with fi:=(w1 (w1 (w1 (w1 s.2.1)))) }:Tl) }:Td);(if 0<=s.2.2/\(s.2.2:Int)<(((v111.map Td.o).length - 0:Nat):Int) then(((v111)[s.2.2.toNat]?).bind fun v112=>(let v114:=v111.set (s.2.2.toNat) ({ v112 with fa:=({ v112.fa with fh:=(w1 (w1 (w1 (w1 (w1 s.2.1))))) }:Tl) }:Td);(if 0<=s.2.2/\(s.2.2:Int)<(((v114.map Td.o).length - 0:Nat):Int) then(((v114)[s.2.2.toNat]?).bind fun v115=>(let v117:=v114.set (s.2.2.toNat) ({ v115 with fa:=({ v115.fa with fN:=(w1 (w1 (w1 (w1 (w1 (w1 s.2.1)))))) }:Tl) }:Td);(if 0<=s.2.2/\(s.2.2:Int)<(((v117.map Td.o).length - 0:Nat):Int) then(((v117)[s.2.2.toNat]?).bind fun v118=>((zqk v118.fa.fc (w1 (w1 (w1 (w1 (w1 (w1 (w1 s.2.1)))))))).bind fun v120=>((((v117)[s.2.2.toNat]?).map fun _=>()).bind fun _=>((((v117)[s.2.2.toNat]?).map fun _=>()).bind fun _=>(let v121:=v117.set (s.2.2.toNat) ({ v118 with fa:=({ v118.fa with fc:=v120.2 }:Tl) }:Td);(if 0<=s.2.2/\(s.2.2:Int)<(((v121.map Td.o).length - 0:Nat):Int) then(((v121)[s.2.2.toNat]?).bind fun v122=>((zpb v122.fa.ff v120.1).bind fun v124=>((((v121)[s.2.2.toNat]?).map fun _=>()).bind fun _=>((((v121)[s.2.2.toNat]?).map fun _=>()).bind fun _=>(let v125:=v121.set (s.2.2.toNat) ({ v122 with fa:=({ v122.fa with ff:=v124.2 }:Tl) }:Td);(if 0<=s.2.2/\(s.2.2:Int)<(((v125.map Td.o).length - 0:Nat):Int) then(((v125)[s.2.2.toNat]?).bind fun v126=>(let v128:=v125.set (s.2.2.toNat) ({ v126 with fa:=({ v126.fa with fw:=v124.1 }:Tl) }:Td);(if 0<=s.2.2/\(s.2.2:Int)<(((v128.map Td.o).length - 0:Nat):Int) then(((v128)[s.2.2.toNat]?).bind fun v129=>((ymq v129.fak (w1 v124.1)).bind fun v131=>((((v128)[s.2.2.toNat]?).map fun _=>()).bind fun _=>((((v128)[s.2.2.toNat]?).map fun _=>()).bind fun _=>(let v132:=v128.set (s.2.2.toNat) ({ v129 with fak:=v131.2 }:Td);(if 0<=s.2.2/\(s.2.2:Int)<(((v132.map Td.o).length - 0:Nat):Int) then(((v132)[s.2.2.toNat]?).bind fun v133=>((zpb v133.fav v131.1).bind fun v135=>((((v132)[s.2.2.toNat]?).map fun _=>()).bind fun _=>((((v132)[s.2.2.toNat]?).map fun _=>()).bind fun _=>(let v136:=v132.set (s.2.2.toNat) ({ v133 with fav:=v135.2 }:Td);(if 0<=s.2.2/\(s.2.2:Int)<(((v136.map Td.o).length - 0:Nat):Int) then(((v136)[s.2.2.toNat]?).bind fun v137=>((ylz v137.fal v135.1).bind fun v139=>((((v136)[s.2.2.toNat]?).map fun _=>()).bind fun _=>((((v136)[s.2.2.toNat]?).map fun _=>()).bind fun _=>(let v140:=v136.set (s.2.2.toNat) ({ v137 with fal:=v139.2 }:Td);(some (.inl (v140,v139.1,(w1 s.2.2))))))))) else none)))))) else none)))))) else none))) else none)))))) else none)))))) else none))) else none))) else none))) else none))) else none))) else none))) else none))) else none) else(some (.inr (s.1,s.2.1,s.2.2)))
def zt6 (s:List Td×Int×Int):Option ((List Td×Int×Int)):=zbm (zn6) BIG s
def zz9 (s:List Td×Int×Int):Lct:=⟨6,ygb,0,[2,3,5],some (zr3 s),List Td×Int×Int,zt6 s,zo2⟩
theorem yim {s:List Td×Int×Int}:(zz9 s).ok tab:=zcf (loop_oky (J:=zr3) (o:=(zo2)) (B:=fun(s:List Td×Int×Int)=>(.lenB Td.o s.1<|.br (decide (s.2.2<(s.1.length:Int))) (.gl Td.o s.1 s.2.2 fun v97=>.setN Td.o s.1 (s.2.2.toNat) ({ v97 with fan:=s.2.1 }:Td) fun v99=>.gl Td.o v99 s.2.2 fun v100=>.setN Td.o v99 (s.2.2.toNat) ({ v100 with faq:=(w1 s.2.1) }:Td) fun v102=>.gl Td.o v102 s.2.2 fun v103=>.setN Td.o v102 (s.2.2.toNat) ({ v103 with far:=(w1 (w1 s.2.1)) }:Td) fun v105=>.gl Td.o v105 s.2.2 fun v106=>.setN Td.o v105 (s.2.2.toNat) ({ v106 with fe:=(w1 (w1 (w1 s.2.1))) }:Td) fun v108=>.gl Td.o v108 s.2.2 fun v109=>.setN Td.o v108 (s.2.2.toNat) ({ v109 with fa:=({ v109.fa with fi:=(w1 (w1 (w1 (w1 s.2.1)))) }:Tl) }:Td) fun v111=>.gl Td.o v111 s.2.2 fun v112=>.setN Td.o v111 (s.2.2.toNat) ({ v112 with fa:=({ v112.fa with fh:=(w1 (w1 (w1 (w1 (w1 s.2.1))))) }:Tl) }:Td) fun v114=>.gl Td.o v114 s.2.2 fun v115=>.setN Td.o v114 (s.2.2.toNat) ({ v115 with fa:=({ v115.fa with fN:=(w1 (w1 (w1 (w1 (w1 (w1 s.2.1)))))) }:Tl) }:Td) fun v117=>.guard (0<=s.2.2/\(s.2.2:Int)<(((v117.map Td.o).length - 0:Nat):Int)) inferInstance<|.lookB Td.o v117 (s.2.2.toNat) fun v118=>.lkY Td.o v117 (s.2.2.toNat) v118<|.ob ((v118.fa.fc.map (V.int .i64)).length=List.length ((v118.fa.fc.map (V.int .i64))))<|.lkY Td.o v117 (s.2.2.toNat) v118<|.lkY Td.o v117 (s.2.2.toNat) v118<|.sk<|.call (zwe v118.fa.fc (w1 (w1 (w1 (w1 (w1 (w1 (w1 s.2.1)))))))) fun(v120:Int×List Int)=>.hs Td.o v117 (s.2.2.toNat) (.agg [.int .i64 v118.fan,.int .i64 v118.faq,.int .i64 v118.far,.int .i64 v118.fe,.int .i64 v118.fa.fi,.int .i64 v118.fa.fh,.int .i64 v118.fa.fN,.gone,.own 1 (v118.fa.ff.map V.bool),.int .i64 v118.fa.fw,.own 8 (v118.fak.map Tj.o),.own 1 (v118.fav.map V.bool),.own 6 (v118.fal.map Th.o)]) ({ v118 with fa:=({ v118.fa with fc:=v120.2 }:Tl) }:Td) fun v121=>.guard (0<=s.2.2/\(s.2.2:Int)<(((v121.map Td.o).length - 0:Nat):Int)) inferInstance<|.lookB Td.o v121 (s.2.2.toNat) fun v122=>.lkY Td.o v121 (s.2.2.toNat) v122<|.ob ((v122.fa.ff.map V.bool).length=List.length ((v122.fa.ff.map V.bool)))<|.lkY Td.o v121 (s.2.2.toNat) v122<|.lkY Td.o v121 (s.2.2.toNat) v122<|.sk<|.call (zql v122.fa.ff v120.1) fun(v124:Int×List Bool)=>.hs Td.o v121 (s.2.2.toNat) (.agg [.int .i64 v122.fan,.int .i64 v122.faq,.int .i64 v122.far,.int .i64 v122.fe,.int .i64 v122.fa.fi,.int .i64 v122.fa.fh,.int .i64 v122.fa.fN,.own 1 (v122.fa.fc.map (V.int .i64)),.gone,.int .i64 v122.fa.fw,.own 8 (v122.fak.map Tj.o),.own 1 (v122.fav.map V.bool),.own 6 (v122.fal.map Th.o)]) ({ v122 with fa:=({ v122.fa with ff:=v124.2 }:Tl) }:Td) fun v125=>.gl Td.o v125 s.2.2 fun v126=>.setN Td.o v125 (s.2.2.toNat) ({ v126 with fa:=({ v126.fa with fw:=v124.1 }:Tl) }:Td) fun v128=>.guard (0<=s.2.2/\(s.2.2:Int)<(((v128.map Td.o).length - 0:Nat):Int)) inferInstance<|.lookB Td.o v128 (s.2.2.toNat) fun v129=>.lkY Td.o v128 (s.2.2.toNat) v129<|.ob ((v129.fak.map Tj.o).length=List.length ((v129.fak.map Tj.o)))<|.lkY Td.o v128 (s.2.2.toNat) v129<|.lkY Td.o v128 (s.2.2.toNat) v129<|.sk<|.call (yq7 v129.fak (w1 v124.1)) fun(v131:Int×List Tj)=>.hs Td.o v128 (s.2.2.toNat) (.agg [.int .i64 v129.fan,.int .i64 v129.faq,.int .i64 v129.far,.int .i64 v129.fe,.int .i64 v129.fa.fi,.int .i64 v129.fa.fh,.int .i64 v129.fa.fN,.own 1 (v129.fa.fc.map (V.int .i64)),.own 1 (v129.fa.ff.map V.bool),.int .i64 v129.fa.fw,.gone,.own 1 (v129.fav.map V.bool),.own 6 (v129.fal.map Th.o)]) ({ v129 with fak:=v131.2 }:Td) fun v132=>.guard (0<=s.2.2/\(s.2.2:Int)<(((v132.map Td.o).length - 0:Nat):Int)) inferInstance<|.lookB Td.o v132 (s.2.2.toNat) fun v133=>.lkY Td.o v132 (s.2.2.toNat) v133<|.ob ((v133.fav.map V.bool).length=List.length ((v133.fav.map V.bool)))<|.lkY Td.o v132 (s.2.2.toNat) v133<|.lkY Td.o v132 (s.2.2.toNat) v133<|.sk<|.call (zql v133.fav v131.1) fun(v135:Int×List Bool)=>.hs Td.o v132 (s.2.2.toNat) (.agg [.int .i64 v133.fan,.int .i64 v133.faq,.int .i64 v133.far,.int .i64 v133.fe,.int .i64 v133.fa.fi,.int .i64 v133.fa.fh,.int .i64 v133.fa.fN,.own 1 (v133.fa.fc.map (V.int .i64)),.own 1 (v133.fa.ff.map V.bool),.int .i64 v133.fa.fw,.own 8 (v133.fak.map Tj.o),.gone,.own 6 (v133.fal.map Th.o)]) ({ v133 with fav:=v135.2 }:Td) fun v136=>.guard (0<=s.2.2/\(s.2.2:Int)<(((v136.map Td.o).length - 0:Nat):Int)) inferInstance<|.lookB Td.o v136 (s.2.2.toNat) fun v137=>.lkY Td.o v136 (s.2.2.toNat) v137<|.ob ((v137.fal.map Th.o).length=List.length ((v137.fal.map Th.o)))<|.lkY Td.o v136 (s.2.2.toNat) v137<|.lkY Td.o v136 (s.2.2.toNat) v137<|.sk<|.call (ypw v137.fal v135.1) fun(v139:Int×List Th)=>.hs Td.o v136 (s.2.2.toNat) (.agg [.int .i64 v137.fan,.int .i64 v137.faq,.int .i64 v137.far,.int .i64 v137.fe,.int .i64 v137.fa.fi,.int .i64 v137.fa.fh,.int .i64 v137.fa.fN,.own 1 (v137.fa.fc.map (V.int .i64)),.own 1 (v137.fa.ff.map V.bool),.int .i64 v137.fa.fw,.own 8 (v137.fak.map Tj.o),.own 1 (v137.fav.map V.bool),.gone]) ({ v137 with fal:=v139.2 }:Td) fun v140=>.lfA (yaj) (.inl (v140,v139.1,(w1 s.2.2))))<|.lfA (yaj) (.inr (s.1,s.2.1,s.2.2)))) (by kernel_rfl) (fun s=>lB<|bR (gL fun v97=>sN fun v99=>gL fun v100=>sN fun v102=>gL fun v103=>sN fun v105=>gL fun v106=>sN fun v108=>gL fun v109=>sN fun v111=>gL fun v112=>sN fun v114=>gL fun v115=>sN fun v117=>gU<|lK fun v118 h119=>lD h119<|⟨rfl,lD h119<|lD h119<|cE zwv fun v120=>hS fun v121=>gU<|lK fun v122 h123=>lD h123<|⟨rfl,lD h123<|lD h123<|cE zw5 fun v124=>hS fun v125=>gL fun v126=>sN fun v128=>gU<|lK fun v129 h130=>lD h130<|⟨rfl,lD h130<|lD h130<|cE yx0 fun v131=>hS fun v132=>gU<|lK fun v133 h134=>lD h134<|⟨rfl,lD h134<|lD h134<|cE zw5 fun v135=>hS fun v136=>gU<|lK fun v137 h138=>lD h138<|⟨rfl,lD h138<|lD h138<|cE yvh fun v139=>hS fun v140=>rfl⟩⟩⟩⟩⟩)<|rfl) (fun _=>rfl) BIG s)
def yrf:(Int×List Td)->V×List (List V):=fun r=>(.tup [.int .i64 r.1,.tup [.own 13 (r.2.map Td.o)]],[])
def yot (v1:List Td) (v2:Int):Option (Int×List Td):=(zt6 (v1,v2,0)).bind fun v141=>(some (v141.2.1,v141.1))
def ytl (v1:List Td) (v2:Int):Ctr:=⟨192,[.own 13 (v1.map Td.o),.I v2],[[.gone]],Int×List Td,yot v1 v2,yrf⟩
theorem qad {v1:List Td} {v2:Int}:(ytl v1 v2).ok tab:=okL_of rfl rfl rfl (.lp (zz9 (v1,v2,0)) fun(v141:List Td×Int×Int)=>.segA Td.o v141.1<|.lfA yrf (v141.2.1,v141.1):Tree (Int×List Td) _) (by kernel_rfl) (lP yim fun v141=>sA<|rfl)
def yu5:(Int×Tp)->V×List (List V):=fun r=>(.tup [.int .i64 r.1,.tup [r.2.o]],[])
def yq4 (v1:Tp) (v2:Int):Option (Int×Tp):=(yot v1.fr v2).bind fun v3=>(if ((v1.fr.map Td.o).length)<=(v3.2.map Td.o).length then(some (v3.1,(⟨v1.fao,((v3.2.take ((v1.fr.map Td.o).length)).drop 0)⟩:Tp))) else none)
def yx2 (v1:Tp) (v2:Int):Ctr:=⟨110,[v1.o,.I v2],[[.gone]],Int×Tp,yq4 v1 v2,yu5⟩
theorem yyd {v1:Tp} {v2:Int}:(yx2 v1 v2).ok tab:=okL_of rfl rfl rfl (.segA Td.o v1.fr<|.ob ((v1.fr.map Td.o).length=List.length ((v1.fr.map Td.o)))<|.call (ytl v1.fr v2) fun(v3:Int×List Td)=>.segB Td.o v3.2 0 ((v1.fr.map Td.o).length)<|.lfA yu5 (v3.1,(⟨v1.fao,((v3.2.take ((v1.fr.map Td.o).length)).drop 0)⟩:Tp)):Tree (Int×Tp) _) (by kernel_rfl) (sA<|⟨rfl,cE qad fun v3=>fun h4=>⟨zd1 _ _ _ h4,rfl⟩⟩)
def zuj (s:List Ti×Int×Int):St:=⟨sv 6 [(0,.own 9 (s.1.map Ti.o)),(1,.I s.2.1),(4,.I s.2.2)],[]⟩
def zns:(List Ti×Int×Int)->Ex×St:=fun p=>((.exit 0),⟨sv 6 [(0,.own 9 (p.1.map Ti.o)),(1,.I p.2.1),(4,.I p.2.2),(5,.bool false)],[]⟩)
def zyg:=zc0 (zuj) (zns)
def zli (s:List Ti×Int×Int):Option ((List Ti×Int×Int)⊕((List Ti×Int×Int))):=bif decide (s.2.2<(s.1.length:Int)) then(if 0<=s.2.2/\(s.2.2:Int)<(((s.1.map Ti.o).length - 0:Nat):Int) then(((s.1)[s.2.2.toNat]?).bind fun v67=>(let v69:=s.1.set (s.2.2.toNat) ({ v67 with fan:=s.2.1 }:Ti);(if 0<=s.2.2/\(s.2.2:Int)<(((v69.map Ti.o).length - 0:Nat):Int) then(((v69)[s.2.2.toNat]?).bind fun v70=>(let v72:=v69.set (s.2.2.toNat) ({ v70 with fau:=(w1 s.2.1) }:Ti);(if 0<=s.2.2/\(s.2.2:Int)<(((v72.map Ti.o).length - 0:Nat):Int) then(((v72)[s.2.2.toNat]?).bind fun v73=>(let v75:=v72.set (s.2.2.toNat) ({ v73 with fe:=(w1 (w1 s.2.1)) }:Ti);(if 0<=s.2.2/\(s.2.2:Int)<(((v75.map Ti.o).length - 0:Nat):Int) then(((v75)[s.2.2.toNat]?).bind fun v76=>(let v78:=v75.set (s.2.2.toNat) ({ v76 with fa:=({ v76.fa with fi:=(w1 (w1 (w1 s.2.1))) }:Tl) }:Ti);(if 0<=s.2.2/\(s.2.2:Int)<(((v78.map Ti.o).length - 0:Nat):Int) then(((v78)[s.2.2.toNat]?).bind fun v79=>(let v81:=v78.set (s.2.2.toNat) ({ v79 with fa:=({ v79.fa with fh:=(w1 (w1 (w1 (w1 s.2.1)))) }:Tl) }:Ti);(if 0<=s.2.2/\(s.2.2:Int)<(((v81.map Ti.o).length - 0:Nat):Int) then(((v81)[s.2.2.toNat]?).bind fun v82=>(let v84:=v81.set (s.2.2.toNat) ({ v82 with fa:=({ v82.fa with fN:=(w1 (w1 (w1 (w1 (w1 s.2.1))))) }:Tl) }:Ti);(if 0<=s.2.2/\(s.2.2:Int)<(((v84.map Ti.o).length - 0:Nat):Int) then(((v84)[s.2.2.toNat]?).bind fun v85=>((zqk v85.fa.fc (w1 (w1 (w1 (w1 (w1 (w1 s.2.1))))))).bind fun v87=>((((v84)[s.2.2.toNat]?).map fun _=>()).bind fun _=>((((v84)[s.2.2.toNat]?).map fun _=>()).bind fun _=>(let v88:=v84.set (s.2.2.toNat) ({ v85 with fa:=({ v85.fa with fc:=v87.2 }:Tl) }:Ti);(if 0<=s.2.2/\(s.2.2:Int)<(((v88.map Ti.o).length - 0:Nat):Int) then(((v88)[s.2.2.toNat]?).bind fun v89=>((zpb v89.fa.ff v87.1).bind fun v91=>((((v88)[s.2.2.toNat]?).map fun _=>()).bind fun _=>((((v88)[s.2.2.toNat]?).map fun _=>()).bind fun _=>(let v92:=v88.set (s.2.2.toNat) ({ v89 with fa:=({ v89.fa with ff:=v91.2 }:Tl) }:Ti);(if 0<=s.2.2/\(s.2.2:Int)<(((v92.map Ti.o).length - 0:Nat):Int) then(((v92)[s.2.2.toNat]?).bind fun v93=>(let v95:=v92.set (s.2.2.toNat) ({ v93 with fa:=({ v93.fa with fw:=v91.1 }:Tl) }:Ti);(some (.inl (v95,(w1 v91.1),(w1 s.2.2)))))) else none)))))) else none)))))) else none))) else none))) else none))) else none))) else none))) else none))) else none) else(some (.inr (s.1,s.2.1,s.2.2)))
def zuw (s:List Ti×Int×Int):Option ((List Ti×Int×Int)):=zbm (zli) BIG s
def ycd (s:List Ti×Int×Int):Lct:=⟨6,ygz,0,[2,3,5],some (zuj s),List Ti×Int×Int,zuw s,zns⟩
theorem ykc {s:List Ti×Int×Int}:(ycd s).ok tab:=zcf (loop_oky (J:=zuj) (o:=(zns)) (B:=fun(s:List Ti×Int×Int)=>(.lenB Ti.o s.1<|.br (decide (s.2.2<(s.1.length:Int))) (.gl Ti.o s.1 s.2.2 fun v67=>.setN Ti.o s.1 (s.2.2.toNat) ({ v67 with fan:=s.2.1 }:Ti) fun v69=>.gl Ti.o v69 s.2.2 fun v70=>.setN Ti.o v69 (s.2.2.toNat) ({ v70 with fau:=(w1 s.2.1) }:Ti) fun v72=>.gl Ti.o v72 s.2.2 fun v73=>.setN Ti.o v72 (s.2.2.toNat) ({ v73 with fe:=(w1 (w1 s.2.1)) }:Ti) fun v75=>.gl Ti.o v75 s.2.2 fun v76=>.setN Ti.o v75 (s.2.2.toNat) ({ v76 with fa:=({ v76.fa with fi:=(w1 (w1 (w1 s.2.1))) }:Tl) }:Ti) fun v78=>.gl Ti.o v78 s.2.2 fun v79=>.setN Ti.o v78 (s.2.2.toNat) ({ v79 with fa:=({ v79.fa with fh:=(w1 (w1 (w1 (w1 s.2.1)))) }:Tl) }:Ti) fun v81=>.gl Ti.o v81 s.2.2 fun v82=>.setN Ti.o v81 (s.2.2.toNat) ({ v82 with fa:=({ v82.fa with fN:=(w1 (w1 (w1 (w1 (w1 s.2.1))))) }:Tl) }:Ti) fun v84=>.guard (0<=s.2.2/\(s.2.2:Int)<(((v84.map Ti.o).length - 0:Nat):Int)) inferInstance<|.lookB Ti.o v84 (s.2.2.toNat) fun v85=>.lkY Ti.o v84 (s.2.2.toNat) v85<|.ob ((v85.fa.fc.map (V.int .i64)).length=List.length ((v85.fa.fc.map (V.int .i64))))<|.lkY Ti.o v84 (s.2.2.toNat) v85<|.lkY Ti.o v84 (s.2.2.toNat) v85<|.sk<|.call (zwe v85.fa.fc (w1 (w1 (w1 (w1 (w1 (w1 s.2.1))))))) fun(v87:Int×List Int)=>.hs Ti.o v84 (s.2.2.toNat) (.agg [.int .i64 v85.fan,.int .i64 v85.fau,.int .i64 v85.fe,.int .i64 v85.fa.fi,.int .i64 v85.fa.fh,.int .i64 v85.fa.fN,.gone,.own 1 (v85.fa.ff.map V.bool),.int .i64 v85.fa.fw]) ({ v85 with fa:=({ v85.fa with fc:=v87.2 }:Tl) }:Ti) fun v88=>.guard (0<=s.2.2/\(s.2.2:Int)<(((v88.map Ti.o).length - 0:Nat):Int)) inferInstance<|.lookB Ti.o v88 (s.2.2.toNat) fun v89=>.lkY Ti.o v88 (s.2.2.toNat) v89<|.ob ((v89.fa.ff.map V.bool).length=List.length ((v89.fa.ff.map V.bool)))<|.lkY Ti.o v88 (s.2.2.toNat) v89<|.lkY Ti.o v88 (s.2.2.toNat) v89<|.sk<|.call (zql v89.fa.ff v87.1) fun(v91:Int×List Bool)=>.hs Ti.o v88 (s.2.2.toNat) (.agg [.int .i64 v89.fan,.int .i64 v89.fau,.int .i64 v89.fe,.int .i64 v89.fa.fi,.int .i64 v89.fa.fh,.int .i64 v89.fa.fN,.own 1 (v89.fa.fc.map (V.int .i64)),.gone,.int .i64 v89.fa.fw]) ({ v89 with fa:=({ v89.fa with ff:=v91.2 }:Tl) }:Ti) fun v92=>.gl Ti.o v92 s.2.2 fun v93=>.setN Ti.o v92 (s.2.2.toNat) ({ v93 with fa:=({ v93.fa with fw:=v91.1 }:Tl) }:Ti) fun v95=>.lfA (zyg) (.inl (v95,(w1 v91.1),(w1 s.2.2))))<|.lfA (zyg) (.inr (s.1,s.2.1,s.2.2)))) (by kernel_rfl) (fun s=>lB<|bR (gL fun v67=>sN fun v69=>gL fun v70=>sN fun v72=>gL fun v73=>sN fun v75=>gL fun v76=>sN fun v78=>gL fun v79=>sN fun v81=>gL fun v82=>sN fun v84=>gU<|lK fun v85 h86=>lD h86<|⟨rfl,lD h86<|lD h86<|cE zwv fun v87=>hS fun v88=>gU<|lK fun v89 h90=>lD h90<|⟨rfl,lD h90<|lD h90<|cE zw5 fun v91=>hS fun v92=>gL fun v93=>sN fun v95=>rfl⟩⟩)<|rfl) (fun _=>rfl) BIG s)
def yvq:(Int×List Ti)->V×List (List V):=fun r=>(.tup [.int .i64 r.1,.tup [.own 9 (r.2.map Ti.o)]],[])
def yo6 (v1:List Ti) (v2:Int):Option (Int×List Ti):=(zuw (v1,v2,0)).bind fun v96=>(some (v96.2.1,v96.1))
def yxm (v1:List Ti) (v2:Int):Ctr:=⟨193,[.own 9 (v1.map Ti.o),.I v2],[[.gone]],Int×List Ti,yo6 v1 v2,yvq⟩
theorem yyv {v1:List Ti} {v2:Int}:(yxm v1 v2).ok tab:=okL_of rfl rfl rfl (.lp (ycd (v1,v2,0)) fun(v96:List Ti×Int×Int)=>.segA Ti.o v96.1<|.lfA yvq (v96.2.1,v96.1):Tree (Int×List Ti) _) (by kernel_rfl) (lP ykc fun v96=>sA<|rfl)
def zrs (s:List Tc×Int×Int):St:=⟨sv 6 [(0,.own 17 (s.1.map Tc.o)),(1,.I s.2.1),(4,.I s.2.2)],[]⟩
def zn3:(List Tc×Int×Int)->Ex×St:=fun p=>((.exit 0),⟨sv 6 [(0,.own 17 (p.1.map Tc.o)),(1,.I p.2.1),(4,.I p.2.2),(5,.bool false)],[]⟩)
def ybb:=zc0 (zrs) (zn3)
def zlz (s:List Tc×Int×Int):Option ((List Tc×Int×Int)⊕((List Tc×Int×Int))):=bif decide (s.2.2<(s.1.length:Int)) then(if 0<=s.2.2/\(s.2.2:Int)<(((s.1.map Tc.o).length - 0:Nat):Int) then(((s.1)[s.2.2.toNat]?).bind fun v117=>((yo6 v117.fat s.2.1).bind fun v119=>((((s.1)[s.2.2.toNat]?).map fun _=>()).bind fun _=>((((s.1)[s.2.2.toNat]?).map fun _=>()).bind fun _=>(let v120:=s.1.set (s.2.2.toNat) ({ v117 with fat:=v119.2 }:Tc);(if 0<=s.2.2/\(s.2.2:Int)<(((v120.map Tc.o).length - 0:Nat):Int) then(((v120)[s.2.2.toNat]?).bind fun v121=>(let v123:=v120.set (s.2.2.toNat) ({ v121 with faz:=(decide ((v119.1.tmod 3)=0)) }:Tc);(if 0<=s.2.2/\(s.2.2:Int)<(((v123.map Tc.o).length - 0:Nat):Int) then(((v123)[s.2.2.toNat]?).bind fun v124=>(let v126:=v123.set (s.2.2.toNat) ({ v124 with fg:=({ v124.fg with fan:=(w1 v119.1) }:Ti) }:Tc);(if 0<=s.2.2/\(s.2.2:Int)<(((v126.map Tc.o).length - 0:Nat):Int) then(((v126)[s.2.2.toNat]?).bind fun v127=>(let v129:=v126.set (s.2.2.toNat) ({ v127 with fg:=({ v127.fg with fau:=(w1 (w1 v119.1)) }:Ti) }:Tc);(if 0<=s.2.2/\(s.2.2:Int)<(((v129.map Tc.o).length - 0:Nat):Int) then(((v129)[s.2.2.toNat]?).bind fun v130=>(let v132:=v129.set (s.2.2.toNat) ({ v130 with fg:=({ v130.fg with fe:=(w1 (w1 (w1 v119.1))) }:Ti) }:Tc);(if 0<=s.2.2/\(s.2.2:Int)<(((v132.map Tc.o).length - 0:Nat):Int) then(((v132)[s.2.2.toNat]?).bind fun v133=>(let v135:=v132.set (s.2.2.toNat) ({ v133 with fg:=({ v133.fg with fa:=({ v133.fg.fa with fi:=(w1 (w1 (w1 (w1 v119.1)))) }:Tl) }:Ti) }:Tc);(if 0<=s.2.2/\(s.2.2:Int)<(((v135.map Tc.o).length - 0:Nat):Int) then(((v135)[s.2.2.toNat]?).bind fun v136=>(let v138:=v135.set (s.2.2.toNat) ({ v136 with fg:=({ v136.fg with fa:=({ v136.fg.fa with fh:=(w1 (w1 (w1 (w1 (w1 v119.1))))) }:Tl) }:Ti) }:Tc);(if 0<=s.2.2/\(s.2.2:Int)<(((v138.map Tc.o).length - 0:Nat):Int) then(((v138)[s.2.2.toNat]?).bind fun v139=>(let v141:=v138.set (s.2.2.toNat) ({ v139 with fg:=({ v139.fg with fa:=({ v139.fg.fa with fN:=(w1 (w1 (w1 (w1 (w1 (w1 v119.1)))))) }:Tl) }:Ti) }:Tc);(if 0<=s.2.2/\(s.2.2:Int)<(((v141.map Tc.o).length - 0:Nat):Int) then(((v141)[s.2.2.toNat]?).bind fun v142=>((zqk v142.fg.fa.fc (w1 (w1 (w1 (w1 (w1 (w1 (w1 v119.1)))))))).bind fun v144=>((((v141)[s.2.2.toNat]?).map fun _=>()).bind fun _=>((((v141)[s.2.2.toNat]?).map fun _=>()).bind fun _=>(let v145:=v141.set (s.2.2.toNat) ({ v142 with fg:=({ v142.fg with fa:=({ v142.fg.fa with fc:=v144.2 }:Tl) }:Ti) }:Tc);(if 0<=s.2.2/\(s.2.2:Int)<(((v145.map Tc.o).length - 0:Nat):Int) then(((v145)[s.2.2.toNat]?).bind fun v146=>((zpb v146.fg.fa.ff v144.1).bind fun v148=>((((v145)[s.2.2.toNat]?).map fun _=>()).bind fun _=>((((v145)[s.2.2.toNat]?).map fun _=>()).bind fun _=>(let v149:=v145.set (s.2.2.toNat) ({ v146 with fg:=({ v146.fg with fa:=({ v146.fg.fa with ff:=v148.2 }:Tl) }:Ti) }:Tc);(if 0<=s.2.2/\(s.2.2:Int)<(((v149.map Tc.o).length - 0:Nat):Int) then(((v149)[s.2.2.toNat]?).bind fun v150=>(let v152:=v149.set (s.2.2.toNat) ({ v150 with fg:=({ v150.fg with fa:=({ v150.fg.fa with fw:=v148.1 }:Tl) }:Ti) }:Tc);(if 0<=s.2.2/\(s.2.2:Int)<(((v152.map Tc.o).length - 0:Nat):Int) then(((v152)[s.2.2.toNat]?).bind fun v153=>(let v155:=v152.set (s.2.2.toNat) ({ v153 with fae:=(w1 v148.1) }:Tc);(if 0<=s.2.2/\(s.2.2:Int)<(((v155.map Tc.o).length - 0:Nat):Int) then(((v155)[s.2.2.toNat]?).bind fun v156=>(let v158:=v155.set (s.2.2.toNat) ({ v156 with faw:=(w1 (w1 v148.1)) }:Tc);(if 0<=s.2.2/\(s.2.2:Int)<(((v158.map Tc.o).length - 0:Nat):Int) then(((v158)[s.2.2.toNat]?).bind fun v159=>(let v161:=v158.set (s.2.2.toNat) ({ v159 with fax:=(w1 (w1 (w1 v148.1))) }:Tc);(if 0<=s.2.2/\(s.2.2:Int)<(((v161.map Tc.o).length - 0:Nat):Int) then(((v161)[s.2.2.toNat]?).bind fun v162=>(let v164:=v161.set (s.2.2.toNat) ({ v162 with fao:=(w1 (w1 (w1 (w1 v148.1)))) }:Tc);(if 0<=s.2.2/\(s.2.2:Int)<(((v164.map Tc.o).length - 0:Nat):Int) then(((v164)[s.2.2.toNat]?).bind fun v165=>(let v167:=v164.set (s.2.2.toNat) ({ v165 with fo:=(w1 (w1 (w1 (w1 (w1 v148.1))))) }:Tc);(if 0<=s.2.2/\(s.2.2:Int)<(((v167.map Tc.o).length - 0:Nat):Int) then(((v167)[s.2.2.toNat]?).bind fun v168=>(let v170:=v167.set (s.2.2.toNat) ({ v168 with fk:=(w1 (w1 (w1 (w1 (w1 (w1 v148.1)))))) }:Tc);(some (.inl (v170,(w1 (w1 (w1 (w1 (w1 (w1 (w1 v148.1))))))),(w1 s.2.2)))))) else none))) else none))) else none))) else none))) else none))) else none))) else none)))))) else none)))))) else none))) else none))) else none))) else none))) else none))) else none))) else none))) else none)))))) else none) else(some (.inr (s.1,s.2.1,s.2.2)))
def zrk (s:List Tc×Int×Int):Option ((List Tc×Int×Int)):=zbm (zlz) BIG s
def zz1 (s:List Tc×Int×Int):Lct:=⟨6,ygu,0,[2,3,5],some (zrs s),List Tc×Int×Int,zrk s,zn3⟩
theorem yjo {s:List Tc×Int×Int}:(zz1 s).ok tab:=zcf (loop_oky (J:=zrs) (o:=(zn3)) (B:=fun(s:List Tc×Int×Int)=>(.lenB Tc.o s.1<|.br (decide (s.2.2<(s.1.length:Int))) (.guard (0<=s.2.2/\(s.2.2:Int)<(((s.1.map Tc.o).length - 0:Nat):Int)) inferInstance<|.lookB Tc.o s.1 (s.2.2.toNat) fun v117=>.lkY Tc.o s.1 (s.2.2.toNat) v117<|.ob ((v117.fat.map Ti.o).length=List.length ((v117.fat.map Ti.o)))<|.lkY Tc.o s.1 (s.2.2.toNat) v117<|.lkY Tc.o s.1 (s.2.2.toNat) v117<|.sk<|.call (yxm v117.fat s.2.1) fun(v119:Int×List Ti)=>.hs Tc.o s.1 (s.2.2.toNat) (.agg [.gone,.bool v117.faz,.int .i64 v117.fg.fan,.int .i64 v117.fg.fau,.int .i64 v117.fg.fe,.int .i64 v117.fg.fa.fi,.int .i64 v117.fg.fa.fh,.int .i64 v117.fg.fa.fN,.own 1 (v117.fg.fa.fc.map (V.int .i64)),.own 1 (v117.fg.fa.ff.map V.bool),.int .i64 v117.fg.fa.fw,.int .i64 v117.fae,.int .i64 v117.faw,.int .i64 v117.fax,.int .i64 v117.fao,.int .i64 v117.fo,.int .i64 v117.fk]) ({ v117 with fat:=v119.2 }:Tc) fun v120=>.sk<|.gl Tc.o v120 s.2.2 fun v121=>.setN Tc.o v120 (s.2.2.toNat) ({ v121 with faz:=(decide ((v119.1.tmod 3)=0)) }:Tc) fun v123=>.gl Tc.o v123 s.2.2 fun v124=>.setN Tc.o v123 (s.2.2.toNat) ({ v124 with fg:=({ v124.fg with fan:=(w1 v119.1) }:Ti) }:Tc) fun v126=>.gl Tc.o v126 s.2.2 fun v127=>.setN Tc.o v126 (s.2.2.toNat) ({ v127 with fg:=({ v127.fg with fau:=(w1 (w1 v119.1)) }:Ti) }:Tc) fun v129=>.gl Tc.o v129 s.2.2 fun v130=>.setN Tc.o v129 (s.2.2.toNat) ({ v130 with fg:=({ v130.fg with fe:=(w1 (w1 (w1 v119.1))) }:Ti) }:Tc) fun v132=>.gl Tc.o v132 s.2.2 fun v133=>.setN Tc.o v132 (s.2.2.toNat) ({ v133 with fg:=({ v133.fg with fa:=({ v133.fg.fa with fi:=(w1 (w1 (w1 (w1 v119.1)))) }:Tl) }:Ti) }:Tc) fun v135=>.gl Tc.o v135 s.2.2 fun v136=>.setN Tc.o v135 (s.2.2.toNat) ({ v136 with fg:=({ v136.fg with fa:=({ v136.fg.fa with fh:=(w1 (w1 (w1 (w1 (w1 v119.1))))) }:Tl) }:Ti) }:Tc) fun v138=>.gl Tc.o v138 s.2.2 fun v139=>.setN Tc.o v138 (s.2.2.toNat) ({ v139 with fg:=({ v139.fg with fa:=({ v139.fg.fa with fN:=(w1 (w1 (w1 (w1 (w1 (w1 v119.1)))))) }:Tl) }:Ti) }:Tc) fun v141=>.guard (0<=s.2.2/\(s.2.2:Int)<(((v141.map Tc.o).length - 0:Nat):Int)) inferInstance<|.lookB Tc.o v141 (s.2.2.toNat) fun v142=>.lkY Tc.o v141 (s.2.2.toNat) v142<|.ob ((v142.fg.fa.fc.map (V.int .i64)).length=List.length ((v142.fg.fa.fc.map (V.int .i64))))<|.lkY Tc.o v141 (s.2.2.toNat) v142<|.lkY Tc.o v141 (s.2.2.toNat) v142<|.sk<|.call (zwe v142.fg.fa.fc (w1 (w1 (w1 (w1 (w1 (w1 (w1 v119.1)))))))) fun(v144:Int×List Int)=>.hs Tc.o v141 (s.2.2.toNat) (.agg [.own 9 (v142.fat.map Ti.o),.bool v142.faz,.int .i64 v142.fg.fan,.int .i64 v142.fg.fau,.int .i64 v142.fg.fe,.int .i64 v142.fg.fa.fi,.int .i64 v142.fg.fa.fh,.int .i64 v142.fg.fa.fN,.gone,.own 1 (v142.fg.fa.ff.map V.bool),.int .i64 v142.fg.fa.fw,.int .i64 v142.fae,.int .i64 v142.faw,.int .i64 v142.fax,.int .i64 v142.fao,.int .i64 v142.fo,.int .i64 v142.fk]) ({ v142 with fg:=({ v142.fg with fa:=({ v142.fg.fa with fc:=v144.2 }:Tl) }:Ti) }:Tc) fun v145=>.guard (0<=s.2.2/\(s.2.2:Int)<(((v145.map Tc.o).length - 0:Nat):Int)) inferInstance<|.lookB Tc.o v145 (s.2.2.toNat) fun v146=>.lkY Tc.o v145 (s.2.2.toNat) v146<|.ob ((v146.fg.fa.ff.map V.bool).length=List.length ((v146.fg.fa.ff.map V.bool)))<|.lkY Tc.o v145 (s.2.2.toNat) v146<|.lkY Tc.o v145 (s.2.2.toNat) v146<|.sk<|.call (zql v146.fg.fa.ff v144.1) fun(v148:Int×List Bool)=>.hs Tc.o v145 (s.2.2.toNat) (.agg [.own 9 (v146.fat.map Ti.o),.bool v146.faz,.int .i64 v146.fg.fan,.int .i64 v146.fg.fau,.int .i64 v146.fg.fe,.int .i64 v146.fg.fa.fi,.int .i64 v146.fg.fa.fh,.int .i64 v146.fg.fa.fN,.own 1 (v146.fg.fa.fc.map (V.int .i64)),.gone,.int .i64 v146.fg.fa.fw,.int .i64 v146.fae,.int .i64 v146.faw,.int .i64 v146.fax,.int .i64 v146.fao,.int .i64 v146.fo,.int .i64 v146.fk]) ({ v146 with fg:=({ v146.fg with fa:=({ v146.fg.fa with ff:=v148.2 }:Tl) }:Ti) }:Tc) fun v149=>.gl Tc.o v149 s.2.2 fun v150=>.setN Tc.o v149 (s.2.2.toNat) ({ v150 with fg:=({ v150.fg with fa:=({ v150.fg.fa with fw:=v148.1 }:Tl) }:Ti) }:Tc) fun v152=>.gl Tc.o v152 s.2.2 fun v153=>.setN Tc.o v152 (s.2.2.toNat) ({ v153 with fae:=(w1 v148.1) }:Tc) fun v155=>.gl Tc.o v155 s.2.2 fun v156=>.setN Tc.o v155 (s.2.2.toNat) ({ v156 with faw:=(w1 (w1 v148.1)) }:Tc) fun v158=>.gl Tc.o v158 s.2.2 fun v159=>.setN Tc.o v158 (s.2.2.toNat) ({ v159 with fax:=(w1 (w1 (w1 v148.1))) }:Tc) fun v161=>.gl Tc.o v161 s.2.2 fun v162=>.setN Tc.o v161 (s.2.2.toNat) ({ v162 with fao:=(w1 (w1 (w1 (w1 v148.1)))) }:Tc) fun v164=>.gl Tc.o v164 s.2.2 fun v165=>.setN Tc.o v164 (s.2.2.toNat) ({ v165 with fo:=(w1 (w1 (w1 (w1 (w1 v148.1))))) }:Tc) fun v167=>.gl Tc.o v167 s.2.2 fun v168=>.setN Tc.o v167 (s.2.2.toNat) ({ v168 with fk:=(w1 (w1 (w1 (w1 (w1 (w1 v148.1)))))) }:Tc) fun v170=>.lfA (ybb) (.inl (v170,(w1 (w1 (w1 (w1 (w1 (w1 (w1 v148.1))))))),(w1 s.2.2))))<|.lfA (ybb) (.inr (s.1,s.2.1,s.2.2)))) (by kernel_rfl) (fun s=>lB<|bR (gU<|lK fun v117 h118=>lD h118<|⟨rfl,lD h118<|lD h118<|cE yyv fun v119=>hS fun v120=>sK<|gL fun v121=>sN fun v123=>gL fun v124=>sN fun v126=>gL fun v127=>sN fun v129=>gL fun v130=>sN fun v132=>gL fun v133=>sN fun v135=>gL fun v136=>sN fun v138=>gL fun v139=>sN fun v141=>gU<|lK fun v142 h143=>lD h143<|⟨rfl,lD h143<|lD h143<|cE zwv fun v144=>hS fun v145=>gU<|lK fun v146 h147=>lD h147<|⟨rfl,lD h147<|lD h147<|cE zw5 fun v148=>hS fun v149=>gL fun v150=>sN fun v152=>gL fun v153=>sN fun v155=>gL fun v156=>sN fun v158=>gL fun v159=>sN fun v161=>gL fun v162=>sN fun v164=>gL fun v165=>sN fun v167=>gL fun v168=>sN fun v170=>rfl⟩⟩⟩)<|rfl) (fun _=>rfl) BIG s)
def yxi:(Int×List Tc)->V×List (List V):=fun r=>(.tup [.int .i64 r.1,.tup [.own 17 (r.2.map Tc.o)]],[])
def yog (v1:List Tc) (v2:Int):Option (Int×List Tc):=(zrk (v1,v2,0)).bind fun v171=>(some (v171.2.1,v171.1))
def ysg (v1:List Tc) (v2:Int):Ctr:=⟨111,[.own 17 (v1.map Tc.o),.I v2],[[.gone]],Int×List Tc,yog v1 v2,yxi⟩
theorem yyo {v1:List Tc} {v2:Int}:(ysg v1 v2).ok tab:=okL_of rfl rfl rfl (.lp (zz1 (v1,v2,0)) fun(v171:List Tc×Int×Int)=>.segA Tc.o v171.1<|.lfA yxi (v171.2.1,v171.1):Tree (Int×List Tc) _) (by kernel_rfl) (lP yjo fun v171=>sA<|rfl)
def ywy:(Int×Tn)->V×List (List V):=fun r=>(.tup [.int .i64 r.1,.tup [r.2.o]],[])
def ypi (v1:Tn) (v2:Int):Option (Int×Tn):=(ylt v1.fp v2).bind fun v3=>((yq4 v1.fq v3.1).bind fun v4=>((yog v1.ft v4.1).bind fun v5=>(if ((v1.fp.fd.map Tb.i).length)<=(v3.2.fd.map Tb.i).length then(if ((v1.fq.fr.map Td.o).length)<=(v4.2.fr.map Td.o).length then(if ((v1.ft.map Tc.o).length)<=(v5.2.map Tc.o).length then(some (v5.1,({ v1 with fp:=({ v1.fp with fd:=((v3.2.fd.take ((v1.fp.fd.map Tb.i).length)).drop 0) }:Tk),fq:=(⟨v1.fq.fao,((v4.2.fr.take ((v1.fq.fr.map Td.o).length)).drop 0)⟩:Tp),ft:=((v5.2.take ((v1.ft.map Tc.o).length)).drop 0) }:Tn))) else none) else none) else none)))
def yse (v1:Tn) (v2:Int):Ctr:=⟨45,[v1.o,.I v2],[[.gone]],Int×Tn,ypi v1 v2,ywy⟩
theorem qcw {v1:Tn} {v2:Int}:(yse v1 v2).ok tab:=okL_of rfl rfl rfl (.segA Tb.i v1.fp.fd<|.segA Td.o v1.fq.fr<|.segA Tc.o v1.ft<|.ob ((v1.fp.fd.map Tb.i).length=List.length ((v1.fp.fd.map Tb.i)))<|.call (yqa v1.fp v2) fun(v3:Int×Tk)=>.ob ((v1.fq.fr.map Td.o).length=List.length ((v1.fq.fr.map Td.o)))<|.call (yx2 v1.fq v3.1) fun(v4:Int×Tp)=>.ob ((v1.ft.map Tc.o).length=List.length ((v1.ft.map Tc.o)))<|.call (ysg v1.ft v4.1) fun(v5:Int×List Tc)=>.segB Tb.i v3.2.fd 0 ((v1.fp.fd.map Tb.i).length)<|.segB Td.o v4.2.fr 0 ((v1.fq.fr.map Td.o).length)<|.segB Tc.o v5.2 0 ((v1.ft.map Tc.o).length)<|.lfA ywy (v5.1,({ v1 with fp:=({ v1.fp with fd:=((v3.2.fd.take ((v1.fp.fd.map Tb.i).length)).drop 0) }:Tk),fq:=(⟨v1.fq.fao,((v4.2.fr.take ((v1.fq.fr.map Td.o).length)).drop 0)⟩:Tp),ft:=((v5.2.take ((v1.ft.map Tc.o).length)).drop 0) }:Tn)):Tree (Int×Tn) _) (by kernel_rfl) (sA<|sA<|sA<|⟨rfl,cE yv2 fun v3=>⟨rfl,cE yyd fun v4=>⟨rfl,cE yyo fun v5=>fun h6=>⟨zd1 _ _ _ h6,fun h7=>⟨zd1 _ _ _ h7,fun h8=>⟨zd1 _ _ _ h8,rfl⟩⟩⟩⟩⟩⟩)
def zu8 (s:List Tf×Int×Int):St:=⟨sv 6 [(0,.own 16 (s.1.map Tf.o)),(1,.I s.2.1),(4,.I s.2.2)],[]⟩
def zlg:(List Tf×Int×Int)->Ex×St:=fun p=>((.exit 0),⟨sv 6 [(0,.own 16 (p.1.map Tf.o)),(1,.I p.2.1),(4,.I p.2.2),(5,.bool false)],[]⟩)
def yb6:=zc0 (zu8) (zlg)
def zl8 (s:List Tf×Int×Int):Option ((List Tf×Int×Int)⊕((List Tf×Int×Int))):=bif decide (s.2.2<(s.1.length:Int)) then(if 0<=s.2.2/\(s.2.2:Int)<(((s.1.map Tf.o).length - 0:Nat):Int) then(((s.1)[s.2.2.toNat]?).bind fun v113=>(let v115:=s.1.set (s.2.2.toNat) ({ v113 with fay:=(decide ((s.2.1.tmod 3)=0)) }:Tf);(if 0<=s.2.2/\(s.2.2:Int)<(((v115.map Tf.o).length - 0:Nat):Int) then(((v115)[s.2.2.toNat]?).bind fun v116=>(let v118:=v115.set (s.2.2.toNat) ({ v116 with fj:=(w1 s.2.1) }:Tf);(if 0<=s.2.2/\(s.2.2:Int)<(((v118.map Tf.o).length - 0:Nat):Int) then(((v118)[s.2.2.toNat]?).bind fun v119=>(let v121:=v118.set (s.2.2.toNat) ({ v119 with fae:=(w1 (w1 s.2.1)) }:Tf);(if 0<=s.2.2/\(s.2.2:Int)<(((v121.map Tf.o).length - 0:Nat):Int) then(((v121)[s.2.2.toNat]?).bind fun v122=>(let v124:=v121.set (s.2.2.toNat) ({ v122 with fe:=(w1 (w1 (w1 s.2.1))) }:Tf);(if 0<=s.2.2/\(s.2.2:Int)<(((v124.map Tf.o).length - 0:Nat):Int) then(((v124)[s.2.2.toNat]?).bind fun v125=>(let v127:=v124.set (s.2.2.toNat) ({ v125 with fa:=({ v125.fa with fi:=(w1 (w1 (w1 (w1 s.2.1)))) }:Tl) }:Tf);(if 0<=s.2.2/\(s.2.2:Int)<(((v127.map Tf.o).length - 0:Nat):Int) then(((v127)[s.2.2.toNat]?).bind fun v128=>(let v130:=v127.set (s.2.2.toNat) ({ v128 with fa:=({ v128.fa with fh:=(w1 (w1 (w1 (w1 (w1 s.2.1))))) }:Tl) }:Tf);(if 0<=s.2.2/\(s.2.2:Int)<(((v130.map Tf.o).length - 0:Nat):Int) then(((v130)[s.2.2.toNat]?).bind fun v131=>(let v133:=v130.set (s.2.2.toNat) ({ v131 with fa:=({ v131.fa with fN:=(w1 (w1 (w1 (w1 (w1 (w1 s.2.1)))))) }:Tl) }:Tf);(if 0<=s.2.2/\(s.2.2:Int)<(((v133.map Tf.o).length - 0:Nat):Int) then(((v133)[s.2.2.toNat]?).bind fun v134=>((zqk v134.fa.fc (w1 (w1 (w1 (w1 (w1 (w1 (w1 s.2.1)))))))).bind fun v136=>((((v133)[s.2.2.toNat]?).map fun _=>()).bind fun _=>((((v133)[s.2.2.toNat]?).map fun _=>()).bind fun _=>(let v137:=v133.set (s.2.2.toNat) ({ v134 with fa:=({ v134.fa with fc:=v136.2 }:Tl) }:Tf);(if 0<=s.2.2/\(s.2.2:Int)<(((v137.map Tf.o).length - 0:Nat):Int) then(((v137)[s.2.2.toNat]?).bind fun v138=>((zpb v138.fa.ff v136.1).bind fun v140=>((((v137)[s.2.2.toNat]?).map fun _=>()).bind fun _=>((((v137)[s.2.2.toNat]?).map fun _=>()).bind fun _=>(let v141:=v137.set (s.2.2.toNat) ({ v138 with fa:=({ v138.fa with ff:=v140.2 }:Tl) }:Tf);(if 0<=s.2.2/\(s.2.2:Int)<(((v141.map Tf.o).length - 0:Nat):Int) then(((v141)[s.2.2.toNat]?).bind fun v142=>(let v144:=v141.set (s.2.2.toNat) ({ v142 with fa:=({ v142.fa with fw:=v140.1 }:Tl) }:Tf);(if 0<=s.2.2/\(s.2.2:Int)<(((v144.map Tf.o).length - 0:Nat):Int) then(((v144)[s.2.2.toNat]?).bind fun v145=>(let v147:=v144.set (s.2.2.toNat) ({ v145 with fb:=({ v145.fb with fi:=(w1 v140.1) }:Th) }:Tf);(if 0<=s.2.2/\(s.2.2:Int)<(((v147.map Tf.o).length - 0:Nat):Int) then(((v147)[s.2.2.toNat]?).bind fun v148=>(let v150:=v147.set (s.2.2.toNat) ({ v148 with fb:=({ v148.fb with faj:=(w1 (w1 v140.1)) }:Th) }:Tf);(if 0<=s.2.2/\(s.2.2:Int)<(((v150.map Tf.o).length - 0:Nat):Int) then(((v150)[s.2.2.toNat]?).bind fun v151=>(let v153:=v150.set (s.2.2.toNat) ({ v151 with fb:=({ v151.fb with fh:=(w1 (w1 (w1 v140.1))) }:Th) }:Tf);(if 0<=s.2.2/\(s.2.2:Int)<(((v153.map Tf.o).length - 0:Nat):Int) then(((v153)[s.2.2.toNat]?).bind fun v154=>(let v156:=v153.set (s.2.2.toNat) ({ v154 with fb:=({ v154.fb with fN:=(w1 (w1 (w1 (w1 v140.1)))) }:Th) }:Tf);(if 0<=s.2.2/\(s.2.2:Int)<(((v156.map Tf.o).length - 0:Nat):Int) then(((v156)[s.2.2.toNat]?).bind fun v157=>((zqk v157.fb.fc (w1 (w1 (w1 (w1 (w1 v140.1)))))).bind fun v159=>((((v156)[s.2.2.toNat]?).map fun _=>()).bind fun _=>((((v156)[s.2.2.toNat]?).map fun _=>()).bind fun _=>(let v160:=v156.set (s.2.2.toNat) ({ v157 with fb:=({ v157.fb with fc:=v159.2 }:Th) }:Tf);(if 0<=s.2.2/\(s.2.2:Int)<(((v160.map Tf.o).length - 0:Nat):Int) then(((v160)[s.2.2.toNat]?).bind fun v161=>((zpb v161.fb.ff v159.1).bind fun v163=>((((v160)[s.2.2.toNat]?).map fun _=>()).bind fun _=>((((v160)[s.2.2.toNat]?).map fun _=>()).bind fun _=>(let v164:=v160.set (s.2.2.toNat) ({ v161 with fb:=({ v161.fb with ff:=v163.2 }:Th) }:Tf);(some (.inl (v164,v163.1,(w1 s.2.2))))))))) else none)))))) else none))) else none))) else none))) else none))) else none))) else none)))))) else none)))))) else none))) else none))) else none))) else none))) else none))) else none))) else none))) else none) else(some (.inr (s.1,s.2.1,s.2.2)))
def zrg (s:List Tf×Int×Int):Option ((List Tf×Int×Int)):=zbm (zl8) BIG s
def yde (s:List Tf×Int×Int):Lct:=⟨6,yhw,0,[2,3,5],some (zu8 s),List Tf×Int×Int,zrg s,zlg⟩
theorem ykn {s:List Tf×Int×Int}:(yde s).ok tab:=zcf (loop_oky (J:=zu8) (o:=(zlg)) (B:=fun(s:List Tf×Int×Int)=>(.lenB Tf.o s.1<|.br (decide (s.2.2<(s.1.length:Int))) (.sk<|.gl Tf.o s.1 s.2.2 fun v113=>.setN Tf.o s.1 (s.2.2.toNat) ({ v113 with fay:=(decide ((s.2.1.tmod 3)=0)) }:Tf) fun v115=>.gl Tf.o v115 s.2.2 fun v116=>.setN Tf.o v115 (s.2.2.toNat) ({ v116 with fj:=(w1 s.2.1) }:Tf) fun v118=>.gl Tf.o v118 s.2.2 fun v119=>.setN Tf.o v118 (s.2.2.toNat) ({ v119 with fae:=(w1 (w1 s.2.1)) }:Tf) fun v121=>.gl Tf.o v121 s.2.2 fun v122=>.setN Tf.o v121 (s.2.2.toNat) ({ v122 with fe:=(w1 (w1 (w1 s.2.1))) }:Tf) fun v124=>.gl Tf.o v124 s.2.2 fun v125=>.setN Tf.o v124 (s.2.2.toNat) ({ v125 with fa:=({ v125.fa with fi:=(w1 (w1 (w1 (w1 s.2.1)))) }:Tl) }:Tf) fun v127=>.gl Tf.o v127 s.2.2 fun v128=>.setN Tf.o v127 (s.2.2.toNat) ({ v128 with fa:=({ v128.fa with fh:=(w1 (w1 (w1 (w1 (w1 s.2.1))))) }:Tl) }:Tf) fun v130=>.gl Tf.o v130 s.2.2 fun v131=>.setN Tf.o v130 (s.2.2.toNat) ({ v131 with fa:=({ v131.fa with fN:=(w1 (w1 (w1 (w1 (w1 (w1 s.2.1)))))) }:Tl) }:Tf) fun v133=>.guard (0<=s.2.2/\(s.2.2:Int)<(((v133.map Tf.o).length - 0:Nat):Int)) inferInstance<|.lookB Tf.o v133 (s.2.2.toNat) fun v134=>.lkY Tf.o v133 (s.2.2.toNat) v134<|.ob ((v134.fa.fc.map (V.int .i64)).length=List.length ((v134.fa.fc.map (V.int .i64))))<|.lkY Tf.o v133 (s.2.2.toNat) v134<|.lkY Tf.o v133 (s.2.2.toNat) v134<|.sk<|.call (zwe v134.fa.fc (w1 (w1 (w1 (w1 (w1 (w1 (w1 s.2.1)))))))) fun(v136:Int×List Int)=>.hs Tf.o v133 (s.2.2.toNat) (.agg [.bool v134.fay,.int .i64 v134.fj,.int .i64 v134.fae,.int .i64 v134.fe,.int .i64 v134.fa.fi,.int .i64 v134.fa.fh,.int .i64 v134.fa.fN,.gone,.own 1 (v134.fa.ff.map V.bool),.int .i64 v134.fa.fw,.int .i64 v134.fb.fi,.int .i64 v134.fb.faj,.int .i64 v134.fb.fh,.int .i64 v134.fb.fN,.own 1 (v134.fb.fc.map (V.int .i64)),.own 1 (v134.fb.ff.map V.bool)]) ({ v134 with fa:=({ v134.fa with fc:=v136.2 }:Tl) }:Tf) fun v137=>.guard (0<=s.2.2/\(s.2.2:Int)<(((v137.map Tf.o).length - 0:Nat):Int)) inferInstance<|.lookB Tf.o v137 (s.2.2.toNat) fun v138=>.lkY Tf.o v137 (s.2.2.toNat) v138<|.ob ((v138.fa.ff.map V.bool).length=List.length ((v138.fa.ff.map V.bool)))<|.lkY Tf.o v137 (s.2.2.toNat) v138<|.lkY Tf.o v137 (s.2.2.toNat) v138<|.sk<|.call (zql v138.fa.ff v136.1) fun(v140:Int×List Bool)=>.hs Tf.o v137 (s.2.2.toNat) (.agg [.bool v138.fay,.int .i64 v138.fj,.int .i64 v138.fae,.int .i64 v138.fe,.int .i64 v138.fa.fi,.int .i64 v138.fa.fh,.int .i64 v138.fa.fN,.own 1 (v138.fa.fc.map (V.int .i64)),.gone,.int .i64 v138.fa.fw,.int .i64 v138.fb.fi,.int .i64 v138.fb.faj,.int .i64 v138.fb.fh,.int .i64 v138.fb.fN,.own 1 (v138.fb.fc.map (V.int .i64)),.own 1 (v138.fb.ff.map V.bool)]) ({ v138 with fa:=({ v138.fa with ff:=v140.2 }:Tl) }:Tf) fun v141=>.gl Tf.o v141 s.2.2 fun v142=>.setN Tf.o v141 (s.2.2.toNat) ({ v142 with fa:=({ v142.fa with fw:=v140.1 }:Tl) }:Tf) fun v144=>.gl Tf.o v144 s.2.2 fun v145=>.setN Tf.o v144 (s.2.2.toNat) ({ v145 with fb:=({ v145.fb with fi:=(w1 v140.1) }:Th) }:Tf) fun v147=>.gl Tf.o v147 s.2.2 fun v148=>.setN Tf.o v147 (s.2.2.toNat) ({ v148 with fb:=({ v148.fb with faj:=(w1 (w1 v140.1)) }:Th) }:Tf) fun v150=>.gl Tf.o v150 s.2.2 fun v151=>.setN Tf.o v150 (s.2.2.toNat) ({ v151 with fb:=({ v151.fb with fh:=(w1 (w1 (w1 v140.1))) }:Th) }:Tf) fun v153=>.gl Tf.o v153 s.2.2 fun v154=>.setN Tf.o v153 (s.2.2.toNat) ({ v154 with fb:=({ v154.fb with fN:=(w1 (w1 (w1 (w1 v140.1)))) }:Th) }:Tf) fun v156=>.guard (0<=s.2.2/\(s.2.2:Int)<(((v156.map Tf.o).length - 0:Nat):Int)) inferInstance<|.lookB Tf.o v156 (s.2.2.toNat) fun v157=>.lkY Tf.o v156 (s.2.2.toNat) v157<|.ob ((v157.fb.fc.map (V.int .i64)).length=List.length ((v157.fb.fc.map (V.int .i64))))<|.lkY Tf.o v156 (s.2.2.toNat) v157<|.lkY Tf.o v156 (s.2.2.toNat) v157<|.sk<|.call (zwe v157.fb.fc (w1 (w1 (w1 (w1 (w1 v140.1)))))) fun(v159:Int×List Int)=>.hs Tf.o v156 (s.2.2.toNat) (.agg [.bool v157.fay,.int .i64 v157.fj,.int .i64 v157.fae,.int .i64 v157.fe,.int .i64 v157.fa.fi,.int .i64 v157.fa.fh,.int .i64 v157.fa.fN,.own 1 (v157.fa.fc.map (V.int .i64)),.own 1 (v157.fa.ff.map V.bool),.int .i64 v157.fa.fw,.int .i64 v157.fb.fi,.int .i64 v157.fb.faj,.int .i64 v157.fb.fh,.int .i64 v157.fb.fN,.gone,.own 1 (v157.fb.ff.map V.bool)]) ({ v157 with fb:=({ v157.fb with fc:=v159.2 }:Th) }:Tf) fun v160=>.guard (0<=s.2.2/\(s.2.2:Int)<(((v160.map Tf.o).length - 0:Nat):Int)) inferInstance<|.lookB Tf.o v160 (s.2.2.toNat) fun v161=>.lkY Tf.o v160 (s.2.2.toNat) v161<|.ob ((v161.fb.ff.map V.bool).length=List.length ((v161.fb.ff.map V.bool)))<|.lkY Tf.o v160 (s.2.2.toNat) v161<|.lkY Tf.o v160 (s.2.2.toNat) v161<|.sk<|.call (zql v161.fb.ff v159.1) fun(v163:Int×List Bool)=>.hs Tf.o v160 (s.2.2.toNat) (.agg [.bool v161.fay,.int .i64 v161.fj,.int .i64 v161.fae,.int .i64 v161.fe,.int .i64 v161.fa.fi,.int .i64 v161.fa.fh,.int .i64 v161.fa.fN,.own 1 (v161.fa.fc.map (V.int .i64)),.own 1 (v161.fa.ff.map V.bool),.int .i64 v161.fa.fw,.int .i64 v161.fb.fi,.int .i64 v161.fb.faj,.int .i64 v161.fb.fh,.int .i64 v161.fb.fN,.own 1 (v161.fb.fc.map (V.int .i64)),.gone]) ({ v161 with fb:=({ v161.fb with ff:=v163.2 }:Th) }:Tf) fun v164=>.lfA (yb6) (.inl (v164,v163.1,(w1 s.2.2))))<|.lfA (yb6) (.inr (s.1,s.2.1,s.2.2)))) (by kernel_rfl) (fun s=>lB<|bR (sK<|gL fun v113=>sN fun v115=>gL fun v116=>sN fun v118=>gL fun v119=>sN fun v121=>gL fun v122=>sN fun v124=>gL fun v125=>sN fun v127=>gL fun v128=>sN fun v130=>gL fun v131=>sN fun v133=>gU<|lK fun v134 h135=>lD h135<|⟨rfl,lD h135<|lD h135<|cE zwv fun v136=>hS fun v137=>gU<|lK fun v138 h139=>lD h139<|⟨rfl,lD h139<|lD h139<|cE zw5 fun v140=>hS fun v141=>gL fun v142=>sN fun v144=>gL fun v145=>sN fun v147=>gL fun v148=>sN fun v150=>gL fun v151=>sN fun v153=>gL fun v154=>sN fun v156=>gU<|lK fun v157 h158=>lD h158<|⟨rfl,lD h158<|lD h158<|cE zwv fun v159=>hS fun v160=>gU<|lK fun v161 h162=>lD h162<|⟨rfl,lD h162<|lD h162<|cE zw5 fun v163=>hS fun v164=>rfl⟩⟩⟩⟩)<|rfl) (fun _=>rfl) BIG s)
def yvn:(Int×List Tf)->V×List (List V):=fun r=>(.tup [.int .i64 r.1,.tup [.own 16 (r.2.map Tf.o)]],[])
def yok (v1:List Tf) (v2:Int):Option (Int×List Tf):=(zrg (v1,v2,0)).bind fun v165=>(some (v165.2.1,v165.1))
def yxa (v1:List Tf) (v2:Int):Ctr:=⟨82,[.own 16 (v1.map Tf.o),.I v2],[[.gone]],Int×List Tf,yok v1 v2,yvn⟩
theorem qbb {v1:List Tf} {v2:Int}:(yxa v1 v2).ok tab:=okL_of rfl rfl rfl (.lp (yde (v1,v2,0)) fun(v165:List Tf×Int×Int)=>.segA Tf.o v165.1<|.lfA yvn (v165.2.1,v165.1):Tree (Int×List Tf) _) (by kernel_rfl) (lP ykn fun v165=>sA<|rfl)
def zs0 (s:List Te×Int×Int):St:=⟨sv 6 [(0,.own 16 (s.1.map Te.o)),(1,.I s.2.1),(4,.I s.2.2)],[]⟩
def zo6:(List Te×Int×Int)->Ex×St:=fun p=>((.exit 0),⟨sv 6 [(0,.own 16 (p.1.map Te.o)),(1,.I p.2.1),(4,.I p.2.2),(5,.bool false)],[]⟩)
def zzz:=zc0 (zs0) (zo6)
def zoo (s:List Te×Int×Int):Option ((List Te×Int×Int)⊕((List Te×Int×Int))):=bif decide (s.2.2<(s.1.length:Int)) then(if 0<=s.2.2/\(s.2.2:Int)<(((s.1.map Te.o).length - 0:Nat):Int) then(((s.1)[s.2.2.toNat]?).bind fun v117=>(let v119:=s.1.set (s.2.2.toNat) ({ v117 with faq:=s.2.1 }:Te);(if 0<=s.2.2/\(s.2.2:Int)<(((v119.map Te.o).length - 0:Nat):Int) then(((v119)[s.2.2.toNat]?).bind fun v120=>(let v122:=v119.set (s.2.2.toNat) ({ v120 with far:=(w1 s.2.1) }:Te);(if 0<=s.2.2/\(s.2.2:Int)<(((v122.map Te.o).length - 0:Nat):Int) then(((v122)[s.2.2.toNat]?).bind fun v123=>(let v125:=v122.set (s.2.2.toNat) ({ v123 with fa:=({ v123.fa with fi:=(w1 (w1 s.2.1)) }:Tl) }:Te);(if 0<=s.2.2/\(s.2.2:Int)<(((v125.map Te.o).length - 0:Nat):Int) then(((v125)[s.2.2.toNat]?).bind fun v126=>(let v128:=v125.set (s.2.2.toNat) ({ v126 with fa:=({ v126.fa with fh:=(w1 (w1 (w1 s.2.1))) }:Tl) }:Te);(if 0<=s.2.2/\(s.2.2:Int)<(((v128.map Te.o).length - 0:Nat):Int) then(((v128)[s.2.2.toNat]?).bind fun v129=>(let v131:=v128.set (s.2.2.toNat) ({ v129 with fa:=({ v129.fa with fN:=(w1 (w1 (w1 (w1 s.2.1)))) }:Tl) }:Te);(if 0<=s.2.2/\(s.2.2:Int)<(((v131.map Te.o).length - 0:Nat):Int) then(((v131)[s.2.2.toNat]?).bind fun v132=>((zqk v132.fa.fc (w1 (w1 (w1 (w1 (w1 s.2.1)))))).bind fun v134=>((((v131)[s.2.2.toNat]?).map fun _=>()).bind fun _=>((((v131)[s.2.2.toNat]?).map fun _=>()).bind fun _=>(let v135:=v131.set (s.2.2.toNat) ({ v132 with fa:=({ v132.fa with fc:=v134.2 }:Tl) }:Te);(if 0<=s.2.2/\(s.2.2:Int)<(((v135.map Te.o).length - 0:Nat):Int) then(((v135)[s.2.2.toNat]?).bind fun v136=>((zpb v136.fa.ff v134.1).bind fun v138=>((((v135)[s.2.2.toNat]?).map fun _=>()).bind fun _=>((((v135)[s.2.2.toNat]?).map fun _=>()).bind fun _=>(let v139:=v135.set (s.2.2.toNat) ({ v136 with fa:=({ v136.fa with ff:=v138.2 }:Tl) }:Te);(if 0<=s.2.2/\(s.2.2:Int)<(((v139.map Te.o).length - 0:Nat):Int) then(((v139)[s.2.2.toNat]?).bind fun v140=>(let v142:=v139.set (s.2.2.toNat) ({ v140 with fa:=({ v140.fa with fw:=v138.1 }:Tl) }:Te);(if 0<=s.2.2/\(s.2.2:Int)<(((v142.map Te.o).length - 0:Nat):Int) then(((v142)[s.2.2.toNat]?).bind fun v143=>((ymq v143.fak (w1 v138.1)).bind fun v145=>((((v142)[s.2.2.toNat]?).map fun _=>()).bind fun _=>((((v142)[s.2.2.toNat]?).map fun _=>()).bind fun _=>(let v146:=v142.set (s.2.2.toNat) ({ v143 with fak:=v145.2 }:Te);(if 0<=s.2.2/\(s.2.2:Int)<(((v146.map Te.o).length - 0:Nat):Int) then(((v146)[s.2.2.toNat]?).bind fun v147=>((ylz v147.fal v145.1).bind fun v149=>((((v146)[s.2.2.toNat]?).map fun _=>()).bind fun _=>((((v146)[s.2.2.toNat]?).map fun _=>()).bind fun _=>(let v150:=v146.set (s.2.2.toNat) ({ v147 with fal:=v149.2 }:Te);(if 0<=s.2.2/\(s.2.2:Int)<(((v150.map Te.o).length - 0:Nat):Int) then(((v150)[s.2.2.toNat]?).bind fun v151=>(let v153:=v150.set (s.2.2.toNat) ({ v151 with fb:=({ v151.fb with fi:=v149.1 }:Th) }:Te);(if 0<=s.2.2/\(s.2.2:Int)<(((v153.map Te.o).length - 0:Nat):Int) then(((v153)[s.2.2.toNat]?).bind fun v154=>(let v156:=v153.set (s.2.2.toNat) ({ v154 with fb:=({ v154.fb with faj:=(w1 v149.1) }:Th) }:Te);(if 0<=s.2.2/\(s.2.2:Int)<(((v156.map Te.o).length - 0:Nat):Int) then(((v156)[s.2.2.toNat]?).bind fun v157=>(let v159:=v156.set (s.2.2.toNat) ({ v157 with fb:=({ v157.fb with fh:=(w1 (w1 v149.1)) }:Th) }:Te);(if 0<=s.2.2/\(s.2.2:Int)<(((v159.map Te.o).length - 0:Nat):Int) then(((v159)[s.2.2.toNat]?).bind fun v160=>(let v162:=v159.set (s.2.2.toNat) ({ v160 with fb:=({ v160.fb with fN:=(w1 (w1 (w1 v149.1))) }:Th) }:Te);(if 0<=s.2.2/\(s.2.2:Int)<(((v162.map Te.o).length - 0:Nat):Int) then(((v162)[s.2.2.toNat]?).bind fun v163=>((zqk v163.fb.fc (w1 (w1 (w1 (w1 v149.1))))).bind fun v165=>((((v162)[s.2.2.toNat]?).map fun _=>()).bind fun _=>((((v162)[s.2.2.toNat]?).map fun _=>()).bind fun _=>(let v166:=v162.set (s.2.2.toNat) ({ v163 with fb:=({ v163.fb with fc:=v165.2 }:Th) }:Te);(if 0<=s.2.2/\(s.2.2:Int)<(((v166.map Te.o).length - 0:Nat):Int) then(((v166)[s.2.2.toNat]?).bind fun v167=>((zpb v167.fb.ff v165.1).bind fun v169=>((((v166)[s.2.2.toNat]?).map fun _=>()).bind fun _=>((((v166)[s.2.2.toNat]?).map fun _=>()).bind fun _=>(let v170:=v166.set (s.2.2.toNat) ({ v167 with fb:=({ v167.fb with ff:=v169.2 }:Th) }:Te);(some (.inl (v170,v169.1,(w1 s.2.2))))))))) else none)))))) else none))) else none))) else none))) else none))) else none)))))) else none)))))) else none))) else none)))))) else none)))))) else none))) else none))) else none))) else none))) else none))) else none) else(some (.inr (s.1,s.2.1,s.2.2)))
def zst (s:List Te×Int×Int):Option ((List Te×Int×Int)):=zbm (zoo) BIG s
def ydw (s:List Te×Int×Int):Lct:=⟨6,yhv,0,[2,3,5],some (zs0 s),List Te×Int×Int,zst s,zo6⟩
theorem ykw {s:List Te×Int×Int}:(ydw s).ok tab:=zcf (loop_oky (J:=zs0) (o:=(zo6)) (B:=fun(s:List Te×Int×Int)=>(.lenB Te.o s.1<|.br (decide (s.2.2<(s.1.length:Int))) (.gl Te.o s.1 s.2.2 fun v117=>.setN Te.o s.1 (s.2.2.toNat) ({ v117 with faq:=s.2.1 }:Te) fun v119=>.gl Te.o v119 s.2.2 fun v120=>.setN Te.o v119 (s.2.2.toNat) ({ v120 with far:=(w1 s.2.1) }:Te) fun v122=>.gl Te.o v122 s.2.2 fun v123=>.setN Te.o v122 (s.2.2.toNat) ({ v123 with fa:=({ v123.fa with fi:=(w1 (w1 s.2.1)) }:Tl) }:Te) fun v125=>.gl Te.o v125 s.2.2 fun v126=>.setN Te.o v125 (s.2.2.toNat) ({ v126 with fa:=({ v126.fa with fh:=(w1 (w1 (w1 s.2.1))) }:Tl) }:Te) fun v128=>.gl Te.o v128 s.2.2 fun v129=>.setN Te.o v128 (s.2.2.toNat) ({ v129 with fa:=({ v129.fa with fN:=(w1 (w1 (w1 (w1 s.2.1)))) }:Tl) }:Te) fun v131=>.guard (0<=s.2.2/\(s.2.2:Int)<(((v131.map Te.o).length - 0:Nat):Int)) inferInstance<|.lookB Te.o v131 (s.2.2.toNat) fun v132=>.lkY Te.o v131 (s.2.2.toNat) v132<|.ob ((v132.fa.fc.map (V.int .i64)).length=List.length ((v132.fa.fc.map (V.int .i64))))<|.lkY Te.o v131 (s.2.2.toNat) v132<|.lkY Te.o v131 (s.2.2.toNat) v132<|.sk<|.call (zwe v132.fa.fc (w1 (w1 (w1 (w1 (w1 s.2.1)))))) fun(v134:Int×List Int)=>.hs Te.o v131 (s.2.2.toNat) (.agg [.int .i64 v132.faq,.int .i64 v132.far,.int .i64 v132.fa.fi,.int .i64 v132.fa.fh,.int .i64 v132.fa.fN,.gone,.own 1 (v132.fa.ff.map V.bool),.int .i64 v132.fa.fw,.own 8 (v132.fak.map Tj.o),.own 6 (v132.fal.map Th.o),.int .i64 v132.fb.fi,.int .i64 v132.fb.faj,.int .i64 v132.fb.fh,.int .i64 v132.fb.fN,.own 1 (v132.fb.fc.map (V.int .i64)),.own 1 (v132.fb.ff.map V.bool)]) ({ v132 with fa:=({ v132.fa with fc:=v134.2 }:Tl) }:Te) fun v135=>.guard (0<=s.2.2/\(s.2.2:Int)<(((v135.map Te.o).length - 0:Nat):Int)) inferInstance<|.lookB Te.o v135 (s.2.2.toNat) fun v136=>.lkY Te.o v135 (s.2.2.toNat) v136<|.ob ((v136.fa.ff.map V.bool).length=List.length ((v136.fa.ff.map V.bool)))<|.lkY Te.o v135 (s.2.2.toNat) v136<|.lkY Te.o v135 (s.2.2.toNat) v136<|.sk<|.call (zql v136.fa.ff v134.1) fun(v138:Int×List Bool)=>.hs Te.o v135 (s.2.2.toNat) (.agg [.int .i64 v136.faq,.int .i64 v136.far,.int .i64 v136.fa.fi,.int .i64 v136.fa.fh,.int .i64 v136.fa.fN,.own 1 (v136.fa.fc.map (V.int .i64)),.gone,.int .i64 v136.fa.fw,.own 8 (v136.fak.map Tj.o),.own 6 (v136.fal.map Th.o),.int .i64 v136.fb.fi,.int .i64 v136.fb.faj,.int .i64 v136.fb.fh,.int .i64 v136.fb.fN,.own 1 (v136.fb.fc.map (V.int .i64)),.own 1 (v136.fb.ff.map V.bool)]) ({ v136 with fa:=({ v136.fa with ff:=v138.2 }:Tl) }:Te) fun v139=>.gl Te.o v139 s.2.2 fun v140=>.setN Te.o v139 (s.2.2.toNat) ({ v140 with fa:=({ v140.fa with fw:=v138.1 }:Tl) }:Te) fun v142=>.guard (0<=s.2.2/\(s.2.2:Int)<(((v142.map Te.o).length - 0:Nat):Int)) inferInstance<|.lookB Te.o v142 (s.2.2.toNat) fun v143=>.lkY Te.o v142 (s.2.2.toNat) v143<|.ob ((v143.fak.map Tj.o).length=List.length ((v143.fak.map Tj.o)))<|.lkY Te.o v142 (s.2.2.toNat) v143<|.lkY Te.o v142 (s.2.2.toNat) v143<|.sk<|.call (yq7 v143.fak (w1 v138.1)) fun(v145:Int×List Tj)=>.hs Te.o v142 (s.2.2.toNat) (.agg [.int .i64 v143.faq,.int .i64 v143.far,.int .i64 v143.fa.fi,.int .i64 v143.fa.fh,.int .i64 v143.fa.fN,.own 1 (v143.fa.fc.map (V.int .i64)),.own 1 (v143.fa.ff.map V.bool),.int .i64 v143.fa.fw,.gone,.own 6 (v143.fal.map Th.o),.int .i64 v143.fb.fi,.int .i64 v143.fb.faj,.int .i64 v143.fb.fh,.int .i64 v143.fb.fN,.own 1 (v143.fb.fc.map (V.int .i64)),.own 1 (v143.fb.ff.map V.bool)]) ({ v143 with fak:=v145.2 }:Te) fun v146=>.guard (0<=s.2.2/\(s.2.2:Int)<(((v146.map Te.o).length - 0:Nat):Int)) inferInstance<|.lookB Te.o v146 (s.2.2.toNat) fun v147=>.lkY Te.o v146 (s.2.2.toNat) v147<|.ob ((v147.fal.map Th.o).length=List.length ((v147.fal.map Th.o)))<|.lkY Te.o v146 (s.2.2.toNat) v147<|.lkY Te.o v146 (s.2.2.toNat) v147<|.sk<|.call (ypw v147.fal v145.1) fun(v149:Int×List Th)=>.hs Te.o v146 (s.2.2.toNat) (.agg [.int .i64 v147.faq,.int .i64 v147.far,.int .i64 v147.fa.fi,.int .i64 v147.fa.fh,.int .i64 v147.fa.fN,.own 1 (v147.fa.fc.map (V.int .i64)),.own 1 (v147.fa.ff.map V.bool),.int .i64 v147.fa.fw,.own 8 (v147.fak.map Tj.o),.gone,.int .i64 v147.fb.fi,.int .i64 v147.fb.faj,.int .i64 v147.fb.fh,.int .i64 v147.fb.fN,.own 1 (v147.fb.fc.map (V.int .i64)),.own 1 (v147.fb.ff.map V.bool)]) ({ v147 with fal:=v149.2 }:Te) fun v150=>.gl Te.o v150 s.2.2 fun v151=>.setN Te.o v150 (s.2.2.toNat) ({ v151 with fb:=({ v151.fb with fi:=v149.1 }:Th) }:Te) fun v153=>.gl Te.o v153 s.2.2 fun v154=>.setN Te.o v153 (s.2.2.toNat) ({ v154 with fb:=({ v154.fb with faj:=(w1 v149.1) }:Th) }:Te) fun v156=>.gl Te.o v156 s.2.2 fun v157=>.setN Te.o v156 (s.2.2.toNat) ({ v157 with fb:=({ v157.fb with fh:=(w1 (w1 v149.1)) }:Th) }:Te) fun v159=>.gl Te.o v159 s.2.2 fun v160=>.setN Te.o v159 (s.2.2.toNat) ({ v160 with fb:=({ v160.fb with fN:=(w1 (w1 (w1 v149.1))) }:Th) }:Te) fun v162=>.guard (0<=s.2.2/\(s.2.2:Int)<(((v162.map Te.o).length - 0:Nat):Int)) inferInstance<|.lookB Te.o v162 (s.2.2.toNat) fun v163=>.lkY Te.o v162 (s.2.2.toNat) v163<|.ob ((v163.fb.fc.map (V.int .i64)).length=List.length ((v163.fb.fc.map (V.int .i64))))<|.lkY Te.o v162 (s.2.2.toNat) v163<|.lkY Te.o v162 (s.2.2.toNat) v163<|.sk<|.call (zwe v163.fb.fc (w1 (w1 (w1 (w1 v149.1))))) fun(v165:Int×List Int)=>.hs Te.o v162 (s.2.2.toNat) (.agg [.int .i64 v163.faq,.int .i64 v163.far,.int .i64 v163.fa.fi,.int .i64 v163.fa.fh,.int .i64 v163.fa.fN,.own 1 (v163.fa.fc.map (V.int .i64)),.own 1 (v163.fa.ff.map V.bool),.int .i64 v163.fa.fw,.own 8 (v163.fak.map Tj.o),.own 6 (v163.fal.map Th.o),.int .i64 v163.fb.fi,.int .i64 v163.fb.faj,.int .i64 v163.fb.fh,.int .i64 v163.fb.fN,.gone,.own 1 (v163.fb.ff.map V.bool)]) ({ v163 with fb:=({ v163.fb with fc:=v165.2 }:Th) }:Te) fun v166=>.guard (0<=s.2.2/\(s.2.2:Int)<(((v166.map Te.o).length - 0:Nat):Int)) inferInstance<|.lookB Te.o v166 (s.2.2.toNat) fun v167=>.lkY Te.o v166 (s.2.2.toNat) v167<|.ob ((v167.fb.ff.map V.bool).length=List.length ((v167.fb.ff.map V.bool)))<|.lkY Te.o v166 (s.2.2.toNat) v167<|.lkY Te.o v166 (s.2.2.toNat) v167<|.sk<|.call (zql v167.fb.ff v165.1) fun(v169:Int×List Bool)=>.hs Te.o v166 (s.2.2.toNat) (.agg [.int .i64 v167.faq,.int .i64 v167.far,.int .i64 v167.fa.fi,.int .i64 v167.fa.fh,.int .i64 v167.fa.fN,.own 1 (v167.fa.fc.map (V.int .i64)),.own 1 (v167.fa.ff.map V.bool),.int .i64 v167.fa.fw,.own 8 (v167.fak.map Tj.o),.own 6 (v167.fal.map Th.o),.int .i64 v167.fb.fi,.int .i64 v167.fb.faj,.int .i64 v167.fb.fh,.int .i64 v167.fb.fN,.own 1 (v167.fb.fc.map (V.int .i64)),.gone]) ({ v167 with fb:=({ v167.fb with ff:=v169.2 }:Th) }:Te) fun v170=>.lfA (zzz) (.inl (v170,v169.1,(w1 s.2.2))))<|.lfA (zzz) (.inr (s.1,s.2.1,s.2.2)))) (by kernel_rfl) (fun s=>lB<|bR (gL fun v117=>sN fun v119=>gL fun v120=>sN fun v122=>gL fun v123=>sN fun v125=>gL fun v126=>sN fun v128=>gL fun v129=>sN fun v131=>gU<|lK fun v132 h133=>lD h133<|⟨rfl,lD h133<|lD h133<|cE zwv fun v134=>hS fun v135=>gU<|lK fun v136 h137=>lD h137<|⟨rfl,lD h137<|lD h137<|cE zw5 fun v138=>hS fun v139=>gL fun v140=>sN fun v142=>gU<|lK fun v143 h144=>lD h144<|⟨rfl,lD h144<|lD h144<|cE yx0 fun v145=>hS fun v146=>gU<|lK fun v147 h148=>lD h148<|⟨rfl,lD h148<|lD h148<|cE yvh fun v149=>hS fun v150=>gL fun v151=>sN fun v153=>gL fun v154=>sN fun v156=>gL fun v157=>sN fun v159=>gL fun v160=>sN fun v162=>gU<|lK fun v163 h164=>lD h164<|⟨rfl,lD h164<|lD h164<|cE zwv fun v165=>hS fun v166=>gU<|lK fun v167 h168=>lD h168<|⟨rfl,lD h168<|lD h168<|cE zw5 fun v169=>hS fun v170=>rfl⟩⟩⟩⟩⟩⟩)<|rfl) (fun _=>rfl) BIG s)
def yu6:(Int×List Te)->V×List (List V):=fun r=>(.tup [.int .i64 r.1,.tup [.own 16 (r.2.map Te.o)]],[])
def yoc (v1:List Te) (v2:Int):Option (Int×List Te):=(zst (v1,v2,0)).bind fun v171=>(some (v171.2.1,v171.1))
def yt0 (v1:List Te) (v2:Int):Ctr:=⟨55,[.own 16 (v1.map Te.o),.I v2],[[.gone]],Int×List Te,yoc v1 v2,yu6⟩
theorem qdx {v1:List Te} {v2:Int}:(yt0 v1 v2).ok tab:=okL_of rfl rfl rfl (.lp (ydw (v1,v2,0)) fun(v171:List Te×Int×Int)=>.segA Te.o v171.1<|.lfA yu6 (v171.2.1,v171.1):Tree (Int×List Te) _) (by kernel_rfl) (lP ykw fun v171=>sA<|rfl)
def zut (s:List Tg×Int×Int):St:=⟨sv 6 [(0,.own 15 (s.1.map Tg.o)),(1,.I s.2.1),(4,.I s.2.2)],[]⟩
def zmx:(List Tg×Int×Int)->Ex×St:=fun p=>((.exit 0),⟨sv 6 [(0,.own 15 (p.1.map Tg.o)),(1,.I p.2.1),(4,.I p.2.2),(5,.bool false)],[]⟩)
def yan:=zc0 (zut) (zmx)
def zln (s:List Tg×Int×Int):Option ((List Tg×Int×Int)⊕((List Tg×Int×Int))):=bif decide (s.2.2<(s.1.length:Int)) then(if 0<=s.2.2/\(s.2.2:Int)<(((s.1.map Tg.o).length - 0:Nat):Int) then(((s.1)[s.2.2.toNat]?).bind fun v107=>(let v109:=s.1.set (s.2.2.toNat) ({ v107 with fj:=s.2.1 }:Tg);(if 0<=s.2.2/\(s.2.2:Int)<(((v109.map Tg.o).length - 0:Nat):Int) then(((v109)[s.2.2.toNat]?).bind fun v110=>(let v112:=v109.set (s.2.2.toNat) ({ v110 with fae:=(w1 s.2.1) }:Tg);(if 0<=s.2.2/\(s.2.2:Int)<(((v112.map Tg.o).length - 0:Nat):Int) then(((v112)[s.2.2.toNat]?).bind fun v113=>(let v115:=v112.set (s.2.2.toNat) ({ v113 with fe:=(w1 (w1 s.2.1)) }:Tg);(if 0<=s.2.2/\(s.2.2:Int)<(((v115.map Tg.o).length - 0:Nat):Int) then(((v115)[s.2.2.toNat]?).bind fun v116=>(let v118:=v115.set (s.2.2.toNat) ({ v116 with fa:=({ v116.fa with fi:=(w1 (w1 (w1 s.2.1))) }:Tl) }:Tg);(if 0<=s.2.2/\(s.2.2:Int)<(((v118.map Tg.o).length - 0:Nat):Int) then(((v118)[s.2.2.toNat]?).bind fun v119=>(let v121:=v118.set (s.2.2.toNat) ({ v119 with fa:=({ v119.fa with fh:=(w1 (w1 (w1 (w1 s.2.1)))) }:Tl) }:Tg);(if 0<=s.2.2/\(s.2.2:Int)<(((v121.map Tg.o).length - 0:Nat):Int) then(((v121)[s.2.2.toNat]?).bind fun v122=>(let v124:=v121.set (s.2.2.toNat) ({ v122 with fa:=({ v122.fa with fN:=(w1 (w1 (w1 (w1 (w1 s.2.1))))) }:Tl) }:Tg);(if 0<=s.2.2/\(s.2.2:Int)<(((v124.map Tg.o).length - 0:Nat):Int) then(((v124)[s.2.2.toNat]?).bind fun v125=>((zqk v125.fa.fc (w1 (w1 (w1 (w1 (w1 (w1 s.2.1))))))).bind fun v127=>((((v124)[s.2.2.toNat]?).map fun _=>()).bind fun _=>((((v124)[s.2.2.toNat]?).map fun _=>()).bind fun _=>(let v128:=v124.set (s.2.2.toNat) ({ v125 with fa:=({ v125.fa with fc:=v127.2 }:Tl) }:Tg);(if 0<=s.2.2/\(s.2.2:Int)<(((v128.map Tg.o).length - 0:Nat):Int) then(((v128)[s.2.2.toNat]?).bind fun v129=>((zpb v129.fa.ff v127.1).bind fun v131=>((((v128)[s.2.2.toNat]?).map fun _=>()).bind fun _=>((((v128)[s.2.2.toNat]?).map fun _=>()).bind fun _=>(let v132:=v128.set (s.2.2.toNat) ({ v129 with fa:=({ v129.fa with ff:=v131.2 }:Tl) }:Tg);(if 0<=s.2.2/\(s.2.2:Int)<(((v132.map Tg.o).length - 0:Nat):Int) then(((v132)[s.2.2.toNat]?).bind fun v133=>(let v135:=v132.set (s.2.2.toNat) ({ v133 with fa:=({ v133.fa with fw:=v131.1 }:Tl) }:Tg);(if 0<=s.2.2/\(s.2.2:Int)<(((v135.map Tg.o).length - 0:Nat):Int) then(((v135)[s.2.2.toNat]?).bind fun v136=>(let v138:=v135.set (s.2.2.toNat) ({ v136 with fb:=({ v136.fb with fi:=(w1 v131.1) }:Th) }:Tg);(if 0<=s.2.2/\(s.2.2:Int)<(((v138.map Tg.o).length - 0:Nat):Int) then(((v138)[s.2.2.toNat]?).bind fun v139=>(let v141:=v138.set (s.2.2.toNat) ({ v139 with fb:=({ v139.fb with faj:=(w1 (w1 v131.1)) }:Th) }:Tg);(if 0<=s.2.2/\(s.2.2:Int)<(((v141.map Tg.o).length - 0:Nat):Int) then(((v141)[s.2.2.toNat]?).bind fun v142=>(let v144:=v141.set (s.2.2.toNat) ({ v142 with fb:=({ v142.fb with fh:=(w1 (w1 (w1 v131.1))) }:Th) }:Tg);(if 0<=s.2.2/\(s.2.2:Int)<(((v144.map Tg.o).length - 0:Nat):Int) then(((v144)[s.2.2.toNat]?).bind fun v145=>(let v147:=v144.set (s.2.2.toNat) ({ v145 with fb:=({ v145.fb with fN:=(w1 (w1 (w1 (w1 v131.1)))) }:Th) }:Tg);(if 0<=s.2.2/\(s.2.2:Int)<(((v147.map Tg.o).length - 0:Nat):Int) then(((v147)[s.2.2.toNat]?).bind fun v148=>((zqk v148.fb.fc (w1 (w1 (w1 (w1 (w1 v131.1)))))).bind fun v150=>((((v147)[s.2.2.toNat]?).map fun _=>()).bind fun _=>((((v147)[s.2.2.toNat]?).map fun _=>()).bind fun _=>(let v151:=v147.set (s.2.2.toNat) ({ v148 with fb:=({ v148.fb with fc:=v150.2 }:Th) }:Tg);(if 0<=s.2.2/\(s.2.2:Int)<(((v151.map Tg.o).length - 0:Nat):Int) then(((v151)[s.2.2.toNat]?).bind fun v152=>((zpb v152.fb.ff v150.1).bind fun v154=>((((v151)[s.2.2.toNat]?).map fun _=>()).bind fun _=>((((v151)[s.2.2.toNat]?).map fun _=>()).bind fun _=>(let v155:=v151.set (s.2.2.toNat) ({ v152 with fb:=({ v152.fb with ff:=v154.2 }:Th) }:Tg);(some (.inl (v155,v154.1,(w1 s.2.2))))))))) else none)))))) else none))) else none))) else none))) else none))) else none))) else none)))))) else none)))))) else none))) else none))) else none))) else none))) else none))) else none))) else none) else(some (.inr (s.1,s.2.1,s.2.2)))
def zug (s:List Tg×Int×Int):Option ((List Tg×Int×Int)):=zbm (zln) BIG s
def ybc (s:List Tg×Int×Int):Lct:=⟨6,yhn,0,[2,3,5],some (zut s),List Tg×Int×Int,zug s,zmx⟩
theorem yk9 {s:List Tg×Int×Int}:(ybc s).ok tab:=zcf (loop_oky (J:=zut) (o:=(zmx)) (B:=fun(s:List Tg×Int×Int)=>(.lenB Tg.o s.1<|.br (decide (s.2.2<(s.1.length:Int))) (.gl Tg.o s.1 s.2.2 fun v107=>.setN Tg.o s.1 (s.2.2.toNat) ({ v107 with fj:=s.2.1 }:Tg) fun v109=>.gl Tg.o v109 s.2.2 fun v110=>.setN Tg.o v109 (s.2.2.toNat) ({ v110 with fae:=(w1 s.2.1) }:Tg) fun v112=>.gl Tg.o v112 s.2.2 fun v113=>.setN Tg.o v112 (s.2.2.toNat) ({ v113 with fe:=(w1 (w1 s.2.1)) }:Tg) fun v115=>.gl Tg.o v115 s.2.2 fun v116=>.setN Tg.o v115 (s.2.2.toNat) ({ v116 with fa:=({ v116.fa with fi:=(w1 (w1 (w1 s.2.1))) }:Tl) }:Tg) fun v118=>.gl Tg.o v118 s.2.2 fun v119=>.setN Tg.o v118 (s.2.2.toNat) ({ v119 with fa:=({ v119.fa with fh:=(w1 (w1 (w1 (w1 s.2.1)))) }:Tl) }:Tg) fun v121=>.gl Tg.o v121 s.2.2 fun v122=>.setN Tg.o v121 (s.2.2.toNat) ({ v122 with fa:=({ v122.fa with fN:=(w1 (w1 (w1 (w1 (w1 s.2.1))))) }:Tl) }:Tg) fun v124=>.guard (0<=s.2.2/\(s.2.2:Int)<(((v124.map Tg.o).length - 0:Nat):Int)) inferInstance<|.lookB Tg.o v124 (s.2.2.toNat) fun v125=>.lkY Tg.o v124 (s.2.2.toNat) v125<|.ob ((v125.fa.fc.map (V.int .i64)).length=List.length ((v125.fa.fc.map (V.int .i64))))<|.lkY Tg.o v124 (s.2.2.toNat) v125<|.lkY Tg.o v124 (s.2.2.toNat) v125<|.sk<|.call (zwe v125.fa.fc (w1 (w1 (w1 (w1 (w1 (w1 s.2.1))))))) fun(v127:Int×List Int)=>.hs Tg.o v124 (s.2.2.toNat) (.agg [.int .i64 v125.fj,.int .i64 v125.fae,.int .i64 v125.fe,.int .i64 v125.fa.fi,.int .i64 v125.fa.fh,.int .i64 v125.fa.fN,.gone,.own 1 (v125.fa.ff.map V.bool),.int .i64 v125.fa.fw,.int .i64 v125.fb.fi,.int .i64 v125.fb.faj,.int .i64 v125.fb.fh,.int .i64 v125.fb.fN,.own 1 (v125.fb.fc.map (V.int .i64)),.own 1 (v125.fb.ff.map V.bool)]) ({ v125 with fa:=({ v125.fa with fc:=v127.2 }:Tl) }:Tg) fun v128=>.guard (0<=s.2.2/\(s.2.2:Int)<(((v128.map Tg.o).length - 0:Nat):Int)) inferInstance<|.lookB Tg.o v128 (s.2.2.toNat) fun v129=>.lkY Tg.o v128 (s.2.2.toNat) v129<|.ob ((v129.fa.ff.map V.bool).length=List.length ((v129.fa.ff.map V.bool)))<|.lkY Tg.o v128 (s.2.2.toNat) v129<|.lkY Tg.o v128 (s.2.2.toNat) v129<|.sk<|.call (zql v129.fa.ff v127.1) fun(v131:Int×List Bool)=>.hs Tg.o v128 (s.2.2.toNat) (.agg [.int .i64 v129.fj,.int .i64 v129.fae,.int .i64 v129.fe,.int .i64 v129.fa.fi,.int .i64 v129.fa.fh,.int .i64 v129.fa.fN,.own 1 (v129.fa.fc.map (V.int .i64)),.gone,.int .i64 v129.fa.fw,.int .i64 v129.fb.fi,.int .i64 v129.fb.faj,.int .i64 v129.fb.fh,.int .i64 v129.fb.fN,.own 1 (v129.fb.fc.map (V.int .i64)),.own 1 (v129.fb.ff.map V.bool)]) ({ v129 with fa:=({ v129.fa with ff:=v131.2 }:Tl) }:Tg) fun v132=>.gl Tg.o v132 s.2.2 fun v133=>.setN Tg.o v132 (s.2.2.toNat) ({ v133 with fa:=({ v133.fa with fw:=v131.1 }:Tl) }:Tg) fun v135=>.gl Tg.o v135 s.2.2 fun v136=>.setN Tg.o v135 (s.2.2.toNat) ({ v136 with fb:=({ v136.fb with fi:=(w1 v131.1) }:Th) }:Tg) fun v138=>.gl Tg.o v138 s.2.2 fun v139=>.setN Tg.o v138 (s.2.2.toNat) ({ v139 with fb:=({ v139.fb with faj:=(w1 (w1 v131.1)) }:Th) }:Tg) fun v141=>.gl Tg.o v141 s.2.2 fun v142=>.setN Tg.o v141 (s.2.2.toNat) ({ v142 with fb:=({ v142.fb with fh:=(w1 (w1 (w1 v131.1))) }:Th) }:Tg) fun v144=>.gl Tg.o v144 s.2.2 fun v145=>.setN Tg.o v144 (s.2.2.toNat) ({ v145 with fb:=({ v145.fb with fN:=(w1 (w1 (w1 (w1 v131.1)))) }:Th) }:Tg) fun v147=>.guard (0<=s.2.2/\(s.2.2:Int)<(((v147.map Tg.o).length - 0:Nat):Int)) inferInstance<|.lookB Tg.o v147 (s.2.2.toNat) fun v148=>.lkY Tg.o v147 (s.2.2.toNat) v148<|.ob ((v148.fb.fc.map (V.int .i64)).length=List.length ((v148.fb.fc.map (V.int .i64))))<|.lkY Tg.o v147 (s.2.2.toNat) v148<|.lkY Tg.o v147 (s.2.2.toNat) v148<|.sk<|.call (zwe v148.fb.fc (w1 (w1 (w1 (w1 (w1 v131.1)))))) fun(v150:Int×List Int)=>.hs Tg.o v147 (s.2.2.toNat) (.agg [.int .i64 v148.fj,.int .i64 v148.fae,.int .i64 v148.fe,.int .i64 v148.fa.fi,.int .i64 v148.fa.fh,.int .i64 v148.fa.fN,.own 1 (v148.fa.fc.map (V.int .i64)),.own 1 (v148.fa.ff.map V.bool),.int .i64 v148.fa.fw,.int .i64 v148.fb.fi,.int .i64 v148.fb.faj,.int .i64 v148.fb.fh,.int .i64 v148.fb.fN,.gone,.own 1 (v148.fb.ff.map V.bool)]) ({ v148 with fb:=({ v148.fb with fc:=v150.2 }:Th) }:Tg) fun v151=>.guard (0<=s.2.2/\(s.2.2:Int)<(((v151.map Tg.o).length - 0:Nat):Int)) inferInstance<|.lookB Tg.o v151 (s.2.2.toNat) fun v152=>.lkY Tg.o v151 (s.2.2.toNat) v152<|.ob ((v152.fb.ff.map V.bool).length=List.length ((v152.fb.ff.map V.bool)))<|.lkY Tg.o v151 (s.2.2.toNat) v152<|.lkY Tg.o v151 (s.2.2.toNat) v152<|.sk<|.call (zql v152.fb.ff v150.1) fun(v154:Int×List Bool)=>.hs Tg.o v151 (s.2.2.toNat) (.agg [.int .i64 v152.fj,.int .i64 v152.fae,.int .i64 v152.fe,.int .i64 v152.fa.fi,.int .i64 v152.fa.fh,.int .i64 v152.fa.fN,.own 1 (v152.fa.fc.map (V.int .i64)),.own 1 (v152.fa.ff.map V.bool),.int .i64 v152.fa.fw,.int .i64 v152.fb.fi,.int .i64 v152.fb.faj,.int .i64 v152.fb.fh,.int .i64 v152.fb.fN,.own 1 (v152.fb.fc.map (V.int .i64)),.gone]) ({ v152 with fb:=({ v152.fb with ff:=v154.2 }:Th) }:Tg) fun v155=>.lfA (yan) (.inl (v155,v154.1,(w1 s.2.2))))<|.lfA (yan) (.inr (s.1,s.2.1,s.2.2)))) (by kernel_rfl) (fun s=>lB<|bR (gL fun v107=>sN fun v109=>gL fun v110=>sN fun v112=>gL fun v113=>sN fun v115=>gL fun v116=>sN fun v118=>gL fun v119=>sN fun v121=>gL fun v122=>sN fun v124=>gU<|lK fun v125 h126=>lD h126<|⟨rfl,lD h126<|lD h126<|cE zwv fun v127=>hS fun v128=>gU<|lK fun v129 h130=>lD h130<|⟨rfl,lD h130<|lD h130<|cE zw5 fun v131=>hS fun v132=>gL fun v133=>sN fun v135=>gL fun v136=>sN fun v138=>gL fun v139=>sN fun v141=>gL fun v142=>sN fun v144=>gL fun v145=>sN fun v147=>gU<|lK fun v148 h149=>lD h149<|⟨rfl,lD h149<|lD h149<|cE zwv fun v150=>hS fun v151=>gU<|lK fun v152 h153=>lD h153<|⟨rfl,lD h153<|lD h153<|cE zw5 fun v154=>hS fun v155=>rfl⟩⟩⟩⟩)<|rfl) (fun _=>rfl) BIG s)
def yrp:(Int×List Tg)->V×List (List V):=fun r=>(.tup [.int .i64 r.1,.tup [.own 15 (r.2.map Tg.o)]],[])
def yp0 (v1:List Tg) (v2:Int):Option (Int×List Tg):=(zug (v1,v2,0)).bind fun v156=>(some (v156.2.1,v156.1))
def yxn (v1:List Tg) (v2:Int):Ctr:=⟨83,[.own 15 (v1.map Tg.o),.I v2],[[.gone]],Int×List Tg,yp0 v1 v2,yrp⟩
theorem qcq {v1:List Tg} {v2:Int}:(yxn v1 v2).ok tab:=okL_of rfl rfl rfl (.lp (ybc (v1,v2,0)) fun(v156:List Tg×Int×Int)=>.segA Tg.o v156.1<|.lfA yrp (v156.2.1,v156.1):Tree (Int×List Tg) _) (by kernel_rfl) (lP yk9 fun v156=>sA<|rfl)
def yu1:(Int×To)->V×List (List V):=fun r=>(.tup [.int .i64 r.1,.tup [r.2.o]],[])
def yom (v1:To) (v2:Int):Option (Int×To):=(ypi v1.fF v2).bind fun v3=>((yn6 v1.fag v3.1).bind fun v4=>((yok v1.faf v4.1).bind fun v5=>((yoc v1.fah v5.1).bind fun v6=>((yp0 v1.fai v6.1).bind fun v7=>(if ((v1.fF.fp.fd.map Tb.i).length)<=(v3.2.fp.fd.map Tb.i).length then(if ((v1.fF.fq.fr.map Td.o).length)<=(v3.2.fq.fr.map Td.o).length then(if ((v1.fF.ft.map Tc.o).length)<=(v3.2.ft.map Tc.o).length then(if ((v1.fag.map Ta.o).length)<=(v4.2.map Ta.o).length then(if ((v1.faf.map Tf.o).length)<=(v5.2.map Tf.o).length then(if ((v1.fah.map Te.o).length)<=(v6.2.map Te.o).length then(if ((v1.fai.map Tg.o).length)<=(v7.2.map Tg.o).length then(some (v7.1,(⟨({ v1.fF with fp:=({ v1.fF.fp with fd:=((v3.2.fp.fd.take ((v1.fF.fp.fd.map Tb.i).length)).drop 0) }:Tk),fq:=(⟨v1.fF.fq.fao,((v3.2.fq.fr.take ((v1.fF.fq.fr.map Td.o).length)).drop 0)⟩:Tp),ft:=((v3.2.ft.take ((v1.fF.ft.map Tc.o).length)).drop 0) }:Tn),((v4.2.take ((v1.fag.map Ta.o).length)).drop 0),((v5.2.take ((v1.faf.map Tf.o).length)).drop 0),((v6.2.take ((v1.fah.map Te.o).length)).drop 0),((v7.2.take ((v1.fai.map Tg.o).length)).drop 0)⟩:To))) else none) else none) else none) else none) else none) else none) else none)))))
def yrn (v1:To) (v2:Int):Ctr:=⟨22,[v1.o,.I v2],[[.gone]],Int×To,yom v1 v2,yu1⟩
theorem yy1 {v1:To} {v2:Int}:(yrn v1 v2).ok tab:=okL_of rfl rfl rfl (.segA Tb.i v1.fF.fp.fd<|.segA Td.o v1.fF.fq.fr<|.segA Tc.o v1.fF.ft<|.segA Ta.o v1.fag<|.segA Tf.o v1.faf<|.segA Te.o v1.fah<|.segA Tg.o v1.fai<|.ob ((v1.fF.fp.fd.map Tb.i).length=List.length ((v1.fF.fp.fd.map Tb.i)))<|.ob ((v1.fF.fq.fr.map Td.o).length=List.length ((v1.fF.fq.fr.map Td.o)))<|.ob ((v1.fF.ft.map Tc.o).length=List.length ((v1.fF.ft.map Tc.o)))<|.call (yse v1.fF v2) fun(v3:Int×Tn)=>.ob ((v1.fag.map Ta.o).length=List.length ((v1.fag.map Ta.o)))<|.call (yq0 v1.fag v3.1) fun(v4:Int×List Ta)=>.ob ((v1.faf.map Tf.o).length=List.length ((v1.faf.map Tf.o)))<|.call (yxa v1.faf v4.1) fun(v5:Int×List Tf)=>.ob ((v1.fah.map Te.o).length=List.length ((v1.fah.map Te.o)))<|.call (yt0 v1.fah v5.1) fun(v6:Int×List Te)=>.ob ((v1.fai.map Tg.o).length=List.length ((v1.fai.map Tg.o)))<|.call (yxn v1.fai v6.1) fun(v7:Int×List Tg)=>.segB Tb.i v3.2.fp.fd 0 ((v1.fF.fp.fd.map Tb.i).length)<|.segB Td.o v3.2.fq.fr 0 ((v1.fF.fq.fr.map Td.o).length)<|.segB Tc.o v3.2.ft 0 ((v1.fF.ft.map Tc.o).length)<|.segB Ta.o v4.2 0 ((v1.fag.map Ta.o).length)<|.segB Tf.o v5.2 0 ((v1.faf.map Tf.o).length)<|.segB Te.o v6.2 0 ((v1.fah.map Te.o).length)<|.segB Tg.o v7.2 0 ((v1.fai.map Tg.o).length)<|.lfA yu1 (v7.1,(⟨({ v1.fF with fp:=({ v1.fF.fp with fd:=((v3.2.fp.fd.take ((v1.fF.fp.fd.map Tb.i).length)).drop 0) }:Tk),fq:=(⟨v1.fF.fq.fao,((v3.2.fq.fr.take ((v1.fF.fq.fr.map Td.o).length)).drop 0)⟩:Tp),ft:=((v3.2.ft.take ((v1.fF.ft.map Tc.o).length)).drop 0) }:Tn),((v4.2.take ((v1.fag.map Ta.o).length)).drop 0),((v5.2.take ((v1.faf.map Tf.o).length)).drop 0),((v6.2.take ((v1.fah.map Te.o).length)).drop 0),((v7.2.take ((v1.fai.map Tg.o).length)).drop 0)⟩:To)):Tree (Int×To) _) (by kernel_rfl) (sA<|sA<|sA<|sA<|sA<|sA<|sA<|⟨rfl,⟨rfl,⟨rfl,cE qcw fun v3=>⟨rfl,cE yvi fun v4=>⟨rfl,cE qbb fun v5=>⟨rfl,cE qdx fun v6=>⟨rfl,cE qcq fun v7=>fun h8=>⟨zd1 _ _ _ h8,fun h9=>⟨zd1 _ _ _ h9,fun h10=>⟨zd1 _ _ _ h10,fun h11=>⟨zd1 _ _ _ h11,fun h12=>⟨zd1 _ _ _ h12,fun h13=>⟨zd1 _ _ _ h13,fun h14=>⟨zd1 _ _ _ h14,rfl⟩⟩⟩⟩⟩⟩⟩⟩⟩⟩⟩⟩⟩⟩)
def zrf (v1:List Tb) (k:Int) (s:Int):St:=⟨sv 12 [(0,.imm 7 (v1.map Tb.i)),(1,.I s),(3,.I k)],[]⟩
def znm (v1:List Tb):(Int×Int×Bool×V×V×V×V×V×V)->Ex×St:=fun p=>(.ret,⟨sv 12 [(0,.imm 7 (v1.map Tb.i)),(1,.I p.1),(2,.I (-1)),(3,.I p.2.1),(4,.bool true),(5,.bool p.2.2.1),(6,p.2.2.2.1),(7,p.2.2.2.2.1),(8,p.2.2.2.2.2.1),(9,p.2.2.2.2.2.2.1),(10,p.2.2.2.2.2.2.2.1),(11,p.2.2.2.2.2.2.2.2)],[]⟩)
def zm6 (v1:List Tb):Int->Ex×St:=fun p=>((.exit 0),⟨sv 12 [(0,.imm 7 (v1.map Tb.i)),(1,.I p),(3,.I (v1.length:Int)),(4,.bool false)],[]⟩)
def zei (v1:List Tb) (k:Int):=zc0 (zrf v1 k) (Sum.elim (znm v1) (zm6 v1))
def zrc (v1:List Tb) (k:Int) (x:Tb) (s:Int):Option ((Int)⊕((Int×Int×Bool×V×V×V×V×V×V)⊕Int)):=bif decide (x.fe≠s) then(some (.inr (.inl (s,k,true,gn,gn,gn,gn,gn,gn)))) else(bif decide (x.fap≠(w1 s)) then(some (.inr (.inl ((w1 s),k,false,bt,gn,gn,gn,gn,gn)))) else(bif decide (x.fac≠(w1 (w1 s))) then(some (.inr (.inl ((w1 (w1 s)),k,false,bf,bt,gn,gn,gn,gn)))) else(bif decide (x.fad≠(w1 (w1 (w1 s)))) then(some (.inr (.inl ((w1 (w1 (w1 s))),k,false,bf,bf,bt,gn,gn,gn)))) else(bif decide (x.fj≠(w1 (w1 (w1 (w1 s))))) then(some (.inr (.inl ((w1 (w1 (w1 (w1 s)))),k,false,bf,bf,bf,bt,gn,gn)))) else(bif decide (x.fas≠(w1 (w1 (w1 (w1 (w1 s)))))) then(some (.inr (.inl ((w1 (w1 (w1 (w1 (w1 s))))),k,false,bf,bf,bf,bf,bt,gn)))) else(bif decide (x.fam≠(w1 (w1 (w1 (w1 (w1 (w1 s))))))) then(some (.inr (.inl ((w1 (w1 (w1 (w1 (w1 (w1 s)))))),k,false,bf,bf,bf,bf,bf,bt)))) else(some (.inl (w1 (w1 (w1 (w1 (w1 (w1 (w1 s)))))))))))))))
def yac (v1:List Tb) (s:Int):Option ((Int×Int×Bool×V×V×V×V×V×V)⊕Int):=some ((.inr s))
def zrd (v1:List Tb) (s:Int):Option ((Int×Int×Bool×V×V×V×V×V×V)⊕Int):=if v1.length<=9223372036854775806 then zah (zrc v1) (yac v1) v1 0 s else none
def ybu (v1:List Tb) (s:Int):Lc2:=⟨12,ygk,0,[2,4,5,6,7,8,9,10,11],some (zrf v1 0 s),Int×Int×Bool×V×V×V×V×V×V,Int,zrd v1 s,znm v1,zm6 v1⟩
theorem ykk {v1:List Tb} {s:Int}:(ybu v1 s).ok tab:=zb2 (list_oky (J:=zrf v1) (o:=(Sum.elim (znm v1) (zm6 v1))) v1 (B:=fun k x s=>(.hT Tb.i v1 k<|.kx Tb.i v1 k x<|.br (decide (x.fe≠s)) (.lfA (zei v1 (w1 k)) (.inr (.inl (s,k,true,gn,gn,gn,gn,gn,gn))))<|.kx Tb.i v1 k x<|.br (decide (x.fap≠(w1 s))) (.lfA (zei v1 (w1 k)) (.inr (.inl ((w1 s),k,false,bt,gn,gn,gn,gn,gn))))<|.kx Tb.i v1 k x<|.br (decide (x.fac≠(w1 (w1 s)))) (.lfA (zei v1 (w1 k)) (.inr (.inl ((w1 (w1 s)),k,false,bf,bt,gn,gn,gn,gn))))<|.kx Tb.i v1 k x<|.br (decide (x.fad≠(w1 (w1 (w1 s))))) (.lfA (zei v1 (w1 k)) (.inr (.inl ((w1 (w1 (w1 s))),k,false,bf,bf,bt,gn,gn,gn))))<|.kx Tb.i v1 k x<|.br (decide (x.fj≠(w1 (w1 (w1 (w1 s)))))) (.lfA (zei v1 (w1 k)) (.inr (.inl ((w1 (w1 (w1 (w1 s)))),k,false,bf,bf,bf,bt,gn,gn))))<|.kx Tb.i v1 k x<|.br (decide (x.fas≠(w1 (w1 (w1 (w1 (w1 s))))))) (.lfA (zei v1 (w1 k)) (.inr (.inl ((w1 (w1 (w1 (w1 (w1 s))))),k,false,bf,bf,bf,bf,bt,gn))))<|.kx Tb.i v1 k x<|.br (decide (x.fam≠(w1 (w1 (w1 (w1 (w1 (w1 s)))))))) (.lfA (zei v1 (w1 k)) (.inr (.inl ((w1 (w1 (w1 (w1 (w1 (w1 s)))))),k,false,bf,bf,bf,bf,bf,bt))))<|.lfA (zei v1 (w1 k)) (.inl (w1 (w1 (w1 (w1 (w1 (w1 (w1 s)))))))))) (E:=fun s=>(.hE Tb.i v1<|.lfA (zei v1 0) (.inr (.inr s)))) (by kernel_rfl) (fun d x t s he=>hD he<|kX he<|bR rfl<|kX he<|bR rfl<|kX he<|bR rfl<|kX he<|bR rfl<|kX he<|bR rfl<|kX he<|bR rfl<|kX he<|bR rfl<|rfl) (ho2 (fun _=>rfl) fun _=>rfl) (fun s=>hZ rfl) s)
def ynh (v1:List Tb) (v2:Int):Option Int:=(zrd v1 v2).bind (zd2 (fun (v33:Int×Int×Bool×V×V×V×V×V×V)=>(some (-1))) (fun (v34:Int)=>(some v34)))
def yw9 (v1:List Tb) (v2:Int):Ctr:=⟨194,[.imm 7 (v1.map Tb.i),.I v2],[],Int,ynh v1 v2,rI⟩
theorem yy2 {v1:List Tb} {v2:Int}:(yw9 v1 v2).okF tab:=okF_of rfl rfl (.lp2 (ybu v1 v2) (fun (v33:Int×Int×Bool×V×V×V×V×V×V)=>.lfA rI (-1)) (fun (v34:Int)=>.lfA rI v34):Tree Int _) (by kernel_rfl) (lQ ykk (fun v33=>rfl) (fun v34=>rfl))
def ypt (v1:Tk) (v2:Int):Option Int:=(ynh v1.fd v2).bind fun v3=>(bif decide (v3<0) then(some (-1)) else(some v3))
def yvt (v1:Tk) (v2:Int):Ctr:=⟨112,[v1.i,.I v2],[],Int,ypt v1 v2,rI⟩
theorem qcy {v1:Tk} {v2:Int}:(yvt v1 v2).okF tab:=okF_of rfl rfl (.callF (yw9 v1.fd v2) fun(v3:Int)=>.br (decide (v3<0)) (.lfA rI (-1))<|.lfA rI v3:Tree Int _) (by kernel_rfl) (cF yy2 fun v3=>bR rfl<|rfl)
def zud (v1:List Int) (k:Int) (s:Int):St:=⟨sv 6 [(0,.imm 1 (v1.map (V.int .i64))),(1,.I s),(3,.I k)],[]⟩
def zos (v1:List Int):(Int×Int)->Ex×St:=fun p=>(.ret,⟨sv 6 [(0,.imm 1 (v1.map (V.int .i64))),(1,.I p.1),(2,.I (-1)),(3,.I p.2),(4,.bool true),(5,.bool true)],[]⟩)
def zle (v1:List Int):Int->Ex×St:=fun p=>((.exit 0),⟨sv 6 [(0,.imm 1 (v1.map (V.int .i64))),(1,.I p),(3,.I (v1.length:Int)),(4,.bool false)],[]⟩)
def zv6 (v1:List Int) (k:Int):=zc0 (zud v1 k) (Sum.elim (zos v1) (zle v1))
def ztn (v1:List Int) (k:Int) (x:Int) (s:Int):Option ((Int)⊕((Int×Int)⊕Int)):=bif decide (x≠s) then(some (.inr (.inl (s,k)))) else(some (.inl (w1 s)))
def ycs (v1:List Int) (s:Int):Option ((Int×Int)⊕Int):=some ((.inr s))
def zuv (v1:List Int) (s:Int):Option ((Int×Int)⊕Int):=if v1.length<=9223372036854775806 then zah (ztn v1) (ycs v1) v1 0 s else none
def zyq (v1:List Int) (s:Int):Lc2:=⟨6,ygi,0,[2,4,5],some (zud v1 0 s),Int×Int,Int,zuv v1 s,zos v1,zle v1⟩
theorem yj9 {v1:List Int} {s:Int}:(zyq v1 s).ok tab:=zb2 (list_oky (J:=zud v1) (o:=(Sum.elim (zos v1) (zle v1))) v1 (B:=fun k x s=>(.hT (V.int .i64) v1 k<|.kx (V.int .i64) v1 k x<|.br (decide (x≠s)) (.lfA (zv6 v1 (w1 k)) (.inr (.inl (s,k))))<|.lfA (zv6 v1 (w1 k)) (.inl (w1 s)))) (E:=fun s=>(.hE (V.int .i64) v1<|.lfA (zv6 v1 0) (.inr (.inr s)))) (by kernel_rfl) (fun d x t s he=>hD he<|kX he<|bR rfl<|rfl) (ho2 (fun _=>rfl) fun _=>rfl) (fun s=>hZ rfl) s)
def zqi (v1:List Int) (v2:Int):Option Int:=(zuv v1 v2).bind (zd2 (fun (v15:Int×Int)=>(some (-1))) (fun (v16:Int)=>(some v16)))
def zwa (v1:List Int) (v2:Int):Ctr:=⟨24,[.imm 1 (v1.map (V.int .i64)),.I v2],[],Int,zqi v1 v2,rI⟩
theorem zwz {v1:List Int} {v2:Int}:(zwa v1 v2).okF tab:=okF_of rfl rfl (.lp2 (zyq v1 v2) (fun (v15:Int×Int)=>.lfA rI (-1)) (fun (v16:Int)=>.lfA rI v16):Tree Int _) (by kernel_rfl) (lQ yj9 (fun v15=>rfl) (fun v16=>rfl))
def zs9 (v1:List Bool) (k:Int) (s:Int):St:=⟨sv 6 [(0,.imm 1 (v1.map V.bool)),(1,.I s),(3,.I k)],[]⟩
def zp1 (v1:List Bool):(Int×Int)->Ex×St:=fun p=>(.ret,⟨sv 6 [(0,.imm 1 (v1.map V.bool)),(1,.I p.1),(2,.I (-1)),(3,.I p.2),(4,.bool true),(5,.bool true)],[]⟩)
def zok (v1:List Bool):Int->Ex×St:=fun p=>((.exit 0),⟨sv 6 [(0,.imm 1 (v1.map V.bool)),(1,.I p),(3,.I (v1.length:Int)),(4,.bool false)],[]⟩)
def zuy (v1:List Bool) (k:Int):=zc0 (zs9 v1 k) (Sum.elim (zp1 v1) (zok v1))
def ztt (v1:List Bool) (k:Int) (x:Bool) (s:Int):Option ((Int)⊕((Int×Int)⊕Int)):=bif true ^^ (x == (decide ((s.tmod 3)=0))) then(some (.inr (.inl (s,k)))) else(some (.inl (w1 s)))
def yb8 (v1:List Bool) (s:Int):Option ((Int×Int)⊕Int):=some ((.inr s))
def zu4 (v1:List Bool) (s:Int):Option ((Int×Int)⊕Int):=if v1.length<=9223372036854775806 then zah (ztt v1) (yb8 v1) v1 0 s else none
def ybs (v1:List Bool) (s:Int):Lc2:=⟨6,ygf,0,[2,4,5],some (zs9 v1 0 s),Int×Int,Int,zu4 v1 s,zp1 v1,zok v1⟩
theorem yiw {v1:List Bool} {s:Int}:(ybs v1 s).ok tab:=zb2 (list_oky (J:=zs9 v1) (o:=(Sum.elim (zp1 v1) (zok v1))) v1 (B:=fun k x s=>(.hT V.bool v1 k<|.kx V.bool v1 k x<|.sk<|.br (true ^^ (x == (decide ((s.tmod 3)=0)))) (.lfA (zuy v1 (w1 k)) (.inr (.inl (s,k))))<|.lfA (zuy v1 (w1 k)) (.inl (w1 s)))) (E:=fun s=>(.hE V.bool v1<|.lfA (zuy v1 0) (.inr (.inr s)))) (by kernel_rfl) (fun d x t s he=>hD he<|kX he<|bR rfl<|rfl) (ho2 (fun _=>rfl) fun _=>rfl) (fun s=>hZ rfl) s)
def zp8 (v1:List Bool) (v2:Int):Option Int:=(zu4 v1 v2).bind (zd2 (fun (v15:Int×Int)=>(some (-1))) (fun (v16:Int)=>(some v16)))
def zsd (v1:List Bool) (v2:Int):Ctr:=⟨127,[.imm 1 (v1.map V.bool),.I v2],[],Int,zp8 v1 v2,rI⟩
theorem zwk {v1:List Bool} {v2:Int}:(zsd v1 v2).okF tab:=okF_of rfl rfl (.lp2 (ybs v1 v2) (fun (v15:Int×Int)=>.lfA rI (-1)) (fun (v16:Int)=>.lfA rI v16):Tree Int _) (by kernel_rfl) (lQ yiw (fun v15=>rfl) (fun v16=>rfl))
def zs6 (v1:List Tj) (k:Int) (s:Int):St:=⟨sv 13 [(0,.imm 8 (v1.map Tj.i)),(1,.I s),(3,.I k)],[]⟩
def zlo (v1:List Tj):(Int×Int×Bool×V×V×V×V×V×V×V)->Ex×St:=fun p=>(.ret,⟨sv 13 [(0,.imm 8 (v1.map Tj.i)),(1,.I p.1),(2,.I (-1)),(3,.I p.2.1),(4,.bool true),(5,.bool p.2.2.1),(6,p.2.2.2.1),(7,p.2.2.2.2.1),(8,p.2.2.2.2.2.1),(9,p.2.2.2.2.2.2.1),(10,p.2.2.2.2.2.2.2.1),(11,p.2.2.2.2.2.2.2.2.1),(12,p.2.2.2.2.2.2.2.2.2)],[]⟩)
def zow (v1:List Tj):Int->Ex×St:=fun p=>((.exit 0),⟨sv 13 [(0,.imm 8 (v1.map Tj.i)),(1,.I p),(3,.I (v1.length:Int)),(4,.bool false)],[]⟩)
def zdu (v1:List Tj) (k:Int):=zc0 (zs6 v1 k) (Sum.elim (zlo v1) (zow v1))
def zqq (v1:List Tj) (k:Int) (x:Tj) (s:Int):Option ((Int)⊕((Int×Int×Bool×V×V×V×V×V×V×V)⊕Int)):=bif decide (x.fj≠s) then(some (.inr (.inl (s,k,true,gn,gn,gn,gn,gn,gn,gn)))) else(bif decide (x.fe≠(w1 s)) then(some (.inr (.inl ((w1 s),k,false,bt,gn,gn,gn,gn,gn,gn)))) else(bif decide (x.fa.fi≠(w1 (w1 s))) then(some (.inr (.inl ((w1 (w1 s)),k,false,bf,bt,gn,gn,gn,gn,gn)))) else(bif decide (x.fa.fh≠(w1 (w1 (w1 s)))) then(some (.inr (.inl ((w1 (w1 (w1 s))),k,false,bf,bf,bt,gn,gn,gn,gn)))) else(bif decide (x.fa.fN≠(w1 (w1 (w1 (w1 s))))) then(some (.inr (.inl ((w1 (w1 (w1 (w1 s)))),k,false,bf,bf,bf,bt,gn,gn,gn)))) else((zqi x.fa.fc (w1 (w1 (w1 (w1 (w1 s)))))).bind fun v41=>(bif decide (v41<0) then(some (.inr (.inl (v41,k,false,bf,bf,bf,bf,bt,gn,gn)))) else((zp8 x.fa.ff v41).bind fun v44=>(bif decide (v44<0) then(some (.inr (.inl (v44,k,false,bf,bf,bf,bf,bf,bt,gn)))) else(bif decide (x.fa.fw≠v44) then(some (.inr (.inl (v44,k,false,bf,bf,bf,bf,bf,bf,bt)))) else(some (.inl (w1 v44))))))))))))
def ych (v1:List Tj) (s:Int):Option ((Int×Int×Bool×V×V×V×V×V×V×V)⊕Int):=some ((.inr s))
def zs5 (v1:List Tj) (s:Int):Option ((Int×Int×Bool×V×V×V×V×V×V×V)⊕Int):=if v1.length<=9223372036854775806 then zah (zqq v1) (ych v1) v1 0 s else none
def yc9 (v1:List Tj) (s:Int):Lc2:=⟨13,yh1,0,[2,4,5,6,7,8,9,10,11,12],some (zs6 v1 0 s),Int×Int×Bool×V×V×V×V×V×V×V,Int,zs5 v1 s,zlo v1,zow v1⟩
theorem yjl {v1:List Tj} {s:Int}:(yc9 v1 s).ok tab:=zb2 (list_oky (J:=zs6 v1) (o:=(Sum.elim (zlo v1) (zow v1))) v1 (B:=fun k x s=>(.hT Tj.i v1 k<|.kx Tj.i v1 k x<|.br (decide (x.fj≠s)) (.lfA (zdu v1 (w1 k)) (.inr (.inl (s,k,true,gn,gn,gn,gn,gn,gn,gn))))<|.kx Tj.i v1 k x<|.br (decide (x.fe≠(w1 s))) (.lfA (zdu v1 (w1 k)) (.inr (.inl ((w1 s),k,false,bt,gn,gn,gn,gn,gn,gn))))<|.kx Tj.i v1 k x<|.br (decide (x.fa.fi≠(w1 (w1 s)))) (.lfA (zdu v1 (w1 k)) (.inr (.inl ((w1 (w1 s)),k,false,bf,bt,gn,gn,gn,gn,gn))))<|.kx Tj.i v1 k x<|.br (decide (x.fa.fh≠(w1 (w1 (w1 s))))) (.lfA (zdu v1 (w1 k)) (.inr (.inl ((w1 (w1 (w1 s))),k,false,bf,bf,bt,gn,gn,gn,gn))))<|.kx Tj.i v1 k x<|.br (decide (x.fa.fN≠(w1 (w1 (w1 (w1 s)))))) (.lfA (zdu v1 (w1 k)) (.inr (.inl ((w1 (w1 (w1 (w1 s)))),k,false,bf,bf,bf,bt,gn,gn,gn))))<|.kx Tj.i v1 k x<|.callF (zwa x.fa.fc (w1 (w1 (w1 (w1 (w1 s)))))) fun(v41:Int)=>.br (decide (v41<0)) (.lfA (zdu v1 (w1 k)) (.inr (.inl (v41,k,false,bf,bf,bf,bf,bt,gn,gn))))<|.kx Tj.i v1 k x<|.callF (zsd x.fa.ff v41) fun(v44:Int)=>.br (decide (v44<0)) (.lfA (zdu v1 (w1 k)) (.inr (.inl (v44,k,false,bf,bf,bf,bf,bf,bt,gn))))<|.kx Tj.i v1 k x<|.br (decide (x.fa.fw≠v44)) (.lfA (zdu v1 (w1 k)) (.inr (.inl (v44,k,false,bf,bf,bf,bf,bf,bf,bt))))<|.lfA (zdu v1 (w1 k)) (.inl (w1 v44)))) (E:=fun s=>(.hE Tj.i v1<|.lfA (zdu v1 0) (.inr (.inr s)))) (by kernel_rfl) (fun d x t s he=>hD he<|kX he<|bR rfl<|kX he<|bR rfl<|kX he<|bR rfl<|kX he<|bR rfl<|kX he<|bR rfl<|kX he<|cF zwz fun v41=>bR rfl<|kX he<|cF zwk fun v44=>bR rfl<|kX he<|bR rfl<|rfl) (ho2 (fun _=>rfl) fun _=>rfl) (fun s=>hZ rfl) s)
def ymi (v1:List Tj) (v2:Int):Option Int:=(zs5 v1 v2).bind (zd2 (fun (v48:Int×Int×Bool×V×V×V×V×V×V×V)=>(some (-1))) (fun (v49:Int)=>(some v49)))
def yqu (v1:List Tj) (v2:Int):Ctr:=⟨128,[.imm 8 (v1.map Tj.i),.I v2],[],Int,ymi v1 v2,rI⟩
theorem yre {v1:List Tj} {v2:Int}:(yqu v1 v2).okF tab:=okF_of rfl rfl (.lp2 (yc9 v1 v2) (fun (v48:Int×Int×Bool×V×V×V×V×V×V×V)=>.lfA rI (-1)) (fun (v49:Int)=>.lfA rI v49):Tree Int _) (by kernel_rfl) (lQ yjl (fun v48=>rfl) (fun v49=>rfl))
def zv9 (v1:List Th) (k:Int) (s:Int):St:=⟨sv 11 [(0,.imm 6 (v1.map Th.i)),(1,.I s),(3,.I k)],[]⟩
def zlc (v1:List Th):(Int×Int×Bool×V×V×V×V×V)->Ex×St:=fun p=>(.ret,⟨sv 11 [(0,.imm 6 (v1.map Th.i)),(1,.I p.1),(2,.I (-1)),(3,.I p.2.1),(4,.bool true),(5,.bool p.2.2.1),(6,p.2.2.2.1),(7,p.2.2.2.2.1),(8,p.2.2.2.2.2.1),(9,p.2.2.2.2.2.2.1),(10,p.2.2.2.2.2.2.2)],[]⟩)
def zls (v1:List Th):Int->Ex×St:=fun p=>((.exit 0),⟨sv 11 [(0,.imm 6 (v1.map Th.i)),(1,.I p),(3,.I (v1.length:Int)),(4,.bool false)],[]⟩)
def zex (v1:List Th) (k:Int):=zc0 (zv9 v1 k) (Sum.elim (zlc v1) (zls v1))
def ztx (v1:List Th) (k:Int) (x:Th) (s:Int):Option ((Int)⊕((Int×Int×Bool×V×V×V×V×V)⊕Int)):=bif decide (x.fi≠s) then(some (.inr (.inl (s,k,true,gn,gn,gn,gn,gn)))) else(bif decide (x.faj≠(w1 s)) then(some (.inr (.inl ((w1 s),k,false,bt,gn,gn,gn,gn)))) else(bif decide (x.fh≠(w1 (w1 s))) then(some (.inr (.inl ((w1 (w1 s)),k,false,bf,bt,gn,gn,gn)))) else(bif decide (x.fN≠(w1 (w1 (w1 s)))) then(some (.inr (.inl ((w1 (w1 (w1 s))),k,false,bf,bf,bt,gn,gn)))) else((zqi x.fc (w1 (w1 (w1 (w1 s))))).bind fun v36=>(bif decide (v36<0) then(some (.inr (.inl (v36,k,false,bf,bf,bf,bt,gn)))) else((zp8 x.ff v36).bind fun v39=>(bif decide (v39<0) then(some (.inr (.inl (v39,k,false,bf,bf,bf,bf,bt)))) else(some (.inl v39)))))))))
def yaa (v1:List Th) (s:Int):Option ((Int×Int×Bool×V×V×V×V×V)⊕Int):=some ((.inr s))
def zv3 (v1:List Th) (s:Int):Option ((Int×Int×Bool×V×V×V×V×V)⊕Int):=if v1.length<=9223372036854775806 then zah (ztx v1) (yaa v1) v1 0 s else none
def zzq (v1:List Th) (s:Int):Lc2:=⟨11,ygy,0,[2,4,5,6,7,8,9,10],some (zv9 v1 0 s),Int×Int×Bool×V×V×V×V×V,Int,zv3 v1 s,zlc v1,zls v1⟩
theorem yip {v1:List Th} {s:Int}:(zzq v1 s).ok tab:=zb2 (list_oky (J:=zv9 v1) (o:=(Sum.elim (zlc v1) (zls v1))) v1 (B:=fun k x s=>(.hT Th.i v1 k<|.kx Th.i v1 k x<|.br (decide (x.fi≠s)) (.lfA (zex v1 (w1 k)) (.inr (.inl (s,k,true,gn,gn,gn,gn,gn))))<|.kx Th.i v1 k x<|.br (decide (x.faj≠(w1 s))) (.lfA (zex v1 (w1 k)) (.inr (.inl ((w1 s),k,false,bt,gn,gn,gn,gn))))<|.kx Th.i v1 k x<|.br (decide (x.fh≠(w1 (w1 s)))) (.lfA (zex v1 (w1 k)) (.inr (.inl ((w1 (w1 s)),k,false,bf,bt,gn,gn,gn))))<|.kx Th.i v1 k x<|.br (decide (x.fN≠(w1 (w1 (w1 s))))) (.lfA (zex v1 (w1 k)) (.inr (.inl ((w1 (w1 (w1 s))),k,false,bf,bf,bt,gn,gn))))<|.kx Th.i v1 k x<|.callF (zwa x.fc (w1 (w1 (w1 (w1 s))))) fun(v36:Int)=>.br (decide (v36<0)) (.lfA (zex v1 (w1 k)) (.inr (.inl (v36,k,false,bf,bf,bf,bt,gn))))<|.kx Th.i v1 k x<|.callF (zsd x.ff v36) fun(v39:Int)=>.br (decide (v39<0)) (.lfA (zex v1 (w1 k)) (.inr (.inl (v39,k,false,bf,bf,bf,bf,bt))))<|.lfA (zex v1 (w1 k)) (.inl v39))) (E:=fun s=>(.hE Th.i v1<|.lfA (zex v1 0) (.inr (.inr s)))) (by kernel_rfl) (fun d x t s he=>hD he<|kX he<|bR rfl<|kX he<|bR rfl<|kX he<|bR rfl<|kX he<|bR rfl<|kX he<|cF zwz fun v36=>bR rfl<|kX he<|cF zwk fun v39=>bR rfl<|rfl) (ho2 (fun _=>rfl) fun _=>rfl) (fun s=>hZ rfl) s)
def ync (v1:List Th) (v2:Int):Option Int:=(zv3 v1 v2).bind (zd2 (fun (v42:Int×Int×Bool×V×V×V×V×V)=>(some (-1))) (fun (v43:Int)=>(some v43)))
def yqq (v1:List Th) (v2:Int):Ctr:=⟨129,[.imm 6 (v1.map Th.i),.I v2],[],Int,ync v1 v2,rI⟩
theorem yxv {v1:List Th} {v2:Int}:(yqq v1 v2).okF tab:=okF_of rfl rfl (.lp2 (zzq v1 v2) (fun (v42:Int×Int×Bool×V×V×V×V×V)=>.lfA rI (-1)) (fun (v43:Int)=>.lfA rI v43):Tree Int _) (by kernel_rfl) (lQ yip (fun v42=>rfl) (fun v43=>rfl))
def zva (v1:List Td) (k:Int) (s:Int):St:=⟨sv 18 [(0,.imm 13 (v1.map Td.i)),(1,.I s),(3,.I k)],[]⟩
def znu (v1:List Td):(Int×Int×Bool×V×V×V×V×V×V×V×V×V×V×V×V)->Ex×St:=fun p=>(.ret,⟨sv 18 [(0,.imm 13 (v1.map Td.i)),(1,.I p.1),(2,.I (-1)),(3,.I p.2.1),(4,.bool true),(5,.bool p.2.2.1),(6,p.2.2.2.1),(7,p.2.2.2.2.1),(8,p.2.2.2.2.2.1),(9,p.2.2.2.2.2.2.1),(10,p.2.2.2.2.2.2.2.1),(11,p.2.2.2.2.2.2.2.2.1),(12,p.2.2.2.2.2.2.2.2.2.1),(13,p.2.2.2.2.2.2.2.2.2.2.1),(14,p.2.2.2.2.2.2.2.2.2.2.2.1),(15,p.2.2.2.2.2.2.2.2.2.2.2.2.1),(16,p.2.2.2.2.2.2.2.2.2.2.2.2.2.1),(17,p.2.2.2.2.2.2.2.2.2.2.2.2.2.2)],[]⟩)
def zo1 (v1:List Td):Int->Ex×St:=fun p=>((.exit 0),⟨sv 18 [(0,.imm 13 (v1.map Td.i)),(1,.I p),(3,.I (v1.length:Int)),(4,.bool false)],[]⟩)
def zca (v1:List Td) (k:Int):=zc0 (zva v1 k) (Sum.elim (znu v1) (zo1 v1))
def zvc (v1:List Td) (k:Int) (x:Td) (s:Int):Option ((Int)⊕((Int×Int×Bool×V×V×V×V×V×V×V×V×V×V×V×V)⊕Int)):=bif decide (x.fan≠s) then(some (.inr (.inl (s,k,true,gn,gn,gn,gn,gn,gn,gn,gn,gn,gn,gn,gn)))) else(bif decide (x.faq≠(w1 s)) then(some (.inr (.inl ((w1 s),k,false,bt,gn,gn,gn,gn,gn,gn,gn,gn,gn,gn,gn)))) else(bif decide (x.far≠(w1 (w1 s))) then(some (.inr (.inl ((w1 (w1 s)),k,false,bf,bt,gn,gn,gn,gn,gn,gn,gn,gn,gn,gn)))) else(bif decide (x.fe≠(w1 (w1 (w1 s)))) then(some (.inr (.inl ((w1 (w1 (w1 s))),k,false,bf,bf,bt,gn,gn,gn,gn,gn,gn,gn,gn,gn)))) else(bif decide (x.fa.fi≠(w1 (w1 (w1 (w1 s))))) then(some (.inr (.inl ((w1 (w1 (w1 (w1 s)))),k,false,bf,bf,bf,bt,gn,gn,gn,gn,gn,gn,gn,gn)))) else(bif decide (x.fa.fh≠(w1 (w1 (w1 (w1 (w1 s)))))) then(some (.inr (.inl ((w1 (w1 (w1 (w1 (w1 s))))),k,false,bf,bf,bf,bf,bt,gn,gn,gn,gn,gn,gn,gn)))) else(bif decide (x.fa.fN≠(w1 (w1 (w1 (w1 (w1 (w1 s))))))) then(some (.inr (.inl ((w1 (w1 (w1 (w1 (w1 (w1 s)))))),k,false,bf,bf,bf,bf,bf,bt,gn,gn,gn,gn,gn,gn)))) else((zqi x.fa.fc (w1 (w1 (w1 (w1 (w1 (w1 (w1 s)))))))).bind fun v65=>(bif decide (v65<0) then(some (.inr (.inl (v65,k,false,bf,bf,bf,bf,bf,bf,bt,gn,gn,gn,gn,gn)))) else((zp8 x.fa.ff v65).bind fun v68=>(bif decide (v68<0) then(some (.inr (.inl (v68,k,false,bf,bf,bf,bf,bf,bf,bf,bt,gn,gn,gn,gn)))) else(bif decide (x.fa.fw≠v68) then(some (.inr (.inl (v68,k,false,bf,bf,bf,bf,bf,bf,bf,bf,bt,gn,gn,gn)))) else((ymi x.fak (w1 v68)).bind fun v72=>(bif decide (v72<0) then(some (.inr (.inl (v72,k,false,bf,bf,bf,bf,bf,bf,bf,bf,bf,bt,gn,gn)))) else((zp8 x.fav v72).bind fun v75=>(bif decide (v75<0) then(some (.inr (.inl (v75,k,false,bf,bf,bf,bf,bf,bf,bf,bf,bf,bf,bt,gn)))) else((ync x.fal v75).bind fun v78=>(bif decide (v78<0) then(some (.inr (.inl (v78,k,false,bf,bf,bf,bf,bf,bf,bf,bf,bf,bf,bf,bt)))) else(some (.inl v78)))))))))))))))))))
def ybg (v1:List Td) (s:Int):Option ((Int×Int×Bool×V×V×V×V×V×V×V×V×V×V×V×V)⊕Int):=some ((.inr s))
def zuh (v1:List Td) (s:Int):Option ((Int×Int×Bool×V×V×V×V×V×V×V×V×V×V×V×V)⊕Int):=if v1.length<=9223372036854775806 then zah (zvc v1) (ybg v1) v1 0 s else none
def zyy (v1:List Td) (s:Int):Lc2:=⟨18,yho,0,[2,4,5,6,7,8,9,10,11,12,13,14,15,16,17],some (zva v1 0 s),Int×Int×Bool×V×V×V×V×V×V×V×V×V×V×V×V,Int,zuh v1 s,znu v1,zo1 v1⟩
theorem yjr {v1:List Td} {s:Int}:(zyy v1 s).ok tab:=zb2 (list_oky (J:=zva v1) (o:=(Sum.elim (znu v1) (zo1 v1))) v1 (B:=fun k x s=>(.hT Td.i v1 k<|.kx Td.i v1 k x<|.br (decide (x.fan≠s)) (.lfA (zca v1 (w1 k)) (.inr (.inl (s,k,true,gn,gn,gn,gn,gn,gn,gn,gn,gn,gn,gn,gn))))<|.kx Td.i v1 k x<|.br (decide (x.faq≠(w1 s))) (.lfA (zca v1 (w1 k)) (.inr (.inl ((w1 s),k,false,bt,gn,gn,gn,gn,gn,gn,gn,gn,gn,gn,gn))))<|.kx Td.i v1 k x<|.br (decide (x.far≠(w1 (w1 s)))) (.lfA (zca v1 (w1 k)) (.inr (.inl ((w1 (w1 s)),k,false,bf,bt,gn,gn,gn,gn,gn,gn,gn,gn,gn,gn))))<|.kx Td.i v1 k x<|.br (decide (x.fe≠(w1 (w1 (w1 s))))) (.lfA (zca v1 (w1 k)) (.inr (.inl ((w1 (w1 (w1 s))),k,false,bf,bf,bt,gn,gn,gn,gn,gn,gn,gn,gn,gn))))<|.kx Td.i v1 k x<|.br (decide (x.fa.fi≠(w1 (w1 (w1 (w1 s)))))) (.lfA (zca v1 (w1 k)) (.inr (.inl ((w1 (w1 (w1 (w1 s)))),k,false,bf,bf,bf,bt,gn,gn,gn,gn,gn,gn,gn,gn))))<|.kx Td.i v1 k x<|.br (decide (x.fa.fh≠(w1 (w1 (w1 (w1 (w1 s))))))) (.lfA (zca v1 (w1 k)) (.inr (.inl ((w1 (w1 (w1 (w1 (w1 s))))),k,false,bf,bf,bf,bf,bt,gn,gn,gn,gn,gn,gn,gn))))<|.kx Td.i v1 k x<|.br (decide (x.fa.fN≠(w1 (w1 (w1 (w1 (w1 (w1 s)))))))) (.lfA (zca v1 (w1 k)) (.inr (.inl ((w1 (w1 (w1 (w1 (w1 (w1 s)))))),k,false,bf,bf,bf,bf,bf,bt,gn,gn,gn,gn,gn,gn))))<|.kx Td.i v1 k x<|.callF (zwa x.fa.fc (w1 (w1 (w1 (w1 (w1 (w1 (w1 s)))))))) fun(v65:Int)=>.br (decide (v65<0)) (.lfA (zca v1 (w1 k)) (.inr (.inl (v65,k,false,bf,bf,bf,bf,bf,bf,bt,gn,gn,gn,gn,gn))))<|.kx Td.i v1 k x<|.callF (zsd x.fa.ff v65) fun(v68:Int)=>.br (decide (v68<0)) (.lfA (zca v1 (w1 k)) (.inr (.inl (v68,k,false,bf,bf,bf,bf,bf,bf,bf,bt,gn,gn,gn,gn))))<|.kx Td.i v1 k x<|.br (decide (x.fa.fw≠v68)) (.lfA (zca v1 (w1 k)) (.inr (.inl (v68,k,false,bf,bf,bf,bf,bf,bf,bf,bf,bt,gn,gn,gn))))<|.kx Td.i v1 k x<|.callF (yqu x.fak (w1 v68)) fun(v72:Int)=>.br (decide (v72<0)) (.lfA (zca v1 (w1 k)) (.inr (.inl (v72,k,false,bf,bf,bf,bf,bf,bf,bf,bf,bf,bt,gn,gn))))<|.kx Td.i v1 k x<|.callF (zsd x.fav v72) fun(v75:Int)=>.br (decide (v75<0)) (.lfA (zca v1 (w1 k)) (.inr (.inl (v75,k,false,bf,bf,bf,bf,bf,bf,bf,bf,bf,bf,bt,gn))))<|.kx Td.i v1 k x<|.callF (yqq x.fal v75) fun(v78:Int)=>.br (decide (v78<0)) (.lfA (zca v1 (w1 k)) (.inr (.inl (v78,k,false,bf,bf,bf,bf,bf,bf,bf,bf,bf,bf,bf,bt))))<|.lfA (zca v1 (w1 k)) (.inl v78))) (E:=fun s=>(.hE Td.i v1<|.lfA (zca v1 0) (.inr (.inr s)))) (by kernel_rfl) (fun d x t s he=>hD he<|kX he<|bR rfl<|kX he<|bR rfl<|kX he<|bR rfl<|kX he<|bR rfl<|kX he<|bR rfl<|kX he<|bR rfl<|kX he<|bR rfl<|kX he<|cF zwz fun v65=>bR rfl<|kX he<|cF zwk fun v68=>bR rfl<|kX he<|bR rfl<|kX he<|cF yre fun v72=>bR rfl<|kX he<|cF zwk fun v75=>bR rfl<|kX he<|cF yxv fun v78=>bR rfl<|rfl) (ho2 (fun _=>rfl) fun _=>rfl) (fun s=>hZ rfl) s)
def ypg (v1:List Td) (v2:Int):Option Int:=(zuh v1 v2).bind (zd2 (fun (v81:Int×Int×Bool×V×V×V×V×V×V×V×V×V×V×V×V)=>(some (-1))) (fun (v82:Int)=>(some v82)))
def yrd (v1:List Td) (v2:Int):Ctr:=⟨195,[.imm 13 (v1.map Td.i),.I v2],[],Int,ypg v1 v2,rI⟩
theorem qbp {v1:List Td} {v2:Int}:(yrd v1 v2).okF tab:=okF_of rfl rfl (.lp2 (zyy v1 v2) (fun (v81:Int×Int×Bool×V×V×V×V×V×V×V×V×V×V×V×V)=>.lfA rI (-1)) (fun (v82:Int)=>.lfA rI v82):Tree Int _) (by kernel_rfl) (lQ yjr (fun v81=>rfl) (fun v82=>rfl))
def yqj (v1:Tp) (v2:Int):Option Int:=(ypg v1.fr v2).bind fun v3=>(bif decide (v3<0) then(some (-1)) else(some v3))
def yug (v1:Tp) (v2:Int):Ctr:=⟨113,[v1.i,.I v2],[],Int,yqj v1 v2,rI⟩
theorem qak {v1:Tp} {v2:Int}:(yug v1 v2).okF tab:=okF_of rfl rfl (.callF (yrd v1.fr v2) fun(v3:Int)=>.br (decide (v3<0)) (.lfA rI (-1))<|.lfA rI v3:Tree Int _) (by kernel_rfl) (cF qbp fun v3=>bR rfl<|rfl)
def zt0 (v1:List Ti) (k:Int) (s:Int):St:=⟨sv 14 [(0,.imm 9 (v1.map Ti.i)),(1,.I s),(3,.I k)],[]⟩
def zlt (v1:List Ti):(Int×Int×Bool×V×V×V×V×V×V×V×V)->Ex×St:=fun p=>(.ret,⟨sv 14 [(0,.imm 9 (v1.map Ti.i)),(1,.I p.1),(2,.I (-1)),(3,.I p.2.1),(4,.bool true),(5,.bool p.2.2.1),(6,p.2.2.2.1),(7,p.2.2.2.2.1),(8,p.2.2.2.2.2.1),(9,p.2.2.2.2.2.2.1),(10,p.2.2.2.2.2.2.2.1),(11,p.2.2.2.2.2.2.2.2.1),(12,p.2.2.2.2.2.2.2.2.2.1),(13,p.2.2.2.2.2.2.2.2.2.2)],[]⟩)
def zmd (v1:List Ti):Int->Ex×St:=fun p=>((.exit 0),⟨sv 14 [(0,.imm 9 (v1.map Ti.i)),(1,.I p),(3,.I (v1.length:Int)),(4,.bool false)],[]⟩)
def zdd (v1:List Ti) (k:Int):=zc0 (zt0 v1 k) (Sum.elim (zlt v1) (zmd v1))
def zs4 (v1:List Ti) (k:Int) (x:Ti) (s:Int):Option ((Int)⊕((Int×Int×Bool×V×V×V×V×V×V×V×V)⊕Int)):=bif decide (x.fan≠s) then(some (.inr (.inl (s,k,true,gn,gn,gn,gn,gn,gn,gn,gn)))) else(bif decide (x.fau≠(w1 s)) then(some (.inr (.inl ((w1 s),k,false,bt,gn,gn,gn,gn,gn,gn,gn)))) else(bif decide (x.fe≠(w1 (w1 s))) then(some (.inr (.inl ((w1 (w1 s)),k,false,bf,bt,gn,gn,gn,gn,gn,gn)))) else(bif decide (x.fa.fi≠(w1 (w1 (w1 s)))) then(some (.inr (.inl ((w1 (w1 (w1 s))),k,false,bf,bf,bt,gn,gn,gn,gn,gn)))) else(bif decide (x.fa.fh≠(w1 (w1 (w1 (w1 s))))) then(some (.inr (.inl ((w1 (w1 (w1 (w1 s)))),k,false,bf,bf,bf,bt,gn,gn,gn,gn)))) else(bif decide (x.fa.fN≠(w1 (w1 (w1 (w1 (w1 s)))))) then(some (.inr (.inl ((w1 (w1 (w1 (w1 (w1 s))))),k,false,bf,bf,bf,bf,bt,gn,gn,gn)))) else((zqi x.fa.fc (w1 (w1 (w1 (w1 (w1 (w1 s))))))).bind fun v44=>(bif decide (v44<0) then(some (.inr (.inl (v44,k,false,bf,bf,bf,bf,bf,bt,gn,gn)))) else((zp8 x.fa.ff v44).bind fun v47=>(bif decide (v47<0) then(some (.inr (.inl (v47,k,false,bf,bf,bf,bf,bf,bf,bt,gn)))) else(bif decide (x.fa.fw≠v47) then(some (.inr (.inl (v47,k,false,bf,bf,bf,bf,bf,bf,bf,bt)))) else(some (.inl (w1 v47)))))))))))))
def yag (v1:List Ti) (s:Int):Option ((Int×Int×Bool×V×V×V×V×V×V×V×V)⊕Int):=some ((.inr s))
def zrl (v1:List Ti) (s:Int):Option ((Int×Int×Bool×V×V×V×V×V×V×V×V)⊕Int):=if v1.length<=9223372036854775806 then zah (zs4 v1) (yag v1) v1 0 s else none
def zz7 (v1:List Ti) (s:Int):Lc2:=⟨14,yhq,0,[2,4,5,6,7,8,9,10,11,12,13],some (zt0 v1 0 s),Int×Int×Bool×V×V×V×V×V×V×V×V,Int,zrl v1 s,zlt v1,zmd v1⟩
theorem yik {v1:List Ti} {s:Int}:(zz7 v1 s).ok tab:=zb2 (list_oky (J:=zt0 v1) (o:=(Sum.elim (zlt v1) (zmd v1))) v1 (B:=fun k x s=>(.hT Ti.i v1 k<|.kx Ti.i v1 k x<|.br (decide (x.fan≠s)) (.lfA (zdd v1 (w1 k)) (.inr (.inl (s,k,true,gn,gn,gn,gn,gn,gn,gn,gn))))<|.kx Ti.i v1 k x<|.br (decide (x.fau≠(w1 s))) (.lfA (zdd v1 (w1 k)) (.inr (.inl ((w1 s),k,false,bt,gn,gn,gn,gn,gn,gn,gn))))<|.kx Ti.i v1 k x<|.br (decide (x.fe≠(w1 (w1 s)))) (.lfA (zdd v1 (w1 k)) (.inr (.inl ((w1 (w1 s)),k,false,bf,bt,gn,gn,gn,gn,gn,gn))))<|.kx Ti.i v1 k x<|.br (decide (x.fa.fi≠(w1 (w1 (w1 s))))) (.lfA (zdd v1 (w1 k)) (.inr (.inl ((w1 (w1 (w1 s))),k,false,bf,bf,bt,gn,gn,gn,gn,gn))))<|.kx Ti.i v1 k x<|.br (decide (x.fa.fh≠(w1 (w1 (w1 (w1 s)))))) (.lfA (zdd v1 (w1 k)) (.inr (.inl ((w1 (w1 (w1 (w1 s)))),k,false,bf,bf,bf,bt,gn,gn,gn,gn))))<|.kx Ti.i v1 k x<|.br (decide (x.fa.fN≠(w1 (w1 (w1 (w1 (w1 s))))))) (.lfA (zdd v1 (w1 k)) (.inr (.inl ((w1 (w1 (w1 (w1 (w1 s))))),k,false,bf,bf,bf,bf,bt,gn,gn,gn))))<|.kx Ti.i v1 k x<|.callF (zwa x.fa.fc (w1 (w1 (w1 (w1 (w1 (w1 s))))))) fun(v44:Int)=>.br (decide (v44<0)) (.lfA (zdd v1 (w1 k)) (.inr (.inl (v44,k,false,bf,bf,bf,bf,bf,bt,gn,gn))))<|.kx Ti.i v1 k x<|.callF (zsd x.fa.ff v44) fun(v47:Int)=>.br (decide (v47<0)) (.lfA (zdd v1 (w1 k)) (.inr (.inl (v47,k,false,bf,bf,bf,bf,bf,bf,bt,gn))))<|.kx Ti.i v1 k x<|.br (decide (x.fa.fw≠v47)) (.lfA (zdd v1 (w1 k)) (.inr (.inl (v47,k,false,bf,bf,bf,bf,bf,bf,bf,bt))))<|.lfA (zdd v1 (w1 k)) (.inl (w1 v47)))) (E:=fun s=>(.hE Ti.i v1<|.lfA (zdd v1 0) (.inr (.inr s)))) (by kernel_rfl) (fun d x t s he=>hD he<|kX he<|bR rfl<|kX he<|bR rfl<|kX he<|bR rfl<|kX he<|bR rfl<|kX he<|bR rfl<|kX he<|bR rfl<|kX he<|cF zwz fun v44=>bR rfl<|kX he<|cF zwk fun v47=>bR rfl<|kX he<|bR rfl<|rfl) (ho2 (fun _=>rfl) fun _=>rfl) (fun s=>hZ rfl) s)
def ypd (v1:List Ti) (v2:Int):Option Int:=(zrl v1 v2).bind (zd2 (fun (v51:Int×Int×Bool×V×V×V×V×V×V×V×V)=>(some (-1))) (fun (v52:Int)=>(some v52)))
def ysn (v1:List Ti) (v2:Int):Ctr:=⟨196,[.imm 9 (v1.map Ti.i),.I v2],[],Int,ypd v1 v2,rI⟩
theorem qcu {v1:List Ti} {v2:Int}:(ysn v1 v2).okF tab:=okF_of rfl rfl (.lp2 (zz7 v1 v2) (fun (v51:Int×Int×Bool×V×V×V×V×V×V×V×V)=>.lfA rI (-1)) (fun (v52:Int)=>.lfA rI v52):Tree Int _) (by kernel_rfl) (lQ yik (fun v51=>rfl) (fun v52=>rfl))
def zrt (v1:List Tc) (k:Int) (s:Int):St:=⟨sv 22 [(0,.imm 17 (v1.map Tc.i)),(1,.I s),(3,.I k)],[]⟩
def zou (v1:List Tc):(Int×Int×Bool×V×V×V×V×V×V×V×V×V×V×V×V×V×V×V×V)->Ex×St:=fun p=>(.ret,⟨sv 22 [(0,.imm 17 (v1.map Tc.i)),(1,.I p.1),(2,.I (-1)),(3,.I p.2.1),(4,.bool true),(5,.bool p.2.2.1),(6,p.2.2.2.1),(7,p.2.2.2.2.1),(8,p.2.2.2.2.2.1),(9,p.2.2.2.2.2.2.1),(10,p.2.2.2.2.2.2.2.1),(11,p.2.2.2.2.2.2.2.2.1),(12,p.2.2.2.2.2.2.2.2.2.1),(13,p.2.2.2.2.2.2.2.2.2.2.1),(14,p.2.2.2.2.2.2.2.2.2.2.2.1),(15,p.2.2.2.2.2.2.2.2.2.2.2.2.1),(16,p.2.2.2.2.2.2.2.2.2.2.2.2.2.1),(17,p.2.2.2.2.2.2.2.2.2.2.2.2.2.2.1),(18,p.2.2.2.2.2.2.2.2.2.2.2.2.2.2.2.1),(19,p.2.2.2.2.2.2.2.2.2.2.2.2.2.2.2.2.1),(20,p.2.2.2.2.2.2.2.2.2.2.2.2.2.2.2.2.2.1),(21,p.2.2.2.2.2.2.2.2.2.2.2.2.2.2.2.2.2.2)],[]⟩)
def zlx (v1:List Tc):Int->Ex×St:=fun p=>((.exit 0),⟨sv 22 [(0,.imm 17 (v1.map Tc.i)),(1,.I p),(3,.I (v1.length:Int)),(4,.bool false)],[]⟩)
def zbo (v1:List Tc) (k:Int):=zc0 (zrt v1 k) (Sum.elim (zou v1) (zlx v1))
def zts (v1:List Tc) (k:Int) (x:Tc) (s:Int):Option ((Int)⊕((Int×Int×Bool×V×V×V×V×V×V×V×V×V×V×V×V×V×V×V×V)⊕Int)):=(ypd x.fat s).bind fun v58=>(bif decide (v58<0) then(some (.inr (.inl (v58,k,true,gn,gn,gn,gn,gn,gn,gn,gn,gn,gn,gn,gn,gn,gn,gn,gn)))) else(bif true ^^ (x.faz == (decide ((v58.tmod 3)=0))) then(some (.inr (.inl (v58,k,false,bt,gn,gn,gn,gn,gn,gn,gn,gn,gn,gn,gn,gn,gn,gn,gn)))) else(bif decide (x.fg.fan≠(w1 v58)) then(some (.inr (.inl ((w1 v58),k,false,bf,bt,gn,gn,gn,gn,gn,gn,gn,gn,gn,gn,gn,gn,gn,gn)))) else(bif decide (x.fg.fau≠(w1 (w1 v58))) then(some (.inr (.inl ((w1 (w1 v58)),k,false,bf,bf,bt,gn,gn,gn,gn,gn,gn,gn,gn,gn,gn,gn,gn,gn)))) else(bif decide (x.fg.fe≠(w1 (w1 (w1 v58)))) then(some (.inr (.inl ((w1 (w1 (w1 v58))),k,false,bf,bf,bf,bt,gn,gn,gn,gn,gn,gn,gn,gn,gn,gn,gn,gn)))) else(bif decide (x.fg.fa.fi≠(w1 (w1 (w1 (w1 v58))))) then(some (.inr (.inl ((w1 (w1 (w1 (w1 v58)))),k,false,bf,bf,bf,bf,bt,gn,gn,gn,gn,gn,gn,gn,gn,gn,gn,gn)))) else(bif decide (x.fg.fa.fh≠(w1 (w1 (w1 (w1 (w1 v58)))))) then(some (.inr (.inl ((w1 (w1 (w1 (w1 (w1 v58))))),k,false,bf,bf,bf,bf,bf,bt,gn,gn,gn,gn,gn,gn,gn,gn,gn,gn)))) else(bif decide (x.fg.fa.fN≠(w1 (w1 (w1 (w1 (w1 (w1 v58))))))) then(some (.inr (.inl ((w1 (w1 (w1 (w1 (w1 (w1 v58)))))),k,false,bf,bf,bf,bf,bf,bf,bt,gn,gn,gn,gn,gn,gn,gn,gn,gn)))) else((zqi x.fg.fa.fc (w1 (w1 (w1 (w1 (w1 (w1 (w1 v58)))))))).bind fun v68=>(bif decide (v68<0) then(some (.inr (.inl (v68,k,false,bf,bf,bf,bf,bf,bf,bf,bt,gn,gn,gn,gn,gn,gn,gn,gn)))) else((zp8 x.fg.fa.ff v68).bind fun v71=>(bif decide (v71<0) then(some (.inr (.inl (v71,k,false,bf,bf,bf,bf,bf,bf,bf,bf,bt,gn,gn,gn,gn,gn,gn,gn)))) else(bif decide (x.fg.fa.fw≠v71) then(some (.inr (.inl (v71,k,false,bf,bf,bf,bf,bf,bf,bf,bf,bf,bt,gn,gn,gn,gn,gn,gn)))) else(bif decide (x.fae≠(w1 v71)) then(some (.inr (.inl ((w1 v71),k,false,bf,bf,bf,bf,bf,bf,bf,bf,bf,bf,bt,gn,gn,gn,gn,gn)))) else(bif decide (x.faw≠(w1 (w1 v71))) then(some (.inr (.inl ((w1 (w1 v71)),k,false,bf,bf,bf,bf,bf,bf,bf,bf,bf,bf,bf,bt,gn,gn,gn,gn)))) else(bif decide (x.fax≠(w1 (w1 (w1 v71)))) then(some (.inr (.inl ((w1 (w1 (w1 v71))),k,false,bf,bf,bf,bf,bf,bf,bf,bf,bf,bf,bf,bf,bt,gn,gn,gn)))) else(bif decide (x.fao≠(w1 (w1 (w1 (w1 v71))))) then(some (.inr (.inl ((w1 (w1 (w1 (w1 v71)))),k,false,bf,bf,bf,bf,bf,bf,bf,bf,bf,bf,bf,bf,bf,bt,gn,gn)))) else(bif decide (x.fo≠(w1 (w1 (w1 (w1 (w1 v71)))))) then(some (.inr (.inl ((w1 (w1 (w1 (w1 (w1 v71))))),k,false,bf,bf,bf,bf,bf,bf,bf,bf,bf,bf,bf,bf,bf,bf,bt,gn)))) else(bif decide (x.fk≠(w1 (w1 (w1 (w1 (w1 (w1 v71))))))) then(some (.inr (.inl ((w1 (w1 (w1 (w1 (w1 (w1 v71)))))),k,false,bf,bf,bf,bf,bf,bf,bf,bf,bf,bf,bf,bf,bf,bf,bf,bt)))) else(some (.inl (w1 (w1 (w1 (w1 (w1 (w1 (w1 v71))))))))))))))))))))))))))))
def zy6 (v1:List Tc) (s:Int):Option ((Int×Int×Bool×V×V×V×V×V×V×V×V×V×V×V×V×V×V×V×V)⊕Int):=some ((.inr s))
def zt1 (v1:List Tc) (s:Int):Option ((Int×Int×Bool×V×V×V×V×V×V×V×V×V×V×V×V×V×V×V×V)⊕Int):=if v1.length<=9223372036854775806 then zah (zts v1) (zy6 v1) v1 0 s else none
def ydp (v1:List Tc) (s:Int):Lc2:=⟨22,ygp,0,[2,4,5,6,7,8,9,10,11,12,13,14,15,16,17,18,19,20,21],some (zrt v1 0 s),Int×Int×Bool×V×V×V×V×V×V×V×V×V×V×V×V×V×V×V×V,Int,zt1 v1 s,zou v1,zlx v1⟩
theorem yk8 {v1:List Tc} {s:Int}:(ydp v1 s).ok tab:=zb2 (list_oky (J:=zrt v1) (o:=(Sum.elim (zou v1) (zlx v1))) v1 (B:=fun k x s=>(.hT Tc.i v1 k<|.kx Tc.i v1 k x<|.callF (ysn x.fat s) fun(v58:Int)=>.br (decide (v58<0)) (.lfA (zbo v1 (w1 k)) (.inr (.inl (v58,k,true,gn,gn,gn,gn,gn,gn,gn,gn,gn,gn,gn,gn,gn,gn,gn,gn))))<|.kx Tc.i v1 k x<|.sk<|.br (true ^^ (x.faz == (decide ((v58.tmod 3)=0)))) (.lfA (zbo v1 (w1 k)) (.inr (.inl (v58,k,false,bt,gn,gn,gn,gn,gn,gn,gn,gn,gn,gn,gn,gn,gn,gn,gn))))<|.kx Tc.i v1 k x<|.br (decide (x.fg.fan≠(w1 v58))) (.lfA (zbo v1 (w1 k)) (.inr (.inl ((w1 v58),k,false,bf,bt,gn,gn,gn,gn,gn,gn,gn,gn,gn,gn,gn,gn,gn,gn))))<|.kx Tc.i v1 k x<|.br (decide (x.fg.fau≠(w1 (w1 v58)))) (.lfA (zbo v1 (w1 k)) (.inr (.inl ((w1 (w1 v58)),k,false,bf,bf,bt,gn,gn,gn,gn,gn,gn,gn,gn,gn,gn,gn,gn,gn))))<|.kx Tc.i v1 k x<|.br (decide (x.fg.fe≠(w1 (w1 (w1 v58))))) (.lfA (zbo v1 (w1 k)) (.inr (.inl ((w1 (w1 (w1 v58))),k,false,bf,bf,bf,bt,gn,gn,gn,gn,gn,gn,gn,gn,gn,gn,gn,gn))))<|.kx Tc.i v1 k x<|.br (decide (x.fg.fa.fi≠(w1 (w1 (w1 (w1 v58)))))) (.lfA (zbo v1 (w1 k)) (.inr (.inl ((w1 (w1 (w1 (w1 v58)))),k,false,bf,bf,bf,bf,bt,gn,gn,gn,gn,gn,gn,gn,gn,gn,gn,gn))))<|.kx Tc.i v1 k x<|.br (decide (x.fg.fa.fh≠(w1 (w1 (w1 (w1 (w1 v58))))))) (.lfA (zbo v1 (w1 k)) (.inr (.inl ((w1 (w1 (w1 (w1 (w1 v58))))),k,false,bf,bf,bf,bf,bf,bt,gn,gn,gn,gn,gn,gn,gn,gn,gn,gn))))<|.kx Tc.i v1 k x<|.br (decide (x.fg.fa.fN≠(w1 (w1 (w1 (w1 (w1 (w1 v58)))))))) (.lfA (zbo v1 (w1 k)) (.inr (.inl ((w1 (w1 (w1 (w1 (w1 (w1 v58)))))),k,false,bf,bf,bf,bf,bf,bf,bt,gn,gn,gn,gn,gn,gn,gn,gn,gn))))<|.kx Tc.i v1 k x<|.callF (zwa x.fg.fa.fc (w1 (w1 (w1 (w1 (w1 (w1 (w1 v58)))))))) fun(v68:Int)=>.br (decide (v68<0)) (.lfA (zbo v1 (w1 k)) (.inr (.inl (v68,k,false,bf,bf,bf,bf,bf,bf,bf,bt,gn,gn,gn,gn,gn,gn,gn,gn))))<|.kx Tc.i v1 k x<|.callF (zsd x.fg.fa.ff v68) fun(v71:Int)=>.br (decide (v71<0)) (.lfA (zbo v1 (w1 k)) (.inr (.inl (v71,k,false,bf,bf,bf,bf,bf,bf,bf,bf,bt,gn,gn,gn,gn,gn,gn,gn))))<|.kx Tc.i v1 k x<|.br (decide (x.fg.fa.fw≠v71)) (.lfA (zbo v1 (w1 k)) (.inr (.inl (v71,k,false,bf,bf,bf,bf,bf,bf,bf,bf,bf,bt,gn,gn,gn,gn,gn,gn))))<|.kx Tc.i v1 k x<|.br (decide (x.fae≠(w1 v71))) (.lfA (zbo v1 (w1 k)) (.inr (.inl ((w1 v71),k,false,bf,bf,bf,bf,bf,bf,bf,bf,bf,bf,bt,gn,gn,gn,gn,gn))))<|.kx Tc.i v1 k x<|.br (decide (x.faw≠(w1 (w1 v71)))) (.lfA (zbo v1 (w1 k)) (.inr (.inl ((w1 (w1 v71)),k,false,bf,bf,bf,bf,bf,bf,bf,bf,bf,bf,bf,bt,gn,gn,gn,gn))))<|.kx Tc.i v1 k x<|.br (decide (x.fax≠(w1 (w1 (w1 v71))))) (.lfA (zbo v1 (w1 k)) (.inr (.inl ((w1 (w1 (w1 v71))),k,false,bf,bf,bf,bf,bf,bf,bf,bf,bf,bf,bf,bf,bt,gn,gn,gn))))<|.kx Tc.i v1 k x<|.br (decide (x.fao≠(w1 (w1 (w1 (w1 v71)))))) (.lfA (zbo v1 (w1 k)) (.inr (.inl ((w1 (w1 (w1 (w1 v71)))),k,false,bf,bf,bf,bf,bf,bf,bf,bf,bf,bf,bf,bf,bf,bt,gn,gn))))<|.kx Tc.i v1 k x<|.br (decide (x.fo≠(w1 (w1 (w1 (w1 (w1 v71))))))) (.lfA (zbo v1 (w1 k)) (.inr (.inl ((w1 (w1 (w1 (w1 (w1 v71))))),k,false,bf,bf,bf,bf,bf,bf,bf,bf,bf,bf,bf,bf,bf,bf,bt,gn))))<|.kx Tc.i v1 k x<|.br (decide (x.fk≠(w1 (w1 (w1 (w1 (w1 (w1 v71)))))))) (.lfA (zbo v1 (w1 k)) (.inr (.inl ((w1 (w1 (w1 (w1 (w1 (w1 v71)))))),k,false,bf,bf,bf,bf,bf,bf,bf,bf,bf,bf,bf,bf,bf,bf,bf,bt))))<|.lfA (zbo v1 (w1 k)) (.inl (w1 (w1 (w1 (w1 (w1 (w1 (w1 v71)))))))))) (E:=fun s=>(.hE Tc.i v1<|.lfA (zbo v1 0) (.inr (.inr s)))) (by kernel_rfl) (fun d x t s he=>hD he<|kX he<|cF qcu fun v58=>bR rfl<|kX he<|bR rfl<|kX he<|bR rfl<|kX he<|bR rfl<|kX he<|bR rfl<|kX he<|bR rfl<|kX he<|bR rfl<|kX he<|bR rfl<|kX he<|cF zwz fun v68=>bR rfl<|kX he<|cF zwk fun v71=>bR rfl<|kX he<|bR rfl<|kX he<|bR rfl<|kX he<|bR rfl<|kX he<|bR rfl<|kX he<|bR rfl<|kX he<|bR rfl<|kX he<|bR rfl<|rfl) (ho2 (fun _=>rfl) fun _=>rfl) (fun s=>hZ rfl) s)
def ynv (v1:List Tc) (v2:Int):Option Int:=(zt1 v1 v2).bind (zd2 (fun (v81:Int×Int×Bool×V×V×V×V×V×V×V×V×V×V×V×V×V×V×V×V)=>(some (-1))) (fun (v82:Int)=>(some v82)))
def yw2 (v1:List Tc) (v2:Int):Ctr:=⟨114,[.imm 17 (v1.map Tc.i),.I v2],[],Int,ynv v1 v2,rI⟩
theorem yzk {v1:List Tc} {v2:Int}:(yw2 v1 v2).okF tab:=okF_of rfl rfl (.lp2 (ydp v1 v2) (fun (v81:Int×Int×Bool×V×V×V×V×V×V×V×V×V×V×V×V×V×V×V×V)=>.lfA rI (-1)) (fun (v82:Int)=>.lfA rI v82):Tree Int _) (by kernel_rfl) (lQ yk8 (fun v81=>rfl) (fun v82=>rfl))
def ynl (v1:Tn) (v2:Int):Option Int:=(ypt v1.fp v2).bind fun v3=>(bif decide (v3<0) then(some (-1)) else((yqj v1.fq v3).bind fun v6=>(bif decide (v6<0) then(some (-1)) else((ynv v1.ft v6).bind fun v9=>(bif decide (v9<0) then(some (-1)) else(some v9))))))
def ysb (v1:Tn) (v2:Int):Ctr:=⟨47,[v1.i,.I v2],[],Int,ynl v1 v2,rI⟩
theorem qc0 {v1:Tn} {v2:Int}:(ysb v1 v2).okF tab:=okF_of rfl rfl (.callF (yvt v1.fp v2) fun(v3:Int)=>.br (decide (v3<0)) (.lfA rI (-1))<|.callF (yug v1.fq v3) fun(v6:Int)=>.br (decide (v6<0)) (.lfA rI (-1))<|.callF (yw2 v1.ft v6) fun(v9:Int)=>.br (decide (v9<0)) (.lfA rI (-1))<|.lfA rI v9:Tree Int _) (by kernel_rfl) (cF qcy fun v3=>bR rfl<|cF qak fun v6=>bR rfl<|cF yzk fun v9=>bR rfl<|rfl)
def zsp (v1:List Ta) (k:Int) (s:Int):St:=⟨sv 11 [(0,.imm 6 (v1.map Ta.i)),(1,.I s),(3,.I k)],[]⟩
def zne (v1:List Ta):(Int×Int×Bool×V×V×V×V×V)->Ex×St:=fun p=>(.ret,⟨sv 11 [(0,.imm 6 (v1.map Ta.i)),(1,.I p.1),(2,.I (-1)),(3,.I p.2.1),(4,.bool true),(5,.bool p.2.2.1),(6,p.2.2.2.1),(7,p.2.2.2.2.1),(8,p.2.2.2.2.2.1),(9,p.2.2.2.2.2.2.1),(10,p.2.2.2.2.2.2.2)],[]⟩)
def zlf (v1:List Ta):Int->Ex×St:=fun p=>((.exit 0),⟨sv 11 [(0,.imm 6 (v1.map Ta.i)),(1,.I p),(3,.I (v1.length:Int)),(4,.bool false)],[]⟩)
def zf3 (v1:List Ta) (k:Int):=zc0 (zsp v1 k) (Sum.elim (zne v1) (zlf v1))
def ztp (v1:List Ta) (k:Int) (x:Ta) (s:Int):Option ((Int)⊕((Int×Int×Bool×V×V×V×V×V)⊕Int)):=bif decide (x.fj≠s) then(some (.inr (.inl (s,k,true,gn,gn,gn,gn,gn)))) else(bif decide (x.fe≠(w1 s)) then(some (.inr (.inl ((w1 s),k,false,bt,gn,gn,gn,gn)))) else((zp8 x.fD.fab (w1 (w1 s))).bind fun v42=>(bif decide (v42<0) then(some (.inr (.inl (v42,k,false,bf,bt,gn,gn,gn)))) else((zp8 x.fD.faa v42).bind fun v45=>(bif decide (v45<0) then(some (.inr (.inl (v45,k,false,bf,bf,bt,gn,gn)))) else((zqi x.fD.fu v45).bind fun v48=>(bif decide (v48<0) then(some (.inr (.inl (v48,k,false,bf,bf,bf,bt,gn)))) else((zqi x.fD.fc v48).bind fun v51=>(bif decide (v51<0) then(some (.inr (.inl (v51,k,false,bf,bf,bf,bf,bt)))) else(some (.inl v51)))))))))))
def ye5 (v1:List Ta) (s:Int):Option ((Int×Int×Bool×V×V×V×V×V)⊕Int):=some ((.inr s))
def zsz (v1:List Ta) (s:Int):Option ((Int×Int×Bool×V×V×V×V×V)⊕Int):=if v1.length<=9223372036854775806 then zah (ztp v1) (ye5 v1) v1 0 s else none
def zy0 (v1:List Ta) (s:Int):Lc2:=⟨11,yhd,0,[2,4,5,6,7,8,9,10],some (zsp v1 0 s),Int×Int×Bool×V×V×V×V×V,Int,zsz v1 s,zne v1,zlf v1⟩
theorem yif {v1:List Ta} {s:Int}:(zy0 v1 s).ok tab:=zb2 (list_oky (J:=zsp v1) (o:=(Sum.elim (zne v1) (zlf v1))) v1 (B:=fun k x s=>(.hT Ta.i v1 k<|.kx Ta.i v1 k x<|.br (decide (x.fj≠s)) (.lfA (zf3 v1 (w1 k)) (.inr (.inl (s,k,true,gn,gn,gn,gn,gn))))<|.kx Ta.i v1 k x<|.br (decide (x.fe≠(w1 s))) (.lfA (zf3 v1 (w1 k)) (.inr (.inl ((w1 s),k,false,bt,gn,gn,gn,gn))))<|.kx Ta.i v1 k x<|.callF (zsd x.fD.fab (w1 (w1 s))) fun(v42:Int)=>.br (decide (v42<0)) (.lfA (zf3 v1 (w1 k)) (.inr (.inl (v42,k,false,bf,bt,gn,gn,gn))))<|.kx Ta.i v1 k x<|.callF (zsd x.fD.faa v42) fun(v45:Int)=>.br (decide (v45<0)) (.lfA (zf3 v1 (w1 k)) (.inr (.inl (v45,k,false,bf,bf,bt,gn,gn))))<|.kx Ta.i v1 k x<|.callF (zwa x.fD.fu v45) fun(v48:Int)=>.br (decide (v48<0)) (.lfA (zf3 v1 (w1 k)) (.inr (.inl (v48,k,false,bf,bf,bf,bt,gn))))<|.kx Ta.i v1 k x<|.callF (zwa x.fD.fc v48) fun(v51:Int)=>.br (decide (v51<0)) (.lfA (zf3 v1 (w1 k)) (.inr (.inl (v51,k,false,bf,bf,bf,bf,bt))))<|.lfA (zf3 v1 (w1 k)) (.inl v51))) (E:=fun s=>(.hE Ta.i v1<|.lfA (zf3 v1 0) (.inr (.inr s)))) (by kernel_rfl) (fun d x t s he=>hD he<|kX he<|bR rfl<|kX he<|bR rfl<|kX he<|cF zwk fun v42=>bR rfl<|kX he<|cF zwk fun v45=>bR rfl<|kX he<|cF zwz fun v48=>bR rfl<|kX he<|cF zwz fun v51=>bR rfl<|rfl) (ho2 (fun _=>rfl) fun _=>rfl) (fun s=>hZ rfl) s)
def yp6 (v1:List Ta) (v2:Int):Option Int:=(zsz v1 v2).bind (zd2 (fun (v54:Int×Int×Bool×V×V×V×V×V)=>(some (-1))) (fun (v55:Int)=>(some v55)))
def ysk (v1:List Ta) (v2:Int):Ctr:=⟨100,[.imm 6 (v1.map Ta.i),.I v2],[],Int,yp6 v1 v2,rI⟩
theorem qcv {v1:List Ta} {v2:Int}:(ysk v1 v2).okF tab:=okF_of rfl rfl (.lp2 (zy0 v1 v2) (fun (v54:Int×Int×Bool×V×V×V×V×V)=>.lfA rI (-1)) (fun (v55:Int)=>.lfA rI v55):Tree Int _) (by kernel_rfl) (lQ yif (fun v54=>rfl) (fun v55=>rfl))
def zu0 (v1:List Tf) (k:Int) (s:Int):St:=⟨sv 21 [(0,.imm 16 (v1.map Tf.i)),(1,.I s),(3,.I k)],[]⟩
def znh (v1:List Tf):(Int×Int×Bool×V×V×V×V×V×V×V×V×V×V×V×V×V×V×V)->Ex×St:=fun p=>(.ret,⟨sv 21 [(0,.imm 16 (v1.map Tf.i)),(1,.I p.1),(2,.I (-1)),(3,.I p.2.1),(4,.bool true),(5,.bool p.2.2.1),(6,p.2.2.2.1),(7,p.2.2.2.2.1),(8,p.2.2.2.2.2.1),(9,p.2.2.2.2.2.2.1),(10,p.2.2.2.2.2.2.2.1),(11,p.2.2.2.2.2.2.2.2.1),(12,p.2.2.2.2.2.2.2.2.2.1),(13,p.2.2.2.2.2.2.2.2.2.2.1),(14,p.2.2.2.2.2.2.2.2.2.2.2.1),(15,p.2.2.2.2.2.2.2.2.2.2.2.2.1),(16,p.2.2.2.2.2.2.2.2.2.2.2.2.2.1),(17,p.2.2.2.2.2.2.2.2.2.2.2.2.2.2.1),(18,p.2.2.2.2.2.2.2.2.2.2.2.2.2.2.2.1),(19,p.2.2.2.2.2.2.2.2.2.2.2.2.2.2.2.2.1),(20,p.2.2.2.2.2.2.2.2.2.2.2.2.2.2.2.2.2)],[]⟩)
def zmo (v1:List Tf):Int->Ex×St:=fun p=>((.exit 0),⟨sv 21 [(0,.imm 16 (v1.map Tf.i)),(1,.I p),(3,.I (v1.length:Int)),(4,.bool false)],[]⟩)
def zbu (v1:List Tf) (k:Int):=zc0 (zu0 v1 k) (Sum.elim (znh v1) (zmo v1))
def zua (v1:List Tf) (k:Int) (x:Tf) (s:Int):Option ((Int)⊕((Int×Int×Bool×V×V×V×V×V×V×V×V×V×V×V×V×V×V×V)⊕Int)):=bif true ^^ (x.fay == (decide ((s.tmod 3)=0))) then(some (.inr (.inl (s,k,true,gn,gn,gn,gn,gn,gn,gn,gn,gn,gn,gn,gn,gn,gn,gn)))) else(bif decide (x.fj≠(w1 s)) then(some (.inr (.inl ((w1 s),k,false,bt,gn,gn,gn,gn,gn,gn,gn,gn,gn,gn,gn,gn,gn,gn)))) else(bif decide (x.fae≠(w1 (w1 s))) then(some (.inr (.inl ((w1 (w1 s)),k,false,bf,bt,gn,gn,gn,gn,gn,gn,gn,gn,gn,gn,gn,gn,gn)))) else(bif decide (x.fe≠(w1 (w1 (w1 s)))) then(some (.inr (.inl ((w1 (w1 (w1 s))),k,false,bf,bf,bt,gn,gn,gn,gn,gn,gn,gn,gn,gn,gn,gn,gn)))) else(bif decide (x.fa.fi≠(w1 (w1 (w1 (w1 s))))) then(some (.inr (.inl ((w1 (w1 (w1 (w1 s)))),k,false,bf,bf,bf,bt,gn,gn,gn,gn,gn,gn,gn,gn,gn,gn,gn)))) else(bif decide (x.fa.fh≠(w1 (w1 (w1 (w1 (w1 s)))))) then(some (.inr (.inl ((w1 (w1 (w1 (w1 (w1 s))))),k,false,bf,bf,bf,bf,bt,gn,gn,gn,gn,gn,gn,gn,gn,gn,gn)))) else(bif decide (x.fa.fN≠(w1 (w1 (w1 (w1 (w1 (w1 s))))))) then(some (.inr (.inl ((w1 (w1 (w1 (w1 (w1 (w1 s)))))),k,false,bf,bf,bf,bf,bf,bt,gn,gn,gn,gn,gn,gn,gn,gn,gn)))) else((zqi x.fa.fc (w1 (w1 (w1 (w1 (w1 (w1 (w1 s)))))))).bind fun v67=>(bif decide (v67<0) then(some (.inr (.inl (v67,k,false,bf,bf,bf,bf,bf,bf,bt,gn,gn,gn,gn,gn,gn,gn,gn)))) else((zp8 x.fa.ff v67).bind fun v70=>(bif decide (v70<0) then(some (.inr (.inl (v70,k,false,bf,bf,bf,bf,bf,bf,bf,bt,gn,gn,gn,gn,gn,gn,gn)))) else(bif decide (x.fa.fw≠v70) then(some (.inr (.inl (v70,k,false,bf,bf,bf,bf,bf,bf,bf,bf,bt,gn,gn,gn,gn,gn,gn)))) else(bif decide (x.fb.fi≠(w1 v70)) then(some (.inr (.inl ((w1 v70),k,false,bf,bf,bf,bf,bf,bf,bf,bf,bf,bt,gn,gn,gn,gn,gn)))) else(bif decide (x.fb.faj≠(w1 (w1 v70))) then(some (.inr (.inl ((w1 (w1 v70)),k,false,bf,bf,bf,bf,bf,bf,bf,bf,bf,bf,bt,gn,gn,gn,gn)))) else(bif decide (x.fb.fh≠(w1 (w1 (w1 v70)))) then(some (.inr (.inl ((w1 (w1 (w1 v70))),k,false,bf,bf,bf,bf,bf,bf,bf,bf,bf,bf,bf,bt,gn,gn,gn)))) else(bif decide (x.fb.fN≠(w1 (w1 (w1 (w1 v70))))) then(some (.inr (.inl ((w1 (w1 (w1 (w1 v70)))),k,false,bf,bf,bf,bf,bf,bf,bf,bf,bf,bf,bf,bf,bt,gn,gn)))) else((zqi x.fb.fc (w1 (w1 (w1 (w1 (w1 v70)))))).bind fun v78=>(bif decide (v78<0) then(some (.inr (.inl (v78,k,false,bf,bf,bf,bf,bf,bf,bf,bf,bf,bf,bf,bf,bf,bt,gn)))) else((zp8 x.fb.ff v78).bind fun v81=>(bif decide (v81<0) then(some (.inr (.inl (v81,k,false,bf,bf,bf,bf,bf,bf,bf,bf,bf,bf,bf,bf,bf,bf,bt)))) else(some (.inl v81)))))))))))))))))))))
def yae (v1:List Tf) (s:Int):Option ((Int×Int×Bool×V×V×V×V×V×V×V×V×V×V×V×V×V×V×V)⊕Int):=some ((.inr s))
def zqu (v1:List Tf) (s:Int):Option ((Int×Int×Bool×V×V×V×V×V×V×V×V×V×V×V×V×V×V×V)⊕Int):=if v1.length<=9223372036854775806 then zah (zua v1) (yae v1) v1 0 s else none
def ycf (v1:List Tf) (s:Int):Lc2:=⟨21,yg9,0,[2,4,5,6,7,8,9,10,11,12,13,14,15,16,17,18,19,20],some (zu0 v1 0 s),Int×Int×Bool×V×V×V×V×V×V×V×V×V×V×V×V×V×V×V,Int,zqu v1 s,znh v1,zmo v1⟩
theorem yja {v1:List Tf} {s:Int}:(ycf v1 s).ok tab:=zb2 (list_oky (J:=zu0 v1) (o:=(Sum.elim (znh v1) (zmo v1))) v1 (B:=fun k x s=>(.hT Tf.i v1 k<|.kx Tf.i v1 k x<|.sk<|.br (true ^^ (x.fay == (decide ((s.tmod 3)=0)))) (.lfA (zbu v1 (w1 k)) (.inr (.inl (s,k,true,gn,gn,gn,gn,gn,gn,gn,gn,gn,gn,gn,gn,gn,gn,gn))))<|.kx Tf.i v1 k x<|.br (decide (x.fj≠(w1 s))) (.lfA (zbu v1 (w1 k)) (.inr (.inl ((w1 s),k,false,bt,gn,gn,gn,gn,gn,gn,gn,gn,gn,gn,gn,gn,gn,gn))))<|.kx Tf.i v1 k x<|.br (decide (x.fae≠(w1 (w1 s)))) (.lfA (zbu v1 (w1 k)) (.inr (.inl ((w1 (w1 s)),k,false,bf,bt,gn,gn,gn,gn,gn,gn,gn,gn,gn,gn,gn,gn,gn))))<|.kx Tf.i v1 k x<|.br (decide (x.fe≠(w1 (w1 (w1 s))))) (.lfA (zbu v1 (w1 k)) (.inr (.inl ((w1 (w1 (w1 s))),k,false,bf,bf,bt,gn,gn,gn,gn,gn,gn,gn,gn,gn,gn,gn,gn))))<|.kx Tf.i v1 k x<|.br (decide (x.fa.fi≠(w1 (w1 (w1 (w1 s)))))) (.lfA (zbu v1 (w1 k)) (.inr (.inl ((w1 (w1 (w1 (w1 s)))),k,false,bf,bf,bf,bt,gn,gn,gn,gn,gn,gn,gn,gn,gn,gn,gn))))<|.kx Tf.i v1 k x<|.br (decide (x.fa.fh≠(w1 (w1 (w1 (w1 (w1 s))))))) (.lfA (zbu v1 (w1 k)) (.inr (.inl ((w1 (w1 (w1 (w1 (w1 s))))),k,false,bf,bf,bf,bf,bt,gn,gn,gn,gn,gn,gn,gn,gn,gn,gn))))<|.kx Tf.i v1 k x<|.br (decide (x.fa.fN≠(w1 (w1 (w1 (w1 (w1 (w1 s)))))))) (.lfA (zbu v1 (w1 k)) (.inr (.inl ((w1 (w1 (w1 (w1 (w1 (w1 s)))))),k,false,bf,bf,bf,bf,bf,bt,gn,gn,gn,gn,gn,gn,gn,gn,gn))))<|.kx Tf.i v1 k x<|.callF (zwa x.fa.fc (w1 (w1 (w1 (w1 (w1 (w1 (w1 s)))))))) fun(v67:Int)=>.br (decide (v67<0)) (.lfA (zbu v1 (w1 k)) (.inr (.inl (v67,k,false,bf,bf,bf,bf,bf,bf,bt,gn,gn,gn,gn,gn,gn,gn,gn))))<|.kx Tf.i v1 k x<|.callF (zsd x.fa.ff v67) fun(v70:Int)=>.br (decide (v70<0)) (.lfA (zbu v1 (w1 k)) (.inr (.inl (v70,k,false,bf,bf,bf,bf,bf,bf,bf,bt,gn,gn,gn,gn,gn,gn,gn))))<|.kx Tf.i v1 k x<|.br (decide (x.fa.fw≠v70)) (.lfA (zbu v1 (w1 k)) (.inr (.inl (v70,k,false,bf,bf,bf,bf,bf,bf,bf,bf,bt,gn,gn,gn,gn,gn,gn))))<|.kx Tf.i v1 k x<|.br (decide (x.fb.fi≠(w1 v70))) (.lfA (zbu v1 (w1 k)) (.inr (.inl ((w1 v70),k,false,bf,bf,bf,bf,bf,bf,bf,bf,bf,bt,gn,gn,gn,gn,gn))))<|.kx Tf.i v1 k x<|.br (decide (x.fb.faj≠(w1 (w1 v70)))) (.lfA (zbu v1 (w1 k)) (.inr (.inl ((w1 (w1 v70)),k,false,bf,bf,bf,bf,bf,bf,bf,bf,bf,bf,bt,gn,gn,gn,gn))))<|.kx Tf.i v1 k x<|.br (decide (x.fb.fh≠(w1 (w1 (w1 v70))))) (.lfA (zbu v1 (w1 k)) (.inr (.inl ((w1 (w1 (w1 v70))),k,false,bf,bf,bf,bf,bf,bf,bf,bf,bf,bf,bf,bt,gn,gn,gn))))<|.kx Tf.i v1 k x<|.br (decide (x.fb.fN≠(w1 (w1 (w1 (w1 v70)))))) (.lfA (zbu v1 (w1 k)) (.inr (.inl ((w1 (w1 (w1 (w1 v70)))),k,false,bf,bf,bf,bf,bf,bf,bf,bf,bf,bf,bf,bf,bt,gn,gn))))<|.kx Tf.i v1 k x<|.callF (zwa x.fb.fc (w1 (w1 (w1 (w1 (w1 v70)))))) fun(v78:Int)=>.br (decide (v78<0)) (.lfA (zbu v1 (w1 k)) (.inr (.inl (v78,k,false,bf,bf,bf,bf,bf,bf,bf,bf,bf,bf,bf,bf,bf,bt,gn))))<|.kx Tf.i v1 k x<|.callF (zsd x.fb.ff v78) fun(v81:Int)=>.br (decide (v81<0)) (.lfA (zbu v1 (w1 k)) (.inr (.inl (v81,k,false,bf,bf,bf,bf,bf,bf,bf,bf,bf,bf,bf,bf,bf,bf,bt))))<|.lfA (zbu v1 (w1 k)) (.inl v81))) (E:=fun s=>(.hE Tf.i v1<|.lfA (zbu v1 0) (.inr (.inr s)))) (by kernel_rfl) (fun d x t s he=>hD he<|kX he<|bR rfl<|kX he<|bR rfl<|kX he<|bR rfl<|kX he<|bR rfl<|kX he<|bR rfl<|kX he<|bR rfl<|kX he<|bR rfl<|kX he<|cF zwz fun v67=>bR rfl<|kX he<|cF zwk fun v70=>bR rfl<|kX he<|bR rfl<|kX he<|bR rfl<|kX he<|bR rfl<|kX he<|bR rfl<|kX he<|bR rfl<|kX he<|cF zwz fun v78=>bR rfl<|kX he<|cF zwk fun v81=>bR rfl<|rfl) (ho2 (fun _=>rfl) fun _=>rfl) (fun s=>hZ rfl) s)
def ype (v1:List Tf) (v2:Int):Option Int:=(zqu v1 v2).bind (zd2 (fun (v84:Int×Int×Bool×V×V×V×V×V×V×V×V×V×V×V×V×V×V×V)=>(some (-1))) (fun (v85:Int)=>(some v85)))
def yvc (v1:List Tf) (v2:Int):Ctr:=⟨101,[.imm 16 (v1.map Tf.i),.I v2],[],Int,ype v1 v2,rI⟩
theorem yz7 {v1:List Tf} {v2:Int}:(yvc v1 v2).okF tab:=okF_of rfl rfl (.lp2 (ycf v1 v2) (fun (v84:Int×Int×Bool×V×V×V×V×V×V×V×V×V×V×V×V×V×V×V)=>.lfA rI (-1)) (fun (v85:Int)=>.lfA rI v85):Tree Int _) (by kernel_rfl) (lQ yja (fun v84=>rfl) (fun v85=>rfl))
def zsv (v1:List Te) (k:Int) (s:Int):St:=⟨sv 21 [(0,.imm 16 (v1.map Te.i)),(1,.I s),(3,.I k)],[]⟩
def zni (v1:List Te):(Int×Int×Bool×V×V×V×V×V×V×V×V×V×V×V×V×V×V×V)->Ex×St:=fun p=>(.ret,⟨sv 21 [(0,.imm 16 (v1.map Te.i)),(1,.I p.1),(2,.I (-1)),(3,.I p.2.1),(4,.bool true),(5,.bool p.2.2.1),(6,p.2.2.2.1),(7,p.2.2.2.2.1),(8,p.2.2.2.2.2.1),(9,p.2.2.2.2.2.2.1),(10,p.2.2.2.2.2.2.2.1),(11,p.2.2.2.2.2.2.2.2.1),(12,p.2.2.2.2.2.2.2.2.2.1),(13,p.2.2.2.2.2.2.2.2.2.2.1),(14,p.2.2.2.2.2.2.2.2.2.2.2.1),(15,p.2.2.2.2.2.2.2.2.2.2.2.2.1),(16,p.2.2.2.2.2.2.2.2.2.2.2.2.2.1),(17,p.2.2.2.2.2.2.2.2.2.2.2.2.2.2.1),(18,p.2.2.2.2.2.2.2.2.2.2.2.2.2.2.2.1),(19,p.2.2.2.2.2.2.2.2.2.2.2.2.2.2.2.2.1),(20,p.2.2.2.2.2.2.2.2.2.2.2.2.2.2.2.2.2)],[]⟩)
def zlu (v1:List Te):Int->Ex×St:=fun p=>((.exit 0),⟨sv 21 [(0,.imm 16 (v1.map Te.i)),(1,.I p),(3,.I (v1.length:Int)),(4,.bool false)],[]⟩)
def zbv (v1:List Te) (k:Int):=zc0 (zsv v1 k) (Sum.elim (zni v1) (zlu v1))
def ztu (v1:List Te) (k:Int) (x:Te) (s:Int):Option ((Int)⊕((Int×Int×Bool×V×V×V×V×V×V×V×V×V×V×V×V×V×V×V)⊕Int)):=bif decide (x.faq≠s) then(some (.inr (.inl (s,k,true,gn,gn,gn,gn,gn,gn,gn,gn,gn,gn,gn,gn,gn,gn,gn)))) else(bif decide (x.far≠(w1 s)) then(some (.inr (.inl ((w1 s),k,false,bt,gn,gn,gn,gn,gn,gn,gn,gn,gn,gn,gn,gn,gn,gn)))) else(bif decide (x.fa.fi≠(w1 (w1 s))) then(some (.inr (.inl ((w1 (w1 s)),k,false,bf,bt,gn,gn,gn,gn,gn,gn,gn,gn,gn,gn,gn,gn,gn)))) else(bif decide (x.fa.fh≠(w1 (w1 (w1 s)))) then(some (.inr (.inl ((w1 (w1 (w1 s))),k,false,bf,bf,bt,gn,gn,gn,gn,gn,gn,gn,gn,gn,gn,gn,gn)))) else(bif decide (x.fa.fN≠(w1 (w1 (w1 (w1 s))))) then(some (.inr (.inl ((w1 (w1 (w1 (w1 s)))),k,false,bf,bf,bf,bt,gn,gn,gn,gn,gn,gn,gn,gn,gn,gn,gn)))) else((zqi x.fa.fc (w1 (w1 (w1 (w1 (w1 s)))))).bind fun v73=>(bif decide (v73<0) then(some (.inr (.inl (v73,k,false,bf,bf,bf,bf,bt,gn,gn,gn,gn,gn,gn,gn,gn,gn,gn)))) else((zp8 x.fa.ff v73).bind fun v76=>(bif decide (v76<0) then(some (.inr (.inl (v76,k,false,bf,bf,bf,bf,bf,bt,gn,gn,gn,gn,gn,gn,gn,gn,gn)))) else(bif decide (x.fa.fw≠v76) then(some (.inr (.inl (v76,k,false,bf,bf,bf,bf,bf,bf,bt,gn,gn,gn,gn,gn,gn,gn,gn)))) else((ymi x.fak (w1 v76)).bind fun v80=>(bif decide (v80<0) then(some (.inr (.inl (v80,k,false,bf,bf,bf,bf,bf,bf,bf,bt,gn,gn,gn,gn,gn,gn,gn)))) else((ync x.fal v80).bind fun v83=>(bif decide (v83<0) then(some (.inr (.inl (v83,k,false,bf,bf,bf,bf,bf,bf,bf,bf,bt,gn,gn,gn,gn,gn,gn)))) else(bif decide (x.fb.fi≠v83) then(some (.inr (.inl (v83,k,false,bf,bf,bf,bf,bf,bf,bf,bf,bf,bt,gn,gn,gn,gn,gn)))) else(bif decide (x.fb.faj≠(w1 v83)) then(some (.inr (.inl ((w1 v83),k,false,bf,bf,bf,bf,bf,bf,bf,bf,bf,bf,bt,gn,gn,gn,gn)))) else(bif decide (x.fb.fh≠(w1 (w1 v83))) then(some (.inr (.inl ((w1 (w1 v83)),k,false,bf,bf,bf,bf,bf,bf,bf,bf,bf,bf,bf,bt,gn,gn,gn)))) else(bif decide (x.fb.fN≠(w1 (w1 (w1 v83)))) then(some (.inr (.inl ((w1 (w1 (w1 v83))),k,false,bf,bf,bf,bf,bf,bf,bf,bf,bf,bf,bf,bf,bt,gn,gn)))) else((zqi x.fb.fc (w1 (w1 (w1 (w1 v83))))).bind fun v90=>(bif decide (v90<0) then(some (.inr (.inl (v90,k,false,bf,bf,bf,bf,bf,bf,bf,bf,bf,bf,bf,bf,bf,bt,gn)))) else((zp8 x.fb.ff v90).bind fun v93=>(bif decide (v93<0) then(some (.inr (.inl (v93,k,false,bf,bf,bf,bf,bf,bf,bf,bf,bf,bf,bf,bf,bf,bf,bt)))) else(some (.inl v93)))))))))))))))))))))))
def ycp (v1:List Te) (s:Int):Option ((Int×Int×Bool×V×V×V×V×V×V×V×V×V×V×V×V×V×V×V)⊕Int):=some ((.inr s))
def zrh (v1:List Te) (s:Int):Option ((Int×Int×Bool×V×V×V×V×V×V×V×V×V×V×V×V×V×V×V)⊕Int):=if v1.length<=9223372036854775806 then zah (ztu v1) (ycp v1) v1 0 s else none
def zzk (v1:List Te) (s:Int):Lc2:=⟨21,ygv,0,[2,4,5,6,7,8,9,10,11,12,13,14,15,16,17,18,19,20],some (zsv v1 0 s),Int×Int×Bool×V×V×V×V×V×V×V×V×V×V×V×V×V×V×V,Int,zrh v1 s,zni v1,zlu v1⟩
theorem yit {v1:List Te} {s:Int}:(zzk v1 s).ok tab:=zb2 (list_oky (J:=zsv v1) (o:=(Sum.elim (zni v1) (zlu v1))) v1 (B:=fun k x s=>(.hT Te.i v1 k<|.kx Te.i v1 k x<|.br (decide (x.faq≠s)) (.lfA (zbv v1 (w1 k)) (.inr (.inl (s,k,true,gn,gn,gn,gn,gn,gn,gn,gn,gn,gn,gn,gn,gn,gn,gn))))<|.kx Te.i v1 k x<|.br (decide (x.far≠(w1 s))) (.lfA (zbv v1 (w1 k)) (.inr (.inl ((w1 s),k,false,bt,gn,gn,gn,gn,gn,gn,gn,gn,gn,gn,gn,gn,gn,gn))))<|.kx Te.i v1 k x<|.br (decide (x.fa.fi≠(w1 (w1 s)))) (.lfA (zbv v1 (w1 k)) (.inr (.inl ((w1 (w1 s)),k,false,bf,bt,gn,gn,gn,gn,gn,gn,gn,gn,gn,gn,gn,gn,gn))))<|.kx Te.i v1 k x<|.br (decide (x.fa.fh≠(w1 (w1 (w1 s))))) (.lfA (zbv v1 (w1 k)) (.inr (.inl ((w1 (w1 (w1 s))),k,false,bf,bf,bt,gn,gn,gn,gn,gn,gn,gn,gn,gn,gn,gn,gn))))<|.kx Te.i v1 k x<|.br (decide (x.fa.fN≠(w1 (w1 (w1 (w1 s)))))) (.lfA (zbv v1 (w1 k)) (.inr (.inl ((w1 (w1 (w1 (w1 s)))),k,false,bf,bf,bf,bt,gn,gn,gn,gn,gn,gn,gn,gn,gn,gn,gn))))<|.kx Te.i v1 k x<|.callF (zwa x.fa.fc (w1 (w1 (w1 (w1 (w1 s)))))) fun(v73:Int)=>.br (decide (v73<0)) (.lfA (zbv v1 (w1 k)) (.inr (.inl (v73,k,false,bf,bf,bf,bf,bt,gn,gn,gn,gn,gn,gn,gn,gn,gn,gn))))<|.kx Te.i v1 k x<|.callF (zsd x.fa.ff v73) fun(v76:Int)=>.br (decide (v76<0)) (.lfA (zbv v1 (w1 k)) (.inr (.inl (v76,k,false,bf,bf,bf,bf,bf,bt,gn,gn,gn,gn,gn,gn,gn,gn,gn))))<|.kx Te.i v1 k x<|.br (decide (x.fa.fw≠v76)) (.lfA (zbv v1 (w1 k)) (.inr (.inl (v76,k,false,bf,bf,bf,bf,bf,bf,bt,gn,gn,gn,gn,gn,gn,gn,gn))))<|.kx Te.i v1 k x<|.callF (yqu x.fak (w1 v76)) fun(v80:Int)=>.br (decide (v80<0)) (.lfA (zbv v1 (w1 k)) (.inr (.inl (v80,k,false,bf,bf,bf,bf,bf,bf,bf,bt,gn,gn,gn,gn,gn,gn,gn))))<|.kx Te.i v1 k x<|.callF (yqq x.fal v80) fun(v83:Int)=>.br (decide (v83<0)) (.lfA (zbv v1 (w1 k)) (.inr (.inl (v83,k,false,bf,bf,bf,bf,bf,bf,bf,bf,bt,gn,gn,gn,gn,gn,gn))))<|.kx Te.i v1 k x<|.br (decide (x.fb.fi≠v83)) (.lfA (zbv v1 (w1 k)) (.inr (.inl (v83,k,false,bf,bf,bf,bf,bf,bf,bf,bf,bf,bt,gn,gn,gn,gn,gn))))<|.kx Te.i v1 k x<|.br (decide (x.fb.faj≠(w1 v83))) (.lfA (zbv v1 (w1 k)) (.inr (.inl ((w1 v83),k,false,bf,bf,bf,bf,bf,bf,bf,bf,bf,bf,bt,gn,gn,gn,gn))))<|.kx Te.i v1 k x<|.br (decide (x.fb.fh≠(w1 (w1 v83)))) (.lfA (zbv v1 (w1 k)) (.inr (.inl ((w1 (w1 v83)),k,false,bf,bf,bf,bf,bf,bf,bf,bf,bf,bf,bf,bt,gn,gn,gn))))<|.kx Te.i v1 k x<|.br (decide (x.fb.fN≠(w1 (w1 (w1 v83))))) (.lfA (zbv v1 (w1 k)) (.inr (.inl ((w1 (w1 (w1 v83))),k,false,bf,bf,bf,bf,bf,bf,bf,bf,bf,bf,bf,bf,bt,gn,gn))))<|.kx Te.i v1 k x<|.callF (zwa x.fb.fc (w1 (w1 (w1 (w1 v83))))) fun(v90:Int)=>.br (decide (v90<0)) (.lfA (zbv v1 (w1 k)) (.inr (.inl (v90,k,false,bf,bf,bf,bf,bf,bf,bf,bf,bf,bf,bf,bf,bf,bt,gn))))<|.kx Te.i v1 k x<|.callF (zsd x.fb.ff v90) fun(v93:Int)=>.br (decide (v93<0)) (.lfA (zbv v1 (w1 k)) (.inr (.inl (v93,k,false,bf,bf,bf,bf,bf,bf,bf,bf,bf,bf,bf,bf,bf,bf,bt))))<|.lfA (zbv v1 (w1 k)) (.inl v93))) (E:=fun s=>(.hE Te.i v1<|.lfA (zbv v1 0) (.inr (.inr s)))) (by kernel_rfl) (fun d x t s he=>hD he<|kX he<|bR rfl<|kX he<|bR rfl<|kX he<|bR rfl<|kX he<|bR rfl<|kX he<|bR rfl<|kX he<|cF zwz fun v73=>bR rfl<|kX he<|cF zwk fun v76=>bR rfl<|kX he<|bR rfl<|kX he<|cF yre fun v80=>bR rfl<|kX he<|cF yxv fun v83=>bR rfl<|kX he<|bR rfl<|kX he<|bR rfl<|kX he<|bR rfl<|kX he<|bR rfl<|kX he<|cF zwz fun v90=>bR rfl<|kX he<|cF zwk fun v93=>bR rfl<|rfl) (ho2 (fun _=>rfl) fun _=>rfl) (fun s=>hZ rfl) s)
def yoo (v1:List Te) (v2:Int):Option Int:=(zrh v1 v2).bind (zd2 (fun (v96:Int×Int×Bool×V×V×V×V×V×V×V×V×V×V×V×V×V×V×V)=>(some (-1))) (fun (v97:Int)=>(some v97)))
def yw7 (v1:List Te) (v2:Int):Ctr:=⟨56,[.imm 16 (v1.map Te.i),.I v2],[],Int,yoo v1 v2,rI⟩
theorem yya {v1:List Te} {v2:Int}:(yw7 v1 v2).okF tab:=okF_of rfl rfl (.lp2 (zzk v1 v2) (fun (v96:Int×Int×Bool×V×V×V×V×V×V×V×V×V×V×V×V×V×V×V)=>.lfA rI (-1)) (fun (v97:Int)=>.lfA rI v97):Tree Int _) (by kernel_rfl) (lQ yit (fun v96=>rfl) (fun v97=>rfl))
def zu5 (v1:List Tg) (k:Int) (s:Int):St:=⟨sv 20 [(0,.imm 15 (v1.map Tg.i)),(1,.I s),(3,.I k)],[]⟩
def zn1 (v1:List Tg):(Int×Int×Bool×V×V×V×V×V×V×V×V×V×V×V×V×V×V)->Ex×St:=fun p=>(.ret,⟨sv 20 [(0,.imm 15 (v1.map Tg.i)),(1,.I p.1),(2,.I (-1)),(3,.I p.2.1),(4,.bool true),(5,.bool p.2.2.1),(6,p.2.2.2.1),(7,p.2.2.2.2.1),(8,p.2.2.2.2.2.1),(9,p.2.2.2.2.2.2.1),(10,p.2.2.2.2.2.2.2.1),(11,p.2.2.2.2.2.2.2.2.1),(12,p.2.2.2.2.2.2.2.2.2.1),(13,p.2.2.2.2.2.2.2.2.2.2.1),(14,p.2.2.2.2.2.2.2.2.2.2.2.1),(15,p.2.2.2.2.2.2.2.2.2.2.2.2.1),(16,p.2.2.2.2.2.2.2.2.2.2.2.2.2.1),(17,p.2.2.2.2.2.2.2.2.2.2.2.2.2.2.1),(18,p.2.2.2.2.2.2.2.2.2.2.2.2.2.2.2.1),(19,p.2.2.2.2.2.2.2.2.2.2.2.2.2.2.2.2)],[]⟩)
def zmu (v1:List Tg):Int->Ex×St:=fun p=>((.exit 0),⟨sv 20 [(0,.imm 15 (v1.map Tg.i)),(1,.I p),(3,.I (v1.length:Int)),(4,.bool false)],[]⟩)
def zby (v1:List Tg) (k:Int):=zc0 (zu5 v1 k) (Sum.elim (zn1 v1) (zmu v1))
def zru (v1:List Tg) (k:Int) (x:Tg) (s:Int):Option ((Int)⊕((Int×Int×Bool×V×V×V×V×V×V×V×V×V×V×V×V×V×V)⊕Int)):=bif decide (x.fj≠s) then(some (.inr (.inl (s,k,true,gn,gn,gn,gn,gn,gn,gn,gn,gn,gn,gn,gn,gn,gn)))) else(bif decide (x.fae≠(w1 s)) then(some (.inr (.inl ((w1 s),k,false,bt,gn,gn,gn,gn,gn,gn,gn,gn,gn,gn,gn,gn,gn)))) else(bif decide (x.fe≠(w1 (w1 s))) then(some (.inr (.inl ((w1 (w1 s)),k,false,bf,bt,gn,gn,gn,gn,gn,gn,gn,gn,gn,gn,gn,gn)))) else(bif decide (x.fa.fi≠(w1 (w1 (w1 s)))) then(some (.inr (.inl ((w1 (w1 (w1 s))),k,false,bf,bf,bt,gn,gn,gn,gn,gn,gn,gn,gn,gn,gn,gn)))) else(bif decide (x.fa.fh≠(w1 (w1 (w1 (w1 s))))) then(some (.inr (.inl ((w1 (w1 (w1 (w1 s)))),k,false,bf,bf,bf,bt,gn,gn,gn,gn,gn,gn,gn,gn,gn,gn)))) else(bif decide (x.fa.fN≠(w1 (w1 (w1 (w1 (w1 s)))))) then(some (.inr (.inl ((w1 (w1 (w1 (w1 (w1 s))))),k,false,bf,bf,bf,bf,bt,gn,gn,gn,gn,gn,gn,gn,gn,gn)))) else((zqi x.fa.fc (w1 (w1 (w1 (w1 (w1 (w1 s))))))).bind fun v64=>(bif decide (v64<0) then(some (.inr (.inl (v64,k,false,bf,bf,bf,bf,bf,bt,gn,gn,gn,gn,gn,gn,gn,gn)))) else((zp8 x.fa.ff v64).bind fun v67=>(bif decide (v67<0) then(some (.inr (.inl (v67,k,false,bf,bf,bf,bf,bf,bf,bt,gn,gn,gn,gn,gn,gn,gn)))) else(bif decide (x.fa.fw≠v67) then(some (.inr (.inl (v67,k,false,bf,bf,bf,bf,bf,bf,bf,bt,gn,gn,gn,gn,gn,gn)))) else(bif decide (x.fb.fi≠(w1 v67)) then(some (.inr (.inl ((w1 v67),k,false,bf,bf,bf,bf,bf,bf,bf,bf,bt,gn,gn,gn,gn,gn)))) else(bif decide (x.fb.faj≠(w1 (w1 v67))) then(some (.inr (.inl ((w1 (w1 v67)),k,false,bf,bf,bf,bf,bf,bf,bf,bf,bf,bt,gn,gn,gn,gn)))) else(bif decide (x.fb.fh≠(w1 (w1 (w1 v67)))) then(some (.inr (.inl ((w1 (w1 (w1 v67))),k,false,bf,bf,bf,bf,bf,bf,bf,bf,bf,bf,bt,gn,gn,gn)))) else(bif decide (x.fb.fN≠(w1 (w1 (w1 (w1 v67))))) then(some (.inr (.inl ((w1 (w1 (w1 (w1 v67)))),k,false,bf,bf,bf,bf,bf,bf,bf,bf,bf,bf,bf,bt,gn,gn)))) else((zqi x.fb.fc (w1 (w1 (w1 (w1 (w1 v67)))))).bind fun v75=>(bif decide (v75<0) then(some (.inr (.inl (v75,k,false,bf,bf,bf,bf,bf,bf,bf,bf,bf,bf,bf,bf,bt,gn)))) else((zp8 x.fb.ff v75).bind fun v78=>(bif decide (v78<0) then(some (.inr (.inl (v78,k,false,bf,bf,bf,bf,bf,bf,bf,bf,bf,bf,bf,bf,bf,bt)))) else(some (.inl v78))))))))))))))))))))
def ybl (v1:List Tg) (s:Int):Option ((Int×Int×Bool×V×V×V×V×V×V×V×V×V×V×V×V×V×V)⊕Int):=some ((.inr s))
def zrn (v1:List Tg) (s:Int):Option ((Int×Int×Bool×V×V×V×V×V×V×V×V×V×V×V×V×V×V)⊕Int):=if v1.length<=9223372036854775806 then zah (zru v1) (ybl v1) v1 0 s else none
def zzv (v1:List Tg) (s:Int):Lc2:=⟨20,yh2,0,[2,4,5,6,7,8,9,10,11,12,13,14,15,16,17,18,19],some (zu5 v1 0 s),Int×Int×Bool×V×V×V×V×V×V×V×V×V×V×V×V×V×V,Int,zrn v1 s,zn1 v1,zmu v1⟩
theorem yi6 {v1:List Tg} {s:Int}:(zzv v1 s).ok tab:=zb2 (list_oky (J:=zu5 v1) (o:=(Sum.elim (zn1 v1) (zmu v1))) v1 (B:=fun k x s=>(.hT Tg.i v1 k<|.kx Tg.i v1 k x<|.br (decide (x.fj≠s)) (.lfA (zby v1 (w1 k)) (.inr (.inl (s,k,true,gn,gn,gn,gn,gn,gn,gn,gn,gn,gn,gn,gn,gn,gn))))<|.kx Tg.i v1 k x<|.br (decide (x.fae≠(w1 s))) (.lfA (zby v1 (w1 k)) (.inr (.inl ((w1 s),k,false,bt,gn,gn,gn,gn,gn,gn,gn,gn,gn,gn,gn,gn,gn))))<|.kx Tg.i v1 k x<|.br (decide (x.fe≠(w1 (w1 s)))) (.lfA (zby v1 (w1 k)) (.inr (.inl ((w1 (w1 s)),k,false,bf,bt,gn,gn,gn,gn,gn,gn,gn,gn,gn,gn,gn,gn))))<|.kx Tg.i v1 k x<|.br (decide (x.fa.fi≠(w1 (w1 (w1 s))))) (.lfA (zby v1 (w1 k)) (.inr (.inl ((w1 (w1 (w1 s))),k,false,bf,bf,bt,gn,gn,gn,gn,gn,gn,gn,gn,gn,gn,gn))))<|.kx Tg.i v1 k x<|.br (decide (x.fa.fh≠(w1 (w1 (w1 (w1 s)))))) (.lfA (zby v1 (w1 k)) (.inr (.inl ((w1 (w1 (w1 (w1 s)))),k,false,bf,bf,bf,bt,gn,gn,gn,gn,gn,gn,gn,gn,gn,gn))))<|.kx Tg.i v1 k x<|.br (decide (x.fa.fN≠(w1 (w1 (w1 (w1 (w1 s))))))) (.lfA (zby v1 (w1 k)) (.inr (.inl ((w1 (w1 (w1 (w1 (w1 s))))),k,false,bf,bf,bf,bf,bt,gn,gn,gn,gn,gn,gn,gn,gn,gn))))<|.kx Tg.i v1 k x<|.callF (zwa x.fa.fc (w1 (w1 (w1 (w1 (w1 (w1 s))))))) fun(v64:Int)=>.br (decide (v64<0)) (.lfA (zby v1 (w1 k)) (.inr (.inl (v64,k,false,bf,bf,bf,bf,bf,bt,gn,gn,gn,gn,gn,gn,gn,gn))))<|.kx Tg.i v1 k x<|.callF (zsd x.fa.ff v64) fun(v67:Int)=>.br (decide (v67<0)) (.lfA (zby v1 (w1 k)) (.inr (.inl (v67,k,false,bf,bf,bf,bf,bf,bf,bt,gn,gn,gn,gn,gn,gn,gn))))<|.kx Tg.i v1 k x<|.br (decide (x.fa.fw≠v67)) (.lfA (zby v1 (w1 k)) (.inr (.inl (v67,k,false,bf,bf,bf,bf,bf,bf,bf,bt,gn,gn,gn,gn,gn,gn))))<|.kx Tg.i v1 k x<|.br (decide (x.fb.fi≠(w1 v67))) (.lfA (zby v1 (w1 k)) (.inr (.inl ((w1 v67),k,false,bf,bf,bf,bf,bf,bf,bf,bf,bt,gn,gn,gn,gn,gn))))<|.kx Tg.i v1 k x<|.br (decide (x.fb.faj≠(w1 (w1 v67)))) (.lfA (zby v1 (w1 k)) (.inr (.inl ((w1 (w1 v67)),k,false,bf,bf,bf,bf,bf,bf,bf,bf,bf,bt,gn,gn,gn,gn))))<|.kx Tg.i v1 k x<|.br (decide (x.fb.fh≠(w1 (w1 (w1 v67))))) (.lfA (zby v1 (w1 k)) (.inr (.inl ((w1 (w1 (w1 v67))),k,false,bf,bf,bf,bf,bf,bf,bf,bf,bf,bf,bt,gn,gn,gn))))<|.kx Tg.i v1 k x<|.br (decide (x.fb.fN≠(w1 (w1 (w1 (w1 v67)))))) (.lfA (zby v1 (w1 k)) (.inr (.inl ((w1 (w1 (w1 (w1 v67)))),k,false,bf,bf,bf,bf,bf,bf,bf,bf,bf,bf,bf,bt,gn,gn))))<|.kx Tg.i v1 k x<|.callF (zwa x.fb.fc (w1 (w1 (w1 (w1 (w1 v67)))))) fun(v75:Int)=>.br (decide (v75<0)) (.lfA (zby v1 (w1 k)) (.inr (.inl (v75,k,false,bf,bf,bf,bf,bf,bf,bf,bf,bf,bf,bf,bf,bt,gn))))<|.kx Tg.i v1 k x<|.callF (zsd x.fb.ff v75) fun(v78:Int)=>.br (decide (v78<0)) (.lfA (zby v1 (w1 k)) (.inr (.inl (v78,k,false,bf,bf,bf,bf,bf,bf,bf,bf,bf,bf,bf,bf,bf,bt))))<|.lfA (zby v1 (w1 k)) (.inl v78))) (E:=fun s=>(.hE Tg.i v1<|.lfA (zby v1 0) (.inr (.inr s)))) (by kernel_rfl) (fun d x t s he=>hD he<|kX he<|bR rfl<|kX he<|bR rfl<|kX he<|bR rfl<|kX he<|bR rfl<|kX he<|bR rfl<|kX he<|bR rfl<|kX he<|cF zwz fun v64=>bR rfl<|kX he<|cF zwk fun v67=>bR rfl<|kX he<|bR rfl<|kX he<|bR rfl<|kX he<|bR rfl<|kX he<|bR rfl<|kX he<|bR rfl<|kX he<|cF zwz fun v75=>bR rfl<|kX he<|cF zwk fun v78=>bR rfl<|rfl) (ho2 (fun _=>rfl) fun _=>rfl) (fun s=>hZ rfl) s)
def ypm (v1:List Tg) (v2:Int):Option Int:=(zrn v1 v2).bind (zd2 (fun (v81:Int×Int×Bool×V×V×V×V×V×V×V×V×V×V×V×V×V×V)=>(some (-1))) (fun (v82:Int)=>(some v82)))
def yv8 (v1:List Tg) (v2:Int):Ctr:=⟨102,[.imm 15 (v1.map Tg.i),.I v2],[],Int,ypm v1 v2,rI⟩
theorem qe4 {v1:List Tg} {v2:Int}:(yv8 v1 v2).okF tab:=okF_of rfl rfl (.lp2 (zzv v1 v2) (fun (v81:Int×Int×Bool×V×V×V×V×V×V×V×V×V×V×V×V×V×V)=>.lfA rI (-1)) (fun (v82:Int)=>.lfA rI v82):Tree Int _) (by kernel_rfl) (lQ yi6 (fun v81=>rfl) (fun v82=>rfl))
def yle (v1:To) (v2:Int):Option Int:=(ynl v1.fF v2).bind fun v3=>(bif decide (v3<0) then(some (-1)) else((yp6 v1.fag v3).bind fun v6=>(bif decide (v6<0) then(some (-1)) else((ype v1.faf v6).bind fun v9=>(bif decide (v9<0) then(some (-1)) else((yoo v1.fah v9).bind fun v12=>(bif decide (v12<0) then(some (-1)) else((ypm v1.fai v12).bind fun v15=>(bif decide (v15<0) then(some (-1)) else(some v15))))))))))
def yqy (v1:To) (v2:Int):Ctr:=⟨39,[v1.i,.I v2],[],Int,yle v1 v2,rI⟩
theorem yva {v1:To} {v2:Int}:(yqy v1 v2).okF tab:=okF_of rfl rfl (.callF (ysb v1.fF v2) fun(v3:Int)=>.br (decide (v3<0)) (.lfA rI (-1))<|.callF (ysk v1.fag v3) fun(v6:Int)=>.br (decide (v6<0)) (.lfA rI (-1))<|.callF (yvc v1.faf v6) fun(v9:Int)=>.br (decide (v9<0)) (.lfA rI (-1))<|.callF (yw7 v1.fah v9) fun(v12:Int)=>.br (decide (v12<0)) (.lfA rI (-1))<|.callF (yv8 v1.fai v12) fun(v15:Int)=>.br (decide (v15<0)) (.lfA rI (-1))<|.lfA rI v15:Tree Int _) (by kernel_rfl) (cF qc0 fun v3=>bR rfl<|cF qcv fun v6=>bR rfl<|cF yz7 fun v9=>bR rfl<|cF yya fun v12=>bR rfl<|cF qe4 fun v15=>bR rfl<|rfl)
def yqm (v1:Tk) (v2:List Ta):Option Bool:=(yql v1 1048576).bind fun v3=>(bif decide (v3<0) then(some true) else((yqt v2 v3).bind fun v6=>(bif decide (v6<0) then(some true) else((yk1 v1).bind fun v9=>((ykl v2).bind fun v11=>((yno v9 v11).bind fun v13=>((yk1 v1).bind fun v15=>((ykl v2).bind fun v17=>((yn3 v15 v17).bind fun v19=>((yln v19.1 v13.1).bind fun v21=>(bif !v21 then(some false) else(bif true ^^ (v19.2 == v13.2) then(some false) else((yk1 v1).bind fun v25=>((ymn v15 v25).bind fun v27=>(bif !v27 then(some false) else((ykl v2).bind fun v30=>((yn9 v17 v30).bind fun v32=>(bif !v32 then(some false) else((ylt v15 1).bind fun v35=>((yn6 v17 v35.1).bind fun v36=>(bif decide (v36.1<0) then(some false) else((yln v19.1 v13.1).bind fun v38=>(bif !v38 then(some false) else((yom v19.1 1).bind fun v41=>((yle (⟨({ v19.1.fF with fp:=({ v19.1.fF.fp with fd:=v41.2.fF.fp.fd }:Tk),fq:=(⟨v19.1.fF.fq.fao,v41.2.fF.fq.fr⟩:Tp),ft:=v41.2.fF.ft }:Tn),v41.2.fag,v41.2.faf,v41.2.fah,v41.2.fai⟩:To) 1).bind fun v42=>(bif decide (v42<0) then(some false) else(bif decide (v42≠v41.1) then(some false) else((yk1 v1).bind fun v46=>((ykl v2).bind fun v48=>((yn3 v46 v48).bind fun v50=>((yln v50.1 v13.1).bind fun v52=>(bif !v52 then(some false) else(bif true ^^ (v50.2 == v13.2) then(some false) else((yle (⟨({ v19.1.fF with fp:=({ v19.1.fF.fp with fd:=v41.2.fF.fp.fd }:Tk),fq:=(⟨v19.1.fF.fq.fao,v41.2.fF.fq.fr⟩:Tp),ft:=v41.2.fF.ft }:Tn),v41.2.fag,v41.2.faf,v41.2.fah,v41.2.fai⟩:To) 1).bind fun v56=>(bif decide (v56<0) then(some false) else(bif decide (v56≠v41.1) then(some false) else(some true)))))))))))))))))))))))))))))))))))))
def qc2 (v1:Tk) (v2:List Ta):Ctr:=⟨7,[v1.i,.imm 6 (v2.map Ta.i)],[],Bool,yqm v1 v2,rB⟩
theorem qao {v1:Tk} {v2:List Ta}:(qc2 v1 v2).okF tab:=okF_of rfl rfl (.callF (ywq v1 1048576) fun(v3:Int)=>.br (decide (v3<0)) (.lfA rB true)<|.callF (yu7 v2 v3) fun(v6:Int)=>.br (decide (v6<0)) (.lfA rB true)<|.callF (ymh v1) fun(v9:Tk)=>.callF (ymv v2) fun(v11:List Ta)=>.se Tb.i Tb.i v9.fd<|.se Ta.o Ta.i v11<|.callF (ytt v9 v11) fun(v13:To×Bool)=>.segA Tb.i v13.1.fF.fp.fd<|.segA Td.o v13.1.fF.fq.fr<|.segA Tc.o v13.1.fF.ft<|.segA Ta.o v13.1.fag<|.segA Tf.o v13.1.faf<|.segA Te.o v13.1.fah<|.segA Tg.o v13.1.fai<|.segA Tb.i v13.1.fF.fp.fd<|.segA Td.o v13.1.fF.fq.fr<|.segA Tc.o v13.1.fF.ft<|.segA Ta.o v13.1.fag<|.segA Tf.o v13.1.faf<|.segA Te.o v13.1.fah<|.segA Tg.o v13.1.fai<|.segA Tb.i v13.1.fF.fp.fd<|.segA Td.o v13.1.fF.fq.fr<|.segA Tc.o v13.1.fF.ft<|.segA Ta.o v13.1.fag<|.segA Tf.o v13.1.faf<|.segA Te.o v13.1.fah<|.segA Tg.o v13.1.fai<|.callF (ymh v1) fun(v15:Tk)=>.segA Tb.i v15.fd<|.callF (ymv v2) fun(v17:List Ta)=>.segA Ta.o v17<|.se Tb.i Tb.i v15.fd<|.se Ta.o Ta.i v17<|.callF (yq3 v15 v17) fun(v19:To×Bool)=>.segA Tb.i v19.1.fF.fp.fd<|.segA Td.o v19.1.fF.fq.fr<|.segA Tc.o v19.1.fF.ft<|.segA Ta.o v19.1.fag<|.segA Tf.o v19.1.faf<|.segA Te.o v19.1.fah<|.segA Tg.o v19.1.fai<|.segA Tb.i v19.1.fF.fp.fd<|.segA Td.o v19.1.fF.fq.fr<|.segA Tc.o v19.1.fF.ft<|.segA Ta.o v19.1.fag<|.segA Tf.o v19.1.faf<|.segA Te.o v19.1.fah<|.segA Tg.o v19.1.fai<|.segA Tb.i v19.1.fF.fp.fd<|.segA Td.o v19.1.fF.fq.fr<|.segA Tc.o v19.1.fF.ft<|.segA Ta.o v19.1.fag<|.segA Tf.o v19.1.faf<|.segA Te.o v19.1.fah<|.segA Tg.o v19.1.fai<|.se Tb.i Tb.i v19.1.fF.fp.fd<|.se Td.o Td.i v19.1.fF.fq.fr<|.se Tc.o Tc.i v19.1.fF.ft<|.se Ta.o Ta.i v19.1.fag<|.se Tf.o Tf.i v19.1.faf<|.se Te.o Te.i v19.1.fah<|.se Tg.o Tg.i v19.1.fai<|.se Tb.i Tb.i v13.1.fF.fp.fd<|.se Td.o Td.i v13.1.fF.fq.fr<|.se Tc.o Tc.i v13.1.fF.ft<|.se Ta.o Ta.i v13.1.fag<|.se Tf.o Tf.i v13.1.faf<|.se Te.o Te.i v13.1.fah<|.se Tg.o Tg.i v13.1.fai<|.callF (ypk v19.1 v13.1) fun v21=>.br (!v21) (.lfA rB false)<|.br (true ^^ (v19.2 == v13.2)) (.lfA rB false)<|.callF (ymh v1) fun(v25:Tk)=>.se Tb.i Tb.i v15.fd<|.se Tb.i Tb.i v25.fd<|.callF (yqg v15 v25) fun v27=>.br (!v27) (.lfA rB false)<|.callF (ymv v2) fun(v30:List Ta)=>.se Ta.o Ta.i v17<|.se Ta.o Ta.i v30<|.callF (yqh v17 v30) fun v32=>.br (!v32) (.lfA rB false)<|.ob ((v15.fd.map Tb.i).length=List.length ((v15.fd.map Tb.i)))<|.call (yqa v15 1) fun(v35:Int×Tk)=>.ob ((v17.map Ta.o).length=List.length ((v17.map Ta.o)))<|.call (yq0 v17 v35.1) fun(v36:Int×List Ta)=>.br (decide (v36.1<0)) (.lfA rB false)<|.se Tb.i Tb.i v19.1.fF.fp.fd<|.se Td.o Td.i v19.1.fF.fq.fr<|.se Tc.o Tc.i v19.1.fF.ft<|.se Ta.o Ta.i v19.1.fag<|.se Tf.o Tf.i v19.1.faf<|.se Te.o Te.i v19.1.fah<|.se Tg.o Tg.i v19.1.fai<|.se Tb.i Tb.i v13.1.fF.fp.fd<|.se Td.o Td.i v13.1.fF.fq.fr<|.se Tc.o Tc.i v13.1.fF.ft<|.se Ta.o Ta.i v13.1.fag<|.se Tf.o Tf.i v13.1.faf<|.se Te.o Te.i v13.1.fah<|.se Tg.o Tg.i v13.1.fai<|.callF (ypk v19.1 v13.1) fun v38=>.br (!v38) (.lfA rB false)<|.kb (true ^^ (v19.2 == v13.2)) false<|.ob ((v19.1.fF.fp.fd.map Tb.i).length=List.length ((v19.1.fF.fp.fd.map Tb.i)))<|.ob ((v19.1.fF.fq.fr.map Td.o).length=List.length ((v19.1.fF.fq.fr.map Td.o)))<|.ob ((v19.1.fF.ft.map Tc.o).length=List.length ((v19.1.fF.ft.map Tc.o)))<|.ob ((v19.1.fag.map Ta.o).length=List.length ((v19.1.fag.map Ta.o)))<|.ob ((v19.1.faf.map Tf.o).length=List.length ((v19.1.faf.map Tf.o)))<|.ob ((v19.1.fah.map Te.o).length=List.length ((v19.1.fah.map Te.o)))<|.ob ((v19.1.fai.map Tg.o).length=List.length ((v19.1.fai.map Tg.o)))<|.call (yrn v19.1 1) fun(v41:Int×To)=>.se Tb.i Tb.i v41.2.fF.fp.fd<|.se Td.o Td.i v41.2.fF.fq.fr<|.se Tc.o Tc.i v41.2.fF.ft<|.se Ta.o Ta.i v41.2.fag<|.se Tf.o Tf.i v41.2.faf<|.se Te.o Te.i v41.2.fah<|.se Tg.o Tg.i v41.2.fai<|.callF (yqy (⟨({ v19.1.fF with fp:=({ v19.1.fF.fp with fd:=v41.2.fF.fp.fd }:Tk),fq:=(⟨v19.1.fF.fq.fao,v41.2.fF.fq.fr⟩:Tp),ft:=v41.2.fF.ft }:Tn),v41.2.fag,v41.2.faf,v41.2.fah,v41.2.fai⟩:To) 1) fun(v42:Int)=>.br (decide (v42<0)) (.lfA rB false)<|.br (decide (v42≠v41.1)) (.lfA rB false)<|.callF (ymh v1) fun(v46:Tk)=>.callF (ymv v2) fun(v48:List Ta)=>.se Tb.i Tb.i v46.fd<|.se Ta.o Ta.i v48<|.callF (yq3 v46 v48) fun(v50:To×Bool)=>.segA Tb.i v50.1.fF.fp.fd<|.segA Td.o v50.1.fF.fq.fr<|.segA Tc.o v50.1.fF.ft<|.segA Ta.o v50.1.fag<|.segA Tf.o v50.1.faf<|.segA Te.o v50.1.fah<|.segA Tg.o v50.1.fai<|.segA Tb.i v50.1.fF.fp.fd<|.segA Td.o v50.1.fF.fq.fr<|.segA Tc.o v50.1.fF.ft<|.segA Ta.o v50.1.fag<|.segA Tf.o v50.1.faf<|.segA Te.o v50.1.fah<|.segA Tg.o v50.1.fai<|.segA Tb.i v50.1.fF.fp.fd<|.segA Td.o v50.1.fF.fq.fr<|.segA Tc.o v50.1.fF.ft<|.segA Ta.o v50.1.fag<|.segA Tf.o v50.1.faf<|.segA Te.o v50.1.fah<|.segA Tg.o v50.1.fai<|.se Tb.i Tb.i v50.1.fF.fp.fd<|.se Td.o Td.i v50.1.fF.fq.fr<|.se Tc.o Tc.i v50.1.fF.ft<|.se Ta.o Ta.i v50.1.fag<|.se Tf.o Tf.i v50.1.faf<|.se Te.o Te.i v50.1.fah<|.se Tg.o Tg.i v50.1.fai<|.se Tb.i Tb.i v13.1.fF.fp.fd<|.se Td.o Td.i v13.1.fF.fq.fr<|.se Tc.o Tc.i v13.1.fF.ft<|.se Ta.o Ta.i v13.1.fag<|.se Tf.o Tf.i v13.1.faf<|.se Te.o Te.i v13.1.fah<|.se Tg.o Tg.i v13.1.fai<|.callF (ypk v50.1 v13.1) fun v52=>.br (!v52) (.lfA rB false)<|.br (true ^^ (v50.2 == v13.2)) (.lfA rB false)<|.se Tb.i Tb.i v41.2.fF.fp.fd<|.se Td.o Td.i v41.2.fF.fq.fr<|.se Tc.o Tc.i v41.2.fF.ft<|.se Ta.o Ta.i v41.2.fag<|.se Tf.o Tf.i v41.2.faf<|.se Te.o Te.i v41.2.fah<|.se Tg.o Tg.i v41.2.fai<|.callF (yqy (⟨({ v19.1.fF with fp:=({ v19.1.fF.fp with fd:=v41.2.fF.fp.fd }:Tk),fq:=(⟨v19.1.fF.fq.fao,v41.2.fF.fq.fr⟩:Tp),ft:=v41.2.fF.ft }:Tn),v41.2.fag,v41.2.faf,v41.2.fah,v41.2.fai⟩:To) 1) fun(v56:Int)=>.br (decide (v56<0)) (.lfA rB false)<|.br (decide (v56≠v41.1)) (.lfA rB false)<|.lfA rB true) (by kernel_rfl) (cF yzz fun v3=>bR rfl<|cF qat fun v6=>bR rfl<|cF yo5 fun v9=>cF yp2 fun v11=>sE (fun _=>rfl)<|sE Ta.o_i<|cF qea fun v13=>sA<|sA<|sA<|sA<|sA<|sA<|sA<|sA<|sA<|sA<|sA<|sA<|sA<|sA<|sA<|sA<|sA<|sA<|sA<|sA<|sA<|cF yo5 fun v15=>sA<|cF yp2 fun v17=>sA<|sE (fun _=>rfl)<|sE Ta.o_i<|cF yte fun v19=>sA<|sA<|sA<|sA<|sA<|sA<|sA<|sA<|sA<|sA<|sA<|sA<|sA<|sA<|sA<|sA<|sA<|sA<|sA<|sA<|sA<|sE (fun _=>rfl)<|sE Td.o_i<|sE Tc.o_i<|sE Ta.o_i<|sE Tf.o_i<|sE Te.o_i<|sE Tg.o_i<|sE (fun _=>rfl)<|sE Td.o_i<|sE Tc.o_i<|sE Ta.o_i<|sE Tf.o_i<|sE Te.o_i<|sE Tg.o_i<|cF ypu fun v21=>bR rfl<|⟨fun h24=>rfl,fun h24=>cF yo5 fun v25=>sE (fun _=>rfl)<|sE (fun _=>rfl)<|cF ysh fun v27=>bR rfl<|cF yp2 fun v30=>sE Ta.o_i<|sE Ta.o_i<|cF ywx fun v32=>bR rfl<|⟨rfl,cE yv2 fun v35=>⟨rfl,cE yvi fun v36=>bR rfl<|sE (fun _=>rfl)<|sE Td.o_i<|sE Tc.o_i<|sE Ta.o_i<|sE Tf.o_i<|sE Te.o_i<|sE Tg.o_i<|sE (fun _=>rfl)<|sE Td.o_i<|sE Tc.o_i<|sE Ta.o_i<|sE Tf.o_i<|sE Te.o_i<|sE Tg.o_i<|cF ypu fun v38=>bR rfl<|⟨h24,⟨rfl,⟨rfl,⟨rfl,⟨rfl,⟨rfl,⟨rfl,⟨rfl,cE yy1 fun v41=>sE (fun _=>rfl)<|sE Td.o_i<|sE Tc.o_i<|sE Ta.o_i<|sE Tf.o_i<|sE Te.o_i<|sE Tg.o_i<|cF yva fun v42=>bR rfl<|bR rfl<|cF yo5 fun v46=>cF yp2 fun v48=>sE (fun _=>rfl)<|sE Ta.o_i<|cF yte fun v50=>sA<|sA<|sA<|sA<|sA<|sA<|sA<|sA<|sA<|sA<|sA<|sA<|sA<|sA<|sA<|sA<|sA<|sA<|sA<|sA<|sA<|sE (fun _=>rfl)<|sE Td.o_i<|sE Tc.o_i<|sE Ta.o_i<|sE Tf.o_i<|sE Te.o_i<|sE Tg.o_i<|sE (fun _=>rfl)<|sE Td.o_i<|sE Tc.o_i<|sE Ta.o_i<|sE Tf.o_i<|sE Te.o_i<|sE Tg.o_i<|cF ypu fun v52=>bR rfl<|bR rfl<|sE (fun _=>rfl)<|sE Td.o_i<|sE Tc.o_i<|sE Ta.o_i<|sE Tf.o_i<|sE Te.o_i<|sE Tg.o_i<|cF yva fun v56=>bR rfl<|bR rfl<|rfl⟩⟩⟩⟩⟩⟩⟩⟩⟩⟩⟩)
end Go.Pm
namespace Go.Pm
set_option maxRecDepth 100000
set_option maxHeartbeats 400000
theorem zaj {p:PT} {ps:List PT} {vs:List V} (h:PT.hasAll (p::ps) vs):∃ v vs',vs=v::vs'/\p.has v/\PT.hasAll ps vs':=by simpa only [PT.hasAll] using h
theorem zfp {vs:List V} (h:PT.hasAll [] vs):vs=[]:=by simpa only [PT.hasAll] using h
theorem zhq:∀ {ps qs:List PT} {vs:List V},PT.hasAll (ps++qs) vs->∃ us ws,vs=us++ws/\PT.hasAll ps us/\PT.hasAll qs ws
 | [],qs,vs,h=>⟨[],vs,rfl,by simp only [PT.hasAll],h⟩
 | p::ps,qs,vs,h=>by
   obtain ⟨v,vs',rfl,h1,h2⟩:=zaj h
   obtain ⟨us,ws,rfl,h3,h4⟩:=zhq h2
   exact ⟨v::us,ws,rfl,by simp only [PT.hasAll];exact ⟨v,us,rfl,h1,h3⟩,h4⟩
theorem zd0 {v:V} (h:(PT.int .i64).has v):∃ n,v=.int .i64 n/\ -9223372036854775808<=n/\n<=9223372036854775807:=by
 simp only [PT.has] at h
 obtain ⟨n,rfl,h1,h2⟩:=h
 exact ⟨n,rfl,by simpa [IntKind.min,IntKind.signed,IntKind.bits] using h1,by simpa [IntKind.max,IntKind.signed,IntKind.bits] using h2⟩
theorem yfa {v:V} (h:PT.bool.has v):∃ b,v=.bool b:=by simpa only [PT.has] using h
theorem zpf {α:Type} {f:α->V} {Q:α->Prop}:∀ {xs:List V},(∀ x∈xs,∃ a,x=f a/\Q a)->∃ as:List α,xs=as.map f/\∀ a∈as,Q a
 | [],_=>⟨[],rfl,by simp⟩
 | x::xs,h=>by
   obtain ⟨a,rfl,ha⟩:=h x (by simp)
   obtain ⟨as,rfl,has⟩:=zpf (f:=f) (Q:=Q) (xs:=xs) (fun y hy=>h y (by simp [hy]))
   exact ⟨a::as,rfl,by simpa using ⟨ha,has⟩⟩
theorem zic {α:Type} {f:α->V} {Q:α->Prop} {ag:Bool} {es:List PT} {v:V} (h:(PT.list ag es).has v) (he:∀ x:V,x.leaf= !ag->PT.hasAll es x.cells1->∃ a,x=f a/\Q a):
 ∃ as:List α,v=.imm es.length (as.map f)/\as.length<=9223372036854775807/\∀ a∈as,Q a:=by
 simp only [PT.has] at h
 obtain ⟨xs,rfl,hl,hx⟩:=h
 obtain ⟨as,rfl,ha⟩:=zpf (f:=f) (Q:=Q) (fun x hm=>he x (hx x hm).1 (hx x hm).2)
 exact ⟨as,rfl,by simpa using hl,ha⟩
theorem yhm {p:PT} {x:V} (hx:x.leaf= !false) (h:PT.hasAll [p] x.cells1):p.has x:=by
 obtain ⟨v,vs,e,h1,h2⟩:=zaj h
 cases x <;> first|(simp only [V.cells1,List.cons.injEq] at e;rw [e.1];exact h1)|(cases hx;done)
theorem zw2 {v:V} (h:(PT.list false [.int .i64]).has v):∃ as:List Int,v=.imm 1 (as.map (.int .i64))/\as.length<=9223372036854775807/\∀ a∈as,-9223372036854775808<=a/\a<=9223372036854775807:=
 zic h fun _ hx h=>zd0 (yhm hx h)
theorem zpi {v:V} (h:(PT.list false [.bool]).has v):∃ as:List Bool,v=.imm 1 (as.map .bool)/\as.length<=9223372036854775807/\∀ a∈as,True:=
 zic h fun _ hx h=>by obtain ⟨b,rfl⟩:=yfa (yhm hx h);exact ⟨b,rfl,trivial⟩
def zj2:List PT:=.int .i64 :: .int .i64 :: .int .i64 :: .int .i64 :: .int .i64 :: .int .i64 :: .int .i64 :: []
theorem yj2 {vs:List V} (g0:PT.hasAll zj2 vs):∃ a:Tb,a.ok/\V.agg vs=a.i:=by
 unfold zj2 at g0
 obtain ⟨_,_,rfl,h0,g1⟩:=zaj g0
 obtain ⟨x0,rfl,k0⟩:=zd0 h0
 obtain ⟨_,_,rfl,h1,g2⟩:=zaj g1
 obtain ⟨x1,rfl,k1⟩:=zd0 h1
 obtain ⟨_,_,rfl,h2,g3⟩:=zaj g2
 obtain ⟨x2,rfl,k2⟩:=zd0 h2
 obtain ⟨_,_,rfl,h3,g4⟩:=zaj g3
 obtain ⟨x3,rfl,k3⟩:=zd0 h3
 obtain ⟨_,_,rfl,h4,g5⟩:=zaj g4
 obtain ⟨x4,rfl,k4⟩:=zd0 h4
 obtain ⟨_,_,rfl,h5,g6⟩:=zaj g5
 obtain ⟨x5,rfl,k5⟩:=zd0 h5
 obtain ⟨_,_,rfl,h6,g7⟩:=zaj g6
 obtain ⟨x6,rfl,k6⟩:=zd0 h6
 obtain rfl:=zfp g7
 exact ⟨⟨x0,x1,x2,x3,x4,x5,x6⟩,⟨k0,k1,k2,k3,k4,k5,k6⟩,rfl⟩
theorem yex {x:V} (hx:x.leaf= !true) (h:PT.hasAll zj2 x.cells1):∃ a:Tb,x=a.i/\a.ok:=by
 obtain ⟨a,ha,e⟩:=yj2 h
 cases x with
 | agg cs=>exact ⟨a,e,ha⟩
 | tup vs=>exfalso;have:=hasAll_leaf h (V.tup vs) (by simp [V.cells1]);cases this
 | _=>cases hx
theorem yeu {v:V} (h:(PT.list true zj2).has v):∃ as:List Tb,v=.imm 7 (as.map Tb.i)/\as.length<=9223372036854775807/\∀ a∈as,a.ok:=zic h fun _ hx h=>yex hx h
def zgg:List PT:=.int .i64 :: .int .i64 :: .list true zj2 :: []
theorem zzg {vs:List V} (g0:PT.hasAll zgg vs):∃ a:Tk,a.ok/\V.agg vs=a.i:=by
 unfold zgg at g0
 obtain ⟨_,_,rfl,h0,g1⟩:=zaj g0
 obtain ⟨x0,rfl,k0⟩:=zd0 h0
 obtain ⟨_,_,rfl,h1,g2⟩:=zaj g1
 obtain ⟨x1,rfl,k1⟩:=zd0 h1
 obtain ⟨_,_,rfl,h2,g3⟩:=zaj g2
 obtain ⟨x2,rfl,j2,k2⟩:=yeu h2
 obtain rfl:=zfp g3
 exact ⟨⟨x0,x1,x2⟩,⟨k0,k1,j2,k2⟩,rfl⟩
theorem zxr {x:V} (hx:x.leaf= !true) (h:PT.hasAll zgg x.cells1):∃ a:Tk,x=a.i/\a.ok:=by
 obtain ⟨a,ha,e⟩:=zzg h
 cases x with
 | agg cs=>exact ⟨a,e,ha⟩
 | tup vs=>exfalso;have:=hasAll_leaf h (V.tup vs) (by simp [V.cells1]);cases this
 | _=>cases hx
def zip:List PT:=.list false [.bool] :: .list false [.bool] :: .list false [.int .i64] :: .list false [.int .i64] :: []
theorem ycj {vs:List V} (g0:PT.hasAll zip vs):∃ a:Tm,a.ok/\V.agg vs=a.i:=by
 unfold zip at g0
 obtain ⟨_,_,rfl,h0,g1⟩:=zaj g0
 obtain ⟨x0,rfl,j0,_⟩:=zpi h0
 obtain ⟨_,_,rfl,h1,g2⟩:=zaj g1
 obtain ⟨x1,rfl,j1,_⟩:=zpi h1
 obtain ⟨_,_,rfl,h2,g3⟩:=zaj g2
 obtain ⟨x2,rfl,j2,k2⟩:=zw2 h2
 obtain ⟨_,_,rfl,h3,g4⟩:=zaj g3
 obtain ⟨x3,rfl,j3,k3⟩:=zw2 h3
 obtain rfl:=zfp g4
 exact ⟨⟨x0,x1,x2,x3⟩,⟨j0,j1,j2,k2,j3,k3⟩,rfl⟩
def zjd:List PT:=.int .i64 :: .int .i64::(zip ++ [])
theorem yl8 {vs:List V} (g0:PT.hasAll zjd vs):∃ a:Ta,a.ok/\V.agg vs=a.i:=by
 unfold zjd at g0
 obtain ⟨_,_,rfl,h0,g1⟩:=zaj g0
 obtain ⟨x0,rfl,k0⟩:=zd0 h0
 obtain ⟨_,_,rfl,h1,g2⟩:=zaj g1
 obtain ⟨x1,rfl,k1⟩:=zd0 h1
 obtain ⟨_,_,rfl,h2,g3⟩:=zhq g2
 obtain ⟨x2,k2,e2⟩:=ycj h2
 obtain rfl:=V.agg.inj e2
 obtain rfl:=zfp g3
 exact ⟨⟨x0,x1,x2⟩,⟨k0,k1,k2⟩,rfl⟩
theorem yf6 {x:V} (hx:x.leaf= !true) (h:PT.hasAll zjd x.cells1):∃ a:Ta,x=a.i/\a.ok:=by
 obtain ⟨a,ha,e⟩:=yl8 h
 cases x with
 | agg cs=>exact ⟨a,e,ha⟩
 | tup vs=>exfalso;have:=hasAll_leaf h (V.tup vs) (by simp [V.cells1]);cases this
 | _=>cases hx
theorem yez {v:V} (h:(PT.list true zjd).has v):∃ as:List Ta,v=.imm 6 (as.map Ta.i)/\as.length<=9223372036854775807/\∀ a∈as,a.ok:=zic h fun _ hx h=>yf6 hx h
end Go.Pm
namespace Go.Pm
set_option maxRecDepth 100000
set_option maxHeartbeats 400000
theorem zw3 (a:List Int) (h:a.length<=9223372036854775807):SzOk (ynw a) (a.length):=SzOk.of (fun l=>rfl) (SzOk.len h)
theorem zwb (a:List Int) (h:a.length<=1048576):yma a=some a:=by
 have hl:a.length<=1048576:=h
 rw [yma,if_pos ⟨by omega,by rw [zag];omega⟩]
 unfold zux
 rw [if_pos (by omega),yfy (xs:=a)]
 ·rw [ybx];rfl
 ·intro d x t s he hd
  rw [zya]
  obtain ⟨z,hz⟩:∃ z,s[d.length]? =some z:=⟨s[d.length],List.getElem?_eq_getElem hd⟩
  simp only [zag,List.length_map,Nat.sub_zero]
  rw [if_pos ⟨by omega,by omega⟩]
  simp only [hz,Option.bind_some,List.set_set,List.length_set,hd,zp0]
 ·simp
theorem zi4 (a:List Int) (h:a.length<=1048576):yl6 a a=some true:=by
 have hl:a.length<=1048576:=h
 rw [yl6]
 unfold zt3
 rw [if_pos (by omega),zxx (xs:=a)]
 ·simp only [ne_eq,not_true_eq_false,decide_false,cond_false,yau];rfl
 ·intro d x t he
  rw [ydo]
  simp only [zag,zcj he,Option.bind_some,ne_eq,not_true_eq_false,decide_false,cond_false,BEq.rfl,bne_self_eq_false,Bool.true_xor,Bool.not_true]
theorem zpc (a:List Bool) (h:a.length<=9223372036854775807):SzOk (ynt a) (a.length):=SzOk.of (fun l=>rfl) (SzOk.len h)
theorem zpj (a:List Bool) (h:a.length<=1048576):yna a=some a:=by
 have hl:a.length<=1048576:=h
 rw [yna,if_pos ⟨by omega,by rw [zag];omega⟩]
 unfold zs3
 rw [if_pos (by omega),yfy (xs:=a)]
 ·rw [ydm];rfl
 ·intro d x t s he hd
  rw [ydi]
  obtain ⟨z,hz⟩:∃ z,s[d.length]? =some z:=⟨s[d.length],List.getElem?_eq_getElem hd⟩
  simp only [zag,List.length_map,Nat.sub_zero]
  rw [if_pos ⟨by omega,by omega⟩]
  simp only [hz,Option.bind_some,List.set_set,List.length_set,hd,zp0]
 ·simp
theorem zf7 (a:List Bool) (h:a.length<=1048576):yht a a=some true:=by
 have hl:a.length<=1048576:=h
 rw [yht]
 unfold zrq
 rw [if_pos (by omega),zxx (xs:=a)]
 ·simp only [ne_eq,not_true_eq_false,decide_false,cond_false,zye];rfl
 ·intro d x t he
  rw [zzy]
  simp only [zag,zcj he,Option.bind_some,ne_eq,not_true_eq_false,decide_false,cond_false,BEq.rfl,bne_self_eq_false,Bool.true_xor,Bool.not_true]
theorem yfl (a:Tb) (h:a.sz<=1048576):yoi a=some a:=by rw [yoi]
theorem yel (a:Tb) (h:a.sz<=1048576):ynm a a=some true:=by
 simp only [Tb.sz] at h
 rw [ynm]
 simp only [Option.bind_some,ne_eq,not_true_eq_false,decide_false,cond_false,BEq.rfl,bne_self_eq_false,Bool.true_xor,Bool.not_true]
theorem yax (a:List Tb) (h:a.length<=9223372036854775807):SzOk (yq8 a) (a.length):=SzOk.of (fun l=>rfl) (SzOk.len h)
theorem zzh (a:List Tb) (h:a.length<=1048576):yng a=some a:=by
 have hl:a.length<=1048576:=h
 rw [yng,if_pos ⟨by omega,by rw [zag];omega⟩]
 unfold zqv
 rw [if_pos (by omega),yfy (xs:=a)]
 ·rw [yak];rfl
 ·intro d x t s he hd
  rw [zy9]
  obtain ⟨z,hz⟩:∃ z,s[d.length]? =some z:=⟨s[d.length],List.getElem?_eq_getElem hd⟩
  simp only [yfl x (by simp [Tb.sz]),Option.bind_some,zag,List.length_map,Nat.sub_zero]
  rw [if_pos ⟨by omega,by omega⟩]
  simp only [hz,Option.bind_some,List.set_set,List.length_set,hd,zp0]
 ·simp
theorem zyl (a:List Tb) (h:a.length<=1048576):yo4 a a=some true:=by
 have hl:a.length<=1048576:=h
 rw [yo4]
 unfold zsl
 rw [if_pos (by omega),zxx (xs:=a)]
 ·simp only [ne_eq,not_true_eq_false,decide_false,cond_false,zys];rfl
 ·intro d x t he
  rw [ycq]
  simp only [zag,zcj he,Option.bind_some,yel x (by simp [Tb.sz]),ne_eq,not_true_eq_false,decide_false,cond_false,BEq.rfl,bne_self_eq_false,Bool.true_xor,Bool.not_true]
theorem zxs (a:Tk) (h:a.ok):SzOk (yql a) (a.sz):=SzOk.of (fun l=>rfl) (SzOk.one (yax a.fd (by exact h.2.2.1)))
theorem zwq (a:Tk) (h:a.sz<=1048576):yk1 a=some a:=by
 simp only [Tk.sz] at h
 rw [yk1]
 simp only [zzh a.fd (by first|omega|(simp only [Tk.sz];omega)),Option.bind_some]
theorem zkx (a:Tk) (h:a.sz<=1048576):ymn a a=some true:=by
 simp only [Tk.sz] at h
 rw [ymn]
 simp only [zyl a.fd (by first|omega|(simp only [Tk.sz];omega)),Option.bind_some,ne_eq,not_true_eq_false,decide_false,cond_false,BEq.rfl,bne_self_eq_false,Bool.true_xor,Bool.not_true]
theorem zxp (a:Tm) (h:a.ok):SzOk (yqr a) (a.sz):=SzOk.of (fun l=>rfl) (SzOk.seq (zpc a.fab (by exact h.1)) (SzOk.seq (zpc a.faa (by exact h.2.1)) (SzOk.seq (zw3 a.fu (by exact h.2.2.1)) (SzOk.one (zw3 a.fc (by exact h.2.2.2.2.1))))))
theorem zx6 (a:Tm) (h:a.sz<=1048576):yo2 a=some a:=by
 simp only [Tm.sz] at h
 rw [yo2]
 simp only [zpj a.fab (by first|omega|(simp only [Tm.sz];omega)),zpj a.faa (by first|omega|(simp only [Tm.sz];omega)),zwb a.fu (by first|omega|(simp only [Tm.sz];omega)),zwb a.fc (by first|omega|(simp only [Tm.sz];omega)),Option.bind_some]
theorem zwu (a:Tm) (h:a.sz<=1048576):yof a a=some true:=by
 simp only [Tm.sz] at h
 rw [yof]
 simp only [zf7 a.fab (by first|omega|(simp only [Tm.sz];omega)),zf7 a.faa (by first|omega|(simp only [Tm.sz];omega)),zi4 a.fu (by first|omega|(simp only [Tm.sz];omega)),zi4 a.fc (by first|omega|(simp only [Tm.sz];omega)),Option.bind_some,ne_eq,not_true_eq_false,decide_false,cond_false,BEq.rfl,bne_self_eq_false,Bool.true_xor,Bool.not_true]
theorem yf3 (a:Ta) (h:a.ok):SzOk (yr0 a) (a.sz):=SzOk.of (fun l=>rfl) (SzOk.one (zxp a.fD (by exact h.2.2)))
theorem yes (a:Ta) (h:a.sz<=1048576):yov a=some a:=by
 simp only [Ta.sz] at h
 rw [yov]
 simp only [zx6 a.fD (by first|omega|(simp only [Ta.sz];omega)),Option.bind_some]
theorem yfs (a:Ta) (h:a.sz<=1048576):ynp a a=some true:=by
 simp only [Ta.sz] at h
 rw [ynp]
 simp only [zwu a.fD (by first|omega|(simp only [Ta.sz];omega)),Option.bind_some,ne_eq,not_true_eq_false,decide_false,cond_false,BEq.rfl,bne_self_eq_false,Bool.true_xor,Bool.not_true]
theorem ycl (a:List Ta) (h:a.length<=9223372036854775807/\∀ b∈a,b.ok):SzOk (yqt a) (szL Ta.sz a):=SzOk.of (fun l=>rfl) (SzOk.list h.1 (fun x hx=>yf3 x (h.2 x hx)) (fun k x s=>rfl) (fun s=>rfl))
theorem ydb (a:List Ta) (h:szL Ta.sz a<=1048576):ykl a=some a:=by
 have hl:a.length<=1048576:=by have:=zaz (f:=Ta.sz) (xs:=a);omega
 rw [ykl,if_pos ⟨by omega,by rw [zag];omega⟩]
 unfold zte
 rw [if_pos (by omega),yfy (xs:=a)]
 ·rw [yai];rfl
 ·intro d x t s he hd
  rw [zz3]
  obtain ⟨z,hz⟩:∃ z,s[d.length]? =some z:=⟨s[d.length],List.getElem?_eq_getElem hd⟩
  simp only [yes x (by have:=zc5 (f:=Ta.sz) (he ▸ (by simp:x∈d++x::t));omega),Option.bind_some,zag,List.length_map,Nat.sub_zero]
  rw [if_pos ⟨by omega,by omega⟩]
  simp only [hz,Option.bind_some,List.set_set,List.length_set,hd,zp0]
 ·simp
theorem zpr (a:List Ta) (h:szL Ta.sz a<=1048576):yn9 a a=some true:=by
 have hl:a.length<=1048576:=by have:=zaz (f:=Ta.sz) (xs:=a);omega
 rw [yn9]
 unfold zsg
 rw [if_pos (by omega),zxx (xs:=a)]
 ·simp only [ne_eq,not_true_eq_false,decide_false,cond_false,zzp];rfl
 ·intro d x t he
  rw [ycg]
  simp only [zag,zcj he,Option.bind_some,yfs x (by have:=zc5 (f:=Ta.sz) (he ▸ (by simp:x∈d++x::t));omega),ne_eq,not_true_eq_false,decide_false,cond_false,BEq.rfl,bne_self_eq_false,Bool.true_xor,Bool.not_true]
theorem zhk (a:Tl) (h:a.sz<=1048576):yeh a a=some true:=by
 simp only [Tl.sz] at h
 rw [yeh]
 simp only [zi4 a.fc (by first|omega|(simp only [Tl.sz];omega)),zf7 a.ff (by first|omega|(simp only [Tl.sz];omega)),Option.bind_some,ne_eq,not_true_eq_false,decide_false,cond_false,BEq.rfl,bne_self_eq_false,Bool.true_xor,Bool.not_true]
theorem yey (a:Tj) (h:a.sz<=1048576):yox a a=some true:=by
 simp only [Tj.sz] at h
 rw [yox]
 simp only [zhk a.fa (by first|omega|(simp only [Tj.sz];omega)),Option.bind_some,ne_eq,not_true_eq_false,decide_false,cond_false,BEq.rfl,bne_self_eq_false,Bool.true_xor,Bool.not_true]
theorem zpo (a:List Tj) (h:szL Tj.sz a<=1048576):ymm a a=some true:=by
 have hl:a.length<=1048576:=by have:=zaz (f:=Tj.sz) (xs:=a);omega
 rw [ymm]
 unfold zre
 rw [if_pos (by omega),zxx (xs:=a)]
 ·simp only [ne_eq,not_true_eq_false,decide_false,cond_false,ye6];rfl
 ·intro d x t he
  rw [yb7]
  simp only [zag,zcj he,Option.bind_some,yey x (by have:=zc5 (f:=Tj.sz) (he ▸ (by simp:x∈d++x::t));omega),ne_eq,not_true_eq_false,decide_false,cond_false,BEq.rfl,bne_self_eq_false,Bool.true_xor,Bool.not_true]
theorem zif (a:Th) (h:a.sz<=1048576):ykb a a=some true:=by
 simp only [Th.sz] at h
 rw [ykb]
 simp only [zi4 a.fc (by first|omega|(simp only [Th.sz];omega)),zf7 a.ff (by first|omega|(simp only [Th.sz];omega)),Option.bind_some,ne_eq,not_true_eq_false,decide_false,cond_false,BEq.rfl,bne_self_eq_false,Bool.true_xor,Bool.not_true]
theorem zpq (a:List Th) (h:szL Th.sz a<=1048576):ynf a a=some true:=by
 have hl:a.length<=1048576:=by have:=zaz (f:=Th.sz) (xs:=a);omega
 rw [ynf]
 unfold ztl
 rw [if_pos (by omega),zxx (xs:=a)]
 ·simp only [ne_eq,not_true_eq_false,decide_false,cond_false,zyc];rfl
 ·intro d x t he
  rw [ybm]
  simp only [zag,zcj he,Option.bind_some,zif x (by have:=zc5 (f:=Th.sz) (he ▸ (by simp:x∈d++x::t));omega),ne_eq,not_true_eq_false,decide_false,cond_false,BEq.rfl,bne_self_eq_false,Bool.true_xor,Bool.not_true]
theorem yf1 (a:Td) (h:a.sz<=1048576):yo3 a a=some true:=by
 simp only [Td.sz] at h
 rw [yo3]
 simp only [zhk a.fa (by first|omega|(simp only [Td.sz];omega)),zpo a.fak (by first|omega|(simp only [Td.sz];omega)),zf7 a.fav (by first|omega|(simp only [Td.sz];omega)),zpq a.fal (by first|omega|(simp only [Td.sz];omega)),Option.bind_some,ne_eq,not_true_eq_false,decide_false,cond_false,BEq.rfl,bne_self_eq_false,Bool.true_xor,Bool.not_true]
theorem yd5 (a:List Td) (h:szL Td.sz a<=1048576):yon a a=some true:=by
 have hl:a.length<=1048576:=by have:=zaz (f:=Td.sz) (xs:=a);omega
 rw [yon]
 unfold ztd
 rw [if_pos (by omega),zxx (xs:=a)]
 ·simp only [ne_eq,not_true_eq_false,decide_false,cond_false,yci];rfl
 ·intro d x t he
  rw [ybo]
  simp only [zag,zcj he,Option.bind_some,yf1 x (by have:=zc5 (f:=Td.sz) (he ▸ (by simp:x∈d++x::t));omega),ne_eq,not_true_eq_false,decide_false,cond_false,BEq.rfl,bne_self_eq_false,Bool.true_xor,Bool.not_true]
theorem zze (a:Tp) (h:a.sz<=1048576):ypq a a=some true:=by
 simp only [Tp.sz] at h
 rw [ypq]
 simp only [yd5 a.fr (by first|omega|(simp only [Tp.sz];omega)),Option.bind_some,ne_eq,not_true_eq_false,decide_false,cond_false,BEq.rfl,bne_self_eq_false,Bool.true_xor,Bool.not_true]
theorem zw6 (a:Ti) (h:a.sz<=1048576):ym1 a a=some true:=by
 simp only [Ti.sz] at h
 rw [ym1]
 simp only [zhk a.fa (by first|omega|(simp only [Ti.sz];omega)),Option.bind_some,ne_eq,not_true_eq_false,decide_false,cond_false,BEq.rfl,bne_self_eq_false,Bool.true_xor,Bool.not_true]
theorem ya5 (a:List Ti) (h:szL Ti.sz a<=1048576):yoe a a=some true:=by
 have hl:a.length<=1048576:=by have:=zaz (f:=Ti.sz) (xs:=a);omega
 rw [yoe]
 unfold zuz
 rw [if_pos (by omega),zxx (xs:=a)]
 ·simp only [ne_eq,not_true_eq_false,decide_false,cond_false,yct];rfl
 ·intro d x t he
  rw [ya6]
  simp only [zag,zcj he,Option.bind_some,zw6 x (by have:=zc5 (f:=Ti.sz) (he ▸ (by simp:x∈d++x::t));omega),ne_eq,not_true_eq_false,decide_false,cond_false,BEq.rfl,bne_self_eq_false,Bool.true_xor,Bool.not_true]
theorem yej (a:Tc) (h:a.sz<=1048576):ynk a a=some true:=by
 simp only [Tc.sz] at h
 rw [ynk]
 simp only [ya5 a.fat (by first|omega|(simp only [Tc.sz];omega)),zw6 a.fg (by first|omega|(simp only [Tc.sz];omega)),Option.bind_some,ne_eq,not_true_eq_false,decide_false,cond_false,BEq.rfl,bne_self_eq_false,Bool.true_xor,Bool.not_true]
theorem ybf (a:List Tc) (h:szL Tc.sz a<=1048576):ypr a a=some true:=by
 have hl:a.length<=1048576:=by have:=zaz (f:=Tc.sz) (xs:=a);omega
 rw [ypr]
 unfold zv4
 rw [if_pos (by omega),zxx (xs:=a)]
 ·simp only [ne_eq,not_true_eq_false,decide_false,cond_false,yca];rfl
 ·intro d x t he
  rw [yat]
  simp only [zag,zcj he,Option.bind_some,yej x (by have:=zc5 (f:=Tc.sz) (he ▸ (by simp:x∈d++x::t));omega),ne_eq,not_true_eq_false,decide_false,cond_false,BEq.rfl,bne_self_eq_false,Bool.true_xor,Bool.not_true]
theorem zwy (a:Tn) (h:a.sz<=1048576):ynz a a=some true:=by
 simp only [Tn.sz] at h
 rw [ynz]
 simp only [zkx a.fp (by first|omega|(simp only [Tn.sz];omega)),zze a.fq (by first|omega|(simp only [Tn.sz];omega)),ybf a.ft (by first|omega|(simp only [Tn.sz];omega)),Option.bind_some,ne_eq,not_true_eq_false,decide_false,cond_false,BEq.rfl,bne_self_eq_false,Bool.true_xor,Bool.not_true]
theorem zxo (a:Tf) (h:a.sz<=1048576):ypb a a=some true:=by
 simp only [Tf.sz] at h
 rw [ypb]
 simp only [zhk a.fa (by first|omega|(simp only [Tf.sz];omega)),zif a.fb (by first|omega|(simp only [Tf.sz];omega)),Option.bind_some,ne_eq,not_true_eq_false,decide_false,cond_false,BEq.rfl,bne_self_eq_false,Bool.true_xor,Bool.not_true]
theorem zuk (a:List Tf) (h:szL Tf.sz a<=1048576):ynu a a=some true:=by
 have hl:a.length<=1048576:=by have:=zaz (f:=Tf.sz) (xs:=a);omega
 rw [ynu]
 unfold zti
 rw [if_pos (by omega),zxx (xs:=a)]
 ·simp only [ne_eq,not_true_eq_false,decide_false,cond_false,ybv];rfl
 ·intro d x t he
  rw [yad]
  simp only [zag,zcj he,Option.bind_some,zxo x (by have:=zc5 (f:=Tf.sz) (he ▸ (by simp:x∈d++x::t));omega),ne_eq,not_true_eq_false,decide_false,cond_false,BEq.rfl,bne_self_eq_false,Bool.true_xor,Bool.not_true]
theorem ycr (a:Te) (h:a.sz<=1048576):yos a a=some true:=by
 simp only [Te.sz] at h
 rw [yos]
 simp only [zhk a.fa (by first|omega|(simp only [Te.sz];omega)),zpo a.fak (by first|omega|(simp only [Te.sz];omega)),zpq a.fal (by first|omega|(simp only [Te.sz];omega)),zif a.fb (by first|omega|(simp only [Te.sz];omega)),Option.bind_some,ne_eq,not_true_eq_false,decide_false,cond_false,BEq.rfl,bne_self_eq_false,Bool.true_xor,Bool.not_true]
theorem zwr (a:List Te) (h:szL Te.sz a<=1048576):yo0 a a=some true:=by
 have hl:a.length<=1048576:=by have:=zaz (f:=Te.sz) (xs:=a);omega
 rw [yo0]
 unfold zsr
 rw [if_pos (by omega),zxx (xs:=a)]
 ·simp only [ne_eq,not_true_eq_false,decide_false,cond_false,ydx];rfl
 ·intro d x t he
  rw [zzi]
  simp only [zag,zcj he,Option.bind_some,ycr x (by have:=zc5 (f:=Te.sz) (he ▸ (by simp:x∈d++x::t));omega),ne_eq,not_true_eq_false,decide_false,cond_false,BEq.rfl,bne_self_eq_false,Bool.true_xor,Bool.not_true]
theorem zx8 (a:Tg) (h:a.sz<=1048576):yod a a=some true:=by
 simp only [Tg.sz] at h
 rw [yod]
 simp only [zhk a.fa (by first|omega|(simp only [Tg.sz];omega)),zif a.fb (by first|omega|(simp only [Tg.sz];omega)),Option.bind_some,ne_eq,not_true_eq_false,decide_false,cond_false,BEq.rfl,bne_self_eq_false,Bool.true_xor,Bool.not_true]
theorem zt9 (a:List Tg) (h:szL Tg.sz a<=1048576):yo9 a a=some true:=by
 have hl:a.length<=1048576:=by have:=zaz (f:=Tg.sz) (xs:=a);omega
 rw [yo9]
 unfold zqs
 rw [if_pos (by omega),zxx (xs:=a)]
 ·simp only [ne_eq,not_true_eq_false,decide_false,cond_false,zzl];rfl
 ·intro d x t he
  rw [ybh]
  simp only [zag,zcj he,Option.bind_some,zx8 x (by have:=zc5 (f:=Tg.sz) (he ▸ (by simp:x∈d++x::t));omega),ne_eq,not_true_eq_false,decide_false,cond_false,BEq.rfl,bne_self_eq_false,Bool.true_xor,Bool.not_true]
theorem zyb (a:To) (h:a.sz<=1048576):yln a a=some true:=by
 simp only [To.sz] at h
 rw [yln]
 simp only [zwy a.fF (by first|omega|(simp only [To.sz];omega)),zpr a.fag (by first|omega|(simp only [To.sz];omega)),zuk a.faf (by first|omega|(simp only [To.sz];omega)),zwr a.fah (by first|omega|(simp only [To.sz];omega)),zt9 a.fai (by first|omega|(simp only [To.sz];omega)),Option.bind_some,ne_eq,not_true_eq_false,decide_false,cond_false,BEq.rfl,bne_self_eq_false,Bool.true_xor,Bool.not_true]
end Go.Pm
namespace Go.Pm
open IntKind (i64)
def zh6 (v1:Int) (v2:Int) (v3:Int):Bool:=(bif decide (v2<=v1) then decide (v1<=v3) else false)
theorem yji (v1:Int) (v2:Int) (v3:Int)  :ye8 v1 v2 v3=some (zh6 v1 v2 v3):=by
 rw [ye8];first|rfl|(simp only [Option.bind_some,zb3];rfl)
def yh9 (v1:Int) (v2:Int):Bool:=(let v3:=zh6 v1 1 100;(bif v3 then(let v6:=zh6 v2 0 5;v6) else false))
theorem yts (v1:Int) (v2:Int)  :yne v1 v2=some (yh9 v1 v2):=by
 rw [yne];first|rfl|(simp only [yji v1 1 100,yji v2 0 5,Option.bind_some,zb3];rfl)
def yhz (v1:Int):Bool:=(let v2:=zh6 v1 1 247;v2)
theorem yqk (v1:Int)  :ylm v1=some (yhz v1):=by
 rw [ylm];first|rfl|(simp only [yji v1 1 247,Option.bind_some,zb3];rfl)
def ygw (v1:Int):Bool:=(let v2:=zh6 v1 0 65535;v2)
theorem yn5 (v1:Int)  :yg8 v1=some (ygw v1):=by
 rw [yg8];first|rfl|(simp only [yji v1 0 65535,Option.bind_some,zb3];rfl)
def ylg (v1:Int):Bool:=(let v2:=zh6 v1 0 5;v2)
theorem yui (v1:Int)  :yme v1=some (ylg v1):=by
 rw [yme];first|rfl|(simp only [yji v1 0 5,Option.bind_some,zb3];rfl)
def ylk (v1:Tb):Bool:=(let v2:=yhz v1.fe;(bif !v2 then false else(let v5:=zh6 v1.fap 0 3;(bif !v5 then false else(let v8:=ygw v1.fac;(bif !v8 then false else(let v11:=ygw v1.fad;(bif !v11 then false else(bif decide (v1.fad<v1.fac) then false else(let v15:=ylg v1.fj;(bif !v15 then false else(let v18:=yhz v1.fas;(bif !v18 then false else(let v21:=zh6 v1.fam (-65535) 65535;(bif v21 then(let v24:=ygw (i64.wrap (v1.fac+v1.fam));(bif v24 then(let v27:=ygw (i64.wrap (v1.fad+v1.fam));v27) else false)) else false)))))))))))))))
theorem yz3 (v1:Tb)  :yor v1=some (ylk v1):=by
 rw [yor];first|rfl|(simp only [yqk v1.fe,yji v1.fap 0 3,yn5 v1.fac,yn5 v1.fad,yui v1.fj,yqk v1.fas,yji v1.fam (-65535) 65535,yn5 (i64.wrap (v1.fac+v1.fam)),yn5 (i64.wrap (v1.fad+v1.fam)),Option.bind_some,zb3];rfl)
def yi4 (v1:Tb) (v2:Tb):Bool:=(bif decide (v1.fe=v2.fe) then(bif decide (v1.fap=v2.fap) then(bif decide (v1.fac<=v2.fad) then decide (v2.fac<=v1.fad) else false) else false) else false)
theorem yuu (v1:Tb) (v2:Tb)  :ypj v1 v2=some (yi4 v1 v2):=by
 rw [ypj];first|rfl|(simp only [Option.bind_some,zb3];rfl)
def yp3 (v1:Int):Bool:=(let v2:=ygw v1;!v2)
theorem ys2 (v1:Int)  :yop v1=some (yp3 v1):=by
 rw [yop];first|rfl|(simp only [yn5 v1,Option.bind_some,zb3];rfl)
def yup (v1:Int) (v2:Int) (v3:Int):Bool:=(bif decide (v2<=v1) then decide (v1<=v3) else false)
theorem yyc (v1:Int) (v2:Int) (v3:Int)  :zkk v1 v2 v3=some (yup v1 v2 v3):=by
 rw [zkk];first|rfl|(simp only [Option.bind_some,zb3];rfl)
theorem qai (v1:Int) (v2:Int) (v3:Int)  :yup v1 v2 v3=zh6 v1 v2 v3:=by
 rfl
theorem zwx (v1:Int) (v2:Int) (v3:Int)  :zkk v1 v2 v3=some (zh6 v1 v2 v3):=by rw [yyc v1 v2 v3 ,qai v1 v2 v3 ]
def yqd (v1:Tb):Bool:=(let v2:=zh6 v1.fe 1 247;(bif v2 then(let v5:=zh6 v1.fap 0 3;(bif v5 then(let v8:=zh6 v1.fac 0 65535;(bif v8 then(let v11:=zh6 v1.fad v1.fac 65535;(bif v11 then(let v14:=zh6 v1.fj 0 5;(bif v14 then(let v17:=zh6 v1.fas 1 247;(bif v17 then(let v20:=zh6 v1.fam (-65535) 65535;(bif v20 then(let v23:=zh6 (i64.wrap (v1.fac+v1.fam)) 0 65535;(bif v23 then(let v26:=zh6 (i64.wrap (v1.fad+v1.fam)) 0 65535;v26) else false)) else false)) else false)) else false)) else false)) else false)) else false)) else false))
theorem qcf (v1:Tb)  :ypa v1=some (yqd v1):=by
 rw [ypa];first|rfl|(simp only [zwx v1.fe 1 247,zwx v1.fap 0 3,zwx v1.fac 0 65535,zwx v1.fad v1.fac 65535,zwx v1.fj 0 5,zwx v1.fas 1 247,zwx v1.fam (-65535) 65535,zwx (i64.wrap (v1.fac+v1.fam)) 0 65535,zwx (i64.wrap (v1.fad+v1.fam)) 0 65535,Option.bind_some,zb3];rfl)
def yqn (v1:List Tb) (v2:Tb):Int:=zup (fun (x:Tb)=>yi4 x v2) v1 0
theorem yzj (v1:List Tb) (v2:Tb) (hv1:v1.length<=1048576):yoj v1 v2=some (yqn v1 v2):=by
 have hlen:v1.length<=9223372036854775806:=by have hq:v1.length<=v1.length:=Nat.le_refl _;omega
 rw [yoj];unfold zqm yqn
 exact ypv (fun (x:Tb)=>yi4 x v2) hlen rfl (fun d x t he=>by rw [zzc];first|rfl|(simp only [yuu x v2,Option.bind_some];done)|(simp only [yuu x v2,Option.bind_some];rfl)|done)
def yoa (v1:List Int):Int:=zup (fun (x:Int)=>yp3 x) v1 0
theorem qdh (v1:List Int) (hv1:v1.length<=1048576):yol v1=some (yoa v1):=by
 have hlen:v1.length<=9223372036854775806:=by have hq:v1.length<=v1.length:=Nat.le_refl _;omega
 rw [yol];unfold zqy yoa
 exact ypv (fun (x:Int)=>yp3 x) hlen rfl (fun d x t he=>by rw [yds];first|rfl|(simp only [ys2 x,Option.bind_some];done)|(simp only [ys2 x,Option.bind_some];rfl)|done)
def ysz (v1:List Tb) (v2:Tb):Bool:=(let v3:=yqn v1 v2;decide (0<=v3))
theorem qct (v1:List Tb) (v2:Tb) (hv1:v1.length<=1048576):yoh v1 v2=some (ysz v1 v2):=by
 rw [yoh];first|rfl|(simp only [yzj v1 v2 hv1,Option.bind_some,zb3];rfl)
def yq9 (v1:List Int):Bool:=(let v2:=yoa v1;decide (0<=v2))
theorem qe3 (v1:List Int) (hv1:v1.length<=1048576):yps v1=some (yq9 v1):=by
 rw [yps];first|rfl|(simp only [qdh v1 hv1,Option.bind_some,zb3];rfl)
def yqc (v1:List Int):Bool:=(let v2:=yq9 v1;!v2)
theorem yze (v1:List Int) (hv1:v1.length<=1048576):ylp v1=some (yqc v1):=by
 rw [ylp];first|rfl|(simp only [qe3 v1 hv1,Option.bind_some,zb3];rfl)
def zgi (l:List Int):Bool:=l.all fun n=>decide (0<=n)&&decide (n<=65535)
theorem zrp (l:List Int):yqc l=zgi l:=by
 unfold yqc yq9 yoa zgi
 simp only [zus,List.all_eq_not_any_not]
 congr 2;funext n
 unfold yp3 ygw zh6
 by_cases h:0<=n <;> simp [h]
theorem yu4 (v1:List Int) (hv1:v1.length<=1048576):ylp v1=some (zgi v1):=by rw [yze v1 hv1,zrp]
theorem ysm (v1:List Int) (hv1:v1.length<=1048576):yn7 v1=some (zgi v1):=by
 rw [yn7];unfold ztz
 rw [ymy (fun _ n=> !(decide (0<=n)&&decide (n<=65535))) (by omega) rfl (fun d x t he=>⟨((d.length:Nat):Int),by
  rw [yb0];simp only [zwx,Option.bind_some,zh6]
  by_cases h:0<=x <;> by_cases h':x<=65535 <;> simp [h,h']⟩)]
 rw [zhe]
 unfold zgi
 rw [List.all_eq_not_any_not]
 cases v1.any fun n=> !(decide (0<=n)&&decide (n<=65535)) <;> simp
theorem ys4 {β δ γ:Type} {body:Int->Option (Int⊕(β⊕δ))} (p:Nat->Bool) (N:Nat) (hN:N<=1048576) (hb:∀ i:Nat,i<N->∃ e,body i=some (if p i then .inr (.inl e) else .inl ((i:Int)+1))) (he:∃ e,body N=some (.inr (.inr e))) (A B:Option γ):
 (zbm body BIG 0).bind (zd2 (fun _=>A) (fun _=>B))=if(List.range N).any p then A else B:=by
 have key:∀ (m i n:Nat),i+m=N->m<n->(zbm body n (i:Int)).bind (zd2 (fun _=>A) (fun _=>B))=if(List.range' i m).any p then A else B:=by
  intro m
  induction m with
  | zero=>
    intro i n hi hn
    obtain ⟨n,rfl⟩:∃ q,n=q+1:=⟨n - 1,by omega⟩
    have:i=N:=by omega
    subst this
    obtain ⟨e,he⟩:=he
    simp [zbm,he,zd2]
  | succ m ih=>
    intro i n hi hn
    obtain ⟨n,rfl⟩:∃ q,n=q+1:=⟨n - 1,by omega⟩
    obtain ⟨e,hbe⟩:=hb i (by omega)
    simp only [zbm,hbe,List.range'_succ,List.any_cons]
    cases hp:p i with
    | true=>simp [zd2]
    | false=>
      have:=ih (i+1) n (by omega) (by omega)
      rw [Bool.false_or]
      simpa using this
 have:=key N 0 BIG (by omega) (by simp only [BIG];omega)
 rw [List.range_eq_range']
 simpa using this
theorem zpy {α:Type} (q:α->Bool) {xs d t:List α} (h:d++t=xs):(List.range d.length).any (fun i=>(xs[i]?).any q)=d.any q:=by
 subst h
 rw [Bool.eq_iff_iff]
 simp only [List.any_eq_true,List.mem_range,Option.any_eq_true]
 constructor
 ·rintro ⟨i,hi,y,hy,hq⟩
  rw [List.getElem?_append_left hi] at hy
  exact ⟨y,List.mem_of_getElem? hy,hq⟩
 ·rintro ⟨y,hy,hq⟩
  obtain ⟨i,hi,e⟩:=List.getElem_of_mem hy
  exact ⟨i,hi,y,by rw [List.getElem?_append_left hi,List.getElem?_eq_getElem hi,e],hq⟩
def zxn (x y:Tb):Bool:=yi4 x y
def zfb (d:List Tb) (x:Tb):Bool:= !ylk x||d.any (fun y=>zxn y x)
def zkp (l:List Tb):Bool:= !anyP zfb [] l&&decide (((l.length:Nat):Int)<=24)
theorem yfq (l:List Tb) (x:Tb):ysz l x=l.any (fun y=>yi4 y x):=zus
theorem qaa (v1:List Tb) (hv1:v1.length<=1048576):ypf v1=some (zkp v1):=by
 rw [ypf];unfold zr2
 rw [ymy zfb (by omega) rfl (fun d x t he=>⟨_,by
  rw [zzf]
  have hd:(v1.take (((d.length:Nat):Int)).toNat).drop (0:Int).toNat=d:=by
   rw [zag,<- he];simp
  have hlt:=zwd he
  rw [yz3,hd,qct d x (by omega),if_pos (by simp only [List.length_map];omega)]
  simp only [Option.bind_some,yfq]
  show _=some (if zfb d x=true then _ else _)
  unfold zfb zxn
  cases hr:ylk x
  ·rfl
  ·cases ha:d.any fun y=>yi4 y x <;> rfl⟩)]
 unfold zkp
 cases anyP zfb [] v1 <;> rfl
theorem ydv (r:Tb) (h:r.ok):yqd r=ylk r:=by
 simp only [Tb.ok] at h
 have e1:=ym3 (r.fac+r.fam)
 have e2:=ym3 (r.fad+r.fam)
 rw [Bool.eq_iff_iff]
 simp [yqd,ylk,yhz,ygw,ylg,zh6]
 omega
theorem yhx (v1:List Tb) (hv1:v1.length<=1048576) {d t:List Tb} {x:Tb} (he:d++x::t=v1) {γ:Type} (A B:Option γ):
 (zjt v1 ((d.length:Nat):Int) 0).bind (zd2 (fun _=>A) (fun _=>B))=if d.any (fun y=>zxn y x) then A else B:=by
 have hlt:=zwd he
 unfold zjt
 rw [ys4 (fun i=>(v1[i]?).any (fun y=>zxn y x)) d.length (by omega) (fun i hi=> ?_) ⟨((d.length:Nat):Int),by rw [zta];simp⟩,zpy (fun y=>zxn y x) he]
 have hi':i<v1.length:=by omega
 refine ⟨(i:Int),?_⟩
 rw [zta,zag,zag,zcj he,List.getElem?_eq_getElem hi']
 have hd:decide (((i:Nat):Int)<((d.length:Nat):Int))=true:=by simp;omega
 have hw:i64.wrap ((i:Int)+1)=(i:Int)+1:=zhj (by omega) (by omega)
 simp only [hd,cond_true,Option.bind_some,hw,Option.any_some,zxn,yi4,if_pos (Int.natCast_nonneg _)]
 by_cases h1:v1[i].fe=x.fe <;> by_cases h2:v1[i].fap=x.fap <;> by_cases h3:v1[i].fac<=x.fad <;> by_cases h4:x.fac<=v1[i].fad <;> simp [h1,h2,h3,h4]
theorem qe8 (v1:List Tb) (hv1:v1.length<=1048576) (hok:∀ r∈v1,r.ok):ynr v1=some (zkp v1):=by
 rw [ynr];unfold zrj
 unfold zkp
 by_cases hl:24<((v1.length:Nat):Int)
 ·have:¬((v1.length:Nat):Int)<=24:=by omega
  simp [hl,this]
 ·have hl':((v1.length:Nat):Int)<=24:=by omega
  simp only [hl,decide_false,cond_false,hl',decide_true,Bool.and_true]
  rw [ymy zfb (by omega) rfl (fun d x t he=> ?_)]
  ·cases anyP zfb [] v1 <;> rfl
  ·rw [zyt,qcf,ydv x (hok x (by rw [<- he];simp))]
   unfold zfb
   simp only [Option.bind_some]
   cases hr:ylk x
   ·exact ⟨_,rfl⟩
   ·simp only [Bool.not_true,cond_false,Bool.false_or]
    have h:=fun(A B:Option (Unit⊕((Int×V×V×V)⊕Unit)))=>yhx v1 hv1 he A B
    cases hx:zjt v1 ((d.length:Nat):Int) 0 with
    | none=>have:=h (some (.inl ())) (some (.inl ()));rw [hx] at this;simp at this
    | some r=>
      have h1:=h (some (.inr (.inr ()))) (some (.inl ()))
      rw [hx] at h1
      cases r with
      | inl a=>
        simp only [Option.bind_some,zd2] at h1 ⊢
        refine ⟨(((d.length:Nat):Int),(.int .i64 a:V),(.gone:V),(.bool true:V)),?_⟩
        split at h1
        ·rename_i ha;rw [if_pos ha]
        ·cases h1
      | inr a=>
        simp only [Option.bind_some,zd2] at h1 ⊢
        split at h1
        ·cases h1
        ·rename_i ha;exact ⟨(0,.gone,.gone,.gone),by rw [if_neg ha]⟩
def zcq (c:Tk):Bool:=yh9 c.fo c.fk&&zkp c.fd
theorem ywg (c:Tk) (h:c.sz<=1048576):yn8 c=some (zcq c):=by
 simp only [Tk.sz] at h
 rw [yn8,yts,Option.bind_some]
 unfold zcq
 cases yh9 c.fo c.fk
 ·rfl
 ·simp only [cond_true,qaa c.fd (by omega),Option.bind_some,Bool.true_and]
theorem ytc (c:Tk) (h:c.sz<=1048576) (hok:c.ok):ymr c=some (zcq c):=by
 simp only [Tk.sz] at h
 rw [ymr]
 simp only [zwx,Option.bind_some,qe8 c.fd (by omega) hok.2.2.2]
 unfold zcq yh9
 cases zh6 c.fo 1 100 <;> cases zh6 c.fk 0 5 <;> rfl
def yj5 (v1:Tm):Bool:=(bif decide (((v1.fab.length:Nat):Int)<=64) then(bif decide (((v1.faa.length:Nat):Int)<=64) then(bif decide (((v1.fu.length:Nat):Int)<=64) then(bif decide (((v1.fc.length:Nat):Int)<=64) then(let v6:=zgi v1.fu;(bif v6 then(let v9:=zgi v1.fc;v9) else false)) else false) else false) else false) else false)
theorem qbh (v1:Tm) (hv1:v1.sz<=1048576):yph v1=some (yj5 v1):=by
 rw [yph];first|rfl|(simp only [yu4 v1.fu (by simp only [Tm.sz] at hv1;omega),yu4 v1.fc (by simp only [Tm.sz] at hv1;omega),Option.bind_some,zb3];rfl)
def yr5 (v1:Tm):Bool:=(bif decide (((v1.fab.length:Nat):Int)<=64) then(bif decide (((v1.faa.length:Nat):Int)<=64) then(bif decide (((v1.fu.length:Nat):Int)<=64) then(bif decide (((v1.fc.length:Nat):Int)<=64) then(let v6:=zgi v1.fu;(bif v6 then(let v9:=zgi v1.fc;v9) else false)) else false) else false) else false) else false)
theorem qds (v1:Tm) (hv1:v1.sz<=1048576):ymw v1=some (yr5 v1):=by
 rw [ymw];first|rfl|(simp only [ysm v1.fu (by simp only [Tm.sz] at hv1;omega),ysm v1.fc (by simp only [Tm.sz] at hv1;omega),Option.bind_some,zb3];rfl)
def yjk (v1:Ta) (v2:Ta):Bool:=(bif decide (v1.fj=v2.fj) then decide (v1.fe=v2.fe) else false)
theorem yt1 (v1:Ta) (v2:Ta) (hv1:v1.sz<=1048576) (hv2:v2.sz<=1048576):ynn v1 v2=some (yjk v1 v2):=by
 rw [ynn];first|rfl|(simp only [Option.bind_some,zb3];rfl)
theorem qeo (v1:Tm) (hv1:v1.sz<=1048576):yr5 v1=yj5 v1:=by
 rfl
theorem qa3 (v1:Tm) (hv1:v1.sz<=1048576):ymw v1=some (yj5 v1):=by rw [qds v1 hv1,qeo v1 hv1]
def yqv (v1:List Ta) (v2:Ta):Int:=zup (fun (x:Ta)=>yjk x v2) v1 0
theorem yyl (v1:List Ta) (v2:Ta) (hv1:szL Ta.sz v1<=1048576) (hv2:v2.sz<=1048576):yny v1 v2=some (yqv v1 v2):=by
 have hlen:v1.length<=9223372036854775806:=by have hq:v1.length<=szL Ta.sz v1:=zaz;omega
 rw [yny];unfold zqx yqv
 exact ypv (fun (x:Ta)=>yjk x v2) hlen rfl (fun d x t he=>by rw [zzm];first|rfl|(simp only [yt1 x v2 (by have:=zc5 (f:=Ta.sz) (he ▸ (by simp:x∈d++x::t));omega) hv2,Option.bind_some];done)|(simp only [yt1 x v2 (by have:=zc5 (f:=Ta.sz) (he ▸ (by simp:x∈d++x::t));omega) hv2,Option.bind_some];rfl)|done)
def yuq (v1:List Ta) (v2:Ta):Bool:=(let v3:=yqv v1 v2;decide (0<=v3))
theorem qdw (v1:List Ta) (v2:Ta) (hv1:szL Ta.sz v1<=1048576) (hv2:v2.sz<=1048576):ynx v1 v2=some (yuq v1 v2):=by
 rw [ynx];first|rfl|(simp only [yyl v1 v2 hv1 hv2,Option.bind_some,zb3];rfl)
theorem mem_mid {α:Type} {d t xs:List α} {x:α} (he:d++x::t=xs):x∈xs:=by rw [<- he];simp
def zh9 (y x:Ta):Bool:=yjk y x
def zdy (d:List Ta) (x:Ta):Bool:= !ylg x.fj||(!yhz x.fe||(!yj5 x.fD||d.any fun y=>zh9 y x))
def zh2 (l:List Ta):Bool:= !anyP zdy [] l&&decide (((l.length:Nat):Int)<=8)
theorem yef (l:List Ta) (x:Ta):yuq l x=l.any (fun y=>yjk y x):=zus
theorem qba (v1:List Ta) (hv1:szL Ta.sz v1<=1048576) (hl:v1.length<=1048576):yob v1=some (zh2 v1):=by
 rw [yob];unfold zr9
 rw [ymy zdy (by omega) rfl (fun d x t he=>⟨_,by
  rw [yas]
  have hd:(v1.take (((d.length:Nat):Int)).toNat).drop (0:Int).toNat=d:=by
   rw [zag,<- he];simp
  have hlt:=zwd he
  have hx:x.sz<=1048576:=by subst he;have:=zc5 (f:=Ta.sz) (mem_mid rfl:x∈d++x::t);omega
  have hs:szL Ta.sz d<=1048576:=by subst he;simp only [szL,List.map_append,List.sum_append] at hv1 ⊢;omega
  have hD:x.fD.sz<=1048576:=by simp only [Ta.sz] at hx;omega
  rw [yui,yqk,qbh x.fD hD,hd,if_pos (by simp only [List.length_map];omega)]
  simp only [qdw d x (by first|omega|exact hs) (by first|omega|exact hx),Option.bind_some,yef]
  show _=some (if zdy d x=true then _ else _)
  unfold zdy zh9
  cases ylg x.fj
  ·rfl
  ·cases yhz x.fe
   ·rfl
   ·cases yj5 x.fD
    ·rfl
    ·cases ha:d.any fun y=>yjk y x <;> rfl⟩)]
 unfold zh2
 cases anyP zdy [] v1 <;> rfl
theorem yi5 (v1:List Ta) (hv1:v1.length<=1048576) {d t:List Ta} {x:Ta} (he:d++x::t=v1) {γ:Type} (A B:Option γ):
 (zjw v1 ((d.length:Nat):Int) 0).bind (zd2 (fun _=>A) (fun _=>B))=if d.any (fun y=>zh9 y x) then A else B:=by
 have hlt:=zwd he
 unfold zjw
 rw [ys4 (fun i=>(v1[i]?).any (fun y=>zh9 y x)) d.length (by omega) (fun i hi=> ?_) ⟨((d.length:Nat):Int),by rw [zs7];simp⟩,zpy (fun y=>zh9 y x) he]
 have hi':i<v1.length:=by omega
 refine ⟨(i:Int),?_⟩
 rw [zs7,zag,zag,zcj he,List.getElem?_eq_getElem hi']
 have hd:decide (((i:Nat):Int)<((d.length:Nat):Int))=true:=by simp;omega
 have hw:i64.wrap ((i:Int)+1)=(i:Int)+1:=zhj (by omega) (by omega)
 simp only [hd,cond_true,Option.bind_some,hw,Option.any_some,zh9,yjk,if_pos (Int.natCast_nonneg _)]
 by_cases h1:v1[i].fj=x.fj <;> by_cases h2:v1[i].fe=x.fe <;> simp [h1,h2]
theorem qca (v1:List Ta) (hv1:szL Ta.sz v1<=1048576) (hl:v1.length<=1048576):ynq v1=some (zh2 v1):=by
 rw [ynq];unfold zs2
 unfold zh2
 rw [ymy zdy (by omega) rfl (fun d x t he=> ?_)]
 ·cases anyP zdy [] v1 <;> rfl
 ·have hx:x.sz<=1048576:=by subst he;have:=zc5 (f:=Ta.sz) (mem_mid rfl:x∈d++x::t);omega
  have hD:x.fD.sz<=1048576:=by simp only [Ta.sz] at hx;omega
  rw [yby]
  simp only [zwx,qa3 x.fD hD,Option.bind_some]
  unfold zdy
  simp only [ylg,yhz]
  rcases Bool.eq_false_or_eq_true (zh6 x.fj 0 5) with h5|h5
  case inr=>simp only [h5];exact ⟨_,rfl⟩
  ·rcases Bool.eq_false_or_eq_true (zh6 x.fe 1 247) with h6|h6
   case inr=>simp only [h5,h6];exact ⟨_,rfl⟩
   ·rcases Bool.eq_false_or_eq_true (yj5 x.fD) with h7|h7
    case inr=>simp only [h5,h6,h7];exact ⟨_,rfl⟩
    ·simp only [h5,h6,h7,Bool.not_true,cond_false,Bool.false_or]
     have h:=fun(A B:Option (Unit⊕((Int×V×V×V)⊕Unit)))=>yi5 v1 hl he A B
     cases hx:zjw v1 ((d.length:Nat):Int) 0 with
     | none=>have:=h (some (.inl ())) (some (.inl ()));rw [hx] at this;simp at this
     | some r=>
       have h1:=h (some (.inr (.inr ()))) (some (.inl ()))
       rw [hx] at h1
       cases r with
       | inl a=>
         simp only [Option.bind_some,zd2] at h1 ⊢
         refine ⟨(((d.length:Nat):Int),(.int .i64 a:V),(.gone:V),(.bool true:V)),?_⟩
         split at h1
         ·rename_i ha;rw [if_pos ha]
         ·cases h1
       | inr a=>
         simp only [Option.bind_some,zd2] at h1 ⊢
         refine ⟨(((d.length:Nat):Int),(.gone:V),(.gone:V),(.gone:V)),?_⟩
         split at h1
         ·cases h1
         ·rename_i ha;rw [if_neg ha]
end Go.Pm
namespace Go.Pm
open IntKind (i64)
def mk {α:Type} (f:Int->α) (k:Int) (n:Nat):List α:=(List.range n).map fun(i:Nat)=>f (k+(i:Int))
theorem zh5 {α:Type} (f:Int->α) (k:Int) (n:Nat):(mk f k n).length=n:=by simp [mk]
theorem ylc {α:Type} (f:Int->α) (k:Int) (n:Nat):mk f k (n+1)=mk f k n ++ [f (k+(n:Int))]:=by simp [mk,List.range_succ]
theorem zcg {n:Int} (h0:0<=n) (h1:n<=4611686018427387904):i64.wrap n=n:=zhj (by omega) (by omega)
theorem yn0 {α:Type} (f:Int->α) (g:α->V) {body:List α×Int×Int->Option ((List α×Int×Int)⊕(List α×Int×Int))}
 (hb:∀ s,body s=bif decide (s.2.2<((s.1.length:Nat):Int)) then(if 0<=s.2.2/\(s.2.2:Int)<(((s.1.map g).length - 0:Nat):Int) then(((s.1)[s.2.2.toNat]?).bind fun _=>(some (.inl (s.1.set (s.2.2.toNat) (f s.2.1),(i64.wrap (s.2.1+1)),(i64.wrap (s.2.2+1)))))) else none) else(some (.inr (s.1,s.2.1,s.2.2))))
 (l:List α) {k:Int} (hl:l.length<=1048576) (hk:0<=k) (hk':k<=1099511627776):zbm body BIG (l,k,0)=some (mk f k l.length,k+(l.length:Int),(l.length:Int)):=by
 have key:∀ (j i n:Nat),i+j=l.length->j<n->zbm body n (mk f k i++l.drop i,k+(i:Int),(i:Int))=some (mk f k l.length,k+(l.length:Int),(l.length:Int)):=by
  intro j
  induction j with
  | zero=>
    intro i n hi hn
    obtain ⟨n,rfl⟩:∃ q,n=q+1:=⟨n - 1,by omega⟩
    have:i=l.length:=by omega
    subst this
    rw [zbm,hb]
    have hlen:(mk f k l.length++l.drop l.length).length=l.length:=by rw [List.length_append,zh5,List.length_drop];omega
    have hd:decide ((l.length:Int)<(((mk f k l.length++l.drop l.length).length:Nat):Int))=false:=by rw [hlen];simp
    simp only [hd,cond_false,Option.bind_some]
    simp
  | succ j ih=>
    intro i n hi hn
    obtain ⟨n,rfl⟩:∃ q,n=q+1:=⟨n - 1,by omega⟩
    have hil:i<l.length:=by omega
    rw [zbm,hb]
    have hlen:(mk f k i++l.drop i).length=l.length:=by rw [List.length_append,zh5,List.length_drop];omega
    have hd:decide ((i:Int)<(((mk f k i++l.drop i).length:Nat):Int))=true:=by rw [hlen];simp;omega
    simp only [hd,cond_true]
    rw [if_pos ⟨by omega,by rw [List.length_map,hlen];omega⟩]
    have hg:(mk f k i++l.drop i)[((i:Nat):Int).toNat]? =some l[i]:=by
     rw [Int.toNat_natCast,List.getElem?_append_right (by rw [zh5];omega),zh5,Nat.sub_self,List.getElem?_drop,Nat.add_zero,List.getElem?_eq_getElem hil]
    have hset:(mk f k i++l.drop i).set ((i:Nat):Int).toNat (f (k+(i:Int)))=mk f k (i+1)++l.drop (i+1):=by
     rw [Int.toNat_natCast,List.set_append_right _ _ (by rw [zh5];omega),zh5,Nat.sub_self,List.drop_eq_getElem_cons hil,List.set_cons_zero,ylc,List.append_assoc];rfl
    rw [hg,hset]
    simp only [Option.bind_some]
    rw [zcg (n:=k+(i:Int)+1) (by omega) (by omega),zcg (n:=(i:Int)+1) (by omega) (by omega)]
    have:=ih (i+1) n (by omega) (by omega)
    rw [show k+(i:Int)+1=k+((i+1:Nat):Int) by omega,show (i:Int)+1=((i+1:Nat):Int) by omega]
    exact this
 have:=key l.length 0 BIG (by omega) (by simp only [BIG];omega)
 simpa [mk] using this
theorem yn2 {α:Type} [DecidableEq α] (f:Int->α) {body:Int->α->Int->Option (Int⊕((Int×Int)⊕Int))} {last:Int->Option ((Int×Int)⊕Int)}
 (hb:∀ k x s,x=f s->body k x s=some (.inl (i64.wrap (s+1)))) (hlast:∀ s,last s=some (.inr s)) (n:Nat) {k:Int} (hk:0<=k) (hk':k<=1099511627776) (hn:n<=1048576):
 (if (mk f k n).length<=9223372036854775806 then zah body last (mk f k n) 0 k else none)=some (.inr (k+(n:Int))):=by
 rw [if_pos (by rw [zh5];omega)]
 have key:∀ (j i:Nat) (q:Int),i+j=n->zah body last ((mk f k n).drop i) q (k+(i:Int))=some (.inr (k+(n:Int))):=by
  intro j
  induction j with
  | zero=>
    intro i q hi
    have:i=n:=by omega
    subst this
    rw [List.drop_of_length_le (by rw [zh5];omega),zah,hlast]
  | succ j ih=>
    intro i q hi
    have hil:i<(mk f k n).length:=by rw [zh5];omega
    rw [List.drop_eq_getElem_cons hil,zah,hb _ _ _ (by simp [mk])]
    simp only [Option.bind_some]
    rw [zcg (n:=k+(i:Int)+1) (by omega) (by omega),show k+(i:Int)+1=k+((i+1:Nat):Int) by omega]
    exact ih (i+1) (q+1) (by omega)
 have:=key n 0 0 (by omega)
 simpa using this
def mB (k:Int):Bool:=decide ((k.tmod 3)=0)
theorem zax (l:List Int) {k:Int} (hl:l.length<=1048576) (hk:0<=k) (hk':k<=1099511627776):zqk l k=some (k+(l.length:Int),mk id k l.length):=by
 unfold zqk ztr
 rw [yn0 id (V.int .i64) (fun s=>by rw [ya3];rfl) l hl hk hk'];rfl
theorem zar (l:List Bool) {k:Int} (hl:l.length<=1048576) (hk:0<=k) (hk':k<=1099511627776):zpb l k=some (k+(l.length:Int),mk mB k l.length):=by
 unfold zpb zqn
 rw [yn0 mB V.bool (fun s=>by rw [yb3];rfl) l hl hk hk'];rfl
theorem zbs (n:Nat) {k:Int} (hk:0<=k) (hk':k<=1099511627776) (hn:n<=1048576):zqi (mk id k n) k=some (k+(n:Int)):=by
 unfold zqi zuv
 have e:=yn2 (body:=ztn (mk id k n)) (last:=ycs (mk id k n)) id (fun q x s h=>by rw [ztn,h];simp) (fun _=>rfl) n hk hk' hn
 rw [e];rfl
theorem zbe (n:Nat) {k:Int} (hk:0<=k) (hk':k<=1099511627776) (hn:n<=1048576):zp8 (mk mB k n) k=some (k+(n:Int)):=by
 unfold zp8 zu4
 have e:=yn2 (body:=ztt (mk mB k n)) (last:=yb8 (mk mB k n)) mB (fun q x s h=>by rw [ztt,h];simp [mB]) (fun _=>rfl) n hk hk' hn
 rw [e];rfl
theorem zct {α:Type} {l:List α} {n:Nat} (h:l.length=n):(l.take n).drop 0=l:=by subst h;simp
theorem dlt {n:Int} (h:0<=n):decide (n<0)=false:=by simp;omega
def Rnd {α ρ:Type} (hbd:List α->Int->α->Int->Option (Int⊕ρ)) (l:List α) (i:Nat) (k B:Int) (X:Option ((List α×Int×Int)⊕(List α×Int×Int))):Prop:=∃ y k',X=some (.inl (l.set i y,k',(i:Int)+1))/\k<=k'/\k'<=k+B/\∀ L q,hbd L q y k=some (.inl k')
theorem zdt {α ρ:Type} (sz:α->Nat) {body:List α×Int×Int->Option ((List α×Int×Int)⊕(List α×Int×Int))} {hbd:List α->Int->α->Int->Option (Int⊕ρ)} {lst:List α->Int->Option ρ}
 (hend:∀ (l:List α) (k:Int),body (l,k,(l.length:Int))=some (.inr (l,k,(l.length:Int))))
 (hb:∀ (l:List α) (k:Int) (i:Nat) (x:α),(l[i]? =some x)->l.length<=1048576->sz x<=1048576->0<=k->k+64 * (1+(sz x:Int))<=1000000000000->Rnd hbd l i k (64 * (1+(sz x:Int))) (body (l,k,(i:Int))))
 (l:List α) {k:Int} (hl:szL sz l<=1048576) (hk:0<=k) (hk':k+64 * (szL sz l:Int)<=1000000000000):∃ l' k',zbm body BIG (l,k,0)=some (l',k',(l.length:Int))/\l'.length=l.length/\k<=k'/\k'<=k+64 * (szL sz l:Int)/\∀ L q,zah (hbd L) (lst L) l' q k=lst L k':=by
 have key:∀ (t:List α) (i n:Nat) (l':List α) (q:Int),l'.length=i+t.length->l'.drop i=t->szL sz t<=1048576->l'.length<=1048576->t.length<n->0<=q->q+64 * (szL sz t:Int)<=1000000000000->
  ∃ l2 k',zbm body n (l',q,(i:Int))=some (l2,k',(l'.length:Int))/\l2.length=l'.length/\q<=k'/\k'<=q+64 * (szL sz t:Int)/\l2.take i=l'.take i/\∀ L p,zah (hbd L) (lst L) (l2.drop i) p q=lst L k':=by
  intro t
  induction t with
  | nil=>
    intro i n l' q h1 h2 h3 h4 h5 h6 h7
    obtain ⟨n,rfl⟩:∃ m,n=m+1:=⟨n - 1,by omega⟩
    have hi:i=l'.length:=by simp at h1;omega
    subst hi
    refine ⟨l',q,?_,rfl,by omega,by omega,rfl,fun L p=>by rw [List.drop_length];rfl⟩
    rw [zbm,hend];rfl
  | cons x t ih=>
    intro i n l' q h1 h2 h3 h4 h5 h6 h7
    obtain ⟨n,rfl⟩:∃ m,n=m+1:=⟨n - 1,by omega⟩
    have hs:szL sz (x::t)=1+sz x+szL sz t:=by simp [szL];omega
    have hx:l'[i]? =some x:=by
     have:=congrArg (·[0]?) h2
     simpa using this
    have hil:i<l'.length:=by simp at h1;omega
    obtain ⟨y,k1,e1,e2,e3,e4⟩:=hb l' q i x hx h4 (by omega) h6 (by omega)
    rw [zbm,e1]
    simp only [Option.bind_some]
    obtain ⟨l2,k2,f1,f2,f3,f4,f5,f6⟩:=ih (i+1) n (l'.set i y) k1 (by simp at h1 ⊢;omega) (by
     rw [List.drop_set_of_lt (by omega),<- List.tail_drop,h2];rfl) (by omega) (by rw [List.length_set];exact h4) (by simp at h5;omega) (by omega) (by omega)
    have hl2:l2.length=l'.length:=by rw [f2,List.length_set]
    refine ⟨l2,k2,?_,hl2,by omega,by omega,?_,fun L p=> ?_⟩
    ·rw [show (i:Int)+1=((i+1:Nat):Int) by omega,f1,List.length_set]
    ·have:=congrArg (List.take i) f5
     rw [List.take_take,List.take_take,Nat.min_eq_left (by omega)] at this
     rw [this,List.take_set_of_le (Nat.le_refl i)]
    ·have hy:l2[i]'(by omega)=y:=by
      have:=congrArg (·[i]?) f5
      simp only [List.getElem?_take,if_pos (Nat.lt_succ_self i),List.getElem?_set_self hil,List.getElem?_eq_getElem (show i<l2.length by omega),Option.some.injEq] at this
      exact this
     rw [List.drop_eq_getElem_cons (by omega),hy,zah,e4]
     simp only [Option.bind_some]
     exact f6 L (p+1)
 have hlen:l.length<=szL sz l:=zaz
 obtain ⟨l2,k2,f1,f2,f3,f4,f5,f6⟩:=key l 0 BIG l k (by simp) (by simp) hl (by omega) (by simp only [BIG];omega) hk (by omega)
 exact ⟨l2,k2,f1,f2,f3,f4,fun L q=>by simpa using f6 L q⟩
def zf5 {α:Type} (sz:α->Nat) (f:List α->Int->Option (Int×List α)) (h:List α->Int->Option Int):Prop:=∀ (l:List α) (k:Int),szL sz l<=1048576->0<=k->k+64 * (szL sz l:Int)<=1000000000000->∃ k' l',f l k=some (k',l')/\l'.length=l.length/\k<=k'/\k'<=k+64 * (szL sz l:Int)/\h l' k=some k'
theorem zp7 {α β ρ:Type} {sz:α->Nat} {f:List α->Int->Option (Int×List α)} {h:List α->Int->Option Int} (hf:zf5 sz f h) {hbd:List β->Int->β->Int->Option (Int⊕ρ)} {q:List α} {K:Int} {l:List β} {i:Nat} {k B:Int} {g:Int×List α->Option ((List β×Int×Int)⊕(List β×Int×Int))}
 (hl:szL sz q<=1048576) (hK:0<=K) (hK':K+64 * (szL sz q:Int)<=1000000000000) (H:∀ k1 l1,l1.length=q.length->K<=k1->k1<=K+64 * (szL sz q:Int)->h l1 K=some k1->Rnd hbd l i k B (g (k1,l1))):Rnd hbd l i k B ((f q K).bind g):=by
 obtain ⟨k1,l1,e1,e2,e3,e4,e5⟩:=hf q K hl hK hK'
 rw [e1]
 exact H k1 l1 e2 e3 e4 e5
theorem ltI {n:Int}:decide (n<n)=false:=by simp
theorem neI {n:Int}:decide (n≠n)=false:=by simp
theorem neB {b:Bool}:(true ^^ (b == b))=false:=by simp
end Go.Pm
namespace Go.Pm
theorem ya0:zf5 Tb.sz yoz ynh:=by
 intro l k hl hk hk'
 obtain ⟨l',k',e1,e2,e3,e4,e5⟩:=zdt Tb.sz (body:=znw) (hbd:=zrc) (lst:=yac) (fun l k=>by rw [znw];simp only [ltI,cond_false]) (fun l k i x hx hl hz hk hk'=>by
  have hi:i<l.length:=(List.getElem?_eq_some_iff.1 hx).1
  have hd:decide ((i:Int)<((l.length:Nat):Int))=true:=by simp;omega
  have hg:(0<=(i:Int)/\(i:Int)<((l.length:Nat):Int))=True:=by simp;omega
  rw [znw]
  simp only [Tb.sz] at hz hk' ⊢
  simp (disch:=omega) only [w1,hd,cond_true,List.length_map,List.length_set,Nat.sub_zero,hg,if_true,Int.toNat_natCast,hx,Option.bind_some,Option.map_some,List.getElem?_set_self,List.set_set,zcg,zax,zar]
  refine ⟨_,_,rfl,by omega,by omega,fun L q=> ?_⟩
  rw [zrc]
  simp (disch:=omega) only [w1,neI,neB,cond_false,Option.bind_some,zcg,zbs,zbe,dlt]) l hl hk hk'
 exact ⟨k',l',by unfold yoz zt5;rw [e1];rfl,e2,e3,e4,by unfold ynh zrd;rw [if_pos (by have:=zaz (f:=Tb.sz) (xs:=l);omega),e5];rfl⟩
theorem yc5:zf5 Tj.sz ymq ymi:=by
 intro l k hl hk hk'
 obtain ⟨l',k',e1,e2,e3,e4,e5⟩:=zdt Tj.sz (body:=zoa) (hbd:=zqq) (lst:=ych) (fun l k=>by rw [zoa];simp only [ltI,cond_false]) (fun l k i x hx hl hz hk hk'=>by
  have hi:i<l.length:=(List.getElem?_eq_some_iff.1 hx).1
  have hd:decide ((i:Int)<((l.length:Nat):Int))=true:=by simp;omega
  have hg:(0<=(i:Int)/\(i:Int)<((l.length:Nat):Int))=True:=by simp;omega
  rw [zoa]
  simp only [Tj.sz,Tl.sz] at hz hk' ⊢
  simp (disch:=omega) only [w1,hd,cond_true,List.length_map,List.length_set,Nat.sub_zero,hg,if_true,Int.toNat_natCast,hx,Option.bind_some,Option.map_some,List.getElem?_set_self,List.set_set,zcg,zax,zar]
  refine ⟨_,_,rfl,by omega,by omega,fun L q=> ?_⟩
  rw [zqq]
  simp (disch:=omega) only [w1,neI,neB,cond_false,Option.bind_some,zcg,zbs,zbe,dlt]) l hl hk hk'
 exact ⟨k',l',by unfold ymq zt2;rw [e1];rfl,e2,e3,e4,by unfold ymi zs5;rw [if_pos (by have:=zaz (f:=Tj.sz) (xs:=l);omega),e5];rfl⟩
theorem ya7:zf5 Th.sz ylz ync:=by
 intro l k hl hk hk'
 obtain ⟨l',k',e1,e2,e3,e4,e5⟩:=zdt Th.sz (body:=zmr) (hbd:=ztx) (lst:=yaa) (fun l k=>by rw [zmr];simp only [ltI,cond_false]) (fun l k i x hx hl hz hk hk'=>by
  have hi:i<l.length:=(List.getElem?_eq_some_iff.1 hx).1
  have hd:decide ((i:Int)<((l.length:Nat):Int))=true:=by simp;omega
  have hg:(0<=(i:Int)/\(i:Int)<((l.length:Nat):Int))=True:=by simp;omega
  rw [zmr]
  simp only [Th.sz] at hz hk' ⊢
  simp (disch:=omega) only [w1,hd,cond_true,List.length_map,List.length_set,Nat.sub_zero,hg,if_true,Int.toNat_natCast,hx,Option.bind_some,Option.map_some,List.getElem?_set_self,List.set_set,zcg,zax,zar]
  refine ⟨_,_,rfl,by omega,by omega,fun L q=> ?_⟩
  rw [ztx]
  simp (disch:=omega) only [w1,neI,neB,cond_false,Option.bind_some,zcg,zbs,zbe,dlt]) l hl hk hk'
 exact ⟨k',l',by unfold ylz zr5;rw [e1];rfl,e2,e3,e4,by unfold ync zv3;rw [if_pos (by have:=zaz (f:=Th.sz) (xs:=l);omega),e5];rfl⟩
theorem yix:zf5 Ti.sz yo6 ypd:=by
 intro l k hl hk hk'
 obtain ⟨l',k',e1,e2,e3,e4,e5⟩:=zdt Ti.sz (body:=zli) (hbd:=zs4) (lst:=yag) (fun l k=>by rw [zli];simp only [ltI,cond_false]) (fun l k i x hx hl hz hk hk'=>by
  have hi:i<l.length:=(List.getElem?_eq_some_iff.1 hx).1
  have hd:decide ((i:Int)<((l.length:Nat):Int))=true:=by simp;omega
  have hg:(0<=(i:Int)/\(i:Int)<((l.length:Nat):Int))=True:=by simp;omega
  rw [zli]
  simp only [Ti.sz,Tl.sz] at hz hk' ⊢
  simp (disch:=omega) only [w1,hd,cond_true,List.length_map,List.length_set,Nat.sub_zero,hg,if_true,Int.toNat_natCast,hx,Option.bind_some,Option.map_some,List.getElem?_set_self,List.set_set,zcg,zax,zar]
  refine ⟨_,_,rfl,by omega,by omega,fun L q=> ?_⟩
  rw [zs4]
  simp (disch:=omega) only [w1,neI,neB,cond_false,Option.bind_some,zcg,zbs,zbe,dlt]) l hl hk hk'
 exact ⟨k',l',by unfold yo6 zuw;rw [e1];rfl,e2,e3,e4,by unfold ypd zrl;rw [if_pos (by have:=zaz (f:=Ti.sz) (xs:=l);omega),e5];rfl⟩
theorem yku:zf5 Td.sz yot ypg:=by
 intro l k hl hk hk'
 obtain ⟨l',k',e1,e2,e3,e4,e5⟩:=zdt Td.sz (body:=zn6) (hbd:=zvc) (lst:=ybg) (fun l k=>by rw [zn6];simp only [ltI,cond_false]) (fun l k i x hx hl hz hk hk'=>by
  have hi:i<l.length:=(List.getElem?_eq_some_iff.1 hx).1
  have hd:decide ((i:Int)<((l.length:Nat):Int))=true:=by simp;omega
  have hg:(0<=(i:Int)/\(i:Int)<((l.length:Nat):Int))=True:=by simp;omega
  rw [zn6]
  simp only [Td.sz,Tl.sz] at hz hk' ⊢
  simp (disch:=omega) only [w1,hd,cond_true,List.length_map,List.length_set,Nat.sub_zero,hg,if_true,Int.toNat_natCast,hx,Option.bind_some,Option.map_some,List.getElem?_set_self,List.set_set,zcg,zax,zar]
  refine zp7 yc5 (by omega) (by omega) (by omega) fun k0 l0 g01 g02 g03 g04=> ?_
  simp (disch:=omega) only [w1,hd,cond_true,List.length_map,List.length_set,Nat.sub_zero,hg,if_true,Int.toNat_natCast,hx,Option.bind_some,Option.map_some,List.getElem?_set_self,List.set_set,zcg,zax,zar]
  refine zp7 ya7 (by omega) (by omega) (by omega) fun k1 l1 g11 g12 g13 g14=> ?_
  simp (disch:=omega) only [w1,hd,cond_true,List.length_map,List.length_set,Nat.sub_zero,hg,if_true,Int.toNat_natCast,hx,Option.bind_some,Option.map_some,List.getElem?_set_self,List.set_set,zcg,zax,zar]
  refine ⟨_,_,rfl,by omega,by omega,fun L q=> ?_⟩
  rw [zvc]
  simp (disch:=omega) only [w1,neI,neB,cond_false,Option.bind_some,zcg,zbs,zbe,dlt,g04,g14]) l hl hk hk'
 exact ⟨k',l',by unfold yot zt6;rw [e1];rfl,e2,e3,e4,by unfold ypg zuh;rw [if_pos (by have:=zaz (f:=Td.sz) (xs:=l);omega),e5];rfl⟩
theorem ykv:zf5 Tc.sz yog ynv:=by
 intro l k hl hk hk'
 obtain ⟨l',k',e1,e2,e3,e4,e5⟩:=zdt Tc.sz (body:=zlz) (hbd:=zts) (lst:=zy6) (fun l k=>by rw [zlz];simp only [ltI,cond_false]) (fun l k i x hx hl hz hk hk'=>by
  have hi:i<l.length:=(List.getElem?_eq_some_iff.1 hx).1
  have hd:decide ((i:Int)<((l.length:Nat):Int))=true:=by simp;omega
  have hg:(0<=(i:Int)/\(i:Int)<((l.length:Nat):Int))=True:=by simp;omega
  rw [zlz]
  simp only [Tc.sz,Ti.sz,Tl.sz] at hz hk' ⊢
  simp (disch:=omega) only [w1,hd,cond_true,List.length_map,List.length_set,Nat.sub_zero,hg,if_true,Int.toNat_natCast,hx,Option.bind_some,Option.map_some,List.getElem?_set_self,List.set_set,zcg,zax,zar]
  refine zp7 yix (by omega) (by omega) (by omega) fun k0 l0 g01 g02 g03 g04=> ?_
  simp (disch:=omega) only [w1,hd,cond_true,List.length_map,List.length_set,Nat.sub_zero,hg,if_true,Int.toNat_natCast,hx,Option.bind_some,Option.map_some,List.getElem?_set_self,List.set_set,zcg,zax,zar]
  refine ⟨_,_,rfl,by omega,by omega,fun L q=> ?_⟩
  rw [zts]
  simp (disch:=omega) only [w1,neI,neB,cond_false,Option.bind_some,zcg,zbs,zbe,dlt,g04]) l hl hk hk'
 exact ⟨k',l',by unfold yog zrk;rw [e1];rfl,e2,e3,e4,by unfold ynv zt1;rw [if_pos (by have:=zaz (f:=Tc.sz) (xs:=l);omega),e5];rfl⟩
theorem zz6:zf5 Ta.sz yn6 yp6:=by
 intro l k hl hk hk'
 obtain ⟨l',k',e1,e2,e3,e4,e5⟩:=zdt Ta.sz (body:=zo8) (hbd:=ztp) (lst:=ye5) (fun l k=>by rw [zo8];simp only [ltI,cond_false]) (fun l k i x hx hl hz hk hk'=>by
  have hi:i<l.length:=(List.getElem?_eq_some_iff.1 hx).1
  have hd:decide ((i:Int)<((l.length:Nat):Int))=true:=by simp;omega
  have hg:(0<=(i:Int)/\(i:Int)<((l.length:Nat):Int))=True:=by simp;omega
  rw [zo8]
  simp only [Ta.sz,Tm.sz] at hz hk' ⊢
  simp (disch:=omega) only [w1,hd,cond_true,List.length_map,List.length_set,Nat.sub_zero,hg,if_true,Int.toNat_natCast,hx,Option.bind_some,Option.map_some,List.getElem?_set_self,List.set_set,zcg,zax,zar]
  refine ⟨_,_,rfl,by omega,by omega,fun L q=> ?_⟩
  rw [ztp]
  simp (disch:=omega) only [w1,neI,neB,cond_false,Option.bind_some,zcg,zbs,zbe,dlt]) l hl hk hk'
 exact ⟨k',l',by unfold yn6 zr4;rw [e1];rfl,e2,e3,e4,by unfold yp6 zsz;rw [if_pos (by have:=zaz (f:=Ta.sz) (xs:=l);omega),e5];rfl⟩
theorem zzw:zf5 Tf.sz yok ype:=by
 intro l k hl hk hk'
 obtain ⟨l',k',e1,e2,e3,e4,e5⟩:=zdt Tf.sz (body:=zl8) (hbd:=zua) (lst:=yae) (fun l k=>by rw [zl8];simp only [ltI,cond_false]) (fun l k i x hx hl hz hk hk'=>by
  have hi:i<l.length:=(List.getElem?_eq_some_iff.1 hx).1
  have hd:decide ((i:Int)<((l.length:Nat):Int))=true:=by simp;omega
  have hg:(0<=(i:Int)/\(i:Int)<((l.length:Nat):Int))=True:=by simp;omega
  rw [zl8]
  simp only [Tf.sz,Tl.sz,Th.sz] at hz hk' ⊢
  simp (disch:=omega) only [w1,hd,cond_true,List.length_map,List.length_set,Nat.sub_zero,hg,if_true,Int.toNat_natCast,hx,Option.bind_some,Option.map_some,List.getElem?_set_self,List.set_set,zcg,zax,zar]
  refine ⟨_,_,rfl,by omega,by omega,fun L q=> ?_⟩
  rw [zua]
  simp (disch:=omega) only [w1,neI,neB,cond_false,Option.bind_some,zcg,zbs,zbe,dlt]) l hl hk hk'
 exact ⟨k',l',by unfold yok zrg;rw [e1];rfl,e2,e3,e4,by unfold ype zqu;rw [if_pos (by have:=zaz (f:=Tf.sz) (xs:=l);omega),e5];rfl⟩
theorem yea:zf5 Te.sz yoc yoo:=by
 intro l k hl hk hk'
 obtain ⟨l',k',e1,e2,e3,e4,e5⟩:=zdt Te.sz (body:=zoo) (hbd:=ztu) (lst:=ycp) (fun l k=>by rw [zoo];simp only [ltI,cond_false]) (fun l k i x hx hl hz hk hk'=>by
  have hi:i<l.length:=(List.getElem?_eq_some_iff.1 hx).1
  have hd:decide ((i:Int)<((l.length:Nat):Int))=true:=by simp;omega
  have hg:(0<=(i:Int)/\(i:Int)<((l.length:Nat):Int))=True:=by simp;omega
  rw [zoo]
  simp only [Te.sz,Tl.sz,Th.sz] at hz hk' ⊢
  simp (disch:=omega) only [w1,hd,cond_true,List.length_map,List.length_set,Nat.sub_zero,hg,if_true,Int.toNat_natCast,hx,Option.bind_some,Option.map_some,List.getElem?_set_self,List.set_set,zcg,zax,zar]
  refine zp7 yc5 (by omega) (by omega) (by omega) fun k0 l0 g01 g02 g03 g04=> ?_
  simp (disch:=omega) only [w1,hd,cond_true,List.length_map,List.length_set,Nat.sub_zero,hg,if_true,Int.toNat_natCast,hx,Option.bind_some,Option.map_some,List.getElem?_set_self,List.set_set,zcg,zax,zar]
  refine zp7 ya7 (by omega) (by omega) (by omega) fun k1 l1 g11 g12 g13 g14=> ?_
  simp (disch:=omega) only [w1,hd,cond_true,List.length_map,List.length_set,Nat.sub_zero,hg,if_true,Int.toNat_natCast,hx,Option.bind_some,Option.map_some,List.getElem?_set_self,List.set_set,zcg,zax,zar]
  refine ⟨_,_,rfl,by omega,by omega,fun L q=> ?_⟩
  rw [ztu]
  simp (disch:=omega) only [w1,neI,neB,cond_false,Option.bind_some,zcg,zbs,zbe,dlt,g04,g14]) l hl hk hk'
 exact ⟨k',l',by unfold yoc zst;rw [e1];rfl,e2,e3,e4,by unfold yoo zrh;rw [if_pos (by have:=zaz (f:=Te.sz) (xs:=l);omega),e5];rfl⟩
theorem zyx:zf5 Tg.sz yp0 ypm:=by
 intro l k hl hk hk'
 obtain ⟨l',k',e1,e2,e3,e4,e5⟩:=zdt Tg.sz (body:=zln) (hbd:=zru) (lst:=ybl) (fun l k=>by rw [zln];simp only [ltI,cond_false]) (fun l k i x hx hl hz hk hk'=>by
  have hi:i<l.length:=(List.getElem?_eq_some_iff.1 hx).1
  have hd:decide ((i:Int)<((l.length:Nat):Int))=true:=by simp;omega
  have hg:(0<=(i:Int)/\(i:Int)<((l.length:Nat):Int))=True:=by simp;omega
  rw [zln]
  simp only [Tg.sz,Tl.sz,Th.sz] at hz hk' ⊢
  simp (disch:=omega) only [w1,hd,cond_true,List.length_map,List.length_set,Nat.sub_zero,hg,if_true,Int.toNat_natCast,hx,Option.bind_some,Option.map_some,List.getElem?_set_self,List.set_set,zcg,zax,zar]
  refine ⟨_,_,rfl,by omega,by omega,fun L q=> ?_⟩
  rw [zru]
  simp (disch:=omega) only [w1,neI,neB,cond_false,Option.bind_some,zcg,zbs,zbe,dlt]) l hl hk hk'
 exact ⟨k',l',by unfold yp0 zug;rw [e1];rfl,e2,e3,e4,by unfold ypm zrn;rw [if_pos (by have:=zaz (f:=Tg.sz) (xs:=l);omega),e5];rfl⟩
end Go.Pm
namespace Go.Pm
theorem yn1 {α:Type} {body:Int->α->List α->Option (List α⊕List α)} {last:List α->Option (List α)} (xs:List α) (hlast:∀ s,last s=some s) (hl:xs.length<=1048576)
 (hb:∀ k x (s:List α),x∈xs->s.length<=1048576->body k x s=some (.inl (s ++ [x]))):zah body last xs 0 []=some xs:=by
 have key:∀ (t d:List α) (k:Int),d++t=xs->zah body last t k d=some xs:=by
  intro t
  induction t with
  | nil=>intro d k h;rw [zah,hlast,<- h,List.append_nil]
  | cons x t ih=>
    intro d k h
    rw [zah,hb k x d (by rw [<- h];simp) (by rw [<- h] at hl;simp at hl;omega)]
    exact ih (d ++ [x]) (k+1) (by rw [<- h];simp)
 exact key xs [] 0 rfl
theorem qbj (v1:Tk) (h:v1.sz<=1048576):ypc v1=some v1:=by
 simp only [Tk.sz] at h
 unfold ypc
 simp (disch:=first|omega|(simp only [List.length_nil,List.length_map,List.length_cons,List.length_singleton,Nat.zero_add];omega)) only [Option.bind_some,if_pos]
theorem qdg (v1:Tm) (h:v1.sz<=1048576):yp1 v1=some v1:=by
 simp only [Tm.sz] at h
 unfold yp1
 simp (disch:=first|omega|(simp only [List.length_nil,List.length_map,List.length_cons,List.length_singleton,Nat.zero_add];omega)) only [Option.bind_some,if_pos]
theorem yzo (v1:Tm) (h:v1.sz<=1048576):yo8 v1=some v1:=by
 simp only [Tm.sz] at h
 unfold yo8
 simp (disch:=first|omega|(simp only [List.length_nil,List.length_map,List.length_cons,List.length_singleton,Nat.zero_add];omega)) only [Option.bind_some,if_pos]
theorem qa5 (v1:List Ta) (h:szL Ta.sz v1<=1048576):ypl v1=some v1:=by
 have hl:=zaz (f:=Ta.sz) (xs:=v1)
 have e:=yn1 (body:=zsx v1) (last:=ybd v1) v1 (fun _=>rfl) (by omega) (fun k x s hx hs=>by
  have hxs:=zc5 (f:=Ta.sz) hx
  have hxz:x.sz<=1048576:=by omega
  simp only [Ta.sz] at hxs
  rw [zsx]
  simp (disch:=first|omega|(simp only [List.length_nil,List.length_map,List.length_cons,List.length_singleton,Nat.zero_add];omega)) only [qdg,Option.bind_some,if_pos])
 unfold ypl zuq
 rw [if_pos (by omega),e]
 rfl
theorem qbx (v1:List Ta) (h:szL Ta.sz v1<=1048576):yp9 v1=some v1:=by
 have hl:=zaz (f:=Ta.sz) (xs:=v1)
 have e:=yn1 (body:=zv2 v1) (last:=ye1 v1) v1 (fun _=>rfl) (by omega) (fun k x s hx hs=>by
  have hxs:=zc5 (f:=Ta.sz) hx
  have hxz:x.sz<=1048576:=by omega
  simp only [Ta.sz] at hxs
  rw [zv2]
  simp (disch:=first|omega|(simp only [List.length_nil,List.length_map,List.length_cons,List.length_singleton,Nat.zero_add];omega)) only [yzo,Option.bind_some,if_pos])
 unfold yp9 zqt
 rw [if_pos (by omega),e]
 rfl
end Go.Pm
namespace Go.Pm
theorem zmn (l:List Tb):szL Tb.sz l=l.length:=by
 have:(l.map Tb.sz).sum=0:=by
  induction l with
  | nil=>rfl
  | cons x t ih=>simp only [List.map_cons,List.sum_cons,ih,Tb.sz]
 unfold szL;omega
theorem yfi (a:Tn) (k:Int) (hz:a.sz<=1048576) (hk:0<=k) (hk':k+64 * (a.sz:Int)<=1000000000000):∃ k' f,ypi a k=some (k',f)/\f.fp.fd.length=a.fp.fd.length/\f.fq.fr.length=a.fq.fr.length/\f.ft.length=a.ft.length/\k<=k'/\k'<=k+64 * (a.sz:Int)/\∀ g:Tn,g.fp.fd=f.fp.fd->g.fq.fr=f.fq.fr->g.ft=f.ft->ynl g k=some k':=by
 simp only [Tn.sz,Tk.sz,Tp.sz] at hz hk' ⊢
 have hr0:=zmn a.fp.fd
 obtain ⟨k1,l1,e1,f1,g1,h1,i1⟩:=ya0 a.fp.fd k (by omega) hk (by omega)
 obtain ⟨k2,l2,e2,f2,g2,h2,i2⟩:=yku a.fq.fr k1 (by omega) (by omega) (by omega)
 obtain ⟨k3,l3,e3,f3,g3,h3,i3⟩:=ykv a.ft k2 (by omega) (by omega) (by omega)
 refine ⟨k3,{ a with fp:={ a.fp with fd:=l1 },fq:=⟨a.fq.fao,l2⟩,ft:=l3 },?_,f1,f2,f3,by omega,by omega,?_⟩
 ·unfold ypi ylt yq4
  simp only [e1,e2,e3,Option.bind_some,List.length_map,f1,f2,f3,Nat.le_refl,if_true,zct f1,zct f2,zct f3]
  try rfl
 ·intro g q1 q2 q3
  simp only at q1 q2 q3
  unfold ynl ypt yqj
  simp only [q1,q2,q3,i1,i2,i3,Option.bind_some,dlt (show (0:Int)<=k1 by omega),dlt (show (0:Int)<=k2 by omega),dlt (show (0:Int)<=k3 by omega),cond_false]
theorem yi9 (a:To) (k:Int) (hz:a.sz<=1048576) (hk:0<=k) (hk':k+64 * (a.sz:Int)<=1000000000000):∃ k' f,yom a k=some (k',f)/\k<=k'/\∀ g:To,g.fF.fp.fd=f.fF.fp.fd->g.fF.fq.fr=f.fF.fq.fr->g.fF.ft=f.fF.ft->g.fag=f.fag->g.faf=f.faf->g.fah=f.fah->g.fai=f.fai->yle g k=some k':=by
 simp only [To.sz] at hz hk'
 obtain ⟨k1,l1,e1,f1,f2,f3,g1,h1,j1⟩:=yfi a.fF k (by omega) hk (by omega)
 obtain ⟨k2,l2,e2,f4,g2,h2,j2⟩:=zz6 a.fag k1 (by omega) (by omega) (by omega)
 obtain ⟨k3,l3,e3,f5,g3,h3,j3⟩:=zzw a.faf k2 (by omega) (by omega) (by omega)
 obtain ⟨k4,l4,e4,f6,g4,h4,j4⟩:=yea a.fah k3 (by omega) (by omega) (by omega)
 obtain ⟨k5,l5,e5,f7,g5,h5,j5⟩:=zyx a.fai k4 (by omega) (by omega) (by omega)
 refine ⟨k5,⟨{ a.fF with fp:={ a.fF.fp with fd:=l1.fp.fd },fq:=⟨a.fF.fq.fao,l1.fq.fr⟩,ft:=l1.ft },l2,l3,l4,l5⟩,?_,by omega,?_⟩
 ·unfold yom
  simp only [e1,e2,e3,e4,e5,Option.bind_some,List.length_map,f1,f2,f3,f4,f5,f6,f7,Nat.le_refl,if_true,zct f1,zct f2,zct f3,zct f4,zct f5,zct f6,zct f7]
  try rfl
 ·intro g q1 q2 q3 q4 q5 q6 q7
  simp only at q1 q2 q3 q4 q5 q6 q7
  unfold yle
  simp only [j1 g.fF q1 q2 q3,q4,q5,q6,q7,j2,j3,j4,j5,Option.bind_some,dlt (show (0:Int)<=k1 by omega),dlt (show (0:Int)<=k2 by omega),dlt (show (0:Int)<=k3 by omega),dlt (show (0:Int)<=k4 by omega),dlt (show (0:Int)<=k5 by omega),cond_false]
theorem ygo {body:List Tc×Int->Option ((List Tc×Int)⊕(Int×List Tc))} (x:Tc) (hb:∀ (l:List Tc) (i:Nat),i<6->l.length=i->body (l,(i:Int))=some (.inl (l ++ [x],((i+1:Nat):Int)))) (he:∀ l,body (l,6)=some (.inr (6,l))):
 zbm body BIG ([],0)=some (6,[x,x,x,x,x,x]):=by
 have st:∀ (m i:Nat) (l:List Tc),i<6->l.length=i->zbm body (m+1) (l,(i:Int))=zbm body m (l ++ [x],((i+1:Nat):Int)):=by
  intro m i l h1 h2
  rw [zbm,hb l i h1 h2];rfl
 have hB:BIG=(BIG - 7)+6+1:=by simp only [BIG]
 rw [hB]
 generalize BIG - 7=m
 have e0:=st (m+6) 0 [] (by omega) rfl
 have e1:=st (m+5) 1 [x] (by omega) rfl
 have e2:=st (m+4) 2 [x,x] (by omega) rfl
 have e3:=st (m+3) 3 [x,x,x] (by omega) rfl
 have e4:=st (m+2) 4 [x,x,x,x] (by omega) rfl
 have e5:=st (m+1) 5 [x,x,x,x,x] (by omega) rfl
 refine e0.trans (e1.trans (e2.trans (e3.trans (e4.trans (e5.trans ?_)))))
 show zbm body (m+1) ([x,x,x,x,x,x],6)=_
 rw [zbm,he]
 rfl
def ze2 (w t:Int):Tc:=bif yh9 w t then ⟨[],false,⟨0,0,0,⟨0,0,0,[],[],0⟩⟩,0,0,0,0,w,t⟩ else ⟨[],false,⟨0,0,0,⟨0,0,0,[],[],0⟩⟩,0,0,0,0,0,0⟩
theorem ybj (w t:Int):yp8 w t=some (ze2 w t):=by
 unfold yp8 ze2
 rw [yts,Option.bind_some]
 cases yh9 w t <;> rfl
theorem yd9 (w t:Int):yp7 w t=some (ze2 w t):=by
 unfold yp7 ze2 yh9
 simp only [zwx,Option.bind_some]
 cases zh6 w 1 100 <;> cases zh6 t 0 5 <;> rfl
def ylo (c:Tk):Tn:=bif zcq c then ⟨0,c,⟨0,[]⟩,[ze2 c.fo c.fk,ze2 c.fo c.fk,ze2 c.fo c.fk,ze2 c.fo c.fk,ze2 c.fo c.fk,ze2 c.fo c.fk],0,0,0,0⟩ else ⟨0,⟨0,0,[]⟩,⟨0,[]⟩,[],0,0,0,0⟩
theorem yep (c:Tk) (h:c.sz<=1048576):yns c=some (ylo c):=by
 have e:=ygo (body:=zm5 c c) (ze2 c.fo c.fk) (fun l i h1 h2=>by
  have hd:decide (((i:Nat):Int)<6)=true:=by simp;omega
  rw [zm5]
  simp only [hd,cond_true,ybj,Option.bind_some]
  rw [if_pos (by simp only [List.length_map,List.length_singleton];omega),zcg (n:=(i:Int)+1) (by omega) (by omega)];rfl) (fun l=>by rw [zm5];rfl)
 unfold yns ylo
 rw [ywg c h,Option.bind_some]
 cases zcq c
 ·rfl
 ·simp only [qbj c h,Option.bind_some,Bool.not_true,cond_false,cond_true]
  unfold zsk
  rw [e];rfl
theorem yev (c:Tk) (h:c.sz<=1048576) (hok:c.ok):yni c=some (ylo c):=by
 have e:=ygo (body:=zlv c) (ze2 c.fo c.fk) (fun l i h1 h2=>by
  have hd:decide (((i:Nat):Int)<6)=true:=by simp;omega
  rw [zlv]
  simp only [hd,cond_true,yd9,Option.bind_some]
  rw [if_pos (by simp only [List.length_map,List.length_singleton];omega),zcg (n:=(i:Int)+1) (by omega) (by omega)];rfl) (fun l=>by rw [zlv];rfl)
 have hr:c.fd.length<=1048576:=by have g:=h;simp only [Tk.sz] at g;omega
 unfold yni ylo
 rw [ytc c h hok,Option.bind_some]
 cases zcq c
 ·rfl
 ·have hc:((([]:List V).length+(c.fd.map Tb.i).length) * 56<=70368744177664)=True:=by simp only [List.length_nil,List.length_map,eq_iff_iff,iff_true];omega
  simp only [Bool.not_true,cond_false,cond_true,hc,if_true]
  unfold zqo
  rw [e];rfl
def zi0 (c:Tk) (l:List Ta):To×Bool:=bif zcq c&&zh2 l then(⟨ylo c,l,[],[],[]⟩,true) else(⟨⟨0,⟨0,0,[]⟩,⟨0,[]⟩,[],0,0,0,0⟩,[],[],[],[]⟩,false)
theorem yfm (c:Tk) (l:List Ta) (hc:c.sz<=1048576) (hl:szL Ta.sz l<=1048576):yn3 c l=some (zi0 c l):=by
 have hll:=zaz (f:=Ta.sz) (xs:=l)
 unfold yn3 zi0
 simp only [ywg c hc,qba l hl (by omega),yep c hc,qa5 l hl,Option.bind_some]
 cases zcq c <;> cases zh2 l <;> rfl
theorem yg1 (c:Tk) (l:List Ta) (hok:c.ok) (hc:c.sz<=1048576) (hl:szL Ta.sz l<=1048576):yno c l=some (zi0 c l):=by
 have hll:=zaz (f:=Ta.sz) (xs:=l)
 unfold yno zi0
 simp only [ytc c hc hok,qca l hl (by omega),yev c hc hok,qbx l hl,Option.bind_some]
 cases zcq c <;> cases zh2 l <;> rfl
theorem yd1 {c:Tk} (h:zcq c=true):c.fd.length<=24:=by
 unfold zcq zkp at h
 simp only [Bool.and_eq_true,decide_eq_true_eq] at h
 omega
theorem zvv:∀ {l d:List Ta},anyP zdy d l=false->szL Ta.sz l<=300 * l.length
 | [],_,_=>by simp [szL]
 | x::l,d,h=>by
   simp only [anyP,Bool.or_eq_false_iff] at h
   have h2:=zvv h.2
   have h1:=h.1
   unfold zdy yj5 at h1
   have hx:x.fD.sz<=256:=by
    cases hq:decide (((x.fD.fab.length:Nat):Int)<=64) <;> simp [hq] at h1 <;> simp at hq
    simp only [Tm.sz]
    omega
   simp only [szL,List.map_cons,List.sum_cons,List.length_cons,Ta.sz] at h2 ⊢
   omega
theorem yei (c:Tk) (l:List Ta):(zi0 c l).1.sz<=10000:=by
 unfold zi0
 cases hc:zcq c
 ·simp [To.sz,Tn.sz,Tk.sz,Tp.sz,szL]
 ·cases hp:zh2 l
  ·simp [To.sz,Tn.sz,Tk.sz,Tp.sz,szL]
  ·have h1:=yd1 hc
   have h2:szL Ta.sz l<=300 * l.length/\l.length<=8:=by
    unfold zh2 at hp
    simp only [Bool.and_eq_true,decide_eq_true_eq,Bool.not_eq_true'] at hp
    exact ⟨zvv hp.1,by omega⟩
   have h3:(ze2 c.fo c.fk).sz=0:=by unfold ze2;cases yh9 c.fo c.fk <;> rfl
   unfold ylo
   simp only [hc,cond_true,Bool.and_self,To.sz,Tn.sz,Tk.sz,Tp.sz]
   have e1:szL Tc.sz [ze2 c.fo c.fk,ze2 c.fo c.fk,ze2 c.fo c.fk,ze2 c.fo c.fk,ze2 c.fo c.fk,ze2 c.fo c.fk]=6:=by simp [szL,h3]
   have e2:szL Td.sz ([]:List Td)=0:=rfl
   have e3:szL Tf.sz ([]:List Tf)=0:=rfl
   have e4:szL Te.sz ([]:List Te)=0:=rfl
   have e5:szL Tg.sz ([]:List Tg)=0:=rfl
   rw [e1,e2,e3,e4,e5]
   omega
theorem zga (a:Tk) (r:List Ta) (h:a.ok) (hl:r.length<=9223372036854775807) (hok:∀ x∈r,x.ok):yqm a r=some true:=by
 rw [yqm]
 obtain ⟨h1,h2⟩:=zxs a h 1048576 (by omega) (by omega)
 by_cases hs:a.sz<=1048576
 ·rw [h1 (by omega)]
  have hd:decide ((1048576:Int) - (a.sz:Int)<0)=false:=by simp;omega
  simp only [Option.bind_some,hd,cond_false]
  obtain ⟨g1,g2⟩:=ycl r (by exact ⟨hl,hok⟩) (1048576 - (a.sz:Int)) (by omega) (by omega)
  by_cases hs2:a.sz+szL Ta.sz r<=1048576
  ·rw [g1 (by omega)]
   have hd2:decide ((1048576:Int) - (a.sz:Int) - (szL Ta.sz r:Int)<0)=false:=by simp;omega
   have hsw:=yei a r
   have hz:a.fd.length<=1048576:=by have g:=hs;simp only [Tk.sz] at g;omega
   have hz2:a.sz=a.fd.length+0:=rfl
   obtain ⟨k1,f1,e1,q1,e2,e3,_⟩:=ya0 a.fd 1 (by rw [zmn];omega) (by omega) (by rw [zmn];omega)
   obtain ⟨k2,l2,e4,_,e5,e6,_⟩:=zz6 r k1 (by omega) (by omega) (by rw [zmn] at e3;omega)
   obtain ⟨k3,f3,e7,e8,e10⟩:=yi9 (zi0 a r).1 1 (by omega) (by omega) (by omega)
   have hh:∀ n w t m p q u v,yle ⟨⟨n,⟨w,t,f3.fF.fp.fd⟩,⟨m,f3.fF.fq.fr⟩,f3.fF.ft,p,q,u,v⟩,f3.fag,f3.faf,f3.fah,f3.fai⟩ 1=some k3:=fun n w t m p q u v=>e10 _ rfl rfl rfl rfl rfl rfl rfl
   have hm:∃ g,ylt a 1=some (k1,g):=by
    unfold ylt
    simp only [e1,Option.bind_some,List.length_map,q1,Nat.le_refl,if_true]
    exact ⟨_,rfl⟩
   obtain ⟨g,hm⟩:=hm
   simp only [Option.bind_some,hd2,cond_false,zwq a hs,ydb r (by omega),yfm a r hs (by omega),yg1 a r h hs (by omega),zkx a hs,zyb (zi0 a r).1 (by omega),zpr r (by omega),hm,e4,e7,BEq.rfl,Bool.true_xor,Bool.not_true,dlt (show (0:Int)<=k2 by omega)]
   simp only [hh,Option.bind_some,cond_false,dlt (show (0:Int)<=k3 by omega),neI]
  ·obtain ⟨v,hv,h0⟩:=g2 (by omega)
   rw [hv]
   have hd:decide (v<0)=true:=by simp;exact h0
   simp only [Option.bind_some,hd,cond_true]
 ·obtain ⟨v,hv,h0⟩:=h2 (by omega)
  rw [hv]
  have hd:decide (v<0)=true:=by simp;exact h0
  simp only [Option.bind_some,hd,cond_true]
end Go.Pm
