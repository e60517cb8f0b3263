/- Proved: the law FnBusied answers true at all arguments, for every operating system that has started; no conditions beyond the row's own. -/
import Derived.Test.YtgbigcobmiapcaaMq
import Derived.Test.YtgbigcobmiapcaaRows
set_option linter.unusedVariables false
set_option linter.unusedSimpArgs false
namespace Go.Pm
open Go Go.Proofs
set_option maxRecDepth 1000000
abbrev KB (f:FuncId) (b:Body):Prop:=yb5 Glob.none Try.prog f b
theorem qat:KB 4 (.go yqa):=⟨Try.f4,([0,2].map some),Try.func4,by kernel_rfl⟩
theorem qab:KB 5 (.go ytu):=⟨Try.f5,([0,1,4,8].map some),Try.func5,by kernel_rfl⟩
theorem qb1:KB 43 (.go yu4):=⟨Try.f43,([0,1,2,6].map some),Try.func43,by kernel_rfl⟩
theorem yyt:KB 19 (.go ysn):=⟨Try.f19,([0,1,4].map some),Try.func19,by kernel_rfl⟩
theorem ywp:KB 74 (.go yte):=⟨Try.f74,([0,2].map some),Try.func74,by kernel_rfl⟩
theorem yy1:KB 52 (.go yv3):=⟨Try.f52,([0,2].map some),Try.func52,by kernel_rfl⟩
theorem yzc:KB 75 (.go yrz):=⟨Try.f75,([0,2].map some),Try.func75,by kernel_rfl⟩
theorem yvy:KB 44 (.go yuz):=⟨Try.f44,([0,1,2,43].map some),Try.func44,by kernel_rfl⟩
theorem ywv:KB 46 (.go yqc):=⟨Try.f46,([0,1,2,3].map some),Try.func46,by kernel_rfl⟩
theorem yw4:KB 76 (.go yrq):=⟨Try.f76,([0,1,4,5,7,8,9,16].map some),Try.func76,by kernel_rfl⟩
theorem yz8:KB 45 (.go yrm):=⟨Try.f45,([0,1,4].map some),Try.func45,by kernel_rfl⟩
theorem yz1:KB 20 (.go yq8):=⟨Try.f20,([0,2,3,4,5,6,7,8,21].map some),Try.func20,by kernel_rfl⟩
theorem yw3:KB 10 (.go yub):=⟨Try.f10,([0,1,2].map some),Try.func10,by kernel_rfl⟩
theorem yvt:KB 21 (.prim (zax 7 56)):=(zic (fn:=Try.f21) (r:=2) Try.func21 (by kernel_rfl)).toJ
theorem yzo:KB 11 (.go ys0):=⟨Try.f11,([0,1,2].map some),Try.func11,by kernel_rfl⟩
theorem yxv:KB 12 (.go ysu):=⟨Try.f12,([0,1,4,8].map some),Try.func12,by kernel_rfl⟩
theorem qaf:KB 6 (.go yt9):=⟨Try.f6,([0,1,2,3,6,11,12].map some),Try.func6,by kernel_rfl⟩
theorem qb4:KB 24 (.go yu8):=⟨Try.f24,([0,2].map some),Try.func24,by kernel_rfl⟩
theorem qar:KB 26 (.go yqv):=⟨Try.f26,([0,2].map some),Try.func26,by kernel_rfl⟩
theorem ywo:KB 60 (.go ytv):=⟨Try.f60,([0,2,3,4,5,6,9,10,16,22,27,32,37,42].map some),Try.func60,by kernel_rfl⟩
theorem yyw:KB 61 (.go yqb):=⟨Try.f61,([0,2].map some),Try.func61,by kernel_rfl⟩
theorem ywh:KB 96 (.go ys3):=⟨Try.f96,([0,1,4,5,7,8,9,16].map some),Try.func96,by kernel_rfl⟩
theorem yxn:KB 85 (.go yts):=⟨Try.f85,([0,1,4].map some),Try.func85,by kernel_rfl⟩
theorem qag:KB 86 (.go yps):=⟨Try.f86,([0,2].map some),Try.func86,by kernel_rfl⟩
theorem yyc:KB 62 (.go yri):=⟨Try.f62,([0,2].map some),Try.func62,by kernel_rfl⟩
theorem qae:KB 63 (.go yuh):=⟨Try.f63,([0,1,2,5].map some),Try.func63,by kernel_rfl⟩
theorem yvv:KB 32 (.go ysw):=⟨Try.f32,([0,1,2,3,4,5,48,72,75].map some),Try.func32,by kernel_rfl⟩
theorem yww:KB 95 (.go yq2):=⟨Try.f95,([0,1,4,5,7,8,9,16].map some),Try.func95,by kernel_rfl⟩
theorem yv7:KB 82 (.go yud):=⟨Try.f82,([0,1,4].map some),Try.func82,by kernel_rfl⟩
theorem yxt:KB 79 (.go ysg):=⟨Try.f79,([0,1,2].map some),Try.func79,by kernel_rfl⟩
theorem yy2:KB 101 (.go ysf):=⟨Try.f101,([0,1,2].map some),Try.func101,by kernel_rfl⟩
theorem yz4:KB 102 (.go yr5):=⟨Try.f102,([0,2,3,4,5,6,7,12,18,22,26,30].map some),Try.func102,by kernel_rfl⟩
theorem qay:KB 93 (.go yry):=⟨Try.f93,([0,1,2,3,4,5,6,10,13,49,79].map some),Try.func93,by kernel_rfl⟩
theorem yxl:KB 94 (.go yrj):=⟨Try.f94,([0,1,4].map some),Try.func94,by kernel_rfl⟩
theorem yv8:KB 83 (.go yq1):=⟨Try.f83,([0,1,4,5,10,12,13,14,24].map some),Try.func83,by kernel_rfl⟩
theorem qaq:KB 84 (.go yur):=⟨Try.f84,([0,1,4,5,10,12,13,14,24].map some),Try.func84,by kernel_rfl⟩
theorem qad:KB 80 (.go ypy):=⟨Try.f80,([0,1,2,3,4,19,22,24,25,33,43].map some),Try.func80,by kernel_rfl⟩
theorem yz6:KB 81 (.go yqq):=⟨Try.f81,([0,1,2,3,4].map some),Try.func81,by kernel_rfl⟩
theorem yx2:KB 51 (.go yut):=⟨Try.f51,([0,1,2,3,4,5,48,50,51,52,53,95].map some),Try.func51,by kernel_rfl⟩
theorem qaz:KB 25 (.go yr7):=⟨Try.f25,([0,1,2,3,4,6,7,8,9,38].map some),Try.func25,by kernel_rfl⟩
theorem qb2:KB 31 (.go ypp):=⟨Try.f31,([0,1,2,3,5,7,10,12,13,14,15,19,20,21,22,26].map some),Try.func31,by kernel_rfl⟩
theorem yw7:KB 57 (.go yug):=⟨Try.f57,([0,1,2,3].map some),Try.func57,by kernel_rfl⟩
theorem yvm:KB 56 (.go yu2):=⟨Try.f56,([0,1,4,5,7,8,9,16].map some),Try.func56,by kernel_rfl⟩
theorem qa2:KB 58 (.go yqf):=⟨Try.f58,([0,1,2,3,4].map some),Try.func58,by kernel_rfl⟩
theorem qb8:KB 29 (.go yrk):=⟨Try.f29,([0,1,2,3,5,6,7,8,38].map some),Try.func29,by kernel_rfl⟩
theorem yz9:KB 59 (.go yta):=⟨Try.f59,([0,1,3,4,5,7,8,9,16].map some),Try.func59,by kernel_rfl⟩
theorem ywm:KB 30 (.go yr9):=⟨Try.f30,([0,1,3,4].map some),Try.func30,by kernel_rfl⟩
theorem yyh:KB 54 (.go ypl):=⟨Try.f54,([0,1,2].map some),Try.func54,by kernel_rfl⟩
theorem ywn:KB 53 (.go ypx):=⟨Try.f53,([0,1,2].map some),Try.func53,by kernel_rfl⟩
theorem yzv:KB 27 (.go ys1):=⟨Try.f27,([0,1,2,4,22,24,25,26,27,32,36].map some),Try.func27,by kernel_rfl⟩
theorem qa1:KB 55 (.prim (zax 9 104)):=(zic (fn:=Try.f55) (r:=2) Try.func55 (by kernel_rfl)).toJ
theorem yxy:KB 28 (.go yrv):=⟨Try.f28,([0,1,2,3,8].map some),Try.func28,by kernel_rfl⟩
theorem yy9:KB 14 (.go yt0):=⟨Try.f14,([0,1,2,3,4,5,7,8,54,57,58,59,60,66,68,69,70,71,89].map some),Try.func14,by kernel_rfl⟩
theorem yz5:KB 17 (.go ypj):=⟨Try.f17,([0,1,2,3,5,7,8,9,10].map some),Try.func17,by kernel_rfl⟩
theorem yy0:KB 8 (.go yr6):=⟨Try.f8,([0,1,2,5].map some),Try.func8,by kernel_rfl⟩
theorem yz2:KB 69 (.prim (zax 1 8)):=(zic (fn:=Try.f69) (r:=2) Try.func69 (by kernel_rfl)).toJ
theorem yvj:KB 48 (.prim (zax 1 1)):=(zic (fn:=Try.f48) (r:=2) Try.func48 (by kernel_rfl)).toJ
theorem yyb:KB 37 (.go ysv):=⟨Try.f37,([0,1,2].map some),Try.func37,by kernel_rfl⟩
theorem yvi:KB 77 (.go ysk):=⟨Try.f77,([0,1,2].map some),Try.func77,by kernel_rfl⟩
theorem yyk:KB 47 (.go ysd):=⟨Try.f47,([0,2,3,5,6,7,8,9].map some),Try.func47,by kernel_rfl⟩
theorem ywx:KB 78 (.go ypu):=⟨Try.f78,([0,1,2].map some),Try.func78,by kernel_rfl⟩
theorem qal:KB 49 (.go yu1):=⟨Try.f49,([0,2,3,5,6,7,8,9].map some),Try.func49,by kernel_rfl⟩
theorem qac:KB 22 (.go ypt):=⟨Try.f22,([0,1,2,3,5,10,11,12,13].map some),Try.func22,by kernel_rfl⟩
theorem yvu:KB 50 (.go yqs):=⟨Try.f50,([0,1,2].map some),Try.func50,by kernel_rfl⟩
theorem yxm:KB 23 (.go yq5):=⟨Try.f23,([0,1,2,3,5,11,12,13,14].map some),Try.func23,by kernel_rfl⟩
theorem yy4:KB 13 (.go ysp):=⟨Try.f13,([0,1,2,3,5,15,16,17,18].map some),Try.func13,by kernel_rfl⟩
theorem yvx:KB 15 (.go yv6):=⟨Try.f15,([0,1,2,5,6].map some),Try.func15,by kernel_rfl⟩
theorem qb9:KB 33 (.go ysb):=⟨Try.f33,([0,1,4].map some),Try.func33,by kernel_rfl⟩
theorem yxj:KB 64 (.go ytw):=⟨Try.f64,([0,1,2,3].map some),Try.func64,by kernel_rfl⟩
theorem yzq:KB 88 (.go ys5):=⟨Try.f88,([0,1,2,3,4,5].map some),Try.func88,by kernel_rfl⟩
theorem yzm:KB 67 (.go ypn):=⟨Try.f67,([0,1,2,3,5,6,7,8].map some),Try.func67,by kernel_rfl⟩
theorem qak:KB 87 (.go yse):=⟨Try.f87,([0,1,2,3,8,9,10,15,16,17,26].map some),Try.func87,by kernel_rfl⟩
theorem qan:KB 65 (.go yqm):=⟨Try.f65,([0,1,2,5,6,7,8,9,10,31].map some),Try.func65,by kernel_rfl⟩
theorem yzr:KB 66 (.go yqu):=⟨Try.f66,([0,1,2,3,4,5,8,12,16,17,24,29].map some),Try.func66,by kernel_rfl⟩
theorem yyn:KB 68 (.go ytj):=⟨Try.f68,([0,1,2,3,4,8,9,28,34,42].map some),Try.func68,by kernel_rfl⟩
theorem yyz:KB 34 (.go yqd):=⟨Try.f34,([0,1,2,4,5,6,7,8,9,10,11,12,13,14,15,16,25,30,49,58,93].map some),Try.func34,by kernel_rfl⟩
theorem ywa:KB 35 (.go yuf):=⟨Try.f35,([0,1,4,5,7,22,24,25,26,27,53].map some),Try.func35,by kernel_rfl⟩
theorem yvf:KB 38 (.go ypr):=⟨Try.f38,([0,1,2,4,12].map some),Try.func38,by kernel_rfl⟩
theorem yvl:KB 36 (.go ytq):=⟨Try.f36,([0,1,4,6,7,8,9,10,24].map some),Try.func36,by kernel_rfl⟩
theorem yve:KB 39 (.go yq6):=⟨Try.f39,([0,1,2,3,4,5,6,10,12,13,14,15,26,55].map some),Try.func39,by kernel_rfl⟩
theorem yy8:KB 16 (.go ys2):=⟨Try.f16,([0,1,2,3,4,9,10,11,12,13,14,16,17,18,44,46,76,77,78,79].map some),Try.func16,by kernel_rfl⟩
theorem yx0:KB 7 (.go yst):=⟨Try.f7,([0,1,2,3,4,5,9,10,11,12,13,25].map some),Try.func7,by kernel_rfl⟩
theorem yyu:KB 40 (.go yuc):=⟨Try.f40,([0,1,4,12].map some),Try.func40,by kernel_rfl⟩
theorem yv9:KB 89 (.go ytt):=⟨Try.f89,([0,1,4,12].map some),Try.func89,by kernel_rfl⟩
theorem ywu:KB 70 (.go yt4):=⟨Try.f70,([0,1,4].map some),Try.func70,by kernel_rfl⟩
theorem yx8:KB 71 (.go yss):=⟨Try.f71,([0,2].map some),Try.func71,by kernel_rfl⟩
theorem yx9:KB 72 (.go yq7):=⟨Try.f72,([0].map some),Try.func72,by kernel_rfl⟩
theorem ywd:KB 41 (.go yv0):=⟨Try.f41,([0,1,2,4,5,6,7,8,9,21,24,61].map some),Try.func41,by kernel_rfl⟩
theorem qb5:KB 90 (.go yra):=⟨Try.f90,([0,1,2,3].map some),Try.func90,by kernel_rfl⟩
theorem qaw:KB 97 (.go yrc):=⟨Try.f97,([0,1,4,5,7,8,9,16].map some),Try.func97,by kernel_rfl⟩
theorem qap:KB 98 (.go yqe):=⟨Try.f98,([0,1,2].map some),Try.func98,by kernel_rfl⟩
theorem yy6:KB 99 (.go yqk):=⟨Try.f99,([0,2,3,9].map some),Try.func99,by kernel_rfl⟩
theorem yzx:KB 100 (.go yrd):=⟨Try.f100,([0,1,2,3,16].map some),Try.func100,by kernel_rfl⟩
theorem qb6:KB 91 (.go yqn):=⟨Try.f91,([0,1,2,3,6,7,8,9,10,11,12,14,24,27,28,29,30,41,48,60,63,66,67,68,69,95,99,100,101,102].map some),Try.func91,by kernel_rfl⟩
theorem qb3:KB 92 (.prim (zfx 13)):=(zwp (by kernel_rfl) yob).toJ
theorem ywi:KB 73 (.go yu6):=⟨Try.f73,([0,1,2,3,4,5,7,8,9,10,11,12,13,60,84].map some),Try.func73,by kernel_rfl⟩
theorem yxu:KB 42 (.go yuu):=⟨Try.f42,([0,1,4,5,7,8,9,11,12,13,14].map some),Try.func42,by kernel_rfl⟩
theorem yx5:KB 18 (.go ysz):=⟨Try.f18,([0,2,3,4,5,6,7,8,9,11,26,27,28,53,54,55,56].map some),Try.func18,by kernel_rfl⟩
theorem yvp:KB 9 (.go yso):=⟨Try.f9,([0,1,2,3,4,5,6,7,12].map some),Try.func9,by kernel_rfl⟩
theorem yx6:KB 3 (.go ys8):=⟨Try.f3,([0,2,3,4,5,6,7,8,9,10,11,12,13,14,16,18,20,47,61,70,81,83].map some),Try.func3,by kernel_rfl⟩
theorem zu9 {J:Glob} {P:Program}:∀ {L:List (FuncId×Body)},(∀ p∈L,yb5 J P p.1 p.2)->zvv J P (fun f=>L.lookup f)
 | [],_,f,b,h=>by cases h
 | (g,c)::L,hL,f,b,h=>by
   simp only [List.lookup] at h
   split at h
   ·rename_i e
    have e:f=g:=by simpa using e
    cases h
    subst e
    exact hL _ (List.mem_cons_self ..)
   ·exact zu9 (L:=L) (fun p hp=>hL p (List.mem_cons_of_mem _ hp)) f b h
theorem fm {α:Type} {p:α->Prop} {a:α} {l:List α} (h:p a) (g:∀ x∈l,p x):∀ x∈a::l,p x:=List.forall_mem_cons.2 ⟨h,g⟩
theorem fm0 {α:Type} {p:α->Prop}:∀ x∈([]:List α),p x:=fun _ h=>by cases h
theorem yl7:zvv Glob.none Try.prog tab:=zu9 (L:=tabL) (fm qat (fm qab (fm qb1 (fm yyt (fm ywp (fm yy1 (fm yzc (fm yvy (fm ywv (fm yw4 (fm yz8 (fm yz1 (fm yw3 (fm yvt (fm yzo (fm yxv (fm qaf (fm qb4 (fm qar (fm ywo (fm yyw (fm ywh (fm yxn (fm qag (fm yyc (fm qae (fm yvv (fm yww (fm yv7 (fm yxt (fm yy2 (fm yz4 (fm qay (fm yxl (fm yv8 (fm qaq (fm qad (fm yz6 (fm yx2 (fm qaz (fm qb2 (fm yw7 (fm yvm (fm qa2 (fm qb8 (fm yz9 (fm ywm (fm yyh (fm ywn (fm yzv (fm qa1 (fm yxy (fm yy9 (fm yz5 (fm yy0 (fm yz2 (fm yvj (fm yyb (fm yvi (fm yyk (fm ywx (fm qal (fm qac (fm yvu (fm yxm (fm yy4 (fm yvx (fm qb9 (fm yxj (fm yzq (fm yzm (fm qak (fm qan (fm yzr (fm yyn (fm yyz (fm ywa (fm yvf (fm yvl (fm yve (fm yy8 (fm yx0 (fm yyu (fm yv9 (fm ywu (fm yx8 (fm yx9 (fm ywd (fm qb5 (fm qaw (fm qap (fm yy6 (fm yzx (fm qb6 (fm qb3 (fm ywi (fm yxu (fm yx5 (fm yvp (fm yx6 fm0))))))))))))))))))))))))))))))))))))))))))))))))))))))))))))))))))))))))))))))))))))))))))))))))))))
end Go.Pm
