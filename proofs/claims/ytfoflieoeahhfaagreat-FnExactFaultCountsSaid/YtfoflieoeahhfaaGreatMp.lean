/- Proved: the law FnExactFaultCounts answers true at all arguments, for every operating system that has started; no conditions beyond the row's own. -/
import Derived.Test.YtfoflieoeahhfaaGreatMo
import Derived.Test.YtfoflieoeahhfaaGreatRows
set_option linter.unusedVariables false
set_option linter.unusedSimpArgs false
namespace Go.Pm
open Go Go.Proofs
set_option maxRecDepth 1000000
theorem qce:za8 Glob.none Tryz.prog yow (.go ysd):=⟨Tryz.f40,qfk,Tryz.func40,by kernel_rfl⟩
theorem yy9:za8 Glob.none Tryz.prog yot (.go ysl):=⟨Tryz.f29,yz4,Tryz.func29,by kernel_rfl⟩
theorem yyq:za8 Glob.none Tryz.prog yml (.go yqt):=⟨Tryz.f115,qcb,Tryz.func115,by kernel_rfl⟩
theorem qip:za8 Glob.none Tryz.prog yo1 (.go yti):=⟨Tryz.f116,qbk,Tryz.func116,by kernel_rfl⟩
theorem qf3:za8 Glob.none Tryz.prog yla (.go yrh):=⟨Tryz.f48,qgw,Tryz.func48,by kernel_rfl⟩
theorem qf9:za8 Glob.none Tryz.prog yno (.go yqg):=⟨Tryz.f298,qa7,Tryz.func298,by kernel_rfl⟩
theorem qai:za8 Glob.none Tryz.prog ymu (.go yqu):=⟨Tryz.f246,qg1,Tryz.func246,by kernel_rfl⟩
theorem qel:za8 Glob.none Tryz.prog yo6 (.go yr9):=⟨Tryz.f245,yy8,Tryz.func245,by kernel_rfl⟩
theorem yzb:za8 Glob.none Tryz.prog yp5 (.go ytp):=⟨Tryz.f247,yyp,Tryz.func247,by kernel_rfl⟩
theorem qgp:za8 Glob.none Tryz.prog yng (.go yqd):=⟨Tryz.f224,yxl,Tryz.func224,by kernel_rfl⟩
theorem qi1:za8 Glob.none Tryz.prog ylq (.go yqi):=⟨Tryz.f133,yzv,Tryz.func133,by kernel_rfl⟩
theorem yya:za8 Glob.none Tryz.prog ymz (.go yqn):=⟨Tryz.f62,qbz,Tryz.func62,by kernel_rfl⟩
theorem yym:za8 Glob.none Tryz.prog yl2 (.go yqa):=⟨Tryz.f226,qb7,Tryz.func226,by kernel_rfl⟩
theorem qcz:za8 Glob.none Tryz.prog ypk (.go ytz):=⟨Tryz.f225,qi5,Tryz.func225,by kernel_rfl⟩
theorem qbm:za8 Glob.none Tryz.prog ypw (.go ys8):=⟨Tryz.f134,yz5,Tryz.func134,by kernel_rfl⟩
theorem qht:za8 Glob.none Tryz.prog yoe (.go yr3):=⟨Tryz.f63,qg8,Tryz.func63,by kernel_rfl⟩
theorem qgh:za8 Glob.none Tryz.prog yld (.go ytn):=⟨Tryz.f11,qib,Tryz.func11,by kernel_rfl⟩
theorem qdn:za8 Glob.none Tryz.prog ym3 (.go ys2):=⟨Tryz.f175,qci,Tryz.func175,by kernel_rfl⟩
theorem qfo:za8 Glob.none Tryz.prog yl9 (.go ys5):=⟨Tryz.f90,yxr,Tryz.func90,by kernel_rfl⟩
theorem qh9:za8 Glob.none Tryz.prog ym8 (.go yu1):=⟨Tryz.f30,qir,Tryz.func30,by kernel_rfl⟩
theorem yzm:za8 Glob.none Tryz.prog yok (.go ytu):=⟨Tryz.f152,qgo,Tryz.func152,by kernel_rfl⟩
theorem qh5:za8 Glob.none Tryz.prog ykz (.go yrj):=⟨Tryz.f72,qa1,Tryz.func72,by kernel_rfl⟩
theorem qin:za8 Glob.none Tryz.prog ymy (.go yri):=⟨Tryz.f153,yzl,Tryz.func153,by kernel_rfl⟩
theorem qh4:za8 Glob.none Tryz.prog yl6 (.go yst):=⟨Tryz.f73,qe1,Tryz.func73,by kernel_rfl⟩
theorem qeo:za8 Glob.none Tryz.prog ymi (.go ytc):=⟨Tryz.f154,qgx,Tryz.func154,by kernel_rfl⟩
theorem qa8:za8 Glob.none Tryz.prog yog (.go yte):=⟨Tryz.f74,qey,Tryz.func74,by kernel_rfl⟩
theorem qg4:za8 Glob.none Tryz.prog yp0 (.go yss):=⟨Tryz.f16,yyt,Tryz.func16,by kernel_rfl⟩
theorem qaw:za8 Glob.none Tryz.prog yls (.go yto):=⟨Tryz.f105,yxc,Tryz.func105,by kernel_rfl⟩
theorem qhl:za8 Glob.none Tryz.prog ylc (.go ysw):=⟨Tryz.f42,yzf,Tryz.func42,by kernel_rfl⟩
theorem yzt:za8 Glob.none Tryz.prog ylf (.go ysx):=⟨Tryz.f32,yyb,Tryz.func32,by kernel_rfl⟩
theorem qd9:za8 Glob.none Tryz.prog ymp (.go ysa):=⟨Tryz.f119,qis,Tryz.func119,by kernel_rfl⟩
theorem qe2:za8 Glob.none Tryz.prog ylv (.go ytm):=⟨Tryz.f120,qi8,Tryz.func120,by kernel_rfl⟩
theorem qhh:za8 Glob.none Tryz.prog yom (.go ysz):=⟨Tryz.f50,qhn,Tryz.func50,by kernel_rfl⟩
theorem qaf:za8 Glob.none Tryz.prog ypu (.go ysf):=⟨Tryz.f299,yxo,Tryz.func299,by kernel_rfl⟩
theorem qg7:za8 Glob.none Tryz.prog ym5 (.go yrf):=⟨Tryz.f249,qfe,Tryz.func249,by kernel_rfl⟩
theorem qdj:za8 Glob.none Tryz.prog you (.go yru):=⟨Tryz.f248,qbj,Tryz.func248,by kernel_rfl⟩
theorem yyg:za8 Glob.none Tryz.prog yoy (.go yr4):=⟨Tryz.f250,qg6,Tryz.func250,by kernel_rfl⟩
theorem qec:za8 Glob.none Tryz.prog yn8 (.go yqs):=⟨Tryz.f232,qbw,Tryz.func232,by kernel_rfl⟩
theorem qb1:za8 Glob.none Tryz.prog ymq (.go yts):=⟨Tryz.f140,qdk,Tryz.func140,by kernel_rfl⟩
theorem qff:za8 Glob.none Tryz.prog yp2 (.go ys6):=⟨Tryz.f66,qfh,Tryz.func66,by kernel_rfl⟩
theorem yzd:za8 Glob.none Tryz.prog ylg (.go ytd):=⟨Tryz.f234,yx2,Tryz.func234,by kernel_rfl⟩
theorem qdp:za8 Glob.none Tryz.prog yl8 (.go yr7):=⟨Tryz.f233,qhp,Tryz.func233,by kernel_rfl⟩
theorem qf4:za8 Glob.none Tryz.prog ymk (.go yq6):=⟨Tryz.f141,qdu,Tryz.func141,by kernel_rfl⟩
theorem qik:za8 Glob.none Tryz.prog ynt (.go yt3):=⟨Tryz.f67,qhy,Tryz.func67,by kernel_rfl⟩
theorem qdq:za8 Glob.none Tryz.prog ypm (.go yra):=⟨Tryz.f13,qdm,Tryz.func13,by kernel_rfl⟩
theorem yyu:za8 Glob.none Tryz.prog ypi (.go yt0):=⟨Tryz.f178,qd5,Tryz.func178,by kernel_rfl⟩
theorem qew:za8 Glob.none Tryz.prog yoj (.go ys9):=⟨Tryz.f94,qc6,Tryz.func94,by kernel_rfl⟩
theorem qgy:za8 Glob.none Tryz.prog yop (.go ytb):=⟨Tryz.f33,qet,Tryz.func33,by kernel_rfl⟩
theorem yx7:za8 Glob.none Tryz.prog ypj (.go ysi):=⟨Tryz.f155,qaz,Tryz.func155,by kernel_rfl⟩
theorem qh7:za8 Glob.none Tryz.prog ypa (.go ys7):=⟨Tryz.f76,yza,Tryz.func76,by kernel_rfl⟩
theorem qhv:za8 Glob.none Tryz.prog yo5 (.go yq4):=⟨Tryz.f156,yyo,Tryz.func156,by kernel_rfl⟩
theorem qcm:za8 Glob.none Tryz.prog ypy (.go yrl):=⟨Tryz.f77,qb8,Tryz.func77,by kernel_rfl⟩
theorem qgf:za8 Glob.none Tryz.prog yl3 (.go yu2):=⟨Tryz.f157,qe5,Tryz.func157,by kernel_rfl⟩
theorem qc0:za8 Glob.none Tryz.prog ypg (.go ysp):=⟨Tryz.f78,yz7,Tryz.func78,by kernel_rfl⟩
theorem yy3:za8 Glob.none Tryz.prog ylk (.go ysr):=⟨Tryz.f18,qco,Tryz.func18,by kernel_rfl⟩
theorem qfc:za8 Glob.none Tryz.prog yoz (.go yq5):=⟨Tryz.f75,qha,Tryz.func75,by kernel_rfl⟩
theorem qan:za8 Glob.none Tryz.prog ynb (.go ytx):=⟨Tryz.f17,yyj,Tryz.func17,by kernel_rfl⟩
theorem qhz:za8 Glob.none Tryz.prog yl5 (.go ytk):=⟨Tryz.f79,qgr,Tryz.func79,by kernel_rfl⟩
theorem yyf:za8 Glob.none Tryz.prog yn7 (.go ysh):=⟨Tryz.f19,yz1,Tryz.func19,by kernel_rfl⟩
theorem qd6:za8 Glob.none Tryz.prog ym7 (.go ys4):=⟨Tryz.f20,qcf,Tryz.func20,by kernel_rfl⟩
theorem qim:za8 Glob.none Tryz.prog yny (.go yrz):=⟨Tryz.f109,yx8,Tryz.func109,by kernel_rfl⟩
theorem yxq:za8 Glob.none Tryz.prog ynv (.go yqc):=⟨Tryz.f44,qek,Tryz.func44,by kernel_rfl⟩
theorem qhd:za8 Glob.none Tryz.prog yp8 (.go ysg):=⟨Tryz.f35,qc5,Tryz.func35,by kernel_rfl⟩
theorem yye:za8 Glob.none Tryz.prog ym4 (.go yty):=⟨Tryz.f124,qh6,Tryz.func124,by kernel_rfl⟩
theorem qf5:za8 Glob.none Tryz.prog yl7 (.go yq9):=⟨Tryz.f53,qbh,Tryz.func53,by kernel_rfl⟩
theorem yzo:za8 Glob.none Tryz.prog ymt (.go yq7):=⟨Tryz.f282,qc8,Tryz.func282,by kernel_rfl⟩
theorem qcs:za8 Glob.none Tryz.prog ylp (.go yqp):=⟨Tryz.f214,qfy,Tryz.func214,by kernel_rfl⟩
theorem qc1:za8 Glob.none Tryz.prog yn5 (.go yqh):=⟨Tryz.f216,qhm,Tryz.func216,by kernel_rfl⟩
theorem qd3:za8 Glob.none Tryz.prog yl0 (.go yta):=⟨Tryz.f215,yz2,Tryz.func215,by kernel_rfl⟩
theorem qdg:za8 Glob.none Tryz.prog ypc (.go yrt):=⟨Tryz.f242,qi2,Tryz.func242,by kernel_rfl⟩
theorem qf8:za8 Glob.none Tryz.prog ymm (.go yqr):=⟨Tryz.f150,qij,Tryz.func150,by kernel_rfl⟩
theorem qav:za8 Glob.none Tryz.prog ypo (.go yrc):=⟨Tryz.f70,qgu,Tryz.func70,by kernel_rfl⟩
theorem qcr:za8 Glob.none Tryz.prog ypx (.go ysv):=⟨Tryz.f244,yxz,Tryz.func244,by kernel_rfl⟩
theorem qg9:za8 Glob.none Tryz.prog yn2 (.go yt5):=⟨Tryz.f243,yxt,Tryz.func243,by kernel_rfl⟩
theorem qfb:za8 Glob.none Tryz.prog yo0 (.go yr8):=⟨Tryz.f151,qd8,Tryz.func151,by kernel_rfl⟩
theorem qii:za8 Glob.none Tryz.prog ylb (.go yqx):=⟨Tryz.f71,qbu,Tryz.func71,by kernel_rfl⟩
theorem yxx:za8 Glob.none Tryz.prog ypz (.go yqv):=⟨Tryz.f15,qio,Tryz.func15,by kernel_rfl⟩
theorem yy7:za8 Glob.none Tryz.prog yoc (.go yt9):=⟨Tryz.f183,qcu,Tryz.func183,by kernel_rfl⟩
theorem qct:za8 Glob.none Tryz.prog ypv (.go yqz):=⟨Tryz.f98,qdy,Tryz.func98,by kernel_rfl⟩
theorem yzg:za8 Glob.none Tryz.prog ypd (.go ysb):=⟨Tryz.f36,qho,Tryz.func36,by kernel_rfl⟩
theorem qbv:za8 Glob.none Tryz.prog ylx (.go yth):=⟨Tryz.f158,yy4,Tryz.func158,by kernel_rfl⟩
theorem qa2:za8 Glob.none Tryz.prog ypq (.go yq3):=⟨Tryz.f80,qgd,Tryz.func80,by kernel_rfl⟩
theorem qf6:za8 Glob.none Tryz.prog ypl (.go yrk):=⟨Tryz.f123,qbq,Tryz.func123,by kernel_rfl⟩
theorem qe9:za8 Glob.none Tryz.prog ynl (.go yt6):=⟨Tryz.f52,qay,Tryz.func52,by kernel_rfl⟩
theorem yy0:za8 Glob.none Tryz.prog yn0 (.go yr6):=⟨Tryz.f159,qev,Tryz.func159,by kernel_rfl⟩
theorem qfp:za8 Glob.none Tryz.prog yn9 (.go yre):=⟨Tryz.f81,yz6,Tryz.func81,by kernel_rfl⟩
theorem qb2:za8 Glob.none Tryz.prog ym6 (.go ytf):=⟨Tryz.f21,yze,Tryz.func21,by kernel_rfl⟩
theorem qil:za8 Glob.none Tryz.prog ymg (.lend yq2):=⟨Tryz.f46,qgn,Tryz.func46,by kernel_rfl⟩
theorem qhs:za8 Glob.none Tryz.prog ynr (.lend yqb):=⟨Tryz.f37,qas,Tryz.func37,by kernel_rfl⟩
theorem qck:za8 Glob.none Tryz.prog yp1 (.lend yt8):=⟨Tryz.f23,qes,Tryz.func23,by kernel_rfl⟩
theorem qby:za8 Glob.none Tryz.prog yoa (.lend yqw):=⟨Tryz.f99,qi9,Tryz.func99,by kernel_rfl⟩
theorem qf1:za8 Glob.none Tryz.prog ynm (.lend ytw):=⟨Tryz.f125,qge,Tryz.func125,by kernel_rfl⟩
theorem qgm:za8 Glob.none Tryz.prog ypn (.lend ytl):=⟨Tryz.f126,yx3,Tryz.func126,by kernel_rfl⟩
theorem qhb:za8 Glob.none Tryz.prog ynq (.lend yqj):=⟨Tryz.f192,qc3,Tryz.func192,by kernel_rfl⟩
theorem qd1:za8 Glob.none Tryz.prog yp3 (.lend yt4):=⟨Tryz.f110,qbn,Tryz.func110,by kernel_rfl⟩
theorem qag:za8 Glob.none Tryz.prog yor (.lend ys3):=⟨Tryz.f193,qiw,Tryz.func193,by kernel_rfl⟩
theorem yxs:za8 Glob.none Tryz.prog yp7 (.lend yqo):=⟨Tryz.f111,qb3,Tryz.func111,by kernel_rfl⟩
theorem yy2:za8 Glob.none Tryz.prog ynu (.lend yqq):=⟨Tryz.f45,qic,Tryz.func45,by kernel_rfl⟩
theorem qab:za8 Glob.none Tryz.prog ylz (.lend yt2):=⟨Tryz.f38,qbt,Tryz.func38,by kernel_rfl⟩
theorem qcl:za8 Glob.none Tryz.prog yon (.lend ysn):=⟨Tryz.f82,yxk,Tryz.func82,by kernel_rfl⟩
theorem qft:za8 Glob.none Tryz.prog ymj (.lend yrg):=⟨Tryz.f55,qfu,Tryz.func55,by kernel_rfl⟩
theorem qcw:za8 Glob.none Tryz.prog yoo (.lend ys1):=⟨Tryz.f83,qdv,Tryz.func83,by kernel_rfl⟩
theorem qh2:za8 Glob.none Tryz.prog yps (.lend yrv):=⟨Tryz.f22,qiv,Tryz.func22,by kernel_rfl⟩
theorem qa3:za8 Glob.none Tryz.prog yol (.go yr5):=⟨Tryz.f24,qeq,Tryz.func24,by kernel_rfl⟩
theorem yzz:za8 Glob.none Tryz.prog ylh (.go yrm):=⟨Tryz.f4,qfq,Tryz.func4,by kernel_rfl⟩
theorem ztw {J:Glob} {P:Program}:∀ {L:List (FuncId×Body)},(∀ p∈L,za8 J P p.1 p.2)->zvf J P (fun f=>L.lookup f)
 | [],_,f,b,h=>by cases h
 | (g,c)::L,hL,f,b,h=>by
   simp only [List.lookup] at h
   split at h
   ·rename_i e
    have e:f=g:=by simpa using e
    cases h
    subst e
    exact hL _ (List.mem_cons_self ..)
   ·exact ztw (L:=L) (fun p hp=>hL p (List.mem_cons_of_mem _ hp)) f b h
theorem fm {α:Type} {p:α->Prop} {a:α} {l:List α} (h:p a) (g:∀ x∈l,p x):∀ x∈a::l,p x:=List.forall_mem_cons.2 ⟨h,g⟩
theorem fm0 {α:Type} {p:α->Prop}:∀ x∈([]:List α),p x:=fun _ h=>by cases h
theorem ykc:zvf Glob.none Tryz.prog tab:=ztw (L:=tabL) (fm qce (fm yy9 (fm yyq (fm qip (fm qf3 (fm qf9 (fm qai (fm qel (fm yzb (fm qgp (fm qi1 (fm yya (fm yym (fm qcz (fm qbm (fm qht (fm qgh (fm qdn (fm qfo (fm qh9 (fm yzm (fm qh5 (fm qin (fm qh4 (fm qeo (fm qa8 (fm qg4 (fm qaw (fm qhl (fm yzt (fm qd9 (fm qe2 (fm qhh (fm qaf (fm qg7 (fm qdj (fm yyg (fm qec (fm qb1 (fm qff (fm yzd (fm qdp (fm qf4 (fm qik (fm qdq (fm yyu (fm qew (fm qgy (fm yx7 (fm qh7 (fm qhv (fm qcm (fm qgf (fm qc0 (fm yy3 (fm qfc (fm qan (fm qhz (fm yyf (fm qd6 (fm qim (fm yxq (fm qhd (fm yye (fm qf5 (fm yzo (fm qcs (fm qc1 (fm qd3 (fm qdg (fm qf8 (fm qav (fm qcr (fm qg9 (fm qfb (fm qii (fm yxx (fm yy7 (fm qct (fm yzg (fm qbv (fm qa2 (fm qf6 (fm qe9 (fm yy0 (fm qfp (fm qb2 (fm qil (fm qhs (fm qck (fm qby (fm qf1 (fm qgm (fm qhb (fm qd1 (fm qag (fm yxs (fm yy2 (fm qab (fm qcl (fm qft (fm qcw (fm qh2 (fm qa3 (fm yzz fm0)))))))))))))))))))))))))))))))))))))))))))))))))))))))))))))))))))))))))))))))))))))))))))))))))))))))))
end Go.Pm
