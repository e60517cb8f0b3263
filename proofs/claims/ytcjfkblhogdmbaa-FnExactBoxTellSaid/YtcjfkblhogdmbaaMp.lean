/- Proved: the law FnExactBoxTell answers true at all arguments, for every operating system that has started; no conditions beyond the row's own. -/
import Derived.Test.YtcjfkblhogdmbaaMo
import Derived.Test.YtcjfkblhogdmbaaRows
set_option linter.unusedVariables false
set_option linter.unusedSimpArgs false
namespace Go.Pm
open Go Go.Proofs
set_option maxRecDepth 1000000
theorem yom:za3 Try.prog ybt (.go yey):=⟨Try.f24,yr0,Try.func24,by kernel_rfl⟩
theorem yki:za3 Try.prog ycb (.go yes):=⟨Try.f5,yqq,Try.func5,by kernel_rfl⟩
theorem ynb:za3 Try.prog ybl (.go yfr):=⟨Try.f25,yjq,Try.func25,by kernel_rfl⟩
theorem yk6:za3 Try.prog ydk (.go ye5):=⟨Try.f26,yqv,Try.func26,by kernel_rfl⟩
theorem yke:za3 Try.prog ybm (.go ye4):=⟨Try.f6,ykv,Try.func6,by kernel_rfl⟩
theorem yn8:za3 Try.prog ydr (.go yfz):=⟨Try.f28,ynf,Try.func28,by kernel_rfl⟩
theorem ylc:za3 Try.prog ybd (.go yf6):=⟨Try.f8,yns,Try.func8,by kernel_rfl⟩
theorem yqg:za3 Try.prog yda (.go ydx):=⟨Try.f29,yrm,Try.func29,by kernel_rfl⟩
theorem ykd:za3 Try.prog yco (.go yeu):=⟨Try.f30,yr3,Try.func30,by kernel_rfl⟩
theorem ymu:za3 Try.prog ybx (.go yej):=⟨Try.f9,yqt,Try.func9,by kernel_rfl⟩
theorem yr8:za3 Try.prog ydw (.go yel):=⟨Try.f60,yl0,Try.func60,by kernel_rfl⟩
theorem ykc:za3 Try.prog yd8 (.go yfe):=⟨Try.f50,ykn,Try.func50,by kernel_rfl⟩
theorem yrk:za3 Try.prog ycr (.go yff):=⟨Try.f61,yr9,Try.func61,by kernel_rfl⟩
theorem yll:za3 Try.prog ybf (.go yfd):=⟨Try.f62,ynh,Try.func62,by kernel_rfl⟩
theorem ylt:za3 Try.prog yc5 (.go ydy):=⟨Try.f40,ykj,Try.func40,by kernel_rfl⟩
theorem yk9:za3 Try.prog ybj (.go yek):=⟨Try.f41,ykx,Try.func41,by kernel_rfl⟩
theorem yku:za3 Try.prog yca (.go ye9):=⟨Try.f44,ylx,Try.func44,by kernel_rfl⟩
theorem ymj:za3 Try.prog ybc (.go yfq):=⟨Try.f42,yk3,Try.func42,by kernel_rfl⟩
theorem yn3:za3 Try.prog ydb (.go yfv):=⟨Try.f43,yq3,Try.func43,by kernel_rfl⟩
theorem yld:za3 Try.prog yd5 (.go yfx):=⟨Try.f27,ypq,Try.func27,by kernel_rfl⟩
theorem yk7:za3 Try.prog yc6 (.go yfm):=⟨Try.f7,yrn,Try.func7,by kernel_rfl⟩
theorem ym1:za3 Try.prog ydn (.go yf8):=⟨Try.f65,ykk,Try.func65,by kernel_rfl⟩
theorem yn1:za3 Try.prog yd7 (.go yet):=⟨Try.f57,yml,Try.func57,by kernel_rfl⟩
theorem yqz:za3 Try.prog ybq (.go yeg):=⟨Try.f63,ynw,Try.func63,by kernel_rfl⟩
theorem ypz:za3 Try.prog yd9 (.go yfg):=⟨Try.f64,yop,Try.func64,by kernel_rfl⟩
theorem ylg:za3 Try.prog yd1 (.go yei):=⟨Try.f85,yq8,Try.func85,by kernel_rfl⟩
theorem ykf:za3 Try.prog yc7 (.go yfu):=⟨Try.f79,ynu,Try.func79,by kernel_rfl⟩
theorem yms:za3 Try.prog ybp (.go yer):=⟨Try.f67,yl5,Try.func67,by kernel_rfl⟩
theorem ypb:za3 Try.prog zw4 (.go ye6):=⟨Try.f80,ynk,Try.func80,by kernel_rfl⟩
theorem ymc:za3 Try.prog ybe (.go yfn):=⟨Try.f66,yks,Try.func66,by kernel_rfl⟩
theorem yp7:za3 Try.prog ybk (.go yep):=⟨Try.f45,ylm,Try.func45,by kernel_rfl⟩
theorem yl7:za3 Try.prog ybh (.go yed):=⟨Try.f47,yro,Try.func47,by kernel_rfl⟩
theorem yqf:za3 Try.prog yah (.prim zcm):=zu9 (ts:=([0,2,3,5,6,8,9,10,11,12,20,25,26,27,28]:List Nat).map some) zyl Try.func68 (by kernel_rfl)
theorem ypp:za3 Try.prog ydd (.go yfw):=⟨Try.f46,ypi,Try.func46,by kernel_rfl⟩
theorem yna:za3 Try.prog ybu (.go ydz):=⟨Try.f69,ypw,Try.func69,by kernel_rfl⟩
theorem yoa:za3 Try.prog ydh (.go ye7):=⟨Try.f48,ykr,Try.func48,by kernel_rfl⟩
theorem yon:za3 Try.prog ybg (.go yfo):=⟨Try.f49,yod,Try.func49,by kernel_rfl⟩
theorem you:za3 Try.prog ydm (.go yfh):=⟨Try.f31,yp3,Try.func31,by kernel_rfl⟩
theorem yjl:za3 Try.prog ycs (.go yec):=⟨Try.f10,yni,Try.func10,by kernel_rfl⟩
theorem yjx:za3 Try.prog yd3 (.go yf1):=⟨Try.f19,yqp,Try.func19,by kernel_rfl⟩
theorem yoj:za3 Try.prog ydo (.go yfl):=⟨Try.f11,yla,Try.func11,by kernel_rfl⟩
theorem yjz:za3 Try.prog ydu (.go yen):=⟨Try.f32,ym7,Try.func32,by kernel_rfl⟩
theorem yjg:za3 Try.prog yct (.go yeq):=⟨Try.f33,yja,Try.func33,by kernel_rfl⟩
theorem yrq:za3 Try.prog ydt (.go yfs):=⟨Try.f12,yk2,Try.func12,by kernel_rfl⟩
theorem yjm:za3 Try.prog ydl (.lend yfk):=⟨Try.f21,ymz,Try.func21,by kernel_rfl⟩
theorem yl4:za3 Try.prog ybb (.lend ye3):=⟨Try.f13,ym2,Try.func13,by kernel_rfl⟩
theorem yjd:za3 Try.prog ycl (.lend yex):=⟨Try.f34,yr6,Try.func34,by kernel_rfl⟩
theorem yli:za3 Try.prog ydc (.lend yeo):=⟨Try.f35,yje,Try.func35,by kernel_rfl⟩
theorem ypg:za3 Try.prog ydv (.lend yfi):=⟨Try.f14,yng,Try.func14,by kernel_rfl⟩
theorem yq1:za3 Try.prog yc4 (.go yfc):=⟨Try.f23,yrf,Try.func23,by kernel_rfl⟩
theorem yrd:za3 Try.prog yc8 (.go yf9):=⟨Try.f15,ymx,Try.func15,by kernel_rfl⟩
theorem ypv:za3 Try.prog ycz (.go yf2):=⟨Try.f3,yol,Try.func3,by kernel_rfl⟩
theorem ymr:za3 Try.prog yg8 (.go ygy):=⟨Try.f51,ylf,Try.func51,by kernel_rfl⟩
theorem yqm:za3 Try.prog yib (.go yhi):=⟨Try.f52,yre,Try.func52,by kernel_rfl⟩
theorem yk1:za3 Try.prog yig (.go yhd):=⟨Try.f53,yk4,Try.func53,by kernel_rfl⟩
theorem yko:za3 Try.prog yhe (.go yh4):=⟨Try.f70,yji,Try.func70,by kernel_rfl⟩
theorem yqc:za3 Try.prog yhk (.go yg1):=⟨Try.f71,yqw,Try.func71,by kernel_rfl⟩
theorem yo0:za3 Try.prog yg6 (.go yha):=⟨Try.f54,yjf,Try.func54,by kernel_rfl⟩
theorem ymv:za3 Try.prog yh6 (.go yht):=⟨Try.f56,yoq,Try.func56,by kernel_rfl⟩
theorem yrc:za3 Try.prog yiy (.go yiu):=⟨Try.f55,ype,Try.func55,by kernel_rfl⟩
theorem ylk:za3 Try.prog yh2 (.go yip):=⟨Try.f36,yof,Try.func36,by kernel_rfl⟩
theorem yn7:za3 Try.prog yi2 (.go ygl):=⟨Try.f16,yq4,Try.func16,by kernel_rfl⟩
theorem yma:za3 Try.prog yhm (.go yi6):=⟨Try.f82,ypl,Try.func82,by kernel_rfl⟩
theorem yl2:za3 Try.prog yhv (.go yh9):=⟨Try.f72,ymq,Try.func72,by kernel_rfl⟩
theorem ylv:za3 Try.prog yj2 (.go yhy):=⟨Try.f73,ymk,Try.func73,by kernel_rfl⟩
theorem yrj:za3 Try.prog yid (.go yii):=⟨Try.f74,yjt,Try.func74,by kernel_rfl⟩
theorem yok:za3 Try.prog ygh (.go ygz):=⟨Try.f86,ypd,Try.func86,by kernel_rfl⟩
theorem ylz:za3 Try.prog yi5 (.go yiz):=⟨Try.f87,yr7,Try.func87,by kernel_rfl⟩
theorem yqn:za3 Try.prog ygm (.go yhz):=⟨Try.f84,yqr,Try.func84,by kernel_rfl⟩
theorem yl6:za3 Try.prog yhp (.go ygc):=⟨Try.f83,yqk,Try.func83,by kernel_rfl⟩
theorem ykt:za3 Try.prog yin (.go yiv):=⟨Try.f75,ymw,Try.func75,by kernel_rfl⟩
theorem ym4:za3 Try.prog yg7 (.go ygx):=⟨Try.f76,ypf,Try.func76,by kernel_rfl⟩
theorem yn4:za3 Try.prog yg3 (.go ygj):=⟨Try.f58,ylr,Try.func58,by kernel_rfl⟩
theorem yo3:za3 Try.prog yh1 (.go yg4):=⟨Try.f77,yk8,Try.func77,by kernel_rfl⟩
theorem ypx:za3 Try.prog yi4 (.go ygq):=⟨Try.f78,ynt,Try.func78,by kernel_rfl⟩
theorem ypj:za3 Try.prog yj8 (.go yj7):=⟨Try.f59,ymt,Try.func59,by kernel_rfl⟩
theorem ypo:za3 Try.prog yj1 (.go ygb):=⟨Try.f37,yq7,Try.func37,by kernel_rfl⟩
theorem yrr:za3 Try.prog ygk (.go ygd):=⟨Try.f17,yls,Try.func17,by kernel_rfl⟩
theorem ykm:za3 Try.prog yho (.go yj9):=⟨Try.f18,yob,Try.func18,by kernel_rfl⟩
theorem yjs:za3 Try.prog ygg (.lend yhj):=⟨Try.f20,ymf,Try.func20,by kernel_rfl⟩
theorem yrp:za3 Try.prog yi1 (.go yh8):=⟨Try.f38,ym0,Try.func38,by kernel_rfl⟩
theorem yp2:za3 Try.prog ygf (.go yg2):=⟨Try.f39,yqy,Try.func39,by kernel_rfl⟩
theorem yra:za3 Try.prog yj6 (.go yij):=⟨Try.f22,yr1,Try.func22,by kernel_rfl⟩
theorem yne:za3 Try.prog ygp (.go yhu):=⟨Try.f4,yp8,Try.func4,by kernel_rfl⟩
theorem zq5 {P:Program}:∀ {L:List (FuncId×Body)},(∀ p∈L,za3 P p.1 p.2)->zqs P (fun f=>L.lookup f)
 | [],_,f,b,h=>by cases h
 | (g,c)::L,hL,f,b,h=>by
   simp only [List.lookup] at h
   split at h
   ·rename_i e
    have e:f=g:=by simpa using e
    cases h
    subst e
    exact hL _ (List.mem_cons_self ..)
   ·exact zq5 (L:=L) (fun p hp=>hL p (List.mem_cons_of_mem _ hp)) f b h
theorem fm {α:Type} {p:α->Prop} {a:α} {l:List α} (h:p a) (g:∀ x∈l,p x):∀ x∈a::l,p x:=List.forall_mem_cons.2 ⟨h,g⟩
theorem fm0 {α:Type} {p:α->Prop}:∀ x∈([]:List α),p x:=fun _ h=>by cases h
theorem yb7:zqs Try.prog tab:=zq5 (L:=tabL) (fm yom (fm yki (fm ynb (fm yk6 (fm yke (fm yn8 (fm ylc (fm yqg (fm ykd (fm ymu (fm yr8 (fm ykc (fm yrk (fm yll (fm ylt (fm yk9 (fm yku (fm ymj (fm yn3 (fm yld (fm yk7 (fm ym1 (fm yn1 (fm yqz (fm ypz (fm ylg (fm ykf (fm yms (fm ypb (fm ymc (fm yp7 (fm yl7 (fm yqf (fm ypp (fm yna (fm yoa (fm yon (fm you (fm yjl (fm yjx (fm yoj (fm yjz (fm yjg (fm yrq (fm yjm (fm yl4 (fm yjd (fm yli (fm ypg (fm yq1 (fm yrd (fm ypv (fm ymr (fm yqm (fm yk1 (fm yko (fm yqc (fm yo0 (fm ymv (fm yrc (fm ylk (fm yn7 (fm yma (fm yl2 (fm ylv (fm yrj (fm yok (fm ylz (fm yqn (fm yl6 (fm ykt (fm ym4 (fm yn4 (fm yo3 (fm ypx (fm ypj (fm ypo (fm yrr (fm ykm (fm yjs (fm yrp (fm yp2 (fm yra (fm yne fm0))))))))))))))))))))))))))))))))))))))))))))))))))))))))))))))))))))))))))))))))))))
end Go.Pm
