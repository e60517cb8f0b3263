/- Proved: the law FnExactBoxAsk answers true at all arguments, for every operating system that has started; no conditions beyond the row's own. -/
import Derived.Test.YtcjfkblhogdmbaaMp
import Derived.Test.YtcjfkblhogdmbaaRows
set_option linter.unusedVariables false
set_option linter.unusedSimpArgs false
namespace Go.Pm
open Go Go.Proofs
set_option maxRecDepth 1000000
theorem yu8:za5 Try.prog yfr (.go yi2):=⟨Try.f24,yrz,Try.func24,by kernel_rfl⟩
theorem ymj:za5 Try.prog yfl (.go yj6):=⟨Try.f5,yqx,Try.func5,by kernel_rfl⟩
theorem ynu:za5 Try.prog yk0 (.go ylr):=⟨Try.f25,yrl,Try.func25,by kernel_rfl⟩
theorem yqe:za5 Try.prog yka (.go yk3):=⟨Try.f26,ypg,Try.func26,by kernel_rfl⟩
theorem yqo:za5 Try.prog ykd (.go ykl):=⟨Try.f6,yuj,Try.func6,by kernel_rfl⟩
theorem yo2:za5 Try.prog yg6 (.go yhg):=⟨Try.f28,ysl,Try.func28,by kernel_rfl⟩
theorem ytf:za5 Try.prog yep (.go yhy):=⟨Try.f8,yty,Try.func8,by kernel_rfl⟩
theorem yux:za5 Try.prog yjw (.go ykn):=⟨Try.f29,yox,Try.func29,by kernel_rfl⟩
theorem yph:za5 Try.prog yk2 (.go ykp):=⟨Try.f30,ynl,Try.func30,by kernel_rfl⟩
theorem ype:za5 Try.prog ylw (.go ylu):=⟨Try.f9,yua,Try.func9,by kernel_rfl⟩
theorem yt7:za5 Try.prog ygh (.go yik):=⟨Try.f60,ysw,Try.func60,by kernel_rfl⟩
theorem yn0:za5 Try.prog yfx (.go yia):=⟨Try.f50,ypp,Try.func50,by kernel_rfl⟩
theorem yqa:za5 Try.prog ygl (.go yjd):=⟨Try.f61,yt6,Try.func61,by kernel_rfl⟩
theorem yuv:za5 Try.prog ykj (.go ykf):=⟨Try.f62,ytr,Try.func62,by kernel_rfl⟩
theorem yn2:za5 Try.prog yjp (.go ym9):=⟨Try.f40,yr0,Try.func40,by kernel_rfl⟩
theorem ypu:za5 Try.prog yek (.go yj1):=⟨Try.f41,ysy,Try.func41,by kernel_rfl⟩
theorem ync:za5 Try.prog yfs (.go yh3):=⟨Try.f44,ys2,Try.func44,by kernel_rfl⟩
theorem yr9:za5 Try.prog yes (.go yi6):=⟨Try.f42,ysn,Try.func42,by kernel_rfl⟩
theorem ypm:za5 Try.prog ygd (.go yhf):=⟨Try.f43,ytk,Try.func43,by kernel_rfl⟩
theorem ys1:za5 Try.prog ykq (.go ylm):=⟨Try.f27,yrk,Try.func27,by kernel_rfl⟩
theorem yq7:za5 Try.prog yl4 (.go ylh):=⟨Try.f7,yqz,Try.func7,by kernel_rfl⟩
theorem yra:za5 Try.prog yfk (.go yha):=⟨Try.f65,yno,Try.func65,by kernel_rfl⟩
theorem yry:za5 Try.prog ye5 (.go yhi):=⟨Try.f57,yr2,Try.func57,by kernel_rfl⟩
theorem yqb:za5 Try.prog ykv (.go yll):=⟨Try.f63,ypc,Try.func63,by kernel_rfl⟩
theorem ynm:za5 Try.prog yjq (.go ylv):=⟨Try.f64,yrv,Try.func64,by kernel_rfl⟩
theorem yuy:za5 Try.prog yed (.go yin):=⟨Try.f85,yub,Try.func85,by kernel_rfl⟩
theorem ysh:za5 Try.prog yf1 (.go yid):=⟨Try.f79,ypv,Try.func79,by kernel_rfl⟩
theorem yn6:za5 Try.prog ye2 (.go yj4):=⟨Try.f67,yos,Try.func67,by kernel_rfl⟩
theorem yn7:za5 Try.prog zy2 (.go yiq):=⟨Try.f80,yu3,Try.func80,by kernel_rfl⟩
theorem yuz:za5 Try.prog yev (.go yhu):=⟨Try.f66,ys5,Try.func66,by kernel_rfl⟩
theorem yrb:za5 Try.prog yl2 (.go ymf):=⟨Try.f45,ytg,Try.func45,by kernel_rfl⟩
theorem yqq:za5 Try.prog yjv (.go yku):=⟨Try.f47,yte,Try.func47,by kernel_rfl⟩
theorem ynx:za5 Try.prog ykz (.prim zfb):=zvq (ts:=([0,2,3,5,6,8,9,10,11,12,20,25,26,27,28]:List Nat).map some) ya7 Try.func68 (by kernel_rfl)
theorem ymq:za5 Try.prog yl5 (.go ylf):=⟨Try.f46,yqi,Try.func46,by kernel_rfl⟩
theorem ysk:za5 Try.prog ym2 (.go yjj):=⟨Try.f69,ysa,Try.func69,by kernel_rfl⟩
theorem ypa:za5 Try.prog yma (.go yl7):=⟨Try.f48,ys0,Try.func48,by kernel_rfl⟩
theorem ysv:za5 Try.prog yle (.go yk4):=⟨Try.f49,yun,Try.func49,by kernel_rfl⟩
theorem yot:za5 Try.prog ykk (.go yjn):=⟨Try.f31,yuh,Try.func31,by kernel_rfl⟩
theorem yro:za5 Try.prog ykx (.go yla):=⟨Try.f10,yr5,Try.func10,by kernel_rfl⟩
theorem yrg:za5 Try.prog yf7 (.go yh1):=⟨Try.f19,yt2,Try.func19,by kernel_rfl⟩
theorem yok:za5 Try.prog ygw (.go yi0):=⟨Try.f11,yq8,Try.func11,by kernel_rfl⟩
theorem ynp:za5 Try.prog ygs (.go yhz):=⟨Try.f32,ytz,Try.func32,by kernel_rfl⟩
theorem yrf:za5 Try.prog yg8 (.go yic):=⟨Try.f33,ysp,Try.func33,by kernel_rfl⟩
theorem yq3:za5 Try.prog ykw (.go yl1):=⟨Try.f12,yon,Try.func12,by kernel_rfl⟩
theorem yp5:za5 Try.prog yeu (.lend yit):=⟨Try.f21,yu6,Try.func21,by kernel_rfl⟩
theorem ymw:za5 Try.prog yfe (.lend yht):=⟨Try.f13,ys8,Try.func13,by kernel_rfl⟩
theorem yu5:za5 Try.prog yfd (.lend yjg):=⟨Try.f34,yq6,Try.func34,by kernel_rfl⟩
theorem yt9:za5 Try.prog yg9 (.lend yh4):=⟨Try.f35,yrd,Try.func35,by kernel_rfl⟩
theorem ynv:za5 Try.prog ykm (.lend ylp):=⟨Try.f14,yq0,Try.func14,by kernel_rfl⟩
theorem yqv:za5 Try.prog yeb (.go yho):=⟨Try.f23,yug,Try.func23,by kernel_rfl⟩
theorem ymx:za5 Try.prog yjt (.go ykr):=⟨Try.f15,yo3,Try.func15,by kernel_rfl⟩
theorem yna:za5 Try.prog ykc (.go yjx):=⟨Try.f3,yrh,Try.func3,by kernel_rfl⟩
theorem ypw:za5 Try.prog yel (.go yhm):=⟨Try.f51,ymz,Try.func51,by kernel_rfl⟩
theorem yny:za5 Try.prog yf9 (.go yh5):=⟨Try.f52,ymi,Try.func52,by kernel_rfl⟩
theorem ytw:za5 Try.prog yfp (.go yh9):=⟨Try.f53,ytt,Try.func53,by kernel_rfl⟩
theorem yop:za5 Try.prog ye9 (.go yi5):=⟨Try.f70,yn3,Try.func70,by kernel_rfl⟩
theorem yt4:za5 Try.prog yfh (.go yi4):=⟨Try.f71,ymg,Try.func71,by kernel_rfl⟩
theorem yns:za5 Try.prog yfj (.go yh2):=⟨Try.f54,yt8,Try.func54,by kernel_rfl⟩
theorem yrj:za5 Try.prog yfv (.go yh0):=⟨Try.f56,ypj,Try.func56,by kernel_rfl⟩
theorem ysj:za5 Try.prog yfn (.go yj2):=⟨Try.f55,yoc,Try.func55,by kernel_rfl⟩
theorem yp4:za5 Try.prog yez (.go yiw):=⟨Try.f36,yn1,Try.func36,by kernel_rfl⟩
theorem ytm:za5 Try.prog yef (.go yhs):=⟨Try.f16,yud,Try.func16,by kernel_rfl⟩
theorem yps:za5 Try.prog yf4 (.go yiy):=⟨Try.f82,ypz,Try.func82,by kernel_rfl⟩
theorem yqk:za5 Try.prog ygz (.go yja):=⟨Try.f72,ytv,Try.func72,by kernel_rfl⟩
theorem ytp:za5 Try.prog ygq (.go yhd):=⟨Try.f73,ys4,Try.func73,by kernel_rfl⟩
theorem yt1:za5 Try.prog yg2 (.go yhk):=⟨Try.f74,yts,Try.func74,by kernel_rfl⟩
theorem yse:za5 Try.prog ygj (.go yj8):=⟨Try.f86,yru,Try.func86,by kernel_rfl⟩
theorem yrx:za5 Try.prog yet (.go yhn):=⟨Try.f87,yr3,Try.func87,by kernel_rfl⟩
theorem ynk:za5 Try.prog ygr (.go yjh):=⟨Try.f84,yu9,Try.func84,by kernel_rfl⟩
theorem yr7:za5 Try.prog yei (.go yjf):=⟨Try.f83,yoy,Try.func83,by kernel_rfl⟩
theorem yuq:za5 Try.prog ygx (.go yi7):=⟨Try.f75,ytx,Try.func75,by kernel_rfl⟩
theorem yms:za5 Try.prog yf6 (.go yhv):=⟨Try.f76,yml,Try.func76,by kernel_rfl⟩
theorem ynw:za5 Try.prog yfb (.go yjc):=⟨Try.f58,ypy,Try.func58,by kernel_rfl⟩
theorem ynz:za5 Try.prog yej (.go yjb):=⟨Try.f77,yut,Try.func77,by kernel_rfl⟩
theorem ymk:za5 Try.prog yee (.go yhh):=⟨Try.f78,yn8,Try.func78,by kernel_rfl⟩
theorem ynn:za5 Try.prog yfz (.go yir):=⟨Try.f59,yr6,Try.func59,by kernel_rfl⟩
theorem yp3:za5 Try.prog yeq (.go yie):=⟨Try.f37,yqu,Try.func37,by kernel_rfl⟩
theorem yrs:za5 Try.prog ye7 (.go yi1):=⟨Try.f17,yuf,Try.func17,by kernel_rfl⟩
theorem yo6:za5 Try.prog ygm (.go yi9):=⟨Try.f18,yrr,Try.func18,by kernel_rfl⟩
theorem yp9:za5 Try.prog yga (.lend yji):=⟨Try.f20,yo1,Try.func20,by kernel_rfl⟩
theorem ypo:za5 Try.prog ygn (.go yh6):=⟨Try.f38,ytn,Try.func38,by kernel_rfl⟩
theorem yst:za5 Try.prog yg4 (.go yj7):=⟨Try.f39,yqp,Try.func39,by kernel_rfl⟩
theorem yn9:za5 Try.prog ygy (.go yhe):=⟨Try.f22,ytl,Try.func22,by kernel_rfl⟩
theorem ymo:za5 Try.prog ye3 (.go yh8):=⟨Try.f4,ypb,Try.func4,by kernel_rfl⟩
theorem zs2 {P:Program}:∀ {L:List (FuncId×Body)},(∀ p∈L,za5 P p.1 p.2)->zsn P (fun f=>L.lookup f)
 | [],_,f,b,h=>by cases h
 | (g,c)::L,hL,f,b,h=>by
   simp only [List.lookup] at h
   split at h
   ·rename_i e
    have e:f=g:=by simpa using e
    cases h
    subst e
    exact hL _ (List.mem_cons_self ..)
   ·exact zs2 (L:=L) (fun p hp=>hL p (List.mem_cons_of_mem _ hp)) f b h
theorem fm {α:Type} {p:α->Prop} {a:α} {l:List α} (h:p a) (g:∀ x∈l,p x):∀ x∈a::l,p x:=List.forall_mem_cons.2 ⟨h,g⟩
theorem fm0 {α:Type} {p:α->Prop}:∀ x∈([]:List α),p x:=fun _ h=>by cases h
theorem ydv:zsn Try.prog tab:=zs2 (L:=tabL) (fm yu8 (fm ymj (fm ynu (fm yqe (fm yqo (fm yo2 (fm ytf (fm yux (fm yph (fm ype (fm yt7 (fm yn0 (fm yqa (fm yuv (fm yn2 (fm ypu (fm ync (fm yr9 (fm ypm (fm ys1 (fm yq7 (fm yra (fm yry (fm yqb (fm ynm (fm yuy (fm ysh (fm yn6 (fm yn7 (fm yuz (fm yrb (fm yqq (fm ynx (fm ymq (fm ysk (fm ypa (fm ysv (fm yot (fm yro (fm yrg (fm yok (fm ynp (fm yrf (fm yq3 (fm yp5 (fm ymw (fm yu5 (fm yt9 (fm ynv (fm yqv (fm ymx (fm yna (fm ypw (fm yny (fm ytw (fm yop (fm yt4 (fm yns (fm yrj (fm ysj (fm yp4 (fm ytm (fm yps (fm yqk (fm ytp (fm yt1 (fm yse (fm yrx (fm ynk (fm yr7 (fm yuq (fm yms (fm ynw (fm ynz (fm ymk (fm ynn (fm yp3 (fm yrs (fm yo6 (fm yp9 (fm ypo (fm yst (fm yn9 (fm ymo fm0))))))))))))))))))))))))))))))))))))))))))))))))))))))))))))))))))))))))))))))))))))
end Go.Pm
