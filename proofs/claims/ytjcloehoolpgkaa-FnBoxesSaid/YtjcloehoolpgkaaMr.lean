/- Proved: the law FnBoxes answers true at all arguments, for every operating system that has started; no conditions beyond the row's own. -/
import Derived.Test.YtjcloehoolpgkaaMq
import Derived.Test.YtjcloehoolpgkaaRows
set_option linter.unusedVariables false
set_option linter.unusedSimpArgs false
namespace Go.Pm
open Go Go.Proofs
set_option maxRecDepth 1000000
theorem ylx:za7 Try.prog ye1 (.go yia):=⟨Try.f4,yqd,Try.func4,by kernel_rfl⟩
theorem yp8:za7 Try.prog yg6 (.go yj9):=⟨Try.f13,yr1,Try.func13,by kernel_rfl⟩
theorem yov:za7 Try.prog yfe (.go ygw):=⟨Try.f56,ysh,Try.func56,by kernel_rfl⟩
theorem yn6:za7 Try.prog ygh (.go yhs):=⟨Try.f35,ys6,Try.func35,by kernel_rfl⟩
theorem yqm:za7 Try.prog yg1 (.go yhb):=⟨Try.f57,yqu,Try.func57,by kernel_rfl⟩
theorem ynz:za7 Try.prog ydt (.go yis):=⟨Try.f45,yq1,Try.func45,by kernel_rfl⟩
theorem yps:za7 Try.prog yei (.go yi3):=⟨Try.f58,yp4,Try.func58,by kernel_rfl⟩
theorem ysm:za7 Try.prog ydl (.go yjd):=⟨Try.f59,ylz,Try.func59,by kernel_rfl⟩
theorem ysz:za7 Try.prog yfu (.go yi4):=⟨Try.f36,ynk,Try.func36,by kernel_rfl⟩
theorem you:za7 Try.prog yfs (.go yhi):=⟨Try.f40,yn4,Try.func40,by kernel_rfl⟩
theorem yot:za7 Try.prog yfp (.go yje):=⟨Try.f41,yoj,Try.func41,by kernel_rfl⟩
theorem ypn:za7 Try.prog yfg (.go yir):=⟨Try.f42,ymw,Try.func42,by kernel_rfl⟩
theorem ytg:za7 Try.prog yf4 (.go yh5):=⟨Try.f43,yqw,Try.func43,by kernel_rfl⟩
theorem ymi:za7 Try.prog yes (.go yhc):=⟨Try.f20,ymy,Try.func20,by kernel_rfl⟩
theorem ypa:za7 Try.prog yez (.go yi1):=⟨Try.f29,yqj,Try.func29,by kernel_rfl⟩
theorem yse:za7 Try.prog yds (.go ygm):=⟨Try.f28,yni,Try.func28,by kernel_rfl⟩
theorem ysc:za7 Try.prog ydi (.go yi5):=⟨Try.f27,yrf,Try.func27,by kernel_rfl⟩
theorem ytn:za7 Try.prog ydw (.go yj1):=⟨Try.f26,ymc,Try.func26,by kernel_rfl⟩
theorem ysi:za7 Try.prog yfr (.go yji):=⟨Try.f22,ysg,Try.func22,by kernel_rfl⟩
theorem yqo:za7 Try.prog yg3 (.go ygu):=⟨Try.f37,ynu,Try.func37,by kernel_rfl⟩
theorem ytl:za7 Try.prog ydg (.go yhr):=⟨Try.f14,ypq,Try.func14,by kernel_rfl⟩
theorem yrj:za7 Try.prog yfc (.go yig):=⟨Try.f5,ys3,Try.func5,by kernel_rfl⟩
theorem yo5:za7 Try.prog yga (.go ygt):=⟨Try.f50,ymh,Try.func50,by kernel_rfl⟩
theorem yst:za7 Try.prog yfa (.go yjo):=⟨Try.f38,yqr,Try.func38,by kernel_rfl⟩
theorem ytp:za7 Try.prog yf6 (.go ygr):=⟨Try.f70,yt8,Try.func70,by kernel_rfl⟩
theorem ynw:za7 Try.prog ydk (.go yhu):=⟨Try.f60,yqb,Try.func60,by kernel_rfl⟩
theorem yo1:za7 Try.prog yfk (.go yid):=⟨Try.f61,ymb,Try.func61,by kernel_rfl⟩
theorem yqi:za7 Try.prog ydz (.go yh9):=⟨Try.f62,yt1,Try.func62,by kernel_rfl⟩
theorem yre:za7 Try.prog yf0 (.go yik):=⟨Try.f74,yng,Try.func74,by kernel_rfl⟩
theorem yrw:za7 Try.prog ye8 (.go yim):=⟨Try.f75,yq0,Try.func75,by kernel_rfl⟩
theorem yro:za7 Try.prog yel (.go yjc):=⟨Try.f72,yt7,Try.func72,by kernel_rfl⟩
theorem ypd:za7 Try.prog yet (.go yja):=⟨Try.f71,yq8,Try.func71,by kernel_rfl⟩
theorem ymg:za7 Try.prog ydo (.go yhj):=⟨Try.f63,yo9,Try.func63,by kernel_rfl⟩
theorem yrg:za7 Try.prog yfm (.go yh4):=⟨Try.f64,yra,Try.func64,by kernel_rfl⟩
theorem ys2:za7 Try.prog yeg (.go yi8):=⟨Try.f39,ys9,Try.func39,by kernel_rfl⟩
theorem ypf:za7 Try.prog ydj (.go ygn):=⟨Try.f49,ypi,Try.func49,by kernel_rfl⟩
theorem yr8:za7 Try.prog ygi (.go yj5):=⟨Try.f51,yu0,Try.func51,by kernel_rfl⟩
theorem yq6:za7 Try.prog ye9 (.go yi0):=⟨Try.f73,ym8,Try.func73,by kernel_rfl⟩
theorem yts:za7 Try.prog yfd (.go yhy):=⟨Try.f67,yoy,Try.func67,by kernel_rfl⟩
theorem ylr:za7 Try.prog zwz (.go yj8):=⟨Try.f68,ync,Try.func68,by kernel_rfl⟩
theorem yok:za7 Try.prog ygk (.go ygs):=⟨Try.f52,yog,Try.func52,by kernel_rfl⟩
theorem ypg:za7 Try.prog yfv (.go yhn):=⟨Try.f53,ylt,Try.func53,by kernel_rfl⟩
theorem yt4:za7 Try.prog yej (.go yi6):=⟨Try.f30,yol,Try.func30,by kernel_rfl⟩
theorem yow:za7 Try.prog yde (.go yj0):=⟨Try.f15,yo2,Try.func15,by kernel_rfl⟩
theorem yth:za7 Try.prog yeh (.go yhl):=⟨Try.f6,ym1,Try.func6,by kernel_rfl⟩
theorem yoc:za7 Try.prog yey (.go yh7):=⟨Try.f16,yly,Try.func16,by kernel_rfl⟩
theorem yp6:za7 Try.prog ydx (.go yhe):=⟨Try.f17,yn2,Try.func17,by kernel_rfl⟩
theorem yn7:za7 Try.prog ydf (.go yio):=⟨Try.f18,ymn,Try.func18,by kernel_rfl⟩
theorem yrx:za7 Try.prog ydn (.go yib):=⟨Try.f19,yme,Try.func19,by kernel_rfl⟩
theorem ysa:za7 Try.prog yex (.go yj7):=⟨Try.f21,ys0,Try.func21,by kernel_rfl⟩
theorem yom:za7 Try.prog yf5 (.go yj4):=⟨Try.f7,yox,Try.func7,by kernel_rfl⟩
theorem yr2:za7 Try.prog yf8 (.go yiz):=⟨Try.f44,yqk,Try.func44,by kernel_rfl⟩
theorem ysw:za7 Try.prog ydd (.go yip):=⟨Try.f46,ysq,Try.func46,by kernel_rfl⟩
theorem yos:za7 Try.prog ydy (.go ygp):=⟨Try.f23,ysj,Try.func23,by kernel_rfl⟩
theorem ymm:za7 Try.prog ydq (.go ygq):=⟨Try.f8,yqc,Try.func8,by kernel_rfl⟩
theorem yp9:za7 Try.prog ygl (.go yhg):=⟨Try.f65,yqt,Try.func65,by kernel_rfl⟩
theorem ynx:za7 Try.prog yfl (.go yhw):=⟨Try.f66,ynj,Try.func66,by kernel_rfl⟩
theorem yq4:za7 Try.prog yft (.go ygo):=⟨Try.f47,yrk,Try.func47,by kernel_rfl⟩
theorem ymr:za7 Try.prog yek (.go yjb):=⟨Try.f34,ym7,Try.func34,by kernel_rfl⟩
theorem yns:za7 Try.prog ycq (.prim zd0):=zwb (ts:=([0,2,3,5,6,8,9,10,11,12,20,25,26,27,28]:List Nat).map some) zzl Try.func55 (by kernel_rfl)
theorem ynh:za7 Try.prog yfz (.go yha):=⟨Try.f33,yn1,Try.func33,by kernel_rfl⟩
theorem yry:za7 Try.prog ydc (.go yjk):=⟨Try.f54,ytf,Try.func54,by kernel_rfl⟩
theorem yp3:za7 Try.prog ye6 (.go yhp):=⟨Try.f31,yq3,Try.func31,by kernel_rfl⟩
theorem yqf:za7 Try.prog yg9 (.go yj2):=⟨Try.f32,ys7,Try.func32,by kernel_rfl⟩
theorem yqy:za7 Try.prog ydp (.go yil):=⟨Try.f24,yo0,Try.func24,by kernel_rfl⟩
theorem yp5:za7 Try.prog yfi (.go yix):=⟨Try.f9,ynm,Try.func9,by kernel_rfl⟩
theorem ysr:za7 Try.prog ygf (.go ygy):=⟨Try.f48,ys5,Try.func48,by kernel_rfl⟩
theorem yto:za7 Try.prog yfj (.go ygz):=⟨Try.f25,ymz,Try.func25,by kernel_rfl⟩
theorem ypb:za7 Try.prog ygb (.go yiw):=⟨Try.f11,yod,Try.func11,by kernel_rfl⟩
theorem ynl:za7 Try.prog yfh (.go yjm):=⟨Try.f10,yqg,Try.func10,by kernel_rfl⟩
theorem yr6:za7 Try.prog ye2 (.go yit):=⟨Try.f12,ytk,Try.func12,by kernel_rfl⟩
theorem yq7:za7 Try.prog ygc (.go ygx):=⟨Try.f3,yqa,Try.func3,by kernel_rfl⟩
theorem zrd {P:Program}:∀ {L:List (FuncId×Body)},(∀ p∈L,za7 P p.1 p.2)->zsg P (fun f=>L.lookup f)
 | [],_,f,b,h=>by cases h
 | (g,c)::L,hL,f,b,h=>by
   simp only [List.lookup] at h
   split at h
   ·rename_i e
    have e:f=g:=by simpa using e
    cases h
    subst e
    exact hL _ (List.mem_cons_self ..)
   ·exact zrd (L:=L) (fun p hp=>hL p (List.mem_cons_of_mem _ hp)) f b h
theorem fm {α:Type} {p:α->Prop} {a:α} {l:List α} (h:p a) (g:∀ x∈l,p x):∀ x∈a::l,p x:=List.forall_mem_cons.2 ⟨h,g⟩
theorem fm0 {α:Type} {p:α->Prop}:∀ x∈([]:List α),p x:=fun _ h=>by cases h
theorem ybt:zsg Try.prog tab:=zrd (L:=tabL) (fm ylx (fm yp8 (fm yov (fm yn6 (fm yqm (fm ynz (fm yps (fm ysm (fm ysz (fm you (fm yot (fm ypn (fm ytg (fm ymi (fm ypa (fm yse (fm ysc (fm ytn (fm ysi (fm yqo (fm ytl (fm yrj (fm yo5 (fm yst (fm ytp (fm ynw (fm yo1 (fm yqi (fm yre (fm yrw (fm yro (fm ypd (fm ymg (fm yrg (fm ys2 (fm ypf (fm yr8 (fm yq6 (fm yts (fm ylr (fm yok (fm ypg (fm yt4 (fm yow (fm yth (fm yoc (fm yp6 (fm yn7 (fm yrx (fm ysa (fm yom (fm yr2 (fm ysw (fm yos (fm ymm (fm yp9 (fm ynx (fm yq4 (fm ymr (fm yns (fm ynh (fm yry (fm yp3 (fm yqf (fm yqy (fm yp5 (fm ysr (fm yto (fm ypb (fm ynl (fm yr6 (fm yq7 fm0))))))))))))))))))))))))))))))))))))))))))))))))))))))))))))))))))))))))
end Go.Pm
