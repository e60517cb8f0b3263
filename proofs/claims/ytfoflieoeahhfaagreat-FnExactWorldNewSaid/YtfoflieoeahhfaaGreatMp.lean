/- Proved: the law FnExactWorldNew answers true at all arguments, for every operating system that has started; no conditions beyond the row's own. -/
import Derived.Test.YtfoflieoeahhfaaGreatMo
import Derived.Test.YtfoflieoeahhfaaGreatRows
set_option linter.unusedVariables false
set_option linter.unusedSimpArgs false
namespace Go.Pm
open Go Go.Proofs
set_option maxRecDepth 1000000
abbrev KB (f:FuncId) (b:Body):Prop:=ye4 Glob.none Tryz.prog f b
theorem qaz:KB 40 (.go yv9):=⟨Tryz.f40,([0,1,4,10].map some),Tryz.func40,by kernel_rfl⟩
theorem qd2:KB 29 (.go yrz):=⟨Tryz.f29,([0,1,2,4,10].map some),Tryz.func29,by kernel_rfl⟩
theorem qej:KB 116 (.go yu9):=⟨Tryz.f116,([0,1,4,10].map some),Tryz.func116,by kernel_rfl⟩
theorem qcc:KB 115 (.go yws):=⟨Tryz.f115,([0,1,4,10].map some),Tryz.func115,by kernel_rfl⟩
theorem qam:KB 175 (.go ywe):=⟨Tryz.f175,([0,1,2,4,10,16,22,28].map some),Tryz.func175,by kernel_rfl⟩
theorem qbe:KB 90 (.go yx5):=⟨Tryz.f90,([0,1,2,4,10].map some),Tryz.func90,by kernel_rfl⟩
theorem qd8:KB 30 (.go ytx):=⟨Tryz.f30,([0,1,4,5,11,15,25].map some),Tryz.func30,by kernel_rfl⟩
theorem qed:KB 105 (.go ys7):=⟨Tryz.f105,([0,1,2,3].map some),Tryz.func105,by kernel_rfl⟩
theorem qb7:KB 42 (.go yr8):=⟨Tryz.f42,([0,2,3,4,11].map some),Tryz.func42,by kernel_rfl⟩
theorem yyh:KB 32 (.go yw3):=⟨Tryz.f32,([0,1,2,3].map some),Tryz.func32,by kernel_rfl⟩
theorem qdt:KB 120 (.go yun):=⟨Tryz.f120,([0,2,3,4,11].map some),Tryz.func120,by kernel_rfl⟩
theorem qa2:KB 119 (.go yrr):=⟨Tryz.f119,([0,2,3,4,11].map some),Tryz.func119,by kernel_rfl⟩
theorem qe1:KB 178 (.go yu0):=⟨Tryz.f178,([0,1,2,3].map some),Tryz.func178,by kernel_rfl⟩
theorem qbc:KB 94 (.go yvb):=⟨Tryz.f94,([0,1,2,3].map some),Tryz.func94,by kernel_rfl⟩
theorem qc3:KB 33 (.go yt8):=⟨Tryz.f33,([0,2,3,4,11].map some),Tryz.func33,by kernel_rfl⟩
theorem qb2:KB 75 (.go yxu):=⟨Tryz.f75,([0,1,2,6].map some),Tryz.func75,by kernel_rfl⟩
theorem qbt:KB 186 (.go yrh):=⟨Tryz.f186,([0,1,2].map some),Tryz.func186,by kernel_rfl⟩
theorem qc4:KB 104 (.go yx3):=⟨Tryz.f104,([0,2,3,4,7,11,19,22,74].map some),Tryz.func104,by kernel_rfl⟩
theorem qec:KB 91 (.go yx9):=⟨Tryz.f91,([0,1,2].map some),Tryz.func91,by kernel_rfl⟩
theorem qbs:KB 197 (.go ytf):=⟨Tryz.f197,([0,2,3,7,15].map some),Tryz.func197,by kernel_rfl⟩
theorem qau:KB 160 (.go yrc):=⟨Tryz.f160,([0,1,2].map some),Tryz.func160,by kernel_rfl⟩
theorem qd3:KB 84 (.go yud):=⟨Tryz.f84,([0,2,3,4,8,35,38,64].map some),Tryz.func84,by kernel_rfl⟩
theorem qaf:KB 176 (.go yvy):=⟨Tryz.f176,([0,1,4,12].map some),Tryz.func176,by kernel_rfl⟩
theorem yzg:KB 92 (.go yv1):=⟨Tryz.f92,([0,1,2,3,4,7,20].map some),Tryz.func92,by kernel_rfl⟩
theorem qbq:KB 177 (.go yxk):=⟨Tryz.f177,([0,1,2].map some),Tryz.func177,by kernel_rfl⟩
theorem yyi:KB 93 (.go yt6):=⟨Tryz.f93,([0,2,3,4,9].map some),Tryz.func93,by kernel_rfl⟩
theorem yzn:KB 31 (.go yv5):=⟨Tryz.f31,([0,1,2,4,5,13].map some),Tryz.func31,by kernel_rfl⟩
theorem qa6:KB 79 (.go ytu):=⟨Tryz.f79,([0,1,2,6].map some),Tryz.func79,by kernel_rfl⟩
theorem qb9:KB 179 (.go yuy):=⟨Tryz.f179,([0,1,4].map some),Tryz.func179,by kernel_rfl⟩
theorem qal:KB 165 (.go yvj):=⟨Tryz.f165,([0,2].map some),Tryz.func165,by kernel_rfl⟩
theorem qdn:KB 170 (.go yt7):=⟨Tryz.f170,([0,2].map some),Tryz.func170,by kernel_rfl⟩
theorem qa1:KB 164 (.go yw8):=⟨Tryz.f164,([0,2].map some),Tryz.func164,by kernel_rfl⟩
theorem qbl:KB 189 (.go yvk):=⟨Tryz.f189,([0,1,2,43].map some),Tryz.func189,by kernel_rfl⟩
theorem yzw:KB 191 (.go yr9):=⟨Tryz.f191,([0,1,2,3].map some),Tryz.func191,by kernel_rfl⟩
theorem yzs:KB 269 (.go yr3):=⟨Tryz.f269,([0,1,4,5,7,8,9,16].map some),Tryz.func269,by kernel_rfl⟩
theorem yyr:KB 190 (.go yxh):=⟨Tryz.f190,([0,1,4].map some),Tryz.func190,by kernel_rfl⟩
theorem yyt:KB 107 (.go yvd):=⟨Tryz.f107,([0,2,3,4,5,6,7,8,21].map some),Tryz.func107,by kernel_rfl⟩
theorem qcl:KB 95 (.go ys5):=⟨Tryz.f95,([0,1,2].map some),Tryz.func95,by kernel_rfl⟩
theorem qel:KB 316 (.go yw5):=⟨Tryz.f316,([0,1,4,5,7,8,9,16].map some),Tryz.func316,by kernel_rfl⟩
theorem yym:KB 300 (.go ysr):=⟨Tryz.f300,([0,1,4].map some),Tryz.func300,by kernel_rfl⟩
theorem yyb:KB 301 (.go yw1):=⟨Tryz.f301,([0,2].map some),Tryz.func301,by kernel_rfl⟩
theorem qbm:KB 253 (.go yur):=⟨Tryz.f253,([0,2].map some),Tryz.func253,by kernel_rfl⟩
theorem yzc:KB 166 (.go yss):=⟨Tryz.f166,([0,1,2].map some),Tryz.func166,by kernel_rfl⟩
theorem yzi:KB 168 (.go yux):=⟨Tryz.f168,([0,1,2,3].map some),Tryz.func168,by kernel_rfl⟩
theorem qdr:KB 254 (.go yrt):=⟨Tryz.f254,([0,1,4,5,7,8,9,16].map some),Tryz.func254,by kernel_rfl⟩
theorem qbo:KB 167 (.go yw0):=⟨Tryz.f167,([0,1,4].map some),Tryz.func167,by kernel_rfl⟩
theorem yzf:KB 86 (.go ywk):=⟨Tryz.f86,([0,2,3,4,5,6,7,8,34].map some),Tryz.func86,by kernel_rfl⟩
theorem qaw:KB 108 (.prim (zbc 7 56)):=(zmc (fn:=Tryz.f108) (r:=2) Tryz.func108 (by kernel_rfl)).toJ
theorem qb6:KB 180 (.go yx4):=⟨Tryz.f180,([0,1,2].map some),Tryz.func180,by kernel_rfl⟩
theorem qa8:KB 181 (.go ywv):=⟨Tryz.f181,([0,1,4,8].map some),Tryz.func181,by kernel_rfl⟩
theorem yz0:KB 96 (.go yub):=⟨Tryz.f96,([0,1,2,3,6,11,12].map some),Tryz.func96,by kernel_rfl⟩
theorem qc8:KB 262 (.prim (zbc 1 1)):=(zmc (fn:=Tryz.f262) (r:=2) Tryz.func262 (by kernel_rfl)).toJ
theorem yzl:KB 263 (.prim (zbc 1 8)):=(zmc (fn:=Tryz.f263) (r:=2) Tryz.func263 (by kernel_rfl)).toJ
theorem qc5:KB 182 (.go yri):=⟨Tryz.f182,([0,1,2].map some),Tryz.func182,by kernel_rfl⟩
theorem qas:KB 97 (.go yw4):=⟨Tryz.f97,([0,2,3,5,6,7,8,9].map some),Tryz.func97,by kernel_rfl⟩
theorem qbn:KB 34 (.go ytq):=⟨Tryz.f34,([0,1,2,4,5,13].map some),Tryz.func34,by kernel_rfl⟩
theorem qe0:KB 109 (.go yxl):=⟨Tryz.f109,([0,1,2,3,4,9,14,19,24,29,34,39].map some),Tryz.func109,by kernel_rfl⟩
theorem qce:KB 44 (.go yrv):=⟨Tryz.f44,([0,1,4,5,10,14,26].map some),Tryz.func44,by kernel_rfl⟩
theorem yyf:KB 35 (.go yt3):=⟨Tryz.f35,([0,1,2,3,4,9,14,20].map some),Tryz.func35,by kernel_rfl⟩
theorem qbd:KB 20 (.go ysj):=⟨Tryz.f20,([0,1,4,5,10,14,25].map some),Tryz.func20,by kernel_rfl⟩
theorem qd4:KB 124 (.go yvs):=⟨Tryz.f124,([0,1,4,5,10,14,25].map some),Tryz.func124,by kernel_rfl⟩
theorem qeg:KB 53 (.go yt2):=⟨Tryz.f53,([0,1,2,3,4,9,14,19,25,31,36].map some),Tryz.func53,by kernel_rfl⟩
theorem yzm:KB 282 (.go yrm):=⟨Tryz.f282,([0,1,2,3,4,9,14,20].map some),Tryz.func282,by kernel_rfl⟩
theorem yyx:KB 214 (.go yrw):=⟨Tryz.f214,([0,1,4,5,10,14,26].map some),Tryz.func214,by kernel_rfl⟩
theorem yzt:KB 216 (.go ysl):=⟨Tryz.f216,([0,1,2,3,4,9,14,19,24,30,36].map some),Tryz.func216,by kernel_rfl⟩
theorem qb0:KB 215 (.go yvo):=⟨Tryz.f215,([0,1,4,5,10,14,26].map some),Tryz.func215,by kernel_rfl⟩
theorem yz6:KB 242 (.go ys6):=⟨Tryz.f242,([0,1,2,3,4,9,14,19,24,30,36,42,48].map some),Tryz.func242,by kernel_rfl⟩
theorem qby:KB 150 (.go yxs):=⟨Tryz.f150,([0,1,4,5,10,14,26].map some),Tryz.func150,by kernel_rfl⟩
theorem qbw:KB 70 (.go yve):=⟨Tryz.f70,([0,1,2,3,4,9,15].map some),Tryz.func70,by kernel_rfl⟩
theorem qde:KB 244 (.go yt5):=⟨Tryz.f244,([0,1,2,3,4,9,14,19,25].map some),Tryz.func244,by kernel_rfl⟩
theorem qbz:KB 243 (.go ytm):=⟨Tryz.f243,([0,1,4,5,10,14,26].map some),Tryz.func243,by kernel_rfl⟩
theorem qeh:KB 151 (.go ywh):=⟨Tryz.f151,([0,1,2,3,4,10,15,21,26,31,36,41,46,51].map some),Tryz.func151,by kernel_rfl⟩
theorem qa0:KB 71 (.go ytj):=⟨Tryz.f71,([0,1,4,5,10,14,26].map some),Tryz.func71,by kernel_rfl⟩
theorem qek:KB 15 (.go ytk):=⟨Tryz.f15,([0,1,2,3,4,9,15,21,27,32,37,42,47].map some),Tryz.func15,by kernel_rfl⟩
theorem qdy:KB 183 (.go ysu):=⟨Tryz.f183,([0,1,2,3,4,10,16,22,28].map some),Tryz.func183,by kernel_rfl⟩
theorem yyu:KB 98 (.go yvv):=⟨Tryz.f98,([0,1,2,3,4,9,14,20].map some),Tryz.func98,by kernel_rfl⟩
theorem qcz:KB 36 (.go yrj):=⟨Tryz.f36,([0,1,4,5,10,14,26].map some),Tryz.func36,by kernel_rfl⟩
theorem qa7:KB 158 (.go ysy):=⟨Tryz.f158,([0,1,2,3,4,9,14,19,24,30,36].map some),Tryz.func158,by kernel_rfl⟩
theorem qci:KB 80 (.go yx8):=⟨Tryz.f80,([0,1,4,5,10,14,26].map some),Tryz.func80,by kernel_rfl⟩
theorem yy5:KB 123 (.go ys0):=⟨Tryz.f123,([0,1,2,3,4,9,14,20,26,32,38].map some),Tryz.func123,by kernel_rfl⟩
theorem qdf:KB 52 (.go ysp):=⟨Tryz.f52,([0,1,4,5,10,14,26].map some),Tryz.func52,by kernel_rfl⟩
theorem yzv:KB 159 (.go ysx):=⟨Tryz.f159,([0,1,2,3,4,9,14,19,25,31].map some),Tryz.func159,by kernel_rfl⟩
theorem qa4:KB 81 (.go yr7):=⟨Tryz.f81,([0,1,4,5,10,14,26].map some),Tryz.func81,by kernel_rfl⟩
theorem qb4:KB 21 (.go ysc):=⟨Tryz.f21,([0,1,2,3,4,10,16,22,28,34].map some),Tryz.func21,by kernel_rfl⟩
theorem yy4:KB 46 (.lend yrx):=⟨Tryz.f46,([0,1,0,4,5,9].map some),Tryz.func46,by kernel_rfl⟩
theorem qcx:KB 37 (.lend ywr):=⟨Tryz.f37,([0,1,0,2,4].map some),Tryz.func37,by kernel_rfl⟩
theorem qei:KB 99 (.lend yr6):=⟨Tryz.f99,([0,1,0,4,5,9].map some),Tryz.func99,by kernel_rfl⟩
theorem qda:KB 23 (.lend ys8):=⟨Tryz.f23,([0,1,0,4,5,9].map some),Tryz.func23,by kernel_rfl⟩
theorem qcp:KB 38 (.lend yuh):=⟨Tryz.f38,([0,1,0,4,5,9].map some),Tryz.func38,by kernel_rfl⟩
theorem qdu:KB 125 (.lend yth):=⟨Tryz.f125,([0,1,0,4,5,9].map some),Tryz.func125,by kernel_rfl⟩
theorem qax:KB 126 (.lend yst):=⟨Tryz.f126,([0,1,0,4,5,9].map some),Tryz.func126,by kernel_rfl⟩
theorem qcd:KB 192 (.lend yxr):=⟨Tryz.f192,([0,1,0,4,5,9].map some),Tryz.func192,by kernel_rfl⟩
theorem qen:KB 110 (.lend yxp):=⟨Tryz.f110,([0,1,0,2,4].map some),Tryz.func110,by kernel_rfl⟩
theorem qd7:KB 193 (.lend yto):=⟨Tryz.f193,([0,1,0,4,5,9].map some),Tryz.func193,by kernel_rfl⟩
theorem qb8:KB 111 (.lend yx1):=⟨Tryz.f111,([0,1,0,4,5,9].map some),Tryz.func111,by kernel_rfl⟩
theorem yz1:KB 45 (.lend yt4):=⟨Tryz.f45,([0,1,0,2,4].map some),Tryz.func45,by kernel_rfl⟩
theorem yyp:KB 82 (.lend yty):=⟨Tryz.f82,([0,1,0,4,5,9].map some),Tryz.func82,by kernel_rfl⟩
theorem qbu:KB 55 (.lend yxd):=⟨Tryz.f55,([0,1,0,4,5,9].map some),Tryz.func55,by kernel_rfl⟩
theorem qay:KB 83 (.lend yxe):=⟨Tryz.f83,([0,1,0,4,5,9].map some),Tryz.func83,by kernel_rfl⟩
theorem yzb:KB 22 (.lend yxw):=⟨Tryz.f22,([0,1,0,2,4].map some),Tryz.func22,by kernel_rfl⟩
theorem qa9:KB 194 (.go yv7):=⟨Tryz.f194,([0,1,4,5,9,18,27,36,45,54,63,72].map some),Tryz.func194,by kernel_rfl⟩
theorem qcb:KB 112 (.go ywi):=⟨Tryz.f112,([0,1,2,4,10].map some),Tryz.func112,by kernel_rfl⟩
theorem qan:KB 24 (.go yta):=⟨Tryz.f24,([0,1,4,5,9,17].map some),Tryz.func24,by kernel_rfl⟩
theorem qd0:KB 127 (.go ywo):=⟨Tryz.f127,([0,1,4,5,9,19].map some),Tryz.func127,by kernel_rfl⟩
theorem yxy:KB 128 (.go yu2):=⟨Tryz.f128,([0,1,4,5,9,18,27,37,47,57,69,79,87].map some),Tryz.func128,by kernel_rfl⟩
theorem yzh:KB 129 (.go yu3):=⟨Tryz.f129,([0,1,4,5,9,18,27,36,45,56,65].map some),Tryz.func129,by kernel_rfl⟩
theorem yzx:KB 195 (.go yvp):=⟨Tryz.f195,([0,1,4,5,9,18,27,36,45,55,65,75,87,97,105,116,125,134].map some),Tryz.func195,by kernel_rfl⟩
theorem yye:KB 113 (.go yus):=⟨Tryz.f113,([0,1,2,4,10].map some),Tryz.func113,by kernel_rfl⟩
theorem qap:KB 196 (.go yuo):=⟨Tryz.f196,([0,1,4,5,9,18,27,36,46,56,66,78,88,96].map some),Tryz.func196,by kernel_rfl⟩
theorem qem:KB 114 (.go yvg):=⟨Tryz.f114,([0,1,4,5,9,20,29,39,49,59,70,81,92,105,116,125,134,143,152,161,170,179].map some),Tryz.func114,by kernel_rfl⟩
theorem yy7:KB 47 (.go yxt):=⟨Tryz.f47,([0,1,2,4,10,16,22].map some),Tryz.func47,by kernel_rfl⟩
theorem qck:KB 100 (.go ywn):=⟨Tryz.f100,([0,1,4,5,9,18,27,39,49,59,69].map some),Tryz.func100,by kernel_rfl⟩
theorem qc7:KB 101 (.go ysi):=⟨Tryz.f101,([0,1,4,5,9,20,29,38,47,57,67,77,89,99,107,117,127,137,147,159,169].map some),Tryz.func101,by kernel_rfl⟩
theorem qac:KB 56 (.go yrb):=⟨Tryz.f56,([0,1,4,5,9,18,27,37,47,57,69,79,87,98,107,115,125,135,145,157,167].map some),Tryz.func56,by kernel_rfl⟩
theorem qar:KB 102 (.go yuc):=⟨Tryz.f102,([0,1,4,5,9,18,27,36,46,56,66,78,88,96,106,116,126,136,148,158].map some),Tryz.func102,by kernel_rfl⟩
theorem qdd:KB 39 (.go yv0):=⟨Tryz.f39,([0,1,2,4,10,16,22,28,34].map some),Tryz.func39,by kernel_rfl⟩
theorem yz8:KB 7 (.go yxb):=⟨Tryz.f7,([0,1,2,4,5,6,7,8,9,10,11,12,13,14,15,16,21,26,53,58,63,82,90,93,110,115,118].map some),Tryz.func7,by kernel_rfl⟩
theorem zvw {J:Glob} {P:Program}:∀ {L:List (FuncId×Body)},(∀ p∈L,ye4 J P p.1 p.2)->zx1 J P (fun f=>L.lookup f)
 | [],_,f,b,h=>by cases h
 | (g,c)::L,hL,f,b,h=>by
   simp only [List.lookup] at h
   split at h
   ·rename_i e
    have e:f=g:=by simpa using e
    cases h
    subst e
    exact hL _ (List.mem_cons_self ..)
   ·exact zvw (L:=L) (fun p hp=>hL p (List.mem_cons_of_mem _ hp)) f b h
theorem fm {α:Type} {p:α->Prop} {a:α} {l:List α} (h:p a) (g:∀ x∈l,p x):∀ x∈a::l,p x:=List.forall_mem_cons.2 ⟨h,g⟩
theorem fm0 {α:Type} {p:α->Prop}:∀ x∈([]:List α),p x:=fun _ h=>by cases h
theorem yly:zx1 Glob.none Tryz.prog tab:=zvw (L:=tabL) (fm qaz (fm qd2 (fm qej (fm qcc (fm qam (fm qbe (fm qd8 (fm qed (fm qb7 (fm yyh (fm qdt (fm qa2 (fm qe1 (fm qbc (fm qc3 (fm qb2 (fm qbt (fm qc4 (fm qec (fm qbs (fm qau (fm qd3 (fm qaf (fm yzg (fm qbq (fm yyi (fm yzn (fm qa6 (fm qb9 (fm qal (fm qdn (fm qa1 (fm qbl (fm yzw (fm yzs (fm yyr (fm yyt (fm qcl (fm qel (fm yym (fm yyb (fm qbm (fm yzc (fm yzi (fm qdr (fm qbo (fm yzf (fm qaw (fm qb6 (fm qa8 (fm yz0 (fm qc8 (fm yzl (fm qc5 (fm qas (fm qbn (fm qe0 (fm qce (fm yyf (fm qbd (fm qd4 (fm qeg (fm yzm (fm yyx (fm yzt (fm qb0 (fm yz6 (fm qby (fm qbw (fm qde (fm qbz (fm qeh (fm qa0 (fm qek (fm qdy (fm yyu (fm qcz (fm qa7 (fm qci (fm yy5 (fm qdf (fm yzv (fm qa4 (fm qb4 (fm yy4 (fm qcx (fm qei (fm qda (fm qcp (fm qdu (fm qax (fm qcd (fm qen (fm qd7 (fm qb8 (fm yz1 (fm yyp (fm qbu (fm qay (fm yzb (fm qa9 (fm qcb (fm qan (fm qd0 (fm yxy (fm yzh (fm yzx (fm yye (fm qap (fm qem (fm yy7 (fm qck (fm qc7 (fm qac (fm qar (fm qdd (fm yz8 fm0)))))))))))))))))))))))))))))))))))))))))))))))))))))))))))))))))))))))))))))))))))))))))))))))))))))))))))))))))))))
end Go.Pm
