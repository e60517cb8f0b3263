/- Proved: the law FnExactFabricSwap answers true at all arguments, for every operating system that has started; no conditions beyond the row's own. -/
import Derived.Test.YtfoflieoeahhfaaGreatMq
import Derived.Test.YtfoflieoeahhfaaGreatRows
set_option linter.unusedVariables false
set_option linter.unusedSimpArgs false
namespace Go.Pm
open Go Go.Proofs
set_option maxRecDepth 1000000
abbrev KB (f:FuncId) (b:Body):Prop:=ygy Glob.none Tryz.prog f b
theorem qnt:KB 40 (.go qgi):=⟨Tryz.f40,([0,1,4,10].map some),Tryz.func40,by kernel_rfl⟩
theorem qy7:KB 29 (.go qhr):=⟨Tryz.f29,([0,1,2,4,10].map some),Tryz.func29,by kernel_rfl⟩
theorem qw0:KB 115 (.go qcv):=⟨Tryz.f115,([0,1,4,10].map some),Tryz.func115,by kernel_rfl⟩
theorem qr9:KB 116 (.go qgf):=⟨Tryz.f116,([0,1,4,10].map some),Tryz.func116,by kernel_rfl⟩
theorem qpa:KB 48 (.go qcx):=⟨Tryz.f48,([0,1,2,4,10,16].map some),Tryz.func48,by kernel_rfl⟩
theorem qq5:KB 298 (.go qf8):=⟨Tryz.f298,([0,1,2,4,10].map some),Tryz.func298,by kernel_rfl⟩
theorem qru:KB 246 (.go qdu):=⟨Tryz.f246,([0,1,4,5,11,15,25].map some),Tryz.func246,by kernel_rfl⟩
theorem qtw:KB 245 (.go qd2):=⟨Tryz.f245,([0,1,2,4,10,16].map some),Tryz.func245,by kernel_rfl⟩
theorem qtj:KB 247 (.go qhk):=⟨Tryz.f247,([0,1,4,5,11,15,25].map some),Tryz.func247,by kernel_rfl⟩
theorem qvu:KB 224 (.go qm2):=⟨Tryz.f224,([0,1,2,4,10,16,22,28].map some),Tryz.func224,by kernel_rfl⟩
theorem qrk:KB 133 (.go qg9):=⟨Tryz.f133,([0,1,4,5,11,15,25].map some),Tryz.func133,by kernel_rfl⟩
theorem qsb:KB 62 (.go qgv):=⟨Tryz.f62,([0,1,2,4,10].map some),Tryz.func62,by kernel_rfl⟩
theorem qs3:KB 226 (.go qjf):=⟨Tryz.f226,([0,1,2,4,10].map some),Tryz.func226,by kernel_rfl⟩
theorem qsm:KB 225 (.go qls):=⟨Tryz.f225,([0,1,4,5,11,15,25].map some),Tryz.func225,by kernel_rfl⟩
theorem qug:KB 134 (.go qdq):=⟨Tryz.f134,([0,1,2,4,10,16].map some),Tryz.func134,by kernel_rfl⟩
theorem qy9:KB 63 (.go qkn):=⟨Tryz.f63,([0,1,4,5,11,15,25].map some),Tryz.func63,by kernel_rfl⟩
theorem qtv:KB 11 (.go qda):=⟨Tryz.f11,([0,1,2,4,10,16,22].map some),Tryz.func11,by kernel_rfl⟩
theorem qwo:KB 105 (.go qk8):=⟨Tryz.f105,([0,1,2,3].map some),Tryz.func105,by kernel_rfl⟩
theorem qxb:KB 42 (.go qhw):=⟨Tryz.f42,([0,2,3,4,11].map some),Tryz.func42,by kernel_rfl⟩
theorem qnn:KB 32 (.go qf9):=⟨Tryz.f32,([0,1,2,3].map some),Tryz.func32,by kernel_rfl⟩
theorem qu7:KB 119 (.go qgt):=⟨Tryz.f119,([0,2,3,4,11].map some),Tryz.func119,by kernel_rfl⟩
theorem qvn:KB 120 (.go qiy):=⟨Tryz.f120,([0,2,3,4,11].map some),Tryz.func120,by kernel_rfl⟩
theorem qvs:KB 50 (.go qk1):=⟨Tryz.f50,([0,1,2,3].map some),Tryz.func50,by kernel_rfl⟩
theorem qnv:KB 299 (.go qea):=⟨Tryz.f299,([0,1,2,3].map some),Tryz.func299,by kernel_rfl⟩
theorem qn7:KB 249 (.go qd7):=⟨Tryz.f249,([0,2,3,4,11].map some),Tryz.func249,by kernel_rfl⟩
theorem qnk:KB 248 (.go qln):=⟨Tryz.f248,([0,1,2,3].map some),Tryz.func248,by kernel_rfl⟩
theorem qpm:KB 250 (.go qjb):=⟨Tryz.f250,([0,2,3,4,11].map some),Tryz.func250,by kernel_rfl⟩
theorem qux:KB 232 (.go qkd):=⟨Tryz.f232,([0,1,2,3].map some),Tryz.func232,by kernel_rfl⟩
theorem qxj:KB 140 (.go qd4):=⟨Tryz.f140,([0,2,3,4,11].map some),Tryz.func140,by kernel_rfl⟩
theorem qp4:KB 66 (.go qlp):=⟨Tryz.f66,([0,1,2,3].map some),Tryz.func66,by kernel_rfl⟩
theorem qrr:KB 234 (.go qdn):=⟨Tryz.f234,([0,1,2,3].map some),Tryz.func234,by kernel_rfl⟩
theorem qvg:KB 233 (.go qdw):=⟨Tryz.f233,([0,2,3,4,11].map some),Tryz.func233,by kernel_rfl⟩
theorem qnf:KB 141 (.go qhx):=⟨Tryz.f141,([0,1,2,3].map some),Tryz.func141,by kernel_rfl⟩
theorem qxu:KB 67 (.go qiq):=⟨Tryz.f67,([0,2,3,4,11].map some),Tryz.func67,by kernel_rfl⟩
theorem quj:KB 13 (.go qee):=⟨Tryz.f13,([0,1,2,3].map some),Tryz.func13,by kernel_rfl⟩
theorem qnd:KB 274 (.go qlg):=⟨Tryz.f274,([0,1,2].map some),Tryz.func274,by kernel_rfl⟩
theorem qwj:KB 276 (.go qm0):=⟨Tryz.f276,([0,2,3,4,9].map some),Tryz.func276,by kernel_rfl⟩
theorem qsd:KB 308 (.go qlm):=⟨Tryz.f308,([0,1,2].map some),Tryz.func308,by kernel_rfl⟩
theorem qvc:KB 302 (.go qlz):=⟨Tryz.f302,([0,2,3,4,9].map some),Tryz.func302,by kernel_rfl⟩
theorem qw5:KB 264 (.go qez):=⟨Tryz.f264,([0,1,2].map some),Tryz.func264,by kernel_rfl⟩
theorem qxk:KB 184 (.go qm1):=⟨Tryz.f184,([0,1,2,3,4,12].map some),Tryz.func184,by kernel_rfl⟩
theorem qve:KB 265 (.go qdg):=⟨Tryz.f265,([0,1,2].map some),Tryz.func265,by kernel_rfl⟩
theorem qw1:KB 185 (.go qe8):=⟨Tryz.f185,([0,1,2,3,4,16].map some),Tryz.func185,by kernel_rfl⟩
theorem qy1:KB 103 (.go qih):=⟨Tryz.f103,([0,1,2,3,4,23].map some),Tryz.func103,by kernel_rfl⟩
theorem qr2:KB 75 (.go qdc):=⟨Tryz.f75,([0,1,2,6].map some),Tryz.func75,by kernel_rfl⟩
theorem qpl:KB 135 (.go qmi):=⟨Tryz.f135,([0,2].map some),Tryz.func135,by kernel_rfl⟩
theorem qnz:KB 186 (.go qjn):=⟨Tryz.f186,([0,1,2].map some),Tryz.func186,by kernel_rfl⟩
theorem qnm:KB 104 (.go qha):=⟨Tryz.f104,([0,2,3,4,7,11,19,22,74].map some),Tryz.func104,by kernel_rfl⟩
theorem qwe:KB 91 (.go qjx):=⟨Tryz.f91,([0,1,2].map some),Tryz.func91,by kernel_rfl⟩
theorem quk:KB 197 (.go qm8):=⟨Tryz.f197,([0,2,3,7,15].map some),Tryz.func197,by kernel_rfl⟩
theorem qp0:KB 198 (.go qjl):=⟨Tryz.f198,([0,1,2,3,4,5,10].map some),Tryz.func198,by kernel_rfl⟩
theorem qsn:KB 199 (.go qlf):=⟨Tryz.f199,([0,1,4].map some),Tryz.func199,by kernel_rfl⟩
theorem qx7:KB 117 (.go qic):=⟨Tryz.f117,([0,1,2,12,14,15,32,49,59,69,87,105,115].map some),Tryz.func117,by kernel_rfl⟩
theorem qqf:KB 291 (.go qkm):=⟨Tryz.f291,([0,1,2].map some),Tryz.func291,by kernel_rfl⟩
theorem qpu:KB 251 (.go qe0):=⟨Tryz.f251,([0,2].map some),Tryz.func251,by kernel_rfl⟩
theorem qnq:KB 252 (.go qkp):=⟨Tryz.f252,([0,1,2,3,4,5,10].map some),Tryz.func252,by kernel_rfl⟩
theorem qtx:KB 161 (.go qfg):=⟨Tryz.f161,([0,1,2,24,27,31,32,50,62,72,82,92].map some),Tryz.func161,by kernel_rfl⟩
theorem qqd:KB 293 (.go qm9):=⟨Tryz.f293,([0,1,4,5,10,14,25].map some),Tryz.func293,by kernel_rfl⟩
theorem qwx:KB 292 (.go qhd):=⟨Tryz.f292,([0,1,2,3,4,5,20,23,25,26,35,42,52,62,80,95].map some),Tryz.func292,by kernel_rfl⟩
theorem qnl:KB 163 (.go qhu):=⟨Tryz.f163,([0,1,2].map some),Tryz.func163,by kernel_rfl⟩
theorem qqt:KB 227 (.go qlj):=⟨Tryz.f227,([0,1,2,3,4,45,50,98].map some),Tryz.func227,by kernel_rfl⟩
theorem qx2:KB 136 (.go qe6):=⟨Tryz.f136,([0,1,2,3,13,18,60].map some),Tryz.func136,by kernel_rfl⟩
theorem qr5:KB 139 (.go qj5):=⟨Tryz.f139,([0,1,2,3,4,5,14,25,37].map some),Tryz.func139,by kernel_rfl⟩
theorem qwa:KB 230 (.go qev):=⟨Tryz.f230,([0,1,2,4,5,10,20].map some),Tryz.func230,by kernel_rfl⟩
theorem qob:KB 294 (.go qed):=⟨Tryz.f294,([0,1,4,5,10,14,25].map some),Tryz.func294,by kernel_rfl⟩
theorem qx3:KB 231 (.go qlv):=⟨Tryz.f231,([0,1,2,3,4].map some),Tryz.func231,by kernel_rfl⟩
theorem qo8:KB 138 (.go qk6):=⟨Tryz.f138,([0,1,2,3,5,6,7,8,41].map some),Tryz.func138,by kernel_rfl⟩
theorem qq9:KB 162 (.go qdr):=⟨Tryz.f162,([0,1,2].map some),Tryz.func162,by kernel_rfl⟩
theorem qs9:KB 229 (.go qgd):=⟨Tryz.f229,([0,1,2].map some),Tryz.func229,by kernel_rfl⟩
theorem qua:KB 228 (.go qdd):=⟨Tryz.f228,([0,1,2].map some),Tryz.func228,by kernel_rfl⟩
theorem qvw:KB 137 (.go qdb):=⟨Tryz.f137,([0,1,2,3,25,30,39,42].map some),Tryz.func137,by kernel_rfl⟩
theorem qmy:KB 65 (.go qds):=⟨Tryz.f65,([0,1,2,3,6].map some),Tryz.func65,by kernel_rfl⟩
theorem qpy:KB 64 (.go qh9):=⟨Tryz.f64,([0,1,2,3,4,5,6,7,53,59,68,78,84,110,118].map some),Tryz.func64,by kernel_rfl⟩
theorem qsy:KB 41 (.go qkc):=⟨Tryz.f41,([0,1,2,4,5,6,16].map some),Tryz.func41,by kernel_rfl⟩
theorem qu0:KB 108 (.prim (zb4 7 56)):=(zil (fn:=Tryz.f108) (r:=2) Tryz.func108 (by kernel_rfl)).toJ
theorem qsf:KB 180 (.go qjz):=⟨Tryz.f180,([0,1,2].map some),Tryz.func180,by kernel_rfl⟩
theorem qv8:KB 263 (.prim (zb4 1 8)):=(zil (fn:=Tryz.f263) (r:=2) Tryz.func263 (by kernel_rfl)).toJ
theorem qn4:KB 262 (.prim (zb4 1 1)):=(zil (fn:=Tryz.f262) (r:=2) Tryz.func262 (by kernel_rfl)).toJ
theorem qor:KB 211 (.go qhs):=⟨Tryz.f211,([0,1,2].map some),Tryz.func211,by kernel_rfl⟩
theorem qsa:KB 303 (.go qip):=⟨Tryz.f303,([0,1,2].map some),Tryz.func303,by kernel_rfl⟩
theorem qxy:KB 266 (.go qjq):=⟨Tryz.f266,([0,2,3,5,6,7,8,9].map some),Tryz.func266,by kernel_rfl⟩
theorem qxd:KB 304 (.go qja):=⟨Tryz.f304,([0,1,2].map some),Tryz.func304,by kernel_rfl⟩
theorem qqw:KB 267 (.go qg0):=⟨Tryz.f267,([0,2,3,5,6,7,8,9].map some),Tryz.func267,by kernel_rfl⟩
theorem qqx:KB 187 (.go qgs):=⟨Tryz.f187,([0,1,2,3,5,10,11,12,13].map some),Tryz.func187,by kernel_rfl⟩
theorem qw9:KB 268 (.go qdo):=⟨Tryz.f268,([0,1,2].map some),Tryz.func268,by kernel_rfl⟩
theorem qra:KB 188 (.go qg8):=⟨Tryz.f188,([0,1,2,3,5,11,12,13,14].map some),Tryz.func188,by kernel_rfl⟩
theorem qul:KB 106 (.go qkl):=⟨Tryz.f106,([0,1,2,3,5,15,16,17,18].map some),Tryz.func106,by kernel_rfl⟩
theorem qwh:KB 79 (.go qjo):=⟨Tryz.f79,([0,1,2,6].map some),Tryz.func79,by kernel_rfl⟩
theorem qp5:KB 142 (.go qdf):=⟨Tryz.f142,([0,2].map some),Tryz.func142,by kernel_rfl⟩
theorem qvm:KB 179 (.go qi3):=⟨Tryz.f179,([0,1,4].map some),Tryz.func179,by kernel_rfl⟩
theorem qri:KB 165 (.go qgb):=⟨Tryz.f165,([0,2].map some),Tryz.func165,by kernel_rfl⟩
theorem qx9:KB 170 (.go qcu):=⟨Tryz.f170,([0,2].map some),Tryz.func170,by kernel_rfl⟩
theorem qna:KB 164 (.go qg6):=⟨Tryz.f164,([0,2].map some),Tryz.func164,by kernel_rfl⟩
theorem qvo:KB 189 (.go qgl):=⟨Tryz.f189,([0,1,2,43].map some),Tryz.func189,by kernel_rfl⟩
theorem qqs:KB 191 (.go qeb):=⟨Tryz.f191,([0,1,2,3].map some),Tryz.func191,by kernel_rfl⟩
theorem qvd:KB 269 (.go qe4):=⟨Tryz.f269,([0,1,4,5,7,8,9,16].map some),Tryz.func269,by kernel_rfl⟩
theorem qoe:KB 190 (.go qef):=⟨Tryz.f190,([0,1,4].map some),Tryz.func190,by kernel_rfl⟩
theorem qxm:KB 107 (.go qer):=⟨Tryz.f107,([0,2,3,4,5,6,7,8,21].map some),Tryz.func107,by kernel_rfl⟩
theorem qwb:KB 95 (.go qik):=⟨Tryz.f95,([0,1,2].map some),Tryz.func95,by kernel_rfl⟩
theorem qtl:KB 144 (.go qit):=⟨Tryz.f144,([0,2].map some),Tryz.func144,by kernel_rfl⟩
theorem qs2:KB 260 (.go qiz):=⟨Tryz.f260,([0,2,3,4,5,6,9,10,16,22,27,32,37,42].map some),Tryz.func260,by kernel_rfl⟩
theorem qqi:KB 255 (.go qcz):=⟨Tryz.f255,([0,2].map some),Tryz.func255,by kernel_rfl⟩
theorem qvk:KB 316 (.go qje):=⟨Tryz.f316,([0,1,4,5,7,8,9,16].map some),Tryz.func316,by kernel_rfl⟩
theorem qom:KB 300 (.go qdy):=⟨Tryz.f300,([0,1,4].map some),Tryz.func300,by kernel_rfl⟩
theorem qn3:KB 301 (.go qhl):=⟨Tryz.f301,([0,2].map some),Tryz.func301,by kernel_rfl⟩
theorem qms:KB 253 (.go qh5):=⟨Tryz.f253,([0,2].map some),Tryz.func253,by kernel_rfl⟩
theorem qmt:KB 261 (.go qhi):=⟨Tryz.f261,([0,1,2,5].map some),Tryz.func261,by kernel_rfl⟩
theorem qsp:KB 173 (.go qd5):=⟨Tryz.f173,([0,1,2,3,4,5,48,72,75].map some),Tryz.func173,by kernel_rfl⟩
theorem qq4:KB 315 (.go qj3):=⟨Tryz.f315,([0,1,4,5,7,8,9,16].map some),Tryz.func315,by kernel_rfl⟩
theorem qrz:KB 297 (.go qgm):=⟨Tryz.f297,([0,1,4].map some),Tryz.func297,by kernel_rfl⟩
theorem qps:KB 295 (.go qiw):=⟨Tryz.f295,([0,1,2].map some),Tryz.func295,by kernel_rfl⟩
theorem qnw:KB 256 (.go qfh):=⟨Tryz.f256,([0,1,2].map some),Tryz.func256,by kernel_rfl⟩
theorem qxh:KB 257 (.go qla):=⟨Tryz.f257,([0,2,3,4,5,6,7,12,18,22,26,30].map some),Tryz.func257,by kernel_rfl⟩
theorem qo4:KB 171 (.go qlw):=⟨Tryz.f171,([0,1,2,3,4,5,6,10,13,49,79].map some),Tryz.func171,by kernel_rfl⟩
theorem qu5:KB 314 (.go qmm):=⟨Tryz.f314,([0,1,4].map some),Tryz.func314,by kernel_rfl⟩
theorem qnx:KB 258 (.go qga):=⟨Tryz.f258,([0,1,4,5,10,12,13,14,24].map some),Tryz.func258,by kernel_rfl⟩
theorem qre:KB 259 (.go ql5):=⟨Tryz.f259,([0,1,4,5,10,12,13,14,24].map some),Tryz.func259,by kernel_rfl⟩
theorem qtr:KB 296 (.go qk9):=⟨Tryz.f296,([0,1,2,3,4,19,22,24,25,33,43].map some),Tryz.func296,by kernel_rfl⟩
theorem qxs:KB 174 (.go qi6):=⟨Tryz.f174,([0,1,2,3,4].map some),Tryz.func174,by kernel_rfl⟩
theorem qvz:KB 235 (.go qg3):=⟨Tryz.f235,([0,1,2,3,4,5,48,50,51,52,53,95].map some),Tryz.func235,by kernel_rfl⟩
theorem qqz:KB 143 (.go qml):=⟨Tryz.f143,([0,1,2,3,4,6,7,8,9,38].map some),Tryz.func143,by kernel_rfl⟩
theorem qni:KB 149 (.go qec):=⟨Tryz.f149,([0,1,2,3,5,7,10,12,13,14,15,19,20,21,22,26].map some),Tryz.func149,by kernel_rfl⟩
theorem qrv:KB 240 (.go qio):=⟨Tryz.f240,([0,1,2,3].map some),Tryz.func240,by kernel_rfl⟩
theorem qun:KB 239 (.go qeg):=⟨Tryz.f239,([0,1,4,5,7,8,9,16].map some),Tryz.func239,by kernel_rfl⟩
theorem qrm:KB 172 (.go qgw):=⟨Tryz.f172,([0,1,2,3,4].map some),Tryz.func172,by kernel_rfl⟩
theorem qty:KB 147 (.go qix):=⟨Tryz.f147,([0,1,2,3,5,6,7,8,38].map some),Tryz.func147,by kernel_rfl⟩
theorem qvy:KB 241 (.go qh7):=⟨Tryz.f241,([0,1,3,4,5,7,8,9,16].map some),Tryz.func241,by kernel_rfl⟩
theorem qqr:KB 148 (.go qf6):=⟨Tryz.f148,([0,1,3,4].map some),Tryz.func148,by kernel_rfl⟩
theorem qs0:KB 237 (.go qjj):=⟨Tryz.f237,([0,1,2].map some),Tryz.func237,by kernel_rfl⟩
theorem qol:KB 236 (.go qep):=⟨Tryz.f236,([0,1,2].map some),Tryz.func236,by kernel_rfl⟩
theorem qt6:KB 145 (.go qm6):=⟨Tryz.f145,([0,1,2,4,22,24,25,26,27,32,36].map some),Tryz.func145,by kernel_rfl⟩
theorem qrx:KB 238 (.prim (zb4 9 104)):=(zil (fn:=Tryz.f238) (r:=2) Tryz.func238 (by kernel_rfl)).toJ
theorem qti:KB 146 (.go qdt):=⟨Tryz.f146,([0,1,2,3,8].map some),Tryz.func146,by kernel_rfl⟩
theorem qny:KB 68 (.go qfj):=⟨Tryz.f68,([0,1,2,3,4,5,7,8,54,57,58,59,60,66,68,69,70,71,89].map some),Tryz.func68,by kernel_rfl⟩
theorem qtq:KB 43 (.go qil):=⟨Tryz.f43,([0,1,2,4,5,6,16].map some),Tryz.func43,by kernel_rfl⟩
theorem qy5:KB 109 (.go qdv):=⟨Tryz.f109,([0,1,2,3,4,9,14,19,24,29,34,39].map some),Tryz.func109,by kernel_rfl⟩
theorem qxf:KB 44 (.go qeu):=⟨Tryz.f44,([0,1,4,5,10,14,26].map some),Tryz.func44,by kernel_rfl⟩
theorem qy8:KB 35 (.go qi2):=⟨Tryz.f35,([0,1,2,3,4,9,14,20].map some),Tryz.func35,by kernel_rfl⟩
theorem qsz:KB 20 (.go qhp):=⟨Tryz.f20,([0,1,4,5,10,14,25].map some),Tryz.func20,by kernel_rfl⟩
theorem qqa:KB 124 (.go qdh):=⟨Tryz.f124,([0,1,4,5,10,14,25].map some),Tryz.func124,by kernel_rfl⟩
theorem qtm:KB 53 (.go qfp):=⟨Tryz.f53,([0,1,2,3,4,9,14,19,25,31,36].map some),Tryz.func53,by kernel_rfl⟩
theorem qpd:KB 282 (.go qg1):=⟨Tryz.f282,([0,1,2,3,4,9,14,20].map some),Tryz.func282,by kernel_rfl⟩
theorem qof:KB 214 (.go qj1):=⟨Tryz.f214,([0,1,4,5,10,14,26].map some),Tryz.func214,by kernel_rfl⟩
theorem qo6:KB 216 (.go qe3):=⟨Tryz.f216,([0,1,2,3,4,9,14,19,24,30,36].map some),Tryz.func216,by kernel_rfl⟩
theorem qqp:KB 215 (.go qk4):=⟨Tryz.f215,([0,1,4,5,10,14,26].map some),Tryz.func215,by kernel_rfl⟩
theorem qsc:KB 242 (.go qme):=⟨Tryz.f242,([0,1,2,3,4,9,14,19,24,30,36,42,48].map some),Tryz.func242,by kernel_rfl⟩
theorem qon:KB 150 (.go qdl):=⟨Tryz.f150,([0,1,4,5,10,14,26].map some),Tryz.func150,by kernel_rfl⟩
theorem qvb:KB 70 (.go qfa):=⟨Tryz.f70,([0,1,2,3,4,9,15].map some),Tryz.func70,by kernel_rfl⟩
theorem qso:KB 244 (.go qhj):=⟨Tryz.f244,([0,1,2,3,4,9,14,19,25].map some),Tryz.func244,by kernel_rfl⟩
theorem qq7:KB 243 (.go qlk):=⟨Tryz.f243,([0,1,4,5,10,14,26].map some),Tryz.func243,by kernel_rfl⟩
theorem qmz:KB 151 (.go qdi):=⟨Tryz.f151,([0,1,2,3,4,10,15,21,26,31,36,41,46,51].map some),Tryz.func151,by kernel_rfl⟩
theorem qwg:KB 71 (.go qgr):=⟨Tryz.f71,([0,1,4,5,10,14,26].map some),Tryz.func71,by kernel_rfl⟩
theorem qow:KB 15 (.go qkw):=⟨Tryz.f15,([0,1,2,3,4,9,15,21,27,32,37,42,47].map some),Tryz.func15,by kernel_rfl⟩
theorem qmx:KB 46 (.lend qew):=⟨Tryz.f46,([0,1,0,4,5,9].map some),Tryz.func46,by kernel_rfl⟩
theorem qsg:KB 37 (.lend ql0):=⟨Tryz.f37,([0,1,0,2,4].map some),Tryz.func37,by kernel_rfl⟩
theorem qwk:KB 23 (.lend ql3):=⟨Tryz.f23,([0,1,0,4,5,9].map some),Tryz.func23,by kernel_rfl⟩
theorem qqk:KB 99 (.lend qe7):=⟨Tryz.f99,([0,1,0,4,5,9].map some),Tryz.func99,by kernel_rfl⟩
theorem qsq:KB 125 (.lend qdp):=⟨Tryz.f125,([0,1,0,4,5,9].map some),Tryz.func125,by kernel_rfl⟩
theorem qy3:KB 126 (.lend qjv):=⟨Tryz.f126,([0,1,0,4,5,9].map some),Tryz.func126,by kernel_rfl⟩
theorem qwv:KB 192 (.lend qh0):=⟨Tryz.f192,([0,1,0,4,5,9].map some),Tryz.func192,by kernel_rfl⟩
theorem qqc:KB 110 (.lend qj8):=⟨Tryz.f110,([0,1,0,2,4].map some),Tryz.func110,by kernel_rfl⟩
theorem qod:KB 193 (.lend qi7):=⟨Tryz.f193,([0,1,0,4,5,9].map some),Tryz.func193,by kernel_rfl⟩
theorem qt0:KB 111 (.lend qd0):=⟨Tryz.f111,([0,1,0,4,5,9].map some),Tryz.func111,by kernel_rfl⟩
theorem qqu:KB 45 (.lend qkf):=⟨Tryz.f45,([0,1,0,2,4].map some),Tryz.func45,by kernel_rfl⟩
theorem qqv:KB 194 (.go qgj):=⟨Tryz.f194,([0,1,4,5,9,18,27,36,45,54,63,72].map some),Tryz.func194,by kernel_rfl⟩
theorem qwy:KB 112 (.go qkt):=⟨Tryz.f112,([0,1,2,4,10].map some),Tryz.func112,by kernel_rfl⟩
theorem qur:KB 24 (.go qin):=⟨Tryz.f24,([0,1,4,5,9,17].map some),Tryz.func24,by kernel_rfl⟩
theorem qmw:KB 127 (.go qmo):=⟨Tryz.f127,([0,1,4,5,9,19].map some),Tryz.func127,by kernel_rfl⟩
theorem qto:KB 128 (.go qj9):=⟨Tryz.f128,([0,1,4,5,9,18,27,37,47,57,69,79,87].map some),Tryz.func128,by kernel_rfl⟩
theorem qsl:KB 129 (.go qir):=⟨Tryz.f129,([0,1,4,5,9,18,27,36,45,56,65].map some),Tryz.func129,by kernel_rfl⟩
theorem qvr:KB 195 (.go qdx):=⟨Tryz.f195,([0,1,4,5,9,18,27,36,45,55,65,75,87,97,105,116,125,134].map some),Tryz.func195,by kernel_rfl⟩
theorem qpg:KB 113 (.go qe1):=⟨Tryz.f113,([0,1,2,4,10].map some),Tryz.func113,by kernel_rfl⟩
theorem quq:KB 196 (.go qfe):=⟨Tryz.f196,([0,1,4,5,9,18,27,36,46,56,66,78,88,96].map some),Tryz.func196,by kernel_rfl⟩
theorem qqy:KB 114 (.go qf7):=⟨Tryz.f114,([0,1,4,5,9,20,29,39,49,59,70,81,92,105,116,125,134,143,152,161,170,179].map some),Tryz.func114,by kernel_rfl⟩
theorem qrh:KB 47 (.go qlr):=⟨Tryz.f47,([0,1,2,4,10,16,22].map some),Tryz.func47,by kernel_rfl⟩
theorem qr0:KB 8 (.go qji):=⟨Tryz.f8,([0,1,2,4,5,6,7,8,9,10,11,12,13,14,15,16,21,26,53,58,63,82,90,93,110,115,118].map some),Tryz.func8,by kernel_rfl⟩
theorem yaa {J:Glob} {P:Program}:∀ {L:List (FuncId×Body)},(∀ p∈L,ygy J P p.1 p.2)->yba J P (fun f=>L.lookup f)
 | [],_,f,b,h=>by cases h
 | (g,c)::L,hL,f,b,h=>by
   simp only [List.lookup] at h
   split at h
   ·rename_i e
    have e:f=g:=by simpa using e
    cases h
    subst e
    exact hL _ (List.mem_cons_self ..)
   ·exact yaa (L:=L) (fun p hp=>hL p (List.mem_cons_of_mem _ hp)) f b h
theorem fm {α:Type} {p:α->Prop} {a:α} {l:List α} (h:p a) (g:∀ x∈l,p x):∀ x∈a::l,p x:=List.forall_mem_cons.2 ⟨h,g⟩
theorem fm0 {α:Type} {p:α->Prop}:∀ x∈([]:List α),p x:=fun _ h=>by cases h
theorem yvm:yba Glob.none Tryz.prog tab:=yaa (L:=tabL) (fm qnt (fm qy7 (fm qw0 (fm qr9 (fm qpa (fm qq5 (fm qru (fm qtw (fm qtj (fm qvu (fm qrk (fm qsb (fm qs3 (fm qsm (fm qug (fm qy9 (fm qtv (fm qwo (fm qxb (fm qnn (fm qu7 (fm qvn (fm qvs (fm qnv (fm qn7 (fm qnk (fm qpm (fm qux (fm qxj (fm qp4 (fm qrr (fm qvg (fm qnf (fm qxu (fm quj (fm qnd (fm qwj (fm qsd (fm qvc (fm qw5 (fm qxk (fm qve (fm qw1 (fm qy1 (fm qr2 (fm qpl (fm qnz (fm qnm (fm qwe (fm quk (fm qp0 (fm qsn (fm qx7 (fm qqf (fm qpu (fm qnq (fm qtx (fm qqd (fm qwx (fm qnl (fm qqt (fm qx2 (fm qr5 (fm qwa (fm qob (fm qx3 (fm qo8 (fm qq9 (fm qs9 (fm qua (fm qvw (fm qmy (fm qpy (fm qsy (fm qu0 (fm qsf (fm qv8 (fm qn4 (fm qor (fm qsa (fm qxy (fm qxd (fm qqw (fm qqx (fm qw9 (fm qra (fm qul (fm qwh (fm qp5 (fm qvm (fm qri (fm qx9 (fm qna (fm qvo (fm qqs (fm qvd (fm qoe (fm qxm (fm qwb (fm qtl (fm qs2 (fm qqi (fm qvk (fm qom (fm qn3 (fm qms (fm qmt (fm qsp (fm qq4 (fm qrz (fm qps (fm qnw (fm qxh (fm qo4 (fm qu5 (fm qnx (fm qre (fm qtr (fm qxs (fm qvz (fm qqz (fm qni (fm qrv (fm qun (fm qrm (fm qty (fm qvy (fm qqr (fm qs0 (fm qol (fm qt6 (fm qrx (fm qti (fm qny (fm qtq (fm qy5 (fm qxf (fm qy8 (fm qsz (fm qqa (fm qtm (fm qpd (fm qof (fm qo6 (fm qqp (fm qsc (fm qon (fm qvb (fm qso (fm qq7 (fm qmz (fm qwg (fm qow (fm qmx (fm qsg (fm qwk (fm qqk (fm qsq (fm qy3 (fm qwv (fm qqc (fm qod (fm qt0 (fm qqu (fm qqv (fm qwy (fm qur (fm qmw (fm qto (fm qsl (fm qvr (fm qpg (fm quq (fm qqy (fm qrh (fm qr0 fm0))))))))))))))))))))))))))))))))))))))))))))))))))))))))))))))))))))))))))))))))))))))))))))))))))))))))))))))))))))))))))))))))))))))))))))))))))))))))))))))))))))))))))))))))
end Go.Pm
