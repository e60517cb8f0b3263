/- Proved: the law FnExactWorldOk answers true at all arguments, for every operating system that has started; no conditions beyond the row's own. -/
import Derived.Test.YtfoflieoeahhfaaGreatMq
import Derived.Test.YtfoflieoeahhfaaGreatRows
set_option linter.unusedVariables false
set_option linter.unusedSimpArgs false
namespace Go.Pm
open Go Go.Proofs
set_option maxRecDepth 1000000
theorem jj4:za5 Tryz.prog ywo (.go qie):=⟨Tryz.f40,jif,Tryz.func40,by kernel_rfl⟩
theorem jcz:za5 Tryz.prog qaf (.go qep):=⟨Tryz.f29,qtr,Tryz.func29,by kernel_rfl⟩
theorem jew:za5 Tryz.prog yz4 (.go qic):=⟨Tryz.f115,jil,Tryz.func115,by kernel_rfl⟩
theorem jhp:za5 Tryz.prog qbj (.go qi5):=⟨Tryz.f116,qzp,Tryz.func116,by kernel_rfl⟩
theorem jgw:za5 Tryz.prog qcq (.go qhk):=⟨Tryz.f48,qwq,Tryz.func48,by kernel_rfl⟩
theorem qvu:za5 Tryz.prog yzz (.go qhx):=⟨Tryz.f298,qyy,Tryz.func298,by kernel_rfl⟩
theorem qyb:za5 Tryz.prog qah (.go qgg):=⟨Tryz.f246,qxj,Tryz.func246,by kernel_rfl⟩
theorem qr2:za5 Tryz.prog qd0 (.go qfn):=⟨Tryz.f245,jhx,Tryz.func245,by kernel_rfl⟩
theorem qz0:za5 Tryz.prog ywy (.go qeg):=⟨Tryz.f247,qzi,Tryz.func247,by kernel_rfl⟩
theorem jc0:za5 Tryz.prog yxa (.go qei):=⟨Tryz.f224,jfd,Tryz.func224,by kernel_rfl⟩
theorem qqd:za5 Tryz.prog qd2 (.go qjc):=⟨Tryz.f133,qtd,Tryz.func133,by kernel_rfl⟩
theorem jem:za5 Tryz.prog qac (.go qga):=⟨Tryz.f62,qre,Tryz.func62,by kernel_rfl⟩
theorem qx2:za5 Tryz.prog qba (.go qi2):=⟨Tryz.f226,qtv,Tryz.func226,by kernel_rfl⟩
theorem qqb:za5 Tryz.prog ywz (.go qj1):=⟨Tryz.f225,qtf,Tryz.func225,by kernel_rfl⟩
theorem ji4:za5 Tryz.prog ywm (.go qf5):=⟨Tryz.f134,jjb,Tryz.func134,by kernel_rfl⟩
theorem qwh:za5 Tryz.prog yxq (.go qh6):=⟨Tryz.f63,jgb,Tryz.func63,by kernel_rfl⟩
theorem jex:za5 Tryz.prog qby (.go qfm):=⟨Tryz.f11,qrn,Tryz.func11,by kernel_rfl⟩
theorem qrj:za5 Tryz.prog yxk (.go qjy):=⟨Tryz.f175,jaf,Tryz.func175,by kernel_rfl⟩
theorem jh6:za5 Tryz.prog ywn (.go qfs):=⟨Tryz.f90,jjk,Tryz.func90,by kernel_rfl⟩
theorem qtu:za5 Tryz.prog yy1 (.go qio):=⟨Tryz.f30,jck,Tryz.func30,by kernel_rfl⟩
theorem jjt:za5 Tryz.prog yx7 (.go qji):=⟨Tryz.f152,jjo,Tryz.func152,by kernel_rfl⟩
theorem jjp:za5 Tryz.prog qd5 (.go qeb):=⟨Tryz.f72,qyq,Tryz.func72,by kernel_rfl⟩
theorem jac:za5 Tryz.prog qbe (.go qin):=⟨Tryz.f153,jby,Tryz.func153,by kernel_rfl⟩
theorem qsv:za5 Tryz.prog yz6 (.go qdw):=⟨Tryz.f73,qqo,Tryz.func73,by kernel_rfl⟩
theorem qrp:za5 Tryz.prog yve (.go qhs):=⟨Tryz.f154,jh9,Tryz.func154,by kernel_rfl⟩
theorem jfk:za5 Tryz.prog qcp (.go qen):=⟨Tryz.f74,qt3,Tryz.func74,by kernel_rfl⟩
theorem jiw:za5 Tryz.prog qce (.go qfd):=⟨Tryz.f16,jc9,Tryz.func16,by kernel_rfl⟩
theorem qx5:za5 Tryz.prog yyz (.go qef):=⟨Tryz.f105,qrt,Tryz.func105,by kernel_rfl⟩
theorem qu1:za5 Tryz.prog qae (.go qhc):=⟨Tryz.f42,qtl,Tryz.func42,by kernel_rfl⟩
theorem jg3:za5 Tryz.prog qcx (.go qha):=⟨Tryz.f32,jfn,Tryz.func32,by kernel_rfl⟩
theorem qso:za5 Tryz.prog qbl (.go qj0):=⟨Tryz.f119,quu,Tryz.func119,by kernel_rfl⟩
theorem qs9:za5 Tryz.prog yy7 (.go qiq):=⟨Tryz.f120,jhl,Tryz.func120,by kernel_rfl⟩
theorem qz5:za5 Tryz.prog yw2 (.go qjw):=⟨Tryz.f50,qy3,Tryz.func50,by kernel_rfl⟩
theorem qyp:za5 Tryz.prog qa3 (.go qfq):=⟨Tryz.f299,qui,Tryz.func299,by kernel_rfl⟩
theorem qu8:za5 Tryz.prog yvq (.go qgb):=⟨Tryz.f249,qq9,Tryz.func249,by kernel_rfl⟩
theorem qsq:za5 Tryz.prog qcl (.go qe1):=⟨Tryz.f248,qxa,Tryz.func248,by kernel_rfl⟩
theorem qpk:za5 Tryz.prog ywq (.go qjo):=⟨Tryz.f250,jbe,Tryz.func250,by kernel_rfl⟩
theorem qox:za5 Tryz.prog qap (.go qih):=⟨Tryz.f232,qxs,Tryz.func232,by kernel_rfl⟩
theorem quq:za5 Tryz.prog ywi (.go qek):=⟨Tryz.f140,jev,Tryz.func140,by kernel_rfl⟩
theorem qsw:za5 Tryz.prog yzo (.go qia):=⟨Tryz.f66,ji3,Tryz.func66,by kernel_rfl⟩
theorem qqz:za5 Tryz.prog yx0 (.go qgu):=⟨Tryz.f234,je3,Tryz.func234,by kernel_rfl⟩
theorem qse:za5 Tryz.prog qb9 (.go qi4):=⟨Tryz.f233,jhf,Tryz.func233,by kernel_rfl⟩
theorem qt2:za5 Tryz.prog qbw (.go qe5):=⟨Tryz.f141,qu2,Tryz.func141,by kernel_rfl⟩
theorem qyx:za5 Tryz.prog qaw (.go qeq):=⟨Tryz.f67,jig,Tryz.func67,by kernel_rfl⟩
theorem jdh:za5 Tryz.prog yw7 (.go qe0):=⟨Tryz.f13,quj,Tryz.func13,by kernel_rfl⟩
theorem jb2:za5 Tryz.prog qb1 (.go qec):=⟨Tryz.f178,jep,Tryz.func178,by kernel_rfl⟩
theorem qpg:za5 Tryz.prog qbc (.go qfz):=⟨Tryz.f94,qpb,Tryz.func94,by kernel_rfl⟩
theorem jiy:za5 Tryz.prog yv6 (.go qit):=⟨Tryz.f33,qyc,Tryz.func33,by kernel_rfl⟩
theorem jj2:za5 Tryz.prog yw9 (.go qde):=⟨Tryz.f155,qst,Tryz.func155,by kernel_rfl⟩
theorem jd1:za5 Tryz.prog qam (.go qfu):=⟨Tryz.f76,jhk,Tryz.func76,by kernel_rfl⟩
theorem qp8:za5 Tryz.prog qbz (.go qdi):=⟨Tryz.f156,qp4,Tryz.func156,by kernel_rfl⟩
theorem jdz:za5 Tryz.prog qa0 (.go qhm):=⟨Tryz.f77,qr8,Tryz.func77,by kernel_rfl⟩
theorem qoz:za5 Tryz.prog ywc (.go qel):=⟨Tryz.f157,qxl,Tryz.func157,by kernel_rfl⟩
theorem jb5:za5 Tryz.prog yyf (.go qig):=⟨Tryz.f78,ji6,Tryz.func78,by kernel_rfl⟩
theorem qyz:za5 Tryz.prog yxo (.go qhh):=⟨Tryz.f18,qz6,Tryz.func18,by kernel_rfl⟩
theorem jje:za5 Tryz.prog qcm (.go qew):=⟨Tryz.f75,qx6,Tryz.func75,by kernel_rfl⟩
theorem jfc:za5 Tryz.prog yza (.go qgf):=⟨Tryz.f135,qv7,Tryz.func135,by kernel_rfl⟩
theorem qwy:za5 Tryz.prog qbx (.go qd6):=⟨Tryz.f186,qrh,Tryz.func186,by kernel_rfl⟩
theorem jco:za5 Tryz.prog qan (.go qdk):=⟨Tryz.f104,jjq,Tryz.func104,by kernel_rfl⟩
theorem quc:za5 Tryz.prog ywj (.go qgx):=⟨Tryz.f91,qot,Tryz.func91,by kernel_rfl⟩
theorem jd2:za5 Tryz.prog yxm (.go qi8):=⟨Tryz.f197,qt0,Tryz.func197,by kernel_rfl⟩
theorem jdx:za5 Tryz.prog qcb (.go qgr):=⟨Tryz.f198,jda,Tryz.func198,by kernel_rfl⟩
theorem jdr:za5 Tryz.prog qc9 (.go qj6):=⟨Tryz.f199,qrx,Tryz.func199,by kernel_rfl⟩
theorem qxb:za5 Tryz.prog yy6 (.go qe8):=⟨Tryz.f117,jbc,Tryz.func117,by kernel_rfl⟩
theorem jh8:za5 Tryz.prog yzq (.go qes):=⟨Tryz.f291,jau,Tryz.func291,by kernel_rfl⟩
theorem quy:za5 Tryz.prog yzf (.go qhb):=⟨Tryz.f251,ja3,Tryz.func251,by kernel_rfl⟩
theorem jh2:za5 Tryz.prog yy2 (.go qgd):=⟨Tryz.f252,jde,Tryz.func252,by kernel_rfl⟩
theorem qxv:za5 Tryz.prog yyp (.go qgz):=⟨Tryz.f161,jfz,Tryz.func161,by kernel_rfl⟩
theorem jj1:za5 Tryz.prog yum (.go qfg):=⟨Tryz.f293,jjm,Tryz.func293,by kernel_rfl⟩
theorem qqt:za5 Tryz.prog qak (.go qh1):=⟨Tryz.f292,qpr,Tryz.func292,by kernel_rfl⟩
theorem qpf:za5 Tryz.prog yxt (.go qiv):=⟨Tryz.f163,jgc,Tryz.func163,by kernel_rfl⟩
theorem qxc:za5 Tryz.prog yx8 (.go qfx):=⟨Tryz.f227,qtm,Tryz.func227,by kernel_rfl⟩
theorem jga:za5 Tryz.prog qcs (.go qd7):=⟨Tryz.f136,jhw,Tryz.func136,by kernel_rfl⟩
theorem qwj:za5 Tryz.prog yvv (.go qjl):=⟨Tryz.f139,jek,Tryz.func139,by kernel_rfl⟩
theorem jeb:za5 Tryz.prog yww (.go qis):=⟨Tryz.f230,qos,Tryz.func230,by kernel_rfl⟩
theorem jfa:za5 Tryz.prog ywg (.go qem):=⟨Tryz.f294,jjd,Tryz.func294,by kernel_rfl⟩
theorem qw8:za5 Tryz.prog qc4 (.go qda):=⟨Tryz.f231,qsr,Tryz.func231,by kernel_rfl⟩
theorem jjr:za5 Tryz.prog qau (.go qgs):=⟨Tryz.f138,qt7,Tryz.func138,by kernel_rfl⟩
theorem jgm:za5 Tryz.prog qcj (.go qdl):=⟨Tryz.f162,jcy,Tryz.func162,by kernel_rfl⟩
theorem ja7:za5 Tryz.prog yxi (.go qim):=⟨Tryz.f229,jdf,Tryz.func229,by kernel_rfl⟩
theorem jfr:za5 Tryz.prog yyk (.go qdb):=⟨Tryz.f228,jiz,Tryz.func228,by kernel_rfl⟩
theorem ja6:za5 Tryz.prog qc7 (.go qh7):=⟨Tryz.f137,qu7,Tryz.func137,by kernel_rfl⟩
theorem qxm:za5 Tryz.prog qb0 (.go qgh):=⟨Tryz.f65,qta,Tryz.func65,by kernel_rfl⟩
theorem qqu:za5 Tryz.prog yxc (.go qdh):=⟨Tryz.f64,qy0,Tryz.func64,by kernel_rfl⟩
theorem jj6:za5 Tryz.prog qa8 (.go qgq):=⟨Tryz.f160,qpl,Tryz.func160,by kernel_rfl⟩
theorem jj7:za5 Tryz.prog yzp (.go qil):=⟨Tryz.f84,jcf,Tryz.func84,by kernel_rfl⟩
theorem qy8:za5 Tryz.prog yyl (.go qjg):=⟨Tryz.f85,qy5,Tryz.func85,by kernel_rfl⟩
theorem qvh:za5 Tryz.prog yvl (.go qg0):=⟨Tryz.f27,jfy,Tryz.func27,by kernel_rfl⟩
theorem jam:za5 Tryz.prog qa6 (.go qgy):=⟨Tryz.f79,jch,Tryz.func79,by kernel_rfl⟩
theorem jdb:za5 Tryz.prog yyn (.go qfa):=⟨Tryz.f142,qu6,Tryz.func142,by kernel_rfl⟩
theorem qyn:za5 Tryz.prog qa1 (.go qhl):=⟨Tryz.f179,qu4,Tryz.func179,by kernel_rfl⟩
theorem jip:za5 Tryz.prog qai (.go qfw):=⟨Tryz.f165,qwr,Tryz.func165,by kernel_rfl⟩
theorem jd9:za5 Tryz.prog qay (.go qhg):=⟨Tryz.f170,qs5,Tryz.func170,by kernel_rfl⟩
theorem qrz:za5 Tryz.prog yz1 (.go qif):=⟨Tryz.f164,jhu,Tryz.func164,by kernel_rfl⟩
theorem qx4:za5 Tryz.prog yyi (.go qfr):=⟨Tryz.f189,qv4,Tryz.func189,by kernel_rfl⟩
theorem jfu:za5 Tryz.prog yjx (.go qj2):=⟨Tryz.f191,qwf,Tryz.func191,by kernel_rfl⟩
theorem jec:za5 Tryz.prog ywd (.go qh0):=⟨Tryz.f269,jhe,Tryz.func269,by kernel_rfl⟩
theorem qp0:za5 Tryz.prog qas (.go qgl):=⟨Tryz.f190,qtn,Tryz.func190,by kernel_rfl⟩
theorem qzz:za5 Tryz.prog qa7 (.go qds):=⟨Tryz.f107,qys,Tryz.func107,by kernel_rfl⟩
theorem jat:za5 Tryz.prog yxg (.go qdx):=⟨Tryz.f95,jgr,Tryz.func95,by kernel_rfl⟩
theorem qrf:za5 Tryz.prog qd1 (.go qex):=⟨Tryz.f144,qvm,Tryz.func144,by kernel_rfl⟩
theorem jid:za5 Tryz.prog qch (.go qez):=⟨Tryz.f260,qvs,Tryz.func260,by kernel_rfl⟩
theorem jib:za5 Tryz.prog yyt (.go qfb):=⟨Tryz.f255,qyo,Tryz.func255,by kernel_rfl⟩
theorem qsb:za5 Tryz.prog yym (.go qhy):=⟨Tryz.f316,qwn,Tryz.func316,by kernel_rfl⟩
theorem jg0:za5 Tryz.prog qcv (.go qet):=⟨Tryz.f300,jfo,Tryz.func300,by kernel_rfl⟩
theorem jjh:za5 Tryz.prog yjy (.go qii):=⟨Tryz.f301,jhr,Tryz.func301,by kernel_rfl⟩
theorem jbp:za5 Tryz.prog yvj (.go qiy):=⟨Tryz.f253,jes,Tryz.func253,by kernel_rfl⟩
theorem jc8:za5 Tryz.prog yvf (.go qea):=⟨Tryz.f261,jas,Tryz.func261,by kernel_rfl⟩
theorem qum:za5 Tryz.prog yx9 (.go qiw):=⟨Tryz.f173,jhm,Tryz.func173,by kernel_rfl⟩
theorem qvn:za5 Tryz.prog qa4 (.go qdr):=⟨Tryz.f315,qsp,Tryz.func315,by kernel_rfl⟩
theorem qp2:za5 Tryz.prog yxj (.go qf7):=⟨Tryz.f297,jba,Tryz.func297,by kernel_rfl⟩
theorem jhs:za5 Tryz.prog yy4 (.go qhw):=⟨Tryz.f295,jan,Tryz.func295,by kernel_rfl⟩
theorem jdg:za5 Tryz.prog qat (.go qg2):=⟨Tryz.f256,jd6,Tryz.func256,by kernel_rfl⟩
theorem qzf:za5 Tryz.prog yur (.go qgm):=⟨Tryz.f257,jj5,Tryz.func257,by kernel_rfl⟩
theorem jiq:za5 Tryz.prog yys (.go qdt):=⟨Tryz.f171,jfj,Tryz.func171,by kernel_rfl⟩
theorem jgq:za5 Tryz.prog yv1 (.go qg5):=⟨Tryz.f314,qsj,Tryz.func314,by kernel_rfl⟩
theorem jjv:za5 Tryz.prog yvu (.go qiu):=⟨Tryz.f258,jgu,Tryz.func258,by kernel_rfl⟩
theorem ja8:za5 Tryz.prog yvz (.go qjt):=⟨Tryz.f259,qxy,Tryz.func259,by kernel_rfl⟩
theorem qr3:za5 Tryz.prog ywb (.go qf4):=⟨Tryz.f296,je1,Tryz.func296,by kernel_rfl⟩
theorem qqr:za5 Tryz.prog qc2 (.go qg4):=⟨Tryz.f174,qpq,Tryz.func174,by kernel_rfl⟩
theorem qpy:za5 Tryz.prog ywt (.go qib):=⟨Tryz.f235,qq6,Tryz.func235,by kernel_rfl⟩
theorem qri:za5 Tryz.prog yzw (.go qe9):=⟨Tryz.f143,qq0,Tryz.func143,by kernel_rfl⟩
theorem qt4:za5 Tryz.prog yup (.go qfl):=⟨Tryz.f149,qxr,Tryz.func149,by kernel_rfl⟩
theorem ji9:za5 Tryz.prog yml (.go qgo):=⟨Tryz.f240,jej,Tryz.func240,by kernel_rfl⟩
theorem jfh:za5 Tryz.prog yvi (.go qhp):=⟨Tryz.f239,jgv,Tryz.func239,by kernel_rfl⟩
theorem qtx:za5 Tryz.prog qbv (.go qh9):=⟨Tryz.f172,jh0,Tryz.func172,by kernel_rfl⟩
theorem jc1:za5 Tryz.prog yzn (.go qho):=⟨Tryz.f147,jaa,Tryz.func147,by kernel_rfl⟩
theorem jbu:za5 Tryz.prog yvg (.go qe3):=⟨Tryz.f241,qwz,Tryz.func241,by kernel_rfl⟩
theorem qwe:za5 Tryz.prog yzt (.go qf2):=⟨Tryz.f148,jgg,Tryz.func148,by kernel_rfl⟩
theorem jcq:za5 Tryz.prog yx4 (.go qfo):=⟨Tryz.f237,jft,Tryz.func237,by kernel_rfl⟩
theorem qqk:za5 Tryz.prog qb4 (.go qgw):=⟨Tryz.f236,jhh,Tryz.func236,by kernel_rfl⟩
theorem qvo:za5 Tryz.prog qc1 (.go qir):=⟨Tryz.f145,qz3,Tryz.func145,by kernel_rfl⟩
theorem qw4:za5 Tryz.prog yx3 (.prim (zdc 9 104)):=ykc (fn:=Tryz.f238) (r:=2) Tryz.func238 (by kernel_rfl)
theorem qve:za5 Tryz.prog qbs (.go qfp):=⟨Tryz.f146,jh7,Tryz.func146,by kernel_rfl⟩
theorem qrw:za5 Tryz.prog yyv (.go qiz):=⟨Tryz.f68,jhc,Tryz.func68,by kernel_rfl⟩
theorem qq7:za5 Tryz.prog qd4 (.go qdv):=⟨Tryz.f166,qpu,Tryz.func166,by kernel_rfl⟩
theorem qy7:za5 Tryz.prog yka (.go qj3):=⟨Tryz.f168,jcr,Tryz.func168,by kernel_rfl⟩
theorem jji:za5 Tryz.prog yxz (.go qe4):=⟨Tryz.f254,qrg,Tryz.func254,by kernel_rfl⟩
theorem jaz:za5 Tryz.prog yxf (.go qjp):=⟨Tryz.f167,jbo,Tryz.func167,by kernel_rfl⟩
theorem jca:za5 Tryz.prog qao (.go qdy):=⟨Tryz.f86,jb7,Tryz.func86,by kernel_rfl⟩
theorem qym:za5 Tryz.prog qb2 (.go qeo):=⟨Tryz.f169,jce,Tryz.func169,by kernel_rfl⟩
theorem ji1:za5 Tryz.prog qbm (.go qhu):=⟨Tryz.f87,qpp,Tryz.func87,by kernel_rfl⟩
theorem qx7:za5 Tryz.prog yut (.go qgv):=⟨Tryz.f89,jg5,Tryz.func89,by kernel_rfl⟩
theorem qzg:za5 Tryz.prog yjv (.go qhz):=⟨Tryz.f88,qqj,Tryz.func88,by kernel_rfl⟩
theorem qsx:za5 Tryz.prog yv5 (.go qij):=⟨Tryz.f28,qqe,Tryz.func28,by kernel_rfl⟩
theorem qsf:za5 Tryz.prog qcz (.go qer):=⟨Tryz.f109,qr6,Tryz.func109,by kernel_rfl⟩
theorem jcs:za5 Tryz.prog qbg (.go qjn):=⟨Tryz.f44,qqx,Tryz.func44,by kernel_rfl⟩
theorem qwg:za5 Tryz.prog qcu (.go qfy):=⟨Tryz.f35,qz7,Tryz.func35,by kernel_rfl⟩
theorem jdn:za5 Tryz.prog yzk (.go qjd):=⟨Tryz.f20,qvb,Tryz.func20,by kernel_rfl⟩
theorem jey:za5 Tryz.prog yvh (.go qh5):=⟨Tryz.f124,qvi,Tryz.func124,by kernel_rfl⟩
theorem jgj:za5 Tryz.prog yun (.go qfj):=⟨Tryz.f53,qw5,Tryz.func53,by kernel_rfl⟩
theorem qw2:za5 Tryz.prog qaq (.go qje):=⟨Tryz.f282,qou,Tryz.func282,by kernel_rfl⟩
theorem jjc:za5 Tryz.prog qc0 (.go qja):=⟨Tryz.f214,jcp,Tryz.func214,by kernel_rfl⟩
theorem qq1:za5 Tryz.prog qci (.go qey):=⟨Tryz.f216,qw6,Tryz.func216,by kernel_rfl⟩
theorem qsu:za5 Tryz.prog yv2 (.go qhd):=⟨Tryz.f215,jcg,Tryz.func215,by kernel_rfl⟩
theorem qtc:za5 Tryz.prog yze (.go qhn):=⟨Tryz.f242,qtj,Tryz.func242,by kernel_rfl⟩
theorem jj3:za5 Tryz.prog qbd (.go qhr):=⟨Tryz.f150,jd3,Tryz.func150,by kernel_rfl⟩
theorem qz1:za5 Tryz.prog qck (.go qjf):=⟨Tryz.f70,jj9,Tryz.func70,by kernel_rfl⟩
theorem qov:za5 Tryz.prog yv4 (.go qdm):=⟨Tryz.f244,ja5,Tryz.func244,by kernel_rfl⟩
theorem jcl:za5 Tryz.prog ywh (.go qej):=⟨Tryz.f243,qya,Tryz.func243,by kernel_rfl⟩
theorem qyf:za5 Tryz.prog qax (.go qjx):=⟨Tryz.f151,qzr,Tryz.func151,by kernel_rfl⟩
theorem qzu:za5 Tryz.prog yxw (.go qfk):=⟨Tryz.f71,qs0,Tryz.func71,by kernel_rfl⟩
theorem qxk:za5 Tryz.prog yuw (.go qgj):=⟨Tryz.f15,qx9,Tryz.func15,by kernel_rfl⟩
theorem qu9:za5 Tryz.prog yvb (.go qev):=⟨Tryz.f183,qti,Tryz.func183,by kernel_rfl⟩
theorem qqh:za5 Tryz.prog qb5 (.go qh8):=⟨Tryz.f98,qrd,Tryz.func98,by kernel_rfl⟩
theorem qwl:za5 Tryz.prog yy5 (.go qhj):=⟨Tryz.f36,jg6,Tryz.func36,by kernel_rfl⟩
theorem qq5:za5 Tryz.prog qbi (.go qdo):=⟨Tryz.f158,qs6,Tryz.func158,by kernel_rfl⟩
theorem qwp:za5 Tryz.prog yya (.go qgp):=⟨Tryz.f80,qph,Tryz.func80,by kernel_rfl⟩
theorem qzd:za5 Tryz.prog ywl (.go qjz):=⟨Tryz.f123,jbj,Tryz.func123,by kernel_rfl⟩
theorem qpo:za5 Tryz.prog yzv (.go qg1):=⟨Tryz.f52,qzs,Tryz.func52,by kernel_rfl⟩
theorem qup:za5 Tryz.prog qbb (.go qfe):=⟨Tryz.f159,qq4,Tryz.func159,by kernel_rfl⟩
theorem qs3:za5 Tryz.prog qaa (.go qi7):=⟨Tryz.f81,jfx,Tryz.func81,by kernel_rfl⟩
theorem qu3:za5 Tryz.prog yyw (.go qi1):=⟨Tryz.f21,jbw,Tryz.func21,by kernel_rfl⟩
theorem jer:za5 Tryz.prog yzi (.go qj5):=⟨Tryz.f6,jb9,Tryz.func6,by kernel_rfl⟩
theorem zxh {P:Program}:∀ {L:List (FuncId×Body)},(∀ p∈L,za5 P p.1 p.2)->ybe P (fun f=>L.lookup f)
 | [],_,f,b,h=>by cases h
 | (g,c)::L,hL,f,b,h=>by
   simp only [List.lookup] at h
   split at h
   ·rename_i e
    have e:f=g:=by simpa using e
    cases h
    subst e
    exact hL _ (List.mem_cons_self ..)
   ·exact zxh (L:=L) (fun p hp=>hL p (List.mem_cons_of_mem _ hp)) f b h
theorem fm {α:Type} {p:α->Prop} {a:α} {l:List α} (h:p a) (g:∀ x∈l,p x):∀ x∈a::l,p x:=List.forall_mem_cons.2 ⟨h,g⟩
theorem fm0 {α:Type} {p:α->Prop}:∀ x∈([]:List α),p x:=fun _ h=>by cases h
theorem ysw:ybe Tryz.prog tab:=zxh (L:=tabL) (fm jj4 (fm jcz (fm jew (fm jhp (fm jgw (fm qvu (fm qyb (fm qr2 (fm qz0 (fm jc0 (fm qqd (fm jem (fm qx2 (fm qqb (fm ji4 (fm qwh (fm jex (fm qrj (fm jh6 (fm qtu (fm jjt (fm jjp (fm jac (fm qsv (fm qrp (fm jfk (fm jiw (fm qx5 (fm qu1 (fm jg3 (fm qso (fm qs9 (fm qz5 (fm qyp (fm qu8 (fm qsq (fm qpk (fm qox (fm quq (fm qsw (fm qqz (fm qse (fm qt2 (fm qyx (fm jdh (fm jb2 (fm qpg (fm jiy (fm jj2 (fm jd1 (fm qp8 (fm jdz (fm qoz (fm jb5 (fm qyz (fm jje (fm jfc (fm qwy (fm jco (fm quc (fm jd2 (fm jdx (fm jdr (fm qxb (fm jh8 (fm quy (fm jh2 (fm qxv (fm jj1 (fm qqt (fm qpf (fm qxc (fm jga (fm qwj (fm jeb (fm jfa (fm qw8 (fm jjr (fm jgm (fm ja7 (fm jfr (fm ja6 (fm qxm (fm qqu (fm jj6 (fm jj7 (fm qy8 (fm qvh (fm jam (fm jdb (fm qyn (fm jip (fm jd9 (fm qrz (fm qx4 (fm jfu (fm jec (fm qp0 (fm qzz (fm jat (fm qrf (fm jid (fm jib (fm qsb (fm jg0 (fm jjh (fm jbp (fm jc8 (fm qum (fm qvn (fm qp2 (fm jhs (fm jdg (fm qzf (fm jiq (fm jgq (fm jjv (fm ja8 (fm qr3 (fm qqr (fm qpy (fm qri (fm qt4 (fm ji9 (fm jfh (fm qtx (fm jc1 (fm jbu (fm qwe (fm jcq (fm qqk (fm qvo (fm qw4 (fm qve (fm qrw (fm qq7 (fm qy7 (fm jji (fm jaz (fm jca (fm qym (fm ji1 (fm qx7 (fm qzg (fm qsx (fm qsf (fm jcs (fm qwg (fm jdn (fm jey (fm jgj (fm qw2 (fm jjc (fm qq1 (fm qsu (fm qtc (fm jj3 (fm qz1 (fm qov (fm jcl (fm qyf (fm qzu (fm qxk (fm qu9 (fm qqh (fm qwl (fm qq5 (fm qwp (fm qzd (fm qpo (fm qup (fm qs3 (fm qu3 (fm jer fm0))))))))))))))))))))))))))))))))))))))))))))))))))))))))))))))))))))))))))))))))))))))))))))))))))))))))))))))))))))))))))))))))))))))))))))))))))))))))))))))))))))))))))))))
end Go.Pm
