/- Proved: the law FnExactEnough answers true at all arguments, for every operating system that has started; no conditions beyond the row's own. -/
import Derived.Test.YtfoflieoeahhfaaGreatMq
import Derived.Test.YtfoflieoeahhfaaGreatRows
set_option linter.unusedVariables false
set_option linter.unusedSimpArgs false
namespace Go.Pm
open Go Go.Proofs
set_option maxRecDepth 1000000
theorem ydx:BodyOk Tryz.prog n_aa (.go h_aa):=⟨Tryz.f40,s_aa,Tryz.func40,by kernel_rfl⟩
theorem yhy:BodyOk Tryz.prog n_ab (.go h_ab):=⟨Tryz.f29,s_ab,Tryz.func29,by kernel_rfl⟩
theorem yft:BodyOk Tryz.prog n_ac (.go h_ac):=⟨Tryz.f115,s_ac,Tryz.func115,by kernel_rfl⟩
theorem zy0:BodyOk Tryz.prog n_ad (.go h_ad):=⟨Tryz.f116,s_ad,Tryz.func116,by kernel_rfl⟩
theorem zy1:BodyOk Tryz.prog n_ae (.go h_ae):=⟨Tryz.f48,s_ae,Tryz.func48,by kernel_rfl⟩
theorem zzs:BodyOk Tryz.prog n_af (.go h_af):=⟨Tryz.f298,s_af,Tryz.func298,by kernel_rfl⟩
theorem ydi:BodyOk Tryz.prog n_ag (.go h_ag):=⟨Tryz.f246,s_ag,Tryz.func246,by kernel_rfl⟩
theorem ye1:BodyOk Tryz.prog n_ah (.go h_ah):=⟨Tryz.f245,s_ah,Tryz.func245,by kernel_rfl⟩
theorem ygi:BodyOk Tryz.prog n_ai (.go h_ai):=⟨Tryz.f247,s_ai,Tryz.func247,by kernel_rfl⟩
theorem ygf:BodyOk Tryz.prog n_aj (.go h_aj):=⟨Tryz.f224,s_aj,Tryz.func224,by kernel_rfl⟩
theorem yjb:BodyOk Tryz.prog n_ak (.go h_ak):=⟨Tryz.f133,s_ak,Tryz.func133,by kernel_rfl⟩
theorem zzb:BodyOk Tryz.prog n_al (.go h_al):=⟨Tryz.f62,s_al,Tryz.func62,by kernel_rfl⟩
theorem yk8:BodyOk Tryz.prog n_am (.go h_am):=⟨Tryz.f226,s_am,Tryz.func226,by kernel_rfl⟩
theorem yad:BodyOk Tryz.prog n_an (.go h_an):=⟨Tryz.f225,s_an,Tryz.func225,by kernel_rfl⟩
theorem yak:BodyOk Tryz.prog n_ao (.go h_ao):=⟨Tryz.f134,s_ao,Tryz.func134,by kernel_rfl⟩
theorem ye8:BodyOk Tryz.prog n_ap (.go h_ap):=⟨Tryz.f63,s_ap,Tryz.func63,by kernel_rfl⟩
theorem ya7:BodyOk Tryz.prog n_aq (.go h_aq):=⟨Tryz.f11,s_aq,Tryz.func11,by kernel_rfl⟩
theorem zyp:BodyOk Tryz.prog n_ar (.go h_ar):=⟨Tryz.f175,s_ar,Tryz.func175,by kernel_rfl⟩
theorem yh2:BodyOk Tryz.prog n_as (.go h_as):=⟨Tryz.f90,s_as,Tryz.func90,by kernel_rfl⟩
theorem ydg:BodyOk Tryz.prog n_at (.go h_at):=⟨Tryz.f30,s_at,Tryz.func30,by kernel_rfl⟩
theorem yj6:BodyOk Tryz.prog n_au (.go h_au):=⟨Tryz.f152,s_au,Tryz.func152,by kernel_rfl⟩
theorem ydq:BodyOk Tryz.prog n_av (.go h_av):=⟨Tryz.f72,s_av,Tryz.func72,by kernel_rfl⟩
theorem yk3:BodyOk Tryz.prog n_aw (.go h_aw):=⟨Tryz.f153,s_aw,Tryz.func153,by kernel_rfl⟩
theorem ydw:BodyOk Tryz.prog n_ax (.go h_ax):=⟨Tryz.f73,s_ax,Tryz.func73,by kernel_rfl⟩
theorem zyj:BodyOk Tryz.prog n_ay (.go h_ay):=⟨Tryz.f154,s_ay,Tryz.func154,by kernel_rfl⟩
theorem ylf:BodyOk Tryz.prog n_az (.go h_az):=⟨Tryz.f74,s_az,Tryz.func74,by kernel_rfl⟩
theorem yg9:BodyOk Tryz.prog n_ba (.go h_ba):=⟨Tryz.f16,s_ba,Tryz.func16,by kernel_rfl⟩
theorem yib:BodyOk Tryz.prog n_bb (.go h_bb):=⟨Tryz.f105,s_bb,Tryz.func105,by kernel_rfl⟩
theorem zzx:BodyOk Tryz.prog n_bc (.go h_bc):=⟨Tryz.f42,s_bc,Tryz.func42,by kernel_rfl⟩
theorem yda:BodyOk Tryz.prog n_bd (.go h_bd):=⟨Tryz.f32,s_bd,Tryz.func32,by kernel_rfl⟩
theorem ycg:BodyOk Tryz.prog n_be (.go h_be):=⟨Tryz.f119,s_be,Tryz.func119,by kernel_rfl⟩
theorem zyb:BodyOk Tryz.prog n_bf (.go h_bf):=⟨Tryz.f120,s_bf,Tryz.func120,by kernel_rfl⟩
theorem yk1:BodyOk Tryz.prog n_bg (.go h_bg):=⟨Tryz.f50,s_bg,Tryz.func50,by kernel_rfl⟩
theorem yes:BodyOk Tryz.prog n_bh (.go h_bh):=⟨Tryz.f299,s_bh,Tryz.func299,by kernel_rfl⟩
theorem zzh:BodyOk Tryz.prog n_bi (.go h_bi):=⟨Tryz.f249,s_bi,Tryz.func249,by kernel_rfl⟩
theorem yb3:BodyOk Tryz.prog n_bj (.go h_bj):=⟨Tryz.f248,s_bj,Tryz.func248,by kernel_rfl⟩
theorem yb1:BodyOk Tryz.prog n_bk (.go h_bk):=⟨Tryz.f250,s_bk,Tryz.func250,by kernel_rfl⟩
theorem yl1:BodyOk Tryz.prog n_bl (.go h_bl):=⟨Tryz.f232,s_bl,Tryz.func232,by kernel_rfl⟩
theorem ydd:BodyOk Tryz.prog n_bm (.go h_bm):=⟨Tryz.f140,s_bm,Tryz.func140,by kernel_rfl⟩
theorem ybh:BodyOk Tryz.prog n_bn (.go h_bn):=⟨Tryz.f66,s_bn,Tryz.func66,by kernel_rfl⟩
theorem ymg:BodyOk Tryz.prog n_bo (.go h_bo):=⟨Tryz.f234,s_bo,Tryz.func234,by kernel_rfl⟩
theorem yez:BodyOk Tryz.prog n_bp (.go h_bp):=⟨Tryz.f233,s_bp,Tryz.func233,by kernel_rfl⟩
theorem ymb:BodyOk Tryz.prog n_bq (.go h_bq):=⟨Tryz.f141,s_bq,Tryz.func141,by kernel_rfl⟩
theorem yci:BodyOk Tryz.prog n_br (.go h_br):=⟨Tryz.f67,s_br,Tryz.func67,by kernel_rfl⟩
theorem yfr:BodyOk Tryz.prog n_bs (.go h_bs):=⟨Tryz.f13,s_bs,Tryz.func13,by kernel_rfl⟩
theorem yeo:BodyOk Tryz.prog n_bt (.go h_bt):=⟨Tryz.f178,s_bt,Tryz.func178,by kernel_rfl⟩
theorem zzr:BodyOk Tryz.prog n_bu (.go h_bu):=⟨Tryz.f94,s_bu,Tryz.func94,by kernel_rfl⟩
theorem ya0:BodyOk Tryz.prog n_bv (.go h_bv):=⟨Tryz.f33,s_bv,Tryz.func33,by kernel_rfl⟩
theorem ykj:BodyOk Tryz.prog n_bw (.go h_bw):=⟨Tryz.f155,s_bw,Tryz.func155,by kernel_rfl⟩
theorem ygb:BodyOk Tryz.prog n_bx (.go h_bx):=⟨Tryz.f76,s_bx,Tryz.func76,by kernel_rfl⟩
theorem yi3:BodyOk Tryz.prog n_by (.go h_by):=⟨Tryz.f156,s_by,Tryz.func156,by kernel_rfl⟩
theorem ybm:BodyOk Tryz.prog n_bz (.go h_bz):=⟨Tryz.f77,s_bz,Tryz.func77,by kernel_rfl⟩
theorem ykm:BodyOk Tryz.prog n_ca (.go h_ca):=⟨Tryz.f157,s_ca,Tryz.func157,by kernel_rfl⟩
theorem yjp:BodyOk Tryz.prog n_cb (.go h_cb):=⟨Tryz.f78,s_cb,Tryz.func78,by kernel_rfl⟩
theorem ygu:BodyOk Tryz.prog n_cc (.go h_cc):=⟨Tryz.f18,s_cc,Tryz.func18,by kernel_rfl⟩
theorem yis:BodyOk Tryz.prog n_cd (.go h_cd):=⟨Tryz.f75,s_cd,Tryz.func75,by kernel_rfl⟩
theorem yf5:BodyOk Tryz.prog n_ce (.go h_ce):=⟨Tryz.f135,s_ce,Tryz.func135,by kernel_rfl⟩
theorem ygy:BodyOk Tryz.prog n_cf (.go h_cf):=⟨Tryz.f186,s_cf,Tryz.func186,by kernel_rfl⟩
theorem yfg:BodyOk Tryz.prog n_cg (.go h_cg):=⟨Tryz.f104,s_cg,Tryz.func104,by kernel_rfl⟩
theorem zyv:BodyOk Tryz.prog n_ch (.go h_ch):=⟨Tryz.f91,s_ch,Tryz.func91,by kernel_rfl⟩
theorem yal:BodyOk Tryz.prog n_ci (.go h_ci):=⟨Tryz.f197,s_ci,Tryz.func197,by kernel_rfl⟩
theorem yhc:BodyOk Tryz.prog n_cj (.go h_cj):=⟨Tryz.f198,s_cj,Tryz.func198,by kernel_rfl⟩
theorem yd9:BodyOk Tryz.prog n_ck (.go h_ck):=⟨Tryz.f199,s_ck,Tryz.func199,by kernel_rfl⟩
theorem yhp:BodyOk Tryz.prog n_cl (.go h_cl):=⟨Tryz.f117,s_cl,Tryz.func117,by kernel_rfl⟩
theorem yiz:BodyOk Tryz.prog n_cm (.go h_cm):=⟨Tryz.f291,s_cm,Tryz.func291,by kernel_rfl⟩
theorem yg7:BodyOk Tryz.prog n_cn (.go h_cn):=⟨Tryz.f251,s_cn,Tryz.func251,by kernel_rfl⟩
theorem yfe:BodyOk Tryz.prog n_co (.go h_co):=⟨Tryz.f252,s_co,Tryz.func252,by kernel_rfl⟩
theorem yit:BodyOk Tryz.prog n_cp (.go h_cp):=⟨Tryz.f161,s_cp,Tryz.func161,by kernel_rfl⟩
theorem yee:BodyOk Tryz.prog n_cq (.go h_cq):=⟨Tryz.f293,s_cq,Tryz.func293,by kernel_rfl⟩
theorem yf7:BodyOk Tryz.prog n_cr (.go h_cr):=⟨Tryz.f292,s_cr,Tryz.func292,by kernel_rfl⟩
theorem yfk:BodyOk Tryz.prog n_cs (.go h_cs):=⟨Tryz.f163,s_cs,Tryz.func163,by kernel_rfl⟩
theorem yj9:BodyOk Tryz.prog n_ct (.go h_ct):=⟨Tryz.f227,s_ct,Tryz.func227,by kernel_rfl⟩
theorem zy2:BodyOk Tryz.prog n_cu (.go h_cu):=⟨Tryz.f136,s_cu,Tryz.func136,by kernel_rfl⟩
theorem ya1:BodyOk Tryz.prog n_cv (.go h_cv):=⟨Tryz.f139,s_cv,Tryz.func139,by kernel_rfl⟩
theorem yhx:BodyOk Tryz.prog n_cw (.go h_cw):=⟨Tryz.f230,s_cw,Tryz.func230,by kernel_rfl⟩
theorem yhw:BodyOk Tryz.prog n_cx (.go h_cx):=⟨Tryz.f294,s_cx,Tryz.func294,by kernel_rfl⟩
theorem yjh:BodyOk Tryz.prog n_cy (.go h_cy):=⟨Tryz.f231,s_cy,Tryz.func231,by kernel_rfl⟩
theorem ybl:BodyOk Tryz.prog n_cz (.go h_cz):=⟨Tryz.f138,s_cz,Tryz.func138,by kernel_rfl⟩
theorem yc9:BodyOk Tryz.prog n_da (.go h_da):=⟨Tryz.f162,s_da,Tryz.func162,by kernel_rfl⟩
theorem yb2:BodyOk Tryz.prog n_db (.go h_db):=⟨Tryz.f229,s_db,Tryz.func229,by kernel_rfl⟩
theorem ykn:BodyOk Tryz.prog n_dc (.go h_dc):=⟨Tryz.f228,s_dc,Tryz.func228,by kernel_rfl⟩
theorem yaz:BodyOk Tryz.prog n_dd (.go h_dd):=⟨Tryz.f137,s_dd,Tryz.func137,by kernel_rfl⟩
theorem yj5:BodyOk Tryz.prog n_de (.go h_de):=⟨Tryz.f65,s_de,Tryz.func65,by kernel_rfl⟩
theorem yhq:BodyOk Tryz.prog n_df (.go h_df):=⟨Tryz.f64,s_df,Tryz.func64,by kernel_rfl⟩
theorem yjj:BodyOk Tryz.prog n_dg (.go h_dg):=⟨Tryz.f12,s_dg,Tryz.func12,by kernel_rfl⟩
theorem yg1:BodyOk Tryz.prog n_dh (.go h_dh):=⟨Tryz.f25,s_dh,Tryz.func25,by kernel_rfl⟩
theorem yck:BodyOk Tryz.prog n_di (.go h_di):=⟨Tryz.f79,s_di,Tryz.func79,by kernel_rfl⟩
theorem zyr:BodyOk Tryz.prog n_dj (.go h_dj):=⟨Tryz.f142,s_dj,Tryz.func142,by kernel_rfl⟩
theorem ylw:BodyOk Tryz.prog n_dk (.go h_dk):=⟨Tryz.f179,s_dk,Tryz.func179,by kernel_rfl⟩
theorem zz8:BodyOk Tryz.prog n_dl (.go h_dl):=⟨Tryz.f165,s_dl,Tryz.func165,by kernel_rfl⟩
theorem yg0:BodyOk Tryz.prog n_dm (.go h_dm):=⟨Tryz.f170,s_dm,Tryz.func170,by kernel_rfl⟩
theorem ygd:BodyOk Tryz.prog n_dn (.go h_dn):=⟨Tryz.f164,s_dn,Tryz.func164,by kernel_rfl⟩
theorem yi0:BodyOk Tryz.prog n_do (.go h_do):=⟨Tryz.f189,s_do,Tryz.func189,by kernel_rfl⟩
theorem zzl:BodyOk Tryz.prog n_dp (.go h_dp):=⟨Tryz.f191,s_dp,Tryz.func191,by kernel_rfl⟩
theorem ygj:BodyOk Tryz.prog n_dq (.go h_dq):=⟨Tryz.f269,s_dq,Tryz.func269,by kernel_rfl⟩
theorem yjw:BodyOk Tryz.prog n_dr (.go h_dr):=⟨Tryz.f190,s_dr,Tryz.func190,by kernel_rfl⟩
theorem ydb:BodyOk Tryz.prog n_ds (.go h_ds):=⟨Tryz.f107,s_ds,Tryz.func107,by kernel_rfl⟩
theorem zz9:BodyOk Tryz.prog n_dt (.go h_dt):=⟨Tryz.f95,s_dt,Tryz.func95,by kernel_rfl⟩
theorem ydt:BodyOk Tryz.prog n_du (.go h_du):=⟨Tryz.f144,s_du,Tryz.func144,by kernel_rfl⟩
theorem zzw:BodyOk Tryz.prog n_dv (.go h_dv):=⟨Tryz.f260,s_dv,Tryz.func260,by kernel_rfl⟩
theorem ydu:BodyOk Tryz.prog n_dw (.go h_dw):=⟨Tryz.f255,s_dw,Tryz.func255,by kernel_rfl⟩
theorem ykg:BodyOk Tryz.prog n_dx (.go h_dx):=⟨Tryz.f316,s_dx,Tryz.func316,by kernel_rfl⟩
theorem zy8:BodyOk Tryz.prog n_dy (.go h_dy):=⟨Tryz.f300,s_dy,Tryz.func300,by kernel_rfl⟩
theorem yby:BodyOk Tryz.prog n_dz (.go h_dz):=⟨Tryz.f301,s_dz,Tryz.func301,by kernel_rfl⟩
theorem zzf:BodyOk Tryz.prog n_ea (.go h_ea):=⟨Tryz.f253,s_ea,Tryz.func253,by kernel_rfl⟩
theorem yja:BodyOk Tryz.prog n_eb (.go h_eb):=⟨Tryz.f261,s_eb,Tryz.func261,by kernel_rfl⟩
theorem ycx:BodyOk Tryz.prog n_ec (.go h_ec):=⟨Tryz.f173,s_ec,Tryz.func173,by kernel_rfl⟩
theorem yew:BodyOk Tryz.prog n_ed (.go h_ed):=⟨Tryz.f315,s_ed,Tryz.func315,by kernel_rfl⟩
theorem ycn:BodyOk Tryz.prog n_ee (.go h_ee):=⟨Tryz.f297,s_ee,Tryz.func297,by kernel_rfl⟩
theorem yki:BodyOk Tryz.prog n_ef (.go h_ef):=⟨Tryz.f295,s_ef,Tryz.func295,by kernel_rfl⟩
theorem zz0:BodyOk Tryz.prog n_eg (.go h_eg):=⟨Tryz.f256,s_eg,Tryz.func256,by kernel_rfl⟩
theorem yjq:BodyOk Tryz.prog n_eh (.go h_eh):=⟨Tryz.f257,s_eh,Tryz.func257,by kernel_rfl⟩
theorem ym7:BodyOk Tryz.prog n_ei (.go h_ei):=⟨Tryz.f171,s_ei,Tryz.func171,by kernel_rfl⟩
theorem yiu:BodyOk Tryz.prog n_ej (.go h_ej):=⟨Tryz.f314,s_ej,Tryz.func314,by kernel_rfl⟩
theorem zz6:BodyOk Tryz.prog n_ek (.go h_ek):=⟨Tryz.f258,s_ek,Tryz.func258,by kernel_rfl⟩
theorem yd1:BodyOk Tryz.prog n_el (.go h_el):=⟨Tryz.f259,s_el,Tryz.func259,by kernel_rfl⟩
theorem ydh:BodyOk Tryz.prog n_em (.go h_em):=⟨Tryz.f296,s_em,Tryz.func296,by kernel_rfl⟩
theorem yme:BodyOk Tryz.prog n_en (.go h_en):=⟨Tryz.f174,s_en,Tryz.func174,by kernel_rfl⟩
theorem ybk:BodyOk Tryz.prog n_eo (.go h_eo):=⟨Tryz.f235,s_eo,Tryz.func235,by kernel_rfl⟩
theorem yde:BodyOk Tryz.prog n_ep (.go h_ep):=⟨Tryz.f143,s_ep,Tryz.func143,by kernel_rfl⟩
theorem yjc:BodyOk Tryz.prog n_eq (.go h_eq):=⟨Tryz.f149,s_eq,Tryz.func149,by kernel_rfl⟩
theorem ylb:BodyOk Tryz.prog n_er (.go h_er):=⟨Tryz.f240,s_er,Tryz.func240,by kernel_rfl⟩
theorem yim:BodyOk Tryz.prog n_es (.go h_es):=⟨Tryz.f239,s_es,Tryz.func239,by kernel_rfl⟩
theorem yan:BodyOk Tryz.prog n_et (.go h_et):=⟨Tryz.f172,s_et,Tryz.func172,by kernel_rfl⟩
theorem yf4:BodyOk Tryz.prog n_eu (.go h_eu):=⟨Tryz.f147,s_eu,Tryz.func147,by kernel_rfl⟩
theorem ygk:BodyOk Tryz.prog n_ev (.go h_ev):=⟨Tryz.f241,s_ev,Tryz.func241,by kernel_rfl⟩
theorem yb6:BodyOk Tryz.prog n_ew (.go h_ew):=⟨Tryz.f148,s_ew,Tryz.func148,by kernel_rfl⟩
theorem yc5:BodyOk Tryz.prog n_ex (.go h_ex):=⟨Tryz.f237,s_ex,Tryz.func237,by kernel_rfl⟩
theorem ykx:BodyOk Tryz.prog n_ey (.go h_ey):=⟨Tryz.f236,s_ey,Tryz.func236,by kernel_rfl⟩
theorem ykq:BodyOk Tryz.prog n_ez (.go h_ez):=⟨Tryz.f145,s_ez,Tryz.func145,by kernel_rfl⟩
theorem ylk:BodyOk Tryz.prog n_fa (.prim (clonePrim 9 104)):=zrb (fn:=Tryz.f238) (r:=2) Tryz.func238 (by kernel_rfl)
theorem ygw:BodyOk Tryz.prog n_fb (.go h_fb):=⟨Tryz.f146,s_fb,Tryz.func146,by kernel_rfl⟩
theorem yco:BodyOk Tryz.prog n_fc (.go h_fc):=⟨Tryz.f68,s_fc,Tryz.func68,by kernel_rfl⟩
theorem zyc:BodyOk Tryz.prog n_fd (.go h_fd):=⟨Tryz.f69,s_fd,Tryz.func69,by kernel_rfl⟩
theorem zyz:BodyOk Tryz.prog n_fe (.go h_fe):=⟨Tryz.f14,s_fe,Tryz.func14,by kernel_rfl⟩
theorem yh7:BodyOk Tryz.prog n_ff (.go h_ff):=⟨Tryz.f26,s_ff,Tryz.func26,by kernel_rfl⟩
theorem yip:BodyOk Tryz.prog n_fg (.go h_fg):=⟨Tryz.f109,s_fg,Tryz.func109,by kernel_rfl⟩
theorem yi2:BodyOk Tryz.prog n_fh (.go h_fh):=⟨Tryz.f44,s_fh,Tryz.func44,by kernel_rfl⟩
theorem yei:BodyOk Tryz.prog n_fi (.go h_fi):=⟨Tryz.f35,s_fi,Tryz.func35,by kernel_rfl⟩
theorem ycy:BodyOk Tryz.prog n_fj (.go h_fj):=⟨Tryz.f20,s_fj,Tryz.func20,by kernel_rfl⟩
theorem ylr:BodyOk Tryz.prog n_fk (.go h_fk):=⟨Tryz.f124,s_fk,Tryz.func124,by kernel_rfl⟩
theorem ymh:BodyOk Tryz.prog n_fl (.go h_fl):=⟨Tryz.f53,s_fl,Tryz.func53,by kernel_rfl⟩
theorem yg4:BodyOk Tryz.prog n_fm (.go h_fm):=⟨Tryz.f282,s_fm,Tryz.func282,by kernel_rfl⟩
theorem yf2:BodyOk Tryz.prog n_fn (.go h_fn):=⟨Tryz.f214,s_fn,Tryz.func214,by kernel_rfl⟩
theorem yc4:BodyOk Tryz.prog n_fo (.go h_fo):=⟨Tryz.f216,s_fo,Tryz.func216,by kernel_rfl⟩
theorem yl5:BodyOk Tryz.prog n_fp (.go h_fp):=⟨Tryz.f215,s_fp,Tryz.func215,by kernel_rfl⟩
theorem yd5:BodyOk Tryz.prog n_fq (.go h_fq):=⟨Tryz.f242,s_fq,Tryz.func242,by kernel_rfl⟩
theorem yh8:BodyOk Tryz.prog n_fr (.go h_fr):=⟨Tryz.f150,s_fr,Tryz.func150,by kernel_rfl⟩
theorem yio:BodyOk Tryz.prog n_fs (.go h_fs):=⟨Tryz.f70,s_fs,Tryz.func70,by kernel_rfl⟩
theorem yc6:BodyOk Tryz.prog n_ft (.go h_ft):=⟨Tryz.f244,s_ft,Tryz.func244,by kernel_rfl⟩
theorem yc3:BodyOk Tryz.prog n_fu (.go h_fu):=⟨Tryz.f243,s_fu,Tryz.func243,by kernel_rfl⟩
theorem zzc:BodyOk Tryz.prog n_fv (.go h_fv):=⟨Tryz.f151,s_fv,Tryz.func151,by kernel_rfl⟩
theorem yd2:BodyOk Tryz.prog n_fw (.go h_fw):=⟨Tryz.f71,s_fw,Tryz.func71,by kernel_rfl⟩
theorem yag:BodyOk Tryz.prog n_fx (.go h_fx):=⟨Tryz.f15,s_fx,Tryz.func15,by kernel_rfl⟩
theorem ykl:BodyOk Tryz.prog n_fy (.go h_fy):=⟨Tryz.f183,s_fy,Tryz.func183,by kernel_rfl⟩
theorem yk4:BodyOk Tryz.prog n_fz (.go h_fz):=⟨Tryz.f98,s_fz,Tryz.func98,by kernel_rfl⟩
theorem ylj:BodyOk Tryz.prog n_ga (.go h_ga):=⟨Tryz.f36,s_ga,Tryz.func36,by kernel_rfl⟩
theorem yh6:BodyOk Tryz.prog n_gb (.go h_gb):=⟨Tryz.f158,s_gb,Tryz.func158,by kernel_rfl⟩
theorem zy5:BodyOk Tryz.prog n_gc (.go h_gc):=⟨Tryz.f80,s_gc,Tryz.func80,by kernel_rfl⟩
theorem ydk:BodyOk Tryz.prog n_gd (.go h_gd):=⟨Tryz.f123,s_gd,Tryz.func123,by kernel_rfl⟩
theorem ya8:BodyOk Tryz.prog n_ge (.go h_ge):=⟨Tryz.f52,s_ge,Tryz.func52,by kernel_rfl⟩
theorem yh0:BodyOk Tryz.prog n_gf (.go h_gf):=⟨Tryz.f159,s_gf,Tryz.func159,by kernel_rfl⟩
theorem yjz:BodyOk Tryz.prog n_gg (.go h_gg):=⟨Tryz.f81,s_gg,Tryz.func81,by kernel_rfl⟩
theorem ykv:BodyOk Tryz.prog n_gh (.go h_gh):=⟨Tryz.f21,s_gh,Tryz.func21,by kernel_rfl⟩
theorem yd4:BodyOk Tryz.prog n_gi (.go h_gi):=⟨Tryz.f5,s_gi,Tryz.func5,by kernel_rfl⟩
theorem zlp {P:Program}:∀ {L:List (FuncId × Body)},(∀ p ∈ L,BodyOk P p.1 p.2)->TabOk P (fun f=>L.lookup f)
 | [],_,f,b,h=>by cases h
 | (g,c) :: L,hL,f,b,h=>by
   simp only [List.lookup] at h
   split at h
   ·rename_i e
    have e:f=g:=by simpa using e
    cases h
    subst e
    exact hL _ (List.mem_cons_self ..)
   ·exact zlp (L:=L) (fun p hp=>hL p (List.mem_cons_of_mem _ hp)) f b h
theorem zv6:TabOk Tryz.prog tab:=zlp (L:=tabL) (List.forall_mem_cons.2 ⟨ydx,List.forall_mem_cons.2 ⟨yhy,List.forall_mem_cons.2 ⟨yft,List.forall_mem_cons.2 ⟨zy0,List.forall_mem_cons.2 ⟨zy1,List.forall_mem_cons.2 ⟨zzs,List.forall_mem_cons.2 ⟨ydi,List.forall_mem_cons.2 ⟨ye1,List.forall_mem_cons.2 ⟨ygi,List.forall_mem_cons.2 ⟨ygf,List.forall_mem_cons.2 ⟨yjb,List.forall_mem_cons.2 ⟨zzb,List.forall_mem_cons.2 ⟨yk8,List.forall_mem_cons.2 ⟨yad,List.forall_mem_cons.2 ⟨yak,List.forall_mem_cons.2 ⟨ye8,List.forall_mem_cons.2 ⟨ya7,List.forall_mem_cons.2 ⟨zyp,List.forall_mem_cons.2 ⟨yh2,List.forall_mem_cons.2 ⟨ydg,List.forall_mem_cons.2 ⟨yj6,List.forall_mem_cons.2 ⟨ydq,List.forall_mem_cons.2 ⟨yk3,List.forall_mem_cons.2 ⟨ydw,List.forall_mem_cons.2 ⟨zyj,List.forall_mem_cons.2 ⟨ylf,List.forall_mem_cons.2 ⟨yg9,List.forall_mem_cons.2 ⟨yib,List.forall_mem_cons.2 ⟨zzx,List.forall_mem_cons.2 ⟨yda,List.forall_mem_cons.2 ⟨ycg,List.forall_mem_cons.2 ⟨zyb,List.forall_mem_cons.2 ⟨yk1,List.forall_mem_cons.2 ⟨yes,List.forall_mem_cons.2 ⟨zzh,List.forall_mem_cons.2 ⟨yb3,List.forall_mem_cons.2 ⟨yb1,List.forall_mem_cons.2 ⟨yl1,List.forall_mem_cons.2 ⟨ydd,List.forall_mem_cons.2 ⟨ybh,List.forall_mem_cons.2 ⟨ymg,List.forall_mem_cons.2 ⟨yez,List.forall_mem_cons.2 ⟨ymb,List.forall_mem_cons.2 ⟨yci,List.forall_mem_cons.2 ⟨yfr,List.forall_mem_cons.2 ⟨yeo,List.forall_mem_cons.2 ⟨zzr,List.forall_mem_cons.2 ⟨ya0,List.forall_mem_cons.2 ⟨ykj,List.forall_mem_cons.2 ⟨ygb,List.forall_mem_cons.2 ⟨yi3,List.forall_mem_cons.2 ⟨ybm,List.forall_mem_cons.2 ⟨ykm,List.forall_mem_cons.2 ⟨yjp,List.forall_mem_cons.2 ⟨ygu,List.forall_mem_cons.2 ⟨yis,List.forall_mem_cons.2 ⟨yf5,List.forall_mem_cons.2 ⟨ygy,List.forall_mem_cons.2 ⟨yfg,List.forall_mem_cons.2 ⟨zyv,List.forall_mem_cons.2 ⟨yal,List.forall_mem_cons.2 ⟨yhc,List.forall_mem_cons.2 ⟨yd9,List.forall_mem_cons.2 ⟨yhp,List.forall_mem_cons.2 ⟨yiz,List.forall_mem_cons.2 ⟨yg7,List.forall_mem_cons.2 ⟨yfe,List.forall_mem_cons.2 ⟨yit,List.forall_mem_cons.2 ⟨yee,List.forall_mem_cons.2 ⟨yf7,List.forall_mem_cons.2 ⟨yfk,List.forall_mem_cons.2 ⟨yj9,List.forall_mem_cons.2 ⟨zy2,List.forall_mem_cons.2 ⟨ya1,List.forall_mem_cons.2 ⟨yhx,List.forall_mem_cons.2 ⟨yhw,List.forall_mem_cons.2 ⟨yjh,List.forall_mem_cons.2 ⟨ybl,List.forall_mem_cons.2 ⟨yc9,List.forall_mem_cons.2 ⟨yb2,List.forall_mem_cons.2 ⟨ykn,List.forall_mem_cons.2 ⟨yaz,List.forall_mem_cons.2 ⟨yj5,List.forall_mem_cons.2 ⟨yhq,List.forall_mem_cons.2 ⟨yjj,List.forall_mem_cons.2 ⟨yg1,List.forall_mem_cons.2 ⟨yck,List.forall_mem_cons.2 ⟨zyr,List.forall_mem_cons.2 ⟨ylw,List.forall_mem_cons.2 ⟨zz8,List.forall_mem_cons.2 ⟨yg0,List.forall_mem_cons.2 ⟨ygd,List.forall_mem_cons.2 ⟨yi0,List.forall_mem_cons.2 ⟨zzl,List.forall_mem_cons.2 ⟨ygj,List.forall_mem_cons.2 ⟨yjw,List.forall_mem_cons.2 ⟨ydb,List.forall_mem_cons.2 ⟨zz9,List.forall_mem_cons.2 ⟨ydt,List.forall_mem_cons.2 ⟨zzw,List.forall_mem_cons.2 ⟨ydu,List.forall_mem_cons.2 ⟨ykg,List.forall_mem_cons.2 ⟨zy8,List.forall_mem_cons.2 ⟨yby,List.forall_mem_cons.2 ⟨zzf,List.forall_mem_cons.2 ⟨yja,List.forall_mem_cons.2 ⟨ycx,List.forall_mem_cons.2 ⟨yew,List.forall_mem_cons.2 ⟨ycn,List.forall_mem_cons.2 ⟨yki,List.forall_mem_cons.2 ⟨zz0,List.forall_mem_cons.2 ⟨yjq,List.forall_mem_cons.2 ⟨ym7,List.forall_mem_cons.2 ⟨yiu,List.forall_mem_cons.2 ⟨zz6,List.forall_mem_cons.2 ⟨yd1,List.forall_mem_cons.2 ⟨ydh,List.forall_mem_cons.2 ⟨yme,List.forall_mem_cons.2 ⟨ybk,List.forall_mem_cons.2 ⟨yde,List.forall_mem_cons.2 ⟨yjc,List.forall_mem_cons.2 ⟨ylb,List.forall_mem_cons.2 ⟨yim,List.forall_mem_cons.2 ⟨yan,List.forall_mem_cons.2 ⟨yf4,List.forall_mem_cons.2 ⟨ygk,List.forall_mem_cons.2 ⟨yb6,List.forall_mem_cons.2 ⟨yc5,List.forall_mem_cons.2 ⟨ykx,List.forall_mem_cons.2 ⟨ykq,List.forall_mem_cons.2 ⟨ylk,List.forall_mem_cons.2 ⟨ygw,List.forall_mem_cons.2 ⟨yco,List.forall_mem_cons.2 ⟨zyc,List.forall_mem_cons.2 ⟨zyz,List.forall_mem_cons.2 ⟨yh7,List.forall_mem_cons.2 ⟨yip,List.forall_mem_cons.2 ⟨yi2,List.forall_mem_cons.2 ⟨yei,List.forall_mem_cons.2 ⟨ycy,List.forall_mem_cons.2 ⟨ylr,List.forall_mem_cons.2 ⟨ymh,List.forall_mem_cons.2 ⟨yg4,List.forall_mem_cons.2 ⟨yf2,List.forall_mem_cons.2 ⟨yc4,List.forall_mem_cons.2 ⟨yl5,List.forall_mem_cons.2 ⟨yd5,List.forall_mem_cons.2 ⟨yh8,List.forall_mem_cons.2 ⟨yio,List.forall_mem_cons.2 ⟨yc6,List.forall_mem_cons.2 ⟨yc3,List.forall_mem_cons.2 ⟨zzc,List.forall_mem_cons.2 ⟨yd2,List.forall_mem_cons.2 ⟨yag,List.forall_mem_cons.2 ⟨ykl,List.forall_mem_cons.2 ⟨yk4,List.forall_mem_cons.2 ⟨ylj,List.forall_mem_cons.2 ⟨yh6,List.forall_mem_cons.2 ⟨zy5,List.forall_mem_cons.2 ⟨ydk,List.forall_mem_cons.2 ⟨ya8,List.forall_mem_cons.2 ⟨yh0,List.forall_mem_cons.2 ⟨yjz,List.forall_mem_cons.2 ⟨ykv,List.forall_mem_cons.2 ⟨yd4,fun _ h=>by cases h⟩⟩⟩⟩⟩⟩⟩⟩⟩⟩⟩⟩⟩⟩⟩⟩⟩⟩⟩⟩⟩⟩⟩⟩⟩⟩⟩⟩⟩⟩⟩⟩⟩⟩⟩⟩⟩⟩⟩⟩⟩⟩⟩⟩⟩⟩⟩⟩⟩⟩⟩⟩⟩⟩⟩⟩⟩⟩⟩⟩⟩⟩⟩⟩⟩⟩⟩⟩⟩⟩⟩⟩⟩⟩⟩⟩⟩⟩⟩⟩⟩⟩⟩⟩⟩⟩⟩⟩⟩⟩⟩⟩⟩⟩⟩⟩⟩⟩⟩⟩⟩⟩⟩⟩⟩⟩⟩⟩⟩⟩⟩⟩⟩⟩⟩⟩⟩⟩⟩⟩⟩⟩⟩⟩⟩⟩⟩⟩⟩⟩⟩⟩⟩⟩⟩⟩⟩⟩⟩⟩⟩⟩⟩⟩⟩⟩⟩⟩⟩⟩⟩⟩⟩⟩⟩⟩⟩⟩⟩⟩⟩⟩⟩⟩⟩)
end Go.Pm
