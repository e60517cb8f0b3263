/- Proved: the law FnExactLoad answers true at all arguments, for every operating system that has started; no conditions beyond the row's own. -/
import Derived.Test.YtfoflieoeahhfaaGreatMq
import Derived.Test.YtfoflieoeahhfaaGreatRows
set_option linter.unusedVariables false
set_option linter.unusedSimpArgs false
namespace Go.Pm
open Go Go.Proofs
set_option maxRecDepth 1000000
theorem K_aa : BodyOk Tryz.prog n_aa (.go h_aa) := ⟨Tryz.f40, s_aa, Tryz.func40, by kernel_rfl⟩
theorem K_ab : BodyOk Tryz.prog n_ab (.go h_ab) := ⟨Tryz.f29, s_ab, Tryz.func29, by kernel_rfl⟩
theorem K_ac : BodyOk Tryz.prog n_ac (.go h_ac) := ⟨Tryz.f115, s_ac, Tryz.func115, by kernel_rfl⟩
theorem K_ad : BodyOk Tryz.prog n_ad (.go h_ad) := ⟨Tryz.f116, s_ad, Tryz.func116, by kernel_rfl⟩
theorem K_ae : BodyOk Tryz.prog n_ae (.go h_ae) := ⟨Tryz.f48, s_ae, Tryz.func48, by kernel_rfl⟩
theorem K_af : BodyOk Tryz.prog n_af (.go h_af) := ⟨Tryz.f298, s_af, Tryz.func298, by kernel_rfl⟩
theorem K_ag : BodyOk Tryz.prog n_ag (.go h_ag) := ⟨Tryz.f246, s_ag, Tryz.func246, by kernel_rfl⟩
theorem K_ah : BodyOk Tryz.prog n_ah (.go h_ah) := ⟨Tryz.f245, s_ah, Tryz.func245, by kernel_rfl⟩
theorem K_ai : BodyOk Tryz.prog n_ai (.go h_ai) := ⟨Tryz.f247, s_ai, Tryz.func247, by kernel_rfl⟩
theorem K_aj : BodyOk Tryz.prog n_aj (.go h_aj) := ⟨Tryz.f224, s_aj, Tryz.func224, by kernel_rfl⟩
theorem K_ak : BodyOk Tryz.prog n_ak (.go h_ak) := ⟨Tryz.f133, s_ak, Tryz.func133, by kernel_rfl⟩
theorem K_al : BodyOk Tryz.prog n_al (.go h_al) := ⟨Tryz.f62, s_al, Tryz.func62, by kernel_rfl⟩
theorem K_am : BodyOk Tryz.prog n_am (.go h_am) := ⟨Tryz.f226, s_am, Tryz.func226, by kernel_rfl⟩
theorem K_an : BodyOk Tryz.prog n_an (.go h_an) := ⟨Tryz.f225, s_an, Tryz.func225, by kernel_rfl⟩
theorem K_ao : BodyOk Tryz.prog n_ao (.go h_ao) := ⟨Tryz.f134, s_ao, Tryz.func134, by kernel_rfl⟩
theorem K_ap : BodyOk Tryz.prog n_ap (.go h_ap) := ⟨Tryz.f63, s_ap, Tryz.func63, by kernel_rfl⟩
theorem K_aq : BodyOk Tryz.prog n_aq (.go h_aq) := ⟨Tryz.f11, s_aq, Tryz.func11, by kernel_rfl⟩
theorem K_ar : BodyOk Tryz.prog n_ar (.go h_ar) := ⟨Tryz.f105, s_ar, Tryz.func105, by kernel_rfl⟩
theorem K_as : BodyOk Tryz.prog n_as (.go h_as) := ⟨Tryz.f42, s_as, Tryz.func42, by kernel_rfl⟩
theorem K_at : BodyOk Tryz.prog n_at (.go h_at) := ⟨Tryz.f32, s_at, Tryz.func32, by kernel_rfl⟩
theorem K_au : BodyOk Tryz.prog n_au (.go h_au) := ⟨Tryz.f119, s_au, Tryz.func119, by kernel_rfl⟩
theorem K_av : BodyOk Tryz.prog n_av (.go h_av) := ⟨Tryz.f120, s_av, Tryz.func120, by kernel_rfl⟩
theorem K_aw : BodyOk Tryz.prog n_aw (.go h_aw) := ⟨Tryz.f50, s_aw, Tryz.func50, by kernel_rfl⟩
theorem K_ax : BodyOk Tryz.prog n_ax (.go h_ax) := ⟨Tryz.f299, s_ax, Tryz.func299, by kernel_rfl⟩
theorem K_ay : BodyOk Tryz.prog n_ay (.go h_ay) := ⟨Tryz.f249, s_ay, Tryz.func249, by kernel_rfl⟩
theorem K_az : BodyOk Tryz.prog n_az (.go h_az) := ⟨Tryz.f248, s_az, Tryz.func248, by kernel_rfl⟩
theorem K_ba : BodyOk Tryz.prog n_ba (.go h_ba) := ⟨Tryz.f250, s_ba, Tryz.func250, by kernel_rfl⟩
theorem K_bb : BodyOk Tryz.prog n_bb (.go h_bb) := ⟨Tryz.f232, s_bb, Tryz.func232, by kernel_rfl⟩
theorem K_bc : BodyOk Tryz.prog n_bc (.go h_bc) := ⟨Tryz.f140, s_bc, Tryz.func140, by kernel_rfl⟩
theorem K_bd : BodyOk Tryz.prog n_bd (.go h_bd) := ⟨Tryz.f66, s_bd, Tryz.func66, by kernel_rfl⟩
theorem K_be : BodyOk Tryz.prog n_be (.go h_be) := ⟨Tryz.f234, s_be, Tryz.func234, by kernel_rfl⟩
theorem K_bf : BodyOk Tryz.prog n_bf (.go h_bf) := ⟨Tryz.f233, s_bf, Tryz.func233, by kernel_rfl⟩
theorem K_bg : BodyOk Tryz.prog n_bg (.go h_bg) := ⟨Tryz.f141, s_bg, Tryz.func141, by kernel_rfl⟩
theorem K_bh : BodyOk Tryz.prog n_bh (.go h_bh) := ⟨Tryz.f67, s_bh, Tryz.func67, by kernel_rfl⟩
theorem K_bi : BodyOk Tryz.prog n_bi (.go h_bi) := ⟨Tryz.f13, s_bi, Tryz.func13, by kernel_rfl⟩
theorem K_bj : BodyOk Tryz.prog n_bj (.go h_bj) := ⟨Tryz.f75, s_bj, Tryz.func75, by kernel_rfl⟩
theorem K_bk : BodyOk Tryz.prog n_bk (.go h_bk) := ⟨Tryz.f135, s_bk, Tryz.func135, by kernel_rfl⟩
theorem K_bl : BodyOk Tryz.prog n_bl (.go h_bl) := ⟨Tryz.f186, s_bl, Tryz.func186, by kernel_rfl⟩
theorem K_bm : BodyOk Tryz.prog n_bm (.go h_bm) := ⟨Tryz.f104, s_bm, Tryz.func104, by kernel_rfl⟩
theorem K_bn : BodyOk Tryz.prog n_bn (.go h_bn) := ⟨Tryz.f91, s_bn, Tryz.func91, by kernel_rfl⟩
theorem K_bo : BodyOk Tryz.prog n_bo (.go h_bo) := ⟨Tryz.f197, s_bo, Tryz.func197, by kernel_rfl⟩
theorem K_bp : BodyOk Tryz.prog n_bp (.go h_bp) := ⟨Tryz.f198, s_bp, Tryz.func198, by kernel_rfl⟩
theorem K_bq : BodyOk Tryz.prog n_bq (.go h_bq) := ⟨Tryz.f199, s_bq, Tryz.func199, by kernel_rfl⟩
theorem K_br : BodyOk Tryz.prog n_br (.go h_br) := ⟨Tryz.f117, s_br, Tryz.func117, by kernel_rfl⟩
theorem K_bs : BodyOk Tryz.prog n_bs (.go h_bs) := ⟨Tryz.f291, s_bs, Tryz.func291, by kernel_rfl⟩
theorem K_bt : BodyOk Tryz.prog n_bt (.go h_bt) := ⟨Tryz.f251, s_bt, Tryz.func251, by kernel_rfl⟩
theorem K_bu : BodyOk Tryz.prog n_bu (.go h_bu) := ⟨Tryz.f252, s_bu, Tryz.func252, by kernel_rfl⟩
theorem K_bv : BodyOk Tryz.prog n_bv (.go h_bv) := ⟨Tryz.f161, s_bv, Tryz.func161, by kernel_rfl⟩
theorem K_bw : BodyOk Tryz.prog n_bw (.go h_bw) := ⟨Tryz.f293, s_bw, Tryz.func293, by kernel_rfl⟩
theorem K_bx : BodyOk Tryz.prog n_bx (.go h_bx) := ⟨Tryz.f292, s_bx, Tryz.func292, by kernel_rfl⟩
theorem K_by : BodyOk Tryz.prog n_by (.go h_by) := ⟨Tryz.f163, s_by, Tryz.func163, by kernel_rfl⟩
theorem K_bz : BodyOk Tryz.prog n_bz (.go h_bz) := ⟨Tryz.f227, s_bz, Tryz.func227, by kernel_rfl⟩
theorem K_ca : BodyOk Tryz.prog n_ca (.go h_ca) := ⟨Tryz.f136, s_ca, Tryz.func136, by kernel_rfl⟩
theorem K_cb : BodyOk Tryz.prog n_cb (.go h_cb) := ⟨Tryz.f139, s_cb, Tryz.func139, by kernel_rfl⟩
theorem K_cc : BodyOk Tryz.prog n_cc (.go h_cc) := ⟨Tryz.f230, s_cc, Tryz.func230, by kernel_rfl⟩
theorem K_cd : BodyOk Tryz.prog n_cd (.go h_cd) := ⟨Tryz.f294, s_cd, Tryz.func294, by kernel_rfl⟩
theorem K_ce : BodyOk Tryz.prog n_ce (.go h_ce) := ⟨Tryz.f231, s_ce, Tryz.func231, by kernel_rfl⟩
theorem K_cf : BodyOk Tryz.prog n_cf (.go h_cf) := ⟨Tryz.f138, s_cf, Tryz.func138, by kernel_rfl⟩
theorem K_cg : BodyOk Tryz.prog n_cg (.go h_cg) := ⟨Tryz.f162, s_cg, Tryz.func162, by kernel_rfl⟩
theorem K_ch : BodyOk Tryz.prog n_ch (.go h_ch) := ⟨Tryz.f229, s_ch, Tryz.func229, by kernel_rfl⟩
theorem K_ci : BodyOk Tryz.prog n_ci (.go h_ci) := ⟨Tryz.f228, s_ci, Tryz.func228, by kernel_rfl⟩
theorem K_cj : BodyOk Tryz.prog n_cj (.go h_cj) := ⟨Tryz.f137, s_cj, Tryz.func137, by kernel_rfl⟩
theorem K_ck : BodyOk Tryz.prog n_ck (.go h_ck) := ⟨Tryz.f65, s_ck, Tryz.func65, by kernel_rfl⟩
theorem K_cl : BodyOk Tryz.prog n_cl (.go h_cl) := ⟨Tryz.f64, s_cl, Tryz.func64, by kernel_rfl⟩
theorem K_cm : BodyOk Tryz.prog n_cm (.go h_cm) := ⟨Tryz.f12, s_cm, Tryz.func12, by kernel_rfl⟩
theorem K_cn : BodyOk Tryz.prog n_cn (.go h_cn) := ⟨Tryz.f79, s_cn, Tryz.func79, by kernel_rfl⟩
theorem K_co : BodyOk Tryz.prog n_co (.go h_co) := ⟨Tryz.f142, s_co, Tryz.func142, by kernel_rfl⟩
theorem K_cp : BodyOk Tryz.prog n_cp (.go h_cp) := ⟨Tryz.f179, s_cp, Tryz.func179, by kernel_rfl⟩
theorem K_cq : BodyOk Tryz.prog n_cq (.go h_cq) := ⟨Tryz.f165, s_cq, Tryz.func165, by kernel_rfl⟩
theorem K_cr : BodyOk Tryz.prog n_cr (.go h_cr) := ⟨Tryz.f170, s_cr, Tryz.func170, by kernel_rfl⟩
theorem K_cs : BodyOk Tryz.prog n_cs (.go h_cs) := ⟨Tryz.f164, s_cs, Tryz.func164, by kernel_rfl⟩
theorem K_ct : BodyOk Tryz.prog n_ct (.go h_ct) := ⟨Tryz.f189, s_ct, Tryz.func189, by kernel_rfl⟩
theorem K_cu : BodyOk Tryz.prog n_cu (.go h_cu) := ⟨Tryz.f191, s_cu, Tryz.func191, by kernel_rfl⟩
theorem K_cv : BodyOk Tryz.prog n_cv (.go h_cv) := ⟨Tryz.f269, s_cv, Tryz.func269, by kernel_rfl⟩
theorem K_cw : BodyOk Tryz.prog n_cw (.go h_cw) := ⟨Tryz.f190, s_cw, Tryz.func190, by kernel_rfl⟩
theorem K_cx : BodyOk Tryz.prog n_cx (.go h_cx) := ⟨Tryz.f107, s_cx, Tryz.func107, by kernel_rfl⟩
theorem K_cy : BodyOk Tryz.prog n_cy (.go h_cy) := ⟨Tryz.f95, s_cy, Tryz.func95, by kernel_rfl⟩
theorem K_cz : BodyOk Tryz.prog n_cz (.go h_cz) := ⟨Tryz.f144, s_cz, Tryz.func144, by kernel_rfl⟩
theorem K_da : BodyOk Tryz.prog n_da (.go h_da) := ⟨Tryz.f260, s_da, Tryz.func260, by kernel_rfl⟩
theorem K_db : BodyOk Tryz.prog n_db (.go h_db) := ⟨Tryz.f255, s_db, Tryz.func255, by kernel_rfl⟩
theorem K_dc : BodyOk Tryz.prog n_dc (.go h_dc) := ⟨Tryz.f316, s_dc, Tryz.func316, by kernel_rfl⟩
theorem K_dd : BodyOk Tryz.prog n_dd (.go h_dd) := ⟨Tryz.f300, s_dd, Tryz.func300, by kernel_rfl⟩
theorem K_de : BodyOk Tryz.prog n_de (.go h_de) := ⟨Tryz.f301, s_de, Tryz.func301, by kernel_rfl⟩
theorem K_df : BodyOk Tryz.prog n_df (.go h_df) := ⟨Tryz.f253, s_df, Tryz.func253, by kernel_rfl⟩
theorem K_dg : BodyOk Tryz.prog n_dg (.go h_dg) := ⟨Tryz.f261, s_dg, Tryz.func261, by kernel_rfl⟩
theorem K_dh : BodyOk Tryz.prog n_dh (.go h_dh) := ⟨Tryz.f173, s_dh, Tryz.func173, by kernel_rfl⟩
theorem K_di : BodyOk Tryz.prog n_di (.go h_di) := ⟨Tryz.f315, s_di, Tryz.func315, by kernel_rfl⟩
theorem K_dj : BodyOk Tryz.prog n_dj (.go h_dj) := ⟨Tryz.f297, s_dj, Tryz.func297, by kernel_rfl⟩
theorem K_dk : BodyOk Tryz.prog n_dk (.go h_dk) := ⟨Tryz.f295, s_dk, Tryz.func295, by kernel_rfl⟩
theorem K_dl : BodyOk Tryz.prog n_dl (.go h_dl) := ⟨Tryz.f256, s_dl, Tryz.func256, by kernel_rfl⟩
theorem K_dm : BodyOk Tryz.prog n_dm (.go h_dm) := ⟨Tryz.f257, s_dm, Tryz.func257, by kernel_rfl⟩
theorem K_dn : BodyOk Tryz.prog n_dn (.go h_dn) := ⟨Tryz.f171, s_dn, Tryz.func171, by kernel_rfl⟩
theorem K_do : BodyOk Tryz.prog n_do (.go h_do) := ⟨Tryz.f314, s_do, Tryz.func314, by kernel_rfl⟩
theorem K_dp : BodyOk Tryz.prog n_dp (.go h_dp) := ⟨Tryz.f258, s_dp, Tryz.func258, by kernel_rfl⟩
theorem K_dq : BodyOk Tryz.prog n_dq (.go h_dq) := ⟨Tryz.f259, s_dq, Tryz.func259, by kernel_rfl⟩
theorem K_dr : BodyOk Tryz.prog n_dr (.go h_dr) := ⟨Tryz.f296, s_dr, Tryz.func296, by kernel_rfl⟩
theorem K_ds : BodyOk Tryz.prog n_ds (.go h_ds) := ⟨Tryz.f174, s_ds, Tryz.func174, by kernel_rfl⟩
theorem K_dt : BodyOk Tryz.prog n_dt (.go h_dt) := ⟨Tryz.f235, s_dt, Tryz.func235, by kernel_rfl⟩
theorem K_du : BodyOk Tryz.prog n_du (.go h_du) := ⟨Tryz.f143, s_du, Tryz.func143, by kernel_rfl⟩
theorem K_dv : BodyOk Tryz.prog n_dv (.go h_dv) := ⟨Tryz.f149, s_dv, Tryz.func149, by kernel_rfl⟩
theorem K_dw : BodyOk Tryz.prog n_dw (.go h_dw) := ⟨Tryz.f240, s_dw, Tryz.func240, by kernel_rfl⟩
theorem K_dx : BodyOk Tryz.prog n_dx (.go h_dx) := ⟨Tryz.f239, s_dx, Tryz.func239, by kernel_rfl⟩
theorem K_dy : BodyOk Tryz.prog n_dy (.go h_dy) := ⟨Tryz.f172, s_dy, Tryz.func172, by kernel_rfl⟩
theorem K_dz : BodyOk Tryz.prog n_dz (.go h_dz) := ⟨Tryz.f147, s_dz, Tryz.func147, by kernel_rfl⟩
theorem K_ea : BodyOk Tryz.prog n_ea (.go h_ea) := ⟨Tryz.f241, s_ea, Tryz.func241, by kernel_rfl⟩
theorem K_eb : BodyOk Tryz.prog n_eb (.go h_eb) := ⟨Tryz.f148, s_eb, Tryz.func148, by kernel_rfl⟩
theorem K_ec : BodyOk Tryz.prog n_ec (.go h_ec) := ⟨Tryz.f237, s_ec, Tryz.func237, by kernel_rfl⟩
theorem K_ed : BodyOk Tryz.prog n_ed (.go h_ed) := ⟨Tryz.f236, s_ed, Tryz.func236, by kernel_rfl⟩
theorem K_ee : BodyOk Tryz.prog n_ee (.go h_ee) := ⟨Tryz.f145, s_ee, Tryz.func145, by kernel_rfl⟩
theorem K_ef : BodyOk Tryz.prog n_ef (.prim (clonePrim 9 104)) := clone_ok (fn := Tryz.f238) (r := 2) Tryz.func238 (by kernel_rfl)
theorem K_eg : BodyOk Tryz.prog n_eg (.go h_eg) := ⟨Tryz.f146, s_eg, Tryz.func146, by kernel_rfl⟩
theorem K_eh : BodyOk Tryz.prog n_eh (.go h_eh) := ⟨Tryz.f68, s_eh, Tryz.func68, by kernel_rfl⟩
theorem K_ei : BodyOk Tryz.prog n_ei (.go h_ei) := ⟨Tryz.f69, s_ei, Tryz.func69, by kernel_rfl⟩
theorem K_ej : BodyOk Tryz.prog n_ej (.go h_ej) := ⟨Tryz.f14, s_ej, Tryz.func14, by kernel_rfl⟩
theorem K_ek : BodyOk Tryz.prog n_ek (.go h_ek) := ⟨Tryz.f109, s_ek, Tryz.func109, by kernel_rfl⟩
theorem K_el : BodyOk Tryz.prog n_el (.go h_el) := ⟨Tryz.f44, s_el, Tryz.func44, by kernel_rfl⟩
theorem K_em : BodyOk Tryz.prog n_em (.go h_em) := ⟨Tryz.f35, s_em, Tryz.func35, by kernel_rfl⟩
theorem K_en : BodyOk Tryz.prog n_en (.go h_en) := ⟨Tryz.f20, s_en, Tryz.func20, by kernel_rfl⟩
theorem K_eo : BodyOk Tryz.prog n_eo (.go h_eo) := ⟨Tryz.f124, s_eo, Tryz.func124, by kernel_rfl⟩
theorem K_ep : BodyOk Tryz.prog n_ep (.go h_ep) := ⟨Tryz.f53, s_ep, Tryz.func53, by kernel_rfl⟩
theorem K_eq : BodyOk Tryz.prog n_eq (.go h_eq) := ⟨Tryz.f282, s_eq, Tryz.func282, by kernel_rfl⟩
theorem K_er : BodyOk Tryz.prog n_er (.go h_er) := ⟨Tryz.f214, s_er, Tryz.func214, by kernel_rfl⟩
theorem K_es : BodyOk Tryz.prog n_es (.go h_es) := ⟨Tryz.f216, s_es, Tryz.func216, by kernel_rfl⟩
theorem K_et : BodyOk Tryz.prog n_et (.go h_et) := ⟨Tryz.f215, s_et, Tryz.func215, by kernel_rfl⟩
theorem K_eu : BodyOk Tryz.prog n_eu (.go h_eu) := ⟨Tryz.f242, s_eu, Tryz.func242, by kernel_rfl⟩
theorem K_ev : BodyOk Tryz.prog n_ev (.go h_ev) := ⟨Tryz.f150, s_ev, Tryz.func150, by kernel_rfl⟩
theorem K_ew : BodyOk Tryz.prog n_ew (.go h_ew) := ⟨Tryz.f70, s_ew, Tryz.func70, by kernel_rfl⟩
theorem K_ex : BodyOk Tryz.prog n_ex (.go h_ex) := ⟨Tryz.f244, s_ex, Tryz.func244, by kernel_rfl⟩
theorem K_ey : BodyOk Tryz.prog n_ey (.go h_ey) := ⟨Tryz.f243, s_ey, Tryz.func243, by kernel_rfl⟩
theorem K_ez : BodyOk Tryz.prog n_ez (.go h_ez) := ⟨Tryz.f151, s_ez, Tryz.func151, by kernel_rfl⟩
theorem K_fa : BodyOk Tryz.prog n_fa (.go h_fa) := ⟨Tryz.f71, s_fa, Tryz.func71, by kernel_rfl⟩
theorem K_fb : BodyOk Tryz.prog n_fb (.go h_fb) := ⟨Tryz.f15, s_fb, Tryz.func15, by kernel_rfl⟩
theorem K_fc : BodyOk Tryz.prog n_fc (.go h_fc) := ⟨Tryz.f3, s_fc, Tryz.func3, by kernel_rfl⟩
theorem tabOk_of {P : Program} : ∀ {L : List (FuncId × Body)}, (∀ p ∈ L, BodyOk P p.1 p.2) -> TabOk P (fun f => L.lookup f)
 | [], _, f, b, h => by cases h
 | (g, c) :: L, hL, f, b, h => by
   simp only [List.lookup] at h
   split at h
   ·rename_i e
    have e : f = g := by simpa using e
    cases h
    subst e
    exact hL _ (List.mem_cons_self ..)
   ·exact tabOk_of (L := L) (fun p hp => hL p (List.mem_cons_of_mem _ hp)) f b h
theorem tab_ok : TabOk Tryz.prog tab := tabOk_of (L := tabL) (List.forall_mem_cons.2 ⟨K_aa, List.forall_mem_cons.2 ⟨K_ab, List.forall_mem_cons.2 ⟨K_ac, List.forall_mem_cons.2 ⟨K_ad, List.forall_mem_cons.2 ⟨K_ae, List.forall_mem_cons.2 ⟨K_af, List.forall_mem_cons.2 ⟨K_ag, List.forall_mem_cons.2 ⟨K_ah, List.forall_mem_cons.2 ⟨K_ai, List.forall_mem_cons.2 ⟨K_aj, List.forall_mem_cons.2 ⟨K_ak, List.forall_mem_cons.2 ⟨K_al, List.forall_mem_cons.2 ⟨K_am, List.forall_mem_cons.2 ⟨K_an, List.forall_mem_cons.2 ⟨K_ao, List.forall_mem_cons.2 ⟨K_ap, List.forall_mem_cons.2 ⟨K_aq, List.forall_mem_cons.2 ⟨K_ar, List.forall_mem_cons.2 ⟨K_as, List.forall_mem_cons.2 ⟨K_at, List.forall_mem_cons.2 ⟨K_au, List.forall_mem_cons.2 ⟨K_av, List.forall_mem_cons.2 ⟨K_aw, List.forall_mem_cons.2 ⟨K_ax, List.forall_mem_cons.2 ⟨K_ay, List.forall_mem_cons.2 ⟨K_az, List.forall_mem_cons.2 ⟨K_ba, List.forall_mem_cons.2 ⟨K_bb, List.forall_mem_cons.2 ⟨K_bc, List.forall_mem_cons.2 ⟨K_bd, List.forall_mem_cons.2 ⟨K_be, List.forall_mem_cons.2 ⟨K_bf, List.forall_mem_cons.2 ⟨K_bg, List.forall_mem_cons.2 ⟨K_bh, List.forall_mem_cons.2 ⟨K_bi, List.forall_mem_cons.2 ⟨K_bj, List.forall_mem_cons.2 ⟨K_bk, List.forall_mem_cons.2 ⟨K_bl, List.forall_mem_cons.2 ⟨K_bm, List.forall_mem_cons.2 ⟨K_bn, List.forall_mem_cons.2 ⟨K_bo, List.forall_mem_cons.2 ⟨K_bp, List.forall_mem_cons.2 ⟨K_bq, List.forall_mem_cons.2 ⟨K_br, List.forall_mem_cons.2 ⟨K_bs, List.forall_mem_cons.2 ⟨K_bt, List.forall_mem_cons.2 ⟨K_bu, List.forall_mem_cons.2 ⟨K_bv, List.forall_mem_cons.2 ⟨K_bw, List.forall_mem_cons.2 ⟨K_bx, List.forall_mem_cons.2 ⟨K_by, List.forall_mem_cons.2 ⟨K_bz, List.forall_mem_cons.2 ⟨K_ca, List.forall_mem_cons.2 ⟨K_cb, List.forall_mem_cons.2 ⟨K_cc, List.forall_mem_cons.2 ⟨K_cd, List.forall_mem_cons.2 ⟨K_ce, List.forall_mem_cons.2 ⟨K_cf, List.forall_mem_cons.2 ⟨K_cg, List.forall_mem_cons.2 ⟨K_ch, List.forall_mem_cons.2 ⟨K_ci, List.forall_mem_cons.2 ⟨K_cj, List.forall_mem_cons.2 ⟨K_ck, List.forall_mem_cons.2 ⟨K_cl, List.forall_mem_cons.2 ⟨K_cm, List.forall_mem_cons.2 ⟨K_cn, List.forall_mem_cons.2 ⟨K_co, List.forall_mem_cons.2 ⟨K_cp, List.forall_mem_cons.2 ⟨K_cq, List.forall_mem_cons.2 ⟨K_cr, List.forall_mem_cons.2 ⟨K_cs, List.forall_mem_cons.2 ⟨K_ct, List.forall_mem_cons.2 ⟨K_cu, List.forall_mem_cons.2 ⟨K_cv, List.forall_mem_cons.2 ⟨K_cw, List.forall_mem_cons.2 ⟨K_cx, List.forall_mem_cons.2 ⟨K_cy, List.forall_mem_cons.2 ⟨K_cz, List.forall_mem_cons.2 ⟨K_da, List.forall_mem_cons.2 ⟨K_db, List.forall_mem_cons.2 ⟨K_dc, List.forall_mem_cons.2 ⟨K_dd, List.forall_mem_cons.2 ⟨K_de, List.forall_mem_cons.2 ⟨K_df, List.forall_mem_cons.2 ⟨K_dg, List.forall_mem_cons.2 ⟨K_dh, List.forall_mem_cons.2 ⟨K_di, List.forall_mem_cons.2 ⟨K_dj, List.forall_mem_cons.2 ⟨K_dk, List.forall_mem_cons.2 ⟨K_dl, List.forall_mem_cons.2 ⟨K_dm, List.forall_mem_cons.2 ⟨K_dn, List.forall_mem_cons.2 ⟨K_do, List.forall_mem_cons.2 ⟨K_dp, List.forall_mem_cons.2 ⟨K_dq, List.forall_mem_cons.2 ⟨K_dr, List.forall_mem_cons.2 ⟨K_ds, List.forall_mem_cons.2 ⟨K_dt, List.forall_mem_cons.2 ⟨K_du, List.forall_mem_cons.2 ⟨K_dv, List.forall_mem_cons.2 ⟨K_dw, List.forall_mem_cons.2 ⟨K_dx, List.forall_mem_cons.2 ⟨K_dy, List.forall_mem_cons.2 ⟨K_dz, List.forall_mem_cons.2 ⟨K_ea, List.forall_mem_cons.2 ⟨K_eb, List.forall_mem_cons.2 ⟨K_ec, List.forall_mem_cons.2 ⟨K_ed, List.forall_mem_cons.2 ⟨K_ee, List.forall_mem_cons.2 ⟨K_ef, List.forall_mem_cons.2 ⟨K_eg, List.forall_mem_cons.2 ⟨K_eh, List.forall_mem_cons.2 ⟨K_ei, List.forall_mem_cons.2 ⟨K_ej, List.forall_mem_cons.2 ⟨K_ek, List.forall_mem_cons.2 ⟨K_el, List.forall_mem_cons.2 ⟨K_em, List.forall_mem_cons.2 ⟨K_en, List.forall_mem_cons.2 ⟨K_eo, List.forall_mem_cons.2 ⟨K_ep, List.forall_mem_cons.2 ⟨K_eq, List.forall_mem_cons.2 ⟨K_er, List.forall_mem_cons.2 ⟨K_es, List.forall_mem_cons.2 ⟨K_et, List.forall_mem_cons.2 ⟨K_eu, List.forall_mem_cons.2 ⟨K_ev, List.forall_mem_cons.2 ⟨K_ew, List.forall_mem_cons.2 ⟨K_ex, List.forall_mem_cons.2 ⟨K_ey, List.forall_mem_cons.2 ⟨K_ez, List.forall_mem_cons.2 ⟨K_fa, List.forall_mem_cons.2 ⟨K_fb, List.forall_mem_cons.2 ⟨K_fc, fun _ h => by cases h⟩⟩⟩⟩⟩⟩⟩⟩⟩⟩⟩⟩⟩⟩⟩⟩⟩⟩⟩⟩⟩⟩⟩⟩⟩⟩⟩⟩⟩⟩⟩⟩⟩⟩⟩⟩⟩⟩⟩⟩⟩⟩⟩⟩⟩⟩⟩⟩⟩⟩⟩⟩⟩⟩⟩⟩⟩⟩⟩⟩⟩⟩⟩⟩⟩⟩⟩⟩⟩⟩⟩⟩⟩⟩⟩⟩⟩⟩⟩⟩⟩⟩⟩⟩⟩⟩⟩⟩⟩⟩⟩⟩⟩⟩⟩⟩⟩⟩⟩⟩⟩⟩⟩⟩⟩⟩⟩⟩⟩⟩⟩⟩⟩⟩⟩⟩⟩⟩⟩⟩⟩⟩⟩⟩⟩⟩⟩⟩⟩⟩⟩⟩⟩)
end Go.Pm
