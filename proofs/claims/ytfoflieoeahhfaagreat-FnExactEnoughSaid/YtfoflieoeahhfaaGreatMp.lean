/- Proved: the law FnExactEnough answers true at all arguments, for every operating system that has started; no conditions beyond the row's own. -/
import Derived.Test.YtfoflieoeahhfaaGreatMo
set_option linter.unusedVariables false
set_option linter.unusedSimpArgs false
namespace Go.Pm
set_option maxRecDepth 100000
set_option maxHeartbeats 400000
def x_cv_L2 (v1:To) (v27:Int) (s:Int × Int):Option ((Int × Int)):=loopN (b_cv_L2 v1 v27) BIG s
def L_cv_L2 (v1:To) (v27:Int) (s:Int × Int):Lct:=⟨9,l_cv_0,1,[0,2,6,7,8],some (J_cv_L2 v1 v27 s),Int × Int,x_cv_L2 v1 v27 s,q0_cv_L2 v1 v27⟩
theorem zt4 {v1:To} {v27:Int} {s:Int × Int}:(L_cv_L2 v1 v27 s).ok tab:=zc2 (zg1 (J:=J_cv_L2 v1 v27) (o:=(q0_cv_L2 v1 v27)) (B:=fun(s:Int × Int)=>(.guard (0 <= v27) inferInstance<|.lookA Tb.i v1.fj (v27.toNat) fun v69=>.lenA V.bool v69.ft<|.br (decide (s.2 < (v69.ft.length:Int))) (.guard (0 <= v27) inferInstance<|.lkX Tb.i v1.fj (v27.toNat) v69<|.guard (0 <= s.2) inferInstance<|.lookA V.bool v69.ft (s.2.toNat) fun v72=>.br (!v72) (.lfA (u_cv_L2 v1 v27) (.inl ((IntKind.i64.wrap (s.1 + 1)),(IntKind.i64.wrap (s.2 + 1)))))<|.lfA (u_cv_L2 v1 v27) (.inl (s.1,(IntKind.i64.wrap (s.2 + 1)))))<|.lfA (u_cv_L2 v1 v27) (.inr (s.1,s.2)):Tree ((Int × Int) ⊕ ((Int × Int))) _)) (fun s=>by kernel_rfl) (fun s=>gU<|⟨zbu _ _ _,fun v69 h70=>lA<|bR (gU<|⟨zav _ h70,gU<|kA fun v72=>bR (rfl)<|rfl⟩)<|rfl⟩) (fun _=>rfl) (by kernel_rfl) BIG s)
def J_cv_L1 (v1:To) (k:Int) (s:Int):St:=⟨sv 9 [(1,.ref (.box 0) 0 []),(3,.I s),(4,.I k)],[[.I v1.fu,.imm 13 (v1.fj.map Tb.i)]]⟩
def q0_cv_L1 (v1:To):(Int × Int)->Ex × St:=fun p=>((.exit 0),⟨sv 9 [(1,.ref (.box 0) 0 []),(3,.I p.1),(4,.I p.2),(6,.bool false)],[[.I v1.fu,.imm 13 (v1.fj.map Tb.i)]]⟩)
def u_cv_L1 (v1:To) (k:Int):=outL (J_cv_L1 v1 k) (q0_cv_L1 v1)
def b_cv_L1 (v1:To) (k:Int) (x:Tb) (s:Int):Option ((Int) ⊕ ((Int × Int))):=(x_cu v1).bind fun v53=>(bif v53 then((x_cv_L2 v1 k (s,0)).bind fun v75=>(some (.inl v75.1))) else(some (.inr (s,k))))
def e_cv_L1 (v1:To) (s:Int):Option ((Int × Int)):=some ((s,(v1.fj.length:Int)))
def x_cv_L1 (v1:To) (s:Int):Option ((Int × Int)):=if v1.fj.length <= 9223372036854775806 then listN (b_cv_L1 v1) (e_cv_L1 v1) v1.fj 0 s else none
def L_cv_L1 (v1:To) (s:Int):Lct:=⟨9,l_cv_1,1,[0,2,5,6,7,8],some (J_cv_L1 v1 0 s),Int × Int,x_cv_L1 v1 s,q0_cv_L1 v1⟩
theorem zub {v1:To} {s:Int}:(L_cv_L1 v1 s).ok tab:=zc2 (za6 (J:=J_cv_L1 v1) (o:=(q0_cv_L1 v1)) v1.fj (B:=fun(k:Int) (x:Tb) (s:Int)=>(.lenA Tb.i v1.fj<|.kb (decide (k < (v1.fj.length:Int))) true<|.callF (C_cu v1) fun(v53:Bool)=>.br v53 (.lp (L_cv_L2 v1 k (s,0)) fun(v75:Int × Int)=>.lfA (u_cv_L1 v1 (IntKind.i64.wrap (k + 1))) (.inl v75.1))<|.lfA (u_cv_L1 v1 (IntKind.i64.wrap (k + 1))) (.inr (s,k)):Tree ((Int) ⊕ ((Int × Int))) _)) (E:=fun(s:Int)=>(.lenA Tb.i v1.fj<|.kb (decide ((v1.fj.length:Int) < (v1.fj.length:Int))) false<|.lfA (u_cv_L1 v1 0) (.inr (s,(v1.fj.length:Int))):Tree ((Int) ⊕ ((Int × Int))) _)) (fun k x s=>by kernel_rfl) (fun d x t s he=>lA<|⟨ltX he,cF zx2 fun v53=>bR (lP zt4 fun v75=>rfl)<|rfl⟩) (fun _=>rfl) (fun s=>by kernel_rfl) (fun s=>lA<|⟨ltE _,rfl⟩) (by kernel_rfl) (by kernel_rfl) s)
def x_cv (v1:To):Option Int:=(x_cv_L1 v1 0).bind fun v76=>(some v76.1)
def C_cv (v1:To):Ctr:=⟨n_cv,[.agg [.I v1.fu,.imm 13 (v1.fj.map Tb.i)]],[],Int,x_cv v1,rI⟩
theorem zze {v1:To}:(C_cv v1).okF tab:=fun r hr=>⟨za1 yk0 rfl (.lp (L_cv_L1 v1 0) fun(v76:Int × Int)=>.lfA rI v76.1:Tree Int _) (by kernel_rfl) (by kernel_rfl) (lP zub fun v76=>rfl) hr,rfl,rfl⟩
def J_df_L3 (v1:Tn) (v86:Int) (v179:List Ta) (v207:List Ta) (v208:Int) (k:Int) (s:Unit):St:=⟨sv 15 [(1,.ref (.box 0) 0 []),(3,.own 9 (v207.map Ta.i)),(4,.I v86),(5,.own 9 (v179.map Ta.i)),(6,.I v208),(7,.I k)],[[.I v1.fan,.I v1.fp.fad,.I v1.fp.fac,.imm 7 (v1.fp.faf.map Td.i),.I v1.fo.fu,.imm 13 (v1.fo.fj.map Tb.i),.imm 17 (v1.fr.map Tc.i),.I v1.fal,.I v1.fao,.I v1.fam,.I v1.fap]]⟩
def q0_df_L3 (v1:Tn) (v86:Int) (v179:List Ta) (v207:List Ta) (v208:Int):Int->Ex × St:=fun p=>(.ret,⟨sv 15 [(1,.ref (.box 0) 0 []),(2,.bool false),(3,.own 9 (v207.map Ta.i)),(4,.I v86),(5,.own 9 (v179.map Ta.i)),(6,.I v208),(7,.I p),(12,.bool true),(13,.bool true)],[[.I v1.fan,.I v1.fp.fad,.I v1.fp.fac,.imm 7 (v1.fp.faf.map Td.i),.I v1.fo.fu,.imm 13 (v1.fo.fj.map Tb.i),.imm 17 (v1.fr.map Tc.i),.I v1.fal,.I v1.fao,.I v1.fam,.I v1.fap]]⟩)
def q1_df_L3 (v1:Tn) (v86:Int) (v179:List Ta) (v207:List Ta) (v208:Int):Unit->Ex × St:=fun p=>((.exit 4),⟨sv 15 [(1,.ref (.box 0) 0 []),(3,.own 9 (v207.map Ta.i)),(4,.I v86),(5,.own 9 (v179.map Ta.i)),(6,.I v208),(7,.I (v207.length:Int)),(12,.bool false)],[[.I v1.fan,.I v1.fp.fad,.I v1.fp.fac,.imm 7 (v1.fp.faf.map Td.i),.I v1.fo.fu,.imm 13 (v1.fo.fj.map Tb.i),.imm 17 (v1.fr.map Tc.i),.I v1.fal,.I v1.fao,.I v1.fam,.I v1.fap]]⟩)
def u_df_L3 (v1:Tn) (v86:Int) (v179:List Ta) (v207:List Ta) (v208:Int) (k:Int):=outL (J_df_L3 v1 v86 v179 v207 v208 k) (Sum.elim (q0_df_L3 v1 v86 v179 v207 v208) (q1_df_L3 v1 v86 v179 v207 v208))
def b_df_L3 (v1:Tn) (v86:Int) (v179:List Ta) (v207:List Ta) (v208:Int) (k:Int) (x:Ta) (s:Unit):Option ((Unit) ⊕ (Int ⊕ Unit)):=if 0 <= k/\(k:Int) < (((v207.map Ta.i).length - 0:Nat):Int) then(if 0 <= v208/\(v208:Int) < (((v179.map Ta.i).length - 0:Nat):Int) then(((v179)[v208.toNat]?).bind fun v253=>(bif decide (x.fk=v253.fk) then(if 0 <= k/\(k:Int) < (((v207.map Ta.i).length - 0:Nat):Int) then(if 0 <= v208/\(v208:Int) < (((v179.map Ta.i).length - 0:Nat):Int) then(bif decide (x.fq=v253.fq) then(some (.inr (.inl k))) else(some (.inl ()))) else none) else none) else(some (.inl ())))) else none) else none
def e_df_L3 (v1:Tn) (v86:Int) (v179:List Ta) (v207:List Ta) (v208:Int) (s:Unit):Option (Int ⊕ Unit):=some ((.inr ()))
def x_df_L3 (v1:Tn) (v86:Int) (v179:List Ta) (v207:List Ta) (v208:Int) (s:Unit):Option (Int ⊕ Unit):=if v207.length <= 9223372036854775806 then listN (b_df_L3 v1 v86 v179 v207 v208) (e_df_L3 v1 v86 v179 v207 v208) v207 0 s else none
def L_df_L3 (v1:Tn) (v86:Int) (v179:List Ta) (v207:List Ta) (v208:Int) (s:Unit):Lc2:=⟨15,l_df_0,1,[0,2,8,9,10,11,12,13,14],some (J_df_L3 v1 v86 v179 v207 v208 0 s),Int,Unit,x_df_L3 v1 v86 v179 v207 v208 s,q0_df_L3 v1 v86 v179 v207 v208,q1_df_L3 v1 v86 v179 v207 v208⟩
theorem zuk {v1:Tn} {v86:Int} {v179:List Ta} {v207:List Ta} {v208:Int} {s:Unit}:(L_df_L3 v1 v86 v179 v207 v208 s).ok tab:=zao (za6 (J:=J_df_L3 v1 v86 v179 v207 v208) (o:=(Sum.elim (q0_df_L3 v1 v86 v179 v207 v208) (q1_df_L3 v1 v86 v179 v207 v208))) v207 (B:=fun(k:Int) (x:Ta) (s:Unit)=>(.lenB Ta.i v207<|.kb (decide (k < (v207.length:Int))) true<|.guard (0 <= k/\(k:Int) < (((v207.map Ta.i).length - 0:Nat):Int)) inferInstance<|.lkY Ta.i v207 (k.toNat) x<|.guard (0 <= v208/\(v208:Int) < (((v179.map Ta.i).length - 0:Nat):Int)) inferInstance<|.lookB Ta.i v179 (v208.toNat) fun v253=>.br (decide (x.fk=v253.fk)) (.guard (0 <= k/\(k:Int) < (((v207.map Ta.i).length - 0:Nat):Int)) inferInstance<|.lkY Ta.i v207 (k.toNat) x<|.guard (0 <= v208/\(v208:Int) < (((v179.map Ta.i).length - 0:Nat):Int)) inferInstance<|.lkY Ta.i v179 (v208.toNat) v253<|.br (decide (x.fq=v253.fq)) (.lfA (u_df_L3 v1 v86 v179 v207 v208 (IntKind.i64.wrap (k + 1))) (.inr (.inl k)))<|.lfA (u_df_L3 v1 v86 v179 v207 v208 (IntKind.i64.wrap (k + 1))) (.inl ()))<|.lfA (u_df_L3 v1 v86 v179 v207 v208 (IntKind.i64.wrap (k + 1))) (.inl ()):Tree ((Unit) ⊕ (Int ⊕ Unit)) _)) (E:=fun(s:Unit)=>(.lenB Ta.i v207<|.kb (decide ((v207.length:Int) < (v207.length:Int))) false<|.lfA (u_df_L3 v1 v86 v179 v207 v208 0) (.inr (.inr ())):Tree ((Unit) ⊕ (Int ⊕ Unit)) _)) (fun k x s=>by kernel_rfl) (fun d x t s he=>lB<|⟨ltX he,gU<|⟨zez Ta.i he,gU<|⟨za4 _ _ _,fun v253 h254=>bR (gU<|⟨zez Ta.i he,gU<|⟨za0 _ h254,bR (rfl)<|rfl⟩⟩)<|rfl⟩⟩⟩) (ho2 (fun _=>rfl) fun _=>rfl) (fun s=>by kernel_rfl) (fun s=>lB<|⟨ltE _,rfl⟩) (by kernel_rfl) (by kernel_rfl) s)
def J_df_L2 (v1:Tn) (v86:Int) (v179:List Ta) (k:Int) (s:List Ta):St:=⟨sv 15 [(1,.ref (.box 0) 0 []),(3,.own 9 (s.map Ta.i)),(4,.I v86),(5,.own 9 (v179.map Ta.i)),(6,.I k)],[[.I v1.fan,.I v1.fp.fad,.I v1.fp.fac,.imm 7 (v1.fp.faf.map Td.i),.I v1.fo.fu,.imm 13 (v1.fo.fj.map Tb.i),.imm 17 (v1.fr.map Tc.i),.I v1.fal,.I v1.fao,.I v1.fam,.I v1.fap]]⟩
def q0_df_L2 (v1:Tn) (v86:Int) (v179:List Ta):(List Ta × Int × Int × Bool × V × V)->Ex × St:=fun p=>(.ret,⟨sv 15 [(1,.ref (.box 0) 0 []),(2,.bool false),(3,.own 9 (p.1.map Ta.i)),(4,.I v86),(5,.own 9 (v179.map Ta.i)),(6,.I p.2.1),(7,.I p.2.2.1),(12,.bool p.2.2.2.1),(13,p.2.2.2.2.1),(14,p.2.2.2.2.2)],[[.I v1.fan,.I v1.fp.fad,.I v1.fp.fac,.imm 7 (v1.fp.faf.map Td.i),.I v1.fo.fu,.imm 13 (v1.fo.fj.map Tb.i),.imm 17 (v1.fr.map Tc.i),.I v1.fal,.I v1.fao,.I v1.fam,.I v1.fap]]⟩)
def q1_df_L2 (v1:Tn) (v86:Int) (v179:List Ta):(List Ta)->Ex × St:=fun p=>((.exit 2),⟨sv 15 [(1,.ref (.box 0) 0 []),(3,.own 9 (p.map Ta.i)),(4,.I v86),(5,.own 9 (v179.map Ta.i)),(6,.I (v179.length:Int)),(11,.bool false)],[[.I v1.fan,.I v1.fp.fad,.I v1.fp.fac,.imm 7 (v1.fp.faf.map Td.i),.I v1.fo.fu,.imm 13 (v1.fo.fj.map Tb.i),.imm 17 (v1.fr.map Tc.i),.I v1.fal,.I v1.fao,.I v1.fam,.I v1.fap]]⟩)
def u_df_L2 (v1:Tn) (v86:Int) (v179:List Ta) (k:Int):=outL (J_df_L2 v1 v86 v179 k) (Sum.elim (q0_df_L2 v1 v86 v179) (q1_df_L2 v1 v86 v179))
def b_df_L2 (v1:Tn) (v86:Int) (v179:List Ta) (k:Int) (x:Ta) (s:List Ta):Option ((List Ta) ⊕ ((List Ta × Int × Int × Bool × V × V) ⊕ (List Ta))):=(x_df_L3 v1 v86 v179 s k ()).bind (sel2 (fun (v257:Int)=>(some (.inr (.inl (s,k,v257,true,(.bool true:V),(.gone:V)))))) (fun (v258:Unit)=>(if 0 <= k/\(k:Int) < (((v179.map Ta.i).length - 0:Nat):Int) then((x_cz v1 v86 x).bind fun v259=>(bif !v259 then(some (.inr (.inl (s,k,(s.length:Int),false,(.gone:V),(.bool true:V))))) else(if 0 <= k/\(k:Int) < (((v179.map Ta.i).length - 0:Nat):Int) then(if ((s.map Ta.i).length + (([x]:List Ta).map Ta.i).length) * 104 <= 70368744177664 then(some (.inl (s ++ ([x]:List Ta)))) else none) else none))) else none)))
def e_df_L2 (v1:Tn) (v86:Int) (v179:List Ta) (s:List Ta):Option ((List Ta × Int × Int × Bool × V × V) ⊕ (List Ta)):=some ((.inr s))
def x_df_L2 (v1:Tn) (v86:Int) (v179:List Ta) (s:List Ta):Option ((List Ta × Int × Int × Bool × V × V) ⊕ (List Ta)):=if v179.length <= 9223372036854775806 then listN (b_df_L2 v1 v86 v179) (e_df_L2 v1 v86 v179) v179 0 s else none
def L_df_L2 (v1:Tn) (v86:Int) (v179:List Ta) (s:List Ta):Lc2:=⟨15,l_df_1,1,[0,2,7,8,9,10,11,12,13,14],some (J_df_L2 v1 v86 v179 0 s),List Ta × Int × Int × Bool × V × V,List Ta,x_df_L2 v1 v86 v179 s,q0_df_L2 v1 v86 v179,q1_df_L2 v1 v86 v179⟩
theorem zt3 {v1:Tn} {v86:Int} {v179:List Ta} {s:List Ta}:(L_df_L2 v1 v86 v179 s).ok tab:=zao (za6 (J:=J_df_L2 v1 v86 v179) (o:=(Sum.elim (q0_df_L2 v1 v86 v179) (q1_df_L2 v1 v86 v179))) v179 (B:=fun(k:Int) (x:Ta) (s:List Ta)=>(.lenB Ta.i v179<|.kb (decide (k < (v179.length:Int))) true<|.lp2 (L_df_L3 v1 v86 v179 s k ()) (fun (v257:Int)=>.lfA (u_df_L2 v1 v86 v179 (IntKind.i64.wrap (k + 1))) (.inr (.inl (s,k,v257,true,(.bool true:V),(.gone:V))))) (fun (v258:Unit)=>.guard (0 <= k/\(k:Int) < (((v179.map Ta.i).length - 0:Nat):Int)) inferInstance<|.lkY Ta.i v179 (k.toNat) x<|.callF (C_cz v1 v86 x) fun(v259:Bool)=>.br (!v259) (.lfA (u_df_L2 v1 v86 v179 (IntKind.i64.wrap (k + 1))) (.inr (.inl (s,k,(s.length:Int),false,(.gone:V),(.bool true:V)))))<|.guard (0 <= k/\(k:Int) < (((v179.map Ta.i).length - 0:Nat):Int)) inferInstance<|.lkY Ta.i v179 (k.toNat) x<|.eqL [.agg [.int .i64 x.fk,.int .i64 x.fq,.int .i64 x.fg,.int .i64 x.fa.fd,.int .i64 x.fa.fe,.int .i64 x.fa.fN,.imm 1 (x.fa.fb.map (V.int .i64)),.imm 1 (x.fa.fc.map V.bool),.int .i64 x.fa.fi]] (([x]:List Ta).map Ta.i)<|.segA Ta.i s<|.segA Ta.i ([x]:List Ta)<|.guard (((s.map Ta.i).length + (([x]:List Ta).map Ta.i).length) * 104 <= 70368744177664) inferInstance<|.appA Ta.i s ([x]:List Ta)<|.segA Ta.i (s ++ ([x]:List Ta))<|.lfA (u_df_L2 v1 v86 v179 (IntKind.i64.wrap (k + 1))) (.inl (s ++ ([x]:List Ta)))):Tree ((List Ta) ⊕ ((List Ta × Int × Int × Bool × V × V) ⊕ (List Ta))) _)) (E:=fun(s:List Ta)=>(.lenB Ta.i v179<|.kb (decide ((v179.length:Int) < (v179.length:Int))) false<|.lfA (u_df_L2 v1 v86 v179 0) (.inr (.inr s)):Tree ((List Ta) ⊕ ((List Ta × Int × Int × Bool × V × V) ⊕ (List Ta))) _)) (fun k x s=>by kernel_rfl) (fun d x t s he=>lB<|⟨ltX he,lQ zuk (fun v257=>rfl) (fun v258=>gU<|⟨zez Ta.i he,cF zyf fun v259=>bR (rfl)<|gU<|⟨zez Ta.i he,⟨rfl,sA<|sA<|gU<|aA<|sA<|rfl⟩⟩⟩)⟩) (ho2 (fun _=>rfl) fun _=>rfl) (fun s=>by kernel_rfl) (fun s=>lB<|⟨ltE _,rfl⟩) (by kernel_rfl) (by kernel_rfl) s)
def J_df_L1 (v1:Tn) (k:Int) (s:List Ta):St:=⟨sv 15 [(1,.ref (.box 0) 0 []),(3,.own 9 (s.map Ta.i)),(4,.I k)],[[.I v1.fan,.I v1.fp.fad,.I v1.fp.fac,.imm 7 (v1.fp.faf.map Td.i),.I v1.fo.fu,.imm 13 (v1.fo.fj.map Tb.i),.imm 17 (v1.fr.map Tc.i),.I v1.fal,.I v1.fao,.I v1.fam,.I v1.fap]]⟩
def q0_df_L1 (v1:Tn):(List Ta × Int × V × V × V × V × V × V × V)->Ex × St:=fun p=>(.ret,⟨sv 15 [(1,.ref (.box 0) 0 []),(2,.bool false),(3,.own 9 (p.1.map Ta.i)),(4,.I p.2.1),(5,p.2.2.1),(6,p.2.2.2.1),(7,p.2.2.2.2.1),(9,p.2.2.2.2.2.1),(10,p.2.2.2.2.2.1),(12,p.2.2.2.2.2.2.1),(13,p.2.2.2.2.2.2.2.1),(14,p.2.2.2.2.2.2.2.2)],[[.I v1.fan,.I v1.fp.fad,.I v1.fp.fac,.imm 7 (v1.fp.faf.map Td.i),.I v1.fo.fu,.imm 13 (v1.fo.fj.map Tb.i),.imm 17 (v1.fr.map Tc.i),.I v1.fal,.I v1.fao,.I v1.fam,.I v1.fap]]⟩)
def q1_df_L1 (v1:Tn):(List Ta)->Ex × St:=fun p=>((.exit 0),⟨sv 15 [(1,.ref (.box 0) 0 []),(3,.own 9 (p.map Ta.i)),(4,.I (v1.fr.length:Int)),(9,.bool false)],[[.I v1.fan,.I v1.fp.fad,.I v1.fp.fac,.imm 7 (v1.fp.faf.map Td.i),.I v1.fo.fu,.imm 13 (v1.fo.fj.map Tb.i),.imm 17 (v1.fr.map Tc.i),.I v1.fal,.I v1.fao,.I v1.fam,.I v1.fap]]⟩)
def u_df_L1 (v1:Tn) (k:Int):=outL (J_df_L1 v1 k) (Sum.elim (q0_df_L1 v1) (q1_df_L1 v1))
def b_df_L1 (v1:Tn) (k:Int) (x:Tc) (s:List Ta):Option ((List Ta) ⊕ ((List Ta × Int × V × V × V × V × V × V × V) ⊕ (List Ta))):=(x_dd x).bind fun v177=>(bif !v177 then(some (.inr (.inl (s,k,(.gone:V),(.gone:V),(.gone:V),(.bool true:V),(.gone:V),(.gone:V),(.gone:V))))) else((x_de x).bind fun v179=>((x_df_L2 v1 k v179 s).bind (sel2 (fun (v261:List Ta × Int × Int × Bool × V × V)=>(some (.inr (.inl (v261.1,k,(.own 9 (v179.map Ta.i):V),(.int .i64 v261.2.1:V),(.int .i64 v261.2.2.1:V),(.gone:V),(.bool v261.2.2.2.1:V),(v261.2.2.2.2.1:V),(v261.2.2.2.2.2:V)))))) (fun (v262:List Ta)=>(some (.inl v262)))))))
def e_df_L1 (v1:Tn) (s:List Ta):Option ((List Ta × Int × V × V × V × V × V × V × V) ⊕ (List Ta)):=some ((.inr s))
def x_df_L1 (v1:Tn) (s:List Ta):Option ((List Ta × Int × V × V × V × V × V × V × V) ⊕ (List Ta)):=if v1.fr.length <= 9223372036854775806 then listN (b_df_L1 v1) (e_df_L1 v1) v1.fr 0 s else none
def L_df_L1 (v1:Tn) (s:List Ta):Lc2:=⟨15,l_df_2,1,[0,2,5,6,7,8,9,10,11,12,13,14],some (J_df_L1 v1 0 s),List Ta × Int × V × V × V × V × V × V × V,List Ta,x_df_L1 v1 s,q0_df_L1 v1,q1_df_L1 v1⟩
theorem zsk {v1:Tn} {s:List Ta}:(L_df_L1 v1 s).ok tab:=zao (za6 (J:=J_df_L1 v1) (o:=(Sum.elim (q0_df_L1 v1) (q1_df_L1 v1))) v1.fr (B:=fun(k:Int) (x:Tc) (s:List Ta)=>(.lenA Tc.i v1.fr<|.kb (decide (k < (v1.fr.length:Int))) true<|.ob (0 <= k)<|.lkX Tc.i v1.fr (k.toNat) x<|.callF (C_dd x) fun(v177:Bool)=>.br (!v177) (.lfA (u_df_L1 v1 (IntKind.i64.wrap (k + 1))) (.inr (.inl (s,k,(.gone:V),(.gone:V),(.gone:V),(.bool true:V),(.gone:V),(.gone:V),(.gone:V)))))<|.ob (0 <= k)<|.lkX Tc.i v1.fr (k.toNat) x<|.call (C_de x) fun(v179:List Ta)=>.segA Ta.i v179<|.lp2 (L_df_L2 v1 k v179 s) (fun (v261:List Ta × Int × Int × Bool × V × V)=>.lfA (u_df_L1 v1 (IntKind.i64.wrap (k + 1))) (.inr (.inl (v261.1,k,(.own 9 (v179.map Ta.i):V),(.int .i64 v261.2.1:V),(.int .i64 v261.2.2.1:V),(.gone:V),(.bool v261.2.2.2.1:V),(v261.2.2.2.2.1:V),(v261.2.2.2.2.2:V))))) (fun (v262:List Ta)=>.lfA (u_df_L1 v1 (IntKind.i64.wrap (k + 1))) (.inl v262)):Tree ((List Ta) ⊕ ((List Ta × Int × V × V × V × V × V × V × V) ⊕ (List Ta))) _)) (E:=fun(s:List Ta)=>(.lenA Tc.i v1.fr<|.kb (decide ((v1.fr.length:Int) < (v1.fr.length:Int))) false<|.lfA (u_df_L1 v1 0) (.inr (.inr s)):Tree ((List Ta) ⊕ ((List Ta × Int × V × V × V × V × V × V × V) ⊕ (List Ta))) _)) (fun k x s=>by kernel_rfl) (fun d x t s he=>lA<|⟨ltX he,⟨Int.natCast_nonneg _,⟨za7 Tc.i he,cF ygm fun v177=>bR (rfl)<|⟨Int.natCast_nonneg _,⟨za7 Tc.i he,cE zwy fun v179=>sA<|lQ zt3 (fun v261=>rfl) (fun v262=>rfl)⟩⟩⟩⟩⟩) (ho2 (fun _=>rfl) fun _=>rfl) (fun s=>by kernel_rfl) (fun s=>lA<|⟨ltE _,rfl⟩) (by kernel_rfl) (by kernel_rfl) s)
def x_df (v1:Tn):Option Bool:=(x_ce v1.fan).bind fun v2=>(bif !v2 then(some false) else((x_ch v1.fp).bind fun v4=>(bif !v4 then(some false) else((x_cu v1.fo).bind fun v6=>(bif !v6 then(some false) else(bif decide ((v1.fr.length:Int) ≠ 6) then(some false) else((x_cd v1.fal 0 1000000000).bind fun v9=>(bif !v9 then(some false) else((x_cd v1.fao 0 1000000000).bind fun v11=>(bif !v11 then(some false) else((x_cd v1.fam 0 1000000000).bind fun v13=>(bif !v13 then(some false) else((x_cd v1.fap 0 1000000000).bind fun v15=>(bif !v15 then(some false) else((x_df_L1 v1 ([])).bind (sel2 (fun (v263:List Ta × Int × V × V × V × V × V × V × V)=>(some false)) (fun (v264:List Ta)=>((x_cv v1.fo).bind fun v265=>(some (decide ((v264.length:Int)=v265)))))))))))))))))))))
def C_df (v1:Tn):Ctr:=⟨n_df,[.agg [.I v1.fan,.I v1.fp.fad,.I v1.fp.fac,.imm 7 (v1.fp.faf.map Td.i),.I v1.fo.fu,.imm 13 (v1.fo.fj.map Tb.i),.imm 17 (v1.fr.map Tc.i),.I v1.fal,.I v1.fao,.I v1.fam,.I v1.fap]],[],Bool,x_df v1,rB⟩
theorem ye7 {v1:Tn}:(C_df v1).okF tab:=fun r hr=>⟨za1 yi7 rfl (.callF (C_ce v1.fan) fun(v2:Bool)=>.br (!v2) (.lfA rB false)<|.callF (C_ch v1.fp) fun(v4:Bool)=>.br (!v4) (.lfA rB false)<|.callF (C_cu v1.fo) fun(v6:Bool)=>.br (!v6) (.lfA rB false)<|.lenA Tc.i v1.fr<|.br (decide ((v1.fr.length:Int) ≠ 6)) (.lfA rB false)<|.callF (C_cd v1.fal 0 1000000000) fun(v9:Bool)=>.br (!v9) (.lfA rB false)<|.callF (C_cd v1.fao 0 1000000000) fun(v11:Bool)=>.br (!v11) (.lfA rB false)<|.callF (C_cd v1.fam 0 1000000000) fun(v13:Bool)=>.br (!v13) (.lfA rB false)<|.callF (C_cd v1.fap 0 1000000000) fun(v15:Bool)=>.br (!v15) (.lfA rB false)<|.sk<|.seg [] 0 0 []<|.lp2 (L_df_L1 v1 ([])) (fun (v263:List Ta × Int × V × V × V × V × V × V × V)=>.lfA rB false) (fun (v264:List Ta)=>.lenB Ta.i v264<|.callF (C_cv v1.fo) fun(v265:Int)=>.lfA rB (decide ((v264.length:Int)=v265))):Tree Bool _) (by kernel_rfl) (by kernel_rfl) (cF zx1 fun v2=>bR (rfl)<|cF yg6 fun v4=>bR (rfl)<|cF zx2 fun v6=>bR (rfl)<|lA<|bR (rfl)<|cF zca fun v9=>bR (rfl)<|cF zca fun v11=>bR (rfl)<|cF zca fun v13=>bR (rfl)<|cF zca fun v15=>bR (rfl)<|⟨zce [],lQ zsk (fun v263=>rfl) (fun v264=>lB<|cF zze fun v265=>rfl)⟩) hr,rfl,rfl⟩
def J_dg_L1 (v1:Tn) (k:Int) (s:Int):St:=⟨sv 6 [(1,.ref (.box 0) 0 []),(3,.I s),(4,.I k)],[[.I v1.fan,.I v1.fp.fad,.I v1.fp.fac,.imm 7 (v1.fp.faf.map Td.i),.I v1.fo.fu,.imm 13 (v1.fo.fj.map Tb.i),.imm 17 (v1.fr.map Tc.i),.I v1.fal,.I v1.fao,.I v1.fam,.I v1.fap]]⟩
def q0_dg_L1 (v1:Tn):(Int × Int)->Ex × St:=fun p=>((.exit 0),⟨sv 6 [(1,.ref (.box 0) 0 []),(3,.I p.1),(4,.I p.2),(5,.bool false)],[[.I v1.fan,.I v1.fp.fad,.I v1.fp.fac,.imm 7 (v1.fp.faf.map Td.i),.I v1.fo.fu,.imm 13 (v1.fo.fj.map Tb.i),.imm 17 (v1.fr.map Tc.i),.I v1.fal,.I v1.fao,.I v1.fam,.I v1.fap]]⟩)
def u_dg_L1 (v1:Tn) (k:Int):=outL (J_dg_L1 v1 k) (q0_dg_L1 v1)
def b_dg_L1 (v1:Tn) (k:Int) (x:Tc) (s:Int):Option ((Int) ⊕ ((Int × Int))):=(x_df v1).bind fun v17=>(bif v17 then((x_de x).bind fun v19=>(some (.inl (IntKind.i64.wrap (s + (v19.length:Int)))))) else(some (.inr (s,k))))
def e_dg_L1 (v1:Tn) (s:Int):Option ((Int × Int)):=some ((s,(v1.fr.length:Int)))
def x_dg_L1 (v1:Tn) (s:Int):Option ((Int × Int)):=if v1.fr.length <= 9223372036854775806 then listN (b_dg_L1 v1) (e_dg_L1 v1) v1.fr 0 s else none
def L_dg_L1 (v1:Tn) (s:Int):Lct:=⟨6,l_dg_0,1,[0,2,5],some (J_dg_L1 v1 0 s),Int × Int,x_dg_L1 v1 s,q0_dg_L1 v1⟩
theorem zu3 {v1:Tn} {s:Int}:(L_dg_L1 v1 s).ok tab:=zc2 (za6 (J:=J_dg_L1 v1) (o:=(q0_dg_L1 v1)) v1.fr (B:=fun(k:Int) (x:Tc) (s:Int)=>(.lenA Tc.i v1.fr<|.kb (decide (k < (v1.fr.length:Int))) true<|.callF (C_df v1) fun(v17:Bool)=>.br v17 (.ob (0 <= k)<|.lkX Tc.i v1.fr (k.toNat) x<|.call (C_de x) fun(v19:List Ta)=>.lenB Ta.i v19<|.lfA (u_dg_L1 v1 (IntKind.i64.wrap (k + 1))) (.inl (IntKind.i64.wrap (s + (v19.length:Int)))))<|.lfA (u_dg_L1 v1 (IntKind.i64.wrap (k + 1))) (.inr (s,k)):Tree ((Int) ⊕ ((Int × Int))) _)) (E:=fun(s:Int)=>(.lenA Tc.i v1.fr<|.kb (decide ((v1.fr.length:Int) < (v1.fr.length:Int))) false<|.lfA (u_dg_L1 v1 0) (.inr (s,(v1.fr.length:Int))):Tree ((Int) ⊕ ((Int × Int))) _)) (fun k x s=>by kernel_rfl) (fun d x t s he=>lA<|⟨ltX he,cF ye7 fun v17=>bR (⟨Int.natCast_nonneg _,⟨za7 Tc.i he,cE zwy fun v19=>lB<|rfl⟩⟩)<|rfl⟩) (fun _=>rfl) (fun s=>by kernel_rfl) (fun s=>lA<|⟨ltE _,rfl⟩) (by kernel_rfl) (by kernel_rfl) s)
def x_dg (v1:Tn):Option Int:=(x_dg_L1 v1 0).bind fun v20=>(some v20.1)
def C_dg (v1:Tn):Ctr:=⟨n_dg,[.agg [.I v1.fan,.I v1.fp.fad,.I v1.fp.fac,.imm 7 (v1.fp.faf.map Td.i),.I v1.fo.fu,.imm 13 (v1.fo.fj.map Tb.i),.imm 17 (v1.fr.map Tc.i),.I v1.fal,.I v1.fao,.I v1.fam,.I v1.fap]],[],Int,x_dg v1,rI⟩
theorem yfw {v1:Tn}:(C_dg v1).okF tab:=fun r hr=>⟨za1 ymf rfl (.lp (L_dg_L1 v1 0) fun(v20:Int × Int)=>.lfA rI v20.1:Tree Int _) (by kernel_rfl) (by kernel_rfl) (lP zu3 fun v20=>rfl) hr,rfl,rfl⟩
def x_dh (v1:Tp):Option Int:=(x_dg v1.fF).bind fun v2=>(some (IntKind.i64.wrap ((IntKind.i64.wrap (v2 * (IntKind.i64.wrap ((IntKind.i64.wrap (v1.fF.fp.fad * (IntKind.i64.wrap (v1.fF.fp.fac + 1)))) + 1)))) + 2)))
def C_dh (v1:Tp):Ctr:=⟨n_dh,[.agg [.I v1.fF.fan,.I v1.fF.fp.fad,.I v1.fF.fp.fac,.imm 7 (v1.fF.fp.faf.map Td.i),.I v1.fF.fo.fu,.imm 13 (v1.fF.fo.fj.map Tb.i),.imm 17 (v1.fF.fr.map Tc.i),.I v1.fF.fal,.I v1.fF.fao,.I v1.fF.fam,.I v1.fF.fap,.imm 6 (v1.fba.map Tk.i),.imm 16 (v1.faz.map Th.i),.imm 16 (v1.fbb.map Tg.i),.imm 15 (v1.fbc.map Ti.i)]],[],Int,x_dh v1,rI⟩
theorem yca {v1:Tp}:(C_dh v1).okF tab:=fun r hr=>⟨za1 yet rfl (.callF (C_dg v1.fF) fun(v2:Int)=>.lfA rI (IntKind.i64.wrap ((IntKind.i64.wrap (v2 * (IntKind.i64.wrap ((IntKind.i64.wrap (v1.fF.fp.fad * (IntKind.i64.wrap (v1.fF.fp.fac + 1)))) + 1)))) + 2)):Tree Int _) (by kernel_rfl) (by kernel_rfl) (cF yfw fun v2=>rfl) hr,rfl,rfl⟩
def x_di (v1:Int) (v2:Int) (v3:Int):Option Bool:=bif decide (v2 <= v1) then(some (decide (v1 <= v3))) else(some false)
def C_di (v1:Int) (v2:Int) (v3:Int):Ctr:=⟨n_di,[.I v1,.I v2,.I v3],[],Bool,x_di v1 v2 v3,rB⟩
theorem zgz {v1:Int} {v2:Int} {v3:Int}:(C_di v1 v2 v3).okF tab:=fun r hr=>⟨za1 yef rfl (.br (decide (v2 <= v1)) (.lfA rB (decide (v1 <= v3)))<|.lfA rB false:Tree Bool _) (by kernel_rfl) (by kernel_rfl) (bR (rfl)<|rfl) hr,rfl,rfl⟩
def x_dj (v1:Int):Option Bool:=(x_di v1 0 4294967295).bind fun v2=>(some v2)
def C_dj (v1:Int):Ctr:=⟨n_dj,[.I v1],[],Bool,x_dj v1,rB⟩
theorem zx4 {v1:Int}:(C_dj v1).okF tab:=fun r hr=>⟨za1 yhv rfl (.callF (C_di v1 0 4294967295) fun(v2:Bool)=>.lfA rB v2:Tree Bool _) (by kernel_rfl) (by kernel_rfl) (cF zgz fun v2=>rfl) hr,rfl,rfl⟩
def x_dk (v1:Int) (v2:Int):Option Bool:=(x_di v1 1 100).bind fun v3=>(bif v3 then((x_di v2 0 5).bind fun v5=>(some v5)) else(some false))
def C_dk (v1:Int) (v2:Int):Ctr:=⟨n_dk,[.I v1,.I v2],[],Bool,x_dk v1 v2,rB⟩
theorem zwz {v1:Int} {v2:Int}:(C_dk v1 v2).okF tab:=fun r hr=>⟨za1 zzj rfl (.callF (C_di v1 1 100) fun(v3:Bool)=>.br v3 (.callF (C_di v2 0 5) fun(v5:Bool)=>.lfA rB v5)<|.lfA rB false:Tree Bool _) (by kernel_rfl) (by kernel_rfl) (cF zgz fun v3=>bR (cF zgz fun v5=>rfl)<|rfl) hr,rfl,rfl⟩
def x_dl (v1:Int):Option Bool:=(x_di v1 1 247).bind fun v2=>(some v2)
def C_dl (v1:Int):Ctr:=⟨n_dl,[.I v1],[],Bool,x_dl v1,rB⟩
theorem zwa {v1:Int}:(C_dl v1).okF tab:=fun r hr=>⟨za1 yga rfl (.callF (C_di v1 1 247) fun(v2:Bool)=>.lfA rB v2:Tree Bool _) (by kernel_rfl) (by kernel_rfl) (cF zgz fun v2=>rfl) hr,rfl,rfl⟩
def x_dm (v1:Int):Option Bool:=(x_di v1 0 65535).bind fun v2=>(some v2)
def C_dm (v1:Int):Ctr:=⟨n_dm,[.I v1],[],Bool,x_dm v1,rB⟩
theorem zjl {v1:Int}:(C_dm v1).okF tab:=fun r hr=>⟨za1 ymn rfl (.callF (C_di v1 0 65535) fun(v2:Bool)=>.lfA rB v2:Tree Bool _) (by kernel_rfl) (by kernel_rfl) (cF zgz fun v2=>rfl) hr,rfl,rfl⟩
def x_dn (v1:Int):Option Bool:=(x_di v1 0 5).bind fun v2=>(some v2)
def C_dn (v1:Int):Ctr:=⟨n_dn,[.I v1],[],Bool,x_dn v1,rB⟩
theorem zxg {v1:Int}:(C_dn v1).okF tab:=fun r hr=>⟨za1 yhz rfl (.callF (C_di v1 0 5) fun(v2:Bool)=>.lfA rB v2:Tree Bool _) (by kernel_rfl) (by kernel_rfl) (cF zgz fun v2=>rfl) hr,rfl,rfl⟩
def x_do (v1:Td):Option Bool:=(x_dl v1.fg).bind fun v2=>(bif !v2 then(some false) else((x_di v1.fau 0 3).bind fun v4=>(bif !v4 then(some false) else((x_dm v1.faj).bind fun v6=>(bif !v6 then(some false) else((x_dm v1.fak).bind fun v8=>(bif !v8 then(some false) else(bif decide (v1.fak < v1.faj) then(some false) else((x_dn v1.fw).bind fun v11=>(bif !v11 then(some false) else((x_dl v1.fay).bind fun v13=>(bif !v13 then(some false) else((x_di v1.faq (-65535) 65535).bind fun v15=>(bif v15 then((x_dm (IntKind.i64.wrap (v1.faj + v1.faq))).bind fun v17=>(bif v17 then((x_dm (IntKind.i64.wrap (v1.fak + v1.faq))).bind fun v19=>(some v19)) else(some false))) else(some false)))))))))))))))
def C_do (v1:Td):Ctr:=⟨n_do,[.agg [.I v1.fg,.I v1.fau,.I v1.faj,.I v1.fak,.I v1.fw,.I v1.fay,.I v1.faq]],[],Bool,x_do v1,rB⟩
theorem ycf {v1:Td}:(C_do v1).okF tab:=fun r hr=>⟨za1 yaa rfl (.callF (C_dl v1.fg) fun(v2:Bool)=>.br (!v2) (.lfA rB false)<|.callF (C_di v1.fau 0 3) fun(v4:Bool)=>.br (!v4) (.lfA rB false)<|.callF (C_dm v1.faj) fun(v6:Bool)=>.br (!v6) (.lfA rB false)<|.callF (C_dm v1.fak) fun(v8:Bool)=>.br (!v8) (.lfA rB false)<|.br (decide (v1.fak < v1.faj)) (.lfA rB false)<|.callF (C_dn v1.fw) fun(v11:Bool)=>.br (!v11) (.lfA rB false)<|.callF (C_dl v1.fay) fun(v13:Bool)=>.br (!v13) (.lfA rB false)<|.callF (C_di v1.faq (-65535) 65535) fun(v15:Bool)=>.br v15 (.callF (C_dm (IntKind.i64.wrap (v1.faj + v1.faq))) fun(v17:Bool)=>.br v17 (.callF (C_dm (IntKind.i64.wrap (v1.fak + v1.faq))) fun(v19:Bool)=>.lfA rB v19)<|.lfA rB false)<|.lfA rB false:Tree Bool _) (by kernel_rfl) (by kernel_rfl) (cF zwa fun v2=>bR (rfl)<|cF zgz fun v4=>bR (rfl)<|cF zjl fun v6=>bR (rfl)<|cF zjl fun v8=>bR (rfl)<|bR (rfl)<|cF zxg fun v11=>bR (rfl)<|cF zwa fun v13=>bR (rfl)<|cF zgz fun v15=>bR (cF zjl fun v17=>bR (cF zjl fun v19=>rfl)<|rfl)<|rfl) hr,rfl,rfl⟩
def x_dp (v1:Td) (v2:Td):Option Bool:=bif decide (v1.fg=v2.fg) then(bif decide (v1.fau=v2.fau) then(bif decide (v1.faj <= v2.fak) then(some (decide (v2.faj <= v1.fak))) else(some false)) else(some false)) else(some false)
def C_dp (v1:Td) (v2:Td):Ctr:=⟨n_dp,[.agg [.I v1.fg,.I v1.fau,.I v1.faj,.I v1.fak,.I v1.fw,.I v1.fay,.I v1.faq],.eptr [.I v2.fg,.I v2.fau,.I v2.faj,.I v2.fak,.I v2.fw,.I v2.fay,.I v2.faq] 0],[],Bool,x_dp v1 v2,rB⟩
theorem yhk {v1:Td} {v2:Td}:(C_dp v1 v2).okF tab:=fun r hr=>⟨za1 yje rfl (.br (decide (v1.fg=v2.fg)) (.br (decide (v1.fau=v2.fau)) (.br (decide (v1.faj <= v2.fak)) (.lfA rB (decide (v2.faj <= v1.fak)))<|.lfA rB false)<|.lfA rB false)<|.lfA rB false:Tree Bool _) (by kernel_rfl) (by kernel_rfl) (bR (bR (bR (rfl)<|rfl)<|rfl)<|rfl) hr,rfl,rfl⟩
def J_dq_L1 (v1:List Td) (v2:Td) (k:Int) (s:Unit):St:=⟨sv 8 [(0,.imm 7 (v1.map Td.i)),(1,.clo n_dp [.agg [.I v2.fg,.I v2.fau,.I v2.faj,.I v2.fak,.I v2.fw,.I v2.fay,.I v2.faq]]),(4,.I (v1.length:Int)),(5,.I k)],[]⟩
def q0_dq_L1 (v1:List Td) (v2:Td):Int->Ex × St:=fun p=>(.ret,⟨sv 8 [(0,.imm 7 (v1.map Td.i)),(1,.clo n_dp [.agg [.I v2.fg,.I v2.fau,.I v2.faj,.I v2.fak,.I v2.fw,.I v2.fay,.I v2.faq]]),(2,.I p),(3,.I p),(4,.I (v1.length:Int)),(5,.I p),(6,.bool true),(7,.bool true)],[]⟩)
def q1_dq_L1 (v1:List Td) (v2:Td):Unit->Ex × St:=fun p=>((.exit 0),⟨sv 8 [(0,.imm 7 (v1.map Td.i)),(1,.clo n_dp [.agg [.I v2.fg,.I v2.fau,.I v2.faj,.I v2.fak,.I v2.fw,.I v2.fay,.I v2.faq]]),(4,.I (v1.length:Int)),(5,.I (v1.length:Int)),(6,.bool false)],[]⟩)
def u_dq_L1 (v1:List Td) (v2:Td) (k:Int):=outL (J_dq_L1 v1 v2 k) (Sum.elim (q0_dq_L1 v1 v2) (q1_dq_L1 v1 v2))
def b_dq_L1 (v1:List Td) (v2:Td) (k:Int) (x:Td) (s:Unit):Option ((Unit) ⊕ (Int ⊕ Unit)):=(x_dp x v2).bind fun v15=>(bif v15 then(some (.inr (.inl k))) else(some (.inl ())))
def e_dq_L1 (v1:List Td) (v2:Td) (s:Unit):Option (Int ⊕ Unit):=some ((.inr ()))
def x_dq_L1 (v1:List Td) (v2:Td) (s:Unit):Option (Int ⊕ Unit):=if v1.length <= 9223372036854775806 then listN (b_dq_L1 v1 v2) (e_dq_L1 v1 v2) v1 0 s else none
def L_dq_L1 (v1:List Td) (v2:Td) (s:Unit):Lc2:=⟨8,l_dq_0,0,[2,3,6,7],some (J_dq_L1 v1 v2 0 s),Int,Unit,x_dq_L1 v1 v2 s,q0_dq_L1 v1 v2,q1_dq_L1 v1 v2⟩
theorem zul {v1:List Td} {v2:Td} {s:Unit}:(L_dq_L1 v1 v2 s).ok tab:=zao (za6 (J:=J_dq_L1 v1 v2) (o:=(Sum.elim (q0_dq_L1 v1 v2) (q1_dq_L1 v1 v2))) v1 (B:=fun(k:Int) (x:Td) (s:Unit)=>(.kb (decide (k < (v1.length:Int))) true<|.ob (0 <= k)<|.lkX Td.i v1 (k.toNat) x<|.callF (C_dp x v2) fun(v15:Bool)=>.br v15 (.lfA (u_dq_L1 v1 v2 (IntKind.i64.wrap (k + 1))) (.inr (.inl k)))<|.lfA (u_dq_L1 v1 v2 (IntKind.i64.wrap (k + 1))) (.inl ()):Tree ((Unit) ⊕ (Int ⊕ Unit)) _)) (E:=fun(s:Unit)=>(.kb (decide ((v1.length:Int) < (v1.length:Int))) false<|.lfA (u_dq_L1 v1 v2 0) (.inr (.inr ())):Tree ((Unit) ⊕ (Int ⊕ Unit)) _)) (fun k x s=>by kernel_rfl) (fun d x t s he=>⟨ltX he,⟨Int.natCast_nonneg _,⟨za7 Td.i he,cF yhk fun v15=>bR (rfl)<|rfl⟩⟩⟩) (ho2 (fun _=>rfl) fun _=>rfl) (fun s=>by kernel_rfl) (fun s=>⟨ltE _,rfl⟩) (by kernel_rfl) (by kernel_rfl) s)
def x_dq (v1:List Td) (v2:Td):Option Int:=(x_dq_L1 v1 v2 ()).bind (sel2 (fun (v17:Int)=>(some v17)) (fun (v18:Unit)=>(some (-1))))
def C_dq (v1:List Td) (v2:Td):Ctr:=⟨n_dq,[.imm 7 (v1.map Td.i),.clo n_dp [.agg [.I v2.fg,.I v2.fau,.I v2.faj,.I v2.fak,.I v2.fw,.I v2.fay,.I v2.faq]]],[],Int,x_dq v1 v2,rI⟩
theorem yf8 {v1:List Td} {v2:Td}:(C_dq v1 v2).okF tab:=fun r hr=>⟨za1 yeb rfl (.lenA Td.i v1<|.lp2 (L_dq_L1 v1 v2 ()) (fun (v17:Int)=>.lfA rI v17) (fun (v18:Unit)=>.lfA rI (-1)):Tree Int _) (by kernel_rfl) (by kernel_rfl) (lA<|lQ zul (fun v17=>rfl) (fun v18=>rfl)) hr,rfl,rfl⟩
def x_dr (v1:List Td) (v2:Td):Option Bool:=(x_dq v1 v2).bind fun v3=>(some (decide (0 <= v3)))
def C_dr (v1:List Td) (v2:Td):Ctr:=⟨n_dr,[.imm 7 (v1.map Td.i),.clo n_dp [.agg [.I v2.fg,.I v2.fau,.I v2.faj,.I v2.fak,.I v2.fw,.I v2.fay,.I v2.faq]]],[],Bool,x_dr v1 v2,rB⟩
theorem yfh {v1:List Td} {v2:Td}:(C_dr v1 v2).okF tab:=fun r hr=>⟨za1 zxy rfl (.callF (C_dq v1 v2) fun(v3:Int)=>.lfA rB (decide (0 <= v3)):Tree Bool _) (by kernel_rfl) (by kernel_rfl) (cF yf8 fun v3=>rfl) hr,rfl,rfl⟩
def J_ds_L1 (v1:List Td) (k:Int) (s:Unit):St:=⟨sv 9 [(0,.imm 7 (v1.map Td.i)),(4,.imm 7 (v1.map Td.i)),(5,.I (v1.length:Int)),(6,.I k)],[]⟩
def q0_ds_L1 (v1:List Td):(Int × Td)->Ex × St:=fun p=>(.ret,⟨sv 9 [(0,.imm 7 (v1.map Td.i)),(1,.bool false),(2,.I p.1),(3,.ref (.box 0) 0 []),(4,.imm 7 (v1.map Td.i)),(5,.I (v1.length:Int)),(6,.I p.1),(7,.bool true),(8,.bool true)],[[.I p.2.fg,.I p.2.fau,.I p.2.faj,.I p.2.fak,.I p.2.fw,.I p.2.fay,.I p.2.faq]]⟩)
def q1_ds_L1 (v1:List Td):Unit->Ex × St:=fun p=>((.exit 0),⟨sv 9 [(0,.imm 7 (v1.map Td.i)),(4,.imm 7 (v1.map Td.i)),(5,.I (v1.length:Int)),(6,.I (v1.length:Int)),(7,.bool false)],[]⟩)
def u_ds_L1 (v1:List Td) (k:Int):=outL (J_ds_L1 v1 k) (Sum.elim (q0_ds_L1 v1) (q1_ds_L1 v1))
def b_ds_L1 (v1:List Td) (k:Int) (x:Td) (s:Unit):Option ((Unit) ⊕ ((Int × Td) ⊕ Unit)):=(x_do x).bind fun v18=>(bif !v18 then(some (.inr (.inl (k,x)))) else(if (0:Int) <= 0/\(0:Int) <= k/\k <= (((v1.map Td.i).length:Nat):Int) then((x_dr ((v1.take ((k:Int).toNat)).drop ((0:Int).toNat)) x).bind fun v20=>(bif v20 then(some (.inr (.inl (k,x)))) else(some (.inl ())))) else none))
def e_ds_L1 (v1:List Td) (s:Unit):Option ((Int × Td) ⊕ Unit):=some ((.inr ()))
def x_ds_L1 (v1:List Td) (s:Unit):Option ((Int × Td) ⊕ Unit):=if v1.length <= 9223372036854775806 then listN (b_ds_L1 v1) (e_ds_L1 v1) v1 0 s else none
def L_ds_L1 (v1:List Td) (s:Unit):Lc2:=⟨9,l_ds_0,0,[1,2,3,7,8],some (J_ds_L1 v1 0 s),Int × Td,Unit,x_ds_L1 v1 s,q0_ds_L1 v1,q1_ds_L1 v1⟩
theorem zsa {v1:List Td} {s:Unit}:(L_ds_L1 v1 s).ok tab:=zao (za6 (J:=J_ds_L1 v1) (o:=(Sum.elim (q0_ds_L1 v1) (q1_ds_L1 v1))) v1 (B:=fun(k:Int) (x:Td) (s:Unit)=>(.kb (decide (k < (v1.length:Int))) true<|.ob (0 <= k)<|.lkX Td.i v1 (k.toNat) x<|.callF (C_do x) fun(v18:Bool)=>.br (!v18) (.lfA (u_ds_L1 v1 (IntKind.i64.wrap (k + 1))) (.inr (.inl (k,x))))<|.guard ((0:Int) <= 0/\(0:Int) <= k/\k <= (((v1.map Td.i).length:Nat):Int)) inferInstance<|.cutA Td.i v1 ((0:Int).toNat) ((k:Int).toNat)<|.callF (C_dr ((v1.take ((k:Int).toNat)).drop ((0:Int).toNat)) x) fun(v20:Bool)=>.br v20 (.lfA (u_ds_L1 v1 (IntKind.i64.wrap (k + 1))) (.inr (.inl (k,x))))<|.lfA (u_ds_L1 v1 (IntKind.i64.wrap (k + 1))) (.inl ()):Tree ((Unit) ⊕ ((Int × Td) ⊕ Unit)) _)) (E:=fun(s:Unit)=>(.kb (decide ((v1.length:Int) < (v1.length:Int))) false<|.lfA (u_ds_L1 v1 0) (.inr (.inr ())):Tree ((Unit) ⊕ ((Int × Td) ⊕ Unit)) _)) (fun k x s=>by kernel_rfl) (fun d x t s he=>⟨ltX he,⟨Int.natCast_nonneg _,⟨za7 Td.i he,cF ycf fun v18=>bR (rfl)<|gU<|⟨zne _ _ _ _,cF yfh fun v20=>bR (rfl)<|rfl⟩⟩⟩⟩) (ho2 (fun _=>rfl) fun _=>rfl) (fun s=>by kernel_rfl) (fun s=>⟨ltE _,rfl⟩) (by kernel_rfl) (by kernel_rfl) s)
def x_ds (v1:List Td):Option Bool:=(x_ds_L1 v1 ()).bind (sel2 (fun (v22:Int × Td)=>(some false)) (fun (v23:Unit)=>(some (decide ((v1.length:Int) <= 24)))))
def C_ds (v1:List Td):Ctr:=⟨n_ds,[.imm 7 (v1.map Td.i)],[],Bool,x_ds v1,rB⟩
theorem yff {v1:List Td}:(C_ds v1).okF tab:=fun r hr=>⟨za1 yko rfl (.lenA Td.i v1<|.lp2 (L_ds_L1 v1 ()) (fun (v22:Int × Td)=>.lfA rB false) (fun (v23:Unit)=>.lenA Td.i v1<|.lfA rB (decide ((v1.length:Int) <= 24))):Tree Bool _) (by kernel_rfl) (by kernel_rfl) (lA<|lQ zsa (fun v22=>rfl) (fun v23=>lA<|rfl)) hr,rfl,rfl⟩
def x_dt (v1:Tr):Option Bool:=(x_dk v1.fad v1.fac).bind fun v2=>(bif v2 then((x_ds v1.faf).bind fun v4=>(some v4)) else(some false))
def C_dt (v1:Tr):Ctr:=⟨n_dt,[.agg [.I v1.fad,.I v1.fac,.imm 7 (v1.faf.map Td.i)]],[],Bool,x_dt v1,rB⟩
theorem zye {v1:Tr}:(C_dt v1).okF tab:=fun r hr=>⟨za1 yfz rfl (.callF (C_dk v1.fad v1.fac) fun(v2:Bool)=>.br v2 (.callF (C_ds v1.faf) fun(v4:Bool)=>.lfA rB v4)<|.lfA rB false:Tree Bool _) (by kernel_rfl) (by kernel_rfl) (cF zwz fun v2=>bR (cF yff fun v4=>rfl)<|rfl) hr,rfl,rfl⟩
def x_du (v1:Int):Option Bool:=(x_di v1 0 1000000000).bind fun v2=>(some v2)
def C_du (v1:Int):Ctr:=⟨n_du,[.I v1],[],Bool,x_du v1,rB⟩
theorem zrt {v1:Int}:(C_du v1).okF tab:=fun r hr=>⟨za1 yep rfl (.callF (C_di v1 0 1000000000) fun(v2:Bool)=>.lfA rB v2:Tree Bool _) (by kernel_rfl) (by kernel_rfl) (cF zgz fun v2=>rfl) hr,rfl,rfl⟩
def o_dv:(Tl × Tl × Tl)->V × List (List V):=fun r=>(.tup [.agg [.int .i64 r.1.f0,.int .i64 r.1.f1],.agg [.int .i64 r.2.1.f0,.int .i64 r.2.1.f1],.agg [.int .i64 r.2.2.f0,.int .i64 r.2.2.f1]],[])
def x_dv (v1:Int):Option (Tl × Tl × Tl):=bif decide (v1=1) then(some ((⟨1,2000⟩:Tl),(⟨0,0⟩:Tl),(⟨0,0⟩:Tl))) else(bif decide (v1=2) then(some ((⟨1,2000⟩:Tl),(⟨0,0⟩:Tl),(⟨0,0⟩:Tl))) else(bif decide (v1=3) then(some ((⟨1,125⟩:Tl),(⟨0,0⟩:Tl),(⟨0,0⟩:Tl))) else(bif decide (v1=4) then(some ((⟨1,125⟩:Tl),(⟨0,0⟩:Tl),(⟨0,0⟩:Tl))) else(bif decide (v1=5) then(some ((⟨0,0⟩:Tl),(⟨0,0⟩:Tl),(⟨1,1⟩:Tl))) else(bif decide (v1=6) then(some ((⟨0,0⟩:Tl),(⟨1,1⟩:Tl),(⟨0,0⟩:Tl))) else(bif decide (v1=15) then(some ((⟨0,0⟩:Tl),(⟨0,0⟩:Tl),(⟨1,1968⟩:Tl))) else(bif decide (v1=16) then(some ((⟨0,0⟩:Tl),(⟨1,123⟩:Tl),(⟨0,0⟩:Tl))) else(bif decide (v1=22) then(some ((⟨0,0⟩:Tl),(⟨2,2⟩:Tl),(⟨0,0⟩:Tl))) else(some ((⟨1,125⟩:Tl),(⟨1,121⟩:Tl),(⟨0,0⟩:Tl)))))))))))
def C_dv (v1:Int):Ctr:=⟨n_dv,[.I v1],[],Tl × Tl × Tl,x_dv v1,o_dv⟩
theorem yf1 (r:Tl × Tl × Tl):(o_dv r).1.fresh=true:=by simp only [o_dv,V.fresh,V.freshL,Bool.and_self,Bool.true_and]
theorem yke {v1:Int}:(C_dv v1).okF tab:=fun r hr=>⟨za1 yju rfl (.br (decide (v1=1)) (.ob ((.agg [.int .i64 0,.int .i64 0]:V)=.agg [.int .i64 0,.int .i64 0])<|.ob ((.agg [.int .i64 0,.int .i64 0]:V)=.agg [.int .i64 0,.int .i64 0])<|.ob ((.agg [.int .i64 0,.int .i64 0]:V)=.agg [.int .i64 0,.int .i64 0])<|.ob ((.agg [.int .i64 0,.int .i64 0]:V)=.agg [.int .i64 0,.int .i64 0])<|.ob ((.agg [.int .i64 0,.int .i64 0]:V)=.agg [.int .i64 0,.int .i64 0])<|.ob ((.agg [.int .i64 0,.int .i64 0]:V)=.agg [.int .i64 0,.int .i64 0])<|.lfA o_dv ((⟨1,2000⟩:Tl),(⟨0,0⟩:Tl),(⟨0,0⟩:Tl)))<|.br (decide (v1=2)) (.ob ((.agg [.int .i64 0,.int .i64 0]:V)=.agg [.int .i64 0,.int .i64 0])<|.ob ((.agg [.int .i64 0,.int .i64 0]:V)=.agg [.int .i64 0,.int .i64 0])<|.ob ((.agg [.int .i64 0,.int .i64 0]:V)=.agg [.int .i64 0,.int .i64 0])<|.ob ((.agg [.int .i64 0,.int .i64 0]:V)=.agg [.int .i64 0,.int .i64 0])<|.ob ((.agg [.int .i64 0,.int .i64 0]:V)=.agg [.int .i64 0,.int .i64 0])<|.ob ((.agg [.int .i64 0,.int .i64 0]:V)=.agg [.int .i64 0,.int .i64 0])<|.lfA o_dv ((⟨1,2000⟩:Tl),(⟨0,0⟩:Tl),(⟨0,0⟩:Tl)))<|.br (decide (v1=3)) (.ob ((.agg [.int .i64 0,.int .i64 0]:V)=.agg [.int .i64 0,.int .i64 0])<|.ob ((.agg [.int .i64 0,.int .i64 0]:V)=.agg [.int .i64 0,.int .i64 0])<|.ob ((.agg [.int .i64 0,.int .i64 0]:V)=.agg [.int .i64 0,.int .i64 0])<|.ob ((.agg [.int .i64 0,.int .i64 0]:V)=.agg [.int .i64 0,.int .i64 0])<|.ob ((.agg [.int .i64 0,.int .i64 0]:V)=.agg [.int .i64 0,.int .i64 0])<|.ob ((.agg [.int .i64 0,.int .i64 0]:V)=.agg [.int .i64 0,.int .i64 0])<|.lfA o_dv ((⟨1,125⟩:Tl),(⟨0,0⟩:Tl),(⟨0,0⟩:Tl)))<|.br (decide (v1=4)) (.ob ((.agg [.int .i64 0,.int .i64 0]:V)=.agg [.int .i64 0,.int .i64 0])<|.ob ((.agg [.int .i64 0,.int .i64 0]:V)=.agg [.int .i64 0,.int .i64 0])<|.ob ((.agg [.int .i64 0,.int .i64 0]:V)=.agg [.int .i64 0,.int .i64 0])<|.ob ((.agg [.int .i64 0,.int .i64 0]:V)=.agg [.int .i64 0,.int .i64 0])<|.ob ((.agg [.int .i64 0,.int .i64 0]:V)=.agg [.int .i64 0,.int .i64 0])<|.ob ((.agg [.int .i64 0,.int .i64 0]:V)=.agg [.int .i64 0,.int .i64 0])<|.lfA o_dv ((⟨1,125⟩:Tl),(⟨0,0⟩:Tl),(⟨0,0⟩:Tl)))<|.br (decide (v1=5)) (.ob ((.agg [.int .i64 1,.int .i64 1]:V)=.agg [.int .i64 1,.int .i64 1])<|.ob ((.agg [.int .i64 1,.int .i64 1]:V)=.agg [.int .i64 1,.int .i64 1])<|.ob ((.agg [.int .i64 0,.int .i64 0]:V)=.agg [.int .i64 0,.int .i64 0])<|.ob ((.agg [.int .i64 0,.int .i64 0]:V)=.agg [.int .i64 0,.int .i64 0])<|.ob ((.agg [.int .i64 1,.int .i64 1]:V)=.agg [.int .i64 1,.int .i64 1])<|.ob ((.agg [.int .i64 1,.int .i64 1]:V)=.agg [.int .i64 1,.int .i64 1])<|.lfA o_dv ((⟨0,0⟩:Tl),(⟨0,0⟩:Tl),(⟨1,1⟩:Tl)))<|.br (decide (v1=6)) (.ob ((.agg [.int .i64 0,.int .i64 0]:V)=.agg [.int .i64 0,.int .i64 0])<|.ob ((.agg [.int .i64 0,.int .i64 0]:V)=.agg [.int .i64 0,.int .i64 0])<|.ob ((.agg [.int .i64 1,.int .i64 1]:V)=.agg [.int .i64 1,.int .i64 1])<|.ob ((.agg [.int .i64 1,.int .i64 1]:V)=.agg [.int .i64 1,.int .i64 1])<|.ob ((.agg [.int .i64 0,.int .i64 0]:V)=.agg [.int .i64 0,.int .i64 0])<|.ob ((.agg [.int .i64 0,.int .i64 0]:V)=.agg [.int .i64 0,.int .i64 0])<|.lfA o_dv ((⟨0,0⟩:Tl),(⟨1,1⟩:Tl),(⟨0,0⟩:Tl)))<|.br (decide (v1=15)) (.ob ((.agg [.int .i64 1,.int .i64 1968]:V)=.agg [.int .i64 1,.int .i64 1968])<|.ob ((.agg [.int .i64 1,.int .i64 1968]:V)=.agg [.int .i64 1,.int .i64 1968])<|.ob ((.agg [.int .i64 0,.int .i64 0]:V)=.agg [.int .i64 0,.int .i64 0])<|.ob ((.agg [.int .i64 0,.int .i64 0]:V)=.agg [.int .i64 0,.int .i64 0])<|.ob ((.agg [.int .i64 1,.int .i64 1968]:V)=.agg [.int .i64 1,.int .i64 1968])<|.ob ((.agg [.int .i64 1,.int .i64 1968]:V)=.agg [.int .i64 1,.int .i64 1968])<|.lfA o_dv ((⟨0,0⟩:Tl),(⟨0,0⟩:Tl),(⟨1,1968⟩:Tl)))<|.br (decide (v1=16)) (.ob ((.agg [.int .i64 0,.int .i64 0]:V)=.agg [.int .i64 0,.int .i64 0])<|.ob ((.agg [.int .i64 0,.int .i64 0]:V)=.agg [.int .i64 0,.int .i64 0])<|.ob ((.agg [.int .i64 1,.int .i64 123]:V)=.agg [.int .i64 1,.int .i64 123])<|.ob ((.agg [.int .i64 1,.int .i64 123]:V)=.agg [.int .i64 1,.int .i64 123])<|.ob ((.agg [.int .i64 0,.int .i64 0]:V)=.agg [.int .i64 0,.int .i64 0])<|.ob ((.agg [.int .i64 0,.int .i64 0]:V)=.agg [.int .i64 0,.int .i64 0])<|.lfA o_dv ((⟨0,0⟩:Tl),(⟨1,123⟩:Tl),(⟨0,0⟩:Tl)))<|.br (decide (v1=22)) (.ob ((.agg [.int .i64 0,.int .i64 0]:V)=.agg [.int .i64 0,.int .i64 0])<|.ob ((.agg [.int .i64 0,.int .i64 0]:V)=.agg [.int .i64 0,.int .i64 0])<|.ob ((.agg [.int .i64 2,.int .i64 2]:V)=.agg [.int .i64 2,.int .i64 2])<|.ob ((.agg [.int .i64 2,.int .i64 2]:V)=.agg [.int .i64 2,.int .i64 2])<|.ob ((.agg [.int .i64 0,.int .i64 0]:V)=.agg [.int .i64 0,.int .i64 0])<|.ob ((.agg [.int .i64 0,.int .i64 0]:V)=.agg [.int .i64 0,.int .i64 0])<|.lfA o_dv ((⟨0,0⟩:Tl),(⟨2,2⟩:Tl),(⟨0,0⟩:Tl)))<|.ob ((.agg [.int .i64 0,.int .i64 0]:V)=.agg [.int .i64 0,.int .i64 0])<|.ob ((.agg [.int .i64 0,.int .i64 0]:V)=.agg [.int .i64 0,.int .i64 0])<|.ob ((.agg [.int .i64 1,.int .i64 121]:V)=.agg [.int .i64 1,.int .i64 121])<|.ob ((.agg [.int .i64 1,.int .i64 121]:V)=.agg [.int .i64 1,.int .i64 121])<|.ob ((.agg [.int .i64 0,.int .i64 0]:V)=.agg [.int .i64 0,.int .i64 0])<|.ob ((.agg [.int .i64 0,.int .i64 0]:V)=.agg [.int .i64 0,.int .i64 0])<|.lfA o_dv ((⟨1,125⟩:Tl),(⟨1,121⟩:Tl),(⟨0,0⟩:Tl)):Tree (Tl × Tl × Tl) _) (by kernel_rfl) (by kernel_rfl) (bR (⟨rfl,⟨rfl,⟨rfl,⟨rfl,⟨rfl,⟨rfl,rfl⟩⟩⟩⟩⟩⟩)<|bR (⟨rfl,⟨rfl,⟨rfl,⟨rfl,⟨rfl,⟨rfl,rfl⟩⟩⟩⟩⟩⟩)<|bR (⟨rfl,⟨rfl,⟨rfl,⟨rfl,⟨rfl,⟨rfl,rfl⟩⟩⟩⟩⟩⟩)<|bR (⟨rfl,⟨rfl,⟨rfl,⟨rfl,⟨rfl,⟨rfl,rfl⟩⟩⟩⟩⟩⟩)<|bR (⟨rfl,⟨rfl,⟨rfl,⟨rfl,⟨rfl,⟨rfl,rfl⟩⟩⟩⟩⟩⟩)<|bR (⟨rfl,⟨rfl,⟨rfl,⟨rfl,⟨rfl,⟨rfl,rfl⟩⟩⟩⟩⟩⟩)<|bR (⟨rfl,⟨rfl,⟨rfl,⟨rfl,⟨rfl,⟨rfl,rfl⟩⟩⟩⟩⟩⟩)<|bR (⟨rfl,⟨rfl,⟨rfl,⟨rfl,⟨rfl,⟨rfl,rfl⟩⟩⟩⟩⟩⟩)<|bR (⟨rfl,⟨rfl,⟨rfl,⟨rfl,⟨rfl,⟨rfl,rfl⟩⟩⟩⟩⟩⟩)<|⟨rfl,⟨rfl,⟨rfl,⟨rfl,⟨rfl,⟨rfl,rfl⟩⟩⟩⟩⟩⟩) hr,rfl,yf1 r⟩
def x_dw (v1:Int):Option Bool:=(x_di v1 1 6).bind fun v2=>(bif v2 then(some true) else(bif decide (v1=15) then(some true) else(bif decide (v1=16) then(some true) else(bif decide (v1=22) then(some true) else(some (decide (v1=23)))))))
def C_dw (v1:Int):Ctr:=⟨n_dw,[.I v1],[],Bool,x_dw v1,rB⟩
theorem zww {v1:Int}:(C_dw v1).okF tab:=fun r hr=>⟨za1 yfq rfl (.callF (C_di v1 1 6) fun(v2:Bool)=>.br v2 (.lfA rB true)<|.br (decide (v1=15)) (.lfA rB true)<|.br (decide (v1=16)) (.lfA rB true)<|.br (decide (v1=22)) (.lfA rB true)<|.lfA rB (decide (v1=23)):Tree Bool _) (by kernel_rfl) (by kernel_rfl) (cF zgz fun v2=>bR (rfl)<|bR (rfl)<|bR (rfl)<|bR (rfl)<|rfl) hr,rfl,rfl⟩
def x_dz (v1:Int):Option Bool:=(x_dm v1).bind fun v2=>(some (!v2))
def C_dz (v1:Int):Ctr:=⟨n_dz,[.I v1],[],Bool,x_dz v1,rB⟩
theorem yd3 {v1:Int}:(C_dz v1).okF tab:=fun r hr=>⟨za1 yij rfl (.callF (C_dm v1) fun(v2:Bool)=>.lfA rB (!v2):Tree Bool _) (by kernel_rfl) (by kernel_rfl) (cF zjl fun v2=>rfl) hr,rfl,rfl⟩
def J_dx_L1 (v1:List Int) (k:Int) (s:Unit):St:=⟨sv 8 [(0,.imm 1 (v1.map (V.int .i64))),(1,.clo n_dz []),(4,.I (v1.length:Int)),(5,.I k)],[]⟩
def q0_dx_L1 (v1:List Int):Int->Ex × St:=fun p=>(.ret,⟨sv 8 [(0,.imm 1 (v1.map (V.int .i64))),(1,.clo n_dz []),(2,.I p),(3,.I p),(4,.I (v1.length:Int)),(5,.I p),(6,.bool true),(7,.bool true)],[]⟩)
def q1_dx_L1 (v1:List Int):Unit->Ex × St:=fun p=>((.exit 0),⟨sv 8 [(0,.imm 1 (v1.map (V.int .i64))),(1,.clo n_dz []),(4,.I (v1.length:Int)),(5,.I (v1.length:Int)),(6,.bool false)],[]⟩)
def u_dx_L1 (v1:List Int) (k:Int):=outL (J_dx_L1 v1 k) (Sum.elim (q0_dx_L1 v1) (q1_dx_L1 v1))
def b_dx_L1 (v1:List Int) (k:Int) (x:Int) (s:Unit):Option ((Unit) ⊕ (Int ⊕ Unit)):=(x_dz x).bind fun v14=>(bif v14 then(some (.inr (.inl k))) else(some (.inl ())))
def e_dx_L1 (v1:List Int) (s:Unit):Option (Int ⊕ Unit):=some ((.inr ()))
def x_dx_L1 (v1:List Int) (s:Unit):Option (Int ⊕ Unit):=if v1.length <= 9223372036854775806 then listN (b_dx_L1 v1) (e_dx_L1 v1) v1 0 s else none
def L_dx_L1 (v1:List Int) (s:Unit):Lc2:=⟨8,l_dx_0,0,[2,3,6,7],some (J_dx_L1 v1 0 s),Int,Unit,x_dx_L1 v1 s,q0_dx_L1 v1,q1_dx_L1 v1⟩
theorem zuq {v1:List Int} {s:Unit}:(L_dx_L1 v1 s).ok tab:=zao (za6 (J:=J_dx_L1 v1) (o:=(Sum.elim (q0_dx_L1 v1) (q1_dx_L1 v1))) v1 (B:=fun(k:Int) (x:Int) (s:Unit)=>(.kb (decide (k < (v1.length:Int))) true<|.ob (0 <= k)<|.lkX (V.int .i64) v1 (k.toNat) x<|.callF (C_dz x) fun(v14:Bool)=>.br v14 (.lfA (u_dx_L1 v1 (IntKind.i64.wrap (k + 1))) (.inr (.inl k)))<|.lfA (u_dx_L1 v1 (IntKind.i64.wrap (k + 1))) (.inl ()):Tree ((Unit) ⊕ (Int ⊕ Unit)) _)) (E:=fun(s:Unit)=>(.kb (decide ((v1.length:Int) < (v1.length:Int))) false<|.lfA (u_dx_L1 v1 0) (.inr (.inr ())):Tree ((Unit) ⊕ (Int ⊕ Unit)) _)) (fun k x s=>by kernel_rfl) (fun d x t s he=>⟨ltX he,⟨Int.natCast_nonneg _,⟨za7 (V.int .i64) he,cF yd3 fun v14=>bR (rfl)<|rfl⟩⟩⟩) (ho2 (fun _=>rfl) fun _=>rfl) (fun s=>by kernel_rfl) (fun s=>⟨ltE _,rfl⟩) (by kernel_rfl) (by kernel_rfl) s)
def x_dx (v1:List Int):Option Int:=(x_dx_L1 v1 ()).bind (sel2 (fun (v16:Int)=>(some v16)) (fun (v17:Unit)=>(some (-1))))
def C_dx (v1:List Int):Ctr:=⟨n_dx,[.imm 1 (v1.map (V.int .i64)),.clo n_dz []],[],Int,x_dx v1,rI⟩
theorem yax {v1:List Int}:(C_dx v1).okF tab:=fun r hr=>⟨za1 yj2 rfl (.lenA (V.int .i64) v1<|.lp2 (L_dx_L1 v1 ()) (fun (v16:Int)=>.lfA rI v16) (fun (v17:Unit)=>.lfA rI (-1)):Tree Int _) (by kernel_rfl) (by kernel_rfl) (lA<|lQ zuq (fun v16=>rfl) (fun v17=>rfl)) hr,rfl,rfl⟩
def x_dy (v1:List Int):Option Bool:=(x_dx v1).bind fun v2=>(some (decide (0 <= v2)))
def C_dy (v1:List Int):Ctr:=⟨n_dy,[.imm 1 (v1.map (V.int .i64)),.clo n_dz []],[],Bool,x_dy v1,rB⟩
theorem yjv {v1:List Int}:(C_dy v1).okF tab:=fun r hr=>⟨za1 ykt rfl (.callF (C_dx v1) fun(v2:Int)=>.lfA rB (decide (0 <= v2)):Tree Bool _) (by kernel_rfl) (by kernel_rfl) (cF yax fun v2=>rfl) hr,rfl,rfl⟩
def x_ea (v1:List Int):Option Bool:=(x_dy v1).bind fun v2=>(some (!v2))
def C_ea (v1:List Int):Ctr:=⟨n_ea,[.imm 1 (v1.map (V.int .i64))],[],Bool,x_ea v1,rB⟩
theorem zwn {v1:List Int}:(C_ea v1).okF tab:=fun r hr=>⟨za1 yl4 rfl (.callF (C_dy v1) fun(v2:Bool)=>.lfA rB (!v2):Tree Bool _) (by kernel_rfl) (by kernel_rfl) (cF yjv fun v2=>rfl) hr,rfl,rfl⟩
def x_eb (v1:Tj):Option Int:=bif decide (v1.fd=22) then(some 1) else(some (IntKind.i64.wrap ((v1.fb.length:Int) + (v1.fc.length:Int))))
def C_eb (v1:Tj):Ctr:=⟨n_eb,[.agg [.I v1.fd,.I v1.fe,.I v1.fN,.imm 1 (v1.fb.map (V.int .i64)),.imm 1 (v1.fc.map V.bool),.I v1.fi]],[],Int,x_eb v1,rI⟩
theorem zvz {v1:Tj}:(C_eb v1).okF tab:=fun r hr=>⟨za1 ycw rfl (.br (decide (v1.fd=22)) (.lfA rI 1)<|.lenA (V.int .i64) v1.fb<|.lenA V.bool v1.fc<|.lfA rI (IntKind.i64.wrap ((v1.fb.length:Int) + (v1.fc.length:Int))):Tree Int _) (by kernel_rfl) (by kernel_rfl) (bR (rfl)<|lA<|lA<|rfl) hr,rfl,rfl⟩
def x_ec (v1:Tj):Option Bool:=(x_dv v1.fd).bind fun v2=>((x_dw v1.fd).bind fun v3=>(bif !v3 then(some false) else((x_di v1.fN v2.1.f0 v2.1.f1).bind fun v5=>(bif !v5 then(some false) else((x_di (v1.fb.length:Int) v2.2.1.f0 v2.2.1.f1).bind fun v7=>(bif !v7 then(some false) else((x_di (v1.fc.length:Int) v2.2.2.f0 v2.2.2.f1).bind fun v9=>(bif !v9 then(some false) else((x_dm v1.fe).bind fun v11=>(bif !v11 then(some false) else((x_dm v1.fi).bind fun v13=>(bif !v13 then(some false) else((x_ea v1.fb).bind fun v15=>(bif !v15 then(some false) else(bif decide (65536 < (IntKind.i64.wrap (v1.fe + v1.fN))) then(some false) else(bif decide (v1.fd=23) then((x_eb v1).bind fun v19=>(some (decide ((IntKind.i64.wrap (v1.fi + v19)) <= 65536)))) else(bif decide (v1.fi=0) then((x_eb v1).bind fun v21=>(some (decide ((IntKind.i64.wrap (v1.fe + v21)) <= 65536)))) else(some false))))))))))))))))))
def C_ec (v1:Tj):Ctr:=⟨n_ec,[.agg [.I v1.fd,.I v1.fe,.I v1.fN,.imm 1 (v1.fb.map (V.int .i64)),.imm 1 (v1.fc.map V.bool),.I v1.fi]],[],Bool,x_ec v1,rB⟩
theorem zwb {v1:Tj}:(C_ec v1).okF tab:=fun r hr=>⟨za1 ym2 rfl (.callF (C_dv v1.fd) fun(v2:Tl × Tl × Tl)=>.callF (C_dw v1.fd) fun(v3:Bool)=>.br (!v3) (.lfA rB false)<|.sk<|.sk<|.callF (C_di v1.fN v2.1.f0 v2.1.f1) fun(v5:Bool)=>.br (!v5) (.lfA rB false)<|.lenA (V.int .i64) v1.fb<|.sk<|.sk<|.callF (C_di (v1.fb.length:Int) v2.2.1.f0 v2.2.1.f1) fun(v7:Bool)=>.br (!v7) (.lfA rB false)<|.lenA V.bool v1.fc<|.sk<|.sk<|.callF (C_di (v1.fc.length:Int) v2.2.2.f0 v2.2.2.f1) fun(v9:Bool)=>.br (!v9) (.lfA rB false)<|.callF (C_dm v1.fe) fun(v11:Bool)=>.br (!v11) (.lfA rB false)<|.callF (C_dm v1.fi) fun(v13:Bool)=>.br (!v13) (.lfA rB false)<|.callF (C_ea v1.fb) fun(v15:Bool)=>.br (!v15) (.lfA rB false)<|.br (decide (65536 < (IntKind.i64.wrap (v1.fe + v1.fN)))) (.lfA rB false)<|.br (decide (v1.fd=23)) (.callF (C_eb v1) fun(v19:Int)=>.lfA rB (decide ((IntKind.i64.wrap (v1.fi + v19)) <= 65536)))<|.br (decide (v1.fi=0)) (.callF (C_eb v1) fun(v21:Int)=>.lfA rB (decide ((IntKind.i64.wrap (v1.fe + v21)) <= 65536)))<|.lfA rB false:Tree Bool _) (by kernel_rfl) (by kernel_rfl) (cF yke fun v2=>cF zww fun v3=>bR (rfl)<|cF zgz fun v5=>bR (rfl)<|lA<|cF zgz fun v7=>bR (rfl)<|lA<|cF zgz fun v9=>bR (rfl)<|cF zjl fun v11=>bR (rfl)<|cF zjl fun v13=>bR (rfl)<|cF zwn fun v15=>bR (rfl)<|bR (rfl)<|bR (cF zvz fun v19=>rfl)<|bR (cF zvz fun v21=>rfl)<|rfl) hr,rfl,rfl⟩
def x_ef (v1:Tf):Option Bool:=(x_dn v1.fw).bind fun v2=>(bif v2 then((x_dl v1.fg).bind fun v4=>(bif v4 then((x_ec v1.fa).bind fun v6=>(some v6)) else(some false))) else(some false))
def C_ef (v1:Tf):Ctr:=⟨n_ef,[.agg [.I v1.fw,.I v1.fg,.I v1.fa.fd,.I v1.fa.fe,.I v1.fa.fN,.imm 1 (v1.fa.fb.map (V.int .i64)),.imm 1 (v1.fa.fc.map V.bool),.I v1.fa.fi]],[],Bool,x_ef v1,rB⟩
theorem ymi {v1:Tf}:(C_ef v1).okF tab:=fun r hr=>⟨za1 yk9 rfl (.callF (C_dn v1.fw) fun(v2:Bool)=>.br v2 (.callF (C_dl v1.fg) fun(v4:Bool)=>.br v4 (.callF (C_ec v1.fa) fun(v6:Bool)=>.lfA rB v6)<|.lfA rB false)<|.lfA rB false:Tree Bool _) (by kernel_rfl) (by kernel_rfl) (cF zxg fun v2=>bR (cF zwa fun v4=>bR (cF zwb fun v6=>rfl)<|rfl)<|rfl) hr,rfl,rfl⟩
def x_eg (v1:Te):Option Bool:=(x_di v1.fae 1 255).bind fun v2=>(bif v2 then(bif decide (v1.fe=0) then(bif decide (v1.fN=0) then(bif decide ((v1.fb.length:Int)=0) then(some (decide ((v1.fc.length:Int)=0))) else(some false)) else(some false)) else(some false)) else(some false))
def C_eg (v1:Te):Ctr:=⟨n_eg,[.agg [.I v1.fd,.I v1.fae,.I v1.fe,.I v1.fN,.imm 1 (v1.fb.map (V.int .i64)),.imm 1 (v1.fc.map V.bool)]],[],Bool,x_eg v1,rB⟩
theorem yiw {v1:Te}:(C_eg v1).okF tab:=fun r hr=>⟨za1 yhs rfl (.callF (C_di v1.fae 1 255) fun(v2:Bool)=>.br v2 (.br (decide (v1.fe=0)) (.br (decide (v1.fN=0)) (.lenA (V.int .i64) v1.fb<|.br (decide ((v1.fb.length:Int)=0)) (.lenA V.bool v1.fc<|.lfA rB (decide ((v1.fc.length:Int)=0)))<|.lfA rB false)<|.lfA rB false)<|.lfA rB false)<|.lfA rB false:Tree Bool _) (by kernel_rfl) (by kernel_rfl) (cF zgz fun v2=>bR (bR (bR (lA<|bR (lA<|rfl)<|rfl)<|rfl)<|rfl)<|rfl) hr,rfl,rfl⟩
def o_eh:(Tl × Tl × Int × Bool)->V × List (List V):=fun r=>(.tup [.agg [.int .i64 r.1.f0,.int .i64 r.1.f1],.agg [.int .i64 r.2.1.f0,.int .i64 r.2.1.f1],.int .i64 r.2.2.1,.bool r.2.2.2],[])
def x_eh (v1:Int):Option (Tl × Tl × Int × Bool):=bif decide (v1=1) then(some ((⟨0,0⟩:Tl),(⟨1,2000⟩:Tl),0,false)) else(bif decide (v1=2) then(some ((⟨0,0⟩:Tl),(⟨1,2000⟩:Tl),0,false)) else(bif decide (v1=3) then(some ((⟨1,125⟩:Tl),(⟨0,0⟩:Tl),0,false)) else(bif decide (v1=4) then(some ((⟨1,125⟩:Tl),(⟨0,0⟩:Tl),0,false)) else(bif decide (v1=23) then(some ((⟨1,125⟩:Tl),(⟨0,0⟩:Tl),0,false)) else(bif decide (v1=5) then(some ((⟨0,0⟩:Tl),(⟨1,1⟩:Tl),0,true)) else(bif decide (v1=6) then(some ((⟨1,1⟩:Tl),(⟨0,0⟩:Tl),0,true)) else(bif decide (v1=15) then(some ((⟨0,0⟩:Tl),(⟨0,0⟩:Tl),1968,true)) else(bif decide (v1=16) then(some ((⟨0,0⟩:Tl),(⟨0,0⟩:Tl),123,true)) else(some ((⟨2,2⟩:Tl),(⟨0,0⟩:Tl),0,true))))))))))
def C_eh (v1:Int):Ctr:=⟨n_eh,[.I v1],[],Tl × Tl × Int × Bool,x_eh v1,o_eh⟩
theorem yh9 (r:Tl × Tl × Int × Bool):(o_eh r).1.fresh=true:=by simp only [o_eh,V.fresh,V.freshL,Bool.and_self,Bool.true_and]
theorem ycu {v1:Int}:(C_eh v1).okF tab:=fun r hr=>⟨za1 zzu rfl (.br (decide (v1=1)) (.lfA o_eh ((⟨0,0⟩:Tl),(⟨1,2000⟩:Tl),0,false))<|.br (decide (v1=2)) (.lfA o_eh ((⟨0,0⟩:Tl),(⟨1,2000⟩:Tl),0,false))<|.br (decide (v1=3)) (.lfA o_eh ((⟨1,125⟩:Tl),(⟨0,0⟩:Tl),0,false))<|.br (decide (v1=4)) (.lfA o_eh ((⟨1,125⟩:Tl),(⟨0,0⟩:Tl),0,false))<|.br (decide (v1=23)) (.lfA o_eh ((⟨1,125⟩:Tl),(⟨0,0⟩:Tl),0,false))<|.br (decide (v1=5)) (.lfA o_eh ((⟨0,0⟩:Tl),(⟨1,1⟩:Tl),0,true))<|.br (decide (v1=6)) (.lfA o_eh ((⟨1,1⟩:Tl),(⟨0,0⟩:Tl),0,true))<|.br (decide (v1=15)) (.lfA o_eh ((⟨0,0⟩:Tl),(⟨0,0⟩:Tl),1968,true))<|.br (decide (v1=16)) (.lfA o_eh ((⟨0,0⟩:Tl),(⟨0,0⟩:Tl),123,true))<|.lfA o_eh ((⟨2,2⟩:Tl),(⟨0,0⟩:Tl),0,true):Tree (Tl × Tl × Int × Bool) _) (by kernel_rfl) (by kernel_rfl) (bR (rfl)<|bR (rfl)<|bR (rfl)<|bR (rfl)<|bR (rfl)<|bR (rfl)<|bR (rfl)<|bR (rfl)<|bR (rfl)<|rfl) hr,rfl,yh9 r⟩
def x_ei (v1:Te):Option Bool:=(x_dw v1.fd).bind fun v2=>(bif !v2 then(some false) else(bif decide (v1.fae ≠ 0) then((x_eg v1).bind fun v5=>(some v5)) else((x_eh v1.fd).bind fun v6=>((x_di (v1.fb.length:Int) v6.1.f0 v6.1.f1).bind fun v7=>(bif !v7 then(some false) else((x_di (v1.fc.length:Int) v6.2.1.f0 v6.2.1.f1).bind fun v9=>(bif !v9 then(some false) else((x_ea v1.fb).bind fun v11=>(bif !v11 then(some false) else(bif decide (1 < v6.2.1.f1) then(bif decide (((v1.fc.length:Int).tmod 8) ≠ 0) then(some false) else(bif decide (v6.2.2.1=0) then(bif decide (v1.fN ≠ 0) then(some false) else(bif decide (0 < v6.2.2.1) then((x_di v1.fN 1 v6.2.2.1).bind fun v18=>(bif !v18 then(some false) else(bif v6.2.2.2 then((x_dm v1.fe).bind fun v21=>(bif v21 then(some true) else(some (decide (v1.fe=0))))) else(some (decide (v1.fe=0)))))) else(bif v6.2.2.2 then((x_dm v1.fe).bind fun v24=>(bif v24 then(some true) else(some (decide (v1.fe=0))))) else(some (decide (v1.fe=0)))))) else(bif decide (0 < v6.2.2.1) then((x_di v1.fN 1 v6.2.2.1).bind fun v27=>(bif !v27 then(some false) else(bif v6.2.2.2 then((x_dm v1.fe).bind fun v30=>(bif v30 then(some true) else(some (decide (v1.fe=0))))) else(some (decide (v1.fe=0)))))) else(bif v6.2.2.2 then((x_dm v1.fe).bind fun v33=>(bif v33 then(some true) else(some (decide (v1.fe=0))))) else(some (decide (v1.fe=0))))))) else(bif decide (v6.2.2.1=0) then(bif decide (v1.fN ≠ 0) then(some false) else(bif decide (0 < v6.2.2.1) then((x_di v1.fN 1 v6.2.2.1).bind fun v38=>(bif !v38 then(some false) else(bif v6.2.2.2 then((x_dm v1.fe).bind fun v41=>(bif v41 then(some true) else(some (decide (v1.fe=0))))) else(some (decide (v1.fe=0)))))) else(bif v6.2.2.2 then((x_dm v1.fe).bind fun v44=>(bif v44 then(some true) else(some (decide (v1.fe=0))))) else(some (decide (v1.fe=0)))))) else(bif decide (0 < v6.2.2.1) then((x_di v1.fN 1 v6.2.2.1).bind fun v47=>(bif !v47 then(some false) else(bif v6.2.2.2 then((x_dm v1.fe).bind fun v50=>(bif v50 then(some true) else(some (decide (v1.fe=0))))) else(some (decide (v1.fe=0)))))) else(bif v6.2.2.2 then((x_dm v1.fe).bind fun v53=>(bif v53 then(some true) else(some (decide (v1.fe=0))))) else(some (decide (v1.fe=0))))))))))))))))
def C_ei (v1:Te):Ctr:=⟨n_ei,[.agg [.I v1.fd,.I v1.fae,.I v1.fe,.I v1.fN,.imm 1 (v1.fb.map (V.int .i64)),.imm 1 (v1.fc.map V.bool)]],[],Bool,x_ei v1,rB⟩
theorem yc2 {v1:Te}:(C_ei v1).okF tab:=fun r hr=>⟨za1 yiv rfl (.callF (C_dw v1.fd) fun(v2:Bool)=>.br (!v2) (.lfA rB false)<|.br (decide (v1.fae ≠ 0)) (.callF (C_eg v1) fun(v5:Bool)=>.lfA rB v5)<|.callF (C_eh v1.fd) fun(v6:Tl × Tl × Int × Bool)=>.lenA (V.int .i64) v1.fb<|.sk<|.sk<|.callF (C_di (v1.fb.length:Int) v6.1.f0 v6.1.f1) fun(v7:Bool)=>.br (!v7) (.lfA rB false)<|.lenA V.bool v1.fc<|.sk<|.sk<|.callF (C_di (v1.fc.length:Int) v6.2.1.f0 v6.2.1.f1) fun(v9:Bool)=>.br (!v9) (.lfA rB false)<|.callF (C_ea v1.fb) fun(v11:Bool)=>.br (!v11) (.lfA rB false)<|.sk<|.br (decide (1 < v6.2.1.f1)) (.lenA V.bool v1.fc<|.sk<|.br (decide (((v1.fc.length:Int).tmod 8) ≠ 0)) (.lfA rB false)<|.br (decide (v6.2.2.1=0)) (.br (decide (v1.fN ≠ 0)) (.lfA rB false)<|.br (decide (0 < v6.2.2.1)) (.callF (C_di v1.fN 1 v6.2.2.1) fun(v18:Bool)=>.br (!v18) (.lfA rB false)<|.br v6.2.2.2 (.callF (C_dm v1.fe) fun(v21:Bool)=>.br v21 (.lfA rB true)<|.lfA rB (decide (v1.fe=0)))<|.lfA rB (decide (v1.fe=0)))<|.br v6.2.2.2 (.callF (C_dm v1.fe) fun(v24:Bool)=>.br v24 (.lfA rB true)<|.lfA rB (decide (v1.fe=0)))<|.lfA rB (decide (v1.fe=0)))<|.br (decide (0 < v6.2.2.1)) (.callF (C_di v1.fN 1 v6.2.2.1) fun(v27:Bool)=>.br (!v27) (.lfA rB false)<|.br v6.2.2.2 (.callF (C_dm v1.fe) fun(v30:Bool)=>.br v30 (.lfA rB true)<|.lfA rB (decide (v1.fe=0)))<|.lfA rB (decide (v1.fe=0)))<|.br v6.2.2.2 (.callF (C_dm v1.fe) fun(v33:Bool)=>.br v33 (.lfA rB true)<|.lfA rB (decide (v1.fe=0)))<|.lfA rB (decide (v1.fe=0)))<|.br (decide (v6.2.2.1=0)) (.br (decide (v1.fN ≠ 0)) (.lfA rB false)<|.br (decide (0 < v6.2.2.1)) (.callF (C_di v1.fN 1 v6.2.2.1) fun(v38:Bool)=>.br (!v38) (.lfA rB false)<|.br v6.2.2.2 (.callF (C_dm v1.fe) fun(v41:Bool)=>.br v41 (.lfA rB true)<|.lfA rB (decide (v1.fe=0)))<|.lfA rB (decide (v1.fe=0)))<|.br v6.2.2.2 (.callF (C_dm v1.fe) fun(v44:Bool)=>.br v44 (.lfA rB true)<|.lfA rB (decide (v1.fe=0)))<|.lfA rB (decide (v1.fe=0)))<|.br (decide (0 < v6.2.2.1)) (.callF (C_di v1.fN 1 v6.2.2.1) fun(v47:Bool)=>.br (!v47) (.lfA rB false)<|.br v6.2.2.2 (.callF (C_dm v1.fe) fun(v50:Bool)=>.br v50 (.lfA rB true)<|.lfA rB (decide (v1.fe=0)))<|.lfA rB (decide (v1.fe=0)))<|.br v6.2.2.2 (.callF (C_dm v1.fe) fun(v53:Bool)=>.br v53 (.lfA rB true)<|.lfA rB (decide (v1.fe=0)))<|.lfA rB (decide (v1.fe=0)):Tree Bool _) (by kernel_rfl) (by kernel_rfl) (cF zww fun v2=>bR (rfl)<|bR (cF yiw fun v5=>rfl)<|cF ycu fun v6=>lA<|cF zgz fun v7=>bR (rfl)<|lA<|cF zgz fun v9=>bR (rfl)<|cF zwn fun v11=>bR (rfl)<|bR (lA<|bR (rfl)<|bR (bR (rfl)<|bR (cF zgz fun v18=>bR (rfl)<|bR (cF zjl fun v21=>bR (rfl)<|rfl)<|rfl)<|bR (cF zjl fun v24=>bR (rfl)<|rfl)<|rfl)<|bR (cF zgz fun v27=>bR (rfl)<|bR (cF zjl fun v30=>bR (rfl)<|rfl)<|rfl)<|bR (cF zjl fun v33=>bR (rfl)<|rfl)<|rfl)<|bR (bR (rfl)<|bR (cF zgz fun v38=>bR (rfl)<|bR (cF zjl fun v41=>bR (rfl)<|rfl)<|rfl)<|bR (cF zjl fun v44=>bR (rfl)<|rfl)<|rfl)<|bR (cF zgz fun v47=>bR (rfl)<|bR (cF zjl fun v50=>bR (rfl)<|rfl)<|rfl)<|bR (cF zjl fun v53=>bR (rfl)<|rfl)<|rfl) hr,rfl,rfl⟩
def J_ed_L1 (v1:List Bool) (v2:Bool) (k:Int) (s:Unit):St:=⟨sv 8 [(0,.imm 1 (v1.map V.bool)),(1,.bool v2),(4,.I (v1.length:Int)),(5,.I k)],[]⟩
def q0_ed_L1 (v1:List Bool) (v2:Bool):Int->Ex × St:=fun p=>(.ret,⟨sv 8 [(0,.imm 1 (v1.map V.bool)),(1,.bool v2),(2,.I p),(3,.I p),(4,.I (v1.length:Int)),(5,.I p),(6,.bool true),(7,.bool true)],[]⟩)
def q1_ed_L1 (v1:List Bool) (v2:Bool):Unit->Ex × St:=fun p=>((.exit 0),⟨sv 8 [(0,.imm 1 (v1.map V.bool)),(1,.bool v2),(4,.I (v1.length:Int)),(5,.I (v1.length:Int)),(6,.bool false)],[]⟩)
def u_ed_L1 (v1:List Bool) (v2:Bool) (k:Int):=outL (J_ed_L1 v1 v2 k) (Sum.elim (q0_ed_L1 v1 v2) (q1_ed_L1 v1 v2))
def b_ed_L1 (v1:List Bool) (v2:Bool) (k:Int) (x:Bool) (s:Unit):Option ((Unit) ⊕ (Int ⊕ Unit)):=bif false ^^ (v2 == x) then(some (.inr (.inl k))) else(some (.inl ()))
def e_ed_L1 (v1:List Bool) (v2:Bool) (s:Unit):Option (Int ⊕ Unit):=some ((.inr ()))
def x_ed_L1 (v1:List Bool) (v2:Bool) (s:Unit):Option (Int ⊕ Unit):=if v1.length <= 9223372036854775806 then listN (b_ed_L1 v1 v2) (e_ed_L1 v1 v2) v1 0 s else none
def L_ed_L1 (v1:List Bool) (v2:Bool) (s:Unit):Lc2:=⟨8,l_ed_0,0,[2,3,6,7],some (J_ed_L1 v1 v2 0 s),Int,Unit,x_ed_L1 v1 v2 s,q0_ed_L1 v1 v2,q1_ed_L1 v1 v2⟩
theorem zup {v1:List Bool} {v2:Bool} {s:Unit}:(L_ed_L1 v1 v2 s).ok tab:=zao (za6 (J:=J_ed_L1 v1 v2) (o:=(Sum.elim (q0_ed_L1 v1 v2) (q1_ed_L1 v1 v2))) v1 (B:=fun(k:Int) (x:Bool) (s:Unit)=>(.kb (decide (k < (v1.length:Int))) true<|.ob (0 <= k)<|.lkX V.bool v1 (k.toNat) x<|.br (false ^^ (v2 == x)) (.lfA (u_ed_L1 v1 v2 (IntKind.i64.wrap (k + 1))) (.inr (.inl k)))<|.lfA (u_ed_L1 v1 v2 (IntKind.i64.wrap (k + 1))) (.inl ()):Tree ((Unit) ⊕ (Int ⊕ Unit)) _)) (E:=fun(s:Unit)=>(.kb (decide ((v1.length:Int) < (v1.length:Int))) false<|.lfA (u_ed_L1 v1 v2 0) (.inr (.inr ())):Tree ((Unit) ⊕ (Int ⊕ Unit)) _)) (fun k x s=>by kernel_rfl) (fun d x t s he=>⟨ltX he,⟨Int.natCast_nonneg _,⟨za7 V.bool he,bR (rfl)<|rfl⟩⟩⟩) (ho2 (fun _=>rfl) fun _=>rfl) (fun s=>by kernel_rfl) (fun s=>⟨ltE _,rfl⟩) (by kernel_rfl) (by kernel_rfl) s)
def x_ed (v1:List Bool) (v2:Bool):Option Int:=(x_ed_L1 v1 v2 ()).bind (sel2 (fun (v14:Int)=>(some v14)) (fun (v15:Unit)=>(some (-1))))
def C_ed (v1:List Bool) (v2:Bool):Ctr:=⟨n_ed,[.imm 1 (v1.map V.bool),.bool v2],[],Int,x_ed v1 v2,rI⟩
theorem yc0 {v1:List Bool} {v2:Bool}:(C_ed v1 v2).okF tab:=fun r hr=>⟨za1 zyd rfl (.lenA V.bool v1<|.lp2 (L_ed_L1 v1 v2 ()) (fun (v14:Int)=>.lfA rI v14) (fun (v15:Unit)=>.lfA rI (-1)):Tree Int _) (by kernel_rfl) (by kernel_rfl) (lA<|lQ zup (fun v14=>rfl) (fun v15=>rfl)) hr,rfl,rfl⟩
def x_ee (v1:List Bool) (v2:Bool):Option Bool:=(x_ed v1 v2).bind fun v3=>(some (decide (0 <= v3)))
def C_ee (v1:List Bool) (v2:Bool):Ctr:=⟨n_ee,[.imm 1 (v1.map V.bool),.bool v2],[],Bool,x_ee v1 v2,rB⟩
theorem zxt {v1:List Bool} {v2:Bool}:(C_ee v1 v2).okF tab:=fun r hr=>⟨za1 yhh rfl (.callF (C_ed v1 v2) fun(v3:Int)=>.lfA rB (decide (0 <= v3)):Tree Bool _) (by kernel_rfl) (by kernel_rfl) (cF yc0 fun v3=>rfl) hr,rfl,rfl⟩
def x_ej (v1:Int) (v2:List Bool):Option Bool:=bif decide ((v2.length:Int)=(IntKind.i64.wrap ((IntKind.i64.wrap ((IntKind.i64.wrap (v1 + 7)).tdiv 8)) * 8))) then(if (0:Int) <= v1/\(v1:Int) <= (((v2.map V.bool).length:Nat):Int)/\(((v2.map V.bool).length:Nat):Int) <= (((v2.map V.bool).length:Nat):Int) then((x_ee ((v2.take ((((v2.map V.bool).length:Nat):Int).toNat)).drop ((v1:Int).toNat)) true).bind fun v4=>(some (!v4))) else none) else(some false)
def C_ej (v1:Int) (v2:List Bool):Ctr:=⟨n_ej,[.I v1,.imm 1 (v2.map V.bool)],[],Bool,x_ej v1 v2,rB⟩
theorem zx6 {v1:Int} {v2:List Bool}:(C_ej v1 v2).okF tab:=fun r hr=>⟨za1 yds rfl (.lenA V.bool v2<|.sk<|.br (decide ((v2.length:Int)=(IntKind.i64.wrap ((IntKind.i64.wrap ((IntKind.i64.wrap (v1 + 7)).tdiv 8)) * 8)))) (.guard ((0:Int) <= v1/\(v1:Int) <= (((v2.map V.bool).length:Nat):Int)/\(((v2.map V.bool).length:Nat):Int) <= (((v2.map V.bool).length:Nat):Int)) inferInstance<|.cutA V.bool v2 ((v1:Int).toNat) ((((v2.map V.bool).length:Nat):Int).toNat)<|.callF (C_ee ((v2.take ((((v2.map V.bool).length:Nat):Int).toNat)).drop ((v1:Int).toNat)) true) fun(v4:Bool)=>.lfA rB (!v4))<|.lfA rB false:Tree Bool _) (by kernel_rfl) (by kernel_rfl) (lA<|bR (gU<|⟨zne _ _ _ _,cF zxt fun v4=>rfl⟩)<|rfl) hr,rfl,rfl⟩
def J_ek_L1 (v1:List Int) (v2:List Int) (k:Int) (s:Unit):St:=⟨sv 9 [(0,.imm 1 (v1.map (V.int .i64))),(1,.imm 1 (v2.map (V.int .i64))),(5,.I (v1.length:Int)),(6,.I k)],[]⟩
def q0_ek_L1 (v1:List Int) (v2:List Int):Int->Ex × St:=fun p=>(.ret,⟨sv 9 [(0,.imm 1 (v1.map (V.int .i64))),(1,.imm 1 (v2.map (V.int .i64))),(2,.bool false),(3,.I p),(5,.I (v1.length:Int)),(6,.I p),(7,.bool true),(8,.bool true)],[]⟩)
def q1_ek_L1 (v1:List Int) (v2:List Int):Unit->Ex × St:=fun p=>((.exit 0),⟨sv 9 [(0,.imm 1 (v1.map (V.int .i64))),(1,.imm 1 (v2.map (V.int .i64))),(5,.I (v1.length:Int)),(6,.I (v1.length:Int)),(7,.bool false)],[]⟩)
def u_ek_L1 (v1:List Int) (v2:List Int) (k:Int):=outL (J_ek_L1 v1 v2 k) (Sum.elim (q0_ek_L1 v1 v2) (q1_ek_L1 v1 v2))
def b_ek_L1 (v1:List Int) (v2:List Int) (k:Int) (x:Int) (s:Unit):Option ((Unit) ⊕ (Int ⊕ Unit)):=((v2)[k.toNat]?).bind fun v18=>(bif decide (x ≠ v18) then(some (.inr (.inl k))) else(some (.inl ())))
def e_ek_L1 (v1:List Int) (v2:List Int) (s:Unit):Option (Int ⊕ Unit):=some ((.inr ()))
def x_ek_L1 (v1:List Int) (v2:List Int) (s:Unit):Option (Int ⊕ Unit):=if v1.length <= 9223372036854775806 then listN (b_ek_L1 v1 v2) (e_ek_L1 v1 v2) v1 0 s else none
def L_ek_L1 (v1:List Int) (v2:List Int) (s:Unit):Lc2:=⟨9,l_ek_0,0,[2,3,4,7,8],some (J_ek_L1 v1 v2 0 s),Int,Unit,x_ek_L1 v1 v2 s,q0_ek_L1 v1 v2,q1_ek_L1 v1 v2⟩
theorem zsm {v1:List Int} {v2:List Int} {s:Unit}:(L_ek_L1 v1 v2 s).ok tab:=zao (za6 (J:=J_ek_L1 v1 v2) (o:=(Sum.elim (q0_ek_L1 v1 v2) (q1_ek_L1 v1 v2))) v1 (B:=fun(k:Int) (x:Int) (s:Unit)=>(.kb (decide (k < (v1.length:Int))) true<|.ob (0 <= k)<|.lkX (V.int .i64) v1 (k.toNat) x<|.ob (0 <= k)<|.lookA (V.int .i64) v2 (k.toNat) fun v18=>.br (decide (x ≠ v18)) (.lfA (u_ek_L1 v1 v2 (IntKind.i64.wrap (k + 1))) (.inr (.inl k)))<|.lfA (u_ek_L1 v1 v2 (IntKind.i64.wrap (k + 1))) (.inl ()):Tree ((Unit) ⊕ (Int ⊕ Unit)) _)) (E:=fun(s:Unit)=>(.kb (decide ((v1.length:Int) < (v1.length:Int))) false<|.lfA (u_ek_L1 v1 v2 0) (.inr (.inr ())):Tree ((Unit) ⊕ (Int ⊕ Unit)) _)) (fun k x s=>by kernel_rfl) (fun d x t s he=>⟨ltX he,⟨Int.natCast_nonneg _,⟨za7 (V.int .i64) he,⟨Int.natCast_nonneg _,kA fun v18=>bR (rfl)<|rfl⟩⟩⟩⟩) (ho2 (fun _=>rfl) fun _=>rfl) (fun s=>by kernel_rfl) (fun s=>⟨ltE _,rfl⟩) (by kernel_rfl) (by kernel_rfl) s)
def x_ek (v1:List Int) (v2:List Int):Option Bool:=bif decide ((v1.length:Int) ≠ (v2.length:Int)) then(some false) else((x_ek_L1 v1 v2 ()).bind (sel2 (fun (v21:Int)=>(some false)) (fun (v22:Unit)=>(some true))))
def C_ek (v1:List Int) (v2:List Int):Ctr:=⟨n_ek,[.imm 1 (v1.map (V.int .i64)),.imm 1 (v2.map (V.int .i64))],[],Bool,x_ek v1 v2,rB⟩
theorem zwh {v1:List Int} {v2:List Int}:(C_ek v1 v2).okF tab:=fun r hr=>⟨za1 yec rfl (.lenA (V.int .i64) v1<|.lenA (V.int .i64) v2<|.br (decide ((v1.length:Int) ≠ (v2.length:Int))) (.lfA rB false)<|.lenA (V.int .i64) v1<|.lp2 (L_ek_L1 v1 v2 ()) (fun (v21:Int)=>.lfA rB false) (fun (v22:Unit)=>.lfA rB true):Tree Bool _) (by kernel_rfl) (by kernel_rfl) (lA<|lA<|bR (rfl)<|lA<|lQ zsm (fun v21=>rfl) (fun v22=>rfl)) hr,rfl,rfl⟩
def J_el_L1 (v1:List Bool) (v2:List Bool) (k:Int) (s:Unit):St:=⟨sv 9 [(0,.imm 1 (v1.map V.bool)),(1,.imm 1 (v2.map V.bool)),(5,.I (v1.length:Int)),(6,.I k)],[]⟩
def q0_el_L1 (v1:List Bool) (v2:List Bool):Int->Ex × St:=fun p=>(.ret,⟨sv 9 [(0,.imm 1 (v1.map V.bool)),(1,.imm 1 (v2.map V.bool)),(2,.bool false),(3,.I p),(5,.I (v1.length:Int)),(6,.I p),(7,.bool true),(8,.bool true)],[]⟩)
def q1_el_L1 (v1:List Bool) (v2:List Bool):Unit->Ex × St:=fun p=>((.exit 0),⟨sv 9 [(0,.imm 1 (v1.map V.bool)),(1,.imm 1 (v2.map V.bool)),(5,.I (v1.length:Int)),(6,.I (v1.length:Int)),(7,.bool false)],[]⟩)
def u_el_L1 (v1:List Bool) (v2:List Bool) (k:Int):=outL (J_el_L1 v1 v2 k) (Sum.elim (q0_el_L1 v1 v2) (q1_el_L1 v1 v2))
def b_el_L1 (v1:List Bool) (v2:List Bool) (k:Int) (x:Bool) (s:Unit):Option ((Unit) ⊕ (Int ⊕ Unit)):=((v2)[k.toNat]?).bind fun v18=>(bif true ^^ (x == v18) then(some (.inr (.inl k))) else(some (.inl ())))
def e_el_L1 (v1:List Bool) (v2:List Bool) (s:Unit):Option (Int ⊕ Unit):=some ((.inr ()))
def x_el_L1 (v1:List Bool) (v2:List Bool) (s:Unit):Option (Int ⊕ Unit):=if v1.length <= 9223372036854775806 then listN (b_el_L1 v1 v2) (e_el_L1 v1 v2) v1 0 s else none
def L_el_L1 (v1:List Bool) (v2:List Bool) (s:Unit):Lc2:=⟨9,l_el_0,0,[2,3,4,7,8],some (J_el_L1 v1 v2 0 s),Int,Unit,x_el_L1 v1 v2 s,q0_el_L1 v1 v2,q1_el_L1 v1 v2⟩
theorem zsj {v1:List Bool} {v2:List Bool} {s:Unit}:(L_el_L1 v1 v2 s).ok tab:=zao (za6 (J:=J_el_L1 v1 v2) (o:=(Sum.elim (q0_el_L1 v1 v2) (q1_el_L1 v1 v2))) v1 (B:=fun(k:Int) (x:Bool) (s:Unit)=>(.kb (decide (k < (v1.length:Int))) true<|.ob (0 <= k)<|.lkX V.bool v1 (k.toNat) x<|.ob (0 <= k)<|.lookA V.bool v2 (k.toNat) fun v18=>.br (true ^^ (x == v18)) (.lfA (u_el_L1 v1 v2 (IntKind.i64.wrap (k + 1))) (.inr (.inl k)))<|.lfA (u_el_L1 v1 v2 (IntKind.i64.wrap (k + 1))) (.inl ()):Tree ((Unit) ⊕ (Int ⊕ Unit)) _)) (E:=fun(s:Unit)=>(.kb (decide ((v1.length:Int) < (v1.length:Int))) false<|.lfA (u_el_L1 v1 v2 0) (.inr (.inr ())):Tree ((Unit) ⊕ (Int ⊕ Unit)) _)) (fun k x s=>by kernel_rfl) (fun d x t s he=>⟨ltX he,⟨Int.natCast_nonneg _,⟨za7 V.bool he,⟨Int.natCast_nonneg _,kA fun v18=>bR (rfl)<|rfl⟩⟩⟩⟩) (ho2 (fun _=>rfl) fun _=>rfl) (fun s=>by kernel_rfl) (fun s=>⟨ltE _,rfl⟩) (by kernel_rfl) (by kernel_rfl) s)
def x_el (v1:List Bool) (v2:List Bool):Option Bool:=bif decide ((v1.length:Int) ≠ (v2.length:Int)) then(some false) else((x_el_L1 v1 v2 ()).bind (sel2 (fun (v21:Int)=>(some false)) (fun (v22:Unit)=>(some true))))
def C_el (v1:List Bool) (v2:List Bool):Ctr:=⟨n_el,[.imm 1 (v1.map V.bool),.imm 1 (v2.map V.bool)],[],Bool,x_el v1 v2,rB⟩
theorem zwg {v1:List Bool} {v2:List Bool}:(C_el v1 v2).okF tab:=fun r hr=>⟨za1 yfb rfl (.lenA V.bool v1<|.lenA V.bool v2<|.br (decide ((v1.length:Int) ≠ (v2.length:Int))) (.lfA rB false)<|.lenA V.bool v1<|.lp2 (L_el_L1 v1 v2 ()) (fun (v21:Int)=>.lfA rB false) (fun (v22:Unit)=>.lfA rB true):Tree Bool _) (by kernel_rfl) (by kernel_rfl) (lA<|lA<|bR (rfl)<|lA<|lQ zsj (fun v21=>rfl) (fun v22=>rfl)) hr,rfl,rfl⟩
def x_em (v1:Tj) (v2:Te):Option Bool:=(x_ec v1).bind fun v3=>(bif !v3 then(some false) else((x_ei v2).bind fun v5=>(bif !v5 then(some false) else(bif decide (v2.fd ≠ v1.fd) then(some false) else(bif decide (v2.fae ≠ 0) then(some true) else(bif decide (v1.fd=1) then((x_ej v1.fN v2.fc).bind fun v10=>(some v10)) else(bif decide (v1.fd=2) then((x_ej v1.fN v2.fc).bind fun v12=>(some v12)) else(bif decide (v1.fd=3) then(some (decide ((v2.fb.length:Int)=v1.fN))) else(bif decide (v1.fd=4) then(some (decide ((v2.fb.length:Int)=v1.fN))) else(bif decide (v1.fd=23) then(some (decide ((v2.fb.length:Int)=v1.fN))) else(bif decide (v1.fd=15) then(bif decide (v2.fe=v1.fe) then((x_eb v1).bind fun v18=>(some (decide (v2.fN=v18)))) else(some false)) else(bif decide (v1.fd=16) then(bif decide (v2.fe=v1.fe) then((x_eb v1).bind fun v21=>(some (decide (v2.fN=v21)))) else(some false)) else(bif decide (v2.fe=v1.fe) then((x_ek v2.fb v1.fb).bind fun v23=>(bif v23 then((x_el v2.fc v1.fc).bind fun v25=>(some v25)) else(some false))) else(some false))))))))))))))
def C_em (v1:Tj) (v2:Te):Ctr:=⟨n_em,[.agg [.I v1.fd,.I v1.fe,.I v1.fN,.imm 1 (v1.fb.map (V.int .i64)),.imm 1 (v1.fc.map V.bool),.I v1.fi],.agg [.I v2.fd,.I v2.fae,.I v2.fe,.I v2.fN,.imm 1 (v2.fb.map (V.int .i64)),.imm 1 (v2.fc.map V.bool)]],[],Bool,x_em v1 v2,rB⟩
theorem yjy {v1:Tj} {v2:Te}:(C_em v1 v2).okF tab:=fun r hr=>⟨za1 ygh rfl (.callF (C_ec v1) fun(v3:Bool)=>.br (!v3) (.lfA rB false)<|.callF (C_ei v2) fun(v5:Bool)=>.br (!v5) (.lfA rB false)<|.br (decide (v2.fd ≠ v1.fd)) (.lfA rB false)<|.br (decide (v2.fae ≠ 0)) (.lfA rB true)<|.br (decide (v1.fd=1)) (.callF (C_ej v1.fN v2.fc) fun(v10:Bool)=>.lfA rB v10)<|.br (decide (v1.fd=2)) (.callF (C_ej v1.fN v2.fc) fun(v12:Bool)=>.lfA rB v12)<|.br (decide (v1.fd=3)) (.lenA (V.int .i64) v2.fb<|.lfA rB (decide ((v2.fb.length:Int)=v1.fN)))<|.br (decide (v1.fd=4)) (.lenA (V.int .i64) v2.fb<|.lfA rB (decide ((v2.fb.length:Int)=v1.fN)))<|.br (decide (v1.fd=23)) (.lenA (V.int .i64) v2.fb<|.lfA rB (decide ((v2.fb.length:Int)=v1.fN)))<|.br (decide (v1.fd=15)) (.br (decide (v2.fe=v1.fe)) (.callF (C_eb v1) fun(v18:Int)=>.lfA rB (decide (v2.fN=v18)))<|.lfA rB false)<|.br (decide (v1.fd=16)) (.br (decide (v2.fe=v1.fe)) (.callF (C_eb v1) fun(v21:Int)=>.lfA rB (decide (v2.fN=v21)))<|.lfA rB false)<|.br (decide (v2.fe=v1.fe)) (.callF (C_ek v2.fb v1.fb) fun(v23:Bool)=>.br v23 (.callF (C_el v2.fc v1.fc) fun(v25:Bool)=>.lfA rB v25)<|.lfA rB false)<|.lfA rB false:Tree Bool _) (by kernel_rfl) (by kernel_rfl) (cF zwb fun v3=>bR (rfl)<|cF yc2 fun v5=>bR (rfl)<|bR (rfl)<|bR (rfl)<|bR (cF zx6 fun v10=>rfl)<|bR (cF zx6 fun v12=>rfl)<|bR (lA<|rfl)<|bR (lA<|rfl)<|bR (lA<|rfl)<|bR (bR (cF zvz fun v18=>rfl)<|rfl)<|bR (bR (cF zvz fun v21=>rfl)<|rfl)<|bR (cF zwh fun v23=>bR (cF zwg fun v25=>rfl)<|rfl)<|rfl) hr,rfl,rfl⟩
def x_en (v1:Te) (v2:Te):Option Bool:=bif decide (v1.fd=v2.fd) then(bif decide (v1.fae=v2.fae) then(bif decide (v1.fe=v2.fe) then(bif decide (v1.fN=v2.fN) then((x_ek v1.fb v2.fb).bind fun v7=>(bif v7 then((x_el v1.fc v2.fc).bind fun v9=>(some v9)) else(some false))) else(some false)) else(some false)) else(some false)) else(some false)
def C_en (v1:Te) (v2:Te):Ctr:=⟨n_en,[.agg [.I v1.fd,.I v1.fae,.I v1.fe,.I v1.fN,.imm 1 (v1.fb.map (V.int .i64)),.imm 1 (v1.fc.map V.bool)],.agg [.I v2.fd,.I v2.fae,.I v2.fe,.I v2.fN,.imm 1 (v2.fb.map (V.int .i64)),.imm 1 (v2.fc.map V.bool)]],[],Bool,x_en v1 v2,rB⟩
theorem zxr {v1:Te} {v2:Te}:(C_en v1 v2).okF tab:=fun r hr=>⟨za1 ybb rfl (.br (decide (v1.fd=v2.fd)) (.br (decide (v1.fae=v2.fae)) (.br (decide (v1.fe=v2.fe)) (.br (decide (v1.fN=v2.fN)) (.callF (C_ek v1.fb v2.fb) fun(v7:Bool)=>.br v7 (.callF (C_el v1.fc v2.fc) fun(v9:Bool)=>.lfA rB v9)<|.lfA rB false)<|.lfA rB false)<|.lfA rB false)<|.lfA rB false)<|.lfA rB false:Tree Bool _) (by kernel_rfl) (by kernel_rfl) (bR (bR (bR (bR (cF zwh fun v7=>bR (cF zwg fun v9=>rfl)<|rfl)<|rfl)<|rfl)<|rfl)<|rfl) hr,rfl,rfl⟩
def J_eo_L1 (v1:Tb) (k:Int) (s:Unit):St:=⟨sv 12 [(1,.ref (.box 0) 0 []),(7,.imm 8 (v1.fm.map Tf.i)),(8,.I (v1.fm.length:Int)),(9,.I k)],[[.I v1.fk,.I v1.fah,.I v1.fai,.I v1.fg,.I v1.fa.fd,.I v1.fa.fe,.I v1.fa.fN,.imm 1 (v1.fa.fb.map (V.int .i64)),.imm 1 (v1.fa.fc.map V.bool),.I v1.fa.fi,.imm 8 (v1.fm.map Tf.i),.imm 1 (v1.ft.map V.bool),.imm 6 (v1.faa.map Te.i)]]⟩
def q0_eo_L1 (v1:Tb):(Int × Tf)->Ex × St:=fun p=>(.ret,⟨sv 12 [(1,.ref (.box 0) 0 []),(2,.bool false),(4,.I p.1),(5,.ref (.box 1) 0 []),(7,.imm 8 (v1.fm.map Tf.i)),(8,.I (v1.fm.length:Int)),(9,.I p.1),(10,.bool true),(11,.bool true)],[[.I v1.fk,.I v1.fah,.I v1.fai,.I v1.fg,.I v1.fa.fd,.I v1.fa.fe,.I v1.fa.fN,.imm 1 (v1.fa.fb.map (V.int .i64)),.imm 1 (v1.fa.fc.map V.bool),.I v1.fa.fi,.imm 8 (v1.fm.map Tf.i),.imm 1 (v1.ft.map V.bool),.imm 6 (v1.faa.map Te.i)],[.I p.2.fw,.I p.2.fg,.I p.2.fa.fd,.I p.2.fa.fe,.I p.2.fa.fN,.imm 1 (p.2.fa.fb.map (V.int .i64)),.imm 1 (p.2.fa.fc.map V.bool),.I p.2.fa.fi]]⟩)
def q1_eo_L1 (v1:Tb):Unit->Ex × St:=fun p=>((.exit 0),⟨sv 12 [(1,.ref (.box 0) 0 []),(7,.imm 8 (v1.fm.map Tf.i)),(8,.I (v1.fm.length:Int)),(9,.I (v1.fm.length:Int)),(10,.bool false)],[[.I v1.fk,.I v1.fah,.I v1.fai,.I v1.fg,.I v1.fa.fd,.I v1.fa.fe,.I v1.fa.fN,.imm 1 (v1.fa.fb.map (V.int .i64)),.imm 1 (v1.fa.fc.map V.bool),.I v1.fa.fi,.imm 8 (v1.fm.map Tf.i),.imm 1 (v1.ft.map V.bool),.imm 6 (v1.faa.map Te.i)]]⟩)
def u_eo_L1 (v1:Tb) (k:Int):=outL (J_eo_L1 v1 k) (Sum.elim (q0_eo_L1 v1) (q1_eo_L1 v1))
def b_eo_L1 (v1:Tb) (k:Int) (x:Tf) (s:Unit):Option ((Unit) ⊕ ((Int × Tf) ⊕ Unit)):=(x_ef x).bind fun v55=>(bif !v55 then(some (.inr (.inl (k,x)))) else(((v1.ft)[k.toNat]?).bind fun v57=>(bif v57 then(((v1.faa)[k.toNat]?).bind fun v60=>((x_em x.fa v60).bind fun v62=>(bif !v62 then(some (.inr (.inl (k,x)))) else(bif !v57 then((x_en v60 (⟨0,0,0,0,[],[]⟩:Te)).bind fun v65=>(bif !v65 then(some (.inr (.inl (k,x)))) else(some (.inl ())))) else(some (.inl ())))))) else(bif !v57 then(((v1.faa)[k.toNat]?).bind fun v68=>((x_en v68 (⟨0,0,0,0,[],[]⟩:Te)).bind fun v70=>(bif !v70 then(some (.inr (.inl (k,x)))) else(some (.inl ()))))) else(some (.inl ()))))))
def e_eo_L1 (v1:Tb) (s:Unit):Option ((Int × Tf) ⊕ Unit):=some ((.inr ()))
def x_eo_L1 (v1:Tb) (s:Unit):Option ((Int × Tf) ⊕ Unit):=if v1.fm.length <= 9223372036854775806 then listN (b_eo_L1 v1) (e_eo_L1 v1) v1.fm 0 s else none
def L_eo_L1 (v1:Tb) (s:Unit):Lc2:=⟨12,l_eo_0,1,[0,2,3,4,5,6,10,11],some (J_eo_L1 v1 0 s),Int × Tf,Unit,x_eo_L1 v1 s,q0_eo_L1 v1,q1_eo_L1 v1⟩
theorem zsh {v1:Tb} {s:Unit}:(L_eo_L1 v1 s).ok tab:=zao (za6 (J:=J_eo_L1 v1) (o:=(Sum.elim (q0_eo_L1 v1) (q1_eo_L1 v1))) v1.fm (B:=fun(k:Int) (x:Tf) (s:Unit)=>(.kb (decide (k < (v1.fm.length:Int))) true<|.ob (0 <= k)<|.lkX Tf.i v1.fm (k.toNat) x<|.callF (C_ef x) fun(v55:Bool)=>.br (!v55) (.lfA (u_eo_L1 v1 (IntKind.i64.wrap (k + 1))) (.inr (.inl (k,x))))<|.ob (0 <= k)<|.lookA V.bool v1.ft (k.toNat) fun v57=>.br v57 (.ob (0 <= k)<|.lookA Te.i v1.faa (k.toNat) fun v60=>.callF (C_em x.fa v60) fun(v62:Bool)=>.br (!v62) (.lfA (u_eo_L1 v1 (IntKind.i64.wrap (k + 1))) (.inr (.inl (k,x))))<|.ob (0 <= k)<|.lkX V.bool v1.ft (k.toNat) v57<|.br (!v57) (.ob (0 <= k)<|.lkX Te.i v1.faa (k.toNat) v60<|.seg [] 0 0 []<|.eqL [] []<|.seg [] 0 0 []<|.eqL [] []<|.callF (C_en v60 (⟨0,0,0,0,[],[]⟩:Te)) fun(v65:Bool)=>.br (!v65) (.lfA (u_eo_L1 v1 (IntKind.i64.wrap (k + 1))) (.inr (.inl (k,x))))<|.lfA (u_eo_L1 v1 (IntKind.i64.wrap (k + 1))) (.inl ()))<|.lfA (u_eo_L1 v1 (IntKind.i64.wrap (k + 1))) (.inl ()))<|.ob (0 <= k)<|.lkX V.bool v1.ft (k.toNat) v57<|.br (!v57) (.ob (0 <= k)<|.lookA Te.i v1.faa (k.toNat) fun v68=>.seg [] 0 0 []<|.eqL [] []<|.seg [] 0 0 []<|.eqL [] []<|.callF (C_en v68 (⟨0,0,0,0,[],[]⟩:Te)) fun(v70:Bool)=>.br (!v70) (.lfA (u_eo_L1 v1 (IntKind.i64.wrap (k + 1))) (.inr (.inl (k,x))))<|.lfA (u_eo_L1 v1 (IntKind.i64.wrap (k + 1))) (.inl ()))<|.lfA (u_eo_L1 v1 (IntKind.i64.wrap (k + 1))) (.inl ()):Tree ((Unit) ⊕ ((Int × Tf) ⊕ Unit)) _)) (E:=fun(s:Unit)=>(.kb (decide ((v1.fm.length:Int) < (v1.fm.length:Int))) false<|.lfA (u_eo_L1 v1 0) (.inr (.inr ())):Tree ((Unit) ⊕ ((Int × Tf) ⊕ Unit)) _)) (fun k x s=>by kernel_rfl) (fun d x t s he=>⟨ltX he,⟨Int.natCast_nonneg _,⟨za7 Tf.i he,cF ymi fun v55=>bR (rfl)<|⟨Int.natCast_nonneg _,⟨zbu _ _ _,fun v57 h58=>bR (⟨Int.natCast_nonneg _,⟨zbu _ _ _,fun v60 h61=>cF yjy fun v62=>bR (rfl)<|⟨Int.natCast_nonneg _,⟨zav _ h58,bR (⟨Int.natCast_nonneg _,⟨zav _ h61,⟨zce [],⟨rfl,⟨zce [],⟨rfl,cF zxr fun v65=>bR (rfl)<|rfl⟩⟩⟩⟩⟩⟩)<|rfl⟩⟩⟩⟩)<|⟨Int.natCast_nonneg _,⟨zav _ h58,bR (⟨Int.natCast_nonneg _,kA fun v68=>⟨zce [],⟨rfl,⟨zce [],⟨rfl,cF zxr fun v70=>bR (rfl)<|rfl⟩⟩⟩⟩⟩)<|rfl⟩⟩⟩⟩⟩⟩⟩) (ho2 (fun _=>rfl) fun _=>rfl) (fun s=>by kernel_rfl) (fun s=>⟨ltE _,rfl⟩) (by kernel_rfl) (by kernel_rfl) s)
def x_eo (v1:Tb):Option Bool:=bif decide (v1.fk < 0) then(some false) else((x_du v1.fah).bind fun v3=>(bif !v3 then(some false) else((x_du v1.fai).bind fun v5=>(bif !v5 then(some false) else((x_ec v1.fa).bind fun v7=>(bif !v7 then(some false) else((x_di (v1.fm.length:Int) 1 8).bind fun v9=>(bif !v9 then(some false) else(bif decide ((v1.ft.length:Int) ≠ (v1.fm.length:Int)) then(some false) else(bif decide ((v1.faa.length:Int) ≠ (v1.fm.length:Int)) then(some false) else((x_eo_L1 v1 ()).bind (sel2 (fun (v72:Int × Tf)=>(some false)) (fun (v73:Unit)=>((x_ee v1.ft false).bind fun v74=>(some v74)))))))))))))))
def C_eo (v1:Tb):Ctr:=⟨n_eo,[.agg [.I v1.fk,.I v1.fah,.I v1.fai,.I v1.fg,.I v1.fa.fd,.I v1.fa.fe,.I v1.fa.fN,.imm 1 (v1.fa.fb.map (V.int .i64)),.imm 1 (v1.fa.fc.map V.bool),.I v1.fa.fi,.imm 8 (v1.fm.map Tf.i),.imm 1 (v1.ft.map V.bool),.imm 6 (v1.faa.map Te.i)]],[],Bool,x_eo v1,rB⟩
theorem ygl {v1:Tb}:(C_eo v1).okF tab:=fun r hr=>⟨za1 yfs rfl (.lenA Tf.i v1.fm<|.br (decide (v1.fk < 0)) (.lfA rB false)<|.callF (C_du v1.fah) fun(v3:Bool)=>.br (!v3) (.lfA rB false)<|.callF (C_du v1.fai) fun(v5:Bool)=>.br (!v5) (.lfA rB false)<|.callF (C_ec v1.fa) fun(v7:Bool)=>.br (!v7) (.lfA rB false)<|.callF (C_di (v1.fm.length:Int) 1 8) fun(v9:Bool)=>.br (!v9) (.lfA rB false)<|.lenA V.bool v1.ft<|.br (decide ((v1.ft.length:Int) ≠ (v1.fm.length:Int))) (.lfA rB false)<|.lenA Te.i v1.faa<|.br (decide ((v1.faa.length:Int) ≠ (v1.fm.length:Int))) (.lfA rB false)<|.lenA Tf.i v1.fm<|.lp2 (L_eo_L1 v1 ()) (fun (v72:Int × Tf)=>.lfA rB false) (fun (v73:Unit)=>.callF (C_ee v1.ft false) fun(v74:Bool)=>.lfA rB v74):Tree Bool _) (by kernel_rfl) (by kernel_rfl) (lA<|bR (rfl)<|cF zrt fun v3=>bR (rfl)<|cF zrt fun v5=>bR (rfl)<|cF zwb fun v7=>bR (rfl)<|cF zgz fun v9=>bR (rfl)<|lA<|bR (rfl)<|lA<|bR (rfl)<|lA<|lQ zsh (fun v72=>rfl) (fun v73=>cF zxt fun v74=>rfl)) hr,rfl,rfl⟩
def J_ep_L1 (v1:To) (k:Int) (s:Unit):St:=⟨sv 10 [(1,.ref (.box 0) 0 []),(5,.imm 13 (v1.fj.map Tb.i)),(6,.I (v1.fj.length:Int)),(7,.I k)],[[.I v1.fu,.imm 13 (v1.fj.map Tb.i)]]⟩
def q0_ep_L1 (v1:To):(Int × Tb)->Ex × St:=fun p=>(.ret,⟨sv 10 [(1,.ref (.box 0) 0 []),(2,.bool false),(3,.I p.1),(4,.ref (.box 1) 0 []),(5,.imm 13 (v1.fj.map Tb.i)),(6,.I (v1.fj.length:Int)),(7,.I p.1),(8,.bool true),(9,.bool true)],[[.I v1.fu,.imm 13 (v1.fj.map Tb.i)],[.I p.2.fk,.I p.2.fah,.I p.2.fai,.I p.2.fg,.I p.2.fa.fd,.I p.2.fa.fe,.I p.2.fa.fN,.imm 1 (p.2.fa.fb.map (V.int .i64)),.imm 1 (p.2.fa.fc.map V.bool),.I p.2.fa.fi,.imm 8 (p.2.fm.map Tf.i),.imm 1 (p.2.ft.map V.bool),.imm 6 (p.2.faa.map Te.i)]]⟩)
def q1_ep_L1 (v1:To):Unit->Ex × St:=fun p=>((.exit 0),⟨sv 10 [(1,.ref (.box 0) 0 []),(5,.imm 13 (v1.fj.map Tb.i)),(6,.I (v1.fj.length:Int)),(7,.I (v1.fj.length:Int)),(8,.bool false)],[[.I v1.fu,.imm 13 (v1.fj.map Tb.i)]]⟩)
def u_ep_L1 (v1:To) (k:Int):=outL (J_ep_L1 v1 k) (Sum.elim (q0_ep_L1 v1) (q1_ep_L1 v1))
def b_ep_L1 (v1:To) (k:Int) (x:Tb) (s:Unit):Option ((Unit) ⊕ ((Int × Tb) ⊕ Unit)):=(x_eo x).bind fun v20=>(bif !v20 then(some (.inr (.inl (k,x)))) else(bif decide (v1.fu <= x.fk) then(some (.inr (.inl (k,x)))) else(bif decide (0 < k) then(if 0 <= (IntKind.i64.wrap (k - 1)) then(((v1.fj)[(IntKind.i64.wrap (k - 1)).toNat]?).bind fun v24=>(bif decide (x.fk <= v24.fk) then(some (.inr (.inl (k,x)))) else(some (.inl ())))) else none) else(some (.inl ())))))
def e_ep_L1 (v1:To) (s:Unit):Option ((Int × Tb) ⊕ Unit):=some ((.inr ()))
def x_ep_L1 (v1:To) (s:Unit):Option ((Int × Tb) ⊕ Unit):=if v1.fj.length <= 9223372036854775806 then listN (b_ep_L1 v1) (e_ep_L1 v1) v1.fj 0 s else none
def L_ep_L1 (v1:To) (s:Unit):Lc2:=⟨10,l_ep_0,1,[0,2,3,4,8,9],some (J_ep_L1 v1 0 s),Int × Tb,Unit,x_ep_L1 v1 s,q0_ep_L1 v1,q1_ep_L1 v1⟩
theorem zsx {v1:To} {s:Unit}:(L_ep_L1 v1 s).ok tab:=zao (za6 (J:=J_ep_L1 v1) (o:=(Sum.elim (q0_ep_L1 v1) (q1_ep_L1 v1))) v1.fj (B:=fun(k:Int) (x:Tb) (s:Unit)=>(.kb (decide (k < (v1.fj.length:Int))) true<|.ob (0 <= k)<|.lkX Tb.i v1.fj (k.toNat) x<|.callF (C_eo x) fun(v20:Bool)=>.br (!v20) (.lfA (u_ep_L1 v1 (IntKind.i64.wrap (k + 1))) (.inr (.inl (k,x))))<|.br (decide (v1.fu <= x.fk)) (.lfA (u_ep_L1 v1 (IntKind.i64.wrap (k + 1))) (.inr (.inl (k,x))))<|.br (decide (0 < k)) (.guard (0 <= (IntKind.i64.wrap (k - 1))) inferInstance<|.lookA Tb.i v1.fj ((IntKind.i64.wrap (k - 1)).toNat) fun v24=>.br (decide (x.fk <= v24.fk)) (.lfA (u_ep_L1 v1 (IntKind.i64.wrap (k + 1))) (.inr (.inl (k,x))))<|.lfA (u_ep_L1 v1 (IntKind.i64.wrap (k + 1))) (.inl ()))<|.lfA (u_ep_L1 v1 (IntKind.i64.wrap (k + 1))) (.inl ()):Tree ((Unit) ⊕ ((Int × Tb) ⊕ Unit)) _)) (E:=fun(s:Unit)=>(.kb (decide ((v1.fj.length:Int) < (v1.fj.length:Int))) false<|.lfA (u_ep_L1 v1 0) (.inr (.inr ())):Tree ((Unit) ⊕ ((Int × Tb) ⊕ Unit)) _)) (fun k x s=>by kernel_rfl) (fun d x t s he=>⟨ltX he,⟨Int.natCast_nonneg _,⟨za7 Tb.i he,cF ygl fun v20=>bR (rfl)<|bR (rfl)<|bR (gU<|kA fun v24=>bR (rfl)<|rfl)<|rfl⟩⟩⟩) (ho2 (fun _=>rfl) fun _=>rfl) (fun s=>by kernel_rfl) (fun s=>⟨ltE _,rfl⟩) (by kernel_rfl) (by kernel_rfl) s)
def x_ep (v1:To):Option Bool:=(x_ep_L1 v1 ()).bind (sel2 (fun (v27:Int × Tb)=>(some false)) (fun (v28:Unit)=>((x_du v1.fu).bind fun v29=>(bif v29 then(some (decide ((v1.fj.length:Int) <= 16))) else(some false)))))
def C_ep (v1:To):Ctr:=⟨n_ep,[.agg [.I v1.fu,.imm 13 (v1.fj.map Tb.i)]],[],Bool,x_ep v1,rB⟩
theorem zwv {v1:To}:(C_ep v1).okF tab:=fun r hr=>⟨za1 ycz rfl (.lenA Tb.i v1.fj<|.lp2 (L_ep_L1 v1 ()) (fun (v27:Int × Tb)=>.lfA rB false) (fun (v28:Unit)=>.callF (C_du v1.fu) fun(v29:Bool)=>.br v29 (.lenA Tb.i v1.fj<|.lfA rB (decide ((v1.fj.length:Int) <= 16)))<|.lfA rB false):Tree Bool _) (by kernel_rfl) (by kernel_rfl) (lA<|lQ zsx (fun v27=>rfl) (fun v28=>cF zrt fun v29=>bR (lA<|rfl)<|rfl)) hr,rfl,rfl⟩
def x_ey (v1:Ta):Option Bool:=(x_du v1.fk).bind fun v2=>(bif v2 then((x_di v1.fq 0 7).bind fun v4=>(bif v4 then((x_dl v1.fg).bind fun v6=>(bif v6 then((x_ec v1.fa).bind fun v8=>(some v8)) else(some false))) else(some false))) else(some false))
def C_ey (v1:Ta):Ctr:=⟨n_ey,[.agg [.I v1.fk,.I v1.fq,.I v1.fg,.I v1.fa.fd,.I v1.fa.fe,.I v1.fa.fN,.imm 1 (v1.fa.fb.map (V.int .i64)),.imm 1 (v1.fa.fc.map V.bool),.I v1.fa.fi]],[],Bool,x_ey v1,rB⟩
theorem zwq {v1:Ta}:(C_ey v1).okF tab:=fun r hr=>⟨za1 zz4 rfl (.callF (C_du v1.fk) fun(v2:Bool)=>.br v2 (.callF (C_di v1.fq 0 7) fun(v4:Bool)=>.br v4 (.callF (C_dl v1.fg) fun(v6:Bool)=>.br v6 (.callF (C_ec v1.fa) fun(v8:Bool)=>.lfA rB v8)<|.lfA rB false)<|.lfA rB false)<|.lfA rB false:Tree Bool _) (by kernel_rfl) (by kernel_rfl) (cF zrt fun v2=>bR (cF zgz fun v4=>bR (cF zwa fun v6=>bR (cF zwb fun v8=>rfl)<|rfl)<|rfl)<|rfl) hr,rfl,rfl⟩
def x_et (v1:Tj) (v2:Tj):Option Bool:=bif decide (v1.fd=v2.fd) then(bif decide (v1.fe=v2.fe) then(bif decide (v1.fN=v2.fN) then(bif decide (v1.fi=v2.fi) then((x_ek v1.fb v2.fb).bind fun v7=>(bif v7 then((x_el v1.fc v2.fc).bind fun v9=>(some v9)) else(some false))) else(some false)) else(some false)) else(some false)) else(some false)
def C_et (v1:Tj) (v2:Tj):Ctr:=⟨n_et,[.agg [.I v1.fd,.I v1.fe,.I v1.fN,.imm 1 (v1.fb.map (V.int .i64)),.imm 1 (v1.fc.map V.bool),.I v1.fi],.agg [.I v2.fd,.I v2.fe,.I v2.fN,.imm 1 (v2.fb.map (V.int .i64)),.imm 1 (v2.fc.map V.bool),.I v2.fi]],[],Bool,x_et v1 v2,rB⟩
theorem zxj {v1:Tj} {v2:Tj}:(C_et v1 v2).okF tab:=fun r hr=>⟨za1 yh3 rfl (.br (decide (v1.fd=v2.fd)) (.br (decide (v1.fe=v2.fe)) (.br (decide (v1.fN=v2.fN)) (.br (decide (v1.fi=v2.fi)) (.callF (C_ek v1.fb v2.fb) fun(v7:Bool)=>.br v7 (.callF (C_el v1.fc v2.fc) fun(v9:Bool)=>.lfA rB v9)<|.lfA rB false)<|.lfA rB false)<|.lfA rB false)<|.lfA rB false)<|.lfA rB false:Tree Bool _) (by kernel_rfl) (by kernel_rfl) (bR (bR (bR (bR (cF zwh fun v7=>bR (cF zwg fun v9=>rfl)<|rfl)<|rfl)<|rfl)<|rfl)<|rfl) hr,rfl,rfl⟩
def x_ex (v1:Ta):Option Bool:=bif decide (v1.fk=0) then(bif decide (v1.fq=0) then(bif decide (v1.fg=0) then((x_et v1.fa (⟨0,0,0,[],[],0⟩:Tj)).bind fun v5=>(some v5)) else(some false)) else(some false)) else(some false)
def C_ex (v1:Ta):Ctr:=⟨n_ex,[.agg [.I v1.fk,.I v1.fq,.I v1.fg,.I v1.fa.fd,.I v1.fa.fe,.I v1.fa.fN,.imm 1 (v1.fa.fb.map (V.int .i64)),.imm 1 (v1.fa.fc.map V.bool),.I v1.fa.fi]],[],Bool,x_ex v1,rB⟩
theorem yf3 {v1:Ta}:(C_ex v1).okF tab:=fun r hr=>⟨za1 yh5 rfl (.br (decide (v1.fk=0)) (.br (decide (v1.fq=0)) (.br (decide (v1.fg=0)) (.seg [] 0 0 []<|.eqL [] []<|.seg [] 0 0 []<|.eqL [] []<|.callF (C_et v1.fa (⟨0,0,0,[],[],0⟩:Tj)) fun(v5:Bool)=>.lfA rB v5)<|.lfA rB false)<|.lfA rB false)<|.lfA rB false:Tree Bool _) (by kernel_rfl) (by kernel_rfl) (bR (bR (bR (⟨zce [],⟨rfl,⟨zce [],⟨rfl,cF zxj fun v5=>rfl⟩⟩⟩⟩)<|rfl)<|rfl)<|rfl) hr,rfl,rfl⟩
def J_ez_L1 (v1:Tc) (k:Int) (s:Unit):St:=⟨sv 11 [(1,.ref (.box 0) 0 []),(5,.imm 9 (v1.fab.map Ta.i)),(6,.I (v1.fab.length:Int)),(7,.I k)],[[.imm 9 (v1.fab.map Ta.i),.bool v1.far,.I v1.ff.fk,.I v1.ff.fq,.I v1.ff.fg,.I v1.ff.fa.fd,.I v1.ff.fa.fe,.I v1.ff.fa.fN,.imm 1 (v1.ff.fa.fb.map (V.int .i64)),.imm 1 (v1.ff.fa.fc.map V.bool),.I v1.ff.fa.fi,.I v1.fag,.I v1.fas,.I v1.fat,.I v1.fu,.I v1.fad,.I v1.fac]]⟩
def q0_ez_L1 (v1:Tc):(Int × Ta)->Ex × St:=fun p=>(.ret,⟨sv 11 [(1,.ref (.box 0) 0 []),(2,.bool false),(3,.ref (.box 1) 0 []),(5,.imm 9 (v1.fab.map Ta.i)),(6,.I (v1.fab.length:Int)),(7,.I p.1),(8,.bool true),(9,.bool true)],[[.imm 9 (v1.fab.map Ta.i),.bool v1.far,.I v1.ff.fk,.I v1.ff.fq,.I v1.ff.fg,.I v1.ff.fa.fd,.I v1.ff.fa.fe,.I v1.ff.fa.fN,.imm 1 (v1.ff.fa.fb.map (V.int .i64)),.imm 1 (v1.ff.fa.fc.map V.bool),.I v1.ff.fa.fi,.I v1.fag,.I v1.fas,.I v1.fat,.I v1.fu,.I v1.fad,.I v1.fac],[.I p.2.fk,.I p.2.fq,.I p.2.fg,.I p.2.fa.fd,.I p.2.fa.fe,.I p.2.fa.fN,.imm 1 (p.2.fa.fb.map (V.int .i64)),.imm 1 (p.2.fa.fc.map V.bool),.I p.2.fa.fi]]⟩)
def q1_ez_L1 (v1:Tc):Unit->Ex × St:=fun p=>((.exit 0),⟨sv 11 [(1,.ref (.box 0) 0 []),(5,.imm 9 (v1.fab.map Ta.i)),(6,.I (v1.fab.length:Int)),(7,.I (v1.fab.length:Int)),(8,.bool false)],[[.imm 9 (v1.fab.map Ta.i),.bool v1.far,.I v1.ff.fk,.I v1.ff.fq,.I v1.ff.fg,.I v1.ff.fa.fd,.I v1.ff.fa.fe,.I v1.ff.fa.fN,.imm 1 (v1.ff.fa.fb.map (V.int .i64)),.imm 1 (v1.ff.fa.fc.map V.bool),.I v1.ff.fa.fi,.I v1.fag,.I v1.fas,.I v1.fat,.I v1.fu,.I v1.fad,.I v1.fac]]⟩)
def u_ez_L1 (v1:Tc) (k:Int):=outL (J_ez_L1 v1 k) (Sum.elim (q0_ez_L1 v1) (q1_ez_L1 v1))
def b_ez_L1 (v1:Tc) (k:Int) (x:Ta) (s:Unit):Option ((Unit) ⊕ ((Int × Ta) ⊕ Unit)):=(x_ey x).bind fun v19=>(bif !v19 then(some (.inr (.inl (k,x)))) else(some (.inl ())))
def e_ez_L1 (v1:Tc) (s:Unit):Option ((Int × Ta) ⊕ Unit):=some ((.inr ()))
def x_ez_L1 (v1:Tc) (s:Unit):Option ((Int × Ta) ⊕ Unit):=if v1.fab.length <= 9223372036854775806 then listN (b_ez_L1 v1) (e_ez_L1 v1) v1.fab 0 s else none
def L_ez_L1 (v1:Tc) (s:Unit):Lc2:=⟨11,l_ez_0,1,[0,2,3,4,8,9,10],some (J_ez_L1 v1 0 s),Int × Ta,Unit,x_ez_L1 v1 s,q0_ez_L1 v1,q1_ez_L1 v1⟩
theorem ztc {v1:Tc} {s:Unit}:(L_ez_L1 v1 s).ok tab:=zao (za6 (J:=J_ez_L1 v1) (o:=(Sum.elim (q0_ez_L1 v1) (q1_ez_L1 v1))) v1.fab (B:=fun(k:Int) (x:Ta) (s:Unit)=>(.kb (decide (k < (v1.fab.length:Int))) true<|.ob (0 <= k)<|.lkX Ta.i v1.fab (k.toNat) x<|.callF (C_ey x) fun(v19:Bool)=>.br (!v19) (.lfA (u_ez_L1 v1 (IntKind.i64.wrap (k + 1))) (.inr (.inl (k,x))))<|.lfA (u_ez_L1 v1 (IntKind.i64.wrap (k + 1))) (.inl ()):Tree ((Unit) ⊕ ((Int × Ta) ⊕ Unit)) _)) (E:=fun(s:Unit)=>(.kb (decide ((v1.fab.length:Int) < (v1.fab.length:Int))) false<|.lfA (u_ez_L1 v1 0) (.inr (.inr ())):Tree ((Unit) ⊕ ((Int × Ta) ⊕ Unit)) _)) (fun k x s=>by kernel_rfl) (fun d x t s he=>⟨ltX he,⟨Int.natCast_nonneg _,⟨za7 Ta.i he,cF zwq fun v19=>bR (rfl)<|rfl⟩⟩⟩) (ho2 (fun _=>rfl) fun _=>rfl) (fun s=>by kernel_rfl) (fun s=>⟨ltE _,rfl⟩) (by kernel_rfl) (by kernel_rfl) s)
def x_ez (v1:Tc):Option Bool:=(x_dk v1.fad v1.fac).bind fun v2=>(bif !v2 then(some false) else(bif decide (40 < (v1.fab.length:Int)) then(some false) else((x_dm v1.fu).bind fun v5=>(bif !v5 then(some false) else((x_ez_L1 v1 ()).bind (sel2 (fun (v21:Int × Ta)=>(some false)) (fun (v22:Unit)=>(bif !v1.far then((x_ex v1.ff).bind fun v24=>(bif v24 then(bif decide (v1.fag=0) then(bif decide (v1.fas=0) then(some (decide (v1.fat=0))) else(some false)) else(some false)) else(some false))) else((x_ey v1.ff).bind fun v28=>(bif v28 then((x_dm v1.fag).bind fun v30=>(bif v30 then((x_dj v1.fas).bind fun v32=>(bif v32 then((x_di v1.fat 0 v1.fac).bind fun v34=>(some v34)) else(some false))) else(some false))) else(some false)))))))))))
def C_ez (v1:Tc):Ctr:=⟨n_ez,[.agg [.imm 9 (v1.fab.map Ta.i),.bool v1.far,.I v1.ff.fk,.I v1.ff.fq,.I v1.ff.fg,.I v1.ff.fa.fd,.I v1.ff.fa.fe,.I v1.ff.fa.fN,.imm 1 (v1.ff.fa.fb.map (V.int .i64)),.imm 1 (v1.ff.fa.fc.map V.bool),.I v1.ff.fa.fi,.I v1.fag,.I v1.fas,.I v1.fat,.I v1.fu,.I v1.fad,.I v1.fac]],[],Bool,x_ez v1,rB⟩
theorem zxz {v1:Tc}:(C_ez v1).okF tab:=fun r hr=>⟨za1 zya rfl (.callF (C_dk v1.fad v1.fac) fun(v2:Bool)=>.br (!v2) (.lfA rB false)<|.lenA Ta.i v1.fab<|.br (decide (40 < (v1.fab.length:Int))) (.lfA rB false)<|.callF (C_dm v1.fu) fun(v5:Bool)=>.br (!v5) (.lfA rB false)<|.lenA Ta.i v1.fab<|.lp2 (L_ez_L1 v1 ()) (fun (v21:Int × Ta)=>.lfA rB false) (fun (v22:Unit)=>.br (!v1.far) (.callF (C_ex v1.ff) fun(v24:Bool)=>.br v24 (.br (decide (v1.fag=0)) (.br (decide (v1.fas=0)) (.lfA rB (decide (v1.fat=0)))<|.lfA rB false)<|.lfA rB false)<|.lfA rB false)<|.callF (C_ey v1.ff) fun(v28:Bool)=>.br v28 (.callF (C_dm v1.fag) fun(v30:Bool)=>.br v30 (.callF (C_dj v1.fas) fun(v32:Bool)=>.br v32 (.callF (C_di v1.fat 0 v1.fac) fun(v34:Bool)=>.lfA rB v34)<|.lfA rB false)<|.lfA rB false)<|.lfA rB false):Tree Bool _) (by kernel_rfl) (by kernel_rfl) (cF zwz fun v2=>bR (rfl)<|lA<|bR (rfl)<|cF zjl fun v5=>bR (rfl)<|lA<|lQ ztc (fun v21=>rfl) (fun v22=>bR (cF yf3 fun v24=>bR (bR (bR (rfl)<|rfl)<|rfl)<|rfl)<|cF zwq fun v28=>bR (cF zjl fun v30=>bR (cF zx4 fun v32=>bR (cF zgz fun v34=>rfl)<|rfl)<|rfl)<|rfl)) hr,rfl,rfl⟩
def C_fa (a:List Ta):Ctr:=⟨n_fa,[.imm 9 (a.map Ta.i)],[],List Ta,if a.length * 104 <= 70368744177664 then some a else none,fun r=>(.own 9 (r.map Ta.i),[])⟩
theorem yhm {a:List Ta}:(C_fa a).ok tab:=znu yg2 Ta.i a
def o_fb:List Ta->V × List (List V):=fun r=>(.own 9 (r.map Ta.i),[])
def x_fb (v1:Tc):Option (List Ta):=(if v1.fab.length * 104 <= 70368744177664 then some v1.fab else none).bind fun v2=>(bif v1.far then(if ((v2.map Ta.i).length + (([v1.ff]:List Ta).map Ta.i).length) * 104 <= 70368744177664 then(some (v2 ++ ([v1.ff]:List Ta))) else none) else(some v2))
def C_fb (v1:Tc):Ctr:=⟨n_fb,[.agg [.imm 9 (v1.fab.map Ta.i),.bool v1.far,.I v1.ff.fk,.I v1.ff.fq,.I v1.ff.fg,.I v1.ff.fa.fd,.I v1.ff.fa.fe,.I v1.ff.fa.fN,.imm 1 (v1.ff.fa.fb.map (V.int .i64)),.imm 1 (v1.ff.fa.fc.map V.bool),.I v1.ff.fa.fi,.I v1.fag,.I v1.fas,.I v1.fat,.I v1.fu,.I v1.fad,.I v1.fac]],[],List Ta,x_fb v1,o_fb⟩
theorem zwo {v1:Tc}:(C_fb v1).ok tab:=fun r hr=>za1 ybv rfl (.call (C_fa v1.fab) fun(v2:List Ta)=>.segA Ta.i v2<|.br v1.far (.eqL [.agg [.int .i64 v1.ff.fk,.int .i64 v1.ff.fq,.int .i64 v1.ff.fg,.int .i64 v1.ff.fa.fd,.int .i64 v1.ff.fa.fe,.int .i64 v1.ff.fa.fN,.imm 1 (v1.ff.fa.fb.map (V.int .i64)),.imm 1 (v1.ff.fa.fc.map V.bool),.int .i64 v1.ff.fa.fi]] (([v1.ff]:List Ta).map Ta.i)<|.segA Ta.i v2<|.segA Ta.i ([v1.ff]:List Ta)<|.guard (((v2.map Ta.i).length + (([v1.ff]:List Ta).map Ta.i).length) * 104 <= 70368744177664) inferInstance<|.appA Ta.i v2 ([v1.ff]:List Ta)<|.segA Ta.i (v2 ++ ([v1.ff]:List Ta))<|.segA Ta.i (v2 ++ ([v1.ff]:List Ta))<|.lfA o_fb (v2 ++ ([v1.ff]:List Ta)))<|.segA Ta.i v2<|.lfA o_fb v2:Tree (List Ta) _) (by kernel_rfl) (by kernel_rfl) (cE yhm fun v2=>sA<|bR (⟨rfl,sA<|sA<|gU<|aA<|sA<|sA<|rfl⟩)<|sA<|rfl) hr
def x_er (v1:Tb) (v2:Ta):Option Bool:=some (decide (v1.fk=v2.fk))
def C_er (v1:Tb) (v2:Ta):Ctr:=⟨n_er,[.agg [.I v1.fk,.I v1.fah,.I v1.fai,.I v1.fg,.I v1.fa.fd,.I v1.fa.fe,.I v1.fa.fN,.imm 1 (v1.fa.fb.map (V.int .i64)),.imm 1 (v1.fa.fc.map V.bool),.I v1.fa.fi,.imm 8 (v1.fm.map Tf.i),.imm 1 (v1.ft.map V.bool),.imm 6 (v1.faa.map Te.i)],.eptr [.I v2.fk,.I v2.fq,.I v2.fg,.I v2.fa.fd,.I v2.fa.fe,.I v2.fa.fN,.imm 1 (v2.fa.fb.map (V.int .i64)),.imm 1 (v2.fa.fc.map V.bool),.I v2.fa.fi] 0],[],Bool,x_er v1 v2,rB⟩
theorem yli {v1:Tb} {v2:Ta}:(C_er v1 v2).okF tab:=fun r hr=>⟨za1 ybx rfl (.lfA rB (decide (v1.fk=v2.fk)):Tree Bool _) (by kernel_rfl) (by kernel_rfl) rfl hr,rfl,rfl⟩
def J_es_L1 (v1:List Tb) (v2:Ta) (k:Int) (s:Unit):St:=⟨sv 8 [(0,.imm 13 (v1.map Tb.i)),(1,.clo n_er [.agg [.I v2.fk,.I v2.fq,.I v2.fg,.I v2.fa.fd,.I v2.fa.fe,.I v2.fa.fN,.imm 1 (v2.fa.fb.map (V.int .i64)),.imm 1 (v2.fa.fc.map V.bool),.I v2.fa.fi]]),(4,.I (v1.length:Int)),(5,.I k)],[]⟩
def q0_es_L1 (v1:List Tb) (v2:Ta):Int->Ex × St:=fun p=>(.ret,⟨sv 8 [(0,.imm 13 (v1.map Tb.i)),(1,.clo n_er [.agg [.I v2.fk,.I v2.fq,.I v2.fg,.I v2.fa.fd,.I v2.fa.fe,.I v2.fa.fN,.imm 1 (v2.fa.fb.map (V.int .i64)),.imm 1 (v2.fa.fc.map V.bool),.I v2.fa.fi]]),(2,.I p),(3,.I p),(4,.I (v1.length:Int)),(5,.I p),(6,.bool true),(7,.bool true)],[]⟩)
def q1_es_L1 (v1:List Tb) (v2:Ta):Unit->Ex × St:=fun p=>((.exit 0),⟨sv 8 [(0,.imm 13 (v1.map Tb.i)),(1,.clo n_er [.agg [.I v2.fk,.I v2.fq,.I v2.fg,.I v2.fa.fd,.I v2.fa.fe,.I v2.fa.fN,.imm 1 (v2.fa.fb.map (V.int .i64)),.imm 1 (v2.fa.fc.map V.bool),.I v2.fa.fi]]),(4,.I (v1.length:Int)),(5,.I (v1.length:Int)),(6,.bool false)],[]⟩)
def u_es_L1 (v1:List Tb) (v2:Ta) (k:Int):=outL (J_es_L1 v1 v2 k) (Sum.elim (q0_es_L1 v1 v2) (q1_es_L1 v1 v2))
def b_es_L1 (v1:List Tb) (v2:Ta) (k:Int) (x:Tb) (s:Unit):Option ((Unit) ⊕ (Int ⊕ Unit)):=(x_er x v2).bind fun v15=>(bif v15 then(some (.inr (.inl k))) else(some (.inl ())))
def e_es_L1 (v1:List Tb) (v2:Ta) (s:Unit):Option (Int ⊕ Unit):=some ((.inr ()))
def x_es_L1 (v1:List Tb) (v2:Ta) (s:Unit):Option (Int ⊕ Unit):=if v1.length <= 9223372036854775806 then listN (b_es_L1 v1 v2) (e_es_L1 v1 v2) v1 0 s else none
def L_es_L1 (v1:List Tb) (v2:Ta) (s:Unit):Lc2:=⟨8,l_es_0,0,[2,3,6,7],some (J_es_L1 v1 v2 0 s),Int,Unit,x_es_L1 v1 v2 s,q0_es_L1 v1 v2,q1_es_L1 v1 v2⟩
theorem zsn {v1:List Tb} {v2:Ta} {s:Unit}:(L_es_L1 v1 v2 s).ok tab:=zao (za6 (J:=J_es_L1 v1 v2) (o:=(Sum.elim (q0_es_L1 v1 v2) (q1_es_L1 v1 v2))) v1 (B:=fun(k:Int) (x:Tb) (s:Unit)=>(.kb (decide (k < (v1.length:Int))) true<|.ob (0 <= k)<|.lkX Tb.i v1 (k.toNat) x<|.callF (C_er x v2) fun(v15:Bool)=>.br v15 (.lfA (u_es_L1 v1 v2 (IntKind.i64.wrap (k + 1))) (.inr (.inl k)))<|.lfA (u_es_L1 v1 v2 (IntKind.i64.wrap (k + 1))) (.inl ()):Tree ((Unit) ⊕ (Int ⊕ Unit)) _)) (E:=fun(s:Unit)=>(.kb (decide ((v1.length:Int) < (v1.length:Int))) false<|.lfA (u_es_L1 v1 v2 0) (.inr (.inr ())):Tree ((Unit) ⊕ (Int ⊕ Unit)) _)) (fun k x s=>by kernel_rfl) (fun d x t s he=>⟨ltX he,⟨Int.natCast_nonneg _,⟨za7 Tb.i he,cF yli fun v15=>bR (rfl)<|rfl⟩⟩⟩) (ho2 (fun _=>rfl) fun _=>rfl) (fun s=>by kernel_rfl) (fun s=>⟨ltE _,rfl⟩) (by kernel_rfl) (by kernel_rfl) s)
def x_es (v1:List Tb) (v2:Ta):Option Int:=(x_es_L1 v1 v2 ()).bind (sel2 (fun (v17:Int)=>(some v17)) (fun (v18:Unit)=>(some (-1))))
def C_es (v1:List Tb) (v2:Ta):Ctr:=⟨n_es,[.imm 13 (v1.map Tb.i),.clo n_er [.agg [.I v2.fk,.I v2.fq,.I v2.fg,.I v2.fa.fd,.I v2.fa.fe,.I v2.fa.fN,.imm 1 (v2.fa.fb.map (V.int .i64)),.imm 1 (v2.fa.fc.map V.bool),.I v2.fa.fi]]],[],Int,x_es v1 v2,rI⟩
theorem ych {v1:List Tb} {v2:Ta}:(C_es v1 v2).okF tab:=fun r hr=>⟨za1 yjf rfl (.lenA Tb.i v1<|.lp2 (L_es_L1 v1 v2 ()) (fun (v17:Int)=>.lfA rI v17) (fun (v18:Unit)=>.lfA rI (-1)):Tree Int _) (by kernel_rfl) (by kernel_rfl) (lA<|lQ zsn (fun v17=>rfl) (fun v18=>rfl)) hr,rfl,rfl⟩
def x_eu (v1:To) (v2:Int) (v3:Ta):Option Bool:=(x_es v1.fj v3).bind fun v4=>(bif decide (v4 < 0) then(some false) else(if 0 <= v4 then(((v1.fj)[v4.toNat]?).bind fun v6=>(bif decide ((v6.fm.length:Int) <= v3.fq) then(some false) else(if 0 <= v4 then(if 0 <= v3.fq then(((v6.ft)[v3.fq.toNat]?).bind fun v9=>(bif v9 then(some false) else(if 0 <= v4 then(if 0 <= v3.fq then(((v6.fm)[v3.fq.toNat]?).bind fun v12=>(if 0 <= v3.fq then(if 0 <= v4 then(bif decide (v12.fw=v2) then(bif decide (v12.fg=v3.fg) then((x_et v12.fa v3.fa).bind fun v16=>(some v16)) else(some false)) else(some false)) else none) else none)) else none) else none))) else none) else none))) else none))
def C_eu (v1:To) (v2:Int) (v3:Ta):Ctr:=⟨n_eu,[.agg [.I v1.fu,.imm 13 (v1.fj.map Tb.i)],.I v2,.agg [.I v3.fk,.I v3.fq,.I v3.fg,.I v3.fa.fd,.I v3.fa.fe,.I v3.fa.fN,.imm 1 (v3.fa.fb.map (V.int .i64)),.imm 1 (v3.fa.fc.map V.bool),.I v3.fa.fi]],[],Bool,x_eu v1 v2 v3,rB⟩
theorem yi4 {v1:To} {v2:Int} {v3:Ta}:(C_eu v1 v2 v3).okF tab:=fun r hr=>⟨za1 ye3 rfl (.callF (C_es v1.fj v3) fun(v4:Int)=>.br (decide (v4 < 0)) (.lfA rB false)<|.guard (0 <= v4) inferInstance<|.lookA Tb.i v1.fj (v4.toNat) fun v6=>.lenA Tf.i v6.fm<|.br (decide ((v6.fm.length:Int) <= v3.fq)) (.lfA rB false)<|.guard (0 <= v4) inferInstance<|.lkX Tb.i v1.fj (v4.toNat) v6<|.guard (0 <= v3.fq) inferInstance<|.lookA V.bool v6.ft (v3.fq.toNat) fun v9=>.br v9 (.lfA rB false)<|.guard (0 <= v4) inferInstance<|.lkX Tb.i v1.fj (v4.toNat) v6<|.guard (0 <= v3.fq) inferInstance<|.lookA Tf.i v6.fm (v3.fq.toNat) fun v12=>.ob ((.agg [.int .i64 v12.fw,.int .i64 v12.fg,.int .i64 v12.fa.fd,.int .i64 v12.fa.fe,.int .i64 v12.fa.fN,.imm 1 (v12.fa.fb.map (V.int .i64)),.imm 1 (v12.fa.fc.map V.bool),.int .i64 v12.fa.fi]:V)=.agg [.int .i64 v12.fw,.int .i64 v12.fg,.int .i64 v12.fa.fd,.int .i64 v12.fa.fe,.int .i64 v12.fa.fN,.imm 1 (v12.fa.fb.map (V.int .i64)),.imm 1 (v12.fa.fc.map V.bool),.int .i64 v12.fa.fi])<|.ob ((.agg [.int .i64 v12.fw,.int .i64 v12.fg,.int .i64 v12.fa.fd,.int .i64 v12.fa.fe,.int .i64 v12.fa.fN,.imm 1 (v12.fa.fb.map (V.int .i64)),.imm 1 (v12.fa.fc.map V.bool),.int .i64 v12.fa.fi]:V)=.agg [.int .i64 v12.fw,.int .i64 v12.fg,.int .i64 v12.fa.fd,.int .i64 v12.fa.fe,.int .i64 v12.fa.fN,.imm 1 (v12.fa.fb.map (V.int .i64)),.imm 1 (v12.fa.fc.map V.bool),.int .i64 v12.fa.fi])<|.ob ((.eptr [.int .i64 v12.fw,.int .i64 v12.fg,.int .i64 v12.fa.fd,.int .i64 v12.fa.fe,.int .i64 v12.fa.fN,.imm 1 (v12.fa.fb.map (V.int .i64)),.imm 1 (v12.fa.fc.map V.bool),.int .i64 v12.fa.fi] 0:V)=.eptr [.int .i64 v12.fw,.int .i64 v12.fg,.int .i64 v12.fa.fd,.int .i64 v12.fa.fe,.int .i64 v12.fa.fN,.imm 1 (v12.fa.fb.map (V.int .i64)),.imm 1 (v12.fa.fc.map V.bool),.int .i64 v12.fa.fi] 0)<|.guard (0 <= v3.fq) inferInstance<|.lkX Tf.i v6.fm (v3.fq.toNat) v12<|.ob ((.eptr [.int .i64 v12.fw,.int .i64 v12.fg,.int .i64 v12.fa.fd,.int .i64 v12.fa.fe,.int .i64 v12.fa.fN,.imm 1 (v12.fa.fb.map (V.int .i64)),.imm 1 (v12.fa.fc.map V.bool),.int .i64 v12.fa.fi] 0:V)=.eptr [.int .i64 v12.fw,.int .i64 v12.fg,.int .i64 v12.fa.fd,.int .i64 v12.fa.fe,.int .i64 v12.fa.fN,.imm 1 (v12.fa.fb.map (V.int .i64)),.imm 1 (v12.fa.fc.map V.bool),.int .i64 v12.fa.fi] 0)<|.ob ((.int .i64 v3.fq:V)=.int .i64 v3.fq)<|.ob ((.int .i64 v3.fq:V)=.int .i64 v3.fq)<|.ob ((.ref (.box 1) 1 []:V)=.ref (.box 1) 1 [])<|.ob ((.ref (.box 1) 1 []:V)=.ref (.box 1) 1 [])<|.ob ((.imm 8 (v6.fm.map Tf.i):V)=.imm 8 (v6.fm.map Tf.i))<|.ob ((.imm 8 (v6.fm.map Tf.i):V)=.imm 8 (v6.fm.map Tf.i))<|.ob ((.eptr [.int .i64 v6.fk,.int .i64 v6.fah,.int .i64 v6.fai,.int .i64 v6.fg,.int .i64 v6.fa.fd,.int .i64 v6.fa.fe,.int .i64 v6.fa.fN,.imm 1 (v6.fa.fb.map (V.int .i64)),.imm 1 (v6.fa.fc.map V.bool),.int .i64 v6.fa.fi,.imm 8 (v6.fm.map Tf.i),.imm 1 (v6.ft.map V.bool),.imm 6 (v6.faa.map Te.i)] 10:V)=.eptr [.int .i64 v6.fk,.int .i64 v6.fah,.int .i64 v6.fai,.int .i64 v6.fg,.int .i64 v6.fa.fd,.int .i64 v6.fa.fe,.int .i64 v6.fa.fN,.imm 1 (v6.fa.fb.map (V.int .i64)),.imm 1 (v6.fa.fc.map V.bool),.int .i64 v6.fa.fi,.imm 8 (v6.fm.map Tf.i),.imm 1 (v6.ft.map V.bool),.imm 6 (v6.faa.map Te.i)] 10)<|.ob ((.eptr [.int .i64 v6.fk,.int .i64 v6.fah,.int .i64 v6.fai,.int .i64 v6.fg,.int .i64 v6.fa.fd,.int .i64 v6.fa.fe,.int .i64 v6.fa.fN,.imm 1 (v6.fa.fb.map (V.int .i64)),.imm 1 (v6.fa.fc.map V.bool),.int .i64 v6.fa.fi,.imm 8 (v6.fm.map Tf.i),.imm 1 (v6.ft.map V.bool),.imm 6 (v6.faa.map Te.i)] 10:V)=.eptr [.int .i64 v6.fk,.int .i64 v6.fah,.int .i64 v6.fai,.int .i64 v6.fg,.int .i64 v6.fa.fd,.int .i64 v6.fa.fe,.int .i64 v6.fa.fN,.imm 1 (v6.fa.fb.map (V.int .i64)),.imm 1 (v6.fa.fc.map V.bool),.int .i64 v6.fa.fi,.imm 8 (v6.fm.map Tf.i),.imm 1 (v6.ft.map V.bool),.imm 6 (v6.faa.map Te.i)] 10)<|.ob ((.eptr [.int .i64 v6.fk,.int .i64 v6.fah,.int .i64 v6.fai,.int .i64 v6.fg,.int .i64 v6.fa.fd,.int .i64 v6.fa.fe,.int .i64 v6.fa.fN,.imm 1 (v6.fa.fb.map (V.int .i64)),.imm 1 (v6.fa.fc.map V.bool),.int .i64 v6.fa.fi,.imm 8 (v6.fm.map Tf.i),.imm 1 (v6.ft.map V.bool),.imm 6 (v6.faa.map Te.i)] 0:V)=.eptr [.int .i64 v6.fk,.int .i64 v6.fah,.int .i64 v6.fai,.int .i64 v6.fg,.int .i64 v6.fa.fd,.int .i64 v6.fa.fe,.int .i64 v6.fa.fN,.imm 1 (v6.fa.fb.map (V.int .i64)),.imm 1 (v6.fa.fc.map V.bool),.int .i64 v6.fa.fi,.imm 8 (v6.fm.map Tf.i),.imm 1 (v6.ft.map V.bool),.imm 6 (v6.faa.map Te.i)] 0)<|.guard (0 <= v4) inferInstance<|.lkX Tb.i v1.fj (v4.toNat) v6<|.ob ((.eptr [.int .i64 v6.fk,.int .i64 v6.fah,.int .i64 v6.fai,.int .i64 v6.fg,.int .i64 v6.fa.fd,.int .i64 v6.fa.fe,.int .i64 v6.fa.fN,.imm 1 (v6.fa.fb.map (V.int .i64)),.imm 1 (v6.fa.fc.map V.bool),.int .i64 v6.fa.fi,.imm 8 (v6.fm.map Tf.i),.imm 1 (v6.ft.map V.bool),.imm 6 (v6.faa.map Te.i)] 0:V)=.eptr [.int .i64 v6.fk,.int .i64 v6.fah,.int .i64 v6.fai,.int .i64 v6.fg,.int .i64 v6.fa.fd,.int .i64 v6.fa.fe,.int .i64 v6.fa.fN,.imm 1 (v6.fa.fb.map (V.int .i64)),.imm 1 (v6.fa.fc.map V.bool),.int .i64 v6.fa.fi,.imm 8 (v6.fm.map Tf.i),.imm 1 (v6.ft.map V.bool),.imm 6 (v6.faa.map Te.i)] 0)<|.ob ((.int .i64 v4:V)=.int .i64 v4)<|.ob ((.int .i64 v4:V)=.int .i64 v4)<|.ob ((.imm 13 (v1.fj.map Tb.i):V)=.imm 13 (v1.fj.map Tb.i))<|.ob ((.imm 13 (v1.fj.map Tb.i):V)=.imm 13 (v1.fj.map Tb.i))<|.ob ((.ref (.box 0) 1 []:V)=.ref (.box 0) 1 [])<|.ob ((.ref (.box 0) 1 []:V)=.ref (.box 0) 1 [])<|.br (decide (v12.fw=v2)) (.br (decide (v12.fg=v3.fg)) (.callF (C_et v12.fa v3.fa) fun(v16:Bool)=>.lfA rB v16)<|.lfA rB false)<|.lfA rB false:Tree Bool _) (by kernel_rfl) (by kernel_rfl) (cF ych fun v4=>bR (rfl)<|gU<|⟨zbu _ _ _,fun v6 h7=>lA<|bR (rfl)<|gU<|⟨zav _ h7,gU<|kA fun v9=>bR (rfl)<|gU<|⟨zav _ h7,gU<|⟨zbu _ _ _,fun v12 h13=>⟨rfl,⟨rfl,⟨rfl,gU<|⟨zav _ h13,⟨rfl,⟨rfl,⟨rfl,⟨rfl,⟨rfl,⟨rfl,⟨rfl,⟨rfl,⟨rfl,⟨rfl,gU<|⟨zav _ h7,⟨rfl,⟨rfl,⟨rfl,⟨rfl,⟨rfl,⟨rfl,⟨rfl,bR (bR (cF zxj fun v16=>rfl)<|rfl)<|rfl⟩⟩⟩⟩⟩⟩⟩⟩⟩⟩⟩⟩⟩⟩⟩⟩⟩⟩⟩⟩⟩⟩⟩⟩⟩⟩) hr,rfl,rfl⟩
def J_ev_L1 (v1:List Tm) (v2:Tm) (k:Int) (s:Unit):St:=⟨sv 9 [(0,.imm 2 (v1.map Tm.i)),(2,.ref (.box 0) 0 []),(5,.I (v1.length:Int)),(6,.I k)],[[.I v2.fid,.I v2.fpart]]⟩
def q0_ev_L1 (v1:List Tm) (v2:Tm):Int->Ex × St:=fun p=>(.ret,⟨sv 9 [(0,.imm 2 (v1.map Tm.i)),(2,.ref (.box 0) 0 []),(3,.I p),(4,.I p),(5,.I (v1.length:Int)),(6,.I p),(7,.bool true),(8,.bool true)],[[.I v2.fid,.I v2.fpart]]⟩)
def q1_ev_L1 (v1:List Tm) (v2:Tm):Unit->Ex × St:=fun p=>((.exit 0),⟨sv 9 [(0,.imm 2 (v1.map Tm.i)),(2,.ref (.box 0) 0 []),(5,.I (v1.length:Int)),(6,.I (v1.length:Int)),(7,.bool false)],[[.I v2.fid,.I v2.fpart]]⟩)
def u_ev_L1 (v1:List Tm) (v2:Tm) (k:Int):=outL (J_ev_L1 v1 v2 k) (Sum.elim (q0_ev_L1 v1 v2) (q1_ev_L1 v1 v2))
def b_ev_L1 (v1:List Tm) (v2:Tm) (k:Int) (x:Tm) (s:Unit):Option ((Unit) ⊕ (Int ⊕ Unit)):=bif decide (v2.fid=x.fid) && (decide (v2.fpart=x.fpart) && true) then(some (.inr (.inl k))) else(some (.inl ()))
def e_ev_L1 (v1:List Tm) (v2:Tm) (s:Unit):Option (Int ⊕ Unit):=some ((.inr ()))
def x_ev_L1 (v1:List Tm) (v2:Tm) (s:Unit):Option (Int ⊕ Unit):=if v1.length <= 9223372036854775806 then listN (b_ev_L1 v1 v2) (e_ev_L1 v1 v2) v1 0 s else none
def L_ev_L1 (v1:List Tm) (v2:Tm) (s:Unit):Lc2:=⟨9,l_ev_0,1,[1,3,4,7,8],some (J_ev_L1 v1 v2 0 s),Int,Unit,x_ev_L1 v1 v2 s,q0_ev_L1 v1 v2,q1_ev_L1 v1 v2⟩
theorem zsd {v1:List Tm} {v2:Tm} {s:Unit}:(L_ev_L1 v1 v2 s).ok tab:=zao (za6 (J:=J_ev_L1 v1 v2) (o:=(Sum.elim (q0_ev_L1 v1 v2) (q1_ev_L1 v1 v2))) v1 (B:=fun(k:Int) (x:Tm) (s:Unit)=>(.kb (decide (k < (v1.length:Int))) true<|.ob (0 <= k)<|.lkX Tm.i v1 (k.toNat) x<|.br (decide (v2.fid=x.fid) && (decide (v2.fpart=x.fpart) && true)) (.lfA (u_ev_L1 v1 v2 (IntKind.i64.wrap (k + 1))) (.inr (.inl k)))<|.lfA (u_ev_L1 v1 v2 (IntKind.i64.wrap (k + 1))) (.inl ()):Tree ((Unit) ⊕ (Int ⊕ Unit)) _)) (E:=fun(s:Unit)=>(.kb (decide ((v1.length:Int) < (v1.length:Int))) false<|.lfA (u_ev_L1 v1 v2 0) (.inr (.inr ())):Tree ((Unit) ⊕ (Int ⊕ Unit)) _)) (fun k x s=>by kernel_rfl) (fun d x t s he=>⟨ltX he,⟨Int.natCast_nonneg _,⟨za7 Tm.i he,bR (rfl)<|rfl⟩⟩⟩) (ho2 (fun _=>rfl) fun _=>rfl) (fun s=>by kernel_rfl) (fun s=>⟨ltE _,rfl⟩) (by kernel_rfl) (by kernel_rfl) s)
def x_ev (v1:List Tm) (v2:Tm):Option Int:=(x_ev_L1 v1 v2 ()).bind (sel2 (fun (v14:Int)=>(some v14)) (fun (v15:Unit)=>(some (-1))))
def C_ev (v1:List Tm) (v2:Tm):Ctr:=⟨n_ev,[.imm 2 (v1.map Tm.i),.agg [.I v2.fid,.I v2.fpart]],[],Int,x_ev v1 v2,rI⟩
theorem zyk {v1:List Tm} {v2:Tm}:(C_ev v1 v2).okF tab:=fun r hr=>⟨za1 ybd rfl (.lenA Tm.i v1<|.lp2 (L_ev_L1 v1 v2 ()) (fun (v14:Int)=>.lfA rI v14) (fun (v15:Unit)=>.lfA rI (-1)):Tree Int _) (by kernel_rfl) (by kernel_rfl) (lA<|lQ zsd (fun v14=>rfl) (fun v15=>rfl)) hr,rfl,rfl⟩
def x_ew (v1:List Tm) (v2:Tm):Option Bool:=(x_ev v1 v2).bind fun v3=>(some (decide (0 <= v3)))
def C_ew (v1:List Tm) (v2:Tm):Ctr:=⟨n_ew,[.imm 2 (v1.map Tm.i),.agg [.I v2.fid,.I v2.fpart]],[],Bool,x_ew v1 v2,rB⟩
theorem yce {v1:List Tm} {v2:Tm}:(C_ew v1 v2).okF tab:=fun r hr=>⟨za1 yah rfl (.callF (C_ev v1 v2) fun(v3:Int)=>.lfA rB (decide (0 <= v3)):Tree Bool _) (by kernel_rfl) (by kernel_rfl) (cF zyk fun v3=>rfl) hr,rfl,rfl⟩
def J_eq_L2 (v1:To) (v21:Int) (v38:Tb) (k:Int) (s:Int):St:=⟨sv 16 [(3,.I s),(7,.imm 13 (v1.fj.map Tb.i)),(8,.I (v1.fj.length:Int)),(9,.I v21),(11,.imm 1 (v38.ft.map V.bool)),(12,.I (v38.ft.length:Int)),(13,.I k)],[[.I v1.fu,.imm 13 (v1.fj.map Tb.i)],[.I v38.fk,.I v38.fah,.I v38.fai,.I v38.fg,.I v38.fa.fd,.I v38.fa.fe,.I v38.fa.fN,.imm 1 (v38.fa.fb.map (V.int .i64)),.imm 1 (v38.fa.fc.map V.bool),.I v38.fa.fi,.imm 8 (v38.fm.map Tf.i),.imm 1 (v38.ft.map V.bool),.imm 6 (v38.faa.map Te.i)]]⟩
def q0_eq_L2 (v1:To) (v21:Int) (v38:Tb):Int->Ex × St:=fun p=>((.exit 2),⟨sv 16 [(3,.I p),(7,.imm 13 (v1.fj.map Tb.i)),(8,.I (v1.fj.length:Int)),(9,.I v21),(11,.imm 1 (v38.ft.map V.bool)),(12,.I (v38.ft.length:Int)),(13,.I (v38.ft.length:Int)),(14,.bool false)],[[.I v1.fu,.imm 13 (v1.fj.map Tb.i)],[.I v38.fk,.I v38.fah,.I v38.fai,.I v38.fg,.I v38.fa.fd,.I v38.fa.fe,.I v38.fa.fN,.imm 1 (v38.fa.fb.map (V.int .i64)),.imm 1 (v38.fa.fc.map V.bool),.I v38.fa.fi,.imm 8 (v38.fm.map Tf.i),.imm 1 (v38.ft.map V.bool),.imm 6 (v38.faa.map Te.i)]]⟩)
def u_eq_L2 (v1:To) (v21:Int) (v38:Tb) (k:Int):=outL (J_eq_L2 v1 v21 v38 k) (q0_eq_L2 v1 v21 v38)
def b_eq_L2 (v1:To) (v21:Int) (v38:Tb) (k:Int) (x:Bool) (s:Int):Option ((Int) ⊕ (Int)):=bif !x then(some (.inl (IntKind.i64.wrap (s + 1)))) else(some (.inl s))
def e_eq_L2 (v1:To) (v21:Int) (v38:Tb) (s:Int):Option Int:=some (s)
def x_eq_L2 (v1:To) (v21:Int) (v38:Tb) (s:Int):Option Int:=if v38.ft.length <= 9223372036854775806 then listN (b_eq_L2 v1 v21 v38) (e_eq_L2 v1 v21 v38) v38.ft 0 s else none
def L_eq_L2 (v1:To) (v21:Int) (v38:Tb) (s:Int):Lct:=⟨16,l_eq_0,2,[0,1,2,4,5,6,10,14,15],some (J_eq_L2 v1 v21 v38 0 s),Int,x_eq_L2 v1 v21 v38 s,q0_eq_L2 v1 v21 v38⟩
theorem zu0 {v1:To} {v21:Int} {v38:Tb} {s:Int}:(L_eq_L2 v1 v21 v38 s).ok tab:=zc2 (za6 (J:=J_eq_L2 v1 v21 v38) (o:=(q0_eq_L2 v1 v21 v38)) v38.ft (B:=fun(k:Int) (x:Bool) (s:Int)=>(.kb (decide (k < (v38.ft.length:Int))) true<|.ob (0 <= k)<|.lkX V.bool v38.ft (k.toNat) x<|.br (!x) (.lfA (u_eq_L2 v1 v21 v38 (IntKind.i64.wrap (k + 1))) (.inl (IntKind.i64.wrap (s + 1))))<|.lfA (u_eq_L2 v1 v21 v38 (IntKind.i64.wrap (k + 1))) (.inl s):Tree ((Int) ⊕ (Int)) _)) (E:=fun(s:Int)=>(.kb (decide ((v38.ft.length:Int) < (v38.ft.length:Int))) false<|.lfA (u_eq_L2 v1 v21 v38 0) (.inr s):Tree ((Int) ⊕ (Int)) _)) (fun k x s=>by kernel_rfl) (fun d x t s he=>⟨ltX he,⟨Int.natCast_nonneg _,⟨za7 V.bool he,bR (rfl)<|rfl⟩⟩⟩) (fun _=>rfl) (fun s=>by kernel_rfl) (fun s=>⟨ltE _,rfl⟩) (by kernel_rfl) (by kernel_rfl) s)
def J_eq_L1 (v1:To) (k:Int) (s:Int):St:=⟨sv 16 [(3,.I s),(7,.imm 13 (v1.fj.map Tb.i)),(8,.I (v1.fj.length:Int)),(9,.I k)],[[.I v1.fu,.imm 13 (v1.fj.map Tb.i)]]⟩
def q0_eq_L1 (v1:To):Int->Ex × St:=fun p=>((.exit 0),⟨sv 16 [(3,.I p),(7,.imm 13 (v1.fj.map Tb.i)),(8,.I (v1.fj.length:Int)),(9,.I (v1.fj.length:Int)),(10,.bool false)],[[.I v1.fu,.imm 13 (v1.fj.map Tb.i)]]⟩)
def u_eq_L1 (v1:To) (k:Int):=outL (J_eq_L1 v1 k) (q0_eq_L1 v1)
def b_eq_L1 (v1:To) (k:Int) (x:Tb) (s:Int):Option ((Int) ⊕ (Int)):=(x_eq_L2 v1 k x s).bind fun v51=>(some (.inl v51))
def e_eq_L1 (v1:To) (s:Int):Option Int:=some (s)
def x_eq_L1 (v1:To) (s:Int):Option Int:=if v1.fj.length <= 9223372036854775806 then listN (b_eq_L1 v1) (e_eq_L1 v1) v1.fj 0 s else none
def L_eq_L1 (v1:To) (s:Int):Lct:=⟨16,l_eq_1,1,[0,1,2,4,5,6,10,11,12,13,14,15],some (J_eq_L1 v1 0 s),Int,x_eq_L1 v1 s,q0_eq_L1 v1⟩
theorem ztu {v1:To} {s:Int}:(L_eq_L1 v1 s).ok tab:=zc2 (za6 (J:=J_eq_L1 v1) (o:=(q0_eq_L1 v1)) v1.fj (B:=fun(k:Int) (x:Tb) (s:Int)=>(.kb (decide (k < (v1.fj.length:Int))) true<|.ob (0 <= k)<|.lkX Tb.i v1.fj (k.toNat) x<|.lenA V.bool x.ft<|.lp (L_eq_L2 v1 k x s) fun(v51:Int)=>.lfA (u_eq_L1 v1 (IntKind.i64.wrap (k + 1))) (.inl v51):Tree ((Int) ⊕ (Int)) _)) (E:=fun(s:Int)=>(.kb (decide ((v1.fj.length:Int) < (v1.fj.length:Int))) false<|.lfA (u_eq_L1 v1 0) (.inr s):Tree ((Int) ⊕ (Int)) _)) (fun k x s=>by kernel_rfl) (fun d x t s he=>⟨ltX he,⟨Int.natCast_nonneg _,⟨za7 Tb.i he,lA<|lP zu0 fun v51=>rfl⟩⟩⟩) (fun _=>rfl) (fun s=>by kernel_rfl) (fun s=>⟨ltE _,rfl⟩) (by kernel_rfl) (by kernel_rfl) s)
def x_eq (v1:To):Option Int:=(x_ep v1).bind fun v2=>(bif !v2 then(some 0) else((x_eq_L1 v1 0).bind fun v52=>(some v52)))
def C_eq (v1:To):Ctr:=⟨n_eq,[.agg [.I v1.fu,.imm 13 (v1.fj.map Tb.i)]],[],Int,x_eq v1,rI⟩
theorem yj1 {v1:To}:(C_eq v1).okF tab:=fun r hr=>⟨za1 ymp rfl (.callF (C_ep v1) fun(v2:Bool)=>.br (!v2) (.lfA rI 0)<|.lenA Tb.i v1.fj<|.lp (L_eq_L1 v1 0) fun(v52:Int)=>.lfA rI v52:Tree Int _) (by kernel_rfl) (by kernel_rfl) (cF zwv fun v2=>bR (rfl)<|lA<|lP ztu fun v52=>rfl) hr,rfl,rfl⟩
def J_fc_L2 (v1:Tn) (v46:Int) (v77:Tc) (v80:List Ta) (k:Int) (s:List Tm):St:=⟨sv 19 [(1,.ref (.box 0) 0 []),(3,.own 2 (s.map Tm.i)),(4,.I v46),(9,.imm 17 (v1.fr.map Tc.i)),(10,.I (v1.fr.length:Int)),(11,.I v46),(14,.own 9 (v80.map Ta.i)),(15,.I (v80.length:Int)),(16,.I k)],[[.I v1.fan,.I v1.fp.fad,.I v1.fp.fac,.imm 7 (v1.fp.faf.map Td.i),.I v1.fo.fu,.imm 13 (v1.fo.fj.map Tb.i),.imm 17 (v1.fr.map Tc.i),.I v1.fal,.I v1.fao,.I v1.fam,.I v1.fap],[.imm 9 (v77.fab.map Ta.i),.bool v77.far,.I v77.ff.fk,.I v77.ff.fq,.I v77.ff.fg,.I v77.ff.fa.fd,.I v77.ff.fa.fe,.I v77.ff.fa.fN,.imm 1 (v77.ff.fa.fb.map (V.int .i64)),.imm 1 (v77.ff.fa.fc.map V.bool),.I v77.ff.fa.fi,.I v77.fag,.I v77.fas,.I v77.fat,.I v77.fu,.I v77.fad,.I v77.fac]]⟩
def q0_fc_L2 (v1:Tn) (v46:Int) (v77:Tc) (v80:List Ta):(List Tm × Int × Ta × Int × Int)->Ex × St:=fun p=>(.ret,⟨sv 19 [(1,.ref (.box 0) 0 []),(2,.bool false),(3,.own 2 (p.1.map Tm.i)),(4,.I v46),(6,.ref (.box 2) 0 []),(7,.ref (.box 3) 0 []),(9,.imm 17 (v1.fr.map Tc.i)),(10,.I (v1.fr.length:Int)),(11,.I v46),(14,.own 9 (v80.map Ta.i)),(15,.I (v80.length:Int)),(16,.I p.2.1),(17,.bool true),(18,.bool true)],[[.I v1.fan,.I v1.fp.fad,.I v1.fp.fac,.imm 7 (v1.fp.faf.map Td.i),.I v1.fo.fu,.imm 13 (v1.fo.fj.map Tb.i),.imm 17 (v1.fr.map Tc.i),.I v1.fal,.I v1.fao,.I v1.fam,.I v1.fap],[.imm 9 (v77.fab.map Ta.i),.bool v77.far,.I v77.ff.fk,.I v77.ff.fq,.I v77.ff.fg,.I v77.ff.fa.fd,.I v77.ff.fa.fe,.I v77.ff.fa.fN,.imm 1 (v77.ff.fa.fb.map (V.int .i64)),.imm 1 (v77.ff.fa.fc.map V.bool),.I v77.ff.fa.fi,.I v77.fag,.I v77.fas,.I v77.fat,.I v77.fu,.I v77.fad,.I v77.fac],[.I p.2.2.1.fk,.I p.2.2.1.fq,.I p.2.2.1.fg,.I p.2.2.1.fa.fd,.I p.2.2.1.fa.fe,.I p.2.2.1.fa.fN,.imm 1 (p.2.2.1.fa.fb.map (V.int .i64)),.imm 1 (p.2.2.1.fa.fc.map V.bool),.I p.2.2.1.fa.fi],[.I p.2.2.2.1,.I p.2.2.2.2]]⟩)
def q1_fc_L2 (v1:Tn) (v46:Int) (v77:Tc) (v80:List Ta):(List Tm)->Ex × St:=fun p=>((.exit 2),⟨sv 19 [(1,.ref (.box 0) 0 []),(3,.own 2 (p.map Tm.i)),(4,.I v46),(9,.imm 17 (v1.fr.map Tc.i)),(10,.I (v1.fr.length:Int)),(11,.I v46),(14,.own 9 (v80.map Ta.i)),(15,.I (v80.length:Int)),(16,.I (v80.length:Int)),(17,.bool false)],[[.I v1.fan,.I v1.fp.fad,.I v1.fp.fac,.imm 7 (v1.fp.faf.map Td.i),.I v1.fo.fu,.imm 13 (v1.fo.fj.map Tb.i),.imm 17 (v1.fr.map Tc.i),.I v1.fal,.I v1.fao,.I v1.fam,.I v1.fap],[.imm 9 (v77.fab.map Ta.i),.bool v77.far,.I v77.ff.fk,.I v77.ff.fq,.I v77.ff.fg,.I v77.ff.fa.fd,.I v77.ff.fa.fe,.I v77.ff.fa.fN,.imm 1 (v77.ff.fa.fb.map (V.int .i64)),.imm 1 (v77.ff.fa.fc.map V.bool),.I v77.ff.fa.fi,.I v77.fag,.I v77.fas,.I v77.fat,.I v77.fu,.I v77.fad,.I v77.fac]]⟩)
def u_fc_L2 (v1:Tn) (v46:Int) (v77:Tc) (v80:List Ta) (k:Int):=outL (J_fc_L2 v1 v46 v77 v80 k) (Sum.elim (q0_fc_L2 v1 v46 v77 v80) (q1_fc_L2 v1 v46 v77 v80))
def b_fc_L2 (v1:Tn) (v46:Int) (v77:Tc) (v80:List Ta) (k:Int) (x:Ta) (s:List Tm):Option ((List Tm) ⊕ ((List Tm × Int × Ta × Int × Int) ⊕ (List Tm))):=if 0 <= k/\(k:Int) < (((v80.map Ta.i).length - 0:Nat):Int) then((x_eu v1.fo v46 x).bind fun v98=>(bif !v98 then(some (.inr (.inl (s,k,x,x.fk,x.fq)))) else((x_ew s (⟨x.fk,x.fq⟩:Tm)).bind fun v100=>(bif v100 then(some (.inr (.inl (s,k,x,x.fk,x.fq)))) else(if ((s.map Tm.i).length + (([(⟨x.fk,x.fq⟩:Tm)]:List Tm).map Tm.i).length) * 16 <= 70368744177664 then(some (.inl (s ++ ([(⟨x.fk,x.fq⟩:Tm)]:List Tm)))) else none))))) else none
def e_fc_L2 (v1:Tn) (v46:Int) (v77:Tc) (v80:List Ta) (s:List Tm):Option ((List Tm × Int × Ta × Int × Int) ⊕ (List Tm)):=some ((.inr s))
def x_fc_L2 (v1:Tn) (v46:Int) (v77:Tc) (v80:List Ta) (s:List Tm):Option ((List Tm × Int × Ta × Int × Int) ⊕ (List Tm)):=if v80.length <= 9223372036854775806 then listN (b_fc_L2 v1 v46 v77 v80) (e_fc_L2 v1 v46 v77 v80) v80 0 s else none
def L_fc_L2 (v1:Tn) (v46:Int) (v77:Tc) (v80:List Ta) (s:List Tm):Lc2:=⟨19,l_fc_0,2,[0,2,5,6,7,8,12,13,17,18],some (J_fc_L2 v1 v46 v77 v80 0 s),List Tm × Int × Ta × Int × Int,List Tm,x_fc_L2 v1 v46 v77 v80 s,q0_fc_L2 v1 v46 v77 v80,q1_fc_L2 v1 v46 v77 v80⟩
theorem zsg {v1:Tn} {v46:Int} {v77:Tc} {v80:List Ta} {s:List Tm}:(L_fc_L2 v1 v46 v77 v80 s).ok tab:=zao (za6 (J:=J_fc_L2 v1 v46 v77 v80) (o:=(Sum.elim (q0_fc_L2 v1 v46 v77 v80) (q1_fc_L2 v1 v46 v77 v80))) v80 (B:=fun(k:Int) (x:Ta) (s:List Tm)=>(.kb (decide (k < (v80.length:Int))) true<|.guard (0 <= k/\(k:Int) < (((v80.map Ta.i).length - 0:Nat):Int)) inferInstance<|.lkY Ta.i v80 (k.toNat) x<|.callF (C_eu v1.fo v46 x) fun(v98:Bool)=>.br (!v98) (.lfA (u_fc_L2 v1 v46 v77 v80 (IntKind.i64.wrap (k + 1))) (.inr (.inl (s,k,x,x.fk,x.fq))))<|.segA Tm.i s<|.eraA Tm.i Tm.i s<|.callF (C_ew s (⟨x.fk,x.fq⟩:Tm)) fun(v100:Bool)=>.br v100 (.lfA (u_fc_L2 v1 v46 v77 v80 (IntKind.i64.wrap (k + 1))) (.inr (.inl (s,k,x,x.fk,x.fq))))<|.eqL [.agg [.int .i64 x.fk,.int .i64 x.fq]] (([(⟨x.fk,x.fq⟩:Tm)]:List Tm).map Tm.i)<|.segA Tm.i s<|.segA Tm.i ([(⟨x.fk,x.fq⟩:Tm)]:List Tm)<|.guard (((s.map Tm.i).length + (([(⟨x.fk,x.fq⟩:Tm)]:List Tm).map Tm.i).length) * 16 <= 70368744177664) inferInstance<|.appA Tm.i s ([(⟨x.fk,x.fq⟩:Tm)]:List Tm)<|.segA Tm.i (s ++ ([(⟨x.fk,x.fq⟩:Tm)]:List Tm))<|.lfA (u_fc_L2 v1 v46 v77 v80 (IntKind.i64.wrap (k + 1))) (.inl (s ++ ([(⟨x.fk,x.fq⟩:Tm)]:List Tm))):Tree ((List Tm) ⊕ ((List Tm × Int × Ta × Int × Int) ⊕ (List Tm))) _)) (E:=fun(s:List Tm)=>(.kb (decide ((v80.length:Int) < (v80.length:Int))) false<|.lfA (u_fc_L2 v1 v46 v77 v80 0) (.inr (.inr s)):Tree ((List Tm) ⊕ ((List Tm × Int × Ta × Int × Int) ⊕ (List Tm))) _)) (fun k x s=>by kernel_rfl) (fun d x t s he=>⟨ltX he,gU<|⟨zez Ta.i he,cF yi4 fun v98=>bR (rfl)<|sA<|eO (fun _=>rfl)<|cF yce fun v100=>bR (rfl)<|⟨rfl,sA<|sA<|gU<|aA<|sA<|rfl⟩⟩⟩) (ho2 (fun _=>rfl) fun _=>rfl) (fun s=>by kernel_rfl) (fun s=>⟨ltE _,rfl⟩) (by kernel_rfl) (by kernel_rfl) s)
def J_fc_L1 (v1:Tn) (k:Int) (s:List Tm):St:=⟨sv 19 [(1,.ref (.box 0) 0 []),(3,.own 2 (s.map Tm.i)),(9,.imm 17 (v1.fr.map Tc.i)),(10,.I (v1.fr.length:Int)),(11,.I k)],[[.I v1.fan,.I v1.fp.fad,.I v1.fp.fac,.imm 7 (v1.fp.faf.map Td.i),.I v1.fo.fu,.imm 13 (v1.fo.fj.map Tb.i),.imm 17 (v1.fr.map Tc.i),.I v1.fal,.I v1.fao,.I v1.fam,.I v1.fap]]⟩
def q0_fc_L1 (v1:Tn):(List Tm × Int × Tc)->Ex × St:=fun p=>(.ret,⟨sv 19 [(1,.ref (.box 0) 0 []),(2,.bool false),(3,.own 2 (p.1.map Tm.i)),(4,.I p.2.1),(5,.ref (.box 1) 0 []),(9,.imm 17 (v1.fr.map Tc.i)),(10,.I (v1.fr.length:Int)),(11,.I p.2.1),(12,.bool true),(13,.bool true)],[[.I v1.fan,.I v1.fp.fad,.I v1.fp.fac,.imm 7 (v1.fp.faf.map Td.i),.I v1.fo.fu,.imm 13 (v1.fo.fj.map Tb.i),.imm 17 (v1.fr.map Tc.i),.I v1.fal,.I v1.fao,.I v1.fam,.I v1.fap],[.imm 9 (p.2.2.fab.map Ta.i),.bool p.2.2.far,.I p.2.2.ff.fk,.I p.2.2.ff.fq,.I p.2.2.ff.fg,.I p.2.2.ff.fa.fd,.I p.2.2.ff.fa.fe,.I p.2.2.ff.fa.fN,.imm 1 (p.2.2.ff.fa.fb.map (V.int .i64)),.imm 1 (p.2.2.ff.fa.fc.map V.bool),.I p.2.2.ff.fa.fi,.I p.2.2.fag,.I p.2.2.fas,.I p.2.2.fat,.I p.2.2.fu,.I p.2.2.fad,.I p.2.2.fac]]⟩)
def q1_fc_L1 (v1:Tn):(List Tm × Int × List Ta × Int × Int × Tc × Ta × Int × Int)->Ex × St:=fun p=>(.ret,⟨sv 19 [(1,.ref (.box 0) 0 []),(2,.bool false),(3,.own 2 (p.1.map Tm.i)),(4,.I p.2.1),(6,.ref (.box 2) 0 []),(7,.ref (.box 3) 0 []),(9,.imm 17 (v1.fr.map Tc.i)),(10,.I (v1.fr.length:Int)),(11,.I p.2.1),(14,.own 9 (p.2.2.1.map Ta.i)),(15,.I p.2.2.2.1),(16,.I p.2.2.2.2.1),(17,.bool true),(18,.bool true)],[[.I v1.fan,.I v1.fp.fad,.I v1.fp.fac,.imm 7 (v1.fp.faf.map Td.i),.I v1.fo.fu,.imm 13 (v1.fo.fj.map Tb.i),.imm 17 (v1.fr.map Tc.i),.I v1.fal,.I v1.fao,.I v1.fam,.I v1.fap],[.imm 9 (p.2.2.2.2.2.1.fab.map Ta.i),.bool p.2.2.2.2.2.1.far,.I p.2.2.2.2.2.1.ff.fk,.I p.2.2.2.2.2.1.ff.fq,.I p.2.2.2.2.2.1.ff.fg,.I p.2.2.2.2.2.1.ff.fa.fd,.I p.2.2.2.2.2.1.ff.fa.fe,.I p.2.2.2.2.2.1.ff.fa.fN,.imm 1 (p.2.2.2.2.2.1.ff.fa.fb.map (V.int .i64)),.imm 1 (p.2.2.2.2.2.1.ff.fa.fc.map V.bool),.I p.2.2.2.2.2.1.ff.fa.fi,.I p.2.2.2.2.2.1.fag,.I p.2.2.2.2.2.1.fas,.I p.2.2.2.2.2.1.fat,.I p.2.2.2.2.2.1.fu,.I p.2.2.2.2.2.1.fad,.I p.2.2.2.2.2.1.fac],[.I p.2.2.2.2.2.2.1.fk,.I p.2.2.2.2.2.2.1.fq,.I p.2.2.2.2.2.2.1.fg,.I p.2.2.2.2.2.2.1.fa.fd,.I p.2.2.2.2.2.2.1.fa.fe,.I p.2.2.2.2.2.2.1.fa.fN,.imm 1 (p.2.2.2.2.2.2.1.fa.fb.map (V.int .i64)),.imm 1 (p.2.2.2.2.2.2.1.fa.fc.map V.bool),.I p.2.2.2.2.2.2.1.fa.fi],[.I p.2.2.2.2.2.2.2.1,.I p.2.2.2.2.2.2.2.2]]⟩)
def q2_fc_L1 (v1:Tn):(List Tm)->Ex × St:=fun p=>((.exit 0),⟨sv 19 [(1,.ref (.box 0) 0 []),(3,.own 2 (p.map Tm.i)),(9,.imm 17 (v1.fr.map Tc.i)),(10,.I (v1.fr.length:Int)),(11,.I (v1.fr.length:Int)),(12,.bool false)],[[.I v1.fan,.I v1.fp.fad,.I v1.fp.fac,.imm 7 (v1.fp.faf.map Td.i),.I v1.fo.fu,.imm 13 (v1.fo.fj.map Tb.i),.imm 17 (v1.fr.map Tc.i),.I v1.fal,.I v1.fao,.I v1.fam,.I v1.fap]]⟩)
def u_fc_L1 (v1:Tn) (k:Int):=outL (J_fc_L1 v1 k) (Sum.elim (q0_fc_L1 v1) (Sum.elim (q1_fc_L1 v1) (q2_fc_L1 v1)))
def b_fc_L1 (v1:Tn) (k:Int) (x:Tc) (s:List Tm):Option ((List Tm) ⊕ ((List Tm × Int × Tc) ⊕ (List Tm × Int × List Ta × Int × Int × Tc × Ta × Int × Int) ⊕ (List Tm))):=(x_ez x).bind fun v78=>(bif !v78 then(some (.inr (.inl (s,k,x)))) else((x_fb x).bind fun v80=>((x_fc_L2 v1 k x v80 s).bind (sel2 (fun (v102:List Tm × Int × Ta × Int × Int)=>(some (.inr (.inr (.inl (v102.1,k,v80,(v80.length:Int),v102.2.1,x,v102.2.2.1,v102.2.2.2.1,v102.2.2.2.2)))))) (fun (v103:List Tm)=>(some (.inl v103)))))))
def e_fc_L1 (v1:Tn) (s:List Tm):Option ((List Tm × Int × Tc) ⊕ (List Tm × Int × List Ta × Int × Int × Tc × Ta × Int × Int) ⊕ (List Tm)):=some ((.inr (.inr s)))
def x_fc_L1 (v1:Tn) (s:List Tm):Option ((List Tm × Int × Tc) ⊕ (List Tm × Int × List Ta × Int × Int × Tc × Ta × Int × Int) ⊕ (List Tm)):=if v1.fr.length <= 9223372036854775806 then listN (b_fc_L1 v1) (e_fc_L1 v1) v1.fr 0 s else none
def L_fc_L1 (v1:Tn) (s:List Tm):Lc3:=⟨19,l_fc_1,1,[0,2,4,5,6,7,8,12,13,14,15,16,17,18],some (J_fc_L1 v1 0 s),List Tm × Int × Tc,List Tm × Int × List Ta × Int × Int × Tc × Ta × Int × Int,List Tm,x_fc_L1 v1 s,q0_fc_L1 v1,q1_fc_L1 v1,q2_fc_L1 v1⟩
theorem zt2 {v1:Tn} {s:List Tm}:(L_fc_L1 v1 s).ok tab:=zvp (za6 (J:=J_fc_L1 v1) (o:=(Sum.elim (q0_fc_L1 v1) (Sum.elim (q1_fc_L1 v1) (q2_fc_L1 v1)))) v1.fr (B:=fun(k:Int) (x:Tc) (s:List Tm)=>(.kb (decide (k < (v1.fr.length:Int))) true<|.ob (0 <= k)<|.lkX Tc.i v1.fr (k.toNat) x<|.callF (C_ez x) fun(v78:Bool)=>.br (!v78) (.lfA (u_fc_L1 v1 (IntKind.i64.wrap (k + 1))) (.inr (.inl (s,k,x))))<|.call (C_fb x) fun(v80:List Ta)=>.lenB Ta.i v80<|.lp2 (L_fc_L2 v1 k x v80 s) (fun (v102:List Tm × Int × Ta × Int × Int)=>.lfA (u_fc_L1 v1 (IntKind.i64.wrap (k + 1))) (.inr (.inr (.inl (v102.1,k,v80,(v80.length:Int),v102.2.1,x,v102.2.2.1,v102.2.2.2.1,v102.2.2.2.2))))) (fun (v103:List Tm)=>.lfA (u_fc_L1 v1 (IntKind.i64.wrap (k + 1))) (.inl v103)):Tree ((List Tm) ⊕ ((List Tm × Int × Tc) ⊕ (List Tm × Int × List Ta × Int × Int × Tc × Ta × Int × Int) ⊕ (List Tm))) _)) (E:=fun(s:List Tm)=>(.kb (decide ((v1.fr.length:Int) < (v1.fr.length:Int))) false<|.lfA (u_fc_L1 v1 0) (.inr (.inr (.inr s))):Tree ((List Tm) ⊕ ((List Tm × Int × Tc) ⊕ (List Tm × Int × List Ta × Int × Int × Tc × Ta × Int × Int) ⊕ (List Tm))) _)) (fun k x s=>by kernel_rfl) (fun d x t s he=>⟨ltX he,⟨Int.natCast_nonneg _,⟨za7 Tc.i he,cF zxz fun v78=>bR (rfl)<|cE zwo fun v80=>lB<|lQ zsg (fun v102=>rfl) (fun v103=>rfl)⟩⟩⟩) (ho2 (fun _=>rfl) (ho2 (fun _=>rfl) fun _=>rfl)) (fun s=>by kernel_rfl) (fun s=>⟨ltE _,rfl⟩) (by kernel_rfl) (by kernel_rfl) s)
def x_fc (v1:Tn):Option Bool:=(x_dj v1.fan).bind fun v2=>(bif !v2 then(some false) else((x_dt v1.fp).bind fun v4=>(bif !v4 then(some false) else((x_ep v1.fo).bind fun v6=>(bif !v6 then(some false) else(bif decide ((v1.fr.length:Int) ≠ 6) then(some false) else((x_du v1.fal).bind fun v9=>(bif !v9 then(some false) else((x_du v1.fao).bind fun v11=>(bif !v11 then(some false) else((x_du v1.fam).bind fun v13=>(bif !v13 then(some false) else((x_du v1.fap).bind fun v15=>(bif !v15 then(some false) else((x_fc_L1 v1 ([])).bind (sel3 (fun (v104:List Tm × Int × Tc)=>(some false)) (fun (v105:List Tm × Int × List Ta × Int × Int × Tc × Ta × Int × Int)=>(some false)) (fun (v106:List Tm)=>((x_eq v1.fo).bind fun v107=>(some (decide ((v106.length:Int)=v107)))))))))))))))))))))
def C_fc (v1:Tn):Ctr:=⟨n_fc,[.agg [.I v1.fan,.I v1.fp.fad,.I v1.fp.fac,.imm 7 (v1.fp.faf.map Td.i),.I v1.fo.fu,.imm 13 (v1.fo.fj.map Tb.i),.imm 17 (v1.fr.map Tc.i),.I v1.fal,.I v1.fao,.I v1.fam,.I v1.fap]],[],Bool,x_fc v1,rB⟩
theorem yji {v1:Tn}:(C_fc v1).okF tab:=fun r hr=>⟨za1 ym9 rfl (.callF (C_dj v1.fan) fun(v2:Bool)=>.br (!v2) (.lfA rB false)<|.callF (C_dt v1.fp) fun(v4:Bool)=>.br (!v4) (.lfA rB false)<|.callF (C_ep v1.fo) fun(v6:Bool)=>.br (!v6) (.lfA rB false)<|.lenA Tc.i v1.fr<|.br (decide ((v1.fr.length:Int) ≠ 6)) (.lfA rB false)<|.callF (C_du v1.fal) fun(v9:Bool)=>.br (!v9) (.lfA rB false)<|.callF (C_du v1.fao) fun(v11:Bool)=>.br (!v11) (.lfA rB false)<|.callF (C_du v1.fam) fun(v13:Bool)=>.br (!v13) (.lfA rB false)<|.callF (C_du v1.fap) fun(v15:Bool)=>.br (!v15) (.lfA rB false)<|.sk<|.seg [] 0 0 []<|.lenA Tc.i v1.fr<|.lp3 (L_fc_L1 v1 ([])) (fun (v104:List Tm × Int × Tc)=>.lfA rB false) (fun (v105:List Tm × Int × List Ta × Int × Int × Tc × Ta × Int × Int)=>.lfA rB false) (fun (v106:List Tm)=>.lenB Tm.i v106<|.callF (C_eq v1.fo) fun(v107:Int)=>.lfA rB (decide ((v106.length:Int)=v107))):Tree Bool _) (by kernel_rfl) (by kernel_rfl) (cF zx4 fun v2=>bR (rfl)<|cF zye fun v4=>bR (rfl)<|cF zwv fun v6=>bR (rfl)<|lA<|bR (rfl)<|cF zrt fun v9=>bR (rfl)<|cF zrt fun v11=>bR (rfl)<|cF zrt fun v13=>bR (rfl)<|cF zrt fun v15=>bR (rfl)<|⟨zce [],lA<|lR zt2 (fun v104=>rfl) (fun v105=>rfl) (fun v106=>lB<|cF yj1 fun v107=>rfl)⟩) hr,rfl,rfl⟩
def J_fd_L1 (v1:Tn) (k:Int) (s:Int):St:=⟨sv 9 [(3,.I s),(5,.imm 17 (v1.fr.map Tc.i)),(6,.I (v1.fr.length:Int)),(7,.I k)],[[.I v1.fan,.I v1.fp.fad,.I v1.fp.fac,.imm 7 (v1.fp.faf.map Td.i),.I v1.fo.fu,.imm 13 (v1.fo.fj.map Tb.i),.imm 17 (v1.fr.map Tc.i),.I v1.fal,.I v1.fao,.I v1.fam,.I v1.fap]]⟩
def q0_fd_L1 (v1:Tn):Int->Ex × St:=fun p=>((.exit 0),⟨sv 9 [(3,.I p),(5,.imm 17 (v1.fr.map Tc.i)),(6,.I (v1.fr.length:Int)),(7,.I (v1.fr.length:Int)),(8,.bool false)],[[.I v1.fan,.I v1.fp.fad,.I v1.fp.fac,.imm 7 (v1.fp.faf.map Td.i),.I v1.fo.fu,.imm 13 (v1.fo.fj.map Tb.i),.imm 17 (v1.fr.map Tc.i),.I v1.fal,.I v1.fao,.I v1.fam,.I v1.fap]]⟩)
def u_fd_L1 (v1:Tn) (k:Int):=outL (J_fd_L1 v1 k) (q0_fd_L1 v1)
def b_fd_L1 (v1:Tn) (k:Int) (x:Tc) (s:Int):Option ((Int) ⊕ (Int)):=(x_fb x).bind fun v13=>(some (.inl (IntKind.i64.wrap (s + (v13.length:Int)))))
def e_fd_L1 (v1:Tn) (s:Int):Option Int:=some (s)
def x_fd_L1 (v1:Tn) (s:Int):Option Int:=if v1.fr.length <= 9223372036854775806 then listN (b_fd_L1 v1) (e_fd_L1 v1) v1.fr 0 s else none
def L_fd_L1 (v1:Tn) (s:Int):Lct:=⟨9,l_fd_0,1,[0,1,2,4,8],some (J_fd_L1 v1 0 s),Int,x_fd_L1 v1 s,q0_fd_L1 v1⟩
theorem zs0 {v1:Tn} {s:Int}:(L_fd_L1 v1 s).ok tab:=zc2 (za6 (J:=J_fd_L1 v1) (o:=(q0_fd_L1 v1)) v1.fr (B:=fun(k:Int) (x:Tc) (s:Int)=>(.kb (decide (k < (v1.fr.length:Int))) true<|.ob (0 <= k)<|.lkX Tc.i v1.fr (k.toNat) x<|.call (C_fb x) fun(v13:List Ta)=>.lenB Ta.i v13<|.lfA (u_fd_L1 v1 (IntKind.i64.wrap (k + 1))) (.inl (IntKind.i64.wrap (s + (v13.length:Int)))):Tree ((Int) ⊕ (Int)) _)) (E:=fun(s:Int)=>(.kb (decide ((v1.fr.length:Int) < (v1.fr.length:Int))) false<|.lfA (u_fd_L1 v1 0) (.inr s):Tree ((Int) ⊕ (Int)) _)) (fun k x s=>by kernel_rfl) (fun d x t s he=>⟨ltX he,⟨Int.natCast_nonneg _,⟨za7 Tc.i he,cE zwo fun v13=>lB<|rfl⟩⟩⟩) (fun _=>rfl) (fun s=>by kernel_rfl) (fun s=>⟨ltE _,rfl⟩) (by kernel_rfl) (by kernel_rfl) s)
def x_fd (v1:Tn):Option Int:=(x_fd_L1 v1 0).bind fun v14=>(some v14)
def C_fd (v1:Tn):Ctr:=⟨n_fd,[.agg [.I v1.fan,.I v1.fp.fad,.I v1.fp.fac,.imm 7 (v1.fp.faf.map Td.i),.I v1.fo.fu,.imm 13 (v1.fo.fj.map Tb.i),.imm 17 (v1.fr.map Tc.i),.I v1.fal,.I v1.fao,.I v1.fam,.I v1.fap]],[],Int,x_fd v1,rI⟩
theorem zzz {v1:Tn}:(C_fd v1).okF tab:=fun r hr=>⟨za1 yi5 rfl (.lenA Tc.i v1.fr<|.lp (L_fd_L1 v1 0) fun(v14:Int)=>.lfA rI v14:Tree Int _) (by kernel_rfl) (by kernel_rfl) (lA<|lP zs0 fun v14=>rfl) hr,rfl,rfl⟩
def x_fe (v1:Tn):Option Int:=(x_fc v1).bind fun v2=>(bif !v2 then(some 0) else((x_fd v1).bind fun v4=>(some v4)))
def C_fe (v1:Tn):Ctr:=⟨n_fe,[.agg [.I v1.fan,.I v1.fp.fad,.I v1.fp.fac,.imm 7 (v1.fp.faf.map Td.i),.I v1.fo.fu,.imm 13 (v1.fo.fj.map Tb.i),.imm 17 (v1.fr.map Tc.i),.I v1.fal,.I v1.fao,.I v1.fam,.I v1.fap]],[],Int,x_fe v1,rI⟩
theorem ylm {v1:Tn}:(C_fe v1).okF tab:=fun r hr=>⟨za1 ybw rfl (.callF (C_fc v1) fun(v2:Bool)=>.br (!v2) (.lfA rI 0)<|.callF (C_fd v1) fun(v4:Int)=>.lfA rI v4:Tree Int _) (by kernel_rfl) (by kernel_rfl) (cF yji fun v2=>bR (rfl)<|cF zzz fun v4=>rfl) hr,rfl,rfl⟩
def x_ff (v1:Tp):Option Int:=(x_fe v1.fF).bind fun v2=>(some (IntKind.i64.wrap ((IntKind.i64.wrap (v2 * (IntKind.i64.wrap ((IntKind.i64.wrap (v1.fF.fp.fad * (IntKind.i64.wrap (v1.fF.fp.fac + 1)))) + 1)))) + 2)))
def C_ff (v1:Tp):Ctr:=⟨n_ff,[.agg [.I v1.fF.fan,.I v1.fF.fp.fad,.I v1.fF.fp.fac,.imm 7 (v1.fF.fp.faf.map Td.i),.I v1.fF.fo.fu,.imm 13 (v1.fF.fo.fj.map Tb.i),.imm 17 (v1.fF.fr.map Tc.i),.I v1.fF.fal,.I v1.fF.fao,.I v1.fF.fam,.I v1.fF.fap,.imm 6 (v1.fba.map Tk.i),.imm 16 (v1.faz.map Th.i),.imm 16 (v1.fbb.map Tg.i),.imm 15 (v1.fbc.map Ti.i)]],[],Int,x_ff v1,rI⟩
theorem yay {v1:Tp}:(C_ff v1).okF tab:=fun r hr=>⟨za1 ykw rfl (.callF (C_fe v1.fF) fun(v2:Int)=>.lfA rI (IntKind.i64.wrap ((IntKind.i64.wrap (v2 * (IntKind.i64.wrap ((IntKind.i64.wrap (v1.fF.fp.fad * (IntKind.i64.wrap (v1.fF.fp.fac + 1)))) + 1)))) + 2)):Tree Int _) (by kernel_rfl) (by kernel_rfl) (cF ylm fun v2=>rfl) hr,rfl,rfl⟩
def x_fg (v1:Td) (v2:Td):Option Bool:=bif decide (v1.fg ≠ v2.fg) then(some false) else(bif decide (v1.fau ≠ v2.fau) then(some false) else(bif decide (v1.faj ≠ v2.faj) then(some false) else(bif decide (v1.fak ≠ v2.fak) then(some false) else(bif decide (v1.fw ≠ v2.fw) then(some false) else(bif decide (v1.fay ≠ v2.fay) then(some false) else(bif decide (v1.faq ≠ v2.faq) then(some false) else(some true)))))))
def C_fg (v1:Td) (v2:Td):Ctr:=⟨n_fg,[.agg [.I v1.fg,.I v1.fau,.I v1.faj,.I v1.fak,.I v1.fw,.I v1.fay,.I v1.faq],.agg [.I v2.fg,.I v2.fau,.I v2.faj,.I v2.fak,.I v2.fw,.I v2.fay,.I v2.faq]],[],Bool,x_fg v1 v2,rB⟩
theorem yjs {v1:Td} {v2:Td}:(C_fg v1 v2).okF tab:=fun r hr=>⟨za1 yfa rfl (.br (decide (v1.fg ≠ v2.fg)) (.lfA rB false)<|.br (decide (v1.fau ≠ v2.fau)) (.lfA rB false)<|.br (decide (v1.faj ≠ v2.faj)) (.lfA rB false)<|.br (decide (v1.fak ≠ v2.fak)) (.lfA rB false)<|.br (decide (v1.fw ≠ v2.fw)) (.lfA rB false)<|.br (decide (v1.fay ≠ v2.fay)) (.lfA rB false)<|.br (decide (v1.faq ≠ v2.faq)) (.lfA rB false)<|.lfA rB true:Tree Bool _) (by kernel_rfl) (by kernel_rfl) (bR (rfl)<|bR (rfl)<|bR (rfl)<|bR (rfl)<|bR (rfl)<|bR (rfl)<|bR (rfl)<|rfl) hr,rfl,rfl⟩
def J_fh_L1 (v1:List Td) (v2:List Td) (k:Int) (s:Unit):St:=⟨sv 7 [(0,.imm 7 (v1.map Td.i)),(1,.imm 7 (v2.map Td.i)),(3,.I k)],[]⟩
def q0_fh_L1 (v1:List Td) (v2:List Td):Int->Ex × St:=fun p=>(.ret,⟨sv 7 [(0,.imm 7 (v1.map Td.i)),(1,.imm 7 (v2.map Td.i)),(2,.bool false),(3,.I p),(5,.bool true),(6,.bool true)],[]⟩)
def q1_fh_L1 (v1:List Td) (v2:List Td):Unit->Ex × St:=fun p=>((.exit 0),⟨sv 7 [(0,.imm 7 (v1.map Td.i)),(1,.imm 7 (v2.map Td.i)),(3,.I (v1.length:Int)),(5,.bool false)],[]⟩)
def u_fh_L1 (v1:List Td) (v2:List Td) (k:Int):=outL (J_fh_L1 v1 v2 k) (Sum.elim (q0_fh_L1 v1 v2) (q1_fh_L1 v1 v2))
def b_fh_L1 (v1:List Td) (v2:List Td) (k:Int) (x:Td) (s:Unit):Option ((Unit) ⊕ (Int ⊕ Unit)):=((v2)[k.toNat]?).bind fun v20=>((x_fg x v20).bind fun v22=>(bif !v22 then(some (.inr (.inl k))) else(some (.inl ()))))
def e_fh_L1 (v1:List Td) (v2:List Td) (s:Unit):Option (Int ⊕ Unit):=some ((.inr ()))
def x_fh_L1 (v1:List Td) (v2:List Td) (s:Unit):Option (Int ⊕ Unit):=if v1.length <= 9223372036854775806 then listN (b_fh_L1 v1 v2) (e_fh_L1 v1 v2) v1 0 s else none
def L_fh_L1 (v1:List Td) (v2:List Td) (s:Unit):Lc2:=⟨7,l_fh_0,0,[2,4,5,6],some (J_fh_L1 v1 v2 0 s),Int,Unit,x_fh_L1 v1 v2 s,q0_fh_L1 v1 v2,q1_fh_L1 v1 v2⟩
theorem zsr {v1:List Td} {v2:List Td} {s:Unit}:(L_fh_L1 v1 v2 s).ok tab:=zao (za6 (J:=J_fh_L1 v1 v2) (o:=(Sum.elim (q0_fh_L1 v1 v2) (q1_fh_L1 v1 v2))) v1 (B:=fun(k:Int) (x:Td) (s:Unit)=>(.lenA Td.i v1<|.kb (decide (k < (v1.length:Int))) true<|.ob (0 <= k)<|.lkX Td.i v1 (k.toNat) x<|.ob (0 <= k)<|.lookA Td.i v2 (k.toNat) fun v20=>.callF (C_fg x v20) fun(v22:Bool)=>.br (!v22) (.lfA (u_fh_L1 v1 v2 (IntKind.i64.wrap (k + 1))) (.inr (.inl k)))<|.lfA (u_fh_L1 v1 v2 (IntKind.i64.wrap (k + 1))) (.inl ()):Tree ((Unit) ⊕ (Int ⊕ Unit)) _)) (E:=fun(s:Unit)=>(.lenA Td.i v1<|.kb (decide ((v1.length:Int) < (v1.length:Int))) false<|.lfA (u_fh_L1 v1 v2 0) (.inr (.inr ())):Tree ((Unit) ⊕ (Int ⊕ Unit)) _)) (fun k x s=>by kernel_rfl) (fun d x t s he=>lA<|⟨ltX he,⟨Int.natCast_nonneg _,⟨za7 Td.i he,⟨Int.natCast_nonneg _,kA fun v20=>cF yjs fun v22=>bR (rfl)<|rfl⟩⟩⟩⟩) (ho2 (fun _=>rfl) fun _=>rfl) (fun s=>by kernel_rfl) (fun s=>lA<|⟨ltE _,rfl⟩) (by kernel_rfl) (by kernel_rfl) s)
def x_fh (v1:List Td) (v2:List Td):Option Bool:=bif decide ((v1.length:Int) ≠ (v2.length:Int)) then(some false) else((x_fh_L1 v1 v2 ()).bind (sel2 (fun (v24:Int)=>(some false)) (fun (v25:Unit)=>(some true))))
def C_fh (v1:List Td) (v2:List Td):Ctr:=⟨n_fh,[.imm 7 (v1.map Td.i),.imm 7 (v2.map Td.i)],[],Bool,x_fh v1 v2,rB⟩
theorem ybr {v1:List Td} {v2:List Td}:(C_fh v1 v2).okF tab:=fun r hr=>⟨za1 yl9 rfl (.lenA Td.i v1<|.lenA Td.i v2<|.br (decide ((v1.length:Int) ≠ (v2.length:Int))) (.lfA rB false)<|.lp2 (L_fh_L1 v1 v2 ()) (fun (v24:Int)=>.lfA rB false) (fun (v25:Unit)=>.lfA rB true):Tree Bool _) (by kernel_rfl) (by kernel_rfl) (lA<|lA<|bR (rfl)<|lQ zsr (fun v24=>rfl) (fun v25=>rfl)) hr,rfl,rfl⟩
def x_fi (v1:Tr) (v2:Tr):Option Bool:=bif decide (v1.fad ≠ v2.fad) then(some false) else(bif decide (v1.fac ≠ v2.fac) then(some false) else((x_fh v1.faf v2.faf).bind fun v5=>(bif !v5 then(some false) else(some true))))
def C_fi (v1:Tr) (v2:Tr):Ctr:=⟨n_fi,[.agg [.I v1.fad,.I v1.fac,.imm 7 (v1.faf.map Td.i)],.agg [.I v2.fad,.I v2.fac,.imm 7 (v2.faf.map Td.i)]],[],Bool,x_fi v1 v2,rB⟩
theorem yku {v1:Tr} {v2:Tr}:(C_fi v1 v2).okF tab:=fun r hr=>⟨za1 yap rfl (.br (decide (v1.fad ≠ v2.fad)) (.lfA rB false)<|.br (decide (v1.fac ≠ v2.fac)) (.lfA rB false)<|.callF (C_fh v1.faf v2.faf) fun(v5:Bool)=>.br (!v5) (.lfA rB false)<|.lfA rB true:Tree Bool _) (by kernel_rfl) (by kernel_rfl) (bR (rfl)<|bR (rfl)<|cF ybr fun v5=>bR (rfl)<|rfl) hr,rfl,rfl⟩
def J_fj_L1 (v1:List Int) (v2:List Int) (k:Int) (s:Unit):St:=⟨sv 7 [(0,.imm 1 (v1.map (V.int .i64))),(1,.imm 1 (v2.map (V.int .i64))),(3,.I k)],[]⟩
def q0_fj_L1 (v1:List Int) (v2:List Int):Int->Ex × St:=fun p=>(.ret,⟨sv 7 [(0,.imm 1 (v1.map (V.int .i64))),(1,.imm 1 (v2.map (V.int .i64))),(2,.bool false),(3,.I p),(5,.bool true),(6,.bool true)],[]⟩)
def q1_fj_L1 (v1:List Int) (v2:List Int):Unit->Ex × St:=fun p=>((.exit 0),⟨sv 7 [(0,.imm 1 (v1.map (V.int .i64))),(1,.imm 1 (v2.map (V.int .i64))),(3,.I (v1.length:Int)),(5,.bool false)],[]⟩)
def u_fj_L1 (v1:List Int) (v2:List Int) (k:Int):=outL (J_fj_L1 v1 v2 k) (Sum.elim (q0_fj_L1 v1 v2) (q1_fj_L1 v1 v2))
def b_fj_L1 (v1:List Int) (v2:List Int) (k:Int) (x:Int) (s:Unit):Option ((Unit) ⊕ (Int ⊕ Unit)):=((v2)[k.toNat]?).bind fun v18=>(bif decide (x ≠ v18) then(some (.inr (.inl k))) else(some (.inl ())))
def e_fj_L1 (v1:List Int) (v2:List Int) (s:Unit):Option (Int ⊕ Unit):=some ((.inr ()))
def x_fj_L1 (v1:List Int) (v2:List Int) (s:Unit):Option (Int ⊕ Unit):=if v1.length <= 9223372036854775806 then listN (b_fj_L1 v1 v2) (e_fj_L1 v1 v2) v1 0 s else none
def L_fj_L1 (v1:List Int) (v2:List Int) (s:Unit):Lc2:=⟨7,l_fj_0,0,[2,4,5,6],some (J_fj_L1 v1 v2 0 s),Int,Unit,x_fj_L1 v1 v2 s,q0_fj_L1 v1 v2,q1_fj_L1 v1 v2⟩
theorem zt1 {v1:List Int} {v2:List Int} {s:Unit}:(L_fj_L1 v1 v2 s).ok tab:=zao (za6 (J:=J_fj_L1 v1 v2) (o:=(Sum.elim (q0_fj_L1 v1 v2) (q1_fj_L1 v1 v2))) v1 (B:=fun(k:Int) (x:Int) (s:Unit)=>(.lenA (V.int .i64) v1<|.kb (decide (k < (v1.length:Int))) true<|.ob (0 <= k)<|.lkX (V.int .i64) v1 (k.toNat) x<|.ob (0 <= k)<|.lookA (V.int .i64) v2 (k.toNat) fun v18=>.br (decide (x ≠ v18)) (.lfA (u_fj_L1 v1 v2 (IntKind.i64.wrap (k + 1))) (.inr (.inl k)))<|.lfA (u_fj_L1 v1 v2 (IntKind.i64.wrap (k + 1))) (.inl ()):Tree ((Unit) ⊕ (Int ⊕ Unit)) _)) (E:=fun(s:Unit)=>(.lenA (V.int .i64) v1<|.kb (decide ((v1.length:Int) < (v1.length:Int))) false<|.lfA (u_fj_L1 v1 v2 0) (.inr (.inr ())):Tree ((Unit) ⊕ (Int ⊕ Unit)) _)) (fun k x s=>by kernel_rfl) (fun d x t s he=>lA<|⟨ltX he,⟨Int.natCast_nonneg _,⟨za7 (V.int .i64) he,⟨Int.natCast_nonneg _,kA fun v18=>bR (rfl)<|rfl⟩⟩⟩⟩) (ho2 (fun _=>rfl) fun _=>rfl) (fun s=>by kernel_rfl) (fun s=>lA<|⟨ltE _,rfl⟩) (by kernel_rfl) (by kernel_rfl) s)
def x_fj (v1:List Int) (v2:List Int):Option Bool:=bif decide ((v1.length:Int) ≠ (v2.length:Int)) then(some false) else((x_fj_L1 v1 v2 ()).bind (sel2 (fun (v21:Int)=>(some false)) (fun (v22:Unit)=>(some true))))
def C_fj (v1:List Int) (v2:List Int):Ctr:=⟨n_fj,[.imm 1 (v1.map (V.int .i64)),.imm 1 (v2.map (V.int .i64))],[],Bool,x_fj v1 v2,rB⟩
theorem zw0 {v1:List Int} {v2:List Int}:(C_fj v1 v2).okF tab:=fun r hr=>⟨za1 yel rfl (.lenA (V.int .i64) v1<|.lenA (V.int .i64) v2<|.br (decide ((v1.length:Int) ≠ (v2.length:Int))) (.lfA rB false)<|.lp2 (L_fj_L1 v1 v2 ()) (fun (v21:Int)=>.lfA rB false) (fun (v22:Unit)=>.lfA rB true):Tree Bool _) (by kernel_rfl) (by kernel_rfl) (lA<|lA<|bR (rfl)<|lQ zt1 (fun v21=>rfl) (fun v22=>rfl)) hr,rfl,rfl⟩
def J_fk_L1 (v1:List Bool) (v2:List Bool) (k:Int) (s:Unit):St:=⟨sv 7 [(0,.imm 1 (v1.map V.bool)),(1,.imm 1 (v2.map V.bool)),(3,.I k)],[]⟩
def q0_fk_L1 (v1:List Bool) (v2:List Bool):Int->Ex × St:=fun p=>(.ret,⟨sv 7 [(0,.imm 1 (v1.map V.bool)),(1,.imm 1 (v2.map V.bool)),(2,.bool false),(3,.I p),(5,.bool true),(6,.bool true)],[]⟩)
def q1_fk_L1 (v1:List Bool) (v2:List Bool):Unit->Ex × St:=fun p=>((.exit 0),⟨sv 7 [(0,.imm 1 (v1.map V.bool)),(1,.imm 1 (v2.map V.bool)),(3,.I (v1.length:Int)),(5,.bool false)],[]⟩)
def u_fk_L1 (v1:List Bool) (v2:List Bool) (k:Int):=outL (J_fk_L1 v1 v2 k) (Sum.elim (q0_fk_L1 v1 v2) (q1_fk_L1 v1 v2))
def b_fk_L1 (v1:List Bool) (v2:List Bool) (k:Int) (x:Bool) (s:Unit):Option ((Unit) ⊕ (Int ⊕ Unit)):=((v2)[k.toNat]?).bind fun v18=>(bif true ^^ (x == v18) then(some (.inr (.inl k))) else(some (.inl ())))
def e_fk_L1 (v1:List Bool) (v2:List Bool) (s:Unit):Option (Int ⊕ Unit):=some ((.inr ()))
def x_fk_L1 (v1:List Bool) (v2:List Bool) (s:Unit):Option (Int ⊕ Unit):=if v1.length <= 9223372036854775806 then listN (b_fk_L1 v1 v2) (e_fk_L1 v1 v2) v1 0 s else none
def L_fk_L1 (v1:List Bool) (v2:List Bool) (s:Unit):Lc2:=⟨7,l_fk_0,0,[2,4,5,6],some (J_fk_L1 v1 v2 0 s),Int,Unit,x_fk_L1 v1 v2 s,q0_fk_L1 v1 v2,q1_fk_L1 v1 v2⟩
theorem zu1 {v1:List Bool} {v2:List Bool} {s:Unit}:(L_fk_L1 v1 v2 s).ok tab:=zao (za6 (J:=J_fk_L1 v1 v2) (o:=(Sum.elim (q0_fk_L1 v1 v2) (q1_fk_L1 v1 v2))) v1 (B:=fun(k:Int) (x:Bool) (s:Unit)=>(.lenA V.bool v1<|.kb (decide (k < (v1.length:Int))) true<|.ob (0 <= k)<|.lkX V.bool v1 (k.toNat) x<|.ob (0 <= k)<|.lookA V.bool v2 (k.toNat) fun v18=>.br (true ^^ (x == v18)) (.lfA (u_fk_L1 v1 v2 (IntKind.i64.wrap (k + 1))) (.inr (.inl k)))<|.lfA (u_fk_L1 v1 v2 (IntKind.i64.wrap (k + 1))) (.inl ()):Tree ((Unit) ⊕ (Int ⊕ Unit)) _)) (E:=fun(s:Unit)=>(.lenA V.bool v1<|.kb (decide ((v1.length:Int) < (v1.length:Int))) false<|.lfA (u_fk_L1 v1 v2 0) (.inr (.inr ())):Tree ((Unit) ⊕ (Int ⊕ Unit)) _)) (fun k x s=>by kernel_rfl) (fun d x t s he=>lA<|⟨ltX he,⟨Int.natCast_nonneg _,⟨za7 V.bool he,⟨Int.natCast_nonneg _,kA fun v18=>bR (rfl)<|rfl⟩⟩⟩⟩) (ho2 (fun _=>rfl) fun _=>rfl) (fun s=>by kernel_rfl) (fun s=>lA<|⟨ltE _,rfl⟩) (by kernel_rfl) (by kernel_rfl) s)
def x_fk (v1:List Bool) (v2:List Bool):Option Bool:=bif decide ((v1.length:Int) ≠ (v2.length:Int)) then(some false) else((x_fk_L1 v1 v2 ()).bind (sel2 (fun (v21:Int)=>(some false)) (fun (v22:Unit)=>(some true))))
def C_fk (v1:List Bool) (v2:List Bool):Ctr:=⟨n_fk,[.imm 1 (v1.map V.bool),.imm 1 (v2.map V.bool)],[],Bool,x_fk v1 v2,rB⟩
theorem zvj {v1:List Bool} {v2:List Bool}:(C_fk v1 v2).okF tab:=fun r hr=>⟨za1 ymr rfl (.lenA V.bool v1<|.lenA V.bool v2<|.br (decide ((v1.length:Int) ≠ (v2.length:Int))) (.lfA rB false)<|.lp2 (L_fk_L1 v1 v2 ()) (fun (v21:Int)=>.lfA rB false) (fun (v22:Unit)=>.lfA rB true):Tree Bool _) (by kernel_rfl) (by kernel_rfl) (lA<|lA<|bR (rfl)<|lQ zu1 (fun v21=>rfl) (fun v22=>rfl)) hr,rfl,rfl⟩
def x_fl (v1:Tj) (v2:Tj):Option Bool:=bif decide (v1.fd ≠ v2.fd) then(some false) else(bif decide (v1.fe ≠ v2.fe) then(some false) else(bif decide (v1.fN ≠ v2.fN) then(some false) else((x_fj v1.fb v2.fb).bind fun v6=>(bif !v6 then(some false) else((x_fk v1.fc v2.fc).bind fun v8=>(bif !v8 then(some false) else(bif decide (v1.fi ≠ v2.fi) then(some false) else(some true))))))))
def C_fl (v1:Tj) (v2:Tj):Ctr:=⟨n_fl,[.agg [.I v1.fd,.I v1.fe,.I v1.fN,.imm 1 (v1.fb.map (V.int .i64)),.imm 1 (v1.fc.map V.bool),.I v1.fi],.agg [.I v2.fd,.I v2.fe,.I v2.fN,.imm 1 (v2.fb.map (V.int .i64)),.imm 1 (v2.fc.map V.bool),.I v2.fi]],[],Bool,x_fl v1 v2,rB⟩
theorem zv2 {v1:Tj} {v2:Tj}:(C_fl v1 v2).okF tab:=fun r hr=>⟨za1 yfd rfl (.br (decide (v1.fd ≠ v2.fd)) (.lfA rB false)<|.br (decide (v1.fe ≠ v2.fe)) (.lfA rB false)<|.br (decide (v1.fN ≠ v2.fN)) (.lfA rB false)<|.callF (C_fj v1.fb v2.fb) fun(v6:Bool)=>.br (!v6) (.lfA rB false)<|.callF (C_fk v1.fc v2.fc) fun(v8:Bool)=>.br (!v8) (.lfA rB false)<|.br (decide (v1.fi ≠ v2.fi)) (.lfA rB false)<|.lfA rB true:Tree Bool _) (by kernel_rfl) (by kernel_rfl) (bR (rfl)<|bR (rfl)<|bR (rfl)<|cF zw0 fun v6=>bR (rfl)<|cF zvj fun v8=>bR (rfl)<|bR (rfl)<|rfl) hr,rfl,rfl⟩
def x_fm (v1:Tf) (v2:Tf):Option Bool:=bif decide (v1.fw ≠ v2.fw) then(some false) else(bif decide (v1.fg ≠ v2.fg) then(some false) else((x_fl v1.fa v2.fa).bind fun v5=>(bif !v5 then(some false) else(some true))))
def C_fm (v1:Tf) (v2:Tf):Ctr:=⟨n_fm,[.agg [.I v1.fw,.I v1.fg,.I v1.fa.fd,.I v1.fa.fe,.I v1.fa.fN,.imm 1 (v1.fa.fb.map (V.int .i64)),.imm 1 (v1.fa.fc.map V.bool),.I v1.fa.fi],.agg [.I v2.fw,.I v2.fg,.I v2.fa.fd,.I v2.fa.fe,.I v2.fa.fN,.imm 1 (v2.fa.fb.map (V.int .i64)),.imm 1 (v2.fa.fc.map V.bool),.I v2.fa.fi]],[],Bool,x_fm v1 v2,rB⟩
theorem yd0 {v1:Tf} {v2:Tf}:(C_fm v1 v2).okF tab:=fun r hr=>⟨za1 ycb rfl (.br (decide (v1.fw ≠ v2.fw)) (.lfA rB false)<|.br (decide (v1.fg ≠ v2.fg)) (.lfA rB false)<|.callF (C_fl v1.fa v2.fa) fun(v5:Bool)=>.br (!v5) (.lfA rB false)<|.lfA rB true:Tree Bool _) (by kernel_rfl) (by kernel_rfl) (bR (rfl)<|bR (rfl)<|cF zv2 fun v5=>bR (rfl)<|rfl) hr,rfl,rfl⟩
def J_fn_L1 (v1:List Tf) (v2:List Tf) (k:Int) (s:Unit):St:=⟨sv 7 [(0,.imm 8 (v1.map Tf.i)),(1,.imm 8 (v2.map Tf.i)),(3,.I k)],[]⟩
def q0_fn_L1 (v1:List Tf) (v2:List Tf):Int->Ex × St:=fun p=>(.ret,⟨sv 7 [(0,.imm 8 (v1.map Tf.i)),(1,.imm 8 (v2.map Tf.i)),(2,.bool false),(3,.I p),(5,.bool true),(6,.bool true)],[]⟩)
def q1_fn_L1 (v1:List Tf) (v2:List Tf):Unit->Ex × St:=fun p=>((.exit 0),⟨sv 7 [(0,.imm 8 (v1.map Tf.i)),(1,.imm 8 (v2.map Tf.i)),(3,.I (v1.length:Int)),(5,.bool false)],[]⟩)
def u_fn_L1 (v1:List Tf) (v2:List Tf) (k:Int):=outL (J_fn_L1 v1 v2 k) (Sum.elim (q0_fn_L1 v1 v2) (q1_fn_L1 v1 v2))
def b_fn_L1 (v1:List Tf) (v2:List Tf) (k:Int) (x:Tf) (s:Unit):Option ((Unit) ⊕ (Int ⊕ Unit)):=((v2)[k.toNat]?).bind fun v20=>((x_fm x v20).bind fun v22=>(bif !v22 then(some (.inr (.inl k))) else(some (.inl ()))))
def e_fn_L1 (v1:List Tf) (v2:List Tf) (s:Unit):Option (Int ⊕ Unit):=some ((.inr ()))
def x_fn_L1 (v1:List Tf) (v2:List Tf) (s:Unit):Option (Int ⊕ Unit):=if v1.length <= 9223372036854775806 then listN (b_fn_L1 v1 v2) (e_fn_L1 v1 v2) v1 0 s else none
def L_fn_L1 (v1:List Tf) (v2:List Tf) (s:Unit):Lc2:=⟨7,l_fn_0,0,[2,4,5,6],some (J_fn_L1 v1 v2 0 s),Int,Unit,x_fn_L1 v1 v2 s,q0_fn_L1 v1 v2,q1_fn_L1 v1 v2⟩
theorem zs2 {v1:List Tf} {v2:List Tf} {s:Unit}:(L_fn_L1 v1 v2 s).ok tab:=zao (za6 (J:=J_fn_L1 v1 v2) (o:=(Sum.elim (q0_fn_L1 v1 v2) (q1_fn_L1 v1 v2))) v1 (B:=fun(k:Int) (x:Tf) (s:Unit)=>(.lenA Tf.i v1<|.kb (decide (k < (v1.length:Int))) true<|.ob (0 <= k)<|.lkX Tf.i v1 (k.toNat) x<|.ob (0 <= k)<|.lookA Tf.i v2 (k.toNat) fun v20=>.callF (C_fm x v20) fun(v22:Bool)=>.br (!v22) (.lfA (u_fn_L1 v1 v2 (IntKind.i64.wrap (k + 1))) (.inr (.inl k)))<|.lfA (u_fn_L1 v1 v2 (IntKind.i64.wrap (k + 1))) (.inl ()):Tree ((Unit) ⊕ (Int ⊕ Unit)) _)) (E:=fun(s:Unit)=>(.lenA Tf.i v1<|.kb (decide ((v1.length:Int) < (v1.length:Int))) false<|.lfA (u_fn_L1 v1 v2 0) (.inr (.inr ())):Tree ((Unit) ⊕ (Int ⊕ Unit)) _)) (fun k x s=>by kernel_rfl) (fun d x t s he=>lA<|⟨ltX he,⟨Int.natCast_nonneg _,⟨za7 Tf.i he,⟨Int.natCast_nonneg _,kA fun v20=>cF yd0 fun v22=>bR (rfl)<|rfl⟩⟩⟩⟩) (ho2 (fun _=>rfl) fun _=>rfl) (fun s=>by kernel_rfl) (fun s=>lA<|⟨ltE _,rfl⟩) (by kernel_rfl) (by kernel_rfl) s)
def x_fn (v1:List Tf) (v2:List Tf):Option Bool:=bif decide ((v1.length:Int) ≠ (v2.length:Int)) then(some false) else((x_fn_L1 v1 v2 ()).bind (sel2 (fun (v24:Int)=>(some false)) (fun (v25:Unit)=>(some true))))
def C_fn (v1:List Tf) (v2:List Tf):Ctr:=⟨n_fn,[.imm 8 (v1.map Tf.i),.imm 8 (v2.map Tf.i)],[],Bool,x_fn v1 v2,rB⟩
theorem zxb {v1:List Tf} {v2:List Tf}:(C_fn v1 v2).okF tab:=fun r hr=>⟨za1 yer rfl (.lenA Tf.i v1<|.lenA Tf.i v2<|.br (decide ((v1.length:Int) ≠ (v2.length:Int))) (.lfA rB false)<|.lp2 (L_fn_L1 v1 v2 ()) (fun (v24:Int)=>.lfA rB false) (fun (v25:Unit)=>.lfA rB true):Tree Bool _) (by kernel_rfl) (by kernel_rfl) (lA<|lA<|bR (rfl)<|lQ zs2 (fun v24=>rfl) (fun v25=>rfl)) hr,rfl,rfl⟩
def x_fo (v1:Te) (v2:Te):Option Bool:=bif decide (v1.fd ≠ v2.fd) then(some false) else(bif decide (v1.fae ≠ v2.fae) then(some false) else(bif decide (v1.fe ≠ v2.fe) then(some false) else(bif decide (v1.fN ≠ v2.fN) then(some false) else((x_fj v1.fb v2.fb).bind fun v7=>(bif !v7 then(some false) else((x_fk v1.fc v2.fc).bind fun v9=>(bif !v9 then(some false) else(some true))))))))
def C_fo (v1:Te) (v2:Te):Ctr:=⟨n_fo,[.agg [.I v1.fd,.I v1.fae,.I v1.fe,.I v1.fN,.imm 1 (v1.fb.map (V.int .i64)),.imm 1 (v1.fc.map V.bool)],.agg [.I v2.fd,.I v2.fae,.I v2.fe,.I v2.fN,.imm 1 (v2.fb.map (V.int .i64)),.imm 1 (v2.fc.map V.bool)]],[],Bool,x_fo v1 v2,rB⟩
theorem zw6 {v1:Te} {v2:Te}:(C_fo v1 v2).okF tab:=fun r hr=>⟨za1 yjg rfl (.br (decide (v1.fd ≠ v2.fd)) (.lfA rB false)<|.br (decide (v1.fae ≠ v2.fae)) (.lfA rB false)<|.br (decide (v1.fe ≠ v2.fe)) (.lfA rB false)<|.br (decide (v1.fN ≠ v2.fN)) (.lfA rB false)<|.callF (C_fj v1.fb v2.fb) fun(v7:Bool)=>.br (!v7) (.lfA rB false)<|.callF (C_fk v1.fc v2.fc) fun(v9:Bool)=>.br (!v9) (.lfA rB false)<|.lfA rB true:Tree Bool _) (by kernel_rfl) (by kernel_rfl) (bR (rfl)<|bR (rfl)<|bR (rfl)<|bR (rfl)<|cF zw0 fun v7=>bR (rfl)<|cF zvj fun v9=>bR (rfl)<|rfl) hr,rfl,rfl⟩
def J_fp_L1 (v1:List Te) (v2:List Te) (k:Int) (s:Unit):St:=⟨sv 7 [(0,.imm 6 (v1.map Te.i)),(1,.imm 6 (v2.map Te.i)),(3,.I k)],[]⟩
def q0_fp_L1 (v1:List Te) (v2:List Te):Int->Ex × St:=fun p=>(.ret,⟨sv 7 [(0,.imm 6 (v1.map Te.i)),(1,.imm 6 (v2.map Te.i)),(2,.bool false),(3,.I p),(5,.bool true),(6,.bool true)],[]⟩)
def q1_fp_L1 (v1:List Te) (v2:List Te):Unit->Ex × St:=fun p=>((.exit 0),⟨sv 7 [(0,.imm 6 (v1.map Te.i)),(1,.imm 6 (v2.map Te.i)),(3,.I (v1.length:Int)),(5,.bool false)],[]⟩)
def u_fp_L1 (v1:List Te) (v2:List Te) (k:Int):=outL (J_fp_L1 v1 v2 k) (Sum.elim (q0_fp_L1 v1 v2) (q1_fp_L1 v1 v2))
def b_fp_L1 (v1:List Te) (v2:List Te) (k:Int) (x:Te) (s:Unit):Option ((Unit) ⊕ (Int ⊕ Unit)):=((v2)[k.toNat]?).bind fun v20=>((x_fo x v20).bind fun v22=>(bif !v22 then(some (.inr (.inl k))) else(some (.inl ()))))
def e_fp_L1 (v1:List Te) (v2:List Te) (s:Unit):Option (Int ⊕ Unit):=some ((.inr ()))
def x_fp_L1 (v1:List Te) (v2:List Te) (s:Unit):Option (Int ⊕ Unit):=if v1.length <= 9223372036854775806 then listN (b_fp_L1 v1 v2) (e_fp_L1 v1 v2) v1 0 s else none
def L_fp_L1 (v1:List Te) (v2:List Te) (s:Unit):Lc2:=⟨7,l_fp_0,0,[2,4,5,6],some (J_fp_L1 v1 v2 0 s),Int,Unit,x_fp_L1 v1 v2 s,q0_fp_L1 v1 v2,q1_fp_L1 v1 v2⟩
theorem zsq {v1:List Te} {v2:List Te} {s:Unit}:(L_fp_L1 v1 v2 s).ok tab:=zao (za6 (J:=J_fp_L1 v1 v2) (o:=(Sum.elim (q0_fp_L1 v1 v2) (q1_fp_L1 v1 v2))) v1 (B:=fun(k:Int) (x:Te) (s:Unit)=>(.lenA Te.i v1<|.kb (decide (k < (v1.length:Int))) true<|.ob (0 <= k)<|.lkX Te.i v1 (k.toNat) x<|.ob (0 <= k)<|.lookA Te.i v2 (k.toNat) fun v20=>.callF (C_fo x v20) fun(v22:Bool)=>.br (!v22) (.lfA (u_fp_L1 v1 v2 (IntKind.i64.wrap (k + 1))) (.inr (.inl k)))<|.lfA (u_fp_L1 v1 v2 (IntKind.i64.wrap (k + 1))) (.inl ()):Tree ((Unit) ⊕ (Int ⊕ Unit)) _)) (E:=fun(s:Unit)=>(.lenA Te.i v1<|.kb (decide ((v1.length:Int) < (v1.length:Int))) false<|.lfA (u_fp_L1 v1 v2 0) (.inr (.inr ())):Tree ((Unit) ⊕ (Int ⊕ Unit)) _)) (fun k x s=>by kernel_rfl) (fun d x t s he=>lA<|⟨ltX he,⟨Int.natCast_nonneg _,⟨za7 Te.i he,⟨Int.natCast_nonneg _,kA fun v20=>cF zw6 fun v22=>bR (rfl)<|rfl⟩⟩⟩⟩) (ho2 (fun _=>rfl) fun _=>rfl) (fun s=>by kernel_rfl) (fun s=>lA<|⟨ltE _,rfl⟩) (by kernel_rfl) (by kernel_rfl) s)
def x_fp (v1:List Te) (v2:List Te):Option Bool:=bif decide ((v1.length:Int) ≠ (v2.length:Int)) then(some false) else((x_fp_L1 v1 v2 ()).bind (sel2 (fun (v24:Int)=>(some false)) (fun (v25:Unit)=>(some true))))
def C_fp (v1:List Te) (v2:List Te):Ctr:=⟨n_fp,[.imm 6 (v1.map Te.i),.imm 6 (v2.map Te.i)],[],Bool,x_fp v1 v2,rB⟩
theorem zxu {v1:List Te} {v2:List Te}:(C_fp v1 v2).okF tab:=fun r hr=>⟨za1 ygo rfl (.lenA Te.i v1<|.lenA Te.i v2<|.br (decide ((v1.length:Int) ≠ (v2.length:Int))) (.lfA rB false)<|.lp2 (L_fp_L1 v1 v2 ()) (fun (v24:Int)=>.lfA rB false) (fun (v25:Unit)=>.lfA rB true):Tree Bool _) (by kernel_rfl) (by kernel_rfl) (lA<|lA<|bR (rfl)<|lQ zsq (fun v24=>rfl) (fun v25=>rfl)) hr,rfl,rfl⟩
def x_fq (v1:Tb) (v2:Tb):Option Bool:=bif decide (v1.fk ≠ v2.fk) then(some false) else(bif decide (v1.fah ≠ v2.fah) then(some false) else(bif decide (v1.fai ≠ v2.fai) then(some false) else(bif decide (v1.fg ≠ v2.fg) then(some false) else((x_fl v1.fa v2.fa).bind fun v7=>(bif !v7 then(some false) else((x_fn v1.fm v2.fm).bind fun v9=>(bif !v9 then(some false) else((x_fk v1.ft v2.ft).bind fun v11=>(bif !v11 then(some false) else((x_fp v1.faa v2.faa).bind fun v13=>(bif !v13 then(some false) else(some true))))))))))))
def C_fq (v1:Tb) (v2:Tb):Ctr:=⟨n_fq,[.agg [.I v1.fk,.I v1.fah,.I v1.fai,.I v1.fg,.I v1.fa.fd,.I v1.fa.fe,.I v1.fa.fN,.imm 1 (v1.fa.fb.map (V.int .i64)),.imm 1 (v1.fa.fc.map V.bool),.I v1.fa.fi,.imm 8 (v1.fm.map Tf.i),.imm 1 (v1.ft.map V.bool),.imm 6 (v1.faa.map Te.i)],.agg [.I v2.fk,.I v2.fah,.I v2.fai,.I v2.fg,.I v2.fa.fd,.I v2.fa.fe,.I v2.fa.fN,.imm 1 (v2.fa.fb.map (V.int .i64)),.imm 1 (v2.fa.fc.map V.bool),.I v2.fa.fi,.imm 8 (v2.fm.map Tf.i),.imm 1 (v2.ft.map V.bool),.imm 6 (v2.faa.map Te.i)]],[],Bool,x_fq v1 v2,rB⟩
theorem zzo {v1:Tb} {v2:Tb}:(C_fq v1 v2).okF tab:=fun r hr=>⟨za1 ye6 rfl (.br (decide (v1.fk ≠ v2.fk)) (.lfA rB false)<|.br (decide (v1.fah ≠ v2.fah)) (.lfA rB false)<|.br (decide (v1.fai ≠ v2.fai)) (.lfA rB false)<|.br (decide (v1.fg ≠ v2.fg)) (.lfA rB false)<|.callF (C_fl v1.fa v2.fa) fun(v7:Bool)=>.br (!v7) (.lfA rB false)<|.callF (C_fn v1.fm v2.fm) fun(v9:Bool)=>.br (!v9) (.lfA rB false)<|.callF (C_fk v1.ft v2.ft) fun(v11:Bool)=>.br (!v11) (.lfA rB false)<|.callF (C_fp v1.faa v2.faa) fun(v13:Bool)=>.br (!v13) (.lfA rB false)<|.lfA rB true:Tree Bool _) (by kernel_rfl) (by kernel_rfl) (bR (rfl)<|bR (rfl)<|bR (rfl)<|bR (rfl)<|cF zv2 fun v7=>bR (rfl)<|cF zxb fun v9=>bR (rfl)<|cF zvj fun v11=>bR (rfl)<|cF zxu fun v13=>bR (rfl)<|rfl) hr,rfl,rfl⟩
def J_fr_L1 (v1:List Tb) (v2:List Tb) (k:Int) (s:Unit):St:=⟨sv 7 [(0,.imm 13 (v1.map Tb.i)),(1,.imm 13 (v2.map Tb.i)),(3,.I k)],[]⟩
def q0_fr_L1 (v1:List Tb) (v2:List Tb):Int->Ex × St:=fun p=>(.ret,⟨sv 7 [(0,.imm 13 (v1.map Tb.i)),(1,.imm 13 (v2.map Tb.i)),(2,.bool false),(3,.I p),(5,.bool true),(6,.bool true)],[]⟩)
def q1_fr_L1 (v1:List Tb) (v2:List Tb):Unit->Ex × St:=fun p=>((.exit 0),⟨sv 7 [(0,.imm 13 (v1.map Tb.i)),(1,.imm 13 (v2.map Tb.i)),(3,.I (v1.length:Int)),(5,.bool false)],[]⟩)
def u_fr_L1 (v1:List Tb) (v2:List Tb) (k:Int):=outL (J_fr_L1 v1 v2 k) (Sum.elim (q0_fr_L1 v1 v2) (q1_fr_L1 v1 v2))
def b_fr_L1 (v1:List Tb) (v2:List Tb) (k:Int) (x:Tb) (s:Unit):Option ((Unit) ⊕ (Int ⊕ Unit)):=((v2)[k.toNat]?).bind fun v20=>((x_fq x v20).bind fun v22=>(bif !v22 then(some (.inr (.inl k))) else(some (.inl ()))))
def e_fr_L1 (v1:List Tb) (v2:List Tb) (s:Unit):Option (Int ⊕ Unit):=some ((.inr ()))
def x_fr_L1 (v1:List Tb) (v2:List Tb) (s:Unit):Option (Int ⊕ Unit):=if v1.length <= 9223372036854775806 then listN (b_fr_L1 v1 v2) (e_fr_L1 v1 v2) v1 0 s else none
def L_fr_L1 (v1:List Tb) (v2:List Tb) (s:Unit):Lc2:=⟨7,l_fr_0,0,[2,4,5,6],some (J_fr_L1 v1 v2 0 s),Int,Unit,x_fr_L1 v1 v2 s,q0_fr_L1 v1 v2,q1_fr_L1 v1 v2⟩
theorem zs9 {v1:List Tb} {v2:List Tb} {s:Unit}:(L_fr_L1 v1 v2 s).ok tab:=zao (za6 (J:=J_fr_L1 v1 v2) (o:=(Sum.elim (q0_fr_L1 v1 v2) (q1_fr_L1 v1 v2))) v1 (B:=fun(k:Int) (x:Tb) (s:Unit)=>(.lenA Tb.i v1<|.kb (decide (k < (v1.length:Int))) true<|.ob (0 <= k)<|.lkX Tb.i v1 (k.toNat) x<|.ob (0 <= k)<|.lookA Tb.i v2 (k.toNat) fun v20=>.callF (C_fq x v20) fun(v22:Bool)=>.br (!v22) (.lfA (u_fr_L1 v1 v2 (IntKind.i64.wrap (k + 1))) (.inr (.inl k)))<|.lfA (u_fr_L1 v1 v2 (IntKind.i64.wrap (k + 1))) (.inl ()):Tree ((Unit) ⊕ (Int ⊕ Unit)) _)) (E:=fun(s:Unit)=>(.lenA Tb.i v1<|.kb (decide ((v1.length:Int) < (v1.length:Int))) false<|.lfA (u_fr_L1 v1 v2 0) (.inr (.inr ())):Tree ((Unit) ⊕ (Int ⊕ Unit)) _)) (fun k x s=>by kernel_rfl) (fun d x t s he=>lA<|⟨ltX he,⟨Int.natCast_nonneg _,⟨za7 Tb.i he,⟨Int.natCast_nonneg _,kA fun v20=>cF zzo fun v22=>bR (rfl)<|rfl⟩⟩⟩⟩) (ho2 (fun _=>rfl) fun _=>rfl) (fun s=>by kernel_rfl) (fun s=>lA<|⟨ltE _,rfl⟩) (by kernel_rfl) (by kernel_rfl) s)
def x_fr (v1:List Tb) (v2:List Tb):Option Bool:=bif decide ((v1.length:Int) ≠ (v2.length:Int)) then(some false) else((x_fr_L1 v1 v2 ()).bind (sel2 (fun (v24:Int)=>(some false)) (fun (v25:Unit)=>(some true))))
def C_fr (v1:List Tb) (v2:List Tb):Ctr:=⟨n_fr,[.imm 13 (v1.map Tb.i),.imm 13 (v2.map Tb.i)],[],Bool,x_fr v1 v2,rB⟩
theorem yhd {v1:List Tb} {v2:List Tb}:(C_fr v1 v2).okF tab:=fun r hr=>⟨za1 ykk rfl (.lenA Tb.i v1<|.lenA Tb.i v2<|.br (decide ((v1.length:Int) ≠ (v2.length:Int))) (.lfA rB false)<|.lp2 (L_fr_L1 v1 v2 ()) (fun (v24:Int)=>.lfA rB false) (fun (v25:Unit)=>.lfA rB true):Tree Bool _) (by kernel_rfl) (by kernel_rfl) (lA<|lA<|bR (rfl)<|lQ zs9 (fun v24=>rfl) (fun v25=>rfl)) hr,rfl,rfl⟩
def x_fs (v1:To) (v2:To):Option Bool:=bif decide (v1.fu ≠ v2.fu) then(some false) else((x_fr v1.fj v2.fj).bind fun v4=>(bif !v4 then(some false) else(some true)))
def C_fs (v1:To) (v2:To):Ctr:=⟨n_fs,[.agg [.I v1.fu,.imm 13 (v1.fj.map Tb.i)],.agg [.I v2.fu,.imm 13 (v2.fj.map Tb.i)]],[],Bool,x_fs v1 v2,rB⟩
theorem zzt {v1:To} {v2:To}:(C_fs v1 v2).okF tab:=fun r hr=>⟨za1 yih rfl (.br (decide (v1.fu ≠ v2.fu)) (.lfA rB false)<|.callF (C_fr v1.fj v2.fj) fun(v4:Bool)=>.br (!v4) (.lfA rB false)<|.lfA rB true:Tree Bool _) (by kernel_rfl) (by kernel_rfl) (bR (rfl)<|cF yhd fun v4=>bR (rfl)<|rfl) hr,rfl,rfl⟩
def x_ft (v1:Ta) (v2:Ta):Option Bool:=bif decide (v1.fk ≠ v2.fk) then(some false) else(bif decide (v1.fq ≠ v2.fq) then(some false) else(bif decide (v1.fg ≠ v2.fg) then(some false) else((x_fl v1.fa v2.fa).bind fun v6=>(bif !v6 then(some false) else(some true)))))
def C_ft (v1:Ta) (v2:Ta):Ctr:=⟨n_ft,[.agg [.I v1.fk,.I v1.fq,.I v1.fg,.I v1.fa.fd,.I v1.fa.fe,.I v1.fa.fN,.imm 1 (v1.fa.fb.map (V.int .i64)),.imm 1 (v1.fa.fc.map V.bool),.I v1.fa.fi],.agg [.I v2.fk,.I v2.fq,.I v2.fg,.I v2.fa.fd,.I v2.fa.fe,.I v2.fa.fN,.imm 1 (v2.fa.fb.map (V.int .i64)),.imm 1 (v2.fa.fc.map V.bool),.I v2.fa.fi]],[],Bool,x_ft v1 v2,rB⟩
theorem zxd {v1:Ta} {v2:Ta}:(C_ft v1 v2).okF tab:=fun r hr=>⟨za1 yhb rfl (.br (decide (v1.fk ≠ v2.fk)) (.lfA rB false)<|.br (decide (v1.fq ≠ v2.fq)) (.lfA rB false)<|.br (decide (v1.fg ≠ v2.fg)) (.lfA rB false)<|.callF (C_fl v1.fa v2.fa) fun(v6:Bool)=>.br (!v6) (.lfA rB false)<|.lfA rB true:Tree Bool _) (by kernel_rfl) (by kernel_rfl) (bR (rfl)<|bR (rfl)<|bR (rfl)<|cF zv2 fun v6=>bR (rfl)<|rfl) hr,rfl,rfl⟩
def J_fu_L1 (v1:List Ta) (v2:List Ta) (k:Int) (s:Unit):St:=⟨sv 7 [(0,.imm 9 (v1.map Ta.i)),(1,.imm 9 (v2.map Ta.i)),(3,.I k)],[]⟩
def q0_fu_L1 (v1:List Ta) (v2:List Ta):Int->Ex × St:=fun p=>(.ret,⟨sv 7 [(0,.imm 9 (v1.map Ta.i)),(1,.imm 9 (v2.map Ta.i)),(2,.bool false),(3,.I p),(5,.bool true),(6,.bool true)],[]⟩)
def q1_fu_L1 (v1:List Ta) (v2:List Ta):Unit->Ex × St:=fun p=>((.exit 0),⟨sv 7 [(0,.imm 9 (v1.map Ta.i)),(1,.imm 9 (v2.map Ta.i)),(3,.I (v1.length:Int)),(5,.bool false)],[]⟩)
def u_fu_L1 (v1:List Ta) (v2:List Ta) (k:Int):=outL (J_fu_L1 v1 v2 k) (Sum.elim (q0_fu_L1 v1 v2) (q1_fu_L1 v1 v2))
def b_fu_L1 (v1:List Ta) (v2:List Ta) (k:Int) (x:Ta) (s:Unit):Option ((Unit) ⊕ (Int ⊕ Unit)):=((v2)[k.toNat]?).bind fun v20=>((x_ft x v20).bind fun v22=>(bif !v22 then(some (.inr (.inl k))) else(some (.inl ()))))
def e_fu_L1 (v1:List Ta) (v2:List Ta) (s:Unit):Option (Int ⊕ Unit):=some ((.inr ()))
def x_fu_L1 (v1:List Ta) (v2:List Ta) (s:Unit):Option (Int ⊕ Unit):=if v1.length <= 9223372036854775806 then listN (b_fu_L1 v1 v2) (e_fu_L1 v1 v2) v1 0 s else none
def L_fu_L1 (v1:List Ta) (v2:List Ta) (s:Unit):Lc2:=⟨7,l_fu_0,0,[2,4,5,6],some (J_fu_L1 v1 v2 0 s),Int,Unit,x_fu_L1 v1 v2 s,q0_fu_L1 v1 v2,q1_fu_L1 v1 v2⟩
theorem zug {v1:List Ta} {v2:List Ta} {s:Unit}:(L_fu_L1 v1 v2 s).ok tab:=zao (za6 (J:=J_fu_L1 v1 v2) (o:=(Sum.elim (q0_fu_L1 v1 v2) (q1_fu_L1 v1 v2))) v1 (B:=fun(k:Int) (x:Ta) (s:Unit)=>(.lenA Ta.i v1<|.kb (decide (k < (v1.length:Int))) true<|.ob (0 <= k)<|.lkX Ta.i v1 (k.toNat) x<|.ob (0 <= k)<|.lookA Ta.i v2 (k.toNat) fun v20=>.callF (C_ft x v20) fun(v22:Bool)=>.br (!v22) (.lfA (u_fu_L1 v1 v2 (IntKind.i64.wrap (k + 1))) (.inr (.inl k)))<|.lfA (u_fu_L1 v1 v2 (IntKind.i64.wrap (k + 1))) (.inl ()):Tree ((Unit) ⊕ (Int ⊕ Unit)) _)) (E:=fun(s:Unit)=>(.lenA Ta.i v1<|.kb (decide ((v1.length:Int) < (v1.length:Int))) false<|.lfA (u_fu_L1 v1 v2 0) (.inr (.inr ())):Tree ((Unit) ⊕ (Int ⊕ Unit)) _)) (fun k x s=>by kernel_rfl) (fun d x t s he=>lA<|⟨ltX he,⟨Int.natCast_nonneg _,⟨za7 Ta.i he,⟨Int.natCast_nonneg _,kA fun v20=>cF zxd fun v22=>bR (rfl)<|rfl⟩⟩⟩⟩) (ho2 (fun _=>rfl) fun _=>rfl) (fun s=>by kernel_rfl) (fun s=>lA<|⟨ltE _,rfl⟩) (by kernel_rfl) (by kernel_rfl) s)
def x_fu (v1:List Ta) (v2:List Ta):Option Bool:=bif decide ((v1.length:Int) ≠ (v2.length:Int)) then(some false) else((x_fu_L1 v1 v2 ()).bind (sel2 (fun (v24:Int)=>(some false)) (fun (v25:Unit)=>(some true))))
def C_fu (v1:List Ta) (v2:List Ta):Ctr:=⟨n_fu,[.imm 9 (v1.map Ta.i),.imm 9 (v2.map Ta.i)],[],Bool,x_fu v1 v2,rB⟩
theorem yll {v1:List Ta} {v2:List Ta}:(C_fu v1 v2).okF tab:=fun r hr=>⟨za1 yhr rfl (.lenA Ta.i v1<|.lenA Ta.i v2<|.br (decide ((v1.length:Int) ≠ (v2.length:Int))) (.lfA rB false)<|.lp2 (L_fu_L1 v1 v2 ()) (fun (v24:Int)=>.lfA rB false) (fun (v25:Unit)=>.lfA rB true):Tree Bool _) (by kernel_rfl) (by kernel_rfl) (lA<|lA<|bR (rfl)<|lQ zug (fun v24=>rfl) (fun v25=>rfl)) hr,rfl,rfl⟩
def x_fv (v1:Tc) (v2:Tc):Option Bool:=(x_fu v1.fab v2.fab).bind fun v3=>(bif !v3 then(some false) else(bif true ^^ (v1.far == v2.far) then(some false) else((x_ft v1.ff v2.ff).bind fun v6=>(bif !v6 then(some false) else(bif decide (v1.fag ≠ v2.fag) then(some false) else(bif decide (v1.fas ≠ v2.fas) then(some false) else(bif decide (v1.fat ≠ v2.fat) then(some false) else(bif decide (v1.fu ≠ v2.fu) then(some false) else(bif decide (v1.fad ≠ v2.fad) then(some false) else(bif decide (v1.fac ≠ v2.fac) then(some false) else(some true)))))))))))
def C_fv (v1:Tc) (v2:Tc):Ctr:=⟨n_fv,[.agg [.imm 9 (v1.fab.map Ta.i),.bool v1.far,.I v1.ff.fk,.I v1.ff.fq,.I v1.ff.fg,.I v1.ff.fa.fd,.I v1.ff.fa.fe,.I v1.ff.fa.fN,.imm 1 (v1.ff.fa.fb.map (V.int .i64)),.imm 1 (v1.ff.fa.fc.map V.bool),.I v1.ff.fa.fi,.I v1.fag,.I v1.fas,.I v1.fat,.I v1.fu,.I v1.fad,.I v1.fac],.agg [.imm 9 (v2.fab.map Ta.i),.bool v2.far,.I v2.ff.fk,.I v2.ff.fq,.I v2.ff.fg,.I v2.ff.fa.fd,.I v2.ff.fa.fe,.I v2.ff.fa.fN,.imm 1 (v2.ff.fa.fb.map (V.int .i64)),.imm 1 (v2.ff.fa.fc.map V.bool),.I v2.ff.fa.fi,.I v2.fag,.I v2.fas,.I v2.fat,.I v2.fu,.I v2.fad,.I v2.fac]],[],Bool,x_fv v1 v2,rB⟩
theorem ykf {v1:Tc} {v2:Tc}:(C_fv v1 v2).okF tab:=fun r hr=>⟨za1 ycd rfl (.callF (C_fu v1.fab v2.fab) fun(v3:Bool)=>.br (!v3) (.lfA rB false)<|.br (true ^^ (v1.far == v2.far)) (.lfA rB false)<|.callF (C_ft v1.ff v2.ff) fun(v6:Bool)=>.br (!v6) (.lfA rB false)<|.br (decide (v1.fag ≠ v2.fag)) (.lfA rB false)<|.br (decide (v1.fas ≠ v2.fas)) (.lfA rB false)<|.br (decide (v1.fat ≠ v2.fat)) (.lfA rB false)<|.br (decide (v1.fu ≠ v2.fu)) (.lfA rB false)<|.br (decide (v1.fad ≠ v2.fad)) (.lfA rB false)<|.br (decide (v1.fac ≠ v2.fac)) (.lfA rB false)<|.lfA rB true:Tree Bool _) (by kernel_rfl) (by kernel_rfl) (cF yll fun v3=>bR (rfl)<|bR (rfl)<|cF zxd fun v6=>bR (rfl)<|bR (rfl)<|bR (rfl)<|bR (rfl)<|bR (rfl)<|bR (rfl)<|bR (rfl)<|rfl) hr,rfl,rfl⟩
def J_fw_L1 (v1:List Tc) (v2:List Tc) (k:Int) (s:Unit):St:=⟨sv 7 [(0,.imm 17 (v1.map Tc.i)),(1,.imm 17 (v2.map Tc.i)),(3,.I k)],[]⟩
def q0_fw_L1 (v1:List Tc) (v2:List Tc):Int->Ex × St:=fun p=>(.ret,⟨sv 7 [(0,.imm 17 (v1.map Tc.i)),(1,.imm 17 (v2.map Tc.i)),(2,.bool false),(3,.I p),(5,.bool true),(6,.bool true)],[]⟩)
def q1_fw_L1 (v1:List Tc) (v2:List Tc):Unit->Ex × St:=fun p=>((.exit 0),⟨sv 7 [(0,.imm 17 (v1.map Tc.i)),(1,.imm 17 (v2.map Tc.i)),(3,.I (v1.length:Int)),(5,.bool false)],[]⟩)
def u_fw_L1 (v1:List Tc) (v2:List Tc) (k:Int):=outL (J_fw_L1 v1 v2 k) (Sum.elim (q0_fw_L1 v1 v2) (q1_fw_L1 v1 v2))
def b_fw_L1 (v1:List Tc) (v2:List Tc) (k:Int) (x:Tc) (s:Unit):Option ((Unit) ⊕ (Int ⊕ Unit)):=((v2)[k.toNat]?).bind fun v20=>((x_fv x v20).bind fun v22=>(bif !v22 then(some (.inr (.inl k))) else(some (.inl ()))))
def e_fw_L1 (v1:List Tc) (v2:List Tc) (s:Unit):Option (Int ⊕ Unit):=some ((.inr ()))
def x_fw_L1 (v1:List Tc) (v2:List Tc) (s:Unit):Option (Int ⊕ Unit):=if v1.length <= 9223372036854775806 then listN (b_fw_L1 v1 v2) (e_fw_L1 v1 v2) v1 0 s else none
def L_fw_L1 (v1:List Tc) (v2:List Tc) (s:Unit):Lc2:=⟨7,l_fw_0,0,[2,4,5,6],some (J_fw_L1 v1 v2 0 s),Int,Unit,x_fw_L1 v1 v2 s,q0_fw_L1 v1 v2,q1_fw_L1 v1 v2⟩
theorem zsz {v1:List Tc} {v2:List Tc} {s:Unit}:(L_fw_L1 v1 v2 s).ok tab:=zao (za6 (J:=J_fw_L1 v1 v2) (o:=(Sum.elim (q0_fw_L1 v1 v2) (q1_fw_L1 v1 v2))) v1 (B:=fun(k:Int) (x:Tc) (s:Unit)=>(.lenA Tc.i v1<|.kb (decide (k < (v1.length:Int))) true<|.ob (0 <= k)<|.lkX Tc.i v1 (k.toNat) x<|.ob (0 <= k)<|.lookA Tc.i v2 (k.toNat) fun v20=>.callF (C_fv x v20) fun(v22:Bool)=>.br (!v22) (.lfA (u_fw_L1 v1 v2 (IntKind.i64.wrap (k + 1))) (.inr (.inl k)))<|.lfA (u_fw_L1 v1 v2 (IntKind.i64.wrap (k + 1))) (.inl ()):Tree ((Unit) ⊕ (Int ⊕ Unit)) _)) (E:=fun(s:Unit)=>(.lenA Tc.i v1<|.kb (decide ((v1.length:Int) < (v1.length:Int))) false<|.lfA (u_fw_L1 v1 v2 0) (.inr (.inr ())):Tree ((Unit) ⊕ (Int ⊕ Unit)) _)) (fun k x s=>by kernel_rfl) (fun d x t s he=>lA<|⟨ltX he,⟨Int.natCast_nonneg _,⟨za7 Tc.i he,⟨Int.natCast_nonneg _,kA fun v20=>cF ykf fun v22=>bR (rfl)<|rfl⟩⟩⟩⟩) (ho2 (fun _=>rfl) fun _=>rfl) (fun s=>by kernel_rfl) (fun s=>lA<|⟨ltE _,rfl⟩) (by kernel_rfl) (by kernel_rfl) s)
def x_fw (v1:List Tc) (v2:List Tc):Option Bool:=bif decide ((v1.length:Int) ≠ (v2.length:Int)) then(some false) else((x_fw_L1 v1 v2 ()).bind (sel2 (fun (v24:Int)=>(some false)) (fun (v25:Unit)=>(some true))))
def C_fw (v1:List Tc) (v2:List Tc):Ctr:=⟨n_fw,[.imm 17 (v1.map Tc.i),.imm 17 (v2.map Tc.i)],[],Bool,x_fw v1 v2,rB⟩
theorem ycp {v1:List Tc} {v2:List Tc}:(C_fw v1 v2).okF tab:=fun r hr=>⟨za1 zy6 rfl (.lenA Tc.i v1<|.lenA Tc.i v2<|.br (decide ((v1.length:Int) ≠ (v2.length:Int))) (.lfA rB false)<|.lp2 (L_fw_L1 v1 v2 ()) (fun (v24:Int)=>.lfA rB false) (fun (v25:Unit)=>.lfA rB true):Tree Bool _) (by kernel_rfl) (by kernel_rfl) (lA<|lA<|bR (rfl)<|lQ zsz (fun v24=>rfl) (fun v25=>rfl)) hr,rfl,rfl⟩
def x_fx (v1:Tn) (v2:Tn):Option Bool:=bif decide (v1.fan ≠ v2.fan) then(some false) else((x_fi v1.fp v2.fp).bind fun v4=>(bif !v4 then(some false) else((x_fs v1.fo v2.fo).bind fun v6=>(bif !v6 then(some false) else((x_fw v1.fr v2.fr).bind fun v8=>(bif !v8 then(some false) else(bif decide (v1.fal ≠ v2.fal) then(some false) else(bif decide (v1.fao ≠ v2.fao) then(some false) else(bif decide (v1.fam ≠ v2.fam) then(some false) else(bif decide (v1.fap ≠ v2.fap) then(some false) else(some true)))))))))))
def C_fx (v1:Tn) (v2:Tn):Ctr:=⟨n_fx,[.agg [.I v1.fan,.I v1.fp.fad,.I v1.fp.fac,.imm 7 (v1.fp.faf.map Td.i),.I v1.fo.fu,.imm 13 (v1.fo.fj.map Tb.i),.imm 17 (v1.fr.map Tc.i),.I v1.fal,.I v1.fao,.I v1.fam,.I v1.fap],.agg [.I v2.fan,.I v2.fp.fad,.I v2.fp.fac,.imm 7 (v2.fp.faf.map Td.i),.I v2.fo.fu,.imm 13 (v2.fo.fj.map Tb.i),.imm 17 (v2.fr.map Tc.i),.I v2.fal,.I v2.fao,.I v2.fam,.I v2.fap]],[],Bool,x_fx v1 v2,rB⟩
theorem ylq {v1:Tn} {v2:Tn}:(C_fx v1 v2).okF tab:=fun r hr=>⟨za1 yhl rfl (.br (decide (v1.fan ≠ v2.fan)) (.lfA rB false)<|.callF (C_fi v1.fp v2.fp) fun(v4:Bool)=>.br (!v4) (.lfA rB false)<|.callF (C_fs v1.fo v2.fo) fun(v6:Bool)=>.br (!v6) (.lfA rB false)<|.callF (C_fw v1.fr v2.fr) fun(v8:Bool)=>.br (!v8) (.lfA rB false)<|.br (decide (v1.fal ≠ v2.fal)) (.lfA rB false)<|.br (decide (v1.fao ≠ v2.fao)) (.lfA rB false)<|.br (decide (v1.fam ≠ v2.fam)) (.lfA rB false)<|.br (decide (v1.fap ≠ v2.fap)) (.lfA rB false)<|.lfA rB true:Tree Bool _) (by kernel_rfl) (by kernel_rfl) (bR (rfl)<|cF yku fun v4=>bR (rfl)<|cF zzt fun v6=>bR (rfl)<|cF ycp fun v8=>bR (rfl)<|bR (rfl)<|bR (rfl)<|bR (rfl)<|bR (rfl)<|rfl) hr,rfl,rfl⟩
def x_fy (v1:Tq) (v2:Tq):Option Bool:=(x_fk v1.faw v2.faw).bind fun v3=>(bif !v3 then(some false) else((x_fk v1.fax v2.fax).bind fun v5=>(bif !v5 then(some false) else((x_fj v1.fav v2.fav).bind fun v7=>(bif !v7 then(some false) else((x_fj v1.fb v2.fb).bind fun v9=>(bif !v9 then(some false) else(some true))))))))
def C_fy (v1:Tq) (v2:Tq):Ctr:=⟨n_fy,[.agg [.imm 1 (v1.faw.map V.bool),.imm 1 (v1.fax.map V.bool),.imm 1 (v1.fav.map (V.int .i64)),.imm 1 (v1.fb.map (V.int .i64))],.agg [.imm 1 (v2.faw.map V.bool),.imm 1 (v2.fax.map V.bool),.imm 1 (v2.fav.map (V.int .i64)),.imm 1 (v2.fb.map (V.int .i64))]],[],Bool,x_fy v1 v2,rB⟩
theorem ybu {v1:Tq} {v2:Tq}:(C_fy v1 v2).okF tab:=fun r hr=>⟨za1 yig rfl (.callF (C_fk v1.faw v2.faw) fun(v3:Bool)=>.br (!v3) (.lfA rB false)<|.callF (C_fk v1.fax v2.fax) fun(v5:Bool)=>.br (!v5) (.lfA rB false)<|.callF (C_fj v1.fav v2.fav) fun(v7:Bool)=>.br (!v7) (.lfA rB false)<|.callF (C_fj v1.fb v2.fb) fun(v9:Bool)=>.br (!v9) (.lfA rB false)<|.lfA rB true:Tree Bool _) (by kernel_rfl) (by kernel_rfl) (cF zvj fun v3=>bR (rfl)<|cF zvj fun v5=>bR (rfl)<|cF zw0 fun v7=>bR (rfl)<|cF zw0 fun v9=>bR (rfl)<|rfl) hr,rfl,rfl⟩
def x_fz (v1:Tk) (v2:Tk):Option Bool:=bif decide (v1.fw ≠ v2.fw) then(some false) else(bif decide (v1.fg ≠ v2.fg) then(some false) else((x_fy v1.fD v2.fD).bind fun v5=>(bif !v5 then(some false) else(some true))))
def C_fz (v1:Tk) (v2:Tk):Ctr:=⟨n_fz,[.agg [.I v1.fw,.I v1.fg,.imm 1 (v1.fD.faw.map V.bool),.imm 1 (v1.fD.fax.map V.bool),.imm 1 (v1.fD.fav.map (V.int .i64)),.imm 1 (v1.fD.fb.map (V.int .i64))],.agg [.I v2.fw,.I v2.fg,.imm 1 (v2.fD.faw.map V.bool),.imm 1 (v2.fD.fax.map V.bool),.imm 1 (v2.fD.fav.map (V.int .i64)),.imm 1 (v2.fD.fb.map (V.int .i64))]],[],Bool,x_fz v1 v2,rB⟩
theorem zzp {v1:Tk} {v2:Tk}:(C_fz v1 v2).okF tab:=fun r hr=>⟨za1 ydz rfl (.br (decide (v1.fw ≠ v2.fw)) (.lfA rB false)<|.br (decide (v1.fg ≠ v2.fg)) (.lfA rB false)<|.callF (C_fy v1.fD v2.fD) fun(v5:Bool)=>.br (!v5) (.lfA rB false)<|.lfA rB true:Tree Bool _) (by kernel_rfl) (by kernel_rfl) (bR (rfl)<|bR (rfl)<|cF ybu fun v5=>bR (rfl)<|rfl) hr,rfl,rfl⟩
def J_ga_L1 (v1:List Tk) (v2:List Tk) (k:Int) (s:Unit):St:=⟨sv 7 [(0,.imm 6 (v1.map Tk.i)),(1,.imm 6 (v2.map Tk.i)),(3,.I k)],[]⟩
def q0_ga_L1 (v1:List Tk) (v2:List Tk):Int->Ex × St:=fun p=>(.ret,⟨sv 7 [(0,.imm 6 (v1.map Tk.i)),(1,.imm 6 (v2.map Tk.i)),(2,.bool false),(3,.I p),(5,.bool true),(6,.bool true)],[]⟩)
def q1_ga_L1 (v1:List Tk) (v2:List Tk):Unit->Ex × St:=fun p=>((.exit 0),⟨sv 7 [(0,.imm 6 (v1.map Tk.i)),(1,.imm 6 (v2.map Tk.i)),(3,.I (v1.length:Int)),(5,.bool false)],[]⟩)
def u_ga_L1 (v1:List Tk) (v2:List Tk) (k:Int):=outL (J_ga_L1 v1 v2 k) (Sum.elim (q0_ga_L1 v1 v2) (q1_ga_L1 v1 v2))
def b_ga_L1 (v1:List Tk) (v2:List Tk) (k:Int) (x:Tk) (s:Unit):Option ((Unit) ⊕ (Int ⊕ Unit)):=((v2)[k.toNat]?).bind fun v20=>((x_fz x v20).bind fun v22=>(bif !v22 then(some (.inr (.inl k))) else(some (.inl ()))))
def e_ga_L1 (v1:List Tk) (v2:List Tk) (s:Unit):Option (Int ⊕ Unit):=some ((.inr ()))
def x_ga_L1 (v1:List Tk) (v2:List Tk) (s:Unit):Option (Int ⊕ Unit):=if v1.length <= 9223372036854775806 then listN (b_ga_L1 v1 v2) (e_ga_L1 v1 v2) v1 0 s else none
def L_ga_L1 (v1:List Tk) (v2:List Tk) (s:Unit):Lc2:=⟨7,l_ga_0,0,[2,4,5,6],some (J_ga_L1 v1 v2 0 s),Int,Unit,x_ga_L1 v1 v2 s,q0_ga_L1 v1 v2,q1_ga_L1 v1 v2⟩
theorem ztr {v1:List Tk} {v2:List Tk} {s:Unit}:(L_ga_L1 v1 v2 s).ok tab:=zao (za6 (J:=J_ga_L1 v1 v2) (o:=(Sum.elim (q0_ga_L1 v1 v2) (q1_ga_L1 v1 v2))) v1 (B:=fun(k:Int) (x:Tk) (s:Unit)=>(.lenA Tk.i v1<|.kb (decide (k < (v1.length:Int))) true<|.ob (0 <= k)<|.lkX Tk.i v1 (k.toNat) x<|.ob (0 <= k)<|.lookA Tk.i v2 (k.toNat) fun v20=>.callF (C_fz x v20) fun(v22:Bool)=>.br (!v22) (.lfA (u_ga_L1 v1 v2 (IntKind.i64.wrap (k + 1))) (.inr (.inl k)))<|.lfA (u_ga_L1 v1 v2 (IntKind.i64.wrap (k + 1))) (.inl ()):Tree ((Unit) ⊕ (Int ⊕ Unit)) _)) (E:=fun(s:Unit)=>(.lenA Tk.i v1<|.kb (decide ((v1.length:Int) < (v1.length:Int))) false<|.lfA (u_ga_L1 v1 v2 0) (.inr (.inr ())):Tree ((Unit) ⊕ (Int ⊕ Unit)) _)) (fun k x s=>by kernel_rfl) (fun d x t s he=>lA<|⟨ltX he,⟨Int.natCast_nonneg _,⟨za7 Tk.i he,⟨Int.natCast_nonneg _,kA fun v20=>cF zzp fun v22=>bR (rfl)<|rfl⟩⟩⟩⟩) (ho2 (fun _=>rfl) fun _=>rfl) (fun s=>by kernel_rfl) (fun s=>lA<|⟨ltE _,rfl⟩) (by kernel_rfl) (by kernel_rfl) s)
def x_ga (v1:List Tk) (v2:List Tk):Option Bool:=bif decide ((v1.length:Int) ≠ (v2.length:Int)) then(some false) else((x_ga_L1 v1 v2 ()).bind (sel2 (fun (v24:Int)=>(some false)) (fun (v25:Unit)=>(some true))))
def C_ga (v1:List Tk) (v2:List Tk):Ctr:=⟨n_ga,[.imm 6 (v1.map Tk.i),.imm 6 (v2.map Tk.i)],[],Bool,x_ga v1 v2,rB⟩
theorem yj4 {v1:List Tk} {v2:List Tk}:(C_ga v1 v2).okF tab:=fun r hr=>⟨za1 zzy rfl (.lenA Tk.i v1<|.lenA Tk.i v2<|.br (decide ((v1.length:Int) ≠ (v2.length:Int))) (.lfA rB false)<|.lp2 (L_ga_L1 v1 v2 ()) (fun (v24:Int)=>.lfA rB false) (fun (v25:Unit)=>.lfA rB true):Tree Bool _) (by kernel_rfl) (by kernel_rfl) (lA<|lA<|bR (rfl)<|lQ ztr (fun v24=>rfl) (fun v25=>rfl)) hr,rfl,rfl⟩
def x_gb (v1:Th) (v2:Th):Option Bool:=bif true ^^ (v1.fbd == v2.fbd) then(some false) else(bif decide (v1.fw ≠ v2.fw) then(some false) else(bif decide (v1.fag ≠ v2.fag) then(some false) else(bif decide (v1.fg ≠ v2.fg) then(some false) else((x_fl v1.fa v2.fa).bind fun v7=>(bif !v7 then(some false) else((x_fo v1.fh v2.fh).bind fun v9=>(bif !v9 then(some false) else(some true))))))))
def C_gb (v1:Th) (v2:Th):Ctr:=⟨n_gb,[.agg [.bool v1.fbd,.I v1.fw,.I v1.fag,.I v1.fg,.I v1.fa.fd,.I v1.fa.fe,.I v1.fa.fN,.imm 1 (v1.fa.fb.map (V.int .i64)),.imm 1 (v1.fa.fc.map V.bool),.I v1.fa.fi,.I v1.fh.fd,.I v1.fh.fae,.I v1.fh.fe,.I v1.fh.fN,.imm 1 (v1.fh.fb.map (V.int .i64)),.imm 1 (v1.fh.fc.map V.bool)],.agg [.bool v2.fbd,.I v2.fw,.I v2.fag,.I v2.fg,.I v2.fa.fd,.I v2.fa.fe,.I v2.fa.fN,.imm 1 (v2.fa.fb.map (V.int .i64)),.imm 1 (v2.fa.fc.map V.bool),.I v2.fa.fi,.I v2.fh.fd,.I v2.fh.fae,.I v2.fh.fe,.I v2.fh.fN,.imm 1 (v2.fh.fb.map (V.int .i64)),.imm 1 (v2.fh.fc.map V.bool)]],[],Bool,x_gb v1 v2,rB⟩
theorem yb8 {v1:Th} {v2:Th}:(C_gb v1 v2).okF tab:=fun r hr=>⟨za1 ymm rfl (.br (true ^^ (v1.fbd == v2.fbd)) (.lfA rB false)<|.br (decide (v1.fw ≠ v2.fw)) (.lfA rB false)<|.br (decide (v1.fag ≠ v2.fag)) (.lfA rB false)<|.br (decide (v1.fg ≠ v2.fg)) (.lfA rB false)<|.callF (C_fl v1.fa v2.fa) fun(v7:Bool)=>.br (!v7) (.lfA rB false)<|.callF (C_fo v1.fh v2.fh) fun(v9:Bool)=>.br (!v9) (.lfA rB false)<|.lfA rB true:Tree Bool _) (by kernel_rfl) (by kernel_rfl) (bR (rfl)<|bR (rfl)<|bR (rfl)<|bR (rfl)<|cF zv2 fun v7=>bR (rfl)<|cF zw6 fun v9=>bR (rfl)<|rfl) hr,rfl,rfl⟩
def J_gc_L1 (v1:List Th) (v2:List Th) (k:Int) (s:Unit):St:=⟨sv 7 [(0,.imm 16 (v1.map Th.i)),(1,.imm 16 (v2.map Th.i)),(3,.I k)],[]⟩
def q0_gc_L1 (v1:List Th) (v2:List Th):Int->Ex × St:=fun p=>(.ret,⟨sv 7 [(0,.imm 16 (v1.map Th.i)),(1,.imm 16 (v2.map Th.i)),(2,.bool false),(3,.I p),(5,.bool true),(6,.bool true)],[]⟩)
def q1_gc_L1 (v1:List Th) (v2:List Th):Unit->Ex × St:=fun p=>((.exit 0),⟨sv 7 [(0,.imm 16 (v1.map Th.i)),(1,.imm 16 (v2.map Th.i)),(3,.I (v1.length:Int)),(5,.bool false)],[]⟩)
def u_gc_L1 (v1:List Th) (v2:List Th) (k:Int):=outL (J_gc_L1 v1 v2 k) (Sum.elim (q0_gc_L1 v1 v2) (q1_gc_L1 v1 v2))
def b_gc_L1 (v1:List Th) (v2:List Th) (k:Int) (x:Th) (s:Unit):Option ((Unit) ⊕ (Int ⊕ Unit)):=((v2)[k.toNat]?).bind fun v20=>((x_gb x v20).bind fun v22=>(bif !v22 then(some (.inr (.inl k))) else(some (.inl ()))))
def e_gc_L1 (v1:List Th) (v2:List Th) (s:Unit):Option (Int ⊕ Unit):=some ((.inr ()))
def x_gc_L1 (v1:List Th) (v2:List Th) (s:Unit):Option (Int ⊕ Unit):=if v1.length <= 9223372036854775806 then listN (b_gc_L1 v1 v2) (e_gc_L1 v1 v2) v1 0 s else none
def L_gc_L1 (v1:List Th) (v2:List Th) (s:Unit):Lc2:=⟨7,l_gc_0,0,[2,4,5,6],some (J_gc_L1 v1 v2 0 s),Int,Unit,x_gc_L1 v1 v2 s,q0_gc_L1 v1 v2,q1_gc_L1 v1 v2⟩
theorem zu2 {v1:List Th} {v2:List Th} {s:Unit}:(L_gc_L1 v1 v2 s).ok tab:=zao (za6 (J:=J_gc_L1 v1 v2) (o:=(Sum.elim (q0_gc_L1 v1 v2) (q1_gc_L1 v1 v2))) v1 (B:=fun(k:Int) (x:Th) (s:Unit)=>(.lenA Th.i v1<|.kb (decide (k < (v1.length:Int))) true<|.ob (0 <= k)<|.lkX Th.i v1 (k.toNat) x<|.ob (0 <= k)<|.lookA Th.i v2 (k.toNat) fun v20=>.callF (C_gb x v20) fun(v22:Bool)=>.br (!v22) (.lfA (u_gc_L1 v1 v2 (IntKind.i64.wrap (k + 1))) (.inr (.inl k)))<|.lfA (u_gc_L1 v1 v2 (IntKind.i64.wrap (k + 1))) (.inl ()):Tree ((Unit) ⊕ (Int ⊕ Unit)) _)) (E:=fun(s:Unit)=>(.lenA Th.i v1<|.kb (decide ((v1.length:Int) < (v1.length:Int))) false<|.lfA (u_gc_L1 v1 v2 0) (.inr (.inr ())):Tree ((Unit) ⊕ (Int ⊕ Unit)) _)) (fun k x s=>by kernel_rfl) (fun d x t s he=>lA<|⟨ltX he,⟨Int.natCast_nonneg _,⟨za7 Th.i he,⟨Int.natCast_nonneg _,kA fun v20=>cF yb8 fun v22=>bR (rfl)<|rfl⟩⟩⟩⟩) (ho2 (fun _=>rfl) fun _=>rfl) (fun s=>by kernel_rfl) (fun s=>lA<|⟨ltE _,rfl⟩) (by kernel_rfl) (by kernel_rfl) s)
def x_gc (v1:List Th) (v2:List Th):Option Bool:=bif decide ((v1.length:Int) ≠ (v2.length:Int)) then(some false) else((x_gc_L1 v1 v2 ()).bind (sel2 (fun (v24:Int)=>(some false)) (fun (v25:Unit)=>(some true))))
def C_gc (v1:List Th) (v2:List Th):Ctr:=⟨n_gc,[.imm 16 (v1.map Th.i),.imm 16 (v2.map Th.i)],[],Bool,x_gc v1 v2,rB⟩
theorem ymq {v1:List Th} {v2:List Th}:(C_gc v1 v2).okF tab:=fun r hr=>⟨za1 yaj rfl (.lenA Th.i v1<|.lenA Th.i v2<|.br (decide ((v1.length:Int) ≠ (v2.length:Int))) (.lfA rB false)<|.lp2 (L_gc_L1 v1 v2 ()) (fun (v24:Int)=>.lfA rB false) (fun (v25:Unit)=>.lfA rB true):Tree Bool _) (by kernel_rfl) (by kernel_rfl) (lA<|lA<|bR (rfl)<|lQ zu2 (fun v24=>rfl) (fun v25=>rfl)) hr,rfl,rfl⟩
def x_gd (v1:Tg) (v2:Tg):Option Bool:=bif decide (v1.fah ≠ v2.fah) then(some false) else(bif decide (v1.fai ≠ v2.fai) then(some false) else((x_fl v1.fa v2.fa).bind fun v5=>(bif !v5 then(some false) else((x_fn v1.fm v2.fm).bind fun v7=>(bif !v7 then(some false) else((x_fp v1.faa v2.faa).bind fun v9=>(bif !v9 then(some false) else((x_fo v1.fh v2.fh).bind fun v11=>(bif !v11 then(some false) else(some true))))))))))
def C_gd (v1:Tg) (v2:Tg):Ctr:=⟨n_gd,[.agg [.I v1.fah,.I v1.fai,.I v1.fa.fd,.I v1.fa.fe,.I v1.fa.fN,.imm 1 (v1.fa.fb.map (V.int .i64)),.imm 1 (v1.fa.fc.map V.bool),.I v1.fa.fi,.imm 8 (v1.fm.map Tf.i),.imm 6 (v1.faa.map Te.i),.I v1.fh.fd,.I v1.fh.fae,.I v1.fh.fe,.I v1.fh.fN,.imm 1 (v1.fh.fb.map (V.int .i64)),.imm 1 (v1.fh.fc.map V.bool)],.agg [.I v2.fah,.I v2.fai,.I v2.fa.fd,.I v2.fa.fe,.I v2.fa.fN,.imm 1 (v2.fa.fb.map (V.int .i64)),.imm 1 (v2.fa.fc.map V.bool),.I v2.fa.fi,.imm 8 (v2.fm.map Tf.i),.imm 6 (v2.faa.map Te.i),.I v2.fh.fd,.I v2.fh.fae,.I v2.fh.fe,.I v2.fh.fN,.imm 1 (v2.fh.fb.map (V.int .i64)),.imm 1 (v2.fh.fc.map V.bool)]],[],Bool,x_gd v1 v2,rB⟩
theorem yat {v1:Tg} {v2:Tg}:(C_gd v1 v2).okF tab:=fun r hr=>⟨za1 yj0 rfl (.br (decide (v1.fah ≠ v2.fah)) (.lfA rB false)<|.br (decide (v1.fai ≠ v2.fai)) (.lfA rB false)<|.callF (C_fl v1.fa v2.fa) fun(v5:Bool)=>.br (!v5) (.lfA rB false)<|.callF (C_fn v1.fm v2.fm) fun(v7:Bool)=>.br (!v7) (.lfA rB false)<|.callF (C_fp v1.faa v2.faa) fun(v9:Bool)=>.br (!v9) (.lfA rB false)<|.callF (C_fo v1.fh v2.fh) fun(v11:Bool)=>.br (!v11) (.lfA rB false)<|.lfA rB true:Tree Bool _) (by kernel_rfl) (by kernel_rfl) (bR (rfl)<|bR (rfl)<|cF zv2 fun v5=>bR (rfl)<|cF zxb fun v7=>bR (rfl)<|cF zxu fun v9=>bR (rfl)<|cF zw6 fun v11=>bR (rfl)<|rfl) hr,rfl,rfl⟩
def J_ge_L1 (v1:List Tg) (v2:List Tg) (k:Int) (s:Unit):St:=⟨sv 7 [(0,.imm 16 (v1.map Tg.i)),(1,.imm 16 (v2.map Tg.i)),(3,.I k)],[]⟩
def q0_ge_L1 (v1:List Tg) (v2:List Tg):Int->Ex × St:=fun p=>(.ret,⟨sv 7 [(0,.imm 16 (v1.map Tg.i)),(1,.imm 16 (v2.map Tg.i)),(2,.bool false),(3,.I p),(5,.bool true),(6,.bool true)],[]⟩)
def q1_ge_L1 (v1:List Tg) (v2:List Tg):Unit->Ex × St:=fun p=>((.exit 0),⟨sv 7 [(0,.imm 16 (v1.map Tg.i)),(1,.imm 16 (v2.map Tg.i)),(3,.I (v1.length:Int)),(5,.bool false)],[]⟩)
def u_ge_L1 (v1:List Tg) (v2:List Tg) (k:Int):=outL (J_ge_L1 v1 v2 k) (Sum.elim (q0_ge_L1 v1 v2) (q1_ge_L1 v1 v2))
def b_ge_L1 (v1:List Tg) (v2:List Tg) (k:Int) (x:Tg) (s:Unit):Option ((Unit) ⊕ (Int ⊕ Unit)):=((v2)[k.toNat]?).bind fun v20=>((x_gd x v20).bind fun v22=>(bif !v22 then(some (.inr (.inl k))) else(some (.inl ()))))
def e_ge_L1 (v1:List Tg) (v2:List Tg) (s:Unit):Option (Int ⊕ Unit):=some ((.inr ()))
def x_ge_L1 (v1:List Tg) (v2:List Tg) (s:Unit):Option (Int ⊕ Unit):=if v1.length <= 9223372036854775806 then listN (b_ge_L1 v1 v2) (e_ge_L1 v1 v2) v1 0 s else none
def L_ge_L1 (v1:List Tg) (v2:List Tg) (s:Unit):Lc2:=⟨7,l_ge_0,0,[2,4,5,6],some (J_ge_L1 v1 v2 0 s),Int,Unit,x_ge_L1 v1 v2 s,q0_ge_L1 v1 v2,q1_ge_L1 v1 v2⟩
theorem ztj {v1:List Tg} {v2:List Tg} {s:Unit}:(L_ge_L1 v1 v2 s).ok tab:=zao (za6 (J:=J_ge_L1 v1 v2) (o:=(Sum.elim (q0_ge_L1 v1 v2) (q1_ge_L1 v1 v2))) v1 (B:=fun(k:Int) (x:Tg) (s:Unit)=>(.lenA Tg.i v1<|.kb (decide (k < (v1.length:Int))) true<|.ob (0 <= k)<|.lkX Tg.i v1 (k.toNat) x<|.ob (0 <= k)<|.lookA Tg.i v2 (k.toNat) fun v20=>.callF (C_gd x v20) fun(v22:Bool)=>.br (!v22) (.lfA (u_ge_L1 v1 v2 (IntKind.i64.wrap (k + 1))) (.inr (.inl k)))<|.lfA (u_ge_L1 v1 v2 (IntKind.i64.wrap (k + 1))) (.inl ()):Tree ((Unit) ⊕ (Int ⊕ Unit)) _)) (E:=fun(s:Unit)=>(.lenA Tg.i v1<|.kb (decide ((v1.length:Int) < (v1.length:Int))) false<|.lfA (u_ge_L1 v1 v2 0) (.inr (.inr ())):Tree ((Unit) ⊕ (Int ⊕ Unit)) _)) (fun k x s=>by kernel_rfl) (fun d x t s he=>lA<|⟨ltX he,⟨Int.natCast_nonneg _,⟨za7 Tg.i he,⟨Int.natCast_nonneg _,kA fun v20=>cF yat fun v22=>bR (rfl)<|rfl⟩⟩⟩⟩) (ho2 (fun _=>rfl) fun _=>rfl) (fun s=>by kernel_rfl) (fun s=>lA<|⟨ltE _,rfl⟩) (by kernel_rfl) (by kernel_rfl) s)
def x_ge (v1:List Tg) (v2:List Tg):Option Bool:=bif decide ((v1.length:Int) ≠ (v2.length:Int)) then(some false) else((x_ge_L1 v1 v2 ()).bind (sel2 (fun (v24:Int)=>(some false)) (fun (v25:Unit)=>(some true))))
def C_ge (v1:List Tg) (v2:List Tg):Ctr:=⟨n_ge,[.imm 16 (v1.map Tg.i),.imm 16 (v2.map Tg.i)],[],Bool,x_ge v1 v2,rB⟩
theorem ylp {v1:List Tg} {v2:List Tg}:(C_ge v1 v2).okF tab:=fun r hr=>⟨za1 yhu rfl (.lenA Tg.i v1<|.lenA Tg.i v2<|.br (decide ((v1.length:Int) ≠ (v2.length:Int))) (.lfA rB false)<|.lp2 (L_ge_L1 v1 v2 ()) (fun (v24:Int)=>.lfA rB false) (fun (v25:Unit)=>.lfA rB true):Tree Bool _) (by kernel_rfl) (by kernel_rfl) (lA<|lA<|bR (rfl)<|lQ ztj (fun v24=>rfl) (fun v25=>rfl)) hr,rfl,rfl⟩
def x_gf (v1:Ti) (v2:Ti):Option Bool:=bif decide (v1.fw ≠ v2.fw) then(some false) else(bif decide (v1.fag ≠ v2.fag) then(some false) else(bif decide (v1.fg ≠ v2.fg) then(some false) else((x_fl v1.fa v2.fa).bind fun v6=>(bif !v6 then(some false) else((x_fo v1.fh v2.fh).bind fun v8=>(bif !v8 then(some false) else(some true)))))))
def C_gf (v1:Ti) (v2:Ti):Ctr:=⟨n_gf,[.agg [.I v1.fw,.I v1.fag,.I v1.fg,.I v1.fa.fd,.I v1.fa.fe,.I v1.fa.fN,.imm 1 (v1.fa.fb.map (V.int .i64)),.imm 1 (v1.fa.fc.map V.bool),.I v1.fa.fi,.I v1.fh.fd,.I v1.fh.fae,.I v1.fh.fe,.I v1.fh.fN,.imm 1 (v1.fh.fb.map (V.int .i64)),.imm 1 (v1.fh.fc.map V.bool)],.agg [.I v2.fw,.I v2.fag,.I v2.fg,.I v2.fa.fd,.I v2.fa.fe,.I v2.fa.fN,.imm 1 (v2.fa.fb.map (V.int .i64)),.imm 1 (v2.fa.fc.map V.bool),.I v2.fa.fi,.I v2.fh.fd,.I v2.fh.fae,.I v2.fh.fe,.I v2.fh.fN,.imm 1 (v2.fh.fb.map (V.int .i64)),.imm 1 (v2.fh.fc.map V.bool)]],[],Bool,x_gf v1 v2,rB⟩
theorem yif {v1:Ti} {v2:Ti}:(C_gf v1 v2).okF tab:=fun r hr=>⟨za1 zxx rfl (.br (decide (v1.fw ≠ v2.fw)) (.lfA rB false)<|.br (decide (v1.fag ≠ v2.fag)) (.lfA rB false)<|.br (decide (v1.fg ≠ v2.fg)) (.lfA rB false)<|.callF (C_fl v1.fa v2.fa) fun(v6:Bool)=>.br (!v6) (.lfA rB false)<|.callF (C_fo v1.fh v2.fh) fun(v8:Bool)=>.br (!v8) (.lfA rB false)<|.lfA rB true:Tree Bool _) (by kernel_rfl) (by kernel_rfl) (bR (rfl)<|bR (rfl)<|bR (rfl)<|cF zv2 fun v6=>bR (rfl)<|cF zw6 fun v8=>bR (rfl)<|rfl) hr,rfl,rfl⟩
def J_gg_L1 (v1:List Ti) (v2:List Ti) (k:Int) (s:Unit):St:=⟨sv 7 [(0,.imm 15 (v1.map Ti.i)),(1,.imm 15 (v2.map Ti.i)),(3,.I k)],[]⟩
def q0_gg_L1 (v1:List Ti) (v2:List Ti):Int->Ex × St:=fun p=>(.ret,⟨sv 7 [(0,.imm 15 (v1.map Ti.i)),(1,.imm 15 (v2.map Ti.i)),(2,.bool false),(3,.I p),(5,.bool true),(6,.bool true)],[]⟩)
def q1_gg_L1 (v1:List Ti) (v2:List Ti):Unit->Ex × St:=fun p=>((.exit 0),⟨sv 7 [(0,.imm 15 (v1.map Ti.i)),(1,.imm 15 (v2.map Ti.i)),(3,.I (v1.length:Int)),(5,.bool false)],[]⟩)
def u_gg_L1 (v1:List Ti) (v2:List Ti) (k:Int):=outL (J_gg_L1 v1 v2 k) (Sum.elim (q0_gg_L1 v1 v2) (q1_gg_L1 v1 v2))
def b_gg_L1 (v1:List Ti) (v2:List Ti) (k:Int) (x:Ti) (s:Unit):Option ((Unit) ⊕ (Int ⊕ Unit)):=((v2)[k.toNat]?).bind fun v20=>((x_gf x v20).bind fun v22=>(bif !v22 then(some (.inr (.inl k))) else(some (.inl ()))))
def e_gg_L1 (v1:List Ti) (v2:List Ti) (s:Unit):Option (Int ⊕ Unit):=some ((.inr ()))
def x_gg_L1 (v1:List Ti) (v2:List Ti) (s:Unit):Option (Int ⊕ Unit):=if v1.length <= 9223372036854775806 then listN (b_gg_L1 v1 v2) (e_gg_L1 v1 v2) v1 0 s else none
def L_gg_L1 (v1:List Ti) (v2:List Ti) (s:Unit):Lc2:=⟨7,l_gg_0,0,[2,4,5,6],some (J_gg_L1 v1 v2 0 s),Int,Unit,x_gg_L1 v1 v2 s,q0_gg_L1 v1 v2,q1_gg_L1 v1 v2⟩
theorem zs7 {v1:List Ti} {v2:List Ti} {s:Unit}:(L_gg_L1 v1 v2 s).ok tab:=zao (za6 (J:=J_gg_L1 v1 v2) (o:=(Sum.elim (q0_gg_L1 v1 v2) (q1_gg_L1 v1 v2))) v1 (B:=fun(k:Int) (x:Ti) (s:Unit)=>(.lenA Ti.i v1<|.kb (decide (k < (v1.length:Int))) true<|.ob (0 <= k)<|.lkX Ti.i v1 (k.toNat) x<|.ob (0 <= k)<|.lookA Ti.i v2 (k.toNat) fun v20=>.callF (C_gf x v20) fun(v22:Bool)=>.br (!v22) (.lfA (u_gg_L1 v1 v2 (IntKind.i64.wrap (k + 1))) (.inr (.inl k)))<|.lfA (u_gg_L1 v1 v2 (IntKind.i64.wrap (k + 1))) (.inl ()):Tree ((Unit) ⊕ (Int ⊕ Unit)) _)) (E:=fun(s:Unit)=>(.lenA Ti.i v1<|.kb (decide ((v1.length:Int) < (v1.length:Int))) false<|.lfA (u_gg_L1 v1 v2 0) (.inr (.inr ())):Tree ((Unit) ⊕ (Int ⊕ Unit)) _)) (fun k x s=>by kernel_rfl) (fun d x t s he=>lA<|⟨ltX he,⟨Int.natCast_nonneg _,⟨za7 Ti.i he,⟨Int.natCast_nonneg _,kA fun v20=>cF yif fun v22=>bR (rfl)<|rfl⟩⟩⟩⟩) (ho2 (fun _=>rfl) fun _=>rfl) (fun s=>by kernel_rfl) (fun s=>lA<|⟨ltE _,rfl⟩) (by kernel_rfl) (by kernel_rfl) s)
def x_gg (v1:List Ti) (v2:List Ti):Option Bool:=bif decide ((v1.length:Int) ≠ (v2.length:Int)) then(some false) else((x_gg_L1 v1 v2 ()).bind (sel2 (fun (v24:Int)=>(some false)) (fun (v25:Unit)=>(some true))))
def C_gg (v1:List Ti) (v2:List Ti):Ctr:=⟨n_gg,[.imm 15 (v1.map Ti.i),.imm 15 (v2.map Ti.i)],[],Bool,x_gg v1 v2,rB⟩
theorem ybe {v1:List Ti} {v2:List Ti}:(C_gg v1 v2).okF tab:=fun r hr=>⟨za1 ya2 rfl (.lenA Ti.i v1<|.lenA Ti.i v2<|.br (decide ((v1.length:Int) ≠ (v2.length:Int))) (.lfA rB false)<|.lp2 (L_gg_L1 v1 v2 ()) (fun (v24:Int)=>.lfA rB false) (fun (v25:Unit)=>.lfA rB true):Tree Bool _) (by kernel_rfl) (by kernel_rfl) (lA<|lA<|bR (rfl)<|lQ zs7 (fun v24=>rfl) (fun v25=>rfl)) hr,rfl,rfl⟩
def x_gh (v1:Tp) (v2:Tp):Option Bool:=(x_fx v1.fF v2.fF).bind fun v3=>(bif !v3 then(some false) else((x_ga v1.fba v2.fba).bind fun v5=>(bif !v5 then(some false) else((x_gc v1.faz v2.faz).bind fun v7=>(bif !v7 then(some false) else((x_ge v1.fbb v2.fbb).bind fun v9=>(bif !v9 then(some false) else((x_gg v1.fbc v2.fbc).bind fun v11=>(bif !v11 then(some false) else(some true))))))))))
def C_gh (v1:Tp) (v2:Tp):Ctr:=⟨n_gh,[.agg [.I v1.fF.fan,.I v1.fF.fp.fad,.I v1.fF.fp.fac,.imm 7 (v1.fF.fp.faf.map Td.i),.I v1.fF.fo.fu,.imm 13 (v1.fF.fo.fj.map Tb.i),.imm 17 (v1.fF.fr.map Tc.i),.I v1.fF.fal,.I v1.fF.fao,.I v1.fF.fam,.I v1.fF.fap,.imm 6 (v1.fba.map Tk.i),.imm 16 (v1.faz.map Th.i),.imm 16 (v1.fbb.map Tg.i),.imm 15 (v1.fbc.map Ti.i)],.agg [.I v2.fF.fan,.I v2.fF.fp.fad,.I v2.fF.fp.fac,.imm 7 (v2.fF.fp.faf.map Td.i),.I v2.fF.fo.fu,.imm 13 (v2.fF.fo.fj.map Tb.i),.imm 17 (v2.fF.fr.map Tc.i),.I v2.fF.fal,.I v2.fF.fao,.I v2.fF.fam,.I v2.fF.fap,.imm 6 (v2.fba.map Tk.i),.imm 16 (v2.faz.map Th.i),.imm 16 (v2.fbb.map Tg.i),.imm 15 (v2.fbc.map Ti.i)]],[],Bool,x_gh v1 v2,rB⟩
theorem yex {v1:Tp} {v2:Tp}:(C_gh v1 v2).okF tab:=fun r hr=>⟨za1 ygs rfl (.callF (C_fx v1.fF v2.fF) fun(v3:Bool)=>.br (!v3) (.lfA rB false)<|.callF (C_ga v1.fba v2.fba) fun(v5:Bool)=>.br (!v5) (.lfA rB false)<|.callF (C_gc v1.faz v2.faz) fun(v7:Bool)=>.br (!v7) (.lfA rB false)<|.callF (C_ge v1.fbb v2.fbb) fun(v9:Bool)=>.br (!v9) (.lfA rB false)<|.callF (C_gg v1.fbc v2.fbc) fun(v11:Bool)=>.br (!v11) (.lfA rB false)<|.lfA rB true:Tree Bool _) (by kernel_rfl) (by kernel_rfl) (cF ylq fun v3=>bR (rfl)<|cF yj4 fun v5=>bR (rfl)<|cF ymq fun v7=>bR (rfl)<|cF ylp fun v9=>bR (rfl)<|cF ybe fun v11=>bR (rfl)<|rfl) hr,rfl,rfl⟩
def x_gi (v1:Tp):Option Bool:=(x_ba v1 1048576).bind fun v2=>(bif decide (v2 < 0) then(some true) else((x_cc v1).bind fun v4=>((x_dh v4).bind fun v5=>((x_cc v1).bind fun v6=>((x_ff v6).bind fun v7=>(bif decide (v7 ≠ v5) then(some false) else((x_cc v1).bind fun v9=>((x_gh v6 v9).bind fun v10=>(bif !v10 then(some false) else(some true))))))))))
def C_gi (v1:Tp):Ctr:=⟨n_gi,[.agg [.I v1.fF.fan,.I v1.fF.fp.fad,.I v1.fF.fp.fac,.imm 7 (v1.fF.fp.faf.map Td.i),.I v1.fF.fo.fu,.imm 13 (v1.fF.fo.fj.map Tb.i),.imm 17 (v1.fF.fr.map Tc.i),.I v1.fF.fal,.I v1.fF.fao,.I v1.fF.fam,.I v1.fF.fap,.imm 6 (v1.fba.map Tk.i),.imm 16 (v1.faz.map Th.i),.imm 16 (v1.fbb.map Tg.i),.imm 15 (v1.fbc.map Ti.i)]],[],Bool,x_gi v1,rB⟩
theorem ya6 {v1:Tp}:(C_gi v1).okF tab:=fun r hr=>⟨za1 yb7 rfl (.callF (C_ba v1 1048576) fun(v2:Int)=>.br (decide (v2 < 0)) (.lfA rB true)<|.callF (C_cc v1) fun(v4:Tp)=>.segA Td.i v4.fF.fp.faf<|.eraA Td.i Td.i v4.fF.fp.faf<|.segA Tb.o v4.fF.fo.fj<|.eraA Tb.o Tb.i v4.fF.fo.fj<|.segA Tc.o v4.fF.fr<|.eraA Tc.o Tc.i v4.fF.fr<|.segA Tk.o v4.fba<|.eraA Tk.o Tk.i v4.fba<|.segA Th.o v4.faz<|.eraA Th.o Th.i v4.faz<|.segA Tg.o v4.fbb<|.eraA Tg.o Tg.i v4.fbb<|.segA Ti.o v4.fbc<|.eraA Ti.o Ti.i v4.fbc<|.callF (C_dh v4) fun(v5:Int)=>.callF (C_cc v1) fun(v6:Tp)=>.segA Td.i v6.fF.fp.faf<|.segA Tb.o v6.fF.fo.fj<|.segA Tc.o v6.fF.fr<|.segA Tk.o v6.fba<|.segA Th.o v6.faz<|.segA Tg.o v6.fbb<|.segA Ti.o v6.fbc<|.segA Td.i v6.fF.fp.faf<|.eraA Td.i Td.i v6.fF.fp.faf<|.segA Tb.o v6.fF.fo.fj<|.eraA Tb.o Tb.i v6.fF.fo.fj<|.segA Tc.o v6.fF.fr<|.eraA Tc.o Tc.i v6.fF.fr<|.segA Tk.o v6.fba<|.eraA Tk.o Tk.i v6.fba<|.segA Th.o v6.faz<|.eraA Th.o Th.i v6.faz<|.segA Tg.o v6.fbb<|.eraA Tg.o Tg.i v6.fbb<|.segA Ti.o v6.fbc<|.eraA Ti.o Ti.i v6.fbc<|.callF (C_ff v6) fun(v7:Int)=>.br (decide (v7 ≠ v5)) (.lfA rB false)<|.callF (C_cc v1) fun(v9:Tp)=>.segA Td.i v6.fF.fp.faf<|.eraA Td.i Td.i v6.fF.fp.faf<|.segA Tb.o v6.fF.fo.fj<|.eraA Tb.o Tb.i v6.fF.fo.fj<|.segA Tc.o v6.fF.fr<|.eraA Tc.o Tc.i v6.fF.fr<|.segA Tk.o v6.fba<|.eraA Tk.o Tk.i v6.fba<|.segA Th.o v6.faz<|.eraA Th.o Th.i v6.faz<|.segA Tg.o v6.fbb<|.eraA Tg.o Tg.i v6.fbb<|.segA Ti.o v6.fbc<|.eraA Ti.o Ti.i v6.fbc<|.segA Td.i v9.fF.fp.faf<|.eraA Td.i Td.i v9.fF.fp.faf<|.segA Tb.o v9.fF.fo.fj<|.eraA Tb.o Tb.i v9.fF.fo.fj<|.segA Tc.o v9.fF.fr<|.eraA Tc.o Tc.i v9.fF.fr<|.segA Tk.o v9.fba<|.eraA Tk.o Tk.i v9.fba<|.segA Th.o v9.faz<|.eraA Th.o Th.i v9.faz<|.segA Tg.o v9.fbb<|.eraA Tg.o Tg.i v9.fbb<|.segA Ti.o v9.fbc<|.eraA Ti.o Ti.i v9.fbc<|.callF (C_gh v6 v9) fun(v10:Bool)=>.br (!v10) (.lfA rB false)<|.lfA rB true:Tree Bool _) (by kernel_rfl) (by kernel_rfl) (cF ydm fun v2=>bR (rfl)<|cF zwd fun v4=>sA<|eO (fun _=>rfl)<|sA<|eO Tb.o_i<|sA<|eO Tc.o_i<|sA<|eO Tk.o_i<|sA<|eO Th.o_i<|sA<|eO Tg.o_i<|sA<|eO Ti.o_i<|cF yca fun v5=>cF zwd fun v6=>sA<|sA<|sA<|sA<|sA<|sA<|sA<|sA<|eO (fun _=>rfl)<|sA<|eO Tb.o_i<|sA<|eO Tc.o_i<|sA<|eO Tk.o_i<|sA<|eO Th.o_i<|sA<|eO Tg.o_i<|sA<|eO Ti.o_i<|cF yay fun v7=>bR (rfl)<|cF zwd fun v9=>sA<|eO (fun _=>rfl)<|sA<|eO Tb.o_i<|sA<|eO Tc.o_i<|sA<|eO Tk.o_i<|sA<|eO Th.o_i<|sA<|eO Tg.o_i<|sA<|eO Ti.o_i<|sA<|eO (fun _=>rfl)<|sA<|eO Tb.o_i<|sA<|eO Tc.o_i<|sA<|eO Tk.o_i<|sA<|eO Th.o_i<|sA<|eO Tg.o_i<|sA<|eO Ti.o_i<|cF yex fun v10=>bR (rfl)<|rfl) hr,rfl,rfl⟩
end Go.Pm
namespace Go.Pm
set_option maxRecDepth 100000
set_option maxHeartbeats 400000
theorem za3 {p:PT} {ps:List PT} {vs:List V} (h:PT.hasAll (p :: ps) vs):∃ v vs',vs=v :: vs'/\p.has v/\PT.hasAll ps vs':=by simpa only [PT.hasAll] using h
theorem zb0 {vs:List V} (h:PT.hasAll [] vs):vs=[]:=by simpa only [PT.hasAll] using h
theorem zap:∀ {ps qs:List PT} {vs:List V},PT.hasAll (ps ++ qs) vs->∃ us ws,vs=us ++ ws/\PT.hasAll ps us/\PT.hasAll qs ws
 | [],qs,vs,h=>⟨[],vs,rfl,by simp only [PT.hasAll],h⟩
 | p :: ps,qs,vs,h=>by
   obtain ⟨v,vs',rfl,h1,h2⟩:=za3 h
   obtain ⟨us,ws,rfl,h3,h4⟩:=zap h2
   exact ⟨v :: us,ws,rfl,by simp only [PT.hasAll];exact ⟨v,us,rfl,h1,h3⟩,h4⟩
theorem zag {v:V} (h:(PT.int .i64).has v):∃ n,v=.int .i64 n/\ -9223372036854775808 <= n/\n <= 9223372036854775807:=by
 simp only [PT.has] at h
 obtain ⟨n,rfl,h1,h2⟩:=h
 exact ⟨n,rfl,by simpa [IntKind.min,IntKind.signed,IntKind.bits] using h1,by simpa [IntKind.max,IntKind.signed,IntKind.bits] using h2⟩
theorem zig {v:V} (h:PT.bool.has v):∃ b,v=.bool b:=by simpa only [PT.has] using h
theorem zje {α:Type} {f:α->V} {Q:α->Prop}:∀ {xs:List V},(∀ x ∈ xs,∃ a,x=f a/\Q a)->∃ as:List α,xs=as.map f/\∀ a ∈ as,Q a
 | [],_=>⟨[],rfl,by simp⟩
 | x :: xs,h=>by
   obtain ⟨a,rfl,ha⟩:=h x (by simp)
   obtain ⟨as,rfl,has⟩:=zje (f:=f) (Q:=Q) (xs:=xs) (fun y hy=>h y (by simp [hy]))
   exact ⟨a :: as,rfl,by simpa using ⟨ha,has⟩⟩
theorem zbt {α:Type} {f:α->V} {Q:α->Prop} {ag:Bool} {es:List PT} {v:V} (h:(PT.list ag es).has v) (he:∀ x:V,x.leaf= !ag->PT.hasAll es x.cells1->∃ a,x=f a/\Q a):
 ∃ as:List α,v=.imm es.length (as.map f)/\as.length <= 9223372036854775807/\∀ a ∈ as,Q a:=by
 simp only [PT.has] at h
 obtain ⟨xs,rfl,hl,hx⟩:=h
 obtain ⟨as,rfl,ha⟩:=zje (f:=f) (Q:=Q) (fun x hm=>he x (hx x hm).1 (hx x hm).2)
 exact ⟨as,rfl,by simpa using hl,ha⟩
theorem zru {p:PT} {x:V} (hx:x.leaf= !false) (h:PT.hasAll [p] x.cells1):p.has x:=by
 obtain ⟨v,vs,e,h1,h2⟩:=za3 h
 cases x <;> first | (simp only [V.cells1,List.cons.injEq] at e;rw [e.1];exact h1) | (cases hx;done)
theorem zgc {v:V} (h:(PT.list false [.int .i64]).has v):∃ as:List Int,v=.imm 1 (as.map (.int .i64))/\as.length <= 9223372036854775807/\∀ a ∈ as,-9223372036854775808 <= a/\a <= 9223372036854775807:=
 zbt h fun _ hx h=>zag (zru hx h)
theorem zdo {v:V} (h:(PT.list false [.bool]).has v):∃ as:List Bool,v=.imm 1 (as.map .bool)/\as.length <= 9223372036854775807/\∀ a ∈ as,True:=
 zbt h fun _ hx h=>by obtain ⟨b,rfl⟩:=zig (zru hx h);exact ⟨b,rfl,trivial⟩
def pt_Rule:List PT:=.int .i64 :: .int .i64 :: .int .i64 :: .int .i64 :: .int .i64 :: .int .i64 :: .int .i64 :: []
theorem ztd {vs:List V} (g0:PT.hasAll pt_Rule vs):∃ a:Td,a.ok/\V.agg vs=a.i:=by
 unfold pt_Rule at g0
 obtain ⟨_,_,rfl,h0,g1⟩:=za3 g0
 obtain ⟨x0,rfl,k0⟩:=zag h0
 obtain ⟨_,_,rfl,h1,g2⟩:=za3 g1
 obtain ⟨x1,rfl,k1⟩:=zag h1
 obtain ⟨_,_,rfl,h2,g3⟩:=za3 g2
 obtain ⟨x2,rfl,k2⟩:=zag h2
 obtain ⟨_,_,rfl,h3,g4⟩:=za3 g3
 obtain ⟨x3,rfl,k3⟩:=zag h3
 obtain ⟨_,_,rfl,h4,g5⟩:=za3 g4
 obtain ⟨x4,rfl,k4⟩:=zag h4
 obtain ⟨_,_,rfl,h5,g6⟩:=za3 g5
 obtain ⟨x5,rfl,k5⟩:=zag h5
 obtain ⟨_,_,rfl,h6,g7⟩:=za3 g6
 obtain ⟨x6,rfl,k6⟩:=zag h6
 obtain rfl:=zb0 g7
 exact ⟨⟨x0,x1,x2,x3,x4,x5,x6⟩,⟨k0,k1,k2,k3,k4,k5,k6⟩,rfl⟩
theorem zqo {x:V} (hx:x.leaf= !true) (h:PT.hasAll pt_Rule x.cells1):∃ a:Td,x=a.i/\a.ok:=by
 obtain ⟨a,ha,e⟩:=ztd h
 cases x with
 | agg cs=>exact ⟨a,e,ha⟩
 | tup vs=>exfalso;have:=hasAll_leaf h (V.tup vs) (by simp [V.cells1]);cases this
 | _=>cases hx
theorem zrf {v:V} (h:(PT.list true pt_Rule).has v):∃ as:List Td,v=.imm 7 (as.map Td.i)/\as.length <= 9223372036854775807/\∀ a ∈ as,a.ok:=zbt h fun _ hx h=>zqo hx h
def pt_Config:List PT:=.int .i64 :: .int .i64 :: .list true pt_Rule :: []
theorem zoo {vs:List V} (g0:PT.hasAll pt_Config vs):∃ a:Tr,a.ok/\V.agg vs=a.i:=by
 unfold pt_Config at g0
 obtain ⟨_,_,rfl,h0,g1⟩:=za3 g0
 obtain ⟨x0,rfl,k0⟩:=zag h0
 obtain ⟨_,_,rfl,h1,g2⟩:=za3 g1
 obtain ⟨x1,rfl,k1⟩:=zag h1
 obtain ⟨_,_,rfl,h2,g3⟩:=za3 g2
 obtain ⟨x2,rfl,j2,k2⟩:=zrf h2
 obtain rfl:=zb0 g3
 exact ⟨⟨x0,x1,x2⟩,⟨k0,k1,j2,k2⟩,rfl⟩
def pt_Req:List PT:=.int .i64 :: .int .i64 :: .int .i64 :: .list false [.int .i64] :: .list false [.bool] :: .int .i64 :: []
theorem zi2 {vs:List V} (g0:PT.hasAll pt_Req vs):∃ a:Tj,a.ok/\V.agg vs=a.i:=by
 unfold pt_Req at g0
 obtain ⟨_,_,rfl,h0,g1⟩:=za3 g0
 obtain ⟨x0,rfl,k0⟩:=zag h0
 obtain ⟨_,_,rfl,h1,g2⟩:=za3 g1
 obtain ⟨x1,rfl,k1⟩:=zag h1
 obtain ⟨_,_,rfl,h2,g3⟩:=za3 g2
 obtain ⟨x2,rfl,k2⟩:=zag h2
 obtain ⟨_,_,rfl,h3,g4⟩:=za3 g3
 obtain ⟨x3,rfl,j3,k3⟩:=zgc h3
 obtain ⟨_,_,rfl,h4,g5⟩:=za3 g4
 obtain ⟨x4,rfl,j4,_⟩:=zdo h4
 obtain ⟨_,_,rfl,h5,g6⟩:=za3 g5
 obtain ⟨x5,rfl,k5⟩:=zag h5
 obtain rfl:=zb0 g6
 exact ⟨⟨x0,x1,x2,x3,x4,x5⟩,⟨k0,k1,k2,j3,k3,j4,k5⟩,rfl⟩
def pt_Part:List PT:=.int .i64 :: .int .i64 :: (pt_Req ++ [])
theorem zs4 {vs:List V} (g0:PT.hasAll pt_Part vs):∃ a:Tf,a.ok/\V.agg vs=a.i:=by
 unfold pt_Part at g0
 obtain ⟨_,_,rfl,h0,g1⟩:=za3 g0
 obtain ⟨x0,rfl,k0⟩:=zag h0
 obtain ⟨_,_,rfl,h1,g2⟩:=za3 g1
 obtain ⟨x1,rfl,k1⟩:=zag h1
 obtain ⟨_,_,rfl,h2,g3⟩:=zap g2
 obtain ⟨x2,k2,e2⟩:=zi2 h2
 obtain rfl:=V.agg.inj e2
 obtain rfl:=zb0 g3
 exact ⟨⟨x0,x1,x2⟩,⟨k0,k1,k2⟩,rfl⟩
theorem zr6 {x:V} (hx:x.leaf= !true) (h:PT.hasAll pt_Part x.cells1):∃ a:Tf,x=a.i/\a.ok:=by
 obtain ⟨a,ha,e⟩:=zs4 h
 cases x with
 | agg cs=>exact ⟨a,e,ha⟩
 | tup vs=>exfalso;have:=hasAll_leaf h (V.tup vs) (by simp [V.cells1]);cases this
 | _=>cases hx
theorem zlo {v:V} (h:(PT.list true pt_Part).has v):∃ as:List Tf,v=.imm 8 (as.map Tf.i)/\as.length <= 9223372036854775807/\∀ a ∈ as,a.ok:=zbt h fun _ hx h=>zr6 hx h
def pt_Resp:List PT:=.int .i64 :: .int .i64 :: .int .i64 :: .int .i64 :: .list false [.int .i64] :: .list false [.bool] :: []
theorem zir {vs:List V} (g0:PT.hasAll pt_Resp vs):∃ a:Te,a.ok/\V.agg vs=a.i:=by
 unfold pt_Resp at g0
 obtain ⟨_,_,rfl,h0,g1⟩:=za3 g0
 obtain ⟨x0,rfl,k0⟩:=zag h0
 obtain ⟨_,_,rfl,h1,g2⟩:=za3 g1
 obtain ⟨x1,rfl,k1⟩:=zag h1
 obtain ⟨_,_,rfl,h2,g3⟩:=za3 g2
 obtain ⟨x2,rfl,k2⟩:=zag h2
 obtain ⟨_,_,rfl,h3,g4⟩:=za3 g3
 obtain ⟨x3,rfl,k3⟩:=zag h3
 obtain ⟨_,_,rfl,h4,g5⟩:=za3 g4
 obtain ⟨x4,rfl,j4,k4⟩:=zgc h4
 obtain ⟨_,_,rfl,h5,g6⟩:=za3 g5
 obtain ⟨x5,rfl,j5,_⟩:=zdo h5
 obtain rfl:=zb0 g6
 exact ⟨⟨x0,x1,x2,x3,x4,x5⟩,⟨k0,k1,k2,k3,j4,k4,j5⟩,rfl⟩
theorem zqv {x:V} (hx:x.leaf= !true) (h:PT.hasAll pt_Resp x.cells1):∃ a:Te,x=a.i/\a.ok:=by
 obtain ⟨a,ha,e⟩:=zir h
 cases x with
 | agg cs=>exact ⟨a,e,ha⟩
 | tup vs=>exfalso;have:=hasAll_leaf h (V.tup vs) (by simp [V.cells1]);cases this
 | _=>cases hx
theorem zlf {v:V} (h:(PT.list true pt_Resp).has v):∃ as:List Te,v=.imm 6 (as.map Te.i)/\as.length <= 9223372036854775807/\∀ a ∈ as,a.ok:=zbt h fun _ hx h=>zqv hx h
def pt_Pend:List PT:=.int .i64 :: .int .i64 :: .int .i64 :: .int .i64 :: (pt_Req ++ .list true pt_Part :: .list false [.bool] :: .list true pt_Resp :: [])
theorem zt5 {vs:List V} (g0:PT.hasAll pt_Pend vs):∃ a:Tb,a.ok/\V.agg vs=a.i:=by
 unfold pt_Pend at g0
 obtain ⟨_,_,rfl,h0,g1⟩:=za3 g0
 obtain ⟨x0,rfl,k0⟩:=zag h0
 obtain ⟨_,_,rfl,h1,g2⟩:=za3 g1
 obtain ⟨x1,rfl,k1⟩:=zag h1
 obtain ⟨_,_,rfl,h2,g3⟩:=za3 g2
 obtain ⟨x2,rfl,k2⟩:=zag h2
 obtain ⟨_,_,rfl,h3,g4⟩:=za3 g3
 obtain ⟨x3,rfl,k3⟩:=zag h3
 obtain ⟨_,_,rfl,h4,g5⟩:=zap g4
 obtain ⟨x4,k4,e4⟩:=zi2 h4
 obtain rfl:=V.agg.inj e4
 obtain ⟨_,_,rfl,h5,g6⟩:=za3 g5
 obtain ⟨x5,rfl,j5,k5⟩:=zlo h5
 obtain ⟨_,_,rfl,h6,g7⟩:=za3 g6
 obtain ⟨x6,rfl,j6,_⟩:=zdo h6
 obtain ⟨_,_,rfl,h7,g8⟩:=za3 g7
 obtain ⟨x7,rfl,j7,k7⟩:=zlf h7
 obtain rfl:=zb0 g8
 exact ⟨⟨x0,x1,x2,x3,x4,x5,x6,x7⟩,⟨k0,k1,k2,k3,k4,j5,k5,j6,j7,k7⟩,rfl⟩
theorem zrm {x:V} (hx:x.leaf= !true) (h:PT.hasAll pt_Pend x.cells1):∃ a:Tb,x=a.i/\a.ok:=by
 obtain ⟨a,ha,e⟩:=zt5 h
 cases x with
 | agg cs=>exact ⟨a,e,ha⟩
 | tup vs=>exfalso;have:=hasAll_leaf h (V.tup vs) (by simp [V.cells1]);cases this
 | _=>cases hx
theorem zq3 {v:V} (h:(PT.list true pt_Pend).has v):∃ as:List Tb,v=.imm 13 (as.map Tb.i)/\as.length <= 9223372036854775807/\∀ a ∈ as,a.ok:=zbt h fun _ hx h=>zrm hx h
def pt_Table:List PT:=.int .i64 :: .list true pt_Pend :: []
theorem zrr {vs:List V} (g0:PT.hasAll pt_Table vs):∃ a:To,a.ok/\V.agg vs=a.i:=by
 unfold pt_Table at g0
 obtain ⟨_,_,rfl,h0,g1⟩:=za3 g0
 obtain ⟨x0,rfl,k0⟩:=zag h0
 obtain ⟨_,_,rfl,h1,g2⟩:=za3 g1
 obtain ⟨x1,rfl,j1,k1⟩:=zq3 h1
 obtain rfl:=zb0 g2
 exact ⟨⟨x0,x1⟩,⟨k0,j1,k1⟩,rfl⟩
def pt_Call:List PT:=.int .i64 :: .int .i64 :: .int .i64 :: (pt_Req ++ [])
theorem zpf {vs:List V} (g0:PT.hasAll pt_Call vs):∃ a:Ta,a.ok/\V.agg vs=a.i:=by
 unfold pt_Call at g0
 obtain ⟨_,_,rfl,h0,g1⟩:=za3 g0
 obtain ⟨x0,rfl,k0⟩:=zag h0
 obtain ⟨_,_,rfl,h1,g2⟩:=za3 g1
 obtain ⟨x1,rfl,k1⟩:=zag h1
 obtain ⟨_,_,rfl,h2,g3⟩:=za3 g2
 obtain ⟨x2,rfl,k2⟩:=zag h2
 obtain ⟨_,_,rfl,h3,g4⟩:=zap g3
 obtain ⟨x3,k3,e3⟩:=zi2 h3
 obtain rfl:=V.agg.inj e3
 obtain rfl:=zb0 g4
 exact ⟨⟨x0,x1,x2,x3⟩,⟨k0,k1,k2,k3⟩,rfl⟩
theorem zq4 {x:V} (hx:x.leaf= !true) (h:PT.hasAll pt_Call x.cells1):∃ a:Ta,x=a.i/\a.ok:=by
 obtain ⟨a,ha,e⟩:=zpf h
 cases x with
 | agg cs=>exact ⟨a,e,ha⟩
 | tup vs=>exfalso;have:=hasAll_leaf h (V.tup vs) (by simp [V.cells1]);cases this
 | _=>cases hx
theorem zqh {v:V} (h:(PT.list true pt_Call).has v):∃ as:List Ta,v=.imm 9 (as.map Ta.i)/\as.length <= 9223372036854775807/\∀ a ∈ as,a.ok:=zbt h fun _ hx h=>zq4 hx h
def pt_Line:List PT:=.list true pt_Call :: .bool :: (pt_Call ++ .int .i64 :: .int .i64 :: .int .i64 :: .int .i64 :: .int .i64 :: .int .i64 :: [])
theorem zsu {vs:List V} (g0:PT.hasAll pt_Line vs):∃ a:Tc,a.ok/\V.agg vs=a.i:=by
 unfold pt_Line at g0
 obtain ⟨_,_,rfl,h0,g1⟩:=za3 g0
 obtain ⟨x0,rfl,j0,k0⟩:=zqh h0
 obtain ⟨_,_,rfl,h1,g2⟩:=za3 g1
 obtain ⟨x1,rfl⟩:=zig h1
 obtain ⟨_,_,rfl,h2,g3⟩:=zap g2
 obtain ⟨x2,k2,e2⟩:=zpf h2
 obtain rfl:=V.agg.inj e2
 obtain ⟨_,_,rfl,h3,g4⟩:=za3 g3
 obtain ⟨x3,rfl,k3⟩:=zag h3
 obtain ⟨_,_,rfl,h4,g5⟩:=za3 g4
 obtain ⟨x4,rfl,k4⟩:=zag h4
 obtain ⟨_,_,rfl,h5,g6⟩:=za3 g5
 obtain ⟨x5,rfl,k5⟩:=zag h5
 obtain ⟨_,_,rfl,h6,g7⟩:=za3 g6
 obtain ⟨x6,rfl,k6⟩:=zag h6
 obtain ⟨_,_,rfl,h7,g8⟩:=za3 g7
 obtain ⟨x7,rfl,k7⟩:=zag h7
 obtain ⟨_,_,rfl,h8,g9⟩:=za3 g8
 obtain ⟨x8,rfl,k8⟩:=zag h8
 obtain rfl:=zb0 g9
 exact ⟨⟨x0,x1,x2,x3,x4,x5,x6,x7,x8⟩,⟨j0,k0,k2,k3,k4,k5,k6,k7,k8⟩,rfl⟩
theorem zr5 {x:V} (hx:x.leaf= !true) (h:PT.hasAll pt_Line x.cells1):∃ a:Tc,x=a.i/\a.ok:=by
 obtain ⟨a,ha,e⟩:=zsu h
 cases x with
 | agg cs=>exact ⟨a,e,ha⟩
 | tup vs=>exfalso;have:=hasAll_leaf h (V.tup vs) (by simp [V.cells1]);cases this
 | _=>cases hx
theorem zq1 {v:V} (h:(PT.list true pt_Line).has v):∃ as:List Tc,v=.imm 17 (as.map Tc.i)/\as.length <= 9223372036854775807/\∀ a ∈ as,a.ok:=zbt h fun _ hx h=>zr5 hx h
def pt_Fabric:List PT:=.int .i64 :: (pt_Config ++ (pt_Table ++ .list true pt_Line :: .int .i64 :: .int .i64 :: .int .i64 :: .int .i64 :: []))
theorem zpm {vs:List V} (g0:PT.hasAll pt_Fabric vs):∃ a:Tn,a.ok/\V.agg vs=a.i:=by
 unfold pt_Fabric at g0
 obtain ⟨_,_,rfl,h0,g1⟩:=za3 g0
 obtain ⟨x0,rfl,k0⟩:=zag h0
 obtain ⟨_,_,rfl,h1,g2⟩:=zap g1
 obtain ⟨x1,k1,e1⟩:=zoo h1
 obtain rfl:=V.agg.inj e1
 obtain ⟨_,_,rfl,h2,g3⟩:=zap g2
 obtain ⟨x2,k2,e2⟩:=zrr h2
 obtain rfl:=V.agg.inj e2
 obtain ⟨_,_,rfl,h3,g4⟩:=za3 g3
 obtain ⟨x3,rfl,j3,k3⟩:=zq1 h3
 obtain ⟨_,_,rfl,h4,g5⟩:=za3 g4
 obtain ⟨x4,rfl,k4⟩:=zag h4
 obtain ⟨_,_,rfl,h5,g6⟩:=za3 g5
 obtain ⟨x5,rfl,k5⟩:=zag h5
 obtain ⟨_,_,rfl,h6,g7⟩:=za3 g6
 obtain ⟨x6,rfl,k6⟩:=zag h6
 obtain ⟨_,_,rfl,h7,g8⟩:=za3 g7
 obtain ⟨x7,rfl,k7⟩:=zag h7
 obtain rfl:=zb0 g8
 exact ⟨⟨x0,x1,x2,x3,x4,x5,x6,x7⟩,⟨k0,k1,k2,j3,k3,k4,k5,k6,k7⟩,rfl⟩
def pt_Device:List PT:=.list false [.bool] :: .list false [.bool] :: .list false [.int .i64] :: .list false [.int .i64] :: []
theorem zpk {vs:List V} (g0:PT.hasAll pt_Device vs):∃ a:Tq,a.ok/\V.agg vs=a.i:=by
 unfold pt_Device at g0
 obtain ⟨_,_,rfl,h0,g1⟩:=za3 g0
 obtain ⟨x0,rfl,j0,_⟩:=zdo h0
 obtain ⟨_,_,rfl,h1,g2⟩:=za3 g1
 obtain ⟨x1,rfl,j1,_⟩:=zdo h1
 obtain ⟨_,_,rfl,h2,g3⟩:=za3 g2
 obtain ⟨x2,rfl,j2,k2⟩:=zgc h2
 obtain ⟨_,_,rfl,h3,g4⟩:=za3 g3
 obtain ⟨x3,rfl,j3,k3⟩:=zgc h3
 obtain rfl:=zb0 g4
 exact ⟨⟨x0,x1,x2,x3⟩,⟨j0,j1,j2,k2,j3,k3⟩,rfl⟩
def pt_Post:List PT:=.int .i64 :: .int .i64 :: (pt_Device ++ [])
theorem zte {vs:List V} (g0:PT.hasAll pt_Post vs):∃ a:Tk,a.ok/\V.agg vs=a.i:=by
 unfold pt_Post at g0
 obtain ⟨_,_,rfl,h0,g1⟩:=za3 g0
 obtain ⟨x0,rfl,k0⟩:=zag h0
 obtain ⟨_,_,rfl,h1,g2⟩:=za3 g1
 obtain ⟨x1,rfl,k1⟩:=zag h1
 obtain ⟨_,_,rfl,h2,g3⟩:=zap g2
 obtain ⟨x2,k2,e2⟩:=zpk h2
 obtain rfl:=V.agg.inj e2
 obtain rfl:=zb0 g3
 exact ⟨⟨x0,x1,x2⟩,⟨k0,k1,k2⟩,rfl⟩
theorem zrl {x:V} (hx:x.leaf= !true) (h:PT.hasAll pt_Post x.cells1):∃ a:Tk,x=a.i/\a.ok:=by
 obtain ⟨a,ha,e⟩:=zte h
 cases x with
 | agg cs=>exact ⟨a,e,ha⟩
 | tup vs=>exfalso;have:=hasAll_leaf h (V.tup vs) (by simp [V.cells1]);cases this
 | _=>cases hx
theorem zq2 {v:V} (h:(PT.list true pt_Post).has v):∃ as:List Tk,v=.imm 6 (as.map Tk.i)/\as.length <= 9223372036854775807/\∀ a ∈ as,a.ok:=zbt h fun _ hx h=>zrl hx h
def pt_Packet:List PT:=.bool :: .int .i64 :: .int .i64 :: .int .i64 :: (pt_Req ++ (pt_Resp ++ []))
theorem zpn {vs:List V} (g0:PT.hasAll pt_Packet vs):∃ a:Th,a.ok/\V.agg vs=a.i:=by
 unfold pt_Packet at g0
 obtain ⟨_,_,rfl,h0,g1⟩:=za3 g0
 obtain ⟨x0,rfl⟩:=zig h0
 obtain ⟨_,_,rfl,h1,g2⟩:=za3 g1
 obtain ⟨x1,rfl,k1⟩:=zag h1
 obtain ⟨_,_,rfl,h2,g3⟩:=za3 g2
 obtain ⟨x2,rfl,k2⟩:=zag h2
 obtain ⟨_,_,rfl,h3,g4⟩:=za3 g3
 obtain ⟨x3,rfl,k3⟩:=zag h3
 obtain ⟨_,_,rfl,h4,g5⟩:=zap g4
 obtain ⟨x4,k4,e4⟩:=zi2 h4
 obtain rfl:=V.agg.inj e4
 obtain ⟨_,_,rfl,h5,g6⟩:=zap g5
 obtain ⟨x5,k5,e5⟩:=zir h5
 obtain rfl:=V.agg.inj e5
 obtain rfl:=zb0 g6
 exact ⟨⟨x0,x1,x2,x3,x4,x5⟩,⟨k1,k2,k3,k4,k5⟩,rfl⟩
theorem zmf {x:V} (hx:x.leaf= !true) (h:PT.hasAll pt_Packet x.cells1):∃ a:Th,x=a.i/\a.ok:=by
 obtain ⟨a,ha,e⟩:=zpn h
 cases x with
 | agg cs=>exact ⟨a,e,ha⟩
 | tup vs=>exfalso;have:=hasAll_leaf h (V.tup vs) (by simp [V.cells1]);cases this
 | _=>cases hx
theorem zn4 {v:V} (h:(PT.list true pt_Packet).has v):∃ as:List Th,v=.imm 16 (as.map Th.i)/\as.length <= 9223372036854775807/\∀ a ∈ as,a.ok:=zbt h fun _ hx h=>zmf hx h
def pt_Reply:List PT:=.int .i64 :: .int .i64 :: (pt_Req ++ .list true pt_Part :: .list true pt_Resp :: (pt_Resp ++ []))
theorem zrn {vs:List V} (g0:PT.hasAll pt_Reply vs):∃ a:Tg,a.ok/\V.agg vs=a.i:=by
 unfold pt_Reply at g0
 obtain ⟨_,_,rfl,h0,g1⟩:=za3 g0
 obtain ⟨x0,rfl,k0⟩:=zag h0
 obtain ⟨_,_,rfl,h1,g2⟩:=za3 g1
 obtain ⟨x1,rfl,k1⟩:=zag h1
 obtain ⟨_,_,rfl,h2,g3⟩:=zap g2
 obtain ⟨x2,k2,e2⟩:=zi2 h2
 obtain rfl:=V.agg.inj e2
 obtain ⟨_,_,rfl,h3,g4⟩:=za3 g3
 obtain ⟨x3,rfl,j3,k3⟩:=zlo h3
 obtain ⟨_,_,rfl,h4,g5⟩:=za3 g4
 obtain ⟨x4,rfl,j4,k4⟩:=zlf h4
 obtain ⟨_,_,rfl,h5,g6⟩:=zap g5
 obtain ⟨x5,k5,e5⟩:=zir h5
 obtain rfl:=V.agg.inj e5
 obtain rfl:=zb0 g6
 exact ⟨⟨x0,x1,x2,x3,x4,x5⟩,⟨k0,k1,k2,j3,k3,j4,k4,k5⟩,rfl⟩
theorem zom {x:V} (hx:x.leaf= !true) (h:PT.hasAll pt_Reply x.cells1):∃ a:Tg,x=a.i/\a.ok:=by
 obtain ⟨a,ha,e⟩:=zrn h
 cases x with
 | agg cs=>exact ⟨a,e,ha⟩
 | tup vs=>exfalso;have:=hasAll_leaf h (V.tup vs) (by simp [V.cells1]);cases this
 | _=>cases hx
theorem zon {v:V} (h:(PT.list true pt_Reply).has v):∃ as:List Tg,v=.imm 16 (as.map Tg.i)/\as.length <= 9223372036854775807/\∀ a ∈ as,a.ok:=zbt h fun _ hx h=>zom hx h
def pt_Served:List PT:=.int .i64 :: .int .i64 :: .int .i64 :: (pt_Req ++ (pt_Resp ++ []))
theorem zpi {vs:List V} (g0:PT.hasAll pt_Served vs):∃ a:Ti,a.ok/\V.agg vs=a.i:=by
 unfold pt_Served at g0
 obtain ⟨_,_,rfl,h0,g1⟩:=za3 g0
 obtain ⟨x0,rfl,k0⟩:=zag h0
 obtain ⟨_,_,rfl,h1,g2⟩:=za3 g1
 obtain ⟨x1,rfl,k1⟩:=zag h1
 obtain ⟨_,_,rfl,h2,g3⟩:=za3 g2
 obtain ⟨x2,rfl,k2⟩:=zag h2
 obtain ⟨_,_,rfl,h3,g4⟩:=zap g3
 obtain ⟨x3,k3,e3⟩:=zi2 h3
 obtain rfl:=V.agg.inj e3
 obtain ⟨_,_,rfl,h4,g5⟩:=zap g4
 obtain ⟨x4,k4,e4⟩:=zir h4
 obtain rfl:=V.agg.inj e4
 obtain rfl:=zb0 g5
 exact ⟨⟨x0,x1,x2,x3,x4⟩,⟨k0,k1,k2,k3,k4⟩,rfl⟩
theorem zna {x:V} (hx:x.leaf= !true) (h:PT.hasAll pt_Served x.cells1):∃ a:Ti,x=a.i/\a.ok:=by
 obtain ⟨a,ha,e⟩:=zpi h
 cases x with
 | agg cs=>exact ⟨a,e,ha⟩
 | tup vs=>exfalso;have:=hasAll_leaf h (V.tup vs) (by simp [V.cells1]);cases this
 | _=>cases hx
theorem zmn {v:V} (h:(PT.list true pt_Served).has v):∃ as:List Ti,v=.imm 15 (as.map Ti.i)/\as.length <= 9223372036854775807/\∀ a ∈ as,a.ok:=zbt h fun _ hx h=>zna hx h
def pt_World:List PT:=(pt_Fabric ++ .list true pt_Post :: .list true pt_Packet :: .list true pt_Reply :: .list true pt_Served :: [])
theorem zpz {vs:List V} (g0:PT.hasAll pt_World vs):∃ a:Tp,a.ok/\V.agg vs=a.i:=by
 unfold pt_World at g0
 obtain ⟨_,_,rfl,h0,g1⟩:=zap g0
 obtain ⟨x0,k0,e0⟩:=zpm h0
 obtain rfl:=V.agg.inj e0
 obtain ⟨_,_,rfl,h1,g2⟩:=za3 g1
 obtain ⟨x1,rfl,j1,k1⟩:=zq2 h1
 obtain ⟨_,_,rfl,h2,g3⟩:=za3 g2
 obtain ⟨x2,rfl,j2,k2⟩:=zn4 h2
 obtain ⟨_,_,rfl,h3,g4⟩:=za3 g3
 obtain ⟨x3,rfl,j3,k3⟩:=zon h3
 obtain ⟨_,_,rfl,h4,g5⟩:=za3 g4
 obtain ⟨x4,rfl,j4,k4⟩:=zmn h4
 obtain rfl:=zb0 g5
 exact ⟨⟨x0,x1,x2,x3,x4⟩,⟨k0,j1,k1,j2,k2,j3,k3,j4,k4⟩,rfl⟩
theorem zpq {x:V} (hx:x.leaf= !true) (h:PT.hasAll pt_World x.cells1):∃ a:Tp,x=a.i/\a.ok:=by
 obtain ⟨a,ha,e⟩:=zpz h
 cases x with
 | agg cs=>exact ⟨a,e,ha⟩
 | tup vs=>exfalso;have:=hasAll_leaf h (V.tup vs) (by simp [V.cells1]);cases this
 | _=>cases hx
end Go.Pm
namespace Go.Pm
set_option maxRecDepth 100000
set_option maxHeartbeats 400000
theorem zg0 (a:List Int) (h:a.length <= 9223372036854775807):SzOk (x_ac a) (a.length):=SzOk.of (fun l=>rfl) (SzOk.len h)
theorem zg4 (a:List Int) (h:a.length <= 1048576):x_be a=some a:=by
 have hl:a.length <= 1048576:=h
 rw [x_be,if_pos ⟨by omega,by rw [za8];omega⟩]
 unfold x_be_L1
 rw [if_pos (by omega),zfv (xs:=a)]
 ·rw [e_be_L1];rfl
 ·intro d x t s he hd
  rw [b_be_L1]
  obtain ⟨z,hz⟩:∃ z,s[d.length]? =some z:=⟨s[d.length],List.getElem?_eq_getElem hd⟩
  simp only [za8,List.length_map,Nat.sub_zero]
  rw [if_pos ⟨by omega,by omega⟩]
  simp only [hz,Option.bind_some,List.set_set,List.length_set,hd,zcc]
 ·simp
theorem zfx (a:List Int) (h:a.length <= 1048576):x_fj a a=some true:=by
 have hl:a.length <= 1048576:=h
 rw [x_fj]
 unfold x_fj_L1
 rw [if_pos (by omega),znc (xs:=a)]
 ·simp only [ne_eq,not_true_eq_false,decide_false,cond_false,e_fj_L1];rfl
 ·intro d x t he
  rw [b_fj_L1]
  simp only [za8,zbm he,Option.bind_some,ne_eq,not_true_eq_false,decide_false,cond_false,BEq.rfl,bne_self_eq_false,Bool.true_xor,Bool.not_true]
theorem ze2 (a:List Bool) (h:a.length <= 9223372036854775807):SzOk (x_ad a) (a.length):=SzOk.of (fun l=>rfl) (SzOk.len h)
theorem zdw (a:List Bool) (h:a.length <= 1048576):x_bf a=some a:=by
 have hl:a.length <= 1048576:=h
 rw [x_bf,if_pos ⟨by omega,by rw [za8];omega⟩]
 unfold x_bf_L1
 rw [if_pos (by omega),zfv (xs:=a)]
 ·rw [e_bf_L1];rfl
 ·intro d x t s he hd
  rw [b_bf_L1]
  obtain ⟨z,hz⟩:∃ z,s[d.length]? =some z:=⟨s[d.length],List.getElem?_eq_getElem hd⟩
  simp only [za8,List.length_map,Nat.sub_zero]
  rw [if_pos ⟨by omega,by omega⟩]
  simp only [hz,Option.bind_some,List.set_set,List.length_set,hd,zcc]
 ·simp
theorem zdu (a:List Bool) (h:a.length <= 1048576):x_fk a a=some true:=by
 have hl:a.length <= 1048576:=h
 rw [x_fk]
 unfold x_fk_L1
 rw [if_pos (by omega),znc (xs:=a)]
 ·simp only [ne_eq,not_true_eq_false,decide_false,cond_false,e_fk_L1];rfl
 ·intro d x t he
  rw [b_fk_L1]
  simp only [za8,zbm he,Option.bind_some,ne_eq,not_true_eq_false,decide_false,cond_false,BEq.rfl,bne_self_eq_false,Bool.true_xor,Bool.not_true]
theorem zrh (a:Td) (h:a.sz <= 1048576):x_bb a=some a:=by rw [x_bb]
theorem zqe (a:Td) (h:a.sz <= 1048576):x_fg a a=some true:=by
 simp only [Td.sz] at h
 rw [x_fg]
 simp only [Option.bind_some,ne_eq,not_true_eq_false,decide_false,cond_false,BEq.rfl,bne_self_eq_false,Bool.true_xor,Bool.not_true]
theorem znk (a:List Td) (h:a.length <= 9223372036854775807):SzOk (x_aa a) (a.length):=SzOk.of (fun l=>rfl) (SzOk.len h)
theorem znx (a:List Td) (h:a.length <= 1048576):x_bc a=some a:=by
 have hl:a.length <= 1048576:=h
 rw [x_bc,if_pos ⟨by omega,by rw [za8];omega⟩]
 unfold x_bc_L1
 rw [if_pos (by omega),zfv (xs:=a)]
 ·rw [e_bc_L1];rfl
 ·intro d x t s he hd
  rw [b_bc_L1]
  obtain ⟨z,hz⟩:∃ z,s[d.length]? =some z:=⟨s[d.length],List.getElem?_eq_getElem hd⟩
  simp only [zrh x (by simp [Td.sz]),Option.bind_some,za8,List.length_map,Nat.sub_zero]
  rw [if_pos ⟨by omega,by omega⟩]
  simp only [hz,Option.bind_some,List.set_set,List.length_set,hd,zcc]
 ·simp
theorem zpt (a:List Td) (h:a.length <= 1048576):x_fh a a=some true:=by
 have hl:a.length <= 1048576:=h
 rw [x_fh]
 unfold x_fh_L1
 rw [if_pos (by omega),znc (xs:=a)]
 ·simp only [ne_eq,not_true_eq_false,decide_false,cond_false,e_fh_L1];rfl
 ·intro d x t he
  rw [b_fh_L1]
  simp only [za8,zbm he,Option.bind_some,zqe x (by simp [Td.sz]),ne_eq,not_true_eq_false,decide_false,cond_false,BEq.rfl,bne_self_eq_false,Bool.true_xor,Bool.not_true]
theorem zma (a:Tr) (h:a.ok):SzOk (x_ab a) (a.sz):=SzOk.of (fun l=>rfl) (SzOk.one (znk a.faf (by exact h.2.2.1)))
theorem zn9 (a:Tr) (h:a.sz <= 1048576):x_bd a=some a:=by
 simp only [Tr.sz] at h
 rw [x_bd]
 simp only [znx a.faf (by first | omega | (simp only [Tr.sz];omega)),Option.bind_some]
theorem zmr (a:Tr) (h:a.sz <= 1048576):x_fi a a=some true:=by
 simp only [Tr.sz] at h
 rw [x_fi]
 simp only [zpt a.faf (by first | omega | (simp only [Tr.sz];omega)),Option.bind_some,ne_eq,not_true_eq_false,decide_false,cond_false,BEq.rfl,bne_self_eq_false,Bool.true_xor,Bool.not_true]
theorem zfl (a:Tj) (h:a.ok):SzOk (x_ae a) (a.sz):=SzOk.of (fun l=>rfl) (SzOk.seq (zg0 a.fb (by exact h.2.2.2.1)) (SzOk.one (ze2 a.fc (by exact h.2.2.2.2.2.1))))
theorem zfd (a:Tj) (h:a.sz <= 1048576):x_bg a=some a:=by
 simp only [Tj.sz] at h
 rw [x_bg]
 simp only [zg4 a.fb (by first | omega | (simp only [Tj.sz];omega)),zdw a.fc (by first | omega | (simp only [Tj.sz];omega)),Option.bind_some]
theorem zfk (a:Tj) (h:a.sz <= 1048576):x_fl a a=some true:=by
 simp only [Tj.sz] at h
 rw [x_fl]
 simp only [zfx a.fb (by first | omega | (simp only [Tj.sz];omega)),zdu a.fc (by first | omega | (simp only [Tj.sz];omega)),Option.bind_some,ne_eq,not_true_eq_false,decide_false,cond_false,BEq.rfl,bne_self_eq_false,Bool.true_xor,Bool.not_true]
theorem zqj (a:Tf) (h:a.ok):SzOk (x_af a) (a.sz):=SzOk.of (fun l=>rfl) (SzOk.one (zfl a.fa (by exact h.2.2)))
theorem zrp (a:Tf) (h:a.sz <= 1048576):x_bh a=some a:=by
 simp only [Tf.sz] at h
 rw [x_bh]
 simp only [zfd a.fa (by first | omega | (simp only [Tf.sz];omega)),Option.bind_some]
theorem zq0 (a:Tf) (h:a.sz <= 1048576):x_fm a a=some true:=by
 simp only [Tf.sz] at h
 rw [x_fm]
 simp only [zfk a.fa (by first | omega | (simp only [Tf.sz];omega)),Option.bind_some,ne_eq,not_true_eq_false,decide_false,cond_false,BEq.rfl,bne_self_eq_false,Bool.true_xor,Bool.not_true]
theorem zka (a:List Tf) (h:a.length <= 9223372036854775807/\∀ b ∈ a,b.ok):SzOk (x_ag a) (szL Tf.sz a):=SzOk.of (fun l=>rfl) (SzOk.list h.1 (fun x hx=>zqj x (h.2 x hx)) (fun k x s=>rfl) (fun s=>rfl))
theorem zk4 (a:List Tf) (h:szL Tf.sz a <= 1048576):x_bi a=some a:=by
 have hl:a.length <= 1048576:=by have:=zar (f:=Tf.sz) (xs:=a);omega
 rw [x_bi,if_pos ⟨by omega,by rw [za8];omega⟩]
 unfold x_bi_L1
 rw [if_pos (by omega),zfv (xs:=a)]
 ·rw [e_bi_L1];rfl
 ·intro d x t s he hd
  rw [b_bi_L1]
  obtain ⟨z,hz⟩:∃ z,s[d.length]? =some z:=⟨s[d.length],List.getElem?_eq_getElem hd⟩
  simp only [zrp x (by have:=zal (f:=Tf.sz) (he ▸ (by simp:x ∈ d ++ x :: t));omega),Option.bind_some,za8,List.length_map,Nat.sub_zero]
  rw [if_pos ⟨by omega,by omega⟩]
  simp only [hz,Option.bind_some,List.set_set,List.length_set,hd,zcc]
 ·simp
theorem zjy (a:List Tf) (h:szL Tf.sz a <= 1048576):x_fn a a=some true:=by
 have hl:a.length <= 1048576:=by have:=zar (f:=Tf.sz) (xs:=a);omega
 rw [x_fn]
 unfold x_fn_L1
 rw [if_pos (by omega),znc (xs:=a)]
 ·simp only [ne_eq,not_true_eq_false,decide_false,cond_false,e_fn_L1];rfl
 ·intro d x t he
  rw [b_fn_L1]
  simp only [za8,zbm he,Option.bind_some,zq0 x (by have:=zal (f:=Tf.sz) (he ▸ (by simp:x ∈ d ++ x :: t));omega),ne_eq,not_true_eq_false,decide_false,cond_false,BEq.rfl,bne_self_eq_false,Bool.true_xor,Bool.not_true]
theorem zfz (a:Te) (h:a.ok):SzOk (x_ah a) (a.sz):=SzOk.of (fun l=>rfl) (SzOk.seq (zg0 a.fb (by exact h.2.2.2.2.1)) (SzOk.one (ze2 a.fc (by exact h.2.2.2.2.2.2))))
theorem zg5 (a:Te) (h:a.sz <= 1048576):x_bj a=some a:=by
 simp only [Te.sz] at h
 rw [x_bj]
 simp only [zg4 a.fb (by first | omega | (simp only [Te.sz];omega)),zdw a.fc (by first | omega | (simp only [Te.sz];omega)),Option.bind_some]
theorem zgd (a:Te) (h:a.sz <= 1048576):x_fo a a=some true:=by
 simp only [Te.sz] at h
 rw [x_fo]
 simp only [zfx a.fb (by first | omega | (simp only [Te.sz];omega)),zdu a.fc (by first | omega | (simp only [Te.sz];omega)),Option.bind_some,ne_eq,not_true_eq_false,decide_false,cond_false,BEq.rfl,bne_self_eq_false,Bool.true_xor,Bool.not_true]
theorem zk3 (a:List Te) (h:a.length <= 9223372036854775807/\∀ b ∈ a,b.ok):SzOk (x_ai a) (szL Te.sz a):=SzOk.of (fun l=>rfl) (SzOk.list h.1 (fun x hx=>zfz x (h.2 x hx)) (fun k x s=>rfl) (fun s=>rfl))
theorem zjn (a:List Te) (h:szL Te.sz a <= 1048576):x_bk a=some a:=by
 have hl:a.length <= 1048576:=by have:=zar (f:=Te.sz) (xs:=a);omega
 rw [x_bk,if_pos ⟨by omega,by rw [za8];omega⟩]
 unfold x_bk_L1
 rw [if_pos (by omega),zfv (xs:=a)]
 ·rw [e_bk_L1];rfl
 ·intro d x t s he hd
  rw [b_bk_L1]
  obtain ⟨z,hz⟩:∃ z,s[d.length]? =some z:=⟨s[d.length],List.getElem?_eq_getElem hd⟩
  simp only [zg5 x (by have:=zal (f:=Te.sz) (he ▸ (by simp:x ∈ d ++ x :: t));omega),Option.bind_some,za8,List.length_map,Nat.sub_zero]
  rw [if_pos ⟨by omega,by omega⟩]
  simp only [hz,Option.bind_some,List.set_set,List.length_set,hd,zcc]
 ·simp
theorem zkg (a:List Te) (h:szL Te.sz a <= 1048576):x_fp a a=some true:=by
 have hl:a.length <= 1048576:=by have:=zar (f:=Te.sz) (xs:=a);omega
 rw [x_fp]
 unfold x_fp_L1
 rw [if_pos (by omega),znc (xs:=a)]
 ·simp only [ne_eq,not_true_eq_false,decide_false,cond_false,e_fp_L1];rfl
 ·intro d x t he
  rw [b_fp_L1]
  simp only [za8,zbm he,Option.bind_some,zgd x (by have:=zal (f:=Te.sz) (he ▸ (by simp:x ∈ d ++ x :: t));omega),ne_eq,not_true_eq_false,decide_false,cond_false,BEq.rfl,bne_self_eq_false,Bool.true_xor,Bool.not_true]
theorem zr0 (a:Tb) (h:a.ok):SzOk (x_aj a) (a.sz):=SzOk.of (fun l=>rfl) (SzOk.seq (zfl a.fa (by exact h.2.2.2.2.1)) (SzOk.seq (zka a.fm (by exact ⟨h.2.2.2.2.2.1,h.2.2.2.2.2.2.1⟩)) (SzOk.seq (ze2 a.ft (by exact h.2.2.2.2.2.2.2.1)) (SzOk.one (zk3 a.faa (by exact ⟨h.2.2.2.2.2.2.2.2.1,h.2.2.2.2.2.2.2.2.2⟩))))))
theorem zrs (a:Tb) (h:a.sz <= 1048576):x_bl a=some a:=by
 simp only [Tb.sz] at h
 rw [x_bl]
 simp only [zfd a.fa (by first | omega | (simp only [Tb.sz];omega)),zk4 a.fm (by first | omega | (simp only [Tb.sz];omega)),zdw a.ft (by first | omega | (simp only [Tb.sz];omega)),zjn a.faa (by first | omega | (simp only [Tb.sz];omega)),Option.bind_some]
theorem zrc (a:Tb) (h:a.sz <= 1048576):x_fq a a=some true:=by
 simp only [Tb.sz] at h
 rw [x_fq]
 simp only [zfk a.fa (by first | omega | (simp only [Tb.sz];omega)),zjy a.fm (by first | omega | (simp only [Tb.sz];omega)),zdu a.ft (by first | omega | (simp only [Tb.sz];omega)),zkg a.faa (by first | omega | (simp only [Tb.sz];omega)),Option.bind_some,ne_eq,not_true_eq_false,decide_false,cond_false,BEq.rfl,bne_self_eq_false,Bool.true_xor,Bool.not_true]
theorem zp9 (a:List Tb) (h:a.length <= 9223372036854775807/\∀ b ∈ a,b.ok):SzOk (x_ak a) (szL Tb.sz a):=SzOk.of (fun l=>rfl) (SzOk.list h.1 (fun x hx=>zr0 x (h.2 x hx)) (fun k x s=>rfl) (fun s=>rfl))
theorem zow (a:List Tb) (h:szL Tb.sz a <= 1048576):x_bm a=some a:=by
 have hl:a.length <= 1048576:=by have:=zar (f:=Tb.sz) (xs:=a);omega
 rw [x_bm,if_pos ⟨by omega,by rw [za8];omega⟩]
 unfold x_bm_L1
 rw [if_pos (by omega),zfv (xs:=a)]
 ·rw [e_bm_L1];rfl
 ·intro d x t s he hd
  rw [b_bm_L1]
  obtain ⟨z,hz⟩:∃ z,s[d.length]? =some z:=⟨s[d.length],List.getElem?_eq_getElem hd⟩
  simp only [zrs x (by have:=zal (f:=Tb.sz) (he ▸ (by simp:x ∈ d ++ x :: t));omega),Option.bind_some,za8,List.length_map,Nat.sub_zero]
  rw [if_pos ⟨by omega,by omega⟩]
  simp only [hz,Option.bind_some,List.set_set,List.length_set,hd,zcc]
 ·simp
theorem zp4 (a:List Tb) (h:szL Tb.sz a <= 1048576):x_fr a a=some true:=by
 have hl:a.length <= 1048576:=by have:=zar (f:=Tb.sz) (xs:=a);omega
 rw [x_fr]
 unfold x_fr_L1
 rw [if_pos (by omega),znc (xs:=a)]
 ·simp only [ne_eq,not_true_eq_false,decide_false,cond_false,e_fr_L1];rfl
 ·intro d x t he
  rw [b_fr_L1]
  simp only [za8,zbm he,Option.bind_some,zrc x (by have:=zal (f:=Tb.sz) (he ▸ (by simp:x ∈ d ++ x :: t));omega),ne_eq,not_true_eq_false,decide_false,cond_false,BEq.rfl,bne_self_eq_false,Bool.true_xor,Bool.not_true]
theorem znr (a:To) (h:a.ok):SzOk (x_al a) (a.sz):=SzOk.of (fun l=>rfl) (SzOk.one (zp9 a.fj (by exact ⟨h.2.1,h.2.2⟩)))
theorem zoa (a:To) (h:a.sz <= 1048576):x_bn a=some a:=by
 simp only [To.sz] at h
 rw [x_bn]
 simp only [zow a.fj (by first | omega | (simp only [To.sz];omega)),Option.bind_some]
theorem zoc (a:To) (h:a.sz <= 1048576):x_fs a a=some true:=by
 simp only [To.sz] at h
 rw [x_fs]
 simp only [zp4 a.fj (by first | omega | (simp only [To.sz];omega)),Option.bind_some,ne_eq,not_true_eq_false,decide_false,cond_false,BEq.rfl,bne_self_eq_false,Bool.true_xor,Bool.not_true]
theorem zm0 (a:Ta) (h:a.ok):SzOk (x_am a) (a.sz):=SzOk.of (fun l=>rfl) (SzOk.one (zfl a.fa (by exact h.2.2.2)))
theorem zla (a:Ta) (h:a.sz <= 1048576):x_bo a=some a:=by
 simp only [Ta.sz] at h
 rw [x_bo]
 simp only [zfd a.fa (by first | omega | (simp only [Ta.sz];omega)),Option.bind_some]
theorem zlk (a:Ta) (h:a.sz <= 1048576):x_ft a a=some true:=by
 simp only [Ta.sz] at h
 rw [x_ft]
 simp only [zfk a.fa (by first | omega | (simp only [Ta.sz];omega)),Option.bind_some,ne_eq,not_true_eq_false,decide_false,cond_false,BEq.rfl,bne_self_eq_false,Bool.true_xor,Bool.not_true]
theorem znj (a:List Ta) (h:a.length <= 9223372036854775807/\∀ b ∈ a,b.ok):SzOk (x_an a) (szL Ta.sz a):=SzOk.of (fun l=>rfl) (SzOk.list h.1 (fun x hx=>zm0 x (h.2 x hx)) (fun k x s=>rfl) (fun s=>rfl))
theorem zos (a:List Ta) (h:szL Ta.sz a <= 1048576):x_bp a=some a:=by
 have hl:a.length <= 1048576:=by have:=zar (f:=Ta.sz) (xs:=a);omega
 rw [x_bp,if_pos ⟨by omega,by rw [za8];omega⟩]
 unfold x_bp_L1
 rw [if_pos (by omega),zfv (xs:=a)]
 ·rw [e_bp_L1];rfl
 ·intro d x t s he hd
  rw [b_bp_L1]
  obtain ⟨z,hz⟩:∃ z,s[d.length]? =some z:=⟨s[d.length],List.getElem?_eq_getElem hd⟩
  simp only [zla x (by have:=zal (f:=Ta.sz) (he ▸ (by simp:x ∈ d ++ x :: t));omega),Option.bind_some,za8,List.length_map,Nat.sub_zero]
  rw [if_pos ⟨by omega,by omega⟩]
  simp only [hz,Option.bind_some,List.set_set,List.length_set,hd,zcc]
 ·simp
theorem zpg (a:List Ta) (h:szL Ta.sz a <= 1048576):x_fu a a=some true:=by
 have hl:a.length <= 1048576:=by have:=zar (f:=Ta.sz) (xs:=a);omega
 rw [x_fu]
 unfold x_fu_L1
 rw [if_pos (by omega),znc (xs:=a)]
 ·simp only [ne_eq,not_true_eq_false,decide_false,cond_false,e_fu_L1];rfl
 ·intro d x t he
  rw [b_fu_L1]
  simp only [za8,zbm he,Option.bind_some,zlk x (by have:=zal (f:=Ta.sz) (he ▸ (by simp:x ∈ d ++ x :: t));omega),ne_eq,not_true_eq_false,decide_false,cond_false,BEq.rfl,bne_self_eq_false,Bool.true_xor,Bool.not_true]
theorem zq8 (a:Tc) (h:a.ok):SzOk (x_ao a) (a.sz):=SzOk.of (fun l=>rfl) (SzOk.seq (znj a.fab (by exact ⟨h.1,h.2.1⟩)) (SzOk.one (zm0 a.ff (by exact h.2.2.1))))
theorem zrq (a:Tc) (h:a.sz <= 1048576):x_bq a=some a:=by
 simp only [Tc.sz] at h
 rw [x_bq]
 simp only [zos a.fab (by first | omega | (simp only [Tc.sz];omega)),zla a.ff (by first | omega | (simp only [Tc.sz];omega)),Option.bind_some]
theorem zqq (a:Tc) (h:a.sz <= 1048576):x_fv a a=some true:=by
 simp only [Tc.sz] at h
 rw [x_fv]
 simp only [zpg a.fab (by first | omega | (simp only [Tc.sz];omega)),zlk a.ff (by first | omega | (simp only [Tc.sz];omega)),Option.bind_some,ne_eq,not_true_eq_false,decide_false,cond_false,BEq.rfl,bne_self_eq_false,Bool.true_xor,Bool.not_true]
theorem znz (a:List Tc) (h:a.length <= 9223372036854775807/\∀ b ∈ a,b.ok):SzOk (x_ap a) (szL Tc.sz a):=SzOk.of (fun l=>rfl) (SzOk.list h.1 (fun x hx=>zq8 x (h.2 x hx)) (fun k x s=>rfl) (fun s=>rfl))
theorem znw (a:List Tc) (h:szL Tc.sz a <= 1048576):x_br a=some a:=by
 have hl:a.length <= 1048576:=by have:=zar (f:=Tc.sz) (xs:=a);omega
 rw [x_br,if_pos ⟨by omega,by rw [za8];omega⟩]
 unfold x_br_L1
 rw [if_pos (by omega),zfv (xs:=a)]
 ·rw [e_br_L1];rfl
 ·intro d x t s he hd
  rw [b_br_L1]
  obtain ⟨z,hz⟩:∃ z,s[d.length]? =some z:=⟨s[d.length],List.getElem?_eq_getElem hd⟩
  simp only [zrq x (by have:=zal (f:=Tc.sz) (he ▸ (by simp:x ∈ d ++ x :: t));omega),Option.bind_some,za8,List.length_map,Nat.sub_zero]
  rw [if_pos ⟨by omega,by omega⟩]
  simp only [hz,Option.bind_some,List.set_set,List.length_set,hd,zcc]
 ·simp
theorem zno (a:List Tc) (h:szL Tc.sz a <= 1048576):x_fw a a=some true:=by
 have hl:a.length <= 1048576:=by have:=zar (f:=Tc.sz) (xs:=a);omega
 rw [x_fw]
 unfold x_fw_L1
 rw [if_pos (by omega),znc (xs:=a)]
 ·simp only [ne_eq,not_true_eq_false,decide_false,cond_false,e_fw_L1];rfl
 ·intro d x t he
  rw [b_fw_L1]
  simp only [za8,zbm he,Option.bind_some,zqq x (by have:=zal (f:=Tc.sz) (he ▸ (by simp:x ∈ d ++ x :: t));omega),ne_eq,not_true_eq_false,decide_false,cond_false,BEq.rfl,bne_self_eq_false,Bool.true_xor,Bool.not_true]
theorem zn1 (a:Tn) (h:a.ok):SzOk (x_aq a) (a.sz):=SzOk.of (fun l=>rfl) (SzOk.seq (zma a.fp (by exact h.2.1)) (SzOk.seq (znr a.fo (by exact h.2.2.1)) (SzOk.one (znz a.fr (by exact ⟨h.2.2.2.1,h.2.2.2.2.1⟩)))))
theorem zn0 (a:Tn) (h:a.sz <= 1048576):x_bs a=some a:=by
 simp only [Tn.sz] at h
 rw [x_bs]
 simp only [zn9 a.fp (by first | omega | (simp only [Tn.sz];omega)),zoa a.fo (by first | omega | (simp only [Tn.sz];omega)),znw a.fr (by first | omega | (simp only [Tn.sz];omega)),Option.bind_some]
theorem zmc (a:Tn) (h:a.sz <= 1048576):x_fx a a=some true:=by
 simp only [Tn.sz] at h
 rw [x_fx]
 simp only [zmr a.fp (by first | omega | (simp only [Tn.sz];omega)),zoc a.fo (by first | omega | (simp only [Tn.sz];omega)),zno a.fr (by first | omega | (simp only [Tn.sz];omega)),Option.bind_some,ne_eq,not_true_eq_false,decide_false,cond_false,BEq.rfl,bne_self_eq_false,Bool.true_xor,Bool.not_true]
theorem zmb (a:Tq) (h:a.ok):SzOk (x_ar a) (a.sz):=SzOk.of (fun l=>rfl) (SzOk.seq (ze2 a.faw (by exact h.1)) (SzOk.seq (ze2 a.fax (by exact h.2.1)) (SzOk.seq (zg0 a.fav (by exact h.2.2.1)) (SzOk.one (zg0 a.fb (by exact h.2.2.2.2.1))))))
theorem zn8 (a:Tq) (h:a.sz <= 1048576):x_bt a=some a:=by
 simp only [Tq.sz] at h
 rw [x_bt]
 simp only [zdw a.faw (by first | omega | (simp only [Tq.sz];omega)),zdw a.fax (by first | omega | (simp only [Tq.sz];omega)),zg4 a.fav (by first | omega | (simp only [Tq.sz];omega)),zg4 a.fb (by first | omega | (simp only [Tq.sz];omega)),Option.bind_some]
theorem zmp (a:Tq) (h:a.sz <= 1048576):x_fy a a=some true:=by
 simp only [Tq.sz] at h
 rw [x_fy]
 simp only [zdu a.faw (by first | omega | (simp only [Tq.sz];omega)),zdu a.fax (by first | omega | (simp only [Tq.sz];omega)),zfx a.fav (by first | omega | (simp only [Tq.sz];omega)),zfx a.fb (by first | omega | (simp only [Tq.sz];omega)),Option.bind_some,ne_eq,not_true_eq_false,decide_false,cond_false,BEq.rfl,bne_self_eq_false,Bool.true_xor,Bool.not_true]
theorem zqa (a:Tk) (h:a.ok):SzOk (x_as a) (a.sz):=SzOk.of (fun l=>rfl) (SzOk.one (zmb a.fD (by exact h.2.2)))
theorem zr7 (a:Tk) (h:a.sz <= 1048576):x_bu a=some a:=by
 simp only [Tk.sz] at h
 rw [x_bu]
 simp only [zn8 a.fD (by first | omega | (simp only [Tk.sz];omega)),Option.bind_some]
theorem zpx (a:Tk) (h:a.sz <= 1048576):x_fz a a=some true:=by
 simp only [Tk.sz] at h
 rw [x_fz]
 simp only [zmp a.fD (by first | omega | (simp only [Tk.sz];omega)),Option.bind_some,ne_eq,not_true_eq_false,decide_false,cond_false,BEq.rfl,bne_self_eq_false,Bool.true_xor,Bool.not_true]
theorem zp6 (a:List Tk) (h:a.length <= 9223372036854775807/\∀ b ∈ a,b.ok):SzOk (x_at a) (szL Tk.sz a):=SzOk.of (fun l=>rfl) (SzOk.list h.1 (fun x hx=>zqa x (h.2 x hx)) (fun k x s=>rfl) (fun s=>rfl))
theorem zo8 (a:List Tk) (h:szL Tk.sz a <= 1048576):x_bv a=some a:=by
 have hl:a.length <= 1048576:=by have:=zar (f:=Tk.sz) (xs:=a);omega
 rw [x_bv,if_pos ⟨by omega,by rw [za8];omega⟩]
 unfold x_bv_L1
 rw [if_pos (by omega),zfv (xs:=a)]
 ·rw [e_bv_L1];rfl
 ·intro d x t s he hd
  rw [b_bv_L1]
  obtain ⟨z,hz⟩:∃ z,s[d.length]? =some z:=⟨s[d.length],List.getElem?_eq_getElem hd⟩
  simp only [zr7 x (by have:=zal (f:=Tk.sz) (he ▸ (by simp:x ∈ d ++ x :: t));omega),Option.bind_some,za8,List.length_map,Nat.sub_zero]
  rw [if_pos ⟨by omega,by omega⟩]
  simp only [hz,Option.bind_some,List.set_set,List.length_set,hd,zcc]
 ·simp
theorem zp1 (a:List Tk) (h:szL Tk.sz a <= 1048576):x_ga a a=some true:=by
 have hl:a.length <= 1048576:=by have:=zar (f:=Tk.sz) (xs:=a);omega
 rw [x_ga]
 unfold x_ga_L1
 rw [if_pos (by omega),znc (xs:=a)]
 ·simp only [ne_eq,not_true_eq_false,decide_false,cond_false,e_ga_L1];rfl
 ·intro d x t he
  rw [b_ga_L1]
  simp only [za8,zbm he,Option.bind_some,zpx x (by have:=zal (f:=Tk.sz) (he ▸ (by simp:x ∈ d ++ x :: t));omega),ne_eq,not_true_eq_false,decide_false,cond_false,BEq.rfl,bne_self_eq_false,Bool.true_xor,Bool.not_true]
theorem zmj (a:Th) (h:a.ok):SzOk (x_au a) (a.sz):=SzOk.of (fun l=>rfl) (SzOk.seq (zfl a.fa (by exact h.2.2.2.1)) (SzOk.one (zfz a.fh (by exact h.2.2.2.2))))
theorem zmv (a:Th) (h:a.sz <= 1048576):x_bw a=some a:=by
 simp only [Th.sz] at h
 rw [x_bw]
 simp only [zfd a.fa (by first | omega | (simp only [Th.sz];omega)),zg5 a.fh (by first | omega | (simp only [Th.sz];omega)),Option.bind_some]
theorem zmu (a:Th) (h:a.sz <= 1048576):x_gb a a=some true:=by
 simp only [Th.sz] at h
 rw [x_gb]
 simp only [zfk a.fa (by first | omega | (simp only [Th.sz];omega)),zgd a.fh (by first | omega | (simp only [Th.sz];omega)),Option.bind_some,ne_eq,not_true_eq_false,decide_false,cond_false,BEq.rfl,bne_self_eq_false,Bool.true_xor,Bool.not_true]
theorem zl1 (a:List Th) (h:a.length <= 9223372036854775807/\∀ b ∈ a,b.ok):SzOk (x_av a) (szL Th.sz a):=SzOk.of (fun l=>rfl) (SzOk.list h.1 (fun x hx=>zmj x (h.2 x hx)) (fun k x s=>rfl) (fun s=>rfl))
theorem zkw (a:List Th) (h:szL Th.sz a <= 1048576):x_bx a=some a:=by
 have hl:a.length <= 1048576:=by have:=zar (f:=Th.sz) (xs:=a);omega
 rw [x_bx,if_pos ⟨by omega,by rw [za8];omega⟩]
 unfold x_bx_L1
 rw [if_pos (by omega),zfv (xs:=a)]
 ·rw [e_bx_L1];rfl
 ·intro d x t s he hd
  rw [b_bx_L1]
  obtain ⟨z,hz⟩:∃ z,s[d.length]? =some z:=⟨s[d.length],List.getElem?_eq_getElem hd⟩
  simp only [zmv x (by have:=zal (f:=Th.sz) (he ▸ (by simp:x ∈ d ++ x :: t));omega),Option.bind_some,za8,List.length_map,Nat.sub_zero]
  rw [if_pos ⟨by omega,by omega⟩]
  simp only [hz,Option.bind_some,List.set_set,List.length_set,hd,zcc]
 ·simp
theorem zky (a:List Th) (h:szL Th.sz a <= 1048576):x_gc a a=some true:=by
 have hl:a.length <= 1048576:=by have:=zar (f:=Th.sz) (xs:=a);omega
 rw [x_gc]
 unfold x_gc_L1
 rw [if_pos (by omega),znc (xs:=a)]
 ·simp only [ne_eq,not_true_eq_false,decide_false,cond_false,e_gc_L1];rfl
 ·intro d x t he
  rw [b_gc_L1]
  simp only [za8,zbm he,Option.bind_some,zmu x (by have:=zal (f:=Th.sz) (he ▸ (by simp:x ∈ d ++ x :: t));omega),ne_eq,not_true_eq_false,decide_false,cond_false,BEq.rfl,bne_self_eq_false,Bool.true_xor,Bool.not_true]
theorem zop (a:Tg) (h:a.ok):SzOk (x_aw a) (a.sz):=SzOk.of (fun l=>rfl) (SzOk.seq (zfl a.fa (by exact h.2.2.1)) (SzOk.seq (zka a.fm (by exact ⟨h.2.2.2.1,h.2.2.2.2.1⟩)) (SzOk.seq (zk3 a.faa (by exact ⟨h.2.2.2.2.2.1,h.2.2.2.2.2.2.1⟩)) (SzOk.one (zfz a.fh (by exact h.2.2.2.2.2.2.2))))))
theorem zoz (a:Tg) (h:a.sz <= 1048576):x_by a=some a:=by
 simp only [Tg.sz] at h
 rw [x_by]
 simp only [zfd a.fa (by first | omega | (simp only [Tg.sz];omega)),zk4 a.fm (by first | omega | (simp only [Tg.sz];omega)),zjn a.faa (by first | omega | (simp only [Tg.sz];omega)),zg5 a.fh (by first | omega | (simp only [Tg.sz];omega)),Option.bind_some]
theorem znt (a:Tg) (h:a.sz <= 1048576):x_gd a a=some true:=by
 simp only [Tg.sz] at h
 rw [x_gd]
 simp only [zfk a.fa (by first | omega | (simp only [Tg.sz];omega)),zjy a.fm (by first | omega | (simp only [Tg.sz];omega)),zkg a.faa (by first | omega | (simp only [Tg.sz];omega)),zgd a.fh (by first | omega | (simp only [Tg.sz];omega)),Option.bind_some,ne_eq,not_true_eq_false,decide_false,cond_false,BEq.rfl,bne_self_eq_false,Bool.true_xor,Bool.not_true]
theorem zms (a:List Tg) (h:a.length <= 9223372036854775807/\∀ b ∈ a,b.ok):SzOk (x_ax a) (szL Tg.sz a):=SzOk.of (fun l=>rfl) (SzOk.list h.1 (fun x hx=>zop x (h.2 x hx)) (fun k x s=>rfl) (fun s=>rfl))
theorem zmq (a:List Tg) (h:szL Tg.sz a <= 1048576):x_bz a=some a:=by
 have hl:a.length <= 1048576:=by have:=zar (f:=Tg.sz) (xs:=a);omega
 rw [x_bz,if_pos ⟨by omega,by rw [za8];omega⟩]
 unfold x_bz_L1
 rw [if_pos (by omega),zfv (xs:=a)]
 ·rw [e_bz_L1];rfl
 ·intro d x t s he hd
  rw [b_bz_L1]
  obtain ⟨z,hz⟩:∃ z,s[d.length]? =some z:=⟨s[d.length],List.getElem?_eq_getElem hd⟩
  simp only [zoz x (by have:=zal (f:=Tg.sz) (he ▸ (by simp:x ∈ d ++ x :: t));omega),Option.bind_some,za8,List.length_map,Nat.sub_zero]
  rw [if_pos ⟨by omega,by omega⟩]
  simp only [hz,Option.bind_some,List.set_set,List.length_set,hd,zcc]
 ·simp
theorem zmw (a:List Tg) (h:szL Tg.sz a <= 1048576):x_ge a a=some true:=by
 have hl:a.length <= 1048576:=by have:=zar (f:=Tg.sz) (xs:=a);omega
 rw [x_ge]
 unfold x_ge_L1
 rw [if_pos (by omega),znc (xs:=a)]
 ·simp only [ne_eq,not_true_eq_false,decide_false,cond_false,e_ge_L1];rfl
 ·intro d x t he
  rw [b_ge_L1]
  simp only [za8,zbm he,Option.bind_some,znt x (by have:=zal (f:=Tg.sz) (he ▸ (by simp:x ∈ d ++ x :: t));omega),ne_eq,not_true_eq_false,decide_false,cond_false,BEq.rfl,bne_self_eq_false,Bool.true_xor,Bool.not_true]
theorem zn7 (a:Ti) (h:a.ok):SzOk (x_ay a) (a.sz):=SzOk.of (fun l=>rfl) (SzOk.seq (zfl a.fa (by exact h.2.2.2.1)) (SzOk.one (zfz a.fh (by exact h.2.2.2.2))))
theorem zml (a:Ti) (h:a.sz <= 1048576):x_ca a=some a:=by
 simp only [Ti.sz] at h
 rw [x_ca]
 simp only [zfd a.fa (by first | omega | (simp only [Ti.sz];omega)),zg5 a.fh (by first | omega | (simp only [Ti.sz];omega)),Option.bind_some]
theorem zmi (a:Ti) (h:a.sz <= 1048576):x_gf a a=some true:=by
 simp only [Ti.sz] at h
 rw [x_gf]
 simp only [zfk a.fa (by first | omega | (simp only [Ti.sz];omega)),zgd a.fh (by first | omega | (simp only [Ti.sz];omega)),Option.bind_some,ne_eq,not_true_eq_false,decide_false,cond_false,BEq.rfl,bne_self_eq_false,Bool.true_xor,Bool.not_true]
theorem zku (a:List Ti) (h:a.length <= 9223372036854775807/\∀ b ∈ a,b.ok):SzOk (x_az a) (szL Ti.sz a):=SzOk.of (fun l=>rfl) (SzOk.list h.1 (fun x hx=>zn7 x (h.2 x hx)) (fun k x s=>rfl) (fun s=>rfl))
theorem zl3 (a:List Ti) (h:szL Ti.sz a <= 1048576):x_cb a=some a:=by
 have hl:a.length <= 1048576:=by have:=zar (f:=Ti.sz) (xs:=a);omega
 rw [x_cb,if_pos ⟨by omega,by rw [za8];omega⟩]
 unfold x_cb_L1
 rw [if_pos (by omega),zfv (xs:=a)]
 ·rw [e_cb_L1];rfl
 ·intro d x t s he hd
  rw [b_cb_L1]
  obtain ⟨z,hz⟩:∃ z,s[d.length]? =some z:=⟨s[d.length],List.getElem?_eq_getElem hd⟩
  simp only [zml x (by have:=zal (f:=Ti.sz) (he ▸ (by simp:x ∈ d ++ x :: t));omega),Option.bind_some,za8,List.length_map,Nat.sub_zero]
  rw [if_pos ⟨by omega,by omega⟩]
  simp only [hz,Option.bind_some,List.set_set,List.length_set,hd,zcc]
 ·simp
theorem zl0 (a:List Ti) (h:szL Ti.sz a <= 1048576):x_gg a a=some true:=by
 have hl:a.length <= 1048576:=by have:=zar (f:=Ti.sz) (xs:=a);omega
 rw [x_gg]
 unfold x_gg_L1
 rw [if_pos (by omega),znc (xs:=a)]
 ·simp only [ne_eq,not_true_eq_false,decide_false,cond_false,e_gg_L1];rfl
 ·intro d x t he
  rw [b_gg_L1]
  simp only [za8,zbm he,Option.bind_some,zmi x (by have:=zal (f:=Ti.sz) (he ▸ (by simp:x ∈ d ++ x :: t));omega),ne_eq,not_true_eq_false,decide_false,cond_false,BEq.rfl,bne_self_eq_false,Bool.true_xor,Bool.not_true]
theorem zpd (a:Tp) (h:a.ok):SzOk (x_ba a) (a.sz):=SzOk.of (fun l=>rfl) (SzOk.seq (zn1 a.fF (by exact h.1)) (SzOk.seq (zp6 a.fba (by exact ⟨h.2.1,h.2.2.1⟩)) (SzOk.seq (zl1 a.faz (by exact ⟨h.2.2.2.1,h.2.2.2.2.1⟩)) (SzOk.seq (zms a.fbb (by exact ⟨h.2.2.2.2.2.1,h.2.2.2.2.2.2.1⟩)) (SzOk.one (zku a.fbc (by exact ⟨h.2.2.2.2.2.2.2.1,h.2.2.2.2.2.2.2.2⟩)))))))
theorem zo2 (a:Tp) (h:a.sz <= 1048576):x_cc a=some a:=by
 simp only [Tp.sz] at h
 rw [x_cc]
 simp only [zn0 a.fF (by first | omega | (simp only [Tp.sz];omega)),zo8 a.fba (by first | omega | (simp only [Tp.sz];omega)),zkw a.faz (by first | omega | (simp only [Tp.sz];omega)),zmq a.fbb (by first | omega | (simp only [Tp.sz];omega)),zl3 a.fbc (by first | omega | (simp only [Tp.sz];omega)),Option.bind_some]
theorem zps (a:Tp) (h:a.sz <= 1048576):x_gh a a=some true:=by
 simp only [Tp.sz] at h
 rw [x_gh]
 simp only [zmc a.fF (by first | omega | (simp only [Tp.sz];omega)),zp1 a.fba (by first | omega | (simp only [Tp.sz];omega)),zky a.faz (by first | omega | (simp only [Tp.sz];omega)),zmw a.fbb (by first | omega | (simp only [Tp.sz];omega)),zl0 a.fbc (by first | omega | (simp only [Tp.sz];omega)),Option.bind_some,ne_eq,not_true_eq_false,decide_false,cond_false,BEq.rfl,bne_self_eq_false,Bool.true_xor,Bool.not_true]
end Go.Pm
namespace Go.Pm
def p_di (v1:Int) (v2:Int) (v3:Int):Bool:=(bif decide (v2 <= v1) then decide (v1 <= v3) else false)
theorem zkl (v1:Int) (v2:Int) (v3:Int)  :x_di v1 v2 v3=some (p_di v1 v2 v3):=by
 rw [x_di];first | rfl | (simp only [Option.bind_some,zab];rfl)
def p_dj (v1:Int):Bool:=(let v2:=p_di v1 0 4294967295;v2)
theorem zwx (v1:Int)  :x_dj v1=some (p_dj v1):=by
 rw [x_dj];first | rfl | (simp only [zkl v1 0 4294967295,Option.bind_some,zab];rfl)
def p_dk (v1:Int) (v2:Int):Bool:=(let v3:=p_di v1 1 100;(bif v3 then(let v5:=p_di v2 0 5;v5) else false))
theorem zx5 (v1:Int) (v2:Int)  :x_dk v1 v2=some (p_dk v1 v2):=by
 rw [x_dk];first | rfl | (simp only [zkl v1 1 100,zkl v2 0 5,Option.bind_some,zab];rfl)
def p_dl (v1:Int):Bool:=(let v2:=p_di v1 1 247;v2)
theorem zw8 (v1:Int)  :x_dl v1=some (p_dl v1):=by
 rw [x_dl];first | rfl | (simp only [zkl v1 1 247,Option.bind_some,zab];rfl)
def p_dm (v1:Int):Bool:=(let v2:=p_di v1 0 65535;v2)
theorem zpy (v1:Int)  :x_dm v1=some (p_dm v1):=by
 rw [x_dm];first | rfl | (simp only [zkl v1 0 65535,Option.bind_some,zab];rfl)
def p_dn (v1:Int):Bool:=(let v2:=p_di v1 0 5;v2)
theorem zwt (v1:Int)  :x_dn v1=some (p_dn v1):=by
 rw [x_dn];first | rfl | (simp only [zkl v1 0 5,Option.bind_some,zab];rfl)
def p_du (v1:Int):Bool:=(let v2:=p_di v1 0 1000000000;v2)
theorem zw3 (v1:Int)  :x_du v1=some (p_du v1):=by
 rw [x_du];first | rfl | (simp only [zkl v1 0 1000000000,Option.bind_some,zab];rfl)
def p_do (v1:Td):Bool:=(let v2:=p_dl v1.fg;(bif !v2 then false else(let v4:=p_di v1.fau 0 3;(bif !v4 then false else(let v6:=p_dm v1.faj;(bif !v6 then false else(let v8:=p_dm v1.fak;(bif !v8 then false else(bif decide (v1.fak < v1.faj) then false else(let v11:=p_dn v1.fw;(bif !v11 then false else(let v13:=p_dl v1.fay;(bif !v13 then false else(let v15:=p_di v1.faq (-65535) 65535;(bif v15 then(let v17:=p_dm (IntKind.i64.wrap (v1.faj + v1.faq));(bif v17 then(let v19:=p_dm (IntKind.i64.wrap (v1.fak + v1.faq));v19) else false)) else false)))))))))))))))
theorem ycl (v1:Td)  :x_do v1=some (p_do v1):=by
 rw [x_do];first | rfl | (simp only [zw8 v1.fg,zkl v1.fau 0 3,zpy v1.faj,zpy v1.fak,zwt v1.fw,zw8 v1.fay,zkl v1.faq (-65535) 65535,zpy (IntKind.i64.wrap (v1.faj + v1.faq)),zpy (IntKind.i64.wrap (v1.fak + v1.faq)),Option.bind_some,zab];rfl)
def p_dp (v1:Td) (v2:Td):Bool:=(bif decide (v1.fg=v2.fg) then(bif decide (v1.fau=v2.fau) then(bif decide (v1.faj <= v2.fak) then decide (v2.faj <= v1.fak) else false) else false) else false)
theorem zwm (v1:Td) (v2:Td)  :x_dp v1 v2=some (p_dp v1 v2):=by
 rw [x_dp];first | rfl | (simp only [Option.bind_some,zab];rfl)
def p_dv (v1:Int):Tl × Tl × Tl:=(bif decide (v1=1) then((⟨1,2000⟩:Tl),(⟨0,0⟩:Tl),(⟨0,0⟩:Tl)) else(bif decide (v1=2) then((⟨1,2000⟩:Tl),(⟨0,0⟩:Tl),(⟨0,0⟩:Tl)) else(bif decide (v1=3) then((⟨1,125⟩:Tl),(⟨0,0⟩:Tl),(⟨0,0⟩:Tl)) else(bif decide (v1=4) then((⟨1,125⟩:Tl),(⟨0,0⟩:Tl),(⟨0,0⟩:Tl)) else(bif decide (v1=5) then((⟨0,0⟩:Tl),(⟨0,0⟩:Tl),(⟨1,1⟩:Tl)) else(bif decide (v1=6) then((⟨0,0⟩:Tl),(⟨1,1⟩:Tl),(⟨0,0⟩:Tl)) else(bif decide (v1=15) then((⟨0,0⟩:Tl),(⟨0,0⟩:Tl),(⟨1,1968⟩:Tl)) else(bif decide (v1=16) then((⟨0,0⟩:Tl),(⟨1,123⟩:Tl),(⟨0,0⟩:Tl)) else(bif decide (v1=22) then((⟨0,0⟩:Tl),(⟨2,2⟩:Tl),(⟨0,0⟩:Tl)) else((⟨1,125⟩:Tl),(⟨1,121⟩:Tl),(⟨0,0⟩:Tl)))))))))))
theorem yks (v1:Int)  :x_dv v1=some (p_dv v1):=by
 rw [x_dv];first | rfl | (simp only [Option.bind_some,zab];rfl)
def p_dw (v1:Int):Bool:=(let v2:=p_di v1 1 6;(bif v2 then true else(bif decide (v1=15) then true else(bif decide (v1=16) then true else(bif decide (v1=22) then true else decide (v1=23))))))
theorem zws (v1:Int)  :x_dw v1=some (p_dw v1):=by
 rw [x_dw];first | rfl | (simp only [zkl v1 1 6,Option.bind_some,zab];rfl)
def p_eb (v1:Tj):Int:=(bif decide (v1.fd=22) then 1 else IntKind.i64.wrap (((v1.fb.length:Nat):Int) + ((v1.fc.length:Nat):Int)))
theorem zwe (v1:Tj) (hv1:v1.sz <= 1048576):x_eb v1=some (p_eb v1):=by
 rw [x_eb];first | rfl | (simp only [Option.bind_some,zab];rfl)
def p_eg (v1:Te):Bool:=(let v2:=p_di v1.fae 1 255;(bif v2 then(bif decide (v1.fe=0) then(bif decide (v1.fN=0) then(bif decide (((v1.fb.length:Nat):Int)=0) then decide (((v1.fc.length:Nat):Int)=0) else false) else false) else false) else false))
theorem yky (v1:Te) (hv1:v1.sz <= 1048576):x_eg v1=some (p_eg v1):=by
 rw [x_eg];first | rfl | (simp only [zkl v1.fae 1 255,Option.bind_some,zab];rfl)
def p_eh (v1:Int):Tl × Tl × Int × Bool:=(bif decide (v1=1) then((⟨0,0⟩:Tl),(⟨1,2000⟩:Tl),0,false) else(bif decide (v1=2) then((⟨0,0⟩:Tl),(⟨1,2000⟩:Tl),0,false) else(bif decide (v1=3) then((⟨1,125⟩:Tl),(⟨0,0⟩:Tl),0,false) else(bif decide (v1=4) then((⟨1,125⟩:Tl),(⟨0,0⟩:Tl),0,false) else(bif decide (v1=23) then((⟨1,125⟩:Tl),(⟨0,0⟩:Tl),0,false) else(bif decide (v1=5) then((⟨0,0⟩:Tl),(⟨1,1⟩:Tl),0,true) else(bif decide (v1=6) then((⟨1,1⟩:Tl),(⟨0,0⟩:Tl),0,true) else(bif decide (v1=15) then((⟨0,0⟩:Tl),(⟨0,0⟩:Tl),1968,true) else(bif decide (v1=16) then((⟨0,0⟩:Tl),(⟨0,0⟩:Tl),123,true) else((⟨2,2⟩:Tl),(⟨0,0⟩:Tl),0,true))))))))))
theorem yd8 (v1:Int)  :x_eh v1=some (p_eh v1):=by
 rw [x_eh];first | rfl | (simp only [Option.bind_some,zab];rfl)
def p_dz (v1:Int):Bool:=(let v2:=p_dm v1;!v2)
theorem zxc (v1:Int)  :x_dz v1=some (p_dz v1):=by
 rw [x_dz];first | rfl | (simp only [zpy v1,Option.bind_some,zab];rfl)
def p_cd (v1:Int) (v2:Int) (v3:Int):Bool:=(bif decide (v2 <= v1) then decide (v1 <= v3) else false)
theorem yar (v1:Int) (v2:Int) (v3:Int)  :x_cd v1 v2 v3=some (p_cd v1 v2 v3):=by
 rw [x_cd];first | rfl | (simp only [Option.bind_some,zab];rfl)
theorem yl3 (v1:Int) (v2:Int) (v3:Int)  :p_cd v1 v2 v3=p_di v1 v2 v3:=by
 rfl
theorem zdi (v1:Int) (v2:Int) (v3:Int)  :x_cd v1 v2 v3=some (p_di v1 v2 v3):=by rw [yar v1 v2 v3 ,yl3 v1 v2 v3 ]
def p_ce (v1:Int):Bool:=(let v2:=p_di v1 0 4294967295;v2)
theorem yea (v1:Int)  :x_ce v1=some (p_ce v1):=by
 rw [x_ce];first | rfl | (simp only [zdi v1 0 4294967295,Option.bind_some,zab];rfl)
def p_cn (v1:Int):Bool:=(let v2:=p_di v1 1 6;(bif v2 then true else(bif decide (v1=15) then true else(bif decide (v1=16) then true else(bif decide (v1=22) then true else decide (v1=23))))))
theorem ygt (v1:Int)  :x_cn v1=some (p_cn v1):=by
 rw [x_cn];first | rfl | (simp only [zdi v1 1 6,Option.bind_some,zab];rfl)
def p_ck (v1:Int) (v2:Int):Bool:=(let v3:=p_di v1 0 65535;(bif v3 then decide ((IntKind.i64.wrap (v1 + v2)) <= 65536) else false))
theorem zvx (v1:Int) (v2:Int)  :x_ck v1 v2=some (p_ck v1 v2):=by
 rw [x_ck];first | rfl | (simp only [zdi v1 0 65535,Option.bind_some,zab];rfl)
def p_cj (v1:Tj) (v2:Bool) (v3:Bool) (v4:Bool) (v5:Bool):Bool:=(bif v2 then(bif v3 then(bif v4 then(bif v5 then true else decide (v1.fi=0)) else(bif decide (((v1.fc.length:Nat):Int)=0) then(bif v5 then true else decide (v1.fi=0)) else false)) else(bif decide (((v1.fb.length:Nat):Int)=0) then(bif v4 then(bif v5 then true else decide (v1.fi=0)) else(bif decide (((v1.fc.length:Nat):Int)=0) then(bif v5 then true else decide (v1.fi=0)) else false)) else false)) else(bif decide (v1.fN=0) then(bif v3 then(bif v4 then(bif v5 then true else decide (v1.fi=0)) else(bif decide (((v1.fc.length:Nat):Int)=0) then(bif v5 then true else decide (v1.fi=0)) else false)) else(bif decide (((v1.fb.length:Nat):Int)=0) then(bif v4 then(bif v5 then true else decide (v1.fi=0)) else(bif decide (((v1.fc.length:Nat):Int)=0) then(bif v5 then true else decide (v1.fi=0)) else false)) else false)) else false))
theorem zw5 (v1:Tj) (v2:Bool) (v3:Bool) (v4:Bool) (v5:Bool) (hv1:v1.sz <= 1048576):x_cj v1 v2 v3 v4 v5=some (p_cj v1 v2 v3 v4 v5):=by
 rw [x_cj];first | rfl | (simp only [Option.bind_some,zab];rfl)
def p_co (v1:Te) (v2:Bool) (v3:Bool) (v4:Bool) (v5:Bool):Bool:=(bif v2 then(bif v3 then(bif v4 then(bif v5 then true else decide (((v1.fc.length:Nat):Int)=0)) else(bif decide (((v1.fb.length:Nat):Int)=0) then(bif v5 then true else decide (((v1.fc.length:Nat):Int)=0)) else false)) else(bif decide (v1.fN=0) then(bif v4 then(bif v5 then true else decide (((v1.fc.length:Nat):Int)=0)) else(bif decide (((v1.fb.length:Nat):Int)=0) then(bif v5 then true else decide (((v1.fc.length:Nat):Int)=0)) else false)) else false)) else(bif decide (v1.fe=0) then(bif v3 then(bif v4 then(bif v5 then true else decide (((v1.fc.length:Nat):Int)=0)) else(bif decide (((v1.fb.length:Nat):Int)=0) then(bif v5 then true else decide (((v1.fc.length:Nat):Int)=0)) else false)) else(bif decide (v1.fN=0) then(bif v4 then(bif v5 then true else decide (((v1.fc.length:Nat):Int)=0)) else(bif decide (((v1.fb.length:Nat):Int)=0) then(bif v5 then true else decide (((v1.fc.length:Nat):Int)=0)) else false)) else false)) else false))
theorem zuy (v1:Te) (v2:Bool) (v3:Bool) (v4:Bool) (v5:Bool) (hv1:v1.sz <= 1048576):x_co v1 v2 v3 v4 v5=some (p_co v1 v2 v3 v4 v5):=by
 rw [x_co];first | rfl | (simp only [Option.bind_some,zab];rfl)
def p_cf (v1:Td):Bool:=(let v2:=p_di v1.fg 1 247;(bif v2 then(let v4:=p_di v1.fau 0 3;(bif v4 then(let v6:=p_di v1.faj 0 65535;(bif v6 then(let v8:=p_di v1.fak v1.faj 65535;(bif v8 then(let v10:=p_di v1.fw 0 5;(bif v10 then(let v12:=p_di v1.fay 1 247;(bif v12 then(let v14:=p_di v1.faq (-65535) 65535;(bif v14 then(let v16:=p_di (IntKind.i64.wrap (v1.faj + v1.faq)) 0 65535;(bif v16 then(let v18:=p_di (IntKind.i64.wrap (v1.fak + v1.faq)) 0 65535;v18) else false)) else false)) else false)) else false)) else false)) else false)) else false)) else false))
theorem yey (v1:Td)  :x_cf v1=some (p_cf v1):=by
 rw [x_cf];first | rfl | (simp only [zdi v1.fg 1 247,zdi v1.fau 0 3,zdi v1.faj 0 65535,zdi v1.fak v1.faj 65535,zdi v1.fw 0 5,zdi v1.fay 1 247,zdi v1.faq (-65535) 65535,zdi (IntKind.i64.wrap (v1.faj + v1.faq)) 0 65535,zdi (IntKind.i64.wrap (v1.fak + v1.faq)) 0 65535,Option.bind_some,zab];rfl)
theorem zy7 (v1:Int)  :p_ce v1=p_dj v1:=by
 rfl
theorem zx9 (v1:Int)  :x_ce v1=some (p_dj v1):=by rw [yea v1 ,zy7 v1 ]
theorem zyw (v1:Int)  :p_cn v1=p_dw v1:=by
 rfl
theorem zz5 (v1:Int)  :x_cn v1=some (p_dw v1):=by rw [ygt v1 ,zyw v1 ]
def p_dq (v1:List Td) (v2:Td):Int:=idx0 (fun (x:Td)=>p_dp x v2) v1 0
theorem ye5 (v1:List Td) (v2:Td) (hv1:v1.length <= 1048576):x_dq v1 v2=some (p_dq v1 v2):=by
 have hlen:v1.length <= 9223372036854775806:=by have hq:v1.length <= v1.length:=Nat.le_refl _;omega
 rw [x_dq];unfold x_dq_L1 p_dq
 exact zv0 (fun (x:Td)=>p_dp x v2) hlen rfl (fun d x t he=>by rw [b_dq_L1];first | rfl | (simp only [zwm x v2,Option.bind_some];done) | (simp only [zwm x v2,Option.bind_some];rfl) | done)
def p_dx (v1:List Int):Int:=idx0 (fun (x:Int)=>p_dz x) v1 0
theorem ydo (v1:List Int) (hv1:v1.length <= 1048576):x_dx v1=some (p_dx v1):=by
 have hlen:v1.length <= 9223372036854775806:=by have hq:v1.length <= v1.length:=Nat.le_refl _;omega
 rw [x_dx];unfold x_dx_L1 p_dx
 exact zv0 (fun (x:Int)=>p_dz x) hlen rfl (fun d x t he=>by rw [b_dx_L1];first | rfl | (simp only [zxc x,Option.bind_some];done) | (simp only [zxc x,Option.bind_some];rfl) | done)
def p_ed (v1:List Bool) (v2:Bool):Int:=idx0 (fun (x:Bool)=>(false ^^ (v2 == x))) v1 0
theorem yct (v1:List Bool) (v2:Bool) (hv1:v1.length <= 1048576):x_ed v1 v2=some (p_ed v1 v2):=by
 have hlen:v1.length <= 9223372036854775806:=by have hq:v1.length <= v1.length:=Nat.le_refl _;omega
 rw [x_ed];unfold x_ed_L1 p_ed
 exact zv0 (fun (x:Bool)=>(false ^^ (v2 == x))) hlen rfl (fun d x t he=>by rw [b_ed_L1];first | rfl | (simp only [Option.bind_some];done) | (simp only [Option.bind_some];rfl) | done)
def p_dr (v1:List Td) (v2:Td):Bool:=(let v3:=p_dq v1 v2;decide (0 <= v3))
theorem yg3 (v1:List Td) (v2:Td) (hv1:v1.length <= 1048576):x_dr v1 v2=some (p_dr v1 v2):=by
 rw [x_dr];first | rfl | (simp only [ye5 v1 v2 hv1,Option.bind_some,zab];rfl)
def p_dy (v1:List Int):Bool:=(let v2:=p_dx v1;decide (0 <= v2))
theorem zzi (v1:List Int) (hv1:v1.length <= 1048576):x_dy v1=some (p_dy v1):=by
 rw [x_dy];first | rfl | (simp only [ydo v1 hv1,Option.bind_some,zab];rfl)
def p_ee (v1:List Bool) (v2:Bool):Bool:=(let v3:=p_ed v1 v2;decide (0 <= v3))
theorem zxk (v1:List Bool) (v2:Bool) (hv1:v1.length <= 1048576):x_ee v1 v2=some (p_ee v1 v2):=by
 rw [x_ee];first | rfl | (simp only [yct v1 v2 hv1,Option.bind_some,zab];rfl)
def p_ea (v1:List Int):Bool:=(let v2:=p_dy v1;!v2)
theorem ym0 (v1:List Int) (hv1:v1.length <= 1048576):x_ea v1=some (p_ea v1):=by
 rw [x_ea];first | rfl | (simp only [zzi v1 hv1,Option.bind_some,zab];rfl)
def wordsB (l:List Int):Bool:=l.all fun n=>decide (0 <= n) && decide (n <= 65535)
theorem zkr (l:List Int):p_ea l=wordsB l:=by
 unfold p_ea p_dy p_dx wordsB
 simp only [zgt,List.all_eq_not_any_not]
 congr 2;funext n
 unfold p_dz p_dm p_di
 by_cases h:0 <= n <;> simp [h]
theorem zx8 (v1:List Int) (hv1:v1.length <= 1048576):x_ea v1=some (wordsB v1):=by rw [ym0 v1 hv1,zkr]
theorem zxe (v1:List Int) (hv1:v1.length <= 1048576):x_ci v1=some (wordsB v1):=by
 rw [x_ci];unfold x_ci_L1
 rw [zq6 (fun _ n=> !(decide (0 <= n) && decide (n <= 65535))) (by omega) rfl (fun d x t he=>⟨((d.length:Nat):Int),by
  rw [b_ci_L1];simp only [zdi,Option.bind_some,p_di]
  by_cases h:0 <= x <;> by_cases h':x <= 65535 <;> simp [h,h']⟩)]
 rw [zch]
 unfold wordsB
 rw [List.all_eq_not_any_not]
 cases v1.any fun n=> !(decide (0 <= n) && decide (n <= 65535)) <;> simp
def p_ec (v1:Tj):Bool:=(let v2:=p_dv v1.fd;(let v3:=p_dw v1.fd;(bif !v3 then false else(let v5:=p_di v1.fN v2.1.f0 v2.1.f1;(bif !v5 then false else(let v7:=p_di ((v1.fb.length:Nat):Int) v2.2.1.f0 v2.2.1.f1;(bif !v7 then false else(let v9:=p_di ((v1.fc.length:Nat):Int) v2.2.2.f0 v2.2.2.f1;(bif !v9 then false else(let v11:=p_dm v1.fe;(bif !v11 then false else(let v13:=p_dm v1.fi;(bif !v13 then false else(let v15:=wordsB v1.fb;(bif !v15 then false else(bif decide (65536 < (IntKind.i64.wrap (v1.fe + v1.fN))) then false else(bif decide (v1.fd=23) then(let v19:=p_eb v1;decide ((IntKind.i64.wrap (v1.fi + v19)) <= 65536)) else(bif decide (v1.fi=0) then(let v21:=p_eb v1;decide ((IntKind.i64.wrap (v1.fe + v21)) <= 65536)) else false))))))))))))))))))
theorem zvv (v1:Tj) (hv1:v1.sz <= 1048576):x_ec v1=some (p_ec v1):=by
 rw [x_ec];first | rfl | (simp only [yks v1.fd,zws v1.fd,zpy v1.fe,zpy v1.fi,zx8 v1.fb (by simp only [Tj.sz] at hv1;omega),zwe v1 hv1,zkl,Option.bind_some,zab];rfl)
def p_cl (v1:Tj):Bool:=(let v2:=wordsB v1.fb;(bif !v2 then false else(let v4:=p_di v1.fe 0 65535;(bif !v4 then false else(bif decide (v1.fd=1) then(let v7:=p_cj v1 true false false false;(bif v7 then(let v9:=p_di v1.fN 1 2000;(bif v9 then(let v11:=p_ck v1.fe v1.fN;v11) else false)) else false)) else(bif decide (v1.fd=2) then(let v13:=p_cj v1 true false false false;(bif v13 then(let v15:=p_di v1.fN 1 2000;(bif v15 then(let v17:=p_ck v1.fe v1.fN;v17) else false)) else false)) else(bif decide (v1.fd=3) then(let v19:=p_cj v1 true false false false;(bif v19 then(let v21:=p_di v1.fN 1 125;(bif v21 then(let v23:=p_ck v1.fe v1.fN;v23) else false)) else false)) else(bif decide (v1.fd=4) then(let v25:=p_cj v1 true false false false;(bif v25 then(let v27:=p_di v1.fN 1 125;(bif v27 then(let v29:=p_ck v1.fe v1.fN;v29) else false)) else false)) else(bif decide (v1.fd=5) then(let v31:=p_cj v1 false false true false;(bif v31 then decide (((v1.fc.length:Nat):Int)=1) else false)) else(bif decide (v1.fd=6) then(let v34:=p_cj v1 false true false false;(bif v34 then decide (((v1.fb.length:Nat):Int)=1) else false)) else(bif decide (v1.fd=15) then(let v37:=p_cj v1 false false true false;(bif v37 then(let v39:=p_di ((v1.fc.length:Nat):Int) 1 1968;(bif v39 then(let v41:=p_ck v1.fe ((v1.fc.length:Nat):Int);v41) else false)) else false)) else(bif decide (v1.fd=16) then(let v43:=p_cj v1 false true false false;(bif v43 then(let v45:=p_di ((v1.fb.length:Nat):Int) 1 123;(bif v45 then(let v47:=p_ck v1.fe ((v1.fb.length:Nat):Int);v47) else false)) else false)) else(bif decide (v1.fd=22) then(let v49:=p_cj v1 false true false false;(bif v49 then decide (((v1.fb.length:Nat):Int)=2) else false)) else(bif decide (v1.fd=23) then(let v52:=p_cj v1 true true false true;(bif v52 then(let v54:=p_di v1.fN 1 125;(bif v54 then(let v56:=p_ck v1.fe v1.fN;(bif v56 then(let v58:=p_di ((v1.fb.length:Nat):Int) 1 121;(bif v58 then(let v60:=p_ck v1.fi ((v1.fb.length:Nat):Int);v60) else false)) else false)) else false)) else false)) else false))))))))))))))
theorem zz2 (v1:Tj) (hv1:v1.sz <= 1048576):x_cl v1=some (p_cl v1):=by
 rw [x_cl];first | rfl | (simp only [zxe v1.fb (by simp only [Tj.sz] at hv1;omega),zdi v1.fe 0 65535,zw5 v1 true false false false hv1,zdi v1.fN 1 2000,zvx v1.fe v1.fN,zdi v1.fN 1 125,zw5 v1 false false true false hv1,zw5 v1 false true false false hv1,zdi ((v1.fc.length:Nat):Int) 1 1968,zvx v1.fe ((v1.fc.length:Nat):Int),zdi ((v1.fb.length:Nat):Int) 1 123,zvx v1.fe ((v1.fb.length:Nat):Int),zw5 v1 true true false true hv1,zdi ((v1.fb.length:Nat):Int) 1 121,zvx v1.fi ((v1.fb.length:Nat):Int),Option.bind_some,zab];rfl)
theorem yht (v1:Tj) (hv1:v1.sz <= 1048576):p_cl v1=p_ec v1:=by
 simp only [Tj.sz] at hv1
 have e1:=zfw (v1.fe + v1.fN)
 have e2:=zfw (v1.fi + v1.fN)
 have e3:=zfw (v1.fe + (v1.fc.length:Int))
 have e4:=zfw (v1.fe + (v1.fb.length:Int))
 have e5:=zfw (v1.fi + (v1.fb.length:Int))
 have e6:=zfw ((v1.fb.length:Int) + (v1.fc.length:Int))
 have e7:=zfw (v1.fe + IntKind.i64.wrap ((v1.fb.length:Int) + (v1.fc.length:Int)))
 have e8:=zfw (v1.fi + IntKind.i64.wrap ((v1.fb.length:Int) + (v1.fc.length:Int)))
 have e9:=zfw (v1.fe + 1)
 have e10:=zfw (v1.fi + 1)
 have g1:(0:Int) <= v1.fb.length:=by omega
 have g2:(0:Int) <= v1.fc.length:=by omega
 have g3:(v1.fb.length:Int) + v1.fc.length <= 1048576:=by omega
 clear hv1
 rw [Bool.eq_iff_iff]
 cases hw:wordsB v1.fb
 ·simp [p_cl,p_ec,hw]
 simp only [p_cl,p_ec,hw,p_dw,p_dv,p_eb,p_dm,p_di,p_cj,p_ck]
 by_cases k1:v1.fd=1
 ·simp [k1,-List.length_eq_zero_iff];omega
 by_cases k2:v1.fd=2
 ·simp [k2,-List.length_eq_zero_iff];omega
 by_cases k3:v1.fd=3
 ·simp [k3,-List.length_eq_zero_iff];omega
 by_cases k4:v1.fd=4
 ·simp [k4,-List.length_eq_zero_iff];omega
 by_cases k5:v1.fd=5
 ·simp [k5,-List.length_eq_zero_iff];omega
 by_cases k6:v1.fd=6
 ·simp [k6,-List.length_eq_zero_iff];omega
 by_cases k15:v1.fd=15
 ·simp [k15,-List.length_eq_zero_iff];omega
 by_cases k16:v1.fd=16
 ·simp [k16,-List.length_eq_zero_iff];omega
 by_cases k22:v1.fd=22
 ·simp [k22,-List.length_eq_zero_iff];omega
 by_cases k23:v1.fd=23
 ·simp [k23,-List.length_eq_zero_iff];omega
 simp [k1,k2,k3,k4,k5,k6,k15,k16,k22,k23,-List.length_eq_zero_iff];try omega
theorem zvw (v1:Tj) (hv1:v1.sz <= 1048576):x_cl v1=some (p_ec v1):=by rw [zz2 v1 hv1,yht v1 hv1]
def p_ei (v1:Te):Bool:=(let v2:=p_dw v1.fd;(bif !v2 then false else(bif decide (v1.fae ≠ 0) then(let v5:=p_eg v1;v5) else(let v6:=p_eh v1.fd;(let v7:=p_di ((v1.fb.length:Nat):Int) v6.1.f0 v6.1.f1;(bif !v7 then false else(let v9:=p_di ((v1.fc.length:Nat):Int) v6.2.1.f0 v6.2.1.f1;(bif !v9 then false else(let v11:=wordsB v1.fb;(bif !v11 then false else(bif decide (1 < v6.2.1.f1) then(bif decide ((((v1.fc.length:Nat):Int).tmod 8) ≠ 0) then false else(bif decide (v6.2.2.1=0) then(bif decide (v1.fN ≠ 0) then false else(bif decide (0 < v6.2.2.1) then(let v18:=p_di v1.fN 1 v6.2.2.1;(bif !v18 then false else(bif v6.2.2.2 then(let v21:=p_dm v1.fe;(bif v21 then true else decide (v1.fe=0))) else decide (v1.fe=0)))) else(bif v6.2.2.2 then(let v24:=p_dm v1.fe;(bif v24 then true else decide (v1.fe=0))) else decide (v1.fe=0)))) else(bif decide (0 < v6.2.2.1) then(let v27:=p_di v1.fN 1 v6.2.2.1;(bif !v27 then false else(bif v6.2.2.2 then(let v30:=p_dm v1.fe;(bif v30 then true else decide (v1.fe=0))) else decide (v1.fe=0)))) else(bif v6.2.2.2 then(let v33:=p_dm v1.fe;(bif v33 then true else decide (v1.fe=0))) else decide (v1.fe=0))))) else(bif decide (v6.2.2.1=0) then(bif decide (v1.fN ≠ 0) then false else(bif decide (0 < v6.2.2.1) then(let v38:=p_di v1.fN 1 v6.2.2.1;(bif !v38 then false else(bif v6.2.2.2 then(let v41:=p_dm v1.fe;(bif v41 then true else decide (v1.fe=0))) else decide (v1.fe=0)))) else(bif v6.2.2.2 then(let v44:=p_dm v1.fe;(bif v44 then true else decide (v1.fe=0))) else decide (v1.fe=0)))) else(bif decide (0 < v6.2.2.1) then(let v47:=p_di v1.fN 1 v6.2.2.1;(bif !v47 then false else(bif v6.2.2.2 then(let v50:=p_dm v1.fe;(bif v50 then true else decide (v1.fe=0))) else decide (v1.fe=0)))) else(bif v6.2.2.2 then(let v53:=p_dm v1.fe;(bif v53 then true else decide (v1.fe=0))) else decide (v1.fe=0)))))))))))))))
theorem yac (v1:Te) (hv1:v1.sz <= 1048576):x_ei v1=some (p_ei v1):=by
 rw [x_ei];first | rfl | (simp only [zws v1.fd,yky v1 hv1,yd8 v1.fd,zx8 v1.fb (by simp only [Te.sz] at hv1;omega),zpy v1.fe,zkl,Option.bind_some,zab];rfl)
def p_cp (v1:Te):Bool:=(let v2:=p_dw v1.fd;(bif !v2 then false else(let v4:=p_di v1.fae 0 255;(bif !v4 then false else(let v6:=wordsB v1.fb;(bif !v6 then false else(let v8:=p_di v1.fe 0 65535;(bif !v8 then false else(bif decide (0 < v1.fae) then(let v11:=p_co v1 false false false false;v11) else(bif decide (v1.fd=1) then(let v13:=p_co v1 false false false true;(bif v13 then(let v15:=p_di ((v1.fc.length:Nat):Int) 1 2000;(bif v15 then decide ((((v1.fc.length:Nat):Int).tmod 8)=0) else false)) else false)) else(bif decide (v1.fd=2) then(let v18:=p_co v1 false false false true;(bif v18 then(let v20:=p_di ((v1.fc.length:Nat):Int) 1 2000;(bif v20 then decide ((((v1.fc.length:Nat):Int).tmod 8)=0) else false)) else false)) else(bif decide (v1.fd=3) then(let v23:=p_co v1 false false true false;(bif v23 then(let v25:=p_di ((v1.fb.length:Nat):Int) 1 125;v25) else false)) else(bif decide (v1.fd=4) then(let v27:=p_co v1 false false true false;(bif v27 then(let v29:=p_di ((v1.fb.length:Nat):Int) 1 125;v29) else false)) else(bif decide (v1.fd=23) then(let v31:=p_co v1 false false true false;(bif v31 then(let v33:=p_di ((v1.fb.length:Nat):Int) 1 125;v33) else false)) else(bif decide (v1.fd=5) then(let v35:=p_co v1 true false false true;(bif v35 then decide (((v1.fc.length:Nat):Int)=1) else false)) else(bif decide (v1.fd=6) then(let v38:=p_co v1 true false true false;(bif v38 then decide (((v1.fb.length:Nat):Int)=1) else false)) else(bif decide (v1.fd=22) then(let v41:=p_co v1 true false true false;(bif v41 then decide (((v1.fb.length:Nat):Int)=2) else false)) else(bif decide (v1.fd=15) then(let v44:=p_co v1 true true false false;(bif v44 then(let v46:=p_di v1.fN 1 1968;v46) else false)) else(let v47:=p_co v1 true true false false;(bif v47 then(let v49:=p_di v1.fN 1 123;v49) else false))))))))))))))))))))
theorem yii (v1:Te) (hv1:v1.sz <= 1048576):x_cp v1=some (p_cp v1):=by
 rw [x_cp];first | rfl | (simp only [zz5 v1.fd,zdi v1.fae 0 255,zxe v1.fb (by simp only [Te.sz] at hv1;omega),zdi v1.fe 0 65535,zuy v1 false false false false hv1,zuy v1 false false false true hv1,zdi ((v1.fc.length:Nat):Int) 1 2000,zuy v1 false false true false hv1,zdi ((v1.fb.length:Nat):Int) 1 125,zuy v1 true false false true hv1,zuy v1 true false true false hv1,zuy v1 true true false false hv1,zdi v1.fN 1 1968,zdi v1.fN 1 123,Option.bind_some,zab];rfl)
theorem yeq (v1:Te) (hv1:v1.sz <= 1048576):p_cp v1=p_ei v1:=by
 simp only [Te.sz] at hv1
 rw [Bool.eq_iff_iff]
 cases hw:wordsB v1.fb
 ·by_cases hf:v1.fae=0
  ·simp [p_cp,p_ei,hw,hf]
  ·simp [p_cp,p_ei,hw,hf,p_eg,p_dw,p_di,-List.length_eq_zero_iff]
   intro _ _ _ _ _ h
   have:v1.fb=[]:=List.eq_nil_of_length_eq_zero (by omega)
   rw [this] at hw;cases hw
 by_cases hf:v1.fae=0
 ·simp only [p_cp,p_ei,hw,p_dw,p_eh,p_dm,p_di,p_co,hf,p_eg]
  by_cases k1:v1.fd=1
  ·simp [k1,-List.length_eq_zero_iff];omega
  by_cases k2:v1.fd=2
  ·simp [k2,-List.length_eq_zero_iff];omega
  by_cases k3:v1.fd=3
  ·simp [k3,-List.length_eq_zero_iff];omega
  by_cases k4:v1.fd=4
  ·simp [k4,-List.length_eq_zero_iff];omega
  by_cases k23:v1.fd=23
  ·simp [k23,-List.length_eq_zero_iff];omega
  by_cases k5:v1.fd=5
  ·simp [k5,-List.length_eq_zero_iff];omega
  by_cases k6:v1.fd=6
  ·simp [k6,-List.length_eq_zero_iff];omega
  by_cases k15:v1.fd=15
  ·simp [k15,-List.length_eq_zero_iff];omega
  by_cases k16:v1.fd=16
  ·simp [k16,-List.length_eq_zero_iff];omega
  by_cases k22:v1.fd=22
  ·simp [k22,-List.length_eq_zero_iff];omega
  simp [k1,k2,k3,k4,k5,k6,k15,k16,k22,k23,-List.length_eq_zero_iff];try omega
 ·simp only [p_cp,p_ei,hw,p_dw,p_di,p_co,p_eg]
  by_cases hp:0 < v1.fae
  ·simp [hf,hp,-List.length_eq_zero_iff];omega
  ·have h0:¬ 0 <= v1.fae:=by omega
   have h1:¬ 1 <= v1.fae:=by omega
   simp [hf,h0,h1]
theorem zza (v1:Te) (hv1:v1.sz <= 1048576):x_cp v1=some (p_ei v1):=by rw [yii v1 hv1,yeq v1 hv1]
def bytes8 (n:Int):Int:=IntKind.i64.wrap ((IntKind.i64.wrap ((IntKind.i64.wrap (n + 7)).tdiv 8)) * 8)
theorem zji {n:Int} (h1:1 <= n) (h2:n <= 2000):n <= bytes8 n/\bytes8 n <= 2007:=by
 unfold bytes8
 rw [zbk (n:=n + 7) (by omega) (by omega),Int.tdiv_eq_ediv_of_nonneg (by omega),zbk (n:=(n + 7) / 8) (by omega) (by omega),zbk (by omega) (by omega)]
 omega
def bitsB (n:Int) (bs:List Bool):Bool:=bif decide (((bs.length:Nat):Int)=bytes8 n) then !((bs.drop n.toNat).any id) else false
theorem zxs (v1:Int) (v2:List Bool) (h:v2.length <= 1048576) (h1:1 <= v1) (h2:v1 <= 2000):x_ej v1 v2=some (bitsB v1 v2):=by
 rw [x_ej]
 show (bif decide (((v2.length:Nat):Int)=bytes8 v1) then _ else _)=_
 have hb:=zji h1 h2
 unfold bitsB
 by_cases he:((v2.length:Nat):Int)=bytes8 v1
 ·simp only [he,decide_true,cond_true]
  rw [if_pos (by simp only [List.length_map];omega)]
  have hd:(v2.take ((((v2.map V.bool).length:Nat):Int).toNat)).drop (v1:Int).toNat=v2.drop v1.toNat:=by
   rw [za8,List.length_map,List.take_length]
  rw [hd,zxk _ _ (by simp;omega)]
  show some (!decide (0 <= idx0 _ _ 0))=some (!((v2.drop v1.toNat).any id))
  rw [zgt]
  congr 3;funext x;cases x <;> rfl
 ·simp [he]
theorem zum {body:Int->Option (Int ⊕ (Int ⊕ Int))} {bs:List Bool} (hl:bs.length <= 1048576) (hb:∀ s:Int,body s=(bif decide (s < ((bs.length:Nat):Int)) then(if 0 <= s then((bs[s.toNat]?).bind fun v=>(bif v then(some (.inr (.inl s))) else(some (.inl (IntKind.i64.wrap (s + 1)))))) else none) else(some (.inr (.inr s))))):
 ∀ (t d:List Bool) (n:Nat),d ++ t=bs->t.length < n->∀ {γ:Type} (A B:Option γ),(loopN body n ((d.length:Nat):Int)).bind (sel2 (fun _=>A) (fun _=>B))=if t.any id then A else B
 | [],d,n,he,hn,γ,A,B=>by
   obtain ⟨n,rfl⟩:∃ m,n=m + 1:=⟨n - 1,by simp at hn;omega⟩
   have he:d=bs:=by simpa using he
   subst he
   simp only [loopN,hb]
   simp [sel2]
 | x :: t,d,n,he,hn,γ,A,B=>by
   obtain ⟨n,rfl⟩:∃ m,n=m + 1:=⟨n - 1,by simp at hn;omega⟩
   have hlt:=zdy he
   simp only [loopN,hb,za8,zbm he]
   have hd:decide (((d.length:Nat):Int) < ((bs.length:Nat):Int))=true:=by simp;omega
   simp only [hd,cond_true]
   rw [if_pos (by omega)]
   cases x with
   | true=>simp [sel2]
   | false=>
     simp only [Option.bind_some,cond_false]
     rw [zbk (by omega) (by omega)]
     have:=zum hl hb t (d ++ [false]) n (by simpa using he) (by simp at hn;omega) A B
     simpa using this
def suitsB (q:Tj) (a:Te):Bool:=
 bif !p_ec q then false else bif !p_ei a then false else bif decide (a.fd ≠ q.fd) then false else bif decide (a.fae ≠ 0) then true else
 bif decide (q.fd=1) || decide (q.fd=2) then bitsB q.fN a.fc else
 bif decide (q.fd=3) || (decide (q.fd=4) || decide (q.fd=23)) then decide (((a.fb.length:Nat):Int)=q.fN) else
 bif decide (q.fd=15) then decide (a.fe=q.fe) && decide (a.fN=((q.fc.length:Nat):Int)) else
 bif decide (q.fd=16) then decide (a.fe=q.fe) && decide (a.fN=((q.fb.length:Nat):Int)) else
 decide (a.fe=q.fe) && (decide (a.fb=q.fb) && decide (a.fc=q.fc))
theorem zgo {q:Tj} (h:p_ec q=true):wordsB q.fb=true/\(q.fd=1\/q.fd=2\/q.fd=3\/q.fd=4\/q.fd=5\/q.fd=6\/q.fd=15\/q.fd=16\/q.fd=22\/q.fd=23)/\
 (0 <= q.fe/\q.fe <= 65535)/\(0 <= q.fi/\q.fi <= 65535)/\
 (q.fd=1\/q.fd=2->1 <= q.fN/\q.fN <= 2000/\q.fb.length=0/\q.fc.length=0)/\(q.fd=3\/q.fd=4->1 <= q.fN/\q.fN <= 125/\q.fb.length=0/\q.fc.length=0)/\
 (q.fd=5->q.fN=0/\q.fb.length=0/\q.fc.length=1)/\(q.fd=6->q.fN=0/\q.fb.length=1/\q.fc.length=0)/\
 (q.fd=15->q.fN=0/\q.fb.length=0/\1 <= q.fc.length/\q.fc.length <= 1968)/\(q.fd=16->q.fN=0/\1 <= q.fb.length/\q.fb.length <= 123/\q.fc.length=0)/\
 (q.fd=22->q.fN=0/\q.fb.length=2/\q.fc.length=0)/\(q.fd=23->1 <= q.fN/\q.fN <= 125/\1 <= q.fb.length/\q.fb.length <= 121/\q.fc.length=0):=by
 simp only [p_ec,p_dw,p_dv,p_eb,p_dm,p_di] at h
 cases hw:wordsB q.fb
 ·simp [hw] at h
 simp only [hw] at h
 refine ⟨rfl,?_⟩
 by_cases k1:q.fd=1
 ·simp [k1,-List.length_eq_zero_iff] at h ⊢;omega
 by_cases k2:q.fd=2
 ·simp [k2,-List.length_eq_zero_iff] at h ⊢;omega
 by_cases k3:q.fd=3
 ·simp [k3,-List.length_eq_zero_iff] at h ⊢;omega
 by_cases k4:q.fd=4
 ·simp [k4,-List.length_eq_zero_iff] at h ⊢;omega
 by_cases k5:q.fd=5
 ·simp [k5,-List.length_eq_zero_iff] at h ⊢;omega
 by_cases k6:q.fd=6
 ·simp [k6,-List.length_eq_zero_iff] at h ⊢;omega
 by_cases k15:q.fd=15
 ·simp [k15,-List.length_eq_zero_iff] at h ⊢;omega
 by_cases k16:q.fd=16
 ·simp [k16,-List.length_eq_zero_iff] at h ⊢;omega
 by_cases k22:q.fd=22
 ·simp [k22,-List.length_eq_zero_iff] at h ⊢;omega
 by_cases k23:q.fd=23
 ·simp [k23,-List.length_eq_zero_iff] at h ⊢;omega
 simp [k1,k2,k3,k4,k5,k6,k15,k16,k22,k23] at h;omega
theorem zjz {a:Te} (h:p_ei a=true) (h0:a.fae=0):wordsB a.fb=true/\
 (a.fd=5->a.fb.length=0/\a.fc.length=1)/\(a.fd=6->a.fb.length=1/\a.fc.length=0)/\(a.fd=22->a.fb.length=2/\a.fc.length=0)/\
 (a.fd=1\/a.fd=2->a.fb.length=0)/\(a.fd=3\/a.fd=4\/a.fd=23->a.fc.length=0)/\(a.fd=15\/a.fd=16->a.fb.length=0/\a.fc.length=0):=by
 simp only [p_ei,p_dw,p_eh,p_dm,p_di,h0] at h
 cases hw:wordsB a.fb
 ·simp [hw] at h
 simp only [hw] at h
 refine ⟨rfl,?_⟩
 by_cases k1:a.fd=1
 ·simp [k1,-List.length_eq_zero_iff] at h ⊢;omega
 by_cases k2:a.fd=2
 ·simp [k2,-List.length_eq_zero_iff] at h ⊢;omega
 by_cases k3:a.fd=3
 ·simp [k3,-List.length_eq_zero_iff] at h ⊢;omega
 by_cases k4:a.fd=4
 ·simp [k4,-List.length_eq_zero_iff] at h ⊢;omega
 by_cases k5:a.fd=5
 ·simp [k5,-List.length_eq_zero_iff] at h ⊢;omega
 by_cases k6:a.fd=6
 ·simp [k6,-List.length_eq_zero_iff] at h ⊢;omega
 by_cases k15:a.fd=15
 ·simp [k15,-List.length_eq_zero_iff] at h ⊢;omega
 by_cases k16:a.fd=16
 ·simp [k16,-List.length_eq_zero_iff] at h ⊢;omega
 by_cases k22:a.fd=22
 ·simp [k22,-List.length_eq_zero_iff] at h ⊢;omega
 by_cases k23:a.fd=23
 ·simp [k23,-List.length_eq_zero_iff] at h ⊢;omega
 simp [k1,k2,k3,k4,k5,k6,k15,k16,k22,k23]
theorem zw4 {α:Type} [DecidableEq α] {β γ:Type} {a c:List α} (hl:a.length <= 1048576) {body:Int->α->Unit->Option (Unit ⊕ (Int ⊕ Unit))} {last:Unit->Option (Int ⊕ Unit)} (hlast:last ()=some (.inr ()))
 (hb:∀ k x,body k x ()=(c[k.toNat]?).bind fun v=>(bif !decide (x=v) then some (.inr (.inl k)) else some (.inl ()))):
 (bif decide (((a.length:Nat):Int) ≠ ((c.length:Nat):Int)) then some false else(if a.length <= 9223372036854775806 then listN body last a 0 () else none).bind (sel2 (fun _=>some false) (fun _=>some true)))=some (decide (a=c)):=by
 by_cases he:a.length=c.length
 ·have h0:decide (((a.length:Nat):Int) ≠ ((c.length:Nat):Int))=false:=by simp [he]
  rw [h0,cond_false,zq6 (fun d x=> !decide (some x=c[d.length]?)) (by omega) hlast (fun d x t h=> ?_)]
  ·have key:∀ (t d:List α),d ++ t=a->d=c.take d.length->(anyP (fun d x=> !decide (some x=c[d.length]?)) d t=false ↔ t=c.drop d.length):=by
    intro t
    induction t with
    | nil=>intro d h _;simp [anyP];have:d=a:=by simpa using h
           subst this;simp [he]
    | cons x t ih=>
      intro d h hd
      have hlt:d.length < c.length:=by rw [<- he,<- h];simp
      simp only [anyP,Bool.or_eq_false_iff]
      rw [List.drop_eq_getElem_cons hlt,List.getElem?_eq_getElem hlt]
      by_cases hx:x=c[d.length]
      ·have:=ih (d ++ [x]) (by simpa using h) (by rw [List.length_append,List.length_singleton,List.take_add_one,List.getElem?_eq_getElem hlt,<- hd,hx];rfl)
       simp only [hx,decide_true,Bool.not_true,true_and,List.cons.injEq]
       rw [<- hx,this];simp
      ·exact ⟨fun h=>by simp [hx] at h,fun h=>absurd (List.cons.inj h).1 hx⟩
   have:=key a [] rfl (by simp)
   simp only [List.length_nil,List.drop_zero] at this
   by_cases hac:a=c
   ·rw [if_neg (by rw [this.2 hac];simp)];simp [hac]
   ·have hp:anyP (fun d x=> !decide (some x=c[d.length]?)) [] a=true:=by
     cases h:anyP (fun d x=> !decide (some x=c[d.length]?)) [] a
     ·exact absurd (this.1 h) hac
     ·rfl
    rw [if_pos hp];simp [hac]
  ·have hlt:d.length < c.length:=by rw [<- he,<- h];simp
   refine ⟨((d.length:Nat):Int),?_⟩
   rw [hb,za8,List.getElem?_eq_getElem hlt,Option.bind_some]
   by_cases hx:x=c[d.length] <;> simp [hx]
 ·have h0:decide (((a.length:Nat):Int) ≠ ((c.length:Nat):Int))=true:=by simp;omega
  rw [h0,cond_true]
  have:¬ a=c:=fun e=>he (by rw [e])
  simp [this]
theorem zcb (v1:List Int) (v2:List Int) (hv1:v1.length <= 1048576) (hv2:v2.length <= 1048576):x_ek v1 v2=some (decide (v1=v2)):=by
 rw [x_ek];unfold x_ek_L1
 exact zw4 (β:=Unit) (γ:=Unit) hv1 rfl (fun k x=>by rw [b_ek_L1];simp only [ne_eq,decide_not])
theorem zxl (a b:Bool):(true ^^ (a == b))= !decide (a=b):=by cases a <;> cases b <;> rfl
theorem zc6 (v1:List Bool) (v2:List Bool) (hv1:v1.length <= 1048576) (hv2:v2.length <= 1048576):x_el v1 v2=some (decide (v1=v2)):=by
 rw [x_el];unfold x_el_L1
 exact zw4 (β:=Unit) (γ:=Unit) hv1 rfl (fun k x=>by rw [b_el_L1];simp only [zxl])
theorem zwk (v1:List Int) (v2:List Int) (hv1:v1.length <= 1048576) (hv2:v2.length <= 1048576):x_cq v1 v2=some (decide (v1=v2)):=by
 rw [x_cq];unfold x_cq_L1
 exact zw4 (β:=Unit) (γ:=Unit) hv1 rfl (fun k x=>by rw [b_cq_L1];simp only [ne_eq,decide_not])
theorem yjd (v1:List Bool) (v2:List Bool) (hv1:v1.length <= 1048576) (hv2:v2.length <= 1048576):x_cx v1 v2=some (decide (v1=v2)):=by
 rw [x_cx];unfold x_cx_L1
 exact zw4 (β:=Unit) (γ:=Unit) hv1 rfl (fun k x=>by rw [b_cx_L1];simp only [zxl])
def eqI (a b:List Int):Bool:=decide (a=b)
def eqB (a b:List Bool):Bool:=decide (a=b)
theorem yai (v1:Tj) (v2:Te) (hv1:v1.sz <= 1048576) (hv2:v2.sz <= 1048576):x_em v1 v2=some (suitsB v1 v2):=by
 have g1:=hv1;have g2:=hv2
 simp only [Tj.sz,Te.sz] at g1 g2
 rw [x_em]
 simp only [zvv v1 hv1,yac v2 hv2,Option.bind_some]
 unfold suitsB
 cases hq:p_ec v1
 ·rfl
 cases ha:p_ei v2
 ·rfl
 have F:=zgo hq
 by_cases hk:v2.fd=v1.fd
 rotate_left
 ·simp [hk]
 by_cases hf:v2.fae=0
 rotate_left
 ·simp [hk,hf]
 simp only [hk,hf,ne_eq,not_true_eq_false,decide_false,cond_false,Bool.not_true]
 by_cases k1:v1.fd=1
 ·have:=F.2.2.2.2.1 (.inl k1);simp [k1,zxs v1.fN v2.fc (by omega) this.1 this.2.1]
 by_cases k2:v1.fd=2
 ·have:=F.2.2.2.2.1 (.inr k2);simp [k2,zxs v1.fN v2.fc (by omega) this.1 this.2.1]
 by_cases k3:v1.fd=3
 ·simp [k3]
 by_cases k4:v1.fd=4
 ·simp [k4]
 by_cases k23:v1.fd=23
 ·simp [k23]
 by_cases k15:v1.fd=15
 ·have h15:=F.2.2.2.2.2.2.2.2.1 k15
  have hw:IntKind.i64.wrap ((v1.fb.length:Int) + (v1.fc.length:Int))=v1.fc.length:=by rw [zbk (by omega) (by omega)];omega
  simp only [zwe v1 hv1,p_eb,k15,hw]
  by_cases hAt:v2.fe=v1.fe <;> simp [hAt]
 by_cases k16:v1.fd=16
 ·have h16:=F.2.2.2.2.2.2.2.2.2.1 k16
  have hw:IntKind.i64.wrap ((v1.fb.length:Int) + (v1.fc.length:Int))=v1.fb.length:=by rw [zbk (by omega) (by omega)];omega
  simp only [zwe v1 hv1,p_eb,k16,hw]
  by_cases hAt:v2.fe=v1.fe <;> simp [hAt]
 simp only [k1,k2,k3,k4,k23,k15,k16,zcb v2.fb v1.fb (by omega) (by omega),zc6 v2.fc v1.fc (by omega) (by omega)]
 by_cases hAt:v2.fe=v1.fe <;> by_cases hw:v2.fb=v1.fb <;> simp [hAt,hw]
theorem zqi {l m:List Bool} (h1:l.length=1) (h2:m.length=1):∃ x y,l=[x]/\m=[y]:=by
 obtain ⟨x,rfl⟩:=List.length_eq_one_iff.1 h1
 obtain ⟨y,rfl⟩:=List.length_eq_one_iff.1 h2
 exact ⟨x,y,rfl,rfl⟩
theorem zlm (v1:Tj) (v2:Te) (g2:v2.fc.length <= 1048576) (h1:1 <= v1.fN) (h2:v1.fN <= 2000) {body:Int->Option (Int ⊕ (Int ⊕ Int))}
 (h:(loopN body BIG (((v2.fc.take v1.fN.toNat).length:Nat):Int)).bind (sel2 (fun _=>some false) (fun _=>some (decide (((v2.fc.length:Nat):Int)=bytes8 v1.fN))))=if(v2.fc.drop v1.fN.toNat).any id then some false else some (decide (((v2.fc.length:Nat):Int)=bytes8 v1.fN)))
 (hlong:v1.fN <= v2.fc.length->True:=by intro;trivial) (hshort:∀ A:Option Bool,¬ v1.fN <= v2.fc.length->(loopN body BIG v1.fN).bind (sel2 (fun _=>some false) (fun _=>A))=A):
 (loopN body BIG v1.fN).bind (sel2 (fun _=>some false) (fun _=>some (decide (((v2.fc.length:Nat):Int)=bytes8 v1.fN))))=some (bitsB v1.fN v2.fc):=by
 have hb:=zji h1 h2
 by_cases hl:v1.fN <= v2.fc.length
 ·have e:(((v2.fc.take v1.fN.toNat).length:Nat):Int)=v1.fN:=by rw [List.length_take];omega
  rw [e] at h
  rw [h]
  unfold bitsB
  cases ha:(v2.fc.drop v1.fN.toNat).any id <;> by_cases hd:((v2.fc.length:Nat):Int)=bytes8 v1.fN <;> simp [hd]
 ·rw [hshort _ hl]
  have:¬((v2.fc.length:Nat):Int)=bytes8 v1.fN:=by omega
  simp [bitsB,this]
theorem ygx (v1:Tj) (v2:Te) (hv1:v1.sz <= 1048576) (hv2:v2.sz <= 1048576):x_cr v1 v2=some (suitsB v1 v2):=by
 have g1:=hv1;have g2:=hv2
 simp only [Tj.sz,Te.sz] at g1 g2
 rw [x_cr]
 simp only [zvw v1 hv1,zza v2 hv2,Option.bind_some]
 unfold suitsB
 cases hq:p_ec v1
 ·rfl
 cases ha:p_ei v2
 ·rfl
 have F:=zgo hq
 by_cases hk:v1.fd=v2.fd
 rotate_left
 ·have hk':¬ v2.fd=v1.fd:=fun e=>hk e.symm
  simp [hk,hk']
 have hge:0 <= v2.fae:=by
  simp only [p_ei,p_eg,p_di] at ha
  by_cases h0:v2.fae=0
  ·omega
  ·simp [h0,-List.length_eq_zero_iff] at ha;omega
 by_cases hf:v2.fae=0
 rotate_left
 ·have:0 < v2.fae:=by omega
  simp [hk,hf,this]
 have Fa:=zjz ha hf
 simp only [<- hk,hf,ne_eq,not_true_eq_false,decide_false,cond_false,Bool.not_true,Int.lt_irrefl]
 rw [<- hk] at Fa
 by_cases k1:v1.fd=1
 ·have hn:=F.2.2.2.2.1 (.inl k1)
  simp only [k1,decide_true,cond_true]
  have h:=zum (body:=fun s=>(b_cr_L1 v1 v2 s)) (bs:=v2.fc) (by omega) (fun s=>rfl) (v2.fc.drop v1.fN.toNat) (v2.fc.take v1.fN.toNat) BIG (List.take_append_drop ..) (by simp [BIG];omega) (some false) (some (decide (((v2.fc.length:Nat):Int)=bytes8 v1.fN)))
  simp only [k1,decide_true,cond_true,Bool.true_or]
  exact zlm v1 v2 (by omega) hn.1 hn.2.1 h (hshort:=fun A hl=>by
   have hd:decide (v1.fN < ((v2.fc.length:Nat):Int))=false:=by simp only [decide_eq_false_iff_not];omega
   have hb:(b_cr_L1 v1 v2 v1.fN)=some (.inr (.inr v1.fN)):=by rw [b_cr_L1,hd];rfl
   show (loopN _ (BIG - 1 + 1) _).bind _=A
   simp only [loopN,hb];rfl)
 by_cases k2:v1.fd=2
 ·have hn:=F.2.2.2.2.1 (.inr k2)
  have h:=zum (body:=fun s=>(b_cr_L2 v1 v2 s)) (bs:=v2.fc) (by omega) (fun s=>rfl) (v2.fc.drop v1.fN.toNat) (v2.fc.take v1.fN.toNat) BIG (List.take_append_drop ..) (by simp [BIG];omega) (some false) (some (decide (((v2.fc.length:Nat):Int)=bytes8 v1.fN)))
  simp only [k2,decide_true,cond_true,Bool.or_true,show decide ((2:Int)=1)=false from rfl,cond_false]
  exact zlm v1 v2 (by omega) hn.1 hn.2.1 h (hshort:=fun A hl=>by
   have hd:decide (v1.fN < ((v2.fc.length:Nat):Int))=false:=by simp only [decide_eq_false_iff_not];omega
   have hb:(b_cr_L2 v1 v2 v1.fN)=some (.inr (.inr v1.fN)):=by rw [b_cr_L2,hd];rfl
   show (loopN _ (BIG - 1 + 1) _).bind _=A
   simp only [loopN,hb];rfl)
 by_cases k3:v1.fd=3
 ·simp [k3]
 by_cases k4:v1.fd=4
 ·simp [k4]
 by_cases k23:v1.fd=23
 ·simp [k23]
 by_cases k5:v1.fd=5
 ·have h5:=F.2.2.2.2.2.2.1 k5
  have a5:=Fa.2.1 k5
  obtain ⟨x,y,hx,hy⟩:=zqi h5.2.2 a5.2
  have w1:v1.fb=[]:=List.eq_nil_of_length_eq_zero h5.2.1
  have w2:v2.fb=[]:=List.eq_nil_of_length_eq_zero a5.1
  simp only [k5,hx,hy,w1,w2]
  by_cases hAt:v2.fe=v1.fe <;> cases x <;> cases y <;> simp [hAt]
 by_cases k6:v1.fd=6
 ·have h6:=F.2.2.2.2.2.2.2.1 k6
  have a6:=Fa.2.2.1 k6
  have w1:v1.fc=[]:=List.eq_nil_of_length_eq_zero h6.2.2
  have w2:v2.fc=[]:=List.eq_nil_of_length_eq_zero a6.2
  simp only [k6,w1,w2,zwk v2.fb v1.fb (by omega) (by omega)]
  by_cases hAt:v2.fe=v1.fe <;> simp [hAt]
 by_cases k22:v1.fd=22
 ·have h22:=F.2.2.2.2.2.2.2.2.2.2.1 k22
  have a22:=Fa.2.2.2.1 k22
  have w1:v1.fc=[]:=List.eq_nil_of_length_eq_zero h22.2.2
  have w2:v2.fc=[]:=List.eq_nil_of_length_eq_zero a22.2
  simp only [k22,w1,w2,zwk v2.fb v1.fb (by omega) (by omega)]
  by_cases hAt:v2.fe=v1.fe <;> simp [hAt]
 by_cases k15:v1.fd=15
 ·simp only [k15]
  by_cases hAt:v2.fe=v1.fe <;> simp [hAt]
 have k16:v1.fd=16:=by have:=F.2.1;omega
 simp only [k16]
 by_cases hAt:v2.fe=v1.fe <;> simp [hAt]
end Go.Pm
namespace Go.Pm
theorem zyn {β δ γ:Type} {body:Int->Option (Int ⊕ (β ⊕ δ))} (p:Nat->Bool) (N:Nat) (hN:N <= 1048576) (hb:∀ i:Nat,i < N->∃ e,body i=some (if p i then .inr (.inl e) else .inl ((i:Int) + 1))) (he:∃ e,body N=some (.inr (.inr e))) (A B:Option γ):
 (loopN body BIG 0).bind (sel2 (fun _=>A) (fun _=>B))=if(List.range N).any p then A else B:=by
 have key:∀ (m i n:Nat),i + m=N->m < n->(loopN body n (i:Int)).bind (sel2 (fun _=>A) (fun _=>B))=if(List.range' i m).any p then A else B:=by
  intro m
  induction m with
  | zero=>
    intro i n hi hn
    obtain ⟨n,rfl⟩:∃ q,n=q + 1:=⟨n - 1,by omega⟩
    have:i=N:=by omega
    subst this
    obtain ⟨e,he⟩:=he
    simp [loopN,he,sel2]
  | succ m ih=>
    intro i n hi hn
    obtain ⟨n,rfl⟩:∃ q,n=q + 1:=⟨n - 1,by omega⟩
    obtain ⟨e,hbe⟩:=hb i (by omega)
    simp only [loopN,hbe,List.range'_succ,List.any_cons]
    cases hp:p i with
    | true=>simp [sel2]
    | false=>
      have:=ih (i + 1) n (by omega) (by omega)
      rw [Bool.false_or]
      simpa using this
 have:=key N 0 BIG (by omega) (by simp only [BIG];omega)
 rw [List.range_eq_range']
 simpa using this
theorem zo3 {α:Type} (q:α->Bool) {xs d t:List α} (h:d ++ t=xs):(List.range d.length).any (fun i=>(xs[i]?).any q)=d.any q:=by
 subst h
 rw [Bool.eq_iff_iff]
 simp only [List.any_eq_true,List.mem_range,Option.any_eq_true]
 constructor
 ·rintro ⟨i,hi,y,hy,hq⟩
  rw [List.getElem?_append_left hi] at hy
  exact ⟨y,List.mem_of_getElem? hy,hq⟩
 ·rintro ⟨y,hy,hq⟩
  obtain ⟨i,hi,e⟩:=List.getElem_of_mem hy
  exact ⟨i,hi,y,by rw [List.getElem?_append_left hi,List.getElem?_eq_getElem hi,e],hq⟩
def foldP {α σ:Type} (f:σ->List α->α->σ):σ->List α->List α->σ
 | s,_,[]=>s
 | s,d,x :: t=>foldP f (f s d x) (d ++ [x]) t
theorem ydn {α β δ σ γ:Type} {body:Int->α->σ->Option (σ ⊕ (β ⊕ δ))} {last:σ->Option (β ⊕ δ)} {xs:List α} (p:List α->α->Bool) (f:σ->List α->α->σ) (g:σ->δ) (hl:xs.length <= 9223372036854775806) (hlast:∀ s,last s=some (.inr (g s)))
 (hb:∀ d x t s,d ++ x :: t=xs->∃ e,body ((d.length:Nat):Int) x s=some (if p d x then .inr (.inl e) else .inl (f s d x))) (s0:σ) (A:Option γ) (B:δ->Option γ):
 (if xs.length <= 9223372036854775806 then listN body last xs 0 s0 else none).bind (sel2 (fun _=>A) (fun v=>B v))=if anyP p [] xs then A else B (g (foldP f s0 [] xs)):=by
 rw [if_pos hl]
 have key:∀ (t d:List α) (s:σ),d ++ t=xs->(listN body last t ((d.length:Nat):Int) s).bind (sel2 (fun _=>A) (fun v=>B v))=if anyP p d t then A else B (g (foldP f s d t)):=by
  intro t
  induction t with
  | nil=>intro d s _;simp [listN,hlast,anyP,foldP,sel2]
  | cons x t ih=>
    intro d s he
    obtain ⟨e,hbe⟩:=hb d x t s he
    simp only [listN,hbe,anyP,foldP]
    by_cases hp:p d x=true
    ·simp [hp,sel2]
    ·have:=ih (d ++ [x]) (f s d x) (by simpa using he)
     simp only [hp,Bool.false_or]
     simpa using this
 exact key xs [] s0 rfl
def overB (x y:Td):Bool:=p_dp x y
def ruleBad (d:List Td) (x:Td):Bool:= !p_do x || d.any (fun y=>overB y x)
def rulesB (l:List Td):Bool:= !anyP ruleBad [] l && decide (((l.length:Nat):Int) <= 24)
theorem zqn (l:List Td) (x:Td):p_dr l x=l.any (fun y=>p_dp y x):=zgt
theorem yia (v1:List Td) (hv1:v1.length <= 1048576):x_ds v1=some (rulesB v1):=by
 rw [x_ds];unfold x_ds_L1
 rw [zq6 ruleBad (by omega) rfl (fun d x t he=>⟨_,by
  rw [b_ds_L1]
  have hd:(v1.take (((d.length:Nat):Int)).toNat).drop (0:Int).toNat=d:=by
   rw [za8,<- he];simp
  have hlt:=zdy he
  rw [ycl,hd,yg3 d x (by omega),if_pos (by simp only [List.length_map];omega)]
  simp only [Option.bind_some,zqn]
  show _=some (if ruleBad d x=true then _ else _)
  unfold ruleBad overB
  cases hr:p_do x
  ·rfl
  ·cases ha:d.any fun y=>p_dp y x <;> rfl⟩)]
 unfold rulesB
 cases anyP ruleBad [] v1 <;> rfl
theorem zni (r:Td) (h:r.ok):p_cf r=p_do r:=by
 simp only [Td.ok] at h
 have e1:=zfw (r.faj + r.faq)
 have e2:=zfw (r.fak + r.faq)
 rw [Bool.eq_iff_iff]
 simp [p_cf,p_do,p_dl,p_dm,p_dn,p_di]
 omega
theorem ztf (v1:List Td) (hv1:v1.length <= 1048576) {d t:List Td} {x:Td} (he:d ++ x :: t=v1) {γ:Type} (A B:Option γ):
 (x_cg_L2 v1 ((d.length:Nat):Int) 0).bind (sel2 (fun _=>A) (fun _=>B))=if d.any (fun y=>overB y x) then A else B:=by
 have hlt:=zdy he
 unfold x_cg_L2
 rw [zyn (fun i=>(v1[i]?).any (fun y=>overB y x)) d.length (by omega) (fun i hi=> ?_) ⟨((d.length:Nat):Int),by rw [b_cg_L2];simp⟩,zo3 (fun y=>overB y x) he]
 have hi':i < v1.length:=by omega
 refine ⟨(i:Int),?_⟩
 rw [b_cg_L2,za8,za8,zbm he,List.getElem?_eq_getElem hi']
 have hd:decide (((i:Nat):Int) < ((d.length:Nat):Int))=true:=by simp;omega
 have hw:IntKind.i64.wrap ((i:Int) + 1)=(i:Int) + 1:=zbk (by omega) (by omega)
 simp only [hd,cond_true,Option.bind_some,hw,Option.any_some,overB,p_dp,if_pos (Int.natCast_nonneg _)]
 by_cases h1:v1[i].fg=x.fg <;> by_cases h2:v1[i].fau=x.fau <;> by_cases h3:v1[i].faj <= x.fak <;> by_cases h4:x.faj <= v1[i].fak <;> simp [h1,h2,h3,h4]
theorem ydy (v1:List Td) (hv1:v1.length <= 1048576) (hok:∀ r ∈ v1,r.ok):x_cg v1=some (rulesB v1):=by
 rw [x_cg];unfold x_cg_L1
 unfold rulesB
 by_cases hl:24 < ((v1.length:Nat):Int)
 ·have:¬((v1.length:Nat):Int) <= 24:=by omega
  simp [hl,this]
 ·have hl':((v1.length:Nat):Int) <= 24:=by omega
  simp only [hl,decide_false,cond_false,hl',decide_true,Bool.and_true]
  rw [zq6 ruleBad (by omega) rfl (fun d x t he=> ?_)]
  ·cases anyP ruleBad [] v1 <;> rfl
  ·rw [b_cg_L1,yey,zni x (hok x (by rw [<- he];simp))]
   unfold ruleBad
   simp only [Option.bind_some]
   cases hr:p_do x
   ·exact ⟨_,rfl⟩
   ·simp only [Bool.not_true,cond_false,Bool.false_or]
    have h:=fun(A B:Option (Unit ⊕ ((Int × V × V × V) ⊕ Unit)))=>ztf v1 hv1 he A B
    cases hx:x_cg_L2 v1 ((d.length:Nat):Int) 0 with
    | none=>have:=h (some (.inl ())) (some (.inl ()));rw [hx] at this;simp at this
    | some r=>
      have h1:=h (some (.inr (.inr ()))) (some (.inl ()))
      rw [hx] at h1
      cases r with
      | inl a=>
        simp only [Option.bind_some,sel2] at h1 ⊢
        refine ⟨(((d.length:Nat):Int),(.int .i64 a:V),(.gone:V),(.bool true:V)),?_⟩
        split at h1
        ·rename_i ha;rw [if_pos ha]
        ·cases h1
      | inr a=>
        simp only [Option.bind_some,sel2] at h1 ⊢
        split at h1
        ·cases h1
        ·rename_i ha;exact ⟨(0,.gone,.gone,.gone),by rw [if_neg ha]⟩
def configB (c:Tr):Bool:=p_dk c.fad c.fac && rulesB c.faf
theorem yk7 (c:Tr) (h:c.sz <= 1048576):x_dt c=some (configB c):=by
 simp only [Tr.sz] at h
 rw [x_dt,zx5,Option.bind_some]
 unfold configB
 cases p_dk c.fad c.fac
 ·rfl
 ·simp only [cond_true,yia c.faf (by omega),Option.bind_some,Bool.true_and]
theorem yf0 (c:Tr) (h:c.sz <= 1048576) (hok:c.ok):x_ch c=some (configB c):=by
 simp only [Tr.sz] at h
 rw [x_ch]
 simp only [zdi,Option.bind_some,ydy c.faf (by omega) hok.2.2.2]
 unfold configB p_dk
 cases p_di c.fad 1 100 <;> cases p_di c.fac 0 5 <;> rfl
def p_et (v1:Tj) (v2:Tj):Bool:=(bif decide (v1.fd=v2.fd) then(bif decide (v1.fe=v2.fe) then(bif decide (v1.fN=v2.fN) then(bif decide (v1.fi=v2.fi) then(let v7:=eqI v1.fb v2.fb;(bif v7 then(let v9:=eqB v1.fc v2.fc;v9) else false)) else false) else false) else false) else false)
theorem zxv (v1:Tj) (v2:Tj) (hv1:v1.sz <= 1048576) (hv2:v2.sz <= 1048576):x_et v1 v2=some (p_et v1 v2):=by
 rw [x_et];first | rfl | (simp only [zcb v1.fb v2.fb (by simp only [Tj.sz] at hv1;omega) (by simp only [Tj.sz] at hv2;omega),zc6 v1.fc v2.fc (by simp only [Tj.sz] at hv1;omega) (by simp only [Tj.sz] at hv2;omega),Option.bind_some,zab];rfl)
def p_en (v1:Te) (v2:Te):Bool:=(bif decide (v1.fd=v2.fd) then(bif decide (v1.fae=v2.fae) then(bif decide (v1.fe=v2.fe) then(bif decide (v1.fN=v2.fN) then(let v7:=eqI v1.fb v2.fb;(bif v7 then(let v9:=eqB v1.fc v2.fc;v9) else false)) else false) else false) else false) else false)
theorem ycc (v1:Te) (v2:Te) (hv1:v1.sz <= 1048576) (hv2:v2.sz <= 1048576):x_en v1 v2=some (p_en v1 v2):=by
 rw [x_en];first | rfl | (simp only [zcb v1.fb v2.fb (by simp only [Te.sz] at hv1;omega) (by simp only [Te.sz] at hv2;omega),zc6 v1.fc v2.fc (by simp only [Te.sz] at hv1;omega) (by simp only [Te.sz] at hv2;omega),Option.bind_some,zab];rfl)
def p_cy (v1:Tj) (v2:Tj):Bool:=(bif decide (v1.fd=v2.fd) then(bif decide (v1.fe=v2.fe) then(bif decide (v1.fN=v2.fN) then(bif decide (v1.fi=v2.fi) then(let v7:=eqI v1.fb v2.fb;(bif v7 then(let v9:=eqB v1.fc v2.fc;v9) else false)) else false) else false) else false) else false)
theorem yix (v1:Tj) (v2:Tj) (hv1:v1.sz <= 1048576) (hv2:v2.sz <= 1048576):x_cy v1 v2=some (p_cy v1 v2):=by
 rw [x_cy];first | rfl | (simp only [zwk v1.fb v2.fb (by simp only [Tj.sz] at hv1;omega) (by simp only [Tj.sz] at hv2;omega),yjd v1.fc v2.fc (by simp only [Tj.sz] at hv1;omega) (by simp only [Tj.sz] at hv2;omega),Option.bind_some,zab];rfl)
def p_da (v1:Tj):Bool:=(bif decide (v1.fd=0) then(bif decide (v1.fe=0) then(bif decide (v1.fN=0) then(bif decide (((v1.fb.length:Nat):Int)=0) then(bif decide (((v1.fc.length:Nat):Int)=0) then decide (v1.fi=0) else false) else false) else false) else false) else false)
theorem ykh (v1:Tj) (hv1:v1.sz <= 1048576):x_da v1=some (p_da v1):=by
 rw [x_da];first | rfl | (simp only [Option.bind_some,zab];rfl)
def p_cs (v1:Te):Bool:=(bif decide (v1.fd=0) then(bif decide (v1.fae=0) then(bif decide (v1.fe=0) then(bif decide (v1.fN=0) then(bif decide (((v1.fb.length:Nat):Int)=0) then decide (((v1.fc.length:Nat):Int)=0) else false) else false) else false) else false) else false)
theorem yla (v1:Te) (hv1:v1.sz <= 1048576):x_cs v1=some (p_cs v1):=by
 rw [x_cs];first | rfl | (simp only [Option.bind_some,zab];rfl)
def p_ef (v1:Tf):Bool:=(let v2:=p_dn v1.fw;(bif v2 then(let v4:=p_dl v1.fg;(bif v4 then(let v6:=p_ec v1.fa;v6) else false)) else false))
theorem yb9 (v1:Tf) (hv1:v1.sz <= 1048576):x_ef v1=some (p_ef v1):=by
 rw [x_ef];first | rfl | (simp only [zwt v1.fw,zw8 v1.fg,zvv v1.fa (by simp only [Tf.sz] at hv1;omega),Option.bind_some,zab];rfl)
def p_cm (v1:Tf):Bool:=(let v2:=p_di v1.fw 0 5;(bif v2 then(let v4:=p_di v1.fg 1 247;(bif v4 then(let v6:=p_ec v1.fa;v6) else false)) else false))
theorem yl6 (v1:Tf) (hv1:v1.sz <= 1048576):x_cm v1=some (p_cm v1):=by
 rw [x_cm];first | rfl | (simp only [zdi v1.fw 0 5,zdi v1.fg 1 247,zvw v1.fa (by simp only [Tf.sz] at hv1;omega),Option.bind_some,zab];rfl)
def p_ex (v1:Ta):Bool:=(bif decide (v1.fk=0) then(bif decide (v1.fq=0) then(bif decide (v1.fg=0) then(let v5:=p_et v1.fa (⟨0,0,0,[],[],0⟩:Tj);v5) else false) else false) else false)
theorem yaf (v1:Ta) (hv1:v1.sz <= 1048576):x_ex v1=some (p_ex v1):=by
 rw [x_ex];first | rfl | (simp only [zxv v1.fa (⟨0,0,0,[],[],0⟩:Tj) (by simp only [Ta.sz] at hv1;omega) (by simp [Tj.sz]),Option.bind_some,zab];rfl)
theorem ygc (v1:Tj) (v2:Tj) (hv1:v1.sz <= 1048576) (hv2:v2.sz <= 1048576):p_cy v1 v2=p_et v1 v2:=by
 simp only [p_cy,p_et]
theorem yev (v1:Tj) (v2:Tj) (hv1:v1.sz <= 1048576) (hv2:v2.sz <= 1048576):x_cy v1 v2=some (p_et v1 v2):=by rw [yix v1 v2 hv1 hv2,ygc v1 v2 hv1 hv2]
theorem zri (a:Tj):p_da a=p_et a ⟨0,0,0,[],[],0⟩:=by
 simp only [p_da,p_et,eqI,eqB]
 rw [Bool.eq_iff_iff]
 simp [Bool.cond_eq_ite]
 grind
theorem zpc (a:Te):p_cs a=p_en a ⟨0,0,0,0,[],[]⟩:=by
 simp only [p_cs,p_en,eqI,eqB]
 rw [Bool.eq_iff_iff]
 simp [Bool.cond_eq_ite]
theorem yfi (v1:Tf) (hv1:v1.sz <= 1048576):p_cm v1=p_ef v1:=by
 rfl
theorem ya4 (v1:Tf) (hv1:v1.sz <= 1048576):x_cm v1=some (p_ef v1):=by rw [yl6 v1 hv1,yfi v1 hv1]
end Go.Pm
