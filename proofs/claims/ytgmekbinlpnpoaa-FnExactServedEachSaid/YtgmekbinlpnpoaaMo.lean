/- Proved: the law FnExactServedEach answers true at all arguments, for every operating system that has started; no conditions beyond the row's own. -/
import Derived.Test.YtgmekbinlpnpoaaMn
import Derived.Test.YtgmekbinlpnpoaaProg
import Derived.KernelRfl
set_option linter.unusedVariables false
set_option linter.unusedSimpArgs false
namespace Go.Pm
open Go Go.Proofs
set_option maxRecDepth 1000000
theorem K_laws_szRuleS : BodyOk Try.prog n_laws_szRuleS (.go h_laws_szRuleS) := ⟨Try.f135, s_laws_szRuleS, Try.func135, by kernel_rfl⟩
theorem K_laws_szConfig : BodyOk Try.prog n_laws_szConfig (.go h_laws_szConfig) := ⟨Try.f89, s_laws_szConfig, Try.func89, by kernel_rfl⟩
theorem K_laws_szIntS : BodyOk Try.prog n_laws_szIntS (.go h_laws_szIntS) := ⟨Try.f37, s_laws_szIntS, Try.func37, by kernel_rfl⟩
theorem K_laws_szBoolS : BodyOk Try.prog n_laws_szBoolS (.go h_laws_szBoolS) := ⟨Try.f38, s_laws_szBoolS, Try.func38, by kernel_rfl⟩
theorem K_laws_szReq : BodyOk Try.prog n_laws_szReq (.go h_laws_szReq) := ⟨Try.f139, s_laws_szReq, Try.func139, by kernel_rfl⟩
theorem K_laws_szPart : BodyOk Try.prog n_laws_szPart (.go h_laws_szPart) := ⟨Try.f169, s_laws_szPart, Try.func169, by kernel_rfl⟩
theorem K_laws_szPartS : BodyOk Try.prog n_laws_szPartS (.go h_laws_szPartS) := ⟨Try.f140, s_laws_szPartS, Try.func140, by kernel_rfl⟩
theorem K_laws_szResp : BodyOk Try.prog n_laws_szResp (.go h_laws_szResp) := ⟨Try.f9, s_laws_szResp, Try.func9, by kernel_rfl⟩
theorem K_laws_szRespS : BodyOk Try.prog n_laws_szRespS (.go h_laws_szRespS) := ⟨Try.f141, s_laws_szRespS, Try.func141, by kernel_rfl⟩
theorem K_laws_szPend : BodyOk Try.prog n_laws_szPend (.go h_laws_szPend) := ⟨Try.f166, s_laws_szPend, Try.func166, by kernel_rfl⟩
theorem K_laws_szPendS : BodyOk Try.prog n_laws_szPendS (.go h_laws_szPendS) := ⟨Try.f136, s_laws_szPendS, Try.func136, by kernel_rfl⟩
theorem K_laws_szTable : BodyOk Try.prog n_laws_szTable (.go h_laws_szTable) := ⟨Try.f90, s_laws_szTable, Try.func90, by kernel_rfl⟩
theorem K_laws_szCall : BodyOk Try.prog n_laws_szCall (.go h_laws_szCall) := ⟨Try.f168, s_laws_szCall, Try.func168, by kernel_rfl⟩
theorem K_laws_szCallS : BodyOk Try.prog n_laws_szCallS (.go h_laws_szCallS) := ⟨Try.f167, s_laws_szCallS, Try.func167, by kernel_rfl⟩
theorem K_laws_szLine : BodyOk Try.prog n_laws_szLine (.go h_laws_szLine) := ⟨Try.f137, s_laws_szLine, Try.func137, by kernel_rfl⟩
theorem K_laws_szLineS : BodyOk Try.prog n_laws_szLineS (.go h_laws_szLineS) := ⟨Try.f91, s_laws_szLineS, Try.func91, by kernel_rfl⟩
theorem K_laws_szFabric : BodyOk Try.prog n_laws_szFabric (.go h_laws_szFabric) := ⟨Try.f52, s_laws_szFabric, Try.func52, by kernel_rfl⟩
theorem K_laws_szDevice : BodyOk Try.prog n_laws_szDevice (.go h_laws_szDevice) := ⟨Try.f138, s_laws_szDevice, Try.func138, by kernel_rfl⟩
theorem K_laws_szPost : BodyOk Try.prog n_laws_szPost (.go h_laws_szPost) := ⟨Try.f92, s_laws_szPost, Try.func92, by kernel_rfl⟩
theorem K_laws_szPostS : BodyOk Try.prog n_laws_szPostS (.go h_laws_szPostS) := ⟨Try.f53, s_laws_szPostS, Try.func53, by kernel_rfl⟩
theorem K_laws_szPacket : BodyOk Try.prog n_laws_szPacket (.go h_laws_szPacket) := ⟨Try.f93, s_laws_szPacket, Try.func93, by kernel_rfl⟩
theorem K_laws_szPacketS : BodyOk Try.prog n_laws_szPacketS (.go h_laws_szPacketS) := ⟨Try.f54, s_laws_szPacketS, Try.func54, by kernel_rfl⟩
theorem K_laws_szReply : BodyOk Try.prog n_laws_szReply (.go h_laws_szReply) := ⟨Try.f94, s_laws_szReply, Try.func94, by kernel_rfl⟩
theorem K_laws_szReplyS : BodyOk Try.prog n_laws_szReplyS (.go h_laws_szReplyS) := ⟨Try.f55, s_laws_szReplyS, Try.func55, by kernel_rfl⟩
theorem K_laws_szServed : BodyOk Try.prog n_laws_szServed (.go h_laws_szServed) := ⟨Try.f95, s_laws_szServed, Try.func95, by kernel_rfl⟩
theorem K_laws_szServedS : BodyOk Try.prog n_laws_szServedS (.go h_laws_szServedS) := ⟨Try.f56, s_laws_szServedS, Try.func56, by kernel_rfl⟩
theorem K_laws_szWorld : BodyOk Try.prog n_laws_szWorld (.go h_laws_szWorld) := ⟨Try.f27, s_laws_szWorld, Try.func27, by kernel_rfl⟩
theorem K_laws_toRule : BodyOk Try.prog n_laws_toRule (.go h_laws_toRule) := ⟨Try.f170, s_laws_toRule, Try.func170, by kernel_rfl⟩
theorem K_laws_toRuleS : BodyOk Try.prog n_laws_toRuleS (.go h_laws_toRuleS) := ⟨Try.f142, s_laws_toRuleS, Try.func142, by kernel_rfl⟩
theorem K_laws_toConfig : BodyOk Try.prog n_laws_toConfig (.go h_laws_toConfig) := ⟨Try.f96, s_laws_toConfig, Try.func96, by kernel_rfl⟩
theorem K_laws_toIntS : BodyOk Try.prog n_laws_toIntS (.go h_laws_toIntS) := ⟨Try.f41, s_laws_toIntS, Try.func41, by kernel_rfl⟩
theorem K_laws_toBoolS : BodyOk Try.prog n_laws_toBoolS (.go h_laws_toBoolS) := ⟨Try.f42, s_laws_toBoolS, Try.func42, by kernel_rfl⟩
theorem K_laws_toReq : BodyOk Try.prog n_laws_toReq (.go h_laws_toReq) := ⟨Try.f146, s_laws_toReq, Try.func146, by kernel_rfl⟩
theorem K_laws_toPart : BodyOk Try.prog n_laws_toPart (.go h_laws_toPart) := ⟨Try.f174, s_laws_toPart, Try.func174, by kernel_rfl⟩
theorem K_laws_toPartS : BodyOk Try.prog n_laws_toPartS (.go h_laws_toPartS) := ⟨Try.f147, s_laws_toPartS, Try.func147, by kernel_rfl⟩
theorem K_laws_toResp : BodyOk Try.prog n_laws_toResp (.go h_laws_toResp) := ⟨Try.f12, s_laws_toResp, Try.func12, by kernel_rfl⟩
theorem K_laws_toRespS : BodyOk Try.prog n_laws_toRespS (.go h_laws_toRespS) := ⟨Try.f148, s_laws_toRespS, Try.func148, by kernel_rfl⟩
theorem K_laws_toPend : BodyOk Try.prog n_laws_toPend (.go h_laws_toPend) := ⟨Try.f171, s_laws_toPend, Try.func171, by kernel_rfl⟩
theorem K_laws_toPendS : BodyOk Try.prog n_laws_toPendS (.go h_laws_toPendS) := ⟨Try.f143, s_laws_toPendS, Try.func143, by kernel_rfl⟩
theorem K_laws_toTable : BodyOk Try.prog n_laws_toTable (.go h_laws_toTable) := ⟨Try.f97, s_laws_toTable, Try.func97, by kernel_rfl⟩
theorem K_laws_toCall : BodyOk Try.prog n_laws_toCall (.go h_laws_toCall) := ⟨Try.f173, s_laws_toCall, Try.func173, by kernel_rfl⟩
theorem K_laws_toCallS : BodyOk Try.prog n_laws_toCallS (.go h_laws_toCallS) := ⟨Try.f172, s_laws_toCallS, Try.func172, by kernel_rfl⟩
theorem K_laws_toLine : BodyOk Try.prog n_laws_toLine (.go h_laws_toLine) := ⟨Try.f144, s_laws_toLine, Try.func144, by kernel_rfl⟩
theorem K_laws_toLineS : BodyOk Try.prog n_laws_toLineS (.go h_laws_toLineS) := ⟨Try.f98, s_laws_toLineS, Try.func98, by kernel_rfl⟩
theorem K_laws_toFabric : BodyOk Try.prog n_laws_toFabric (.go h_laws_toFabric) := ⟨Try.f57, s_laws_toFabric, Try.func57, by kernel_rfl⟩
theorem K_laws_toDevice : BodyOk Try.prog n_laws_toDevice (.go h_laws_toDevice) := ⟨Try.f145, s_laws_toDevice, Try.func145, by kernel_rfl⟩
theorem K_laws_toPost : BodyOk Try.prog n_laws_toPost (.go h_laws_toPost) := ⟨Try.f99, s_laws_toPost, Try.func99, by kernel_rfl⟩
theorem K_laws_toPostS : BodyOk Try.prog n_laws_toPostS (.go h_laws_toPostS) := ⟨Try.f58, s_laws_toPostS, Try.func58, by kernel_rfl⟩
theorem K_laws_toPacket : BodyOk Try.prog n_laws_toPacket (.go h_laws_toPacket) := ⟨Try.f100, s_laws_toPacket, Try.func100, by kernel_rfl⟩
theorem K_laws_toPacketS : BodyOk Try.prog n_laws_toPacketS (.go h_laws_toPacketS) := ⟨Try.f59, s_laws_toPacketS, Try.func59, by kernel_rfl⟩
theorem K_laws_toReply : BodyOk Try.prog n_laws_toReply (.go h_laws_toReply) := ⟨Try.f101, s_laws_toReply, Try.func101, by kernel_rfl⟩
theorem K_laws_toReplyS : BodyOk Try.prog n_laws_toReplyS (.go h_laws_toReplyS) := ⟨Try.f60, s_laws_toReplyS, Try.func60, by kernel_rfl⟩
theorem K_laws_toServed : BodyOk Try.prog n_laws_toServed (.go h_laws_toServed) := ⟨Try.f102, s_laws_toServed, Try.func102, by kernel_rfl⟩
theorem K_laws_toServedS : BodyOk Try.prog n_laws_toServedS (.go h_laws_toServedS) := ⟨Try.f61, s_laws_toServedS, Try.func61, by kernel_rfl⟩
theorem K_laws_toWorld : BodyOk Try.prog n_laws_toWorld (.go h_laws_toWorld) := ⟨Try.f29, s_laws_toWorld, Try.func29, by kernel_rfl⟩
theorem K_spec_l4SameWords : BodyOk Try.prog n_spec_l4SameWords (.go h_spec_l4SameWords) := ⟨Try.f155, s_spec_l4SameWords, Try.func155, by kernel_rfl⟩
theorem K_spec_l5SameBits : BodyOk Try.prog n_spec_l5SameBits (.go h_spec_l5SameBits) := ⟨Try.f156, s_spec_l5SameBits, Try.func156, by kernel_rfl⟩
theorem K_spec_l14SameReq : BodyOk Try.prog n_spec_l14SameReq (.go h_spec_l14SameReq) := ⟨Try.f110, s_spec_l14SameReq, Try.func110, by kernel_rfl⟩
theorem K_spec_l16SameResp : BodyOk Try.prog n_spec_l16SameResp (.go h_spec_l16SameResp) := ⟨Try.f111, s_spec_l16SameResp, Try.func111, by kernel_rfl⟩
theorem K_spec_l16Served : BodyOk Try.prog n_spec_l16Served (.go h_spec_l16Served) := ⟨Try.f67, s_spec_l16Served, Try.func67, by kernel_rfl⟩
theorem K_spec_ServedEach : BodyOk Try.prog n_spec_ServedEach (.go h_spec_ServedEach) := ⟨Try.f34, s_spec_ServedEach, Try.func34, by kernel_rfl⟩
theorem K_slices_Equal_int : BodyOk Try.prog n_slices_Equal_int (.go h_slices_Equal_int) := ⟨Try.f158, s_slices_Equal_int, Try.func158, by kernel_rfl⟩
theorem K_slices_Equal_bool : BodyOk Try.prog n_slices_Equal_bool (.go h_slices_Equal_bool) := ⟨Try.f159, s_slices_Equal_bool, Try.func159, by kernel_rfl⟩
theorem K_impl_sameReq : BodyOk Try.prog n_impl_sameReq (.go h_impl_sameReq) := ⟨Try.f114, s_impl_sameReq, Try.func114, by kernel_rfl⟩
theorem K_impl_sameResp : BodyOk Try.prog n_impl_sameResp (.go h_impl_sameResp) := ⟨Try.f115, s_impl_sameResp, Try.func115, by kernel_rfl⟩
theorem K_impl_servedSo_1 : BodyOk Try.prog n_impl_servedSo_1 (.go h_impl_servedSo_1) := ⟨Try.f113, s_impl_servedSo_1, Try.func113, by kernel_rfl⟩
theorem K_slices_IndexFunc_Served : BodyOk Try.prog n_slices_IndexFunc_Served (.go h_slices_IndexFunc_Served) := ⟨Try.f157, s_slices_IndexFunc_Served, Try.func157, by kernel_rfl⟩
theorem K_slices_ContainsFunc_Served : BodyOk Try.prog n_slices_ContainsFunc_Served (.go h_slices_ContainsFunc_Served) := ⟨Try.f112, s_slices_ContainsFunc_Served, Try.func112, by kernel_rfl⟩
theorem K_impl_servedSo : BodyOk Try.prog n_impl_servedSo (.go h_impl_servedSo) := ⟨Try.f68, s_impl_servedSo, Try.func68, by kernel_rfl⟩
theorem K_impl_ServedEach : BodyOk Try.prog n_impl_ServedEach (.go h_impl_ServedEach) := ⟨Try.f35, s_impl_ServedEach, Try.func35, by kernel_rfl⟩
theorem K_laws_eqRule : BodyOk Try.prog n_laws_eqRule (.go h_laws_eqRule) := ⟨Try.f175, s_laws_eqRule, Try.func175, by kernel_rfl⟩
theorem K_laws_eqRuleS : BodyOk Try.prog n_laws_eqRuleS (.go h_laws_eqRuleS) := ⟨Try.f149, s_laws_eqRuleS, Try.func149, by kernel_rfl⟩
theorem K_laws_eqConfig : BodyOk Try.prog n_laws_eqConfig (.go h_laws_eqConfig) := ⟨Try.f103, s_laws_eqConfig, Try.func103, by kernel_rfl⟩
theorem K_laws_eqIntS : BodyOk Try.prog n_laws_eqIntS (.go h_laws_eqIntS) := ⟨Try.f44, s_laws_eqIntS, Try.func44, by kernel_rfl⟩
theorem K_laws_eqBoolS : BodyOk Try.prog n_laws_eqBoolS (.go h_laws_eqBoolS) := ⟨Try.f45, s_laws_eqBoolS, Try.func45, by kernel_rfl⟩
theorem K_laws_eqReq : BodyOk Try.prog n_laws_eqReq (.go h_laws_eqReq) := ⟨Try.f21, s_laws_eqReq, Try.func21, by kernel_rfl⟩
theorem K_laws_eqPart : BodyOk Try.prog n_laws_eqPart (.go h_laws_eqPart) := ⟨Try.f179, s_laws_eqPart, Try.func179, by kernel_rfl⟩
theorem K_laws_eqPartS : BodyOk Try.prog n_laws_eqPartS (.go h_laws_eqPartS) := ⟨Try.f153, s_laws_eqPartS, Try.func153, by kernel_rfl⟩
theorem K_laws_eqResp : BodyOk Try.prog n_laws_eqResp (.go h_laws_eqResp) := ⟨Try.f15, s_laws_eqResp, Try.func15, by kernel_rfl⟩
theorem K_laws_eqRespS : BodyOk Try.prog n_laws_eqRespS (.go h_laws_eqRespS) := ⟨Try.f154, s_laws_eqRespS, Try.func154, by kernel_rfl⟩
theorem K_laws_eqPend : BodyOk Try.prog n_laws_eqPend (.go h_laws_eqPend) := ⟨Try.f176, s_laws_eqPend, Try.func176, by kernel_rfl⟩
theorem K_laws_eqPendS : BodyOk Try.prog n_laws_eqPendS (.go h_laws_eqPendS) := ⟨Try.f150, s_laws_eqPendS, Try.func150, by kernel_rfl⟩
theorem K_laws_eqTable : BodyOk Try.prog n_laws_eqTable (.go h_laws_eqTable) := ⟨Try.f104, s_laws_eqTable, Try.func104, by kernel_rfl⟩
theorem K_laws_eqCall : BodyOk Try.prog n_laws_eqCall (.go h_laws_eqCall) := ⟨Try.f178, s_laws_eqCall, Try.func178, by kernel_rfl⟩
theorem K_laws_eqCallS : BodyOk Try.prog n_laws_eqCallS (.go h_laws_eqCallS) := ⟨Try.f177, s_laws_eqCallS, Try.func177, by kernel_rfl⟩
theorem K_laws_eqLine : BodyOk Try.prog n_laws_eqLine (.go h_laws_eqLine) := ⟨Try.f151, s_laws_eqLine, Try.func151, by kernel_rfl⟩
theorem K_laws_eqLineS : BodyOk Try.prog n_laws_eqLineS (.go h_laws_eqLineS) := ⟨Try.f105, s_laws_eqLineS, Try.func105, by kernel_rfl⟩
theorem K_laws_eqFabric : BodyOk Try.prog n_laws_eqFabric (.go h_laws_eqFabric) := ⟨Try.f62, s_laws_eqFabric, Try.func62, by kernel_rfl⟩
theorem K_laws_eqDevice : BodyOk Try.prog n_laws_eqDevice (.go h_laws_eqDevice) := ⟨Try.f152, s_laws_eqDevice, Try.func152, by kernel_rfl⟩
theorem K_laws_eqPost : BodyOk Try.prog n_laws_eqPost (.go h_laws_eqPost) := ⟨Try.f106, s_laws_eqPost, Try.func106, by kernel_rfl⟩
theorem K_laws_eqPostS : BodyOk Try.prog n_laws_eqPostS (.go h_laws_eqPostS) := ⟨Try.f63, s_laws_eqPostS, Try.func63, by kernel_rfl⟩
theorem K_laws_eqPacket : BodyOk Try.prog n_laws_eqPacket (.go h_laws_eqPacket) := ⟨Try.f107, s_laws_eqPacket, Try.func107, by kernel_rfl⟩
theorem K_laws_eqPacketS : BodyOk Try.prog n_laws_eqPacketS (.go h_laws_eqPacketS) := ⟨Try.f64, s_laws_eqPacketS, Try.func64, by kernel_rfl⟩
theorem K_laws_eqReply : BodyOk Try.prog n_laws_eqReply (.go h_laws_eqReply) := ⟨Try.f108, s_laws_eqReply, Try.func108, by kernel_rfl⟩
theorem K_laws_eqReplyS : BodyOk Try.prog n_laws_eqReplyS (.go h_laws_eqReplyS) := ⟨Try.f65, s_laws_eqReplyS, Try.func65, by kernel_rfl⟩
theorem K_laws_eqServed : BodyOk Try.prog n_laws_eqServed (.go h_laws_eqServed) := ⟨Try.f109, s_laws_eqServed, Try.func109, by kernel_rfl⟩
theorem K_laws_eqServedS : BodyOk Try.prog n_laws_eqServedS (.go h_laws_eqServedS) := ⟨Try.f66, s_laws_eqServedS, Try.func66, by kernel_rfl⟩
theorem K_laws_eqWorld : BodyOk Try.prog n_laws_eqWorld (.go h_laws_eqWorld) := ⟨Try.f31, s_laws_eqWorld, Try.func31, by kernel_rfl⟩
theorem K_laws_FnExactServedEach : BodyOk Try.prog n_laws_FnExactServedEach (.go h_laws_FnExactServedEach) := ⟨Try.f7, s_laws_FnExactServedEach, Try.func7, by kernel_rfl⟩
theorem tabOk_of {P : Program} : ∀ {L : List (FuncId × Body)}, (∀ p ∈ L, BodyOk P p.1 p.2) → TabOk P (fun f => L.lookup f)
  | [], _, f, b, h => by cases h
  | (g, c) :: L, hL, f, b, h => by
    simp only [List.lookup] at h
    split at h
    · rename_i e
      have e : f = g := by simpa using e
      cases h
      subst e
      exact hL _ (List.mem_cons_self ..)
    · exact tabOk_of (L := L) (fun p hp => hL p (List.mem_cons_of_mem _ hp)) f b h

theorem tab_ok : TabOk Try.prog tab := tabOk_of (L := tabL) (List.forall_mem_cons.2 ⟨K_laws_szRuleS, List.forall_mem_cons.2 ⟨K_laws_szConfig, List.forall_mem_cons.2 ⟨K_laws_szIntS, List.forall_mem_cons.2 ⟨K_laws_szBoolS, List.forall_mem_cons.2 ⟨K_laws_szReq, List.forall_mem_cons.2 ⟨K_laws_szPart, List.forall_mem_cons.2 ⟨K_laws_szPartS, List.forall_mem_cons.2 ⟨K_laws_szResp, List.forall_mem_cons.2 ⟨K_laws_szRespS, List.forall_mem_cons.2 ⟨K_laws_szPend, List.forall_mem_cons.2 ⟨K_laws_szPendS, List.forall_mem_cons.2 ⟨K_laws_szTable, List.forall_mem_cons.2 ⟨K_laws_szCall, List.forall_mem_cons.2 ⟨K_laws_szCallS, List.forall_mem_cons.2 ⟨K_laws_szLine, List.forall_mem_cons.2 ⟨K_laws_szLineS, List.forall_mem_cons.2 ⟨K_laws_szFabric, List.forall_mem_cons.2 ⟨K_laws_szDevice, List.forall_mem_cons.2 ⟨K_laws_szPost, List.forall_mem_cons.2 ⟨K_laws_szPostS, List.forall_mem_cons.2 ⟨K_laws_szPacket, List.forall_mem_cons.2 ⟨K_laws_szPacketS, List.forall_mem_cons.2 ⟨K_laws_szReply, List.forall_mem_cons.2 ⟨K_laws_szReplyS, List.forall_mem_cons.2 ⟨K_laws_szServed, List.forall_mem_cons.2 ⟨K_laws_szServedS, List.forall_mem_cons.2 ⟨K_laws_szWorld, List.forall_mem_cons.2 ⟨K_laws_toRule, List.forall_mem_cons.2 ⟨K_laws_toRuleS, List.forall_mem_cons.2 ⟨K_laws_toConfig, List.forall_mem_cons.2 ⟨K_laws_toIntS, List.forall_mem_cons.2 ⟨K_laws_toBoolS, List.forall_mem_cons.2 ⟨K_laws_toReq, List.forall_mem_cons.2 ⟨K_laws_toPart, List.forall_mem_cons.2 ⟨K_laws_toPartS, List.forall_mem_cons.2 ⟨K_laws_toResp, List.forall_mem_cons.2 ⟨K_laws_toRespS, List.forall_mem_cons.2 ⟨K_laws_toPend, List.forall_mem_cons.2 ⟨K_laws_toPendS, List.forall_mem_cons.2 ⟨K_laws_toTable, List.forall_mem_cons.2 ⟨K_laws_toCall, List.forall_mem_cons.2 ⟨K_laws_toCallS, List.forall_mem_cons.2 ⟨K_laws_toLine, List.forall_mem_cons.2 ⟨K_laws_toLineS, List.forall_mem_cons.2 ⟨K_laws_toFabric, List.forall_mem_cons.2 ⟨K_laws_toDevice, List.forall_mem_cons.2 ⟨K_laws_toPost, List.forall_mem_cons.2 ⟨K_laws_toPostS, List.forall_mem_cons.2 ⟨K_laws_toPacket, List.forall_mem_cons.2 ⟨K_laws_toPacketS, List.forall_mem_cons.2 ⟨K_laws_toReply, List.forall_mem_cons.2 ⟨K_laws_toReplyS, List.forall_mem_cons.2 ⟨K_laws_toServed, List.forall_mem_cons.2 ⟨K_laws_toServedS, List.forall_mem_cons.2 ⟨K_laws_toWorld, List.forall_mem_cons.2 ⟨K_spec_l4SameWords, List.forall_mem_cons.2 ⟨K_spec_l5SameBits, List.forall_mem_cons.2 ⟨K_spec_l14SameReq, List.forall_mem_cons.2 ⟨K_spec_l16SameResp, List.forall_mem_cons.2 ⟨K_spec_l16Served, List.forall_mem_cons.2 ⟨K_spec_ServedEach, List.forall_mem_cons.2 ⟨K_slices_Equal_int, List.forall_mem_cons.2 ⟨K_slices_Equal_bool, List.forall_mem_cons.2 ⟨K_impl_sameReq, List.forall_mem_cons.2 ⟨K_impl_sameResp, List.forall_mem_cons.2 ⟨K_impl_servedSo_1, List.forall_mem_cons.2 ⟨K_slices_IndexFunc_Served, List.forall_mem_cons.2 ⟨K_slices_ContainsFunc_Served, List.forall_mem_cons.2 ⟨K_impl_servedSo, List.forall_mem_cons.2 ⟨K_impl_ServedEach, List.forall_mem_cons.2 ⟨K_laws_eqRule, List.forall_mem_cons.2 ⟨K_laws_eqRuleS, List.forall_mem_cons.2 ⟨K_laws_eqConfig, List.forall_mem_cons.2 ⟨K_laws_eqIntS, List.forall_mem_cons.2 ⟨K_laws_eqBoolS, List.forall_mem_cons.2 ⟨K_laws_eqReq, List.forall_mem_cons.2 ⟨K_laws_eqPart, List.forall_mem_cons.2 ⟨K_laws_eqPartS, List.forall_mem_cons.2 ⟨K_laws_eqResp, List.forall_mem_cons.2 ⟨K_laws_eqRespS, List.forall_mem_cons.2 ⟨K_laws_eqPend, List.forall_mem_cons.2 ⟨K_laws_eqPendS, List.forall_mem_cons.2 ⟨K_laws_eqTable, List.forall_mem_cons.2 ⟨K_laws_eqCall, List.forall_mem_cons.2 ⟨K_laws_eqCallS, List.forall_mem_cons.2 ⟨K_laws_eqLine, List.forall_mem_cons.2 ⟨K_laws_eqLineS, List.forall_mem_cons.2 ⟨K_laws_eqFabric, List.forall_mem_cons.2 ⟨K_laws_eqDevice, List.forall_mem_cons.2 ⟨K_laws_eqPost, List.forall_mem_cons.2 ⟨K_laws_eqPostS, List.forall_mem_cons.2 ⟨K_laws_eqPacket, List.forall_mem_cons.2 ⟨K_laws_eqPacketS, List.forall_mem_cons.2 ⟨K_laws_eqReply, List.forall_mem_cons.2 ⟨K_laws_eqReplyS, List.forall_mem_cons.2 ⟨K_laws_eqServed, List.forall_mem_cons.2 ⟨K_laws_eqServedS, List.forall_mem_cons.2 ⟨K_laws_eqWorld, List.forall_mem_cons.2 ⟨K_laws_FnExactServedEach, fun _ h => by cases h⟩⟩⟩⟩⟩⟩⟩⟩⟩⟩⟩⟩⟩⟩⟩⟩⟩⟩⟩⟩⟩⟩⟩⟩⟩⟩⟩⟩⟩⟩⟩⟩⟩⟩⟩⟩⟩⟩⟩⟩⟩⟩⟩⟩⟩⟩⟩⟩⟩⟩⟩⟩⟩⟩⟩⟩⟩⟩⟩⟩⟩⟩⟩⟩⟩⟩⟩⟩⟩⟩⟩⟩⟩⟩⟩⟩⟩⟩⟩⟩⟩⟩⟩⟩⟩⟩⟩⟩⟩⟩⟩⟩⟩⟩⟩⟩⟩⟩⟩)
end Go.Pm
