/- Proved: the law FnExactServedEach answers true at all arguments, for every operating system that has started; no conditions beyond the row's own. -/
import Derived.Test.YtgmekbinlpnpoaaMl
set_option linter.unusedVariables false
set_option linter.unusedSimpArgs false
namespace Go.Pm
set_option maxRecDepth 100000
attribute [local simp] RunC_seq RunC_cond RunC_block RunC_skip RunC_exit RunC_ret RunC_region runOps St.wanted St.step St.dest St.settle St.settleLeaf St.rd V.borrowAll V.borrow borrows V.killVar1 St.fin V.unloc1 St.finish St.rdRes tupV St.takesAll St.view St.views St.viewLeaf V.cells bnd binV intBin St.rds St.passes St.windows St.backs St.land flatV scal unV St.cont St.root St.take St.takeLeaf St.takes St.freeze St.freezeLeaf St.freezes V.killBox1 V.leafwise St.settles lenV intV V.only1 St.viewsAll V.fresh V.freshL St.putCells St.putCell St.put St.get St.setCont St.setRoot Root.okAt St.kill V.kill1
attribute [local simp] RunC_draw runD St.only evalP St.peek HOp.pure St.listOk V.whole V.parts V.isGone V.notGone St.stepD St.destD chkD RunC_loop St.trim V.under V.under1 V.like V.like1 V.cells1 V.erase V.eraseL take_map_len lt_len

theorem to_IntS (xs : List Int) (hl : xs.length ≤ 1048576) : Run tab n_laws_toIntS [.imm 1 (xs.map (V.int .i64))] [] = some (.own 1 (xs.map (V.int .i64)), []) := by
  rw [Run_go T_laws_toIntS _ _ rfl]
  have hm : xs.length * 8 ≤ 70368744177664 := by omega
  have hloop := iter_list (T := tab) (ns := 5) (nb := 0) (dead := [1, 4]) (xs := xs) (ex := .exit 0) (P := fun _ _ => True) (b := l_laws_toIntS_0)
    (J := fun d t => ⟨[.imm 1 (xs.map (V.int .i64)), .gone, .own 1 (d.map (V.int .i64) ++ List.replicate t.length (.int .i64 0)), .int .i64 d.length, .gone], []⟩) trivial (by simp)
    (s := ⟨[.imm 1 (xs.map (V.int .i64)), .own 1 [], .own 1 (List.replicate xs.length (.int .i64 0)), .int .i64 0, .gone], []⟩)
    (sE := ⟨[.imm 1 (xs.map (V.int .i64)), .gone, .own 1 (xs.map (V.int .i64)), .int .i64 xs.length, .bool false], []⟩)
    (fun d x t he _ => by
      have hlt : d.length < xs.length := by rw [← he]; simp
      have hw := wrap_len (a := d.length) (by omega)
      simp [l_laws_toIntS_0, ← he, hw, List.replicate_succ])
    (fun _ => by simp [l_laws_toIntS_0]) (by simp)
  have hm' : xs.length ≤ 70368744177664 := by omega
  simp [h_laws_toIntS, hm, hloop]

theorem to_BoolS (xs : List Bool) (hl : xs.length ≤ 1048576) : Run tab n_laws_toBoolS [.imm 1 (xs.map V.bool)] [] = some (.own 1 (xs.map V.bool), []) := by
  rw [Run_go T_laws_toBoolS _ _ rfl]
  have hm : xs.length * 1 ≤ 70368744177664 := by omega
  have hloop := iter_list (T := tab) (ns := 5) (nb := 0) (dead := [1, 4]) (xs := xs) (ex := .exit 0) (P := fun _ _ => True) (b := l_laws_toBoolS_0)
    (J := fun d t => ⟨[.imm 1 (xs.map V.bool), .gone, .own 1 (d.map V.bool ++ List.replicate t.length (.bool false)), .int .i64 d.length, .gone], []⟩) trivial (by simp)
    (s := ⟨[.imm 1 (xs.map V.bool), .own 1 [], .own 1 (List.replicate xs.length (.bool false)), .int .i64 0, .gone], []⟩)
    (sE := ⟨[.imm 1 (xs.map V.bool), .gone, .own 1 (xs.map V.bool), .int .i64 xs.length, .bool false], []⟩)
    (fun d x t he _ => by
      have hlt : d.length < xs.length := by rw [← he]; simp
      have hw := wrap_len (a := d.length) (by omega)
      simp [l_laws_toBoolS_0, ← he, hw, List.replicate_succ])
    (fun _ => by simp [l_laws_toBoolS_0]) (by simp)
  have hm' : xs.length ≤ 70368744177664 := by omega
  simp [h_laws_toBoolS, hm', hloop]

theorem to_Rule (a : TRule) (h : a.sz ≤ 1048576) : Run tab n_laws_toRule [.agg [V.int .i64 a.fUnit, V.int .i64 a.fSpace, V.int .i64 a.fLo, V.int .i64 a.fHi, V.int .i64 a.fPort, V.int .i64 a.fTo, V.int .i64 a.fShift]] [] = some (.agg [V.int .i64 a.fUnit, V.int .i64 a.fSpace, V.int .i64 a.fLo, V.int .i64 a.fHi, V.int .i64 a.fPort, V.int .i64 a.fTo, V.int .i64 a.fShift], []) := by
  simp only [TRule.sz] at h
  rw [Run_go T_laws_toRule _ _ rfl]
  simp [h_laws_toRule]

theorem to_RuleS (xs : List TRule) (hl : xs.length ≤ 1048576) : Run tab n_laws_toRuleS [.imm 7 (xs.map TRule.i)] [] = some (.own 7 (xs.map TRule.o), []) := by
  rw [Run_go T_laws_toRuleS _ _ rfl]
  have hm : xs.length * 56 ≤ 70368744177664 := by omega
  have hloop := iter_list (T := tab) (ns := 5) (nb := 0) (dead := [1, 4]) (xs := xs) (ex := .exit 0) (P := fun _ _ => True) (b := l_laws_toRuleS_0)
    (J := fun d t => ⟨[.imm 7 (xs.map TRule.i), .gone, .own 7 (d.map TRule.o ++ List.replicate t.length z_Rule), .int .i64 d.length, .gone], []⟩) trivial (by simp)
    (s := ⟨[.imm 7 (xs.map TRule.i), .own 7 [], .own 7 (List.replicate xs.length z_Rule), .int .i64 0, .gone], []⟩)
    (sE := ⟨[.imm 7 (xs.map TRule.i), .gone, .own 7 (xs.map TRule.o), .int .i64 xs.length, .bool false], []⟩)
    (fun d x t he _ => by
      have hlt : d.length < xs.length := by rw [← he]; simp
      have hw := wrap_len (a := d.length) (by omega)
      have hx : x.sz ≤ 1048576 := by simp [TRule.sz]
      have hX := to_Rule x hx
      simp [l_laws_toRuleS_0, ← he, hw, List.replicate_succ, TRule.i, TRule.ic, TRule.o, TRule.oc, z_Rule, hX])
    (fun _ => by simp [l_laws_toRuleS_0]) (by simp)
  simp [h_laws_toRuleS, hm, z_Rule] at hloop ⊢
  simp [hloop]

theorem to_Config (a : TConfig) (h : a.sz ≤ 1048576) : Run tab n_laws_toConfig [.agg [V.int .i64 a.fWait, V.int .i64 a.fTries, V.imm 7 (a.fRules.map TRule.i)]] [] = some (.agg [V.int .i64 a.fWait, V.int .i64 a.fTries, V.own 7 (a.fRules.map TRule.o)], []) := by
  simp only [TConfig.sz] at h
  rw [Run_go T_laws_toConfig _ _ rfl]
  have u0 := to_RuleS a.fRules (by omega)
  simp [h_laws_toConfig, u0, fresh_RuleS]

theorem to_Req (a : TReq) (h : a.sz ≤ 1048576) : Run tab n_laws_toReq [.agg [V.int .i64 a.fKind, V.int .i64 a.fAt, V.int .i64 a.fN, V.imm 1 (a.fWords.map (V.int .i64)), V.imm 1 (a.fBits.map V.bool), V.int .i64 a.fWAt]] [] = some (.agg [V.int .i64 a.fKind, V.int .i64 a.fAt, V.int .i64 a.fN, V.own 1 (a.fWords.map (V.int .i64)), V.own 1 (a.fBits.map V.bool), V.int .i64 a.fWAt], []) := by
  simp only [TReq.sz] at h
  rw [Run_go T_laws_toReq _ _ rfl]
  have u0 := to_IntS a.fWords (by omega)
  have u1 := to_BoolS a.fBits (by omega)
  simp [h_laws_toReq, u0, u1, fresh_IntS, fresh_BoolS]

theorem to_Part (a : TPart) (h : a.sz ≤ 1048576) : Run tab n_laws_toPart [.agg [V.int .i64 a.fPort, V.int .i64 a.fUnit, V.int .i64 a.fReq.fKind, V.int .i64 a.fReq.fAt, V.int .i64 a.fReq.fN, V.imm 1 (a.fReq.fWords.map (V.int .i64)), V.imm 1 (a.fReq.fBits.map V.bool), V.int .i64 a.fReq.fWAt]] [] = some (.agg [V.int .i64 a.fPort, V.int .i64 a.fUnit, V.int .i64 a.fReq.fKind, V.int .i64 a.fReq.fAt, V.int .i64 a.fReq.fN, V.own 1 (a.fReq.fWords.map (V.int .i64)), V.own 1 (a.fReq.fBits.map V.bool), V.int .i64 a.fReq.fWAt], []) := by
  simp only [TPart.sz] at h
  rw [Run_go T_laws_toPart _ _ rfl]
  have u0 := to_Req a.fReq (by omega)
  simp [h_laws_toPart, u0, fresh_IntS, fresh_BoolS]

theorem to_PartS (xs : List TPart) (hl : xs.length + (xs.map TPart.sz).sum ≤ 1048576) : Run tab n_laws_toPartS [.imm 8 (xs.map TPart.i)] [] = some (.own 8 (xs.map TPart.o), []) := by
  rw [Run_go T_laws_toPartS _ _ rfl]
  have hm : xs.length * 96 ≤ 70368744177664 := by omega
  have hloop := iter_list (T := tab) (ns := 5) (nb := 0) (dead := [1, 4]) (xs := xs) (ex := .exit 0) (P := fun _ _ => True) (b := l_laws_toPartS_0)
    (J := fun d t => ⟨[.imm 8 (xs.map TPart.i), .gone, .own 8 (d.map TPart.o ++ List.replicate t.length z_Part), .int .i64 d.length, .gone], []⟩) trivial (by simp)
    (s := ⟨[.imm 8 (xs.map TPart.i), .own 8 [], .own 8 (List.replicate xs.length z_Part), .int .i64 0, .gone], []⟩)
    (sE := ⟨[.imm 8 (xs.map TPart.i), .gone, .own 8 (xs.map TPart.o), .int .i64 xs.length, .bool false], []⟩)
    (fun d x t he _ => by
      have hlt : d.length < xs.length := by rw [← he]; simp
      have hw := wrap_len (a := d.length) (by omega)
      have hx : x.sz ≤ 1048576 := by rw [← he] at hl; simp at hl; omega
      have hX := to_Part x hx
      simp [l_laws_toPartS_0, ← he, hw, List.replicate_succ, TPart.i, TPart.ic, TPart.o, TPart.oc, z_Part, hX, fresh_IntS, fresh_BoolS])
    (fun _ => by simp [l_laws_toPartS_0]) (by simp)
  simp [h_laws_toPartS, hm, z_Part] at hloop ⊢
  simp [hloop]

theorem to_Resp (a : TResp) (h : a.sz ≤ 1048576) : Run tab n_laws_toResp [.agg [V.int .i64 a.fKind, V.int .i64 a.fFault, V.int .i64 a.fAt, V.int .i64 a.fN, V.imm 1 (a.fWords.map (V.int .i64)), V.imm 1 (a.fBits.map V.bool)]] [] = some (.agg [V.int .i64 a.fKind, V.int .i64 a.fFault, V.int .i64 a.fAt, V.int .i64 a.fN, V.own 1 (a.fWords.map (V.int .i64)), V.own 1 (a.fBits.map V.bool)], []) := by
  simp only [TResp.sz] at h
  rw [Run_go T_laws_toResp _ _ rfl]
  have u0 := to_IntS a.fWords (by omega)
  have u1 := to_BoolS a.fBits (by omega)
  simp [h_laws_toResp, u0, u1, fresh_IntS, fresh_BoolS]

theorem to_RespS (xs : List TResp) (hl : xs.length + (xs.map TResp.sz).sum ≤ 1048576) : Run tab n_laws_toRespS [.imm 6 (xs.map TResp.i)] [] = some (.own 6 (xs.map TResp.o), []) := by
  rw [Run_go T_laws_toRespS _ _ rfl]
  have hm : xs.length * 80 ≤ 70368744177664 := by omega
  have hloop := iter_list (T := tab) (ns := 5) (nb := 0) (dead := [1, 4]) (xs := xs) (ex := .exit 0) (P := fun _ _ => True) (b := l_laws_toRespS_0)
    (J := fun d t => ⟨[.imm 6 (xs.map TResp.i), .gone, .own 6 (d.map TResp.o ++ List.replicate t.length z_Resp), .int .i64 d.length, .gone], []⟩) trivial (by simp)
    (s := ⟨[.imm 6 (xs.map TResp.i), .own 6 [], .own 6 (List.replicate xs.length z_Resp), .int .i64 0, .gone], []⟩)
    (sE := ⟨[.imm 6 (xs.map TResp.i), .gone, .own 6 (xs.map TResp.o), .int .i64 xs.length, .bool false], []⟩)
    (fun d x t he _ => by
      have hlt : d.length < xs.length := by rw [← he]; simp
      have hw := wrap_len (a := d.length) (by omega)
      have hx : x.sz ≤ 1048576 := by rw [← he] at hl; simp at hl; omega
      have hX := to_Resp x hx
      simp [l_laws_toRespS_0, ← he, hw, List.replicate_succ, TResp.i, TResp.ic, TResp.o, TResp.oc, z_Resp, hX, fresh_IntS, fresh_BoolS])
    (fun _ => by simp [l_laws_toRespS_0]) (by simp)
  simp [h_laws_toRespS, hm, z_Resp] at hloop ⊢
  simp [hloop]

theorem to_Pend (a : TPend) (h : a.sz ≤ 1048576) : Run tab n_laws_toPend [.agg [V.int .i64 a.fId, V.int .i64 a.fSource, V.int .i64 a.fTag, V.int .i64 a.fUnit, V.int .i64 a.fReq.fKind, V.int .i64 a.fReq.fAt, V.int .i64 a.fReq.fN, V.imm 1 (a.fReq.fWords.map (V.int .i64)), V.imm 1 (a.fReq.fBits.map V.bool), V.int .i64 a.fReq.fWAt, V.imm 8 (a.fParts.map TPart.i), V.imm 1 (a.fHas.map V.bool), V.imm 6 (a.fTold.map TResp.i)]] [] = some (.agg [V.int .i64 a.fId, V.int .i64 a.fSource, V.int .i64 a.fTag, V.int .i64 a.fUnit, V.int .i64 a.fReq.fKind, V.int .i64 a.fReq.fAt, V.int .i64 a.fReq.fN, V.own 1 (a.fReq.fWords.map (V.int .i64)), V.own 1 (a.fReq.fBits.map V.bool), V.int .i64 a.fReq.fWAt, V.own 8 (a.fParts.map TPart.o), V.own 1 (a.fHas.map V.bool), V.own 6 (a.fTold.map TResp.o)], []) := by
  simp only [TPend.sz] at h
  rw [Run_go T_laws_toPend _ _ rfl]
  have u0 := to_Req a.fReq (by omega)
  have u1 := to_PartS a.fParts (by omega)
  have u2 := to_BoolS a.fHas (by omega)
  have u3 := to_RespS a.fTold (by omega)
  simp [h_laws_toPend, u0, u1, u2, u3, fresh_IntS, fresh_BoolS, fresh_PartS, fresh_RespS]

theorem to_PendS (xs : List TPend) (hl : xs.length + (xs.map TPend.sz).sum ≤ 1048576) : Run tab n_laws_toPendS [.imm 13 (xs.map TPend.i)] [] = some (.own 13 (xs.map TPend.o), []) := by
  rw [Run_go T_laws_toPendS _ _ rfl]
  have hm : xs.length * 184 ≤ 70368744177664 := by omega
  have hloop := iter_list (T := tab) (ns := 5) (nb := 0) (dead := [1, 4]) (xs := xs) (ex := .exit 0) (P := fun _ _ => True) (b := l_laws_toPendS_0)
    (J := fun d t => ⟨[.imm 13 (xs.map TPend.i), .gone, .own 13 (d.map TPend.o ++ List.replicate t.length z_Pend), .int .i64 d.length, .gone], []⟩) trivial (by simp)
    (s := ⟨[.imm 13 (xs.map TPend.i), .own 13 [], .own 13 (List.replicate xs.length z_Pend), .int .i64 0, .gone], []⟩)
    (sE := ⟨[.imm 13 (xs.map TPend.i), .gone, .own 13 (xs.map TPend.o), .int .i64 xs.length, .bool false], []⟩)
    (fun d x t he _ => by
      have hlt : d.length < xs.length := by rw [← he]; simp
      have hw := wrap_len (a := d.length) (by omega)
      have hx : x.sz ≤ 1048576 := by rw [← he] at hl; simp at hl; omega
      have hX := to_Pend x hx
      simp [l_laws_toPendS_0, ← he, hw, List.replicate_succ, TPend.i, TPend.ic, TPend.o, TPend.oc, z_Pend, hX, fresh_IntS, fresh_BoolS, fresh_PartS, fresh_RespS])
    (fun _ => by simp [l_laws_toPendS_0]) (by simp)
  simp [h_laws_toPendS, hm, z_Pend] at hloop ⊢
  simp [hloop]

theorem to_Table (a : TTable) (h : a.sz ≤ 1048576) : Run tab n_laws_toTable [.agg [V.int .i64 a.fNext, V.imm 13 (a.fList.map TPend.i)]] [] = some (.agg [V.int .i64 a.fNext, V.own 13 (a.fList.map TPend.o)], []) := by
  simp only [TTable.sz] at h
  rw [Run_go T_laws_toTable _ _ rfl]
  have u0 := to_PendS a.fList (by omega)
  simp [h_laws_toTable, u0, fresh_PendS]

theorem to_Call (a : TCall) (h : a.sz ≤ 1048576) : Run tab n_laws_toCall [.agg [V.int .i64 a.fId, V.int .i64 a.fPart, V.int .i64 a.fUnit, V.int .i64 a.fReq.fKind, V.int .i64 a.fReq.fAt, V.int .i64 a.fReq.fN, V.imm 1 (a.fReq.fWords.map (V.int .i64)), V.imm 1 (a.fReq.fBits.map V.bool), V.int .i64 a.fReq.fWAt]] [] = some (.agg [V.int .i64 a.fId, V.int .i64 a.fPart, V.int .i64 a.fUnit, V.int .i64 a.fReq.fKind, V.int .i64 a.fReq.fAt, V.int .i64 a.fReq.fN, V.own 1 (a.fReq.fWords.map (V.int .i64)), V.own 1 (a.fReq.fBits.map V.bool), V.int .i64 a.fReq.fWAt], []) := by
  simp only [TCall.sz] at h
  rw [Run_go T_laws_toCall _ _ rfl]
  have u0 := to_Req a.fReq (by omega)
  simp [h_laws_toCall, u0, fresh_IntS, fresh_BoolS]

theorem to_CallS (xs : List TCall) (hl : xs.length + (xs.map TCall.sz).sum ≤ 1048576) : Run tab n_laws_toCallS [.imm 9 (xs.map TCall.i)] [] = some (.own 9 (xs.map TCall.o), []) := by
  rw [Run_go T_laws_toCallS _ _ rfl]
  have hm : xs.length * 104 ≤ 70368744177664 := by omega
  have hloop := iter_list (T := tab) (ns := 5) (nb := 0) (dead := [1, 4]) (xs := xs) (ex := .exit 0) (P := fun _ _ => True) (b := l_laws_toCallS_0)
    (J := fun d t => ⟨[.imm 9 (xs.map TCall.i), .gone, .own 9 (d.map TCall.o ++ List.replicate t.length z_Call), .int .i64 d.length, .gone], []⟩) trivial (by simp)
    (s := ⟨[.imm 9 (xs.map TCall.i), .own 9 [], .own 9 (List.replicate xs.length z_Call), .int .i64 0, .gone], []⟩)
    (sE := ⟨[.imm 9 (xs.map TCall.i), .gone, .own 9 (xs.map TCall.o), .int .i64 xs.length, .bool false], []⟩)
    (fun d x t he _ => by
      have hlt : d.length < xs.length := by rw [← he]; simp
      have hw := wrap_len (a := d.length) (by omega)
      have hx : x.sz ≤ 1048576 := by rw [← he] at hl; simp at hl; omega
      have hX := to_Call x hx
      simp [l_laws_toCallS_0, ← he, hw, List.replicate_succ, TCall.i, TCall.ic, TCall.o, TCall.oc, z_Call, hX, fresh_IntS, fresh_BoolS])
    (fun _ => by simp [l_laws_toCallS_0]) (by simp)
  simp [h_laws_toCallS, hm, z_Call] at hloop ⊢
  simp [hloop]

theorem to_Line (a : TLine) (h : a.sz ≤ 1048576) : Run tab n_laws_toLine [.agg [V.imm 9 (a.fQueue.map TCall.i), V.bool a.fBusy, V.int .i64 a.fCall.fId, V.int .i64 a.fCall.fPart, V.int .i64 a.fCall.fUnit, V.int .i64 a.fCall.fReq.fKind, V.int .i64 a.fCall.fReq.fAt, V.int .i64 a.fCall.fReq.fN, V.imm 1 (a.fCall.fReq.fWords.map (V.int .i64)), V.imm 1 (a.fCall.fReq.fBits.map V.bool), V.int .i64 a.fCall.fReq.fWAt, V.int .i64 a.fNumber, V.int .i64 a.fDue, V.int .i64 a.fLeft, V.int .i64 a.fNext, V.int .i64 a.fWait, V.int .i64 a.fTries]] [] = some (.agg [V.own 9 (a.fQueue.map TCall.o), V.bool a.fBusy, V.int .i64 a.fCall.fId, V.int .i64 a.fCall.fPart, V.int .i64 a.fCall.fUnit, V.int .i64 a.fCall.fReq.fKind, V.int .i64 a.fCall.fReq.fAt, V.int .i64 a.fCall.fReq.fN, V.own 1 (a.fCall.fReq.fWords.map (V.int .i64)), V.own 1 (a.fCall.fReq.fBits.map V.bool), V.int .i64 a.fCall.fReq.fWAt, V.int .i64 a.fNumber, V.int .i64 a.fDue, V.int .i64 a.fLeft, V.int .i64 a.fNext, V.int .i64 a.fWait, V.int .i64 a.fTries], []) := by
  simp only [TLine.sz] at h
  rw [Run_go T_laws_toLine _ _ rfl]
  have u0 := to_CallS a.fQueue (by omega)
  have u1 := to_Call a.fCall (by omega)
  simp [h_laws_toLine, u0, u1, fresh_CallS, fresh_IntS, fresh_BoolS]

theorem to_LineS (xs : List TLine) (hl : xs.length + (xs.map TLine.sz).sum ≤ 1048576) : Run tab n_laws_toLineS [.imm 17 (xs.map TLine.i)] [] = some (.own 17 (xs.map TLine.o), []) := by
  rw [Run_go T_laws_toLineS _ _ rfl]
  have hm : xs.length * 184 ≤ 70368744177664 := by omega
  have hloop := iter_list (T := tab) (ns := 5) (nb := 0) (dead := [1, 4]) (xs := xs) (ex := .exit 0) (P := fun _ _ => True) (b := l_laws_toLineS_0)
    (J := fun d t => ⟨[.imm 17 (xs.map TLine.i), .gone, .own 17 (d.map TLine.o ++ List.replicate t.length z_Line), .int .i64 d.length, .gone], []⟩) trivial (by simp)
    (s := ⟨[.imm 17 (xs.map TLine.i), .own 17 [], .own 17 (List.replicate xs.length z_Line), .int .i64 0, .gone], []⟩)
    (sE := ⟨[.imm 17 (xs.map TLine.i), .gone, .own 17 (xs.map TLine.o), .int .i64 xs.length, .bool false], []⟩)
    (fun d x t he _ => by
      have hlt : d.length < xs.length := by rw [← he]; simp
      have hw := wrap_len (a := d.length) (by omega)
      have hx : x.sz ≤ 1048576 := by rw [← he] at hl; simp at hl; omega
      have hX := to_Line x hx
      simp [l_laws_toLineS_0, ← he, hw, List.replicate_succ, TLine.i, TLine.ic, TLine.o, TLine.oc, z_Line, hX, fresh_CallS, fresh_IntS, fresh_BoolS])
    (fun _ => by simp [l_laws_toLineS_0]) (by simp)
  simp [h_laws_toLineS, hm, z_Line] at hloop ⊢
  simp [hloop]

theorem to_Fabric (a : TFabric) (h : a.sz ≤ 1048576) : Run tab n_laws_toFabric [.agg [V.int .i64 a.fNow, V.int .i64 a.fSet.fWait, V.int .i64 a.fSet.fTries, V.imm 7 (a.fSet.fRules.map TRule.i), V.int .i64 a.fOpen.fNext, V.imm 13 (a.fOpen.fList.map TPend.i), V.imm 17 (a.fLines.map TLine.i), V.int .i64 a.fAsked, V.int .i64 a.fReplied, V.int .i64 a.fFaults, V.int .i64 a.fSent]] [] = some (.agg [V.int .i64 a.fNow, V.int .i64 a.fSet.fWait, V.int .i64 a.fSet.fTries, V.own 7 (a.fSet.fRules.map TRule.o), V.int .i64 a.fOpen.fNext, V.own 13 (a.fOpen.fList.map TPend.o), V.own 17 (a.fLines.map TLine.o), V.int .i64 a.fAsked, V.int .i64 a.fReplied, V.int .i64 a.fFaults, V.int .i64 a.fSent], []) := by
  simp only [TFabric.sz] at h
  rw [Run_go T_laws_toFabric _ _ rfl]
  have u0 := to_Config a.fSet (by omega)
  have u1 := to_Table a.fOpen (by omega)
  have u2 := to_LineS a.fLines (by omega)
  simp [h_laws_toFabric, u0, u1, u2, fresh_RuleS, fresh_PendS, fresh_LineS]

theorem to_Device (a : TDevice) (h : a.sz ≤ 1048576) : Run tab n_laws_toDevice [.agg [V.imm 1 (a.fCoils.map V.bool), V.imm 1 (a.fInputs.map V.bool), V.imm 1 (a.fHolding.map (V.int .i64)), V.imm 1 (a.fWords.map (V.int .i64))]] [] = some (.agg [V.own 1 (a.fCoils.map V.bool), V.own 1 (a.fInputs.map V.bool), V.own 1 (a.fHolding.map (V.int .i64)), V.own 1 (a.fWords.map (V.int .i64))], []) := by
  simp only [TDevice.sz] at h
  rw [Run_go T_laws_toDevice _ _ rfl]
  have u0 := to_BoolS a.fCoils (by omega)
  have u1 := to_BoolS a.fInputs (by omega)
  have u2 := to_IntS a.fHolding (by omega)
  have u3 := to_IntS a.fWords (by omega)
  simp [h_laws_toDevice, u0, u1, u2, u3, fresh_BoolS, fresh_IntS]

theorem to_Post (a : TPost) (h : a.sz ≤ 1048576) : Run tab n_laws_toPost [.agg [V.int .i64 a.fPort, V.int .i64 a.fUnit, V.imm 1 (a.fD.fCoils.map V.bool), V.imm 1 (a.fD.fInputs.map V.bool), V.imm 1 (a.fD.fHolding.map (V.int .i64)), V.imm 1 (a.fD.fWords.map (V.int .i64))]] [] = some (.agg [V.int .i64 a.fPort, V.int .i64 a.fUnit, V.own 1 (a.fD.fCoils.map V.bool), V.own 1 (a.fD.fInputs.map V.bool), V.own 1 (a.fD.fHolding.map (V.int .i64)), V.own 1 (a.fD.fWords.map (V.int .i64))], []) := by
  simp only [TPost.sz] at h
  rw [Run_go T_laws_toPost _ _ rfl]
  have u0 := to_Device a.fD (by omega)
  simp [h_laws_toPost, u0, fresh_BoolS, fresh_IntS]

theorem to_PostS (xs : List TPost) (hl : xs.length + (xs.map TPost.sz).sum ≤ 1048576) : Run tab n_laws_toPostS [.imm 6 (xs.map TPost.i)] [] = some (.own 6 (xs.map TPost.o), []) := by
  rw [Run_go T_laws_toPostS _ _ rfl]
  have hm : xs.length * 112 ≤ 70368744177664 := by omega
  have hloop := iter_list (T := tab) (ns := 5) (nb := 0) (dead := [1, 4]) (xs := xs) (ex := .exit 0) (P := fun _ _ => True) (b := l_laws_toPostS_0)
    (J := fun d t => ⟨[.imm 6 (xs.map TPost.i), .gone, .own 6 (d.map TPost.o ++ List.replicate t.length z_Post), .int .i64 d.length, .gone], []⟩) trivial (by simp)
    (s := ⟨[.imm 6 (xs.map TPost.i), .own 6 [], .own 6 (List.replicate xs.length z_Post), .int .i64 0, .gone], []⟩)
    (sE := ⟨[.imm 6 (xs.map TPost.i), .gone, .own 6 (xs.map TPost.o), .int .i64 xs.length, .bool false], []⟩)
    (fun d x t he _ => by
      have hlt : d.length < xs.length := by rw [← he]; simp
      have hw := wrap_len (a := d.length) (by omega)
      have hx : x.sz ≤ 1048576 := by rw [← he] at hl; simp at hl; omega
      have hX := to_Post x hx
      simp [l_laws_toPostS_0, ← he, hw, List.replicate_succ, TPost.i, TPost.ic, TPost.o, TPost.oc, z_Post, hX, fresh_BoolS, fresh_IntS])
    (fun _ => by simp [l_laws_toPostS_0]) (by simp)
  simp [h_laws_toPostS, hm, z_Post] at hloop ⊢
  simp [hloop]

theorem to_Packet (a : TPacket) (h : a.sz ≤ 1048576) : Run tab n_laws_toPacket [.agg [V.bool a.fBack, V.int .i64 a.fPort, V.int .i64 a.fNumber, V.int .i64 a.fUnit, V.int .i64 a.fReq.fKind, V.int .i64 a.fReq.fAt, V.int .i64 a.fReq.fN, V.imm 1 (a.fReq.fWords.map (V.int .i64)), V.imm 1 (a.fReq.fBits.map V.bool), V.int .i64 a.fReq.fWAt, V.int .i64 a.fResp.fKind, V.int .i64 a.fResp.fFault, V.int .i64 a.fResp.fAt, V.int .i64 a.fResp.fN, V.imm 1 (a.fResp.fWords.map (V.int .i64)), V.imm 1 (a.fResp.fBits.map V.bool)]] [] = some (.agg [V.bool a.fBack, V.int .i64 a.fPort, V.int .i64 a.fNumber, V.int .i64 a.fUnit, V.int .i64 a.fReq.fKind, V.int .i64 a.fReq.fAt, V.int .i64 a.fReq.fN, V.own 1 (a.fReq.fWords.map (V.int .i64)), V.own 1 (a.fReq.fBits.map V.bool), V.int .i64 a.fReq.fWAt, V.int .i64 a.fResp.fKind, V.int .i64 a.fResp.fFault, V.int .i64 a.fResp.fAt, V.int .i64 a.fResp.fN, V.own 1 (a.fResp.fWords.map (V.int .i64)), V.own 1 (a.fResp.fBits.map V.bool)], []) := by
  simp only [TPacket.sz] at h
  rw [Run_go T_laws_toPacket _ _ rfl]
  have u0 := to_Req a.fReq (by omega)
  have u1 := to_Resp a.fResp (by omega)
  simp [h_laws_toPacket, u0, u1, fresh_IntS, fresh_BoolS]

theorem to_PacketS (xs : List TPacket) (hl : xs.length + (xs.map TPacket.sz).sum ≤ 1048576) : Run tab n_laws_toPacketS [.imm 16 (xs.map TPacket.i)] [] = some (.own 16 (xs.map TPacket.o), []) := by
  rw [Run_go T_laws_toPacketS _ _ rfl]
  have hm : xs.length * 192 ≤ 70368744177664 := by omega
  have hloop := iter_list (T := tab) (ns := 5) (nb := 0) (dead := [1, 4]) (xs := xs) (ex := .exit 0) (P := fun _ _ => True) (b := l_laws_toPacketS_0)
    (J := fun d t => ⟨[.imm 16 (xs.map TPacket.i), .gone, .own 16 (d.map TPacket.o ++ List.replicate t.length z_Packet), .int .i64 d.length, .gone], []⟩) trivial (by simp)
    (s := ⟨[.imm 16 (xs.map TPacket.i), .own 16 [], .own 16 (List.replicate xs.length z_Packet), .int .i64 0, .gone], []⟩)
    (sE := ⟨[.imm 16 (xs.map TPacket.i), .gone, .own 16 (xs.map TPacket.o), .int .i64 xs.length, .bool false], []⟩)
    (fun d x t he _ => by
      have hlt : d.length < xs.length := by rw [← he]; simp
      have hw := wrap_len (a := d.length) (by omega)
      have hx : x.sz ≤ 1048576 := by rw [← he] at hl; simp at hl; omega
      have hX := to_Packet x hx
      simp [l_laws_toPacketS_0, ← he, hw, List.replicate_succ, TPacket.i, TPacket.ic, TPacket.o, TPacket.oc, z_Packet, hX, fresh_IntS, fresh_BoolS])
    (fun _ => by simp [l_laws_toPacketS_0]) (by simp)
  simp [h_laws_toPacketS, hm, z_Packet] at hloop ⊢
  simp [hloop]

theorem to_Reply (a : TReply) (h : a.sz ≤ 1048576) : Run tab n_laws_toReply [.agg [V.int .i64 a.fSource, V.int .i64 a.fTag, V.int .i64 a.fReq.fKind, V.int .i64 a.fReq.fAt, V.int .i64 a.fReq.fN, V.imm 1 (a.fReq.fWords.map (V.int .i64)), V.imm 1 (a.fReq.fBits.map V.bool), V.int .i64 a.fReq.fWAt, V.imm 8 (a.fParts.map TPart.i), V.imm 6 (a.fTold.map TResp.i), V.int .i64 a.fResp.fKind, V.int .i64 a.fResp.fFault, V.int .i64 a.fResp.fAt, V.int .i64 a.fResp.fN, V.imm 1 (a.fResp.fWords.map (V.int .i64)), V.imm 1 (a.fResp.fBits.map V.bool)]] [] = some (.agg [V.int .i64 a.fSource, V.int .i64 a.fTag, V.int .i64 a.fReq.fKind, V.int .i64 a.fReq.fAt, V.int .i64 a.fReq.fN, V.own 1 (a.fReq.fWords.map (V.int .i64)), V.own 1 (a.fReq.fBits.map V.bool), V.int .i64 a.fReq.fWAt, V.own 8 (a.fParts.map TPart.o), V.own 6 (a.fTold.map TResp.o), V.int .i64 a.fResp.fKind, V.int .i64 a.fResp.fFault, V.int .i64 a.fResp.fAt, V.int .i64 a.fResp.fN, V.own 1 (a.fResp.fWords.map (V.int .i64)), V.own 1 (a.fResp.fBits.map V.bool)], []) := by
  simp only [TReply.sz] at h
  rw [Run_go T_laws_toReply _ _ rfl]
  have u0 := to_Req a.fReq (by omega)
  have u1 := to_PartS a.fParts (by omega)
  have u2 := to_RespS a.fTold (by omega)
  have u3 := to_Resp a.fResp (by omega)
  simp [h_laws_toReply, u0, u1, u2, u3, fresh_IntS, fresh_BoolS, fresh_PartS, fresh_RespS]

theorem to_ReplyS (xs : List TReply) (hl : xs.length + (xs.map TReply.sz).sum ≤ 1048576) : Run tab n_laws_toReplyS [.imm 16 (xs.map TReply.i)] [] = some (.own 16 (xs.map TReply.o), []) := by
  rw [Run_go T_laws_toReplyS _ _ rfl]
  have hm : xs.length * 224 ≤ 70368744177664 := by omega
  have hloop := iter_list (T := tab) (ns := 5) (nb := 0) (dead := [1, 4]) (xs := xs) (ex := .exit 0) (P := fun _ _ => True) (b := l_laws_toReplyS_0)
    (J := fun d t => ⟨[.imm 16 (xs.map TReply.i), .gone, .own 16 (d.map TReply.o ++ List.replicate t.length z_Reply), .int .i64 d.length, .gone], []⟩) trivial (by simp)
    (s := ⟨[.imm 16 (xs.map TReply.i), .own 16 [], .own 16 (List.replicate xs.length z_Reply), .int .i64 0, .gone], []⟩)
    (sE := ⟨[.imm 16 (xs.map TReply.i), .gone, .own 16 (xs.map TReply.o), .int .i64 xs.length, .bool false], []⟩)
    (fun d x t he _ => by
      have hlt : d.length < xs.length := by rw [← he]; simp
      have hw := wrap_len (a := d.length) (by omega)
      have hx : x.sz ≤ 1048576 := by rw [← he] at hl; simp at hl; omega
      have hX := to_Reply x hx
      simp [l_laws_toReplyS_0, ← he, hw, List.replicate_succ, TReply.i, TReply.ic, TReply.o, TReply.oc, z_Reply, hX, fresh_IntS, fresh_BoolS, fresh_PartS, fresh_RespS])
    (fun _ => by simp [l_laws_toReplyS_0]) (by simp)
  simp [h_laws_toReplyS, hm, z_Reply] at hloop ⊢
  simp [hloop]

theorem to_Served (a : TServed) (h : a.sz ≤ 1048576) : Run tab n_laws_toServed [.agg [V.int .i64 a.fPort, V.int .i64 a.fNumber, V.int .i64 a.fUnit, V.int .i64 a.fReq.fKind, V.int .i64 a.fReq.fAt, V.int .i64 a.fReq.fN, V.imm 1 (a.fReq.fWords.map (V.int .i64)), V.imm 1 (a.fReq.fBits.map V.bool), V.int .i64 a.fReq.fWAt, V.int .i64 a.fResp.fKind, V.int .i64 a.fResp.fFault, V.int .i64 a.fResp.fAt, V.int .i64 a.fResp.fN, V.imm 1 (a.fResp.fWords.map (V.int .i64)), V.imm 1 (a.fResp.fBits.map V.bool)]] [] = some (.agg [V.int .i64 a.fPort, V.int .i64 a.fNumber, V.int .i64 a.fUnit, V.int .i64 a.fReq.fKind, V.int .i64 a.fReq.fAt, V.int .i64 a.fReq.fN, V.own 1 (a.fReq.fWords.map (V.int .i64)), V.own 1 (a.fReq.fBits.map V.bool), V.int .i64 a.fReq.fWAt, V.int .i64 a.fResp.fKind, V.int .i64 a.fResp.fFault, V.int .i64 a.fResp.fAt, V.int .i64 a.fResp.fN, V.own 1 (a.fResp.fWords.map (V.int .i64)), V.own 1 (a.fResp.fBits.map V.bool)], []) := by
  simp only [TServed.sz] at h
  rw [Run_go T_laws_toServed _ _ rfl]
  have u0 := to_Req a.fReq (by omega)
  have u1 := to_Resp a.fResp (by omega)
  simp [h_laws_toServed, u0, u1, fresh_IntS, fresh_BoolS]

theorem to_ServedS (xs : List TServed) (hl : xs.length + (xs.map TServed.sz).sum ≤ 1048576) : Run tab n_laws_toServedS [.imm 15 (xs.map TServed.i)] [] = some (.own 15 (xs.map TServed.o), []) := by
  rw [Run_go T_laws_toServedS _ _ rfl]
  have hm : xs.length * 184 ≤ 70368744177664 := by omega
  have hloop := iter_list (T := tab) (ns := 5) (nb := 0) (dead := [1, 4]) (xs := xs) (ex := .exit 0) (P := fun _ _ => True) (b := l_laws_toServedS_0)
    (J := fun d t => ⟨[.imm 15 (xs.map TServed.i), .gone, .own 15 (d.map TServed.o ++ List.replicate t.length z_Served), .int .i64 d.length, .gone], []⟩) trivial (by simp)
    (s := ⟨[.imm 15 (xs.map TServed.i), .own 15 [], .own 15 (List.replicate xs.length z_Served), .int .i64 0, .gone], []⟩)
    (sE := ⟨[.imm 15 (xs.map TServed.i), .gone, .own 15 (xs.map TServed.o), .int .i64 xs.length, .bool false], []⟩)
    (fun d x t he _ => by
      have hlt : d.length < xs.length := by rw [← he]; simp
      have hw := wrap_len (a := d.length) (by omega)
      have hx : x.sz ≤ 1048576 := by rw [← he] at hl; simp at hl; omega
      have hX := to_Served x hx
      simp [l_laws_toServedS_0, ← he, hw, List.replicate_succ, TServed.i, TServed.ic, TServed.o, TServed.oc, z_Served, hX, fresh_IntS, fresh_BoolS])
    (fun _ => by simp [l_laws_toServedS_0]) (by simp)
  simp [h_laws_toServedS, hm, z_Served] at hloop ⊢
  simp [hloop]

theorem to_World (a : TWorld) (h : a.sz ≤ 1048576) : Run tab n_laws_toWorld [.agg [V.int .i64 a.fF.fNow, V.int .i64 a.fF.fSet.fWait, V.int .i64 a.fF.fSet.fTries, V.imm 7 (a.fF.fSet.fRules.map TRule.i), V.int .i64 a.fF.fOpen.fNext, V.imm 13 (a.fF.fOpen.fList.map TPend.i), V.imm 17 (a.fF.fLines.map TLine.i), V.int .i64 a.fF.fAsked, V.int .i64 a.fF.fReplied, V.int .i64 a.fF.fFaults, V.int .i64 a.fF.fSent, V.imm 6 (a.fPosts.map TPost.i), V.imm 16 (a.fNet.map TPacket.i), V.imm 16 (a.fReplies.map TReply.i), V.imm 15 (a.fServed.map TServed.i)]] [] = some (.agg [V.int .i64 a.fF.fNow, V.int .i64 a.fF.fSet.fWait, V.int .i64 a.fF.fSet.fTries, V.own 7 (a.fF.fSet.fRules.map TRule.o), V.int .i64 a.fF.fOpen.fNext, V.own 13 (a.fF.fOpen.fList.map TPend.o), V.own 17 (a.fF.fLines.map TLine.o), V.int .i64 a.fF.fAsked, V.int .i64 a.fF.fReplied, V.int .i64 a.fF.fFaults, V.int .i64 a.fF.fSent, V.own 6 (a.fPosts.map TPost.o), V.own 16 (a.fNet.map TPacket.o), V.own 16 (a.fReplies.map TReply.o), V.own 15 (a.fServed.map TServed.o)], []) := by
  simp only [TWorld.sz] at h
  rw [Run_go T_laws_toWorld _ _ rfl]
  have u0 := to_Fabric a.fF (by omega)
  have u1 := to_PostS a.fPosts (by omega)
  have u2 := to_PacketS a.fNet (by omega)
  have u3 := to_ReplyS a.fReplies (by omega)
  have u4 := to_ServedS a.fServed (by omega)
  simp [h_laws_toWorld, u0, u1, u2, u3, u4, fresh_RuleS, fresh_PendS, fresh_LineS, fresh_PostS, fresh_PacketS, fresh_ReplyS, fresh_ServedS]

end Go.Pm

namespace Go.Pm
set_option maxRecDepth 100000
attribute [local simp] RunC_seq RunC_cond RunC_block RunC_skip RunC_exit RunC_ret RunC_region runOps St.wanted St.step St.dest St.settle St.settleLeaf St.rd V.borrowAll V.borrow borrows V.killVar1 St.fin V.unloc1 St.finish St.rdRes tupV St.takesAll St.view St.views St.viewLeaf V.cells bnd binV intBin St.rds St.passes St.windows St.backs St.land flatV scal unV St.cont St.root St.take St.takeLeaf St.takes St.freeze St.freezeLeaf St.freezes V.killBox1 V.leafwise St.settles lenV intV V.only1 St.viewsAll V.fresh V.freshL St.putCells St.putCell St.put St.get St.setCont St.setRoot Root.okAt St.kill V.kill1
attribute [local simp] RunC_draw runD St.only evalP St.peek HOp.pure St.listOk V.whole V.parts V.isGone V.notGone St.stepD St.destD chkD RunC_loop St.trim V.under V.under1 V.like V.like1 V.cells1 V.erase V.eraseL take_map_len lt_len

theorem eq_IntS (xs : List Int) (hl : xs.length ≤ 1048576) : Run tab n_laws_eqIntS [.imm 1 (xs.map (V.int .i64)), .imm 1 (xs.map (V.int .i64))] [] = some (.bool true, []) := by
  rw [Run_go T_laws_eqIntS _ _ rfl]
  have hloop := iter_list (T := tab) (ns := 7) (nb := 0) (dead := [2, 4, 5, 6]) (xs := xs) (ex := .exit 0) (P := fun _ _ => True) (b := l_laws_eqIntS_0)
    (J := fun d t => ⟨[.imm 1 (xs.map (V.int .i64)), .imm 1 (xs.map (V.int .i64)), .gone, .int .i64 d.length, .gone, .gone, .gone], []⟩) trivial (by simp)
    (s := ⟨[.imm 1 (xs.map (V.int .i64)), .imm 1 (xs.map (V.int .i64)), .bool false, .int .i64 0, .bool false, .gone, .gone], []⟩)
    (sE := ⟨[.imm 1 (xs.map (V.int .i64)), .imm 1 (xs.map (V.int .i64)), .gone, .int .i64 xs.length, .gone, .bool false, .gone], []⟩)
    (fun d x t he _ => by
      have hlt : d.length < xs.length := by rw [← he]; simp
      have hw := wrap_len (a := d.length) (by omega)
      simp [l_laws_eqIntS_0, ← he, hw])
    (fun _ => by simp [l_laws_eqIntS_0]) (by simp)
  simp [h_laws_eqIntS, hloop]

theorem eq_BoolS (xs : List Bool) (hl : xs.length ≤ 1048576) : Run tab n_laws_eqBoolS [.imm 1 (xs.map V.bool), .imm 1 (xs.map V.bool)] [] = some (.bool true, []) := by
  rw [Run_go T_laws_eqBoolS _ _ rfl]
  have hloop := iter_list (T := tab) (ns := 7) (nb := 0) (dead := [2, 4, 5, 6]) (xs := xs) (ex := .exit 0) (P := fun _ _ => True) (b := l_laws_eqBoolS_0)
    (J := fun d t => ⟨[.imm 1 (xs.map V.bool), .imm 1 (xs.map V.bool), .gone, .int .i64 d.length, .gone, .gone, .gone], []⟩) trivial (by simp)
    (s := ⟨[.imm 1 (xs.map V.bool), .imm 1 (xs.map V.bool), .bool false, .int .i64 0, .bool false, .gone, .gone], []⟩)
    (sE := ⟨[.imm 1 (xs.map V.bool), .imm 1 (xs.map V.bool), .gone, .int .i64 xs.length, .gone, .bool false, .gone], []⟩)
    (fun d x t he _ => by
      have hlt : d.length < xs.length := by rw [← he]; simp
      have hw := wrap_len (a := d.length) (by omega)
      simp [l_laws_eqBoolS_0, ← he, hw])
    (fun _ => by simp [l_laws_eqBoolS_0]) (by simp)
  simp [h_laws_eqBoolS, hloop]

theorem eq_Rule (a : TRule) (h : a.sz ≤ 1048576) : Run tab n_laws_eqRule [.agg [V.int .i64 a.fUnit, V.int .i64 a.fSpace, V.int .i64 a.fLo, V.int .i64 a.fHi, V.int .i64 a.fPort, V.int .i64 a.fTo, V.int .i64 a.fShift], .agg [V.int .i64 a.fUnit, V.int .i64 a.fSpace, V.int .i64 a.fLo, V.int .i64 a.fHi, V.int .i64 a.fPort, V.int .i64 a.fTo, V.int .i64 a.fShift]] [] = some (.bool true, []) := by
  simp only [TRule.sz] at h
  rw [Run_go T_laws_eqRule _ _ rfl]
  simp [h_laws_eqRule]

theorem eq_RuleS (xs : List TRule) (hl : xs.length ≤ 1048576) : Run tab n_laws_eqRuleS [.imm 7 (xs.map TRule.i), .imm 7 (xs.map TRule.i)] [] = some (.bool true, []) := by
  rw [Run_go T_laws_eqRuleS _ _ rfl]
  have hloop := iter_list (T := tab) (ns := 7) (nb := 0) (dead := [2, 4, 5, 6]) (xs := xs) (ex := .exit 0) (P := fun _ _ => True) (b := l_laws_eqRuleS_0)
    (J := fun d t => ⟨[.imm 7 (xs.map TRule.i), .imm 7 (xs.map TRule.i), .gone, .int .i64 d.length, .gone, .gone, .gone], []⟩) trivial (by simp)
    (s := ⟨[.imm 7 (xs.map TRule.i), .imm 7 (xs.map TRule.i), .bool false, .int .i64 0, .bool false, .gone, .gone], []⟩)
    (sE := ⟨[.imm 7 (xs.map TRule.i), .imm 7 (xs.map TRule.i), .gone, .int .i64 xs.length, .gone, .bool false, .gone], []⟩)
    (fun d x t he _ => by
      have hlt : d.length < xs.length := by rw [← he]; simp
      have hw := wrap_len (a := d.length) (by omega)
      have hx : x.sz ≤ 1048576 := by simp [TRule.sz]
      have hX := eq_Rule x hx
      simp [l_laws_eqRuleS_0, ← he, hw, TRule.i, TRule.ic, hX])
    (fun _ => by simp [l_laws_eqRuleS_0]) (by simp)
  simp [h_laws_eqRuleS, hloop]

theorem eq_Config (a : TConfig) (h : a.sz ≤ 1048576) : Run tab n_laws_eqConfig [.agg [V.int .i64 a.fWait, V.int .i64 a.fTries, V.imm 7 (a.fRules.map TRule.i)], .agg [V.int .i64 a.fWait, V.int .i64 a.fTries, V.imm 7 (a.fRules.map TRule.i)]] [] = some (.bool true, []) := by
  simp only [TConfig.sz] at h
  rw [Run_go T_laws_eqConfig _ _ rfl]
  have u0 := eq_RuleS a.fRules (by omega)
  simp [h_laws_eqConfig, u0]

theorem eq_Req (a : TReq) (h : a.sz ≤ 1048576) : Run tab n_laws_eqReq [.agg [V.int .i64 a.fKind, V.int .i64 a.fAt, V.int .i64 a.fN, V.imm 1 (a.fWords.map (V.int .i64)), V.imm 1 (a.fBits.map V.bool), V.int .i64 a.fWAt], .agg [V.int .i64 a.fKind, V.int .i64 a.fAt, V.int .i64 a.fN, V.imm 1 (a.fWords.map (V.int .i64)), V.imm 1 (a.fBits.map V.bool), V.int .i64 a.fWAt]] [] = some (.bool true, []) := by
  simp only [TReq.sz] at h
  rw [Run_go T_laws_eqReq _ _ rfl]
  have u0 := eq_IntS a.fWords (by omega)
  have u1 := eq_BoolS a.fBits (by omega)
  simp [h_laws_eqReq, u0, u1]

theorem eq_Part (a : TPart) (h : a.sz ≤ 1048576) : Run tab n_laws_eqPart [.agg [V.int .i64 a.fPort, V.int .i64 a.fUnit, V.int .i64 a.fReq.fKind, V.int .i64 a.fReq.fAt, V.int .i64 a.fReq.fN, V.imm 1 (a.fReq.fWords.map (V.int .i64)), V.imm 1 (a.fReq.fBits.map V.bool), V.int .i64 a.fReq.fWAt], .agg [V.int .i64 a.fPort, V.int .i64 a.fUnit, V.int .i64 a.fReq.fKind, V.int .i64 a.fReq.fAt, V.int .i64 a.fReq.fN, V.imm 1 (a.fReq.fWords.map (V.int .i64)), V.imm 1 (a.fReq.fBits.map V.bool), V.int .i64 a.fReq.fWAt]] [] = some (.bool true, []) := by
  simp only [TPart.sz] at h
  rw [Run_go T_laws_eqPart _ _ rfl]
  have u0 := eq_Req a.fReq (by omega)
  simp [h_laws_eqPart, u0]

theorem eq_PartS (xs : List TPart) (hl : xs.length + (xs.map TPart.sz).sum ≤ 1048576) : Run tab n_laws_eqPartS [.imm 8 (xs.map TPart.i), .imm 8 (xs.map TPart.i)] [] = some (.bool true, []) := by
  rw [Run_go T_laws_eqPartS _ _ rfl]
  have hloop := iter_list (T := tab) (ns := 7) (nb := 0) (dead := [2, 4, 5, 6]) (xs := xs) (ex := .exit 0) (P := fun _ _ => True) (b := l_laws_eqPartS_0)
    (J := fun d t => ⟨[.imm 8 (xs.map TPart.i), .imm 8 (xs.map TPart.i), .gone, .int .i64 d.length, .gone, .gone, .gone], []⟩) trivial (by simp)
    (s := ⟨[.imm 8 (xs.map TPart.i), .imm 8 (xs.map TPart.i), .bool false, .int .i64 0, .bool false, .gone, .gone], []⟩)
    (sE := ⟨[.imm 8 (xs.map TPart.i), .imm 8 (xs.map TPart.i), .gone, .int .i64 xs.length, .gone, .bool false, .gone], []⟩)
    (fun d x t he _ => by
      have hlt : d.length < xs.length := by rw [← he]; simp
      have hw := wrap_len (a := d.length) (by omega)
      have hx : x.sz ≤ 1048576 := by rw [← he] at hl; simp at hl; omega
      have hX := eq_Part x hx
      simp [l_laws_eqPartS_0, ← he, hw, TPart.i, TPart.ic, hX])
    (fun _ => by simp [l_laws_eqPartS_0]) (by simp)
  simp [h_laws_eqPartS, hloop]

theorem eq_Resp (a : TResp) (h : a.sz ≤ 1048576) : Run tab n_laws_eqResp [.agg [V.int .i64 a.fKind, V.int .i64 a.fFault, V.int .i64 a.fAt, V.int .i64 a.fN, V.imm 1 (a.fWords.map (V.int .i64)), V.imm 1 (a.fBits.map V.bool)], .agg [V.int .i64 a.fKind, V.int .i64 a.fFault, V.int .i64 a.fAt, V.int .i64 a.fN, V.imm 1 (a.fWords.map (V.int .i64)), V.imm 1 (a.fBits.map V.bool)]] [] = some (.bool true, []) := by
  simp only [TResp.sz] at h
  rw [Run_go T_laws_eqResp _ _ rfl]
  have u0 := eq_IntS a.fWords (by omega)
  have u1 := eq_BoolS a.fBits (by omega)
  simp [h_laws_eqResp, u0, u1]

theorem eq_RespS (xs : List TResp) (hl : xs.length + (xs.map TResp.sz).sum ≤ 1048576) : Run tab n_laws_eqRespS [.imm 6 (xs.map TResp.i), .imm 6 (xs.map TResp.i)] [] = some (.bool true, []) := by
  rw [Run_go T_laws_eqRespS _ _ rfl]
  have hloop := iter_list (T := tab) (ns := 7) (nb := 0) (dead := [2, 4, 5, 6]) (xs := xs) (ex := .exit 0) (P := fun _ _ => True) (b := l_laws_eqRespS_0)
    (J := fun d t => ⟨[.imm 6 (xs.map TResp.i), .imm 6 (xs.map TResp.i), .gone, .int .i64 d.length, .gone, .gone, .gone], []⟩) trivial (by simp)
    (s := ⟨[.imm 6 (xs.map TResp.i), .imm 6 (xs.map TResp.i), .bool false, .int .i64 0, .bool false, .gone, .gone], []⟩)
    (sE := ⟨[.imm 6 (xs.map TResp.i), .imm 6 (xs.map TResp.i), .gone, .int .i64 xs.length, .gone, .bool false, .gone], []⟩)
    (fun d x t he _ => by
      have hlt : d.length < xs.length := by rw [← he]; simp
      have hw := wrap_len (a := d.length) (by omega)
      have hx : x.sz ≤ 1048576 := by rw [← he] at hl; simp at hl; omega
      have hX := eq_Resp x hx
      simp [l_laws_eqRespS_0, ← he, hw, TResp.i, TResp.ic, hX])
    (fun _ => by simp [l_laws_eqRespS_0]) (by simp)
  simp [h_laws_eqRespS, hloop]

theorem eq_Pend (a : TPend) (h : a.sz ≤ 1048576) : Run tab n_laws_eqPend [.agg [V.int .i64 a.fId, V.int .i64 a.fSource, V.int .i64 a.fTag, V.int .i64 a.fUnit, V.int .i64 a.fReq.fKind, V.int .i64 a.fReq.fAt, V.int .i64 a.fReq.fN, V.imm 1 (a.fReq.fWords.map (V.int .i64)), V.imm 1 (a.fReq.fBits.map V.bool), V.int .i64 a.fReq.fWAt, V.imm 8 (a.fParts.map TPart.i), V.imm 1 (a.fHas.map V.bool), V.imm 6 (a.fTold.map TResp.i)], .agg [V.int .i64 a.fId, V.int .i64 a.fSource, V.int .i64 a.fTag, V.int .i64 a.fUnit, V.int .i64 a.fReq.fKind, V.int .i64 a.fReq.fAt, V.int .i64 a.fReq.fN, V.imm 1 (a.fReq.fWords.map (V.int .i64)), V.imm 1 (a.fReq.fBits.map V.bool), V.int .i64 a.fReq.fWAt, V.imm 8 (a.fParts.map TPart.i), V.imm 1 (a.fHas.map V.bool), V.imm 6 (a.fTold.map TResp.i)]] [] = some (.bool true, []) := by
  simp only [TPend.sz] at h
  rw [Run_go T_laws_eqPend _ _ rfl]
  have u0 := eq_Req a.fReq (by omega)
  have u1 := eq_PartS a.fParts (by omega)
  have u2 := eq_BoolS a.fHas (by omega)
  have u3 := eq_RespS a.fTold (by omega)
  simp [h_laws_eqPend, u0, u1, u2, u3]

theorem eq_PendS (xs : List TPend) (hl : xs.length + (xs.map TPend.sz).sum ≤ 1048576) : Run tab n_laws_eqPendS [.imm 13 (xs.map TPend.i), .imm 13 (xs.map TPend.i)] [] = some (.bool true, []) := by
  rw [Run_go T_laws_eqPendS _ _ rfl]
  have hloop := iter_list (T := tab) (ns := 7) (nb := 0) (dead := [2, 4, 5, 6]) (xs := xs) (ex := .exit 0) (P := fun _ _ => True) (b := l_laws_eqPendS_0)
    (J := fun d t => ⟨[.imm 13 (xs.map TPend.i), .imm 13 (xs.map TPend.i), .gone, .int .i64 d.length, .gone, .gone, .gone], []⟩) trivial (by simp)
    (s := ⟨[.imm 13 (xs.map TPend.i), .imm 13 (xs.map TPend.i), .bool false, .int .i64 0, .bool false, .gone, .gone], []⟩)
    (sE := ⟨[.imm 13 (xs.map TPend.i), .imm 13 (xs.map TPend.i), .gone, .int .i64 xs.length, .gone, .bool false, .gone], []⟩)
    (fun d x t he _ => by
      have hlt : d.length < xs.length := by rw [← he]; simp
      have hw := wrap_len (a := d.length) (by omega)
      have hx : x.sz ≤ 1048576 := by rw [← he] at hl; simp at hl; omega
      have hX := eq_Pend x hx
      simp [l_laws_eqPendS_0, ← he, hw, TPend.i, TPend.ic, hX])
    (fun _ => by simp [l_laws_eqPendS_0]) (by simp)
  simp [h_laws_eqPendS, hloop]

theorem eq_Table (a : TTable) (h : a.sz ≤ 1048576) : Run tab n_laws_eqTable [.agg [V.int .i64 a.fNext, V.imm 13 (a.fList.map TPend.i)], .agg [V.int .i64 a.fNext, V.imm 13 (a.fList.map TPend.i)]] [] = some (.bool true, []) := by
  simp only [TTable.sz] at h
  rw [Run_go T_laws_eqTable _ _ rfl]
  have u0 := eq_PendS a.fList (by omega)
  simp [h_laws_eqTable, u0]

theorem eq_Call (a : TCall) (h : a.sz ≤ 1048576) : Run tab n_laws_eqCall [.agg [V.int .i64 a.fId, V.int .i64 a.fPart, V.int .i64 a.fUnit, V.int .i64 a.fReq.fKind, V.int .i64 a.fReq.fAt, V.int .i64 a.fReq.fN, V.imm 1 (a.fReq.fWords.map (V.int .i64)), V.imm 1 (a.fReq.fBits.map V.bool), V.int .i64 a.fReq.fWAt], .agg [V.int .i64 a.fId, V.int .i64 a.fPart, V.int .i64 a.fUnit, V.int .i64 a.fReq.fKind, V.int .i64 a.fReq.fAt, V.int .i64 a.fReq.fN, V.imm 1 (a.fReq.fWords.map (V.int .i64)), V.imm 1 (a.fReq.fBits.map V.bool), V.int .i64 a.fReq.fWAt]] [] = some (.bool true, []) := by
  simp only [TCall.sz] at h
  rw [Run_go T_laws_eqCall _ _ rfl]
  have u0 := eq_Req a.fReq (by omega)
  simp [h_laws_eqCall, u0]

theorem eq_CallS (xs : List TCall) (hl : xs.length + (xs.map TCall.sz).sum ≤ 1048576) : Run tab n_laws_eqCallS [.imm 9 (xs.map TCall.i), .imm 9 (xs.map TCall.i)] [] = some (.bool true, []) := by
  rw [Run_go T_laws_eqCallS _ _ rfl]
  have hloop := iter_list (T := tab) (ns := 7) (nb := 0) (dead := [2, 4, 5, 6]) (xs := xs) (ex := .exit 0) (P := fun _ _ => True) (b := l_laws_eqCallS_0)
    (J := fun d t => ⟨[.imm 9 (xs.map TCall.i), .imm 9 (xs.map TCall.i), .gone, .int .i64 d.length, .gone, .gone, .gone], []⟩) trivial (by simp)
    (s := ⟨[.imm 9 (xs.map TCall.i), .imm 9 (xs.map TCall.i), .bool false, .int .i64 0, .bool false, .gone, .gone], []⟩)
    (sE := ⟨[.imm 9 (xs.map TCall.i), .imm 9 (xs.map TCall.i), .gone, .int .i64 xs.length, .gone, .bool false, .gone], []⟩)
    (fun d x t he _ => by
      have hlt : d.length < xs.length := by rw [← he]; simp
      have hw := wrap_len (a := d.length) (by omega)
      have hx : x.sz ≤ 1048576 := by rw [← he] at hl; simp at hl; omega
      have hX := eq_Call x hx
      simp [l_laws_eqCallS_0, ← he, hw, TCall.i, TCall.ic, hX])
    (fun _ => by simp [l_laws_eqCallS_0]) (by simp)
  simp [h_laws_eqCallS, hloop]

theorem eq_Line (a : TLine) (h : a.sz ≤ 1048576) : Run tab n_laws_eqLine [.agg [V.imm 9 (a.fQueue.map TCall.i), V.bool a.fBusy, V.int .i64 a.fCall.fId, V.int .i64 a.fCall.fPart, V.int .i64 a.fCall.fUnit, V.int .i64 a.fCall.fReq.fKind, V.int .i64 a.fCall.fReq.fAt, V.int .i64 a.fCall.fReq.fN, V.imm 1 (a.fCall.fReq.fWords.map (V.int .i64)), V.imm 1 (a.fCall.fReq.fBits.map V.bool), V.int .i64 a.fCall.fReq.fWAt, V.int .i64 a.fNumber, V.int .i64 a.fDue, V.int .i64 a.fLeft, V.int .i64 a.fNext, V.int .i64 a.fWait, V.int .i64 a.fTries], .agg [V.imm 9 (a.fQueue.map TCall.i), V.bool a.fBusy, V.int .i64 a.fCall.fId, V.int .i64 a.fCall.fPart, V.int .i64 a.fCall.fUnit, V.int .i64 a.fCall.fReq.fKind, V.int .i64 a.fCall.fReq.fAt, V.int .i64 a.fCall.fReq.fN, V.imm 1 (a.fCall.fReq.fWords.map (V.int .i64)), V.imm 1 (a.fCall.fReq.fBits.map V.bool), V.int .i64 a.fCall.fReq.fWAt, V.int .i64 a.fNumber, V.int .i64 a.fDue, V.int .i64 a.fLeft, V.int .i64 a.fNext, V.int .i64 a.fWait, V.int .i64 a.fTries]] [] = some (.bool true, []) := by
  simp only [TLine.sz] at h
  rw [Run_go T_laws_eqLine _ _ rfl]
  have u0 := eq_CallS a.fQueue (by omega)
  have u1 := eq_Call a.fCall (by omega)
  simp [h_laws_eqLine, u0, u1]

theorem eq_LineS (xs : List TLine) (hl : xs.length + (xs.map TLine.sz).sum ≤ 1048576) : Run tab n_laws_eqLineS [.imm 17 (xs.map TLine.i), .imm 17 (xs.map TLine.i)] [] = some (.bool true, []) := by
  rw [Run_go T_laws_eqLineS _ _ rfl]
  have hloop := iter_list (T := tab) (ns := 7) (nb := 0) (dead := [2, 4, 5, 6]) (xs := xs) (ex := .exit 0) (P := fun _ _ => True) (b := l_laws_eqLineS_0)
    (J := fun d t => ⟨[.imm 17 (xs.map TLine.i), .imm 17 (xs.map TLine.i), .gone, .int .i64 d.length, .gone, .gone, .gone], []⟩) trivial (by simp)
    (s := ⟨[.imm 17 (xs.map TLine.i), .imm 17 (xs.map TLine.i), .bool false, .int .i64 0, .bool false, .gone, .gone], []⟩)
    (sE := ⟨[.imm 17 (xs.map TLine.i), .imm 17 (xs.map TLine.i), .gone, .int .i64 xs.length, .gone, .bool false, .gone], []⟩)
    (fun d x t he _ => by
      have hlt : d.length < xs.length := by rw [← he]; simp
      have hw := wrap_len (a := d.length) (by omega)
      have hx : x.sz ≤ 1048576 := by rw [← he] at hl; simp at hl; omega
      have hX := eq_Line x hx
      simp [l_laws_eqLineS_0, ← he, hw, TLine.i, TLine.ic, hX])
    (fun _ => by simp [l_laws_eqLineS_0]) (by simp)
  simp [h_laws_eqLineS, hloop]

theorem eq_Fabric (a : TFabric) (h : a.sz ≤ 1048576) : Run tab n_laws_eqFabric [.agg [V.int .i64 a.fNow, V.int .i64 a.fSet.fWait, V.int .i64 a.fSet.fTries, V.imm 7 (a.fSet.fRules.map TRule.i), V.int .i64 a.fOpen.fNext, V.imm 13 (a.fOpen.fList.map TPend.i), V.imm 17 (a.fLines.map TLine.i), V.int .i64 a.fAsked, V.int .i64 a.fReplied, V.int .i64 a.fFaults, V.int .i64 a.fSent], .agg [V.int .i64 a.fNow, V.int .i64 a.fSet.fWait, V.int .i64 a.fSet.fTries, V.imm 7 (a.fSet.fRules.map TRule.i), V.int .i64 a.fOpen.fNext, V.imm 13 (a.fOpen.fList.map TPend.i), V.imm 17 (a.fLines.map TLine.i), V.int .i64 a.fAsked, V.int .i64 a.fReplied, V.int .i64 a.fFaults, V.int .i64 a.fSent]] [] = some (.bool true, []) := by
  simp only [TFabric.sz] at h
  rw [Run_go T_laws_eqFabric _ _ rfl]
  have u0 := eq_Config a.fSet (by omega)
  have u1 := eq_Table a.fOpen (by omega)
  have u2 := eq_LineS a.fLines (by omega)
  simp [h_laws_eqFabric, u0, u1, u2]

theorem eq_Device (a : TDevice) (h : a.sz ≤ 1048576) : Run tab n_laws_eqDevice [.agg [V.imm 1 (a.fCoils.map V.bool), V.imm 1 (a.fInputs.map V.bool), V.imm 1 (a.fHolding.map (V.int .i64)), V.imm 1 (a.fWords.map (V.int .i64))], .agg [V.imm 1 (a.fCoils.map V.bool), V.imm 1 (a.fInputs.map V.bool), V.imm 1 (a.fHolding.map (V.int .i64)), V.imm 1 (a.fWords.map (V.int .i64))]] [] = some (.bool true, []) := by
  simp only [TDevice.sz] at h
  rw [Run_go T_laws_eqDevice _ _ rfl]
  have u0 := eq_BoolS a.fCoils (by omega)
  have u1 := eq_BoolS a.fInputs (by omega)
  have u2 := eq_IntS a.fHolding (by omega)
  have u3 := eq_IntS a.fWords (by omega)
  simp [h_laws_eqDevice, u0, u1, u2, u3]

theorem eq_Post (a : TPost) (h : a.sz ≤ 1048576) : Run tab n_laws_eqPost [.agg [V.int .i64 a.fPort, V.int .i64 a.fUnit, V.imm 1 (a.fD.fCoils.map V.bool), V.imm 1 (a.fD.fInputs.map V.bool), V.imm 1 (a.fD.fHolding.map (V.int .i64)), V.imm 1 (a.fD.fWords.map (V.int .i64))], .agg [V.int .i64 a.fPort, V.int .i64 a.fUnit, V.imm 1 (a.fD.fCoils.map V.bool), V.imm 1 (a.fD.fInputs.map V.bool), V.imm 1 (a.fD.fHolding.map (V.int .i64)), V.imm 1 (a.fD.fWords.map (V.int .i64))]] [] = some (.bool true, []) := by
  simp only [TPost.sz] at h
  rw [Run_go T_laws_eqPost _ _ rfl]
  have u0 := eq_Device a.fD (by omega)
  simp [h_laws_eqPost, u0]

theorem eq_PostS (xs : List TPost) (hl : xs.length + (xs.map TPost.sz).sum ≤ 1048576) : Run tab n_laws_eqPostS [.imm 6 (xs.map TPost.i), .imm 6 (xs.map TPost.i)] [] = some (.bool true, []) := by
  rw [Run_go T_laws_eqPostS _ _ rfl]
  have hloop := iter_list (T := tab) (ns := 7) (nb := 0) (dead := [2, 4, 5, 6]) (xs := xs) (ex := .exit 0) (P := fun _ _ => True) (b := l_laws_eqPostS_0)
    (J := fun d t => ⟨[.imm 6 (xs.map TPost.i), .imm 6 (xs.map TPost.i), .gone, .int .i64 d.length, .gone, .gone, .gone], []⟩) trivial (by simp)
    (s := ⟨[.imm 6 (xs.map TPost.i), .imm 6 (xs.map TPost.i), .bool false, .int .i64 0, .bool false, .gone, .gone], []⟩)
    (sE := ⟨[.imm 6 (xs.map TPost.i), .imm 6 (xs.map TPost.i), .gone, .int .i64 xs.length, .gone, .bool false, .gone], []⟩)
    (fun d x t he _ => by
      have hlt : d.length < xs.length := by rw [← he]; simp
      have hw := wrap_len (a := d.length) (by omega)
      have hx : x.sz ≤ 1048576 := by rw [← he] at hl; simp at hl; omega
      have hX := eq_Post x hx
      simp [l_laws_eqPostS_0, ← he, hw, TPost.i, TPost.ic, hX])
    (fun _ => by simp [l_laws_eqPostS_0]) (by simp)
  simp [h_laws_eqPostS, hloop]

theorem eq_Packet (a : TPacket) (h : a.sz ≤ 1048576) : Run tab n_laws_eqPacket [.agg [V.bool a.fBack, V.int .i64 a.fPort, V.int .i64 a.fNumber, V.int .i64 a.fUnit, V.int .i64 a.fReq.fKind, V.int .i64 a.fReq.fAt, V.int .i64 a.fReq.fN, V.imm 1 (a.fReq.fWords.map (V.int .i64)), V.imm 1 (a.fReq.fBits.map V.bool), V.int .i64 a.fReq.fWAt, V.int .i64 a.fResp.fKind, V.int .i64 a.fResp.fFault, V.int .i64 a.fResp.fAt, V.int .i64 a.fResp.fN, V.imm 1 (a.fResp.fWords.map (V.int .i64)), V.imm 1 (a.fResp.fBits.map V.bool)], .agg [V.bool a.fBack, V.int .i64 a.fPort, V.int .i64 a.fNumber, V.int .i64 a.fUnit, V.int .i64 a.fReq.fKind, V.int .i64 a.fReq.fAt, V.int .i64 a.fReq.fN, V.imm 1 (a.fReq.fWords.map (V.int .i64)), V.imm 1 (a.fReq.fBits.map V.bool), V.int .i64 a.fReq.fWAt, V.int .i64 a.fResp.fKind, V.int .i64 a.fResp.fFault, V.int .i64 a.fResp.fAt, V.int .i64 a.fResp.fN, V.imm 1 (a.fResp.fWords.map (V.int .i64)), V.imm 1 (a.fResp.fBits.map V.bool)]] [] = some (.bool true, []) := by
  simp only [TPacket.sz] at h
  rw [Run_go T_laws_eqPacket _ _ rfl]
  have u0 := eq_Req a.fReq (by omega)
  have u1 := eq_Resp a.fResp (by omega)
  simp [h_laws_eqPacket, u0, u1]

theorem eq_PacketS (xs : List TPacket) (hl : xs.length + (xs.map TPacket.sz).sum ≤ 1048576) : Run tab n_laws_eqPacketS [.imm 16 (xs.map TPacket.i), .imm 16 (xs.map TPacket.i)] [] = some (.bool true, []) := by
  rw [Run_go T_laws_eqPacketS _ _ rfl]
  have hloop := iter_list (T := tab) (ns := 7) (nb := 0) (dead := [2, 4, 5, 6]) (xs := xs) (ex := .exit 0) (P := fun _ _ => True) (b := l_laws_eqPacketS_0)
    (J := fun d t => ⟨[.imm 16 (xs.map TPacket.i), .imm 16 (xs.map TPacket.i), .gone, .int .i64 d.length, .gone, .gone, .gone], []⟩) trivial (by simp)
    (s := ⟨[.imm 16 (xs.map TPacket.i), .imm 16 (xs.map TPacket.i), .bool false, .int .i64 0, .bool false, .gone, .gone], []⟩)
    (sE := ⟨[.imm 16 (xs.map TPacket.i), .imm 16 (xs.map TPacket.i), .gone, .int .i64 xs.length, .gone, .bool false, .gone], []⟩)
    (fun d x t he _ => by
      have hlt : d.length < xs.length := by rw [← he]; simp
      have hw := wrap_len (a := d.length) (by omega)
      have hx : x.sz ≤ 1048576 := by rw [← he] at hl; simp at hl; omega
      have hX := eq_Packet x hx
      simp [l_laws_eqPacketS_0, ← he, hw, TPacket.i, TPacket.ic, hX])
    (fun _ => by simp [l_laws_eqPacketS_0]) (by simp)
  simp [h_laws_eqPacketS, hloop]

theorem eq_Reply (a : TReply) (h : a.sz ≤ 1048576) : Run tab n_laws_eqReply [.agg [V.int .i64 a.fSource, V.int .i64 a.fTag, V.int .i64 a.fReq.fKind, V.int .i64 a.fReq.fAt, V.int .i64 a.fReq.fN, V.imm 1 (a.fReq.fWords.map (V.int .i64)), V.imm 1 (a.fReq.fBits.map V.bool), V.int .i64 a.fReq.fWAt, V.imm 8 (a.fParts.map TPart.i), V.imm 6 (a.fTold.map TResp.i), V.int .i64 a.fResp.fKind, V.int .i64 a.fResp.fFault, V.int .i64 a.fResp.fAt, V.int .i64 a.fResp.fN, V.imm 1 (a.fResp.fWords.map (V.int .i64)), V.imm 1 (a.fResp.fBits.map V.bool)], .agg [V.int .i64 a.fSource, V.int .i64 a.fTag, V.int .i64 a.fReq.fKind, V.int .i64 a.fReq.fAt, V.int .i64 a.fReq.fN, V.imm 1 (a.fReq.fWords.map (V.int .i64)), V.imm 1 (a.fReq.fBits.map V.bool), V.int .i64 a.fReq.fWAt, V.imm 8 (a.fParts.map TPart.i), V.imm 6 (a.fTold.map TResp.i), V.int .i64 a.fResp.fKind, V.int .i64 a.fResp.fFault, V.int .i64 a.fResp.fAt, V.int .i64 a.fResp.fN, V.imm 1 (a.fResp.fWords.map (V.int .i64)), V.imm 1 (a.fResp.fBits.map V.bool)]] [] = some (.bool true, []) := by
  simp only [TReply.sz] at h
  rw [Run_go T_laws_eqReply _ _ rfl]
  have u0 := eq_Req a.fReq (by omega)
  have u1 := eq_PartS a.fParts (by omega)
  have u2 := eq_RespS a.fTold (by omega)
  have u3 := eq_Resp a.fResp (by omega)
  simp [h_laws_eqReply, u0, u1, u2, u3]

theorem eq_ReplyS (xs : List TReply) (hl : xs.length + (xs.map TReply.sz).sum ≤ 1048576) : Run tab n_laws_eqReplyS [.imm 16 (xs.map TReply.i), .imm 16 (xs.map TReply.i)] [] = some (.bool true, []) := by
  rw [Run_go T_laws_eqReplyS _ _ rfl]
  have hloop := iter_list (T := tab) (ns := 7) (nb := 0) (dead := [2, 4, 5, 6]) (xs := xs) (ex := .exit 0) (P := fun _ _ => True) (b := l_laws_eqReplyS_0)
    (J := fun d t => ⟨[.imm 16 (xs.map TReply.i), .imm 16 (xs.map TReply.i), .gone, .int .i64 d.length, .gone, .gone, .gone], []⟩) trivial (by simp)
    (s := ⟨[.imm 16 (xs.map TReply.i), .imm 16 (xs.map TReply.i), .bool false, .int .i64 0, .bool false, .gone, .gone], []⟩)
    (sE := ⟨[.imm 16 (xs.map TReply.i), .imm 16 (xs.map TReply.i), .gone, .int .i64 xs.length, .gone, .bool false, .gone], []⟩)
    (fun d x t he _ => by
      have hlt : d.length < xs.length := by rw [← he]; simp
      have hw := wrap_len (a := d.length) (by omega)
      have hx : x.sz ≤ 1048576 := by rw [← he] at hl; simp at hl; omega
      have hX := eq_Reply x hx
      simp [l_laws_eqReplyS_0, ← he, hw, TReply.i, TReply.ic, hX])
    (fun _ => by simp [l_laws_eqReplyS_0]) (by simp)
  simp [h_laws_eqReplyS, hloop]

theorem eq_Served (a : TServed) (h : a.sz ≤ 1048576) : Run tab n_laws_eqServed [.agg [V.int .i64 a.fPort, V.int .i64 a.fNumber, V.int .i64 a.fUnit, V.int .i64 a.fReq.fKind, V.int .i64 a.fReq.fAt, V.int .i64 a.fReq.fN, V.imm 1 (a.fReq.fWords.map (V.int .i64)), V.imm 1 (a.fReq.fBits.map V.bool), V.int .i64 a.fReq.fWAt, V.int .i64 a.fResp.fKind, V.int .i64 a.fResp.fFault, V.int .i64 a.fResp.fAt, V.int .i64 a.fResp.fN, V.imm 1 (a.fResp.fWords.map (V.int .i64)), V.imm 1 (a.fResp.fBits.map V.bool)], .agg [V.int .i64 a.fPort, V.int .i64 a.fNumber, V.int .i64 a.fUnit, V.int .i64 a.fReq.fKind, V.int .i64 a.fReq.fAt, V.int .i64 a.fReq.fN, V.imm 1 (a.fReq.fWords.map (V.int .i64)), V.imm 1 (a.fReq.fBits.map V.bool), V.int .i64 a.fReq.fWAt, V.int .i64 a.fResp.fKind, V.int .i64 a.fResp.fFault, V.int .i64 a.fResp.fAt, V.int .i64 a.fResp.fN, V.imm 1 (a.fResp.fWords.map (V.int .i64)), V.imm 1 (a.fResp.fBits.map V.bool)]] [] = some (.bool true, []) := by
  simp only [TServed.sz] at h
  rw [Run_go T_laws_eqServed _ _ rfl]
  have u0 := eq_Req a.fReq (by omega)
  have u1 := eq_Resp a.fResp (by omega)
  simp [h_laws_eqServed, u0, u1]

theorem eq_ServedS (xs : List TServed) (hl : xs.length + (xs.map TServed.sz).sum ≤ 1048576) : Run tab n_laws_eqServedS [.imm 15 (xs.map TServed.i), .imm 15 (xs.map TServed.i)] [] = some (.bool true, []) := by
  rw [Run_go T_laws_eqServedS _ _ rfl]
  have hloop := iter_list (T := tab) (ns := 7) (nb := 0) (dead := [2, 4, 5, 6]) (xs := xs) (ex := .exit 0) (P := fun _ _ => True) (b := l_laws_eqServedS_0)
    (J := fun d t => ⟨[.imm 15 (xs.map TServed.i), .imm 15 (xs.map TServed.i), .gone, .int .i64 d.length, .gone, .gone, .gone], []⟩) trivial (by simp)
    (s := ⟨[.imm 15 (xs.map TServed.i), .imm 15 (xs.map TServed.i), .bool false, .int .i64 0, .bool false, .gone, .gone], []⟩)
    (sE := ⟨[.imm 15 (xs.map TServed.i), .imm 15 (xs.map TServed.i), .gone, .int .i64 xs.length, .gone, .bool false, .gone], []⟩)
    (fun d x t he _ => by
      have hlt : d.length < xs.length := by rw [← he]; simp
      have hw := wrap_len (a := d.length) (by omega)
      have hx : x.sz ≤ 1048576 := by rw [← he] at hl; simp at hl; omega
      have hX := eq_Served x hx
      simp [l_laws_eqServedS_0, ← he, hw, TServed.i, TServed.ic, hX])
    (fun _ => by simp [l_laws_eqServedS_0]) (by simp)
  simp [h_laws_eqServedS, hloop]

theorem eq_World (a : TWorld) (h : a.sz ≤ 1048576) : Run tab n_laws_eqWorld [.agg [V.int .i64 a.fF.fNow, V.int .i64 a.fF.fSet.fWait, V.int .i64 a.fF.fSet.fTries, V.imm 7 (a.fF.fSet.fRules.map TRule.i), V.int .i64 a.fF.fOpen.fNext, V.imm 13 (a.fF.fOpen.fList.map TPend.i), V.imm 17 (a.fF.fLines.map TLine.i), V.int .i64 a.fF.fAsked, V.int .i64 a.fF.fReplied, V.int .i64 a.fF.fFaults, V.int .i64 a.fF.fSent, V.imm 6 (a.fPosts.map TPost.i), V.imm 16 (a.fNet.map TPacket.i), V.imm 16 (a.fReplies.map TReply.i), V.imm 15 (a.fServed.map TServed.i)], .agg [V.int .i64 a.fF.fNow, V.int .i64 a.fF.fSet.fWait, V.int .i64 a.fF.fSet.fTries, V.imm 7 (a.fF.fSet.fRules.map TRule.i), V.int .i64 a.fF.fOpen.fNext, V.imm 13 (a.fF.fOpen.fList.map TPend.i), V.imm 17 (a.fF.fLines.map TLine.i), V.int .i64 a.fF.fAsked, V.int .i64 a.fF.fReplied, V.int .i64 a.fF.fFaults, V.int .i64 a.fF.fSent, V.imm 6 (a.fPosts.map TPost.i), V.imm 16 (a.fNet.map TPacket.i), V.imm 16 (a.fReplies.map TReply.i), V.imm 15 (a.fServed.map TServed.i)]] [] = some (.bool true, []) := by
  simp only [TWorld.sz] at h
  rw [Run_go T_laws_eqWorld _ _ rfl]
  have u0 := eq_Fabric a.fF (by omega)
  have u1 := eq_PostS a.fPosts (by omega)
  have u2 := eq_PacketS a.fNet (by omega)
  have u3 := eq_ReplyS a.fReplies (by omega)
  have u4 := eq_ServedS a.fServed (by omega)
  simp [h_laws_eqWorld, u0, u1, u2, u3, u4]

end Go.Pm

namespace Go.Pm
set_option maxRecDepth 100000
attribute [local simp] RunC_seq RunC_cond RunC_block RunC_skip RunC_exit RunC_ret RunC_region runOps St.wanted St.step St.dest St.settle St.settleLeaf St.rd V.borrowAll V.borrow borrows V.killVar1 St.fin V.unloc1 St.finish St.rdRes tupV St.takesAll St.view St.views St.viewLeaf V.cells bnd binV intBin St.rds St.passes St.windows St.backs St.land flatV scal unV St.cont St.root St.take St.takeLeaf St.takes St.freeze St.freezeLeaf St.freezes V.killBox1 V.leafwise St.settles lenV intV V.only1 St.viewsAll V.fresh V.freshL St.putCells St.putCell St.put St.get St.setCont St.setRoot Root.okAt St.kill V.kill1
attribute [local simp] RunC_draw runD St.only evalP St.peek HOp.pure St.listOk V.whole V.parts V.isGone V.notGone St.stepD St.destD chkD RunC_loop St.trim V.under V.under1 V.like V.like1 V.cells1 V.erase V.eraseL take_map_len lt_len

theorem sz_IntS (xs : List Int) (left : Int) (h0 : 0 ≤ left) (h1 : left ≤ 1048576) (hl : xs.length ≤ 9223372036854775807) : Run tab n_laws_szIntS [.imm 1 (xs.map (V.int .i64)), .int .i64 left] [] = some (.int .i64 (if ((xs.length : Nat) : Int) ≤ left then left - (xs.length : Nat) else -1), []) := by
  rw [Run_go T_laws_szIntS _ _ rfl]
  have hw : IntKind.i64.wrap (left - xs.length) = left - xs.length := wrap_id (by omega) (by omega)
  by_cases h : ((xs.length : Nat) : Int) ≤ left
  · have h2 : ¬ (left - xs.length < 0) := by omega
    simp [h_laws_szIntS, hw, h, h2]
  · have h2 : left - xs.length < 0 := by omega
    simp [h_laws_szIntS, hw, h, h2]

theorem sz_BoolS (xs : List Bool) (left : Int) (h0 : 0 ≤ left) (h1 : left ≤ 1048576) (hl : xs.length ≤ 9223372036854775807) : Run tab n_laws_szBoolS [.imm 1 (xs.map V.bool), .int .i64 left] [] = some (.int .i64 (if ((xs.length : Nat) : Int) ≤ left then left - (xs.length : Nat) else -1), []) := by
  rw [Run_go T_laws_szBoolS _ _ rfl]
  have hw : IntKind.i64.wrap (left - xs.length) = left - xs.length := wrap_id (by omega) (by omega)
  by_cases h : ((xs.length : Nat) : Int) ≤ left
  · have h2 : ¬ (left - xs.length < 0) := by omega
    simp [h_laws_szBoolS, hw, h, h2]
  · have h2 : left - xs.length < 0 := by omega
    simp [h_laws_szBoolS, hw, h, h2]

theorem sz_RuleS (xs : List TRule) (left : Int) (h0 : 0 ≤ left) (h1 : left ≤ 1048576) (hl : xs.length ≤ 9223372036854775807) : Run tab n_laws_szRuleS [.imm 7 (xs.map TRule.i), .int .i64 left] [] = some (.int .i64 (if ((xs.length : Nat) : Int) ≤ left then left - (xs.length : Nat) else -1), []) := by
  rw [Run_go T_laws_szRuleS _ _ rfl]
  have hw : IntKind.i64.wrap (left - xs.length) = left - xs.length := wrap_id (by omega) (by omega)
  by_cases h : ((xs.length : Nat) : Int) ≤ left
  · have h2 : ¬ (left - xs.length < 0) := by omega
    simp [h_laws_szRuleS, hw, h, h2]
  · have h2 : left - xs.length < 0 := by omega
    simp [h_laws_szRuleS, hw, h, h2]

theorem sz_Config (a : TConfig) (left : Int) (h0 : 0 ≤ left) (h1 : left ≤ 1048576) (hok : a.ok) : Run tab n_laws_szConfig [.agg [V.int .i64 a.fWait, V.int .i64 a.fTries, V.imm 7 (a.fRules.map TRule.i)], .int .i64 left] [] = some (.int .i64 (if ((a.sz : Nat) : Int) ≤ left then left - (a.sz : Nat) else -1), []) := by
  have hsz : a.sz = a.fRules.length := rfl
  simp only [TConfig.ok] at hok
  rw [Run_go T_laws_szConfig _ _ rfl]
  obtain ⟨z0, hz0⟩ : ∃ z : Nat, z = a.fRules.length := ⟨_, rfl⟩
  have u0 := sz_RuleS a.fRules (left) (by omega) (by omega) (by omega)
  rw [← hz0] at u0
  by_cases c0 : ((z0 : Nat) : Int) ≤ left
  rotate_left
  · rw [if_neg c0] at u0
    rw [if_neg (by omega)]
    simp [h_laws_szConfig, u0]
  rw [if_pos c0] at u0
  have n0 : ¬ (left - (z0 : Nat) < 0) := by omega
  rw [if_pos (by omega)]
  simp [h_laws_szConfig, u0, n0]
  omega

theorem sz_Req (a : TReq) (left : Int) (h0 : 0 ≤ left) (h1 : left ≤ 1048576) (hok : a.ok) : Run tab n_laws_szReq [.agg [V.int .i64 a.fKind, V.int .i64 a.fAt, V.int .i64 a.fN, V.imm 1 (a.fWords.map (V.int .i64)), V.imm 1 (a.fBits.map V.bool), V.int .i64 a.fWAt], .int .i64 left] [] = some (.int .i64 (if ((a.sz : Nat) : Int) ≤ left then left - (a.sz : Nat) else -1), []) := by
  have hsz : a.sz = a.fWords.length + a.fBits.length := rfl
  simp only [TReq.ok] at hok
  rw [Run_go T_laws_szReq _ _ rfl]
  obtain ⟨z0, hz0⟩ : ∃ z : Nat, z = a.fWords.length := ⟨_, rfl⟩
  have u0 := sz_IntS a.fWords (left) (by omega) (by omega) (by omega)
  rw [← hz0] at u0
  by_cases c0 : ((z0 : Nat) : Int) ≤ left
  rotate_left
  · rw [if_neg c0] at u0
    rw [if_neg (by omega)]
    simp [h_laws_szReq, u0]
  rw [if_pos c0] at u0
  have n0 : ¬ (left - (z0 : Nat) < 0) := by omega
  obtain ⟨z1, hz1⟩ : ∃ z : Nat, z = a.fBits.length := ⟨_, rfl⟩
  have u1 := sz_BoolS a.fBits (left - (z0 : Nat)) (by omega) (by omega) (by omega)
  rw [← hz1] at u1
  by_cases c1 : ((z1 : Nat) : Int) ≤ left - (z0 : Nat)
  rotate_left
  · rw [if_neg c1] at u1
    rw [if_neg (by omega)]
    simp [h_laws_szReq, u0, n0, u1]
  rw [if_pos c1] at u1
  have n1 : ¬ (left - (z0 : Nat) - (z1 : Nat) < 0) := by omega
  rw [if_pos (by omega)]
  simp [h_laws_szReq, u0, n0, u1, n1]
  omega

theorem sz_Part (a : TPart) (left : Int) (h0 : 0 ≤ left) (h1 : left ≤ 1048576) (hok : a.ok) : Run tab n_laws_szPart [.agg [V.int .i64 a.fPort, V.int .i64 a.fUnit, V.int .i64 a.fReq.fKind, V.int .i64 a.fReq.fAt, V.int .i64 a.fReq.fN, V.imm 1 (a.fReq.fWords.map (V.int .i64)), V.imm 1 (a.fReq.fBits.map V.bool), V.int .i64 a.fReq.fWAt], .int .i64 left] [] = some (.int .i64 (if ((a.sz : Nat) : Int) ≤ left then left - (a.sz : Nat) else -1), []) := by
  have hsz : a.sz = a.fReq.sz := rfl
  simp only [TPart.ok] at hok
  rw [Run_go T_laws_szPart _ _ rfl]
  obtain ⟨z0, hz0⟩ : ∃ z : Nat, z = a.fReq.sz := ⟨_, rfl⟩
  have u0 := sz_Req a.fReq (left) (by omega) (by omega) (by simp_all)
  rw [← hz0] at u0
  by_cases c0 : ((z0 : Nat) : Int) ≤ left
  rotate_left
  · rw [if_neg c0] at u0
    rw [if_neg (by omega)]
    simp [h_laws_szPart, u0]
  rw [if_pos c0] at u0
  have n0 : ¬ (left - (z0 : Nat) < 0) := by omega
  rw [if_pos (by omega)]
  simp [h_laws_szPart, u0, n0]
  omega

theorem sz_PartS (xs : List TPart) (left : Int) (h0 : 0 ≤ left) (h1 : left ≤ 1048576) (hl : xs.length ≤ 9223372036854775807) (hok : ∀ x ∈ xs, x.ok) : Run tab n_laws_szPartS [.imm 8 (xs.map TPart.i), .int .i64 left] [] = some (.int .i64 (if ((xs.length + (xs.map TPart.sz).sum : Nat) : Int) ≤ left then left - (xs.length + (xs.map TPart.sz).sum : Nat) else -1), []) := by
  rw [Run_go T_laws_szPartS _ _ rfl]
  have hw0 : IntKind.i64.wrap (left - xs.length) = left - xs.length := wrap_id (by omega) (by omega)
  by_cases h : ((xs.length : Nat) : Int) ≤ left
  · have h2 : ¬ (left - xs.length < 0) := by omega
    have key : ∀ (t d : List TPart) (l : Int) (s : St), d ++ t = xs → 0 ≤ l → l ≤ 1048576 → s.trim 0 [2, 4, 5, 6] = some ⟨[.imm 8 (xs.map TPart.i), .int .i64 l, .gone, .int .i64 d.length, .gone, .gone, .gone], []⟩ →
        ((((t.map TPart.sz).sum : Nat) : Int) ≤ l ∧ RunIter tab 7 l_laws_szPartS_0 0 [2, 4, 5, 6] s = some (.exit 0, ⟨[.imm 8 (xs.map TPart.i), .int .i64 (l - ((t.map TPart.sz).sum : Nat)), .gone, .int .i64 xs.length, .gone, .bool false, .gone], []⟩)) ∨
        (¬ (((t.map TPart.sz).sum : Nat) : Int) ≤ l ∧ ∃ a3, RunIter tab 7 l_laws_szPartS_0 0 [2, 4, 5, 6] s = some (.ret, ⟨[.imm 8 (xs.map TPart.i), .int .i64 (-1), .int .i64 (-1), .int .i64 a3, .gone, .bool true, .bool true], []⟩)) := by
      intro t
      induction t with
      | nil =>
        intro d l s he hl0 hl1 hs
        have e : d = xs := by simpa using he
        rw [e] at hs
        left
        refine ⟨by simpa using hl0, ?_⟩
        rw [iter_stop hs (s1 := ⟨[.imm 8 (xs.map TPart.i), .int .i64 l, .gone, .int .i64 xs.length, .gone, .bool false, .gone], []⟩) (ex := .exit 0) (by simp [l_laws_szPartS_0]) (by simp)]
        simp
      | cons x t ih =>
        intro d l s he hl0 hl1 hs
        have hlt : d.length < xs.length := by rw [← he]; simp
        have hw := wrap_len (a := d.length) (by omega)
        have hx := sz_Part x l hl0 hl1 (hok x (by rw [← he]; simp))
        by_cases c : ((x.sz : Nat) : Int) ≤ l
        · rw [if_pos c] at hx
          have c2 : ¬ (l - (x.sz : Nat) < 0) := by omega
          rw [iter_step hs (s1 := ⟨[.imm 8 (xs.map TPart.i), .int .i64 (l - (x.sz : Nat)), .gone, .int .i64 (d.length + 1), .gone, .bool true, .bool false], []⟩) (by
            simp [l_laws_szPartS_0, ← he, hw, TPart.i, TPart.ic, hx, c2])]
          have := ih (d ++ [x]) (l - (x.sz : Nat)) ⟨[.imm 8 (xs.map TPart.i), .int .i64 (l - (x.sz : Nat)), .gone, .int .i64 (d.length + 1), .gone, .bool true, .bool false], []⟩ (by simpa using he) (by omega) (by omega) (by simp)
          rcases this with ⟨k1, k2⟩ | ⟨k1, a3, k2⟩
          · left
            refine ⟨by simp only [List.map_cons, List.sum_cons]; omega, ?_⟩
            rw [k2]
            simp only [List.map_cons, List.sum_cons]
            rw [show l - (x.sz : Nat) - ((t.map TPart.sz).sum : Nat) = l - ((x.sz + (t.map TPart.sz).sum : Nat) : Int) by omega]
          · right
            exact ⟨by simp only [List.map_cons, List.sum_cons]; omega, a3, k2⟩
        · rw [if_neg c] at hx
          right
          refine ⟨by simp only [List.map_cons, List.sum_cons]; omega, d.length, ?_⟩
          rw [iter_stop hs (s1 := ⟨[.imm 8 (xs.map TPart.i), .int .i64 (-1), .int .i64 (-1), .int .i64 d.length, .gone, .bool true, .bool true], []⟩) (ex := .ret) (by
            simp [l_laws_szPartS_0, ← he, hw, TPart.i, TPart.ic, hx]) (by simp)]
    have k := key xs [] (left - xs.length) ⟨[.imm 8 (xs.map TPart.i), .int .i64 (left - xs.length), .int .i64 0, .int .i64 0, .bool false, .gone, .gone], []⟩ rfl (by omega) (by omega) (by simp)
    rcases k with ⟨k1, k2⟩ | ⟨k1, a3, k2⟩
    · have h3 : ((xs.length + (xs.map TPart.sz).sum : Nat) : Int) ≤ left := by omega
      rw [if_pos h3]
      simp [h_laws_szPartS, hw0, h2, k2]
      omega
    · have h3 : ¬ ((xs.length + (xs.map TPart.sz).sum : Nat) : Int) ≤ left := by omega
      rw [if_neg h3]
      simp [h_laws_szPartS, hw0, h2, k2]
  · have h2 : left - xs.length < 0 := by omega
    have h3 : ¬ (((xs.length + (xs.map TPart.sz).sum : Nat) : Int) ≤ left) := by omega
    simp only [if_neg h3]
    simp [h_laws_szPartS, hw0, h2]

theorem sz_Resp (a : TResp) (left : Int) (h0 : 0 ≤ left) (h1 : left ≤ 1048576) (hok : a.ok) : Run tab n_laws_szResp [.agg [V.int .i64 a.fKind, V.int .i64 a.fFault, V.int .i64 a.fAt, V.int .i64 a.fN, V.imm 1 (a.fWords.map (V.int .i64)), V.imm 1 (a.fBits.map V.bool)], .int .i64 left] [] = some (.int .i64 (if ((a.sz : Nat) : Int) ≤ left then left - (a.sz : Nat) else -1), []) := by
  have hsz : a.sz = a.fWords.length + a.fBits.length := rfl
  simp only [TResp.ok] at hok
  rw [Run_go T_laws_szResp _ _ rfl]
  obtain ⟨z0, hz0⟩ : ∃ z : Nat, z = a.fWords.length := ⟨_, rfl⟩
  have u0 := sz_IntS a.fWords (left) (by omega) (by omega) (by omega)
  rw [← hz0] at u0
  by_cases c0 : ((z0 : Nat) : Int) ≤ left
  rotate_left
  · rw [if_neg c0] at u0
    rw [if_neg (by omega)]
    simp [h_laws_szResp, u0]
  rw [if_pos c0] at u0
  have n0 : ¬ (left - (z0 : Nat) < 0) := by omega
  obtain ⟨z1, hz1⟩ : ∃ z : Nat, z = a.fBits.length := ⟨_, rfl⟩
  have u1 := sz_BoolS a.fBits (left - (z0 : Nat)) (by omega) (by omega) (by omega)
  rw [← hz1] at u1
  by_cases c1 : ((z1 : Nat) : Int) ≤ left - (z0 : Nat)
  rotate_left
  · rw [if_neg c1] at u1
    rw [if_neg (by omega)]
    simp [h_laws_szResp, u0, n0, u1]
  rw [if_pos c1] at u1
  have n1 : ¬ (left - (z0 : Nat) - (z1 : Nat) < 0) := by omega
  rw [if_pos (by omega)]
  simp [h_laws_szResp, u0, n0, u1, n1]
  omega

theorem sz_RespS (xs : List TResp) (left : Int) (h0 : 0 ≤ left) (h1 : left ≤ 1048576) (hl : xs.length ≤ 9223372036854775807) (hok : ∀ x ∈ xs, x.ok) : Run tab n_laws_szRespS [.imm 6 (xs.map TResp.i), .int .i64 left] [] = some (.int .i64 (if ((xs.length + (xs.map TResp.sz).sum : Nat) : Int) ≤ left then left - (xs.length + (xs.map TResp.sz).sum : Nat) else -1), []) := by
  rw [Run_go T_laws_szRespS _ _ rfl]
  have hw0 : IntKind.i64.wrap (left - xs.length) = left - xs.length := wrap_id (by omega) (by omega)
  by_cases h : ((xs.length : Nat) : Int) ≤ left
  · have h2 : ¬ (left - xs.length < 0) := by omega
    have key : ∀ (t d : List TResp) (l : Int) (s : St), d ++ t = xs → 0 ≤ l → l ≤ 1048576 → s.trim 0 [2, 4, 5, 6] = some ⟨[.imm 6 (xs.map TResp.i), .int .i64 l, .gone, .int .i64 d.length, .gone, .gone, .gone], []⟩ →
        ((((t.map TResp.sz).sum : Nat) : Int) ≤ l ∧ RunIter tab 7 l_laws_szRespS_0 0 [2, 4, 5, 6] s = some (.exit 0, ⟨[.imm 6 (xs.map TResp.i), .int .i64 (l - ((t.map TResp.sz).sum : Nat)), .gone, .int .i64 xs.length, .gone, .bool false, .gone], []⟩)) ∨
        (¬ (((t.map TResp.sz).sum : Nat) : Int) ≤ l ∧ ∃ a3, RunIter tab 7 l_laws_szRespS_0 0 [2, 4, 5, 6] s = some (.ret, ⟨[.imm 6 (xs.map TResp.i), .int .i64 (-1), .int .i64 (-1), .int .i64 a3, .gone, .bool true, .bool true], []⟩)) := by
      intro t
      induction t with
      | nil =>
        intro d l s he hl0 hl1 hs
        have e : d = xs := by simpa using he
        rw [e] at hs
        left
        refine ⟨by simpa using hl0, ?_⟩
        rw [iter_stop hs (s1 := ⟨[.imm 6 (xs.map TResp.i), .int .i64 l, .gone, .int .i64 xs.length, .gone, .bool false, .gone], []⟩) (ex := .exit 0) (by simp [l_laws_szRespS_0]) (by simp)]
        simp
      | cons x t ih =>
        intro d l s he hl0 hl1 hs
        have hlt : d.length < xs.length := by rw [← he]; simp
        have hw := wrap_len (a := d.length) (by omega)
        have hx := sz_Resp x l hl0 hl1 (hok x (by rw [← he]; simp))
        by_cases c : ((x.sz : Nat) : Int) ≤ l
        · rw [if_pos c] at hx
          have c2 : ¬ (l - (x.sz : Nat) < 0) := by omega
          rw [iter_step hs (s1 := ⟨[.imm 6 (xs.map TResp.i), .int .i64 (l - (x.sz : Nat)), .gone, .int .i64 (d.length + 1), .gone, .bool true, .bool false], []⟩) (by
            simp [l_laws_szRespS_0, ← he, hw, TResp.i, TResp.ic, hx, c2])]
          have := ih (d ++ [x]) (l - (x.sz : Nat)) ⟨[.imm 6 (xs.map TResp.i), .int .i64 (l - (x.sz : Nat)), .gone, .int .i64 (d.length + 1), .gone, .bool true, .bool false], []⟩ (by simpa using he) (by omega) (by omega) (by simp)
          rcases this with ⟨k1, k2⟩ | ⟨k1, a3, k2⟩
          · left
            refine ⟨by simp only [List.map_cons, List.sum_cons]; omega, ?_⟩
            rw [k2]
            simp only [List.map_cons, List.sum_cons]
            rw [show l - (x.sz : Nat) - ((t.map TResp.sz).sum : Nat) = l - ((x.sz + (t.map TResp.sz).sum : Nat) : Int) by omega]
          · right
            exact ⟨by simp only [List.map_cons, List.sum_cons]; omega, a3, k2⟩
        · rw [if_neg c] at hx
          right
          refine ⟨by simp only [List.map_cons, List.sum_cons]; omega, d.length, ?_⟩
          rw [iter_stop hs (s1 := ⟨[.imm 6 (xs.map TResp.i), .int .i64 (-1), .int .i64 (-1), .int .i64 d.length, .gone, .bool true, .bool true], []⟩) (ex := .ret) (by
            simp [l_laws_szRespS_0, ← he, hw, TResp.i, TResp.ic, hx]) (by simp)]
    have k := key xs [] (left - xs.length) ⟨[.imm 6 (xs.map TResp.i), .int .i64 (left - xs.length), .int .i64 0, .int .i64 0, .bool false, .gone, .gone], []⟩ rfl (by omega) (by omega) (by simp)
    rcases k with ⟨k1, k2⟩ | ⟨k1, a3, k2⟩
    · have h3 : ((xs.length + (xs.map TResp.sz).sum : Nat) : Int) ≤ left := by omega
      rw [if_pos h3]
      simp [h_laws_szRespS, hw0, h2, k2]
      omega
    · have h3 : ¬ ((xs.length + (xs.map TResp.sz).sum : Nat) : Int) ≤ left := by omega
      rw [if_neg h3]
      simp [h_laws_szRespS, hw0, h2, k2]
  · have h2 : left - xs.length < 0 := by omega
    have h3 : ¬ (((xs.length + (xs.map TResp.sz).sum : Nat) : Int) ≤ left) := by omega
    simp only [if_neg h3]
    simp [h_laws_szRespS, hw0, h2]

theorem sz_Pend (a : TPend) (left : Int) (h0 : 0 ≤ left) (h1 : left ≤ 1048576) (hok : a.ok) : Run tab n_laws_szPend [.agg [V.int .i64 a.fId, V.int .i64 a.fSource, V.int .i64 a.fTag, V.int .i64 a.fUnit, V.int .i64 a.fReq.fKind, V.int .i64 a.fReq.fAt, V.int .i64 a.fReq.fN, V.imm 1 (a.fReq.fWords.map (V.int .i64)), V.imm 1 (a.fReq.fBits.map V.bool), V.int .i64 a.fReq.fWAt, V.imm 8 (a.fParts.map TPart.i), V.imm 1 (a.fHas.map V.bool), V.imm 6 (a.fTold.map TResp.i)], .int .i64 left] [] = some (.int .i64 (if ((a.sz : Nat) : Int) ≤ left then left - (a.sz : Nat) else -1), []) := by
  have hsz : a.sz = a.fReq.sz + (a.fParts.length + (a.fParts.map TPart.sz).sum) + a.fHas.length + (a.fTold.length + (a.fTold.map TResp.sz).sum) := rfl
  simp only [TPend.ok] at hok
  rw [Run_go T_laws_szPend _ _ rfl]
  obtain ⟨z0, hz0⟩ : ∃ z : Nat, z = a.fReq.sz := ⟨_, rfl⟩
  have u0 := sz_Req a.fReq (left) (by omega) (by omega) (by simp_all)
  rw [← hz0] at u0
  by_cases c0 : ((z0 : Nat) : Int) ≤ left
  rotate_left
  · rw [if_neg c0] at u0
    rw [if_neg (by omega)]
    simp [h_laws_szPend, u0]
  rw [if_pos c0] at u0
  have n0 : ¬ (left - (z0 : Nat) < 0) := by omega
  obtain ⟨z1, hz1⟩ : ∃ z : Nat, z = a.fParts.length + (a.fParts.map TPart.sz).sum := ⟨_, rfl⟩
  have u1 := sz_PartS a.fParts (left - (z0 : Nat)) (by omega) (by omega) (by omega) (fun x hx => by simp_all)
  rw [← hz1] at u1
  by_cases c1 : ((z1 : Nat) : Int) ≤ left - (z0 : Nat)
  rotate_left
  · rw [if_neg c1] at u1
    rw [if_neg (by omega)]
    simp [h_laws_szPend, u0, n0, u1]
  rw [if_pos c1] at u1
  have n1 : ¬ (left - (z0 : Nat) - (z1 : Nat) < 0) := by omega
  obtain ⟨z2, hz2⟩ : ∃ z : Nat, z = a.fHas.length := ⟨_, rfl⟩
  have u2 := sz_BoolS a.fHas (left - (z0 : Nat) - (z1 : Nat)) (by omega) (by omega) (by omega)
  rw [← hz2] at u2
  by_cases c2 : ((z2 : Nat) : Int) ≤ left - (z0 : Nat) - (z1 : Nat)
  rotate_left
  · rw [if_neg c2] at u2
    rw [if_neg (by omega)]
    simp [h_laws_szPend, u0, n0, u1, n1, u2]
  rw [if_pos c2] at u2
  have n2 : ¬ (left - (z0 : Nat) - (z1 : Nat) - (z2 : Nat) < 0) := by omega
  obtain ⟨z3, hz3⟩ : ∃ z : Nat, z = a.fTold.length + (a.fTold.map TResp.sz).sum := ⟨_, rfl⟩
  have u3 := sz_RespS a.fTold (left - (z0 : Nat) - (z1 : Nat) - (z2 : Nat)) (by omega) (by omega) (by omega) (fun x hx => by simp_all)
  rw [← hz3] at u3
  by_cases c3 : ((z3 : Nat) : Int) ≤ left - (z0 : Nat) - (z1 : Nat) - (z2 : Nat)
  rotate_left
  · rw [if_neg c3] at u3
    rw [if_neg (by omega)]
    simp [h_laws_szPend, u0, n0, u1, n1, u2, n2, u3]
  rw [if_pos c3] at u3
  have n3 : ¬ (left - (z0 : Nat) - (z1 : Nat) - (z2 : Nat) - (z3 : Nat) < 0) := by omega
  rw [if_pos (by omega)]
  simp [h_laws_szPend, u0, n0, u1, n1, u2, n2, u3, n3]
  omega

theorem sz_PendS (xs : List TPend) (left : Int) (h0 : 0 ≤ left) (h1 : left ≤ 1048576) (hl : xs.length ≤ 9223372036854775807) (hok : ∀ x ∈ xs, x.ok) : Run tab n_laws_szPendS [.imm 13 (xs.map TPend.i), .int .i64 left] [] = some (.int .i64 (if ((xs.length + (xs.map TPend.sz).sum : Nat) : Int) ≤ left then left - (xs.length + (xs.map TPend.sz).sum : Nat) else -1), []) := by
  rw [Run_go T_laws_szPendS _ _ rfl]
  have hw0 : IntKind.i64.wrap (left - xs.length) = left - xs.length := wrap_id (by omega) (by omega)
  by_cases h : ((xs.length : Nat) : Int) ≤ left
  · have h2 : ¬ (left - xs.length < 0) := by omega
    have key : ∀ (t d : List TPend) (l : Int) (s : St), d ++ t = xs → 0 ≤ l → l ≤ 1048576 → s.trim 0 [2, 4, 5, 6] = some ⟨[.imm 13 (xs.map TPend.i), .int .i64 l, .gone, .int .i64 d.length, .gone, .gone, .gone], []⟩ →
        ((((t.map TPend.sz).sum : Nat) : Int) ≤ l ∧ RunIter tab 7 l_laws_szPendS_0 0 [2, 4, 5, 6] s = some (.exit 0, ⟨[.imm 13 (xs.map TPend.i), .int .i64 (l - ((t.map TPend.sz).sum : Nat)), .gone, .int .i64 xs.length, .gone, .bool false, .gone], []⟩)) ∨
        (¬ (((t.map TPend.sz).sum : Nat) : Int) ≤ l ∧ ∃ a3, RunIter tab 7 l_laws_szPendS_0 0 [2, 4, 5, 6] s = some (.ret, ⟨[.imm 13 (xs.map TPend.i), .int .i64 (-1), .int .i64 (-1), .int .i64 a3, .gone, .bool true, .bool true], []⟩)) := by
      intro t
      induction t with
      | nil =>
        intro d l s he hl0 hl1 hs
        have e : d = xs := by simpa using he
        rw [e] at hs
        left
        refine ⟨by simpa using hl0, ?_⟩
        rw [iter_stop hs (s1 := ⟨[.imm 13 (xs.map TPend.i), .int .i64 l, .gone, .int .i64 xs.length, .gone, .bool false, .gone], []⟩) (ex := .exit 0) (by simp [l_laws_szPendS_0]) (by simp)]
        simp
      | cons x t ih =>
        intro d l s he hl0 hl1 hs
        have hlt : d.length < xs.length := by rw [← he]; simp
        have hw := wrap_len (a := d.length) (by omega)
        have hx := sz_Pend x l hl0 hl1 (hok x (by rw [← he]; simp))
        by_cases c : ((x.sz : Nat) : Int) ≤ l
        · rw [if_pos c] at hx
          have c2 : ¬ (l - (x.sz : Nat) < 0) := by omega
          rw [iter_step hs (s1 := ⟨[.imm 13 (xs.map TPend.i), .int .i64 (l - (x.sz : Nat)), .gone, .int .i64 (d.length + 1), .gone, .bool true, .bool false], []⟩) (by
            simp [l_laws_szPendS_0, ← he, hw, TPend.i, TPend.ic, hx, c2])]
          have := ih (d ++ [x]) (l - (x.sz : Nat)) ⟨[.imm 13 (xs.map TPend.i), .int .i64 (l - (x.sz : Nat)), .gone, .int .i64 (d.length + 1), .gone, .bool true, .bool false], []⟩ (by simpa using he) (by omega) (by omega) (by simp)
          rcases this with ⟨k1, k2⟩ | ⟨k1, a3, k2⟩
          · left
            refine ⟨by simp only [List.map_cons, List.sum_cons]; omega, ?_⟩
            rw [k2]
            simp only [List.map_cons, List.sum_cons]
            rw [show l - (x.sz : Nat) - ((t.map TPend.sz).sum : Nat) = l - ((x.sz + (t.map TPend.sz).sum : Nat) : Int) by omega]
          · right
            exact ⟨by simp only [List.map_cons, List.sum_cons]; omega, a3, k2⟩
        · rw [if_neg c] at hx
          right
          refine ⟨by simp only [List.map_cons, List.sum_cons]; omega, d.length, ?_⟩
          rw [iter_stop hs (s1 := ⟨[.imm 13 (xs.map TPend.i), .int .i64 (-1), .int .i64 (-1), .int .i64 d.length, .gone, .bool true, .bool true], []⟩) (ex := .ret) (by
            simp [l_laws_szPendS_0, ← he, hw, TPend.i, TPend.ic, hx]) (by simp)]
    have k := key xs [] (left - xs.length) ⟨[.imm 13 (xs.map TPend.i), .int .i64 (left - xs.length), .int .i64 0, .int .i64 0, .bool false, .gone, .gone], []⟩ rfl (by omega) (by omega) (by simp)
    rcases k with ⟨k1, k2⟩ | ⟨k1, a3, k2⟩
    · have h3 : ((xs.length + (xs.map TPend.sz).sum : Nat) : Int) ≤ left := by omega
      rw [if_pos h3]
      simp [h_laws_szPendS, hw0, h2, k2]
      omega
    · have h3 : ¬ ((xs.length + (xs.map TPend.sz).sum : Nat) : Int) ≤ left := by omega
      rw [if_neg h3]
      simp [h_laws_szPendS, hw0, h2, k2]
  · have h2 : left - xs.length < 0 := by omega
    have h3 : ¬ (((xs.length + (xs.map TPend.sz).sum : Nat) : Int) ≤ left) := by omega
    simp only [if_neg h3]
    simp [h_laws_szPendS, hw0, h2]

theorem sz_Table (a : TTable) (left : Int) (h0 : 0 ≤ left) (h1 : left ≤ 1048576) (hok : a.ok) : Run tab n_laws_szTable [.agg [V.int .i64 a.fNext, V.imm 13 (a.fList.map TPend.i)], .int .i64 left] [] = some (.int .i64 (if ((a.sz : Nat) : Int) ≤ left then left - (a.sz : Nat) else -1), []) := by
  have hsz : a.sz = (a.fList.length + (a.fList.map TPend.sz).sum) := rfl
  simp only [TTable.ok] at hok
  rw [Run_go T_laws_szTable _ _ rfl]
  obtain ⟨z0, hz0⟩ : ∃ z : Nat, z = a.fList.length + (a.fList.map TPend.sz).sum := ⟨_, rfl⟩
  have u0 := sz_PendS a.fList (left) (by omega) (by omega) (by omega) (fun x hx => by simp_all)
  rw [← hz0] at u0
  by_cases c0 : ((z0 : Nat) : Int) ≤ left
  rotate_left
  · rw [if_neg c0] at u0
    rw [if_neg (by omega)]
    simp [h_laws_szTable, u0]
  rw [if_pos c0] at u0
  have n0 : ¬ (left - (z0 : Nat) < 0) := by omega
  rw [if_pos (by omega)]
  simp [h_laws_szTable, u0, n0]
  omega

theorem sz_Call (a : TCall) (left : Int) (h0 : 0 ≤ left) (h1 : left ≤ 1048576) (hok : a.ok) : Run tab n_laws_szCall [.agg [V.int .i64 a.fId, V.int .i64 a.fPart, V.int .i64 a.fUnit, V.int .i64 a.fReq.fKind, V.int .i64 a.fReq.fAt, V.int .i64 a.fReq.fN, V.imm 1 (a.fReq.fWords.map (V.int .i64)), V.imm 1 (a.fReq.fBits.map V.bool), V.int .i64 a.fReq.fWAt], .int .i64 left] [] = some (.int .i64 (if ((a.sz : Nat) : Int) ≤ left then left - (a.sz : Nat) else -1), []) := by
  have hsz : a.sz = a.fReq.sz := rfl
  simp only [TCall.ok] at hok
  rw [Run_go T_laws_szCall _ _ rfl]
  obtain ⟨z0, hz0⟩ : ∃ z : Nat, z = a.fReq.sz := ⟨_, rfl⟩
  have u0 := sz_Req a.fReq (left) (by omega) (by omega) (by simp_all)
  rw [← hz0] at u0
  by_cases c0 : ((z0 : Nat) : Int) ≤ left
  rotate_left
  · rw [if_neg c0] at u0
    rw [if_neg (by omega)]
    simp [h_laws_szCall, u0]
  rw [if_pos c0] at u0
  have n0 : ¬ (left - (z0 : Nat) < 0) := by omega
  rw [if_pos (by omega)]
  simp [h_laws_szCall, u0, n0]
  omega

theorem sz_CallS (xs : List TCall) (left : Int) (h0 : 0 ≤ left) (h1 : left ≤ 1048576) (hl : xs.length ≤ 9223372036854775807) (hok : ∀ x ∈ xs, x.ok) : Run tab n_laws_szCallS [.imm 9 (xs.map TCall.i), .int .i64 left] [] = some (.int .i64 (if ((xs.length + (xs.map TCall.sz).sum : Nat) : Int) ≤ left then left - (xs.length + (xs.map TCall.sz).sum : Nat) else -1), []) := by
  rw [Run_go T_laws_szCallS _ _ rfl]
  have hw0 : IntKind.i64.wrap (left - xs.length) = left - xs.length := wrap_id (by omega) (by omega)
  by_cases h : ((xs.length : Nat) : Int) ≤ left
  · have h2 : ¬ (left - xs.length < 0) := by omega
    have key : ∀ (t d : List TCall) (l : Int) (s : St), d ++ t = xs → 0 ≤ l → l ≤ 1048576 → s.trim 0 [2, 4, 5, 6] = some ⟨[.imm 9 (xs.map TCall.i), .int .i64 l, .gone, .int .i64 d.length, .gone, .gone, .gone], []⟩ →
        ((((t.map TCall.sz).sum : Nat) : Int) ≤ l ∧ RunIter tab 7 l_laws_szCallS_0 0 [2, 4, 5, 6] s = some (.exit 0, ⟨[.imm 9 (xs.map TCall.i), .int .i64 (l - ((t.map TCall.sz).sum : Nat)), .gone, .int .i64 xs.length, .gone, .bool false, .gone], []⟩)) ∨
        (¬ (((t.map TCall.sz).sum : Nat) : Int) ≤ l ∧ ∃ a3, RunIter tab 7 l_laws_szCallS_0 0 [2, 4, 5, 6] s = some (.ret, ⟨[.imm 9 (xs.map TCall.i), .int .i64 (-1), .int .i64 (-1), .int .i64 a3, .gone, .bool true, .bool true], []⟩)) := by
      intro t
      induction t with
      | nil =>
        intro d l s he hl0 hl1 hs
        have e : d = xs := by simpa using he
        rw [e] at hs
        left
        refine ⟨by simpa using hl0, ?_⟩
        rw [iter_stop hs (s1 := ⟨[.imm 9 (xs.map TCall.i), .int .i64 l, .gone, .int .i64 xs.length, .gone, .bool false, .gone], []⟩) (ex := .exit 0) (by simp [l_laws_szCallS_0]) (by simp)]
        simp
      | cons x t ih =>
        intro d l s he hl0 hl1 hs
        have hlt : d.length < xs.length := by rw [← he]; simp
        have hw := wrap_len (a := d.length) (by omega)
        have hx := sz_Call x l hl0 hl1 (hok x (by rw [← he]; simp))
        by_cases c : ((x.sz : Nat) : Int) ≤ l
        · rw [if_pos c] at hx
          have c2 : ¬ (l - (x.sz : Nat) < 0) := by omega
          rw [iter_step hs (s1 := ⟨[.imm 9 (xs.map TCall.i), .int .i64 (l - (x.sz : Nat)), .gone, .int .i64 (d.length + 1), .gone, .bool true, .bool false], []⟩) (by
            simp [l_laws_szCallS_0, ← he, hw, TCall.i, TCall.ic, hx, c2])]
          have := ih (d ++ [x]) (l - (x.sz : Nat)) ⟨[.imm 9 (xs.map TCall.i), .int .i64 (l - (x.sz : Nat)), .gone, .int .i64 (d.length + 1), .gone, .bool true, .bool false], []⟩ (by simpa using he) (by omega) (by omega) (by simp)
          rcases this with ⟨k1, k2⟩ | ⟨k1, a3, k2⟩
          · left
            refine ⟨by simp only [List.map_cons, List.sum_cons]; omega, ?_⟩
            rw [k2]
            simp only [List.map_cons, List.sum_cons]
            rw [show l - (x.sz : Nat) - ((t.map TCall.sz).sum : Nat) = l - ((x.sz + (t.map TCall.sz).sum : Nat) : Int) by omega]
          · right
            exact ⟨by simp only [List.map_cons, List.sum_cons]; omega, a3, k2⟩
        · rw [if_neg c] at hx
          right
          refine ⟨by simp only [List.map_cons, List.sum_cons]; omega, d.length, ?_⟩
          rw [iter_stop hs (s1 := ⟨[.imm 9 (xs.map TCall.i), .int .i64 (-1), .int .i64 (-1), .int .i64 d.length, .gone, .bool true, .bool true], []⟩) (ex := .ret) (by
            simp [l_laws_szCallS_0, ← he, hw, TCall.i, TCall.ic, hx]) (by simp)]
    have k := key xs [] (left - xs.length) ⟨[.imm 9 (xs.map TCall.i), .int .i64 (left - xs.length), .int .i64 0, .int .i64 0, .bool false, .gone, .gone], []⟩ rfl (by omega) (by omega) (by simp)
    rcases k with ⟨k1, k2⟩ | ⟨k1, a3, k2⟩
    · have h3 : ((xs.length + (xs.map TCall.sz).sum : Nat) : Int) ≤ left := by omega
      rw [if_pos h3]
      simp [h_laws_szCallS, hw0, h2, k2]
      omega
    · have h3 : ¬ ((xs.length + (xs.map TCall.sz).sum : Nat) : Int) ≤ left := by omega
      rw [if_neg h3]
      simp [h_laws_szCallS, hw0, h2, k2]
  · have h2 : left - xs.length < 0 := by omega
    have h3 : ¬ (((xs.length + (xs.map TCall.sz).sum : Nat) : Int) ≤ left) := by omega
    simp only [if_neg h3]
    simp [h_laws_szCallS, hw0, h2]

theorem sz_Line (a : TLine) (left : Int) (h0 : 0 ≤ left) (h1 : left ≤ 1048576) (hok : a.ok) : Run tab n_laws_szLine [.agg [V.imm 9 (a.fQueue.map TCall.i), V.bool a.fBusy, V.int .i64 a.fCall.fId, V.int .i64 a.fCall.fPart, V.int .i64 a.fCall.fUnit, V.int .i64 a.fCall.fReq.fKind, V.int .i64 a.fCall.fReq.fAt, V.int .i64 a.fCall.fReq.fN, V.imm 1 (a.fCall.fReq.fWords.map (V.int .i64)), V.imm 1 (a.fCall.fReq.fBits.map V.bool), V.int .i64 a.fCall.fReq.fWAt, V.int .i64 a.fNumber, V.int .i64 a.fDue, V.int .i64 a.fLeft, V.int .i64 a.fNext, V.int .i64 a.fWait, V.int .i64 a.fTries], .int .i64 left] [] = some (.int .i64 (if ((a.sz : Nat) : Int) ≤ left then left - (a.sz : Nat) else -1), []) := by
  have hsz : a.sz = (a.fQueue.length + (a.fQueue.map TCall.sz).sum) + a.fCall.sz := rfl
  simp only [TLine.ok] at hok
  rw [Run_go T_laws_szLine _ _ rfl]
  obtain ⟨z0, hz0⟩ : ∃ z : Nat, z = a.fQueue.length + (a.fQueue.map TCall.sz).sum := ⟨_, rfl⟩
  have u0 := sz_CallS a.fQueue (left) (by omega) (by omega) (by omega) (fun x hx => by simp_all)
  rw [← hz0] at u0
  by_cases c0 : ((z0 : Nat) : Int) ≤ left
  rotate_left
  · rw [if_neg c0] at u0
    rw [if_neg (by omega)]
    simp [h_laws_szLine, u0]
  rw [if_pos c0] at u0
  have n0 : ¬ (left - (z0 : Nat) < 0) := by omega
  obtain ⟨z1, hz1⟩ : ∃ z : Nat, z = a.fCall.sz := ⟨_, rfl⟩
  have u1 := sz_Call a.fCall (left - (z0 : Nat)) (by omega) (by omega) (by simp_all)
  rw [← hz1] at u1
  by_cases c1 : ((z1 : Nat) : Int) ≤ left - (z0 : Nat)
  rotate_left
  · rw [if_neg c1] at u1
    rw [if_neg (by omega)]
    simp [h_laws_szLine, u0, n0, u1]
  rw [if_pos c1] at u1
  have n1 : ¬ (left - (z0 : Nat) - (z1 : Nat) < 0) := by omega
  rw [if_pos (by omega)]
  simp [h_laws_szLine, u0, n0, u1, n1]
  omega

theorem sz_LineS (xs : List TLine) (left : Int) (h0 : 0 ≤ left) (h1 : left ≤ 1048576) (hl : xs.length ≤ 9223372036854775807) (hok : ∀ x ∈ xs, x.ok) : Run tab n_laws_szLineS [.imm 17 (xs.map TLine.i), .int .i64 left] [] = some (.int .i64 (if ((xs.length + (xs.map TLine.sz).sum : Nat) : Int) ≤ left then left - (xs.length + (xs.map TLine.sz).sum : Nat) else -1), []) := by
  rw [Run_go T_laws_szLineS _ _ rfl]
  have hw0 : IntKind.i64.wrap (left - xs.length) = left - xs.length := wrap_id (by omega) (by omega)
  by_cases h : ((xs.length : Nat) : Int) ≤ left
  · have h2 : ¬ (left - xs.length < 0) := by omega
    have key : ∀ (t d : List TLine) (l : Int) (s : St), d ++ t = xs → 0 ≤ l → l ≤ 1048576 → s.trim 0 [2, 4, 5, 6] = some ⟨[.imm 17 (xs.map TLine.i), .int .i64 l, .gone, .int .i64 d.length, .gone, .gone, .gone], []⟩ →
        ((((t.map TLine.sz).sum : Nat) : Int) ≤ l ∧ RunIter tab 7 l_laws_szLineS_0 0 [2, 4, 5, 6] s = some (.exit 0, ⟨[.imm 17 (xs.map TLine.i), .int .i64 (l - ((t.map TLine.sz).sum : Nat)), .gone, .int .i64 xs.length, .gone, .bool false, .gone], []⟩)) ∨
        (¬ (((t.map TLine.sz).sum : Nat) : Int) ≤ l ∧ ∃ a3, RunIter tab 7 l_laws_szLineS_0 0 [2, 4, 5, 6] s = some (.ret, ⟨[.imm 17 (xs.map TLine.i), .int .i64 (-1), .int .i64 (-1), .int .i64 a3, .gone, .bool true, .bool true], []⟩)) := by
      intro t
      induction t with
      | nil =>
        intro d l s he hl0 hl1 hs
        have e : d = xs := by simpa using he
        rw [e] at hs
        left
        refine ⟨by simpa using hl0, ?_⟩
        rw [iter_stop hs (s1 := ⟨[.imm 17 (xs.map TLine.i), .int .i64 l, .gone, .int .i64 xs.length, .gone, .bool false, .gone], []⟩) (ex := .exit 0) (by simp [l_laws_szLineS_0]) (by simp)]
        simp
      | cons x t ih =>
        intro d l s he hl0 hl1 hs
        have hlt : d.length < xs.length := by rw [← he]; simp
        have hw := wrap_len (a := d.length) (by omega)
        have hx := sz_Line x l hl0 hl1 (hok x (by rw [← he]; simp))
        by_cases c : ((x.sz : Nat) : Int) ≤ l
        · rw [if_pos c] at hx
          have c2 : ¬ (l - (x.sz : Nat) < 0) := by omega
          rw [iter_step hs (s1 := ⟨[.imm 17 (xs.map TLine.i), .int .i64 (l - (x.sz : Nat)), .gone, .int .i64 (d.length + 1), .gone, .bool true, .bool false], []⟩) (by
            simp [l_laws_szLineS_0, ← he, hw, TLine.i, TLine.ic, hx, c2])]
          have := ih (d ++ [x]) (l - (x.sz : Nat)) ⟨[.imm 17 (xs.map TLine.i), .int .i64 (l - (x.sz : Nat)), .gone, .int .i64 (d.length + 1), .gone, .bool true, .bool false], []⟩ (by simpa using he) (by omega) (by omega) (by simp)
          rcases this with ⟨k1, k2⟩ | ⟨k1, a3, k2⟩
          · left
            refine ⟨by simp only [List.map_cons, List.sum_cons]; omega, ?_⟩
            rw [k2]
            simp only [List.map_cons, List.sum_cons]
            rw [show l - (x.sz : Nat) - ((t.map TLine.sz).sum : Nat) = l - ((x.sz + (t.map TLine.sz).sum : Nat) : Int) by omega]
          · right
            exact ⟨by simp only [List.map_cons, List.sum_cons]; omega, a3, k2⟩
        · rw [if_neg c] at hx
          right
          refine ⟨by simp only [List.map_cons, List.sum_cons]; omega, d.length, ?_⟩
          rw [iter_stop hs (s1 := ⟨[.imm 17 (xs.map TLine.i), .int .i64 (-1), .int .i64 (-1), .int .i64 d.length, .gone, .bool true, .bool true], []⟩) (ex := .ret) (by
            simp [l_laws_szLineS_0, ← he, hw, TLine.i, TLine.ic, hx]) (by simp)]
    have k := key xs [] (left - xs.length) ⟨[.imm 17 (xs.map TLine.i), .int .i64 (left - xs.length), .int .i64 0, .int .i64 0, .bool false, .gone, .gone], []⟩ rfl (by omega) (by omega) (by simp)
    rcases k with ⟨k1, k2⟩ | ⟨k1, a3, k2⟩
    · have h3 : ((xs.length + (xs.map TLine.sz).sum : Nat) : Int) ≤ left := by omega
      rw [if_pos h3]
      simp [h_laws_szLineS, hw0, h2, k2]
      omega
    · have h3 : ¬ ((xs.length + (xs.map TLine.sz).sum : Nat) : Int) ≤ left := by omega
      rw [if_neg h3]
      simp [h_laws_szLineS, hw0, h2, k2]
  · have h2 : left - xs.length < 0 := by omega
    have h3 : ¬ (((xs.length + (xs.map TLine.sz).sum : Nat) : Int) ≤ left) := by omega
    simp only [if_neg h3]
    simp [h_laws_szLineS, hw0, h2]

theorem sz_Fabric (a : TFabric) (left : Int) (h0 : 0 ≤ left) (h1 : left ≤ 1048576) (hok : a.ok) : Run tab n_laws_szFabric [.agg [V.int .i64 a.fNow, V.int .i64 a.fSet.fWait, V.int .i64 a.fSet.fTries, V.imm 7 (a.fSet.fRules.map TRule.i), V.int .i64 a.fOpen.fNext, V.imm 13 (a.fOpen.fList.map TPend.i), V.imm 17 (a.fLines.map TLine.i), V.int .i64 a.fAsked, V.int .i64 a.fReplied, V.int .i64 a.fFaults, V.int .i64 a.fSent], .int .i64 left] [] = some (.int .i64 (if ((a.sz : Nat) : Int) ≤ left then left - (a.sz : Nat) else -1), []) := by
  have hsz : a.sz = a.fSet.sz + a.fOpen.sz + (a.fLines.length + (a.fLines.map TLine.sz).sum) := rfl
  simp only [TFabric.ok] at hok
  rw [Run_go T_laws_szFabric _ _ rfl]
  obtain ⟨z0, hz0⟩ : ∃ z : Nat, z = a.fSet.sz := ⟨_, rfl⟩
  have u0 := sz_Config a.fSet (left) (by omega) (by omega) (by simp_all)
  rw [← hz0] at u0
  by_cases c0 : ((z0 : Nat) : Int) ≤ left
  rotate_left
  · rw [if_neg c0] at u0
    rw [if_neg (by omega)]
    simp [h_laws_szFabric, u0]
  rw [if_pos c0] at u0
  have n0 : ¬ (left - (z0 : Nat) < 0) := by omega
  obtain ⟨z1, hz1⟩ : ∃ z : Nat, z = a.fOpen.sz := ⟨_, rfl⟩
  have u1 := sz_Table a.fOpen (left - (z0 : Nat)) (by omega) (by omega) (by simp_all)
  rw [← hz1] at u1
  by_cases c1 : ((z1 : Nat) : Int) ≤ left - (z0 : Nat)
  rotate_left
  · rw [if_neg c1] at u1
    rw [if_neg (by omega)]
    simp [h_laws_szFabric, u0, n0, u1]
  rw [if_pos c1] at u1
  have n1 : ¬ (left - (z0 : Nat) - (z1 : Nat) < 0) := by omega
  obtain ⟨z2, hz2⟩ : ∃ z : Nat, z = a.fLines.length + (a.fLines.map TLine.sz).sum := ⟨_, rfl⟩
  have u2 := sz_LineS a.fLines (left - (z0 : Nat) - (z1 : Nat)) (by omega) (by omega) (by omega) (fun x hx => by simp_all)
  rw [← hz2] at u2
  by_cases c2 : ((z2 : Nat) : Int) ≤ left - (z0 : Nat) - (z1 : Nat)
  rotate_left
  · rw [if_neg c2] at u2
    rw [if_neg (by omega)]
    simp [h_laws_szFabric, u0, n0, u1, n1, u2]
  rw [if_pos c2] at u2
  have n2 : ¬ (left - (z0 : Nat) - (z1 : Nat) - (z2 : Nat) < 0) := by omega
  rw [if_pos (by omega)]
  simp [h_laws_szFabric, u0, n0, u1, n1, u2, n2]
  omega

theorem sz_Device (a : TDevice) (left : Int) (h0 : 0 ≤ left) (h1 : left ≤ 1048576) (hok : a.ok) : Run tab n_laws_szDevice [.agg [V.imm 1 (a.fCoils.map V.bool), V.imm 1 (a.fInputs.map V.bool), V.imm 1 (a.fHolding.map (V.int .i64)), V.imm 1 (a.fWords.map (V.int .i64))], .int .i64 left] [] = some (.int .i64 (if ((a.sz : Nat) : Int) ≤ left then left - (a.sz : Nat) else -1), []) := by
  have hsz : a.sz = a.fCoils.length + a.fInputs.length + a.fHolding.length + a.fWords.length := rfl
  simp only [TDevice.ok] at hok
  rw [Run_go T_laws_szDevice _ _ rfl]
  obtain ⟨z0, hz0⟩ : ∃ z : Nat, z = a.fCoils.length := ⟨_, rfl⟩
  have u0 := sz_BoolS a.fCoils (left) (by omega) (by omega) (by omega)
  rw [← hz0] at u0
  by_cases c0 : ((z0 : Nat) : Int) ≤ left
  rotate_left
  · rw [if_neg c0] at u0
    rw [if_neg (by omega)]
    simp [h_laws_szDevice, u0]
  rw [if_pos c0] at u0
  have n0 : ¬ (left - (z0 : Nat) < 0) := by omega
  obtain ⟨z1, hz1⟩ : ∃ z : Nat, z = a.fInputs.length := ⟨_, rfl⟩
  have u1 := sz_BoolS a.fInputs (left - (z0 : Nat)) (by omega) (by omega) (by omega)
  rw [← hz1] at u1
  by_cases c1 : ((z1 : Nat) : Int) ≤ left - (z0 : Nat)
  rotate_left
  · rw [if_neg c1] at u1
    rw [if_neg (by omega)]
    simp [h_laws_szDevice, u0, n0, u1]
  rw [if_pos c1] at u1
  have n1 : ¬ (left - (z0 : Nat) - (z1 : Nat) < 0) := by omega
  obtain ⟨z2, hz2⟩ : ∃ z : Nat, z = a.fHolding.length := ⟨_, rfl⟩
  have u2 := sz_IntS a.fHolding (left - (z0 : Nat) - (z1 : Nat)) (by omega) (by omega) (by omega)
  rw [← hz2] at u2
  by_cases c2 : ((z2 : Nat) : Int) ≤ left - (z0 : Nat) - (z1 : Nat)
  rotate_left
  · rw [if_neg c2] at u2
    rw [if_neg (by omega)]
    simp [h_laws_szDevice, u0, n0, u1, n1, u2]
  rw [if_pos c2] at u2
  have n2 : ¬ (left - (z0 : Nat) - (z1 : Nat) - (z2 : Nat) < 0) := by omega
  obtain ⟨z3, hz3⟩ : ∃ z : Nat, z = a.fWords.length := ⟨_, rfl⟩
  have u3 := sz_IntS a.fWords (left - (z0 : Nat) - (z1 : Nat) - (z2 : Nat)) (by omega) (by omega) (by omega)
  rw [← hz3] at u3
  by_cases c3 : ((z3 : Nat) : Int) ≤ left - (z0 : Nat) - (z1 : Nat) - (z2 : Nat)
  rotate_left
  · rw [if_neg c3] at u3
    rw [if_neg (by omega)]
    simp [h_laws_szDevice, u0, n0, u1, n1, u2, n2, u3]
  rw [if_pos c3] at u3
  have n3 : ¬ (left - (z0 : Nat) - (z1 : Nat) - (z2 : Nat) - (z3 : Nat) < 0) := by omega
  rw [if_pos (by omega)]
  simp [h_laws_szDevice, u0, n0, u1, n1, u2, n2, u3, n3]
  omega

theorem sz_Post (a : TPost) (left : Int) (h0 : 0 ≤ left) (h1 : left ≤ 1048576) (hok : a.ok) : Run tab n_laws_szPost [.agg [V.int .i64 a.fPort, V.int .i64 a.fUnit, V.imm 1 (a.fD.fCoils.map V.bool), V.imm 1 (a.fD.fInputs.map V.bool), V.imm 1 (a.fD.fHolding.map (V.int .i64)), V.imm 1 (a.fD.fWords.map (V.int .i64))], .int .i64 left] [] = some (.int .i64 (if ((a.sz : Nat) : Int) ≤ left then left - (a.sz : Nat) else -1), []) := by
  have hsz : a.sz = a.fD.sz := rfl
  simp only [TPost.ok] at hok
  rw [Run_go T_laws_szPost _ _ rfl]
  obtain ⟨z0, hz0⟩ : ∃ z : Nat, z = a.fD.sz := ⟨_, rfl⟩
  have u0 := sz_Device a.fD (left) (by omega) (by omega) (by simp_all)
  rw [← hz0] at u0
  by_cases c0 : ((z0 : Nat) : Int) ≤ left
  rotate_left
  · rw [if_neg c0] at u0
    rw [if_neg (by omega)]
    simp [h_laws_szPost, u0]
  rw [if_pos c0] at u0
  have n0 : ¬ (left - (z0 : Nat) < 0) := by omega
  rw [if_pos (by omega)]
  simp [h_laws_szPost, u0, n0]
  omega

theorem sz_PostS (xs : List TPost) (left : Int) (h0 : 0 ≤ left) (h1 : left ≤ 1048576) (hl : xs.length ≤ 9223372036854775807) (hok : ∀ x ∈ xs, x.ok) : Run tab n_laws_szPostS [.imm 6 (xs.map TPost.i), .int .i64 left] [] = some (.int .i64 (if ((xs.length + (xs.map TPost.sz).sum : Nat) : Int) ≤ left then left - (xs.length + (xs.map TPost.sz).sum : Nat) else -1), []) := by
  rw [Run_go T_laws_szPostS _ _ rfl]
  have hw0 : IntKind.i64.wrap (left - xs.length) = left - xs.length := wrap_id (by omega) (by omega)
  by_cases h : ((xs.length : Nat) : Int) ≤ left
  · have h2 : ¬ (left - xs.length < 0) := by omega
    have key : ∀ (t d : List TPost) (l : Int) (s : St), d ++ t = xs → 0 ≤ l → l ≤ 1048576 → s.trim 0 [2, 4, 5, 6] = some ⟨[.imm 6 (xs.map TPost.i), .int .i64 l, .gone, .int .i64 d.length, .gone, .gone, .gone], []⟩ →
        ((((t.map TPost.sz).sum : Nat) : Int) ≤ l ∧ RunIter tab 7 l_laws_szPostS_0 0 [2, 4, 5, 6] s = some (.exit 0, ⟨[.imm 6 (xs.map TPost.i), .int .i64 (l - ((t.map TPost.sz).sum : Nat)), .gone, .int .i64 xs.length, .gone, .bool false, .gone], []⟩)) ∨
        (¬ (((t.map TPost.sz).sum : Nat) : Int) ≤ l ∧ ∃ a3, RunIter tab 7 l_laws_szPostS_0 0 [2, 4, 5, 6] s = some (.ret, ⟨[.imm 6 (xs.map TPost.i), .int .i64 (-1), .int .i64 (-1), .int .i64 a3, .gone, .bool true, .bool true], []⟩)) := by
      intro t
      induction t with
      | nil =>
        intro d l s he hl0 hl1 hs
        have e : d = xs := by simpa using he
        rw [e] at hs
        left
        refine ⟨by simpa using hl0, ?_⟩
        rw [iter_stop hs (s1 := ⟨[.imm 6 (xs.map TPost.i), .int .i64 l, .gone, .int .i64 xs.length, .gone, .bool false, .gone], []⟩) (ex := .exit 0) (by simp [l_laws_szPostS_0]) (by simp)]
        simp
      | cons x t ih =>
        intro d l s he hl0 hl1 hs
        have hlt : d.length < xs.length := by rw [← he]; simp
        have hw := wrap_len (a := d.length) (by omega)
        have hx := sz_Post x l hl0 hl1 (hok x (by rw [← he]; simp))
        by_cases c : ((x.sz : Nat) : Int) ≤ l
        · rw [if_pos c] at hx
          have c2 : ¬ (l - (x.sz : Nat) < 0) := by omega
          rw [iter_step hs (s1 := ⟨[.imm 6 (xs.map TPost.i), .int .i64 (l - (x.sz : Nat)), .gone, .int .i64 (d.length + 1), .gone, .bool true, .bool false], []⟩) (by
            simp [l_laws_szPostS_0, ← he, hw, TPost.i, TPost.ic, hx, c2])]
          have := ih (d ++ [x]) (l - (x.sz : Nat)) ⟨[.imm 6 (xs.map TPost.i), .int .i64 (l - (x.sz : Nat)), .gone, .int .i64 (d.length + 1), .gone, .bool true, .bool false], []⟩ (by simpa using he) (by omega) (by omega) (by simp)
          rcases this with ⟨k1, k2⟩ | ⟨k1, a3, k2⟩
          · left
            refine ⟨by simp only [List.map_cons, List.sum_cons]; omega, ?_⟩
            rw [k2]
            simp only [List.map_cons, List.sum_cons]
            rw [show l - (x.sz : Nat) - ((t.map TPost.sz).sum : Nat) = l - ((x.sz + (t.map TPost.sz).sum : Nat) : Int) by omega]
          · right
            exact ⟨by simp only [List.map_cons, List.sum_cons]; omega, a3, k2⟩
        · rw [if_neg c] at hx
          right
          refine ⟨by simp only [List.map_cons, List.sum_cons]; omega, d.length, ?_⟩
          rw [iter_stop hs (s1 := ⟨[.imm 6 (xs.map TPost.i), .int .i64 (-1), .int .i64 (-1), .int .i64 d.length, .gone, .bool true, .bool true], []⟩) (ex := .ret) (by
            simp [l_laws_szPostS_0, ← he, hw, TPost.i, TPost.ic, hx]) (by simp)]
    have k := key xs [] (left - xs.length) ⟨[.imm 6 (xs.map TPost.i), .int .i64 (left - xs.length), .int .i64 0, .int .i64 0, .bool false, .gone, .gone], []⟩ rfl (by omega) (by omega) (by simp)
    rcases k with ⟨k1, k2⟩ | ⟨k1, a3, k2⟩
    · have h3 : ((xs.length + (xs.map TPost.sz).sum : Nat) : Int) ≤ left := by omega
      rw [if_pos h3]
      simp [h_laws_szPostS, hw0, h2, k2]
      omega
    · have h3 : ¬ ((xs.length + (xs.map TPost.sz).sum : Nat) : Int) ≤ left := by omega
      rw [if_neg h3]
      simp [h_laws_szPostS, hw0, h2, k2]
  · have h2 : left - xs.length < 0 := by omega
    have h3 : ¬ (((xs.length + (xs.map TPost.sz).sum : Nat) : Int) ≤ left) := by omega
    simp only [if_neg h3]
    simp [h_laws_szPostS, hw0, h2]

theorem sz_Packet (a : TPacket) (left : Int) (h0 : 0 ≤ left) (h1 : left ≤ 1048576) (hok : a.ok) : Run tab n_laws_szPacket [.agg [V.bool a.fBack, V.int .i64 a.fPort, V.int .i64 a.fNumber, V.int .i64 a.fUnit, V.int .i64 a.fReq.fKind, V.int .i64 a.fReq.fAt, V.int .i64 a.fReq.fN, V.imm 1 (a.fReq.fWords.map (V.int .i64)), V.imm 1 (a.fReq.fBits.map V.bool), V.int .i64 a.fReq.fWAt, V.int .i64 a.fResp.fKind, V.int .i64 a.fResp.fFault, V.int .i64 a.fResp.fAt, V.int .i64 a.fResp.fN, V.imm 1 (a.fResp.fWords.map (V.int .i64)), V.imm 1 (a.fResp.fBits.map V.bool)], .int .i64 left] [] = some (.int .i64 (if ((a.sz : Nat) : Int) ≤ left then left - (a.sz : Nat) else -1), []) := by
  have hsz : a.sz = a.fReq.sz + a.fResp.sz := rfl
  simp only [TPacket.ok] at hok
  rw [Run_go T_laws_szPacket _ _ rfl]
  obtain ⟨z0, hz0⟩ : ∃ z : Nat, z = a.fReq.sz := ⟨_, rfl⟩
  have u0 := sz_Req a.fReq (left) (by omega) (by omega) (by simp_all)
  rw [← hz0] at u0
  by_cases c0 : ((z0 : Nat) : Int) ≤ left
  rotate_left
  · rw [if_neg c0] at u0
    rw [if_neg (by omega)]
    simp [h_laws_szPacket, u0]
  rw [if_pos c0] at u0
  have n0 : ¬ (left - (z0 : Nat) < 0) := by omega
  obtain ⟨z1, hz1⟩ : ∃ z : Nat, z = a.fResp.sz := ⟨_, rfl⟩
  have u1 := sz_Resp a.fResp (left - (z0 : Nat)) (by omega) (by omega) (by simp_all)
  rw [← hz1] at u1
  by_cases c1 : ((z1 : Nat) : Int) ≤ left - (z0 : Nat)
  rotate_left
  · rw [if_neg c1] at u1
    rw [if_neg (by omega)]
    simp [h_laws_szPacket, u0, n0, u1]
  rw [if_pos c1] at u1
  have n1 : ¬ (left - (z0 : Nat) - (z1 : Nat) < 0) := by omega
  rw [if_pos (by omega)]
  simp [h_laws_szPacket, u0, n0, u1, n1]
  omega

theorem sz_PacketS (xs : List TPacket) (left : Int) (h0 : 0 ≤ left) (h1 : left ≤ 1048576) (hl : xs.length ≤ 9223372036854775807) (hok : ∀ x ∈ xs, x.ok) : Run tab n_laws_szPacketS [.imm 16 (xs.map TPacket.i), .int .i64 left] [] = some (.int .i64 (if ((xs.length + (xs.map TPacket.sz).sum : Nat) : Int) ≤ left then left - (xs.length + (xs.map TPacket.sz).sum : Nat) else -1), []) := by
  rw [Run_go T_laws_szPacketS _ _ rfl]
  have hw0 : IntKind.i64.wrap (left - xs.length) = left - xs.length := wrap_id (by omega) (by omega)
  by_cases h : ((xs.length : Nat) : Int) ≤ left
  · have h2 : ¬ (left - xs.length < 0) := by omega
    have key : ∀ (t d : List TPacket) (l : Int) (s : St), d ++ t = xs → 0 ≤ l → l ≤ 1048576 → s.trim 0 [2, 4, 5, 6] = some ⟨[.imm 16 (xs.map TPacket.i), .int .i64 l, .gone, .int .i64 d.length, .gone, .gone, .gone], []⟩ →
        ((((t.map TPacket.sz).sum : Nat) : Int) ≤ l ∧ RunIter tab 7 l_laws_szPacketS_0 0 [2, 4, 5, 6] s = some (.exit 0, ⟨[.imm 16 (xs.map TPacket.i), .int .i64 (l - ((t.map TPacket.sz).sum : Nat)), .gone, .int .i64 xs.length, .gone, .bool false, .gone], []⟩)) ∨
        (¬ (((t.map TPacket.sz).sum : Nat) : Int) ≤ l ∧ ∃ a3, RunIter tab 7 l_laws_szPacketS_0 0 [2, 4, 5, 6] s = some (.ret, ⟨[.imm 16 (xs.map TPacket.i), .int .i64 (-1), .int .i64 (-1), .int .i64 a3, .gone, .bool true, .bool true], []⟩)) := by
      intro t
      induction t with
      | nil =>
        intro d l s he hl0 hl1 hs
        have e : d = xs := by simpa using he
        rw [e] at hs
        left
        refine ⟨by simpa using hl0, ?_⟩
        rw [iter_stop hs (s1 := ⟨[.imm 16 (xs.map TPacket.i), .int .i64 l, .gone, .int .i64 xs.length, .gone, .bool false, .gone], []⟩) (ex := .exit 0) (by simp [l_laws_szPacketS_0]) (by simp)]
        simp
      | cons x t ih =>
        intro d l s he hl0 hl1 hs
        have hlt : d.length < xs.length := by rw [← he]; simp
        have hw := wrap_len (a := d.length) (by omega)
        have hx := sz_Packet x l hl0 hl1 (hok x (by rw [← he]; simp))
        by_cases c : ((x.sz : Nat) : Int) ≤ l
        · rw [if_pos c] at hx
          have c2 : ¬ (l - (x.sz : Nat) < 0) := by omega
          rw [iter_step hs (s1 := ⟨[.imm 16 (xs.map TPacket.i), .int .i64 (l - (x.sz : Nat)), .gone, .int .i64 (d.length + 1), .gone, .bool true, .bool false], []⟩) (by
            simp [l_laws_szPacketS_0, ← he, hw, TPacket.i, TPacket.ic, hx, c2])]
          have := ih (d ++ [x]) (l - (x.sz : Nat)) ⟨[.imm 16 (xs.map TPacket.i), .int .i64 (l - (x.sz : Nat)), .gone, .int .i64 (d.length + 1), .gone, .bool true, .bool false], []⟩ (by simpa using he) (by omega) (by omega) (by simp)
          rcases this with ⟨k1, k2⟩ | ⟨k1, a3, k2⟩
          · left
            refine ⟨by simp only [List.map_cons, List.sum_cons]; omega, ?_⟩
            rw [k2]
            simp only [List.map_cons, List.sum_cons]
            rw [show l - (x.sz : Nat) - ((t.map TPacket.sz).sum : Nat) = l - ((x.sz + (t.map TPacket.sz).sum : Nat) : Int) by omega]
          · right
            exact ⟨by simp only [List.map_cons, List.sum_cons]; omega, a3, k2⟩
        · rw [if_neg c] at hx
          right
          refine ⟨by simp only [List.map_cons, List.sum_cons]; omega, d.length, ?_⟩
          rw [iter_stop hs (s1 := ⟨[.imm 16 (xs.map TPacket.i), .int .i64 (-1), .int .i64 (-1), .int .i64 d.length, .gone, .bool true, .bool true], []⟩) (ex := .ret) (by
            simp [l_laws_szPacketS_0, ← he, hw, TPacket.i, TPacket.ic, hx]) (by simp)]
    have k := key xs [] (left - xs.length) ⟨[.imm 16 (xs.map TPacket.i), .int .i64 (left - xs.length), .int .i64 0, .int .i64 0, .bool false, .gone, .gone], []⟩ rfl (by omega) (by omega) (by simp)
    rcases k with ⟨k1, k2⟩ | ⟨k1, a3, k2⟩
    · have h3 : ((xs.length + (xs.map TPacket.sz).sum : Nat) : Int) ≤ left := by omega
      rw [if_pos h3]
      simp [h_laws_szPacketS, hw0, h2, k2]
      omega
    · have h3 : ¬ ((xs.length + (xs.map TPacket.sz).sum : Nat) : Int) ≤ left := by omega
      rw [if_neg h3]
      simp [h_laws_szPacketS, hw0, h2, k2]
  · have h2 : left - xs.length < 0 := by omega
    have h3 : ¬ (((xs.length + (xs.map TPacket.sz).sum : Nat) : Int) ≤ left) := by omega
    simp only [if_neg h3]
    simp [h_laws_szPacketS, hw0, h2]

theorem sz_Reply (a : TReply) (left : Int) (h0 : 0 ≤ left) (h1 : left ≤ 1048576) (hok : a.ok) : Run tab n_laws_szReply [.agg [V.int .i64 a.fSource, V.int .i64 a.fTag, V.int .i64 a.fReq.fKind, V.int .i64 a.fReq.fAt, V.int .i64 a.fReq.fN, V.imm 1 (a.fReq.fWords.map (V.int .i64)), V.imm 1 (a.fReq.fBits.map V.bool), V.int .i64 a.fReq.fWAt, V.imm 8 (a.fParts.map TPart.i), V.imm 6 (a.fTold.map TResp.i), V.int .i64 a.fResp.fKind, V.int .i64 a.fResp.fFault, V.int .i64 a.fResp.fAt, V.int .i64 a.fResp.fN, V.imm 1 (a.fResp.fWords.map (V.int .i64)), V.imm 1 (a.fResp.fBits.map V.bool)], .int .i64 left] [] = some (.int .i64 (if ((a.sz : Nat) : Int) ≤ left then left - (a.sz : Nat) else -1), []) := by
  have hsz : a.sz = a.fReq.sz + (a.fParts.length + (a.fParts.map TPart.sz).sum) + (a.fTold.length + (a.fTold.map TResp.sz).sum) + a.fResp.sz := rfl
  simp only [TReply.ok] at hok
  rw [Run_go T_laws_szReply _ _ rfl]
  obtain ⟨z0, hz0⟩ : ∃ z : Nat, z = a.fReq.sz := ⟨_, rfl⟩
  have u0 := sz_Req a.fReq (left) (by omega) (by omega) (by simp_all)
  rw [← hz0] at u0
  by_cases c0 : ((z0 : Nat) : Int) ≤ left
  rotate_left
  · rw [if_neg c0] at u0
    rw [if_neg (by omega)]
    simp [h_laws_szReply, u0]
  rw [if_pos c0] at u0
  have n0 : ¬ (left - (z0 : Nat) < 0) := by omega
  obtain ⟨z1, hz1⟩ : ∃ z : Nat, z = a.fParts.length + (a.fParts.map TPart.sz).sum := ⟨_, rfl⟩
  have u1 := sz_PartS a.fParts (left - (z0 : Nat)) (by omega) (by omega) (by omega) (fun x hx => by simp_all)
  rw [← hz1] at u1
  by_cases c1 : ((z1 : Nat) : Int) ≤ left - (z0 : Nat)
  rotate_left
  · rw [if_neg c1] at u1
    rw [if_neg (by omega)]
    simp [h_laws_szReply, u0, n0, u1]
  rw [if_pos c1] at u1
  have n1 : ¬ (left - (z0 : Nat) - (z1 : Nat) < 0) := by omega
  obtain ⟨z2, hz2⟩ : ∃ z : Nat, z = a.fTold.length + (a.fTold.map TResp.sz).sum := ⟨_, rfl⟩
  have u2 := sz_RespS a.fTold (left - (z0 : Nat) - (z1 : Nat)) (by omega) (by omega) (by omega) (fun x hx => by simp_all)
  rw [← hz2] at u2
  by_cases c2 : ((z2 : Nat) : Int) ≤ left - (z0 : Nat) - (z1 : Nat)
  rotate_left
  · rw [if_neg c2] at u2
    rw [if_neg (by omega)]
    simp [h_laws_szReply, u0, n0, u1, n1, u2]
  rw [if_pos c2] at u2
  have n2 : ¬ (left - (z0 : Nat) - (z1 : Nat) - (z2 : Nat) < 0) := by omega
  obtain ⟨z3, hz3⟩ : ∃ z : Nat, z = a.fResp.sz := ⟨_, rfl⟩
  have u3 := sz_Resp a.fResp (left - (z0 : Nat) - (z1 : Nat) - (z2 : Nat)) (by omega) (by omega) (by simp_all)
  rw [← hz3] at u3
  by_cases c3 : ((z3 : Nat) : Int) ≤ left - (z0 : Nat) - (z1 : Nat) - (z2 : Nat)
  rotate_left
  · rw [if_neg c3] at u3
    rw [if_neg (by omega)]
    simp [h_laws_szReply, u0, n0, u1, n1, u2, n2, u3]
  rw [if_pos c3] at u3
  have n3 : ¬ (left - (z0 : Nat) - (z1 : Nat) - (z2 : Nat) - (z3 : Nat) < 0) := by omega
  rw [if_pos (by omega)]
  simp [h_laws_szReply, u0, n0, u1, n1, u2, n2, u3, n3]
  omega

theorem sz_ReplyS (xs : List TReply) (left : Int) (h0 : 0 ≤ left) (h1 : left ≤ 1048576) (hl : xs.length ≤ 9223372036854775807) (hok : ∀ x ∈ xs, x.ok) : Run tab n_laws_szReplyS [.imm 16 (xs.map TReply.i), .int .i64 left] [] = some (.int .i64 (if ((xs.length + (xs.map TReply.sz).sum : Nat) : Int) ≤ left then left - (xs.length + (xs.map TReply.sz).sum : Nat) else -1), []) := by
  rw [Run_go T_laws_szReplyS _ _ rfl]
  have hw0 : IntKind.i64.wrap (left - xs.length) = left - xs.length := wrap_id (by omega) (by omega)
  by_cases h : ((xs.length : Nat) : Int) ≤ left
  · have h2 : ¬ (left - xs.length < 0) := by omega
    have key : ∀ (t d : List TReply) (l : Int) (s : St), d ++ t = xs → 0 ≤ l → l ≤ 1048576 → s.trim 0 [2, 4, 5, 6] = some ⟨[.imm 16 (xs.map TReply.i), .int .i64 l, .gone, .int .i64 d.length, .gone, .gone, .gone], []⟩ →
        ((((t.map TReply.sz).sum : Nat) : Int) ≤ l ∧ RunIter tab 7 l_laws_szReplyS_0 0 [2, 4, 5, 6] s = some (.exit 0, ⟨[.imm 16 (xs.map TReply.i), .int .i64 (l - ((t.map TReply.sz).sum : Nat)), .gone, .int .i64 xs.length, .gone, .bool false, .gone], []⟩)) ∨
        (¬ (((t.map TReply.sz).sum : Nat) : Int) ≤ l ∧ ∃ a3, RunIter tab 7 l_laws_szReplyS_0 0 [2, 4, 5, 6] s = some (.ret, ⟨[.imm 16 (xs.map TReply.i), .int .i64 (-1), .int .i64 (-1), .int .i64 a3, .gone, .bool true, .bool true], []⟩)) := by
      intro t
      induction t with
      | nil =>
        intro d l s he hl0 hl1 hs
        have e : d = xs := by simpa using he
        rw [e] at hs
        left
        refine ⟨by simpa using hl0, ?_⟩
        rw [iter_stop hs (s1 := ⟨[.imm 16 (xs.map TReply.i), .int .i64 l, .gone, .int .i64 xs.length, .gone, .bool false, .gone], []⟩) (ex := .exit 0) (by simp [l_laws_szReplyS_0]) (by simp)]
        simp
      | cons x t ih =>
        intro d l s he hl0 hl1 hs
        have hlt : d.length < xs.length := by rw [← he]; simp
        have hw := wrap_len (a := d.length) (by omega)
        have hx := sz_Reply x l hl0 hl1 (hok x (by rw [← he]; simp))
        by_cases c : ((x.sz : Nat) : Int) ≤ l
        · rw [if_pos c] at hx
          have c2 : ¬ (l - (x.sz : Nat) < 0) := by omega
          rw [iter_step hs (s1 := ⟨[.imm 16 (xs.map TReply.i), .int .i64 (l - (x.sz : Nat)), .gone, .int .i64 (d.length + 1), .gone, .bool true, .bool false], []⟩) (by
            simp [l_laws_szReplyS_0, ← he, hw, TReply.i, TReply.ic, hx, c2])]
          have := ih (d ++ [x]) (l - (x.sz : Nat)) ⟨[.imm 16 (xs.map TReply.i), .int .i64 (l - (x.sz : Nat)), .gone, .int .i64 (d.length + 1), .gone, .bool true, .bool false], []⟩ (by simpa using he) (by omega) (by omega) (by simp)
          rcases this with ⟨k1, k2⟩ | ⟨k1, a3, k2⟩
          · left
            refine ⟨by simp only [List.map_cons, List.sum_cons]; omega, ?_⟩
            rw [k2]
            simp only [List.map_cons, List.sum_cons]
            rw [show l - (x.sz : Nat) - ((t.map TReply.sz).sum : Nat) = l - ((x.sz + (t.map TReply.sz).sum : Nat) : Int) by omega]
          · right
            exact ⟨by simp only [List.map_cons, List.sum_cons]; omega, a3, k2⟩
        · rw [if_neg c] at hx
          right
          refine ⟨by simp only [List.map_cons, List.sum_cons]; omega, d.length, ?_⟩
          rw [iter_stop hs (s1 := ⟨[.imm 16 (xs.map TReply.i), .int .i64 (-1), .int .i64 (-1), .int .i64 d.length, .gone, .bool true, .bool true], []⟩) (ex := .ret) (by
            simp [l_laws_szReplyS_0, ← he, hw, TReply.i, TReply.ic, hx]) (by simp)]
    have k := key xs [] (left - xs.length) ⟨[.imm 16 (xs.map TReply.i), .int .i64 (left - xs.length), .int .i64 0, .int .i64 0, .bool false, .gone, .gone], []⟩ rfl (by omega) (by omega) (by simp)
    rcases k with ⟨k1, k2⟩ | ⟨k1, a3, k2⟩
    · have h3 : ((xs.length + (xs.map TReply.sz).sum : Nat) : Int) ≤ left := by omega
      rw [if_pos h3]
      simp [h_laws_szReplyS, hw0, h2, k2]
      omega
    · have h3 : ¬ ((xs.length + (xs.map TReply.sz).sum : Nat) : Int) ≤ left := by omega
      rw [if_neg h3]
      simp [h_laws_szReplyS, hw0, h2, k2]
  · have h2 : left - xs.length < 0 := by omega
    have h3 : ¬ (((xs.length + (xs.map TReply.sz).sum : Nat) : Int) ≤ left) := by omega
    simp only [if_neg h3]
    simp [h_laws_szReplyS, hw0, h2]

theorem sz_Served (a : TServed) (left : Int) (h0 : 0 ≤ left) (h1 : left ≤ 1048576) (hok : a.ok) : Run tab n_laws_szServed [.agg [V.int .i64 a.fPort, V.int .i64 a.fNumber, V.int .i64 a.fUnit, V.int .i64 a.fReq.fKind, V.int .i64 a.fReq.fAt, V.int .i64 a.fReq.fN, V.imm 1 (a.fReq.fWords.map (V.int .i64)), V.imm 1 (a.fReq.fBits.map V.bool), V.int .i64 a.fReq.fWAt, V.int .i64 a.fResp.fKind, V.int .i64 a.fResp.fFault, V.int .i64 a.fResp.fAt, V.int .i64 a.fResp.fN, V.imm 1 (a.fResp.fWords.map (V.int .i64)), V.imm 1 (a.fResp.fBits.map V.bool)], .int .i64 left] [] = some (.int .i64 (if ((a.sz : Nat) : Int) ≤ left then left - (a.sz : Nat) else -1), []) := by
  have hsz : a.sz = a.fReq.sz + a.fResp.sz := rfl
  simp only [TServed.ok] at hok
  rw [Run_go T_laws_szServed _ _ rfl]
  obtain ⟨z0, hz0⟩ : ∃ z : Nat, z = a.fReq.sz := ⟨_, rfl⟩
  have u0 := sz_Req a.fReq (left) (by omega) (by omega) (by simp_all)
  rw [← hz0] at u0
  by_cases c0 : ((z0 : Nat) : Int) ≤ left
  rotate_left
  · rw [if_neg c0] at u0
    rw [if_neg (by omega)]
    simp [h_laws_szServed, u0]
  rw [if_pos c0] at u0
  have n0 : ¬ (left - (z0 : Nat) < 0) := by omega
  obtain ⟨z1, hz1⟩ : ∃ z : Nat, z = a.fResp.sz := ⟨_, rfl⟩
  have u1 := sz_Resp a.fResp (left - (z0 : Nat)) (by omega) (by omega) (by simp_all)
  rw [← hz1] at u1
  by_cases c1 : ((z1 : Nat) : Int) ≤ left - (z0 : Nat)
  rotate_left
  · rw [if_neg c1] at u1
    rw [if_neg (by omega)]
    simp [h_laws_szServed, u0, n0, u1]
  rw [if_pos c1] at u1
  have n1 : ¬ (left - (z0 : Nat) - (z1 : Nat) < 0) := by omega
  rw [if_pos (by omega)]
  simp [h_laws_szServed, u0, n0, u1, n1]
  omega

theorem sz_ServedS (xs : List TServed) (left : Int) (h0 : 0 ≤ left) (h1 : left ≤ 1048576) (hl : xs.length ≤ 9223372036854775807) (hok : ∀ x ∈ xs, x.ok) : Run tab n_laws_szServedS [.imm 15 (xs.map TServed.i), .int .i64 left] [] = some (.int .i64 (if ((xs.length + (xs.map TServed.sz).sum : Nat) : Int) ≤ left then left - (xs.length + (xs.map TServed.sz).sum : Nat) else -1), []) := by
  rw [Run_go T_laws_szServedS _ _ rfl]
  have hw0 : IntKind.i64.wrap (left - xs.length) = left - xs.length := wrap_id (by omega) (by omega)
  by_cases h : ((xs.length : Nat) : Int) ≤ left
  · have h2 : ¬ (left - xs.length < 0) := by omega
    have key : ∀ (t d : List TServed) (l : Int) (s : St), d ++ t = xs → 0 ≤ l → l ≤ 1048576 → s.trim 0 [2, 4, 5, 6] = some ⟨[.imm 15 (xs.map TServed.i), .int .i64 l, .gone, .int .i64 d.length, .gone, .gone, .gone], []⟩ →
        ((((t.map TServed.sz).sum : Nat) : Int) ≤ l ∧ RunIter tab 7 l_laws_szServedS_0 0 [2, 4, 5, 6] s = some (.exit 0, ⟨[.imm 15 (xs.map TServed.i), .int .i64 (l - ((t.map TServed.sz).sum : Nat)), .gone, .int .i64 xs.length, .gone, .bool false, .gone], []⟩)) ∨
        (¬ (((t.map TServed.sz).sum : Nat) : Int) ≤ l ∧ ∃ a3, RunIter tab 7 l_laws_szServedS_0 0 [2, 4, 5, 6] s = some (.ret, ⟨[.imm 15 (xs.map TServed.i), .int .i64 (-1), .int .i64 (-1), .int .i64 a3, .gone, .bool true, .bool true], []⟩)) := by
      intro t
      induction t with
      | nil =>
        intro d l s he hl0 hl1 hs
        have e : d = xs := by simpa using he
        rw [e] at hs
        left
        refine ⟨by simpa using hl0, ?_⟩
        rw [iter_stop hs (s1 := ⟨[.imm 15 (xs.map TServed.i), .int .i64 l, .gone, .int .i64 xs.length, .gone, .bool false, .gone], []⟩) (ex := .exit 0) (by simp [l_laws_szServedS_0]) (by simp)]
        simp
      | cons x t ih =>
        intro d l s he hl0 hl1 hs
        have hlt : d.length < xs.length := by rw [← he]; simp
        have hw := wrap_len (a := d.length) (by omega)
        have hx := sz_Served x l hl0 hl1 (hok x (by rw [← he]; simp))
        by_cases c : ((x.sz : Nat) : Int) ≤ l
        · rw [if_pos c] at hx
          have c2 : ¬ (l - (x.sz : Nat) < 0) := by omega
          rw [iter_step hs (s1 := ⟨[.imm 15 (xs.map TServed.i), .int .i64 (l - (x.sz : Nat)), .gone, .int .i64 (d.length + 1), .gone, .bool true, .bool false], []⟩) (by
            simp [l_laws_szServedS_0, ← he, hw, TServed.i, TServed.ic, hx, c2])]
          have := ih (d ++ [x]) (l - (x.sz : Nat)) ⟨[.imm 15 (xs.map TServed.i), .int .i64 (l - (x.sz : Nat)), .gone, .int .i64 (d.length + 1), .gone, .bool true, .bool false], []⟩ (by simpa using he) (by omega) (by omega) (by simp)
          rcases this with ⟨k1, k2⟩ | ⟨k1, a3, k2⟩
          · left
            refine ⟨by simp only [List.map_cons, List.sum_cons]; omega, ?_⟩
            rw [k2]
            simp only [List.map_cons, List.sum_cons]
            rw [show l - (x.sz : Nat) - ((t.map TServed.sz).sum : Nat) = l - ((x.sz + (t.map TServed.sz).sum : Nat) : Int) by omega]
          · right
            exact ⟨by simp only [List.map_cons, List.sum_cons]; omega, a3, k2⟩
        · rw [if_neg c] at hx
          right
          refine ⟨by simp only [List.map_cons, List.sum_cons]; omega, d.length, ?_⟩
          rw [iter_stop hs (s1 := ⟨[.imm 15 (xs.map TServed.i), .int .i64 (-1), .int .i64 (-1), .int .i64 d.length, .gone, .bool true, .bool true], []⟩) (ex := .ret) (by
            simp [l_laws_szServedS_0, ← he, hw, TServed.i, TServed.ic, hx]) (by simp)]
    have k := key xs [] (left - xs.length) ⟨[.imm 15 (xs.map TServed.i), .int .i64 (left - xs.length), .int .i64 0, .int .i64 0, .bool false, .gone, .gone], []⟩ rfl (by omega) (by omega) (by simp)
    rcases k with ⟨k1, k2⟩ | ⟨k1, a3, k2⟩
    · have h3 : ((xs.length + (xs.map TServed.sz).sum : Nat) : Int) ≤ left := by omega
      rw [if_pos h3]
      simp [h_laws_szServedS, hw0, h2, k2]
      omega
    · have h3 : ¬ ((xs.length + (xs.map TServed.sz).sum : Nat) : Int) ≤ left := by omega
      rw [if_neg h3]
      simp [h_laws_szServedS, hw0, h2, k2]
  · have h2 : left - xs.length < 0 := by omega
    have h3 : ¬ (((xs.length + (xs.map TServed.sz).sum : Nat) : Int) ≤ left) := by omega
    simp only [if_neg h3]
    simp [h_laws_szServedS, hw0, h2]

theorem sz_World (a : TWorld) (left : Int) (h0 : 0 ≤ left) (h1 : left ≤ 1048576) (hok : a.ok) : Run tab n_laws_szWorld [.agg [V.int .i64 a.fF.fNow, V.int .i64 a.fF.fSet.fWait, V.int .i64 a.fF.fSet.fTries, V.imm 7 (a.fF.fSet.fRules.map TRule.i), V.int .i64 a.fF.fOpen.fNext, V.imm 13 (a.fF.fOpen.fList.map TPend.i), V.imm 17 (a.fF.fLines.map TLine.i), V.int .i64 a.fF.fAsked, V.int .i64 a.fF.fReplied, V.int .i64 a.fF.fFaults, V.int .i64 a.fF.fSent, V.imm 6 (a.fPosts.map TPost.i), V.imm 16 (a.fNet.map TPacket.i), V.imm 16 (a.fReplies.map TReply.i), V.imm 15 (a.fServed.map TServed.i)], .int .i64 left] [] = some (.int .i64 (if ((a.sz : Nat) : Int) ≤ left then left - (a.sz : Nat) else -1), []) := by
  have hsz : a.sz = a.fF.sz + (a.fPosts.length + (a.fPosts.map TPost.sz).sum) + (a.fNet.length + (a.fNet.map TPacket.sz).sum) + (a.fReplies.length + (a.fReplies.map TReply.sz).sum) + (a.fServed.length + (a.fServed.map TServed.sz).sum) := rfl
  simp only [TWorld.ok] at hok
  rw [Run_go T_laws_szWorld _ _ rfl]
  obtain ⟨z0, hz0⟩ : ∃ z : Nat, z = a.fF.sz := ⟨_, rfl⟩
  have u0 := sz_Fabric a.fF (left) (by omega) (by omega) (by simp_all)
  rw [← hz0] at u0
  by_cases c0 : ((z0 : Nat) : Int) ≤ left
  rotate_left
  · rw [if_neg c0] at u0
    rw [if_neg (by omega)]
    simp [h_laws_szWorld, u0]
  rw [if_pos c0] at u0
  have n0 : ¬ (left - (z0 : Nat) < 0) := by omega
  obtain ⟨z1, hz1⟩ : ∃ z : Nat, z = a.fPosts.length + (a.fPosts.map TPost.sz).sum := ⟨_, rfl⟩
  have u1 := sz_PostS a.fPosts (left - (z0 : Nat)) (by omega) (by omega) (by omega) (fun x hx => by simp_all)
  rw [← hz1] at u1
  by_cases c1 : ((z1 : Nat) : Int) ≤ left - (z0 : Nat)
  rotate_left
  · rw [if_neg c1] at u1
    rw [if_neg (by omega)]
    simp [h_laws_szWorld, u0, n0, u1]
  rw [if_pos c1] at u1
  have n1 : ¬ (left - (z0 : Nat) - (z1 : Nat) < 0) := by omega
  obtain ⟨z2, hz2⟩ : ∃ z : Nat, z = a.fNet.length + (a.fNet.map TPacket.sz).sum := ⟨_, rfl⟩
  have u2 := sz_PacketS a.fNet (left - (z0 : Nat) - (z1 : Nat)) (by omega) (by omega) (by omega) (fun x hx => by simp_all)
  rw [← hz2] at u2
  by_cases c2 : ((z2 : Nat) : Int) ≤ left - (z0 : Nat) - (z1 : Nat)
  rotate_left
  · rw [if_neg c2] at u2
    rw [if_neg (by omega)]
    simp [h_laws_szWorld, u0, n0, u1, n1, u2]
  rw [if_pos c2] at u2
  have n2 : ¬ (left - (z0 : Nat) - (z1 : Nat) - (z2 : Nat) < 0) := by omega
  obtain ⟨z3, hz3⟩ : ∃ z : Nat, z = a.fReplies.length + (a.fReplies.map TReply.sz).sum := ⟨_, rfl⟩
  have u3 := sz_ReplyS a.fReplies (left - (z0 : Nat) - (z1 : Nat) - (z2 : Nat)) (by omega) (by omega) (by omega) (fun x hx => by simp_all)
  rw [← hz3] at u3
  by_cases c3 : ((z3 : Nat) : Int) ≤ left - (z0 : Nat) - (z1 : Nat) - (z2 : Nat)
  rotate_left
  · rw [if_neg c3] at u3
    rw [if_neg (by omega)]
    simp [h_laws_szWorld, u0, n0, u1, n1, u2, n2, u3]
  rw [if_pos c3] at u3
  have n3 : ¬ (left - (z0 : Nat) - (z1 : Nat) - (z2 : Nat) - (z3 : Nat) < 0) := by omega
  obtain ⟨z4, hz4⟩ : ∃ z : Nat, z = a.fServed.length + (a.fServed.map TServed.sz).sum := ⟨_, rfl⟩
  have u4 := sz_ServedS a.fServed (left - (z0 : Nat) - (z1 : Nat) - (z2 : Nat) - (z3 : Nat)) (by omega) (by omega) (by omega) (fun x hx => by simp_all)
  rw [← hz4] at u4
  by_cases c4 : ((z4 : Nat) : Int) ≤ left - (z0 : Nat) - (z1 : Nat) - (z2 : Nat) - (z3 : Nat)
  rotate_left
  · rw [if_neg c4] at u4
    rw [if_neg (by omega)]
    simp [h_laws_szWorld, u0, n0, u1, n1, u2, n2, u3, n3, u4]
  rw [if_pos c4] at u4
  have n4 : ¬ (left - (z0 : Nat) - (z1 : Nat) - (z2 : Nat) - (z3 : Nat) - (z4 : Nat) < 0) := by omega
  rw [if_pos (by omega)]
  simp [h_laws_szWorld, u0, n0, u1, n1, u2, n2, u3, n3, u4, n4]
  omega

end Go.Pm

namespace Go.Pm
set_option maxRecDepth 100000
theorem hasAll_cons {p : PT} {ps : List PT} {vs : List V} (h : PT.hasAll (p :: ps) vs) : ∃ v vs', vs = v :: vs' ∧ p.has v ∧ PT.hasAll ps vs' := by simpa only [PT.hasAll] using h
theorem hasAll_nil {vs : List V} (h : PT.hasAll [] vs) : vs = [] := by simpa only [PT.hasAll] using h
theorem hasAll_split : ∀ {ps qs : List PT} {vs : List V}, PT.hasAll (ps ++ qs) vs → ∃ us ws, vs = us ++ ws ∧ PT.hasAll ps us ∧ PT.hasAll qs ws
  | [], qs, vs, h => ⟨[], vs, rfl, by simp only [PT.hasAll], h⟩
  | p :: ps, qs, vs, h => by
    obtain ⟨v, vs', rfl, h1, h2⟩ := hasAll_cons h
    obtain ⟨us, ws, rfl, h3, h4⟩ := hasAll_split h2
    exact ⟨v :: us, ws, rfl, by simp only [PT.hasAll]; exact ⟨v, us, rfl, h1, h3⟩, h4⟩
theorem has_i64 {v : V} (h : (PT.int .i64).has v) : ∃ n, v = .int .i64 n ∧ -9223372036854775808 ≤ n ∧ n ≤ 9223372036854775807 := by
  simp only [PT.has] at h
  obtain ⟨n, rfl, h1, h2⟩ := h
  exact ⟨n, rfl, by simpa [IntKind.min, IntKind.signed, IntKind.bits] using h1, by simpa [IntKind.max, IntKind.signed, IntKind.bits] using h2⟩
theorem has_u8 {v : V} (h : (PT.int .u8).has v) : ∃ n, v = .int .u8 n ∧ 0 ≤ n ∧ n ≤ 255 := by
  simp only [PT.has] at h
  obtain ⟨n, rfl, h1, h2⟩ := h
  exact ⟨n, rfl, by simpa [IntKind.min, IntKind.signed, IntKind.bits] using h1, by simpa [IntKind.max, IntKind.signed, IntKind.bits] using h2⟩
theorem has_bool {v : V} (h : PT.bool.has v) : ∃ b, v = .bool b := by simpa only [PT.has] using h
theorem has_str {v : V} (h : PT.str.has v) : ∃ b, v = .str b ∧ b.size ≤ 9223372036854775807 := by simpa only [PT.has] using h
theorem lift_list {α : Type} {f : α → V} {Q : α → Prop} : ∀ {xs : List V}, (∀ x ∈ xs, ∃ a, x = f a ∧ Q a) → ∃ as : List α, xs = as.map f ∧ ∀ a ∈ as, Q a
  | [], _ => ⟨[], rfl, by simp⟩
  | x :: xs, h => by
    obtain ⟨a, rfl, ha⟩ := h x (by simp)
    obtain ⟨as, rfl, has⟩ := lift_list (f := f) (Q := Q) (xs := xs) (fun y hy => h y (by simp [hy]))
    exact ⟨a :: as, rfl, by simpa using ⟨ha, has⟩⟩
theorem has_list {α : Type} {f : α → V} {Q : α → Prop} {ag : Bool} {es : List PT} {v : V} (h : (PT.list ag es).has v) (he : ∀ x : V, x.leaf = !ag → PT.hasAll es x.cells1 → ∃ a, x = f a ∧ Q a) :
    ∃ as : List α, v = .imm es.length (as.map f) ∧ as.length ≤ 9223372036854775807 ∧ ∀ a ∈ as, Q a := by
  simp only [PT.has] at h
  obtain ⟨xs, rfl, hl, hx⟩ := h
  obtain ⟨as, rfl, ha⟩ := lift_list (f := f) (Q := Q) (fun x hm => he x (hx x hm).1 (hx x hm).2)
  exact ⟨as, rfl, by simpa using hl, ha⟩
theorem one_of {p : PT} {x : V} (hx : x.leaf = !false) (h : PT.hasAll [p] x.cells1) : p.has x := by
  obtain ⟨v, vs, e, h1, h2⟩ := hasAll_cons h
  cases x <;> first | (simp only [V.cells1, List.cons.injEq] at e; rw [e.1]; exact h1) | (cases hx; done)
theorem has_ints {v : V} (h : (PT.list false [.int .i64]).has v) : ∃ as : List Int, v = .imm 1 (as.map (.int .i64)) ∧ as.length ≤ 9223372036854775807 ∧ ∀ a ∈ as, -9223372036854775808 ≤ a ∧ a ≤ 9223372036854775807 :=
  has_list h fun _ hx h => has_i64 (one_of hx h)
theorem has_bytes {v : V} (h : (PT.list false [.int .u8]).has v) : ∃ as : List Int, v = .imm 1 (as.map (.int .u8)) ∧ as.length ≤ 9223372036854775807 ∧ ∀ a ∈ as, 0 ≤ a ∧ a ≤ 255 :=
  has_list h fun _ hx h => has_u8 (one_of hx h)
theorem has_bools {v : V} (h : (PT.list false [.bool]).has v) : ∃ as : List Bool, v = .imm 1 (as.map .bool) ∧ as.length ≤ 9223372036854775807 ∧ ∀ a ∈ as, True :=
  has_list h fun _ hx h => by obtain ⟨b, rfl⟩ := has_bool (one_of hx h); exact ⟨b, rfl, trivial⟩

def pt_Rule : List PT := .int .i64 :: .int .i64 :: .int .i64 :: .int .i64 :: .int .i64 :: .int .i64 :: .int .i64 :: []
theorem of_Rule {vs : List V} (g0 : PT.hasAll pt_Rule vs) : ∃ a : TRule, a.ok ∧ vs = a.ic := by
  unfold pt_Rule at g0
  obtain ⟨_, _, rfl, h0, g1⟩ := hasAll_cons g0
  obtain ⟨x0, rfl, k0⟩ := has_i64 h0
  obtain ⟨_, _, rfl, h1, g2⟩ := hasAll_cons g1
  obtain ⟨x1, rfl, k1⟩ := has_i64 h1
  obtain ⟨_, _, rfl, h2, g3⟩ := hasAll_cons g2
  obtain ⟨x2, rfl, k2⟩ := has_i64 h2
  obtain ⟨_, _, rfl, h3, g4⟩ := hasAll_cons g3
  obtain ⟨x3, rfl, k3⟩ := has_i64 h3
  obtain ⟨_, _, rfl, h4, g5⟩ := hasAll_cons g4
  obtain ⟨x4, rfl, k4⟩ := has_i64 h4
  obtain ⟨_, _, rfl, h5, g6⟩ := hasAll_cons g5
  obtain ⟨x5, rfl, k5⟩ := has_i64 h5
  obtain ⟨_, _, rfl, h6, g7⟩ := hasAll_cons g6
  obtain ⟨x6, rfl, k6⟩ := has_i64 h6
  obtain rfl := hasAll_nil g7
  exact ⟨⟨x0, x1, x2, x3, x4, x5, x6⟩, ⟨k0, k1, k2, k3, k4, k5, k6⟩, rfl⟩
theorem aof_Rule {x : V} (hx : x.leaf = !true) (h : PT.hasAll pt_Rule x.cells1) : ∃ a : TRule, x = a.i ∧ a.ok := by
  obtain ⟨a, ha, e⟩ := of_Rule h
  cases x with
  | agg cs => simp only [V.cells1] at e; subst e; exact ⟨a, rfl, ha⟩
  | tup vs => exfalso; have := hasAll_leaf h (V.tup vs) (by simp [V.cells1]); cases this
  | _ => cases hx
theorem lof_Rule {v : V} (h : (PT.list true pt_Rule).has v) : ∃ as : List TRule, v = .imm 7 (as.map TRule.i) ∧ as.length ≤ 9223372036854775807 ∧ ∀ a ∈ as, a.ok := has_list h fun _ hx h => aof_Rule hx h

def pt_Config : List PT := .int .i64 :: .int .i64 :: .list true pt_Rule :: []
theorem of_Config {vs : List V} (g0 : PT.hasAll pt_Config vs) : ∃ a : TConfig, a.ok ∧ vs = a.ic := by
  unfold pt_Config at g0
  obtain ⟨_, _, rfl, h0, g1⟩ := hasAll_cons g0
  obtain ⟨x0, rfl, k0⟩ := has_i64 h0
  obtain ⟨_, _, rfl, h1, g2⟩ := hasAll_cons g1
  obtain ⟨x1, rfl, k1⟩ := has_i64 h1
  obtain ⟨_, _, rfl, h2, g3⟩ := hasAll_cons g2
  obtain ⟨x2, rfl, j2, k2⟩ := lof_Rule h2
  obtain rfl := hasAll_nil g3
  exact ⟨⟨x0, x1, x2⟩, ⟨k0, k1, j2, k2⟩, rfl⟩
theorem aof_Config {x : V} (hx : x.leaf = !true) (h : PT.hasAll pt_Config x.cells1) : ∃ a : TConfig, x = a.i ∧ a.ok := by
  obtain ⟨a, ha, e⟩ := of_Config h
  cases x with
  | agg cs => simp only [V.cells1] at e; subst e; exact ⟨a, rfl, ha⟩
  | tup vs => exfalso; have := hasAll_leaf h (V.tup vs) (by simp [V.cells1]); cases this
  | _ => cases hx
theorem lof_Config {v : V} (h : (PT.list true pt_Config).has v) : ∃ as : List TConfig, v = .imm 3 (as.map TConfig.i) ∧ as.length ≤ 9223372036854775807 ∧ ∀ a ∈ as, a.ok := has_list h fun _ hx h => aof_Config hx h

def pt_Req : List PT := .int .i64 :: .int .i64 :: .int .i64 :: .list false [.int .i64] :: .list false [.bool] :: .int .i64 :: []
theorem of_Req {vs : List V} (g0 : PT.hasAll pt_Req vs) : ∃ a : TReq, a.ok ∧ vs = a.ic := by
  unfold pt_Req at g0
  obtain ⟨_, _, rfl, h0, g1⟩ := hasAll_cons g0
  obtain ⟨x0, rfl, k0⟩ := has_i64 h0
  obtain ⟨_, _, rfl, h1, g2⟩ := hasAll_cons g1
  obtain ⟨x1, rfl, k1⟩ := has_i64 h1
  obtain ⟨_, _, rfl, h2, g3⟩ := hasAll_cons g2
  obtain ⟨x2, rfl, k2⟩ := has_i64 h2
  obtain ⟨_, _, rfl, h3, g4⟩ := hasAll_cons g3
  obtain ⟨x3, rfl, j3, k3⟩ := has_ints h3
  obtain ⟨_, _, rfl, h4, g5⟩ := hasAll_cons g4
  obtain ⟨x4, rfl, j4, _⟩ := has_bools h4
  obtain ⟨_, _, rfl, h5, g6⟩ := hasAll_cons g5
  obtain ⟨x5, rfl, k5⟩ := has_i64 h5
  obtain rfl := hasAll_nil g6
  exact ⟨⟨x0, x1, x2, x3, x4, x5⟩, ⟨k0, k1, k2, j3, k3, j4, k5⟩, rfl⟩
theorem aof_Req {x : V} (hx : x.leaf = !true) (h : PT.hasAll pt_Req x.cells1) : ∃ a : TReq, x = a.i ∧ a.ok := by
  obtain ⟨a, ha, e⟩ := of_Req h
  cases x with
  | agg cs => simp only [V.cells1] at e; subst e; exact ⟨a, rfl, ha⟩
  | tup vs => exfalso; have := hasAll_leaf h (V.tup vs) (by simp [V.cells1]); cases this
  | _ => cases hx
theorem lof_Req {v : V} (h : (PT.list true pt_Req).has v) : ∃ as : List TReq, v = .imm 6 (as.map TReq.i) ∧ as.length ≤ 9223372036854775807 ∧ ∀ a ∈ as, a.ok := has_list h fun _ hx h => aof_Req hx h

def pt_Part : List PT := .int .i64 :: .int .i64 :: (pt_Req ++ [])
theorem of_Part {vs : List V} (g0 : PT.hasAll pt_Part vs) : ∃ a : TPart, a.ok ∧ vs = a.ic := by
  unfold pt_Part at g0
  obtain ⟨_, _, rfl, h0, g1⟩ := hasAll_cons g0
  obtain ⟨x0, rfl, k0⟩ := has_i64 h0
  obtain ⟨_, _, rfl, h1, g2⟩ := hasAll_cons g1
  obtain ⟨x1, rfl, k1⟩ := has_i64 h1
  obtain ⟨_, _, rfl, h2, g3⟩ := hasAll_split g2
  obtain ⟨x2, k2, rfl⟩ := of_Req h2
  obtain rfl := hasAll_nil g3
  exact ⟨⟨x0, x1, x2⟩, ⟨k0, k1, k2⟩, rfl⟩
theorem aof_Part {x : V} (hx : x.leaf = !true) (h : PT.hasAll pt_Part x.cells1) : ∃ a : TPart, x = a.i ∧ a.ok := by
  obtain ⟨a, ha, e⟩ := of_Part h
  cases x with
  | agg cs => simp only [V.cells1] at e; subst e; exact ⟨a, rfl, ha⟩
  | tup vs => exfalso; have := hasAll_leaf h (V.tup vs) (by simp [V.cells1]); cases this
  | _ => cases hx
theorem lof_Part {v : V} (h : (PT.list true pt_Part).has v) : ∃ as : List TPart, v = .imm 8 (as.map TPart.i) ∧ as.length ≤ 9223372036854775807 ∧ ∀ a ∈ as, a.ok := has_list h fun _ hx h => aof_Part hx h

def pt_Resp : List PT := .int .i64 :: .int .i64 :: .int .i64 :: .int .i64 :: .list false [.int .i64] :: .list false [.bool] :: []
theorem of_Resp {vs : List V} (g0 : PT.hasAll pt_Resp vs) : ∃ a : TResp, a.ok ∧ vs = a.ic := by
  unfold pt_Resp at g0
  obtain ⟨_, _, rfl, h0, g1⟩ := hasAll_cons g0
  obtain ⟨x0, rfl, k0⟩ := has_i64 h0
  obtain ⟨_, _, rfl, h1, g2⟩ := hasAll_cons g1
  obtain ⟨x1, rfl, k1⟩ := has_i64 h1
  obtain ⟨_, _, rfl, h2, g3⟩ := hasAll_cons g2
  obtain ⟨x2, rfl, k2⟩ := has_i64 h2
  obtain ⟨_, _, rfl, h3, g4⟩ := hasAll_cons g3
  obtain ⟨x3, rfl, k3⟩ := has_i64 h3
  obtain ⟨_, _, rfl, h4, g5⟩ := hasAll_cons g4
  obtain ⟨x4, rfl, j4, k4⟩ := has_ints h4
  obtain ⟨_, _, rfl, h5, g6⟩ := hasAll_cons g5
  obtain ⟨x5, rfl, j5, _⟩ := has_bools h5
  obtain rfl := hasAll_nil g6
  exact ⟨⟨x0, x1, x2, x3, x4, x5⟩, ⟨k0, k1, k2, k3, j4, k4, j5⟩, rfl⟩
theorem aof_Resp {x : V} (hx : x.leaf = !true) (h : PT.hasAll pt_Resp x.cells1) : ∃ a : TResp, x = a.i ∧ a.ok := by
  obtain ⟨a, ha, e⟩ := of_Resp h
  cases x with
  | agg cs => simp only [V.cells1] at e; subst e; exact ⟨a, rfl, ha⟩
  | tup vs => exfalso; have := hasAll_leaf h (V.tup vs) (by simp [V.cells1]); cases this
  | _ => cases hx
theorem lof_Resp {v : V} (h : (PT.list true pt_Resp).has v) : ∃ as : List TResp, v = .imm 6 (as.map TResp.i) ∧ as.length ≤ 9223372036854775807 ∧ ∀ a ∈ as, a.ok := has_list h fun _ hx h => aof_Resp hx h

def pt_Pend : List PT := .int .i64 :: .int .i64 :: .int .i64 :: .int .i64 :: (pt_Req ++ .list true pt_Part :: .list false [.bool] :: .list true pt_Resp :: [])
theorem of_Pend {vs : List V} (g0 : PT.hasAll pt_Pend vs) : ∃ a : TPend, a.ok ∧ vs = a.ic := by
  unfold pt_Pend at g0
  obtain ⟨_, _, rfl, h0, g1⟩ := hasAll_cons g0
  obtain ⟨x0, rfl, k0⟩ := has_i64 h0
  obtain ⟨_, _, rfl, h1, g2⟩ := hasAll_cons g1
  obtain ⟨x1, rfl, k1⟩ := has_i64 h1
  obtain ⟨_, _, rfl, h2, g3⟩ := hasAll_cons g2
  obtain ⟨x2, rfl, k2⟩ := has_i64 h2
  obtain ⟨_, _, rfl, h3, g4⟩ := hasAll_cons g3
  obtain ⟨x3, rfl, k3⟩ := has_i64 h3
  obtain ⟨_, _, rfl, h4, g5⟩ := hasAll_split g4
  obtain ⟨x4, k4, rfl⟩ := of_Req h4
  obtain ⟨_, _, rfl, h5, g6⟩ := hasAll_cons g5
  obtain ⟨x5, rfl, j5, k5⟩ := lof_Part h5
  obtain ⟨_, _, rfl, h6, g7⟩ := hasAll_cons g6
  obtain ⟨x6, rfl, j6, _⟩ := has_bools h6
  obtain ⟨_, _, rfl, h7, g8⟩ := hasAll_cons g7
  obtain ⟨x7, rfl, j7, k7⟩ := lof_Resp h7
  obtain rfl := hasAll_nil g8
  exact ⟨⟨x0, x1, x2, x3, x4, x5, x6, x7⟩, ⟨k0, k1, k2, k3, k4, j5, k5, j6, j7, k7⟩, rfl⟩
theorem aof_Pend {x : V} (hx : x.leaf = !true) (h : PT.hasAll pt_Pend x.cells1) : ∃ a : TPend, x = a.i ∧ a.ok := by
  obtain ⟨a, ha, e⟩ := of_Pend h
  cases x with
  | agg cs => simp only [V.cells1] at e; subst e; exact ⟨a, rfl, ha⟩
  | tup vs => exfalso; have := hasAll_leaf h (V.tup vs) (by simp [V.cells1]); cases this
  | _ => cases hx
theorem lof_Pend {v : V} (h : (PT.list true pt_Pend).has v) : ∃ as : List TPend, v = .imm 13 (as.map TPend.i) ∧ as.length ≤ 9223372036854775807 ∧ ∀ a ∈ as, a.ok := has_list h fun _ hx h => aof_Pend hx h

def pt_Table : List PT := .int .i64 :: .list true pt_Pend :: []
theorem of_Table {vs : List V} (g0 : PT.hasAll pt_Table vs) : ∃ a : TTable, a.ok ∧ vs = a.ic := by
  unfold pt_Table at g0
  obtain ⟨_, _, rfl, h0, g1⟩ := hasAll_cons g0
  obtain ⟨x0, rfl, k0⟩ := has_i64 h0
  obtain ⟨_, _, rfl, h1, g2⟩ := hasAll_cons g1
  obtain ⟨x1, rfl, j1, k1⟩ := lof_Pend h1
  obtain rfl := hasAll_nil g2
  exact ⟨⟨x0, x1⟩, ⟨k0, j1, k1⟩, rfl⟩
theorem aof_Table {x : V} (hx : x.leaf = !true) (h : PT.hasAll pt_Table x.cells1) : ∃ a : TTable, x = a.i ∧ a.ok := by
  obtain ⟨a, ha, e⟩ := of_Table h
  cases x with
  | agg cs => simp only [V.cells1] at e; subst e; exact ⟨a, rfl, ha⟩
  | tup vs => exfalso; have := hasAll_leaf h (V.tup vs) (by simp [V.cells1]); cases this
  | _ => cases hx
theorem lof_Table {v : V} (h : (PT.list true pt_Table).has v) : ∃ as : List TTable, v = .imm 2 (as.map TTable.i) ∧ as.length ≤ 9223372036854775807 ∧ ∀ a ∈ as, a.ok := has_list h fun _ hx h => aof_Table hx h

def pt_Call : List PT := .int .i64 :: .int .i64 :: .int .i64 :: (pt_Req ++ [])
theorem of_Call {vs : List V} (g0 : PT.hasAll pt_Call vs) : ∃ a : TCall, a.ok ∧ vs = a.ic := by
  unfold pt_Call at g0
  obtain ⟨_, _, rfl, h0, g1⟩ := hasAll_cons g0
  obtain ⟨x0, rfl, k0⟩ := has_i64 h0
  obtain ⟨_, _, rfl, h1, g2⟩ := hasAll_cons g1
  obtain ⟨x1, rfl, k1⟩ := has_i64 h1
  obtain ⟨_, _, rfl, h2, g3⟩ := hasAll_cons g2
  obtain ⟨x2, rfl, k2⟩ := has_i64 h2
  obtain ⟨_, _, rfl, h3, g4⟩ := hasAll_split g3
  obtain ⟨x3, k3, rfl⟩ := of_Req h3
  obtain rfl := hasAll_nil g4
  exact ⟨⟨x0, x1, x2, x3⟩, ⟨k0, k1, k2, k3⟩, rfl⟩
theorem aof_Call {x : V} (hx : x.leaf = !true) (h : PT.hasAll pt_Call x.cells1) : ∃ a : TCall, x = a.i ∧ a.ok := by
  obtain ⟨a, ha, e⟩ := of_Call h
  cases x with
  | agg cs => simp only [V.cells1] at e; subst e; exact ⟨a, rfl, ha⟩
  | tup vs => exfalso; have := hasAll_leaf h (V.tup vs) (by simp [V.cells1]); cases this
  | _ => cases hx
theorem lof_Call {v : V} (h : (PT.list true pt_Call).has v) : ∃ as : List TCall, v = .imm 9 (as.map TCall.i) ∧ as.length ≤ 9223372036854775807 ∧ ∀ a ∈ as, a.ok := has_list h fun _ hx h => aof_Call hx h

def pt_Line : List PT := .list true pt_Call :: .bool :: (pt_Call ++ .int .i64 :: .int .i64 :: .int .i64 :: .int .i64 :: .int .i64 :: .int .i64 :: [])
theorem of_Line {vs : List V} (g0 : PT.hasAll pt_Line vs) : ∃ a : TLine, a.ok ∧ vs = a.ic := by
  unfold pt_Line at g0
  obtain ⟨_, _, rfl, h0, g1⟩ := hasAll_cons g0
  obtain ⟨x0, rfl, j0, k0⟩ := lof_Call h0
  obtain ⟨_, _, rfl, h1, g2⟩ := hasAll_cons g1
  obtain ⟨x1, rfl⟩ := has_bool h1
  obtain ⟨_, _, rfl, h2, g3⟩ := hasAll_split g2
  obtain ⟨x2, k2, rfl⟩ := of_Call h2
  obtain ⟨_, _, rfl, h3, g4⟩ := hasAll_cons g3
  obtain ⟨x3, rfl, k3⟩ := has_i64 h3
  obtain ⟨_, _, rfl, h4, g5⟩ := hasAll_cons g4
  obtain ⟨x4, rfl, k4⟩ := has_i64 h4
  obtain ⟨_, _, rfl, h5, g6⟩ := hasAll_cons g5
  obtain ⟨x5, rfl, k5⟩ := has_i64 h5
  obtain ⟨_, _, rfl, h6, g7⟩ := hasAll_cons g6
  obtain ⟨x6, rfl, k6⟩ := has_i64 h6
  obtain ⟨_, _, rfl, h7, g8⟩ := hasAll_cons g7
  obtain ⟨x7, rfl, k7⟩ := has_i64 h7
  obtain ⟨_, _, rfl, h8, g9⟩ := hasAll_cons g8
  obtain ⟨x8, rfl, k8⟩ := has_i64 h8
  obtain rfl := hasAll_nil g9
  exact ⟨⟨x0, x1, x2, x3, x4, x5, x6, x7, x8⟩, ⟨j0, k0, k2, k3, k4, k5, k6, k7, k8⟩, rfl⟩
theorem aof_Line {x : V} (hx : x.leaf = !true) (h : PT.hasAll pt_Line x.cells1) : ∃ a : TLine, x = a.i ∧ a.ok := by
  obtain ⟨a, ha, e⟩ := of_Line h
  cases x with
  | agg cs => simp only [V.cells1] at e; subst e; exact ⟨a, rfl, ha⟩
  | tup vs => exfalso; have := hasAll_leaf h (V.tup vs) (by simp [V.cells1]); cases this
  | _ => cases hx
theorem lof_Line {v : V} (h : (PT.list true pt_Line).has v) : ∃ as : List TLine, v = .imm 17 (as.map TLine.i) ∧ as.length ≤ 9223372036854775807 ∧ ∀ a ∈ as, a.ok := has_list h fun _ hx h => aof_Line hx h

def pt_Fabric : List PT := .int .i64 :: (pt_Config ++ (pt_Table ++ .list true pt_Line :: .int .i64 :: .int .i64 :: .int .i64 :: .int .i64 :: []))
theorem of_Fabric {vs : List V} (g0 : PT.hasAll pt_Fabric vs) : ∃ a : TFabric, a.ok ∧ vs = a.ic := by
  unfold pt_Fabric at g0
  obtain ⟨_, _, rfl, h0, g1⟩ := hasAll_cons g0
  obtain ⟨x0, rfl, k0⟩ := has_i64 h0
  obtain ⟨_, _, rfl, h1, g2⟩ := hasAll_split g1
  obtain ⟨x1, k1, rfl⟩ := of_Config h1
  obtain ⟨_, _, rfl, h2, g3⟩ := hasAll_split g2
  obtain ⟨x2, k2, rfl⟩ := of_Table h2
  obtain ⟨_, _, rfl, h3, g4⟩ := hasAll_cons g3
  obtain ⟨x3, rfl, j3, k3⟩ := lof_Line h3
  obtain ⟨_, _, rfl, h4, g5⟩ := hasAll_cons g4
  obtain ⟨x4, rfl, k4⟩ := has_i64 h4
  obtain ⟨_, _, rfl, h5, g6⟩ := hasAll_cons g5
  obtain ⟨x5, rfl, k5⟩ := has_i64 h5
  obtain ⟨_, _, rfl, h6, g7⟩ := hasAll_cons g6
  obtain ⟨x6, rfl, k6⟩ := has_i64 h6
  obtain ⟨_, _, rfl, h7, g8⟩ := hasAll_cons g7
  obtain ⟨x7, rfl, k7⟩ := has_i64 h7
  obtain rfl := hasAll_nil g8
  exact ⟨⟨x0, x1, x2, x3, x4, x5, x6, x7⟩, ⟨k0, k1, k2, j3, k3, k4, k5, k6, k7⟩, rfl⟩
theorem aof_Fabric {x : V} (hx : x.leaf = !true) (h : PT.hasAll pt_Fabric x.cells1) : ∃ a : TFabric, x = a.i ∧ a.ok := by
  obtain ⟨a, ha, e⟩ := of_Fabric h
  cases x with
  | agg cs => simp only [V.cells1] at e; subst e; exact ⟨a, rfl, ha⟩
  | tup vs => exfalso; have := hasAll_leaf h (V.tup vs) (by simp [V.cells1]); cases this
  | _ => cases hx
theorem lof_Fabric {v : V} (h : (PT.list true pt_Fabric).has v) : ∃ as : List TFabric, v = .imm 11 (as.map TFabric.i) ∧ as.length ≤ 9223372036854775807 ∧ ∀ a ∈ as, a.ok := has_list h fun _ hx h => aof_Fabric hx h

def pt_Device : List PT := .list false [.bool] :: .list false [.bool] :: .list false [.int .i64] :: .list false [.int .i64] :: []
theorem of_Device {vs : List V} (g0 : PT.hasAll pt_Device vs) : ∃ a : TDevice, a.ok ∧ vs = a.ic := by
  unfold pt_Device at g0
  obtain ⟨_, _, rfl, h0, g1⟩ := hasAll_cons g0
  obtain ⟨x0, rfl, j0, _⟩ := has_bools h0
  obtain ⟨_, _, rfl, h1, g2⟩ := hasAll_cons g1
  obtain ⟨x1, rfl, j1, _⟩ := has_bools h1
  obtain ⟨_, _, rfl, h2, g3⟩ := hasAll_cons g2
  obtain ⟨x2, rfl, j2, k2⟩ := has_ints h2
  obtain ⟨_, _, rfl, h3, g4⟩ := hasAll_cons g3
  obtain ⟨x3, rfl, j3, k3⟩ := has_ints h3
  obtain rfl := hasAll_nil g4
  exact ⟨⟨x0, x1, x2, x3⟩, ⟨j0, j1, j2, k2, j3, k3⟩, rfl⟩
theorem aof_Device {x : V} (hx : x.leaf = !true) (h : PT.hasAll pt_Device x.cells1) : ∃ a : TDevice, x = a.i ∧ a.ok := by
  obtain ⟨a, ha, e⟩ := of_Device h
  cases x with
  | agg cs => simp only [V.cells1] at e; subst e; exact ⟨a, rfl, ha⟩
  | tup vs => exfalso; have := hasAll_leaf h (V.tup vs) (by simp [V.cells1]); cases this
  | _ => cases hx
theorem lof_Device {v : V} (h : (PT.list true pt_Device).has v) : ∃ as : List TDevice, v = .imm 4 (as.map TDevice.i) ∧ as.length ≤ 9223372036854775807 ∧ ∀ a ∈ as, a.ok := has_list h fun _ hx h => aof_Device hx h

def pt_Post : List PT := .int .i64 :: .int .i64 :: (pt_Device ++ [])
theorem of_Post {vs : List V} (g0 : PT.hasAll pt_Post vs) : ∃ a : TPost, a.ok ∧ vs = a.ic := by
  unfold pt_Post at g0
  obtain ⟨_, _, rfl, h0, g1⟩ := hasAll_cons g0
  obtain ⟨x0, rfl, k0⟩ := has_i64 h0
  obtain ⟨_, _, rfl, h1, g2⟩ := hasAll_cons g1
  obtain ⟨x1, rfl, k1⟩ := has_i64 h1
  obtain ⟨_, _, rfl, h2, g3⟩ := hasAll_split g2
  obtain ⟨x2, k2, rfl⟩ := of_Device h2
  obtain rfl := hasAll_nil g3
  exact ⟨⟨x0, x1, x2⟩, ⟨k0, k1, k2⟩, rfl⟩
theorem aof_Post {x : V} (hx : x.leaf = !true) (h : PT.hasAll pt_Post x.cells1) : ∃ a : TPost, x = a.i ∧ a.ok := by
  obtain ⟨a, ha, e⟩ := of_Post h
  cases x with
  | agg cs => simp only [V.cells1] at e; subst e; exact ⟨a, rfl, ha⟩
  | tup vs => exfalso; have := hasAll_leaf h (V.tup vs) (by simp [V.cells1]); cases this
  | _ => cases hx
theorem lof_Post {v : V} (h : (PT.list true pt_Post).has v) : ∃ as : List TPost, v = .imm 6 (as.map TPost.i) ∧ as.length ≤ 9223372036854775807 ∧ ∀ a ∈ as, a.ok := has_list h fun _ hx h => aof_Post hx h

def pt_Packet : List PT := .bool :: .int .i64 :: .int .i64 :: .int .i64 :: (pt_Req ++ (pt_Resp ++ []))
theorem of_Packet {vs : List V} (g0 : PT.hasAll pt_Packet vs) : ∃ a : TPacket, a.ok ∧ vs = a.ic := by
  unfold pt_Packet at g0
  obtain ⟨_, _, rfl, h0, g1⟩ := hasAll_cons g0
  obtain ⟨x0, rfl⟩ := has_bool h0
  obtain ⟨_, _, rfl, h1, g2⟩ := hasAll_cons g1
  obtain ⟨x1, rfl, k1⟩ := has_i64 h1
  obtain ⟨_, _, rfl, h2, g3⟩ := hasAll_cons g2
  obtain ⟨x2, rfl, k2⟩ := has_i64 h2
  obtain ⟨_, _, rfl, h3, g4⟩ := hasAll_cons g3
  obtain ⟨x3, rfl, k3⟩ := has_i64 h3
  obtain ⟨_, _, rfl, h4, g5⟩ := hasAll_split g4
  obtain ⟨x4, k4, rfl⟩ := of_Req h4
  obtain ⟨_, _, rfl, h5, g6⟩ := hasAll_split g5
  obtain ⟨x5, k5, rfl⟩ := of_Resp h5
  obtain rfl := hasAll_nil g6
  exact ⟨⟨x0, x1, x2, x3, x4, x5⟩, ⟨k1, k2, k3, k4, k5⟩, rfl⟩
theorem aof_Packet {x : V} (hx : x.leaf = !true) (h : PT.hasAll pt_Packet x.cells1) : ∃ a : TPacket, x = a.i ∧ a.ok := by
  obtain ⟨a, ha, e⟩ := of_Packet h
  cases x with
  | agg cs => simp only [V.cells1] at e; subst e; exact ⟨a, rfl, ha⟩
  | tup vs => exfalso; have := hasAll_leaf h (V.tup vs) (by simp [V.cells1]); cases this
  | _ => cases hx
theorem lof_Packet {v : V} (h : (PT.list true pt_Packet).has v) : ∃ as : List TPacket, v = .imm 16 (as.map TPacket.i) ∧ as.length ≤ 9223372036854775807 ∧ ∀ a ∈ as, a.ok := has_list h fun _ hx h => aof_Packet hx h

def pt_Reply : List PT := .int .i64 :: .int .i64 :: (pt_Req ++ .list true pt_Part :: .list true pt_Resp :: (pt_Resp ++ []))
theorem of_Reply {vs : List V} (g0 : PT.hasAll pt_Reply vs) : ∃ a : TReply, a.ok ∧ vs = a.ic := by
  unfold pt_Reply at g0
  obtain ⟨_, _, rfl, h0, g1⟩ := hasAll_cons g0
  obtain ⟨x0, rfl, k0⟩ := has_i64 h0
  obtain ⟨_, _, rfl, h1, g2⟩ := hasAll_cons g1
  obtain ⟨x1, rfl, k1⟩ := has_i64 h1
  obtain ⟨_, _, rfl, h2, g3⟩ := hasAll_split g2
  obtain ⟨x2, k2, rfl⟩ := of_Req h2
  obtain ⟨_, _, rfl, h3, g4⟩ := hasAll_cons g3
  obtain ⟨x3, rfl, j3, k3⟩ := lof_Part h3
  obtain ⟨_, _, rfl, h4, g5⟩ := hasAll_cons g4
  obtain ⟨x4, rfl, j4, k4⟩ := lof_Resp h4
  obtain ⟨_, _, rfl, h5, g6⟩ := hasAll_split g5
  obtain ⟨x5, k5, rfl⟩ := of_Resp h5
  obtain rfl := hasAll_nil g6
  exact ⟨⟨x0, x1, x2, x3, x4, x5⟩, ⟨k0, k1, k2, j3, k3, j4, k4, k5⟩, rfl⟩
theorem aof_Reply {x : V} (hx : x.leaf = !true) (h : PT.hasAll pt_Reply x.cells1) : ∃ a : TReply, x = a.i ∧ a.ok := by
  obtain ⟨a, ha, e⟩ := of_Reply h
  cases x with
  | agg cs => simp only [V.cells1] at e; subst e; exact ⟨a, rfl, ha⟩
  | tup vs => exfalso; have := hasAll_leaf h (V.tup vs) (by simp [V.cells1]); cases this
  | _ => cases hx
theorem lof_Reply {v : V} (h : (PT.list true pt_Reply).has v) : ∃ as : List TReply, v = .imm 16 (as.map TReply.i) ∧ as.length ≤ 9223372036854775807 ∧ ∀ a ∈ as, a.ok := has_list h fun _ hx h => aof_Reply hx h

def pt_Served : List PT := .int .i64 :: .int .i64 :: .int .i64 :: (pt_Req ++ (pt_Resp ++ []))
theorem of_Served {vs : List V} (g0 : PT.hasAll pt_Served vs) : ∃ a : TServed, a.ok ∧ vs = a.ic := by
  unfold pt_Served at g0
  obtain ⟨_, _, rfl, h0, g1⟩ := hasAll_cons g0
  obtain ⟨x0, rfl, k0⟩ := has_i64 h0
  obtain ⟨_, _, rfl, h1, g2⟩ := hasAll_cons g1
  obtain ⟨x1, rfl, k1⟩ := has_i64 h1
  obtain ⟨_, _, rfl, h2, g3⟩ := hasAll_cons g2
  obtain ⟨x2, rfl, k2⟩ := has_i64 h2
  obtain ⟨_, _, rfl, h3, g4⟩ := hasAll_split g3
  obtain ⟨x3, k3, rfl⟩ := of_Req h3
  obtain ⟨_, _, rfl, h4, g5⟩ := hasAll_split g4
  obtain ⟨x4, k4, rfl⟩ := of_Resp h4
  obtain rfl := hasAll_nil g5
  exact ⟨⟨x0, x1, x2, x3, x4⟩, ⟨k0, k1, k2, k3, k4⟩, rfl⟩
theorem aof_Served {x : V} (hx : x.leaf = !true) (h : PT.hasAll pt_Served x.cells1) : ∃ a : TServed, x = a.i ∧ a.ok := by
  obtain ⟨a, ha, e⟩ := of_Served h
  cases x with
  | agg cs => simp only [V.cells1] at e; subst e; exact ⟨a, rfl, ha⟩
  | tup vs => exfalso; have := hasAll_leaf h (V.tup vs) (by simp [V.cells1]); cases this
  | _ => cases hx
theorem lof_Served {v : V} (h : (PT.list true pt_Served).has v) : ∃ as : List TServed, v = .imm 15 (as.map TServed.i) ∧ as.length ≤ 9223372036854775807 ∧ ∀ a ∈ as, a.ok := has_list h fun _ hx h => aof_Served hx h

def pt_World : List PT := (pt_Fabric ++ .list true pt_Post :: .list true pt_Packet :: .list true pt_Reply :: .list true pt_Served :: [])
theorem of_World {vs : List V} (g0 : PT.hasAll pt_World vs) : ∃ a : TWorld, a.ok ∧ vs = a.ic := by
  unfold pt_World at g0
  obtain ⟨_, _, rfl, h0, g1⟩ := hasAll_split g0
  obtain ⟨x0, k0, rfl⟩ := of_Fabric h0
  obtain ⟨_, _, rfl, h1, g2⟩ := hasAll_cons g1
  obtain ⟨x1, rfl, j1, k1⟩ := lof_Post h1
  obtain ⟨_, _, rfl, h2, g3⟩ := hasAll_cons g2
  obtain ⟨x2, rfl, j2, k2⟩ := lof_Packet h2
  obtain ⟨_, _, rfl, h3, g4⟩ := hasAll_cons g3
  obtain ⟨x3, rfl, j3, k3⟩ := lof_Reply h3
  obtain ⟨_, _, rfl, h4, g5⟩ := hasAll_cons g4
  obtain ⟨x4, rfl, j4, k4⟩ := lof_Served h4
  obtain rfl := hasAll_nil g5
  exact ⟨⟨x0, x1, x2, x3, x4⟩, ⟨k0, j1, k1, j2, k2, j3, k3, j4, k4⟩, rfl⟩
theorem aof_World {x : V} (hx : x.leaf = !true) (h : PT.hasAll pt_World x.cells1) : ∃ a : TWorld, x = a.i ∧ a.ok := by
  obtain ⟨a, ha, e⟩ := of_World h
  cases x with
  | agg cs => simp only [V.cells1] at e; subst e; exact ⟨a, rfl, ha⟩
  | tup vs => exfalso; have := hasAll_leaf h (V.tup vs) (by simp [V.cells1]); cases this
  | _ => cases hx
theorem lof_World {v : V} (h : (PT.list true pt_World).has v) : ∃ as : List TWorld, v = .imm 15 (as.map TWorld.i) ∧ as.length ≤ 9223372036854775807 ∧ ∀ a ∈ as, a.ok := has_list h fun _ hx h => aof_World hx h

end Go.Pm
