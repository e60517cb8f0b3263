/- Proved: the law FnExactBusiest answers true at all arguments, for every operating system that has started; no conditions beyond the row's own. -/
import Derived.Test.YtgmekbinlpnpoaaMk
import Derived.IntWalk
set_option linter.unusedVariables false
set_option linter.unusedSimpArgs false
namespace Go.Pm
variable {T : Tab} {ns nb : Nat} {b : HCode} {dead : List Nat}

/-! rounds of a loop -/
theorem iter_step {s s0 s1 : St} (hs : s.trim nb dead = some s0) (hb : RunC T ns b s0 = some (.normal, s1)) : RunIter T ns b nb dead s = RunIter T ns b nb dead s1 := by
  rw [RunIter_eq, hs]; simp only [hb]
theorem iter_stop {s s0 s1 : St} {ex : Ex} (hs : s.trim nb dead = some s0) (hb : RunC T ns b s0 = some (ex, s1)) (hne : ex ≠ .normal) : RunIter T ns b nb dead s = some (ex, s1) := by
  rw [RunIter_eq, hs]; simp only [hb]
  cases ex <;> first | exact absurd rfl hne | rfl
/-- a loop over a list: 'J done rest' is the state at a round's head -/
theorem iter_list {α : Type} {J : List α → List α → St} {ex : Ex} {xs : List α} {sE : St} (P : List α → List α → Prop) (hP : P [] xs) (hne : ex ≠ .normal)
    (step : ∀ d x t, d ++ x :: t = xs → P d (x :: t) → ∃ s1, RunC T ns b (J d (x :: t)) = some (.normal, s1) ∧ s1.trim nb dead = some (J (d ++ [x]) t) ∧ P (d ++ [x]) t)
    (last : P xs [] → RunC T ns b (J xs []) = some (ex, sE)) {s : St} (hs : s.trim nb dead = some (J [] xs)) : RunIter T ns b nb dead s = some (ex, sE) := by
  have key : ∀ (t d : List α) (s : St), d ++ t = xs → P d t → s.trim nb dead = some (J d t) → RunIter T ns b nb dead s = some (ex, sE) := by
    intro t
    induction t with
    | nil =>
      intro d s' he hp hs'
      have e : d = xs := by simpa using he
      rw [e] at hp hs'
      exact iter_stop hs' (last hp) hne
    | cons x t ih =>
      intro d s he hp hs
      obtain ⟨s1, h1, h2, h3⟩ := step d x t he hp
      rw [iter_step hs h1]
      exact ih (d ++ [x]) s1 (by simpa using he) h3 h2
  exact key xs [] s rfl hP hs

theorem take_map_len {α β : Type} (f : α → β) (l : List α) : (l.map f).take l.length = l.map f := by
  rw [List.take_of_length_le (by simp)]
theorem take_len' {α : Type} (l : List α) : l.take l.length = l := List.take_length
theorem freshL_map {α : Type} {f : α → V} (h : ∀ a, (f a).fresh = true) (l : List α) : V.freshL (l.map f) = true := by
  induction l <;> simp_all [V.freshL]
theorem eraseL_map {α : Type} {f g : α → V} (h : ∀ a, (f a).erase = g a) (l : List α) : V.eraseL (l.map f) = l.map g := by
  induction l <;> simp_all [V.eraseL]
theorem lt_len (a b : Nat) : ((a : Int) < a + (b + 1)) = True := by simp; omega
theorem wrap_id {n : Int} (h1 : -9223372036854775808 ≤ n) (h2 : n ≤ 9223372036854775807) : IntKind.i64.wrap n = n := IntWalk.i64_in n ⟨h1, h2⟩
theorem wrap_len {a : Nat} (h : a < 9223372036854775807) : IntKind.i64.wrap ((a : Int) + 1) = (a : Int) + 1 := wrap_id (by omega) (by omega)
end Go.Pm

namespace Go.Pm
set_option maxRecDepth 100000
def n_laws_szRuleS : FuncId := 135
def n_laws_szConfig : FuncId := 89
def n_laws_szIntS : FuncId := 37
def n_laws_szBoolS : FuncId := 38
def n_laws_szReq : FuncId := 139
def n_laws_szPart : FuncId := 169
def n_laws_szPartS : FuncId := 140
def n_laws_szResp : FuncId := 9
def n_laws_szRespS : FuncId := 141
def n_laws_szPend : FuncId := 166
def n_laws_szPendS : FuncId := 136
def n_laws_szTable : FuncId := 90
def n_laws_szCall : FuncId := 168
def n_laws_szCallS : FuncId := 167
def n_laws_szLine : FuncId := 137
def n_laws_szLineS : FuncId := 91
def n_laws_szFabric : FuncId := 52
def n_laws_szDevice : FuncId := 138
def n_laws_szPost : FuncId := 92
def n_laws_szPostS : FuncId := 53
def n_laws_szPacket : FuncId := 93
def n_laws_szPacketS : FuncId := 54
def n_laws_szReply : FuncId := 94
def n_laws_szReplyS : FuncId := 55
def n_laws_szServed : FuncId := 95
def n_laws_szServedS : FuncId := 56
def n_laws_szWorld : FuncId := 27
def n_laws_toRule : FuncId := 170
def n_laws_toRuleS : FuncId := 142
def n_laws_toConfig : FuncId := 96
def n_laws_toIntS : FuncId := 41
def n_laws_toBoolS : FuncId := 42
def n_laws_toReq : FuncId := 146
def n_laws_toPart : FuncId := 174
def n_laws_toPartS : FuncId := 147
def n_laws_toResp : FuncId := 12
def n_laws_toRespS : FuncId := 148
def n_laws_toPend : FuncId := 171
def n_laws_toPendS : FuncId := 143
def n_laws_toTable : FuncId := 97
def n_laws_toCall : FuncId := 173
def n_laws_toCallS : FuncId := 172
def n_laws_toLine : FuncId := 144
def n_laws_toLineS : FuncId := 98
def n_laws_toFabric : FuncId := 57
def n_laws_toDevice : FuncId := 145
def n_laws_toPost : FuncId := 99
def n_laws_toPostS : FuncId := 58
def n_laws_toPacket : FuncId := 100
def n_laws_toPacketS : FuncId := 59
def n_laws_toReply : FuncId := 101
def n_laws_toReplyS : FuncId := 60
def n_laws_toServed : FuncId := 102
def n_laws_toServedS : FuncId := 61
def n_laws_toWorld : FuncId := 29
def n_spec_Quiet : FuncId := 28
def n_impl_Quiet : FuncId := 30
def n_laws_eqRule : FuncId := 175
def n_laws_eqRuleS : FuncId := 149
def n_laws_eqConfig : FuncId := 103
def n_laws_eqIntS : FuncId := 44
def n_laws_eqBoolS : FuncId := 45
def n_laws_eqReq : FuncId := 21
def n_laws_eqPart : FuncId := 179
def n_laws_eqPartS : FuncId := 153
def n_laws_eqResp : FuncId := 15
def n_laws_eqRespS : FuncId := 154
def n_laws_eqPend : FuncId := 176
def n_laws_eqPendS : FuncId := 150
def n_laws_eqTable : FuncId := 104
def n_laws_eqCall : FuncId := 178
def n_laws_eqCallS : FuncId := 177
def n_laws_eqLine : FuncId := 151
def n_laws_eqLineS : FuncId := 105
def n_laws_eqFabric : FuncId := 62
def n_laws_eqDevice : FuncId := 152
def n_laws_eqPost : FuncId := 106
def n_laws_eqPostS : FuncId := 63
def n_laws_eqPacket : FuncId := 107
def n_laws_eqPacketS : FuncId := 64
def n_laws_eqReply : FuncId := 108
def n_laws_eqReplyS : FuncId := 65
def n_laws_eqServed : FuncId := 109
def n_laws_eqServedS : FuncId := 66
def n_laws_eqWorld : FuncId := 31
def n_laws_FnExactQuiet : FuncId := 5
def n_spec_Busiest : FuncId := 32
def n_impl_Busiest : FuncId := 33
def n_laws_FnExactBusiest : FuncId := 6
def s_laws_szRuleS : List (Option Nat) := [some 0, some 1, some 4, some 10]
def h_laws_szRuleS : HFunc := { np := 2, ns := 4, own := true, res := [(2, none)], body := .seq (.region [(.mov (.con (.int .i64 0)), some 2, none)]) (.seq (.region [(.mov (.reg 1), none, none), (.mov (.reg 0), none, none), (.len (.reg 5), none, none), (.bin .sub (.reg 4) (.reg 6), none, none), (.mov (.reg 7), some 1, none)]) (.seq (.seq (.region [(.mov (.reg 1), none, none), (.bin .lss (.reg 4) (.con (.int .i64 0)), some 3, none)]) (.cond (.reg 3) (.seq (.region [(.mov (.con (.int .i64 (-1))), some 2, none)]) (.ret)) (.skip))) (.seq (.region [(.mov (.reg 1), none, none), (.mov (.reg 4), some 2, none)]) (.ret)))) }
def s_laws_szConfig : List (Option Nat) := [some 0, some 1, some 2, some 4, some 10]
def h_laws_szConfig : HFunc := { np := 2, ns := 5, own := true, res := [(3, none)], body := .seq (.region [(.box (.reg 0), some 2, none), (.mov (.con (.int .i64 0)), some 3, none)]) (.seq (.region [(.fld 2 (.reg 2), none, none), (.load none (.reg 5), none, none), (.mov (.reg 1), none, none), (.call n_laws_szRuleS [.view, .view] false [.reg 6, .reg 7], none, none), (.mov (.reg 8), some 1, none)]) (.seq (.seq (.region [(.mov (.reg 1), none, none), (.bin .lss (.reg 5) (.con (.int .i64 0)), some 4, none)]) (.cond (.reg 4) (.seq (.region [(.mov (.con (.int .i64 (-1))), some 3, none)]) (.ret)) (.skip))) (.seq (.region [(.mov (.reg 1), none, none), (.mov (.reg 5), some 3, none)]) (.ret)))) }
def s_laws_szIntS : List (Option Nat) := [some 0, some 1, some 4, some 10]
def h_laws_szIntS : HFunc := { np := 2, ns := 4, own := true, res := [(2, none)], body := .seq (.region [(.mov (.con (.int .i64 0)), some 2, none)]) (.seq (.region [(.mov (.reg 1), none, none), (.mov (.reg 0), none, none), (.len (.reg 5), none, none), (.bin .sub (.reg 4) (.reg 6), none, none), (.mov (.reg 7), some 1, none)]) (.seq (.seq (.region [(.mov (.reg 1), none, none), (.bin .lss (.reg 4) (.con (.int .i64 0)), some 3, none)]) (.cond (.reg 3) (.seq (.region [(.mov (.con (.int .i64 (-1))), some 2, none)]) (.ret)) (.skip))) (.seq (.region [(.mov (.reg 1), none, none), (.mov (.reg 4), some 2, none)]) (.ret)))) }
def s_laws_szBoolS : List (Option Nat) := [some 0, some 1, some 4, some 10]
def h_laws_szBoolS : HFunc := { np := 2, ns := 4, own := true, res := [(2, none)], body := .seq (.region [(.mov (.con (.int .i64 0)), some 2, none)]) (.seq (.region [(.mov (.reg 1), none, none), (.mov (.reg 0), none, none), (.len (.reg 5), none, none), (.bin .sub (.reg 4) (.reg 6), none, none), (.mov (.reg 7), some 1, none)]) (.seq (.seq (.region [(.mov (.reg 1), none, none), (.bin .lss (.reg 4) (.con (.int .i64 0)), some 3, none)]) (.cond (.reg 3) (.seq (.region [(.mov (.con (.int .i64 (-1))), some 2, none)]) (.ret)) (.skip))) (.seq (.region [(.mov (.reg 1), none, none), (.mov (.reg 4), some 2, none)]) (.ret)))) }
def s_laws_szReq : List (Option Nat) := [some 0, some 1, some 2, some 4, some 10, some 16]
def h_laws_szReq : HFunc := { np := 2, ns := 6, own := true, res := [(3, none)], body := .seq (.region [(.box (.reg 0), some 2, none), (.mov (.con (.int .i64 0)), some 3, none)]) (.seq (.region [(.fld 3 (.reg 2), none, none), (.load none (.reg 6), none, none), (.mov (.reg 1), none, none), (.call n_laws_szIntS [.view, .view] false [.reg 7, .reg 8], none, none), (.mov (.reg 9), some 1, none)]) (.seq (.seq (.region [(.mov (.reg 1), none, none), (.bin .lss (.reg 6) (.con (.int .i64 0)), some 4, none)]) (.cond (.reg 4) (.seq (.region [(.mov (.con (.int .i64 (-1))), some 3, none)]) (.ret)) (.skip))) (.seq (.region [(.fld 4 (.reg 2), none, none), (.load none (.reg 6), none, none), (.mov (.reg 1), none, none), (.call n_laws_szBoolS [.view, .view] false [.reg 7, .reg 8], none, none), (.mov (.reg 9), some 1, none)]) (.seq (.seq (.region [(.mov (.reg 1), none, none), (.bin .lss (.reg 6) (.con (.int .i64 0)), some 5, none)]) (.cond (.reg 5) (.seq (.region [(.mov (.con (.int .i64 (-1))), some 3, none)]) (.ret)) (.skip))) (.seq (.region [(.mov (.reg 1), none, none), (.mov (.reg 6), some 3, none)]) (.ret)))))) }
def s_laws_szPart : List (Option Nat) := [some 0, some 1, some 2, some 4, some 10]
def h_laws_szPart : HFunc := { np := 2, ns := 5, own := true, res := [(3, none)], body := .seq (.region [(.box (.reg 0), some 2, none), (.mov (.con (.int .i64 0)), some 3, none)]) (.seq (.region [(.fld 2 (.reg 2), none, none), (.load (some 6) (.reg 5), none, none), (.mov (.reg 1), none, none), (.call n_laws_szReq [.view, .view] false [.reg 6, .reg 7], none, none), (.mov (.reg 8), some 1, none)]) (.seq (.seq (.region [(.mov (.reg 1), none, none), (.bin .lss (.reg 5) (.con (.int .i64 0)), some 4, none)]) (.cond (.reg 4) (.seq (.region [(.mov (.con (.int .i64 (-1))), some 3, none)]) (.ret)) (.skip))) (.seq (.region [(.mov (.reg 1), none, none), (.mov (.reg 5), some 3, none)]) (.ret)))) }
def s_laws_szPartS : List (Option Nat) := [some 0, some 1, some 4, some 5, some 11, some 15, some 25]
def l_laws_szPartS_0 : HCode := .seq (.seq (.region [(.mov (.reg 3), none, none), (.mov (.reg 0), none, none), (.len (.reg 8), none, none), (.bin .lss (.reg 7) (.reg 9), some 5, none)]) (.cond (.reg 5) (.skip) (.exit 0))) (.seq (.block 1 (.seq (.region [(.mov (.reg 0), none, none), (.mov (.reg 3), none, none), (.idx 8 (.reg 7) (.reg 8), none, none), (.load (some 8) (.reg 9), none, none), (.mov (.reg 1), none, none), (.call n_laws_szPart [.view, .view] false [.reg 10, .reg 11], none, none), (.mov (.reg 12), some 1, none)]) (.seq (.region [(.mov (.reg 1), none, none), (.bin .lss (.reg 7) (.con (.int .i64 0)), some 6, none)]) (.cond (.reg 6) (.seq (.region [(.mov (.con (.int .i64 (-1))), some 2, none)]) (.ret)) (.skip))))) (.region [(.mov (.reg 3), none, none), (.bin .add (.reg 7) (.con (.int .i64 1)), none, none), (.mov (.reg 8), some 3, none)]))
def h_laws_szPartS : HFunc := { np := 2, ns := 7, own := true, res := [(2, none)], body := .seq (.region [(.mov (.con (.int .i64 0)), some 2, none)]) (.seq (.region [(.mov (.reg 1), none, none), (.mov (.reg 0), none, none), (.len (.reg 8), none, none), (.bin .sub (.reg 7) (.reg 9), none, none), (.mov (.reg 10), some 1, none)]) (.seq (.seq (.region [(.mov (.reg 1), none, none), (.bin .lss (.reg 7) (.con (.int .i64 0)), some 4, none)]) (.cond (.reg 4) (.seq (.region [(.mov (.con (.int .i64 (-1))), some 2, none)]) (.ret)) (.skip))) (.seq (.seq (.region [(.mov (.con (.int .i64 0)), some 3, none)]) (.block 0 (.loop [2, 4, 5, 6] l_laws_szPartS_0))) (.seq (.region [(.mov (.reg 1), none, none), (.mov (.reg 7), some 2, none)]) (.ret))))) }
def s_laws_szResp : List (Option Nat) := [some 0, some 1, some 2, some 4, some 10, some 16]
def h_laws_szResp : HFunc := { np := 2, ns := 6, own := true, res := [(3, none)], body := .seq (.region [(.box (.reg 0), some 2, none), (.mov (.con (.int .i64 0)), some 3, none)]) (.seq (.region [(.fld 4 (.reg 2), none, none), (.load none (.reg 6), none, none), (.mov (.reg 1), none, none), (.call n_laws_szIntS [.view, .view] false [.reg 7, .reg 8], none, none), (.mov (.reg 9), some 1, none)]) (.seq (.seq (.region [(.mov (.reg 1), none, none), (.bin .lss (.reg 6) (.con (.int .i64 0)), some 4, none)]) (.cond (.reg 4) (.seq (.region [(.mov (.con (.int .i64 (-1))), some 3, none)]) (.ret)) (.skip))) (.seq (.region [(.fld 5 (.reg 2), none, none), (.load none (.reg 6), none, none), (.mov (.reg 1), none, none), (.call n_laws_szBoolS [.view, .view] false [.reg 7, .reg 8], none, none), (.mov (.reg 9), some 1, none)]) (.seq (.seq (.region [(.mov (.reg 1), none, none), (.bin .lss (.reg 6) (.con (.int .i64 0)), some 5, none)]) (.cond (.reg 5) (.seq (.region [(.mov (.con (.int .i64 (-1))), some 3, none)]) (.ret)) (.skip))) (.seq (.region [(.mov (.reg 1), none, none), (.mov (.reg 6), some 3, none)]) (.ret)))))) }
def s_laws_szRespS : List (Option Nat) := [some 0, some 1, some 4, some 5, some 11, some 15, some 25]
def l_laws_szRespS_0 : HCode := .seq (.seq (.region [(.mov (.reg 3), none, none), (.mov (.reg 0), none, none), (.len (.reg 8), none, none), (.bin .lss (.reg 7) (.reg 9), some 5, none)]) (.cond (.reg 5) (.skip) (.exit 0))) (.seq (.block 1 (.seq (.region [(.mov (.reg 0), none, none), (.mov (.reg 3), none, none), (.idx 6 (.reg 7) (.reg 8), none, none), (.load (some 6) (.reg 9), none, none), (.mov (.reg 1), none, none), (.call n_laws_szResp [.view, .view] false [.reg 10, .reg 11], none, none), (.mov (.reg 12), some 1, none)]) (.seq (.region [(.mov (.reg 1), none, none), (.bin .lss (.reg 7) (.con (.int .i64 0)), some 6, none)]) (.cond (.reg 6) (.seq (.region [(.mov (.con (.int .i64 (-1))), some 2, none)]) (.ret)) (.skip))))) (.region [(.mov (.reg 3), none, none), (.bin .add (.reg 7) (.con (.int .i64 1)), none, none), (.mov (.reg 8), some 3, none)]))
def h_laws_szRespS : HFunc := { np := 2, ns := 7, own := true, res := [(2, none)], body := .seq (.region [(.mov (.con (.int .i64 0)), some 2, none)]) (.seq (.region [(.mov (.reg 1), none, none), (.mov (.reg 0), none, none), (.len (.reg 8), none, none), (.bin .sub (.reg 7) (.reg 9), none, none), (.mov (.reg 10), some 1, none)]) (.seq (.seq (.region [(.mov (.reg 1), none, none), (.bin .lss (.reg 7) (.con (.int .i64 0)), some 4, none)]) (.cond (.reg 4) (.seq (.region [(.mov (.con (.int .i64 (-1))), some 2, none)]) (.ret)) (.skip))) (.seq (.seq (.region [(.mov (.con (.int .i64 0)), some 3, none)]) (.block 0 (.loop [2, 4, 5, 6] l_laws_szRespS_0))) (.seq (.region [(.mov (.reg 1), none, none), (.mov (.reg 7), some 2, none)]) (.ret))))) }
def s_laws_szPend : List (Option Nat) := [some 0, some 1, some 2, some 4, some 10, some 16, some 22, some 28]
def h_laws_szPend : HFunc := { np := 2, ns := 8, own := true, res := [(3, none)], body := .seq (.region [(.box (.reg 0), some 2, none), (.mov (.con (.int .i64 0)), some 3, none)]) (.seq (.region [(.fld 4 (.reg 2), none, none), (.load (some 6) (.reg 8), none, none), (.mov (.reg 1), none, none), (.call n_laws_szReq [.view, .view] false [.reg 9, .reg 10], none, none), (.mov (.reg 11), some 1, none)]) (.seq (.seq (.region [(.mov (.reg 1), none, none), (.bin .lss (.reg 8) (.con (.int .i64 0)), some 4, none)]) (.cond (.reg 4) (.seq (.region [(.mov (.con (.int .i64 (-1))), some 3, none)]) (.ret)) (.skip))) (.seq (.region [(.fld 10 (.reg 2), none, none), (.load none (.reg 8), none, none), (.mov (.reg 1), none, none), (.call n_laws_szPartS [.view, .view] false [.reg 9, .reg 10], none, none), (.mov (.reg 11), some 1, none)]) (.seq (.seq (.region [(.mov (.reg 1), none, none), (.bin .lss (.reg 8) (.con (.int .i64 0)), some 5, none)]) (.cond (.reg 5) (.seq (.region [(.mov (.con (.int .i64 (-1))), some 3, none)]) (.ret)) (.skip))) (.seq (.region [(.fld 11 (.reg 2), none, none), (.load none (.reg 8), none, none), (.mov (.reg 1), none, none), (.call n_laws_szBoolS [.view, .view] false [.reg 9, .reg 10], none, none), (.mov (.reg 11), some 1, none)]) (.seq (.seq (.region [(.mov (.reg 1), none, none), (.bin .lss (.reg 8) (.con (.int .i64 0)), some 6, none)]) (.cond (.reg 6) (.seq (.region [(.mov (.con (.int .i64 (-1))), some 3, none)]) (.ret)) (.skip))) (.seq (.region [(.fld 12 (.reg 2), none, none), (.load none (.reg 8), none, none), (.mov (.reg 1), none, none), (.call n_laws_szRespS [.view, .view] false [.reg 9, .reg 10], none, none), (.mov (.reg 11), some 1, none)]) (.seq (.seq (.region [(.mov (.reg 1), none, none), (.bin .lss (.reg 8) (.con (.int .i64 0)), some 7, none)]) (.cond (.reg 7) (.seq (.region [(.mov (.con (.int .i64 (-1))), some 3, none)]) (.ret)) (.skip))) (.seq (.region [(.mov (.reg 1), none, none), (.mov (.reg 8), some 3, none)]) (.ret)))))))))) }
def s_laws_szPendS : List (Option Nat) := [some 0, some 1, some 4, some 5, some 11, some 15, some 25]
def l_laws_szPendS_0 : HCode := .seq (.seq (.region [(.mov (.reg 3), none, none), (.mov (.reg 0), none, none), (.len (.reg 8), none, none), (.bin .lss (.reg 7) (.reg 9), some 5, none)]) (.cond (.reg 5) (.skip) (.exit 0))) (.seq (.block 1 (.seq (.region [(.mov (.reg 0), none, none), (.mov (.reg 3), none, none), (.idx 13 (.reg 7) (.reg 8), none, none), (.load (some 13) (.reg 9), none, none), (.mov (.reg 1), none, none), (.call n_laws_szPend [.view, .view] false [.reg 10, .reg 11], none, none), (.mov (.reg 12), some 1, none)]) (.seq (.region [(.mov (.reg 1), none, none), (.bin .lss (.reg 7) (.con (.int .i64 0)), some 6, none)]) (.cond (.reg 6) (.seq (.region [(.mov (.con (.int .i64 (-1))), some 2, none)]) (.ret)) (.skip))))) (.region [(.mov (.reg 3), none, none), (.bin .add (.reg 7) (.con (.int .i64 1)), none, none), (.mov (.reg 8), some 3, none)]))
def h_laws_szPendS : HFunc := { np := 2, ns := 7, own := true, res := [(2, none)], body := .seq (.region [(.mov (.con (.int .i64 0)), some 2, none)]) (.seq (.region [(.mov (.reg 1), none, none), (.mov (.reg 0), none, none), (.len (.reg 8), none, none), (.bin .sub (.reg 7) (.reg 9), none, none), (.mov (.reg 10), some 1, none)]) (.seq (.seq (.region [(.mov (.reg 1), none, none), (.bin .lss (.reg 7) (.con (.int .i64 0)), some 4, none)]) (.cond (.reg 4) (.seq (.region [(.mov (.con (.int .i64 (-1))), some 2, none)]) (.ret)) (.skip))) (.seq (.seq (.region [(.mov (.con (.int .i64 0)), some 3, none)]) (.block 0 (.loop [2, 4, 5, 6] l_laws_szPendS_0))) (.seq (.region [(.mov (.reg 1), none, none), (.mov (.reg 7), some 2, none)]) (.ret))))) }
def s_laws_szTable : List (Option Nat) := [some 0, some 1, some 2, some 4, some 10]
def h_laws_szTable : HFunc := { np := 2, ns := 5, own := true, res := [(3, none)], body := .seq (.region [(.box (.reg 0), some 2, none), (.mov (.con (.int .i64 0)), some 3, none)]) (.seq (.region [(.fld 1 (.reg 2), none, none), (.load none (.reg 5), none, none), (.mov (.reg 1), none, none), (.call n_laws_szPendS [.view, .view] false [.reg 6, .reg 7], none, none), (.mov (.reg 8), some 1, none)]) (.seq (.seq (.region [(.mov (.reg 1), none, none), (.bin .lss (.reg 5) (.con (.int .i64 0)), some 4, none)]) (.cond (.reg 4) (.seq (.region [(.mov (.con (.int .i64 (-1))), some 3, none)]) (.ret)) (.skip))) (.seq (.region [(.mov (.reg 1), none, none), (.mov (.reg 5), some 3, none)]) (.ret)))) }
def s_laws_szCall : List (Option Nat) := [some 0, some 1, some 2, some 4, some 10]
def h_laws_szCall : HFunc := { np := 2, ns := 5, own := true, res := [(3, none)], body := .seq (.region [(.box (.reg 0), some 2, none), (.mov (.con (.int .i64 0)), some 3, none)]) (.seq (.region [(.fld 3 (.reg 2), none, none), (.load (some 6) (.reg 5), none, none), (.mov (.reg 1), none, none), (.call n_laws_szReq [.view, .view] false [.reg 6, .reg 7], none, none), (.mov (.reg 8), some 1, none)]) (.seq (.seq (.region [(.mov (.reg 1), none, none), (.bin .lss (.reg 5) (.con (.int .i64 0)), some 4, none)]) (.cond (.reg 4) (.seq (.region [(.mov (.con (.int .i64 (-1))), some 3, none)]) (.ret)) (.skip))) (.seq (.region [(.mov (.reg 1), none, none), (.mov (.reg 5), some 3, none)]) (.ret)))) }
def s_laws_szCallS : List (Option Nat) := [some 0, some 1, some 4, some 5, some 11, some 15, some 25]
def l_laws_szCallS_0 : HCode := .seq (.seq (.region [(.mov (.reg 3), none, none), (.mov (.reg 0), none, none), (.len (.reg 8), none, none), (.bin .lss (.reg 7) (.reg 9), some 5, none)]) (.cond (.reg 5) (.skip) (.exit 0))) (.seq (.block 1 (.seq (.region [(.mov (.reg 0), none, none), (.mov (.reg 3), none, none), (.idx 9 (.reg 7) (.reg 8), none, none), (.load (some 9) (.reg 9), none, none), (.mov (.reg 1), none, none), (.call n_laws_szCall [.view, .view] false [.reg 10, .reg 11], none, none), (.mov (.reg 12), some 1, none)]) (.seq (.region [(.mov (.reg 1), none, none), (.bin .lss (.reg 7) (.con (.int .i64 0)), some 6, none)]) (.cond (.reg 6) (.seq (.region [(.mov (.con (.int .i64 (-1))), some 2, none)]) (.ret)) (.skip))))) (.region [(.mov (.reg 3), none, none), (.bin .add (.reg 7) (.con (.int .i64 1)), none, none), (.mov (.reg 8), some 3, none)]))
def h_laws_szCallS : HFunc := { np := 2, ns := 7, own := true, res := [(2, none)], body := .seq (.region [(.mov (.con (.int .i64 0)), some 2, none)]) (.seq (.region [(.mov (.reg 1), none, none), (.mov (.reg 0), none, none), (.len (.reg 8), none, none), (.bin .sub (.reg 7) (.reg 9), none, none), (.mov (.reg 10), some 1, none)]) (.seq (.seq (.region [(.mov (.reg 1), none, none), (.bin .lss (.reg 7) (.con (.int .i64 0)), some 4, none)]) (.cond (.reg 4) (.seq (.region [(.mov (.con (.int .i64 (-1))), some 2, none)]) (.ret)) (.skip))) (.seq (.seq (.region [(.mov (.con (.int .i64 0)), some 3, none)]) (.block 0 (.loop [2, 4, 5, 6] l_laws_szCallS_0))) (.seq (.region [(.mov (.reg 1), none, none), (.mov (.reg 7), some 2, none)]) (.ret))))) }
def s_laws_szLine : List (Option Nat) := [some 0, some 1, some 2, some 4, some 10, some 16]
def h_laws_szLine : HFunc := { np := 2, ns := 6, own := true, res := [(3, none)], body := .seq (.region [(.box (.reg 0), some 2, none), (.mov (.con (.int .i64 0)), some 3, none)]) (.seq (.region [(.fld 0 (.reg 2), none, none), (.load none (.reg 6), none, none), (.mov (.reg 1), none, none), (.call n_laws_szCallS [.view, .view] false [.reg 7, .reg 8], none, none), (.mov (.reg 9), some 1, none)]) (.seq (.seq (.region [(.mov (.reg 1), none, none), (.bin .lss (.reg 6) (.con (.int .i64 0)), some 4, none)]) (.cond (.reg 4) (.seq (.region [(.mov (.con (.int .i64 (-1))), some 3, none)]) (.ret)) (.skip))) (.seq (.region [(.fld 2 (.reg 2), none, none), (.load (some 9) (.reg 6), none, none), (.mov (.reg 1), none, none), (.call n_laws_szCall [.view, .view] false [.reg 7, .reg 8], none, none), (.mov (.reg 9), some 1, none)]) (.seq (.seq (.region [(.mov (.reg 1), none, none), (.bin .lss (.reg 6) (.con (.int .i64 0)), some 5, none)]) (.cond (.reg 5) (.seq (.region [(.mov (.con (.int .i64 (-1))), some 3, none)]) (.ret)) (.skip))) (.seq (.region [(.mov (.reg 1), none, none), (.mov (.reg 6), some 3, none)]) (.ret)))))) }
def s_laws_szLineS : List (Option Nat) := [some 0, some 1, some 4, some 5, some 11, some 15, some 25]
def l_laws_szLineS_0 : HCode := .seq (.seq (.region [(.mov (.reg 3), none, none), (.mov (.reg 0), none, none), (.len (.reg 8), none, none), (.bin .lss (.reg 7) (.reg 9), some 5, none)]) (.cond (.reg 5) (.skip) (.exit 0))) (.seq (.block 1 (.seq (.region [(.mov (.reg 0), none, none), (.mov (.reg 3), none, none), (.idx 17 (.reg 7) (.reg 8), none, none), (.load (some 17) (.reg 9), none, none), (.mov (.reg 1), none, none), (.call n_laws_szLine [.view, .view] false [.reg 10, .reg 11], none, none), (.mov (.reg 12), some 1, none)]) (.seq (.region [(.mov (.reg 1), none, none), (.bin .lss (.reg 7) (.con (.int .i64 0)), some 6, none)]) (.cond (.reg 6) (.seq (.region [(.mov (.con (.int .i64 (-1))), some 2, none)]) (.ret)) (.skip))))) (.region [(.mov (.reg 3), none, none), (.bin .add (.reg 7) (.con (.int .i64 1)), none, none), (.mov (.reg 8), some 3, none)]))
def h_laws_szLineS : HFunc := { np := 2, ns := 7, own := true, res := [(2, none)], body := .seq (.region [(.mov (.con (.int .i64 0)), some 2, none)]) (.seq (.region [(.mov (.reg 1), none, none), (.mov (.reg 0), none, none), (.len (.reg 8), none, none), (.bin .sub (.reg 7) (.reg 9), none, none), (.mov (.reg 10), some 1, none)]) (.seq (.seq (.region [(.mov (.reg 1), none, none), (.bin .lss (.reg 7) (.con (.int .i64 0)), some 4, none)]) (.cond (.reg 4) (.seq (.region [(.mov (.con (.int .i64 (-1))), some 2, none)]) (.ret)) (.skip))) (.seq (.seq (.region [(.mov (.con (.int .i64 0)), some 3, none)]) (.block 0 (.loop [2, 4, 5, 6] l_laws_szLineS_0))) (.seq (.region [(.mov (.reg 1), none, none), (.mov (.reg 7), some 2, none)]) (.ret))))) }
def s_laws_szFabric : List (Option Nat) := [some 0, some 1, some 2, some 4, some 10, some 16, some 22]
def h_laws_szFabric : HFunc := { np := 2, ns := 7, own := true, res := [(3, none)], body := .seq (.region [(.box (.reg 0), some 2, none), (.mov (.con (.int .i64 0)), some 3, none)]) (.seq (.region [(.fld 1 (.reg 2), none, none), (.load (some 3) (.reg 7), none, none), (.mov (.reg 1), none, none), (.call n_laws_szConfig [.view, .view] false [.reg 8, .reg 9], none, none), (.mov (.reg 10), some 1, none)]) (.seq (.seq (.region [(.mov (.reg 1), none, none), (.bin .lss (.reg 7) (.con (.int .i64 0)), some 4, none)]) (.cond (.reg 4) (.seq (.region [(.mov (.con (.int .i64 (-1))), some 3, none)]) (.ret)) (.skip))) (.seq (.region [(.fld 4 (.reg 2), none, none), (.load (some 2) (.reg 7), none, none), (.mov (.reg 1), none, none), (.call n_laws_szTable [.view, .view] false [.reg 8, .reg 9], none, none), (.mov (.reg 10), some 1, none)]) (.seq (.seq (.region [(.mov (.reg 1), none, none), (.bin .lss (.reg 7) (.con (.int .i64 0)), some 5, none)]) (.cond (.reg 5) (.seq (.region [(.mov (.con (.int .i64 (-1))), some 3, none)]) (.ret)) (.skip))) (.seq (.region [(.fld 6 (.reg 2), none, none), (.load none (.reg 7), none, none), (.mov (.reg 1), none, none), (.call n_laws_szLineS [.view, .view] false [.reg 8, .reg 9], none, none), (.mov (.reg 10), some 1, none)]) (.seq (.seq (.region [(.mov (.reg 1), none, none), (.bin .lss (.reg 7) (.con (.int .i64 0)), some 6, none)]) (.cond (.reg 6) (.seq (.region [(.mov (.con (.int .i64 (-1))), some 3, none)]) (.ret)) (.skip))) (.seq (.region [(.mov (.reg 1), none, none), (.mov (.reg 7), some 3, none)]) (.ret)))))))) }
def s_laws_szDevice : List (Option Nat) := [some 0, some 1, some 2, some 4, some 10, some 16, some 22, some 28]
def h_laws_szDevice : HFunc := { np := 2, ns := 8, own := true, res := [(3, none)], body := .seq (.region [(.box (.reg 0), some 2, none), (.mov (.con (.int .i64 0)), some 3, none)]) (.seq (.region [(.fld 0 (.reg 2), none, none), (.load none (.reg 8), none, none), (.mov (.reg 1), none, none), (.call n_laws_szBoolS [.view, .view] false [.reg 9, .reg 10], none, none), (.mov (.reg 11), some 1, none)]) (.seq (.seq (.region [(.mov (.reg 1), none, none), (.bin .lss (.reg 8) (.con (.int .i64 0)), some 4, none)]) (.cond (.reg 4) (.seq (.region [(.mov (.con (.int .i64 (-1))), some 3, none)]) (.ret)) (.skip))) (.seq (.region [(.fld 1 (.reg 2), none, none), (.load none (.reg 8), none, none), (.mov (.reg 1), none, none), (.call n_laws_szBoolS [.view, .view] false [.reg 9, .reg 10], none, none), (.mov (.reg 11), some 1, none)]) (.seq (.seq (.region [(.mov (.reg 1), none, none), (.bin .lss (.reg 8) (.con (.int .i64 0)), some 5, none)]) (.cond (.reg 5) (.seq (.region [(.mov (.con (.int .i64 (-1))), some 3, none)]) (.ret)) (.skip))) (.seq (.region [(.fld 2 (.reg 2), none, none), (.load none (.reg 8), none, none), (.mov (.reg 1), none, none), (.call n_laws_szIntS [.view, .view] false [.reg 9, .reg 10], none, none), (.mov (.reg 11), some 1, none)]) (.seq (.seq (.region [(.mov (.reg 1), none, none), (.bin .lss (.reg 8) (.con (.int .i64 0)), some 6, none)]) (.cond (.reg 6) (.seq (.region [(.mov (.con (.int .i64 (-1))), some 3, none)]) (.ret)) (.skip))) (.seq (.region [(.fld 3 (.reg 2), none, none), (.load none (.reg 8), none, none), (.mov (.reg 1), none, none), (.call n_laws_szIntS [.view, .view] false [.reg 9, .reg 10], none, none), (.mov (.reg 11), some 1, none)]) (.seq (.seq (.region [(.mov (.reg 1), none, none), (.bin .lss (.reg 8) (.con (.int .i64 0)), some 7, none)]) (.cond (.reg 7) (.seq (.region [(.mov (.con (.int .i64 (-1))), some 3, none)]) (.ret)) (.skip))) (.seq (.region [(.mov (.reg 1), none, none), (.mov (.reg 8), some 3, none)]) (.ret)))))))))) }
def s_laws_szPost : List (Option Nat) := [some 0, some 1, some 2, some 4, some 10]
def h_laws_szPost : HFunc := { np := 2, ns := 5, own := true, res := [(3, none)], body := .seq (.region [(.box (.reg 0), some 2, none), (.mov (.con (.int .i64 0)), some 3, none)]) (.seq (.region [(.fld 2 (.reg 2), none, none), (.load (some 4) (.reg 5), none, none), (.mov (.reg 1), none, none), (.call n_laws_szDevice [.view, .view] false [.reg 6, .reg 7], none, none), (.mov (.reg 8), some 1, none)]) (.seq (.seq (.region [(.mov (.reg 1), none, none), (.bin .lss (.reg 5) (.con (.int .i64 0)), some 4, none)]) (.cond (.reg 4) (.seq (.region [(.mov (.con (.int .i64 (-1))), some 3, none)]) (.ret)) (.skip))) (.seq (.region [(.mov (.reg 1), none, none), (.mov (.reg 5), some 3, none)]) (.ret)))) }
def s_laws_szPostS : List (Option Nat) := [some 0, some 1, some 4, some 5, some 11, some 15, some 25]
def l_laws_szPostS_0 : HCode := .seq (.seq (.region [(.mov (.reg 3), none, none), (.mov (.reg 0), none, none), (.len (.reg 8), none, none), (.bin .lss (.reg 7) (.reg 9), some 5, none)]) (.cond (.reg 5) (.skip) (.exit 0))) (.seq (.block 1 (.seq (.region [(.mov (.reg 0), none, none), (.mov (.reg 3), none, none), (.idx 6 (.reg 7) (.reg 8), none, none), (.load (some 6) (.reg 9), none, none), (.mov (.reg 1), none, none), (.call n_laws_szPost [.view, .view] false [.reg 10, .reg 11], none, none), (.mov (.reg 12), some 1, none)]) (.seq (.region [(.mov (.reg 1), none, none), (.bin .lss (.reg 7) (.con (.int .i64 0)), some 6, none)]) (.cond (.reg 6) (.seq (.region [(.mov (.con (.int .i64 (-1))), some 2, none)]) (.ret)) (.skip))))) (.region [(.mov (.reg 3), none, none), (.bin .add (.reg 7) (.con (.int .i64 1)), none, none), (.mov (.reg 8), some 3, none)]))
def h_laws_szPostS : HFunc := { np := 2, ns := 7, own := true, res := [(2, none)], body := .seq (.region [(.mov (.con (.int .i64 0)), some 2, none)]) (.seq (.region [(.mov (.reg 1), none, none), (.mov (.reg 0), none, none), (.len (.reg 8), none, none), (.bin .sub (.reg 7) (.reg 9), none, none), (.mov (.reg 10), some 1, none)]) (.seq (.seq (.region [(.mov (.reg 1), none, none), (.bin .lss (.reg 7) (.con (.int .i64 0)), some 4, none)]) (.cond (.reg 4) (.seq (.region [(.mov (.con (.int .i64 (-1))), some 2, none)]) (.ret)) (.skip))) (.seq (.seq (.region [(.mov (.con (.int .i64 0)), some 3, none)]) (.block 0 (.loop [2, 4, 5, 6] l_laws_szPostS_0))) (.seq (.region [(.mov (.reg 1), none, none), (.mov (.reg 7), some 2, none)]) (.ret))))) }
def s_laws_szPacket : List (Option Nat) := [some 0, some 1, some 2, some 4, some 10, some 16]
def h_laws_szPacket : HFunc := { np := 2, ns := 6, own := true, res := [(3, none)], body := .seq (.region [(.box (.reg 0), some 2, none), (.mov (.con (.int .i64 0)), some 3, none)]) (.seq (.region [(.fld 4 (.reg 2), none, none), (.load (some 6) (.reg 6), none, none), (.mov (.reg 1), none, none), (.call n_laws_szReq [.view, .view] false [.reg 7, .reg 8], none, none), (.mov (.reg 9), some 1, none)]) (.seq (.seq (.region [(.mov (.reg 1), none, none), (.bin .lss (.reg 6) (.con (.int .i64 0)), some 4, none)]) (.cond (.reg 4) (.seq (.region [(.mov (.con (.int .i64 (-1))), some 3, none)]) (.ret)) (.skip))) (.seq (.region [(.fld 10 (.reg 2), none, none), (.load (some 6) (.reg 6), none, none), (.mov (.reg 1), none, none), (.call n_laws_szResp [.view, .view] false [.reg 7, .reg 8], none, none), (.mov (.reg 9), some 1, none)]) (.seq (.seq (.region [(.mov (.reg 1), none, none), (.bin .lss (.reg 6) (.con (.int .i64 0)), some 5, none)]) (.cond (.reg 5) (.seq (.region [(.mov (.con (.int .i64 (-1))), some 3, none)]) (.ret)) (.skip))) (.seq (.region [(.mov (.reg 1), none, none), (.mov (.reg 6), some 3, none)]) (.ret)))))) }
def s_laws_szPacketS : List (Option Nat) := [some 0, some 1, some 4, some 5, some 11, some 15, some 25]
def l_laws_szPacketS_0 : HCode := .seq (.seq (.region [(.mov (.reg 3), none, none), (.mov (.reg 0), none, none), (.len (.reg 8), none, none), (.bin .lss (.reg 7) (.reg 9), some 5, none)]) (.cond (.reg 5) (.skip) (.exit 0))) (.seq (.block 1 (.seq (.region [(.mov (.reg 0), none, none), (.mov (.reg 3), none, none), (.idx 16 (.reg 7) (.reg 8), none, none), (.load (some 16) (.reg 9), none, none), (.mov (.reg 1), none, none), (.call n_laws_szPacket [.view, .view] false [.reg 10, .reg 11], none, none), (.mov (.reg 12), some 1, none)]) (.seq (.region [(.mov (.reg 1), none, none), (.bin .lss (.reg 7) (.con (.int .i64 0)), some 6, none)]) (.cond (.reg 6) (.seq (.region [(.mov (.con (.int .i64 (-1))), some 2, none)]) (.ret)) (.skip))))) (.region [(.mov (.reg 3), none, none), (.bin .add (.reg 7) (.con (.int .i64 1)), none, none), (.mov (.reg 8), some 3, none)]))
def h_laws_szPacketS : HFunc := { np := 2, ns := 7, own := true, res := [(2, none)], body := .seq (.region [(.mov (.con (.int .i64 0)), some 2, none)]) (.seq (.region [(.mov (.reg 1), none, none), (.mov (.reg 0), none, none), (.len (.reg 8), none, none), (.bin .sub (.reg 7) (.reg 9), none, none), (.mov (.reg 10), some 1, none)]) (.seq (.seq (.region [(.mov (.reg 1), none, none), (.bin .lss (.reg 7) (.con (.int .i64 0)), some 4, none)]) (.cond (.reg 4) (.seq (.region [(.mov (.con (.int .i64 (-1))), some 2, none)]) (.ret)) (.skip))) (.seq (.seq (.region [(.mov (.con (.int .i64 0)), some 3, none)]) (.block 0 (.loop [2, 4, 5, 6] l_laws_szPacketS_0))) (.seq (.region [(.mov (.reg 1), none, none), (.mov (.reg 7), some 2, none)]) (.ret))))) }
def s_laws_szReply : List (Option Nat) := [some 0, some 1, some 2, some 4, some 10, some 16, some 22, some 28]
def h_laws_szReply : HFunc := { np := 2, ns := 8, own := true, res := [(3, none)], body := .seq (.region [(.box (.reg 0), some 2, none), (.mov (.con (.int .i64 0)), some 3, none)]) (.seq (.region [(.fld 2 (.reg 2), none, none), (.load (some 6) (.reg 8), none, none), (.mov (.reg 1), none, none), (.call n_laws_szReq [.view, .view] false [.reg 9, .reg 10], none, none), (.mov (.reg 11), some 1, none)]) (.seq (.seq (.region [(.mov (.reg 1), none, none), (.bin .lss (.reg 8) (.con (.int .i64 0)), some 4, none)]) (.cond (.reg 4) (.seq (.region [(.mov (.con (.int .i64 (-1))), some 3, none)]) (.ret)) (.skip))) (.seq (.region [(.fld 8 (.reg 2), none, none), (.load none (.reg 8), none, none), (.mov (.reg 1), none, none), (.call n_laws_szPartS [.view, .view] false [.reg 9, .reg 10], none, none), (.mov (.reg 11), some 1, none)]) (.seq (.seq (.region [(.mov (.reg 1), none, none), (.bin .lss (.reg 8) (.con (.int .i64 0)), some 5, none)]) (.cond (.reg 5) (.seq (.region [(.mov (.con (.int .i64 (-1))), some 3, none)]) (.ret)) (.skip))) (.seq (.region [(.fld 9 (.reg 2), none, none), (.load none (.reg 8), none, none), (.mov (.reg 1), none, none), (.call n_laws_szRespS [.view, .view] false [.reg 9, .reg 10], none, none), (.mov (.reg 11), some 1, none)]) (.seq (.seq (.region [(.mov (.reg 1), none, none), (.bin .lss (.reg 8) (.con (.int .i64 0)), some 6, none)]) (.cond (.reg 6) (.seq (.region [(.mov (.con (.int .i64 (-1))), some 3, none)]) (.ret)) (.skip))) (.seq (.region [(.fld 10 (.reg 2), none, none), (.load (some 6) (.reg 8), none, none), (.mov (.reg 1), none, none), (.call n_laws_szResp [.view, .view] false [.reg 9, .reg 10], none, none), (.mov (.reg 11), some 1, none)]) (.seq (.seq (.region [(.mov (.reg 1), none, none), (.bin .lss (.reg 8) (.con (.int .i64 0)), some 7, none)]) (.cond (.reg 7) (.seq (.region [(.mov (.con (.int .i64 (-1))), some 3, none)]) (.ret)) (.skip))) (.seq (.region [(.mov (.reg 1), none, none), (.mov (.reg 8), some 3, none)]) (.ret)))))))))) }
def s_laws_szReplyS : List (Option Nat) := [some 0, some 1, some 4, some 5, some 11, some 15, some 25]
def l_laws_szReplyS_0 : HCode := .seq (.seq (.region [(.mov (.reg 3), none, none), (.mov (.reg 0), none, none), (.len (.reg 8), none, none), (.bin .lss (.reg 7) (.reg 9), some 5, none)]) (.cond (.reg 5) (.skip) (.exit 0))) (.seq (.block 1 (.seq (.region [(.mov (.reg 0), none, none), (.mov (.reg 3), none, none), (.idx 16 (.reg 7) (.reg 8), none, none), (.load (some 16) (.reg 9), none, none), (.mov (.reg 1), none, none), (.call n_laws_szReply [.view, .view] false [.reg 10, .reg 11], none, none), (.mov (.reg 12), some 1, none)]) (.seq (.region [(.mov (.reg 1), none, none), (.bin .lss (.reg 7) (.con (.int .i64 0)), some 6, none)]) (.cond (.reg 6) (.seq (.region [(.mov (.con (.int .i64 (-1))), some 2, none)]) (.ret)) (.skip))))) (.region [(.mov (.reg 3), none, none), (.bin .add (.reg 7) (.con (.int .i64 1)), none, none), (.mov (.reg 8), some 3, none)]))
def h_laws_szReplyS : HFunc := { np := 2, ns := 7, own := true, res := [(2, none)], body := .seq (.region [(.mov (.con (.int .i64 0)), some 2, none)]) (.seq (.region [(.mov (.reg 1), none, none), (.mov (.reg 0), none, none), (.len (.reg 8), none, none), (.bin .sub (.reg 7) (.reg 9), none, none), (.mov (.reg 10), some 1, none)]) (.seq (.seq (.region [(.mov (.reg 1), none, none), (.bin .lss (.reg 7) (.con (.int .i64 0)), some 4, none)]) (.cond (.reg 4) (.seq (.region [(.mov (.con (.int .i64 (-1))), some 2, none)]) (.ret)) (.skip))) (.seq (.seq (.region [(.mov (.con (.int .i64 0)), some 3, none)]) (.block 0 (.loop [2, 4, 5, 6] l_laws_szReplyS_0))) (.seq (.region [(.mov (.reg 1), none, none), (.mov (.reg 7), some 2, none)]) (.ret))))) }
def s_laws_szServed : List (Option Nat) := [some 0, some 1, some 2, some 4, some 10, some 16]
def h_laws_szServed : HFunc := { np := 2, ns := 6, own := true, res := [(3, none)], body := .seq (.region [(.box (.reg 0), some 2, none), (.mov (.con (.int .i64 0)), some 3, none)]) (.seq (.region [(.fld 3 (.reg 2), none, none), (.load (some 6) (.reg 6), none, none), (.mov (.reg 1), none, none), (.call n_laws_szReq [.view, .view] false [.reg 7, .reg 8], none, none), (.mov (.reg 9), some 1, none)]) (.seq (.seq (.region [(.mov (.reg 1), none, none), (.bin .lss (.reg 6) (.con (.int .i64 0)), some 4, none)]) (.cond (.reg 4) (.seq (.region [(.mov (.con (.int .i64 (-1))), some 3, none)]) (.ret)) (.skip))) (.seq (.region [(.fld 9 (.reg 2), none, none), (.load (some 6) (.reg 6), none, none), (.mov (.reg 1), none, none), (.call n_laws_szResp [.view, .view] false [.reg 7, .reg 8], none, none), (.mov (.reg 9), some 1, none)]) (.seq (.seq (.region [(.mov (.reg 1), none, none), (.bin .lss (.reg 6) (.con (.int .i64 0)), some 5, none)]) (.cond (.reg 5) (.seq (.region [(.mov (.con (.int .i64 (-1))), some 3, none)]) (.ret)) (.skip))) (.seq (.region [(.mov (.reg 1), none, none), (.mov (.reg 6), some 3, none)]) (.ret)))))) }
def s_laws_szServedS : List (Option Nat) := [some 0, some 1, some 4, some 5, some 11, some 15, some 25]
def l_laws_szServedS_0 : HCode := .seq (.seq (.region [(.mov (.reg 3), none, none), (.mov (.reg 0), none, none), (.len (.reg 8), none, none), (.bin .lss (.reg 7) (.reg 9), some 5, none)]) (.cond (.reg 5) (.skip) (.exit 0))) (.seq (.block 1 (.seq (.region [(.mov (.reg 0), none, none), (.mov (.reg 3), none, none), (.idx 15 (.reg 7) (.reg 8), none, none), (.load (some 15) (.reg 9), none, none), (.mov (.reg 1), none, none), (.call n_laws_szServed [.view, .view] false [.reg 10, .reg 11], none, none), (.mov (.reg 12), some 1, none)]) (.seq (.region [(.mov (.reg 1), none, none), (.bin .lss (.reg 7) (.con (.int .i64 0)), some 6, none)]) (.cond (.reg 6) (.seq (.region [(.mov (.con (.int .i64 (-1))), some 2, none)]) (.ret)) (.skip))))) (.region [(.mov (.reg 3), none, none), (.bin .add (.reg 7) (.con (.int .i64 1)), none, none), (.mov (.reg 8), some 3, none)]))
def h_laws_szServedS : HFunc := { np := 2, ns := 7, own := true, res := [(2, none)], body := .seq (.region [(.mov (.con (.int .i64 0)), some 2, none)]) (.seq (.region [(.mov (.reg 1), none, none), (.mov (.reg 0), none, none), (.len (.reg 8), none, none), (.bin .sub (.reg 7) (.reg 9), none, none), (.mov (.reg 10), some 1, none)]) (.seq (.seq (.region [(.mov (.reg 1), none, none), (.bin .lss (.reg 7) (.con (.int .i64 0)), some 4, none)]) (.cond (.reg 4) (.seq (.region [(.mov (.con (.int .i64 (-1))), some 2, none)]) (.ret)) (.skip))) (.seq (.seq (.region [(.mov (.con (.int .i64 0)), some 3, none)]) (.block 0 (.loop [2, 4, 5, 6] l_laws_szServedS_0))) (.seq (.region [(.mov (.reg 1), none, none), (.mov (.reg 7), some 2, none)]) (.ret))))) }
def s_laws_szWorld : List (Option Nat) := [some 0, some 1, some 2, some 4, some 10, some 16, some 22, some 28, some 34]
def h_laws_szWorld : HFunc := { np := 2, ns := 9, own := true, res := [(3, none)], body := .seq (.region [(.box (.reg 0), some 2, none), (.mov (.con (.int .i64 0)), some 3, none)]) (.seq (.region [(.fld 0 (.reg 2), none, none), (.load (some 11) (.reg 9), none, none), (.mov (.reg 1), none, none), (.call n_laws_szFabric [.view, .view] false [.reg 10, .reg 11], none, none), (.mov (.reg 12), some 1, none)]) (.seq (.seq (.region [(.mov (.reg 1), none, none), (.bin .lss (.reg 9) (.con (.int .i64 0)), some 4, none)]) (.cond (.reg 4) (.seq (.region [(.mov (.con (.int .i64 (-1))), some 3, none)]) (.ret)) (.skip))) (.seq (.region [(.fld 11 (.reg 2), none, none), (.load none (.reg 9), none, none), (.mov (.reg 1), none, none), (.call n_laws_szPostS [.view, .view] false [.reg 10, .reg 11], none, none), (.mov (.reg 12), some 1, none)]) (.seq (.seq (.region [(.mov (.reg 1), none, none), (.bin .lss (.reg 9) (.con (.int .i64 0)), some 5, none)]) (.cond (.reg 5) (.seq (.region [(.mov (.con (.int .i64 (-1))), some 3, none)]) (.ret)) (.skip))) (.seq (.region [(.fld 12 (.reg 2), none, none), (.load none (.reg 9), none, none), (.mov (.reg 1), none, none), (.call n_laws_szPacketS [.view, .view] false [.reg 10, .reg 11], none, none), (.mov (.reg 12), some 1, none)]) (.seq (.seq (.region [(.mov (.reg 1), none, none), (.bin .lss (.reg 9) (.con (.int .i64 0)), some 6, none)]) (.cond (.reg 6) (.seq (.region [(.mov (.con (.int .i64 (-1))), some 3, none)]) (.ret)) (.skip))) (.seq (.region [(.fld 13 (.reg 2), none, none), (.load none (.reg 9), none, none), (.mov (.reg 1), none, none), (.call n_laws_szReplyS [.view, .view] false [.reg 10, .reg 11], none, none), (.mov (.reg 12), some 1, none)]) (.seq (.seq (.region [(.mov (.reg 1), none, none), (.bin .lss (.reg 9) (.con (.int .i64 0)), some 7, none)]) (.cond (.reg 7) (.seq (.region [(.mov (.con (.int .i64 (-1))), some 3, none)]) (.ret)) (.skip))) (.seq (.region [(.fld 14 (.reg 2), none, none), (.load none (.reg 9), none, none), (.mov (.reg 1), none, none), (.call n_laws_szServedS [.view, .view] false [.reg 10, .reg 11], none, none), (.mov (.reg 12), some 1, none)]) (.seq (.seq (.region [(.mov (.reg 1), none, none), (.bin .lss (.reg 9) (.con (.int .i64 0)), some 8, none)]) (.cond (.reg 8) (.seq (.region [(.mov (.con (.int .i64 (-1))), some 3, none)]) (.ret)) (.skip))) (.seq (.region [(.mov (.reg 1), none, none), (.mov (.reg 9), some 3, none)]) (.ret)))))))))))) }
def s_laws_toRule : List (Option Nat) := [some 0, some 1, some 2, some 3]
def h_laws_toRule : HFunc := { np := 1, ns := 4, own := true, res := [(2, some (some 7))], body := .seq (.region [(.box (.reg 0), some 1, none), (.alloc [.int .i64 0, .int .i64 0, .int .i64 0, .int .i64 0, .int .i64 0, .int .i64 0, .int .i64 0], some 2, none)]) (.seq (.region [(.alloc [.int .i64 0, .int .i64 0, .int .i64 0, .int .i64 0, .int .i64 0, .int .i64 0, .int .i64 0], some 3, none)]) (.seq (.region [(.fld 0 (.reg 1), none, none), (.load none (.reg 4), none, none), (.fld 0 (.reg 3), none, none), (.store none false (.reg 6) (.reg 5), none, none)]) (.seq (.region [(.fld 1 (.reg 1), none, none), (.load none (.reg 4), none, none), (.fld 1 (.reg 3), none, none), (.store none false (.reg 6) (.reg 5), none, none)]) (.seq (.region [(.fld 2 (.reg 1), none, none), (.load none (.reg 4), none, none), (.fld 2 (.reg 3), none, none), (.store none false (.reg 6) (.reg 5), none, none)]) (.seq (.region [(.fld 3 (.reg 1), none, none), (.load none (.reg 4), none, none), (.fld 3 (.reg 3), none, none), (.store none false (.reg 6) (.reg 5), none, none)]) (.seq (.region [(.fld 4 (.reg 1), none, none), (.load none (.reg 4), none, none), (.fld 4 (.reg 3), none, none), (.store none false (.reg 6) (.reg 5), none, none)]) (.seq (.region [(.fld 5 (.reg 1), none, none), (.load none (.reg 4), none, none), (.fld 5 (.reg 3), none, none), (.store none false (.reg 6) (.reg 5), none, none)]) (.seq (.region [(.fld 6 (.reg 1), none, none), (.load none (.reg 4), none, none), (.fld 6 (.reg 3), none, none), (.store none false (.reg 6) (.reg 5), none, none)]) (.seq (.region [(.load (some 7) (.reg 3), none, none), (.store (some 7) false (.reg 2) (.reg 4), none, none)]) (.ret)))))))))) }
def s_laws_toRuleS : List (Option Nat) := [some 0, some 2, some 3, some 4, some 11]
def l_laws_toRuleS_0 : HCode := .seq (.seq (.region [(.mov (.reg 3), none, none), (.mov (.reg 0), none, none), (.len (.reg 6), none, none), (.bin .lss (.reg 5) (.reg 7), some 4, none)]) (.cond (.reg 4) (.skip) (.exit 0))) (.seq (.block 1 (.region [(.mov (.reg 2), none, none), (.mov (.reg 3), none, none), (.mov (.reg 0), none, none), (.mov (.reg 3), none, none), (.idx 7 (.reg 7) (.reg 8), none, none), (.load (some 7) (.reg 9), none, none), (.call n_laws_toRule [.view] false [.reg 10], none, none), (.idx 7 (.reg 5) (.reg 6), none, none), (.store (some 7) false (.reg 12) (.reg 11), none, none)])) (.region [(.mov (.reg 3), none, none), (.bin .add (.reg 5) (.con (.int .i64 1)), none, none), (.mov (.reg 6), some 3, none)]))
def h_laws_toRuleS : HFunc := { np := 1, ns := 5, own := true, res := [(1, none)], body := .seq (.region [(.mov (.con (.own 7 [])), some 1, none)]) (.seq (.region [(.mov (.reg 0), none, none), (.len (.reg 5), none, none), (.make 7 56 (.agg [.int .i64 0, .int .i64 0, .int .i64 0, .int .i64 0, .int .i64 0, .int .i64 0, .int .i64 0]) (.reg 6), none, none), (.mov (.reg 7), some 2, none)]) (.seq (.seq (.region [(.mov (.con (.int .i64 0)), some 3, none)]) (.block 0 (.loop [1, 4] l_laws_toRuleS_0))) (.seq (.region [(.mov (.reg 2), none, none), (.mov (.reg 5), some 1, none)]) (.ret)))) }
def s_laws_toConfig : List (Option Nat) := [some 0, some 1, some 2, some 3]
def h_laws_toConfig : HFunc := { np := 1, ns := 4, own := true, res := [(2, some (some 3))], body := .seq (.region [(.box (.reg 0), some 1, none), (.alloc [.int .i64 0, .int .i64 0, .own 7 []], some 2, none)]) (.seq (.region [(.alloc [.int .i64 0, .int .i64 0, .own 7 []], some 3, none)]) (.seq (.region [(.fld 0 (.reg 1), none, none), (.load none (.reg 4), none, none), (.fld 0 (.reg 3), none, none), (.store none false (.reg 6) (.reg 5), none, none)]) (.seq (.region [(.fld 1 (.reg 1), none, none), (.load none (.reg 4), none, none), (.fld 1 (.reg 3), none, none), (.store none false (.reg 6) (.reg 5), none, none)]) (.seq (.region [(.fld 2 (.reg 1), none, none), (.load none (.reg 4), none, none), (.call n_laws_toRuleS [.view] false [.reg 5], none, none), (.fld 2 (.reg 3), none, none), (.store none false (.reg 7) (.reg 6), none, none)]) (.seq (.region [(.load (some 3) (.reg 3), none, none), (.store (some 3) false (.reg 2) (.reg 4), none, none)]) (.ret)))))) }
def s_laws_toIntS : List (Option Nat) := [some 0, some 2, some 3, some 4, some 11]
def l_laws_toIntS_0 : HCode := .seq (.seq (.region [(.mov (.reg 3), none, none), (.mov (.reg 0), none, none), (.len (.reg 6), none, none), (.bin .lss (.reg 5) (.reg 7), some 4, none)]) (.cond (.reg 4) (.skip) (.exit 0))) (.seq (.block 1 (.region [(.mov (.reg 2), none, none), (.mov (.reg 3), none, none), (.mov (.reg 0), none, none), (.mov (.reg 3), none, none), (.idx 1 (.reg 7) (.reg 8), none, none), (.load none (.reg 9), none, none), (.idx 1 (.reg 5) (.reg 6), none, none), (.store none false (.reg 11) (.reg 10), none, none)])) (.region [(.mov (.reg 3), none, none), (.bin .add (.reg 5) (.con (.int .i64 1)), none, none), (.mov (.reg 6), some 3, none)]))
def h_laws_toIntS : HFunc := { np := 1, ns := 5, own := true, res := [(1, none)], body := .seq (.region [(.mov (.con (.own 1 [])), some 1, none)]) (.seq (.region [(.mov (.reg 0), none, none), (.len (.reg 5), none, none), (.make 1 8 (.int .i64 0) (.reg 6), none, none), (.mov (.reg 7), some 2, none)]) (.seq (.seq (.region [(.mov (.con (.int .i64 0)), some 3, none)]) (.block 0 (.loop [1, 4] l_laws_toIntS_0))) (.seq (.region [(.mov (.reg 2), none, none), (.mov (.reg 5), some 1, none)]) (.ret)))) }
def s_laws_toBoolS : List (Option Nat) := [some 0, some 2, some 3, some 4, some 11]
def l_laws_toBoolS_0 : HCode := .seq (.seq (.region [(.mov (.reg 3), none, none), (.mov (.reg 0), none, none), (.len (.reg 6), none, none), (.bin .lss (.reg 5) (.reg 7), some 4, none)]) (.cond (.reg 4) (.skip) (.exit 0))) (.seq (.block 1 (.region [(.mov (.reg 2), none, none), (.mov (.reg 3), none, none), (.mov (.reg 0), none, none), (.mov (.reg 3), none, none), (.idx 1 (.reg 7) (.reg 8), none, none), (.load none (.reg 9), none, none), (.idx 1 (.reg 5) (.reg 6), none, none), (.store none false (.reg 11) (.reg 10), none, none)])) (.region [(.mov (.reg 3), none, none), (.bin .add (.reg 5) (.con (.int .i64 1)), none, none), (.mov (.reg 6), some 3, none)]))
def h_laws_toBoolS : HFunc := { np := 1, ns := 5, own := true, res := [(1, none)], body := .seq (.region [(.mov (.con (.own 1 [])), some 1, none)]) (.seq (.region [(.mov (.reg 0), none, none), (.len (.reg 5), none, none), (.make 1 1 (.bool false) (.reg 6), none, none), (.mov (.reg 7), some 2, none)]) (.seq (.seq (.region [(.mov (.con (.int .i64 0)), some 3, none)]) (.block 0 (.loop [1, 4] l_laws_toBoolS_0))) (.seq (.region [(.mov (.reg 2), none, none), (.mov (.reg 5), some 1, none)]) (.ret)))) }
def s_laws_toReq : List (Option Nat) := [some 0, some 1, some 2, some 3]
def h_laws_toReq : HFunc := { np := 1, ns := 4, own := true, res := [(2, some (some 6))], body := .seq (.region [(.box (.reg 0), some 1, none), (.alloc [.int .i64 0, .int .i64 0, .int .i64 0, .own 1 [], .own 1 [], .int .i64 0], some 2, none)]) (.seq (.region [(.alloc [.int .i64 0, .int .i64 0, .int .i64 0, .own 1 [], .own 1 [], .int .i64 0], some 3, none)]) (.seq (.region [(.fld 0 (.reg 1), none, none), (.load none (.reg 4), none, none), (.fld 0 (.reg 3), none, none), (.store none false (.reg 6) (.reg 5), none, none)]) (.seq (.region [(.fld 1 (.reg 1), none, none), (.load none (.reg 4), none, none), (.fld 1 (.reg 3), none, none), (.store none false (.reg 6) (.reg 5), none, none)]) (.seq (.region [(.fld 2 (.reg 1), none, none), (.load none (.reg 4), none, none), (.fld 2 (.reg 3), none, none), (.store none false (.reg 6) (.reg 5), none, none)]) (.seq (.region [(.fld 3 (.reg 1), none, none), (.load none (.reg 4), none, none), (.call n_laws_toIntS [.view] false [.reg 5], none, none), (.fld 3 (.reg 3), none, none), (.store none false (.reg 7) (.reg 6), none, none)]) (.seq (.region [(.fld 4 (.reg 1), none, none), (.load none (.reg 4), none, none), (.call n_laws_toBoolS [.view] false [.reg 5], none, none), (.fld 4 (.reg 3), none, none), (.store none false (.reg 7) (.reg 6), none, none)]) (.seq (.region [(.fld 5 (.reg 1), none, none), (.load none (.reg 4), none, none), (.fld 5 (.reg 3), none, none), (.store none false (.reg 6) (.reg 5), none, none)]) (.seq (.region [(.load (some 6) (.reg 3), none, none), (.store (some 6) false (.reg 2) (.reg 4), none, none)]) (.ret))))))))) }
def s_laws_toPart : List (Option Nat) := [some 0, some 1, some 2, some 3]
def h_laws_toPart : HFunc := { np := 1, ns := 4, own := true, res := [(2, some (some 8))], body := .seq (.region [(.box (.reg 0), some 1, none), (.alloc [.int .i64 0, .int .i64 0, .int .i64 0, .int .i64 0, .int .i64 0, .own 1 [], .own 1 [], .int .i64 0], some 2, none)]) (.seq (.region [(.alloc [.int .i64 0, .int .i64 0, .int .i64 0, .int .i64 0, .int .i64 0, .own 1 [], .own 1 [], .int .i64 0], some 3, none)]) (.seq (.region [(.fld 0 (.reg 1), none, none), (.load none (.reg 4), none, none), (.fld 0 (.reg 3), none, none), (.store none false (.reg 6) (.reg 5), none, none)]) (.seq (.region [(.fld 1 (.reg 1), none, none), (.load none (.reg 4), none, none), (.fld 1 (.reg 3), none, none), (.store none false (.reg 6) (.reg 5), none, none)]) (.seq (.region [(.fld 2 (.reg 1), none, none), (.load (some 6) (.reg 4), none, none), (.call n_laws_toReq [.view] false [.reg 5], none, none), (.fld 2 (.reg 3), none, none), (.store (some 6) false (.reg 7) (.reg 6), none, none)]) (.seq (.region [(.load (some 8) (.reg 3), none, none), (.store (some 8) false (.reg 2) (.reg 4), none, none)]) (.ret)))))) }
def s_laws_toPartS : List (Option Nat) := [some 0, some 2, some 3, some 4, some 11]
def l_laws_toPartS_0 : HCode := .seq (.seq (.region [(.mov (.reg 3), none, none), (.mov (.reg 0), none, none), (.len (.reg 6), none, none), (.bin .lss (.reg 5) (.reg 7), some 4, none)]) (.cond (.reg 4) (.skip) (.exit 0))) (.seq (.block 1 (.region [(.mov (.reg 2), none, none), (.mov (.reg 3), none, none), (.mov (.reg 0), none, none), (.mov (.reg 3), none, none), (.idx 8 (.reg 7) (.reg 8), none, none), (.load (some 8) (.reg 9), none, none), (.call n_laws_toPart [.view] false [.reg 10], none, none), (.idx 8 (.reg 5) (.reg 6), none, none), (.store (some 8) false (.reg 12) (.reg 11), none, none)])) (.region [(.mov (.reg 3), none, none), (.bin .add (.reg 5) (.con (.int .i64 1)), none, none), (.mov (.reg 6), some 3, none)]))
def h_laws_toPartS : HFunc := { np := 1, ns := 5, own := true, res := [(1, none)], body := .seq (.region [(.mov (.con (.own 8 [])), some 1, none)]) (.seq (.region [(.mov (.reg 0), none, none), (.len (.reg 5), none, none), (.make 8 96 (.agg [.int .i64 0, .int .i64 0, .int .i64 0, .int .i64 0, .int .i64 0, .own 1 [], .own 1 [], .int .i64 0]) (.reg 6), none, none), (.mov (.reg 7), some 2, none)]) (.seq (.seq (.region [(.mov (.con (.int .i64 0)), some 3, none)]) (.block 0 (.loop [1, 4] l_laws_toPartS_0))) (.seq (.region [(.mov (.reg 2), none, none), (.mov (.reg 5), some 1, none)]) (.ret)))) }
def s_laws_toResp : List (Option Nat) := [some 0, some 1, some 2, some 3]
def h_laws_toResp : HFunc := { np := 1, ns := 4, own := true, res := [(2, some (some 6))], body := .seq (.region [(.box (.reg 0), some 1, none), (.alloc [.int .i64 0, .int .i64 0, .int .i64 0, .int .i64 0, .own 1 [], .own 1 []], some 2, none)]) (.seq (.region [(.alloc [.int .i64 0, .int .i64 0, .int .i64 0, .int .i64 0, .own 1 [], .own 1 []], some 3, none)]) (.seq (.region [(.fld 0 (.reg 1), none, none), (.load none (.reg 4), none, none), (.fld 0 (.reg 3), none, none), (.store none false (.reg 6) (.reg 5), none, none)]) (.seq (.region [(.fld 1 (.reg 1), none, none), (.load none (.reg 4), none, none), (.fld 1 (.reg 3), none, none), (.store none false (.reg 6) (.reg 5), none, none)]) (.seq (.region [(.fld 2 (.reg 1), none, none), (.load none (.reg 4), none, none), (.fld 2 (.reg 3), none, none), (.store none false (.reg 6) (.reg 5), none, none)]) (.seq (.region [(.fld 3 (.reg 1), none, none), (.load none (.reg 4), none, none), (.fld 3 (.reg 3), none, none), (.store none false (.reg 6) (.reg 5), none, none)]) (.seq (.region [(.fld 4 (.reg 1), none, none), (.load none (.reg 4), none, none), (.call n_laws_toIntS [.view] false [.reg 5], none, none), (.fld 4 (.reg 3), none, none), (.store none false (.reg 7) (.reg 6), none, none)]) (.seq (.region [(.fld 5 (.reg 1), none, none), (.load none (.reg 4), none, none), (.call n_laws_toBoolS [.view] false [.reg 5], none, none), (.fld 5 (.reg 3), none, none), (.store none false (.reg 7) (.reg 6), none, none)]) (.seq (.region [(.load (some 6) (.reg 3), none, none), (.store (some 6) false (.reg 2) (.reg 4), none, none)]) (.ret))))))))) }
def s_laws_toRespS : List (Option Nat) := [some 0, some 2, some 3, some 4, some 11]
def l_laws_toRespS_0 : HCode := .seq (.seq (.region [(.mov (.reg 3), none, none), (.mov (.reg 0), none, none), (.len (.reg 6), none, none), (.bin .lss (.reg 5) (.reg 7), some 4, none)]) (.cond (.reg 4) (.skip) (.exit 0))) (.seq (.block 1 (.region [(.mov (.reg 2), none, none), (.mov (.reg 3), none, none), (.mov (.reg 0), none, none), (.mov (.reg 3), none, none), (.idx 6 (.reg 7) (.reg 8), none, none), (.load (some 6) (.reg 9), none, none), (.call n_laws_toResp [.view] false [.reg 10], none, none), (.idx 6 (.reg 5) (.reg 6), none, none), (.store (some 6) false (.reg 12) (.reg 11), none, none)])) (.region [(.mov (.reg 3), none, none), (.bin .add (.reg 5) (.con (.int .i64 1)), none, none), (.mov (.reg 6), some 3, none)]))
def h_laws_toRespS : HFunc := { np := 1, ns := 5, own := true, res := [(1, none)], body := .seq (.region [(.mov (.con (.own 6 [])), some 1, none)]) (.seq (.region [(.mov (.reg 0), none, none), (.len (.reg 5), none, none), (.make 6 80 (.agg [.int .i64 0, .int .i64 0, .int .i64 0, .int .i64 0, .own 1 [], .own 1 []]) (.reg 6), none, none), (.mov (.reg 7), some 2, none)]) (.seq (.seq (.region [(.mov (.con (.int .i64 0)), some 3, none)]) (.block 0 (.loop [1, 4] l_laws_toRespS_0))) (.seq (.region [(.mov (.reg 2), none, none), (.mov (.reg 5), some 1, none)]) (.ret)))) }
def s_laws_toPend : List (Option Nat) := [some 0, some 1, some 2, some 3]
def h_laws_toPend : HFunc := { np := 1, ns := 4, own := true, res := [(2, some (some 13))], body := .seq (.region [(.box (.reg 0), some 1, none), (.alloc [.int .i64 0, .int .i64 0, .int .i64 0, .int .i64 0, .int .i64 0, .int .i64 0, .int .i64 0, .own 1 [], .own 1 [], .int .i64 0, .own 8 [], .own 1 [], .own 6 []], some 2, none)]) (.seq (.region [(.alloc [.int .i64 0, .int .i64 0, .int .i64 0, .int .i64 0, .int .i64 0, .int .i64 0, .int .i64 0, .own 1 [], .own 1 [], .int .i64 0, .own 8 [], .own 1 [], .own 6 []], some 3, none)]) (.seq (.region [(.fld 0 (.reg 1), none, none), (.load none (.reg 4), none, none), (.fld 0 (.reg 3), none, none), (.store none false (.reg 6) (.reg 5), none, none)]) (.seq (.region [(.fld 1 (.reg 1), none, none), (.load none (.reg 4), none, none), (.fld 1 (.reg 3), none, none), (.store none false (.reg 6) (.reg 5), none, none)]) (.seq (.region [(.fld 2 (.reg 1), none, none), (.load none (.reg 4), none, none), (.fld 2 (.reg 3), none, none), (.store none false (.reg 6) (.reg 5), none, none)]) (.seq (.region [(.fld 3 (.reg 1), none, none), (.load none (.reg 4), none, none), (.fld 3 (.reg 3), none, none), (.store none false (.reg 6) (.reg 5), none, none)]) (.seq (.region [(.fld 4 (.reg 1), none, none), (.load (some 6) (.reg 4), none, none), (.call n_laws_toReq [.view] false [.reg 5], none, none), (.fld 4 (.reg 3), none, none), (.store (some 6) false (.reg 7) (.reg 6), none, none)]) (.seq (.region [(.fld 10 (.reg 1), none, none), (.load none (.reg 4), none, none), (.call n_laws_toPartS [.view] false [.reg 5], none, none), (.fld 10 (.reg 3), none, none), (.store none false (.reg 7) (.reg 6), none, none)]) (.seq (.region [(.fld 11 (.reg 1), none, none), (.load none (.reg 4), none, none), (.call n_laws_toBoolS [.view] false [.reg 5], none, none), (.fld 11 (.reg 3), none, none), (.store none false (.reg 7) (.reg 6), none, none)]) (.seq (.region [(.fld 12 (.reg 1), none, none), (.load none (.reg 4), none, none), (.call n_laws_toRespS [.view] false [.reg 5], none, none), (.fld 12 (.reg 3), none, none), (.store none false (.reg 7) (.reg 6), none, none)]) (.seq (.region [(.load (some 13) (.reg 3), none, none), (.store (some 13) false (.reg 2) (.reg 4), none, none)]) (.ret))))))))))) }
def s_laws_toPendS : List (Option Nat) := [some 0, some 2, some 3, some 4, some 11]
def l_laws_toPendS_0 : HCode := .seq (.seq (.region [(.mov (.reg 3), none, none), (.mov (.reg 0), none, none), (.len (.reg 6), none, none), (.bin .lss (.reg 5) (.reg 7), some 4, none)]) (.cond (.reg 4) (.skip) (.exit 0))) (.seq (.block 1 (.region [(.mov (.reg 2), none, none), (.mov (.reg 3), none, none), (.mov (.reg 0), none, none), (.mov (.reg 3), none, none), (.idx 13 (.reg 7) (.reg 8), none, none), (.load (some 13) (.reg 9), none, none), (.call n_laws_toPend [.view] false [.reg 10], none, none), (.idx 13 (.reg 5) (.reg 6), none, none), (.store (some 13) false (.reg 12) (.reg 11), none, none)])) (.region [(.mov (.reg 3), none, none), (.bin .add (.reg 5) (.con (.int .i64 1)), none, none), (.mov (.reg 6), some 3, none)]))
def h_laws_toPendS : HFunc := { np := 1, ns := 5, own := true, res := [(1, none)], body := .seq (.region [(.mov (.con (.own 13 [])), some 1, none)]) (.seq (.region [(.mov (.reg 0), none, none), (.len (.reg 5), none, none), (.make 13 184 (.agg [.int .i64 0, .int .i64 0, .int .i64 0, .int .i64 0, .int .i64 0, .int .i64 0, .int .i64 0, .own 1 [], .own 1 [], .int .i64 0, .own 8 [], .own 1 [], .own 6 []]) (.reg 6), none, none), (.mov (.reg 7), some 2, none)]) (.seq (.seq (.region [(.mov (.con (.int .i64 0)), some 3, none)]) (.block 0 (.loop [1, 4] l_laws_toPendS_0))) (.seq (.region [(.mov (.reg 2), none, none), (.mov (.reg 5), some 1, none)]) (.ret)))) }
def s_laws_toTable : List (Option Nat) := [some 0, some 1, some 2, some 3]
def h_laws_toTable : HFunc := { np := 1, ns := 4, own := true, res := [(2, some (some 2))], body := .seq (.region [(.box (.reg 0), some 1, none), (.alloc [.int .i64 0, .own 13 []], some 2, none)]) (.seq (.region [(.alloc [.int .i64 0, .own 13 []], some 3, none)]) (.seq (.region [(.fld 0 (.reg 1), none, none), (.load none (.reg 4), none, none), (.fld 0 (.reg 3), none, none), (.store none false (.reg 6) (.reg 5), none, none)]) (.seq (.region [(.fld 1 (.reg 1), none, none), (.load none (.reg 4), none, none), (.call n_laws_toPendS [.view] false [.reg 5], none, none), (.fld 1 (.reg 3), none, none), (.store none false (.reg 7) (.reg 6), none, none)]) (.seq (.region [(.load (some 2) (.reg 3), none, none), (.store (some 2) false (.reg 2) (.reg 4), none, none)]) (.ret))))) }
def s_laws_toCall : List (Option Nat) := [some 0, some 1, some 2, some 3]
def h_laws_toCall : HFunc := { np := 1, ns := 4, own := true, res := [(2, some (some 9))], body := .seq (.region [(.box (.reg 0), some 1, none), (.alloc [.int .i64 0, .int .i64 0, .int .i64 0, .int .i64 0, .int .i64 0, .int .i64 0, .own 1 [], .own 1 [], .int .i64 0], some 2, none)]) (.seq (.region [(.alloc [.int .i64 0, .int .i64 0, .int .i64 0, .int .i64 0, .int .i64 0, .int .i64 0, .own 1 [], .own 1 [], .int .i64 0], some 3, none)]) (.seq (.region [(.fld 0 (.reg 1), none, none), (.load none (.reg 4), none, none), (.fld 0 (.reg 3), none, none), (.store none false (.reg 6) (.reg 5), none, none)]) (.seq (.region [(.fld 1 (.reg 1), none, none), (.load none (.reg 4), none, none), (.fld 1 (.reg 3), none, none), (.store none false (.reg 6) (.reg 5), none, none)]) (.seq (.region [(.fld 2 (.reg 1), none, none), (.load none (.reg 4), none, none), (.fld 2 (.reg 3), none, none), (.store none false (.reg 6) (.reg 5), none, none)]) (.seq (.region [(.fld 3 (.reg 1), none, none), (.load (some 6) (.reg 4), none, none), (.call n_laws_toReq [.view] false [.reg 5], none, none), (.fld 3 (.reg 3), none, none), (.store (some 6) false (.reg 7) (.reg 6), none, none)]) (.seq (.region [(.load (some 9) (.reg 3), none, none), (.store (some 9) false (.reg 2) (.reg 4), none, none)]) (.ret))))))) }
def s_laws_toCallS : List (Option Nat) := [some 0, some 2, some 3, some 4, some 11]
def l_laws_toCallS_0 : HCode := .seq (.seq (.region [(.mov (.reg 3), none, none), (.mov (.reg 0), none, none), (.len (.reg 6), none, none), (.bin .lss (.reg 5) (.reg 7), some 4, none)]) (.cond (.reg 4) (.skip) (.exit 0))) (.seq (.block 1 (.region [(.mov (.reg 2), none, none), (.mov (.reg 3), none, none), (.mov (.reg 0), none, none), (.mov (.reg 3), none, none), (.idx 9 (.reg 7) (.reg 8), none, none), (.load (some 9) (.reg 9), none, none), (.call n_laws_toCall [.view] false [.reg 10], none, none), (.idx 9 (.reg 5) (.reg 6), none, none), (.store (some 9) false (.reg 12) (.reg 11), none, none)])) (.region [(.mov (.reg 3), none, none), (.bin .add (.reg 5) (.con (.int .i64 1)), none, none), (.mov (.reg 6), some 3, none)]))
def h_laws_toCallS : HFunc := { np := 1, ns := 5, own := true, res := [(1, none)], body := .seq (.region [(.mov (.con (.own 9 [])), some 1, none)]) (.seq (.region [(.mov (.reg 0), none, none), (.len (.reg 5), none, none), (.make 9 104 (.agg [.int .i64 0, .int .i64 0, .int .i64 0, .int .i64 0, .int .i64 0, .int .i64 0, .own 1 [], .own 1 [], .int .i64 0]) (.reg 6), none, none), (.mov (.reg 7), some 2, none)]) (.seq (.seq (.region [(.mov (.con (.int .i64 0)), some 3, none)]) (.block 0 (.loop [1, 4] l_laws_toCallS_0))) (.seq (.region [(.mov (.reg 2), none, none), (.mov (.reg 5), some 1, none)]) (.ret)))) }
def s_laws_toLine : List (Option Nat) := [some 0, some 1, some 2, some 3]
def h_laws_toLine : HFunc := { np := 1, ns := 4, own := true, res := [(2, some (some 17))], body := .seq (.region [(.box (.reg 0), some 1, none), (.alloc [.own 9 [], .bool false, .int .i64 0, .int .i64 0, .int .i64 0, .int .i64 0, .int .i64 0, .int .i64 0, .own 1 [], .own 1 [], .int .i64 0, .int .i64 0, .int .i64 0, .int .i64 0, .int .i64 0, .int .i64 0, .int .i64 0], some 2, none)]) (.seq (.region [(.alloc [.own 9 [], .bool false, .int .i64 0, .int .i64 0, .int .i64 0, .int .i64 0, .int .i64 0, .int .i64 0, .own 1 [], .own 1 [], .int .i64 0, .int .i64 0, .int .i64 0, .int .i64 0, .int .i64 0, .int .i64 0, .int .i64 0], some 3, none)]) (.seq (.region [(.fld 0 (.reg 1), none, none), (.load none (.reg 4), none, none), (.call n_laws_toCallS [.view] false [.reg 5], none, none), (.fld 0 (.reg 3), none, none), (.store none false (.reg 7) (.reg 6), none, none)]) (.seq (.region [(.fld 1 (.reg 1), none, none), (.load none (.reg 4), none, none), (.fld 1 (.reg 3), none, none), (.store none false (.reg 6) (.reg 5), none, none)]) (.seq (.region [(.fld 2 (.reg 1), none, none), (.load (some 9) (.reg 4), none, none), (.call n_laws_toCall [.view] false [.reg 5], none, none), (.fld 2 (.reg 3), none, none), (.store (some 9) false (.reg 7) (.reg 6), none, none)]) (.seq (.region [(.fld 11 (.reg 1), none, none), (.load none (.reg 4), none, none), (.fld 11 (.reg 3), none, none), (.store none false (.reg 6) (.reg 5), none, none)]) (.seq (.region [(.fld 12 (.reg 1), none, none), (.load none (.reg 4), none, none), (.fld 12 (.reg 3), none, none), (.store none false (.reg 6) (.reg 5), none, none)]) (.seq (.region [(.fld 13 (.reg 1), none, none), (.load none (.reg 4), none, none), (.fld 13 (.reg 3), none, none), (.store none false (.reg 6) (.reg 5), none, none)]) (.seq (.region [(.fld 14 (.reg 1), none, none), (.load none (.reg 4), none, none), (.fld 14 (.reg 3), none, none), (.store none false (.reg 6) (.reg 5), none, none)]) (.seq (.region [(.fld 15 (.reg 1), none, none), (.load none (.reg 4), none, none), (.fld 15 (.reg 3), none, none), (.store none false (.reg 6) (.reg 5), none, none)]) (.seq (.region [(.fld 16 (.reg 1), none, none), (.load none (.reg 4), none, none), (.fld 16 (.reg 3), none, none), (.store none false (.reg 6) (.reg 5), none, none)]) (.seq (.region [(.load (some 17) (.reg 3), none, none), (.store (some 17) false (.reg 2) (.reg 4), none, none)]) (.ret)))))))))))) }
def s_laws_toLineS : List (Option Nat) := [some 0, some 2, some 3, some 4, some 11]
def l_laws_toLineS_0 : HCode := .seq (.seq (.region [(.mov (.reg 3), none, none), (.mov (.reg 0), none, none), (.len (.reg 6), none, none), (.bin .lss (.reg 5) (.reg 7), some 4, none)]) (.cond (.reg 4) (.skip) (.exit 0))) (.seq (.block 1 (.region [(.mov (.reg 2), none, none), (.mov (.reg 3), none, none), (.mov (.reg 0), none, none), (.mov (.reg 3), none, none), (.idx 17 (.reg 7) (.reg 8), none, none), (.load (some 17) (.reg 9), none, none), (.call n_laws_toLine [.view] false [.reg 10], none, none), (.idx 17 (.reg 5) (.reg 6), none, none), (.store (some 17) false (.reg 12) (.reg 11), none, none)])) (.region [(.mov (.reg 3), none, none), (.bin .add (.reg 5) (.con (.int .i64 1)), none, none), (.mov (.reg 6), some 3, none)]))
def h_laws_toLineS : HFunc := { np := 1, ns := 5, own := true, res := [(1, none)], body := .seq (.region [(.mov (.con (.own 17 [])), some 1, none)]) (.seq (.region [(.mov (.reg 0), none, none), (.len (.reg 5), none, none), (.make 17 184 (.agg [.own 9 [], .bool false, .int .i64 0, .int .i64 0, .int .i64 0, .int .i64 0, .int .i64 0, .int .i64 0, .own 1 [], .own 1 [], .int .i64 0, .int .i64 0, .int .i64 0, .int .i64 0, .int .i64 0, .int .i64 0, .int .i64 0]) (.reg 6), none, none), (.mov (.reg 7), some 2, none)]) (.seq (.seq (.region [(.mov (.con (.int .i64 0)), some 3, none)]) (.block 0 (.loop [1, 4] l_laws_toLineS_0))) (.seq (.region [(.mov (.reg 2), none, none), (.mov (.reg 5), some 1, none)]) (.ret)))) }
def s_laws_toFabric : List (Option Nat) := [some 0, some 1, some 2, some 3]
def h_laws_toFabric : HFunc := { np := 1, ns := 4, own := true, res := [(2, some (some 11))], body := .seq (.region [(.box (.reg 0), some 1, none), (.alloc [.int .i64 0, .int .i64 0, .int .i64 0, .own 7 [], .int .i64 0, .own 13 [], .own 17 [], .int .i64 0, .int .i64 0, .int .i64 0, .int .i64 0], some 2, none)]) (.seq (.region [(.alloc [.int .i64 0, .int .i64 0, .int .i64 0, .own 7 [], .int .i64 0, .own 13 [], .own 17 [], .int .i64 0, .int .i64 0, .int .i64 0, .int .i64 0], some 3, none)]) (.seq (.region [(.fld 0 (.reg 1), none, none), (.load none (.reg 4), none, none), (.fld 0 (.reg 3), none, none), (.store none false (.reg 6) (.reg 5), none, none)]) (.seq (.region [(.fld 1 (.reg 1), none, none), (.load (some 3) (.reg 4), none, none), (.call n_laws_toConfig [.view] false [.reg 5], none, none), (.fld 1 (.reg 3), none, none), (.store (some 3) false (.reg 7) (.reg 6), none, none)]) (.seq (.region [(.fld 4 (.reg 1), none, none), (.load (some 2) (.reg 4), none, none), (.call n_laws_toTable [.view] false [.reg 5], none, none), (.fld 4 (.reg 3), none, none), (.store (some 2) false (.reg 7) (.reg 6), none, none)]) (.seq (.region [(.fld 6 (.reg 1), none, none), (.load none (.reg 4), none, none), (.call n_laws_toLineS [.view] false [.reg 5], none, none), (.fld 6 (.reg 3), none, none), (.store none false (.reg 7) (.reg 6), none, none)]) (.seq (.region [(.fld 7 (.reg 1), none, none), (.load none (.reg 4), none, none), (.fld 7 (.reg 3), none, none), (.store none false (.reg 6) (.reg 5), none, none)]) (.seq (.region [(.fld 8 (.reg 1), none, none), (.load none (.reg 4), none, none), (.fld 8 (.reg 3), none, none), (.store none false (.reg 6) (.reg 5), none, none)]) (.seq (.region [(.fld 9 (.reg 1), none, none), (.load none (.reg 4), none, none), (.fld 9 (.reg 3), none, none), (.store none false (.reg 6) (.reg 5), none, none)]) (.seq (.region [(.fld 10 (.reg 1), none, none), (.load none (.reg 4), none, none), (.fld 10 (.reg 3), none, none), (.store none false (.reg 6) (.reg 5), none, none)]) (.seq (.region [(.load (some 11) (.reg 3), none, none), (.store (some 11) false (.reg 2) (.reg 4), none, none)]) (.ret))))))))))) }
def s_laws_toDevice : List (Option Nat) := [some 0, some 1, some 2, some 3]
def h_laws_toDevice : HFunc := { np := 1, ns := 4, own := true, res := [(2, some (some 4))], body := .seq (.region [(.box (.reg 0), some 1, none), (.alloc [.own 1 [], .own 1 [], .own 1 [], .own 1 []], some 2, none)]) (.seq (.region [(.alloc [.own 1 [], .own 1 [], .own 1 [], .own 1 []], some 3, none)]) (.seq (.region [(.fld 0 (.reg 1), none, none), (.load none (.reg 4), none, none), (.call n_laws_toBoolS [.view] false [.reg 5], none, none), (.fld 0 (.reg 3), none, none), (.store none false (.reg 7) (.reg 6), none, none)]) (.seq (.region [(.fld 1 (.reg 1), none, none), (.load none (.reg 4), none, none), (.call n_laws_toBoolS [.view] false [.reg 5], none, none), (.fld 1 (.reg 3), none, none), (.store none false (.reg 7) (.reg 6), none, none)]) (.seq (.region [(.fld 2 (.reg 1), none, none), (.load none (.reg 4), none, none), (.call n_laws_toIntS [.view] false [.reg 5], none, none), (.fld 2 (.reg 3), none, none), (.store none false (.reg 7) (.reg 6), none, none)]) (.seq (.region [(.fld 3 (.reg 1), none, none), (.load none (.reg 4), none, none), (.call n_laws_toIntS [.view] false [.reg 5], none, none), (.fld 3 (.reg 3), none, none), (.store none false (.reg 7) (.reg 6), none, none)]) (.seq (.region [(.load (some 4) (.reg 3), none, none), (.store (some 4) false (.reg 2) (.reg 4), none, none)]) (.ret))))))) }
def s_laws_toPost : List (Option Nat) := [some 0, some 1, some 2, some 3]
def h_laws_toPost : HFunc := { np := 1, ns := 4, own := true, res := [(2, some (some 6))], body := .seq (.region [(.box (.reg 0), some 1, none), (.alloc [.int .i64 0, .int .i64 0, .own 1 [], .own 1 [], .own 1 [], .own 1 []], some 2, none)]) (.seq (.region [(.alloc [.int .i64 0, .int .i64 0, .own 1 [], .own 1 [], .own 1 [], .own 1 []], some 3, none)]) (.seq (.region [(.fld 0 (.reg 1), none, none), (.load none (.reg 4), none, none), (.fld 0 (.reg 3), none, none), (.store none false (.reg 6) (.reg 5), none, none)]) (.seq (.region [(.fld 1 (.reg 1), none, none), (.load none (.reg 4), none, none), (.fld 1 (.reg 3), none, none), (.store none false (.reg 6) (.reg 5), none, none)]) (.seq (.region [(.fld 2 (.reg 1), none, none), (.load (some 4) (.reg 4), none, none), (.call n_laws_toDevice [.view] false [.reg 5], none, none), (.fld 2 (.reg 3), none, none), (.store (some 4) false (.reg 7) (.reg 6), none, none)]) (.seq (.region [(.load (some 6) (.reg 3), none, none), (.store (some 6) false (.reg 2) (.reg 4), none, none)]) (.ret)))))) }
def s_laws_toPostS : List (Option Nat) := [some 0, some 2, some 3, some 4, some 11]
def l_laws_toPostS_0 : HCode := .seq (.seq (.region [(.mov (.reg 3), none, none), (.mov (.reg 0), none, none), (.len (.reg 6), none, none), (.bin .lss (.reg 5) (.reg 7), some 4, none)]) (.cond (.reg 4) (.skip) (.exit 0))) (.seq (.block 1 (.region [(.mov (.reg 2), none, none), (.mov (.reg 3), none, none), (.mov (.reg 0), none, none), (.mov (.reg 3), none, none), (.idx 6 (.reg 7) (.reg 8), none, none), (.load (some 6) (.reg 9), none, none), (.call n_laws_toPost [.view] false [.reg 10], none, none), (.idx 6 (.reg 5) (.reg 6), none, none), (.store (some 6) false (.reg 12) (.reg 11), none, none)])) (.region [(.mov (.reg 3), none, none), (.bin .add (.reg 5) (.con (.int .i64 1)), none, none), (.mov (.reg 6), some 3, none)]))
def h_laws_toPostS : HFunc := { np := 1, ns := 5, own := true, res := [(1, none)], body := .seq (.region [(.mov (.con (.own 6 [])), some 1, none)]) (.seq (.region [(.mov (.reg 0), none, none), (.len (.reg 5), none, none), (.make 6 112 (.agg [.int .i64 0, .int .i64 0, .own 1 [], .own 1 [], .own 1 [], .own 1 []]) (.reg 6), none, none), (.mov (.reg 7), some 2, none)]) (.seq (.seq (.region [(.mov (.con (.int .i64 0)), some 3, none)]) (.block 0 (.loop [1, 4] l_laws_toPostS_0))) (.seq (.region [(.mov (.reg 2), none, none), (.mov (.reg 5), some 1, none)]) (.ret)))) }
def s_laws_toPacket : List (Option Nat) := [some 0, some 1, some 2, some 3]
def h_laws_toPacket : HFunc := { np := 1, ns := 4, own := true, res := [(2, some (some 16))], body := .seq (.region [(.box (.reg 0), some 1, none), (.alloc [.bool false, .int .i64 0, .int .i64 0, .int .i64 0, .int .i64 0, .int .i64 0, .int .i64 0, .own 1 [], .own 1 [], .int .i64 0, .int .i64 0, .int .i64 0, .int .i64 0, .int .i64 0, .own 1 [], .own 1 []], some 2, none)]) (.seq (.region [(.alloc [.bool false, .int .i64 0, .int .i64 0, .int .i64 0, .int .i64 0, .int .i64 0, .int .i64 0, .own 1 [], .own 1 [], .int .i64 0, .int .i64 0, .int .i64 0, .int .i64 0, .int .i64 0, .own 1 [], .own 1 []], some 3, none)]) (.seq (.region [(.fld 0 (.reg 1), none, none), (.load none (.reg 4), none, none), (.fld 0 (.reg 3), none, none), (.store none false (.reg 6) (.reg 5), none, none)]) (.seq (.region [(.fld 1 (.reg 1), none, none), (.load none (.reg 4), none, none), (.fld 1 (.reg 3), none, none), (.store none false (.reg 6) (.reg 5), none, none)]) (.seq (.region [(.fld 2 (.reg 1), none, none), (.load none (.reg 4), none, none), (.fld 2 (.reg 3), none, none), (.store none false (.reg 6) (.reg 5), none, none)]) (.seq (.region [(.fld 3 (.reg 1), none, none), (.load none (.reg 4), none, none), (.fld 3 (.reg 3), none, none), (.store none false (.reg 6) (.reg 5), none, none)]) (.seq (.region [(.fld 4 (.reg 1), none, none), (.load (some 6) (.reg 4), none, none), (.call n_laws_toReq [.view] false [.reg 5], none, none), (.fld 4 (.reg 3), none, none), (.store (some 6) false (.reg 7) (.reg 6), none, none)]) (.seq (.region [(.fld 10 (.reg 1), none, none), (.load (some 6) (.reg 4), none, none), (.call n_laws_toResp [.view] false [.reg 5], none, none), (.fld 10 (.reg 3), none, none), (.store (some 6) false (.reg 7) (.reg 6), none, none)]) (.seq (.region [(.load (some 16) (.reg 3), none, none), (.store (some 16) false (.reg 2) (.reg 4), none, none)]) (.ret))))))))) }
def s_laws_toPacketS : List (Option Nat) := [some 0, some 2, some 3, some 4, some 11]
def l_laws_toPacketS_0 : HCode := .seq (.seq (.region [(.mov (.reg 3), none, none), (.mov (.reg 0), none, none), (.len (.reg 6), none, none), (.bin .lss (.reg 5) (.reg 7), some 4, none)]) (.cond (.reg 4) (.skip) (.exit 0))) (.seq (.block 1 (.region [(.mov (.reg 2), none, none), (.mov (.reg 3), none, none), (.mov (.reg 0), none, none), (.mov (.reg 3), none, none), (.idx 16 (.reg 7) (.reg 8), none, none), (.load (some 16) (.reg 9), none, none), (.call n_laws_toPacket [.view] false [.reg 10], none, none), (.idx 16 (.reg 5) (.reg 6), none, none), (.store (some 16) false (.reg 12) (.reg 11), none, none)])) (.region [(.mov (.reg 3), none, none), (.bin .add (.reg 5) (.con (.int .i64 1)), none, none), (.mov (.reg 6), some 3, none)]))
def h_laws_toPacketS : HFunc := { np := 1, ns := 5, own := true, res := [(1, none)], body := .seq (.region [(.mov (.con (.own 16 [])), some 1, none)]) (.seq (.region [(.mov (.reg 0), none, none), (.len (.reg 5), none, none), (.make 16 192 (.agg [.bool false, .int .i64 0, .int .i64 0, .int .i64 0, .int .i64 0, .int .i64 0, .int .i64 0, .own 1 [], .own 1 [], .int .i64 0, .int .i64 0, .int .i64 0, .int .i64 0, .int .i64 0, .own 1 [], .own 1 []]) (.reg 6), none, none), (.mov (.reg 7), some 2, none)]) (.seq (.seq (.region [(.mov (.con (.int .i64 0)), some 3, none)]) (.block 0 (.loop [1, 4] l_laws_toPacketS_0))) (.seq (.region [(.mov (.reg 2), none, none), (.mov (.reg 5), some 1, none)]) (.ret)))) }
def s_laws_toReply : List (Option Nat) := [some 0, some 1, some 2, some 3]
def h_laws_toReply : HFunc := { np := 1, ns := 4, own := true, res := [(2, some (some 16))], body := .seq (.region [(.box (.reg 0), some 1, none), (.alloc [.int .i64 0, .int .i64 0, .int .i64 0, .int .i64 0, .int .i64 0, .own 1 [], .own 1 [], .int .i64 0, .own 8 [], .own 6 [], .int .i64 0, .int .i64 0, .int .i64 0, .int .i64 0, .own 1 [], .own 1 []], some 2, none)]) (.seq (.region [(.alloc [.int .i64 0, .int .i64 0, .int .i64 0, .int .i64 0, .int .i64 0, .own 1 [], .own 1 [], .int .i64 0, .own 8 [], .own 6 [], .int .i64 0, .int .i64 0, .int .i64 0, .int .i64 0, .own 1 [], .own 1 []], some 3, none)]) (.seq (.region [(.fld 0 (.reg 1), none, none), (.load none (.reg 4), none, none), (.fld 0 (.reg 3), none, none), (.store none false (.reg 6) (.reg 5), none, none)]) (.seq (.region [(.fld 1 (.reg 1), none, none), (.load none (.reg 4), none, none), (.fld 1 (.reg 3), none, none), (.store none false (.reg 6) (.reg 5), none, none)]) (.seq (.region [(.fld 2 (.reg 1), none, none), (.load (some 6) (.reg 4), none, none), (.call n_laws_toReq [.view] false [.reg 5], none, none), (.fld 2 (.reg 3), none, none), (.store (some 6) false (.reg 7) (.reg 6), none, none)]) (.seq (.region [(.fld 8 (.reg 1), none, none), (.load none (.reg 4), none, none), (.call n_laws_toPartS [.view] false [.reg 5], none, none), (.fld 8 (.reg 3), none, none), (.store none false (.reg 7) (.reg 6), none, none)]) (.seq (.region [(.fld 9 (.reg 1), none, none), (.load none (.reg 4), none, none), (.call n_laws_toRespS [.view] false [.reg 5], none, none), (.fld 9 (.reg 3), none, none), (.store none false (.reg 7) (.reg 6), none, none)]) (.seq (.region [(.fld 10 (.reg 1), none, none), (.load (some 6) (.reg 4), none, none), (.call n_laws_toResp [.view] false [.reg 5], none, none), (.fld 10 (.reg 3), none, none), (.store (some 6) false (.reg 7) (.reg 6), none, none)]) (.seq (.region [(.load (some 16) (.reg 3), none, none), (.store (some 16) false (.reg 2) (.reg 4), none, none)]) (.ret))))))))) }
def s_laws_toReplyS : List (Option Nat) := [some 0, some 2, some 3, some 4, some 11]
def l_laws_toReplyS_0 : HCode := .seq (.seq (.region [(.mov (.reg 3), none, none), (.mov (.reg 0), none, none), (.len (.reg 6), none, none), (.bin .lss (.reg 5) (.reg 7), some 4, none)]) (.cond (.reg 4) (.skip) (.exit 0))) (.seq (.block 1 (.region [(.mov (.reg 2), none, none), (.mov (.reg 3), none, none), (.mov (.reg 0), none, none), (.mov (.reg 3), none, none), (.idx 16 (.reg 7) (.reg 8), none, none), (.load (some 16) (.reg 9), none, none), (.call n_laws_toReply [.view] false [.reg 10], none, none), (.idx 16 (.reg 5) (.reg 6), none, none), (.store (some 16) false (.reg 12) (.reg 11), none, none)])) (.region [(.mov (.reg 3), none, none), (.bin .add (.reg 5) (.con (.int .i64 1)), none, none), (.mov (.reg 6), some 3, none)]))
def h_laws_toReplyS : HFunc := { np := 1, ns := 5, own := true, res := [(1, none)], body := .seq (.region [(.mov (.con (.own 16 [])), some 1, none)]) (.seq (.region [(.mov (.reg 0), none, none), (.len (.reg 5), none, none), (.make 16 224 (.agg [.int .i64 0, .int .i64 0, .int .i64 0, .int .i64 0, .int .i64 0, .own 1 [], .own 1 [], .int .i64 0, .own 8 [], .own 6 [], .int .i64 0, .int .i64 0, .int .i64 0, .int .i64 0, .own 1 [], .own 1 []]) (.reg 6), none, none), (.mov (.reg 7), some 2, none)]) (.seq (.seq (.region [(.mov (.con (.int .i64 0)), some 3, none)]) (.block 0 (.loop [1, 4] l_laws_toReplyS_0))) (.seq (.region [(.mov (.reg 2), none, none), (.mov (.reg 5), some 1, none)]) (.ret)))) }
def s_laws_toServed : List (Option Nat) := [some 0, some 1, some 2, some 3]
def h_laws_toServed : HFunc := { np := 1, ns := 4, own := true, res := [(2, some (some 15))], body := .seq (.region [(.box (.reg 0), some 1, none), (.alloc [.int .i64 0, .int .i64 0, .int .i64 0, .int .i64 0, .int .i64 0, .int .i64 0, .own 1 [], .own 1 [], .int .i64 0, .int .i64 0, .int .i64 0, .int .i64 0, .int .i64 0, .own 1 [], .own 1 []], some 2, none)]) (.seq (.region [(.alloc [.int .i64 0, .int .i64 0, .int .i64 0, .int .i64 0, .int .i64 0, .int .i64 0, .own 1 [], .own 1 [], .int .i64 0, .int .i64 0, .int .i64 0, .int .i64 0, .int .i64 0, .own 1 [], .own 1 []], some 3, none)]) (.seq (.region [(.fld 0 (.reg 1), none, none), (.load none (.reg 4), none, none), (.fld 0 (.reg 3), none, none), (.store none false (.reg 6) (.reg 5), none, none)]) (.seq (.region [(.fld 1 (.reg 1), none, none), (.load none (.reg 4), none, none), (.fld 1 (.reg 3), none, none), (.store none false (.reg 6) (.reg 5), none, none)]) (.seq (.region [(.fld 2 (.reg 1), none, none), (.load none (.reg 4), none, none), (.fld 2 (.reg 3), none, none), (.store none false (.reg 6) (.reg 5), none, none)]) (.seq (.region [(.fld 3 (.reg 1), none, none), (.load (some 6) (.reg 4), none, none), (.call n_laws_toReq [.view] false [.reg 5], none, none), (.fld 3 (.reg 3), none, none), (.store (some 6) false (.reg 7) (.reg 6), none, none)]) (.seq (.region [(.fld 9 (.reg 1), none, none), (.load (some 6) (.reg 4), none, none), (.call n_laws_toResp [.view] false [.reg 5], none, none), (.fld 9 (.reg 3), none, none), (.store (some 6) false (.reg 7) (.reg 6), none, none)]) (.seq (.region [(.load (some 15) (.reg 3), none, none), (.store (some 15) false (.reg 2) (.reg 4), none, none)]) (.ret)))))))) }
def s_laws_toServedS : List (Option Nat) := [some 0, some 2, some 3, some 4, some 11]
def l_laws_toServedS_0 : HCode := .seq (.seq (.region [(.mov (.reg 3), none, none), (.mov (.reg 0), none, none), (.len (.reg 6), none, none), (.bin .lss (.reg 5) (.reg 7), some 4, none)]) (.cond (.reg 4) (.skip) (.exit 0))) (.seq (.block 1 (.region [(.mov (.reg 2), none, none), (.mov (.reg 3), none, none), (.mov (.reg 0), none, none), (.mov (.reg 3), none, none), (.idx 15 (.reg 7) (.reg 8), none, none), (.load (some 15) (.reg 9), none, none), (.call n_laws_toServed [.view] false [.reg 10], none, none), (.idx 15 (.reg 5) (.reg 6), none, none), (.store (some 15) false (.reg 12) (.reg 11), none, none)])) (.region [(.mov (.reg 3), none, none), (.bin .add (.reg 5) (.con (.int .i64 1)), none, none), (.mov (.reg 6), some 3, none)]))
def h_laws_toServedS : HFunc := { np := 1, ns := 5, own := true, res := [(1, none)], body := .seq (.region [(.mov (.con (.own 15 [])), some 1, none)]) (.seq (.region [(.mov (.reg 0), none, none), (.len (.reg 5), none, none), (.make 15 184 (.agg [.int .i64 0, .int .i64 0, .int .i64 0, .int .i64 0, .int .i64 0, .int .i64 0, .own 1 [], .own 1 [], .int .i64 0, .int .i64 0, .int .i64 0, .int .i64 0, .int .i64 0, .own 1 [], .own 1 []]) (.reg 6), none, none), (.mov (.reg 7), some 2, none)]) (.seq (.seq (.region [(.mov (.con (.int .i64 0)), some 3, none)]) (.block 0 (.loop [1, 4] l_laws_toServedS_0))) (.seq (.region [(.mov (.reg 2), none, none), (.mov (.reg 5), some 1, none)]) (.ret)))) }
def s_laws_toWorld : List (Option Nat) := [some 0, some 1, some 2, some 3]
def h_laws_toWorld : HFunc := { np := 1, ns := 4, own := true, res := [(2, some (some 15))], body := .seq (.region [(.box (.reg 0), some 1, none), (.alloc [.int .i64 0, .int .i64 0, .int .i64 0, .own 7 [], .int .i64 0, .own 13 [], .own 17 [], .int .i64 0, .int .i64 0, .int .i64 0, .int .i64 0, .own 6 [], .own 16 [], .own 16 [], .own 15 []], some 2, none)]) (.seq (.region [(.alloc [.int .i64 0, .int .i64 0, .int .i64 0, .own 7 [], .int .i64 0, .own 13 [], .own 17 [], .int .i64 0, .int .i64 0, .int .i64 0, .int .i64 0, .own 6 [], .own 16 [], .own 16 [], .own 15 []], some 3, none)]) (.seq (.region [(.fld 0 (.reg 1), none, none), (.load (some 11) (.reg 4), none, none), (.call n_laws_toFabric [.view] false [.reg 5], none, none), (.fld 0 (.reg 3), none, none), (.store (some 11) false (.reg 7) (.reg 6), none, none)]) (.seq (.region [(.fld 11 (.reg 1), none, none), (.load none (.reg 4), none, none), (.call n_laws_toPostS [.view] false [.reg 5], none, none), (.fld 11 (.reg 3), none, none), (.store none false (.reg 7) (.reg 6), none, none)]) (.seq (.region [(.fld 12 (.reg 1), none, none), (.load none (.reg 4), none, none), (.call n_laws_toPacketS [.view] false [.reg 5], none, none), (.fld 12 (.reg 3), none, none), (.store none false (.reg 7) (.reg 6), none, none)]) (.seq (.region [(.fld 13 (.reg 1), none, none), (.load none (.reg 4), none, none), (.call n_laws_toReplyS [.view] false [.reg 5], none, none), (.fld 13 (.reg 3), none, none), (.store none false (.reg 7) (.reg 6), none, none)]) (.seq (.region [(.fld 14 (.reg 1), none, none), (.load none (.reg 4), none, none), (.call n_laws_toServedS [.view] false [.reg 5], none, none), (.fld 14 (.reg 3), none, none), (.store none false (.reg 7) (.reg 6), none, none)]) (.seq (.region [(.load (some 15) (.reg 3), none, none), (.store (some 15) false (.reg 2) (.reg 4), none, none)]) (.ret)))))))) }
def s_spec_Quiet : List (Option Nat) := [some 0, some 1, some 2]
def h_spec_Quiet : HFunc := { np := 1, ns := 3, own := true, res := [(2, none)], body := .seq (.region [(.box (.reg 0), some 1, none), (.mov (.con (.bool false)), some 2, none)]) (.seq (.region [(.fld 0 (.reg 1), none, none), (.fld 4 (.reg 3), none, none), (.fld 1 (.reg 4), none, none), (.load none (.reg 5), none, none), (.len (.reg 6), none, none), (.bin .eql (.reg 7) (.con (.int .i64 0)), none, none), (.mov (.reg 8), none, none), (.fld 12 (.reg 1), none, some (9, true)), (.load none (.reg 10), none, some (9, true)), (.len (.reg 11), none, some (9, true)), (.bin .eql (.reg 12) (.con (.int .i64 0)), none, some (9, true)), (.pick (.reg 9) (.reg 13) (.con (.bool false)), none, none), (.mov (.reg 14), some 2, none)]) (.ret)) }
def s_impl_Quiet : List (Option Nat) := [some 0, some 1, some 2]
def h_impl_Quiet : HFunc := { np := 1, ns := 3, own := true, res := [(2, none)], body := .seq (.region [(.box (.reg 0), some 1, none), (.mov (.con (.bool false)), some 2, none)]) (.seq (.region [(.fld 0 (.reg 1), none, none), (.fld 4 (.reg 3), none, none), (.fld 1 (.reg 4), none, none), (.load none (.reg 5), none, none), (.len (.reg 6), none, none), (.bin .eql (.reg 7) (.con (.int .i64 0)), none, none), (.mov (.reg 8), none, none), (.fld 12 (.reg 1), none, some (9, true)), (.load none (.reg 10), none, some (9, true)), (.len (.reg 11), none, some (9, true)), (.bin .eql (.reg 12) (.con (.int .i64 0)), none, some (9, true)), (.pick (.reg 9) (.reg 13) (.con (.bool false)), none, none), (.mov (.reg 14), some 2, none)]) (.ret)) }
def s_laws_eqRule : List (Option Nat) := [some 0, some 1, some 2, some 3, some 4, some 9, some 14, some 19, some 24, some 29, some 34, some 39]
def h_laws_eqRule : HFunc := { np := 2, ns := 12, own := true, res := [(4, none)], body := .seq (.region [(.box (.reg 0), some 2, none), (.box (.reg 1), some 3, none), (.mov (.con (.bool false)), some 4, none)]) (.seq (.seq (.region [(.fld 0 (.reg 2), none, none), (.load none (.reg 12), none, none), (.fld 0 (.reg 3), none, none), (.load none (.reg 14), none, none), (.bin .neq (.reg 13) (.reg 15), some 5, none)]) (.cond (.reg 5) (.seq (.region [(.mov (.con (.bool false)), some 4, none)]) (.ret)) (.skip))) (.seq (.seq (.region [(.fld 1 (.reg 2), none, none), (.load none (.reg 12), none, none), (.fld 1 (.reg 3), none, none), (.load none (.reg 14), none, none), (.bin .neq (.reg 13) (.reg 15), some 6, none)]) (.cond (.reg 6) (.seq (.region [(.mov (.con (.bool false)), some 4, none)]) (.ret)) (.skip))) (.seq (.seq (.region [(.fld 2 (.reg 2), none, none), (.load none (.reg 12), none, none), (.fld 2 (.reg 3), none, none), (.load none (.reg 14), none, none), (.bin .neq (.reg 13) (.reg 15), some 7, none)]) (.cond (.reg 7) (.seq (.region [(.mov (.con (.bool false)), some 4, none)]) (.ret)) (.skip))) (.seq (.seq (.region [(.fld 3 (.reg 2), none, none), (.load none (.reg 12), none, none), (.fld 3 (.reg 3), none, none), (.load none (.reg 14), none, none), (.bin .neq (.reg 13) (.reg 15), some 8, none)]) (.cond (.reg 8) (.seq (.region [(.mov (.con (.bool false)), some 4, none)]) (.ret)) (.skip))) (.seq (.seq (.region [(.fld 4 (.reg 2), none, none), (.load none (.reg 12), none, none), (.fld 4 (.reg 3), none, none), (.load none (.reg 14), none, none), (.bin .neq (.reg 13) (.reg 15), some 9, none)]) (.cond (.reg 9) (.seq (.region [(.mov (.con (.bool false)), some 4, none)]) (.ret)) (.skip))) (.seq (.seq (.region [(.fld 5 (.reg 2), none, none), (.load none (.reg 12), none, none), (.fld 5 (.reg 3), none, none), (.load none (.reg 14), none, none), (.bin .neq (.reg 13) (.reg 15), some 10, none)]) (.cond (.reg 10) (.seq (.region [(.mov (.con (.bool false)), some 4, none)]) (.ret)) (.skip))) (.seq (.seq (.region [(.fld 6 (.reg 2), none, none), (.load none (.reg 12), none, none), (.fld 6 (.reg 3), none, none), (.load none (.reg 14), none, none), (.bin .neq (.reg 13) (.reg 15), some 11, none)]) (.cond (.reg 11) (.seq (.region [(.mov (.con (.bool false)), some 4, none)]) (.ret)) (.skip))) (.seq (.region [(.mov (.con (.bool true)), some 4, none)]) (.ret))))))))) }
def s_laws_eqRuleS : List (Option Nat) := [some 0, some 1, some 4, some 5, some 10, some 14, some 26]
def l_laws_eqRuleS_0 : HCode := .seq (.seq (.region [(.mov (.reg 3), none, none), (.mov (.reg 0), none, none), (.len (.reg 8), none, none), (.bin .lss (.reg 7) (.reg 9), some 5, none)]) (.cond (.reg 5) (.skip) (.exit 0))) (.seq (.block 1 (.seq (.draw 10 [⟨0, .mov (.reg 0), none, none, [false, false, false, false, false, false, false, false, false, false], false⟩, ⟨1, .mov (.reg 3), none, none, [false, false, false, false, false, false, false, false, false, false], false⟩, ⟨2, .idx 7 (.reg 7) (.reg 8), none, none, [true, true, false, false, false, false, false, false, false, false], false⟩, ⟨3, .load (some 7) (.reg 9), none, none, [true, true, true, false, false, false, false, false, false, false], false⟩, ⟨4, .mov (.reg 1), none, none, [false, false, false, false, false, false, false, false, false, false], false⟩, ⟨5, .mov (.reg 3), none, none, [false, false, false, false, false, false, false, false, false, false], false⟩, ⟨6, .idx 7 (.reg 11) (.reg 12), none, none, [false, false, false, false, true, true, false, false, false, false], false⟩, ⟨7, .load (some 7) (.reg 13), none, none, [false, false, false, false, true, true, true, false, false, false], false⟩, ⟨8, .call n_laws_eqRule [.view, .view] false [.reg 10, .reg 14], none, none, [true, true, true, true, true, true, true, true, false, false], false⟩, ⟨9, .un .not (.reg 15), some 6, none, [true, true, true, true, true, true, true, true, true, false], true⟩]) (.cond (.reg 6) (.seq (.region [(.mov (.con (.bool false)), some 2, none)]) (.ret)) (.skip)))) (.region [(.mov (.reg 3), none, none), (.bin .add (.reg 7) (.con (.int .i64 1)), none, none), (.mov (.reg 8), some 3, none)]))
def h_laws_eqRuleS : HFunc := { np := 2, ns := 7, own := true, res := [(2, none)], body := .seq (.region [(.mov (.con (.bool false)), some 2, none)]) (.seq (.seq (.region [(.mov (.reg 0), none, none), (.len (.reg 7), none, none), (.mov (.reg 1), none, none), (.len (.reg 9), none, none), (.bin .neq (.reg 8) (.reg 10), some 4, none)]) (.cond (.reg 4) (.seq (.region [(.mov (.con (.bool false)), some 2, none)]) (.ret)) (.skip))) (.seq (.seq (.region [(.mov (.con (.int .i64 0)), some 3, none)]) (.block 0 (.loop [2, 4, 5, 6] l_laws_eqRuleS_0))) (.seq (.region [(.mov (.con (.bool true)), some 2, none)]) (.ret)))) }
def s_laws_eqConfig : List (Option Nat) := [some 0, some 1, some 2, some 3, some 4, some 9, some 14, some 20]
def h_laws_eqConfig : HFunc := { np := 2, ns := 8, own := true, res := [(4, none)], body := .seq (.region [(.box (.reg 0), some 2, none), (.box (.reg 1), some 3, none), (.mov (.con (.bool false)), some 4, none)]) (.seq (.seq (.region [(.fld 0 (.reg 2), none, none), (.load none (.reg 8), none, none), (.fld 0 (.reg 3), none, none), (.load none (.reg 10), none, none), (.bin .neq (.reg 9) (.reg 11), some 5, none)]) (.cond (.reg 5) (.seq (.region [(.mov (.con (.bool false)), some 4, none)]) (.ret)) (.skip))) (.seq (.seq (.region [(.fld 1 (.reg 2), none, none), (.load none (.reg 8), none, none), (.fld 1 (.reg 3), none, none), (.load none (.reg 10), none, none), (.bin .neq (.reg 9) (.reg 11), some 6, none)]) (.cond (.reg 6) (.seq (.region [(.mov (.con (.bool false)), some 4, none)]) (.ret)) (.skip))) (.seq (.seq (.region [(.fld 2 (.reg 2), none, none), (.load none (.reg 8), none, none), (.fld 2 (.reg 3), none, none), (.load none (.reg 10), none, none), (.call n_laws_eqRuleS [.view, .view] false [.reg 9, .reg 11], none, none), (.un .not (.reg 12), some 7, none)]) (.cond (.reg 7) (.seq (.region [(.mov (.con (.bool false)), some 4, none)]) (.ret)) (.skip))) (.seq (.region [(.mov (.con (.bool true)), some 4, none)]) (.ret))))) }
def s_laws_eqIntS : List (Option Nat) := [some 0, some 1, some 4, some 5, some 10, some 14, some 25]
def l_laws_eqIntS_0 : HCode := .seq (.seq (.region [(.mov (.reg 3), none, none), (.mov (.reg 0), none, none), (.len (.reg 8), none, none), (.bin .lss (.reg 7) (.reg 9), some 5, none)]) (.cond (.reg 5) (.skip) (.exit 0))) (.seq (.block 1 (.seq (.draw 9 [⟨0, .mov (.reg 0), none, none, [false, false, false, false, false, false, false, false, false], false⟩, ⟨1, .mov (.reg 3), none, none, [false, false, false, false, false, false, false, false, false], false⟩, ⟨2, .idx 1 (.reg 7) (.reg 8), none, none, [true, true, false, false, false, false, false, false, false], false⟩, ⟨3, .load none (.reg 9), none, none, [true, true, true, false, false, false, false, false, false], false⟩, ⟨4, .mov (.reg 1), none, none, [false, false, false, false, false, false, false, false, false], false⟩, ⟨5, .mov (.reg 3), none, none, [false, false, false, false, false, false, false, false, false], false⟩, ⟨6, .idx 1 (.reg 11) (.reg 12), none, none, [false, false, false, false, true, true, false, false, false], false⟩, ⟨7, .load none (.reg 13), none, none, [false, false, false, false, true, true, true, false, false], false⟩, ⟨8, .bin .neq (.reg 10) (.reg 14), some 6, none, [true, true, true, true, true, true, true, true, false], true⟩]) (.cond (.reg 6) (.seq (.region [(.mov (.con (.bool false)), some 2, none)]) (.ret)) (.skip)))) (.region [(.mov (.reg 3), none, none), (.bin .add (.reg 7) (.con (.int .i64 1)), none, none), (.mov (.reg 8), some 3, none)]))
def h_laws_eqIntS : HFunc := { np := 2, ns := 7, own := true, res := [(2, none)], body := .seq (.region [(.mov (.con (.bool false)), some 2, none)]) (.seq (.seq (.region [(.mov (.reg 0), none, none), (.len (.reg 7), none, none), (.mov (.reg 1), none, none), (.len (.reg 9), none, none), (.bin .neq (.reg 8) (.reg 10), some 4, none)]) (.cond (.reg 4) (.seq (.region [(.mov (.con (.bool false)), some 2, none)]) (.ret)) (.skip))) (.seq (.seq (.region [(.mov (.con (.int .i64 0)), some 3, none)]) (.block 0 (.loop [2, 4, 5, 6] l_laws_eqIntS_0))) (.seq (.region [(.mov (.con (.bool true)), some 2, none)]) (.ret)))) }
def s_laws_eqBoolS : List (Option Nat) := [some 0, some 1, some 4, some 5, some 10, some 14, some 25]
def l_laws_eqBoolS_0 : HCode := .seq (.seq (.region [(.mov (.reg 3), none, none), (.mov (.reg 0), none, none), (.len (.reg 8), none, none), (.bin .lss (.reg 7) (.reg 9), some 5, none)]) (.cond (.reg 5) (.skip) (.exit 0))) (.seq (.block 1 (.seq (.draw 9 [⟨0, .mov (.reg 0), none, none, [false, false, false, false, false, false, false, false, false], false⟩, ⟨1, .mov (.reg 3), none, none, [false, false, false, false, false, false, false, false, false], false⟩, ⟨2, .idx 1 (.reg 7) (.reg 8), none, none, [true, true, false, false, false, false, false, false, false], false⟩, ⟨3, .load none (.reg 9), none, none, [true, true, true, false, false, false, false, false, false], false⟩, ⟨4, .mov (.reg 1), none, none, [false, false, false, false, false, false, false, false, false], false⟩, ⟨5, .mov (.reg 3), none, none, [false, false, false, false, false, false, false, false, false], false⟩, ⟨6, .idx 1 (.reg 11) (.reg 12), none, none, [false, false, false, false, true, true, false, false, false], false⟩, ⟨7, .load none (.reg 13), none, none, [false, false, false, false, true, true, true, false, false], false⟩, ⟨8, .beq true (.reg 10) (.reg 14), some 6, none, [true, true, true, true, true, true, true, true, false], true⟩]) (.cond (.reg 6) (.seq (.region [(.mov (.con (.bool false)), some 2, none)]) (.ret)) (.skip)))) (.region [(.mov (.reg 3), none, none), (.bin .add (.reg 7) (.con (.int .i64 1)), none, none), (.mov (.reg 8), some 3, none)]))
def h_laws_eqBoolS : HFunc := { np := 2, ns := 7, own := true, res := [(2, none)], body := .seq (.region [(.mov (.con (.bool false)), some 2, none)]) (.seq (.seq (.region [(.mov (.reg 0), none, none), (.len (.reg 7), none, none), (.mov (.reg 1), none, none), (.len (.reg 9), none, none), (.bin .neq (.reg 8) (.reg 10), some 4, none)]) (.cond (.reg 4) (.seq (.region [(.mov (.con (.bool false)), some 2, none)]) (.ret)) (.skip))) (.seq (.seq (.region [(.mov (.con (.int .i64 0)), some 3, none)]) (.block 0 (.loop [2, 4, 5, 6] l_laws_eqBoolS_0))) (.seq (.region [(.mov (.con (.bool true)), some 2, none)]) (.ret)))) }
def s_laws_eqReq : List (Option Nat) := [some 0, some 1, some 2, some 3, some 4, some 9, some 14, some 19, some 25, some 31, some 36]
def h_laws_eqReq : HFunc := { np := 2, ns := 11, own := true, res := [(4, none)], body := .seq (.region [(.box (.reg 0), some 2, none), (.box (.reg 1), some 3, none), (.mov (.con (.bool false)), some 4, none)]) (.seq (.seq (.region [(.fld 0 (.reg 2), none, none), (.load none (.reg 11), none, none), (.fld 0 (.reg 3), none, none), (.load none (.reg 13), none, none), (.bin .neq (.reg 12) (.reg 14), some 5, none)]) (.cond (.reg 5) (.seq (.region [(.mov (.con (.bool false)), some 4, none)]) (.ret)) (.skip))) (.seq (.seq (.region [(.fld 1 (.reg 2), none, none), (.load none (.reg 11), none, none), (.fld 1 (.reg 3), none, none), (.load none (.reg 13), none, none), (.bin .neq (.reg 12) (.reg 14), some 6, none)]) (.cond (.reg 6) (.seq (.region [(.mov (.con (.bool false)), some 4, none)]) (.ret)) (.skip))) (.seq (.seq (.region [(.fld 2 (.reg 2), none, none), (.load none (.reg 11), none, none), (.fld 2 (.reg 3), none, none), (.load none (.reg 13), none, none), (.bin .neq (.reg 12) (.reg 14), some 7, none)]) (.cond (.reg 7) (.seq (.region [(.mov (.con (.bool false)), some 4, none)]) (.ret)) (.skip))) (.seq (.seq (.region [(.fld 3 (.reg 2), none, none), (.load none (.reg 11), none, none), (.fld 3 (.reg 3), none, none), (.load none (.reg 13), none, none), (.call n_laws_eqIntS [.view, .view] false [.reg 12, .reg 14], none, none), (.un .not (.reg 15), some 8, none)]) (.cond (.reg 8) (.seq (.region [(.mov (.con (.bool false)), some 4, none)]) (.ret)) (.skip))) (.seq (.seq (.region [(.fld 4 (.reg 2), none, none), (.load none (.reg 11), none, none), (.fld 4 (.reg 3), none, none), (.load none (.reg 13), none, none), (.call n_laws_eqBoolS [.view, .view] false [.reg 12, .reg 14], none, none), (.un .not (.reg 15), some 9, none)]) (.cond (.reg 9) (.seq (.region [(.mov (.con (.bool false)), some 4, none)]) (.ret)) (.skip))) (.seq (.seq (.region [(.fld 5 (.reg 2), none, none), (.load none (.reg 11), none, none), (.fld 5 (.reg 3), none, none), (.load none (.reg 13), none, none), (.bin .neq (.reg 12) (.reg 14), some 10, none)]) (.cond (.reg 10) (.seq (.region [(.mov (.con (.bool false)), some 4, none)]) (.ret)) (.skip))) (.seq (.region [(.mov (.con (.bool true)), some 4, none)]) (.ret)))))))) }
def s_laws_eqPart : List (Option Nat) := [some 0, some 1, some 2, some 3, some 4, some 9, some 14, some 20]
def h_laws_eqPart : HFunc := { np := 2, ns := 8, own := true, res := [(4, none)], body := .seq (.region [(.box (.reg 0), some 2, none), (.box (.reg 1), some 3, none), (.mov (.con (.bool false)), some 4, none)]) (.seq (.seq (.region [(.fld 0 (.reg 2), none, none), (.load none (.reg 8), none, none), (.fld 0 (.reg 3), none, none), (.load none (.reg 10), none, none), (.bin .neq (.reg 9) (.reg 11), some 5, none)]) (.cond (.reg 5) (.seq (.region [(.mov (.con (.bool false)), some 4, none)]) (.ret)) (.skip))) (.seq (.seq (.region [(.fld 1 (.reg 2), none, none), (.load none (.reg 8), none, none), (.fld 1 (.reg 3), none, none), (.load none (.reg 10), none, none), (.bin .neq (.reg 9) (.reg 11), some 6, none)]) (.cond (.reg 6) (.seq (.region [(.mov (.con (.bool false)), some 4, none)]) (.ret)) (.skip))) (.seq (.seq (.region [(.fld 2 (.reg 2), none, none), (.load (some 6) (.reg 8), none, none), (.fld 2 (.reg 3), none, none), (.load (some 6) (.reg 10), none, none), (.call n_laws_eqReq [.view, .view] false [.reg 9, .reg 11], none, none), (.un .not (.reg 12), some 7, none)]) (.cond (.reg 7) (.seq (.region [(.mov (.con (.bool false)), some 4, none)]) (.ret)) (.skip))) (.seq (.region [(.mov (.con (.bool true)), some 4, none)]) (.ret))))) }
def s_laws_eqPartS : List (Option Nat) := [some 0, some 1, some 4, some 5, some 10, some 14, some 26]
def l_laws_eqPartS_0 : HCode := .seq (.seq (.region [(.mov (.reg 3), none, none), (.mov (.reg 0), none, none), (.len (.reg 8), none, none), (.bin .lss (.reg 7) (.reg 9), some 5, none)]) (.cond (.reg 5) (.skip) (.exit 0))) (.seq (.block 1 (.seq (.draw 10 [⟨0, .mov (.reg 0), none, none, [false, false, false, false, false, false, false, false, false, false], false⟩, ⟨1, .mov (.reg 3), none, none, [false, false, false, false, false, false, false, false, false, false], false⟩, ⟨2, .idx 8 (.reg 7) (.reg 8), none, none, [true, true, false, false, false, false, false, false, false, false], false⟩, ⟨3, .load (some 8) (.reg 9), none, none, [true, true, true, false, false, false, false, false, false, false], false⟩, ⟨4, .mov (.reg 1), none, none, [false, false, false, false, false, false, false, false, false, false], false⟩, ⟨5, .mov (.reg 3), none, none, [false, false, false, false, false, false, false, false, false, false], false⟩, ⟨6, .idx 8 (.reg 11) (.reg 12), none, none, [false, false, false, false, true, true, false, false, false, false], false⟩, ⟨7, .load (some 8) (.reg 13), none, none, [false, false, false, false, true, true, true, false, false, false], false⟩, ⟨8, .call n_laws_eqPart [.view, .view] false [.reg 10, .reg 14], none, none, [true, true, true, true, true, true, true, true, false, false], false⟩, ⟨9, .un .not (.reg 15), some 6, none, [true, true, true, true, true, true, true, true, true, false], true⟩]) (.cond (.reg 6) (.seq (.region [(.mov (.con (.bool false)), some 2, none)]) (.ret)) (.skip)))) (.region [(.mov (.reg 3), none, none), (.bin .add (.reg 7) (.con (.int .i64 1)), none, none), (.mov (.reg 8), some 3, none)]))
def h_laws_eqPartS : HFunc := { np := 2, ns := 7, own := true, res := [(2, none)], body := .seq (.region [(.mov (.con (.bool false)), some 2, none)]) (.seq (.seq (.region [(.mov (.reg 0), none, none), (.len (.reg 7), none, none), (.mov (.reg 1), none, none), (.len (.reg 9), none, none), (.bin .neq (.reg 8) (.reg 10), some 4, none)]) (.cond (.reg 4) (.seq (.region [(.mov (.con (.bool false)), some 2, none)]) (.ret)) (.skip))) (.seq (.seq (.region [(.mov (.con (.int .i64 0)), some 3, none)]) (.block 0 (.loop [2, 4, 5, 6] l_laws_eqPartS_0))) (.seq (.region [(.mov (.con (.bool true)), some 2, none)]) (.ret)))) }
def s_laws_eqResp : List (Option Nat) := [some 0, some 1, some 2, some 3, some 4, some 9, some 14, some 19, some 24, some 30, some 36]
def h_laws_eqResp : HFunc := { np := 2, ns := 11, own := true, res := [(4, none)], body := .seq (.region [(.box (.reg 0), some 2, none), (.box (.reg 1), some 3, none), (.mov (.con (.bool false)), some 4, none)]) (.seq (.seq (.region [(.fld 0 (.reg 2), none, none), (.load none (.reg 11), none, none), (.fld 0 (.reg 3), none, none), (.load none (.reg 13), none, none), (.bin .neq (.reg 12) (.reg 14), some 5, none)]) (.cond (.reg 5) (.seq (.region [(.mov (.con (.bool false)), some 4, none)]) (.ret)) (.skip))) (.seq (.seq (.region [(.fld 1 (.reg 2), none, none), (.load none (.reg 11), none, none), (.fld 1 (.reg 3), none, none), (.load none (.reg 13), none, none), (.bin .neq (.reg 12) (.reg 14), some 6, none)]) (.cond (.reg 6) (.seq (.region [(.mov (.con (.bool false)), some 4, none)]) (.ret)) (.skip))) (.seq (.seq (.region [(.fld 2 (.reg 2), none, none), (.load none (.reg 11), none, none), (.fld 2 (.reg 3), none, none), (.load none (.reg 13), none, none), (.bin .neq (.reg 12) (.reg 14), some 7, none)]) (.cond (.reg 7) (.seq (.region [(.mov (.con (.bool false)), some 4, none)]) (.ret)) (.skip))) (.seq (.seq (.region [(.fld 3 (.reg 2), none, none), (.load none (.reg 11), none, none), (.fld 3 (.reg 3), none, none), (.load none (.reg 13), none, none), (.bin .neq (.reg 12) (.reg 14), some 8, none)]) (.cond (.reg 8) (.seq (.region [(.mov (.con (.bool false)), some 4, none)]) (.ret)) (.skip))) (.seq (.seq (.region [(.fld 4 (.reg 2), none, none), (.load none (.reg 11), none, none), (.fld 4 (.reg 3), none, none), (.load none (.reg 13), none, none), (.call n_laws_eqIntS [.view, .view] false [.reg 12, .reg 14], none, none), (.un .not (.reg 15), some 9, none)]) (.cond (.reg 9) (.seq (.region [(.mov (.con (.bool false)), some 4, none)]) (.ret)) (.skip))) (.seq (.seq (.region [(.fld 5 (.reg 2), none, none), (.load none (.reg 11), none, none), (.fld 5 (.reg 3), none, none), (.load none (.reg 13), none, none), (.call n_laws_eqBoolS [.view, .view] false [.reg 12, .reg 14], none, none), (.un .not (.reg 15), some 10, none)]) (.cond (.reg 10) (.seq (.region [(.mov (.con (.bool false)), some 4, none)]) (.ret)) (.skip))) (.seq (.region [(.mov (.con (.bool true)), some 4, none)]) (.ret)))))))) }
def s_laws_eqRespS : List (Option Nat) := [some 0, some 1, some 4, some 5, some 10, some 14, some 26]
def l_laws_eqRespS_0 : HCode := .seq (.seq (.region [(.mov (.reg 3), none, none), (.mov (.reg 0), none, none), (.len (.reg 8), none, none), (.bin .lss (.reg 7) (.reg 9), some 5, none)]) (.cond (.reg 5) (.skip) (.exit 0))) (.seq (.block 1 (.seq (.draw 10 [⟨0, .mov (.reg 0), none, none, [false, false, false, false, false, false, false, false, false, false], false⟩, ⟨1, .mov (.reg 3), none, none, [false, false, false, false, false, false, false, false, false, false], false⟩, ⟨2, .idx 6 (.reg 7) (.reg 8), none, none, [true, true, false, false, false, false, false, false, false, false], false⟩, ⟨3, .load (some 6) (.reg 9), none, none, [true, true, true, false, false, false, false, false, false, false], false⟩, ⟨4, .mov (.reg 1), none, none, [false, false, false, false, false, false, false, false, false, false], false⟩, ⟨5, .mov (.reg 3), none, none, [false, false, false, false, false, false, false, false, false, false], false⟩, ⟨6, .idx 6 (.reg 11) (.reg 12), none, none, [false, false, false, false, true, true, false, false, false, false], false⟩, ⟨7, .load (some 6) (.reg 13), none, none, [false, false, false, false, true, true, true, false, false, false], false⟩, ⟨8, .call n_laws_eqResp [.view, .view] false [.reg 10, .reg 14], none, none, [true, true, true, true, true, true, true, true, false, false], false⟩, ⟨9, .un .not (.reg 15), some 6, none, [true, true, true, true, true, true, true, true, true, false], true⟩]) (.cond (.reg 6) (.seq (.region [(.mov (.con (.bool false)), some 2, none)]) (.ret)) (.skip)))) (.region [(.mov (.reg 3), none, none), (.bin .add (.reg 7) (.con (.int .i64 1)), none, none), (.mov (.reg 8), some 3, none)]))
def h_laws_eqRespS : HFunc := { np := 2, ns := 7, own := true, res := [(2, none)], body := .seq (.region [(.mov (.con (.bool false)), some 2, none)]) (.seq (.seq (.region [(.mov (.reg 0), none, none), (.len (.reg 7), none, none), (.mov (.reg 1), none, none), (.len (.reg 9), none, none), (.bin .neq (.reg 8) (.reg 10), some 4, none)]) (.cond (.reg 4) (.seq (.region [(.mov (.con (.bool false)), some 2, none)]) (.ret)) (.skip))) (.seq (.seq (.region [(.mov (.con (.int .i64 0)), some 3, none)]) (.block 0 (.loop [2, 4, 5, 6] l_laws_eqRespS_0))) (.seq (.region [(.mov (.con (.bool true)), some 2, none)]) (.ret)))) }
def s_laws_eqPend : List (Option Nat) := [some 0, some 1, some 2, some 3, some 4, some 9, some 14, some 19, some 24, some 30, some 36, some 42, some 48]
def h_laws_eqPend : HFunc := { np := 2, ns := 13, own := true, res := [(4, none)], body := .seq (.region [(.box (.reg 0), some 2, none), (.box (.reg 1), some 3, none), (.mov (.con (.bool false)), some 4, none)]) (.seq (.seq (.region [(.fld 0 (.reg 2), none, none), (.load none (.reg 13), none, none), (.fld 0 (.reg 3), none, none), (.load none (.reg 15), none, none), (.bin .neq (.reg 14) (.reg 16), some 5, none)]) (.cond (.reg 5) (.seq (.region [(.mov (.con (.bool false)), some 4, none)]) (.ret)) (.skip))) (.seq (.seq (.region [(.fld 1 (.reg 2), none, none), (.load none (.reg 13), none, none), (.fld 1 (.reg 3), none, none), (.load none (.reg 15), none, none), (.bin .neq (.reg 14) (.reg 16), some 6, none)]) (.cond (.reg 6) (.seq (.region [(.mov (.con (.bool false)), some 4, none)]) (.ret)) (.skip))) (.seq (.seq (.region [(.fld 2 (.reg 2), none, none), (.load none (.reg 13), none, none), (.fld 2 (.reg 3), none, none), (.load none (.reg 15), none, none), (.bin .neq (.reg 14) (.reg 16), some 7, none)]) (.cond (.reg 7) (.seq (.region [(.mov (.con (.bool false)), some 4, none)]) (.ret)) (.skip))) (.seq (.seq (.region [(.fld 3 (.reg 2), none, none), (.load none (.reg 13), none, none), (.fld 3 (.reg 3), none, none), (.load none (.reg 15), none, none), (.bin .neq (.reg 14) (.reg 16), some 8, none)]) (.cond (.reg 8) (.seq (.region [(.mov (.con (.bool false)), some 4, none)]) (.ret)) (.skip))) (.seq (.seq (.region [(.fld 4 (.reg 2), none, none), (.load (some 6) (.reg 13), none, none), (.fld 4 (.reg 3), none, none), (.load (some 6) (.reg 15), none, none), (.call n_laws_eqReq [.view, .view] false [.reg 14, .reg 16], none, none), (.un .not (.reg 17), some 9, none)]) (.cond (.reg 9) (.seq (.region [(.mov (.con (.bool false)), some 4, none)]) (.ret)) (.skip))) (.seq (.seq (.region [(.fld 10 (.reg 2), none, none), (.load none (.reg 13), none, none), (.fld 10 (.reg 3), none, none), (.load none (.reg 15), none, none), (.call n_laws_eqPartS [.view, .view] false [.reg 14, .reg 16], none, none), (.un .not (.reg 17), some 10, none)]) (.cond (.reg 10) (.seq (.region [(.mov (.con (.bool false)), some 4, none)]) (.ret)) (.skip))) (.seq (.seq (.region [(.fld 11 (.reg 2), none, none), (.load none (.reg 13), none, none), (.fld 11 (.reg 3), none, none), (.load none (.reg 15), none, none), (.call n_laws_eqBoolS [.view, .view] false [.reg 14, .reg 16], none, none), (.un .not (.reg 17), some 11, none)]) (.cond (.reg 11) (.seq (.region [(.mov (.con (.bool false)), some 4, none)]) (.ret)) (.skip))) (.seq (.seq (.region [(.fld 12 (.reg 2), none, none), (.load none (.reg 13), none, none), (.fld 12 (.reg 3), none, none), (.load none (.reg 15), none, none), (.call n_laws_eqRespS [.view, .view] false [.reg 14, .reg 16], none, none), (.un .not (.reg 17), some 12, none)]) (.cond (.reg 12) (.seq (.region [(.mov (.con (.bool false)), some 4, none)]) (.ret)) (.skip))) (.seq (.region [(.mov (.con (.bool true)), some 4, none)]) (.ret)))))))))) }
def s_laws_eqPendS : List (Option Nat) := [some 0, some 1, some 4, some 5, some 10, some 14, some 26]
def l_laws_eqPendS_0 : HCode := .seq (.seq (.region [(.mov (.reg 3), none, none), (.mov (.reg 0), none, none), (.len (.reg 8), none, none), (.bin .lss (.reg 7) (.reg 9), some 5, none)]) (.cond (.reg 5) (.skip) (.exit 0))) (.seq (.block 1 (.seq (.draw 10 [⟨0, .mov (.reg 0), none, none, [false, false, false, false, false, false, false, false, false, false], false⟩, ⟨1, .mov (.reg 3), none, none, [false, false, false, false, false, false, false, false, false, false], false⟩, ⟨2, .idx 13 (.reg 7) (.reg 8), none, none, [true, true, false, false, false, false, false, false, false, false], false⟩, ⟨3, .load (some 13) (.reg 9), none, none, [true, true, true, false, false, false, false, false, false, false], false⟩, ⟨4, .mov (.reg 1), none, none, [false, false, false, false, false, false, false, false, false, false], false⟩, ⟨5, .mov (.reg 3), none, none, [false, false, false, false, false, false, false, false, false, false], false⟩, ⟨6, .idx 13 (.reg 11) (.reg 12), none, none, [false, false, false, false, true, true, false, false, false, false], false⟩, ⟨7, .load (some 13) (.reg 13), none, none, [false, false, false, false, true, true, true, false, false, false], false⟩, ⟨8, .call n_laws_eqPend [.view, .view] false [.reg 10, .reg 14], none, none, [true, true, true, true, true, true, true, true, false, false], false⟩, ⟨9, .un .not (.reg 15), some 6, none, [true, true, true, true, true, true, true, true, true, false], true⟩]) (.cond (.reg 6) (.seq (.region [(.mov (.con (.bool false)), some 2, none)]) (.ret)) (.skip)))) (.region [(.mov (.reg 3), none, none), (.bin .add (.reg 7) (.con (.int .i64 1)), none, none), (.mov (.reg 8), some 3, none)]))
def h_laws_eqPendS : HFunc := { np := 2, ns := 7, own := true, res := [(2, none)], body := .seq (.region [(.mov (.con (.bool false)), some 2, none)]) (.seq (.seq (.region [(.mov (.reg 0), none, none), (.len (.reg 7), none, none), (.mov (.reg 1), none, none), (.len (.reg 9), none, none), (.bin .neq (.reg 8) (.reg 10), some 4, none)]) (.cond (.reg 4) (.seq (.region [(.mov (.con (.bool false)), some 2, none)]) (.ret)) (.skip))) (.seq (.seq (.region [(.mov (.con (.int .i64 0)), some 3, none)]) (.block 0 (.loop [2, 4, 5, 6] l_laws_eqPendS_0))) (.seq (.region [(.mov (.con (.bool true)), some 2, none)]) (.ret)))) }
def s_laws_eqTable : List (Option Nat) := [some 0, some 1, some 2, some 3, some 4, some 9, some 15]
def h_laws_eqTable : HFunc := { np := 2, ns := 7, own := true, res := [(4, none)], body := .seq (.region [(.box (.reg 0), some 2, none), (.box (.reg 1), some 3, none), (.mov (.con (.bool false)), some 4, none)]) (.seq (.seq (.region [(.fld 0 (.reg 2), none, none), (.load none (.reg 7), none, none), (.fld 0 (.reg 3), none, none), (.load none (.reg 9), none, none), (.bin .neq (.reg 8) (.reg 10), some 5, none)]) (.cond (.reg 5) (.seq (.region [(.mov (.con (.bool false)), some 4, none)]) (.ret)) (.skip))) (.seq (.seq (.region [(.fld 1 (.reg 2), none, none), (.load none (.reg 7), none, none), (.fld 1 (.reg 3), none, none), (.load none (.reg 9), none, none), (.call n_laws_eqPendS [.view, .view] false [.reg 8, .reg 10], none, none), (.un .not (.reg 11), some 6, none)]) (.cond (.reg 6) (.seq (.region [(.mov (.con (.bool false)), some 4, none)]) (.ret)) (.skip))) (.seq (.region [(.mov (.con (.bool true)), some 4, none)]) (.ret)))) }
def s_laws_eqCall : List (Option Nat) := [some 0, some 1, some 2, some 3, some 4, some 9, some 14, some 19, some 25]
def h_laws_eqCall : HFunc := { np := 2, ns := 9, own := true, res := [(4, none)], body := .seq (.region [(.box (.reg 0), some 2, none), (.box (.reg 1), some 3, none), (.mov (.con (.bool false)), some 4, none)]) (.seq (.seq (.region [(.fld 0 (.reg 2), none, none), (.load none (.reg 9), none, none), (.fld 0 (.reg 3), none, none), (.load none (.reg 11), none, none), (.bin .neq (.reg 10) (.reg 12), some 5, none)]) (.cond (.reg 5) (.seq (.region [(.mov (.con (.bool false)), some 4, none)]) (.ret)) (.skip))) (.seq (.seq (.region [(.fld 1 (.reg 2), none, none), (.load none (.reg 9), none, none), (.fld 1 (.reg 3), none, none), (.load none (.reg 11), none, none), (.bin .neq (.reg 10) (.reg 12), some 6, none)]) (.cond (.reg 6) (.seq (.region [(.mov (.con (.bool false)), some 4, none)]) (.ret)) (.skip))) (.seq (.seq (.region [(.fld 2 (.reg 2), none, none), (.load none (.reg 9), none, none), (.fld 2 (.reg 3), none, none), (.load none (.reg 11), none, none), (.bin .neq (.reg 10) (.reg 12), some 7, none)]) (.cond (.reg 7) (.seq (.region [(.mov (.con (.bool false)), some 4, none)]) (.ret)) (.skip))) (.seq (.seq (.region [(.fld 3 (.reg 2), none, none), (.load (some 6) (.reg 9), none, none), (.fld 3 (.reg 3), none, none), (.load (some 6) (.reg 11), none, none), (.call n_laws_eqReq [.view, .view] false [.reg 10, .reg 12], none, none), (.un .not (.reg 13), some 8, none)]) (.cond (.reg 8) (.seq (.region [(.mov (.con (.bool false)), some 4, none)]) (.ret)) (.skip))) (.seq (.region [(.mov (.con (.bool true)), some 4, none)]) (.ret)))))) }
def s_laws_eqCallS : List (Option Nat) := [some 0, some 1, some 4, some 5, some 10, some 14, some 26]
def l_laws_eqCallS_0 : HCode := .seq (.seq (.region [(.mov (.reg 3), none, none), (.mov (.reg 0), none, none), (.len (.reg 8), none, none), (.bin .lss (.reg 7) (.reg 9), some 5, none)]) (.cond (.reg 5) (.skip) (.exit 0))) (.seq (.block 1 (.seq (.draw 10 [⟨0, .mov (.reg 0), none, none, [false, false, false, false, false, false, false, false, false, false], false⟩, ⟨1, .mov (.reg 3), none, none, [false, false, false, false, false, false, false, false, false, false], false⟩, ⟨2, .idx 9 (.reg 7) (.reg 8), none, none, [true, true, false, false, false, false, false, false, false, false], false⟩, ⟨3, .load (some 9) (.reg 9), none, none, [true, true, true, false, false, false, false, false, false, false], false⟩, ⟨4, .mov (.reg 1), none, none, [false, false, false, false, false, false, false, false, false, false], false⟩, ⟨5, .mov (.reg 3), none, none, [false, false, false, false, false, false, false, false, false, false], false⟩, ⟨6, .idx 9 (.reg 11) (.reg 12), none, none, [false, false, false, false, true, true, false, false, false, false], false⟩, ⟨7, .load (some 9) (.reg 13), none, none, [false, false, false, false, true, true, true, false, false, false], false⟩, ⟨8, .call n_laws_eqCall [.view, .view] false [.reg 10, .reg 14], none, none, [true, true, true, true, true, true, true, true, false, false], false⟩, ⟨9, .un .not (.reg 15), some 6, none, [true, true, true, true, true, true, true, true, true, false], true⟩]) (.cond (.reg 6) (.seq (.region [(.mov (.con (.bool false)), some 2, none)]) (.ret)) (.skip)))) (.region [(.mov (.reg 3), none, none), (.bin .add (.reg 7) (.con (.int .i64 1)), none, none), (.mov (.reg 8), some 3, none)]))
def h_laws_eqCallS : HFunc := { np := 2, ns := 7, own := true, res := [(2, none)], body := .seq (.region [(.mov (.con (.bool false)), some 2, none)]) (.seq (.seq (.region [(.mov (.reg 0), none, none), (.len (.reg 7), none, none), (.mov (.reg 1), none, none), (.len (.reg 9), none, none), (.bin .neq (.reg 8) (.reg 10), some 4, none)]) (.cond (.reg 4) (.seq (.region [(.mov (.con (.bool false)), some 2, none)]) (.ret)) (.skip))) (.seq (.seq (.region [(.mov (.con (.int .i64 0)), some 3, none)]) (.block 0 (.loop [2, 4, 5, 6] l_laws_eqCallS_0))) (.seq (.region [(.mov (.con (.bool true)), some 2, none)]) (.ret)))) }
def s_laws_eqLine : List (Option Nat) := [some 0, some 1, some 2, some 3, some 4, some 10, some 15, some 21, some 26, some 31, some 36, some 41, some 46, some 51]
def h_laws_eqLine : HFunc := { np := 2, ns := 14, own := true, res := [(4, none)], body := .seq (.region [(.box (.reg 0), some 2, none), (.box (.reg 1), some 3, none), (.mov (.con (.bool false)), some 4, none)]) (.seq (.seq (.region [(.fld 0 (.reg 2), none, none), (.load none (.reg 14), none, none), (.fld 0 (.reg 3), none, none), (.load none (.reg 16), none, none), (.call n_laws_eqCallS [.view, .view] false [.reg 15, .reg 17], none, none), (.un .not (.reg 18), some 5, none)]) (.cond (.reg 5) (.seq (.region [(.mov (.con (.bool false)), some 4, none)]) (.ret)) (.skip))) (.seq (.seq (.region [(.fld 1 (.reg 2), none, none), (.load none (.reg 14), none, none), (.fld 1 (.reg 3), none, none), (.load none (.reg 16), none, none), (.beq true (.reg 15) (.reg 17), some 6, none)]) (.cond (.reg 6) (.seq (.region [(.mov (.con (.bool false)), some 4, none)]) (.ret)) (.skip))) (.seq (.seq (.region [(.fld 2 (.reg 2), none, none), (.load (some 9) (.reg 14), none, none), (.fld 2 (.reg 3), none, none), (.load (some 9) (.reg 16), none, none), (.call n_laws_eqCall [.view, .view] false [.reg 15, .reg 17], none, none), (.un .not (.reg 18), some 7, none)]) (.cond (.reg 7) (.seq (.region [(.mov (.con (.bool false)), some 4, none)]) (.ret)) (.skip))) (.seq (.seq (.region [(.fld 11 (.reg 2), none, none), (.load none (.reg 14), none, none), (.fld 11 (.reg 3), none, none), (.load none (.reg 16), none, none), (.bin .neq (.reg 15) (.reg 17), some 8, none)]) (.cond (.reg 8) (.seq (.region [(.mov (.con (.bool false)), some 4, none)]) (.ret)) (.skip))) (.seq (.seq (.region [(.fld 12 (.reg 2), none, none), (.load none (.reg 14), none, none), (.fld 12 (.reg 3), none, none), (.load none (.reg 16), none, none), (.bin .neq (.reg 15) (.reg 17), some 9, none)]) (.cond (.reg 9) (.seq (.region [(.mov (.con (.bool false)), some 4, none)]) (.ret)) (.skip))) (.seq (.seq (.region [(.fld 13 (.reg 2), none, none), (.load none (.reg 14), none, none), (.fld 13 (.reg 3), none, none), (.load none (.reg 16), none, none), (.bin .neq (.reg 15) (.reg 17), some 10, none)]) (.cond (.reg 10) (.seq (.region [(.mov (.con (.bool false)), some 4, none)]) (.ret)) (.skip))) (.seq (.seq (.region [(.fld 14 (.reg 2), none, none), (.load none (.reg 14), none, none), (.fld 14 (.reg 3), none, none), (.load none (.reg 16), none, none), (.bin .neq (.reg 15) (.reg 17), some 11, none)]) (.cond (.reg 11) (.seq (.region [(.mov (.con (.bool false)), some 4, none)]) (.ret)) (.skip))) (.seq (.seq (.region [(.fld 15 (.reg 2), none, none), (.load none (.reg 14), none, none), (.fld 15 (.reg 3), none, none), (.load none (.reg 16), none, none), (.bin .neq (.reg 15) (.reg 17), some 12, none)]) (.cond (.reg 12) (.seq (.region [(.mov (.con (.bool false)), some 4, none)]) (.ret)) (.skip))) (.seq (.seq (.region [(.fld 16 (.reg 2), none, none), (.load none (.reg 14), none, none), (.fld 16 (.reg 3), none, none), (.load none (.reg 16), none, none), (.bin .neq (.reg 15) (.reg 17), some 13, none)]) (.cond (.reg 13) (.seq (.region [(.mov (.con (.bool false)), some 4, none)]) (.ret)) (.skip))) (.seq (.region [(.mov (.con (.bool true)), some 4, none)]) (.ret))))))))))) }
def s_laws_eqLineS : List (Option Nat) := [some 0, some 1, some 4, some 5, some 10, some 14, some 26]
def l_laws_eqLineS_0 : HCode := .seq (.seq (.region [(.mov (.reg 3), none, none), (.mov (.reg 0), none, none), (.len (.reg 8), none, none), (.bin .lss (.reg 7) (.reg 9), some 5, none)]) (.cond (.reg 5) (.skip) (.exit 0))) (.seq (.block 1 (.seq (.draw 10 [⟨0, .mov (.reg 0), none, none, [false, false, false, false, false, false, false, false, false, false], false⟩, ⟨1, .mov (.reg 3), none, none, [false, false, false, false, false, false, false, false, false, false], false⟩, ⟨2, .idx 17 (.reg 7) (.reg 8), none, none, [true, true, false, false, false, false, false, false, false, false], false⟩, ⟨3, .load (some 17) (.reg 9), none, none, [true, true, true, false, false, false, false, false, false, false], false⟩, ⟨4, .mov (.reg 1), none, none, [false, false, false, false, false, false, false, false, false, false], false⟩, ⟨5, .mov (.reg 3), none, none, [false, false, false, false, false, false, false, false, false, false], false⟩, ⟨6, .idx 17 (.reg 11) (.reg 12), none, none, [false, false, false, false, true, true, false, false, false, false], false⟩, ⟨7, .load (some 17) (.reg 13), none, none, [false, false, false, false, true, true, true, false, false, false], false⟩, ⟨8, .call n_laws_eqLine [.view, .view] false [.reg 10, .reg 14], none, none, [true, true, true, true, true, true, true, true, false, false], false⟩, ⟨9, .un .not (.reg 15), some 6, none, [true, true, true, true, true, true, true, true, true, false], true⟩]) (.cond (.reg 6) (.seq (.region [(.mov (.con (.bool false)), some 2, none)]) (.ret)) (.skip)))) (.region [(.mov (.reg 3), none, none), (.bin .add (.reg 7) (.con (.int .i64 1)), none, none), (.mov (.reg 8), some 3, none)]))
def h_laws_eqLineS : HFunc := { np := 2, ns := 7, own := true, res := [(2, none)], body := .seq (.region [(.mov (.con (.bool false)), some 2, none)]) (.seq (.seq (.region [(.mov (.reg 0), none, none), (.len (.reg 7), none, none), (.mov (.reg 1), none, none), (.len (.reg 9), none, none), (.bin .neq (.reg 8) (.reg 10), some 4, none)]) (.cond (.reg 4) (.seq (.region [(.mov (.con (.bool false)), some 2, none)]) (.ret)) (.skip))) (.seq (.seq (.region [(.mov (.con (.int .i64 0)), some 3, none)]) (.block 0 (.loop [2, 4, 5, 6] l_laws_eqLineS_0))) (.seq (.region [(.mov (.con (.bool true)), some 2, none)]) (.ret)))) }
def s_laws_eqFabric : List (Option Nat) := [some 0, some 1, some 2, some 3, some 4, some 9, some 15, some 21, some 27, some 32, some 37, some 42, some 47]
def h_laws_eqFabric : HFunc := { np := 2, ns := 13, own := true, res := [(4, none)], body := .seq (.region [(.box (.reg 0), some 2, none), (.box (.reg 1), some 3, none), (.mov (.con (.bool false)), some 4, none)]) (.seq (.seq (.region [(.fld 0 (.reg 2), none, none), (.load none (.reg 13), none, none), (.fld 0 (.reg 3), none, none), (.load none (.reg 15), none, none), (.bin .neq (.reg 14) (.reg 16), some 5, none)]) (.cond (.reg 5) (.seq (.region [(.mov (.con (.bool false)), some 4, none)]) (.ret)) (.skip))) (.seq (.seq (.region [(.fld 1 (.reg 2), none, none), (.load (some 3) (.reg 13), none, none), (.fld 1 (.reg 3), none, none), (.load (some 3) (.reg 15), none, none), (.call n_laws_eqConfig [.view, .view] false [.reg 14, .reg 16], none, none), (.un .not (.reg 17), some 6, none)]) (.cond (.reg 6) (.seq (.region [(.mov (.con (.bool false)), some 4, none)]) (.ret)) (.skip))) (.seq (.seq (.region [(.fld 4 (.reg 2), none, none), (.load (some 2) (.reg 13), none, none), (.fld 4 (.reg 3), none, none), (.load (some 2) (.reg 15), none, none), (.call n_laws_eqTable [.view, .view] false [.reg 14, .reg 16], none, none), (.un .not (.reg 17), some 7, none)]) (.cond (.reg 7) (.seq (.region [(.mov (.con (.bool false)), some 4, none)]) (.ret)) (.skip))) (.seq (.seq (.region [(.fld 6 (.reg 2), none, none), (.load none (.reg 13), none, none), (.fld 6 (.reg 3), none, none), (.load none (.reg 15), none, none), (.call n_laws_eqLineS [.view, .view] false [.reg 14, .reg 16], none, none), (.un .not (.reg 17), some 8, none)]) (.cond (.reg 8) (.seq (.region [(.mov (.con (.bool false)), some 4, none)]) (.ret)) (.skip))) (.seq (.seq (.region [(.fld 7 (.reg 2), none, none), (.load none (.reg 13), none, none), (.fld 7 (.reg 3), none, none), (.load none (.reg 15), none, none), (.bin .neq (.reg 14) (.reg 16), some 9, none)]) (.cond (.reg 9) (.seq (.region [(.mov (.con (.bool false)), some 4, none)]) (.ret)) (.skip))) (.seq (.seq (.region [(.fld 8 (.reg 2), none, none), (.load none (.reg 13), none, none), (.fld 8 (.reg 3), none, none), (.load none (.reg 15), none, none), (.bin .neq (.reg 14) (.reg 16), some 10, none)]) (.cond (.reg 10) (.seq (.region [(.mov (.con (.bool false)), some 4, none)]) (.ret)) (.skip))) (.seq (.seq (.region [(.fld 9 (.reg 2), none, none), (.load none (.reg 13), none, none), (.fld 9 (.reg 3), none, none), (.load none (.reg 15), none, none), (.bin .neq (.reg 14) (.reg 16), some 11, none)]) (.cond (.reg 11) (.seq (.region [(.mov (.con (.bool false)), some 4, none)]) (.ret)) (.skip))) (.seq (.seq (.region [(.fld 10 (.reg 2), none, none), (.load none (.reg 13), none, none), (.fld 10 (.reg 3), none, none), (.load none (.reg 15), none, none), (.bin .neq (.reg 14) (.reg 16), some 12, none)]) (.cond (.reg 12) (.seq (.region [(.mov (.con (.bool false)), some 4, none)]) (.ret)) (.skip))) (.seq (.region [(.mov (.con (.bool true)), some 4, none)]) (.ret)))))))))) }
def s_laws_eqDevice : List (Option Nat) := [some 0, some 1, some 2, some 3, some 4, some 10, some 16, some 22, some 28]
def h_laws_eqDevice : HFunc := { np := 2, ns := 9, own := true, res := [(4, none)], body := .seq (.region [(.box (.reg 0), some 2, none), (.box (.reg 1), some 3, none), (.mov (.con (.bool false)), some 4, none)]) (.seq (.seq (.region [(.fld 0 (.reg 2), none, none), (.load none (.reg 9), none, none), (.fld 0 (.reg 3), none, none), (.load none (.reg 11), none, none), (.call n_laws_eqBoolS [.view, .view] false [.reg 10, .reg 12], none, none), (.un .not (.reg 13), some 5, none)]) (.cond (.reg 5) (.seq (.region [(.mov (.con (.bool false)), some 4, none)]) (.ret)) (.skip))) (.seq (.seq (.region [(.fld 1 (.reg 2), none, none), (.load none (.reg 9), none, none), (.fld 1 (.reg 3), none, none), (.load none (.reg 11), none, none), (.call n_laws_eqBoolS [.view, .view] false [.reg 10, .reg 12], none, none), (.un .not (.reg 13), some 6, none)]) (.cond (.reg 6) (.seq (.region [(.mov (.con (.bool false)), some 4, none)]) (.ret)) (.skip))) (.seq (.seq (.region [(.fld 2 (.reg 2), none, none), (.load none (.reg 9), none, none), (.fld 2 (.reg 3), none, none), (.load none (.reg 11), none, none), (.call n_laws_eqIntS [.view, .view] false [.reg 10, .reg 12], none, none), (.un .not (.reg 13), some 7, none)]) (.cond (.reg 7) (.seq (.region [(.mov (.con (.bool false)), some 4, none)]) (.ret)) (.skip))) (.seq (.seq (.region [(.fld 3 (.reg 2), none, none), (.load none (.reg 9), none, none), (.fld 3 (.reg 3), none, none), (.load none (.reg 11), none, none), (.call n_laws_eqIntS [.view, .view] false [.reg 10, .reg 12], none, none), (.un .not (.reg 13), some 8, none)]) (.cond (.reg 8) (.seq (.region [(.mov (.con (.bool false)), some 4, none)]) (.ret)) (.skip))) (.seq (.region [(.mov (.con (.bool true)), some 4, none)]) (.ret)))))) }
def s_laws_eqPost : List (Option Nat) := [some 0, some 1, some 2, some 3, some 4, some 9, some 14, some 20]
def h_laws_eqPost : HFunc := { np := 2, ns := 8, own := true, res := [(4, none)], body := .seq (.region [(.box (.reg 0), some 2, none), (.box (.reg 1), some 3, none), (.mov (.con (.bool false)), some 4, none)]) (.seq (.seq (.region [(.fld 0 (.reg 2), none, none), (.load none (.reg 8), none, none), (.fld 0 (.reg 3), none, none), (.load none (.reg 10), none, none), (.bin .neq (.reg 9) (.reg 11), some 5, none)]) (.cond (.reg 5) (.seq (.region [(.mov (.con (.bool false)), some 4, none)]) (.ret)) (.skip))) (.seq (.seq (.region [(.fld 1 (.reg 2), none, none), (.load none (.reg 8), none, none), (.fld 1 (.reg 3), none, none), (.load none (.reg 10), none, none), (.bin .neq (.reg 9) (.reg 11), some 6, none)]) (.cond (.reg 6) (.seq (.region [(.mov (.con (.bool false)), some 4, none)]) (.ret)) (.skip))) (.seq (.seq (.region [(.fld 2 (.reg 2), none, none), (.load (some 4) (.reg 8), none, none), (.fld 2 (.reg 3), none, none), (.load (some 4) (.reg 10), none, none), (.call n_laws_eqDevice [.view, .view] false [.reg 9, .reg 11], none, none), (.un .not (.reg 12), some 7, none)]) (.cond (.reg 7) (.seq (.region [(.mov (.con (.bool false)), some 4, none)]) (.ret)) (.skip))) (.seq (.region [(.mov (.con (.bool true)), some 4, none)]) (.ret))))) }
def s_laws_eqPostS : List (Option Nat) := [some 0, some 1, some 4, some 5, some 10, some 14, some 26]
def l_laws_eqPostS_0 : HCode := .seq (.seq (.region [(.mov (.reg 3), none, none), (.mov (.reg 0), none, none), (.len (.reg 8), none, none), (.bin .lss (.reg 7) (.reg 9), some 5, none)]) (.cond (.reg 5) (.skip) (.exit 0))) (.seq (.block 1 (.seq (.draw 10 [⟨0, .mov (.reg 0), none, none, [false, false, false, false, false, false, false, false, false, false], false⟩, ⟨1, .mov (.reg 3), none, none, [false, false, false, false, false, false, false, false, false, false], false⟩, ⟨2, .idx 6 (.reg 7) (.reg 8), none, none, [true, true, false, false, false, false, false, false, false, false], false⟩, ⟨3, .load (some 6) (.reg 9), none, none, [true, true, true, false, false, false, false, false, false, false], false⟩, ⟨4, .mov (.reg 1), none, none, [false, false, false, false, false, false, false, false, false, false], false⟩, ⟨5, .mov (.reg 3), none, none, [false, false, false, false, false, false, false, false, false, false], false⟩, ⟨6, .idx 6 (.reg 11) (.reg 12), none, none, [false, false, false, false, true, true, false, false, false, false], false⟩, ⟨7, .load (some 6) (.reg 13), none, none, [false, false, false, false, true, true, true, false, false, false], false⟩, ⟨8, .call n_laws_eqPost [.view, .view] false [.reg 10, .reg 14], none, none, [true, true, true, true, true, true, true, true, false, false], false⟩, ⟨9, .un .not (.reg 15), some 6, none, [true, true, true, true, true, true, true, true, true, false], true⟩]) (.cond (.reg 6) (.seq (.region [(.mov (.con (.bool false)), some 2, none)]) (.ret)) (.skip)))) (.region [(.mov (.reg 3), none, none), (.bin .add (.reg 7) (.con (.int .i64 1)), none, none), (.mov (.reg 8), some 3, none)]))
def h_laws_eqPostS : HFunc := { np := 2, ns := 7, own := true, res := [(2, none)], body := .seq (.region [(.mov (.con (.bool false)), some 2, none)]) (.seq (.seq (.region [(.mov (.reg 0), none, none), (.len (.reg 7), none, none), (.mov (.reg 1), none, none), (.len (.reg 9), none, none), (.bin .neq (.reg 8) (.reg 10), some 4, none)]) (.cond (.reg 4) (.seq (.region [(.mov (.con (.bool false)), some 2, none)]) (.ret)) (.skip))) (.seq (.seq (.region [(.mov (.con (.int .i64 0)), some 3, none)]) (.block 0 (.loop [2, 4, 5, 6] l_laws_eqPostS_0))) (.seq (.region [(.mov (.con (.bool true)), some 2, none)]) (.ret)))) }
def s_laws_eqPacket : List (Option Nat) := [some 0, some 1, some 2, some 3, some 4, some 9, some 14, some 19, some 24, some 30, some 36]
def h_laws_eqPacket : HFunc := { np := 2, ns := 11, own := true, res := [(4, none)], body := .seq (.region [(.box (.reg 0), some 2, none), (.box (.reg 1), some 3, none), (.mov (.con (.bool false)), some 4, none)]) (.seq (.seq (.region [(.fld 0 (.reg 2), none, none), (.load none (.reg 11), none, none), (.fld 0 (.reg 3), none, none), (.load none (.reg 13), none, none), (.beq true (.reg 12) (.reg 14), some 5, none)]) (.cond (.reg 5) (.seq (.region [(.mov (.con (.bool false)), some 4, none)]) (.ret)) (.skip))) (.seq (.seq (.region [(.fld 1 (.reg 2), none, none), (.load none (.reg 11), none, none), (.fld 1 (.reg 3), none, none), (.load none (.reg 13), none, none), (.bin .neq (.reg 12) (.reg 14), some 6, none)]) (.cond (.reg 6) (.seq (.region [(.mov (.con (.bool false)), some 4, none)]) (.ret)) (.skip))) (.seq (.seq (.region [(.fld 2 (.reg 2), none, none), (.load none (.reg 11), none, none), (.fld 2 (.reg 3), none, none), (.load none (.reg 13), none, none), (.bin .neq (.reg 12) (.reg 14), some 7, none)]) (.cond (.reg 7) (.seq (.region [(.mov (.con (.bool false)), some 4, none)]) (.ret)) (.skip))) (.seq (.seq (.region [(.fld 3 (.reg 2), none, none), (.load none (.reg 11), none, none), (.fld 3 (.reg 3), none, none), (.load none (.reg 13), none, none), (.bin .neq (.reg 12) (.reg 14), some 8, none)]) (.cond (.reg 8) (.seq (.region [(.mov (.con (.bool false)), some 4, none)]) (.ret)) (.skip))) (.seq (.seq (.region [(.fld 4 (.reg 2), none, none), (.load (some 6) (.reg 11), none, none), (.fld 4 (.reg 3), none, none), (.load (some 6) (.reg 13), none, none), (.call n_laws_eqReq [.view, .view] false [.reg 12, .reg 14], none, none), (.un .not (.reg 15), some 9, none)]) (.cond (.reg 9) (.seq (.region [(.mov (.con (.bool false)), some 4, none)]) (.ret)) (.skip))) (.seq (.seq (.region [(.fld 10 (.reg 2), none, none), (.load (some 6) (.reg 11), none, none), (.fld 10 (.reg 3), none, none), (.load (some 6) (.reg 13), none, none), (.call n_laws_eqResp [.view, .view] false [.reg 12, .reg 14], none, none), (.un .not (.reg 15), some 10, none)]) (.cond (.reg 10) (.seq (.region [(.mov (.con (.bool false)), some 4, none)]) (.ret)) (.skip))) (.seq (.region [(.mov (.con (.bool true)), some 4, none)]) (.ret)))))))) }
def s_laws_eqPacketS : List (Option Nat) := [some 0, some 1, some 4, some 5, some 10, some 14, some 26]
def l_laws_eqPacketS_0 : HCode := .seq (.seq (.region [(.mov (.reg 3), none, none), (.mov (.reg 0), none, none), (.len (.reg 8), none, none), (.bin .lss (.reg 7) (.reg 9), some 5, none)]) (.cond (.reg 5) (.skip) (.exit 0))) (.seq (.block 1 (.seq (.draw 10 [⟨0, .mov (.reg 0), none, none, [false, false, false, false, false, false, false, false, false, false], false⟩, ⟨1, .mov (.reg 3), none, none, [false, false, false, false, false, false, false, false, false, false], false⟩, ⟨2, .idx 16 (.reg 7) (.reg 8), none, none, [true, true, false, false, false, false, false, false, false, false], false⟩, ⟨3, .load (some 16) (.reg 9), none, none, [true, true, true, false, false, false, false, false, false, false], false⟩, ⟨4, .mov (.reg 1), none, none, [false, false, false, false, false, false, false, false, false, false], false⟩, ⟨5, .mov (.reg 3), none, none, [false, false, false, false, false, false, false, false, false, false], false⟩, ⟨6, .idx 16 (.reg 11) (.reg 12), none, none, [false, false, false, false, true, true, false, false, false, false], false⟩, ⟨7, .load (some 16) (.reg 13), none, none, [false, false, false, false, true, true, true, false, false, false], false⟩, ⟨8, .call n_laws_eqPacket [.view, .view] false [.reg 10, .reg 14], none, none, [true, true, true, true, true, true, true, true, false, false], false⟩, ⟨9, .un .not (.reg 15), some 6, none, [true, true, true, true, true, true, true, true, true, false], true⟩]) (.cond (.reg 6) (.seq (.region [(.mov (.con (.bool false)), some 2, none)]) (.ret)) (.skip)))) (.region [(.mov (.reg 3), none, none), (.bin .add (.reg 7) (.con (.int .i64 1)), none, none), (.mov (.reg 8), some 3, none)]))
def h_laws_eqPacketS : HFunc := { np := 2, ns := 7, own := true, res := [(2, none)], body := .seq (.region [(.mov (.con (.bool false)), some 2, none)]) (.seq (.seq (.region [(.mov (.reg 0), none, none), (.len (.reg 7), none, none), (.mov (.reg 1), none, none), (.len (.reg 9), none, none), (.bin .neq (.reg 8) (.reg 10), some 4, none)]) (.cond (.reg 4) (.seq (.region [(.mov (.con (.bool false)), some 2, none)]) (.ret)) (.skip))) (.seq (.seq (.region [(.mov (.con (.int .i64 0)), some 3, none)]) (.block 0 (.loop [2, 4, 5, 6] l_laws_eqPacketS_0))) (.seq (.region [(.mov (.con (.bool true)), some 2, none)]) (.ret)))) }
def s_laws_eqReply : List (Option Nat) := [some 0, some 1, some 2, some 3, some 4, some 9, some 14, some 20, some 26, some 32, some 38]
def h_laws_eqReply : HFunc := { np := 2, ns := 11, own := true, res := [(4, none)], body := .seq (.region [(.box (.reg 0), some 2, none), (.box (.reg 1), some 3, none), (.mov (.con (.bool false)), some 4, none)]) (.seq (.seq (.region [(.fld 0 (.reg 2), none, none), (.load none (.reg 11), none, none), (.fld 0 (.reg 3), none, none), (.load none (.reg 13), none, none), (.bin .neq (.reg 12) (.reg 14), some 5, none)]) (.cond (.reg 5) (.seq (.region [(.mov (.con (.bool false)), some 4, none)]) (.ret)) (.skip))) (.seq (.seq (.region [(.fld 1 (.reg 2), none, none), (.load none (.reg 11), none, none), (.fld 1 (.reg 3), none, none), (.load none (.reg 13), none, none), (.bin .neq (.reg 12) (.reg 14), some 6, none)]) (.cond (.reg 6) (.seq (.region [(.mov (.con (.bool false)), some 4, none)]) (.ret)) (.skip))) (.seq (.seq (.region [(.fld 2 (.reg 2), none, none), (.load (some 6) (.reg 11), none, none), (.fld 2 (.reg 3), none, none), (.load (some 6) (.reg 13), none, none), (.call n_laws_eqReq [.view, .view] false [.reg 12, .reg 14], none, none), (.un .not (.reg 15), some 7, none)]) (.cond (.reg 7) (.seq (.region [(.mov (.con (.bool false)), some 4, none)]) (.ret)) (.skip))) (.seq (.seq (.region [(.fld 8 (.reg 2), none, none), (.load none (.reg 11), none, none), (.fld 8 (.reg 3), none, none), (.load none (.reg 13), none, none), (.call n_laws_eqPartS [.view, .view] false [.reg 12, .reg 14], none, none), (.un .not (.reg 15), some 8, none)]) (.cond (.reg 8) (.seq (.region [(.mov (.con (.bool false)), some 4, none)]) (.ret)) (.skip))) (.seq (.seq (.region [(.fld 9 (.reg 2), none, none), (.load none (.reg 11), none, none), (.fld 9 (.reg 3), none, none), (.load none (.reg 13), none, none), (.call n_laws_eqRespS [.view, .view] false [.reg 12, .reg 14], none, none), (.un .not (.reg 15), some 9, none)]) (.cond (.reg 9) (.seq (.region [(.mov (.con (.bool false)), some 4, none)]) (.ret)) (.skip))) (.seq (.seq (.region [(.fld 10 (.reg 2), none, none), (.load (some 6) (.reg 11), none, none), (.fld 10 (.reg 3), none, none), (.load (some 6) (.reg 13), none, none), (.call n_laws_eqResp [.view, .view] false [.reg 12, .reg 14], none, none), (.un .not (.reg 15), some 10, none)]) (.cond (.reg 10) (.seq (.region [(.mov (.con (.bool false)), some 4, none)]) (.ret)) (.skip))) (.seq (.region [(.mov (.con (.bool true)), some 4, none)]) (.ret)))))))) }
def s_laws_eqReplyS : List (Option Nat) := [some 0, some 1, some 4, some 5, some 10, some 14, some 26]
def l_laws_eqReplyS_0 : HCode := .seq (.seq (.region [(.mov (.reg 3), none, none), (.mov (.reg 0), none, none), (.len (.reg 8), none, none), (.bin .lss (.reg 7) (.reg 9), some 5, none)]) (.cond (.reg 5) (.skip) (.exit 0))) (.seq (.block 1 (.seq (.draw 10 [⟨0, .mov (.reg 0), none, none, [false, false, false, false, false, false, false, false, false, false], false⟩, ⟨1, .mov (.reg 3), none, none, [false, false, false, false, false, false, false, false, false, false], false⟩, ⟨2, .idx 16 (.reg 7) (.reg 8), none, none, [true, true, false, false, false, false, false, false, false, false], false⟩, ⟨3, .load (some 16) (.reg 9), none, none, [true, true, true, false, false, false, false, false, false, false], false⟩, ⟨4, .mov (.reg 1), none, none, [false, false, false, false, false, false, false, false, false, false], false⟩, ⟨5, .mov (.reg 3), none, none, [false, false, false, false, false, false, false, false, false, false], false⟩, ⟨6, .idx 16 (.reg 11) (.reg 12), none, none, [false, false, false, false, true, true, false, false, false, false], false⟩, ⟨7, .load (some 16) (.reg 13), none, none, [false, false, false, false, true, true, true, false, false, false], false⟩, ⟨8, .call n_laws_eqReply [.view, .view] false [.reg 10, .reg 14], none, none, [true, true, true, true, true, true, true, true, false, false], false⟩, ⟨9, .un .not (.reg 15), some 6, none, [true, true, true, true, true, true, true, true, true, false], true⟩]) (.cond (.reg 6) (.seq (.region [(.mov (.con (.bool false)), some 2, none)]) (.ret)) (.skip)))) (.region [(.mov (.reg 3), none, none), (.bin .add (.reg 7) (.con (.int .i64 1)), none, none), (.mov (.reg 8), some 3, none)]))
def h_laws_eqReplyS : HFunc := { np := 2, ns := 7, own := true, res := [(2, none)], body := .seq (.region [(.mov (.con (.bool false)), some 2, none)]) (.seq (.seq (.region [(.mov (.reg 0), none, none), (.len (.reg 7), none, none), (.mov (.reg 1), none, none), (.len (.reg 9), none, none), (.bin .neq (.reg 8) (.reg 10), some 4, none)]) (.cond (.reg 4) (.seq (.region [(.mov (.con (.bool false)), some 2, none)]) (.ret)) (.skip))) (.seq (.seq (.region [(.mov (.con (.int .i64 0)), some 3, none)]) (.block 0 (.loop [2, 4, 5, 6] l_laws_eqReplyS_0))) (.seq (.region [(.mov (.con (.bool true)), some 2, none)]) (.ret)))) }
def s_laws_eqServed : List (Option Nat) := [some 0, some 1, some 2, some 3, some 4, some 9, some 14, some 19, some 25, some 31]
def h_laws_eqServed : HFunc := { np := 2, ns := 10, own := true, res := [(4, none)], body := .seq (.region [(.box (.reg 0), some 2, none), (.box (.reg 1), some 3, none), (.mov (.con (.bool false)), some 4, none)]) (.seq (.seq (.region [(.fld 0 (.reg 2), none, none), (.load none (.reg 10), none, none), (.fld 0 (.reg 3), none, none), (.load none (.reg 12), none, none), (.bin .neq (.reg 11) (.reg 13), some 5, none)]) (.cond (.reg 5) (.seq (.region [(.mov (.con (.bool false)), some 4, none)]) (.ret)) (.skip))) (.seq (.seq (.region [(.fld 1 (.reg 2), none, none), (.load none (.reg 10), none, none), (.fld 1 (.reg 3), none, none), (.load none (.reg 12), none, none), (.bin .neq (.reg 11) (.reg 13), some 6, none)]) (.cond (.reg 6) (.seq (.region [(.mov (.con (.bool false)), some 4, none)]) (.ret)) (.skip))) (.seq (.seq (.region [(.fld 2 (.reg 2), none, none), (.load none (.reg 10), none, none), (.fld 2 (.reg 3), none, none), (.load none (.reg 12), none, none), (.bin .neq (.reg 11) (.reg 13), some 7, none)]) (.cond (.reg 7) (.seq (.region [(.mov (.con (.bool false)), some 4, none)]) (.ret)) (.skip))) (.seq (.seq (.region [(.fld 3 (.reg 2), none, none), (.load (some 6) (.reg 10), none, none), (.fld 3 (.reg 3), none, none), (.load (some 6) (.reg 12), none, none), (.call n_laws_eqReq [.view, .view] false [.reg 11, .reg 13], none, none), (.un .not (.reg 14), some 8, none)]) (.cond (.reg 8) (.seq (.region [(.mov (.con (.bool false)), some 4, none)]) (.ret)) (.skip))) (.seq (.seq (.region [(.fld 9 (.reg 2), none, none), (.load (some 6) (.reg 10), none, none), (.fld 9 (.reg 3), none, none), (.load (some 6) (.reg 12), none, none), (.call n_laws_eqResp [.view, .view] false [.reg 11, .reg 13], none, none), (.un .not (.reg 14), some 9, none)]) (.cond (.reg 9) (.seq (.region [(.mov (.con (.bool false)), some 4, none)]) (.ret)) (.skip))) (.seq (.region [(.mov (.con (.bool true)), some 4, none)]) (.ret))))))) }
def s_laws_eqServedS : List (Option Nat) := [some 0, some 1, some 4, some 5, some 10, some 14, some 26]
def l_laws_eqServedS_0 : HCode := .seq (.seq (.region [(.mov (.reg 3), none, none), (.mov (.reg 0), none, none), (.len (.reg 8), none, none), (.bin .lss (.reg 7) (.reg 9), some 5, none)]) (.cond (.reg 5) (.skip) (.exit 0))) (.seq (.block 1 (.seq (.draw 10 [⟨0, .mov (.reg 0), none, none, [false, false, false, false, false, false, false, false, false, false], false⟩, ⟨1, .mov (.reg 3), none, none, [false, false, false, false, false, false, false, false, false, false], false⟩, ⟨2, .idx 15 (.reg 7) (.reg 8), none, none, [true, true, false, false, false, false, false, false, false, false], false⟩, ⟨3, .load (some 15) (.reg 9), none, none, [true, true, true, false, false, false, false, false, false, false], false⟩, ⟨4, .mov (.reg 1), none, none, [false, false, false, false, false, false, false, false, false, false], false⟩, ⟨5, .mov (.reg 3), none, none, [false, false, false, false, false, false, false, false, false, false], false⟩, ⟨6, .idx 15 (.reg 11) (.reg 12), none, none, [false, false, false, false, true, true, false, false, false, false], false⟩, ⟨7, .load (some 15) (.reg 13), none, none, [false, false, false, false, true, true, true, false, false, false], false⟩, ⟨8, .call n_laws_eqServed [.view, .view] false [.reg 10, .reg 14], none, none, [true, true, true, true, true, true, true, true, false, false], false⟩, ⟨9, .un .not (.reg 15), some 6, none, [true, true, true, true, true, true, true, true, true, false], true⟩]) (.cond (.reg 6) (.seq (.region [(.mov (.con (.bool false)), some 2, none)]) (.ret)) (.skip)))) (.region [(.mov (.reg 3), none, none), (.bin .add (.reg 7) (.con (.int .i64 1)), none, none), (.mov (.reg 8), some 3, none)]))
def h_laws_eqServedS : HFunc := { np := 2, ns := 7, own := true, res := [(2, none)], body := .seq (.region [(.mov (.con (.bool false)), some 2, none)]) (.seq (.seq (.region [(.mov (.reg 0), none, none), (.len (.reg 7), none, none), (.mov (.reg 1), none, none), (.len (.reg 9), none, none), (.bin .neq (.reg 8) (.reg 10), some 4, none)]) (.cond (.reg 4) (.seq (.region [(.mov (.con (.bool false)), some 2, none)]) (.ret)) (.skip))) (.seq (.seq (.region [(.mov (.con (.int .i64 0)), some 3, none)]) (.block 0 (.loop [2, 4, 5, 6] l_laws_eqServedS_0))) (.seq (.region [(.mov (.con (.bool true)), some 2, none)]) (.ret)))) }
def s_laws_eqWorld : List (Option Nat) := [some 0, some 1, some 2, some 3, some 4, some 10, some 16, some 22, some 28, some 34]
def h_laws_eqWorld : HFunc := { np := 2, ns := 10, own := true, res := [(4, none)], body := .seq (.region [(.box (.reg 0), some 2, none), (.box (.reg 1), some 3, none), (.mov (.con (.bool false)), some 4, none)]) (.seq (.seq (.region [(.fld 0 (.reg 2), none, none), (.load (some 11) (.reg 10), none, none), (.fld 0 (.reg 3), none, none), (.load (some 11) (.reg 12), none, none), (.call n_laws_eqFabric [.view, .view] false [.reg 11, .reg 13], none, none), (.un .not (.reg 14), some 5, none)]) (.cond (.reg 5) (.seq (.region [(.mov (.con (.bool false)), some 4, none)]) (.ret)) (.skip))) (.seq (.seq (.region [(.fld 11 (.reg 2), none, none), (.load none (.reg 10), none, none), (.fld 11 (.reg 3), none, none), (.load none (.reg 12), none, none), (.call n_laws_eqPostS [.view, .view] false [.reg 11, .reg 13], none, none), (.un .not (.reg 14), some 6, none)]) (.cond (.reg 6) (.seq (.region [(.mov (.con (.bool false)), some 4, none)]) (.ret)) (.skip))) (.seq (.seq (.region [(.fld 12 (.reg 2), none, none), (.load none (.reg 10), none, none), (.fld 12 (.reg 3), none, none), (.load none (.reg 12), none, none), (.call n_laws_eqPacketS [.view, .view] false [.reg 11, .reg 13], none, none), (.un .not (.reg 14), some 7, none)]) (.cond (.reg 7) (.seq (.region [(.mov (.con (.bool false)), some 4, none)]) (.ret)) (.skip))) (.seq (.seq (.region [(.fld 13 (.reg 2), none, none), (.load none (.reg 10), none, none), (.fld 13 (.reg 3), none, none), (.load none (.reg 12), none, none), (.call n_laws_eqReplyS [.view, .view] false [.reg 11, .reg 13], none, none), (.un .not (.reg 14), some 8, none)]) (.cond (.reg 8) (.seq (.region [(.mov (.con (.bool false)), some 4, none)]) (.ret)) (.skip))) (.seq (.seq (.region [(.fld 14 (.reg 2), none, none), (.load none (.reg 10), none, none), (.fld 14 (.reg 3), none, none), (.load none (.reg 12), none, none), (.call n_laws_eqServedS [.view, .view] false [.reg 11, .reg 13], none, none), (.un .not (.reg 14), some 9, none)]) (.cond (.reg 9) (.seq (.region [(.mov (.con (.bool false)), some 4, none)]) (.ret)) (.skip))) (.seq (.region [(.mov (.con (.bool true)), some 4, none)]) (.ret))))))) }
def s_laws_FnExactQuiet : List (Option Nat) := [some 0, some 1, some 2, some 3, some 4, some 5, some 6, some 11, some 21, some 26]
def h_laws_FnExactQuiet : HFunc := { np := 1, ns := 10, own := true, res := [(2, none)], body := .seq (.region [(.box (.reg 0), some 1, none), (.mov (.con (.bool false)), some 2, none)]) (.seq (.region [(.mov (.con (.int .i64 1048576)), some 3, none)]) (.seq (.region [(.load (some 15) (.reg 1), none, none), (.mov (.reg 3), none, none), (.call n_laws_szWorld [.view, .view] false [.reg 10, .reg 11], none, none), (.mov (.reg 12), some 3, none)]) (.seq (.seq (.region [(.mov (.reg 3), none, none), (.bin .lss (.reg 10) (.con (.int .i64 0)), some 7, none)]) (.cond (.reg 7) (.seq (.region [(.mov (.con (.bool true)), some 2, none)]) (.ret)) (.skip))) (.seq (.region [(.load (some 15) (.reg 1), none, none), (.call n_laws_toWorld [.view] false [.reg 10], none, none), (.call n_spec_Quiet [.view] false [.reg 11], none, none), (.mov (.reg 12), some 4, none)]) (.seq (.region [(.load (some 15) (.reg 1), none, none), (.call n_laws_toWorld [.view] false [.reg 10], none, none), (.alloc [.int .i64 0, .int .i64 0, .int .i64 0, .own 7 [], .int .i64 0, .own 13 [], .own 17 [], .int .i64 0, .int .i64 0, .int .i64 0, .int .i64 0, .own 6 [], .own 16 [], .own 16 [], .own 15 []], some 5, none), (.store (some 15) false (.reg 5) (.reg 11), none, none)]) (.seq (.region [(.load (some 15) (.reg 5), none, none), (.call n_impl_Quiet [.view] false [.reg 10], none, none), (.mov (.reg 11), some 6, none)]) (.seq (.seq (.region [(.mov (.reg 6), none, none), (.mov (.reg 4), none, none), (.beq true (.reg 10) (.reg 11), some 8, none)]) (.cond (.reg 8) (.seq (.region [(.mov (.con (.bool false)), some 2, none)]) (.ret)) (.skip))) (.seq (.seq (.draw 5 [⟨0, .load (some 15) (.reg 5), none, none, [false, false, false, false, false], false⟩, ⟨1, .load (some 15) (.reg 1), none, none, [false, false, false, false, false], false⟩, ⟨2, .call n_laws_toWorld [.view] false [.reg 11], none, none, [false, true, false, false, false], false⟩, ⟨3, .call n_laws_eqWorld [.view, .view] false [.reg 10, .reg 12], none, none, [true, true, true, false, false], false⟩, ⟨4, .un .not (.reg 13), some 9, none, [true, true, true, true, false], true⟩]) (.cond (.reg 9) (.seq (.region [(.mov (.con (.bool false)), some 2, none)]) (.ret)) (.skip))) (.seq (.region [(.mov (.con (.bool true)), some 2, none)]) (.ret)))))))))) }
def s_spec_Busiest : List (Option Nat) := [some 0, some 1, some 2, some 3, some 4, some 5, some 6, some 7, some 12, some 19, some 49, some 54]
def l_spec_Busiest_0 : HCode := .seq (.seq (.region [(.mov (.reg 7), none, none), (.fld 14 (.reg 1), none, none), (.load none (.reg 13), none, none), (.len (.reg 14), none, none), (.bin .lss (.reg 12) (.reg 15), some 9, none)]) (.cond (.reg 9) (.skip) (.exit 2))) (.seq (.block 3 (.seq (.draw 28 [⟨0, .fld 14 (.reg 1), none, none, [false, false, false, false, false, false, false, false, false, false, false, false, false, false, false, false, false, false, false, false, false, false, false, false, false, false, false, false], false⟩, ⟨1, .load none (.reg 12), none, none, [true, false, false, false, false, false, false, false, false, false, false, false, false, false, false, false, false, false, false, false, false, false, false, false, false, false, false, false], false⟩, ⟨2, .mov (.reg 7), none, none, [false, false, false, false, false, false, false, false, false, false, false, false, false, false, false, false, false, false, false, false, false, false, false, false, false, false, false, false], false⟩, ⟨3, .idx 15 (.reg 13) (.reg 14), none, none, [true, true, true, false, false, false, false, false, false, false, false, false, false, false, false, false, false, false, false, false, false, false, false, false, false, false, false, false], false⟩, ⟨4, .fld 0 (.reg 15), none, none, [true, true, true, true, false, false, false, false, false, false, false, false, false, false, false, false, false, false, false, false, false, false, false, false, false, false, false, false], false⟩, ⟨5, .load none (.reg 16), none, none, [true, true, true, true, true, false, false, false, false, false, false, false, false, false, false, false, false, false, false, false, false, false, false, false, false, false, false, false], false⟩, ⟨6, .fld 11 (.reg 1), none, none, [false, false, false, false, false, false, false, false, false, false, false, false, false, false, false, false, false, false, false, false, false, false, false, false, false, false, false, false], false⟩, ⟨7, .load none (.reg 18), none, none, [false, false, false, false, false, false, true, false, false, false, false, false, false, false, false, false, false, false, false, false, false, false, false, false, false, false, false, false], false⟩, ⟨8, .mov (.reg 5), none, none, [false, false, false, false, false, false, false, false, false, false, false, false, false, false, false, false, false, false, false, false, false, false, false, false, false, false, false, false], false⟩, ⟨9, .idx 6 (.reg 19) (.reg 20), none, none, [false, false, false, false, false, false, true, true, true, false, false, false, false, false, false, false, false, false, false, false, false, false, false, false, false, false, false, false], false⟩, ⟨10, .fld 0 (.reg 21), none, none, [false, false, false, false, false, false, true, true, true, true, false, false, false, false, false, false, false, false, false, false, false, false, false, false, false, false, false, false], false⟩, ⟨11, .load none (.reg 22), none, none, [false, false, false, false, false, false, true, true, true, true, true, false, false, false, false, false, false, false, false, false, false, false, false, false, false, false, false, false], false⟩, ⟨12, .bin .eql (.reg 17) (.reg 23), none, none, [true, true, true, true, true, true, true, true, true, true, true, true, false, false, false, false, false, false, false, false, false, false, false, false, false, false, false, false], false⟩, ⟨13, .mov (.reg 24), none, none, [true, true, true, true, true, true, true, true, true, true, true, true, true, false, false, false, false, false, false, false, false, false, false, false, false, false, false, false], false⟩, ⟨14, .fld 14 (.reg 1), none, some (25, true), [true, true, true, true, true, true, true, true, true, true, true, true, true, true, false, false, false, false, false, false, false, false, false, false, false, false, false, false], false⟩, ⟨15, .load none (.reg 26), none, some (25, true), [true, true, true, true, true, true, true, true, true, true, true, true, true, true, true, false, false, false, false, false, false, false, false, false, false, false, false, false], false⟩, ⟨16, .mov (.reg 7), none, some (25, true), [true, true, true, true, true, true, true, true, true, true, true, true, true, true, false, false, false, false, false, false, false, false, false, false, false, false, false, false], false⟩, ⟨17, .idx 15 (.reg 27) (.reg 28), none, some (25, true), [true, true, true, true, true, true, true, true, true, true, true, true, true, true, true, true, true, false, false, false, false, false, false, false, false, false, false, false], false⟩, ⟨18, .fld 2 (.reg 29), none, some (25, true), [true, true, true, true, true, true, true, true, true, true, true, true, true, true, true, true, true, true, false, false, false, false, false, false, false, false, false, false], false⟩, ⟨19, .load none (.reg 30), none, some (25, true), [true, true, true, true, true, true, true, true, true, true, true, true, true, true, true, true, true, true, true, false, false, false, false, false, false, false, false, false], false⟩, ⟨20, .fld 11 (.reg 1), none, some (25, true), [true, true, true, true, true, true, true, true, true, true, true, true, true, true, false, false, false, false, false, false, false, false, false, false, false, false, false, false], false⟩, ⟨21, .load none (.reg 32), none, some (25, true), [true, true, true, true, true, true, true, true, true, true, true, true, true, true, false, false, false, false, false, false, true, false, false, false, false, false, false, false], false⟩, ⟨22, .mov (.reg 5), none, some (25, true), [true, true, true, true, true, true, true, true, true, true, true, true, true, true, false, false, false, false, false, false, false, false, false, false, false, false, false, false], false⟩, ⟨23, .idx 6 (.reg 33) (.reg 34), none, some (25, true), [true, true, true, true, true, true, true, true, true, true, true, true, true, true, false, false, false, false, false, false, true, true, true, false, false, false, false, false], false⟩, ⟨24, .fld 1 (.reg 35), none, some (25, true), [true, true, true, true, true, true, true, true, true, true, true, true, true, true, false, false, false, false, false, false, true, true, true, true, false, false, false, false], false⟩, ⟨25, .load none (.reg 36), none, some (25, true), [true, true, true, true, true, true, true, true, true, true, true, true, true, true, false, false, false, false, false, false, true, true, true, true, true, false, false, false], false⟩, ⟨26, .bin .eql (.reg 31) (.reg 37), none, some (25, true), [true, true, true, true, true, true, true, true, true, true, true, true, true, true, true, true, true, true, true, true, true, true, true, true, true, true, false, false], false⟩, ⟨27, .pick (.reg 25) (.reg 38) (.con (.bool false)), some 10, none, [true, true, true, true, true, true, true, true, true, true, true, true, true, true, true, true, true, true, true, true, true, true, true, true, true, true, true, false], true⟩]) (.cond (.reg 10) (.region [(.mov (.reg 6), none, none), (.bin .add (.reg 12) (.con (.int .i64 1)), none, none), (.mov (.reg 13), some 6, none)]) (.skip)))) (.region [(.mov (.reg 7), none, none), (.bin .add (.reg 12) (.con (.int .i64 1)), none, none), (.mov (.reg 13), some 7, none)]))
def l_spec_Busiest_1 : HCode := .seq (.seq (.region [(.mov (.reg 5), none, none), (.fld 11 (.reg 1), none, none), (.load none (.reg 13), none, none), (.len (.reg 14), none, none), (.bin .lss (.reg 12) (.reg 15), some 8, none)]) (.cond (.reg 8) (.skip) (.exit 0))) (.seq (.block 1 (.seq (.region [(.mov (.con (.int .i64 0)), some 6, none)]) (.seq (.seq (.region [(.mov (.con (.int .i64 0)), some 7, none)]) (.block 2 (.loop [0, 2, 8, 9, 10, 11] l_spec_Busiest_0))) (.seq (.region [(.mov (.reg 6), none, none), (.mov (.reg 4), none, none), (.bin .gtr (.reg 12) (.reg 13), some 11, none)]) (.cond (.reg 11) (.seq (.region [(.mov (.reg 5), none, none), (.mov (.reg 12), some 3, none)]) (.region [(.mov (.reg 6), none, none), (.mov (.reg 12), some 4, none)])) (.skip)))))) (.region [(.mov (.reg 5), none, none), (.bin .add (.reg 12) (.con (.int .i64 1)), none, none), (.mov (.reg 13), some 5, none)]))
def h_spec_Busiest : HFunc := { np := 1, ns := 12, own := true, res := [(2, none)], body := .seq (.region [(.box (.reg 0), some 1, none), (.mov (.con (.int .i64 0)), some 2, none)]) (.seq (.region [(.mov (.con (.int .i64 (-1))), some 3, none)]) (.seq (.region [(.mov (.con (.int .i64 (-1))), some 4, none)]) (.seq (.seq (.region [(.mov (.con (.int .i64 0)), some 5, none)]) (.block 0 (.loop [0, 2, 6, 7, 8, 9, 10, 11] l_spec_Busiest_1))) (.seq (.region [(.mov (.reg 3), none, none), (.mov (.reg 12), some 2, none)]) (.ret))))) }
def s_impl_Busiest : List (Option Nat) := [some 0, some 1, some 2, some 3, some 4, some 5, some 6, some 7, some 9, some 11, some 12, some 13, some 14, some 19, some 20, some 21, some 22, some 36, some 42]
def l_impl_Busiest_0 : HCode := .seq (.region [(.bin .lss (.reg 15) (.reg 14), some 16, none)]) (.seq (.cond (.reg 16) (.skip) (.exit 2)) (.seq (.block 3 (.seq (.region [(.idx 15 (.reg 13) (.reg 15), none, none), (.load (some 15) (.reg 19), none, none), (.alloc [.int .i64 0, .int .i64 0, .int .i64 0, .int .i64 0, .int .i64 0, .int .i64 0, .own 1 [], .own 1 [], .int .i64 0, .int .i64 0, .int .i64 0, .int .i64 0, .int .i64 0, .own 1 [], .own 1 []], some 8, none), (.store (some 15) false (.reg 8) (.reg 20), none, none)]) (.seq (.region [(.fld 0 (.reg 8), none, none), (.load none (.reg 19), none, none), (.fld 0 (.reg 6), none, none), (.load none (.reg 21), none, none), (.bin .eql (.reg 20) (.reg 22), none, none), (.mov (.reg 23), none, none), (.fld 2 (.reg 8), none, some (24, true)), (.load none (.reg 25), none, some (24, true)), (.fld 1 (.reg 6), none, some (24, true)), (.load none (.reg 27), none, some (24, true)), (.bin .eql (.reg 26) (.reg 28), none, some (24, true)), (.pick (.reg 24) (.reg 29) (.con (.bool false)), some 17, none)]) (.cond (.reg 17) (.region [(.mov (.reg 7), none, none), (.bin .add (.reg 19) (.con (.int .i64 1)), none, none), (.mov (.reg 20), some 7, none)]) (.skip))))) (.region [(.bin .add (.reg 15) (.con (.int .i64 1)), none, none), (.mov (.reg 19), some 15, none)])))
def l_impl_Busiest_1 : HCode := .seq (.region [(.bin .lss (.reg 11) (.reg 10), some 12, none)]) (.seq (.cond (.reg 12) (.skip) (.exit 0)) (.seq (.block 1 (.seq (.region [(.mov (.reg 11), none, none), (.idx 6 (.reg 9) (.reg 11), none, none), (.load (some 6) (.reg 20), none, none), (.alloc [.int .i64 0, .int .i64 0, .own 1 [], .own 1 [], .own 1 [], .own 1 []], some 6, none), (.mov (.reg 19), some 5, none), (.store (some 6) false (.reg 6) (.reg 21), none, none)]) (.seq (.region [(.mov (.con (.int .i64 0)), some 7, none)]) (.seq (.seq (.region [(.fld 14 (.reg 1), none, none), (.load none (.reg 19), some 13, none), (.len (.reg 13), some 14, none), (.mov (.con (.int .i64 0)), some 15, none)]) (.block 2 (.loop [0, 2, 8, 12, 16, 17, 18] l_impl_Busiest_0))) (.seq (.region [(.mov (.reg 7), none, none), (.mov (.reg 4), none, none), (.bin .gtr (.reg 19) (.reg 20), some 18, none)]) (.cond (.reg 18) (.region [(.mov (.reg 5), none, none), (.mov (.reg 7), none, none), (.mov (.reg 19), some 3, none), (.mov (.reg 20), some 4, none)]) (.skip))))))) (.region [(.bin .add (.reg 11) (.con (.int .i64 1)), none, none), (.mov (.reg 19), some 11, none)])))
def h_impl_Busiest : HFunc := { np := 1, ns := 19, own := true, res := [(2, none)], body := .seq (.region [(.box (.reg 0), some 1, none), (.mov (.con (.int .i64 0)), some 2, none)]) (.seq (.region [(.mov (.con (.int .i64 (-1))), some 3, none), (.mov (.con (.int .i64 (-1))), some 4, none)]) (.seq (.seq (.region [(.fld 11 (.reg 1), none, none), (.load none (.reg 19), some 9, none), (.len (.reg 9), some 10, none), (.mov (.con (.int .i64 0)), some 11, none)]) (.block 0 (.loop [0, 2, 5, 6, 7, 8, 12, 13, 14, 15, 16, 17, 18] l_impl_Busiest_1))) (.seq (.region [(.mov (.reg 3), none, none), (.mov (.reg 19), some 2, none)]) (.ret)))) }
def s_laws_FnExactBusiest : List (Option Nat) := [some 0, some 1, some 2, some 3, some 4, some 5, some 6, some 11, some 21, some 26]
def h_laws_FnExactBusiest : HFunc := { np := 1, ns := 10, own := true, res := [(2, none)], body := .seq (.region [(.box (.reg 0), some 1, none), (.mov (.con (.bool false)), some 2, none)]) (.seq (.region [(.mov (.con (.int .i64 1048576)), some 3, none)]) (.seq (.region [(.load (some 15) (.reg 1), none, none), (.mov (.reg 3), none, none), (.call n_laws_szWorld [.view, .view] false [.reg 10, .reg 11], none, none), (.mov (.reg 12), some 3, none)]) (.seq (.seq (.region [(.mov (.reg 3), none, none), (.bin .lss (.reg 10) (.con (.int .i64 0)), some 7, none)]) (.cond (.reg 7) (.seq (.region [(.mov (.con (.bool true)), some 2, none)]) (.ret)) (.skip))) (.seq (.region [(.load (some 15) (.reg 1), none, none), (.call n_laws_toWorld [.view] false [.reg 10], none, none), (.call n_spec_Busiest [.view] false [.reg 11], none, none), (.mov (.reg 12), some 4, none)]) (.seq (.region [(.load (some 15) (.reg 1), none, none), (.call n_laws_toWorld [.view] false [.reg 10], none, none), (.alloc [.int .i64 0, .int .i64 0, .int .i64 0, .own 7 [], .int .i64 0, .own 13 [], .own 17 [], .int .i64 0, .int .i64 0, .int .i64 0, .int .i64 0, .own 6 [], .own 16 [], .own 16 [], .own 15 []], some 5, none), (.store (some 15) false (.reg 5) (.reg 11), none, none)]) (.seq (.region [(.load (some 15) (.reg 5), none, none), (.call n_impl_Busiest [.view] false [.reg 10], none, none), (.mov (.reg 11), some 6, none)]) (.seq (.seq (.region [(.mov (.reg 6), none, none), (.mov (.reg 4), none, none), (.bin .neq (.reg 10) (.reg 11), some 8, none)]) (.cond (.reg 8) (.seq (.region [(.mov (.con (.bool false)), some 2, none)]) (.ret)) (.skip))) (.seq (.seq (.draw 5 [⟨0, .load (some 15) (.reg 5), none, none, [false, false, false, false, false], false⟩, ⟨1, .load (some 15) (.reg 1), none, none, [false, false, false, false, false], false⟩, ⟨2, .call n_laws_toWorld [.view] false [.reg 11], none, none, [false, true, false, false, false], false⟩, ⟨3, .call n_laws_eqWorld [.view, .view] false [.reg 10, .reg 12], none, none, [true, true, true, false, false], false⟩, ⟨4, .un .not (.reg 13), some 9, none, [true, true, true, true, false], true⟩]) (.cond (.reg 9) (.seq (.region [(.mov (.con (.bool false)), some 2, none)]) (.ret)) (.skip))) (.seq (.region [(.mov (.con (.bool true)), some 2, none)]) (.ret)))))))))) }
def tabL : List (FuncId × Body) := [(n_laws_szRuleS, .go h_laws_szRuleS), (n_laws_szConfig, .go h_laws_szConfig), (n_laws_szIntS, .go h_laws_szIntS), (n_laws_szBoolS, .go h_laws_szBoolS), (n_laws_szReq, .go h_laws_szReq), (n_laws_szPart, .go h_laws_szPart), (n_laws_szPartS, .go h_laws_szPartS), (n_laws_szResp, .go h_laws_szResp), (n_laws_szRespS, .go h_laws_szRespS), (n_laws_szPend, .go h_laws_szPend), (n_laws_szPendS, .go h_laws_szPendS), (n_laws_szTable, .go h_laws_szTable), (n_laws_szCall, .go h_laws_szCall), (n_laws_szCallS, .go h_laws_szCallS), (n_laws_szLine, .go h_laws_szLine), (n_laws_szLineS, .go h_laws_szLineS), (n_laws_szFabric, .go h_laws_szFabric), (n_laws_szDevice, .go h_laws_szDevice), (n_laws_szPost, .go h_laws_szPost), (n_laws_szPostS, .go h_laws_szPostS), (n_laws_szPacket, .go h_laws_szPacket), (n_laws_szPacketS, .go h_laws_szPacketS), (n_laws_szReply, .go h_laws_szReply), (n_laws_szReplyS, .go h_laws_szReplyS), (n_laws_szServed, .go h_laws_szServed), (n_laws_szServedS, .go h_laws_szServedS), (n_laws_szWorld, .go h_laws_szWorld), (n_laws_toRule, .go h_laws_toRule), (n_laws_toRuleS, .go h_laws_toRuleS), (n_laws_toConfig, .go h_laws_toConfig), (n_laws_toIntS, .go h_laws_toIntS), (n_laws_toBoolS, .go h_laws_toBoolS), (n_laws_toReq, .go h_laws_toReq), (n_laws_toPart, .go h_laws_toPart), (n_laws_toPartS, .go h_laws_toPartS), (n_laws_toResp, .go h_laws_toResp), (n_laws_toRespS, .go h_laws_toRespS), (n_laws_toPend, .go h_laws_toPend), (n_laws_toPendS, .go h_laws_toPendS), (n_laws_toTable, .go h_laws_toTable), (n_laws_toCall, .go h_laws_toCall), (n_laws_toCallS, .go h_laws_toCallS), (n_laws_toLine, .go h_laws_toLine), (n_laws_toLineS, .go h_laws_toLineS), (n_laws_toFabric, .go h_laws_toFabric), (n_laws_toDevice, .go h_laws_toDevice), (n_laws_toPost, .go h_laws_toPost), (n_laws_toPostS, .go h_laws_toPostS), (n_laws_toPacket, .go h_laws_toPacket), (n_laws_toPacketS, .go h_laws_toPacketS), (n_laws_toReply, .go h_laws_toReply), (n_laws_toReplyS, .go h_laws_toReplyS), (n_laws_toServed, .go h_laws_toServed), (n_laws_toServedS, .go h_laws_toServedS), (n_laws_toWorld, .go h_laws_toWorld), (n_spec_Quiet, .go h_spec_Quiet), (n_impl_Quiet, .go h_impl_Quiet), (n_laws_eqRule, .go h_laws_eqRule), (n_laws_eqRuleS, .go h_laws_eqRuleS), (n_laws_eqConfig, .go h_laws_eqConfig), (n_laws_eqIntS, .go h_laws_eqIntS), (n_laws_eqBoolS, .go h_laws_eqBoolS), (n_laws_eqReq, .go h_laws_eqReq), (n_laws_eqPart, .go h_laws_eqPart), (n_laws_eqPartS, .go h_laws_eqPartS), (n_laws_eqResp, .go h_laws_eqResp), (n_laws_eqRespS, .go h_laws_eqRespS), (n_laws_eqPend, .go h_laws_eqPend), (n_laws_eqPendS, .go h_laws_eqPendS), (n_laws_eqTable, .go h_laws_eqTable), (n_laws_eqCall, .go h_laws_eqCall), (n_laws_eqCallS, .go h_laws_eqCallS), (n_laws_eqLine, .go h_laws_eqLine), (n_laws_eqLineS, .go h_laws_eqLineS), (n_laws_eqFabric, .go h_laws_eqFabric), (n_laws_eqDevice, .go h_laws_eqDevice), (n_laws_eqPost, .go h_laws_eqPost), (n_laws_eqPostS, .go h_laws_eqPostS), (n_laws_eqPacket, .go h_laws_eqPacket), (n_laws_eqPacketS, .go h_laws_eqPacketS), (n_laws_eqReply, .go h_laws_eqReply), (n_laws_eqReplyS, .go h_laws_eqReplyS), (n_laws_eqServed, .go h_laws_eqServed), (n_laws_eqServedS, .go h_laws_eqServedS), (n_laws_eqWorld, .go h_laws_eqWorld), (n_laws_FnExactQuiet, .go h_laws_FnExactQuiet), (n_spec_Busiest, .go h_spec_Busiest), (n_impl_Busiest, .go h_impl_Busiest), (n_laws_FnExactBusiest, .go h_laws_FnExactBusiest)]
def tab : Tab := fun f => tabL.lookup f
theorem T_laws_szRuleS : tab n_laws_szRuleS = some (.go h_laws_szRuleS) := rfl
theorem T_laws_szConfig : tab n_laws_szConfig = some (.go h_laws_szConfig) := rfl
theorem T_laws_szIntS : tab n_laws_szIntS = some (.go h_laws_szIntS) := rfl
theorem T_laws_szBoolS : tab n_laws_szBoolS = some (.go h_laws_szBoolS) := rfl
theorem T_laws_szReq : tab n_laws_szReq = some (.go h_laws_szReq) := rfl
theorem T_laws_szPart : tab n_laws_szPart = some (.go h_laws_szPart) := rfl
theorem T_laws_szPartS : tab n_laws_szPartS = some (.go h_laws_szPartS) := rfl
theorem T_laws_szResp : tab n_laws_szResp = some (.go h_laws_szResp) := rfl
theorem T_laws_szRespS : tab n_laws_szRespS = some (.go h_laws_szRespS) := rfl
theorem T_laws_szPend : tab n_laws_szPend = some (.go h_laws_szPend) := rfl
theorem T_laws_szPendS : tab n_laws_szPendS = some (.go h_laws_szPendS) := rfl
theorem T_laws_szTable : tab n_laws_szTable = some (.go h_laws_szTable) := rfl
theorem T_laws_szCall : tab n_laws_szCall = some (.go h_laws_szCall) := rfl
theorem T_laws_szCallS : tab n_laws_szCallS = some (.go h_laws_szCallS) := rfl
theorem T_laws_szLine : tab n_laws_szLine = some (.go h_laws_szLine) := rfl
theorem T_laws_szLineS : tab n_laws_szLineS = some (.go h_laws_szLineS) := rfl
theorem T_laws_szFabric : tab n_laws_szFabric = some (.go h_laws_szFabric) := rfl
theorem T_laws_szDevice : tab n_laws_szDevice = some (.go h_laws_szDevice) := rfl
theorem T_laws_szPost : tab n_laws_szPost = some (.go h_laws_szPost) := rfl
theorem T_laws_szPostS : tab n_laws_szPostS = some (.go h_laws_szPostS) := rfl
theorem T_laws_szPacket : tab n_laws_szPacket = some (.go h_laws_szPacket) := rfl
theorem T_laws_szPacketS : tab n_laws_szPacketS = some (.go h_laws_szPacketS) := rfl
theorem T_laws_szReply : tab n_laws_szReply = some (.go h_laws_szReply) := rfl
theorem T_laws_szReplyS : tab n_laws_szReplyS = some (.go h_laws_szReplyS) := rfl
theorem T_laws_szServed : tab n_laws_szServed = some (.go h_laws_szServed) := rfl
theorem T_laws_szServedS : tab n_laws_szServedS = some (.go h_laws_szServedS) := rfl
theorem T_laws_szWorld : tab n_laws_szWorld = some (.go h_laws_szWorld) := rfl
theorem T_laws_toRule : tab n_laws_toRule = some (.go h_laws_toRule) := rfl
theorem T_laws_toRuleS : tab n_laws_toRuleS = some (.go h_laws_toRuleS) := rfl
theorem T_laws_toConfig : tab n_laws_toConfig = some (.go h_laws_toConfig) := rfl
theorem T_laws_toIntS : tab n_laws_toIntS = some (.go h_laws_toIntS) := rfl
theorem T_laws_toBoolS : tab n_laws_toBoolS = some (.go h_laws_toBoolS) := rfl
theorem T_laws_toReq : tab n_laws_toReq = some (.go h_laws_toReq) := rfl
theorem T_laws_toPart : tab n_laws_toPart = some (.go h_laws_toPart) := rfl
theorem T_laws_toPartS : tab n_laws_toPartS = some (.go h_laws_toPartS) := rfl
theorem T_laws_toResp : tab n_laws_toResp = some (.go h_laws_toResp) := rfl
theorem T_laws_toRespS : tab n_laws_toRespS = some (.go h_laws_toRespS) := rfl
theorem T_laws_toPend : tab n_laws_toPend = some (.go h_laws_toPend) := rfl
theorem T_laws_toPendS : tab n_laws_toPendS = some (.go h_laws_toPendS) := rfl
theorem T_laws_toTable : tab n_laws_toTable = some (.go h_laws_toTable) := rfl
theorem T_laws_toCall : tab n_laws_toCall = some (.go h_laws_toCall) := rfl
theorem T_laws_toCallS : tab n_laws_toCallS = some (.go h_laws_toCallS) := rfl
theorem T_laws_toLine : tab n_laws_toLine = some (.go h_laws_toLine) := rfl
theorem T_laws_toLineS : tab n_laws_toLineS = some (.go h_laws_toLineS) := rfl
theorem T_laws_toFabric : tab n_laws_toFabric = some (.go h_laws_toFabric) := rfl
theorem T_laws_toDevice : tab n_laws_toDevice = some (.go h_laws_toDevice) := rfl
theorem T_laws_toPost : tab n_laws_toPost = some (.go h_laws_toPost) := rfl
theorem T_laws_toPostS : tab n_laws_toPostS = some (.go h_laws_toPostS) := rfl
theorem T_laws_toPacket : tab n_laws_toPacket = some (.go h_laws_toPacket) := rfl
theorem T_laws_toPacketS : tab n_laws_toPacketS = some (.go h_laws_toPacketS) := rfl
theorem T_laws_toReply : tab n_laws_toReply = some (.go h_laws_toReply) := rfl
theorem T_laws_toReplyS : tab n_laws_toReplyS = some (.go h_laws_toReplyS) := rfl
theorem T_laws_toServed : tab n_laws_toServed = some (.go h_laws_toServed) := rfl
theorem T_laws_toServedS : tab n_laws_toServedS = some (.go h_laws_toServedS) := rfl
theorem T_laws_toWorld : tab n_laws_toWorld = some (.go h_laws_toWorld) := rfl
theorem T_spec_Quiet : tab n_spec_Quiet = some (.go h_spec_Quiet) := rfl
theorem T_impl_Quiet : tab n_impl_Quiet = some (.go h_impl_Quiet) := rfl
theorem T_laws_eqRule : tab n_laws_eqRule = some (.go h_laws_eqRule) := rfl
theorem T_laws_eqRuleS : tab n_laws_eqRuleS = some (.go h_laws_eqRuleS) := rfl
theorem T_laws_eqConfig : tab n_laws_eqConfig = some (.go h_laws_eqConfig) := rfl
theorem T_laws_eqIntS : tab n_laws_eqIntS = some (.go h_laws_eqIntS) := rfl
theorem T_laws_eqBoolS : tab n_laws_eqBoolS = some (.go h_laws_eqBoolS) := rfl
theorem T_laws_eqReq : tab n_laws_eqReq = some (.go h_laws_eqReq) := rfl
theorem T_laws_eqPart : tab n_laws_eqPart = some (.go h_laws_eqPart) := rfl
theorem T_laws_eqPartS : tab n_laws_eqPartS = some (.go h_laws_eqPartS) := rfl
theorem T_laws_eqResp : tab n_laws_eqResp = some (.go h_laws_eqResp) := rfl
theorem T_laws_eqRespS : tab n_laws_eqRespS = some (.go h_laws_eqRespS) := rfl
theorem T_laws_eqPend : tab n_laws_eqPend = some (.go h_laws_eqPend) := rfl
theorem T_laws_eqPendS : tab n_laws_eqPendS = some (.go h_laws_eqPendS) := rfl
theorem T_laws_eqTable : tab n_laws_eqTable = some (.go h_laws_eqTable) := rfl
theorem T_laws_eqCall : tab n_laws_eqCall = some (.go h_laws_eqCall) := rfl
theorem T_laws_eqCallS : tab n_laws_eqCallS = some (.go h_laws_eqCallS) := rfl
theorem T_laws_eqLine : tab n_laws_eqLine = some (.go h_laws_eqLine) := rfl
theorem T_laws_eqLineS : tab n_laws_eqLineS = some (.go h_laws_eqLineS) := rfl
theorem T_laws_eqFabric : tab n_laws_eqFabric = some (.go h_laws_eqFabric) := rfl
theorem T_laws_eqDevice : tab n_laws_eqDevice = some (.go h_laws_eqDevice) := rfl
theorem T_laws_eqPost : tab n_laws_eqPost = some (.go h_laws_eqPost) := rfl
theorem T_laws_eqPostS : tab n_laws_eqPostS = some (.go h_laws_eqPostS) := rfl
theorem T_laws_eqPacket : tab n_laws_eqPacket = some (.go h_laws_eqPacket) := rfl
theorem T_laws_eqPacketS : tab n_laws_eqPacketS = some (.go h_laws_eqPacketS) := rfl
theorem T_laws_eqReply : tab n_laws_eqReply = some (.go h_laws_eqReply) := rfl
theorem T_laws_eqReplyS : tab n_laws_eqReplyS = some (.go h_laws_eqReplyS) := rfl
theorem T_laws_eqServed : tab n_laws_eqServed = some (.go h_laws_eqServed) := rfl
theorem T_laws_eqServedS : tab n_laws_eqServedS = some (.go h_laws_eqServedS) := rfl
theorem T_laws_eqWorld : tab n_laws_eqWorld = some (.go h_laws_eqWorld) := rfl
theorem T_laws_FnExactQuiet : tab n_laws_FnExactQuiet = some (.go h_laws_FnExactQuiet) := rfl
theorem T_spec_Busiest : tab n_spec_Busiest = some (.go h_spec_Busiest) := rfl
theorem T_impl_Busiest : tab n_impl_Busiest = some (.go h_impl_Busiest) := rfl
theorem T_laws_FnExactBusiest : tab n_laws_FnExactBusiest = some (.go h_laws_FnExactBusiest) := rfl
end Go.Pm

namespace Go.Pm
set_option maxRecDepth 100000
structure TRule where
  fUnit : Int
  fSpace : Int
  fLo : Int
  fHi : Int
  fPort : Int
  fTo : Int
  fShift : Int
def TRule.ic (a : TRule) : List V := [V.int .i64 a.fUnit, V.int .i64 a.fSpace, V.int .i64 a.fLo, V.int .i64 a.fHi, V.int .i64 a.fPort, V.int .i64 a.fTo, V.int .i64 a.fShift]
def TRule.oc (a : TRule) : List V := [V.int .i64 a.fUnit, V.int .i64 a.fSpace, V.int .i64 a.fLo, V.int .i64 a.fHi, V.int .i64 a.fPort, V.int .i64 a.fTo, V.int .i64 a.fShift]
def TRule.i (a : TRule) : V := .agg a.ic
def TRule.o (a : TRule) : V := .agg a.oc
def TRule.sz (_a : TRule) : Nat := 0
structure TConfig where
  fWait : Int
  fTries : Int
  fRules : List TRule
def TConfig.ic (a : TConfig) : List V := [V.int .i64 a.fWait, V.int .i64 a.fTries, V.imm 7 (a.fRules.map TRule.i)]
def TConfig.oc (a : TConfig) : List V := [V.int .i64 a.fWait, V.int .i64 a.fTries, V.own 7 (a.fRules.map TRule.o)]
def TConfig.i (a : TConfig) : V := .agg a.ic
def TConfig.o (a : TConfig) : V := .agg a.oc
def TConfig.sz (a : TConfig) : Nat := a.fRules.length
structure TReq where
  fKind : Int
  fAt : Int
  fN : Int
  fWords : List Int
  fBits : List Bool
  fWAt : Int
def TReq.ic (a : TReq) : List V := [V.int .i64 a.fKind, V.int .i64 a.fAt, V.int .i64 a.fN, V.imm 1 (a.fWords.map (V.int .i64)), V.imm 1 (a.fBits.map V.bool), V.int .i64 a.fWAt]
def TReq.oc (a : TReq) : List V := [V.int .i64 a.fKind, V.int .i64 a.fAt, V.int .i64 a.fN, V.own 1 (a.fWords.map (V.int .i64)), V.own 1 (a.fBits.map V.bool), V.int .i64 a.fWAt]
def TReq.i (a : TReq) : V := .agg a.ic
def TReq.o (a : TReq) : V := .agg a.oc
def TReq.sz (a : TReq) : Nat := a.fWords.length + a.fBits.length
structure TPart where
  fPort : Int
  fUnit : Int
  fReq : TReq
def TPart.ic (a : TPart) : List V := [V.int .i64 a.fPort, V.int .i64 a.fUnit, V.int .i64 a.fReq.fKind, V.int .i64 a.fReq.fAt, V.int .i64 a.fReq.fN, V.imm 1 (a.fReq.fWords.map (V.int .i64)), V.imm 1 (a.fReq.fBits.map V.bool), V.int .i64 a.fReq.fWAt]
def TPart.oc (a : TPart) : List V := [V.int .i64 a.fPort, V.int .i64 a.fUnit, V.int .i64 a.fReq.fKind, V.int .i64 a.fReq.fAt, V.int .i64 a.fReq.fN, V.own 1 (a.fReq.fWords.map (V.int .i64)), V.own 1 (a.fReq.fBits.map V.bool), V.int .i64 a.fReq.fWAt]
def TPart.i (a : TPart) : V := .agg a.ic
def TPart.o (a : TPart) : V := .agg a.oc
def TPart.sz (a : TPart) : Nat := a.fReq.sz
structure TResp where
  fKind : Int
  fFault : Int
  fAt : Int
  fN : Int
  fWords : List Int
  fBits : List Bool
def TResp.ic (a : TResp) : List V := [V.int .i64 a.fKind, V.int .i64 a.fFault, V.int .i64 a.fAt, V.int .i64 a.fN, V.imm 1 (a.fWords.map (V.int .i64)), V.imm 1 (a.fBits.map V.bool)]
def TResp.oc (a : TResp) : List V := [V.int .i64 a.fKind, V.int .i64 a.fFault, V.int .i64 a.fAt, V.int .i64 a.fN, V.own 1 (a.fWords.map (V.int .i64)), V.own 1 (a.fBits.map V.bool)]
def TResp.i (a : TResp) : V := .agg a.ic
def TResp.o (a : TResp) : V := .agg a.oc
def TResp.sz (a : TResp) : Nat := a.fWords.length + a.fBits.length
structure TPend where
  fId : Int
  fSource : Int
  fTag : Int
  fUnit : Int
  fReq : TReq
  fParts : List TPart
  fHas : List Bool
  fTold : List TResp
def TPend.ic (a : TPend) : List V := [V.int .i64 a.fId, V.int .i64 a.fSource, V.int .i64 a.fTag, V.int .i64 a.fUnit, V.int .i64 a.fReq.fKind, V.int .i64 a.fReq.fAt, V.int .i64 a.fReq.fN, V.imm 1 (a.fReq.fWords.map (V.int .i64)), V.imm 1 (a.fReq.fBits.map V.bool), V.int .i64 a.fReq.fWAt, V.imm 8 (a.fParts.map TPart.i), V.imm 1 (a.fHas.map V.bool), V.imm 6 (a.fTold.map TResp.i)]
def TPend.oc (a : TPend) : List V := [V.int .i64 a.fId, V.int .i64 a.fSource, V.int .i64 a.fTag, V.int .i64 a.fUnit, V.int .i64 a.fReq.fKind, V.int .i64 a.fReq.fAt, V.int .i64 a.fReq.fN, V.own 1 (a.fReq.fWords.map (V.int .i64)), V.own 1 (a.fReq.fBits.map V.bool), V.int .i64 a.fReq.fWAt, V.own 8 (a.fParts.map TPart.o), V.own 1 (a.fHas.map V.bool), V.own 6 (a.fTold.map TResp.o)]
def TPend.i (a : TPend) : V := .agg a.ic
def TPend.o (a : TPend) : V := .agg a.oc
def TPend.sz (a : TPend) : Nat := a.fReq.sz + (a.fParts.length + (a.fParts.map TPart.sz).sum) + a.fHas.length + (a.fTold.length + (a.fTold.map TResp.sz).sum)
structure TTable where
  fNext : Int
  fList : List TPend
def TTable.ic (a : TTable) : List V := [V.int .i64 a.fNext, V.imm 13 (a.fList.map TPend.i)]
def TTable.oc (a : TTable) : List V := [V.int .i64 a.fNext, V.own 13 (a.fList.map TPend.o)]
def TTable.i (a : TTable) : V := .agg a.ic
def TTable.o (a : TTable) : V := .agg a.oc
def TTable.sz (a : TTable) : Nat := (a.fList.length + (a.fList.map TPend.sz).sum)
structure TCall where
  fId : Int
  fPart : Int
  fUnit : Int
  fReq : TReq
def TCall.ic (a : TCall) : List V := [V.int .i64 a.fId, V.int .i64 a.fPart, V.int .i64 a.fUnit, V.int .i64 a.fReq.fKind, V.int .i64 a.fReq.fAt, V.int .i64 a.fReq.fN, V.imm 1 (a.fReq.fWords.map (V.int .i64)), V.imm 1 (a.fReq.fBits.map V.bool), V.int .i64 a.fReq.fWAt]
def TCall.oc (a : TCall) : List V := [V.int .i64 a.fId, V.int .i64 a.fPart, V.int .i64 a.fUnit, V.int .i64 a.fReq.fKind, V.int .i64 a.fReq.fAt, V.int .i64 a.fReq.fN, V.own 1 (a.fReq.fWords.map (V.int .i64)), V.own 1 (a.fReq.fBits.map V.bool), V.int .i64 a.fReq.fWAt]
def TCall.i (a : TCall) : V := .agg a.ic
def TCall.o (a : TCall) : V := .agg a.oc
def TCall.sz (a : TCall) : Nat := a.fReq.sz
structure TLine where
  fQueue : List TCall
  fBusy : Bool
  fCall : TCall
  fNumber : Int
  fDue : Int
  fLeft : Int
  fNext : Int
  fWait : Int
  fTries : Int
def TLine.ic (a : TLine) : List V := [V.imm 9 (a.fQueue.map TCall.i), V.bool a.fBusy, V.int .i64 a.fCall.fId, V.int .i64 a.fCall.fPart, V.int .i64 a.fCall.fUnit, V.int .i64 a.fCall.fReq.fKind, V.int .i64 a.fCall.fReq.fAt, V.int .i64 a.fCall.fReq.fN, V.imm 1 (a.fCall.fReq.fWords.map (V.int .i64)), V.imm 1 (a.fCall.fReq.fBits.map V.bool), V.int .i64 a.fCall.fReq.fWAt, V.int .i64 a.fNumber, V.int .i64 a.fDue, V.int .i64 a.fLeft, V.int .i64 a.fNext, V.int .i64 a.fWait, V.int .i64 a.fTries]
def TLine.oc (a : TLine) : List V := [V.own 9 (a.fQueue.map TCall.o), V.bool a.fBusy, V.int .i64 a.fCall.fId, V.int .i64 a.fCall.fPart, V.int .i64 a.fCall.fUnit, V.int .i64 a.fCall.fReq.fKind, V.int .i64 a.fCall.fReq.fAt, V.int .i64 a.fCall.fReq.fN, V.own 1 (a.fCall.fReq.fWords.map (V.int .i64)), V.own 1 (a.fCall.fReq.fBits.map V.bool), V.int .i64 a.fCall.fReq.fWAt, V.int .i64 a.fNumber, V.int .i64 a.fDue, V.int .i64 a.fLeft, V.int .i64 a.fNext, V.int .i64 a.fWait, V.int .i64 a.fTries]
def TLine.i (a : TLine) : V := .agg a.ic
def TLine.o (a : TLine) : V := .agg a.oc
def TLine.sz (a : TLine) : Nat := (a.fQueue.length + (a.fQueue.map TCall.sz).sum) + a.fCall.sz
structure TFabric where
  fNow : Int
  fSet : TConfig
  fOpen : TTable
  fLines : List TLine
  fAsked : Int
  fReplied : Int
  fFaults : Int
  fSent : Int
def TFabric.ic (a : TFabric) : List V := [V.int .i64 a.fNow, V.int .i64 a.fSet.fWait, V.int .i64 a.fSet.fTries, V.imm 7 (a.fSet.fRules.map TRule.i), V.int .i64 a.fOpen.fNext, V.imm 13 (a.fOpen.fList.map TPend.i), V.imm 17 (a.fLines.map TLine.i), V.int .i64 a.fAsked, V.int .i64 a.fReplied, V.int .i64 a.fFaults, V.int .i64 a.fSent]
def TFabric.oc (a : TFabric) : List V := [V.int .i64 a.fNow, V.int .i64 a.fSet.fWait, V.int .i64 a.fSet.fTries, V.own 7 (a.fSet.fRules.map TRule.o), V.int .i64 a.fOpen.fNext, V.own 13 (a.fOpen.fList.map TPend.o), V.own 17 (a.fLines.map TLine.o), V.int .i64 a.fAsked, V.int .i64 a.fReplied, V.int .i64 a.fFaults, V.int .i64 a.fSent]
def TFabric.i (a : TFabric) : V := .agg a.ic
def TFabric.o (a : TFabric) : V := .agg a.oc
def TFabric.sz (a : TFabric) : Nat := a.fSet.sz + a.fOpen.sz + (a.fLines.length + (a.fLines.map TLine.sz).sum)
structure TDevice where
  fCoils : List Bool
  fInputs : List Bool
  fHolding : List Int
  fWords : List Int
def TDevice.ic (a : TDevice) : List V := [V.imm 1 (a.fCoils.map V.bool), V.imm 1 (a.fInputs.map V.bool), V.imm 1 (a.fHolding.map (V.int .i64)), V.imm 1 (a.fWords.map (V.int .i64))]
def TDevice.oc (a : TDevice) : List V := [V.own 1 (a.fCoils.map V.bool), V.own 1 (a.fInputs.map V.bool), V.own 1 (a.fHolding.map (V.int .i64)), V.own 1 (a.fWords.map (V.int .i64))]
def TDevice.i (a : TDevice) : V := .agg a.ic
def TDevice.o (a : TDevice) : V := .agg a.oc
def TDevice.sz (a : TDevice) : Nat := a.fCoils.length + a.fInputs.length + a.fHolding.length + a.fWords.length
structure TPost where
  fPort : Int
  fUnit : Int
  fD : TDevice
def TPost.ic (a : TPost) : List V := [V.int .i64 a.fPort, V.int .i64 a.fUnit, V.imm 1 (a.fD.fCoils.map V.bool), V.imm 1 (a.fD.fInputs.map V.bool), V.imm 1 (a.fD.fHolding.map (V.int .i64)), V.imm 1 (a.fD.fWords.map (V.int .i64))]
def TPost.oc (a : TPost) : List V := [V.int .i64 a.fPort, V.int .i64 a.fUnit, V.own 1 (a.fD.fCoils.map V.bool), V.own 1 (a.fD.fInputs.map V.bool), V.own 1 (a.fD.fHolding.map (V.int .i64)), V.own 1 (a.fD.fWords.map (V.int .i64))]
def TPost.i (a : TPost) : V := .agg a.ic
def TPost.o (a : TPost) : V := .agg a.oc
def TPost.sz (a : TPost) : Nat := a.fD.sz
structure TPacket where
  fBack : Bool
  fPort : Int
  fNumber : Int
  fUnit : Int
  fReq : TReq
  fResp : TResp
def TPacket.ic (a : TPacket) : List V := [V.bool a.fBack, V.int .i64 a.fPort, V.int .i64 a.fNumber, V.int .i64 a.fUnit, V.int .i64 a.fReq.fKind, V.int .i64 a.fReq.fAt, V.int .i64 a.fReq.fN, V.imm 1 (a.fReq.fWords.map (V.int .i64)), V.imm 1 (a.fReq.fBits.map V.bool), V.int .i64 a.fReq.fWAt, V.int .i64 a.fResp.fKind, V.int .i64 a.fResp.fFault, V.int .i64 a.fResp.fAt, V.int .i64 a.fResp.fN, V.imm 1 (a.fResp.fWords.map (V.int .i64)), V.imm 1 (a.fResp.fBits.map V.bool)]
def TPacket.oc (a : TPacket) : List V := [V.bool a.fBack, V.int .i64 a.fPort, V.int .i64 a.fNumber, V.int .i64 a.fUnit, V.int .i64 a.fReq.fKind, V.int .i64 a.fReq.fAt, V.int .i64 a.fReq.fN, V.own 1 (a.fReq.fWords.map (V.int .i64)), V.own 1 (a.fReq.fBits.map V.bool), V.int .i64 a.fReq.fWAt, V.int .i64 a.fResp.fKind, V.int .i64 a.fResp.fFault, V.int .i64 a.fResp.fAt, V.int .i64 a.fResp.fN, V.own 1 (a.fResp.fWords.map (V.int .i64)), V.own 1 (a.fResp.fBits.map V.bool)]
def TPacket.i (a : TPacket) : V := .agg a.ic
def TPacket.o (a : TPacket) : V := .agg a.oc
def TPacket.sz (a : TPacket) : Nat := a.fReq.sz + a.fResp.sz
structure TReply where
  fSource : Int
  fTag : Int
  fReq : TReq
  fParts : List TPart
  fTold : List TResp
  fResp : TResp
def TReply.ic (a : TReply) : List V := [V.int .i64 a.fSource, V.int .i64 a.fTag, V.int .i64 a.fReq.fKind, V.int .i64 a.fReq.fAt, V.int .i64 a.fReq.fN, V.imm 1 (a.fReq.fWords.map (V.int .i64)), V.imm 1 (a.fReq.fBits.map V.bool), V.int .i64 a.fReq.fWAt, V.imm 8 (a.fParts.map TPart.i), V.imm 6 (a.fTold.map TResp.i), V.int .i64 a.fResp.fKind, V.int .i64 a.fResp.fFault, V.int .i64 a.fResp.fAt, V.int .i64 a.fResp.fN, V.imm 1 (a.fResp.fWords.map (V.int .i64)), V.imm 1 (a.fResp.fBits.map V.bool)]
def TReply.oc (a : TReply) : List V := [V.int .i64 a.fSource, V.int .i64 a.fTag, V.int .i64 a.fReq.fKind, V.int .i64 a.fReq.fAt, V.int .i64 a.fReq.fN, V.own 1 (a.fReq.fWords.map (V.int .i64)), V.own 1 (a.fReq.fBits.map V.bool), V.int .i64 a.fReq.fWAt, V.own 8 (a.fParts.map TPart.o), V.own 6 (a.fTold.map TResp.o), V.int .i64 a.fResp.fKind, V.int .i64 a.fResp.fFault, V.int .i64 a.fResp.fAt, V.int .i64 a.fResp.fN, V.own 1 (a.fResp.fWords.map (V.int .i64)), V.own 1 (a.fResp.fBits.map V.bool)]
def TReply.i (a : TReply) : V := .agg a.ic
def TReply.o (a : TReply) : V := .agg a.oc
def TReply.sz (a : TReply) : Nat := a.fReq.sz + (a.fParts.length + (a.fParts.map TPart.sz).sum) + (a.fTold.length + (a.fTold.map TResp.sz).sum) + a.fResp.sz
structure TServed where
  fPort : Int
  fNumber : Int
  fUnit : Int
  fReq : TReq
  fResp : TResp
def TServed.ic (a : TServed) : List V := [V.int .i64 a.fPort, V.int .i64 a.fNumber, V.int .i64 a.fUnit, V.int .i64 a.fReq.fKind, V.int .i64 a.fReq.fAt, V.int .i64 a.fReq.fN, V.imm 1 (a.fReq.fWords.map (V.int .i64)), V.imm 1 (a.fReq.fBits.map V.bool), V.int .i64 a.fReq.fWAt, V.int .i64 a.fResp.fKind, V.int .i64 a.fResp.fFault, V.int .i64 a.fResp.fAt, V.int .i64 a.fResp.fN, V.imm 1 (a.fResp.fWords.map (V.int .i64)), V.imm 1 (a.fResp.fBits.map V.bool)]
def TServed.oc (a : TServed) : List V := [V.int .i64 a.fPort, V.int .i64 a.fNumber, V.int .i64 a.fUnit, V.int .i64 a.fReq.fKind, V.int .i64 a.fReq.fAt, V.int .i64 a.fReq.fN, V.own 1 (a.fReq.fWords.map (V.int .i64)), V.own 1 (a.fReq.fBits.map V.bool), V.int .i64 a.fReq.fWAt, V.int .i64 a.fResp.fKind, V.int .i64 a.fResp.fFault, V.int .i64 a.fResp.fAt, V.int .i64 a.fResp.fN, V.own 1 (a.fResp.fWords.map (V.int .i64)), V.own 1 (a.fResp.fBits.map V.bool)]
def TServed.i (a : TServed) : V := .agg a.ic
def TServed.o (a : TServed) : V := .agg a.oc
def TServed.sz (a : TServed) : Nat := a.fReq.sz + a.fResp.sz
structure TWorld where
  fF : TFabric
  fPosts : List TPost
  fNet : List TPacket
  fReplies : List TReply
  fServed : List TServed
def TWorld.ic (a : TWorld) : List V := [V.int .i64 a.fF.fNow, V.int .i64 a.fF.fSet.fWait, V.int .i64 a.fF.fSet.fTries, V.imm 7 (a.fF.fSet.fRules.map TRule.i), V.int .i64 a.fF.fOpen.fNext, V.imm 13 (a.fF.fOpen.fList.map TPend.i), V.imm 17 (a.fF.fLines.map TLine.i), V.int .i64 a.fF.fAsked, V.int .i64 a.fF.fReplied, V.int .i64 a.fF.fFaults, V.int .i64 a.fF.fSent, V.imm 6 (a.fPosts.map TPost.i), V.imm 16 (a.fNet.map TPacket.i), V.imm 16 (a.fReplies.map TReply.i), V.imm 15 (a.fServed.map TServed.i)]
def TWorld.oc (a : TWorld) : List V := [V.int .i64 a.fF.fNow, V.int .i64 a.fF.fSet.fWait, V.int .i64 a.fF.fSet.fTries, V.own 7 (a.fF.fSet.fRules.map TRule.o), V.int .i64 a.fF.fOpen.fNext, V.own 13 (a.fF.fOpen.fList.map TPend.o), V.own 17 (a.fF.fLines.map TLine.o), V.int .i64 a.fF.fAsked, V.int .i64 a.fF.fReplied, V.int .i64 a.fF.fFaults, V.int .i64 a.fF.fSent, V.own 6 (a.fPosts.map TPost.o), V.own 16 (a.fNet.map TPacket.o), V.own 16 (a.fReplies.map TReply.o), V.own 15 (a.fServed.map TServed.o)]
def TWorld.i (a : TWorld) : V := .agg a.ic
def TWorld.o (a : TWorld) : V := .agg a.oc
def TWorld.sz (a : TWorld) : Nat := a.fF.sz + (a.fPosts.length + (a.fPosts.map TPost.sz).sum) + (a.fNet.length + (a.fNet.map TPacket.sz).sum) + (a.fReplies.length + (a.fReplies.map TReply.sz).sum) + (a.fServed.length + (a.fServed.map TServed.sz).sum)
def TRule.ok (a : TRule) : Prop := (-9223372036854775808 ≤ a.fUnit ∧ a.fUnit ≤ 9223372036854775807) ∧ (-9223372036854775808 ≤ a.fSpace ∧ a.fSpace ≤ 9223372036854775807) ∧ (-9223372036854775808 ≤ a.fLo ∧ a.fLo ≤ 9223372036854775807) ∧ (-9223372036854775808 ≤ a.fHi ∧ a.fHi ≤ 9223372036854775807) ∧ (-9223372036854775808 ≤ a.fPort ∧ a.fPort ≤ 9223372036854775807) ∧ (-9223372036854775808 ≤ a.fTo ∧ a.fTo ≤ 9223372036854775807) ∧ (-9223372036854775808 ≤ a.fShift ∧ a.fShift ≤ 9223372036854775807)

def TConfig.ok (a : TConfig) : Prop := (-9223372036854775808 ≤ a.fWait ∧ a.fWait ≤ 9223372036854775807) ∧ (-9223372036854775808 ≤ a.fTries ∧ a.fTries ≤ 9223372036854775807) ∧ a.fRules.length ≤ 9223372036854775807 ∧ (∀ x ∈ a.fRules, x.ok)

def TReq.ok (a : TReq) : Prop := (-9223372036854775808 ≤ a.fKind ∧ a.fKind ≤ 9223372036854775807) ∧ (-9223372036854775808 ≤ a.fAt ∧ a.fAt ≤ 9223372036854775807) ∧ (-9223372036854775808 ≤ a.fN ∧ a.fN ≤ 9223372036854775807) ∧ a.fWords.length ≤ 9223372036854775807 ∧ (∀ x ∈ a.fWords, -9223372036854775808 ≤ x ∧ x ≤ 9223372036854775807) ∧ a.fBits.length ≤ 9223372036854775807 ∧ (-9223372036854775808 ≤ a.fWAt ∧ a.fWAt ≤ 9223372036854775807)

def TPart.ok (a : TPart) : Prop := (-9223372036854775808 ≤ a.fPort ∧ a.fPort ≤ 9223372036854775807) ∧ (-9223372036854775808 ≤ a.fUnit ∧ a.fUnit ≤ 9223372036854775807) ∧ a.fReq.ok

def TResp.ok (a : TResp) : Prop := (-9223372036854775808 ≤ a.fKind ∧ a.fKind ≤ 9223372036854775807) ∧ (-9223372036854775808 ≤ a.fFault ∧ a.fFault ≤ 9223372036854775807) ∧ (-9223372036854775808 ≤ a.fAt ∧ a.fAt ≤ 9223372036854775807) ∧ (-9223372036854775808 ≤ a.fN ∧ a.fN ≤ 9223372036854775807) ∧ a.fWords.length ≤ 9223372036854775807 ∧ (∀ x ∈ a.fWords, -9223372036854775808 ≤ x ∧ x ≤ 9223372036854775807) ∧ a.fBits.length ≤ 9223372036854775807

def TPend.ok (a : TPend) : Prop := (-9223372036854775808 ≤ a.fId ∧ a.fId ≤ 9223372036854775807) ∧ (-9223372036854775808 ≤ a.fSource ∧ a.fSource ≤ 9223372036854775807) ∧ (-9223372036854775808 ≤ a.fTag ∧ a.fTag ≤ 9223372036854775807) ∧ (-9223372036854775808 ≤ a.fUnit ∧ a.fUnit ≤ 9223372036854775807) ∧ a.fReq.ok ∧ a.fParts.length ≤ 9223372036854775807 ∧ (∀ x ∈ a.fParts, x.ok) ∧ a.fHas.length ≤ 9223372036854775807 ∧ a.fTold.length ≤ 9223372036854775807 ∧ (∀ x ∈ a.fTold, x.ok)

def TTable.ok (a : TTable) : Prop := (-9223372036854775808 ≤ a.fNext ∧ a.fNext ≤ 9223372036854775807) ∧ a.fList.length ≤ 9223372036854775807 ∧ (∀ x ∈ a.fList, x.ok)

def TCall.ok (a : TCall) : Prop := (-9223372036854775808 ≤ a.fId ∧ a.fId ≤ 9223372036854775807) ∧ (-9223372036854775808 ≤ a.fPart ∧ a.fPart ≤ 9223372036854775807) ∧ (-9223372036854775808 ≤ a.fUnit ∧ a.fUnit ≤ 9223372036854775807) ∧ a.fReq.ok

def TLine.ok (a : TLine) : Prop := a.fQueue.length ≤ 9223372036854775807 ∧ (∀ x ∈ a.fQueue, x.ok) ∧ a.fCall.ok ∧ (-9223372036854775808 ≤ a.fNumber ∧ a.fNumber ≤ 9223372036854775807) ∧ (-9223372036854775808 ≤ a.fDue ∧ a.fDue ≤ 9223372036854775807) ∧ (-9223372036854775808 ≤ a.fLeft ∧ a.fLeft ≤ 9223372036854775807) ∧ (-9223372036854775808 ≤ a.fNext ∧ a.fNext ≤ 9223372036854775807) ∧ (-9223372036854775808 ≤ a.fWait ∧ a.fWait ≤ 9223372036854775807) ∧ (-9223372036854775808 ≤ a.fTries ∧ a.fTries ≤ 9223372036854775807)

def TFabric.ok (a : TFabric) : Prop := (-9223372036854775808 ≤ a.fNow ∧ a.fNow ≤ 9223372036854775807) ∧ a.fSet.ok ∧ a.fOpen.ok ∧ a.fLines.length ≤ 9223372036854775807 ∧ (∀ x ∈ a.fLines, x.ok) ∧ (-9223372036854775808 ≤ a.fAsked ∧ a.fAsked ≤ 9223372036854775807) ∧ (-9223372036854775808 ≤ a.fReplied ∧ a.fReplied ≤ 9223372036854775807) ∧ (-9223372036854775808 ≤ a.fFaults ∧ a.fFaults ≤ 9223372036854775807) ∧ (-9223372036854775808 ≤ a.fSent ∧ a.fSent ≤ 9223372036854775807)

def TDevice.ok (a : TDevice) : Prop := a.fCoils.length ≤ 9223372036854775807 ∧ a.fInputs.length ≤ 9223372036854775807 ∧ a.fHolding.length ≤ 9223372036854775807 ∧ (∀ x ∈ a.fHolding, -9223372036854775808 ≤ x ∧ x ≤ 9223372036854775807) ∧ a.fWords.length ≤ 9223372036854775807 ∧ (∀ x ∈ a.fWords, -9223372036854775808 ≤ x ∧ x ≤ 9223372036854775807)

def TPost.ok (a : TPost) : Prop := (-9223372036854775808 ≤ a.fPort ∧ a.fPort ≤ 9223372036854775807) ∧ (-9223372036854775808 ≤ a.fUnit ∧ a.fUnit ≤ 9223372036854775807) ∧ a.fD.ok

def TPacket.ok (a : TPacket) : Prop := (-9223372036854775808 ≤ a.fPort ∧ a.fPort ≤ 9223372036854775807) ∧ (-9223372036854775808 ≤ a.fNumber ∧ a.fNumber ≤ 9223372036854775807) ∧ (-9223372036854775808 ≤ a.fUnit ∧ a.fUnit ≤ 9223372036854775807) ∧ a.fReq.ok ∧ a.fResp.ok

def TReply.ok (a : TReply) : Prop := (-9223372036854775808 ≤ a.fSource ∧ a.fSource ≤ 9223372036854775807) ∧ (-9223372036854775808 ≤ a.fTag ∧ a.fTag ≤ 9223372036854775807) ∧ a.fReq.ok ∧ a.fParts.length ≤ 9223372036854775807 ∧ (∀ x ∈ a.fParts, x.ok) ∧ a.fTold.length ≤ 9223372036854775807 ∧ (∀ x ∈ a.fTold, x.ok) ∧ a.fResp.ok

def TServed.ok (a : TServed) : Prop := (-9223372036854775808 ≤ a.fPort ∧ a.fPort ≤ 9223372036854775807) ∧ (-9223372036854775808 ≤ a.fNumber ∧ a.fNumber ≤ 9223372036854775807) ∧ (-9223372036854775808 ≤ a.fUnit ∧ a.fUnit ≤ 9223372036854775807) ∧ a.fReq.ok ∧ a.fResp.ok

def TWorld.ok (a : TWorld) : Prop := a.fF.ok ∧ a.fPosts.length ≤ 9223372036854775807 ∧ (∀ x ∈ a.fPosts, x.ok) ∧ a.fNet.length ≤ 9223372036854775807 ∧ (∀ x ∈ a.fNet, x.ok) ∧ a.fReplies.length ≤ 9223372036854775807 ∧ (∀ x ∈ a.fReplies, x.ok) ∧ a.fServed.length ≤ 9223372036854775807 ∧ (∀ x ∈ a.fServed, x.ok)

def z_Rule : V := .agg [V.int .i64 0, V.int .i64 0, V.int .i64 0, V.int .i64 0, V.int .i64 0, V.int .i64 0, V.int .i64 0]

def z_Part : V := .agg [V.int .i64 0, V.int .i64 0, V.int .i64 0, V.int .i64 0, V.int .i64 0, V.own 1 [], V.own 1 [], V.int .i64 0]

def z_Resp : V := .agg [V.int .i64 0, V.int .i64 0, V.int .i64 0, V.int .i64 0, V.own 1 [], V.own 1 []]

def z_Pend : V := .agg [V.int .i64 0, V.int .i64 0, V.int .i64 0, V.int .i64 0, V.int .i64 0, V.int .i64 0, V.int .i64 0, V.own 1 [], V.own 1 [], V.int .i64 0, V.own 8 [], V.own 1 [], V.own 6 []]

def z_Call : V := .agg [V.int .i64 0, V.int .i64 0, V.int .i64 0, V.int .i64 0, V.int .i64 0, V.int .i64 0, V.own 1 [], V.own 1 [], V.int .i64 0]

def z_Line : V := .agg [V.own 9 [], V.bool false, V.int .i64 0, V.int .i64 0, V.int .i64 0, V.int .i64 0, V.int .i64 0, V.int .i64 0, V.own 1 [], V.own 1 [], V.int .i64 0, V.int .i64 0, V.int .i64 0, V.int .i64 0, V.int .i64 0, V.int .i64 0, V.int .i64 0]

def z_Post : V := .agg [V.int .i64 0, V.int .i64 0, V.own 1 [], V.own 1 [], V.own 1 [], V.own 1 []]

def z_Packet : V := .agg [V.bool false, V.int .i64 0, V.int .i64 0, V.int .i64 0, V.int .i64 0, V.int .i64 0, V.int .i64 0, V.own 1 [], V.own 1 [], V.int .i64 0, V.int .i64 0, V.int .i64 0, V.int .i64 0, V.int .i64 0, V.own 1 [], V.own 1 []]

def z_Reply : V := .agg [V.int .i64 0, V.int .i64 0, V.int .i64 0, V.int .i64 0, V.int .i64 0, V.own 1 [], V.own 1 [], V.int .i64 0, V.own 8 [], V.own 6 [], V.int .i64 0, V.int .i64 0, V.int .i64 0, V.int .i64 0, V.own 1 [], V.own 1 []]

def z_Served : V := .agg [V.int .i64 0, V.int .i64 0, V.int .i64 0, V.int .i64 0, V.int .i64 0, V.int .i64 0, V.own 1 [], V.own 1 [], V.int .i64 0, V.int .i64 0, V.int .i64 0, V.int .i64 0, V.int .i64 0, V.own 1 [], V.own 1 []]

attribute [local simp] RunC_seq RunC_cond RunC_block RunC_skip RunC_exit RunC_ret RunC_region runOps St.wanted St.step St.dest St.settle St.settleLeaf St.rd V.borrowAll V.borrow borrows V.killVar1 St.fin V.unloc1 St.finish St.rdRes tupV St.takesAll St.view St.views St.viewLeaf V.cells bnd binV intBin St.rds St.passes St.windows St.backs St.land flatV scal unV St.cont St.root St.take St.takeLeaf St.takes St.freeze St.freezeLeaf St.freezes V.killBox1 V.leafwise St.settles lenV intV V.only1 St.viewsAll V.fresh V.freshL St.putCells St.putCell St.put St.get St.setCont St.setRoot Root.okAt St.kill V.kill1
attribute [local simp] RunC_draw runD St.only evalP St.peek HOp.pure St.listOk V.whole V.parts V.isGone V.notGone St.stepD St.destD chkD RunC_loop St.trim V.under V.under1 V.like V.like1 V.cells1 V.erase V.eraseL take_map_len lt_len

theorem fresh_IntS (xs : List Int) : V.freshL (xs.map (V.int .i64)) = true := freshL_map (fun _ => rfl) xs
theorem erase_IntS (xs : List Int) : V.eraseL (xs.map (V.int .i64)) = xs.map (V.int .i64) := eraseL_map (fun _ => rfl) xs

theorem fresh_BoolS (xs : List Bool) : V.freshL (xs.map V.bool) = true := freshL_map (fun _ => rfl) xs
theorem erase_BoolS (xs : List Bool) : V.eraseL (xs.map V.bool) = xs.map V.bool := eraseL_map (fun _ => rfl) xs

theorem fresh_RuleS (xs : List TRule) : V.freshL (xs.map TRule.o) = true := freshL_map (fun a => by simp [TRule.o, TRule.oc]) xs
theorem erase_RuleS (xs : List TRule) : V.eraseL (xs.map TRule.o) = xs.map TRule.i := eraseL_map (fun a => by simp [TRule.o, TRule.oc, TRule.i, TRule.ic]) xs

theorem fresh_PartS (xs : List TPart) : V.freshL (xs.map TPart.o) = true := freshL_map (fun a => by simp [TPart.o, TPart.oc, fresh_IntS, fresh_BoolS]) xs
theorem erase_PartS (xs : List TPart) : V.eraseL (xs.map TPart.o) = xs.map TPart.i := eraseL_map (fun a => by simp [TPart.o, TPart.oc, TPart.i, TPart.ic, erase_IntS, erase_BoolS]) xs

theorem fresh_RespS (xs : List TResp) : V.freshL (xs.map TResp.o) = true := freshL_map (fun a => by simp [TResp.o, TResp.oc, fresh_IntS, fresh_BoolS]) xs
theorem erase_RespS (xs : List TResp) : V.eraseL (xs.map TResp.o) = xs.map TResp.i := eraseL_map (fun a => by simp [TResp.o, TResp.oc, TResp.i, TResp.ic, erase_IntS, erase_BoolS]) xs

theorem fresh_PendS (xs : List TPend) : V.freshL (xs.map TPend.o) = true := freshL_map (fun a => by simp [TPend.o, TPend.oc, fresh_IntS, fresh_BoolS, fresh_PartS, fresh_RespS]) xs
theorem erase_PendS (xs : List TPend) : V.eraseL (xs.map TPend.o) = xs.map TPend.i := eraseL_map (fun a => by simp [TPend.o, TPend.oc, TPend.i, TPend.ic, erase_IntS, erase_BoolS, erase_PartS, erase_RespS]) xs

theorem fresh_CallS (xs : List TCall) : V.freshL (xs.map TCall.o) = true := freshL_map (fun a => by simp [TCall.o, TCall.oc, fresh_IntS, fresh_BoolS]) xs
theorem erase_CallS (xs : List TCall) : V.eraseL (xs.map TCall.o) = xs.map TCall.i := eraseL_map (fun a => by simp [TCall.o, TCall.oc, TCall.i, TCall.ic, erase_IntS, erase_BoolS]) xs

theorem fresh_LineS (xs : List TLine) : V.freshL (xs.map TLine.o) = true := freshL_map (fun a => by simp [TLine.o, TLine.oc, fresh_CallS, fresh_IntS, fresh_BoolS]) xs
theorem erase_LineS (xs : List TLine) : V.eraseL (xs.map TLine.o) = xs.map TLine.i := eraseL_map (fun a => by simp [TLine.o, TLine.oc, TLine.i, TLine.ic, erase_CallS, erase_IntS, erase_BoolS]) xs

theorem fresh_PostS (xs : List TPost) : V.freshL (xs.map TPost.o) = true := freshL_map (fun a => by simp [TPost.o, TPost.oc, fresh_BoolS, fresh_IntS]) xs
theorem erase_PostS (xs : List TPost) : V.eraseL (xs.map TPost.o) = xs.map TPost.i := eraseL_map (fun a => by simp [TPost.o, TPost.oc, TPost.i, TPost.ic, erase_BoolS, erase_IntS]) xs

theorem fresh_PacketS (xs : List TPacket) : V.freshL (xs.map TPacket.o) = true := freshL_map (fun a => by simp [TPacket.o, TPacket.oc, fresh_IntS, fresh_BoolS]) xs
theorem erase_PacketS (xs : List TPacket) : V.eraseL (xs.map TPacket.o) = xs.map TPacket.i := eraseL_map (fun a => by simp [TPacket.o, TPacket.oc, TPacket.i, TPacket.ic, erase_IntS, erase_BoolS]) xs

theorem fresh_ReplyS (xs : List TReply) : V.freshL (xs.map TReply.o) = true := freshL_map (fun a => by simp [TReply.o, TReply.oc, fresh_IntS, fresh_BoolS, fresh_PartS, fresh_RespS]) xs
theorem erase_ReplyS (xs : List TReply) : V.eraseL (xs.map TReply.o) = xs.map TReply.i := eraseL_map (fun a => by simp [TReply.o, TReply.oc, TReply.i, TReply.ic, erase_IntS, erase_BoolS, erase_PartS, erase_RespS]) xs

theorem fresh_ServedS (xs : List TServed) : V.freshL (xs.map TServed.o) = true := freshL_map (fun a => by simp [TServed.o, TServed.oc, fresh_IntS, fresh_BoolS]) xs
theorem erase_ServedS (xs : List TServed) : V.eraseL (xs.map TServed.o) = xs.map TServed.i := eraseL_map (fun a => by simp [TServed.o, TServed.oc, TServed.i, TServed.ic, erase_IntS, erase_BoolS]) xs

end Go.Pm

namespace Go.Pm
set_option maxRecDepth 100000
attribute [local simp] RunC_seq RunC_cond RunC_block RunC_skip RunC_exit RunC_ret RunC_region runOps St.wanted St.step St.dest St.settle St.settleLeaf St.rd V.borrowAll V.borrow borrows V.killVar1 St.fin V.unloc1 St.finish St.rdRes tupV St.takesAll St.view St.views St.viewLeaf V.cells bnd binV intBin St.rds St.passes St.windows St.backs St.land flatV scal unV St.cont St.root St.take St.takeLeaf St.takes St.freeze St.freezeLeaf St.freezes V.killBox1 V.leafwise St.settles lenV intV V.only1 St.viewsAll V.fresh V.freshL St.putCells St.putCell St.put St.get St.setCont St.setRoot Root.okAt St.kill V.kill1
attribute [local simp] RunC_draw runD St.only evalP St.peek HOp.pure St.listOk V.whole V.parts V.isGone V.notGone St.stepD St.destD chkD RunC_loop St.trim V.under V.under1 V.like V.like1 V.cells1 V.erase V.eraseL take_map_len lt_len

theorem to_IntS (xs : List Int) (hl : xs.length ≤ 1048576) : Run tab n_laws_toIntS [.imm 1 (xs.map (V.int .i64))] [] = some (.own 1 (xs.map (V.int .i64)), []) := by
  rw [Run_go T_laws_toIntS _ _ rfl]
  have hm : xs.length * 8 ≤ 70368744177664 := by omega
  have hloop := iter_list (T := tab) (ns := 5) (nb := 0) (dead := [1, 4]) (xs := xs) (ex := .exit 0) (P := fun _ _ => True) (b := l_laws_toIntS_0)
    (J := fun d t => ⟨[.imm 1 (xs.map (V.int .i64)), .gone, .own 1 (d.map (V.int .i64) ++ List.replicate t.length (.int .i64 0)), .int .i64 d.length, .gone], []⟩) trivial (by simp)
    (s := ⟨[.imm 1 (xs.map (V.int .i64)), .own 1 [], .own 1 (List.replicate xs.length (.int .i64 0)), .int .i64 0, .gone], []⟩)
    (sE := ⟨[.imm 1 (xs.map (V.int .i64)), .gone, .own 1 (xs.map (V.int .i64)), .int .i64 xs.length, .bool false], []⟩)
    (fun d x t he _ => by
      have hlt : d.length < xs.length := by rw [← he]; simp
      have hw := wrap_len (a := d.length) (by omega)
      simp [l_laws_toIntS_0, ← he, hw, List.replicate_succ])
    (fun _ => by simp [l_laws_toIntS_0]) (by simp)
  have hm' : xs.length ≤ 70368744177664 := by omega
  simp [h_laws_toIntS, hm, hloop]

theorem to_BoolS (xs : List Bool) (hl : xs.length ≤ 1048576) : Run tab n_laws_toBoolS [.imm 1 (xs.map V.bool)] [] = some (.own 1 (xs.map V.bool), []) := by
  rw [Run_go T_laws_toBoolS _ _ rfl]
  have hm : xs.length * 1 ≤ 70368744177664 := by omega
  have hloop := iter_list (T := tab) (ns := 5) (nb := 0) (dead := [1, 4]) (xs := xs) (ex := .exit 0) (P := fun _ _ => True) (b := l_laws_toBoolS_0)
    (J := fun d t => ⟨[.imm 1 (xs.map V.bool), .gone, .own 1 (d.map V.bool ++ List.replicate t.length (.bool false)), .int .i64 d.length, .gone], []⟩) trivial (by simp)
    (s := ⟨[.imm 1 (xs.map V.bool), .own 1 [], .own 1 (List.replicate xs.length (.bool false)), .int .i64 0, .gone], []⟩)
    (sE := ⟨[.imm 1 (xs.map V.bool), .gone, .own 1 (xs.map V.bool), .int .i64 xs.length, .bool false], []⟩)
    (fun d x t he _ => by
      have hlt : d.length < xs.length := by rw [← he]; simp
      have hw := wrap_len (a := d.length) (by omega)
      simp [l_laws_toBoolS_0, ← he, hw, List.replicate_succ])
    (fun _ => by simp [l_laws_toBoolS_0]) (by simp)
  have hm' : xs.length ≤ 70368744177664 := by omega
  simp [h_laws_toBoolS, hm', hloop]

theorem to_Rule (a : TRule) (h : a.sz ≤ 1048576) : Run tab n_laws_toRule [.agg [V.int .i64 a.fUnit, V.int .i64 a.fSpace, V.int .i64 a.fLo, V.int .i64 a.fHi, V.int .i64 a.fPort, V.int .i64 a.fTo, V.int .i64 a.fShift]] [] = some (.agg [V.int .i64 a.fUnit, V.int .i64 a.fSpace, V.int .i64 a.fLo, V.int .i64 a.fHi, V.int .i64 a.fPort, V.int .i64 a.fTo, V.int .i64 a.fShift], []) := by
  simp only [TRule.sz] at h
  rw [Run_go T_laws_toRule _ _ rfl]
  simp [h_laws_toRule]

theorem to_RuleS (xs : List TRule) (hl : xs.length ≤ 1048576) : Run tab n_laws_toRuleS [.imm 7 (xs.map TRule.i)] [] = some (.own 7 (xs.map TRule.o), []) := by
  rw [Run_go T_laws_toRuleS _ _ rfl]
  have hm : xs.length * 56 ≤ 70368744177664 := by omega
  have hloop := iter_list (T := tab) (ns := 5) (nb := 0) (dead := [1, 4]) (xs := xs) (ex := .exit 0) (P := fun _ _ => True) (b := l_laws_toRuleS_0)
    (J := fun d t => ⟨[.imm 7 (xs.map TRule.i), .gone, .own 7 (d.map TRule.o ++ List.replicate t.length z_Rule), .int .i64 d.length, .gone], []⟩) trivial (by simp)
    (s := ⟨[.imm 7 (xs.map TRule.i), .own 7 [], .own 7 (List.replicate xs.length z_Rule), .int .i64 0, .gone], []⟩)
    (sE := ⟨[.imm 7 (xs.map TRule.i), .gone, .own 7 (xs.map TRule.o), .int .i64 xs.length, .bool false], []⟩)
    (fun d x t he _ => by
      have hlt : d.length < xs.length := by rw [← he]; simp
      have hw := wrap_len (a := d.length) (by omega)
      have hx : x.sz ≤ 1048576 := by simp [TRule.sz]
      have hX := to_Rule x hx
      simp [l_laws_toRuleS_0, ← he, hw, List.replicate_succ, TRule.i, TRule.ic, TRule.o, TRule.oc, z_Rule, hX])
    (fun _ => by simp [l_laws_toRuleS_0]) (by simp)
  simp [h_laws_toRuleS, hm, z_Rule] at hloop ⊢
  simp [hloop]

theorem to_Config (a : TConfig) (h : a.sz ≤ 1048576) : Run tab n_laws_toConfig [.agg [V.int .i64 a.fWait, V.int .i64 a.fTries, V.imm 7 (a.fRules.map TRule.i)]] [] = some (.agg [V.int .i64 a.fWait, V.int .i64 a.fTries, V.own 7 (a.fRules.map TRule.o)], []) := by
  simp only [TConfig.sz] at h
  rw [Run_go T_laws_toConfig _ _ rfl]
  have u0 := to_RuleS a.fRules (by omega)
  simp [h_laws_toConfig, u0, fresh_RuleS]

theorem to_Req (a : TReq) (h : a.sz ≤ 1048576) : Run tab n_laws_toReq [.agg [V.int .i64 a.fKind, V.int .i64 a.fAt, V.int .i64 a.fN, V.imm 1 (a.fWords.map (V.int .i64)), V.imm 1 (a.fBits.map V.bool), V.int .i64 a.fWAt]] [] = some (.agg [V.int .i64 a.fKind, V.int .i64 a.fAt, V.int .i64 a.fN, V.own 1 (a.fWords.map (V.int .i64)), V.own 1 (a.fBits.map V.bool), V.int .i64 a.fWAt], []) := by
  simp only [TReq.sz] at h
  rw [Run_go T_laws_toReq _ _ rfl]
  have u0 := to_IntS a.fWords (by omega)
  have u1 := to_BoolS a.fBits (by omega)
  simp [h_laws_toReq, u0, u1, fresh_IntS, fresh_BoolS]

theorem to_Part (a : TPart) (h : a.sz ≤ 1048576) : Run tab n_laws_toPart [.agg [V.int .i64 a.fPort, V.int .i64 a.fUnit, V.int .i64 a.fReq.fKind, V.int .i64 a.fReq.fAt, V.int .i64 a.fReq.fN, V.imm 1 (a.fReq.fWords.map (V.int .i64)), V.imm 1 (a.fReq.fBits.map V.bool), V.int .i64 a.fReq.fWAt]] [] = some (.agg [V.int .i64 a.fPort, V.int .i64 a.fUnit, V.int .i64 a.fReq.fKind, V.int .i64 a.fReq.fAt, V.int .i64 a.fReq.fN, V.own 1 (a.fReq.fWords.map (V.int .i64)), V.own 1 (a.fReq.fBits.map V.bool), V.int .i64 a.fReq.fWAt], []) := by
  simp only [TPart.sz] at h
  rw [Run_go T_laws_toPart _ _ rfl]
  have u0 := to_Req a.fReq (by omega)
  simp [h_laws_toPart, u0, fresh_IntS, fresh_BoolS]

theorem to_PartS (xs : List TPart) (hl : xs.length + (xs.map TPart.sz).sum ≤ 1048576) : Run tab n_laws_toPartS [.imm 8 (xs.map TPart.i)] [] = some (.own 8 (xs.map TPart.o), []) := by
  rw [Run_go T_laws_toPartS _ _ rfl]
  have hm : xs.length * 96 ≤ 70368744177664 := by omega
  have hloop := iter_list (T := tab) (ns := 5) (nb := 0) (dead := [1, 4]) (xs := xs) (ex := .exit 0) (P := fun _ _ => True) (b := l_laws_toPartS_0)
    (J := fun d t => ⟨[.imm 8 (xs.map TPart.i), .gone, .own 8 (d.map TPart.o ++ List.replicate t.length z_Part), .int .i64 d.length, .gone], []⟩) trivial (by simp)
    (s := ⟨[.imm 8 (xs.map TPart.i), .own 8 [], .own 8 (List.replicate xs.length z_Part), .int .i64 0, .gone], []⟩)
    (sE := ⟨[.imm 8 (xs.map TPart.i), .gone, .own 8 (xs.map TPart.o), .int .i64 xs.length, .bool false], []⟩)
    (fun d x t he _ => by
      have hlt : d.length < xs.length := by rw [← he]; simp
      have hw := wrap_len (a := d.length) (by omega)
      have hx : x.sz ≤ 1048576 := by rw [← he] at hl; simp at hl; omega
      have hX := to_Part x hx
      simp [l_laws_toPartS_0, ← he, hw, List.replicate_succ, TPart.i, TPart.ic, TPart.o, TPart.oc, z_Part, hX, fresh_IntS, fresh_BoolS])
    (fun _ => by simp [l_laws_toPartS_0]) (by simp)
  simp [h_laws_toPartS, hm, z_Part] at hloop ⊢
  simp [hloop]

theorem to_Resp (a : TResp) (h : a.sz ≤ 1048576) : Run tab n_laws_toResp [.agg [V.int .i64 a.fKind, V.int .i64 a.fFault, V.int .i64 a.fAt, V.int .i64 a.fN, V.imm 1 (a.fWords.map (V.int .i64)), V.imm 1 (a.fBits.map V.bool)]] [] = some (.agg [V.int .i64 a.fKind, V.int .i64 a.fFault, V.int .i64 a.fAt, V.int .i64 a.fN, V.own 1 (a.fWords.map (V.int .i64)), V.own 1 (a.fBits.map V.bool)], []) := by
  simp only [TResp.sz] at h
  rw [Run_go T_laws_toResp _ _ rfl]
  have u0 := to_IntS a.fWords (by omega)
  have u1 := to_BoolS a.fBits (by omega)
  simp [h_laws_toResp, u0, u1, fresh_IntS, fresh_BoolS]

theorem to_RespS (xs : List TResp) (hl : xs.length + (xs.map TResp.sz).sum ≤ 1048576) : Run tab n_laws_toRespS [.imm 6 (xs.map TResp.i)] [] = some (.own 6 (xs.map TResp.o), []) := by
  rw [Run_go T_laws_toRespS _ _ rfl]
  have hm : xs.length * 80 ≤ 70368744177664 := by omega
  have hloop := iter_list (T := tab) (ns := 5) (nb := 0) (dead := [1, 4]) (xs := xs) (ex := .exit 0) (P := fun _ _ => True) (b := l_laws_toRespS_0)
    (J := fun d t => ⟨[.imm 6 (xs.map TResp.i), .gone, .own 6 (d.map TResp.o ++ List.replicate t.length z_Resp), .int .i64 d.length, .gone], []⟩) trivial (by simp)
    (s := ⟨[.imm 6 (xs.map TResp.i), .own 6 [], .own 6 (List.replicate xs.length z_Resp), .int .i64 0, .gone], []⟩)
    (sE := ⟨[.imm 6 (xs.map TResp.i), .gone, .own 6 (xs.map TResp.o), .int .i64 xs.length, .bool false], []⟩)
    (fun d x t he _ => by
      have hlt : d.length < xs.length := by rw [← he]; simp
      have hw := wrap_len (a := d.length) (by omega)
      have hx : x.sz ≤ 1048576 := by rw [← he] at hl; simp at hl; omega
      have hX := to_Resp x hx
      simp [l_laws_toRespS_0, ← he, hw, List.replicate_succ, TResp.i, TResp.ic, TResp.o, TResp.oc, z_Resp, hX, fresh_IntS, fresh_BoolS])
    (fun _ => by simp [l_laws_toRespS_0]) (by simp)
  simp [h_laws_toRespS, hm, z_Resp] at hloop ⊢
  simp [hloop]

theorem to_Pend (a : TPend) (h : a.sz ≤ 1048576) : Run tab n_laws_toPend [.agg [V.int .i64 a.fId, V.int .i64 a.fSource, V.int .i64 a.fTag, V.int .i64 a.fUnit, V.int .i64 a.fReq.fKind, V.int .i64 a.fReq.fAt, V.int .i64 a.fReq.fN, V.imm 1 (a.fReq.fWords.map (V.int .i64)), V.imm 1 (a.fReq.fBits.map V.bool), V.int .i64 a.fReq.fWAt, V.imm 8 (a.fParts.map TPart.i), V.imm 1 (a.fHas.map V.bool), V.imm 6 (a.fTold.map TResp.i)]] [] = some (.agg [V.int .i64 a.fId, V.int .i64 a.fSource, V.int .i64 a.fTag, V.int .i64 a.fUnit, V.int .i64 a.fReq.fKind, V.int .i64 a.fReq.fAt, V.int .i64 a.fReq.fN, V.own 1 (a.fReq.fWords.map (V.int .i64)), V.own 1 (a.fReq.fBits.map V.bool), V.int .i64 a.fReq.fWAt, V.own 8 (a.fParts.map TPart.o), V.own 1 (a.fHas.map V.bool), V.own 6 (a.fTold.map TResp.o)], []) := by
  simp only [TPend.sz] at h
  rw [Run_go T_laws_toPend _ _ rfl]
  have u0 := to_Req a.fReq (by omega)
  have u1 := to_PartS a.fParts (by omega)
  have u2 := to_BoolS a.fHas (by omega)
  have u3 := to_RespS a.fTold (by omega)
  simp [h_laws_toPend, u0, u1, u2, u3, fresh_IntS, fresh_BoolS, fresh_PartS, fresh_RespS]

theorem to_PendS (xs : List TPend) (hl : xs.length + (xs.map TPend.sz).sum ≤ 1048576) : Run tab n_laws_toPendS [.imm 13 (xs.map TPend.i)] [] = some (.own 13 (xs.map TPend.o), []) := by
  rw [Run_go T_laws_toPendS _ _ rfl]
  have hm : xs.length * 184 ≤ 70368744177664 := by omega
  have hloop := iter_list (T := tab) (ns := 5) (nb := 0) (dead := [1, 4]) (xs := xs) (ex := .exit 0) (P := fun _ _ => True) (b := l_laws_toPendS_0)
    (J := fun d t => ⟨[.imm 13 (xs.map TPend.i), .gone, .own 13 (d.map TPend.o ++ List.replicate t.length z_Pend), .int .i64 d.length, .gone], []⟩) trivial (by simp)
    (s := ⟨[.imm 13 (xs.map TPend.i), .own 13 [], .own 13 (List.replicate xs.length z_Pend), .int .i64 0, .gone], []⟩)
    (sE := ⟨[.imm 13 (xs.map TPend.i), .gone, .own 13 (xs.map TPend.o), .int .i64 xs.length, .bool false], []⟩)
    (fun d x t he _ => by
      have hlt : d.length < xs.length := by rw [← he]; simp
      have hw := wrap_len (a := d.length) (by omega)
      have hx : x.sz ≤ 1048576 := by rw [← he] at hl; simp at hl; omega
      have hX := to_Pend x hx
      simp [l_laws_toPendS_0, ← he, hw, List.replicate_succ, TPend.i, TPend.ic, TPend.o, TPend.oc, z_Pend, hX, fresh_IntS, fresh_BoolS, fresh_PartS, fresh_RespS])
    (fun _ => by simp [l_laws_toPendS_0]) (by simp)
  simp [h_laws_toPendS, hm, z_Pend] at hloop ⊢
  simp [hloop]

theorem to_Table (a : TTable) (h : a.sz ≤ 1048576) : Run tab n_laws_toTable [.agg [V.int .i64 a.fNext, V.imm 13 (a.fList.map TPend.i)]] [] = some (.agg [V.int .i64 a.fNext, V.own 13 (a.fList.map TPend.o)], []) := by
  simp only [TTable.sz] at h
  rw [Run_go T_laws_toTable _ _ rfl]
  have u0 := to_PendS a.fList (by omega)
  simp [h_laws_toTable, u0, fresh_PendS]

theorem to_Call (a : TCall) (h : a.sz ≤ 1048576) : Run tab n_laws_toCall [.agg [V.int .i64 a.fId, V.int .i64 a.fPart, V.int .i64 a.fUnit, V.int .i64 a.fReq.fKind, V.int .i64 a.fReq.fAt, V.int .i64 a.fReq.fN, V.imm 1 (a.fReq.fWords.map (V.int .i64)), V.imm 1 (a.fReq.fBits.map V.bool), V.int .i64 a.fReq.fWAt]] [] = some (.agg [V.int .i64 a.fId, V.int .i64 a.fPart, V.int .i64 a.fUnit, V.int .i64 a.fReq.fKind, V.int .i64 a.fReq.fAt, V.int .i64 a.fReq.fN, V.own 1 (a.fReq.fWords.map (V.int .i64)), V.own 1 (a.fReq.fBits.map V.bool), V.int .i64 a.fReq.fWAt], []) := by
  simp only [TCall.sz] at h
  rw [Run_go T_laws_toCall _ _ rfl]
  have u0 := to_Req a.fReq (by omega)
  simp [h_laws_toCall, u0, fresh_IntS, fresh_BoolS]

theorem to_CallS (xs : List TCall) (hl : xs.length + (xs.map TCall.sz).sum ≤ 1048576) : Run tab n_laws_toCallS [.imm 9 (xs.map TCall.i)] [] = some (.own 9 (xs.map TCall.o), []) := by
  rw [Run_go T_laws_toCallS _ _ rfl]
  have hm : xs.length * 104 ≤ 70368744177664 := by omega
  have hloop := iter_list (T := tab) (ns := 5) (nb := 0) (dead := [1, 4]) (xs := xs) (ex := .exit 0) (P := fun _ _ => True) (b := l_laws_toCallS_0)
    (J := fun d t => ⟨[.imm 9 (xs.map TCall.i), .gone, .own 9 (d.map TCall.o ++ List.replicate t.length z_Call), .int .i64 d.length, .gone], []⟩) trivial (by simp)
    (s := ⟨[.imm 9 (xs.map TCall.i), .own 9 [], .own 9 (List.replicate xs.length z_Call), .int .i64 0, .gone], []⟩)
    (sE := ⟨[.imm 9 (xs.map TCall.i), .gone, .own 9 (xs.map TCall.o), .int .i64 xs.length, .bool false], []⟩)
    (fun d x t he _ => by
      have hlt : d.length < xs.length := by rw [← he]; simp
      have hw := wrap_len (a := d.length) (by omega)
      have hx : x.sz ≤ 1048576 := by rw [← he] at hl; simp at hl; omega
      have hX := to_Call x hx
      simp [l_laws_toCallS_0, ← he, hw, List.replicate_succ, TCall.i, TCall.ic, TCall.o, TCall.oc, z_Call, hX, fresh_IntS, fresh_BoolS])
    (fun _ => by simp [l_laws_toCallS_0]) (by simp)
  simp [h_laws_toCallS, hm, z_Call] at hloop ⊢
  simp [hloop]

theorem to_Line (a : TLine) (h : a.sz ≤ 1048576) : Run tab n_laws_toLine [.agg [V.imm 9 (a.fQueue.map TCall.i), V.bool a.fBusy, V.int .i64 a.fCall.fId, V.int .i64 a.fCall.fPart, V.int .i64 a.fCall.fUnit, V.int .i64 a.fCall.fReq.fKind, V.int .i64 a.fCall.fReq.fAt, V.int .i64 a.fCall.fReq.fN, V.imm 1 (a.fCall.fReq.fWords.map (V.int .i64)), V.imm 1 (a.fCall.fReq.fBits.map V.bool), V.int .i64 a.fCall.fReq.fWAt, V.int .i64 a.fNumber, V.int .i64 a.fDue, V.int .i64 a.fLeft, V.int .i64 a.fNext, V.int .i64 a.fWait, V.int .i64 a.fTries]] [] = some (.agg [V.own 9 (a.fQueue.map TCall.o), V.bool a.fBusy, V.int .i64 a.fCall.fId, V.int .i64 a.fCall.fPart, V.int .i64 a.fCall.fUnit, V.int .i64 a.fCall.fReq.fKind, V.int .i64 a.fCall.fReq.fAt, V.int .i64 a.fCall.fReq.fN, V.own 1 (a.fCall.fReq.fWords.map (V.int .i64)), V.own 1 (a.fCall.fReq.fBits.map V.bool), V.int .i64 a.fCall.fReq.fWAt, V.int .i64 a.fNumber, V.int .i64 a.fDue, V.int .i64 a.fLeft, V.int .i64 a.fNext, V.int .i64 a.fWait, V.int .i64 a.fTries], []) := by
  simp only [TLine.sz] at h
  rw [Run_go T_laws_toLine _ _ rfl]
  have u0 := to_CallS a.fQueue (by omega)
  have u1 := to_Call a.fCall (by omega)
  simp [h_laws_toLine, u0, u1, fresh_CallS, fresh_IntS, fresh_BoolS]

theorem to_LineS (xs : List TLine) (hl : xs.length + (xs.map TLine.sz).sum ≤ 1048576) : Run tab n_laws_toLineS [.imm 17 (xs.map TLine.i)] [] = some (.own 17 (xs.map TLine.o), []) := by
  rw [Run_go T_laws_toLineS _ _ rfl]
  have hm : xs.length * 184 ≤ 70368744177664 := by omega
  have hloop := iter_list (T := tab) (ns := 5) (nb := 0) (dead := [1, 4]) (xs := xs) (ex := .exit 0) (P := fun _ _ => True) (b := l_laws_toLineS_0)
    (J := fun d t => ⟨[.imm 17 (xs.map TLine.i), .gone, .own 17 (d.map TLine.o ++ List.replicate t.length z_Line), .int .i64 d.length, .gone], []⟩) trivial (by simp)
    (s := ⟨[.imm 17 (xs.map TLine.i), .own 17 [], .own 17 (List.replicate xs.length z_Line), .int .i64 0, .gone], []⟩)
    (sE := ⟨[.imm 17 (xs.map TLine.i), .gone, .own 17 (xs.map TLine.o), .int .i64 xs.length, .bool false], []⟩)
    (fun d x t he _ => by
      have hlt : d.length < xs.length := by rw [← he]; simp
      have hw := wrap_len (a := d.length) (by omega)
      have hx : x.sz ≤ 1048576 := by rw [← he] at hl; simp at hl; omega
      have hX := to_Line x hx
      simp [l_laws_toLineS_0, ← he, hw, List.replicate_succ, TLine.i, TLine.ic, TLine.o, TLine.oc, z_Line, hX, fresh_CallS, fresh_IntS, fresh_BoolS])
    (fun _ => by simp [l_laws_toLineS_0]) (by simp)
  simp [h_laws_toLineS, hm, z_Line] at hloop ⊢
  simp [hloop]

theorem to_Fabric (a : TFabric) (h : a.sz ≤ 1048576) : Run tab n_laws_toFabric [.agg [V.int .i64 a.fNow, V.int .i64 a.fSet.fWait, V.int .i64 a.fSet.fTries, V.imm 7 (a.fSet.fRules.map TRule.i), V.int .i64 a.fOpen.fNext, V.imm 13 (a.fOpen.fList.map TPend.i), V.imm 17 (a.fLines.map TLine.i), V.int .i64 a.fAsked, V.int .i64 a.fReplied, V.int .i64 a.fFaults, V.int .i64 a.fSent]] [] = some (.agg [V.int .i64 a.fNow, V.int .i64 a.fSet.fWait, V.int .i64 a.fSet.fTries, V.own 7 (a.fSet.fRules.map TRule.o), V.int .i64 a.fOpen.fNext, V.own 13 (a.fOpen.fList.map TPend.o), V.own 17 (a.fLines.map TLine.o), V.int .i64 a.fAsked, V.int .i64 a.fReplied, V.int .i64 a.fFaults, V.int .i64 a.fSent], []) := by
  simp only [TFabric.sz] at h
  rw [Run_go T_laws_toFabric _ _ rfl]
  have u0 := to_Config a.fSet (by omega)
  have u1 := to_Table a.fOpen (by omega)
  have u2 := to_LineS a.fLines (by omega)
  simp [h_laws_toFabric, u0, u1, u2, fresh_RuleS, fresh_PendS, fresh_LineS]

theorem to_Device (a : TDevice) (h : a.sz ≤ 1048576) : Run tab n_laws_toDevice [.agg [V.imm 1 (a.fCoils.map V.bool), V.imm 1 (a.fInputs.map V.bool), V.imm 1 (a.fHolding.map (V.int .i64)), V.imm 1 (a.fWords.map (V.int .i64))]] [] = some (.agg [V.own 1 (a.fCoils.map V.bool), V.own 1 (a.fInputs.map V.bool), V.own 1 (a.fHolding.map (V.int .i64)), V.own 1 (a.fWords.map (V.int .i64))], []) := by
  simp only [TDevice.sz] at h
  rw [Run_go T_laws_toDevice _ _ rfl]
  have u0 := to_BoolS a.fCoils (by omega)
  have u1 := to_BoolS a.fInputs (by omega)
  have u2 := to_IntS a.fHolding (by omega)
  have u3 := to_IntS a.fWords (by omega)
  simp [h_laws_toDevice, u0, u1, u2, u3, fresh_BoolS, fresh_IntS]

theorem to_Post (a : TPost) (h : a.sz ≤ 1048576) : Run tab n_laws_toPost [.agg [V.int .i64 a.fPort, V.int .i64 a.fUnit, V.imm 1 (a.fD.fCoils.map V.bool), V.imm 1 (a.fD.fInputs.map V.bool), V.imm 1 (a.fD.fHolding.map (V.int .i64)), V.imm 1 (a.fD.fWords.map (V.int .i64))]] [] = some (.agg [V.int .i64 a.fPort, V.int .i64 a.fUnit, V.own 1 (a.fD.fCoils.map V.bool), V.own 1 (a.fD.fInputs.map V.bool), V.own 1 (a.fD.fHolding.map (V.int .i64)), V.own 1 (a.fD.fWords.map (V.int .i64))], []) := by
  simp only [TPost.sz] at h
  rw [Run_go T_laws_toPost _ _ rfl]
  have u0 := to_Device a.fD (by omega)
  simp [h_laws_toPost, u0, fresh_BoolS, fresh_IntS]

theorem to_PostS (xs : List TPost) (hl : xs.length + (xs.map TPost.sz).sum ≤ 1048576) : Run tab n_laws_toPostS [.imm 6 (xs.map TPost.i)] [] = some (.own 6 (xs.map TPost.o), []) := by
  rw [Run_go T_laws_toPostS _ _ rfl]
  have hm : xs.length * 112 ≤ 70368744177664 := by omega
  have hloop := iter_list (T := tab) (ns := 5) (nb := 0) (dead := [1, 4]) (xs := xs) (ex := .exit 0) (P := fun _ _ => True) (b := l_laws_toPostS_0)
    (J := fun d t => ⟨[.imm 6 (xs.map TPost.i), .gone, .own 6 (d.map TPost.o ++ List.replicate t.length z_Post), .int .i64 d.length, .gone], []⟩) trivial (by simp)
    (s := ⟨[.imm 6 (xs.map TPost.i), .own 6 [], .own 6 (List.replicate xs.length z_Post), .int .i64 0, .gone], []⟩)
    (sE := ⟨[.imm 6 (xs.map TPost.i), .gone, .own 6 (xs.map TPost.o), .int .i64 xs.length, .bool false], []⟩)
    (fun d x t he _ => by
      have hlt : d.length < xs.length := by rw [← he]; simp
      have hw := wrap_len (a := d.length) (by omega)
      have hx : x.sz ≤ 1048576 := by rw [← he] at hl; simp at hl; omega
      have hX := to_Post x hx
      simp [l_laws_toPostS_0, ← he, hw, List.replicate_succ, TPost.i, TPost.ic, TPost.o, TPost.oc, z_Post, hX, fresh_BoolS, fresh_IntS])
    (fun _ => by simp [l_laws_toPostS_0]) (by simp)
  simp [h_laws_toPostS, hm, z_Post] at hloop ⊢
  simp [hloop]

theorem to_Packet (a : TPacket) (h : a.sz ≤ 1048576) : Run tab n_laws_toPacket [.agg [V.bool a.fBack, V.int .i64 a.fPort, V.int .i64 a.fNumber, V.int .i64 a.fUnit, V.int .i64 a.fReq.fKind, V.int .i64 a.fReq.fAt, V.int .i64 a.fReq.fN, V.imm 1 (a.fReq.fWords.map (V.int .i64)), V.imm 1 (a.fReq.fBits.map V.bool), V.int .i64 a.fReq.fWAt, V.int .i64 a.fResp.fKind, V.int .i64 a.fResp.fFault, V.int .i64 a.fResp.fAt, V.int .i64 a.fResp.fN, V.imm 1 (a.fResp.fWords.map (V.int .i64)), V.imm 1 (a.fResp.fBits.map V.bool)]] [] = some (.agg [V.bool a.fBack, V.int .i64 a.fPort, V.int .i64 a.fNumber, V.int .i64 a.fUnit, V.int .i64 a.fReq.fKind, V.int .i64 a.fReq.fAt, V.int .i64 a.fReq.fN, V.own 1 (a.fReq.fWords.map (V.int .i64)), V.own 1 (a.fReq.fBits.map V.bool), V.int .i64 a.fReq.fWAt, V.int .i64 a.fResp.fKind, V.int .i64 a.fResp.fFault, V.int .i64 a.fResp.fAt, V.int .i64 a.fResp.fN, V.own 1 (a.fResp.fWords.map (V.int .i64)), V.own 1 (a.fResp.fBits.map V.bool)], []) := by
  simp only [TPacket.sz] at h
  rw [Run_go T_laws_toPacket _ _ rfl]
  have u0 := to_Req a.fReq (by omega)
  have u1 := to_Resp a.fResp (by omega)
  simp [h_laws_toPacket, u0, u1, fresh_IntS, fresh_BoolS]

theorem to_PacketS (xs : List TPacket) (hl : xs.length + (xs.map TPacket.sz).sum ≤ 1048576) : Run tab n_laws_toPacketS [.imm 16 (xs.map TPacket.i)] [] = some (.own 16 (xs.map TPacket.o), []) := by
  rw [Run_go T_laws_toPacketS _ _ rfl]
  have hm : xs.length * 192 ≤ 70368744177664 := by omega
  have hloop := iter_list (T := tab) (ns := 5) (nb := 0) (dead := [1, 4]) (xs := xs) (ex := .exit 0) (P := fun _ _ => True) (b := l_laws_toPacketS_0)
    (J := fun d t => ⟨[.imm 16 (xs.map TPacket.i), .gone, .own 16 (d.map TPacket.o ++ List.replicate t.length z_Packet), .int .i64 d.length, .gone], []⟩) trivial (by simp)
    (s := ⟨[.imm 16 (xs.map TPacket.i), .own 16 [], .own 16 (List.replicate xs.length z_Packet), .int .i64 0, .gone], []⟩)
    (sE := ⟨[.imm 16 (xs.map TPacket.i), .gone, .own 16 (xs.map TPacket.o), .int .i64 xs.length, .bool false], []⟩)
    (fun d x t he _ => by
      have hlt : d.length < xs.length := by rw [← he]; simp
      have hw := wrap_len (a := d.length) (by omega)
      have hx : x.sz ≤ 1048576 := by rw [← he] at hl; simp at hl; omega
      have hX := to_Packet x hx
      simp [l_laws_toPacketS_0, ← he, hw, List.replicate_succ, TPacket.i, TPacket.ic, TPacket.o, TPacket.oc, z_Packet, hX, fresh_IntS, fresh_BoolS])
    (fun _ => by simp [l_laws_toPacketS_0]) (by simp)
  simp [h_laws_toPacketS, hm, z_Packet] at hloop ⊢
  simp [hloop]

theorem to_Reply (a : TReply) (h : a.sz ≤ 1048576) : Run tab n_laws_toReply [.agg [V.int .i64 a.fSource, V.int .i64 a.fTag, V.int .i64 a.fReq.fKind, V.int .i64 a.fReq.fAt, V.int .i64 a.fReq.fN, V.imm 1 (a.fReq.fWords.map (V.int .i64)), V.imm 1 (a.fReq.fBits.map V.bool), V.int .i64 a.fReq.fWAt, V.imm 8 (a.fParts.map TPart.i), V.imm 6 (a.fTold.map TResp.i), V.int .i64 a.fResp.fKind, V.int .i64 a.fResp.fFault, V.int .i64 a.fResp.fAt, V.int .i64 a.fResp.fN, V.imm 1 (a.fResp.fWords.map (V.int .i64)), V.imm 1 (a.fResp.fBits.map V.bool)]] [] = some (.agg [V.int .i64 a.fSource, V.int .i64 a.fTag, V.int .i64 a.fReq.fKind, V.int .i64 a.fReq.fAt, V.int .i64 a.fReq.fN, V.own 1 (a.fReq.fWords.map (V.int .i64)), V.own 1 (a.fReq.fBits.map V.bool), V.int .i64 a.fReq.fWAt, V.own 8 (a.fParts.map TPart.o), V.own 6 (a.fTold.map TResp.o), V.int .i64 a.fResp.fKind, V.int .i64 a.fResp.fFault, V.int .i64 a.fResp.fAt, V.int .i64 a.fResp.fN, V.own 1 (a.fResp.fWords.map (V.int .i64)), V.own 1 (a.fResp.fBits.map V.bool)], []) := by
  simp only [TReply.sz] at h
  rw [Run_go T_laws_toReply _ _ rfl]
  have u0 := to_Req a.fReq (by omega)
  have u1 := to_PartS a.fParts (by omega)
  have u2 := to_RespS a.fTold (by omega)
  have u3 := to_Resp a.fResp (by omega)
  simp [h_laws_toReply, u0, u1, u2, u3, fresh_IntS, fresh_BoolS, fresh_PartS, fresh_RespS]

theorem to_ReplyS (xs : List TReply) (hl : xs.length + (xs.map TReply.sz).sum ≤ 1048576) : Run tab n_laws_toReplyS [.imm 16 (xs.map TReply.i)] [] = some (.own 16 (xs.map TReply.o), []) := by
  rw [Run_go T_laws_toReplyS _ _ rfl]
  have hm : xs.length * 224 ≤ 70368744177664 := by omega
  have hloop := iter_list (T := tab) (ns := 5) (nb := 0) (dead := [1, 4]) (xs := xs) (ex := .exit 0) (P := fun _ _ => True) (b := l_laws_toReplyS_0)
    (J := fun d t => ⟨[.imm 16 (xs.map TReply.i), .gone, .own 16 (d.map TReply.o ++ List.replicate t.length z_Reply), .int .i64 d.length, .gone], []⟩) trivial (by simp)
    (s := ⟨[.imm 16 (xs.map TReply.i), .own 16 [], .own 16 (List.replicate xs.length z_Reply), .int .i64 0, .gone], []⟩)
    (sE := ⟨[.imm 16 (xs.map TReply.i), .gone, .own 16 (xs.map TReply.o), .int .i64 xs.length, .bool false], []⟩)
    (fun d x t he _ => by
      have hlt : d.length < xs.length := by rw [← he]; simp
      have hw := wrap_len (a := d.length) (by omega)
      have hx : x.sz ≤ 1048576 := by rw [← he] at hl; simp at hl; omega
      have hX := to_Reply x hx
      simp [l_laws_toReplyS_0, ← he, hw, List.replicate_succ, TReply.i, TReply.ic, TReply.o, TReply.oc, z_Reply, hX, fresh_IntS, fresh_BoolS, fresh_PartS, fresh_RespS])
    (fun _ => by simp [l_laws_toReplyS_0]) (by simp)
  simp [h_laws_toReplyS, hm, z_Reply] at hloop ⊢
  simp [hloop]

theorem to_Served (a : TServed) (h : a.sz ≤ 1048576) : Run tab n_laws_toServed [.agg [V.int .i64 a.fPort, V.int .i64 a.fNumber, V.int .i64 a.fUnit, V.int .i64 a.fReq.fKind, V.int .i64 a.fReq.fAt, V.int .i64 a.fReq.fN, V.imm 1 (a.fReq.fWords.map (V.int .i64)), V.imm 1 (a.fReq.fBits.map V.bool), V.int .i64 a.fReq.fWAt, V.int .i64 a.fResp.fKind, V.int .i64 a.fResp.fFault, V.int .i64 a.fResp.fAt, V.int .i64 a.fResp.fN, V.imm 1 (a.fResp.fWords.map (V.int .i64)), V.imm 1 (a.fResp.fBits.map V.bool)]] [] = some (.agg [V.int .i64 a.fPort, V.int .i64 a.fNumber, V.int .i64 a.fUnit, V.int .i64 a.fReq.fKind, V.int .i64 a.fReq.fAt, V.int .i64 a.fReq.fN, V.own 1 (a.fReq.fWords.map (V.int .i64)), V.own 1 (a.fReq.fBits.map V.bool), V.int .i64 a.fReq.fWAt, V.int .i64 a.fResp.fKind, V.int .i64 a.fResp.fFault, V.int .i64 a.fResp.fAt, V.int .i64 a.fResp.fN, V.own 1 (a.fResp.fWords.map (V.int .i64)), V.own 1 (a.fResp.fBits.map V.bool)], []) := by
  simp only [TServed.sz] at h
  rw [Run_go T_laws_toServed _ _ rfl]
  have u0 := to_Req a.fReq (by omega)
  have u1 := to_Resp a.fResp (by omega)
  simp [h_laws_toServed, u0, u1, fresh_IntS, fresh_BoolS]

theorem to_ServedS (xs : List TServed) (hl : xs.length + (xs.map TServed.sz).sum ≤ 1048576) : Run tab n_laws_toServedS [.imm 15 (xs.map TServed.i)] [] = some (.own 15 (xs.map TServed.o), []) := by
  rw [Run_go T_laws_toServedS _ _ rfl]
  have hm : xs.length * 184 ≤ 70368744177664 := by omega
  have hloop := iter_list (T := tab) (ns := 5) (nb := 0) (dead := [1, 4]) (xs := xs) (ex := .exit 0) (P := fun _ _ => True) (b := l_laws_toServedS_0)
    (J := fun d t => ⟨[.imm 15 (xs.map TServed.i), .gone, .own 15 (d.map TServed.o ++ List.replicate t.length z_Served), .int .i64 d.length, .gone], []⟩) trivial (by simp)
    (s := ⟨[.imm 15 (xs.map TServed.i), .own 15 [], .own 15 (List.replicate xs.length z_Served), .int .i64 0, .gone], []⟩)
    (sE := ⟨[.imm 15 (xs.map TServed.i), .gone, .own 15 (xs.map TServed.o), .int .i64 xs.length, .bool false], []⟩)
    (fun d x t he _ => by
      have hlt : d.length < xs.length := by rw [← he]; simp
      have hw := wrap_len (a := d.length) (by omega)
      have hx : x.sz ≤ 1048576 := by rw [← he] at hl; simp at hl; omega
      have hX := to_Served x hx
      simp [l_laws_toServedS_0, ← he, hw, List.replicate_succ, TServed.i, TServed.ic, TServed.o, TServed.oc, z_Served, hX, fresh_IntS, fresh_BoolS])
    (fun _ => by simp [l_laws_toServedS_0]) (by simp)
  simp [h_laws_toServedS, hm, z_Served] at hloop ⊢
  simp [hloop]

theorem to_World (a : TWorld) (h : a.sz ≤ 1048576) : Run tab n_laws_toWorld [.agg [V.int .i64 a.fF.fNow, V.int .i64 a.fF.fSet.fWait, V.int .i64 a.fF.fSet.fTries, V.imm 7 (a.fF.fSet.fRules.map TRule.i), V.int .i64 a.fF.fOpen.fNext, V.imm 13 (a.fF.fOpen.fList.map TPend.i), V.imm 17 (a.fF.fLines.map TLine.i), V.int .i64 a.fF.fAsked, V.int .i64 a.fF.fReplied, V.int .i64 a.fF.fFaults, V.int .i64 a.fF.fSent, V.imm 6 (a.fPosts.map TPost.i), V.imm 16 (a.fNet.map TPacket.i), V.imm 16 (a.fReplies.map TReply.i), V.imm 15 (a.fServed.map TServed.i)]] [] = some (.agg [V.int .i64 a.fF.fNow, V.int .i64 a.fF.fSet.fWait, V.int .i64 a.fF.fSet.fTries, V.own 7 (a.fF.fSet.fRules.map TRule.o), V.int .i64 a.fF.fOpen.fNext, V.own 13 (a.fF.fOpen.fList.map TPend.o), V.own 17 (a.fF.fLines.map TLine.o), V.int .i64 a.fF.fAsked, V.int .i64 a.fF.fReplied, V.int .i64 a.fF.fFaults, V.int .i64 a.fF.fSent, V.own 6 (a.fPosts.map TPost.o), V.own 16 (a.fNet.map TPacket.o), V.own 16 (a.fReplies.map TReply.o), V.own 15 (a.fServed.map TServed.o)], []) := by
  simp only [TWorld.sz] at h
  rw [Run_go T_laws_toWorld _ _ rfl]
  have u0 := to_Fabric a.fF (by omega)
  have u1 := to_PostS a.fPosts (by omega)
  have u2 := to_PacketS a.fNet (by omega)
  have u3 := to_ReplyS a.fReplies (by omega)
  have u4 := to_ServedS a.fServed (by omega)
  simp [h_laws_toWorld, u0, u1, u2, u3, u4, fresh_RuleS, fresh_PendS, fresh_LineS, fresh_PostS, fresh_PacketS, fresh_ReplyS, fresh_ServedS]

end Go.Pm

namespace Go.Pm
set_option maxRecDepth 100000
attribute [local simp] RunC_seq RunC_cond RunC_block RunC_skip RunC_exit RunC_ret RunC_region runOps St.wanted St.step St.dest St.settle St.settleLeaf St.rd V.borrowAll V.borrow borrows V.killVar1 St.fin V.unloc1 St.finish St.rdRes tupV St.takesAll St.view St.views St.viewLeaf V.cells bnd binV intBin St.rds St.passes St.windows St.backs St.land flatV scal unV St.cont St.root St.take St.takeLeaf St.takes St.freeze St.freezeLeaf St.freezes V.killBox1 V.leafwise St.settles lenV intV V.only1 St.viewsAll V.fresh V.freshL St.putCells St.putCell St.put St.get St.setCont St.setRoot Root.okAt St.kill V.kill1
attribute [local simp] RunC_draw runD St.only evalP St.peek HOp.pure St.listOk V.whole V.parts V.isGone V.notGone St.stepD St.destD chkD RunC_loop St.trim V.under V.under1 V.like V.like1 V.cells1 V.erase V.eraseL take_map_len lt_len

theorem eq_IntS (xs : List Int) (hl : xs.length ≤ 1048576) : Run tab n_laws_eqIntS [.imm 1 (xs.map (V.int .i64)), .imm 1 (xs.map (V.int .i64))] [] = some (.bool true, []) := by
  rw [Run_go T_laws_eqIntS _ _ rfl]
  have hloop := iter_list (T := tab) (ns := 7) (nb := 0) (dead := [2, 4, 5, 6]) (xs := xs) (ex := .exit 0) (P := fun _ _ => True) (b := l_laws_eqIntS_0)
    (J := fun d t => ⟨[.imm 1 (xs.map (V.int .i64)), .imm 1 (xs.map (V.int .i64)), .gone, .int .i64 d.length, .gone, .gone, .gone], []⟩) trivial (by simp)
    (s := ⟨[.imm 1 (xs.map (V.int .i64)), .imm 1 (xs.map (V.int .i64)), .bool false, .int .i64 0, .bool false, .gone, .gone], []⟩)
    (sE := ⟨[.imm 1 (xs.map (V.int .i64)), .imm 1 (xs.map (V.int .i64)), .gone, .int .i64 xs.length, .gone, .bool false, .gone], []⟩)
    (fun d x t he _ => by
      have hlt : d.length < xs.length := by rw [← he]; simp
      have hw := wrap_len (a := d.length) (by omega)
      simp [l_laws_eqIntS_0, ← he, hw])
    (fun _ => by simp [l_laws_eqIntS_0]) (by simp)
  simp [h_laws_eqIntS, hloop]

theorem eq_BoolS (xs : List Bool) (hl : xs.length ≤ 1048576) : Run tab n_laws_eqBoolS [.imm 1 (xs.map V.bool), .imm 1 (xs.map V.bool)] [] = some (.bool true, []) := by
  rw [Run_go T_laws_eqBoolS _ _ rfl]
  have hloop := iter_list (T := tab) (ns := 7) (nb := 0) (dead := [2, 4, 5, 6]) (xs := xs) (ex := .exit 0) (P := fun _ _ => True) (b := l_laws_eqBoolS_0)
    (J := fun d t => ⟨[.imm 1 (xs.map V.bool), .imm 1 (xs.map V.bool), .gone, .int .i64 d.length, .gone, .gone, .gone], []⟩) trivial (by simp)
    (s := ⟨[.imm 1 (xs.map V.bool), .imm 1 (xs.map V.bool), .bool false, .int .i64 0, .bool false, .gone, .gone], []⟩)
    (sE := ⟨[.imm 1 (xs.map V.bool), .imm 1 (xs.map V.bool), .gone, .int .i64 xs.length, .gone, .bool false, .gone], []⟩)
    (fun d x t he _ => by
      have hlt : d.length < xs.length := by rw [← he]; simp
      have hw := wrap_len (a := d.length) (by omega)
      simp [l_laws_eqBoolS_0, ← he, hw])
    (fun _ => by simp [l_laws_eqBoolS_0]) (by simp)
  simp [h_laws_eqBoolS, hloop]

theorem eq_Rule (a : TRule) (h : a.sz ≤ 1048576) : Run tab n_laws_eqRule [.agg [V.int .i64 a.fUnit, V.int .i64 a.fSpace, V.int .i64 a.fLo, V.int .i64 a.fHi, V.int .i64 a.fPort, V.int .i64 a.fTo, V.int .i64 a.fShift], .agg [V.int .i64 a.fUnit, V.int .i64 a.fSpace, V.int .i64 a.fLo, V.int .i64 a.fHi, V.int .i64 a.fPort, V.int .i64 a.fTo, V.int .i64 a.fShift]] [] = some (.bool true, []) := by
  simp only [TRule.sz] at h
  rw [Run_go T_laws_eqRule _ _ rfl]
  simp [h_laws_eqRule]

theorem eq_RuleS (xs : List TRule) (hl : xs.length ≤ 1048576) : Run tab n_laws_eqRuleS [.imm 7 (xs.map TRule.i), .imm 7 (xs.map TRule.i)] [] = some (.bool true, []) := by
  rw [Run_go T_laws_eqRuleS _ _ rfl]
  have hloop := iter_list (T := tab) (ns := 7) (nb := 0) (dead := [2, 4, 5, 6]) (xs := xs) (ex := .exit 0) (P := fun _ _ => True) (b := l_laws_eqRuleS_0)
    (J := fun d t => ⟨[.imm 7 (xs.map TRule.i), .imm 7 (xs.map TRule.i), .gone, .int .i64 d.length, .gone, .gone, .gone], []⟩) trivial (by simp)
    (s := ⟨[.imm 7 (xs.map TRule.i), .imm 7 (xs.map TRule.i), .bool false, .int .i64 0, .bool false, .gone, .gone], []⟩)
    (sE := ⟨[.imm 7 (xs.map TRule.i), .imm 7 (xs.map TRule.i), .gone, .int .i64 xs.length, .gone, .bool false, .gone], []⟩)
    (fun d x t he _ => by
      have hlt : d.length < xs.length := by rw [← he]; simp
      have hw := wrap_len (a := d.length) (by omega)
      have hx : x.sz ≤ 1048576 := by simp [TRule.sz]
      have hX := eq_Rule x hx
      simp [l_laws_eqRuleS_0, ← he, hw, TRule.i, TRule.ic, hX])
    (fun _ => by simp [l_laws_eqRuleS_0]) (by simp)
  simp [h_laws_eqRuleS, hloop]

theorem eq_Config (a : TConfig) (h : a.sz ≤ 1048576) : Run tab n_laws_eqConfig [.agg [V.int .i64 a.fWait, V.int .i64 a.fTries, V.imm 7 (a.fRules.map TRule.i)], .agg [V.int .i64 a.fWait, V.int .i64 a.fTries, V.imm 7 (a.fRules.map TRule.i)]] [] = some (.bool true, []) := by
  simp only [TConfig.sz] at h
  rw [Run_go T_laws_eqConfig _ _ rfl]
  have u0 := eq_RuleS a.fRules (by omega)
  simp [h_laws_eqConfig, u0]

theorem eq_Req (a : TReq) (h : a.sz ≤ 1048576) : Run tab n_laws_eqReq [.agg [V.int .i64 a.fKind, V.int .i64 a.fAt, V.int .i64 a.fN, V.imm 1 (a.fWords.map (V.int .i64)), V.imm 1 (a.fBits.map V.bool), V.int .i64 a.fWAt], .agg [V.int .i64 a.fKind, V.int .i64 a.fAt, V.int .i64 a.fN, V.imm 1 (a.fWords.map (V.int .i64)), V.imm 1 (a.fBits.map V.bool), V.int .i64 a.fWAt]] [] = some (.bool true, []) := by
  simp only [TReq.sz] at h
  rw [Run_go T_laws_eqReq _ _ rfl]
  have u0 := eq_IntS a.fWords (by omega)
  have u1 := eq_BoolS a.fBits (by omega)
  simp [h_laws_eqReq, u0, u1]

theorem eq_Part (a : TPart) (h : a.sz ≤ 1048576) : Run tab n_laws_eqPart [.agg [V.int .i64 a.fPort, V.int .i64 a.fUnit, V.int .i64 a.fReq.fKind, V.int .i64 a.fReq.fAt, V.int .i64 a.fReq.fN, V.imm 1 (a.fReq.fWords.map (V.int .i64)), V.imm 1 (a.fReq.fBits.map V.bool), V.int .i64 a.fReq.fWAt], .agg [V.int .i64 a.fPort, V.int .i64 a.fUnit, V.int .i64 a.fReq.fKind, V.int .i64 a.fReq.fAt, V.int .i64 a.fReq.fN, V.imm 1 (a.fReq.fWords.map (V.int .i64)), V.imm 1 (a.fReq.fBits.map V.bool), V.int .i64 a.fReq.fWAt]] [] = some (.bool true, []) := by
  simp only [TPart.sz] at h
  rw [Run_go T_laws_eqPart _ _ rfl]
  have u0 := eq_Req a.fReq (by omega)
  simp [h_laws_eqPart, u0]

theorem eq_PartS (xs : List TPart) (hl : xs.length + (xs.map TPart.sz).sum ≤ 1048576) : Run tab n_laws_eqPartS [.imm 8 (xs.map TPart.i), .imm 8 (xs.map TPart.i)] [] = some (.bool true, []) := by
  rw [Run_go T_laws_eqPartS _ _ rfl]
  have hloop := iter_list (T := tab) (ns := 7) (nb := 0) (dead := [2, 4, 5, 6]) (xs := xs) (ex := .exit 0) (P := fun _ _ => True) (b := l_laws_eqPartS_0)
    (J := fun d t => ⟨[.imm 8 (xs.map TPart.i), .imm 8 (xs.map TPart.i), .gone, .int .i64 d.length, .gone, .gone, .gone], []⟩) trivial (by simp)
    (s := ⟨[.imm 8 (xs.map TPart.i), .imm 8 (xs.map TPart.i), .bool false, .int .i64 0, .bool false, .gone, .gone], []⟩)
    (sE := ⟨[.imm 8 (xs.map TPart.i), .imm 8 (xs.map TPart.i), .gone, .int .i64 xs.length, .gone, .bool false, .gone], []⟩)
    (fun d x t he _ => by
      have hlt : d.length < xs.length := by rw [← he]; simp
      have hw := wrap_len (a := d.length) (by omega)
      have hx : x.sz ≤ 1048576 := by rw [← he] at hl; simp at hl; omega
      have hX := eq_Part x hx
      simp [l_laws_eqPartS_0, ← he, hw, TPart.i, TPart.ic, hX])
    (fun _ => by simp [l_laws_eqPartS_0]) (by simp)
  simp [h_laws_eqPartS, hloop]

theorem eq_Resp (a : TResp) (h : a.sz ≤ 1048576) : Run tab n_laws_eqResp [.agg [V.int .i64 a.fKind, V.int .i64 a.fFault, V.int .i64 a.fAt, V.int .i64 a.fN, V.imm 1 (a.fWords.map (V.int .i64)), V.imm 1 (a.fBits.map V.bool)], .agg [V.int .i64 a.fKind, V.int .i64 a.fFault, V.int .i64 a.fAt, V.int .i64 a.fN, V.imm 1 (a.fWords.map (V.int .i64)), V.imm 1 (a.fBits.map V.bool)]] [] = some (.bool true, []) := by
  simp only [TResp.sz] at h
  rw [Run_go T_laws_eqResp _ _ rfl]
  have u0 := eq_IntS a.fWords (by omega)
  have u1 := eq_BoolS a.fBits (by omega)
  simp [h_laws_eqResp, u0, u1]

theorem eq_RespS (xs : List TResp) (hl : xs.length + (xs.map TResp.sz).sum ≤ 1048576) : Run tab n_laws_eqRespS [.imm 6 (xs.map TResp.i), .imm 6 (xs.map TResp.i)] [] = some (.bool true, []) := by
  rw [Run_go T_laws_eqRespS _ _ rfl]
  have hloop := iter_list (T := tab) (ns := 7) (nb := 0) (dead := [2, 4, 5, 6]) (xs := xs) (ex := .exit 0) (P := fun _ _ => True) (b := l_laws_eqRespS_0)
    (J := fun d t => ⟨[.imm 6 (xs.map TResp.i), .imm 6 (xs.map TResp.i), .gone, .int .i64 d.length, .gone, .gone, .gone], []⟩) trivial (by simp)
    (s := ⟨[.imm 6 (xs.map TResp.i), .imm 6 (xs.map TResp.i), .bool false, .int .i64 0, .bool false, .gone, .gone], []⟩)
    (sE := ⟨[.imm 6 (xs.map TResp.i), .imm 6 (xs.map TResp.i), .gone, .int .i64 xs.length, .gone, .bool false, .gone], []⟩)
    (fun d x t he _ => by
      have hlt : d.length < xs.length := by rw [← he]; simp
      have hw := wrap_len (a := d.length) (by omega)
      have hx : x.sz ≤ 1048576 := by rw [← he] at hl; simp at hl; omega
      have hX := eq_Resp x hx
      simp [l_laws_eqRespS_0, ← he, hw, TResp.i, TResp.ic, hX])
    (fun _ => by simp [l_laws_eqRespS_0]) (by simp)
  simp [h_laws_eqRespS, hloop]

theorem eq_Pend (a : TPend) (h : a.sz ≤ 1048576) : Run tab n_laws_eqPend [.agg [V.int .i64 a.fId, V.int .i64 a.fSource, V.int .i64 a.fTag, V.int .i64 a.fUnit, V.int .i64 a.fReq.fKind, V.int .i64 a.fReq.fAt, V.int .i64 a.fReq.fN, V.imm 1 (a.fReq.fWords.map (V.int .i64)), V.imm 1 (a.fReq.fBits.map V.bool), V.int .i64 a.fReq.fWAt, V.imm 8 (a.fParts.map TPart.i), V.imm 1 (a.fHas.map V.bool), V.imm 6 (a.fTold.map TResp.i)], .agg [V.int .i64 a.fId, V.int .i64 a.fSource, V.int .i64 a.fTag, V.int .i64 a.fUnit, V.int .i64 a.fReq.fKind, V.int .i64 a.fReq.fAt, V.int .i64 a.fReq.fN, V.imm 1 (a.fReq.fWords.map (V.int .i64)), V.imm 1 (a.fReq.fBits.map V.bool), V.int .i64 a.fReq.fWAt, V.imm 8 (a.fParts.map TPart.i), V.imm 1 (a.fHas.map V.bool), V.imm 6 (a.fTold.map TResp.i)]] [] = some (.bool true, []) := by
  simp only [TPend.sz] at h
  rw [Run_go T_laws_eqPend _ _ rfl]
  have u0 := eq_Req a.fReq (by omega)
  have u1 := eq_PartS a.fParts (by omega)
  have u2 := eq_BoolS a.fHas (by omega)
  have u3 := eq_RespS a.fTold (by omega)
  simp [h_laws_eqPend, u0, u1, u2, u3]

theorem eq_PendS (xs : List TPend) (hl : xs.length + (xs.map TPend.sz).sum ≤ 1048576) : Run tab n_laws_eqPendS [.imm 13 (xs.map TPend.i), .imm 13 (xs.map TPend.i)] [] = some (.bool true, []) := by
  rw [Run_go T_laws_eqPendS _ _ rfl]
  have hloop := iter_list (T := tab) (ns := 7) (nb := 0) (dead := [2, 4, 5, 6]) (xs := xs) (ex := .exit 0) (P := fun _ _ => True) (b := l_laws_eqPendS_0)
    (J := fun d t => ⟨[.imm 13 (xs.map TPend.i), .imm 13 (xs.map TPend.i), .gone, .int .i64 d.length, .gone, .gone, .gone], []⟩) trivial (by simp)
    (s := ⟨[.imm 13 (xs.map TPend.i), .imm 13 (xs.map TPend.i), .bool false, .int .i64 0, .bool false, .gone, .gone], []⟩)
    (sE := ⟨[.imm 13 (xs.map TPend.i), .imm 13 (xs.map TPend.i), .gone, .int .i64 xs.length, .gone, .bool false, .gone], []⟩)
    (fun d x t he _ => by
      have hlt : d.length < xs.length := by rw [← he]; simp
      have hw := wrap_len (a := d.length) (by omega)
      have hx : x.sz ≤ 1048576 := by rw [← he] at hl; simp at hl; omega
      have hX := eq_Pend x hx
      simp [l_laws_eqPendS_0, ← he, hw, TPend.i, TPend.ic, hX])
    (fun _ => by simp [l_laws_eqPendS_0]) (by simp)
  simp [h_laws_eqPendS, hloop]

theorem eq_Table (a : TTable) (h : a.sz ≤ 1048576) : Run tab n_laws_eqTable [.agg [V.int .i64 a.fNext, V.imm 13 (a.fList.map TPend.i)], .agg [V.int .i64 a.fNext, V.imm 13 (a.fList.map TPend.i)]] [] = some (.bool true, []) := by
  simp only [TTable.sz] at h
  rw [Run_go T_laws_eqTable _ _ rfl]
  have u0 := eq_PendS a.fList (by omega)
  simp [h_laws_eqTable, u0]

theorem eq_Call (a : TCall) (h : a.sz ≤ 1048576) : Run tab n_laws_eqCall [.agg [V.int .i64 a.fId, V.int .i64 a.fPart, V.int .i64 a.fUnit, V.int .i64 a.fReq.fKind, V.int .i64 a.fReq.fAt, V.int .i64 a.fReq.fN, V.imm 1 (a.fReq.fWords.map (V.int .i64)), V.imm 1 (a.fReq.fBits.map V.bool), V.int .i64 a.fReq.fWAt], .agg [V.int .i64 a.fId, V.int .i64 a.fPart, V.int .i64 a.fUnit, V.int .i64 a.fReq.fKind, V.int .i64 a.fReq.fAt, V.int .i64 a.fReq.fN, V.imm 1 (a.fReq.fWords.map (V.int .i64)), V.imm 1 (a.fReq.fBits.map V.bool), V.int .i64 a.fReq.fWAt]] [] = some (.bool true, []) := by
  simp only [TCall.sz] at h
  rw [Run_go T_laws_eqCall _ _ rfl]
  have u0 := eq_Req a.fReq (by omega)
  simp [h_laws_eqCall, u0]

theorem eq_CallS (xs : List TCall) (hl : xs.length + (xs.map TCall.sz).sum ≤ 1048576) : Run tab n_laws_eqCallS [.imm 9 (xs.map TCall.i), .imm 9 (xs.map TCall.i)] [] = some (.bool true, []) := by
  rw [Run_go T_laws_eqCallS _ _ rfl]
  have hloop := iter_list (T := tab) (ns := 7) (nb := 0) (dead := [2, 4, 5, 6]) (xs := xs) (ex := .exit 0) (P := fun _ _ => True) (b := l_laws_eqCallS_0)
    (J := fun d t => ⟨[.imm 9 (xs.map TCall.i), .imm 9 (xs.map TCall.i), .gone, .int .i64 d.length, .gone, .gone, .gone], []⟩) trivial (by simp)
    (s := ⟨[.imm 9 (xs.map TCall.i), .imm 9 (xs.map TCall.i), .bool false, .int .i64 0, .bool false, .gone, .gone], []⟩)
    (sE := ⟨[.imm 9 (xs.map TCall.i), .imm 9 (xs.map TCall.i), .gone, .int .i64 xs.length, .gone, .bool false, .gone], []⟩)
    (fun d x t he _ => by
      have hlt : d.length < xs.length := by rw [← he]; simp
      have hw := wrap_len (a := d.length) (by omega)
      have hx : x.sz ≤ 1048576 := by rw [← he] at hl; simp at hl; omega
      have hX := eq_Call x hx
      simp [l_laws_eqCallS_0, ← he, hw, TCall.i, TCall.ic, hX])
    (fun _ => by simp [l_laws_eqCallS_0]) (by simp)
  simp [h_laws_eqCallS, hloop]

theorem eq_Line (a : TLine) (h : a.sz ≤ 1048576) : Run tab n_laws_eqLine [.agg [V.imm 9 (a.fQueue.map TCall.i), V.bool a.fBusy, V.int .i64 a.fCall.fId, V.int .i64 a.fCall.fPart, V.int .i64 a.fCall.fUnit, V.int .i64 a.fCall.fReq.fKind, V.int .i64 a.fCall.fReq.fAt, V.int .i64 a.fCall.fReq.fN, V.imm 1 (a.fCall.fReq.fWords.map (V.int .i64)), V.imm 1 (a.fCall.fReq.fBits.map V.bool), V.int .i64 a.fCall.fReq.fWAt, V.int .i64 a.fNumber, V.int .i64 a.fDue, V.int .i64 a.fLeft, V.int .i64 a.fNext, V.int .i64 a.fWait, V.int .i64 a.fTries], .agg [V.imm 9 (a.fQueue.map TCall.i), V.bool a.fBusy, V.int .i64 a.fCall.fId, V.int .i64 a.fCall.fPart, V.int .i64 a.fCall.fUnit, V.int .i64 a.fCall.fReq.fKind, V.int .i64 a.fCall.fReq.fAt, V.int .i64 a.fCall.fReq.fN, V.imm 1 (a.fCall.fReq.fWords.map (V.int .i64)), V.imm 1 (a.fCall.fReq.fBits.map V.bool), V.int .i64 a.fCall.fReq.fWAt, V.int .i64 a.fNumber, V.int .i64 a.fDue, V.int .i64 a.fLeft, V.int .i64 a.fNext, V.int .i64 a.fWait, V.int .i64 a.fTries]] [] = some (.bool true, []) := by
  simp only [TLine.sz] at h
  rw [Run_go T_laws_eqLine _ _ rfl]
  have u0 := eq_CallS a.fQueue (by omega)
  have u1 := eq_Call a.fCall (by omega)
  simp [h_laws_eqLine, u0, u1]

theorem eq_LineS (xs : List TLine) (hl : xs.length + (xs.map TLine.sz).sum ≤ 1048576) : Run tab n_laws_eqLineS [.imm 17 (xs.map TLine.i), .imm 17 (xs.map TLine.i)] [] = some (.bool true, []) := by
  rw [Run_go T_laws_eqLineS _ _ rfl]
  have hloop := iter_list (T := tab) (ns := 7) (nb := 0) (dead := [2, 4, 5, 6]) (xs := xs) (ex := .exit 0) (P := fun _ _ => True) (b := l_laws_eqLineS_0)
    (J := fun d t => ⟨[.imm 17 (xs.map TLine.i), .imm 17 (xs.map TLine.i), .gone, .int .i64 d.length, .gone, .gone, .gone], []⟩) trivial (by simp)
    (s := ⟨[.imm 17 (xs.map TLine.i), .imm 17 (xs.map TLine.i), .bool false, .int .i64 0, .bool false, .gone, .gone], []⟩)
    (sE := ⟨[.imm 17 (xs.map TLine.i), .imm 17 (xs.map TLine.i), .gone, .int .i64 xs.length, .gone, .bool false, .gone], []⟩)
    (fun d x t he _ => by
      have hlt : d.length < xs.length := by rw [← he]; simp
      have hw := wrap_len (a := d.length) (by omega)
      have hx : x.sz ≤ 1048576 := by rw [← he] at hl; simp at hl; omega
      have hX := eq_Line x hx
      simp [l_laws_eqLineS_0, ← he, hw, TLine.i, TLine.ic, hX])
    (fun _ => by simp [l_laws_eqLineS_0]) (by simp)
  simp [h_laws_eqLineS, hloop]

theorem eq_Fabric (a : TFabric) (h : a.sz ≤ 1048576) : Run tab n_laws_eqFabric [.agg [V.int .i64 a.fNow, V.int .i64 a.fSet.fWait, V.int .i64 a.fSet.fTries, V.imm 7 (a.fSet.fRules.map TRule.i), V.int .i64 a.fOpen.fNext, V.imm 13 (a.fOpen.fList.map TPend.i), V.imm 17 (a.fLines.map TLine.i), V.int .i64 a.fAsked, V.int .i64 a.fReplied, V.int .i64 a.fFaults, V.int .i64 a.fSent], .agg [V.int .i64 a.fNow, V.int .i64 a.fSet.fWait, V.int .i64 a.fSet.fTries, V.imm 7 (a.fSet.fRules.map TRule.i), V.int .i64 a.fOpen.fNext, V.imm 13 (a.fOpen.fList.map TPend.i), V.imm 17 (a.fLines.map TLine.i), V.int .i64 a.fAsked, V.int .i64 a.fReplied, V.int .i64 a.fFaults, V.int .i64 a.fSent]] [] = some (.bool true, []) := by
  simp only [TFabric.sz] at h
  rw [Run_go T_laws_eqFabric _ _ rfl]
  have u0 := eq_Config a.fSet (by omega)
  have u1 := eq_Table a.fOpen (by omega)
  have u2 := eq_LineS a.fLines (by omega)
  simp [h_laws_eqFabric, u0, u1, u2]

theorem eq_Device (a : TDevice) (h : a.sz ≤ 1048576) : Run tab n_laws_eqDevice [.agg [V.imm 1 (a.fCoils.map V.bool), V.imm 1 (a.fInputs.map V.bool), V.imm 1 (a.fHolding.map (V.int .i64)), V.imm 1 (a.fWords.map (V.int .i64))], .agg [V.imm 1 (a.fCoils.map V.bool), V.imm 1 (a.fInputs.map V.bool), V.imm 1 (a.fHolding.map (V.int .i64)), V.imm 1 (a.fWords.map (V.int .i64))]] [] = some (.bool true, []) := by
  simp only [TDevice.sz] at h
  rw [Run_go T_laws_eqDevice _ _ rfl]
  have u0 := eq_BoolS a.fCoils (by omega)
  have u1 := eq_BoolS a.fInputs (by omega)
  have u2 := eq_IntS a.fHolding (by omega)
  have u3 := eq_IntS a.fWords (by omega)
  simp [h_laws_eqDevice, u0, u1, u2, u3]

theorem eq_Post (a : TPost) (h : a.sz ≤ 1048576) : Run tab n_laws_eqPost [.agg [V.int .i64 a.fPort, V.int .i64 a.fUnit, V.imm 1 (a.fD.fCoils.map V.bool), V.imm 1 (a.fD.fInputs.map V.bool), V.imm 1 (a.fD.fHolding.map (V.int .i64)), V.imm 1 (a.fD.fWords.map (V.int .i64))], .agg [V.int .i64 a.fPort, V.int .i64 a.fUnit, V.imm 1 (a.fD.fCoils.map V.bool), V.imm 1 (a.fD.fInputs.map V.bool), V.imm 1 (a.fD.fHolding.map (V.int .i64)), V.imm 1 (a.fD.fWords.map (V.int .i64))]] [] = some (.bool true, []) := by
  simp only [TPost.sz] at h
  rw [Run_go T_laws_eqPost _ _ rfl]
  have u0 := eq_Device a.fD (by omega)
  simp [h_laws_eqPost, u0]

theorem eq_PostS (xs : List TPost) (hl : xs.length + (xs.map TPost.sz).sum ≤ 1048576) : Run tab n_laws_eqPostS [.imm 6 (xs.map TPost.i), .imm 6 (xs.map TPost.i)] [] = some (.bool true, []) := by
  rw [Run_go T_laws_eqPostS _ _ rfl]
  have hloop := iter_list (T := tab) (ns := 7) (nb := 0) (dead := [2, 4, 5, 6]) (xs := xs) (ex := .exit 0) (P := fun _ _ => True) (b := l_laws_eqPostS_0)
    (J := fun d t => ⟨[.imm 6 (xs.map TPost.i), .imm 6 (xs.map TPost.i), .gone, .int .i64 d.length, .gone, .gone, .gone], []⟩) trivial (by simp)
    (s := ⟨[.imm 6 (xs.map TPost.i), .imm 6 (xs.map TPost.i), .bool false, .int .i64 0, .bool false, .gone, .gone], []⟩)
    (sE := ⟨[.imm 6 (xs.map TPost.i), .imm 6 (xs.map TPost.i), .gone, .int .i64 xs.length, .gone, .bool false, .gone], []⟩)
    (fun d x t he _ => by
      have hlt : d.length < xs.length := by rw [← he]; simp
      have hw := wrap_len (a := d.length) (by omega)
      have hx : x.sz ≤ 1048576 := by rw [← he] at hl; simp at hl; omega
      have hX := eq_Post x hx
      simp [l_laws_eqPostS_0, ← he, hw, TPost.i, TPost.ic, hX])
    (fun _ => by simp [l_laws_eqPostS_0]) (by simp)
  simp [h_laws_eqPostS, hloop]

theorem eq_Packet (a : TPacket) (h : a.sz ≤ 1048576) : Run tab n_laws_eqPacket [.agg [V.bool a.fBack, V.int .i64 a.fPort, V.int .i64 a.fNumber, V.int .i64 a.fUnit, V.int .i64 a.fReq.fKind, V.int .i64 a.fReq.fAt, V.int .i64 a.fReq.fN, V.imm 1 (a.fReq.fWords.map (V.int .i64)), V.imm 1 (a.fReq.fBits.map V.bool), V.int .i64 a.fReq.fWAt, V.int .i64 a.fResp.fKind, V.int .i64 a.fResp.fFault, V.int .i64 a.fResp.fAt, V.int .i64 a.fResp.fN, V.imm 1 (a.fResp.fWords.map (V.int .i64)), V.imm 1 (a.fResp.fBits.map V.bool)], .agg [V.bool a.fBack, V.int .i64 a.fPort, V.int .i64 a.fNumber, V.int .i64 a.fUnit, V.int .i64 a.fReq.fKind, V.int .i64 a.fReq.fAt, V.int .i64 a.fReq.fN, V.imm 1 (a.fReq.fWords.map (V.int .i64)), V.imm 1 (a.fReq.fBits.map V.bool), V.int .i64 a.fReq.fWAt, V.int .i64 a.fResp.fKind, V.int .i64 a.fResp.fFault, V.int .i64 a.fResp.fAt, V.int .i64 a.fResp.fN, V.imm 1 (a.fResp.fWords.map (V.int .i64)), V.imm 1 (a.fResp.fBits.map V.bool)]] [] = some (.bool true, []) := by
  simp only [TPacket.sz] at h
  rw [Run_go T_laws_eqPacket _ _ rfl]
  have u0 := eq_Req a.fReq (by omega)
  have u1 := eq_Resp a.fResp (by omega)
  simp [h_laws_eqPacket, u0, u1]

theorem eq_PacketS (xs : List TPacket) (hl : xs.length + (xs.map TPacket.sz).sum ≤ 1048576) : Run tab n_laws_eqPacketS [.imm 16 (xs.map TPacket.i), .imm 16 (xs.map TPacket.i)] [] = some (.bool true, []) := by
  rw [Run_go T_laws_eqPacketS _ _ rfl]
  have hloop := iter_list (T := tab) (ns := 7) (nb := 0) (dead := [2, 4, 5, 6]) (xs := xs) (ex := .exit 0) (P := fun _ _ => True) (b := l_laws_eqPacketS_0)
    (J := fun d t => ⟨[.imm 16 (xs.map TPacket.i), .imm 16 (xs.map TPacket.i), .gone, .int .i64 d.length, .gone, .gone, .gone], []⟩) trivial (by simp)
    (s := ⟨[.imm 16 (xs.map TPacket.i), .imm 16 (xs.map TPacket.i), .bool false, .int .i64 0, .bool false, .gone, .gone], []⟩)
    (sE := ⟨[.imm 16 (xs.map TPacket.i), .imm 16 (xs.map TPacket.i), .gone, .int .i64 xs.length, .gone, .bool false, .gone], []⟩)
    (fun d x t he _ => by
      have hlt : d.length < xs.length := by rw [← he]; simp
      have hw := wrap_len (a := d.length) (by omega)
      have hx : x.sz ≤ 1048576 := by rw [← he] at hl; simp at hl; omega
      have hX := eq_Packet x hx
      simp [l_laws_eqPacketS_0, ← he, hw, TPacket.i, TPacket.ic, hX])
    (fun _ => by simp [l_laws_eqPacketS_0]) (by simp)
  simp [h_laws_eqPacketS, hloop]

theorem eq_Reply (a : TReply) (h : a.sz ≤ 1048576) : Run tab n_laws_eqReply [.agg [V.int .i64 a.fSource, V.int .i64 a.fTag, V.int .i64 a.fReq.fKind, V.int .i64 a.fReq.fAt, V.int .i64 a.fReq.fN, V.imm 1 (a.fReq.fWords.map (V.int .i64)), V.imm 1 (a.fReq.fBits.map V.bool), V.int .i64 a.fReq.fWAt, V.imm 8 (a.fParts.map TPart.i), V.imm 6 (a.fTold.map TResp.i), V.int .i64 a.fResp.fKind, V.int .i64 a.fResp.fFault, V.int .i64 a.fResp.fAt, V.int .i64 a.fResp.fN, V.imm 1 (a.fResp.fWords.map (V.int .i64)), V.imm 1 (a.fResp.fBits.map V.bool)], .agg [V.int .i64 a.fSource, V.int .i64 a.fTag, V.int .i64 a.fReq.fKind, V.int .i64 a.fReq.fAt, V.int .i64 a.fReq.fN, V.imm 1 (a.fReq.fWords.map (V.int .i64)), V.imm 1 (a.fReq.fBits.map V.bool), V.int .i64 a.fReq.fWAt, V.imm 8 (a.fParts.map TPart.i), V.imm 6 (a.fTold.map TResp.i), V.int .i64 a.fResp.fKind, V.int .i64 a.fResp.fFault, V.int .i64 a.fResp.fAt, V.int .i64 a.fResp.fN, V.imm 1 (a.fResp.fWords.map (V.int .i64)), V.imm 1 (a.fResp.fBits.map V.bool)]] [] = some (.bool true, []) := by
  simp only [TReply.sz] at h
  rw [Run_go T_laws_eqReply _ _ rfl]
  have u0 := eq_Req a.fReq (by omega)
  have u1 := eq_PartS a.fParts (by omega)
  have u2 := eq_RespS a.fTold (by omega)
  have u3 := eq_Resp a.fResp (by omega)
  simp [h_laws_eqReply, u0, u1, u2, u3]

theorem eq_ReplyS (xs : List TReply) (hl : xs.length + (xs.map TReply.sz).sum ≤ 1048576) : Run tab n_laws_eqReplyS [.imm 16 (xs.map TReply.i), .imm 16 (xs.map TReply.i)] [] = some (.bool true, []) := by
  rw [Run_go T_laws_eqReplyS _ _ rfl]
  have hloop := iter_list (T := tab) (ns := 7) (nb := 0) (dead := [2, 4, 5, 6]) (xs := xs) (ex := .exit 0) (P := fun _ _ => True) (b := l_laws_eqReplyS_0)
    (J := fun d t => ⟨[.imm 16 (xs.map TReply.i), .imm 16 (xs.map TReply.i), .gone, .int .i64 d.length, .gone, .gone, .gone], []⟩) trivial (by simp)
    (s := ⟨[.imm 16 (xs.map TReply.i), .imm 16 (xs.map TReply.i), .bool false, .int .i64 0, .bool false, .gone, .gone], []⟩)
    (sE := ⟨[.imm 16 (xs.map TReply.i), .imm 16 (xs.map TReply.i), .gone, .int .i64 xs.length, .gone, .bool false, .gone], []⟩)
    (fun d x t he _ => by
      have hlt : d.length < xs.length := by rw [← he]; simp
      have hw := wrap_len (a := d.length) (by omega)
      have hx : x.sz ≤ 1048576 := by rw [← he] at hl; simp at hl; omega
      have hX := eq_Reply x hx
      simp [l_laws_eqReplyS_0, ← he, hw, TReply.i, TReply.ic, hX])
    (fun _ => by simp [l_laws_eqReplyS_0]) (by simp)
  simp [h_laws_eqReplyS, hloop]

theorem eq_Served (a : TServed) (h : a.sz ≤ 1048576) : Run tab n_laws_eqServed [.agg [V.int .i64 a.fPort, V.int .i64 a.fNumber, V.int .i64 a.fUnit, V.int .i64 a.fReq.fKind, V.int .i64 a.fReq.fAt, V.int .i64 a.fReq.fN, V.imm 1 (a.fReq.fWords.map (V.int .i64)), V.imm 1 (a.fReq.fBits.map V.bool), V.int .i64 a.fReq.fWAt, V.int .i64 a.fResp.fKind, V.int .i64 a.fResp.fFault, V.int .i64 a.fResp.fAt, V.int .i64 a.fResp.fN, V.imm 1 (a.fResp.fWords.map (V.int .i64)), V.imm 1 (a.fResp.fBits.map V.bool)], .agg [V.int .i64 a.fPort, V.int .i64 a.fNumber, V.int .i64 a.fUnit, V.int .i64 a.fReq.fKind, V.int .i64 a.fReq.fAt, V.int .i64 a.fReq.fN, V.imm 1 (a.fReq.fWords.map (V.int .i64)), V.imm 1 (a.fReq.fBits.map V.bool), V.int .i64 a.fReq.fWAt, V.int .i64 a.fResp.fKind, V.int .i64 a.fResp.fFault, V.int .i64 a.fResp.fAt, V.int .i64 a.fResp.fN, V.imm 1 (a.fResp.fWords.map (V.int .i64)), V.imm 1 (a.fResp.fBits.map V.bool)]] [] = some (.bool true, []) := by
  simp only [TServed.sz] at h
  rw [Run_go T_laws_eqServed _ _ rfl]
  have u0 := eq_Req a.fReq (by omega)
  have u1 := eq_Resp a.fResp (by omega)
  simp [h_laws_eqServed, u0, u1]

theorem eq_ServedS (xs : List TServed) (hl : xs.length + (xs.map TServed.sz).sum ≤ 1048576) : Run tab n_laws_eqServedS [.imm 15 (xs.map TServed.i), .imm 15 (xs.map TServed.i)] [] = some (.bool true, []) := by
  rw [Run_go T_laws_eqServedS _ _ rfl]
  have hloop := iter_list (T := tab) (ns := 7) (nb := 0) (dead := [2, 4, 5, 6]) (xs := xs) (ex := .exit 0) (P := fun _ _ => True) (b := l_laws_eqServedS_0)
    (J := fun d t => ⟨[.imm 15 (xs.map TServed.i), .imm 15 (xs.map TServed.i), .gone, .int .i64 d.length, .gone, .gone, .gone], []⟩) trivial (by simp)
    (s := ⟨[.imm 15 (xs.map TServed.i), .imm 15 (xs.map TServed.i), .bool false, .int .i64 0, .bool false, .gone, .gone], []⟩)
    (sE := ⟨[.imm 15 (xs.map TServed.i), .imm 15 (xs.map TServed.i), .gone, .int .i64 xs.length, .gone, .bool false, .gone], []⟩)
    (fun d x t he _ => by
      have hlt : d.length < xs.length := by rw [← he]; simp
      have hw := wrap_len (a := d.length) (by omega)
      have hx : x.sz ≤ 1048576 := by rw [← he] at hl; simp at hl; omega
      have hX := eq_Served x hx
      simp [l_laws_eqServedS_0, ← he, hw, TServed.i, TServed.ic, hX])
    (fun _ => by simp [l_laws_eqServedS_0]) (by simp)
  simp [h_laws_eqServedS, hloop]

theorem eq_World (a : TWorld) (h : a.sz ≤ 1048576) : Run tab n_laws_eqWorld [.agg [V.int .i64 a.fF.fNow, V.int .i64 a.fF.fSet.fWait, V.int .i64 a.fF.fSet.fTries, V.imm 7 (a.fF.fSet.fRules.map TRule.i), V.int .i64 a.fF.fOpen.fNext, V.imm 13 (a.fF.fOpen.fList.map TPend.i), V.imm 17 (a.fF.fLines.map TLine.i), V.int .i64 a.fF.fAsked, V.int .i64 a.fF.fReplied, V.int .i64 a.fF.fFaults, V.int .i64 a.fF.fSent, V.imm 6 (a.fPosts.map TPost.i), V.imm 16 (a.fNet.map TPacket.i), V.imm 16 (a.fReplies.map TReply.i), V.imm 15 (a.fServed.map TServed.i)], .agg [V.int .i64 a.fF.fNow, V.int .i64 a.fF.fSet.fWait, V.int .i64 a.fF.fSet.fTries, V.imm 7 (a.fF.fSet.fRules.map TRule.i), V.int .i64 a.fF.fOpen.fNext, V.imm 13 (a.fF.fOpen.fList.map TPend.i), V.imm 17 (a.fF.fLines.map TLine.i), V.int .i64 a.fF.fAsked, V.int .i64 a.fF.fReplied, V.int .i64 a.fF.fFaults, V.int .i64 a.fF.fSent, V.imm 6 (a.fPosts.map TPost.i), V.imm 16 (a.fNet.map TPacket.i), V.imm 16 (a.fReplies.map TReply.i), V.imm 15 (a.fServed.map TServed.i)]] [] = some (.bool true, []) := by
  simp only [TWorld.sz] at h
  rw [Run_go T_laws_eqWorld _ _ rfl]
  have u0 := eq_Fabric a.fF (by omega)
  have u1 := eq_PostS a.fPosts (by omega)
  have u2 := eq_PacketS a.fNet (by omega)
  have u3 := eq_ReplyS a.fReplies (by omega)
  have u4 := eq_ServedS a.fServed (by omega)
  simp [h_laws_eqWorld, u0, u1, u2, u3, u4]

end Go.Pm
