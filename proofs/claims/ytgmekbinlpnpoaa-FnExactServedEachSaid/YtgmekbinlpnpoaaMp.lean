/- Proved: the law FnExactServedEach answers true at all arguments, for every operating system that has started; no conditions beyond the row's own. -/
import Derived.Test.YtgmekbinlpnpoaaMo
import Derived.Test.YtgmekbinlpnpoaaRows
import Derived.Test.YtgmekbinlpnpoaaChecked
import Derived.ProofKit
set_option linter.unusedVariables false
set_option linter.unusedSimpArgs false
namespace Go.Proofs.Ytgmekbinlpnpoaa
open Go.ChangeShapes Go.WideShapes Go.ChangeAt Go.RowKit Go.Pm
set_option maxRecDepth 100000
theorem Try.own : ownKnob Try.prog.godebug = none := by kernel_rfl
theorem Try.laidOut : laidOutB Try.prog = true := by kernel_rfl
theorem argsOne {s : Bool × List PT} {ys : List V} (h : ArgsTy [s] ys) : ∃ y, ys = [y] ∧ argTy s y := by
  simp only [ArgsTy] at h
  obtain ⟨y, ys', rfl, h1, rfl⟩ := h
  exact ⟨y, rfl, h1⟩
theorem fnExactServedEach_lifted (os : Os) (started : os.Started) (H : Type) (enc : TypeId × Value → H) :
    ReturnsInHanded {} Try.checked os 7 .any (Rows.fnExactServedEachSpec.pre6 enc Try.prog Try.f7 Rows.fnExactServedEachRow.domain false) (Rows.fnExactServedEachSpec.post enc Try.prog Try.f7 false true false false) := by
  refine returnsInHanded_of_change (C := Try.checked) Try.own started (by kernel_rfl) Try.func7
    (ChangeSpec.witness6 (enc := enc) (C := Try.checked) false ⟨#[], #[.agg #[.int .i64 0, .int .i64 0, .int .i64 0, .slice none 0 0, .int .i64 0, .slice none 0 0, .slice none 0 0, .int .i64 0, .int .i64 0, .int .i64 0, .int .i64 0, .slice none 0 0, .slice none 0 0, .slice none 0 0, .slice none 0 0]], []⟩ 8 (by kernel_rfl) (by kernel_rfl) (by kernel_rfl) (by kernel_rfl)) ?_
  intro W base args ds gs before hval0 hW _ _
  refine law_ok tab_ok Try.laidOut (n := 20) (sig := [(true, pt_World)]) (tb := _) rfl ?_ rfl (by kernel_rfl) (of_decide_eq_true (by kernel_rfl)) (by kernel_rfl) (by simp) (fun ys h => by obtain ⟨y, rfl, h1, h2⟩ := argsOne h; obtain ⟨a, rfl, ha⟩ := aof_World h1 h2; exact law_ServedEach a ha) hval0 hW
  intro ds hds
  match ds, hds with
  | [d0], _ => rfl
theorem fnExactServedEach_holds : Rows.FnExactServedEachSaid :=
  OpenClaim.holds_of_wide 7 Try.f7 rfl rfl rfl rfl rfl rfl rfl ⟨rfl, rfl, rfl, rfl, rfl⟩ rfl rfl rfl rfl rfl (by kernel_rfl) Try.func7 (by kernel_rfl)
    (of_decide_eq_true (by kernel_rfl)) (by unfold Func.isWrapper; first | (rw [if_pos (by decide +kernel)]; kernel_rfl) | (rw [if_neg (by decide +kernel)]; exact ⟨rfl, rfl⟩))
    (fun os started H enc _ => fnExactServedEach_lifted os started H enc)
end Go.Proofs.Ytgmekbinlpnpoaa
