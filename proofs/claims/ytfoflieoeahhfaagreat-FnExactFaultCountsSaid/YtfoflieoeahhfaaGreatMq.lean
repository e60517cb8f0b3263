/- Proved: the law FnExactFaultCounts answers true at all arguments, for every operating system that has started; no conditions beyond the row's own. -/
import Derived.Test.YtfoflieoeahhfaaGreatMp
import Derived.Test.YtfoflieoeahhfaaGreatRows
import Derived.Test.YtfoflieoeahhfaaGreatChecked
import Derived.ProofKit
set_option linter.unusedVariables false
set_option linter.unusedSimpArgs false
namespace Go.Proofs.YtfoflieoeahhfaaGreat
open Go Go.ChangeShapes Go.WideShapes Go.ChangeAt Go.RowKit Go.Pm
set_option maxRecDepth 100000
theorem Tryz.own:ownKnob Tryz.prog.godebug=none:=by kernel_rfl
theorem Tryz.laidOut:laidOutB Tryz.prog=true:=by kernel_rfl
theorem argsOne {s:Bool×List PT} {ys:List V} (h:zg8 [s] ys):∃ y,ys=[y]/\yjb s y:=by
 simp only [zg8] at h
 obtain ⟨y,ys',rfl,h1,rfl⟩:=h
 exact ⟨y,rfl,h1⟩
theorem joinedFacts_of {P:Program} {f:FuncId} {fn:Func} {s:ChangeSpec} {c:OpenClaim} (h0:(c.wf (OpenSpec.ofChange s))=true) (h1:(laidOutB P)=true) (h2:(mapsRowed P)=true) (h3:(fn.params.all (P.readableRec ·))=true) (h4:(namedTie P c.named s.vars)=true) (h5:((c.inPlace == P.inPlace f))=true) (h6:((c.unfollowed == P.unfollowed f))=true) (h7:((c.recurses == P.recurses f))=true) (h8:((c.named == P.varsNamed f))=true) (h9:((c.maps == (fn.params.toList++s.plain.varTypes P).any (P.mapsRec ·))&&(c.ifaces == (fn.params.toList++s.plain.varTypes P).any (P.ifacesRec ·))&&(c.mapsOut == P.mapsAmong fn.resultTypes.toList))=true) (h10:((c.loops == (fn.params.toList++s.plain.varTypes P).any (P.loopsFrom ·))&&(c.wideKeys == (fn.params.toList++s.plain.varTypes P++fn.resultTypes.toList).any (P.wideKeysFrom ·)))=true) (h11:(s.vars.all (P.varReadable ·)&&fn.resultTypes.all (fun t=>P.readableRec t&&decide (t<P.types.size))&&(c.ifacesOut == fn.resultTypes.toList.any (P.ifacesRec ·))&&(c.loopsOut == fn.resultTypes.toList.any (P.loopsFrom ·))&&(c.plainKeys == P.plainKeys))=true) (h12:(c.shortTexts.isNone&&P.stopsHeard)=true) (h13:(P.mayEnter)=true) (h14:((c.lifted == P.liftsFinal))=true) (h15:((P.make == some c.make))=true) (h16:((c.kinds == (if c.domain.isEmpty then [] else fn.params.toList.map fun t=>match P.underlying t with|some (.int k)=>some k|_=>none))&&(c.pinned == c.pinnedBy))=true) (h17:((c.veiled == (fn.params.toList++s.plain.varTypes P++fn.resultTypes.toList).any (P.veiledRec ·))&&c.veiledFits P fn.params.toList (fn.params.toList++s.plain.varTypes P++fn.resultTypes.toList))=true) (hs1:(c.stops == [])=true) (hs2:(P.stops == [])=true) (hs3:(c.knobs == [])=true) (hs4:(P.stopKnobs == [])=true):joinedFacts P f fn s c=true:=by
 simp only [Bool.and_eq_true] at h9 h10 h11 h12 h16 h17
 simp only [joinedFacts,Bool.and_eq_true]
 simp only [h0,h1,h2,h3,h4,h5,h6,h7,h8,h9,h10,h11,h12,h13,h14,h15,h16,h17,hs1,hs2,hs3,hs4,and_self]
 exact ⟨⟨⟨⟨trivial,h16.1⟩,trivial⟩,trivial⟩,trivial⟩
theorem jf0:(fun (P:Program) (f:FuncId) (fn:Func) (s:ChangeSpec) (c:OpenClaim)=>(c.wf (OpenSpec.ofChange s):Bool)) Tryz.checked.prog 4 Tryz.f4 Rows.fnExactFaultCountsSpec Rows.fnExactFaultCountsRow=true:=by kernel_rfl
theorem jf1:(fun (P:Program) (f:FuncId) (fn:Func) (s:ChangeSpec) (c:OpenClaim)=>(laidOutB P:Bool)) Tryz.checked.prog 4 Tryz.f4 Rows.fnExactFaultCountsSpec Rows.fnExactFaultCountsRow=true:=by kernel_rfl
theorem jf2:(fun (P:Program) (f:FuncId) (fn:Func) (s:ChangeSpec) (c:OpenClaim)=>(mapsRowed P:Bool)) Tryz.checked.prog 4 Tryz.f4 Rows.fnExactFaultCountsSpec Rows.fnExactFaultCountsRow=true:=by kernel_rfl
theorem jf3:(fun (P:Program) (f:FuncId) (fn:Func) (s:ChangeSpec) (c:OpenClaim)=>(fn.params.all (P.readableRec ·):Bool)) Tryz.checked.prog 4 Tryz.f4 Rows.fnExactFaultCountsSpec Rows.fnExactFaultCountsRow=true:=by kernel_rfl
theorem jf4:(fun (P:Program) (f:FuncId) (fn:Func) (s:ChangeSpec) (c:OpenClaim)=>(namedTie P c.named s.vars:Bool)) Tryz.checked.prog 4 Tryz.f4 Rows.fnExactFaultCountsSpec Rows.fnExactFaultCountsRow=true:=by kernel_rfl
theorem jf5:(fun (P:Program) (f:FuncId) (fn:Func) (s:ChangeSpec) (c:OpenClaim)=>((c.inPlace == P.inPlace f):Bool)) Tryz.checked.prog 4 Tryz.f4 Rows.fnExactFaultCountsSpec Rows.fnExactFaultCountsRow=true:=by kernel_rfl
theorem jf6:(fun (P:Program) (f:FuncId) (fn:Func) (s:ChangeSpec) (c:OpenClaim)=>((c.unfollowed == P.unfollowed f):Bool)) Tryz.checked.prog 4 Tryz.f4 Rows.fnExactFaultCountsSpec Rows.fnExactFaultCountsRow=true:=by kernel_rfl
theorem jf7:(fun (P:Program) (f:FuncId) (fn:Func) (s:ChangeSpec) (c:OpenClaim)=>((c.recurses == P.recurses f):Bool)) Tryz.checked.prog 4 Tryz.f4 Rows.fnExactFaultCountsSpec Rows.fnExactFaultCountsRow=true:=by kernel_rfl
theorem jf8:(fun (P:Program) (f:FuncId) (fn:Func) (s:ChangeSpec) (c:OpenClaim)=>((c.named == P.varsNamed f):Bool)) Tryz.checked.prog 4 Tryz.f4 Rows.fnExactFaultCountsSpec Rows.fnExactFaultCountsRow=true:=by kernel_rfl
theorem jf9:(fun (P:Program) (f:FuncId) (fn:Func) (s:ChangeSpec) (c:OpenClaim)=>((c.maps == (fn.params.toList++s.plain.varTypes P).any (P.mapsRec ·))&&(c.ifaces == (fn.params.toList++s.plain.varTypes P).any (P.ifacesRec ·))&&(c.mapsOut == P.mapsAmong fn.resultTypes.toList):Bool)) Tryz.checked.prog 4 Tryz.f4 Rows.fnExactFaultCountsSpec Rows.fnExactFaultCountsRow=true:=by kernel_rfl
theorem jf10:(fun (P:Program) (f:FuncId) (fn:Func) (s:ChangeSpec) (c:OpenClaim)=>((c.loops == (fn.params.toList++s.plain.varTypes P).any (P.loopsFrom ·))&&(c.wideKeys == (fn.params.toList++s.plain.varTypes P++fn.resultTypes.toList).any (P.wideKeysFrom ·)):Bool)) Tryz.checked.prog 4 Tryz.f4 Rows.fnExactFaultCountsSpec Rows.fnExactFaultCountsRow=true:=by kernel_rfl
theorem jf11:(fun (P:Program) (f:FuncId) (fn:Func) (s:ChangeSpec) (c:OpenClaim)=>(s.vars.all (P.varReadable ·)&&fn.resultTypes.all (fun t=>P.readableRec t&&decide (t<P.types.size))&&(c.ifacesOut == fn.resultTypes.toList.any (P.ifacesRec ·))&&(c.loopsOut == fn.resultTypes.toList.any (P.loopsFrom ·))&&(c.plainKeys == P.plainKeys):Bool)) Tryz.checked.prog 4 Tryz.f4 Rows.fnExactFaultCountsSpec Rows.fnExactFaultCountsRow=true:=by kernel_rfl
theorem jf12:(fun (P:Program) (f:FuncId) (fn:Func) (s:ChangeSpec) (c:OpenClaim)=>(c.shortTexts.isNone&&P.stopsHeard:Bool)) Tryz.checked.prog 4 Tryz.f4 Rows.fnExactFaultCountsSpec Rows.fnExactFaultCountsRow=true:=by kernel_rfl
theorem jf13:(fun (P:Program) (f:FuncId) (fn:Func) (s:ChangeSpec) (c:OpenClaim)=>(P.mayEnter:Bool)) Tryz.checked.prog 4 Tryz.f4 Rows.fnExactFaultCountsSpec Rows.fnExactFaultCountsRow=true:=by kernel_rfl
theorem jf14:(fun (P:Program) (f:FuncId) (fn:Func) (s:ChangeSpec) (c:OpenClaim)=>((c.lifted == P.liftsFinal):Bool)) Tryz.checked.prog 4 Tryz.f4 Rows.fnExactFaultCountsSpec Rows.fnExactFaultCountsRow=true:=by kernel_rfl
theorem jf15:(fun (P:Program) (f:FuncId) (fn:Func) (s:ChangeSpec) (c:OpenClaim)=>((P.make == some c.make):Bool)) Tryz.checked.prog 4 Tryz.f4 Rows.fnExactFaultCountsSpec Rows.fnExactFaultCountsRow=true:=by kernel_rfl
theorem jf16:(fun (P:Program) (f:FuncId) (fn:Func) (s:ChangeSpec) (c:OpenClaim)=>((c.kinds == (if c.domain.isEmpty then [] else fn.params.toList.map fun t=>match P.underlying t with|some (.int k)=>some k|_=>none))&&(c.pinned == c.pinnedBy):Bool)) Tryz.checked.prog 4 Tryz.f4 Rows.fnExactFaultCountsSpec Rows.fnExactFaultCountsRow=true:=by kernel_rfl
theorem jf17:(fun (P:Program) (f:FuncId) (fn:Func) (s:ChangeSpec) (c:OpenClaim)=>((c.veiled == (fn.params.toList++s.plain.varTypes P++fn.resultTypes.toList).any (P.veiledRec ·))&&c.veiledFits P fn.params.toList (fn.params.toList++s.plain.varTypes P++fn.resultTypes.toList):Bool)) Tryz.checked.prog 4 Tryz.f4 Rows.fnExactFaultCountsSpec Rows.fnExactFaultCountsRow=true:=by kernel_rfl
theorem jf18:(fun (P:Program) (f:FuncId) (fn:Func) (s:ChangeSpec) (c:OpenClaim)=>(c.stops == []:Bool)) Tryz.checked.prog 4 Tryz.f4 Rows.fnExactFaultCountsSpec Rows.fnExactFaultCountsRow=true:=by kernel_rfl
theorem jf19:(fun (P:Program) (f:FuncId) (fn:Func) (s:ChangeSpec) (c:OpenClaim)=>(P.stops == []:Bool)) Tryz.checked.prog 4 Tryz.f4 Rows.fnExactFaultCountsSpec Rows.fnExactFaultCountsRow=true:=by kernel_rfl
theorem jf20:(fun (P:Program) (f:FuncId) (fn:Func) (s:ChangeSpec) (c:OpenClaim)=>(c.knobs == []:Bool)) Tryz.checked.prog 4 Tryz.f4 Rows.fnExactFaultCountsSpec Rows.fnExactFaultCountsRow=true:=by kernel_rfl
theorem jf21:(fun (P:Program) (f:FuncId) (fn:Func) (s:ChangeSpec) (c:OpenClaim)=>(P.stopKnobs == []:Bool)) Tryz.checked.prog 4 Tryz.f4 Rows.fnExactFaultCountsSpec Rows.fnExactFaultCountsRow=true:=by kernel_rfl
theorem fnExactFaultCounts_lifted (os:Os) (started:os.Started) (H:Type) (enc:TypeId×Value->H):
 ReturnsInHanded {} Tryz.checked os 4 .any (Rows.fnExactFaultCountsSpec.pre6 enc Tryz.prog Tryz.f4 Rows.fnExactFaultCountsRow.domain false) (Rows.fnExactFaultCountsSpec.post enc Tryz.prog Tryz.f4 false true false false):=by
 refine returnsInHanded_of_change (C:=Tryz.checked) Tryz.own started (by kernel_rfl) Tryz.func4
  (ChangeSpec.witness6 (enc:=enc) (C:=Tryz.checked) false ⟨#[],#[.agg #[.int .i64 0,.int .i64 0,.int .i64 0,.slice none 0 0,.int .i64 0,.slice none 0 0,.slice none 0 0,.int .i64 0,.int .i64 0,.int .i64 0,.int .i64 0,.slice none 0 0,.slice none 0 0,.slice none 0 0,.slice none 0 0]],[]⟩ 8 (by kernel_rfl) (by kernel_rfl) (by kernel_rfl) (by kernel_rfl)) ?_
 intro W base args ds gs before hval0 hW _ _
 refine ykf ykc Tryz.laidOut (n:=20) (sig:=[(true,zi2)]) (tb:=_) rfl ?_ rfl (by kernel_rfl) (of_decide_eq_true (by kernel_rfl)) (by kernel_rfl) (by simp) (fun ys h=>by obtain ⟨y,rfl,h1,h2⟩:=argsOne h;obtain ⟨a,rfl,ha⟩:=zwc h1 h2;exact (qf2 true (zem a ha)).1) hval0 hW
 intro ds hds
 match ds,hds with
 | [d0],_=>rfl
theorem fnExactFaultCounts_holds:Rows.FnExactFaultCountsSaid:=
 OpenClaim.holds_of_wide 4 Tryz.f4 rfl rfl rfl rfl rfl rfl rfl ⟨rfl,rfl,rfl,rfl,rfl⟩ rfl rfl rfl rfl rfl (by kernel_rfl) Tryz.func4 (joinedFacts_of jf0 jf1 jf2 jf3 jf4 jf5 jf6 jf7 jf8 jf9 jf10 jf11 jf12 jf13 jf14 jf15 jf16 jf17 jf18 jf19 jf20 jf21)
  (of_decide_eq_true (by kernel_rfl)) (by unfold Func.isWrapper;first|(rw [if_pos (by decide +kernel)];kernel_rfl)|(rw [if_neg (by decide +kernel)];exact ⟨rfl,rfl⟩))
  (fun os started H enc _=>fnExactFaultCounts_lifted os started H enc)
end Go.Proofs.YtfoflieoeahhfaaGreat
