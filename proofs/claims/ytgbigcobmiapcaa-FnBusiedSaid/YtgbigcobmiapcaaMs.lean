/- Proved: the law FnBusied answers true at all arguments, for every operating system that has started; no conditions beyond the row's own. -/
import Derived.Test.YtgbigcobmiapcaaMr
import Derived.Test.YtgbigcobmiapcaaRows
import Derived.Test.YtgbigcobmiapcaaChecked
import Derived.ProofKit
set_option linter.unusedVariables false
set_option linter.unusedSimpArgs false
namespace Go.Proofs.Ytgbigcobmiapcaa
open Go Go.ChangeShapes Go.WideShapes Go.ChangeAt Go.RowKit Go.Pm
set_option maxRecDepth 100000
theorem Try.own:ownKnob Try.prog.godebug=none:=by kernel_rfl
theorem Try.laidOut:laidOutB Try.prog=true:=by kernel_rfl
theorem argsOne {s:Bool×List PT} {ys:List V} (h:zgw [s] ys):∃ y,ys=[y]/\yg8 s y:=by
 simp only [zgw] at h
 obtain ⟨y,ys',rfl,h1,rfl⟩:=h
 exact ⟨y,rfl,h1⟩
theorem joinedFacts_of {P:Program} {f:FuncId} {fn:Func} {s:ChangeSpec} {c:OpenClaim} (h0:(c.wf (OpenSpec.ofChange s))=true) (h1:(laidOutB P)=true) (h2:(mapsRowed P)=true) (h3:(fn.params.all (P.readableRec ·))=true) (h4:(namedTie P c.named s.vars)=true) (h5:((c.inPlace == P.inPlace f))=true) (h6:((c.unfollowed == P.unfollowed f))=true) (h7:((c.recurses == P.recurses f))=true) (h8:((c.named == P.varsNamed f))=true) (h9:((c.maps == (fn.params.toList++s.plain.varTypes P).any (P.mapsRec ·))&&(c.ifaces == (fn.params.toList++s.plain.varTypes P).any (P.ifacesRec ·))&&(c.mapsOut == P.mapsAmong fn.resultTypes.toList))=true) (h10:((c.loops == (fn.params.toList++s.plain.varTypes P).any (P.loopsFrom ·))&&(c.wideKeys == (fn.params.toList++s.plain.varTypes P++fn.resultTypes.toList).any (P.wideKeysFrom ·)))=true) (h11:(s.vars.all (P.varReadable ·)&&fn.resultTypes.all (fun t=>P.readableRec t&&decide (t<P.types.size))&&(c.ifacesOut == fn.resultTypes.toList.any (P.ifacesRec ·))&&(c.loopsOut == fn.resultTypes.toList.any (P.loopsFrom ·))&&(c.plainKeys == P.plainKeys))=true) (h12:(c.shortTexts.isNone&&P.stopsHeard)=true) (h13:(P.mayEnter)=true) (h14:((c.lifted == P.liftsFinal))=true) (h15:((P.make == some c.make))=true) (h16:((c.kinds == (if c.domain.isEmpty then [] else fn.params.toList.map fun t=>match P.underlying t with|some (.int k)=>some k|_=>none))&&(c.pinned == c.pinnedBy))=true) (h17:((c.veiled == (fn.params.toList++s.plain.varTypes P++fn.resultTypes.toList).any (P.veiledRec ·))&&c.veiledFits P fn.params.toList (fn.params.toList++s.plain.varTypes P++fn.resultTypes.toList))=true) (hs1:(c.stops == [])=true) (hs2:(P.stops == [])=true) (hs3:(c.knobs == [])=true) (hs4:(P.stopKnobs == [])=true):joinedFacts P f fn s c=true:=by
 simp only [Bool.and_eq_true] at h9 h10 h11 h12 h16 h17
 simp only [joinedFacts,Bool.and_eq_true]
 simp only [h0,h1,h2,h3,h4,h5,h6,h7,h8,h9,h10,h11,h12,h13,h14,h15,h16,h17,hs1,hs2,hs3,hs4,and_self]
 exact ⟨⟨⟨⟨trivial,h16.1⟩,trivial⟩,trivial⟩,trivial⟩
noncomputable abbrev JF (g:Program->FuncId->Func->ChangeSpec->OpenClaim->Bool):Bool:=g Try.checked.prog 3 Try.f3 Rows.fnBusiedSpec Rows.fnBusiedRow
theorem jf0:(JF fun P f fn s c=>c.wf (OpenSpec.ofChange s))=true:=by kernel_rfl
theorem jf1:(JF fun P f fn s c=>laidOutB P)=true:=by kernel_rfl
theorem jf2:(JF fun P f fn s c=>mapsRowed P)=true:=by kernel_rfl
theorem jf3:(JF fun P f fn s c=>fn.params.all (P.readableRec ·))=true:=by kernel_rfl
theorem jf4:(JF fun P f fn s c=>namedTie P c.named s.vars)=true:=by kernel_rfl
theorem jf5:(JF fun P f fn s c=>(c.inPlace == P.inPlace f))=true:=by kernel_rfl
theorem jf6:(JF fun P f fn s c=>(c.unfollowed == P.unfollowed f))=true:=by kernel_rfl
theorem jf7:(JF fun P f fn s c=>(c.recurses == P.recurses f))=true:=by kernel_rfl
theorem jf8:(JF fun P f fn s c=>(c.named == P.varsNamed f))=true:=by kernel_rfl
theorem jf9:(JF fun P f fn s c=>(c.maps == (fn.params.toList++s.plain.varTypes P).any (P.mapsRec ·))&&(c.ifaces == (fn.params.toList++s.plain.varTypes P).any (P.ifacesRec ·))&&(c.mapsOut == P.mapsAmong fn.resultTypes.toList))=true:=by kernel_rfl
theorem jf10:(JF fun P f fn s c=>(c.loops == (fn.params.toList++s.plain.varTypes P).any (P.loopsFrom ·))&&(c.wideKeys == (fn.params.toList++s.plain.varTypes P++fn.resultTypes.toList).any (P.wideKeysFrom ·)))=true:=by kernel_rfl
theorem jf11:(JF fun P f fn s c=>s.vars.all (P.varReadable ·)&&fn.resultTypes.all (fun t=>P.readableRec t&&decide (t<P.types.size))&&(c.ifacesOut == fn.resultTypes.toList.any (P.ifacesRec ·))&&(c.loopsOut == fn.resultTypes.toList.any (P.loopsFrom ·))&&(c.plainKeys == P.plainKeys))=true:=by kernel_rfl
theorem jf12:(JF fun P f fn s c=>c.shortTexts.isNone&&P.stopsHeard)=true:=by kernel_rfl
theorem jf13:(JF fun P f fn s c=>P.mayEnter)=true:=by kernel_rfl
theorem jf14:(JF fun P f fn s c=>(c.lifted == P.liftsFinal))=true:=by kernel_rfl
theorem jf15:(JF fun P f fn s c=>(P.make == some c.make))=true:=by kernel_rfl
theorem jf16:(JF fun P f fn s c=>(c.kinds == (if c.domain.isEmpty then [] else fn.params.toList.map fun t=>match P.underlying t with|some (.int k)=>some k|_=>none))&&(c.pinned == c.pinnedBy))=true:=by kernel_rfl
theorem jf17:(JF fun P f fn s c=>(c.veiled == (fn.params.toList++s.plain.varTypes P++fn.resultTypes.toList).any (P.veiledRec ·))&&c.veiledFits P fn.params.toList (fn.params.toList++s.plain.varTypes P++fn.resultTypes.toList))=true:=by kernel_rfl
theorem jf18:(JF fun P f fn s c=>c.stops == [])=true:=by kernel_rfl
theorem jf19:(JF fun P f fn s c=>P.stops == [])=true:=by kernel_rfl
theorem jf20:(JF fun P f fn s c=>c.knobs == [])=true:=by kernel_rfl
theorem jf21:(JF fun P f fn s c=>P.stopKnobs == [])=true:=by kernel_rfl
theorem fnBusied_lifted (os:Os) (started:os.Started) (H:Type) (enc:TypeId×Value->H):
 ReturnsInHanded {} Try.checked os 3 .any (Rows.fnBusiedSpec.pre6 enc Try.prog Try.f3 Rows.fnBusiedRow.domain false) (Rows.fnBusiedSpec.post enc Try.prog Try.f3 false true false false):=by
 refine returnsInHanded_of_change (C:=Try.checked) Try.own started (by kernel_rfl) Try.func3
  (ChangeSpec.witness6 (enc:=enc) (C:=Try.checked) false ⟨#[],#[.slice none 0 0],[]⟩ 8 (by kernel_rfl) (by kernel_rfl) (by kernel_rfl) (by kernel_rfl)) ?_
 intro W base args ds gs before hval0 hW _ _
 refine yks yl7 Try.laidOut (n:=20) (sig:=[(false,[.list false [.int .u8]])]) (tb:=_) rfl ?_ rfl (by kernel_rfl) (of_decide_eq_true (by kernel_rfl)) (by kernel_rfl) (by simp) (fun ys h=>by obtain ⟨y,rfl,h1,h2⟩:=argsOne h;obtain ⟨a,rfl,_,hb⟩:=zzf (yf9 h1 h2);exact (qa6 true (zq2 a hb)).1) hval0 hW
 intro ds hds
 match ds,hds with
 | [d0],_=>rfl
theorem fnBusied_holds:Rows.FnBusiedSaid:=
 OpenClaim.holds_of_wide 3 Try.f3 rfl rfl rfl rfl rfl rfl rfl ⟨rfl,rfl,rfl,rfl,rfl⟩ rfl rfl rfl rfl rfl (by kernel_rfl) Try.func3 (joinedFacts_of jf0 jf1 jf2 jf3 jf4 jf5 jf6 jf7 jf8 jf9 jf10 jf11 jf12 jf13 jf14 jf15 jf16 jf17 jf18 jf19 jf20 jf21)
  (of_decide_eq_true (by kernel_rfl)) (by unfold Func.isWrapper;first|(rw [if_pos (by decide +kernel)];kernel_rfl)|(rw [if_neg (by decide +kernel)];exact ⟨rfl,rfl⟩))
  (fun os started H enc _=>fnBusied_lifted os started H enc)
end Go.Proofs.Ytgbigcobmiapcaa
