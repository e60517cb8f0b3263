/- Proved: the law FnExactSummary answers true at all arguments, for every operating system that has started, where the library's three tables lie as the program's text lays them, and that they lie so is tied to the text. -/
import Derived.Test.YtfoflieoeahhfaaDoorMq
import Derived.Test.YtfoflieoeahhfaaDoorRows
import Derived.Test.YtfoflieoeahhfaaDoorCards
import Derived.Test.YtfoflieoeahhfaaDoorTie
import Derived.Test.YtfoflieoeahhfaaDoorChecked
import Derived.ProofKit
import Derived.LaidLaws
import Derived.Handed
import Derived.Lib.LaidIn
import Derived.Lib.LaidTab
import Derived.Stop.LaidErr
import Derived.SevenTiedAt
set_option linter.unusedVariables false
set_option linter.unusedSimpArgs false
namespace Go.Proofs.YtfoflieoeahhfaaDoor
open Go Go.ChangeShapes Go.WideShapes Go.ChangeAt Go.RowKit Go.Pm
set_option maxRecDepth 100000
theorem Tryd.own:ownKnob Tryd.prog.godebug=none:=by kernel_rfl
theorem Tryd.laidOut:laidOutB Tryd.prog=true:=by kernel_rfl
theorem argsOne {s:Bool×List PT} {ys:List V} (h:zgp [s] ys):∃ y,ys=[y]/\ya0 s y:=by
 simp only [zgp] at h
 obtain ⟨y,ys',rfl,h1,rfl⟩:=h
 exact ⟨y,rfl,h1⟩
theorem Tryd.gT:Tryd.prog.globalNamed Tryd.tabName=some 0:=by kernel_rfl
theorem Tryd.gTType:(Tryd.prog.globals[0]?).map (·.type)=some 140:=by kernel_rfl
theorem tab_of_laid {W:World} (h:laidMet Tryd.prog Rows.fnExactSummaryRow.laid W):Lib.TabIs Tryd.prog W Tryd.tabName .u64 Lib.pow10Tab:=by
 have h1:laidMet Tryd.prog ((Tryd.tabName,Lib.tabData .u64 Lib.pow10Tab) :: []) W:=h.tail.tail
 exact Lib.tabIs_of_head Tryd.gT Tryd.gTType Tryd.underlying140 Tryd.underlying116 (by kernel_rfl) (by kernel_rfl) h1
def cellsOf:DataW Unit->Array Value
 | .agg ds=>(ds.map fun | .lit (.int k n)=>Value.int k n|_=>.bool false).toArray
 | _=> #[]
noncomputable def laidWorld (os:Os):World:=
 let w0:=World.holding Tryd.prog os ⟨#[],#[],[]⟩
 let put (g:Nat) (d:DataW Unit) (h:Array Obj):Array Obj:=h.modify g fun
     | .cells _ t frozen=>.cells (cellsOf d) t frozen
     | o=>o
 { w0 with heap:=put 2 Rows.laid_math_bits_deBruijn64tab (put 1 Rows.laid_math_bits_deBruijn32tab (put 0 Rows.laid_internal_strconv_uint64pow10 w0.heap)) }
theorem laid_met (os:Os) (args:Array Value):laidMet Tryd.prog Rows.fnExactSummaryRow.laid ((laidWorld os).forCall (fun _ _=>0) ⟨#[],args,[]⟩).memory:=
 (LaidIn.of_run [0,1,2] 8 (by kernel_rfl) (by kernel_rfl) (by kernel_rfl) (by kernel_rfl)).met
theorem joinedFacts_of {P:Program} {f:FuncId} {fn:Func} {s:ChangeSpec} {c:OpenClaim} (h0:(c.wf (OpenSpec.ofChange s))=true) (h1:(laidOutB P)=true) (h2:(mapsRowed P)=true) (h3:(fn.params.all (P.readableRec ·))=true) (h4:(namedTie P c.named s.vars)=true) (h5:((c.inPlace == P.inPlace f))=true) (h6:((c.unfollowed == P.unfollowed f))=true) (h7:((c.recurses == P.recurses f))=true) (h8:((c.named == P.varsNamed f))=true) (h9:((c.maps == (fn.params.toList++s.plain.varTypes P).any (P.mapsRec ·))&&(c.ifaces == (fn.params.toList++s.plain.varTypes P).any (P.ifacesRec ·))&&(c.mapsOut == P.mapsAmong fn.resultTypes.toList))=true) (h10:((c.loops == (fn.params.toList++s.plain.varTypes P).any (P.loopsFrom ·))&&(c.wideKeys == (fn.params.toList++s.plain.varTypes P++fn.resultTypes.toList).any (P.wideKeysFrom ·)))=true) (h11:(s.vars.all (P.varReadable ·)&&fn.resultTypes.all (fun t=>P.readableRec t&&decide (t<P.types.size))&&(c.ifacesOut == fn.resultTypes.toList.any (P.ifacesRec ·))&&(c.loopsOut == fn.resultTypes.toList.any (P.loopsFrom ·))&&(c.plainKeys == P.plainKeys))=true) (h12:(c.shortTexts.isNone&&P.stopsHeard)=true) (h13:(P.mayEnter)=true) (h14:((c.lifted == P.liftsFinal))=true) (h15:((P.make == some c.make))=true) (h16:((c.kinds == (if c.domain.isEmpty then [] else fn.params.toList.map fun t=>match P.underlying t with|some (.int k)=>some k|_=>none))&&(c.pinned == c.pinnedBy))=true) (h17:((c.veiled == (fn.params.toList++s.plain.varTypes P++fn.resultTypes.toList).any (P.veiledRec ·))&&c.veiledFits P fn.params.toList (fn.params.toList++s.plain.varTypes P++fn.resultTypes.toList))=true) (hs1:(c.stops == [])=true) (hs2:(P.stops == [])=true) (hs3:(c.knobs == [])=true) (hs4:(P.stopKnobs == [])=true):joinedFacts P f fn s c=true:=by
 simp only [Bool.and_eq_true] at h9 h10 h11 h12 h16 h17
 simp only [joinedFacts,Bool.and_eq_true]
 simp only [h0,h1,h2,h3,h4,h5,h6,h7,h8,h9,h10,h11,h12,h13,h14,h15,h16,h17,hs1,hs2,hs3,hs4,and_self]
 exact ⟨⟨⟨⟨trivial,h16.1⟩,trivial⟩,trivial⟩,trivial⟩
noncomputable abbrev JF (g:Program->FuncId->Func->ChangeSpec->OpenClaim->Bool):Bool:=g Tryd.checked.prog 3 Tryd.f3 Rows.fnExactSummarySpec Rows.fnExactSummaryRow
theorem jf0:(JF fun P f fn s c=>c.wf (OpenSpec.ofChange s))=true:=by kernel_rfl
theorem jf1:(JF fun P f fn s c=>laidOutB P)=true:=by kernel_rfl
theorem jf2:(JF fun P f fn s c=>mapsRowed P)=true:=by kernel_rfl
theorem jf3:(JF fun P f fn s c=>fn.params.all (P.readableRec ·))=true:=by kernel_rfl
theorem jf4:(JF fun P f fn s c=>namedTie P c.named s.vars)=true:=by kernel_rfl
theorem jf5:(JF fun P f fn s c=>(c.inPlace == P.inPlace f))=true:=by kernel_rfl
theorem jf6:(JF fun P f fn s c=>(c.unfollowed == P.unfollowed f))=true:=by kernel_rfl
theorem jf7:(JF fun P f fn s c=>(c.recurses == P.recurses f))=true:=by kernel_rfl
theorem jf8:(JF fun P f fn s c=>(c.named == P.varsNamed f))=true:=by kernel_rfl
theorem jf9:(JF fun P f fn s c=>(c.maps == (fn.params.toList++s.plain.varTypes P).any (P.mapsRec ·))&&(c.ifaces == (fn.params.toList++s.plain.varTypes P).any (P.ifacesRec ·))&&(c.mapsOut == P.mapsAmong fn.resultTypes.toList))=true:=by kernel_rfl
theorem jf10:(JF fun P f fn s c=>(c.loops == (fn.params.toList++s.plain.varTypes P).any (P.loopsFrom ·))&&(c.wideKeys == (fn.params.toList++s.plain.varTypes P++fn.resultTypes.toList).any (P.wideKeysFrom ·)))=true:=by kernel_rfl
theorem jf11:(JF fun P f fn s c=>s.vars.all (P.varReadable ·)&&fn.resultTypes.all (fun t=>P.readableRec t&&decide (t<P.types.size))&&(c.ifacesOut == fn.resultTypes.toList.any (P.ifacesRec ·))&&(c.loopsOut == fn.resultTypes.toList.any (P.loopsFrom ·))&&(c.plainKeys == P.plainKeys))=true:=by kernel_rfl
theorem jf12:(JF fun P f fn s c=>c.shortTexts.isNone&&P.stopsHeard)=true:=by kernel_rfl
theorem jf13:(JF fun P f fn s c=>P.mayEnter)=true:=by kernel_rfl
theorem jf14:(JF fun P f fn s c=>(c.lifted == P.liftsFinal))=true:=by kernel_rfl
theorem jf15:(JF fun P f fn s c=>(P.make == some c.make))=true:=by kernel_rfl
theorem jf16:(JF fun P f fn s c=>(c.kinds == (if c.domain.isEmpty then [] else fn.params.toList.map fun t=>match P.underlying t with|some (.int k)=>some k|_=>none))&&(c.pinned == c.pinnedBy))=true:=by kernel_rfl
theorem jf17:(JF fun P f fn s c=>(c.veiled == (fn.params.toList++s.plain.varTypes P++fn.resultTypes.toList).any (P.veiledRec ·))&&c.veiledFits P fn.params.toList (fn.params.toList++s.plain.varTypes P++fn.resultTypes.toList))=true:=by kernel_rfl
theorem jf18:(JF fun P f fn s c=>c.stops == [])=true:=by kernel_rfl
theorem jf19:(JF fun P f fn s c=>P.stops == [])=true:=by kernel_rfl
theorem jf20:(JF fun P f fn s c=>c.knobs == [])=true:=by kernel_rfl
theorem jf21:(JF fun P f fn s c=>P.stopKnobs == [])=true:=by kernel_rfl
theorem fnExactSummary_lifted (os:Os) (started:os.Started) (H:Type) (enc:TypeId×Value->H):
 ReturnsInHanded {} Tryd.checked os 3 .any (fun w args=>(Rows.fnExactSummarySpec.pre enc Tryd.prog Tryd.f3 Rows.fnExactSummaryRow.domain false w args/\laidMet Tryd.prog Rows.fnExactSummaryRow.laid w)/\sizedMet enc Tryd.prog Tryd.f3 (OpenSpec.ofChange Rows.fnExactSummarySpec) false w args)
  (Rows.fnExactSummarySpec.post enc Tryd.prog Tryd.f3 false true false false):=by
 refine returnsInHanded_of_change_and (C:=Tryd.checked) (X:=fun w _=>laidMet Tryd.prog Rows.fnExactSummaryRow.laid w) (fun _ _ _ hh h=>h.of_heap hh) Tryd.own started (by kernel_rfl) Tryd.func3
  (ChangeSpec.witness_at (enc:=enc) (C:=Tryd.checked) (os:=os) (X:=fun w _=>laidMet Tryd.prog Rows.fnExactSummaryRow.laid w) false (laidWorld os) #[.agg #[.int .i64 0,.int .i64 0,.int .i64 0,.slice none 0 0,.int .i64 0,.slice none 0 0,.slice none 0 0,.int .i64 0,.int .i64 0,.int .i64 0,.int .i64 0]] 8 rfl (by kernel_rfl) (by kernel_rfl) (by kernel_rfl) (by kernel_rfl) (by kernel_rfl) (laid_met os _)) ?_
 intro W base args ds gs before hval0 hW _ _ hL _
 refine yb1 ycv Tryd.laidOut (n:=20) (sig:=[(true,zgc)]) (tb:=_) rfl ?_ rfl (by kernel_rfl) (of_decide_eq_true (by kernel_rfl)) (by kernel_rfl) (by simp) (fun ys h=>by obtain ⟨y,rfl,h1,h2⟩:=argsOne h;obtain ⟨a,rfl,ha⟩:=zri h1 h2;exact (yl3 true (zfz a ha)).1) hval0 hW (ycc (tab_of_laid hL))
 intro ds hds
 match ds,hds with
 | [d0],_=>rfl
theorem fnExactSummary_holds:Rows.FnExactSummarySaid:=
 OpenClaim.holds_of_wide 3 Tryd.f3 rfl rfl rfl rfl rfl rfl rfl ⟨rfl,rfl,rfl,rfl,rfl⟩ rfl rfl rfl rfl rfl (by kernel_rfl) Tryd.func3 (joinedFacts_of jf0 jf1 jf2 jf3 jf4 jf5 jf6 jf7 jf8 jf9 jf10 jf11 jf12 jf13 jf14 jf15 jf16 jf17 jf18 jf19 jf20 jf21)
  (of_decide_eq_true (by kernel_rfl)) (by unfold Func.isWrapper;first|(rw [if_pos (by decide +kernel)];kernel_rfl)|(rw [if_neg (by decide +kernel)];exact ⟨rfl,rfl⟩))
  (fun os started H enc _=>fnExactSummary_lifted os started H enc)
theorem fnExactSummaryCard_holds:Rows.FnExactSummaryCardSaid:=
 Claim7.holds_tied_plain_at .later [] [.data,.data,.data] true Rows.fnExactSummaryCard.stood.harness false
  fnExactSummary_holds (fun _ h=>by cases h) (by kernel_rfl) (fun _ h=>by cases h) fnExactSummary_row_tie rfl ⟨rfl,rfl⟩ (by kernel_rfl) rfl
  (fun f fn hf hfn=>by
   obtain rfl:f=3:=Option.some.inj ((show Tryd.prog.funcNamed Rows.fnExactSummaryRow.func=some 3 by kernel_rfl).symm.trans hf) |>.symm
   obtain rfl:fn=Tryd.f3:=(Option.some.inj (Tryd.func3.symm.trans hfn)).symm
   exact ⟨by kernel_rfl,fun j t ht=>by
    rw [Tryd.params3] at ht
    have h3:t=30:=by
     rcases j with _|j
     ·simpa using ht.symm
     ·simp at ht
    subst h3
    exact (show Tryd.prog.wantsStandIn 30=false by kernel_rfl)⟩)
  (by kernel_rfl)
end Go.Proofs.YtfoflieoeahhfaaDoor
