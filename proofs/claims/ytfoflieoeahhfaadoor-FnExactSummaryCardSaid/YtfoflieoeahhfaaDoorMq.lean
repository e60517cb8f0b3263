/- Proved: the law FnExactSummary answers true at all arguments, for every operating system that has started, where the library's three tables lie as the program's text lays them, and that they lie so is tied to the text. -/
import Derived.Test.YtfoflieoeahhfaaDoorMp
import Derived.Shelf.Strconv.Itoa0
import Derived.Shelf.Strconv.Itoa1
import Derived.Shelf.LaysM
import Derived.Shelf.Strconv.Itoa2
import Derived.Shelf.Strconv.Itoa3
import Derived.Test.YtfoflieoeahhfaaDoorProg
import Derived.Test.YtfoflieoeahhfaaDoorRows
import Derived.Lib.LaidTab
set_option linter.unusedVariables false
set_option linter.unusedSimpArgs false
namespace Go.Proofs
open Go.Shelf
def Tryd.tabName:String:=YtfoflieoeahhfaaDoor.Rows.fnExactSummaryRow.named.headD default
def Tryd.laysM171_ren:Go.Shelf.Ren:=⟨fun|171=>17|243=>29|246=>41|283=>54|284=>55|285=>56|286=>57|129=>69|317=>68|318=>70|319=>71|320=>72|337=>76|338=>77|n=>n,fun|3=>3|9=>9|2=>2|4=>4|171=>115|0=>0|53=>116|37=>110|5=>5|173=>119|212=>140|51=>141|20=>20|213=>142|46=>144|232=>150|233=>151|n=>n,fun|17=>0|18=>1|19=>2|n=>n⟩
theorem Tryd.laysM171:Go.Proofs.LaysM.n171 Tryd.prog Tryd.laysM171_ren:={
 mixed:=by kernel_rfl
 f129:=Tryd.func69.trans (congrArg some (by kernel_rfl))
 f171:=Tryd.func17.trans (congrArg some (by kernel_rfl))
 f243:=Tryd.func29.trans (congrArg some (by kernel_rfl))
 f246:=Tryd.func41.trans (congrArg some (by kernel_rfl))
 f283:=Tryd.func54.trans (congrArg some (by kernel_rfl))
 f284:=Tryd.func55.trans (congrArg some (by kernel_rfl))
 f285:=Tryd.func56.trans (congrArg some (by kernel_rfl))
 f286:=Tryd.func57.trans (congrArg some (by kernel_rfl))
 f317:=Tryd.func68.trans (congrArg some (by kernel_rfl))
 f318:=Tryd.func70.trans (congrArg some (by kernel_rfl))
 f319:=Tryd.func71.trans (congrArg some (by kernel_rfl))
 f320:=Tryd.func72.trans (congrArg some (by kernel_rfl))
 f337:=Tryd.func76.trans (congrArg some (by kernel_rfl))
 f338:=Tryd.func77.trans (congrArg some (by kernel_rfl))
 t0:=Tryd.underlying0
 a0:=Tryd.isAgg0
 z0:=Tryd.sizeOf0
 v0:=Tryd.zeroValue0
 t2:=Tryd.underlying2
 a2:=Tryd.isAgg2
 z2:=Tryd.sizeOf2
 v2:=Tryd.zeroValue2
 t3:=Tryd.underlying3
 a3:=Tryd.isAgg3
 z3:=Tryd.sizeOf3
 v3:=Tryd.zeroValue3
 t4:=Tryd.underlying4
 a4:=Tryd.isAgg4
 z4:=Tryd.sizeOf4
 v4:=Tryd.zeroValue4
 t5:=Tryd.underlying5
 a5:=Tryd.isAgg5
 z5:=Tryd.sizeOf5
 v5:=Tryd.zeroValue5
 t9:=Tryd.underlying9
 a9:=Tryd.isAgg9
 z9:=Tryd.sizeOf9
 v9:=Tryd.zeroValue9
 t20:=Tryd.underlying20
 a20:=Tryd.isAgg20
 z20:=Tryd.sizeOf20
 v20:=Tryd.zeroValue20
 t37:=Tryd.underlying110
 a37:=Tryd.isAgg110
 z37:=Tryd.sizeOf110
 v37:=Tryd.zeroValue110
 t46:=Tryd.underlying144
 a46:=Tryd.isAgg144
 z46:=Tryd.sizeOf144
 v46:=Tryd.zeroValue144
 t51:=Tryd.underlying141
 a51:=Tryd.isAgg141
 z51:=Tryd.sizeOf141
 v51:=Tryd.zeroValue141
 t53:=Tryd.underlying116
 a53:=Tryd.isAgg116
 z53:=Tryd.sizeOf116
 v53:=Tryd.zeroValue116
 t171:=Tryd.underlying115
 a171:=Tryd.isAgg115
 z171:=Tryd.sizeOf115
 v171:=Tryd.zeroValue115
 t173:=Tryd.underlying119
 a173:=Tryd.isAgg119
 z173:=Tryd.sizeOf119
 v173:=Tryd.zeroValue119
 t212:=Tryd.underlying140
 a212:=Tryd.isAgg140
 z212:=Tryd.sizeOf140
 v212:=Tryd.zeroValue140
 t213:=Tryd.underlying142
 a213:=Tryd.isAgg142
 z213:=Tryd.sizeOf142
 t232:=Tryd.underlying150
 a232:=Tryd.isAgg150
 z232:=Tryd.sizeOf150
 v232:=Tryd.zeroValue150
 t233:=Tryd.underlying151
 a233:=Tryd.isAgg151
 z233:=Tryd.sizeOf151
 v233:=Tryd.zeroValue151
 g17:=by kernel_rfl
 g18:=by kernel_rfl
 g19:=by kernel_rfl
 i0:=by kernel_rfl
 i2:=by kernel_rfl
 i3:=by kernel_rfl
 i4:=by kernel_rfl
 i5:=by kernel_rfl
 i9:=by kernel_rfl
 i20:=by kernel_rfl
 i37:=by kernel_rfl
 i46:=by kernel_rfl
 i51:=by kernel_rfl
 i53:=by kernel_rfl
 i171:=by kernel_rfl
 i173:=by kernel_rfl
 i212:=by kernel_rfl
 i232:=by kernel_rfl
 i233:=by kernel_rfl
 m17:=by kernel_rfl
 m18:=by kernel_rfl
 m19:=by kernel_rfl }
open Go.RowKit Go.Sort Go.Lib in
theorem Tryd.strconv_Itoa (n:Int) (h0: -9223372036854775808<=n) (h1:n<=9223372036854775807) (w:World) (htab:Lib.TabIs Tryd.prog w Tryd.tabName .u64 Lib.pow10Tab):
 Calls Tryd.prog 17 #[.int .i64 n] w fun e w'=>e=.returned (.string ⟨(Lib.itoa n).toArray⟩)/\∃ k os,w'=grow (w.drewN k) os:=Any.strconv_Itoa Tryd.laysM171 n h0 h1 w htab
end Go.Proofs
namespace Go.Pm
open Go Go.Proofs
set_option maxRecDepth 1000000
abbrev KB (f:FuncId) (b:Body):Prop:=zvk (zkh Tryd.prog Tryd.tabName (Lib.pow10Tab.map fun z=>Value.int .u64 z).toArray) Tryd.prog f b
theorem ykw:KB 22 (.go yf1):=⟨Tryd.f22,([0,1,4,10].map some),Tryd.func22,by kernel_rfl⟩
theorem yki:KB 9 (.go yfy):=⟨Tryd.f9,([0,1,2,4,10].map some),Tryd.func9,by kernel_rfl⟩
theorem ynp:KB 62 (.go yfp):=⟨Tryd.f62,([0,1,4,10].map some),Tryd.func62,by kernel_rfl⟩
theorem ynn:KB 48 (.go yfz):=⟨Tryd.f48,([0,1,4,10].map some),Tryd.func48,by kernel_rfl⟩
theorem yjn:KB 46 (.go ygi):=⟨Tryd.f46,([0,1,2,4,10,16].map some),Tryd.func46,by kernel_rfl⟩
theorem yni:KB 63 (.go ygu):=⟨Tryd.f63,([0,1,2,4,10].map some),Tryd.func63,by kernel_rfl⟩
theorem ynr:KB 47 (.go yg8):=⟨Tryd.f47,([0,1,4,5,11,15,25].map some),Tryd.func47,by kernel_rfl⟩
theorem ylc:KB 64 (.go yg7):=⟨Tryd.f64,([0,1,2,4,10,16].map some),Tryd.func64,by kernel_rfl⟩
theorem yjc:KB 49 (.go ygw):=⟨Tryd.f49,([0,1,4,5,11,15,25].map some),Tryd.func49,by kernel_rfl⟩
theorem ync:KB 33 (.go ygb):=⟨Tryd.f33,([0,1,2,4,10,16,22,28].map some),Tryd.func33,by kernel_rfl⟩
theorem ymg:KB 23 (.go ygt):=⟨Tryd.f23,([0,1,4,5,11,15,25].map some),Tryd.func23,by kernel_rfl⟩
theorem yjv:KB 10 (.go yfh):=⟨Tryd.f10,([0,1,2,4,10].map some),Tryd.func10,by kernel_rfl⟩
theorem ykd:KB 35 (.go ygr):=⟨Tryd.f35,([0,1,2,4,10].map some),Tryd.func35,by kernel_rfl⟩
theorem ymr:KB 34 (.go ygk):=⟨Tryd.f34,([0,1,4,5,11,15,25].map some),Tryd.func34,by kernel_rfl⟩
theorem yl6:KB 24 (.go yey):=⟨Tryd.f24,([0,1,2,4,10,16].map some),Tryd.func24,by kernel_rfl⟩
theorem yjs:KB 11 (.go ygy):=⟨Tryd.f11,([0,1,4,5,11,15,25].map some),Tryd.func11,by kernel_rfl⟩
theorem ykj:KB 4 (.go yft):=⟨Tryd.f4,([0,1,2,4,10,16,22].map some),Tryd.func4,by kernel_rfl⟩
theorem yk4:KB 37 (.go yfr):=⟨Tryd.f37,([0,1,2,3].map some),Tryd.func37,by kernel_rfl⟩
theorem ymk:KB 26 (.go yfb):=⟨Tryd.f26,([0,2,3,4,11].map some),Tryd.func26,by kernel_rfl⟩
theorem ymw:KB 13 (.go yg0):=⟨Tryd.f13,([0,1,2,3].map some),Tryd.func13,by kernel_rfl⟩
theorem yla:KB 65 (.go yfu):=⟨Tryd.f65,([0,2,3,4,11].map some),Tryd.func65,by kernel_rfl⟩
theorem yke:KB 52 (.go yh4):=⟨Tryd.f52,([0,2,3,4,11].map some),Tryd.func52,by kernel_rfl⟩
theorem yjh:KB 50 (.go ygq):=⟨Tryd.f50,([0,1,2,3].map some),Tryd.func50,by kernel_rfl⟩
theorem yjb:KB 66 (.go yfa):=⟨Tryd.f66,([0,1,2,3].map some),Tryd.func66,by kernel_rfl⟩
theorem yju:KB 51 (.go yeg):=⟨Tryd.f51,([0,2,3,4,11].map some),Tryd.func51,by kernel_rfl⟩
theorem ylp:KB 67 (.go ygh):=⟨Tryd.f67,([0,1,2,3].map some),Tryd.func67,by kernel_rfl⟩
theorem yjr:KB 53 (.go yg1):=⟨Tryd.f53,([0,2,3,4,11].map some),Tryd.func53,by kernel_rfl⟩
theorem ynl:KB 38 (.go ygl):=⟨Tryd.f38,([0,1,2,3].map some),Tryd.func38,by kernel_rfl⟩
theorem yj6:KB 27 (.go yfw):=⟨Tryd.f27,([0,2,3,4,11].map some),Tryd.func27,by kernel_rfl⟩
theorem yjl:KB 14 (.go yeo):=⟨Tryd.f14,([0,1,2,3].map some),Tryd.func14,by kernel_rfl⟩
theorem ynb:KB 40 (.go yf9):=⟨Tryd.f40,([0,1,2,3].map some),Tryd.func40,by kernel_rfl⟩
theorem yir:KB 39 (.go ygo):=⟨Tryd.f39,([0,2,3,4,11].map some),Tryd.func39,by kernel_rfl⟩
theorem ynf:KB 28 (.go yfe):=⟨Tryd.f28,([0,1,2,3].map some),Tryd.func28,by kernel_rfl⟩
theorem ynv:KB 15 (.go ygc):=⟨Tryd.f15,([0,2,3,4,11].map some),Tryd.func15,by kernel_rfl⟩
theorem yjy:KB 6 (.go yh3):=⟨Tryd.f6,([0,1,2,3].map some),Tryd.func6,by kernel_rfl⟩
theorem ylu:KB 36 (.go yf7):=⟨Tryd.f36,([0,2,4,10].map some),Tryd.func36,by kernel_rfl⟩
theorem ymt:KB 25 (.go yf0):=⟨Tryd.f25,([0,2,4].map some),Tryd.func25,by kernel_rfl⟩
theorem yjd:KB 12 (.go ygn):=⟨Tryd.f12,([0,1,2,3,4,5,33,41,57].map some),Tryd.func12,by kernel_rfl⟩
theorem yls:KB 5 (.go yg2):=⟨Tryd.f5,([0,1,2,3,4,5,11].map some),Tryd.func5,by kernel_rfl⟩
theorem yn8:KB 17 (.prim zf0):=yau (by kernel_rfl) (fun n h0 h1 w I hJ=>Tryd.strconv_Itoa n h0 h1 w (ycw hJ))
theorem ykq:KB 16 (.go yfl):=⟨Tryd.f16,([0,1,4].map some),Tryd.func16,by kernel_rfl⟩
theorem yl2:KB 18 (.go yer):=⟨Tryd.f18,([0,2,3].map some),Tryd.func18,by kernel_rfl⟩
theorem yli:KB 7 (.go ygv):=⟨Tryd.f7,([0,1,2,3,4,5,6,34,35,36,37,48].map some),Tryd.func7,by kernel_rfl⟩
theorem yit:KB 42 (.go yf4):=⟨Tryd.f42,([0,1,2,3,4,9,14,19,24,29,34,39].map some),Tryd.func42,by kernel_rfl⟩
theorem yk3:KB 30 (.go yh2):=⟨Tryd.f30,([0,1,4,5,10,14,26].map some),Tryd.func30,by kernel_rfl⟩
theorem yle:KB 19 (.go yfk):=⟨Tryd.f19,([0,1,2,3,4,9,14,20].map some),Tryd.func19,by kernel_rfl⟩
theorem ym2:KB 73 (.go yf5):=⟨Tryd.f73,([0,1,4,5,10,14,25].map some),Tryd.func73,by kernel_rfl⟩
theorem yk0:KB 60 (.go yew):=⟨Tryd.f60,([0,1,4,5,10,14,25].map some),Tryd.func60,by kernel_rfl⟩
theorem yjp:KB 58 (.go yem):=⟨Tryd.f58,([0,1,2,3,4,9,14,19,25,31,36].map some),Tryd.func58,by kernel_rfl⟩
theorem yns:KB 74 (.go yev):=⟨Tryd.f74,([0,1,2,3,4,9,14,20].map some),Tryd.func74,by kernel_rfl⟩
theorem ynx:KB 59 (.go yfs):=⟨Tryd.f59,([0,1,4,5,10,14,26].map some),Tryd.func59,by kernel_rfl⟩
theorem yl0:KB 75 (.go yei):=⟨Tryd.f75,([0,1,2,3,4,9,14,19,24,30,36].map some),Tryd.func75,by kernel_rfl⟩
theorem yl4:KB 61 (.go yff):=⟨Tryd.f61,([0,1,4,5,10,14,26].map some),Tryd.func61,by kernel_rfl⟩
theorem ymv:KB 43 (.go yfn):=⟨Tryd.f43,([0,1,2,3,4,9,14,19,24,30,36,42,48].map some),Tryd.func43,by kernel_rfl⟩
theorem yk8:KB 31 (.go yfc):=⟨Tryd.f31,([0,1,4,5,10,14,26].map some),Tryd.func31,by kernel_rfl⟩
theorem yjo:KB 20 (.go yg4):=⟨Tryd.f20,([0,1,2,3,4,9,15].map some),Tryd.func20,by kernel_rfl⟩
theorem yln:KB 45 (.go yg5):=⟨Tryd.f45,([0,1,2,3,4,9,14,19,25].map some),Tryd.func45,by kernel_rfl⟩
theorem yix:KB 44 (.go yga):=⟨Tryd.f44,([0,1,4,5,10,14,26].map some),Tryd.func44,by kernel_rfl⟩
theorem ylx:KB 32 (.go yh5):=⟨Tryd.f32,([0,1,2,3,4,10,15,21,26,31,36,41,46,51].map some),Tryd.func32,by kernel_rfl⟩
theorem yly:KB 21 (.go yej):=⟨Tryd.f21,([0,1,4,5,10,14,26].map some),Tryd.func21,by kernel_rfl⟩
theorem ymj:KB 8 (.go ygp):=⟨Tryd.f8,([0,1,2,3,4,9,15,21,27,32,37,42,47].map some),Tryd.func8,by kernel_rfl⟩
theorem yl1:KB 3 (.go yep):=⟨Tryd.f3,([0,1,2,3,4,5,6,11,21,26].map some),Tryd.func3,by kernel_rfl⟩
theorem zqu {J:Glob} {P:Program}:∀ {L:List (FuncId×Body)},(∀ p∈L,zvk J P p.1 p.2)->zvf J P (fun f=>L.lookup f)
 | [],_,f,b,h=>by cases h
 | (g,c)::L,hL,f,b,h=>by
   simp only [List.lookup] at h
   split at h
   ·rename_i e
    have e:f=g:=by simpa using e
    cases h
    subst e
    exact hL _ (List.mem_cons_self ..)
   ·exact zqu (L:=L) (fun p hp=>hL p (List.mem_cons_of_mem _ hp)) f b h
theorem fm {α:Type} {p:α->Prop} {a:α} {l:List α} (h:p a) (g:∀ x∈l,p x):∀ x∈a::l,p x:=List.forall_mem_cons.2 ⟨h,g⟩
theorem fm0 {α:Type} {p:α->Prop}:∀ x∈([]:List α),p x:=fun _ h=>by cases h
theorem ycv:zvf (zkh Tryd.prog Tryd.tabName (Lib.pow10Tab.map fun z=>Value.int .u64 z).toArray) Tryd.prog tab:=zqu (L:=tabL) (fm ykw (fm yki (fm ynp (fm ynn (fm yjn (fm yni (fm ynr (fm ylc (fm yjc (fm ync (fm ymg (fm yjv (fm ykd (fm ymr (fm yl6 (fm yjs (fm ykj (fm yk4 (fm ymk (fm ymw (fm yla (fm yke (fm yjh (fm yjb (fm yju (fm ylp (fm yjr (fm ynl (fm yj6 (fm yjl (fm ynb (fm yir (fm ynf (fm ynv (fm yjy (fm ylu (fm ymt (fm yjd (fm yls (fm yn8 (fm ykq (fm yl2 (fm yli (fm yit (fm yk3 (fm yle (fm ym2 (fm yk0 (fm yjp (fm yns (fm ynx (fm yl0 (fm yl4 (fm ymv (fm yk8 (fm yjo (fm yln (fm yix (fm ylx (fm yly (fm ymj (fm yl1 fm0))))))))))))))))))))))))))))))))))))))))))))))))))))))))))))))
end Go.Pm
