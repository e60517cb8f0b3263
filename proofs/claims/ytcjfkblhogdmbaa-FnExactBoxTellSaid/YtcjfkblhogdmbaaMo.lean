/- Proved: the law FnExactBoxTell answers true at all arguments, for every operating system that has started; no conditions beyond the row's own. -/
import Derived.Test.YtcjfkblhogdmbaaMn
import Derived.Shelf.Spec.SlicesGrow
import Derived.Laws.AppendOwn
import Derived.Test.YtcjfkblhogdmbaaProg
set_option linter.unusedVariables false
set_option linter.unusedSimpArgs false
namespace Go.Pm
open Go Go.Proofs Go.Shelf
set_option maxRecDepth 100000
def zxw:Ren:={ f:=fun x=>match x with|4=>81|n=>n,t:=fun x=>match x with|25=>5|n=>n,g:=fun n=>n }
theorem zxx:Lays8.n4 Try.prog zxw:=
 { mixed:=rfl
   f4 := ⟨"slices.Grow[[]byte,byte]", by decide, Try.func81.trans (congrArg some rfl)⟩
   t0:=Try.underlying0,a0:=Try.isAgg0,z0:=Try.sizeOf0,v0:=Try.zeroValue0,t3:=Try.underlying3,a3:=Try.isAgg3,z3:=Try.sizeOf3,v3:=Try.zeroValue3
   t4:=Try.underlying4,a4:=Try.isAgg4,z4:=Try.sizeOf4,v4:=Try.zeroValue4,t9:=Try.underlying9,a9:=Try.isAgg9,z9:=Try.sizeOf9,v9:=Try.zeroValue9
   t20:=Try.underlying20,a20:=Try.isAgg20,z20:=Try.sizeOf20,v20:=Try.zeroValue20,t22:=Try.underlying22,a22:=Try.isAgg22,z22:=Try.sizeOf22,v22:=Try.zeroValue22 }
theorem zu3 {P:Program} {ρ:Ren} (L:Lays8.n4 P ρ) {g:FuncId} (hg:ρ.f 4=g) (hok:zrg P g=true) (hi:(match P.info? (ρ.t 25) with|some i=>i.size == 1&&i.bytes == 1&&(match i.zero with|some z=>z.cells.size == 1|none=>false)|none=>false)=true):zm7 P g:=by
 subst hg
 refine ⟨hok,fun m w hm=> ?_⟩
 split at hi
 ·rename_i i hi0
  simp only [Bool.and_eq_true,beq_iff_eq] at hi
  obtain ⟨⟨hs,hb⟩,hz⟩:=hi
  obtain ⟨z,hz,hzc⟩:∃ z,i.zero=some z/\z.cells.size=1:=by
   split at hz
   ·rename_i z h;exact ⟨z,h,by simpa using hz⟩
   ·cases hz
  by_cases h0:m=0
  ·subst h0
   refine Calls.mono (Any8.slices_Grow_room L none 0 0 0 w (by omega) (by omega) (by omega) (by omega)) fun e w' hh=>.inl hh
  ·refine Calls.mono (Any8.slices_Grow_grow L i z hi0 hz (by omega) none 0 0 m [] w (by omega) (by omega) (by rw [hb];omega) (by omega) (by simp) (fun _=>rfl) (fun a h=>by cases h)) fun e w' hh=>.inr ?_
   obtain ⟨h1,h2⟩:=hh
   refine ⟨_,_,_,?_,h1,h2⟩
   have hge:0+m<=grownCap w (0+m) 0 (ρ.t 25):=grownCap_ge w _ _ _
   have hzs:∀ k,k * 1<=(Builtin.zeroCells z.cells k).size:=by
    intro k
    rw [size_zeroCells,hzc]
    exact Nat.le_refl _
   simp only [Array.size_append]
   have:=hzs (0+m - 0)
   have:=hzs (grownCap w (0+m) 0 (ρ.t 25) - (0+m))
   omega
 ·cases hi
theorem zyl:zm7 Try.prog 81:=zu3 zxx rfl (by kernel_rfl) (by kernel_rfl)
end Go.Pm
