/- Proved: the law FnBusied answers true at all arguments, for every operating system that has started; no conditions beyond the row's own. -/
import Derived.Test.YtgbigcobmiapcaaMp
import Derived.Test.YtgbigcobmiapcaaProg
set_option linter.unusedVariables false
set_option linter.unusedSimpArgs false
namespace Go.Pm
open Go Go.Proofs Go.Shelf
set_option maxRecDepth 100000
def delRen:Ren:=⟨fun x=>x,fun x=>match x with|22=>30|n=>n,fun x=>x⟩
theorem yl4 : Try.prog.funcs[92]? = some { Body2.n23 delRen with name := "slices.Delete[[]loop.example/g00129/impl.Pend,loop.example/g00129/impl.Pend]", origin := "slices.Delete", targs := #[30, 110], params := #[30, 3, 3], resultTypes := #[30], tmpNames := Try.f92.tmpNames } := Try.func92.trans (congrArg some rfl)
def yo7:Value:=.agg #[.int .i64 0,.int .i64 0,.int .i64 0,.int .i64 0,.int .i64 0,.int .i64 0,.int .i64 0,.slice none 0 0,.slice none 0 0,.int .i64 0,.slice none 0 0,.slice none 0 0,.slice none 0 0]
theorem ydp (z:Value) (h:∀ v∈z.cells.toList,v.oneCell'=true) (n:Nat):∀ v∈(Builtin.zeroCells z.cells n).toList,v.oneCell'=true:=by
 intro v hv
 simp only [Builtin.zeroCells,Array.toList_map,List.mem_map] at hv
 obtain ⟨i,hi,rfl⟩:=hv
 have hi':i<n * z.cells.size:=by simpa using hi
 have hp:0<z.cells.size:=by
  rcases Nat.eq_zero_or_pos z.cells.size with h0|h0
  ·rw [h0] at hi';omega
  ·exact h0
 have hlt:i % z.cells.size<z.cells.size:=Nat.mod_lt _ hp
 rw [getElem!_pos z.cells _ hlt]
 exact h _ (by simp)
theorem yob:yk3 Try.prog 92 13:=by
 have hb:(match Try.prog.info? 110 with|some i=>i.size == 13|none=>false)=true:=by kernel_rfl
 obtain ⟨i0,hi0,hz⟩:∃ i0,Try.prog.info? 110=some i0/\i0.size=13:=by
  split at hb
  ·rename_i i h;exact ⟨i,h,by simpa using hb⟩
  ·cases hb
 exact fun blk off cap i j len d w h1 h2 h3 h4 h5 h6 h7 h8=>ztp (ρ:=delRen) yl4 rfl Try.underlying30 hi0 hz Try.sizeOf110 Try.zeroValue110 rfl (ydp yo7 (by decide)) blk off cap i j len d w h1 h2 h3 h4 h5 h6 h7 h8
end Go.Pm
