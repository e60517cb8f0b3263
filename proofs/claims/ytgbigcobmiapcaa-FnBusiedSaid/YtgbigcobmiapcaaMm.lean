/- Proved: the law FnBusied answers true at all arguments, for every operating system that has started; no conditions beyond the row's own. -/
import Derived.Test.YtgbigcobmiapcaaMl
import Derived.IntWalk
set_option linter.unusedVariables false
set_option linter.unusedSimpArgs false
namespace Go.Pm
variable {T:Tab} {ns nb:Nat} {b:HCode} {dead:List Nat}
theorem zp8 {s s0 s1:St} (hs:s.trim nb dead=some s0) (hb:zhz T ns b s0=some (.normal,s1)):zea T ns b nb dead s=zea T ns b nb dead s1:=by
 rw [zlj,hs];simp only [hb]
theorem zjb {s s0 s1:St} {ex:Ex} (hs:s.trim nb dead=some s0) (hb:zhz T ns b s0=some (ex,s1)) (hne:ex ≠ .normal):zea T ns b nb dead s=some (ex,s1):=by
 rw [zlj,hs];simp only [hb]
 cases ex <;> first|exact absurd rfl hne|rfl
theorem za4 {α:Type} {f:α->V} (h:∀ a,(f a).fresh=true) (l:List α):V.freshL (l.map f)=true:=by
 induction l <;> simp_all [V.freshL]
theorem za5 {α:Type} {f g:α->V} (h:∀ a,(f a).erase=g a) (l:List α):V.eraseL (l.map f)=l.map g:=by
 induction l <;> simp_all [V.eraseL]
theorem zah {n:Int} (h1: -9223372036854775808<=n) (h2:n<=9223372036854775807):IntKind.i64.wrap n=n:=IntWalk.i64_in n ⟨h1,h2⟩
theorem ycv {a:Nat} (h:a<9223372036854775807):IntKind.i64.wrap ((a:Int)+1)=(a:Int)+1:=zah (by omega) (by omega)
end Go.Pm
namespace Go.Pm
variable {T:Tab} {ns nb:Nat} {b:HCode} {dead:List Nat}
theorem zuy {α:Type} {d t xs:List α} {x:α} (h:d++x::t=xs):d.length<xs.length:=by
 subst h;simp
def anyP {α:Type} (p:List α->α->Bool):List α->List α->Bool
 | _,[]=>false
 | d,x::t=>p d x||anyP p (d ++ [x]) t
theorem zh9 {α:Type} (p:α->Bool):∀ (d xs:List α),anyP (fun _ x=>p x) d xs=xs.any p
 | _,[]=>rfl
 | d,x::t=>by simp only [anyP,List.any_cons,zh9 p]
theorem zjk {α:Type} (p:List α->α->Bool):∀ (d xs ys:List α),anyP p d (xs++ys)=(anyP p d xs||anyP p (d++xs) ys)
 | d,[],ys=>by simp [anyP]
 | d,x::xs,ys=>by simp [anyP,zjk p (d ++ [x]) xs ys,Bool.or_assoc]
def zl1 {α:Type} (p:α->Bool):List α->Nat->Int
 | [],_=> -1
 | x::t,n=>if p x=true then n else zl1 p t (n+1)
theorem zmv {α:Type} {p:α->Bool}:∀ {d:List α} {x:α} {t:List α} {n:Nat},d.any p=false->p x=true->zl1 p (d++x::t) n=((n+d.length:Nat):Int)
 | [],x,t,n,_,h=>by simp [zl1,h]
 | y::d,x,t,n,hd,h=>by
   simp only [List.any_cons,Bool.or_eq_false_iff] at hd
   simp only [List.cons_append,zl1,hd.1,Bool.false_eq_true,if_false]
   rw [zmv hd.2 h]
   simp only [List.length_cons]
   omega
theorem zkd {α:Type} {p:α->Bool}:∀ {xs:List α} {n:Nat},xs.any p=false->zl1 p xs n= -1
 | [],_,_=>rfl
 | x::xs,n,h=>by
   simp only [List.any_cons,Bool.or_eq_false_iff] at h
   simp only [zl1,h.1,Bool.false_eq_true,if_false]
   exact zkd h.2
theorem zu6 {α:Type} {p:α->Bool}:∀ (xs:List α) (n:Nat),(0<=zl1 p xs n)↔xs.any p=true
 | [],n=>by simp [zl1]
 | x::xs,n=>by
   have ih:=zu6 (p:=p) xs (n+1)
   unfold zl1
   split
   ·rename_i h
    simp [h]
   ·rename_i h
    rw [ih]
    simp [h]
theorem ydt {α:Type} {p:α->Bool} {xs:List α} {n:Nat}:decide (0<=zl1 p xs n)=xs.any p:=by
 have h:=zu6 (p:=p) xs n
 cases hx:xs.any p
 ·rw [hx] at h;simp only [decide_eq_false_iff_not,h,Bool.false_eq_true,not_false_eq_true]
 ·rw [hx] at h;simp only [decide_eq_true_eq,h]
end Go.Pm
