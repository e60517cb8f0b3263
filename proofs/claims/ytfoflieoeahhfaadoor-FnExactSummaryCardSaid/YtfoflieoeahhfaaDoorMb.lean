/- Proved: the law FnExactSummary answers true at all arguments, for every operating system that has started, where the library's three tables lie as the program's text lays them, and that they lie so is tied to the text. -/
import Derived.Test.YtfoflieoeahhfaaDoorMa
set_option linter.unusedVariables false
set_option linter.unusedSimpArgs false
namespace Go.Pm
def Below' {α:Type} (x y:Option α):Prop:=∀ a,x=some a->y=some a
theorem Below'.refl {α:Type} (x:Option α):Below' x x:=fun _ h=>h
theorem Below'.trans {α:Type} {x y z:Option α} (h:Below' x y) (h':Below' y z):Below' x z:=fun a e=>h' a (h a e)
def ROk (R R':zau):Prop:=∀ f a b,Below' (R f a b) (R' f a b)
theorem zdo {R R':zau} (h:ROk R R') (s:St) (o:HOp):Below' (s.step R o) (s.step R' o):=by
 intro x hx
 cases o with
 | call f ms frz args=>
   simp only [St.step] at hx ⊢
   split at hx
   ·split at hx
    ·rename_i hfr
     split at hx
     ·split at hx
      ·rename_i bs hw
       split at hx
       ·rename_i r bs' hr
        rw [h _ _ _ _ hr,if_pos hfr]
        exact hx
       ·cases hx
      ·cases hx
     ·cases hx
    ·rename_i hfr
     split at hx
     ·split at hx
      ·rename_i r bs' hr
       rw [h _ _ _ _ hr,if_neg hfr]
       exact hx
      ·cases hx
     ·cases hx
   ·cases hx
 | lcall f y k=>
   simp only [St.step] at hx ⊢
   split at hx
   ·split at hx
    ·split at hx
     ·rename_i hr
      rw [h _ _ _ _ hr]
      exact hx
     ·cases hx
    ·cases hx
   ·cases hx
 | dyn y args=>
   simp only [St.step] at hx ⊢
   split at hx
   ·split at hx
    ·split at hx
     ·rename_i hall
      rw [if_pos hall]
      split at hx
      ·rename_i r bs' hr
       rw [h _ _ _ _ hr]
       exact hx
      ·cases hx
     ·cases hx
    ·cases hx
   ·cases hx
 | _=>exact hx
theorem zcu {R R':zau} (h:ROk R R') (ns:Nat):∀ (os) (s:St),Below' (zc7 R ns os s) (zc7 R' ns os s)
 | [],s=>.refl _
 | (o,d,g)::os,s=>by
   intro x hx
   simp only [zc7] at hx ⊢
   split at hx
   ·split at hx
    ·rename_i v s1 hs
     rw [zdo h s o _ hs]
     simp only
     split at hx
     ·exact zcu h ns os _ _ hx
     ·cases hx
    ·cases hx
   ·split at hx
    ·rename_i hd
     rw [if_pos hd]
     exact zcu h ns os _ _ hx
    ·cases hx
   ·cases hx
theorem zik {R R':zau} (h:ROk R R') (s:St) (o:HOp):Below' (s.peek R o) (s.peek R' o):=by
 intro x hx
 unfold St.peek at hx ⊢
 split at hx
 ·rename_i hp
  rw [if_pos hp]
  split at hx
  ·rename_i v s1 h1 h2
   rw [h1,zdo h s o _ h2]
   exact hx
  ·cases hx
 ·cases hx
theorem zdn {R R':zau} (h:ROk R R') (s:St) (ns:Nat) (q:Item):Below' (zcz R s ns q) (zcz R' s ns q):=by
 intro x hx
 unfold zcz at hx ⊢
 split at hx
 ·exact zik h _ _ _ hx
 ·exact hx
 ·cases hx
theorem zdj {R R':zau} (h:ROk R R') (s:St) (o:HOp):Below' (s.stepD R o) (s.stepD R' o):=by
 intro x hx
 unfold St.stepD at hx ⊢
 split at hx
 ·rename_i hp
  rw [if_pos hp]
  simp only [Option.map_eq_some_iff] at hx ⊢
  obtain ⟨v,h1,h2⟩:=hx
  exact ⟨v,zik h _ _ _ h1,h2⟩
 ·rename_i hp
  rw [if_neg hp]
  exact zdo h _ _ _ hx
theorem zg0 {R R':zau} (h:ROk R R') (ns keep s s2):∀ qs,zxw R ns keep s s2 qs->zxw R' ns keep s s2 qs
 | [],_=>trivial
 | _::qs,hc=>⟨fun hk=>⟨(hc.1 hk).1,zdn h _ _ _ _ (hc.1 hk).2⟩,zg0 h ns keep s s2 qs hc.2⟩
theorem zdr {R R':zau} (h:ROk R R') (ns:Nat):∀ (its dn) (s:St),Below' (zhb R ns dn its s) (zhb R' ns dn its s)
 | [],dn,s=>.refl _
 | it::its,dn,s=>by
   intro x hx
   simp only [zhb] at hx ⊢
   split at hx
   ·rename_i hst
    rw [if_pos hst]
    split at hx
    ·rename_i v s1 u s1' h1 h2
     have h1':(if it.g.isNone then(s.only ns it.keep).stepD R' it.h else none)=some (v,s1):=by
      split at h1
      ·rename_i hg;rw [if_pos hg];exact zdj h _ _ _ h1
      ·cases h1
     rw [h1',zdj h _ _ _ h2]
     simp only
     split at hx
     ·rename_i d1 s2 h3 h4
      split at hx
      ·rename_i hc
       try simp only [h3,h4]
       rw [if_pos (zg0 h _ _ _ _ _ hc)]
       exact zdr h ns its _ _ _ hx
      ·cases hx
     ·cases hx
    ·cases hx
   ·rename_i hst
    rw [if_neg hst]
    split at hx
    ·rename_i v hv
     rw [zdn h _ _ _ _ hv]
     dsimp only
     split at hx
     ·rename_i hd
      rw [if_pos hd]
      exact zdr h ns its _ _ _ hx
     ·cases hx
    ·cases hx
theorem zem {f f':St->Option (Ex×St)} (h:∀ s,Below' (f s) (f' s)) (nb:Nat) (dead:List Nat):
 ∀ (n m:Nat),n<=m->∀ s,Below' (zrm f nb dead n s) (zrm f' nb dead m s)
 | 0,_,_,s=>by intro x hx;cases hx
 | n+1,m+1,hn,s=>by
   intro x hx
   simp only [zrm] at hx ⊢
   split at hx
   ·rename_i s0 ht
    split at hx
    ·rename_i s1 hf
     rw [h _ _ hf]
     exact zem h nb dead n m (by omega) _ _ hx
    ·rename_i r hr
     have:=h _ _ hx
     rw [this]
     revert hr
     rw [hx]
     intro hr
     cases x with
     | mk e s2=>cases e <;> first|rfl|exact absurd rfl (hr _)
   ·cases hx
 | n+1,0,hn,_=>by omega
theorem zbf {R R':zau} (h:ROk R R') (n m:Nat) (hn:n<=m) (ns:Nat):∀ (c:HCode) (s:St),Below' (zdw R n ns c s) (zdw R' m ns c s)
 | .skip,s=>.refl _
 | .seq a b,s=>by
   intro x hx
   simp only [zdw] at hx ⊢
   split at hx
   ·rename_i s1 ha
    rw [zbf h n m hn ns a _ _ ha]
    exact zbf h n m hn ns b _ _ hx
   ·rename_i r hr
    rw [zbf h n m hn ns a _ _ hx]
    revert hr;rw [hx];intro hr
    cases x with
    | mk e s2=>cases e <;> first|rfl|exact absurd rfl (hr _)
 | .region ops,s=>by
   intro x hx
   simp only [zdw,Option.map_eq_some_iff] at hx ⊢
   obtain ⟨s1,h1,h2⟩:=hx
   exact ⟨s1,zcu h ns ops s _ h1,h2⟩
 | .draw m its,s=>by
   intro x hx
   simp only [zdw,Option.map_eq_some_iff] at hx ⊢
   obtain ⟨s1,h1,h2⟩:=hx
   exact ⟨s1,zdr h ns its _ _ _ h1,h2⟩
 | .cond c a b,s=>by
   intro x hx
   simp only [zdw] at hx ⊢
   split at hx
   ·split at hx
    ·rename_i ht;simp only [ht,if_true];exact zbf h n m hn ns a _ _ hx
    ·rename_i ht;simp only [ht];exact zbf h n m hn ns b _ _ hx
   ·cases hx
 | .block id b,s=>by
   intro x hx
   simp only [zdw] at hx ⊢
   split at hx
   ·rename_i id' s1 hb
    rw [zbf h n m hn ns b _ _ hb]
    exact hx
   ·rename_i r hr
    rw [zbf h n m hn ns b _ _ hx]
    revert hr;rw [hx];intro hr
    cases x with
    | mk e s2=>cases e <;> first|rfl|exact absurd rfl (hr _ _)
 | .exit id,s=>.refl _
 | .loop dead b,s=>zem (fun s=>zbf h n m hn ns b s) _ dead n m hn s
 | .ret,s=>.refl _
 | .dead,s=>.refl _
theorem zbm (T:Tab):∀ (n m:Nat),n<=m->ROk (zfh T n) (zfh T m)
 | 0,_,_=>fun _ _ _ _ hx=>by cases hx
 | n+1,m+1,hn=>fun f args bs x hx=>by
   have ih:=zbm T n m (by omega)
   simp only [zfh] at hx ⊢
   split at hx
   ·split at hx
    ·rename_i h _ hl
     rw [if_pos hl]
     split at hx
     ·cases hx
     ·rename_i e s hne hc
      rw [zbf ih n m (by omega) _ _ _ _ hc]
      cases e with
      | normal=>exact hx
      | exit id=>exact (hne id rfl).elim
      | ret=>exact hx
     ·cases hx
    ·cases hx
   ·exact hx
   ·split at hx
    ·split at hx
     ·rename_i h _ _ hl
      rw [if_pos hl]
      split at hx
      ·cases hx
      ·rename_i e s hne hc
       rw [zbf ih n m (by omega) _ _ _ _ hc]
       cases e with
       | normal=>exact hx
       | exit id=>exact (hne id rfl).elim
       | ret=>exact hx
      ·cases hx
     ·cases hx
    ·cases hx
   ·cases hx
 | _+1,0,hn=>by omega
open Classical in
noncomputable def lim {α:Type} (u:Nat->Option α):Option α:=if h:∃ n a,u n=some a then some h.choose_spec.choose else none
def ye7 {α:Type} (u:Nat->Option α):Prop:=∀ n m,n<=m->Below' (u n) (u m)
theorem zlx {α:Type} {u:Nat->Option α} (hu:ye7 u) (a:α):lim u=some a ↔ ∃ n,u n=some a:=by
 unfold lim
 constructor
 ·intro h
  split at h
  ·rename_i hex
   cases h
   exact ⟨hex.choose,hex.choose_spec.choose_spec⟩
  ·cases h
 ·rintro ⟨n,hn⟩
  have hex:∃ n a,u n=some a:=⟨n,a,hn⟩
  rw [dif_pos hex]
  have h1:=hex.choose_spec.choose_spec
  have h2:=hu _ (max n hex.choose) (Nat.le_max_right _ _) _ h1
  have h3:=hu _ (max n hex.choose) (Nat.le_max_left _ _) _ hn
  rw [h2] at h3
  exact h3
theorem zep {α:Type} (x:Option α):lim (fun _=>x)=x:=by
 cases x with
 | none=>unfold lim;rw [dif_neg];rintro ⟨_,_,h⟩;cases h
 | some a=>exact (zlx (fun _ _ _=>.refl _) a).2 ⟨0,rfl⟩
theorem zff {α:Type} {x y:Option α} (h:∀ a,x=some a↔y=some a):x=y:=by
 cases x with
 | none=>cases y with
   | none=>rfl
   | some b=>exact ((h b).2 rfl)
 | some a=>exact ((h a).1 rfl).symm
noncomputable def Run (T:Tab):zau:=fun f a b=>lim fun n=>zfh T n f a b
noncomputable def zh5 (T:Tab) (ns:Nat) (c:HCode) (s:St):Option (Ex×St):=lim fun n=>zdw (zfh T n) n ns c s
noncomputable def ze4 (T:Tab) (ns:Nat) (b:HCode) (nb:Nat) (dead:List Nat) (s:St):Option (Ex×St):=lim fun n=>zrm (zdw (zfh T n) n ns b) nb dead n s
variable {T:Tab} {ns:Nat}
theorem zxq (f a b):ye7 fun n=>zfh T n f a b:=fun n m h=>zbm T n m h f a b
theorem zec (c s):ye7 fun n=>zdw (zfh T n) n ns c s:=fun n m h=>zbf (zbm T n m h) n m h ns c s
theorem zua (b:HCode) (nb dead s):ye7 fun n=>zrm (zdw (zfh T n) n ns b) nb dead n s:=
 fun n m h=>zem (fun s=>zbf (zbm T n m h) n m h ns b s) nb dead n m h s
theorem Run_iff {f a b r}:Run T f a b=some r ↔ ∃ n,zfh T n f a b=some r:=zlx (zxq f a b) r
theorem RunC_iff {c s r}:zh5 T ns c s=some r ↔ ∃ n,zdw (zfh T n) n ns c s=some r:=zlx (zec c s) r
theorem RunIter_iff {b nb dead s r}:ze4 T ns b nb dead s=some r ↔ ∃ n,zrm (zdw (zfh T n) n ns b) nb dead n s=some r:=zlx (zua b nb dead s) r
theorem zen {c s r} {n:Nat} (h:zdw (zfh T n) n ns c s=some r):zh5 T ns c s=some r:=RunC_iff.2 ⟨n,h⟩
theorem ztm (s:St):zh5 T ns .skip s=some (.normal,s):=zep _
theorem zvm (id:Nat) (s:St):zh5 T ns (.exit id) s=some (.exit id,s):=zep _
theorem zy5 (s:St):zh5 T ns .ret s=some (.ret,s):=zep _
theorem zkn (a b:HCode) (s:St):zh5 T ns (.seq a b) s=(match zh5 T ns a s with|some (.normal,s1)=>zh5 T ns b s1|r=>r):=by
 apply zff
 intro x
 constructor
 ·intro h
  obtain ⟨n,h⟩:=RunC_iff.1 h
  simp only [zdw] at h
  split at h
  ·rename_i s1 ha
   rw [zen ha]
   exact zen h
  ·rename_i r hr
   rw [zen h]
   revert hr;rw [h];intro hr
   cases x with
   | mk e s2=>cases e <;> first|rfl|exact absurd rfl (hr _)
 ·intro h
  split at h
  ·rename_i s1 ha
   obtain ⟨n,ha⟩:=RunC_iff.1 ha
   obtain ⟨m,hb⟩:=RunC_iff.1 h
   refine RunC_iff.2 ⟨max n m,?_⟩
   simp only [zdw]
   have h1:=zec (T:=T) (ns:=ns) a s n (max n m) (Nat.le_max_left _ _) _ ha
   have h2:=zec (T:=T) (ns:=ns) b s1 m (max n m) (Nat.le_max_right _ _) _ hb
   simp only at h1 h2
   rw [h1]
   exact h2
  ·rename_i r hr
   obtain ⟨n,ha⟩:=RunC_iff.1 h
   refine RunC_iff.2 ⟨n,?_⟩
   simp only [zdw]
   rw [ha]
   revert hr;rw [h];intro hr
   cases x with
   | mk e s2=>cases e <;> first|rfl|exact absurd rfl (hr _)
theorem zn3 (c:Opnd) (a b:HCode) (s:St):zh5 T ns (.cond c a b) s=(match s.rd c with|some (.bool t)=>if t=true then zh5 T ns a s else zh5 T ns b s|_=>none):=by
 unfold zh5
 simp only [zdw]
 cases hr:s.rd c with
 | none=>exact zep none
 | some v=>
   cases v with
   | bool t=>cases t <;> simp
   | _=>exact zep none
theorem zf3 (id:Nat) (b:HCode) (s:St):zh5 T ns (.block id b) s=(match zh5 T ns b s with|some (.exit id',s1)=>if id'=id then some (.normal,s1) else some (.exit id',s1)|r=>r):=by
 apply zff
 intro x
 constructor
 ·intro h
  obtain ⟨n,h⟩:=RunC_iff.1 h
  simp only [zdw] at h
  split at h
  ·rename_i id' s1 ha
   rw [zen ha]
   exact h
  ·rename_i r hr
   rw [zen h]
   revert hr;rw [h];intro hr
   cases x with
   | mk e s2=>cases e <;> first|rfl|exact absurd rfl (hr _ _)
 ·intro h
  split at h
  ·rename_i id' s1 ha
   obtain ⟨n,ha⟩:=RunC_iff.1 ha
   refine RunC_iff.2 ⟨n,?_⟩
   simp only [zdw]
   rw [ha]
   exact h
  ·rename_i r hr
   obtain ⟨n,ha⟩:=RunC_iff.1 h
   refine RunC_iff.2 ⟨n,?_⟩
   simp only [zdw]
   rw [ha]
   revert hr;rw [h];intro hr
   cases x with
   | mk e s2=>cases e <;> first|rfl|exact absurd rfl (hr _ _)
theorem zt7 (dead:List Nat) (b:HCode) (s:St):zh5 T ns (.loop dead b) s=ze4 T ns b s.boxes.length dead s:=rfl
theorem zjs (b:HCode) (nb:Nat) (dead:List Nat) (s:St):ze4 T ns b nb dead s=
 (match s.trim nb dead with
  | some s0=>(match zh5 T ns b s0 with|some (.normal,s1)=>ze4 T ns b nb dead s1|r=>r)
  | none=>none):=by
 apply zff
 intro x
 constructor
 ·intro h
  obtain ⟨n,h⟩:=RunIter_iff.1 h
  cases n with
  | zero=>cases h
  | succ n=>
    simp only [zrm] at h
    split at h
    ·rename_i s0 ht
     rw [ht]
     simp only
     split at h
     ·rename_i s1 hf
      rw [zen hf]
      refine RunIter_iff.2 ⟨n+1,?_⟩
      exact zem (fun s=>.refl _) nb dead n (n+1) (by omega) s1 _ h
     ·rename_i r hr
      rw [zen h]
      revert hr;rw [h];intro hr
      cases x with
      | mk e s2=>cases e <;> first|rfl|exact absurd rfl (hr _)
    ·cases h
 ·intro h
  split at h
  ·rename_i s0 ht
   split at h
   ·rename_i s1 hf
    obtain ⟨n,hf⟩:=RunC_iff.1 hf
    obtain ⟨m,hi⟩:=RunIter_iff.1 h
    refine RunIter_iff.2 ⟨max n m+1,?_⟩
    simp only [zrm]
    rw [ht]
    have h1:=zec (T:=T) (ns:=ns) b s0 n (max n m+1) (by omega) _ hf
    simp only at h1 ⊢
    rw [h1]
    exact zem (fun s=>zbf (zbm T m (max n m+1) (by omega)) m (max n m+1) (by omega) ns b s) nb dead m (max n m) (by omega) s1 _ hi
   ·rename_i r hr
    obtain ⟨n,hf⟩:=RunC_iff.1 h
    refine RunIter_iff.2 ⟨n+1,?_⟩
    simp only [zrm]
    rw [ht]
    have h1:=zec (T:=T) (ns:=ns) b s0 n (n+1) (by omega) _ hf
    simp only at h1 ⊢
    rw [h1]
    revert hr;rw [h];intro hr
    cases x with
    | mk e s2=>cases e <;> first|rfl|exact absurd rfl (hr _)
  ·cases h
theorem zgm (n:Nat):ROk (zfh T n) (Run T):=fun _ _ _ _ h=>Run_iff.2 ⟨n,h⟩
theorem zke (s:St) (o:HOp) (x):s.step (Run T) o=some x ↔ ∃ n,s.step (zfh T n) o=some x:=by
 constructor
 ·intro hx
  cases o with
  | call f ms frz args=>
    simp only [St.step] at hx ⊢
    split at hx
    ·split at hx
     ·split at hx
      ·split at hx
       ·split at hx
        ·rename_i r bs' hr
         obtain ⟨n,hr⟩:=Run_iff.1 hr
         exact ⟨n,by simp only [*,if_true]⟩
        ·cases hx
       ·cases hx
      ·cases hx
     ·rename_i hfr
      split at hx
      ·split at hx
       ·rename_i r bs' hr
        obtain ⟨n,hr⟩:=Run_iff.1 hr
        refine ⟨n,?_⟩
        rw [if_neg hfr]
        simp only [*]
       ·cases hx
      ·cases hx
    ·cases hx
  | lcall f y k=>
    simp only [St.step] at hx ⊢
    split at hx
    ·split at hx
     ·split at hx
      ·rename_i hr
       obtain ⟨n,hr⟩:=Run_iff.1 hr
       exact ⟨n,by simp only [*,if_true]⟩
      ·cases hx
     ·cases hx
    ·cases hx
  | dyn y args=>
    simp only [St.step] at hx ⊢
    split at hx
    ·split at hx
     ·split at hx
      ·rename_i hall
       split at hx
       ·rename_i r bs' hr
        obtain ⟨n,hr⟩:=Run_iff.1 hr
        exact ⟨n,by rw [if_pos hall];simp only [*]⟩
       ·cases hx
      ·cases hx
     ·cases hx
    ·cases hx
  | _=>exact ⟨0,hx⟩
 ·rintro ⟨n,h⟩
  exact zdo (zgm n) s o _ h
theorem zjh (os):∀ (s:St) (x),zc7 (Run T) ns os s=some x ↔ ∃ n,zc7 (zfh T n) ns os s=some x:=by
 induction os with
 | nil=>intro s x;exact ⟨fun h=>⟨0,h⟩,fun ⟨_,h⟩=>h⟩
 | cons a os ih=>
   obtain ⟨o,d,g⟩:=a
   intro s x
   constructor
   ·intro h
    simp only [zc7] at h
    split at h
    ·rename_i hg
     split at h
     ·rename_i v s1 hs
      split at h
      ·rename_i s2 hd
       obtain ⟨n,hs⟩:=(zke s o _).1 hs
       obtain ⟨m,hm⟩:=(ih _ _).1 h
       refine ⟨max n m,?_⟩
       simp only [zc7,hg]
       rw [zdo (zbm T n (max n m) (by omega)) s o _ hs]
       simp only [hd]
       exact zcu (zbm T m (max n m) (by omega)) ns os _ _ hm
      ·cases h
     ·cases h
    ·rename_i hg
     split at h
     ·rename_i hd
      obtain ⟨m,hm⟩:=(ih _ _).1 h
      exact ⟨m,by simp only [zc7,hg,if_pos hd];exact hm⟩
     ·cases h
    ·cases h
   ·rintro ⟨n,h⟩
    exact zcu (zgm n) ns _ s _ h
theorem zpa (ops) (s:St):zh5 T ns (.region ops) s=(zc7 (Run T) ns ops s).map fun s1=>(.normal,s1.fin ns):=by
 apply zff
 intro x
 constructor
 ·intro h
  obtain ⟨n,h⟩:=RunC_iff.1 h
  simp only [zdw,Option.map_eq_some_iff] at h ⊢
  obtain ⟨s1,h1,h2⟩:=h
  exact ⟨s1,(zjh ops s _).2 ⟨n,h1⟩,h2⟩
 ·intro h
  simp only [Option.map_eq_some_iff] at h
  obtain ⟨s1,h1,h2⟩:=h
  obtain ⟨n,h1⟩:=(zjh ops s _).1 h1
  exact RunC_iff.2 ⟨n,by simp only [zdw,h1,Option.map_some,h2]⟩
theorem zpw (s:St) (o:HOp) (x):s.peek (Run T) o=some x ↔ ∃ n,s.peek (zfh T n) o=some x:=by
 constructor
 ·intro hx
  unfold St.peek at hx
  split at hx
  ·rename_i hp
   split at hx
   ·rename_i v s1 h1 h2
    obtain ⟨n,hn⟩:=(zke s o _).1 h2
    refine ⟨n,?_⟩
    unfold St.peek
    rw [if_pos hp,h1,hn]
    exact hx
   ·cases hx
  ·cases hx
 ·rintro ⟨n,h⟩;exact zik (zgm n) s o _ h
theorem zmj (s:St) (q:Item) (x):zcz (Run T) s ns q=some x ↔ ∃ n,zcz (zfh T n) s ns q=some x:=by
 constructor
 ·intro hx
  unfold zcz at hx
  split at hx
  ·rename_i hw
   obtain ⟨n,hn⟩:=(zpw _ _ _).1 hx
   exact ⟨n,by unfold zcz;rw [hw];exact hn⟩
  ·rename_i hw;exact ⟨0,by unfold zcz;rw [hw];exact hx⟩
  ·cases hx
 ·rintro ⟨n,h⟩;exact zdn (zgm n) s ns q _ h
theorem zmq (s:St) (o:HOp) (x):s.stepD (Run T) o=some x ↔ ∃ n,s.stepD (zfh T n) o=some x:=by
 constructor
 ·intro hx
  unfold St.stepD at hx
  split at hx
  ·rename_i hp
   simp only [Option.map_eq_some_iff] at hx
   obtain ⟨v,h1,h2⟩:=hx
   obtain ⟨n,hn⟩:=(zpw s o _).1 h1
   exact ⟨n,by unfold St.stepD;rw [if_pos hp,hn];simp [h2]⟩
  ·rename_i hp
   obtain ⟨n,hn⟩:=(zke s o _).1 hx
   exact ⟨n,by unfold St.stepD;rw [if_neg hp];exact hn⟩
 ·rintro ⟨n,h⟩;exact zdj (zgm n) s o _ h
theorem zqs (keep s s2):∀ qs,zxw (Run T) ns keep s s2 qs->∃ n,zxw (zfh T n) ns keep s s2 qs
 | [],_=>⟨0,trivial⟩
 | q::qs,hc=>by
   obtain ⟨n,hn⟩:=zqs keep s s2 qs hc.2
   by_cases hk:keep.getD q.i false=false
   ·obtain ⟨m,hm⟩:=(zmj s2 q _).1 (hc.1 hk).2
    exact ⟨max n m,fun _=>⟨(hc.1 hk).1,zdn (zbm T m _ (by omega)) _ _ _ _ hm⟩,zg0 (zbm T n _ (by omega)) _ _ _ _ _ hn⟩
   ·exact ⟨n,fun h=>absurd h hk,hn⟩
theorem zqh:∀ (its dn) (s:St) (x),zhb (Run T) ns dn its s=some x ↔ ∃ n,zhb (zfh T n) ns dn its s=some x:=by
 intro its dn s x
 constructor
 ·intro h
  revert dn s
  induction its with
  | nil=>intro dn s h;exact ⟨0,h⟩
  | cons it its ih=>
    intro dn s h
    simp only [zhb] at h
    split at h
    ·rename_i hst
     split at h
     ·rename_i v s1 u s1' h1 h2
      split at h1
      ·rename_i hg
       split at h
       ·rename_i d1 s2 h3 h4
        split at h
        ·rename_i hc
         obtain ⟨n1,e1⟩:=(zmq _ _ _).1 h1
         obtain ⟨n2,e2⟩:=(zmq _ _ _).1 h2
         obtain ⟨n3,e3⟩:=zqs _ _ _ _ hc
         obtain ⟨n4,e4⟩:=ih _ _ h
         refine ⟨max (max n1 n2) (max n3 n4),?_⟩
         have up:∀ k,k<=max (max n1 n2) (max n3 n4)->ROk (zfh T k) (zfh T (max (max n1 n2) (max n3 n4))):=fun k hk=>zbm T _ _ hk
         simp only [zhb,if_pos hst,if_pos hg]
         rw [zdj (up n1 (by omega)) _ _ _ e1,zdj (up n2 (by omega)) _ _ _ e2]
         simp only [h3,h4]
         rw [if_pos (zg0 (up n3 (by omega)) _ _ _ _ _ e3)]
         exact zdr (up n4 (by omega)) ns its _ _ _ e4
        ·cases h
       ·cases h
      ·cases h1
     ·cases h
    ·rename_i hst
     split at h
     ·rename_i v hv
      split at h
      ·rename_i hd
       obtain ⟨n1,e1⟩:=(zmj _ _ _).1 hv
       obtain ⟨n2,e2⟩:=ih _ _ h
       refine ⟨max n1 n2,?_⟩
       simp only [zhb]
       rw [if_neg hst,zdn (zbm T n1 (max n1 n2) (by omega)) _ _ _ _ e1]
       simp only
       rw [if_pos hd]
       exact zdr (zbm T n2 (max n1 n2) (by omega)) ns its _ _ _ e2
      ·cases h
     ·cases h
 ·rintro ⟨n,h⟩
  exact zdr (zgm n) ns its dn s _ h
theorem zu4 (m its) (s:St):zh5 T ns (.draw m its) s=(zhb (Run T) ns [] its { s with vars:=s.vars++List.replicate m .gone }).map fun s1=>(.normal,s1.fin ns):=by
 apply zff
 intro x
 constructor
 ·intro h
  obtain ⟨n,h⟩:=RunC_iff.1 h
  simp only [zdw,Option.map_eq_some_iff] at h ⊢
  obtain ⟨s1,h1,h2⟩:=h
  exact ⟨s1,(zqh _ _ _ _).2 ⟨n,h1⟩,h2⟩
 ·intro h
  simp only [Option.map_eq_some_iff] at h
  obtain ⟨s1,h1,h2⟩:=h
  obtain ⟨n,h1⟩:=(zqh _ _ _ _).1 h1
  exact RunC_iff.2 ⟨n,by simp only [zdw,h1,Option.map_some,h2]⟩
theorem yc8 {f:FuncId} {h:HFunc} (hT:T f=some (.go h)) (args:List V) (bs:List (List V)) (hl:args.length=h.np):
 Run T f args bs=(match zh5 T h.ns h.body { vars:=args++List.replicate (h.ns - h.np) .gone,boxes:=bs } with
  | some (.exit _,_)=>none
  | some (_,s)=>s.finish h bs.length
  | none=>none):=by
 apply zff
 intro x
 constructor
 ·intro hx
  obtain ⟨n,hx⟩:=Run_iff.1 hx
  cases n with
  | zero=>cases hx
  | succ n=>
    simp only [zfh,hT,if_pos hl] at hx
    split at hx
    ·cases hx
    ·rename_i e s hne hc
     rw [zen hc]
     cases e with
     | normal=>exact hx
     | exit id=>exact (hne id rfl).elim
     | ret=>exact hx
    ·cases hx
 ·intro hx
  split at hx
  ·cases hx
  ·rename_i e s hne hc
   obtain ⟨n,hc'⟩:=RunC_iff.1 hc
   refine Run_iff.2 ⟨n+1,?_⟩
   simp only [zfh,hT,if_pos hl,hc']
   cases e with
   | normal=>exact hx
   | exit id=>exact (hne id rfl).elim
   | ret=>exact hx
  ·cases hx
theorem zy9 {f:FuncId} {p:List V->Option V} (hT:T f=some (.prim p)) (args:List V):Run T f args []=(p args).map (·,[]):=by
 apply zff
 intro x
 constructor
 ·intro hx
  obtain ⟨n,hx⟩:=Run_iff.1 hx
  cases n with
  | zero=>cases hx
  | succ n=>simpa only [zfh,hT,if_true] using hx
 ·intro hx
  exact Run_iff.2 ⟨1,by simpa only [zfh,hT,if_true] using hx⟩
end Go.Pm
