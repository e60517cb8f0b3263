/- Proved: the law FnExactFabricSwap answers true at all arguments, for every operating system that has started; no conditions beyond the row's own. -/
import Derived.Test.YtfoflieoeahhfaaGreatMa
set_option linter.unusedVariables false
set_option linter.unusedSimpArgs false
namespace Go.Pm
def Below' {α:Type} (x y:Option α):Prop:=∀ a,x=some a->y=some a
theorem Below'.refl {α:Type} (x:Option α):Below' x x:=fun _ h=>h
theorem Below'.trans {α:Type} {x y z:Option α} (h:Below' x y) (h':Below' y z):Below' x z:=fun a e=>h' a (h a e)
def ROk (R R':zav):Prop:=∀ f a b,Below' (R f a b) (R' f a b)
theorem zed {R R':zav} (h:ROk R R') (s:St) (o:HOp):Below' (s.step R o) (s.step R' o):=by
 intro x hx
 cases o with
 | call f ms frz args=>
   simp only [St.step] at hx ⊢
   split at hx
   ·split at hx
    ·rename_i hfr
     split at hx
     ·split at hx
      ·rename_i bs hw
       split at hx
       ·rename_i r bs' hr
        rw [h _ _ _ _ hr,if_pos hfr]
        exact hx
       ·cases hx
      ·cases hx
     ·cases hx
    ·rename_i hfr
     split at hx
     ·split at hx
      ·rename_i r bs' hr
       rw [h _ _ _ _ hr,if_neg hfr]
       exact hx
      ·cases hx
     ·cases hx
   ·cases hx
 | lcall f y k=>
   simp only [St.step] at hx ⊢
   split at hx
   ·split at hx
    ·split at hx
     ·rename_i hr
      rw [h _ _ _ _ hr]
      exact hx
     ·cases hx
    ·cases hx
   ·cases hx
 | dyn y args=>
   simp only [St.step] at hx ⊢
   split at hx
   ·split at hx
    ·split at hx
     ·rename_i hall
      rw [if_pos hall]
      split at hx
      ·rename_i r bs' hr
       rw [h _ _ _ _ hr]
       exact hx
      ·cases hx
     ·cases hx
    ·cases hx
   ·cases hx
 | _=>exact hx
theorem zdk {R R':zav} (h:ROk R R') (ns:Nat):∀ (os) (s:St),Below' (zcf R ns os s) (zcf R' ns os s)
 | [],s=>.refl _
 | (o,d,g)::os,s=>by
   intro x hx
   simp only [zcf] at hx ⊢
   split at hx
   ·split at hx
    ·rename_i v s1 hs
     rw [zed h s o _ hs]
     simp only
     split at hx
     ·exact zdk h ns os _ _ hx
     ·cases hx
    ·cases hx
   ·split at hx
    ·rename_i hd
     rw [if_pos hd]
     exact zdk h ns os _ _ hx
    ·cases hx
   ·cases hx
theorem zki {R R':zav} (h:ROk R R') (s:St) (o:HOp):Below' (s.peek R o) (s.peek R' o):=by
 intro x hx
 unfold St.peek at hx ⊢
 split at hx
 ·rename_i hp
  rw [if_pos hp]
  split at hx
  ·rename_i v s1 h1 h2
   rw [h1,zed h s o _ h2]
   exact hx
  ·cases hx
 ·cases hx
theorem zei {R R':zav} (h:ROk R R') (s:St) (ns:Nat) (q:Item):Below' (zdn R s ns q) (zdn R' s ns q):=by
 intro x hx
 unfold zdn at hx ⊢
 split at hx
 ·exact zki h _ _ _ hx
 ·exact hx
 ·cases hx
theorem ze7 {R R':zav} (h:ROk R R') (s:St) (o:HOp):Below' (s.stepD R o) (s.stepD R' o):=by
 intro x hx
 unfold St.stepD at hx ⊢
 split at hx
 ·rename_i hp
  rw [if_pos hp]
  simp only [Option.map_eq_some_iff] at hx ⊢
  obtain ⟨v,h1,h2⟩:=hx
  exact ⟨v,zki h _ _ _ h1,h2⟩
 ·rename_i hp
  rw [if_neg hp]
  exact zed h _ _ _ hx
theorem zgw {R R':zav} (h:ROk R R') (ns keep s s2):∀ qs,ykj R ns keep s s2 qs->ykj R' ns keep s s2 qs
 | [],_=>trivial
 | _::qs,hc=>⟨fun hk=>⟨(hc.1 hk).1,zei h _ _ _ _ (hc.1 hk).2⟩,zgw h ns keep s s2 qs hc.2⟩
theorem zee {R R':zav} (h:ROk R R') (ns:Nat):∀ (its dn) (s:St),Below' (zis R ns dn its s) (zis R' ns dn its s)
 | [],dn,s=>.refl _
 | it::its,dn,s=>by
   intro x hx
   simp only [zis] at hx ⊢
   split at hx
   ·rename_i hst
    rw [if_pos hst]
    split at hx
    ·rename_i v s1 u s1' h1 h2
     have h1':(if it.g.isNone then(s.only ns it.keep).stepD R' it.h else none)=some (v,s1):=by
      split at h1
      ·rename_i hg;rw [if_pos hg];exact ze7 h _ _ _ h1
      ·cases h1
     rw [h1',ze7 h _ _ _ h2]
     simp only
     split at hx
     ·rename_i d1 s2 h3 h4
      split at hx
      ·rename_i hc
       try simp only [h3,h4]
       rw [if_pos (zgw h _ _ _ _ _ hc)]
       exact zee h ns its _ _ _ hx
      ·cases hx
     ·cases hx
    ·cases hx
   ·rename_i hst
    rw [if_neg hst]
    split at hx
    ·rename_i v hv
     rw [zei h _ _ _ _ hv]
     dsimp only
     split at hx
     ·rename_i hd
      rw [if_pos hd]
      exact zee h ns its _ _ _ hx
     ·cases hx
    ·cases hx
theorem zfj {f f':St->Option (Ex×St)} (h:∀ s,Below' (f s) (f' s)) (nb:Nat) (dead:List Nat):
 ∀ (n m:Nat),n<=m->∀ s,Below' (yb9 f nb dead n s) (yb9 f' nb dead m s)
 | 0,_,_,s=>by intro x hx;cases hx
 | n+1,m+1,hn,s=>by
   intro x hx
   simp only [yb9] at hx ⊢
   split at hx
   ·rename_i s0 ht
    split at hx
    ·rename_i s1 hf
     rw [h _ _ hf]
     exact zfj h nb dead n m (by omega) _ _ hx
    ·rename_i r hr
     have:=h _ _ hx
     rw [this]
     revert hr
     rw [hx]
     intro hr
     cases x with
     | mk e s2=>cases e <;> first|rfl|exact absurd rfl (hr _)
   ·cases hx
 | n+1,0,hn,_=>by omega
theorem zbm {R R':zav} (h:ROk R R') (n m:Nat) (hn:n<=m) (ns:Nat):∀ (c:HCode) (s:St),Below' (zdq R n ns c s) (zdq R' m ns c s)
 | .skip,s=>.refl _
 | .seq a b,s=>by
   intro x hx
   simp only [zdq] at hx ⊢
   split at hx
   ·rename_i s1 ha
    rw [zbm h n m hn ns a _ _ ha]
    exact zbm h n m hn ns b _ _ hx
   ·rename_i r hr
    rw [zbm h n m hn ns a _ _ hx]
    revert hr;rw [hx];intro hr
    cases x with
    | mk e s2=>cases e <;> first|rfl|exact absurd rfl (hr _)
 | .region ops,s=>by
   intro x hx
   simp only [zdq,Option.map_eq_some_iff] at hx ⊢
   obtain ⟨s1,h1,h2⟩:=hx
   exact ⟨s1,zdk h ns ops s _ h1,h2⟩
 | .draw m its,s=>by
   intro x hx
   simp only [zdq,Option.map_eq_some_iff] at hx ⊢
   obtain ⟨s1,h1,h2⟩:=hx
   exact ⟨s1,zee h ns its _ _ _ h1,h2⟩
 | .cond c a b,s=>by
   intro x hx
   simp only [zdq] at hx ⊢
   split at hx
   ·split at hx
    ·rename_i ht;simp only [ht,if_true];exact zbm h n m hn ns a _ _ hx
    ·rename_i ht;simp only [ht];exact zbm h n m hn ns b _ _ hx
   ·cases hx
 | .block id b,s=>by
   intro x hx
   simp only [zdq] at hx ⊢
   split at hx
   ·rename_i id' s1 hb
    rw [zbm h n m hn ns b _ _ hb]
    exact hx
   ·rename_i r hr
    rw [zbm h n m hn ns b _ _ hx]
    revert hr;rw [hx];intro hr
    cases x with
    | mk e s2=>cases e <;> first|rfl|exact absurd rfl (hr _ _)
 | .exit id,s=>.refl _
 | .loop dead b,s=>zfj (fun s=>zbm h n m hn ns b s) _ dead n m hn s
 | .ret,s=>.refl _
 | .dead,s=>.refl _
theorem zbt (T:Tab):∀ (n m:Nat),n<=m->ROk (zg1 T n) (zg1 T m)
 | 0,_,_=>fun _ _ _ _ hx=>by cases hx
 | n+1,m+1,hn=>fun f args bs x hx=>by
   have ih:=zbt T n m (by omega)
   simp only [zg1] at hx ⊢
   split at hx
   ·split at hx
    ·rename_i h _ hl
     rw [if_pos hl]
     split at hx
     ·cases hx
     ·rename_i e s hne hc
      rw [zbm ih n m (by omega) _ _ _ _ hc]
      cases e with
      | normal=>exact hx
      | exit id=>exact (hne id rfl).elim
      | ret=>exact hx
     ·cases hx
    ·cases hx
   ·exact hx
   ·split at hx
    ·split at hx
     ·rename_i h _ _ hl
      rw [if_pos hl]
      split at hx
      ·cases hx
      ·rename_i e s hne hc
       rw [zbm ih n m (by omega) _ _ _ _ hc]
       cases e with
       | normal=>exact hx
       | exit id=>exact (hne id rfl).elim
       | ret=>exact hx
      ·cases hx
     ·cases hx
    ·cases hx
   ·cases hx
 | _+1,0,hn=>by omega
open Classical in
noncomputable def lim {α:Type} (u:Nat->Option α):Option α:=if h:∃ n a,u n=some a then some h.choose_spec.choose else none
def yy3 {α:Type} (u:Nat->Option α):Prop:=∀ n m,n<=m->Below' (u n) (u m)
theorem zr6 {α:Type} {u:Nat->Option α} (hu:yy3 u) (a:α):lim u=some a ↔ ∃ n,u n=some a:=by
 unfold lim
 constructor
 ·intro h
  split at h
  ·rename_i hex
   cases h
   exact ⟨hex.choose,hex.choose_spec.choose_spec⟩
  ·cases h
 ·rintro ⟨n,hn⟩
  have hex:∃ n a,u n=some a:=⟨n,a,hn⟩
  rw [dif_pos hex]
  have h1:=hex.choose_spec.choose_spec
  have h2:=hu _ (max n hex.choose) (Nat.le_max_right _ _) _ h1
  have h3:=hu _ (max n hex.choose) (Nat.le_max_left _ _) _ hn
  rw [h2] at h3
  exact h3
theorem zf9 {α:Type} (x:Option α):lim (fun _=>x)=x:=by
 cases x with
 | none=>unfold lim;rw [dif_neg];rintro ⟨_,_,h⟩;cases h
 | some a=>exact (zr6 (fun _ _ _=>.refl _) a).2 ⟨0,rfl⟩
theorem zf8 {α:Type} {x y:Option α} (h:∀ a,x=some a↔y=some a):x=y:=by
 cases x with
 | none=>cases y with
   | none=>rfl
   | some b=>exact ((h b).2 rfl)
 | some a=>exact ((h a).1 rfl).symm
noncomputable def Run (T:Tab):zav:=fun f a b=>lim fun n=>zg1 T n f a b
noncomputable def zif (T:Tab) (ns:Nat) (c:HCode) (s:St):Option (Ex×St):=lim fun n=>zdq (zg1 T n) n ns c s
noncomputable def zep (T:Tab) (ns:Nat) (b:HCode) (nb:Nat) (dead:List Nat) (s:St):Option (Ex×St):=lim fun n=>yb9 (zdq (zg1 T n) n ns b) nb dead n s
variable {T:Tab} {ns:Nat}
theorem yk6 (f a b):yy3 fun n=>zg1 T n f a b:=fun n m h=>zbt T n m h f a b
theorem zfh (c s):yy3 fun n=>zdq (zg1 T n) n ns c s:=fun n m h=>zbm (zbt T n m h) n m h ns c s
theorem yhh (b:HCode) (nb dead s):yy3 fun n=>yb9 (zdq (zg1 T n) n ns b) nb dead n s:=
 fun n m h=>zfj (fun s=>zbm (zbt T n m h) n m h ns b s) nb dead n m h s
theorem Run_iff {f a b r}:Run T f a b=some r ↔ ∃ n,zg1 T n f a b=some r:=zr6 (yk6 f a b) r
theorem RunC_iff {c s r}:zif T ns c s=some r ↔ ∃ n,zdq (zg1 T n) n ns c s=some r:=zr6 (zfh c s) r
theorem RunIter_iff {b nb dead s r}:zep T ns b nb dead s=some r ↔ ∃ n,yb9 (zdq (zg1 T n) n ns b) nb dead n s=some r:=zr6 (yhh b nb dead s) r
theorem zex {c s r} {n:Nat} (h:zdq (zg1 T n) n ns c s=some r):zif T ns c s=some r:=RunC_iff.2 ⟨n,h⟩
theorem ybt (s:St):zif T ns .skip s=some (.normal,s):=zf9 _
theorem ybu (id:Nat) (s:St):zif T ns (.exit id) s=some (.exit id,s):=zf9 _
theorem ym5 (s:St):zif T ns .ret s=some (.ret,s):=zf9 _
theorem zo3 (a b:HCode) (s:St):zif T ns (.seq a b) s=(match zif T ns a s with|some (.normal,s1)=>zif T ns b s1|r=>r):=by
 apply zf8
 intro x
 constructor
 ·intro h
  obtain ⟨n,h⟩:=RunC_iff.1 h
  simp only [zdq] at h
  split at h
  ·rename_i s1 ha
   rw [zex ha]
   exact zex h
  ·rename_i r hr
   rw [zex h]
   revert hr;rw [h];intro hr
   cases x with
   | mk e s2=>cases e <;> first|rfl|exact absurd rfl (hr _)
 ·intro h
  split at h
  ·rename_i s1 ha
   obtain ⟨n,ha⟩:=RunC_iff.1 ha
   obtain ⟨m,hb⟩:=RunC_iff.1 h
   refine RunC_iff.2 ⟨max n m,?_⟩
   simp only [zdq]
   have h1:=zfh (T:=T) (ns:=ns) a s n (max n m) (Nat.le_max_left _ _) _ ha
   have h2:=zfh (T:=T) (ns:=ns) b s1 m (max n m) (Nat.le_max_right _ _) _ hb
   simp only at h1 h2
   rw [h1]
   exact h2
  ·rename_i r hr
   obtain ⟨n,ha⟩:=RunC_iff.1 h
   refine RunC_iff.2 ⟨n,?_⟩
   simp only [zdq]
   rw [ha]
   revert hr;rw [h];intro hr
   cases x with
   | mk e s2=>cases e <;> first|rfl|exact absurd rfl (hr _)
theorem zri (c:Opnd) (a b:HCode) (s:St):zif T ns (.cond c a b) s=(match s.rd c with|some (.bool t)=>if t=true then zif T ns a s else zif T ns b s|_=>none):=by
 unfold zif
 simp only [zdq]
 cases hr:s.rd c with
 | none=>exact zf9 none
 | some v=>
   cases v with
   | bool t=>cases t <;> simp
   | _=>exact zf9 none
theorem zfs (id:Nat) (b:HCode) (s:St):zif T ns (.block id b) s=(match zif T ns b s with|some (.exit id',s1)=>if id'=id then some (.normal,s1) else some (.exit id',s1)|r=>r):=by
 apply zf8
 intro x
 constructor
 ·intro h
  obtain ⟨n,h⟩:=RunC_iff.1 h
  simp only [zdq] at h
  split at h
  ·rename_i id' s1 ha
   rw [zex ha]
   exact h
  ·rename_i r hr
   rw [zex h]
   revert hr;rw [h];intro hr
   cases x with
   | mk e s2=>cases e <;> first|rfl|exact absurd rfl (hr _ _)
 ·intro h
  split at h
  ·rename_i id' s1 ha
   obtain ⟨n,ha⟩:=RunC_iff.1 ha
   refine RunC_iff.2 ⟨n,?_⟩
   simp only [zdq]
   rw [ha]
   exact h
  ·rename_i r hr
   obtain ⟨n,ha⟩:=RunC_iff.1 h
   refine RunC_iff.2 ⟨n,?_⟩
   simp only [zdq]
   rw [ha]
   revert hr;rw [h];intro hr
   cases x with
   | mk e s2=>cases e <;> first|rfl|exact absurd rfl (hr _ _)
theorem yda (dead:List Nat) (b:HCode) (s:St):zif T ns (.loop dead b) s=zep T ns b s.boxes.length dead s:=rfl
theorem zlp (b:HCode) (nb:Nat) (dead:List Nat) (s:St):zep T ns b nb dead s=
 (match s.trim nb dead with
  | some s0=>(match zif T ns b s0 with|some (.normal,s1)=>zep T ns b nb dead s1|r=>r)
  | none=>none):=by
 apply zf8
 intro x
 constructor
 ·intro h
  obtain ⟨n,h⟩:=RunIter_iff.1 h
  cases n with
  | zero=>cases h
  | succ n=>
    simp only [yb9] at h
    split at h
    ·rename_i s0 ht
     rw [ht]
     simp only
     split at h
     ·rename_i s1 hf
      rw [zex hf]
      refine RunIter_iff.2 ⟨n+1,?_⟩
      exact zfj (fun s=>.refl _) nb dead n (n+1) (by omega) s1 _ h
     ·rename_i r hr
      rw [zex h]
      revert hr;rw [h];intro hr
      cases x with
      | mk e s2=>cases e <;> first|rfl|exact absurd rfl (hr _)
    ·cases h
 ·intro h
  split at h
  ·rename_i s0 ht
   split at h
   ·rename_i s1 hf
    obtain ⟨n,hf⟩:=RunC_iff.1 hf
    obtain ⟨m,hi⟩:=RunIter_iff.1 h
    refine RunIter_iff.2 ⟨max n m+1,?_⟩
    simp only [yb9]
    rw [ht]
    have h1:=zfh (T:=T) (ns:=ns) b s0 n (max n m+1) (by omega) _ hf
    simp only at h1 ⊢
    rw [h1]
    exact zfj (fun s=>zbm (zbt T m (max n m+1) (by omega)) m (max n m+1) (by omega) ns b s) nb dead m (max n m) (by omega) s1 _ hi
   ·rename_i r hr
    obtain ⟨n,hf⟩:=RunC_iff.1 h
    refine RunIter_iff.2 ⟨n+1,?_⟩
    simp only [yb9]
    rw [ht]
    have h1:=zfh (T:=T) (ns:=ns) b s0 n (n+1) (by omega) _ hf
    simp only at h1 ⊢
    rw [h1]
    revert hr;rw [h];intro hr
    cases x with
    | mk e s2=>cases e <;> first|rfl|exact absurd rfl (hr _)
  ·cases h
theorem zhv (n:Nat):ROk (zg1 T n) (Run T):=fun _ _ _ _ h=>Run_iff.2 ⟨n,h⟩
theorem zo6 (s:St) (o:HOp) (x):s.step (Run T) o=some x ↔ ∃ n,s.step (zg1 T n) o=some x:=by
 constructor
 ·intro hx
  cases o with
  | call f ms frz args=>
    simp only [St.step] at hx ⊢
    split at hx
    ·split at hx
     ·split at hx
      ·split at hx
       ·split at hx
        ·rename_i r bs' hr
         obtain ⟨n,hr⟩:=Run_iff.1 hr
         exact ⟨n,by simp only [*,if_true]⟩
        ·cases hx
       ·cases hx
      ·cases hx
     ·rename_i hfr
      split at hx
      ·split at hx
       ·rename_i r bs' hr
        obtain ⟨n,hr⟩:=Run_iff.1 hr
        refine ⟨n,?_⟩
        rw [if_neg hfr]
        simp only [*]
       ·cases hx
      ·cases hx
    ·cases hx
  | lcall f y k=>
    simp only [St.step] at hx ⊢
    split at hx
    ·split at hx
     ·split at hx
      ·rename_i hr
       obtain ⟨n,hr⟩:=Run_iff.1 hr
       exact ⟨n,by simp only [*,if_true]⟩
      ·cases hx
     ·cases hx
    ·cases hx
  | dyn y args=>
    simp only [St.step] at hx ⊢
    split at hx
    ·split at hx
     ·split at hx
      ·rename_i hall
       split at hx
       ·rename_i r bs' hr
        obtain ⟨n,hr⟩:=Run_iff.1 hr
        exact ⟨n,by rw [if_pos hall];simp only [*]⟩
       ·cases hx
      ·cases hx
     ·cases hx
    ·cases hx
  | _=>exact ⟨0,hx⟩
 ·rintro ⟨n,h⟩
  exact zed (zhv n) s o _ h
theorem zlt (os):∀ (s:St) (x),zcf (Run T) ns os s=some x ↔ ∃ n,zcf (zg1 T n) ns os s=some x:=by
 induction os with
 | nil=>intro s x;exact ⟨fun h=>⟨0,h⟩,fun ⟨_,h⟩=>h⟩
 | cons a os ih=>
   obtain ⟨o,d,g⟩:=a
   intro s x
   constructor
   ·intro h
    simp only [zcf] at h
    split at h
    ·rename_i hg
     split at h
     ·rename_i v s1 hs
      split at h
      ·rename_i s2 hd
       obtain ⟨n,hs⟩:=(zo6 s o _).1 hs
       obtain ⟨m,hm⟩:=(ih _ _).1 h
       refine ⟨max n m,?_⟩
       simp only [zcf,hg]
       rw [zed (zbt T n (max n m) (by omega)) s o _ hs]
       simp only [hd]
       exact zdk (zbt T m (max n m) (by omega)) ns os _ _ hm
      ·cases h
     ·cases h
    ·rename_i hg
     split at h
     ·rename_i hd
      obtain ⟨m,hm⟩:=(ih _ _).1 h
      exact ⟨m,by simp only [zcf,hg,if_pos hd];exact hm⟩
     ·cases h
    ·cases h
   ·rintro ⟨n,h⟩
    exact zdk (zhv n) ns _ s _ h
theorem zvi (ops) (s:St):zif T ns (.region ops) s=(zcf (Run T) ns ops s).map fun s1=>(.normal,s1.fin ns):=by
 apply zf8
 intro x
 constructor
 ·intro h
  obtain ⟨n,h⟩:=RunC_iff.1 h
  simp only [zdq,Option.map_eq_some_iff] at h ⊢
  obtain ⟨s1,h1,h2⟩:=h
  exact ⟨s1,(zlt ops s _).2 ⟨n,h1⟩,h2⟩
 ·intro h
  simp only [Option.map_eq_some_iff] at h
  obtain ⟨s1,h1,h2⟩:=h
  obtain ⟨n,h1⟩:=(zlt ops s _).1 h1
  exact RunC_iff.2 ⟨n,by simp only [zdq,h1,Option.map_some,h2]⟩
theorem ya3 (s:St) (o:HOp) (x):s.peek (Run T) o=some x ↔ ∃ n,s.peek (zg1 T n) o=some x:=by
 constructor
 ·intro hx
  unfold St.peek at hx
  split at hx
  ·rename_i hp
   split at hx
   ·rename_i v s1 h1 h2
    obtain ⟨n,hn⟩:=(zo6 s o _).1 h2
    refine ⟨n,?_⟩
    unfold St.peek
    rw [if_pos hp,h1,hn]
    exact hx
   ·cases hx
  ·cases hx
 ·rintro ⟨n,h⟩;exact zki (zhv n) s o _ h
theorem zrj (s:St) (q:Item) (x):zdn (Run T) s ns q=some x ↔ ∃ n,zdn (zg1 T n) s ns q=some x:=by
 constructor
 ·intro hx
  unfold zdn at hx
  split at hx
  ·rename_i hw
   obtain ⟨n,hn⟩:=(ya3 _ _ _).1 hx
   exact ⟨n,by unfold zdn;rw [hw];exact hn⟩
  ·rename_i hw;exact ⟨0,by unfold zdn;rw [hw];exact hx⟩
  ·cases hx
 ·rintro ⟨n,h⟩;exact zei (zhv n) s ns q _ h
theorem zre (s:St) (o:HOp) (x):s.stepD (Run T) o=some x ↔ ∃ n,s.stepD (zg1 T n) o=some x:=by
 constructor
 ·intro hx
  unfold St.stepD at hx
  split at hx
  ·rename_i hp
   simp only [Option.map_eq_some_iff] at hx
   obtain ⟨v,h1,h2⟩:=hx
   obtain ⟨n,hn⟩:=(ya3 s o _).1 h1
   exact ⟨n,by unfold St.stepD;rw [if_pos hp,hn];simp [h2]⟩
  ·rename_i hp
   obtain ⟨n,hn⟩:=(zo6 s o _).1 hx
   exact ⟨n,by unfold St.stepD;rw [if_neg hp];exact hn⟩
 ·rintro ⟨n,h⟩;exact ze7 (zhv n) s o _ h
theorem zzr (keep s s2):∀ qs,ykj (Run T) ns keep s s2 qs->∃ n,ykj (zg1 T n) ns keep s s2 qs
 | [],_=>⟨0,trivial⟩
 | q::qs,hc=>by
   obtain ⟨n,hn⟩:=zzr keep s s2 qs hc.2
   by_cases hk:keep.getD q.i false=false
   ·obtain ⟨m,hm⟩:=(zrj s2 q _).1 (hc.1 hk).2
    exact ⟨max n m,fun _=>⟨(hc.1 hk).1,zei (zbt T m _ (by omega)) _ _ _ _ hm⟩,zgw (zbt T n _ (by omega)) _ _ _ _ _ hn⟩
   ·exact ⟨n,fun h=>absurd h hk,hn⟩
theorem zz9:∀ (its dn) (s:St) (x),zis (Run T) ns dn its s=some x ↔ ∃ n,zis (zg1 T n) ns dn its s=some x:=by
 intro its dn s x
 constructor
 ·intro h
  revert dn s
  induction its with
  | nil=>intro dn s h;exact ⟨0,h⟩
  | cons it its ih=>
    intro dn s h
    simp only [zis] at h
    split at h
    ·rename_i hst
     split at h
     ·rename_i v s1 u s1' h1 h2
      split at h1
      ·rename_i hg
       split at h
       ·rename_i d1 s2 h3 h4
        split at h
        ·rename_i hc
         obtain ⟨n1,e1⟩:=(zre _ _ _).1 h1
         obtain ⟨n2,e2⟩:=(zre _ _ _).1 h2
         obtain ⟨n3,e3⟩:=zzr _ _ _ _ hc
         obtain ⟨n4,e4⟩:=ih _ _ h
         refine ⟨max (max n1 n2) (max n3 n4),?_⟩
         have up:∀ k,k<=max (max n1 n2) (max n3 n4)->ROk (zg1 T k) (zg1 T (max (max n1 n2) (max n3 n4))):=fun k hk=>zbt T _ _ hk
         simp only [zis,if_pos hst,if_pos hg]
         rw [ze7 (up n1 (by omega)) _ _ _ e1,ze7 (up n2 (by omega)) _ _ _ e2]
         simp only [h3,h4]
         rw [if_pos (zgw (up n3 (by omega)) _ _ _ _ _ e3)]
         exact zee (up n4 (by omega)) ns its _ _ _ e4
        ·cases h
       ·cases h
      ·cases h1
     ·cases h
    ·rename_i hst
     split at h
     ·rename_i v hv
      split at h
      ·rename_i hd
       obtain ⟨n1,e1⟩:=(zrj _ _ _).1 hv
       obtain ⟨n2,e2⟩:=ih _ _ h
       refine ⟨max n1 n2,?_⟩
       simp only [zis]
       rw [if_neg hst,zei (zbt T n1 (max n1 n2) (by omega)) _ _ _ _ e1]
       simp only
       rw [if_pos hd]
       exact zee (zbt T n2 (max n1 n2) (by omega)) ns its _ _ _ e2
      ·cases h
     ·cases h
 ·rintro ⟨n,h⟩
  exact zee (zhv n) ns its dn s _ h
theorem ygt (m its) (s:St):zif T ns (.draw m its) s=(zis (Run T) ns [] its { s with vars:=s.vars++List.replicate m .gone }).map fun s1=>(.normal,s1.fin ns):=by
 apply zf8
 intro x
 constructor
 ·intro h
  obtain ⟨n,h⟩:=RunC_iff.1 h
  simp only [zdq,Option.map_eq_some_iff] at h ⊢
  obtain ⟨s1,h1,h2⟩:=h
  exact ⟨s1,(zz9 _ _ _ _).2 ⟨n,h1⟩,h2⟩
 ·intro h
  simp only [Option.map_eq_some_iff] at h
  obtain ⟨s1,h1,h2⟩:=h
  obtain ⟨n,h1⟩:=(zz9 _ _ _ _).1 h1
  exact RunC_iff.2 ⟨n,by simp only [zdq,h1,Option.map_some,h2]⟩
theorem yus {f:FuncId} {h:HFunc} (hT:T f=some (.go h)) (args:List V) (bs:List (List V)) (hl:args.length=h.np):
 Run T f args bs=(match zif T h.ns h.body { vars:=args++List.replicate (h.ns - h.np) .gone,boxes:=bs } with
  | some (.exit _,_)=>none
  | some (_,s)=>s.finish h bs.length
  | none=>none):=by
 apply zf8
 intro x
 constructor
 ·intro hx
  obtain ⟨n,hx⟩:=Run_iff.1 hx
  cases n with
  | zero=>cases hx
  | succ n=>
    simp only [zg1,hT,if_pos hl] at hx
    split at hx
    ·cases hx
    ·rename_i e s hne hc
     rw [zex hc]
     cases e with
     | normal=>exact hx
     | exit id=>exact (hne id rfl).elim
     | ret=>exact hx
    ·cases hx
 ·intro hx
  split at hx
  ·cases hx
  ·rename_i e s hne hc
   obtain ⟨n,hc'⟩:=RunC_iff.1 hc
   refine Run_iff.2 ⟨n+1,?_⟩
   simp only [zg1,hT,if_pos hl,hc']
   cases e with
   | normal=>exact hx
   | exit id=>exact (hne id rfl).elim
   | ret=>exact hx
  ·cases hx
theorem ylj {f:FuncId} {h:HFunc} (hT:T f=some (.lend h)) (args:List V) (hl:args.length=h.np):
 Run T f args [[.gone]]=(match zif T h.ns h.body { vars:=args++List.replicate (h.ns - h.np) .gone,boxes:=[] } with
  | some (.exit _,_)=>none
  | some (_,s)=>(s.lendBack h).map (·,[])
  | none=>none):=by
 apply zf8
 intro x
 constructor
 ·intro hx
  obtain ⟨n,hx⟩:=Run_iff.1 hx
  cases n with
  | zero=>cases hx
  | succ n=>
    simp only [zg1,hT,if_pos hl] at hx
    split at hx
    ·cases hx
    ·rename_i e s hne hc
     rw [zex hc]
     cases e with
     | normal=>exact hx
     | exit id=>exact (hne id rfl).elim
     | ret=>exact hx
    ·cases hx
 ·intro hx
  split at hx
  ·cases hx
  ·rename_i e s hne hc
   obtain ⟨n,hc'⟩:=RunC_iff.1 hc
   refine Run_iff.2 ⟨n+1,?_⟩
   simp only [zg1,hT,if_pos hl,hc']
   cases e with
   | normal=>exact hx
   | exit id=>exact (hne id rfl).elim
   | ret=>exact hx
  ·cases hx
theorem yld {f:FuncId} {p:List V->Option V} (hT:T f=some (.prim p)) (args:List V):Run T f args []=(p args).map (·,[]):=by
 apply zf8
 intro x
 constructor
 ·intro hx
  obtain ⟨n,hx⟩:=Run_iff.1 hx
  cases n with
  | zero=>cases hx
  | succ n=>simpa only [zg1,hT,if_true] using hx
 ·intro hx
  exact Run_iff.2 ⟨1,by simpa only [zg1,hT,if_true] using hx⟩
end Go.Pm
