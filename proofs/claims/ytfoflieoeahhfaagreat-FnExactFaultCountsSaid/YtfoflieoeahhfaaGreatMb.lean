/- Proved: the law FnExactFaultCounts answers true at all arguments, for every operating system that has started; no conditions beyond the row's own. -/
import Derived.Test.YtfoflieoeahhfaaGreatMa
set_option linter.unusedVariables false
set_option linter.unusedSimpArgs false
namespace Go.Pm
def Below' {α:Type} (x y:Option α):Prop:=∀ a,x=some a->y=some a
theorem Below'.refl {α:Type} (x:Option α):Below' x x:=fun _ h=>h
theorem Below'.trans {α:Type} {x y z:Option α} (h:Below' x y) (h':Below' y z):Below' x z:=fun a e=>h' a (h a e)
def ROk (R R':zaz):Prop:=∀ f a b,Below' (R f a b) (R' f a b)
theorem zdu {R R':zaz} (h:ROk R R') (s:St) (o:HOp):Below' (s.step R o) (s.step R' o):=by
 intro x hx
 cases o with
 | call f ms frz args=>
   simp only [St.step] at hx ⊢
   split at hx
   ·split at hx
    ·rename_i hfr
     split at hx
     ·split at hx
      ·rename_i bs hw
       split at hx
       ·rename_i r bs' hr
        rw [h _ _ _ _ hr,if_pos hfr]
        exact hx
       ·cases hx
      ·cases hx
     ·cases hx
    ·rename_i hfr
     split at hx
     ·split at hx
      ·rename_i r bs' hr
       rw [h _ _ _ _ hr,if_neg hfr]
       exact hx
      ·cases hx
     ·cases hx
   ·cases hx
 | lcall f y k=>
   simp only [St.step] at hx ⊢
   split at hx
   ·split at hx
    ·split at hx
     ·rename_i hr
      rw [h _ _ _ _ hr]
      exact hx
     ·cases hx
    ·cases hx
   ·cases hx
 | dyn y args=>
   simp only [St.step] at hx ⊢
   split at hx
   ·split at hx
    ·split at hx
     ·rename_i hall
      rw [if_pos hall]
      split at hx
      ·rename_i r bs' hr
       rw [h _ _ _ _ hr]
       exact hx
      ·cases hx
     ·cases hx
    ·cases hx
   ·cases hx
 | _=>exact hx
theorem zd8 {R R':zaz} (h:ROk R R') (ns:Nat):∀ (os) (s:St),Below' (zch R ns os s) (zch R' ns os s)
 | [],s=>.refl _
 | (o,d,g)::os,s=>by
   intro x hx
   simp only [zch] at hx ⊢
   split at hx
   ·split at hx
    ·rename_i v s1 hs
     rw [zdu h s o _ hs]
     simp only
     split at hx
     ·exact zd8 h ns os _ _ hx
     ·cases hx
    ·cases hx
   ·split at hx
    ·rename_i hd
     rw [if_pos hd]
     exact zd8 h ns os _ _ hx
    ·cases hx
   ·cases hx
theorem zjj {R R':zaz} (h:ROk R R') (s:St) (o:HOp):Below' (s.peek R o) (s.peek R' o):=by
 intro x hx
 unfold St.peek at hx ⊢
 split at hx
 ·rename_i hp
  rw [if_pos hp]
  split at hx
  ·rename_i v s1 h1 h2
   rw [h1,zdu h s o _ h2]
   exact hx
  ·cases hx
 ·cases hx
theorem ze2 {R R':zaz} (h:ROk R R') (s:St) (ns:Nat) (q:Item):Below' (zde R s ns q) (zde R' s ns q):=by
 intro x hx
 unfold zde at hx ⊢
 split at hx
 ·exact zjj h _ _ _ hx
 ·exact hx
 ·cases hx
theorem ze8 {R R':zaz} (h:ROk R R') (s:St) (o:HOp):Below' (s.stepD R o) (s.stepD R' o):=by
 intro x hx
 unfold St.stepD at hx ⊢
 split at hx
 ·rename_i hp
  rw [if_pos hp]
  simp only [Option.map_eq_some_iff] at hx ⊢
  obtain ⟨v,h1,h2⟩:=hx
  exact ⟨v,zjj h _ _ _ h1,h2⟩
 ·rename_i hp
  rw [if_neg hp]
  exact zdu h _ _ _ hx
theorem zga {R R':zaz} (h:ROk R R') (ns keep s s2):∀ qs,ydl R ns keep s s2 qs->ydl R' ns keep s s2 qs
 | [],_=>trivial
 | _::qs,hc=>⟨fun hk=>⟨(hc.1 hk).1,ze2 h _ _ _ _ (hc.1 hk).2⟩,zga h ns keep s s2 qs hc.2⟩
theorem ze7 {R R':zaz} (h:ROk R R') (ns:Nat):∀ (its dn) (s:St),Below' (zi6 R ns dn its s) (zi6 R' ns dn its s)
 | [],dn,s=>.refl _
 | it::its,dn,s=>by
   intro x hx
   simp only [zi6] at hx ⊢
   split at hx
   ·rename_i hst
    rw [if_pos hst]
    split at hx
    ·rename_i v s1 u s1' h1 h2
     have h1':(if it.g.isNone then(s.only ns it.keep).stepD R' it.h else none)=some (v,s1):=by
      split at h1
      ·rename_i hg;rw [if_pos hg];exact ze8 h _ _ _ h1
      ·cases h1
     rw [h1',ze8 h _ _ _ h2]
     simp only
     split at hx
     ·rename_i d1 s2 h3 h4
      split at hx
      ·rename_i hc
       try simp only [h3,h4]
       rw [if_pos (zga h _ _ _ _ _ hc)]
       exact ze7 h ns its _ _ _ hx
      ·cases hx
     ·cases hx
    ·cases hx
   ·rename_i hst
    rw [if_neg hst]
    split at hx
    ·rename_i v hv
     rw [ze2 h _ _ _ _ hv]
     dsimp only
     split at hx
     ·rename_i hd
      rw [if_pos hd]
      exact ze7 h ns its _ _ _ hx
     ·cases hx
    ·cases hx
theorem zf0 {f f':St->Option (Ex×St)} (h:∀ s,Below' (f s) (f' s)) (nb:Nat) (dead:List Nat):
 ∀ (n m:Nat),n<=m->∀ s,Below' (zuj f nb dead n s) (zuj f' nb dead m s)
 | 0,_,_,s=>by intro x hx;cases hx
 | n+1,m+1,hn,s=>by
   intro x hx
   simp only [zuj] at hx ⊢
   split at hx
   ·rename_i s0 ht
    split at hx
    ·rename_i s1 hf
     rw [h _ _ hf]
     exact zf0 h nb dead n m (by omega) _ _ hx
    ·rename_i r hr
     have:=h _ _ hx
     rw [this]
     revert hr
     rw [hx]
     intro hr
     cases x with
     | mk e s2=>cases e <;> first|rfl|exact absurd rfl (hr _)
   ·cases hx
 | n+1,0,hn,_=>by omega
theorem zbp {R R':zaz} (h:ROk R R') (n m:Nat) (hn:n<=m) (ns:Nat):∀ (c:HCode) (s:St),Below' (ze9 R n ns c s) (ze9 R' m ns c s)
 | .skip,s=>.refl _
 | .seq a b,s=>by
   intro x hx
   simp only [ze9] at hx ⊢
   split at hx
   ·rename_i s1 ha
    rw [zbp h n m hn ns a _ _ ha]
    exact zbp h n m hn ns b _ _ hx
   ·rename_i r hr
    rw [zbp h n m hn ns a _ _ hx]
    revert hr;rw [hx];intro hr
    cases x with
    | mk e s2=>cases e <;> first|rfl|exact absurd rfl (hr _)
 | .region ops,s=>by
   intro x hx
   simp only [ze9,Option.map_eq_some_iff] at hx ⊢
   obtain ⟨s1,h1,h2⟩:=hx
   exact ⟨s1,zd8 h ns ops s _ h1,h2⟩
 | .draw m its,s=>by
   intro x hx
   simp only [ze9,Option.map_eq_some_iff] at hx ⊢
   obtain ⟨s1,h1,h2⟩:=hx
   exact ⟨s1,ze7 h ns its _ _ _ h1,h2⟩
 | .cond c a b,s=>by
   intro x hx
   simp only [ze9] at hx ⊢
   split at hx
   ·split at hx
    ·rename_i ht;simp only [ht,if_true];exact zbp h n m hn ns a _ _ hx
    ·rename_i ht;simp only [ht];exact zbp h n m hn ns b _ _ hx
   ·cases hx
 | .block id b,s=>by
   intro x hx
   simp only [ze9] at hx ⊢
   split at hx
   ·rename_i id' s1 hb
    rw [zbp h n m hn ns b _ _ hb]
    exact hx
   ·rename_i r hr
    rw [zbp h n m hn ns b _ _ hx]
    revert hr;rw [hx];intro hr
    cases x with
    | mk e s2=>cases e <;> first|rfl|exact absurd rfl (hr _ _)
 | .exit id,s=>.refl _
 | .loop dead b,s=>zf0 (fun s=>zbp h n m hn ns b s) _ dead n m hn s
 | .ret,s=>.refl _
 | .dead,s=>.refl _
theorem zbw (T:Tab):∀ (n m:Nat),n<=m->ROk (zg6 T n) (zg6 T m)
 | 0,_,_=>fun _ _ _ _ hx=>by cases hx
 | n+1,m+1,hn=>fun f args bs x hx=>by
   have ih:=zbw T n m (by omega)
   simp only [zg6] at hx ⊢
   split at hx
   ·split at hx
    ·rename_i h _ hl
     rw [if_pos hl]
     split at hx
     ·cases hx
     ·rename_i e s hne hc
      rw [zbp ih n m (by omega) _ _ _ _ hc]
      cases e with
      | normal=>exact hx
      | exit id=>exact (hne id rfl).elim
      | ret=>exact hx
     ·cases hx
    ·cases hx
   ·exact hx
   ·split at hx
    ·split at hx
     ·rename_i h _ _ hl
      rw [if_pos hl]
      split at hx
      ·cases hx
      ·rename_i e s hne hc
       rw [zbp ih n m (by omega) _ _ _ _ hc]
       cases e with
       | normal=>exact hx
       | exit id=>exact (hne id rfl).elim
       | ret=>exact hx
      ·cases hx
     ·cases hx
    ·cases hx
   ·cases hx
 | _+1,0,hn=>by omega
open Classical in
noncomputable def lim {α:Type} (u:Nat->Option α):Option α:=if h:∃ n a,u n=some a then some h.choose_spec.choose else none
def yo7 {α:Type} (u:Nat->Option α):Prop:=∀ n m,n<=m->Below' (u n) (u m)
theorem zls {α:Type} {u:Nat->Option α} (hu:yo7 u) (a:α):lim u=some a ↔ ∃ n,u n=some a:=by
 unfold lim
 constructor
 ·intro h
  split at h
  ·rename_i hex
   cases h
   exact ⟨hex.choose,hex.choose_spec.choose_spec⟩
  ·cases h
 ·rintro ⟨n,hn⟩
  have hex:∃ n a,u n=some a:=⟨n,a,hn⟩
  rw [dif_pos hex]
  have h1:=hex.choose_spec.choose_spec
  have h2:=hu _ (max n hex.choose) (Nat.le_max_right _ _) _ h1
  have h3:=hu _ (max n hex.choose) (Nat.le_max_left _ _) _ hn
  rw [h2] at h3
  exact h3
theorem zf7 {α:Type} (x:Option α):lim (fun _=>x)=x:=by
 cases x with
 | none=>unfold lim;rw [dif_neg];rintro ⟨_,_,h⟩;cases h
 | some a=>exact (zls (fun _ _ _=>.refl _) a).2 ⟨0,rfl⟩
theorem zft {α:Type} {x y:Option α} (h:∀ a,x=some a↔y=some a):x=y:=by
 cases x with
 | none=>cases y with
   | none=>rfl
   | some b=>exact ((h b).2 rfl)
 | some a=>exact ((h a).1 rfl).symm
noncomputable def Run (T:Tab):zaz:=fun f a b=>lim fun n=>zg6 T n f a b
noncomputable def zh9 (T:Tab) (ns:Nat) (c:HCode) (s:St):Option (Ex×St):=lim fun n=>ze9 (zg6 T n) n ns c s
noncomputable def zec (T:Tab) (ns:Nat) (b:HCode) (nb:Nat) (dead:List Nat) (s:St):Option (Ex×St):=lim fun n=>zuj (ze9 (zg6 T n) n ns b) nb dead n s
variable {T:Tab} {ns:Nat}
theorem yc5 (f a b):yo7 fun n=>zg6 T n f a b:=fun n m h=>zbw T n m h f a b
theorem zet (c s):yo7 fun n=>ze9 (zg6 T n) n ns c s:=fun n m h=>zbp (zbw T n m h) n m h ns c s
theorem zwr (b:HCode) (nb dead s):yo7 fun n=>zuj (ze9 (zg6 T n) n ns b) nb dead n s:=
 fun n m h=>zf0 (fun s=>zbp (zbw T n m h) n m h ns b s) nb dead n m h s
theorem Run_iff {f a b r}:Run T f a b=some r ↔ ∃ n,zg6 T n f a b=some r:=zls (yc5 f a b) r
theorem RunC_iff {c s r}:zh9 T ns c s=some r ↔ ∃ n,ze9 (zg6 T n) n ns c s=some r:=zls (zet c s) r
theorem RunIter_iff {b nb dead s r}:zec T ns b nb dead s=some r ↔ ∃ n,zuj (ze9 (zg6 T n) n ns b) nb dead n s=some r:=zls (zwr b nb dead s) r
theorem zee {c s r} {n:Nat} (h:ze9 (zg6 T n) n ns c s=some r):zh9 T ns c s=some r:=RunC_iff.2 ⟨n,h⟩
theorem zwz (s:St):zh9 T ns .skip s=some (.normal,s):=zf7 _
theorem zxi (id:Nat) (s:St):zh9 T ns (.exit id) s=some (.exit id,s):=zf7 _
theorem ycm (s:St):zh9 T ns .ret s=some (.ret,s):=zf7 _
theorem znk (a b:HCode) (s:St):zh9 T ns (.seq a b) s=(match zh9 T ns a s with|some (.normal,s1)=>zh9 T ns b s1|r=>r):=by
 apply zft
 intro x
 constructor
 ·intro h
  obtain ⟨n,h⟩:=RunC_iff.1 h
  simp only [ze9] at h
  split at h
  ·rename_i s1 ha
   rw [zee ha]
   exact zee h
  ·rename_i r hr
   rw [zee h]
   revert hr;rw [h];intro hr
   cases x with
   | mk e s2=>cases e <;> first|rfl|exact absurd rfl (hr _)
 ·intro h
  split at h
  ·rename_i s1 ha
   obtain ⟨n,ha⟩:=RunC_iff.1 ha
   obtain ⟨m,hb⟩:=RunC_iff.1 h
   refine RunC_iff.2 ⟨max n m,?_⟩
   simp only [ze9]
   have h1:=zet (T:=T) (ns:=ns) a s n (max n m) (Nat.le_max_left _ _) _ ha
   have h2:=zet (T:=T) (ns:=ns) b s1 m (max n m) (Nat.le_max_right _ _) _ hb
   simp only at h1 h2
   rw [h1]
   exact h2
  ·rename_i r hr
   obtain ⟨n,ha⟩:=RunC_iff.1 h
   refine RunC_iff.2 ⟨n,?_⟩
   simp only [ze9]
   rw [ha]
   revert hr;rw [h];intro hr
   cases x with
   | mk e s2=>cases e <;> first|rfl|exact absurd rfl (hr _)
theorem zny (c:Opnd) (a b:HCode) (s:St):zh9 T ns (.cond c a b) s=(match s.rd c with|some (.bool t)=>if t=true then zh9 T ns a s else zh9 T ns b s|_=>none):=by
 unfold zh9
 simp only [ze9]
 cases hr:s.rd c with
 | none=>exact zf7 none
 | some v=>
   cases v with
   | bool t=>cases t <;> simp
   | _=>exact zf7 none
theorem zff (id:Nat) (b:HCode) (s:St):zh9 T ns (.block id b) s=(match zh9 T ns b s with|some (.exit id',s1)=>if id'=id then some (.normal,s1) else some (.exit id',s1)|r=>r):=by
 apply zft
 intro x
 constructor
 ·intro h
  obtain ⟨n,h⟩:=RunC_iff.1 h
  simp only [ze9] at h
  split at h
  ·rename_i id' s1 ha
   rw [zee ha]
   exact h
  ·rename_i r hr
   rw [zee h]
   revert hr;rw [h];intro hr
   cases x with
   | mk e s2=>cases e <;> first|rfl|exact absurd rfl (hr _ _)
 ·intro h
  split at h
  ·rename_i id' s1 ha
   obtain ⟨n,ha⟩:=RunC_iff.1 ha
   refine RunC_iff.2 ⟨n,?_⟩
   simp only [ze9]
   rw [ha]
   exact h
  ·rename_i r hr
   obtain ⟨n,ha⟩:=RunC_iff.1 h
   refine RunC_iff.2 ⟨n,?_⟩
   simp only [ze9]
   rw [ha]
   revert hr;rw [h];intro hr
   cases x with
   | mk e s2=>cases e <;> first|rfl|exact absurd rfl (hr _ _)
theorem zvi (dead:List Nat) (b:HCode) (s:St):zh9 T ns (.loop dead b) s=zec T ns b s.boxes.length dead s:=rfl
theorem zk1 (b:HCode) (nb:Nat) (dead:List Nat) (s:St):zec T ns b nb dead s=
 (match s.trim nb dead with
  | some s0=>(match zh9 T ns b s0 with|some (.normal,s1)=>zec T ns b nb dead s1|r=>r)
  | none=>none):=by
 apply zft
 intro x
 constructor
 ·intro h
  obtain ⟨n,h⟩:=RunIter_iff.1 h
  cases n with
  | zero=>cases h
  | succ n=>
    simp only [zuj] at h
    split at h
    ·rename_i s0 ht
     rw [ht]
     simp only
     split at h
     ·rename_i s1 hf
      rw [zee hf]
      refine RunIter_iff.2 ⟨n+1,?_⟩
      exact zf0 (fun s=>.refl _) nb dead n (n+1) (by omega) s1 _ h
     ·rename_i r hr
      rw [zee h]
      revert hr;rw [h];intro hr
      cases x with
      | mk e s2=>cases e <;> first|rfl|exact absurd rfl (hr _)
    ·cases h
 ·intro h
  split at h
  ·rename_i s0 ht
   split at h
   ·rename_i s1 hf
    obtain ⟨n,hf⟩:=RunC_iff.1 hf
    obtain ⟨m,hi⟩:=RunIter_iff.1 h
    refine RunIter_iff.2 ⟨max n m+1,?_⟩
    simp only [zuj]
    rw [ht]
    have h1:=zet (T:=T) (ns:=ns) b s0 n (max n m+1) (by omega) _ hf
    simp only at h1 ⊢
    rw [h1]
    exact zf0 (fun s=>zbp (zbw T m (max n m+1) (by omega)) m (max n m+1) (by omega) ns b s) nb dead m (max n m) (by omega) s1 _ hi
   ·rename_i r hr
    obtain ⟨n,hf⟩:=RunC_iff.1 h
    refine RunIter_iff.2 ⟨n+1,?_⟩
    simp only [zuj]
    rw [ht]
    have h1:=zet (T:=T) (ns:=ns) b s0 n (n+1) (by omega) _ hf
    simp only at h1 ⊢
    rw [h1]
    revert hr;rw [h];intro hr
    cases x with
    | mk e s2=>cases e <;> first|rfl|exact absurd rfl (hr _)
  ·cases h
theorem zh2 (n:Nat):ROk (zg6 T n) (Run T):=fun _ _ _ _ h=>Run_iff.2 ⟨n,h⟩
theorem zno (s:St) (o:HOp) (x):s.step (Run T) o=some x ↔ ∃ n,s.step (zg6 T n) o=some x:=by
 constructor
 ·intro hx
  cases o with
  | call f ms frz args=>
    simp only [St.step] at hx ⊢
    split at hx
    ·split at hx
     ·split at hx
      ·split at hx
       ·split at hx
        ·rename_i r bs' hr
         obtain ⟨n,hr⟩:=Run_iff.1 hr
         exact ⟨n,by simp only [*,if_true]⟩
        ·cases hx
       ·cases hx
      ·cases hx
     ·rename_i hfr
      split at hx
      ·split at hx
       ·rename_i r bs' hr
        obtain ⟨n,hr⟩:=Run_iff.1 hr
        refine ⟨n,?_⟩
        rw [if_neg hfr]
        simp only [*]
       ·cases hx
      ·cases hx
    ·cases hx
  | lcall f y k=>
    simp only [St.step] at hx ⊢
    split at hx
    ·split at hx
     ·split at hx
      ·rename_i hr
       obtain ⟨n,hr⟩:=Run_iff.1 hr
       exact ⟨n,by simp only [*,if_true]⟩
      ·cases hx
     ·cases hx
    ·cases hx
  | dyn y args=>
    simp only [St.step] at hx ⊢
    split at hx
    ·split at hx
     ·split at hx
      ·rename_i hall
       split at hx
       ·rename_i r bs' hr
        obtain ⟨n,hr⟩:=Run_iff.1 hr
        exact ⟨n,by rw [if_pos hall];simp only [*]⟩
       ·cases hx
      ·cases hx
     ·cases hx
    ·cases hx
  | _=>exact ⟨0,hx⟩
 ·rintro ⟨n,h⟩
  exact zdu (zh2 n) s o _ h
theorem zkb (os):∀ (s:St) (x),zch (Run T) ns os s=some x ↔ ∃ n,zch (zg6 T n) ns os s=some x:=by
 induction os with
 | nil=>intro s x;exact ⟨fun h=>⟨0,h⟩,fun ⟨_,h⟩=>h⟩
 | cons a os ih=>
   obtain ⟨o,d,g⟩:=a
   intro s x
   constructor
   ·intro h
    simp only [zch] at h
    split at h
    ·rename_i hg
     split at h
     ·rename_i v s1 hs
      split at h
      ·rename_i s2 hd
       obtain ⟨n,hs⟩:=(zno s o _).1 hs
       obtain ⟨m,hm⟩:=(ih _ _).1 h
       refine ⟨max n m,?_⟩
       simp only [zch,hg]
       rw [zdu (zbw T n (max n m) (by omega)) s o _ hs]
       simp only [hd]
       exact zd8 (zbw T m (max n m) (by omega)) ns os _ _ hm
      ·cases h
     ·cases h
    ·rename_i hg
     split at h
     ·rename_i hd
      obtain ⟨m,hm⟩:=(ih _ _).1 h
      exact ⟨m,by simp only [zch,hg,if_pos hd];exact hm⟩
     ·cases h
    ·cases h
   ·rintro ⟨n,h⟩
    exact zd8 (zh2 n) ns _ s _ h
theorem zpk (ops) (s:St):zh9 T ns (.region ops) s=(zch (Run T) ns ops s).map fun s1=>(.normal,s1.fin ns):=by
 apply zft
 intro x
 constructor
 ·intro h
  obtain ⟨n,h⟩:=RunC_iff.1 h
  simp only [ze9,Option.map_eq_some_iff] at h ⊢
  obtain ⟨s1,h1,h2⟩:=h
  exact ⟨s1,(zkb ops s _).2 ⟨n,h1⟩,h2⟩
 ·intro h
  simp only [Option.map_eq_some_iff] at h
  obtain ⟨s1,h1,h2⟩:=h
  obtain ⟨n,h1⟩:=(zkb ops s _).1 h1
  exact RunC_iff.2 ⟨n,by simp only [ze9,h1,Option.map_some,h2]⟩
theorem ztk (s:St) (o:HOp) (x):s.peek (Run T) o=some x ↔ ∃ n,s.peek (zg6 T n) o=some x:=by
 constructor
 ·intro hx
  unfold St.peek at hx
  split at hx
  ·rename_i hp
   split at hx
   ·rename_i v s1 h1 h2
    obtain ⟨n,hn⟩:=(zno s o _).1 h2
    refine ⟨n,?_⟩
    unfold St.peek
    rw [if_pos hp,h1,hn]
    exact hx
   ·cases hx
  ·cases hx
 ·rintro ⟨n,h⟩;exact zjj (zh2 n) s o _ h
theorem zog (s:St) (q:Item) (x):zde (Run T) s ns q=some x ↔ ∃ n,zde (zg6 T n) s ns q=some x:=by
 constructor
 ·intro hx
  unfold zde at hx
  split at hx
  ·rename_i hw
   obtain ⟨n,hn⟩:=(ztk _ _ _).1 hx
   exact ⟨n,by unfold zde;rw [hw];exact hn⟩
  ·rename_i hw;exact ⟨0,by unfold zde;rw [hw];exact hx⟩
  ·cases hx
 ·rintro ⟨n,h⟩;exact ze2 (zh2 n) s ns q _ h
theorem zok (s:St) (o:HOp) (x):s.stepD (Run T) o=some x ↔ ∃ n,s.stepD (zg6 T n) o=some x:=by
 constructor
 ·intro hx
  unfold St.stepD at hx
  split at hx
  ·rename_i hp
   simp only [Option.map_eq_some_iff] at hx
   obtain ⟨v,h1,h2⟩:=hx
   obtain ⟨n,hn⟩:=(ztk s o _).1 h1
   exact ⟨n,by unfold St.stepD;rw [if_pos hp,hn];simp [h2]⟩
  ·rename_i hp
   obtain ⟨n,hn⟩:=(zno s o _).1 hx
   exact ⟨n,by unfold St.stepD;rw [if_neg hp];exact hn⟩
 ·rintro ⟨n,h⟩;exact ze8 (zh2 n) s o _ h
theorem zu1 (keep s s2):∀ qs,ydl (Run T) ns keep s s2 qs->∃ n,ydl (zg6 T n) ns keep s s2 qs
 | [],_=>⟨0,trivial⟩
 | q::qs,hc=>by
   obtain ⟨n,hn⟩:=zu1 keep s s2 qs hc.2
   by_cases hk:keep.getD q.i false=false
   ·obtain ⟨m,hm⟩:=(zog s2 q _).1 (hc.1 hk).2
    exact ⟨max n m,fun _=>⟨(hc.1 hk).1,ze2 (zbw T m _ (by omega)) _ _ _ _ hm⟩,zga (zbw T n _ (by omega)) _ _ _ _ _ hn⟩
   ·exact ⟨n,fun h=>absurd h hk,hn⟩
theorem zto:∀ (its dn) (s:St) (x),zi6 (Run T) ns dn its s=some x ↔ ∃ n,zi6 (zg6 T n) ns dn its s=some x:=by
 intro its dn s x
 constructor
 ·intro h
  revert dn s
  induction its with
  | nil=>intro dn s h;exact ⟨0,h⟩
  | cons it its ih=>
    intro dn s h
    simp only [zi6] at h
    split at h
    ·rename_i hst
     split at h
     ·rename_i v s1 u s1' h1 h2
      split at h1
      ·rename_i hg
       split at h
       ·rename_i d1 s2 h3 h4
        split at h
        ·rename_i hc
         obtain ⟨n1,e1⟩:=(zok _ _ _).1 h1
         obtain ⟨n2,e2⟩:=(zok _ _ _).1 h2
         obtain ⟨n3,e3⟩:=zu1 _ _ _ _ hc
         obtain ⟨n4,e4⟩:=ih _ _ h
         refine ⟨max (max n1 n2) (max n3 n4),?_⟩
         have up:∀ k,k<=max (max n1 n2) (max n3 n4)->ROk (zg6 T k) (zg6 T (max (max n1 n2) (max n3 n4))):=fun k hk=>zbw T _ _ hk
         simp only [zi6,if_pos hst,if_pos hg]
         rw [ze8 (up n1 (by omega)) _ _ _ e1,ze8 (up n2 (by omega)) _ _ _ e2]
         simp only [h3,h4]
         rw [if_pos (zga (up n3 (by omega)) _ _ _ _ _ e3)]
         exact ze7 (up n4 (by omega)) ns its _ _ _ e4
        ·cases h
       ·cases h
      ·cases h1
     ·cases h
    ·rename_i hst
     split at h
     ·rename_i v hv
      split at h
      ·rename_i hd
       obtain ⟨n1,e1⟩:=(zog _ _ _).1 hv
       obtain ⟨n2,e2⟩:=ih _ _ h
       refine ⟨max n1 n2,?_⟩
       simp only [zi6]
       rw [if_neg hst,ze2 (zbw T n1 (max n1 n2) (by omega)) _ _ _ _ e1]
       simp only
       rw [if_pos hd]
       exact ze7 (zbw T n2 (max n1 n2) (by omega)) ns its _ _ _ e2
      ·cases h
     ·cases h
 ·rintro ⟨n,h⟩
  exact ze7 (zh2 n) ns its dn s _ h
theorem zx1 (m its) (s:St):zh9 T ns (.draw m its) s=(zi6 (Run T) ns [] its { s with vars:=s.vars++List.replicate m .gone }).map fun s1=>(.normal,s1.fin ns):=by
 apply zft
 intro x
 constructor
 ·intro h
  obtain ⟨n,h⟩:=RunC_iff.1 h
  simp only [ze9,Option.map_eq_some_iff] at h ⊢
  obtain ⟨s1,h1,h2⟩:=h
  exact ⟨s1,(zto _ _ _ _).2 ⟨n,h1⟩,h2⟩
 ·intro h
  simp only [Option.map_eq_some_iff] at h
  obtain ⟨s1,h1,h2⟩:=h
  obtain ⟨n,h1⟩:=(zto _ _ _ _).1 h1
  exact RunC_iff.2 ⟨n,by simp only [ze9,h1,Option.map_some,h2]⟩
theorem yjz {f:FuncId} {h:HFunc} (hT:T f=some (.go h)) (args:List V) (bs:List (List V)) (hl:args.length=h.np):
 Run T f args bs=(match zh9 T h.ns h.body { vars:=args++List.replicate (h.ns - h.np) .gone,boxes:=bs } with
  | some (.exit _,_)=>none
  | some (_,s)=>s.finish h bs.length
  | none=>none):=by
 apply zft
 intro x
 constructor
 ·intro hx
  obtain ⟨n,hx⟩:=Run_iff.1 hx
  cases n with
  | zero=>cases hx
  | succ n=>
    simp only [zg6,hT,if_pos hl] at hx
    split at hx
    ·cases hx
    ·rename_i e s hne hc
     rw [zee hc]
     cases e with
     | normal=>exact hx
     | exit id=>exact (hne id rfl).elim
     | ret=>exact hx
    ·cases hx
 ·intro hx
  split at hx
  ·cases hx
  ·rename_i e s hne hc
   obtain ⟨n,hc'⟩:=RunC_iff.1 hc
   refine Run_iff.2 ⟨n+1,?_⟩
   simp only [zg6,hT,if_pos hl,hc']
   cases e with
   | normal=>exact hx
   | exit id=>exact (hne id rfl).elim
   | ret=>exact hx
  ·cases hx
theorem yc1 {f:FuncId} {h:HFunc} (hT:T f=some (.lend h)) (args:List V) (hl:args.length=h.np):
 Run T f args [[.gone]]=(match zh9 T h.ns h.body { vars:=args++List.replicate (h.ns - h.np) .gone,boxes:=[] } with
  | some (.exit _,_)=>none
  | some (_,s)=>(s.lendBack h).map (·,[])
  | none=>none):=by
 apply zft
 intro x
 constructor
 ·intro hx
  obtain ⟨n,hx⟩:=Run_iff.1 hx
  cases n with
  | zero=>cases hx
  | succ n=>
    simp only [zg6,hT,if_pos hl] at hx
    split at hx
    ·cases hx
    ·rename_i e s hne hc
     rw [zee hc]
     cases e with
     | normal=>exact hx
     | exit id=>exact (hne id rfl).elim
     | ret=>exact hx
    ·cases hx
 ·intro hx
  split at hx
  ·cases hx
  ·rename_i e s hne hc
   obtain ⟨n,hc'⟩:=RunC_iff.1 hc
   refine Run_iff.2 ⟨n+1,?_⟩
   simp only [zg6,hT,if_pos hl,hc']
   cases e with
   | normal=>exact hx
   | exit id=>exact (hne id rfl).elim
   | ret=>exact hx
  ·cases hx
end Go.Pm
