/- Proved: the law FnExactEnough answers true at all arguments, for every operating system that has started; no conditions beyond the row's own. -/
import Derived.Test.YtfoflieoeahhfaaGreatMa
set_option linter.unusedVariables false
set_option linter.unusedSimpArgs false
namespace Go.Pm
def Below' {α:Type} (x y:Option α):Prop:=∀ a,x=some a->y=some a
theorem Below'.refl {α:Type} (x:Option α):Below' x x:=fun _ h=>h
theorem Below'.trans {α:Type} {x y z:Option α} (h:Below' x y) (h':Below' y z):Below' x z:=fun a e=>h' a (h a e)
def ROk (R R':Oracle):Prop:=∀ f a b,Below' (R f a b) (R' f a b)
theorem zcy {R R':Oracle} (h:ROk R R') (s:St) (o:HOp):Below' (s.step R o) (s.step R' o):=by
 intro x hx
 cases o with
 | call f ms frz args=>
   simp only [St.step] at hx ⊢
   split at hx
   ·split at hx
    ·rename_i hfr
     split at hx
     ·split at hx
      ·rename_i bs hw
       split at hx
       ·rename_i r bs' hr
        rw [h _ _ _ _ hr,if_pos hfr]
        exact hx
       ·cases hx
      ·cases hx
     ·cases hx
    ·rename_i hfr
     split at hx
     ·split at hx
      ·rename_i r bs' hr
       rw [h _ _ _ _ hr,if_neg hfr]
       exact hx
      ·cases hx
     ·cases hx
   ·cases hx
 | dyn y args=>
   simp only [St.step] at hx ⊢
   split at hx
   ·split at hx
    ·split at hx
     ·rename_i hall
      rw [if_pos hall]
      split at hx
      ·rename_i r bs' hr
       rw [h _ _ _ _ hr]
       exact hx
      ·cases hx
     ·cases hx
    ·cases hx
   ·cases hx
 | _=>exact hx
theorem zck {R R':Oracle} (h:ROk R R') (ns:Nat):∀ (os) (s:St),Below' (runOps R ns os s) (runOps R' ns os s)
 | [],s=>.refl _
 | (o,d,g) :: os,s=>by
   intro x hx
   simp only [runOps] at hx ⊢
   split at hx
   ·split at hx
    ·rename_i v s1 hs
     rw [zcy h s o _ hs]
     simp only
     split at hx
     ·exact zck h ns os _ _ hx
     ·cases hx
    ·cases hx
   ·split at hx
    ·rename_i hd
     rw [if_pos hd]
     exact zck h ns os _ _ hx
    ·cases hx
   ·cases hx
theorem zgl {R R':Oracle} (h:ROk R R') (s:St) (o:HOp):Below' (s.peek R o) (s.peek R' o):=by
 intro x hx
 unfold St.peek at hx ⊢
 split at hx
 ·rename_i hp
  rw [if_pos hp]
  split at hx
  ·rename_i v s1 h1 h2
   rw [h1,zcy h s o _ h2]
   exact hx
  ·cases hx
 ·cases hx
theorem zd7 {R R':Oracle} (h:ROk R R') (s:St) (ns:Nat) (q:Item):Below' (evalP R s ns q) (evalP R' s ns q):=by
 intro x hx
 unfold evalP at hx ⊢
 split at hx
 ·exact zgl h _ _ _ hx
 ·exact hx
 ·cases hx
theorem zcz {R R':Oracle} (h:ROk R R') (s:St) (o:HOp):Below' (s.stepD R o) (s.stepD R' o):=by
 intro x hx
 unfold St.stepD at hx ⊢
 split at hx
 ·rename_i hp
  rw [if_pos hp]
  simp only [Option.map_eq_some_iff] at hx ⊢
  obtain ⟨v,h1,h2⟩:=hx
  exact ⟨v,zgl h _ _ _ h1,h2⟩
 ·rename_i hp
  rw [if_neg hp]
  exact zcy h _ _ _ hx
theorem zf5 {R R':Oracle} (h:ROk R R') (ns keep s s2):∀ qs,chkD R ns keep s s2 qs->chkD R' ns keep s s2 qs
 | [],_=>trivial
 | _ :: qs,hc=>⟨fun hk=>⟨(hc.1 hk).1,zd7 h _ _ _ _ (hc.1 hk).2⟩,zf5 h ns keep s s2 qs hc.2⟩
theorem zd0 {R R':Oracle} (h:ROk R R') (ns:Nat):∀ (its dn) (s:St),Below' (runD R ns dn its s) (runD R' ns dn its s)
 | [],dn,s=>.refl _
 | it :: its,dn,s=>by
   intro x hx
   simp only [runD] at hx ⊢
   split at hx
   ·rename_i hst
    rw [if_pos hst]
    split at hx
    ·rename_i v s1 u s1' h1 h2
     have h1':(if it.g.isNone then(s.only ns it.keep).stepD R' it.h else none)=some (v,s1):=by
      split at h1
      ·rename_i hg;rw [if_pos hg];exact zcz h _ _ _ h1
      ·cases h1
     rw [h1',zcz h _ _ _ h2]
     simp only
     split at hx
     ·rename_i d1 s2 h3 h4
      split at hx
      ·rename_i hc
       try simp only [h3,h4]
       rw [if_pos (zf5 h _ _ _ _ _ hc)]
       exact zd0 h ns its _ _ _ hx
      ·cases hx
     ·cases hx
    ·cases hx
   ·rename_i hst
    rw [if_neg hst]
    split at hx
    ·rename_i v hv
     rw [zd7 h _ _ _ _ hv]
     dsimp only
     split at hx
     ·rename_i hd
      rw [if_pos hd]
      exact zd0 h ns its _ _ _ hx
     ·cases hx
    ·cases hx
theorem zdp {f f':St->Option (Ex × St)} (h:∀ s,Below' (f s) (f' s)) (nb:Nat) (dead:List Nat):
 ∀ (n m:Nat),n <= m->∀ s,Below' (iter f nb dead n s) (iter f' nb dead m s)
 | 0,_,_,s=>by intro x hx;cases hx
 | n + 1,m + 1,hn,s=>by
   intro x hx
   simp only [iter] at hx ⊢
   split at hx
   ·rename_i s0 ht
    split at hx
    ·rename_i s1 hf
     rw [h _ _ hf]
     exact zdp h nb dead n m (by omega) _ _ hx
    ·rename_i r hr
     have:=h _ _ hx
     rw [this]
     revert hr
     rw [hx]
     intro hr
     cases x with
     | mk e s2=>cases e <;> first | rfl | exact absurd rfl (hr _)
   ·cases hx
 | n + 1,0,hn,_=>by omega
theorem zbi {R R':Oracle} (h:ROk R R') (n m:Nat) (hn:n <= m) (ns:Nat):∀ (c:HCode) (s:St),Below' (runC R n ns c s) (runC R' m ns c s)
 | .skip,s=>.refl _
 | .seq a b,s=>by
   intro x hx
   simp only [runC] at hx ⊢
   split at hx
   ·rename_i s1 ha
    rw [zbi h n m hn ns a _ _ ha]
    exact zbi h n m hn ns b _ _ hx
   ·rename_i r hr
    rw [zbi h n m hn ns a _ _ hx]
    revert hr;rw [hx];intro hr
    cases x with
    | mk e s2=>cases e <;> first | rfl | exact absurd rfl (hr _)
 | .region ops,s=>by
   intro x hx
   simp only [runC,Option.map_eq_some_iff] at hx ⊢
   obtain ⟨s1,h1,h2⟩:=hx
   exact ⟨s1,zck h ns ops s _ h1,h2⟩
 | .draw m its,s=>by
   intro x hx
   simp only [runC,Option.map_eq_some_iff] at hx ⊢
   obtain ⟨s1,h1,h2⟩:=hx
   exact ⟨s1,zd0 h ns its _ _ _ h1,h2⟩
 | .cond c a b,s=>by
   intro x hx
   simp only [runC] at hx ⊢
   split at hx
   ·split at hx
    ·rename_i ht;simp only [ht,if_true];exact zbi h n m hn ns a _ _ hx
    ·rename_i ht;simp only [ht];exact zbi h n m hn ns b _ _ hx
   ·cases hx
 | .block id b,s=>by
   intro x hx
   simp only [runC] at hx ⊢
   split at hx
   ·rename_i id' s1 hb
    rw [zbi h n m hn ns b _ _ hb]
    exact hx
   ·rename_i r hr
    rw [zbi h n m hn ns b _ _ hx]
    revert hr;rw [hx];intro hr
    cases x with
    | mk e s2=>cases e <;> first | rfl | exact absurd rfl (hr _ _)
 | .exit id,s=>.refl _
 | .loop dead b,s=>zdp (fun s=>zbi h n m hn ns b s) _ dead n m hn s
 | .ret,s=>.refl _
theorem zbh (T:Tab):∀ (n m:Nat),n <= m->ROk (runP T n) (runP T m)
 | 0,_,_=>fun _ _ _ _ hx=>by cases hx
 | n + 1,m + 1,hn=>fun f args bs x hx=>by
   have ih:=zbh T n m (by omega)
   simp only [runP] at hx ⊢
   split at hx
   ·split at hx
    ·rename_i h _ hl
     rw [if_pos hl]
     split at hx
     ·cases hx
     ·rename_i e s hne hc
      rw [zbi ih n m (by omega) _ _ _ _ hc]
      cases e with
      | normal=>exact hx
      | exit id=>exact (hne id rfl).elim
      | ret=>exact hx
     ·cases hx
    ·cases hx
   ·exact hx
   ·cases hx
 | _ + 1,0,hn=>by omega
open Classical in
noncomputable def lim {α:Type} (u:Nat->Option α):Option α:=if h:∃ n a,u n=some a then some h.choose_spec.choose else none
def Mono {α:Type} (u:Nat->Option α):Prop:=∀ n m,n <= m->Below' (u n) (u m)
theorem zij {α:Type} {u:Nat->Option α} (hu:Mono u) (a:α):lim u=some a ↔ ∃ n,u n=some a:=by
 unfold lim
 constructor
 ·intro h
  split at h
  ·rename_i hex
   cases h
   exact ⟨hex.choose,hex.choose_spec.choose_spec⟩
  ·cases h
 ·rintro ⟨n,hn⟩
  have hex:∃ n a,u n=some a:=⟨n,a,hn⟩
  rw [dif_pos hex]
  have h1:=hex.choose_spec.choose_spec
  have h2:=hu _ (max n hex.choose) (Nat.le_max_right _ _) _ h1
  have h3:=hu _ (max n hex.choose) (Nat.le_max_left _ _) _ hn
  rw [h2] at h3
  exact h3
theorem ze3 {α:Type} (x:Option α):lim (fun _=>x)=x:=by
 cases x with
 | none=>unfold lim;rw [dif_neg];rintro ⟨_,_,h⟩;cases h
 | some a=>exact (zij (fun _ _ _=>.refl _) a).2 ⟨0,rfl⟩
theorem zeu {α:Type} {x y:Option α} (h:∀ a,x=some a ↔ y=some a):x=y:=by
 cases x with
 | none=>cases y with
   | none=>rfl
   | some b=>exact ((h b).2 rfl)
 | some a=>exact ((h a).1 rfl).symm
noncomputable def Run (T:Tab):Oracle:=fun f a b=>lim fun n=>runP T n f a b
noncomputable def RunC (T:Tab) (ns:Nat) (c:HCode) (s:St):Option (Ex × St):=lim fun n=>runC (runP T n) n ns c s
noncomputable def RunIter (T:Tab) (ns:Nat) (b:HCode) (nb:Nat) (dead:List Nat) (s:St):Option (Ex × St):=lim fun n=>iter (runC (runP T n) n ns b) nb dead n s
variable {T:Tab} {ns:Nat}
theorem zql (f a b):Mono fun n=>runP T n f a b:=fun n m h=>zbh T n m h f a b
theorem ze0 (c s):Mono fun n=>runC (runP T n) n ns c s:=fun n m h=>zbi (zbh T n m h) n m h ns c s
theorem zot (b:HCode) (nb dead s):Mono fun n=>iter (runC (runP T n) n ns b) nb dead n s:=
 fun n m h=>zdp (fun s=>zbi (zbh T n m h) n m h ns b s) nb dead n m h s
theorem zdg {f a b r}:Run T f a b=some r ↔ ∃ n,runP T n f a b=some r:=zij (zql f a b) r
theorem zb4 {c s r}:RunC T ns c s=some r ↔ ∃ n,runC (runP T n) n ns c s=some r:=zij (ze0 c s) r
theorem zcj {b nb dead s r}:RunIter T ns b nb dead s=some r ↔ ∃ n,iter (runC (runP T n) n ns b) nb dead n s=some r:=zij (zot b nb dead s) r
theorem zdx {c s r} {n:Nat} (h:runC (runP T n) n ns c s=some r):RunC T ns c s=some r:=zb4.2 ⟨n,h⟩
theorem zp8 (s:St):RunC T ns .skip s=some (.normal,s):=ze3 _
theorem zo5 (id:Nat) (s:St):RunC T ns (.exit id) s=some (.exit id,s):=ze3 _
theorem zrd (s:St):RunC T ns .ret s=some (.ret,s):=ze3 _
theorem zj7 (a b:HCode) (s:St):RunC T ns (.seq a b) s=(match RunC T ns a s with | some (.normal,s1)=>RunC T ns b s1 | r=>r):=by
 apply zeu
 intro x
 constructor
 ·intro h
  obtain ⟨n,h⟩:=zb4.1 h
  simp only [runC] at h
  split at h
  ·rename_i s1 ha
   rw [zdx ha]
   exact zdx h
  ·rename_i r hr
   rw [zdx h]
   revert hr;rw [h];intro hr
   cases x with
   | mk e s2=>cases e <;> first | rfl | exact absurd rfl (hr _)
 ·intro h
  split at h
  ·rename_i s1 ha
   obtain ⟨n,ha⟩:=zb4.1 ha
   obtain ⟨m,hb⟩:=zb4.1 h
   refine zb4.2 ⟨max n m,?_⟩
   simp only [runC]
   have h1:=ze0 (T:=T) (ns:=ns) a s n (max n m) (Nat.le_max_left _ _) _ ha
   have h2:=ze0 (T:=T) (ns:=ns) b s1 m (max n m) (Nat.le_max_right _ _) _ hb
   simp only at h1 h2
   rw [h1]
   exact h2
  ·rename_i r hr
   obtain ⟨n,ha⟩:=zb4.1 h
   refine zb4.2 ⟨n,?_⟩
   simp only [runC]
   rw [ha]
   revert hr;rw [h];intro hr
   cases x with
   | mk e s2=>cases e <;> first | rfl | exact absurd rfl (hr _)
theorem zjp (c:Opnd) (a b:HCode) (s:St):RunC T ns (.cond c a b) s=(match s.rd c with | some (.bool t)=>if t=true then RunC T ns a s else RunC T ns b s | _=>none):=by
 unfold RunC
 simp only [runC]
 cases hr:s.rd c with
 | none=>exact ze3 none
 | some v=>
   cases v with
   | bool t=>cases t <;> simp
   | _=>exact ze3 none
theorem ze8 (id:Nat) (b:HCode) (s:St):RunC T ns (.block id b) s=(match RunC T ns b s with | some (.exit id',s1)=>if id'=id then some (.normal,s1) else some (.exit id',s1) | r=>r):=by
 apply zeu
 intro x
 constructor
 ·intro h
  obtain ⟨n,h⟩:=zb4.1 h
  simp only [runC] at h
  split at h
  ·rename_i id' s1 ha
   rw [zdx ha]
   exact h
  ·rename_i r hr
   rw [zdx h]
   revert hr;rw [h];intro hr
   cases x with
   | mk e s2=>cases e <;> first | rfl | exact absurd rfl (hr _ _)
 ·intro h
  split at h
  ·rename_i id' s1 ha
   obtain ⟨n,ha⟩:=zb4.1 ha
   refine zb4.2 ⟨n,?_⟩
   simp only [runC]
   rw [ha]
   exact h
  ·rename_i r hr
   obtain ⟨n,ha⟩:=zb4.1 h
   refine zb4.2 ⟨n,?_⟩
   simp only [runC]
   rw [ha]
   revert hr;rw [h];intro hr
   cases x with
   | mk e s2=>cases e <;> first | rfl | exact absurd rfl (hr _ _)
theorem zor (dead:List Nat) (b:HCode) (s:St):RunC T ns (.loop dead b) s=RunIter T ns b s.boxes.length dead s:=rfl
theorem zhq (b:HCode) (nb:Nat) (dead:List Nat) (s:St):RunIter T ns b nb dead s=
 (match s.trim nb dead with
  | some s0=>(match RunC T ns b s0 with | some (.normal,s1)=>RunIter T ns b nb dead s1 | r=>r)
  | none=>none):=by
 apply zeu
 intro x
 constructor
 ·intro h
  obtain ⟨n,h⟩:=zcj.1 h
  cases n with
  | zero=>cases h
  | succ n=>
    simp only [iter] at h
    split at h
    ·rename_i s0 ht
     rw [ht]
     simp only
     split at h
     ·rename_i s1 hf
      rw [zdx hf]
      refine zcj.2 ⟨n + 1,?_⟩
      exact zdp (fun s=>.refl _) nb dead n (n + 1) (by omega) s1 _ h
     ·rename_i r hr
      rw [zdx h]
      revert hr;rw [h];intro hr
      cases x with
      | mk e s2=>cases e <;> first | rfl | exact absurd rfl (hr _)
    ·cases h
 ·intro h
  split at h
  ·rename_i s0 ht
   split at h
   ·rename_i s1 hf
    obtain ⟨n,hf⟩:=zb4.1 hf
    obtain ⟨m,hi⟩:=zcj.1 h
    refine zcj.2 ⟨max n m + 1,?_⟩
    simp only [iter]
    rw [ht]
    have h1:=ze0 (T:=T) (ns:=ns) b s0 n (max n m + 1) (by omega) _ hf
    simp only at h1 ⊢
    rw [h1]
    exact zdp (fun s=>zbi (zbh T m (max n m + 1) (by omega)) m (max n m + 1) (by omega) ns b s) nb dead m (max n m) (by omega) s1 _ hi
   ·rename_i r hr
    obtain ⟨n,hf⟩:=zb4.1 h
    refine zcj.2 ⟨n + 1,?_⟩
    simp only [iter]
    rw [ht]
    have h1:=ze0 (T:=T) (ns:=ns) b s0 n (n + 1) (by omega) _ hf
    simp only at h1 ⊢
    rw [h1]
    revert hr;rw [h];intro hr
    cases x with
    | mk e s2=>cases e <;> first | rfl | exact absurd rfl (hr _)
  ·cases h
theorem zfg (n:Nat):ROk (runP T n) (Run T):=fun _ _ _ _ h=>zdg.2 ⟨n,h⟩
theorem zif (s:St) (o:HOp) (x):s.step (Run T) o=some x ↔ ∃ n,s.step (runP T n) o=some x:=by
 constructor
 ·intro hx
  cases o with
  | call f ms frz args=>
    simp only [St.step] at hx ⊢
    split at hx
    ·split at hx
     ·split at hx
      ·split at hx
       ·split at hx
        ·rename_i r bs' hr
         obtain ⟨n,hr⟩:=zdg.1 hr
         exact ⟨n,by simp only [*,if_true]⟩
        ·cases hx
       ·cases hx
      ·cases hx
     ·rename_i hfr
      split at hx
      ·split at hx
       ·rename_i r bs' hr
        obtain ⟨n,hr⟩:=zdg.1 hr
        refine ⟨n,?_⟩
        rw [if_neg hfr]
        simp only [*]
       ·cases hx
      ·cases hx
    ·cases hx
  | dyn y args=>
    simp only [St.step] at hx ⊢
    split at hx
    ·split at hx
     ·split at hx
      ·rename_i hall
       split at hx
       ·rename_i r bs' hr
        obtain ⟨n,hr⟩:=zdg.1 hr
        exact ⟨n,by rw [if_pos hall];simp only [*]⟩
       ·cases hx
      ·cases hx
     ·cases hx
    ·cases hx
  | _=>exact ⟨0,hx⟩
 ·rintro ⟨n,h⟩
  exact zcy (zfg n) s o _ h
theorem zi0 (os):∀ (s:St) (x),runOps (Run T) ns os s=some x ↔ ∃ n,runOps (runP T n) ns os s=some x:=by
 induction os with
 | nil=>intro s x;exact ⟨fun h=>⟨0,h⟩,fun ⟨_,h⟩=>h⟩
 | cons a os ih=>
   obtain ⟨o,d,g⟩:=a
   intro s x
   constructor
   ·intro h
    simp only [runOps] at h
    split at h
    ·rename_i hg
     split at h
     ·rename_i v s1 hs
      split at h
      ·rename_i s2 hd
       obtain ⟨n,hs⟩:=(zif s o _).1 hs
       obtain ⟨m,hm⟩:=(ih _ _).1 h
       refine ⟨max n m,?_⟩
       simp only [runOps,hg]
       rw [zcy (zbh T n (max n m) (by omega)) s o _ hs]
       simp only [hd]
       exact zck (zbh T m (max n m) (by omega)) ns os _ _ hm
      ·cases h
     ·cases h
    ·rename_i hg
     split at h
     ·rename_i hd
      obtain ⟨m,hm⟩:=(ih _ _).1 h
      exact ⟨m,by simp only [runOps,hg,if_pos hd];exact hm⟩
     ·cases h
    ·cases h
   ·rintro ⟨n,h⟩
    exact zck (zfg n) ns _ s _ h
theorem zl4 (ops) (s:St):RunC T ns (.region ops) s=(runOps (Run T) ns ops s).map fun s1=>(.normal,s1.fin ns):=by
 apply zeu
 intro x
 constructor
 ·intro h
  obtain ⟨n,h⟩:=zb4.1 h
  simp only [runC,Option.map_eq_some_iff] at h ⊢
  obtain ⟨s1,h1,h2⟩:=h
  exact ⟨s1,(zi0 ops s _).2 ⟨n,h1⟩,h2⟩
 ·intro h
  simp only [Option.map_eq_some_iff] at h
  obtain ⟨s1,h1,h2⟩:=h
  obtain ⟨n,h1⟩:=(zi0 ops s _).1 h1
  exact zb4.2 ⟨n,by simp only [runC,h1,Option.map_some,h2]⟩
theorem zle (s:St) (o:HOp) (x):s.peek (Run T) o=some x ↔ ∃ n,s.peek (runP T n) o=some x:=by
 constructor
 ·intro hx
  unfold St.peek at hx
  split at hx
  ·rename_i hp
   split at hx
   ·rename_i v s1 h1 h2
    obtain ⟨n,hn⟩:=(zif s o _).1 h2
    refine ⟨n,?_⟩
    unfold St.peek
    rw [if_pos hp,h1,hn]
    exact hx
   ·cases hx
  ·cases hx
 ·rintro ⟨n,h⟩;exact zgl (zfg n) s o _ h
theorem zk6 (s:St) (q:Item) (x):evalP (Run T) s ns q=some x ↔ ∃ n,evalP (runP T n) s ns q=some x:=by
 constructor
 ·intro hx
  unfold evalP at hx
  split at hx
  ·rename_i hw
   obtain ⟨n,hn⟩:=(zle _ _ _).1 hx
   exact ⟨n,by unfold evalP;rw [hw];exact hn⟩
  ·rename_i hw;exact ⟨0,by unfold evalP;rw [hw];exact hx⟩
  ·cases hx
 ·rintro ⟨n,h⟩;exact zd7 (zfg n) s ns q _ h
theorem zk9 (s:St) (o:HOp) (x):s.stepD (Run T) o=some x ↔ ∃ n,s.stepD (runP T n) o=some x:=by
 constructor
 ·intro hx
  unfold St.stepD at hx
  split at hx
  ·rename_i hp
   simp only [Option.map_eq_some_iff] at hx
   obtain ⟨v,h1,h2⟩:=hx
   obtain ⟨n,hn⟩:=(zle s o _).1 h1
   exact ⟨n,by unfold St.stepD;rw [if_pos hp,hn];simp [h2]⟩
  ·rename_i hp
   obtain ⟨n,hn⟩:=(zif s o _).1 hx
   exact ⟨n,by unfold St.stepD;rw [if_neg hp];exact hn⟩
 ·rintro ⟨n,h⟩;exact zcz (zfg n) s o _ h
theorem zlz (keep s s2):∀ qs,chkD (Run T) ns keep s s2 qs->∃ n,chkD (runP T n) ns keep s s2 qs
 | [],_=>⟨0,trivial⟩
 | q :: qs,hc=>by
   obtain ⟨n,hn⟩:=zlz keep s s2 qs hc.2
   by_cases hk:keep.getD q.i false=false
   ·obtain ⟨m,hm⟩:=(zk6 s2 q _).1 (hc.1 hk).2
    exact ⟨max n m,fun _=>⟨(hc.1 hk).1,zd7 (zbh T m _ (by omega)) _ _ _ _ hm⟩,zf5 (zbh T n _ (by omega)) _ _ _ _ _ hn⟩
   ·exact ⟨n,fun h=>absurd h hk,hn⟩
theorem zll:∀ (its dn) (s:St) (x),runD (Run T) ns dn its s=some x ↔ ∃ n,runD (runP T n) ns dn its s=some x:=by
 intro its dn s x
 constructor
 ·intro h
  revert dn s
  induction its with
  | nil=>intro dn s h;exact ⟨0,h⟩
  | cons it its ih=>
    intro dn s h
    simp only [runD] at h
    split at h
    ·rename_i hst
     split at h
     ·rename_i v s1 u s1' h1 h2
      split at h1
      ·rename_i hg
       split at h
       ·rename_i d1 s2 h3 h4
        split at h
        ·rename_i hc
         obtain ⟨n1,e1⟩:=(zk9 _ _ _).1 h1
         obtain ⟨n2,e2⟩:=(zk9 _ _ _).1 h2
         obtain ⟨n3,e3⟩:=zlz _ _ _ _ hc
         obtain ⟨n4,e4⟩:=ih _ _ h
         refine ⟨max (max n1 n2) (max n3 n4),?_⟩
         have up:∀ k,k <= max (max n1 n2) (max n3 n4)->ROk (runP T k) (runP T (max (max n1 n2) (max n3 n4))):=fun k hk=>zbh T _ _ hk
         simp only [runD,if_pos hst,if_pos hg]
         rw [zcz (up n1 (by omega)) _ _ _ e1,zcz (up n2 (by omega)) _ _ _ e2]
         simp only [h3,h4]
         rw [if_pos (zf5 (up n3 (by omega)) _ _ _ _ _ e3)]
         exact zd0 (up n4 (by omega)) ns its _ _ _ e4
        ·cases h
       ·cases h
      ·cases h1
     ·cases h
    ·rename_i hst
     split at h
     ·rename_i v hv
      split at h
      ·rename_i hd
       obtain ⟨n1,e1⟩:=(zk6 _ _ _).1 hv
       obtain ⟨n2,e2⟩:=ih _ _ h
       refine ⟨max n1 n2,?_⟩
       simp only [runD]
       rw [if_neg hst,zd7 (zbh T n1 (max n1 n2) (by omega)) _ _ _ _ e1]
       simp only
       rw [if_pos hd]
       exact zd0 (zbh T n2 (max n1 n2) (by omega)) ns its _ _ _ e2
      ·cases h
     ·cases h
 ·rintro ⟨n,h⟩
  exact zd0 (zfg n) ns its dn s _ h
theorem zph (m its) (s:St):RunC T ns (.draw m its) s=(runD (Run T) ns [] its { s with vars:=s.vars ++ List.replicate m .gone }).map fun s1=>(.normal,s1.fin ns):=by
 apply zeu
 intro x
 constructor
 ·intro h
  obtain ⟨n,h⟩:=zb4.1 h
  simp only [runC,Option.map_eq_some_iff] at h ⊢
  obtain ⟨s1,h1,h2⟩:=h
  exact ⟨s1,(zll _ _ _ _).2 ⟨n,h1⟩,h2⟩
 ·intro h
  simp only [Option.map_eq_some_iff] at h
  obtain ⟨s1,h1,h2⟩:=h
  obtain ⟨n,h1⟩:=(zll _ _ _ _).1 h1
  exact zb4.2 ⟨n,by simp only [runC,h1,Option.map_some,h2]⟩
theorem zvn {f:FuncId} {h:HFunc} (hT:T f=some (.go h)) (args:List V) (bs:List (List V)) (hl:args.length=h.np):
 Run T f args bs=(match RunC T h.ns h.body { vars:=args ++ List.replicate (h.ns - h.np) .gone,boxes:=bs } with
  | some (.exit _,_)=>none
  | some (_,s)=>s.finish h bs.length
  | none=>none):=by
 apply zeu
 intro x
 constructor
 ·intro hx
  obtain ⟨n,hx⟩:=zdg.1 hx
  cases n with
  | zero=>cases hx
  | succ n=>
    simp only [runP,hT,if_pos hl] at hx
    split at hx
    ·cases hx
    ·rename_i e s hne hc
     rw [zdx hc]
     cases e with
     | normal=>exact hx
     | exit id=>exact (hne id rfl).elim
     | ret=>exact hx
    ·cases hx
 ·intro hx
  split at hx
  ·cases hx
  ·rename_i e s hne hc
   obtain ⟨n,hc'⟩:=zb4.1 hc
   refine zdg.2 ⟨n + 1,?_⟩
   simp only [runP,hT,if_pos hl,hc']
   cases e with
   | normal=>exact hx
   | exit id=>exact (hne id rfl).elim
   | ret=>exact hx
  ·cases hx
theorem zqb {f:FuncId} {p:List V->Option V} (hT:T f=some (.prim p)) (args:List V):Run T f args []=(p args).map (·,[]):=by
 apply zeu
 intro x
 constructor
 ·intro hx
  obtain ⟨n,hx⟩:=zdg.1 hx
  cases n with
  | zero=>cases hx
  | succ n=>simpa only [runP,hT,if_true] using hx
 ·intro hx
  exact zdg.2 ⟨1,by simpa only [runP,hT,if_true] using hx⟩
end Go.Pm
