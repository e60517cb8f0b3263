/- Proved: the law FnExactBoxTell answers true at all arguments, for every operating system that has started; no conditions beyond the row's own. -/
import Derived.Test.YtcjfkblhogdmbaaMa
set_option linter.unusedVariables false
set_option linter.unusedSimpArgs false
namespace Go.Pm
def Below' {α:Type} (x y:Option α):Prop:=∀ a,x=some a->y=some a
theorem Below'.refl {α:Type} (x:Option α):Below' x x:=fun _ h=>h
theorem Below'.trans {α:Type} {x y z:Option α} (h:Below' x y) (h':Below' y z):Below' x z:=fun a e=>h' a (h a e)
def ROk (R R':zap):Prop:=∀ f a b,Below' (R f a b) (R' f a b)
theorem zdl {R R':zap} (h:ROk R R') (s:St) (o:HOp):Below' (s.step R o) (s.step R' o):=by
 intro x hx
 cases o with
 | call f ms frz args=>
   simp only [St.step] at hx ⊢
   split at hx
   ·split at hx
    ·rename_i hfr
     split at hx
     ·split at hx
      ·rename_i bs hw
       split at hx
       ·rename_i r bs' hr
        rw [h _ _ _ _ hr,if_pos hfr]
        exact hx
       ·cases hx
      ·cases hx
     ·cases hx
    ·rename_i hfr
     split at hx
     ·split at hx
      ·rename_i r bs' hr
       rw [h _ _ _ _ hr,if_neg hfr]
       exact hx
      ·cases hx
     ·cases hx
   ·cases hx
 | lcall f y k=>
   simp only [St.step] at hx ⊢
   split at hx
   ·split at hx
    ·split at hx
     ·rename_i hr
      rw [h _ _ _ _ hr]
      exact hx
     ·cases hx
    ·cases hx
   ·cases hx
 | dyn y args=>
   simp only [St.step] at hx ⊢
   split at hx
   ·split at hx
    ·split at hx
     ·rename_i hall
      rw [if_pos hall]
      split at hx
      ·rename_i r bs' hr
       rw [h _ _ _ _ hr]
       exact hx
      ·cases hx
     ·cases hx
    ·cases hx
   ·cases hx
 | _=>exact hx
theorem zcv {R R':zap} (h:ROk R R') (ns:Nat):∀ (os) (s:St),Below' (zc1 R ns os s) (zc1 R' ns os s)
 | [],s=>.refl _
 | (o,d,g)::os,s=>by
   intro x hx
   simp only [zc1] at hx ⊢
   split at hx
   ·split at hx
    ·rename_i v s1 hs
     rw [zdl h s o _ hs]
     simp only
     split at hx
     ·exact zcv h ns os _ _ hx
     ·cases hx
    ·cases hx
   ·split at hx
    ·rename_i hd
     rw [if_pos hd]
     exact zcv h ns os _ _ hx
    ·cases hx
   ·cases hx
theorem zj1 {R R':zap} (h:ROk R R') (s:St) (o:HOp):Below' (s.peek R o) (s.peek R' o):=by
 intro x hx
 unfold St.peek at hx ⊢
 split at hx
 ·rename_i hp
  rw [if_pos hp]
  split at hx
  ·rename_i v s1 h1 h2
   rw [h1,zdl h s o _ h2]
   exact hx
  ·cases hx
 ·cases hx
theorem zdm {R R':zap} (h:ROk R R') (s:St) (ns:Nat) (q:Item):Below' (zcp R s ns q) (zcp R' s ns q):=by
 intro x hx
 unfold zcp at hx ⊢
 split at hx
 ·exact zj1 h _ _ _ hx
 ·exact hx
 ·cases hx
theorem zdh {R R':zap} (h:ROk R R') (s:St) (o:HOp):Below' (s.stepD R o) (s.stepD R' o):=by
 intro x hx
 unfold St.stepD at hx ⊢
 split at hx
 ·rename_i hp
  rw [if_pos hp]
  simp only [Option.map_eq_some_iff] at hx ⊢
  obtain ⟨v,h1,h2⟩:=hx
  exact ⟨v,zj1 h _ _ _ h1,h2⟩
 ·rename_i hp
  rw [if_neg hp]
  exact zdl h _ _ _ hx
theorem zgh {R R':zap} (h:ROk R R') (ns keep s s2):∀ qs,zv4 R ns keep s s2 qs->zv4 R' ns keep s s2 qs
 | [],_=>trivial
 | _::qs,hc=>⟨fun hk=>⟨(hc.1 hk).1,zdm h _ _ _ _ (hc.1 hk).2⟩,zgh h ns keep s s2 qs hc.2⟩
theorem zdr {R R':zap} (h:ROk R R') (ns:Nat):∀ (its dn) (s:St),Below' (zhe R ns dn its s) (zhe R' ns dn its s)
 | [],dn,s=>.refl _
 | it::its,dn,s=>by
   intro x hx
   simp only [zhe] at hx ⊢
   split at hx
   ·rename_i hst
    rw [if_pos hst]
    split at hx
    ·rename_i v s1 u s1' h1 h2
     have h1':(if it.g.isNone then(s.only ns it.keep).stepD R' it.h else none)=some (v,s1):=by
      split at h1
      ·rename_i hg;rw [if_pos hg];exact zdh h _ _ _ h1
      ·cases h1
     rw [h1',zdh h _ _ _ h2]
     simp only
     split at hx
     ·rename_i d1 s2 h3 h4
      split at hx
      ·rename_i hc
       try simp only [h3,h4]
       rw [if_pos (zgh h _ _ _ _ _ hc)]
       exact zdr h ns its _ _ _ hx
      ·cases hx
     ·cases hx
    ·cases hx
   ·rename_i hst
    rw [if_neg hst]
    split at hx
    ·rename_i v hv
     rw [zdm h _ _ _ _ hv]
     dsimp only
     split at hx
     ·rename_i hd
      rw [if_pos hd]
      exact zdr h ns its _ _ _ hx
     ·cases hx
    ·cases hx
theorem zeh {f f':St->Option (Ex×St)} (h:∀ s,Below' (f s) (f' s)) (nb:Nat) (dead:List Nat):
 ∀ (n m:Nat),n<=m->∀ s,Below' (zr1 f nb dead n s) (zr1 f' nb dead m s)
 | 0,_,_,s=>by intro x hx;cases hx
 | n+1,m+1,hn,s=>by
   intro x hx
   simp only [zr1] at hx ⊢
   split at hx
   ·rename_i s0 ht
    split at hx
    ·rename_i s1 hf
     rw [h _ _ hf]
     exact zeh h nb dead n m (by omega) _ _ hx
    ·rename_i r hr
     have:=h _ _ hx
     rw [this]
     revert hr
     rw [hx]
     intro hr
     cases x with
     | mk e s2=>cases e <;> first|rfl|exact absurd rfl (hr _)
   ·cases hx
 | n+1,0,hn,_=>by omega
theorem zbd {R R':zap} (h:ROk R R') (n m:Nat) (hn:n<=m) (ns:Nat):∀ (c:HCode) (s:St),Below' (zdp R n ns c s) (zdp R' m ns c s)
 | .skip,s=>.refl _
 | .seq a b,s=>by
   intro x hx
   simp only [zdp] at hx ⊢
   split at hx
   ·rename_i s1 ha
    rw [zbd h n m hn ns a _ _ ha]
    exact zbd h n m hn ns b _ _ hx
   ·rename_i r hr
    rw [zbd h n m hn ns a _ _ hx]
    revert hr;rw [hx];intro hr
    cases x with
    | mk e s2=>cases e <;> first|rfl|exact absurd rfl (hr _)
 | .region ops,s=>by
   intro x hx
   simp only [zdp,Option.map_eq_some_iff] at hx ⊢
   obtain ⟨s1,h1,h2⟩:=hx
   exact ⟨s1,zcv h ns ops s _ h1,h2⟩
 | .draw m its,s=>by
   intro x hx
   simp only [zdp,Option.map_eq_some_iff] at hx ⊢
   obtain ⟨s1,h1,h2⟩:=hx
   exact ⟨s1,zdr h ns its _ _ _ h1,h2⟩
 | .cond c a b,s=>by
   intro x hx
   simp only [zdp] at hx ⊢
   split at hx
   ·split at hx
    ·rename_i ht;simp only [ht,if_true];exact zbd h n m hn ns a _ _ hx
    ·rename_i ht;simp only [ht];exact zbd h n m hn ns b _ _ hx
   ·cases hx
 | .block id b,s=>by
   intro x hx
   simp only [zdp] at hx ⊢
   split at hx
   ·rename_i id' s1 hb
    rw [zbd h n m hn ns b _ _ hb]
    exact hx
   ·rename_i r hr
    rw [zbd h n m hn ns b _ _ hx]
    revert hr;rw [hx];intro hr
    cases x with
    | mk e s2=>cases e <;> first|rfl|exact absurd rfl (hr _ _)
 | .exit id,s=>.refl _
 | .loop dead b,s=>zeh (fun s=>zbd h n m hn ns b s) _ dead n m hn s
 | .ret,s=>.refl _
 | .dead,s=>.refl _
theorem zbj (T:Tab):∀ (n m:Nat),n<=m->ROk (zf2 T n) (zf2 T m)
 | 0,_,_=>fun _ _ _ _ hx=>by cases hx
 | n+1,m+1,hn=>fun f args bs x hx=>by
   have ih:=zbj T n m (by omega)
   simp only [zf2] at hx ⊢
   split at hx
   ·split at hx
    ·rename_i h _ hl
     rw [if_pos hl]
     split at hx
     ·cases hx
     ·rename_i e s hne hc
      rw [zbd ih n m (by omega) _ _ _ _ hc]
      cases e with
      | normal=>exact hx
      | exit id=>exact (hne id rfl).elim
      | ret=>exact hx
     ·cases hx
    ·cases hx
   ·exact hx
   ·split at hx
    ·split at hx
     ·rename_i h _ _ hl
      rw [if_pos hl]
      split at hx
      ·cases hx
      ·rename_i e s hne hc
       rw [zbd ih n m (by omega) _ _ _ _ hc]
       cases e with
       | normal=>exact hx
       | exit id=>exact (hne id rfl).elim
       | ret=>exact hx
      ·cases hx
     ·cases hx
    ·cases hx
   ·cases hx
 | _+1,0,hn=>by omega
open Classical in
noncomputable def lim {α:Type} (u:Nat->Option α):Option α:=if h:∃ n a,u n=some a then some h.choose_spec.choose else none
def ycp {α:Type} (u:Nat->Option α):Prop:=∀ n m,n<=m->Below' (u n) (u m)
theorem zl3 {α:Type} {u:Nat->Option α} (hu:ycp u) (a:α):lim u=some a ↔ ∃ n,u n=some a:=by
 unfold lim
 constructor
 ·intro h
  split at h
  ·rename_i hex
   cases h
   exact ⟨hex.choose,hex.choose_spec.choose_spec⟩
  ·cases h
 ·rintro ⟨n,hn⟩
  have hex:∃ n a,u n=some a:=⟨n,a,hn⟩
  rw [dif_pos hex]
  have h1:=hex.choose_spec.choose_spec
  have h2:=hu _ (max n hex.choose) (Nat.le_max_right _ _) _ h1
  have h3:=hu _ (max n hex.choose) (Nat.le_max_left _ _) _ hn
  rw [h2] at h3
  exact h3
theorem zeq {α:Type} (x:Option α):lim (fun _=>x)=x:=by
 cases x with
 | none=>unfold lim;rw [dif_neg];rintro ⟨_,_,h⟩;cases h
 | some a=>exact (zl3 (fun _ _ _=>.refl _) a).2 ⟨0,rfl⟩
theorem zec {α:Type} {x y:Option α} (h:∀ a,x=some a↔y=some a):x=y:=by
 cases x with
 | none=>cases y with
   | none=>rfl
   | some b=>exact ((h b).2 rfl)
 | some a=>exact ((h a).1 rfl).symm
noncomputable def Run (T:Tab):zap:=fun f a b=>lim fun n=>zf2 T n f a b
noncomputable def zfd (T:Tab) (ns:Nat) (c:HCode) (s:St):Option (Ex×St):=lim fun n=>zdp (zf2 T n) n ns c s
noncomputable def zcx (T:Tab) (ns:Nat) (b:HCode) (nb:Nat) (dead:List Nat) (s:St):Option (Ex×St):=lim fun n=>zr1 (zdp (zf2 T n) n ns b) nb dead n s
variable {T:Tab} {ns:Nat}
theorem zvy (f a b):ycp fun n=>zf2 T n f a b:=fun n m h=>zbj T n m h f a b
theorem zen (c s):ycp fun n=>zdp (zf2 T n) n ns c s:=fun n m h=>zbd (zbj T n m h) n m h ns c s
theorem zuv (b:HCode) (nb dead s):ycp fun n=>zr1 (zdp (zf2 T n) n ns b) nb dead n s:=
 fun n m h=>zeh (fun s=>zbd (zbj T n m h) n m h ns b s) nb dead n m h s
theorem Run_iff {f a b r}:Run T f a b=some r ↔ ∃ n,zf2 T n f a b=some r:=zl3 (zvy f a b) r
theorem RunC_iff {c s r}:zfd T ns c s=some r ↔ ∃ n,zdp (zf2 T n) n ns c s=some r:=zl3 (zen c s) r
theorem RunIter_iff {b nb dead s r}:zcx T ns b nb dead s=some r ↔ ∃ n,zr1 (zdp (zf2 T n) n ns b) nb dead n s=some r:=zl3 (zuv b nb dead s) r
theorem ze0 {c s r} {n:Nat} (h:zdp (zf2 T n) n ns c s=some r):zfd T ns c s=some r:=RunC_iff.2 ⟨n,h⟩
theorem zmk (s:St):zfd T ns .skip s=some (.normal,s):=zeq _
theorem zm0 (id:Nat) (s:St):zfd T ns (.exit id) s=some (.exit id,s):=zeq _
theorem zpq (s:St):zfd T ns .ret s=some (.ret,s):=zeq _
theorem zhm (a b:HCode) (s:St):zfd T ns (.seq a b) s=(match zfd T ns a s with|some (.normal,s1)=>zfd T ns b s1|r=>r):=by
 apply zec
 intro x
 constructor
 ·intro h
  obtain ⟨n,h⟩:=RunC_iff.1 h
  simp only [zdp] at h
  split at h
  ·rename_i s1 ha
   rw [ze0 ha]
   exact ze0 h
  ·rename_i r hr
   rw [ze0 h]
   revert hr;rw [h];intro hr
   cases x with
   | mk e s2=>cases e <;> first|rfl|exact absurd rfl (hr _)
 ·intro h
  split at h
  ·rename_i s1 ha
   obtain ⟨n,ha⟩:=RunC_iff.1 ha
   obtain ⟨m,hb⟩:=RunC_iff.1 h
   refine RunC_iff.2 ⟨max n m,?_⟩
   simp only [zdp]
   have h1:=zen (T:=T) (ns:=ns) a s n (max n m) (Nat.le_max_left _ _) _ ha
   have h2:=zen (T:=T) (ns:=ns) b s1 m (max n m) (Nat.le_max_right _ _) _ hb
   simp only at h1 h2
   rw [h1]
   exact h2
  ·rename_i r hr
   obtain ⟨n,ha⟩:=RunC_iff.1 h
   refine RunC_iff.2 ⟨n,?_⟩
   simp only [zdp]
   rw [ha]
   revert hr;rw [h];intro hr
   cases x with
   | mk e s2=>cases e <;> first|rfl|exact absurd rfl (hr _)
theorem zis (c:Opnd) (a b:HCode) (s:St):zfd T ns (.cond c a b) s=(match s.rd c with|some (.bool t)=>if t=true then zfd T ns a s else zfd T ns b s|_=>none):=by
 unfold zfd
 simp only [zdp]
 cases hr:s.rd c with
 | none=>exact zeq none
 | some v=>
   cases v with
   | bool t=>cases t <;> simp
   | _=>exact zeq none
theorem zdk (id:Nat) (b:HCode) (s:St):zfd T ns (.block id b) s=(match zfd T ns b s with|some (.exit id',s1)=>if id'=id then some (.normal,s1) else some (.exit id',s1)|r=>r):=by
 apply zec
 intro x
 constructor
 ·intro h
  obtain ⟨n,h⟩:=RunC_iff.1 h
  simp only [zdp] at h
  split at h
  ·rename_i id' s1 ha
   rw [ze0 ha]
   exact h
  ·rename_i r hr
   rw [ze0 h]
   revert hr;rw [h];intro hr
   cases x with
   | mk e s2=>cases e <;> first|rfl|exact absurd rfl (hr _ _)
 ·intro h
  split at h
  ·rename_i id' s1 ha
   obtain ⟨n,ha⟩:=RunC_iff.1 ha
   refine RunC_iff.2 ⟨n,?_⟩
   simp only [zdp]
   rw [ha]
   exact h
  ·rename_i r hr
   obtain ⟨n,ha⟩:=RunC_iff.1 h
   refine RunC_iff.2 ⟨n,?_⟩
   simp only [zdp]
   rw [ha]
   revert hr;rw [h];intro hr
   cases x with
   | mk e s2=>cases e <;> first|rfl|exact absurd rfl (hr _ _)
theorem zm9 (dead:List Nat) (b:HCode) (s:St):zfd T ns (.loop dead b) s=zcx T ns b s.boxes.length dead s:=rfl
theorem zbk (b:HCode) (nb:Nat) (dead:List Nat) (s:St):zcx T ns b nb dead s=
 (match s.trim nb dead with
  | some s0=>(match zfd T ns b s0 with|some (.normal,s1)=>zcx T ns b nb dead s1|r=>r)
  | none=>none):=by
 apply zec
 intro x
 constructor
 ·intro h
  obtain ⟨n,h⟩:=RunIter_iff.1 h
  cases n with
  | zero=>cases h
  | succ n=>
    simp only [zr1] at h
    split at h
    ·rename_i s0 ht
     rw [ht]
     simp only
     split at h
     ·rename_i s1 hf
      rw [ze0 hf]
      refine RunIter_iff.2 ⟨n+1,?_⟩
      exact zeh (fun s=>.refl _) nb dead n (n+1) (by omega) s1 _ h
     ·rename_i r hr
      rw [ze0 h]
      revert hr;rw [h];intro hr
      cases x with
      | mk e s2=>cases e <;> first|rfl|exact absurd rfl (hr _)
    ·cases h
 ·intro h
  split at h
  ·rename_i s0 ht
   split at h
   ·rename_i s1 hf
    obtain ⟨n,hf⟩:=RunC_iff.1 hf
    obtain ⟨m,hi⟩:=RunIter_iff.1 h
    refine RunIter_iff.2 ⟨max n m+1,?_⟩
    simp only [zr1]
    rw [ht]
    have h1:=zen (T:=T) (ns:=ns) b s0 n (max n m+1) (by omega) _ hf
    simp only at h1 ⊢
    rw [h1]
    exact zeh (fun s=>zbd (zbj T m (max n m+1) (by omega)) m (max n m+1) (by omega) ns b s) nb dead m (max n m) (by omega) s1 _ hi
   ·rename_i r hr
    obtain ⟨n,hf⟩:=RunC_iff.1 h
    refine RunIter_iff.2 ⟨n+1,?_⟩
    simp only [zr1]
    rw [ht]
    have h1:=zen (T:=T) (ns:=ns) b s0 n (n+1) (by omega) _ hf
    simp only at h1 ⊢
    rw [h1]
    revert hr;rw [h];intro hr
    cases x with
    | mk e s2=>cases e <;> first|rfl|exact absurd rfl (hr _)
  ·cases h
theorem zgt (n:Nat):ROk (zf2 T n) (Run T):=fun _ _ _ _ h=>Run_iff.2 ⟨n,h⟩
theorem zli (s:St) (o:HOp) (x):s.step (Run T) o=some x ↔ ∃ n,s.step (zf2 T n) o=some x:=by
 constructor
 ·intro hx
  cases o with
  | call f ms frz args=>
    simp only [St.step] at hx ⊢
    split at hx
    ·split at hx
     ·split at hx
      ·split at hx
       ·split at hx
        ·rename_i r bs' hr
         obtain ⟨n,hr⟩:=Run_iff.1 hr
         exact ⟨n,by simp only [*,if_true]⟩
        ·cases hx
       ·cases hx
      ·cases hx
     ·rename_i hfr
      split at hx
      ·split at hx
       ·rename_i r bs' hr
        obtain ⟨n,hr⟩:=Run_iff.1 hr
        refine ⟨n,?_⟩
        rw [if_neg hfr]
        simp only [*]
       ·cases hx
      ·cases hx
    ·cases hx
  | lcall f y k=>
    simp only [St.step] at hx ⊢
    split at hx
    ·split at hx
     ·split at hx
      ·rename_i hr
       obtain ⟨n,hr⟩:=Run_iff.1 hr
       exact ⟨n,by simp only [*,if_true]⟩
      ·cases hx
     ·cases hx
    ·cases hx
  | dyn y args=>
    simp only [St.step] at hx ⊢
    split at hx
    ·split at hx
     ·split at hx
      ·rename_i hall
       split at hx
       ·rename_i r bs' hr
        obtain ⟨n,hr⟩:=Run_iff.1 hr
        exact ⟨n,by rw [if_pos hall];simp only [*]⟩
       ·cases hx
      ·cases hx
     ·cases hx
    ·cases hx
  | _=>exact ⟨0,hx⟩
 ·rintro ⟨n,h⟩
  exact zdl (zgt n) s o _ h
theorem zk0 (os):∀ (s:St) (x),zc1 (Run T) ns os s=some x ↔ ∃ n,zc1 (zf2 T n) ns os s=some x:=by
 induction os with
 | nil=>intro s x;exact ⟨fun h=>⟨0,h⟩,fun ⟨_,h⟩=>h⟩
 | cons a os ih=>
   obtain ⟨o,d,g⟩:=a
   intro s x
   constructor
   ·intro h
    simp only [zc1] at h
    split at h
    ·rename_i hg
     split at h
     ·rename_i v s1 hs
      split at h
      ·rename_i s2 hd
       obtain ⟨n,hs⟩:=(zli s o _).1 hs
       obtain ⟨m,hm⟩:=(ih _ _).1 h
       refine ⟨max n m,?_⟩
       simp only [zc1,hg]
       rw [zdl (zbj T n (max n m) (by omega)) s o _ hs]
       simp only [hd]
       exact zcv (zbj T m (max n m) (by omega)) ns os _ _ hm
      ·cases h
     ·cases h
    ·rename_i hg
     split at h
     ·rename_i hd
      obtain ⟨m,hm⟩:=(ih _ _).1 h
      exact ⟨m,by simp only [zc1,hg,if_pos hd];exact hm⟩
     ·cases h
    ·cases h
   ·rintro ⟨n,h⟩
    exact zcv (zgt n) ns _ s _ h
theorem zij (ops) (s:St):zfd T ns (.region ops) s=(zc1 (Run T) ns ops s).map fun s1=>(.normal,s1.fin ns):=by
 apply zec
 intro x
 constructor
 ·intro h
  obtain ⟨n,h⟩:=RunC_iff.1 h
  simp only [zdp,Option.map_eq_some_iff] at h ⊢
  obtain ⟨s1,h1,h2⟩:=h
  exact ⟨s1,(zk0 ops s _).2 ⟨n,h1⟩,h2⟩
 ·intro h
  simp only [Option.map_eq_some_iff] at h
  obtain ⟨s1,h1,h2⟩:=h
  obtain ⟨n,h1⟩:=(zk0 ops s _).1 h1
  exact RunC_iff.2 ⟨n,by simp only [zdp,h1,Option.map_some,h2]⟩
theorem zq6 (s:St) (o:HOp) (x):s.peek (Run T) o=some x ↔ ∃ n,s.peek (zf2 T n) o=some x:=by
 constructor
 ·intro hx
  unfold St.peek at hx
  split at hx
  ·rename_i hp
   split at hx
   ·rename_i v s1 h1 h2
    obtain ⟨n,hn⟩:=(zli s o _).1 h2
    refine ⟨n,?_⟩
    unfold St.peek
    rw [if_pos hp,h1,hn]
    exact hx
   ·cases hx
  ·cases hx
 ·rintro ⟨n,h⟩;exact zj1 (zgt n) s o _ h
theorem zmv (s:St) (q:Item) (x):zcp (Run T) s ns q=some x ↔ ∃ n,zcp (zf2 T n) s ns q=some x:=by
 constructor
 ·intro hx
  unfold zcp at hx
  split at hx
  ·rename_i hw
   obtain ⟨n,hn⟩:=(zq6 _ _ _).1 hx
   exact ⟨n,by unfold zcp;rw [hw];exact hn⟩
  ·rename_i hw;exact ⟨0,by unfold zcp;rw [hw];exact hx⟩
  ·cases hx
 ·rintro ⟨n,h⟩;exact zdm (zgt n) s ns q _ h
theorem zmy (s:St) (o:HOp) (x):s.stepD (Run T) o=some x ↔ ∃ n,s.stepD (zf2 T n) o=some x:=by
 constructor
 ·intro hx
  unfold St.stepD at hx
  split at hx
  ·rename_i hp
   simp only [Option.map_eq_some_iff] at hx
   obtain ⟨v,h1,h2⟩:=hx
   obtain ⟨n,hn⟩:=(zq6 s o _).1 h1
   exact ⟨n,by unfold St.stepD;rw [if_pos hp,hn];simp [h2]⟩
  ·rename_i hp
   obtain ⟨n,hn⟩:=(zli s o _).1 hx
   exact ⟨n,by unfold St.stepD;rw [if_neg hp];exact hn⟩
 ·rintro ⟨n,h⟩;exact zdh (zgt n) s o _ h
theorem zpb (keep s s2):∀ qs,zv4 (Run T) ns keep s s2 qs->∃ n,zv4 (zf2 T n) ns keep s s2 qs
 | [],_=>⟨0,trivial⟩
 | q::qs,hc=>by
   obtain ⟨n,hn⟩:=zpb keep s s2 qs hc.2
   by_cases hk:keep.getD q.i false=false
   ·obtain ⟨m,hm⟩:=(zmv s2 q _).1 (hc.1 hk).2
    exact ⟨max n m,fun _=>⟨(hc.1 hk).1,zdm (zbj T m _ (by omega)) _ _ _ _ hm⟩,zgh (zbj T n _ (by omega)) _ _ _ _ _ hn⟩
   ·exact ⟨n,fun h=>absurd h hk,hn⟩
theorem zpj:∀ (its dn) (s:St) (x),zhe (Run T) ns dn its s=some x ↔ ∃ n,zhe (zf2 T n) ns dn its s=some x:=by
 intro its dn s x
 constructor
 ·intro h
  revert dn s
  induction its with
  | nil=>intro dn s h;exact ⟨0,h⟩
  | cons it its ih=>
    intro dn s h
    simp only [zhe] at h
    split at h
    ·rename_i hst
     split at h
     ·rename_i v s1 u s1' h1 h2
      split at h1
      ·rename_i hg
       split at h
       ·rename_i d1 s2 h3 h4
        split at h
        ·rename_i hc
         obtain ⟨n1,e1⟩:=(zmy _ _ _).1 h1
         obtain ⟨n2,e2⟩:=(zmy _ _ _).1 h2
         obtain ⟨n3,e3⟩:=zpb _ _ _ _ hc
         obtain ⟨n4,e4⟩:=ih _ _ h
         refine ⟨max (max n1 n2) (max n3 n4),?_⟩
         have up:∀ k,k<=max (max n1 n2) (max n3 n4)->ROk (zf2 T k) (zf2 T (max (max n1 n2) (max n3 n4))):=fun k hk=>zbj T _ _ hk
         simp only [zhe,if_pos hst,if_pos hg]
         rw [zdh (up n1 (by omega)) _ _ _ e1,zdh (up n2 (by omega)) _ _ _ e2]
         simp only [h3,h4]
         rw [if_pos (zgh (up n3 (by omega)) _ _ _ _ _ e3)]
         exact zdr (up n4 (by omega)) ns its _ _ _ e4
        ·cases h
       ·cases h
      ·cases h1
     ·cases h
    ·rename_i hst
     split at h
     ·rename_i v hv
      split at h
      ·rename_i hd
       obtain ⟨n1,e1⟩:=(zmv _ _ _).1 hv
       obtain ⟨n2,e2⟩:=ih _ _ h
       refine ⟨max n1 n2,?_⟩
       simp only [zhe]
       rw [if_neg hst,zdm (zbj T n1 (max n1 n2) (by omega)) _ _ _ _ e1]
       simp only
       rw [if_pos hd]
       exact zdr (zbj T n2 (max n1 n2) (by omega)) ns its _ _ _ e2
      ·cases h
     ·cases h
 ·rintro ⟨n,h⟩
  exact zdr (zgt n) ns its dn s _ h
theorem zmd (m its) (s:St):zfd T ns (.draw m its) s=(zhe (Run T) ns [] its { s with vars:=s.vars++List.replicate m .gone }).map fun s1=>(.normal,s1.fin ns):=by
 apply zec
 intro x
 constructor
 ·intro h
  obtain ⟨n,h⟩:=RunC_iff.1 h
  simp only [zdp,Option.map_eq_some_iff] at h ⊢
  obtain ⟨s1,h1,h2⟩:=h
  exact ⟨s1,(zpj _ _ _ _).2 ⟨n,h1⟩,h2⟩
 ·intro h
  simp only [Option.map_eq_some_iff] at h
  obtain ⟨s1,h1,h2⟩:=h
  obtain ⟨n,h1⟩:=(zpj _ _ _ _).1 h1
  exact RunC_iff.2 ⟨n,by simp only [zdp,h1,Option.map_some,h2]⟩
theorem yad {f:FuncId} {h:HFunc} (hT:T f=some (.go h)) (args:List V) (bs:List (List V)) (hl:args.length=h.np):
 Run T f args bs=(match zfd T h.ns h.body { vars:=args++List.replicate (h.ns - h.np) .gone,boxes:=bs } with
  | some (.exit _,_)=>none
  | some (_,s)=>s.finish h bs.length
  | none=>none):=by
 apply zec
 intro x
 constructor
 ·intro hx
  obtain ⟨n,hx⟩:=Run_iff.1 hx
  cases n with
  | zero=>cases hx
  | succ n=>
    simp only [zf2,hT,if_pos hl] at hx
    split at hx
    ·cases hx
    ·rename_i e s hne hc
     rw [ze0 hc]
     cases e with
     | normal=>exact hx
     | exit id=>exact (hne id rfl).elim
     | ret=>exact hx
    ·cases hx
 ·intro hx
  split at hx
  ·cases hx
  ·rename_i e s hne hc
   obtain ⟨n,hc'⟩:=RunC_iff.1 hc
   refine Run_iff.2 ⟨n+1,?_⟩
   simp only [zf2,hT,if_pos hl,hc']
   cases e with
   | normal=>exact hx
   | exit id=>exact (hne id rfl).elim
   | ret=>exact hx
  ·cases hx
theorem zwl {f:FuncId} {h:HFunc} (hT:T f=some (.lend h)) (args:List V) (hl:args.length=h.np):
 Run T f args [[.gone]]=(match zfd T h.ns h.body { vars:=args++List.replicate (h.ns - h.np) .gone,boxes:=[] } with
  | some (.exit _,_)=>none
  | some (_,s)=>(s.lendBack h).map (·,[])
  | none=>none):=by
 apply zec
 intro x
 constructor
 ·intro hx
  obtain ⟨n,hx⟩:=Run_iff.1 hx
  cases n with
  | zero=>cases hx
  | succ n=>
    simp only [zf2,hT,if_pos hl] at hx
    split at hx
    ·cases hx
    ·rename_i e s hne hc
     rw [ze0 hc]
     cases e with
     | normal=>exact hx
     | exit id=>exact (hne id rfl).elim
     | ret=>exact hx
    ·cases hx
 ·intro hx
  split at hx
  ·cases hx
  ·rename_i e s hne hc
   obtain ⟨n,hc'⟩:=RunC_iff.1 hc
   refine Run_iff.2 ⟨n+1,?_⟩
   simp only [zf2,hT,if_pos hl,hc']
   cases e with
   | normal=>exact hx
   | exit id=>exact (hne id rfl).elim
   | ret=>exact hx
  ·cases hx
theorem zvh {f:FuncId} {p:List V->Option V} (hT:T f=some (.prim p)) (args:List V):Run T f args []=(p args).map (·,[]):=by
 apply zec
 intro x
 constructor
 ·intro hx
  obtain ⟨n,hx⟩:=Run_iff.1 hx
  cases n with
  | zero=>cases hx
  | succ n=>simpa only [zf2,hT,if_true] using hx
 ·intro hx
  exact Run_iff.2 ⟨1,by simpa only [zf2,hT,if_true] using hx⟩
end Go.Pm
