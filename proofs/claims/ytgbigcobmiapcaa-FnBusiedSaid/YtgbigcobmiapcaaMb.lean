/- Proved: the law FnBusied answers true at all arguments, for every operating system that has started; no conditions beyond the row's own. -/
import Derived.Test.YtgbigcobmiapcaaMa
set_option linter.unusedVariables false
set_option linter.unusedSimpArgs false
namespace Go.Pm
def Below' {α:Type} (x y:Option α):Prop:=∀ a,x=some a->y=some a
theorem Below'.refl {α:Type} (x:Option α):Below' x x:=fun _ h=>h
theorem Below'.trans {α:Type} {x y z:Option α} (h:Below' x y) (h':Below' y z):Below' x z:=fun a e=>h' a (h a e)
def ROk (R R':zan):Prop:=∀ f a b,Below' (R f a b) (R' f a b)
theorem zdp {R R':zan} (h:ROk R R') (s:St) (o:HOp):Below' (s.step R o) (s.step R' o):=by
 intro x hx
 cases o with
 | call f ms frz args=>
   simp only [St.step] at hx ⊢
   split at hx
   ·split at hx
    ·rename_i hfr
     split at hx
     ·split at hx
      ·rename_i bs hw
       split at hx
       ·rename_i r bs' hr
        rw [h _ _ _ _ hr,if_pos hfr]
        exact hx
       ·cases hx
      ·cases hx
     ·cases hx
    ·rename_i hfr
     split at hx
     ·split at hx
      ·rename_i r bs' hr
       rw [h _ _ _ _ hr,if_neg hfr]
       exact hx
      ·cases hx
     ·cases hx
   ·cases hx
 | lcall f y k=>
   simp only [St.step] at hx ⊢
   split at hx
   ·split at hx
    ·split at hx
     ·rename_i hr
      rw [h _ _ _ _ hr]
      exact hx
     ·cases hx
    ·cases hx
   ·cases hx
 | dyn y args=>
   simp only [St.step] at hx ⊢
   split at hx
   ·split at hx
    ·split at hx
     ·rename_i hall
      rw [if_pos hall]
      split at hx
      ·rename_i r bs' hr
       rw [h _ _ _ _ hr]
       exact hx
      ·cases hx
     ·cases hx
    ·cases hx
   ·cases hx
 | _=>exact hx
theorem zd8 {R R':zan} (h:ROk R R') (ns:Nat):∀ (os) (s:St),Below' (zc5 R ns os s) (zc5 R' ns os s)
 | [],s=>.refl _
 | (o,d,g)::os,s=>by
   intro x hx
   simp only [zc5] at hx ⊢
   split at hx
   ·split at hx
    ·rename_i v s1 hs
     rw [zdp h s o _ hs]
     simp only
     split at hx
     ·exact zd8 h ns os _ _ hx
     ·cases hx
    ·cases hx
   ·split at hx
    ·rename_i hd
     rw [if_pos hd]
     exact zd8 h ns os _ _ hx
    ·cases hx
   ·cases hx
theorem zj1 {R R':zan} (h:ROk R R') (s:St) (o:HOp):Below' (s.peek R o) (s.peek R' o):=by
 intro x hx
 unfold St.peek at hx ⊢
 split at hx
 ·rename_i hp
  rw [if_pos hp]
  split at hx
  ·rename_i v s1 h1 h2
   rw [h1,zdp h s o _ h2]
   exact hx
  ·cases hx
 ·cases hx
theorem zdz {R R':zan} (h:ROk R R') (s:St) (ns:Nat) (q:Item):Below' (zd1 R s ns q) (zd1 R' s ns q):=by
 intro x hx
 unfold zd1 at hx ⊢
 split at hx
 ·exact zj1 h _ _ _ hx
 ·exact hx
 ·cases hx
theorem ze0 {R R':zan} (h:ROk R R') (s:St) (o:HOp):Below' (s.stepD R o) (s.stepD R' o):=by
 intro x hx
 unfold St.stepD at hx ⊢
 split at hx
 ·rename_i hp
  rw [if_pos hp]
  simp only [Option.map_eq_some_iff] at hx ⊢
  obtain ⟨v,h1,h2⟩:=hx
  exact ⟨v,zj1 h _ _ _ h1,h2⟩
 ·rename_i hp
  rw [if_neg hp]
  exact zdp h _ _ _ hx
theorem zgl {R R':zan} (h:ROk R R') (ns keep s s2):∀ qs,ycz R ns keep s s2 qs->ycz R' ns keep s s2 qs
 | [],_=>trivial
 | _::qs,hc=>⟨fun hk=>⟨(hc.1 hk).1,zdz h _ _ _ _ (hc.1 hk).2⟩,zgl h ns keep s s2 qs hc.2⟩
theorem zbj {R R':zan} (h:ROk R R') (ns:Nat):∀ (its ks dn) (s:St),Below' (zfj R ns ks dn its s) (zfj R' ns ks dn its s)
 | [],ks,dn,s=>.refl _
 | it::its,ks,dn,s=>by
   intro x hx
   simp only [zfj] at hx ⊢
   split at hx
   ·rename_i hst
    rw [if_pos hst]
    split at hx
    ·rename_i v s1 u s1' h1 h2
     have h1':(if it.g.isNone then(s.only ns it.keep).stepD R' it.h else none)=some (v,s1):=by
      split at h1
      ·rename_i hg;rw [if_pos hg];exact ze0 h _ _ _ h1
      ·cases h1
     rw [h1',ze0 h _ _ _ h2]
     simp only
     split at hx
     ·rename_i d1 s2 h3 h4
      split at hx
      ·rename_i hc
       try simp only [h3,h4]
       rw [if_pos (zgl h _ _ _ _ _ hc)]
       exact zbj h ns its _ _ _ _ hx
      ·cases hx
     ·cases hx
    ·cases hx
   ·rename_i hst
    rw [if_neg hst]
    split at hx
    ·rename_i v hv
     rw [zdz h _ _ _ _ hv]
     dsimp only
     split at hx
     ·rename_i hd
      rw [if_pos hd]
      exact zbj h ns its _ _ _ _ hx
     ·cases hx
    ·cases hx
theorem zla {R R':zan} (h:ROk R R') (ns:Nat) (its perms) (s:St):Below' (zgn R ns its perms s) (zgn R' ns its perms s):=by
 intro x hx
 unfold zgn at hx ⊢
 split at hx
 ·rename_i s1 h1
  rw [zbj h ns its _ _ _ _ h1]
  simp only
  split at hx
  ·rename_i hp
   rw [if_pos fun p hp'=>zbj h ns _ _ _ _ _ (hp p hp')]
   exact hx
  ·cases hx
 ·cases hx
theorem zev {f f':St->Option (Ex×St)} (h:∀ s,Below' (f s) (f' s)) (nb:Nat) (dead:List Nat):
 ∀ (n m:Nat),n<=m->∀ s,Below' (zvb f nb dead n s) (zvb f' nb dead m s)
 | 0,_,_,s=>by intro x hx;cases hx
 | n+1,m+1,hn,s=>by
   intro x hx
   simp only [zvb] at hx ⊢
   split at hx
   ·rename_i s0 ht
    split at hx
    ·rename_i s1 hf
     rw [h _ _ hf]
     exact zev h nb dead n m (by omega) _ _ hx
    ·rename_i r hr
     have:=h _ _ hx
     rw [this]
     revert hr
     rw [hx]
     intro hr
     cases x with
     | mk e s2=>cases e <;> first|rfl|exact absurd rfl (hr _)
   ·cases hx
 | n+1,0,hn,_=>by omega
theorem zbd {R R':zan} (h:ROk R R') (n m:Nat) (hn:n<=m) (ns:Nat):∀ (c:HCode) (s:St),Below' (zcy R n ns c s) (zcy R' m ns c s)
 | .skip,s=>.refl _
 | .seq a b,s=>by
   intro x hx
   simp only [zcy] at hx ⊢
   split at hx
   ·rename_i s1 ha
    rw [zbd h n m hn ns a _ _ ha]
    exact zbd h n m hn ns b _ _ hx
   ·rename_i r hr
    rw [zbd h n m hn ns a _ _ hx]
    revert hr;rw [hx];intro hr
    cases x with
    | mk e s2=>cases e <;> first|rfl|exact absurd rfl (hr _)
 | .region ops,s=>by
   intro x hx
   simp only [zcy,Option.map_eq_some_iff] at hx ⊢
   obtain ⟨s1,h1,h2⟩:=hx
   exact ⟨s1,zd8 h ns ops s _ h1,h2⟩
 | .draw m its,s=>by
   intro x hx
   simp only [zcy,Option.map_eq_some_iff] at hx ⊢
   obtain ⟨s1,h1,h2⟩:=hx
   exact ⟨s1,zbj h ns its _ _ _ _ h1,h2⟩
 | .drawP m its perms,s=>by
   intro x hx
   simp only [zcy,Option.map_eq_some_iff] at hx ⊢
   obtain ⟨s1,h1,h2⟩:=hx
   exact ⟨s1,zla h ns its perms _ _ h1,h2⟩
 | .cond c a b,s=>by
   intro x hx
   simp only [zcy] at hx ⊢
   split at hx
   ·split at hx
    ·rename_i ht;simp only [ht,if_true];exact zbd h n m hn ns a _ _ hx
    ·rename_i ht;simp only [ht];exact zbd h n m hn ns b _ _ hx
   ·cases hx
 | .block id b,s=>by
   intro x hx
   simp only [zcy] at hx ⊢
   split at hx
   ·rename_i id' s1 hb
    rw [zbd h n m hn ns b _ _ hb]
    exact hx
   ·rename_i r hr
    rw [zbd h n m hn ns b _ _ hx]
    revert hr;rw [hx];intro hr
    cases x with
    | mk e s2=>cases e <;> first|rfl|exact absurd rfl (hr _ _)
 | .exit id,s=>.refl _
 | .loop dead b,s=>zev (fun s=>zbd h n m hn ns b s) _ dead n m hn s
 | .ret,s=>.refl _
 | .dead,s=>.refl _
theorem zaz (T:Tab):∀ (n m:Nat),n<=m->ROk (zff T n) (zff T m)
 | 0,_,_=>fun _ _ _ _ hx=>by cases hx
 | n+1,m+1,hn=>fun f args bs x hx=>by
   have ih:=zaz T n m (by omega)
   simp only [zff] at hx ⊢
   split at hx
   ·split at hx
    ·rename_i h _ hl
     rw [if_pos hl]
     split at hx
     ·cases hx
     ·rename_i e s hne hc
      rw [zbd ih n m (by omega) _ _ _ _ hc]
      cases e with
      | normal=>exact hx
      | exit id=>exact (hne id rfl).elim
      | ret=>exact hx
     ·cases hx
    ·cases hx
   ·exact hx
   ·split at hx
    ·split at hx
     ·rename_i h _ _ hl
      rw [if_pos hl]
      split at hx
      ·cases hx
      ·rename_i e s hne hc
       rw [zbd ih n m (by omega) _ _ _ _ hc]
       cases e with
       | normal=>exact hx
       | exit id=>exact (hne id rfl).elim
       | ret=>exact hx
      ·cases hx
     ·cases hx
    ·cases hx
   ·cases hx
 | _+1,0,hn=>by omega
open Classical in
noncomputable def lim {α:Type} (u:Nat->Option α):Option α:=if h:∃ n a,u n=some a then some h.choose_spec.choose else none
def ymi {α:Type} (u:Nat->Option α):Prop:=∀ n m,n<=m->Below' (u n) (u m)
theorem zmk {α:Type} {u:Nat->Option α} (hu:ymi u) (a:α):lim u=some a ↔ ∃ n,u n=some a:=by
 unfold lim
 constructor
 ·intro h
  split at h
  ·rename_i hex
   cases h
   exact ⟨hex.choose,hex.choose_spec.choose_spec⟩
  ·cases h
 ·rintro ⟨n,hn⟩
  have hex:∃ n a,u n=some a:=⟨n,a,hn⟩
  rw [dif_pos hex]
  have h1:=hex.choose_spec.choose_spec
  have h2:=hu _ (max n hex.choose) (Nat.le_max_right _ _) _ h1
  have h3:=hu _ (max n hex.choose) (Nat.le_max_left _ _) _ hn
  rw [h2] at h3
  exact h3
theorem zf3 {α:Type} (x:Option α):lim (fun _=>x)=x:=by
 cases x with
 | none=>unfold lim;rw [dif_neg];rintro ⟨_,_,h⟩;cases h
 | some a=>exact (zmk (fun _ _ _=>.refl _) a).2 ⟨0,rfl⟩
theorem zet {α:Type} {x y:Option α} (h:∀ a,x=some a↔y=some a):x=y:=by
 cases x with
 | none=>cases y with
   | none=>rfl
   | some b=>exact ((h b).2 rfl)
 | some a=>exact ((h a).1 rfl).symm
noncomputable def Run (T:Tab):zan:=fun f a b=>lim fun n=>zff T n f a b
noncomputable def zhz (T:Tab) (ns:Nat) (c:HCode) (s:St):Option (Ex×St):=lim fun n=>zcy (zff T n) n ns c s
noncomputable def zea (T:Tab) (ns:Nat) (b:HCode) (nb:Nat) (dead:List Nat) (s:St):Option (Ex×St):=lim fun n=>zvb (zcy (zff T n) n ns b) nb dead n s
variable {T:Tab} {ns:Nat}
theorem ycq (f a b):ymi fun n=>zff T n f a b:=fun n m h=>zaz T n m h f a b
theorem zf1 (c s):ymi fun n=>zcy (zff T n) n ns c s:=fun n m h=>zbd (zaz T n m h) n m h ns c s
theorem zxr (b:HCode) (nb dead s):ymi fun n=>zvb (zcy (zff T n) n ns b) nb dead n s:=
 fun n m h=>zev (fun s=>zbd (zaz T n m h) n m h ns b s) nb dead n m h s
theorem Run_iff {f a b r}:Run T f a b=some r ↔ ∃ n,zff T n f a b=some r:=zmk (ycq f a b) r
theorem RunC_iff {c s r}:zhz T ns c s=some r ↔ ∃ n,zcy (zff T n) n ns c s=some r:=zmk (zf1 c s) r
theorem RunIter_iff {b nb dead s r}:zea T ns b nb dead s=some r ↔ ∃ n,zvb (zcy (zff T n) n ns b) nb dead n s=some r:=zmk (zxr b nb dead s) r
theorem zeq {c s r} {n:Nat} (h:zcy (zff T n) n ns c s=some r):zhz T ns c s=some r:=RunC_iff.2 ⟨n,h⟩
theorem zxv (s:St):zhz T ns .skip s=some (.normal,s):=zf3 _
theorem zyp (id:Nat) (s:St):zhz T ns (.exit id) s=some (.exit id,s):=zf3 _
theorem yca (s:St):zhz T ns .ret s=some (.ret,s):=zf3 _
theorem zo5 (a b:HCode) (s:St):zhz T ns (.seq a b) s=(match zhz T ns a s with|some (.normal,s1)=>zhz T ns b s1|r=>r):=by
 apply zet
 intro x
 constructor
 ·intro h
  obtain ⟨n,h⟩:=RunC_iff.1 h
  simp only [zcy] at h
  split at h
  ·rename_i s1 ha
   rw [zeq ha]
   exact zeq h
  ·rename_i r hr
   rw [zeq h]
   revert hr;rw [h];intro hr
   cases x with
   | mk e s2=>cases e <;> first|rfl|exact absurd rfl (hr _)
 ·intro h
  split at h
  ·rename_i s1 ha
   obtain ⟨n,ha⟩:=RunC_iff.1 ha
   obtain ⟨m,hb⟩:=RunC_iff.1 h
   refine RunC_iff.2 ⟨max n m,?_⟩
   simp only [zcy]
   have h1:=zf1 (T:=T) (ns:=ns) a s n (max n m) (Nat.le_max_left _ _) _ ha
   have h2:=zf1 (T:=T) (ns:=ns) b s1 m (max n m) (Nat.le_max_right _ _) _ hb
   simp only at h1 h2
   rw [h1]
   exact h2
  ·rename_i r hr
   obtain ⟨n,ha⟩:=RunC_iff.1 h
   refine RunC_iff.2 ⟨n,?_⟩
   simp only [zcy]
   rw [ha]
   revert hr;rw [h];intro hr
   cases x with
   | mk e s2=>cases e <;> first|rfl|exact absurd rfl (hr _)
theorem zq3 (c:Opnd) (a b:HCode) (s:St):zhz T ns (.cond c a b) s=(match s.rd c with|some (.bool t)=>if t=true then zhz T ns a s else zhz T ns b s|_=>none):=by
 unfold zhz
 simp only [zcy]
 cases hr:s.rd c with
 | none=>exact zf3 none
 | some v=>
   cases v with
   | bool t=>cases t <;> simp
   | _=>exact zf3 none
theorem zfe (id:Nat) (b:HCode) (s:St):zhz T ns (.block id b) s=(match zhz T ns b s with|some (.exit id',s1)=>if id'=id then some (.normal,s1) else some (.exit id',s1)|r=>r):=by
 apply zet
 intro x
 constructor
 ·intro h
  obtain ⟨n,h⟩:=RunC_iff.1 h
  simp only [zcy] at h
  split at h
  ·rename_i id' s1 ha
   rw [zeq ha]
   exact h
  ·rename_i r hr
   rw [zeq h]
   revert hr;rw [h];intro hr
   cases x with
   | mk e s2=>cases e <;> first|rfl|exact absurd rfl (hr _ _)
 ·intro h
  split at h
  ·rename_i id' s1 ha
   obtain ⟨n,ha⟩:=RunC_iff.1 ha
   refine RunC_iff.2 ⟨n,?_⟩
   simp only [zcy]
   rw [ha]
   exact h
  ·rename_i r hr
   obtain ⟨n,ha⟩:=RunC_iff.1 h
   refine RunC_iff.2 ⟨n,?_⟩
   simp only [zcy]
   rw [ha]
   revert hr;rw [h];intro hr
   cases x with
   | mk e s2=>cases e <;> first|rfl|exact absurd rfl (hr _ _)
theorem yar (dead:List Nat) (b:HCode) (s:St):zhz T ns (.loop dead b) s=zea T ns b s.boxes.length dead s:=rfl
theorem zlj (b:HCode) (nb:Nat) (dead:List Nat) (s:St):zea T ns b nb dead s=
 (match s.trim nb dead with
  | some s0=>(match zhz T ns b s0 with|some (.normal,s1)=>zea T ns b nb dead s1|r=>r)
  | none=>none):=by
 apply zet
 intro x
 constructor
 ·intro h
  obtain ⟨n,h⟩:=RunIter_iff.1 h
  cases n with
  | zero=>cases h
  | succ n=>
    simp only [zvb] at h
    split at h
    ·rename_i s0 ht
     rw [ht]
     simp only
     split at h
     ·rename_i s1 hf
      rw [zeq hf]
      refine RunIter_iff.2 ⟨n+1,?_⟩
      exact zev (fun s=>.refl _) nb dead n (n+1) (by omega) s1 _ h
     ·rename_i r hr
      rw [zeq h]
      revert hr;rw [h];intro hr
      cases x with
      | mk e s2=>cases e <;> first|rfl|exact absurd rfl (hr _)
    ·cases h
 ·intro h
  split at h
  ·rename_i s0 ht
   split at h
   ·rename_i s1 hf
    obtain ⟨n,hf⟩:=RunC_iff.1 hf
    obtain ⟨m,hi⟩:=RunIter_iff.1 h
    refine RunIter_iff.2 ⟨max n m+1,?_⟩
    simp only [zvb]
    rw [ht]
    have h1:=zf1 (T:=T) (ns:=ns) b s0 n (max n m+1) (by omega) _ hf
    simp only at h1 ⊢
    rw [h1]
    exact zev (fun s=>zbd (zaz T m (max n m+1) (by omega)) m (max n m+1) (by omega) ns b s) nb dead m (max n m) (by omega) s1 _ hi
   ·rename_i r hr
    obtain ⟨n,hf⟩:=RunC_iff.1 h
    refine RunIter_iff.2 ⟨n+1,?_⟩
    simp only [zvb]
    rw [ht]
    have h1:=zf1 (T:=T) (ns:=ns) b s0 n (n+1) (by omega) _ hf
    simp only at h1 ⊢
    rw [h1]
    revert hr;rw [h];intro hr
    cases x with
    | mk e s2=>cases e <;> first|rfl|exact absurd rfl (hr _)
  ·cases h
theorem zfz (n:Nat):ROk (zff T n) (Run T):=fun _ _ _ _ h=>Run_iff.2 ⟨n,h⟩
theorem zmf (s:St) (o:HOp) (x):s.step (Run T) o=some x ↔ ∃ n,s.step (zff T n) o=some x:=by
 constructor
 ·intro hx
  cases o with
  | call f ms frz args=>
    simp only [St.step] at hx ⊢
    split at hx
    ·split at hx
     ·split at hx
      ·split at hx
       ·split at hx
        ·rename_i r bs' hr
         obtain ⟨n,hr⟩:=Run_iff.1 hr
         exact ⟨n,by simp only [*,if_true]⟩
        ·cases hx
       ·cases hx
      ·cases hx
     ·rename_i hfr
      split at hx
      ·split at hx
       ·rename_i r bs' hr
        obtain ⟨n,hr⟩:=Run_iff.1 hr
        refine ⟨n,?_⟩
        rw [if_neg hfr]
        simp only [*]
       ·cases hx
      ·cases hx
    ·cases hx
  | lcall f y k=>
    simp only [St.step] at hx ⊢
    split at hx
    ·split at hx
     ·split at hx
      ·rename_i hr
       obtain ⟨n,hr⟩:=Run_iff.1 hr
       exact ⟨n,by simp only [*,if_true]⟩
      ·cases hx
     ·cases hx
    ·cases hx
  | dyn y args=>
    simp only [St.step] at hx ⊢
    split at hx
    ·split at hx
     ·split at hx
      ·rename_i hall
       split at hx
       ·rename_i r bs' hr
        obtain ⟨n,hr⟩:=Run_iff.1 hr
        exact ⟨n,by rw [if_pos hall];simp only [*]⟩
       ·cases hx
      ·cases hx
     ·cases hx
    ·cases hx
  | _=>exact ⟨0,hx⟩
 ·rintro ⟨n,h⟩
  exact zdp (zfz n) s o _ h
theorem zl2 (os):∀ (s:St) (x),zc5 (Run T) ns os s=some x ↔ ∃ n,zc5 (zff T n) ns os s=some x:=by
 induction os with
 | nil=>intro s x;exact ⟨fun h=>⟨0,h⟩,fun ⟨_,h⟩=>h⟩
 | cons a os ih=>
   obtain ⟨o,d,g⟩:=a
   intro s x
   constructor
   ·intro h
    simp only [zc5] at h
    split at h
    ·rename_i hg
     split at h
     ·rename_i v s1 hs
      split at h
      ·rename_i s2 hd
       obtain ⟨n,hs⟩:=(zmf s o _).1 hs
       obtain ⟨m,hm⟩:=(ih _ _).1 h
       refine ⟨max n m,?_⟩
       simp only [zc5,hg]
       rw [zdp (zaz T n (max n m) (by omega)) s o _ hs]
       simp only [hd]
       exact zd8 (zaz T m (max n m) (by omega)) ns os _ _ hm
      ·cases h
     ·cases h
    ·rename_i hg
     split at h
     ·rename_i hd
      obtain ⟨m,hm⟩:=(ih _ _).1 h
      exact ⟨m,by simp only [zc5,hg,if_pos hd];exact hm⟩
     ·cases h
    ·cases h
   ·rintro ⟨n,h⟩
    exact zd8 (zfz n) ns _ s _ h
theorem zs0 (ops) (s:St):zhz T ns (.region ops) s=(zc5 (Run T) ns ops s).map fun s1=>(.normal,s1.fin ns):=by
 apply zet
 intro x
 constructor
 ·intro h
  obtain ⟨n,h⟩:=RunC_iff.1 h
  simp only [zcy,Option.map_eq_some_iff] at h ⊢
  obtain ⟨s1,h1,h2⟩:=h
  exact ⟨s1,(zl2 ops s _).2 ⟨n,h1⟩,h2⟩
 ·intro h
  simp only [Option.map_eq_some_iff] at h
  obtain ⟨s1,h1,h2⟩:=h
  obtain ⟨n,h1⟩:=(zl2 ops s _).1 h1
  exact RunC_iff.2 ⟨n,by simp only [zcy,h1,Option.map_some,h2]⟩
theorem zv2 (s:St) (o:HOp) (x):s.peek (Run T) o=some x ↔ ∃ n,s.peek (zff T n) o=some x:=by
 constructor
 ·intro hx
  unfold St.peek at hx
  split at hx
  ·rename_i hp
   split at hx
   ·rename_i v s1 h1 h2
    obtain ⟨n,hn⟩:=(zmf s o _).1 h2
    refine ⟨n,?_⟩
    unfold St.peek
    rw [if_pos hp,h1,hn]
    exact hx
   ·cases hx
  ·cases hx
 ·rintro ⟨n,h⟩;exact zj1 (zfz n) s o _ h
theorem zqe (s:St) (q:Item) (x):zd1 (Run T) s ns q=some x ↔ ∃ n,zd1 (zff T n) s ns q=some x:=by
 constructor
 ·intro hx
  unfold zd1 at hx
  split at hx
  ·rename_i hw
   obtain ⟨n,hn⟩:=(zv2 _ _ _).1 hx
   exact ⟨n,by unfold zd1;rw [hw];exact hn⟩
  ·rename_i hw;exact ⟨0,by unfold zd1;rw [hw];exact hx⟩
  ·cases hx
 ·rintro ⟨n,h⟩;exact zdz (zfz n) s ns q _ h
theorem zq0 (s:St) (o:HOp) (x):s.stepD (Run T) o=some x ↔ ∃ n,s.stepD (zff T n) o=some x:=by
 constructor
 ·intro hx
  unfold St.stepD at hx
  split at hx
  ·rename_i hp
   simp only [Option.map_eq_some_iff] at hx
   obtain ⟨v,h1,h2⟩:=hx
   obtain ⟨n,hn⟩:=(zv2 s o _).1 h1
   exact ⟨n,by unfold St.stepD;rw [if_pos hp,hn];simp [h2]⟩
  ·rename_i hp
   obtain ⟨n,hn⟩:=(zmf s o _).1 hx
   exact ⟨n,by unfold St.stepD;rw [if_neg hp];exact hn⟩
 ·rintro ⟨n,h⟩;exact ze0 (zfz n) s o _ h
theorem zu1 (keep s s2):∀ qs,ycz (Run T) ns keep s s2 qs->∃ n,ycz (zff T n) ns keep s s2 qs
 | [],_=>⟨0,trivial⟩
 | q::qs,hc=>by
   obtain ⟨n,hn⟩:=zu1 keep s s2 qs hc.2
   by_cases hk:keep.getD q.i false=false
   ·obtain ⟨m,hm⟩:=(zqe s2 q _).1 (hc.1 hk).2
    exact ⟨max n m,fun _=>⟨(hc.1 hk).1,zdz (zaz T m _ (by omega)) _ _ _ _ hm⟩,zgl (zaz T n _ (by omega)) _ _ _ _ _ hn⟩
   ·exact ⟨n,fun h=>absurd h hk,hn⟩
theorem zil:∀ (its ks dn) (s:St) (x),zfj (Run T) ns ks dn its s=some x ↔ ∃ n,zfj (zff T n) ns ks dn its s=some x:=by
 intro its ks dn s x
 constructor
 ·intro h
  revert ks dn s
  induction its with
  | nil=>intro ks dn s h;exact ⟨0,h⟩
  | cons it its ih=>
    intro ks dn s h
    simp only [zfj] at h
    split at h
    ·rename_i hst
     split at h
     ·rename_i v s1 u s1' h1 h2
      split at h1
      ·rename_i hg
       split at h
       ·rename_i d1 s2 h3 h4
        split at h
        ·rename_i hc
         obtain ⟨n1,e1⟩:=(zq0 _ _ _).1 h1
         obtain ⟨n2,e2⟩:=(zq0 _ _ _).1 h2
         obtain ⟨n3,e3⟩:=zu1 _ _ _ _ hc
         obtain ⟨n4,e4⟩:=ih _ _ _ h
         refine ⟨max (max n1 n2) (max n3 n4),?_⟩
         have up:∀ k,k<=max (max n1 n2) (max n3 n4)->ROk (zff T k) (zff T (max (max n1 n2) (max n3 n4))):=fun k hk=>zaz T _ _ hk
         simp only [zfj,if_pos hst,if_pos hg]
         rw [ze0 (up n1 (by omega)) _ _ _ e1,ze0 (up n2 (by omega)) _ _ _ e2]
         simp only [h3,h4]
         rw [if_pos (zgl (up n3 (by omega)) _ _ _ _ _ e3)]
         exact zbj (up n4 (by omega)) ns its _ _ _ _ e4
        ·cases h
       ·cases h
      ·cases h1
     ·cases h
    ·rename_i hst
     split at h
     ·rename_i v hv
      split at h
      ·rename_i hd
       obtain ⟨n1,e1⟩:=(zqe _ _ _).1 hv
       obtain ⟨n2,e2⟩:=ih _ _ _ h
       refine ⟨max n1 n2,?_⟩
       simp only [zfj]
       rw [if_neg hst,zdz (zaz T n1 (max n1 n2) (by omega)) _ _ _ _ e1]
       simp only
       rw [if_pos hd]
       exact zbj (zaz T n2 (max n1 n2) (by omega)) ns its _ _ _ _ e2
      ·cases h
     ·cases h
 ·rintro ⟨n,h⟩
  exact zbj (zfz n) ns its ks dn s _ h
theorem zq6 (its perms) (s:St) (x):zgn (Run T) ns its perms s=some x ↔ ∃ n,zgn (zff T n) ns its perms s=some x:=by
 constructor
 ·intro h
  unfold zgn at h
  split at h
  ·rename_i s1 h1
   split at h
   ·rename_i hp
    cases h
    obtain ⟨n0,e0⟩:=(zil _ _ _ _ _).1 h1
    have key:∀ ps:List (List Nat),(∀ p∈ps,zfj (Run T) ns [] [] (zer its p) s=some x)->∃ n,∀ p∈ps,zfj (zff T n) ns [] [] (zer its p) s=some x:=by
     intro ps
     induction ps with
     | nil=>intro _;exact ⟨0,by simp⟩
     | cons p ps ih=>
       intro hq
       obtain ⟨n1,g1⟩:=(zil _ _ _ _ _).1 (hq p (by simp))
       obtain ⟨n2,g2⟩:=ih fun q hq'=>hq q (by simp [hq'])
       refine ⟨max n1 n2,fun q hq'=> ?_⟩
       rcases List.mem_cons.1 hq' with rfl|hq'
       ·exact zbj (zaz T n1 (max n1 n2) (by omega)) ns _ _ _ _ _ g1
       ·exact zbj (zaz T n2 (max n1 n2) (by omega)) ns _ _ _ _ _ (g2 q hq')
    obtain ⟨n1,e1⟩:=key perms hp
    refine ⟨max n0 n1,?_⟩
    unfold zgn
    rw [zbj (zaz T n0 (max n0 n1) (by omega)) ns _ _ _ _ _ e0]
    simp only
    rw [if_pos fun p hp'=>zbj (zaz T n1 (max n0 n1) (by omega)) ns _ _ _ _ _ (e1 p hp')]
   ·cases h
  ·cases h
 ·rintro ⟨n,h⟩
  exact zla (zfz n) ns its perms s _ h
theorem zvy (m its perms) (s:St):zhz T ns (.drawP m its perms) s=(zgn (Run T) ns its perms { s with vars:=s.vars++List.replicate m .gone }).map fun s1=>(.normal,s1.fin ns):=by
 apply zet
 intro x
 constructor
 ·intro h
  obtain ⟨n,h⟩:=RunC_iff.1 h
  simp only [zcy,Option.map_eq_some_iff] at h ⊢
  obtain ⟨s1,h1,h2⟩:=h
  exact ⟨s1,(zq6 _ _ _ _).2 ⟨n,h1⟩,h2⟩
 ·intro h
  simp only [Option.map_eq_some_iff] at h
  obtain ⟨s1,h1,h2⟩:=h
  obtain ⟨n,h1⟩:=(zq6 _ _ _ _).1 h1
  exact RunC_iff.2 ⟨n,by simp only [zcy,h1,Option.map_some,h2]⟩
theorem ybg (m its) (s:St):zhz T ns (.draw m its) s=(zfj (Run T) ns [] [] its { s with vars:=s.vars++List.replicate m .gone }).map fun s1=>(.normal,s1.fin ns):=by
 apply zet
 intro x
 constructor
 ·intro h
  obtain ⟨n,h⟩:=RunC_iff.1 h
  simp only [zcy,Option.map_eq_some_iff] at h ⊢
  obtain ⟨s1,h1,h2⟩:=h
  exact ⟨s1,(zil _ _ _ _ _).2 ⟨n,h1⟩,h2⟩
 ·intro h
  simp only [Option.map_eq_some_iff] at h
  obtain ⟨s1,h1,h2⟩:=h
  obtain ⟨n,h1⟩:=(zil _ _ _ _ _).1 h1
  exact RunC_iff.2 ⟨n,by simp only [zcy,h1,Option.map_some,h2]⟩
theorem yju {f:FuncId} {h:HFunc} (hT:T f=some (.go h)) (args:List V) (bs:List (List V)) (hl:args.length=h.np):
 Run T f args bs=(match zhz T h.ns h.body { vars:=args++List.replicate (h.ns - h.np) .gone,boxes:=bs } with
  | some (.exit _,_)=>none
  | some (_,s)=>s.finish h bs.length
  | none=>none):=by
 apply zet
 intro x
 constructor
 ·intro hx
  obtain ⟨n,hx⟩:=Run_iff.1 hx
  cases n with
  | zero=>cases hx
  | succ n=>
    simp only [zff,hT,if_pos hl] at hx
    split at hx
    ·cases hx
    ·rename_i e s hne hc
     rw [zeq hc]
     cases e with
     | normal=>exact hx
     | exit id=>exact (hne id rfl).elim
     | ret=>exact hx
    ·cases hx
 ·intro hx
  split at hx
  ·cases hx
  ·rename_i e s hne hc
   obtain ⟨n,hc'⟩:=RunC_iff.1 hc
   refine Run_iff.2 ⟨n+1,?_⟩
   simp only [zff,hT,if_pos hl,hc']
   cases e with
   | normal=>exact hx
   | exit id=>exact (hne id rfl).elim
   | ret=>exact hx
  ·cases hx
theorem zuj {f:FuncId} {p:List V->Option V} (hT:T f=some (.prim p)) (args:List V):Run T f args []=(p args).map (·,[]):=by
 apply zet
 intro x
 constructor
 ·intro hx
  obtain ⟨n,hx⟩:=Run_iff.1 hx
  cases n with
  | zero=>cases hx
  | succ n=>simpa only [zff,hT,if_true] using hx
 ·intro hx
  exact Run_iff.2 ⟨1,by simpa only [zff,hT,if_true] using hx⟩
end Go.Pm
