/- Proved: the law FnExactLoad answers true at all arguments, for every operating system that has started; no conditions beyond the row's own. -/
import Derived.Test.YtfoflieoeahhfaaGreatMa
set_option linter.unusedVariables false
set_option linter.unusedSimpArgs false
namespace Go.Pm
def Below' {α : Type} (x y : Option α) : Prop := ∀ a, x = some a -> y = some a
theorem Below'.refl {α : Type} (x : Option α) : Below' x x := fun _ h => h
theorem Below'.trans {α : Type} {x y z : Option α} (h : Below' x y) (h' : Below' y z) : Below' x z := fun a e => h' a (h a e)
def ROk (R R' : Oracle) : Prop := ∀ f a b, Below' (R f a b) (R' f a b)
theorem step_mono {R R' : Oracle} (h : ROk R R') (s : St) (o : HOp) : Below' (s.step R o) (s.step R' o) := by
 intro x hx
 cases o with
 | call f ms frz args =>
   simp only [St.step] at hx ⊢
   split at hx
   ·split at hx
    ·rename_i hfr
     split at hx
     ·split at hx
      ·rename_i bs hw
       split at hx
       ·rename_i r bs' hr
        rw [h _ _ _ _ hr, if_pos hfr]
        exact hx
       ·cases hx
      ·cases hx
     ·cases hx
    ·rename_i hfr
     split at hx
     ·split at hx
      ·rename_i r bs' hr
       rw [h _ _ _ _ hr, if_neg hfr]
       exact hx
      ·cases hx
     ·cases hx
   ·cases hx
 | dyn y args =>
   simp only [St.step] at hx ⊢
   split at hx
   ·split at hx
    ·split at hx
     ·rename_i hall
      rw [if_pos hall]
      split at hx
      ·rename_i r bs' hr
       rw [h _ _ _ _ hr]
       exact hx
      ·cases hx
     ·cases hx
    ·cases hx
   ·cases hx
 | _ => exact hx
theorem runOps_mono {R R' : Oracle} (h : ROk R R') (ns : Nat) : ∀ (os) (s : St), Below' (runOps R ns os s) (runOps R' ns os s)
 | [], s => .refl _
 | (o, d, g) :: os, s => by
   intro x hx
   simp only [runOps] at hx ⊢
   split at hx
   ·split at hx
    ·rename_i v s1 hs
     rw [step_mono h s o _ hs]
     simp only
     split at hx
     ·exact runOps_mono h ns os _ _ hx
     ·cases hx
    ·cases hx
   ·split at hx
    ·rename_i hd
     rw [if_pos hd]
     exact runOps_mono h ns os _ _ hx
    ·cases hx
   ·cases hx
theorem peek_mono {R R' : Oracle} (h : ROk R R') (s : St) (o : HOp) : Below' (s.peek R o) (s.peek R' o) := by
 intro x hx
 unfold St.peek at hx ⊢
 split at hx
 ·rename_i hp
  rw [if_pos hp]
  split at hx
  ·rename_i v s1 h1 h2
   rw [h1, step_mono h s o _ h2]
   exact hx
  ·cases hx
 ·cases hx
theorem evalP_mono {R R' : Oracle} (h : ROk R R') (s : St) (ns : Nat) (q : Item) : Below' (evalP R s ns q) (evalP R' s ns q) := by
 intro x hx
 unfold evalP at hx ⊢
 split at hx
 ·exact peek_mono h _ _ _ hx
 ·exact hx
 ·cases hx
theorem stepD_mono {R R' : Oracle} (h : ROk R R') (s : St) (o : HOp) : Below' (s.stepD R o) (s.stepD R' o) := by
 intro x hx
 unfold St.stepD at hx ⊢
 split at hx
 ·rename_i hp
  rw [if_pos hp]
  simp only [Option.map_eq_some_iff] at hx ⊢
  obtain ⟨v, h1, h2⟩ := hx
  exact ⟨v, peek_mono h _ _ _ h1, h2⟩
 ·rename_i hp
  rw [if_neg hp]
  exact step_mono h _ _ _ hx
theorem chkD_mono {R R' : Oracle} (h : ROk R R') (ns keep s s2) : ∀ qs, chkD R ns keep s s2 qs -> chkD R' ns keep s s2 qs
 | [], _ => trivial
 | _ :: qs, hc => ⟨fun hk => ⟨(hc.1 hk).1, evalP_mono h _ _ _ _ (hc.1 hk).2⟩, chkD_mono h ns keep s s2 qs hc.2⟩
theorem runD_mono {R R' : Oracle} (h : ROk R R') (ns : Nat) : ∀ (its dn) (s : St), Below' (runD R ns dn its s) (runD R' ns dn its s)
 | [], dn, s => .refl _
 | it :: its, dn, s => by
   intro x hx
   simp only [runD] at hx ⊢
   split at hx
   ·rename_i hst
    rw [if_pos hst]
    split at hx
    ·rename_i v s1 u s1' h1 h2
     have h1' : (if it.g.isNone then (s.only ns it.keep).stepD R' it.h else none) = some (v, s1) := by
      split at h1
      ·rename_i hg; rw [if_pos hg]; exact stepD_mono h _ _ _ h1
      ·cases h1
     rw [h1', stepD_mono h _ _ _ h2]
     simp only
     split at hx
     ·rename_i d1 s2 h3 h4
      split at hx
      ·rename_i hc
       try simp only [h3, h4]
       rw [if_pos (chkD_mono h _ _ _ _ _ hc)]
       exact runD_mono h ns its _ _ _ hx
      ·cases hx
     ·cases hx
    ·cases hx
   ·rename_i hst
    rw [if_neg hst]
    split at hx
    ·rename_i v hv
     rw [evalP_mono h _ _ _ _ hv]
     dsimp only
     split at hx
     ·rename_i hd
      rw [if_pos hd]
      exact runD_mono h ns its _ _ _ hx
     ·cases hx
    ·cases hx
theorem iter_mono {f f' : St -> Option (Ex × St)} (h : ∀ s, Below' (f s) (f' s)) (nb : Nat) (dead : List Nat) :
 ∀ (n m : Nat), n <= m -> ∀ s, Below' (iter f nb dead n s) (iter f' nb dead m s)
 | 0, _, _, s => by intro x hx; cases hx
 | n + 1, m + 1, hn, s => by
   intro x hx
   simp only [iter] at hx ⊢
   split at hx
   ·rename_i s0 ht
    split at hx
    ·rename_i s1 hf
     rw [h _ _ hf]
     exact iter_mono h nb dead n m (by omega) _ _ hx
    ·rename_i r hr
     have := h _ _ hx
     rw [this]
     revert hr
     rw [hx]
     intro hr
     cases x with
     | mk e s2 => cases e <;> first | rfl | exact absurd rfl (hr _)
   ·cases hx
 | n + 1, 0, hn, _ => by omega
theorem runC_mono {R R' : Oracle} (h : ROk R R') (n m : Nat) (hn : n <= m) (ns : Nat) : ∀ (c : HCode) (s : St), Below' (runC R n ns c s) (runC R' m ns c s)
 | .skip, s => .refl _
 | .seq a b, s => by
   intro x hx
   simp only [runC] at hx ⊢
   split at hx
   ·rename_i s1 ha
    rw [runC_mono h n m hn ns a _ _ ha]
    exact runC_mono h n m hn ns b _ _ hx
   ·rename_i r hr
    rw [runC_mono h n m hn ns a _ _ hx]
    revert hr; rw [hx]; intro hr
    cases x with
    | mk e s2 => cases e <;> first | rfl | exact absurd rfl (hr _)
 | .region ops, s => by
   intro x hx
   simp only [runC, Option.map_eq_some_iff] at hx ⊢
   obtain ⟨s1, h1, h2⟩ := hx
   exact ⟨s1, runOps_mono h ns ops s _ h1, h2⟩
 | .draw m its, s => by
   intro x hx
   simp only [runC, Option.map_eq_some_iff] at hx ⊢
   obtain ⟨s1, h1, h2⟩ := hx
   exact ⟨s1, runD_mono h ns its _ _ _ h1, h2⟩
 | .cond c a b, s => by
   intro x hx
   simp only [runC] at hx ⊢
   split at hx
   ·split at hx
    ·rename_i ht; simp only [ht, if_true]; exact runC_mono h n m hn ns a _ _ hx
    ·rename_i ht; simp only [ht]; exact runC_mono h n m hn ns b _ _ hx
   ·cases hx
 | .block id b, s => by
   intro x hx
   simp only [runC] at hx ⊢
   split at hx
   ·rename_i id' s1 hb
    rw [runC_mono h n m hn ns b _ _ hb]
    exact hx
   ·rename_i r hr
    rw [runC_mono h n m hn ns b _ _ hx]
    revert hr; rw [hx]; intro hr
    cases x with
    | mk e s2 => cases e <;> first | rfl | exact absurd rfl (hr _ _)
 | .exit id, s => .refl _
 | .loop dead b, s => iter_mono (fun s => runC_mono h n m hn ns b s) _ dead n m hn s
 | .ret, s => .refl _
theorem runP_mono (T : Tab) : ∀ (n m : Nat), n <= m -> ROk (runP T n) (runP T m)
 | 0, _, _ => fun _ _ _ _ hx => by cases hx
 | n + 1, m + 1, hn => fun f args bs x hx => by
   have ih := runP_mono T n m (by omega)
   simp only [runP] at hx ⊢
   split at hx
   ·split at hx
    ·rename_i h _ hl
     rw [if_pos hl]
     split at hx
     ·cases hx
     ·rename_i e s hne hc
      rw [runC_mono ih n m (by omega) _ _ _ _ hc]
      cases e with
      | normal => exact hx
      | exit id => exact (hne id rfl).elim
      | ret => exact hx
     ·cases hx
    ·cases hx
   ·exact hx
   ·cases hx
 | _ + 1, 0, hn => by omega
open Classical in
noncomputable def lim {α : Type} (u : Nat -> Option α) : Option α := if h : ∃ n a, u n = some a then some h.choose_spec.choose else none
def Mono {α : Type} (u : Nat -> Option α) : Prop := ∀ n m, n <= m -> Below' (u n) (u m)
theorem lim_iff {α : Type} {u : Nat -> Option α} (hu : Mono u) (a : α) : lim u = some a ↔ ∃ n, u n = some a := by
 unfold lim
 constructor
 ·intro h
  split at h
  ·rename_i hex
   cases h
   exact ⟨hex.choose, hex.choose_spec.choose_spec⟩
  ·cases h
 ·rintro ⟨n, hn⟩
  have hex : ∃ n a, u n = some a := ⟨n, a, hn⟩
  rw [dif_pos hex]
  have h1 := hex.choose_spec.choose_spec
  have h2 := hu _ (max n hex.choose) (Nat.le_max_right _ _) _ h1
  have h3 := hu _ (max n hex.choose) (Nat.le_max_left _ _) _ hn
  rw [h2] at h3
  exact h3
theorem lim_const {α : Type} (x : Option α) : lim (fun _ => x) = x := by
 cases x with
 | none => unfold lim; rw [dif_neg]; rintro ⟨_, _, h⟩; cases h
 | some a => exact (lim_iff (fun _ _ _ => .refl _) a).2 ⟨0, rfl⟩
theorem opt_ext {α : Type} {x y : Option α} (h : ∀ a, x = some a ↔ y = some a) : x = y := by
 cases x with
 | none => cases y with
   | none => rfl
   | some b => exact ((h b).2 rfl)
 | some a => exact ((h a).1 rfl).symm
noncomputable def Run (T : Tab) : Oracle := fun f a b => lim fun n => runP T n f a b
noncomputable def RunC (T : Tab) (ns : Nat) (c : HCode) (s : St) : Option (Ex × St) := lim fun n => runC (runP T n) n ns c s
noncomputable def RunIter (T : Tab) (ns : Nat) (b : HCode) (nb : Nat) (dead : List Nat) (s : St) : Option (Ex × St) := lim fun n => iter (runC (runP T n) n ns b) nb dead n s
variable {T : Tab} {ns : Nat}
theorem mono_Run (f a b) : Mono fun n => runP T n f a b := fun n m h => runP_mono T n m h f a b
theorem mono_RunC (c s) : Mono fun n => runC (runP T n) n ns c s := fun n m h => runC_mono (runP_mono T n m h) n m h ns c s
theorem mono_iter (b : HCode) (nb dead s) : Mono fun n => iter (runC (runP T n) n ns b) nb dead n s :=
 fun n m h => iter_mono (fun s => runC_mono (runP_mono T n m h) n m h ns b s) nb dead n m h s
theorem Run_iff {f a b r} : Run T f a b = some r ↔ ∃ n, runP T n f a b = some r := lim_iff (mono_Run f a b) r
theorem RunC_iff {c s r} : RunC T ns c s = some r ↔ ∃ n, runC (runP T n) n ns c s = some r := lim_iff (mono_RunC c s) r
theorem RunIter_iff {b nb dead s r} : RunIter T ns b nb dead s = some r ↔ ∃ n, iter (runC (runP T n) n ns b) nb dead n s = some r := lim_iff (mono_iter b nb dead s) r
theorem RunC_at {c s r} {n : Nat} (h : runC (runP T n) n ns c s = some r) : RunC T ns c s = some r := RunC_iff.2 ⟨n, h⟩
theorem RunC_skip (s : St) : RunC T ns .skip s = some (.normal, s) := lim_const _
theorem RunC_exit (id : Nat) (s : St) : RunC T ns (.exit id) s = some (.exit id, s) := lim_const _
theorem RunC_ret (s : St) : RunC T ns .ret s = some (.ret, s) := lim_const _
theorem RunC_seq (a b : HCode) (s : St) : RunC T ns (.seq a b) s = (match RunC T ns a s with | some (.normal, s1) => RunC T ns b s1 | r => r) := by
 apply opt_ext
 intro x
 constructor
 ·intro h
  obtain ⟨n, h⟩ := RunC_iff.1 h
  simp only [runC] at h
  split at h
  ·rename_i s1 ha
   rw [RunC_at ha]
   exact RunC_at h
  ·rename_i r hr
   rw [RunC_at h]
   revert hr; rw [h]; intro hr
   cases x with
   | mk e s2 => cases e <;> first | rfl | exact absurd rfl (hr _)
 ·intro h
  split at h
  ·rename_i s1 ha
   obtain ⟨n, ha⟩ := RunC_iff.1 ha
   obtain ⟨m, hb⟩ := RunC_iff.1 h
   refine RunC_iff.2 ⟨max n m, ?_⟩
   simp only [runC]
   have h1 := mono_RunC (T := T) (ns := ns) a s n (max n m) (Nat.le_max_left _ _) _ ha
   have h2 := mono_RunC (T := T) (ns := ns) b s1 m (max n m) (Nat.le_max_right _ _) _ hb
   simp only at h1 h2
   rw [h1]
   exact h2
  ·rename_i r hr
   obtain ⟨n, ha⟩ := RunC_iff.1 h
   refine RunC_iff.2 ⟨n, ?_⟩
   simp only [runC]
   rw [ha]
   revert hr; rw [h]; intro hr
   cases x with
   | mk e s2 => cases e <;> first | rfl | exact absurd rfl (hr _)
theorem RunC_cond (c : Opnd) (a b : HCode) (s : St) : RunC T ns (.cond c a b) s = (match s.rd c with | some (.bool t) => if t = true then RunC T ns a s else RunC T ns b s | _ => none) := by
 unfold RunC
 simp only [runC]
 cases hr : s.rd c with
 | none => exact lim_const none
 | some v =>
   cases v with
   | bool t => cases t <;> simp
   | _ => exact lim_const none
theorem RunC_block (id : Nat) (b : HCode) (s : St) : RunC T ns (.block id b) s = (match RunC T ns b s with | some (.exit id', s1) => if id' = id then some (.normal, s1) else some (.exit id', s1) | r => r) := by
 apply opt_ext
 intro x
 constructor
 ·intro h
  obtain ⟨n, h⟩ := RunC_iff.1 h
  simp only [runC] at h
  split at h
  ·rename_i id' s1 ha
   rw [RunC_at ha]
   exact h
  ·rename_i r hr
   rw [RunC_at h]
   revert hr; rw [h]; intro hr
   cases x with
   | mk e s2 => cases e <;> first | rfl | exact absurd rfl (hr _ _)
 ·intro h
  split at h
  ·rename_i id' s1 ha
   obtain ⟨n, ha⟩ := RunC_iff.1 ha
   refine RunC_iff.2 ⟨n, ?_⟩
   simp only [runC]
   rw [ha]
   exact h
  ·rename_i r hr
   obtain ⟨n, ha⟩ := RunC_iff.1 h
   refine RunC_iff.2 ⟨n, ?_⟩
   simp only [runC]
   rw [ha]
   revert hr; rw [h]; intro hr
   cases x with
   | mk e s2 => cases e <;> first | rfl | exact absurd rfl (hr _ _)
theorem RunC_loop (dead : List Nat) (b : HCode) (s : St) : RunC T ns (.loop dead b) s = RunIter T ns b s.boxes.length dead s := rfl
theorem RunIter_eq (b : HCode) (nb : Nat) (dead : List Nat) (s : St) : RunIter T ns b nb dead s =
 (match s.trim nb dead with
  | some s0 => (match RunC T ns b s0 with | some (.normal, s1) => RunIter T ns b nb dead s1 | r => r)
  | none => none) := by
 apply opt_ext
 intro x
 constructor
 ·intro h
  obtain ⟨n, h⟩ := RunIter_iff.1 h
  cases n with
  | zero => cases h
  | succ n =>
    simp only [iter] at h
    split at h
    ·rename_i s0 ht
     rw [ht]
     simp only
     split at h
     ·rename_i s1 hf
      rw [RunC_at hf]
      refine RunIter_iff.2 ⟨n + 1, ?_⟩
      exact iter_mono (fun s => .refl _) nb dead n (n + 1) (by omega) s1 _ h
     ·rename_i r hr
      rw [RunC_at h]
      revert hr; rw [h]; intro hr
      cases x with
      | mk e s2 => cases e <;> first | rfl | exact absurd rfl (hr _)
    ·cases h
 ·intro h
  split at h
  ·rename_i s0 ht
   split at h
   ·rename_i s1 hf
    obtain ⟨n, hf⟩ := RunC_iff.1 hf
    obtain ⟨m, hi⟩ := RunIter_iff.1 h
    refine RunIter_iff.2 ⟨max n m + 1, ?_⟩
    simp only [iter]
    rw [ht]
    have h1 := mono_RunC (T := T) (ns := ns) b s0 n (max n m + 1) (by omega) _ hf
    simp only at h1 ⊢
    rw [h1]
    exact iter_mono (fun s => runC_mono (runP_mono T m (max n m + 1) (by omega)) m (max n m + 1) (by omega) ns b s) nb dead m (max n m) (by omega) s1 _ hi
   ·rename_i r hr
    obtain ⟨n, hf⟩ := RunC_iff.1 h
    refine RunIter_iff.2 ⟨n + 1, ?_⟩
    simp only [iter]
    rw [ht]
    have h1 := mono_RunC (T := T) (ns := ns) b s0 n (n + 1) (by omega) _ hf
    simp only at h1 ⊢
    rw [h1]
    revert hr; rw [h]; intro hr
    cases x with
    | mk e s2 => cases e <;> first | rfl | exact absurd rfl (hr _)
  ·cases h
theorem ROk_Run (n : Nat) : ROk (runP T n) (Run T) := fun _ _ _ _ h => Run_iff.2 ⟨n, h⟩
theorem step_lim (s : St) (o : HOp) (x) : s.step (Run T) o = some x ↔ ∃ n, s.step (runP T n) o = some x := by
 constructor
 ·intro hx
  cases o with
  | call f ms frz args =>
    simp only [St.step] at hx ⊢
    split at hx
    ·split at hx
     ·split at hx
      ·split at hx
       ·split at hx
        ·rename_i r bs' hr
         obtain ⟨n, hr⟩ := Run_iff.1 hr
         exact ⟨n, by simp only [*, if_true]⟩
        ·cases hx
       ·cases hx
      ·cases hx
     ·rename_i hfr
      split at hx
      ·split at hx
       ·rename_i r bs' hr
        obtain ⟨n, hr⟩ := Run_iff.1 hr
        refine ⟨n, ?_⟩
        rw [if_neg hfr]
        simp only [*]
       ·cases hx
      ·cases hx
    ·cases hx
  | dyn y args =>
    simp only [St.step] at hx ⊢
    split at hx
    ·split at hx
     ·split at hx
      ·rename_i hall
       split at hx
       ·rename_i r bs' hr
        obtain ⟨n, hr⟩ := Run_iff.1 hr
        exact ⟨n, by rw [if_pos hall]; simp only [*]⟩
       ·cases hx
      ·cases hx
     ·cases hx
    ·cases hx
  | _ => exact ⟨0, hx⟩
 ·rintro ⟨n, h⟩
  exact step_mono (ROk_Run n) s o _ h
theorem runOps_lim (os) : ∀ (s : St) (x), runOps (Run T) ns os s = some x ↔ ∃ n, runOps (runP T n) ns os s = some x := by
 induction os with
 | nil => intro s x; exact ⟨fun h => ⟨0, h⟩, fun ⟨_, h⟩ => h⟩
 | cons a os ih =>
   obtain ⟨o, d, g⟩ := a
   intro s x
   constructor
   ·intro h
    simp only [runOps] at h
    split at h
    ·rename_i hg
     split at h
     ·rename_i v s1 hs
      split at h
      ·rename_i s2 hd
       obtain ⟨n, hs⟩ := (step_lim s o _).1 hs
       obtain ⟨m, hm⟩ := (ih _ _).1 h
       refine ⟨max n m, ?_⟩
       simp only [runOps, hg]
       rw [step_mono (runP_mono T n (max n m) (by omega)) s o _ hs]
       simp only [hd]
       exact runOps_mono (runP_mono T m (max n m) (by omega)) ns os _ _ hm
      ·cases h
     ·cases h
    ·rename_i hg
     split at h
     ·rename_i hd
      obtain ⟨m, hm⟩ := (ih _ _).1 h
      exact ⟨m, by simp only [runOps, hg, if_pos hd]; exact hm⟩
     ·cases h
    ·cases h
   ·rintro ⟨n, h⟩
    exact runOps_mono (ROk_Run n) ns _ s _ h
theorem RunC_region (ops) (s : St) : RunC T ns (.region ops) s = (runOps (Run T) ns ops s).map fun s1 => (.normal, s1.fin ns) := by
 apply opt_ext
 intro x
 constructor
 ·intro h
  obtain ⟨n, h⟩ := RunC_iff.1 h
  simp only [runC, Option.map_eq_some_iff] at h ⊢
  obtain ⟨s1, h1, h2⟩ := h
  exact ⟨s1, (runOps_lim ops s _).2 ⟨n, h1⟩, h2⟩
 ·intro h
  simp only [Option.map_eq_some_iff] at h
  obtain ⟨s1, h1, h2⟩ := h
  obtain ⟨n, h1⟩ := (runOps_lim ops s _).1 h1
  exact RunC_iff.2 ⟨n, by simp only [runC, h1, Option.map_some, h2]⟩
theorem peek_lim (s : St) (o : HOp) (x) : s.peek (Run T) o = some x ↔ ∃ n, s.peek (runP T n) o = some x := by
 constructor
 ·intro hx
  unfold St.peek at hx
  split at hx
  ·rename_i hp
   split at hx
   ·rename_i v s1 h1 h2
    obtain ⟨n, hn⟩ := (step_lim s o _).1 h2
    refine ⟨n, ?_⟩
    unfold St.peek
    rw [if_pos hp, h1, hn]
    exact hx
   ·cases hx
  ·cases hx
 ·rintro ⟨n, h⟩; exact peek_mono (ROk_Run n) s o _ h
theorem evalP_lim (s : St) (q : Item) (x) : evalP (Run T) s ns q = some x ↔ ∃ n, evalP (runP T n) s ns q = some x := by
 constructor
 ·intro hx
  unfold evalP at hx
  split at hx
  ·rename_i hw
   obtain ⟨n, hn⟩ := (peek_lim _ _ _).1 hx
   exact ⟨n, by unfold evalP; rw [hw]; exact hn⟩
  ·rename_i hw; exact ⟨0, by unfold evalP; rw [hw]; exact hx⟩
  ·cases hx
 ·rintro ⟨n, h⟩; exact evalP_mono (ROk_Run n) s ns q _ h
theorem stepD_lim (s : St) (o : HOp) (x) : s.stepD (Run T) o = some x ↔ ∃ n, s.stepD (runP T n) o = some x := by
 constructor
 ·intro hx
  unfold St.stepD at hx
  split at hx
  ·rename_i hp
   simp only [Option.map_eq_some_iff] at hx
   obtain ⟨v, h1, h2⟩ := hx
   obtain ⟨n, hn⟩ := (peek_lim s o _).1 h1
   exact ⟨n, by unfold St.stepD; rw [if_pos hp, hn]; simp [h2]⟩
  ·rename_i hp
   obtain ⟨n, hn⟩ := (step_lim s o _).1 hx
   exact ⟨n, by unfold St.stepD; rw [if_neg hp]; exact hn⟩
 ·rintro ⟨n, h⟩; exact stepD_mono (ROk_Run n) s o _ h
theorem chkD_lim (keep s s2) : ∀ qs, chkD (Run T) ns keep s s2 qs -> ∃ n, chkD (runP T n) ns keep s s2 qs
 | [], _ => ⟨0, trivial⟩
 | q :: qs, hc => by
   obtain ⟨n, hn⟩ := chkD_lim keep s s2 qs hc.2
   by_cases hk : keep.getD q.i false = false
   ·obtain ⟨m, hm⟩ := (evalP_lim s2 q _).1 (hc.1 hk).2
    exact ⟨max n m, fun _ => ⟨(hc.1 hk).1, evalP_mono (runP_mono T m _ (by omega)) _ _ _ _ hm⟩, chkD_mono (runP_mono T n _ (by omega)) _ _ _ _ _ hn⟩
   ·exact ⟨n, fun h => absurd h hk, hn⟩
theorem runD_lim : ∀ (its dn) (s : St) (x), runD (Run T) ns dn its s = some x ↔ ∃ n, runD (runP T n) ns dn its s = some x := by
 intro its dn s x
 constructor
 ·intro h
  revert dn s
  induction its with
  | nil => intro dn s h; exact ⟨0, h⟩
  | cons it its ih =>
    intro dn s h
    simp only [runD] at h
    split at h
    ·rename_i hst
     split at h
     ·rename_i v s1 u s1' h1 h2
      split at h1
      ·rename_i hg
       split at h
       ·rename_i d1 s2 h3 h4
        split at h
        ·rename_i hc
         obtain ⟨n1, e1⟩ := (stepD_lim _ _ _).1 h1
         obtain ⟨n2, e2⟩ := (stepD_lim _ _ _).1 h2
         obtain ⟨n3, e3⟩ := chkD_lim _ _ _ _ hc
         obtain ⟨n4, e4⟩ := ih _ _ h
         refine ⟨max (max n1 n2) (max n3 n4), ?_⟩
         have up : ∀ k, k <= max (max n1 n2) (max n3 n4) -> ROk (runP T k) (runP T (max (max n1 n2) (max n3 n4))) := fun k hk => runP_mono T _ _ hk
         simp only [runD, if_pos hst, if_pos hg]
         rw [stepD_mono (up n1 (by omega)) _ _ _ e1, stepD_mono (up n2 (by omega)) _ _ _ e2]
         simp only [h3, h4]
         rw [if_pos (chkD_mono (up n3 (by omega)) _ _ _ _ _ e3)]
         exact runD_mono (up n4 (by omega)) ns its _ _ _ e4
        ·cases h
       ·cases h
      ·cases h1
     ·cases h
    ·rename_i hst
     split at h
     ·rename_i v hv
      split at h
      ·rename_i hd
       obtain ⟨n1, e1⟩ := (evalP_lim _ _ _).1 hv
       obtain ⟨n2, e2⟩ := ih _ _ h
       refine ⟨max n1 n2, ?_⟩
       simp only [runD]
       rw [if_neg hst, evalP_mono (runP_mono T n1 (max n1 n2) (by omega)) _ _ _ _ e1]
       simp only
       rw [if_pos hd]
       exact runD_mono (runP_mono T n2 (max n1 n2) (by omega)) ns its _ _ _ e2
      ·cases h
     ·cases h
 ·rintro ⟨n, h⟩
  exact runD_mono (ROk_Run n) ns its dn s _ h
theorem RunC_draw (m its) (s : St) : RunC T ns (.draw m its) s = (runD (Run T) ns [] its { s with vars := s.vars ++ List.replicate m .gone }).map fun s1 => (.normal, s1.fin ns) := by
 apply opt_ext
 intro x
 constructor
 ·intro h
  obtain ⟨n, h⟩ := RunC_iff.1 h
  simp only [runC, Option.map_eq_some_iff] at h ⊢
  obtain ⟨s1, h1, h2⟩ := h
  exact ⟨s1, (runD_lim _ _ _ _).2 ⟨n, h1⟩, h2⟩
 ·intro h
  simp only [Option.map_eq_some_iff] at h
  obtain ⟨s1, h1, h2⟩ := h
  obtain ⟨n, h1⟩ := (runD_lim _ _ _ _).1 h1
  exact RunC_iff.2 ⟨n, by simp only [runC, h1, Option.map_some, h2]⟩
theorem Run_go {f : FuncId} {h : HFunc} (hT : T f = some (.go h)) (args : List V) (bs : List (List V)) (hl : args.length = h.np) :
 Run T f args bs = (match RunC T h.ns h.body { vars := args ++ List.replicate (h.ns - h.np) .gone, boxes := bs } with
  | some (.exit _, _) => none
  | some (_, s) => s.finish h bs.length
  | none => none) := by
 apply opt_ext
 intro x
 constructor
 ·intro hx
  obtain ⟨n, hx⟩ := Run_iff.1 hx
  cases n with
  | zero => cases hx
  | succ n =>
    simp only [runP, hT, if_pos hl] at hx
    split at hx
    ·cases hx
    ·rename_i e s hne hc
     rw [RunC_at hc]
     cases e with
     | normal => exact hx
     | exit id => exact (hne id rfl).elim
     | ret => exact hx
    ·cases hx
 ·intro hx
  split at hx
  ·cases hx
  ·rename_i e s hne hc
   obtain ⟨n, hc'⟩ := RunC_iff.1 hc
   refine Run_iff.2 ⟨n + 1, ?_⟩
   simp only [runP, hT, if_pos hl, hc']
   cases e with
   | normal => exact hx
   | exit id => exact (hne id rfl).elim
   | ret => exact hx
  ·cases hx
theorem Run_prim {f : FuncId} {p : List V -> Option V} (hT : T f = some (.prim p)) (args : List V) : Run T f args [] = (p args).map (·, []) := by
 apply opt_ext
 intro x
 constructor
 ·intro hx
  obtain ⟨n, hx⟩ := Run_iff.1 hx
  cases n with
  | zero => cases hx
  | succ n => simpa only [runP, hT, if_true] using hx
 ·intro hx
  exact Run_iff.2 ⟨1, by simpa only [runP, hT, if_true] using hx⟩
end Go.Pm
