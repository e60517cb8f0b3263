/- Proved: the law FnExactServedEach answers true at all arguments, for every operating system that has started; no conditions beyond the row's own. -/
import Derived.Test.YtgmekbinlpnpoaaMk
import Derived.IntWalk
set_option linter.unusedVariables false
set_option linter.unusedSimpArgs false
namespace Go.Pm
variable {T : Tab} {ns nb : Nat} {b : HCode} {dead : List Nat}

/-! rounds of a loop -/
theorem iter_step {s s0 s1 : St} (hs : s.trim nb dead = some s0) (hb : RunC T ns b s0 = some (.normal, s1)) : RunIter T ns b nb dead s = RunIter T ns b nb dead s1 := by
  rw [RunIter_eq, hs]; simp only [hb]
theorem iter_stop {s s0 s1 : St} {ex : Ex} (hs : s.trim nb dead = some s0) (hb : RunC T ns b s0 = some (ex, s1)) (hne : ex ≠ .normal) : RunIter T ns b nb dead s = some (ex, s1) := by
  rw [RunIter_eq, hs]; simp only [hb]
  cases ex <;> first | exact absurd rfl hne | rfl
/-- a loop over a list: 'J done rest' is the state at a round's head -/
theorem iter_list {α : Type} {J : List α → List α → St} {ex : Ex} {xs : List α} {sE : St} (P : List α → List α → Prop) (hP : P [] xs) (hne : ex ≠ .normal)
    (step : ∀ d x t, d ++ x :: t = xs → P d (x :: t) → ∃ s1, RunC T ns b (J d (x :: t)) = some (.normal, s1) ∧ s1.trim nb dead = some (J (d ++ [x]) t) ∧ P (d ++ [x]) t)
    (last : P xs [] → RunC T ns b (J xs []) = some (ex, sE)) {s : St} (hs : s.trim nb dead = some (J [] xs)) : RunIter T ns b nb dead s = some (ex, sE) := by
  have key : ∀ (t d : List α) (s : St), d ++ t = xs → P d t → s.trim nb dead = some (J d t) → RunIter T ns b nb dead s = some (ex, sE) := by
    intro t
    induction t with
    | nil =>
      intro d s' he hp hs'
      have e : d = xs := by simpa using he
      rw [e] at hp hs'
      exact iter_stop hs' (last hp) hne
    | cons x t ih =>
      intro d s he hp hs
      obtain ⟨s1, h1, h2, h3⟩ := step d x t he hp
      rw [iter_step hs h1]
      exact ih (d ++ [x]) s1 (by simpa using he) h3 h2
  exact key xs [] s rfl hP hs

theorem take_map_len {α β : Type} (f : α → β) (l : List α) : (l.map f).take l.length = l.map f := by
  rw [List.take_of_length_le (by simp)]
theorem take_len' {α : Type} (l : List α) : l.take l.length = l := List.take_length
theorem freshL_map {α : Type} {f : α → V} (h : ∀ a, (f a).fresh = true) (l : List α) : V.freshL (l.map f) = true := by
  induction l <;> simp_all [V.freshL]
theorem eraseL_map {α : Type} {f g : α → V} (h : ∀ a, (f a).erase = g a) (l : List α) : V.eraseL (l.map f) = l.map g := by
  induction l <;> simp_all [V.eraseL]
theorem lt_len (a b : Nat) : ((a : Int) < a + (b + 1)) = True := by simp; omega
theorem wrap_id {n : Int} (h1 : -9223372036854775808 ≤ n) (h2 : n ≤ 9223372036854775807) : IntKind.i64.wrap n = n := IntWalk.i64_in n ⟨h1, h2⟩
theorem wrap_len {a : Nat} (h : a < 9223372036854775807) : IntKind.i64.wrap ((a : Int) + 1) = (a : Int) + 1 := wrap_id (by omega) (by omega)
end Go.Pm

namespace Go.Pm
variable {T : Tab} {ns nb : Nat} {b : HCode} {dead : List Nat}
theorem get_mid {α : Type} {d t xs : List α} {x : α} (h : d ++ x :: t = xs) : xs[d.length]? = some x := by
  subst h; simp
theorem lt_mid {α : Type} {d t xs : List α} {x : α} (h : d ++ x :: t = xs) : d.length < xs.length := by
  subst h; simp
/-- does one answer, each asked with those ahead of it? -/
def anyP {α : Type} (p : List α → α → Bool) : List α → List α → Bool
  | _, [] => false
  | d, x :: t => p d x || anyP p (d ++ [x]) t
theorem anyP_const {α : Type} (p : α → Bool) : ∀ (d xs : List α), anyP (fun _ x => p x) d xs = xs.any p
  | _, [] => rfl
  | d, x :: t => by simp only [anyP, List.any_cons, anyP_const p]
theorem anyP_append {α : Type} (p : List α → α → Bool) : ∀ (d xs ys : List α), anyP p d (xs ++ ys) = (anyP p d xs || anyP p (d ++ xs) ys)
  | d, [], ys => by simp [anyP]
  | d, x :: xs, ys => by simp [anyP, anyP_append p (d ++ [x]) xs ys, Bool.or_assoc]
theorem iter_find {α : Type} {J : List α → List α → St} {ex ex2 : Ex} {xs : List α} {sE : St} {s2 : List α → α → List α → St} (p : List α → α → Bool) (hne : ex ≠ .normal) (hne2 : ex2 ≠ .normal)
    (step : ∀ d x t, d ++ x :: t = xs → p d x = false → anyP p [] d = false → ∃ s1, RunC T ns b (J d (x :: t)) = some (.normal, s1) ∧ s1.trim nb dead = some (J (d ++ [x]) t))
    (stop : ∀ d x t, d ++ x :: t = xs → p d x = true → anyP p [] d = false → RunC T ns b (J d (x :: t)) = some (ex2, s2 d x t))
    (last : anyP p [] xs = false → RunC T ns b (J xs []) = some (ex, sE)) {s : St} (hs : s.trim nb dead = some (J [] xs)) :
    (∃ d x t, d ++ x :: t = xs ∧ anyP p [] d = false ∧ p d x = true ∧ anyP p [] xs = true ∧ RunIter T ns b nb dead s = some (ex2, s2 d x t)) ∨ (anyP p [] xs = false ∧ RunIter T ns b nb dead s = some (ex, sE)) := by
  have key : ∀ (t d : List α) (s : St), d ++ t = xs → anyP p [] d = false → s.trim nb dead = some (J d t) →
      (∃ d x t, d ++ x :: t = xs ∧ anyP p [] d = false ∧ p d x = true ∧ anyP p [] xs = true ∧ RunIter T ns b nb dead s = some (ex2, s2 d x t)) ∨ (anyP p [] xs = false ∧ RunIter T ns b nb dead s = some (ex, sE)) := by
    intro t
    induction t with
    | nil =>
      intro d s' he hd hs'
      have e : d = xs := by simpa using he
      rw [e] at hd hs'
      exact .inr ⟨hd, iter_stop hs' (last hd) hne⟩
    | cons x t ih =>
      intro d s' he hd hs'
      cases hx : p d x with
      | true => exact .inl ⟨d, x, t, he, hd, hx, by rw [← he, anyP_append, List.nil_append]; simp [anyP, hx], iter_stop hs' (stop d x t he hx hd) hne2⟩
      | false =>
        obtain ⟨s1, h1, h2⟩ := step d x t he hx hd
        rw [iter_step hs' h1]
        exact ih (d ++ [x]) s1 (by simpa using he) (by rw [anyP_append]; simp [anyP, hx, hd]) h2
  exact key xs [] s rfl rfl hs
theorem zip_of {α β : Type} : ∀ {a : List α} {c : List β}, a.length = c.length → ∃ ps : List (α × β), a = ps.map (·.1) ∧ c = ps.map (·.2)
  | [], [], _ => ⟨[], rfl, rfl⟩
  | x :: a, y :: c, h => by
    obtain ⟨ps, rfl, rfl⟩ := zip_of (a := a) (c := c) (by simpa using h)
    exact ⟨(x, y) :: ps, rfl, rfl⟩
  | [], _ :: _, h => by simp at h
  | _ :: _, [], h => by simp at h
theorem any_ne {α : Type} [DecidableEq α] : ∀ ps : List (α × α), ps.any (fun q => !decide (q.1 = q.2)) = !decide (ps.map (·.1) = ps.map (·.2))
  | [] => rfl
  | (x, y) :: ps => by
    simp only [List.any_cons, any_ne ps, List.map_cons, List.cons.injEq]
    by_cases h : x = y <;> simp [h]
/-- the place of the first that answers, counted on; -1: none -/
def idx0 {α : Type} (p : α → Bool) : List α → Nat → Int
  | [], _ => -1
  | x :: t, n => if p x = true then n else idx0 p t (n + 1)
theorem idx0_hit {α : Type} {p : α → Bool} : ∀ {d : List α} {x : α} {t : List α} {n : Nat}, d.any p = false → p x = true → idx0 p (d ++ x :: t) n = ((n + d.length : Nat) : Int)
  | [], x, t, n, _, h => by simp [idx0, h]
  | y :: d, x, t, n, hd, h => by
    simp only [List.any_cons, Bool.or_eq_false_iff] at hd
    simp only [List.cons_append, idx0, hd.1, Bool.false_eq_true, if_false]
    rw [idx0_hit hd.2 h]
    simp only [List.length_cons]
    omega
theorem idx0_none {α : Type} {p : α → Bool} : ∀ {xs : List α} {n : Nat}, xs.any p = false → idx0 p xs n = -1
  | [], _, _ => rfl
  | x :: xs, n, h => by
    simp only [List.any_cons, Bool.or_eq_false_iff] at h
    simp only [idx0, h.1, Bool.false_eq_true, if_false]
    exact idx0_none h.2
theorem idx0_iff {α : Type} {p : α → Bool} : ∀ (xs : List α) (n : Nat), (0 ≤ idx0 p xs n) ↔ xs.any p = true
  | [], n => by simp [idx0]
  | x :: xs, n => by
    have ih := idx0_iff (p := p) xs (n + 1)
    unfold idx0
    split
    · rename_i h
      simp [h]
    · rename_i h
      rw [ih]
      simp [h]
theorem idx0_any {α : Type} {p : α → Bool} {xs : List α} {n : Nat} : decide (0 ≤ idx0 p xs n) = xs.any p := by
  have h := idx0_iff (p := p) xs n
  cases hx : xs.any p
  · rw [hx] at h; simp only [decide_eq_false_iff_not, h, Bool.false_eq_true, not_false_eq_true]
  · rw [hx] at h; simp only [decide_eq_true_eq, h]
theorem any_of_anyP {α : Type} {p : α → Bool} {xs : List α} {b : Bool} (h : anyP (fun _ x => p x) [] xs = b) : xs.any p = b := by rw [← h, anyP_const]
end Go.Pm

namespace Go.Pm
/-! a way through a text: what branches, calls and looks answer stands on a tape; what must hold for it is told -/
inductive Ans where
  | b (t : Bool)
  | v (r : V)
  | x (v : V)
  | l (ex : Ex) (s : St)
  | ok

abbrev Kn := List Bool
def litO (kn : Kn) : Opnd → Bool
  | .reg j => kn.getD j false
  | .con _ => true

/-- a branch on what an operand holds -/
def branchA (s : St) (kn : Kn) (tp : List Ans) (c : Opnd) (k : Bool → St → Kn → List Ans → Prop) : Prop :=
  match s.rd c with
  | some (.bool t) =>
    match litO kn c, c with
    | true, _ => match t with
      | true => k true s kn tp
      | false => k false s kn tp
    | false, .reg j => match tp with
      | .b t' :: tp' => t = t' ∧ k t' { s with vars := s.vars.set j (.bool t') } (kn.set j true) tp'
      | _ => False
    | false, _ => False
  | _ => False

def stepA (T : Tab) (s : St) (kn : Kn) (tp : List Ans) (h : HOp) (k : V → Bool → St → Kn → List Ans → Prop) : Prop :=
  match h with
  | .mov x => match s.rd x with
    | some v => k v (litO kn x) s kn tp
    | none => False
  | .un op x => match s.step (Run T) (.un op x) with
    | some (v, s1) => k v (litO kn x) s1 kn tp
    | none => False
  | .pick c a b => branchA s kn tp c fun t s kn tp => match s.rd (if t then a else b) with
    | some v => k v (litO kn (if t then a else b)) s kn tp
    | none => False
  | .idx e p i => match s.rd p, s.rd i with
    | some (.imm e' xs), some (.int _ n) =>
      (match e' == e, tp with
       | true, .x y :: tp' => (0 ≤ n ∧ xs[n.toNat]? = some y) ∧ k (.eptr y.cells 0) false s kn tp'
       | _, _ => False)
    | _, _ => False
  | .sidx x i => match s.rd x, s.rd i with
    | some (.str b), some (.int _ n) =>
      (match tp with
       | .x (.int .u8 y) :: tp' => (0 ≤ n ∧ ((b.data.toList[n.toNat]?).map fun u => ((u.toNat : Nat) : Int)) = some y) ∧ k (.int .u8 y) false s kn tp'
       | _ => False)
    | _, _ => False
  | .slice e x lo hi => match s.rd x, (match lo with | none => some 0 | some o => (s.rd o).bind intV) with
    | some (.imm e' xs), some l => match (match hi with | none => some (xs.length : Int) | some o => (s.rd o).bind intV) with
      | some h => (match e' == e with
        | true => (0 ≤ l ∧ l ≤ h ∧ h ≤ xs.length) ∧ k (.imm e ((xs.take h.toNat).drop l.toNat)) false s kn tp
        | false => False)
      | none => False
    | _, _ => False
  | .call f _ frz args => match frz, s.rds args with
    | false, some vs => match s.viewsAll vs with
      | some xs => match tp with
        | .v r :: tp' => Run T f xs [] = some (r, []) ∧ (match r.fresh with | true => k r false s kn tp' | false => False)
        | _ => False
      | none => False
    | _, _ => False
  | .dyn x args => match s.rd x, s.rds args with
    | some fv, some vs => match s.view fv, s.viewsAll vs with
      | some (.clo f conts), some xs => match tp with
        | .v r :: tp' => Run T f (xs ++ conts.map fun c => .eptr c.cells 0) [] = some (r, []) ∧ conts.all V.okE = true ∧ (match r.fresh with | true => k r false s kn tp' | false => False)
        | _ => False
      | _, _ => False
    | _, _ => False
  | h => match s.step (Run T) h with
    | some (v, s1) => k v false s1 kn tp
    | none => False
/-- where a result goes -/
def destA (s : St) (ns : Nat) (kn : Kn) (d : Option Nat) (v : V) (l : Bool) (k : St → Kn → Prop) : Prop :=
  match s.dest ns d v with
  | some s1 => k s1 (match d with | none => kn ++ [l] | some j => (kn.set j l) ++ [false])
  | none => False

def opsA (T : Tab) (ns : Nat) : List (HOp × Option Nat × Option (Nat × Bool)) → St → Kn → List Ans → (St → Kn → List Ans → Prop) → Prop
  | [], s, kn, tp, k => k s kn tp
  | (o, d, none) :: os, s, kn, tp, k => stepA T s kn tp o fun v l s kn tp => destA s ns kn d v l fun s kn => opsA T ns os s kn tp k
  | (o, d, some (j, want)) :: os, s, kn, tp, k => branchA s kn tp (.reg j) fun t s kn tp =>
    match t == want with
    | true => stepA T s kn tp o fun v l s kn tp => destA s ns kn d v l fun s kn => opsA T ns os s kn tp k
    | false => match d with
      | none => opsA T ns os { s with vars := s.vars ++ [.gone] } (kn ++ [false]) tp k
      | some _ => False

theorem borrowAll_bool {j : Nat} {u : V} {t : Bool} (h : V.borrowAll j u = .bool t) : u = .bool t := by
  cases u <;> simp [V.borrowAll, V.borrow] at h <;> simp [h]
theorem branchA_ok {s : St} {kn tp c k} (h : branchA s kn tp c k) : ∃ t kn' tp', s.rd c = some (.bool t) ∧ k t s kn' tp' := by
  unfold branchA at h
  split at h
  · rename_i t hc
    split at h
    · split at h
      · exact ⟨true, kn, tp, hc, h⟩
      · exact ⟨false, kn, tp, hc, h⟩
    · rename_i j hl
      split at h
      · rename_i t' tp'
        obtain ⟨rfl, h⟩ := h
        have hv : ∃ u, s.vars[j]? = some u ∧ V.borrowAll j u = .bool t := by
          simp only [St.rd, Option.map_eq_some_iff] at hc
          obtain ⟨u, h1, h2⟩ := hc
          exact ⟨u, h1, h2⟩
        obtain ⟨u, h1, h2⟩ := hv
        have hu : u = .bool t := borrowAll_bool h2
        subst hu
        have hs : ({ s with vars := s.vars.set j (.bool t) } : St) = s := by
          obtain ⟨hl, he⟩ := List.getElem?_eq_some_iff.1 h1
          have : s.vars.set j (.bool t) = s.vars := by rw [← he]; exact List.set_getElem_self hl
          rw [this]
        rw [hs] at h
        exact ⟨t, _, _, hc, h⟩
      · exact h.elim
    · exact h.elim
  · exact h.elim

theorem stepA_ok {T : Tab} {s : St} {kn tp h k} (hh : stepA T s kn tp h k) : ∃ v l s1 kn1 tp1, s.step (Run T) h = some (v, s1) ∧ k v l s1 kn1 tp1 := by
  cases h
  case mov x =>
    simp only [stepA] at hh
    split at hh
    · rename_i v hv
      exact ⟨v, _, s, _, _, by simp only [St.step, hv, Option.map_some], hh⟩
    · exact hh.elim
  case un op x =>
    simp only [stepA] at hh
    split at hh
    · rename_i v s1 hv
      exact ⟨v, _, s1, _, _, hv, hh⟩
    · exact hh.elim
  case pick c a b =>
    simp only [stepA] at hh
    obtain ⟨t, kn', tp', h1, h2⟩ := branchA_ok hh
    split at h2
    · rename_i v hv
      exact ⟨v, _, s, _, _, by simp only [St.step, h1, hv, Option.map_some], h2⟩
    · exact h2.elim
  case idx e p i =>
    simp only [stepA] at hh
    split at hh
    · rename_i e' xs kk n h1 h2
      split at hh
      · rename_i e1
        have e1 : e' = e := by simpa using e1
        subst e1
        obtain ⟨⟨h3, h4⟩, hh⟩ := hh
        exact ⟨_, _, s, _, _, by simp only [St.step, h1, h2, h4, Option.map_some]; rw [if_pos ⟨trivial, h3⟩], hh⟩
      · exact hh.elim
    · exact hh.elim
  case sidx x i =>
    simp only [stepA] at hh
    split at hh
    · rename_i b kk n h1 h2
      split at hh
      · rename_i y tp'
        obtain ⟨⟨h3, h4⟩, hh⟩ := hh
        simp only [Option.map_eq_some_iff] at h4
        obtain ⟨u, h5, h6⟩ := h4
        exact ⟨_, _, s, _, _, by simp only [St.step, h1, h2, h5, if_pos h3, Option.map_some, byteV, h6], hh⟩
      · exact hh.elim
    · exact hh.elim
  case slice e x lo hi =>
    simp only [stepA] at hh
    split at hh
    · rename_i e' xs l h1 h2
      split at hh
      · rename_i hv h3
        split at hh
        rotate_left
        · exact hh.elim
        rename_i e1
        have e1 : e' = e := by simpa using e1
        subst e1
        obtain ⟨h4, hh⟩ := hh
        refine ⟨_, _, s, _, _, ?_, hh⟩
        cases lo <;> cases hi <;> simp_all [St.step, lenV]
      · exact hh.elim
    · exact hh.elim
  case call f ms frz args =>
    simp only [stepA] at hh
    split at hh
    · rename_i vs h1
      split at hh
      · rename_i xs h2
        split at hh
        · rename_i r tp'
          obtain ⟨h3, hh⟩ := hh
          split at hh
          · rename_i hf
            exact ⟨r, _, s, _, _, by simp [St.step, h1, h2, h3, hf], hh⟩
          · exact hh.elim
        · exact hh.elim
      · exact hh.elim
    · exact hh.elim
  case dyn x args =>
    simp only [stepA] at hh
    split at hh
    · rename_i fv vs h1 h2
      split at hh
      · rename_i f conts xs h3 h4
        split at hh
        · rename_i r tp'
          obtain ⟨h5, h6, hh⟩ := hh
          split at hh
          · rename_i hf
            exact ⟨r, _, s, _, _, by simp only [St.step, h1, h2, h3, h4, h5]; rw [if_pos h6]; simp [hf], hh⟩
          · exact hh.elim
        · exact hh.elim
      · exact hh.elim
    · exact hh.elim
  all_goals
    simp only [stepA] at hh
    split at hh
    · rename_i v s1 hv
      exact ⟨v, _, s1, _, _, hv, hh⟩
    · exact hh.elim

theorem destA_ok {s : St} {ns kn d v l k} (h : destA s ns kn d v l k) : ∃ s1 kn1, s.dest ns d v = some s1 ∧ k s1 kn1 := by
  unfold destA at h
  split at h
  · rename_i s1 h1; exact ⟨s1, _, h1, h⟩
  · exact h.elim

theorem opsA_ok {T : Tab} {ns : Nat} : ∀ {os s kn tp k}, opsA T ns os s kn tp k → ∃ s1 kn1 tp1, runOps (Run T) ns os s = some s1 ∧ k s1 kn1 tp1
  | [], s, kn, tp, k, h => ⟨s, kn, tp, rfl, h⟩
  | (o, d, none) :: os, s, kn, tp, k, h => by
    simp only [opsA] at h
    obtain ⟨v, l, s1, kn1, tp1, h1, h2⟩ := stepA_ok h
    obtain ⟨s2, kn2, h3, h4⟩ := destA_ok h2
    obtain ⟨s3, kn3, tp3, h5, h6⟩ := opsA_ok h4
    exact ⟨s3, kn3, tp3, by simp only [runOps, St.wanted, h1, h3, h5], h6⟩
  | (o, d, some (j, want)) :: os, s, kn, tp, k, h => by
    simp only [opsA] at h
    obtain ⟨t, kn', tp', ht, h⟩ := branchA_ok h
    have hv : s.vars[j]? = some (.bool t) := by
      simp only [St.rd, Option.map_eq_some_iff] at ht
      obtain ⟨u, h1, h2⟩ := ht
      have hu : u = .bool t := borrowAll_bool h2
      rw [h1, hu]
    split at h
    · rename_i hw
      obtain ⟨v, l, s1, kn1, tp1, h1, h2⟩ := stepA_ok h
      obtain ⟨s2, kn2, h3, h4⟩ := destA_ok h2
      obtain ⟨s3, kn3, tp3, h5, h6⟩ := opsA_ok h4
      exact ⟨s3, kn3, tp3, by simp only [runOps, St.wanted, hv, hw, h1, h3, h5], h6⟩
    · rename_i hw
      split at h
      · obtain ⟨s3, kn3, tp3, h5, h6⟩ := opsA_ok h
        exact ⟨s3, kn3, tp3, by simp only [runOps, St.wanted, hv, hw, if_true, h5], h6⟩
      · exact h.elim
end Go.Pm

namespace Go.Pm
variable {T : Tab} {ns : Nat}

def coverA (s : St) (ns : Nat) (keep : List Bool) : Bool := keep.length == (s.vars.drop ns).length && (List.zipWith (fun b v => b || V.isGone v) keep (s.vars.drop ns)).all id
theorem cover_only {s : St} {keep : List Bool} (h : coverA s ns keep = true) : s.only ns keep = s := by
  unfold coverA at h
  simp only [Bool.and_eq_true, beq_iff_eq] at h
  have key : ∀ (ks : List Bool) (vs : List V), ks.length = vs.length → (List.zipWith (fun b v => b || V.isGone v) ks vs).all id = true → List.zipWith (fun (b : Bool) v => if b then v else .gone) ks vs = vs := by
    intro ks
    induction ks with
    | nil => intro vs hl _; cases vs with | nil => rfl | cons => simp at hl
    | cons k ks ih =>
      intro vs hl ha
      cases vs with
      | nil => simp at hl
      | cons v vs =>
        simp only [List.zipWith_cons_cons, List.all_cons, Bool.and_eq_true, id] at ha ⊢
        rw [ih vs (by simpa using hl) ha.2]
        cases k with
        | true => rfl
        | false =>
          have : v = .gone := by
            have := ha.1
            cases v <;> simp [V.isGone] at this ⊢
          rw [this]; rfl
  have e := key keep (s.vars.drop ns) h.1 h.2
  unfold St.only
  rw [e, List.take_append_drop]

theorem only_bool {s : St} {keep : List Bool} {j : Nat} {t : Bool} (h : (s.only ns keep).vars[j]? = some (.bool t)) : s.vars[j]? = some (.bool t) := by
  unfold St.only at h
  simp only at h
  by_cases hj : j < (s.vars.take ns).length
  · rw [List.getElem?_append_left hj, List.getElem?_take] at h
    split at h
    · exact h
    · cases h
  · rw [List.getElem?_append_right (by omega)] at h
    simp only [List.getElem?_zipWith] at h
    split at h
    · rename_i b v h1 h2
      cases b with
      | false => cases h
      | true =>
        simp only [if_true, Option.some.injEq] at h
        subst h
        have e : (s.vars.take ns).length = ns ∨ s.vars.drop ns = [] := by
          simp only [List.length_take]
          by_cases hn : ns ≤ s.vars.length
          · left; omega
          · right; exact List.drop_eq_nil_of_le (by omega)
        rcases e with e | e
        · rw [e] at h2
          have hj' : ns ≤ j := by omega
          rw [List.getElem?_drop] at h2
          rw [← h2]; congr 1; omega
        · rw [e] at h2; cases h2
    · cases h

/-- the guard of an item, read where only some stand -/
def guardA (s : St) (ns : Nat) (keep : List Bool) (kn : Kn) (tp : List Ans) (j : Nat) (k : Bool → St → Kn → List Ans → Prop) : Prop :=
  match (s.only ns keep).vars[j]? with
  | some (.bool t) =>
    match kn.getD j false with
    | true => match t with
      | true => k true s kn tp
      | false => k false s kn tp
    | false => match tp with
      | .b t' :: tp' => t = t' ∧ k t' { s with vars := s.vars.set j (.bool t') } (kn.set j true) tp'
      | _ => False
  | _ => False
theorem guardA_ok {s : St} {keep kn tp j k} (h : guardA s ns keep kn tp j k) : ∃ t kn' tp', (s.only ns keep).vars[j]? = some (.bool t) ∧ k t s kn' tp' := by
  unfold guardA at h
  split at h
  · rename_i t hc
    split at h
    · split at h
      · exact ⟨true, kn, tp, hc, h⟩
      · exact ⟨false, kn, tp, hc, h⟩
    · split at h
      · rename_i t' tp'
        obtain ⟨rfl, h⟩ := h
        have h1 := only_bool hc
        have hs : ({ s with vars := s.vars.set j (.bool t) } : St) = s := by
          obtain ⟨hl, he⟩ := List.getElem?_eq_some_iff.1 h1
          have : s.vars.set j (.bool t) = s.vars := by rw [← he]; exact List.set_getElem_self hl
          rw [this]
        rw [hs] at h
        exact ⟨t, _, _, hc, h⟩
      · exact h.elim
  · exact h.elim

/-- a pure operation where only some stand -/
def peekA (T : Tab) (s : St) (kn : Kn) (tp : List Ans) (h : HOp) (k : V → Bool → List Ans → Prop) : Prop :=
  match h.pure && s.listOk h with
  | true => stepA T s kn tp h fun v l _ _ tp => match v.whole with
    | true => k v l tp
    | false => False
  | false => False
theorem peekA_ok {s : St} {kn tp h k} (hh : peekA T s kn tp h k) : ∃ v l tp', s.peek (Run T) h = some v ∧ k v l tp' := by
  unfold peekA at hh
  split at hh
  · rename_i hp
    simp only [Bool.and_eq_true] at hp
    obtain ⟨v, l, s1, kn1, tp1, h1, h2⟩ := stepA_ok hh
    split at h2
    · rename_i hw
      exact ⟨v, l, tp1, by unfold St.peek; rw [if_pos hp.1, hp.2, h1]; simp [hw], h2⟩
    · exact h2.elim
  · exact hh.elim

def drawA (T : Tab) (ns : Nat) : List Item → List Item → St → Kn → List Ans → (St → Kn → List Ans → Prop) → Prop
  | _, [], s, kn, tp, k => k s kn tp
  | dn, it :: its, s, kn, tp, k =>
    match it.st with
    | true =>
      match it.g, coverA s ns it.keep && dn.all (fun q => it.keep.getD q.i false) with
      | none, true =>
        match it.h.pure with
        | true => peekA T s kn tp it.h fun v l tp => match s.destD ns (ns + it.i) it.d v with
          | some s2 => drawA T ns dn its s2 (kn.set (it.d.getD (ns + it.i)) l) tp k
          | none => False
        | false => stepA T s kn tp it.h fun v l s1 kn tp => match s1.destD ns (ns + it.i) it.d v with
          | some s2 => drawA T ns dn its s2 (kn.set (it.d.getD (ns + it.i)) l) tp k
          | none => False
      | _, _ => False
    | false =>
      match it.d with
      | none =>
        match it.g with
        | none => peekA T (s.only ns it.keep) kn tp it.h fun v l tp => drawA T ns (it :: dn) its { s with vars := s.vars.set (ns + it.i) v } (kn.set (ns + it.i) l) tp k
        | some (j, want) => guardA s ns it.keep kn tp j fun t s kn tp =>
          match t == want with
          | true => peekA T (s.only ns it.keep) kn tp it.h fun v l tp => drawA T ns (it :: dn) its { s with vars := s.vars.set (ns + it.i) v } (kn.set (ns + it.i) l) tp k
          | false => drawA T ns (it :: dn) its { s with vars := s.vars.set (ns + it.i) .gone } kn tp k
      | some _ => False

theorem chk_cover {R : Oracle} {keep : List Bool} {s s2 : St} : ∀ {dn : List Item}, dn.all (fun q => keep.getD q.i false) = true → chkD R ns keep s s2 dn
  | [], _ => trivial
  | q :: dn, h => by
    simp only [List.all_cons, Bool.and_eq_true] at h
    exact ⟨fun hk => absurd (h.1.symm.trans hk) (by simp), chk_cover h.2⟩

theorem drawA_ok : ∀ {its dn s kn tp k}, drawA T ns dn its s kn tp k → ∃ s1 kn1 tp1, runD (Run T) ns dn its s = some s1 ∧ k s1 kn1 tp1
  | [], dn, s, kn, tp, k, h => ⟨s, kn, tp, rfl, h⟩
  | it :: its, dn, s, kn, tp, k, h => by
    simp only [drawA] at h
    split at h
    · rename_i hst
      split at h
      · rename_i hg hc
        simp only [Bool.and_eq_true] at hc
        have hon := cover_only hc.1
        split at h
        · rename_i hp
          obtain ⟨v, l, tp', h1, h2⟩ := peekA_ok h
          split at h2
          · rename_i s2 h3
            obtain ⟨s3, kn3, tp3, h5, h6⟩ := drawA_ok h2
            refine ⟨s3, kn3, tp3, ?_, h6⟩
            simp only [runD, hst, if_true, hg, Option.isNone_none, hon, St.stepD, hp, h1, Option.map_some, h3]
            rw [if_pos (chk_cover hc.2)]
            exact h5
          · exact h2.elim
        · rename_i hp
          obtain ⟨v, l, s1, kn1, tp', h1, h2⟩ := stepA_ok h
          split at h2
          · rename_i s2 h3
            obtain ⟨s3, kn3, tp3, h5, h6⟩ := drawA_ok h2
            refine ⟨s3, kn3, tp3, ?_, h6⟩
            simp only [runD, hst, if_true, hg, Option.isNone_none, hon, St.stepD, hp, h1, Bool.false_eq_true, if_false, h3]
            rw [if_pos (chk_cover hc.2)]
            exact h5
          · exact h2.elim
      · exact h.elim
    · rename_i hst
      split at h
      · rename_i hd
        split at h
        · rename_i hg
          obtain ⟨v, l, tp', h1, h2⟩ := peekA_ok h
          obtain ⟨s3, kn3, tp3, h5, h6⟩ := drawA_ok h2
          refine ⟨s3, kn3, tp3, ?_, h6⟩
          simp only [runD, hst, Bool.false_eq_true, if_false, evalP, hg, St.wanted, h1, hd, if_true]
          exact h5
        · rename_i j want hg
          obtain ⟨t, kn', tp', ht, h⟩ := guardA_ok h
          split at h
          · rename_i hw
            obtain ⟨v, l, tp', h1, h2⟩ := peekA_ok h
            obtain ⟨s3, kn3, tp3, h5, h6⟩ := drawA_ok h2
            refine ⟨s3, kn3, tp3, ?_, h6⟩
            simp only [runD, hst, Bool.false_eq_true, if_false, evalP, hg, St.wanted, ht, hw, h1, hd, if_true]
            exact h5
          · rename_i hw
            obtain ⟨s3, kn3, tp3, h5, h6⟩ := drawA_ok h
            refine ⟨s3, kn3, tp3, ?_, h6⟩
            simp only [runD, hst, Bool.false_eq_true, if_false, evalP, hg, St.wanted, ht, hw, hd, if_true]
            exact h5
      · exact h.elim

def codeA (T : Tab) (ns : Nat) : HCode → St → Kn → List Ans → (Ex → St → Kn → List Ans → Prop) → Prop
  | .skip, s, kn, tp, k => k .normal s kn tp
  | .seq a b, s, kn, tp, k => codeA T ns a s kn tp fun ex s kn tp => match ex with
    | .normal => codeA T ns b s kn tp k
    | .exit id => k (.exit id) s kn tp
    | .ret => k .ret s kn tp
  | .region ops, s, kn, tp, k => opsA T ns ops s kn tp fun s kn tp => k .normal (s.fin ns) (kn.take ns) tp
  | .draw m its, s, kn, tp, k => drawA T ns [] its { s with vars := s.vars ++ List.replicate m .gone } (kn ++ List.replicate m false) tp fun s kn tp => k .normal (s.fin ns) (kn.take ns) tp
  | .cond c a b, s, kn, tp, k => branchA s kn tp c fun t s kn tp => match t with
    | true => codeA T ns a s kn tp k
    | false => codeA T ns b s kn tp k
  | .block id b, s, kn, tp, k => codeA T ns b s kn tp fun ex s kn tp => match ex with
    | .normal => k .normal s kn tp
    | .exit id' => (match id' == id with
      | true => k .normal s kn tp
      | false => k (.exit id') s kn tp)
    | .ret => k .ret s kn tp
  | .exit id, s, kn, tp, k => k (.exit id) s kn tp
  | .loop dead b, s, _, tp, k => match tp with
    | .l ex s' :: tp' => RunIter T ns b s.boxes.length dead s = some (ex, s') ∧ k ex s' (List.replicate s'.vars.length false) tp'
    | _ => False
  | .ret, s, kn, tp, k => k .ret s kn tp

theorem codeA_ok : ∀ {c s kn tp k}, codeA T ns c s kn tp k → ∃ ex s1 kn1 tp1, RunC T ns c s = some (ex, s1) ∧ k ex s1 kn1 tp1
  | .skip, s, kn, tp, k, h => ⟨_, _, _, _, RunC_skip s, h⟩
  | .exit id, s, kn, tp, k, h => ⟨_, _, _, _, RunC_exit id s, h⟩
  | .ret, s, kn, tp, k, h => ⟨_, _, _, _, RunC_ret s, h⟩
  | .seq a b, s, kn, tp, k, h => by
    simp only [codeA] at h
    obtain ⟨ex, s1, kn1, tp1, h1, h2⟩ := codeA_ok h
    rw [RunC_seq, h1]
    cases ex with
    | normal => exact codeA_ok h2
    | exit id => exact ⟨_, _, _, _, rfl, h2⟩
    | ret => exact ⟨_, _, _, _, rfl, h2⟩
  | .region ops, s, kn, tp, k, h => by
    simp only [codeA] at h
    obtain ⟨s1, kn1, tp1, h1, h2⟩ := opsA_ok h
    exact ⟨_, _, _, _, by rw [RunC_region, h1]; rfl, h2⟩
  | .draw m its, s, kn, tp, k, h => by
    simp only [codeA] at h
    obtain ⟨s1, kn1, tp1, h1, h2⟩ := drawA_ok h
    exact ⟨_, _, _, _, by rw [RunC_draw, h1]; rfl, h2⟩
  | .cond c a b, s, kn, tp, k, h => by
    simp only [codeA] at h
    obtain ⟨t, kn1, tp1, h1, h2⟩ := branchA_ok h
    rw [RunC_cond, h1]
    cases t with
    | true => simpa using codeA_ok h2
    | false => simpa using codeA_ok h2
  | .block id b, s, kn, tp, k, h => by
    simp only [codeA] at h
    obtain ⟨ex, s1, kn1, tp1, h1, h2⟩ := codeA_ok h
    rw [RunC_block, h1]
    cases ex with
    | normal => exact ⟨_, _, _, _, rfl, h2⟩
    | ret => exact ⟨_, _, _, _, rfl, h2⟩
    | exit id' =>
      simp only at h2 ⊢
      split at h2
      · rename_i e
        have e : id' = id := by simpa using e
        rw [if_pos e]
        exact ⟨_, _, _, _, rfl, h2⟩
      · rename_i e
        have e : ¬ id' = id := by simpa using e
        rw [if_neg e]
        exact ⟨_, _, _, _, rfl, h2⟩
  | .loop dead b, s, kn, tp, k, h => by
    simp only [codeA] at h
    split at h
    · exact ⟨_, _, _, _, h.1, h.2⟩
    · exact h.elim

def funcA (T : Tab) (h : HFunc) (args : List V) (tape : List Ans) (r : V) : Prop :=
  codeA T h.ns h.body { vars := args ++ List.replicate (h.ns - h.np) .gone, boxes := [] } (List.replicate h.ns false) tape fun ex s _ _ => match ex with
    | .exit _ => False
    | .normal => s.finish h 0 = some (r, [])
    | .ret => s.finish h 0 = some (r, [])

theorem path {f : FuncId} {h : HFunc} {args : List V} {r : V} {Q : Prop} (hT : T f = some (.go h)) (tape : List Ans) (hl : args.length = h.np) (hq : some (r, ([] : List (List V))) = some (r, []) → Q) (he : funcA T h args tape r = Q) : Run T f args [] = some (r, []) := by
  have hq' : funcA T h args tape r := by rw [he]; exact hq rfl
  unfold funcA at hq'
  obtain ⟨ex, s1, kn1, tp1, h1, h2⟩ := codeA_ok hq'
  rw [Run_go hT _ _ hl, h1]
  cases ex with
  | normal => exact h2
  | ret => exact h2
  | exit id => exact h2.elim

/-- a piece of a text, to where it leads -/
theorem pathB {c : HCode} {s s1 : St} {ex : Ex} {Q : Prop} (tape : List Ans) (hq : (ex, s1) = (ex, s1) → Q) (he : codeA T ns c s (List.replicate s.vars.length false) tape (fun ex' s' _ _ => (ex', s') = (ex, s1)) = Q) : RunC T ns c s = some (ex, s1) := by
  have hq' : codeA T ns c s (List.replicate s.vars.length false) tape (fun ex' s' _ _ => (ex', s') = (ex, s1)) := by rw [he]; exact hq rfl
  obtain ⟨ex', s', _, _, h1, h2⟩ := codeA_ok hq'
  cases h2
  exact h1
/-- a round, to the next round's head -/
theorem pathS {c : HCode} {s s1 : St} {nb : Nat} {dead : List Nat} {Q : Prop} (tape : List Ans) (hq : (Ex.normal, some s1) = (Ex.normal, some s1) → Q) (he : codeA T ns c s (List.replicate s.vars.length false) tape (fun ex' s' _ _ => (ex', s'.trim nb dead) = (.normal, some s1)) = Q) :
    ∃ s0, RunC T ns c s = some (.normal, s0) ∧ s0.trim nb dead = some s1 := by
  have hq' : codeA T ns c s (List.replicate s.vars.length false) tape (fun ex' s' _ _ => (ex', s'.trim nb dead) = (.normal, some s1)) := by rw [he]; exact hq rfl
  obtain ⟨ex', s', _, _, h1, h2⟩ := codeA_ok hq'
  rw [Prod.mk.injEq] at h2
  rw [h2.1] at h1
  exact ⟨s', h1, h2.2⟩
/-- the same, where what it leads to is told by one of the facts -/
theorem pathF {f : FuncId} {h : HFunc} {args : List V} {r : V} {Q : Prop} (hT : T f = some (.go h)) (tape : List Ans) (hl : args.length = h.np) (hq : Q) (he : funcA T h args tape r = Q) : Run T f args [] = some (r, []) :=
  path hT tape hl (fun _ => hq) he
/-- told otherwise -/
theorem pathE {T : Tab} {f : FuncId} {args : List V} {r' r : V} (h : r' = r) (hr : Run T f args [] = some (r', [])) : Run T f args [] = some (r, []) := by rw [← h]; exact hr
end Go.Pm

namespace Go.Pm
variable {T : Tab} {ns nb : Nat} {b : HCode} {dead : List Nat}
theorem ltm {α β : Type} (f : α → β) {d t xs : List α} {x : α} (he : d ++ x :: t = xs) : decide (((d.length : Nat) : Int) < (((xs.map f).length : Nat) : Int)) = true := by
  subst he; simp; omega
theorem ltx {α β : Type} (f : α → β) (xs : List α) : decide (((xs.length : Nat) : Int) < (((xs.map f).length : Nat) : Int)) = false := by simp
theorem ats {α β : Type} (f : α → β) {d t xs : List α} {x : α} (he : d ++ x :: t = xs) : (0 : Int) ≤ ((d.length : Nat) : Int) ∧ (xs.map f)[(((d.length : Nat) : Int)).toNat]? = some (f x) := by
  subst he; simp
/-- a loop over a list, counted from 0 -/
theorem forList {α : Type} {J : Int → List α → List α → St} {ex : Ex} {xs : List α} {sE : St} (hlen : xs.length ≤ 9223372036854775806) (hne : ex ≠ .normal)
    (step : ∀ d x t, d ++ x :: t = xs → ∃ s1, RunC T ns b (J ((d.length : Nat) : Int) d (x :: t)) = some (.normal, s1) ∧ s1.trim nb dead = some (J (IntKind.i64.wrap (((d.length : Nat) : Int) + 1)) (d ++ [x]) t))
    (last : RunC T ns b (J ((xs.length : Nat) : Int) xs []) = some (ex, sE)) {s : St} (hs : s.trim nb dead = some (J 0 [] xs)) : RunIter T ns b nb dead s = some (ex, sE) := by
  refine iter_list (J := fun d t => J ((d.length : Nat) : Int) d t) (fun _ _ => True) trivial hne (fun d x t he _ => ?_) (fun _ => last) hs
  obtain ⟨s1, h1, h2⟩ := step d x t he
  have hl := lt_mid he
  refine ⟨s1, h1, ?_, trivial⟩
  rw [h2, wrap_len (by omega)]
  simp
/-- a loop that seeks in a list, counted from 0 -/
theorem forFind {α : Type} {J : Int → List α → List α → St} {ex ex2 : Ex} {xs : List α} {sE : St} {s2 : List α → α → List α → St} (p : List α → α → Bool) (hlen : xs.length ≤ 9223372036854775806) (hne : ex ≠ .normal) (hne2 : ex2 ≠ .normal)
    (step : ∀ d x t, d ++ x :: t = xs → p d x = false → ∃ s1, RunC T ns b (J ((d.length : Nat) : Int) d (x :: t)) = some (.normal, s1) ∧ s1.trim nb dead = some (J (IntKind.i64.wrap (((d.length : Nat) : Int) + 1)) (d ++ [x]) t))
    (stop : ∀ d x t, d ++ x :: t = xs → p d x = true → RunC T ns b (J ((d.length : Nat) : Int) d (x :: t)) = some (ex2, s2 d x t))
    (last : RunC T ns b (J ((xs.length : Nat) : Int) xs []) = some (ex, sE)) {s : St} (hs : s.trim nb dead = some (J 0 [] xs)) :
    (∃ d x t, d ++ x :: t = xs ∧ anyP p [] d = false ∧ p d x = true ∧ anyP p [] xs = true ∧ RunIter T ns b nb dead s = some (ex2, s2 d x t)) ∨ (anyP p [] xs = false ∧ RunIter T ns b nb dead s = some (ex, sE)) := by
  refine iter_find (J := fun d t => J ((d.length : Nat) : Int) d t) p hne hne2 (fun d x t he hp _ => ?_) (fun d x t he hp _ => stop d x t he hp) (fun _ => last) hs
  obtain ⟨s1, h1, h2⟩ := step d x t he hp
  have hl := lt_mid he
  refine ⟨s1, h1, ?_⟩
  rw [h2, wrap_len (by omega)]
  simp
/-- a loop that seeks in a list, counted from 0; of where it stops only this is told: 'G' -/
theorem forSeek {α : Type} {J : Int → List α → List α → St} {ex ex2 : Ex} {xs : List α} {sE : St} (G : St → Prop) (p : List α → α → Bool) (hlen : xs.length ≤ 9223372036854775806) (hne : ex ≠ .normal) (hne2 : ex2 ≠ .normal)
    (step : ∀ d x t, d ++ x :: t = xs → p d x = false → ∃ s1, RunC T ns b (J ((d.length : Nat) : Int) d (x :: t)) = some (.normal, s1) ∧ s1.trim nb dead = some (J (IntKind.i64.wrap (((d.length : Nat) : Int) + 1)) (d ++ [x]) t))
    (stop : ∀ d x t, d ++ x :: t = xs → p d x = true → anyP p [] d = false → ∃ s2, RunC T ns b (J ((d.length : Nat) : Int) d (x :: t)) = some (ex2, s2) ∧ G s2)
    (last : RunC T ns b (J ((xs.length : Nat) : Int) xs []) = some (ex, sE)) {s : St} (hs : s.trim nb dead = some (J 0 [] xs)) :
    (anyP p [] xs = true ∧ ∃ s2, RunIter T ns b nb dead s = some (ex2, s2) ∧ G s2) ∨ (anyP p [] xs = false ∧ RunIter T ns b nb dead s = some (ex, sE)) := by
  have key : ∀ (t d : List α) (s : St), d ++ t = xs → anyP p [] d = false → s.trim nb dead = some (J ((d.length : Nat) : Int) d t) →
      (anyP p [] xs = true ∧ ∃ s2, RunIter T ns b nb dead s = some (ex2, s2) ∧ G s2) ∨ (anyP p [] xs = false ∧ RunIter T ns b nb dead s = some (ex, sE)) := by
    intro t
    induction t with
    | nil =>
      intro d s' he hd hs'
      have e : d = xs := by simpa using he
      rw [e] at hd hs'
      exact .inr ⟨hd, iter_stop hs' last hne⟩
    | cons x t ih =>
      intro d s' he hd hs'
      cases hx : p d x with
      | true =>
        obtain ⟨s2, h1, h2⟩ := stop d x t he hx hd
        exact .inl ⟨by rw [← he, anyP_append, List.nil_append]; simp [anyP, hx], s2, iter_stop hs' h1 hne2, h2⟩
      | false =>
        obtain ⟨s1, h1, h2⟩ := step d x t he hx
        have hl := lt_mid he
        rw [wrap_len (by omega)] at h2
        rw [iter_step hs' h1]
        exact ih (d ++ [x]) s1 (by simpa using he) (by rw [anyP_append]; simp [anyP, hx, hd]) (by simpa using h2)
  exact key xs [] s rfl rfl (by simpa using hs)
theorem zip_mid {α β : Type} {a : List α} {c : List β} {d t : List (α × β)} {x : α × β} (he : d ++ x :: t = a.zip c) : a[d.length]? = some x.1 ∧ c[d.length]? = some x.2 := by
  have h := get_mid he
  rw [List.getElem?_zip_eq_some] at h
  exact h
theorem lti {α : Type} {n : Nat} {xs : List α} {x : α} {β : Type} (f : α → β) (h : xs[n]? = some x) : decide (((n : Nat) : Int) < (((xs.map f).length : Nat) : Int)) = true := by
  obtain ⟨h1, _⟩ := List.getElem?_eq_some_iff.1 h
  simp; omega
theorem atsi {α : Type} {n : Nat} {xs : List α} {x : α} {β : Type} (f : α → β) (h : xs[n]? = some x) : (0 : Int) ≤ ((n : Nat) : Int) ∧ (xs.map f)[(((n : Nat) : Int)).toNat]? = some (f x) := by
  refine ⟨by omega, ?_⟩
  simp [h]
end Go.Pm

namespace Go.Pm
set_option maxRecDepth 100000
def n_laws_szRuleS : FuncId := 135
def n_laws_szConfig : FuncId := 89
def n_laws_szIntS : FuncId := 37
def n_laws_szBoolS : FuncId := 38
def n_laws_szReq : FuncId := 139
def n_laws_szPart : FuncId := 169
def n_laws_szPartS : FuncId := 140
def n_laws_szResp : FuncId := 9
def n_laws_szRespS : FuncId := 141
def n_laws_szPend : FuncId := 166
def n_laws_szPendS : FuncId := 136
def n_laws_szTable : FuncId := 90
def n_laws_szCall : FuncId := 168
def n_laws_szCallS : FuncId := 167
def n_laws_szLine : FuncId := 137
def n_laws_szLineS : FuncId := 91
def n_laws_szFabric : FuncId := 52
def n_laws_szDevice : FuncId := 138
def n_laws_szPost : FuncId := 92
def n_laws_szPostS : FuncId := 53
def n_laws_szPacket : FuncId := 93
def n_laws_szPacketS : FuncId := 54
def n_laws_szReply : FuncId := 94
def n_laws_szReplyS : FuncId := 55
def n_laws_szServed : FuncId := 95
def n_laws_szServedS : FuncId := 56
def n_laws_szWorld : FuncId := 27
def n_laws_toRule : FuncId := 170
def n_laws_toRuleS : FuncId := 142
def n_laws_toConfig : FuncId := 96
def n_laws_toIntS : FuncId := 41
def n_laws_toBoolS : FuncId := 42
def n_laws_toReq : FuncId := 146
def n_laws_toPart : FuncId := 174
def n_laws_toPartS : FuncId := 147
def n_laws_toResp : FuncId := 12
def n_laws_toRespS : FuncId := 148
def n_laws_toPend : FuncId := 171
def n_laws_toPendS : FuncId := 143
def n_laws_toTable : FuncId := 97
def n_laws_toCall : FuncId := 173
def n_laws_toCallS : FuncId := 172
def n_laws_toLine : FuncId := 144
def n_laws_toLineS : FuncId := 98
def n_laws_toFabric : FuncId := 57
def n_laws_toDevice : FuncId := 145
def n_laws_toPost : FuncId := 99
def n_laws_toPostS : FuncId := 58
def n_laws_toPacket : FuncId := 100
def n_laws_toPacketS : FuncId := 59
def n_laws_toReply : FuncId := 101
def n_laws_toReplyS : FuncId := 60
def n_laws_toServed : FuncId := 102
def n_laws_toServedS : FuncId := 61
def n_laws_toWorld : FuncId := 29
def n_spec_l4SameWords : FuncId := 155
def n_spec_l5SameBits : FuncId := 156
def n_spec_l14SameReq : FuncId := 110
def n_spec_l16SameResp : FuncId := 111
def n_spec_l16Served : FuncId := 67
def n_spec_ServedEach : FuncId := 34
def n_slices_Equal_int : FuncId := 158
def n_slices_Equal_bool : FuncId := 159
def n_impl_sameReq : FuncId := 114
def n_impl_sameResp : FuncId := 115
def n_impl_servedSo_1 : FuncId := 113
def n_slices_IndexFunc_Served : FuncId := 157
def n_slices_ContainsFunc_Served : FuncId := 112
def n_impl_servedSo : FuncId := 68
def n_impl_ServedEach : FuncId := 35
def n_laws_eqRule : FuncId := 175
def n_laws_eqRuleS : FuncId := 149
def n_laws_eqConfig : FuncId := 103
def n_laws_eqIntS : FuncId := 44
def n_laws_eqBoolS : FuncId := 45
def n_laws_eqReq : FuncId := 21
def n_laws_eqPart : FuncId := 179
def n_laws_eqPartS : FuncId := 153
def n_laws_eqResp : FuncId := 15
def n_laws_eqRespS : FuncId := 154
def n_laws_eqPend : FuncId := 176
def n_laws_eqPendS : FuncId := 150
def n_laws_eqTable : FuncId := 104
def n_laws_eqCall : FuncId := 178
def n_laws_eqCallS : FuncId := 177
def n_laws_eqLine : FuncId := 151
def n_laws_eqLineS : FuncId := 105
def n_laws_eqFabric : FuncId := 62
def n_laws_eqDevice : FuncId := 152
def n_laws_eqPost : FuncId := 106
def n_laws_eqPostS : FuncId := 63
def n_laws_eqPacket : FuncId := 107
def n_laws_eqPacketS : FuncId := 64
def n_laws_eqReply : FuncId := 108
def n_laws_eqReplyS : FuncId := 65
def n_laws_eqServed : FuncId := 109
def n_laws_eqServedS : FuncId := 66
def n_laws_eqWorld : FuncId := 31
def n_laws_FnExactServedEach : FuncId := 7
def s_laws_szRuleS : List (Option Nat) := [some 0, some 1, some 4, some 10]
def h_laws_szRuleS : HFunc := { np := 2, ns := 4, own := true, res := [(2, none)], body := .seq (.region [(.mov (.con (.int .i64 0)), some 2, none)]) (.seq (.region [(.mov (.reg 1), none, none), (.mov (.reg 0), none, none), (.len (.reg 5), none, none), (.bin .sub (.reg 4) (.reg 6), none, none), (.mov (.reg 7), some 1, none)]) (.seq (.seq (.region [(.mov (.reg 1), none, none), (.bin .lss (.reg 4) (.con (.int .i64 0)), some 3, none)]) (.cond (.reg 3) (.seq (.region [(.mov (.con (.int .i64 (-1))), some 2, none)]) (.ret)) (.skip))) (.seq (.region [(.mov (.reg 1), none, none), (.mov (.reg 4), some 2, none)]) (.ret)))) }
def s_laws_szConfig : List (Option Nat) := [some 0, some 1, some 2, some 4, some 10]
def h_laws_szConfig : HFunc := { np := 2, ns := 5, own := true, res := [(3, none)], body := .seq (.region [(.box (.reg 0), some 2, none), (.mov (.con (.int .i64 0)), some 3, none)]) (.seq (.region [(.fld 2 (.reg 2), none, none), (.load none (.reg 5), none, none), (.mov (.reg 1), none, none), (.call n_laws_szRuleS [.view, .view] false [.reg 6, .reg 7], none, none), (.mov (.reg 8), some 1, none)]) (.seq (.seq (.region [(.mov (.reg 1), none, none), (.bin .lss (.reg 5) (.con (.int .i64 0)), some 4, none)]) (.cond (.reg 4) (.seq (.region [(.mov (.con (.int .i64 (-1))), some 3, none)]) (.ret)) (.skip))) (.seq (.region [(.mov (.reg 1), none, none), (.mov (.reg 5), some 3, none)]) (.ret)))) }
def s_laws_szIntS : List (Option Nat) := [some 0, some 1, some 4, some 10]
def h_laws_szIntS : HFunc := { np := 2, ns := 4, own := true, res := [(2, none)], body := .seq (.region [(.mov (.con (.int .i64 0)), some 2, none)]) (.seq (.region [(.mov (.reg 1), none, none), (.mov (.reg 0), none, none), (.len (.reg 5), none, none), (.bin .sub (.reg 4) (.reg 6), none, none), (.mov (.reg 7), some 1, none)]) (.seq (.seq (.region [(.mov (.reg 1), none, none), (.bin .lss (.reg 4) (.con (.int .i64 0)), some 3, none)]) (.cond (.reg 3) (.seq (.region [(.mov (.con (.int .i64 (-1))), some 2, none)]) (.ret)) (.skip))) (.seq (.region [(.mov (.reg 1), none, none), (.mov (.reg 4), some 2, none)]) (.ret)))) }
def s_laws_szBoolS : List (Option Nat) := [some 0, some 1, some 4, some 10]
def h_laws_szBoolS : HFunc := { np := 2, ns := 4, own := true, res := [(2, none)], body := .seq (.region [(.mov (.con (.int .i64 0)), some 2, none)]) (.seq (.region [(.mov (.reg 1), none, none), (.mov (.reg 0), none, none), (.len (.reg 5), none, none), (.bin .sub (.reg 4) (.reg 6), none, none), (.mov (.reg 7), some 1, none)]) (.seq (.seq (.region [(.mov (.reg 1), none, none), (.bin .lss (.reg 4) (.con (.int .i64 0)), some 3, none)]) (.cond (.reg 3) (.seq (.region [(.mov (.con (.int .i64 (-1))), some 2, none)]) (.ret)) (.skip))) (.seq (.region [(.mov (.reg 1), none, none), (.mov (.reg 4), some 2, none)]) (.ret)))) }
def s_laws_szReq : List (Option Nat) := [some 0, some 1, some 2, some 4, some 10, some 16]
def h_laws_szReq : HFunc := { np := 2, ns := 6, own := true, res := [(3, none)], body := .seq (.region [(.box (.reg 0), some 2, none), (.mov (.con (.int .i64 0)), some 3, none)]) (.seq (.region [(.fld 3 (.reg 2), none, none), (.load none (.reg 6), none, none), (.mov (.reg 1), none, none), (.call n_laws_szIntS [.view, .view] false [.reg 7, .reg 8], none, none), (.mov (.reg 9), some 1, none)]) (.seq (.seq (.region [(.mov (.reg 1), none, none), (.bin .lss (.reg 6) (.con (.int .i64 0)), some 4, none)]) (.cond (.reg 4) (.seq (.region [(.mov (.con (.int .i64 (-1))), some 3, none)]) (.ret)) (.skip))) (.seq (.region [(.fld 4 (.reg 2), none, none), (.load none (.reg 6), none, none), (.mov (.reg 1), none, none), (.call n_laws_szBoolS [.view, .view] false [.reg 7, .reg 8], none, none), (.mov (.reg 9), some 1, none)]) (.seq (.seq (.region [(.mov (.reg 1), none, none), (.bin .lss (.reg 6) (.con (.int .i64 0)), some 5, none)]) (.cond (.reg 5) (.seq (.region [(.mov (.con (.int .i64 (-1))), some 3, none)]) (.ret)) (.skip))) (.seq (.region [(.mov (.reg 1), none, none), (.mov (.reg 6), some 3, none)]) (.ret)))))) }
def s_laws_szPart : List (Option Nat) := [some 0, some 1, some 2, some 4, some 10]
def h_laws_szPart : HFunc := { np := 2, ns := 5, own := true, res := [(3, none)], body := .seq (.region [(.box (.reg 0), some 2, none), (.mov (.con (.int .i64 0)), some 3, none)]) (.seq (.region [(.fld 2 (.reg 2), none, none), (.load (some 6) (.reg 5), none, none), (.mov (.reg 1), none, none), (.call n_laws_szReq [.view, .view] false [.reg 6, .reg 7], none, none), (.mov (.reg 8), some 1, none)]) (.seq (.seq (.region [(.mov (.reg 1), none, none), (.bin .lss (.reg 5) (.con (.int .i64 0)), some 4, none)]) (.cond (.reg 4) (.seq (.region [(.mov (.con (.int .i64 (-1))), some 3, none)]) (.ret)) (.skip))) (.seq (.region [(.mov (.reg 1), none, none), (.mov (.reg 5), some 3, none)]) (.ret)))) }
def s_laws_szPartS : List (Option Nat) := [some 0, some 1, some 4, some 5, some 11, some 15, some 25]
def l_laws_szPartS_0 : HCode := .seq (.seq (.region [(.mov (.reg 3), none, none), (.mov (.reg 0), none, none), (.len (.reg 8), none, none), (.bin .lss (.reg 7) (.reg 9), some 5, none)]) (.cond (.reg 5) (.skip) (.exit 0))) (.seq (.block 1 (.seq (.region [(.mov (.reg 0), none, none), (.mov (.reg 3), none, none), (.idx 8 (.reg 7) (.reg 8), none, none), (.load (some 8) (.reg 9), none, none), (.mov (.reg 1), none, none), (.call n_laws_szPart [.view, .view] false [.reg 10, .reg 11], none, none), (.mov (.reg 12), some 1, none)]) (.seq (.region [(.mov (.reg 1), none, none), (.bin .lss (.reg 7) (.con (.int .i64 0)), some 6, none)]) (.cond (.reg 6) (.seq (.region [(.mov (.con (.int .i64 (-1))), some 2, none)]) (.ret)) (.skip))))) (.region [(.mov (.reg 3), none, none), (.bin .add (.reg 7) (.con (.int .i64 1)), none, none), (.mov (.reg 8), some 3, none)]))
def h_laws_szPartS : HFunc := { np := 2, ns := 7, own := true, res := [(2, none)], body := .seq (.region [(.mov (.con (.int .i64 0)), some 2, none)]) (.seq (.region [(.mov (.reg 1), none, none), (.mov (.reg 0), none, none), (.len (.reg 8), none, none), (.bin .sub (.reg 7) (.reg 9), none, none), (.mov (.reg 10), some 1, none)]) (.seq (.seq (.region [(.mov (.reg 1), none, none), (.bin .lss (.reg 7) (.con (.int .i64 0)), some 4, none)]) (.cond (.reg 4) (.seq (.region [(.mov (.con (.int .i64 (-1))), some 2, none)]) (.ret)) (.skip))) (.seq (.seq (.region [(.mov (.con (.int .i64 0)), some 3, none)]) (.block 0 (.loop [2, 4, 5, 6] l_laws_szPartS_0))) (.seq (.region [(.mov (.reg 1), none, none), (.mov (.reg 7), some 2, none)]) (.ret))))) }
def s_laws_szResp : List (Option Nat) := [some 0, some 1, some 2, some 4, some 10, some 16]
def h_laws_szResp : HFunc := { np := 2, ns := 6, own := true, res := [(3, none)], body := .seq (.region [(.box (.reg 0), some 2, none), (.mov (.con (.int .i64 0)), some 3, none)]) (.seq (.region [(.fld 4 (.reg 2), none, none), (.load none (.reg 6), none, none), (.mov (.reg 1), none, none), (.call n_laws_szIntS [.view, .view] false [.reg 7, .reg 8], none, none), (.mov (.reg 9), some 1, none)]) (.seq (.seq (.region [(.mov (.reg 1), none, none), (.bin .lss (.reg 6) (.con (.int .i64 0)), some 4, none)]) (.cond (.reg 4) (.seq (.region [(.mov (.con (.int .i64 (-1))), some 3, none)]) (.ret)) (.skip))) (.seq (.region [(.fld 5 (.reg 2), none, none), (.load none (.reg 6), none, none), (.mov (.reg 1), none, none), (.call n_laws_szBoolS [.view, .view] false [.reg 7, .reg 8], none, none), (.mov (.reg 9), some 1, none)]) (.seq (.seq (.region [(.mov (.reg 1), none, none), (.bin .lss (.reg 6) (.con (.int .i64 0)), some 5, none)]) (.cond (.reg 5) (.seq (.region [(.mov (.con (.int .i64 (-1))), some 3, none)]) (.ret)) (.skip))) (.seq (.region [(.mov (.reg 1), none, none), (.mov (.reg 6), some 3, none)]) (.ret)))))) }
def s_laws_szRespS : List (Option Nat) := [some 0, some 1, some 4, some 5, some 11, some 15, some 25]
def l_laws_szRespS_0 : HCode := .seq (.seq (.region [(.mov (.reg 3), none, none), (.mov (.reg 0), none, none), (.len (.reg 8), none, none), (.bin .lss (.reg 7) (.reg 9), some 5, none)]) (.cond (.reg 5) (.skip) (.exit 0))) (.seq (.block 1 (.seq (.region [(.mov (.reg 0), none, none), (.mov (.reg 3), none, none), (.idx 6 (.reg 7) (.reg 8), none, none), (.load (some 6) (.reg 9), none, none), (.mov (.reg 1), none, none), (.call n_laws_szResp [.view, .view] false [.reg 10, .reg 11], none, none), (.mov (.reg 12), some 1, none)]) (.seq (.region [(.mov (.reg 1), none, none), (.bin .lss (.reg 7) (.con (.int .i64 0)), some 6, none)]) (.cond (.reg 6) (.seq (.region [(.mov (.con (.int .i64 (-1))), some 2, none)]) (.ret)) (.skip))))) (.region [(.mov (.reg 3), none, none), (.bin .add (.reg 7) (.con (.int .i64 1)), none, none), (.mov (.reg 8), some 3, none)]))
def h_laws_szRespS : HFunc := { np := 2, ns := 7, own := true, res := [(2, none)], body := .seq (.region [(.mov (.con (.int .i64 0)), some 2, none)]) (.seq (.region [(.mov (.reg 1), none, none), (.mov (.reg 0), none, none), (.len (.reg 8), none, none), (.bin .sub (.reg 7) (.reg 9), none, none), (.mov (.reg 10), some 1, none)]) (.seq (.seq (.region [(.mov (.reg 1), none, none), (.bin .lss (.reg 7) (.con (.int .i64 0)), some 4, none)]) (.cond (.reg 4) (.seq (.region [(.mov (.con (.int .i64 (-1))), some 2, none)]) (.ret)) (.skip))) (.seq (.seq (.region [(.mov (.con (.int .i64 0)), some 3, none)]) (.block 0 (.loop [2, 4, 5, 6] l_laws_szRespS_0))) (.seq (.region [(.mov (.reg 1), none, none), (.mov (.reg 7), some 2, none)]) (.ret))))) }
def s_laws_szPend : List (Option Nat) := [some 0, some 1, some 2, some 4, some 10, some 16, some 22, some 28]
def h_laws_szPend : HFunc := { np := 2, ns := 8, own := true, res := [(3, none)], body := .seq (.region [(.box (.reg 0), some 2, none), (.mov (.con (.int .i64 0)), some 3, none)]) (.seq (.region [(.fld 4 (.reg 2), none, none), (.load (some 6) (.reg 8), none, none), (.mov (.reg 1), none, none), (.call n_laws_szReq [.view, .view] false [.reg 9, .reg 10], none, none), (.mov (.reg 11), some 1, none)]) (.seq (.seq (.region [(.mov (.reg 1), none, none), (.bin .lss (.reg 8) (.con (.int .i64 0)), some 4, none)]) (.cond (.reg 4) (.seq (.region [(.mov (.con (.int .i64 (-1))), some 3, none)]) (.ret)) (.skip))) (.seq (.region [(.fld 10 (.reg 2), none, none), (.load none (.reg 8), none, none), (.mov (.reg 1), none, none), (.call n_laws_szPartS [.view, .view] false [.reg 9, .reg 10], none, none), (.mov (.reg 11), some 1, none)]) (.seq (.seq (.region [(.mov (.reg 1), none, none), (.bin .lss (.reg 8) (.con (.int .i64 0)), some 5, none)]) (.cond (.reg 5) (.seq (.region [(.mov (.con (.int .i64 (-1))), some 3, none)]) (.ret)) (.skip))) (.seq (.region [(.fld 11 (.reg 2), none, none), (.load none (.reg 8), none, none), (.mov (.reg 1), none, none), (.call n_laws_szBoolS [.view, .view] false [.reg 9, .reg 10], none, none), (.mov (.reg 11), some 1, none)]) (.seq (.seq (.region [(.mov (.reg 1), none, none), (.bin .lss (.reg 8) (.con (.int .i64 0)), some 6, none)]) (.cond (.reg 6) (.seq (.region [(.mov (.con (.int .i64 (-1))), some 3, none)]) (.ret)) (.skip))) (.seq (.region [(.fld 12 (.reg 2), none, none), (.load none (.reg 8), none, none), (.mov (.reg 1), none, none), (.call n_laws_szRespS [.view, .view] false [.reg 9, .reg 10], none, none), (.mov (.reg 11), some 1, none)]) (.seq (.seq (.region [(.mov (.reg 1), none, none), (.bin .lss (.reg 8) (.con (.int .i64 0)), some 7, none)]) (.cond (.reg 7) (.seq (.region [(.mov (.con (.int .i64 (-1))), some 3, none)]) (.ret)) (.skip))) (.seq (.region [(.mov (.reg 1), none, none), (.mov (.reg 8), some 3, none)]) (.ret)))))))))) }
def s_laws_szPendS : List (Option Nat) := [some 0, some 1, some 4, some 5, some 11, some 15, some 25]
def l_laws_szPendS_0 : HCode := .seq (.seq (.region [(.mov (.reg 3), none, none), (.mov (.reg 0), none, none), (.len (.reg 8), none, none), (.bin .lss (.reg 7) (.reg 9), some 5, none)]) (.cond (.reg 5) (.skip) (.exit 0))) (.seq (.block 1 (.seq (.region [(.mov (.reg 0), none, none), (.mov (.reg 3), none, none), (.idx 13 (.reg 7) (.reg 8), none, none), (.load (some 13) (.reg 9), none, none), (.mov (.reg 1), none, none), (.call n_laws_szPend [.view, .view] false [.reg 10, .reg 11], none, none), (.mov (.reg 12), some 1, none)]) (.seq (.region [(.mov (.reg 1), none, none), (.bin .lss (.reg 7) (.con (.int .i64 0)), some 6, none)]) (.cond (.reg 6) (.seq (.region [(.mov (.con (.int .i64 (-1))), some 2, none)]) (.ret)) (.skip))))) (.region [(.mov (.reg 3), none, none), (.bin .add (.reg 7) (.con (.int .i64 1)), none, none), (.mov (.reg 8), some 3, none)]))
def h_laws_szPendS : HFunc := { np := 2, ns := 7, own := true, res := [(2, none)], body := .seq (.region [(.mov (.con (.int .i64 0)), some 2, none)]) (.seq (.region [(.mov (.reg 1), none, none), (.mov (.reg 0), none, none), (.len (.reg 8), none, none), (.bin .sub (.reg 7) (.reg 9), none, none), (.mov (.reg 10), some 1, none)]) (.seq (.seq (.region [(.mov (.reg 1), none, none), (.bin .lss (.reg 7) (.con (.int .i64 0)), some 4, none)]) (.cond (.reg 4) (.seq (.region [(.mov (.con (.int .i64 (-1))), some 2, none)]) (.ret)) (.skip))) (.seq (.seq (.region [(.mov (.con (.int .i64 0)), some 3, none)]) (.block 0 (.loop [2, 4, 5, 6] l_laws_szPendS_0))) (.seq (.region [(.mov (.reg 1), none, none), (.mov (.reg 7), some 2, none)]) (.ret))))) }
def s_laws_szTable : List (Option Nat) := [some 0, some 1, some 2, some 4, some 10]
def h_laws_szTable : HFunc := { np := 2, ns := 5, own := true, res := [(3, none)], body := .seq (.region [(.box (.reg 0), some 2, none), (.mov (.con (.int .i64 0)), some 3, none)]) (.seq (.region [(.fld 1 (.reg 2), none, none), (.load none (.reg 5), none, none), (.mov (.reg 1), none, none), (.call n_laws_szPendS [.view, .view] false [.reg 6, .reg 7], none, none), (.mov (.reg 8), some 1, none)]) (.seq (.seq (.region [(.mov (.reg 1), none, none), (.bin .lss (.reg 5) (.con (.int .i64 0)), some 4, none)]) (.cond (.reg 4) (.seq (.region [(.mov (.con (.int .i64 (-1))), some 3, none)]) (.ret)) (.skip))) (.seq (.region [(.mov (.reg 1), none, none), (.mov (.reg 5), some 3, none)]) (.ret)))) }
def s_laws_szCall : List (Option Nat) := [some 0, some 1, some 2, some 4, some 10]
def h_laws_szCall : HFunc := { np := 2, ns := 5, own := true, res := [(3, none)], body := .seq (.region [(.box (.reg 0), some 2, none), (.mov (.con (.int .i64 0)), some 3, none)]) (.seq (.region [(.fld 3 (.reg 2), none, none), (.load (some 6) (.reg 5), none, none), (.mov (.reg 1), none, none), (.call n_laws_szReq [.view, .view] false [.reg 6, .reg 7], none, none), (.mov (.reg 8), some 1, none)]) (.seq (.seq (.region [(.mov (.reg 1), none, none), (.bin .lss (.reg 5) (.con (.int .i64 0)), some 4, none)]) (.cond (.reg 4) (.seq (.region [(.mov (.con (.int .i64 (-1))), some 3, none)]) (.ret)) (.skip))) (.seq (.region [(.mov (.reg 1), none, none), (.mov (.reg 5), some 3, none)]) (.ret)))) }
def s_laws_szCallS : List (Option Nat) := [some 0, some 1, some 4, some 5, some 11, some 15, some 25]
def l_laws_szCallS_0 : HCode := .seq (.seq (.region [(.mov (.reg 3), none, none), (.mov (.reg 0), none, none), (.len (.reg 8), none, none), (.bin .lss (.reg 7) (.reg 9), some 5, none)]) (.cond (.reg 5) (.skip) (.exit 0))) (.seq (.block 1 (.seq (.region [(.mov (.reg 0), none, none), (.mov (.reg 3), none, none), (.idx 9 (.reg 7) (.reg 8), none, none), (.load (some 9) (.reg 9), none, none), (.mov (.reg 1), none, none), (.call n_laws_szCall [.view, .view] false [.reg 10, .reg 11], none, none), (.mov (.reg 12), some 1, none)]) (.seq (.region [(.mov (.reg 1), none, none), (.bin .lss (.reg 7) (.con (.int .i64 0)), some 6, none)]) (.cond (.reg 6) (.seq (.region [(.mov (.con (.int .i64 (-1))), some 2, none)]) (.ret)) (.skip))))) (.region [(.mov (.reg 3), none, none), (.bin .add (.reg 7) (.con (.int .i64 1)), none, none), (.mov (.reg 8), some 3, none)]))
def h_laws_szCallS : HFunc := { np := 2, ns := 7, own := true, res := [(2, none)], body := .seq (.region [(.mov (.con (.int .i64 0)), some 2, none)]) (.seq (.region [(.mov (.reg 1), none, none), (.mov (.reg 0), none, none), (.len (.reg 8), none, none), (.bin .sub (.reg 7) (.reg 9), none, none), (.mov (.reg 10), some 1, none)]) (.seq (.seq (.region [(.mov (.reg 1), none, none), (.bin .lss (.reg 7) (.con (.int .i64 0)), some 4, none)]) (.cond (.reg 4) (.seq (.region [(.mov (.con (.int .i64 (-1))), some 2, none)]) (.ret)) (.skip))) (.seq (.seq (.region [(.mov (.con (.int .i64 0)), some 3, none)]) (.block 0 (.loop [2, 4, 5, 6] l_laws_szCallS_0))) (.seq (.region [(.mov (.reg 1), none, none), (.mov (.reg 7), some 2, none)]) (.ret))))) }
def s_laws_szLine : List (Option Nat) := [some 0, some 1, some 2, some 4, some 10, some 16]
def h_laws_szLine : HFunc := { np := 2, ns := 6, own := true, res := [(3, none)], body := .seq (.region [(.box (.reg 0), some 2, none), (.mov (.con (.int .i64 0)), some 3, none)]) (.seq (.region [(.fld 0 (.reg 2), none, none), (.load none (.reg 6), none, none), (.mov (.reg 1), none, none), (.call n_laws_szCallS [.view, .view] false [.reg 7, .reg 8], none, none), (.mov (.reg 9), some 1, none)]) (.seq (.seq (.region [(.mov (.reg 1), none, none), (.bin .lss (.reg 6) (.con (.int .i64 0)), some 4, none)]) (.cond (.reg 4) (.seq (.region [(.mov (.con (.int .i64 (-1))), some 3, none)]) (.ret)) (.skip))) (.seq (.region [(.fld 2 (.reg 2), none, none), (.load (some 9) (.reg 6), none, none), (.mov (.reg 1), none, none), (.call n_laws_szCall [.view, .view] false [.reg 7, .reg 8], none, none), (.mov (.reg 9), some 1, none)]) (.seq (.seq (.region [(.mov (.reg 1), none, none), (.bin .lss (.reg 6) (.con (.int .i64 0)), some 5, none)]) (.cond (.reg 5) (.seq (.region [(.mov (.con (.int .i64 (-1))), some 3, none)]) (.ret)) (.skip))) (.seq (.region [(.mov (.reg 1), none, none), (.mov (.reg 6), some 3, none)]) (.ret)))))) }
def s_laws_szLineS : List (Option Nat) := [some 0, some 1, some 4, some 5, some 11, some 15, some 25]
def l_laws_szLineS_0 : HCode := .seq (.seq (.region [(.mov (.reg 3), none, none), (.mov (.reg 0), none, none), (.len (.reg 8), none, none), (.bin .lss (.reg 7) (.reg 9), some 5, none)]) (.cond (.reg 5) (.skip) (.exit 0))) (.seq (.block 1 (.seq (.region [(.mov (.reg 0), none, none), (.mov (.reg 3), none, none), (.idx 17 (.reg 7) (.reg 8), none, none), (.load (some 17) (.reg 9), none, none), (.mov (.reg 1), none, none), (.call n_laws_szLine [.view, .view] false [.reg 10, .reg 11], none, none), (.mov (.reg 12), some 1, none)]) (.seq (.region [(.mov (.reg 1), none, none), (.bin .lss (.reg 7) (.con (.int .i64 0)), some 6, none)]) (.cond (.reg 6) (.seq (.region [(.mov (.con (.int .i64 (-1))), some 2, none)]) (.ret)) (.skip))))) (.region [(.mov (.reg 3), none, none), (.bin .add (.reg 7) (.con (.int .i64 1)), none, none), (.mov (.reg 8), some 3, none)]))
def h_laws_szLineS : HFunc := { np := 2, ns := 7, own := true, res := [(2, none)], body := .seq (.region [(.mov (.con (.int .i64 0)), some 2, none)]) (.seq (.region [(.mov (.reg 1), none, none), (.mov (.reg 0), none, none), (.len (.reg 8), none, none), (.bin .sub (.reg 7) (.reg 9), none, none), (.mov (.reg 10), some 1, none)]) (.seq (.seq (.region [(.mov (.reg 1), none, none), (.bin .lss (.reg 7) (.con (.int .i64 0)), some 4, none)]) (.cond (.reg 4) (.seq (.region [(.mov (.con (.int .i64 (-1))), some 2, none)]) (.ret)) (.skip))) (.seq (.seq (.region [(.mov (.con (.int .i64 0)), some 3, none)]) (.block 0 (.loop [2, 4, 5, 6] l_laws_szLineS_0))) (.seq (.region [(.mov (.reg 1), none, none), (.mov (.reg 7), some 2, none)]) (.ret))))) }
def s_laws_szFabric : List (Option Nat) := [some 0, some 1, some 2, some 4, some 10, some 16, some 22]
def h_laws_szFabric : HFunc := { np := 2, ns := 7, own := true, res := [(3, none)], body := .seq (.region [(.box (.reg 0), some 2, none), (.mov (.con (.int .i64 0)), some 3, none)]) (.seq (.region [(.fld 1 (.reg 2), none, none), (.load (some 3) (.reg 7), none, none), (.mov (.reg 1), none, none), (.call n_laws_szConfig [.view, .view] false [.reg 8, .reg 9], none, none), (.mov (.reg 10), some 1, none)]) (.seq (.seq (.region [(.mov (.reg 1), none, none), (.bin .lss (.reg 7) (.con (.int .i64 0)), some 4, none)]) (.cond (.reg 4) (.seq (.region [(.mov (.con (.int .i64 (-1))), some 3, none)]) (.ret)) (.skip))) (.seq (.region [(.fld 4 (.reg 2), none, none), (.load (some 2) (.reg 7), none, none), (.mov (.reg 1), none, none), (.call n_laws_szTable [.view, .view] false [.reg 8, .reg 9], none, none), (.mov (.reg 10), some 1, none)]) (.seq (.seq (.region [(.mov (.reg 1), none, none), (.bin .lss (.reg 7) (.con (.int .i64 0)), some 5, none)]) (.cond (.reg 5) (.seq (.region [(.mov (.con (.int .i64 (-1))), some 3, none)]) (.ret)) (.skip))) (.seq (.region [(.fld 6 (.reg 2), none, none), (.load none (.reg 7), none, none), (.mov (.reg 1), none, none), (.call n_laws_szLineS [.view, .view] false [.reg 8, .reg 9], none, none), (.mov (.reg 10), some 1, none)]) (.seq (.seq (.region [(.mov (.reg 1), none, none), (.bin .lss (.reg 7) (.con (.int .i64 0)), some 6, none)]) (.cond (.reg 6) (.seq (.region [(.mov (.con (.int .i64 (-1))), some 3, none)]) (.ret)) (.skip))) (.seq (.region [(.mov (.reg 1), none, none), (.mov (.reg 7), some 3, none)]) (.ret)))))))) }
def s_laws_szDevice : List (Option Nat) := [some 0, some 1, some 2, some 4, some 10, some 16, some 22, some 28]
def h_laws_szDevice : HFunc := { np := 2, ns := 8, own := true, res := [(3, none)], body := .seq (.region [(.box (.reg 0), some 2, none), (.mov (.con (.int .i64 0)), some 3, none)]) (.seq (.region [(.fld 0 (.reg 2), none, none), (.load none (.reg 8), none, none), (.mov (.reg 1), none, none), (.call n_laws_szBoolS [.view, .view] false [.reg 9, .reg 10], none, none), (.mov (.reg 11), some 1, none)]) (.seq (.seq (.region [(.mov (.reg 1), none, none), (.bin .lss (.reg 8) (.con (.int .i64 0)), some 4, none)]) (.cond (.reg 4) (.seq (.region [(.mov (.con (.int .i64 (-1))), some 3, none)]) (.ret)) (.skip))) (.seq (.region [(.fld 1 (.reg 2), none, none), (.load none (.reg 8), none, none), (.mov (.reg 1), none, none), (.call n_laws_szBoolS [.view, .view] false [.reg 9, .reg 10], none, none), (.mov (.reg 11), some 1, none)]) (.seq (.seq (.region [(.mov (.reg 1), none, none), (.bin .lss (.reg 8) (.con (.int .i64 0)), some 5, none)]) (.cond (.reg 5) (.seq (.region [(.mov (.con (.int .i64 (-1))), some 3, none)]) (.ret)) (.skip))) (.seq (.region [(.fld 2 (.reg 2), none, none), (.load none (.reg 8), none, none), (.mov (.reg 1), none, none), (.call n_laws_szIntS [.view, .view] false [.reg 9, .reg 10], none, none), (.mov (.reg 11), some 1, none)]) (.seq (.seq (.region [(.mov (.reg 1), none, none), (.bin .lss (.reg 8) (.con (.int .i64 0)), some 6, none)]) (.cond (.reg 6) (.seq (.region [(.mov (.con (.int .i64 (-1))), some 3, none)]) (.ret)) (.skip))) (.seq (.region [(.fld 3 (.reg 2), none, none), (.load none (.reg 8), none, none), (.mov (.reg 1), none, none), (.call n_laws_szIntS [.view, .view] false [.reg 9, .reg 10], none, none), (.mov (.reg 11), some 1, none)]) (.seq (.seq (.region [(.mov (.reg 1), none, none), (.bin .lss (.reg 8) (.con (.int .i64 0)), some 7, none)]) (.cond (.reg 7) (.seq (.region [(.mov (.con (.int .i64 (-1))), some 3, none)]) (.ret)) (.skip))) (.seq (.region [(.mov (.reg 1), none, none), (.mov (.reg 8), some 3, none)]) (.ret)))))))))) }
def s_laws_szPost : List (Option Nat) := [some 0, some 1, some 2, some 4, some 10]
def h_laws_szPost : HFunc := { np := 2, ns := 5, own := true, res := [(3, none)], body := .seq (.region [(.box (.reg 0), some 2, none), (.mov (.con (.int .i64 0)), some 3, none)]) (.seq (.region [(.fld 2 (.reg 2), none, none), (.load (some 4) (.reg 5), none, none), (.mov (.reg 1), none, none), (.call n_laws_szDevice [.view, .view] false [.reg 6, .reg 7], none, none), (.mov (.reg 8), some 1, none)]) (.seq (.seq (.region [(.mov (.reg 1), none, none), (.bin .lss (.reg 5) (.con (.int .i64 0)), some 4, none)]) (.cond (.reg 4) (.seq (.region [(.mov (.con (.int .i64 (-1))), some 3, none)]) (.ret)) (.skip))) (.seq (.region [(.mov (.reg 1), none, none), (.mov (.reg 5), some 3, none)]) (.ret)))) }
def s_laws_szPostS : List (Option Nat) := [some 0, some 1, some 4, some 5, some 11, some 15, some 25]
def l_laws_szPostS_0 : HCode := .seq (.seq (.region [(.mov (.reg 3), none, none), (.mov (.reg 0), none, none), (.len (.reg 8), none, none), (.bin .lss (.reg 7) (.reg 9), some 5, none)]) (.cond (.reg 5) (.skip) (.exit 0))) (.seq (.block 1 (.seq (.region [(.mov (.reg 0), none, none), (.mov (.reg 3), none, none), (.idx 6 (.reg 7) (.reg 8), none, none), (.load (some 6) (.reg 9), none, none), (.mov (.reg 1), none, none), (.call n_laws_szPost [.view, .view] false [.reg 10, .reg 11], none, none), (.mov (.reg 12), some 1, none)]) (.seq (.region [(.mov (.reg 1), none, none), (.bin .lss (.reg 7) (.con (.int .i64 0)), some 6, none)]) (.cond (.reg 6) (.seq (.region [(.mov (.con (.int .i64 (-1))), some 2, none)]) (.ret)) (.skip))))) (.region [(.mov (.reg 3), none, none), (.bin .add (.reg 7) (.con (.int .i64 1)), none, none), (.mov (.reg 8), some 3, none)]))
def h_laws_szPostS : HFunc := { np := 2, ns := 7, own := true, res := [(2, none)], body := .seq (.region [(.mov (.con (.int .i64 0)), some 2, none)]) (.seq (.region [(.mov (.reg 1), none, none), (.mov (.reg 0), none, none), (.len (.reg 8), none, none), (.bin .sub (.reg 7) (.reg 9), none, none), (.mov (.reg 10), some 1, none)]) (.seq (.seq (.region [(.mov (.reg 1), none, none), (.bin .lss (.reg 7) (.con (.int .i64 0)), some 4, none)]) (.cond (.reg 4) (.seq (.region [(.mov (.con (.int .i64 (-1))), some 2, none)]) (.ret)) (.skip))) (.seq (.seq (.region [(.mov (.con (.int .i64 0)), some 3, none)]) (.block 0 (.loop [2, 4, 5, 6] l_laws_szPostS_0))) (.seq (.region [(.mov (.reg 1), none, none), (.mov (.reg 7), some 2, none)]) (.ret))))) }
def s_laws_szPacket : List (Option Nat) := [some 0, some 1, some 2, some 4, some 10, some 16]
def h_laws_szPacket : HFunc := { np := 2, ns := 6, own := true, res := [(3, none)], body := .seq (.region [(.box (.reg 0), some 2, none), (.mov (.con (.int .i64 0)), some 3, none)]) (.seq (.region [(.fld 4 (.reg 2), none, none), (.load (some 6) (.reg 6), none, none), (.mov (.reg 1), none, none), (.call n_laws_szReq [.view, .view] false [.reg 7, .reg 8], none, none), (.mov (.reg 9), some 1, none)]) (.seq (.seq (.region [(.mov (.reg 1), none, none), (.bin .lss (.reg 6) (.con (.int .i64 0)), some 4, none)]) (.cond (.reg 4) (.seq (.region [(.mov (.con (.int .i64 (-1))), some 3, none)]) (.ret)) (.skip))) (.seq (.region [(.fld 10 (.reg 2), none, none), (.load (some 6) (.reg 6), none, none), (.mov (.reg 1), none, none), (.call n_laws_szResp [.view, .view] false [.reg 7, .reg 8], none, none), (.mov (.reg 9), some 1, none)]) (.seq (.seq (.region [(.mov (.reg 1), none, none), (.bin .lss (.reg 6) (.con (.int .i64 0)), some 5, none)]) (.cond (.reg 5) (.seq (.region [(.mov (.con (.int .i64 (-1))), some 3, none)]) (.ret)) (.skip))) (.seq (.region [(.mov (.reg 1), none, none), (.mov (.reg 6), some 3, none)]) (.ret)))))) }
def s_laws_szPacketS : List (Option Nat) := [some 0, some 1, some 4, some 5, some 11, some 15, some 25]
def l_laws_szPacketS_0 : HCode := .seq (.seq (.region [(.mov (.reg 3), none, none), (.mov (.reg 0), none, none), (.len (.reg 8), none, none), (.bin .lss (.reg 7) (.reg 9), some 5, none)]) (.cond (.reg 5) (.skip) (.exit 0))) (.seq (.block 1 (.seq (.region [(.mov (.reg 0), none, none), (.mov (.reg 3), none, none), (.idx 16 (.reg 7) (.reg 8), none, none), (.load (some 16) (.reg 9), none, none), (.mov (.reg 1), none, none), (.call n_laws_szPacket [.view, .view] false [.reg 10, .reg 11], none, none), (.mov (.reg 12), some 1, none)]) (.seq (.region [(.mov (.reg 1), none, none), (.bin .lss (.reg 7) (.con (.int .i64 0)), some 6, none)]) (.cond (.reg 6) (.seq (.region [(.mov (.con (.int .i64 (-1))), some 2, none)]) (.ret)) (.skip))))) (.region [(.mov (.reg 3), none, none), (.bin .add (.reg 7) (.con (.int .i64 1)), none, none), (.mov (.reg 8), some 3, none)]))
def h_laws_szPacketS : HFunc := { np := 2, ns := 7, own := true, res := [(2, none)], body := .seq (.region [(.mov (.con (.int .i64 0)), some 2, none)]) (.seq (.region [(.mov (.reg 1), none, none), (.mov (.reg 0), none, none), (.len (.reg 8), none, none), (.bin .sub (.reg 7) (.reg 9), none, none), (.mov (.reg 10), some 1, none)]) (.seq (.seq (.region [(.mov (.reg 1), none, none), (.bin .lss (.reg 7) (.con (.int .i64 0)), some 4, none)]) (.cond (.reg 4) (.seq (.region [(.mov (.con (.int .i64 (-1))), some 2, none)]) (.ret)) (.skip))) (.seq (.seq (.region [(.mov (.con (.int .i64 0)), some 3, none)]) (.block 0 (.loop [2, 4, 5, 6] l_laws_szPacketS_0))) (.seq (.region [(.mov (.reg 1), none, none), (.mov (.reg 7), some 2, none)]) (.ret))))) }
def s_laws_szReply : List (Option Nat) := [some 0, some 1, some 2, some 4, some 10, some 16, some 22, some 28]
def h_laws_szReply : HFunc := { np := 2, ns := 8, own := true, res := [(3, none)], body := .seq (.region [(.box (.reg 0), some 2, none), (.mov (.con (.int .i64 0)), some 3, none)]) (.seq (.region [(.fld 2 (.reg 2), none, none), (.load (some 6) (.reg 8), none, none), (.mov (.reg 1), none, none), (.call n_laws_szReq [.view, .view] false [.reg 9, .reg 10], none, none), (.mov (.reg 11), some 1, none)]) (.seq (.seq (.region [(.mov (.reg 1), none, none), (.bin .lss (.reg 8) (.con (.int .i64 0)), some 4, none)]) (.cond (.reg 4) (.seq (.region [(.mov (.con (.int .i64 (-1))), some 3, none)]) (.ret)) (.skip))) (.seq (.region [(.fld 8 (.reg 2), none, none), (.load none (.reg 8), none, none), (.mov (.reg 1), none, none), (.call n_laws_szPartS [.view, .view] false [.reg 9, .reg 10], none, none), (.mov (.reg 11), some 1, none)]) (.seq (.seq (.region [(.mov (.reg 1), none, none), (.bin .lss (.reg 8) (.con (.int .i64 0)), some 5, none)]) (.cond (.reg 5) (.seq (.region [(.mov (.con (.int .i64 (-1))), some 3, none)]) (.ret)) (.skip))) (.seq (.region [(.fld 9 (.reg 2), none, none), (.load none (.reg 8), none, none), (.mov (.reg 1), none, none), (.call n_laws_szRespS [.view, .view] false [.reg 9, .reg 10], none, none), (.mov (.reg 11), some 1, none)]) (.seq (.seq (.region [(.mov (.reg 1), none, none), (.bin .lss (.reg 8) (.con (.int .i64 0)), some 6, none)]) (.cond (.reg 6) (.seq (.region [(.mov (.con (.int .i64 (-1))), some 3, none)]) (.ret)) (.skip))) (.seq (.region [(.fld 10 (.reg 2), none, none), (.load (some 6) (.reg 8), none, none), (.mov (.reg 1), none, none), (.call n_laws_szResp [.view, .view] false [.reg 9, .reg 10], none, none), (.mov (.reg 11), some 1, none)]) (.seq (.seq (.region [(.mov (.reg 1), none, none), (.bin .lss (.reg 8) (.con (.int .i64 0)), some 7, none)]) (.cond (.reg 7) (.seq (.region [(.mov (.con (.int .i64 (-1))), some 3, none)]) (.ret)) (.skip))) (.seq (.region [(.mov (.reg 1), none, none), (.mov (.reg 8), some 3, none)]) (.ret)))))))))) }
def s_laws_szReplyS : List (Option Nat) := [some 0, some 1, some 4, some 5, some 11, some 15, some 25]
def l_laws_szReplyS_0 : HCode := .seq (.seq (.region [(.mov (.reg 3), none, none), (.mov (.reg 0), none, none), (.len (.reg 8), none, none), (.bin .lss (.reg 7) (.reg 9), some 5, none)]) (.cond (.reg 5) (.skip) (.exit 0))) (.seq (.block 1 (.seq (.region [(.mov (.reg 0), none, none), (.mov (.reg 3), none, none), (.idx 16 (.reg 7) (.reg 8), none, none), (.load (some 16) (.reg 9), none, none), (.mov (.reg 1), none, none), (.call n_laws_szReply [.view, .view] false [.reg 10, .reg 11], none, none), (.mov (.reg 12), some 1, none)]) (.seq (.region [(.mov (.reg 1), none, none), (.bin .lss (.reg 7) (.con (.int .i64 0)), some 6, none)]) (.cond (.reg 6) (.seq (.region [(.mov (.con (.int .i64 (-1))), some 2, none)]) (.ret)) (.skip))))) (.region [(.mov (.reg 3), none, none), (.bin .add (.reg 7) (.con (.int .i64 1)), none, none), (.mov (.reg 8), some 3, none)]))
def h_laws_szReplyS : HFunc := { np := 2, ns := 7, own := true, res := [(2, none)], body := .seq (.region [(.mov (.con (.int .i64 0)), some 2, none)]) (.seq (.region [(.mov (.reg 1), none, none), (.mov (.reg 0), none, none), (.len (.reg 8), none, none), (.bin .sub (.reg 7) (.reg 9), none, none), (.mov (.reg 10), some 1, none)]) (.seq (.seq (.region [(.mov (.reg 1), none, none), (.bin .lss (.reg 7) (.con (.int .i64 0)), some 4, none)]) (.cond (.reg 4) (.seq (.region [(.mov (.con (.int .i64 (-1))), some 2, none)]) (.ret)) (.skip))) (.seq (.seq (.region [(.mov (.con (.int .i64 0)), some 3, none)]) (.block 0 (.loop [2, 4, 5, 6] l_laws_szReplyS_0))) (.seq (.region [(.mov (.reg 1), none, none), (.mov (.reg 7), some 2, none)]) (.ret))))) }
def s_laws_szServed : List (Option Nat) := [some 0, some 1, some 2, some 4, some 10, some 16]
def h_laws_szServed : HFunc := { np := 2, ns := 6, own := true, res := [(3, none)], body := .seq (.region [(.box (.reg 0), some 2, none), (.mov (.con (.int .i64 0)), some 3, none)]) (.seq (.region [(.fld 3 (.reg 2), none, none), (.load (some 6) (.reg 6), none, none), (.mov (.reg 1), none, none), (.call n_laws_szReq [.view, .view] false [.reg 7, .reg 8], none, none), (.mov (.reg 9), some 1, none)]) (.seq (.seq (.region [(.mov (.reg 1), none, none), (.bin .lss (.reg 6) (.con (.int .i64 0)), some 4, none)]) (.cond (.reg 4) (.seq (.region [(.mov (.con (.int .i64 (-1))), some 3, none)]) (.ret)) (.skip))) (.seq (.region [(.fld 9 (.reg 2), none, none), (.load (some 6) (.reg 6), none, none), (.mov (.reg 1), none, none), (.call n_laws_szResp [.view, .view] false [.reg 7, .reg 8], none, none), (.mov (.reg 9), some 1, none)]) (.seq (.seq (.region [(.mov (.reg 1), none, none), (.bin .lss (.reg 6) (.con (.int .i64 0)), some 5, none)]) (.cond (.reg 5) (.seq (.region [(.mov (.con (.int .i64 (-1))), some 3, none)]) (.ret)) (.skip))) (.seq (.region [(.mov (.reg 1), none, none), (.mov (.reg 6), some 3, none)]) (.ret)))))) }
def s_laws_szServedS : List (Option Nat) := [some 0, some 1, some 4, some 5, some 11, some 15, some 25]
def l_laws_szServedS_0 : HCode := .seq (.seq (.region [(.mov (.reg 3), none, none), (.mov (.reg 0), none, none), (.len (.reg 8), none, none), (.bin .lss (.reg 7) (.reg 9), some 5, none)]) (.cond (.reg 5) (.skip) (.exit 0))) (.seq (.block 1 (.seq (.region [(.mov (.reg 0), none, none), (.mov (.reg 3), none, none), (.idx 15 (.reg 7) (.reg 8), none, none), (.load (some 15) (.reg 9), none, none), (.mov (.reg 1), none, none), (.call n_laws_szServed [.view, .view] false [.reg 10, .reg 11], none, none), (.mov (.reg 12), some 1, none)]) (.seq (.region [(.mov (.reg 1), none, none), (.bin .lss (.reg 7) (.con (.int .i64 0)), some 6, none)]) (.cond (.reg 6) (.seq (.region [(.mov (.con (.int .i64 (-1))), some 2, none)]) (.ret)) (.skip))))) (.region [(.mov (.reg 3), none, none), (.bin .add (.reg 7) (.con (.int .i64 1)), none, none), (.mov (.reg 8), some 3, none)]))
def h_laws_szServedS : HFunc := { np := 2, ns := 7, own := true, res := [(2, none)], body := .seq (.region [(.mov (.con (.int .i64 0)), some 2, none)]) (.seq (.region [(.mov (.reg 1), none, none), (.mov (.reg 0), none, none), (.len (.reg 8), none, none), (.bin .sub (.reg 7) (.reg 9), none, none), (.mov (.reg 10), some 1, none)]) (.seq (.seq (.region [(.mov (.reg 1), none, none), (.bin .lss (.reg 7) (.con (.int .i64 0)), some 4, none)]) (.cond (.reg 4) (.seq (.region [(.mov (.con (.int .i64 (-1))), some 2, none)]) (.ret)) (.skip))) (.seq (.seq (.region [(.mov (.con (.int .i64 0)), some 3, none)]) (.block 0 (.loop [2, 4, 5, 6] l_laws_szServedS_0))) (.seq (.region [(.mov (.reg 1), none, none), (.mov (.reg 7), some 2, none)]) (.ret))))) }
def s_laws_szWorld : List (Option Nat) := [some 0, some 1, some 2, some 4, some 10, some 16, some 22, some 28, some 34]
def h_laws_szWorld : HFunc := { np := 2, ns := 9, own := true, res := [(3, none)], body := .seq (.region [(.box (.reg 0), some 2, none), (.mov (.con (.int .i64 0)), some 3, none)]) (.seq (.region [(.fld 0 (.reg 2), none, none), (.load (some 11) (.reg 9), none, none), (.mov (.reg 1), none, none), (.call n_laws_szFabric [.view, .view] false [.reg 10, .reg 11], none, none), (.mov (.reg 12), some 1, none)]) (.seq (.seq (.region [(.mov (.reg 1), none, none), (.bin .lss (.reg 9) (.con (.int .i64 0)), some 4, none)]) (.cond (.reg 4) (.seq (.region [(.mov (.con (.int .i64 (-1))), some 3, none)]) (.ret)) (.skip))) (.seq (.region [(.fld 11 (.reg 2), none, none), (.load none (.reg 9), none, none), (.mov (.reg 1), none, none), (.call n_laws_szPostS [.view, .view] false [.reg 10, .reg 11], none, none), (.mov (.reg 12), some 1, none)]) (.seq (.seq (.region [(.mov (.reg 1), none, none), (.bin .lss (.reg 9) (.con (.int .i64 0)), some 5, none)]) (.cond (.reg 5) (.seq (.region [(.mov (.con (.int .i64 (-1))), some 3, none)]) (.ret)) (.skip))) (.seq (.region [(.fld 12 (.reg 2), none, none), (.load none (.reg 9), none, none), (.mov (.reg 1), none, none), (.call n_laws_szPacketS [.view, .view] false [.reg 10, .reg 11], none, none), (.mov (.reg 12), some 1, none)]) (.seq (.seq (.region [(.mov (.reg 1), none, none), (.bin .lss (.reg 9) (.con (.int .i64 0)), some 6, none)]) (.cond (.reg 6) (.seq (.region [(.mov (.con (.int .i64 (-1))), some 3, none)]) (.ret)) (.skip))) (.seq (.region [(.fld 13 (.reg 2), none, none), (.load none (.reg 9), none, none), (.mov (.reg 1), none, none), (.call n_laws_szReplyS [.view, .view] false [.reg 10, .reg 11], none, none), (.mov (.reg 12), some 1, none)]) (.seq (.seq (.region [(.mov (.reg 1), none, none), (.bin .lss (.reg 9) (.con (.int .i64 0)), some 7, none)]) (.cond (.reg 7) (.seq (.region [(.mov (.con (.int .i64 (-1))), some 3, none)]) (.ret)) (.skip))) (.seq (.region [(.fld 14 (.reg 2), none, none), (.load none (.reg 9), none, none), (.mov (.reg 1), none, none), (.call n_laws_szServedS [.view, .view] false [.reg 10, .reg 11], none, none), (.mov (.reg 12), some 1, none)]) (.seq (.seq (.region [(.mov (.reg 1), none, none), (.bin .lss (.reg 9) (.con (.int .i64 0)), some 8, none)]) (.cond (.reg 8) (.seq (.region [(.mov (.con (.int .i64 (-1))), some 3, none)]) (.ret)) (.skip))) (.seq (.region [(.mov (.reg 1), none, none), (.mov (.reg 9), some 3, none)]) (.ret)))))))))))) }
def s_laws_toRule : List (Option Nat) := [some 0, some 1, some 2, some 3]
def h_laws_toRule : HFunc := { np := 1, ns := 4, own := true, res := [(2, some (some 7))], body := .seq (.region [(.box (.reg 0), some 1, none), (.alloc [.int .i64 0, .int .i64 0, .int .i64 0, .int .i64 0, .int .i64 0, .int .i64 0, .int .i64 0], some 2, none)]) (.seq (.region [(.alloc [.int .i64 0, .int .i64 0, .int .i64 0, .int .i64 0, .int .i64 0, .int .i64 0, .int .i64 0], some 3, none)]) (.seq (.region [(.fld 0 (.reg 1), none, none), (.load none (.reg 4), none, none), (.fld 0 (.reg 3), none, none), (.store none false (.reg 6) (.reg 5), none, none)]) (.seq (.region [(.fld 1 (.reg 1), none, none), (.load none (.reg 4), none, none), (.fld 1 (.reg 3), none, none), (.store none false (.reg 6) (.reg 5), none, none)]) (.seq (.region [(.fld 2 (.reg 1), none, none), (.load none (.reg 4), none, none), (.fld 2 (.reg 3), none, none), (.store none false (.reg 6) (.reg 5), none, none)]) (.seq (.region [(.fld 3 (.reg 1), none, none), (.load none (.reg 4), none, none), (.fld 3 (.reg 3), none, none), (.store none false (.reg 6) (.reg 5), none, none)]) (.seq (.region [(.fld 4 (.reg 1), none, none), (.load none (.reg 4), none, none), (.fld 4 (.reg 3), none, none), (.store none false (.reg 6) (.reg 5), none, none)]) (.seq (.region [(.fld 5 (.reg 1), none, none), (.load none (.reg 4), none, none), (.fld 5 (.reg 3), none, none), (.store none false (.reg 6) (.reg 5), none, none)]) (.seq (.region [(.fld 6 (.reg 1), none, none), (.load none (.reg 4), none, none), (.fld 6 (.reg 3), none, none), (.store none false (.reg 6) (.reg 5), none, none)]) (.seq (.region [(.load (some 7) (.reg 3), none, none), (.store (some 7) false (.reg 2) (.reg 4), none, none)]) (.ret)))))))))) }
def s_laws_toRuleS : List (Option Nat) := [some 0, some 2, some 3, some 4, some 11]
def l_laws_toRuleS_0 : HCode := .seq (.seq (.region [(.mov (.reg 3), none, none), (.mov (.reg 0), none, none), (.len (.reg 6), none, none), (.bin .lss (.reg 5) (.reg 7), some 4, none)]) (.cond (.reg 4) (.skip) (.exit 0))) (.seq (.block 1 (.region [(.mov (.reg 2), none, none), (.mov (.reg 3), none, none), (.mov (.reg 0), none, none), (.mov (.reg 3), none, none), (.idx 7 (.reg 7) (.reg 8), none, none), (.load (some 7) (.reg 9), none, none), (.call n_laws_toRule [.view] false [.reg 10], none, none), (.idx 7 (.reg 5) (.reg 6), none, none), (.store (some 7) false (.reg 12) (.reg 11), none, none)])) (.region [(.mov (.reg 3), none, none), (.bin .add (.reg 5) (.con (.int .i64 1)), none, none), (.mov (.reg 6), some 3, none)]))
def h_laws_toRuleS : HFunc := { np := 1, ns := 5, own := true, res := [(1, none)], body := .seq (.region [(.mov (.con (.own 7 [])), some 1, none)]) (.seq (.region [(.mov (.reg 0), none, none), (.len (.reg 5), none, none), (.make 7 56 (.agg [.int .i64 0, .int .i64 0, .int .i64 0, .int .i64 0, .int .i64 0, .int .i64 0, .int .i64 0]) (.reg 6), none, none), (.mov (.reg 7), some 2, none)]) (.seq (.seq (.region [(.mov (.con (.int .i64 0)), some 3, none)]) (.block 0 (.loop [1, 4] l_laws_toRuleS_0))) (.seq (.region [(.mov (.reg 2), none, none), (.mov (.reg 5), some 1, none)]) (.ret)))) }
def s_laws_toConfig : List (Option Nat) := [some 0, some 1, some 2, some 3]
def h_laws_toConfig : HFunc := { np := 1, ns := 4, own := true, res := [(2, some (some 3))], body := .seq (.region [(.box (.reg 0), some 1, none), (.alloc [.int .i64 0, .int .i64 0, .own 7 []], some 2, none)]) (.seq (.region [(.alloc [.int .i64 0, .int .i64 0, .own 7 []], some 3, none)]) (.seq (.region [(.fld 0 (.reg 1), none, none), (.load none (.reg 4), none, none), (.fld 0 (.reg 3), none, none), (.store none false (.reg 6) (.reg 5), none, none)]) (.seq (.region [(.fld 1 (.reg 1), none, none), (.load none (.reg 4), none, none), (.fld 1 (.reg 3), none, none), (.store none false (.reg 6) (.reg 5), none, none)]) (.seq (.region [(.fld 2 (.reg 1), none, none), (.load none (.reg 4), none, none), (.call n_laws_toRuleS [.view] false [.reg 5], none, none), (.fld 2 (.reg 3), none, none), (.store none false (.reg 7) (.reg 6), none, none)]) (.seq (.region [(.load (some 3) (.reg 3), none, none), (.store (some 3) false (.reg 2) (.reg 4), none, none)]) (.ret)))))) }
def s_laws_toIntS : List (Option Nat) := [some 0, some 2, some 3, some 4, some 11]
def l_laws_toIntS_0 : HCode := .seq (.seq (.region [(.mov (.reg 3), none, none), (.mov (.reg 0), none, none), (.len (.reg 6), none, none), (.bin .lss (.reg 5) (.reg 7), some 4, none)]) (.cond (.reg 4) (.skip) (.exit 0))) (.seq (.block 1 (.region [(.mov (.reg 2), none, none), (.mov (.reg 3), none, none), (.mov (.reg 0), none, none), (.mov (.reg 3), none, none), (.idx 1 (.reg 7) (.reg 8), none, none), (.load none (.reg 9), none, none), (.idx 1 (.reg 5) (.reg 6), none, none), (.store none false (.reg 11) (.reg 10), none, none)])) (.region [(.mov (.reg 3), none, none), (.bin .add (.reg 5) (.con (.int .i64 1)), none, none), (.mov (.reg 6), some 3, none)]))
def h_laws_toIntS : HFunc := { np := 1, ns := 5, own := true, res := [(1, none)], body := .seq (.region [(.mov (.con (.own 1 [])), some 1, none)]) (.seq (.region [(.mov (.reg 0), none, none), (.len (.reg 5), none, none), (.make 1 8 (.int .i64 0) (.reg 6), none, none), (.mov (.reg 7), some 2, none)]) (.seq (.seq (.region [(.mov (.con (.int .i64 0)), some 3, none)]) (.block 0 (.loop [1, 4] l_laws_toIntS_0))) (.seq (.region [(.mov (.reg 2), none, none), (.mov (.reg 5), some 1, none)]) (.ret)))) }
def s_laws_toBoolS : List (Option Nat) := [some 0, some 2, some 3, some 4, some 11]
def l_laws_toBoolS_0 : HCode := .seq (.seq (.region [(.mov (.reg 3), none, none), (.mov (.reg 0), none, none), (.len (.reg 6), none, none), (.bin .lss (.reg 5) (.reg 7), some 4, none)]) (.cond (.reg 4) (.skip) (.exit 0))) (.seq (.block 1 (.region [(.mov (.reg 2), none, none), (.mov (.reg 3), none, none), (.mov (.reg 0), none, none), (.mov (.reg 3), none, none), (.idx 1 (.reg 7) (.reg 8), none, none), (.load none (.reg 9), none, none), (.idx 1 (.reg 5) (.reg 6), none, none), (.store none false (.reg 11) (.reg 10), none, none)])) (.region [(.mov (.reg 3), none, none), (.bin .add (.reg 5) (.con (.int .i64 1)), none, none), (.mov (.reg 6), some 3, none)]))
def h_laws_toBoolS : HFunc := { np := 1, ns := 5, own := true, res := [(1, none)], body := .seq (.region [(.mov (.con (.own 1 [])), some 1, none)]) (.seq (.region [(.mov (.reg 0), none, none), (.len (.reg 5), none, none), (.make 1 1 (.bool false) (.reg 6), none, none), (.mov (.reg 7), some 2, none)]) (.seq (.seq (.region [(.mov (.con (.int .i64 0)), some 3, none)]) (.block 0 (.loop [1, 4] l_laws_toBoolS_0))) (.seq (.region [(.mov (.reg 2), none, none), (.mov (.reg 5), some 1, none)]) (.ret)))) }
def s_laws_toReq : List (Option Nat) := [some 0, some 1, some 2, some 3]
def h_laws_toReq : HFunc := { np := 1, ns := 4, own := true, res := [(2, some (some 6))], body := .seq (.region [(.box (.reg 0), some 1, none), (.alloc [.int .i64 0, .int .i64 0, .int .i64 0, .own 1 [], .own 1 [], .int .i64 0], some 2, none)]) (.seq (.region [(.alloc [.int .i64 0, .int .i64 0, .int .i64 0, .own 1 [], .own 1 [], .int .i64 0], some 3, none)]) (.seq (.region [(.fld 0 (.reg 1), none, none), (.load none (.reg 4), none, none), (.fld 0 (.reg 3), none, none), (.store none false (.reg 6) (.reg 5), none, none)]) (.seq (.region [(.fld 1 (.reg 1), none, none), (.load none (.reg 4), none, none), (.fld 1 (.reg 3), none, none), (.store none false (.reg 6) (.reg 5), none, none)]) (.seq (.region [(.fld 2 (.reg 1), none, none), (.load none (.reg 4), none, none), (.fld 2 (.reg 3), none, none), (.store none false (.reg 6) (.reg 5), none, none)]) (.seq (.region [(.fld 3 (.reg 1), none, none), (.load none (.reg 4), none, none), (.call n_laws_toIntS [.view] false [.reg 5], none, none), (.fld 3 (.reg 3), none, none), (.store none false (.reg 7) (.reg 6), none, none)]) (.seq (.region [(.fld 4 (.reg 1), none, none), (.load none (.reg 4), none, none), (.call n_laws_toBoolS [.view] false [.reg 5], none, none), (.fld 4 (.reg 3), none, none), (.store none false (.reg 7) (.reg 6), none, none)]) (.seq (.region [(.fld 5 (.reg 1), none, none), (.load none (.reg 4), none, none), (.fld 5 (.reg 3), none, none), (.store none false (.reg 6) (.reg 5), none, none)]) (.seq (.region [(.load (some 6) (.reg 3), none, none), (.store (some 6) false (.reg 2) (.reg 4), none, none)]) (.ret))))))))) }
def s_laws_toPart : List (Option Nat) := [some 0, some 1, some 2, some 3]
def h_laws_toPart : HFunc := { np := 1, ns := 4, own := true, res := [(2, some (some 8))], body := .seq (.region [(.box (.reg 0), some 1, none), (.alloc [.int .i64 0, .int .i64 0, .int .i64 0, .int .i64 0, .int .i64 0, .own 1 [], .own 1 [], .int .i64 0], some 2, none)]) (.seq (.region [(.alloc [.int .i64 0, .int .i64 0, .int .i64 0, .int .i64 0, .int .i64 0, .own 1 [], .own 1 [], .int .i64 0], some 3, none)]) (.seq (.region [(.fld 0 (.reg 1), none, none), (.load none (.reg 4), none, none), (.fld 0 (.reg 3), none, none), (.store none false (.reg 6) (.reg 5), none, none)]) (.seq (.region [(.fld 1 (.reg 1), none, none), (.load none (.reg 4), none, none), (.fld 1 (.reg 3), none, none), (.store none false (.reg 6) (.reg 5), none, none)]) (.seq (.region [(.fld 2 (.reg 1), none, none), (.load (some 6) (.reg 4), none, none), (.call n_laws_toReq [.view] false [.reg 5], none, none), (.fld 2 (.reg 3), none, none), (.store (some 6) false (.reg 7) (.reg 6), none, none)]) (.seq (.region [(.load (some 8) (.reg 3), none, none), (.store (some 8) false (.reg 2) (.reg 4), none, none)]) (.ret)))))) }
def s_laws_toPartS : List (Option Nat) := [some 0, some 2, some 3, some 4, some 11]
def l_laws_toPartS_0 : HCode := .seq (.seq (.region [(.mov (.reg 3), none, none), (.mov (.reg 0), none, none), (.len (.reg 6), none, none), (.bin .lss (.reg 5) (.reg 7), some 4, none)]) (.cond (.reg 4) (.skip) (.exit 0))) (.seq (.block 1 (.region [(.mov (.reg 2), none, none), (.mov (.reg 3), none, none), (.mov (.reg 0), none, none), (.mov (.reg 3), none, none), (.idx 8 (.reg 7) (.reg 8), none, none), (.load (some 8) (.reg 9), none, none), (.call n_laws_toPart [.view] false [.reg 10], none, none), (.idx 8 (.reg 5) (.reg 6), none, none), (.store (some 8) false (.reg 12) (.reg 11), none, none)])) (.region [(.mov (.reg 3), none, none), (.bin .add (.reg 5) (.con (.int .i64 1)), none, none), (.mov (.reg 6), some 3, none)]))
def h_laws_toPartS : HFunc := { np := 1, ns := 5, own := true, res := [(1, none)], body := .seq (.region [(.mov (.con (.own 8 [])), some 1, none)]) (.seq (.region [(.mov (.reg 0), none, none), (.len (.reg 5), none, none), (.make 8 96 (.agg [.int .i64 0, .int .i64 0, .int .i64 0, .int .i64 0, .int .i64 0, .own 1 [], .own 1 [], .int .i64 0]) (.reg 6), none, none), (.mov (.reg 7), some 2, none)]) (.seq (.seq (.region [(.mov (.con (.int .i64 0)), some 3, none)]) (.block 0 (.loop [1, 4] l_laws_toPartS_0))) (.seq (.region [(.mov (.reg 2), none, none), (.mov (.reg 5), some 1, none)]) (.ret)))) }
def s_laws_toResp : List (Option Nat) := [some 0, some 1, some 2, some 3]
def h_laws_toResp : HFunc := { np := 1, ns := 4, own := true, res := [(2, some (some 6))], body := .seq (.region [(.box (.reg 0), some 1, none), (.alloc [.int .i64 0, .int .i64 0, .int .i64 0, .int .i64 0, .own 1 [], .own 1 []], some 2, none)]) (.seq (.region [(.alloc [.int .i64 0, .int .i64 0, .int .i64 0, .int .i64 0, .own 1 [], .own 1 []], some 3, none)]) (.seq (.region [(.fld 0 (.reg 1), none, none), (.load none (.reg 4), none, none), (.fld 0 (.reg 3), none, none), (.store none false (.reg 6) (.reg 5), none, none)]) (.seq (.region [(.fld 1 (.reg 1), none, none), (.load none (.reg 4), none, none), (.fld 1 (.reg 3), none, none), (.store none false (.reg 6) (.reg 5), none, none)]) (.seq (.region [(.fld 2 (.reg 1), none, none), (.load none (.reg 4), none, none), (.fld 2 (.reg 3), none, none), (.store none false (.reg 6) (.reg 5), none, none)]) (.seq (.region [(.fld 3 (.reg 1), none, none), (.load none (.reg 4), none, none), (.fld 3 (.reg 3), none, none), (.store none false (.reg 6) (.reg 5), none, none)]) (.seq (.region [(.fld 4 (.reg 1), none, none), (.load none (.reg 4), none, none), (.call n_laws_toIntS [.view] false [.reg 5], none, none), (.fld 4 (.reg 3), none, none), (.store none false (.reg 7) (.reg 6), none, none)]) (.seq (.region [(.fld 5 (.reg 1), none, none), (.load none (.reg 4), none, none), (.call n_laws_toBoolS [.view] false [.reg 5], none, none), (.fld 5 (.reg 3), none, none), (.store none false (.reg 7) (.reg 6), none, none)]) (.seq (.region [(.load (some 6) (.reg 3), none, none), (.store (some 6) false (.reg 2) (.reg 4), none, none)]) (.ret))))))))) }
def s_laws_toRespS : List (Option Nat) := [some 0, some 2, some 3, some 4, some 11]
def l_laws_toRespS_0 : HCode := .seq (.seq (.region [(.mov (.reg 3), none, none), (.mov (.reg 0), none, none), (.len (.reg 6), none, none), (.bin .lss (.reg 5) (.reg 7), some 4, none)]) (.cond (.reg 4) (.skip) (.exit 0))) (.seq (.block 1 (.region [(.mov (.reg 2), none, none), (.mov (.reg 3), none, none), (.mov (.reg 0), none, none), (.mov (.reg 3), none, none), (.idx 6 (.reg 7) (.reg 8), none, none), (.load (some 6) (.reg 9), none, none), (.call n_laws_toResp [.view] false [.reg 10], none, none), (.idx 6 (.reg 5) (.reg 6), none, none), (.store (some 6) false (.reg 12) (.reg 11), none, none)])) (.region [(.mov (.reg 3), none, none), (.bin .add (.reg 5) (.con (.int .i64 1)), none, none), (.mov (.reg 6), some 3, none)]))
def h_laws_toRespS : HFunc := { np := 1, ns := 5, own := true, res := [(1, none)], body := .seq (.region [(.mov (.con (.own 6 [])), some 1, none)]) (.seq (.region [(.mov (.reg 0), none, none), (.len (.reg 5), none, none), (.make 6 80 (.agg [.int .i64 0, .int .i64 0, .int .i64 0, .int .i64 0, .own 1 [], .own 1 []]) (.reg 6), none, none), (.mov (.reg 7), some 2, none)]) (.seq (.seq (.region [(.mov (.con (.int .i64 0)), some 3, none)]) (.block 0 (.loop [1, 4] l_laws_toRespS_0))) (.seq (.region [(.mov (.reg 2), none, none), (.mov (.reg 5), some 1, none)]) (.ret)))) }
def s_laws_toPend : List (Option Nat) := [some 0, some 1, some 2, some 3]
def h_laws_toPend : HFunc := { np := 1, ns := 4, own := true, res := [(2, some (some 13))], body := .seq (.region [(.box (.reg 0), some 1, none), (.alloc [.int .i64 0, .int .i64 0, .int .i64 0, .int .i64 0, .int .i64 0, .int .i64 0, .int .i64 0, .own 1 [], .own 1 [], .int .i64 0, .own 8 [], .own 1 [], .own 6 []], some 2, none)]) (.seq (.region [(.alloc [.int .i64 0, .int .i64 0, .int .i64 0, .int .i64 0, .int .i64 0, .int .i64 0, .int .i64 0, .own 1 [], .own 1 [], .int .i64 0, .own 8 [], .own 1 [], .own 6 []], some 3, none)]) (.seq (.region [(.fld 0 (.reg 1), none, none), (.load none (.reg 4), none, none), (.fld 0 (.reg 3), none, none), (.store none false (.reg 6) (.reg 5), none, none)]) (.seq (.region [(.fld 1 (.reg 1), none, none), (.load none (.reg 4), none, none), (.fld 1 (.reg 3), none, none), (.store none false (.reg 6) (.reg 5), none, none)]) (.seq (.region [(.fld 2 (.reg 1), none, none), (.load none (.reg 4), none, none), (.fld 2 (.reg 3), none, none), (.store none false (.reg 6) (.reg 5), none, none)]) (.seq (.region [(.fld 3 (.reg 1), none, none), (.load none (.reg 4), none, none), (.fld 3 (.reg 3), none, none), (.store none false (.reg 6) (.reg 5), none, none)]) (.seq (.region [(.fld 4 (.reg 1), none, none), (.load (some 6) (.reg 4), none, none), (.call n_laws_toReq [.view] false [.reg 5], none, none), (.fld 4 (.reg 3), none, none), (.store (some 6) false (.reg 7) (.reg 6), none, none)]) (.seq (.region [(.fld 10 (.reg 1), none, none), (.load none (.reg 4), none, none), (.call n_laws_toPartS [.view] false [.reg 5], none, none), (.fld 10 (.reg 3), none, none), (.store none false (.reg 7) (.reg 6), none, none)]) (.seq (.region [(.fld 11 (.reg 1), none, none), (.load none (.reg 4), none, none), (.call n_laws_toBoolS [.view] false [.reg 5], none, none), (.fld 11 (.reg 3), none, none), (.store none false (.reg 7) (.reg 6), none, none)]) (.seq (.region [(.fld 12 (.reg 1), none, none), (.load none (.reg 4), none, none), (.call n_laws_toRespS [.view] false [.reg 5], none, none), (.fld 12 (.reg 3), none, none), (.store none false (.reg 7) (.reg 6), none, none)]) (.seq (.region [(.load (some 13) (.reg 3), none, none), (.store (some 13) false (.reg 2) (.reg 4), none, none)]) (.ret))))))))))) }
def s_laws_toPendS : List (Option Nat) := [some 0, some 2, some 3, some 4, some 11]
def l_laws_toPendS_0 : HCode := .seq (.seq (.region [(.mov (.reg 3), none, none), (.mov (.reg 0), none, none), (.len (.reg 6), none, none), (.bin .lss (.reg 5) (.reg 7), some 4, none)]) (.cond (.reg 4) (.skip) (.exit 0))) (.seq (.block 1 (.region [(.mov (.reg 2), none, none), (.mov (.reg 3), none, none), (.mov (.reg 0), none, none), (.mov (.reg 3), none, none), (.idx 13 (.reg 7) (.reg 8), none, none), (.load (some 13) (.reg 9), none, none), (.call n_laws_toPend [.view] false [.reg 10], none, none), (.idx 13 (.reg 5) (.reg 6), none, none), (.store (some 13) false (.reg 12) (.reg 11), none, none)])) (.region [(.mov (.reg 3), none, none), (.bin .add (.reg 5) (.con (.int .i64 1)), none, none), (.mov (.reg 6), some 3, none)]))
def h_laws_toPendS : HFunc := { np := 1, ns := 5, own := true, res := [(1, none)], body := .seq (.region [(.mov (.con (.own 13 [])), some 1, none)]) (.seq (.region [(.mov (.reg 0), none, none), (.len (.reg 5), none, none), (.make 13 184 (.agg [.int .i64 0, .int .i64 0, .int .i64 0, .int .i64 0, .int .i64 0, .int .i64 0, .int .i64 0, .own 1 [], .own 1 [], .int .i64 0, .own 8 [], .own 1 [], .own 6 []]) (.reg 6), none, none), (.mov (.reg 7), some 2, none)]) (.seq (.seq (.region [(.mov (.con (.int .i64 0)), some 3, none)]) (.block 0 (.loop [1, 4] l_laws_toPendS_0))) (.seq (.region [(.mov (.reg 2), none, none), (.mov (.reg 5), some 1, none)]) (.ret)))) }
def s_laws_toTable : List (Option Nat) := [some 0, some 1, some 2, some 3]
def h_laws_toTable : HFunc := { np := 1, ns := 4, own := true, res := [(2, some (some 2))], body := .seq (.region [(.box (.reg 0), some 1, none), (.alloc [.int .i64 0, .own 13 []], some 2, none)]) (.seq (.region [(.alloc [.int .i64 0, .own 13 []], some 3, none)]) (.seq (.region [(.fld 0 (.reg 1), none, none), (.load none (.reg 4), none, none), (.fld 0 (.reg 3), none, none), (.store none false (.reg 6) (.reg 5), none, none)]) (.seq (.region [(.fld 1 (.reg 1), none, none), (.load none (.reg 4), none, none), (.call n_laws_toPendS [.view] false [.reg 5], none, none), (.fld 1 (.reg 3), none, none), (.store none false (.reg 7) (.reg 6), none, none)]) (.seq (.region [(.load (some 2) (.reg 3), none, none), (.store (some 2) false (.reg 2) (.reg 4), none, none)]) (.ret))))) }
def s_laws_toCall : List (Option Nat) := [some 0, some 1, some 2, some 3]
def h_laws_toCall : HFunc := { np := 1, ns := 4, own := true, res := [(2, some (some 9))], body := .seq (.region [(.box (.reg 0), some 1, none), (.alloc [.int .i64 0, .int .i64 0, .int .i64 0, .int .i64 0, .int .i64 0, .int .i64 0, .own 1 [], .own 1 [], .int .i64 0], some 2, none)]) (.seq (.region [(.alloc [.int .i64 0, .int .i64 0, .int .i64 0, .int .i64 0, .int .i64 0, .int .i64 0, .own 1 [], .own 1 [], .int .i64 0], some 3, none)]) (.seq (.region [(.fld 0 (.reg 1), none, none), (.load none (.reg 4), none, none), (.fld 0 (.reg 3), none, none), (.store none false (.reg 6) (.reg 5), none, none)]) (.seq (.region [(.fld 1 (.reg 1), none, none), (.load none (.reg 4), none, none), (.fld 1 (.reg 3), none, none), (.store none false (.reg 6) (.reg 5), none, none)]) (.seq (.region [(.fld 2 (.reg 1), none, none), (.load none (.reg 4), none, none), (.fld 2 (.reg 3), none, none), (.store none false (.reg 6) (.reg 5), none, none)]) (.seq (.region [(.fld 3 (.reg 1), none, none), (.load (some 6) (.reg 4), none, none), (.call n_laws_toReq [.view] false [.reg 5], none, none), (.fld 3 (.reg 3), none, none), (.store (some 6) false (.reg 7) (.reg 6), none, none)]) (.seq (.region [(.load (some 9) (.reg 3), none, none), (.store (some 9) false (.reg 2) (.reg 4), none, none)]) (.ret))))))) }
def s_laws_toCallS : List (Option Nat) := [some 0, some 2, some 3, some 4, some 11]
def l_laws_toCallS_0 : HCode := .seq (.seq (.region [(.mov (.reg 3), none, none), (.mov (.reg 0), none, none), (.len (.reg 6), none, none), (.bin .lss (.reg 5) (.reg 7), some 4, none)]) (.cond (.reg 4) (.skip) (.exit 0))) (.seq (.block 1 (.region [(.mov (.reg 2), none, none), (.mov (.reg 3), none, none), (.mov (.reg 0), none, none), (.mov (.reg 3), none, none), (.idx 9 (.reg 7) (.reg 8), none, none), (.load (some 9) (.reg 9), none, none), (.call n_laws_toCall [.view] false [.reg 10], none, none), (.idx 9 (.reg 5) (.reg 6), none, none), (.store (some 9) false (.reg 12) (.reg 11), none, none)])) (.region [(.mov (.reg 3), none, none), (.bin .add (.reg 5) (.con (.int .i64 1)), none, none), (.mov (.reg 6), some 3, none)]))
def h_laws_toCallS : HFunc := { np := 1, ns := 5, own := true, res := [(1, none)], body := .seq (.region [(.mov (.con (.own 9 [])), some 1, none)]) (.seq (.region [(.mov (.reg 0), none, none), (.len (.reg 5), none, none), (.make 9 104 (.agg [.int .i64 0, .int .i64 0, .int .i64 0, .int .i64 0, .int .i64 0, .int .i64 0, .own 1 [], .own 1 [], .int .i64 0]) (.reg 6), none, none), (.mov (.reg 7), some 2, none)]) (.seq (.seq (.region [(.mov (.con (.int .i64 0)), some 3, none)]) (.block 0 (.loop [1, 4] l_laws_toCallS_0))) (.seq (.region [(.mov (.reg 2), none, none), (.mov (.reg 5), some 1, none)]) (.ret)))) }
def s_laws_toLine : List (Option Nat) := [some 0, some 1, some 2, some 3]
def h_laws_toLine : HFunc := { np := 1, ns := 4, own := true, res := [(2, some (some 17))], body := .seq (.region [(.box (.reg 0), some 1, none), (.alloc [.own 9 [], .bool false, .int .i64 0, .int .i64 0, .int .i64 0, .int .i64 0, .int .i64 0, .int .i64 0, .own 1 [], .own 1 [], .int .i64 0, .int .i64 0, .int .i64 0, .int .i64 0, .int .i64 0, .int .i64 0, .int .i64 0], some 2, none)]) (.seq (.region [(.alloc [.own 9 [], .bool false, .int .i64 0, .int .i64 0, .int .i64 0, .int .i64 0, .int .i64 0, .int .i64 0, .own 1 [], .own 1 [], .int .i64 0, .int .i64 0, .int .i64 0, .int .i64 0, .int .i64 0, .int .i64 0, .int .i64 0], some 3, none)]) (.seq (.region [(.fld 0 (.reg 1), none, none), (.load none (.reg 4), none, none), (.call n_laws_toCallS [.view] false [.reg 5], none, none), (.fld 0 (.reg 3), none, none), (.store none false (.reg 7) (.reg 6), none, none)]) (.seq (.region [(.fld 1 (.reg 1), none, none), (.load none (.reg 4), none, none), (.fld 1 (.reg 3), none, none), (.store none false (.reg 6) (.reg 5), none, none)]) (.seq (.region [(.fld 2 (.reg 1), none, none), (.load (some 9) (.reg 4), none, none), (.call n_laws_toCall [.view] false [.reg 5], none, none), (.fld 2 (.reg 3), none, none), (.store (some 9) false (.reg 7) (.reg 6), none, none)]) (.seq (.region [(.fld 11 (.reg 1), none, none), (.load none (.reg 4), none, none), (.fld 11 (.reg 3), none, none), (.store none false (.reg 6) (.reg 5), none, none)]) (.seq (.region [(.fld 12 (.reg 1), none, none), (.load none (.reg 4), none, none), (.fld 12 (.reg 3), none, none), (.store none false (.reg 6) (.reg 5), none, none)]) (.seq (.region [(.fld 13 (.reg 1), none, none), (.load none (.reg 4), none, none), (.fld 13 (.reg 3), none, none), (.store none false (.reg 6) (.reg 5), none, none)]) (.seq (.region [(.fld 14 (.reg 1), none, none), (.load none (.reg 4), none, none), (.fld 14 (.reg 3), none, none), (.store none false (.reg 6) (.reg 5), none, none)]) (.seq (.region [(.fld 15 (.reg 1), none, none), (.load none (.reg 4), none, none), (.fld 15 (.reg 3), none, none), (.store none false (.reg 6) (.reg 5), none, none)]) (.seq (.region [(.fld 16 (.reg 1), none, none), (.load none (.reg 4), none, none), (.fld 16 (.reg 3), none, none), (.store none false (.reg 6) (.reg 5), none, none)]) (.seq (.region [(.load (some 17) (.reg 3), none, none), (.store (some 17) false (.reg 2) (.reg 4), none, none)]) (.ret)))))))))))) }
def s_laws_toLineS : List (Option Nat) := [some 0, some 2, some 3, some 4, some 11]
def l_laws_toLineS_0 : HCode := .seq (.seq (.region [(.mov (.reg 3), none, none), (.mov (.reg 0), none, none), (.len (.reg 6), none, none), (.bin .lss (.reg 5) (.reg 7), some 4, none)]) (.cond (.reg 4) (.skip) (.exit 0))) (.seq (.block 1 (.region [(.mov (.reg 2), none, none), (.mov (.reg 3), none, none), (.mov (.reg 0), none, none), (.mov (.reg 3), none, none), (.idx 17 (.reg 7) (.reg 8), none, none), (.load (some 17) (.reg 9), none, none), (.call n_laws_toLine [.view] false [.reg 10], none, none), (.idx 17 (.reg 5) (.reg 6), none, none), (.store (some 17) false (.reg 12) (.reg 11), none, none)])) (.region [(.mov (.reg 3), none, none), (.bin .add (.reg 5) (.con (.int .i64 1)), none, none), (.mov (.reg 6), some 3, none)]))
def h_laws_toLineS : HFunc := { np := 1, ns := 5, own := true, res := [(1, none)], body := .seq (.region [(.mov (.con (.own 17 [])), some 1, none)]) (.seq (.region [(.mov (.reg 0), none, none), (.len (.reg 5), none, none), (.make 17 184 (.agg [.own 9 [], .bool false, .int .i64 0, .int .i64 0, .int .i64 0, .int .i64 0, .int .i64 0, .int .i64 0, .own 1 [], .own 1 [], .int .i64 0, .int .i64 0, .int .i64 0, .int .i64 0, .int .i64 0, .int .i64 0, .int .i64 0]) (.reg 6), none, none), (.mov (.reg 7), some 2, none)]) (.seq (.seq (.region [(.mov (.con (.int .i64 0)), some 3, none)]) (.block 0 (.loop [1, 4] l_laws_toLineS_0))) (.seq (.region [(.mov (.reg 2), none, none), (.mov (.reg 5), some 1, none)]) (.ret)))) }
def s_laws_toFabric : List (Option Nat) := [some 0, some 1, some 2, some 3]
def h_laws_toFabric : HFunc := { np := 1, ns := 4, own := true, res := [(2, some (some 11))], body := .seq (.region [(.box (.reg 0), some 1, none), (.alloc [.int .i64 0, .int .i64 0, .int .i64 0, .own 7 [], .int .i64 0, .own 13 [], .own 17 [], .int .i64 0, .int .i64 0, .int .i64 0, .int .i64 0], some 2, none)]) (.seq (.region [(.alloc [.int .i64 0, .int .i64 0, .int .i64 0, .own 7 [], .int .i64 0, .own 13 [], .own 17 [], .int .i64 0, .int .i64 0, .int .i64 0, .int .i64 0], some 3, none)]) (.seq (.region [(.fld 0 (.reg 1), none, none), (.load none (.reg 4), none, none), (.fld 0 (.reg 3), none, none), (.store none false (.reg 6) (.reg 5), none, none)]) (.seq (.region [(.fld 1 (.reg 1), none, none), (.load (some 3) (.reg 4), none, none), (.call n_laws_toConfig [.view] false [.reg 5], none, none), (.fld 1 (.reg 3), none, none), (.store (some 3) false (.reg 7) (.reg 6), none, none)]) (.seq (.region [(.fld 4 (.reg 1), none, none), (.load (some 2) (.reg 4), none, none), (.call n_laws_toTable [.view] false [.reg 5], none, none), (.fld 4 (.reg 3), none, none), (.store (some 2) false (.reg 7) (.reg 6), none, none)]) (.seq (.region [(.fld 6 (.reg 1), none, none), (.load none (.reg 4), none, none), (.call n_laws_toLineS [.view] false [.reg 5], none, none), (.fld 6 (.reg 3), none, none), (.store none false (.reg 7) (.reg 6), none, none)]) (.seq (.region [(.fld 7 (.reg 1), none, none), (.load none (.reg 4), none, none), (.fld 7 (.reg 3), none, none), (.store none false (.reg 6) (.reg 5), none, none)]) (.seq (.region [(.fld 8 (.reg 1), none, none), (.load none (.reg 4), none, none), (.fld 8 (.reg 3), none, none), (.store none false (.reg 6) (.reg 5), none, none)]) (.seq (.region [(.fld 9 (.reg 1), none, none), (.load none (.reg 4), none, none), (.fld 9 (.reg 3), none, none), (.store none false (.reg 6) (.reg 5), none, none)]) (.seq (.region [(.fld 10 (.reg 1), none, none), (.load none (.reg 4), none, none), (.fld 10 (.reg 3), none, none), (.store none false (.reg 6) (.reg 5), none, none)]) (.seq (.region [(.load (some 11) (.reg 3), none, none), (.store (some 11) false (.reg 2) (.reg 4), none, none)]) (.ret))))))))))) }
def s_laws_toDevice : List (Option Nat) := [some 0, some 1, some 2, some 3]
def h_laws_toDevice : HFunc := { np := 1, ns := 4, own := true, res := [(2, some (some 4))], body := .seq (.region [(.box (.reg 0), some 1, none), (.alloc [.own 1 [], .own 1 [], .own 1 [], .own 1 []], some 2, none)]) (.seq (.region [(.alloc [.own 1 [], .own 1 [], .own 1 [], .own 1 []], some 3, none)]) (.seq (.region [(.fld 0 (.reg 1), none, none), (.load none (.reg 4), none, none), (.call n_laws_toBoolS [.view] false [.reg 5], none, none), (.fld 0 (.reg 3), none, none), (.store none false (.reg 7) (.reg 6), none, none)]) (.seq (.region [(.fld 1 (.reg 1), none, none), (.load none (.reg 4), none, none), (.call n_laws_toBoolS [.view] false [.reg 5], none, none), (.fld 1 (.reg 3), none, none), (.store none false (.reg 7) (.reg 6), none, none)]) (.seq (.region [(.fld 2 (.reg 1), none, none), (.load none (.reg 4), none, none), (.call n_laws_toIntS [.view] false [.reg 5], none, none), (.fld 2 (.reg 3), none, none), (.store none false (.reg 7) (.reg 6), none, none)]) (.seq (.region [(.fld 3 (.reg 1), none, none), (.load none (.reg 4), none, none), (.call n_laws_toIntS [.view] false [.reg 5], none, none), (.fld 3 (.reg 3), none, none), (.store none false (.reg 7) (.reg 6), none, none)]) (.seq (.region [(.load (some 4) (.reg 3), none, none), (.store (some 4) false (.reg 2) (.reg 4), none, none)]) (.ret))))))) }
def s_laws_toPost : List (Option Nat) := [some 0, some 1, some 2, some 3]
def h_laws_toPost : HFunc := { np := 1, ns := 4, own := true, res := [(2, some (some 6))], body := .seq (.region [(.box (.reg 0), some 1, none), (.alloc [.int .i64 0, .int .i64 0, .own 1 [], .own 1 [], .own 1 [], .own 1 []], some 2, none)]) (.seq (.region [(.alloc [.int .i64 0, .int .i64 0, .own 1 [], .own 1 [], .own 1 [], .own 1 []], some 3, none)]) (.seq (.region [(.fld 0 (.reg 1), none, none), (.load none (.reg 4), none, none), (.fld 0 (.reg 3), none, none), (.store none false (.reg 6) (.reg 5), none, none)]) (.seq (.region [(.fld 1 (.reg 1), none, none), (.load none (.reg 4), none, none), (.fld 1 (.reg 3), none, none), (.store none false (.reg 6) (.reg 5), none, none)]) (.seq (.region [(.fld 2 (.reg 1), none, none), (.load (some 4) (.reg 4), none, none), (.call n_laws_toDevice [.view] false [.reg 5], none, none), (.fld 2 (.reg 3), none, none), (.store (some 4) false (.reg 7) (.reg 6), none, none)]) (.seq (.region [(.load (some 6) (.reg 3), none, none), (.store (some 6) false (.reg 2) (.reg 4), none, none)]) (.ret)))))) }
def s_laws_toPostS : List (Option Nat) := [some 0, some 2, some 3, some 4, some 11]
def l_laws_toPostS_0 : HCode := .seq (.seq (.region [(.mov (.reg 3), none, none), (.mov (.reg 0), none, none), (.len (.reg 6), none, none), (.bin .lss (.reg 5) (.reg 7), some 4, none)]) (.cond (.reg 4) (.skip) (.exit 0))) (.seq (.block 1 (.region [(.mov (.reg 2), none, none), (.mov (.reg 3), none, none), (.mov (.reg 0), none, none), (.mov (.reg 3), none, none), (.idx 6 (.reg 7) (.reg 8), none, none), (.load (some 6) (.reg 9), none, none), (.call n_laws_toPost [.view] false [.reg 10], none, none), (.idx 6 (.reg 5) (.reg 6), none, none), (.store (some 6) false (.reg 12) (.reg 11), none, none)])) (.region [(.mov (.reg 3), none, none), (.bin .add (.reg 5) (.con (.int .i64 1)), none, none), (.mov (.reg 6), some 3, none)]))
def h_laws_toPostS : HFunc := { np := 1, ns := 5, own := true, res := [(1, none)], body := .seq (.region [(.mov (.con (.own 6 [])), some 1, none)]) (.seq (.region [(.mov (.reg 0), none, none), (.len (.reg 5), none, none), (.make 6 112 (.agg [.int .i64 0, .int .i64 0, .own 1 [], .own 1 [], .own 1 [], .own 1 []]) (.reg 6), none, none), (.mov (.reg 7), some 2, none)]) (.seq (.seq (.region [(.mov (.con (.int .i64 0)), some 3, none)]) (.block 0 (.loop [1, 4] l_laws_toPostS_0))) (.seq (.region [(.mov (.reg 2), none, none), (.mov (.reg 5), some 1, none)]) (.ret)))) }
def s_laws_toPacket : List (Option Nat) := [some 0, some 1, some 2, some 3]
def h_laws_toPacket : HFunc := { np := 1, ns := 4, own := true, res := [(2, some (some 16))], body := .seq (.region [(.box (.reg 0), some 1, none), (.alloc [.bool false, .int .i64 0, .int .i64 0, .int .i64 0, .int .i64 0, .int .i64 0, .int .i64 0, .own 1 [], .own 1 [], .int .i64 0, .int .i64 0, .int .i64 0, .int .i64 0, .int .i64 0, .own 1 [], .own 1 []], some 2, none)]) (.seq (.region [(.alloc [.bool false, .int .i64 0, .int .i64 0, .int .i64 0, .int .i64 0, .int .i64 0, .int .i64 0, .own 1 [], .own 1 [], .int .i64 0, .int .i64 0, .int .i64 0, .int .i64 0, .int .i64 0, .own 1 [], .own 1 []], some 3, none)]) (.seq (.region [(.fld 0 (.reg 1), none, none), (.load none (.reg 4), none, none), (.fld 0 (.reg 3), none, none), (.store none false (.reg 6) (.reg 5), none, none)]) (.seq (.region [(.fld 1 (.reg 1), none, none), (.load none (.reg 4), none, none), (.fld 1 (.reg 3), none, none), (.store none false (.reg 6) (.reg 5), none, none)]) (.seq (.region [(.fld 2 (.reg 1), none, none), (.load none (.reg 4), none, none), (.fld 2 (.reg 3), none, none), (.store none false (.reg 6) (.reg 5), none, none)]) (.seq (.region [(.fld 3 (.reg 1), none, none), (.load none (.reg 4), none, none), (.fld 3 (.reg 3), none, none), (.store none false (.reg 6) (.reg 5), none, none)]) (.seq (.region [(.fld 4 (.reg 1), none, none), (.load (some 6) (.reg 4), none, none), (.call n_laws_toReq [.view] false [.reg 5], none, none), (.fld 4 (.reg 3), none, none), (.store (some 6) false (.reg 7) (.reg 6), none, none)]) (.seq (.region [(.fld 10 (.reg 1), none, none), (.load (some 6) (.reg 4), none, none), (.call n_laws_toResp [.view] false [.reg 5], none, none), (.fld 10 (.reg 3), none, none), (.store (some 6) false (.reg 7) (.reg 6), none, none)]) (.seq (.region [(.load (some 16) (.reg 3), none, none), (.store (some 16) false (.reg 2) (.reg 4), none, none)]) (.ret))))))))) }
def s_laws_toPacketS : List (Option Nat) := [some 0, some 2, some 3, some 4, some 11]
def l_laws_toPacketS_0 : HCode := .seq (.seq (.region [(.mov (.reg 3), none, none), (.mov (.reg 0), none, none), (.len (.reg 6), none, none), (.bin .lss (.reg 5) (.reg 7), some 4, none)]) (.cond (.reg 4) (.skip) (.exit 0))) (.seq (.block 1 (.region [(.mov (.reg 2), none, none), (.mov (.reg 3), none, none), (.mov (.reg 0), none, none), (.mov (.reg 3), none, none), (.idx 16 (.reg 7) (.reg 8), none, none), (.load (some 16) (.reg 9), none, none), (.call n_laws_toPacket [.view] false [.reg 10], none, none), (.idx 16 (.reg 5) (.reg 6), none, none), (.store (some 16) false (.reg 12) (.reg 11), none, none)])) (.region [(.mov (.reg 3), none, none), (.bin .add (.reg 5) (.con (.int .i64 1)), none, none), (.mov (.reg 6), some 3, none)]))
def h_laws_toPacketS : HFunc := { np := 1, ns := 5, own := true, res := [(1, none)], body := .seq (.region [(.mov (.con (.own 16 [])), some 1, none)]) (.seq (.region [(.mov (.reg 0), none, none), (.len (.reg 5), none, none), (.make 16 192 (.agg [.bool false, .int .i64 0, .int .i64 0, .int .i64 0, .int .i64 0, .int .i64 0, .int .i64 0, .own 1 [], .own 1 [], .int .i64 0, .int .i64 0, .int .i64 0, .int .i64 0, .int .i64 0, .own 1 [], .own 1 []]) (.reg 6), none, none), (.mov (.reg 7), some 2, none)]) (.seq (.seq (.region [(.mov (.con (.int .i64 0)), some 3, none)]) (.block 0 (.loop [1, 4] l_laws_toPacketS_0))) (.seq (.region [(.mov (.reg 2), none, none), (.mov (.reg 5), some 1, none)]) (.ret)))) }
def s_laws_toReply : List (Option Nat) := [some 0, some 1, some 2, some 3]
def h_laws_toReply : HFunc := { np := 1, ns := 4, own := true, res := [(2, some (some 16))], body := .seq (.region [(.box (.reg 0), some 1, none), (.alloc [.int .i64 0, .int .i64 0, .int .i64 0, .int .i64 0, .int .i64 0, .own 1 [], .own 1 [], .int .i64 0, .own 8 [], .own 6 [], .int .i64 0, .int .i64 0, .int .i64 0, .int .i64 0, .own 1 [], .own 1 []], some 2, none)]) (.seq (.region [(.alloc [.int .i64 0, .int .i64 0, .int .i64 0, .int .i64 0, .int .i64 0, .own 1 [], .own 1 [], .int .i64 0, .own 8 [], .own 6 [], .int .i64 0, .int .i64 0, .int .i64 0, .int .i64 0, .own 1 [], .own 1 []], some 3, none)]) (.seq (.region [(.fld 0 (.reg 1), none, none), (.load none (.reg 4), none, none), (.fld 0 (.reg 3), none, none), (.store none false (.reg 6) (.reg 5), none, none)]) (.seq (.region [(.fld 1 (.reg 1), none, none), (.load none (.reg 4), none, none), (.fld 1 (.reg 3), none, none), (.store none false (.reg 6) (.reg 5), none, none)]) (.seq (.region [(.fld 2 (.reg 1), none, none), (.load (some 6) (.reg 4), none, none), (.call n_laws_toReq [.view] false [.reg 5], none, none), (.fld 2 (.reg 3), none, none), (.store (some 6) false (.reg 7) (.reg 6), none, none)]) (.seq (.region [(.fld 8 (.reg 1), none, none), (.load none (.reg 4), none, none), (.call n_laws_toPartS [.view] false [.reg 5], none, none), (.fld 8 (.reg 3), none, none), (.store none false (.reg 7) (.reg 6), none, none)]) (.seq (.region [(.fld 9 (.reg 1), none, none), (.load none (.reg 4), none, none), (.call n_laws_toRespS [.view] false [.reg 5], none, none), (.fld 9 (.reg 3), none, none), (.store none false (.reg 7) (.reg 6), none, none)]) (.seq (.region [(.fld 10 (.reg 1), none, none), (.load (some 6) (.reg 4), none, none), (.call n_laws_toResp [.view] false [.reg 5], none, none), (.fld 10 (.reg 3), none, none), (.store (some 6) false (.reg 7) (.reg 6), none, none)]) (.seq (.region [(.load (some 16) (.reg 3), none, none), (.store (some 16) false (.reg 2) (.reg 4), none, none)]) (.ret))))))))) }
def s_laws_toReplyS : List (Option Nat) := [some 0, some 2, some 3, some 4, some 11]
def l_laws_toReplyS_0 : HCode := .seq (.seq (.region [(.mov (.reg 3), none, none), (.mov (.reg 0), none, none), (.len (.reg 6), none, none), (.bin .lss (.reg 5) (.reg 7), some 4, none)]) (.cond (.reg 4) (.skip) (.exit 0))) (.seq (.block 1 (.region [(.mov (.reg 2), none, none), (.mov (.reg 3), none, none), (.mov (.reg 0), none, none), (.mov (.reg 3), none, none), (.idx 16 (.reg 7) (.reg 8), none, none), (.load (some 16) (.reg 9), none, none), (.call n_laws_toReply [.view] false [.reg 10], none, none), (.idx 16 (.reg 5) (.reg 6), none, none), (.store (some 16) false (.reg 12) (.reg 11), none, none)])) (.region [(.mov (.reg 3), none, none), (.bin .add (.reg 5) (.con (.int .i64 1)), none, none), (.mov (.reg 6), some 3, none)]))
def h_laws_toReplyS : HFunc := { np := 1, ns := 5, own := true, res := [(1, none)], body := .seq (.region [(.mov (.con (.own 16 [])), some 1, none)]) (.seq (.region [(.mov (.reg 0), none, none), (.len (.reg 5), none, none), (.make 16 224 (.agg [.int .i64 0, .int .i64 0, .int .i64 0, .int .i64 0, .int .i64 0, .own 1 [], .own 1 [], .int .i64 0, .own 8 [], .own 6 [], .int .i64 0, .int .i64 0, .int .i64 0, .int .i64 0, .own 1 [], .own 1 []]) (.reg 6), none, none), (.mov (.reg 7), some 2, none)]) (.seq (.seq (.region [(.mov (.con (.int .i64 0)), some 3, none)]) (.block 0 (.loop [1, 4] l_laws_toReplyS_0))) (.seq (.region [(.mov (.reg 2), none, none), (.mov (.reg 5), some 1, none)]) (.ret)))) }
def s_laws_toServed : List (Option Nat) := [some 0, some 1, some 2, some 3]
def h_laws_toServed : HFunc := { np := 1, ns := 4, own := true, res := [(2, some (some 15))], body := .seq (.region [(.box (.reg 0), some 1, none), (.alloc [.int .i64 0, .int .i64 0, .int .i64 0, .int .i64 0, .int .i64 0, .int .i64 0, .own 1 [], .own 1 [], .int .i64 0, .int .i64 0, .int .i64 0, .int .i64 0, .int .i64 0, .own 1 [], .own 1 []], some 2, none)]) (.seq (.region [(.alloc [.int .i64 0, .int .i64 0, .int .i64 0, .int .i64 0, .int .i64 0, .int .i64 0, .own 1 [], .own 1 [], .int .i64 0, .int .i64 0, .int .i64 0, .int .i64 0, .int .i64 0, .own 1 [], .own 1 []], some 3, none)]) (.seq (.region [(.fld 0 (.reg 1), none, none), (.load none (.reg 4), none, none), (.fld 0 (.reg 3), none, none), (.store none false (.reg 6) (.reg 5), none, none)]) (.seq (.region [(.fld 1 (.reg 1), none, none), (.load none (.reg 4), none, none), (.fld 1 (.reg 3), none, none), (.store none false (.reg 6) (.reg 5), none, none)]) (.seq (.region [(.fld 2 (.reg 1), none, none), (.load none (.reg 4), none, none), (.fld 2 (.reg 3), none, none), (.store none false (.reg 6) (.reg 5), none, none)]) (.seq (.region [(.fld 3 (.reg 1), none, none), (.load (some 6) (.reg 4), none, none), (.call n_laws_toReq [.view] false [.reg 5], none, none), (.fld 3 (.reg 3), none, none), (.store (some 6) false (.reg 7) (.reg 6), none, none)]) (.seq (.region [(.fld 9 (.reg 1), none, none), (.load (some 6) (.reg 4), none, none), (.call n_laws_toResp [.view] false [.reg 5], none, none), (.fld 9 (.reg 3), none, none), (.store (some 6) false (.reg 7) (.reg 6), none, none)]) (.seq (.region [(.load (some 15) (.reg 3), none, none), (.store (some 15) false (.reg 2) (.reg 4), none, none)]) (.ret)))))))) }
def s_laws_toServedS : List (Option Nat) := [some 0, some 2, some 3, some 4, some 11]
def l_laws_toServedS_0 : HCode := .seq (.seq (.region [(.mov (.reg 3), none, none), (.mov (.reg 0), none, none), (.len (.reg 6), none, none), (.bin .lss (.reg 5) (.reg 7), some 4, none)]) (.cond (.reg 4) (.skip) (.exit 0))) (.seq (.block 1 (.region [(.mov (.reg 2), none, none), (.mov (.reg 3), none, none), (.mov (.reg 0), none, none), (.mov (.reg 3), none, none), (.idx 15 (.reg 7) (.reg 8), none, none), (.load (some 15) (.reg 9), none, none), (.call n_laws_toServed [.view] false [.reg 10], none, none), (.idx 15 (.reg 5) (.reg 6), none, none), (.store (some 15) false (.reg 12) (.reg 11), none, none)])) (.region [(.mov (.reg 3), none, none), (.bin .add (.reg 5) (.con (.int .i64 1)), none, none), (.mov (.reg 6), some 3, none)]))
def h_laws_toServedS : HFunc := { np := 1, ns := 5, own := true, res := [(1, none)], body := .seq (.region [(.mov (.con (.own 15 [])), some 1, none)]) (.seq (.region [(.mov (.reg 0), none, none), (.len (.reg 5), none, none), (.make 15 184 (.agg [.int .i64 0, .int .i64 0, .int .i64 0, .int .i64 0, .int .i64 0, .int .i64 0, .own 1 [], .own 1 [], .int .i64 0, .int .i64 0, .int .i64 0, .int .i64 0, .int .i64 0, .own 1 [], .own 1 []]) (.reg 6), none, none), (.mov (.reg 7), some 2, none)]) (.seq (.seq (.region [(.mov (.con (.int .i64 0)), some 3, none)]) (.block 0 (.loop [1, 4] l_laws_toServedS_0))) (.seq (.region [(.mov (.reg 2), none, none), (.mov (.reg 5), some 1, none)]) (.ret)))) }
def s_laws_toWorld : List (Option Nat) := [some 0, some 1, some 2, some 3]
def h_laws_toWorld : HFunc := { np := 1, ns := 4, own := true, res := [(2, some (some 15))], body := .seq (.region [(.box (.reg 0), some 1, none), (.alloc [.int .i64 0, .int .i64 0, .int .i64 0, .own 7 [], .int .i64 0, .own 13 [], .own 17 [], .int .i64 0, .int .i64 0, .int .i64 0, .int .i64 0, .own 6 [], .own 16 [], .own 16 [], .own 15 []], some 2, none)]) (.seq (.region [(.alloc [.int .i64 0, .int .i64 0, .int .i64 0, .own 7 [], .int .i64 0, .own 13 [], .own 17 [], .int .i64 0, .int .i64 0, .int .i64 0, .int .i64 0, .own 6 [], .own 16 [], .own 16 [], .own 15 []], some 3, none)]) (.seq (.region [(.fld 0 (.reg 1), none, none), (.load (some 11) (.reg 4), none, none), (.call n_laws_toFabric [.view] false [.reg 5], none, none), (.fld 0 (.reg 3), none, none), (.store (some 11) false (.reg 7) (.reg 6), none, none)]) (.seq (.region [(.fld 11 (.reg 1), none, none), (.load none (.reg 4), none, none), (.call n_laws_toPostS [.view] false [.reg 5], none, none), (.fld 11 (.reg 3), none, none), (.store none false (.reg 7) (.reg 6), none, none)]) (.seq (.region [(.fld 12 (.reg 1), none, none), (.load none (.reg 4), none, none), (.call n_laws_toPacketS [.view] false [.reg 5], none, none), (.fld 12 (.reg 3), none, none), (.store none false (.reg 7) (.reg 6), none, none)]) (.seq (.region [(.fld 13 (.reg 1), none, none), (.load none (.reg 4), none, none), (.call n_laws_toReplyS [.view] false [.reg 5], none, none), (.fld 13 (.reg 3), none, none), (.store none false (.reg 7) (.reg 6), none, none)]) (.seq (.region [(.fld 14 (.reg 1), none, none), (.load none (.reg 4), none, none), (.call n_laws_toServedS [.view] false [.reg 5], none, none), (.fld 14 (.reg 3), none, none), (.store none false (.reg 7) (.reg 6), none, none)]) (.seq (.region [(.load (some 15) (.reg 3), none, none), (.store (some 15) false (.reg 2) (.reg 4), none, none)]) (.ret)))))))) }
def s_spec_l4SameWords : List (Option Nat) := [some 0, some 1, some 4, some 5, some 10, some 14, some 25]
def l_spec_l4SameWords_0 : HCode := .seq (.seq (.region [(.mov (.reg 3), none, none), (.mov (.reg 0), none, none), (.len (.reg 8), none, none), (.bin .lss (.reg 7) (.reg 9), some 5, none)]) (.cond (.reg 5) (.skip) (.exit 0))) (.seq (.block 1 (.seq (.draw 9 [⟨0, .mov (.reg 0), none, none, [false, false, false, false, false, false, false, false, false], false⟩, ⟨1, .mov (.reg 3), none, none, [false, false, false, false, false, false, false, false, false], false⟩, ⟨2, .idx 1 (.reg 7) (.reg 8), none, none, [true, true, false, false, false, false, false, false, false], false⟩, ⟨3, .load none (.reg 9), none, none, [true, true, true, false, false, false, false, false, false], false⟩, ⟨4, .mov (.reg 1), none, none, [false, false, false, false, false, false, false, false, false], false⟩, ⟨5, .mov (.reg 3), none, none, [false, false, false, false, false, false, false, false, false], false⟩, ⟨6, .idx 1 (.reg 11) (.reg 12), none, none, [false, false, false, false, true, true, false, false, false], false⟩, ⟨7, .load none (.reg 13), none, none, [false, false, false, false, true, true, true, false, false], false⟩, ⟨8, .bin .neq (.reg 10) (.reg 14), some 6, none, [true, true, true, true, true, true, true, true, false], true⟩]) (.cond (.reg 6) (.seq (.region [(.mov (.con (.bool false)), some 2, none)]) (.ret)) (.skip)))) (.region [(.mov (.reg 3), none, none), (.bin .add (.reg 7) (.con (.int .i64 1)), none, none), (.mov (.reg 8), some 3, none)]))
def h_spec_l4SameWords : HFunc := { np := 2, ns := 7, own := true, res := [(2, none)], body := .seq (.region [(.mov (.con (.bool false)), some 2, none)]) (.seq (.seq (.region [(.mov (.reg 0), none, none), (.len (.reg 7), none, none), (.mov (.reg 1), none, none), (.len (.reg 9), none, none), (.bin .neq (.reg 8) (.reg 10), some 4, none)]) (.cond (.reg 4) (.seq (.region [(.mov (.con (.bool false)), some 2, none)]) (.ret)) (.skip))) (.seq (.seq (.region [(.mov (.con (.int .i64 0)), some 3, none)]) (.block 0 (.loop [2, 4, 5, 6] l_spec_l4SameWords_0))) (.seq (.region [(.mov (.con (.bool true)), some 2, none)]) (.ret)))) }
def s_spec_l5SameBits : List (Option Nat) := [some 0, some 1, some 4, some 5, some 10, some 14, some 25]
def l_spec_l5SameBits_0 : HCode := .seq (.seq (.region [(.mov (.reg 3), none, none), (.mov (.reg 0), none, none), (.len (.reg 8), none, none), (.bin .lss (.reg 7) (.reg 9), some 5, none)]) (.cond (.reg 5) (.skip) (.exit 0))) (.seq (.block 1 (.seq (.draw 9 [⟨0, .mov (.reg 0), none, none, [false, false, false, false, false, false, false, false, false], false⟩, ⟨1, .mov (.reg 3), none, none, [false, false, false, false, false, false, false, false, false], false⟩, ⟨2, .idx 1 (.reg 7) (.reg 8), none, none, [true, true, false, false, false, false, false, false, false], false⟩, ⟨3, .load none (.reg 9), none, none, [true, true, true, false, false, false, false, false, false], false⟩, ⟨4, .mov (.reg 1), none, none, [false, false, false, false, false, false, false, false, false], false⟩, ⟨5, .mov (.reg 3), none, none, [false, false, false, false, false, false, false, false, false], false⟩, ⟨6, .idx 1 (.reg 11) (.reg 12), none, none, [false, false, false, false, true, true, false, false, false], false⟩, ⟨7, .load none (.reg 13), none, none, [false, false, false, false, true, true, true, false, false], false⟩, ⟨8, .beq true (.reg 10) (.reg 14), some 6, none, [true, true, true, true, true, true, true, true, false], true⟩]) (.cond (.reg 6) (.seq (.region [(.mov (.con (.bool false)), some 2, none)]) (.ret)) (.skip)))) (.region [(.mov (.reg 3), none, none), (.bin .add (.reg 7) (.con (.int .i64 1)), none, none), (.mov (.reg 8), some 3, none)]))
def h_spec_l5SameBits : HFunc := { np := 2, ns := 7, own := true, res := [(2, none)], body := .seq (.region [(.mov (.con (.bool false)), some 2, none)]) (.seq (.seq (.region [(.mov (.reg 0), none, none), (.len (.reg 7), none, none), (.mov (.reg 1), none, none), (.len (.reg 9), none, none), (.bin .neq (.reg 8) (.reg 10), some 4, none)]) (.cond (.reg 4) (.seq (.region [(.mov (.con (.bool false)), some 2, none)]) (.ret)) (.skip))) (.seq (.seq (.region [(.mov (.con (.int .i64 0)), some 3, none)]) (.block 0 (.loop [2, 4, 5, 6] l_spec_l5SameBits_0))) (.seq (.region [(.mov (.con (.bool true)), some 2, none)]) (.ret)))) }
def s_spec_l14SameReq : List (Option Nat) := [some 0, some 1, some 2, some 3, some 4]
def h_spec_l14SameReq : HFunc := { np := 2, ns := 5, own := true, res := [(4, none)], body := .seq (.region [(.box (.reg 0), some 2, none), (.box (.reg 1), some 3, none), (.mov (.con (.bool false)), some 4, none)]) (.seq (.region [(.fld 0 (.reg 2), none, none), (.load none (.reg 5), none, none), (.fld 0 (.reg 3), none, none), (.load none (.reg 7), none, none), (.bin .eql (.reg 6) (.reg 8), none, none), (.mov (.reg 9), none, none), (.fld 1 (.reg 2), none, some (10, true)), (.load none (.reg 11), none, some (10, true)), (.fld 1 (.reg 3), none, some (10, true)), (.load none (.reg 13), none, some (10, true)), (.bin .eql (.reg 12) (.reg 14), none, some (10, true)), (.pick (.reg 10) (.reg 15) (.con (.bool false)), none, none), (.mov (.reg 16), none, none), (.fld 2 (.reg 2), none, some (17, true)), (.load none (.reg 18), none, some (17, true)), (.fld 2 (.reg 3), none, some (17, true)), (.load none (.reg 20), none, some (17, true)), (.bin .eql (.reg 19) (.reg 21), none, some (17, true)), (.pick (.reg 17) (.reg 22) (.con (.bool false)), none, none), (.mov (.reg 23), none, none), (.fld 5 (.reg 2), none, some (24, true)), (.load none (.reg 25), none, some (24, true)), (.fld 5 (.reg 3), none, some (24, true)), (.load none (.reg 27), none, some (24, true)), (.bin .eql (.reg 26) (.reg 28), none, some (24, true)), (.pick (.reg 24) (.reg 29) (.con (.bool false)), none, none), (.mov (.reg 30), none, none), (.fld 3 (.reg 2), none, some (31, true)), (.load none (.reg 32), none, some (31, true)), (.fld 3 (.reg 3), none, some (31, true)), (.load none (.reg 34), none, some (31, true)), (.call n_spec_l4SameWords [.view, .view] false [.reg 33, .reg 35], none, some (31, true)), (.pick (.reg 31) (.reg 36) (.con (.bool false)), none, none), (.mov (.reg 37), none, none), (.fld 4 (.reg 2), none, some (38, true)), (.load none (.reg 39), none, some (38, true)), (.fld 4 (.reg 3), none, some (38, true)), (.load none (.reg 41), none, some (38, true)), (.call n_spec_l5SameBits [.view, .view] false [.reg 40, .reg 42], none, some (38, true)), (.pick (.reg 38) (.reg 43) (.con (.bool false)), none, none), (.mov (.reg 44), some 4, none)]) (.ret)) }
def s_spec_l16SameResp : List (Option Nat) := [some 0, some 1, some 2, some 3, some 4]
def h_spec_l16SameResp : HFunc := { np := 2, ns := 5, own := true, res := [(4, none)], body := .seq (.region [(.box (.reg 0), some 2, none), (.box (.reg 1), some 3, none), (.mov (.con (.bool false)), some 4, none)]) (.seq (.region [(.fld 0 (.reg 2), none, none), (.load none (.reg 5), none, none), (.fld 0 (.reg 3), none, none), (.load none (.reg 7), none, none), (.bin .eql (.reg 6) (.reg 8), none, none), (.mov (.reg 9), none, none), (.fld 1 (.reg 2), none, some (10, true)), (.load none (.reg 11), none, some (10, true)), (.fld 1 (.reg 3), none, some (10, true)), (.load none (.reg 13), none, some (10, true)), (.bin .eql (.reg 12) (.reg 14), none, some (10, true)), (.pick (.reg 10) (.reg 15) (.con (.bool false)), none, none), (.mov (.reg 16), none, none), (.fld 2 (.reg 2), none, some (17, true)), (.load none (.reg 18), none, some (17, true)), (.fld 2 (.reg 3), none, some (17, true)), (.load none (.reg 20), none, some (17, true)), (.bin .eql (.reg 19) (.reg 21), none, some (17, true)), (.pick (.reg 17) (.reg 22) (.con (.bool false)), none, none), (.mov (.reg 23), none, none), (.fld 3 (.reg 2), none, some (24, true)), (.load none (.reg 25), none, some (24, true)), (.fld 3 (.reg 3), none, some (24, true)), (.load none (.reg 27), none, some (24, true)), (.bin .eql (.reg 26) (.reg 28), none, some (24, true)), (.pick (.reg 24) (.reg 29) (.con (.bool false)), none, none), (.mov (.reg 30), none, none), (.fld 4 (.reg 2), none, some (31, true)), (.load none (.reg 32), none, some (31, true)), (.fld 4 (.reg 3), none, some (31, true)), (.load none (.reg 34), none, some (31, true)), (.call n_spec_l4SameWords [.view, .view] false [.reg 33, .reg 35], none, some (31, true)), (.pick (.reg 31) (.reg 36) (.con (.bool false)), none, none), (.mov (.reg 37), none, none), (.fld 5 (.reg 2), none, some (38, true)), (.load none (.reg 39), none, some (38, true)), (.fld 5 (.reg 3), none, some (38, true)), (.load none (.reg 41), none, some (38, true)), (.call n_spec_l5SameBits [.view, .view] false [.reg 40, .reg 42], none, some (38, true)), (.pick (.reg 38) (.reg 43) (.con (.bool false)), none, none), (.mov (.reg 44), some 4, none)]) (.ret)) }
def s_spec_l16Served : List (Option Nat) := [some 0, some 1, some 2, some 3, some 4, some 5, some 6, some 7, some 8, some 11, some 16, some 48]
def l_spec_l16Served_0 : HCode := .seq (.seq (.region [(.mov (.reg 7), none, none), (.fld 14 (.reg 3), none, none), (.load none (.reg 13), none, none), (.len (.reg 14), none, none), (.bin .lss (.reg 12) (.reg 15), some 10, none)]) (.cond (.reg 10) (.skip) (.exit 0))) (.seq (.block 1 (.seq (.region [(.fld 14 (.reg 3), none, none), (.load none (.reg 12), none, none), (.mov (.reg 7), none, none), (.idx 15 (.reg 13) (.reg 14), none, none), (.load (some 15) (.reg 15), none, none), (.alloc [.int .i64 0, .int .i64 0, .int .i64 0, .int .i64 0, .int .i64 0, .int .i64 0, .own 1 [], .own 1 [], .int .i64 0, .int .i64 0, .int .i64 0, .int .i64 0, .int .i64 0, .own 1 [], .own 1 []], some 8, none), (.store (some 15) false (.reg 8) (.reg 16), none, none)]) (.seq (.region [(.fld 0 (.reg 8), none, none), (.load none (.reg 12), none, none), (.fld 0 (.reg 4), none, none), (.load none (.reg 14), none, none), (.bin .eql (.reg 13) (.reg 15), none, none), (.mov (.reg 16), none, none), (.fld 2 (.reg 8), none, some (17, true)), (.load none (.reg 18), none, some (17, true)), (.fld 1 (.reg 4), none, some (17, true)), (.load none (.reg 20), none, some (17, true)), (.bin .eql (.reg 19) (.reg 21), none, some (17, true)), (.pick (.reg 17) (.reg 22) (.con (.bool false)), none, none), (.mov (.reg 23), none, none), (.fld 3 (.reg 8), none, some (24, true)), (.load (some 6) (.reg 25), none, some (24, true)), (.fld 2 (.reg 4), none, some (24, true)), (.load (some 6) (.reg 27), none, some (24, true)), (.call n_spec_l14SameReq [.view, .view] false [.reg 26, .reg 28], none, some (24, true)), (.pick (.reg 24) (.reg 29) (.con (.bool false)), none, none), (.mov (.reg 30), none, none), (.fld 9 (.reg 8), none, some (31, true)), (.load (some 6) (.reg 32), none, some (31, true)), (.load (some 6) (.reg 5), none, some (31, true)), (.call n_spec_l16SameResp [.view, .view] false [.reg 33, .reg 34], none, some (31, true)), (.pick (.reg 31) (.reg 35) (.con (.bool false)), some 11, none)]) (.cond (.reg 11) (.seq (.region [(.mov (.con (.bool true)), some 6, none)]) (.ret)) (.skip))))) (.region [(.mov (.reg 7), none, none), (.bin .add (.reg 12) (.con (.int .i64 1)), none, none), (.mov (.reg 13), some 7, none)]))
def h_spec_l16Served : HFunc := { np := 3, ns := 12, own := true, res := [(6, none)], body := .seq (.region [(.box (.reg 0), some 3, none), (.box (.reg 1), some 4, none), (.box (.reg 2), some 5, none), (.mov (.con (.bool false)), some 6, none)]) (.seq (.seq (.region [(.fld 1 (.reg 5), none, none), (.load none (.reg 12), none, none), (.bin .eql (.reg 13) (.con (.int .i64 11)), some 9, none)]) (.cond (.reg 9) (.seq (.region [(.mov (.con (.bool true)), some 6, none)]) (.ret)) (.skip))) (.seq (.seq (.region [(.mov (.con (.int .i64 0)), some 7, none)]) (.block 0 (.loop [0, 1, 2, 6, 8, 9, 10, 11] l_spec_l16Served_0))) (.seq (.region [(.mov (.con (.bool false)), some 6, none)]) (.ret)))) }
def s_spec_ServedEach : List (Option Nat) := [some 0, some 1, some 2, some 3, some 4, some 5, some 6, some 7, some 8, some 13, some 32, some 47, some 54, some 82, some 104]
def l_spec_ServedEach_0 : HCode := .seq (.seq (.region [(.mov (.reg 5), none, none), (.fld 8 (.reg 4), none, none), (.load none (.reg 16), none, none), (.len (.reg 17), none, none), (.bin .lss (.reg 15) (.reg 18), none, none), (.mov (.reg 19), none, none), (.mov (.reg 5), none, some (20, true)), (.fld 9 (.reg 4), none, some (20, true)), (.load none (.reg 22), none, some (20, true)), (.len (.reg 23), none, some (20, true)), (.bin .lss (.reg 21) (.reg 24), none, some (20, true)), (.pick (.reg 20) (.reg 25) (.con (.bool false)), some 10, none)]) (.cond (.reg 10) (.skip) (.exit 2))) (.seq (.block 3 (.seq (.draw 13 [⟨0, .load (some 15) (.reg 1), none, none, [false, false, false, false, false, false, false, false, false, false, false, false, false], false⟩, ⟨1, .fld 8 (.reg 4), none, none, [false, false, false, false, false, false, false, false, false, false, false, false, false], false⟩, ⟨2, .load none (.reg 16), none, none, [false, true, false, false, false, false, false, false, false, false, false, false, false], false⟩, ⟨3, .mov (.reg 5), none, none, [false, false, false, false, false, false, false, false, false, false, false, false, false], false⟩, ⟨4, .idx 8 (.reg 17) (.reg 18), none, none, [false, true, true, true, false, false, false, false, false, false, false, false, false], false⟩, ⟨5, .load (some 8) (.reg 19), none, none, [false, true, true, true, true, false, false, false, false, false, false, false, false], false⟩, ⟨6, .fld 9 (.reg 4), none, none, [false, false, false, false, false, false, false, false, false, false, false, false, false], false⟩, ⟨7, .load none (.reg 21), none, none, [false, false, false, false, false, false, true, false, false, false, false, false, false], false⟩, ⟨8, .mov (.reg 5), none, none, [false, false, false, false, false, false, false, false, false, false, false, false, false], false⟩, ⟨9, .idx 6 (.reg 22) (.reg 23), none, none, [false, false, false, false, false, false, true, true, true, false, false, false, false], false⟩, ⟨10, .load (some 6) (.reg 24), none, none, [false, false, false, false, false, false, true, true, true, true, false, false, false], false⟩, ⟨11, .call n_spec_l16Served [.view, .view, .view] false [.reg 15, .reg 20, .reg 25], none, none, [true, true, true, true, true, true, true, true, true, true, true, false, false], false⟩, ⟨12, .un .not (.reg 26), some 11, none, [true, true, true, true, true, true, true, true, true, true, true, true, false], true⟩]) (.cond (.reg 11) (.seq (.region [(.mov (.con (.bool false)), some 2, none)]) (.ret)) (.skip)))) (.region [(.mov (.reg 5), none, none), (.bin .add (.reg 15) (.con (.int .i64 1)), none, none), (.mov (.reg 16), some 5, none)]))
def l_spec_ServedEach_1 : HCode := .seq (.seq (.region [(.mov (.reg 3), none, none), (.fld 13 (.reg 1), none, none), (.load none (.reg 16), none, none), (.len (.reg 17), none, none), (.bin .lss (.reg 15) (.reg 18), some 9, none)]) (.cond (.reg 9) (.skip) (.exit 0))) (.seq (.block 1 (.seq (.region [(.fld 13 (.reg 1), none, none), (.load none (.reg 15), none, none), (.mov (.reg 3), none, none), (.idx 16 (.reg 16) (.reg 17), none, none), (.load (some 16) (.reg 18), none, none), (.alloc [.int .i64 0, .int .i64 0, .int .i64 0, .int .i64 0, .int .i64 0, .own 1 [], .own 1 [], .int .i64 0, .own 8 [], .own 6 [], .int .i64 0, .int .i64 0, .int .i64 0, .int .i64 0, .own 1 [], .own 1 []], some 4, none), (.store (some 16) false (.reg 4) (.reg 19), none, none)]) (.seq (.region [(.mov (.con (.int .i64 0)), some 5, none)]) (.block 2 (.loop [0, 2, 6, 7, 8, 9, 10, 11, 12, 13, 14] l_spec_ServedEach_0))))) (.region [(.mov (.reg 3), none, none), (.bin .add (.reg 15) (.con (.int .i64 1)), none, none), (.mov (.reg 16), some 3, none)]))
def l_spec_ServedEach_2 : HCode := .seq (.seq (.region [(.mov (.reg 8), none, none), (.fld 10 (.reg 7), none, none), (.load none (.reg 16), none, none), (.len (.reg 17), none, none), (.bin .lss (.reg 15) (.reg 18), none, none), (.mov (.reg 19), none, none), (.mov (.reg 8), none, some (20, true)), (.fld 11 (.reg 7), none, some (20, true)), (.load none (.reg 22), none, some (20, true)), (.len (.reg 23), none, some (20, true)), (.bin .lss (.reg 21) (.reg 24), none, some (20, true)), (.pick (.reg 20) (.reg 25) (.con (.bool false)), none, none), (.mov (.reg 26), none, none), (.mov (.reg 8), none, some (27, true)), (.fld 12 (.reg 7), none, some (27, true)), (.load none (.reg 29), none, some (27, true)), (.len (.reg 30), none, some (27, true)), (.bin .lss (.reg 28) (.reg 31), none, some (27, true)), (.pick (.reg 27) (.reg 32) (.con (.bool false)), some 13, none)]) (.cond (.reg 13) (.skip) (.exit 6))) (.seq (.block 7 (.seq (.draw 20 [⟨0, .fld 11 (.reg 7), none, none, [false, false, false, false, false, false, false, false, false, false, false, false, false, false, false, false, false, false, false, false], false⟩, ⟨1, .load none (.reg 15), none, none, [true, false, false, false, false, false, false, false, false, false, false, false, false, false, false, false, false, false, false, false], false⟩, ⟨2, .mov (.reg 8), none, none, [false, false, false, false, false, false, false, false, false, false, false, false, false, false, false, false, false, false, false, false], false⟩, ⟨3, .idx 1 (.reg 16) (.reg 17), none, none, [true, true, true, false, false, false, false, false, false, false, false, false, false, false, false, false, false, false, false, false], false⟩, ⟨4, .load none (.reg 18), none, none, [true, true, true, true, false, false, false, false, false, false, false, false, false, false, false, false, false, false, false, false], false⟩, ⟨5, .mov (.reg 19), none, none, [true, true, true, true, true, false, false, false, false, false, false, false, false, false, false, false, false, false, false, false], false⟩, ⟨6, .load (some 15) (.reg 1), none, some (20, true), [true, true, true, true, true, true, false, false, false, false, false, false, false, false, false, false, false, false, false, false], false⟩, ⟨7, .fld 10 (.reg 7), none, some (20, true), [true, true, true, true, true, true, false, false, false, false, false, false, false, false, false, false, false, false, false, false], false⟩, ⟨8, .load none (.reg 22), none, some (20, true), [true, true, true, true, true, true, false, true, false, false, false, false, false, false, false, false, false, false, false, false], false⟩, ⟨9, .mov (.reg 8), none, some (20, true), [true, true, true, true, true, true, false, false, false, false, false, false, false, false, false, false, false, false, false, false], false⟩, ⟨10, .idx 8 (.reg 23) (.reg 24), none, some (20, true), [true, true, true, true, true, true, false, true, true, true, false, false, false, false, false, false, false, false, false, false], false⟩, ⟨11, .load (some 8) (.reg 25), none, some (20, true), [true, true, true, true, true, true, false, true, true, true, true, false, false, false, false, false, false, false, false, false], false⟩, ⟨12, .fld 12 (.reg 7), none, some (20, true), [true, true, true, true, true, true, false, false, false, false, false, false, false, false, false, false, false, false, false, false], false⟩, ⟨13, .load none (.reg 27), none, some (20, true), [true, true, true, true, true, true, false, false, false, false, false, false, true, false, false, false, false, false, false, false], false⟩, ⟨14, .mov (.reg 8), none, some (20, true), [true, true, true, true, true, true, false, false, false, false, false, false, false, false, false, false, false, false, false, false], false⟩, ⟨15, .idx 6 (.reg 28) (.reg 29), none, some (20, true), [true, true, true, true, true, true, false, false, false, false, false, false, true, true, true, false, false, false, false, false], false⟩, ⟨16, .load (some 6) (.reg 30), none, some (20, true), [true, true, true, true, true, true, false, false, false, false, false, false, true, true, true, true, false, false, false, false], false⟩, ⟨17, .call n_spec_l16Served [.view, .view, .view] false [.reg 21, .reg 26, .reg 31], none, some (20, true), [true, true, true, true, true, true, true, true, true, true, true, true, true, true, true, true, true, false, false, false], false⟩, ⟨18, .un .not (.reg 32), none, some (20, true), [true, true, true, true, true, true, true, true, true, true, true, true, true, true, true, true, true, true, false, false], false⟩, ⟨19, .pick (.reg 20) (.reg 33) (.con (.bool false)), some 14, none, [true, true, true, true, true, true, true, true, true, true, true, true, true, true, true, true, true, true, true, false], true⟩]) (.cond (.reg 14) (.seq (.region [(.mov (.con (.bool false)), some 2, none)]) (.ret)) (.skip)))) (.region [(.mov (.reg 8), none, none), (.bin .add (.reg 15) (.con (.int .i64 1)), none, none), (.mov (.reg 16), some 8, none)]))
def l_spec_ServedEach_3 : HCode := .seq (.seq (.region [(.mov (.reg 6), none, none), (.fld 0 (.reg 1), none, none), (.fld 4 (.reg 16), none, none), (.fld 1 (.reg 17), none, none), (.load none (.reg 18), none, none), (.len (.reg 19), none, none), (.bin .lss (.reg 15) (.reg 20), some 12, none)]) (.cond (.reg 12) (.skip) (.exit 4))) (.seq (.block 5 (.seq (.region [(.fld 0 (.reg 1), none, none), (.fld 4 (.reg 15), none, none), (.fld 1 (.reg 16), none, none), (.load none (.reg 17), none, none), (.mov (.reg 6), none, none), (.idx 13 (.reg 18) (.reg 19), none, none), (.load (some 13) (.reg 20), none, none), (.alloc [.int .i64 0, .int .i64 0, .int .i64 0, .int .i64 0, .int .i64 0, .int .i64 0, .int .i64 0, .own 1 [], .own 1 [], .int .i64 0, .own 8 [], .own 1 [], .own 6 []], some 7, none), (.store (some 13) false (.reg 7) (.reg 21), none, none)]) (.seq (.region [(.mov (.con (.int .i64 0)), some 8, none)]) (.block 6 (.loop [0, 2, 3, 4, 5, 9, 10, 11, 12, 13, 14] l_spec_ServedEach_2))))) (.region [(.mov (.reg 6), none, none), (.bin .add (.reg 15) (.con (.int .i64 1)), none, none), (.mov (.reg 16), some 6, none)]))
def h_spec_ServedEach : HFunc := { np := 1, ns := 15, own := true, res := [(2, none)], body := .seq (.region [(.box (.reg 0), some 1, none), (.mov (.con (.bool false)), some 2, none)]) (.seq (.seq (.region [(.mov (.con (.int .i64 0)), some 3, none)]) (.block 0 (.loop [0, 2, 4, 5, 6, 7, 8, 9, 10, 11, 12, 13, 14] l_spec_ServedEach_1))) (.seq (.seq (.region [(.mov (.con (.int .i64 0)), some 6, none)]) (.block 4 (.loop [0, 2, 3, 4, 5, 7, 8, 9, 10, 11, 12, 13, 14] l_spec_ServedEach_3))) (.seq (.region [(.mov (.con (.bool true)), some 2, none)]) (.ret)))) }
def s_slices_Equal_int : List (Option Nat) := [some 0, some 1, some 4, some 5, some 10, some 12, some 13, some 14, some 24]
def l_slices_Equal_int_0 : HCode := .seq (.region [(.bin .lss (.reg 6) (.reg 5), some 7, none)]) (.seq (.cond (.reg 7) (.skip) (.exit 0)) (.seq (.block 1 (.seq (.region [(.mov (.reg 6), none, none), (.mov (.reg 9), some 3, none)]) (.seq (.draw 9 [⟨0, .mov (.reg 0), none, none, [false, false, false, false, false, false, false, false, false], false⟩, ⟨1, .mov (.reg 3), none, none, [false, false, false, false, false, false, false, false, false], false⟩, ⟨2, .idx 1 (.reg 9) (.reg 10), none, none, [true, true, false, false, false, false, false, false, false], false⟩, ⟨3, .load none (.reg 11), none, none, [true, true, true, false, false, false, false, false, false], false⟩, ⟨4, .mov (.reg 1), none, none, [false, false, false, false, false, false, false, false, false], false⟩, ⟨5, .mov (.reg 3), none, none, [false, false, false, false, false, false, false, false, false], false⟩, ⟨6, .idx 1 (.reg 13) (.reg 14), none, none, [false, false, false, false, true, true, false, false, false], false⟩, ⟨7, .load none (.reg 15), none, none, [false, false, false, false, true, true, true, false, false], false⟩, ⟨8, .bin .neq (.reg 12) (.reg 16), some 8, none, [true, true, true, true, true, true, true, true, false], true⟩]) (.cond (.reg 8) (.seq (.region [(.mov (.con (.bool false)), some 2, none)]) (.ret)) (.skip))))) (.region [(.bin .add (.reg 6) (.con (.int .i64 1)), none, none), (.mov (.reg 9), some 6, none)])))
def h_slices_Equal_int : HFunc := { np := 2, ns := 9, own := true, res := [(2, none)], body := .seq (.region [(.mov (.con (.bool false)), some 2, none)]) (.seq (.seq (.region [(.mov (.reg 0), none, none), (.len (.reg 9), none, none), (.mov (.reg 1), none, none), (.len (.reg 11), none, none), (.bin .neq (.reg 10) (.reg 12), some 4, none)]) (.cond (.reg 4) (.seq (.region [(.mov (.con (.bool false)), some 2, none)]) (.ret)) (.skip))) (.seq (.seq (.region [(.mov (.reg 0), none, none), (.len (.reg 9), some 5, none), (.mov (.con (.int .i64 0)), some 6, none)]) (.block 0 (.loop [2, 3, 4, 7, 8] l_slices_Equal_int_0))) (.seq (.region [(.mov (.con (.bool true)), some 2, none)]) (.ret)))) }
def s_slices_Equal_bool : List (Option Nat) := [some 0, some 1, some 4, some 5, some 10, some 12, some 13, some 14, some 24]
def l_slices_Equal_bool_0 : HCode := .seq (.region [(.bin .lss (.reg 6) (.reg 5), some 7, none)]) (.seq (.cond (.reg 7) (.skip) (.exit 0)) (.seq (.block 1 (.seq (.region [(.mov (.reg 6), none, none), (.mov (.reg 9), some 3, none)]) (.seq (.draw 9 [⟨0, .mov (.reg 0), none, none, [false, false, false, false, false, false, false, false, false], false⟩, ⟨1, .mov (.reg 3), none, none, [false, false, false, false, false, false, false, false, false], false⟩, ⟨2, .idx 1 (.reg 9) (.reg 10), none, none, [true, true, false, false, false, false, false, false, false], false⟩, ⟨3, .load none (.reg 11), none, none, [true, true, true, false, false, false, false, false, false], false⟩, ⟨4, .mov (.reg 1), none, none, [false, false, false, false, false, false, false, false, false], false⟩, ⟨5, .mov (.reg 3), none, none, [false, false, false, false, false, false, false, false, false], false⟩, ⟨6, .idx 1 (.reg 13) (.reg 14), none, none, [false, false, false, false, true, true, false, false, false], false⟩, ⟨7, .load none (.reg 15), none, none, [false, false, false, false, true, true, true, false, false], false⟩, ⟨8, .beq true (.reg 12) (.reg 16), some 8, none, [true, true, true, true, true, true, true, true, false], true⟩]) (.cond (.reg 8) (.seq (.region [(.mov (.con (.bool false)), some 2, none)]) (.ret)) (.skip))))) (.region [(.bin .add (.reg 6) (.con (.int .i64 1)), none, none), (.mov (.reg 9), some 6, none)])))
def h_slices_Equal_bool : HFunc := { np := 2, ns := 9, own := true, res := [(2, none)], body := .seq (.region [(.mov (.con (.bool false)), some 2, none)]) (.seq (.seq (.region [(.mov (.reg 0), none, none), (.len (.reg 9), none, none), (.mov (.reg 1), none, none), (.len (.reg 11), none, none), (.bin .neq (.reg 10) (.reg 12), some 4, none)]) (.cond (.reg 4) (.seq (.region [(.mov (.con (.bool false)), some 2, none)]) (.ret)) (.skip))) (.seq (.seq (.region [(.mov (.reg 0), none, none), (.len (.reg 9), some 5, none), (.mov (.con (.int .i64 0)), some 6, none)]) (.block 0 (.loop [2, 3, 4, 7, 8] l_slices_Equal_bool_0))) (.seq (.region [(.mov (.con (.bool true)), some 2, none)]) (.ret)))) }
def s_impl_sameReq : List (Option Nat) := [some 0, some 1, some 2, some 3, some 4]
def h_impl_sameReq : HFunc := { np := 2, ns := 5, own := true, res := [(4, none)], body := .seq (.region [(.box (.reg 0), some 2, none), (.box (.reg 1), some 3, none), (.mov (.con (.bool false)), some 4, none)]) (.seq (.region [(.fld 0 (.reg 2), none, none), (.load none (.reg 5), none, none), (.fld 0 (.reg 3), none, none), (.load none (.reg 7), none, none), (.bin .eql (.reg 6) (.reg 8), none, none), (.mov (.reg 9), none, none), (.fld 1 (.reg 2), none, some (10, true)), (.load none (.reg 11), none, some (10, true)), (.fld 1 (.reg 3), none, some (10, true)), (.load none (.reg 13), none, some (10, true)), (.bin .eql (.reg 12) (.reg 14), none, some (10, true)), (.pick (.reg 10) (.reg 15) (.con (.bool false)), none, none), (.mov (.reg 16), none, none), (.fld 2 (.reg 2), none, some (17, true)), (.load none (.reg 18), none, some (17, true)), (.fld 2 (.reg 3), none, some (17, true)), (.load none (.reg 20), none, some (17, true)), (.bin .eql (.reg 19) (.reg 21), none, some (17, true)), (.pick (.reg 17) (.reg 22) (.con (.bool false)), none, none), (.mov (.reg 23), none, none), (.fld 5 (.reg 2), none, some (24, true)), (.load none (.reg 25), none, some (24, true)), (.fld 5 (.reg 3), none, some (24, true)), (.load none (.reg 27), none, some (24, true)), (.bin .eql (.reg 26) (.reg 28), none, some (24, true)), (.pick (.reg 24) (.reg 29) (.con (.bool false)), none, none), (.mov (.reg 30), none, none), (.fld 3 (.reg 2), none, some (31, true)), (.load none (.reg 32), none, some (31, true)), (.fld 3 (.reg 3), none, some (31, true)), (.load none (.reg 34), none, some (31, true)), (.call n_slices_Equal_int [.view, .view] false [.reg 33, .reg 35], none, some (31, true)), (.pick (.reg 31) (.reg 36) (.con (.bool false)), none, none), (.mov (.reg 37), none, none), (.fld 4 (.reg 2), none, some (38, true)), (.load none (.reg 39), none, some (38, true)), (.fld 4 (.reg 3), none, some (38, true)), (.load none (.reg 41), none, some (38, true)), (.call n_slices_Equal_bool [.view, .view] false [.reg 40, .reg 42], none, some (38, true)), (.pick (.reg 38) (.reg 43) (.con (.bool false)), none, none), (.mov (.reg 44), some 4, none)]) (.ret)) }
def s_impl_sameResp : List (Option Nat) := [some 0, some 1, some 2, some 3, some 4]
def h_impl_sameResp : HFunc := { np := 2, ns := 5, own := true, res := [(4, none)], body := .seq (.region [(.box (.reg 0), some 2, none), (.box (.reg 1), some 3, none), (.mov (.con (.bool false)), some 4, none)]) (.seq (.region [(.fld 0 (.reg 2), none, none), (.load none (.reg 5), none, none), (.fld 0 (.reg 3), none, none), (.load none (.reg 7), none, none), (.bin .eql (.reg 6) (.reg 8), none, none), (.mov (.reg 9), none, none), (.fld 1 (.reg 2), none, some (10, true)), (.load none (.reg 11), none, some (10, true)), (.fld 1 (.reg 3), none, some (10, true)), (.load none (.reg 13), none, some (10, true)), (.bin .eql (.reg 12) (.reg 14), none, some (10, true)), (.pick (.reg 10) (.reg 15) (.con (.bool false)), none, none), (.mov (.reg 16), none, none), (.fld 2 (.reg 2), none, some (17, true)), (.load none (.reg 18), none, some (17, true)), (.fld 2 (.reg 3), none, some (17, true)), (.load none (.reg 20), none, some (17, true)), (.bin .eql (.reg 19) (.reg 21), none, some (17, true)), (.pick (.reg 17) (.reg 22) (.con (.bool false)), none, none), (.mov (.reg 23), none, none), (.fld 3 (.reg 2), none, some (24, true)), (.load none (.reg 25), none, some (24, true)), (.fld 3 (.reg 3), none, some (24, true)), (.load none (.reg 27), none, some (24, true)), (.bin .eql (.reg 26) (.reg 28), none, some (24, true)), (.pick (.reg 24) (.reg 29) (.con (.bool false)), none, none), (.mov (.reg 30), none, none), (.fld 4 (.reg 2), none, some (31, true)), (.load none (.reg 32), none, some (31, true)), (.fld 4 (.reg 3), none, some (31, true)), (.load none (.reg 34), none, some (31, true)), (.call n_slices_Equal_int [.view, .view] false [.reg 33, .reg 35], none, some (31, true)), (.pick (.reg 31) (.reg 36) (.con (.bool false)), none, none), (.mov (.reg 37), none, none), (.fld 5 (.reg 2), none, some (38, true)), (.load none (.reg 39), none, some (38, true)), (.fld 5 (.reg 3), none, some (38, true)), (.load none (.reg 41), none, some (38, true)), (.call n_slices_Equal_bool [.view, .view] false [.reg 40, .reg 42], none, some (38, true)), (.pick (.reg 38) (.reg 43) (.con (.bool false)), none, none), (.mov (.reg 44), some 4, none)]) (.ret)) }
def s_impl_servedSo_1 : List (Option Nat) := [some 0, some 1, some 2, some 3, some 4]
def h_impl_servedSo_1 : HFunc := { np := 3, ns := 5, own := true, res := [(4, none)], body := .seq (.region [(.box (.reg 0), some 3, none), (.mov (.con (.bool false)), some 4, none)]) (.seq (.region [(.fld 0 (.reg 3), none, none), (.load none (.reg 5), none, none), (.fld 0 (.reg 1), none, none), (.load none (.reg 7), none, none), (.bin .eql (.reg 6) (.reg 8), none, none), (.mov (.reg 9), none, none), (.fld 2 (.reg 3), none, some (10, true)), (.load none (.reg 11), none, some (10, true)), (.fld 1 (.reg 1), none, some (10, true)), (.load none (.reg 13), none, some (10, true)), (.bin .eql (.reg 12) (.reg 14), none, some (10, true)), (.pick (.reg 10) (.reg 15) (.con (.bool false)), none, none), (.mov (.reg 16), none, none), (.fld 3 (.reg 3), none, some (17, true)), (.load (some 6) (.reg 18), none, some (17, true)), (.fld 2 (.reg 1), none, some (17, true)), (.load (some 6) (.reg 20), none, some (17, true)), (.call n_impl_sameReq [.view, .view] false [.reg 19, .reg 21], none, some (17, true)), (.pick (.reg 17) (.reg 22) (.con (.bool false)), none, none), (.mov (.reg 23), none, none), (.fld 9 (.reg 3), none, some (24, true)), (.load (some 6) (.reg 25), none, some (24, true)), (.load (some 6) (.reg 2), none, some (24, true)), (.call n_impl_sameResp [.view, .view] false [.reg 26, .reg 27], none, some (24, true)), (.pick (.reg 24) (.reg 28) (.con (.bool false)), none, none), (.mov (.reg 29), some 4, none)]) (.ret)) }
def s_slices_IndexFunc_Served : List (Option Nat) := [some 0, some 1, some 4, some 5, some 7, some 8, some 9, some 16]
def l_slices_IndexFunc_Served_0 : HCode := .seq (.region [(.bin .lss (.reg 5) (.reg 4), some 6, none)]) (.seq (.cond (.reg 6) (.skip) (.exit 0)) (.seq (.block 1 (.seq (.region [(.mov (.reg 5), none, none), (.mov (.reg 8), some 3, none)]) (.seq (.region [(.mov (.reg 1), none, none), (.mov (.reg 0), none, none), (.mov (.reg 3), none, none), (.idx 15 (.reg 9) (.reg 10), none, none), (.load (some 15) (.reg 11), none, none), (.dyn (.reg 8) [.reg 12], some 7, none)]) (.cond (.reg 7) (.seq (.region [(.mov (.reg 3), none, none), (.mov (.reg 8), some 2, none)]) (.ret)) (.skip))))) (.region [(.bin .add (.reg 5) (.con (.int .i64 1)), none, none), (.mov (.reg 8), some 5, none)])))
def h_slices_IndexFunc_Served : HFunc := { np := 2, ns := 8, own := true, res := [(2, none)], body := .seq (.region [(.mov (.con (.int .i64 0)), some 2, none)]) (.seq (.seq (.region [(.mov (.reg 0), none, none), (.len (.reg 8), some 4, none), (.mov (.con (.int .i64 0)), some 5, none)]) (.block 0 (.loop [2, 3, 6, 7] l_slices_IndexFunc_Served_0))) (.seq (.region [(.mov (.con (.int .i64 (-1))), some 2, none)]) (.ret))) }
def s_slices_ContainsFunc_Served : List (Option Nat) := [some 0, some 1, some 4]
def h_slices_ContainsFunc_Served : HFunc := { np := 2, ns := 3, own := true, res := [(2, none)], body := .seq (.region [(.mov (.con (.bool false)), some 2, none)]) (.seq (.region [(.mov (.reg 0), none, none), (.mov (.reg 1), none, none), (.call n_slices_IndexFunc_Served [.view, .view] false [.reg 3, .reg 4], none, none), (.bin .geq (.reg 5) (.con (.int .i64 0)), none, none), (.mov (.reg 6), some 2, none)]) (.ret)) }
def s_impl_servedSo : List (Option Nat) := [some 0, some 1, some 2, some 3, some 4, some 5, some 6]
def h_impl_servedSo : HFunc := { np := 3, ns := 7, own := true, res := [(6, none)], body := .seq (.region [(.box (.reg 0), some 3, none), (.box (.reg 1), some 4, none), (.box (.reg 2), some 5, none), (.mov (.con (.bool false)), some 6, none)]) (.seq (.region [(.fld 14 (.reg 3), none, none), (.load none (.reg 7), none, none), (.func n_impl_servedSo_1 [.reg 4, .reg 5], none, none), (.call n_slices_ContainsFunc_Served [.view, .view] false [.reg 8, .reg 9], none, none), (.mov (.reg 10), some 6, none)]) (.ret)) }
def s_impl_ServedEach : List (Option Nat) := [some 0, some 1, some 2, some 4, some 5, some 6, some 8, some 9, some 10, some 12, some 13, some 14, some 15, some 27, some 28, some 29, some 30, some 47, some 53, some 54, some 55, some 56, some 71, some 72, some 73, some 74, some 98]
def l_impl_ServedEach_0 : HCode := .seq (.region [(.bin .lss (.reg 15) (.reg 14), some 16, none)]) (.seq (.cond (.reg 16) (.skip) (.exit 2)) (.seq (.block 3 (.seq (.region [(.mov (.reg 15), none, none), (.idx 6 (.reg 13) (.reg 15), none, none), (.load (some 6) (.reg 28), none, none), (.alloc [.int .i64 0, .int .i64 0, .int .i64 0, .int .i64 0, .own 1 [], .own 1 []], some 5, none), (.mov (.reg 27), some 4, none), (.store (some 6) false (.reg 5) (.reg 29), none, none)]) (.seq (.draw 14 [⟨0, .fld 1 (.reg 5), none, none, [false, false, false, false, false, false, false, false, false, false, false, false, false, false], false⟩, ⟨1, .load none (.reg 27), none, none, [true, false, false, false, false, false, false, false, false, false, false, false, false, false], false⟩, ⟨2, .bin .neq (.reg 28) (.con (.int .i64 11)), none, none, [true, true, false, false, false, false, false, false, false, false, false, false, false, false], false⟩, ⟨3, .mov (.reg 29), none, none, [true, true, true, false, false, false, false, false, false, false, false, false, false, false], false⟩, ⟨4, .load (some 15) (.reg 1), none, some (30, true), [true, true, true, true, false, false, false, false, false, false, false, false, false, false], false⟩, ⟨5, .fld 8 (.reg 3), none, some (30, true), [true, true, true, true, false, false, false, false, false, false, false, false, false, false], false⟩, ⟨6, .load none (.reg 32), none, some (30, true), [true, true, true, true, false, true, false, false, false, false, false, false, false, false], false⟩, ⟨7, .mov (.reg 4), none, some (30, true), [true, true, true, true, false, false, false, false, false, false, false, false, false, false], false⟩, ⟨8, .idx 8 (.reg 33) (.reg 34), none, some (30, true), [true, true, true, true, false, true, true, true, false, false, false, false, false, false], false⟩, ⟨9, .load (some 8) (.reg 35), none, some (30, true), [true, true, true, true, false, true, true, true, true, false, false, false, false, false], false⟩, ⟨10, .load (some 6) (.reg 5), none, some (30, true), [true, true, true, true, false, false, false, false, false, false, false, false, false, false], false⟩, ⟨11, .call n_impl_servedSo [.view, .view, .view] false [.reg 31, .reg 36, .reg 37], none, some (30, true), [true, true, true, true, true, true, true, true, true, true, true, false, false, false], false⟩, ⟨12, .un .not (.reg 38), none, some (30, true), [true, true, true, true, true, true, true, true, true, true, true, true, false, false], false⟩, ⟨13, .pick (.reg 30) (.reg 39) (.con (.bool false)), some 17, none, [true, true, true, true, true, true, true, true, true, true, true, true, true, false], true⟩]) (.cond (.reg 17) (.seq (.region [(.mov (.con (.bool false)), some 2, none)]) (.ret)) (.skip))))) (.region [(.bin .add (.reg 15) (.con (.int .i64 1)), none, none), (.mov (.reg 27), some 15, none)])))
def l_impl_ServedEach_1 : HCode := .seq (.region [(.bin .lss (.reg 11) (.reg 10), some 12, none)]) (.seq (.cond (.reg 12) (.skip) (.exit 0)) (.seq (.block 1 (.seq (.region [(.idx 16 (.reg 9) (.reg 11), none, none), (.load (some 16) (.reg 27), none, none), (.alloc [.int .i64 0, .int .i64 0, .int .i64 0, .int .i64 0, .int .i64 0, .own 1 [], .own 1 [], .int .i64 0, .own 8 [], .own 6 [], .int .i64 0, .int .i64 0, .int .i64 0, .int .i64 0, .own 1 [], .own 1 []], some 3, none), (.store (some 16) false (.reg 3) (.reg 28), none, none)]) (.seq (.region [(.fld 9 (.reg 3), none, none), (.load none (.reg 27), none, none), (.fld 9 (.reg 3), none, none), (.load none (.reg 29), none, none), (.len (.reg 30), none, none), (.fld 8 (.reg 3), none, none), (.load none (.reg 32), none, none), (.len (.reg 33), none, none), (.min2 (.reg 31) (.reg 34), none, none), (.slice 6 (.reg 28) none (some (.reg 35)), some 13, none), (.len (.reg 13), some 14, none), (.mov (.con (.int .i64 0)), some 15, none)]) (.block 2 (.loop [0, 2, 4, 5, 6, 7, 8, 12, 16, 17, 18, 19, 20, 21, 22, 23, 24, 25, 26] l_impl_ServedEach_0))))) (.region [(.bin .add (.reg 11) (.con (.int .i64 1)), none, none), (.mov (.reg 27), some 11, none)])))
def l_impl_ServedEach_2 : HCode := .seq (.region [(.bin .lss (.reg 24) (.reg 23), some 25, none)]) (.seq (.cond (.reg 25) (.skip) (.exit 6)) (.seq (.block 7 (.seq (.region [(.mov (.reg 24), none, none), (.idx 6 (.reg 22) (.reg 24), none, none), (.load (some 6) (.reg 28), none, none), (.alloc [.int .i64 0, .int .i64 0, .int .i64 0, .int .i64 0, .own 1 [], .own 1 []], some 8, none), (.mov (.reg 27), some 7, none), (.store (some 6) false (.reg 8) (.reg 29), none, none)]) (.seq (.draw 21 [⟨0, .fld 11 (.reg 6), none, none, [false, false, false, false, false, false, false, false, false, false, false, false, false, false, false, false, false, false, false, false, false], false⟩, ⟨1, .load none (.reg 27), none, none, [true, false, false, false, false, false, false, false, false, false, false, false, false, false, false, false, false, false, false, false, false], false⟩, ⟨2, .mov (.reg 7), none, none, [false, false, false, false, false, false, false, false, false, false, false, false, false, false, false, false, false, false, false, false, false], false⟩, ⟨3, .idx 1 (.reg 28) (.reg 29), none, none, [true, true, true, false, false, false, false, false, false, false, false, false, false, false, false, false, false, false, false, false, false], false⟩, ⟨4, .load none (.reg 30), none, none, [true, true, true, true, false, false, false, false, false, false, false, false, false, false, false, false, false, false, false, false, false], false⟩, ⟨5, .mov (.reg 31), none, none, [true, true, true, true, true, false, false, false, false, false, false, false, false, false, false, false, false, false, false, false, false], false⟩, ⟨6, .fld 1 (.reg 8), none, some (32, true), [true, true, true, true, true, true, false, false, false, false, false, false, false, false, false, false, false, false, false, false, false], false⟩, ⟨7, .load none (.reg 33), none, some (32, true), [true, true, true, true, true, true, true, false, false, false, false, false, false, false, false, false, false, false, false, false, false], false⟩, ⟨8, .bin .neq (.reg 34) (.con (.int .i64 11)), none, some (32, true), [true, true, true, true, true, true, true, true, false, false, false, false, false, false, false, false, false, false, false, false, false], false⟩, ⟨9, .pick (.reg 32) (.reg 35) (.con (.bool false)), none, none, [true, true, true, true, true, true, true, true, true, false, false, false, false, false, false, false, false, false, false, false, false], false⟩, ⟨10, .mov (.reg 36), none, none, [true, true, true, true, true, true, true, true, true, true, false, false, false, false, false, false, false, false, false, false, false], false⟩, ⟨11, .load (some 15) (.reg 1), none, some (37, true), [true, true, true, true, true, true, true, true, true, true, true, false, false, false, false, false, false, false, false, false, false], false⟩, ⟨12, .fld 10 (.reg 6), none, some (37, true), [true, true, true, true, true, true, true, true, true, true, true, false, false, false, false, false, false, false, false, false, false], false⟩, ⟨13, .load none (.reg 39), none, some (37, true), [true, true, true, true, true, true, true, true, true, true, true, false, true, false, false, false, false, false, false, false, false], false⟩, ⟨14, .mov (.reg 7), none, some (37, true), [true, true, true, true, true, true, true, true, true, true, true, false, false, false, false, false, false, false, false, false, false], false⟩, ⟨15, .idx 8 (.reg 40) (.reg 41), none, some (37, true), [true, true, true, true, true, true, true, true, true, true, true, false, true, true, true, false, false, false, false, false, false], false⟩, ⟨16, .load (some 8) (.reg 42), none, some (37, true), [true, true, true, true, true, true, true, true, true, true, true, false, true, true, true, true, false, false, false, false, false], false⟩, ⟨17, .load (some 6) (.reg 8), none, some (37, true), [true, true, true, true, true, true, true, true, true, true, true, false, false, false, false, false, false, false, false, false, false], false⟩, ⟨18, .call n_impl_servedSo [.view, .view, .view] false [.reg 38, .reg 43, .reg 44], none, some (37, true), [true, true, true, true, true, true, true, true, true, true, true, true, true, true, true, true, true, true, false, false, false], false⟩, ⟨19, .un .not (.reg 45), none, some (37, true), [true, true, true, true, true, true, true, true, true, true, true, true, true, true, true, true, true, true, true, false, false], false⟩, ⟨20, .pick (.reg 37) (.reg 46) (.con (.bool false)), some 26, none, [true, true, true, true, true, true, true, true, true, true, true, true, true, true, true, true, true, true, true, true, false], true⟩]) (.cond (.reg 26) (.seq (.region [(.mov (.con (.bool false)), some 2, none)]) (.ret)) (.skip))))) (.region [(.bin .add (.reg 24) (.con (.int .i64 1)), none, none), (.mov (.reg 27), some 24, none)])))
def l_impl_ServedEach_3 : HCode := .seq (.region [(.bin .lss (.reg 20) (.reg 19), some 21, none)]) (.seq (.cond (.reg 21) (.skip) (.exit 4)) (.seq (.block 5 (.seq (.region [(.idx 13 (.reg 18) (.reg 20), none, none), (.load (some 13) (.reg 27), none, none), (.alloc [.int .i64 0, .int .i64 0, .int .i64 0, .int .i64 0, .int .i64 0, .int .i64 0, .int .i64 0, .own 1 [], .own 1 [], .int .i64 0, .own 8 [], .own 1 [], .own 6 []], some 6, none), (.store (some 13) false (.reg 6) (.reg 28), none, none)]) (.seq (.region [(.fld 12 (.reg 6), none, none), (.load none (.reg 27), none, none), (.fld 12 (.reg 6), none, none), (.load none (.reg 29), none, none), (.len (.reg 30), none, none), (.fld 10 (.reg 6), none, none), (.load none (.reg 32), none, none), (.len (.reg 33), none, none), (.fld 11 (.reg 6), none, none), (.load none (.reg 35), none, none), (.len (.reg 36), none, none), (.min3 (.reg 31) (.reg 34) (.reg 37), none, none), (.slice 6 (.reg 28) none (some (.reg 38)), some 22, none), (.len (.reg 22), some 23, none), (.mov (.con (.int .i64 0)), some 24, none)]) (.block 6 (.loop [0, 2, 3, 4, 5, 7, 8, 9, 10, 11, 12, 13, 14, 15, 16, 17, 21, 25, 26] l_impl_ServedEach_2))))) (.region [(.bin .add (.reg 20) (.con (.int .i64 1)), none, none), (.mov (.reg 27), some 20, none)])))
def h_impl_ServedEach : HFunc := { np := 1, ns := 27, own := true, res := [(2, none)], body := .seq (.region [(.box (.reg 0), some 1, none), (.mov (.con (.bool false)), some 2, none)]) (.seq (.seq (.region [(.fld 13 (.reg 1), none, none), (.load none (.reg 27), some 9, none), (.len (.reg 9), some 10, none), (.mov (.con (.int .i64 0)), some 11, none)]) (.block 0 (.loop [0, 2, 3, 4, 5, 6, 7, 8, 12, 13, 14, 15, 16, 17, 18, 19, 20, 21, 22, 23, 24, 25, 26] l_impl_ServedEach_1))) (.seq (.seq (.region [(.fld 0 (.reg 1), none, none), (.fld 4 (.reg 27), none, none), (.fld 1 (.reg 28), none, none), (.load none (.reg 29), some 18, none), (.len (.reg 18), some 19, none), (.mov (.con (.int .i64 0)), some 20, none)]) (.block 4 (.loop [0, 2, 3, 4, 5, 6, 7, 8, 9, 10, 11, 12, 13, 14, 15, 16, 17, 21, 22, 23, 24, 25, 26] l_impl_ServedEach_3))) (.seq (.region [(.mov (.con (.bool true)), some 2, none)]) (.ret)))) }
def s_laws_eqRule : List (Option Nat) := [some 0, some 1, some 2, some 3, some 4, some 9, some 14, some 19, some 24, some 29, some 34, some 39]
def h_laws_eqRule : HFunc := { np := 2, ns := 12, own := true, res := [(4, none)], body := .seq (.region [(.box (.reg 0), some 2, none), (.box (.reg 1), some 3, none), (.mov (.con (.bool false)), some 4, none)]) (.seq (.seq (.region [(.fld 0 (.reg 2), none, none), (.load none (.reg 12), none, none), (.fld 0 (.reg 3), none, none), (.load none (.reg 14), none, none), (.bin .neq (.reg 13) (.reg 15), some 5, none)]) (.cond (.reg 5) (.seq (.region [(.mov (.con (.bool false)), some 4, none)]) (.ret)) (.skip))) (.seq (.seq (.region [(.fld 1 (.reg 2), none, none), (.load none (.reg 12), none, none), (.fld 1 (.reg 3), none, none), (.load none (.reg 14), none, none), (.bin .neq (.reg 13) (.reg 15), some 6, none)]) (.cond (.reg 6) (.seq (.region [(.mov (.con (.bool false)), some 4, none)]) (.ret)) (.skip))) (.seq (.seq (.region [(.fld 2 (.reg 2), none, none), (.load none (.reg 12), none, none), (.fld 2 (.reg 3), none, none), (.load none (.reg 14), none, none), (.bin .neq (.reg 13) (.reg 15), some 7, none)]) (.cond (.reg 7) (.seq (.region [(.mov (.con (.bool false)), some 4, none)]) (.ret)) (.skip))) (.seq (.seq (.region [(.fld 3 (.reg 2), none, none), (.load none (.reg 12), none, none), (.fld 3 (.reg 3), none, none), (.load none (.reg 14), none, none), (.bin .neq (.reg 13) (.reg 15), some 8, none)]) (.cond (.reg 8) (.seq (.region [(.mov (.con (.bool false)), some 4, none)]) (.ret)) (.skip))) (.seq (.seq (.region [(.fld 4 (.reg 2), none, none), (.load none (.reg 12), none, none), (.fld 4 (.reg 3), none, none), (.load none (.reg 14), none, none), (.bin .neq (.reg 13) (.reg 15), some 9, none)]) (.cond (.reg 9) (.seq (.region [(.mov (.con (.bool false)), some 4, none)]) (.ret)) (.skip))) (.seq (.seq (.region [(.fld 5 (.reg 2), none, none), (.load none (.reg 12), none, none), (.fld 5 (.reg 3), none, none), (.load none (.reg 14), none, none), (.bin .neq (.reg 13) (.reg 15), some 10, none)]) (.cond (.reg 10) (.seq (.region [(.mov (.con (.bool false)), some 4, none)]) (.ret)) (.skip))) (.seq (.seq (.region [(.fld 6 (.reg 2), none, none), (.load none (.reg 12), none, none), (.fld 6 (.reg 3), none, none), (.load none (.reg 14), none, none), (.bin .neq (.reg 13) (.reg 15), some 11, none)]) (.cond (.reg 11) (.seq (.region [(.mov (.con (.bool false)), some 4, none)]) (.ret)) (.skip))) (.seq (.region [(.mov (.con (.bool true)), some 4, none)]) (.ret))))))))) }
def s_laws_eqRuleS : List (Option Nat) := [some 0, some 1, some 4, some 5, some 10, some 14, some 26]
def l_laws_eqRuleS_0 : HCode := .seq (.seq (.region [(.mov (.reg 3), none, none), (.mov (.reg 0), none, none), (.len (.reg 8), none, none), (.bin .lss (.reg 7) (.reg 9), some 5, none)]) (.cond (.reg 5) (.skip) (.exit 0))) (.seq (.block 1 (.seq (.draw 10 [⟨0, .mov (.reg 0), none, none, [false, false, false, false, false, false, false, false, false, false], false⟩, ⟨1, .mov (.reg 3), none, none, [false, false, false, false, false, false, false, false, false, false], false⟩, ⟨2, .idx 7 (.reg 7) (.reg 8), none, none, [true, true, false, false, false, false, false, false, false, false], false⟩, ⟨3, .load (some 7) (.reg 9), none, none, [true, true, true, false, false, false, false, false, false, false], false⟩, ⟨4, .mov (.reg 1), none, none, [false, false, false, false, false, false, false, false, false, false], false⟩, ⟨5, .mov (.reg 3), none, none, [false, false, false, false, false, false, false, false, false, false], false⟩, ⟨6, .idx 7 (.reg 11) (.reg 12), none, none, [false, false, false, false, true, true, false, false, false, false], false⟩, ⟨7, .load (some 7) (.reg 13), none, none, [false, false, false, false, true, true, true, false, false, false], false⟩, ⟨8, .call n_laws_eqRule [.view, .view] false [.reg 10, .reg 14], none, none, [true, true, true, true, true, true, true, true, false, false], false⟩, ⟨9, .un .not (.reg 15), some 6, none, [true, true, true, true, true, true, true, true, true, false], true⟩]) (.cond (.reg 6) (.seq (.region [(.mov (.con (.bool false)), some 2, none)]) (.ret)) (.skip)))) (.region [(.mov (.reg 3), none, none), (.bin .add (.reg 7) (.con (.int .i64 1)), none, none), (.mov (.reg 8), some 3, none)]))
def h_laws_eqRuleS : HFunc := { np := 2, ns := 7, own := true, res := [(2, none)], body := .seq (.region [(.mov (.con (.bool false)), some 2, none)]) (.seq (.seq (.region [(.mov (.reg 0), none, none), (.len (.reg 7), none, none), (.mov (.reg 1), none, none), (.len (.reg 9), none, none), (.bin .neq (.reg 8) (.reg 10), some 4, none)]) (.cond (.reg 4) (.seq (.region [(.mov (.con (.bool false)), some 2, none)]) (.ret)) (.skip))) (.seq (.seq (.region [(.mov (.con (.int .i64 0)), some 3, none)]) (.block 0 (.loop [2, 4, 5, 6] l_laws_eqRuleS_0))) (.seq (.region [(.mov (.con (.bool true)), some 2, none)]) (.ret)))) }
def s_laws_eqConfig : List (Option Nat) := [some 0, some 1, some 2, some 3, some 4, some 9, some 14, some 20]
def h_laws_eqConfig : HFunc := { np := 2, ns := 8, own := true, res := [(4, none)], body := .seq (.region [(.box (.reg 0), some 2, none), (.box (.reg 1), some 3, none), (.mov (.con (.bool false)), some 4, none)]) (.seq (.seq (.region [(.fld 0 (.reg 2), none, none), (.load none (.reg 8), none, none), (.fld 0 (.reg 3), none, none), (.load none (.reg 10), none, none), (.bin .neq (.reg 9) (.reg 11), some 5, none)]) (.cond (.reg 5) (.seq (.region [(.mov (.con (.bool false)), some 4, none)]) (.ret)) (.skip))) (.seq (.seq (.region [(.fld 1 (.reg 2), none, none), (.load none (.reg 8), none, none), (.fld 1 (.reg 3), none, none), (.load none (.reg 10), none, none), (.bin .neq (.reg 9) (.reg 11), some 6, none)]) (.cond (.reg 6) (.seq (.region [(.mov (.con (.bool false)), some 4, none)]) (.ret)) (.skip))) (.seq (.seq (.region [(.fld 2 (.reg 2), none, none), (.load none (.reg 8), none, none), (.fld 2 (.reg 3), none, none), (.load none (.reg 10), none, none), (.call n_laws_eqRuleS [.view, .view] false [.reg 9, .reg 11], none, none), (.un .not (.reg 12), some 7, none)]) (.cond (.reg 7) (.seq (.region [(.mov (.con (.bool false)), some 4, none)]) (.ret)) (.skip))) (.seq (.region [(.mov (.con (.bool true)), some 4, none)]) (.ret))))) }
def s_laws_eqIntS : List (Option Nat) := [some 0, some 1, some 4, some 5, some 10, some 14, some 25]
def l_laws_eqIntS_0 : HCode := .seq (.seq (.region [(.mov (.reg 3), none, none), (.mov (.reg 0), none, none), (.len (.reg 8), none, none), (.bin .lss (.reg 7) (.reg 9), some 5, none)]) (.cond (.reg 5) (.skip) (.exit 0))) (.seq (.block 1 (.seq (.draw 9 [⟨0, .mov (.reg 0), none, none, [false, false, false, false, false, false, false, false, false], false⟩, ⟨1, .mov (.reg 3), none, none, [false, false, false, false, false, false, false, false, false], false⟩, ⟨2, .idx 1 (.reg 7) (.reg 8), none, none, [true, true, false, false, false, false, false, false, false], false⟩, ⟨3, .load none (.reg 9), none, none, [true, true, true, false, false, false, false, false, false], false⟩, ⟨4, .mov (.reg 1), none, none, [false, false, false, false, false, false, false, false, false], false⟩, ⟨5, .mov (.reg 3), none, none, [false, false, false, false, false, false, false, false, false], false⟩, ⟨6, .idx 1 (.reg 11) (.reg 12), none, none, [false, false, false, false, true, true, false, false, false], false⟩, ⟨7, .load none (.reg 13), none, none, [false, false, false, false, true, true, true, false, false], false⟩, ⟨8, .bin .neq (.reg 10) (.reg 14), some 6, none, [true, true, true, true, true, true, true, true, false], true⟩]) (.cond (.reg 6) (.seq (.region [(.mov (.con (.bool false)), some 2, none)]) (.ret)) (.skip)))) (.region [(.mov (.reg 3), none, none), (.bin .add (.reg 7) (.con (.int .i64 1)), none, none), (.mov (.reg 8), some 3, none)]))
def h_laws_eqIntS : HFunc := { np := 2, ns := 7, own := true, res := [(2, none)], body := .seq (.region [(.mov (.con (.bool false)), some 2, none)]) (.seq (.seq (.region [(.mov (.reg 0), none, none), (.len (.reg 7), none, none), (.mov (.reg 1), none, none), (.len (.reg 9), none, none), (.bin .neq (.reg 8) (.reg 10), some 4, none)]) (.cond (.reg 4) (.seq (.region [(.mov (.con (.bool false)), some 2, none)]) (.ret)) (.skip))) (.seq (.seq (.region [(.mov (.con (.int .i64 0)), some 3, none)]) (.block 0 (.loop [2, 4, 5, 6] l_laws_eqIntS_0))) (.seq (.region [(.mov (.con (.bool true)), some 2, none)]) (.ret)))) }
def s_laws_eqBoolS : List (Option Nat) := [some 0, some 1, some 4, some 5, some 10, some 14, some 25]
def l_laws_eqBoolS_0 : HCode := .seq (.seq (.region [(.mov (.reg 3), none, none), (.mov (.reg 0), none, none), (.len (.reg 8), none, none), (.bin .lss (.reg 7) (.reg 9), some 5, none)]) (.cond (.reg 5) (.skip) (.exit 0))) (.seq (.block 1 (.seq (.draw 9 [⟨0, .mov (.reg 0), none, none, [false, false, false, false, false, false, false, false, false], false⟩, ⟨1, .mov (.reg 3), none, none, [false, false, false, false, false, false, false, false, false], false⟩, ⟨2, .idx 1 (.reg 7) (.reg 8), none, none, [true, true, false, false, false, false, false, false, false], false⟩, ⟨3, .load none (.reg 9), none, none, [true, true, true, false, false, false, false, false, false], false⟩, ⟨4, .mov (.reg 1), none, none, [false, false, false, false, false, false, false, false, false], false⟩, ⟨5, .mov (.reg 3), none, none, [false, false, false, false, false, false, false, false, false], false⟩, ⟨6, .idx 1 (.reg 11) (.reg 12), none, none, [false, false, false, false, true, true, false, false, false], false⟩, ⟨7, .load none (.reg 13), none, none, [false, false, false, false, true, true, true, false, false], false⟩, ⟨8, .beq true (.reg 10) (.reg 14), some 6, none, [true, true, true, true, true, true, true, true, false], true⟩]) (.cond (.reg 6) (.seq (.region [(.mov (.con (.bool false)), some 2, none)]) (.ret)) (.skip)))) (.region [(.mov (.reg 3), none, none), (.bin .add (.reg 7) (.con (.int .i64 1)), none, none), (.mov (.reg 8), some 3, none)]))
def h_laws_eqBoolS : HFunc := { np := 2, ns := 7, own := true, res := [(2, none)], body := .seq (.region [(.mov (.con (.bool false)), some 2, none)]) (.seq (.seq (.region [(.mov (.reg 0), none, none), (.len (.reg 7), none, none), (.mov (.reg 1), none, none), (.len (.reg 9), none, none), (.bin .neq (.reg 8) (.reg 10), some 4, none)]) (.cond (.reg 4) (.seq (.region [(.mov (.con (.bool false)), some 2, none)]) (.ret)) (.skip))) (.seq (.seq (.region [(.mov (.con (.int .i64 0)), some 3, none)]) (.block 0 (.loop [2, 4, 5, 6] l_laws_eqBoolS_0))) (.seq (.region [(.mov (.con (.bool true)), some 2, none)]) (.ret)))) }
def s_laws_eqReq : List (Option Nat) := [some 0, some 1, some 2, some 3, some 4, some 9, some 14, some 19, some 25, some 31, some 36]
def h_laws_eqReq : HFunc := { np := 2, ns := 11, own := true, res := [(4, none)], body := .seq (.region [(.box (.reg 0), some 2, none), (.box (.reg 1), some 3, none), (.mov (.con (.bool false)), some 4, none)]) (.seq (.seq (.region [(.fld 0 (.reg 2), none, none), (.load none (.reg 11), none, none), (.fld 0 (.reg 3), none, none), (.load none (.reg 13), none, none), (.bin .neq (.reg 12) (.reg 14), some 5, none)]) (.cond (.reg 5) (.seq (.region [(.mov (.con (.bool false)), some 4, none)]) (.ret)) (.skip))) (.seq (.seq (.region [(.fld 1 (.reg 2), none, none), (.load none (.reg 11), none, none), (.fld 1 (.reg 3), none, none), (.load none (.reg 13), none, none), (.bin .neq (.reg 12) (.reg 14), some 6, none)]) (.cond (.reg 6) (.seq (.region [(.mov (.con (.bool false)), some 4, none)]) (.ret)) (.skip))) (.seq (.seq (.region [(.fld 2 (.reg 2), none, none), (.load none (.reg 11), none, none), (.fld 2 (.reg 3), none, none), (.load none (.reg 13), none, none), (.bin .neq (.reg 12) (.reg 14), some 7, none)]) (.cond (.reg 7) (.seq (.region [(.mov (.con (.bool false)), some 4, none)]) (.ret)) (.skip))) (.seq (.seq (.region [(.fld 3 (.reg 2), none, none), (.load none (.reg 11), none, none), (.fld 3 (.reg 3), none, none), (.load none (.reg 13), none, none), (.call n_laws_eqIntS [.view, .view] false [.reg 12, .reg 14], none, none), (.un .not (.reg 15), some 8, none)]) (.cond (.reg 8) (.seq (.region [(.mov (.con (.bool false)), some 4, none)]) (.ret)) (.skip))) (.seq (.seq (.region [(.fld 4 (.reg 2), none, none), (.load none (.reg 11), none, none), (.fld 4 (.reg 3), none, none), (.load none (.reg 13), none, none), (.call n_laws_eqBoolS [.view, .view] false [.reg 12, .reg 14], none, none), (.un .not (.reg 15), some 9, none)]) (.cond (.reg 9) (.seq (.region [(.mov (.con (.bool false)), some 4, none)]) (.ret)) (.skip))) (.seq (.seq (.region [(.fld 5 (.reg 2), none, none), (.load none (.reg 11), none, none), (.fld 5 (.reg 3), none, none), (.load none (.reg 13), none, none), (.bin .neq (.reg 12) (.reg 14), some 10, none)]) (.cond (.reg 10) (.seq (.region [(.mov (.con (.bool false)), some 4, none)]) (.ret)) (.skip))) (.seq (.region [(.mov (.con (.bool true)), some 4, none)]) (.ret)))))))) }
def s_laws_eqPart : List (Option Nat) := [some 0, some 1, some 2, some 3, some 4, some 9, some 14, some 20]
def h_laws_eqPart : HFunc := { np := 2, ns := 8, own := true, res := [(4, none)], body := .seq (.region [(.box (.reg 0), some 2, none), (.box (.reg 1), some 3, none), (.mov (.con (.bool false)), some 4, none)]) (.seq (.seq (.region [(.fld 0 (.reg 2), none, none), (.load none (.reg 8), none, none), (.fld 0 (.reg 3), none, none), (.load none (.reg 10), none, none), (.bin .neq (.reg 9) (.reg 11), some 5, none)]) (.cond (.reg 5) (.seq (.region [(.mov (.con (.bool false)), some 4, none)]) (.ret)) (.skip))) (.seq (.seq (.region [(.fld 1 (.reg 2), none, none), (.load none (.reg 8), none, none), (.fld 1 (.reg 3), none, none), (.load none (.reg 10), none, none), (.bin .neq (.reg 9) (.reg 11), some 6, none)]) (.cond (.reg 6) (.seq (.region [(.mov (.con (.bool false)), some 4, none)]) (.ret)) (.skip))) (.seq (.seq (.region [(.fld 2 (.reg 2), none, none), (.load (some 6) (.reg 8), none, none), (.fld 2 (.reg 3), none, none), (.load (some 6) (.reg 10), none, none), (.call n_laws_eqReq [.view, .view] false [.reg 9, .reg 11], none, none), (.un .not (.reg 12), some 7, none)]) (.cond (.reg 7) (.seq (.region [(.mov (.con (.bool false)), some 4, none)]) (.ret)) (.skip))) (.seq (.region [(.mov (.con (.bool true)), some 4, none)]) (.ret))))) }
def s_laws_eqPartS : List (Option Nat) := [some 0, some 1, some 4, some 5, some 10, some 14, some 26]
def l_laws_eqPartS_0 : HCode := .seq (.seq (.region [(.mov (.reg 3), none, none), (.mov (.reg 0), none, none), (.len (.reg 8), none, none), (.bin .lss (.reg 7) (.reg 9), some 5, none)]) (.cond (.reg 5) (.skip) (.exit 0))) (.seq (.block 1 (.seq (.draw 10 [⟨0, .mov (.reg 0), none, none, [false, false, false, false, false, false, false, false, false, false], false⟩, ⟨1, .mov (.reg 3), none, none, [false, false, false, false, false, false, false, false, false, false], false⟩, ⟨2, .idx 8 (.reg 7) (.reg 8), none, none, [true, true, false, false, false, false, false, false, false, false], false⟩, ⟨3, .load (some 8) (.reg 9), none, none, [true, true, true, false, false, false, false, false, false, false], false⟩, ⟨4, .mov (.reg 1), none, none, [false, false, false, false, false, false, false, false, false, false], false⟩, ⟨5, .mov (.reg 3), none, none, [false, false, false, false, false, false, false, false, false, false], false⟩, ⟨6, .idx 8 (.reg 11) (.reg 12), none, none, [false, false, false, false, true, true, false, false, false, false], false⟩, ⟨7, .load (some 8) (.reg 13), none, none, [false, false, false, false, true, true, true, false, false, false], false⟩, ⟨8, .call n_laws_eqPart [.view, .view] false [.reg 10, .reg 14], none, none, [true, true, true, true, true, true, true, true, false, false], false⟩, ⟨9, .un .not (.reg 15), some 6, none, [true, true, true, true, true, true, true, true, true, false], true⟩]) (.cond (.reg 6) (.seq (.region [(.mov (.con (.bool false)), some 2, none)]) (.ret)) (.skip)))) (.region [(.mov (.reg 3), none, none), (.bin .add (.reg 7) (.con (.int .i64 1)), none, none), (.mov (.reg 8), some 3, none)]))
def h_laws_eqPartS : HFunc := { np := 2, ns := 7, own := true, res := [(2, none)], body := .seq (.region [(.mov (.con (.bool false)), some 2, none)]) (.seq (.seq (.region [(.mov (.reg 0), none, none), (.len (.reg 7), none, none), (.mov (.reg 1), none, none), (.len (.reg 9), none, none), (.bin .neq (.reg 8) (.reg 10), some 4, none)]) (.cond (.reg 4) (.seq (.region [(.mov (.con (.bool false)), some 2, none)]) (.ret)) (.skip))) (.seq (.seq (.region [(.mov (.con (.int .i64 0)), some 3, none)]) (.block 0 (.loop [2, 4, 5, 6] l_laws_eqPartS_0))) (.seq (.region [(.mov (.con (.bool true)), some 2, none)]) (.ret)))) }
def s_laws_eqResp : List (Option Nat) := [some 0, some 1, some 2, some 3, some 4, some 9, some 14, some 19, some 24, some 30, some 36]
def h_laws_eqResp : HFunc := { np := 2, ns := 11, own := true, res := [(4, none)], body := .seq (.region [(.box (.reg 0), some 2, none), (.box (.reg 1), some 3, none), (.mov (.con (.bool false)), some 4, none)]) (.seq (.seq (.region [(.fld 0 (.reg 2), none, none), (.load none (.reg 11), none, none), (.fld 0 (.reg 3), none, none), (.load none (.reg 13), none, none), (.bin .neq (.reg 12) (.reg 14), some 5, none)]) (.cond (.reg 5) (.seq (.region [(.mov (.con (.bool false)), some 4, none)]) (.ret)) (.skip))) (.seq (.seq (.region [(.fld 1 (.reg 2), none, none), (.load none (.reg 11), none, none), (.fld 1 (.reg 3), none, none), (.load none (.reg 13), none, none), (.bin .neq (.reg 12) (.reg 14), some 6, none)]) (.cond (.reg 6) (.seq (.region [(.mov (.con (.bool false)), some 4, none)]) (.ret)) (.skip))) (.seq (.seq (.region [(.fld 2 (.reg 2), none, none), (.load none (.reg 11), none, none), (.fld 2 (.reg 3), none, none), (.load none (.reg 13), none, none), (.bin .neq (.reg 12) (.reg 14), some 7, none)]) (.cond (.reg 7) (.seq (.region [(.mov (.con (.bool false)), some 4, none)]) (.ret)) (.skip))) (.seq (.seq (.region [(.fld 3 (.reg 2), none, none), (.load none (.reg 11), none, none), (.fld 3 (.reg 3), none, none), (.load none (.reg 13), none, none), (.bin .neq (.reg 12) (.reg 14), some 8, none)]) (.cond (.reg 8) (.seq (.region [(.mov (.con (.bool false)), some 4, none)]) (.ret)) (.skip))) (.seq (.seq (.region [(.fld 4 (.reg 2), none, none), (.load none (.reg 11), none, none), (.fld 4 (.reg 3), none, none), (.load none (.reg 13), none, none), (.call n_laws_eqIntS [.view, .view] false [.reg 12, .reg 14], none, none), (.un .not (.reg 15), some 9, none)]) (.cond (.reg 9) (.seq (.region [(.mov (.con (.bool false)), some 4, none)]) (.ret)) (.skip))) (.seq (.seq (.region [(.fld 5 (.reg 2), none, none), (.load none (.reg 11), none, none), (.fld 5 (.reg 3), none, none), (.load none (.reg 13), none, none), (.call n_laws_eqBoolS [.view, .view] false [.reg 12, .reg 14], none, none), (.un .not (.reg 15), some 10, none)]) (.cond (.reg 10) (.seq (.region [(.mov (.con (.bool false)), some 4, none)]) (.ret)) (.skip))) (.seq (.region [(.mov (.con (.bool true)), some 4, none)]) (.ret)))))))) }
def s_laws_eqRespS : List (Option Nat) := [some 0, some 1, some 4, some 5, some 10, some 14, some 26]
def l_laws_eqRespS_0 : HCode := .seq (.seq (.region [(.mov (.reg 3), none, none), (.mov (.reg 0), none, none), (.len (.reg 8), none, none), (.bin .lss (.reg 7) (.reg 9), some 5, none)]) (.cond (.reg 5) (.skip) (.exit 0))) (.seq (.block 1 (.seq (.draw 10 [⟨0, .mov (.reg 0), none, none, [false, false, false, false, false, false, false, false, false, false], false⟩, ⟨1, .mov (.reg 3), none, none, [false, false, false, false, false, false, false, false, false, false], false⟩, ⟨2, .idx 6 (.reg 7) (.reg 8), none, none, [true, true, false, false, false, false, false, false, false, false], false⟩, ⟨3, .load (some 6) (.reg 9), none, none, [true, true, true, false, false, false, false, false, false, false], false⟩, ⟨4, .mov (.reg 1), none, none, [false, false, false, false, false, false, false, false, false, false], false⟩, ⟨5, .mov (.reg 3), none, none, [false, false, false, false, false, false, false, false, false, false], false⟩, ⟨6, .idx 6 (.reg 11) (.reg 12), none, none, [false, false, false, false, true, true, false, false, false, false], false⟩, ⟨7, .load (some 6) (.reg 13), none, none, [false, false, false, false, true, true, true, false, false, false], false⟩, ⟨8, .call n_laws_eqResp [.view, .view] false [.reg 10, .reg 14], none, none, [true, true, true, true, true, true, true, true, false, false], false⟩, ⟨9, .un .not (.reg 15), some 6, none, [true, true, true, true, true, true, true, true, true, false], true⟩]) (.cond (.reg 6) (.seq (.region [(.mov (.con (.bool false)), some 2, none)]) (.ret)) (.skip)))) (.region [(.mov (.reg 3), none, none), (.bin .add (.reg 7) (.con (.int .i64 1)), none, none), (.mov (.reg 8), some 3, none)]))
def h_laws_eqRespS : HFunc := { np := 2, ns := 7, own := true, res := [(2, none)], body := .seq (.region [(.mov (.con (.bool false)), some 2, none)]) (.seq (.seq (.region [(.mov (.reg 0), none, none), (.len (.reg 7), none, none), (.mov (.reg 1), none, none), (.len (.reg 9), none, none), (.bin .neq (.reg 8) (.reg 10), some 4, none)]) (.cond (.reg 4) (.seq (.region [(.mov (.con (.bool false)), some 2, none)]) (.ret)) (.skip))) (.seq (.seq (.region [(.mov (.con (.int .i64 0)), some 3, none)]) (.block 0 (.loop [2, 4, 5, 6] l_laws_eqRespS_0))) (.seq (.region [(.mov (.con (.bool true)), some 2, none)]) (.ret)))) }
def s_laws_eqPend : List (Option Nat) := [some 0, some 1, some 2, some 3, some 4, some 9, some 14, some 19, some 24, some 30, some 36, some 42, some 48]
def h_laws_eqPend : HFunc := { np := 2, ns := 13, own := true, res := [(4, none)], body := .seq (.region [(.box (.reg 0), some 2, none), (.box (.reg 1), some 3, none), (.mov (.con (.bool false)), some 4, none)]) (.seq (.seq (.region [(.fld 0 (.reg 2), none, none), (.load none (.reg 13), none, none), (.fld 0 (.reg 3), none, none), (.load none (.reg 15), none, none), (.bin .neq (.reg 14) (.reg 16), some 5, none)]) (.cond (.reg 5) (.seq (.region [(.mov (.con (.bool false)), some 4, none)]) (.ret)) (.skip))) (.seq (.seq (.region [(.fld 1 (.reg 2), none, none), (.load none (.reg 13), none, none), (.fld 1 (.reg 3), none, none), (.load none (.reg 15), none, none), (.bin .neq (.reg 14) (.reg 16), some 6, none)]) (.cond (.reg 6) (.seq (.region [(.mov (.con (.bool false)), some 4, none)]) (.ret)) (.skip))) (.seq (.seq (.region [(.fld 2 (.reg 2), none, none), (.load none (.reg 13), none, none), (.fld 2 (.reg 3), none, none), (.load none (.reg 15), none, none), (.bin .neq (.reg 14) (.reg 16), some 7, none)]) (.cond (.reg 7) (.seq (.region [(.mov (.con (.bool false)), some 4, none)]) (.ret)) (.skip))) (.seq (.seq (.region [(.fld 3 (.reg 2), none, none), (.load none (.reg 13), none, none), (.fld 3 (.reg 3), none, none), (.load none (.reg 15), none, none), (.bin .neq (.reg 14) (.reg 16), some 8, none)]) (.cond (.reg 8) (.seq (.region [(.mov (.con (.bool false)), some 4, none)]) (.ret)) (.skip))) (.seq (.seq (.region [(.fld 4 (.reg 2), none, none), (.load (some 6) (.reg 13), none, none), (.fld 4 (.reg 3), none, none), (.load (some 6) (.reg 15), none, none), (.call n_laws_eqReq [.view, .view] false [.reg 14, .reg 16], none, none), (.un .not (.reg 17), some 9, none)]) (.cond (.reg 9) (.seq (.region [(.mov (.con (.bool false)), some 4, none)]) (.ret)) (.skip))) (.seq (.seq (.region [(.fld 10 (.reg 2), none, none), (.load none (.reg 13), none, none), (.fld 10 (.reg 3), none, none), (.load none (.reg 15), none, none), (.call n_laws_eqPartS [.view, .view] false [.reg 14, .reg 16], none, none), (.un .not (.reg 17), some 10, none)]) (.cond (.reg 10) (.seq (.region [(.mov (.con (.bool false)), some 4, none)]) (.ret)) (.skip))) (.seq (.seq (.region [(.fld 11 (.reg 2), none, none), (.load none (.reg 13), none, none), (.fld 11 (.reg 3), none, none), (.load none (.reg 15), none, none), (.call n_laws_eqBoolS [.view, .view] false [.reg 14, .reg 16], none, none), (.un .not (.reg 17), some 11, none)]) (.cond (.reg 11) (.seq (.region [(.mov (.con (.bool false)), some 4, none)]) (.ret)) (.skip))) (.seq (.seq (.region [(.fld 12 (.reg 2), none, none), (.load none (.reg 13), none, none), (.fld 12 (.reg 3), none, none), (.load none (.reg 15), none, none), (.call n_laws_eqRespS [.view, .view] false [.reg 14, .reg 16], none, none), (.un .not (.reg 17), some 12, none)]) (.cond (.reg 12) (.seq (.region [(.mov (.con (.bool false)), some 4, none)]) (.ret)) (.skip))) (.seq (.region [(.mov (.con (.bool true)), some 4, none)]) (.ret)))))))))) }
def s_laws_eqPendS : List (Option Nat) := [some 0, some 1, some 4, some 5, some 10, some 14, some 26]
def l_laws_eqPendS_0 : HCode := .seq (.seq (.region [(.mov (.reg 3), none, none), (.mov (.reg 0), none, none), (.len (.reg 8), none, none), (.bin .lss (.reg 7) (.reg 9), some 5, none)]) (.cond (.reg 5) (.skip) (.exit 0))) (.seq (.block 1 (.seq (.draw 10 [⟨0, .mov (.reg 0), none, none, [false, false, false, false, false, false, false, false, false, false], false⟩, ⟨1, .mov (.reg 3), none, none, [false, false, false, false, false, false, false, false, false, false], false⟩, ⟨2, .idx 13 (.reg 7) (.reg 8), none, none, [true, true, false, false, false, false, false, false, false, false], false⟩, ⟨3, .load (some 13) (.reg 9), none, none, [true, true, true, false, false, false, false, false, false, false], false⟩, ⟨4, .mov (.reg 1), none, none, [false, false, false, false, false, false, false, false, false, false], false⟩, ⟨5, .mov (.reg 3), none, none, [false, false, false, false, false, false, false, false, false, false], false⟩, ⟨6, .idx 13 (.reg 11) (.reg 12), none, none, [false, false, false, false, true, true, false, false, false, false], false⟩, ⟨7, .load (some 13) (.reg 13), none, none, [false, false, false, false, true, true, true, false, false, false], false⟩, ⟨8, .call n_laws_eqPend [.view, .view] false [.reg 10, .reg 14], none, none, [true, true, true, true, true, true, true, true, false, false], false⟩, ⟨9, .un .not (.reg 15), some 6, none, [true, true, true, true, true, true, true, true, true, false], true⟩]) (.cond (.reg 6) (.seq (.region [(.mov (.con (.bool false)), some 2, none)]) (.ret)) (.skip)))) (.region [(.mov (.reg 3), none, none), (.bin .add (.reg 7) (.con (.int .i64 1)), none, none), (.mov (.reg 8), some 3, none)]))
def h_laws_eqPendS : HFunc := { np := 2, ns := 7, own := true, res := [(2, none)], body := .seq (.region [(.mov (.con (.bool false)), some 2, none)]) (.seq (.seq (.region [(.mov (.reg 0), none, none), (.len (.reg 7), none, none), (.mov (.reg 1), none, none), (.len (.reg 9), none, none), (.bin .neq (.reg 8) (.reg 10), some 4, none)]) (.cond (.reg 4) (.seq (.region [(.mov (.con (.bool false)), some 2, none)]) (.ret)) (.skip))) (.seq (.seq (.region [(.mov (.con (.int .i64 0)), some 3, none)]) (.block 0 (.loop [2, 4, 5, 6] l_laws_eqPendS_0))) (.seq (.region [(.mov (.con (.bool true)), some 2, none)]) (.ret)))) }
def s_laws_eqTable : List (Option Nat) := [some 0, some 1, some 2, some 3, some 4, some 9, some 15]
def h_laws_eqTable : HFunc := { np := 2, ns := 7, own := true, res := [(4, none)], body := .seq (.region [(.box (.reg 0), some 2, none), (.box (.reg 1), some 3, none), (.mov (.con (.bool false)), some 4, none)]) (.seq (.seq (.region [(.fld 0 (.reg 2), none, none), (.load none (.reg 7), none, none), (.fld 0 (.reg 3), none, none), (.load none (.reg 9), none, none), (.bin .neq (.reg 8) (.reg 10), some 5, none)]) (.cond (.reg 5) (.seq (.region [(.mov (.con (.bool false)), some 4, none)]) (.ret)) (.skip))) (.seq (.seq (.region [(.fld 1 (.reg 2), none, none), (.load none (.reg 7), none, none), (.fld 1 (.reg 3), none, none), (.load none (.reg 9), none, none), (.call n_laws_eqPendS [.view, .view] false [.reg 8, .reg 10], none, none), (.un .not (.reg 11), some 6, none)]) (.cond (.reg 6) (.seq (.region [(.mov (.con (.bool false)), some 4, none)]) (.ret)) (.skip))) (.seq (.region [(.mov (.con (.bool true)), some 4, none)]) (.ret)))) }
def s_laws_eqCall : List (Option Nat) := [some 0, some 1, some 2, some 3, some 4, some 9, some 14, some 19, some 25]
def h_laws_eqCall : HFunc := { np := 2, ns := 9, own := true, res := [(4, none)], body := .seq (.region [(.box (.reg 0), some 2, none), (.box (.reg 1), some 3, none), (.mov (.con (.bool false)), some 4, none)]) (.seq (.seq (.region [(.fld 0 (.reg 2), none, none), (.load none (.reg 9), none, none), (.fld 0 (.reg 3), none, none), (.load none (.reg 11), none, none), (.bin .neq (.reg 10) (.reg 12), some 5, none)]) (.cond (.reg 5) (.seq (.region [(.mov (.con (.bool false)), some 4, none)]) (.ret)) (.skip))) (.seq (.seq (.region [(.fld 1 (.reg 2), none, none), (.load none (.reg 9), none, none), (.fld 1 (.reg 3), none, none), (.load none (.reg 11), none, none), (.bin .neq (.reg 10) (.reg 12), some 6, none)]) (.cond (.reg 6) (.seq (.region [(.mov (.con (.bool false)), some 4, none)]) (.ret)) (.skip))) (.seq (.seq (.region [(.fld 2 (.reg 2), none, none), (.load none (.reg 9), none, none), (.fld 2 (.reg 3), none, none), (.load none (.reg 11), none, none), (.bin .neq (.reg 10) (.reg 12), some 7, none)]) (.cond (.reg 7) (.seq (.region [(.mov (.con (.bool false)), some 4, none)]) (.ret)) (.skip))) (.seq (.seq (.region [(.fld 3 (.reg 2), none, none), (.load (some 6) (.reg 9), none, none), (.fld 3 (.reg 3), none, none), (.load (some 6) (.reg 11), none, none), (.call n_laws_eqReq [.view, .view] false [.reg 10, .reg 12], none, none), (.un .not (.reg 13), some 8, none)]) (.cond (.reg 8) (.seq (.region [(.mov (.con (.bool false)), some 4, none)]) (.ret)) (.skip))) (.seq (.region [(.mov (.con (.bool true)), some 4, none)]) (.ret)))))) }
def s_laws_eqCallS : List (Option Nat) := [some 0, some 1, some 4, some 5, some 10, some 14, some 26]
def l_laws_eqCallS_0 : HCode := .seq (.seq (.region [(.mov (.reg 3), none, none), (.mov (.reg 0), none, none), (.len (.reg 8), none, none), (.bin .lss (.reg 7) (.reg 9), some 5, none)]) (.cond (.reg 5) (.skip) (.exit 0))) (.seq (.block 1 (.seq (.draw 10 [⟨0, .mov (.reg 0), none, none, [false, false, false, false, false, false, false, false, false, false], false⟩, ⟨1, .mov (.reg 3), none, none, [false, false, false, false, false, false, false, false, false, false], false⟩, ⟨2, .idx 9 (.reg 7) (.reg 8), none, none, [true, true, false, false, false, false, false, false, false, false], false⟩, ⟨3, .load (some 9) (.reg 9), none, none, [true, true, true, false, false, false, false, false, false, false], false⟩, ⟨4, .mov (.reg 1), none, none, [false, false, false, false, false, false, false, false, false, false], false⟩, ⟨5, .mov (.reg 3), none, none, [false, false, false, false, false, false, false, false, false, false], false⟩, ⟨6, .idx 9 (.reg 11) (.reg 12), none, none, [false, false, false, false, true, true, false, false, false, false], false⟩, ⟨7, .load (some 9) (.reg 13), none, none, [false, false, false, false, true, true, true, false, false, false], false⟩, ⟨8, .call n_laws_eqCall [.view, .view] false [.reg 10, .reg 14], none, none, [true, true, true, true, true, true, true, true, false, false], false⟩, ⟨9, .un .not (.reg 15), some 6, none, [true, true, true, true, true, true, true, true, true, false], true⟩]) (.cond (.reg 6) (.seq (.region [(.mov (.con (.bool false)), some 2, none)]) (.ret)) (.skip)))) (.region [(.mov (.reg 3), none, none), (.bin .add (.reg 7) (.con (.int .i64 1)), none, none), (.mov (.reg 8), some 3, none)]))
def h_laws_eqCallS : HFunc := { np := 2, ns := 7, own := true, res := [(2, none)], body := .seq (.region [(.mov (.con (.bool false)), some 2, none)]) (.seq (.seq (.region [(.mov (.reg 0), none, none), (.len (.reg 7), none, none), (.mov (.reg 1), none, none), (.len (.reg 9), none, none), (.bin .neq (.reg 8) (.reg 10), some 4, none)]) (.cond (.reg 4) (.seq (.region [(.mov (.con (.bool false)), some 2, none)]) (.ret)) (.skip))) (.seq (.seq (.region [(.mov (.con (.int .i64 0)), some 3, none)]) (.block 0 (.loop [2, 4, 5, 6] l_laws_eqCallS_0))) (.seq (.region [(.mov (.con (.bool true)), some 2, none)]) (.ret)))) }
def s_laws_eqLine : List (Option Nat) := [some 0, some 1, some 2, some 3, some 4, some 10, some 15, some 21, some 26, some 31, some 36, some 41, some 46, some 51]
def h_laws_eqLine : HFunc := { np := 2, ns := 14, own := true, res := [(4, none)], body := .seq (.region [(.box (.reg 0), some 2, none), (.box (.reg 1), some 3, none), (.mov (.con (.bool false)), some 4, none)]) (.seq (.seq (.region [(.fld 0 (.reg 2), none, none), (.load none (.reg 14), none, none), (.fld 0 (.reg 3), none, none), (.load none (.reg 16), none, none), (.call n_laws_eqCallS [.view, .view] false [.reg 15, .reg 17], none, none), (.un .not (.reg 18), some 5, none)]) (.cond (.reg 5) (.seq (.region [(.mov (.con (.bool false)), some 4, none)]) (.ret)) (.skip))) (.seq (.seq (.region [(.fld 1 (.reg 2), none, none), (.load none (.reg 14), none, none), (.fld 1 (.reg 3), none, none), (.load none (.reg 16), none, none), (.beq true (.reg 15) (.reg 17), some 6, none)]) (.cond (.reg 6) (.seq (.region [(.mov (.con (.bool false)), some 4, none)]) (.ret)) (.skip))) (.seq (.seq (.region [(.fld 2 (.reg 2), none, none), (.load (some 9) (.reg 14), none, none), (.fld 2 (.reg 3), none, none), (.load (some 9) (.reg 16), none, none), (.call n_laws_eqCall [.view, .view] false [.reg 15, .reg 17], none, none), (.un .not (.reg 18), some 7, none)]) (.cond (.reg 7) (.seq (.region [(.mov (.con (.bool false)), some 4, none)]) (.ret)) (.skip))) (.seq (.seq (.region [(.fld 11 (.reg 2), none, none), (.load none (.reg 14), none, none), (.fld 11 (.reg 3), none, none), (.load none (.reg 16), none, none), (.bin .neq (.reg 15) (.reg 17), some 8, none)]) (.cond (.reg 8) (.seq (.region [(.mov (.con (.bool false)), some 4, none)]) (.ret)) (.skip))) (.seq (.seq (.region [(.fld 12 (.reg 2), none, none), (.load none (.reg 14), none, none), (.fld 12 (.reg 3), none, none), (.load none (.reg 16), none, none), (.bin .neq (.reg 15) (.reg 17), some 9, none)]) (.cond (.reg 9) (.seq (.region [(.mov (.con (.bool false)), some 4, none)]) (.ret)) (.skip))) (.seq (.seq (.region [(.fld 13 (.reg 2), none, none), (.load none (.reg 14), none, none), (.fld 13 (.reg 3), none, none), (.load none (.reg 16), none, none), (.bin .neq (.reg 15) (.reg 17), some 10, none)]) (.cond (.reg 10) (.seq (.region [(.mov (.con (.bool false)), some 4, none)]) (.ret)) (.skip))) (.seq (.seq (.region [(.fld 14 (.reg 2), none, none), (.load none (.reg 14), none, none), (.fld 14 (.reg 3), none, none), (.load none (.reg 16), none, none), (.bin .neq (.reg 15) (.reg 17), some 11, none)]) (.cond (.reg 11) (.seq (.region [(.mov (.con (.bool false)), some 4, none)]) (.ret)) (.skip))) (.seq (.seq (.region [(.fld 15 (.reg 2), none, none), (.load none (.reg 14), none, none), (.fld 15 (.reg 3), none, none), (.load none (.reg 16), none, none), (.bin .neq (.reg 15) (.reg 17), some 12, none)]) (.cond (.reg 12) (.seq (.region [(.mov (.con (.bool false)), some 4, none)]) (.ret)) (.skip))) (.seq (.seq (.region [(.fld 16 (.reg 2), none, none), (.load none (.reg 14), none, none), (.fld 16 (.reg 3), none, none), (.load none (.reg 16), none, none), (.bin .neq (.reg 15) (.reg 17), some 13, none)]) (.cond (.reg 13) (.seq (.region [(.mov (.con (.bool false)), some 4, none)]) (.ret)) (.skip))) (.seq (.region [(.mov (.con (.bool true)), some 4, none)]) (.ret))))))))))) }
def s_laws_eqLineS : List (Option Nat) := [some 0, some 1, some 4, some 5, some 10, some 14, some 26]
def l_laws_eqLineS_0 : HCode := .seq (.seq (.region [(.mov (.reg 3), none, none), (.mov (.reg 0), none, none), (.len (.reg 8), none, none), (.bin .lss (.reg 7) (.reg 9), some 5, none)]) (.cond (.reg 5) (.skip) (.exit 0))) (.seq (.block 1 (.seq (.draw 10 [⟨0, .mov (.reg 0), none, none, [false, false, false, false, false, false, false, false, false, false], false⟩, ⟨1, .mov (.reg 3), none, none, [false, false, false, false, false, false, false, false, false, false], false⟩, ⟨2, .idx 17 (.reg 7) (.reg 8), none, none, [true, true, false, false, false, false, false, false, false, false], false⟩, ⟨3, .load (some 17) (.reg 9), none, none, [true, true, true, false, false, false, false, false, false, false], false⟩, ⟨4, .mov (.reg 1), none, none, [false, false, false, false, false, false, false, false, false, false], false⟩, ⟨5, .mov (.reg 3), none, none, [false, false, false, false, false, false, false, false, false, false], false⟩, ⟨6, .idx 17 (.reg 11) (.reg 12), none, none, [false, false, false, false, true, true, false, false, false, false], false⟩, ⟨7, .load (some 17) (.reg 13), none, none, [false, false, false, false, true, true, true, false, false, false], false⟩, ⟨8, .call n_laws_eqLine [.view, .view] false [.reg 10, .reg 14], none, none, [true, true, true, true, true, true, true, true, false, false], false⟩, ⟨9, .un .not (.reg 15), some 6, none, [true, true, true, true, true, true, true, true, true, false], true⟩]) (.cond (.reg 6) (.seq (.region [(.mov (.con (.bool false)), some 2, none)]) (.ret)) (.skip)))) (.region [(.mov (.reg 3), none, none), (.bin .add (.reg 7) (.con (.int .i64 1)), none, none), (.mov (.reg 8), some 3, none)]))
def h_laws_eqLineS : HFunc := { np := 2, ns := 7, own := true, res := [(2, none)], body := .seq (.region [(.mov (.con (.bool false)), some 2, none)]) (.seq (.seq (.region [(.mov (.reg 0), none, none), (.len (.reg 7), none, none), (.mov (.reg 1), none, none), (.len (.reg 9), none, none), (.bin .neq (.reg 8) (.reg 10), some 4, none)]) (.cond (.reg 4) (.seq (.region [(.mov (.con (.bool false)), some 2, none)]) (.ret)) (.skip))) (.seq (.seq (.region [(.mov (.con (.int .i64 0)), some 3, none)]) (.block 0 (.loop [2, 4, 5, 6] l_laws_eqLineS_0))) (.seq (.region [(.mov (.con (.bool true)), some 2, none)]) (.ret)))) }
def s_laws_eqFabric : List (Option Nat) := [some 0, some 1, some 2, some 3, some 4, some 9, some 15, some 21, some 27, some 32, some 37, some 42, some 47]
def h_laws_eqFabric : HFunc := { np := 2, ns := 13, own := true, res := [(4, none)], body := .seq (.region [(.box (.reg 0), some 2, none), (.box (.reg 1), some 3, none), (.mov (.con (.bool false)), some 4, none)]) (.seq (.seq (.region [(.fld 0 (.reg 2), none, none), (.load none (.reg 13), none, none), (.fld 0 (.reg 3), none, none), (.load none (.reg 15), none, none), (.bin .neq (.reg 14) (.reg 16), some 5, none)]) (.cond (.reg 5) (.seq (.region [(.mov (.con (.bool false)), some 4, none)]) (.ret)) (.skip))) (.seq (.seq (.region [(.fld 1 (.reg 2), none, none), (.load (some 3) (.reg 13), none, none), (.fld 1 (.reg 3), none, none), (.load (some 3) (.reg 15), none, none), (.call n_laws_eqConfig [.view, .view] false [.reg 14, .reg 16], none, none), (.un .not (.reg 17), some 6, none)]) (.cond (.reg 6) (.seq (.region [(.mov (.con (.bool false)), some 4, none)]) (.ret)) (.skip))) (.seq (.seq (.region [(.fld 4 (.reg 2), none, none), (.load (some 2) (.reg 13), none, none), (.fld 4 (.reg 3), none, none), (.load (some 2) (.reg 15), none, none), (.call n_laws_eqTable [.view, .view] false [.reg 14, .reg 16], none, none), (.un .not (.reg 17), some 7, none)]) (.cond (.reg 7) (.seq (.region [(.mov (.con (.bool false)), some 4, none)]) (.ret)) (.skip))) (.seq (.seq (.region [(.fld 6 (.reg 2), none, none), (.load none (.reg 13), none, none), (.fld 6 (.reg 3), none, none), (.load none (.reg 15), none, none), (.call n_laws_eqLineS [.view, .view] false [.reg 14, .reg 16], none, none), (.un .not (.reg 17), some 8, none)]) (.cond (.reg 8) (.seq (.region [(.mov (.con (.bool false)), some 4, none)]) (.ret)) (.skip))) (.seq (.seq (.region [(.fld 7 (.reg 2), none, none), (.load none (.reg 13), none, none), (.fld 7 (.reg 3), none, none), (.load none (.reg 15), none, none), (.bin .neq (.reg 14) (.reg 16), some 9, none)]) (.cond (.reg 9) (.seq (.region [(.mov (.con (.bool false)), some 4, none)]) (.ret)) (.skip))) (.seq (.seq (.region [(.fld 8 (.reg 2), none, none), (.load none (.reg 13), none, none), (.fld 8 (.reg 3), none, none), (.load none (.reg 15), none, none), (.bin .neq (.reg 14) (.reg 16), some 10, none)]) (.cond (.reg 10) (.seq (.region [(.mov (.con (.bool false)), some 4, none)]) (.ret)) (.skip))) (.seq (.seq (.region [(.fld 9 (.reg 2), none, none), (.load none (.reg 13), none, none), (.fld 9 (.reg 3), none, none), (.load none (.reg 15), none, none), (.bin .neq (.reg 14) (.reg 16), some 11, none)]) (.cond (.reg 11) (.seq (.region [(.mov (.con (.bool false)), some 4, none)]) (.ret)) (.skip))) (.seq (.seq (.region [(.fld 10 (.reg 2), none, none), (.load none (.reg 13), none, none), (.fld 10 (.reg 3), none, none), (.load none (.reg 15), none, none), (.bin .neq (.reg 14) (.reg 16), some 12, none)]) (.cond (.reg 12) (.seq (.region [(.mov (.con (.bool false)), some 4, none)]) (.ret)) (.skip))) (.seq (.region [(.mov (.con (.bool true)), some 4, none)]) (.ret)))))))))) }
def s_laws_eqDevice : List (Option Nat) := [some 0, some 1, some 2, some 3, some 4, some 10, some 16, some 22, some 28]
def h_laws_eqDevice : HFunc := { np := 2, ns := 9, own := true, res := [(4, none)], body := .seq (.region [(.box (.reg 0), some 2, none), (.box (.reg 1), some 3, none), (.mov (.con (.bool false)), some 4, none)]) (.seq (.seq (.region [(.fld 0 (.reg 2), none, none), (.load none (.reg 9), none, none), (.fld 0 (.reg 3), none, none), (.load none (.reg 11), none, none), (.call n_laws_eqBoolS [.view, .view] false [.reg 10, .reg 12], none, none), (.un .not (.reg 13), some 5, none)]) (.cond (.reg 5) (.seq (.region [(.mov (.con (.bool false)), some 4, none)]) (.ret)) (.skip))) (.seq (.seq (.region [(.fld 1 (.reg 2), none, none), (.load none (.reg 9), none, none), (.fld 1 (.reg 3), none, none), (.load none (.reg 11), none, none), (.call n_laws_eqBoolS [.view, .view] false [.reg 10, .reg 12], none, none), (.un .not (.reg 13), some 6, none)]) (.cond (.reg 6) (.seq (.region [(.mov (.con (.bool false)), some 4, none)]) (.ret)) (.skip))) (.seq (.seq (.region [(.fld 2 (.reg 2), none, none), (.load none (.reg 9), none, none), (.fld 2 (.reg 3), none, none), (.load none (.reg 11), none, none), (.call n_laws_eqIntS [.view, .view] false [.reg 10, .reg 12], none, none), (.un .not (.reg 13), some 7, none)]) (.cond (.reg 7) (.seq (.region [(.mov (.con (.bool false)), some 4, none)]) (.ret)) (.skip))) (.seq (.seq (.region [(.fld 3 (.reg 2), none, none), (.load none (.reg 9), none, none), (.fld 3 (.reg 3), none, none), (.load none (.reg 11), none, none), (.call n_laws_eqIntS [.view, .view] false [.reg 10, .reg 12], none, none), (.un .not (.reg 13), some 8, none)]) (.cond (.reg 8) (.seq (.region [(.mov (.con (.bool false)), some 4, none)]) (.ret)) (.skip))) (.seq (.region [(.mov (.con (.bool true)), some 4, none)]) (.ret)))))) }
def s_laws_eqPost : List (Option Nat) := [some 0, some 1, some 2, some 3, some 4, some 9, some 14, some 20]
def h_laws_eqPost : HFunc := { np := 2, ns := 8, own := true, res := [(4, none)], body := .seq (.region [(.box (.reg 0), some 2, none), (.box (.reg 1), some 3, none), (.mov (.con (.bool false)), some 4, none)]) (.seq (.seq (.region [(.fld 0 (.reg 2), none, none), (.load none (.reg 8), none, none), (.fld 0 (.reg 3), none, none), (.load none (.reg 10), none, none), (.bin .neq (.reg 9) (.reg 11), some 5, none)]) (.cond (.reg 5) (.seq (.region [(.mov (.con (.bool false)), some 4, none)]) (.ret)) (.skip))) (.seq (.seq (.region [(.fld 1 (.reg 2), none, none), (.load none (.reg 8), none, none), (.fld 1 (.reg 3), none, none), (.load none (.reg 10), none, none), (.bin .neq (.reg 9) (.reg 11), some 6, none)]) (.cond (.reg 6) (.seq (.region [(.mov (.con (.bool false)), some 4, none)]) (.ret)) (.skip))) (.seq (.seq (.region [(.fld 2 (.reg 2), none, none), (.load (some 4) (.reg 8), none, none), (.fld 2 (.reg 3), none, none), (.load (some 4) (.reg 10), none, none), (.call n_laws_eqDevice [.view, .view] false [.reg 9, .reg 11], none, none), (.un .not (.reg 12), some 7, none)]) (.cond (.reg 7) (.seq (.region [(.mov (.con (.bool false)), some 4, none)]) (.ret)) (.skip))) (.seq (.region [(.mov (.con (.bool true)), some 4, none)]) (.ret))))) }
def s_laws_eqPostS : List (Option Nat) := [some 0, some 1, some 4, some 5, some 10, some 14, some 26]
def l_laws_eqPostS_0 : HCode := .seq (.seq (.region [(.mov (.reg 3), none, none), (.mov (.reg 0), none, none), (.len (.reg 8), none, none), (.bin .lss (.reg 7) (.reg 9), some 5, none)]) (.cond (.reg 5) (.skip) (.exit 0))) (.seq (.block 1 (.seq (.draw 10 [⟨0, .mov (.reg 0), none, none, [false, false, false, false, false, false, false, false, false, false], false⟩, ⟨1, .mov (.reg 3), none, none, [false, false, false, false, false, false, false, false, false, false], false⟩, ⟨2, .idx 6 (.reg 7) (.reg 8), none, none, [true, true, false, false, false, false, false, false, false, false], false⟩, ⟨3, .load (some 6) (.reg 9), none, none, [true, true, true, false, false, false, false, false, false, false], false⟩, ⟨4, .mov (.reg 1), none, none, [false, false, false, false, false, false, false, false, false, false], false⟩, ⟨5, .mov (.reg 3), none, none, [false, false, false, false, false, false, false, false, false, false], false⟩, ⟨6, .idx 6 (.reg 11) (.reg 12), none, none, [false, false, false, false, true, true, false, false, false, false], false⟩, ⟨7, .load (some 6) (.reg 13), none, none, [false, false, false, false, true, true, true, false, false, false], false⟩, ⟨8, .call n_laws_eqPost [.view, .view] false [.reg 10, .reg 14], none, none, [true, true, true, true, true, true, true, true, false, false], false⟩, ⟨9, .un .not (.reg 15), some 6, none, [true, true, true, true, true, true, true, true, true, false], true⟩]) (.cond (.reg 6) (.seq (.region [(.mov (.con (.bool false)), some 2, none)]) (.ret)) (.skip)))) (.region [(.mov (.reg 3), none, none), (.bin .add (.reg 7) (.con (.int .i64 1)), none, none), (.mov (.reg 8), some 3, none)]))
def h_laws_eqPostS : HFunc := { np := 2, ns := 7, own := true, res := [(2, none)], body := .seq (.region [(.mov (.con (.bool false)), some 2, none)]) (.seq (.seq (.region [(.mov (.reg 0), none, none), (.len (.reg 7), none, none), (.mov (.reg 1), none, none), (.len (.reg 9), none, none), (.bin .neq (.reg 8) (.reg 10), some 4, none)]) (.cond (.reg 4) (.seq (.region [(.mov (.con (.bool false)), some 2, none)]) (.ret)) (.skip))) (.seq (.seq (.region [(.mov (.con (.int .i64 0)), some 3, none)]) (.block 0 (.loop [2, 4, 5, 6] l_laws_eqPostS_0))) (.seq (.region [(.mov (.con (.bool true)), some 2, none)]) (.ret)))) }
def s_laws_eqPacket : List (Option Nat) := [some 0, some 1, some 2, some 3, some 4, some 9, some 14, some 19, some 24, some 30, some 36]
def h_laws_eqPacket : HFunc := { np := 2, ns := 11, own := true, res := [(4, none)], body := .seq (.region [(.box (.reg 0), some 2, none), (.box (.reg 1), some 3, none), (.mov (.con (.bool false)), some 4, none)]) (.seq (.seq (.region [(.fld 0 (.reg 2), none, none), (.load none (.reg 11), none, none), (.fld 0 (.reg 3), none, none), (.load none (.reg 13), none, none), (.beq true (.reg 12) (.reg 14), some 5, none)]) (.cond (.reg 5) (.seq (.region [(.mov (.con (.bool false)), some 4, none)]) (.ret)) (.skip))) (.seq (.seq (.region [(.fld 1 (.reg 2), none, none), (.load none (.reg 11), none, none), (.fld 1 (.reg 3), none, none), (.load none (.reg 13), none, none), (.bin .neq (.reg 12) (.reg 14), some 6, none)]) (.cond (.reg 6) (.seq (.region [(.mov (.con (.bool false)), some 4, none)]) (.ret)) (.skip))) (.seq (.seq (.region [(.fld 2 (.reg 2), none, none), (.load none (.reg 11), none, none), (.fld 2 (.reg 3), none, none), (.load none (.reg 13), none, none), (.bin .neq (.reg 12) (.reg 14), some 7, none)]) (.cond (.reg 7) (.seq (.region [(.mov (.con (.bool false)), some 4, none)]) (.ret)) (.skip))) (.seq (.seq (.region [(.fld 3 (.reg 2), none, none), (.load none (.reg 11), none, none), (.fld 3 (.reg 3), none, none), (.load none (.reg 13), none, none), (.bin .neq (.reg 12) (.reg 14), some 8, none)]) (.cond (.reg 8) (.seq (.region [(.mov (.con (.bool false)), some 4, none)]) (.ret)) (.skip))) (.seq (.seq (.region [(.fld 4 (.reg 2), none, none), (.load (some 6) (.reg 11), none, none), (.fld 4 (.reg 3), none, none), (.load (some 6) (.reg 13), none, none), (.call n_laws_eqReq [.view, .view] false [.reg 12, .reg 14], none, none), (.un .not (.reg 15), some 9, none)]) (.cond (.reg 9) (.seq (.region [(.mov (.con (.bool false)), some 4, none)]) (.ret)) (.skip))) (.seq (.seq (.region [(.fld 10 (.reg 2), none, none), (.load (some 6) (.reg 11), none, none), (.fld 10 (.reg 3), none, none), (.load (some 6) (.reg 13), none, none), (.call n_laws_eqResp [.view, .view] false [.reg 12, .reg 14], none, none), (.un .not (.reg 15), some 10, none)]) (.cond (.reg 10) (.seq (.region [(.mov (.con (.bool false)), some 4, none)]) (.ret)) (.skip))) (.seq (.region [(.mov (.con (.bool true)), some 4, none)]) (.ret)))))))) }
def s_laws_eqPacketS : List (Option Nat) := [some 0, some 1, some 4, some 5, some 10, some 14, some 26]
def l_laws_eqPacketS_0 : HCode := .seq (.seq (.region [(.mov (.reg 3), none, none), (.mov (.reg 0), none, none), (.len (.reg 8), none, none), (.bin .lss (.reg 7) (.reg 9), some 5, none)]) (.cond (.reg 5) (.skip) (.exit 0))) (.seq (.block 1 (.seq (.draw 10 [⟨0, .mov (.reg 0), none, none, [false, false, false, false, false, false, false, false, false, false], false⟩, ⟨1, .mov (.reg 3), none, none, [false, false, false, false, false, false, false, false, false, false], false⟩, ⟨2, .idx 16 (.reg 7) (.reg 8), none, none, [true, true, false, false, false, false, false, false, false, false], false⟩, ⟨3, .load (some 16) (.reg 9), none, none, [true, true, true, false, false, false, false, false, false, false], false⟩, ⟨4, .mov (.reg 1), none, none, [false, false, false, false, false, false, false, false, false, false], false⟩, ⟨5, .mov (.reg 3), none, none, [false, false, false, false, false, false, false, false, false, false], false⟩, ⟨6, .idx 16 (.reg 11) (.reg 12), none, none, [false, false, false, false, true, true, false, false, false, false], false⟩, ⟨7, .load (some 16) (.reg 13), none, none, [false, false, false, false, true, true, true, false, false, false], false⟩, ⟨8, .call n_laws_eqPacket [.view, .view] false [.reg 10, .reg 14], none, none, [true, true, true, true, true, true, true, true, false, false], false⟩, ⟨9, .un .not (.reg 15), some 6, none, [true, true, true, true, true, true, true, true, true, false], true⟩]) (.cond (.reg 6) (.seq (.region [(.mov (.con (.bool false)), some 2, none)]) (.ret)) (.skip)))) (.region [(.mov (.reg 3), none, none), (.bin .add (.reg 7) (.con (.int .i64 1)), none, none), (.mov (.reg 8), some 3, none)]))
def h_laws_eqPacketS : HFunc := { np := 2, ns := 7, own := true, res := [(2, none)], body := .seq (.region [(.mov (.con (.bool false)), some 2, none)]) (.seq (.seq (.region [(.mov (.reg 0), none, none), (.len (.reg 7), none, none), (.mov (.reg 1), none, none), (.len (.reg 9), none, none), (.bin .neq (.reg 8) (.reg 10), some 4, none)]) (.cond (.reg 4) (.seq (.region [(.mov (.con (.bool false)), some 2, none)]) (.ret)) (.skip))) (.seq (.seq (.region [(.mov (.con (.int .i64 0)), some 3, none)]) (.block 0 (.loop [2, 4, 5, 6] l_laws_eqPacketS_0))) (.seq (.region [(.mov (.con (.bool true)), some 2, none)]) (.ret)))) }
def s_laws_eqReply : List (Option Nat) := [some 0, some 1, some 2, some 3, some 4, some 9, some 14, some 20, some 26, some 32, some 38]
def h_laws_eqReply : HFunc := { np := 2, ns := 11, own := true, res := [(4, none)], body := .seq (.region [(.box (.reg 0), some 2, none), (.box (.reg 1), some 3, none), (.mov (.con (.bool false)), some 4, none)]) (.seq (.seq (.region [(.fld 0 (.reg 2), none, none), (.load none (.reg 11), none, none), (.fld 0 (.reg 3), none, none), (.load none (.reg 13), none, none), (.bin .neq (.reg 12) (.reg 14), some 5, none)]) (.cond (.reg 5) (.seq (.region [(.mov (.con (.bool false)), some 4, none)]) (.ret)) (.skip))) (.seq (.seq (.region [(.fld 1 (.reg 2), none, none), (.load none (.reg 11), none, none), (.fld 1 (.reg 3), none, none), (.load none (.reg 13), none, none), (.bin .neq (.reg 12) (.reg 14), some 6, none)]) (.cond (.reg 6) (.seq (.region [(.mov (.con (.bool false)), some 4, none)]) (.ret)) (.skip))) (.seq (.seq (.region [(.fld 2 (.reg 2), none, none), (.load (some 6) (.reg 11), none, none), (.fld 2 (.reg 3), none, none), (.load (some 6) (.reg 13), none, none), (.call n_laws_eqReq [.view, .view] false [.reg 12, .reg 14], none, none), (.un .not (.reg 15), some 7, none)]) (.cond (.reg 7) (.seq (.region [(.mov (.con (.bool false)), some 4, none)]) (.ret)) (.skip))) (.seq (.seq (.region [(.fld 8 (.reg 2), none, none), (.load none (.reg 11), none, none), (.fld 8 (.reg 3), none, none), (.load none (.reg 13), none, none), (.call n_laws_eqPartS [.view, .view] false [.reg 12, .reg 14], none, none), (.un .not (.reg 15), some 8, none)]) (.cond (.reg 8) (.seq (.region [(.mov (.con (.bool false)), some 4, none)]) (.ret)) (.skip))) (.seq (.seq (.region [(.fld 9 (.reg 2), none, none), (.load none (.reg 11), none, none), (.fld 9 (.reg 3), none, none), (.load none (.reg 13), none, none), (.call n_laws_eqRespS [.view, .view] false [.reg 12, .reg 14], none, none), (.un .not (.reg 15), some 9, none)]) (.cond (.reg 9) (.seq (.region [(.mov (.con (.bool false)), some 4, none)]) (.ret)) (.skip))) (.seq (.seq (.region [(.fld 10 (.reg 2), none, none), (.load (some 6) (.reg 11), none, none), (.fld 10 (.reg 3), none, none), (.load (some 6) (.reg 13), none, none), (.call n_laws_eqResp [.view, .view] false [.reg 12, .reg 14], none, none), (.un .not (.reg 15), some 10, none)]) (.cond (.reg 10) (.seq (.region [(.mov (.con (.bool false)), some 4, none)]) (.ret)) (.skip))) (.seq (.region [(.mov (.con (.bool true)), some 4, none)]) (.ret)))))))) }
def s_laws_eqReplyS : List (Option Nat) := [some 0, some 1, some 4, some 5, some 10, some 14, some 26]
def l_laws_eqReplyS_0 : HCode := .seq (.seq (.region [(.mov (.reg 3), none, none), (.mov (.reg 0), none, none), (.len (.reg 8), none, none), (.bin .lss (.reg 7) (.reg 9), some 5, none)]) (.cond (.reg 5) (.skip) (.exit 0))) (.seq (.block 1 (.seq (.draw 10 [⟨0, .mov (.reg 0), none, none, [false, false, false, false, false, false, false, false, false, false], false⟩, ⟨1, .mov (.reg 3), none, none, [false, false, false, false, false, false, false, false, false, false], false⟩, ⟨2, .idx 16 (.reg 7) (.reg 8), none, none, [true, true, false, false, false, false, false, false, false, false], false⟩, ⟨3, .load (some 16) (.reg 9), none, none, [true, true, true, false, false, false, false, false, false, false], false⟩, ⟨4, .mov (.reg 1), none, none, [false, false, false, false, false, false, false, false, false, false], false⟩, ⟨5, .mov (.reg 3), none, none, [false, false, false, false, false, false, false, false, false, false], false⟩, ⟨6, .idx 16 (.reg 11) (.reg 12), none, none, [false, false, false, false, true, true, false, false, false, false], false⟩, ⟨7, .load (some 16) (.reg 13), none, none, [false, false, false, false, true, true, true, false, false, false], false⟩, ⟨8, .call n_laws_eqReply [.view, .view] false [.reg 10, .reg 14], none, none, [true, true, true, true, true, true, true, true, false, false], false⟩, ⟨9, .un .not (.reg 15), some 6, none, [true, true, true, true, true, true, true, true, true, false], true⟩]) (.cond (.reg 6) (.seq (.region [(.mov (.con (.bool false)), some 2, none)]) (.ret)) (.skip)))) (.region [(.mov (.reg 3), none, none), (.bin .add (.reg 7) (.con (.int .i64 1)), none, none), (.mov (.reg 8), some 3, none)]))
def h_laws_eqReplyS : HFunc := { np := 2, ns := 7, own := true, res := [(2, none)], body := .seq (.region [(.mov (.con (.bool false)), some 2, none)]) (.seq (.seq (.region [(.mov (.reg 0), none, none), (.len (.reg 7), none, none), (.mov (.reg 1), none, none), (.len (.reg 9), none, none), (.bin .neq (.reg 8) (.reg 10), some 4, none)]) (.cond (.reg 4) (.seq (.region [(.mov (.con (.bool false)), some 2, none)]) (.ret)) (.skip))) (.seq (.seq (.region [(.mov (.con (.int .i64 0)), some 3, none)]) (.block 0 (.loop [2, 4, 5, 6] l_laws_eqReplyS_0))) (.seq (.region [(.mov (.con (.bool true)), some 2, none)]) (.ret)))) }
def s_laws_eqServed : List (Option Nat) := [some 0, some 1, some 2, some 3, some 4, some 9, some 14, some 19, some 25, some 31]
def h_laws_eqServed : HFunc := { np := 2, ns := 10, own := true, res := [(4, none)], body := .seq (.region [(.box (.reg 0), some 2, none), (.box (.reg 1), some 3, none), (.mov (.con (.bool false)), some 4, none)]) (.seq (.seq (.region [(.fld 0 (.reg 2), none, none), (.load none (.reg 10), none, none), (.fld 0 (.reg 3), none, none), (.load none (.reg 12), none, none), (.bin .neq (.reg 11) (.reg 13), some 5, none)]) (.cond (.reg 5) (.seq (.region [(.mov (.con (.bool false)), some 4, none)]) (.ret)) (.skip))) (.seq (.seq (.region [(.fld 1 (.reg 2), none, none), (.load none (.reg 10), none, none), (.fld 1 (.reg 3), none, none), (.load none (.reg 12), none, none), (.bin .neq (.reg 11) (.reg 13), some 6, none)]) (.cond (.reg 6) (.seq (.region [(.mov (.con (.bool false)), some 4, none)]) (.ret)) (.skip))) (.seq (.seq (.region [(.fld 2 (.reg 2), none, none), (.load none (.reg 10), none, none), (.fld 2 (.reg 3), none, none), (.load none (.reg 12), none, none), (.bin .neq (.reg 11) (.reg 13), some 7, none)]) (.cond (.reg 7) (.seq (.region [(.mov (.con (.bool false)), some 4, none)]) (.ret)) (.skip))) (.seq (.seq (.region [(.fld 3 (.reg 2), none, none), (.load (some 6) (.reg 10), none, none), (.fld 3 (.reg 3), none, none), (.load (some 6) (.reg 12), none, none), (.call n_laws_eqReq [.view, .view] false [.reg 11, .reg 13], none, none), (.un .not (.reg 14), some 8, none)]) (.cond (.reg 8) (.seq (.region [(.mov (.con (.bool false)), some 4, none)]) (.ret)) (.skip))) (.seq (.seq (.region [(.fld 9 (.reg 2), none, none), (.load (some 6) (.reg 10), none, none), (.fld 9 (.reg 3), none, none), (.load (some 6) (.reg 12), none, none), (.call n_laws_eqResp [.view, .view] false [.reg 11, .reg 13], none, none), (.un .not (.reg 14), some 9, none)]) (.cond (.reg 9) (.seq (.region [(.mov (.con (.bool false)), some 4, none)]) (.ret)) (.skip))) (.seq (.region [(.mov (.con (.bool true)), some 4, none)]) (.ret))))))) }
def s_laws_eqServedS : List (Option Nat) := [some 0, some 1, some 4, some 5, some 10, some 14, some 26]
def l_laws_eqServedS_0 : HCode := .seq (.seq (.region [(.mov (.reg 3), none, none), (.mov (.reg 0), none, none), (.len (.reg 8), none, none), (.bin .lss (.reg 7) (.reg 9), some 5, none)]) (.cond (.reg 5) (.skip) (.exit 0))) (.seq (.block 1 (.seq (.draw 10 [⟨0, .mov (.reg 0), none, none, [false, false, false, false, false, false, false, false, false, false], false⟩, ⟨1, .mov (.reg 3), none, none, [false, false, false, false, false, false, false, false, false, false], false⟩, ⟨2, .idx 15 (.reg 7) (.reg 8), none, none, [true, true, false, false, false, false, false, false, false, false], false⟩, ⟨3, .load (some 15) (.reg 9), none, none, [true, true, true, false, false, false, false, false, false, false], false⟩, ⟨4, .mov (.reg 1), none, none, [false, false, false, false, false, false, false, false, false, false], false⟩, ⟨5, .mov (.reg 3), none, none, [false, false, false, false, false, false, false, false, false, false], false⟩, ⟨6, .idx 15 (.reg 11) (.reg 12), none, none, [false, false, false, false, true, true, false, false, false, false], false⟩, ⟨7, .load (some 15) (.reg 13), none, none, [false, false, false, false, true, true, true, false, false, false], false⟩, ⟨8, .call n_laws_eqServed [.view, .view] false [.reg 10, .reg 14], none, none, [true, true, true, true, true, true, true, true, false, false], false⟩, ⟨9, .un .not (.reg 15), some 6, none, [true, true, true, true, true, true, true, true, true, false], true⟩]) (.cond (.reg 6) (.seq (.region [(.mov (.con (.bool false)), some 2, none)]) (.ret)) (.skip)))) (.region [(.mov (.reg 3), none, none), (.bin .add (.reg 7) (.con (.int .i64 1)), none, none), (.mov (.reg 8), some 3, none)]))
def h_laws_eqServedS : HFunc := { np := 2, ns := 7, own := true, res := [(2, none)], body := .seq (.region [(.mov (.con (.bool false)), some 2, none)]) (.seq (.seq (.region [(.mov (.reg 0), none, none), (.len (.reg 7), none, none), (.mov (.reg 1), none, none), (.len (.reg 9), none, none), (.bin .neq (.reg 8) (.reg 10), some 4, none)]) (.cond (.reg 4) (.seq (.region [(.mov (.con (.bool false)), some 2, none)]) (.ret)) (.skip))) (.seq (.seq (.region [(.mov (.con (.int .i64 0)), some 3, none)]) (.block 0 (.loop [2, 4, 5, 6] l_laws_eqServedS_0))) (.seq (.region [(.mov (.con (.bool true)), some 2, none)]) (.ret)))) }
def s_laws_eqWorld : List (Option Nat) := [some 0, some 1, some 2, some 3, some 4, some 10, some 16, some 22, some 28, some 34]
def h_laws_eqWorld : HFunc := { np := 2, ns := 10, own := true, res := [(4, none)], body := .seq (.region [(.box (.reg 0), some 2, none), (.box (.reg 1), some 3, none), (.mov (.con (.bool false)), some 4, none)]) (.seq (.seq (.region [(.fld 0 (.reg 2), none, none), (.load (some 11) (.reg 10), none, none), (.fld 0 (.reg 3), none, none), (.load (some 11) (.reg 12), none, none), (.call n_laws_eqFabric [.view, .view] false [.reg 11, .reg 13], none, none), (.un .not (.reg 14), some 5, none)]) (.cond (.reg 5) (.seq (.region [(.mov (.con (.bool false)), some 4, none)]) (.ret)) (.skip))) (.seq (.seq (.region [(.fld 11 (.reg 2), none, none), (.load none (.reg 10), none, none), (.fld 11 (.reg 3), none, none), (.load none (.reg 12), none, none), (.call n_laws_eqPostS [.view, .view] false [.reg 11, .reg 13], none, none), (.un .not (.reg 14), some 6, none)]) (.cond (.reg 6) (.seq (.region [(.mov (.con (.bool false)), some 4, none)]) (.ret)) (.skip))) (.seq (.seq (.region [(.fld 12 (.reg 2), none, none), (.load none (.reg 10), none, none), (.fld 12 (.reg 3), none, none), (.load none (.reg 12), none, none), (.call n_laws_eqPacketS [.view, .view] false [.reg 11, .reg 13], none, none), (.un .not (.reg 14), some 7, none)]) (.cond (.reg 7) (.seq (.region [(.mov (.con (.bool false)), some 4, none)]) (.ret)) (.skip))) (.seq (.seq (.region [(.fld 13 (.reg 2), none, none), (.load none (.reg 10), none, none), (.fld 13 (.reg 3), none, none), (.load none (.reg 12), none, none), (.call n_laws_eqReplyS [.view, .view] false [.reg 11, .reg 13], none, none), (.un .not (.reg 14), some 8, none)]) (.cond (.reg 8) (.seq (.region [(.mov (.con (.bool false)), some 4, none)]) (.ret)) (.skip))) (.seq (.seq (.region [(.fld 14 (.reg 2), none, none), (.load none (.reg 10), none, none), (.fld 14 (.reg 3), none, none), (.load none (.reg 12), none, none), (.call n_laws_eqServedS [.view, .view] false [.reg 11, .reg 13], none, none), (.un .not (.reg 14), some 9, none)]) (.cond (.reg 9) (.seq (.region [(.mov (.con (.bool false)), some 4, none)]) (.ret)) (.skip))) (.seq (.region [(.mov (.con (.bool true)), some 4, none)]) (.ret))))))) }
def s_laws_FnExactServedEach : List (Option Nat) := [some 0, some 1, some 2, some 3, some 4, some 5, some 6, some 11, some 21, some 26]
def h_laws_FnExactServedEach : HFunc := { np := 1, ns := 10, own := true, res := [(2, none)], body := .seq (.region [(.box (.reg 0), some 1, none), (.mov (.con (.bool false)), some 2, none)]) (.seq (.region [(.mov (.con (.int .i64 1048576)), some 3, none)]) (.seq (.region [(.load (some 15) (.reg 1), none, none), (.mov (.reg 3), none, none), (.call n_laws_szWorld [.view, .view] false [.reg 10, .reg 11], none, none), (.mov (.reg 12), some 3, none)]) (.seq (.seq (.region [(.mov (.reg 3), none, none), (.bin .lss (.reg 10) (.con (.int .i64 0)), some 7, none)]) (.cond (.reg 7) (.seq (.region [(.mov (.con (.bool true)), some 2, none)]) (.ret)) (.skip))) (.seq (.region [(.load (some 15) (.reg 1), none, none), (.call n_laws_toWorld [.view] false [.reg 10], none, none), (.call n_spec_ServedEach [.view] false [.reg 11], none, none), (.mov (.reg 12), some 4, none)]) (.seq (.region [(.load (some 15) (.reg 1), none, none), (.call n_laws_toWorld [.view] false [.reg 10], none, none), (.alloc [.int .i64 0, .int .i64 0, .int .i64 0, .own 7 [], .int .i64 0, .own 13 [], .own 17 [], .int .i64 0, .int .i64 0, .int .i64 0, .int .i64 0, .own 6 [], .own 16 [], .own 16 [], .own 15 []], some 5, none), (.store (some 15) false (.reg 5) (.reg 11), none, none)]) (.seq (.region [(.load (some 15) (.reg 5), none, none), (.call n_impl_ServedEach [.view] false [.reg 10], none, none), (.mov (.reg 11), some 6, none)]) (.seq (.seq (.region [(.mov (.reg 6), none, none), (.mov (.reg 4), none, none), (.beq true (.reg 10) (.reg 11), some 8, none)]) (.cond (.reg 8) (.seq (.region [(.mov (.con (.bool false)), some 2, none)]) (.ret)) (.skip))) (.seq (.seq (.draw 5 [⟨0, .load (some 15) (.reg 5), none, none, [false, false, false, false, false], false⟩, ⟨1, .load (some 15) (.reg 1), none, none, [false, false, false, false, false], false⟩, ⟨2, .call n_laws_toWorld [.view] false [.reg 11], none, none, [false, true, false, false, false], false⟩, ⟨3, .call n_laws_eqWorld [.view, .view] false [.reg 10, .reg 12], none, none, [true, true, true, false, false], false⟩, ⟨4, .un .not (.reg 13), some 9, none, [true, true, true, true, false], true⟩]) (.cond (.reg 9) (.seq (.region [(.mov (.con (.bool false)), some 2, none)]) (.ret)) (.skip))) (.seq (.region [(.mov (.con (.bool true)), some 2, none)]) (.ret)))))))))) }
def tabL : List (FuncId × Body) := [(n_laws_szRuleS, .go h_laws_szRuleS), (n_laws_szConfig, .go h_laws_szConfig), (n_laws_szIntS, .go h_laws_szIntS), (n_laws_szBoolS, .go h_laws_szBoolS), (n_laws_szReq, .go h_laws_szReq), (n_laws_szPart, .go h_laws_szPart), (n_laws_szPartS, .go h_laws_szPartS), (n_laws_szResp, .go h_laws_szResp), (n_laws_szRespS, .go h_laws_szRespS), (n_laws_szPend, .go h_laws_szPend), (n_laws_szPendS, .go h_laws_szPendS), (n_laws_szTable, .go h_laws_szTable), (n_laws_szCall, .go h_laws_szCall), (n_laws_szCallS, .go h_laws_szCallS), (n_laws_szLine, .go h_laws_szLine), (n_laws_szLineS, .go h_laws_szLineS), (n_laws_szFabric, .go h_laws_szFabric), (n_laws_szDevice, .go h_laws_szDevice), (n_laws_szPost, .go h_laws_szPost), (n_laws_szPostS, .go h_laws_szPostS), (n_laws_szPacket, .go h_laws_szPacket), (n_laws_szPacketS, .go h_laws_szPacketS), (n_laws_szReply, .go h_laws_szReply), (n_laws_szReplyS, .go h_laws_szReplyS), (n_laws_szServed, .go h_laws_szServed), (n_laws_szServedS, .go h_laws_szServedS), (n_laws_szWorld, .go h_laws_szWorld), (n_laws_toRule, .go h_laws_toRule), (n_laws_toRuleS, .go h_laws_toRuleS), (n_laws_toConfig, .go h_laws_toConfig), (n_laws_toIntS, .go h_laws_toIntS), (n_laws_toBoolS, .go h_laws_toBoolS), (n_laws_toReq, .go h_laws_toReq), (n_laws_toPart, .go h_laws_toPart), (n_laws_toPartS, .go h_laws_toPartS), (n_laws_toResp, .go h_laws_toResp), (n_laws_toRespS, .go h_laws_toRespS), (n_laws_toPend, .go h_laws_toPend), (n_laws_toPendS, .go h_laws_toPendS), (n_laws_toTable, .go h_laws_toTable), (n_laws_toCall, .go h_laws_toCall), (n_laws_toCallS, .go h_laws_toCallS), (n_laws_toLine, .go h_laws_toLine), (n_laws_toLineS, .go h_laws_toLineS), (n_laws_toFabric, .go h_laws_toFabric), (n_laws_toDevice, .go h_laws_toDevice), (n_laws_toPost, .go h_laws_toPost), (n_laws_toPostS, .go h_laws_toPostS), (n_laws_toPacket, .go h_laws_toPacket), (n_laws_toPacketS, .go h_laws_toPacketS), (n_laws_toReply, .go h_laws_toReply), (n_laws_toReplyS, .go h_laws_toReplyS), (n_laws_toServed, .go h_laws_toServed), (n_laws_toServedS, .go h_laws_toServedS), (n_laws_toWorld, .go h_laws_toWorld), (n_spec_l4SameWords, .go h_spec_l4SameWords), (n_spec_l5SameBits, .go h_spec_l5SameBits), (n_spec_l14SameReq, .go h_spec_l14SameReq), (n_spec_l16SameResp, .go h_spec_l16SameResp), (n_spec_l16Served, .go h_spec_l16Served), (n_spec_ServedEach, .go h_spec_ServedEach), (n_slices_Equal_int, .go h_slices_Equal_int), (n_slices_Equal_bool, .go h_slices_Equal_bool), (n_impl_sameReq, .go h_impl_sameReq), (n_impl_sameResp, .go h_impl_sameResp), (n_impl_servedSo_1, .go h_impl_servedSo_1), (n_slices_IndexFunc_Served, .go h_slices_IndexFunc_Served), (n_slices_ContainsFunc_Served, .go h_slices_ContainsFunc_Served), (n_impl_servedSo, .go h_impl_servedSo), (n_impl_ServedEach, .go h_impl_ServedEach), (n_laws_eqRule, .go h_laws_eqRule), (n_laws_eqRuleS, .go h_laws_eqRuleS), (n_laws_eqConfig, .go h_laws_eqConfig), (n_laws_eqIntS, .go h_laws_eqIntS), (n_laws_eqBoolS, .go h_laws_eqBoolS), (n_laws_eqReq, .go h_laws_eqReq), (n_laws_eqPart, .go h_laws_eqPart), (n_laws_eqPartS, .go h_laws_eqPartS), (n_laws_eqResp, .go h_laws_eqResp), (n_laws_eqRespS, .go h_laws_eqRespS), (n_laws_eqPend, .go h_laws_eqPend), (n_laws_eqPendS, .go h_laws_eqPendS), (n_laws_eqTable, .go h_laws_eqTable), (n_laws_eqCall, .go h_laws_eqCall), (n_laws_eqCallS, .go h_laws_eqCallS), (n_laws_eqLine, .go h_laws_eqLine), (n_laws_eqLineS, .go h_laws_eqLineS), (n_laws_eqFabric, .go h_laws_eqFabric), (n_laws_eqDevice, .go h_laws_eqDevice), (n_laws_eqPost, .go h_laws_eqPost), (n_laws_eqPostS, .go h_laws_eqPostS), (n_laws_eqPacket, .go h_laws_eqPacket), (n_laws_eqPacketS, .go h_laws_eqPacketS), (n_laws_eqReply, .go h_laws_eqReply), (n_laws_eqReplyS, .go h_laws_eqReplyS), (n_laws_eqServed, .go h_laws_eqServed), (n_laws_eqServedS, .go h_laws_eqServedS), (n_laws_eqWorld, .go h_laws_eqWorld), (n_laws_FnExactServedEach, .go h_laws_FnExactServedEach)]
def tab : Tab := fun f => tabL.lookup f
theorem T_laws_szRuleS : tab n_laws_szRuleS = some (.go h_laws_szRuleS) := rfl
theorem T_laws_szConfig : tab n_laws_szConfig = some (.go h_laws_szConfig) := rfl
theorem T_laws_szIntS : tab n_laws_szIntS = some (.go h_laws_szIntS) := rfl
theorem T_laws_szBoolS : tab n_laws_szBoolS = some (.go h_laws_szBoolS) := rfl
theorem T_laws_szReq : tab n_laws_szReq = some (.go h_laws_szReq) := rfl
theorem T_laws_szPart : tab n_laws_szPart = some (.go h_laws_szPart) := rfl
theorem T_laws_szPartS : tab n_laws_szPartS = some (.go h_laws_szPartS) := rfl
theorem T_laws_szResp : tab n_laws_szResp = some (.go h_laws_szResp) := rfl
theorem T_laws_szRespS : tab n_laws_szRespS = some (.go h_laws_szRespS) := rfl
theorem T_laws_szPend : tab n_laws_szPend = some (.go h_laws_szPend) := rfl
theorem T_laws_szPendS : tab n_laws_szPendS = some (.go h_laws_szPendS) := rfl
theorem T_laws_szTable : tab n_laws_szTable = some (.go h_laws_szTable) := rfl
theorem T_laws_szCall : tab n_laws_szCall = some (.go h_laws_szCall) := rfl
theorem T_laws_szCallS : tab n_laws_szCallS = some (.go h_laws_szCallS) := rfl
theorem T_laws_szLine : tab n_laws_szLine = some (.go h_laws_szLine) := rfl
theorem T_laws_szLineS : tab n_laws_szLineS = some (.go h_laws_szLineS) := rfl
theorem T_laws_szFabric : tab n_laws_szFabric = some (.go h_laws_szFabric) := rfl
theorem T_laws_szDevice : tab n_laws_szDevice = some (.go h_laws_szDevice) := rfl
theorem T_laws_szPost : tab n_laws_szPost = some (.go h_laws_szPost) := rfl
theorem T_laws_szPostS : tab n_laws_szPostS = some (.go h_laws_szPostS) := rfl
theorem T_laws_szPacket : tab n_laws_szPacket = some (.go h_laws_szPacket) := rfl
theorem T_laws_szPacketS : tab n_laws_szPacketS = some (.go h_laws_szPacketS) := rfl
theorem T_laws_szReply : tab n_laws_szReply = some (.go h_laws_szReply) := rfl
theorem T_laws_szReplyS : tab n_laws_szReplyS = some (.go h_laws_szReplyS) := rfl
theorem T_laws_szServed : tab n_laws_szServed = some (.go h_laws_szServed) := rfl
theorem T_laws_szServedS : tab n_laws_szServedS = some (.go h_laws_szServedS) := rfl
theorem T_laws_szWorld : tab n_laws_szWorld = some (.go h_laws_szWorld) := rfl
theorem T_laws_toRule : tab n_laws_toRule = some (.go h_laws_toRule) := rfl
theorem T_laws_toRuleS : tab n_laws_toRuleS = some (.go h_laws_toRuleS) := rfl
theorem T_laws_toConfig : tab n_laws_toConfig = some (.go h_laws_toConfig) := rfl
theorem T_laws_toIntS : tab n_laws_toIntS = some (.go h_laws_toIntS) := rfl
theorem T_laws_toBoolS : tab n_laws_toBoolS = some (.go h_laws_toBoolS) := rfl
theorem T_laws_toReq : tab n_laws_toReq = some (.go h_laws_toReq) := rfl
theorem T_laws_toPart : tab n_laws_toPart = some (.go h_laws_toPart) := rfl
theorem T_laws_toPartS : tab n_laws_toPartS = some (.go h_laws_toPartS) := rfl
theorem T_laws_toResp : tab n_laws_toResp = some (.go h_laws_toResp) := rfl
theorem T_laws_toRespS : tab n_laws_toRespS = some (.go h_laws_toRespS) := rfl
theorem T_laws_toPend : tab n_laws_toPend = some (.go h_laws_toPend) := rfl
theorem T_laws_toPendS : tab n_laws_toPendS = some (.go h_laws_toPendS) := rfl
theorem T_laws_toTable : tab n_laws_toTable = some (.go h_laws_toTable) := rfl
theorem T_laws_toCall : tab n_laws_toCall = some (.go h_laws_toCall) := rfl
theorem T_laws_toCallS : tab n_laws_toCallS = some (.go h_laws_toCallS) := rfl
theorem T_laws_toLine : tab n_laws_toLine = some (.go h_laws_toLine) := rfl
theorem T_laws_toLineS : tab n_laws_toLineS = some (.go h_laws_toLineS) := rfl
theorem T_laws_toFabric : tab n_laws_toFabric = some (.go h_laws_toFabric) := rfl
theorem T_laws_toDevice : tab n_laws_toDevice = some (.go h_laws_toDevice) := rfl
theorem T_laws_toPost : tab n_laws_toPost = some (.go h_laws_toPost) := rfl
theorem T_laws_toPostS : tab n_laws_toPostS = some (.go h_laws_toPostS) := rfl
theorem T_laws_toPacket : tab n_laws_toPacket = some (.go h_laws_toPacket) := rfl
theorem T_laws_toPacketS : tab n_laws_toPacketS = some (.go h_laws_toPacketS) := rfl
theorem T_laws_toReply : tab n_laws_toReply = some (.go h_laws_toReply) := rfl
theorem T_laws_toReplyS : tab n_laws_toReplyS = some (.go h_laws_toReplyS) := rfl
theorem T_laws_toServed : tab n_laws_toServed = some (.go h_laws_toServed) := rfl
theorem T_laws_toServedS : tab n_laws_toServedS = some (.go h_laws_toServedS) := rfl
theorem T_laws_toWorld : tab n_laws_toWorld = some (.go h_laws_toWorld) := rfl
theorem T_spec_l4SameWords : tab n_spec_l4SameWords = some (.go h_spec_l4SameWords) := rfl
theorem T_spec_l5SameBits : tab n_spec_l5SameBits = some (.go h_spec_l5SameBits) := rfl
theorem T_spec_l14SameReq : tab n_spec_l14SameReq = some (.go h_spec_l14SameReq) := rfl
theorem T_spec_l16SameResp : tab n_spec_l16SameResp = some (.go h_spec_l16SameResp) := rfl
theorem T_spec_l16Served : tab n_spec_l16Served = some (.go h_spec_l16Served) := rfl
theorem T_spec_ServedEach : tab n_spec_ServedEach = some (.go h_spec_ServedEach) := rfl
theorem T_slices_Equal_int : tab n_slices_Equal_int = some (.go h_slices_Equal_int) := rfl
theorem T_slices_Equal_bool : tab n_slices_Equal_bool = some (.go h_slices_Equal_bool) := rfl
theorem T_impl_sameReq : tab n_impl_sameReq = some (.go h_impl_sameReq) := rfl
theorem T_impl_sameResp : tab n_impl_sameResp = some (.go h_impl_sameResp) := rfl
theorem T_impl_servedSo_1 : tab n_impl_servedSo_1 = some (.go h_impl_servedSo_1) := rfl
theorem T_slices_IndexFunc_Served : tab n_slices_IndexFunc_Served = some (.go h_slices_IndexFunc_Served) := rfl
theorem T_slices_ContainsFunc_Served : tab n_slices_ContainsFunc_Served = some (.go h_slices_ContainsFunc_Served) := rfl
theorem T_impl_servedSo : tab n_impl_servedSo = some (.go h_impl_servedSo) := rfl
theorem T_impl_ServedEach : tab n_impl_ServedEach = some (.go h_impl_ServedEach) := rfl
theorem T_laws_eqRule : tab n_laws_eqRule = some (.go h_laws_eqRule) := rfl
theorem T_laws_eqRuleS : tab n_laws_eqRuleS = some (.go h_laws_eqRuleS) := rfl
theorem T_laws_eqConfig : tab n_laws_eqConfig = some (.go h_laws_eqConfig) := rfl
theorem T_laws_eqIntS : tab n_laws_eqIntS = some (.go h_laws_eqIntS) := rfl
theorem T_laws_eqBoolS : tab n_laws_eqBoolS = some (.go h_laws_eqBoolS) := rfl
theorem T_laws_eqReq : tab n_laws_eqReq = some (.go h_laws_eqReq) := rfl
theorem T_laws_eqPart : tab n_laws_eqPart = some (.go h_laws_eqPart) := rfl
theorem T_laws_eqPartS : tab n_laws_eqPartS = some (.go h_laws_eqPartS) := rfl
theorem T_laws_eqResp : tab n_laws_eqResp = some (.go h_laws_eqResp) := rfl
theorem T_laws_eqRespS : tab n_laws_eqRespS = some (.go h_laws_eqRespS) := rfl
theorem T_laws_eqPend : tab n_laws_eqPend = some (.go h_laws_eqPend) := rfl
theorem T_laws_eqPendS : tab n_laws_eqPendS = some (.go h_laws_eqPendS) := rfl
theorem T_laws_eqTable : tab n_laws_eqTable = some (.go h_laws_eqTable) := rfl
theorem T_laws_eqCall : tab n_laws_eqCall = some (.go h_laws_eqCall) := rfl
theorem T_laws_eqCallS : tab n_laws_eqCallS = some (.go h_laws_eqCallS) := rfl
theorem T_laws_eqLine : tab n_laws_eqLine = some (.go h_laws_eqLine) := rfl
theorem T_laws_eqLineS : tab n_laws_eqLineS = some (.go h_laws_eqLineS) := rfl
theorem T_laws_eqFabric : tab n_laws_eqFabric = some (.go h_laws_eqFabric) := rfl
theorem T_laws_eqDevice : tab n_laws_eqDevice = some (.go h_laws_eqDevice) := rfl
theorem T_laws_eqPost : tab n_laws_eqPost = some (.go h_laws_eqPost) := rfl
theorem T_laws_eqPostS : tab n_laws_eqPostS = some (.go h_laws_eqPostS) := rfl
theorem T_laws_eqPacket : tab n_laws_eqPacket = some (.go h_laws_eqPacket) := rfl
theorem T_laws_eqPacketS : tab n_laws_eqPacketS = some (.go h_laws_eqPacketS) := rfl
theorem T_laws_eqReply : tab n_laws_eqReply = some (.go h_laws_eqReply) := rfl
theorem T_laws_eqReplyS : tab n_laws_eqReplyS = some (.go h_laws_eqReplyS) := rfl
theorem T_laws_eqServed : tab n_laws_eqServed = some (.go h_laws_eqServed) := rfl
theorem T_laws_eqServedS : tab n_laws_eqServedS = some (.go h_laws_eqServedS) := rfl
theorem T_laws_eqWorld : tab n_laws_eqWorld = some (.go h_laws_eqWorld) := rfl
theorem T_laws_FnExactServedEach : tab n_laws_FnExactServedEach = some (.go h_laws_FnExactServedEach) := rfl
end Go.Pm

namespace Go.Pm
set_option maxRecDepth 100000
structure TRule where
  fUnit : Int
  fSpace : Int
  fLo : Int
  fHi : Int
  fPort : Int
  fTo : Int
  fShift : Int
def TRule.ic (a : TRule) : List V := [V.int .i64 a.fUnit, V.int .i64 a.fSpace, V.int .i64 a.fLo, V.int .i64 a.fHi, V.int .i64 a.fPort, V.int .i64 a.fTo, V.int .i64 a.fShift]
def TRule.oc (a : TRule) : List V := [V.int .i64 a.fUnit, V.int .i64 a.fSpace, V.int .i64 a.fLo, V.int .i64 a.fHi, V.int .i64 a.fPort, V.int .i64 a.fTo, V.int .i64 a.fShift]
def TRule.i (a : TRule) : V := .agg a.ic
def TRule.o (a : TRule) : V := .agg a.oc
def TRule.sz (_a : TRule) : Nat := 0
structure TConfig where
  fWait : Int
  fTries : Int
  fRules : List TRule
def TConfig.ic (a : TConfig) : List V := [V.int .i64 a.fWait, V.int .i64 a.fTries, V.imm 7 (a.fRules.map TRule.i)]
def TConfig.oc (a : TConfig) : List V := [V.int .i64 a.fWait, V.int .i64 a.fTries, V.own 7 (a.fRules.map TRule.o)]
def TConfig.i (a : TConfig) : V := .agg a.ic
def TConfig.o (a : TConfig) : V := .agg a.oc
def TConfig.sz (a : TConfig) : Nat := a.fRules.length
structure TReq where
  fKind : Int
  fAt : Int
  fN : Int
  fWords : List Int
  fBits : List Bool
  fWAt : Int
def TReq.ic (a : TReq) : List V := [V.int .i64 a.fKind, V.int .i64 a.fAt, V.int .i64 a.fN, V.imm 1 (a.fWords.map (V.int .i64)), V.imm 1 (a.fBits.map V.bool), V.int .i64 a.fWAt]
def TReq.oc (a : TReq) : List V := [V.int .i64 a.fKind, V.int .i64 a.fAt, V.int .i64 a.fN, V.own 1 (a.fWords.map (V.int .i64)), V.own 1 (a.fBits.map V.bool), V.int .i64 a.fWAt]
def TReq.i (a : TReq) : V := .agg a.ic
def TReq.o (a : TReq) : V := .agg a.oc
def TReq.sz (a : TReq) : Nat := a.fWords.length + a.fBits.length
structure TPart where
  fPort : Int
  fUnit : Int
  fReq : TReq
def TPart.ic (a : TPart) : List V := [V.int .i64 a.fPort, V.int .i64 a.fUnit, V.int .i64 a.fReq.fKind, V.int .i64 a.fReq.fAt, V.int .i64 a.fReq.fN, V.imm 1 (a.fReq.fWords.map (V.int .i64)), V.imm 1 (a.fReq.fBits.map V.bool), V.int .i64 a.fReq.fWAt]
def TPart.oc (a : TPart) : List V := [V.int .i64 a.fPort, V.int .i64 a.fUnit, V.int .i64 a.fReq.fKind, V.int .i64 a.fReq.fAt, V.int .i64 a.fReq.fN, V.own 1 (a.fReq.fWords.map (V.int .i64)), V.own 1 (a.fReq.fBits.map V.bool), V.int .i64 a.fReq.fWAt]
def TPart.i (a : TPart) : V := .agg a.ic
def TPart.o (a : TPart) : V := .agg a.oc
def TPart.sz (a : TPart) : Nat := a.fReq.sz
structure TResp where
  fKind : Int
  fFault : Int
  fAt : Int
  fN : Int
  fWords : List Int
  fBits : List Bool
def TResp.ic (a : TResp) : List V := [V.int .i64 a.fKind, V.int .i64 a.fFault, V.int .i64 a.fAt, V.int .i64 a.fN, V.imm 1 (a.fWords.map (V.int .i64)), V.imm 1 (a.fBits.map V.bool)]
def TResp.oc (a : TResp) : List V := [V.int .i64 a.fKind, V.int .i64 a.fFault, V.int .i64 a.fAt, V.int .i64 a.fN, V.own 1 (a.fWords.map (V.int .i64)), V.own 1 (a.fBits.map V.bool)]
def TResp.i (a : TResp) : V := .agg a.ic
def TResp.o (a : TResp) : V := .agg a.oc
def TResp.sz (a : TResp) : Nat := a.fWords.length + a.fBits.length
structure TPend where
  fId : Int
  fSource : Int
  fTag : Int
  fUnit : Int
  fReq : TReq
  fParts : List TPart
  fHas : List Bool
  fTold : List TResp
def TPend.ic (a : TPend) : List V := [V.int .i64 a.fId, V.int .i64 a.fSource, V.int .i64 a.fTag, V.int .i64 a.fUnit, V.int .i64 a.fReq.fKind, V.int .i64 a.fReq.fAt, V.int .i64 a.fReq.fN, V.imm 1 (a.fReq.fWords.map (V.int .i64)), V.imm 1 (a.fReq.fBits.map V.bool), V.int .i64 a.fReq.fWAt, V.imm 8 (a.fParts.map TPart.i), V.imm 1 (a.fHas.map V.bool), V.imm 6 (a.fTold.map TResp.i)]
def TPend.oc (a : TPend) : List V := [V.int .i64 a.fId, V.int .i64 a.fSource, V.int .i64 a.fTag, V.int .i64 a.fUnit, V.int .i64 a.fReq.fKind, V.int .i64 a.fReq.fAt, V.int .i64 a.fReq.fN, V.own 1 (a.fReq.fWords.map (V.int .i64)), V.own 1 (a.fReq.fBits.map V.bool), V.int .i64 a.fReq.fWAt, V.own 8 (a.fParts.map TPart.o), V.own 1 (a.fHas.map V.bool), V.own 6 (a.fTold.map TResp.o)]
def TPend.i (a : TPend) : V := .agg a.ic
def TPend.o (a : TPend) : V := .agg a.oc
def TPend.sz (a : TPend) : Nat := a.fReq.sz + (a.fParts.length + (a.fParts.map TPart.sz).sum) + a.fHas.length + (a.fTold.length + (a.fTold.map TResp.sz).sum)
structure TTable where
  fNext : Int
  fList : List TPend
def TTable.ic (a : TTable) : List V := [V.int .i64 a.fNext, V.imm 13 (a.fList.map TPend.i)]
def TTable.oc (a : TTable) : List V := [V.int .i64 a.fNext, V.own 13 (a.fList.map TPend.o)]
def TTable.i (a : TTable) : V := .agg a.ic
def TTable.o (a : TTable) : V := .agg a.oc
def TTable.sz (a : TTable) : Nat := (a.fList.length + (a.fList.map TPend.sz).sum)
structure TCall where
  fId : Int
  fPart : Int
  fUnit : Int
  fReq : TReq
def TCall.ic (a : TCall) : List V := [V.int .i64 a.fId, V.int .i64 a.fPart, V.int .i64 a.fUnit, V.int .i64 a.fReq.fKind, V.int .i64 a.fReq.fAt, V.int .i64 a.fReq.fN, V.imm 1 (a.fReq.fWords.map (V.int .i64)), V.imm 1 (a.fReq.fBits.map V.bool), V.int .i64 a.fReq.fWAt]
def TCall.oc (a : TCall) : List V := [V.int .i64 a.fId, V.int .i64 a.fPart, V.int .i64 a.fUnit, V.int .i64 a.fReq.fKind, V.int .i64 a.fReq.fAt, V.int .i64 a.fReq.fN, V.own 1 (a.fReq.fWords.map (V.int .i64)), V.own 1 (a.fReq.fBits.map V.bool), V.int .i64 a.fReq.fWAt]
def TCall.i (a : TCall) : V := .agg a.ic
def TCall.o (a : TCall) : V := .agg a.oc
def TCall.sz (a : TCall) : Nat := a.fReq.sz
structure TLine where
  fQueue : List TCall
  fBusy : Bool
  fCall : TCall
  fNumber : Int
  fDue : Int
  fLeft : Int
  fNext : Int
  fWait : Int
  fTries : Int
def TLine.ic (a : TLine) : List V := [V.imm 9 (a.fQueue.map TCall.i), V.bool a.fBusy, V.int .i64 a.fCall.fId, V.int .i64 a.fCall.fPart, V.int .i64 a.fCall.fUnit, V.int .i64 a.fCall.fReq.fKind, V.int .i64 a.fCall.fReq.fAt, V.int .i64 a.fCall.fReq.fN, V.imm 1 (a.fCall.fReq.fWords.map (V.int .i64)), V.imm 1 (a.fCall.fReq.fBits.map V.bool), V.int .i64 a.fCall.fReq.fWAt, V.int .i64 a.fNumber, V.int .i64 a.fDue, V.int .i64 a.fLeft, V.int .i64 a.fNext, V.int .i64 a.fWait, V.int .i64 a.fTries]
def TLine.oc (a : TLine) : List V := [V.own 9 (a.fQueue.map TCall.o), V.bool a.fBusy, V.int .i64 a.fCall.fId, V.int .i64 a.fCall.fPart, V.int .i64 a.fCall.fUnit, V.int .i64 a.fCall.fReq.fKind, V.int .i64 a.fCall.fReq.fAt, V.int .i64 a.fCall.fReq.fN, V.own 1 (a.fCall.fReq.fWords.map (V.int .i64)), V.own 1 (a.fCall.fReq.fBits.map V.bool), V.int .i64 a.fCall.fReq.fWAt, V.int .i64 a.fNumber, V.int .i64 a.fDue, V.int .i64 a.fLeft, V.int .i64 a.fNext, V.int .i64 a.fWait, V.int .i64 a.fTries]
def TLine.i (a : TLine) : V := .agg a.ic
def TLine.o (a : TLine) : V := .agg a.oc
def TLine.sz (a : TLine) : Nat := (a.fQueue.length + (a.fQueue.map TCall.sz).sum) + a.fCall.sz
structure TFabric where
  fNow : Int
  fSet : TConfig
  fOpen : TTable
  fLines : List TLine
  fAsked : Int
  fReplied : Int
  fFaults : Int
  fSent : Int
def TFabric.ic (a : TFabric) : List V := [V.int .i64 a.fNow, V.int .i64 a.fSet.fWait, V.int .i64 a.fSet.fTries, V.imm 7 (a.fSet.fRules.map TRule.i), V.int .i64 a.fOpen.fNext, V.imm 13 (a.fOpen.fList.map TPend.i), V.imm 17 (a.fLines.map TLine.i), V.int .i64 a.fAsked, V.int .i64 a.fReplied, V.int .i64 a.fFaults, V.int .i64 a.fSent]
def TFabric.oc (a : TFabric) : List V := [V.int .i64 a.fNow, V.int .i64 a.fSet.fWait, V.int .i64 a.fSet.fTries, V.own 7 (a.fSet.fRules.map TRule.o), V.int .i64 a.fOpen.fNext, V.own 13 (a.fOpen.fList.map TPend.o), V.own 17 (a.fLines.map TLine.o), V.int .i64 a.fAsked, V.int .i64 a.fReplied, V.int .i64 a.fFaults, V.int .i64 a.fSent]
def TFabric.i (a : TFabric) : V := .agg a.ic
def TFabric.o (a : TFabric) : V := .agg a.oc
def TFabric.sz (a : TFabric) : Nat := a.fSet.sz + a.fOpen.sz + (a.fLines.length + (a.fLines.map TLine.sz).sum)
structure TDevice where
  fCoils : List Bool
  fInputs : List Bool
  fHolding : List Int
  fWords : List Int
def TDevice.ic (a : TDevice) : List V := [V.imm 1 (a.fCoils.map V.bool), V.imm 1 (a.fInputs.map V.bool), V.imm 1 (a.fHolding.map (V.int .i64)), V.imm 1 (a.fWords.map (V.int .i64))]
def TDevice.oc (a : TDevice) : List V := [V.own 1 (a.fCoils.map V.bool), V.own 1 (a.fInputs.map V.bool), V.own 1 (a.fHolding.map (V.int .i64)), V.own 1 (a.fWords.map (V.int .i64))]
def TDevice.i (a : TDevice) : V := .agg a.ic
def TDevice.o (a : TDevice) : V := .agg a.oc
def TDevice.sz (a : TDevice) : Nat := a.fCoils.length + a.fInputs.length + a.fHolding.length + a.fWords.length
structure TPost where
  fPort : Int
  fUnit : Int
  fD : TDevice
def TPost.ic (a : TPost) : List V := [V.int .i64 a.fPort, V.int .i64 a.fUnit, V.imm 1 (a.fD.fCoils.map V.bool), V.imm 1 (a.fD.fInputs.map V.bool), V.imm 1 (a.fD.fHolding.map (V.int .i64)), V.imm 1 (a.fD.fWords.map (V.int .i64))]
def TPost.oc (a : TPost) : List V := [V.int .i64 a.fPort, V.int .i64 a.fUnit, V.own 1 (a.fD.fCoils.map V.bool), V.own 1 (a.fD.fInputs.map V.bool), V.own 1 (a.fD.fHolding.map (V.int .i64)), V.own 1 (a.fD.fWords.map (V.int .i64))]
def TPost.i (a : TPost) : V := .agg a.ic
def TPost.o (a : TPost) : V := .agg a.oc
def TPost.sz (a : TPost) : Nat := a.fD.sz
structure TPacket where
  fBack : Bool
  fPort : Int
  fNumber : Int
  fUnit : Int
  fReq : TReq
  fResp : TResp
def TPacket.ic (a : TPacket) : List V := [V.bool a.fBack, V.int .i64 a.fPort, V.int .i64 a.fNumber, V.int .i64 a.fUnit, V.int .i64 a.fReq.fKind, V.int .i64 a.fReq.fAt, V.int .i64 a.fReq.fN, V.imm 1 (a.fReq.fWords.map (V.int .i64)), V.imm 1 (a.fReq.fBits.map V.bool), V.int .i64 a.fReq.fWAt, V.int .i64 a.fResp.fKind, V.int .i64 a.fResp.fFault, V.int .i64 a.fResp.fAt, V.int .i64 a.fResp.fN, V.imm 1 (a.fResp.fWords.map (V.int .i64)), V.imm 1 (a.fResp.fBits.map V.bool)]
def TPacket.oc (a : TPacket) : List V := [V.bool a.fBack, V.int .i64 a.fPort, V.int .i64 a.fNumber, V.int .i64 a.fUnit, V.int .i64 a.fReq.fKind, V.int .i64 a.fReq.fAt, V.int .i64 a.fReq.fN, V.own 1 (a.fReq.fWords.map (V.int .i64)), V.own 1 (a.fReq.fBits.map V.bool), V.int .i64 a.fReq.fWAt, V.int .i64 a.fResp.fKind, V.int .i64 a.fResp.fFault, V.int .i64 a.fResp.fAt, V.int .i64 a.fResp.fN, V.own 1 (a.fResp.fWords.map (V.int .i64)), V.own 1 (a.fResp.fBits.map V.bool)]
def TPacket.i (a : TPacket) : V := .agg a.ic
def TPacket.o (a : TPacket) : V := .agg a.oc
def TPacket.sz (a : TPacket) : Nat := a.fReq.sz + a.fResp.sz
structure TReply where
  fSource : Int
  fTag : Int
  fReq : TReq
  fParts : List TPart
  fTold : List TResp
  fResp : TResp
def TReply.ic (a : TReply) : List V := [V.int .i64 a.fSource, V.int .i64 a.fTag, V.int .i64 a.fReq.fKind, V.int .i64 a.fReq.fAt, V.int .i64 a.fReq.fN, V.imm 1 (a.fReq.fWords.map (V.int .i64)), V.imm 1 (a.fReq.fBits.map V.bool), V.int .i64 a.fReq.fWAt, V.imm 8 (a.fParts.map TPart.i), V.imm 6 (a.fTold.map TResp.i), V.int .i64 a.fResp.fKind, V.int .i64 a.fResp.fFault, V.int .i64 a.fResp.fAt, V.int .i64 a.fResp.fN, V.imm 1 (a.fResp.fWords.map (V.int .i64)), V.imm 1 (a.fResp.fBits.map V.bool)]
def TReply.oc (a : TReply) : List V := [V.int .i64 a.fSource, V.int .i64 a.fTag, V.int .i64 a.fReq.fKind, V.int .i64 a.fReq.fAt, V.int .i64 a.fReq.fN, V.own 1 (a.fReq.fWords.map (V.int .i64)), V.own 1 (a.fReq.fBits.map V.bool), V.int .i64 a.fReq.fWAt, V.own 8 (a.fParts.map TPart.o), V.own 6 (a.fTold.map TResp.o), V.int .i64 a.fResp.fKind, V.int .i64 a.fResp.fFault, V.int .i64 a.fResp.fAt, V.int .i64 a.fResp.fN, V.own 1 (a.fResp.fWords.map (V.int .i64)), V.own 1 (a.fResp.fBits.map V.bool)]
def TReply.i (a : TReply) : V := .agg a.ic
def TReply.o (a : TReply) : V := .agg a.oc
def TReply.sz (a : TReply) : Nat := a.fReq.sz + (a.fParts.length + (a.fParts.map TPart.sz).sum) + (a.fTold.length + (a.fTold.map TResp.sz).sum) + a.fResp.sz
structure TServed where
  fPort : Int
  fNumber : Int
  fUnit : Int
  fReq : TReq
  fResp : TResp
def TServed.ic (a : TServed) : List V := [V.int .i64 a.fPort, V.int .i64 a.fNumber, V.int .i64 a.fUnit, V.int .i64 a.fReq.fKind, V.int .i64 a.fReq.fAt, V.int .i64 a.fReq.fN, V.imm 1 (a.fReq.fWords.map (V.int .i64)), V.imm 1 (a.fReq.fBits.map V.bool), V.int .i64 a.fReq.fWAt, V.int .i64 a.fResp.fKind, V.int .i64 a.fResp.fFault, V.int .i64 a.fResp.fAt, V.int .i64 a.fResp.fN, V.imm 1 (a.fResp.fWords.map (V.int .i64)), V.imm 1 (a.fResp.fBits.map V.bool)]
def TServed.oc (a : TServed) : List V := [V.int .i64 a.fPort, V.int .i64 a.fNumber, V.int .i64 a.fUnit, V.int .i64 a.fReq.fKind, V.int .i64 a.fReq.fAt, V.int .i64 a.fReq.fN, V.own 1 (a.fReq.fWords.map (V.int .i64)), V.own 1 (a.fReq.fBits.map V.bool), V.int .i64 a.fReq.fWAt, V.int .i64 a.fResp.fKind, V.int .i64 a.fResp.fFault, V.int .i64 a.fResp.fAt, V.int .i64 a.fResp.fN, V.own 1 (a.fResp.fWords.map (V.int .i64)), V.own 1 (a.fResp.fBits.map V.bool)]
def TServed.i (a : TServed) : V := .agg a.ic
def TServed.o (a : TServed) : V := .agg a.oc
def TServed.sz (a : TServed) : Nat := a.fReq.sz + a.fResp.sz
structure TWorld where
  fF : TFabric
  fPosts : List TPost
  fNet : List TPacket
  fReplies : List TReply
  fServed : List TServed
def TWorld.ic (a : TWorld) : List V := [V.int .i64 a.fF.fNow, V.int .i64 a.fF.fSet.fWait, V.int .i64 a.fF.fSet.fTries, V.imm 7 (a.fF.fSet.fRules.map TRule.i), V.int .i64 a.fF.fOpen.fNext, V.imm 13 (a.fF.fOpen.fList.map TPend.i), V.imm 17 (a.fF.fLines.map TLine.i), V.int .i64 a.fF.fAsked, V.int .i64 a.fF.fReplied, V.int .i64 a.fF.fFaults, V.int .i64 a.fF.fSent, V.imm 6 (a.fPosts.map TPost.i), V.imm 16 (a.fNet.map TPacket.i), V.imm 16 (a.fReplies.map TReply.i), V.imm 15 (a.fServed.map TServed.i)]
def TWorld.oc (a : TWorld) : List V := [V.int .i64 a.fF.fNow, V.int .i64 a.fF.fSet.fWait, V.int .i64 a.fF.fSet.fTries, V.own 7 (a.fF.fSet.fRules.map TRule.o), V.int .i64 a.fF.fOpen.fNext, V.own 13 (a.fF.fOpen.fList.map TPend.o), V.own 17 (a.fF.fLines.map TLine.o), V.int .i64 a.fF.fAsked, V.int .i64 a.fF.fReplied, V.int .i64 a.fF.fFaults, V.int .i64 a.fF.fSent, V.own 6 (a.fPosts.map TPost.o), V.own 16 (a.fNet.map TPacket.o), V.own 16 (a.fReplies.map TReply.o), V.own 15 (a.fServed.map TServed.o)]
def TWorld.i (a : TWorld) : V := .agg a.ic
def TWorld.o (a : TWorld) : V := .agg a.oc
def TWorld.sz (a : TWorld) : Nat := a.fF.sz + (a.fPosts.length + (a.fPosts.map TPost.sz).sum) + (a.fNet.length + (a.fNet.map TPacket.sz).sum) + (a.fReplies.length + (a.fReplies.map TReply.sz).sum) + (a.fServed.length + (a.fServed.map TServed.sz).sum)
def TRule.ok (a : TRule) : Prop := (-9223372036854775808 ≤ a.fUnit ∧ a.fUnit ≤ 9223372036854775807) ∧ (-9223372036854775808 ≤ a.fSpace ∧ a.fSpace ≤ 9223372036854775807) ∧ (-9223372036854775808 ≤ a.fLo ∧ a.fLo ≤ 9223372036854775807) ∧ (-9223372036854775808 ≤ a.fHi ∧ a.fHi ≤ 9223372036854775807) ∧ (-9223372036854775808 ≤ a.fPort ∧ a.fPort ≤ 9223372036854775807) ∧ (-9223372036854775808 ≤ a.fTo ∧ a.fTo ≤ 9223372036854775807) ∧ (-9223372036854775808 ≤ a.fShift ∧ a.fShift ≤ 9223372036854775807)

def TConfig.ok (a : TConfig) : Prop := (-9223372036854775808 ≤ a.fWait ∧ a.fWait ≤ 9223372036854775807) ∧ (-9223372036854775808 ≤ a.fTries ∧ a.fTries ≤ 9223372036854775807) ∧ a.fRules.length ≤ 9223372036854775807 ∧ (∀ x ∈ a.fRules, x.ok)

def TReq.ok (a : TReq) : Prop := (-9223372036854775808 ≤ a.fKind ∧ a.fKind ≤ 9223372036854775807) ∧ (-9223372036854775808 ≤ a.fAt ∧ a.fAt ≤ 9223372036854775807) ∧ (-9223372036854775808 ≤ a.fN ∧ a.fN ≤ 9223372036854775807) ∧ a.fWords.length ≤ 9223372036854775807 ∧ (∀ x ∈ a.fWords, -9223372036854775808 ≤ x ∧ x ≤ 9223372036854775807) ∧ a.fBits.length ≤ 9223372036854775807 ∧ (-9223372036854775808 ≤ a.fWAt ∧ a.fWAt ≤ 9223372036854775807)

def TPart.ok (a : TPart) : Prop := (-9223372036854775808 ≤ a.fPort ∧ a.fPort ≤ 9223372036854775807) ∧ (-9223372036854775808 ≤ a.fUnit ∧ a.fUnit ≤ 9223372036854775807) ∧ a.fReq.ok

def TResp.ok (a : TResp) : Prop := (-9223372036854775808 ≤ a.fKind ∧ a.fKind ≤ 9223372036854775807) ∧ (-9223372036854775808 ≤ a.fFault ∧ a.fFault ≤ 9223372036854775807) ∧ (-9223372036854775808 ≤ a.fAt ∧ a.fAt ≤ 9223372036854775807) ∧ (-9223372036854775808 ≤ a.fN ∧ a.fN ≤ 9223372036854775807) ∧ a.fWords.length ≤ 9223372036854775807 ∧ (∀ x ∈ a.fWords, -9223372036854775808 ≤ x ∧ x ≤ 9223372036854775807) ∧ a.fBits.length ≤ 9223372036854775807

def TPend.ok (a : TPend) : Prop := (-9223372036854775808 ≤ a.fId ∧ a.fId ≤ 9223372036854775807) ∧ (-9223372036854775808 ≤ a.fSource ∧ a.fSource ≤ 9223372036854775807) ∧ (-9223372036854775808 ≤ a.fTag ∧ a.fTag ≤ 9223372036854775807) ∧ (-9223372036854775808 ≤ a.fUnit ∧ a.fUnit ≤ 9223372036854775807) ∧ a.fReq.ok ∧ a.fParts.length ≤ 9223372036854775807 ∧ (∀ x ∈ a.fParts, x.ok) ∧ a.fHas.length ≤ 9223372036854775807 ∧ a.fTold.length ≤ 9223372036854775807 ∧ (∀ x ∈ a.fTold, x.ok)

def TTable.ok (a : TTable) : Prop := (-9223372036854775808 ≤ a.fNext ∧ a.fNext ≤ 9223372036854775807) ∧ a.fList.length ≤ 9223372036854775807 ∧ (∀ x ∈ a.fList, x.ok)

def TCall.ok (a : TCall) : Prop := (-9223372036854775808 ≤ a.fId ∧ a.fId ≤ 9223372036854775807) ∧ (-9223372036854775808 ≤ a.fPart ∧ a.fPart ≤ 9223372036854775807) ∧ (-9223372036854775808 ≤ a.fUnit ∧ a.fUnit ≤ 9223372036854775807) ∧ a.fReq.ok

def TLine.ok (a : TLine) : Prop := a.fQueue.length ≤ 9223372036854775807 ∧ (∀ x ∈ a.fQueue, x.ok) ∧ a.fCall.ok ∧ (-9223372036854775808 ≤ a.fNumber ∧ a.fNumber ≤ 9223372036854775807) ∧ (-9223372036854775808 ≤ a.fDue ∧ a.fDue ≤ 9223372036854775807) ∧ (-9223372036854775808 ≤ a.fLeft ∧ a.fLeft ≤ 9223372036854775807) ∧ (-9223372036854775808 ≤ a.fNext ∧ a.fNext ≤ 9223372036854775807) ∧ (-9223372036854775808 ≤ a.fWait ∧ a.fWait ≤ 9223372036854775807) ∧ (-9223372036854775808 ≤ a.fTries ∧ a.fTries ≤ 9223372036854775807)

def TFabric.ok (a : TFabric) : Prop := (-9223372036854775808 ≤ a.fNow ∧ a.fNow ≤ 9223372036854775807) ∧ a.fSet.ok ∧ a.fOpen.ok ∧ a.fLines.length ≤ 9223372036854775807 ∧ (∀ x ∈ a.fLines, x.ok) ∧ (-9223372036854775808 ≤ a.fAsked ∧ a.fAsked ≤ 9223372036854775807) ∧ (-9223372036854775808 ≤ a.fReplied ∧ a.fReplied ≤ 9223372036854775807) ∧ (-9223372036854775808 ≤ a.fFaults ∧ a.fFaults ≤ 9223372036854775807) ∧ (-9223372036854775808 ≤ a.fSent ∧ a.fSent ≤ 9223372036854775807)

def TDevice.ok (a : TDevice) : Prop := a.fCoils.length ≤ 9223372036854775807 ∧ a.fInputs.length ≤ 9223372036854775807 ∧ a.fHolding.length ≤ 9223372036854775807 ∧ (∀ x ∈ a.fHolding, -9223372036854775808 ≤ x ∧ x ≤ 9223372036854775807) ∧ a.fWords.length ≤ 9223372036854775807 ∧ (∀ x ∈ a.fWords, -9223372036854775808 ≤ x ∧ x ≤ 9223372036854775807)

def TPost.ok (a : TPost) : Prop := (-9223372036854775808 ≤ a.fPort ∧ a.fPort ≤ 9223372036854775807) ∧ (-9223372036854775808 ≤ a.fUnit ∧ a.fUnit ≤ 9223372036854775807) ∧ a.fD.ok

def TPacket.ok (a : TPacket) : Prop := (-9223372036854775808 ≤ a.fPort ∧ a.fPort ≤ 9223372036854775807) ∧ (-9223372036854775808 ≤ a.fNumber ∧ a.fNumber ≤ 9223372036854775807) ∧ (-9223372036854775808 ≤ a.fUnit ∧ a.fUnit ≤ 9223372036854775807) ∧ a.fReq.ok ∧ a.fResp.ok

def TReply.ok (a : TReply) : Prop := (-9223372036854775808 ≤ a.fSource ∧ a.fSource ≤ 9223372036854775807) ∧ (-9223372036854775808 ≤ a.fTag ∧ a.fTag ≤ 9223372036854775807) ∧ a.fReq.ok ∧ a.fParts.length ≤ 9223372036854775807 ∧ (∀ x ∈ a.fParts, x.ok) ∧ a.fTold.length ≤ 9223372036854775807 ∧ (∀ x ∈ a.fTold, x.ok) ∧ a.fResp.ok

def TServed.ok (a : TServed) : Prop := (-9223372036854775808 ≤ a.fPort ∧ a.fPort ≤ 9223372036854775807) ∧ (-9223372036854775808 ≤ a.fNumber ∧ a.fNumber ≤ 9223372036854775807) ∧ (-9223372036854775808 ≤ a.fUnit ∧ a.fUnit ≤ 9223372036854775807) ∧ a.fReq.ok ∧ a.fResp.ok

def TWorld.ok (a : TWorld) : Prop := a.fF.ok ∧ a.fPosts.length ≤ 9223372036854775807 ∧ (∀ x ∈ a.fPosts, x.ok) ∧ a.fNet.length ≤ 9223372036854775807 ∧ (∀ x ∈ a.fNet, x.ok) ∧ a.fReplies.length ≤ 9223372036854775807 ∧ (∀ x ∈ a.fReplies, x.ok) ∧ a.fServed.length ≤ 9223372036854775807 ∧ (∀ x ∈ a.fServed, x.ok)

def z_Rule : V := .agg [V.int .i64 0, V.int .i64 0, V.int .i64 0, V.int .i64 0, V.int .i64 0, V.int .i64 0, V.int .i64 0]

def z_Part : V := .agg [V.int .i64 0, V.int .i64 0, V.int .i64 0, V.int .i64 0, V.int .i64 0, V.own 1 [], V.own 1 [], V.int .i64 0]

def z_Resp : V := .agg [V.int .i64 0, V.int .i64 0, V.int .i64 0, V.int .i64 0, V.own 1 [], V.own 1 []]

def z_Pend : V := .agg [V.int .i64 0, V.int .i64 0, V.int .i64 0, V.int .i64 0, V.int .i64 0, V.int .i64 0, V.int .i64 0, V.own 1 [], V.own 1 [], V.int .i64 0, V.own 8 [], V.own 1 [], V.own 6 []]

def z_Call : V := .agg [V.int .i64 0, V.int .i64 0, V.int .i64 0, V.int .i64 0, V.int .i64 0, V.int .i64 0, V.own 1 [], V.own 1 [], V.int .i64 0]

def z_Line : V := .agg [V.own 9 [], V.bool false, V.int .i64 0, V.int .i64 0, V.int .i64 0, V.int .i64 0, V.int .i64 0, V.int .i64 0, V.own 1 [], V.own 1 [], V.int .i64 0, V.int .i64 0, V.int .i64 0, V.int .i64 0, V.int .i64 0, V.int .i64 0, V.int .i64 0]

def z_Post : V := .agg [V.int .i64 0, V.int .i64 0, V.own 1 [], V.own 1 [], V.own 1 [], V.own 1 []]

def z_Packet : V := .agg [V.bool false, V.int .i64 0, V.int .i64 0, V.int .i64 0, V.int .i64 0, V.int .i64 0, V.int .i64 0, V.own 1 [], V.own 1 [], V.int .i64 0, V.int .i64 0, V.int .i64 0, V.int .i64 0, V.int .i64 0, V.own 1 [], V.own 1 []]

def z_Reply : V := .agg [V.int .i64 0, V.int .i64 0, V.int .i64 0, V.int .i64 0, V.int .i64 0, V.own 1 [], V.own 1 [], V.int .i64 0, V.own 8 [], V.own 6 [], V.int .i64 0, V.int .i64 0, V.int .i64 0, V.int .i64 0, V.own 1 [], V.own 1 []]

def z_Served : V := .agg [V.int .i64 0, V.int .i64 0, V.int .i64 0, V.int .i64 0, V.int .i64 0, V.int .i64 0, V.own 1 [], V.own 1 [], V.int .i64 0, V.int .i64 0, V.int .i64 0, V.int .i64 0, V.int .i64 0, V.own 1 [], V.own 1 []]

attribute [local simp] RunC_seq RunC_cond RunC_block RunC_skip RunC_exit RunC_ret RunC_region runOps St.wanted St.step St.dest St.settle St.settleLeaf St.rd V.borrowAll V.borrow borrows V.killVar1 St.fin V.unloc1 St.finish St.rdRes tupV St.takesAll St.view St.views St.viewLeaf V.cells bnd binV intBin St.rds St.passes St.windows St.backs St.land flatV scal unV St.cont St.root St.take St.takeLeaf St.takes St.freeze St.freezeLeaf St.freezes V.killBox1 V.leafwise St.settles lenV intV V.only1 St.viewsAll V.fresh V.freshL St.putCells St.putCell St.put St.get St.setCont St.setRoot Root.okAt St.kill V.kill1
attribute [local simp] RunC_draw runD St.only evalP St.peek HOp.pure St.listOk V.whole V.parts V.isGone V.notGone St.stepD St.destD chkD RunC_loop St.trim V.under V.under1 V.like V.like1 V.cells1 V.erase V.eraseL take_map_len lt_len

theorem fresh_IntS (xs : List Int) : V.freshL (xs.map (V.int .i64)) = true := freshL_map (fun _ => rfl) xs
theorem erase_IntS (xs : List Int) : V.eraseL (xs.map (V.int .i64)) = xs.map (V.int .i64) := eraseL_map (fun _ => rfl) xs

theorem fresh_BoolS (xs : List Bool) : V.freshL (xs.map V.bool) = true := freshL_map (fun _ => rfl) xs
theorem erase_BoolS (xs : List Bool) : V.eraseL (xs.map V.bool) = xs.map V.bool := eraseL_map (fun _ => rfl) xs

theorem fresh_RuleS (xs : List TRule) : V.freshL (xs.map TRule.o) = true := freshL_map (fun a => by simp [TRule.o, TRule.oc]) xs
theorem erase_RuleS (xs : List TRule) : V.eraseL (xs.map TRule.o) = xs.map TRule.i := eraseL_map (fun a => by simp [TRule.o, TRule.oc, TRule.i, TRule.ic]) xs

theorem fresh_PartS (xs : List TPart) : V.freshL (xs.map TPart.o) = true := freshL_map (fun a => by simp [TPart.o, TPart.oc, fresh_IntS, fresh_BoolS]) xs
theorem erase_PartS (xs : List TPart) : V.eraseL (xs.map TPart.o) = xs.map TPart.i := eraseL_map (fun a => by simp [TPart.o, TPart.oc, TPart.i, TPart.ic, erase_IntS, erase_BoolS]) xs

theorem fresh_RespS (xs : List TResp) : V.freshL (xs.map TResp.o) = true := freshL_map (fun a => by simp [TResp.o, TResp.oc, fresh_IntS, fresh_BoolS]) xs
theorem erase_RespS (xs : List TResp) : V.eraseL (xs.map TResp.o) = xs.map TResp.i := eraseL_map (fun a => by simp [TResp.o, TResp.oc, TResp.i, TResp.ic, erase_IntS, erase_BoolS]) xs

theorem fresh_PendS (xs : List TPend) : V.freshL (xs.map TPend.o) = true := freshL_map (fun a => by simp [TPend.o, TPend.oc, fresh_IntS, fresh_BoolS, fresh_PartS, fresh_RespS]) xs
theorem erase_PendS (xs : List TPend) : V.eraseL (xs.map TPend.o) = xs.map TPend.i := eraseL_map (fun a => by simp [TPend.o, TPend.oc, TPend.i, TPend.ic, erase_IntS, erase_BoolS, erase_PartS, erase_RespS]) xs

theorem fresh_CallS (xs : List TCall) : V.freshL (xs.map TCall.o) = true := freshL_map (fun a => by simp [TCall.o, TCall.oc, fresh_IntS, fresh_BoolS]) xs
theorem erase_CallS (xs : List TCall) : V.eraseL (xs.map TCall.o) = xs.map TCall.i := eraseL_map (fun a => by simp [TCall.o, TCall.oc, TCall.i, TCall.ic, erase_IntS, erase_BoolS]) xs

theorem fresh_LineS (xs : List TLine) : V.freshL (xs.map TLine.o) = true := freshL_map (fun a => by simp [TLine.o, TLine.oc, fresh_CallS, fresh_IntS, fresh_BoolS]) xs
theorem erase_LineS (xs : List TLine) : V.eraseL (xs.map TLine.o) = xs.map TLine.i := eraseL_map (fun a => by simp [TLine.o, TLine.oc, TLine.i, TLine.ic, erase_CallS, erase_IntS, erase_BoolS]) xs

theorem fresh_PostS (xs : List TPost) : V.freshL (xs.map TPost.o) = true := freshL_map (fun a => by simp [TPost.o, TPost.oc, fresh_BoolS, fresh_IntS]) xs
theorem erase_PostS (xs : List TPost) : V.eraseL (xs.map TPost.o) = xs.map TPost.i := eraseL_map (fun a => by simp [TPost.o, TPost.oc, TPost.i, TPost.ic, erase_BoolS, erase_IntS]) xs

theorem fresh_PacketS (xs : List TPacket) : V.freshL (xs.map TPacket.o) = true := freshL_map (fun a => by simp [TPacket.o, TPacket.oc, fresh_IntS, fresh_BoolS]) xs
theorem erase_PacketS (xs : List TPacket) : V.eraseL (xs.map TPacket.o) = xs.map TPacket.i := eraseL_map (fun a => by simp [TPacket.o, TPacket.oc, TPacket.i, TPacket.ic, erase_IntS, erase_BoolS]) xs

theorem fresh_ReplyS (xs : List TReply) : V.freshL (xs.map TReply.o) = true := freshL_map (fun a => by simp [TReply.o, TReply.oc, fresh_IntS, fresh_BoolS, fresh_PartS, fresh_RespS]) xs
theorem erase_ReplyS (xs : List TReply) : V.eraseL (xs.map TReply.o) = xs.map TReply.i := eraseL_map (fun a => by simp [TReply.o, TReply.oc, TReply.i, TReply.ic, erase_IntS, erase_BoolS, erase_PartS, erase_RespS]) xs

theorem fresh_ServedS (xs : List TServed) : V.freshL (xs.map TServed.o) = true := freshL_map (fun a => by simp [TServed.o, TServed.oc, fresh_IntS, fresh_BoolS]) xs
theorem erase_ServedS (xs : List TServed) : V.eraseL (xs.map TServed.o) = xs.map TServed.i := eraseL_map (fun a => by simp [TServed.o, TServed.oc, TServed.i, TServed.ic, erase_IntS, erase_BoolS]) xs

end Go.Pm
