/- Proved: the law FnExactLoad answers true at all arguments, for every operating system that has started; no conditions beyond the row's own. -/
import Derived.Test.YtfoflieoeahhfaaGreatMp
set_option linter.unusedVariables false
set_option linter.unusedSimpArgs false
namespace Go.Pm
theorem specL3 (f : Tj) (port : Int) (cs all : List Ta) (i : Nat) (c : Ta) (hc : cs[i]? = some c) (hall : all.length <= 1048576) :
 (keyC c ∈ all.map keyC /\ ∃ j, x_cl_L3 f port cs all (i : Int) () = some (.inl j)) \/ (¬ keyC c ∈ all.map keyC /\ x_cl_L3 f port cs all (i : Int) () = some (.inr ())) := by
 have hi : i < cs.length := (List.getElem?_eq_some_iff.1 hc).1
 unfold x_cl_L3
 rw [if_pos (by omega)]
 have hb : ∀ d x t, d ++ x :: t = all -> ∃ e : Int ⊕ Unit, (b_cl_L3 f port cs all (i : Int) ((d.length : Nat) : Int) x ()) = some (if decide (keyC x = keyC c) then .inr e else .inl ()) := by
  intro d x t he
  have hlt := lt_mid he
  refine ⟨.inl ((d.length : Nat) : Int), ?_⟩
  rw [b_cl_L3]
  simp only [List.length_map, Nat.sub_zero, toNat_len, hc]
  rw [if_pos (by omega), if_pos (by omega)]
  simp only [Option.bind_some]
  by_cases h1 : x.fj = c.fj
  ·by_cases h2 : x.fk = c.fk
   ·simp [h1, h2, keyC]; omega
   ·simp [h1, h2, keyC]; omega
  ·simp [h1, keyC]
 obtain ⟨h1, h2⟩ := anyN (body := fun k x s => (b_cl_L3 f port cs all (i : Int) k x s)) (xs := all) (last := fun s => e_cl_L3 f port cs all (i : Int) s) (fun _ x => decide (keyC x = keyC c)) hb
 simp only [anyP_const] at h1 h2
 by_cases hm : keyC c ∈ all.map keyC
 ·have ha : (all.any fun x => decide (keyC x = keyC c)) = true := by
   rw [List.any_eq_true]
   obtain ⟨y, hy, e⟩ := List.mem_map.1 hm
   exact ⟨y, hy, by simpa using e⟩
  obtain ⟨d, x, t, e, he, _, hx, hbe, hr⟩ := h1 ha
  left
  refine ⟨hm, ?_⟩
  obtain ⟨e', hbe'⟩ := hb d x t he
  rw [b_cl_L3] at hbe
  have hlt := lt_mid he
  simp only [List.length_map, Nat.sub_zero, toNat_len, hc] at hbe
  rw [if_pos (by omega), if_pos (by omega)] at hbe
  have hk : keyC x = keyC c := by simpa using hx
  have e1 : x.fj = c.fj := congrArg Ti.fid hk
  have e2 : x.fk = c.fk := congrArg Ti.fpart hk
  simp only [Option.bind_some, e1, e2, decide_true, cond_true] at hbe
  rw [if_pos (by omega), if_pos (by omega)] at hbe
  cases hbe
  exact ⟨_, hr⟩
 ·have ha : (all.any fun x => decide (keyC x = keyC c)) = false := by
   rw [List.any_eq_false]
   intro y hy e
   exact hm (List.mem_map.2 ⟨y, hy, by simpa using e⟩)
  right
  exact ⟨hm, by rw [h2 ha]; rfl⟩
theorem specL2 (f : Tj) (hf : f.fo.sz <= 1048576) (ht : tableB f.fo = true) (port : Int) (cs : List Ta) (hp : ∀ c ∈ cs, 0 <= c.fk /\ c.sz <= 1048576) (hl : cs.length <= 1048576) (all : List Ta) (hs : all.length + cs.length <= 1048576) :
 (seeC (fitsB f.fo port) cs (all.map keyC) = none /\ ∃ j, x_cl_L2 f port cs all = some (.inl j)) \/ (∃ s, seeC (fitsB f.fo port) cs (all.map keyC) = some (s.map keyC) /\ x_cl_L2 f port cs all = some (.inr s)) := by
 unfold x_cl_L2
 rw [if_pos (by omega)]
 have key : ∀ (body) (last), (∀ k x s, body k x s = (b_cl_L2 f port cs k x s)) -> (∀ s, last s = e_cl_L2 f port cs s) -> ∀ (t d : List Ta) (all : List Ta), d ++ t = cs -> all.length + t.length <= 1048576 ->
  (seeC (fitsB f.fo port) t (all.map keyC) = none /\ ∃ j, listN body last t ((d.length : Nat) : Int) all = some (.inl j)) \/ (∃ s, seeC (fitsB f.fo port) t (all.map keyC) = some (s.map keyC) /\ listN body last t ((d.length : Nat) : Int) all = some (.inr s)) := by
  intro body last hb hlast t
  induction t with
  | nil => intro d all _ _; exact .inr ⟨all, rfl, by simp only [listN, hlast]; rfl⟩
  | cons x t ih =>
    intro d all he hs
    have hlt := lt_mid he
    have hx := hp x (mem_mid he)
    simp only [List.length_cons] at hs
    simp only [listN, hb, b_cl_L2]
    rcases specL3 f port cs all d.length x (get_mid he) (by omega) with ⟨hm, j, hr⟩ | ⟨hm, hr⟩
    ·rw [hr]
     left
     exact ⟨by simp [seeC, hm], _, rfl⟩
    ·rw [hr]
     simp only [Option.bind_some, sel2, List.length_map, Nat.sub_zero]
     rw [if_pos (show (0 : Int) <= ((d.length : Nat) : Int) /\ ((d.length : Nat) : Int) < ((cs.length : Nat) : Int) by omega), S_cf f port x hf hx.2 ht hx.1]
     simp only [Option.bind_some]
     cases hfit : fitsB f.fo port x
     ·exact .inl ⟨by simp [seeC, hfit], _, rfl⟩
     ·simp only [Bool.not_true, cond_false, List.length_singleton]
      rw [if_pos (show (0 : Int) <= ((d.length : Nat) : Int) /\ ((d.length : Nat) : Int) < ((cs.length : Nat) : Int) by omega), if_pos (show (all.length + 1) * 104 <= 70368744177664 by omega)]
      have := ih (d ++ [x]) (all ++ [x]) (by simpa using he) (by simp; omega)
      simp only [Option.bind_some, seeC]
      rw [if_pos ⟨hfit, hm⟩]
      simpa using this
 exact key _ _ (fun _ _ _ => rfl) (fun _ => rfl) cs [] all rfl hs
theorem specL1 (f : Tj) (hf : f.sz <= 1048576) (ht : tableB f.fo = true) (h6 : f.fp.length = 6) :
 (seeL (fitsB f.fo) callsS f.fp 0 [] = none /\ ∃ j, x_cl_L1 f [] = some (.inl j)) \/ (∃ s, seeL (fitsB f.fo) callsS f.fp 0 [] = some (s.map keyC) /\ x_cl_L1 f [] = some (.inr s)) := by
 simp only [Tj.sz, szL] at hf
 unfold x_cl_L1
 rw [if_pos (by omega)]
 have key : ∀ (body) (last), (∀ k x s, body k x s = (b_cl_L1 f k x s)) -> (∀ s, last s = e_cl_L1 f s) -> ∀ (t d : List Tc) (all : List Ta), d ++ t = f.fp -> all.length + (t.map Tc.sz).sum + t.length <= 1048576 ->
  (seeL (fitsB f.fo) callsS t ((d.length : Nat) : Int) (all.map keyC) = none /\ ∃ j, listN body last t ((d.length : Nat) : Int) all = some (.inl j)) \/ (∃ s, seeL (fitsB f.fo) callsS t ((d.length : Nat) : Int) (all.map keyC) = some (s.map keyC) /\ listN body last t ((d.length : Nat) : Int) all = some (.inr s)) := by
  intro body last hb hlast t
  induction t with
  | nil => intro d all _ _; exact .inr ⟨all, rfl, by simp only [listN, hlast]; rfl⟩
  | cons x t ih =>
    intro d all he hs
    have hx := szL_mem (f := Tc.sz) (mem_mid he)
    simp only [szL] at hx
    simp only [List.length_cons, List.map_cons, List.sum_cons] at hs
    have hq := szL_len (f := Ta.sz) (xs := x.fu)
    have hcl := (calls_len x).2
    have hxs : x.sz = szL Ta.sz x.fu + (x.ff.sz + 0) := rfl
    simp only [listN, hb, b_cl_L1, seeL, S_cj x (by omega), Option.bind_some]
    cases hlb : lineB x
    ·exact .inl ⟨by simp, _, rfl⟩
    ·simp only [Bool.not_true, cond_false, if_true, S_ck x (by omega), Option.bind_some]
     rcases specL2 f (by omega) ht ((d.length : Nat) : Int) (callsS x) (fun c hc => by
      have hc := (calls_perm x).mem_iff.2 hc
      exact ⟨line_part hlb hc, by have := calls_sz x hc; omega⟩) (by omega) all (by omega) with ⟨h1, j, h2⟩ | ⟨s, h1, h2⟩
     ·rw [h1, h2]; exact .inl ⟨rfl, _, rfl⟩
     ·rw [h1, h2]
      simp only [Option.bind_some, sel2]
      have hsl : s.length = all.length + (callsS x).length := by
       have h3 := (seeC_some.1 h1).2
       have := congrArg List.length h3
       simpa using this
      have := ih (d ++ [x]) s (by simpa using he) (by omega)
      simpa using this
 exact key _ _ (fun _ _ _ => rfl) (fun _ => rfl) f.fp [] [] rfl (by simp; omega)
theorem S_cl (v1 : Tj) (hv1 : v1.sz <= 1048576) (hok : v1.ok) : x_cl v1 = some (fabricB v1) := by
 have g := hv1
 simp only [Tj.sz] at g
 rw [x_cl]
 simp only [S_bk, S_bn v1.fr (by omega) hok.2.1, S_ca v1.fo (by omega), S_bj, S_cb v1.fo (by omega), Option.bind_some]
 unfold fabricB p_cz
 cases p_co v1.fan
 ·rfl
 cases configB v1.fr
 ·rfl
 cases ht : tableB v1.fo
 ·rfl
 by_cases h6 : v1.fp.length = 6
 rotate_left
 ·have : ¬ ((v1.fp.length : Nat) : Int) = 6 := by omega
  simp [h6, this]
 simp only [h6, Bool.not_true, cond_false, show decide (((6 : Nat) : Int) ≠ 6) = false from rfl, decide_true, Bool.true_and, cond_true]
 cases p_cn v1.fak 0 1000000000
 ·rfl
 cases p_cn v1.fao 0 1000000000
 ·rfl
 cases p_cn v1.fam 0 1000000000
 ·rfl
 cases p_cn v1.fap 0 1000000000
 ·rfl
 simp only [Bool.not_true, cond_false, Bool.true_and]
 rw [callsB_S]
 rcases specL1 v1 hv1 ht h6 with ⟨h1, j, h2⟩ | ⟨s, h1, h2⟩ <;> rw [h1, h2]
 ·rfl
 ·simp [sel2]
def loadN (f : Tj) : Nat := (f.fp.map fun l => (callsI l).length).sum
theorem S_ei (v1 : Tj) (hv1 : v1.sz <= 1048576) : x_ei v1 = some (loadN v1 : Int) := by
 simp only [Tj.sz, szL] at hv1
 rw [x_ei]; unfold x_ei_L1
 rw [if_pos (by omega)]
 have key : ∀ (body) (last), (∀ k x s, body k x s = (b_ei_L1 v1 k x s)) -> (∀ s, last s = e_ei_L1 v1 s) -> ∀ (t : List Tc) (k s : Int), 0 <= s -> s + (t.map Tc.sz).sum + t.length <= 2097152 -> (∀ x ∈ t, x.sz <= 1048576) -> listN body last t k s = some (s + ((t.map fun l => (callsI l).length).sum : Nat)) := by
  intro body last hb hlast t
  induction t with
  | nil => intro k s _ _ _; simp [listN, hlast, e_ei_L1]
  | cons x t ih =>
    intro k s h0 h1 hx
    simp only [List.map_cons, List.sum_cons, List.length_cons] at h1
    have hxs := hx x (by simp)
    have hc := (calls_len x).1
    have hq := szL_len (f := Ta.sz) (xs := x.fu)
    have hx2 : x.sz = szL Ta.sz x.fu + (x.ff.sz + 0) := rfl
    simp only [listN, hb, b_ei_L1, S_eg x hxs, Option.bind_some]
    rw [wrap_id (by omega) (by omega), ih (k + 1) _ (by omega) (by omega) (fun y hy => hx y (by simp [hy]))]
    simp only [List.map_cons, List.sum_cons]; congr 1; omega
 rw [key (b_ei_L1 v1) (e_ei_L1 v1) (fun _ _ _ => rfl) (fun _ => rfl) v1.fp 0 0 (by omega) (by omega) (fun x hx => by have := szL_mem (f := Tc.sz) hx; simp only [szL] at this; omega)]
 simp [loadN]
theorem S_ej (v1 : Tj) (hv1 : v1.sz <= 1048576) : x_ej v1 = some (bif fabricB v1 then (loadN v1 : Int) else 0) := by
 rw [x_ej, S_eh v1 hv1, S_ei v1 hv1]
 cases fabricB v1 <;> rfl
theorem S_cm (v1 : Tj) (hv1 : v1.sz <= 1048576) (hok : v1.ok) : x_cm v1 = some (bif fabricB v1 then (loadN v1 : Int) else 0) := by
 have hF := S_cl v1 hv1 hok
 simp only [Tj.sz, szL] at hv1
 rw [x_cm]; unfold x_cm_L1
 rw [if_pos (by omega)]
 cases hb : fabricB v1
 ·cases hl : v1.fp with
  | nil => simp [listN, e_cm_L1]
  | cons p l => simp [listN, b_cm_L1, hF, hb]
 have key : ∀ (body) (last), (∀ k x s, body k x s = (b_cm_L1 v1 k x s)) -> (∀ s, last s = e_cm_L1 v1 s) -> ∀ (t : List Tc) (k s : Int), 0 <= s -> s + (t.map Tc.sz).sum + t.length <= 2097152 -> (∀ x ∈ t, x.sz <= 1048576) -> ∃ j, listN body last t k s = some (s + ((t.map fun l => (callsI l).length).sum : Nat), j) := by
  intro body last hb' hlast t
  induction t with
  | nil => intro k s _ _ _; exact ⟨_, by simp only [listN, hlast, e_cm_L1, List.map_nil, List.sum_nil]; congr 2; omega⟩
  | cons x t ih =>
    intro k s h0 h1 hx
    simp only [List.map_cons, List.sum_cons, List.length_cons] at h1
    have hxs := hx x (by simp)
    have hc := (calls_len x).1
    have hq := szL_len (f := Ta.sz) (xs := x.fu)
    have hx2 : x.sz = szL Ta.sz x.fu + (x.ff.sz + 0) := rfl
    simp only [listN, hb', b_cm_L1, hF, hb, S_ck x hxs, Option.bind_some, cond_true, <- (calls_perm x).length_eq]
    rw [wrap_id (by omega) (by omega)]
    obtain ⟨j, hj⟩ := ih (k + 1) (s + ((callsI x).length : Nat)) (by omega) (by omega) (fun y hy => hx y (by simp [hy]))
    refine ⟨j, ?_⟩
    rw [hj]
    simp only [List.map_cons, List.sum_cons]; congr 2; omega
 obtain ⟨j, hj⟩ := key (b_cm_L1 v1) (e_cm_L1 v1) (fun _ _ _ => rfl) (fun _ => rfl) v1.fp 0 0 (by omega) (by omega) (fun x hx => by have := szL_mem (f := Tc.sz) hx; simp only [szL] at this; omega)
 rw [hj]
 simp [loadN]
theorem law_FnExactLoad (a : Tj) (h : a.ok) : x_fc a = some true := by
 rw [x_fc]
 obtain ⟨h1, h2⟩ := P_szFabric a h 1048576 (by omega) (by omega)
 by_cases hs : a.sz <= 1048576
 ·rw [h1 (by omega)]
  have hd : decide ((1048576 : Int) - (a.sz : Int) < 0) = false := by simp; omega
  simp only [Option.bind_some, hd, cond_false, P_toFabric a hs, S_cm a hs h, S_ej a hs, P_eqFabric a hs]
  simp
 ·obtain ⟨r, hr, h0⟩ := h2 (by omega)
  rw [hr]
  have hd : decide (r < 0) = true := by simp; exact h0
  simp only [Option.bind_some, hd, cond_true]
end Go.Pm
