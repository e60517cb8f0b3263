/- Proved: the law FnExactLoad answers true at all arguments, for every operating system that has started; no conditions beyond the row's own. -/
import Derived.Test.YtfoflieoeahhfaaGreatMo
set_option linter.unusedVariables false
set_option linter.unusedSimpArgs false
namespace Go.Pm
set_option maxRecDepth 100000
set_option maxHeartbeats 400000
def x_cq (v1 : Int) : Option Bool := (x_cn v1 1 247).bind fun v2 => (some v2)
def C_cq (v1 : Int) : Ctr := ⟨n_cq, [.I v1], [], Bool, x_cq v1, rB⟩
theorem F_cq {v1 : Int} : (C_cq v1).okF tab := fun r hr => ⟨func_okx T_cq rfl (.callF (C_cn v1 1 247) fun (v2 : Bool) => .lfA rB v2 : Tree Bool _) (by kernel_rfl) (by kernel_rfl) (cF F_cn fun v2 => rfl) hr, rfl, rfl⟩
def x_cr (v1 : Int) : Option Bool := (x_cn v1 0 65535).bind fun v2 => (some v2)
def C_cr (v1 : Int) : Ctr := ⟨n_cr, [.I v1], [], Bool, x_cr v1, rB⟩
theorem F_cr {v1 : Int} : (C_cr v1).okF tab := fun r hr => ⟨func_okx T_cr rfl (.callF (C_cn v1 0 65535) fun (v2 : Bool) => .lfA rB v2 : Tree Bool _) (by kernel_rfl) (by kernel_rfl) (cF F_cn fun v2 => rfl) hr, rfl, rfl⟩
def x_cs (v1 : Int) : Option Bool := (x_cn v1 0 5).bind fun v2 => (some v2)
def C_cs (v1 : Int) : Ctr := ⟨n_cs, [.I v1], [], Bool, x_cs v1, rB⟩
theorem F_cs {v1 : Int} : (C_cs v1).okF tab := fun r hr => ⟨func_okx T_cs rfl (.callF (C_cn v1 0 5) fun (v2 : Bool) => .lfA rB v2 : Tree Bool _) (by kernel_rfl) (by kernel_rfl) (cF F_cn fun v2 => rfl) hr, rfl, rfl⟩
def x_ct (v1 : Td) : Option Bool := (x_cq v1.fh).bind fun v2 => (bif !v2 then (some false) else ((x_cn v1.fat 0 3).bind fun v4 => (bif !v4 then (some false) else ((x_cr v1.faf).bind fun v6 => (bif !v6 then (some false) else ((x_cr v1.fag).bind fun v8 => (bif !v8 then (some false) else (bif decide (v1.fag < v1.faf) then (some false) else ((x_cs v1.fac).bind fun v11 => (bif !v11 then (some false) else ((x_cq v1.fau).bind fun v13 => (bif !v13 then (some false) else ((x_cn v1.fah (-65535) 65535).bind fun v15 => (bif v15 then ((x_cr (IntKind.i64.wrap (v1.faf + v1.fah))).bind fun v17 => (bif v17 then ((x_cr (IntKind.i64.wrap (v1.fag + v1.fah))).bind fun v19 => (some v19)) else (some false))) else (some false)))))))))))))))
def C_ct (v1 : Td) : Ctr := ⟨n_ct, [.agg [.I v1.fh, .I v1.fat, .I v1.faf, .I v1.fag, .I v1.fac, .I v1.fau, .I v1.fah]], [], Bool, x_ct v1, rB⟩
theorem F_ct {v1 : Td} : (C_ct v1).okF tab := fun r hr => ⟨func_okx T_ct rfl (.callF (C_cq v1.fh) fun (v2 : Bool) => .br (!v2) (.lfA rB false) <| .callF (C_cn v1.fat 0 3) fun (v4 : Bool) => .br (!v4) (.lfA rB false) <| .callF (C_cr v1.faf) fun (v6 : Bool) => .br (!v6) (.lfA rB false) <| .callF (C_cr v1.fag) fun (v8 : Bool) => .br (!v8) (.lfA rB false) <| .br (decide (v1.fag < v1.faf)) (.lfA rB false) <| .callF (C_cs v1.fac) fun (v11 : Bool) => .br (!v11) (.lfA rB false) <| .callF (C_cq v1.fau) fun (v13 : Bool) => .br (!v13) (.lfA rB false) <| .callF (C_cn v1.fah (-65535) 65535) fun (v15 : Bool) => .br v15 (.callF (C_cr (IntKind.i64.wrap (v1.faf + v1.fah))) fun (v17 : Bool) => .br v17 (.callF (C_cr (IntKind.i64.wrap (v1.fag + v1.fah))) fun (v19 : Bool) => .lfA rB v19) <| .lfA rB false) <| .lfA rB false : Tree Bool _) (by kernel_rfl) (by kernel_rfl) (cF F_cq fun v2 => bR (rfl) <| cF F_cn fun v4 => bR (rfl) <| cF F_cr fun v6 => bR (rfl) <| cF F_cr fun v8 => bR (rfl) <| bR (rfl) <| cF F_cs fun v11 => bR (rfl) <| cF F_cq fun v13 => bR (rfl) <| cF F_cn fun v15 => bR (cF F_cr fun v17 => bR (cF F_cr fun v19 => rfl) <| rfl) <| rfl) hr, rfl, rfl⟩
def x_cu (v1 : Td) (v2 : Td) : Option Bool := bif decide (v1.fh = v2.fh) then (bif decide (v1.fat = v2.fat) then (bif decide (v1.faf <= v2.fag) then (some (decide (v2.faf <= v1.fag))) else (some false)) else (some false)) else (some false)
def C_cu (v1 : Td) (v2 : Td) : Ctr := ⟨n_cu, [.agg [.I v1.fh, .I v1.fat, .I v1.faf, .I v1.fag, .I v1.fac, .I v1.fau, .I v1.fah], .eptr [.I v2.fh, .I v2.fat, .I v2.faf, .I v2.fag, .I v2.fac, .I v2.fau, .I v2.fah] 0], [], Bool, x_cu v1 v2, rB⟩
theorem F_cu {v1 : Td} {v2 : Td} : (C_cu v1 v2).okF tab := fun r hr => ⟨func_okx T_cu rfl (.br (decide (v1.fh = v2.fh)) (.br (decide (v1.fat = v2.fat)) (.br (decide (v1.faf <= v2.fag)) (.lfA rB (decide (v2.faf <= v1.fag))) <| .lfA rB false) <| .lfA rB false) <| .lfA rB false : Tree Bool _) (by kernel_rfl) (by kernel_rfl) (bR (bR (bR (rfl) <| rfl) <| rfl) <| rfl) hr, rfl, rfl⟩
def J_cv_L1 (v1 : List Td) (v2 : Td) (k : Int) (s : Unit) : St := ⟨sv 8 [(0, .imm 7 (v1.map Td.i)), (1, .clo n_cu [.agg [.I v2.fh, .I v2.fat, .I v2.faf, .I v2.fag, .I v2.fac, .I v2.fau, .I v2.fah]]), (4, .I (v1.length : Int)), (5, .I k)], []⟩
def q0_cv_L1 (v1 : List Td) (v2 : Td) : Int -> Ex × St := fun p => (.ret, ⟨sv 8 [(0, .imm 7 (v1.map Td.i)), (1, .clo n_cu [.agg [.I v2.fh, .I v2.fat, .I v2.faf, .I v2.fag, .I v2.fac, .I v2.fau, .I v2.fah]]), (2, .I p), (3, .I p), (4, .I (v1.length : Int)), (5, .I p), (6, .bool true), (7, .bool true)], []⟩)
def q1_cv_L1 (v1 : List Td) (v2 : Td) : Unit -> Ex × St := fun p => ((.exit 0), ⟨sv 8 [(0, .imm 7 (v1.map Td.i)), (1, .clo n_cu [.agg [.I v2.fh, .I v2.fat, .I v2.faf, .I v2.fag, .I v2.fac, .I v2.fau, .I v2.fah]]), (4, .I (v1.length : Int)), (5, .I (v1.length : Int)), (6, .bool false)], []⟩)
def u_cv_L1 (v1 : List Td) (v2 : Td) (k : Int) := outL (J_cv_L1 v1 v2 k) (Sum.elim (q0_cv_L1 v1 v2) (q1_cv_L1 v1 v2))
def b_cv_L1 (v1 : List Td) (v2 : Td) (k : Int) (x : Td) (s : Unit) : Option ((Unit) ⊕ (Int ⊕ Unit)) := (x_cu x v2).bind fun v15 => (bif v15 then (some (.inr (.inl k))) else (some (.inl ())))
def e_cv_L1 (v1 : List Td) (v2 : Td) (s : Unit) : Option (Int ⊕ Unit) := some ((.inr ()))
def x_cv_L1 (v1 : List Td) (v2 : Td) (s : Unit) : Option (Int ⊕ Unit) := if v1.length <= 9223372036854775806 then listN (b_cv_L1 v1 v2) (e_cv_L1 v1 v2) v1 0 s else none
def L_cv_L1 (v1 : List Td) (v2 : Td) (s : Unit) : Lc2 := ⟨8, l_cv_0, 0, [2, 3, 6, 7], some (J_cv_L1 v1 v2 0 s), Int, Unit, x_cv_L1 v1 v2 s, q0_cv_L1 v1 v2, q1_cv_L1 v1 v2⟩
theorem I_cv_L1 {v1 : List Td} {v2 : Td} {s : Unit} : (L_cv_L1 v1 v2 s).ok tab := Lc2_of (list_okx (J := J_cv_L1 v1 v2) (o := (Sum.elim (q0_cv_L1 v1 v2) (q1_cv_L1 v1 v2))) v1 (B := fun (k : Int) (x : Td) (s : Unit) => (.kb (decide (k < (v1.length : Int))) true <| .ob (0 <= k) <| .lkX Td.i v1 (k.toNat) x <| .callF (C_cu x v2) fun (v15 : Bool) => .br v15 (.lfA (u_cv_L1 v1 v2 (IntKind.i64.wrap (k + 1))) (.inr (.inl k))) <| .lfA (u_cv_L1 v1 v2 (IntKind.i64.wrap (k + 1))) (.inl ()) : Tree ((Unit) ⊕ (Int ⊕ Unit)) _)) (E := fun (s : Unit) => (.kb (decide ((v1.length : Int) < (v1.length : Int))) false <| .lfA (u_cv_L1 v1 v2 0) (.inr (.inr ())) : Tree ((Unit) ⊕ (Int ⊕ Unit)) _)) (fun k x s => by kernel_rfl) (fun d x t s he => ⟨ltX he, ⟨Int.natCast_nonneg _, ⟨lookX_ok Td.i he, cF F_cu fun v15 => bR (rfl) <| rfl⟩⟩⟩) (ho2 (fun _ => rfl) fun _ => rfl) (fun s => by kernel_rfl) (fun s => ⟨ltE _, rfl⟩) (by kernel_rfl) (by kernel_rfl) s)
def x_cv (v1 : List Td) (v2 : Td) : Option Int := (x_cv_L1 v1 v2 ()).bind (sel2 (fun (v17 : Int) => (some v17)) (fun (v18 : Unit) => (some (-1))))
def C_cv (v1 : List Td) (v2 : Td) : Ctr := ⟨n_cv, [.imm 7 (v1.map Td.i), .clo n_cu [.agg [.I v2.fh, .I v2.fat, .I v2.faf, .I v2.fag, .I v2.fac, .I v2.fau, .I v2.fah]]], [], Int, x_cv v1 v2, rI⟩
theorem F_cv {v1 : List Td} {v2 : Td} : (C_cv v1 v2).okF tab := fun r hr => ⟨func_okx T_cv rfl (.lenA Td.i v1 <| .lp2 (L_cv_L1 v1 v2 ()) (fun (v17 : Int) => .lfA rI v17) (fun (v18 : Unit) => .lfA rI (-1)) : Tree Int _) (by kernel_rfl) (by kernel_rfl) (lA <| lQ I_cv_L1 (fun v17 => rfl) (fun v18 => rfl)) hr, rfl, rfl⟩
def x_cw (v1 : List Td) (v2 : Td) : Option Bool := (x_cv v1 v2).bind fun v3 => (some (decide (0 <= v3)))
def C_cw (v1 : List Td) (v2 : Td) : Ctr := ⟨n_cw, [.imm 7 (v1.map Td.i), .clo n_cu [.agg [.I v2.fh, .I v2.fat, .I v2.faf, .I v2.fag, .I v2.fac, .I v2.fau, .I v2.fah]]], [], Bool, x_cw v1 v2, rB⟩
theorem F_cw {v1 : List Td} {v2 : Td} : (C_cw v1 v2).okF tab := fun r hr => ⟨func_okx T_cw rfl (.callF (C_cv v1 v2) fun (v3 : Int) => .lfA rB (decide (0 <= v3)) : Tree Bool _) (by kernel_rfl) (by kernel_rfl) (cF F_cv fun v3 => rfl) hr, rfl, rfl⟩
def J_cx_L1 (v1 : List Td) (k : Int) (s : Unit) : St := ⟨sv 9 [(0, .imm 7 (v1.map Td.i)), (4, .imm 7 (v1.map Td.i)), (5, .I (v1.length : Int)), (6, .I k)], []⟩
def q0_cx_L1 (v1 : List Td) : (Int × Td) -> Ex × St := fun p => (.ret, ⟨sv 9 [(0, .imm 7 (v1.map Td.i)), (1, .bool false), (2, .I p.1), (3, .ref (.box 0) 0 []), (4, .imm 7 (v1.map Td.i)), (5, .I (v1.length : Int)), (6, .I p.1), (7, .bool true), (8, .bool true)], [[.I p.2.fh, .I p.2.fat, .I p.2.faf, .I p.2.fag, .I p.2.fac, .I p.2.fau, .I p.2.fah]]⟩)
def q1_cx_L1 (v1 : List Td) : Unit -> Ex × St := fun p => ((.exit 0), ⟨sv 9 [(0, .imm 7 (v1.map Td.i)), (4, .imm 7 (v1.map Td.i)), (5, .I (v1.length : Int)), (6, .I (v1.length : Int)), (7, .bool false)], []⟩)
def u_cx_L1 (v1 : List Td) (k : Int) := outL (J_cx_L1 v1 k) (Sum.elim (q0_cx_L1 v1) (q1_cx_L1 v1))
def b_cx_L1 (v1 : List Td) (k : Int) (x : Td) (s : Unit) : Option ((Unit) ⊕ ((Int × Td) ⊕ Unit)) := (x_ct x).bind fun v18 => (bif !v18 then (some (.inr (.inl (k, x)))) else (if (0 : Int) <= 0 /\ (0 : Int) <= k /\ k <= (((v1.map Td.i).length : Nat) : Int) then ((x_cw ((v1.take ((k : Int).toNat)).drop ((0 : Int).toNat)) x).bind fun v20 => (bif v20 then (some (.inr (.inl (k, x)))) else (some (.inl ())))) else none))
def e_cx_L1 (v1 : List Td) (s : Unit) : Option ((Int × Td) ⊕ Unit) := some ((.inr ()))
def x_cx_L1 (v1 : List Td) (s : Unit) : Option ((Int × Td) ⊕ Unit) := if v1.length <= 9223372036854775806 then listN (b_cx_L1 v1) (e_cx_L1 v1) v1 0 s else none
def L_cx_L1 (v1 : List Td) (s : Unit) : Lc2 := ⟨9, l_cx_0, 0, [1, 2, 3, 7, 8], some (J_cx_L1 v1 0 s), Int × Td, Unit, x_cx_L1 v1 s, q0_cx_L1 v1, q1_cx_L1 v1⟩
theorem I_cx_L1 {v1 : List Td} {s : Unit} : (L_cx_L1 v1 s).ok tab := Lc2_of (list_okx (J := J_cx_L1 v1) (o := (Sum.elim (q0_cx_L1 v1) (q1_cx_L1 v1))) v1 (B := fun (k : Int) (x : Td) (s : Unit) => (.kb (decide (k < (v1.length : Int))) true <| .ob (0 <= k) <| .lkX Td.i v1 (k.toNat) x <| .callF (C_ct x) fun (v18 : Bool) => .br (!v18) (.lfA (u_cx_L1 v1 (IntKind.i64.wrap (k + 1))) (.inr (.inl (k, x)))) <| .guard ((0 : Int) <= 0 /\ (0 : Int) <= k /\ k <= (((v1.map Td.i).length : Nat) : Int)) inferInstance <| .cutA Td.i v1 ((0 : Int).toNat) ((k : Int).toNat) <| .callF (C_cw ((v1.take ((k : Int).toNat)).drop ((0 : Int).toNat)) x) fun (v20 : Bool) => .br v20 (.lfA (u_cx_L1 v1 (IntKind.i64.wrap (k + 1))) (.inr (.inl (k, x)))) <| .lfA (u_cx_L1 v1 (IntKind.i64.wrap (k + 1))) (.inl ()) : Tree ((Unit) ⊕ ((Int × Td) ⊕ Unit)) _)) (E := fun (s : Unit) => (.kb (decide ((v1.length : Int) < (v1.length : Int))) false <| .lfA (u_cx_L1 v1 0) (.inr (.inr ())) : Tree ((Unit) ⊕ ((Int × Td) ⊕ Unit)) _)) (fun k x s => by kernel_rfl) (fun d x t s he => ⟨ltX he, ⟨Int.natCast_nonneg _, ⟨lookX_ok Td.i he, cF F_ct fun v18 => bR (rfl) <| gU <| ⟨cutA_ok _ _ _ _, cF F_cw fun v20 => bR (rfl) <| rfl⟩⟩⟩⟩) (ho2 (fun _ => rfl) fun _ => rfl) (fun s => by kernel_rfl) (fun s => ⟨ltE _, rfl⟩) (by kernel_rfl) (by kernel_rfl) s)
def x_cx (v1 : List Td) : Option Bool := (x_cx_L1 v1 ()).bind (sel2 (fun (v22 : Int × Td) => (some false)) (fun (v23 : Unit) => (some (decide ((v1.length : Int) <= 24)))))
def C_cx (v1 : List Td) : Ctr := ⟨n_cx, [.imm 7 (v1.map Td.i)], [], Bool, x_cx v1, rB⟩
theorem F_cx {v1 : List Td} : (C_cx v1).okF tab := fun r hr => ⟨func_okx T_cx rfl (.lenA Td.i v1 <| .lp2 (L_cx_L1 v1 ()) (fun (v22 : Int × Td) => .lfA rB false) (fun (v23 : Unit) => .lenA Td.i v1 <| .lfA rB (decide ((v1.length : Int) <= 24))) : Tree Bool _) (by kernel_rfl) (by kernel_rfl) (lA <| lQ I_cx_L1 (fun v22 => rfl) (fun v23 => lA <| rfl)) hr, rfl, rfl⟩
def x_cy (v1 : Tl) : Option Bool := (x_cp v1.fab v1.fw).bind fun v2 => (bif v2 then ((x_cx v1.fad).bind fun v4 => (some v4)) else (some false))
def C_cy (v1 : Tl) : Ctr := ⟨n_cy, [.agg [.I v1.fab, .I v1.fw, .imm 7 (v1.fad.map Td.i)]], [], Bool, x_cy v1, rB⟩
theorem F_cy {v1 : Tl} : (C_cy v1).okF tab := fun r hr => ⟨func_okx T_cy rfl (.callF (C_cp v1.fab v1.fw) fun (v2 : Bool) => .br v2 (.callF (C_cx v1.fad) fun (v4 : Bool) => .lfA rB v4) <| .lfA rB false : Tree Bool _) (by kernel_rfl) (by kernel_rfl) (cF F_cp fun v2 => bR (cF F_cx fun v4 => rfl) <| rfl) hr, rfl, rfl⟩
def x_cz (v1 : Int) : Option Bool := (x_cn v1 0 1000000000).bind fun v2 => (some v2)
def C_cz (v1 : Int) : Ctr := ⟨n_cz, [.I v1], [], Bool, x_cz v1, rB⟩
theorem F_cz {v1 : Int} : (C_cz v1).okF tab := fun r hr => ⟨func_okx T_cz rfl (.callF (C_cn v1 0 1000000000) fun (v2 : Bool) => .lfA rB v2 : Tree Bool _) (by kernel_rfl) (by kernel_rfl) (cF F_cn fun v2 => rfl) hr, rfl, rfl⟩
def o_da : (Th × Th × Th) -> V × List (List V) := fun r => (.tup [.agg [.int .i64 r.1.f0, .int .i64 r.1.f1], .agg [.int .i64 r.2.1.f0, .int .i64 r.2.1.f1], .agg [.int .i64 r.2.2.f0, .int .i64 r.2.2.f1]], [])
def x_da (v1 : Int) : Option (Th × Th × Th) := bif decide (v1 = 1) then (some ((⟨1, 2000⟩ : Th), (⟨0, 0⟩ : Th), (⟨0, 0⟩ : Th))) else (bif decide (v1 = 2) then (some ((⟨1, 2000⟩ : Th), (⟨0, 0⟩ : Th), (⟨0, 0⟩ : Th))) else (bif decide (v1 = 3) then (some ((⟨1, 125⟩ : Th), (⟨0, 0⟩ : Th), (⟨0, 0⟩ : Th))) else (bif decide (v1 = 4) then (some ((⟨1, 125⟩ : Th), (⟨0, 0⟩ : Th), (⟨0, 0⟩ : Th))) else (bif decide (v1 = 5) then (some ((⟨0, 0⟩ : Th), (⟨0, 0⟩ : Th), (⟨1, 1⟩ : Th))) else (bif decide (v1 = 6) then (some ((⟨0, 0⟩ : Th), (⟨1, 1⟩ : Th), (⟨0, 0⟩ : Th))) else (bif decide (v1 = 15) then (some ((⟨0, 0⟩ : Th), (⟨0, 0⟩ : Th), (⟨1, 1968⟩ : Th))) else (bif decide (v1 = 16) then (some ((⟨0, 0⟩ : Th), (⟨1, 123⟩ : Th), (⟨0, 0⟩ : Th))) else (bif decide (v1 = 22) then (some ((⟨0, 0⟩ : Th), (⟨2, 2⟩ : Th), (⟨0, 0⟩ : Th))) else (some ((⟨1, 125⟩ : Th), (⟨1, 121⟩ : Th), (⟨0, 0⟩ : Th)))))))))))
def C_da (v1 : Int) : Ctr := ⟨n_da, [.I v1], [], Th × Th × Th, x_da v1, o_da⟩
theorem G_da (r : Th × Th × Th) : (o_da r).1.fresh = true := by simp only [o_da, V.fresh, V.freshL, Bool.and_self, Bool.true_and]
theorem F_da {v1 : Int} : (C_da v1).okF tab := fun r hr => ⟨func_okx T_da rfl (.br (decide (v1 = 1)) (.ob ((.agg [.int .i64 0, .int .i64 0] : V) = .agg [.int .i64 0, .int .i64 0]) <| .ob ((.agg [.int .i64 0, .int .i64 0] : V) = .agg [.int .i64 0, .int .i64 0]) <| .ob ((.agg [.int .i64 0, .int .i64 0] : V) = .agg [.int .i64 0, .int .i64 0]) <| .ob ((.agg [.int .i64 0, .int .i64 0] : V) = .agg [.int .i64 0, .int .i64 0]) <| .ob ((.agg [.int .i64 0, .int .i64 0] : V) = .agg [.int .i64 0, .int .i64 0]) <| .ob ((.agg [.int .i64 0, .int .i64 0] : V) = .agg [.int .i64 0, .int .i64 0]) <| .lfA o_da ((⟨1, 2000⟩ : Th), (⟨0, 0⟩ : Th), (⟨0, 0⟩ : Th))) <| .br (decide (v1 = 2)) (.ob ((.agg [.int .i64 0, .int .i64 0] : V) = .agg [.int .i64 0, .int .i64 0]) <| .ob ((.agg [.int .i64 0, .int .i64 0] : V) = .agg [.int .i64 0, .int .i64 0]) <| .ob ((.agg [.int .i64 0, .int .i64 0] : V) = .agg [.int .i64 0, .int .i64 0]) <| .ob ((.agg [.int .i64 0, .int .i64 0] : V) = .agg [.int .i64 0, .int .i64 0]) <| .ob ((.agg [.int .i64 0, .int .i64 0] : V) = .agg [.int .i64 0, .int .i64 0]) <| .ob ((.agg [.int .i64 0, .int .i64 0] : V) = .agg [.int .i64 0, .int .i64 0]) <| .lfA o_da ((⟨1, 2000⟩ : Th), (⟨0, 0⟩ : Th), (⟨0, 0⟩ : Th))) <| .br (decide (v1 = 3)) (.ob ((.agg [.int .i64 0, .int .i64 0] : V) = .agg [.int .i64 0, .int .i64 0]) <| .ob ((.agg [.int .i64 0, .int .i64 0] : V) = .agg [.int .i64 0, .int .i64 0]) <| .ob ((.agg [.int .i64 0, .int .i64 0] : V) = .agg [.int .i64 0, .int .i64 0]) <| .ob ((.agg [.int .i64 0, .int .i64 0] : V) = .agg [.int .i64 0, .int .i64 0]) <| .ob ((.agg [.int .i64 0, .int .i64 0] : V) = .agg [.int .i64 0, .int .i64 0]) <| .ob ((.agg [.int .i64 0, .int .i64 0] : V) = .agg [.int .i64 0, .int .i64 0]) <| .lfA o_da ((⟨1, 125⟩ : Th), (⟨0, 0⟩ : Th), (⟨0, 0⟩ : Th))) <| .br (decide (v1 = 4)) (.ob ((.agg [.int .i64 0, .int .i64 0] : V) = .agg [.int .i64 0, .int .i64 0]) <| .ob ((.agg [.int .i64 0, .int .i64 0] : V) = .agg [.int .i64 0, .int .i64 0]) <| .ob ((.agg [.int .i64 0, .int .i64 0] : V) = .agg [.int .i64 0, .int .i64 0]) <| .ob ((.agg [.int .i64 0, .int .i64 0] : V) = .agg [.int .i64 0, .int .i64 0]) <| .ob ((.agg [.int .i64 0, .int .i64 0] : V) = .agg [.int .i64 0, .int .i64 0]) <| .ob ((.agg [.int .i64 0, .int .i64 0] : V) = .agg [.int .i64 0, .int .i64 0]) <| .lfA o_da ((⟨1, 125⟩ : Th), (⟨0, 0⟩ : Th), (⟨0, 0⟩ : Th))) <| .br (decide (v1 = 5)) (.ob ((.agg [.int .i64 1, .int .i64 1] : V) = .agg [.int .i64 1, .int .i64 1]) <| .ob ((.agg [.int .i64 1, .int .i64 1] : V) = .agg [.int .i64 1, .int .i64 1]) <| .ob ((.agg [.int .i64 0, .int .i64 0] : V) = .agg [.int .i64 0, .int .i64 0]) <| .ob ((.agg [.int .i64 0, .int .i64 0] : V) = .agg [.int .i64 0, .int .i64 0]) <| .ob ((.agg [.int .i64 1, .int .i64 1] : V) = .agg [.int .i64 1, .int .i64 1]) <| .ob ((.agg [.int .i64 1, .int .i64 1] : V) = .agg [.int .i64 1, .int .i64 1]) <| .lfA o_da ((⟨0, 0⟩ : Th), (⟨0, 0⟩ : Th), (⟨1, 1⟩ : Th))) <| .br (decide (v1 = 6)) (.ob ((.agg [.int .i64 0, .int .i64 0] : V) = .agg [.int .i64 0, .int .i64 0]) <| .ob ((.agg [.int .i64 0, .int .i64 0] : V) = .agg [.int .i64 0, .int .i64 0]) <| .ob ((.agg [.int .i64 1, .int .i64 1] : V) = .agg [.int .i64 1, .int .i64 1]) <| .ob ((.agg [.int .i64 1, .int .i64 1] : V) = .agg [.int .i64 1, .int .i64 1]) <| .ob ((.agg [.int .i64 0, .int .i64 0] : V) = .agg [.int .i64 0, .int .i64 0]) <| .ob ((.agg [.int .i64 0, .int .i64 0] : V) = .agg [.int .i64 0, .int .i64 0]) <| .lfA o_da ((⟨0, 0⟩ : Th), (⟨1, 1⟩ : Th), (⟨0, 0⟩ : Th))) <| .br (decide (v1 = 15)) (.ob ((.agg [.int .i64 1, .int .i64 1968] : V) = .agg [.int .i64 1, .int .i64 1968]) <| .ob ((.agg [.int .i64 1, .int .i64 1968] : V) = .agg [.int .i64 1, .int .i64 1968]) <| .ob ((.agg [.int .i64 0, .int .i64 0] : V) = .agg [.int .i64 0, .int .i64 0]) <| .ob ((.agg [.int .i64 0, .int .i64 0] : V) = .agg [.int .i64 0, .int .i64 0]) <| .ob ((.agg [.int .i64 1, .int .i64 1968] : V) = .agg [.int .i64 1, .int .i64 1968]) <| .ob ((.agg [.int .i64 1, .int .i64 1968] : V) = .agg [.int .i64 1, .int .i64 1968]) <| .lfA o_da ((⟨0, 0⟩ : Th), (⟨0, 0⟩ : Th), (⟨1, 1968⟩ : Th))) <| .br (decide (v1 = 16)) (.ob ((.agg [.int .i64 0, .int .i64 0] : V) = .agg [.int .i64 0, .int .i64 0]) <| .ob ((.agg [.int .i64 0, .int .i64 0] : V) = .agg [.int .i64 0, .int .i64 0]) <| .ob ((.agg [.int .i64 1, .int .i64 123] : V) = .agg [.int .i64 1, .int .i64 123]) <| .ob ((.agg [.int .i64 1, .int .i64 123] : V) = .agg [.int .i64 1, .int .i64 123]) <| .ob ((.agg [.int .i64 0, .int .i64 0] : V) = .agg [.int .i64 0, .int .i64 0]) <| .ob ((.agg [.int .i64 0, .int .i64 0] : V) = .agg [.int .i64 0, .int .i64 0]) <| .lfA o_da ((⟨0, 0⟩ : Th), (⟨1, 123⟩ : Th), (⟨0, 0⟩ : Th))) <| .br (decide (v1 = 22)) (.ob ((.agg [.int .i64 0, .int .i64 0] : V) = .agg [.int .i64 0, .int .i64 0]) <| .ob ((.agg [.int .i64 0, .int .i64 0] : V) = .agg [.int .i64 0, .int .i64 0]) <| .ob ((.agg [.int .i64 2, .int .i64 2] : V) = .agg [.int .i64 2, .int .i64 2]) <| .ob ((.agg [.int .i64 2, .int .i64 2] : V) = .agg [.int .i64 2, .int .i64 2]) <| .ob ((.agg [.int .i64 0, .int .i64 0] : V) = .agg [.int .i64 0, .int .i64 0]) <| .ob ((.agg [.int .i64 0, .int .i64 0] : V) = .agg [.int .i64 0, .int .i64 0]) <| .lfA o_da ((⟨0, 0⟩ : Th), (⟨2, 2⟩ : Th), (⟨0, 0⟩ : Th))) <| .ob ((.agg [.int .i64 0, .int .i64 0] : V) = .agg [.int .i64 0, .int .i64 0]) <| .ob ((.agg [.int .i64 0, .int .i64 0] : V) = .agg [.int .i64 0, .int .i64 0]) <| .ob ((.agg [.int .i64 1, .int .i64 121] : V) = .agg [.int .i64 1, .int .i64 121]) <| .ob ((.agg [.int .i64 1, .int .i64 121] : V) = .agg [.int .i64 1, .int .i64 121]) <| .ob ((.agg [.int .i64 0, .int .i64 0] : V) = .agg [.int .i64 0, .int .i64 0]) <| .ob ((.agg [.int .i64 0, .int .i64 0] : V) = .agg [.int .i64 0, .int .i64 0]) <| .lfA o_da ((⟨1, 125⟩ : Th), (⟨1, 121⟩ : Th), (⟨0, 0⟩ : Th)) : Tree (Th × Th × Th) _) (by kernel_rfl) (by kernel_rfl) (bR (⟨rfl, ⟨rfl, ⟨rfl, ⟨rfl, ⟨rfl, ⟨rfl, rfl⟩⟩⟩⟩⟩⟩) <| bR (⟨rfl, ⟨rfl, ⟨rfl, ⟨rfl, ⟨rfl, ⟨rfl, rfl⟩⟩⟩⟩⟩⟩) <| bR (⟨rfl, ⟨rfl, ⟨rfl, ⟨rfl, ⟨rfl, ⟨rfl, rfl⟩⟩⟩⟩⟩⟩) <| bR (⟨rfl, ⟨rfl, ⟨rfl, ⟨rfl, ⟨rfl, ⟨rfl, rfl⟩⟩⟩⟩⟩⟩) <| bR (⟨rfl, ⟨rfl, ⟨rfl, ⟨rfl, ⟨rfl, ⟨rfl, rfl⟩⟩⟩⟩⟩⟩) <| bR (⟨rfl, ⟨rfl, ⟨rfl, ⟨rfl, ⟨rfl, ⟨rfl, rfl⟩⟩⟩⟩⟩⟩) <| bR (⟨rfl, ⟨rfl, ⟨rfl, ⟨rfl, ⟨rfl, ⟨rfl, rfl⟩⟩⟩⟩⟩⟩) <| bR (⟨rfl, ⟨rfl, ⟨rfl, ⟨rfl, ⟨rfl, ⟨rfl, rfl⟩⟩⟩⟩⟩⟩) <| bR (⟨rfl, ⟨rfl, ⟨rfl, ⟨rfl, ⟨rfl, ⟨rfl, rfl⟩⟩⟩⟩⟩⟩) <| ⟨rfl, ⟨rfl, ⟨rfl, ⟨rfl, ⟨rfl, ⟨rfl, rfl⟩⟩⟩⟩⟩⟩) hr, rfl, G_da r⟩
def x_db (v1 : Int) : Option Bool := (x_cn v1 1 6).bind fun v2 => (bif v2 then (some true) else (bif decide (v1 = 15) then (some true) else (bif decide (v1 = 16) then (some true) else (bif decide (v1 = 22) then (some true) else (some (decide (v1 = 23)))))))
def C_db (v1 : Int) : Ctr := ⟨n_db, [.I v1], [], Bool, x_db v1, rB⟩
theorem F_db {v1 : Int} : (C_db v1).okF tab := fun r hr => ⟨func_okx T_db rfl (.callF (C_cn v1 1 6) fun (v2 : Bool) => .br v2 (.lfA rB true) <| .br (decide (v1 = 15)) (.lfA rB true) <| .br (decide (v1 = 16)) (.lfA rB true) <| .br (decide (v1 = 22)) (.lfA rB true) <| .lfA rB (decide (v1 = 23)) : Tree Bool _) (by kernel_rfl) (by kernel_rfl) (cF F_cn fun v2 => bR (rfl) <| bR (rfl) <| bR (rfl) <| bR (rfl) <| rfl) hr, rfl, rfl⟩
def x_de (v1 : Int) : Option Bool := (x_cr v1).bind fun v2 => (some (!v2))
def C_de (v1 : Int) : Ctr := ⟨n_de, [.I v1], [], Bool, x_de v1, rB⟩
theorem F_de {v1 : Int} : (C_de v1).okF tab := fun r hr => ⟨func_okx T_de rfl (.callF (C_cr v1) fun (v2 : Bool) => .lfA rB (!v2) : Tree Bool _) (by kernel_rfl) (by kernel_rfl) (cF F_cr fun v2 => rfl) hr, rfl, rfl⟩
def J_dc_L1 (v1 : List Int) (k : Int) (s : Unit) : St := ⟨sv 8 [(0, .imm 1 (v1.map (V.int .i64))), (1, .clo n_de []), (4, .I (v1.length : Int)), (5, .I k)], []⟩
def q0_dc_L1 (v1 : List Int) : Int -> Ex × St := fun p => (.ret, ⟨sv 8 [(0, .imm 1 (v1.map (V.int .i64))), (1, .clo n_de []), (2, .I p), (3, .I p), (4, .I (v1.length : Int)), (5, .I p), (6, .bool true), (7, .bool true)], []⟩)
def q1_dc_L1 (v1 : List Int) : Unit -> Ex × St := fun p => ((.exit 0), ⟨sv 8 [(0, .imm 1 (v1.map (V.int .i64))), (1, .clo n_de []), (4, .I (v1.length : Int)), (5, .I (v1.length : Int)), (6, .bool false)], []⟩)
def u_dc_L1 (v1 : List Int) (k : Int) := outL (J_dc_L1 v1 k) (Sum.elim (q0_dc_L1 v1) (q1_dc_L1 v1))
def b_dc_L1 (v1 : List Int) (k : Int) (x : Int) (s : Unit) : Option ((Unit) ⊕ (Int ⊕ Unit)) := (x_de x).bind fun v14 => (bif v14 then (some (.inr (.inl k))) else (some (.inl ())))
def e_dc_L1 (v1 : List Int) (s : Unit) : Option (Int ⊕ Unit) := some ((.inr ()))
def x_dc_L1 (v1 : List Int) (s : Unit) : Option (Int ⊕ Unit) := if v1.length <= 9223372036854775806 then listN (b_dc_L1 v1) (e_dc_L1 v1) v1 0 s else none
def L_dc_L1 (v1 : List Int) (s : Unit) : Lc2 := ⟨8, l_dc_0, 0, [2, 3, 6, 7], some (J_dc_L1 v1 0 s), Int, Unit, x_dc_L1 v1 s, q0_dc_L1 v1, q1_dc_L1 v1⟩
theorem I_dc_L1 {v1 : List Int} {s : Unit} : (L_dc_L1 v1 s).ok tab := Lc2_of (list_okx (J := J_dc_L1 v1) (o := (Sum.elim (q0_dc_L1 v1) (q1_dc_L1 v1))) v1 (B := fun (k : Int) (x : Int) (s : Unit) => (.kb (decide (k < (v1.length : Int))) true <| .ob (0 <= k) <| .lkX (V.int .i64) v1 (k.toNat) x <| .callF (C_de x) fun (v14 : Bool) => .br v14 (.lfA (u_dc_L1 v1 (IntKind.i64.wrap (k + 1))) (.inr (.inl k))) <| .lfA (u_dc_L1 v1 (IntKind.i64.wrap (k + 1))) (.inl ()) : Tree ((Unit) ⊕ (Int ⊕ Unit)) _)) (E := fun (s : Unit) => (.kb (decide ((v1.length : Int) < (v1.length : Int))) false <| .lfA (u_dc_L1 v1 0) (.inr (.inr ())) : Tree ((Unit) ⊕ (Int ⊕ Unit)) _)) (fun k x s => by kernel_rfl) (fun d x t s he => ⟨ltX he, ⟨Int.natCast_nonneg _, ⟨lookX_ok (V.int .i64) he, cF F_de fun v14 => bR (rfl) <| rfl⟩⟩⟩) (ho2 (fun _ => rfl) fun _ => rfl) (fun s => by kernel_rfl) (fun s => ⟨ltE _, rfl⟩) (by kernel_rfl) (by kernel_rfl) s)
def x_dc (v1 : List Int) : Option Int := (x_dc_L1 v1 ()).bind (sel2 (fun (v16 : Int) => (some v16)) (fun (v17 : Unit) => (some (-1))))
def C_dc (v1 : List Int) : Ctr := ⟨n_dc, [.imm 1 (v1.map (V.int .i64)), .clo n_de []], [], Int, x_dc v1, rI⟩
theorem F_dc {v1 : List Int} : (C_dc v1).okF tab := fun r hr => ⟨func_okx T_dc rfl (.lenA (V.int .i64) v1 <| .lp2 (L_dc_L1 v1 ()) (fun (v16 : Int) => .lfA rI v16) (fun (v17 : Unit) => .lfA rI (-1)) : Tree Int _) (by kernel_rfl) (by kernel_rfl) (lA <| lQ I_dc_L1 (fun v16 => rfl) (fun v17 => rfl)) hr, rfl, rfl⟩
def x_dd (v1 : List Int) : Option Bool := (x_dc v1).bind fun v2 => (some (decide (0 <= v2)))
def C_dd (v1 : List Int) : Ctr := ⟨n_dd, [.imm 1 (v1.map (V.int .i64)), .clo n_de []], [], Bool, x_dd v1, rB⟩
theorem F_dd {v1 : List Int} : (C_dd v1).okF tab := fun r hr => ⟨func_okx T_dd rfl (.callF (C_dc v1) fun (v2 : Int) => .lfA rB (decide (0 <= v2)) : Tree Bool _) (by kernel_rfl) (by kernel_rfl) (cF F_dc fun v2 => rfl) hr, rfl, rfl⟩
def x_df (v1 : List Int) : Option Bool := (x_dd v1).bind fun v2 => (some (!v2))
def C_df (v1 : List Int) : Ctr := ⟨n_df, [.imm 1 (v1.map (V.int .i64))], [], Bool, x_df v1, rB⟩
theorem F_df {v1 : List Int} : (C_df v1).okF tab := fun r hr => ⟨func_okx T_df rfl (.callF (C_dd v1) fun (v2 : Bool) => .lfA rB (!v2) : Tree Bool _) (by kernel_rfl) (by kernel_rfl) (cF F_dd fun v2 => rfl) hr, rfl, rfl⟩
def x_dg (v1 : Tg) : Option Int := bif decide (v1.fd = 22) then (some 1) else (some (IntKind.i64.wrap ((v1.fc.length : Int) + (v1.fb.length : Int))))
def C_dg (v1 : Tg) : Ctr := ⟨n_dg, [.agg [.I v1.fd, .I v1.fe, .I v1.fN, .imm 1 (v1.fc.map (V.int .i64)), .imm 1 (v1.fb.map V.bool), .I v1.fi]], [], Int, x_dg v1, rI⟩
theorem F_dg {v1 : Tg} : (C_dg v1).okF tab := fun r hr => ⟨func_okx T_dg rfl (.br (decide (v1.fd = 22)) (.lfA rI 1) <| .lenA (V.int .i64) v1.fc <| .lenA V.bool v1.fb <| .lfA rI (IntKind.i64.wrap ((v1.fc.length : Int) + (v1.fb.length : Int))) : Tree Int _) (by kernel_rfl) (by kernel_rfl) (bR (rfl) <| lA <| lA <| rfl) hr, rfl, rfl⟩
def x_dh (v1 : Tg) : Option Bool := (x_da v1.fd).bind fun v2 => ((x_db v1.fd).bind fun v3 => (bif !v3 then (some false) else ((x_cn v1.fN v2.1.f0 v2.1.f1).bind fun v5 => (bif !v5 then (some false) else ((x_cn (v1.fc.length : Int) v2.2.1.f0 v2.2.1.f1).bind fun v7 => (bif !v7 then (some false) else ((x_cn (v1.fb.length : Int) v2.2.2.f0 v2.2.2.f1).bind fun v9 => (bif !v9 then (some false) else ((x_cr v1.fe).bind fun v11 => (bif !v11 then (some false) else ((x_cr v1.fi).bind fun v13 => (bif !v13 then (some false) else ((x_df v1.fc).bind fun v15 => (bif !v15 then (some false) else (bif decide (65536 < (IntKind.i64.wrap (v1.fe + v1.fN))) then (some false) else (bif decide (v1.fd = 23) then ((x_dg v1).bind fun v19 => (some (decide ((IntKind.i64.wrap (v1.fi + v19)) <= 65536)))) else (bif decide (v1.fi = 0) then ((x_dg v1).bind fun v21 => (some (decide ((IntKind.i64.wrap (v1.fe + v21)) <= 65536)))) else (some false))))))))))))))))))
def C_dh (v1 : Tg) : Ctr := ⟨n_dh, [.agg [.I v1.fd, .I v1.fe, .I v1.fN, .imm 1 (v1.fc.map (V.int .i64)), .imm 1 (v1.fb.map V.bool), .I v1.fi]], [], Bool, x_dh v1, rB⟩
theorem F_dh {v1 : Tg} : (C_dh v1).okF tab := fun r hr => ⟨func_okx T_dh rfl (.callF (C_da v1.fd) fun (v2 : Th × Th × Th) => .callF (C_db v1.fd) fun (v3 : Bool) => .br (!v3) (.lfA rB false) <| .sk <| .sk <| .callF (C_cn v1.fN v2.1.f0 v2.1.f1) fun (v5 : Bool) => .br (!v5) (.lfA rB false) <| .lenA (V.int .i64) v1.fc <| .sk <| .sk <| .callF (C_cn (v1.fc.length : Int) v2.2.1.f0 v2.2.1.f1) fun (v7 : Bool) => .br (!v7) (.lfA rB false) <| .lenA V.bool v1.fb <| .sk <| .sk <| .callF (C_cn (v1.fb.length : Int) v2.2.2.f0 v2.2.2.f1) fun (v9 : Bool) => .br (!v9) (.lfA rB false) <| .callF (C_cr v1.fe) fun (v11 : Bool) => .br (!v11) (.lfA rB false) <| .callF (C_cr v1.fi) fun (v13 : Bool) => .br (!v13) (.lfA rB false) <| .callF (C_df v1.fc) fun (v15 : Bool) => .br (!v15) (.lfA rB false) <| .br (decide (65536 < (IntKind.i64.wrap (v1.fe + v1.fN)))) (.lfA rB false) <| .br (decide (v1.fd = 23)) (.callF (C_dg v1) fun (v19 : Int) => .lfA rB (decide ((IntKind.i64.wrap (v1.fi + v19)) <= 65536))) <| .br (decide (v1.fi = 0)) (.callF (C_dg v1) fun (v21 : Int) => .lfA rB (decide ((IntKind.i64.wrap (v1.fe + v21)) <= 65536))) <| .lfA rB false : Tree Bool _) (by kernel_rfl) (by kernel_rfl) (cF F_da fun v2 => cF F_db fun v3 => bR (rfl) <| cF F_cn fun v5 => bR (rfl) <| lA <| cF F_cn fun v7 => bR (rfl) <| lA <| cF F_cn fun v9 => bR (rfl) <| cF F_cr fun v11 => bR (rfl) <| cF F_cr fun v13 => bR (rfl) <| cF F_df fun v15 => bR (rfl) <| bR (rfl) <| bR (cF F_dg fun v19 => rfl) <| bR (cF F_dg fun v21 => rfl) <| rfl) hr, rfl, rfl⟩
def x_dk (v1 : Tf) : Option Bool := (x_cs v1.fac).bind fun v2 => (bif v2 then ((x_cq v1.fh).bind fun v4 => (bif v4 then ((x_dh v1.fa).bind fun v6 => (some v6)) else (some false))) else (some false))
def C_dk (v1 : Tf) : Ctr := ⟨n_dk, [.agg [.I v1.fac, .I v1.fh, .I v1.fa.fd, .I v1.fa.fe, .I v1.fa.fN, .imm 1 (v1.fa.fc.map (V.int .i64)), .imm 1 (v1.fa.fb.map V.bool), .I v1.fa.fi]], [], Bool, x_dk v1, rB⟩
theorem F_dk {v1 : Tf} : (C_dk v1).okF tab := fun r hr => ⟨func_okx T_dk rfl (.callF (C_cs v1.fac) fun (v2 : Bool) => .br v2 (.callF (C_cq v1.fh) fun (v4 : Bool) => .br v4 (.callF (C_dh v1.fa) fun (v6 : Bool) => .lfA rB v6) <| .lfA rB false) <| .lfA rB false : Tree Bool _) (by kernel_rfl) (by kernel_rfl) (cF F_cs fun v2 => bR (cF F_cq fun v4 => bR (cF F_dh fun v6 => rfl) <| rfl) <| rfl) hr, rfl, rfl⟩
def x_dl (v1 : Te) : Option Bool := (x_cn v1.fae 1 255).bind fun v2 => (bif v2 then (bif decide (v1.fe = 0) then (bif decide (v1.fN = 0) then (bif decide ((v1.fc.length : Int) = 0) then (some (decide ((v1.fb.length : Int) = 0))) else (some false)) else (some false)) else (some false)) else (some false))
def C_dl (v1 : Te) : Ctr := ⟨n_dl, [.agg [.I v1.fd, .I v1.fae, .I v1.fe, .I v1.fN, .imm 1 (v1.fc.map (V.int .i64)), .imm 1 (v1.fb.map V.bool)]], [], Bool, x_dl v1, rB⟩
theorem F_dl {v1 : Te} : (C_dl v1).okF tab := fun r hr => ⟨func_okx T_dl rfl (.callF (C_cn v1.fae 1 255) fun (v2 : Bool) => .br v2 (.br (decide (v1.fe = 0)) (.br (decide (v1.fN = 0)) (.lenA (V.int .i64) v1.fc <| .br (decide ((v1.fc.length : Int) = 0)) (.lenA V.bool v1.fb <| .lfA rB (decide ((v1.fb.length : Int) = 0))) <| .lfA rB false) <| .lfA rB false) <| .lfA rB false) <| .lfA rB false : Tree Bool _) (by kernel_rfl) (by kernel_rfl) (cF F_cn fun v2 => bR (bR (bR (lA <| bR (lA <| rfl) <| rfl) <| rfl) <| rfl) <| rfl) hr, rfl, rfl⟩
def o_dm : (Th × Th × Int × Bool) -> V × List (List V) := fun r => (.tup [.agg [.int .i64 r.1.f0, .int .i64 r.1.f1], .agg [.int .i64 r.2.1.f0, .int .i64 r.2.1.f1], .int .i64 r.2.2.1, .bool r.2.2.2], [])
def x_dm (v1 : Int) : Option (Th × Th × Int × Bool) := bif decide (v1 = 1) then (some ((⟨0, 0⟩ : Th), (⟨1, 2000⟩ : Th), 0, false)) else (bif decide (v1 = 2) then (some ((⟨0, 0⟩ : Th), (⟨1, 2000⟩ : Th), 0, false)) else (bif decide (v1 = 3) then (some ((⟨1, 125⟩ : Th), (⟨0, 0⟩ : Th), 0, false)) else (bif decide (v1 = 4) then (some ((⟨1, 125⟩ : Th), (⟨0, 0⟩ : Th), 0, false)) else (bif decide (v1 = 23) then (some ((⟨1, 125⟩ : Th), (⟨0, 0⟩ : Th), 0, false)) else (bif decide (v1 = 5) then (some ((⟨0, 0⟩ : Th), (⟨1, 1⟩ : Th), 0, true)) else (bif decide (v1 = 6) then (some ((⟨1, 1⟩ : Th), (⟨0, 0⟩ : Th), 0, true)) else (bif decide (v1 = 15) then (some ((⟨0, 0⟩ : Th), (⟨0, 0⟩ : Th), 1968, true)) else (bif decide (v1 = 16) then (some ((⟨0, 0⟩ : Th), (⟨0, 0⟩ : Th), 123, true)) else (some ((⟨2, 2⟩ : Th), (⟨0, 0⟩ : Th), 0, true))))))))))
def C_dm (v1 : Int) : Ctr := ⟨n_dm, [.I v1], [], Th × Th × Int × Bool, x_dm v1, o_dm⟩
theorem G_dm (r : Th × Th × Int × Bool) : (o_dm r).1.fresh = true := by simp only [o_dm, V.fresh, V.freshL, Bool.and_self, Bool.true_and]
theorem F_dm {v1 : Int} : (C_dm v1).okF tab := fun r hr => ⟨func_okx T_dm rfl (.br (decide (v1 = 1)) (.lfA o_dm ((⟨0, 0⟩ : Th), (⟨1, 2000⟩ : Th), 0, false)) <| .br (decide (v1 = 2)) (.lfA o_dm ((⟨0, 0⟩ : Th), (⟨1, 2000⟩ : Th), 0, false)) <| .br (decide (v1 = 3)) (.lfA o_dm ((⟨1, 125⟩ : Th), (⟨0, 0⟩ : Th), 0, false)) <| .br (decide (v1 = 4)) (.lfA o_dm ((⟨1, 125⟩ : Th), (⟨0, 0⟩ : Th), 0, false)) <| .br (decide (v1 = 23)) (.lfA o_dm ((⟨1, 125⟩ : Th), (⟨0, 0⟩ : Th), 0, false)) <| .br (decide (v1 = 5)) (.lfA o_dm ((⟨0, 0⟩ : Th), (⟨1, 1⟩ : Th), 0, true)) <| .br (decide (v1 = 6)) (.lfA o_dm ((⟨1, 1⟩ : Th), (⟨0, 0⟩ : Th), 0, true)) <| .br (decide (v1 = 15)) (.lfA o_dm ((⟨0, 0⟩ : Th), (⟨0, 0⟩ : Th), 1968, true)) <| .br (decide (v1 = 16)) (.lfA o_dm ((⟨0, 0⟩ : Th), (⟨0, 0⟩ : Th), 123, true)) <| .lfA o_dm ((⟨2, 2⟩ : Th), (⟨0, 0⟩ : Th), 0, true) : Tree (Th × Th × Int × Bool) _) (by kernel_rfl) (by kernel_rfl) (bR (rfl) <| bR (rfl) <| bR (rfl) <| bR (rfl) <| bR (rfl) <| bR (rfl) <| bR (rfl) <| bR (rfl) <| bR (rfl) <| rfl) hr, rfl, G_dm r⟩
def x_dn (v1 : Te) : Option Bool := (x_db v1.fd).bind fun v2 => (bif !v2 then (some false) else (bif decide (v1.fae ≠ 0) then ((x_dl v1).bind fun v5 => (some v5)) else ((x_dm v1.fd).bind fun v6 => ((x_cn (v1.fc.length : Int) v6.1.f0 v6.1.f1).bind fun v7 => (bif !v7 then (some false) else ((x_cn (v1.fb.length : Int) v6.2.1.f0 v6.2.1.f1).bind fun v9 => (bif !v9 then (some false) else ((x_df v1.fc).bind fun v11 => (bif !v11 then (some false) else (bif decide (1 < v6.2.1.f1) then (bif decide (((v1.fb.length : Int).tmod 8) ≠ 0) then (some false) else (bif decide (v6.2.2.1 = 0) then (bif decide (v1.fN ≠ 0) then (some false) else (bif decide (0 < v6.2.2.1) then ((x_cn v1.fN 1 v6.2.2.1).bind fun v18 => (bif !v18 then (some false) else (bif v6.2.2.2 then ((x_cr v1.fe).bind fun v21 => (bif v21 then (some true) else (some (decide (v1.fe = 0))))) else (some (decide (v1.fe = 0)))))) else (bif v6.2.2.2 then ((x_cr v1.fe).bind fun v24 => (bif v24 then (some true) else (some (decide (v1.fe = 0))))) else (some (decide (v1.fe = 0)))))) else (bif decide (0 < v6.2.2.1) then ((x_cn v1.fN 1 v6.2.2.1).bind fun v27 => (bif !v27 then (some false) else (bif v6.2.2.2 then ((x_cr v1.fe).bind fun v30 => (bif v30 then (some true) else (some (decide (v1.fe = 0))))) else (some (decide (v1.fe = 0)))))) else (bif v6.2.2.2 then ((x_cr v1.fe).bind fun v33 => (bif v33 then (some true) else (some (decide (v1.fe = 0))))) else (some (decide (v1.fe = 0))))))) else (bif decide (v6.2.2.1 = 0) then (bif decide (v1.fN ≠ 0) then (some false) else (bif decide (0 < v6.2.2.1) then ((x_cn v1.fN 1 v6.2.2.1).bind fun v38 => (bif !v38 then (some false) else (bif v6.2.2.2 then ((x_cr v1.fe).bind fun v41 => (bif v41 then (some true) else (some (decide (v1.fe = 0))))) else (some (decide (v1.fe = 0)))))) else (bif v6.2.2.2 then ((x_cr v1.fe).bind fun v44 => (bif v44 then (some true) else (some (decide (v1.fe = 0))))) else (some (decide (v1.fe = 0)))))) else (bif decide (0 < v6.2.2.1) then ((x_cn v1.fN 1 v6.2.2.1).bind fun v47 => (bif !v47 then (some false) else (bif v6.2.2.2 then ((x_cr v1.fe).bind fun v50 => (bif v50 then (some true) else (some (decide (v1.fe = 0))))) else (some (decide (v1.fe = 0)))))) else (bif v6.2.2.2 then ((x_cr v1.fe).bind fun v53 => (bif v53 then (some true) else (some (decide (v1.fe = 0))))) else (some (decide (v1.fe = 0))))))))))))))))
def C_dn (v1 : Te) : Ctr := ⟨n_dn, [.agg [.I v1.fd, .I v1.fae, .I v1.fe, .I v1.fN, .imm 1 (v1.fc.map (V.int .i64)), .imm 1 (v1.fb.map V.bool)]], [], Bool, x_dn v1, rB⟩
theorem F_dn {v1 : Te} : (C_dn v1).okF tab := fun r hr => ⟨func_okx T_dn rfl (.callF (C_db v1.fd) fun (v2 : Bool) => .br (!v2) (.lfA rB false) <| .br (decide (v1.fae ≠ 0)) (.callF (C_dl v1) fun (v5 : Bool) => .lfA rB v5) <| .callF (C_dm v1.fd) fun (v6 : Th × Th × Int × Bool) => .lenA (V.int .i64) v1.fc <| .sk <| .sk <| .callF (C_cn (v1.fc.length : Int) v6.1.f0 v6.1.f1) fun (v7 : Bool) => .br (!v7) (.lfA rB false) <| .lenA V.bool v1.fb <| .sk <| .sk <| .callF (C_cn (v1.fb.length : Int) v6.2.1.f0 v6.2.1.f1) fun (v9 : Bool) => .br (!v9) (.lfA rB false) <| .callF (C_df v1.fc) fun (v11 : Bool) => .br (!v11) (.lfA rB false) <| .sk <| .br (decide (1 < v6.2.1.f1)) (.lenA V.bool v1.fb <| .sk <| .br (decide (((v1.fb.length : Int).tmod 8) ≠ 0)) (.lfA rB false) <| .br (decide (v6.2.2.1 = 0)) (.br (decide (v1.fN ≠ 0)) (.lfA rB false) <| .br (decide (0 < v6.2.2.1)) (.callF (C_cn v1.fN 1 v6.2.2.1) fun (v18 : Bool) => .br (!v18) (.lfA rB false) <| .br v6.2.2.2 (.callF (C_cr v1.fe) fun (v21 : Bool) => .br v21 (.lfA rB true) <| .lfA rB (decide (v1.fe = 0))) <| .lfA rB (decide (v1.fe = 0))) <| .br v6.2.2.2 (.callF (C_cr v1.fe) fun (v24 : Bool) => .br v24 (.lfA rB true) <| .lfA rB (decide (v1.fe = 0))) <| .lfA rB (decide (v1.fe = 0))) <| .br (decide (0 < v6.2.2.1)) (.callF (C_cn v1.fN 1 v6.2.2.1) fun (v27 : Bool) => .br (!v27) (.lfA rB false) <| .br v6.2.2.2 (.callF (C_cr v1.fe) fun (v30 : Bool) => .br v30 (.lfA rB true) <| .lfA rB (decide (v1.fe = 0))) <| .lfA rB (decide (v1.fe = 0))) <| .br v6.2.2.2 (.callF (C_cr v1.fe) fun (v33 : Bool) => .br v33 (.lfA rB true) <| .lfA rB (decide (v1.fe = 0))) <| .lfA rB (decide (v1.fe = 0))) <| .br (decide (v6.2.2.1 = 0)) (.br (decide (v1.fN ≠ 0)) (.lfA rB false) <| .br (decide (0 < v6.2.2.1)) (.callF (C_cn v1.fN 1 v6.2.2.1) fun (v38 : Bool) => .br (!v38) (.lfA rB false) <| .br v6.2.2.2 (.callF (C_cr v1.fe) fun (v41 : Bool) => .br v41 (.lfA rB true) <| .lfA rB (decide (v1.fe = 0))) <| .lfA rB (decide (v1.fe = 0))) <| .br v6.2.2.2 (.callF (C_cr v1.fe) fun (v44 : Bool) => .br v44 (.lfA rB true) <| .lfA rB (decide (v1.fe = 0))) <| .lfA rB (decide (v1.fe = 0))) <| .br (decide (0 < v6.2.2.1)) (.callF (C_cn v1.fN 1 v6.2.2.1) fun (v47 : Bool) => .br (!v47) (.lfA rB false) <| .br v6.2.2.2 (.callF (C_cr v1.fe) fun (v50 : Bool) => .br v50 (.lfA rB true) <| .lfA rB (decide (v1.fe = 0))) <| .lfA rB (decide (v1.fe = 0))) <| .br v6.2.2.2 (.callF (C_cr v1.fe) fun (v53 : Bool) => .br v53 (.lfA rB true) <| .lfA rB (decide (v1.fe = 0))) <| .lfA rB (decide (v1.fe = 0)) : Tree Bool _) (by kernel_rfl) (by kernel_rfl) (cF F_db fun v2 => bR (rfl) <| bR (cF F_dl fun v5 => rfl) <| cF F_dm fun v6 => lA <| cF F_cn fun v7 => bR (rfl) <| lA <| cF F_cn fun v9 => bR (rfl) <| cF F_df fun v11 => bR (rfl) <| bR (lA <| bR (rfl) <| bR (bR (rfl) <| bR (cF F_cn fun v18 => bR (rfl) <| bR (cF F_cr fun v21 => bR (rfl) <| rfl) <| rfl) <| bR (cF F_cr fun v24 => bR (rfl) <| rfl) <| rfl) <| bR (cF F_cn fun v27 => bR (rfl) <| bR (cF F_cr fun v30 => bR (rfl) <| rfl) <| rfl) <| bR (cF F_cr fun v33 => bR (rfl) <| rfl) <| rfl) <| bR (bR (rfl) <| bR (cF F_cn fun v38 => bR (rfl) <| bR (cF F_cr fun v41 => bR (rfl) <| rfl) <| rfl) <| bR (cF F_cr fun v44 => bR (rfl) <| rfl) <| rfl) <| bR (cF F_cn fun v47 => bR (rfl) <| bR (cF F_cr fun v50 => bR (rfl) <| rfl) <| rfl) <| bR (cF F_cr fun v53 => bR (rfl) <| rfl) <| rfl) hr, rfl, rfl⟩
def J_di_L1 (v1 : List Bool) (v2 : Bool) (k : Int) (s : Unit) : St := ⟨sv 8 [(0, .imm 1 (v1.map V.bool)), (1, .bool v2), (4, .I (v1.length : Int)), (5, .I k)], []⟩
def q0_di_L1 (v1 : List Bool) (v2 : Bool) : Int -> Ex × St := fun p => (.ret, ⟨sv 8 [(0, .imm 1 (v1.map V.bool)), (1, .bool v2), (2, .I p), (3, .I p), (4, .I (v1.length : Int)), (5, .I p), (6, .bool true), (7, .bool true)], []⟩)
def q1_di_L1 (v1 : List Bool) (v2 : Bool) : Unit -> Ex × St := fun p => ((.exit 0), ⟨sv 8 [(0, .imm 1 (v1.map V.bool)), (1, .bool v2), (4, .I (v1.length : Int)), (5, .I (v1.length : Int)), (6, .bool false)], []⟩)
def u_di_L1 (v1 : List Bool) (v2 : Bool) (k : Int) := outL (J_di_L1 v1 v2 k) (Sum.elim (q0_di_L1 v1 v2) (q1_di_L1 v1 v2))
def b_di_L1 (v1 : List Bool) (v2 : Bool) (k : Int) (x : Bool) (s : Unit) : Option ((Unit) ⊕ (Int ⊕ Unit)) := bif false ^^ (v2 == x) then (some (.inr (.inl k))) else (some (.inl ()))
def e_di_L1 (v1 : List Bool) (v2 : Bool) (s : Unit) : Option (Int ⊕ Unit) := some ((.inr ()))
def x_di_L1 (v1 : List Bool) (v2 : Bool) (s : Unit) : Option (Int ⊕ Unit) := if v1.length <= 9223372036854775806 then listN (b_di_L1 v1 v2) (e_di_L1 v1 v2) v1 0 s else none
def L_di_L1 (v1 : List Bool) (v2 : Bool) (s : Unit) : Lc2 := ⟨8, l_di_0, 0, [2, 3, 6, 7], some (J_di_L1 v1 v2 0 s), Int, Unit, x_di_L1 v1 v2 s, q0_di_L1 v1 v2, q1_di_L1 v1 v2⟩
theorem I_di_L1 {v1 : List Bool} {v2 : Bool} {s : Unit} : (L_di_L1 v1 v2 s).ok tab := Lc2_of (list_okx (J := J_di_L1 v1 v2) (o := (Sum.elim (q0_di_L1 v1 v2) (q1_di_L1 v1 v2))) v1 (B := fun (k : Int) (x : Bool) (s : Unit) => (.kb (decide (k < (v1.length : Int))) true <| .ob (0 <= k) <| .lkX V.bool v1 (k.toNat) x <| .br (false ^^ (v2 == x)) (.lfA (u_di_L1 v1 v2 (IntKind.i64.wrap (k + 1))) (.inr (.inl k))) <| .lfA (u_di_L1 v1 v2 (IntKind.i64.wrap (k + 1))) (.inl ()) : Tree ((Unit) ⊕ (Int ⊕ Unit)) _)) (E := fun (s : Unit) => (.kb (decide ((v1.length : Int) < (v1.length : Int))) false <| .lfA (u_di_L1 v1 v2 0) (.inr (.inr ())) : Tree ((Unit) ⊕ (Int ⊕ Unit)) _)) (fun k x s => by kernel_rfl) (fun d x t s he => ⟨ltX he, ⟨Int.natCast_nonneg _, ⟨lookX_ok V.bool he, bR (rfl) <| rfl⟩⟩⟩) (ho2 (fun _ => rfl) fun _ => rfl) (fun s => by kernel_rfl) (fun s => ⟨ltE _, rfl⟩) (by kernel_rfl) (by kernel_rfl) s)
def x_di (v1 : List Bool) (v2 : Bool) : Option Int := (x_di_L1 v1 v2 ()).bind (sel2 (fun (v14 : Int) => (some v14)) (fun (v15 : Unit) => (some (-1))))
def C_di (v1 : List Bool) (v2 : Bool) : Ctr := ⟨n_di, [.imm 1 (v1.map V.bool), .bool v2], [], Int, x_di v1 v2, rI⟩
theorem F_di {v1 : List Bool} {v2 : Bool} : (C_di v1 v2).okF tab := fun r hr => ⟨func_okx T_di rfl (.lenA V.bool v1 <| .lp2 (L_di_L1 v1 v2 ()) (fun (v14 : Int) => .lfA rI v14) (fun (v15 : Unit) => .lfA rI (-1)) : Tree Int _) (by kernel_rfl) (by kernel_rfl) (lA <| lQ I_di_L1 (fun v14 => rfl) (fun v15 => rfl)) hr, rfl, rfl⟩
def x_dj (v1 : List Bool) (v2 : Bool) : Option Bool := (x_di v1 v2).bind fun v3 => (some (decide (0 <= v3)))
def C_dj (v1 : List Bool) (v2 : Bool) : Ctr := ⟨n_dj, [.imm 1 (v1.map V.bool), .bool v2], [], Bool, x_dj v1 v2, rB⟩
theorem F_dj {v1 : List Bool} {v2 : Bool} : (C_dj v1 v2).okF tab := fun r hr => ⟨func_okx T_dj rfl (.callF (C_di v1 v2) fun (v3 : Int) => .lfA rB (decide (0 <= v3)) : Tree Bool _) (by kernel_rfl) (by kernel_rfl) (cF F_di fun v3 => rfl) hr, rfl, rfl⟩
def x_do (v1 : Int) (v2 : List Bool) : Option Bool := bif decide ((v2.length : Int) = (IntKind.i64.wrap ((IntKind.i64.wrap ((IntKind.i64.wrap (v1 + 7)).tdiv 8)) * 8))) then (if (0 : Int) <= v1 /\ (v1 : Int) <= (((v2.map V.bool).length : Nat) : Int) /\ (((v2.map V.bool).length : Nat) : Int) <= (((v2.map V.bool).length : Nat) : Int) then ((x_dj ((v2.take ((((v2.map V.bool).length : Nat) : Int).toNat)).drop ((v1 : Int).toNat)) true).bind fun v4 => (some (!v4))) else none) else (some false)
def C_do (v1 : Int) (v2 : List Bool) : Ctr := ⟨n_do, [.I v1, .imm 1 (v2.map V.bool)], [], Bool, x_do v1 v2, rB⟩
theorem F_do {v1 : Int} {v2 : List Bool} : (C_do v1 v2).okF tab := fun r hr => ⟨func_okx T_do rfl (.lenA V.bool v2 <| .sk <| .br (decide ((v2.length : Int) = (IntKind.i64.wrap ((IntKind.i64.wrap ((IntKind.i64.wrap (v1 + 7)).tdiv 8)) * 8)))) (.guard ((0 : Int) <= v1 /\ (v1 : Int) <= (((v2.map V.bool).length : Nat) : Int) /\ (((v2.map V.bool).length : Nat) : Int) <= (((v2.map V.bool).length : Nat) : Int)) inferInstance <| .cutA V.bool v2 ((v1 : Int).toNat) ((((v2.map V.bool).length : Nat) : Int).toNat) <| .callF (C_dj ((v2.take ((((v2.map V.bool).length : Nat) : Int).toNat)).drop ((v1 : Int).toNat)) true) fun (v4 : Bool) => .lfA rB (!v4)) <| .lfA rB false : Tree Bool _) (by kernel_rfl) (by kernel_rfl) (lA <| bR (gU <| ⟨cutA_ok _ _ _ _, cF F_dj fun v4 => rfl⟩) <| rfl) hr, rfl, rfl⟩
def J_dp_L1 (v1 : List Int) (v2 : List Int) (k : Int) (s : Unit) : St := ⟨sv 9 [(0, .imm 1 (v1.map (V.int .i64))), (1, .imm 1 (v2.map (V.int .i64))), (5, .I (v1.length : Int)), (6, .I k)], []⟩
def q0_dp_L1 (v1 : List Int) (v2 : List Int) : Int -> Ex × St := fun p => (.ret, ⟨sv 9 [(0, .imm 1 (v1.map (V.int .i64))), (1, .imm 1 (v2.map (V.int .i64))), (2, .bool false), (3, .I p), (5, .I (v1.length : Int)), (6, .I p), (7, .bool true), (8, .bool true)], []⟩)
def q1_dp_L1 (v1 : List Int) (v2 : List Int) : Unit -> Ex × St := fun p => ((.exit 0), ⟨sv 9 [(0, .imm 1 (v1.map (V.int .i64))), (1, .imm 1 (v2.map (V.int .i64))), (5, .I (v1.length : Int)), (6, .I (v1.length : Int)), (7, .bool false)], []⟩)
def u_dp_L1 (v1 : List Int) (v2 : List Int) (k : Int) := outL (J_dp_L1 v1 v2 k) (Sum.elim (q0_dp_L1 v1 v2) (q1_dp_L1 v1 v2))
def b_dp_L1 (v1 : List Int) (v2 : List Int) (k : Int) (x : Int) (s : Unit) : Option ((Unit) ⊕ (Int ⊕ Unit)) := ((v2)[k.toNat]?).bind fun v18 => (bif decide (x ≠ v18) then (some (.inr (.inl k))) else (some (.inl ())))
def e_dp_L1 (v1 : List Int) (v2 : List Int) (s : Unit) : Option (Int ⊕ Unit) := some ((.inr ()))
def x_dp_L1 (v1 : List Int) (v2 : List Int) (s : Unit) : Option (Int ⊕ Unit) := if v1.length <= 9223372036854775806 then listN (b_dp_L1 v1 v2) (e_dp_L1 v1 v2) v1 0 s else none
def L_dp_L1 (v1 : List Int) (v2 : List Int) (s : Unit) : Lc2 := ⟨9, l_dp_0, 0, [2, 3, 4, 7, 8], some (J_dp_L1 v1 v2 0 s), Int, Unit, x_dp_L1 v1 v2 s, q0_dp_L1 v1 v2, q1_dp_L1 v1 v2⟩
theorem I_dp_L1 {v1 : List Int} {v2 : List Int} {s : Unit} : (L_dp_L1 v1 v2 s).ok tab := Lc2_of (list_okx (J := J_dp_L1 v1 v2) (o := (Sum.elim (q0_dp_L1 v1 v2) (q1_dp_L1 v1 v2))) v1 (B := fun (k : Int) (x : Int) (s : Unit) => (.kb (decide (k < (v1.length : Int))) true <| .ob (0 <= k) <| .lkX (V.int .i64) v1 (k.toNat) x <| .ob (0 <= k) <| .lookA (V.int .i64) v2 (k.toNat) fun v18 => .br (decide (x ≠ v18)) (.lfA (u_dp_L1 v1 v2 (IntKind.i64.wrap (k + 1))) (.inr (.inl k))) <| .lfA (u_dp_L1 v1 v2 (IntKind.i64.wrap (k + 1))) (.inl ()) : Tree ((Unit) ⊕ (Int ⊕ Unit)) _)) (E := fun (s : Unit) => (.kb (decide ((v1.length : Int) < (v1.length : Int))) false <| .lfA (u_dp_L1 v1 v2 0) (.inr (.inr ())) : Tree ((Unit) ⊕ (Int ⊕ Unit)) _)) (fun k x s => by kernel_rfl) (fun d x t s he => ⟨ltX he, ⟨Int.natCast_nonneg _, ⟨lookX_ok (V.int .i64) he, ⟨Int.natCast_nonneg _, kA fun v18 => bR (rfl) <| rfl⟩⟩⟩⟩) (ho2 (fun _ => rfl) fun _ => rfl) (fun s => by kernel_rfl) (fun s => ⟨ltE _, rfl⟩) (by kernel_rfl) (by kernel_rfl) s)
def x_dp (v1 : List Int) (v2 : List Int) : Option Bool := bif decide ((v1.length : Int) ≠ (v2.length : Int)) then (some false) else ((x_dp_L1 v1 v2 ()).bind (sel2 (fun (v21 : Int) => (some false)) (fun (v22 : Unit) => (some true))))
def C_dp (v1 : List Int) (v2 : List Int) : Ctr := ⟨n_dp, [.imm 1 (v1.map (V.int .i64)), .imm 1 (v2.map (V.int .i64))], [], Bool, x_dp v1 v2, rB⟩
theorem F_dp {v1 : List Int} {v2 : List Int} : (C_dp v1 v2).okF tab := fun r hr => ⟨func_okx T_dp rfl (.lenA (V.int .i64) v1 <| .lenA (V.int .i64) v2 <| .br (decide ((v1.length : Int) ≠ (v2.length : Int))) (.lfA rB false) <| .lenA (V.int .i64) v1 <| .lp2 (L_dp_L1 v1 v2 ()) (fun (v21 : Int) => .lfA rB false) (fun (v22 : Unit) => .lfA rB true) : Tree Bool _) (by kernel_rfl) (by kernel_rfl) (lA <| lA <| bR (rfl) <| lA <| lQ I_dp_L1 (fun v21 => rfl) (fun v22 => rfl)) hr, rfl, rfl⟩
def J_dq_L1 (v1 : List Bool) (v2 : List Bool) (k : Int) (s : Unit) : St := ⟨sv 9 [(0, .imm 1 (v1.map V.bool)), (1, .imm 1 (v2.map V.bool)), (5, .I (v1.length : Int)), (6, .I k)], []⟩
def q0_dq_L1 (v1 : List Bool) (v2 : List Bool) : Int -> Ex × St := fun p => (.ret, ⟨sv 9 [(0, .imm 1 (v1.map V.bool)), (1, .imm 1 (v2.map V.bool)), (2, .bool false), (3, .I p), (5, .I (v1.length : Int)), (6, .I p), (7, .bool true), (8, .bool true)], []⟩)
def q1_dq_L1 (v1 : List Bool) (v2 : List Bool) : Unit -> Ex × St := fun p => ((.exit 0), ⟨sv 9 [(0, .imm 1 (v1.map V.bool)), (1, .imm 1 (v2.map V.bool)), (5, .I (v1.length : Int)), (6, .I (v1.length : Int)), (7, .bool false)], []⟩)
def u_dq_L1 (v1 : List Bool) (v2 : List Bool) (k : Int) := outL (J_dq_L1 v1 v2 k) (Sum.elim (q0_dq_L1 v1 v2) (q1_dq_L1 v1 v2))
def b_dq_L1 (v1 : List Bool) (v2 : List Bool) (k : Int) (x : Bool) (s : Unit) : Option ((Unit) ⊕ (Int ⊕ Unit)) := ((v2)[k.toNat]?).bind fun v18 => (bif true ^^ (x == v18) then (some (.inr (.inl k))) else (some (.inl ())))
def e_dq_L1 (v1 : List Bool) (v2 : List Bool) (s : Unit) : Option (Int ⊕ Unit) := some ((.inr ()))
def x_dq_L1 (v1 : List Bool) (v2 : List Bool) (s : Unit) : Option (Int ⊕ Unit) := if v1.length <= 9223372036854775806 then listN (b_dq_L1 v1 v2) (e_dq_L1 v1 v2) v1 0 s else none
def L_dq_L1 (v1 : List Bool) (v2 : List Bool) (s : Unit) : Lc2 := ⟨9, l_dq_0, 0, [2, 3, 4, 7, 8], some (J_dq_L1 v1 v2 0 s), Int, Unit, x_dq_L1 v1 v2 s, q0_dq_L1 v1 v2, q1_dq_L1 v1 v2⟩
theorem I_dq_L1 {v1 : List Bool} {v2 : List Bool} {s : Unit} : (L_dq_L1 v1 v2 s).ok tab := Lc2_of (list_okx (J := J_dq_L1 v1 v2) (o := (Sum.elim (q0_dq_L1 v1 v2) (q1_dq_L1 v1 v2))) v1 (B := fun (k : Int) (x : Bool) (s : Unit) => (.kb (decide (k < (v1.length : Int))) true <| .ob (0 <= k) <| .lkX V.bool v1 (k.toNat) x <| .ob (0 <= k) <| .lookA V.bool v2 (k.toNat) fun v18 => .br (true ^^ (x == v18)) (.lfA (u_dq_L1 v1 v2 (IntKind.i64.wrap (k + 1))) (.inr (.inl k))) <| .lfA (u_dq_L1 v1 v2 (IntKind.i64.wrap (k + 1))) (.inl ()) : Tree ((Unit) ⊕ (Int ⊕ Unit)) _)) (E := fun (s : Unit) => (.kb (decide ((v1.length : Int) < (v1.length : Int))) false <| .lfA (u_dq_L1 v1 v2 0) (.inr (.inr ())) : Tree ((Unit) ⊕ (Int ⊕ Unit)) _)) (fun k x s => by kernel_rfl) (fun d x t s he => ⟨ltX he, ⟨Int.natCast_nonneg _, ⟨lookX_ok V.bool he, ⟨Int.natCast_nonneg _, kA fun v18 => bR (rfl) <| rfl⟩⟩⟩⟩) (ho2 (fun _ => rfl) fun _ => rfl) (fun s => by kernel_rfl) (fun s => ⟨ltE _, rfl⟩) (by kernel_rfl) (by kernel_rfl) s)
def x_dq (v1 : List Bool) (v2 : List Bool) : Option Bool := bif decide ((v1.length : Int) ≠ (v2.length : Int)) then (some false) else ((x_dq_L1 v1 v2 ()).bind (sel2 (fun (v21 : Int) => (some false)) (fun (v22 : Unit) => (some true))))
def C_dq (v1 : List Bool) (v2 : List Bool) : Ctr := ⟨n_dq, [.imm 1 (v1.map V.bool), .imm 1 (v2.map V.bool)], [], Bool, x_dq v1 v2, rB⟩
theorem F_dq {v1 : List Bool} {v2 : List Bool} : (C_dq v1 v2).okF tab := fun r hr => ⟨func_okx T_dq rfl (.lenA V.bool v1 <| .lenA V.bool v2 <| .br (decide ((v1.length : Int) ≠ (v2.length : Int))) (.lfA rB false) <| .lenA V.bool v1 <| .lp2 (L_dq_L1 v1 v2 ()) (fun (v21 : Int) => .lfA rB false) (fun (v22 : Unit) => .lfA rB true) : Tree Bool _) (by kernel_rfl) (by kernel_rfl) (lA <| lA <| bR (rfl) <| lA <| lQ I_dq_L1 (fun v21 => rfl) (fun v22 => rfl)) hr, rfl, rfl⟩
def x_dr (v1 : Tg) (v2 : Te) : Option Bool := (x_dh v1).bind fun v3 => (bif !v3 then (some false) else ((x_dn v2).bind fun v5 => (bif !v5 then (some false) else (bif decide (v2.fd ≠ v1.fd) then (some false) else (bif decide (v2.fae ≠ 0) then (some true) else (bif decide (v1.fd = 1) then ((x_do v1.fN v2.fb).bind fun v10 => (some v10)) else (bif decide (v1.fd = 2) then ((x_do v1.fN v2.fb).bind fun v12 => (some v12)) else (bif decide (v1.fd = 3) then (some (decide ((v2.fc.length : Int) = v1.fN))) else (bif decide (v1.fd = 4) then (some (decide ((v2.fc.length : Int) = v1.fN))) else (bif decide (v1.fd = 23) then (some (decide ((v2.fc.length : Int) = v1.fN))) else (bif decide (v1.fd = 15) then (bif decide (v2.fe = v1.fe) then ((x_dg v1).bind fun v18 => (some (decide (v2.fN = v18)))) else (some false)) else (bif decide (v1.fd = 16) then (bif decide (v2.fe = v1.fe) then ((x_dg v1).bind fun v21 => (some (decide (v2.fN = v21)))) else (some false)) else (bif decide (v2.fe = v1.fe) then ((x_dp v2.fc v1.fc).bind fun v23 => (bif v23 then ((x_dq v2.fb v1.fb).bind fun v25 => (some v25)) else (some false))) else (some false))))))))))))))
def C_dr (v1 : Tg) (v2 : Te) : Ctr := ⟨n_dr, [.agg [.I v1.fd, .I v1.fe, .I v1.fN, .imm 1 (v1.fc.map (V.int .i64)), .imm 1 (v1.fb.map V.bool), .I v1.fi], .agg [.I v2.fd, .I v2.fae, .I v2.fe, .I v2.fN, .imm 1 (v2.fc.map (V.int .i64)), .imm 1 (v2.fb.map V.bool)]], [], Bool, x_dr v1 v2, rB⟩
theorem F_dr {v1 : Tg} {v2 : Te} : (C_dr v1 v2).okF tab := fun r hr => ⟨func_okx T_dr rfl (.callF (C_dh v1) fun (v3 : Bool) => .br (!v3) (.lfA rB false) <| .callF (C_dn v2) fun (v5 : Bool) => .br (!v5) (.lfA rB false) <| .br (decide (v2.fd ≠ v1.fd)) (.lfA rB false) <| .br (decide (v2.fae ≠ 0)) (.lfA rB true) <| .br (decide (v1.fd = 1)) (.callF (C_do v1.fN v2.fb) fun (v10 : Bool) => .lfA rB v10) <| .br (decide (v1.fd = 2)) (.callF (C_do v1.fN v2.fb) fun (v12 : Bool) => .lfA rB v12) <| .br (decide (v1.fd = 3)) (.lenA (V.int .i64) v2.fc <| .lfA rB (decide ((v2.fc.length : Int) = v1.fN))) <| .br (decide (v1.fd = 4)) (.lenA (V.int .i64) v2.fc <| .lfA rB (decide ((v2.fc.length : Int) = v1.fN))) <| .br (decide (v1.fd = 23)) (.lenA (V.int .i64) v2.fc <| .lfA rB (decide ((v2.fc.length : Int) = v1.fN))) <| .br (decide (v1.fd = 15)) (.br (decide (v2.fe = v1.fe)) (.callF (C_dg v1) fun (v18 : Int) => .lfA rB (decide (v2.fN = v18))) <| .lfA rB false) <| .br (decide (v1.fd = 16)) (.br (decide (v2.fe = v1.fe)) (.callF (C_dg v1) fun (v21 : Int) => .lfA rB (decide (v2.fN = v21))) <| .lfA rB false) <| .br (decide (v2.fe = v1.fe)) (.callF (C_dp v2.fc v1.fc) fun (v23 : Bool) => .br v23 (.callF (C_dq v2.fb v1.fb) fun (v25 : Bool) => .lfA rB v25) <| .lfA rB false) <| .lfA rB false : Tree Bool _) (by kernel_rfl) (by kernel_rfl) (cF F_dh fun v3 => bR (rfl) <| cF F_dn fun v5 => bR (rfl) <| bR (rfl) <| bR (rfl) <| bR (cF F_do fun v10 => rfl) <| bR (cF F_do fun v12 => rfl) <| bR (lA <| rfl) <| bR (lA <| rfl) <| bR (lA <| rfl) <| bR (bR (cF F_dg fun v18 => rfl) <| rfl) <| bR (bR (cF F_dg fun v21 => rfl) <| rfl) <| bR (cF F_dp fun v23 => bR (cF F_dq fun v25 => rfl) <| rfl) <| rfl) hr, rfl, rfl⟩
def x_ds (v1 : Te) (v2 : Te) : Option Bool := bif decide (v1.fd = v2.fd) then (bif decide (v1.fae = v2.fae) then (bif decide (v1.fe = v2.fe) then (bif decide (v1.fN = v2.fN) then ((x_dp v1.fc v2.fc).bind fun v7 => (bif v7 then ((x_dq v1.fb v2.fb).bind fun v9 => (some v9)) else (some false))) else (some false)) else (some false)) else (some false)) else (some false)
def C_ds (v1 : Te) (v2 : Te) : Ctr := ⟨n_ds, [.agg [.I v1.fd, .I v1.fae, .I v1.fe, .I v1.fN, .imm 1 (v1.fc.map (V.int .i64)), .imm 1 (v1.fb.map V.bool)], .agg [.I v2.fd, .I v2.fae, .I v2.fe, .I v2.fN, .imm 1 (v2.fc.map (V.int .i64)), .imm 1 (v2.fb.map V.bool)]], [], Bool, x_ds v1 v2, rB⟩
theorem F_ds {v1 : Te} {v2 : Te} : (C_ds v1 v2).okF tab := fun r hr => ⟨func_okx T_ds rfl (.br (decide (v1.fd = v2.fd)) (.br (decide (v1.fae = v2.fae)) (.br (decide (v1.fe = v2.fe)) (.br (decide (v1.fN = v2.fN)) (.callF (C_dp v1.fc v2.fc) fun (v7 : Bool) => .br v7 (.callF (C_dq v1.fb v2.fb) fun (v9 : Bool) => .lfA rB v9) <| .lfA rB false) <| .lfA rB false) <| .lfA rB false) <| .lfA rB false) <| .lfA rB false : Tree Bool _) (by kernel_rfl) (by kernel_rfl) (bR (bR (bR (bR (cF F_dp fun v7 => bR (cF F_dq fun v9 => rfl) <| rfl) <| rfl) <| rfl) <| rfl) <| rfl) hr, rfl, rfl⟩
def J_dt_L1 (v1 : Tb) (k : Int) (s : Unit) : St := ⟨sv 12 [(1, .ref (.box 0) 0 []), (7, .imm 8 (v1.fm.map Tf.i)), (8, .I (v1.fm.length : Int)), (9, .I k)], [[.I v1.fj, .I v1.fai, .I v1.faj, .I v1.fh, .I v1.fa.fd, .I v1.fa.fe, .I v1.fa.fN, .imm 1 (v1.fa.fc.map (V.int .i64)), .imm 1 (v1.fa.fb.map V.bool), .I v1.fa.fi, .imm 8 (v1.fm.map Tf.i), .imm 1 (v1.fq.map V.bool), .imm 6 (v1.faa.map Te.i)]]⟩
def q0_dt_L1 (v1 : Tb) : (Int × Tf) -> Ex × St := fun p => (.ret, ⟨sv 12 [(1, .ref (.box 0) 0 []), (2, .bool false), (4, .I p.1), (5, .ref (.box 1) 0 []), (7, .imm 8 (v1.fm.map Tf.i)), (8, .I (v1.fm.length : Int)), (9, .I p.1), (10, .bool true), (11, .bool true)], [[.I v1.fj, .I v1.fai, .I v1.faj, .I v1.fh, .I v1.fa.fd, .I v1.fa.fe, .I v1.fa.fN, .imm 1 (v1.fa.fc.map (V.int .i64)), .imm 1 (v1.fa.fb.map V.bool), .I v1.fa.fi, .imm 8 (v1.fm.map Tf.i), .imm 1 (v1.fq.map V.bool), .imm 6 (v1.faa.map Te.i)], [.I p.2.fac, .I p.2.fh, .I p.2.fa.fd, .I p.2.fa.fe, .I p.2.fa.fN, .imm 1 (p.2.fa.fc.map (V.int .i64)), .imm 1 (p.2.fa.fb.map V.bool), .I p.2.fa.fi]]⟩)
def q1_dt_L1 (v1 : Tb) : Unit -> Ex × St := fun p => ((.exit 0), ⟨sv 12 [(1, .ref (.box 0) 0 []), (7, .imm 8 (v1.fm.map Tf.i)), (8, .I (v1.fm.length : Int)), (9, .I (v1.fm.length : Int)), (10, .bool false)], [[.I v1.fj, .I v1.fai, .I v1.faj, .I v1.fh, .I v1.fa.fd, .I v1.fa.fe, .I v1.fa.fN, .imm 1 (v1.fa.fc.map (V.int .i64)), .imm 1 (v1.fa.fb.map V.bool), .I v1.fa.fi, .imm 8 (v1.fm.map Tf.i), .imm 1 (v1.fq.map V.bool), .imm 6 (v1.faa.map Te.i)]]⟩)
def u_dt_L1 (v1 : Tb) (k : Int) := outL (J_dt_L1 v1 k) (Sum.elim (q0_dt_L1 v1) (q1_dt_L1 v1))
def b_dt_L1 (v1 : Tb) (k : Int) (x : Tf) (s : Unit) : Option ((Unit) ⊕ ((Int × Tf) ⊕ Unit)) := (x_dk x).bind fun v55 => (bif !v55 then (some (.inr (.inl (k, x)))) else (((v1.fq)[k.toNat]?).bind fun v57 => (bif v57 then (((v1.faa)[k.toNat]?).bind fun v60 => ((x_dr x.fa v60).bind fun v62 => (bif !v62 then (some (.inr (.inl (k, x)))) else (bif !v57 then ((x_ds v60 (⟨0, 0, 0, 0, [], []⟩ : Te)).bind fun v65 => (bif !v65 then (some (.inr (.inl (k, x)))) else (some (.inl ())))) else (some (.inl ())))))) else (bif !v57 then (((v1.faa)[k.toNat]?).bind fun v68 => ((x_ds v68 (⟨0, 0, 0, 0, [], []⟩ : Te)).bind fun v70 => (bif !v70 then (some (.inr (.inl (k, x)))) else (some (.inl ()))))) else (some (.inl ()))))))
def e_dt_L1 (v1 : Tb) (s : Unit) : Option ((Int × Tf) ⊕ Unit) := some ((.inr ()))
def x_dt_L1 (v1 : Tb) (s : Unit) : Option ((Int × Tf) ⊕ Unit) := if v1.fm.length <= 9223372036854775806 then listN (b_dt_L1 v1) (e_dt_L1 v1) v1.fm 0 s else none
def L_dt_L1 (v1 : Tb) (s : Unit) : Lc2 := ⟨12, l_dt_0, 1, [0, 2, 3, 4, 5, 6, 10, 11], some (J_dt_L1 v1 0 s), Int × Tf, Unit, x_dt_L1 v1 s, q0_dt_L1 v1, q1_dt_L1 v1⟩
theorem I_dt_L1 {v1 : Tb} {s : Unit} : (L_dt_L1 v1 s).ok tab := Lc2_of (list_okx (J := J_dt_L1 v1) (o := (Sum.elim (q0_dt_L1 v1) (q1_dt_L1 v1))) v1.fm (B := fun (k : Int) (x : Tf) (s : Unit) => (.kb (decide (k < (v1.fm.length : Int))) true <| .ob (0 <= k) <| .lkX Tf.i v1.fm (k.toNat) x <| .callF (C_dk x) fun (v55 : Bool) => .br (!v55) (.lfA (u_dt_L1 v1 (IntKind.i64.wrap (k + 1))) (.inr (.inl (k, x)))) <| .ob (0 <= k) <| .lookA V.bool v1.fq (k.toNat) fun v57 => .br v57 (.ob (0 <= k) <| .lookA Te.i v1.faa (k.toNat) fun v60 => .callF (C_dr x.fa v60) fun (v62 : Bool) => .br (!v62) (.lfA (u_dt_L1 v1 (IntKind.i64.wrap (k + 1))) (.inr (.inl (k, x)))) <| .ob (0 <= k) <| .lkX V.bool v1.fq (k.toNat) v57 <| .br (!v57) (.ob (0 <= k) <| .lkX Te.i v1.faa (k.toNat) v60 <| .seg [] 0 0 [] <| .eqL [] [] <| .seg [] 0 0 [] <| .eqL [] [] <| .callF (C_ds v60 (⟨0, 0, 0, 0, [], []⟩ : Te)) fun (v65 : Bool) => .br (!v65) (.lfA (u_dt_L1 v1 (IntKind.i64.wrap (k + 1))) (.inr (.inl (k, x)))) <| .lfA (u_dt_L1 v1 (IntKind.i64.wrap (k + 1))) (.inl ())) <| .lfA (u_dt_L1 v1 (IntKind.i64.wrap (k + 1))) (.inl ())) <| .ob (0 <= k) <| .lkX V.bool v1.fq (k.toNat) v57 <| .br (!v57) (.ob (0 <= k) <| .lookA Te.i v1.faa (k.toNat) fun v68 => .seg [] 0 0 [] <| .eqL [] [] <| .seg [] 0 0 [] <| .eqL [] [] <| .callF (C_ds v68 (⟨0, 0, 0, 0, [], []⟩ : Te)) fun (v70 : Bool) => .br (!v70) (.lfA (u_dt_L1 v1 (IntKind.i64.wrap (k + 1))) (.inr (.inl (k, x)))) <| .lfA (u_dt_L1 v1 (IntKind.i64.wrap (k + 1))) (.inl ())) <| .lfA (u_dt_L1 v1 (IntKind.i64.wrap (k + 1))) (.inl ()) : Tree ((Unit) ⊕ ((Int × Tf) ⊕ Unit)) _)) (E := fun (s : Unit) => (.kb (decide ((v1.fm.length : Int) < (v1.fm.length : Int))) false <| .lfA (u_dt_L1 v1 0) (.inr (.inr ())) : Tree ((Unit) ⊕ ((Int × Tf) ⊕ Unit)) _)) (fun k x s => by kernel_rfl) (fun d x t s he => ⟨ltX he, ⟨Int.natCast_nonneg _, ⟨lookX_ok Tf.i he, cF F_dk fun v55 => bR (rfl) <| ⟨Int.natCast_nonneg _, ⟨lookA_ok _ _ _, fun v57 h58 => bR (⟨Int.natCast_nonneg _, ⟨lookA_ok _ _ _, fun v60 h61 => cF F_dr fun v62 => bR (rfl) <| ⟨Int.natCast_nonneg _, ⟨lookC_ok _ h58, bR (⟨Int.natCast_nonneg _, ⟨lookC_ok _ h61, ⟨segA_ok [], ⟨rfl, ⟨segA_ok [], ⟨rfl, cF F_ds fun v65 => bR (rfl) <| rfl⟩⟩⟩⟩⟩⟩) <| rfl⟩⟩⟩⟩) <| ⟨Int.natCast_nonneg _, ⟨lookC_ok _ h58, bR (⟨Int.natCast_nonneg _, kA fun v68 => ⟨segA_ok [], ⟨rfl, ⟨segA_ok [], ⟨rfl, cF F_ds fun v70 => bR (rfl) <| rfl⟩⟩⟩⟩⟩) <| rfl⟩⟩⟩⟩⟩⟩⟩) (ho2 (fun _ => rfl) fun _ => rfl) (fun s => by kernel_rfl) (fun s => ⟨ltE _, rfl⟩) (by kernel_rfl) (by kernel_rfl) s)
def x_dt (v1 : Tb) : Option Bool := bif decide (v1.fj < 0) then (some false) else ((x_cz v1.fai).bind fun v3 => (bif !v3 then (some false) else ((x_cz v1.faj).bind fun v5 => (bif !v5 then (some false) else ((x_dh v1.fa).bind fun v7 => (bif !v7 then (some false) else ((x_cn (v1.fm.length : Int) 1 8).bind fun v9 => (bif !v9 then (some false) else (bif decide ((v1.fq.length : Int) ≠ (v1.fm.length : Int)) then (some false) else (bif decide ((v1.faa.length : Int) ≠ (v1.fm.length : Int)) then (some false) else ((x_dt_L1 v1 ()).bind (sel2 (fun (v72 : Int × Tf) => (some false)) (fun (v73 : Unit) => ((x_dj v1.fq false).bind fun v74 => (some v74)))))))))))))))
def C_dt (v1 : Tb) : Ctr := ⟨n_dt, [.agg [.I v1.fj, .I v1.fai, .I v1.faj, .I v1.fh, .I v1.fa.fd, .I v1.fa.fe, .I v1.fa.fN, .imm 1 (v1.fa.fc.map (V.int .i64)), .imm 1 (v1.fa.fb.map V.bool), .I v1.fa.fi, .imm 8 (v1.fm.map Tf.i), .imm 1 (v1.fq.map V.bool), .imm 6 (v1.faa.map Te.i)]], [], Bool, x_dt v1, rB⟩
theorem F_dt {v1 : Tb} : (C_dt v1).okF tab := fun r hr => ⟨func_okx T_dt rfl (.lenA Tf.i v1.fm <| .br (decide (v1.fj < 0)) (.lfA rB false) <| .callF (C_cz v1.fai) fun (v3 : Bool) => .br (!v3) (.lfA rB false) <| .callF (C_cz v1.faj) fun (v5 : Bool) => .br (!v5) (.lfA rB false) <| .callF (C_dh v1.fa) fun (v7 : Bool) => .br (!v7) (.lfA rB false) <| .callF (C_cn (v1.fm.length : Int) 1 8) fun (v9 : Bool) => .br (!v9) (.lfA rB false) <| .lenA V.bool v1.fq <| .br (decide ((v1.fq.length : Int) ≠ (v1.fm.length : Int))) (.lfA rB false) <| .lenA Te.i v1.faa <| .br (decide ((v1.faa.length : Int) ≠ (v1.fm.length : Int))) (.lfA rB false) <| .lenA Tf.i v1.fm <| .lp2 (L_dt_L1 v1 ()) (fun (v72 : Int × Tf) => .lfA rB false) (fun (v73 : Unit) => .callF (C_dj v1.fq false) fun (v74 : Bool) => .lfA rB v74) : Tree Bool _) (by kernel_rfl) (by kernel_rfl) (lA <| bR (rfl) <| cF F_cz fun v3 => bR (rfl) <| cF F_cz fun v5 => bR (rfl) <| cF F_dh fun v7 => bR (rfl) <| cF F_cn fun v9 => bR (rfl) <| lA <| bR (rfl) <| lA <| bR (rfl) <| lA <| lQ I_dt_L1 (fun v72 => rfl) (fun v73 => cF F_dj fun v74 => rfl)) hr, rfl, rfl⟩
def J_du_L1 (v1 : Tk) (k : Int) (s : Unit) : St := ⟨sv 10 [(1, .ref (.box 0) 0 []), (5, .imm 13 (v1.fg.map Tb.i)), (6, .I (v1.fg.length : Int)), (7, .I k)], [[.I v1.ft, .imm 13 (v1.fg.map Tb.i)]]⟩
def q0_du_L1 (v1 : Tk) : (Int × Tb) -> Ex × St := fun p => (.ret, ⟨sv 10 [(1, .ref (.box 0) 0 []), (2, .bool false), (3, .I p.1), (4, .ref (.box 1) 0 []), (5, .imm 13 (v1.fg.map Tb.i)), (6, .I (v1.fg.length : Int)), (7, .I p.1), (8, .bool true), (9, .bool true)], [[.I v1.ft, .imm 13 (v1.fg.map Tb.i)], [.I p.2.fj, .I p.2.fai, .I p.2.faj, .I p.2.fh, .I p.2.fa.fd, .I p.2.fa.fe, .I p.2.fa.fN, .imm 1 (p.2.fa.fc.map (V.int .i64)), .imm 1 (p.2.fa.fb.map V.bool), .I p.2.fa.fi, .imm 8 (p.2.fm.map Tf.i), .imm 1 (p.2.fq.map V.bool), .imm 6 (p.2.faa.map Te.i)]]⟩)
def q1_du_L1 (v1 : Tk) : Unit -> Ex × St := fun p => ((.exit 0), ⟨sv 10 [(1, .ref (.box 0) 0 []), (5, .imm 13 (v1.fg.map Tb.i)), (6, .I (v1.fg.length : Int)), (7, .I (v1.fg.length : Int)), (8, .bool false)], [[.I v1.ft, .imm 13 (v1.fg.map Tb.i)]]⟩)
def u_du_L1 (v1 : Tk) (k : Int) := outL (J_du_L1 v1 k) (Sum.elim (q0_du_L1 v1) (q1_du_L1 v1))
def b_du_L1 (v1 : Tk) (k : Int) (x : Tb) (s : Unit) : Option ((Unit) ⊕ ((Int × Tb) ⊕ Unit)) := (x_dt x).bind fun v20 => (bif !v20 then (some (.inr (.inl (k, x)))) else (bif decide (v1.ft <= x.fj) then (some (.inr (.inl (k, x)))) else (bif decide (0 < k) then (if 0 <= (IntKind.i64.wrap (k - 1)) then (((v1.fg)[(IntKind.i64.wrap (k - 1)).toNat]?).bind fun v24 => (bif decide (x.fj <= v24.fj) then (some (.inr (.inl (k, x)))) else (some (.inl ())))) else none) else (some (.inl ())))))
def e_du_L1 (v1 : Tk) (s : Unit) : Option ((Int × Tb) ⊕ Unit) := some ((.inr ()))
def x_du_L1 (v1 : Tk) (s : Unit) : Option ((Int × Tb) ⊕ Unit) := if v1.fg.length <= 9223372036854775806 then listN (b_du_L1 v1) (e_du_L1 v1) v1.fg 0 s else none
def L_du_L1 (v1 : Tk) (s : Unit) : Lc2 := ⟨10, l_du_0, 1, [0, 2, 3, 4, 8, 9], some (J_du_L1 v1 0 s), Int × Tb, Unit, x_du_L1 v1 s, q0_du_L1 v1, q1_du_L1 v1⟩
theorem I_du_L1 {v1 : Tk} {s : Unit} : (L_du_L1 v1 s).ok tab := Lc2_of (list_okx (J := J_du_L1 v1) (o := (Sum.elim (q0_du_L1 v1) (q1_du_L1 v1))) v1.fg (B := fun (k : Int) (x : Tb) (s : Unit) => (.kb (decide (k < (v1.fg.length : Int))) true <| .ob (0 <= k) <| .lkX Tb.i v1.fg (k.toNat) x <| .callF (C_dt x) fun (v20 : Bool) => .br (!v20) (.lfA (u_du_L1 v1 (IntKind.i64.wrap (k + 1))) (.inr (.inl (k, x)))) <| .br (decide (v1.ft <= x.fj)) (.lfA (u_du_L1 v1 (IntKind.i64.wrap (k + 1))) (.inr (.inl (k, x)))) <| .br (decide (0 < k)) (.guard (0 <= (IntKind.i64.wrap (k - 1))) inferInstance <| .lookA Tb.i v1.fg ((IntKind.i64.wrap (k - 1)).toNat) fun v24 => .br (decide (x.fj <= v24.fj)) (.lfA (u_du_L1 v1 (IntKind.i64.wrap (k + 1))) (.inr (.inl (k, x)))) <| .lfA (u_du_L1 v1 (IntKind.i64.wrap (k + 1))) (.inl ())) <| .lfA (u_du_L1 v1 (IntKind.i64.wrap (k + 1))) (.inl ()) : Tree ((Unit) ⊕ ((Int × Tb) ⊕ Unit)) _)) (E := fun (s : Unit) => (.kb (decide ((v1.fg.length : Int) < (v1.fg.length : Int))) false <| .lfA (u_du_L1 v1 0) (.inr (.inr ())) : Tree ((Unit) ⊕ ((Int × Tb) ⊕ Unit)) _)) (fun k x s => by kernel_rfl) (fun d x t s he => ⟨ltX he, ⟨Int.natCast_nonneg _, ⟨lookX_ok Tb.i he, cF F_dt fun v20 => bR (rfl) <| bR (rfl) <| bR (gU <| kA fun v24 => bR (rfl) <| rfl) <| rfl⟩⟩⟩) (ho2 (fun _ => rfl) fun _ => rfl) (fun s => by kernel_rfl) (fun s => ⟨ltE _, rfl⟩) (by kernel_rfl) (by kernel_rfl) s)
def x_du (v1 : Tk) : Option Bool := (x_du_L1 v1 ()).bind (sel2 (fun (v27 : Int × Tb) => (some false)) (fun (v28 : Unit) => ((x_cz v1.ft).bind fun v29 => (bif v29 then (some (decide ((v1.fg.length : Int) <= 16))) else (some false)))))
def C_du (v1 : Tk) : Ctr := ⟨n_du, [.agg [.I v1.ft, .imm 13 (v1.fg.map Tb.i)]], [], Bool, x_du v1, rB⟩
theorem F_du {v1 : Tk} : (C_du v1).okF tab := fun r hr => ⟨func_okx T_du rfl (.lenA Tb.i v1.fg <| .lp2 (L_du_L1 v1 ()) (fun (v27 : Int × Tb) => .lfA rB false) (fun (v28 : Unit) => .callF (C_cz v1.ft) fun (v29 : Bool) => .br v29 (.lenA Tb.i v1.fg <| .lfA rB (decide ((v1.fg.length : Int) <= 16))) <| .lfA rB false) : Tree Bool _) (by kernel_rfl) (by kernel_rfl) (lA <| lQ I_du_L1 (fun v27 => rfl) (fun v28 => cF F_cz fun v29 => bR (lA <| rfl) <| rfl)) hr, rfl, rfl⟩
def x_ed (v1 : Ta) : Option Bool := (x_cz v1.fj).bind fun v2 => (bif v2 then ((x_cn v1.fk 0 7).bind fun v4 => (bif v4 then ((x_cq v1.fh).bind fun v6 => (bif v6 then ((x_dh v1.fa).bind fun v8 => (some v8)) else (some false))) else (some false))) else (some false))
def C_ed (v1 : Ta) : Ctr := ⟨n_ed, [.agg [.I v1.fj, .I v1.fk, .I v1.fh, .I v1.fa.fd, .I v1.fa.fe, .I v1.fa.fN, .imm 1 (v1.fa.fc.map (V.int .i64)), .imm 1 (v1.fa.fb.map V.bool), .I v1.fa.fi]], [], Bool, x_ed v1, rB⟩
theorem F_ed {v1 : Ta} : (C_ed v1).okF tab := fun r hr => ⟨func_okx T_ed rfl (.callF (C_cz v1.fj) fun (v2 : Bool) => .br v2 (.callF (C_cn v1.fk 0 7) fun (v4 : Bool) => .br v4 (.callF (C_cq v1.fh) fun (v6 : Bool) => .br v6 (.callF (C_dh v1.fa) fun (v8 : Bool) => .lfA rB v8) <| .lfA rB false) <| .lfA rB false) <| .lfA rB false : Tree Bool _) (by kernel_rfl) (by kernel_rfl) (cF F_cz fun v2 => bR (cF F_cn fun v4 => bR (cF F_cq fun v6 => bR (cF F_dh fun v8 => rfl) <| rfl) <| rfl) <| rfl) hr, rfl, rfl⟩
def x_dy (v1 : Tg) (v2 : Tg) : Option Bool := bif decide (v1.fd = v2.fd) then (bif decide (v1.fe = v2.fe) then (bif decide (v1.fN = v2.fN) then (bif decide (v1.fi = v2.fi) then ((x_dp v1.fc v2.fc).bind fun v7 => (bif v7 then ((x_dq v1.fb v2.fb).bind fun v9 => (some v9)) else (some false))) else (some false)) else (some false)) else (some false)) else (some false)
def C_dy (v1 : Tg) (v2 : Tg) : Ctr := ⟨n_dy, [.agg [.I v1.fd, .I v1.fe, .I v1.fN, .imm 1 (v1.fc.map (V.int .i64)), .imm 1 (v1.fb.map V.bool), .I v1.fi], .agg [.I v2.fd, .I v2.fe, .I v2.fN, .imm 1 (v2.fc.map (V.int .i64)), .imm 1 (v2.fb.map V.bool), .I v2.fi]], [], Bool, x_dy v1 v2, rB⟩
theorem F_dy {v1 : Tg} {v2 : Tg} : (C_dy v1 v2).okF tab := fun r hr => ⟨func_okx T_dy rfl (.br (decide (v1.fd = v2.fd)) (.br (decide (v1.fe = v2.fe)) (.br (decide (v1.fN = v2.fN)) (.br (decide (v1.fi = v2.fi)) (.callF (C_dp v1.fc v2.fc) fun (v7 : Bool) => .br v7 (.callF (C_dq v1.fb v2.fb) fun (v9 : Bool) => .lfA rB v9) <| .lfA rB false) <| .lfA rB false) <| .lfA rB false) <| .lfA rB false) <| .lfA rB false : Tree Bool _) (by kernel_rfl) (by kernel_rfl) (bR (bR (bR (bR (cF F_dp fun v7 => bR (cF F_dq fun v9 => rfl) <| rfl) <| rfl) <| rfl) <| rfl) <| rfl) hr, rfl, rfl⟩
def x_ec (v1 : Ta) : Option Bool := bif decide (v1.fj = 0) then (bif decide (v1.fk = 0) then (bif decide (v1.fh = 0) then ((x_dy v1.fa (⟨0, 0, 0, [], [], 0⟩ : Tg)).bind fun v5 => (some v5)) else (some false)) else (some false)) else (some false)
def C_ec (v1 : Ta) : Ctr := ⟨n_ec, [.agg [.I v1.fj, .I v1.fk, .I v1.fh, .I v1.fa.fd, .I v1.fa.fe, .I v1.fa.fN, .imm 1 (v1.fa.fc.map (V.int .i64)), .imm 1 (v1.fa.fb.map V.bool), .I v1.fa.fi]], [], Bool, x_ec v1, rB⟩
theorem F_ec {v1 : Ta} : (C_ec v1).okF tab := fun r hr => ⟨func_okx T_ec rfl (.br (decide (v1.fj = 0)) (.br (decide (v1.fk = 0)) (.br (decide (v1.fh = 0)) (.seg [] 0 0 [] <| .eqL [] [] <| .seg [] 0 0 [] <| .eqL [] [] <| .callF (C_dy v1.fa (⟨0, 0, 0, [], [], 0⟩ : Tg)) fun (v5 : Bool) => .lfA rB v5) <| .lfA rB false) <| .lfA rB false) <| .lfA rB false : Tree Bool _) (by kernel_rfl) (by kernel_rfl) (bR (bR (bR (⟨segA_ok [], ⟨rfl, ⟨segA_ok [], ⟨rfl, cF F_dy fun v5 => rfl⟩⟩⟩⟩) <| rfl) <| rfl) <| rfl) hr, rfl, rfl⟩
def J_ee_L1 (v1 : Tc) (k : Int) (s : Unit) : St := ⟨sv 11 [(1, .ref (.box 0) 0 []), (5, .imm 9 (v1.fu.map Ta.i)), (6, .I (v1.fu.length : Int)), (7, .I k)], [[.imm 9 (v1.fu.map Ta.i), .bool v1.fal, .I v1.ff.fj, .I v1.ff.fk, .I v1.ff.fh, .I v1.ff.fa.fd, .I v1.ff.fa.fe, .I v1.ff.fa.fN, .imm 1 (v1.ff.fa.fc.map (V.int .i64)), .imm 1 (v1.ff.fa.fb.map V.bool), .I v1.ff.fa.fi, .I v1.fas, .I v1.faq, .I v1.far, .I v1.ft, .I v1.fab, .I v1.fw]]⟩
def q0_ee_L1 (v1 : Tc) : (Int × Ta) -> Ex × St := fun p => (.ret, ⟨sv 11 [(1, .ref (.box 0) 0 []), (2, .bool false), (3, .ref (.box 1) 0 []), (5, .imm 9 (v1.fu.map Ta.i)), (6, .I (v1.fu.length : Int)), (7, .I p.1), (8, .bool true), (9, .bool true)], [[.imm 9 (v1.fu.map Ta.i), .bool v1.fal, .I v1.ff.fj, .I v1.ff.fk, .I v1.ff.fh, .I v1.ff.fa.fd, .I v1.ff.fa.fe, .I v1.ff.fa.fN, .imm 1 (v1.ff.fa.fc.map (V.int .i64)), .imm 1 (v1.ff.fa.fb.map V.bool), .I v1.ff.fa.fi, .I v1.fas, .I v1.faq, .I v1.far, .I v1.ft, .I v1.fab, .I v1.fw], [.I p.2.fj, .I p.2.fk, .I p.2.fh, .I p.2.fa.fd, .I p.2.fa.fe, .I p.2.fa.fN, .imm 1 (p.2.fa.fc.map (V.int .i64)), .imm 1 (p.2.fa.fb.map V.bool), .I p.2.fa.fi]]⟩)
def q1_ee_L1 (v1 : Tc) : Unit -> Ex × St := fun p => ((.exit 0), ⟨sv 11 [(1, .ref (.box 0) 0 []), (5, .imm 9 (v1.fu.map Ta.i)), (6, .I (v1.fu.length : Int)), (7, .I (v1.fu.length : Int)), (8, .bool false)], [[.imm 9 (v1.fu.map Ta.i), .bool v1.fal, .I v1.ff.fj, .I v1.ff.fk, .I v1.ff.fh, .I v1.ff.fa.fd, .I v1.ff.fa.fe, .I v1.ff.fa.fN, .imm 1 (v1.ff.fa.fc.map (V.int .i64)), .imm 1 (v1.ff.fa.fb.map V.bool), .I v1.ff.fa.fi, .I v1.fas, .I v1.faq, .I v1.far, .I v1.ft, .I v1.fab, .I v1.fw]]⟩)
def u_ee_L1 (v1 : Tc) (k : Int) := outL (J_ee_L1 v1 k) (Sum.elim (q0_ee_L1 v1) (q1_ee_L1 v1))
def b_ee_L1 (v1 : Tc) (k : Int) (x : Ta) (s : Unit) : Option ((Unit) ⊕ ((Int × Ta) ⊕ Unit)) := (x_ed x).bind fun v19 => (bif !v19 then (some (.inr (.inl (k, x)))) else (some (.inl ())))
def e_ee_L1 (v1 : Tc) (s : Unit) : Option ((Int × Ta) ⊕ Unit) := some ((.inr ()))
def x_ee_L1 (v1 : Tc) (s : Unit) : Option ((Int × Ta) ⊕ Unit) := if v1.fu.length <= 9223372036854775806 then listN (b_ee_L1 v1) (e_ee_L1 v1) v1.fu 0 s else none
def L_ee_L1 (v1 : Tc) (s : Unit) : Lc2 := ⟨11, l_ee_0, 1, [0, 2, 3, 4, 8, 9, 10], some (J_ee_L1 v1 0 s), Int × Ta, Unit, x_ee_L1 v1 s, q0_ee_L1 v1, q1_ee_L1 v1⟩
theorem I_ee_L1 {v1 : Tc} {s : Unit} : (L_ee_L1 v1 s).ok tab := Lc2_of (list_okx (J := J_ee_L1 v1) (o := (Sum.elim (q0_ee_L1 v1) (q1_ee_L1 v1))) v1.fu (B := fun (k : Int) (x : Ta) (s : Unit) => (.kb (decide (k < (v1.fu.length : Int))) true <| .ob (0 <= k) <| .lkX Ta.i v1.fu (k.toNat) x <| .callF (C_ed x) fun (v19 : Bool) => .br (!v19) (.lfA (u_ee_L1 v1 (IntKind.i64.wrap (k + 1))) (.inr (.inl (k, x)))) <| .lfA (u_ee_L1 v1 (IntKind.i64.wrap (k + 1))) (.inl ()) : Tree ((Unit) ⊕ ((Int × Ta) ⊕ Unit)) _)) (E := fun (s : Unit) => (.kb (decide ((v1.fu.length : Int) < (v1.fu.length : Int))) false <| .lfA (u_ee_L1 v1 0) (.inr (.inr ())) : Tree ((Unit) ⊕ ((Int × Ta) ⊕ Unit)) _)) (fun k x s => by kernel_rfl) (fun d x t s he => ⟨ltX he, ⟨Int.natCast_nonneg _, ⟨lookX_ok Ta.i he, cF F_ed fun v19 => bR (rfl) <| rfl⟩⟩⟩) (ho2 (fun _ => rfl) fun _ => rfl) (fun s => by kernel_rfl) (fun s => ⟨ltE _, rfl⟩) (by kernel_rfl) (by kernel_rfl) s)
def x_ee (v1 : Tc) : Option Bool := (x_cp v1.fab v1.fw).bind fun v2 => (bif !v2 then (some false) else (bif decide (40 < (v1.fu.length : Int)) then (some false) else ((x_cr v1.ft).bind fun v5 => (bif !v5 then (some false) else ((x_ee_L1 v1 ()).bind (sel2 (fun (v21 : Int × Ta) => (some false)) (fun (v22 : Unit) => (bif !v1.fal then ((x_ec v1.ff).bind fun v24 => (bif v24 then (bif decide (v1.fas = 0) then (bif decide (v1.faq = 0) then (some (decide (v1.far = 0))) else (some false)) else (some false)) else (some false))) else ((x_ed v1.ff).bind fun v28 => (bif v28 then ((x_cr v1.fas).bind fun v30 => (bif v30 then ((x_co v1.faq).bind fun v32 => (bif v32 then ((x_cn v1.far 0 v1.fw).bind fun v34 => (some v34)) else (some false))) else (some false))) else (some false)))))))))))
def C_ee (v1 : Tc) : Ctr := ⟨n_ee, [.agg [.imm 9 (v1.fu.map Ta.i), .bool v1.fal, .I v1.ff.fj, .I v1.ff.fk, .I v1.ff.fh, .I v1.ff.fa.fd, .I v1.ff.fa.fe, .I v1.ff.fa.fN, .imm 1 (v1.ff.fa.fc.map (V.int .i64)), .imm 1 (v1.ff.fa.fb.map V.bool), .I v1.ff.fa.fi, .I v1.fas, .I v1.faq, .I v1.far, .I v1.ft, .I v1.fab, .I v1.fw]], [], Bool, x_ee v1, rB⟩
theorem F_ee {v1 : Tc} : (C_ee v1).okF tab := fun r hr => ⟨func_okx T_ee rfl (.callF (C_cp v1.fab v1.fw) fun (v2 : Bool) => .br (!v2) (.lfA rB false) <| .lenA Ta.i v1.fu <| .br (decide (40 < (v1.fu.length : Int))) (.lfA rB false) <| .callF (C_cr v1.ft) fun (v5 : Bool) => .br (!v5) (.lfA rB false) <| .lenA Ta.i v1.fu <| .lp2 (L_ee_L1 v1 ()) (fun (v21 : Int × Ta) => .lfA rB false) (fun (v22 : Unit) => .br (!v1.fal) (.callF (C_ec v1.ff) fun (v24 : Bool) => .br v24 (.br (decide (v1.fas = 0)) (.br (decide (v1.faq = 0)) (.lfA rB (decide (v1.far = 0))) <| .lfA rB false) <| .lfA rB false) <| .lfA rB false) <| .callF (C_ed v1.ff) fun (v28 : Bool) => .br v28 (.callF (C_cr v1.fas) fun (v30 : Bool) => .br v30 (.callF (C_co v1.faq) fun (v32 : Bool) => .br v32 (.callF (C_cn v1.far 0 v1.fw) fun (v34 : Bool) => .lfA rB v34) <| .lfA rB false) <| .lfA rB false) <| .lfA rB false) : Tree Bool _) (by kernel_rfl) (by kernel_rfl) (cF F_cp fun v2 => bR (rfl) <| lA <| bR (rfl) <| cF F_cr fun v5 => bR (rfl) <| lA <| lQ I_ee_L1 (fun v21 => rfl) (fun v22 => bR (cF F_ec fun v24 => bR (bR (bR (rfl) <| rfl) <| rfl) <| rfl) <| cF F_ed fun v28 => bR (cF F_cr fun v30 => bR (cF F_co fun v32 => bR (cF F_cn fun v34 => rfl) <| rfl) <| rfl) <| rfl)) hr, rfl, rfl⟩
def C_ef (a : List Ta) : Ctr := ⟨n_ef, [.imm 9 (a.map Ta.i)], [], List Ta, if a.length * 104 <= 70368744177664 then some a else none, fun r => (.own 9 (r.map Ta.i), [])⟩
theorem E_ef {a : List Ta} : (C_ef a).ok tab := clone_run T_ef Ta.i a
def o_eg : List Ta -> V × List (List V) := fun r => (.own 9 (r.map Ta.i), [])
def x_eg (v1 : Tc) : Option (List Ta) := (if v1.fu.length * 104 <= 70368744177664 then some v1.fu else none).bind fun v2 => (bif v1.fal then (if ((v2.map Ta.i).length + (([v1.ff] : List Ta).map Ta.i).length) * 104 <= 70368744177664 then (some (v2 ++ ([v1.ff] : List Ta))) else none) else (some v2))
def C_eg (v1 : Tc) : Ctr := ⟨n_eg, [.agg [.imm 9 (v1.fu.map Ta.i), .bool v1.fal, .I v1.ff.fj, .I v1.ff.fk, .I v1.ff.fh, .I v1.ff.fa.fd, .I v1.ff.fa.fe, .I v1.ff.fa.fN, .imm 1 (v1.ff.fa.fc.map (V.int .i64)), .imm 1 (v1.ff.fa.fb.map V.bool), .I v1.ff.fa.fi, .I v1.fas, .I v1.faq, .I v1.far, .I v1.ft, .I v1.fab, .I v1.fw]], [], List Ta, x_eg v1, o_eg⟩
theorem E_eg {v1 : Tc} : (C_eg v1).ok tab := fun r hr => func_okx T_eg rfl (.call (C_ef v1.fu) fun (v2 : List Ta) => .segA Ta.i v2 <| .br v1.fal (.eqL [.agg [.int .i64 v1.ff.fj, .int .i64 v1.ff.fk, .int .i64 v1.ff.fh, .int .i64 v1.ff.fa.fd, .int .i64 v1.ff.fa.fe, .int .i64 v1.ff.fa.fN, .imm 1 (v1.ff.fa.fc.map (V.int .i64)), .imm 1 (v1.ff.fa.fb.map V.bool), .int .i64 v1.ff.fa.fi]] (([v1.ff] : List Ta).map Ta.i) <| .segA Ta.i v2 <| .segA Ta.i ([v1.ff] : List Ta) <| .guard (((v2.map Ta.i).length + (([v1.ff] : List Ta).map Ta.i).length) * 104 <= 70368744177664) inferInstance <| .appA Ta.i v2 ([v1.ff] : List Ta) <| .segA Ta.i (v2 ++ ([v1.ff] : List Ta)) <| .segA Ta.i (v2 ++ ([v1.ff] : List Ta)) <| .lfA o_eg (v2 ++ ([v1.ff] : List Ta))) <| .segA Ta.i v2 <| .lfA o_eg v2 : Tree (List Ta) _) (by kernel_rfl) (by kernel_rfl) (cE E_ef fun v2 => sA <| bR (⟨rfl, sA <| sA <| gU <| aA <| sA <| sA <| rfl⟩) <| sA <| rfl) hr
def x_dw (v1 : Tb) (v2 : Ta) : Option Bool := some (decide (v1.fj = v2.fj))
def C_dw (v1 : Tb) (v2 : Ta) : Ctr := ⟨n_dw, [.agg [.I v1.fj, .I v1.fai, .I v1.faj, .I v1.fh, .I v1.fa.fd, .I v1.fa.fe, .I v1.fa.fN, .imm 1 (v1.fa.fc.map (V.int .i64)), .imm 1 (v1.fa.fb.map V.bool), .I v1.fa.fi, .imm 8 (v1.fm.map Tf.i), .imm 1 (v1.fq.map V.bool), .imm 6 (v1.faa.map Te.i)], .eptr [.I v2.fj, .I v2.fk, .I v2.fh, .I v2.fa.fd, .I v2.fa.fe, .I v2.fa.fN, .imm 1 (v2.fa.fc.map (V.int .i64)), .imm 1 (v2.fa.fb.map V.bool), .I v2.fa.fi] 0], [], Bool, x_dw v1 v2, rB⟩
theorem F_dw {v1 : Tb} {v2 : Ta} : (C_dw v1 v2).okF tab := fun r hr => ⟨func_okx T_dw rfl (.lfA rB (decide (v1.fj = v2.fj)) : Tree Bool _) (by kernel_rfl) (by kernel_rfl) rfl hr, rfl, rfl⟩
def J_dx_L1 (v1 : List Tb) (v2 : Ta) (k : Int) (s : Unit) : St := ⟨sv 8 [(0, .imm 13 (v1.map Tb.i)), (1, .clo n_dw [.agg [.I v2.fj, .I v2.fk, .I v2.fh, .I v2.fa.fd, .I v2.fa.fe, .I v2.fa.fN, .imm 1 (v2.fa.fc.map (V.int .i64)), .imm 1 (v2.fa.fb.map V.bool), .I v2.fa.fi]]), (4, .I (v1.length : Int)), (5, .I k)], []⟩
def q0_dx_L1 (v1 : List Tb) (v2 : Ta) : Int -> Ex × St := fun p => (.ret, ⟨sv 8 [(0, .imm 13 (v1.map Tb.i)), (1, .clo n_dw [.agg [.I v2.fj, .I v2.fk, .I v2.fh, .I v2.fa.fd, .I v2.fa.fe, .I v2.fa.fN, .imm 1 (v2.fa.fc.map (V.int .i64)), .imm 1 (v2.fa.fb.map V.bool), .I v2.fa.fi]]), (2, .I p), (3, .I p), (4, .I (v1.length : Int)), (5, .I p), (6, .bool true), (7, .bool true)], []⟩)
def q1_dx_L1 (v1 : List Tb) (v2 : Ta) : Unit -> Ex × St := fun p => ((.exit 0), ⟨sv 8 [(0, .imm 13 (v1.map Tb.i)), (1, .clo n_dw [.agg [.I v2.fj, .I v2.fk, .I v2.fh, .I v2.fa.fd, .I v2.fa.fe, .I v2.fa.fN, .imm 1 (v2.fa.fc.map (V.int .i64)), .imm 1 (v2.fa.fb.map V.bool), .I v2.fa.fi]]), (4, .I (v1.length : Int)), (5, .I (v1.length : Int)), (6, .bool false)], []⟩)
def u_dx_L1 (v1 : List Tb) (v2 : Ta) (k : Int) := outL (J_dx_L1 v1 v2 k) (Sum.elim (q0_dx_L1 v1 v2) (q1_dx_L1 v1 v2))
def b_dx_L1 (v1 : List Tb) (v2 : Ta) (k : Int) (x : Tb) (s : Unit) : Option ((Unit) ⊕ (Int ⊕ Unit)) := (x_dw x v2).bind fun v15 => (bif v15 then (some (.inr (.inl k))) else (some (.inl ())))
def e_dx_L1 (v1 : List Tb) (v2 : Ta) (s : Unit) : Option (Int ⊕ Unit) := some ((.inr ()))
def x_dx_L1 (v1 : List Tb) (v2 : Ta) (s : Unit) : Option (Int ⊕ Unit) := if v1.length <= 9223372036854775806 then listN (b_dx_L1 v1 v2) (e_dx_L1 v1 v2) v1 0 s else none
def L_dx_L1 (v1 : List Tb) (v2 : Ta) (s : Unit) : Lc2 := ⟨8, l_dx_0, 0, [2, 3, 6, 7], some (J_dx_L1 v1 v2 0 s), Int, Unit, x_dx_L1 v1 v2 s, q0_dx_L1 v1 v2, q1_dx_L1 v1 v2⟩
theorem I_dx_L1 {v1 : List Tb} {v2 : Ta} {s : Unit} : (L_dx_L1 v1 v2 s).ok tab := Lc2_of (list_okx (J := J_dx_L1 v1 v2) (o := (Sum.elim (q0_dx_L1 v1 v2) (q1_dx_L1 v1 v2))) v1 (B := fun (k : Int) (x : Tb) (s : Unit) => (.kb (decide (k < (v1.length : Int))) true <| .ob (0 <= k) <| .lkX Tb.i v1 (k.toNat) x <| .callF (C_dw x v2) fun (v15 : Bool) => .br v15 (.lfA (u_dx_L1 v1 v2 (IntKind.i64.wrap (k + 1))) (.inr (.inl k))) <| .lfA (u_dx_L1 v1 v2 (IntKind.i64.wrap (k + 1))) (.inl ()) : Tree ((Unit) ⊕ (Int ⊕ Unit)) _)) (E := fun (s : Unit) => (.kb (decide ((v1.length : Int) < (v1.length : Int))) false <| .lfA (u_dx_L1 v1 v2 0) (.inr (.inr ())) : Tree ((Unit) ⊕ (Int ⊕ Unit)) _)) (fun k x s => by kernel_rfl) (fun d x t s he => ⟨ltX he, ⟨Int.natCast_nonneg _, ⟨lookX_ok Tb.i he, cF F_dw fun v15 => bR (rfl) <| rfl⟩⟩⟩) (ho2 (fun _ => rfl) fun _ => rfl) (fun s => by kernel_rfl) (fun s => ⟨ltE _, rfl⟩) (by kernel_rfl) (by kernel_rfl) s)
def x_dx (v1 : List Tb) (v2 : Ta) : Option Int := (x_dx_L1 v1 v2 ()).bind (sel2 (fun (v17 : Int) => (some v17)) (fun (v18 : Unit) => (some (-1))))
def C_dx (v1 : List Tb) (v2 : Ta) : Ctr := ⟨n_dx, [.imm 13 (v1.map Tb.i), .clo n_dw [.agg [.I v2.fj, .I v2.fk, .I v2.fh, .I v2.fa.fd, .I v2.fa.fe, .I v2.fa.fN, .imm 1 (v2.fa.fc.map (V.int .i64)), .imm 1 (v2.fa.fb.map V.bool), .I v2.fa.fi]]], [], Int, x_dx v1 v2, rI⟩
theorem F_dx {v1 : List Tb} {v2 : Ta} : (C_dx v1 v2).okF tab := fun r hr => ⟨func_okx T_dx rfl (.lenA Tb.i v1 <| .lp2 (L_dx_L1 v1 v2 ()) (fun (v17 : Int) => .lfA rI v17) (fun (v18 : Unit) => .lfA rI (-1)) : Tree Int _) (by kernel_rfl) (by kernel_rfl) (lA <| lQ I_dx_L1 (fun v17 => rfl) (fun v18 => rfl)) hr, rfl, rfl⟩
def x_dz (v1 : Tk) (v2 : Int) (v3 : Ta) : Option Bool := (x_dx v1.fg v3).bind fun v4 => (bif decide (v4 < 0) then (some false) else (if 0 <= v4 then (((v1.fg)[v4.toNat]?).bind fun v6 => (bif decide ((v6.fm.length : Int) <= v3.fk) then (some false) else (if 0 <= v4 then (if 0 <= v3.fk then (((v6.fq)[v3.fk.toNat]?).bind fun v9 => (bif v9 then (some false) else (if 0 <= v4 then (if 0 <= v3.fk then (((v6.fm)[v3.fk.toNat]?).bind fun v12 => (if 0 <= v3.fk then (if 0 <= v4 then (bif decide (v12.fac = v2) then (bif decide (v12.fh = v3.fh) then ((x_dy v12.fa v3.fa).bind fun v16 => (some v16)) else (some false)) else (some false)) else none) else none)) else none) else none))) else none) else none))) else none))
def C_dz (v1 : Tk) (v2 : Int) (v3 : Ta) : Ctr := ⟨n_dz, [.agg [.I v1.ft, .imm 13 (v1.fg.map Tb.i)], .I v2, .agg [.I v3.fj, .I v3.fk, .I v3.fh, .I v3.fa.fd, .I v3.fa.fe, .I v3.fa.fN, .imm 1 (v3.fa.fc.map (V.int .i64)), .imm 1 (v3.fa.fb.map V.bool), .I v3.fa.fi]], [], Bool, x_dz v1 v2 v3, rB⟩
theorem F_dz {v1 : Tk} {v2 : Int} {v3 : Ta} : (C_dz v1 v2 v3).okF tab := fun r hr => ⟨func_okx T_dz rfl (.callF (C_dx v1.fg v3) fun (v4 : Int) => .br (decide (v4 < 0)) (.lfA rB false) <| .guard (0 <= v4) inferInstance <| .lookA Tb.i v1.fg (v4.toNat) fun v6 => .lenA Tf.i v6.fm <| .br (decide ((v6.fm.length : Int) <= v3.fk)) (.lfA rB false) <| .guard (0 <= v4) inferInstance <| .lkX Tb.i v1.fg (v4.toNat) v6 <| .guard (0 <= v3.fk) inferInstance <| .lookA V.bool v6.fq (v3.fk.toNat) fun v9 => .br v9 (.lfA rB false) <| .guard (0 <= v4) inferInstance <| .lkX Tb.i v1.fg (v4.toNat) v6 <| .guard (0 <= v3.fk) inferInstance <| .lookA Tf.i v6.fm (v3.fk.toNat) fun v12 => .ob ((.agg [.int .i64 v12.fac, .int .i64 v12.fh, .int .i64 v12.fa.fd, .int .i64 v12.fa.fe, .int .i64 v12.fa.fN, .imm 1 (v12.fa.fc.map (V.int .i64)), .imm 1 (v12.fa.fb.map V.bool), .int .i64 v12.fa.fi] : V) = .agg [.int .i64 v12.fac, .int .i64 v12.fh, .int .i64 v12.fa.fd, .int .i64 v12.fa.fe, .int .i64 v12.fa.fN, .imm 1 (v12.fa.fc.map (V.int .i64)), .imm 1 (v12.fa.fb.map V.bool), .int .i64 v12.fa.fi]) <| .ob ((.agg [.int .i64 v12.fac, .int .i64 v12.fh, .int .i64 v12.fa.fd, .int .i64 v12.fa.fe, .int .i64 v12.fa.fN, .imm 1 (v12.fa.fc.map (V.int .i64)), .imm 1 (v12.fa.fb.map V.bool), .int .i64 v12.fa.fi] : V) = .agg [.int .i64 v12.fac, .int .i64 v12.fh, .int .i64 v12.fa.fd, .int .i64 v12.fa.fe, .int .i64 v12.fa.fN, .imm 1 (v12.fa.fc.map (V.int .i64)), .imm 1 (v12.fa.fb.map V.bool), .int .i64 v12.fa.fi]) <| .ob ((.eptr [.int .i64 v12.fac, .int .i64 v12.fh, .int .i64 v12.fa.fd, .int .i64 v12.fa.fe, .int .i64 v12.fa.fN, .imm 1 (v12.fa.fc.map (V.int .i64)), .imm 1 (v12.fa.fb.map V.bool), .int .i64 v12.fa.fi] 0 : V) = .eptr [.int .i64 v12.fac, .int .i64 v12.fh, .int .i64 v12.fa.fd, .int .i64 v12.fa.fe, .int .i64 v12.fa.fN, .imm 1 (v12.fa.fc.map (V.int .i64)), .imm 1 (v12.fa.fb.map V.bool), .int .i64 v12.fa.fi] 0) <| .guard (0 <= v3.fk) inferInstance <| .lkX Tf.i v6.fm (v3.fk.toNat) v12 <| .ob ((.eptr [.int .i64 v12.fac, .int .i64 v12.fh, .int .i64 v12.fa.fd, .int .i64 v12.fa.fe, .int .i64 v12.fa.fN, .imm 1 (v12.fa.fc.map (V.int .i64)), .imm 1 (v12.fa.fb.map V.bool), .int .i64 v12.fa.fi] 0 : V) = .eptr [.int .i64 v12.fac, .int .i64 v12.fh, .int .i64 v12.fa.fd, .int .i64 v12.fa.fe, .int .i64 v12.fa.fN, .imm 1 (v12.fa.fc.map (V.int .i64)), .imm 1 (v12.fa.fb.map V.bool), .int .i64 v12.fa.fi] 0) <| .ob ((.int .i64 v3.fk : V) = .int .i64 v3.fk) <| .ob ((.int .i64 v3.fk : V) = .int .i64 v3.fk) <| .ob ((.ref (.box 1) 1 [] : V) = .ref (.box 1) 1 []) <| .ob ((.ref (.box 1) 1 [] : V) = .ref (.box 1) 1 []) <| .ob ((.imm 8 (v6.fm.map Tf.i) : V) = .imm 8 (v6.fm.map Tf.i)) <| .ob ((.imm 8 (v6.fm.map Tf.i) : V) = .imm 8 (v6.fm.map Tf.i)) <| .ob ((.eptr [.int .i64 v6.fj, .int .i64 v6.fai, .int .i64 v6.faj, .int .i64 v6.fh, .int .i64 v6.fa.fd, .int .i64 v6.fa.fe, .int .i64 v6.fa.fN, .imm 1 (v6.fa.fc.map (V.int .i64)), .imm 1 (v6.fa.fb.map V.bool), .int .i64 v6.fa.fi, .imm 8 (v6.fm.map Tf.i), .imm 1 (v6.fq.map V.bool), .imm 6 (v6.faa.map Te.i)] 10 : V) = .eptr [.int .i64 v6.fj, .int .i64 v6.fai, .int .i64 v6.faj, .int .i64 v6.fh, .int .i64 v6.fa.fd, .int .i64 v6.fa.fe, .int .i64 v6.fa.fN, .imm 1 (v6.fa.fc.map (V.int .i64)), .imm 1 (v6.fa.fb.map V.bool), .int .i64 v6.fa.fi, .imm 8 (v6.fm.map Tf.i), .imm 1 (v6.fq.map V.bool), .imm 6 (v6.faa.map Te.i)] 10) <| .ob ((.eptr [.int .i64 v6.fj, .int .i64 v6.fai, .int .i64 v6.faj, .int .i64 v6.fh, .int .i64 v6.fa.fd, .int .i64 v6.fa.fe, .int .i64 v6.fa.fN, .imm 1 (v6.fa.fc.map (V.int .i64)), .imm 1 (v6.fa.fb.map V.bool), .int .i64 v6.fa.fi, .imm 8 (v6.fm.map Tf.i), .imm 1 (v6.fq.map V.bool), .imm 6 (v6.faa.map Te.i)] 10 : V) = .eptr [.int .i64 v6.fj, .int .i64 v6.fai, .int .i64 v6.faj, .int .i64 v6.fh, .int .i64 v6.fa.fd, .int .i64 v6.fa.fe, .int .i64 v6.fa.fN, .imm 1 (v6.fa.fc.map (V.int .i64)), .imm 1 (v6.fa.fb.map V.bool), .int .i64 v6.fa.fi, .imm 8 (v6.fm.map Tf.i), .imm 1 (v6.fq.map V.bool), .imm 6 (v6.faa.map Te.i)] 10) <| .ob ((.eptr [.int .i64 v6.fj, .int .i64 v6.fai, .int .i64 v6.faj, .int .i64 v6.fh, .int .i64 v6.fa.fd, .int .i64 v6.fa.fe, .int .i64 v6.fa.fN, .imm 1 (v6.fa.fc.map (V.int .i64)), .imm 1 (v6.fa.fb.map V.bool), .int .i64 v6.fa.fi, .imm 8 (v6.fm.map Tf.i), .imm 1 (v6.fq.map V.bool), .imm 6 (v6.faa.map Te.i)] 0 : V) = .eptr [.int .i64 v6.fj, .int .i64 v6.fai, .int .i64 v6.faj, .int .i64 v6.fh, .int .i64 v6.fa.fd, .int .i64 v6.fa.fe, .int .i64 v6.fa.fN, .imm 1 (v6.fa.fc.map (V.int .i64)), .imm 1 (v6.fa.fb.map V.bool), .int .i64 v6.fa.fi, .imm 8 (v6.fm.map Tf.i), .imm 1 (v6.fq.map V.bool), .imm 6 (v6.faa.map Te.i)] 0) <| .guard (0 <= v4) inferInstance <| .lkX Tb.i v1.fg (v4.toNat) v6 <| .ob ((.eptr [.int .i64 v6.fj, .int .i64 v6.fai, .int .i64 v6.faj, .int .i64 v6.fh, .int .i64 v6.fa.fd, .int .i64 v6.fa.fe, .int .i64 v6.fa.fN, .imm 1 (v6.fa.fc.map (V.int .i64)), .imm 1 (v6.fa.fb.map V.bool), .int .i64 v6.fa.fi, .imm 8 (v6.fm.map Tf.i), .imm 1 (v6.fq.map V.bool), .imm 6 (v6.faa.map Te.i)] 0 : V) = .eptr [.int .i64 v6.fj, .int .i64 v6.fai, .int .i64 v6.faj, .int .i64 v6.fh, .int .i64 v6.fa.fd, .int .i64 v6.fa.fe, .int .i64 v6.fa.fN, .imm 1 (v6.fa.fc.map (V.int .i64)), .imm 1 (v6.fa.fb.map V.bool), .int .i64 v6.fa.fi, .imm 8 (v6.fm.map Tf.i), .imm 1 (v6.fq.map V.bool), .imm 6 (v6.faa.map Te.i)] 0) <| .ob ((.int .i64 v4 : V) = .int .i64 v4) <| .ob ((.int .i64 v4 : V) = .int .i64 v4) <| .ob ((.imm 13 (v1.fg.map Tb.i) : V) = .imm 13 (v1.fg.map Tb.i)) <| .ob ((.imm 13 (v1.fg.map Tb.i) : V) = .imm 13 (v1.fg.map Tb.i)) <| .ob ((.ref (.box 0) 1 [] : V) = .ref (.box 0) 1 []) <| .ob ((.ref (.box 0) 1 [] : V) = .ref (.box 0) 1 []) <| .br (decide (v12.fac = v2)) (.br (decide (v12.fh = v3.fh)) (.callF (C_dy v12.fa v3.fa) fun (v16 : Bool) => .lfA rB v16) <| .lfA rB false) <| .lfA rB false : Tree Bool _) (by kernel_rfl) (by kernel_rfl) (cF F_dx fun v4 => bR (rfl) <| gU <| ⟨lookA_ok _ _ _, fun v6 h7 => lA <| bR (rfl) <| gU <| ⟨lookC_ok _ h7, gU <| kA fun v9 => bR (rfl) <| gU <| ⟨lookC_ok _ h7, gU <| ⟨lookA_ok _ _ _, fun v12 h13 => ⟨rfl, ⟨rfl, ⟨rfl, gU <| ⟨lookC_ok _ h13, ⟨rfl, ⟨rfl, ⟨rfl, ⟨rfl, ⟨rfl, ⟨rfl, ⟨rfl, ⟨rfl, ⟨rfl, ⟨rfl, gU <| ⟨lookC_ok _ h7, ⟨rfl, ⟨rfl, ⟨rfl, ⟨rfl, ⟨rfl, ⟨rfl, ⟨rfl, bR (bR (cF F_dy fun v16 => rfl) <| rfl) <| rfl⟩⟩⟩⟩⟩⟩⟩⟩⟩⟩⟩⟩⟩⟩⟩⟩⟩⟩⟩⟩⟩⟩⟩⟩⟩⟩) hr, rfl, rfl⟩
def J_ea_L1 (v1 : List Ti) (v2 : Ti) (k : Int) (s : Unit) : St := ⟨sv 9 [(0, .imm 2 (v1.map Ti.i)), (2, .ref (.box 0) 0 []), (5, .I (v1.length : Int)), (6, .I k)], [[.I v2.fid, .I v2.fpart]]⟩
def q0_ea_L1 (v1 : List Ti) (v2 : Ti) : Int -> Ex × St := fun p => (.ret, ⟨sv 9 [(0, .imm 2 (v1.map Ti.i)), (2, .ref (.box 0) 0 []), (3, .I p), (4, .I p), (5, .I (v1.length : Int)), (6, .I p), (7, .bool true), (8, .bool true)], [[.I v2.fid, .I v2.fpart]]⟩)
def q1_ea_L1 (v1 : List Ti) (v2 : Ti) : Unit -> Ex × St := fun p => ((.exit 0), ⟨sv 9 [(0, .imm 2 (v1.map Ti.i)), (2, .ref (.box 0) 0 []), (5, .I (v1.length : Int)), (6, .I (v1.length : Int)), (7, .bool false)], [[.I v2.fid, .I v2.fpart]]⟩)
def u_ea_L1 (v1 : List Ti) (v2 : Ti) (k : Int) := outL (J_ea_L1 v1 v2 k) (Sum.elim (q0_ea_L1 v1 v2) (q1_ea_L1 v1 v2))
def b_ea_L1 (v1 : List Ti) (v2 : Ti) (k : Int) (x : Ti) (s : Unit) : Option ((Unit) ⊕ (Int ⊕ Unit)) := bif decide (v2.fid = x.fid) && (decide (v2.fpart = x.fpart) && true) then (some (.inr (.inl k))) else (some (.inl ()))
def e_ea_L1 (v1 : List Ti) (v2 : Ti) (s : Unit) : Option (Int ⊕ Unit) := some ((.inr ()))
def x_ea_L1 (v1 : List Ti) (v2 : Ti) (s : Unit) : Option (Int ⊕ Unit) := if v1.length <= 9223372036854775806 then listN (b_ea_L1 v1 v2) (e_ea_L1 v1 v2) v1 0 s else none
def L_ea_L1 (v1 : List Ti) (v2 : Ti) (s : Unit) : Lc2 := ⟨9, l_ea_0, 1, [1, 3, 4, 7, 8], some (J_ea_L1 v1 v2 0 s), Int, Unit, x_ea_L1 v1 v2 s, q0_ea_L1 v1 v2, q1_ea_L1 v1 v2⟩
theorem I_ea_L1 {v1 : List Ti} {v2 : Ti} {s : Unit} : (L_ea_L1 v1 v2 s).ok tab := Lc2_of (list_okx (J := J_ea_L1 v1 v2) (o := (Sum.elim (q0_ea_L1 v1 v2) (q1_ea_L1 v1 v2))) v1 (B := fun (k : Int) (x : Ti) (s : Unit) => (.kb (decide (k < (v1.length : Int))) true <| .ob (0 <= k) <| .lkX Ti.i v1 (k.toNat) x <| .br (decide (v2.fid = x.fid) && (decide (v2.fpart = x.fpart) && true)) (.lfA (u_ea_L1 v1 v2 (IntKind.i64.wrap (k + 1))) (.inr (.inl k))) <| .lfA (u_ea_L1 v1 v2 (IntKind.i64.wrap (k + 1))) (.inl ()) : Tree ((Unit) ⊕ (Int ⊕ Unit)) _)) (E := fun (s : Unit) => (.kb (decide ((v1.length : Int) < (v1.length : Int))) false <| .lfA (u_ea_L1 v1 v2 0) (.inr (.inr ())) : Tree ((Unit) ⊕ (Int ⊕ Unit)) _)) (fun k x s => by kernel_rfl) (fun d x t s he => ⟨ltX he, ⟨Int.natCast_nonneg _, ⟨lookX_ok Ti.i he, bR (rfl) <| rfl⟩⟩⟩) (ho2 (fun _ => rfl) fun _ => rfl) (fun s => by kernel_rfl) (fun s => ⟨ltE _, rfl⟩) (by kernel_rfl) (by kernel_rfl) s)
def x_ea (v1 : List Ti) (v2 : Ti) : Option Int := (x_ea_L1 v1 v2 ()).bind (sel2 (fun (v14 : Int) => (some v14)) (fun (v15 : Unit) => (some (-1))))
def C_ea (v1 : List Ti) (v2 : Ti) : Ctr := ⟨n_ea, [.imm 2 (v1.map Ti.i), .agg [.I v2.fid, .I v2.fpart]], [], Int, x_ea v1 v2, rI⟩
theorem F_ea {v1 : List Ti} {v2 : Ti} : (C_ea v1 v2).okF tab := fun r hr => ⟨func_okx T_ea rfl (.lenA Ti.i v1 <| .lp2 (L_ea_L1 v1 v2 ()) (fun (v14 : Int) => .lfA rI v14) (fun (v15 : Unit) => .lfA rI (-1)) : Tree Int _) (by kernel_rfl) (by kernel_rfl) (lA <| lQ I_ea_L1 (fun v14 => rfl) (fun v15 => rfl)) hr, rfl, rfl⟩
def x_eb (v1 : List Ti) (v2 : Ti) : Option Bool := (x_ea v1 v2).bind fun v3 => (some (decide (0 <= v3)))
def C_eb (v1 : List Ti) (v2 : Ti) : Ctr := ⟨n_eb, [.imm 2 (v1.map Ti.i), .agg [.I v2.fid, .I v2.fpart]], [], Bool, x_eb v1 v2, rB⟩
theorem F_eb {v1 : List Ti} {v2 : Ti} : (C_eb v1 v2).okF tab := fun r hr => ⟨func_okx T_eb rfl (.callF (C_ea v1 v2) fun (v3 : Int) => .lfA rB (decide (0 <= v3)) : Tree Bool _) (by kernel_rfl) (by kernel_rfl) (cF F_ea fun v3 => rfl) hr, rfl, rfl⟩
def J_dv_L2 (v1 : Tk) (v21 : Int) (v38 : Tb) (k : Int) (s : Int) : St := ⟨sv 16 [(3, .I s), (7, .imm 13 (v1.fg.map Tb.i)), (8, .I (v1.fg.length : Int)), (9, .I v21), (11, .imm 1 (v38.fq.map V.bool)), (12, .I (v38.fq.length : Int)), (13, .I k)], [[.I v1.ft, .imm 13 (v1.fg.map Tb.i)], [.I v38.fj, .I v38.fai, .I v38.faj, .I v38.fh, .I v38.fa.fd, .I v38.fa.fe, .I v38.fa.fN, .imm 1 (v38.fa.fc.map (V.int .i64)), .imm 1 (v38.fa.fb.map V.bool), .I v38.fa.fi, .imm 8 (v38.fm.map Tf.i), .imm 1 (v38.fq.map V.bool), .imm 6 (v38.faa.map Te.i)]]⟩
def q0_dv_L2 (v1 : Tk) (v21 : Int) (v38 : Tb) : Int -> Ex × St := fun p => ((.exit 2), ⟨sv 16 [(3, .I p), (7, .imm 13 (v1.fg.map Tb.i)), (8, .I (v1.fg.length : Int)), (9, .I v21), (11, .imm 1 (v38.fq.map V.bool)), (12, .I (v38.fq.length : Int)), (13, .I (v38.fq.length : Int)), (14, .bool false)], [[.I v1.ft, .imm 13 (v1.fg.map Tb.i)], [.I v38.fj, .I v38.fai, .I v38.faj, .I v38.fh, .I v38.fa.fd, .I v38.fa.fe, .I v38.fa.fN, .imm 1 (v38.fa.fc.map (V.int .i64)), .imm 1 (v38.fa.fb.map V.bool), .I v38.fa.fi, .imm 8 (v38.fm.map Tf.i), .imm 1 (v38.fq.map V.bool), .imm 6 (v38.faa.map Te.i)]]⟩)
def u_dv_L2 (v1 : Tk) (v21 : Int) (v38 : Tb) (k : Int) := outL (J_dv_L2 v1 v21 v38 k) (q0_dv_L2 v1 v21 v38)
def b_dv_L2 (v1 : Tk) (v21 : Int) (v38 : Tb) (k : Int) (x : Bool) (s : Int) : Option ((Int) ⊕ (Int)) := bif !x then (some (.inl (IntKind.i64.wrap (s + 1)))) else (some (.inl s))
def e_dv_L2 (v1 : Tk) (v21 : Int) (v38 : Tb) (s : Int) : Option Int := some (s)
def x_dv_L2 (v1 : Tk) (v21 : Int) (v38 : Tb) (s : Int) : Option Int := if v38.fq.length <= 9223372036854775806 then listN (b_dv_L2 v1 v21 v38) (e_dv_L2 v1 v21 v38) v38.fq 0 s else none
def L_dv_L2 (v1 : Tk) (v21 : Int) (v38 : Tb) (s : Int) : Lct := ⟨16, l_dv_0, 2, [0, 1, 2, 4, 5, 6, 10, 14, 15], some (J_dv_L2 v1 v21 v38 0 s), Int, x_dv_L2 v1 v21 v38 s, q0_dv_L2 v1 v21 v38⟩
theorem I_dv_L2 {v1 : Tk} {v21 : Int} {v38 : Tb} {s : Int} : (L_dv_L2 v1 v21 v38 s).ok tab := Lct_of (list_okx (J := J_dv_L2 v1 v21 v38) (o := (q0_dv_L2 v1 v21 v38)) v38.fq (B := fun (k : Int) (x : Bool) (s : Int) => (.kb (decide (k < (v38.fq.length : Int))) true <| .ob (0 <= k) <| .lkX V.bool v38.fq (k.toNat) x <| .br (!x) (.lfA (u_dv_L2 v1 v21 v38 (IntKind.i64.wrap (k + 1))) (.inl (IntKind.i64.wrap (s + 1)))) <| .lfA (u_dv_L2 v1 v21 v38 (IntKind.i64.wrap (k + 1))) (.inl s) : Tree ((Int) ⊕ (Int)) _)) (E := fun (s : Int) => (.kb (decide ((v38.fq.length : Int) < (v38.fq.length : Int))) false <| .lfA (u_dv_L2 v1 v21 v38 0) (.inr s) : Tree ((Int) ⊕ (Int)) _)) (fun k x s => by kernel_rfl) (fun d x t s he => ⟨ltX he, ⟨Int.natCast_nonneg _, ⟨lookX_ok V.bool he, bR (rfl) <| rfl⟩⟩⟩) (fun _ => rfl) (fun s => by kernel_rfl) (fun s => ⟨ltE _, rfl⟩) (by kernel_rfl) (by kernel_rfl) s)
def J_dv_L1 (v1 : Tk) (k : Int) (s : Int) : St := ⟨sv 16 [(3, .I s), (7, .imm 13 (v1.fg.map Tb.i)), (8, .I (v1.fg.length : Int)), (9, .I k)], [[.I v1.ft, .imm 13 (v1.fg.map Tb.i)]]⟩
def q0_dv_L1 (v1 : Tk) : Int -> Ex × St := fun p => ((.exit 0), ⟨sv 16 [(3, .I p), (7, .imm 13 (v1.fg.map Tb.i)), (8, .I (v1.fg.length : Int)), (9, .I (v1.fg.length : Int)), (10, .bool false)], [[.I v1.ft, .imm 13 (v1.fg.map Tb.i)]]⟩)
def u_dv_L1 (v1 : Tk) (k : Int) := outL (J_dv_L1 v1 k) (q0_dv_L1 v1)
def b_dv_L1 (v1 : Tk) (k : Int) (x : Tb) (s : Int) : Option ((Int) ⊕ (Int)) := (x_dv_L2 v1 k x s).bind fun v51 => (some (.inl v51))
def e_dv_L1 (v1 : Tk) (s : Int) : Option Int := some (s)
def x_dv_L1 (v1 : Tk) (s : Int) : Option Int := if v1.fg.length <= 9223372036854775806 then listN (b_dv_L1 v1) (e_dv_L1 v1) v1.fg 0 s else none
def L_dv_L1 (v1 : Tk) (s : Int) : Lct := ⟨16, l_dv_1, 1, [0, 1, 2, 4, 5, 6, 10, 11, 12, 13, 14, 15], some (J_dv_L1 v1 0 s), Int, x_dv_L1 v1 s, q0_dv_L1 v1⟩
theorem I_dv_L1 {v1 : Tk} {s : Int} : (L_dv_L1 v1 s).ok tab := Lct_of (list_okx (J := J_dv_L1 v1) (o := (q0_dv_L1 v1)) v1.fg (B := fun (k : Int) (x : Tb) (s : Int) => (.kb (decide (k < (v1.fg.length : Int))) true <| .ob (0 <= k) <| .lkX Tb.i v1.fg (k.toNat) x <| .lenA V.bool x.fq <| .lp (L_dv_L2 v1 k x s) fun (v51 : Int) => .lfA (u_dv_L1 v1 (IntKind.i64.wrap (k + 1))) (.inl v51) : Tree ((Int) ⊕ (Int)) _)) (E := fun (s : Int) => (.kb (decide ((v1.fg.length : Int) < (v1.fg.length : Int))) false <| .lfA (u_dv_L1 v1 0) (.inr s) : Tree ((Int) ⊕ (Int)) _)) (fun k x s => by kernel_rfl) (fun d x t s he => ⟨ltX he, ⟨Int.natCast_nonneg _, ⟨lookX_ok Tb.i he, lA <| lP I_dv_L2 fun v51 => rfl⟩⟩⟩) (fun _ => rfl) (fun s => by kernel_rfl) (fun s => ⟨ltE _, rfl⟩) (by kernel_rfl) (by kernel_rfl) s)
def x_dv (v1 : Tk) : Option Int := (x_du v1).bind fun v2 => (bif !v2 then (some 0) else ((x_dv_L1 v1 0).bind fun v52 => (some v52)))
def C_dv (v1 : Tk) : Ctr := ⟨n_dv, [.agg [.I v1.ft, .imm 13 (v1.fg.map Tb.i)]], [], Int, x_dv v1, rI⟩
theorem F_dv {v1 : Tk} : (C_dv v1).okF tab := fun r hr => ⟨func_okx T_dv rfl (.callF (C_du v1) fun (v2 : Bool) => .br (!v2) (.lfA rI 0) <| .lenA Tb.i v1.fg <| .lp (L_dv_L1 v1 0) fun (v52 : Int) => .lfA rI v52 : Tree Int _) (by kernel_rfl) (by kernel_rfl) (cF F_du fun v2 => bR (rfl) <| lA <| lP I_dv_L1 fun v52 => rfl) hr, rfl, rfl⟩
def J_eh_L2 (v1 : Tj) (v46 : Int) (v77 : Tc) (v80 : List Ta) (k : Int) (s : List Ti) : St := ⟨sv 19 [(1, .ref (.box 0) 0 []), (3, .own 2 (s.map Ti.i)), (4, .I v46), (9, .imm 17 (v1.fp.map Tc.i)), (10, .I (v1.fp.length : Int)), (11, .I v46), (14, .own 9 (v80.map Ta.i)), (15, .I (v80.length : Int)), (16, .I k)], [[.I v1.fan, .I v1.fr.fab, .I v1.fr.fw, .imm 7 (v1.fr.fad.map Td.i), .I v1.fo.ft, .imm 13 (v1.fo.fg.map Tb.i), .imm 17 (v1.fp.map Tc.i), .I v1.fak, .I v1.fao, .I v1.fam, .I v1.fap], [.imm 9 (v77.fu.map Ta.i), .bool v77.fal, .I v77.ff.fj, .I v77.ff.fk, .I v77.ff.fh, .I v77.ff.fa.fd, .I v77.ff.fa.fe, .I v77.ff.fa.fN, .imm 1 (v77.ff.fa.fc.map (V.int .i64)), .imm 1 (v77.ff.fa.fb.map V.bool), .I v77.ff.fa.fi, .I v77.fas, .I v77.faq, .I v77.far, .I v77.ft, .I v77.fab, .I v77.fw]]⟩
def q0_eh_L2 (v1 : Tj) (v46 : Int) (v77 : Tc) (v80 : List Ta) : (List Ti × Int × Ta × Int × Int) -> Ex × St := fun p => (.ret, ⟨sv 19 [(1, .ref (.box 0) 0 []), (2, .bool false), (3, .own 2 (p.1.map Ti.i)), (4, .I v46), (6, .ref (.box 2) 0 []), (7, .ref (.box 3) 0 []), (9, .imm 17 (v1.fp.map Tc.i)), (10, .I (v1.fp.length : Int)), (11, .I v46), (14, .own 9 (v80.map Ta.i)), (15, .I (v80.length : Int)), (16, .I p.2.1), (17, .bool true), (18, .bool true)], [[.I v1.fan, .I v1.fr.fab, .I v1.fr.fw, .imm 7 (v1.fr.fad.map Td.i), .I v1.fo.ft, .imm 13 (v1.fo.fg.map Tb.i), .imm 17 (v1.fp.map Tc.i), .I v1.fak, .I v1.fao, .I v1.fam, .I v1.fap], [.imm 9 (v77.fu.map Ta.i), .bool v77.fal, .I v77.ff.fj, .I v77.ff.fk, .I v77.ff.fh, .I v77.ff.fa.fd, .I v77.ff.fa.fe, .I v77.ff.fa.fN, .imm 1 (v77.ff.fa.fc.map (V.int .i64)), .imm 1 (v77.ff.fa.fb.map V.bool), .I v77.ff.fa.fi, .I v77.fas, .I v77.faq, .I v77.far, .I v77.ft, .I v77.fab, .I v77.fw], [.I p.2.2.1.fj, .I p.2.2.1.fk, .I p.2.2.1.fh, .I p.2.2.1.fa.fd, .I p.2.2.1.fa.fe, .I p.2.2.1.fa.fN, .imm 1 (p.2.2.1.fa.fc.map (V.int .i64)), .imm 1 (p.2.2.1.fa.fb.map V.bool), .I p.2.2.1.fa.fi], [.I p.2.2.2.1, .I p.2.2.2.2]]⟩)
def q1_eh_L2 (v1 : Tj) (v46 : Int) (v77 : Tc) (v80 : List Ta) : (List Ti) -> Ex × St := fun p => ((.exit 2), ⟨sv 19 [(1, .ref (.box 0) 0 []), (3, .own 2 (p.map Ti.i)), (4, .I v46), (9, .imm 17 (v1.fp.map Tc.i)), (10, .I (v1.fp.length : Int)), (11, .I v46), (14, .own 9 (v80.map Ta.i)), (15, .I (v80.length : Int)), (16, .I (v80.length : Int)), (17, .bool false)], [[.I v1.fan, .I v1.fr.fab, .I v1.fr.fw, .imm 7 (v1.fr.fad.map Td.i), .I v1.fo.ft, .imm 13 (v1.fo.fg.map Tb.i), .imm 17 (v1.fp.map Tc.i), .I v1.fak, .I v1.fao, .I v1.fam, .I v1.fap], [.imm 9 (v77.fu.map Ta.i), .bool v77.fal, .I v77.ff.fj, .I v77.ff.fk, .I v77.ff.fh, .I v77.ff.fa.fd, .I v77.ff.fa.fe, .I v77.ff.fa.fN, .imm 1 (v77.ff.fa.fc.map (V.int .i64)), .imm 1 (v77.ff.fa.fb.map V.bool), .I v77.ff.fa.fi, .I v77.fas, .I v77.faq, .I v77.far, .I v77.ft, .I v77.fab, .I v77.fw]]⟩)
def u_eh_L2 (v1 : Tj) (v46 : Int) (v77 : Tc) (v80 : List Ta) (k : Int) := outL (J_eh_L2 v1 v46 v77 v80 k) (Sum.elim (q0_eh_L2 v1 v46 v77 v80) (q1_eh_L2 v1 v46 v77 v80))
def b_eh_L2 (v1 : Tj) (v46 : Int) (v77 : Tc) (v80 : List Ta) (k : Int) (x : Ta) (s : List Ti) : Option ((List Ti) ⊕ ((List Ti × Int × Ta × Int × Int) ⊕ (List Ti))) := if 0 <= k /\ (k : Int) < (((v80.map Ta.i).length - 0 : Nat) : Int) then ((x_dz v1.fo v46 x).bind fun v98 => (bif !v98 then (some (.inr (.inl (s, k, x, x.fj, x.fk)))) else ((x_eb s (⟨x.fj, x.fk⟩ : Ti)).bind fun v100 => (bif v100 then (some (.inr (.inl (s, k, x, x.fj, x.fk)))) else (if ((s.map Ti.i).length + (([(⟨x.fj, x.fk⟩ : Ti)] : List Ti).map Ti.i).length) * 16 <= 70368744177664 then (some (.inl (s ++ ([(⟨x.fj, x.fk⟩ : Ti)] : List Ti)))) else none))))) else none
def e_eh_L2 (v1 : Tj) (v46 : Int) (v77 : Tc) (v80 : List Ta) (s : List Ti) : Option ((List Ti × Int × Ta × Int × Int) ⊕ (List Ti)) := some ((.inr s))
def x_eh_L2 (v1 : Tj) (v46 : Int) (v77 : Tc) (v80 : List Ta) (s : List Ti) : Option ((List Ti × Int × Ta × Int × Int) ⊕ (List Ti)) := if v80.length <= 9223372036854775806 then listN (b_eh_L2 v1 v46 v77 v80) (e_eh_L2 v1 v46 v77 v80) v80 0 s else none
def L_eh_L2 (v1 : Tj) (v46 : Int) (v77 : Tc) (v80 : List Ta) (s : List Ti) : Lc2 := ⟨19, l_eh_0, 2, [0, 2, 5, 6, 7, 8, 12, 13, 17, 18], some (J_eh_L2 v1 v46 v77 v80 0 s), List Ti × Int × Ta × Int × Int, List Ti, x_eh_L2 v1 v46 v77 v80 s, q0_eh_L2 v1 v46 v77 v80, q1_eh_L2 v1 v46 v77 v80⟩
theorem I_eh_L2 {v1 : Tj} {v46 : Int} {v77 : Tc} {v80 : List Ta} {s : List Ti} : (L_eh_L2 v1 v46 v77 v80 s).ok tab := Lc2_of (list_okx (J := J_eh_L2 v1 v46 v77 v80) (o := (Sum.elim (q0_eh_L2 v1 v46 v77 v80) (q1_eh_L2 v1 v46 v77 v80))) v80 (B := fun (k : Int) (x : Ta) (s : List Ti) => (.kb (decide (k < (v80.length : Int))) true <| .guard (0 <= k /\ (k : Int) < (((v80.map Ta.i).length - 0 : Nat) : Int)) inferInstance <| .lkY Ta.i v80 (k.toNat) x <| .callF (C_dz v1.fo v46 x) fun (v98 : Bool) => .br (!v98) (.lfA (u_eh_L2 v1 v46 v77 v80 (IntKind.i64.wrap (k + 1))) (.inr (.inl (s, k, x, x.fj, x.fk)))) <| .segA Ti.i s <| .eraA Ti.i Ti.i s <| .callF (C_eb s (⟨x.fj, x.fk⟩ : Ti)) fun (v100 : Bool) => .br v100 (.lfA (u_eh_L2 v1 v46 v77 v80 (IntKind.i64.wrap (k + 1))) (.inr (.inl (s, k, x, x.fj, x.fk)))) <| .eqL [.agg [.int .i64 x.fj, .int .i64 x.fk]] (([(⟨x.fj, x.fk⟩ : Ti)] : List Ti).map Ti.i) <| .segA Ti.i s <| .segA Ti.i ([(⟨x.fj, x.fk⟩ : Ti)] : List Ti) <| .guard (((s.map Ti.i).length + (([(⟨x.fj, x.fk⟩ : Ti)] : List Ti).map Ti.i).length) * 16 <= 70368744177664) inferInstance <| .appA Ti.i s ([(⟨x.fj, x.fk⟩ : Ti)] : List Ti) <| .segA Ti.i (s ++ ([(⟨x.fj, x.fk⟩ : Ti)] : List Ti)) <| .lfA (u_eh_L2 v1 v46 v77 v80 (IntKind.i64.wrap (k + 1))) (.inl (s ++ ([(⟨x.fj, x.fk⟩ : Ti)] : List Ti))) : Tree ((List Ti) ⊕ ((List Ti × Int × Ta × Int × Int) ⊕ (List Ti))) _)) (E := fun (s : List Ti) => (.kb (decide ((v80.length : Int) < (v80.length : Int))) false <| .lfA (u_eh_L2 v1 v46 v77 v80 0) (.inr (.inr s)) : Tree ((List Ti) ⊕ ((List Ti × Int × Ta × Int × Int) ⊕ (List Ti))) _)) (fun k x s => by kernel_rfl) (fun d x t s he => ⟨ltX he, gU <| ⟨lookY_ok Ta.i he, cF F_dz fun v98 => bR (rfl) <| sA <| eO (fun _ => rfl) <| cF F_eb fun v100 => bR (rfl) <| ⟨rfl, sA <| sA <| gU <| aA <| sA <| rfl⟩⟩⟩) (ho2 (fun _ => rfl) fun _ => rfl) (fun s => by kernel_rfl) (fun s => ⟨ltE _, rfl⟩) (by kernel_rfl) (by kernel_rfl) s)
def J_eh_L1 (v1 : Tj) (k : Int) (s : List Ti) : St := ⟨sv 19 [(1, .ref (.box 0) 0 []), (3, .own 2 (s.map Ti.i)), (9, .imm 17 (v1.fp.map Tc.i)), (10, .I (v1.fp.length : Int)), (11, .I k)], [[.I v1.fan, .I v1.fr.fab, .I v1.fr.fw, .imm 7 (v1.fr.fad.map Td.i), .I v1.fo.ft, .imm 13 (v1.fo.fg.map Tb.i), .imm 17 (v1.fp.map Tc.i), .I v1.fak, .I v1.fao, .I v1.fam, .I v1.fap]]⟩
def q0_eh_L1 (v1 : Tj) : (List Ti × Int × Tc) -> Ex × St := fun p => (.ret, ⟨sv 19 [(1, .ref (.box 0) 0 []), (2, .bool false), (3, .own 2 (p.1.map Ti.i)), (4, .I p.2.1), (5, .ref (.box 1) 0 []), (9, .imm 17 (v1.fp.map Tc.i)), (10, .I (v1.fp.length : Int)), (11, .I p.2.1), (12, .bool true), (13, .bool true)], [[.I v1.fan, .I v1.fr.fab, .I v1.fr.fw, .imm 7 (v1.fr.fad.map Td.i), .I v1.fo.ft, .imm 13 (v1.fo.fg.map Tb.i), .imm 17 (v1.fp.map Tc.i), .I v1.fak, .I v1.fao, .I v1.fam, .I v1.fap], [.imm 9 (p.2.2.fu.map Ta.i), .bool p.2.2.fal, .I p.2.2.ff.fj, .I p.2.2.ff.fk, .I p.2.2.ff.fh, .I p.2.2.ff.fa.fd, .I p.2.2.ff.fa.fe, .I p.2.2.ff.fa.fN, .imm 1 (p.2.2.ff.fa.fc.map (V.int .i64)), .imm 1 (p.2.2.ff.fa.fb.map V.bool), .I p.2.2.ff.fa.fi, .I p.2.2.fas, .I p.2.2.faq, .I p.2.2.far, .I p.2.2.ft, .I p.2.2.fab, .I p.2.2.fw]]⟩)
def q1_eh_L1 (v1 : Tj) : (List Ti × Int × List Ta × Int × Int × Tc × Ta × Int × Int) -> Ex × St := fun p => (.ret, ⟨sv 19 [(1, .ref (.box 0) 0 []), (2, .bool false), (3, .own 2 (p.1.map Ti.i)), (4, .I p.2.1), (6, .ref (.box 2) 0 []), (7, .ref (.box 3) 0 []), (9, .imm 17 (v1.fp.map Tc.i)), (10, .I (v1.fp.length : Int)), (11, .I p.2.1), (14, .own 9 (p.2.2.1.map Ta.i)), (15, .I p.2.2.2.1), (16, .I p.2.2.2.2.1), (17, .bool true), (18, .bool true)], [[.I v1.fan, .I v1.fr.fab, .I v1.fr.fw, .imm 7 (v1.fr.fad.map Td.i), .I v1.fo.ft, .imm 13 (v1.fo.fg.map Tb.i), .imm 17 (v1.fp.map Tc.i), .I v1.fak, .I v1.fao, .I v1.fam, .I v1.fap], [.imm 9 (p.2.2.2.2.2.1.fu.map Ta.i), .bool p.2.2.2.2.2.1.fal, .I p.2.2.2.2.2.1.ff.fj, .I p.2.2.2.2.2.1.ff.fk, .I p.2.2.2.2.2.1.ff.fh, .I p.2.2.2.2.2.1.ff.fa.fd, .I p.2.2.2.2.2.1.ff.fa.fe, .I p.2.2.2.2.2.1.ff.fa.fN, .imm 1 (p.2.2.2.2.2.1.ff.fa.fc.map (V.int .i64)), .imm 1 (p.2.2.2.2.2.1.ff.fa.fb.map V.bool), .I p.2.2.2.2.2.1.ff.fa.fi, .I p.2.2.2.2.2.1.fas, .I p.2.2.2.2.2.1.faq, .I p.2.2.2.2.2.1.far, .I p.2.2.2.2.2.1.ft, .I p.2.2.2.2.2.1.fab, .I p.2.2.2.2.2.1.fw], [.I p.2.2.2.2.2.2.1.fj, .I p.2.2.2.2.2.2.1.fk, .I p.2.2.2.2.2.2.1.fh, .I p.2.2.2.2.2.2.1.fa.fd, .I p.2.2.2.2.2.2.1.fa.fe, .I p.2.2.2.2.2.2.1.fa.fN, .imm 1 (p.2.2.2.2.2.2.1.fa.fc.map (V.int .i64)), .imm 1 (p.2.2.2.2.2.2.1.fa.fb.map V.bool), .I p.2.2.2.2.2.2.1.fa.fi], [.I p.2.2.2.2.2.2.2.1, .I p.2.2.2.2.2.2.2.2]]⟩)
def q2_eh_L1 (v1 : Tj) : (List Ti) -> Ex × St := fun p => ((.exit 0), ⟨sv 19 [(1, .ref (.box 0) 0 []), (3, .own 2 (p.map Ti.i)), (9, .imm 17 (v1.fp.map Tc.i)), (10, .I (v1.fp.length : Int)), (11, .I (v1.fp.length : Int)), (12, .bool false)], [[.I v1.fan, .I v1.fr.fab, .I v1.fr.fw, .imm 7 (v1.fr.fad.map Td.i), .I v1.fo.ft, .imm 13 (v1.fo.fg.map Tb.i), .imm 17 (v1.fp.map Tc.i), .I v1.fak, .I v1.fao, .I v1.fam, .I v1.fap]]⟩)
def u_eh_L1 (v1 : Tj) (k : Int) := outL (J_eh_L1 v1 k) (Sum.elim (q0_eh_L1 v1) (Sum.elim (q1_eh_L1 v1) (q2_eh_L1 v1)))
def b_eh_L1 (v1 : Tj) (k : Int) (x : Tc) (s : List Ti) : Option ((List Ti) ⊕ ((List Ti × Int × Tc) ⊕ (List Ti × Int × List Ta × Int × Int × Tc × Ta × Int × Int) ⊕ (List Ti))) := (x_ee x).bind fun v78 => (bif !v78 then (some (.inr (.inl (s, k, x)))) else ((x_eg x).bind fun v80 => ((x_eh_L2 v1 k x v80 s).bind (sel2 (fun (v102 : List Ti × Int × Ta × Int × Int) => (some (.inr (.inr (.inl (v102.1, k, v80, (v80.length : Int), v102.2.1, x, v102.2.2.1, v102.2.2.2.1, v102.2.2.2.2)))))) (fun (v103 : List Ti) => (some (.inl v103)))))))
def e_eh_L1 (v1 : Tj) (s : List Ti) : Option ((List Ti × Int × Tc) ⊕ (List Ti × Int × List Ta × Int × Int × Tc × Ta × Int × Int) ⊕ (List Ti)) := some ((.inr (.inr s)))
def x_eh_L1 (v1 : Tj) (s : List Ti) : Option ((List Ti × Int × Tc) ⊕ (List Ti × Int × List Ta × Int × Int × Tc × Ta × Int × Int) ⊕ (List Ti)) := if v1.fp.length <= 9223372036854775806 then listN (b_eh_L1 v1) (e_eh_L1 v1) v1.fp 0 s else none
def L_eh_L1 (v1 : Tj) (s : List Ti) : Lc3 := ⟨19, l_eh_1, 1, [0, 2, 4, 5, 6, 7, 8, 12, 13, 14, 15, 16, 17, 18], some (J_eh_L1 v1 0 s), List Ti × Int × Tc, List Ti × Int × List Ta × Int × Int × Tc × Ta × Int × Int, List Ti, x_eh_L1 v1 s, q0_eh_L1 v1, q1_eh_L1 v1, q2_eh_L1 v1⟩
theorem I_eh_L1 {v1 : Tj} {s : List Ti} : (L_eh_L1 v1 s).ok tab := Lc3_of (list_okx (J := J_eh_L1 v1) (o := (Sum.elim (q0_eh_L1 v1) (Sum.elim (q1_eh_L1 v1) (q2_eh_L1 v1)))) v1.fp (B := fun (k : Int) (x : Tc) (s : List Ti) => (.kb (decide (k < (v1.fp.length : Int))) true <| .ob (0 <= k) <| .lkX Tc.i v1.fp (k.toNat) x <| .callF (C_ee x) fun (v78 : Bool) => .br (!v78) (.lfA (u_eh_L1 v1 (IntKind.i64.wrap (k + 1))) (.inr (.inl (s, k, x)))) <| .call (C_eg x) fun (v80 : List Ta) => .lenB Ta.i v80 <| .lp2 (L_eh_L2 v1 k x v80 s) (fun (v102 : List Ti × Int × Ta × Int × Int) => .lfA (u_eh_L1 v1 (IntKind.i64.wrap (k + 1))) (.inr (.inr (.inl (v102.1, k, v80, (v80.length : Int), v102.2.1, x, v102.2.2.1, v102.2.2.2.1, v102.2.2.2.2))))) (fun (v103 : List Ti) => .lfA (u_eh_L1 v1 (IntKind.i64.wrap (k + 1))) (.inl v103)) : Tree ((List Ti) ⊕ ((List Ti × Int × Tc) ⊕ (List Ti × Int × List Ta × Int × Int × Tc × Ta × Int × Int) ⊕ (List Ti))) _)) (E := fun (s : List Ti) => (.kb (decide ((v1.fp.length : Int) < (v1.fp.length : Int))) false <| .lfA (u_eh_L1 v1 0) (.inr (.inr (.inr s))) : Tree ((List Ti) ⊕ ((List Ti × Int × Tc) ⊕ (List Ti × Int × List Ta × Int × Int × Tc × Ta × Int × Int) ⊕ (List Ti))) _)) (fun k x s => by kernel_rfl) (fun d x t s he => ⟨ltX he, ⟨Int.natCast_nonneg _, ⟨lookX_ok Tc.i he, cF F_ee fun v78 => bR (rfl) <| cE E_eg fun v80 => lB <| lQ I_eh_L2 (fun v102 => rfl) (fun v103 => rfl)⟩⟩⟩) (ho2 (fun _ => rfl) (ho2 (fun _ => rfl) fun _ => rfl)) (fun s => by kernel_rfl) (fun s => ⟨ltE _, rfl⟩) (by kernel_rfl) (by kernel_rfl) s)
def x_eh (v1 : Tj) : Option Bool := (x_co v1.fan).bind fun v2 => (bif !v2 then (some false) else ((x_cy v1.fr).bind fun v4 => (bif !v4 then (some false) else ((x_du v1.fo).bind fun v6 => (bif !v6 then (some false) else (bif decide ((v1.fp.length : Int) ≠ 6) then (some false) else ((x_cz v1.fak).bind fun v9 => (bif !v9 then (some false) else ((x_cz v1.fao).bind fun v11 => (bif !v11 then (some false) else ((x_cz v1.fam).bind fun v13 => (bif !v13 then (some false) else ((x_cz v1.fap).bind fun v15 => (bif !v15 then (some false) else ((x_eh_L1 v1 ([])).bind (sel3 (fun (v104 : List Ti × Int × Tc) => (some false)) (fun (v105 : List Ti × Int × List Ta × Int × Int × Tc × Ta × Int × Int) => (some false)) (fun (v106 : List Ti) => ((x_dv v1.fo).bind fun v107 => (some (decide ((v106.length : Int) = v107)))))))))))))))))))))
def C_eh (v1 : Tj) : Ctr := ⟨n_eh, [.agg [.I v1.fan, .I v1.fr.fab, .I v1.fr.fw, .imm 7 (v1.fr.fad.map Td.i), .I v1.fo.ft, .imm 13 (v1.fo.fg.map Tb.i), .imm 17 (v1.fp.map Tc.i), .I v1.fak, .I v1.fao, .I v1.fam, .I v1.fap]], [], Bool, x_eh v1, rB⟩
theorem F_eh {v1 : Tj} : (C_eh v1).okF tab := fun r hr => ⟨func_okx T_eh rfl (.callF (C_co v1.fan) fun (v2 : Bool) => .br (!v2) (.lfA rB false) <| .callF (C_cy v1.fr) fun (v4 : Bool) => .br (!v4) (.lfA rB false) <| .callF (C_du v1.fo) fun (v6 : Bool) => .br (!v6) (.lfA rB false) <| .lenA Tc.i v1.fp <| .br (decide ((v1.fp.length : Int) ≠ 6)) (.lfA rB false) <| .callF (C_cz v1.fak) fun (v9 : Bool) => .br (!v9) (.lfA rB false) <| .callF (C_cz v1.fao) fun (v11 : Bool) => .br (!v11) (.lfA rB false) <| .callF (C_cz v1.fam) fun (v13 : Bool) => .br (!v13) (.lfA rB false) <| .callF (C_cz v1.fap) fun (v15 : Bool) => .br (!v15) (.lfA rB false) <| .sk <| .seg [] 0 0 [] <| .lenA Tc.i v1.fp <| .lp3 (L_eh_L1 v1 ([])) (fun (v104 : List Ti × Int × Tc) => .lfA rB false) (fun (v105 : List Ti × Int × List Ta × Int × Int × Tc × Ta × Int × Int) => .lfA rB false) (fun (v106 : List Ti) => .lenB Ti.i v106 <| .callF (C_dv v1.fo) fun (v107 : Int) => .lfA rB (decide ((v106.length : Int) = v107))) : Tree Bool _) (by kernel_rfl) (by kernel_rfl) (cF F_co fun v2 => bR (rfl) <| cF F_cy fun v4 => bR (rfl) <| cF F_du fun v6 => bR (rfl) <| lA <| bR (rfl) <| cF F_cz fun v9 => bR (rfl) <| cF F_cz fun v11 => bR (rfl) <| cF F_cz fun v13 => bR (rfl) <| cF F_cz fun v15 => bR (rfl) <| ⟨segA_ok [], lA <| lR I_eh_L1 (fun v104 => rfl) (fun v105 => rfl) (fun v106 => lB <| cF F_dv fun v107 => rfl)⟩) hr, rfl, rfl⟩
def J_ei_L1 (v1 : Tj) (k : Int) (s : Int) : St := ⟨sv 9 [(3, .I s), (5, .imm 17 (v1.fp.map Tc.i)), (6, .I (v1.fp.length : Int)), (7, .I k)], [[.I v1.fan, .I v1.fr.fab, .I v1.fr.fw, .imm 7 (v1.fr.fad.map Td.i), .I v1.fo.ft, .imm 13 (v1.fo.fg.map Tb.i), .imm 17 (v1.fp.map Tc.i), .I v1.fak, .I v1.fao, .I v1.fam, .I v1.fap]]⟩
def q0_ei_L1 (v1 : Tj) : Int -> Ex × St := fun p => ((.exit 0), ⟨sv 9 [(3, .I p), (5, .imm 17 (v1.fp.map Tc.i)), (6, .I (v1.fp.length : Int)), (7, .I (v1.fp.length : Int)), (8, .bool false)], [[.I v1.fan, .I v1.fr.fab, .I v1.fr.fw, .imm 7 (v1.fr.fad.map Td.i), .I v1.fo.ft, .imm 13 (v1.fo.fg.map Tb.i), .imm 17 (v1.fp.map Tc.i), .I v1.fak, .I v1.fao, .I v1.fam, .I v1.fap]]⟩)
def u_ei_L1 (v1 : Tj) (k : Int) := outL (J_ei_L1 v1 k) (q0_ei_L1 v1)
def b_ei_L1 (v1 : Tj) (k : Int) (x : Tc) (s : Int) : Option ((Int) ⊕ (Int)) := (x_eg x).bind fun v13 => (some (.inl (IntKind.i64.wrap (s + (v13.length : Int)))))
def e_ei_L1 (v1 : Tj) (s : Int) : Option Int := some (s)
def x_ei_L1 (v1 : Tj) (s : Int) : Option Int := if v1.fp.length <= 9223372036854775806 then listN (b_ei_L1 v1) (e_ei_L1 v1) v1.fp 0 s else none
def L_ei_L1 (v1 : Tj) (s : Int) : Lct := ⟨9, l_ei_0, 1, [0, 1, 2, 4, 8], some (J_ei_L1 v1 0 s), Int, x_ei_L1 v1 s, q0_ei_L1 v1⟩
theorem I_ei_L1 {v1 : Tj} {s : Int} : (L_ei_L1 v1 s).ok tab := Lct_of (list_okx (J := J_ei_L1 v1) (o := (q0_ei_L1 v1)) v1.fp (B := fun (k : Int) (x : Tc) (s : Int) => (.kb (decide (k < (v1.fp.length : Int))) true <| .ob (0 <= k) <| .lkX Tc.i v1.fp (k.toNat) x <| .call (C_eg x) fun (v13 : List Ta) => .lenB Ta.i v13 <| .lfA (u_ei_L1 v1 (IntKind.i64.wrap (k + 1))) (.inl (IntKind.i64.wrap (s + (v13.length : Int)))) : Tree ((Int) ⊕ (Int)) _)) (E := fun (s : Int) => (.kb (decide ((v1.fp.length : Int) < (v1.fp.length : Int))) false <| .lfA (u_ei_L1 v1 0) (.inr s) : Tree ((Int) ⊕ (Int)) _)) (fun k x s => by kernel_rfl) (fun d x t s he => ⟨ltX he, ⟨Int.natCast_nonneg _, ⟨lookX_ok Tc.i he, cE E_eg fun v13 => lB <| rfl⟩⟩⟩) (fun _ => rfl) (fun s => by kernel_rfl) (fun s => ⟨ltE _, rfl⟩) (by kernel_rfl) (by kernel_rfl) s)
def x_ei (v1 : Tj) : Option Int := (x_ei_L1 v1 0).bind fun v14 => (some v14)
def C_ei (v1 : Tj) : Ctr := ⟨n_ei, [.agg [.I v1.fan, .I v1.fr.fab, .I v1.fr.fw, .imm 7 (v1.fr.fad.map Td.i), .I v1.fo.ft, .imm 13 (v1.fo.fg.map Tb.i), .imm 17 (v1.fp.map Tc.i), .I v1.fak, .I v1.fao, .I v1.fam, .I v1.fap]], [], Int, x_ei v1, rI⟩
theorem F_ei {v1 : Tj} : (C_ei v1).okF tab := fun r hr => ⟨func_okx T_ei rfl (.lenA Tc.i v1.fp <| .lp (L_ei_L1 v1 0) fun (v14 : Int) => .lfA rI v14 : Tree Int _) (by kernel_rfl) (by kernel_rfl) (lA <| lP I_ei_L1 fun v14 => rfl) hr, rfl, rfl⟩
def x_ej (v1 : Tj) : Option Int := (x_eh v1).bind fun v2 => (bif !v2 then (some 0) else ((x_ei v1).bind fun v4 => (some v4)))
def C_ej (v1 : Tj) : Ctr := ⟨n_ej, [.agg [.I v1.fan, .I v1.fr.fab, .I v1.fr.fw, .imm 7 (v1.fr.fad.map Td.i), .I v1.fo.ft, .imm 13 (v1.fo.fg.map Tb.i), .imm 17 (v1.fp.map Tc.i), .I v1.fak, .I v1.fao, .I v1.fam, .I v1.fap]], [], Int, x_ej v1, rI⟩
theorem F_ej {v1 : Tj} : (C_ej v1).okF tab := fun r hr => ⟨func_okx T_ej rfl (.callF (C_eh v1) fun (v2 : Bool) => .br (!v2) (.lfA rI 0) <| .callF (C_ei v1) fun (v4 : Int) => .lfA rI v4 : Tree Int _) (by kernel_rfl) (by kernel_rfl) (cF F_eh fun v2 => bR (rfl) <| cF F_ei fun v4 => rfl) hr, rfl, rfl⟩
def x_ek (v1 : Td) (v2 : Td) : Option Bool := bif decide (v1.fh ≠ v2.fh) then (some false) else (bif decide (v1.fat ≠ v2.fat) then (some false) else (bif decide (v1.faf ≠ v2.faf) then (some false) else (bif decide (v1.fag ≠ v2.fag) then (some false) else (bif decide (v1.fac ≠ v2.fac) then (some false) else (bif decide (v1.fau ≠ v2.fau) then (some false) else (bif decide (v1.fah ≠ v2.fah) then (some false) else (some true)))))))
def C_ek (v1 : Td) (v2 : Td) : Ctr := ⟨n_ek, [.agg [.I v1.fh, .I v1.fat, .I v1.faf, .I v1.fag, .I v1.fac, .I v1.fau, .I v1.fah], .agg [.I v2.fh, .I v2.fat, .I v2.faf, .I v2.fag, .I v2.fac, .I v2.fau, .I v2.fah]], [], Bool, x_ek v1 v2, rB⟩
theorem F_ek {v1 : Td} {v2 : Td} : (C_ek v1 v2).okF tab := fun r hr => ⟨func_okx T_ek rfl (.br (decide (v1.fh ≠ v2.fh)) (.lfA rB false) <| .br (decide (v1.fat ≠ v2.fat)) (.lfA rB false) <| .br (decide (v1.faf ≠ v2.faf)) (.lfA rB false) <| .br (decide (v1.fag ≠ v2.fag)) (.lfA rB false) <| .br (decide (v1.fac ≠ v2.fac)) (.lfA rB false) <| .br (decide (v1.fau ≠ v2.fau)) (.lfA rB false) <| .br (decide (v1.fah ≠ v2.fah)) (.lfA rB false) <| .lfA rB true : Tree Bool _) (by kernel_rfl) (by kernel_rfl) (bR (rfl) <| bR (rfl) <| bR (rfl) <| bR (rfl) <| bR (rfl) <| bR (rfl) <| bR (rfl) <| rfl) hr, rfl, rfl⟩
def J_el_L1 (v1 : List Td) (v2 : List Td) (k : Int) (s : Unit) : St := ⟨sv 7 [(0, .imm 7 (v1.map Td.i)), (1, .imm 7 (v2.map Td.i)), (3, .I k)], []⟩
def q0_el_L1 (v1 : List Td) (v2 : List Td) : Int -> Ex × St := fun p => (.ret, ⟨sv 7 [(0, .imm 7 (v1.map Td.i)), (1, .imm 7 (v2.map Td.i)), (2, .bool false), (3, .I p), (5, .bool true), (6, .bool true)], []⟩)
def q1_el_L1 (v1 : List Td) (v2 : List Td) : Unit -> Ex × St := fun p => ((.exit 0), ⟨sv 7 [(0, .imm 7 (v1.map Td.i)), (1, .imm 7 (v2.map Td.i)), (3, .I (v1.length : Int)), (5, .bool false)], []⟩)
def u_el_L1 (v1 : List Td) (v2 : List Td) (k : Int) := outL (J_el_L1 v1 v2 k) (Sum.elim (q0_el_L1 v1 v2) (q1_el_L1 v1 v2))
def b_el_L1 (v1 : List Td) (v2 : List Td) (k : Int) (x : Td) (s : Unit) : Option ((Unit) ⊕ (Int ⊕ Unit)) := ((v2)[k.toNat]?).bind fun v20 => ((x_ek x v20).bind fun v22 => (bif !v22 then (some (.inr (.inl k))) else (some (.inl ()))))
def e_el_L1 (v1 : List Td) (v2 : List Td) (s : Unit) : Option (Int ⊕ Unit) := some ((.inr ()))
def x_el_L1 (v1 : List Td) (v2 : List Td) (s : Unit) : Option (Int ⊕ Unit) := if v1.length <= 9223372036854775806 then listN (b_el_L1 v1 v2) (e_el_L1 v1 v2) v1 0 s else none
def L_el_L1 (v1 : List Td) (v2 : List Td) (s : Unit) : Lc2 := ⟨7, l_el_0, 0, [2, 4, 5, 6], some (J_el_L1 v1 v2 0 s), Int, Unit, x_el_L1 v1 v2 s, q0_el_L1 v1 v2, q1_el_L1 v1 v2⟩
theorem I_el_L1 {v1 : List Td} {v2 : List Td} {s : Unit} : (L_el_L1 v1 v2 s).ok tab := Lc2_of (list_okx (J := J_el_L1 v1 v2) (o := (Sum.elim (q0_el_L1 v1 v2) (q1_el_L1 v1 v2))) v1 (B := fun (k : Int) (x : Td) (s : Unit) => (.lenA Td.i v1 <| .kb (decide (k < (v1.length : Int))) true <| .ob (0 <= k) <| .lkX Td.i v1 (k.toNat) x <| .ob (0 <= k) <| .lookA Td.i v2 (k.toNat) fun v20 => .callF (C_ek x v20) fun (v22 : Bool) => .br (!v22) (.lfA (u_el_L1 v1 v2 (IntKind.i64.wrap (k + 1))) (.inr (.inl k))) <| .lfA (u_el_L1 v1 v2 (IntKind.i64.wrap (k + 1))) (.inl ()) : Tree ((Unit) ⊕ (Int ⊕ Unit)) _)) (E := fun (s : Unit) => (.lenA Td.i v1 <| .kb (decide ((v1.length : Int) < (v1.length : Int))) false <| .lfA (u_el_L1 v1 v2 0) (.inr (.inr ())) : Tree ((Unit) ⊕ (Int ⊕ Unit)) _)) (fun k x s => by kernel_rfl) (fun d x t s he => lA <| ⟨ltX he, ⟨Int.natCast_nonneg _, ⟨lookX_ok Td.i he, ⟨Int.natCast_nonneg _, kA fun v20 => cF F_ek fun v22 => bR (rfl) <| rfl⟩⟩⟩⟩) (ho2 (fun _ => rfl) fun _ => rfl) (fun s => by kernel_rfl) (fun s => lA <| ⟨ltE _, rfl⟩) (by kernel_rfl) (by kernel_rfl) s)
def x_el (v1 : List Td) (v2 : List Td) : Option Bool := bif decide ((v1.length : Int) ≠ (v2.length : Int)) then (some false) else ((x_el_L1 v1 v2 ()).bind (sel2 (fun (v24 : Int) => (some false)) (fun (v25 : Unit) => (some true))))
def C_el (v1 : List Td) (v2 : List Td) : Ctr := ⟨n_el, [.imm 7 (v1.map Td.i), .imm 7 (v2.map Td.i)], [], Bool, x_el v1 v2, rB⟩
theorem F_el {v1 : List Td} {v2 : List Td} : (C_el v1 v2).okF tab := fun r hr => ⟨func_okx T_el rfl (.lenA Td.i v1 <| .lenA Td.i v2 <| .br (decide ((v1.length : Int) ≠ (v2.length : Int))) (.lfA rB false) <| .lp2 (L_el_L1 v1 v2 ()) (fun (v24 : Int) => .lfA rB false) (fun (v25 : Unit) => .lfA rB true) : Tree Bool _) (by kernel_rfl) (by kernel_rfl) (lA <| lA <| bR (rfl) <| lQ I_el_L1 (fun v24 => rfl) (fun v25 => rfl)) hr, rfl, rfl⟩
def x_em (v1 : Tl) (v2 : Tl) : Option Bool := bif decide (v1.fab ≠ v2.fab) then (some false) else (bif decide (v1.fw ≠ v2.fw) then (some false) else ((x_el v1.fad v2.fad).bind fun v5 => (bif !v5 then (some false) else (some true))))
def C_em (v1 : Tl) (v2 : Tl) : Ctr := ⟨n_em, [.agg [.I v1.fab, .I v1.fw, .imm 7 (v1.fad.map Td.i)], .agg [.I v2.fab, .I v2.fw, .imm 7 (v2.fad.map Td.i)]], [], Bool, x_em v1 v2, rB⟩
theorem F_em {v1 : Tl} {v2 : Tl} : (C_em v1 v2).okF tab := fun r hr => ⟨func_okx T_em rfl (.br (decide (v1.fab ≠ v2.fab)) (.lfA rB false) <| .br (decide (v1.fw ≠ v2.fw)) (.lfA rB false) <| .callF (C_el v1.fad v2.fad) fun (v5 : Bool) => .br (!v5) (.lfA rB false) <| .lfA rB true : Tree Bool _) (by kernel_rfl) (by kernel_rfl) (bR (rfl) <| bR (rfl) <| cF F_el fun v5 => bR (rfl) <| rfl) hr, rfl, rfl⟩
def J_en_L1 (v1 : List Int) (v2 : List Int) (k : Int) (s : Unit) : St := ⟨sv 7 [(0, .imm 1 (v1.map (V.int .i64))), (1, .imm 1 (v2.map (V.int .i64))), (3, .I k)], []⟩
def q0_en_L1 (v1 : List Int) (v2 : List Int) : Int -> Ex × St := fun p => (.ret, ⟨sv 7 [(0, .imm 1 (v1.map (V.int .i64))), (1, .imm 1 (v2.map (V.int .i64))), (2, .bool false), (3, .I p), (5, .bool true), (6, .bool true)], []⟩)
def q1_en_L1 (v1 : List Int) (v2 : List Int) : Unit -> Ex × St := fun p => ((.exit 0), ⟨sv 7 [(0, .imm 1 (v1.map (V.int .i64))), (1, .imm 1 (v2.map (V.int .i64))), (3, .I (v1.length : Int)), (5, .bool false)], []⟩)
def u_en_L1 (v1 : List Int) (v2 : List Int) (k : Int) := outL (J_en_L1 v1 v2 k) (Sum.elim (q0_en_L1 v1 v2) (q1_en_L1 v1 v2))
def b_en_L1 (v1 : List Int) (v2 : List Int) (k : Int) (x : Int) (s : Unit) : Option ((Unit) ⊕ (Int ⊕ Unit)) := ((v2)[k.toNat]?).bind fun v18 => (bif decide (x ≠ v18) then (some (.inr (.inl k))) else (some (.inl ())))
def e_en_L1 (v1 : List Int) (v2 : List Int) (s : Unit) : Option (Int ⊕ Unit) := some ((.inr ()))
def x_en_L1 (v1 : List Int) (v2 : List Int) (s : Unit) : Option (Int ⊕ Unit) := if v1.length <= 9223372036854775806 then listN (b_en_L1 v1 v2) (e_en_L1 v1 v2) v1 0 s else none
def L_en_L1 (v1 : List Int) (v2 : List Int) (s : Unit) : Lc2 := ⟨7, l_en_0, 0, [2, 4, 5, 6], some (J_en_L1 v1 v2 0 s), Int, Unit, x_en_L1 v1 v2 s, q0_en_L1 v1 v2, q1_en_L1 v1 v2⟩
theorem I_en_L1 {v1 : List Int} {v2 : List Int} {s : Unit} : (L_en_L1 v1 v2 s).ok tab := Lc2_of (list_okx (J := J_en_L1 v1 v2) (o := (Sum.elim (q0_en_L1 v1 v2) (q1_en_L1 v1 v2))) v1 (B := fun (k : Int) (x : Int) (s : Unit) => (.lenA (V.int .i64) v1 <| .kb (decide (k < (v1.length : Int))) true <| .ob (0 <= k) <| .lkX (V.int .i64) v1 (k.toNat) x <| .ob (0 <= k) <| .lookA (V.int .i64) v2 (k.toNat) fun v18 => .br (decide (x ≠ v18)) (.lfA (u_en_L1 v1 v2 (IntKind.i64.wrap (k + 1))) (.inr (.inl k))) <| .lfA (u_en_L1 v1 v2 (IntKind.i64.wrap (k + 1))) (.inl ()) : Tree ((Unit) ⊕ (Int ⊕ Unit)) _)) (E := fun (s : Unit) => (.lenA (V.int .i64) v1 <| .kb (decide ((v1.length : Int) < (v1.length : Int))) false <| .lfA (u_en_L1 v1 v2 0) (.inr (.inr ())) : Tree ((Unit) ⊕ (Int ⊕ Unit)) _)) (fun k x s => by kernel_rfl) (fun d x t s he => lA <| ⟨ltX he, ⟨Int.natCast_nonneg _, ⟨lookX_ok (V.int .i64) he, ⟨Int.natCast_nonneg _, kA fun v18 => bR (rfl) <| rfl⟩⟩⟩⟩) (ho2 (fun _ => rfl) fun _ => rfl) (fun s => by kernel_rfl) (fun s => lA <| ⟨ltE _, rfl⟩) (by kernel_rfl) (by kernel_rfl) s)
def x_en (v1 : List Int) (v2 : List Int) : Option Bool := bif decide ((v1.length : Int) ≠ (v2.length : Int)) then (some false) else ((x_en_L1 v1 v2 ()).bind (sel2 (fun (v21 : Int) => (some false)) (fun (v22 : Unit) => (some true))))
def C_en (v1 : List Int) (v2 : List Int) : Ctr := ⟨n_en, [.imm 1 (v1.map (V.int .i64)), .imm 1 (v2.map (V.int .i64))], [], Bool, x_en v1 v2, rB⟩
theorem F_en {v1 : List Int} {v2 : List Int} : (C_en v1 v2).okF tab := fun r hr => ⟨func_okx T_en rfl (.lenA (V.int .i64) v1 <| .lenA (V.int .i64) v2 <| .br (decide ((v1.length : Int) ≠ (v2.length : Int))) (.lfA rB false) <| .lp2 (L_en_L1 v1 v2 ()) (fun (v21 : Int) => .lfA rB false) (fun (v22 : Unit) => .lfA rB true) : Tree Bool _) (by kernel_rfl) (by kernel_rfl) (lA <| lA <| bR (rfl) <| lQ I_en_L1 (fun v21 => rfl) (fun v22 => rfl)) hr, rfl, rfl⟩
def J_eo_L1 (v1 : List Bool) (v2 : List Bool) (k : Int) (s : Unit) : St := ⟨sv 7 [(0, .imm 1 (v1.map V.bool)), (1, .imm 1 (v2.map V.bool)), (3, .I k)], []⟩
def q0_eo_L1 (v1 : List Bool) (v2 : List Bool) : Int -> Ex × St := fun p => (.ret, ⟨sv 7 [(0, .imm 1 (v1.map V.bool)), (1, .imm 1 (v2.map V.bool)), (2, .bool false), (3, .I p), (5, .bool true), (6, .bool true)], []⟩)
def q1_eo_L1 (v1 : List Bool) (v2 : List Bool) : Unit -> Ex × St := fun p => ((.exit 0), ⟨sv 7 [(0, .imm 1 (v1.map V.bool)), (1, .imm 1 (v2.map V.bool)), (3, .I (v1.length : Int)), (5, .bool false)], []⟩)
def u_eo_L1 (v1 : List Bool) (v2 : List Bool) (k : Int) := outL (J_eo_L1 v1 v2 k) (Sum.elim (q0_eo_L1 v1 v2) (q1_eo_L1 v1 v2))
def b_eo_L1 (v1 : List Bool) (v2 : List Bool) (k : Int) (x : Bool) (s : Unit) : Option ((Unit) ⊕ (Int ⊕ Unit)) := ((v2)[k.toNat]?).bind fun v18 => (bif true ^^ (x == v18) then (some (.inr (.inl k))) else (some (.inl ())))
def e_eo_L1 (v1 : List Bool) (v2 : List Bool) (s : Unit) : Option (Int ⊕ Unit) := some ((.inr ()))
def x_eo_L1 (v1 : List Bool) (v2 : List Bool) (s : Unit) : Option (Int ⊕ Unit) := if v1.length <= 9223372036854775806 then listN (b_eo_L1 v1 v2) (e_eo_L1 v1 v2) v1 0 s else none
def L_eo_L1 (v1 : List Bool) (v2 : List Bool) (s : Unit) : Lc2 := ⟨7, l_eo_0, 0, [2, 4, 5, 6], some (J_eo_L1 v1 v2 0 s), Int, Unit, x_eo_L1 v1 v2 s, q0_eo_L1 v1 v2, q1_eo_L1 v1 v2⟩
theorem I_eo_L1 {v1 : List Bool} {v2 : List Bool} {s : Unit} : (L_eo_L1 v1 v2 s).ok tab := Lc2_of (list_okx (J := J_eo_L1 v1 v2) (o := (Sum.elim (q0_eo_L1 v1 v2) (q1_eo_L1 v1 v2))) v1 (B := fun (k : Int) (x : Bool) (s : Unit) => (.lenA V.bool v1 <| .kb (decide (k < (v1.length : Int))) true <| .ob (0 <= k) <| .lkX V.bool v1 (k.toNat) x <| .ob (0 <= k) <| .lookA V.bool v2 (k.toNat) fun v18 => .br (true ^^ (x == v18)) (.lfA (u_eo_L1 v1 v2 (IntKind.i64.wrap (k + 1))) (.inr (.inl k))) <| .lfA (u_eo_L1 v1 v2 (IntKind.i64.wrap (k + 1))) (.inl ()) : Tree ((Unit) ⊕ (Int ⊕ Unit)) _)) (E := fun (s : Unit) => (.lenA V.bool v1 <| .kb (decide ((v1.length : Int) < (v1.length : Int))) false <| .lfA (u_eo_L1 v1 v2 0) (.inr (.inr ())) : Tree ((Unit) ⊕ (Int ⊕ Unit)) _)) (fun k x s => by kernel_rfl) (fun d x t s he => lA <| ⟨ltX he, ⟨Int.natCast_nonneg _, ⟨lookX_ok V.bool he, ⟨Int.natCast_nonneg _, kA fun v18 => bR (rfl) <| rfl⟩⟩⟩⟩) (ho2 (fun _ => rfl) fun _ => rfl) (fun s => by kernel_rfl) (fun s => lA <| ⟨ltE _, rfl⟩) (by kernel_rfl) (by kernel_rfl) s)
def x_eo (v1 : List Bool) (v2 : List Bool) : Option Bool := bif decide ((v1.length : Int) ≠ (v2.length : Int)) then (some false) else ((x_eo_L1 v1 v2 ()).bind (sel2 (fun (v21 : Int) => (some false)) (fun (v22 : Unit) => (some true))))
def C_eo (v1 : List Bool) (v2 : List Bool) : Ctr := ⟨n_eo, [.imm 1 (v1.map V.bool), .imm 1 (v2.map V.bool)], [], Bool, x_eo v1 v2, rB⟩
theorem F_eo {v1 : List Bool} {v2 : List Bool} : (C_eo v1 v2).okF tab := fun r hr => ⟨func_okx T_eo rfl (.lenA V.bool v1 <| .lenA V.bool v2 <| .br (decide ((v1.length : Int) ≠ (v2.length : Int))) (.lfA rB false) <| .lp2 (L_eo_L1 v1 v2 ()) (fun (v21 : Int) => .lfA rB false) (fun (v22 : Unit) => .lfA rB true) : Tree Bool _) (by kernel_rfl) (by kernel_rfl) (lA <| lA <| bR (rfl) <| lQ I_eo_L1 (fun v21 => rfl) (fun v22 => rfl)) hr, rfl, rfl⟩
def x_ep (v1 : Tg) (v2 : Tg) : Option Bool := bif decide (v1.fd ≠ v2.fd) then (some false) else (bif decide (v1.fe ≠ v2.fe) then (some false) else (bif decide (v1.fN ≠ v2.fN) then (some false) else ((x_en v1.fc v2.fc).bind fun v6 => (bif !v6 then (some false) else ((x_eo v1.fb v2.fb).bind fun v8 => (bif !v8 then (some false) else (bif decide (v1.fi ≠ v2.fi) then (some false) else (some true))))))))
def C_ep (v1 : Tg) (v2 : Tg) : Ctr := ⟨n_ep, [.agg [.I v1.fd, .I v1.fe, .I v1.fN, .imm 1 (v1.fc.map (V.int .i64)), .imm 1 (v1.fb.map V.bool), .I v1.fi], .agg [.I v2.fd, .I v2.fe, .I v2.fN, .imm 1 (v2.fc.map (V.int .i64)), .imm 1 (v2.fb.map V.bool), .I v2.fi]], [], Bool, x_ep v1 v2, rB⟩
theorem F_ep {v1 : Tg} {v2 : Tg} : (C_ep v1 v2).okF tab := fun r hr => ⟨func_okx T_ep rfl (.br (decide (v1.fd ≠ v2.fd)) (.lfA rB false) <| .br (decide (v1.fe ≠ v2.fe)) (.lfA rB false) <| .br (decide (v1.fN ≠ v2.fN)) (.lfA rB false) <| .callF (C_en v1.fc v2.fc) fun (v6 : Bool) => .br (!v6) (.lfA rB false) <| .callF (C_eo v1.fb v2.fb) fun (v8 : Bool) => .br (!v8) (.lfA rB false) <| .br (decide (v1.fi ≠ v2.fi)) (.lfA rB false) <| .lfA rB true : Tree Bool _) (by kernel_rfl) (by kernel_rfl) (bR (rfl) <| bR (rfl) <| bR (rfl) <| cF F_en fun v6 => bR (rfl) <| cF F_eo fun v8 => bR (rfl) <| bR (rfl) <| rfl) hr, rfl, rfl⟩
def x_eq (v1 : Tf) (v2 : Tf) : Option Bool := bif decide (v1.fac ≠ v2.fac) then (some false) else (bif decide (v1.fh ≠ v2.fh) then (some false) else ((x_ep v1.fa v2.fa).bind fun v5 => (bif !v5 then (some false) else (some true))))
def C_eq (v1 : Tf) (v2 : Tf) : Ctr := ⟨n_eq, [.agg [.I v1.fac, .I v1.fh, .I v1.fa.fd, .I v1.fa.fe, .I v1.fa.fN, .imm 1 (v1.fa.fc.map (V.int .i64)), .imm 1 (v1.fa.fb.map V.bool), .I v1.fa.fi], .agg [.I v2.fac, .I v2.fh, .I v2.fa.fd, .I v2.fa.fe, .I v2.fa.fN, .imm 1 (v2.fa.fc.map (V.int .i64)), .imm 1 (v2.fa.fb.map V.bool), .I v2.fa.fi]], [], Bool, x_eq v1 v2, rB⟩
theorem F_eq {v1 : Tf} {v2 : Tf} : (C_eq v1 v2).okF tab := fun r hr => ⟨func_okx T_eq rfl (.br (decide (v1.fac ≠ v2.fac)) (.lfA rB false) <| .br (decide (v1.fh ≠ v2.fh)) (.lfA rB false) <| .callF (C_ep v1.fa v2.fa) fun (v5 : Bool) => .br (!v5) (.lfA rB false) <| .lfA rB true : Tree Bool _) (by kernel_rfl) (by kernel_rfl) (bR (rfl) <| bR (rfl) <| cF F_ep fun v5 => bR (rfl) <| rfl) hr, rfl, rfl⟩
def J_er_L1 (v1 : List Tf) (v2 : List Tf) (k : Int) (s : Unit) : St := ⟨sv 7 [(0, .imm 8 (v1.map Tf.i)), (1, .imm 8 (v2.map Tf.i)), (3, .I k)], []⟩
def q0_er_L1 (v1 : List Tf) (v2 : List Tf) : Int -> Ex × St := fun p => (.ret, ⟨sv 7 [(0, .imm 8 (v1.map Tf.i)), (1, .imm 8 (v2.map Tf.i)), (2, .bool false), (3, .I p), (5, .bool true), (6, .bool true)], []⟩)
def q1_er_L1 (v1 : List Tf) (v2 : List Tf) : Unit -> Ex × St := fun p => ((.exit 0), ⟨sv 7 [(0, .imm 8 (v1.map Tf.i)), (1, .imm 8 (v2.map Tf.i)), (3, .I (v1.length : Int)), (5, .bool false)], []⟩)
def u_er_L1 (v1 : List Tf) (v2 : List Tf) (k : Int) := outL (J_er_L1 v1 v2 k) (Sum.elim (q0_er_L1 v1 v2) (q1_er_L1 v1 v2))
def b_er_L1 (v1 : List Tf) (v2 : List Tf) (k : Int) (x : Tf) (s : Unit) : Option ((Unit) ⊕ (Int ⊕ Unit)) := ((v2)[k.toNat]?).bind fun v20 => ((x_eq x v20).bind fun v22 => (bif !v22 then (some (.inr (.inl k))) else (some (.inl ()))))
def e_er_L1 (v1 : List Tf) (v2 : List Tf) (s : Unit) : Option (Int ⊕ Unit) := some ((.inr ()))
def x_er_L1 (v1 : List Tf) (v2 : List Tf) (s : Unit) : Option (Int ⊕ Unit) := if v1.length <= 9223372036854775806 then listN (b_er_L1 v1 v2) (e_er_L1 v1 v2) v1 0 s else none
def L_er_L1 (v1 : List Tf) (v2 : List Tf) (s : Unit) : Lc2 := ⟨7, l_er_0, 0, [2, 4, 5, 6], some (J_er_L1 v1 v2 0 s), Int, Unit, x_er_L1 v1 v2 s, q0_er_L1 v1 v2, q1_er_L1 v1 v2⟩
theorem I_er_L1 {v1 : List Tf} {v2 : List Tf} {s : Unit} : (L_er_L1 v1 v2 s).ok tab := Lc2_of (list_okx (J := J_er_L1 v1 v2) (o := (Sum.elim (q0_er_L1 v1 v2) (q1_er_L1 v1 v2))) v1 (B := fun (k : Int) (x : Tf) (s : Unit) => (.lenA Tf.i v1 <| .kb (decide (k < (v1.length : Int))) true <| .ob (0 <= k) <| .lkX Tf.i v1 (k.toNat) x <| .ob (0 <= k) <| .lookA Tf.i v2 (k.toNat) fun v20 => .callF (C_eq x v20) fun (v22 : Bool) => .br (!v22) (.lfA (u_er_L1 v1 v2 (IntKind.i64.wrap (k + 1))) (.inr (.inl k))) <| .lfA (u_er_L1 v1 v2 (IntKind.i64.wrap (k + 1))) (.inl ()) : Tree ((Unit) ⊕ (Int ⊕ Unit)) _)) (E := fun (s : Unit) => (.lenA Tf.i v1 <| .kb (decide ((v1.length : Int) < (v1.length : Int))) false <| .lfA (u_er_L1 v1 v2 0) (.inr (.inr ())) : Tree ((Unit) ⊕ (Int ⊕ Unit)) _)) (fun k x s => by kernel_rfl) (fun d x t s he => lA <| ⟨ltX he, ⟨Int.natCast_nonneg _, ⟨lookX_ok Tf.i he, ⟨Int.natCast_nonneg _, kA fun v20 => cF F_eq fun v22 => bR (rfl) <| rfl⟩⟩⟩⟩) (ho2 (fun _ => rfl) fun _ => rfl) (fun s => by kernel_rfl) (fun s => lA <| ⟨ltE _, rfl⟩) (by kernel_rfl) (by kernel_rfl) s)
def x_er (v1 : List Tf) (v2 : List Tf) : Option Bool := bif decide ((v1.length : Int) ≠ (v2.length : Int)) then (some false) else ((x_er_L1 v1 v2 ()).bind (sel2 (fun (v24 : Int) => (some false)) (fun (v25 : Unit) => (some true))))
def C_er (v1 : List Tf) (v2 : List Tf) : Ctr := ⟨n_er, [.imm 8 (v1.map Tf.i), .imm 8 (v2.map Tf.i)], [], Bool, x_er v1 v2, rB⟩
theorem F_er {v1 : List Tf} {v2 : List Tf} : (C_er v1 v2).okF tab := fun r hr => ⟨func_okx T_er rfl (.lenA Tf.i v1 <| .lenA Tf.i v2 <| .br (decide ((v1.length : Int) ≠ (v2.length : Int))) (.lfA rB false) <| .lp2 (L_er_L1 v1 v2 ()) (fun (v24 : Int) => .lfA rB false) (fun (v25 : Unit) => .lfA rB true) : Tree Bool _) (by kernel_rfl) (by kernel_rfl) (lA <| lA <| bR (rfl) <| lQ I_er_L1 (fun v24 => rfl) (fun v25 => rfl)) hr, rfl, rfl⟩
def x_es (v1 : Te) (v2 : Te) : Option Bool := bif decide (v1.fd ≠ v2.fd) then (some false) else (bif decide (v1.fae ≠ v2.fae) then (some false) else (bif decide (v1.fe ≠ v2.fe) then (some false) else (bif decide (v1.fN ≠ v2.fN) then (some false) else ((x_en v1.fc v2.fc).bind fun v7 => (bif !v7 then (some false) else ((x_eo v1.fb v2.fb).bind fun v9 => (bif !v9 then (some false) else (some true))))))))
def C_es (v1 : Te) (v2 : Te) : Ctr := ⟨n_es, [.agg [.I v1.fd, .I v1.fae, .I v1.fe, .I v1.fN, .imm 1 (v1.fc.map (V.int .i64)), .imm 1 (v1.fb.map V.bool)], .agg [.I v2.fd, .I v2.fae, .I v2.fe, .I v2.fN, .imm 1 (v2.fc.map (V.int .i64)), .imm 1 (v2.fb.map V.bool)]], [], Bool, x_es v1 v2, rB⟩
theorem F_es {v1 : Te} {v2 : Te} : (C_es v1 v2).okF tab := fun r hr => ⟨func_okx T_es rfl (.br (decide (v1.fd ≠ v2.fd)) (.lfA rB false) <| .br (decide (v1.fae ≠ v2.fae)) (.lfA rB false) <| .br (decide (v1.fe ≠ v2.fe)) (.lfA rB false) <| .br (decide (v1.fN ≠ v2.fN)) (.lfA rB false) <| .callF (C_en v1.fc v2.fc) fun (v7 : Bool) => .br (!v7) (.lfA rB false) <| .callF (C_eo v1.fb v2.fb) fun (v9 : Bool) => .br (!v9) (.lfA rB false) <| .lfA rB true : Tree Bool _) (by kernel_rfl) (by kernel_rfl) (bR (rfl) <| bR (rfl) <| bR (rfl) <| bR (rfl) <| cF F_en fun v7 => bR (rfl) <| cF F_eo fun v9 => bR (rfl) <| rfl) hr, rfl, rfl⟩
def J_et_L1 (v1 : List Te) (v2 : List Te) (k : Int) (s : Unit) : St := ⟨sv 7 [(0, .imm 6 (v1.map Te.i)), (1, .imm 6 (v2.map Te.i)), (3, .I k)], []⟩
def q0_et_L1 (v1 : List Te) (v2 : List Te) : Int -> Ex × St := fun p => (.ret, ⟨sv 7 [(0, .imm 6 (v1.map Te.i)), (1, .imm 6 (v2.map Te.i)), (2, .bool false), (3, .I p), (5, .bool true), (6, .bool true)], []⟩)
def q1_et_L1 (v1 : List Te) (v2 : List Te) : Unit -> Ex × St := fun p => ((.exit 0), ⟨sv 7 [(0, .imm 6 (v1.map Te.i)), (1, .imm 6 (v2.map Te.i)), (3, .I (v1.length : Int)), (5, .bool false)], []⟩)
def u_et_L1 (v1 : List Te) (v2 : List Te) (k : Int) := outL (J_et_L1 v1 v2 k) (Sum.elim (q0_et_L1 v1 v2) (q1_et_L1 v1 v2))
def b_et_L1 (v1 : List Te) (v2 : List Te) (k : Int) (x : Te) (s : Unit) : Option ((Unit) ⊕ (Int ⊕ Unit)) := ((v2)[k.toNat]?).bind fun v20 => ((x_es x v20).bind fun v22 => (bif !v22 then (some (.inr (.inl k))) else (some (.inl ()))))
def e_et_L1 (v1 : List Te) (v2 : List Te) (s : Unit) : Option (Int ⊕ Unit) := some ((.inr ()))
def x_et_L1 (v1 : List Te) (v2 : List Te) (s : Unit) : Option (Int ⊕ Unit) := if v1.length <= 9223372036854775806 then listN (b_et_L1 v1 v2) (e_et_L1 v1 v2) v1 0 s else none
def L_et_L1 (v1 : List Te) (v2 : List Te) (s : Unit) : Lc2 := ⟨7, l_et_0, 0, [2, 4, 5, 6], some (J_et_L1 v1 v2 0 s), Int, Unit, x_et_L1 v1 v2 s, q0_et_L1 v1 v2, q1_et_L1 v1 v2⟩
theorem I_et_L1 {v1 : List Te} {v2 : List Te} {s : Unit} : (L_et_L1 v1 v2 s).ok tab := Lc2_of (list_okx (J := J_et_L1 v1 v2) (o := (Sum.elim (q0_et_L1 v1 v2) (q1_et_L1 v1 v2))) v1 (B := fun (k : Int) (x : Te) (s : Unit) => (.lenA Te.i v1 <| .kb (decide (k < (v1.length : Int))) true <| .ob (0 <= k) <| .lkX Te.i v1 (k.toNat) x <| .ob (0 <= k) <| .lookA Te.i v2 (k.toNat) fun v20 => .callF (C_es x v20) fun (v22 : Bool) => .br (!v22) (.lfA (u_et_L1 v1 v2 (IntKind.i64.wrap (k + 1))) (.inr (.inl k))) <| .lfA (u_et_L1 v1 v2 (IntKind.i64.wrap (k + 1))) (.inl ()) : Tree ((Unit) ⊕ (Int ⊕ Unit)) _)) (E := fun (s : Unit) => (.lenA Te.i v1 <| .kb (decide ((v1.length : Int) < (v1.length : Int))) false <| .lfA (u_et_L1 v1 v2 0) (.inr (.inr ())) : Tree ((Unit) ⊕ (Int ⊕ Unit)) _)) (fun k x s => by kernel_rfl) (fun d x t s he => lA <| ⟨ltX he, ⟨Int.natCast_nonneg _, ⟨lookX_ok Te.i he, ⟨Int.natCast_nonneg _, kA fun v20 => cF F_es fun v22 => bR (rfl) <| rfl⟩⟩⟩⟩) (ho2 (fun _ => rfl) fun _ => rfl) (fun s => by kernel_rfl) (fun s => lA <| ⟨ltE _, rfl⟩) (by kernel_rfl) (by kernel_rfl) s)
def x_et (v1 : List Te) (v2 : List Te) : Option Bool := bif decide ((v1.length : Int) ≠ (v2.length : Int)) then (some false) else ((x_et_L1 v1 v2 ()).bind (sel2 (fun (v24 : Int) => (some false)) (fun (v25 : Unit) => (some true))))
def C_et (v1 : List Te) (v2 : List Te) : Ctr := ⟨n_et, [.imm 6 (v1.map Te.i), .imm 6 (v2.map Te.i)], [], Bool, x_et v1 v2, rB⟩
theorem F_et {v1 : List Te} {v2 : List Te} : (C_et v1 v2).okF tab := fun r hr => ⟨func_okx T_et rfl (.lenA Te.i v1 <| .lenA Te.i v2 <| .br (decide ((v1.length : Int) ≠ (v2.length : Int))) (.lfA rB false) <| .lp2 (L_et_L1 v1 v2 ()) (fun (v24 : Int) => .lfA rB false) (fun (v25 : Unit) => .lfA rB true) : Tree Bool _) (by kernel_rfl) (by kernel_rfl) (lA <| lA <| bR (rfl) <| lQ I_et_L1 (fun v24 => rfl) (fun v25 => rfl)) hr, rfl, rfl⟩
def x_eu (v1 : Tb) (v2 : Tb) : Option Bool := bif decide (v1.fj ≠ v2.fj) then (some false) else (bif decide (v1.fai ≠ v2.fai) then (some false) else (bif decide (v1.faj ≠ v2.faj) then (some false) else (bif decide (v1.fh ≠ v2.fh) then (some false) else ((x_ep v1.fa v2.fa).bind fun v7 => (bif !v7 then (some false) else ((x_er v1.fm v2.fm).bind fun v9 => (bif !v9 then (some false) else ((x_eo v1.fq v2.fq).bind fun v11 => (bif !v11 then (some false) else ((x_et v1.faa v2.faa).bind fun v13 => (bif !v13 then (some false) else (some true))))))))))))
def C_eu (v1 : Tb) (v2 : Tb) : Ctr := ⟨n_eu, [.agg [.I v1.fj, .I v1.fai, .I v1.faj, .I v1.fh, .I v1.fa.fd, .I v1.fa.fe, .I v1.fa.fN, .imm 1 (v1.fa.fc.map (V.int .i64)), .imm 1 (v1.fa.fb.map V.bool), .I v1.fa.fi, .imm 8 (v1.fm.map Tf.i), .imm 1 (v1.fq.map V.bool), .imm 6 (v1.faa.map Te.i)], .agg [.I v2.fj, .I v2.fai, .I v2.faj, .I v2.fh, .I v2.fa.fd, .I v2.fa.fe, .I v2.fa.fN, .imm 1 (v2.fa.fc.map (V.int .i64)), .imm 1 (v2.fa.fb.map V.bool), .I v2.fa.fi, .imm 8 (v2.fm.map Tf.i), .imm 1 (v2.fq.map V.bool), .imm 6 (v2.faa.map Te.i)]], [], Bool, x_eu v1 v2, rB⟩
theorem F_eu {v1 : Tb} {v2 : Tb} : (C_eu v1 v2).okF tab := fun r hr => ⟨func_okx T_eu rfl (.br (decide (v1.fj ≠ v2.fj)) (.lfA rB false) <| .br (decide (v1.fai ≠ v2.fai)) (.lfA rB false) <| .br (decide (v1.faj ≠ v2.faj)) (.lfA rB false) <| .br (decide (v1.fh ≠ v2.fh)) (.lfA rB false) <| .callF (C_ep v1.fa v2.fa) fun (v7 : Bool) => .br (!v7) (.lfA rB false) <| .callF (C_er v1.fm v2.fm) fun (v9 : Bool) => .br (!v9) (.lfA rB false) <| .callF (C_eo v1.fq v2.fq) fun (v11 : Bool) => .br (!v11) (.lfA rB false) <| .callF (C_et v1.faa v2.faa) fun (v13 : Bool) => .br (!v13) (.lfA rB false) <| .lfA rB true : Tree Bool _) (by kernel_rfl) (by kernel_rfl) (bR (rfl) <| bR (rfl) <| bR (rfl) <| bR (rfl) <| cF F_ep fun v7 => bR (rfl) <| cF F_er fun v9 => bR (rfl) <| cF F_eo fun v11 => bR (rfl) <| cF F_et fun v13 => bR (rfl) <| rfl) hr, rfl, rfl⟩
def J_ev_L1 (v1 : List Tb) (v2 : List Tb) (k : Int) (s : Unit) : St := ⟨sv 7 [(0, .imm 13 (v1.map Tb.i)), (1, .imm 13 (v2.map Tb.i)), (3, .I k)], []⟩
def q0_ev_L1 (v1 : List Tb) (v2 : List Tb) : Int -> Ex × St := fun p => (.ret, ⟨sv 7 [(0, .imm 13 (v1.map Tb.i)), (1, .imm 13 (v2.map Tb.i)), (2, .bool false), (3, .I p), (5, .bool true), (6, .bool true)], []⟩)
def q1_ev_L1 (v1 : List Tb) (v2 : List Tb) : Unit -> Ex × St := fun p => ((.exit 0), ⟨sv 7 [(0, .imm 13 (v1.map Tb.i)), (1, .imm 13 (v2.map Tb.i)), (3, .I (v1.length : Int)), (5, .bool false)], []⟩)
def u_ev_L1 (v1 : List Tb) (v2 : List Tb) (k : Int) := outL (J_ev_L1 v1 v2 k) (Sum.elim (q0_ev_L1 v1 v2) (q1_ev_L1 v1 v2))
def b_ev_L1 (v1 : List Tb) (v2 : List Tb) (k : Int) (x : Tb) (s : Unit) : Option ((Unit) ⊕ (Int ⊕ Unit)) := ((v2)[k.toNat]?).bind fun v20 => ((x_eu x v20).bind fun v22 => (bif !v22 then (some (.inr (.inl k))) else (some (.inl ()))))
def e_ev_L1 (v1 : List Tb) (v2 : List Tb) (s : Unit) : Option (Int ⊕ Unit) := some ((.inr ()))
def x_ev_L1 (v1 : List Tb) (v2 : List Tb) (s : Unit) : Option (Int ⊕ Unit) := if v1.length <= 9223372036854775806 then listN (b_ev_L1 v1 v2) (e_ev_L1 v1 v2) v1 0 s else none
def L_ev_L1 (v1 : List Tb) (v2 : List Tb) (s : Unit) : Lc2 := ⟨7, l_ev_0, 0, [2, 4, 5, 6], some (J_ev_L1 v1 v2 0 s), Int, Unit, x_ev_L1 v1 v2 s, q0_ev_L1 v1 v2, q1_ev_L1 v1 v2⟩
theorem I_ev_L1 {v1 : List Tb} {v2 : List Tb} {s : Unit} : (L_ev_L1 v1 v2 s).ok tab := Lc2_of (list_okx (J := J_ev_L1 v1 v2) (o := (Sum.elim (q0_ev_L1 v1 v2) (q1_ev_L1 v1 v2))) v1 (B := fun (k : Int) (x : Tb) (s : Unit) => (.lenA Tb.i v1 <| .kb (decide (k < (v1.length : Int))) true <| .ob (0 <= k) <| .lkX Tb.i v1 (k.toNat) x <| .ob (0 <= k) <| .lookA Tb.i v2 (k.toNat) fun v20 => .callF (C_eu x v20) fun (v22 : Bool) => .br (!v22) (.lfA (u_ev_L1 v1 v2 (IntKind.i64.wrap (k + 1))) (.inr (.inl k))) <| .lfA (u_ev_L1 v1 v2 (IntKind.i64.wrap (k + 1))) (.inl ()) : Tree ((Unit) ⊕ (Int ⊕ Unit)) _)) (E := fun (s : Unit) => (.lenA Tb.i v1 <| .kb (decide ((v1.length : Int) < (v1.length : Int))) false <| .lfA (u_ev_L1 v1 v2 0) (.inr (.inr ())) : Tree ((Unit) ⊕ (Int ⊕ Unit)) _)) (fun k x s => by kernel_rfl) (fun d x t s he => lA <| ⟨ltX he, ⟨Int.natCast_nonneg _, ⟨lookX_ok Tb.i he, ⟨Int.natCast_nonneg _, kA fun v20 => cF F_eu fun v22 => bR (rfl) <| rfl⟩⟩⟩⟩) (ho2 (fun _ => rfl) fun _ => rfl) (fun s => by kernel_rfl) (fun s => lA <| ⟨ltE _, rfl⟩) (by kernel_rfl) (by kernel_rfl) s)
def x_ev (v1 : List Tb) (v2 : List Tb) : Option Bool := bif decide ((v1.length : Int) ≠ (v2.length : Int)) then (some false) else ((x_ev_L1 v1 v2 ()).bind (sel2 (fun (v24 : Int) => (some false)) (fun (v25 : Unit) => (some true))))
def C_ev (v1 : List Tb) (v2 : List Tb) : Ctr := ⟨n_ev, [.imm 13 (v1.map Tb.i), .imm 13 (v2.map Tb.i)], [], Bool, x_ev v1 v2, rB⟩
theorem F_ev {v1 : List Tb} {v2 : List Tb} : (C_ev v1 v2).okF tab := fun r hr => ⟨func_okx T_ev rfl (.lenA Tb.i v1 <| .lenA Tb.i v2 <| .br (decide ((v1.length : Int) ≠ (v2.length : Int))) (.lfA rB false) <| .lp2 (L_ev_L1 v1 v2 ()) (fun (v24 : Int) => .lfA rB false) (fun (v25 : Unit) => .lfA rB true) : Tree Bool _) (by kernel_rfl) (by kernel_rfl) (lA <| lA <| bR (rfl) <| lQ I_ev_L1 (fun v24 => rfl) (fun v25 => rfl)) hr, rfl, rfl⟩
def x_ew (v1 : Tk) (v2 : Tk) : Option Bool := bif decide (v1.ft ≠ v2.ft) then (some false) else ((x_ev v1.fg v2.fg).bind fun v4 => (bif !v4 then (some false) else (some true)))
def C_ew (v1 : Tk) (v2 : Tk) : Ctr := ⟨n_ew, [.agg [.I v1.ft, .imm 13 (v1.fg.map Tb.i)], .agg [.I v2.ft, .imm 13 (v2.fg.map Tb.i)]], [], Bool, x_ew v1 v2, rB⟩
theorem F_ew {v1 : Tk} {v2 : Tk} : (C_ew v1 v2).okF tab := fun r hr => ⟨func_okx T_ew rfl (.br (decide (v1.ft ≠ v2.ft)) (.lfA rB false) <| .callF (C_ev v1.fg v2.fg) fun (v4 : Bool) => .br (!v4) (.lfA rB false) <| .lfA rB true : Tree Bool _) (by kernel_rfl) (by kernel_rfl) (bR (rfl) <| cF F_ev fun v4 => bR (rfl) <| rfl) hr, rfl, rfl⟩
def x_ex (v1 : Ta) (v2 : Ta) : Option Bool := bif decide (v1.fj ≠ v2.fj) then (some false) else (bif decide (v1.fk ≠ v2.fk) then (some false) else (bif decide (v1.fh ≠ v2.fh) then (some false) else ((x_ep v1.fa v2.fa).bind fun v6 => (bif !v6 then (some false) else (some true)))))
def C_ex (v1 : Ta) (v2 : Ta) : Ctr := ⟨n_ex, [.agg [.I v1.fj, .I v1.fk, .I v1.fh, .I v1.fa.fd, .I v1.fa.fe, .I v1.fa.fN, .imm 1 (v1.fa.fc.map (V.int .i64)), .imm 1 (v1.fa.fb.map V.bool), .I v1.fa.fi], .agg [.I v2.fj, .I v2.fk, .I v2.fh, .I v2.fa.fd, .I v2.fa.fe, .I v2.fa.fN, .imm 1 (v2.fa.fc.map (V.int .i64)), .imm 1 (v2.fa.fb.map V.bool), .I v2.fa.fi]], [], Bool, x_ex v1 v2, rB⟩
theorem F_ex {v1 : Ta} {v2 : Ta} : (C_ex v1 v2).okF tab := fun r hr => ⟨func_okx T_ex rfl (.br (decide (v1.fj ≠ v2.fj)) (.lfA rB false) <| .br (decide (v1.fk ≠ v2.fk)) (.lfA rB false) <| .br (decide (v1.fh ≠ v2.fh)) (.lfA rB false) <| .callF (C_ep v1.fa v2.fa) fun (v6 : Bool) => .br (!v6) (.lfA rB false) <| .lfA rB true : Tree Bool _) (by kernel_rfl) (by kernel_rfl) (bR (rfl) <| bR (rfl) <| bR (rfl) <| cF F_ep fun v6 => bR (rfl) <| rfl) hr, rfl, rfl⟩
def J_ey_L1 (v1 : List Ta) (v2 : List Ta) (k : Int) (s : Unit) : St := ⟨sv 7 [(0, .imm 9 (v1.map Ta.i)), (1, .imm 9 (v2.map Ta.i)), (3, .I k)], []⟩
def q0_ey_L1 (v1 : List Ta) (v2 : List Ta) : Int -> Ex × St := fun p => (.ret, ⟨sv 7 [(0, .imm 9 (v1.map Ta.i)), (1, .imm 9 (v2.map Ta.i)), (2, .bool false), (3, .I p), (5, .bool true), (6, .bool true)], []⟩)
def q1_ey_L1 (v1 : List Ta) (v2 : List Ta) : Unit -> Ex × St := fun p => ((.exit 0), ⟨sv 7 [(0, .imm 9 (v1.map Ta.i)), (1, .imm 9 (v2.map Ta.i)), (3, .I (v1.length : Int)), (5, .bool false)], []⟩)
def u_ey_L1 (v1 : List Ta) (v2 : List Ta) (k : Int) := outL (J_ey_L1 v1 v2 k) (Sum.elim (q0_ey_L1 v1 v2) (q1_ey_L1 v1 v2))
def b_ey_L1 (v1 : List Ta) (v2 : List Ta) (k : Int) (x : Ta) (s : Unit) : Option ((Unit) ⊕ (Int ⊕ Unit)) := ((v2)[k.toNat]?).bind fun v20 => ((x_ex x v20).bind fun v22 => (bif !v22 then (some (.inr (.inl k))) else (some (.inl ()))))
def e_ey_L1 (v1 : List Ta) (v2 : List Ta) (s : Unit) : Option (Int ⊕ Unit) := some ((.inr ()))
def x_ey_L1 (v1 : List Ta) (v2 : List Ta) (s : Unit) : Option (Int ⊕ Unit) := if v1.length <= 9223372036854775806 then listN (b_ey_L1 v1 v2) (e_ey_L1 v1 v2) v1 0 s else none
def L_ey_L1 (v1 : List Ta) (v2 : List Ta) (s : Unit) : Lc2 := ⟨7, l_ey_0, 0, [2, 4, 5, 6], some (J_ey_L1 v1 v2 0 s), Int, Unit, x_ey_L1 v1 v2 s, q0_ey_L1 v1 v2, q1_ey_L1 v1 v2⟩
theorem I_ey_L1 {v1 : List Ta} {v2 : List Ta} {s : Unit} : (L_ey_L1 v1 v2 s).ok tab := Lc2_of (list_okx (J := J_ey_L1 v1 v2) (o := (Sum.elim (q0_ey_L1 v1 v2) (q1_ey_L1 v1 v2))) v1 (B := fun (k : Int) (x : Ta) (s : Unit) => (.lenA Ta.i v1 <| .kb (decide (k < (v1.length : Int))) true <| .ob (0 <= k) <| .lkX Ta.i v1 (k.toNat) x <| .ob (0 <= k) <| .lookA Ta.i v2 (k.toNat) fun v20 => .callF (C_ex x v20) fun (v22 : Bool) => .br (!v22) (.lfA (u_ey_L1 v1 v2 (IntKind.i64.wrap (k + 1))) (.inr (.inl k))) <| .lfA (u_ey_L1 v1 v2 (IntKind.i64.wrap (k + 1))) (.inl ()) : Tree ((Unit) ⊕ (Int ⊕ Unit)) _)) (E := fun (s : Unit) => (.lenA Ta.i v1 <| .kb (decide ((v1.length : Int) < (v1.length : Int))) false <| .lfA (u_ey_L1 v1 v2 0) (.inr (.inr ())) : Tree ((Unit) ⊕ (Int ⊕ Unit)) _)) (fun k x s => by kernel_rfl) (fun d x t s he => lA <| ⟨ltX he, ⟨Int.natCast_nonneg _, ⟨lookX_ok Ta.i he, ⟨Int.natCast_nonneg _, kA fun v20 => cF F_ex fun v22 => bR (rfl) <| rfl⟩⟩⟩⟩) (ho2 (fun _ => rfl) fun _ => rfl) (fun s => by kernel_rfl) (fun s => lA <| ⟨ltE _, rfl⟩) (by kernel_rfl) (by kernel_rfl) s)
def x_ey (v1 : List Ta) (v2 : List Ta) : Option Bool := bif decide ((v1.length : Int) ≠ (v2.length : Int)) then (some false) else ((x_ey_L1 v1 v2 ()).bind (sel2 (fun (v24 : Int) => (some false)) (fun (v25 : Unit) => (some true))))
def C_ey (v1 : List Ta) (v2 : List Ta) : Ctr := ⟨n_ey, [.imm 9 (v1.map Ta.i), .imm 9 (v2.map Ta.i)], [], Bool, x_ey v1 v2, rB⟩
theorem F_ey {v1 : List Ta} {v2 : List Ta} : (C_ey v1 v2).okF tab := fun r hr => ⟨func_okx T_ey rfl (.lenA Ta.i v1 <| .lenA Ta.i v2 <| .br (decide ((v1.length : Int) ≠ (v2.length : Int))) (.lfA rB false) <| .lp2 (L_ey_L1 v1 v2 ()) (fun (v24 : Int) => .lfA rB false) (fun (v25 : Unit) => .lfA rB true) : Tree Bool _) (by kernel_rfl) (by kernel_rfl) (lA <| lA <| bR (rfl) <| lQ I_ey_L1 (fun v24 => rfl) (fun v25 => rfl)) hr, rfl, rfl⟩
def x_ez (v1 : Tc) (v2 : Tc) : Option Bool := (x_ey v1.fu v2.fu).bind fun v3 => (bif !v3 then (some false) else (bif true ^^ (v1.fal == v2.fal) then (some false) else ((x_ex v1.ff v2.ff).bind fun v6 => (bif !v6 then (some false) else (bif decide (v1.fas ≠ v2.fas) then (some false) else (bif decide (v1.faq ≠ v2.faq) then (some false) else (bif decide (v1.far ≠ v2.far) then (some false) else (bif decide (v1.ft ≠ v2.ft) then (some false) else (bif decide (v1.fab ≠ v2.fab) then (some false) else (bif decide (v1.fw ≠ v2.fw) then (some false) else (some true)))))))))))
def C_ez (v1 : Tc) (v2 : Tc) : Ctr := ⟨n_ez, [.agg [.imm 9 (v1.fu.map Ta.i), .bool v1.fal, .I v1.ff.fj, .I v1.ff.fk, .I v1.ff.fh, .I v1.ff.fa.fd, .I v1.ff.fa.fe, .I v1.ff.fa.fN, .imm 1 (v1.ff.fa.fc.map (V.int .i64)), .imm 1 (v1.ff.fa.fb.map V.bool), .I v1.ff.fa.fi, .I v1.fas, .I v1.faq, .I v1.far, .I v1.ft, .I v1.fab, .I v1.fw], .agg [.imm 9 (v2.fu.map Ta.i), .bool v2.fal, .I v2.ff.fj, .I v2.ff.fk, .I v2.ff.fh, .I v2.ff.fa.fd, .I v2.ff.fa.fe, .I v2.ff.fa.fN, .imm 1 (v2.ff.fa.fc.map (V.int .i64)), .imm 1 (v2.ff.fa.fb.map V.bool), .I v2.ff.fa.fi, .I v2.fas, .I v2.faq, .I v2.far, .I v2.ft, .I v2.fab, .I v2.fw]], [], Bool, x_ez v1 v2, rB⟩
theorem F_ez {v1 : Tc} {v2 : Tc} : (C_ez v1 v2).okF tab := fun r hr => ⟨func_okx T_ez rfl (.callF (C_ey v1.fu v2.fu) fun (v3 : Bool) => .br (!v3) (.lfA rB false) <| .br (true ^^ (v1.fal == v2.fal)) (.lfA rB false) <| .callF (C_ex v1.ff v2.ff) fun (v6 : Bool) => .br (!v6) (.lfA rB false) <| .br (decide (v1.fas ≠ v2.fas)) (.lfA rB false) <| .br (decide (v1.faq ≠ v2.faq)) (.lfA rB false) <| .br (decide (v1.far ≠ v2.far)) (.lfA rB false) <| .br (decide (v1.ft ≠ v2.ft)) (.lfA rB false) <| .br (decide (v1.fab ≠ v2.fab)) (.lfA rB false) <| .br (decide (v1.fw ≠ v2.fw)) (.lfA rB false) <| .lfA rB true : Tree Bool _) (by kernel_rfl) (by kernel_rfl) (cF F_ey fun v3 => bR (rfl) <| bR (rfl) <| cF F_ex fun v6 => bR (rfl) <| bR (rfl) <| bR (rfl) <| bR (rfl) <| bR (rfl) <| bR (rfl) <| bR (rfl) <| rfl) hr, rfl, rfl⟩
def J_fa_L1 (v1 : List Tc) (v2 : List Tc) (k : Int) (s : Unit) : St := ⟨sv 7 [(0, .imm 17 (v1.map Tc.i)), (1, .imm 17 (v2.map Tc.i)), (3, .I k)], []⟩
def q0_fa_L1 (v1 : List Tc) (v2 : List Tc) : Int -> Ex × St := fun p => (.ret, ⟨sv 7 [(0, .imm 17 (v1.map Tc.i)), (1, .imm 17 (v2.map Tc.i)), (2, .bool false), (3, .I p), (5, .bool true), (6, .bool true)], []⟩)
def q1_fa_L1 (v1 : List Tc) (v2 : List Tc) : Unit -> Ex × St := fun p => ((.exit 0), ⟨sv 7 [(0, .imm 17 (v1.map Tc.i)), (1, .imm 17 (v2.map Tc.i)), (3, .I (v1.length : Int)), (5, .bool false)], []⟩)
def u_fa_L1 (v1 : List Tc) (v2 : List Tc) (k : Int) := outL (J_fa_L1 v1 v2 k) (Sum.elim (q0_fa_L1 v1 v2) (q1_fa_L1 v1 v2))
def b_fa_L1 (v1 : List Tc) (v2 : List Tc) (k : Int) (x : Tc) (s : Unit) : Option ((Unit) ⊕ (Int ⊕ Unit)) := ((v2)[k.toNat]?).bind fun v20 => ((x_ez x v20).bind fun v22 => (bif !v22 then (some (.inr (.inl k))) else (some (.inl ()))))
def e_fa_L1 (v1 : List Tc) (v2 : List Tc) (s : Unit) : Option (Int ⊕ Unit) := some ((.inr ()))
def x_fa_L1 (v1 : List Tc) (v2 : List Tc) (s : Unit) : Option (Int ⊕ Unit) := if v1.length <= 9223372036854775806 then listN (b_fa_L1 v1 v2) (e_fa_L1 v1 v2) v1 0 s else none
def L_fa_L1 (v1 : List Tc) (v2 : List Tc) (s : Unit) : Lc2 := ⟨7, l_fa_0, 0, [2, 4, 5, 6], some (J_fa_L1 v1 v2 0 s), Int, Unit, x_fa_L1 v1 v2 s, q0_fa_L1 v1 v2, q1_fa_L1 v1 v2⟩
theorem I_fa_L1 {v1 : List Tc} {v2 : List Tc} {s : Unit} : (L_fa_L1 v1 v2 s).ok tab := Lc2_of (list_okx (J := J_fa_L1 v1 v2) (o := (Sum.elim (q0_fa_L1 v1 v2) (q1_fa_L1 v1 v2))) v1 (B := fun (k : Int) (x : Tc) (s : Unit) => (.lenA Tc.i v1 <| .kb (decide (k < (v1.length : Int))) true <| .ob (0 <= k) <| .lkX Tc.i v1 (k.toNat) x <| .ob (0 <= k) <| .lookA Tc.i v2 (k.toNat) fun v20 => .callF (C_ez x v20) fun (v22 : Bool) => .br (!v22) (.lfA (u_fa_L1 v1 v2 (IntKind.i64.wrap (k + 1))) (.inr (.inl k))) <| .lfA (u_fa_L1 v1 v2 (IntKind.i64.wrap (k + 1))) (.inl ()) : Tree ((Unit) ⊕ (Int ⊕ Unit)) _)) (E := fun (s : Unit) => (.lenA Tc.i v1 <| .kb (decide ((v1.length : Int) < (v1.length : Int))) false <| .lfA (u_fa_L1 v1 v2 0) (.inr (.inr ())) : Tree ((Unit) ⊕ (Int ⊕ Unit)) _)) (fun k x s => by kernel_rfl) (fun d x t s he => lA <| ⟨ltX he, ⟨Int.natCast_nonneg _, ⟨lookX_ok Tc.i he, ⟨Int.natCast_nonneg _, kA fun v20 => cF F_ez fun v22 => bR (rfl) <| rfl⟩⟩⟩⟩) (ho2 (fun _ => rfl) fun _ => rfl) (fun s => by kernel_rfl) (fun s => lA <| ⟨ltE _, rfl⟩) (by kernel_rfl) (by kernel_rfl) s)
def x_fa (v1 : List Tc) (v2 : List Tc) : Option Bool := bif decide ((v1.length : Int) ≠ (v2.length : Int)) then (some false) else ((x_fa_L1 v1 v2 ()).bind (sel2 (fun (v24 : Int) => (some false)) (fun (v25 : Unit) => (some true))))
def C_fa (v1 : List Tc) (v2 : List Tc) : Ctr := ⟨n_fa, [.imm 17 (v1.map Tc.i), .imm 17 (v2.map Tc.i)], [], Bool, x_fa v1 v2, rB⟩
theorem F_fa {v1 : List Tc} {v2 : List Tc} : (C_fa v1 v2).okF tab := fun r hr => ⟨func_okx T_fa rfl (.lenA Tc.i v1 <| .lenA Tc.i v2 <| .br (decide ((v1.length : Int) ≠ (v2.length : Int))) (.lfA rB false) <| .lp2 (L_fa_L1 v1 v2 ()) (fun (v24 : Int) => .lfA rB false) (fun (v25 : Unit) => .lfA rB true) : Tree Bool _) (by kernel_rfl) (by kernel_rfl) (lA <| lA <| bR (rfl) <| lQ I_fa_L1 (fun v24 => rfl) (fun v25 => rfl)) hr, rfl, rfl⟩
def x_fb (v1 : Tj) (v2 : Tj) : Option Bool := bif decide (v1.fan ≠ v2.fan) then (some false) else ((x_em v1.fr v2.fr).bind fun v4 => (bif !v4 then (some false) else ((x_ew v1.fo v2.fo).bind fun v6 => (bif !v6 then (some false) else ((x_fa v1.fp v2.fp).bind fun v8 => (bif !v8 then (some false) else (bif decide (v1.fak ≠ v2.fak) then (some false) else (bif decide (v1.fao ≠ v2.fao) then (some false) else (bif decide (v1.fam ≠ v2.fam) then (some false) else (bif decide (v1.fap ≠ v2.fap) then (some false) else (some true)))))))))))
def C_fb (v1 : Tj) (v2 : Tj) : Ctr := ⟨n_fb, [.agg [.I v1.fan, .I v1.fr.fab, .I v1.fr.fw, .imm 7 (v1.fr.fad.map Td.i), .I v1.fo.ft, .imm 13 (v1.fo.fg.map Tb.i), .imm 17 (v1.fp.map Tc.i), .I v1.fak, .I v1.fao, .I v1.fam, .I v1.fap], .agg [.I v2.fan, .I v2.fr.fab, .I v2.fr.fw, .imm 7 (v2.fr.fad.map Td.i), .I v2.fo.ft, .imm 13 (v2.fo.fg.map Tb.i), .imm 17 (v2.fp.map Tc.i), .I v2.fak, .I v2.fao, .I v2.fam, .I v2.fap]], [], Bool, x_fb v1 v2, rB⟩
theorem F_fb {v1 : Tj} {v2 : Tj} : (C_fb v1 v2).okF tab := fun r hr => ⟨func_okx T_fb rfl (.br (decide (v1.fan ≠ v2.fan)) (.lfA rB false) <| .callF (C_em v1.fr v2.fr) fun (v4 : Bool) => .br (!v4) (.lfA rB false) <| .callF (C_ew v1.fo v2.fo) fun (v6 : Bool) => .br (!v6) (.lfA rB false) <| .callF (C_fa v1.fp v2.fp) fun (v8 : Bool) => .br (!v8) (.lfA rB false) <| .br (decide (v1.fak ≠ v2.fak)) (.lfA rB false) <| .br (decide (v1.fao ≠ v2.fao)) (.lfA rB false) <| .br (decide (v1.fam ≠ v2.fam)) (.lfA rB false) <| .br (decide (v1.fap ≠ v2.fap)) (.lfA rB false) <| .lfA rB true : Tree Bool _) (by kernel_rfl) (by kernel_rfl) (bR (rfl) <| cF F_em fun v4 => bR (rfl) <| cF F_ew fun v6 => bR (rfl) <| cF F_fa fun v8 => bR (rfl) <| bR (rfl) <| bR (rfl) <| bR (rfl) <| bR (rfl) <| rfl) hr, rfl, rfl⟩
def x_fc (v1 : Tj) : Option Bool := (x_aq v1 1048576).bind fun v2 => (bif decide (v2 < 0) then (some true) else ((x_bi v1).bind fun v4 => ((x_cm v4).bind fun v5 => ((x_bi v1).bind fun v6 => ((x_ej v6).bind fun v7 => (bif decide (v7 ≠ v5) then (some false) else ((x_bi v1).bind fun v9 => ((x_fb v6 v9).bind fun v10 => (bif !v10 then (some false) else (some true))))))))))
def C_fc (v1 : Tj) : Ctr := ⟨n_fc, [.agg [.I v1.fan, .I v1.fr.fab, .I v1.fr.fw, .imm 7 (v1.fr.fad.map Td.i), .I v1.fo.ft, .imm 13 (v1.fo.fg.map Tb.i), .imm 17 (v1.fp.map Tc.i), .I v1.fak, .I v1.fao, .I v1.fam, .I v1.fap]], [], Bool, x_fc v1, rB⟩
theorem F_fc {v1 : Tj} : (C_fc v1).okF tab := fun r hr => ⟨func_okx T_fc rfl (.callF (C_aq v1 1048576) fun (v2 : Int) => .br (decide (v2 < 0)) (.lfA rB true) <| .callF (C_bi v1) fun (v4 : Tj) => .segA Td.i v4.fr.fad <| .eraA Td.i Td.i v4.fr.fad <| .segA Tb.o v4.fo.fg <| .eraA Tb.o Tb.i v4.fo.fg <| .segA Tc.o v4.fp <| .eraA Tc.o Tc.i v4.fp <| .callF (C_cm v4) fun (v5 : Int) => .callF (C_bi v1) fun (v6 : Tj) => .segA Td.i v6.fr.fad <| .segA Tb.o v6.fo.fg <| .segA Tc.o v6.fp <| .segA Td.i v6.fr.fad <| .eraA Td.i Td.i v6.fr.fad <| .segA Tb.o v6.fo.fg <| .eraA Tb.o Tb.i v6.fo.fg <| .segA Tc.o v6.fp <| .eraA Tc.o Tc.i v6.fp <| .callF (C_ej v6) fun (v7 : Int) => .br (decide (v7 ≠ v5)) (.lfA rB false) <| .callF (C_bi v1) fun (v9 : Tj) => .segA Td.i v6.fr.fad <| .eraA Td.i Td.i v6.fr.fad <| .segA Tb.o v6.fo.fg <| .eraA Tb.o Tb.i v6.fo.fg <| .segA Tc.o v6.fp <| .eraA Tc.o Tc.i v6.fp <| .segA Td.i v9.fr.fad <| .eraA Td.i Td.i v9.fr.fad <| .segA Tb.o v9.fo.fg <| .eraA Tb.o Tb.i v9.fo.fg <| .segA Tc.o v9.fp <| .eraA Tc.o Tc.i v9.fp <| .callF (C_fb v6 v9) fun (v10 : Bool) => .br (!v10) (.lfA rB false) <| .lfA rB true : Tree Bool _) (by kernel_rfl) (by kernel_rfl) (cF F_aq fun v2 => bR (rfl) <| cF F_bi fun v4 => sA <| eO (fun _ => rfl) <| sA <| eO Tb.o_i <| sA <| eO Tc.o_i <| cF F_cm fun v5 => cF F_bi fun v6 => sA <| sA <| sA <| sA <| eO (fun _ => rfl) <| sA <| eO Tb.o_i <| sA <| eO Tc.o_i <| cF F_ej fun v7 => bR (rfl) <| cF F_bi fun v9 => sA <| eO (fun _ => rfl) <| sA <| eO Tb.o_i <| sA <| eO Tc.o_i <| sA <| eO (fun _ => rfl) <| sA <| eO Tb.o_i <| sA <| eO Tc.o_i <| cF F_fb fun v10 => bR (rfl) <| rfl) hr, rfl, rfl⟩
end Go.Pm
namespace Go.Pm
set_option maxRecDepth 100000
set_option maxHeartbeats 400000
theorem hasAll_cons {p : PT} {ps : List PT} {vs : List V} (h : PT.hasAll (p :: ps) vs) : ∃ v vs', vs = v :: vs' /\ p.has v /\ PT.hasAll ps vs' := by simpa only [PT.hasAll] using h
theorem hasAll_nil {vs : List V} (h : PT.hasAll [] vs) : vs = [] := by simpa only [PT.hasAll] using h
theorem hasAll_split : ∀ {ps qs : List PT} {vs : List V}, PT.hasAll (ps ++ qs) vs -> ∃ us ws, vs = us ++ ws /\ PT.hasAll ps us /\ PT.hasAll qs ws
 | [], qs, vs, h => ⟨[], vs, rfl, by simp only [PT.hasAll], h⟩
 | p :: ps, qs, vs, h => by
   obtain ⟨v, vs', rfl, h1, h2⟩ := hasAll_cons h
   obtain ⟨us, ws, rfl, h3, h4⟩ := hasAll_split h2
   exact ⟨v :: us, ws, rfl, by simp only [PT.hasAll]; exact ⟨v, us, rfl, h1, h3⟩, h4⟩
theorem has_i64 {v : V} (h : (PT.int .i64).has v) : ∃ n, v = .int .i64 n /\ -9223372036854775808 <= n /\ n <= 9223372036854775807 := by
 simp only [PT.has] at h
 obtain ⟨n, rfl, h1, h2⟩ := h
 exact ⟨n, rfl, by simpa [IntKind.min, IntKind.signed, IntKind.bits] using h1, by simpa [IntKind.max, IntKind.signed, IntKind.bits] using h2⟩
theorem has_bool {v : V} (h : PT.bool.has v) : ∃ b, v = .bool b := by simpa only [PT.has] using h
theorem lift_list {α : Type} {f : α -> V} {Q : α -> Prop} : ∀ {xs : List V}, (∀ x ∈ xs, ∃ a, x = f a /\ Q a) -> ∃ as : List α, xs = as.map f /\ ∀ a ∈ as, Q a
 | [], _ => ⟨[], rfl, by simp⟩
 | x :: xs, h => by
   obtain ⟨a, rfl, ha⟩ := h x (by simp)
   obtain ⟨as, rfl, has⟩ := lift_list (f := f) (Q := Q) (xs := xs) (fun y hy => h y (by simp [hy]))
   exact ⟨a :: as, rfl, by simpa using ⟨ha, has⟩⟩
theorem has_list {α : Type} {f : α -> V} {Q : α -> Prop} {ag : Bool} {es : List PT} {v : V} (h : (PT.list ag es).has v) (he : ∀ x : V, x.leaf = !ag -> PT.hasAll es x.cells1 -> ∃ a, x = f a /\ Q a) :
 ∃ as : List α, v = .imm es.length (as.map f) /\ as.length <= 9223372036854775807 /\ ∀ a ∈ as, Q a := by
 simp only [PT.has] at h
 obtain ⟨xs, rfl, hl, hx⟩ := h
 obtain ⟨as, rfl, ha⟩ := lift_list (f := f) (Q := Q) (fun x hm => he x (hx x hm).1 (hx x hm).2)
 exact ⟨as, rfl, by simpa using hl, ha⟩
theorem one_of {p : PT} {x : V} (hx : x.leaf = !false) (h : PT.hasAll [p] x.cells1) : p.has x := by
 obtain ⟨v, vs, e, h1, h2⟩ := hasAll_cons h
 cases x <;> first | (simp only [V.cells1, List.cons.injEq] at e; rw [e.1]; exact h1) | (cases hx; done)
theorem has_ints {v : V} (h : (PT.list false [.int .i64]).has v) : ∃ as : List Int, v = .imm 1 (as.map (.int .i64)) /\ as.length <= 9223372036854775807 /\ ∀ a ∈ as, -9223372036854775808 <= a /\ a <= 9223372036854775807 :=
 has_list h fun _ hx h => has_i64 (one_of hx h)
theorem has_bools {v : V} (h : (PT.list false [.bool]).has v) : ∃ as : List Bool, v = .imm 1 (as.map .bool) /\ as.length <= 9223372036854775807 /\ ∀ a ∈ as, True :=
 has_list h fun _ hx h => by obtain ⟨b, rfl⟩ := has_bool (one_of hx h); exact ⟨b, rfl, trivial⟩
def pt_Rule : List PT := .int .i64 :: .int .i64 :: .int .i64 :: .int .i64 :: .int .i64 :: .int .i64 :: .int .i64 :: []
theorem of_Rule {vs : List V} (g0 : PT.hasAll pt_Rule vs) : ∃ a : Td, a.ok /\ V.agg vs = a.i := by
 unfold pt_Rule at g0
 obtain ⟨_, _, rfl, h0, g1⟩ := hasAll_cons g0
 obtain ⟨x0, rfl, k0⟩ := has_i64 h0
 obtain ⟨_, _, rfl, h1, g2⟩ := hasAll_cons g1
 obtain ⟨x1, rfl, k1⟩ := has_i64 h1
 obtain ⟨_, _, rfl, h2, g3⟩ := hasAll_cons g2
 obtain ⟨x2, rfl, k2⟩ := has_i64 h2
 obtain ⟨_, _, rfl, h3, g4⟩ := hasAll_cons g3
 obtain ⟨x3, rfl, k3⟩ := has_i64 h3
 obtain ⟨_, _, rfl, h4, g5⟩ := hasAll_cons g4
 obtain ⟨x4, rfl, k4⟩ := has_i64 h4
 obtain ⟨_, _, rfl, h5, g6⟩ := hasAll_cons g5
 obtain ⟨x5, rfl, k5⟩ := has_i64 h5
 obtain ⟨_, _, rfl, h6, g7⟩ := hasAll_cons g6
 obtain ⟨x6, rfl, k6⟩ := has_i64 h6
 obtain rfl := hasAll_nil g7
 exact ⟨⟨x0, x1, x2, x3, x4, x5, x6⟩, ⟨k0, k1, k2, k3, k4, k5, k6⟩, rfl⟩
theorem aof_Rule {x : V} (hx : x.leaf = !true) (h : PT.hasAll pt_Rule x.cells1) : ∃ a : Td, x = a.i /\ a.ok := by
 obtain ⟨a, ha, e⟩ := of_Rule h
 cases x with
 | agg cs => exact ⟨a, e, ha⟩
 | tup vs => exfalso; have := hasAll_leaf h (V.tup vs) (by simp [V.cells1]); cases this
 | _ => cases hx
theorem lof_Rule {v : V} (h : (PT.list true pt_Rule).has v) : ∃ as : List Td, v = .imm 7 (as.map Td.i) /\ as.length <= 9223372036854775807 /\ ∀ a ∈ as, a.ok := has_list h fun _ hx h => aof_Rule hx h
def pt_Config : List PT := .int .i64 :: .int .i64 :: .list true pt_Rule :: []
theorem of_Config {vs : List V} (g0 : PT.hasAll pt_Config vs) : ∃ a : Tl, a.ok /\ V.agg vs = a.i := by
 unfold pt_Config at g0
 obtain ⟨_, _, rfl, h0, g1⟩ := hasAll_cons g0
 obtain ⟨x0, rfl, k0⟩ := has_i64 h0
 obtain ⟨_, _, rfl, h1, g2⟩ := hasAll_cons g1
 obtain ⟨x1, rfl, k1⟩ := has_i64 h1
 obtain ⟨_, _, rfl, h2, g3⟩ := hasAll_cons g2
 obtain ⟨x2, rfl, j2, k2⟩ := lof_Rule h2
 obtain rfl := hasAll_nil g3
 exact ⟨⟨x0, x1, x2⟩, ⟨k0, k1, j2, k2⟩, rfl⟩
def pt_Req : List PT := .int .i64 :: .int .i64 :: .int .i64 :: .list false [.int .i64] :: .list false [.bool] :: .int .i64 :: []
theorem of_Req {vs : List V} (g0 : PT.hasAll pt_Req vs) : ∃ a : Tg, a.ok /\ V.agg vs = a.i := by
 unfold pt_Req at g0
 obtain ⟨_, _, rfl, h0, g1⟩ := hasAll_cons g0
 obtain ⟨x0, rfl, k0⟩ := has_i64 h0
 obtain ⟨_, _, rfl, h1, g2⟩ := hasAll_cons g1
 obtain ⟨x1, rfl, k1⟩ := has_i64 h1
 obtain ⟨_, _, rfl, h2, g3⟩ := hasAll_cons g2
 obtain ⟨x2, rfl, k2⟩ := has_i64 h2
 obtain ⟨_, _, rfl, h3, g4⟩ := hasAll_cons g3
 obtain ⟨x3, rfl, j3, k3⟩ := has_ints h3
 obtain ⟨_, _, rfl, h4, g5⟩ := hasAll_cons g4
 obtain ⟨x4, rfl, j4, _⟩ := has_bools h4
 obtain ⟨_, _, rfl, h5, g6⟩ := hasAll_cons g5
 obtain ⟨x5, rfl, k5⟩ := has_i64 h5
 obtain rfl := hasAll_nil g6
 exact ⟨⟨x0, x1, x2, x3, x4, x5⟩, ⟨k0, k1, k2, j3, k3, j4, k5⟩, rfl⟩
def pt_Part : List PT := .int .i64 :: .int .i64 :: (pt_Req ++ [])
theorem of_Part {vs : List V} (g0 : PT.hasAll pt_Part vs) : ∃ a : Tf, a.ok /\ V.agg vs = a.i := by
 unfold pt_Part at g0
 obtain ⟨_, _, rfl, h0, g1⟩ := hasAll_cons g0
 obtain ⟨x0, rfl, k0⟩ := has_i64 h0
 obtain ⟨_, _, rfl, h1, g2⟩ := hasAll_cons g1
 obtain ⟨x1, rfl, k1⟩ := has_i64 h1
 obtain ⟨_, _, rfl, h2, g3⟩ := hasAll_split g2
 obtain ⟨x2, k2, e2⟩ := of_Req h2
 obtain rfl := V.agg.inj e2
 obtain rfl := hasAll_nil g3
 exact ⟨⟨x0, x1, x2⟩, ⟨k0, k1, k2⟩, rfl⟩
theorem aof_Part {x : V} (hx : x.leaf = !true) (h : PT.hasAll pt_Part x.cells1) : ∃ a : Tf, x = a.i /\ a.ok := by
 obtain ⟨a, ha, e⟩ := of_Part h
 cases x with
 | agg cs => exact ⟨a, e, ha⟩
 | tup vs => exfalso; have := hasAll_leaf h (V.tup vs) (by simp [V.cells1]); cases this
 | _ => cases hx
theorem lof_Part {v : V} (h : (PT.list true pt_Part).has v) : ∃ as : List Tf, v = .imm 8 (as.map Tf.i) /\ as.length <= 9223372036854775807 /\ ∀ a ∈ as, a.ok := has_list h fun _ hx h => aof_Part hx h
def pt_Resp : List PT := .int .i64 :: .int .i64 :: .int .i64 :: .int .i64 :: .list false [.int .i64] :: .list false [.bool] :: []
theorem of_Resp {vs : List V} (g0 : PT.hasAll pt_Resp vs) : ∃ a : Te, a.ok /\ V.agg vs = a.i := by
 unfold pt_Resp at g0
 obtain ⟨_, _, rfl, h0, g1⟩ := hasAll_cons g0
 obtain ⟨x0, rfl, k0⟩ := has_i64 h0
 obtain ⟨_, _, rfl, h1, g2⟩ := hasAll_cons g1
 obtain ⟨x1, rfl, k1⟩ := has_i64 h1
 obtain ⟨_, _, rfl, h2, g3⟩ := hasAll_cons g2
 obtain ⟨x2, rfl, k2⟩ := has_i64 h2
 obtain ⟨_, _, rfl, h3, g4⟩ := hasAll_cons g3
 obtain ⟨x3, rfl, k3⟩ := has_i64 h3
 obtain ⟨_, _, rfl, h4, g5⟩ := hasAll_cons g4
 obtain ⟨x4, rfl, j4, k4⟩ := has_ints h4
 obtain ⟨_, _, rfl, h5, g6⟩ := hasAll_cons g5
 obtain ⟨x5, rfl, j5, _⟩ := has_bools h5
 obtain rfl := hasAll_nil g6
 exact ⟨⟨x0, x1, x2, x3, x4, x5⟩, ⟨k0, k1, k2, k3, j4, k4, j5⟩, rfl⟩
theorem aof_Resp {x : V} (hx : x.leaf = !true) (h : PT.hasAll pt_Resp x.cells1) : ∃ a : Te, x = a.i /\ a.ok := by
 obtain ⟨a, ha, e⟩ := of_Resp h
 cases x with
 | agg cs => exact ⟨a, e, ha⟩
 | tup vs => exfalso; have := hasAll_leaf h (V.tup vs) (by simp [V.cells1]); cases this
 | _ => cases hx
theorem lof_Resp {v : V} (h : (PT.list true pt_Resp).has v) : ∃ as : List Te, v = .imm 6 (as.map Te.i) /\ as.length <= 9223372036854775807 /\ ∀ a ∈ as, a.ok := has_list h fun _ hx h => aof_Resp hx h
def pt_Pend : List PT := .int .i64 :: .int .i64 :: .int .i64 :: .int .i64 :: (pt_Req ++ .list true pt_Part :: .list false [.bool] :: .list true pt_Resp :: [])
theorem of_Pend {vs : List V} (g0 : PT.hasAll pt_Pend vs) : ∃ a : Tb, a.ok /\ V.agg vs = a.i := by
 unfold pt_Pend at g0
 obtain ⟨_, _, rfl, h0, g1⟩ := hasAll_cons g0
 obtain ⟨x0, rfl, k0⟩ := has_i64 h0
 obtain ⟨_, _, rfl, h1, g2⟩ := hasAll_cons g1
 obtain ⟨x1, rfl, k1⟩ := has_i64 h1
 obtain ⟨_, _, rfl, h2, g3⟩ := hasAll_cons g2
 obtain ⟨x2, rfl, k2⟩ := has_i64 h2
 obtain ⟨_, _, rfl, h3, g4⟩ := hasAll_cons g3
 obtain ⟨x3, rfl, k3⟩ := has_i64 h3
 obtain ⟨_, _, rfl, h4, g5⟩ := hasAll_split g4
 obtain ⟨x4, k4, e4⟩ := of_Req h4
 obtain rfl := V.agg.inj e4
 obtain ⟨_, _, rfl, h5, g6⟩ := hasAll_cons g5
 obtain ⟨x5, rfl, j5, k5⟩ := lof_Part h5
 obtain ⟨_, _, rfl, h6, g7⟩ := hasAll_cons g6
 obtain ⟨x6, rfl, j6, _⟩ := has_bools h6
 obtain ⟨_, _, rfl, h7, g8⟩ := hasAll_cons g7
 obtain ⟨x7, rfl, j7, k7⟩ := lof_Resp h7
 obtain rfl := hasAll_nil g8
 exact ⟨⟨x0, x1, x2, x3, x4, x5, x6, x7⟩, ⟨k0, k1, k2, k3, k4, j5, k5, j6, j7, k7⟩, rfl⟩
theorem aof_Pend {x : V} (hx : x.leaf = !true) (h : PT.hasAll pt_Pend x.cells1) : ∃ a : Tb, x = a.i /\ a.ok := by
 obtain ⟨a, ha, e⟩ := of_Pend h
 cases x with
 | agg cs => exact ⟨a, e, ha⟩
 | tup vs => exfalso; have := hasAll_leaf h (V.tup vs) (by simp [V.cells1]); cases this
 | _ => cases hx
theorem lof_Pend {v : V} (h : (PT.list true pt_Pend).has v) : ∃ as : List Tb, v = .imm 13 (as.map Tb.i) /\ as.length <= 9223372036854775807 /\ ∀ a ∈ as, a.ok := has_list h fun _ hx h => aof_Pend hx h
def pt_Table : List PT := .int .i64 :: .list true pt_Pend :: []
theorem of_Table {vs : List V} (g0 : PT.hasAll pt_Table vs) : ∃ a : Tk, a.ok /\ V.agg vs = a.i := by
 unfold pt_Table at g0
 obtain ⟨_, _, rfl, h0, g1⟩ := hasAll_cons g0
 obtain ⟨x0, rfl, k0⟩ := has_i64 h0
 obtain ⟨_, _, rfl, h1, g2⟩ := hasAll_cons g1
 obtain ⟨x1, rfl, j1, k1⟩ := lof_Pend h1
 obtain rfl := hasAll_nil g2
 exact ⟨⟨x0, x1⟩, ⟨k0, j1, k1⟩, rfl⟩
def pt_Call : List PT := .int .i64 :: .int .i64 :: .int .i64 :: (pt_Req ++ [])
theorem of_Call {vs : List V} (g0 : PT.hasAll pt_Call vs) : ∃ a : Ta, a.ok /\ V.agg vs = a.i := by
 unfold pt_Call at g0
 obtain ⟨_, _, rfl, h0, g1⟩ := hasAll_cons g0
 obtain ⟨x0, rfl, k0⟩ := has_i64 h0
 obtain ⟨_, _, rfl, h1, g2⟩ := hasAll_cons g1
 obtain ⟨x1, rfl, k1⟩ := has_i64 h1
 obtain ⟨_, _, rfl, h2, g3⟩ := hasAll_cons g2
 obtain ⟨x2, rfl, k2⟩ := has_i64 h2
 obtain ⟨_, _, rfl, h3, g4⟩ := hasAll_split g3
 obtain ⟨x3, k3, e3⟩ := of_Req h3
 obtain rfl := V.agg.inj e3
 obtain rfl := hasAll_nil g4
 exact ⟨⟨x0, x1, x2, x3⟩, ⟨k0, k1, k2, k3⟩, rfl⟩
theorem aof_Call {x : V} (hx : x.leaf = !true) (h : PT.hasAll pt_Call x.cells1) : ∃ a : Ta, x = a.i /\ a.ok := by
 obtain ⟨a, ha, e⟩ := of_Call h
 cases x with
 | agg cs => exact ⟨a, e, ha⟩
 | tup vs => exfalso; have := hasAll_leaf h (V.tup vs) (by simp [V.cells1]); cases this
 | _ => cases hx
theorem lof_Call {v : V} (h : (PT.list true pt_Call).has v) : ∃ as : List Ta, v = .imm 9 (as.map Ta.i) /\ as.length <= 9223372036854775807 /\ ∀ a ∈ as, a.ok := has_list h fun _ hx h => aof_Call hx h
def pt_Line : List PT := .list true pt_Call :: .bool :: (pt_Call ++ .int .i64 :: .int .i64 :: .int .i64 :: .int .i64 :: .int .i64 :: .int .i64 :: [])
theorem of_Line {vs : List V} (g0 : PT.hasAll pt_Line vs) : ∃ a : Tc, a.ok /\ V.agg vs = a.i := by
 unfold pt_Line at g0
 obtain ⟨_, _, rfl, h0, g1⟩ := hasAll_cons g0
 obtain ⟨x0, rfl, j0, k0⟩ := lof_Call h0
 obtain ⟨_, _, rfl, h1, g2⟩ := hasAll_cons g1
 obtain ⟨x1, rfl⟩ := has_bool h1
 obtain ⟨_, _, rfl, h2, g3⟩ := hasAll_split g2
 obtain ⟨x2, k2, e2⟩ := of_Call h2
 obtain rfl := V.agg.inj e2
 obtain ⟨_, _, rfl, h3, g4⟩ := hasAll_cons g3
 obtain ⟨x3, rfl, k3⟩ := has_i64 h3
 obtain ⟨_, _, rfl, h4, g5⟩ := hasAll_cons g4
 obtain ⟨x4, rfl, k4⟩ := has_i64 h4
 obtain ⟨_, _, rfl, h5, g6⟩ := hasAll_cons g5
 obtain ⟨x5, rfl, k5⟩ := has_i64 h5
 obtain ⟨_, _, rfl, h6, g7⟩ := hasAll_cons g6
 obtain ⟨x6, rfl, k6⟩ := has_i64 h6
 obtain ⟨_, _, rfl, h7, g8⟩ := hasAll_cons g7
 obtain ⟨x7, rfl, k7⟩ := has_i64 h7
 obtain ⟨_, _, rfl, h8, g9⟩ := hasAll_cons g8
 obtain ⟨x8, rfl, k8⟩ := has_i64 h8
 obtain rfl := hasAll_nil g9
 exact ⟨⟨x0, x1, x2, x3, x4, x5, x6, x7, x8⟩, ⟨j0, k0, k2, k3, k4, k5, k6, k7, k8⟩, rfl⟩
theorem aof_Line {x : V} (hx : x.leaf = !true) (h : PT.hasAll pt_Line x.cells1) : ∃ a : Tc, x = a.i /\ a.ok := by
 obtain ⟨a, ha, e⟩ := of_Line h
 cases x with
 | agg cs => exact ⟨a, e, ha⟩
 | tup vs => exfalso; have := hasAll_leaf h (V.tup vs) (by simp [V.cells1]); cases this
 | _ => cases hx
theorem lof_Line {v : V} (h : (PT.list true pt_Line).has v) : ∃ as : List Tc, v = .imm 17 (as.map Tc.i) /\ as.length <= 9223372036854775807 /\ ∀ a ∈ as, a.ok := has_list h fun _ hx h => aof_Line hx h
def pt_Fabric : List PT := .int .i64 :: (pt_Config ++ (pt_Table ++ .list true pt_Line :: .int .i64 :: .int .i64 :: .int .i64 :: .int .i64 :: []))
theorem of_Fabric {vs : List V} (g0 : PT.hasAll pt_Fabric vs) : ∃ a : Tj, a.ok /\ V.agg vs = a.i := by
 unfold pt_Fabric at g0
 obtain ⟨_, _, rfl, h0, g1⟩ := hasAll_cons g0
 obtain ⟨x0, rfl, k0⟩ := has_i64 h0
 obtain ⟨_, _, rfl, h1, g2⟩ := hasAll_split g1
 obtain ⟨x1, k1, e1⟩ := of_Config h1
 obtain rfl := V.agg.inj e1
 obtain ⟨_, _, rfl, h2, g3⟩ := hasAll_split g2
 obtain ⟨x2, k2, e2⟩ := of_Table h2
 obtain rfl := V.agg.inj e2
 obtain ⟨_, _, rfl, h3, g4⟩ := hasAll_cons g3
 obtain ⟨x3, rfl, j3, k3⟩ := lof_Line h3
 obtain ⟨_, _, rfl, h4, g5⟩ := hasAll_cons g4
 obtain ⟨x4, rfl, k4⟩ := has_i64 h4
 obtain ⟨_, _, rfl, h5, g6⟩ := hasAll_cons g5
 obtain ⟨x5, rfl, k5⟩ := has_i64 h5
 obtain ⟨_, _, rfl, h6, g7⟩ := hasAll_cons g6
 obtain ⟨x6, rfl, k6⟩ := has_i64 h6
 obtain ⟨_, _, rfl, h7, g8⟩ := hasAll_cons g7
 obtain ⟨x7, rfl, k7⟩ := has_i64 h7
 obtain rfl := hasAll_nil g8
 exact ⟨⟨x0, x1, x2, x3, x4, x5, x6, x7⟩, ⟨k0, k1, k2, j3, k3, k4, k5, k6, k7⟩, rfl⟩
theorem aof_Fabric {x : V} (hx : x.leaf = !true) (h : PT.hasAll pt_Fabric x.cells1) : ∃ a : Tj, x = a.i /\ a.ok := by
 obtain ⟨a, ha, e⟩ := of_Fabric h
 cases x with
 | agg cs => exact ⟨a, e, ha⟩
 | tup vs => exfalso; have := hasAll_leaf h (V.tup vs) (by simp [V.cells1]); cases this
 | _ => cases hx
end Go.Pm
namespace Go.Pm
set_option maxRecDepth 100000
set_option maxHeartbeats 400000
theorem P_szIntS (a : List Int) (h : a.length <= 9223372036854775807) : SzOk (x_ac a) (a.length) := SzOk.of (fun l => rfl) (SzOk.len h)
theorem P_toIntS (a : List Int) (h : a.length <= 1048576) : x_au a = some a := by
 have hl : a.length <= 1048576 := h
 rw [x_au, if_pos ⟨by omega, by rw [toNat_len]; omega⟩]
 unfold x_au_L1
 rw [if_pos (by omega), fillN (xs := a)]
 ·rw [e_au_L1]; rfl
 ·intro d x t s he hd
  rw [b_au_L1]
  obtain ⟨z, hz⟩ : ∃ z, s[d.length]? = some z := ⟨s[d.length], List.getElem?_eq_getElem hd⟩
  simp only [toNat_len, List.length_map, Nat.sub_zero]
  rw [if_pos ⟨by omega, by omega⟩]
  simp only [hz, Option.bind_some, List.set_set, List.length_set, hd, get_set]
 ·simp
theorem P_eqIntS (a : List Int) (h : a.length <= 1048576) : x_en a a = some true := by
 have hl : a.length <= 1048576 := h
 rw [x_en]
 unfold x_en_L1
 rw [if_pos (by omega), allN (xs := a)]
 ·simp only [ne_eq, not_true_eq_false, decide_false, cond_false, e_en_L1]; rfl
 ·intro d x t he
  rw [b_en_L1]
  simp only [toNat_len, get_mid he, Option.bind_some, ne_eq, not_true_eq_false, decide_false, cond_false, BEq.rfl, bne_self_eq_false, Bool.true_xor, Bool.not_true]
theorem P_szBoolS (a : List Bool) (h : a.length <= 9223372036854775807) : SzOk (x_ad a) (a.length) := SzOk.of (fun l => rfl) (SzOk.len h)
theorem P_toBoolS (a : List Bool) (h : a.length <= 1048576) : x_av a = some a := by
 have hl : a.length <= 1048576 := h
 rw [x_av, if_pos ⟨by omega, by rw [toNat_len]; omega⟩]
 unfold x_av_L1
 rw [if_pos (by omega), fillN (xs := a)]
 ·rw [e_av_L1]; rfl
 ·intro d x t s he hd
  rw [b_av_L1]
  obtain ⟨z, hz⟩ : ∃ z, s[d.length]? = some z := ⟨s[d.length], List.getElem?_eq_getElem hd⟩
  simp only [toNat_len, List.length_map, Nat.sub_zero]
  rw [if_pos ⟨by omega, by omega⟩]
  simp only [hz, Option.bind_some, List.set_set, List.length_set, hd, get_set]
 ·simp
theorem P_eqBoolS (a : List Bool) (h : a.length <= 1048576) : x_eo a a = some true := by
 have hl : a.length <= 1048576 := h
 rw [x_eo]
 unfold x_eo_L1
 rw [if_pos (by omega), allN (xs := a)]
 ·simp only [ne_eq, not_true_eq_false, decide_false, cond_false, e_eo_L1]; rfl
 ·intro d x t he
  rw [b_eo_L1]
  simp only [toNat_len, get_mid he, Option.bind_some, ne_eq, not_true_eq_false, decide_false, cond_false, BEq.rfl, bne_self_eq_false, Bool.true_xor, Bool.not_true]
theorem P_toRule (a : Td) (h : a.sz <= 1048576) : x_ar a = some a := by rw [x_ar]
theorem P_eqRule (a : Td) (h : a.sz <= 1048576) : x_ek a a = some true := by
 simp only [Td.sz] at h
 rw [x_ek]
 simp only [Option.bind_some, ne_eq, not_true_eq_false, decide_false, cond_false, BEq.rfl, bne_self_eq_false, Bool.true_xor, Bool.not_true]
theorem P_szRuleS (a : List Td) (h : a.length <= 9223372036854775807) : SzOk (x_aa a) (a.length) := SzOk.of (fun l => rfl) (SzOk.len h)
theorem P_toRuleS (a : List Td) (h : a.length <= 1048576) : x_as a = some a := by
 have hl : a.length <= 1048576 := h
 rw [x_as, if_pos ⟨by omega, by rw [toNat_len]; omega⟩]
 unfold x_as_L1
 rw [if_pos (by omega), fillN (xs := a)]
 ·rw [e_as_L1]; rfl
 ·intro d x t s he hd
  rw [b_as_L1]
  obtain ⟨z, hz⟩ : ∃ z, s[d.length]? = some z := ⟨s[d.length], List.getElem?_eq_getElem hd⟩
  simp only [P_toRule x (by simp [Td.sz]), Option.bind_some, toNat_len, List.length_map, Nat.sub_zero]
  rw [if_pos ⟨by omega, by omega⟩]
  simp only [hz, Option.bind_some, List.set_set, List.length_set, hd, get_set]
 ·simp
theorem P_eqRuleS (a : List Td) (h : a.length <= 1048576) : x_el a a = some true := by
 have hl : a.length <= 1048576 := h
 rw [x_el]
 unfold x_el_L1
 rw [if_pos (by omega), allN (xs := a)]
 ·simp only [ne_eq, not_true_eq_false, decide_false, cond_false, e_el_L1]; rfl
 ·intro d x t he
  rw [b_el_L1]
  simp only [toNat_len, get_mid he, Option.bind_some, P_eqRule x (by simp [Td.sz]), ne_eq, not_true_eq_false, decide_false, cond_false, BEq.rfl, bne_self_eq_false, Bool.true_xor, Bool.not_true]
theorem P_szConfig (a : Tl) (h : a.ok) : SzOk (x_ab a) (a.sz) := SzOk.of (fun l => rfl) (SzOk.one (P_szRuleS a.fad (by exact h.2.2.1)))
theorem P_toConfig (a : Tl) (h : a.sz <= 1048576) : x_at a = some a := by
 simp only [Tl.sz] at h
 rw [x_at]
 simp only [P_toRuleS a.fad (by first | omega | (simp only [Tl.sz]; omega)), Option.bind_some]
theorem P_eqConfig (a : Tl) (h : a.sz <= 1048576) : x_em a a = some true := by
 simp only [Tl.sz] at h
 rw [x_em]
 simp only [P_eqRuleS a.fad (by first | omega | (simp only [Tl.sz]; omega)), Option.bind_some, ne_eq, not_true_eq_false, decide_false, cond_false, BEq.rfl, bne_self_eq_false, Bool.true_xor, Bool.not_true]
theorem P_szReq (a : Tg) (h : a.ok) : SzOk (x_ae a) (a.sz) := SzOk.of (fun l => rfl) (SzOk.seq (P_szIntS a.fc (by exact h.2.2.2.1)) (SzOk.one (P_szBoolS a.fb (by exact h.2.2.2.2.2.1))))
theorem P_toReq (a : Tg) (h : a.sz <= 1048576) : x_aw a = some a := by
 simp only [Tg.sz] at h
 rw [x_aw]
 simp only [P_toIntS a.fc (by first | omega | (simp only [Tg.sz]; omega)), P_toBoolS a.fb (by first | omega | (simp only [Tg.sz]; omega)), Option.bind_some]
theorem P_eqReq (a : Tg) (h : a.sz <= 1048576) : x_ep a a = some true := by
 simp only [Tg.sz] at h
 rw [x_ep]
 simp only [P_eqIntS a.fc (by first | omega | (simp only [Tg.sz]; omega)), P_eqBoolS a.fb (by first | omega | (simp only [Tg.sz]; omega)), Option.bind_some, ne_eq, not_true_eq_false, decide_false, cond_false, BEq.rfl, bne_self_eq_false, Bool.true_xor, Bool.not_true]
theorem P_szPart (a : Tf) (h : a.ok) : SzOk (x_af a) (a.sz) := SzOk.of (fun l => rfl) (SzOk.one (P_szReq a.fa (by exact h.2.2)))
theorem P_toPart (a : Tf) (h : a.sz <= 1048576) : x_ax a = some a := by
 simp only [Tf.sz] at h
 rw [x_ax]
 simp only [P_toReq a.fa (by first | omega | (simp only [Tf.sz]; omega)), Option.bind_some]
theorem P_eqPart (a : Tf) (h : a.sz <= 1048576) : x_eq a a = some true := by
 simp only [Tf.sz] at h
 rw [x_eq]
 simp only [P_eqReq a.fa (by first | omega | (simp only [Tf.sz]; omega)), Option.bind_some, ne_eq, not_true_eq_false, decide_false, cond_false, BEq.rfl, bne_self_eq_false, Bool.true_xor, Bool.not_true]
theorem P_szPartS (a : List Tf) (h : a.length <= 9223372036854775807 /\ ∀ b ∈ a, b.ok) : SzOk (x_ag a) (szL Tf.sz a) := SzOk.of (fun l => rfl) (SzOk.list h.1 (fun x hx => P_szPart x (h.2 x hx)) (fun k x s => rfl) (fun s => rfl))
theorem P_toPartS (a : List Tf) (h : szL Tf.sz a <= 1048576) : x_ay a = some a := by
 have hl : a.length <= 1048576 := by have := szL_len (f := Tf.sz) (xs := a); omega
 rw [x_ay, if_pos ⟨by omega, by rw [toNat_len]; omega⟩]
 unfold x_ay_L1
 rw [if_pos (by omega), fillN (xs := a)]
 ·rw [e_ay_L1]; rfl
 ·intro d x t s he hd
  rw [b_ay_L1]
  obtain ⟨z, hz⟩ : ∃ z, s[d.length]? = some z := ⟨s[d.length], List.getElem?_eq_getElem hd⟩
  simp only [P_toPart x (by have := szL_mem (f := Tf.sz) (he ▸ (by simp : x ∈ d ++ x :: t)); omega), Option.bind_some, toNat_len, List.length_map, Nat.sub_zero]
  rw [if_pos ⟨by omega, by omega⟩]
  simp only [hz, Option.bind_some, List.set_set, List.length_set, hd, get_set]
 ·simp
theorem P_eqPartS (a : List Tf) (h : szL Tf.sz a <= 1048576) : x_er a a = some true := by
 have hl : a.length <= 1048576 := by have := szL_len (f := Tf.sz) (xs := a); omega
 rw [x_er]
 unfold x_er_L1
 rw [if_pos (by omega), allN (xs := a)]
 ·simp only [ne_eq, not_true_eq_false, decide_false, cond_false, e_er_L1]; rfl
 ·intro d x t he
  rw [b_er_L1]
  simp only [toNat_len, get_mid he, Option.bind_some, P_eqPart x (by have := szL_mem (f := Tf.sz) (he ▸ (by simp : x ∈ d ++ x :: t)); omega), ne_eq, not_true_eq_false, decide_false, cond_false, BEq.rfl, bne_self_eq_false, Bool.true_xor, Bool.not_true]
theorem P_szResp (a : Te) (h : a.ok) : SzOk (x_ah a) (a.sz) := SzOk.of (fun l => rfl) (SzOk.seq (P_szIntS a.fc (by exact h.2.2.2.2.1)) (SzOk.one (P_szBoolS a.fb (by exact h.2.2.2.2.2.2))))
theorem P_toResp (a : Te) (h : a.sz <= 1048576) : x_az a = some a := by
 simp only [Te.sz] at h
 rw [x_az]
 simp only [P_toIntS a.fc (by first | omega | (simp only [Te.sz]; omega)), P_toBoolS a.fb (by first | omega | (simp only [Te.sz]; omega)), Option.bind_some]
theorem P_eqResp (a : Te) (h : a.sz <= 1048576) : x_es a a = some true := by
 simp only [Te.sz] at h
 rw [x_es]
 simp only [P_eqIntS a.fc (by first | omega | (simp only [Te.sz]; omega)), P_eqBoolS a.fb (by first | omega | (simp only [Te.sz]; omega)), Option.bind_some, ne_eq, not_true_eq_false, decide_false, cond_false, BEq.rfl, bne_self_eq_false, Bool.true_xor, Bool.not_true]
theorem P_szRespS (a : List Te) (h : a.length <= 9223372036854775807 /\ ∀ b ∈ a, b.ok) : SzOk (x_ai a) (szL Te.sz a) := SzOk.of (fun l => rfl) (SzOk.list h.1 (fun x hx => P_szResp x (h.2 x hx)) (fun k x s => rfl) (fun s => rfl))
theorem P_toRespS (a : List Te) (h : szL Te.sz a <= 1048576) : x_ba a = some a := by
 have hl : a.length <= 1048576 := by have := szL_len (f := Te.sz) (xs := a); omega
 rw [x_ba, if_pos ⟨by omega, by rw [toNat_len]; omega⟩]
 unfold x_ba_L1
 rw [if_pos (by omega), fillN (xs := a)]
 ·rw [e_ba_L1]; rfl
 ·intro d x t s he hd
  rw [b_ba_L1]
  obtain ⟨z, hz⟩ : ∃ z, s[d.length]? = some z := ⟨s[d.length], List.getElem?_eq_getElem hd⟩
  simp only [P_toResp x (by have := szL_mem (f := Te.sz) (he ▸ (by simp : x ∈ d ++ x :: t)); omega), Option.bind_some, toNat_len, List.length_map, Nat.sub_zero]
  rw [if_pos ⟨by omega, by omega⟩]
  simp only [hz, Option.bind_some, List.set_set, List.length_set, hd, get_set]
 ·simp
theorem P_eqRespS (a : List Te) (h : szL Te.sz a <= 1048576) : x_et a a = some true := by
 have hl : a.length <= 1048576 := by have := szL_len (f := Te.sz) (xs := a); omega
 rw [x_et]
 unfold x_et_L1
 rw [if_pos (by omega), allN (xs := a)]
 ·simp only [ne_eq, not_true_eq_false, decide_false, cond_false, e_et_L1]; rfl
 ·intro d x t he
  rw [b_et_L1]
  simp only [toNat_len, get_mid he, Option.bind_some, P_eqResp x (by have := szL_mem (f := Te.sz) (he ▸ (by simp : x ∈ d ++ x :: t)); omega), ne_eq, not_true_eq_false, decide_false, cond_false, BEq.rfl, bne_self_eq_false, Bool.true_xor, Bool.not_true]
theorem P_szPend (a : Tb) (h : a.ok) : SzOk (x_aj a) (a.sz) := SzOk.of (fun l => rfl) (SzOk.seq (P_szReq a.fa (by exact h.2.2.2.2.1)) (SzOk.seq (P_szPartS a.fm (by exact ⟨h.2.2.2.2.2.1, h.2.2.2.2.2.2.1⟩)) (SzOk.seq (P_szBoolS a.fq (by exact h.2.2.2.2.2.2.2.1)) (SzOk.one (P_szRespS a.faa (by exact ⟨h.2.2.2.2.2.2.2.2.1, h.2.2.2.2.2.2.2.2.2⟩))))))
theorem P_toPend (a : Tb) (h : a.sz <= 1048576) : x_bb a = some a := by
 simp only [Tb.sz] at h
 rw [x_bb]
 simp only [P_toReq a.fa (by first | omega | (simp only [Tb.sz]; omega)), P_toPartS a.fm (by first | omega | (simp only [Tb.sz]; omega)), P_toBoolS a.fq (by first | omega | (simp only [Tb.sz]; omega)), P_toRespS a.faa (by first | omega | (simp only [Tb.sz]; omega)), Option.bind_some]
theorem P_eqPend (a : Tb) (h : a.sz <= 1048576) : x_eu a a = some true := by
 simp only [Tb.sz] at h
 rw [x_eu]
 simp only [P_eqReq a.fa (by first | omega | (simp only [Tb.sz]; omega)), P_eqPartS a.fm (by first | omega | (simp only [Tb.sz]; omega)), P_eqBoolS a.fq (by first | omega | (simp only [Tb.sz]; omega)), P_eqRespS a.faa (by first | omega | (simp only [Tb.sz]; omega)), Option.bind_some, ne_eq, not_true_eq_false, decide_false, cond_false, BEq.rfl, bne_self_eq_false, Bool.true_xor, Bool.not_true]
theorem P_szPendS (a : List Tb) (h : a.length <= 9223372036854775807 /\ ∀ b ∈ a, b.ok) : SzOk (x_ak a) (szL Tb.sz a) := SzOk.of (fun l => rfl) (SzOk.list h.1 (fun x hx => P_szPend x (h.2 x hx)) (fun k x s => rfl) (fun s => rfl))
theorem P_toPendS (a : List Tb) (h : szL Tb.sz a <= 1048576) : x_bc a = some a := by
 have hl : a.length <= 1048576 := by have := szL_len (f := Tb.sz) (xs := a); omega
 rw [x_bc, if_pos ⟨by omega, by rw [toNat_len]; omega⟩]
 unfold x_bc_L1
 rw [if_pos (by omega), fillN (xs := a)]
 ·rw [e_bc_L1]; rfl
 ·intro d x t s he hd
  rw [b_bc_L1]
  obtain ⟨z, hz⟩ : ∃ z, s[d.length]? = some z := ⟨s[d.length], List.getElem?_eq_getElem hd⟩
  simp only [P_toPend x (by have := szL_mem (f := Tb.sz) (he ▸ (by simp : x ∈ d ++ x :: t)); omega), Option.bind_some, toNat_len, List.length_map, Nat.sub_zero]
  rw [if_pos ⟨by omega, by omega⟩]
  simp only [hz, Option.bind_some, List.set_set, List.length_set, hd, get_set]
 ·simp
theorem P_eqPendS (a : List Tb) (h : szL Tb.sz a <= 1048576) : x_ev a a = some true := by
 have hl : a.length <= 1048576 := by have := szL_len (f := Tb.sz) (xs := a); omega
 rw [x_ev]
 unfold x_ev_L1
 rw [if_pos (by omega), allN (xs := a)]
 ·simp only [ne_eq, not_true_eq_false, decide_false, cond_false, e_ev_L1]; rfl
 ·intro d x t he
  rw [b_ev_L1]
  simp only [toNat_len, get_mid he, Option.bind_some, P_eqPend x (by have := szL_mem (f := Tb.sz) (he ▸ (by simp : x ∈ d ++ x :: t)); omega), ne_eq, not_true_eq_false, decide_false, cond_false, BEq.rfl, bne_self_eq_false, Bool.true_xor, Bool.not_true]
theorem P_szTable (a : Tk) (h : a.ok) : SzOk (x_al a) (a.sz) := SzOk.of (fun l => rfl) (SzOk.one (P_szPendS a.fg (by exact ⟨h.2.1, h.2.2⟩)))
theorem P_toTable (a : Tk) (h : a.sz <= 1048576) : x_bd a = some a := by
 simp only [Tk.sz] at h
 rw [x_bd]
 simp only [P_toPendS a.fg (by first | omega | (simp only [Tk.sz]; omega)), Option.bind_some]
theorem P_eqTable (a : Tk) (h : a.sz <= 1048576) : x_ew a a = some true := by
 simp only [Tk.sz] at h
 rw [x_ew]
 simp only [P_eqPendS a.fg (by first | omega | (simp only [Tk.sz]; omega)), Option.bind_some, ne_eq, not_true_eq_false, decide_false, cond_false, BEq.rfl, bne_self_eq_false, Bool.true_xor, Bool.not_true]
theorem P_szCall (a : Ta) (h : a.ok) : SzOk (x_am a) (a.sz) := SzOk.of (fun l => rfl) (SzOk.one (P_szReq a.fa (by exact h.2.2.2)))
theorem P_toCall (a : Ta) (h : a.sz <= 1048576) : x_be a = some a := by
 simp only [Ta.sz] at h
 rw [x_be]
 simp only [P_toReq a.fa (by first | omega | (simp only [Ta.sz]; omega)), Option.bind_some]
theorem P_eqCall (a : Ta) (h : a.sz <= 1048576) : x_ex a a = some true := by
 simp only [Ta.sz] at h
 rw [x_ex]
 simp only [P_eqReq a.fa (by first | omega | (simp only [Ta.sz]; omega)), Option.bind_some, ne_eq, not_true_eq_false, decide_false, cond_false, BEq.rfl, bne_self_eq_false, Bool.true_xor, Bool.not_true]
theorem P_szCallS (a : List Ta) (h : a.length <= 9223372036854775807 /\ ∀ b ∈ a, b.ok) : SzOk (x_an a) (szL Ta.sz a) := SzOk.of (fun l => rfl) (SzOk.list h.1 (fun x hx => P_szCall x (h.2 x hx)) (fun k x s => rfl) (fun s => rfl))
theorem P_toCallS (a : List Ta) (h : szL Ta.sz a <= 1048576) : x_bf a = some a := by
 have hl : a.length <= 1048576 := by have := szL_len (f := Ta.sz) (xs := a); omega
 rw [x_bf, if_pos ⟨by omega, by rw [toNat_len]; omega⟩]
 unfold x_bf_L1
 rw [if_pos (by omega), fillN (xs := a)]
 ·rw [e_bf_L1]; rfl
 ·intro d x t s he hd
  rw [b_bf_L1]
  obtain ⟨z, hz⟩ : ∃ z, s[d.length]? = some z := ⟨s[d.length], List.getElem?_eq_getElem hd⟩
  simp only [P_toCall x (by have := szL_mem (f := Ta.sz) (he ▸ (by simp : x ∈ d ++ x :: t)); omega), Option.bind_some, toNat_len, List.length_map, Nat.sub_zero]
  rw [if_pos ⟨by omega, by omega⟩]
  simp only [hz, Option.bind_some, List.set_set, List.length_set, hd, get_set]
 ·simp
theorem P_eqCallS (a : List Ta) (h : szL Ta.sz a <= 1048576) : x_ey a a = some true := by
 have hl : a.length <= 1048576 := by have := szL_len (f := Ta.sz) (xs := a); omega
 rw [x_ey]
 unfold x_ey_L1
 rw [if_pos (by omega), allN (xs := a)]
 ·simp only [ne_eq, not_true_eq_false, decide_false, cond_false, e_ey_L1]; rfl
 ·intro d x t he
  rw [b_ey_L1]
  simp only [toNat_len, get_mid he, Option.bind_some, P_eqCall x (by have := szL_mem (f := Ta.sz) (he ▸ (by simp : x ∈ d ++ x :: t)); omega), ne_eq, not_true_eq_false, decide_false, cond_false, BEq.rfl, bne_self_eq_false, Bool.true_xor, Bool.not_true]
theorem P_szLine (a : Tc) (h : a.ok) : SzOk (x_ao a) (a.sz) := SzOk.of (fun l => rfl) (SzOk.seq (P_szCallS a.fu (by exact ⟨h.1, h.2.1⟩)) (SzOk.one (P_szCall a.ff (by exact h.2.2.1))))
theorem P_toLine (a : Tc) (h : a.sz <= 1048576) : x_bg a = some a := by
 simp only [Tc.sz] at h
 rw [x_bg]
 simp only [P_toCallS a.fu (by first | omega | (simp only [Tc.sz]; omega)), P_toCall a.ff (by first | omega | (simp only [Tc.sz]; omega)), Option.bind_some]
theorem P_eqLine (a : Tc) (h : a.sz <= 1048576) : x_ez a a = some true := by
 simp only [Tc.sz] at h
 rw [x_ez]
 simp only [P_eqCallS a.fu (by first | omega | (simp only [Tc.sz]; omega)), P_eqCall a.ff (by first | omega | (simp only [Tc.sz]; omega)), Option.bind_some, ne_eq, not_true_eq_false, decide_false, cond_false, BEq.rfl, bne_self_eq_false, Bool.true_xor, Bool.not_true]
theorem P_szLineS (a : List Tc) (h : a.length <= 9223372036854775807 /\ ∀ b ∈ a, b.ok) : SzOk (x_ap a) (szL Tc.sz a) := SzOk.of (fun l => rfl) (SzOk.list h.1 (fun x hx => P_szLine x (h.2 x hx)) (fun k x s => rfl) (fun s => rfl))
theorem P_toLineS (a : List Tc) (h : szL Tc.sz a <= 1048576) : x_bh a = some a := by
 have hl : a.length <= 1048576 := by have := szL_len (f := Tc.sz) (xs := a); omega
 rw [x_bh, if_pos ⟨by omega, by rw [toNat_len]; omega⟩]
 unfold x_bh_L1
 rw [if_pos (by omega), fillN (xs := a)]
 ·rw [e_bh_L1]; rfl
 ·intro d x t s he hd
  rw [b_bh_L1]
  obtain ⟨z, hz⟩ : ∃ z, s[d.length]? = some z := ⟨s[d.length], List.getElem?_eq_getElem hd⟩
  simp only [P_toLine x (by have := szL_mem (f := Tc.sz) (he ▸ (by simp : x ∈ d ++ x :: t)); omega), Option.bind_some, toNat_len, List.length_map, Nat.sub_zero]
  rw [if_pos ⟨by omega, by omega⟩]
  simp only [hz, Option.bind_some, List.set_set, List.length_set, hd, get_set]
 ·simp
theorem P_eqLineS (a : List Tc) (h : szL Tc.sz a <= 1048576) : x_fa a a = some true := by
 have hl : a.length <= 1048576 := by have := szL_len (f := Tc.sz) (xs := a); omega
 rw [x_fa]
 unfold x_fa_L1
 rw [if_pos (by omega), allN (xs := a)]
 ·simp only [ne_eq, not_true_eq_false, decide_false, cond_false, e_fa_L1]; rfl
 ·intro d x t he
  rw [b_fa_L1]
  simp only [toNat_len, get_mid he, Option.bind_some, P_eqLine x (by have := szL_mem (f := Tc.sz) (he ▸ (by simp : x ∈ d ++ x :: t)); omega), ne_eq, not_true_eq_false, decide_false, cond_false, BEq.rfl, bne_self_eq_false, Bool.true_xor, Bool.not_true]
theorem P_szFabric (a : Tj) (h : a.ok) : SzOk (x_aq a) (a.sz) := SzOk.of (fun l => rfl) (SzOk.seq (P_szConfig a.fr (by exact h.2.1)) (SzOk.seq (P_szTable a.fo (by exact h.2.2.1)) (SzOk.one (P_szLineS a.fp (by exact ⟨h.2.2.2.1, h.2.2.2.2.1⟩)))))
theorem P_toFabric (a : Tj) (h : a.sz <= 1048576) : x_bi a = some a := by
 simp only [Tj.sz] at h
 rw [x_bi]
 simp only [P_toConfig a.fr (by first | omega | (simp only [Tj.sz]; omega)), P_toTable a.fo (by first | omega | (simp only [Tj.sz]; omega)), P_toLineS a.fp (by first | omega | (simp only [Tj.sz]; omega)), Option.bind_some]
theorem P_eqFabric (a : Tj) (h : a.sz <= 1048576) : x_fb a a = some true := by
 simp only [Tj.sz] at h
 rw [x_fb]
 simp only [P_eqConfig a.fr (by first | omega | (simp only [Tj.sz]; omega)), P_eqTable a.fo (by first | omega | (simp only [Tj.sz]; omega)), P_eqLineS a.fp (by first | omega | (simp only [Tj.sz]; omega)), Option.bind_some, ne_eq, not_true_eq_false, decide_false, cond_false, BEq.rfl, bne_self_eq_false, Bool.true_xor, Bool.not_true]
end Go.Pm
namespace Go.Pm
def p_cn (v1 : Int) (v2 : Int) (v3 : Int) : Bool := (bif decide (v2 <= v1) then decide (v1 <= v3) else false)
theorem P_cn (v1 : Int) (v2 : Int) (v3 : Int)  : x_cn v1 v2 v3 = some (p_cn v1 v2 v3) := by
 rw [x_cn]; first | rfl | (simp only [Option.bind_some, cond_some]; rfl)
def p_co (v1 : Int) : Bool := (let v2 := p_cn v1 0 4294967295; v2)
theorem P_co (v1 : Int)  : x_co v1 = some (p_co v1) := by
 rw [x_co]; first | rfl | (simp only [P_cn v1 0 4294967295, Option.bind_some, cond_some]; rfl)
def p_cp (v1 : Int) (v2 : Int) : Bool := (let v3 := p_cn v1 1 100; (bif v3 then (let v5 := p_cn v2 0 5; v5) else false))
theorem P_cp (v1 : Int) (v2 : Int)  : x_cp v1 v2 = some (p_cp v1 v2) := by
 rw [x_cp]; first | rfl | (simp only [P_cn v1 1 100, P_cn v2 0 5, Option.bind_some, cond_some]; rfl)
def p_cq (v1 : Int) : Bool := (let v2 := p_cn v1 1 247; v2)
theorem P_cq (v1 : Int)  : x_cq v1 = some (p_cq v1) := by
 rw [x_cq]; first | rfl | (simp only [P_cn v1 1 247, Option.bind_some, cond_some]; rfl)
def p_cr (v1 : Int) : Bool := (let v2 := p_cn v1 0 65535; v2)
theorem P_cr (v1 : Int)  : x_cr v1 = some (p_cr v1) := by
 rw [x_cr]; first | rfl | (simp only [P_cn v1 0 65535, Option.bind_some, cond_some]; rfl)
def p_cs (v1 : Int) : Bool := (let v2 := p_cn v1 0 5; v2)
theorem P_cs (v1 : Int)  : x_cs v1 = some (p_cs v1) := by
 rw [x_cs]; first | rfl | (simp only [P_cn v1 0 5, Option.bind_some, cond_some]; rfl)
def p_cz (v1 : Int) : Bool := (let v2 := p_cn v1 0 1000000000; v2)
theorem P_cz (v1 : Int)  : x_cz v1 = some (p_cz v1) := by
 rw [x_cz]; first | rfl | (simp only [P_cn v1 0 1000000000, Option.bind_some, cond_some]; rfl)
def p_ct (v1 : Td) : Bool := (let v2 := p_cq v1.fh; (bif !v2 then false else (let v4 := p_cn v1.fat 0 3; (bif !v4 then false else (let v6 := p_cr v1.faf; (bif !v6 then false else (let v8 := p_cr v1.fag; (bif !v8 then false else (bif decide (v1.fag < v1.faf) then false else (let v11 := p_cs v1.fac; (bif !v11 then false else (let v13 := p_cq v1.fau; (bif !v13 then false else (let v15 := p_cn v1.fah (-65535) 65535; (bif v15 then (let v17 := p_cr (IntKind.i64.wrap (v1.faf + v1.fah)); (bif v17 then (let v19 := p_cr (IntKind.i64.wrap (v1.fag + v1.fah)); v19) else false)) else false)))))))))))))))
theorem P_ct (v1 : Td)  : x_ct v1 = some (p_ct v1) := by
 rw [x_ct]; first | rfl | (simp only [P_cq v1.fh, P_cn v1.fat 0 3, P_cr v1.faf, P_cr v1.fag, P_cs v1.fac, P_cq v1.fau, P_cn v1.fah (-65535) 65535, P_cr (IntKind.i64.wrap (v1.faf + v1.fah)), P_cr (IntKind.i64.wrap (v1.fag + v1.fah)), Option.bind_some, cond_some]; rfl)
def p_cu (v1 : Td) (v2 : Td) : Bool := (bif decide (v1.fh = v2.fh) then (bif decide (v1.fat = v2.fat) then (bif decide (v1.faf <= v2.fag) then decide (v2.faf <= v1.fag) else false) else false) else false)
theorem P_cu (v1 : Td) (v2 : Td)  : x_cu v1 v2 = some (p_cu v1 v2) := by
 rw [x_cu]; first | rfl | (simp only [Option.bind_some, cond_some]; rfl)
def p_da (v1 : Int) : Th × Th × Th := (bif decide (v1 = 1) then ((⟨1, 2000⟩ : Th), (⟨0, 0⟩ : Th), (⟨0, 0⟩ : Th)) else (bif decide (v1 = 2) then ((⟨1, 2000⟩ : Th), (⟨0, 0⟩ : Th), (⟨0, 0⟩ : Th)) else (bif decide (v1 = 3) then ((⟨1, 125⟩ : Th), (⟨0, 0⟩ : Th), (⟨0, 0⟩ : Th)) else (bif decide (v1 = 4) then ((⟨1, 125⟩ : Th), (⟨0, 0⟩ : Th), (⟨0, 0⟩ : Th)) else (bif decide (v1 = 5) then ((⟨0, 0⟩ : Th), (⟨0, 0⟩ : Th), (⟨1, 1⟩ : Th)) else (bif decide (v1 = 6) then ((⟨0, 0⟩ : Th), (⟨1, 1⟩ : Th), (⟨0, 0⟩ : Th)) else (bif decide (v1 = 15) then ((⟨0, 0⟩ : Th), (⟨0, 0⟩ : Th), (⟨1, 1968⟩ : Th)) else (bif decide (v1 = 16) then ((⟨0, 0⟩ : Th), (⟨1, 123⟩ : Th), (⟨0, 0⟩ : Th)) else (bif decide (v1 = 22) then ((⟨0, 0⟩ : Th), (⟨2, 2⟩ : Th), (⟨0, 0⟩ : Th)) else ((⟨1, 125⟩ : Th), (⟨1, 121⟩ : Th), (⟨0, 0⟩ : Th)))))))))))
theorem P_da (v1 : Int)  : x_da v1 = some (p_da v1) := by
 rw [x_da]; first | rfl | (simp only [Option.bind_some, cond_some]; rfl)
def p_db (v1 : Int) : Bool := (let v2 := p_cn v1 1 6; (bif v2 then true else (bif decide (v1 = 15) then true else (bif decide (v1 = 16) then true else (bif decide (v1 = 22) then true else decide (v1 = 23))))))
theorem P_db (v1 : Int)  : x_db v1 = some (p_db v1) := by
 rw [x_db]; first | rfl | (simp only [P_cn v1 1 6, Option.bind_some, cond_some]; rfl)
def p_dg (v1 : Tg) : Int := (bif decide (v1.fd = 22) then 1 else IntKind.i64.wrap (((v1.fc.length : Nat) : Int) + ((v1.fb.length : Nat) : Int)))
theorem P_dg (v1 : Tg) (hv1 : v1.sz <= 1048576) : x_dg v1 = some (p_dg v1) := by
 rw [x_dg]; first | rfl | (simp only [Option.bind_some, cond_some]; rfl)
def p_dl (v1 : Te) : Bool := (let v2 := p_cn v1.fae 1 255; (bif v2 then (bif decide (v1.fe = 0) then (bif decide (v1.fN = 0) then (bif decide (((v1.fc.length : Nat) : Int) = 0) then decide (((v1.fb.length : Nat) : Int) = 0) else false) else false) else false) else false))
theorem P_dl (v1 : Te) (hv1 : v1.sz <= 1048576) : x_dl v1 = some (p_dl v1) := by
 rw [x_dl]; first | rfl | (simp only [P_cn v1.fae 1 255, Option.bind_some, cond_some]; rfl)
def p_dm (v1 : Int) : Th × Th × Int × Bool := (bif decide (v1 = 1) then ((⟨0, 0⟩ : Th), (⟨1, 2000⟩ : Th), 0, false) else (bif decide (v1 = 2) then ((⟨0, 0⟩ : Th), (⟨1, 2000⟩ : Th), 0, false) else (bif decide (v1 = 3) then ((⟨1, 125⟩ : Th), (⟨0, 0⟩ : Th), 0, false) else (bif decide (v1 = 4) then ((⟨1, 125⟩ : Th), (⟨0, 0⟩ : Th), 0, false) else (bif decide (v1 = 23) then ((⟨1, 125⟩ : Th), (⟨0, 0⟩ : Th), 0, false) else (bif decide (v1 = 5) then ((⟨0, 0⟩ : Th), (⟨1, 1⟩ : Th), 0, true) else (bif decide (v1 = 6) then ((⟨1, 1⟩ : Th), (⟨0, 0⟩ : Th), 0, true) else (bif decide (v1 = 15) then ((⟨0, 0⟩ : Th), (⟨0, 0⟩ : Th), 1968, true) else (bif decide (v1 = 16) then ((⟨0, 0⟩ : Th), (⟨0, 0⟩ : Th), 123, true) else ((⟨2, 2⟩ : Th), (⟨0, 0⟩ : Th), 0, true))))))))))
theorem P_dm (v1 : Int)  : x_dm v1 = some (p_dm v1) := by
 rw [x_dm]; first | rfl | (simp only [Option.bind_some, cond_some]; rfl)
def p_de (v1 : Int) : Bool := (let v2 := p_cr v1; !v2)
theorem P_de (v1 : Int)  : x_de v1 = some (p_de v1) := by
 rw [x_de]; first | rfl | (simp only [P_cr v1, Option.bind_some, cond_some]; rfl)
def p_bj (v1 : Int) (v2 : Int) (v3 : Int) : Bool := (bif decide (v2 <= v1) then decide (v1 <= v3) else false)
theorem P_bj (v1 : Int) (v2 : Int) (v3 : Int)  : x_bj v1 v2 v3 = some (p_bj v1 v2 v3) := by
 rw [x_bj]; first | rfl | (simp only [Option.bind_some, cond_some]; rfl)
theorem Q_bj (v1 : Int) (v2 : Int) (v3 : Int)  : p_bj v1 v2 v3 = p_cn v1 v2 v3 := by
 rfl
theorem S_bj (v1 : Int) (v2 : Int) (v3 : Int)  : x_bj v1 v2 v3 = some (p_cn v1 v2 v3) := by rw [P_bj v1 v2 v3 , Q_bj v1 v2 v3 ]
def p_bk (v1 : Int) : Bool := (let v2 := p_cn v1 0 4294967295; v2)
theorem P_bk (v1 : Int)  : x_bk v1 = some (p_bk v1) := by
 rw [x_bk]; first | rfl | (simp only [S_bj v1 0 4294967295, Option.bind_some, cond_some]; rfl)
def p_bt (v1 : Int) : Bool := (let v2 := p_cn v1 1 6; (bif v2 then true else (bif decide (v1 = 15) then true else (bif decide (v1 = 16) then true else (bif decide (v1 = 22) then true else decide (v1 = 23))))))
theorem P_bt (v1 : Int)  : x_bt v1 = some (p_bt v1) := by
 rw [x_bt]; first | rfl | (simp only [S_bj v1 1 6, Option.bind_some, cond_some]; rfl)
def p_bq (v1 : Int) (v2 : Int) : Bool := (let v3 := p_cn v1 0 65535; (bif v3 then decide ((IntKind.i64.wrap (v1 + v2)) <= 65536) else false))
theorem P_bq (v1 : Int) (v2 : Int)  : x_bq v1 v2 = some (p_bq v1 v2) := by
 rw [x_bq]; first | rfl | (simp only [S_bj v1 0 65535, Option.bind_some, cond_some]; rfl)
def p_bp (v1 : Tg) (v2 : Bool) (v3 : Bool) (v4 : Bool) (v5 : Bool) : Bool := (bif v2 then (bif v3 then (bif v4 then (bif v5 then true else decide (v1.fi = 0)) else (bif decide (((v1.fb.length : Nat) : Int) = 0) then (bif v5 then true else decide (v1.fi = 0)) else false)) else (bif decide (((v1.fc.length : Nat) : Int) = 0) then (bif v4 then (bif v5 then true else decide (v1.fi = 0)) else (bif decide (((v1.fb.length : Nat) : Int) = 0) then (bif v5 then true else decide (v1.fi = 0)) else false)) else false)) else (bif decide (v1.fN = 0) then (bif v3 then (bif v4 then (bif v5 then true else decide (v1.fi = 0)) else (bif decide (((v1.fb.length : Nat) : Int) = 0) then (bif v5 then true else decide (v1.fi = 0)) else false)) else (bif decide (((v1.fc.length : Nat) : Int) = 0) then (bif v4 then (bif v5 then true else decide (v1.fi = 0)) else (bif decide (((v1.fb.length : Nat) : Int) = 0) then (bif v5 then true else decide (v1.fi = 0)) else false)) else false)) else false))
theorem P_bp (v1 : Tg) (v2 : Bool) (v3 : Bool) (v4 : Bool) (v5 : Bool) (hv1 : v1.sz <= 1048576) : x_bp v1 v2 v3 v4 v5 = some (p_bp v1 v2 v3 v4 v5) := by
 rw [x_bp]; first | rfl | (simp only [Option.bind_some, cond_some]; rfl)
def p_bu (v1 : Te) (v2 : Bool) (v3 : Bool) (v4 : Bool) (v5 : Bool) : Bool := (bif v2 then (bif v3 then (bif v4 then (bif v5 then true else decide (((v1.fb.length : Nat) : Int) = 0)) else (bif decide (((v1.fc.length : Nat) : Int) = 0) then (bif v5 then true else decide (((v1.fb.length : Nat) : Int) = 0)) else false)) else (bif decide (v1.fN = 0) then (bif v4 then (bif v5 then true else decide (((v1.fb.length : Nat) : Int) = 0)) else (bif decide (((v1.fc.length : Nat) : Int) = 0) then (bif v5 then true else decide (((v1.fb.length : Nat) : Int) = 0)) else false)) else false)) else (bif decide (v1.fe = 0) then (bif v3 then (bif v4 then (bif v5 then true else decide (((v1.fb.length : Nat) : Int) = 0)) else (bif decide (((v1.fc.length : Nat) : Int) = 0) then (bif v5 then true else decide (((v1.fb.length : Nat) : Int) = 0)) else false)) else (bif decide (v1.fN = 0) then (bif v4 then (bif v5 then true else decide (((v1.fb.length : Nat) : Int) = 0)) else (bif decide (((v1.fc.length : Nat) : Int) = 0) then (bif v5 then true else decide (((v1.fb.length : Nat) : Int) = 0)) else false)) else false)) else false))
theorem P_bu (v1 : Te) (v2 : Bool) (v3 : Bool) (v4 : Bool) (v5 : Bool) (hv1 : v1.sz <= 1048576) : x_bu v1 v2 v3 v4 v5 = some (p_bu v1 v2 v3 v4 v5) := by
 rw [x_bu]; first | rfl | (simp only [Option.bind_some, cond_some]; rfl)
def p_bl (v1 : Td) : Bool := (let v2 := p_cn v1.fh 1 247; (bif v2 then (let v4 := p_cn v1.fat 0 3; (bif v4 then (let v6 := p_cn v1.faf 0 65535; (bif v6 then (let v8 := p_cn v1.fag v1.faf 65535; (bif v8 then (let v10 := p_cn v1.fac 0 5; (bif v10 then (let v12 := p_cn v1.fau 1 247; (bif v12 then (let v14 := p_cn v1.fah (-65535) 65535; (bif v14 then (let v16 := p_cn (IntKind.i64.wrap (v1.faf + v1.fah)) 0 65535; (bif v16 then (let v18 := p_cn (IntKind.i64.wrap (v1.fag + v1.fah)) 0 65535; v18) else false)) else false)) else false)) else false)) else false)) else false)) else false)) else false))
theorem P_bl (v1 : Td)  : x_bl v1 = some (p_bl v1) := by
 rw [x_bl]; first | rfl | (simp only [S_bj v1.fh 1 247, S_bj v1.fat 0 3, S_bj v1.faf 0 65535, S_bj v1.fag v1.faf 65535, S_bj v1.fac 0 5, S_bj v1.fau 1 247, S_bj v1.fah (-65535) 65535, S_bj (IntKind.i64.wrap (v1.faf + v1.fah)) 0 65535, S_bj (IntKind.i64.wrap (v1.fag + v1.fah)) 0 65535, Option.bind_some, cond_some]; rfl)
theorem Q_bk (v1 : Int)  : p_bk v1 = p_co v1 := by
 rfl
theorem S_bk (v1 : Int)  : x_bk v1 = some (p_co v1) := by rw [P_bk v1 , Q_bk v1 ]
theorem Q_bt (v1 : Int)  : p_bt v1 = p_db v1 := by
 rfl
theorem S_bt (v1 : Int)  : x_bt v1 = some (p_db v1) := by rw [P_bt v1 , Q_bt v1 ]
def p_cv (v1 : List Td) (v2 : Td) : Int := idx0 (fun (x : Td) => p_cu x v2) v1 0
theorem P_cv (v1 : List Td) (v2 : Td) (hv1 : v1.length <= 1048576) : x_cv v1 v2 = some (p_cv v1 v2) := by
 have hlen : v1.length <= 9223372036854775806 := by have hq : v1.length <= v1.length := Nat.le_refl _; omega
 rw [x_cv]; unfold x_cv_L1 p_cv
 exact idxN (fun (x : Td) => p_cu x v2) hlen rfl (fun d x t he => by rw [b_cv_L1]; first | rfl | (simp only [P_cu x v2, Option.bind_some]; done) | (simp only [P_cu x v2, Option.bind_some]; rfl) | done)
def p_dc (v1 : List Int) : Int := idx0 (fun (x : Int) => p_de x) v1 0
theorem P_dc (v1 : List Int) (hv1 : v1.length <= 1048576) : x_dc v1 = some (p_dc v1) := by
 have hlen : v1.length <= 9223372036854775806 := by have hq : v1.length <= v1.length := Nat.le_refl _; omega
 rw [x_dc]; unfold x_dc_L1 p_dc
 exact idxN (fun (x : Int) => p_de x) hlen rfl (fun d x t he => by rw [b_dc_L1]; first | rfl | (simp only [P_de x, Option.bind_some]; done) | (simp only [P_de x, Option.bind_some]; rfl) | done)
def p_di (v1 : List Bool) (v2 : Bool) : Int := idx0 (fun (x : Bool) => (false ^^ (v2 == x))) v1 0
theorem P_di (v1 : List Bool) (v2 : Bool) (hv1 : v1.length <= 1048576) : x_di v1 v2 = some (p_di v1 v2) := by
 have hlen : v1.length <= 9223372036854775806 := by have hq : v1.length <= v1.length := Nat.le_refl _; omega
 rw [x_di]; unfold x_di_L1 p_di
 exact idxN (fun (x : Bool) => (false ^^ (v2 == x))) hlen rfl (fun d x t he => by rw [b_di_L1]; first | rfl | (simp only [Option.bind_some]; done) | (simp only [Option.bind_some]; rfl) | done)
def p_cw (v1 : List Td) (v2 : Td) : Bool := (let v3 := p_cv v1 v2; decide (0 <= v3))
theorem P_cw (v1 : List Td) (v2 : Td) (hv1 : v1.length <= 1048576) : x_cw v1 v2 = some (p_cw v1 v2) := by
 rw [x_cw]; first | rfl | (simp only [P_cv v1 v2 hv1, Option.bind_some, cond_some]; rfl)
def p_dd (v1 : List Int) : Bool := (let v2 := p_dc v1; decide (0 <= v2))
theorem P_dd (v1 : List Int) (hv1 : v1.length <= 1048576) : x_dd v1 = some (p_dd v1) := by
 rw [x_dd]; first | rfl | (simp only [P_dc v1 hv1, Option.bind_some, cond_some]; rfl)
def p_dj (v1 : List Bool) (v2 : Bool) : Bool := (let v3 := p_di v1 v2; decide (0 <= v3))
theorem P_dj (v1 : List Bool) (v2 : Bool) (hv1 : v1.length <= 1048576) : x_dj v1 v2 = some (p_dj v1 v2) := by
 rw [x_dj]; first | rfl | (simp only [P_di v1 v2 hv1, Option.bind_some, cond_some]; rfl)
def p_df (v1 : List Int) : Bool := (let v2 := p_dd v1; !v2)
theorem P_df (v1 : List Int) (hv1 : v1.length <= 1048576) : x_df v1 = some (p_df v1) := by
 rw [x_df]; first | rfl | (simp only [P_dd v1 hv1, Option.bind_some, cond_some]; rfl)
def wordsB (l : List Int) : Bool := l.all fun n => decide (0 <= n) && decide (n <= 65535)
theorem allWords_eq (l : List Int) : p_df l = wordsB l := by
 unfold p_df p_dd p_dc wordsB
 simp only [idx0_ge, List.all_eq_not_any_not]
 congr 2; funext n
 unfold p_de p_cr p_cn
 by_cases h : 0 <= n <;> simp [h]
theorem S_df (v1 : List Int) (hv1 : v1.length <= 1048576) : x_df v1 = some (wordsB v1) := by rw [P_df v1 hv1, allWords_eq]
theorem S_bo (v1 : List Int) (hv1 : v1.length <= 1048576) : x_bo v1 = some (wordsB v1) := by
 rw [x_bo]; unfold x_bo_L1
 rw [anyB (fun _ n => !(decide (0 <= n) && decide (n <= 65535))) (by omega) rfl (fun d x t he => ⟨((d.length : Nat) : Int), by
  rw [b_bo_L1]; simp only [S_bj, Option.bind_some, p_cn]
  by_cases h : 0 <= x <;> by_cases h' : x <= 65535 <;> simp [h, h']⟩)]
 rw [anyP_const]
 unfold wordsB
 rw [List.all_eq_not_any_not]
 cases v1.any fun n => !(decide (0 <= n) && decide (n <= 65535)) <;> simp
def p_dh (v1 : Tg) : Bool := (let v2 := p_da v1.fd; (let v3 := p_db v1.fd; (bif !v3 then false else (let v5 := p_cn v1.fN v2.1.f0 v2.1.f1; (bif !v5 then false else (let v7 := p_cn ((v1.fc.length : Nat) : Int) v2.2.1.f0 v2.2.1.f1; (bif !v7 then false else (let v9 := p_cn ((v1.fb.length : Nat) : Int) v2.2.2.f0 v2.2.2.f1; (bif !v9 then false else (let v11 := p_cr v1.fe; (bif !v11 then false else (let v13 := p_cr v1.fi; (bif !v13 then false else (let v15 := wordsB v1.fc; (bif !v15 then false else (bif decide (65536 < (IntKind.i64.wrap (v1.fe + v1.fN))) then false else (bif decide (v1.fd = 23) then (let v19 := p_dg v1; decide ((IntKind.i64.wrap (v1.fi + v19)) <= 65536)) else (bif decide (v1.fi = 0) then (let v21 := p_dg v1; decide ((IntKind.i64.wrap (v1.fe + v21)) <= 65536)) else false))))))))))))))))))
theorem P_dh (v1 : Tg) (hv1 : v1.sz <= 1048576) : x_dh v1 = some (p_dh v1) := by
 rw [x_dh]; first | rfl | (simp only [P_da v1.fd, P_db v1.fd, P_cr v1.fe, P_cr v1.fi, S_df v1.fc (by simp only [Tg.sz] at hv1; omega), P_dg v1 hv1, P_cn, Option.bind_some, cond_some]; rfl)
def p_br (v1 : Tg) : Bool := (let v2 := wordsB v1.fc; (bif !v2 then false else (let v4 := p_cn v1.fe 0 65535; (bif !v4 then false else (bif decide (v1.fd = 1) then (let v7 := p_bp v1 true false false false; (bif v7 then (let v9 := p_cn v1.fN 1 2000; (bif v9 then (let v11 := p_bq v1.fe v1.fN; v11) else false)) else false)) else (bif decide (v1.fd = 2) then (let v13 := p_bp v1 true false false false; (bif v13 then (let v15 := p_cn v1.fN 1 2000; (bif v15 then (let v17 := p_bq v1.fe v1.fN; v17) else false)) else false)) else (bif decide (v1.fd = 3) then (let v19 := p_bp v1 true false false false; (bif v19 then (let v21 := p_cn v1.fN 1 125; (bif v21 then (let v23 := p_bq v1.fe v1.fN; v23) else false)) else false)) else (bif decide (v1.fd = 4) then (let v25 := p_bp v1 true false false false; (bif v25 then (let v27 := p_cn v1.fN 1 125; (bif v27 then (let v29 := p_bq v1.fe v1.fN; v29) else false)) else false)) else (bif decide (v1.fd = 5) then (let v31 := p_bp v1 false false true false; (bif v31 then decide (((v1.fb.length : Nat) : Int) = 1) else false)) else (bif decide (v1.fd = 6) then (let v34 := p_bp v1 false true false false; (bif v34 then decide (((v1.fc.length : Nat) : Int) = 1) else false)) else (bif decide (v1.fd = 15) then (let v37 := p_bp v1 false false true false; (bif v37 then (let v39 := p_cn ((v1.fb.length : Nat) : Int) 1 1968; (bif v39 then (let v41 := p_bq v1.fe ((v1.fb.length : Nat) : Int); v41) else false)) else false)) else (bif decide (v1.fd = 16) then (let v43 := p_bp v1 false true false false; (bif v43 then (let v45 := p_cn ((v1.fc.length : Nat) : Int) 1 123; (bif v45 then (let v47 := p_bq v1.fe ((v1.fc.length : Nat) : Int); v47) else false)) else false)) else (bif decide (v1.fd = 22) then (let v49 := p_bp v1 false true false false; (bif v49 then decide (((v1.fc.length : Nat) : Int) = 2) else false)) else (bif decide (v1.fd = 23) then (let v52 := p_bp v1 true true false true; (bif v52 then (let v54 := p_cn v1.fN 1 125; (bif v54 then (let v56 := p_bq v1.fe v1.fN; (bif v56 then (let v58 := p_cn ((v1.fc.length : Nat) : Int) 1 121; (bif v58 then (let v60 := p_bq v1.fi ((v1.fc.length : Nat) : Int); v60) else false)) else false)) else false)) else false)) else false))))))))))))))
theorem P_br (v1 : Tg) (hv1 : v1.sz <= 1048576) : x_br v1 = some (p_br v1) := by
 rw [x_br]; first | rfl | (simp only [S_bo v1.fc (by simp only [Tg.sz] at hv1; omega), S_bj v1.fe 0 65535, P_bp v1 true false false false hv1, S_bj v1.fN 1 2000, P_bq v1.fe v1.fN, S_bj v1.fN 1 125, P_bp v1 false false true false hv1, P_bp v1 false true false false hv1, S_bj ((v1.fb.length : Nat) : Int) 1 1968, P_bq v1.fe ((v1.fb.length : Nat) : Int), S_bj ((v1.fc.length : Nat) : Int) 1 123, P_bq v1.fe ((v1.fc.length : Nat) : Int), P_bp v1 true true false true hv1, S_bj ((v1.fc.length : Nat) : Int) 1 121, P_bq v1.fi ((v1.fc.length : Nat) : Int), Option.bind_some, cond_some]; rfl)
theorem Q_br (v1 : Tg) (hv1 : v1.sz <= 1048576) : p_br v1 = p_dh v1 := by
 simp only [Tg.sz] at hv1
 have e1 := wrapI (v1.fe + v1.fN)
 have e2 := wrapI (v1.fi + v1.fN)
 have e3 := wrapI (v1.fe + (v1.fb.length : Int))
 have e4 := wrapI (v1.fe + (v1.fc.length : Int))
 have e5 := wrapI (v1.fi + (v1.fc.length : Int))
 have e6 := wrapI ((v1.fc.length : Int) + (v1.fb.length : Int))
 have e7 := wrapI (v1.fe + IntKind.i64.wrap ((v1.fc.length : Int) + (v1.fb.length : Int)))
 have e8 := wrapI (v1.fi + IntKind.i64.wrap ((v1.fc.length : Int) + (v1.fb.length : Int)))
 have e9 := wrapI (v1.fe + 1)
 have e10 := wrapI (v1.fi + 1)
 have g1 : (0 : Int) <= v1.fc.length := by omega
 have g2 : (0 : Int) <= v1.fb.length := by omega
 have g3 : (v1.fc.length : Int) + v1.fb.length <= 1048576 := by omega
 clear hv1
 rw [Bool.eq_iff_iff]
 cases hw : wordsB v1.fc
 ·simp [p_br, p_dh, hw]
 simp only [p_br, p_dh, hw, p_db, p_da, p_dg, p_cr, p_cn, p_bp, p_bq]
 by_cases k1 : v1.fd = 1
 ·simp [k1, -List.length_eq_zero_iff]; omega
 by_cases k2 : v1.fd = 2
 ·simp [k2, -List.length_eq_zero_iff]; omega
 by_cases k3 : v1.fd = 3
 ·simp [k3, -List.length_eq_zero_iff]; omega
 by_cases k4 : v1.fd = 4
 ·simp [k4, -List.length_eq_zero_iff]; omega
 by_cases k5 : v1.fd = 5
 ·simp [k5, -List.length_eq_zero_iff]; omega
 by_cases k6 : v1.fd = 6
 ·simp [k6, -List.length_eq_zero_iff]; omega
 by_cases k15 : v1.fd = 15
 ·simp [k15, -List.length_eq_zero_iff]; omega
 by_cases k16 : v1.fd = 16
 ·simp [k16, -List.length_eq_zero_iff]; omega
 by_cases k22 : v1.fd = 22
 ·simp [k22, -List.length_eq_zero_iff]; omega
 by_cases k23 : v1.fd = 23
 ·simp [k23, -List.length_eq_zero_iff]; omega
 simp [k1, k2, k3, k4, k5, k6, k15, k16, k22, k23, -List.length_eq_zero_iff]; try omega
theorem S_br (v1 : Tg) (hv1 : v1.sz <= 1048576) : x_br v1 = some (p_dh v1) := by rw [P_br v1 hv1, Q_br v1 hv1]
def p_dn (v1 : Te) : Bool := (let v2 := p_db v1.fd; (bif !v2 then false else (bif decide (v1.fae ≠ 0) then (let v5 := p_dl v1; v5) else (let v6 := p_dm v1.fd; (let v7 := p_cn ((v1.fc.length : Nat) : Int) v6.1.f0 v6.1.f1; (bif !v7 then false else (let v9 := p_cn ((v1.fb.length : Nat) : Int) v6.2.1.f0 v6.2.1.f1; (bif !v9 then false else (let v11 := wordsB v1.fc; (bif !v11 then false else (bif decide (1 < v6.2.1.f1) then (bif decide ((((v1.fb.length : Nat) : Int).tmod 8) ≠ 0) then false else (bif decide (v6.2.2.1 = 0) then (bif decide (v1.fN ≠ 0) then false else (bif decide (0 < v6.2.2.1) then (let v18 := p_cn v1.fN 1 v6.2.2.1; (bif !v18 then false else (bif v6.2.2.2 then (let v21 := p_cr v1.fe; (bif v21 then true else decide (v1.fe = 0))) else decide (v1.fe = 0)))) else (bif v6.2.2.2 then (let v24 := p_cr v1.fe; (bif v24 then true else decide (v1.fe = 0))) else decide (v1.fe = 0)))) else (bif decide (0 < v6.2.2.1) then (let v27 := p_cn v1.fN 1 v6.2.2.1; (bif !v27 then false else (bif v6.2.2.2 then (let v30 := p_cr v1.fe; (bif v30 then true else decide (v1.fe = 0))) else decide (v1.fe = 0)))) else (bif v6.2.2.2 then (let v33 := p_cr v1.fe; (bif v33 then true else decide (v1.fe = 0))) else decide (v1.fe = 0))))) else (bif decide (v6.2.2.1 = 0) then (bif decide (v1.fN ≠ 0) then false else (bif decide (0 < v6.2.2.1) then (let v38 := p_cn v1.fN 1 v6.2.2.1; (bif !v38 then false else (bif v6.2.2.2 then (let v41 := p_cr v1.fe; (bif v41 then true else decide (v1.fe = 0))) else decide (v1.fe = 0)))) else (bif v6.2.2.2 then (let v44 := p_cr v1.fe; (bif v44 then true else decide (v1.fe = 0))) else decide (v1.fe = 0)))) else (bif decide (0 < v6.2.2.1) then (let v47 := p_cn v1.fN 1 v6.2.2.1; (bif !v47 then false else (bif v6.2.2.2 then (let v50 := p_cr v1.fe; (bif v50 then true else decide (v1.fe = 0))) else decide (v1.fe = 0)))) else (bif v6.2.2.2 then (let v53 := p_cr v1.fe; (bif v53 then true else decide (v1.fe = 0))) else decide (v1.fe = 0)))))))))))))))
theorem P_dn (v1 : Te) (hv1 : v1.sz <= 1048576) : x_dn v1 = some (p_dn v1) := by
 rw [x_dn]; first | rfl | (simp only [P_db v1.fd, P_dl v1 hv1, P_dm v1.fd, S_df v1.fc (by simp only [Te.sz] at hv1; omega), P_cr v1.fe, P_cn, Option.bind_some, cond_some]; rfl)
def p_bv (v1 : Te) : Bool := (let v2 := p_db v1.fd; (bif !v2 then false else (let v4 := p_cn v1.fae 0 255; (bif !v4 then false else (let v6 := wordsB v1.fc; (bif !v6 then false else (let v8 := p_cn v1.fe 0 65535; (bif !v8 then false else (bif decide (0 < v1.fae) then (let v11 := p_bu v1 false false false false; v11) else (bif decide (v1.fd = 1) then (let v13 := p_bu v1 false false false true; (bif v13 then (let v15 := p_cn ((v1.fb.length : Nat) : Int) 1 2000; (bif v15 then decide ((((v1.fb.length : Nat) : Int).tmod 8) = 0) else false)) else false)) else (bif decide (v1.fd = 2) then (let v18 := p_bu v1 false false false true; (bif v18 then (let v20 := p_cn ((v1.fb.length : Nat) : Int) 1 2000; (bif v20 then decide ((((v1.fb.length : Nat) : Int).tmod 8) = 0) else false)) else false)) else (bif decide (v1.fd = 3) then (let v23 := p_bu v1 false false true false; (bif v23 then (let v25 := p_cn ((v1.fc.length : Nat) : Int) 1 125; v25) else false)) else (bif decide (v1.fd = 4) then (let v27 := p_bu v1 false false true false; (bif v27 then (let v29 := p_cn ((v1.fc.length : Nat) : Int) 1 125; v29) else false)) else (bif decide (v1.fd = 23) then (let v31 := p_bu v1 false false true false; (bif v31 then (let v33 := p_cn ((v1.fc.length : Nat) : Int) 1 125; v33) else false)) else (bif decide (v1.fd = 5) then (let v35 := p_bu v1 true false false true; (bif v35 then decide (((v1.fb.length : Nat) : Int) = 1) else false)) else (bif decide (v1.fd = 6) then (let v38 := p_bu v1 true false true false; (bif v38 then decide (((v1.fc.length : Nat) : Int) = 1) else false)) else (bif decide (v1.fd = 22) then (let v41 := p_bu v1 true false true false; (bif v41 then decide (((v1.fc.length : Nat) : Int) = 2) else false)) else (bif decide (v1.fd = 15) then (let v44 := p_bu v1 true true false false; (bif v44 then (let v46 := p_cn v1.fN 1 1968; v46) else false)) else (let v47 := p_bu v1 true true false false; (bif v47 then (let v49 := p_cn v1.fN 1 123; v49) else false))))))))))))))))))))
theorem P_bv (v1 : Te) (hv1 : v1.sz <= 1048576) : x_bv v1 = some (p_bv v1) := by
 rw [x_bv]; first | rfl | (simp only [S_bt v1.fd, S_bj v1.fae 0 255, S_bo v1.fc (by simp only [Te.sz] at hv1; omega), S_bj v1.fe 0 65535, P_bu v1 false false false false hv1, P_bu v1 false false false true hv1, S_bj ((v1.fb.length : Nat) : Int) 1 2000, P_bu v1 false false true false hv1, S_bj ((v1.fc.length : Nat) : Int) 1 125, P_bu v1 true false false true hv1, P_bu v1 true false true false hv1, P_bu v1 true true false false hv1, S_bj v1.fN 1 1968, S_bj v1.fN 1 123, Option.bind_some, cond_some]; rfl)
theorem Q_bv (v1 : Te) (hv1 : v1.sz <= 1048576) : p_bv v1 = p_dn v1 := by
 simp only [Te.sz] at hv1
 rw [Bool.eq_iff_iff]
 cases hw : wordsB v1.fc
 ·by_cases hf : v1.fae = 0
  ·simp [p_bv, p_dn, hw, hf]
  ·simp [p_bv, p_dn, hw, hf, p_dl, p_db, p_cn, -List.length_eq_zero_iff]
   intro _ _ _ _ _ h
   have : v1.fc = [] := List.eq_nil_of_length_eq_zero (by omega)
   rw [this] at hw; cases hw
 by_cases hf : v1.fae = 0
 ·simp only [p_bv, p_dn, hw, p_db, p_dm, p_cr, p_cn, p_bu, hf, p_dl]
  by_cases k1 : v1.fd = 1
  ·simp [k1, -List.length_eq_zero_iff]; omega
  by_cases k2 : v1.fd = 2
  ·simp [k2, -List.length_eq_zero_iff]; omega
  by_cases k3 : v1.fd = 3
  ·simp [k3, -List.length_eq_zero_iff]; omega
  by_cases k4 : v1.fd = 4
  ·simp [k4, -List.length_eq_zero_iff]; omega
  by_cases k23 : v1.fd = 23
  ·simp [k23, -List.length_eq_zero_iff]; omega
  by_cases k5 : v1.fd = 5
  ·simp [k5, -List.length_eq_zero_iff]; omega
  by_cases k6 : v1.fd = 6
  ·simp [k6, -List.length_eq_zero_iff]; omega
  by_cases k15 : v1.fd = 15
  ·simp [k15, -List.length_eq_zero_iff]; omega
  by_cases k16 : v1.fd = 16
  ·simp [k16, -List.length_eq_zero_iff]; omega
  by_cases k22 : v1.fd = 22
  ·simp [k22, -List.length_eq_zero_iff]; omega
  simp [k1, k2, k3, k4, k5, k6, k15, k16, k22, k23, -List.length_eq_zero_iff]; try omega
 ·simp only [p_bv, p_dn, hw, p_db, p_cn, p_bu, p_dl]
  by_cases hp : 0 < v1.fae
  ·simp [hf, hp, -List.length_eq_zero_iff]; omega
  ·have h0 : ¬ 0 <= v1.fae := by omega
   have h1 : ¬ 1 <= v1.fae := by omega
   simp [hf, h0, h1]
theorem S_bv (v1 : Te) (hv1 : v1.sz <= 1048576) : x_bv v1 = some (p_dn v1) := by rw [P_bv v1 hv1, Q_bv v1 hv1]
def bytes8 (n : Int) : Int := IntKind.i64.wrap ((IntKind.i64.wrap ((IntKind.i64.wrap (n + 7)).tdiv 8)) * 8)
theorem bytes8_ge {n : Int} (h1 : 1 <= n) (h2 : n <= 2000) : n <= bytes8 n /\ bytes8 n <= 2007 := by
 unfold bytes8
 rw [wrap_id (n := n + 7) (by omega) (by omega), Int.tdiv_eq_ediv_of_nonneg (by omega), wrap_id (n := (n + 7) / 8) (by omega) (by omega), wrap_id (by omega) (by omega)]
 omega
def bitsB (n : Int) (bs : List Bool) : Bool := bif decide (((bs.length : Nat) : Int) = bytes8 n) then !((bs.drop n.toNat).any id) else false
theorem P_do (v1 : Int) (v2 : List Bool) (h : v2.length <= 1048576) (h1 : 1 <= v1) (h2 : v1 <= 2000) : x_do v1 v2 = some (bitsB v1 v2) := by
 rw [x_do]
 show (bif decide (((v2.length : Nat) : Int) = bytes8 v1) then _ else _) = _
 have hb := bytes8_ge h1 h2
 unfold bitsB
 by_cases he : ((v2.length : Nat) : Int) = bytes8 v1
 ·simp only [he, decide_true, cond_true]
  rw [if_pos (by simp only [List.length_map]; omega)]
  have hd : (v2.take ((((v2.map V.bool).length : Nat) : Int).toNat)).drop (v1 : Int).toNat = v2.drop v1.toNat := by
   rw [toNat_len, List.length_map, List.take_length]
  rw [hd, P_dj _ _ (by simp; omega)]
  show some (!decide (0 <= idx0 _ _ 0)) = some (!((v2.drop v1.toNat).any id))
  rw [idx0_ge]
  congr 3; funext x; cases x <;> rfl
 ·simp [he]
theorem bitsN {body : Int -> Option (Int ⊕ (Int ⊕ Int))} {bs : List Bool} (hl : bs.length <= 1048576) (hb : ∀ s : Int, body s = (bif decide (s < ((bs.length : Nat) : Int)) then (if 0 <= s then ((bs[s.toNat]?).bind fun v => (bif v then (some (.inr (.inl s))) else (some (.inl (IntKind.i64.wrap (s + 1)))))) else none) else (some (.inr (.inr s))))) :
 ∀ (t d : List Bool) (n : Nat), d ++ t = bs -> t.length < n -> ∀ {γ : Type} (A B : Option γ), (loopN body n ((d.length : Nat) : Int)).bind (sel2 (fun _ => A) (fun _ => B)) = if t.any id then A else B
 | [], d, n, he, hn, γ, A, B => by
   obtain ⟨n, rfl⟩ : ∃ m, n = m + 1 := ⟨n - 1, by simp at hn; omega⟩
   have he : d = bs := by simpa using he
   subst he
   simp only [loopN, hb]
   simp [sel2]
 | x :: t, d, n, he, hn, γ, A, B => by
   obtain ⟨n, rfl⟩ : ∃ m, n = m + 1 := ⟨n - 1, by simp at hn; omega⟩
   have hlt := lt_mid he
   simp only [loopN, hb, toNat_len, get_mid he]
   have hd : decide (((d.length : Nat) : Int) < ((bs.length : Nat) : Int)) = true := by simp; omega
   simp only [hd, cond_true]
   rw [if_pos (by omega)]
   cases x with
   | true => simp [sel2]
   | false =>
     simp only [Option.bind_some, cond_false]
     rw [wrap_id (by omega) (by omega)]
     have := bitsN hl hb t (d ++ [false]) n (by simpa using he) (by simp at hn; omega) A B
     simpa using this
def suitsB (q : Tg) (a : Te) : Bool :=
 bif !p_dh q then false else bif !p_dn a then false else bif decide (a.fd ≠ q.fd) then false else bif decide (a.fae ≠ 0) then true else
 bif decide (q.fd = 1) || decide (q.fd = 2) then bitsB q.fN a.fb else
 bif decide (q.fd = 3) || (decide (q.fd = 4) || decide (q.fd = 23)) then decide (((a.fc.length : Nat) : Int) = q.fN) else
 bif decide (q.fd = 15) then decide (a.fe = q.fe) && decide (a.fN = ((q.fb.length : Nat) : Int)) else
 bif decide (q.fd = 16) then decide (a.fe = q.fe) && decide (a.fN = ((q.fc.length : Nat) : Int)) else
 decide (a.fe = q.fe) && (decide (a.fc = q.fc) && decide (a.fb = q.fb))
theorem reqOk_facts {q : Tg} (h : p_dh q = true) : wordsB q.fc = true /\ (q.fd = 1 \/ q.fd = 2 \/ q.fd = 3 \/ q.fd = 4 \/ q.fd = 5 \/ q.fd = 6 \/ q.fd = 15 \/ q.fd = 16 \/ q.fd = 22 \/ q.fd = 23) /\
 (0 <= q.fe /\ q.fe <= 65535) /\ (0 <= q.fi /\ q.fi <= 65535) /\
 (q.fd = 1 \/ q.fd = 2 -> 1 <= q.fN /\ q.fN <= 2000 /\ q.fc.length = 0 /\ q.fb.length = 0) /\ (q.fd = 3 \/ q.fd = 4 -> 1 <= q.fN /\ q.fN <= 125 /\ q.fc.length = 0 /\ q.fb.length = 0) /\
 (q.fd = 5 -> q.fN = 0 /\ q.fc.length = 0 /\ q.fb.length = 1) /\ (q.fd = 6 -> q.fN = 0 /\ q.fc.length = 1 /\ q.fb.length = 0) /\
 (q.fd = 15 -> q.fN = 0 /\ q.fc.length = 0 /\ 1 <= q.fb.length /\ q.fb.length <= 1968) /\ (q.fd = 16 -> q.fN = 0 /\ 1 <= q.fc.length /\ q.fc.length <= 123 /\ q.fb.length = 0) /\
 (q.fd = 22 -> q.fN = 0 /\ q.fc.length = 2 /\ q.fb.length = 0) /\ (q.fd = 23 -> 1 <= q.fN /\ q.fN <= 125 /\ 1 <= q.fc.length /\ q.fc.length <= 121 /\ q.fb.length = 0) := by
 simp only [p_dh, p_db, p_da, p_dg, p_cr, p_cn] at h
 cases hw : wordsB q.fc
 ·simp [hw] at h
 simp only [hw] at h
 refine ⟨rfl, ?_⟩
 by_cases k1 : q.fd = 1
 ·simp [k1, -List.length_eq_zero_iff] at h ⊢; omega
 by_cases k2 : q.fd = 2
 ·simp [k2, -List.length_eq_zero_iff] at h ⊢; omega
 by_cases k3 : q.fd = 3
 ·simp [k3, -List.length_eq_zero_iff] at h ⊢; omega
 by_cases k4 : q.fd = 4
 ·simp [k4, -List.length_eq_zero_iff] at h ⊢; omega
 by_cases k5 : q.fd = 5
 ·simp [k5, -List.length_eq_zero_iff] at h ⊢; omega
 by_cases k6 : q.fd = 6
 ·simp [k6, -List.length_eq_zero_iff] at h ⊢; omega
 by_cases k15 : q.fd = 15
 ·simp [k15, -List.length_eq_zero_iff] at h ⊢; omega
 by_cases k16 : q.fd = 16
 ·simp [k16, -List.length_eq_zero_iff] at h ⊢; omega
 by_cases k22 : q.fd = 22
 ·simp [k22, -List.length_eq_zero_iff] at h ⊢; omega
 by_cases k23 : q.fd = 23
 ·simp [k23, -List.length_eq_zero_iff] at h ⊢; omega
 simp [k1, k2, k3, k4, k5, k6, k15, k16, k22, k23] at h; omega
theorem respOk_facts {a : Te} (h : p_dn a = true) (h0 : a.fae = 0) : wordsB a.fc = true /\
 (a.fd = 5 -> a.fc.length = 0 /\ a.fb.length = 1) /\ (a.fd = 6 -> a.fc.length = 1 /\ a.fb.length = 0) /\ (a.fd = 22 -> a.fc.length = 2 /\ a.fb.length = 0) /\
 (a.fd = 1 \/ a.fd = 2 -> a.fc.length = 0) /\ (a.fd = 3 \/ a.fd = 4 \/ a.fd = 23 -> a.fb.length = 0) /\ (a.fd = 15 \/ a.fd = 16 -> a.fc.length = 0 /\ a.fb.length = 0) := by
 simp only [p_dn, p_db, p_dm, p_cr, p_cn, h0] at h
 cases hw : wordsB a.fc
 ·simp [hw] at h
 simp only [hw] at h
 refine ⟨rfl, ?_⟩
 by_cases k1 : a.fd = 1
 ·simp [k1, -List.length_eq_zero_iff] at h ⊢; omega
 by_cases k2 : a.fd = 2
 ·simp [k2, -List.length_eq_zero_iff] at h ⊢; omega
 by_cases k3 : a.fd = 3
 ·simp [k3, -List.length_eq_zero_iff] at h ⊢; omega
 by_cases k4 : a.fd = 4
 ·simp [k4, -List.length_eq_zero_iff] at h ⊢; omega
 by_cases k5 : a.fd = 5
 ·simp [k5, -List.length_eq_zero_iff] at h ⊢; omega
 by_cases k6 : a.fd = 6
 ·simp [k6, -List.length_eq_zero_iff] at h ⊢; omega
 by_cases k15 : a.fd = 15
 ·simp [k15, -List.length_eq_zero_iff] at h ⊢; omega
 by_cases k16 : a.fd = 16
 ·simp [k16, -List.length_eq_zero_iff] at h ⊢; omega
 by_cases k22 : a.fd = 22
 ·simp [k22, -List.length_eq_zero_iff] at h ⊢; omega
 by_cases k23 : a.fd = 23
 ·simp [k23, -List.length_eq_zero_iff] at h ⊢; omega
 simp [k1, k2, k3, k4, k5, k6, k15, k16, k22, k23]
theorem eqNB {α : Type} [DecidableEq α] {β γ : Type} {a c : List α} (hl : a.length <= 1048576) {body : Int -> α -> Unit -> Option (Unit ⊕ (Int ⊕ Unit))} {last : Unit -> Option (Int ⊕ Unit)} (hlast : last () = some (.inr ()))
 (hb : ∀ k x, body k x () = (c[k.toNat]?).bind fun v => (bif !decide (x = v) then some (.inr (.inl k)) else some (.inl ()))) :
 (bif decide (((a.length : Nat) : Int) ≠ ((c.length : Nat) : Int)) then some false else (if a.length <= 9223372036854775806 then listN body last a 0 () else none).bind (sel2 (fun _ => some false) (fun _ => some true))) = some (decide (a = c)) := by
 by_cases he : a.length = c.length
 ·have h0 : decide (((a.length : Nat) : Int) ≠ ((c.length : Nat) : Int)) = false := by simp [he]
  rw [h0, cond_false, anyB (fun d x => !decide (some x = c[d.length]?)) (by omega) hlast (fun d x t h => ?_)]
  ·have key : ∀ (t d : List α), d ++ t = a -> d = c.take d.length -> (anyP (fun d x => !decide (some x = c[d.length]?)) d t = false ↔ t = c.drop d.length) := by
    intro t
    induction t with
    | nil => intro d h _; simp [anyP]; have : d = a := by simpa using h
             subst this; simp [he]
    | cons x t ih =>
      intro d h hd
      have hlt : d.length < c.length := by rw [<- he, <- h]; simp
      simp only [anyP, Bool.or_eq_false_iff]
      rw [List.drop_eq_getElem_cons hlt, List.getElem?_eq_getElem hlt]
      by_cases hx : x = c[d.length]
      ·have := ih (d ++ [x]) (by simpa using h) (by rw [List.length_append, List.length_singleton, List.take_add_one, List.getElem?_eq_getElem hlt, <- hd, hx]; rfl)
       simp only [hx, decide_true, Bool.not_true, true_and, List.cons.injEq]
       rw [<- hx, this]; simp
      ·exact ⟨fun h => by simp [hx] at h, fun h => absurd (List.cons.inj h).1 hx⟩
   have := key a [] rfl (by simp)
   simp only [List.length_nil, List.drop_zero] at this
   by_cases hac : a = c
   ·rw [if_neg (by rw [this.2 hac]; simp)]; simp [hac]
   ·have hp : anyP (fun d x => !decide (some x = c[d.length]?)) [] a = true := by
     cases h : anyP (fun d x => !decide (some x = c[d.length]?)) [] a
     ·exact absurd (this.1 h) hac
     ·rfl
    rw [if_pos hp]; simp [hac]
  ·have hlt : d.length < c.length := by rw [<- he, <- h]; simp
   refine ⟨((d.length : Nat) : Int), ?_⟩
   rw [hb, toNat_len, List.getElem?_eq_getElem hlt, Option.bind_some]
   by_cases hx : x = c[d.length] <;> simp [hx]
 ·have h0 : decide (((a.length : Nat) : Int) ≠ ((c.length : Nat) : Int)) = true := by simp; omega
  rw [h0, cond_true]
  have : ¬ a = c := fun e => he (by rw [e])
  simp [this]
theorem S_impl_Equal_int (v1 : List Int) (v2 : List Int) (hv1 : v1.length <= 1048576) (hv2 : v2.length <= 1048576) : x_dp v1 v2 = some (decide (v1 = v2)) := by
 rw [x_dp]; unfold x_dp_L1
 exact eqNB (β := Unit) (γ := Unit) hv1 rfl (fun k x => by rw [b_dp_L1]; simp only [ne_eq, decide_not])
theorem xorT (a b : Bool) : (true ^^ (a == b)) = !decide (a = b) := by cases a <;> cases b <;> rfl
theorem S_impl_Equal_bool (v1 : List Bool) (v2 : List Bool) (hv1 : v1.length <= 1048576) (hv2 : v2.length <= 1048576) : x_dq v1 v2 = some (decide (v1 = v2)) := by
 rw [x_dq]; unfold x_dq_L1
 exact eqNB (β := Unit) (γ := Unit) hv1 rfl (fun k x => by rw [b_dq_L1]; simp only [xorT])
theorem S_bw (v1 : List Int) (v2 : List Int) (hv1 : v1.length <= 1048576) (hv2 : v2.length <= 1048576) : x_bw v1 v2 = some (decide (v1 = v2)) := by
 rw [x_bw]; unfold x_bw_L1
 exact eqNB (β := Unit) (γ := Unit) hv1 rfl (fun k x => by rw [b_bw_L1]; simp only [ne_eq, decide_not])
theorem S_cd (v1 : List Bool) (v2 : List Bool) (hv1 : v1.length <= 1048576) (hv2 : v2.length <= 1048576) : x_cd v1 v2 = some (decide (v1 = v2)) := by
 rw [x_cd]; unfold x_cd_L1
 exact eqNB (β := Unit) (γ := Unit) hv1 rfl (fun k x => by rw [b_cd_L1]; simp only [xorT])
def eqI (a b : List Int) : Bool := decide (a = b)
def eqB (a b : List Bool) : Bool := decide (a = b)
theorem S_dr (v1 : Tg) (v2 : Te) (hv1 : v1.sz <= 1048576) (hv2 : v2.sz <= 1048576) : x_dr v1 v2 = some (suitsB v1 v2) := by
 have g1 := hv1; have g2 := hv2
 simp only [Tg.sz, Te.sz] at g1 g2
 rw [x_dr]
 simp only [P_dh v1 hv1, P_dn v2 hv2, Option.bind_some]
 unfold suitsB
 cases hq : p_dh v1
 ·rfl
 cases ha : p_dn v2
 ·rfl
 have F := reqOk_facts hq
 by_cases hk : v2.fd = v1.fd
 rotate_left
 ·simp [hk]
 by_cases hf : v2.fae = 0
 rotate_left
 ·simp [hk, hf]
 simp only [hk, hf, ne_eq, not_true_eq_false, decide_false, cond_false, Bool.not_true]
 by_cases k1 : v1.fd = 1
 ·have := F.2.2.2.2.1 (.inl k1); simp [k1, P_do v1.fN v2.fb (by omega) this.1 this.2.1]
 by_cases k2 : v1.fd = 2
 ·have := F.2.2.2.2.1 (.inr k2); simp [k2, P_do v1.fN v2.fb (by omega) this.1 this.2.1]
 by_cases k3 : v1.fd = 3
 ·simp [k3]
 by_cases k4 : v1.fd = 4
 ·simp [k4]
 by_cases k23 : v1.fd = 23
 ·simp [k23]
 by_cases k15 : v1.fd = 15
 ·have h15 := F.2.2.2.2.2.2.2.2.1 k15
  have hw : IntKind.i64.wrap ((v1.fc.length : Int) + (v1.fb.length : Int)) = v1.fb.length := by rw [wrap_id (by omega) (by omega)]; omega
  simp only [P_dg v1 hv1, p_dg, k15, hw]
  by_cases hAt : v2.fe = v1.fe <;> simp [hAt]
 by_cases k16 : v1.fd = 16
 ·have h16 := F.2.2.2.2.2.2.2.2.2.1 k16
  have hw : IntKind.i64.wrap ((v1.fc.length : Int) + (v1.fb.length : Int)) = v1.fc.length := by rw [wrap_id (by omega) (by omega)]; omega
  simp only [P_dg v1 hv1, p_dg, k16, hw]
  by_cases hAt : v2.fe = v1.fe <;> simp [hAt]
 simp only [k1, k2, k3, k4, k23, k15, k16, S_impl_Equal_int v2.fc v1.fc (by omega) (by omega), S_impl_Equal_bool v2.fb v1.fb (by omega) (by omega)]
 by_cases hAt : v2.fe = v1.fe <;> by_cases hw : v2.fc = v1.fc <;> simp [hAt, hw]
theorem one_list {l m : List Bool} (h1 : l.length = 1) (h2 : m.length = 1) : ∃ x y, l = [x] /\ m = [y] := by
 obtain ⟨x, rfl⟩ := List.length_eq_one_iff.1 h1
 obtain ⟨y, rfl⟩ := List.length_eq_one_iff.1 h2
 exact ⟨x, y, rfl, rfl⟩
theorem suitsEnd (v1 : Tg) (v2 : Te) (g2 : v2.fb.length <= 1048576) (h1 : 1 <= v1.fN) (h2 : v1.fN <= 2000) {body : Int -> Option (Int ⊕ (Int ⊕ Int))}
 (h : (loopN body BIG (((v2.fb.take v1.fN.toNat).length : Nat) : Int)).bind (sel2 (fun _ => some false) (fun _ => some (decide (((v2.fb.length : Nat) : Int) = bytes8 v1.fN)))) = if (v2.fb.drop v1.fN.toNat).any id then some false else some (decide (((v2.fb.length : Nat) : Int) = bytes8 v1.fN)))
 (hlong : v1.fN <= v2.fb.length -> True := by intro; trivial) (hshort : ∀ A : Option Bool, ¬ v1.fN <= v2.fb.length -> (loopN body BIG v1.fN).bind (sel2 (fun _ => some false) (fun _ => A)) = A) :
 (loopN body BIG v1.fN).bind (sel2 (fun _ => some false) (fun _ => some (decide (((v2.fb.length : Nat) : Int) = bytes8 v1.fN)))) = some (bitsB v1.fN v2.fb) := by
 have hb := bytes8_ge h1 h2
 by_cases hl : v1.fN <= v2.fb.length
 ·have e : (((v2.fb.take v1.fN.toNat).length : Nat) : Int) = v1.fN := by rw [List.length_take]; omega
  rw [e] at h
  rw [h]
  unfold bitsB
  cases ha : (v2.fb.drop v1.fN.toNat).any id <;> by_cases hd : ((v2.fb.length : Nat) : Int) = bytes8 v1.fN <;> simp [hd]
 ·rw [hshort _ hl]
  have : ¬ ((v2.fb.length : Nat) : Int) = bytes8 v1.fN := by omega
  simp [bitsB, this]
theorem S_bx (v1 : Tg) (v2 : Te) (hv1 : v1.sz <= 1048576) (hv2 : v2.sz <= 1048576) : x_bx v1 v2 = some (suitsB v1 v2) := by
 have g1 := hv1; have g2 := hv2
 simp only [Tg.sz, Te.sz] at g1 g2
 rw [x_bx]
 simp only [S_br v1 hv1, S_bv v2 hv2, Option.bind_some]
 unfold suitsB
 cases hq : p_dh v1
 ·rfl
 cases ha : p_dn v2
 ·rfl
 have F := reqOk_facts hq
 by_cases hk : v1.fd = v2.fd
 rotate_left
 ·have hk' : ¬ v2.fd = v1.fd := fun e => hk e.symm
  simp [hk, hk']
 have hge : 0 <= v2.fae := by
  simp only [p_dn, p_dl, p_cn] at ha
  by_cases h0 : v2.fae = 0
  ·omega
  ·simp [h0, -List.length_eq_zero_iff] at ha; omega
 by_cases hf : v2.fae = 0
 rotate_left
 ·have : 0 < v2.fae := by omega
  simp [hk, hf, this]
 have Fa := respOk_facts ha hf
 simp only [<- hk, hf, ne_eq, not_true_eq_false, decide_false, cond_false, Bool.not_true, Int.lt_irrefl]
 rw [<- hk] at Fa
 by_cases k1 : v1.fd = 1
 ·have hn := F.2.2.2.2.1 (.inl k1)
  simp only [k1, decide_true, cond_true]
  have h := bitsN (body := fun s => (b_bx_L1 v1 v2 s)) (bs := v2.fb) (by omega) (fun s => rfl) (v2.fb.drop v1.fN.toNat) (v2.fb.take v1.fN.toNat) BIG (List.take_append_drop ..) (by simp [BIG]; omega) (some false) (some (decide (((v2.fb.length : Nat) : Int) = bytes8 v1.fN)))
  simp only [k1, decide_true, cond_true, Bool.true_or]
  exact suitsEnd v1 v2 (by omega) hn.1 hn.2.1 h (hshort := fun A hl => by
   have hd : decide (v1.fN < ((v2.fb.length : Nat) : Int)) = false := by simp only [decide_eq_false_iff_not]; omega
   have hb : (b_bx_L1 v1 v2 v1.fN) = some (.inr (.inr v1.fN)) := by rw [b_bx_L1, hd]; rfl
   show (loopN _ (BIG - 1 + 1) _).bind _ = A
   simp only [loopN, hb]; rfl)
 by_cases k2 : v1.fd = 2
 ·have hn := F.2.2.2.2.1 (.inr k2)
  have h := bitsN (body := fun s => (b_bx_L2 v1 v2 s)) (bs := v2.fb) (by omega) (fun s => rfl) (v2.fb.drop v1.fN.toNat) (v2.fb.take v1.fN.toNat) BIG (List.take_append_drop ..) (by simp [BIG]; omega) (some false) (some (decide (((v2.fb.length : Nat) : Int) = bytes8 v1.fN)))
  simp only [k2, decide_true, cond_true, Bool.or_true, show decide ((2 : Int) = 1) = false from rfl, cond_false]
  exact suitsEnd v1 v2 (by omega) hn.1 hn.2.1 h (hshort := fun A hl => by
   have hd : decide (v1.fN < ((v2.fb.length : Nat) : Int)) = false := by simp only [decide_eq_false_iff_not]; omega
   have hb : (b_bx_L2 v1 v2 v1.fN) = some (.inr (.inr v1.fN)) := by rw [b_bx_L2, hd]; rfl
   show (loopN _ (BIG - 1 + 1) _).bind _ = A
   simp only [loopN, hb]; rfl)
 by_cases k3 : v1.fd = 3
 ·simp [k3]
 by_cases k4 : v1.fd = 4
 ·simp [k4]
 by_cases k23 : v1.fd = 23
 ·simp [k23]
 by_cases k5 : v1.fd = 5
 ·have h5 := F.2.2.2.2.2.2.1 k5
  have a5 := Fa.2.1 k5
  obtain ⟨x, y, hx, hy⟩ := one_list h5.2.2 a5.2
  have w1 : v1.fc = [] := List.eq_nil_of_length_eq_zero h5.2.1
  have w2 : v2.fc = [] := List.eq_nil_of_length_eq_zero a5.1
  simp only [k5, hx, hy, w1, w2]
  by_cases hAt : v2.fe = v1.fe <;> cases x <;> cases y <;> simp [hAt]
 by_cases k6 : v1.fd = 6
 ·have h6 := F.2.2.2.2.2.2.2.1 k6
  have a6 := Fa.2.2.1 k6
  have w1 : v1.fb = [] := List.eq_nil_of_length_eq_zero h6.2.2
  have w2 : v2.fb = [] := List.eq_nil_of_length_eq_zero a6.2
  simp only [k6, w1, w2, S_bw v2.fc v1.fc (by omega) (by omega)]
  by_cases hAt : v2.fe = v1.fe <;> simp [hAt]
 by_cases k22 : v1.fd = 22
 ·have h22 := F.2.2.2.2.2.2.2.2.2.2.1 k22
  have a22 := Fa.2.2.2.1 k22
  have w1 : v1.fb = [] := List.eq_nil_of_length_eq_zero h22.2.2
  have w2 : v2.fb = [] := List.eq_nil_of_length_eq_zero a22.2
  simp only [k22, w1, w2, S_bw v2.fc v1.fc (by omega) (by omega)]
  by_cases hAt : v2.fe = v1.fe <;> simp [hAt]
 by_cases k15 : v1.fd = 15
 ·simp only [k15]
  by_cases hAt : v2.fe = v1.fe <;> simp [hAt]
 have k16 : v1.fd = 16 := by have := F.2.1; omega
 simp only [k16]
 by_cases hAt : v2.fe = v1.fe <;> simp [hAt]
end Go.Pm
namespace Go.Pm
theorem cntN {β δ γ : Type} {body : Int -> Option (Int ⊕ (β ⊕ δ))} (p : Nat -> Bool) (N : Nat) (hN : N <= 1048576) (hb : ∀ i : Nat, i < N -> ∃ e, body i = some (if p i then .inr (.inl e) else .inl ((i : Int) + 1))) (he : ∃ e, body N = some (.inr (.inr e))) (A B : Option γ) :
 (loopN body BIG 0).bind (sel2 (fun _ => A) (fun _ => B)) = if (List.range N).any p then A else B := by
 have key : ∀ (m i n : Nat), i + m = N -> m < n -> (loopN body n (i : Int)).bind (sel2 (fun _ => A) (fun _ => B)) = if (List.range' i m).any p then A else B := by
  intro m
  induction m with
  | zero =>
    intro i n hi hn
    obtain ⟨n, rfl⟩ : ∃ q, n = q + 1 := ⟨n - 1, by omega⟩
    have : i = N := by omega
    subst this
    obtain ⟨e, he⟩ := he
    simp [loopN, he, sel2]
  | succ m ih =>
    intro i n hi hn
    obtain ⟨n, rfl⟩ : ∃ q, n = q + 1 := ⟨n - 1, by omega⟩
    obtain ⟨e, hbe⟩ := hb i (by omega)
    simp only [loopN, hbe, List.range'_succ, List.any_cons]
    cases hp : p i with
    | true => simp [sel2]
    | false =>
      have := ih (i + 1) n (by omega) (by omega)
      rw [Bool.false_or]
      simpa using this
 have := key N 0 BIG (by omega) (by simp only [BIG]; omega)
 rw [List.range_eq_range']
 simpa using this
theorem any_range {α : Type} (q : α -> Bool) {xs d t : List α} (h : d ++ t = xs) : (List.range d.length).any (fun i => (xs[i]?).any q) = d.any q := by
 subst h
 rw [Bool.eq_iff_iff]
 simp only [List.any_eq_true, List.mem_range, Option.any_eq_true]
 constructor
 ·rintro ⟨i, hi, y, hy, hq⟩
  rw [List.getElem?_append_left hi] at hy
  exact ⟨y, List.mem_of_getElem? hy, hq⟩
 ·rintro ⟨y, hy, hq⟩
  obtain ⟨i, hi, e⟩ := List.getElem_of_mem hy
  exact ⟨i, hi, y, by rw [List.getElem?_append_left hi, List.getElem?_eq_getElem hi, e], hq⟩
def foldP {α σ : Type} (f : σ -> List α -> α -> σ) : σ -> List α -> List α -> σ
 | s, _, [] => s
 | s, d, x :: t => foldP f (f s d x) (d ++ [x]) t
theorem anyS {α β δ σ γ : Type} {body : Int -> α -> σ -> Option (σ ⊕ (β ⊕ δ))} {last : σ -> Option (β ⊕ δ)} {xs : List α} (p : List α -> α -> Bool) (f : σ -> List α -> α -> σ) (g : σ -> δ) (hl : xs.length <= 9223372036854775806) (hlast : ∀ s, last s = some (.inr (g s)))
 (hb : ∀ d x t s, d ++ x :: t = xs -> ∃ e, body ((d.length : Nat) : Int) x s = some (if p d x then .inr (.inl e) else .inl (f s d x))) (s0 : σ) (A : Option γ) (B : δ -> Option γ) :
 (if xs.length <= 9223372036854775806 then listN body last xs 0 s0 else none).bind (sel2 (fun _ => A) (fun v => B v)) = if anyP p [] xs then A else B (g (foldP f s0 [] xs)) := by
 rw [if_pos hl]
 have key : ∀ (t d : List α) (s : σ), d ++ t = xs -> (listN body last t ((d.length : Nat) : Int) s).bind (sel2 (fun _ => A) (fun v => B v)) = if anyP p d t then A else B (g (foldP f s d t)) := by
  intro t
  induction t with
  | nil => intro d s _; simp [listN, hlast, anyP, foldP, sel2]
  | cons x t ih =>
    intro d s he
    obtain ⟨e, hbe⟩ := hb d x t s he
    simp only [listN, hbe, anyP, foldP]
    by_cases hp : p d x = true
    ·simp [hp, sel2]
    ·have := ih (d ++ [x]) (f s d x) (by simpa using he)
     simp only [hp, Bool.false_or]
     simpa using this
 exact key xs [] s0 rfl
def overB (x y : Td) : Bool := p_cu x y
def ruleBad (d : List Td) (x : Td) : Bool := !p_ct x || d.any (fun y => overB y x)
def rulesB (l : List Td) : Bool := !anyP ruleBad [] l && decide (((l.length : Nat) : Int) <= 24)
theorem contRule (l : List Td) (x : Td) : p_cw l x = l.any (fun y => p_cu y x) := idx0_ge
theorem S_cx (v1 : List Td) (hv1 : v1.length <= 1048576) : x_cx v1 = some (rulesB v1) := by
 rw [x_cx]; unfold x_cx_L1
 rw [anyB ruleBad (by omega) rfl (fun d x t he => ⟨_, by
  rw [b_cx_L1]
  have hd : (v1.take (((d.length : Nat) : Int)).toNat).drop (0 : Int).toNat = d := by
   rw [toNat_len, <- he]; simp
  have hlt := lt_mid he
  rw [P_ct, hd, P_cw d x (by omega), if_pos (by simp only [List.length_map]; omega)]
  simp only [Option.bind_some, contRule]
  show _ = some (if ruleBad d x = true then _ else _)
  unfold ruleBad overB
  cases hr : p_ct x
  ·rfl
  ·cases ha : d.any fun y => p_cu y x <;> rfl⟩)]
 unfold rulesB
 cases anyP ruleBad [] v1 <;> rfl
theorem ruleOk_eq (r : Td) (h : r.ok) : p_bl r = p_ct r := by
 simp only [Td.ok] at h
 have e1 := wrapI (r.faf + r.fah)
 have e2 := wrapI (r.fag + r.fah)
 rw [Bool.eq_iff_iff]
 simp [p_bl, p_ct, p_cq, p_cr, p_cs, p_cn]
 omega
theorem S_bm_L2 (v1 : List Td) (hv1 : v1.length <= 1048576) {d t : List Td} {x : Td} (he : d ++ x :: t = v1) {γ : Type} (A B : Option γ) :
 (x_bm_L2 v1 ((d.length : Nat) : Int) 0).bind (sel2 (fun _ => A) (fun _ => B)) = if d.any (fun y => overB y x) then A else B := by
 have hlt := lt_mid he
 unfold x_bm_L2
 rw [cntN (fun i => (v1[i]?).any (fun y => overB y x)) d.length (by omega) (fun i hi => ?_) ⟨((d.length : Nat) : Int), by rw [b_bm_L2]; simp⟩, any_range (fun y => overB y x) he]
 have hi' : i < v1.length := by omega
 refine ⟨(i : Int), ?_⟩
 rw [b_bm_L2, toNat_len, toNat_len, get_mid he, List.getElem?_eq_getElem hi']
 have hd : decide (((i : Nat) : Int) < ((d.length : Nat) : Int)) = true := by simp; omega
 have hw : IntKind.i64.wrap ((i : Int) + 1) = (i : Int) + 1 := wrap_id (by omega) (by omega)
 simp only [hd, cond_true, Option.bind_some, hw, Option.any_some, overB, p_cu, if_pos (Int.natCast_nonneg _)]
 by_cases h1 : v1[i].fh = x.fh <;> by_cases h2 : v1[i].fat = x.fat <;> by_cases h3 : v1[i].faf <= x.fag <;> by_cases h4 : x.faf <= v1[i].fag <;> simp [h1, h2, h3, h4]
theorem S_bm (v1 : List Td) (hv1 : v1.length <= 1048576) (hok : ∀ r ∈ v1, r.ok) : x_bm v1 = some (rulesB v1) := by
 rw [x_bm]; unfold x_bm_L1
 unfold rulesB
 by_cases hl : 24 < ((v1.length : Nat) : Int)
 ·have : ¬ ((v1.length : Nat) : Int) <= 24 := by omega
  simp [hl, this]
 ·have hl' : ((v1.length : Nat) : Int) <= 24 := by omega
  simp only [hl, decide_false, cond_false, hl', decide_true, Bool.and_true]
  rw [anyB ruleBad (by omega) rfl (fun d x t he => ?_)]
  ·cases anyP ruleBad [] v1 <;> rfl
  ·rw [b_bm_L1, P_bl, ruleOk_eq x (hok x (by rw [<- he]; simp))]
   unfold ruleBad
   simp only [Option.bind_some]
   cases hr : p_ct x
   ·exact ⟨_, rfl⟩
   ·simp only [Bool.not_true, cond_false, Bool.false_or]
    have h := fun (A B : Option (Unit ⊕ ((Int × V × V × V) ⊕ Unit))) => S_bm_L2 v1 hv1 he A B
    cases hx : x_bm_L2 v1 ((d.length : Nat) : Int) 0 with
    | none => have := h (some (.inl ())) (some (.inl ())); rw [hx] at this; simp at this
    | some r =>
      have h1 := h (some (.inr (.inr ()))) (some (.inl ()))
      rw [hx] at h1
      cases r with
      | inl a =>
        simp only [Option.bind_some, sel2] at h1 ⊢
        refine ⟨(((d.length : Nat) : Int), (.int .i64 a : V), (.gone : V), (.bool true : V)), ?_⟩
        split at h1
        ·rename_i ha; rw [if_pos ha]
        ·cases h1
      | inr a =>
        simp only [Option.bind_some, sel2] at h1 ⊢
        split at h1
        ·cases h1
        ·rename_i ha; exact ⟨(0, .gone, .gone, .gone), by rw [if_neg ha]⟩
def configB (c : Tl) : Bool := p_cp c.fab c.fw && rulesB c.fad
theorem S_cy (c : Tl) (h : c.sz <= 1048576) : x_cy c = some (configB c) := by
 simp only [Tl.sz] at h
 rw [x_cy, P_cp, Option.bind_some]
 unfold configB
 cases p_cp c.fab c.fw
 ·rfl
 ·simp only [cond_true, S_cx c.fad (by omega), Option.bind_some, Bool.true_and]
theorem S_bn (c : Tl) (h : c.sz <= 1048576) (hok : c.ok) : x_bn c = some (configB c) := by
 simp only [Tl.sz] at h
 rw [x_bn]
 simp only [S_bj, Option.bind_some, S_bm c.fad (by omega) hok.2.2.2]
 unfold configB p_cp
 cases p_cn c.fab 1 100 <;> cases p_cn c.fw 0 5 <;> rfl
def p_dy (v1 : Tg) (v2 : Tg) : Bool := (bif decide (v1.fd = v2.fd) then (bif decide (v1.fe = v2.fe) then (bif decide (v1.fN = v2.fN) then (bif decide (v1.fi = v2.fi) then (let v7 := eqI v1.fc v2.fc; (bif v7 then (let v9 := eqB v1.fb v2.fb; v9) else false)) else false) else false) else false) else false)
theorem P_dy (v1 : Tg) (v2 : Tg) (hv1 : v1.sz <= 1048576) (hv2 : v2.sz <= 1048576) : x_dy v1 v2 = some (p_dy v1 v2) := by
 rw [x_dy]; first | rfl | (simp only [S_impl_Equal_int v1.fc v2.fc (by simp only [Tg.sz] at hv1; omega) (by simp only [Tg.sz] at hv2; omega), S_impl_Equal_bool v1.fb v2.fb (by simp only [Tg.sz] at hv1; omega) (by simp only [Tg.sz] at hv2; omega), Option.bind_some, cond_some]; rfl)
def p_ds (v1 : Te) (v2 : Te) : Bool := (bif decide (v1.fd = v2.fd) then (bif decide (v1.fae = v2.fae) then (bif decide (v1.fe = v2.fe) then (bif decide (v1.fN = v2.fN) then (let v7 := eqI v1.fc v2.fc; (bif v7 then (let v9 := eqB v1.fb v2.fb; v9) else false)) else false) else false) else false) else false)
theorem P_ds (v1 : Te) (v2 : Te) (hv1 : v1.sz <= 1048576) (hv2 : v2.sz <= 1048576) : x_ds v1 v2 = some (p_ds v1 v2) := by
 rw [x_ds]; first | rfl | (simp only [S_impl_Equal_int v1.fc v2.fc (by simp only [Te.sz] at hv1; omega) (by simp only [Te.sz] at hv2; omega), S_impl_Equal_bool v1.fb v2.fb (by simp only [Te.sz] at hv1; omega) (by simp only [Te.sz] at hv2; omega), Option.bind_some, cond_some]; rfl)
def p_ce (v1 : Tg) (v2 : Tg) : Bool := (bif decide (v1.fd = v2.fd) then (bif decide (v1.fe = v2.fe) then (bif decide (v1.fN = v2.fN) then (bif decide (v1.fi = v2.fi) then (let v7 := eqI v1.fc v2.fc; (bif v7 then (let v9 := eqB v1.fb v2.fb; v9) else false)) else false) else false) else false) else false)
theorem P_ce (v1 : Tg) (v2 : Tg) (hv1 : v1.sz <= 1048576) (hv2 : v2.sz <= 1048576) : x_ce v1 v2 = some (p_ce v1 v2) := by
 rw [x_ce]; first | rfl | (simp only [S_bw v1.fc v2.fc (by simp only [Tg.sz] at hv1; omega) (by simp only [Tg.sz] at hv2; omega), S_cd v1.fb v2.fb (by simp only [Tg.sz] at hv1; omega) (by simp only [Tg.sz] at hv2; omega), Option.bind_some, cond_some]; rfl)
def p_cg (v1 : Tg) : Bool := (bif decide (v1.fd = 0) then (bif decide (v1.fe = 0) then (bif decide (v1.fN = 0) then (bif decide (((v1.fc.length : Nat) : Int) = 0) then (bif decide (((v1.fb.length : Nat) : Int) = 0) then decide (v1.fi = 0) else false) else false) else false) else false) else false)
theorem P_cg (v1 : Tg) (hv1 : v1.sz <= 1048576) : x_cg v1 = some (p_cg v1) := by
 rw [x_cg]; first | rfl | (simp only [Option.bind_some, cond_some]; rfl)
def p_by (v1 : Te) : Bool := (bif decide (v1.fd = 0) then (bif decide (v1.fae = 0) then (bif decide (v1.fe = 0) then (bif decide (v1.fN = 0) then (bif decide (((v1.fc.length : Nat) : Int) = 0) then decide (((v1.fb.length : Nat) : Int) = 0) else false) else false) else false) else false) else false)
theorem P_by (v1 : Te) (hv1 : v1.sz <= 1048576) : x_by v1 = some (p_by v1) := by
 rw [x_by]; first | rfl | (simp only [Option.bind_some, cond_some]; rfl)
def p_dk (v1 : Tf) : Bool := (let v2 := p_cs v1.fac; (bif v2 then (let v4 := p_cq v1.fh; (bif v4 then (let v6 := p_dh v1.fa; v6) else false)) else false))
theorem P_dk (v1 : Tf) (hv1 : v1.sz <= 1048576) : x_dk v1 = some (p_dk v1) := by
 rw [x_dk]; first | rfl | (simp only [P_cs v1.fac, P_cq v1.fh, P_dh v1.fa (by simp only [Tf.sz] at hv1; omega), Option.bind_some, cond_some]; rfl)
def p_bs (v1 : Tf) : Bool := (let v2 := p_cn v1.fac 0 5; (bif v2 then (let v4 := p_cn v1.fh 1 247; (bif v4 then (let v6 := p_dh v1.fa; v6) else false)) else false))
theorem P_bs (v1 : Tf) (hv1 : v1.sz <= 1048576) : x_bs v1 = some (p_bs v1) := by
 rw [x_bs]; first | rfl | (simp only [S_bj v1.fac 0 5, S_bj v1.fh 1 247, S_br v1.fa (by simp only [Tf.sz] at hv1; omega), Option.bind_some, cond_some]; rfl)
def p_ec (v1 : Ta) : Bool := (bif decide (v1.fj = 0) then (bif decide (v1.fk = 0) then (bif decide (v1.fh = 0) then (let v5 := p_dy v1.fa (⟨0, 0, 0, [], [], 0⟩ : Tg); v5) else false) else false) else false)
theorem P_ec (v1 : Ta) (hv1 : v1.sz <= 1048576) : x_ec v1 = some (p_ec v1) := by
 rw [x_ec]; first | rfl | (simp only [P_dy v1.fa (⟨0, 0, 0, [], [], 0⟩ : Tg) (by simp only [Ta.sz] at hv1; omega) (by simp [Tg.sz]), Option.bind_some, cond_some]; rfl)
theorem Q_ce (v1 : Tg) (v2 : Tg) (hv1 : v1.sz <= 1048576) (hv2 : v2.sz <= 1048576) : p_ce v1 v2 = p_dy v1 v2 := by
 simp only [p_ce, p_dy]
theorem S_ce (v1 : Tg) (v2 : Tg) (hv1 : v1.sz <= 1048576) (hv2 : v2.sz <= 1048576) : x_ce v1 v2 = some (p_dy v1 v2) := by rw [P_ce v1 v2 hv1 hv2, Q_ce v1 v2 hv1 hv2]
theorem noReq_eq (a : Tg) : p_cg a = p_dy a ⟨0, 0, 0, [], [], 0⟩ := by
 simp only [p_cg, p_dy, eqI, eqB]
 rw [Bool.eq_iff_iff]
 simp [Bool.cond_eq_ite]
 grind
theorem noResp_eq (a : Te) : p_by a = p_ds a ⟨0, 0, 0, 0, [], []⟩ := by
 simp only [p_by, p_ds, eqI, eqB]
 rw [Bool.eq_iff_iff]
 simp [Bool.cond_eq_ite]
theorem Q_bs (v1 : Tf) (hv1 : v1.sz <= 1048576) : p_bs v1 = p_dk v1 := by
 rfl
theorem S_bs (v1 : Tf) (hv1 : v1.sz <= 1048576) : x_bs v1 = some (p_dk v1) := by rw [P_bs v1 hv1, Q_bs v1 hv1]
end Go.Pm
namespace Go.Pm
theorem contBool (l : List Bool) (x : Bool) : p_dj l x = l.any (fun y => false ^^ (x == y)) := idx0_ge
def partBad (p : Tb) (d : List Tf) (x : Tf) : Bool :=
 !p_dk x || (match p.fq[d.length]?, p.faa[d.length]? with
  | some h, some r => (bif h then !suitsB x.fa r else !p_ds r ⟨0, 0, 0, 0, [], []⟩)
  | _, _ => false)
def pendB (p : Tb) : Bool := p_cz p.fai && (p_cz p.faj && (p_dh p.fa && (p_cn ((p.fm.length : Nat) : Int) 1 8 && (decide (p.fq.length = p.fm.length) && (decide (p.faa.length = p.fm.length) && (!anyP (partBad p) [] p.fm && p.fq.any (fun h => !h)))))))
theorem mem_mid {α : Type} {d t xs : List α} {x : α} (he : d ++ x :: t = xs) : x ∈ xs := by rw [<- he]; simp
theorem S_dt (v1 : Tb) (hv1 : v1.sz <= 1048576) : x_dt v1 = some (decide (0 <= v1.fj) && pendB v1) := by
 have g := hv1
 simp only [Tb.sz] at g
 have gp := szL_len (f := Tf.sz) (xs := v1.fm)
 have gt := szL_len (f := Te.sz) (xs := v1.faa)
 rw [x_dt]
 by_cases hid : v1.fj < 0
 ·have : ¬ 0 <= v1.fj := by omega
  simp [hid, this]
 have hid' : 0 <= v1.fj := by omega
 simp only [hid, hid', decide_false, cond_false, decide_true, Bool.true_and, P_cz, P_dh v1.fa (by omega), P_cn, Option.bind_some]
 unfold pendB
 cases p_cz v1.fai
 ·rfl
 cases p_cz v1.faj
 ·rfl
 cases p_dh v1.fa
 ·rfl
 cases p_cn ((v1.fm.length : Nat) : Int) 1 8
 ·rfl
 by_cases h1 : v1.fq.length = v1.fm.length
 rotate_left
 ·have h1' : ¬ ((v1.fq.length : Nat) : Int) = ((v1.fm.length : Nat) : Int) := by omega
  simp [h1, h1']
 by_cases h2 : v1.faa.length = v1.fm.length
 rotate_left
 ·have h2' : ¬ ((v1.faa.length : Nat) : Int) = ((v1.fm.length : Nat) : Int) := by omega
  simp [h1, h2, h2']
 simp only [h1, h2, Bool.not_true, cond_false, ne_eq, not_true_eq_false, decide_false, decide_true, Bool.true_and]
 unfold x_dt_L1
 rw [anyB (partBad v1) (by omega) rfl (fun d x t he => ⟨_, by
  have hlt := lt_mid he
  have hm := szL_mem (f := Tf.sz) (mem_mid he)
  have hx : x.sz = x.fa.sz + 0 := rfl
  have hh : d.length < v1.fq.length := by omega
  have ht : d.length < v1.faa.length := by omega
  have hr : v1.faa[d.length].sz <= szL Te.sz v1.faa := szL_mem (List.getElem_mem ht)
  rw [b_dt_L1, toNat_len, List.getElem?_eq_getElem hh, List.getElem?_eq_getElem ht]
  unfold partBad
  rw [List.getElem?_eq_getElem hh, List.getElem?_eq_getElem ht]
  simp only [P_dk x (by omega), Option.bind_some, S_dr x.fa v1.faa[d.length] (by omega) (by omega), P_ds v1.faa[d.length] ⟨0, 0, 0, 0, [], []⟩ (by omega) (by simp [Te.sz])]
  cases p_dk x
  ·rfl
  ·cases v1.fq[d.length]
   ·rcases Bool.eq_false_or_eq_true (p_ds v1.faa[d.length] ⟨0, 0, 0, 0, [], []⟩) with hs | hs <;> simp only [hs] <;> rfl
   ·rcases Bool.eq_false_or_eq_true (suitsB x.fa v1.faa[d.length]) with hs | hs <;> simp only [hs] <;> rfl⟩), P_dj v1.fq false (by omega), Option.bind_some, contBool]
 have e : (fun y => false ^^ (false == y)) = fun h : Bool => !h := by funext y; cases y <;> rfl
 rw [e]
 cases anyP (partBad v1) [] v1.fm <;> rfl
theorem fold_all {α : Type} (has : List Bool) : ∀ (t d : List α) (s : Bool), d.length + t.length = has.length -> foldP (fun s d _ => bif s then (has[d.length]?).getD false else false) s d t = (s && (has.drop d.length).all id)
 | [], d, s, h => by
   have : has.drop d.length = [] := List.drop_eq_nil_of_le (by simpa using Nat.le_of_eq h.symm)
   simp [foldP, this]
 | x :: t, d, s, h => by
   have hlt : d.length < has.length := by simp at h; omega
   simp only [foldP]
   rw [fold_all has t (d ++ [x]) _ (by simp at h ⊢; omega), List.drop_eq_getElem_cons hlt, List.getElem?_eq_getElem hlt]
   simp only [List.length_append, List.length_singleton, List.all_cons, Option.getD_some, id]
   cases s <;> cases has[d.length] <;> simp
theorem S_bz (v1 : Tb) (hv1 : v1.sz <= 1048576) : x_bz v1 = some (pendB v1) := by
 have g := hv1
 simp only [Tb.sz] at g
 have gp := szL_len (f := Tf.sz) (xs := v1.fm)
 have gt := szL_len (f := Te.sz) (xs := v1.faa)
 rw [x_bz]
 simp only [S_bj, S_br v1.fa (by omega), Option.bind_some]
 unfold pendB p_cz
 cases p_cn v1.fai 0 1000000000
 ·rfl
 cases p_cn v1.faj 0 1000000000
 ·rfl
 cases p_dh v1.fa
 ·rfl
 cases p_cn ((v1.fm.length : Nat) : Int) 1 8
 ·rfl
 by_cases h1 : v1.fq.length = v1.fm.length
 rotate_left
 ·have h1' : ¬ ((v1.fq.length : Nat) : Int) = ((v1.fm.length : Nat) : Int) := by omega
  simp [h1, h1']
 by_cases h2 : v1.faa.length = v1.fm.length
 rotate_left
 ·have h2' : ¬ ((v1.faa.length : Nat) : Int) = ((v1.fm.length : Nat) : Int) := by omega
  simp [h1, h2, h2']
 simp only [h1, h2, Bool.not_true, cond_false, ne_eq, not_true_eq_false, decide_false, decide_true, Bool.true_and]
 unfold x_bz_L1
 rw [anyS (last := e_bz_L1 v1) (partBad v1) (fun s d _ => bif s then (v1.fq[d.length]?).getD false else false) id (by omega) (fun s => rfl) (fun d x t s he => ⟨(s, ((d.length : Nat) : Int)), by
  have hlt := lt_mid he
  have hm := szL_mem (f := Tf.sz) (mem_mid he)
  have hx : x.sz = x.fa.sz + 0 := rfl
  have hh : d.length < v1.fq.length := by omega
  have ht : d.length < v1.faa.length := by omega
  have hr : v1.faa[d.length].sz <= szL Te.sz v1.faa := szL_mem (List.getElem_mem ht)
  rw [b_bz_L1, toNat_len, List.getElem?_eq_getElem hh, List.getElem?_eq_getElem ht]
  unfold partBad
  rw [List.getElem?_eq_getElem hh, List.getElem?_eq_getElem ht]
  simp only [S_bs x (by omega), Option.bind_some, S_bx x.fa v1.faa[d.length] (by omega) (by omega), P_by v1.faa[d.length] (by omega), noResp_eq, Option.getD_some]
  cases p_dk x
  ·rfl
  ·cases v1.fq[d.length]
   ·rcases Bool.eq_false_or_eq_true (p_ds v1.faa[d.length] ⟨0, 0, 0, 0, [], []⟩) with hs | hs <;> simp only [hs] <;> cases s <;> rfl
   ·rcases Bool.eq_false_or_eq_true (suitsB x.fa v1.faa[d.length]) with hs | hs <;> simp only [hs] <;> cases s <;> rfl⟩)]
 rw [fold_all v1.fq v1.fm [] true (by simp; omega)]
 have e : (!(v1.fq.all id)) = v1.fq.any (fun h => !h) := by rw [List.all_eq_not_any_not, Bool.not_not]; rfl
 simp only [List.length_nil, List.drop_zero, Bool.true_and, id, e]
 cases anyP (partBad v1) [] v1.fm <;> simp
def prevBad (l : List Tb) (d : List Tb) (x : Tb) : Bool := bif decide (0 < d.length) then (match l[d.length - 1]? with | some y => decide (x.fj <= y.fj) | none => false) else false
def tabBad (t : Tk) (d : List Tb) (x : Tb) : Bool := !(decide (0 <= x.fj) && pendB x) || (decide (t.ft <= x.fj) || prevBad t.fg d x)
def tableB (t : Tk) : Bool := !anyP (tabBad t) [] t.fg && (p_cz t.ft && decide (((t.fg.length : Nat) : Int) <= 16))
theorem prev_of {l d t : List Tb} {x : Tb} (he : d ++ x :: t = l) (hl : l.length <= 1048576) {ε : Type} (A B : Option ε) :
 (bif decide (0 < ((d.length : Nat) : Int)) then (if 0 <= (IntKind.i64.wrap (((d.length : Nat) : Int) - 1)) then ((l[(IntKind.i64.wrap (((d.length : Nat) : Int) - 1)).toNat]?).bind fun v => (bif decide (x.fj <= v.fj) then A else B)) else none) else B) = if prevBad l d x then A else B := by
 have hlt : d.length < l.length := lt_mid he
 unfold prevBad
 by_cases h0 : 0 < d.length
 ·have hw : IntKind.i64.wrap (((d.length : Nat) : Int) - 1) = ((d.length - 1 : Nat) : Int) := by rw [wrap_id (by omega) (by omega)]; omega
  have hd : decide (0 < ((d.length : Nat) : Int)) = true := by simp; omega
  have hd' : decide (0 < d.length) = true := by simp [h0]
  rw [hw, hd, hd', toNat_len, List.getElem?_eq_getElem (show d.length - 1 < l.length by omega)]
  simp only [cond_true, if_pos (Int.natCast_nonneg _), Option.bind_some]
  by_cases hx : x.fj <= l[d.length - 1].fj <;> simp [hx]
 ·have hd : decide (0 < ((d.length : Nat) : Int)) = false := by simp only [decide_eq_false_iff_not]; omega
  have hd' : decide (0 < d.length) = false := by simp [h0]
  rw [hd, hd']; rfl
theorem S_du (v1 : Tk) (hv1 : v1.sz <= 1048576) : x_du v1 = some (tableB v1) := by
 have g := hv1
 simp only [Tk.sz] at g
 have gl := szL_len (f := Tb.sz) (xs := v1.fg)
 rw [x_du]; unfold x_du_L1
 rw [anyB (tabBad v1) (by omega) rfl (fun d x t he => ⟨_, by
  have hm := szL_mem (f := Tb.sz) (mem_mid he)
  rw [b_du_L1, prev_of he (by omega), S_dt x (by omega), Option.bind_some]
  unfold tabBad
  cases (decide (0 <= x.fj) && pendB x)
  ·rfl
  ·cases decide (v1.ft <= x.fj)
   ·cases prevBad v1.fg d x <;> rfl
   ·rfl⟩), P_cz]
 simp only [Option.bind_some]
 unfold tableB
 cases anyP (tabBad v1) [] v1.fg <;> cases p_cz v1.ft <;> rfl
theorem S_ca (v1 : Tk) (hv1 : v1.sz <= 1048576) : x_ca v1 = some (tableB v1) := by
 have g := hv1
 simp only [Tk.sz] at g
 have gl := szL_len (f := Tb.sz) (xs := v1.fg)
 rw [x_ca, S_bj, Option.bind_some]
 unfold tableB p_cz
 cases hn : p_cn v1.ft 0 1000000000
 ·simp
 have hn' : 0 <= v1.ft /\ v1.ft <= 1000000000 := by
  simp only [p_cn] at hn
  by_cases h : 0 <= v1.ft
  ·simpa [h] using hn
  ·simp [h] at hn
 by_cases hl : 16 < ((v1.fg.length : Nat) : Int)
 ·have : ¬ ((v1.fg.length : Nat) : Int) <= 16 := by omega
  simp [hl, this]
 have hl' : ((v1.fg.length : Nat) : Int) <= 16 := by omega
 simp only [hl, hl', decide_false, decide_true, cond_false, Bool.not_true, Bool.and_true]
 unfold x_ca_L1
 rw [anyB (tabBad v1) (by omega) rfl (fun d x t he => ⟨((d.length : Nat) : Int), by
  have hm := szL_mem (f := Tb.sz) (mem_mid he)
  rw [b_ca_L1, prev_of he (by omega), S_bz x (by omega), S_bj, wrap_id (n := v1.ft - 1) (by omega) (by omega)]
  simp only [Option.bind_some]
  unfold tabBad p_cn
  cases pendB x
  ·simp
  ·by_cases h0 : 0 <= x.fj
   ·by_cases h1 : v1.ft <= x.fj
    ·have : ¬ x.fj <= v1.ft - 1 := by omega
     simp [h0, h1, this]
    ·have : x.fj <= v1.ft - 1 := by omega
     cases prevBad v1.fg d x <;> simp [h0, h1, this]
   ·simp [h0]⟩)]
 cases anyP (tabBad v1) [] v1.fg <;> rfl
end Go.Pm
namespace Go.Pm
def p_ed (v1 : Ta) : Bool := (let v2 := p_cz v1.fj; (bif v2 then (let v4 := p_cn v1.fk 0 7; (bif v4 then (let v6 := p_cq v1.fh; (bif v6 then (let v8 := p_dh v1.fa; v8) else false)) else false)) else false))
theorem P_ed (v1 : Ta) (hv1 : v1.sz <= 1048576) : x_ed v1 = some (p_ed v1) := by
 rw [x_ed]; first | rfl | (simp only [P_cz v1.fj, P_cn v1.fk 0 7, P_cq v1.fh, P_dh v1.fa (by simp only [Ta.sz] at hv1; omega), Option.bind_some, cond_some]; rfl)
def p_ci (v1 : Ta) : Bool := (let v2 := p_cn v1.fj 0 1000000000; (bif v2 then (let v4 := p_cn v1.fk 0 7; (bif v4 then (let v6 := p_cn v1.fh 1 247; (bif v6 then (let v8 := p_dh v1.fa; v8) else false)) else false)) else false))
theorem P_ci (v1 : Ta) (hv1 : v1.sz <= 1048576) : x_ci v1 = some (p_ci v1) := by
 rw [x_ci]; first | rfl | (simp only [S_bj v1.fj 0 1000000000, S_bj v1.fk 0 7, S_bj v1.fh 1 247, S_br v1.fa (by simp only [Ta.sz] at hv1; omega), Option.bind_some, cond_some]; rfl)
def p_ch (v1 : Ta) : Bool := (bif decide (v1.fj = 0) then (bif decide (v1.fk = 0) then (bif decide (v1.fh = 0) then (let v5 := p_cg v1.fa; v5) else false) else false) else false)
theorem P_ch (v1 : Ta) (hv1 : v1.sz <= 1048576) : x_ch v1 = some (p_ch v1) := by
 rw [x_ch]; first | rfl | (simp only [P_cg v1.fa (by simp only [Ta.sz] at hv1; omega), Option.bind_some, cond_some]; rfl)
theorem Q_ci (v1 : Ta) (hv1 : v1.sz <= 1048576) : p_ci v1 = p_ed v1 := by
 rfl
theorem S_ci (v1 : Ta) (hv1 : v1.sz <= 1048576) : x_ci v1 = some (p_ed v1) := by rw [P_ci v1 hv1, Q_ci v1 hv1]
theorem Q_ch (v1 : Ta) (hv1 : v1.sz <= 1048576) : p_ch v1 = p_ec v1 := by
 simp only [p_ch, p_ec, noReq_eq]
theorem S_ch (v1 : Ta) (hv1 : v1.sz <= 1048576) : x_ch v1 = some (p_ec v1) := by rw [P_ch v1 hv1, Q_ch v1 hv1]
def p_ea (v1 : List Ti) (v2 : Ti) : Int := idx0 (fun (x : Ti) => (decide (v2.fid = x.fid) && (decide (v2.fpart = x.fpart) && true))) v1 0
theorem P_ea (v1 : List Ti) (v2 : Ti) (hv1 : v1.length <= 1048576) : x_ea v1 v2 = some (p_ea v1 v2) := by
 have hlen : v1.length <= 9223372036854775806 := by have hq : v1.length <= v1.length := Nat.le_refl _; omega
 rw [x_ea]; unfold x_ea_L1 p_ea
 exact idxN (fun (x : Ti) => (decide (v2.fid = x.fid) && (decide (v2.fpart = x.fpart) && true))) hlen rfl (fun d x t he => by rw [b_ea_L1]; first | rfl | (simp only [Option.bind_some]; done) | (simp only [Option.bind_some]; rfl) | done)
def p_dw (v1 : Tb) (v2 : Ta) : Bool := decide (v1.fj = v2.fj)
theorem P_dw (v1 : Tb) (v2 : Ta) (hv1 : v1.sz <= 1048576) (hv2 : v2.sz <= 1048576) : x_dw v1 v2 = some (p_dw v1 v2) := by
 rw [x_dw]; first | rfl | (simp only [Option.bind_some, cond_some]; rfl)
def p_dx (v1 : List Tb) (v2 : Ta) : Int := idx0 (fun (x : Tb) => p_dw x v2) v1 0
theorem P_dx (v1 : List Tb) (v2 : Ta) (hv1 : szL Tb.sz v1 <= 1048576) (hv2 : v2.sz <= 1048576) : x_dx v1 v2 = some (p_dx v1 v2) := by
 have hlen : v1.length <= 9223372036854775806 := by have hq : v1.length <= szL Tb.sz v1 := szL_len; omega
 rw [x_dx]; unfold x_dx_L1 p_dx
 exact idxN (fun (x : Tb) => p_dw x v2) hlen rfl (fun d x t he => by rw [b_dx_L1]; first | rfl | (simp only [P_dw x v2 (by have := szL_mem (f := Tb.sz) (he ▸ (by simp : x ∈ d ++ x :: t)); omega) hv2, Option.bind_some]; done) | (simp only [P_dw x v2 (by have := szL_mem (f := Tb.sz) (he ▸ (by simp : x ∈ d ++ x :: t)); omega) hv2, Option.bind_some]; rfl) | done)
def p_eb (v1 : List Ti) (v2 : Ti) : Bool := (let v3 := p_ea v1 v2; decide (0 <= v3))
theorem P_eb (v1 : List Ti) (v2 : Ti) (hv1 : v1.length <= 1048576) : x_eb v1 v2 = some (p_eb v1 v2) := by
 rw [x_eb]; first | rfl | (simp only [P_ea v1 v2 hv1, Option.bind_some, cond_some]; rfl)
def lineB (l : Tc) : Bool :=
 p_cp l.fab l.fw && (!decide (40 < ((l.fu.length : Nat) : Int)) && (p_cr l.ft && (!l.fu.any (fun c => !p_ed c) &&
  (bif !l.fal then p_ec l.ff && (decide (l.fas = 0) && (decide (l.faq = 0) && decide (l.far = 0))) else
   p_ed l.ff && (p_cr l.fas && (p_co l.faq && p_cn l.far 0 l.fw))))))
theorem S_ee (v1 : Tc) (hv1 : v1.sz <= 1048576) : x_ee v1 = some (lineB v1) := by
 have g := hv1
 simp only [Tc.sz] at g
 have gl := szL_len (f := Ta.sz) (xs := v1.fu)
 rw [x_ee]
 simp only [P_cp, P_cr, P_ec v1.ff (by omega), P_ed v1.ff (by omega), P_co, P_cn, Option.bind_some, cond_some]
 unfold x_ee_L1
 rw [anyB (fun _ c => !p_ed c) (by omega) rfl (fun d x t he => ⟨_, by
  have hm := szL_mem (f := Ta.sz) (mem_mid he)
  rw [b_ee_L1, P_ed x (by omega), Option.bind_some]
  cases p_ed x <;> rfl⟩), anyP_const]
 unfold lineB
 cases p_cp v1.fab v1.fw <;> cases decide (40 < ((v1.fu.length : Nat) : Int)) <;> cases p_cr v1.ft <;> cases (v1.fu.any fun c => !p_ed c) <;> try rfl
 cases v1.fal
 ·cases p_ec v1.ff <;> cases decide (v1.fas = 0) <;> cases decide (v1.faq = 0) <;> cases decide (v1.far = 0) <;> rfl
 ·cases p_ed v1.ff <;> cases p_cr v1.fas <;> cases p_co v1.faq <;> cases p_cn v1.far 0 v1.fw <;> rfl
theorem S_cj (v1 : Tc) (hv1 : v1.sz <= 1048576) : x_cj v1 = some (lineB v1) := by
 have g := hv1
 simp only [Tc.sz] at g
 have gl := szL_len (f := Ta.sz) (xs := v1.fu)
 rw [x_cj]
 simp only [S_bj, S_ch v1.ff (by omega), S_ci v1.ff (by omega), S_bk, Option.bind_some, cond_some]
 unfold x_cj_L1
 rw [anyB (fun _ c => !p_ed c) (by omega) rfl (fun d x t he => ⟨_, by
  have hm := szL_mem (f := Ta.sz) (mem_mid he)
  rw [b_cj_L1, S_ci x (by omega), Option.bind_some]
  cases p_ed x <;> rfl⟩), anyP_const]
 unfold lineB p_cp p_cr
 cases p_cn v1.fab 1 100 <;> cases p_cn v1.fw 0 5 <;> cases decide (40 < ((v1.fu.length : Nat) : Int)) <;> cases p_cn v1.ft 0 65535 <;> cases (v1.fu.any fun c => !p_ed c) <;> try rfl
 cases v1.fal
 ·cases p_ec v1.ff <;> cases decide (v1.fas = 0) <;> cases decide (v1.faq = 0) <;> cases decide (v1.far = 0) <;> rfl
 ·cases p_ed v1.ff <;> cases p_cn v1.fas 0 65535 <;> cases p_co v1.faq <;> cases p_cn v1.far 0 v1.fw <;> rfl
def callsI (l : Tc) : List Ta := bif l.fal then l.fu ++ [l.ff] else l.fu
def callsS (l : Tc) : List Ta := bif l.fal then [l.ff] ++ l.fu else l.fu
theorem S_eg (v1 : Tc) (hv1 : v1.sz <= 1048576) : x_eg v1 = some (callsI v1) := by
 simp only [Tc.sz] at hv1
 have gl := szL_len (f := Ta.sz) (xs := v1.fu)
 rw [x_eg]
 rw [if_pos (by omega)]
 simp only [Option.bind_some, List.length_map, List.length_singleton]
 rw [if_pos (by omega), cond_some]; rfl
theorem S_ck (v1 : Tc) (hv1 : v1.sz <= 1048576) : x_ck v1 = some (callsS v1) := by
 simp only [Tc.sz] at hv1
 have gl := szL_len (f := Ta.sz) (xs := v1.fu)
 rw [x_ck]
 simp only [List.length_map, List.length_singleton, List.length_nil]
 rw [if_pos (by omega), if_pos (by omega), if_pos (by omega), cond_some]; rfl
theorem calls_perm (l : Tc) : (callsI l).Perm (callsS l) := by
 unfold callsI callsS
 cases l.fal
 ·exact List.Perm.refl _
 ·exact List.perm_append_comm
theorem calls_len (l : Tc) : (callsI l).length <= l.fu.length + 1 /\ (callsS l).length <= l.fu.length + 1 := by
 unfold callsI callsS; cases l.fal <;> simp
theorem calls_sz (l : Tc) {c : Ta} (h : c ∈ callsI l) : c.sz <= l.sz := by
 simp only [Tc.sz]
 unfold callsI at h
 cases hb : l.fal <;> simp only [hb, cond_false, cond_true, List.mem_append, List.mem_singleton] at h
 ·have := szL_mem (f := Ta.sz) h; omega
 ·rcases h with h | rfl
  ·have := szL_mem (f := Ta.sz) h; omega
  ·omega
def fitsB (t : Tk) (port : Int) (c : Ta) : Bool := match t.fg.find? (fun x => decide (x.fj = c.fj)) with
 | none => false
 | some p => bif decide (((p.fm.length : Nat) : Int) <= c.fk) then false else match p.fq[c.fk.toNat]?, p.fm[c.fk.toNat]? with
   | some h, some q => bif h then false else decide (q.fac = port) && (decide (q.fh = c.fh) && p_dy q.fa c.fa)
   | _, _ => false
theorem idx0_find {α : Type} {p : α -> Bool} {xs : List α} : (xs.find? p = none -> idx0 p xs 0 = -1) /\ ∀ y, xs.find? p = some y -> ∃ i : Nat, idx0 p xs 0 = (i : Int) /\ xs[i]? = some y := by
 constructor
 ·intro h
  apply idx0_none
  rw [List.find?_eq_none] at h
  rw [List.any_eq_false]; exact h
 ·intro y h
  obtain ⟨hp, d, t, rfl, hd⟩ := List.find?_eq_some_iff_append.1 h
  have hd' : d.any p = false := by rw [List.any_eq_false]; intro x hx; have := hd x hx; simpa using this
  refine ⟨d.length, ?_, by simp⟩
  rw [idx0_hit hd' hp]; simp
theorem anyP_false {α : Type} {p : List α -> α -> Bool} : ∀ {t d : List α}, anyP p d t = false -> ∀ a x b, t = a ++ x :: b -> p (d ++ a) x = false
 | [], d, _, a, x, b, h => by cases a <;> cases h
 | y :: t, d, hp, a, x, b, h => by
   simp only [anyP, Bool.or_eq_false_iff] at hp
   cases a with
   | nil => cases h; simpa using hp.1
   | cons z a =>
     cases h
     have := anyP_false hp.2 a x b rfl
     simpa using this
theorem anyP_mem {α : Type} {p : List α -> α -> Bool} {xs : List α} (h : anyP p [] xs = false) {x : α} (hx : x ∈ xs) : ∃ d, p d x = false := by
 obtain ⟨a, b, rfl⟩ := List.append_of_mem hx
 exact ⟨a, by have := anyP_false h a x b rfl; simpa using this⟩
theorem table_pend {t : Tk} (h : tableB t = true) {p : Tb} (hp : p ∈ t.fg) : pendB p = true := by
 unfold tableB at h
 simp only [Bool.and_eq_true, Bool.not_eq_true'] at h
 obtain ⟨d, hd⟩ := anyP_mem h.1 hp
 unfold tabBad at hd
 simp only [Bool.or_eq_false_iff, Bool.not_eq_false', Bool.and_eq_true] at hd
 exact hd.1.2
theorem pend_len {p : Tb} (h : pendB p = true) : p.fq.length = p.fm.length /\ p.faa.length = p.fm.length := by
 unfold pendB at h
 simp only [Bool.and_eq_true, decide_eq_true_eq] at h
 exact ⟨h.2.2.2.2.1, h.2.2.2.2.2.1⟩
theorem S_dz (v1 : Tk) (v2 : Int) (v3 : Ta) (hv1 : v1.sz <= 1048576) (hv3 : v3.sz <= 1048576) (ht : tableB v1 = true) (h0 : 0 <= v3.fk) : x_dz v1 v2 v3 = some (fitsB v1 v2 v3) := by
 have g := hv1
 simp only [Tk.sz] at g
 rw [x_dz, P_dx v1.fg v3 (by omega) hv3, Option.bind_some, show p_dx v1.fg v3 = idx0 (fun x => decide (x.fj = v3.fj)) v1.fg 0 from rfl]
 unfold fitsB
 obtain ⟨f1, f2⟩ := idx0_find (p := fun x => decide (x.fj = v3.fj)) (xs := v1.fg)
 cases hf : v1.fg.find? (fun x => decide (x.fj = v3.fj)) with
 | none => rw [f1 hf]; rfl
 | some p =>
   obtain ⟨i, hi, hp⟩ := f2 p hf
   have hm : p ∈ v1.fg := List.mem_of_getElem? hp
   have hl := pend_len (table_pend ht hm)
   have hsz := szL_mem (f := Tb.sz) hm
   rw [hi]
   have hd : decide ((i : Int) < 0) = false := by simp
   simp only [hd, cond_false, if_pos (Int.natCast_nonneg _), toNat_len, hp, Option.bind_some]
   by_cases hc : ((p.fm.length : Nat) : Int) <= v3.fk
   ·simp [hc]
   ·have h1 : v3.fk.toNat < p.fq.length := by omega
    have h2 : v3.fk.toNat < p.fm.length := by omega
    have hq : p.fm[v3.fk.toNat].sz <= szL Tf.sz p.fm := szL_mem (List.getElem_mem h2)
    simp only [Tb.sz] at hsz
    have hq' : p.fm[v3.fk.toNat].sz = p.fm[v3.fk.toNat].fa.sz + 0 := rfl
    have hc3 : v3.sz = v3.fa.sz + 0 := rfl
    simp only [hc, decide_false, cond_false, if_pos h0, List.getElem?_eq_getElem h1, List.getElem?_eq_getElem h2, Option.bind_some, P_dy p.fm[v3.fk.toNat].fa v3.fa (by omega) (by omega)]
    cases p.fq[v3.fk.toNat]
    ·by_cases e1 : p.fm[v3.fk.toNat].fac = v2 <;> by_cases e2 : p.fm[v3.fk.toNat].fh = v3.fh <;> simp [e1, e2]
    ·rfl
theorem S_cc (v1 : Tk) (v2 : Int) (hv1 : v1.fg.length <= 1048576) : x_cc v1 v2 = some (idx0 (fun x => decide (x.fj = v2)) v1.fg 0) := by
 rw [x_cc]; unfold x_cc_L1
 exact idxN (xs := v1.fg) (fun (x : Tb) => decide (x.fj = v2)) (by omega) rfl (fun d x t he => by rw [b_cc_L1])
theorem S_cf (v1 : Tj) (v2 : Int) (v3 : Ta) (hv1 : v1.fo.sz <= 1048576) (hv3 : v3.sz <= 1048576) (ht : tableB v1.fo = true) (h0 : 0 <= v3.fk) : x_cf v1 v2 v3 = some (fitsB v1.fo v2 v3) := by
 have g := hv1
 simp only [Tk.sz] at g
 have gl := szL_len (f := Tb.sz) (xs := v1.fo.fg)
 rw [x_cf, S_cc v1.fo v3.fj (by omega), Option.bind_some]
 unfold fitsB
 obtain ⟨f1, f2⟩ := idx0_find (p := fun x => decide (x.fj = v3.fj)) (xs := v1.fo.fg)
 cases hf : v1.fo.fg.find? (fun x => decide (x.fj = v3.fj)) with
 | none => rw [f1 hf]; rfl
 | some p =>
   obtain ⟨i, hi, hp⟩ := f2 p hf
   have hm : p ∈ v1.fo.fg := List.mem_of_getElem? hp
   have hl := pend_len (table_pend ht hm)
   have hsz := szL_mem (f := Tb.sz) hm
   rw [hi]
   have hd : decide ((i : Int) < 0) = false := by simp
   simp only [hd, cond_false, if_pos (Int.natCast_nonneg _), toNat_len, hp, Option.bind_some]
   by_cases hc : ((p.fm.length : Nat) : Int) <= v3.fk
   ·simp [hc]
   ·have h1 : v3.fk.toNat < p.fq.length := by omega
    have h2 : v3.fk.toNat < p.fm.length := by omega
    have hq : p.fm[v3.fk.toNat].sz <= szL Tf.sz p.fm := szL_mem (List.getElem_mem h2)
    simp only [Tb.sz] at hsz
    have hq' : p.fm[v3.fk.toNat].sz = p.fm[v3.fk.toNat].fa.sz + 0 := rfl
    have hc3 : v3.sz = v3.fa.sz + 0 := rfl
    simp only [hc, decide_false, cond_false, if_pos h0, List.getElem?_eq_getElem h1, List.getElem?_eq_getElem h2, Option.bind_some, S_ce p.fm[v3.fk.toNat].fa v3.fa (by omega) (by omega)]
    cases p.fq[v3.fk.toNat]
    ·by_cases e1 : p.fm[v3.fk.toNat].fac = v2 <;> by_cases e2 : p.fm[v3.fk.toNat].fh = v3.fh <;> simp [e1, e2]
    ·rfl
def waitN (t : Tk) : Nat := (t.fg.map fun p => p.fq.countP fun h => !h).sum
theorem S_dv_L2 (v1 : Tk) (v2 : Int) (p : Tb) (s : Int) (h0 : 0 <= s) (h1 : s + p.fq.length <= 1048576) : x_dv_L2 v1 v2 p s = some (s + (p.fq.countP fun h => !h : Nat)) := by
 unfold x_dv_L2
 rw [if_pos (by omega)]
 have key : ∀ (body : Int -> Bool -> Int -> Option (Int ⊕ Int)) (last : Int -> Option Int), (∀ k x s, body k x s = (bif !x then (some (.inl (IntKind.i64.wrap (s + 1)))) else (some (.inl s)))) -> (∀ s, last s = some s) -> ∀ (t : List Bool) (k s : Int), 0 <= s -> s + t.length <= 1048576 -> listN body last t k s = some (s + (t.countP fun h => !h : Nat)) := by
  intro body last hb hlast t
  induction t with
  | nil => intro k s _ _; simp [listN, hlast]
  | cons x t ih =>
    intro k s h0 h1
    simp only [List.length_cons] at h1
    simp only [listN, hb]
    cases x
    ·simp only [Bool.not_false, cond_true, Option.bind_some, wrap_id (n := s + 1) (by omega) (by omega)]
     rw [ih (k + 1) (s + 1) (by omega) (by omega)]
     simp [List.countP_cons]; omega
    ·simp only [Bool.not_true, cond_false, Option.bind_some]
     rw [ih (k + 1) s h0 (by omega)]
     simp [List.countP_cons]
 exact key _ _ (fun k x s => rfl) (fun s => rfl) p.fq 0 s h0 h1
theorem has_le (p : Tb) : (p.fq.countP fun h => !h) <= p.sz := by
 have := List.countP_le_length (p := fun h : Bool => !h) (l := p.fq)
 simp only [Tb.sz]; omega
theorem S_dv (v1 : Tk) (hv1 : v1.sz <= 1048576) : x_dv v1 = some (bif tableB v1 then (waitN v1 : Int) else 0) := by
 have g := hv1
 simp only [Tk.sz, szL] at g
 rw [x_dv, S_du v1 hv1, Option.bind_some]
 cases tableB v1
 ·rfl
 simp only [Bool.not_true, cond_false, cond_true]
 unfold x_dv_L1
 rw [if_pos (by omega)]
 have key : ∀ (body : Int -> Tb -> Int -> Option (Int ⊕ Int)) (last : Int -> Option Int), (∀ k x s, body k x s = ((x_dv_L2 v1 k x s).bind fun (v51 : Int) => (some (.inl v51)))) -> (∀ s, last s = some s) -> ∀ (t : List Tb) (k s : Int), 0 <= s -> s + (t.map Tb.sz).sum <= 1048576 -> listN body last t k s = some (s + ((t.map fun p => p.fq.countP fun h => !h).sum : Nat)) := by
  intro body last hb hlast t
  induction t with
  | nil => intro k s _ _; simp [listN, hlast]
  | cons x t ih =>
    intro k s h0 h1
    simp only [List.map_cons, List.sum_cons] at h1
    have hx := has_le x
    have hx2 : x.fq.length <= x.sz := by simp only [Tb.sz]; omega
    simp only [listN, hb]
    rw [S_dv_L2 v1 k x s h0 (by omega)]
    simp only [Option.bind_some]
    rw [ih (k + 1) _ (by omega) (by omega)]
    simp only [List.map_cons, List.sum_cons]; congr 1; omega
 rw [key (b_dv_L1 v1) (e_dv_L1 v1) (fun k x s => rfl) (fun s => rfl) v1.fg 0 0 (by omega) (by omega)]
 simp [waitN]
theorem S_cb_L2 (v1 : Tk) (hv1 : v1.sz <= 1048576) {i : Nat} {p : Tb} (hp : v1.fg[i]? = some p) (s : Int) (h0 : 0 <= s) (h1 : s + p.fq.length <= 1048576) : ∃ k, x_cb_L2 v1 (i : Int) (s, 0) = some (s + (p.fq.countP fun h => !h : Nat), k) := by
 unfold x_cb_L2
 have key : ∀ (body : Int × Int -> Option ((Int × Int) ⊕ (Int × Int))), (∀ s, body s = (b_cb_L2 v1 (i : Int) s)) -> ∀ (t d : List Bool) (n : Nat) (s : Int), d ++ t = p.fq -> t.length < n -> 0 <= s -> s + t.length <= 1048576 -> ∃ k, loopN body n (s, ((d.length : Nat) : Int)) = some (s + (t.countP fun h => !h : Nat), k) := by
  intro body hb t
  induction t with
  | nil =>
    intro d n s he hn h0 h1
    obtain ⟨n, rfl⟩ : ∃ q, n = q + 1 := ⟨n - 1, by simp at hn; omega⟩
    have he : d = p.fq := by simpa using he
    subst he
    refine ⟨((p.fq.length : Nat) : Int), ?_⟩
    simp only [loopN, hb, b_cb_L2, if_pos (Int.natCast_nonneg _), toNat_len, hp, Option.bind_some]
    simp
  | cons x t ih =>
    intro d n s he hn h0 h1
    obtain ⟨n, rfl⟩ : ∃ q, n = q + 1 := ⟨n - 1, by simp at hn; omega⟩
    have hlt := lt_mid he
    have hl : p.fq.length <= 1048576 := by
     have := szL_mem (f := Tb.sz) (List.mem_of_getElem? hp)
     simp only [Tk.sz, Tb.sz] at hv1 this; omega
    simp only [List.length_cons] at h1 hn
    have hd : decide (((d.length : Nat) : Int) < ((p.fq.length : Nat) : Int)) = true := by simp; omega
    have hw : IntKind.i64.wrap (((d.length : Nat) : Int) + 1) = (((d ++ [x]).length : Nat) : Int) := by rw [wrap_id (by omega) (by omega)]; simp
    simp only [loopN, hb, b_cb_L2, if_pos (Int.natCast_nonneg _), toNat_len, hp, Option.bind_some, hd, cond_true, get_mid he, hw]
    cases x
    ·simp only [Bool.not_false, cond_true, wrap_id (n := s + 1) (by omega) (by omega)]
     obtain ⟨k, hk⟩ := ih (d ++ [false]) n (s + 1) (by simpa using he) (by omega) (by omega) (by omega)
     refine ⟨k, ?_⟩
     show loopN body n (s + 1, _) = _
     rw [hk]; simp [List.countP_cons]; omega
    ·simp only [Bool.not_true, cond_false]
     obtain ⟨k, hk⟩ := ih (d ++ [true]) n s (by simpa using he) (by omega) h0 (by omega)
     refine ⟨k, ?_⟩
     show loopN body n (s, _) = _
     rw [hk]; simp [List.countP_cons]
 have hl : p.fq.length <= 1048576 := by
  have := szL_mem (f := Tb.sz) (List.mem_of_getElem? hp)
  simp only [Tk.sz, Tb.sz] at hv1 this; omega
 exact key _ (fun _ => rfl) p.fq [] BIG s rfl (by simp only [BIG]; omega) h0 h1
theorem S_cb (v1 : Tk) (hv1 : v1.sz <= 1048576) : x_cb v1 = some (bif tableB v1 then (waitN v1 : Int) else 0) := by
 have g := hv1
 simp only [Tk.sz, szL] at g
 rw [x_cb]
 unfold x_cb_L1
 rw [if_pos (by omega)]
 cases ht : tableB v1
 ·cases hl : v1.fg with
  | nil => simp [listN, e_cb_L1]
  | cons p l => simp [listN, b_cb_L1, S_ca v1 hv1, ht]
 have key : ∀ (body : Int -> Tb -> Int -> Option (Int ⊕ (Int × Int))) (last : Int -> Option (Int × Int)), (∀ k x s, body k x s = (b_cb_L1 v1 k x s)) -> (∀ s, last s = some (s, ((v1.fg.length : Nat) : Int))) -> ∀ (t d : List Tb) (s : Int), d ++ t = v1.fg -> 0 <= s -> s + (t.map Tb.sz).sum <= 1048576 -> ∃ k, listN body last t ((d.length : Nat) : Int) s = some (s + ((t.map fun p => p.fq.countP fun h => !h).sum : Nat), k) := by
  intro body last hb hlast t
  induction t with
  | nil => intro d s _ _ _; exact ⟨((v1.fg.length : Nat) : Int), by simp [listN, hlast]⟩
  | cons x t ih =>
    intro d s he h0 h1
    simp only [List.map_cons, List.sum_cons] at h1
    have hx := has_le x
    have hx2 : x.fq.length <= x.sz := by simp only [Tb.sz]; omega
    obtain ⟨k2, hk2⟩ := S_cb_L2 v1 hv1 (get_mid he) s h0 (by omega)
    obtain ⟨k, hk⟩ := ih (d ++ [x]) (s + (x.fq.countP fun h => !h : Nat)) (by simpa using he) (by omega) (by omega)
    refine ⟨k, ?_⟩
    simp only [listN, hb, b_cb_L1, S_ca v1 hv1, ht, Option.bind_some, cond_true, hk2]
    have e : ((d.length : Nat) : Int) + 1 = (((d ++ [x]).length : Nat) : Int) := by simp
    rw [e, hk]
    simp only [List.map_cons, List.sum_cons]; congr 2; omega
 obtain ⟨k, hk⟩ := key (fun k x s => (b_cb_L1 v1 k x s)) (fun s => e_cb_L1 v1 s) (fun _ _ _ => rfl) (fun s => rfl) v1.fg [] 0 rfl (by omega) (by omega)
 have hk' : listN (fun k x s => (b_cb_L1 v1 k x s)) (fun s => e_cb_L1 v1 s) v1.fg 0 0 = _ := hk
 rw [hk']
 simp [waitN]
end Go.Pm
namespace Go.Pm
def keyC (c : Ta) : Ti := ⟨c.fj, c.fk⟩
def seeC (fits : Ta -> Bool) : List Ta -> List Ti -> Option (List Ti)
 | [], seen => some seen
 | c :: t, seen => if fits c = true /\ ¬ keyC c ∈ seen then seeC fits t (seen ++ [keyC c]) else none
def seeL (fits : Int -> Ta -> Bool) (cs : Tc -> List Ta) : List Tc -> Int -> List Ti -> Option (List Ti)
 | [], _, seen => some seen
 | l :: t, k, seen => if lineB l = true then (seeC (fits k) (cs l) seen).bind fun s => seeL fits cs t (k + 1) s else none
def goodC (fits : Ta -> Bool) (t : List Ta) (seen : List Ti) : Prop := (∀ c ∈ t, fits c = true) /\ (t.map keyC).Nodup /\ ∀ c ∈ t, ¬ keyC c ∈ seen
theorem seeC_some {fits : Ta -> Bool} : ∀ {t : List Ta} {seen s : List Ti}, seeC fits t seen = some s ↔ goodC fits t seen /\ s = seen ++ t.map keyC
 | [], seen, s => by
   simp only [seeC, goodC, Option.some.injEq, List.map_nil, List.append_nil]
   exact ⟨fun h => ⟨⟨by simp, by simp, by simp⟩, h.symm⟩, fun h => h.2.symm⟩
 | c :: t, seen, s => by
   simp only [seeC]
   split
   ·rename_i h
    rw [seeC_some]
    simp only [goodC, List.mem_cons, List.map_cons, List.nodup_cons, List.mem_append, List.mem_singleton, forall_eq_or_imp, List.mem_map]
    constructor
    ·rintro ⟨⟨h1, h2, h3⟩, rfl⟩
     refine ⟨⟨⟨h.1, h1⟩, ⟨?_, h2⟩, h.2, fun x hx hs => h3 x hx (.inl hs)⟩, by simp⟩
     rintro ⟨x, hx, e⟩
     exact h3 x hx (.inr (.inl e))
    ·rintro ⟨⟨⟨_, h1⟩, ⟨h4, h2⟩, _, h3⟩, rfl⟩
     refine ⟨⟨h1, h2, fun x hx hs => ?_⟩, by simp⟩
     rcases hs with hs | hs | hs
     ·exact h3 x hx hs
     ·exact h4 ⟨x, hx, hs⟩
     ·cases hs
   ·rename_i h
    simp only [false_iff, not_and, reduceCtorEq]
    rintro ⟨h1, h2, h3⟩
    exact absurd ⟨h1 c (by simp), h3 c (by simp)⟩ h
theorem goodC_perm {fits : Ta -> Bool} {t t' : List Ta} {seen seen' : List Ti} (ht : t.Perm t') (hs : seen.Perm seen') (h : goodC fits t seen) : goodC fits t' seen' :=
 ⟨fun c hc => h.1 c (ht.mem_iff.2 hc), (ht.map keyC).nodup_iff.1 h.2.1, fun c hc hm => h.2.2 c (ht.mem_iff.2 hc) (hs.mem_iff.2 hm)⟩
theorem seeL_perm {fits : Int -> Ta -> Bool} {cs cs' : Tc -> List Ta} (hc : ∀ l, (cs l).Perm (cs' l)) : ∀ (ls : List Tc) (k : Int) (seen seen' s : List Ti), seen.Perm seen' -> seeL fits cs ls k seen = some s -> ∃ s', seeL fits cs' ls k seen' = some s' /\ s.Perm s'
 | [], k, seen, seen', s, hs, h => by cases h; exact ⟨seen', rfl, hs⟩
 | l :: ls, k, seen, seen', s, hs, h => by
   simp only [seeL] at h ⊢
   split at h
   ·rename_i hl
    rw [if_pos hl]
    cases hr : seeC (fits k) (cs l) seen with
    | none => rw [hr] at h; cases h
    | some s1 =>
      rw [hr] at h
      obtain ⟨hg, rfl⟩ := seeC_some.1 hr
      have hr' := seeC_some.2 ⟨goodC_perm (hc l) hs hg, rfl⟩
      rw [hr']
      exact seeL_perm hc ls (k + 1) _ _ s (hs.append ((hc l).map keyC)) h
   ·cases h
def callsB (f : Tj) : Bool := match seeL (fitsB f.fo) callsI f.fp 0 [] with
 | some s => decide (((s.length : Nat) : Int) = (waitN f.fo : Int))
 | none => false
theorem callsB_S (f : Tj) : callsB f = match seeL (fitsB f.fo) callsS f.fp 0 [] with
 | some s => decide (((s.length : Nat) : Int) = (waitN f.fo : Int))
 | none => false := by
 unfold callsB
 cases h : seeL (fitsB f.fo) callsI f.fp 0 [] with
 | some s =>
   obtain ⟨s', hs', hp⟩ := seeL_perm calls_perm f.fp 0 [] [] s (List.Perm.refl _) h
   rw [hs']; simp only [hp.length_eq]
 | none =>
   cases h' : seeL (fitsB f.fo) callsS f.fp 0 [] with
   | none => rfl
   | some s =>
     obtain ⟨s', hs', _⟩ := seeL_perm (fun l => (calls_perm l).symm) f.fp 0 [] [] s (List.Perm.refl _) h'
     rw [h] at hs'; cases hs'
def fabricB (f : Tj) : Bool :=
 p_co f.fan && (configB f.fr && (tableB f.fo && (decide (f.fp.length = 6) && (p_cz f.fak && (p_cz f.fao && (p_cz f.fam && (p_cz f.fap && callsB f)))))))
theorem contPlace (l : List Ti) (x : Ti) : p_eb l x = decide (x ∈ l) := by
 have h : p_eb l x = l.any (fun (y : Ti) => (decide (x.fid = y.fid) && (decide (x.fpart = y.fpart) && true))) := idx0_ge
 rw [h, Bool.eq_iff_iff]
 simp only [List.any_eq_true, Bool.and_eq_true, decide_eq_true_eq, and_true]
 constructor
 ·rintro ⟨y, hy, h1, h2⟩
  have : x = y := by cases x; cases y; simp_all
  rw [this]; exact hy
 ·intro hx; exact ⟨x, hx, rfl, rfl⟩
theorem line_part {l : Tc} (h : lineB l = true) {c : Ta} (hc : c ∈ callsI l) : 0 <= c.fk := by
 unfold lineB at h
 simp only [Bool.and_eq_true, Bool.not_eq_true'] at h
 have key : ∀ c : Ta, p_ed c = true -> 0 <= c.fk := by
  intro c h
  simp only [p_ed, p_cn] at h
  cases p_cz c.fj
  ·simp_all
  ·by_cases h0 : 0 <= c.fk
   ·exact h0
   ·simp_all
 have hq : ∀ c ∈ l.fu, p_ed c = true := by
  intro c hc
  have := h.2.2.2.1
  rw [List.any_eq_false] at this
  have := this c hc
  simpa using this
 unfold callsI at hc
 cases hb : l.fal
 ·rw [hb] at hc; exact key c (hq c hc)
 ·rw [hb] at hc
  simp only [cond_true, List.mem_append, List.mem_singleton] at hc
  rcases hc with hc | rfl
  ·exact key c (hq c hc)
  ·have := h.2.2.2.2
   rw [hb] at this
   simp only [Bool.not_true, cond_false, Bool.and_eq_true] at this
   exact key _ this.1
theorem implL2 (f : Tj) (hf : f.fo.sz <= 1048576) (ht : tableB f.fo = true) (port : Int) (l : Tc) (cs : List Ta) (hp : ∀ c ∈ cs, 0 <= c.fk /\ c.sz <= 1048576) (hl : cs.length <= 1048576) (seen : List Ti) (hs : seen.length + cs.length <= 1048576) :
 (seeC (fitsB f.fo port) cs seen = none /\ ∃ j, x_eh_L2 f port l cs seen = some (.inl j)) \/ (∃ s, seeC (fitsB f.fo port) cs seen = some s /\ x_eh_L2 f port l cs seen = some (.inr s)) := by
 unfold x_eh_L2
 rw [if_pos (by omega)]
 have key : ∀ (body) (last), (∀ k x s, body k x s = (b_eh_L2 f port l cs k x s)) -> (∀ s, last s = e_eh_L2 f port l cs s) -> ∀ (t d : List Ta) (seen : List Ti), d ++ t = cs -> seen.length + t.length <= 1048576 ->
  (seeC (fitsB f.fo port) t seen = none /\ ∃ j, listN body last t ((d.length : Nat) : Int) seen = some (.inl j)) \/ (∃ s, seeC (fitsB f.fo port) t seen = some s /\ listN body last t ((d.length : Nat) : Int) seen = some (.inr s)) := by
  intro body last hb hlast t
  induction t with
  | nil => intro d seen _ _; exact .inr ⟨seen, rfl, by simp only [listN, hlast]; rfl⟩
  | cons x t ih =>
    intro d seen he hs
    have hlt := lt_mid he
    have hx := hp x (mem_mid he)
    simp only [List.length_cons] at hs
    simp only [listN, hb, b_eh_L2, List.length_map, Nat.sub_zero]
    rw [if_pos (by omega), S_dz f.fo port x hf hx.2 ht hx.1]
    simp only [Option.bind_some, seeC]
    cases hfit : fitsB f.fo port x
    ·exact .inl ⟨by simp, _, rfl⟩
    ·simp only [Bool.not_true, cond_false]
     rw [P_eb seen ⟨x.fj, x.fk⟩ (by omega)]
     simp only [Option.bind_some, contPlace]
     by_cases hm : keyC x ∈ seen
     ·have hm' : decide ((⟨x.fj, x.fk⟩ : Ti) ∈ seen) = true := by simpa [keyC] using hm
      simp only [hm', cond_true]
      exact .inl ⟨by simp [hm], _, rfl⟩
     ·have hm' : decide ((⟨x.fj, x.fk⟩ : Ti) ∈ seen) = false := by simpa [keyC] using hm
      simp only [hm', cond_false, List.length_map, List.length_singleton]
      rw [if_pos (show (seen.length + 1) * 16 <= 70368744177664 by omega)]
      have := ih (d ++ [x]) (seen ++ [keyC x]) (by simpa using he) (by simp; omega)
      simp only [Option.bind_some]
      rw [if_pos ⟨trivial, hm⟩]
      simpa [keyC] using this
 exact key _ _ (fun _ _ _ => rfl) (fun _ => rfl) cs [] seen rfl hs
theorem implL1 (f : Tj) (hf : f.sz <= 1048576) (ht : tableB f.fo = true) (h6 : f.fp.length = 6) :
 (seeL (fitsB f.fo) callsI f.fp 0 [] = none /\ ((∃ j, x_eh_L1 f [] = some (.inl j)) \/ ∃ j, x_eh_L1 f [] = some (.inr (.inl j)))) \/ (∃ s, seeL (fitsB f.fo) callsI f.fp 0 [] = some s /\ x_eh_L1 f [] = some (.inr (.inr s))) := by
 simp only [Tj.sz, szL] at hf
 unfold x_eh_L1
 rw [if_pos (by omega)]
 have key : ∀ (body) (last), (∀ k x s, body k x s = (b_eh_L1 f k x s)) -> (∀ s, last s = e_eh_L1 f s) -> ∀ (t d : List Tc) (seen : List Ti), d ++ t = f.fp -> seen.length + (t.map Tc.sz).sum + t.length <= 1048576 ->
  (seeL (fitsB f.fo) callsI t ((d.length : Nat) : Int) seen = none /\ ((∃ j, listN body last t ((d.length : Nat) : Int) seen = some (.inl j)) \/ ∃ j, listN body last t ((d.length : Nat) : Int) seen = some (.inr (.inl j)))) \/ (∃ s, seeL (fitsB f.fo) callsI t ((d.length : Nat) : Int) seen = some s /\ listN body last t ((d.length : Nat) : Int) seen = some (.inr (.inr s))) := by
  intro body last hb hlast t
  induction t with
  | nil => intro d seen _ _; exact .inr ⟨seen, rfl, by simp only [listN, hlast]; rfl⟩
  | cons x t ih =>
    intro d seen he hs
    have hx := szL_mem (f := Tc.sz) (mem_mid he)
    simp only [szL] at hx
    simp only [List.length_cons, List.map_cons, List.sum_cons] at hs
    have hq := szL_len (f := Ta.sz) (xs := x.fu)
    have hcl := (calls_len x).1
    have hxs : x.sz = szL Ta.sz x.fu + (x.ff.sz + 0) := rfl
    simp only [listN, hb, b_eh_L1, seeL, S_ee x (by omega), Option.bind_some]
    cases hlb : lineB x
    ·exact .inl ⟨by simp, .inl ⟨_, rfl⟩⟩
    ·simp only [Bool.not_true, cond_false, if_true, S_eg x (by omega), Option.bind_some]
     rcases implL2 f (by omega) ht ((d.length : Nat) : Int) x (callsI x) (fun c hc => ⟨line_part hlb hc, by have := calls_sz x hc; omega⟩) (by omega) seen (by omega) with ⟨h1, j, h2⟩ | ⟨s, h1, h2⟩
     ·rw [h1, h2]; exact .inl ⟨rfl, .inr ⟨_, rfl⟩⟩
     ·rw [h1, h2]
      simp only [Option.bind_some, sel2]
      have hsl : s.length = seen.length + (callsI x).length := by
       obtain ⟨_, rfl⟩ := seeC_some.1 h1; simp
      have := ih (d ++ [x]) s (by simpa using he) (by omega)
      simpa using this
 exact key _ _ (fun _ _ _ => rfl) (fun _ => rfl) f.fp [] [] rfl (by simp; omega)
theorem S_eh (v1 : Tj) (hv1 : v1.sz <= 1048576) : x_eh v1 = some (fabricB v1) := by
 have g := hv1
 simp only [Tj.sz] at g
 rw [x_eh]
 simp only [P_co, S_cy v1.fr (by omega), S_du v1.fo (by omega), P_cz, S_dv v1.fo (by omega), Option.bind_some]
 unfold fabricB
 cases p_co v1.fan
 ·rfl
 cases configB v1.fr
 ·rfl
 cases ht : tableB v1.fo
 ·rfl
 by_cases h6 : v1.fp.length = 6
 rotate_left
 ·have : ¬ ((v1.fp.length : Nat) : Int) = 6 := by omega
  simp [h6, this]
 simp only [h6, Bool.not_true, cond_false, show decide (((6 : Nat) : Int) ≠ 6) = false from rfl, decide_true, Bool.true_and, cond_true]
 cases p_cz v1.fak
 ·rfl
 cases p_cz v1.fao
 ·rfl
 cases p_cz v1.fam
 ·rfl
 cases p_cz v1.fap
 ·rfl
 simp only [Bool.not_true, cond_false, Bool.true_and]
 unfold callsB
 rcases implL1 v1 hv1 ht h6 with ⟨h1, ⟨j, h2⟩ | ⟨j, h2⟩⟩ | ⟨s, h1, h2⟩ <;> rw [h1, h2] <;> rfl
end Go.Pm
