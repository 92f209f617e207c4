/- Part 9 of the proof that ValidBodiesUptoCardSaid: for every input that fits the row the law answers true and its arguments read as before, over the world as the row lays it. -/
import Derived.Test.YtablleokoifolaaGreatDoorZ8
/- Plain functions and their contracts. Written by a program of this claim set (g2.py). -/
set_option linter.unusedVariables false
set_option maxRecDepth 100000
set_option maxHeartbeats 4000000
namespace Go.Proofs.YtablleokoifolaaGreatDoor
open Go

/- mandrel/mandrelref08.inner, mandrel/mandrelref08.block, mandrel/mandrelref08.list -/
mutual
def g_ref08_inner : Nat → Env8 → St8 → (List Instr) → Int → Int → Option (St8)
  | 0, _, _, _, _, _ => none
  | k+1, p0, p1, p2, p3, p4 => gd (p0.labels.length * 1 ≤ 140737488355328) (gd ((p0.labels.length + 1) * 1 ≤ 140737488355328) (((if p1.away = true then ((g_ref08_list k (Env8.mk p0.m p0.result p0.locals (p0.labels ++ ([p4] : List Int))) (St8.mk ([] : List Int) (wI (p1.under + (p1.l.length : Int))) false true p1.most p1.ok) p2).bind fun x3 => some x3) else ((g_ref08_list k (Env8.mk p0.m p0.result p0.locals (p0.labels ++ ([p4] : List Int))) (St8.mk ([] : List Int) (wI (p1.under + (p1.l.length : Int))) false p1.dead p1.most p1.ok) p2).bind fun x5 => some x5))).bind (fun j7 => ((g_ref08_take j7 p3).bind fun x8 => ((if x8.1.ok = true then some ((x8.1.l.length : Int) == (0 : Int)) else some false)).bind (fun j10 => some (St8.mk p1.l p1.under p1.away p1.dead x8.1.most j10))))))

def g_ref08_block : Nat → Env8 → St8 → Instr → Option (St8)
  | 0, _, _, _ => none
  | k+1, p0, p1, p2 => (if ((p2.result != (0 : Int)) && ((p2.result != (127 : Int)) && (p2.result != (126 : Int)))) = true then some (St8.mk p1.l p1.under p1.away p1.dead p1.most false) else ((if (p2.op == (2 : Int)) = true then ((g_ref08_inner k p0 p1 p2.body p2.result p2.result).bind fun x4 => some x4) else (if (p2.op == (3 : Int)) = true then ((g_ref08_inner k p0 p1 p2.body p2.result 0).bind fun x6 => some x6) else ((g_ref08_take p1 127).bind fun x8 => ((g_ref08_inner k p0 x8.1 p2.body p2.result p2.result).bind fun x10 => ((g_ref08_inner k p0 x10 p2.els p2.result p2.result).bind fun x12 => some x12)))))).bind (fun j1 => ((g_ref08_lay j1 p2.result).bind fun x2 => some x2)))

def g_ref08_list : Nat → Env8 → St8 → (List Instr) → Option (St8)
  | 0, _, _, _ => none
  | k+1, p0, p1, p2 => (lpN k (fun (rec6 : St8 × Int → Option (St8)) v => match v with | (a4, a5) => (if ((decide (a5 < (p2.length : Int))) && a4.ok) = true then (gd (0 ≤ a5 ∧ a5 < (p2.length : Int)) ((if ((((p2.getD a5.toNat default)).op) == (0 : Int)) = true then ((g_ref08_away a4).bind fun x9 => some x9) else (if ((((p2.getD a5.toNat default)).op) == (1 : Int)) = true then some a4 else (if ((decide ((((p2.getD a5.toNat default)).op) ≥ (2 : Int))) && (decide ((((p2.getD a5.toNat default)).op) ≤ (4 : Int)))) = true then ((g_ref08_block k p0 a4 (p2.getD a5.toNat default)).bind fun x11 => some x11) else (if ((decide ((((p2.getD a5.toNat default)).op) ≥ (12 : Int))) && (decide ((((p2.getD a5.toNat default)).op) ≤ (14 : Int)))) = true then ((g_ref08_branch k p0 a4 (p2.getD a5.toNat default)).bind fun x13 => some x13) else (if ((((p2.getD a5.toNat default)).op) == (15 : Int)) = true then ((g_ref08_take a4 p0.result).bind fun x15 => ((g_ref08_away x15.1).bind fun x17 => some x17)) else (if (((((p2.getD a5.toNat default)).op) == (16 : Int)) || ((((p2.getD a5.toNat default)).op) == (17 : Int))) = true then ((g_ref08_calls k p0 a4 (p2.getD a5.toNat default)).bind fun x19 => some x19) else (if ((((p2.getD a5.toNat default)).op) == (26 : Int)) = true then ((g_ref08_take a4 255).bind fun x21 => some x21.1) else (if ((((p2.getD a5.toNat default)).op) == (27 : Int)) = true then ((g_ref08_take a4 127).bind fun x23 => ((g_ref08_take x23.1 255).bind fun x25 => ((g_ref08_take x25.1 x25.2).bind fun x27 => ((g_ref08_lay x27.1 x27.2).bind fun x29 => some x29)))) else (if ((decide ((((p2.getD a5.toNat default)).op) ≥ (32 : Int))) && (decide ((((p2.getD a5.toNat default)).op) ≤ (36 : Int)))) = true then ((g_ref08_variable p0 a4 (p2.getD a5.toNat default)).bind fun x31 => some x31) else ((g_ref08_value k p0 a4 (p2.getD a5.toNat default)).bind fun x33 => some x33)))))))))))).bind (fun j7 => rec6 (j7, (wI (a5 + 1)))) else some a4)) (p1, 0)).bind (fun j1 => some j1)
end
theorem s_ref08_inner (k : Nat) (IH_ref08_inner : ∀ (p0 : Env8) (p1 : St8) (p2 : List Instr) (p3 : Int) (p4 : Int) (r : St8), g_ref08_inner k p0 p1 p2 p3 p4 = some r → CF E 57 [.agg (eEnv8 p0), .agg (eSt8 p1), sVI p2, .int .u8 p3, .int .u8 p4] (.agg (eSt8 r))) (IH_ref08_block : ∀ (p0 : Env8) (p1 : St8) (p2 : Instr) (r : St8), g_ref08_block k p0 p1 p2 = some r → CF E 43 [.agg (eEnv8 p0), .agg (eSt8 p1), .agg (eInstr p2)] (.agg (eSt8 r))) (IH_ref08_list : ∀ (p0 : Env8) (p1 : St8) (p2 : List Instr) (r : St8), g_ref08_list k p0 p1 p2 = some r → CF E 26 [.agg (eEnv8 p0), .agg (eSt8 p1), sVI p2] (.agg (eSt8 r))) : ∀ (p0 : Env8) (p1 : St8) (p2 : List Instr) (p3 : Int) (p4 : Int) (r : St8), g_ref08_inner (k + 1) p0 p1 p2 p3 p4 = some r → CF E 57 [.agg (eEnv8 p0), .agg (eSt8 p1), sVI p2, .int .u8 p3, .int .u8 p4] (.agg (eSt8 r)) := by
  intro p0 p1 p2 p3 p4 r H
  refine cf_of (A := F_ref08_inner) fn_ref08_inner rfl fun fr => ?_
  unfold g_ref08_inner at H
  refine AW2.seq ?_
  refine AW2.rg [.k 5, .k 6, .k 10] [2, 3, 4, 5, 6, 10] [] [.k 5, .k 6, .k 10] ⟨[(2, .d (sVI p2)), (3, .d (.int .u8 p3)), (4, .d (.int .u8 p4)), (5, .p 5 0), (6, .p 6 0), (10, .p 10 0)], [(5, .st false (eD (eEnv8 p0))), (6, .st false (eD (eSt8 p1))), (10, .st false [.d .nils, .d (.int .i64 0), .d (.bool false), .d (.bool false), .d (.int .i64 0), .d (.bool false)])]⟩ (And.intro True.intro True.intro) (by kernel_rfl) ?_
  refine AW2.seq ?_
  refine AW2.rg [] [2, 3, 4, 5, 6, 10, 11] [] [.k 5, .k 6, .k 10] ⟨[(2, .d (sVI p2)), (3, .d (.int .u8 p3)), (4, .d (.int .u8 p4)), (5, .p 5 0), (6, .p 6 0), (10, .p 10 0), (11, .d .nils)], [(5, .st false (eD (eEnv8 p0))), (6, .st false (eD (eSt8 p1))), (10, .st false [.d .nils, .d (.int .i64 0), .d (.bool false), .d (.bool false), .d (.int .i64 0), .d (.bool false)])]⟩ (And.intro True.intro True.intro) (by kernel_rfl) ?_
  refine AW2.seq ?_
  obtain ⟨h1, H⟩ := gd_some H
  obtain ⟨h2, H⟩ := gd_some H
  refine AW2.rg [.ks false 16 p0.labels.length (fl (eI .u8) p0.labels), .sb ([p4] : List Int).length (fl (eI .u8) ([p4] : List Int)), .s true (p0.labels ++ ([p4] : List Int)).length (fl (eI .u8) (p0.labels ++ ([p4] : List Int)))] [2, 3, 5, 6, 10] [] [.k 5, .k 6, .k 10, .k 16] ⟨[(2, .d (sVI p2)), (3, .d (.int .u8 p3)), (5, .p 5 0), (6, .p 6 0), (10, .p 10 0)], [(5, .st false [.d (sV eTyp p0.m.types), .d (sV eFnc p0.m.funcs), .d (sV eLim p0.m.tables), .d (sV eLim p0.m.memories), .d (sV eGlo p0.m.globals), .d (sV eXpo p0.m.exports), .d (sV eEle p0.m.elems), .d (sV eDat p0.m.datas), .d (.int .u8 p0.result), .d (sV (eI .u8) p0.locals), .ls 16 0 (p0.labels ++ ([p4] : List Int)).length]), (6, .st false (eD (eSt8 p1))), (10, .st false [.d .nils, .d (.int .i64 0), .d (.bool false), .d (.bool false), .d (.int .i64 0), .d (.bool false)]), (16, .sl false 1 (p0.labels ++ ([p4] : List Int)).length (fl (eI .u8) (p0.labels ++ ([p4] : List Int))))]⟩ (And.intro (And.intro (lcl (eI .u8) (lc_eI .u8) p0.labels) (And.intro h1 (And.intro (And.intro (Eq.refl p0.labels.length) (fun i (_ : i < p0.labels.length) => Eq.refl (fl (eI .u8) p0.labels i))) (And.intro (litF (eI .u8) ([p4] : List Int)) (And.intro (Nat.le_refl p0.labels.length) (And.intro h2 (And.intro (app1 (eI .u8) p0.labels p4 (fl (eI .u8) ([p4] : List Int)) rfl) True.intro))))))) True.intro) (by kernel_rfl) ?_
  refine AW2.seq ?_
  obtain ⟨j7, H15, H⟩ := bind_some H
  refine AW2.reg [] rfl (YW.to ⟨[(3, .d (.int .u8 p3)), (6, .p 6 0), (10, .p 10 0), (12, .p 12 0)], [(6, .st false (eD (eSt8 p1))), (10, .st false [.d .nils, .d (.int .i64 0), .d (.bool false), .d (.bool false), .d (.int .i64 0), .d (.bool false)]), (12, .st false (eD (eSt8 j7)))]⟩ ?qh16 ?h16)
  case h16 =>
    have H := H15
    rcases bT p1.away with hc1 | hc1
    · replace H := ite_t H hc1
      obtain ⟨x3, hx4, H⟩ := bind_some H
      have H := Option.some.inj H
      subst H
      exact YW.fin [(30, true)] [.r (.agg (eSt8 x3)), .k 12] [3, 6, 10, 12] [] [.k 6, .k 10, .k 12] _ (And.intro (And.intro hc1 (And.intro hc1 (And.intro hc1 (And.intro (Nat.le_refl (p0.labels ++ ([p4] : List Int)).length) (And.intro (dfl (eI .u8) (dep_eI .u8) (p0.labels ++ ([p4] : List Int))) (And.intro (IH_ref08_list (Env8.mk p0.m p0.result p0.locals (p0.labels ++ ([p4] : List Int))) (St8.mk ([] : List Int) (wI (p1.under + (p1.l.length : Int))) false true p1.most p1.ok) p2 x3 hx4) True.intro)))))) True.intro) (by kernel_rfl) rfl
    · replace H := ite_f H hc1
      obtain ⟨x5, hx6, H⟩ := bind_some H
      have H := Option.some.inj H
      subst H
      exact YW.fin [(30, false)] [.r (.agg (eSt8 x5)), .k 12] [3, 6, 10, 12] [] [.k 6, .k 10, .k 12] _ (And.intro (And.intro hc1 (And.intro hc1 (And.intro hc1 (And.intro (Nat.le_refl (p0.labels ++ ([p4] : List Int)).length) (And.intro (dfl (eI .u8) (dep_eI .u8) (p0.labels ++ ([p4] : List Int))) (And.intro (IH_ref08_list (Env8.mk p0.m p0.result p0.locals (p0.labels ++ ([p4] : List Int))) (St8.mk ([] : List Int) (wI (p1.under + (p1.l.length : Int))) false p1.dead p1.most p1.ok) p2 x5 hx6) True.intro)))))) True.intro) (by kernel_rfl) rfl
  refine AW2.seq ?_
  obtain ⟨x8, hx9, H⟩ := bind_some H
  refine AW2.rg [.r (.tup [.agg (eSt8 x8.1), .int .u8 x8.2])] [6, 10, 12] [] [.k 6, .k 10, .k 12] ⟨[(6, .p 6 0), (10, .p 10 0), (12, .p 12 0)], [(6, .st false (eD (eSt8 p1))), (10, .st false [.d .nils, .d (.int .i64 0), .d (.bool false), .d (.bool false), .d (.int .i64 0), .d (.bool false)]), (12, .st false (eD (eSt8 x8.1)))]⟩ (And.intro (And.intro (c_ref08_take j7 p3 x8 hx9) True.intro) True.intro) (by kernel_rfl) ?_
  refine AW2.seq ?_
  obtain ⟨j10, H12, H⟩ := bind_some H
  refine AW2.reg [(6, 0, 4)] (by kernel_rfl) (YW.to ⟨[(6, .p 6 0), (10, .p 10 0)], [(6, .st false [.d (sV (eI .u8) p1.l), .d (.int .i64 p1.under), .d (.bool p1.away), .d (.bool p1.dead), .d (.int .i64 x8.1.most), .d (.bool j10)]), (10, .st false [.d .nils, .d (.int .i64 0), .d (.bool false), .d (.bool false), .d (.int .i64 0), .d (.bool false)])]⟩ ?qh13 ?h13)
  case h13 =>
    have H := H12
    rcases bT x8.1.ok with hc1 | hc1
    · replace H := ite_t H hc1
      have H := Option.some.inj H
      subst H
      exact YW.fin [(51, true)] [] [6, 10] [] [.k 6, .k 10] _ (And.intro (And.intro hc1 (And.intro hc1 (And.intro hc1 (And.intro hc1 (And.intro hc1 True.intro))))) True.intro) (by kernel_rfl) rfl
    · replace H := ite_f H hc1
      have H := Option.some.inj H
      subst H
      exact YW.fin [(51, false)] [] [6, 10] [] [.k 6, .k 10] _ (And.intro (And.intro hc1 (And.intro hc1 (And.intro hc1 (And.intro hc1 (And.intro hc1 True.intro))))) True.intro) (by kernel_rfl) rfl
  refine AW2.seq ?_
  refine AW2.rg [] [10] [] [.k 10] ⟨[(10, .p 10 0)], [(10, .st false [.d (sV (eI .u8) p1.l), .d (.int .i64 p1.under), .d (.bool p1.away), .d (.bool p1.dead), .d (.int .i64 x8.1.most), .d (.bool j10)])]⟩ (And.intro True.intro True.intro) (by kernel_rfl) ?_
  refine AW2.ret ?_
  have H := Option.some.inj H
  subst H
  exact retP_mk2 True.intro (by kernel_rfl)
theorem s_ref08_block (k : Nat) (IH_ref08_inner : ∀ (p0 : Env8) (p1 : St8) (p2 : List Instr) (p3 : Int) (p4 : Int) (r : St8), g_ref08_inner k p0 p1 p2 p3 p4 = some r → CF E 57 [.agg (eEnv8 p0), .agg (eSt8 p1), sVI p2, .int .u8 p3, .int .u8 p4] (.agg (eSt8 r))) (IH_ref08_block : ∀ (p0 : Env8) (p1 : St8) (p2 : Instr) (r : St8), g_ref08_block k p0 p1 p2 = some r → CF E 43 [.agg (eEnv8 p0), .agg (eSt8 p1), .agg (eInstr p2)] (.agg (eSt8 r))) (IH_ref08_list : ∀ (p0 : Env8) (p1 : St8) (p2 : List Instr) (r : St8), g_ref08_list k p0 p1 p2 = some r → CF E 26 [.agg (eEnv8 p0), .agg (eSt8 p1), sVI p2] (.agg (eSt8 r))) : ∀ (p0 : Env8) (p1 : St8) (p2 : Instr) (r : St8), g_ref08_block (k + 1) p0 p1 p2 = some r → CF E 43 [.agg (eEnv8 p0), .agg (eSt8 p1), .agg (eInstr p2)] (.agg (eSt8 r)) := by
  intro p0 p1 p2 r H
  refine cf_of (A := F_ref08_block) fn_ref08_block rfl fun fr => ?_
  unfold g_ref08_block at H
  refine AW2.seq ?_
  refine AW2.rg [.k 3, .k 4, .k 5, .k 6] [3, 4, 5, 6] [] [.k 3, .k 4, .k 5, .k 6] ⟨[(3, .p 3 0), (4, .p 4 0), (5, .p 5 0), (6, .p 6 0)], [(3, .st false (eD (eEnv8 p0))), (4, .st false (eD (eSt8 p1))), (5, .st false (eD (eInstr p2))), (6, .st false [.d .nils, .d (.int .i64 0), .d (.bool false), .d (.bool false), .d (.int .i64 0), .d (.bool false)])]⟩ (And.intro True.intro True.intro) (by kernel_rfl) ?_
  refine AW2.seq ?_
  refine AW2.seq ?_
  refine AW2.reg [] rfl (YW.to ⟨[(3, .p 3 0), (4, .p 4 0), (5, .p 5 0), (6, .p 6 0), (19, .d (.bool ((p2.result != (0 : Int)) && ((p2.result != (127 : Int)) && (p2.result != (126 : Int))))))], [(3, .st false (eD (eEnv8 p0))), (4, .st false (eD (eSt8 p1))), (5, .st false (eD (eInstr p2))), (6, .st false [.d .nils, .d (.int .i64 0), .d (.bool false), .d (.bool false), .d (.int .i64 0), .d (.bool false)])]⟩ ?qh16 ?h16)
  case h16 =>
    rcases bT (p2.result != (0 : Int)) with hc1 | hc1
    · rcases bT (p2.result != (127 : Int)) with hc2 | hc2
      · exact YW.fin [(10, true), (15, true)] [] [3, 4, 5, 6, 19] [(19, .d (.bool ((p2.result != (0 : Int)) && ((p2.result != (127 : Int)) && (p2.result != (126 : Int))))))] [.k 3, .k 4, .k 5, .k 6] _ (And.intro (And.intro hc1 (And.intro hc1 (And.intro hc1 (And.intro hc1 (And.intro hc2 (And.intro hc2 (And.intro hc2 (And.intro hc2 True.intro)))))))) (And.intro (ovB (Eq.trans (andT (b := ((p2.result != (127 : Int)) && (p2.result != (126 : Int)))) hc1) (Eq.trans (andT (b := (p2.result != (126 : Int))) hc2) (Eq.refl (p2.result != (126 : Int)))))) True.intro)) (by kernel_rfl) rfl
      · exact YW.fin [(10, true), (15, false)] [] [3, 4, 5, 6, 19] [(19, .d (.bool ((p2.result != (0 : Int)) && ((p2.result != (127 : Int)) && (p2.result != (126 : Int))))))] [.k 3, .k 4, .k 5, .k 6] _ (And.intro (And.intro hc1 (And.intro hc1 (And.intro hc1 (And.intro hc1 (And.intro hc2 (And.intro hc2 (And.intro hc2 (And.intro hc2 True.intro)))))))) (And.intro (ovB (Eq.trans (andT (b := ((p2.result != (127 : Int)) && (p2.result != (126 : Int)))) hc1) (andF (b := (p2.result != (126 : Int))) hc2))) True.intro)) (by kernel_rfl) rfl
    · exact YW.fin [(10, false), (15, false)] [] [3, 4, 5, 6, 19] [(19, .d (.bool ((p2.result != (0 : Int)) && ((p2.result != (127 : Int)) && (p2.result != (126 : Int))))))] [.k 3, .k 4, .k 5, .k 6] _ (And.intro (And.intro hc1 (And.intro hc1 (And.intro hc1 (And.intro hc1 (And.intro (Eq.refl false) (And.intro (Eq.refl false) (And.intro (Eq.refl false) (And.intro (Eq.refl false) True.intro)))))))) (And.intro (ovB (andF (b := ((p2.result != (127 : Int)) && (p2.result != (126 : Int)))) hc1)) True.intro)) (by kernel_rfl) rfl
  refine AW2.cond (b := ((p2.result != (0 : Int)) && ((p2.result != (127 : Int)) && (p2.result != (126 : Int))))) rfl (fun hc => ?_) (fun hc => ?_)
  · replace H := ite_t H hc
    refine AW2.seq ?_
    refine AW2.rg [] [4, 6] [] [.k 4, .k 6] ⟨[(4, .p 4 0), (6, .p 6 0)], [(4, .st false [.d (sV (eI .u8) p1.l), .d (.int .i64 p1.under), .d (.bool p1.away), .d (.bool p1.dead), .d (.int .i64 p1.most), .d (.bool false)]), (6, .st false [.d .nils, .d (.int .i64 0), .d (.bool false), .d (.bool false), .d (.int .i64 0), .d (.bool false)])]⟩ (And.intro True.intro True.intro) (by kernel_rfl) ?_
    refine AW2.seq ?_
    refine AW2.rg [] [6] [] [.k 6] ⟨[(6, .p 6 0)], [(6, .st false [.d (sV (eI .u8) p1.l), .d (.int .i64 p1.under), .d (.bool p1.away), .d (.bool p1.dead), .d (.int .i64 p1.most), .d (.bool false)])]⟩ (And.intro True.intro True.intro) (by kernel_rfl) ?_
    refine AW2.ret ?_
    have H := Option.some.inj H
    subst H
    exact retP_mk2 True.intro (by kernel_rfl)
  · replace H := ite_f H hc
    refine AW2.skip ?_
    obtain ⟨j1, H15, H⟩ := bind_some H
    refine AW2.mid ⟨[(4, .p 4 0), (5, .p 5 0), (6, .p 6 0)], [(4, .st false (eD (eSt8 j1))), (5, .st false (eD (eInstr p2))), (6, .st false [.d .nils, .d (.int .i64 0), .d (.bool false), .d (.bool false), .d (.int .i64 0), .d (.bool false)])]⟩ ?_ ?_
    · refine AW2.seq ?_
      obtain ⟨x2, hx3, H⟩ := bind_some H
      refine AW2.rg [.r (.agg (eSt8 x2))] [6] [] [.k 6] ⟨[(6, .p 6 0)], [(6, .st false (eD (eSt8 x2)))]⟩ (And.intro (And.intro (c_ref08_lay j1 p2.result x2 hx3) True.intro) True.intro) (by kernel_rfl) ?_
      refine AW2.ret ?_
      have H := Option.some.inj H
      subst H
      exact retP_mk2 True.intro (by kernel_rfl)
    · have H := H15
      refine AW2.seq ?_
      refine AW2.rg [] [3, 4, 5, 6, 23] [] [.k 3, .k 4, .k 5, .k 6] ⟨[(3, .p 3 0), (4, .p 4 0), (5, .p 5 0), (6, .p 6 0), (23, .d (.int .u8 p2.op))], [(3, .st false (eD (eEnv8 p0))), (4, .st false (eD (eSt8 p1))), (5, .st false (eD (eInstr p2))), (6, .st false [.d .nils, .d (.int .i64 0), .d (.bool false), .d (.bool false), .d (.int .i64 0), .d (.bool false)])]⟩ (And.intro True.intro True.intro) (by kernel_rfl) ?_
      refine AW2.block ?_
      refine AW2.seq ?_
      refine AW2.rg [] [3, 4, 5, 6, 23, 46] [] [.k 3, .k 4, .k 5, .k 6] ⟨[(3, .p 3 0), (4, .p 4 0), (5, .p 5 0), (6, .p 6 0), (23, .d (.int .u8 p2.op)), (46, .d (.bool (p2.op == (2 : Int))))], [(3, .st false (eD (eEnv8 p0))), (4, .st false (eD (eSt8 p1))), (5, .st false (eD (eInstr p2))), (6, .st false [.d .nils, .d (.int .i64 0), .d (.bool false), .d (.bool false), .d (.int .i64 0), .d (.bool false)])]⟩ (And.intro True.intro True.intro) (by kernel_rfl) ?_
      refine AW2.cond (b := (p2.op == (2 : Int))) rfl (fun hc => ?_) (fun hc => ?_)
      · replace H := ite_t H hc
        obtain ⟨x4, hx5, H⟩ := bind_some H
        refine AW2.rg [.r (.agg (eSt8 x4))] [4, 5, 6] [] [.k 4, .k 5, .k 6] ⟨[(4, .p 4 0), (5, .p 5 0), (6, .p 6 0)], [(4, .st false (eD (eSt8 x4))), (5, .st false (eD (eInstr p2))), (6, .st false [.d .nils, .d (.int .i64 0), .d (.bool false), .d (.bool false), .d (.int .i64 0), .d (.bool false)])]⟩ (And.intro (And.intro (IH_ref08_inner p0 p1 p2.body p2.result p2.result x4 hx5) True.intro) True.intro) (by kernel_rfl) ?_
        have H := Option.some.inj H
        subst H
        exact wk_mk [4, 5, 6] [] [.k 4, .k 5, .k 6] True.intro (by kernel_rfl)
      · replace H := ite_f H hc
        refine AW2.seq ?_
        refine AW2.rg [] [3, 4, 5, 6, 57] [] [.k 3, .k 4, .k 5, .k 6] ⟨[(3, .p 3 0), (4, .p 4 0), (5, .p 5 0), (6, .p 6 0), (57, .d (.bool (p2.op == (3 : Int))))], [(3, .st false (eD (eEnv8 p0))), (4, .st false (eD (eSt8 p1))), (5, .st false (eD (eInstr p2))), (6, .st false [.d .nils, .d (.int .i64 0), .d (.bool false), .d (.bool false), .d (.int .i64 0), .d (.bool false)])]⟩ (And.intro True.intro True.intro) (by kernel_rfl) ?_
        refine AW2.cond (b := (p2.op == (3 : Int))) rfl (fun hc => ?_) (fun hc => ?_)
        · replace H := ite_t H hc
          obtain ⟨x6, hx7, H⟩ := bind_some H
          refine AW2.rg [.r (.agg (eSt8 x6))] [4, 5, 6] [] [.k 4, .k 5, .k 6] ⟨[(4, .p 4 0), (5, .p 5 0), (6, .p 6 0)], [(4, .st false (eD (eSt8 x6))), (5, .st false (eD (eInstr p2))), (6, .st false [.d .nils, .d (.int .i64 0), .d (.bool false), .d (.bool false), .d (.int .i64 0), .d (.bool false)])]⟩ (And.intro (And.intro (IH_ref08_inner p0 p1 p2.body p2.result 0 x6 hx7) True.intro) True.intro) (by kernel_rfl) ?_
          have H := Option.some.inj H
          subst H
          exact wk_mk [4, 5, 6] [] [.k 4, .k 5, .k 6] True.intro (by kernel_rfl)
        · replace H := ite_f H hc
          refine AW2.seq ?_
          obtain ⟨x8, hx9, H⟩ := bind_some H
          refine AW2.rg [.r (.tup [.agg (eSt8 x8.1), .int .u8 x8.2])] [3, 4, 5, 6] [] [.k 3, .k 4, .k 5, .k 6] ⟨[(3, .p 3 0), (4, .p 4 0), (5, .p 5 0), (6, .p 6 0)], [(3, .st false (eD (eEnv8 p0))), (4, .st false (eD (eSt8 x8.1))), (5, .st false (eD (eInstr p2))), (6, .st false [.d .nils, .d (.int .i64 0), .d (.bool false), .d (.bool false), .d (.int .i64 0), .d (.bool false)])]⟩ (And.intro (And.intro (c_ref08_take p1 127 x8 hx9) True.intro) True.intro) (by kernel_rfl) ?_
          obtain ⟨x10, hx11, H⟩ := bind_some H
          obtain ⟨x12, hx13, H⟩ := bind_some H
          refine AW2.rg [.r (.agg (eSt8 x10)), .r (.agg (eSt8 x12))] [4, 5, 6] [] [.k 4, .k 5, .k 6] ⟨[(4, .p 4 0), (5, .p 5 0), (6, .p 6 0)], [(4, .st false (eD (eSt8 x12))), (5, .st false (eD (eInstr p2))), (6, .st false [.d .nils, .d (.int .i64 0), .d (.bool false), .d (.bool false), .d (.int .i64 0), .d (.bool false)])]⟩ (And.intro (And.intro (IH_ref08_inner p0 x8.1 p2.body p2.result p2.result x10 hx11) (And.intro (IH_ref08_inner p0 x10 p2.els p2.result p2.result x12 hx13) True.intro)) True.intro) (by kernel_rfl) ?_
          have H := Option.some.inj H
          subst H
          exact wk_mk [4, 5, 6] [] [.k 4, .k 5, .k 6] True.intro (by kernel_rfl)
theorem s_ref08_list (k : Nat) (IH_ref08_inner : ∀ (p0 : Env8) (p1 : St8) (p2 : List Instr) (p3 : Int) (p4 : Int) (r : St8), g_ref08_inner k p0 p1 p2 p3 p4 = some r → CF E 57 [.agg (eEnv8 p0), .agg (eSt8 p1), sVI p2, .int .u8 p3, .int .u8 p4] (.agg (eSt8 r))) (IH_ref08_block : ∀ (p0 : Env8) (p1 : St8) (p2 : Instr) (r : St8), g_ref08_block k p0 p1 p2 = some r → CF E 43 [.agg (eEnv8 p0), .agg (eSt8 p1), .agg (eInstr p2)] (.agg (eSt8 r))) (IH_ref08_list : ∀ (p0 : Env8) (p1 : St8) (p2 : List Instr) (r : St8), g_ref08_list k p0 p1 p2 = some r → CF E 26 [.agg (eEnv8 p0), .agg (eSt8 p1), sVI p2] (.agg (eSt8 r))) : ∀ (p0 : Env8) (p1 : St8) (p2 : List Instr) (r : St8), g_ref08_list (k + 1) p0 p1 p2 = some r → CF E 26 [.agg (eEnv8 p0), .agg (eSt8 p1), sVI p2] (.agg (eSt8 r)) := by
  intro p0 p1 p2 r H
  refine cf_of (A := F_ref08_list) fn_ref08_list rfl fun fr => ?_
  unfold g_ref08_list at H
  refine AW2.seq ?_
  refine AW2.rg [.k 3, .k 4, .k 6] [2, 3, 4, 6] [] [.k 3, .k 4, .k 6] ⟨[(2, .d (sVI p2)), (3, .p 3 0), (4, .p 4 0), (6, .p 6 0)], [(3, .st false (eD (eEnv8 p0))), (4, .st false (eD (eSt8 p1))), (6, .st false [.d .nils, .d (.int .i64 0), .d (.bool false), .d (.bool false), .d (.int .i64 0), .d (.bool false)])]⟩ (And.intro True.intro True.intro) (by kernel_rfl) ?_
  obtain ⟨j1, H43, H⟩ := bind_some H
  refine AW2.mid ⟨[(4, .p 4 0), (6, .p 6 0)], [(4, .st false (eD (eSt8 j1))), (6, .st false [.d .nils, .d (.int .i64 0), .d (.bool false), .d (.bool false), .d (.int .i64 0), .d (.bool false)])]⟩ ?_ ?_
  · refine AW2.seq ?_
    refine AW2.rg [] [6] [] [.k 6] ⟨[(6, .p 6 0)], [(6, .st false (eD (eSt8 j1)))]⟩ (And.intro True.intro True.intro) (by kernel_rfl) ?_
    refine AW2.ret ?_
    have H := Option.some.inj H
    subst H
    exact retP_mk2 True.intro (by kernel_rfl)
  · have H := H43
    refine AW2.seq ?_
    refine AW2.rg [] [2, 3, 4, 6, 7] [] [.k 3, .k 4, .k 6] ⟨[(2, .d (sVI p2)), (3, .p 3 0), (4, .p 4 0), (6, .p 6 0), (7, .d (.int .i64 0))], [(3, .st false (eD (eEnv8 p0))), (4, .st false (eD (eSt8 p1))), (6, .st false [.d .nils, .d (.int .i64 0), .d (.bool false), .d (.bool false), .d (.int .i64 0), .d (.bool false)])]⟩ (And.intro True.intro True.intro) (by kernel_rfl) ?_
    refine AW2.block ?_
    refine AW2.lpR (σ := St8 × Int) (fun v => ⟨[(2, .d (sVI p2)), (3, .p 3 0), (4, .p 4 0), (6, .p 6 0), (7, .d (.int .i64 v.2))], [(3, .st false (eD (eEnv8 p0))), (4, .st false (eD (eSt8 v.1))), (6, .st false [.d .nils, .d (.int .i64 0), .d (.bool false), .d (.bool false), .d (.int .i64 0), .d (.bool false)])]⟩) ?_ (v := (p1, 0)) H
    rintro rec6 ⟨a4, a5⟩ H
    dsimp only at H
    refine AW2.seq ?_
    refine AW2.seq ?_
    refine AW2.reg [] rfl (YW.to ⟨[(2, .d (sVI p2)), (3, .p 3 0), (4, .p 4 0), (6, .p 6 0), (7, .d (.int .i64 a5)), (22, .d (.bool ((decide (a5 < (p2.length : Int))) && a4.ok)))], [(3, .st false (eD (eEnv8 p0))), (4, .st false (eD (eSt8 a4))), (6, .st false [.d .nils, .d (.int .i64 0), .d (.bool false), .d (.bool false), .d (.int .i64 0), .d (.bool false)])]⟩ ?qh41 ?h41)
    case h41 =>
      rcases bT (decide (a5 < (p2.length : Int))) with hc1 | hc1
      · exact YW.fin [(19, true)] [] [2, 3, 4, 6, 7, 22] [(22, .d (.bool ((decide (a5 < (p2.length : Int))) && a4.ok)))] [.k 3, .k 4, .k 6] _ (And.intro (And.intro hc1 (And.intro hc1 (And.intro hc1 True.intro))) (And.intro (ovB (Eq.trans (andT (b := a4.ok) hc1) (Eq.refl a4.ok))) True.intro)) (by kernel_rfl) rfl
      · exact YW.fin [(19, false)] [] [2, 3, 4, 6, 7, 22] [(22, .d (.bool ((decide (a5 < (p2.length : Int))) && a4.ok)))] [.k 3, .k 4, .k 6] _ (And.intro (And.intro hc1 (And.intro hc1 (And.intro hc1 True.intro))) (And.intro (ovB (andF (b := a4.ok) hc1)) True.intro)) (by kernel_rfl) rfl
    refine AW2.cond (b := ((decide (a5 < (p2.length : Int))) && a4.ok)) rfl (fun hc => ?_) (fun hc => ?_)
    · replace H := ite_t H hc
      refine AW2.skip ?_
      obtain ⟨j7, H40, H⟩ := bind_some H
      refine AW2.mid ⟨[(2, .d (sVI p2)), (3, .p 3 0), (4, .p 4 0), (6, .p 6 0), (7, .d (.int .i64 a5))], [(3, .st false (eD (eEnv8 p0))), (4, .st false (eD (eSt8 j7))), (6, .st false [.d .nils, .d (.int .i64 0), .d (.bool false), .d (.bool false), .d (.int .i64 0), .d (.bool false)])]⟩ ?_ ?_
      · refine AW2.rg [] [2, 3, 4, 6, 7] [] [.k 3, .k 4, .k 6] ⟨[(2, .d (sVI p2)), (3, .p 3 0), (4, .p 4 0), (6, .p 6 0), (7, .d (.int .i64 (wI (a5 + 1))))], [(3, .st false (eD (eEnv8 p0))), (4, .st false (eD (eSt8 j7))), (6, .st false [.d .nils, .d (.int .i64 0), .d (.bool false), .d (.bool false), .d (.int .i64 0), .d (.bool false)])]⟩ (And.intro True.intro True.intro) (by kernel_rfl) ?_
        exact ⟨(j7, (wI (a5 + 1))), H, wk_mk [2, 3, 4, 6, 7] [] [.k 3, .k 4, .k 6] True.intro (by kernel_rfl)⟩
      · have H := H40
        refine AW2.block ?_
        refine AW2.seq ?_
        obtain ⟨h8, H⟩ := gd_some H
        refine AW2.rg [.e (eInstr (p2.getD a5.toNat default)), .k 8] [2, 3, 4, 6, 7, 8] [] [.k 3, .k 4, .k 6, .k 8] ⟨[(2, .d (sVI p2)), (3, .p 3 0), (4, .p 4 0), (6, .p 6 0), (7, .d (.int .i64 a5)), (8, .p 8 0)], [(3, .st false (eD (eEnv8 p0))), (4, .st false (eD (eSt8 a4))), (6, .st false [.d .nils, .d (.int .i64 0), .d (.bool false), .d (.bool false), .d (.int .i64 0), .d (.bool false)]), (8, .st false (eD (eInstr (p2.getD a5.toNat default))))]⟩ (And.intro (And.intro h8 (And.intro (flI_ix h8) True.intro)) True.intro) (by kernel_rfl) ?_
        refine AW2.block ?_
        refine AW2.seq ?_
        refine AW2.rg [] [2, 3, 4, 6, 7, 8, 33] [] [.k 3, .k 4, .k 6, .k 8] ⟨[(2, .d (sVI p2)), (3, .p 3 0), (4, .p 4 0), (6, .p 6 0), (7, .d (.int .i64 a5)), (8, .p 8 0), (33, .d (.bool ((((p2.getD a5.toNat default)).op) == (0 : Int))))], [(3, .st false (eD (eEnv8 p0))), (4, .st false (eD (eSt8 a4))), (6, .st false [.d .nils, .d (.int .i64 0), .d (.bool false), .d (.bool false), .d (.int .i64 0), .d (.bool false)]), (8, .st false (eD (eInstr (p2.getD a5.toNat default))))]⟩ (And.intro True.intro True.intro) (by kernel_rfl) ?_
        refine AW2.cond (b := ((((p2.getD a5.toNat default)).op) == (0 : Int))) rfl (fun hc => ?_) (fun hc => ?_)
        · replace H := ite_t H hc
          obtain ⟨x9, hx10, H⟩ := bind_some H
          refine AW2.rg [.r (.agg (eSt8 x9))] [2, 3, 4, 6, 7] [] [.k 3, .k 4, .k 6] ⟨[(2, .d (sVI p2)), (3, .p 3 0), (4, .p 4 0), (6, .p 6 0), (7, .d (.int .i64 a5))], [(3, .st false (eD (eEnv8 p0))), (4, .st false (eD (eSt8 x9))), (6, .st false [.d .nils, .d (.int .i64 0), .d (.bool false), .d (.bool false), .d (.int .i64 0), .d (.bool false)])]⟩ (And.intro (And.intro (c_ref08_away a4 x9 hx10) True.intro) True.intro) (by kernel_rfl) ?_
          have H := Option.some.inj H
          subst H
          exact wk_mk [2, 3, 4, 6, 7] [] [.k 3, .k 4, .k 6] True.intro (by kernel_rfl)
        · replace H := ite_f H hc
          refine AW2.seq ?_
          refine AW2.rg [] [2, 3, 4, 6, 7, 8, 39] [] [.k 3, .k 4, .k 6, .k 8] ⟨[(2, .d (sVI p2)), (3, .p 3 0), (4, .p 4 0), (6, .p 6 0), (7, .d (.int .i64 a5)), (8, .p 8 0), (39, .d (.bool ((((p2.getD a5.toNat default)).op) == (1 : Int))))], [(3, .st false (eD (eEnv8 p0))), (4, .st false (eD (eSt8 a4))), (6, .st false [.d .nils, .d (.int .i64 0), .d (.bool false), .d (.bool false), .d (.int .i64 0), .d (.bool false)]), (8, .st false (eD (eInstr (p2.getD a5.toNat default))))]⟩ (And.intro True.intro True.intro) (by kernel_rfl) ?_
          refine AW2.cond (b := ((((p2.getD a5.toNat default)).op) == (1 : Int))) rfl (fun hc => ?_) (fun hc => ?_)
          · replace H := ite_t H hc
            refine AW2.skip ?_
            have H := Option.some.inj H
            subst H
            exact wk_mk [2, 3, 4, 6, 7] [] [.k 3, .k 4, .k 6] True.intro (by kernel_rfl)
          · replace H := ite_f H hc
            refine AW2.seq ?_
            refine AW2.reg [] rfl (YW.to ⟨[(2, .d (sVI p2)), (3, .p 3 0), (4, .p 4 0), (6, .p 6 0), (7, .d (.int .i64 a5)), (8, .p 8 0), (43, .d (.bool ((decide ((((p2.getD a5.toNat default)).op) ≥ (2 : Int))) && (decide ((((p2.getD a5.toNat default)).op) ≤ (4 : Int))))))], [(3, .st false (eD (eEnv8 p0))), (4, .st false (eD (eSt8 a4))), (6, .st false [.d .nils, .d (.int .i64 0), .d (.bool false), .d (.bool false), .d (.int .i64 0), .d (.bool false)]), (8, .st false (eD (eInstr (p2.getD a5.toNat default))))]⟩ ?qh38 ?h38)
            case h38 =>
              rcases bT (decide ((((p2.getD a5.toNat default)).op) ≥ (2 : Int))) with hc1 | hc1
              · exact YW.fin [(47, true)] [] [2, 3, 4, 6, 7, 8, 43] [(43, .d (.bool ((decide ((((p2.getD a5.toNat default)).op) ≥ (2 : Int))) && (decide ((((p2.getD a5.toNat default)).op) ≤ (4 : Int))))))] [.k 3, .k 4, .k 6, .k 8] _ (And.intro (And.intro hc1 (And.intro hc1 (And.intro hc1 (And.intro hc1 True.intro)))) (And.intro (ovB (Eq.trans (andT (b := (decide ((((p2.getD a5.toNat default)).op) ≤ (4 : Int)))) hc1) (Eq.refl (decide ((((p2.getD a5.toNat default)).op) ≤ (4 : Int)))))) True.intro)) (by kernel_rfl) rfl
              · exact YW.fin [(47, false)] [] [2, 3, 4, 6, 7, 8, 43] [(43, .d (.bool ((decide ((((p2.getD a5.toNat default)).op) ≥ (2 : Int))) && (decide ((((p2.getD a5.toNat default)).op) ≤ (4 : Int))))))] [.k 3, .k 4, .k 6, .k 8] _ (And.intro (And.intro hc1 (And.intro hc1 (And.intro hc1 (And.intro hc1 True.intro)))) (And.intro (ovB (andF (b := (decide ((((p2.getD a5.toNat default)).op) ≤ (4 : Int)))) hc1)) True.intro)) (by kernel_rfl) rfl
            refine AW2.cond (b := ((decide ((((p2.getD a5.toNat default)).op) ≥ (2 : Int))) && (decide ((((p2.getD a5.toNat default)).op) ≤ (4 : Int))))) rfl (fun hc => ?_) (fun hc => ?_)
            · replace H := ite_t H hc
              obtain ⟨x11, hx12, H⟩ := bind_some H
              refine AW2.rg [.r (.agg (eSt8 x11))] [2, 3, 4, 6, 7] [] [.k 3, .k 4, .k 6] ⟨[(2, .d (sVI p2)), (3, .p 3 0), (4, .p 4 0), (6, .p 6 0), (7, .d (.int .i64 a5))], [(3, .st false (eD (eEnv8 p0))), (4, .st false (eD (eSt8 x11))), (6, .st false [.d .nils, .d (.int .i64 0), .d (.bool false), .d (.bool false), .d (.int .i64 0), .d (.bool false)])]⟩ (And.intro (And.intro (IH_ref08_block p0 a4 (p2.getD a5.toNat default) x11 hx12) True.intro) True.intro) (by kernel_rfl) ?_
              have H := Option.some.inj H
              subst H
              exact wk_mk [2, 3, 4, 6, 7] [] [.k 3, .k 4, .k 6] True.intro (by kernel_rfl)
            · replace H := ite_f H hc
              refine AW2.seq ?_
              refine AW2.reg [] rfl (YW.to ⟨[(2, .d (sVI p2)), (3, .p 3 0), (4, .p 4 0), (6, .p 6 0), (7, .d (.int .i64 a5)), (8, .p 8 0), (56, .d (.bool ((decide ((((p2.getD a5.toNat default)).op) ≥ (12 : Int))) && (decide ((((p2.getD a5.toNat default)).op) ≤ (14 : Int))))))], [(3, .st false (eD (eEnv8 p0))), (4, .st false (eD (eSt8 a4))), (6, .st false [.d .nils, .d (.int .i64 0), .d (.bool false), .d (.bool false), .d (.int .i64 0), .d (.bool false)]), (8, .st false (eD (eInstr (p2.getD a5.toNat default))))]⟩ ?qh37 ?h37)
              case h37 =>
                rcases bT (decide ((((p2.getD a5.toNat default)).op) ≥ (12 : Int))) with hc1 | hc1
                · exact YW.fin [(60, true)] [] [2, 3, 4, 6, 7, 8, 56] [(56, .d (.bool ((decide ((((p2.getD a5.toNat default)).op) ≥ (12 : Int))) && (decide ((((p2.getD a5.toNat default)).op) ≤ (14 : Int))))))] [.k 3, .k 4, .k 6, .k 8] _ (And.intro (And.intro hc1 (And.intro hc1 (And.intro hc1 (And.intro hc1 True.intro)))) (And.intro (ovB (Eq.trans (andT (b := (decide ((((p2.getD a5.toNat default)).op) ≤ (14 : Int)))) hc1) (Eq.refl (decide ((((p2.getD a5.toNat default)).op) ≤ (14 : Int)))))) True.intro)) (by kernel_rfl) rfl
                · exact YW.fin [(60, false)] [] [2, 3, 4, 6, 7, 8, 56] [(56, .d (.bool ((decide ((((p2.getD a5.toNat default)).op) ≥ (12 : Int))) && (decide ((((p2.getD a5.toNat default)).op) ≤ (14 : Int))))))] [.k 3, .k 4, .k 6, .k 8] _ (And.intro (And.intro hc1 (And.intro hc1 (And.intro hc1 (And.intro hc1 True.intro)))) (And.intro (ovB (andF (b := (decide ((((p2.getD a5.toNat default)).op) ≤ (14 : Int)))) hc1)) True.intro)) (by kernel_rfl) rfl
              refine AW2.cond (b := ((decide ((((p2.getD a5.toNat default)).op) ≥ (12 : Int))) && (decide ((((p2.getD a5.toNat default)).op) ≤ (14 : Int))))) rfl (fun hc => ?_) (fun hc => ?_)
              · replace H := ite_t H hc
                obtain ⟨x13, hx14, H⟩ := bind_some H
                refine AW2.rg [.r (.agg (eSt8 x13))] [2, 3, 4, 6, 7] [] [.k 3, .k 4, .k 6] ⟨[(2, .d (sVI p2)), (3, .p 3 0), (4, .p 4 0), (6, .p 6 0), (7, .d (.int .i64 a5))], [(3, .st false (eD (eEnv8 p0))), (4, .st false (eD (eSt8 x13))), (6, .st false [.d .nils, .d (.int .i64 0), .d (.bool false), .d (.bool false), .d (.int .i64 0), .d (.bool false)])]⟩ (And.intro (And.intro (c_ref08_branch k p0 a4 (p2.getD a5.toNat default) x13 hx14) True.intro) True.intro) (by kernel_rfl) ?_
                have H := Option.some.inj H
                subst H
                exact wk_mk [2, 3, 4, 6, 7] [] [.k 3, .k 4, .k 6] True.intro (by kernel_rfl)
              · replace H := ite_f H hc
                refine AW2.seq ?_
                refine AW2.rg [] [2, 3, 4, 6, 7, 8, 69] [] [.k 3, .k 4, .k 6, .k 8] ⟨[(2, .d (sVI p2)), (3, .p 3 0), (4, .p 4 0), (6, .p 6 0), (7, .d (.int .i64 a5)), (8, .p 8 0), (69, .d (.bool ((((p2.getD a5.toNat default)).op) == (15 : Int))))], [(3, .st false (eD (eEnv8 p0))), (4, .st false (eD (eSt8 a4))), (6, .st false [.d .nils, .d (.int .i64 0), .d (.bool false), .d (.bool false), .d (.int .i64 0), .d (.bool false)]), (8, .st false (eD (eInstr (p2.getD a5.toNat default))))]⟩ (And.intro True.intro True.intro) (by kernel_rfl) ?_
                refine AW2.cond (b := ((((p2.getD a5.toNat default)).op) == (15 : Int))) rfl (fun hc => ?_) (fun hc => ?_)
                · replace H := ite_t H hc
                  refine AW2.seq ?_
                  obtain ⟨x15, hx16, H⟩ := bind_some H
                  refine AW2.rg [.r (.tup [.agg (eSt8 x15.1), .int .u8 x15.2])] [2, 3, 4, 6, 7] [] [.k 3, .k 4, .k 6] ⟨[(2, .d (sVI p2)), (3, .p 3 0), (4, .p 4 0), (6, .p 6 0), (7, .d (.int .i64 a5))], [(3, .st false (eD (eEnv8 p0))), (4, .st false (eD (eSt8 x15.1))), (6, .st false [.d .nils, .d (.int .i64 0), .d (.bool false), .d (.bool false), .d (.int .i64 0), .d (.bool false)])]⟩ (And.intro (And.intro (c_ref08_take a4 p0.result x15 hx16) True.intro) True.intro) (by kernel_rfl) ?_
                  obtain ⟨x17, hx18, H⟩ := bind_some H
                  refine AW2.rg [.r (.agg (eSt8 x17))] [2, 3, 4, 6, 7] [] [.k 3, .k 4, .k 6] ⟨[(2, .d (sVI p2)), (3, .p 3 0), (4, .p 4 0), (6, .p 6 0), (7, .d (.int .i64 a5))], [(3, .st false (eD (eEnv8 p0))), (4, .st false (eD (eSt8 x17))), (6, .st false [.d .nils, .d (.int .i64 0), .d (.bool false), .d (.bool false), .d (.int .i64 0), .d (.bool false)])]⟩ (And.intro (And.intro (c_ref08_away x15.1 x17 hx18) True.intro) True.intro) (by kernel_rfl) ?_
                  have H := Option.some.inj H
                  subst H
                  exact wk_mk [2, 3, 4, 6, 7] [] [.k 3, .k 4, .k 6] True.intro (by kernel_rfl)
                · replace H := ite_f H hc
                  refine AW2.seq ?_
                  refine AW2.reg [] rfl (YW.to ⟨[(2, .d (sVI p2)), (3, .p 3 0), (4, .p 4 0), (6, .p 6 0), (7, .d (.int .i64 a5)), (8, .p 8 0), (82, .d (.bool (((((p2.getD a5.toNat default)).op) == (16 : Int)) || ((((p2.getD a5.toNat default)).op) == (17 : Int)))))], [(3, .st false (eD (eEnv8 p0))), (4, .st false (eD (eSt8 a4))), (6, .st false [.d .nils, .d (.int .i64 0), .d (.bool false), .d (.bool false), .d (.int .i64 0), .d (.bool false)]), (8, .st false (eD (eInstr (p2.getD a5.toNat default))))]⟩ ?qh36 ?h36)
                  case h36 =>
                    rcases bT ((((p2.getD a5.toNat default)).op) == (16 : Int)) with hc1 | hc1
                    · exact YW.fin [(86, true)] [] [2, 3, 4, 6, 7, 8, 82] [(82, .d (.bool (((((p2.getD a5.toNat default)).op) == (16 : Int)) || ((((p2.getD a5.toNat default)).op) == (17 : Int)))))] [.k 3, .k 4, .k 6, .k 8] _ (And.intro (And.intro hc1 (And.intro hc1 (And.intro hc1 (And.intro hc1 True.intro)))) (And.intro (ovB (orT (b := ((((p2.getD a5.toNat default)).op) == (17 : Int))) hc1)) True.intro)) (by kernel_rfl) rfl
                    · exact YW.fin [(86, false)] [] [2, 3, 4, 6, 7, 8, 82] [(82, .d (.bool (((((p2.getD a5.toNat default)).op) == (16 : Int)) || ((((p2.getD a5.toNat default)).op) == (17 : Int)))))] [.k 3, .k 4, .k 6, .k 8] _ (And.intro (And.intro hc1 (And.intro hc1 (And.intro hc1 (And.intro hc1 True.intro)))) (And.intro (ovB (Eq.trans (orF (b := ((((p2.getD a5.toNat default)).op) == (17 : Int))) hc1) (Eq.refl ((((p2.getD a5.toNat default)).op) == (17 : Int))))) True.intro)) (by kernel_rfl) rfl
                  refine AW2.cond (b := (((((p2.getD a5.toNat default)).op) == (16 : Int)) || ((((p2.getD a5.toNat default)).op) == (17 : Int)))) rfl (fun hc => ?_) (fun hc => ?_)
                  · replace H := ite_t H hc
                    obtain ⟨x19, hx20, H⟩ := bind_some H
                    refine AW2.rg [.r (.agg (eSt8 x19))] [2, 3, 4, 6, 7] [] [.k 3, .k 4, .k 6] ⟨[(2, .d (sVI p2)), (3, .p 3 0), (4, .p 4 0), (6, .p 6 0), (7, .d (.int .i64 a5))], [(3, .st false (eD (eEnv8 p0))), (4, .st false (eD (eSt8 x19))), (6, .st false [.d .nils, .d (.int .i64 0), .d (.bool false), .d (.bool false), .d (.int .i64 0), .d (.bool false)])]⟩ (And.intro (And.intro (c_ref08_calls k p0 a4 (p2.getD a5.toNat default) x19 hx20) True.intro) True.intro) (by kernel_rfl) ?_
                    have H := Option.some.inj H
                    subst H
                    exact wk_mk [2, 3, 4, 6, 7] [] [.k 3, .k 4, .k 6] True.intro (by kernel_rfl)
                  · replace H := ite_f H hc
                    refine AW2.seq ?_
                    refine AW2.rg [] [2, 3, 4, 6, 7, 8, 95] [] [.k 3, .k 4, .k 6, .k 8] ⟨[(2, .d (sVI p2)), (3, .p 3 0), (4, .p 4 0), (6, .p 6 0), (7, .d (.int .i64 a5)), (8, .p 8 0), (95, .d (.bool ((((p2.getD a5.toNat default)).op) == (26 : Int))))], [(3, .st false (eD (eEnv8 p0))), (4, .st false (eD (eSt8 a4))), (6, .st false [.d .nils, .d (.int .i64 0), .d (.bool false), .d (.bool false), .d (.int .i64 0), .d (.bool false)]), (8, .st false (eD (eInstr (p2.getD a5.toNat default))))]⟩ (And.intro True.intro True.intro) (by kernel_rfl) ?_
                    refine AW2.cond (b := ((((p2.getD a5.toNat default)).op) == (26 : Int))) rfl (fun hc => ?_) (fun hc => ?_)
                    · replace H := ite_t H hc
                      obtain ⟨x21, hx22, H⟩ := bind_some H
                      refine AW2.rg [.r (.tup [.agg (eSt8 x21.1), .int .u8 x21.2])] [2, 3, 4, 6, 7] [] [.k 3, .k 4, .k 6] ⟨[(2, .d (sVI p2)), (3, .p 3 0), (4, .p 4 0), (6, .p 6 0), (7, .d (.int .i64 a5))], [(3, .st false (eD (eEnv8 p0))), (4, .st false (eD (eSt8 x21.1))), (6, .st false [.d .nils, .d (.int .i64 0), .d (.bool false), .d (.bool false), .d (.int .i64 0), .d (.bool false)])]⟩ (And.intro (And.intro (c_ref08_take a4 255 x21 hx22) True.intro) True.intro) (by kernel_rfl) ?_
                      have H := Option.some.inj H
                      subst H
                      exact wk_mk [2, 3, 4, 6, 7] [] [.k 3, .k 4, .k 6] True.intro (by kernel_rfl)
                    · replace H := ite_f H hc
                      refine AW2.seq ?_
                      refine AW2.rg [] [2, 3, 4, 6, 7, 8, 104] [] [.k 3, .k 4, .k 6, .k 8] ⟨[(2, .d (sVI p2)), (3, .p 3 0), (4, .p 4 0), (6, .p 6 0), (7, .d (.int .i64 a5)), (8, .p 8 0), (104, .d (.bool ((((p2.getD a5.toNat default)).op) == (27 : Int))))], [(3, .st false (eD (eEnv8 p0))), (4, .st false (eD (eSt8 a4))), (6, .st false [.d .nils, .d (.int .i64 0), .d (.bool false), .d (.bool false), .d (.int .i64 0), .d (.bool false)]), (8, .st false (eD (eInstr (p2.getD a5.toNat default))))]⟩ (And.intro True.intro True.intro) (by kernel_rfl) ?_
                      refine AW2.cond (b := ((((p2.getD a5.toNat default)).op) == (27 : Int))) rfl (fun hc => ?_) (fun hc => ?_)
                      · replace H := ite_t H hc
                        refine AW2.seq ?_
                        obtain ⟨x23, hx24, H⟩ := bind_some H
                        refine AW2.rg [.r (.tup [.agg (eSt8 x23.1), .int .u8 x23.2]), .k 9] [2, 3, 4, 6, 7, 9] [] [.k 3, .k 4, .k 6, .k 9] ⟨[(2, .d (sVI p2)), (3, .p 3 0), (4, .p 4 0), (6, .p 6 0), (7, .d (.int .i64 a5)), (9, .p 9 0)], [(3, .st false (eD (eEnv8 p0))), (4, .st false (eD (eSt8 a4))), (6, .st false [.d .nils, .d (.int .i64 0), .d (.bool false), .d (.bool false), .d (.int .i64 0), .d (.bool false)]), (9, .st false (eD (eSt8 x23.1)))]⟩ (And.intro (And.intro (c_ref08_take a4 127 x23 hx24) True.intro) True.intro) (by kernel_rfl) ?_
                        refine AW2.seq ?_
                        obtain ⟨x25, hx26, H⟩ := bind_some H
                        refine AW2.rg [.r (.tup [.agg (eSt8 x25.1), .int .u8 x25.2]), .k 11] [2, 3, 4, 6, 7, 11, 12] [] [.k 3, .k 4, .k 6, .k 11] ⟨[(2, .d (sVI p2)), (3, .p 3 0), (4, .p 4 0), (6, .p 6 0), (7, .d (.int .i64 a5)), (11, .p 11 0), (12, .d (.int .u8 x25.2))], [(3, .st false (eD (eEnv8 p0))), (4, .st false (eD (eSt8 a4))), (6, .st false [.d .nils, .d (.int .i64 0), .d (.bool false), .d (.bool false), .d (.int .i64 0), .d (.bool false)]), (11, .st false (eD (eSt8 x25.1)))]⟩ (And.intro (And.intro (c_ref08_take x23.1 255 x25 hx26) True.intro) True.intro) (by kernel_rfl) ?_
                        refine AW2.seq ?_
                        obtain ⟨x27, hx28, H⟩ := bind_some H
                        refine AW2.rg [.r (.tup [.agg (eSt8 x27.1), .int .u8 x27.2]), .k 13] [2, 3, 4, 6, 7, 13, 14] [] [.k 3, .k 4, .k 6, .k 13] ⟨[(2, .d (sVI p2)), (3, .p 3 0), (4, .p 4 0), (6, .p 6 0), (7, .d (.int .i64 a5)), (13, .p 13 0), (14, .d (.int .u8 x27.2))], [(3, .st false (eD (eEnv8 p0))), (4, .st false (eD (eSt8 a4))), (6, .st false [.d .nils, .d (.int .i64 0), .d (.bool false), .d (.bool false), .d (.int .i64 0), .d (.bool false)]), (13, .st false (eD (eSt8 x27.1)))]⟩ (And.intro (And.intro (c_ref08_take x25.1 x25.2 x27 hx28) True.intro) True.intro) (by kernel_rfl) ?_
                        obtain ⟨x29, hx30, H⟩ := bind_some H
                        refine AW2.rg [.r (.agg (eSt8 x29))] [2, 3, 4, 6, 7] [] [.k 3, .k 4, .k 6] ⟨[(2, .d (sVI p2)), (3, .p 3 0), (4, .p 4 0), (6, .p 6 0), (7, .d (.int .i64 a5))], [(3, .st false (eD (eEnv8 p0))), (4, .st false (eD (eSt8 x29))), (6, .st false [.d .nils, .d (.int .i64 0), .d (.bool false), .d (.bool false), .d (.int .i64 0), .d (.bool false)])]⟩ (And.intro (And.intro (c_ref08_lay x27.1 x27.2 x29 hx30) True.intro) True.intro) (by kernel_rfl) ?_
                        have H := Option.some.inj H
                        subst H
                        exact wk_mk [2, 3, 4, 6, 7] [] [.k 3, .k 4, .k 6] True.intro (by kernel_rfl)
                      · replace H := ite_f H hc
                        refine AW2.seq ?_
                        refine AW2.reg [] rfl (YW.to ⟨[(2, .d (sVI p2)), (3, .p 3 0), (4, .p 4 0), (6, .p 6 0), (7, .d (.int .i64 a5)), (8, .p 8 0), (127, .d (.bool ((decide ((((p2.getD a5.toNat default)).op) ≥ (32 : Int))) && (decide ((((p2.getD a5.toNat default)).op) ≤ (36 : Int))))))], [(3, .st false (eD (eEnv8 p0))), (4, .st false (eD (eSt8 a4))), (6, .st false [.d .nils, .d (.int .i64 0), .d (.bool false), .d (.bool false), .d (.int .i64 0), .d (.bool false)]), (8, .st false (eD (eInstr (p2.getD a5.toNat default))))]⟩ ?qh35 ?h35)
                        case h35 =>
                          rcases bT (decide ((((p2.getD a5.toNat default)).op) ≥ (32 : Int))) with hc1 | hc1
                          · exact YW.fin [(131, true)] [] [2, 3, 4, 6, 7, 8, 127] [(127, .d (.bool ((decide ((((p2.getD a5.toNat default)).op) ≥ (32 : Int))) && (decide ((((p2.getD a5.toNat default)).op) ≤ (36 : Int))))))] [.k 3, .k 4, .k 6, .k 8] _ (And.intro (And.intro hc1 (And.intro hc1 (And.intro hc1 (And.intro hc1 True.intro)))) (And.intro (ovB (Eq.trans (andT (b := (decide ((((p2.getD a5.toNat default)).op) ≤ (36 : Int)))) hc1) (Eq.refl (decide ((((p2.getD a5.toNat default)).op) ≤ (36 : Int)))))) True.intro)) (by kernel_rfl) rfl
                          · exact YW.fin [(131, false)] [] [2, 3, 4, 6, 7, 8, 127] [(127, .d (.bool ((decide ((((p2.getD a5.toNat default)).op) ≥ (32 : Int))) && (decide ((((p2.getD a5.toNat default)).op) ≤ (36 : Int))))))] [.k 3, .k 4, .k 6, .k 8] _ (And.intro (And.intro hc1 (And.intro hc1 (And.intro hc1 (And.intro hc1 True.intro)))) (And.intro (ovB (andF (b := (decide ((((p2.getD a5.toNat default)).op) ≤ (36 : Int)))) hc1)) True.intro)) (by kernel_rfl) rfl
                        refine AW2.cond (b := ((decide ((((p2.getD a5.toNat default)).op) ≥ (32 : Int))) && (decide ((((p2.getD a5.toNat default)).op) ≤ (36 : Int))))) rfl (fun hc => ?_) (fun hc => ?_)
                        · replace H := ite_t H hc
                          obtain ⟨x31, hx32, H⟩ := bind_some H
                          refine AW2.rg [.r (.agg (eSt8 x31))] [2, 3, 4, 6, 7] [] [.k 3, .k 4, .k 6] ⟨[(2, .d (sVI p2)), (3, .p 3 0), (4, .p 4 0), (6, .p 6 0), (7, .d (.int .i64 a5))], [(3, .st false (eD (eEnv8 p0))), (4, .st false (eD (eSt8 x31))), (6, .st false [.d .nils, .d (.int .i64 0), .d (.bool false), .d (.bool false), .d (.int .i64 0), .d (.bool false)])]⟩ (And.intro (And.intro (c_ref08_variable p0 a4 (p2.getD a5.toNat default) x31 hx32) True.intro) True.intro) (by kernel_rfl) ?_
                          have H := Option.some.inj H
                          subst H
                          exact wk_mk [2, 3, 4, 6, 7] [] [.k 3, .k 4, .k 6] True.intro (by kernel_rfl)
                        · replace H := ite_f H hc
                          obtain ⟨x33, hx34, H⟩ := bind_some H
                          refine AW2.rg [.r (.agg (eSt8 x33))] [2, 3, 4, 6, 7] [] [.k 3, .k 4, .k 6] ⟨[(2, .d (sVI p2)), (3, .p 3 0), (4, .p 4 0), (6, .p 6 0), (7, .d (.int .i64 a5))], [(3, .st false (eD (eEnv8 p0))), (4, .st false (eD (eSt8 x33))), (6, .st false [.d .nils, .d (.int .i64 0), .d (.bool false), .d (.bool false), .d (.int .i64 0), .d (.bool false)])]⟩ (And.intro (And.intro (c_ref08_value k p0 a4 (p2.getD a5.toNat default) x33 hx34) True.intro) True.intro) (by kernel_rfl) ?_
                          have H := Option.some.inj H
                          subst H
                          exact wk_mk [2, 3, 4, 6, 7] [] [.k 3, .k 4, .k 6] True.intro (by kernel_rfl)
    · replace H := ite_f H hc
      refine AW2.exit ?_
      have H := Option.some.inj H
      subst H
      exact wk_mk [4, 6] [] [.k 4, .k 6] True.intro (by kernel_rfl)
theorem c_scc_ref08_inner : ∀ k, (∀ (p0 : Env8) (p1 : St8) (p2 : List Instr) (p3 : Int) (p4 : Int) (r : St8), g_ref08_inner k p0 p1 p2 p3 p4 = some r → CF E 57 [.agg (eEnv8 p0), .agg (eSt8 p1), sVI p2, .int .u8 p3, .int .u8 p4] (.agg (eSt8 r))) ∧ (∀ (p0 : Env8) (p1 : St8) (p2 : Instr) (r : St8), g_ref08_block k p0 p1 p2 = some r → CF E 43 [.agg (eEnv8 p0), .agg (eSt8 p1), .agg (eInstr p2)] (.agg (eSt8 r))) ∧ (∀ (p0 : Env8) (p1 : St8) (p2 : List Instr) (r : St8), g_ref08_list k p0 p1 p2 = some r → CF E 26 [.agg (eEnv8 p0), .agg (eSt8 p1), sVI p2] (.agg (eSt8 r))) := by
  intro k
  induction k with
  | zero => exact ⟨fun _ _ _ _ _ _ H => (by cases H), fun _ _ _ _ H => (by cases H), fun _ _ _ _ H => (by cases H)⟩
  | succ k ih =>
    obtain ⟨i0, i1, i2⟩ := ih
    exact ⟨s_ref08_inner k i0 i1 i2, s_ref08_block k i0 i1 i2, s_ref08_list k i0 i1 i2⟩
theorem c_ref08_list (k : Nat) : ∀ (p0 : Env8) (p1 : St8) (p2 : List Instr) (r : St8), g_ref08_list k p0 p1 p2 = some r → CF E 26 [.agg (eEnv8 p0), .agg (eSt8 p1), sVI p2] (.agg (eSt8 r)) := (c_scc_ref08_inner k).2.2

end Go.Proofs.YtablleokoifolaaGreatDoor

/- Plain functions and their contracts. Written by a program of this claim set (g2.py). -/
set_option linter.unusedVariables false
set_option maxRecDepth 100000
set_option maxHeartbeats 4000000
namespace Go.Proofs.YtablleokoifolaaGreatDoor
open Go

/- mandrel/mandrelref08.Body -/
def g_ref08_Body (K : Nat) (p0 : Mdl) (p1 : Int) : Option (Int × Int) := ((if (decide (p1 < (0 : Int))) = true then some true else (if (decide (p1 ≥ (p0.funcs.length : Int))) = true then some true else gd (0 ≤ p1 ∧ p1 < (p0.funcs.length : Int)) ((if (decide ((((p0.funcs.getD p1.toNat default)).type_) ≥ (IntKind.wrap .u32 (p0.types.length : Int)))) = true then some true else ((g_ref08_kinds K p0).bind fun x2 => some (!x2))))))).bind (fun j4 => (if j4 = true then some (1, 0) else gd (0 ≤ p1 ∧ p1 < (p0.funcs.length : Int)) (gd (0 ≤ (((p0.funcs.getD p1.toNat default)).type_) ∧ (((p0.funcs.getD p1.toNat default)).type_) < (p0.types.length : Int)) (gd ((((p0.types.getD (((p0.funcs.getD p1.toNat default)).type_).toNat default)).params).length * 1 ≤ 140737488355328) (gd (0 ≤ p1 ∧ p1 < (p0.funcs.length : Int)) (gd (((((p0.types.getD (((p0.funcs.getD p1.toNat default)).type_).toNat default)).params).length + (((p0.funcs.getD p1.toNat default)).locals).length) * 1 ≤ 140737488355328) (gd (0 ≤ p1 ∧ p1 < (p0.funcs.length : Int)) (((g_ref08_list K (Env8.mk p0 (((p0.types.getD (((p0.funcs.getD p1.toNat default)).type_).toNat default)).result) (((p0.types.getD (((p0.funcs.getD p1.toNat default)).type_).toNat default)).params ++ ((p0.funcs.getD p1.toNat default)).locals) ([((p0.types.getD (((p0.funcs.getD p1.toNat default)).type_).toNat default)).result] : List Int)) (St8.mk ([] : List Int) 0 false false 0 true) (((p0.funcs.getD p1.toNat default)).body)).bind fun x11 => ((g_ref08_take x11 (((p0.types.getD (((p0.funcs.getD p1.toNat default)).type_).toNat default)).result)).bind fun x13 => (if ((!x13.1.ok) || (decide ((x13.1.l.length : Int) > (0 : Int)))) = true then some (7, 0) else some (0, x13.1.most))))))))))))

theorem c_ref08_Body (K : Nat) (p0 : Mdl) (p1 : Int) (r : Int × Int) (H : g_ref08_Body K p0 p1 = some r) : CF E 8 [.agg (eMdl p0), .int .i64 p1] (.tup [.int .i64 r.1, .int .i64 r.2]) := by
  refine cf_of (A := F_ref08_Body) fn_ref08_Body rfl fun fr => ?_
  unfold g_ref08_Body at H
  refine AW2.seq ?_
  refine AW2.rg [.k 2] [1, 2] [] [.k 2] ⟨[(1, .d (.int .i64 p1)), (2, .p 2 0)], [(2, .st false (eD (eMdl p0)))]⟩ (And.intro True.intro True.intro) (by kernel_rfl) ?_
  refine AW2.seq ?_
  refine AW2.seq ?_
  obtain ⟨j4, H17, H⟩ := bind_some H
  refine AW2.reg [] rfl (YW.to ⟨[(1, .d (.int .i64 p1)), (2, .p 2 0), (35, .d (.bool j4))], [(2, .st false (eD (eMdl p0)))]⟩ ?qh18 ?h18)
  case h18 =>
    have H := H17
    rcases bT (decide (p1 < (0 : Int))) with hc1 | hc1
    · replace H := ite_t H hc1
      have H := Option.some.inj H
      subst H
      exact YW.fin [(11, true), (18, true), (31, true)] [] [1, 2, 35] [] [.k 2] _ (And.intro (And.intro hc1 (And.intro hc1 (And.intro hc1 (And.intro hc1 (And.intro hc1 (And.intro hc1 (And.intro (Eq.refl true) (And.intro (Eq.refl true) (And.intro (Eq.refl true) (And.intro (Eq.refl true) (And.intro (Eq.refl true) (And.intro (Eq.refl true) (And.intro (Eq.refl true) (And.intro (Eq.refl true) (And.intro (Eq.refl true) (And.intro (Eq.refl true) (And.intro (Eq.refl true) (And.intro (Eq.refl true) (And.intro (Eq.refl true) (And.intro (Eq.refl true) (And.intro (Eq.refl true) (And.intro (Eq.refl true) True.intro)))))))))))))))))))))) True.intro) (by kernel_rfl) rfl
    · replace H := ite_f H hc1
      rcases bT (decide (p1 ≥ (p0.funcs.length : Int))) with hc2 | hc2
      · replace H := ite_t H hc2
        have H := Option.some.inj H
        subst H
        exact YW.fin [(11, false), (18, true), (31, true)] [] [1, 2, 35] [] [.k 2] _ (And.intro (And.intro hc1 (And.intro hc1 (And.intro hc1 (And.intro hc1 (And.intro hc1 (And.intro hc1 (And.intro hc2 (And.intro hc2 (And.intro hc2 (And.intro hc2 (And.intro hc2 (And.intro hc2 (And.intro hc2 (And.intro hc2 (And.intro hc2 (And.intro hc2 (And.intro hc2 (And.intro hc2 (And.intro (Eq.refl true) (And.intro (Eq.refl true) (And.intro (Eq.refl true) (And.intro (Eq.refl true) True.intro)))))))))))))))))))))) True.intro) (by kernel_rfl) rfl
      · replace H := ite_f H hc2
        obtain ⟨h1, H⟩ := gd_some H
        rcases bT (decide ((((p0.funcs.getD p1.toNat default)).type_) ≥ (IntKind.wrap .u32 (p0.types.length : Int)))) with hc3 | hc3
        · replace H := ite_t H hc3
          have H := Option.some.inj H
          subst H
          exact YW.fin [(11, false), (18, false), (31, true)] [] [1, 2, 35] [] [.k 2] _ (And.intro (And.intro hc1 (And.intro hc1 (And.intro hc1 (And.intro hc1 (And.intro hc1 (And.intro hc1 (And.intro hc2 (And.intro hc2 (And.intro hc2 (And.intro hc2 (And.intro h1 (And.intro hc2 (And.intro hc2 (And.intro hc2 (And.intro hc2 (And.intro hc2 (And.intro hc2 (And.intro hc2 (And.intro hc2 (And.intro hc3 (And.intro hc3 (And.intro hc3 (And.intro hc3 True.intro))))))))))))))))))))))) True.intro) (by kernel_rfl) rfl
        · replace H := ite_f H hc3
          obtain ⟨x2, hx3, H⟩ := bind_some H
          have H := Option.some.inj H
          subst H
          exact YW.fin [(11, false), (18, false), (31, false)] [.r (.bool x2)] [1, 2, 35] [] [.k 2] _ (And.intro (And.intro hc1 (And.intro hc1 (And.intro hc1 (And.intro hc1 (And.intro hc1 (And.intro hc1 (And.intro hc2 (And.intro hc2 (And.intro hc2 (And.intro hc2 (And.intro h1 (And.intro hc2 (And.intro hc2 (And.intro hc2 (And.intro hc2 (And.intro hc2 (And.intro hc2 (And.intro hc2 (And.intro hc2 (And.intro hc3 (And.intro hc3 (And.intro (c_ref08_kinds K p0 x2 hx3) (And.intro hc3 (And.intro hc3 True.intro)))))))))))))))))))))))) True.intro) (by kernel_rfl) rfl
  refine AW2.cond (b := j4) rfl (fun hc => ?_) (fun hc => ?_)
  · replace H := ite_t H hc
    refine AW2.seq ?_
    refine AW2.rg [] [4, 5] [] [] ⟨[(4, .d (.int .i64 1)), (5, .d (.int .i64 0))], []⟩ (And.intro True.intro True.intro) (by kernel_rfl) ?_
    refine AW2.ret ?_
    have H := Option.some.inj H
    subst H
    exact retP_mk2 True.intro (by kernel_rfl)
  · replace H := ite_f H hc
    refine AW2.skip ?_
    refine AW2.seq ?_
    obtain ⟨h5, H⟩ := gd_some H
    obtain ⟨h6, H⟩ := gd_some H
    refine AW2.rg [.k 6] [1, 2, 6] [] [.k 2, .k 6] ⟨[(1, .d (.int .i64 p1)), (2, .p 2 0), (6, .p 6 0)], [(2, .st false (eD (eMdl p0))), (6, .st false (eD (eTyp (p0.types.getD (((p0.funcs.getD p1.toNat default)).type_).toNat default))))]⟩ (And.intro (And.intro h5 (And.intro h6 True.intro)) True.intro) (by kernel_rfl) ?_
    refine AW2.seq ?_
    refine AW2.rg [] [1, 2, 6, 7] [] [.k 2, .k 6] ⟨[(1, .d (.int .i64 p1)), (2, .p 2 0), (6, .p 6 0), (7, .d .nils)], [(2, .st false (eD (eMdl p0))), (6, .st false (eD (eTyp (p0.types.getD (((p0.funcs.getD p1.toNat default)).type_).toNat default))))]⟩ (And.intro True.intro True.intro) (by kernel_rfl) ?_
    refine AW2.seq ?_
    obtain ⟨h7, H⟩ := gd_some H
    obtain ⟨h8, H⟩ := gd_some H
    obtain ⟨h9, H⟩ := gd_some H
    refine AW2.rg [.ks false 49 (((p0.types.getD (((p0.funcs.getD p1.toNat default)).type_).toNat default)).params).length (fl (eI .u8) (((p0.types.getD (((p0.funcs.getD p1.toNat default)).type_).toNat default)).params)), .s false (((p0.types.getD (((p0.funcs.getD p1.toNat default)).type_).toNat default)).params ++ ((p0.funcs.getD p1.toNat default)).locals).length (fl (eI .u8) (((p0.types.getD (((p0.funcs.getD p1.toNat default)).type_).toNat default)).params ++ ((p0.funcs.getD p1.toNat default)).locals))] [1, 2, 6, 7] [] [.k 2, .k 6, .k 49] ⟨[(1, .d (.int .i64 p1)), (2, .p 2 0), (6, .p 6 0), (7, .ls 49 0 (((p0.types.getD (((p0.funcs.getD p1.toNat default)).type_).toNat default)).params ++ ((p0.funcs.getD p1.toNat default)).locals).length)], [(2, .st false (eD (eMdl p0))), (6, .st false (eD (eTyp (p0.types.getD (((p0.funcs.getD p1.toNat default)).type_).toNat default)))), (49, .sl false 1 (((p0.types.getD (((p0.funcs.getD p1.toNat default)).type_).toNat default)).params ++ ((p0.funcs.getD p1.toNat default)).locals).length (fl (eI .u8) (((p0.types.getD (((p0.funcs.getD p1.toNat default)).type_).toNat default)).params ++ ((p0.funcs.getD p1.toNat default)).locals)))]⟩ (And.intro (And.intro (lcl (eI .u8) (lc_eI .u8) (((p0.types.getD (((p0.funcs.getD p1.toNat default)).type_).toNat default)).params)) (And.intro h7 (And.intro (And.intro (Eq.refl (((p0.types.getD (((p0.funcs.getD p1.toNat default)).type_).toNat default)).params).length) (fun i (_ : i < (((p0.types.getD (((p0.funcs.getD p1.toNat default)).type_).toNat default)).params).length) => Eq.refl (fl (eI .u8) (((p0.types.getD (((p0.funcs.getD p1.toNat default)).type_).toNat default)).params) i))) (And.intro h8 (And.intro (lcl (eI .u8) (lc_eI .u8) (((p0.funcs.getD p1.toNat default)).locals)) (And.intro (Nat.le_refl (((p0.types.getD (((p0.funcs.getD p1.toNat default)).type_).toNat default)).params).length) (And.intro h9 (And.intro (appN (eI .u8) (((p0.types.getD (((p0.funcs.getD p1.toNat default)).type_).toNat default)).params) (((p0.funcs.getD p1.toNat default)).locals)) True.intro)))))))) True.intro) (by kernel_rfl) ?_
    refine AW2.seq ?_
    refine AW2.fz [sV (eI .u8) (((p0.types.getD (((p0.funcs.getD p1.toNat default)).type_).toNat default)).params ++ ((p0.funcs.getD p1.toNat default)).locals)] (And.intro (Nat.le_refl (((p0.types.getD (((p0.funcs.getD p1.toNat default)).type_).toNat default)).params ++ ((p0.funcs.getD p1.toNat default)).locals).length) (And.intro (dfl (eI .u8) (dep_eI .u8) (((p0.types.getD (((p0.funcs.getD p1.toNat default)).type_).toNat default)).params ++ ((p0.funcs.getD p1.toNat default)).locals)) True.intro)) (by kernel_rfl) (by kernel_rfl) ?_
    refine AW2.wk (wk_mk [1, 2, 6, 7] [] [.k 2, .k 6] True.intro (by kernel_rfl) : Wk _ ⟨[(1, .d (.int .i64 p1)), (2, .p 2 0), (6, .p 6 0), (7, .d (sV (eI .u8) (((p0.types.getD (((p0.funcs.getD p1.toNat default)).type_).toNat default)).params ++ ((p0.funcs.getD p1.toNat default)).locals)))], [(2, .st false (eD (eMdl p0))), (6, .st false (eD (eTyp (p0.types.getD (((p0.funcs.getD p1.toNat default)).type_).toNat default))))]⟩) ?_
    obtain ⟨h10, H⟩ := gd_some H
    obtain ⟨x11, hx12, H⟩ := bind_some H
    refine AW2.rg [.sb ([((p0.types.getD (((p0.funcs.getD p1.toNat default)).type_).toNat default)).result] : List Int).length (fl (eI .u8) ([((p0.types.getD (((p0.funcs.getD p1.toNat default)).type_).toNat default)).result] : List Int)), .r (.agg (eSt8 x11)), .k 8] [6, 8] [] [.k 6, .k 8] ⟨[(6, .p 6 0), (8, .p 8 0)], [(6, .st false (eD (eTyp (p0.types.getD (((p0.funcs.getD p1.toNat default)).type_).toNat default)))), (8, .st false (eD (eSt8 x11)))]⟩ (And.intro (And.intro (litF (eI .u8) ([((p0.types.getD (((p0.funcs.getD p1.toNat default)).type_).toNat default)).result] : List Int)) (And.intro h10 (And.intro (c_ref08_list K (Env8.mk p0 (((p0.types.getD (((p0.funcs.getD p1.toNat default)).type_).toNat default)).result) (((p0.types.getD (((p0.funcs.getD p1.toNat default)).type_).toNat default)).params ++ ((p0.funcs.getD p1.toNat default)).locals) ([((p0.types.getD (((p0.funcs.getD p1.toNat default)).type_).toNat default)).result] : List Int)) (St8.mk ([] : List Int) 0 false false 0 true) (((p0.funcs.getD p1.toNat default)).body) x11 hx12) True.intro))) True.intro) (by kernel_rfl) ?_
    refine AW2.seq ?_
    obtain ⟨x13, hx14, H⟩ := bind_some H
    refine AW2.rg [.r (.tup [.agg (eSt8 x13.1), .int .u8 x13.2])] [8] [] [.k 8] ⟨[(8, .p 8 0)], [(8, .st false (eD (eSt8 x13.1)))]⟩ (And.intro (And.intro (c_ref08_take x11 (((p0.types.getD (((p0.funcs.getD p1.toNat default)).type_).toNat default)).result) x13 hx14) True.intro) True.intro) (by kernel_rfl) ?_
    refine AW2.seq ?_
    refine AW2.seq ?_
    refine AW2.reg [] rfl (YW.to ⟨[(8, .p 8 0), (88, .d (.bool ((!x13.1.ok) || (decide ((x13.1.l.length : Int) > (0 : Int))))))], [(8, .st false (eD (eSt8 x13.1)))]⟩ ?qh15 ?h15)
    case h15 =>
      rcases bT (!x13.1.ok) with hc1 | hc1
      · exact YW.fin [(83, true)] [] [8, 88] [(88, .d (.bool ((!x13.1.ok) || (decide ((x13.1.l.length : Int) > (0 : Int))))))] [.k 8] _ (And.intro (And.intro hc1 (And.intro hc1 (And.intro hc1 (And.intro hc1 (And.intro hc1 True.intro))))) (And.intro (ovB (orT (b := (decide ((x13.1.l.length : Int) > (0 : Int)))) hc1)) True.intro)) (by kernel_rfl) rfl
      · exact YW.fin [(83, false)] [] [8, 88] [(88, .d (.bool ((!x13.1.ok) || (decide ((x13.1.l.length : Int) > (0 : Int))))))] [.k 8] _ (And.intro (And.intro hc1 (And.intro hc1 (And.intro hc1 (And.intro hc1 (And.intro hc1 True.intro))))) (And.intro (ovB (Eq.trans (orF (b := (decide ((x13.1.l.length : Int) > (0 : Int)))) hc1) (Eq.refl (decide ((x13.1.l.length : Int) > (0 : Int)))))) True.intro)) (by kernel_rfl) rfl
    refine AW2.cond (b := ((!x13.1.ok) || (decide ((x13.1.l.length : Int) > (0 : Int))))) rfl (fun hc => ?_) (fun hc => ?_)
    · replace H := ite_t H hc
      refine AW2.seq ?_
      refine AW2.rg [] [4, 5] [] [] ⟨[(4, .d (.int .i64 7)), (5, .d (.int .i64 0))], []⟩ (And.intro True.intro True.intro) (by kernel_rfl) ?_
      refine AW2.ret ?_
      have H := Option.some.inj H
      subst H
      exact retP_mk2 True.intro (by kernel_rfl)
    · replace H := ite_f H hc
      refine AW2.skip ?_
      refine AW2.seq ?_
      refine AW2.rg [] [4, 5] [] [] ⟨[(4, .d (.int .i64 0)), (5, .d (.int .i64 x13.1.most))], []⟩ (And.intro True.intro True.intro) (by kernel_rfl) ?_
      refine AW2.ret ?_
      have H := Option.some.inj H
      subst H
      exact retP_mk2 True.intro (by kernel_rfl)

end Go.Proofs.YtablleokoifolaaGreatDoor

/- Plain functions and their contracts. Written by a program of this claim set (g2.py). -/
set_option linter.unusedVariables false
set_option maxRecDepth 100000
set_option maxHeartbeats 4000000
namespace Go.Proofs.YtablleokoifolaaGreatDoor
open Go

/- mandrel/valid.Height -/
def g_valid_Height (K : Nat) (p0 : Mdl) (p1 : Int) : Option (Int × Option Int) := ((g_valid_check K p0 p1).bind fun x1 => (if (!x1.2.isNone) = true then some (0, x1.2) else ((x1.1).bind fun x3 => some (x3.most, none))))

theorem c_valid_Height (K : Nat) (p0 : Mdl) (p1 : Int) (r : Int × Option Int) (H : g_valid_Height K p0 p1 = some r) : CF E 7 [.agg (eMdl p0), .int .i64 p1] (.tup [.int .i64 r.1, .err 45 r.2]) := by
  refine cf_of (A := F_valid_Height) fn_valid_Height rfl fun fr => ?_
  unfold g_valid_Height at H
  refine AW2.seq ?_
  refine AW2.rg [.k 2] [1, 2] [] [.k 2] ⟨[(1, .d (.int .i64 p1)), (2, .p 2 0)], [(2, .st false (eD (eMdl p0)))]⟩ (And.intro True.intro True.intro) (by kernel_rfl) ?_
  refine AW2.seq ?_
  obtain ⟨x1, hx2, H⟩ := bind_some H
  refine AW2.rg [.r (.tup [.pt (x1.1.map eChecker), .err 45 x1.2])] [6, 7] [] [] ⟨[(6, .d (.pt (x1.1.map eChecker))), (7, .d (.err 45 x1.2))], []⟩ (And.intro (And.intro (c_valid_check K p0 p1 x1 hx2) True.intro) True.intro) (by kernel_rfl) ?_
  refine AW2.seq ?_
  refine AW2.seq ?_
  refine AW2.rg [] [6, 7, 15] [] [] ⟨[(6, .d (.pt (x1.1.map eChecker))), (7, .d (.err 45 x1.2)), (15, .d (.bool (!x1.2.isNone)))], []⟩ (And.intro True.intro True.intro) (by kernel_rfl) ?_
  refine AW2.cond (b := (!x1.2.isNone)) rfl (fun hc => ?_) (fun hc => ?_)
  · replace H := ite_t H hc
    refine AW2.seq ?_
    refine AW2.rg [] [4, 5] [] [] ⟨[(4, .d (.int .i64 0)), (5, .d (.err 45 x1.2))], []⟩ (And.intro True.intro True.intro) (by kernel_rfl) ?_
    refine AW2.ret ?_
    have H := Option.some.inj H
    subst H
    exact retP_mk2 True.intro (by kernel_rfl)
  · replace H := ite_f H hc
    refine AW2.skip ?_
    refine AW2.seq ?_
    obtain ⟨x3, hx4, H⟩ := bind_some H
    refine AW2.rg [.e (eChecker x3)] [4, 5] [] [] ⟨[(4, .d (.int .i64 x3.most)), (5, .d .nili)], []⟩ (And.intro (And.intro (optS eChecker hx4) True.intro) True.intro) (by kernel_rfl) ?_
    refine AW2.ret ?_
    have H := Option.some.inj H
    subst H
    exact retP_mk2 True.intro (by kernel_rfl)

end Go.Proofs.YtablleokoifolaaGreatDoor

/- Plain functions and their contracts. Written by a program of this claim set (g2.py). -/
set_option linter.unusedVariables false
set_option maxRecDepth 100000
set_option maxHeartbeats 4000000
namespace Go.Proofs.YtablleokoifolaaGreatDoor
open Go

/- mandrel/mandrellaw08.scene -/
def g_law08_scene (p0 : List Int) (p1 : Int) (p2 : List Instr) : Option (Mdl) := some (Mdl.mk ([(Typ.mk p0 p1), (Typ.mk ([127] : List Int) 126), (Typ.mk ([] : List Int) 0)] : List Typ) ([(Fnc.mk 0 ([127, 126] : List Int) p2), (Fnc.mk 1 ([] : List Int) ([(Instr.mk 66 0 0 0 0 ([] : List Instr) ([] : List Instr) ([] : List Int))] : List Instr)), (Fnc.mk 2 ([] : List Int) ([] : List Instr))] : List Fnc) ([(Lim.mk 4 false 0)] : List Lim) ([(Lim.mk 1 false 0)] : List Lim) ([(Glo.mk 127 true (Instr.mk 65 0 0 0 0 ([] : List Instr) ([] : List Instr) ([] : List Int))), (Glo.mk 126 false (Instr.mk 66 0 0 0 0 ([] : List Instr) ([] : List Instr) ([] : List Int)))] : List Glo) ([] : List Xpo) ([] : List Ele) ([] : List Dat))

theorem c_law08_scene (p0 : List Int) (p1 : Int) (p2 : List Instr) (r : Mdl) (H : g_law08_scene p0 p1 p2 = some r) : CF E 11 [sV (eI .u8) p0, .int .u8 p1, sVI p2] (.agg (eMdl r)) := by
  refine cf_of (A := F_law08_scene) fn_law08_scene rfl fun fr => ?_
  unfold g_law08_scene at H
  refine AW2.seq ?_
  refine AW2.rg [.k 6] [0, 1, 2, 6] [] [.k 6] ⟨[(0, .d (sV (eI .u8) p0)), (1, .d (.int .u8 p1)), (2, .d (sVI p2)), (6, .p 6 0)], [(6, .st false [.d .nils, .d .nils, .d .nils, .d .nils, .d .nils, .d .nils, .d .nils, .d .nils])]⟩ (And.intro True.intro True.intro) (by kernel_rfl) ?_
  refine AW2.seq ?_
  refine AW2.rg [.k 7] [0, 1, 2, 6, 7] [] [.k 6, .k 7] ⟨[(0, .d (sV (eI .u8) p0)), (1, .d (.int .u8 p1)), (2, .d (sVI p2)), (6, .p 6 0), (7, .p 7 0)], [(6, .st false [.d .nils, .d .nils, .d .nils, .d .nils, .d .nils, .d .nils, .d .nils, .d .nils]), (7, .st false [.d (.int .u8 65), .d (.int .i64 0), .d (.int .u32 0), .d (.int .u32 0), .d (.int .u8 0), .d .nils, .d .nils, .d .nils])]⟩ (And.intro True.intro True.intro) (by kernel_rfl) ?_
  refine AW2.seq ?_
  refine AW2.rg [.k 8] [0, 1, 2, 6, 7, 8] [] [.k 6, .k 7, .k 8] ⟨[(0, .d (sV (eI .u8) p0)), (1, .d (.int .u8 p1)), (2, .d (sVI p2)), (6, .p 6 0), (7, .p 7 0), (8, .p 8 0)], [(6, .st false [.d .nils, .d .nils, .d .nils, .d .nils, .d .nils, .d .nils, .d .nils, .d .nils]), (7, .st false [.d (.int .u8 65), .d (.int .i64 0), .d (.int .u32 0), .d (.int .u32 0), .d (.int .u8 0), .d .nils, .d .nils, .d .nils]), (8, .st false [.d (.int .u8 66), .d (.int .i64 0), .d (.int .u32 0), .d (.int .u32 0), .d (.int .u8 0), .d .nils, .d .nils, .d .nils])]⟩ (And.intro True.intro True.intro) (by kernel_rfl) ?_
  refine AW2.seq ?_
  refine AW2.rg [.sb ([127] : List Int).length (fl (eI .u8) ([127] : List Int)), .sb ([(Typ.mk p0 p1), (Typ.mk ([127] : List Int) 126), (Typ.mk ([] : List Int) 0)] : List Typ).length (fl eTyp ([(Typ.mk p0 p1), (Typ.mk ([127] : List Int) 126), (Typ.mk ([] : List Int) 0)] : List Typ)), .sb ([127, 126] : List Int).length (fl (eI .u8) ([127, 126] : List Int)), .sb ([(Instr.mk 66 0 0 0 0 ([] : List Instr) ([] : List Instr) ([] : List Int))] : List Instr).length (flI ([(Instr.mk 66 0 0 0 0 ([] : List Instr) ([] : List Instr) ([] : List Int))] : List Instr)), .sb ([(Fnc.mk 0 ([127, 126] : List Int) p2), (Fnc.mk 1 ([] : List Int) ([(Instr.mk 66 0 0 0 0 ([] : List Instr) ([] : List Instr) ([] : List Int))] : List Instr)), (Fnc.mk 2 ([] : List Int) ([] : List Instr))] : List Fnc).length (fl eFnc ([(Fnc.mk 0 ([127, 126] : List Int) p2), (Fnc.mk 1 ([] : List Int) ([(Instr.mk 66 0 0 0 0 ([] : List Instr) ([] : List Instr) ([] : List Int))] : List Instr)), (Fnc.mk 2 ([] : List Int) ([] : List Instr))] : List Fnc)), .sb ([(Lim.mk 4 false 0)] : List Lim).length (fl eLim ([(Lim.mk 4 false 0)] : List Lim)), .sb ([(Lim.mk 1 false 0)] : List Lim).length (fl eLim ([(Lim.mk 1 false 0)] : List Lim)), .sb ([(Glo.mk 127 true (Instr.mk 65 0 0 0 0 ([] : List Instr) ([] : List Instr) ([] : List Int))), (Glo.mk 126 false (Instr.mk 66 0 0 0 0 ([] : List Instr) ([] : List Instr) ([] : List Int)))] : List Glo).length (fl eGlo ([(Glo.mk 127 true (Instr.mk 65 0 0 0 0 ([] : List Instr) ([] : List Instr) ([] : List Int))), (Glo.mk 126 false (Instr.mk 66 0 0 0 0 ([] : List Instr) ([] : List Instr) ([] : List Int)))] : List Glo))] [6] [] [.k 6] ⟨[(6, .p 6 0)], [(6, .st false [.d (sV eTyp ([(Typ.mk p0 p1), (Typ.mk ([127] : List Int) 126), (Typ.mk ([] : List Int) 0)] : List Typ)), .d (sV eFnc ([(Fnc.mk 0 ([127, 126] : List Int) p2), (Fnc.mk 1 ([] : List Int) ([(Instr.mk 66 0 0 0 0 ([] : List Instr) ([] : List Instr) ([] : List Int))] : List Instr)), (Fnc.mk 2 ([] : List Int) ([] : List Instr))] : List Fnc)), .d (sV eLim ([(Lim.mk 4 false 0)] : List Lim)), .d (sV eLim ([(Lim.mk 1 false 0)] : List Lim)), .d (sV eGlo ([(Glo.mk 127 true (Instr.mk 65 0 0 0 0 ([] : List Instr) ([] : List Instr) ([] : List Int))), (Glo.mk 126 false (Instr.mk 66 0 0 0 0 ([] : List Instr) ([] : List Instr) ([] : List Int)))] : List Glo)), .d .nils, .d .nils, .d .nils])]⟩ (And.intro (And.intro (litF (eI .u8) ([127] : List Int)) (And.intro (litF eTyp ([(Typ.mk p0 p1), (Typ.mk ([127] : List Int) 126), (Typ.mk ([] : List Int) 0)] : List Typ)) (And.intro (litF (eI .u8) ([127, 126] : List Int)) (And.intro (litI ([(Instr.mk 66 0 0 0 0 ([] : List Instr) ([] : List Instr) ([] : List Int))] : List Instr)) (And.intro (litF eFnc ([(Fnc.mk 0 ([127, 126] : List Int) p2), (Fnc.mk 1 ([] : List Int) ([(Instr.mk 66 0 0 0 0 ([] : List Instr) ([] : List Instr) ([] : List Int))] : List Instr)), (Fnc.mk 2 ([] : List Int) ([] : List Instr))] : List Fnc)) (And.intro (litF eLim ([(Lim.mk 4 false 0)] : List Lim)) (And.intro (litF eLim ([(Lim.mk 1 false 0)] : List Lim)) (And.intro (litF eGlo ([(Glo.mk 127 true (Instr.mk 65 0 0 0 0 ([] : List Instr) ([] : List Instr) ([] : List Int))), (Glo.mk 126 false (Instr.mk 66 0 0 0 0 ([] : List Instr) ([] : List Instr) ([] : List Int)))] : List Glo)) True.intro)))))))) True.intro) (by kernel_rfl) ?_
  refine AW2.ret ?_
  have H := Option.some.inj H
  subst H
  exact retP_mk2 True.intro (by kernel_rfl)

/- mandrel/mandrellaw08.ValidBodies -/
def g_law08_ValidBodies (K : Nat) (p0 : List Int) (p1 : Int) (p2 : List Instr) : Option (Bool) := ((g_law08_scene p0 p1 p2).bind fun x1 => ((g_law08_bigModule K x1).bind fun x3 => (if x3 = true then ((g_law08_sure).bind fun x5 => some x5) else ((g_law08_giveModule K x1).bind fun x7 => ((g_valid_Height K x7 0).bind fun x9 => ((g_ref08_Body K x1 0).bind fun x11 => ((g_law08_num x9.2).bind fun x13 => ((if (x13 == x11.1) = true then (if (x9.1 == x11.2) = true then ((g_valid_Body K x7 0).bind fun x15 => ((g_law08_num x15).bind fun x17 => (if (x17 == x11.1) = true then ((g_law08_sure).bind fun x19 => some x19) else some false))) else some false) else some false)).bind (fun j21 => some j21))))))))

theorem c_law08_ValidBodies (K : Nat) (p0 : List Int) (p1 : Int) (p2 : List Instr) (r : Bool) (H : g_law08_ValidBodies K p0 p1 p2 = some r) : CF E 10 [sV (eI .u8) p0, .int .u8 p1, sVI p2] (.bool r) := by
  refine cf_of (A := F_law08_ValidBodies) fn_law08_ValidBodies rfl fun fr => ?_
  unfold g_law08_ValidBodies at H
  refine AW2.seq ?_
  refine AW2.rg [] [0, 1, 2] [] [] ⟨[(0, .d (sV (eI .u8) p0)), (1, .d (.int .u8 p1)), (2, .d (sVI p2))], []⟩ (And.intro True.intro True.intro) (by kernel_rfl) ?_
  refine AW2.seq ?_
  obtain ⟨x1, hx2, H⟩ := bind_some H
  refine AW2.rg [.r (.agg (eMdl x1)), .k 7] [7] [] [.k 7] ⟨[(7, .p 7 0)], [(7, .st false (eD (eMdl x1)))]⟩ (And.intro (And.intro (c_law08_scene p0 p1 p2 x1 hx2) True.intro) True.intro) (by kernel_rfl) ?_
  refine AW2.seq ?_
  refine AW2.seq ?_
  obtain ⟨x3, hx4, H⟩ := bind_some H
  refine AW2.rg [.r (.bool x3)] [7, 18] [] [.k 7] ⟨[(7, .p 7 0), (18, .d (.bool x3))], [(7, .st false (eD (eMdl x1)))]⟩ (And.intro (And.intro (c_law08_bigModule K x1 x3 hx4) True.intro) True.intro) (by kernel_rfl) ?_
  refine AW2.cond (b := x3) rfl (fun hc => ?_) (fun hc => ?_)
  · replace H := ite_t H hc
    refine AW2.seq ?_
    obtain ⟨x5, hx6, H⟩ := bind_some H
    refine AW2.rg [.r (.bool x5)] [6] [] [] ⟨[(6, .d (.bool x5))], []⟩ (And.intro (And.intro (c_law08_sure x5 hx6) True.intro) True.intro) (by kernel_rfl) ?_
    refine AW2.ret ?_
    have H := Option.some.inj H
    subst H
    exact retP_mk2 True.intro (by kernel_rfl)
  · replace H := ite_f H hc
    refine AW2.skip ?_
    refine AW2.seq ?_
    obtain ⟨x7, hx8, H⟩ := bind_some H
    refine AW2.rg [.r (.agg (eMdl x7)), .k 8] [7, 8] [] [.k 7, .k 8] ⟨[(7, .p 7 0), (8, .p 8 0)], [(7, .st false (eD (eMdl x1))), (8, .st false (eD (eMdl x7)))]⟩ (And.intro (And.intro (c_law08_giveModule K x1 x7 hx8) True.intro) True.intro) (by kernel_rfl) ?_
    refine AW2.seq ?_
    obtain ⟨x9, hx10, H⟩ := bind_some H
    refine AW2.rg [.r (.tup [.int .i64 x9.1, .err 45 x9.2])] [7, 8, 9, 10] [] [.k 7, .k 8] ⟨[(7, .p 7 0), (8, .p 8 0), (9, .d (.int .i64 x9.1)), (10, .d (.err 45 x9.2))], [(7, .st false (eD (eMdl x1))), (8, .st false (eD (eMdl x7)))]⟩ (And.intro (And.intro (c_valid_Height K x7 0 x9 hx10) True.intro) True.intro) (by kernel_rfl) ?_
    refine AW2.seq ?_
    obtain ⟨x11, hx12, H⟩ := bind_some H
    refine AW2.rg [.r (.tup [.int .i64 x11.1, .int .i64 x11.2])] [8, 9, 10, 11, 12] [] [.k 8] ⟨[(8, .p 8 0), (9, .d (.int .i64 x9.1)), (10, .d (.err 45 x9.2)), (11, .d (.int .i64 x11.1)), (12, .d (.int .i64 x11.2))], [(8, .st false (eD (eMdl x7)))]⟩ (And.intro (And.intro (c_ref08_Body K x1 0 x11 hx12) True.intro) True.intro) (by kernel_rfl) ?_
    refine AW2.seq ?_
    obtain ⟨x13, hx14, H⟩ := bind_some H
    obtain ⟨j21, H23, H⟩ := bind_some H
    refine AW2.reg [] rfl (YW.to ⟨[(6, .d (.bool j21))], []⟩ ?qh24 ?h24)
    case h24 =>
      have H := H23
      rcases bT (x13 == x11.1) with hc1 | hc1
      · replace H := ite_t H hc1
        rcases bT (x9.1 == x11.2) with hc2 | hc2
        · replace H := ite_t H hc2
          obtain ⟨x15, hx16, H⟩ := bind_some H
          obtain ⟨x17, hx18, H⟩ := bind_some H
          rcases bT (x17 == x11.1) with hc3 | hc3
          · replace H := ite_t H hc3
            obtain ⟨x19, hx20, H⟩ := bind_some H
            have H := Option.some.inj H
            subst H
            exact YW.fin [(36, true), (41, true), (48, true)] [.r (.int .i64 x13), .r (.err 45 x15), .r (.int .i64 x17), .r (.bool x19)] [6] [] [] _ (And.intro (And.intro (c_law08_num x9.2 x13 hx14) (And.intro hc1 (And.intro hc1 (And.intro hc1 (And.intro hc1 (And.intro hc2 (And.intro hc2 (And.intro (c_valid_Body K x7 0 x15 hx16) (And.intro hc2 (And.intro (c_law08_num x15 x17 hx18) (And.intro hc2 (And.intro hc2 (And.intro hc2 (And.intro hc3 (And.intro (c_law08_sure x19 hx20) (And.intro hc3 True.intro)))))))))))))))) True.intro) (by kernel_rfl) rfl
          · replace H := ite_f H hc3
            have H := Option.some.inj H
            subst H
            exact YW.fin [(36, true), (41, true), (48, false)] [.r (.int .i64 x13), .r (.err 45 x15), .r (.int .i64 x17)] [6] [] [] _ (And.intro (And.intro (c_law08_num x9.2 x13 hx14) (And.intro hc1 (And.intro hc1 (And.intro hc1 (And.intro hc1 (And.intro hc2 (And.intro hc2 (And.intro (c_valid_Body K x7 0 x15 hx16) (And.intro hc2 (And.intro (c_law08_num x15 x17 hx18) (And.intro hc2 (And.intro hc2 (And.intro hc2 (And.intro hc3 (And.intro hc3 True.intro))))))))))))))) True.intro) (by kernel_rfl) rfl
        · replace H := ite_f H hc2
          have H := Option.some.inj H
          subst H
          exact YW.fin [(36, true), (41, false), (48, false)] [.r (.int .i64 x13)] [6] [] [] _ (And.intro (And.intro (c_law08_num x9.2 x13 hx14) (And.intro hc1 (And.intro hc1 (And.intro hc1 (And.intro hc1 (And.intro hc2 (And.intro hc2 (And.intro hc2 (And.intro hc2 (And.intro hc2 (And.intro hc2 (And.intro (Eq.refl false) (And.intro (Eq.refl false) True.intro))))))))))))) True.intro) (by kernel_rfl) rfl
      · replace H := ite_f H hc1
        have H := Option.some.inj H
        subst H
        exact YW.fin [(36, false), (41, false), (48, false)] [.r (.int .i64 x13)] [6] [] [] _ (And.intro (And.intro (c_law08_num x9.2 x13 hx14) (And.intro hc1 (And.intro hc1 (And.intro hc1 (And.intro hc1 (And.intro (Eq.refl false) (And.intro (Eq.refl false) (And.intro (Eq.refl false) (And.intro (Eq.refl false) (And.intro (Eq.refl false) (And.intro (Eq.refl false) (And.intro (Eq.refl false) (And.intro (Eq.refl false) True.intro))))))))))))) True.intro) (by kernel_rfl) rfl
    refine AW2.ret ?_
    have H := Option.some.inj H
    subst H
    exact retP_mk2 True.intro (by kernel_rfl)

/- mandrel/mandrellaw08.ValidDead -/
def g_law08_ValidDead_l0 : Nat → (List Bool) → (List Instr) → Int → Int → Option (Int × (List Instr))
  | 0, _, _, _, _ => none
  | k+1, p0, a23, a24, a25 => (if ((decide (a25 < (p0.length : Int))) && (decide (a25 < (60 : Int)))) = true then (gd (0 ≤ a25 ∧ a25 < (p0.length : Int)) ((if (p0.getD a25.toNat default) = true then gd ((a23.length + 1) * 104 ≤ 140737488355328) (some ((wI (a24 + 1)), (a23 ++ ([(Instr.mk 65 1 0 0 0 ([] : List Instr) ([] : List Instr) ([] : List Int))] : List Instr)))) else gd ((a23.length + 1) * 104 ≤ 140737488355328) (some ((mxI 0 (wI (a24 - 1))), (a23 ++ ([(Instr.mk 26 0 0 0 0 ([] : List Instr) ([] : List Instr) ([] : List Int))] : List Instr))))))).bind (fun | (j26, j27) => g_law08_ValidDead_l0 k p0 j27 j26 (wI (a25 + 1))) else some (a24, a23))

def g_law08_ValidDead (K : Nat) (p0 : List Bool) (p1 : Bool) : Option (Bool) := ((if p1 = true then some 126 else some 127)).bind (fun j1 => (g_law08_ValidDead_l0 K p0 ([(Instr.mk 0 0 0 0 0 ([] : List Instr) ([] : List Instr) ([] : List Int))] : List Instr) 0 0).bind (fun | (j2, j3) => ((g_law08_scene ([] : List Int) j1 j3).bind fun x4 => ((g_law08_giveModule K x4).bind fun x6 => ((g_valid_Body K x6 0).bind fun x8 => ((if (j2 == (0 : Int)) = true then (if (x8.isNone == true) = true then ((g_law08_sure).bind fun x10 => some x10) else some false) else (if (j2 == (1 : Int)) = true then (if (x8.isNone == (!p1)) = true then ((g_law08_sure).bind fun x12 => some x12) else some false) else (if (x8.isNone == false) = true then ((g_law08_sure).bind fun x14 => some x14) else some false)))).bind (fun j16 => some j16))))))

end Go.Proofs.YtablleokoifolaaGreatDoor

/- Plain functions and their contracts. Written by a program of this claim set (g2.py). -/
set_option linter.unusedVariables false
set_option maxRecDepth 100000
set_option maxHeartbeats 4000000
namespace Go.Proofs.YtablleokoifolaaGreatDoor
open Go

/- mandrel/mandrellaw08.ValidLabels -/
def g_law08_ValidLabels_l0 : Nat → Int → Int → (List Instr) → Int → Option ((List Instr))
  | 0, _, _, _, _ => none
  | k+1, p0, p2, a28, a29 => (if (decide (a29 < (wI ((IntKind.wrap .u64 p0).tmod 30)))) = true then gd ((2 : Int) ≠ 0) (g_law08_ValidLabels_l0 k p0 p2 ([(Instr.mk (IntKind.wrap .u8 (wI (2 + ((wI (a29 + (IntKind.wrap .i64 (((BitVec.ofInt (IntKind.bits .i64) p2) &&& (BitVec.ofInt (IntKind.bits .i64) 1)).toNat : Int)))).tmod 2)))) 0 0 0 0 a28 ([] : List Instr) ([] : List Int))] : List Instr) (wI (a29 + 1))) else some a28)

def g_law08_ValidLabels_l1 : Nat → Int → Int → (List Instr) → Int → Option ((List Instr))
  | 0, _, _, _, _ => none
  | k+1, p0, p2, a60, a61 => (if (decide (a61 < (wI ((IntKind.wrap .u64 p0).tmod 30)))) = true then gd ((2 : Int) ≠ 0) (g_law08_ValidLabels_l1 k p0 p2 ([(Instr.mk (IntKind.wrap .u8 (wI (2 + ((wI (a61 + (IntKind.wrap .i64 (((BitVec.ofInt (IntKind.bits .i64) p2) &&& (BitVec.ofInt (IntKind.bits .i64) 1)).toNat : Int)))).tmod 2)))) 0 0 0 0 a60 ([] : List Instr) ([] : List Int))] : List Instr) (wI (a61 + 1))) else some a60)

def g_law08_ValidLabels_l2 : Nat → Int → Int → (List Instr) → Int → Option ((List Instr))
  | 0, _, _, _, _ => none
  | k+1, p0, p2, a91, a92 => (if (decide (a92 < (wI ((IntKind.wrap .u64 p0).tmod 30)))) = true then gd ((2 : Int) ≠ 0) (g_law08_ValidLabels_l2 k p0 p2 ([(Instr.mk (IntKind.wrap .u8 (wI (2 + ((wI (a92 + (IntKind.wrap .i64 (((BitVec.ofInt (IntKind.bits .i64) p2) &&& (BitVec.ofInt (IntKind.bits .i64) 1)).toNat : Int)))).tmod 2)))) 0 0 0 0 a91 ([] : List Instr) ([] : List Int))] : List Instr) (wI (a92 + 1))) else some a91)

def g_law08_ValidLabels (K : Nat) (p0 : Int) (p1 : Int) (p2 : Int) : Option (Bool) := gd ((30 : Int) ≠ 0) (gd ((3 : Int) ≠ 0) ((if ((wI ((IntKind.wrap .u64 p2).tmod 3)) == (0 : Int)) = true then (g_law08_ValidLabels_l0 K p0 p2 ([(Instr.mk 65 0 0 0 0 ([] : List Instr) ([] : List Instr) ([] : List Int)), (Instr.mk 13 p1 0 0 0 ([] : List Instr) ([] : List Instr) ([] : List Int))] : List Instr) 0).bind (fun j3 => ((g_law08_scene ([] : List Int) 0 j3).bind fun x4 => ((g_law08_giveModule K x4).bind fun x6 => ((g_valid_Body K x6 0).bind fun x8 => ((if (decide (p1 ≥ (0 : Int))) = true then (if (x8.isNone == (decide (p1 ≤ (wI ((IntKind.wrap .u64 p0).tmod 30))))) = true then (if x8.isNone = true then ((g_law08_sure).bind fun x10 => some x10) else ((g_law08_num x8).bind fun x12 => (if (x12 == (7 : Int)) = true then ((g_law08_sure).bind fun x14 => some x14) else some false))) else some false) else (if (x8.isNone == false) = true then (if x8.isNone = true then ((g_law08_sure).bind fun x16 => some x16) else ((g_law08_num x8).bind fun x18 => (if (x18 == (7 : Int)) = true then ((g_law08_sure).bind fun x20 => some x20) else some false))) else some false))).bind (fun j22 => some j22))))) else (if ((wI ((IntKind.wrap .u64 p2).tmod 3)) == (1 : Int)) = true then (if ((decide (p1 < (0 : Int))) || (decide (p1 ≥ (4294967296 : Int)))) = true then ((g_law08_sure).bind fun x33 => some x33) else (g_law08_ValidLabels_l1 K p0 p2 ([(Instr.mk 65 0 0 0 0 ([] : List Instr) ([] : List Instr) ([] : List Int)), (Instr.mk 14 0 0 0 0 ([] : List Instr) ([] : List Instr) ([0, (IntKind.wrap .u32 p1), 0] : List Int))] : List Instr) 0).bind (fun j35 => ((g_law08_scene ([] : List Int) 0 j35).bind fun x36 => ((g_law08_giveModule K x36).bind fun x38 => ((g_valid_Body K x38 0).bind fun x40 => ((if (decide (p1 ≥ (0 : Int))) = true then (if (x40.isNone == (decide (p1 ≤ (wI ((IntKind.wrap .u64 p0).tmod 30))))) = true then (if x40.isNone = true then ((g_law08_sure).bind fun x42 => some x42) else ((g_law08_num x40).bind fun x44 => (if (x44 == (7 : Int)) = true then ((g_law08_sure).bind fun x46 => some x46) else some false))) else some false) else (if (x40.isNone == false) = true then (if x40.isNone = true then ((g_law08_sure).bind fun x48 => some x48) else ((g_law08_num x40).bind fun x50 => (if (x50 == (7 : Int)) = true then ((g_law08_sure).bind fun x52 => some x52) else some false))) else some false))).bind (fun j54 => some j54)))))) else (g_law08_ValidLabels_l2 K p0 p2 ([(Instr.mk 12 p1 0 0 0 ([] : List Instr) ([] : List Instr) ([] : List Int))] : List Instr) 0).bind (fun j66 => ((g_law08_scene ([] : List Int) 0 j66).bind fun x67 => ((g_law08_giveModule K x67).bind fun x69 => ((g_valid_Body K x69 0).bind fun x71 => ((if (decide (p1 ≥ (0 : Int))) = true then (if (x71.isNone == (decide (p1 ≤ (wI ((IntKind.wrap .u64 p0).tmod 30))))) = true then (if x71.isNone = true then ((g_law08_sure).bind fun x73 => some x73) else ((g_law08_num x71).bind fun x75 => (if (x75 == (7 : Int)) = true then ((g_law08_sure).bind fun x77 => some x77) else some false))) else some false) else (if (x71.isNone == false) = true then (if x71.isNone = true then ((g_law08_sure).bind fun x79 => some x79) else ((g_law08_num x71).bind fun x81 => (if (x81 == (7 : Int)) = true then ((g_law08_sure).bind fun x83 => some x83) else some false))) else some false))).bind (fun j85 => some j85)))))))))

end Go.Proofs.YtablleokoifolaaGreatDoor

/- Plain facts: loops over lists; the law's copies of its inputs are the inputs. -/
set_option linter.unusedVariables false
set_option linter.unusedSimpArgs false
set_option maxRecDepth 100000
namespace Go.Proofs.YtablleokoifolaaGreatDoor
open Go

theorem wI_nat (i : Nat) (h : i < 140737488355328) : wI ((i : Int) + 1) = ((i + 1 : Nat) : Int) := by
  rw [wI_small (by omega) (by omega)]; omega
theorem takeS {α : Type} [Inhabited α] (l : List α) (i : Nat) (h : i < l.length) : l.take i ++ [l.getD ((i : Int)).toNat default] = l.take (i + 1) := by
  rw [Int.toNat_natCast, List.take_add_one]
  simp [List.getD_eq_getElem?_getD, h]
theorem takeL' {α : Type} (l : List α) (i : Nat) (h : i ≤ l.length) (h' : ¬ i < l.length) : l.take i = l := by
  have : i = l.length := by omega
  subst this; exact List.take_length
theorem dltT {a b : Nat} (h : a < b) : decide ((a : Int) < (b : Int)) = true := decide_eq_true (by omega)
theorem dltF {a b : Nat} (h : ¬ a < b) : ¬ decide ((a : Int) < (b : Int)) = true := fun e => by have := of_decide_eq_true e; omega
theorem getD_mem {α : Type} [Inhabited α] (l : List α) (i : Nat) (h : i < l.length) : l.getD ((i : Int)).toNat default ∈ l := by
  rw [Int.toNat_natCast, List.getD_eq_getElem?_getD, List.getElem?_eq_getElem h]
  exact List.getElem_mem h
theorem tlen {α : Type} (l : List α) (i : Nat) : (l.take i).length ≤ i := by simp; omega

theorem kinds_l0_id (l : List Int) (hl : l.length < 1000000000) : ∀ k (i : Nat), i ≤ l.length → l.length - i < k → g_law08_kinds_l0 k l (l.take i) (i : Int) = some l := by
  intro k
  induction k with
  | zero => intro i _ h; omega
  | succ k ih =>
    intro i h1 h2
    have := tlen l i
    simp only [g_law08_kinds_l0]
    by_cases h : i < l.length
    · rw [if_pos (dltT h), gd_of (by omega), gd_of (by omega), takeS l i h, wI_nat i (by omega)]
      exact ih (i + 1) h (by omega)
    · rw [if_neg (dltF h), takeL' l i h1 h]
theorem kinds_id (K : Nat) (l : List Int) (hl : l.length < 1000000000) (hK : l.length < K) : g_law08_kinds K l = some l := by
  unfold g_law08_kinds
  have := kinds_l0_id l hl K 0 (Nat.zero_le _) (by omega)
  simp only [List.take_zero] at this
  rw [show (0 : Int) = ((0 : Nat) : Int) from rfl, this]; rfl

mutual
/-- How far giving back goes. -/
def wtI : Instr → Nat
  | .mk _ _ _ _ _ b e _ => 3 + wtL b + wtL e
def wtL : List Instr → Nat
  | [] => 1
  | x :: l => wtI x + wtL l
end
theorem wtI_eq (x : Instr) : wtI x = 3 + wtL x.body + wtL x.els := by cases x; simp only [wtI, Instr.body, Instr.els]
theorem wtL_pos (l : List Instr) : 1 ≤ wtL l ∧ l.length < wtL l := by
  induction l with
  | nil => simp [wtL]
  | cons x l ih => simp only [wtL, List.length_cons, wtI_eq]; omega
theorem wtL_mem {l : List Instr} {x : Instr} (h : x ∈ l) : wtI x + 1 ≤ wtL l := by
  induction l with
  | nil => cases h
  | cons y l ih =>
    simp only [wtL]
    rcases List.mem_cons.1 h with rfl | h
    · have := (wtL_pos l).1; omega
    · have := ih h; omega

theorem give_id : ∀ (K : Nat) (l : List Instr), wtL l < K → wtL l < 1000000000 → g_law08_give K l = some l := by
  intro K
  induction K with
  | zero => intro l h; omega
  | succ k ih =>
    intro l h hs
    have hw := wtL_pos l
    simp only [g_law08_give]
    have key : ∀ (q i : Nat), i ≤ l.length → l.length - i < q → lpN q (fun (rec6 : (List Instr) × Int → Option ((List Instr))) v => match v with | (a4, a5) => (if (decide (a5 < (l.length : Int))) = true then gd (0 ≤ a5 ∧ a5 < (l.length : Int)) (((g_law08_give k (((l.getD a5.toNat default)).body)).bind fun x8 => ((g_law08_give k (((l.getD a5.toNat default)).els)).bind fun x10 => gd ((a4.length + 1) * 104 ≤ 140737488355328) (rec6 ((a4 ++ ([(Instr.mk (((l.getD a5.toNat default)).op) (((l.getD a5.toNat default)).n) (((l.getD a5.toNat default)).align) (((l.getD a5.toNat default)).offset) (((l.getD a5.toNat default)).result) x8 x10 (((l.getD a5.toNat default)).labels))] : List Instr)), (wI (a5 + 1))))))) else some a4)) (l.take i, (i : Int)) = some l := by
      intro q
      induction q with
      | zero => intro i _ h; omega
      | succ q ihq =>
        intro i h1 h2
        have := tlen l i
        simp only [lpN]
        by_cases h : i < l.length
        · have hm := getD_mem l i h
          have hx := wtL_mem hm
          rw [wtI_eq] at hx
          rw [if_pos (dltT h), gd_of (by omega), ih _ (by omega) (by omega), Option.bind_some, ih _ (by omega) (by omega), Option.bind_some, gd_of (by omega), Instr.eta, takeS l i h, wI_nat i (by omega)]
          exact ihq (i + 1) h (by omega)
        · rw [if_neg (dltF h), takeL' l i h1 h]
    have := key k 0 (Nat.zero_le _) (by omega)
    rw [List.take_zero] at this
    exact congrArg (fun o => o.bind (fun j1 => some j1)) this
theorem one_id (K : Nat) (x : Instr) (h : wtI x + 1 < K) (hs : wtI x + 1 < 1000000000) : g_law08_one K x = some x := by
  unfold g_law08_one
  have hw : wtL [x] = wtI x + 1 := by simp [wtL]
  rw [give_id K [x] (by omega) (by omega)]
  rfl

/-- A module small enough to be given back. -/
structure GvOk (K : Nat) (m : Mdl) : Prop where
  K0 : K < 1000000000
  types : m.types.length < K
  typ : ∀ t ∈ m.types, t.params.length < K
  funcs : m.funcs.length < K
  fnc : ∀ f ∈ m.funcs, f.locals.length < K ∧ wtL f.body < K
  tables : m.tables.length < K
  memories : m.memories.length < K
  globals : m.globals.length < K
  glo : ∀ g ∈ m.globals, wtI g.init_ + 1 < K
  exports : m.exports.length < K
  elems : m.elems.length < K
  ele : ∀ e ∈ m.elems, wtI e.offset + 1 < K
  datas : m.datas.length < K
  dat : ∀ d ∈ m.datas, wtI d.offset + 1 < K

theorem gm_l7 {K : Nat} {m : Mdl} (o : GvOk K m) : ∀ k (i : Nat), i ≤ m.types.length → m.types.length - i < k → g_law08_giveModule_l7 k K m (m.types.take i) (i : Int) = some m.types := by
  intro k
  induction k with
  | zero => intro i _ h; omega
  | succ k ih =>
    intro i h1 h2
    have := tlen m.types i; have := o.K0; have := o.types
    simp only [g_law08_giveModule_l7]
    by_cases h : i < m.types.length
    · have hm := o.typ _ (getD_mem m.types i h)
      rw [if_pos (dltT h), gd_of (by omega), kinds_id K _ (by omega) hm, Option.bind_some, gd_of (by omega), gd_of (by omega)]
      rw [show ∀ t : Typ, Typ.mk t.params t.result = t from fun _ => rfl, takeS _ i h, wI_nat i (by omega)]
      exact ih (i + 1) h (by omega)
    · rw [if_neg (dltF h), takeL' _ i h1 h]
theorem gm_l6 {K : Nat} {m : Mdl} (o : GvOk K m) : ∀ k (i : Nat), i ≤ m.funcs.length → m.funcs.length - i < k → g_law08_giveModule_l6 k K m (m.funcs.take i) (i : Int) = some m.funcs := by
  intro k
  induction k with
  | zero => intro i _ h; omega
  | succ k ih =>
    intro i h1 h2
    have := tlen m.funcs i; have := o.K0; have := o.funcs
    simp only [g_law08_giveModule_l6]
    by_cases h : i < m.funcs.length
    · have hm := o.fnc _ (getD_mem m.funcs i h)
      rw [if_pos (dltT h), gd_of (by omega), gd_of (by omega), kinds_id K _ (by omega) hm.1, Option.bind_some, gd_of (by omega), give_id K _ hm.2 (by omega), Option.bind_some, gd_of (by omega)]
      rw [show ∀ t : Fnc, Fnc.mk t.type_ t.locals t.body = t from fun _ => rfl, takeS _ i h, wI_nat i (by omega)]
      exact ih (i + 1) h (by omega)
    · rw [if_neg (dltF h), takeL' _ i h1 h]
theorem gm_l5 {K : Nat} {m : Mdl} (o : GvOk K m) : ∀ k (i : Nat), i ≤ m.tables.length → m.tables.length - i < k → g_law08_giveModule_l5 k m (m.tables.take i) (i : Int) = some m.tables := by
  intro k
  induction k with
  | zero => intro i _ h; omega
  | succ k ih =>
    intro i h1 h2
    have := tlen m.tables i; have := o.K0; have := o.tables
    simp only [g_law08_giveModule_l5]
    by_cases h : i < m.tables.length
    · rw [if_pos (dltT h), gd_of (by omega), gd_of (by omega), takeS _ i h, wI_nat i (by omega)]
      exact ih (i + 1) h (by omega)
    · rw [if_neg (dltF h), takeL' _ i h1 h]
theorem gm_l4 {K : Nat} {m : Mdl} (o : GvOk K m) : ∀ k (i : Nat), i ≤ m.memories.length → m.memories.length - i < k → g_law08_giveModule_l4 k m (m.memories.take i) (i : Int) = some m.memories := by
  intro k
  induction k with
  | zero => intro i _ h; omega
  | succ k ih =>
    intro i h1 h2
    have := tlen m.memories i; have := o.K0; have := o.memories
    simp only [g_law08_giveModule_l4]
    by_cases h : i < m.memories.length
    · rw [if_pos (dltT h), gd_of (by omega), gd_of (by omega), takeS _ i h, wI_nat i (by omega)]
      exact ih (i + 1) h (by omega)
    · rw [if_neg (dltF h), takeL' _ i h1 h]
theorem gm_l3 {K : Nat} {m : Mdl} (o : GvOk K m) : ∀ k (i : Nat), i ≤ m.globals.length → m.globals.length - i < k → g_law08_giveModule_l3 k K m (m.globals.take i) (i : Int) = some m.globals := by
  intro k
  induction k with
  | zero => intro i _ h; omega
  | succ k ih =>
    intro i h1 h2
    have := tlen m.globals i; have := o.K0; have := o.globals
    simp only [g_law08_giveModule_l3]
    by_cases h : i < m.globals.length
    · have hm := o.glo _ (getD_mem m.globals i h)
      rw [if_pos (dltT h), gd_of (by omega), gd_of (by omega), gd_of (by omega), one_id K _ hm (by omega), Option.bind_some, gd_of (by omega)]
      rw [show ∀ t : Glo, Glo.mk t.kind t.mut_ t.init_ = t from fun _ => rfl, takeS _ i h, wI_nat i (by omega)]
      exact ih (i + 1) h (by omega)
    · rw [if_neg (dltF h), takeL' _ i h1 h]
theorem gm_l2 {K : Nat} {m : Mdl} (o : GvOk K m) : ∀ k (i : Nat), i ≤ m.exports.length → m.exports.length - i < k → g_law08_giveModule_l2 k m (m.exports.take i) (i : Int) = some m.exports := by
  intro k
  induction k with
  | zero => intro i _ h; omega
  | succ k ih =>
    intro i h1 h2
    have := tlen m.exports i; have := o.K0; have := o.exports
    simp only [g_law08_giveModule_l2]
    by_cases h : i < m.exports.length
    · rw [if_pos (dltT h), gd_of (by omega), gd_of (by omega), takeS _ i h, wI_nat i (by omega)]
      exact ih (i + 1) h (by omega)
    · rw [if_neg (dltF h), takeL' _ i h1 h]
theorem gm_l1 {K : Nat} {m : Mdl} (o : GvOk K m) : ∀ k (i : Nat), i ≤ m.elems.length → m.elems.length - i < k → g_law08_giveModule_l1 k K m (m.elems.take i) (i : Int) = some m.elems := by
  intro k
  induction k with
  | zero => intro i _ h; omega
  | succ k ih =>
    intro i h1 h2
    have := tlen m.elems i; have := o.K0; have := o.elems
    simp only [g_law08_giveModule_l1]
    by_cases h : i < m.elems.length
    · have hm := o.ele _ (getD_mem m.elems i h)
      rw [if_pos (dltT h), gd_of (by omega), gd_of (by omega), one_id K _ hm (by omega), Option.bind_some, gd_of (by omega), gd_of (by omega)]
      rw [show ∀ t : Ele, Ele.mk t.table t.offset t.funcs = t from fun _ => rfl, takeS _ i h, wI_nat i (by omega)]
      exact ih (i + 1) h (by omega)
    · rw [if_neg (dltF h), takeL' _ i h1 h]
theorem gm_l0 {K : Nat} {m : Mdl} (o : GvOk K m) : ∀ k (i : Nat), i ≤ m.datas.length → m.datas.length - i < k → g_law08_giveModule_l0 k K m (m.datas.take i) (i : Int) = some m.datas := by
  intro k
  induction k with
  | zero => intro i _ h; omega
  | succ k ih =>
    intro i h1 h2
    have := tlen m.datas i; have := o.K0; have := o.datas
    simp only [g_law08_giveModule_l0]
    by_cases h : i < m.datas.length
    · have hm := o.dat _ (getD_mem m.datas i h)
      rw [if_pos (dltT h), gd_of (by omega), gd_of (by omega), one_id K _ hm (by omega), Option.bind_some, gd_of (by omega), gd_of (by omega)]
      rw [show ∀ t : Dat, Dat.mk t.memory t.offset t.bytes = t from fun _ => rfl, takeS _ i h, wI_nat i (by omega)]
      exact ih (i + 1) h (by omega)
    · rw [if_neg (dltF h), takeL' _ i h1 h]
theorem giveModule_id {K : Nat} {m : Mdl} (o : GvOk K m) : g_law08_giveModule K m = some m := by
  unfold g_law08_giveModule
  have h7 := gm_l7 o K 0 (Nat.zero_le _) (by have := o.types; omega)
  have h6 := gm_l6 o K 0 (Nat.zero_le _) (by have := o.funcs; omega)
  have h5 := gm_l5 o K 0 (Nat.zero_le _) (by have := o.tables; omega)
  have h4 := gm_l4 o K 0 (Nat.zero_le _) (by have := o.memories; omega)
  have h3 := gm_l3 o K 0 (Nat.zero_le _) (by have := o.globals; omega)
  have h2 := gm_l2 o K 0 (Nat.zero_le _) (by have := o.exports; omega)
  have h1 := gm_l1 o K 0 (Nat.zero_le _) (by have := o.elems; omega)
  have h0 := gm_l0 o K 0 (Nat.zero_le _) (by have := o.datas; omega)
  simp only [List.take_zero] at h0 h1 h2 h3 h4 h5 h6 h7
  simp only [show (0 : Int) = ((0 : Nat) : Int) from rfl]
  rw [h7, Option.bind_some, h6, Option.bind_some, h5, Option.bind_some, h4, Option.bind_some, h3, Option.bind_some, h2, Option.bind_some, h1, Option.bind_some, h0]
  rfl
end Go.Proofs.YtablleokoifolaaGreatDoor

/- Plain facts: going over instructions as a fold. -/
set_option linter.unusedVariables false
set_option linter.unusedSimpArgs false
set_option maxRecDepth 100000
namespace Go.Proofs.YtablleokoifolaaGreatDoor
open Go

/-- One instruction of a list. -/
def stepC (k : Nat) (c : Checker) (x : Instr) : Option Checker :=
  if c.bad = true then some c else if decide (x.op < (26 : Int)) = true then g_valid_checker_control k c x else g_valid_checker_simple c x

theorem fold_bad (k : Nat) (l : List Instr) {c : Checker} (h : c.bad = true) : l.foldlM (stepC k) c = some c := by
  induction l with
  | nil => rfl
  | cons x l ih =>
    rw [List.foldlM_cons]
    have : stepC k c x = some c := by unfold stepC; rw [if_pos h]
    rw [this]; exact ih

theorem dropS {α : Type} [Inhabited α] (l : List α) (i : Nat) (h : i < l.length) : l.drop i = l.getD ((i : Int)).toNat default :: l.drop (i + 1) := by
  rw [Int.toNat_natCast, List.drop_eq_getElem_cons h]
  simp [List.getD_eq_getElem?_getD, h]

theorem list_fold (k : Nat) (c : Checker) (l : List Instr) (hk : l.length < k) (hs : l.length < 1000000000) : g_valid_checker_list (k + 1) c l = l.foldlM (stepC k) c := by
  simp only [g_valid_checker_list]
  have key : ∀ (q i : Nat) (c : Checker), i ≤ l.length → l.length - i < q → lpN q (fun (rec5 : Checker × Int → Option (Checker)) v => match v with | (a3, a4) => (if (decide (a4 < (l.length : Int))) = true then gd (0 ≤ a4 ∧ a4 < (l.length : Int)) ((if a3.bad = true then some a3 else (if (decide ((((l.getD a4.toNat default)).op) < (26 : Int))) = true then ((g_valid_checker_control k a3 (l.getD a4.toNat default)).bind fun x7 => rec5 (x7, (wI (a4 + 1)))) else ((g_valid_checker_simple a3 (l.getD a4.toNat default)).bind fun x9 => rec5 (x9, (wI (a4 + 1))))))) else some a3)) (c, (i : Int)) = (l.drop i).foldlM (stepC k) c := by
    intro q
    induction q with
    | zero => intro i c _ h; omega
    | succ q ih =>
      intro i c h1 h2
      simp only [lpN]
      by_cases h : i < l.length
      · rw [if_pos (dltT h), gd_of (by omega), dropS l i h, List.foldlM_cons]
        by_cases hb : c.bad = true
        · rw [if_pos hb]
          have : stepC k c (l.getD ((i : Int)).toNat default) = some c := by unfold stepC; rw [if_pos hb]
          rw [this]
          exact (fold_bad k _ hb).symm
        · rw [if_neg hb]
          unfold stepC
          rw [if_neg hb, wI_nat i (by omega)]
          split
          · cases g_valid_checker_control k c (l.getD ((i : Int)).toNat default) with
            | none => rfl
            | some c' => exact ih (i + 1) c' h (by omega)
          · cases g_valid_checker_simple c (l.getD ((i : Int)).toNat default) with
            | none => rfl
            | some c' => exact ih (i + 1) c' h (by omega)
      · rw [if_neg (dltF h), List.drop_of_length_le (by omega)]
        rfl
  exact key k 0 c (Nat.zero_le _) (by omega)

/-- The checker behind an unreachable, with so many kinds of I32 on its stack. -/
def cD (m : Mdl) (t : Typ) (ls : List Int) (n : Nat) : Checker := Checker.mk m t ls (List.replicate n 127) [Frame.mk 0 true false] [t.result] 0 false
def iC : Instr := Instr.mk 65 1 0 0 0 [] [] []
def iD : Instr := Instr.mk 26 0 0 0 0 [] [] []
def iU : Instr := Instr.mk 0 0 0 0 0 [] [] []

theorem sign65 : g_ops_Sign 65 = some (Typ.mk [] 127, none) := by kernel_rfl
theorem bytes65 : g_ops_Bytes 65 = some (0, false, some 1) := by kernel_rfl
theorem form65 : g_ops_Form 65 = some (1, none) := by kernel_rfl
theorem w1 : wI (((1 : Nat) : Int) - 1) = 0 := by decide
theorem w1' : wI (IntKind.wrap .i32 1) = 1 := by decide

theorem ite_ff {α : Type} {c : Bool} {a b : α} (h : c = false) : (if c = true then a else b) = b := by rw [h]; rfl
theorem ite_tt {α : Type} {c : Bool} {a b : α} (h : c = true) : (if c = true then a else b) = a := by rw [h]; rfl
theorem okT_cD (m : Mdl) (t : Typ) (ls : List Int) (n : Nat) (h : n < 1000) : okT (cD m t ls n) := by
  refine ⟨Nat.le_refl 1, (by decide : 1 < 4611686018427387904), ?_, ?_, ?_⟩
  · simp only [cD, List.length_replicate]; omega
  · exact Int.le_refl 0
  · simp only [cD, List.length_replicate]; exact Int.natCast_nonneg n

theorem step_iC (k : Nat) (m : Mdl) (t : Typ) (ls : List Int) (n : Nat) (h : n < 1000) : stepC k (cD m t ls n) iC = some (cD m t ls (n + 1)) := by
  unfold stepC
  rw [ite_ff (c := (cD m t ls n).bad) rfl, if_neg (by decide)]
  have hp : g_valid_checker_plain (cD m t ls n) iC = some (cD m t ls (n + 1)) := by
    unfold g_valid_checker_plain
    rw [show iC.op = 65 from rfl, sign65, Option.bind_some, if_neg (by decide), bytes65, Option.bind_some, if_neg (by decide), Option.bind_some, form65, Option.bind_some, ite_ff]
    rotate_left
    · kernel_rfl
    rw [Option.bind_some]
    unfold g_valid_checker_call g_valid_checker_takes
    rw [gd_of ⟨okT_cD m t ls n h, by decide⟩, Option.bind_some]
    unfold g_valid_checker_lay
    rw [if_neg (by decide), gd_of (by simp [cD]; omega)]
    show (gd (0 ≤ wI (((1 : Nat) : Int) - 1) ∧ wI (((1 : Nat) : Int) - 1) < ((1 : Nat) : Int)) _).bind _ = _
    rw [gd_of (by rw [w1]; decide)]
    show some (Checker.mk _ _ _ (List.replicate n 127 ++ [127]) _ _ _ _) = _
    rw [← List.replicate_succ']
    rfl
  unfold g_valid_checker_simple
  rw [if_neg (by decide), if_neg (by decide), if_neg (by decide), if_neg (by decide), if_neg (by decide), if_neg (by decide), if_neg (by decide), hp]
  rfl

theorem take_cD0 (m : Mdl) (t : Typ) (ls : List Int) (x : Int) : g_valid_checker_take (cD m t ls 0) x = some (x, cD m t ls 0) := by
  unfold g_valid_checker_take
  show gd (0 ≤ wI (((1 : Nat) : Int) - 1) ∧ wI (((1 : Nat) : Int) - 1) < ((1 : Nat) : Int)) _ = _
  rw [gd_of (by rw [w1]; decide)]
  split
  · rfl
  · rw [ite_tt]
    rotate_left
    · kernel_rfl
    rfl

theorem take_cDs (m : Mdl) (t : Typ) (ls : List Int) (n : Nat) (h : n < 1000) (x : Int) (hx : ¬ (x == 0) = true) :
    g_valid_checker_take (cD m t ls (n + 1)) x = some (127, Checker.mk m t ls (List.replicate n 127) [Frame.mk 0 true false] [t.result] 0 ((127 != x) && (x != 1))) := by
  unfold g_valid_checker_take
  show gd (0 ≤ wI (((1 : Nat) : Int) - 1) ∧ wI (((1 : Nat) : Int) - 1) < ((1 : Nat) : Int)) _ = _
  rw [gd_of (by rw [w1]; decide), if_neg hx]
  have hl : ((cD m t ls (n + 1)).stack.length : Int) = ((n + 1 : Nat) : Int) := by simp [cD]
  have hw : wI (((n + 1 : Nat) : Int) - 1) = (n : Int) := by rw [wI_small (by omega) (by omega)]; omega
  have hf : ((cD m t ls (n + 1)).frames.getD (wI (((cD m t ls (n + 1)).frames.length : Int) - 1)).toNat default).height = 0 := by
    show (([Frame.mk 0 true false] : List Frame).getD (wI (((1 : Nat) : Int) - 1)).toNat default).height = 0
    rw [w1]; rfl
  have hg : (cD m t ls (n + 1)).stack.getD ((n : Int)).toNat default = 127 := by simp [cD, List.getD_eq_getElem?_getD]
  have ht : List.take ((n : Int)).toNat (cD m t ls (n + 1)).stack = List.replicate n 127 := by simp [cD, List.take_replicate]
  rw [hl, hw, hf, if_neg (by simp; omega), gd_of (by omega), gd_of (by omega), hg, ht]
  by_cases hb : ((127 != x) && (x != 1)) = true
  · rw [if_pos (by simpa using hb), Option.bind_some, if_neg (by decide), hb]
    rfl
  · rw [if_neg (by simpa using hb), Option.bind_some, if_neg (by decide)]
    have : ((127 != x) && (x != 1)) = false := by simpa using hb
    rw [this]
    rfl

theorem step_iD (k : Nat) (m : Mdl) (t : Typ) (ls : List Int) (n : Nat) (h : n < 1000) : stepC k (cD m t ls n) iD = some (cD m t ls (n - 1)) := by
  unfold stepC
  rw [ite_ff (c := (cD m t ls n).bad) rfl, if_neg (by decide)]
  unfold g_valid_checker_simple
  rw [if_pos (by decide)]
  cases n with
  | zero => rw [take_cD0]; rfl
  | succ n => rw [take_cDs m t ls n (by omega) 1 (by decide)]; rfl

theorem step_iU (k : Nat) (m : Mdl) (t : Typ) (ls : List Int) : stepC (k + 1) (Checker.mk m t ls [] [Frame.mk 0 false false] [t.result] 0 false) iU = some (cD m t ls 0) := by
  unfold stepC
  rw [ite_ff (c := (Checker.mk m t ls [] [Frame.mk 0 false false] [t.result] 0 false).bad) rfl, if_pos (by decide)]
  simp only [g_valid_checker_control]
  rw [if_pos (by decide)]
  unfold g_valid_checker_leave
  show (gd (0 ≤ wI (((1 : Nat) : Int) - 1) ∧ wI (((1 : Nat) : Int) - 1) < ((1 : Nat) : Int)) _).bind _ = _
  rw [gd_of (by rw [w1]; decide)]
  show (gd (0 ≤ (0 : Int) ∧ 0 ≤ (([Frame.mk 0 false false] : List Frame).getD (wI (((1 : Nat) : Int) - 1)).toNat default).height ∧ (([Frame.mk 0 false false] : List Frame).getD (wI (((1 : Nat) : Int) - 1)).toNat default).height ≤ ((0 : Nat) : Int)) _).bind _ = _
  rw [gd_of (by rw [w1]; decide)]
  rfl
end Go.Proofs.YtablleokoifolaaGreatDoor

/- The law ValidDead of the plain functions. -/
set_option linter.unusedVariables false
set_option linter.unusedSimpArgs false
set_option maxRecDepth 100000
namespace Go.Proofs.YtablleokoifolaaGreatDoor
open Go

theorem wtL_snoc (l : List Instr) (x : Instr) : wtL (l ++ [x]) = wtL l + wtI x := by
  induction l with
  | nil => simp only [List.nil_append, wtL]; omega
  | cons y l ih => simp only [List.cons_append, wtL, ih]; omega

def c0 (m : Mdl) (t : Typ) (ls : List Int) : Checker := Checker.mk m t ls [] [Frame.mk 0 false false] [t.result] 0 false

/-- What holds between two rounds of ValidDead's loop. -/
structure DI (acc : List Instr) (n i : Nat) : Prop where
  len : acc.length = i + 1
  le : n ≤ i
  wt : wtL acc = 1 + 5 * (i + 1)
  run : ∀ m t ls, acc.foldlM (stepC 999) (c0 m t ls) = some (cD m t ls n)

theorem DI.snoc {acc : List Instr} {n i n' : Nat} {x : Instr} (d : DI acc n i) (hi : i < 60) (hx : wtI x = 5) (hn : n' ≤ i + 1) (hs : ∀ m t ls, stepC 999 (cD m t ls n) x = some (cD m t ls n')) : DI (acc ++ [x]) n' (i + 1) := by
  refine ⟨by simp [d.len], hn, by rw [wtL_snoc, d.wt, hx]; omega, fun m t ls => ?_⟩
  rw [List.foldlM_append, d.run]
  show ([x].foldlM (stepC 999) (cD m t ls n)) = _
  rw [List.foldlM_cons, hs]
  rfl

theorem mx0 (n : Nat) (h : n < 1000) : mxI 0 (wI ((n : Int) - 1)) = ((n - 1 : Nat) : Int) := by
  rw [wI_small (by omega) (by omega)]
  unfold mxI
  cases n with
  | zero => rfl
  | succ n => split <;> omega

theorem dead_l0 (l : List Bool) : ∀ (k i n : Nat) (acc : List Instr), DI acc n i → i ≤ 60 → 60 - i < k → ∃ acc' n' i', DI acc' n' i' ∧ i' ≤ 60 ∧ g_law08_ValidDead_l0 k l acc (n : Int) (i : Int) = some ((n' : Int), acc') := by
  intro k
  induction k with
  | zero => intro i n acc _ _ h; omega
  | succ k ih =>
    intro i n acc d hi hk
    have := d.len; have := d.le
    simp only [g_law08_ValidDead_l0]
    by_cases h : i < l.length ∧ i < 60
    · rw [if_pos (by simp only [Bool.and_eq_true, decide_eq_true_eq]; omega), gd_of (by omega)]
      by_cases hb : l.getD ((i : Int)).toNat default = true
      · rw [if_pos hb, gd_of (by omega), Option.bind_some, wI_nat n (by omega), wI_nat i (by omega)]
        exact ih (i + 1) (n + 1) _ (d.snoc (x := iC) h.2 rfl (by omega) fun m t ls => step_iC 999 m t ls n (by omega)) (by omega) (by omega)
      · rw [if_neg hb, gd_of (by omega), Option.bind_some, mx0 n (by omega), wI_nat i (by omega)]
        exact ih (i + 1) (n - 1) _ (d.snoc (x := iD) h.2 rfl (by omega) fun m t ls => step_iD 999 m t ls n (by omega)) (by omega) (by omega)
    · rw [if_neg (by simp only [Bool.and_eq_true, decide_eq_true_eq]; omega)]
      exact ⟨acc, n, i, d, hi, rfl⟩

/-- The scene as a module. -/
def scM (ps : List Int) (r : Int) (b : List Instr) : Mdl := (g_law08_scene ps r b).getD default
theorem scM_eq (ps : List Int) (r : Int) (b : List Instr) : g_law08_scene ps r b = some (scM ps r b) := rfl
theorem scM_gv (ps : List Int) (r : Int) (b : List Instr) (hp : ps.length < 1000) (hb : wtL b < 1000) : GvOk 1000 (scM ps r b) := by
  refine ⟨by decide, (by decide : 3 < 1000), ?_, (by decide : 3 < 1000), ?_, (by decide : 1 < 1000), (by decide : 1 < 1000), (by decide : 2 < 1000), ?_, (by decide : 0 < 1000), (by decide : 0 < 1000), fun e h => (by cases h), (by decide : 0 < 1000), fun e h => (by cases h)⟩
  · intro t ht
    rcases List.mem_cons.1 ht with rfl | ht
    · exact hp
    rcases List.mem_cons.1 ht with rfl | ht
    · exact (by decide : 1 < 1000)
    rcases List.mem_cons.1 ht with rfl | ht
    · exact (by decide : 0 < 1000)
    cases ht
  · intro t ht
    rcases List.mem_cons.1 ht with rfl | ht
    · exact ⟨(by decide : 2 < 1000), hb⟩
    rcases List.mem_cons.1 ht with rfl | ht
    · exact ⟨(by decide : 0 < 1000), by decide⟩
    rcases List.mem_cons.1 ht with rfl | ht
    · exact ⟨(by decide : 0 < 1000), by decide⟩
    cases ht
  · intro t ht
    rcases List.mem_cons.1 ht with rfl | ht
    · decide
    rcases List.mem_cons.1 ht with rfl | ht
    · decide
    cases ht

theorem kinds_scM {r : Int} (h : r = 0 ∨ r = 126 ∨ r = 127) (b : List Instr) : g_valid_kinds 1000 (scM [] r b) = some true := by
  rcases h with rfl | rfl | rfl <;> kernel_rfl
theorem concat_scM : g_slices_Concat_api_Kind_api_Kind 1000 [[], [127, 126]] = some [127, 126] := by kernel_rfl

/-- What checking says of a state at a body's end. -/
def endC (c : Checker) (r : Int) : Option (Option Checker × Option Int) :=
  (g_valid_checker_take c r).bind fun x => if (x.2.bad || decide ((x.2.stack.length : Int) > (0 : Int))) = true then some (none, some 7) else some (some x.2, none)

theorem check_scM {r : Int} (h : r = 0 ∨ r = 126 ∨ r = 127) (b : List Instr) : g_valid_check 1000 (scM [] r b) 0 = (g_valid_checker_list 1000 (c0 (scM [] r b) (Typ.mk [] r) [127, 126]) b).bind fun c => endC c r := by
  unfold g_valid_check
  have e1 : ((scM [] r b).funcs.length : Int) = 3 := rfl
  have e2 : ((scM [] r b).types.length : Int) = 3 := rfl
  have e3 : (scM [] r b).funcs.getD (0 : Int).toNat default = Fnc.mk 0 [127, 126] b := rfl
  have e4 : (scM [] r b).types.getD (Fnc.mk 0 [127, 126] b).type_.toNat default = Typ.mk [] r := rfl
  rw [e1, e2, e3, e4]
  show ((if decide ((0 : Int) < 0) = true then some true else if decide ((0 : Int) ≥ 3) = true then some true else gd (0 ≤ (0 : Int) ∧ (0 : Int) < 3) (if decide ((0 : Int) ≥ IntKind.wrap .u32 3) = true then some true else (g_valid_kinds 1000 (scM [] r b)).bind fun x2 => some (!x2))).bind fun j4 => if j4 = true then some (none, some 1) else gd (0 ≤ (0 : Int) ∧ (0 : Int) < 3) (gd (0 ≤ (0 : Int) ∧ (0 : Int) < 3) (gd (0 ≤ (0 : Int) ∧ (0 : Int) < 3)
    ((g_slices_Concat_api_Kind_api_Kind 1000 [[], [127, 126]]).bind fun x8 => gd (0 ≤ (0 : Int) ∧ (0 : Int) < 3) ((g_valid_checker_list 1000 (Checker.mk (scM [] r b) (Typ.mk [] r) x8 [] [Frame.mk 0 false false] [r] 0 false) b).bind fun c => endC c r)))) : Option (Option Checker × Option Int)) = _
  rw [if_neg (by decide), if_neg (by decide), gd_of (by decide), if_neg (by decide), kinds_scM h b, Option.bind_some, Option.bind_some, if_neg (by decide), gd_of (by decide), gd_of (by decide), gd_of (by decide), concat_scM, Option.bind_some, gd_of (by decide)]
  rfl

theorem end_dead (m : Mdl) (r : Int) (hr : r = 126 ∨ r = 127) (n : Nat) (hn : n < 1000) : ∃ c e, endC (cD m (Typ.mk [] r) [127, 126] n) r = some (c, e) ∧ (e.isNone = true ↔ n = 0 ∨ (n = 1 ∧ r = 127)) := by
  unfold endC
  cases n with
  | zero =>
    rw [take_cD0, Option.bind_some, if_neg (by simp [cD])]
    exact ⟨_, _, rfl, by simp⟩
  | succ n =>
    rw [take_cDs _ _ _ _ (by omega) _ (by rcases hr with rfl | rfl <;> decide), Option.bind_some]
    rcases hr with rfl | rfl
    · rw [if_pos (by simp)]
      exact ⟨_, _, rfl, by simp⟩
    · cases n with
      | zero =>
        rw [if_neg (by simp)]
        exact ⟨_, _, rfl, by simp⟩
      | succ n =>
        rw [if_pos (by simp)]
        exact ⟨_, _, rfl, by simp⟩

theorem dead_true (l : List Bool) (p1 : Bool) : g_law08_ValidDead 1000 l p1 = some true := by
  unfold g_law08_ValidDead
  obtain ⟨r, hr, hr2, hb⟩ : ∃ r : Int, (r = 126 ∨ r = 127) ∧ (r = 127 ↔ p1 = false) ∧ (if p1 = true then some (126 : Int) else some 127) = some r := by
    cases p1 with
    | true => exact ⟨126, .inl rfl, by decide, rfl⟩
    | false => exact ⟨127, .inr rfl, by decide, rfl⟩
  have d0 : DI [iU] 0 0 := ⟨rfl, Nat.le_refl _, rfl, fun m t ls => by
    rw [List.foldlM_cons]
    have := step_iU 998 m t ls
    unfold c0
    rw [this]; rfl⟩
  obtain ⟨acc, n, i, d, hi, he⟩ := dead_l0 l 1000 0 0 [iU] d0 (by omega) (by omega)
  have h1 := d.len; have h2 := d.le; have h3 := d.wt
  rw [hb, Option.bind_some]
  have he' : g_law08_ValidDead_l0 1000 l ([(Instr.mk 0 0 0 0 0 ([] : List Instr) ([] : List Instr) ([] : List Int))] : List Instr) 0 0 = some ((n : Int), acc) := he
  rw [he', Option.bind_some]
  show ((g_law08_scene ([] : List Int) r acc).bind fun x4 => _ : Option Bool) = _
  rw [scM_eq, Option.bind_some, giveModule_id (scM_gv [] r acc (by decide) (by omega)), Option.bind_some]
  unfold g_valid_Body
  rw [check_scM (by omega), show (1000 : Nat) = 999 + 1 from rfl, list_fold 999 _ acc (by omega) (by omega), d.run, Option.bind_some]
  obtain ⟨c, e, h4, h5⟩ := end_dead (scM [] r acc) r hr n (by omega)
  rw [h4, Option.bind_some, Option.bind_some]
  unfold g_law08_sure
  by_cases hn0 : n = 0
  · subst hn0
    have : e.isNone = true := h5.2 (.inl rfl)
    simp [this]
  · by_cases hn1 : n = 1
    · subst hn1
      cases p1 with
      | true =>
        cases e with
        | none => have := h5.1 rfl; have := hr2.1; simp_all
        | some v => rfl
      | false =>
        have : e.isNone = true := h5.2 (.inr ⟨rfl, hr2.2 rfl⟩)
        simp [this]
    · cases e with
      | none => have := h5.1 rfl; omega
      | some v =>
        have a : ¬ ((n : Int) = 0) := by omega
        have b : ¬ ((n : Int) = 1) := by omega
        simp [a, b, hn0, hn1]
end Go.Proofs.YtablleokoifolaaGreatDoor

/- The law ValidLabels of the plain functions. -/
set_option linter.unusedVariables false
set_option linter.unusedSimpArgs false
set_option maxRecDepth 100000
namespace Go.Proofs.YtablleokoifolaaGreatDoor
open Go

def F0 : Frame := Frame.mk 0 false false
/-- The checker within so many blocks of no result. -/
def cL (m : Mdl) (t : Typ) (ls : List Int) (n : Nat) (mo : Int) (b aw : Bool) : Checker :=
  Checker.mk m t ls [] (List.replicate n F0 ++ [Frame.mk 0 aw false]) (List.replicate (n + 1) 0) mo b

theorem cL_fl (n : Nat) (aw : Bool) : (((List.replicate n F0 ++ [Frame.mk 0 aw false]).length : Nat) : Int) = ((n + 1 : Nat) : Int) := by simp
theorem cL_ll (n : Nat) : (((List.replicate (n + 1) (0 : Int)).length : Nat) : Int) = ((n + 1 : Nat) : Int) := by simp
theorem cL_top (n : Nat) (aw : Bool) : (List.replicate n F0 ++ [Frame.mk 0 aw false]).getD ((n : Int)).toNat default = Frame.mk 0 aw false := by
  rw [Int.toNat_natCast, List.getD_eq_getElem?_getD]; simp
theorem cL_topI (n : Nat) (aw : Bool) : (List.replicate n F0 ++ [Frame.mk 0 aw false])[n]?.getD default = Frame.mk 0 aw false := by
  simp
theorem wN (n : Nat) (h : n < 100000) : wI (((n + 1 : Nat) : Int) - 1) = (n : Int) := by rw [wI_small (by omega) (by omega)]; omega

theorem take0 (c : Checker) (n : Nat) (h : n < 100000) (hf : c.frames.length = n + 1) : g_valid_checker_take c 0 = some (0, c) := by
  unfold g_valid_checker_take
  rw [hf, wN n h, gd_of (by omega), if_pos (by decide)]
theorem lay0 (c : Checker) : g_valid_checker_lay c 0 = some c := by unfold g_valid_checker_lay; rw [if_pos (by decide)]

theorem inner_cL (m : Mdl) (t : Typ) (ls : List Int) (n k : Nat) (mo mo' : Int) (b aw : Bool) (l : List Instr) (hn : n < 10000)
    (h : g_valid_checker_list k (cL m t ls (n + 1) mo false false) l = some (cL m t ls (n + 1) mo' b aw)) :
    g_valid_checker_inner (k + 1) (cL m t ls n mo false false) l 0 0 = some (cL m t ls n mo' b false) := by
  simp only [g_valid_checker_inner]
  have e1 : (((cL m t ls n mo false false).frames.length : Nat) : Int) = ((n + 1 : Nat) : Int) := cL_fl n false
  have e2 : (cL m t ls n mo false false).frames.getD ((n : Int)).toNat default = Frame.mk 0 false false := cL_top n false
  have e3 : (Checker.mk m t ls [] ((cL m t ls n mo false false).frames ++ [Frame.mk 0 false false]) ((cL m t ls n mo false false).labels ++ [0]) mo false) = cL m t ls (n + 1) mo false false := by
    unfold cL
    simp only [Checker.mk.injEq, and_true, true_and, List.append_cancel_right_eq]
    exact ⟨(List.replicate_succ' (n := n) (a := F0)).symm, (List.replicate_succ' (n := n + 1) (a := (0 : Int))).symm⟩
  rw [e1, wN n (by omega), gd_of (by omega), e2, if_neg (by decide), gd_of (by simp [cL]; omega), Option.bind_some, gd_of (by simp [cL]; omega)]
  show ((g_valid_checker_list k (Checker.mk m t ls [] ((cL m t ls n mo false false).frames ++ [Frame.mk 0 false false]) ((cL m t ls n mo false false).labels ++ [0]) mo false) l).bind _ : Option Checker) = _
  rw [e3, h, Option.bind_some, take0 _ (n + 1) (by omega) (by simp [cL]), Option.bind_some]
  have e4 : (((cL m t ls (n + 1) mo' b aw).frames.length : Nat) : Int) = ((n + 1 + 1 : Nat) : Int) := cL_fl (n + 1) aw
  have e5 : (cL m t ls (n + 1) mo' b aw).frames.getD (((n + 1 : Nat) : Int)).toNat default = Frame.mk 0 aw false := cL_top (n + 1) aw
  have e6 : (((cL m t ls (n + 1) mo' b aw).labels.length : Nat) : Int) = ((n + 1 + 1 : Nat) : Int) := cL_ll (n + 1)
  have e7 : (((cL m t ls (n + 1) mo' b aw).stack.length : Nat) : Int) = 0 := rfl
  show (gd (0 ≤ (wI (((cL m t ls (n + 1) mo' b aw).frames.length : Int) - 1)) ∧ (wI (((cL m t ls (n + 1) mo' b aw).frames.length : Int) - 1)) < ((cL m t ls (n + 1) mo' b aw).frames.length : Int)) _ : Option Checker) = _
  have e8 : (if b = true then some (Checker.mk m t ls [] (cL m t ls (n + 1) mo' b aw).frames (cL m t ls (n + 1) mo' b aw).labels mo' true) else some (Checker.mk m t ls [] (cL m t ls (n + 1) mo' b aw).frames (cL m t ls (n + 1) mo' b aw).labels mo' ((0 : Int) != 0))) = some (cL m t ls (n + 1) mo' b aw) := by
    cases b <;> rfl
  rw [e4, wN (n + 1) (by omega), gd_of (by omega), e5, e7]
  show ((if b = true then some (Checker.mk m t ls [] (cL m t ls (n + 1) mo' b aw).frames (cL m t ls (n + 1) mo' b aw).labels mo' true) else some (Checker.mk m t ls [] (cL m t ls (n + 1) mo' b aw).frames (cL m t ls (n + 1) mo' b aw).labels mo' ((0 : Int) != 0))).bind _ : Option Checker) = _
  rw [e8, Option.bind_some, e7, gd_of ⟨Int.le_refl 0, Int.le_refl 0, Int.le_refl 0⟩, e4, wN (n + 1) (by omega), gd_of (by omega), e6, wN (n + 1) (by omega), gd_of (by omega)]
  simp only [cL, Option.some.injEq, Checker.mk.injEq, true_and, and_true, List.take_nil, Int.toNat_natCast]
  refine ⟨?_, ?_⟩
  · rw [List.take_append_of_le_length (by simp), List.take_replicate, Nat.min_self]
    exact List.replicate_succ' (n := n) (a := F0)
  · rw [List.take_replicate]; congr 1; omega

theorem block_cL (m : Mdl) (t : Typ) (ls : List Int) (n k : Nat) (mo mo' : Int) (b aw : Bool) (l : List Instr) (o : Int) (ho : o = 2 ∨ o = 3) (hn : n < 10000) (hk : 1 < k)
    (h : g_valid_checker_list k (cL m t ls (n + 1) mo false false) l = some (cL m t ls (n + 1) mo' b aw)) :
    g_valid_checker_list (k + 3) (cL m t ls n mo false false) [Instr.mk o 0 0 0 0 l [] []] = some (cL m t ls n mo' b false) := by
  rw [list_fold (k + 2) _ _ (by simp) (by simp), List.foldlM_cons]
  have e : stepC (k + 2) (cL m t ls n mo false false) (Instr.mk o 0 0 0 0 l [] []) = some (cL m t ls n mo' b false) := by
    unfold stepC
    rw [ite_ff (c := (cL m t ls n mo false false).bad) rfl, if_pos (by rcases ho with rfl | rfl <;> rfl)]
    simp only [g_valid_checker_control]
    have hi := inner_cL m t ls n k mo mo' b aw l hn h
    have e1 : (cL m t ls n mo false false).bad = false := rfl
    have e2 : (if o == 3 then some (0 : Int) else some 0) = some 0 := by split <;> rfl
    have e3 : (Checker.mk m t ls (cL m t ls n mo false false).stack (cL m t ls n mo false false).frames (cL m t ls n mo false false).labels mo false) = cL m t ls n mo false false := rfl
    rcases ho with rfl | rfl
    · show (((g_valid_checker_inner (k + 1) (cL m t ls n mo false false) l 0 0).bind fun x8 => (g_valid_checker_lay x8 0).bind fun x10 => some x10) : Option Checker) = _
      rw [hi, Option.bind_some, lay0]; rfl
    · show (((g_valid_checker_inner (k + 1) (cL m t ls n mo false false) l 0 0).bind fun x8 => (g_valid_checker_lay x8 0).bind fun x10 => some x10) : Option Checker) = _
      rw [hi, Option.bind_some, lay0]; rfl
  rw [e]; rfl

/-- Blocks about a list. -/
def wr (os : List Int) (l : List Instr) : List Instr := os.foldl (fun l o => [Instr.mk o 0 0 0 0 l [] []]) l

theorem list_wr (m : Mdl) (t : Typ) (ls : List Int) (mo mo' : Int) (b : Bool) : ∀ (os : List Int) (n k : Nat) (l : List Instr) (aw : Bool), (∀ o ∈ os, o = 2 ∨ o = 3) → n + os.length < 10000 → 1 < k →
    g_valid_checker_list k (cL m t ls (n + os.length) mo false false) l = some (cL m t ls (n + os.length) mo' b aw) →
    ∃ aw', g_valid_checker_list (k + 3 * os.length) (cL m t ls n mo false false) (wr os l) = some (cL m t ls n mo' b aw') := by
  intro os
  induction os with
  | nil => intro n k l aw _ _ _ h; exact ⟨aw, h⟩
  | cons o os ih =>
    intro n k l aw ho hn hk h
    simp only [List.length_cons] at hn h
    obtain ⟨aw', e⟩ := ih n (k + 3) _ false (fun o' h' => ho o' (List.mem_cons_of_mem _ h')) (by omega) (by omega) (block_cL m t ls (n + os.length) k mo mo' b aw l o (ho o List.mem_cons_self) (by omega) hk h)
    refine ⟨aw', ?_⟩
    rw [show k + 3 * (o :: os).length = k + 3 + 3 * os.length by simp only [List.length_cons]; omega]
    exact e

theorem wtL_wr : ∀ (os : List Int) (l : List Instr), wtL (wr os l) = wtL l + 5 * os.length := by
  intro os
  induction os with
  | nil => intro l; rfl
  | cons o os ih =>
    intro l
    rw [show wr (o :: os) l = wr os [Instr.mk o 0 0 0 0 l [] []] from rfl, ih]
    simp only [wtL, wtI, List.length_cons]; omega

/-- What a label says within so many blocks. -/
theorem label_cL (m : Mdl) (t : Typ) (ls : List Int) (n : Nat) (mo : Int) (st : List Int) (fr : List Frame) (b : Bool) (to : Int) (hn : n < 10000) :
    g_valid_checker_label (Checker.mk m t ls st fr (List.replicate (n + 1) 0) mo b) to = some (0, Checker.mk m t ls st fr (List.replicate (n + 1) 0) mo (b || !(decide (0 ≤ to) && decide (to ≤ (n : Int))))) := by
  unfold g_valid_checker_label
  show (if ((decide (to < (0 : Int))) || (decide (to ≥ ((List.replicate (n + 1) (0 : Int)).length : Int)))) = true then some ((0 : Int), Checker.mk m t ls st fr (List.replicate (n + 1) 0) mo true) else gd (0 ≤ (wI ((wI (((List.replicate (n + 1) (0 : Int)).length : Int) - 1)) - to)) ∧ (wI ((wI (((List.replicate (n + 1) (0 : Int)).length : Int) - 1)) - to)) < ((List.replicate (n + 1) (0 : Int)).length : Int)) (some ((List.replicate (n + 1) (0 : Int)).getD ((wI ((wI (((List.replicate (n + 1) (0 : Int)).length : Int) - 1)) - to)).toNat) default, Checker.mk m t ls st fr (List.replicate (n + 1) 0) mo b))) = _
  rw [cL_ll, wN n (by omega)]
  by_cases h : 0 ≤ to ∧ to ≤ (n : Int)
  · rw [if_neg (by simp; omega), wI_small (by omega) (by omega), gd_of (by omega)]
    have e : (decide (0 ≤ to) && decide (to ≤ (n : Int))) = true := by simp [h.1, h.2]
    have e2 : (List.replicate (n + 1) (0 : Int)).getD ((n : Int) - to).toNat default = 0 := by
      rw [List.getD_eq_getElem?_getD, List.getElem?_replicate]
      rw [if_pos (by omega)]; rfl
    rw [e, e2]; cases b <;> rfl
  · rw [if_pos (by simp; omega)]
    have e : (decide (0 ≤ to) && decide (to ≤ (n : Int))) = false := by
      cases h' : (decide (0 ≤ to) && decide (to ≤ (n : Int))) with
      | false => rfl
      | true => exact absurd (by simpa using h') h
    rw [e]; cases b <;> rfl

theorem leave_cL (m : Mdl) (t : Typ) (ls : List Int) (n : Nat) (mo : Int) (b aw : Bool) (hn : n < 10000) : g_valid_checker_leave (cL m t ls n mo b aw) = some (cL m t ls n mo b true) := by
  unfold g_valid_checker_leave
  have e1 : (((cL m t ls n mo b aw).frames.length : Nat) : Int) = ((n + 1 : Nat) : Int) := cL_fl n aw
  have e2 : (cL m t ls n mo b aw).frames.getD ((n : Int)).toNat default = Frame.mk 0 aw false := cL_top n aw
  rw [e1, wN n (by omega), gd_of (by omega), e2, gd_of ⟨Int.le_refl 0, Int.le_refl 0, Int.le_refl 0⟩]
  simp only [cL, Int.toNat_natCast, Option.some.injEq, Checker.mk.injEq, true_and, and_true, List.take_nil]
  rw [List.set_append_right _ _ (by simp)]
  simp

def okL (to : Int) (n : Nat) : Bool := decide (0 ≤ to) && decide (to ≤ (n : Int))

def lA (to : Int) : List Instr := [Instr.mk 12 to 0 0 0 [] [] []]
def lB (to : Int) : List Instr := [Instr.mk 65 0 0 0 0 [] [] [], Instr.mk 13 to 0 0 0 [] [] []]
def lC (to : Int) : List Instr := [Instr.mk 65 0 0 0 0 [] [] [], Instr.mk 14 0 0 0 0 [] [] [0, to, 0]]

theorem list_lA (m : Mdl) (t : Typ) (ls : List Int) (n k : Nat) (hn : n < 10000) (to : Int) :
    g_valid_checker_list (k + 10) (cL m t ls n 0 false false) (lA to) = some (cL m t ls n 0 (!okL to n) true) := by
  rw [list_fold (k + 9) _ _ (by simp [lA]) (by simp [lA])]
  unfold lA
  rw [List.foldlM_cons]
  have e : stepC (k + 9) (cL m t ls n 0 false false) (Instr.mk 12 to 0 0 0 [] [] []) = some (cL m t ls n 0 (!okL to n) true) := by
    unfold stepC
    rw [ite_ff (c := (cL m t ls n 0 false false).bad) rfl, if_pos (by rfl)]
    simp only [g_valid_checker_control]
    show ((g_valid_checker_label (cL m t ls n 0 false false) to).bind fun x31 => (g_valid_checker_take x31.2 x31.1).bind fun x33 => (g_valid_checker_leave x33.2).bind fun x35 => some x35 : Option Checker) = _
    have := label_cL m t ls n 0 [] (List.replicate n F0 ++ [Frame.mk 0 false false]) false to hn
    rw [show cL m t ls n 0 false false = Checker.mk m t ls [] (List.replicate n F0 ++ [Frame.mk 0 false false]) (List.replicate (n + 1) 0) 0 false from rfl, this, Option.bind_some, take0 _ n (by omega) (by simp), Option.bind_some]
    have := leave_cL m t ls n 0 (!okL to n) false hn
    rw [show (Checker.mk m t ls [] (List.replicate n F0 ++ [Frame.mk 0 false false]) (List.replicate (n + 1) 0) 0 (false || !(decide (0 ≤ to) && decide (to ≤ (n : Int))))) = cL m t ls n 0 (!okL to n) false from rfl, this]
    rfl
  rw [e]; rfl

/-- Behind a const. -/
def cM (m : Mdl) (t : Typ) (ls : List Int) (n : Nat) : Checker := Checker.mk m t ls [127] (List.replicate n F0 ++ [Frame.mk 0 false false]) (List.replicate (n + 1) 0) 1 false

theorem step_const (m : Mdl) (t : Typ) (ls : List Int) (n k : Nat) (hn : n < 10000) :
    stepC k (cL m t ls n 0 false false) (Instr.mk 65 0 0 0 0 [] [] []) = some (cM m t ls n) := by
  unfold stepC
  rw [ite_ff (c := (cL m t ls n 0 false false).bad) rfl, if_neg (by decide)]
  have hp : g_valid_checker_plain (cL m t ls n 0 false false) (Instr.mk 65 0 0 0 0 [] [] []) = some (cM m t ls n) := by
    unfold g_valid_checker_plain
    rw [show (Instr.mk 65 0 0 0 0 [] [] []).op = 65 from rfl, sign65, Option.bind_some, if_neg (by decide), bytes65, Option.bind_some, if_neg (by decide), Option.bind_some, form65, Option.bind_some, ite_ff]
    rotate_left
    · kernel_rfl
    rw [Option.bind_some]
    unfold g_valid_checker_call g_valid_checker_takes
    have ok : okT (cL m t ls n 0 false false) := by
      refine ⟨by simp [cL], by simp [cL]; omega, by simp [cL], ?_, ?_⟩
      · have e1 : (((cL m t ls n 0 false false).frames.length : Nat) : Int) = ((n + 1 : Nat) : Int) := cL_fl n false
        have e2 : (cL m t ls n 0 false false).frames.getD ((n : Int)).toNat default = Frame.mk 0 false false := cL_top n false
        first | (rw [e1, wN n (by omega), e2]; exact Int.le_refl 0) | (simp [cL]) 
      · have e1 : (((cL m t ls n 0 false false).frames.length : Nat) : Int) = ((n + 1 : Nat) : Int) := cL_fl n false
        have e2 : (cL m t ls n 0 false false).frames.getD ((n : Int)).toNat default = Frame.mk 0 false false := cL_top n false
        first | (rw [e1, wN n (by omega), e2]; exact Int.le_refl 0) | (simp [cL]) 
    rw [gd_of ⟨ok, by decide⟩, Option.bind_some]
    show (((g_valid_checker_lay (cL m t ls n 0 false false) 127).bind fun x3 => some x3).bind fun x7 => some x7 : Option Checker) = _
    unfold g_valid_checker_lay
    have e1 : (((cL m t ls n 0 false false).frames.length : Nat) : Int) = ((n + 1 : Nat) : Int) := cL_fl n false
    have e2 : (cL m t ls n 0 false false).frames.getD ((n : Int)).toNat default = Frame.mk 0 false false := cL_top n false
    rw [if_neg (by decide), gd_of (by simp [cL]), e1, wN n (by omega), gd_of (by omega), e2]
    rfl
  unfold g_valid_checker_simple
  rw [if_neg (by decide), if_neg (by decide), if_neg (by decide), if_neg (by decide), if_neg (by decide), if_neg (by decide), if_neg (by decide), hp]
  rfl

theorem take_cM (m : Mdl) (t : Typ) (ls : List Int) (n : Nat) (hn : n < 10000) : g_valid_checker_take (cM m t ls n) 127 = some (127, cL m t ls n 1 false false) := by
  unfold g_valid_checker_take
  have e1 : (((cM m t ls n).frames.length : Nat) : Int) = ((n + 1 : Nat) : Int) := cL_fl n false
  have e2 : (cM m t ls n).frames.getD ((n : Int)).toNat default = Frame.mk 0 false false := cL_top n false
  rw [e1, wN n (by omega), gd_of (by omega), if_neg (by decide), e2]
  rfl

theorem list_lB (m : Mdl) (t : Typ) (ls : List Int) (n k : Nat) (hn : n < 10000) (to : Int) :
    g_valid_checker_list (k + 10) (cL m t ls n 0 false false) (lB to) = some (cL m t ls n 1 (!okL to n) false) := by
  rw [list_fold (k + 9) _ _ (by simp [lB]) (by simp [lB])]
  unfold lB
  rw [List.foldlM_cons, step_const m t ls n _ hn]
  show List.foldlM (stepC (k + 9)) (cM m t ls n) [Instr.mk 13 to 0 0 0 [] [] []] = _
  rw [List.foldlM_cons]
  have e : stepC (k + 9) (cM m t ls n) (Instr.mk 13 to 0 0 0 [] [] []) = some (cL m t ls n 1 (!okL to n) false) := by
    unfold stepC
    rw [ite_ff (c := (cM m t ls n).bad) rfl, if_pos (by rfl)]
    simp only [g_valid_checker_control]
    show ((g_valid_checker_take (cM m t ls n) 127).bind fun x37 => ((g_valid_checker_label x37.2 to).bind fun x39 => ((g_valid_checker_take x39.2 x39.1).bind fun x41 => ((g_valid_checker_lay x41.2 x39.1).bind fun x43 => some x43))) : Option Checker) = _
    rw [take_cM m t ls n hn, Option.bind_some]
    have := label_cL m t ls n 1 [] (List.replicate n F0 ++ [Frame.mk 0 false false]) false to hn
    rw [show (127, cL m t ls n 1 false false).2 = Checker.mk m t ls [] (List.replicate n F0 ++ [Frame.mk 0 false false]) (List.replicate (n + 1) 0) 1 false from rfl, this, Option.bind_some, take0 _ n (by omega) (by simp), Option.bind_some, lay0]
    rfl
  rw [e]; rfl

theorem list_lC (m : Mdl) (t : Typ) (ls : List Int) (n k : Nat) (hn : n < 10000) (to : Int) (h0 : 0 ≤ to) (h1 : to < 4294967296) :
    g_valid_checker_list (k + 10) (cL m t ls n 0 false false) (lC to) = some (cL m t ls n 1 (!okL to n) true) := by
  rw [list_fold (k + 9) _ _ (by simp [lC]) (by simp [lC])]
  unfold lC
  rw [List.foldlM_cons, step_const m t ls n _ hn]
  show List.foldlM (stepC (k + 9)) (cM m t ls n) [Instr.mk 14 0 0 0 0 [] [] [0, to, 0]] = _
  rw [List.foldlM_cons]
  have e : stepC (k + 9) (cM m t ls n) (Instr.mk 14 0 0 0 0 [] [] [0, to, 0]) = some (cL m t ls n 1 (!okL to n) true) := by
    unfold stepC
    rw [ite_ff (c := (cM m t ls n).bad) rfl, if_pos (by rfl)]
    simp only [g_valid_checker_control]
    show ((g_valid_checker_table (k + 8) (cM m t ls n) (Instr.mk 14 0 0 0 0 [] [] [0, to, 0])).bind fun x45 => some x45 : Option Checker) = _
    have ht : g_valid_checker_table (k + 8) (cM m t ls n) (Instr.mk 14 0 0 0 0 [] [] [0, to, 0]) = some (cL m t ls n 1 (!okL to n) true) := by
      unfold g_valid_checker_table
      have w2 : wI ((([0, to, 0] : List Int).length : Int) - 1) = 2 := (by decide : wI (3 - 1) = 2)
      have ok0 : (decide (0 ≤ (0 : Int)) && decide ((0 : Int) ≤ (n : Int))) = true := by simp
      have wto : wI to = to := wI_small (by omega) (by omega)
      have w0 : wI 0 = 0 := by decide
      have L : ∀ b x, g_valid_checker_label (cL m t ls n 1 b false) x = some (0, cL m t ls n 1 (b || !okL x n) false) := fun b x => label_cL m t ls n 1 [] _ b x hn
      have L0 : ∀ b, g_valid_checker_label (cL m t ls n 1 b false) 0 = some (0, cL m t ls n 1 b false) := fun b => by
        rw [L]; unfold okL; rw [ok0]; cases b <;> rfl
      rw [take_cM m t ls n hn, Option.bind_some, ite_ff (by rfl)]
      show gd (0 ≤ wI ((([0, to, 0] : List Int).length : Int) - 1) ∧ wI ((([0, to, 0] : List Int).length : Int) - 1) < (([0, to, 0] : List Int).length : Int)) ((g_valid_checker_label (cL m t ls n 1 false false) (wI (([0, to, 0] : List Int).getD (wI ((([0, to, 0] : List Int).length : Int) - 1)).toNat default))).bind _) = _
      rw [w2, gd_of (by exact (by decide : 0 ≤ (2 : Int) ∧ (2 : Int) < 3))]
      show ((g_valid_checker_label (cL m t ls n 1 false false) (wI 0)).bind _ : Option Checker) = _
      rw [w0, L0, Option.bind_some]
      have hl : g_valid_checker_table_l0 (k + 8) (Instr.mk 14 0 0 0 0 [] [] [0, to, 0]) (0, cL m t ls n 1 false false) (cL m t ls n 1 false false) 0 = some (cL m t ls n 1 (!okL to n) false) := by
        simp only [g_valid_checker_table_l0]
        show (if decide ((0 : Int) < 3) = true then (gd (0 ≤ (0 : Int) ∧ (0 : Int) < 3) ((g_valid_checker_label (cL m t ls n 1 false false) (wI 0)).bind _)).bind _ else _) = _
        rw [if_pos (by decide), gd_of (by decide), w0, L0, Option.bind_some, if_neg (by exact (by decide : ¬ ((0 : Int) != 0) = true)), Option.bind_some]
        show (if decide ((1 : Int) < 3) = true then (gd (0 ≤ (1 : Int) ∧ (1 : Int) < 3) ((g_valid_checker_label (cL m t ls n 1 false false) (wI to)).bind _)).bind _ else _) = _
        rw [if_pos (by decide), gd_of (by decide), wto, L, Option.bind_some, if_neg (by exact (by decide : ¬ ((0 : Int) != 0) = true)), Option.bind_some]
        show (if decide ((2 : Int) < 3) = true then (gd (0 ≤ (2 : Int) ∧ (2 : Int) < 3) ((g_valid_checker_label (cL m t ls n 1 (false || !okL to n) false) (wI 0)).bind _)).bind _ else _) = _
        rw [if_pos (by decide), gd_of (by decide), w0, L0, Option.bind_some, if_neg (by exact (by decide : ¬ ((0 : Int) != 0) = true)), Option.bind_some]
        show (if decide ((3 : Int) < 3) = true then _ else some (cL m t ls n 1 (false || !okL to n) false)) = _
        rw [if_neg (by decide), Bool.false_or]
      rw [hl, Option.bind_some, take0 _ n (by omega) (by simp [cL]), Option.bind_some, leave_cL _ _ _ _ _ _ _ hn]
      rfl
    rw [ht]; rfl
  rw [e]; rfl
end Go.Proofs.YtablleokoifolaaGreatDoor

/- The law ValidLabels of the plain functions, whole. -/
set_option linter.unusedVariables false
set_option linter.unusedSimpArgs false
set_option maxRecDepth 100000
namespace Go.Proofs.YtablleokoifolaaGreatDoor
open Go

theorem wr_u64 (x : Int) : ∃ n : Nat, IntKind.wrap .u64 x = n := ⟨(IntKind.wrap .u64 x).toNat, by rw [IntKind.wrap_u64]; omega⟩
theorem wr_k (x : Int) : ∃ N : Nat, N < 30 ∧ wI ((IntKind.wrap .u64 x).tmod 30) = N := by
  obtain ⟨n, hn⟩ := wr_u64 x
  refine ⟨n % 30, Nat.mod_lt _ (by decide), ?_⟩
  rw [hn]
  have e : ((n : Int)).tmod 30 = ((n % 30 : Nat) : Int) := by rw [Int.tmod_eq_emod_of_nonneg (by omega)]; omega
  rw [e, wI_small (by omega) (by omega)]
theorem wr_b (x : Int) : ∃ w : Nat, w ≤ 1 ∧ IntKind.wrap .i64 (((BitVec.ofInt (IntKind.bits .i64) x) &&& (BitVec.ofInt (IntKind.bits .i64) 1)).toNat : Int) = w := by
  refine ⟨(BitVec.ofInt 64 x).toNat % 2, by omega, ?_⟩
  have e : ((BitVec.ofInt (IntKind.bits .i64) x) &&& (BitVec.ofInt (IntKind.bits .i64) 1)).toNat = (BitVec.ofInt 64 x).toNat % 2 := by
    rw [BitVec.toNat_and]
    show (BitVec.ofInt 64 x).toNat &&& 1 = _
    exact Nat.and_one_is_mod _
  rw [e]
  exact wI_small (by omega) (by omega)
theorem wr_o (i w : Nat) (hi : i < 100) (hw : w ≤ 1) : IntKind.wrap .u8 (wI (2 + ((wI ((i : Int) + (w : Int))).tmod 2))) = 2 ∨ IntKind.wrap .u8 (wI (2 + ((wI ((i : Int) + (w : Int))).tmod 2))) = 3 := by
  rw [wI_small (x := (i : Int) + (w : Int)) (by omega) (by omega), Int.tmod_eq_emod_of_nonneg (by omega)]
  have : ((i : Int) + (w : Int)) % 2 = 0 ∨ ((i : Int) + (w : Int)) % 2 = 1 := by omega
  rcases this with h | h <;> rw [h]
  · exact .inl (by decide)
  · exact .inr (by decide)

theorem wr_l0 (p0 p2 : Int) (N : Nat) (hN : N < 30) (he : wI ((IntKind.wrap .u64 p0).tmod 30) = N) : ∀ (k i : Nat) (l : List Instr), i ≤ N → N - i < k →
    ∃ os : List Int, (∀ o ∈ os, o = 2 ∨ o = 3) ∧ os.length = N - i ∧ g_law08_ValidLabels_l0 k p0 p2 l (i : Int) = some (wr os l) := by
  intro k
  induction k with
  | zero => intro i _ _ h; omega
  | succ k ih =>
    intro i l h1 h2
    obtain ⟨w, hw, ew⟩ := wr_b p2
    simp only [g_law08_ValidLabels_l0]
    rw [he]
    by_cases h : i < N
    · rw [if_pos (by simp; omega), gd_of (by decide), ew, wI_nat i (by omega)]
      obtain ⟨os, o1, o2, o3⟩ := ih (i + 1) [Instr.mk (IntKind.wrap .u8 (wI (2 + ((wI ((i : Int) + (w : Int))).tmod 2)))) 0 0 0 0 l [] []] (by omega) (by omega)
      refine ⟨_ :: os, fun o ho => ?_, by simp [o2]; omega, o3⟩
      rcases List.mem_cons.1 ho with rfl | ho
      · exact wr_o i w (by omega) hw
      · exact o1 o ho
    · rw [if_neg (by simp; omega)]
      exact ⟨[], (fun o ho => by cases ho), by simp only [List.length_nil]; omega, rfl⟩
theorem wr_l1 : g_law08_ValidLabels_l1 = g_law08_ValidLabels_l0 := by
  funext k
  induction k with
  | zero => funext a b c d; rfl
  | succ k ih => funext a b c d; simp only [g_law08_ValidLabels_l1, g_law08_ValidLabels_l0, ih]
theorem wr_l2 : g_law08_ValidLabels_l2 = g_law08_ValidLabels_l0 := by
  funext k
  induction k with
  | zero => funext a b c d; rfl
  | succ k ih => funext a b c d; simp only [g_law08_ValidLabels_l2, g_law08_ValidLabels_l0, ih]

/-- What a body says whose list ends so. -/
theorem body_wr (os : List Int) (l : List Instr) (to mo : Int) (aw : Bool) (ho : ∀ o ∈ os, o = 2 ∨ o = 3) (hn : os.length < 30) (hl : wtL l < 100)
    (h : ∀ (m : Mdl) (t : Typ) (ls : List Int) (n k : Nat), n < 10000 → g_valid_checker_list (k + 10) (cL m t ls n 0 false false) l = some (cL m t ls n mo (!okL to n) aw)) :
    ((g_law08_scene [] 0 (wr os l)).bind fun x4 => (g_law08_giveModule 1000 x4).bind fun x6 => g_valid_Body 1000 x6 0) = some (if okL to os.length = true then none else some 7) := by
  have hw := wtL_wr os l
  rw [scM_eq, Option.bind_some, giveModule_id (scM_gv [] 0 _ (by decide) (by omega)), Option.bind_some]
  unfold g_valid_Body
  rw [check_scM (.inl rfl)]
  obtain ⟨aw', e⟩ := list_wr (scM [] 0 (wr os l)) (Typ.mk [] 0) [127, 126] 0 mo (!okL to os.length) os 0 (1000 - 3 * os.length) l aw ho (by omega) (by omega) (by
    have := h (scM [] 0 (wr os l)) (Typ.mk [] 0) [127, 126] os.length (1000 - 3 * os.length - 10) (by omega)
    rw [Nat.zero_add]
    rw [show 1000 - 3 * os.length = 1000 - 3 * os.length - 10 + 10 by omega]
    exact this)
  rw [show 1000 - 3 * os.length + 3 * os.length = 1000 by omega] at e
  rw [show c0 (scM [] 0 (wr os l)) (Typ.mk [] 0) [127, 126] = cL (scM [] 0 (wr os l)) (Typ.mk [] 0) [127, 126] 0 0 false false from rfl, e, Option.bind_some]
  unfold endC
  rw [take0 _ 0 (by decide) (by simp [cL]), Option.bind_some]
  show ((if ((!okL to os.length) || decide (((0 : Nat) : Int) > (0 : Int))) = true then some (none, some 7) else some (some _, none) : Option (Option Checker × Option Int)).bind _ : Option (Option Int)) = _
  cases okL to os.length <;> rfl

theorem bind3 {A B C D : Type} {a : Option A} {b : A → Option B} {c : B → Option C} {f : C → Option D} {r : C} (h : (a.bind fun x => (b x).bind fun y => c y) = some r) :
    (a.bind fun x => (b x).bind fun y => (c y).bind f) = f r := by
  cases a with
  | none => cases h
  | some x =>
    rw [Option.bind_some] at h ⊢
    cases hb : b x with
    | none => rw [hb] at h; cases h
    | some y =>
      rw [hb, Option.bind_some] at h
      rw [Option.bind_some, h, Option.bind_some]

/-- The law's end. -/
theorem labels_end (to : Int) (N : Nat) (x : Option Int) (hx : x = if okL to N = true then none else some 7) :
    ((if (decide (to ≥ (0 : Int))) = true then (if (x.isNone == (decide (to ≤ (N : Int)))) = true then (if x.isNone = true then ((g_law08_sure).bind fun x10 => some x10) else ((g_law08_num x).bind fun x12 => (if (x12 == (7 : Int)) = true then ((g_law08_sure).bind fun x14 => some x14) else some false))) else some false) else (if (x.isNone == false) = true then (if x.isNone = true then ((g_law08_sure).bind fun x16 => some x16) else ((g_law08_num x).bind fun x18 => (if (x18 == (7 : Int)) = true then ((g_law08_sure).bind fun x20 => some x20) else some false))) else some false)).bind (fun j22 => some j22)) = some true := by
  by_cases h0 : 0 ≤ to
  · by_cases h1 : to ≤ (N : Int)
    · have : okL to N = true := by simp [okL, h0, h1]
      rw [this] at hx
      subst hx
      simp [h0, h1, g_law08_sure]
    · have : okL to N = false := by simp [okL, h0, h1]
      rw [this] at hx
      subst hx
      simp [h0, h1, g_law08_sure, g_law08_num]
  · have : okL to N = false := by simp [okL, h0]
    rw [this] at hx
    subst hx
    simp [h0, g_law08_sure, g_law08_num]

theorem labels_true (p0 p1 p2 : Int) : g_law08_ValidLabels 1000 p0 p1 p2 = some true := by
  obtain ⟨N, hN, he⟩ := wr_k p0
  unfold g_law08_ValidLabels
  rw [gd_of (by decide), gd_of (by decide)]
  split
  · obtain ⟨os, o1, o2, o3⟩ := wr_l0 p0 p2 N hN he 1000 0 (lB p1) (by omega) (by omega)
    have hb := body_wr os (lB p1) p1 1 false o1 (by omega) (by simp [lB, wtL, wtI]) (fun m t ls n k hn => list_lB m t ls n k hn p1)
    have o3' : g_law08_ValidLabels_l0 1000 p0 p2 ([(Instr.mk 65 0 0 0 0 ([] : List Instr) ([] : List Instr) ([] : List Int)), (Instr.mk 13 p1 0 0 0 ([] : List Instr) ([] : List Instr) ([] : List Int))] : List Instr) 0 = some (wr os (lB p1)) := o3
    rw [o3', Option.bind_some]
    refine (bind3 hb).trans ?_
    rw [he]
    exact labels_end p1 N _ (by rw [o2]; rfl)
  split
  · split
    · rfl
    · rename_i hr
      have hr' : 0 ≤ p1 ∧ p1 < 4294967296 := by simp at hr; omega
      have e1 : IntKind.wrap .u32 p1 = p1 := by rw [IntKind.wrap_u32]; omega
      obtain ⟨os, o1, o2, o3⟩ := wr_l0 p0 p2 N hN he 1000 0 (lC p1) (by omega) (by omega)
      have hb := body_wr os (lC p1) p1 1 true o1 (by omega) (by simp [lC, wtL, wtI]) (fun m t ls n k hn => list_lC m t ls n k hn p1 hr'.1 hr'.2)
      have o3' : g_law08_ValidLabels_l0 1000 p0 p2 ([(Instr.mk 65 0 0 0 0 ([] : List Instr) ([] : List Instr) ([] : List Int)), (Instr.mk 14 0 0 0 0 ([] : List Instr) ([] : List Instr) ([0, p1, 0] : List Int))] : List Instr) 0 = some (wr os (lC p1)) := o3
      rw [wr_l1, e1, o3', Option.bind_some]
      refine (bind3 hb).trans ?_
      rw [he]
      exact labels_end p1 N _ (by rw [o2]; rfl)
  · obtain ⟨os, o1, o2, o3⟩ := wr_l0 p0 p2 N hN he 1000 0 (lA p1) (by omega) (by omega)
    have hb := body_wr os (lA p1) p1 0 true o1 (by omega) (by simp [lA, wtL, wtI]) (fun m t ls n k hn => list_lA m t ls n k hn p1)
    have o3' : g_law08_ValidLabels_l0 1000 p0 p2 ([(Instr.mk 12 p1 0 0 0 ([] : List Instr) ([] : List Instr) ([] : List Int))] : List Instr) 0 = some (wr os (lA p1)) := o3
    rw [wr_l2, o3', Option.bind_some]
    refine (bind3 hb).trans ?_
    rw [he]
    exact labels_end p1 N _ (by rw [o2]; rfl)
end Go.Proofs.YtablleokoifolaaGreatDoor

/- Two checkers of bodies, step by step: what each says of a state, and how the states are tied. -/
set_option linter.unusedVariables false
set_option linter.unusedSimpArgs false
set_option maxRecDepth 100000
namespace Go.Proofs.YtablleokoifolaaGreatDoor
open Go

/-- Where a list stands: the module, the function's type, its locals, what lies beneath, the outer frames, the labels. -/
structure Ctx where
  m : Mdl
  t : Typ
  ls : List Int
  un : List Int
  fr : List Frame
  lb : List Int

def CC (Γ : Ctx) (l : List Int) (aw dd : Bool) (mo : Int) (bd : Bool) : Checker :=
  Checker.mk Γ.m Γ.t Γ.ls (Γ.un ++ l) (Γ.fr ++ [Frame.mk (Γ.un.length : Int) aw dd]) Γ.lb mo bd
def Ctx.env (Γ : Ctx) : Env8 := Env8.mk Γ.m Γ.t.result Γ.ls Γ.lb

/-- Small enough. -/
structure Gd (Γ : Ctx) (N : Nat) : Prop where
  un : Γ.un.length + N < 1000000000000
  fr : Γ.fr.length < 1000000000
  lb : Γ.lb.length < 1000000000

theorem Gd.mono {Γ : Ctx} {N M : Nat} (g : Gd Γ N) (h : M ≤ N) : Gd Γ M := ⟨by have := g.un; omega, g.fr, g.lb⟩

theorem CC_fl (Γ : Ctx) (l : List Int) (aw dd : Bool) (mo : Int) (bd : Bool) : (((CC Γ l aw dd mo bd).frames.length : Nat) : Int) = ((Γ.fr.length + 1 : Nat) : Int) := by simp [CC]
theorem CC_top (Γ : Ctx) (l : List Int) (aw dd : Bool) (mo : Int) (bd : Bool) : (CC Γ l aw dd mo bd).frames.getD ((Γ.fr.length : Int)).toNat default = Frame.mk (Γ.un.length : Int) aw dd := by
  rw [Int.toNat_natCast, List.getD_eq_getElem?_getD]; simp [CC]
theorem wB (n : Nat) (h : n < 1000000000000) : wI (((n + 1 : Nat) : Int) - 1) = (n : Int) := by rw [wI_small (by omega) (by omega)]; omega

def tV (l : List Int) (k : Int) : Int := if k = 0 then k else match l.getLast? with | none => k | some x => if x = 1 then k else x
def tL (l : List Int) (k : Int) : List Int := if k = 0 then l else l.dropLast
def tB (l : List Int) (aw bd : Bool) (k : Int) : Bool := if k = 0 then bd else match l.getLast? with | none => bd || !aw | some x => bd || (x != k && (x != 1 && k != 1))

theorem take_CC (Γ : Ctx) (l : List Int) (aw dd : Bool) (mo : Int) (bd : Bool) (k : Int) (g : Gd Γ l.length) :
    g_valid_checker_take (CC Γ l aw dd mo bd) k = some (tV l k, CC Γ (tL l k) aw dd mo (tB l aw bd k)) := by
  have hf := g.fr; have hu := g.un
  unfold g_valid_checker_take
  rw [CC_fl, wB _ (by omega), gd_of (by omega), CC_top]
  by_cases hk : k = 0
  · rw [if_pos (by simpa using hk)]
    simp [tV, tL, tB, hk]
  rw [if_neg (by simpa using hk)]
  rcases List.eq_nil_or_concat l with rfl | ⟨l, x, rfl⟩
  · have e : (((CC Γ [] aw dd mo bd).stack.length : Nat) : Int) = (Γ.un.length : Int) := by simp [CC]
    rw [e, if_pos (by simp)]
    simp only [tV, tL, tB, if_neg hk, List.getLast?_nil, List.dropLast_nil]
    cases bd <;> rfl
  · simp only [List.concat_eq_append] at hu ⊢
    have e : (((CC Γ (l ++ [x]) aw dd mo bd).stack.length : Nat) : Int) = ((Γ.un.length + l.length + 1 : Nat) : Int) := by simp [CC]; omega
    have e2 : (CC Γ (l ++ [x]) aw dd mo bd).stack.getD (((Γ.un.length + l.length : Nat) : Int)).toNat default = x := by
      rw [Int.toNat_natCast, List.getD_eq_getElem?_getD]
      simp only [CC, ← List.append_assoc]
      rw [List.getElem?_append_right (by simp)]
      simp
    have e3 : List.take (((Γ.un.length + l.length : Nat) : Int)).toNat (CC Γ (l ++ [x]) aw dd mo bd).stack = Γ.un ++ l := by
      rw [Int.toNat_natCast]
      simp only [CC, ← List.append_assoc]
      rw [List.take_append_of_le_length (by simp), ← List.length_append, List.take_length]
    simp only [List.length_append, List.length_cons, List.length_nil] at hu
    rw [e, wB _ (by omega), if_neg (by simp; omega), gd_of (by omega), gd_of (by omega), e2, e3]
    simp only [tV, tL, tB, if_neg hk, List.getLast?_append, List.getLast?_singleton, List.dropLast_concat, Option.some_or]
    have e4 : (if ((x != k) && ((x != (1 : Int)) && (k != (1 : Int)))) = true then some (Checker.mk Γ.m Γ.t Γ.ls (Γ.un ++ l) (Γ.fr ++ [Frame.mk (Γ.un.length : Int) aw dd]) Γ.lb mo true) else some (Checker.mk Γ.m Γ.t Γ.ls (Γ.un ++ l) (Γ.fr ++ [Frame.mk (Γ.un.length : Int) aw dd]) Γ.lb mo bd)) = some (CC Γ l aw dd mo (bd || (x != k && (x != 1 && k != 1)))) := by
      cases (x != k && (x != 1 && k != 1)) <;> cases bd <;> rfl
    refine (congrArg (fun o => Option.bind o _) e4).trans ?_
    rw [Option.bind_some]
    by_cases hx : x = 1
    · rw [if_pos (by simpa using hx), if_pos hx]
    · rw [if_neg (by simpa using hx), if_neg hx]

theorem lay_CC (Γ : Ctx) (l : List Int) (aw dd : Bool) (mo : Int) (bd : Bool) (k : Int) (g : Gd Γ l.length) :
    g_valid_checker_lay (CC Γ l aw dd mo bd) k = some (if k = 0 then CC Γ l aw dd mo bd else CC Γ (l ++ [k]) aw dd (if (!aw && !dd) = true then mxI mo ((Γ.un.length + l.length + 1 : Nat) : Int) else mo) bd) := by
  have hf := g.fr; have hu := g.un
  unfold g_valid_checker_lay
  by_cases hk : k = 0
  · rw [if_pos (by simpa using hk), if_pos hk]
  have hs : (CC Γ l aw dd mo bd).stack.length = Γ.un.length + l.length := by simp [CC]
  have hs2 : ((CC Γ l aw dd mo bd).stack ++ [k]).length = Γ.un.length + l.length + 1 := by simp [CC]; omega
  rw [if_neg (by simpa using hk), if_neg hk, gd_of (by omega), CC_fl, wB _ (by omega), gd_of (by omega), CC_top, hs2]
  have e : ((CC Γ l aw dd mo bd).stack ++ [k]) = Γ.un ++ (l ++ [k]) := by simp [CC]
  rw [e]
  cases (!aw && !dd) <;> rfl

theorem leave_CC (Γ : Ctx) (l : List Int) (aw dd : Bool) (mo : Int) (bd : Bool) (g : Gd Γ l.length) :
    g_valid_checker_leave (CC Γ l aw dd mo bd) = some (CC Γ [] true dd mo bd) := by
  have hf := g.fr; have hu := g.un
  unfold g_valid_checker_leave
  have hs : (CC Γ l aw dd mo bd).stack.length = Γ.un.length + l.length := by simp [CC]
  rw [CC_fl, wB _ (by omega), gd_of (by omega), CC_top, gd_of (by rw [hs]; exact ⟨Int.le_refl 0, by simp, by simp; omega⟩)]
  simp only [CC, Int.toNat_natCast, Option.some.injEq, Checker.mk.injEq, true_and, and_true]
  refine ⟨by rw [List.take_append_of_le_length (Nat.le_refl _), List.take_length, List.append_nil], ?_⟩
  rw [List.set_append_right _ _ (by simp)]
  simp

def lbV (lb : List Int) (n : Int) : Int := if 0 ≤ n ∧ n < lb.length then lb.getD ((lb.length : Int) - 1 - n).toNat default else 0
def lbB (lb : List Int) (n : Int) : Bool := decide (0 ≤ n ∧ n < lb.length)
theorem label_CC (Γ : Ctx) (l : List Int) (aw dd : Bool) (mo : Int) (bd : Bool) (n : Int) (g : Gd Γ l.length) :
    g_valid_checker_label (CC Γ l aw dd mo bd) n = some (lbV Γ.lb n, CC Γ l aw dd mo (bd || !lbB Γ.lb n)) := by
  have hl := g.lb
  unfold g_valid_checker_label
  have e1 : (CC Γ l aw dd mo bd).labels = Γ.lb := rfl
  rw [e1]
  by_cases h : 0 ≤ n ∧ n < Γ.lb.length
  · rw [if_neg (by simp; omega), wI_small (x := (Γ.lb.length : Int) - 1) (by omega) (by omega), wI_small (by omega) (by omega), gd_of (by omega)]
    unfold lbV lbB
    rw [if_pos h, decide_eq_true h]
    cases bd <;> rfl
  · rw [if_pos (by simp; omega)]
    unfold lbV lbB
    rw [if_neg h, decide_eq_false h]
    cases bd <;> rfl

/- The document's side. -/
def rV (l : List Int) (k : Int) : Int := if k = 0 then 0 else match l.getLast? with | none => k | some x => if x = 255 then k else x
def rB (l : List Int) (aw ok : Bool) (k : Int) : Bool := if k = 0 then ok else match l.getLast? with | none => ok && aw | some x => if x = 255 then ok else if (k != 255 && x != k) = true then false else ok

theorem rtake_eq (l : List Int) (u : Int) (aw dd : Bool) (mo : Int) (ok : Bool) (k : Int) (h : l.length < 1000000000000) :
    g_ref08_take (St8.mk l u aw dd mo ok) k = some (St8.mk (tL l k) u aw dd mo (rB l aw ok k), rV l k) := by
  unfold g_ref08_take
  by_cases hk : k = 0
  · rw [if_pos (by simpa using hk)]
    simp [rV, tL, rB, hk]
  rw [if_neg (by simpa using hk)]
  rcases List.eq_nil_or_concat l with rfl | ⟨l, x, rfl⟩
  · rw [if_pos (by simp)]
    simp only [rV, tL, rB, if_neg hk, List.getLast?_nil, List.dropLast_nil]
    cases ok <;> rfl
  · simp only [List.concat_eq_append] at h ⊢
    simp only [List.length_append, List.length_cons, List.length_nil] at h
    have e : (((l ++ [x]).length : Nat) : Int) = ((l.length + 1 : Nat) : Int) := by simp
    have e2 : (l ++ [x]).getD ((l.length : Int)).toNat default = x := by
      rw [Int.toNat_natCast, List.getD_eq_getElem?_getD]; simp
    have e3 : List.take ((l.length : Int)).toNat (l ++ [x]) = l := by
      rw [Int.toNat_natCast]; simp
    show (if (((l ++ [x]).length : Int) == (0 : Int)) = true then _ else gd (0 ≤ (wI (((l ++ [x]).length : Int) - 1)) ∧ (wI (((l ++ [x]).length : Int) - 1)) < ((l ++ [x]).length : Int)) _) = _
    rw [e, wB _ (by omega), if_neg (by simp; omega), gd_of (by omega), gd_of (by omega), e2, e3]
    simp only [rV, tL, rB, if_neg hk, List.getLast?_append, List.getLast?_singleton, List.dropLast_concat, Option.some_or]
    by_cases hx : x = 255
    · rw [if_pos (by simpa using hx), if_pos hx, if_pos hx]
    · rw [if_neg (by simpa using hx), if_neg hx, if_neg hx]
      cases (k != 255 && x != k) <;> rfl

theorem rlay_eq (l : List Int) (u : Nat) (aw dd : Bool) (mo : Int) (ok : Bool) (k : Int) (h : u + l.length < 1000000000000) :
    g_ref08_lay (St8.mk l u aw dd mo ok) k = some (if k = 0 then St8.mk l u aw dd mo ok else St8.mk (l ++ [k]) u aw dd (if (!aw && !dd) = true then mxI mo ((u + l.length + 1 : Nat) : Int) else mo) ok) := by
  unfold g_ref08_lay
  by_cases hk : k = 0
  · rw [if_pos (by simpa using hk), if_pos hk]
  have e : wI ((u : Int) + ((l ++ [k]).length : Int)) = ((u + l.length + 1 : Nat) : Int) := by
    rw [wI_small (by simp; omega) (by simp; omega)]; simp; omega
  rw [if_neg (by simpa using hk), if_neg hk, gd_of (by show l.length * 1 ≤ _; omega), gd_of (by show (l.length + 1) * 1 ≤ _; omega)]
  show ((if (!aw && !dd) = true then some (mxI mo (wI ((u : Int) + ((l ++ [k]).length : Int)))) else some mo).bind fun j3 => some (St8.mk (l ++ [k]) u aw dd j3 ok)) = _
  rw [e]
  cases (!aw && !dd) <;> rfl
end Go.Proofs.YtablleokoifolaaGreatDoor

/- Two checkers of bodies: the states tied, operation by operation. -/
set_option linter.unusedVariables false
set_option linter.unusedSimpArgs false
set_option maxRecDepth 100000
namespace Go.Proofs.YtablleokoifolaaGreatDoor
open Go

/-- Kinds on a stack, and as the program has them. -/
def Kd (x : Int) : Prop := x = 126 ∨ x = 127 ∨ x = 255
def fk (x : Int) : Int := if x = 255 then 1 else x
theorem fk0 {x : Int} (h : x = 0 ∨ Kd x) : fk x = 0 ↔ x = 0 := by
  rcases h with rfl | rfl | rfl | rfl <;> decide
theorem fk_inj {x y : Int} (hx : x = 0 ∨ Kd x) (hy : y = 0 ∨ Kd y) : fk x = fk y ↔ x = y := by
  rcases hx with rfl | rfl | rfl | rfl <;> rcases hy with rfl | rfl | rfl | rfl <;> decide

def BadV (Γ : Ctx) (N : Nat) (c : Checker) : Prop := ∃ l aw dd mo, l.length ≤ N ∧ c = CC Γ l aw dd mo true
def BadR (N : Nat) (s : St8) : Prop := s.ok = false ∧ s.l.length ≤ N
def OkS (Γ : Ctx) (N : Nat) (c : Checker) (s : St8) : Prop :=
  ∃ l aw dd mo, (∀ x ∈ l, Kd x) ∧ l.length ≤ N ∧ c = CC Γ (l.map fk) aw dd mo false ∧ s = St8.mk l Γ.un.length aw dd mo true
/-- The states are tied. -/
def Sim (Γ : Ctx) (N : Nat) (c : Checker) (s : St8) : Prop := OkS Γ N c s ∨ (BadV Γ N c ∧ BadR N s)

theorem BadV.mono {Γ : Ctx} {N M : Nat} {c : Checker} (h : BadV Γ N c) (hm : N ≤ M) : BadV Γ M c := by
  obtain ⟨l, aw, dd, mo, h1, h2⟩ := h; exact ⟨l, aw, dd, mo, by omega, h2⟩
theorem BadR.mono {N M : Nat} {s : St8} (h : BadR N s) (hm : N ≤ M) : BadR M s := ⟨h.1, by have := h.2; omega⟩
theorem Sim.mono {Γ : Ctx} {N M : Nat} {c : Checker} {s : St8} (h : Sim Γ N c s) (hm : N ≤ M) : Sim Γ M c s := by
  rcases h with ⟨l, aw, dd, mo, h1, h2, h3⟩ | ⟨h1, h2⟩
  · exact .inl ⟨l, aw, dd, mo, h1, by omega, h3⟩
  · exact .inr ⟨h1.mono hm, h2.mono hm⟩
theorem Sim.bad {Γ : Ctx} {N : Nat} {c : Checker} {s : St8} (h : Sim Γ N c s) : c.bad = !s.ok := by
  rcases h with ⟨l, aw, dd, mo, h1, h2, rfl, rfl⟩ | ⟨⟨l, aw, dd, mo, h1, rfl⟩, h2, h3⟩
  · rfl
  · rw [h2]; rfl

/-- A value's kind as told by both. -/
def Vk (s : St8) (v v' : Int) : Prop := s.ok = true → v = fk v' ∧ (v' = 0 ∨ Kd v')

theorem tL_len (l : List Int) (k : Int) : (tL l k).length ≤ l.length := by
  unfold tL; split
  · exact Nat.le_refl _
  · rw [List.length_dropLast]; omega
theorem lastK {l : List Int} (h : ∀ x ∈ l, Kd x) {x : Int} (hx : l.getLast? = some x) : Kd x := h x (List.mem_of_getLast? hx)

theorem takeB {Γ : Ctx} {N : Nat} {c : Checker} (g : Gd Γ N) (h : BadV Γ N c) (k : Int) : ∃ v c', g_valid_checker_take c k = some (v, c') ∧ BadV Γ N c' := by
  obtain ⟨l, aw, dd, mo, h1, rfl⟩ := h
  have ht := tL_len l k
  refine ⟨_, _, take_CC Γ l aw dd mo true k (g.mono h1), tL l k, aw, dd, mo, Nat.le_trans ht h1, ?_⟩
  have : tB l aw true k = true := by
    unfold tB; split
    · rfl
    · split <;> rfl
  rw [this]
theorem rtakeB {N : Nat} {s : St8} (hN : N < 1000000000000) (h : BadR N s) (k : Int) : ∃ v s', g_ref08_take s k = some (s', v) ∧ BadR N s' := by
  obtain ⟨l, u, aw, dd, mo, ok⟩ := s
  obtain ⟨h1, h2⟩ := h
  obtain rfl : ok = false := h1
  have ht := tL_len l k
  have h2' : l.length ≤ N := h2
  refine ⟨_, _, rtake_eq l u aw dd mo false k (by omega), ?_, Nat.le_trans ht h2⟩
  show rB l aw false k = false
  unfold rB; split
  · rfl
  · split
    · rfl
    · split
      · rfl
      · split <;> rfl

theorem sim_take {Γ : Ctx} {N : Nat} {c : Checker} {s : St8} (g : Gd Γ N) (h : Sim Γ N c s) {k k' : Int} (hk : Vk s k k') :
    ∃ v c' v' s', g_valid_checker_take c k = some (v, c') ∧ g_ref08_take s k' = some (s', v') ∧ Sim Γ N c' s' ∧ Vk s' v v' := by
  have hN : N < 1000000000000 := by have := g.un; omega
  rcases h with ⟨l, aw, dd, mo, h1, h2, rfl, rfl⟩ | ⟨h1, h2⟩
  · obtain ⟨rfl, hk'⟩ := hk rfl
    refine ⟨_, _, _, _, take_CC Γ (l.map fk) aw dd mo false (fk k') (g.mono (by simpa using h2)), rtake_eq l _ aw dd mo true k' (by omega), ?_⟩
    have e1 : tL (l.map fk) (fk k') = (tL l k').map fk := by
      unfold tL
      by_cases h0 : k' = 0
      · rw [if_pos h0, if_pos ((fk0 hk').2 h0)]
      · rw [if_neg h0, if_neg (fun h => h0 ((fk0 hk').1 h)), List.map_dropLast]
    have hs : ∀ x ∈ tL l k', Kd x := by
      unfold tL; split
      · exact h1
      · exact fun x hx => h1 x (List.dropLast_subset l hx)
    have e2 : tB (l.map fk) aw false (fk k') = !rB l aw true k' := by
      unfold tB rB
      by_cases h0 : k' = 0
      · rw [if_pos h0, if_pos ((fk0 hk').2 h0)]; rfl
      · rw [if_neg h0, if_neg (fun h => h0 ((fk0 hk').1 h)), List.getLast?_map]
        cases hl : l.getLast? with
        | none => cases aw <;> rfl
        | some x =>
          have kx := lastK h1 hl
          rcases hk' with h | h
          · exact absurd h h0
          rcases kx with rfl | rfl | rfl <;> rcases h with rfl | rfl | rfl <;> rfl
    have e3 : tV (l.map fk) (fk k') = fk (rV l k') ∧ (rV l k' = 0 ∨ Kd (rV l k')) := by
      unfold tV rV
      by_cases h0 : k' = 0
      · rw [if_pos h0, if_pos ((fk0 hk').2 h0), h0]; exact ⟨rfl, .inl rfl⟩
      · rw [if_neg h0, if_neg (fun h => h0 ((fk0 hk').1 h)), List.getLast?_map]
        cases hl : l.getLast? with
        | none => exact ⟨rfl, hk'⟩
        | some x =>
          have kx := lastK h1 hl
          rcases hk' with h | h
          · exact absurd h h0
          rcases kx with rfl | rfl | rfl
          · exact ⟨rfl, .inr (.inl rfl)⟩
          · exact ⟨rfl, .inr (.inr (.inl rfl))⟩
          · exact ⟨rfl, .inr h⟩
    rw [e1, e2]
    have ht := tL_len l k'
    refine ⟨?_, fun _ => e3⟩
    cases hr : rB l aw true k' with
    | true => exact .inl ⟨tL l k', aw, dd, mo, hs, by omega, rfl, rfl⟩
    | false => exact .inr ⟨⟨_, aw, dd, mo, by rw [List.length_map]; omega, rfl⟩, rfl, by show (tL l k').length ≤ N; omega⟩
  · obtain ⟨v, c', e, hb⟩ := takeB g h1 k
    obtain ⟨v', s', e', hb'⟩ := rtakeB hN h2 k'
    exact ⟨v, c', v', s', e, e', .inr ⟨hb, hb'⟩, fun h => by rw [hb'.1] at h; cases h⟩

theorem layB {Γ : Ctx} {N : Nat} {c : Checker} (g : Gd Γ N) (h : BadV Γ N c) (k : Int) : ∃ c', g_valid_checker_lay c k = some c' ∧ BadV Γ (N + 1) c' := by
  obtain ⟨l, aw, dd, mo, h1, rfl⟩ := h
  refine ⟨_, lay_CC Γ l aw dd mo true k (g.mono h1), ?_⟩
  split
  · exact ⟨_, _, _, _, Nat.le_succ_of_le h1, rfl⟩
  · exact ⟨_, _, _, _, by simp only [List.length_append, List.length_cons, List.length_nil]; omega, rfl⟩
theorem rlayB {N : Nat} {s : St8} (hN : N < 1000000000000) (h : BadR N s) (k : Int) : ∃ s', g_ref08_lay s k = some s' ∧ BadR (N + 1) s' := by
  obtain ⟨l, u, aw, dd, mo, ok⟩ := s
  obtain ⟨h1, h2⟩ := h
  obtain rfl : ok = false := h1
  have h2' : l.length ≤ N := h2
  unfold g_ref08_lay
  split
  · exact ⟨_, rfl, rfl, Nat.le_succ_of_le h2⟩
  · rw [gd_of (by show l.length * 1 ≤ _; omega), gd_of (by show (l.length + 1) * 1 ≤ _; omega)]
    split
    · exact ⟨_, rfl, rfl, by show (l ++ [k]).length ≤ _; rw [List.length_append]; simp; omega⟩
    · exact ⟨_, rfl, rfl, by show (l ++ [k]).length ≤ _; rw [List.length_append]; simp; omega⟩

theorem sim_lay {Γ : Ctx} {N : Nat} {c : Checker} {s : St8} (g : Gd Γ N) (h : Sim Γ N c s) {k k' : Int} (hk : Vk s k k') :
    ∃ c' s', g_valid_checker_lay c k = some c' ∧ g_ref08_lay s k' = some s' ∧ Sim Γ (N + 1) c' s' := by
  have hN : N < 1000000000000 := by have := g.un; omega
  rcases h with ⟨l, aw, dd, mo, h1, h2, rfl, rfl⟩ | ⟨h1, h2⟩
  · obtain ⟨rfl, hk'⟩ := hk rfl
    refine ⟨_, _, lay_CC Γ (l.map fk) aw dd mo false (fk k') (g.mono (by simpa using h2)), rlay_eq l Γ.un.length aw dd mo true k' (by have := g.un; omega), ?_⟩
    by_cases h0 : k' = 0
    · rw [if_pos h0, if_pos ((fk0 hk').2 h0)]
      exact .inl ⟨l, aw, dd, mo, h1, by omega, rfl, rfl⟩
    · rw [if_neg h0, if_neg (fun h => h0 ((fk0 hk').1 h))]
      refine .inl ⟨l ++ [k'], aw, dd, _, fun x hx => ?_, by simp; omega, ?_, rfl⟩
      · rcases List.mem_append.1 hx with hx | hx
        · exact h1 x hx
        · obtain rfl : x = k' := by simpa using hx
          rcases hk' with h | h
          · exact absurd h h0
          · exact h
      · rw [List.map_append, List.length_map]; rfl
  · obtain ⟨c', e, hb⟩ := layB g h1 k
    obtain ⟨s', e', hb'⟩ := rlayB hN h2 k'
    exact ⟨c', s', e, e', .inr ⟨hb, hb'⟩⟩

theorem leaveB {Γ : Ctx} {N : Nat} {c : Checker} (g : Gd Γ N) (h : BadV Γ N c) : ∃ c', g_valid_checker_leave c = some c' ∧ BadV Γ N c' := by
  obtain ⟨l, aw, dd, mo, h1, rfl⟩ := h
  exact ⟨_, leave_CC Γ l aw dd mo true (g.mono h1), _, _, _, _, Nat.zero_le _, rfl⟩
theorem sim_leave {Γ : Ctx} {N : Nat} {c : Checker} {s : St8} (g : Gd Γ N) (h : Sim Γ N c s) :
    ∃ c' s', g_valid_checker_leave c = some c' ∧ g_ref08_away s = some s' ∧ Sim Γ N c' s' := by
  rcases h with ⟨l, aw, dd, mo, h1, h2, rfl, rfl⟩ | ⟨h1, h2⟩
  · exact ⟨_, _, leave_CC Γ (l.map fk) aw dd mo false (g.mono (by simpa using h2)), rfl, .inl ⟨[], true, dd, mo, (fun x hx => by cases hx), Nat.zero_le _, rfl, rfl⟩⟩
  · obtain ⟨c', e, hb⟩ := leaveB g h1
    exact ⟨c', _, e, rfl, .inr ⟨hb, h2.1, Nat.zero_le _⟩⟩

/-- One more thing is asked of a state. -/
def setB (c : Checker) (b : Bool) : Checker := Checker.mk c.m c.t c.locals c.stack c.frames c.labels c.most (c.bad || b)
def setO (s : St8) (b : Bool) : St8 := St8.mk s.l s.under s.away s.dead s.most (s.ok && b)
theorem sim_ask {Γ : Ctx} {N : Nat} {c : Checker} {s : St8} (h : Sim Γ N c s) (b : Bool) : Sim Γ N (setB c b) (setO s (!b)) := by
  rcases h with ⟨l, aw, dd, mo, h1, h2, rfl, rfl⟩ | ⟨⟨l, aw, dd, mo, h1, rfl⟩, h2, h3⟩
  · cases b with
    | false => exact .inl ⟨l, aw, dd, mo, h1, h2, rfl, rfl⟩
    | true => exact .inr ⟨⟨l.map fk, aw, dd, mo, by simpa using h2, rfl⟩, rfl, h2⟩
  · refine .inr ⟨⟨l, aw, dd, mo, h1, rfl⟩, ?_, h3⟩
    show (s.ok && !b) = false
    rw [h2]; rfl
theorem askB {Γ : Ctx} {N : Nat} {c : Checker} (h : BadV Γ N c) (b : Bool) : BadV Γ N (setB c b) := by
  obtain ⟨l, aw, dd, mo, h1, rfl⟩ := h
  exact ⟨l, aw, dd, mo, h1, rfl⟩
/-- What is told wrong is wrong. -/
theorem Sim.toBad {Γ : Ctx} {N : Nat} {c : Checker} {s : St8} (h : Sim Γ N c s) : BadV Γ N (setB c true) ∧ BadR N (setO s false) := by
  rcases sim_ask h true with ⟨l, aw, dd, mo, h1, h2, h3, h4⟩ | h
  · have := congrArg St8.ok h4
    simp [setO] at this
  · exact h

theorem sim_label {Γ : Ctx} {N : Nat} {c : Checker} {s : St8} (g : Gd Γ N) (h : Sim Γ N c s) (hl : ∀ x ∈ Γ.lb, x = 0 ∨ x = 126 ∨ x = 127) (n : Int) :
    g_valid_checker_label c n = some (lbV Γ.lb n, setB c (!lbB Γ.lb n)) ∧ g_ref08_label Γ.env n = some (lbV Γ.lb n, lbB Γ.lb n) ∧ Vk s (lbV Γ.lb n) (lbV Γ.lb n) := by
  refine ⟨?_, ?_, fun _ => ?_⟩
  · rcases h with ⟨l, aw, dd, mo, h1, h2, rfl, rfl⟩ | ⟨⟨l, aw, dd, mo, h1, rfl⟩, h2, h3⟩
    · exact label_CC Γ _ aw dd mo false n (g.mono (by simpa using h2))
    · exact label_CC Γ _ aw dd mo true n (g.mono (by simpa using h1))
  · have hl := g.lb
    unfold g_ref08_label
    show (if ((decide (n < (0 : Int))) || (decide (n ≥ (Γ.lb.length : Int)))) = true then some (0, false) else gd (0 ≤ (wI ((wI ((Γ.lb.length : Int) - 1)) - n)) ∧ (wI ((wI ((Γ.lb.length : Int) - 1)) - n)) < (Γ.lb.length : Int)) (some (Γ.lb.getD ((wI ((wI ((Γ.lb.length : Int) - 1)) - n)).toNat) default, true))) = _
    by_cases h : 0 ≤ n ∧ n < Γ.lb.length
    · rw [if_neg (by simp; omega), wI_small (x := (Γ.lb.length : Int) - 1) (by omega) (by omega), wI_small (by omega) (by omega), gd_of (by omega)]
      unfold lbV lbB
      rw [if_pos h, decide_eq_true h]
    · rw [if_pos (by simp; omega)]
      unfold lbV lbB
      rw [if_neg h, decide_eq_false h]
  · have : lbV Γ.lb n = 0 ∨ lbV Γ.lb n = 126 ∨ lbV Γ.lb n = 127 := by
      unfold lbV
      split
      · rename_i h
        apply hl
        rw [List.getD_eq_getElem?_getD, List.getElem?_eq_getElem (by omega)]
        exact List.getElem_mem _
      · exact .inl rfl
    rcases this with h | h | h <;> rw [h]
    · exact ⟨rfl, .inl rfl⟩
    · exact ⟨rfl, .inr (.inl rfl)⟩
    · exact ⟨rfl, .inr (.inr (.inl rfl))⟩
end Go.Proofs.YtablleokoifolaaGreatDoor

/- Two checkers of bodies: lists within, types' calls. -/
set_option linter.unusedVariables false
set_option linter.unusedSimpArgs false
set_option maxRecDepth 100000
namespace Go.Proofs.YtablleokoifolaaGreatDoor
open Go

def K2 (x : Int) : Prop := x = 126 ∨ x = 127
def K3 (x : Int) : Prop := x = 0 ∨ x = 126 ∨ x = 127
theorem Vk.of3 {s : St8} {x : Int} (h : K3 x) : Vk s x x := fun _ => by
  rcases h with rfl | rfl | rfl
  · exact ⟨rfl, .inl rfl⟩
  · exact ⟨rfl, .inr (.inl rfl)⟩
  · exact ⟨rfl, .inr (.inr (.inl rfl))⟩
theorem Vk.of2 {s : St8} {x : Int} (h : K2 x) : Vk s x x := Vk.of3 (.inr h)
theorem Vk.any {s : St8} : Vk s 1 255 := fun _ => ⟨rfl, .inr (.inr (.inr rfl))⟩

theorem okT_CC {Γ : Ctx} {l : List Int} {aw dd : Bool} {mo : Int} {bd : Bool} (g : Gd Γ l.length) : okT (CC Γ l aw dd mo bd) := by
  have hf := g.fr; have hu := g.un
  have e1 : (CC Γ l aw dd mo bd).frames.length = Γ.fr.length + 1 := by simp [CC]
  have e2 : (CC Γ l aw dd mo bd).stack.length = Γ.un.length + l.length := by simp [CC]
  have e3 : (CC Γ l aw dd mo bd).frames.getD (Γ.fr.length + 1 - 1) default = Frame.mk (Γ.un.length : Int) aw dd := by
    have := CC_top Γ l aw dd mo bd
    rw [Int.toNat_natCast] at this
    exact this
  unfold okT
  rw [e1, e2, e3]
  refine ⟨by omega, by omega, by omega, ?_, ?_⟩
  · show (0 : Int) ≤ (Γ.un.length : Int); omega
  · show ((Γ.un.length : Nat) : Int) ≤ _; omega

theorem BadV.ok {Γ : Ctx} {N : Nat} {c : Checker} (g : Gd Γ N) (h : BadV Γ N c) : okT c := by
  obtain ⟨l, aw, dd, mo, h1, rfl⟩ := h
  exact okT_CC (g.mono h1)
theorem Sim.okT {Γ : Ctx} {N : Nat} {c : Checker} {s : St8} (g : Gd Γ N) (h : Sim Γ N c s) : okT c := by
  rcases h with ⟨l, aw, dd, mo, h1, h2, rfl, rfl⟩ | ⟨h, _⟩
  · exact okT_CC (g.mono (by simpa using h2))
  · exact h.ok g

theorem takesB {Γ : Ctx} {N : Nat} (g : Gd Γ N) (ps : List Int) : ∀ {c : Checker}, BadV Γ N c → BadV Γ N (ps.foldl takeT c) := by
  induction ps with
  | nil => intro c h; exact h
  | cons p ps ih =>
    intro c h
    obtain ⟨v, c', e, hb⟩ := takeB g h p
    have : takeT c p = c' := by unfold takeT; rw [e]; rfl
    rw [List.foldl_cons, this]
    exact ih hb
theorem callB {Γ : Ctx} {N : Nat} (g : Gd Γ N) {c : Checker} (h : BadV Γ N c) (t : Typ) (ht : t.params.length < 4611686018427387904) : ∃ c', g_valid_checker_call c t = some c' ∧ BadV Γ (N + 1) c' := by
  unfold g_valid_checker_call g_valid_checker_takes
  rw [gd_of ⟨h.ok g, ht⟩, Option.bind_some]
  obtain ⟨c', e, hb⟩ := layB g (takesB g t.params.reverse h) t.result
  rw [e]
  exact ⟨c', rfl, hb⟩

theorem sim_call_l0 {Γ : Ctx} {N : Nat} (g : Gd Γ N) (t : Typ) (ht : ∀ p ∈ t.params, K2 p) (hs : t.params.length < 1000000000) : ∀ (i k : Nat) (c : Checker) (s : St8), i ≤ t.params.length → i < k → Sim Γ N c s →
    ∃ s', g_ref08_call_l0 k t s ((i : Int) - 1) = some s' ∧ Sim Γ N ((t.params.take i).reverse.foldl takeT c) s' := by
  intro i
  induction i with
  | zero =>
    intro k c s _ hk h
    cases k with
    | zero => omega
    | succ k => exact ⟨s, rfl, h⟩
  | succ i ih =>
    intro k c s hi hk h
    cases k with
    | zero => omega
    | succ k =>
      simp only [g_ref08_call_l0]
      have e0 : (((i + 1 : Nat) : Int) - 1) = (i : Int) := by omega
      have hm : K2 (t.params.getD ((i : Int)).toNat default) := ht _ (getD_mem t.params i (by omega))
      rw [e0, if_pos (by simp), gd_of (by omega)]
      obtain ⟨v, c', v', s', e1, e2, h', _⟩ := sim_take g h (Vk.of2 hm)
      rw [e2, Option.bind_some]
      obtain ⟨s'', e3, h''⟩ := ih k c' s' (by omega) (by omega) h'
      rw [wI_small (by omega) (by omega)]
      refine ⟨s'', e3, ?_⟩
      have e4 : takeT c (t.params.getD ((i : Int)).toNat default) = c' := by unfold takeT; rw [e1]; rfl
      have e5 : (t.params.take (i + 1)).reverse = t.params.getD ((i : Int)).toNat default :: (t.params.take i).reverse := by
        rw [← takeS t.params i (by omega), List.reverse_append]; rfl
      rw [e5, List.foldl_cons, e4]
      exact h''

/-- A type as it may be. -/
def TOk (P : Nat) (t : Typ) : Prop := (∀ p ∈ t.params, K2 p) ∧ K3 t.result ∧ t.params.length < P

theorem sim_call {Γ : Ctx} {N P K : Nat} {c : Checker} {s : St8} (g : Gd Γ N) (h : Sim Γ N c s) {t : Typ} (ht : TOk P t) (hP : P < 1000000000) (hK : P < K) :
    ∃ c' s', g_valid_checker_call c t = some c' ∧ g_ref08_call K s t = some s' ∧ Sim Γ (N + 1) c' s' := by
  obtain ⟨h1, h2, h3⟩ := ht
  unfold g_valid_checker_call g_valid_checker_takes g_ref08_call
  rw [gd_of ⟨h.okT g, by omega⟩, Option.bind_some, wI_small (by omega) (by omega)]
  obtain ⟨s', e, h'⟩ := sim_call_l0 g t h1 (by omega) t.params.length K c s (Nat.le_refl _) (by omega) h
  rw [e, Option.bind_some]
  rw [List.take_length] at h'
  obtain ⟨c2, s2, e1, e2, h''⟩ := sim_lay g h' (Vk.of3 h2)
  rw [e1, e2]
  exact ⟨c2, s2, rfl, rfl, h''⟩

/- Lists within. -/
theorem list_bad {k : Nat} {c : Checker} (h : c.bad = true) (L : List Instr) : g_valid_checker_list (k + 2) c L = some c := by
  simp only [g_valid_checker_list, lpN]
  split
  · rename_i hl
    have hl' := of_decide_eq_true hl
    rw [gd_of ⟨Int.le_refl 0, hl'⟩]
  · rfl
theorem rlist_bad {k : Nat} {e : Env8} {s : St8} (h : s.ok = false) (L : List Instr) : g_ref08_list (k + 2) e s L = some s := by
  simp only [g_ref08_list, lpN]
  rw [h, Bool.and_false, if_neg (by decide)]
  rfl

def Ctx.sub (Γ : Ctx) (l : List Int) (aw dd : Bool) (lab : Int) : Ctx := ⟨Γ.m, Γ.t, Γ.ls, Γ.un ++ l, Γ.fr ++ [Frame.mk (Γ.un.length : Int) aw dd], Γ.lb ++ [lab]⟩

theorem tkI {α : Type} (l : List α) (x : α) (h : l.length < 1000000000000) : List.take (wI (((l ++ [x]).length : Int) - 1)).toNat (l ++ [x]) = l := by
  have : (((l ++ [x]).length : Nat) : Int) = ((l.length + 1 : Nat) : Int) := by simp
  rw [this, wB _ h, Int.toNat_natCast]; simp

/-- What is done behind a list within. -/
def popC (x6 : Checker) (p2 : Int) : Option Checker :=
  (g_valid_checker_take x6 p2).bind fun x8 => gd (0 ≤ (wI ((x8.2.frames.length : Int) - 1)) ∧ (wI ((x8.2.frames.length : Int) - 1)) < (x8.2.frames.length : Int)) (((if x8.2.bad = true then some (Checker.mk x8.2.m x8.2.t x8.2.locals x8.2.stack x8.2.frames x8.2.labels x8.2.most true) else some (Checker.mk x8.2.m x8.2.t x8.2.locals x8.2.stack x8.2.frames x8.2.labels x8.2.most ((x8.2.stack.length : Int) != ((x8.2.frames.getD ((wI ((x8.2.frames.length : Int) - 1)).toNat) default).height))))).bind (fun j11 => gd (0 ≤ (0 : Int) ∧ 0 ≤ (mnI ((x8.2.frames.getD ((wI ((x8.2.frames.length : Int) - 1)).toNat) default).height) (j11.stack.length : Int)) ∧ (mnI ((x8.2.frames.getD ((wI ((x8.2.frames.length : Int) - 1)).toNat) default).height) (j11.stack.length : Int)) ≤ (j11.stack.length : Int)) (gd (0 ≤ (0 : Int) ∧ 0 ≤ (wI ((j11.frames.length : Int) - 1)) ∧ (wI ((j11.frames.length : Int) - 1)) ≤ (j11.frames.length : Int)) (gd (0 ≤ (0 : Int) ∧ 0 ≤ (wI ((j11.labels.length : Int) - 1)) ∧ (wI ((j11.labels.length : Int) - 1)) ≤ (j11.labels.length : Int)) (some (Checker.mk j11.m j11.t j11.locals (List.take ((mnI ((x8.2.frames.getD ((wI ((x8.2.frames.length : Int) - 1)).toNat) default).height) (j11.stack.length : Int)).toNat) j11.stack) (List.take ((wI ((j11.frames.length : Int) - 1)).toNat) j11.frames) (List.take ((wI ((j11.labels.length : Int) - 1)).toNat) j11.labels) j11.most j11.bad))))))

theorem inner_eq {Γ : Ctx} {l : List Int} {aw dd : Bool} {mo : Int} {bd : Bool} (g : Gd Γ l.length) (k : Nat) (L : List Instr) (res lab : Int) :
    g_valid_checker_inner (k + 1) (CC Γ l aw dd mo bd) L res lab = (g_valid_checker_list k (CC (Γ.sub l aw dd lab) [] false (aw || dd) mo bd) L).bind fun x6 => popC x6 res := by
  have hf := g.fr; have hu := g.un; have hb := g.lb
  simp only [g_valid_checker_inner]
  rw [CC_fl, wB _ (by omega), gd_of (by omega), CC_top]
  have e0 : ((CC Γ l aw dd mo bd).frames.length + 1) * 16 ≤ 140737488355328 := by
    have : (CC Γ l aw dd mo bd).frames.length = Γ.fr.length + 1 := by simp [CC]
    omega
  have e1 : (if (Frame.mk (Γ.un.length : Int) aw dd).away = true then gd (((CC Γ l aw dd mo bd).frames.length + 1) * 16 ≤ 140737488355328) (some (Checker.mk Γ.m Γ.t Γ.ls (CC Γ l aw dd mo bd).stack ((CC Γ l aw dd mo bd).frames ++ ([(Frame.mk ((CC Γ l aw dd mo bd).stack.length : Int) false true)] : List Frame)) Γ.lb mo bd)) else gd (((CC Γ l aw dd mo bd).frames.length + 1) * 16 ≤ 140737488355328) (some (Checker.mk Γ.m Γ.t Γ.ls (CC Γ l aw dd mo bd).stack ((CC Γ l aw dd mo bd).frames ++ ([(Frame.mk ((CC Γ l aw dd mo bd).stack.length : Int) false (Frame.mk (Γ.un.length : Int) aw dd).dead)] : List Frame)) Γ.lb mo bd))) = some (Checker.mk Γ.m Γ.t Γ.ls (CC Γ l aw dd mo bd).stack ((CC Γ l aw dd mo bd).frames ++ ([(Frame.mk ((CC Γ l aw dd mo bd).stack.length : Int) false (aw || dd))] : List Frame)) Γ.lb mo bd) := by
    rw [gd_of e0, gd_of e0]
    cases aw <;> rfl
  refine (congrArg (fun o => Option.bind o _) e1).trans ?_
  rw [Option.bind_some, gd_of (by show (Γ.lb.length + 1) * 1 ≤ _; omega)]
  have e2 : CC (Γ.sub l aw dd lab) [] false (aw || dd) mo bd = Checker.mk Γ.m Γ.t Γ.ls (CC Γ l aw dd mo bd).stack ((CC Γ l aw dd mo bd).frames ++ ([(Frame.mk ((CC Γ l aw dd mo bd).stack.length : Int) false (aw || dd))] : List Frame)) (Γ.lb ++ [lab]) mo bd := by
    simp [CC, Ctx.sub]
  rw [e2]
  rfl

theorem pop_CC {Γ : Ctx} {l : List Int} {aw dd : Bool} {lab : Int} {l2 : List Int} {aw2 dd2 : Bool} {mo2 : Int} {bd2 : Bool} {N : Nat} (g : Gd Γ l.length) (g2 : Gd (Γ.sub l aw dd lab) l2.length) (res : Int) :
    popC (CC (Γ.sub l aw dd lab) l2 aw2 dd2 mo2 bd2) res = some (CC Γ l aw dd mo2 (tB l2 aw2 bd2 res || decide ((tL l2 res).length ≠ 0))) := by
  have hf := g.fr; have hu := g.un; have hb := g.lb
  have hf2 := g2.fr; have hu2 := g2.un; have hb2 := g2.lb
  have ht := tL_len l2 res
  unfold popC
  rw [take_CC _ _ _ _ _ _ _ g2, Option.bind_some]
  show gd (0 ≤ (wI (((CC (Γ.sub l aw dd lab) (tL l2 res) aw2 dd2 mo2 (tB l2 aw2 bd2 res)).frames.length : Int) - 1)) ∧ (wI (((CC (Γ.sub l aw dd lab) (tL l2 res) aw2 dd2 mo2 (tB l2 aw2 bd2 res)).frames.length : Int) - 1)) < ((CC (Γ.sub l aw dd lab) (tL l2 res) aw2 dd2 mo2 (tB l2 aw2 bd2 res)).frames.length : Int)) _ = _
  rw [CC_fl, wB _ (by omega), gd_of (by omega), CC_top]
  have hs : (CC (Γ.sub l aw dd lab) (tL l2 res) aw2 dd2 mo2 (tB l2 aw2 bd2 res)).stack.length = (Γ.sub l aw dd lab).un.length + (tL l2 res).length := by simp [CC]
  rw [hs]
  have e1 : ((((Γ.sub l aw dd lab).un.length + (tL l2 res).length : Nat) : Int) != (Frame.mk ((Γ.sub l aw dd lab).un.length : Int) aw2 dd2).height) = decide ((tL l2 res).length ≠ 0) := by
    show ((((Γ.sub l aw dd lab).un.length + (tL l2 res).length : Nat) : Int) != ((Γ.sub l aw dd lab).un.length : Int)) = _
    by_cases h : (tL l2 res).length = 0
    · rw [h]; simp
    · rw [decide_eq_true h]; simp; omega
  rw [e1]
  have e2 : (if tB l2 aw2 bd2 res = true then some (Checker.mk Γ.m Γ.t Γ.ls (CC (Γ.sub l aw dd lab) (tL l2 res) aw2 dd2 mo2 (tB l2 aw2 bd2 res)).stack (CC (Γ.sub l aw dd lab) (tL l2 res) aw2 dd2 mo2 (tB l2 aw2 bd2 res)).frames (Γ.lb ++ [lab]) mo2 true) else some (Checker.mk Γ.m Γ.t Γ.ls (CC (Γ.sub l aw dd lab) (tL l2 res) aw2 dd2 mo2 (tB l2 aw2 bd2 res)).stack (CC (Γ.sub l aw dd lab) (tL l2 res) aw2 dd2 mo2 (tB l2 aw2 bd2 res)).frames (Γ.lb ++ [lab]) mo2 (decide ((tL l2 res).length ≠ 0)))) = some (CC (Γ.sub l aw dd lab) (tL l2 res) aw2 dd2 mo2 (tB l2 aw2 bd2 res || decide ((tL l2 res).length ≠ 0))) := by
    cases tB l2 aw2 bd2 res <;> rfl
  refine (congrArg (fun o => Option.bind o _) e2).trans ?_
  have hs' : (CC (Γ.sub l aw dd lab) (tL l2 res) aw2 dd2 mo2 (tB l2 aw2 bd2 res || decide ((tL l2 res).length ≠ 0))).stack.length = (Γ.sub l aw dd lab).un.length + (tL l2 res).length := by simp [CC]
  have em : mnI (Frame.mk ((Γ.sub l aw dd lab).un.length : Int) aw2 dd2).height (((Γ.sub l aw dd lab).un.length + (tL l2 res).length : Nat) : Int) = ((Γ.sub l aw dd lab).un.length : Int) := by
    show mnI ((Γ.sub l aw dd lab).un.length : Int) _ = _
    unfold mnI; rw [if_neg (by omega)]
  have el : (CC (Γ.sub l aw dd lab) (tL l2 res) aw2 dd2 mo2 (tB l2 aw2 bd2 res || decide ((tL l2 res).length ≠ 0))).labels = Γ.lb ++ [lab] := rfl
  rw [Option.bind_some, hs', em, gd_of (by omega), CC_fl, wB _ (by omega), gd_of (by omega), el]
  have ell : (((Γ.lb ++ [lab]).length : Nat) : Int) = ((Γ.lb.length + 1 : Nat) : Int) := by simp
  rw [ell, wB _ (by omega), gd_of (by omega)]
  simp only [CC, Ctx.sub, Int.toNat_natCast, Option.some.injEq, Checker.mk.injEq, true_and, and_true]
  refine ⟨?_, ?_, ?_⟩
  · rw [List.take_append_of_le_length (Nat.le_refl _), List.take_length]
  · rw [List.take_append_of_le_length (Nat.le_refl _), List.take_length]
  · rw [List.take_append_of_le_length (Nat.le_refl _), List.take_length]

theorem Gd.sub {Γ : Ctx} {N : Nat} {l : List Int} {M : Nat} {aw dd : Bool} {lab : Int} (g : Gd Γ (l.length + M)) (h1 : Γ.fr.length + 1 < 1000000000) (h2 : Γ.lb.length + 1 < 1000000000) : Gd (Γ.sub l aw dd lab) M :=
  ⟨by have := g.un; simp only [Ctx.sub, List.length_append]; omega, by simp only [Ctx.sub, List.length_append, List.length_cons, List.length_nil]; omega, by simp only [Ctx.sub, List.length_append, List.length_cons, List.length_nil]; omega⟩

theorem innerB {Γ : Ctx} {N k : Nat} (g : Gd Γ N) (hf : Γ.fr.length + 1 < 1000000000) (hl : Γ.lb.length + 1 < 1000000000) {c : Checker} (h : BadV Γ N c) (L : List Instr) (res lab : Int) : ∃ c', g_valid_checker_inner (k + 3) c L res lab = some c' ∧ BadV Γ N c' := by
  obtain ⟨l, aw, dd, mo, h1, rfl⟩ := h
  have g1 : Gd Γ (l.length + 0) := g.mono (by omega)
  rw [inner_eq (g.mono h1), list_bad (by rfl), Option.bind_some, pop_CC (N := 0) (g.mono h1) (g1.sub (N := 0) hf hl)]
  refine ⟨_, rfl, l, aw, dd, mo, h1, ?_⟩
  have : tB [] false true res = true := by unfold tB; split <;> rfl
  rw [this, Bool.true_or]

theorem rinner_eq {Γ : Ctx} {l : List Int} {u : Int} {aw dd : Bool} {mo : Int} {ok : Bool} (hb : Γ.lb.length < 1000000000) (k : Nat) (L : List Instr) (res lab : Int) :
    g_ref08_inner (k + 1) Γ.env (St8.mk l u aw dd mo ok) L res lab = (g_ref08_list k (Env8.mk Γ.m Γ.t.result Γ.ls (Γ.lb ++ [lab])) (St8.mk [] (wI (u + (l.length : Int))) false (aw || dd) mo ok) L).bind fun j7 => (g_ref08_take j7 res).bind fun x8 => some (St8.mk l u aw dd x8.1.most (x8.1.ok && decide (x8.1.l.length = 0))) := by
  simp only [g_ref08_inner]
  rw [gd_of (by show Γ.lb.length * 1 ≤ _; omega), gd_of (by show (Γ.lb.length + 1) * 1 ≤ _; omega)]
  have e : ∀ j7 : St8, ((g_ref08_take j7 res).bind fun x8 => ((if x8.1.ok = true then some ((x8.1.l.length : Int) == (0 : Int)) else some false)).bind (fun j10 => some (St8.mk l u aw dd x8.1.most j10))) = (g_ref08_take j7 res).bind fun x8 => some (St8.mk l u aw dd x8.1.most (x8.1.ok && decide (x8.1.l.length = 0))) := by
    intro j7
    congr 1
    funext x8
    have : ((x8.1.l.length : Int) == (0 : Int)) = decide (x8.1.l.length = 0) := by
      by_cases h : x8.1.l.length = 0
      · rw [h]; rfl
      · rw [decide_eq_false h]; simp; simpa using h
    rw [this]
    cases x8.1.ok <;> rfl
  have e2 : (fun j7 : St8 => ((g_ref08_take j7 res).bind fun x8 => ((if x8.1.ok = true then some ((x8.1.l.length : Int) == (0 : Int)) else some false)).bind (fun j10 => some (St8.mk l u aw dd x8.1.most j10)))) = fun j7 => (g_ref08_take j7 res).bind fun x8 => some (St8.mk l u aw dd x8.1.most (x8.1.ok && decide (x8.1.l.length = 0))) := funext e
  show ((if aw = true then ((g_ref08_list k (Env8.mk Γ.m Γ.t.result Γ.ls (Γ.lb ++ [lab])) (St8.mk [] (wI (u + (l.length : Int))) false true mo ok) L).bind fun x3 => some x3) else ((g_ref08_list k (Env8.mk Γ.m Γ.t.result Γ.ls (Γ.lb ++ [lab])) (St8.mk [] (wI (u + (l.length : Int))) false dd mo ok) L).bind fun x3 => some x3)).bind fun j7 : St8 => ((g_ref08_take j7 res).bind fun x8 => ((if x8.1.ok = true then some ((x8.1.l.length : Int) == (0 : Int)) else some false)).bind (fun j10 => some (St8.mk l u aw dd x8.1.most j10)))) = _
  rw [e2]
  cases aw <;> simp only [Option.bind_fun_some] <;> rfl

theorem rinnerB {Γ : Ctx} {N k : Nat} (hb : Γ.lb.length < 1000000000) {s : St8} (h : BadR N s) (L : List Instr) (res lab : Int) : ∃ s', g_ref08_inner (k + 3) Γ.env s L res lab = some s' ∧ BadR N s' := by
  obtain ⟨l, u, aw, dd, mo, ok⟩ := s
  obtain ⟨h1, h2⟩ := h
  obtain rfl : ok = false := h1
  rw [rinner_eq hb, rlist_bad (by rfl), Option.bind_some]
  obtain ⟨v, s', e, hb'⟩ := rtakeB (N := 0) (by decide) (s := St8.mk [] (wI (u + (l.length : Int))) false (aw || dd) mo false) ⟨rfl, Nat.le_refl 0⟩ res
  rw [e, Option.bind_some]
  refine ⟨_, rfl, ?_, h2⟩
  show (s'.ok && decide (s'.l.length = 0)) = false
  rw [hb'.1]; rfl

theorem sim_inner {Γ : Ctx} {N k : Nat} {c : Checker} {s : St8} (L : List Instr) {res lab : Int} (hr : K3 res) (g : Gd Γ (N + L.length + 1)) (hf : Γ.fr.length + 1 < 1000000000) (hl : Γ.lb.length + 1 < 1000000000)
    (ih : ∀ (l : List Int) (aw dd : Bool) (c : Checker) (s : St8), l.length ≤ N → Sim (Γ.sub l aw dd lab) 0 c s → ∃ c' s', g_valid_checker_list (k + 2) c L = some c' ∧ g_ref08_list (k + 2) (Γ.sub l aw dd lab).env s L = some s' ∧ Sim (Γ.sub l aw dd lab) L.length c' s')
    (h : Sim Γ N c s) : ∃ c' s', g_valid_checker_inner (k + 3) c L res lab = some c' ∧ g_ref08_inner (k + 3) Γ.env s L res lab = some s' ∧ Sim Γ N c' s' := by
  rcases h with ⟨l, aw, dd, mo, h1, h2, rfl, rfl⟩ | ⟨h1, h2⟩
  · have gl : Gd Γ (l.map fk).length := g.mono (by rw [List.length_map]; omega)
    have gs : Gd (Γ.sub (l.map fk) aw dd lab) L.length := by
      have : Gd Γ ((l.map fk).length + L.length) := g.mono (by rw [List.length_map]; omega)
      exact this.sub (N := 0) hf hl
    have hu : ((Γ.sub (l.map fk) aw dd lab).un.length : Int) = (Γ.un.length : Int) + (l.length : Int) := by simp [Ctx.sub]
    have hw : wI ((Γ.un.length : Int) + (l.length : Int)) = ((Γ.sub (l.map fk) aw dd lab).un.length : Int) := by
      have := g.un
      rw [hu, wI_small (by omega) (by omega)]
    rw [inner_eq gl, rinner_eq (by omega), hw]
    have s0 : Sim (Γ.sub (l.map fk) aw dd lab) 0 (CC (Γ.sub (l.map fk) aw dd lab) [] false (aw || dd) mo false) (St8.mk [] ((Γ.sub (l.map fk) aw dd lab).un.length : Int) false (aw || dd) mo true) :=
      .inl ⟨[], false, aw || dd, mo, (fun x hx => by cases hx), Nat.le_refl 0, rfl, rfl⟩
    obtain ⟨c1, s1, e1, e2, h3⟩ := ih (l.map fk) aw dd _ _ (by rw [List.length_map]; exact h2) s0
    have e2' : g_ref08_list (k + 2) (Env8.mk Γ.m Γ.t.result Γ.ls (Γ.lb ++ [lab])) (St8.mk [] ((Γ.sub (l.map fk) aw dd lab).un.length : Int) false (aw || dd) mo true) L = some s1 := e2
    rw [e1, e2', Option.bind_some, Option.bind_some]
    obtain ⟨v, c2, v', s2, e3, e4, h4, _⟩ := sim_take gs h3 (Vk.of3 hr)
    rw [e4, Option.bind_some]
    rcases h3 with ⟨l2, aw2, dd2, mo2, k1, k2, rfl, rfl⟩ | ⟨⟨l2, aw2, dd2, mo2, k1, rfl⟩, k2⟩
    · have gl2 : Gd (Γ.sub (l.map fk) aw dd lab) (l2.map fk).length := gs.mono (by rw [List.length_map]; omega)
      rw [take_CC _ _ _ _ _ _ _ gl2] at e3
      obtain ⟨_, rfl⟩ := Prod.mk.inj (Option.some.inj e3)
      rw [rtake_eq _ _ _ _ _ _ _ (by have := gs.un; omega)] at e4
      obtain ⟨rfl, _⟩ := Prod.mk.inj (Option.some.inj e4)
      rw [pop_CC (N := 0) gl gl2]
      refine ⟨_, _, rfl, rfl, ?_⟩
      have hb := h4.bad
      have hb' : tB (l2.map fk) aw2 false res = !rB l2 aw2 true res := hb
      have hlen : (tL (l2.map fk) res).length = (tL l2 res).length := by
        unfold tL; split
        · rw [List.length_map]
        · rw [List.length_dropLast, List.length_dropLast, List.length_map]
      rw [hb', hlen]
      show Sim Γ N _ (St8.mk l (Γ.un.length : Int) aw dd mo2 (rB l2 aw2 true res && decide ((tL l2 res).length = 0)))
      cases hB : rB l2 aw2 true res with
      | false => exact .inr ⟨⟨l.map fk, aw, dd, mo2, by rw [List.length_map]; exact h2, rfl⟩, rfl, h2⟩
      | true =>
        by_cases h0 : (tL l2 res).length = 0
        · rw [decide_eq_true h0, decide_eq_false (by simpa using h0)]
          exact .inl ⟨l, aw, dd, mo2, h1, h2, rfl, rfl⟩
        · rw [decide_eq_false h0, decide_eq_true (by simpa using h0)]
          exact .inr ⟨⟨l.map fk, aw, dd, mo2, by rw [List.length_map]; exact h2, rfl⟩, rfl, h2⟩
    · rw [pop_CC (N := 0) gl (gs.mono k1)]
      refine ⟨_, _, rfl, rfl, ?_⟩
      have hT : tB l2 aw2 true res = true := by
        unfold tB; split
        · rfl
        · split <;> rfl
      have hR : s2.ok = false := by
        obtain ⟨v3, s3, e5, h5⟩ := rtakeB (by have := gs.un; omega) k2 res
        rw [e5] at e4
        obtain ⟨rfl, _⟩ := Prod.mk.inj (Option.some.inj e4)
        exact h5.1
      rw [hT, Bool.true_or]
      refine .inr ⟨⟨l.map fk, aw, dd, mo2, by rw [List.length_map]; exact h2, rfl⟩, ?_, h2⟩
      show (s2.ok && _) = false
      rw [hR]; rfl
  · obtain ⟨c', e, hb⟩ := innerB (k := k) (g.mono (by omega)) hf hl h1 L res lab
    obtain ⟨s', e', hb'⟩ := rinnerB (Γ := Γ) (k := k) (by omega) h2 L res lab
    exact ⟨c', s', e, e', .inr ⟨hb, hb'⟩⟩
end Go.Proofs.YtablleokoifolaaGreatDoor

/- The two tables of instructions agree. -/
set_option linter.unusedVariables false
set_option linter.unusedSimpArgs false
set_option maxRecDepth 100000
namespace Go.Proofs.YtablleokoifolaaGreatDoor
open Go

/-- The instructions' tables agree at one operation. -/
def opOk (i : Int) : Bool :=
  match g_ops_Sign i, g_ref04_Sign i, g_ops_Form i, g_ref04_Form i, g_ops_Bytes i, g_ref04_Bytes i with
  | some (t, e), some (p, r, is), some (f, fe), some (f', _), some (n, _, be), some (n', _, bs) =>
    (e.isNone == is) && (!is || ((t.params == p) && (t.result == r) && fe.isNone && (f == f') && (n == n') && (be.isNone == bs) && decide (0 ≤ n ∧ n ≤ 8) && p.all (fun x => x == 126 || x == 127) && (r == 0 || r == 126 || r == 127) && decide (p.length < 10))) && (!(decide (i < 26) && decide (4 < i) && !(decide (12 ≤ i) && decide (i ≤ 17))) || !is)
  | _, _, _, _, _, _ => false
theorem allOps : (List.range 256).all (fun i => opOk (i : Int)) = true := by kernel_rfl
theorem op_ok (i : Int) (h0 : 0 ≤ i) (h1 : i < 256) : opOk i = true := by
  have := List.all_eq_true.1 allOps i.toNat (List.mem_range.2 (by omega))
  have e : ((i.toNat : Nat) : Int) = i := by omega
  rw [e] at this
  exact this

/-- What both tables say. -/
structure OpS (i : Int) (t : Typ) (is : Bool) (f n : Int) (bs : Bool) : Prop where
  sg : ∃ e, g_ops_Sign i = some (t, e) ∧ e.isNone = is
  rsg : ∃ p r, g_ref04_Sign i = some (p, r, is) ∧ (is = true → p = t.params ∧ r = t.result)
  fo : ∃ f' fe, g_ops_Form i = some (f', fe) ∧ (is = true → f' = f ∧ fe.isNone = true)
  rfo : ∃ fe, g_ref04_Form i = some (f, fe)
  by_ : ∃ n' sg be, g_ops_Bytes i = some (n', sg, be) ∧ (is = true → n' = n ∧ be.isNone = bs)
  rby : ∃ sg, g_ref04_Bytes i = some (n, sg, bs)
  tok : is = true → TOk 10 t ∧ 0 ≤ n ∧ n ≤ 8
  low : i < 26 → 4 < i → ¬ (12 ≤ i ∧ i ≤ 17) → is = false

theorem op_said (i : Int) (h0 : 0 ≤ i) (h1 : i < 256) : ∃ t is f n bs, OpS i t is f n bs := by
  have h := op_ok i h0 h1
  unfold opOk at h
  split at h
  · rename_i t e p r is f fe f' fe' n sg be n' sg' bs q1 q2 q3 q4 q5 q6
    simp only [Bool.and_eq_true, Bool.or_eq_true, beq_iff_eq, decide_eq_true_eq, Bool.not_eq_true', Bool.and_eq_false_iff, decide_eq_false_iff_not, List.all_eq_true, Bool.not_eq_false'] at h
    obtain ⟨⟨a1, a2⟩, a3⟩ := h
    refine ⟨t, is, f', n', bs, ⟨e, q1, a1⟩, ⟨p, r, q2, fun hi => ?_⟩, ⟨f, fe, q3, fun hi => ?_⟩, ⟨fe', q4⟩, ⟨n, sg, be, q5, fun hi => ?_⟩, ⟨sg', q6⟩, fun hi => ?_, fun i1 i2 i3 => ?_⟩
    · rcases a2 with a2 | a2
      · rw [hi] at a2; cases a2
      · exact ⟨a2.1.1.1.1.1.1.1.1.1.symm, a2.1.1.1.1.1.1.1.1.2.symm⟩
    · rcases a2 with a2 | a2
      · rw [hi] at a2; cases a2
      · exact ⟨a2.1.1.1.1.1.1.2, a2.1.1.1.1.1.1.1.2⟩
    · rcases a2 with a2 | a2
      · rw [hi] at a2; cases a2
      · exact ⟨a2.1.1.1.1.1.2, a2.1.1.1.1.2⟩
    · rcases a2 with a2 | a2
      · rw [hi] at a2; cases a2
      · obtain ⟨⟨⟨⟨⟨⟨⟨⟨⟨b1, b2⟩, b3⟩, b4⟩, b5⟩, b6⟩, b7⟩, b8⟩, b9⟩, b10⟩ := a2
        refine ⟨⟨fun x hx => ?_, ?_, by rw [b1]; exact b10⟩, by omega, by omega⟩
        · rw [b1] at hx; exact b8 x hx
        · rw [b2]; rcases b9 with (h | h) | h
          · exact .inl h
          · exact .inr (.inl h)
          · exact .inr (.inr h)
    · rcases a3 with a3 | a3
      · exfalso
        rcases a3 with (h | h) | h
        · omega
        · omega
        · exact i3 h
      · exact a3
  · cases h

end Go.Proofs.YtablleokoifolaaGreatDoor

/- Two checkers of bodies: instruction by instruction. -/
set_option linter.unusedVariables false
set_option linter.unusedSimpArgs false
set_option maxRecDepth 100000
namespace Go.Proofs.YtablleokoifolaaGreatDoor
open Go

/-- What is asked of a place. -/
structure COk (Γ : Ctx) (P : Nat) : Prop where
  typ : ∀ t ∈ Γ.m.types, TOk P t
  glo : ∀ g ∈ Γ.m.globals, K2 g.kind
  ls : ∀ x ∈ Γ.ls, K2 x
  lb : ∀ x ∈ Γ.lb, K3 x
  res : K3 Γ.t.result
  P0 : P < 1000000000
  P1 : 10 ≤ P

theorem COk.sub {Γ : Ctx} {P : Nat} (h : COk Γ P) (l : List Int) (aw dd : Bool) {lab : Int} (hl : K3 lab) : COk (Γ.sub l aw dd lab) P :=
  ⟨h.typ, h.glo, h.ls, fun x hx => by
    rcases List.mem_append.1 hx with hx | hx
    · exact h.lb x hx
    · obtain rfl : x = lab := by simpa using hx
      exact hl, h.res, h.P0, h.P1⟩

theorem setB_false (c : Checker) : setB c false = c := by cases c; simp [setB]
theorem setB_setB (c : Checker) (a b : Bool) : setB (setB c a) b = setB c (a || b) := by cases c; simp [setB, Bool.or_assoc]
theorem setB_true (c : Checker) : setB c true = Checker.mk c.m c.t c.locals c.stack c.frames c.labels c.most true := by cases c; simp [setB]
theorem setO_false (s : St8) : setO s false = St8.mk s.l s.under s.away s.dead s.most false := by cases s; simp [setO]
theorem ask_if (c : Checker) (b : Bool) : (if c.bad = true then some (Checker.mk c.m c.t c.locals c.stack c.frames c.labels c.most true) else some (Checker.mk c.m c.t c.locals c.stack c.frames c.labels c.most b)) = some (setB c b) := by
  cases c with
  | mk a1 a2 a3 a4 a5 a6 a7 bd => cases bd <;> rfl
theorem ask_ro (s : St8) (b : Bool) (f : Bool → Option St8) : (if s.ok = true then some b else some false).bind f = f (s.ok && b) := by
  cases s.ok <;> rfl
theorem bif_some {c : Prop} [Decidable c] {α β : Type} (a b : α) (f : α → Option β) : (if c then some a else some b).bind f = f (if c then a else b) := by split <;> rfl

def inb (n : Int) (k : Nat) : Prop := 0 ≤ n ∧ n < (k : Int)
instance (n : Int) (k : Nat) : Decidable (inb n k) := by unfold inb; infer_instance

theorem gdI {α : Type} {n : Int} {k : Nat} {e : Option α} (h : inb n k) : gd (0 ≤ n ∧ n < (k : Int)) e = e := gd_of h
theorem local_eq (c : Checker) (n : Int) : g_valid_checker_local c n = some (if inb n c.locals.length then c.locals.getD n.toNat default else 1, setB c (!decide (inb n c.locals.length))) := by
  unfold g_valid_checker_local
  by_cases h : inb n c.locals.length
  · rw [if_pos h, decide_eq_true h, if_neg (by unfold inb at h; simp; omega), gdI h, Bool.not_true, setB_false]
  · rw [if_neg h, decide_eq_false h, if_pos (by unfold inb at h; simp; omega), Bool.not_false, setB_true]
def gl0 : Glo := Glo.mk 1 true (Instr.mk 0 0 0 0 0 [] [] [])
theorem global_eq (c : Checker) (n : Int) : g_valid_checker_global c n = some (if inb n c.m.globals.length then c.m.globals.getD n.toNat default else gl0, setB c (!decide (inb n c.m.globals.length))) := by
  unfold g_valid_checker_global
  by_cases h : inb n c.m.globals.length
  · rw [if_pos h, decide_eq_true h, if_neg (by unfold inb at h; simp; omega), gdI h, Bool.not_true, setB_false]
  · rw [if_neg h, decide_eq_false h, if_pos (by unfold inb at h; simp; omega), Bool.not_false, setB_true]; rfl
def ty0 : Typ := Typ.mk [] 0
theorem typ_eq (c : Checker) (n : Int) : g_valid_checker_typ c n = some (if inb n c.m.types.length then c.m.types.getD n.toNat default else ty0, setB c (!decide (inb n c.m.types.length))) := by
  unfold g_valid_checker_typ
  by_cases h : inb n c.m.types.length
  · rw [if_pos h, decide_eq_true h, if_neg (by unfold inb at h; simp; omega), gdI h, Bool.not_true, setB_false]
  · rw [if_neg h, decide_eq_false h, if_pos (by unfold inb at h; simp; omega), Bool.not_false, setB_true]; rfl
theorem at_eq (n : Int) (k : Nat) : g_ref08_at n (k : Int) = some (decide (inb n k)) := by
  unfold g_ref08_at inb
  by_cases h1 : 0 ≤ n <;> by_cases h2 : n < (k : Int) <;> simp [h1, h2]

theorem getD_memI {α : Type} [Inhabited α] {l : List α} {n : Int} (h : inb n l.length) : l.getD n.toNat default ∈ l := by
  have := getD_mem l n.toNat (by unfold inb at h; omega)
  have e : ((n.toNat : Nat) : Int) = n := by unfold inb at h; omega
  rw [e] at this
  exact this

theorem lbK {lb : List Int} (h : ∀ x ∈ lb, K3 x) (n : Int) : K3 (lbV lb n) := by
  unfold lbV
  split
  · rename_i hh
    exact h _ (getD_memI (by unfold inb; omega))
  · exact .inl rfl

theorem Sim.rl {Γ : Ctx} {N : Nat} {c : Checker} {s : St8} (h : Sim Γ N c s) : s.l.length ≤ N := by
  rcases h with ⟨l, aw, dd, mo, h1, h2, rfl, rfl⟩ | ⟨_, h⟩
  · exact h2
  · exact h.2
theorem Sim.badR {Γ : Ctx} {N : Nat} {c : Checker} {s : St8} (h : Sim Γ N c s) : BadR N (St8.mk s.l s.under s.away s.dead s.most false) := ⟨rfl, h.rl⟩
theorem Sim.badV {Γ : Ctx} {N : Nat} {c : Checker} {s : St8} (h : Sim Γ N c s) : BadV Γ N (setB c true) := h.toBad.1
theorem Sim.fld {Γ : Ctx} {N : Nat} {c : Checker} {s : St8} (h : Sim Γ N c s) : c.m = Γ.m ∧ c.t = Γ.t ∧ c.locals = Γ.ls := by
  rcases h with ⟨l, aw, dd, mo, h1, h2, rfl, rfl⟩ | ⟨⟨l, aw, dd, mo, h1, rfl⟩, _⟩ <;> exact ⟨rfl, rfl, rfl⟩
theorem BadV.fld {Γ : Ctx} {N : Nat} {c : Checker} (h : BadV Γ N c) : c.m = Γ.m ∧ c.t = Γ.t ∧ c.locals = Γ.ls := by
  obtain ⟨l, aw, dd, mo, h1, rfl⟩ := h; exact ⟨rfl, rfl, rfl⟩

/-- What a step says: both answer, and the answers are tied. -/
def StB (Γ : Ctx) (N : Nat) (a : Option Checker) (b : Option St8) : Prop := ∃ c' s', a = some c' ∧ b = some s' ∧ Sim Γ N c' s'
theorem StB.ofB {Γ : Ctx} {N : Nat} {a : Option Checker} {b : Option St8} (h1 : ∃ c', a = some c' ∧ BadV Γ N c') (h2 : ∃ s', b = some s' ∧ BadR N s') : StB Γ N a b := by
  obtain ⟨c', e1, h1⟩ := h1
  obtain ⟨s', e2, h2⟩ := h2
  exact ⟨c', s', e1, e2, .inr ⟨h1, h2⟩⟩

theorem st_variable {Γ : Ctx} {N P : Nat} {c : Checker} {s : St8} (g : Gd Γ N) (o : COk Γ P) (h : Sim Γ N c s) (hk : s.ok = true) (x : Instr) (h1 : 32 ≤ x.op) (h2 : x.op ≤ 36) :
    StB Γ (N + 1) (g_valid_checker_simple c x) (g_ref08_variable Γ.env s x) := by
  obtain ⟨op, n, al, of_, res, body, els, labels⟩ := x
  have f := h.fld
  have hop : op = 32 ∨ op = 33 ∨ op = 34 ∨ op = 35 ∨ op = 36 := by simp only [Instr.op] at h1 h2; omega
  obtain ⟨sl, su, sa, sd, sm, so⟩ := s
  obtain rfl : so = true := hk
  rcases hop with rfl | rfl | rfl | rfl | rfl
  · have e1 : g_valid_checker_simple c (Instr.mk 32 n al of_ res body els labels) = (g_valid_checker_local c n).bind fun x11 => (g_valid_checker_lay x11.2 x11.1).bind fun x13 => some x13 := rfl
    have e2 : g_ref08_variable Γ.env (St8.mk sl su sa sd sm true) (Instr.mk 32 n al of_ res body els labels) = (g_ref08_at n (Γ.ls.length : Int)).bind fun x2 => if (!x2) = true then some (St8.mk sl su sa sd sm false) else (gd (0 ≤ n ∧ n < (Γ.ls.length : Int)) (some (Γ.ls.getD n.toNat default, true))).bind fun | (j4, j5) => ((g_ref08_lay (St8.mk sl su sa sd sm j5) j4).bind fun x8 => some x8).bind fun j7 => some j7 := by
      unfold g_ref08_variable
      simp only [Instr.op, Instr.n, Ctx.env]
      rfl
    rw [e1, e2, local_eq, Option.bind_some, at_eq, Option.bind_some, f.2.2]
    by_cases hi : inb n Γ.ls.length
    · rw [if_pos hi, decide_eq_true hi, if_neg (by decide), gdI hi, Option.bind_some, Bool.not_true, setB_false]
      obtain ⟨c', s', e3, e4, h'⟩ := sim_lay g h (Vk.of2 (o.ls _ (getD_memI hi)))
      exact ⟨c', s', by rw [e3]; rfl, by show (((g_ref08_lay _ _).bind _).bind _) = _; rw [e4]; rfl, h'⟩
    · rw [if_neg hi, decide_eq_false hi, if_pos (by decide), Bool.not_false]
      refine StB.ofB ?_ ⟨_, rfl, h.badR.mono (by omega)⟩
      obtain ⟨c', e, hb⟩ := layB g h.badV 1
      exact ⟨c', by rw [e]; rfl, hb⟩
  · have e1 : g_valid_checker_simple c (Instr.mk 33 n al of_ res body els labels) = (g_valid_checker_local c n).bind fun x11 => (g_valid_checker_take x11.2 x11.1).bind fun x13 => some x13.2 := rfl
    have e2 : g_ref08_variable Γ.env (St8.mk sl su sa sd sm true) (Instr.mk 33 n al of_ res body els labels) = (g_ref08_at n (Γ.ls.length : Int)).bind fun x2 => if (!x2) = true then some (St8.mk sl su sa sd sm false) else (gd (0 ≤ n ∧ n < (Γ.ls.length : Int)) (some (Γ.ls.getD n.toNat default, true))).bind fun | (j4, j5) => ((g_ref08_take (St8.mk sl su sa sd sm j5) j4).bind fun x13 => some x13.1).bind fun j6 => some j6 := by
      unfold g_ref08_variable
      simp only [Instr.op, Instr.n, Ctx.env]
      rfl
    rw [e1, e2, local_eq, Option.bind_some, at_eq, Option.bind_some, f.2.2]
    by_cases hi : inb n Γ.ls.length
    · rw [if_pos hi, decide_eq_true hi, if_neg (by decide), gdI hi, Option.bind_some, Bool.not_true, setB_false]
      obtain ⟨v, c', v', s', e3, e4, h', _⟩ := sim_take g h (Vk.of2 (o.ls _ (getD_memI hi)))
      exact ⟨c', s', by rw [e3]; rfl, by show (((g_ref08_take _ _).bind _).bind _) = _; rw [e4]; rfl, h'.mono (by omega)⟩
    · rw [if_neg hi, decide_eq_false hi, if_pos (by decide), Bool.not_false]
      refine StB.ofB ?_ ⟨_, rfl, h.badR.mono (by omega)⟩
      obtain ⟨v, c', e, hb⟩ := takeB g h.badV 1
      exact ⟨c', by rw [e]; rfl, hb.mono (by omega)⟩
  · have e1 : g_valid_checker_simple c (Instr.mk 34 n al of_ res body els labels) = (g_valid_checker_local c n).bind fun x19 => (g_valid_checker_take x19.2 x19.1).bind fun x21 => (g_valid_checker_lay x21.2 x19.1).bind fun x23 => some x23 := rfl
    have e2 : g_ref08_variable Γ.env (St8.mk sl su sa sd sm true) (Instr.mk 34 n al of_ res body els labels) = (g_ref08_at n (Γ.ls.length : Int)).bind fun x2 => if (!x2) = true then some (St8.mk sl su sa sd sm false) else (gd (0 ≤ n ∧ n < (Γ.ls.length : Int)) (some (Γ.ls.getD n.toNat default, true))).bind fun | (j4, j5) => ((g_ref08_take (St8.mk sl su sa sd sm j5) j4).bind fun x13 => some x13.1).bind fun j6 => ((g_ref08_lay j6 j4).bind fun x8 => some x8).bind fun j7 => some j7 := by
      unfold g_ref08_variable
      simp only [Instr.op, Instr.n, Ctx.env]
      rfl
    rw [e1, e2, local_eq, Option.bind_some, at_eq, Option.bind_some, f.2.2]
    by_cases hi : inb n Γ.ls.length
    · rw [if_pos hi, decide_eq_true hi, if_neg (by decide), gdI hi, Option.bind_some, Bool.not_true, setB_false]
      obtain ⟨v, c', v', s', e3, e4, h', _⟩ := sim_take g h (Vk.of2 (o.ls _ (getD_memI hi)))
      obtain ⟨c2, s2, e5, e6, h2⟩ := sim_lay g h' (Vk.of2 (o.ls _ (getD_memI hi)))
      refine ⟨c2, s2, ?_, ?_, h2⟩
      · rw [e3, Option.bind_some, e5]; rfl
      · show (((g_ref08_take _ _).bind _).bind _) = _
        rw [e4, Option.bind_some, Option.bind_some, e6]; rfl
    · rw [if_neg hi, decide_eq_false hi, if_pos (by decide), Bool.not_false]
      refine StB.ofB ?_ ⟨_, rfl, h.badR.mono (by omega)⟩
      obtain ⟨v, c', e, hb⟩ := takeB g h.badV 1
      obtain ⟨c2, e', hb'⟩ := layB g hb 1
      exact ⟨c2, by rw [e, Option.bind_some, e']; rfl, hb'⟩
  · have e1 : g_valid_checker_simple c (Instr.mk 35 n al of_ res body els labels) = (g_valid_checker_global c n).bind fun x11 => (g_valid_checker_lay x11.2 x11.1.kind).bind fun x13 => some x13 := rfl
    have e2 : g_ref08_variable Γ.env (St8.mk sl su sa sd sm true) (Instr.mk 35 n al of_ res body els labels) = (g_ref08_at n (Γ.m.globals.length : Int)).bind fun x2 => if (!x2) = true then some (St8.mk sl su sa sd sm false) else (gd (0 ≤ n ∧ n < (Γ.m.globals.length : Int)) (some ((Γ.m.globals.getD n.toNat default).kind, true))).bind fun | (j4, j5) => ((g_ref08_lay (St8.mk sl su sa sd sm j5) j4).bind fun x8 => some x8).bind fun j7 => some j7 := by
      unfold g_ref08_variable
      simp only [Instr.op, Instr.n, Ctx.env]
      rfl
    rw [e1, e2, global_eq, Option.bind_some, at_eq, Option.bind_some, f.1]
    by_cases hi : inb n Γ.m.globals.length
    · rw [if_pos hi, decide_eq_true hi, if_neg (by decide), gdI hi, Option.bind_some, Bool.not_true, setB_false]
      obtain ⟨c', s', e3, e4, h'⟩ := sim_lay g h (Vk.of2 (o.glo _ (getD_memI hi)))
      exact ⟨c', s', by rw [e3]; rfl, by show (((g_ref08_lay _ _).bind _).bind _) = _; rw [e4]; rfl, h'⟩
    · rw [if_neg hi, decide_eq_false hi, if_pos (by decide), Bool.not_false]
      refine StB.ofB ?_ ⟨_, rfl, h.badR.mono (by omega)⟩
      obtain ⟨c', e, hb⟩ := layB g h.badV gl0.kind
      exact ⟨c', by rw [e]; rfl, hb⟩
  · have e1 : g_valid_checker_simple c (Instr.mk 36 n al of_ res body els labels) = (g_valid_checker_global c n).bind fun x29 => (g_valid_checker_take (setB x29.2 (!x29.1.mut_)) x29.1.kind).bind fun x32 => some x32.2 := by
      show ((g_valid_checker_global c n).bind fun x29 => ((if x29.2.bad = true then some (Checker.mk x29.2.m x29.2.t x29.2.locals x29.2.stack x29.2.frames x29.2.labels x29.2.most true) else some (Checker.mk x29.2.m x29.2.t x29.2.locals x29.2.stack x29.2.frames x29.2.labels x29.2.most (!x29.1.mut_)))).bind (fun j31 => ((g_valid_checker_take j31 x29.1.kind).bind fun x32 => some x32.2))) = _
      congr 1
      funext x29
      rw [ask_if, Option.bind_some]
    have e2 : g_ref08_variable Γ.env (St8.mk sl su sa sd sm true) (Instr.mk 36 n al of_ res body els labels) = (g_ref08_at n (Γ.m.globals.length : Int)).bind fun x2 => if (!x2) = true then some (St8.mk sl su sa sd sm false) else (gd (0 ≤ n ∧ n < (Γ.m.globals.length : Int)) ((gd (0 ≤ n ∧ n < (Γ.m.globals.length : Int)) (some (Γ.m.globals.getD n.toNat default).mut_)).bind fun j20 => some ((Γ.m.globals.getD n.toNat default).kind, j20))).bind fun | (j4, j5) => ((g_ref08_take (St8.mk sl su sa sd sm j5) j4).bind fun x13 => some x13.1).bind fun j6 => some j6 := by
      unfold g_ref08_variable
      simp only [Instr.op, Instr.n, Ctx.env]
      rfl
    rw [e1, e2, global_eq, Option.bind_some, at_eq, Option.bind_some, f.1]
    by_cases hi : inb n Γ.m.globals.length
    · rw [if_pos hi, decide_eq_true hi, if_neg (by decide), gdI hi, gdI hi, Option.bind_some, Option.bind_some, Bool.not_true, setB_false]
      have ha := sim_ask h (!(Γ.m.globals.getD n.toNat default).mut_)
      obtain ⟨v, c', v', s', e3, e4, h', _⟩ := sim_take g ha (Vk.of2 (o.glo _ (getD_memI hi)))
      refine ⟨c', s', by rw [e3]; rfl, ?_, h'.mono (by omega)⟩
      rw [Bool.not_not] at e4
      show (((g_ref08_take (setO (St8.mk sl su sa sd sm true) (Γ.m.globals.getD n.toNat default).mut_) _).bind _).bind _) = _
      rw [e4]; rfl
    · rw [if_neg hi, decide_eq_false hi, if_pos (by decide), Bool.not_false]
      refine StB.ofB ?_ ⟨_, rfl, h.badR.mono (by omega)⟩
      obtain ⟨v, c', e, hb⟩ := takeB g (askB h.badV (!gl0.mut_)) gl0.kind
      exact ⟨c', by rw [e]; rfl, hb.mono (by omega)⟩

theorem st_calls {Γ : Ctx} {N P K : Nat} {c : Checker} {s : St8} (g : Gd Γ N) (o : COk Γ P) (h : Sim Γ N c s) (hk : s.ok = true) (hK : P < K) (x : Instr) (k : Nat) :
    (x.op = 16 → StB Γ (N + 1) (g_valid_checker_control (k + 1) c x) (g_ref08_calls K Γ.env s x)) ∧ (x.op = 17 → StB Γ (N + 1) (g_valid_checker_control (k + 1) c x) (g_ref08_calls K Γ.env s x)) := by
  obtain ⟨op, n, al, of_, res, body, els, labels⟩ := x
  have f := h.fld
  have hty0 : TOk P ty0 := ⟨(fun p hp => by cases hp), .inl rfl, by have := o.P1; show 0 < P; omega⟩
  refine ⟨fun ho => ?_, fun ho => ?_⟩
  · obtain rfl : op = 16 := ho
    have e1 : g_valid_checker_control (k + 1) c (Instr.mk 16 n al of_ res body els labels) = (g_valid_checker_function c n).bind fun x51 => (g_valid_checker_call x51.2 x51.1).bind fun x53 => some x53 := by
      simp only [g_valid_checker_control]; rfl
    have e2 : g_ref08_calls K Γ.env s (Instr.mk 16 n al of_ res body els labels) = (g_ref08_at n (Γ.m.funcs.length : Int)).bind fun x1 => if (!x1) = true then some (St8.mk s.l s.under s.away s.dead s.most false) else gd (0 ≤ n ∧ n < (Γ.m.funcs.length : Int)) ((g_ref08_at (wI (Γ.m.funcs.getD n.toNat default).type_) (Γ.m.types.length : Int)).bind fun x4 => if (!x4) = true then some (St8.mk s.l s.under s.away s.dead s.most false) else gd (0 ≤ wI (Γ.m.funcs.getD n.toNat default).type_ ∧ wI (Γ.m.funcs.getD n.toNat default).type_ < (Γ.m.types.length : Int)) ((g_ref08_call K s (Γ.m.types.getD (wI (Γ.m.funcs.getD n.toNat default).type_).toNat default)).bind fun x7 => some x7)) := rfl
    rw [e1, e2, at_eq, Option.bind_some]
    have hB : ∀ c', BadV Γ N c' → ∀ t, TOk P t → ∃ c'', ((g_valid_checker_call c' t).bind fun x53 => some x53) = some c'' ∧ BadV Γ (N + 1) c'' := fun c' hb t ht => by
      obtain ⟨c'', e, hb'⟩ := callB g hb t (by have := ht.2.2; have := o.P0; omega)
      exact ⟨c'', by rw [e]; rfl, hb'⟩
    unfold g_valid_checker_function
    rw [f.1]
    by_cases hi : inb n Γ.m.funcs.length
    · have hi' := hi
      unfold inb at hi'
      rw [decide_eq_true hi, if_neg (by simp; omega), if_neg (by decide), gdI hi, gdI hi, typ_eq, at_eq, Option.bind_some, Option.bind_some, Option.bind_some, f.1]
      by_cases hj : inb (wI (Γ.m.funcs.getD n.toNat default).type_) Γ.m.types.length
      · rw [if_pos hj, decide_eq_true hj, if_neg (by decide), gdI hj, Bool.not_true, setB_false]
        obtain ⟨c', s', e3, e4, h'⟩ := sim_call g h (o.typ _ (getD_memI hj)) o.P0 hK
        exact ⟨c', s', by rw [e3]; rfl, by rw [e4]; rfl, h'⟩
      · rw [if_neg hj, decide_eq_false hj, if_pos (by decide), Bool.not_false]
        exact StB.ofB (hB _ h.badV _ hty0) ⟨_, rfl, h.badR.mono (by omega)⟩
    · have hi' : ¬ (0 ≤ n ∧ n < (Γ.m.funcs.length : Int)) := hi
      rw [decide_eq_false hi, if_pos (by simp; omega), if_pos (by decide), Option.bind_some, ← f.1]
      have := hB _ h.badV _ hty0
      rw [setB_true] at this
      exact StB.ofB this ⟨_, rfl, h.badR.mono (by omega)⟩
  · obtain rfl : op = 17 := ho
    have e1 : g_valid_checker_control (k + 1) c (Instr.mk 17 n al of_ res body els labels) = ((if c.bad = true then some (Checker.mk c.m c.t c.locals c.stack c.frames c.labels c.most true) else some (Checker.mk c.m c.t c.locals c.stack c.frames c.labels c.most ((c.m.tables.length : Int) == (0 : Int))))).bind (fun j55 => ((g_valid_checker_take j55 127).bind fun x56 => ((g_valid_checker_typ x56.2 n).bind fun x58 => ((g_valid_checker_call x58.2 x58.1).bind fun x60 => some x60)))) := by
      simp only [g_valid_checker_control]; rfl
    have e2 : g_ref08_calls K Γ.env s (Instr.mk 17 n al of_ res body els labels) = ((if s.ok = true then some (decide ((Γ.m.tables.length : Int) > (0 : Int))) else some false)).bind (fun j9 => ((g_ref08_take (St8.mk s.l s.under s.away s.dead s.most j9) 127).bind fun x10 => ((g_ref08_at n (Γ.m.types.length : Int)).bind fun x12 => (if (!x12) = true then some (St8.mk x10.1.l x10.1.under x10.1.away x10.1.dead x10.1.most false) else gd (0 ≤ n ∧ n < (Γ.m.types.length : Int)) (((g_ref08_call K x10.1 (Γ.m.types.getD n.toNat default)).bind fun x15 => some x15)))))) := rfl
    rw [e1, e2, ask_if, ask_ro, Option.bind_some, f.1]
    have et : ((Γ.m.tables.length : Int) == (0 : Int)) = !decide ((Γ.m.tables.length : Int) > (0 : Int)) := by
      by_cases h0 : Γ.m.tables.length = 0
      · rw [h0]; rfl
      · rw [decide_eq_true (by omega)]; simp; simpa using h0
    rw [et]
    have ha := sim_ask h (!decide ((Γ.m.tables.length : Int) > (0 : Int)))
    rw [Bool.not_not] at ha
    obtain ⟨v, c', v', s', e3, e4, h', _⟩ := sim_take g ha (Vk.of2 (x := 127) (.inr rfl))
    have e4' : g_ref08_take (St8.mk s.l s.under s.away s.dead s.most (s.ok && decide ((Γ.m.tables.length : Int) > (0 : Int)))) 127 = some (s', v') := e4
    have f' := h'.fld
    rw [e3, e4', Option.bind_some, Option.bind_some, typ_eq, at_eq, Option.bind_some, Option.bind_some]
    show StB Γ (N + 1) ((g_valid_checker_call (setB c' (!decide (inb n c'.m.types.length))) (if inb n c'.m.types.length then c'.m.types.getD n.toNat default else ty0)).bind fun x60 => some x60) _
    rw [f'.1]
    by_cases hj : inb n Γ.m.types.length
    · rw [if_pos hj, decide_eq_true hj, if_neg (by decide), gdI hj, Bool.not_true, setB_false]
      obtain ⟨c2, s2, e5, e6, h2⟩ := sim_call g h' (o.typ _ (getD_memI hj)) o.P0 hK
      exact ⟨c2, s2, by rw [e5]; rfl, by rw [e6]; rfl, h2⟩
    · rw [if_neg hj, decide_eq_false hj, if_pos (by decide), Bool.not_false]
      obtain ⟨c'', e, hb'⟩ := callB g h'.badV ty0 (by decide)
      exact StB.ofB ⟨c'', by rw [e]; rfl, hb'⟩ ⟨_, rfl, h'.badR.mono (by omega)⟩
end Go.Proofs.YtablleokoifolaaGreatDoor

/- Two checkers of bodies: branches, plain instructions. -/
set_option linter.unusedVariables false
set_option linter.unusedSimpArgs false
set_option maxRecDepth 100000
namespace Go.Proofs.YtablleokoifolaaGreatDoor
open Go

theorem rbr_l1 {k : Nat} {e : Env8} {x : Instr} (hx : (x.op == (14 : Int)) = false) (y : Int × Bool) (b : Bool) : g_ref08_branch_l1 (k + 1) e x y 0 b = some b := by
  simp only [g_ref08_branch_l1]
  rw [hx, Bool.false_and, if_neg (by decide)]

theorem st_br {Γ : Ctx} {N P K : Nat} {c : Checker} {s : St8} (g : Gd Γ N) (o : COk Γ P) (h : Sim Γ N c s) (x : Instr) (k : Nat) (hx : x.op = 12) :
    StB Γ (N + 1) (g_valid_checker_control (k + 1) c x) (g_ref08_branch (K + 1) Γ.env s x) := by
  obtain ⟨op, n, al, of_, res, body, els, labels⟩ := x
  obtain rfl : op = 12 := hx
  have e1 : g_valid_checker_control (k + 1) c (Instr.mk 12 n al of_ res body els labels) = (g_valid_checker_label c n).bind fun x31 => (g_valid_checker_take x31.2 x31.1).bind fun x33 => (g_valid_checker_leave x33.2).bind fun x35 => some x35 := by
    simp only [g_valid_checker_control]; rfl
  have e2 : g_ref08_branch (K + 1) Γ.env s (Instr.mk 12 n al of_ res body els labels) = (g_ref08_label Γ.env n).bind fun x28 => (g_ref08_branch_l1 (K + 1) Γ.env (Instr.mk 12 n al of_ res body els labels) x28 0 x28.2).bind (fun j30 => ((if s.ok = true then some j30 else some false)).bind (fun j31 => ((g_ref08_take (St8.mk s.l s.under s.away s.dead s.most j31) x28.1).bind fun x32 => ((g_ref08_away x32.1).bind fun x36 => some x36)))) := rfl
  obtain ⟨l1, l2, l3⟩ := sim_label g h o.lb n
  rw [e1, e2, l1, l2, Option.bind_some, Option.bind_some, rbr_l1 (by rfl), Option.bind_some, ask_ro]
  have ha := sim_ask h (!lbB Γ.lb n)
  rw [Bool.not_not] at ha
  obtain ⟨v, c', v', s', e3, e4, h', _⟩ := sim_take g ha (Vk.of3 (lbK o.lb n))
  have e4' : g_ref08_take (St8.mk s.l s.under s.away s.dead s.most (s.ok && lbB Γ.lb n)) (lbV Γ.lb n) = some (s', v') := e4
  rw [e3, e4', Option.bind_some, Option.bind_some]
  obtain ⟨c2, s2, e5, e6, h2⟩ := sim_leave g h'
  exact ⟨c2, s2, by rw [e5]; rfl, by rw [e6]; rfl, h2.mono (by omega)⟩

theorem st_brif {Γ : Ctx} {N P K : Nat} {c : Checker} {s : St8} (g : Gd Γ N) (o : COk Γ P) (h : Sim Γ N c s) (x : Instr) (k : Nat) (hx : x.op = 13) :
    StB Γ (N + 1) (g_valid_checker_control (k + 1) c x) (g_ref08_branch (K + 1) Γ.env s x) := by
  obtain ⟨op, n, al, of_, res, body, els, labels⟩ := x
  obtain rfl : op = 13 := hx
  have e1 : g_valid_checker_control (k + 1) c (Instr.mk 13 n al of_ res body els labels) = (g_valid_checker_take c 127).bind fun x37 => (g_valid_checker_label x37.2 n).bind fun x39 => (g_valid_checker_take x39.2 x39.1).bind fun x41 => (g_valid_checker_lay x41.2 x39.1).bind fun x43 => some x43 := by
    simp only [g_valid_checker_control]; rfl
  have e2 : g_ref08_branch (K + 1) Γ.env s (Instr.mk 13 n al of_ res body els labels) = ((g_ref08_take s 127).bind fun x52 => some x52.1).bind fun j1 => (g_ref08_label Γ.env n).bind fun x28 => (g_ref08_branch_l1 (K + 1) Γ.env (Instr.mk 13 n al of_ res body els labels) x28 0 x28.2).bind (fun j30 => ((if j1.ok = true then some j30 else some false)).bind (fun j31 => ((g_ref08_take (St8.mk j1.l j1.under j1.away j1.dead j1.most j31) x28.1).bind fun x32 => ((g_ref08_lay x32.1 x28.1).bind fun x34 => some x34)))) := rfl
  obtain ⟨v, c1, v', s1, e3, e4, h1, _⟩ := sim_take g h (Vk.of2 (x := 127) (.inr rfl))
  obtain ⟨l1, l2, l3⟩ := sim_label g h1 o.lb n
  rw [e1, e2, e3, e4, Option.bind_some, Option.bind_some, Option.bind_some, l1, l2, Option.bind_some, Option.bind_some, rbr_l1 (by rfl), Option.bind_some, ask_ro]
  have ha := sim_ask h1 (!lbB Γ.lb n)
  rw [Bool.not_not] at ha
  obtain ⟨v2, c2, v2', s2, e5, e6, h2, _⟩ := sim_take g ha (Vk.of3 (lbK o.lb n))
  have e6' : g_ref08_take (St8.mk s1.l s1.under s1.away s1.dead s1.most (s1.ok && lbB Γ.lb n)) (lbV Γ.lb n) = some (s2, v2') := e6
  rw [e5, e6', Option.bind_some, Option.bind_some]
  obtain ⟨c3, s3, e7, e8, h3⟩ := sim_lay g h2 (Vk.of3 (lbK o.lb n))
  exact ⟨c3, s3, by rw [e7]; rfl, by rw [e8]; rfl, h3⟩

theorem table_loop {Γ : Ctx} {N : Nat} {c : Checker} {s : St8} (g : Gd Γ N) (h : Sim Γ N c s) (hl : ∀ x ∈ Γ.lb, K3 x) (x : Instr) (hx : x.op = 14) (hs : x.labels.length < 1000) (v : Int) (c0 : Checker) (b0 : Bool) : ∀ (k K i : Nat) (b : Bool), i ≤ x.labels.length → x.labels.length - i < k → x.labels.length - i < K →
    ∃ b', g_valid_checker_table_l0 k x (v, c0) (setB c (!b)) (i : Int) = some (setB c (!b')) ∧ g_ref08_branch_l0 K Γ.env x (v, b0) (i : Int) b = some b' := by
  intro k
  induction k with
  | zero => intro K i b _ h; omega
  | succ k ih =>
    intro K i b hi h1 h2
    cases K with
    | zero => omega
    | succ K =>
      simp only [g_valid_checker_table_l0, g_ref08_branch_l0]
      have ho : (x.op == (14 : Int)) = true := by rw [hx]; rfl
      by_cases hlt : i < x.labels.length
      · have ha := sim_ask h (!b)
        obtain ⟨l1, l2, l3⟩ := sim_label g ha hl (wI (x.labels.getD ((i : Int)).toNat default))
        rw [if_pos (dltT hlt), if_pos (by rw [ho, dltT hlt]; rfl), gd_of (by omega), gd_of (by omega), l1, l2, Option.bind_some, Option.bind_some, wI_nat i (by omega)]
        have e : (if (lbV Γ.lb (wI (x.labels.getD ((i : Int)).toNat default)) != v) = true then some (Checker.mk (setB (setB c (!b)) (!lbB Γ.lb (wI (x.labels.getD ((i : Int)).toNat default)))).m (setB (setB c (!b)) (!lbB Γ.lb (wI (x.labels.getD ((i : Int)).toNat default)))).t (setB (setB c (!b)) (!lbB Γ.lb (wI (x.labels.getD ((i : Int)).toNat default)))).locals (setB (setB c (!b)) (!lbB Γ.lb (wI (x.labels.getD ((i : Int)).toNat default)))).stack (setB (setB c (!b)) (!lbB Γ.lb (wI (x.labels.getD ((i : Int)).toNat default)))).frames (setB (setB c (!b)) (!lbB Γ.lb (wI (x.labels.getD ((i : Int)).toNat default)))).labels (setB (setB c (!b)) (!lbB Γ.lb (wI (x.labels.getD ((i : Int)).toNat default)))).most true) else some (setB (setB c (!b)) (!lbB Γ.lb (wI (x.labels.getD ((i : Int)).toNat default))))) = some (setB c (!(b && (lbB Γ.lb (wI (x.labels.getD ((i : Int)).toNat default)) && (lbV Γ.lb (wI (x.labels.getD ((i : Int)).toNat default)) == v))))) := by
          by_cases hv : lbV Γ.lb (wI (x.labels.getD ((i : Int)).toNat default)) = v
          · rw [if_neg (by simpa using hv), setB_setB]
            have : (lbV Γ.lb (wI (x.labels.getD ((i : Int)).toNat default)) == v) = true := by simpa using hv
            rw [this]
            cases b <;> cases lbB Γ.lb (wI (x.labels.getD ((i : Int)).toNat default)) <;> rfl
          · rw [if_pos (by simpa using hv), ← setB_true, setB_setB, setB_setB]
            have : (lbV Γ.lb (wI (x.labels.getD ((i : Int)).toNat default)) == v) = false := by simpa using hv
            rw [this]
            cases b <;> cases lbB Γ.lb (wI (x.labels.getD ((i : Int)).toNat default)) <;> rfl
        refine (ih K (i + 1) _ (by omega) (by omega) (by omega)).imp fun b' hb => ⟨?_, hb.2⟩
        refine Eq.trans ?_ hb.1
        exact congrArg (fun o => Option.bind o _) e
      · rw [if_neg (dltF hlt), if_neg (by rw [ho, Bool.true_and]; exact dltF hlt)]
        exact ⟨b, rfl, rfl⟩

theorem st_table {Γ : Ctx} {N P K : Nat} {c : Checker} {s : St8} (g : Gd Γ N) (o : COk Γ P) (h : Sim Γ N c s) (x : Instr) (k : Nat) (hx : x.op = 14) (hk : 300 < k) (hK : 300 < K) :
    StB Γ (N + 1) (g_valid_checker_control (k + 1) c x) (g_ref08_branch K Γ.env s x) := by
  have e1 : g_valid_checker_control (k + 1) c x = (g_valid_checker_table k c x).bind fun x45 => some x45 := by
    obtain ⟨op, n, al, of_, res, body, els, labels⟩ := x
    obtain rfl : op = 14 := hx
    simp only [g_valid_checker_control]; rfl
  have e2 : g_ref08_branch K Γ.env s x = ((g_ref08_take s 127).bind fun x52 => some x52.1).bind fun j1 => (if (((x.labels.length : Int) == (0 : Int)) || (decide ((x.labels.length : Int) > (257 : Int)))) = true then some (St8.mk j1.l j1.under j1.away j1.dead j1.most false) else gd (0 ≤ (wI ((x.labels.length : Int) - 1)) ∧ (wI ((x.labels.length : Int) - 1)) < (x.labels.length : Int)) (((g_ref08_label Γ.env (wI (x.labels.getD (wI ((x.labels.length : Int) - 1)).toNat default))).bind fun x3 => (g_ref08_branch_l0 K Γ.env x x3 0 x3.2).bind (fun j5 => ((if j1.ok = true then some j5 else some false)).bind (fun j6 => ((g_ref08_take (St8.mk j1.l j1.under j1.away j1.dead j1.most j6) x3.1).bind fun x7 => ((g_ref08_away x7.1).bind fun x11 => some x11))))))) := by
    obtain ⟨op, n, al, of_, res, body, els, labels⟩ := x
    obtain rfl : op = 14 := hx
    rfl
  obtain ⟨v, c1, v', s1, e3, e4, h1, _⟩ := sim_take g h (Vk.of2 (x := 127) (.inr rfl))
  rw [e1, e2, e4, Option.bind_some, Option.bind_some]
  unfold g_valid_checker_table
  rw [e3, Option.bind_some]
  by_cases hn : (((x.labels.length : Int) == (0 : Int)) || (decide ((x.labels.length : Int) > (257 : Int)))) = true
  · rw [if_pos hn, if_pos hn]
    have hb := h1.badV
    rw [setB_true] at hb
    exact StB.ofB ⟨_, rfl, hb.mono (by omega)⟩ ⟨_, rfl, h1.badR.mono (by omega)⟩
  · rw [if_neg hn, if_neg hn]
    rw [Bool.or_eq_true, not_or] at hn
    have hn0 : ¬ ((x.labels.length : Int) = 0) := fun e => hn.1 (by rw [e]; rfl)
    have hn1 : ¬ ((x.labels.length : Int) > 257) := fun e => hn.2 (decide_eq_true e)
    have hlen : 0 < x.labels.length ∧ x.labels.length ≤ 257 := by constructor <;> omega
    have hw : wI ((x.labels.length : Int) - 1) = (x.labels.length : Int) - 1 := wI_small (by omega) (by omega)
    rw [hw, gd_of (by omega), gd_of (by omega)]
    obtain ⟨l1, l2, l3⟩ := sim_label g h1 o.lb (wI (x.labels.getD ((x.labels.length : Int) - 1).toNat default))
    have l1' : g_valid_checker_label (v, c1).2 (wI (x.labels.getD ((x.labels.length : Int) - 1).toNat default)) = _ := l1
    rw [l1', l2, Option.bind_some, Option.bind_some]
    obtain ⟨b', t1, t2⟩ := table_loop g h1 o.lb x hx (by omega) (lbV Γ.lb (wI (x.labels.getD ((x.labels.length : Int) - 1).toNat default))) (setB c1 (!lbB Γ.lb (wI (x.labels.getD ((x.labels.length : Int) - 1).toNat default)))) (lbB Γ.lb (wI (x.labels.getD ((x.labels.length : Int) - 1).toNat default))) k K 0 (lbB Γ.lb (wI (x.labels.getD ((x.labels.length : Int) - 1).toNat default))) (by omega) (by omega) (by omega)
    have t1' := t1
    rw [show ((0 : Nat) : Int) = 0 from rfl] at t1' t2
    show StB Γ (N + 1) (((g_valid_checker_table_l0 k x (lbV Γ.lb (wI (x.labels.getD ((x.labels.length : Int) - 1).toNat default)), setB c1 (!lbB Γ.lb (wI (x.labels.getD ((x.labels.length : Int) - 1).toNat default)))) (setB c1 (!lbB Γ.lb (wI (x.labels.getD ((x.labels.length : Int) - 1).toNat default)))) 0).bind fun j6 => (g_valid_checker_take j6 (lbV Γ.lb (wI (x.labels.getD ((x.labels.length : Int) - 1).toNat default)))).bind fun x7 => (g_valid_checker_leave x7.2).bind fun x9 => some x9).bind fun x45 => some x45) ((g_ref08_branch_l0 K Γ.env x (lbV Γ.lb (wI (x.labels.getD ((x.labels.length : Int) - 1).toNat default)), lbB Γ.lb (wI (x.labels.getD ((x.labels.length : Int) - 1).toNat default))) 0 (lbB Γ.lb (wI (x.labels.getD ((x.labels.length : Int) - 1).toNat default)))).bind fun j5 => ((if s1.ok = true then some j5 else some false)).bind (fun j6 => ((g_ref08_take (St8.mk s1.l s1.under s1.away s1.dead s1.most j6) (lbV Γ.lb (wI (x.labels.getD ((x.labels.length : Int) - 1).toNat default)))).bind fun x7 => ((g_ref08_away x7.1).bind fun x11 => some x11))))
    rw [t1', t2, Option.bind_some, Option.bind_some, ask_ro]
    have ha := sim_ask h1 (!b')
    rw [Bool.not_not] at ha
    obtain ⟨v2, c2, v2', s2, e5, e6, h2, _⟩ := sim_take g ha (Vk.of3 (lbK o.lb (wI (x.labels.getD ((x.labels.length : Int) - 1).toNat default))))
    have e6' : g_ref08_take (St8.mk s1.l s1.under s1.away s1.dead s1.most (s1.ok && b')) (lbV Γ.lb (wI (x.labels.getD ((x.labels.length : Int) - 1).toNat default))) = some (s2, v2') := e6
    rw [e5, e6', Option.bind_some, Option.bind_some]
    obtain ⟨c3, s3, e7, e8, h3⟩ := sim_leave g h2
    exact ⟨c3, s3, by rw [e7]; rfl, by rw [e8]; rfl, h3.mono (by omega)⟩

theorem size_l0 (x : Instr) (K : Nat) (hK : 10 < K) (ha : 0 ≤ x.align) : g_ref08_value_l0 K x 1 0 = some (if x.align ≤ 3 then 2 ^ x.align.toNat else 16) := by
  obtain ⟨k, rfl⟩ : ∃ k, K = k + 6 := ⟨K - 6, by omega⟩
  have w1 : wI (2 * 1) = 2 := by decide
  have w2 : wI (2 * 2) = 4 := by decide
  have w3 : wI (2 * 4) = 8 := by decide
  have w4 : wI (2 * 8) = 16 := by decide
  have u0 : IntKind.wrap .u32 (0 + 1) = 1 := by decide
  have u1 : IntKind.wrap .u32 (1 + 1) = 2 := by decide
  have u2 : IntKind.wrap .u32 (2 + 1) = 3 := by decide
  have u3 : IntKind.wrap .u32 (3 + 1) = 4 := by decide
  have hc : x.align = 0 ∨ x.align = 1 ∨ x.align = 2 ∨ x.align = 3 ∨ 4 ≤ x.align := by omega
  rcases hc with h | h | h | h | h
  · simp only [g_ref08_value_l0, h]; rfl
  · simp only [g_ref08_value_l0, h, w1, u0]; rfl
  · simp only [g_ref08_value_l0, h, w1, w2, u0, u1]; rfl
  · simp only [g_ref08_value_l0, h, w1, w2, w3, u0, u1, u2]; rfl
  · have d0 : decide (0 < x.align) = true := decide_eq_true (by omega)
    have d1 : decide (1 < x.align) = true := decide_eq_true (by omega)
    have d2 : decide (2 < x.align) = true := decide_eq_true (by omega)
    have d3 : decide (3 < x.align) = true := decide_eq_true (by omega)
    simp only [g_ref08_value_l0, w1, w2, w3, w4, u0, u1, u2, u3, d0, d1, d2, d3]
    rw [if_neg (by omega : ¬ x.align ≤ 3)]
    have d4 : decide ((16 : Int) ≤ 8) = false := by decide
    rw [d4, Bool.and_false]
    rfl

/-- An alignment is too great: as both tell it. -/
theorem align_eq (x : Instr) (ha : 0 ≤ x.align) (n : Int) (hn : 0 ≤ n ∧ n ≤ 8) :
    (if decide (x.align > (3 : Int)) = true then true else decide ((wI (1 * 2 ^ (min x.align.toNat (IntKind.bits .i64)))) > n)) = !decide ((if x.align ≤ 3 then (2 : Int) ^ x.align.toNat else 16) ≤ n) := by
  by_cases h : x.align ≤ 3
  · rw [if_neg (by simp; omega), if_pos h]
    have hc : x.align = 0 ∨ x.align = 1 ∨ x.align = 2 ∨ x.align = 3 := by omega
    have e : wI (1 * 2 ^ (min x.align.toNat (IntKind.bits .i64))) = (2 : Int) ^ x.align.toNat := by
      rcases hc with h | h | h | h <;> rw [h] <;> decide
    rw [e]
    by_cases h2 : (2 : Int) ^ x.align.toNat ≤ n
    · rw [decide_eq_true h2, decide_eq_false (by omega)]; rfl
    · rw [decide_eq_false h2, decide_eq_true (by omega)]; rfl
  · rw [if_pos (by simp; omega), if_neg h, decide_eq_false (by omega)]; rfl

theorem n32 (n : Int) : (n != wI (IntKind.wrap .i32 n)) = ((decide (n < ((-2147483648) : Int))) || (decide (n ≥ (2147483648 : Int)))) := by
  rw [IntKind.wrap_i32, wI_small (by omega) (by omega)]
  by_cases h : n < -2147483648
  · rw [decide_eq_true h, Bool.true_or]
    simp only [bne_iff_ne, ne_eq]
    omega
  · by_cases h2 : n ≥ 2147483648
    · rw [decide_eq_true h2, Bool.or_true]
      simp only [bne_iff_ne, ne_eq]
      omega
    · rw [decide_eq_false h, decide_eq_false h2]
      have : n = (n + 2147483648) % 4294967296 - 2147483648 := by omega
      rw [← this]; simp

theorem st_plain {Γ : Ctx} {N P K : Nat} {c : Checker} {s : St8} (g : Gd Γ N) (o : COk Γ P) (h : Sim Γ N c s) (hk : s.ok = true) (x : Instr) (h0 : 0 ≤ x.op) (h1 : x.op < 256) (ha : 0 ≤ x.align) (hK : P < K) :
    StB Γ (N + 1) (g_valid_checker_plain c x) (g_ref08_value K Γ.env s x) := by
  obtain ⟨t, is, f, n, bs, S⟩ := op_said x.op h0 h1
  obtain ⟨e, q1, a1⟩ := S.sg
  obtain ⟨p, r, q2, a2⟩ := S.rsg
  obtain ⟨f', fe, q3, a3⟩ := S.fo
  obtain ⟨fe', q4⟩ := S.rfo
  obtain ⟨n', sg, be, q5, a5⟩ := S.by_
  obtain ⟨sg', q6⟩ := S.rby
  have fl := h.fld
  have hcb : c.bad = false := by rw [h.bad, hk]; rfl
  unfold g_valid_checker_plain g_ref08_value
  rw [q1, q2, q4, q6, Option.bind_some, Option.bind_some, Option.bind_some, Option.bind_some]
  cases is with
  | false =>
    rw [if_pos (by rw [a1]; rfl), if_pos (by rfl)]
    have hb := h.badV
    rw [setB_true] at hb
    exact StB.ofB ⟨_, rfl, hb.mono (by omega)⟩ ⟨_, rfl, h.badR.mono (by omega)⟩
  | true =>
    obtain ⟨rfl, rfl⟩ := a2 rfl
    obtain ⟨rfl, a3'⟩ := a3 rfl
    obtain ⟨rfl, a5'⟩ := a5 rfl
    obtain ⟨tok, hn⟩ := S.tok rfl
    have tok' : TOk P t := ⟨tok.1, tok.2.1, by have := tok.2.2; have := o.P1; omega⟩
    rw [if_neg (by rw [a1]; decide), q5, Option.bind_some]
    -- the alignment
    have hal : ∃ b : Bool, ((if be.isNone = true then ((if c.bad = true then some (Checker.mk c.m c.t c.locals c.stack c.frames c.labels c.most true) else (if (decide (x.align > (3 : Int))) = true then some (Checker.mk c.m c.t c.locals c.stack c.frames c.labels c.most true) else gd (¬ x.align < 0) (some (Checker.mk c.m c.t c.locals c.stack c.frames c.labels c.most (decide ((wI (1 * 2 ^ (min x.align.toNat (IntKind.bits .i64)))) > n'))))))).bind (fun j16 => some j16) else some c)) = some (setB c (!b)) ∧
        ((if bs = true then (g_ref08_value_l0 K x 1 0).bind (fun j10 => ((if s.ok = true then some (decide (j10 ≤ n')) else some false)).bind (fun j11 => some j11)) else some s.ok)) = some (s.ok && b) := by
      rw [a5']
      cases bs with
      | false => exact ⟨true, by rw [if_neg (by decide), Bool.not_true, setB_false], by rw [if_neg (by decide), Bool.and_true]⟩
      | true =>
        refine ⟨decide ((if x.align ≤ 3 then (2 : Int) ^ x.align.toNat else 16) ≤ n'), ?_, ?_⟩
        · rw [if_pos rfl, ← align_eq x ha n' hn, if_neg (by rw [hcb]; decide)]
          by_cases h3 : decide (x.align > (3 : Int)) = true
          · rw [if_pos h3, if_pos h3, setB_true]; rfl
          · rw [if_neg h3, if_neg h3, gd_of (by omega)]
            unfold setB
            rw [hcb]; rfl
        · rw [if_pos rfl, size_l0 x K (by have := o.P1; omega) ha, Option.bind_some, hk]
          rfl
    obtain ⟨b, b1, b2⟩ := hal
    have key : ∀ (A : Option Checker) (B : Option Bool) (F : Checker → Option Checker) (G : Bool → Option St8), A = some (setB c (!b)) → B = some (s.ok && b) → StB Γ (N + 1) (F (setB c (!b))) (G (s.ok && b)) → StB Γ (N + 1) (A.bind F) (B.bind G) := by
      intro A B F G h1 h2 h3
      rw [h1, h2]; exact h3
    have ha2 := sim_ask h (!b)
    rw [Bool.not_not] at ha2
    have em : (bif ((f' == (4 : Int)) || (f' == (5 : Int))) then ((((setB c (!b)).m.memories.length : Int) == (0 : Int)) || ((f' == (1 : Int)) && (x.n != (wI (IntKind.wrap .i32 x.n))))) else ((f' == (1 : Int)) && (x.n != (wI (IntKind.wrap .i32 x.n))))) = (bif (f' == (4 : Int)) then (((Γ.m.memories.length : Int) == (0 : Int)) || ((f' == (1 : Int)) && ((decide (x.n < ((-2147483648) : Int))) || (decide (x.n ≥ (2147483648 : Int)))))) else (bif (f' == (5 : Int)) then (((Γ.m.memories.length : Int) == (0 : Int)) || ((f' == (1 : Int)) && ((decide (x.n < ((-2147483648) : Int))) || (decide (x.n ≥ (2147483648 : Int)))))) else ((f' == (1 : Int)) && ((decide (x.n < ((-2147483648) : Int))) || (decide (x.n ≥ (2147483648 : Int))))))) := by
      rw [n32, show (setB c (!b)).m = Γ.m from fl.1]
      cases f' == (4 : Int) <;> cases f' == (5 : Int) <;> rfl
    by_cases hF : (bif (f' == (4 : Int)) then (((Γ.m.memories.length : Int) == (0 : Int)) || ((f' == (1 : Int)) && ((decide (x.n < ((-2147483648) : Int))) || (decide (x.n ≥ (2147483648 : Int)))))) else (bif (f' == (5 : Int)) then (((Γ.m.memories.length : Int) == (0 : Int)) || ((f' == (1 : Int)) && ((decide (x.n < ((-2147483648) : Int))) || (decide (x.n ≥ (2147483648 : Int)))))) else ((f' == (1 : Int)) && ((decide (x.n < ((-2147483648) : Int))) || (decide (x.n ≥ (2147483648 : Int))))))) = true
    · have hc0 : ((!(t.params, t.result, true).2.2) || (bif ((f', fe').1 == (4 : Int)) then (((Γ.env.m.memories.length : Int) == (0 : Int)) || (((f', fe').1 == (1 : Int)) && ((decide (x.n < ((-2147483648) : Int))) || (decide (x.n ≥ (2147483648 : Int)))))) else (bif ((f', fe').1 == (5 : Int)) then (((Γ.env.m.memories.length : Int) == (0 : Int)) || (((f', fe').1 == (1 : Int)) && ((decide (x.n < ((-2147483648) : Int))) || (decide (x.n ≥ (2147483648 : Int)))))) else (((f', fe').1 == (1 : Int)) && ((decide (x.n < ((-2147483648) : Int))) || (decide (x.n ≥ (2147483648 : Int)))))))) = true := hF
      rw [if_pos hc0]
      refine StB.ofB ?_ ⟨_, rfl, h.badR.mono (by omega)⟩
      obtain ⟨c', e5, hb⟩ := callB g ha2.badV t (by have := tok.2.2; omega)
      refine ⟨c', ?_, hb⟩
      refine (congrArg (fun o => Option.bind o _) b1).trans ?_
      rw [Option.bind_some, q3, Option.bind_some]
      have hc1 : ((!(f', fe).2.isNone) || (bif (((f', fe).1 == (4 : Int)) || ((f', fe).1 == (5 : Int))) then ((((setB c (!b)).m.memories.length : Int) == (0 : Int)) || (((f', fe).1 == (1 : Int)) && (x.n != (wI (IntKind.wrap .i32 x.n))))) else (((f', fe).1 == (1 : Int)) && (x.n != (wI (IntKind.wrap .i32 x.n)))))) = true := by
        show ((!fe.isNone) || _) = true
        rw [a3']
        exact em.trans hF
      rw [if_pos hc1, Option.bind_some, ← setB_true, e5]
      rfl
    · have hc0 : ¬ ((!(t.params, t.result, true).2.2) || (bif ((f', fe').1 == (4 : Int)) then (((Γ.env.m.memories.length : Int) == (0 : Int)) || (((f', fe').1 == (1 : Int)) && ((decide (x.n < ((-2147483648) : Int))) || (decide (x.n ≥ (2147483648 : Int)))))) else (bif ((f', fe').1 == (5 : Int)) then (((Γ.env.m.memories.length : Int) == (0 : Int)) || (((f', fe').1 == (1 : Int)) && ((decide (x.n < ((-2147483648) : Int))) || (decide (x.n ≥ (2147483648 : Int)))))) else (((f', fe').1 == (1 : Int)) && ((decide (x.n < ((-2147483648) : Int))) || (decide (x.n ≥ (2147483648 : Int)))))))) = true := hF
      rw [if_neg hc0]
      refine key _ _ _ _ b1 b2 ?_
      rw [q3, Option.bind_some]
      have hc1 : ¬ ((!(f', fe).2.isNone) || (bif (((f', fe).1 == (4 : Int)) || ((f', fe).1 == (5 : Int))) then ((((setB c (!b)).m.memories.length : Int) == (0 : Int)) || (((f', fe).1 == (1 : Int)) && (x.n != (wI (IntKind.wrap .i32 x.n))))) else (((f', fe).1 == (1 : Int)) && (x.n != (wI (IntKind.wrap .i32 x.n)))))) = true := by
        intro hh
        apply hF
        rw [← em]
        have hh' : ((!fe.isNone) || _) = true := hh
        rw [a3'] at hh'
        exact hh'
      rw [if_neg hc1, Option.bind_some]
      obtain ⟨c', s', e5, e6, h'⟩ := sim_call g ha2 tok' o.P0 hK
      refine ⟨c', s', by rw [e5]; rfl, ?_, h'⟩
      show ((g_ref08_call K (setO s b) t).bind fun x8 => some x8) = _
      rw [e6]; rfl
end Go.Proofs.YtablleokoifolaaGreatDoor

