/- Part 7 of the proof that ValidBodiesUptoCardSaid: for every input that fits the row the law answers true and its arguments read as before, over the world as the row lays it. -/
import Derived.Test.YtablleokoifolaaGreatDoorZ6
/- Plain functions and their contracts. Written by a program of this claim set (g2.py). -/
set_option linter.unusedVariables false
set_option maxRecDepth 100000
set_option maxHeartbeats 4000000
namespace Go.Proofs.YtablleokoifolaaGreatDoor
open Go

/- (*mandrel/valid.checker).inner, (*mandrel/valid.checker).control, (*mandrel/valid.checker).list -/
mutual
def g_valid_checker_inner : Nat → Checker → (List Instr) → Int → Int → Option (Checker)
  | 0, _, _, _, _ => none
  | k+1, p0, p1, p2, p3 => gd (0 ≤ (wI ((p0.frames.length : Int) - 1)) ∧ (wI ((p0.frames.length : Int) - 1)) < (p0.frames.length : Int)) (((if (p0.frames.getD ((wI ((p0.frames.length : Int) - 1)).toNat) default).away = true then gd ((p0.frames.length + 1) * 16 ≤ 140737488355328) (some (Checker.mk p0.m p0.t p0.locals p0.stack (p0.frames ++ ([(Frame.mk (p0.stack.length : Int) false true)] : List Frame)) p0.labels p0.most p0.bad)) else gd ((p0.frames.length + 1) * 16 ≤ 140737488355328) (some (Checker.mk p0.m p0.t p0.locals p0.stack (p0.frames ++ ([(Frame.mk (p0.stack.length : Int) false ((p0.frames.getD ((wI ((p0.frames.length : Int) - 1)).toNat) default).dead))] : List Frame)) p0.labels p0.most p0.bad)))).bind (fun j4 => gd ((j4.labels.length + 1) * 1 ≤ 140737488355328) (((g_valid_checker_list k (Checker.mk j4.m j4.t j4.locals j4.stack j4.frames (j4.labels ++ ([p3] : List Int)) j4.most j4.bad) p1).bind fun x6 => ((g_valid_checker_take x6 p2).bind fun x8 => gd (0 ≤ (wI ((x8.2.frames.length : Int) - 1)) ∧ (wI ((x8.2.frames.length : Int) - 1)) < (x8.2.frames.length : Int)) (((if x8.2.bad = true then some (Checker.mk x8.2.m x8.2.t x8.2.locals x8.2.stack x8.2.frames x8.2.labels x8.2.most true) else some (Checker.mk x8.2.m x8.2.t x8.2.locals x8.2.stack x8.2.frames x8.2.labels x8.2.most ((x8.2.stack.length : Int) != ((x8.2.frames.getD ((wI ((x8.2.frames.length : Int) - 1)).toNat) default).height))))).bind (fun j11 => gd (0 ≤ (0 : Int) ∧ 0 ≤ (mnI ((x8.2.frames.getD ((wI ((x8.2.frames.length : Int) - 1)).toNat) default).height) (j11.stack.length : Int)) ∧ (mnI ((x8.2.frames.getD ((wI ((x8.2.frames.length : Int) - 1)).toNat) default).height) (j11.stack.length : Int)) ≤ (j11.stack.length : Int)) (gd (0 ≤ (0 : Int) ∧ 0 ≤ (wI ((j11.frames.length : Int) - 1)) ∧ (wI ((j11.frames.length : Int) - 1)) ≤ (j11.frames.length : Int)) (gd (0 ≤ (0 : Int) ∧ 0 ≤ (wI ((j11.labels.length : Int) - 1)) ∧ (wI ((j11.labels.length : Int) - 1)) ≤ (j11.labels.length : Int)) (some (Checker.mk j11.m j11.t j11.locals (List.take ((mnI ((x8.2.frames.getD ((wI ((x8.2.frames.length : Int) - 1)).toNat) default).height) (j11.stack.length : Int)).toNat) j11.stack) (List.take ((wI ((j11.frames.length : Int) - 1)).toNat) j11.frames) (List.take ((wI ((j11.labels.length : Int) - 1)).toNat) j11.labels) j11.most j11.bad)))))))))))

def g_valid_checker_control : Nat → Checker → Instr → Option (Checker)
  | 0, _, _ => none
  | k+1, p0, p1 => (if (p1.op == (0 : Int)) = true then ((g_valid_checker_leave p0).bind fun x1 => some x1) else (if (p1.op == (1 : Int)) = true then some p0 else ((if (p1.op == (2 : Int)) = true then some (p1.op == (2 : Int)) else some (p1.op == (3 : Int)))).bind (fun j3 => (if j3 = true then ((if p0.bad = true then some (Checker.mk p0.m p0.t p0.locals p0.stack p0.frames p0.labels p0.most true) else ((g_valid_result p1.result).bind fun x4 => some (Checker.mk p0.m p0.t p0.locals p0.stack p0.frames p0.labels p0.most (!x4))))).bind (fun j6 => ((if (p1.op == (3 : Int)) = true then some 0 else some p1.result)).bind (fun j7 => ((g_valid_checker_inner k j6 p1.body p1.result j7).bind fun x8 => ((g_valid_checker_lay x8 p1.result).bind fun x10 => some x10)))) else (if (p1.op == (4 : Int)) = true then ((if p0.bad = true then some (Checker.mk p0.m p0.t p0.locals p0.stack p0.frames p0.labels p0.most true) else ((g_valid_result p1.result).bind fun x17 => some (Checker.mk p0.m p0.t p0.locals p0.stack p0.frames p0.labels p0.most (!x17))))).bind (fun j19 => ((g_valid_checker_take j19 127).bind fun x20 => ((g_valid_checker_inner k x20.2 p1.body p1.result p1.result).bind fun x22 => ((g_valid_checker_inner k x22 p1.els p1.result p1.result).bind fun x24 => ((g_valid_checker_lay x24 p1.result).bind fun x26 => some x26))))) else (if (p1.op == (12 : Int)) = true then ((g_valid_checker_label p0 p1.n).bind fun x31 => ((g_valid_checker_take x31.2 x31.1).bind fun x33 => ((g_valid_checker_leave x33.2).bind fun x35 => some x35))) else (if (p1.op == (13 : Int)) = true then ((g_valid_checker_take p0 127).bind fun x37 => ((g_valid_checker_label x37.2 p1.n).bind fun x39 => ((g_valid_checker_take x39.2 x39.1).bind fun x41 => ((g_valid_checker_lay x41.2 x39.1).bind fun x43 => some x43)))) else (if (p1.op == (14 : Int)) = true then ((g_valid_checker_table k p0 p1).bind fun x45 => some x45) else (if (p1.op == (15 : Int)) = true then ((g_valid_checker_take p0 p0.t.result).bind fun x47 => ((g_valid_checker_leave x47.2).bind fun x49 => some x49)) else (if (p1.op == (16 : Int)) = true then ((g_valid_checker_function p0 p1.n).bind fun x51 => ((g_valid_checker_call x51.2 x51.1).bind fun x53 => some x53)) else (if (p1.op == (17 : Int)) = true then ((if p0.bad = true then some (Checker.mk p0.m p0.t p0.locals p0.stack p0.frames p0.labels p0.most true) else some (Checker.mk p0.m p0.t p0.locals p0.stack p0.frames p0.labels p0.most ((p0.m.tables.length : Int) == (0 : Int))))).bind (fun j55 => ((g_valid_checker_take j55 127).bind fun x56 => ((g_valid_checker_typ x56.2 p1.n).bind fun x58 => ((g_valid_checker_call x58.2 x58.1).bind fun x60 => some x60)))) else some (Checker.mk p0.m p0.t p0.locals p0.stack p0.frames p0.labels p0.most true))))))))))))

def g_valid_checker_list : Nat → Checker → (List Instr) → Option (Checker)
  | 0, _, _ => none
  | k+1, p0, p1 => lpN k (fun (rec5 : Checker × Int → Option (Checker)) v => match v with | (a3, a4) => (if (decide (a4 < (p1.length : Int))) = true then gd (0 ≤ a4 ∧ a4 < (p1.length : Int)) ((if a3.bad = true then some a3 else (if (decide ((((p1.getD a4.toNat default)).op) < (26 : Int))) = true then ((g_valid_checker_control k a3 (p1.getD a4.toNat default)).bind fun x7 => rec5 (x7, (wI (a4 + 1)))) else ((g_valid_checker_simple a3 (p1.getD a4.toNat default)).bind fun x9 => rec5 (x9, (wI (a4 + 1))))))) else some a3)) (p0, 0)
end
theorem s_valid_checker_inner (k : Nat) (IH_valid_checker_inner : ∀ (p0 : Checker) (p1 : List Instr) (p2 : Int) (p3 : Int) (r : Checker), g_valid_checker_inner k p0 p1 p2 p3 = some r → CM E 70 [.p 1000 0, .d (sVI p1), .d (.int .u8 p2), .d (.int .u8 p3)] (H_Checker p0) [] [1000] (fun a b => a = (.tup [] : LV) ∧ b = H_Checker r)) (IH_valid_checker_control : ∀ (p0 : Checker) (p1 : Instr) (r : Checker), g_valid_checker_control k p0 p1 = some r → CM E 55 [.p 1000 0, .agg (eD (eInstr p1))] (H_Checker p0) [] [1000] (fun a b => a = (.tup [] : LV) ∧ b = H_Checker r)) (IH_valid_checker_list : ∀ (p0 : Checker) (p1 : List Instr) (r : Checker), g_valid_checker_list k p0 p1 = some r → CM E 39 [.p 1000 0, .d (sVI p1)] (H_Checker p0) [] [1000] (fun a b => a = (.tup [] : LV) ∧ b = H_Checker r)) : ∀ (p0 : Checker) (p1 : List Instr) (p2 : Int) (p3 : Int) (r : Checker), g_valid_checker_inner (k + 1) p0 p1 p2 p3 = some r → CM E 70 [.p 1000 0, .d (sVI p1), .d (.int .u8 p2), .d (.int .u8 p3)] (H_Checker p0) [] [1000] (fun a b => a = (.tup [] : LV) ∧ b = H_Checker r) := by
  intro p0 p1 p2 p3 r H
  refine cs_of (A := F_valid_checker_inner) fn_valid_checker_inner fun fr => ?_
  unfold g_valid_checker_inner at H
  refine AW2.seq ?_
  obtain ⟨h1, H⟩ := gd_some H
  refine AW2.rg [.k 8] [0, 1, 2, 3, 8] [] [.k 8, .k 1000, .k 1001, .k 1002, .k 1003] ⟨[(0, .p 1000 0), (1, .d (sVI p1)), (2, .d (.int .u8 p2)), (3, .d (.int .u8 p3)), (8, .p 8 0)], [(8, .st false (eD (eFrame (p0.frames.getD ((wI ((p0.frames.length : Int) - 1)).toNat) default))))] ++ H_Checker p0⟩ (And.intro (And.intro h1 (And.intro (ixN h1) (And.intro (ixN h1) True.intro))) True.intro) (by kernel_rfl) ?_
  refine AW2.seq ?_
  obtain ⟨j4, H19, H⟩ := bind_some H
  refine AW2.reg [] rfl (YW.to ⟨[(0, .p 1000 0), (1, .d (sVI p1)), (2, .d (.int .u8 p2)), (3, .d (.int .u8 p3))], H_Checker j4⟩ ?qh20 ?h20)
  case h20 =>
    have H := H19
    rcases bT ((p0.frames.getD ((wI ((p0.frames.length : Int) - 1)).toNat) default).away) with hc1 | hc1
    · replace H := ite_t H hc1
      obtain ⟨h2, H⟩ := gd_some H
      have H := Option.some.inj H
      subst H
      exact YW.fin [(34, true)] [.sb ([(Frame.mk (p0.stack.length : Int) false true)] : List Frame).length (fl eFrame ([(Frame.mk (p0.stack.length : Int) false true)] : List Frame)), .s true (p0.frames ++ ([(Frame.mk (p0.stack.length : Int) false true)] : List Frame)).length (fl eFrame (p0.frames ++ ([(Frame.mk (p0.stack.length : Int) false true)] : List Frame)))] [0, 1, 2, 3] [] [.k 1000, .k 1001, .k 1002, .k 1003] _ (And.intro (And.intro hc1 (And.intro hc1 (And.intro hc1 (And.intro (litF eFrame ([(Frame.mk (p0.stack.length : Int) false true)] : List Frame)) (And.intro (Nat.le_refl p0.frames.length) (And.intro h2 (And.intro (app1 eFrame p0.frames (Frame.mk (p0.stack.length : Int) false true) (fl eFrame ([(Frame.mk (p0.stack.length : Int) false true)] : List Frame)) rfl) True.intro))))))) True.intro) (by kernel_rfl) rfl
    · replace H := ite_f H hc1
      obtain ⟨h3, H⟩ := gd_some H
      have H := Option.some.inj H
      subst H
      exact YW.fin [(34, false)] [.sb ([(Frame.mk (p0.stack.length : Int) false ((p0.frames.getD ((wI ((p0.frames.length : Int) - 1)).toNat) default).dead))] : List Frame).length (fl eFrame ([(Frame.mk (p0.stack.length : Int) false ((p0.frames.getD ((wI ((p0.frames.length : Int) - 1)).toNat) default).dead))] : List Frame)), .s true (p0.frames ++ ([(Frame.mk (p0.stack.length : Int) false ((p0.frames.getD ((wI ((p0.frames.length : Int) - 1)).toNat) default).dead))] : List Frame)).length (fl eFrame (p0.frames ++ ([(Frame.mk (p0.stack.length : Int) false ((p0.frames.getD ((wI ((p0.frames.length : Int) - 1)).toNat) default).dead))] : List Frame)))] [0, 1, 2, 3] [] [.k 1000, .k 1001, .k 1002, .k 1003] _ (And.intro (And.intro hc1 (And.intro hc1 (And.intro hc1 (And.intro (litF eFrame ([(Frame.mk (p0.stack.length : Int) false ((p0.frames.getD ((wI ((p0.frames.length : Int) - 1)).toNat) default).dead))] : List Frame)) (And.intro (Nat.le_refl p0.frames.length) (And.intro h3 (And.intro (app1 eFrame p0.frames (Frame.mk (p0.stack.length : Int) false ((p0.frames.getD ((wI ((p0.frames.length : Int) - 1)).toNat) default).dead)) (fl eFrame ([(Frame.mk (p0.stack.length : Int) false ((p0.frames.getD ((wI ((p0.frames.length : Int) - 1)).toNat) default).dead))] : List Frame)) rfl) True.intro))))))) True.intro) (by kernel_rfl) rfl
  refine AW2.seq ?_
  obtain ⟨h5, H⟩ := gd_some H
  refine AW2.rg [.sb ([p3] : List Int).length (fl (eI .u8) ([p3] : List Int)), .s true (j4.labels ++ ([p3] : List Int)).length (fl (eI .u8) (j4.labels ++ ([p3] : List Int)))] [0, 1, 2] [] [.k 1000, .k 1001, .k 1002, .k 1003] ⟨[(0, .p 1000 0), (1, .d (sVI p1)), (2, .d (.int .u8 p2))], H_Checker (Checker.mk j4.m j4.t j4.locals j4.stack j4.frames (j4.labels ++ ([p3] : List Int)) j4.most j4.bad)⟩ (And.intro (And.intro (litF (eI .u8) ([p3] : List Int)) (And.intro (Nat.le_refl j4.labels.length) (And.intro h5 (And.intro (app1 (eI .u8) j4.labels p3 (fl (eI .u8) ([p3] : List Int)) rfl) True.intro)))) True.intro) (by kernel_rfl) ?_
  refine AW2.seq ?_
  obtain ⟨x6, hx7, H⟩ := bind_some H
  refine AW2.rg [.c [1000, 1001, 1002, 1003] [] [1000] (.tup []) (H_Checker x6)] [0, 2] [] [.k 1000, .k 1001, .k 1002, .k 1003] ⟨[(0, .p 1000 0), (2, .d (.int .u8 p2))], H_Checker x6⟩ (And.intro (And.intro (IH_valid_checker_list (Checker.mk j4.m j4.t j4.locals j4.stack j4.frames (j4.labels ++ ([p3] : List Int)) j4.most j4.bad) p1 x6 hx7) True.intro) True.intro) (by kernel_rfl) ?_
  refine AW2.seq ?_
  obtain ⟨x8, hx9, H⟩ := bind_some H
  refine AW2.rg [.c [1000, 1001, 1002, 1003] [] [1000] (.d (.int .u8 x8.1)) (H_Checker x8.2)] [0] [] [.k 1000, .k 1001, .k 1002, .k 1003] ⟨[(0, .p 1000 0)], H_Checker x8.2⟩ (And.intro (And.intro (c_valid_checker_take x6 p2 x8 hx9) True.intro) True.intro) (by kernel_rfl) ?_
  refine AW2.seq ?_
  obtain ⟨h10, H⟩ := gd_some H
  refine AW2.rg [] [0, 9] [] [.k 1000, .k 1001, .k 1002, .k 1003] ⟨[(0, .p 1000 0), (9, .d (.int .i64 ((x8.2.frames.getD ((wI ((x8.2.frames.length : Int) - 1)).toNat) default).height)))], H_Checker x8.2⟩ (And.intro (And.intro h10 (And.intro (ixN h10) (And.intro (ixN h10) True.intro))) True.intro) (by kernel_rfl) ?_
  refine AW2.seq ?_
  obtain ⟨j11, H16, H⟩ := bind_some H
  refine AW2.reg [] rfl (YW.to ⟨[(0, .p 1000 0), (9, .d (.int .i64 ((x8.2.frames.getD ((wI ((x8.2.frames.length : Int) - 1)).toNat) default).height)))], H_Checker j11⟩ ?qh17 ?h17)
  case h17 =>
    have H := H16
    rcases bT x8.2.bad with hc1 | hc1
    · replace H := ite_t H hc1
      have H := Option.some.inj H
      subst H
      exact YW.fin [(77, true)] [] [0, 9] [] [.k 1000, .k 1001, .k 1002, .k 1003] _ (And.intro (And.intro hc1 (And.intro hc1 (And.intro hc1 (And.intro hc1 (And.intro hc1 (And.intro hc1 (And.intro hc1 (And.intro hc1 True.intro)))))))) True.intro) (by kernel_rfl) rfl
    · replace H := ite_f H hc1
      have H := Option.some.inj H
      subst H
      exact YW.fin [(77, false)] [] [0, 9] [] [.k 1000, .k 1001, .k 1002, .k 1003] _ (And.intro (And.intro hc1 (And.intro hc1 (And.intro hc1 (And.intro hc1 (And.intro hc1 (And.intro hc1 (And.intro hc1 (And.intro hc1 True.intro)))))))) True.intro) (by kernel_rfl) rfl
  refine AW2.seq ?_
  obtain ⟨h12, H⟩ := gd_some H
  refine AW2.rg [.s true (List.take ((mnI ((x8.2.frames.getD ((wI ((x8.2.frames.length : Int) - 1)).toNat) default).height) (j11.stack.length : Int)).toNat) j11.stack).length (fl (eI .u8) (List.take ((mnI ((x8.2.frames.getD ((wI ((x8.2.frames.length : Int) - 1)).toNat) default).height) (j11.stack.length : Int)).toNat) j11.stack))] [0] [] [.k 1000, .sl 1001 (List.take ((mnI ((x8.2.frames.getD ((wI ((x8.2.frames.length : Int) - 1)).toNat) default).height) (j11.stack.length : Int)).toNat) j11.stack).length (fl (eI .u8) (List.take ((mnI ((x8.2.frames.getD ((wI ((x8.2.frames.length : Int) - 1)).toNat) default).height) (j11.stack.length : Int)).toNat) j11.stack)), .k 1002, .k 1003] ⟨[(0, .p 1000 0)], H_Checker (Checker.mk j11.m j11.t j11.locals (List.take ((mnI ((x8.2.frames.getD ((wI ((x8.2.frames.length : Int) - 1)).toNat) default).height) (j11.stack.length : Int)).toNat) j11.stack) j11.frames j11.labels j11.most j11.bad)⟩ (And.intro (And.intro h12 (And.intro (takeN h12) True.intro)) (And.intro (takeL j11.stack ((mnI ((x8.2.frames.getD ((wI ((x8.2.frames.length : Int) - 1)).toNat) default).height) (j11.stack.length : Int)).toNat)) (And.intro (takeF (eI .u8) j11.stack ((mnI ((x8.2.frames.getD ((wI ((x8.2.frames.length : Int) - 1)).toNat) default).height) (j11.stack.length : Int)).toNat)) True.intro))) (by kernel_rfl) ?_
  obtain ⟨h13, H⟩ := gd_some H
  obtain ⟨h14, H⟩ := gd_some H
  refine AW2.reg [(1000, 0, 12)] (by kernel_rfl) (YW.fin [] [.s true (List.take ((wI ((j11.frames.length : Int) - 1)).toNat) j11.frames).length (fl eFrame (List.take ((wI ((j11.frames.length : Int) - 1)).toNat) j11.frames)), .s true (List.take ((wI ((j11.labels.length : Int) - 1)).toNat) j11.labels).length (fl (eI .u8) (List.take ((wI ((j11.labels.length : Int) - 1)).toNat) j11.labels))] [] [] [.k 1000, .k 1001, .sl 1002 (List.take ((wI ((j11.frames.length : Int) - 1)).toNat) j11.frames).length (fl eFrame (List.take ((wI ((j11.frames.length : Int) - 1)).toNat) j11.frames)), .sl 1003 (List.take ((wI ((j11.labels.length : Int) - 1)).toNat) j11.labels).length (fl (eI .u8) (List.take ((wI ((j11.labels.length : Int) - 1)).toNat) j11.labels))] ⟨[], H_Checker (Checker.mk j11.m j11.t j11.locals (List.take ((mnI ((x8.2.frames.getD ((wI ((x8.2.frames.length : Int) - 1)).toNat) default).height) (j11.stack.length : Int)).toNat) j11.stack) (List.take ((wI ((j11.frames.length : Int) - 1)).toNat) j11.frames) (List.take ((wI ((j11.labels.length : Int) - 1)).toNat) j11.labels) j11.most j11.bad)⟩ (And.intro (And.intro h13 (And.intro (takeN h13) (And.intro h14 (And.intro (takeN h14) True.intro)))) (And.intro (takeL j11.frames ((wI ((j11.frames.length : Int) - 1)).toNat)) (And.intro (takeF eFrame j11.frames ((wI ((j11.frames.length : Int) - 1)).toNat)) (And.intro (takeL j11.labels ((wI ((j11.labels.length : Int) - 1)).toNat)) (And.intro (takeF (eI .u8) j11.labels ((wI ((j11.labels.length : Int) - 1)).toNat)) True.intro))))) (by kernel_rfl) ?_)
  have H := Option.some.inj H
  subst H
  exact retS_mkn3 [] [.k 1000, .k 1001, .k 1002, .k 1003] True.intro (by kernel_rfl) (by kernel_rfl)
theorem s_valid_checker_control (k : Nat) (IH_valid_checker_inner : ∀ (p0 : Checker) (p1 : List Instr) (p2 : Int) (p3 : Int) (r : Checker), g_valid_checker_inner k p0 p1 p2 p3 = some r → CM E 70 [.p 1000 0, .d (sVI p1), .d (.int .u8 p2), .d (.int .u8 p3)] (H_Checker p0) [] [1000] (fun a b => a = (.tup [] : LV) ∧ b = H_Checker r)) (IH_valid_checker_control : ∀ (p0 : Checker) (p1 : Instr) (r : Checker), g_valid_checker_control k p0 p1 = some r → CM E 55 [.p 1000 0, .agg (eD (eInstr p1))] (H_Checker p0) [] [1000] (fun a b => a = (.tup [] : LV) ∧ b = H_Checker r)) (IH_valid_checker_list : ∀ (p0 : Checker) (p1 : List Instr) (r : Checker), g_valid_checker_list k p0 p1 = some r → CM E 39 [.p 1000 0, .d (sVI p1)] (H_Checker p0) [] [1000] (fun a b => a = (.tup [] : LV) ∧ b = H_Checker r)) : ∀ (p0 : Checker) (p1 : Instr) (r : Checker), g_valid_checker_control (k + 1) p0 p1 = some r → CM E 55 [.p 1000 0, .agg (eD (eInstr p1))] (H_Checker p0) [] [1000] (fun a b => a = (.tup [] : LV) ∧ b = H_Checker r) := by
  intro p0 p1 r H
  refine cs_of (A := F_valid_checker_control) fn_valid_checker_control fun fr => ?_
  unfold g_valid_checker_control at H
  refine AW2.seq ?_
  refine AW2.rg [.k 3] [0, 3] [] [.k 3, .k 1000, .k 1001, .k 1002, .k 1003] ⟨[(0, .p 1000 0), (3, .p 3 0)], [(3, .st false (eD (eInstr p1)))] ++ H_Checker p0⟩ (And.intro True.intro True.intro) (by kernel_rfl) ?_
  refine AW2.seq ?_
  refine AW2.rg [] [0, 3, 7] [] [.k 3, .k 1000, .k 1001, .k 1002, .k 1003] ⟨[(0, .p 1000 0), (3, .p 3 0), (7, .d (.int .u8 p1.op))], [(3, .st false (eD (eInstr p1)))] ++ H_Checker p0⟩ (And.intro True.intro True.intro) (by kernel_rfl) ?_
  refine AW2.block ?_
  refine AW2.seq ?_
  refine AW2.rg [] [0, 3, 7, 11] [] [.k 3, .k 1000, .k 1001, .k 1002, .k 1003] ⟨[(0, .p 1000 0), (3, .p 3 0), (7, .d (.int .u8 p1.op)), (11, .d (.bool (p1.op == (0 : Int))))], [(3, .st false (eD (eInstr p1)))] ++ H_Checker p0⟩ (And.intro True.intro True.intro) (by kernel_rfl) ?_
  refine AW2.cond (b := (p1.op == (0 : Int))) rfl (fun hc => ?_) (fun hc => ?_)
  · replace H := ite_t H hc
    obtain ⟨x1, hx2, H⟩ := bind_some H
    refine AW2.rg [.c [1000, 1001, 1002, 1003] [] [1000] (.tup []) (H_Checker x1)] [] [] [.k 1000, .k 1001, .k 1002, .k 1003] ⟨[], H_Checker x1⟩ (And.intro (And.intro (c_valid_checker_leave p0 x1 hx2) True.intro) True.intro) (by kernel_rfl) ?_
    have H := Option.some.inj H
    subst H
    exact retS_mkn3 [] [.k 1000, .k 1001, .k 1002, .k 1003] True.intro (by kernel_rfl) (by kernel_rfl)
  · replace H := ite_f H hc
    refine AW2.seq ?_
    refine AW2.rg [] [0, 3, 7, 15] [] [.k 3, .k 1000, .k 1001, .k 1002, .k 1003] ⟨[(0, .p 1000 0), (3, .p 3 0), (7, .d (.int .u8 p1.op)), (15, .d (.bool (p1.op == (1 : Int))))], [(3, .st false (eD (eInstr p1)))] ++ H_Checker p0⟩ (And.intro True.intro True.intro) (by kernel_rfl) ?_
    refine AW2.cond (b := (p1.op == (1 : Int))) rfl (fun hc => ?_) (fun hc => ?_)
    · replace H := ite_t H hc
      refine AW2.skip ?_
      have H := Option.some.inj H
      subst H
      exact retS_mkn3 [] [.k 1000, .k 1001, .k 1002, .k 1003] True.intro (by kernel_rfl) (by kernel_rfl)
    · replace H := ite_f H hc
      obtain ⟨j3, H66, H⟩ := bind_some H
      refine AW2.mid ⟨[(0, .p 1000 0), (3, .p 3 0), (7, .d (.int .u8 p1.op)), (17, .d (.bool j3))], [(3, .st false (eD (eInstr p1)))] ++ H_Checker p0⟩ ?_ ?_
      · refine AW2.cond (b := j3) rfl (fun hc => ?_) (fun hc => ?_)
        · replace H := ite_t H hc
          refine AW2.seq ?_
          obtain ⟨j6, H15, H⟩ := bind_some H
          refine AW2.reg [] rfl (YW.to ⟨[(0, .p 1000 0), (3, .p 3 0)], [(3, .st false (eD (eInstr p1)))] ++ H_Checker j6⟩ ?qh16 ?h16)
          case h16 =>
            have H := H15
            rcases bT p0.bad with hc1 | hc1
            · replace H := ite_t H hc1
              have H := Option.some.inj H
              subst H
              exact YW.fin [(25, true)] [] [0, 3] [] [.k 3, .k 1000, .k 1001, .k 1002, .k 1003] _ (And.intro (And.intro hc1 (And.intro hc1 (And.intro hc1 (And.intro hc1 (And.intro hc1 True.intro))))) True.intro) (by kernel_rfl) rfl
            · replace H := ite_f H hc1
              obtain ⟨x4, hx5, H⟩ := bind_some H
              have H := Option.some.inj H
              subst H
              exact YW.fin [(25, false)] [.r (.bool x4)] [0, 3] [] [.k 3, .k 1000, .k 1001, .k 1002, .k 1003] _ (And.intro (And.intro hc1 (And.intro hc1 (And.intro hc1 (And.intro (c_valid_result p1.result x4 hx5) (And.intro hc1 (And.intro hc1 True.intro)))))) True.intro) (by kernel_rfl) rfl
          refine AW2.seq ?_
          refine AW2.rg [] [0, 3, 4] [] [.k 3, .k 1000, .k 1001, .k 1002, .k 1003] ⟨[(0, .p 1000 0), (3, .p 3 0), (4, .d (.int .u8 p1.result))], [(3, .st false (eD (eInstr p1)))] ++ H_Checker j6⟩ (And.intro True.intro True.intro) (by kernel_rfl) ?_
          obtain ⟨j7, H13, H⟩ := bind_some H
          refine AW2.mid ⟨[(0, .p 1000 0), (3, .p 3 0), (4, .d (.int .u8 j7))], [(3, .st false (eD (eInstr p1)))] ++ H_Checker j6⟩ ?_ ?_
          · refine AW2.seq ?_
            obtain ⟨x8, hx9, H⟩ := bind_some H
            refine AW2.rg [.c [1000, 1001, 1002, 1003] [] [1000] (.tup []) (H_Checker x8)] [0, 3] [] [.k 3, .k 1000, .k 1001, .k 1002, .k 1003] ⟨[(0, .p 1000 0), (3, .p 3 0)], [(3, .st false (eD (eInstr p1)))] ++ H_Checker x8⟩ (And.intro (And.intro (IH_valid_checker_inner j6 p1.body p1.result j7 x8 hx9) True.intro) True.intro) (by kernel_rfl) ?_
            obtain ⟨x10, hx11, H⟩ := bind_some H
            refine AW2.rg [.c [1000, 1001, 1002, 1003] [] [1000] (.tup []) (H_Checker x10)] [] [] [.k 1000, .k 1001, .k 1002, .k 1003] ⟨[], H_Checker x10⟩ (And.intro (And.intro (c_valid_checker_lay x8 p1.result x10 hx11) True.intro) True.intro) (by kernel_rfl) ?_
            have H := Option.some.inj H
            subst H
            exact retS_mkn3 [] [.k 1000, .k 1001, .k 1002, .k 1003] True.intro (by kernel_rfl) (by kernel_rfl)
          · have H := H13
            refine AW2.seq ?_
            refine AW2.rg [] [0, 3, 4, 37] [] [.k 3, .k 1000, .k 1001, .k 1002, .k 1003] ⟨[(0, .p 1000 0), (3, .p 3 0), (4, .d (.int .u8 p1.result)), (37, .d (.bool (p1.op == (3 : Int))))], [(3, .st false (eD (eInstr p1)))] ++ H_Checker j6⟩ (And.intro True.intro True.intro) (by kernel_rfl) ?_
            refine AW2.cond (b := (p1.op == (3 : Int))) rfl (fun hc => ?_) (fun hc => ?_)
            · replace H := ite_t H hc
              refine AW2.rg [] [0, 3, 4] [] [.k 3, .k 1000, .k 1001, .k 1002, .k 1003] ⟨[(0, .p 1000 0), (3, .p 3 0), (4, .d (.int .u8 0))], [(3, .st false (eD (eInstr p1)))] ++ H_Checker j6⟩ (And.intro True.intro True.intro) (by kernel_rfl) ?_
              have H := Option.some.inj H
              subst H
              exact wk_mk [0, 3, 4] [] [.k 3, .k 1000, .k 1001, .k 1002, .k 1003] True.intro (by kernel_rfl)
            · replace H := ite_f H hc
              refine AW2.skip ?_
              have H := Option.some.inj H
              subst H
              exact wk_mk [0, 3, 4] [] [.k 3, .k 1000, .k 1001, .k 1002, .k 1003] True.intro (by kernel_rfl)
        · replace H := ite_f H hc
          refine AW2.seq ?_
          refine AW2.rg [] [0, 3, 7, 49] [] [.k 3, .k 1000, .k 1001, .k 1002, .k 1003] ⟨[(0, .p 1000 0), (3, .p 3 0), (7, .d (.int .u8 p1.op)), (49, .d (.bool (p1.op == (4 : Int))))], [(3, .st false (eD (eInstr p1)))] ++ H_Checker p0⟩ (And.intro True.intro True.intro) (by kernel_rfl) ?_
          refine AW2.cond (b := (p1.op == (4 : Int))) rfl (fun hc => ?_) (fun hc => ?_)
          · replace H := ite_t H hc
            refine AW2.seq ?_
            obtain ⟨j19, H29, H⟩ := bind_some H
            refine AW2.reg [] rfl (YW.to ⟨[(0, .p 1000 0), (3, .p 3 0)], [(3, .st false (eD (eInstr p1)))] ++ H_Checker j19⟩ ?qh30 ?h30)
            case h30 =>
              have H := H29
              rcases bT p0.bad with hc1 | hc1
              · replace H := ite_t H hc1
                have H := Option.some.inj H
                subst H
                exact YW.fin [(56, true)] [] [0, 3] [] [.k 3, .k 1000, .k 1001, .k 1002, .k 1003] _ (And.intro (And.intro hc1 (And.intro hc1 (And.intro hc1 (And.intro hc1 (And.intro hc1 True.intro))))) True.intro) (by kernel_rfl) rfl
              · replace H := ite_f H hc1
                obtain ⟨x17, hx18, H⟩ := bind_some H
                have H := Option.some.inj H
                subst H
                exact YW.fin [(56, false)] [.r (.bool x17)] [0, 3] [] [.k 3, .k 1000, .k 1001, .k 1002, .k 1003] _ (And.intro (And.intro hc1 (And.intro hc1 (And.intro hc1 (And.intro (c_valid_result p1.result x17 hx18) (And.intro hc1 (And.intro hc1 True.intro)))))) True.intro) (by kernel_rfl) rfl
            refine AW2.seq ?_
            obtain ⟨x20, hx21, H⟩ := bind_some H
            refine AW2.rg [.c [1000, 1001, 1002, 1003] [] [1000] (.d (.int .u8 x20.1)) (H_Checker x20.2)] [0, 3] [] [.k 3, .k 1000, .k 1001, .k 1002, .k 1003] ⟨[(0, .p 1000 0), (3, .p 3 0)], [(3, .st false (eD (eInstr p1)))] ++ H_Checker x20.2⟩ (And.intro (And.intro (c_valid_checker_take j19 127 x20 hx21) True.intro) True.intro) (by kernel_rfl) ?_
            refine AW2.seq ?_
            obtain ⟨x22, hx23, H⟩ := bind_some H
            refine AW2.rg [.c [1000, 1001, 1002, 1003] [] [1000] (.tup []) (H_Checker x22)] [0, 3] [] [.k 3, .k 1000, .k 1001, .k 1002, .k 1003] ⟨[(0, .p 1000 0), (3, .p 3 0)], [(3, .st false (eD (eInstr p1)))] ++ H_Checker x22⟩ (And.intro (And.intro (IH_valid_checker_inner x20.2 p1.body p1.result p1.result x22 hx23) True.intro) True.intro) (by kernel_rfl) ?_
            refine AW2.seq ?_
            obtain ⟨x24, hx25, H⟩ := bind_some H
            refine AW2.rg [.c [1000, 1001, 1002, 1003] [] [1000] (.tup []) (H_Checker x24)] [0, 3] [] [.k 3, .k 1000, .k 1001, .k 1002, .k 1003] ⟨[(0, .p 1000 0), (3, .p 3 0)], [(3, .st false (eD (eInstr p1)))] ++ H_Checker x24⟩ (And.intro (And.intro (IH_valid_checker_inner x22 p1.els p1.result p1.result x24 hx25) True.intro) True.intro) (by kernel_rfl) ?_
            obtain ⟨x26, hx27, H⟩ := bind_some H
            refine AW2.rg [.c [1000, 1001, 1002, 1003] [] [1000] (.tup []) (H_Checker x26)] [] [] [.k 1000, .k 1001, .k 1002, .k 1003] ⟨[], H_Checker x26⟩ (And.intro (And.intro (c_valid_checker_lay x24 p1.result x26 hx27) True.intro) True.intro) (by kernel_rfl) ?_
            have H := Option.some.inj H
            subst H
            exact retS_mkn3 [] [.k 1000, .k 1001, .k 1002, .k 1003] True.intro (by kernel_rfl) (by kernel_rfl)
          · replace H := ite_f H hc
            refine AW2.seq ?_
            refine AW2.rg [] [0, 3, 7, 86] [] [.k 3, .k 1000, .k 1001, .k 1002, .k 1003] ⟨[(0, .p 1000 0), (3, .p 3 0), (7, .d (.int .u8 p1.op)), (86, .d (.bool (p1.op == (12 : Int))))], [(3, .st false (eD (eInstr p1)))] ++ H_Checker p0⟩ (And.intro True.intro True.intro) (by kernel_rfl) ?_
            refine AW2.cond (b := (p1.op == (12 : Int))) rfl (fun hc => ?_) (fun hc => ?_)
            · replace H := ite_t H hc
              refine AW2.seq ?_
              obtain ⟨x31, hx32, H⟩ := bind_some H
              obtain ⟨x33, hx34, H⟩ := bind_some H
              refine AW2.rg [.c [1000, 1001, 1002, 1003] [] [1000] (.d (.int .u8 x31.1)) (H_Checker x31.2), .c [1000, 1001, 1002, 1003] [] [1000] (.d (.int .u8 x33.1)) (H_Checker x33.2)] [0] [] [.k 1000, .k 1001, .k 1002, .k 1003] ⟨[(0, .p 1000 0)], H_Checker x33.2⟩ (And.intro (And.intro (c_valid_checker_label p0 p1.n x31 hx32) (And.intro (c_valid_checker_take x31.2 x31.1 x33 hx34) True.intro)) True.intro) (by kernel_rfl) ?_
              obtain ⟨x35, hx36, H⟩ := bind_some H
              refine AW2.rg [.c [1000, 1001, 1002, 1003] [] [1000] (.tup []) (H_Checker x35)] [] [] [.k 1000, .k 1001, .k 1002, .k 1003] ⟨[], H_Checker x35⟩ (And.intro (And.intro (c_valid_checker_leave x33.2 x35 hx36) True.intro) True.intro) (by kernel_rfl) ?_
              have H := Option.some.inj H
              subst H
              exact retS_mkn3 [] [.k 1000, .k 1001, .k 1002, .k 1003] True.intro (by kernel_rfl) (by kernel_rfl)
            · replace H := ite_f H hc
              refine AW2.seq ?_
              refine AW2.rg [] [0, 3, 7, 96] [] [.k 3, .k 1000, .k 1001, .k 1002, .k 1003] ⟨[(0, .p 1000 0), (3, .p 3 0), (7, .d (.int .u8 p1.op)), (96, .d (.bool (p1.op == (13 : Int))))], [(3, .st false (eD (eInstr p1)))] ++ H_Checker p0⟩ (And.intro True.intro True.intro) (by kernel_rfl) ?_
              refine AW2.cond (b := (p1.op == (13 : Int))) rfl (fun hc => ?_) (fun hc => ?_)
              · replace H := ite_t H hc
                refine AW2.seq ?_
                obtain ⟨x37, hx38, H⟩ := bind_some H
                refine AW2.rg [.c [1000, 1001, 1002, 1003] [] [1000] (.d (.int .u8 x37.1)) (H_Checker x37.2)] [0, 3] [] [.k 3, .k 1000, .k 1001, .k 1002, .k 1003] ⟨[(0, .p 1000 0), (3, .p 3 0)], [(3, .st false (eD (eInstr p1)))] ++ H_Checker x37.2⟩ (And.intro (And.intro (c_valid_checker_take p0 127 x37 hx38) True.intro) True.intro) (by kernel_rfl) ?_
                refine AW2.seq ?_
                obtain ⟨x39, hx40, H⟩ := bind_some H
                refine AW2.rg [.c [1000, 1001, 1002, 1003] [] [1000] (.d (.int .u8 x39.1)) (H_Checker x39.2)] [0, 5] [] [.k 1000, .k 1001, .k 1002, .k 1003] ⟨[(0, .p 1000 0), (5, .d (.int .u8 x39.1))], H_Checker x39.2⟩ (And.intro (And.intro (c_valid_checker_label x37.2 p1.n x39 hx40) True.intro) True.intro) (by kernel_rfl) ?_
                refine AW2.seq ?_
                obtain ⟨x41, hx42, H⟩ := bind_some H
                refine AW2.rg [.c [1000, 1001, 1002, 1003] [] [1000] (.d (.int .u8 x41.1)) (H_Checker x41.2)] [0, 5] [] [.k 1000, .k 1001, .k 1002, .k 1003] ⟨[(0, .p 1000 0), (5, .d (.int .u8 x39.1))], H_Checker x41.2⟩ (And.intro (And.intro (c_valid_checker_take x39.2 x39.1 x41 hx42) True.intro) True.intro) (by kernel_rfl) ?_
                obtain ⟨x43, hx44, H⟩ := bind_some H
                refine AW2.rg [.c [1000, 1001, 1002, 1003] [] [1000] (.tup []) (H_Checker x43)] [] [] [.k 1000, .k 1001, .k 1002, .k 1003] ⟨[], H_Checker x43⟩ (And.intro (And.intro (c_valid_checker_lay x41.2 x39.1 x43 hx44) True.intro) True.intro) (by kernel_rfl) ?_
                have H := Option.some.inj H
                subst H
                exact retS_mkn3 [] [.k 1000, .k 1001, .k 1002, .k 1003] True.intro (by kernel_rfl) (by kernel_rfl)
              · replace H := ite_f H hc
                refine AW2.seq ?_
                refine AW2.rg [] [0, 3, 7, 110] [] [.k 3, .k 1000, .k 1001, .k 1002, .k 1003] ⟨[(0, .p 1000 0), (3, .p 3 0), (7, .d (.int .u8 p1.op)), (110, .d (.bool (p1.op == (14 : Int))))], [(3, .st false (eD (eInstr p1)))] ++ H_Checker p0⟩ (And.intro True.intro True.intro) (by kernel_rfl) ?_
                refine AW2.cond (b := (p1.op == (14 : Int))) rfl (fun hc => ?_) (fun hc => ?_)
                · replace H := ite_t H hc
                  obtain ⟨x45, hx46, H⟩ := bind_some H
                  refine AW2.rg [.c [1000, 1001, 1002, 1003] [] [1000] (.tup []) (H_Checker x45)] [] [] [.k 1000, .k 1001, .k 1002, .k 1003] ⟨[], H_Checker x45⟩ (And.intro (And.intro (c_valid_checker_table k p0 p1 x45 hx46) True.intro) True.intro) (by kernel_rfl) ?_
                  have H := Option.some.inj H
                  subst H
                  exact retS_mkn3 [] [.k 1000, .k 1001, .k 1002, .k 1003] True.intro (by kernel_rfl) (by kernel_rfl)
                · replace H := ite_f H hc
                  refine AW2.seq ?_
                  refine AW2.rg [] [0, 3, 7, 115] [] [.k 3, .k 1000, .k 1001, .k 1002, .k 1003] ⟨[(0, .p 1000 0), (3, .p 3 0), (7, .d (.int .u8 p1.op)), (115, .d (.bool (p1.op == (15 : Int))))], [(3, .st false (eD (eInstr p1)))] ++ H_Checker p0⟩ (And.intro True.intro True.intro) (by kernel_rfl) ?_
                  refine AW2.cond (b := (p1.op == (15 : Int))) rfl (fun hc => ?_) (fun hc => ?_)
                  · replace H := ite_t H hc
                    refine AW2.seq ?_
                    obtain ⟨x47, hx48, H⟩ := bind_some H
                    refine AW2.rg [.c [1000, 1001, 1002, 1003] [] [1000] (.d (.int .u8 x47.1)) (H_Checker x47.2)] [0] [] [.k 1000, .k 1001, .k 1002, .k 1003] ⟨[(0, .p 1000 0)], H_Checker x47.2⟩ (And.intro (And.intro (c_valid_checker_take p0 p0.t.result x47 hx48) True.intro) True.intro) (by kernel_rfl) ?_
                    obtain ⟨x49, hx50, H⟩ := bind_some H
                    refine AW2.rg [.c [1000, 1001, 1002, 1003] [] [1000] (.tup []) (H_Checker x49)] [] [] [.k 1000, .k 1001, .k 1002, .k 1003] ⟨[], H_Checker x49⟩ (And.intro (And.intro (c_valid_checker_leave x47.2 x49 hx50) True.intro) True.intro) (by kernel_rfl) ?_
                    have H := Option.some.inj H
                    subst H
                    exact retS_mkn3 [] [.k 1000, .k 1001, .k 1002, .k 1003] True.intro (by kernel_rfl) (by kernel_rfl)
                  · replace H := ite_f H hc
                    refine AW2.seq ?_
                    refine AW2.rg [] [0, 3, 7, 126] [] [.k 3, .k 1000, .k 1001, .k 1002, .k 1003] ⟨[(0, .p 1000 0), (3, .p 3 0), (7, .d (.int .u8 p1.op)), (126, .d (.bool (p1.op == (16 : Int))))], [(3, .st false (eD (eInstr p1)))] ++ H_Checker p0⟩ (And.intro True.intro True.intro) (by kernel_rfl) ?_
                    refine AW2.cond (b := (p1.op == (16 : Int))) rfl (fun hc => ?_) (fun hc => ?_)
                    · replace H := ite_t H hc
                      obtain ⟨x51, hx52, H⟩ := bind_some H
                      obtain ⟨x53, hx54, H⟩ := bind_some H
                      refine AW2.rg [.c [1000, 1001, 1002, 1003] [] [1000] (.agg (eD (eTyp x51.1))) (H_Checker x51.2), .c [1000, 1001, 1002, 1003] [] [1000] (.tup []) (H_Checker x53)] [] [] [.k 1000, .k 1001, .k 1002, .k 1003] ⟨[], H_Checker x53⟩ (And.intro (And.intro (c_valid_checker_function p0 p1.n x51 hx52) (And.intro (c_valid_checker_call x51.2 x51.1 x53 hx54) True.intro)) True.intro) (by kernel_rfl) ?_
                      have H := Option.some.inj H
                      subst H
                      exact retS_mkn3 [] [.k 1000, .k 1001, .k 1002, .k 1003] True.intro (by kernel_rfl) (by kernel_rfl)
                    · replace H := ite_f H hc
                      refine AW2.seq ?_
                      refine AW2.rg [] [0, 3, 134] [] [.k 3, .k 1000, .k 1001, .k 1002, .k 1003] ⟨[(0, .p 1000 0), (3, .p 3 0), (134, .d (.bool (p1.op == (17 : Int))))], [(3, .st false (eD (eInstr p1)))] ++ H_Checker p0⟩ (And.intro True.intro True.intro) (by kernel_rfl) ?_
                      refine AW2.cond (b := (p1.op == (17 : Int))) rfl (fun hc => ?_) (fun hc => ?_)
                      · replace H := ite_t H hc
                        refine AW2.seq ?_
                        obtain ⟨j55, H63, H⟩ := bind_some H
                        refine AW2.reg [] rfl (YW.to ⟨[(0, .p 1000 0), (3, .p 3 0)], [(3, .st false (eD (eInstr p1)))] ++ H_Checker j55⟩ ?qh64 ?h64)
                        case h64 =>
                          have H := H63
                          rcases bT p0.bad with hc1 | hc1
                          · replace H := ite_t H hc1
                            have H := Option.some.inj H
                            subst H
                            exact YW.fin [(141, true)] [] [0, 3] [] [.k 3, .k 1000, .k 1001, .k 1002, .k 1003] _ (And.intro (And.intro hc1 (And.intro hc1 (And.intro hc1 (And.intro hc1 (And.intro hc1 (And.intro hc1 (And.intro hc1 (And.intro hc1 True.intro)))))))) True.intro) (by kernel_rfl) rfl
                          · replace H := ite_f H hc1
                            have H := Option.some.inj H
                            subst H
                            exact YW.fin [(141, false)] [] [0, 3] [] [.k 3, .k 1000, .k 1001, .k 1002, .k 1003] _ (And.intro (And.intro hc1 (And.intro hc1 (And.intro hc1 (And.intro hc1 (And.intro hc1 (And.intro hc1 (And.intro hc1 (And.intro hc1 True.intro)))))))) True.intro) (by kernel_rfl) rfl
                        refine AW2.seq ?_
                        obtain ⟨x56, hx57, H⟩ := bind_some H
                        refine AW2.rg [.c [1000, 1001, 1002, 1003] [] [1000] (.d (.int .u8 x56.1)) (H_Checker x56.2)] [0, 3] [] [.k 3, .k 1000, .k 1001, .k 1002, .k 1003] ⟨[(0, .p 1000 0), (3, .p 3 0)], [(3, .st false (eD (eInstr p1)))] ++ H_Checker x56.2⟩ (And.intro (And.intro (c_valid_checker_take j55 127 x56 hx57) True.intro) True.intro) (by kernel_rfl) ?_
                        obtain ⟨x58, hx59, H⟩ := bind_some H
                        obtain ⟨x60, hx61, H⟩ := bind_some H
                        refine AW2.rg [.c [1000, 1001, 1002, 1003] [] [1000] (.agg (eD (eTyp x58.1))) (H_Checker x58.2), .c [1000, 1001, 1002, 1003] [] [1000] (.tup []) (H_Checker x60)] [] [] [.k 1000, .k 1001, .k 1002, .k 1003] ⟨[], H_Checker x60⟩ (And.intro (And.intro (c_valid_checker_typ x56.2 p1.n x58 hx59) (And.intro (c_valid_checker_call x58.2 x58.1 x60 hx61) True.intro)) True.intro) (by kernel_rfl) ?_
                        have H := Option.some.inj H
                        subst H
                        exact retS_mkn3 [] [.k 1000, .k 1001, .k 1002, .k 1003] True.intro (by kernel_rfl) (by kernel_rfl)
                      · replace H := ite_f H hc
                        refine AW2.rg [] [] [] [.k 1000, .k 1001, .k 1002, .k 1003] ⟨[], H_Checker (Checker.mk p0.m p0.t p0.locals p0.stack p0.frames p0.labels p0.most true)⟩ (And.intro True.intro True.intro) (by kernel_rfl) ?_
                        have H := Option.some.inj H
                        subst H
                        exact retS_mkn3 [] [.k 1000, .k 1001, .k 1002, .k 1003] True.intro (by kernel_rfl) (by kernel_rfl)
      · have H := H66
        refine AW2.seq ?_
        refine AW2.rg [] [0, 3, 7, 17] [] [.k 3, .k 1000, .k 1001, .k 1002, .k 1003] ⟨[(0, .p 1000 0), (3, .p 3 0), (7, .d (.int .u8 p1.op)), (17, .d (.bool (p1.op == (2 : Int))))], [(3, .st false (eD (eInstr p1)))] ++ H_Checker p0⟩ (And.intro True.intro True.intro) (by kernel_rfl) ?_
        refine AW2.cond (b := (p1.op == (2 : Int))) rfl (fun hc => ?_) (fun hc => ?_)
        · replace H := ite_t H hc
          refine AW2.skip ?_
          have H := Option.some.inj H
          subst H
          exact wk_mk [0, 3, 7, 17] [] [.k 3, .k 1000, .k 1001, .k 1002, .k 1003] True.intro (by kernel_rfl)
        · replace H := ite_f H hc
          refine AW2.rg [] [0, 3, 7, 17] [] [.k 3, .k 1000, .k 1001, .k 1002, .k 1003] ⟨[(0, .p 1000 0), (3, .p 3 0), (7, .d (.int .u8 p1.op)), (17, .d (.bool (p1.op == (3 : Int))))], [(3, .st false (eD (eInstr p1)))] ++ H_Checker p0⟩ (And.intro True.intro True.intro) (by kernel_rfl) ?_
          have H := Option.some.inj H
          subst H
          exact wk_mk [0, 3, 7, 17] [] [.k 3, .k 1000, .k 1001, .k 1002, .k 1003] True.intro (by kernel_rfl)
theorem s_valid_checker_list (k : Nat) (IH_valid_checker_inner : ∀ (p0 : Checker) (p1 : List Instr) (p2 : Int) (p3 : Int) (r : Checker), g_valid_checker_inner k p0 p1 p2 p3 = some r → CM E 70 [.p 1000 0, .d (sVI p1), .d (.int .u8 p2), .d (.int .u8 p3)] (H_Checker p0) [] [1000] (fun a b => a = (.tup [] : LV) ∧ b = H_Checker r)) (IH_valid_checker_control : ∀ (p0 : Checker) (p1 : Instr) (r : Checker), g_valid_checker_control k p0 p1 = some r → CM E 55 [.p 1000 0, .agg (eD (eInstr p1))] (H_Checker p0) [] [1000] (fun a b => a = (.tup [] : LV) ∧ b = H_Checker r)) (IH_valid_checker_list : ∀ (p0 : Checker) (p1 : List Instr) (r : Checker), g_valid_checker_list k p0 p1 = some r → CM E 39 [.p 1000 0, .d (sVI p1)] (H_Checker p0) [] [1000] (fun a b => a = (.tup [] : LV) ∧ b = H_Checker r)) : ∀ (p0 : Checker) (p1 : List Instr) (r : Checker), g_valid_checker_list (k + 1) p0 p1 = some r → CM E 39 [.p 1000 0, .d (sVI p1)] (H_Checker p0) [] [1000] (fun a b => a = (.tup [] : LV) ∧ b = H_Checker r) := by
  intro p0 p1 r H
  refine cs_of (A := F_valid_checker_list) fn_valid_checker_list fun fr => ?_
  unfold g_valid_checker_list at H
  refine AW2.seq ?_
  refine AW2.rg [] [0, 6, 7, 8] [] [.k 1000, .k 1001, .k 1002, .k 1003] ⟨[(0, .p 1000 0), (6, .d (sVI p1)), (7, .d (.int .i64 (p1.length : Int))), (8, .d (.int .i64 0))], H_Checker p0⟩ (And.intro True.intro True.intro) (by kernel_rfl) ?_
  refine AW2.block ?_
  refine AW2.lpR (σ := Checker × Int) (fun v => ⟨[(0, .p 1000 0), (6, .d (sVI p1)), (7, .d (.int .i64 (p1.length : Int))), (8, .d (.int .i64 v.2))], H_Checker v.1⟩) ?_ (v := (p0, 0)) H
  rintro rec5 ⟨a3, a4⟩ H
  dsimp only at H
  refine AW2.seq ?_
  refine AW2.rg [] [0, 6, 7, 8, 9] [] [.k 1000, .k 1001, .k 1002, .k 1003] ⟨[(0, .p 1000 0), (6, .d (sVI p1)), (7, .d (.int .i64 (p1.length : Int))), (8, .d (.int .i64 a4)), (9, .d (.bool (decide (a4 < (p1.length : Int)))))], H_Checker a3⟩ (And.intro True.intro True.intro) (by kernel_rfl) ?_
  refine AW2.seq ?_
  refine AW2.cond (b := (decide (a4 < (p1.length : Int)))) rfl (fun hc => ?_) (fun hc => ?_)
  · replace H := ite_t H hc
    refine AW2.skip ?_
    refine AW2.seq ?_
    refine AW2.block ?_
    refine AW2.seq ?_
    obtain ⟨h6, H⟩ := gd_some H
    refine AW2.rg [.e (eInstr (p1.getD a4.toNat default)), .k 5] [0, 5, 6, 7, 8] [] [.k 5, .k 1000, .k 1001, .k 1002, .k 1003] ⟨[(0, .p 1000 0), (5, .p 5 0), (6, .d (sVI p1)), (7, .d (.int .i64 (p1.length : Int))), (8, .d (.int .i64 a4))], [(5, .st false (eD (eInstr (p1.getD a4.toNat default))))] ++ H_Checker a3⟩ (And.intro (And.intro h6 (And.intro (flI_ix h6) True.intro)) True.intro) (by kernel_rfl) ?_
    refine AW2.seq ?_
    refine AW2.seq ?_
    refine AW2.rg [] [0, 5, 6, 7, 8, 15] [] [.k 5, .k 1000, .k 1001, .k 1002, .k 1003] ⟨[(0, .p 1000 0), (5, .p 5 0), (6, .d (sVI p1)), (7, .d (.int .i64 (p1.length : Int))), (8, .d (.int .i64 a4)), (15, .d (.bool a3.bad))], [(5, .st false (eD (eInstr (p1.getD a4.toNat default))))] ++ H_Checker a3⟩ (And.intro True.intro True.intro) (by kernel_rfl) ?_
    refine AW2.cond (b := a3.bad) rfl (fun hc => ?_) (fun hc => ?_)
    · replace H := ite_t H hc
      refine AW2.ret ?_
      have H := Option.some.inj H
      subst H
      exact retS_mk3 [] [.k 1000, .k 1001, .k 1002, .k 1003] True.intro (by kernel_rfl) (by kernel_rfl)
    · replace H := ite_f H hc
      refine AW2.skip ?_
      refine AW2.seq ?_
      refine AW2.rg [] [0, 5, 6, 7, 8, 18] [] [.k 5, .k 1000, .k 1001, .k 1002, .k 1003] ⟨[(0, .p 1000 0), (5, .p 5 0), (6, .d (sVI p1)), (7, .d (.int .i64 (p1.length : Int))), (8, .d (.int .i64 a4)), (18, .d (.bool (decide ((((p1.getD a4.toNat default)).op) < (26 : Int)))))], [(5, .st false (eD (eInstr (p1.getD a4.toNat default))))] ++ H_Checker a3⟩ (And.intro True.intro True.intro) (by kernel_rfl) ?_
      refine AW2.cond (b := (decide ((((p1.getD a4.toNat default)).op) < (26 : Int)))) rfl (fun hc => ?_) (fun hc => ?_)
      · replace H := ite_t H hc
        obtain ⟨x7, hx8, H⟩ := bind_some H
        refine AW2.rg [.c [1000, 1001, 1002, 1003] [] [1000] (.tup []) (H_Checker x7)] [0, 6, 7, 8] [] [.k 1000, .k 1001, .k 1002, .k 1003] ⟨[(0, .p 1000 0), (6, .d (sVI p1)), (7, .d (.int .i64 (p1.length : Int))), (8, .d (.int .i64 a4))], H_Checker x7⟩ (And.intro (And.intro (IH_valid_checker_control a3 (p1.getD a4.toNat default) x7 hx8) True.intro) True.intro) (by kernel_rfl) ?_
        refine AW2.rg [] [0, 6, 7, 8] [] [.k 1000, .k 1001, .k 1002, .k 1003] ⟨[(0, .p 1000 0), (6, .d (sVI p1)), (7, .d (.int .i64 (p1.length : Int))), (8, .d (.int .i64 (wI (a4 + 1))))], H_Checker x7⟩ (And.intro True.intro True.intro) (by kernel_rfl) ?_
        exact ⟨(x7, (wI (a4 + 1))), H, wk_mk [0, 6, 7, 8] [] [.k 1000, .k 1001, .k 1002, .k 1003] True.intro (by kernel_rfl)⟩
      · replace H := ite_f H hc
        obtain ⟨x9, hx10, H⟩ := bind_some H
        refine AW2.rg [.c [1000, 1001, 1002, 1003] [] [1000] (.tup []) (H_Checker x9)] [0, 6, 7, 8] [] [.k 1000, .k 1001, .k 1002, .k 1003] ⟨[(0, .p 1000 0), (6, .d (sVI p1)), (7, .d (.int .i64 (p1.length : Int))), (8, .d (.int .i64 a4))], H_Checker x9⟩ (And.intro (And.intro (c_valid_checker_simple a3 (p1.getD a4.toNat default) x9 hx10) True.intro) True.intro) (by kernel_rfl) ?_
        refine AW2.rg [] [0, 6, 7, 8] [] [.k 1000, .k 1001, .k 1002, .k 1003] ⟨[(0, .p 1000 0), (6, .d (sVI p1)), (7, .d (.int .i64 (p1.length : Int))), (8, .d (.int .i64 (wI (a4 + 1))))], H_Checker x9⟩ (And.intro True.intro True.intro) (by kernel_rfl) ?_
        exact ⟨(x9, (wI (a4 + 1))), H, wk_mk [0, 6, 7, 8] [] [.k 1000, .k 1001, .k 1002, .k 1003] True.intro (by kernel_rfl)⟩
  · replace H := ite_f H hc
    refine AW2.exit ?_
    have H := Option.some.inj H
    subst H
    exact retS_mkn3 [] [.k 1000, .k 1001, .k 1002, .k 1003] True.intro (by kernel_rfl) (by kernel_rfl)
theorem c_scc_valid_checker_inner : ∀ k, (∀ (p0 : Checker) (p1 : List Instr) (p2 : Int) (p3 : Int) (r : Checker), g_valid_checker_inner k p0 p1 p2 p3 = some r → CM E 70 [.p 1000 0, .d (sVI p1), .d (.int .u8 p2), .d (.int .u8 p3)] (H_Checker p0) [] [1000] (fun a b => a = (.tup [] : LV) ∧ b = H_Checker r)) ∧ (∀ (p0 : Checker) (p1 : Instr) (r : Checker), g_valid_checker_control k p0 p1 = some r → CM E 55 [.p 1000 0, .agg (eD (eInstr p1))] (H_Checker p0) [] [1000] (fun a b => a = (.tup [] : LV) ∧ b = H_Checker r)) ∧ (∀ (p0 : Checker) (p1 : List Instr) (r : Checker), g_valid_checker_list k p0 p1 = some r → CM E 39 [.p 1000 0, .d (sVI p1)] (H_Checker p0) [] [1000] (fun a b => a = (.tup [] : LV) ∧ b = H_Checker r)) := by
  intro k
  induction k with
  | zero => exact ⟨fun _ _ _ _ _ H => (by cases H), fun _ _ _ H => (by cases H), fun _ _ _ H => (by cases H)⟩
  | succ k ih =>
    obtain ⟨i0, i1, i2⟩ := ih
    exact ⟨s_valid_checker_inner k i0 i1 i2, s_valid_checker_control k i0 i1 i2, s_valid_checker_list k i0 i1 i2⟩
theorem c_valid_checker_list (k : Nat) : ∀ (p0 : Checker) (p1 : List Instr) (r : Checker), g_valid_checker_list k p0 p1 = some r → CM E 39 [.p 1000 0, .d (sVI p1)] (H_Checker p0) [] [1000] (fun a b => a = (.tup [] : LV) ∧ b = H_Checker r) := (c_scc_valid_checker_inner k).2.2

end Go.Proofs.YtablleokoifolaaGreatDoor

/- Plain functions and their contracts. Written by a program of this claim set (g2.py). -/
set_option linter.unusedVariables false
set_option maxRecDepth 100000
set_option maxHeartbeats 4000000
namespace Go.Proofs.YtablleokoifolaaGreatDoor
open Go

/- mandrel/valid.check -/
def g_valid_check (K : Nat) (p0 : Mdl) (p1 : Int) : Option (Option Checker × Option Int) := ((if (decide (p1 < (0 : Int))) = true then some true else (if (decide (p1 ≥ (p0.funcs.length : Int))) = true then some true else gd (0 ≤ p1 ∧ p1 < (p0.funcs.length : Int)) ((if (decide ((((p0.funcs.getD p1.toNat default)).type_) ≥ (IntKind.wrap .u32 (p0.types.length : Int)))) = true then some true else ((g_valid_kinds K p0).bind fun x2 => some (!x2))))))).bind (fun j4 => (if j4 = true then some (none, (some 1)) else gd (0 ≤ p1 ∧ p1 < (p0.funcs.length : Int)) (gd (0 ≤ (((p0.funcs.getD p1.toNat default)).type_) ∧ (((p0.funcs.getD p1.toNat default)).type_) < (p0.types.length : Int)) (gd (0 ≤ p1 ∧ p1 < (p0.funcs.length : Int)) (((g_slices_Concat_api_Kind_api_Kind K ([((p0.types.getD (((p0.funcs.getD p1.toNat default)).type_).toNat default)).params, ((p0.funcs.getD p1.toNat default)).locals] : List (List Int))).bind fun x8 => gd (0 ≤ p1 ∧ p1 < (p0.funcs.length : Int)) (((g_valid_checker_list K (Checker.mk p0 (p0.types.getD (((p0.funcs.getD p1.toNat default)).type_).toNat default) x8 ([] : List Int) ([(Frame.mk 0 false false)] : List Frame) ([((p0.types.getD (((p0.funcs.getD p1.toNat default)).type_).toNat default)).result] : List Int) 0 false) (((p0.funcs.getD p1.toNat default)).body)).bind fun x11 => ((g_valid_checker_take x11 (((p0.types.getD (((p0.funcs.getD p1.toNat default)).type_).toNat default)).result)).bind fun x13 => (if (x13.2.bad || (decide ((x13.2.stack.length : Int) > (0 : Int)))) = true then some (none, (some 7)) else some ((some x13.2), none)))))))))))

theorem c_valid_check (K : Nat) (p0 : Mdl) (p1 : Int) (r : Option Checker × Option Int) (H : g_valid_check K p0 p1 = some r) : CF E 24 [.agg (eMdl p0), .int .i64 p1] (.tup [.pt (r.1.map eChecker), .err 45 r.2]) := by
  refine cf_of (A := F_valid_check) fn_valid_check rfl fun fr => ?_
  unfold g_valid_check at H
  refine AW2.seq ?_
  refine AW2.rg [.k 2] [1, 2] [] [.k 2] ⟨[(1, .d (.int .i64 p1)), (2, .p 2 0)], [(2, .st false (eD (eMdl p0)))]⟩ (And.intro True.intro True.intro) (by kernel_rfl) ?_
  refine AW2.seq ?_
  refine AW2.seq ?_
  obtain ⟨j4, H17, H⟩ := bind_some H
  refine AW2.reg [] rfl (YW.to ⟨[(1, .d (.int .i64 p1)), (2, .p 2 0), (34, .d (.bool j4))], [(2, .st false (eD (eMdl p0)))]⟩ ?qh18 ?h18)
  case h18 =>
    have H := H17
    rcases bT (decide (p1 < (0 : Int))) with hc1 | hc1
    · replace H := ite_t H hc1
      have H := Option.some.inj H
      subst H
      exact YW.fin [(10, true), (17, true), (30, true)] [] [1, 2, 34] [] [.k 2] _ (And.intro (And.intro hc1 (And.intro hc1 (And.intro hc1 (And.intro hc1 (And.intro hc1 (And.intro hc1 (And.intro (Eq.refl true) (And.intro (Eq.refl true) (And.intro (Eq.refl true) (And.intro (Eq.refl true) (And.intro (Eq.refl true) (And.intro (Eq.refl true) (And.intro (Eq.refl true) (And.intro (Eq.refl true) (And.intro (Eq.refl true) (And.intro (Eq.refl true) (And.intro (Eq.refl true) (And.intro (Eq.refl true) (And.intro (Eq.refl true) (And.intro (Eq.refl true) (And.intro (Eq.refl true) (And.intro (Eq.refl true) True.intro)))))))))))))))))))))) True.intro) (by kernel_rfl) rfl
    · replace H := ite_f H hc1
      rcases bT (decide (p1 ≥ (p0.funcs.length : Int))) with hc2 | hc2
      · replace H := ite_t H hc2
        have H := Option.some.inj H
        subst H
        exact YW.fin [(10, false), (17, true), (30, true)] [] [1, 2, 34] [] [.k 2] _ (And.intro (And.intro hc1 (And.intro hc1 (And.intro hc1 (And.intro hc1 (And.intro hc1 (And.intro hc1 (And.intro hc2 (And.intro hc2 (And.intro hc2 (And.intro hc2 (And.intro hc2 (And.intro hc2 (And.intro hc2 (And.intro hc2 (And.intro hc2 (And.intro hc2 (And.intro hc2 (And.intro hc2 (And.intro (Eq.refl true) (And.intro (Eq.refl true) (And.intro (Eq.refl true) (And.intro (Eq.refl true) True.intro)))))))))))))))))))))) True.intro) (by kernel_rfl) rfl
      · replace H := ite_f H hc2
        obtain ⟨h1, H⟩ := gd_some H
        rcases bT (decide ((((p0.funcs.getD p1.toNat default)).type_) ≥ (IntKind.wrap .u32 (p0.types.length : Int)))) with hc3 | hc3
        · replace H := ite_t H hc3
          have H := Option.some.inj H
          subst H
          exact YW.fin [(10, false), (17, false), (30, true)] [] [1, 2, 34] [] [.k 2] _ (And.intro (And.intro hc1 (And.intro hc1 (And.intro hc1 (And.intro hc1 (And.intro hc1 (And.intro hc1 (And.intro hc2 (And.intro hc2 (And.intro hc2 (And.intro hc2 (And.intro h1 (And.intro hc2 (And.intro hc2 (And.intro hc2 (And.intro hc2 (And.intro hc2 (And.intro hc2 (And.intro hc2 (And.intro hc2 (And.intro hc3 (And.intro hc3 (And.intro hc3 (And.intro hc3 True.intro))))))))))))))))))))))) True.intro) (by kernel_rfl) rfl
        · replace H := ite_f H hc3
          obtain ⟨x2, hx3, H⟩ := bind_some H
          have H := Option.some.inj H
          subst H
          exact YW.fin [(10, false), (17, false), (30, false)] [.r (.bool x2)] [1, 2, 34] [] [.k 2] _ (And.intro (And.intro hc1 (And.intro hc1 (And.intro hc1 (And.intro hc1 (And.intro hc1 (And.intro hc1 (And.intro hc2 (And.intro hc2 (And.intro hc2 (And.intro hc2 (And.intro h1 (And.intro hc2 (And.intro hc2 (And.intro hc2 (And.intro hc2 (And.intro hc2 (And.intro hc2 (And.intro hc2 (And.intro hc2 (And.intro hc3 (And.intro hc3 (And.intro (c_valid_kinds K p0 x2 hx3) (And.intro hc3 (And.intro hc3 True.intro)))))))))))))))))))))))) True.intro) (by kernel_rfl) rfl
  refine AW2.cond (b := j4) rfl (fun hc => ?_) (fun hc => ?_)
  · replace H := ite_t H hc
    refine AW2.seq ?_
    refine AW2.rg [] [4, 5] [] [] ⟨[(4, .d .nilp), (5, .d (.err 45 (some 1)))], []⟩ (And.intro True.intro True.intro) (by kernel_rfl) ?_
    refine AW2.ret ?_
    have H := Option.some.inj H
    subst H
    exact retP_mk2 True.intro (by kernel_rfl)
  · replace H := ite_f H hc
    refine AW2.skip ?_
    refine AW2.seq ?_
    obtain ⟨h5, H⟩ := gd_some H
    obtain ⟨h6, H⟩ := gd_some H
    refine AW2.rg [.k 6] [1, 2, 6] [] [.k 2, .k 6] ⟨[(1, .d (.int .i64 p1)), (2, .p 2 0), (6, .p 6 0)], [(2, .st false (eD (eMdl p0))), (6, .st false (eD (eTyp (p0.types.getD (((p0.funcs.getD p1.toNat default)).type_).toNat default))))]⟩ (And.intro (And.intro h5 (And.intro h6 True.intro)) True.intro) (by kernel_rfl) ?_
    refine AW2.seq ?_
    obtain ⟨h7, H⟩ := gd_some H
    obtain ⟨x8, hx9, H⟩ := bind_some H
    refine AW2.rg [.sb ([((p0.types.getD (((p0.funcs.getD p1.toNat default)).type_).toNat default)).params, ((p0.funcs.getD p1.toNat default)).locals] : List (List Int)).length (fl (eL (eI .u8)) ([((p0.types.getD (((p0.funcs.getD p1.toNat default)).type_).toNat default)).params, ((p0.funcs.getD p1.toNat default)).locals] : List (List Int))), .r (sV (eI .u8) x8), .k 1000] [1, 2, 6, 7] [] [.k 2, .k 6, .k 1000] ⟨[(1, .d (.int .i64 p1)), (2, .p 2 0), (6, .p 6 0), (7, .p 1000 0)], [(2, .st false (eD (eMdl p0))), (6, .st false (eD (eTyp (p0.types.getD (((p0.funcs.getD p1.toNat default)).type_).toNat default)))), (1000, .st false [.d (sV eTyp p0.types), .d (sV eFnc p0.funcs), .d (sV eLim p0.tables), .d (sV eLim p0.memories), .d (sV eGlo p0.globals), .d (sV eXpo p0.exports), .d (sV eEle p0.elems), .d (sV eDat p0.datas), .d (sV (eI .u8) (((p0.types.getD (((p0.funcs.getD p1.toNat default)).type_).toNat default)).params)), .d (.int .u8 (((p0.types.getD (((p0.funcs.getD p1.toNat default)).type_).toNat default)).result)), .d (sV (eI .u8) x8), .d .nils, .d .nils, .d .nils, .d (.int .i64 0), .d (.bool false)])]⟩ (And.intro (And.intro h7 (And.intro (litF (eL (eI .u8)) ([((p0.types.getD (((p0.funcs.getD p1.toNat default)).type_).toNat default)).params, ((p0.funcs.getD p1.toNat default)).locals] : List (List Int))) (And.intro (c_slices_Concat_api_Kind_api_Kind K ([((p0.types.getD (((p0.funcs.getD p1.toNat default)).type_).toNat default)).params, ((p0.funcs.getD p1.toNat default)).locals] : List (List Int)) x8 hx9) True.intro))) True.intro) (by kernel_rfl) ?_
    refine AW2.seq ?_
    refine AW2.reg [(1000, 0, 12)] (by kernel_rfl) (YW.fin [] [.ks true 1002 ([(Frame.mk 0 false false)] : List Frame).length (fl eFrame ([(Frame.mk 0 false false)] : List Frame)), .ks true 1003 ([((p0.types.getD (((p0.funcs.getD p1.toNat default)).type_).toNat default)).result] : List Int).length (fl (eI .u8) ([((p0.types.getD (((p0.funcs.getD p1.toNat default)).type_).toNat default)).result] : List Int))] [1, 2, 6, 7] [] [.k 2, .k 6, .k 1000, .k 1002, .k 1003] ⟨[(1, .d (.int .i64 p1)), (2, .p 2 0), (6, .p 6 0), (7, .p 1000 0)], [(2, .st false (eD (eMdl p0))), (6, .st false (eD (eTyp (p0.types.getD (((p0.funcs.getD p1.toNat default)).type_).toNat default)))), (1000, .st false [.d (sV eTyp p0.types), .d (sV eFnc p0.funcs), .d (sV eLim p0.tables), .d (sV eLim p0.memories), .d (sV eGlo p0.globals), .d (sV eXpo p0.exports), .d (sV eEle p0.elems), .d (sV eDat p0.datas), .d (sV (eI .u8) (((p0.types.getD (((p0.funcs.getD p1.toNat default)).type_).toNat default)).params)), .d (.int .u8 (((p0.types.getD (((p0.funcs.getD p1.toNat default)).type_).toNat default)).result)), .d (sV (eI .u8) x8), .d .nils, .ls 1002 0 ([(Frame.mk 0 false false)] : List Frame).length, .ls 1003 0 ([((p0.types.getD (((p0.funcs.getD p1.toNat default)).type_).toNat default)).result] : List Int).length, .d (.int .i64 0), .d (.bool false)]), (1002, .sl false 3 ([(Frame.mk 0 false false)] : List Frame).length (fl eFrame ([(Frame.mk 0 false false)] : List Frame))), (1003, .sl false 1 ([((p0.types.getD (((p0.funcs.getD p1.toNat default)).type_).toNat default)).result] : List Int).length (fl (eI .u8) ([((p0.types.getD (((p0.funcs.getD p1.toNat default)).type_).toNat default)).result] : List Int)))]⟩ (And.intro (And.intro (litK eFrame ([(Frame.mk 0 false false)] : List Frame) (fun _ => rfl)) (And.intro (litK (eI .u8) ([((p0.types.getD (((p0.funcs.getD p1.toNat default)).type_).toNat default)).result] : List Int) (fun _ => rfl)) True.intro)) True.intro) (by kernel_rfl) ?_)
    refine AW2.seq ?_
    refine AW2.cv [.c 1000 11 1001 1 (fl (eI .u8) ([] : List Int))] [1, 2, 6, 7] [] [.k 2, .k 6, .k 1000, .k 1001, .k 1002, .k 1003] ⟨[(1, .d (.int .i64 p1)), (2, .p 2 0), (6, .p 6 0), (7, .p 1000 0)], [(2, .st false (eD (eMdl p0))), (6, .st false (eD (eTyp (p0.types.getD (((p0.funcs.getD p1.toNat default)).type_).toNat default))))] ++ H_Checker (Checker.mk p0 (p0.types.getD (((p0.funcs.getD p1.toNat default)).type_).toNat default) x8 ([] : List Int) ([(Frame.mk 0 false false)] : List Frame) ([((p0.types.getD (((p0.funcs.getD p1.toNat default)).type_).toNat default)).result] : List Int) 0 false)⟩ True.intro (by kernel_rfl) ?_
    obtain ⟨h10, H⟩ := gd_some H
    obtain ⟨x11, hx12, H⟩ := bind_some H
    refine AW2.rg [.c [1000, 1001, 1002, 1003] [] [1000] (.tup []) (H_Checker x11)] [6, 7] [] [.k 6, .k 1000, .k 1001, .k 1002, .k 1003] ⟨[(6, .p 6 0), (7, .p 1000 0)], [(6, .st false (eD (eTyp (p0.types.getD (((p0.funcs.getD p1.toNat default)).type_).toNat default))))] ++ H_Checker x11⟩ (And.intro (And.intro h10 (And.intro (c_valid_checker_list K (Checker.mk p0 (p0.types.getD (((p0.funcs.getD p1.toNat default)).type_).toNat default) x8 ([] : List Int) ([(Frame.mk 0 false false)] : List Frame) ([((p0.types.getD (((p0.funcs.getD p1.toNat default)).type_).toNat default)).result] : List Int) 0 false) (((p0.funcs.getD p1.toNat default)).body) x11 hx12) True.intro)) True.intro) (by kernel_rfl) ?_
    refine AW2.seq ?_
    obtain ⟨x13, hx14, H⟩ := bind_some H
    refine AW2.rg [.c [1000, 1001, 1002, 1003] [] [1000] (.d (.int .u8 x13.1)) (H_Checker x13.2)] [7] [] [.k 1000, .k 1001, .k 1002, .k 1003] ⟨[(7, .p 1000 0)], H_Checker x13.2⟩ (And.intro (And.intro (c_valid_checker_take x11 (((p0.types.getD (((p0.funcs.getD p1.toNat default)).type_).toNat default)).result) x13 hx14) True.intro) True.intro) (by kernel_rfl) ?_
    refine AW2.seq ?_
    refine AW2.seq ?_
    refine AW2.reg [] rfl (YW.to ⟨[(7, .p 1000 0), (94, .d (.bool (x13.2.bad || (decide ((x13.2.stack.length : Int) > (0 : Int))))))], H_Checker x13.2⟩ ?qh15 ?h15)
    case h15 =>
      rcases bT x13.2.bad with hc1 | hc1
      · exact YW.fin [(87, true)] [] [7, 94] [(94, .d (.bool (x13.2.bad || (decide ((x13.2.stack.length : Int) > (0 : Int))))))] [.k 1000, .k 1001, .k 1002, .k 1003] _ (And.intro (And.intro hc1 (And.intro hc1 (And.intro hc1 (And.intro hc1 (And.intro hc1 (And.intro hc1 (And.intro hc1 True.intro))))))) (And.intro (ovB (orT (b := (decide ((x13.2.stack.length : Int) > (0 : Int)))) hc1)) True.intro)) (by kernel_rfl) rfl
      · exact YW.fin [(87, false)] [] [7, 94] [(94, .d (.bool (x13.2.bad || (decide ((x13.2.stack.length : Int) > (0 : Int))))))] [.k 1000, .k 1001, .k 1002, .k 1003] _ (And.intro (And.intro hc1 (And.intro hc1 (And.intro hc1 (And.intro hc1 (And.intro hc1 (And.intro hc1 (And.intro hc1 True.intro))))))) (And.intro (ovB (Eq.trans (orF (b := (decide ((x13.2.stack.length : Int) > (0 : Int)))) hc1) (Eq.refl (decide ((x13.2.stack.length : Int) > (0 : Int)))))) True.intro)) (by kernel_rfl) rfl
    refine AW2.cond (b := (x13.2.bad || (decide ((x13.2.stack.length : Int) > (0 : Int))))) rfl (fun hc => ?_) (fun hc => ?_)
    · replace H := ite_t H hc
      refine AW2.seq ?_
      refine AW2.rg [] [4, 5] [] [] ⟨[(4, .d .nilp), (5, .d (.err 45 (some 7)))], []⟩ (And.intro True.intro True.intro) (by kernel_rfl) ?_
      refine AW2.ret ?_
      have H := Option.some.inj H
      subst H
      exact retP_mk2 True.intro (by kernel_rfl)
    · replace H := ite_f H hc
      refine AW2.skip ?_
      refine AW2.seq ?_
      refine AW2.rg [] [4, 5] [] [.k 1000, .k 1001, .k 1002, .k 1003] ⟨[(4, .p 1000 0), (5, .d .nili)], H_Checker x13.2⟩ (And.intro True.intro True.intro) (by kernel_rfl) ?_
      refine AW2.ret ?_
      have H := Option.some.inj H
      subst H
      exact retP_mk2 (And.intro (Nat.le_refl x13.2.stack.length) (And.intro (dfl (eI .u8) (dep_eI .u8) x13.2.stack) (And.intro (Nat.le_refl x13.2.frames.length) (And.intro (dfl eFrame dep_eFrame x13.2.frames) (And.intro (Nat.le_refl x13.2.labels.length) (And.intro (dfl (eI .u8) (dep_eI .u8) x13.2.labels) True.intro)))))) (by kernel_rfl)

/- mandrel/valid.Body -/
def g_valid_Body (K : Nat) (p0 : Mdl) (p1 : Int) : Option (Option Int) := ((g_valid_check K p0 p1).bind fun x1 => some x1.2)

theorem c_valid_Body (K : Nat) (p0 : Mdl) (p1 : Int) (r : Option Int) (H : g_valid_Body K p0 p1 = some r) : CF E 6 [.agg (eMdl p0), .int .i64 p1] (.err 45 r) := by
  refine cf_of (A := F_valid_Body) fn_valid_Body rfl fun fr => ?_
  unfold g_valid_Body at H
  refine AW2.seq ?_
  refine AW2.rg [.k 2] [1, 2] [] [.k 2] ⟨[(1, .d (.int .i64 p1)), (2, .p 2 0)], [(2, .st false (eD (eMdl p0)))]⟩ (And.intro True.intro True.intro) (by kernel_rfl) ?_
  refine AW2.seq ?_
  obtain ⟨x1, hx2, H⟩ := bind_some H
  refine AW2.rg [.r (.tup [.pt (x1.1.map eChecker), .err 45 x1.2])] [6] [] [] ⟨[(6, .d (.err 45 x1.2))], []⟩ (And.intro (And.intro (c_valid_check K p0 p1 x1 hx2) True.intro) True.intro) (by kernel_rfl) ?_
  refine AW2.seq ?_
  refine AW2.rg [] [4] [] [] ⟨[(4, .d (.err 45 x1.2))], []⟩ (And.intro True.intro True.intro) (by kernel_rfl) ?_
  refine AW2.ret ?_
  have H := Option.some.inj H
  subst H
  exact retP_mk2 True.intro (by kernel_rfl)

/- mandrel/mandrelref08.kind -/
def g_ref08_kind (p0 : Int) (p1 : Bool) : Option (Bool) := some ((p0 == (127 : Int)) || ((p0 == (126 : Int)) || (p1 && (p0 == (0 : Int)))))

theorem c_ref08_kind (p0 : Int) (p1 : Bool) (r : Bool) (H : g_ref08_kind p0 p1 = some r) : CF E 41 [.int .u8 p0, .bool p1] (.bool r) := by
  refine cf_of (A := F_ref08_kind) fn_ref08_kind rfl fun fr => ?_
  unfold g_ref08_kind at H
  refine AW2.seq ?_
  refine AW2.rg [] [0, 1] [] [] ⟨[(0, .d (.int .u8 p0)), (1, .d (.bool p1))], []⟩ (And.intro True.intro True.intro) (by kernel_rfl) ?_
  refine AW2.seq ?_
  refine AW2.reg [] rfl (YW.to ⟨[(4, .d (.bool ((p0 == (127 : Int)) || ((p0 == (126 : Int)) || (p1 && (p0 == (0 : Int)))))))], []⟩ ?qh1 ?h1)
  case h1 =>
    rcases bT (p0 == (127 : Int)) with hc1 | hc1
    · exact YW.fin [(7, true), (11, true)] [] [4] [(4, .d (.bool ((p0 == (127 : Int)) || ((p0 == (126 : Int)) || (p1 && (p0 == (0 : Int)))))))] [] _ (And.intro (And.intro hc1 (And.intro hc1 (And.intro hc1 (And.intro (Eq.refl true) (And.intro (Eq.refl true) (And.intro (Eq.refl true) (And.intro (Eq.refl true) True.intro))))))) (And.intro (ovB (orT (b := ((p0 == (126 : Int)) || (p1 && (p0 == (0 : Int))))) hc1)) True.intro)) (by kernel_rfl) rfl
    · rcases bT (p0 == (126 : Int)) with hc2 | hc2
      · exact YW.fin [(7, false), (11, true)] [] [4] [(4, .d (.bool ((p0 == (127 : Int)) || ((p0 == (126 : Int)) || (p1 && (p0 == (0 : Int)))))))] [] _ (And.intro (And.intro hc1 (And.intro hc1 (And.intro hc1 (And.intro hc2 (And.intro hc2 (And.intro hc2 (And.intro hc2 True.intro))))))) (And.intro (ovB (Eq.trans (orF (b := ((p0 == (126 : Int)) || (p1 && (p0 == (0 : Int))))) hc1) (orT (b := (p1 && (p0 == (0 : Int)))) hc2))) True.intro)) (by kernel_rfl) rfl
      · rcases bT p1 with hc3 | hc3
        · exact YW.fin [(7, false), (11, false), (13, true)] [] [4] [(4, .d (.bool ((p0 == (127 : Int)) || ((p0 == (126 : Int)) || (p1 && (p0 == (0 : Int)))))))] [] _ (And.intro (And.intro hc1 (And.intro hc1 (And.intro hc1 (And.intro hc2 (And.intro hc2 (And.intro hc3 (And.intro hc3 (And.intro hc2 (And.intro hc3 (And.intro hc2 True.intro)))))))))) (And.intro (ovB (Eq.trans (orF (b := ((p0 == (126 : Int)) || (p1 && (p0 == (0 : Int))))) hc1) (Eq.trans (orF (b := (p1 && (p0 == (0 : Int)))) hc2) (Eq.trans (andT (b := (p0 == (0 : Int))) hc3) (Eq.refl (p0 == (0 : Int))))))) True.intro)) (by kernel_rfl) rfl
        · exact YW.fin [(7, false), (11, false), (13, false)] [] [4] [(4, .d (.bool ((p0 == (127 : Int)) || ((p0 == (126 : Int)) || (p1 && (p0 == (0 : Int)))))))] [] _ (And.intro (And.intro hc1 (And.intro hc1 (And.intro hc1 (And.intro hc2 (And.intro hc2 (And.intro hc3 (And.intro hc3 (And.intro hc2 (And.intro hc3 (And.intro hc2 True.intro)))))))))) (And.intro (ovB (Eq.trans (orF (b := ((p0 == (126 : Int)) || (p1 && (p0 == (0 : Int))))) hc1) (Eq.trans (orF (b := (p1 && (p0 == (0 : Int)))) hc2) (andF (b := (p0 == (0 : Int))) hc3)))) True.intro)) (by kernel_rfl) rfl
  refine AW2.ret ?_
  have H := Option.some.inj H
  subst H
  exact retP_mk2 True.intro (by kernel_rfl)

end Go.Proofs.YtablleokoifolaaGreatDoor

/- Plain functions and their contracts. Written by a program of this claim set (g2.py). -/
set_option linter.unusedVariables false
set_option maxRecDepth 100000
set_option maxHeartbeats 4000000
namespace Go.Proofs.YtablleokoifolaaGreatDoor
open Go

/- mandrel/mandrelref08.kinds -/
def g_ref08_kinds_l0 : Nat → Mdl → Bool → Int → Option (Bool)
  | 0, _, _, _ => none
  | k+1, p0, a6, a7 => (if (decide (a7 < (p0.globals.length : Int))) = true then ((if a6 = true then gd (0 ≤ a7 ∧ a7 < (p0.globals.length : Int)) (((g_ref08_kind (((p0.globals.getD a7.toNat default)).kind) false).bind fun x9 => some x9)) else some false)).bind (fun j11 => g_ref08_kinds_l0 k p0 j11 (wI (a7 + 1))) else some a6)

def g_ref08_kinds_l2 : Nat → Mdl → Int → Bool → Int → Option (Bool)
  | 0, _, _, _, _ => none
  | k+1, p0, a20, a24, a25 => gd (0 ≤ a20 ∧ a20 < (p0.funcs.length : Int)) ((if (decide (a25 < ((((p0.funcs.getD a20.toNat default)).locals).length : Int))) = true then ((if a24 = true then gd (0 ≤ a20 ∧ a20 < (p0.funcs.length : Int)) (gd (0 ≤ a25 ∧ a25 < ((((p0.funcs.getD a20.toNat default)).locals).length : Int)) (((g_ref08_kind ((((p0.funcs.getD a20.toNat default)).locals).getD a25.toNat default) false).bind fun x29 => some x29))) else some false)).bind (fun j31 => g_ref08_kinds_l2 k p0 a20 j31 (wI (a25 + 1))) else some a24))

def g_ref08_kinds_l1 : Nat → Nat → Mdl → Bool → Int → Option (Bool)
  | 0, _, _, _, _ => none
  | k+1, K, p0, a19, a20 => (if (decide (a20 < (p0.funcs.length : Int))) = true then (g_ref08_kinds_l2 K p0 a20 a19 0).bind (fun j21 => g_ref08_kinds_l1 k K p0 j21 (wI (a20 + 1))) else some a19)

def g_ref08_kinds_l4 : Nat → Mdl → Int → Bool → Int → Option (Bool)
  | 0, _, _, _, _ => none
  | k+1, p0, a42, a50, a51 => gd (0 ≤ a42 ∧ a42 < (p0.types.length : Int)) ((if (decide (a51 < ((((p0.types.getD a42.toNat default)).params).length : Int))) = true then ((if a50 = true then gd (0 ≤ a42 ∧ a42 < (p0.types.length : Int)) (gd (0 ≤ a51 ∧ a51 < ((((p0.types.getD a42.toNat default)).params).length : Int)) (((g_ref08_kind ((((p0.types.getD a42.toNat default)).params).getD a51.toNat default) false).bind fun x55 => some x55))) else some false)).bind (fun j57 => g_ref08_kinds_l4 k p0 a42 j57 (wI (a51 + 1))) else some a50))

def g_ref08_kinds_l3 : Nat → Nat → Mdl → Bool → Int → Option (Bool)
  | 0, _, _, _, _ => none
  | k+1, K, p0, a41, a42 => (if (decide (a42 < (p0.types.length : Int))) = true then (((if a41 = true then gd (0 ≤ a42 ∧ a42 < (p0.types.length : Int)) (((g_ref08_kind (((p0.types.getD a42.toNat default)).result) true).bind fun x45 => some x45)) else some false)).bind (fun j47 => g_ref08_kinds_l4 K p0 a42 j47 0)).bind (fun j43 => g_ref08_kinds_l3 k K p0 j43 (wI (a42 + 1))) else some a41)

def g_ref08_kinds (K : Nat) (p0 : Mdl) : Option (Bool) := (g_ref08_kinds_l3 K K p0 true 0).bind (fun j1 => (g_ref08_kinds_l1 K K p0 j1 0).bind (fun j2 => (g_ref08_kinds_l0 K p0 j2 0).bind (fun j3 => some j3)))

theorem c_ref08_kinds (K : Nat) (p0 : Mdl) (r : Bool) (H : g_ref08_kinds K p0 = some r) : CF E 25 [.agg (eMdl p0)] (.bool r) := by
  refine cf_of (A := F_ref08_kinds) fn_ref08_kinds rfl fun fr => ?_
  unfold g_ref08_kinds at H
  refine AW2.seq ?_
  refine AW2.rg [.k 1] [1] [] [.k 1] ⟨[(1, .p 1 0)], [(1, .st false (eD (eMdl p0)))]⟩ (And.intro True.intro True.intro) (by kernel_rfl) ?_
  refine AW2.seq ?_
  refine AW2.rg [] [1, 3] [] [.k 1] ⟨[(1, .p 1 0), (3, .d (.bool true))], [(1, .st false (eD (eMdl p0)))]⟩ (And.intro True.intro True.intro) (by kernel_rfl) ?_
  obtain ⟨j1, H67, H⟩ := bind_some H
  refine AW2.mid ⟨[(1, .p 1 0), (3, .d (.bool j1))], [(1, .st false (eD (eMdl p0)))]⟩ ?_ ?_
  · obtain ⟨j2, H38, H⟩ := bind_some H
    refine AW2.mid ⟨[(1, .p 1 0), (3, .d (.bool j2))], [(1, .st false (eD (eMdl p0)))]⟩ ?_ ?_
    · obtain ⟨j3, H16, H⟩ := bind_some H
      refine AW2.mid ⟨[(3, .d (.bool j3))], []⟩ ?_ ?_
      · refine AW2.seq ?_
        refine AW2.rg [] [2] [] [] ⟨[(2, .d (.bool j3))], []⟩ (And.intro True.intro True.intro) (by kernel_rfl) ?_
        refine AW2.ret ?_
        have H := Option.some.inj H
        subst H
        exact retP_mk2 True.intro (by kernel_rfl)
      · have H := H16
        refine AW2.seq ?_
        refine AW2.rg [] [1, 3, 8] [] [.k 1] ⟨[(1, .p 1 0), (3, .d (.bool j2)), (8, .d (.int .i64 0))], [(1, .st false (eD (eMdl p0)))]⟩ (And.intro True.intro True.intro) (by kernel_rfl) ?_
        refine AW2.block ?_
        refine AW2.lp (σ := Bool × Int) (fun v => ⟨[(1, .p 1 0), (3, .d (.bool v.1)), (8, .d (.int .i64 v.2))], [(1, .st false (eD (eMdl p0)))]⟩) (fun k v => g_ref08_kinds_l0 k p0 v.1 v.2 = some j3) ?_ K (j2, 0) H
        rintro k ⟨a6, a7⟩ H
        dsimp only at H
        cases k with
        | zero => cases H
        | succ k =>
        unfold g_ref08_kinds_l0 at H
        refine AW2.seq ?_
        refine AW2.seq ?_
        refine AW2.rg [] [1, 3, 8, 85] [] [.k 1] ⟨[(1, .p 1 0), (3, .d (.bool a6)), (8, .d (.int .i64 a7)), (85, .d (.bool (decide (a7 < (p0.globals.length : Int)))))], [(1, .st false (eD (eMdl p0)))]⟩ (And.intro True.intro True.intro) (by kernel_rfl) ?_
        refine AW2.cond (b := (decide (a7 < (p0.globals.length : Int)))) rfl (fun hc => ?_) (fun hc => ?_)
        · replace H := ite_t H hc
          refine AW2.skip ?_
          refine AW2.seq ?_
          refine AW2.block ?_
          obtain ⟨j11, H13, H⟩ := bind_some H
          refine AW2.reg [] rfl (YW.to ⟨[(1, .p 1 0), (3, .d (.bool j11)), (8, .d (.int .i64 a7))], [(1, .st false (eD (eMdl p0)))]⟩ ?qh14 ?h14)
          case h14 =>
            have H := H13
            rcases bT a6 with hc1 | hc1
            · replace H := ite_t H hc1
              obtain ⟨h8, H⟩ := gd_some H
              obtain ⟨x9, hx10, H⟩ := bind_some H
              have H := Option.some.inj H
              subst H
              exact YW.fin [(89, true)] [.r (.bool x9)] [1, 3, 8] [] [.k 1] _ (And.intro (And.intro hc1 (And.intro hc1 (And.intro hc1 (And.intro hc1 (And.intro h8 (And.intro hc1 (And.intro hc1 (And.intro hc1 (And.intro (c_ref08_kind (((p0.globals.getD a7.toNat default)).kind) false x9 hx10) (And.intro hc1 True.intro)))))))))) True.intro) (by kernel_rfl) rfl
            · replace H := ite_f H hc1
              have H := Option.some.inj H
              subst H
              exact YW.fin [(89, false)] [] [1, 3, 8] [] [.k 1] _ (And.intro (And.intro hc1 (And.intro hc1 (And.intro hc1 (And.intro hc1 (And.intro hc1 (And.intro hc1 (And.intro hc1 (And.intro hc1 True.intro)))))))) True.intro) (by kernel_rfl) rfl
          refine AW2.rg [] [1, 3, 8] [] [.k 1] ⟨[(1, .p 1 0), (3, .d (.bool j11)), (8, .d (.int .i64 (wI (a7 + 1))))], [(1, .st false (eD (eMdl p0)))]⟩ (And.intro True.intro True.intro) (by kernel_rfl) ?_
          exact ⟨k, (j11, (wI (a7 + 1))), Nat.lt_succ_self k, H, wk_mk [1, 3, 8] [] [.k 1] True.intro (by kernel_rfl)⟩
        · replace H := ite_f H hc
          refine AW2.exit ?_
          have H := Option.some.inj H
          subst H
          exact wk_mk [3] [] [] True.intro (by kernel_rfl)
    · have H := H38
      refine AW2.seq ?_
      refine AW2.rg [] [1, 3, 6] [] [.k 1] ⟨[(1, .p 1 0), (3, .d (.bool j1)), (6, .d (.int .i64 0))], [(1, .st false (eD (eMdl p0)))]⟩ (And.intro True.intro True.intro) (by kernel_rfl) ?_
      refine AW2.block ?_
      refine AW2.lp (σ := Bool × Int) (fun v => ⟨[(1, .p 1 0), (3, .d (.bool v.1)), (6, .d (.int .i64 v.2))], [(1, .st false (eD (eMdl p0)))]⟩) (fun k v => g_ref08_kinds_l1 k K p0 v.1 v.2 = some j2) ?_ K (j1, 0) H
      rintro k ⟨a19, a20⟩ H
      dsimp only at H
      cases k with
      | zero => cases H
      | succ k =>
      unfold g_ref08_kinds_l1 at H
      refine AW2.seq ?_
      refine AW2.seq ?_
      refine AW2.rg [] [1, 3, 6, 54] [] [.k 1] ⟨[(1, .p 1 0), (3, .d (.bool a19)), (6, .d (.int .i64 a20)), (54, .d (.bool (decide (a20 < (p0.funcs.length : Int)))))], [(1, .st false (eD (eMdl p0)))]⟩ (And.intro True.intro True.intro) (by kernel_rfl) ?_
      refine AW2.cond (b := (decide (a20 < (p0.funcs.length : Int)))) rfl (fun hc => ?_) (fun hc => ?_)
      · replace H := ite_t H hc
        refine AW2.skip ?_
        obtain ⟨j21, H36, H⟩ := bind_some H
        refine AW2.mid ⟨[(1, .p 1 0), (3, .d (.bool j21)), (6, .d (.int .i64 a20))], [(1, .st false (eD (eMdl p0)))]⟩ ?_ ?_
        · refine AW2.rg [] [1, 3, 6] [] [.k 1] ⟨[(1, .p 1 0), (3, .d (.bool j21)), (6, .d (.int .i64 (wI (a20 + 1))))], [(1, .st false (eD (eMdl p0)))]⟩ (And.intro True.intro True.intro) (by kernel_rfl) ?_
          exact ⟨k, (j21, (wI (a20 + 1))), Nat.lt_succ_self k, H, wk_mk [1, 3, 6] [] [.k 1] True.intro (by kernel_rfl)⟩
        · have H := H36
          refine AW2.block ?_
          refine AW2.seq ?_
          refine AW2.rg [] [1, 3, 6, 7] [] [.k 1] ⟨[(1, .p 1 0), (3, .d (.bool a19)), (6, .d (.int .i64 a20)), (7, .d (.int .i64 0))], [(1, .st false (eD (eMdl p0)))]⟩ (And.intro True.intro True.intro) (by kernel_rfl) ?_
          refine AW2.block ?_
          refine AW2.lp (σ := Bool × Int) (fun v => ⟨[(1, .p 1 0), (3, .d (.bool v.1)), (6, .d (.int .i64 a20)), (7, .d (.int .i64 v.2))], [(1, .st false (eD (eMdl p0)))]⟩) (fun k v => g_ref08_kinds_l2 k p0 a20 v.1 v.2 = some j21) ?_ K (a19, 0) H
          rintro k ⟨a24, a25⟩ H
          dsimp only at H
          cases k with
          | zero => cases H
          | succ k =>
          unfold g_ref08_kinds_l2 at H
          refine AW2.seq ?_
          refine AW2.seq ?_
          obtain ⟨h26, H⟩ := gd_some H
          refine AW2.rg [] [1, 3, 6, 7, 65] [] [.k 1] ⟨[(1, .p 1 0), (3, .d (.bool a24)), (6, .d (.int .i64 a20)), (7, .d (.int .i64 a25)), (65, .d (.bool (decide (a25 < ((((p0.funcs.getD a20.toNat default)).locals).length : Int)))))], [(1, .st false (eD (eMdl p0)))]⟩ (And.intro (And.intro h26 True.intro) True.intro) (by kernel_rfl) ?_
          refine AW2.cond (b := (decide (a25 < ((((p0.funcs.getD a20.toNat default)).locals).length : Int)))) rfl (fun hc => ?_) (fun hc => ?_)
          · replace H := ite_t H hc
            refine AW2.skip ?_
            refine AW2.seq ?_
            refine AW2.block ?_
            obtain ⟨j31, H33, H⟩ := bind_some H
            refine AW2.reg [] rfl (YW.to ⟨[(1, .p 1 0), (3, .d (.bool j31)), (6, .d (.int .i64 a20)), (7, .d (.int .i64 a25))], [(1, .st false (eD (eMdl p0)))]⟩ ?qh34 ?h34)
            case h34 =>
              have H := H33
              rcases bT a24 with hc1 | hc1
              · replace H := ite_t H hc1
                obtain ⟨h27, H⟩ := gd_some H
                obtain ⟨h28, H⟩ := gd_some H
                obtain ⟨x29, hx30, H⟩ := bind_some H
                have H := Option.some.inj H
                subst H
                exact YW.fin [(69, true)] [.r (.bool x29)] [1, 3, 6, 7] [] [.k 1] _ (And.intro (And.intro hc1 (And.intro hc1 (And.intro hc1 (And.intro hc1 (And.intro h27 (And.intro hc1 (And.intro hc1 (And.intro hc1 (And.intro hc1 (And.intro h28 (And.intro hc1 (And.intro hc1 (And.intro (c_ref08_kind ((((p0.funcs.getD a20.toNat default)).locals).getD a25.toNat default) false x29 hx30) (And.intro hc1 True.intro)))))))))))))) True.intro) (by kernel_rfl) rfl
              · replace H := ite_f H hc1
                have H := Option.some.inj H
                subst H
                exact YW.fin [(69, false)] [] [1, 3, 6, 7] [] [.k 1] _ (And.intro (And.intro hc1 (And.intro hc1 (And.intro hc1 (And.intro hc1 (And.intro hc1 (And.intro hc1 (And.intro hc1 (And.intro hc1 (And.intro hc1 (And.intro hc1 (And.intro hc1 True.intro))))))))))) True.intro) (by kernel_rfl) rfl
            refine AW2.rg [] [1, 3, 6, 7] [] [.k 1] ⟨[(1, .p 1 0), (3, .d (.bool j31)), (6, .d (.int .i64 a20)), (7, .d (.int .i64 (wI (a25 + 1))))], [(1, .st false (eD (eMdl p0)))]⟩ (And.intro True.intro True.intro) (by kernel_rfl) ?_
            exact ⟨k, (j31, (wI (a25 + 1))), Nat.lt_succ_self k, H, wk_mk [1, 3, 6, 7] [] [.k 1] True.intro (by kernel_rfl)⟩
          · replace H := ite_f H hc
            refine AW2.exit ?_
            have H := Option.some.inj H
            subst H
            exact wk_mk [1, 3, 6] [] [.k 1] True.intro (by kernel_rfl)
      · replace H := ite_f H hc
        refine AW2.exit ?_
        have H := Option.some.inj H
        subst H
        exact wk_mk [1, 3] [] [.k 1] True.intro (by kernel_rfl)
  · have H := H67
    refine AW2.seq ?_
    refine AW2.rg [] [1, 3, 4] [] [.k 1] ⟨[(1, .p 1 0), (3, .d (.bool true)), (4, .d (.int .i64 0))], [(1, .st false (eD (eMdl p0)))]⟩ (And.intro True.intro True.intro) (by kernel_rfl) ?_
    refine AW2.block ?_
    refine AW2.lp (σ := Bool × Int) (fun v => ⟨[(1, .p 1 0), (3, .d (.bool v.1)), (4, .d (.int .i64 v.2))], [(1, .st false (eD (eMdl p0)))]⟩) (fun k v => g_ref08_kinds_l3 k K p0 v.1 v.2 = some j1) ?_ K (true, 0) H
    rintro k ⟨a41, a42⟩ H
    dsimp only at H
    cases k with
    | zero => cases H
    | succ k =>
    unfold g_ref08_kinds_l3 at H
    refine AW2.seq ?_
    refine AW2.seq ?_
    refine AW2.rg [] [1, 3, 4, 13] [] [.k 1] ⟨[(1, .p 1 0), (3, .d (.bool a41)), (4, .d (.int .i64 a42)), (13, .d (.bool (decide (a42 < (p0.types.length : Int)))))], [(1, .st false (eD (eMdl p0)))]⟩ (And.intro True.intro True.intro) (by kernel_rfl) ?_
    refine AW2.cond (b := (decide (a42 < (p0.types.length : Int)))) rfl (fun hc => ?_) (fun hc => ?_)
    · replace H := ite_t H hc
      refine AW2.skip ?_
      obtain ⟨j43, H65, H⟩ := bind_some H
      refine AW2.mid ⟨[(1, .p 1 0), (3, .d (.bool j43)), (4, .d (.int .i64 a42))], [(1, .st false (eD (eMdl p0)))]⟩ ?_ ?_
      · refine AW2.rg [] [1, 3, 4] [] [.k 1] ⟨[(1, .p 1 0), (3, .d (.bool j43)), (4, .d (.int .i64 (wI (a42 + 1))))], [(1, .st false (eD (eMdl p0)))]⟩ (And.intro True.intro True.intro) (by kernel_rfl) ?_
        exact ⟨k, (j43, (wI (a42 + 1))), Nat.lt_succ_self k, H, wk_mk [1, 3, 4] [] [.k 1] True.intro (by kernel_rfl)⟩
      · have H := H65
        refine AW2.block ?_
        refine AW2.seq ?_
        obtain ⟨j47, H62, H⟩ := bind_some H
        refine AW2.reg [] rfl (YW.to ⟨[(1, .p 1 0), (3, .d (.bool j47)), (4, .d (.int .i64 a42))], [(1, .st false (eD (eMdl p0)))]⟩ ?qh63 ?h63)
        case h63 =>
          have H := H62
          rcases bT a41 with hc1 | hc1
          · replace H := ite_t H hc1
            obtain ⟨h44, H⟩ := gd_some H
            obtain ⟨x45, hx46, H⟩ := bind_some H
            have H := Option.some.inj H
            subst H
            exact YW.fin [(17, true)] [.r (.bool x45)] [1, 3, 4] [] [.k 1] _ (And.intro (And.intro hc1 (And.intro hc1 (And.intro hc1 (And.intro hc1 (And.intro h44 (And.intro hc1 (And.intro hc1 (And.intro hc1 (And.intro (c_ref08_kind (((p0.types.getD a42.toNat default)).result) true x45 hx46) (And.intro hc1 True.intro)))))))))) True.intro) (by kernel_rfl) rfl
          · replace H := ite_f H hc1
            have H := Option.some.inj H
            subst H
            exact YW.fin [(17, false)] [] [1, 3, 4] [] [.k 1] _ (And.intro (And.intro hc1 (And.intro hc1 (And.intro hc1 (And.intro hc1 (And.intro hc1 (And.intro hc1 (And.intro hc1 (And.intro hc1 True.intro)))))))) True.intro) (by kernel_rfl) rfl
        refine AW2.seq ?_
        refine AW2.rg [] [1, 3, 4, 5] [] [.k 1] ⟨[(1, .p 1 0), (3, .d (.bool j47)), (4, .d (.int .i64 a42)), (5, .d (.int .i64 0))], [(1, .st false (eD (eMdl p0)))]⟩ (And.intro True.intro True.intro) (by kernel_rfl) ?_
        refine AW2.block ?_
        refine AW2.lp (σ := Bool × Int) (fun v => ⟨[(1, .p 1 0), (3, .d (.bool v.1)), (4, .d (.int .i64 a42)), (5, .d (.int .i64 v.2))], [(1, .st false (eD (eMdl p0)))]⟩) (fun k v => g_ref08_kinds_l4 k p0 a42 v.1 v.2 = some j43) ?_ K (j47, 0) H
        rintro k ⟨a50, a51⟩ H
        dsimp only at H
        cases k with
        | zero => cases H
        | succ k =>
        unfold g_ref08_kinds_l4 at H
        refine AW2.seq ?_
        refine AW2.seq ?_
        obtain ⟨h52, H⟩ := gd_some H
        refine AW2.rg [] [1, 3, 4, 5, 34] [] [.k 1] ⟨[(1, .p 1 0), (3, .d (.bool a50)), (4, .d (.int .i64 a42)), (5, .d (.int .i64 a51)), (34, .d (.bool (decide (a51 < ((((p0.types.getD a42.toNat default)).params).length : Int)))))], [(1, .st false (eD (eMdl p0)))]⟩ (And.intro (And.intro h52 True.intro) True.intro) (by kernel_rfl) ?_
        refine AW2.cond (b := (decide (a51 < ((((p0.types.getD a42.toNat default)).params).length : Int)))) rfl (fun hc => ?_) (fun hc => ?_)
        · replace H := ite_t H hc
          refine AW2.skip ?_
          refine AW2.seq ?_
          refine AW2.block ?_
          obtain ⟨j57, H59, H⟩ := bind_some H
          refine AW2.reg [] rfl (YW.to ⟨[(1, .p 1 0), (3, .d (.bool j57)), (4, .d (.int .i64 a42)), (5, .d (.int .i64 a51))], [(1, .st false (eD (eMdl p0)))]⟩ ?qh60 ?h60)
          case h60 =>
            have H := H59
            rcases bT a50 with hc1 | hc1
            · replace H := ite_t H hc1
              obtain ⟨h53, H⟩ := gd_some H
              obtain ⟨h54, H⟩ := gd_some H
              obtain ⟨x55, hx56, H⟩ := bind_some H
              have H := Option.some.inj H
              subst H
              exact YW.fin [(38, true)] [.r (.bool x55)] [1, 3, 4, 5] [] [.k 1] _ (And.intro (And.intro hc1 (And.intro hc1 (And.intro hc1 (And.intro hc1 (And.intro h53 (And.intro hc1 (And.intro hc1 (And.intro hc1 (And.intro hc1 (And.intro h54 (And.intro hc1 (And.intro hc1 (And.intro (c_ref08_kind ((((p0.types.getD a42.toNat default)).params).getD a51.toNat default) false x55 hx56) (And.intro hc1 True.intro)))))))))))))) True.intro) (by kernel_rfl) rfl
            · replace H := ite_f H hc1
              have H := Option.some.inj H
              subst H
              exact YW.fin [(38, false)] [] [1, 3, 4, 5] [] [.k 1] _ (And.intro (And.intro hc1 (And.intro hc1 (And.intro hc1 (And.intro hc1 (And.intro hc1 (And.intro hc1 (And.intro hc1 (And.intro hc1 (And.intro hc1 (And.intro hc1 (And.intro hc1 True.intro))))))))))) True.intro) (by kernel_rfl) rfl
          refine AW2.rg [] [1, 3, 4, 5] [] [.k 1] ⟨[(1, .p 1 0), (3, .d (.bool j57)), (4, .d (.int .i64 a42)), (5, .d (.int .i64 (wI (a51 + 1))))], [(1, .st false (eD (eMdl p0)))]⟩ (And.intro True.intro True.intro) (by kernel_rfl) ?_
          exact ⟨k, (j57, (wI (a51 + 1))), Nat.lt_succ_self k, H, wk_mk [1, 3, 4, 5] [] [.k 1] True.intro (by kernel_rfl)⟩
        · replace H := ite_f H hc
          refine AW2.exit ?_
          have H := Option.some.inj H
          subst H
          exact wk_mk [1, 3, 4] [] [.k 1] True.intro (by kernel_rfl)
    · replace H := ite_f H hc
      refine AW2.exit ?_
      have H := Option.some.inj H
      subst H
      exact wk_mk [1, 3] [] [.k 1] True.intro (by kernel_rfl)

/- mandrel/mandrelref08.take -/
def g_ref08_take (p0 : St8) (p1 : Int) : Option (St8 × Int) := (if (p1 == (0 : Int)) = true then some (p0, 0) else (if ((p0.l.length : Int) == (0 : Int)) = true then ((if p0.ok = true then some p0.away else some false)).bind (fun j1 => some ((St8.mk p0.l p0.under p0.away p0.dead p0.most j1), p1)) else gd (0 ≤ (wI ((p0.l.length : Int) - 1)) ∧ (wI ((p0.l.length : Int) - 1)) < (p0.l.length : Int)) (gd (0 ≤ (0 : Int) ∧ (0 : Int) ≤ (wI ((p0.l.length : Int) - 1)) ∧ (wI ((p0.l.length : Int) - 1)) ≤ (p0.l.length : Int)) ((if ((p0.l.getD (wI ((p0.l.length : Int) - 1)).toNat default) == (255 : Int)) = true then some ((St8.mk (List.take ((wI ((p0.l.length : Int) - 1)).toNat) p0.l) p0.under p0.away p0.dead p0.most p0.ok), p1) else ((if ((p1 != (255 : Int)) && ((p0.l.getD (wI ((p0.l.length : Int) - 1)).toNat default) != p1)) = true then some false else some p0.ok)).bind (fun j7 => some ((St8.mk (List.take ((wI ((p0.l.length : Int) - 1)).toNat) p0.l) p0.under p0.away p0.dead p0.most j7), (p0.l.getD (wI ((p0.l.length : Int) - 1)).toNat default))))))))

theorem c_ref08_take (p0 : St8) (p1 : Int) (r : St8 × Int) (H : g_ref08_take p0 p1 = some r) : CF E 27 [.agg (eSt8 p0), .int .u8 p1] (.tup [.agg (eSt8 r.1), .int .u8 r.2]) := by
  refine cf_of (A := F_ref08_take) fn_ref08_take rfl fun fr => ?_
  unfold g_ref08_take at H
  refine AW2.seq ?_
  refine AW2.rg [.k 2, .k 4] [1, 2, 4] [] [.k 2, .k 4] ⟨[(1, .d (.int .u8 p1)), (2, .p 2 0), (4, .p 4 0)], [(2, .st false (eD (eSt8 p0))), (4, .st false [.d .nils, .d (.int .i64 0), .d (.bool false), .d (.bool false), .d (.int .i64 0), .d (.bool false)])]⟩ (And.intro True.intro True.intro) (by kernel_rfl) ?_
  refine AW2.seq ?_
  refine AW2.seq ?_
  refine AW2.rg [] [1, 2, 4, 8] [] [.k 2, .k 4] ⟨[(1, .d (.int .u8 p1)), (2, .p 2 0), (4, .p 4 0), (8, .d (.bool (p1 == (0 : Int))))], [(2, .st false (eD (eSt8 p0))), (4, .st false [.d .nils, .d (.int .i64 0), .d (.bool false), .d (.bool false), .d (.int .i64 0), .d (.bool false)])]⟩ (And.intro True.intro True.intro) (by kernel_rfl) ?_
  refine AW2.cond (b := (p1 == (0 : Int))) rfl (fun hc => ?_) (fun hc => ?_)
  · replace H := ite_t H hc
    refine AW2.seq ?_
    refine AW2.rg [] [4, 5] [] [.k 4] ⟨[(4, .p 4 0), (5, .d (.int .u8 0))], [(4, .st false (eD (eSt8 p0)))]⟩ (And.intro True.intro True.intro) (by kernel_rfl) ?_
    refine AW2.ret ?_
    have H := Option.some.inj H
    subst H
    exact retP_mk2 True.intro (by kernel_rfl)
  · replace H := ite_f H hc
    refine AW2.skip ?_
    refine AW2.seq ?_
    refine AW2.seq ?_
    refine AW2.rg [] [1, 2, 4, 13] [] [.k 2, .k 4] ⟨[(1, .d (.int .u8 p1)), (2, .p 2 0), (4, .p 4 0), (13, .d (.bool ((p0.l.length : Int) == (0 : Int))))], [(2, .st false (eD (eSt8 p0))), (4, .st false [.d .nils, .d (.int .i64 0), .d (.bool false), .d (.bool false), .d (.int .i64 0), .d (.bool false)])]⟩ (And.intro True.intro True.intro) (by kernel_rfl) ?_
    refine AW2.cond (b := ((p0.l.length : Int) == (0 : Int))) rfl (fun hc => ?_) (fun hc => ?_)
    · replace H := ite_t H hc
      refine AW2.seq ?_
      obtain ⟨j1, H3, H⟩ := bind_some H
      refine AW2.reg [] rfl (YW.to ⟨[(1, .d (.int .u8 p1)), (2, .p 2 0), (4, .p 4 0)], [(2, .st false [.d (sV (eI .u8) p0.l), .d (.int .i64 p0.under), .d (.bool p0.away), .d (.bool p0.dead), .d (.int .i64 p0.most), .d (.bool j1)]), (4, .st false [.d .nils, .d (.int .i64 0), .d (.bool false), .d (.bool false), .d (.int .i64 0), .d (.bool false)])]⟩ ?qh4 ?h4)
      case h4 =>
        have H := H3
        rcases bT p0.ok with hc1 | hc1
        · replace H := ite_t H hc1
          have H := Option.some.inj H
          subst H
          exact YW.fin [(16, true)] [] [1, 2, 4] [] [.k 2, .k 4] _ (And.intro (And.intro hc1 (And.intro hc1 (And.intro hc1 True.intro))) True.intro) (by kernel_rfl) rfl
        · replace H := ite_f H hc1
          have H := Option.some.inj H
          subst H
          exact YW.fin [(16, false)] [] [1, 2, 4] [] [.k 2, .k 4] _ (And.intro (And.intro hc1 (And.intro hc1 (And.intro hc1 True.intro))) True.intro) (by kernel_rfl) rfl
      refine AW2.seq ?_
      refine AW2.rg [] [4, 5] [] [.k 4] ⟨[(4, .p 4 0), (5, .d (.int .u8 p1))], [(4, .st false [.d (sV (eI .u8) p0.l), .d (.int .i64 p0.under), .d (.bool p0.away), .d (.bool p0.dead), .d (.int .i64 p0.most), .d (.bool j1)])]⟩ (And.intro True.intro True.intro) (by kernel_rfl) ?_
      refine AW2.ret ?_
      have H := Option.some.inj H
      subst H
      exact retP_mk2 True.intro (by kernel_rfl)
    · replace H := ite_f H hc
      refine AW2.skip ?_
      refine AW2.seq ?_
      obtain ⟨h5, H⟩ := gd_some H
      refine AW2.rg [] [1, 2, 4, 6] [] [.k 2, .k 4] ⟨[(1, .d (.int .u8 p1)), (2, .p 2 0), (4, .p 4 0), (6, .d (.int .u8 (p0.l.getD (wI ((p0.l.length : Int) - 1)).toNat default)))], [(2, .st false (eD (eSt8 p0))), (4, .st false [.d .nils, .d (.int .i64 0), .d (.bool false), .d (.bool false), .d (.int .i64 0), .d (.bool false)])]⟩ (And.intro (And.intro h5 True.intro) True.intro) (by kernel_rfl) ?_
      refine AW2.seq ?_
      obtain ⟨h6, H⟩ := gd_some H
      refine AW2.rg [.s true (List.take ((wI ((p0.l.length : Int) - 1)).toNat) p0.l).length (fl (eI .u8) (List.take ((wI ((p0.l.length : Int) - 1)).toNat) p0.l))] [1, 2, 4, 6] [] [.k 2, .k 4] ⟨[(1, .d (.int .u8 p1)), (2, .p 2 0), (4, .p 4 0), (6, .d (.int .u8 (p0.l.getD (wI ((p0.l.length : Int) - 1)).toNat default)))], [(2, .st false [.d (sV (eI .u8) (List.take ((wI ((p0.l.length : Int) - 1)).toNat) p0.l)), .d (.int .i64 p0.under), .d (.bool p0.away), .d (.bool p0.dead), .d (.int .i64 p0.most), .d (.bool p0.ok)]), (4, .st false [.d .nils, .d (.int .i64 0), .d (.bool false), .d (.bool false), .d (.int .i64 0), .d (.bool false)])]⟩ (And.intro (And.intro h6 (And.intro (takeD1  h6) (And.intro (takeD2 (eI .u8) (lc_eI .u8) h6) (And.intro (takeD3 (eI .u8) h6) True.intro)))) True.intro) (by kernel_rfl) ?_
      refine AW2.seq ?_
      refine AW2.seq ?_
      refine AW2.rg [] [1, 2, 4, 6, 40] [] [.k 2, .k 4] ⟨[(1, .d (.int .u8 p1)), (2, .p 2 0), (4, .p 4 0), (6, .d (.int .u8 (p0.l.getD (wI ((p0.l.length : Int) - 1)).toNat default))), (40, .d (.bool ((p0.l.getD (wI ((p0.l.length : Int) - 1)).toNat default) == (255 : Int))))], [(2, .st false [.d (sV (eI .u8) (List.take ((wI ((p0.l.length : Int) - 1)).toNat) p0.l)), .d (.int .i64 p0.under), .d (.bool p0.away), .d (.bool p0.dead), .d (.int .i64 p0.most), .d (.bool p0.ok)]), (4, .st false [.d .nils, .d (.int .i64 0), .d (.bool false), .d (.bool false), .d (.int .i64 0), .d (.bool false)])]⟩ (And.intro True.intro True.intro) (by kernel_rfl) ?_
      refine AW2.cond (b := ((p0.l.getD (wI ((p0.l.length : Int) - 1)).toNat default) == (255 : Int))) rfl (fun hc => ?_) (fun hc => ?_)
      · replace H := ite_t H hc
        refine AW2.seq ?_
        refine AW2.rg [] [4, 5] [] [.k 4] ⟨[(4, .p 4 0), (5, .d (.int .u8 p1))], [(4, .st false [.d (sV (eI .u8) (List.take ((wI ((p0.l.length : Int) - 1)).toNat) p0.l)), .d (.int .i64 p0.under), .d (.bool p0.away), .d (.bool p0.dead), .d (.int .i64 p0.most), .d (.bool p0.ok)])]⟩ (And.intro True.intro True.intro) (by kernel_rfl) ?_
        refine AW2.ret ?_
        have H := Option.some.inj H
        subst H
        exact retP_mk2 True.intro (by kernel_rfl)
      · replace H := ite_f H hc
        refine AW2.skip ?_
        obtain ⟨j7, H10, H⟩ := bind_some H
        refine AW2.mid ⟨[(2, .p 2 0), (4, .p 4 0), (6, .d (.int .u8 (p0.l.getD (wI ((p0.l.length : Int) - 1)).toNat default)))], [(2, .st false [.d (sV (eI .u8) (List.take ((wI ((p0.l.length : Int) - 1)).toNat) p0.l)), .d (.int .i64 p0.under), .d (.bool p0.away), .d (.bool p0.dead), .d (.int .i64 p0.most), .d (.bool j7)]), (4, .st false [.d .nils, .d (.int .i64 0), .d (.bool false), .d (.bool false), .d (.int .i64 0), .d (.bool false)])]⟩ ?_ ?_
        · refine AW2.seq ?_
          refine AW2.rg [] [4, 5] [] [.k 4] ⟨[(4, .p 4 0), (5, .d (.int .u8 (p0.l.getD (wI ((p0.l.length : Int) - 1)).toNat default)))], [(4, .st false [.d (sV (eI .u8) (List.take ((wI ((p0.l.length : Int) - 1)).toNat) p0.l)), .d (.int .i64 p0.under), .d (.bool p0.away), .d (.bool p0.dead), .d (.int .i64 p0.most), .d (.bool j7)])]⟩ (And.intro True.intro True.intro) (by kernel_rfl) ?_
          refine AW2.ret ?_
          have H := Option.some.inj H
          subst H
          exact retP_mk2 True.intro (by kernel_rfl)
        · have H := H10
          refine AW2.seq ?_
          refine AW2.reg [] rfl (YW.to ⟨[(2, .p 2 0), (4, .p 4 0), (6, .d (.int .u8 (p0.l.getD (wI ((p0.l.length : Int) - 1)).toNat default))), (49, .d (.bool ((p1 != (255 : Int)) && ((p0.l.getD (wI ((p0.l.length : Int) - 1)).toNat default) != p1))))], [(2, .st false [.d (sV (eI .u8) (List.take ((wI ((p0.l.length : Int) - 1)).toNat) p0.l)), .d (.int .i64 p0.under), .d (.bool p0.away), .d (.bool p0.dead), .d (.int .i64 p0.most), .d (.bool p0.ok)]), (4, .st false [.d .nils, .d (.int .i64 0), .d (.bool false), .d (.bool false), .d (.int .i64 0), .d (.bool false)])]⟩ ?qh8 ?h8)
          case h8 =>
            rcases bT (p1 != (255 : Int)) with hc1 | hc1
            · exact YW.fin [(45, true)] [] [2, 4, 6, 49] [(49, .d (.bool ((p1 != (255 : Int)) && ((p0.l.getD (wI ((p0.l.length : Int) - 1)).toNat default) != p1))))] [.k 2, .k 4] _ (And.intro (And.intro hc1 (And.intro hc1 (And.intro hc1 (And.intro hc1 True.intro)))) (And.intro (ovB (Eq.trans (andT (b := ((p0.l.getD (wI ((p0.l.length : Int) - 1)).toNat default) != p1)) hc1) (Eq.refl ((p0.l.getD (wI ((p0.l.length : Int) - 1)).toNat default) != p1)))) True.intro)) (by kernel_rfl) rfl
            · exact YW.fin [(45, false)] [] [2, 4, 6, 49] [(49, .d (.bool ((p1 != (255 : Int)) && ((p0.l.getD (wI ((p0.l.length : Int) - 1)).toNat default) != p1))))] [.k 2, .k 4] _ (And.intro (And.intro hc1 (And.intro hc1 (And.intro hc1 (And.intro hc1 True.intro)))) (And.intro (ovB (andF (b := ((p0.l.getD (wI ((p0.l.length : Int) - 1)).toNat default) != p1)) hc1)) True.intro)) (by kernel_rfl) rfl
          refine AW2.cond (b := ((p1 != (255 : Int)) && ((p0.l.getD (wI ((p0.l.length : Int) - 1)).toNat default) != p1))) rfl (fun hc => ?_) (fun hc => ?_)
          · replace H := ite_t H hc
            refine AW2.rg [] [2, 4, 6] [] [.k 2, .k 4] ⟨[(2, .p 2 0), (4, .p 4 0), (6, .d (.int .u8 (p0.l.getD (wI ((p0.l.length : Int) - 1)).toNat default)))], [(2, .st false [.d (sV (eI .u8) (List.take ((wI ((p0.l.length : Int) - 1)).toNat) p0.l)), .d (.int .i64 p0.under), .d (.bool p0.away), .d (.bool p0.dead), .d (.int .i64 p0.most), .d (.bool false)]), (4, .st false [.d .nils, .d (.int .i64 0), .d (.bool false), .d (.bool false), .d (.int .i64 0), .d (.bool false)])]⟩ (And.intro True.intro True.intro) (by kernel_rfl) ?_
            have H := Option.some.inj H
            subst H
            exact wk_mk [2, 4, 6] [] [.k 2, .k 4] True.intro (by kernel_rfl)
          · replace H := ite_f H hc
            refine AW2.skip ?_
            have H := Option.some.inj H
            subst H
            exact wk_mk [2, 4, 6] [] [.k 2, .k 4] True.intro (by kernel_rfl)

/- mandrel/mandrelref08.away -/
def g_ref08_away (p0 : St8) : Option (St8) := some (St8.mk ([] : List Int) p0.under true p0.dead p0.most p0.ok)

theorem c_ref08_away (p0 : St8) (r : St8) (H : g_ref08_away p0 = some r) : CF E 42 [.agg (eSt8 p0)] (.agg (eSt8 r)) := by
  refine cf_of (A := F_ref08_away) fn_ref08_away rfl fun fr => ?_
  unfold g_ref08_away at H
  refine AW2.seq ?_
  refine AW2.rg [.k 1, .k 2] [1, 2] [] [.k 1, .k 2] ⟨[(1, .p 1 0), (2, .p 2 0)], [(1, .st false (eD (eSt8 p0))), (2, .st false [.d .nils, .d (.int .i64 0), .d (.bool false), .d (.bool false), .d (.int .i64 0), .d (.bool false)])]⟩ (And.intro True.intro True.intro) (by kernel_rfl) ?_
  refine AW2.seq ?_
  refine AW2.rg [] [1, 2] [] [.k 1, .k 2] ⟨[(1, .p 1 0), (2, .p 2 0)], [(1, .st false [.d .nils, .d (.int .i64 p0.under), .d (.bool true), .d (.bool p0.dead), .d (.int .i64 p0.most), .d (.bool p0.ok)]), (2, .st false [.d .nils, .d (.int .i64 0), .d (.bool false), .d (.bool false), .d (.int .i64 0), .d (.bool false)])]⟩ (And.intro True.intro True.intro) (by kernel_rfl) ?_
  refine AW2.seq ?_
  refine AW2.rg [] [2] [] [.k 2] ⟨[(2, .p 2 0)], [(2, .st false [.d .nils, .d (.int .i64 p0.under), .d (.bool true), .d (.bool p0.dead), .d (.int .i64 p0.most), .d (.bool p0.ok)])]⟩ (And.intro True.intro True.intro) (by kernel_rfl) ?_
  refine AW2.ret ?_
  have H := Option.some.inj H
  subst H
  exact retP_mk2 True.intro (by kernel_rfl)

/- mandrel/mandrelref08.lay -/
def g_ref08_lay (p0 : St8) (p1 : Int) : Option (St8) := (if (p1 == (0 : Int)) = true then some p0 else gd (p0.l.length * 1 ≤ 140737488355328) (gd ((p0.l.length + 1) * 1 ≤ 140737488355328) (((if ((!p0.away) && (!p0.dead)) = true then some (mxI p0.most (wI (p0.under + ((p0.l ++ ([p1] : List Int)).length : Int)))) else some p0.most)).bind (fun j3 => some (St8.mk (p0.l ++ ([p1] : List Int)) p0.under p0.away p0.dead j3 p0.ok)))))

theorem c_ref08_lay (p0 : St8) (p1 : Int) (r : St8) (H : g_ref08_lay p0 p1 = some r) : CF E 46 [.agg (eSt8 p0), .int .u8 p1] (.agg (eSt8 r)) := by
  refine cf_of (A := F_ref08_lay) fn_ref08_lay rfl fun fr => ?_
  unfold g_ref08_lay at H
  refine AW2.seq ?_
  refine AW2.rg [.k 2, .k 4] [1, 2, 4] [] [.k 2, .k 4] ⟨[(1, .d (.int .u8 p1)), (2, .p 2 0), (4, .p 4 0)], [(2, .st false (eD (eSt8 p0))), (4, .st false [.d .nils, .d (.int .i64 0), .d (.bool false), .d (.bool false), .d (.int .i64 0), .d (.bool false)])]⟩ (And.intro True.intro True.intro) (by kernel_rfl) ?_
  refine AW2.seq ?_
  refine AW2.seq ?_
  refine AW2.rg [] [1, 2, 4, 7] [] [.k 2, .k 4] ⟨[(1, .d (.int .u8 p1)), (2, .p 2 0), (4, .p 4 0), (7, .d (.bool (p1 == (0 : Int))))], [(2, .st false (eD (eSt8 p0))), (4, .st false [.d .nils, .d (.int .i64 0), .d (.bool false), .d (.bool false), .d (.int .i64 0), .d (.bool false)])]⟩ (And.intro True.intro True.intro) (by kernel_rfl) ?_
  refine AW2.cond (b := (p1 == (0 : Int))) rfl (fun hc => ?_) (fun hc => ?_)
  · replace H := ite_t H hc
    refine AW2.seq ?_
    refine AW2.rg [] [4] [] [.k 4] ⟨[(4, .p 4 0)], [(4, .st false (eD (eSt8 p0)))]⟩ (And.intro True.intro True.intro) (by kernel_rfl) ?_
    refine AW2.ret ?_
    have H := Option.some.inj H
    subst H
    exact retP_mk2 True.intro (by kernel_rfl)
  · replace H := ite_f H hc
    refine AW2.skip ?_
    refine AW2.seq ?_
    refine AW2.rg [] [1, 2, 4, 5] [] [.k 2, .k 4] ⟨[(1, .d (.int .u8 p1)), (2, .p 2 0), (4, .p 4 0), (5, .d .nils)], [(2, .st false (eD (eSt8 p0))), (4, .st false [.d .nils, .d (.int .i64 0), .d (.bool false), .d (.bool false), .d (.int .i64 0), .d (.bool false)])]⟩ (And.intro True.intro True.intro) (by kernel_rfl) ?_
    refine AW2.seq ?_
    obtain ⟨h1, H⟩ := gd_some H
    obtain ⟨h2, H⟩ := gd_some H
    refine AW2.rg [.ks false 12 p0.l.length (fl (eI .u8) p0.l), .sb ([p1] : List Int).length (fl (eI .u8) ([p1] : List Int)), .s true (p0.l ++ ([p1] : List Int)).length (fl (eI .u8) (p0.l ++ ([p1] : List Int)))] [2, 4] [] [.k 2, .k 4, .k 12] ⟨[(2, .p 2 0), (4, .p 4 0)], [(2, .st false [.ls 12 0 (p0.l ++ ([p1] : List Int)).length, .d (.int .i64 p0.under), .d (.bool p0.away), .d (.bool p0.dead), .d (.int .i64 p0.most), .d (.bool p0.ok)]), (4, .st false [.d .nils, .d (.int .i64 0), .d (.bool false), .d (.bool false), .d (.int .i64 0), .d (.bool false)]), (12, .sl false 1 (p0.l ++ ([p1] : List Int)).length (fl (eI .u8) (p0.l ++ ([p1] : List Int))))]⟩ (And.intro (And.intro (lcl (eI .u8) (lc_eI .u8) p0.l) (And.intro h1 (And.intro (And.intro (Eq.refl p0.l.length) (fun i (_ : i < p0.l.length) => Eq.refl (fl (eI .u8) p0.l i))) (And.intro (litF (eI .u8) ([p1] : List Int)) (And.intro (Nat.le_refl p0.l.length) (And.intro h2 (And.intro (app1 (eI .u8) p0.l p1 (fl (eI .u8) ([p1] : List Int)) rfl) True.intro))))))) True.intro) (by kernel_rfl) ?_
    obtain ⟨j3, H6, H⟩ := bind_some H
    refine AW2.mid ⟨[(2, .p 2 0), (4, .p 4 0)], [(2, .st false [.ls 12 0 (p0.l ++ ([p1] : List Int)).length, .d (.int .i64 p0.under), .d (.bool p0.away), .d (.bool p0.dead), .d (.int .i64 j3), .d (.bool p0.ok)]), (4, .st false [.d .nils, .d (.int .i64 0), .d (.bool false), .d (.bool false), .d (.int .i64 0), .d (.bool false)]), (12, .sl false 1 (p0.l ++ ([p1] : List Int)).length (fl (eI .u8) (p0.l ++ ([p1] : List Int))))]⟩ ?_ ?_
    · refine AW2.seq ?_
      refine AW2.rg [] [4] [] [.k 4, .k 12] ⟨[(4, .p 4 0)], [(4, .st false [.ls 12 0 (p0.l ++ ([p1] : List Int)).length, .d (.int .i64 p0.under), .d (.bool p0.away), .d (.bool p0.dead), .d (.int .i64 j3), .d (.bool p0.ok)]), (12, .sl false 1 (p0.l ++ ([p1] : List Int)).length (fl (eI .u8) (p0.l ++ ([p1] : List Int))))]⟩ (And.intro True.intro True.intro) (by kernel_rfl) ?_
      refine AW2.ret ?_
      have H := Option.some.inj H
      subst H
      exact retP_mk2 (And.intro (Nat.le_refl (p0.l ++ ([p1] : List Int)).length) (And.intro (dfl (eI .u8) (dep_eI .u8) (p0.l ++ ([p1] : List Int))) True.intro)) (by kernel_rfl)
    · have H := H6
      refine AW2.seq ?_
      refine AW2.reg [] rfl (YW.to ⟨[(2, .p 2 0), (4, .p 4 0), (24, .d (.bool ((!p0.away) && (!p0.dead))))], [(2, .st false [.ls 12 0 (p0.l ++ ([p1] : List Int)).length, .d (.int .i64 p0.under), .d (.bool p0.away), .d (.bool p0.dead), .d (.int .i64 p0.most), .d (.bool p0.ok)]), (4, .st false [.d .nils, .d (.int .i64 0), .d (.bool false), .d (.bool false), .d (.int .i64 0), .d (.bool false)]), (12, .sl false 1 (p0.l ++ ([p1] : List Int)).length (fl (eI .u8) (p0.l ++ ([p1] : List Int))))]⟩ ?qh4 ?h4)
      case h4 =>
        rcases bT (!p0.away) with hc1 | hc1
        · exact YW.fin [(20, true)] [] [2, 4, 24] [(24, .d (.bool ((!p0.away) && (!p0.dead))))] [.k 2, .k 4, .k 12] _ (And.intro (And.intro hc1 (And.intro hc1 (And.intro hc1 (And.intro hc1 True.intro)))) (And.intro (ovB (Eq.trans (andT (b := (!p0.dead)) hc1) (Eq.refl (!p0.dead)))) True.intro)) (by kernel_rfl) rfl
        · exact YW.fin [(20, false)] [] [2, 4, 24] [(24, .d (.bool ((!p0.away) && (!p0.dead))))] [.k 2, .k 4, .k 12] _ (And.intro (And.intro hc1 (And.intro hc1 (And.intro hc1 (And.intro hc1 True.intro)))) (And.intro (ovB (andF (b := (!p0.dead)) hc1)) True.intro)) (by kernel_rfl) rfl
      refine AW2.cond (b := ((!p0.away) && (!p0.dead))) rfl (fun hc => ?_) (fun hc => ?_)
      · replace H := ite_t H hc
        refine AW2.rg [] [2, 4] [] [.k 2, .k 4, .k 12] ⟨[(2, .p 2 0), (4, .p 4 0)], [(2, .st false [.ls 12 0 (p0.l ++ ([p1] : List Int)).length, .d (.int .i64 p0.under), .d (.bool p0.away), .d (.bool p0.dead), .d (.int .i64 (mxI p0.most (wI (p0.under + ((p0.l ++ ([p1] : List Int)).length : Int))))), .d (.bool p0.ok)]), (4, .st false [.d .nils, .d (.int .i64 0), .d (.bool false), .d (.bool false), .d (.int .i64 0), .d (.bool false)]), (12, .sl false 1 (p0.l ++ ([p1] : List Int)).length (fl (eI .u8) (p0.l ++ ([p1] : List Int))))]⟩ (And.intro True.intro True.intro) (by kernel_rfl) ?_
        have H := Option.some.inj H
        subst H
        exact wk_mk [2, 4] [] [.k 2, .k 4, .k 12] True.intro (by kernel_rfl)
      · replace H := ite_f H hc
        refine AW2.skip ?_
        have H := Option.some.inj H
        subst H
        exact wk_mk [2, 4] [] [.k 2, .k 4, .k 12] True.intro (by kernel_rfl)

/- mandrel/mandrelref08.label -/
def g_ref08_label (p0 : Env8) (p1 : Int) : Option (Int × Bool) := (if ((decide (p1 < (0 : Int))) || (decide (p1 ≥ (p0.labels.length : Int)))) = true then some (0, false) else gd (0 ≤ (wI ((wI ((p0.labels.length : Int) - 1)) - p1)) ∧ (wI ((wI ((p0.labels.length : Int) - 1)) - p1)) < (p0.labels.length : Int)) (some ((p0.labels.getD (wI ((wI ((p0.labels.length : Int) - 1)) - p1)).toNat default), true)))

theorem c_ref08_label (p0 : Env8) (p1 : Int) (r : Int × Bool) (H : g_ref08_label p0 p1 = some r) : CF E 58 [.agg (eEnv8 p0), .int .i64 p1] (.tup [.int .u8 r.1, .bool r.2]) := by
  refine cf_of (A := F_ref08_label) fn_ref08_label rfl fun fr => ?_
  unfold g_ref08_label at H
  refine AW2.seq ?_
  refine AW2.rg [.k 2] [1, 2] [] [.k 2] ⟨[(1, .d (.int .i64 p1)), (2, .p 2 0)], [(2, .st false (eD (eEnv8 p0)))]⟩ (And.intro True.intro True.intro) (by kernel_rfl) ?_
  refine AW2.seq ?_
  refine AW2.seq ?_
  refine AW2.reg [] rfl (YW.to ⟨[(1, .d (.int .i64 p1)), (2, .p 2 0), (14, .d (.bool ((decide (p1 < (0 : Int))) || (decide (p1 ≥ (p0.labels.length : Int))))))], [(2, .st false (eD (eEnv8 p0)))]⟩ ?qh2 ?h2)
  case h2 =>
    rcases bT (decide (p1 < (0 : Int))) with hc1 | hc1
    · exact YW.fin [(8, true)] [] [1, 2, 14] [(14, .d (.bool ((decide (p1 < (0 : Int))) || (decide (p1 ≥ (p0.labels.length : Int))))))] [.k 2] _ (And.intro (And.intro hc1 (And.intro hc1 (And.intro hc1 (And.intro hc1 (And.intro hc1 (And.intro hc1 True.intro)))))) (And.intro (ovB (orT (b := (decide (p1 ≥ (p0.labels.length : Int)))) hc1)) True.intro)) (by kernel_rfl) rfl
    · exact YW.fin [(8, false)] [] [1, 2, 14] [(14, .d (.bool ((decide (p1 < (0 : Int))) || (decide (p1 ≥ (p0.labels.length : Int))))))] [.k 2] _ (And.intro (And.intro hc1 (And.intro hc1 (And.intro hc1 (And.intro hc1 (And.intro hc1 (And.intro hc1 True.intro)))))) (And.intro (ovB (Eq.trans (orF (b := (decide (p1 ≥ (p0.labels.length : Int)))) hc1) (Eq.refl (decide (p1 ≥ (p0.labels.length : Int)))))) True.intro)) (by kernel_rfl) rfl
  refine AW2.cond (b := ((decide (p1 < (0 : Int))) || (decide (p1 ≥ (p0.labels.length : Int))))) rfl (fun hc => ?_) (fun hc => ?_)
  · replace H := ite_t H hc
    refine AW2.seq ?_
    refine AW2.rg [] [4, 5] [] [] ⟨[(4, .d (.int .u8 0)), (5, .d (.bool false))], []⟩ (And.intro True.intro True.intro) (by kernel_rfl) ?_
    refine AW2.ret ?_
    have H := Option.some.inj H
    subst H
    exact retP_mk2 True.intro (by kernel_rfl)
  · replace H := ite_f H hc
    refine AW2.skip ?_
    refine AW2.seq ?_
    obtain ⟨h1, H⟩ := gd_some H
    refine AW2.rg [] [4, 5] [] [] ⟨[(4, .d (.int .u8 (p0.labels.getD (wI ((wI ((p0.labels.length : Int) - 1)) - p1)).toNat default))), (5, .d (.bool true))], []⟩ (And.intro (And.intro h1 True.intro) True.intro) (by kernel_rfl) ?_
    refine AW2.ret ?_
    have H := Option.some.inj H
    subst H
    exact retP_mk2 True.intro (by kernel_rfl)

end Go.Proofs.YtablleokoifolaaGreatDoor

/- Plain functions and their contracts. Written by a program of this claim set (g2.py). -/
set_option linter.unusedVariables false
set_option maxRecDepth 100000
set_option maxHeartbeats 4000000
namespace Go.Proofs.YtablleokoifolaaGreatDoor
open Go

/- mandrel/mandrelref08.branch -/
def g_ref08_branch_l0 : Nat → Env8 → Instr → (Int × Bool) → Int → Bool → Option (Bool)
  | 0, _, _, _, _, _ => none
  | k+1, p0, p2, x3, a18, a19 => (if ((p2.op == (14 : Int)) && (decide (a18 < (p2.labels.length : Int)))) = true then gd (0 ≤ a18 ∧ a18 < (p2.labels.length : Int)) (((g_ref08_label p0 (wI (p2.labels.getD a18.toNat default))).bind fun x21 => g_ref08_branch_l0 k p0 p2 x3 (wI (a18 + 1)) (a19 && (x21.2 && (x21.1 == x3.1))))) else some a19)

def g_ref08_branch_l1 : Nat → Env8 → Instr → (Int × Bool) → Int → Bool → Option (Bool)
  | 0, _, _, _, _, _ => none
  | k+1, p0, p2, x28, a43, a44 => (if ((p2.op == (14 : Int)) && (decide (a43 < (p2.labels.length : Int)))) = true then gd (0 ≤ a43 ∧ a43 < (p2.labels.length : Int)) (((g_ref08_label p0 (wI (p2.labels.getD a43.toNat default))).bind fun x46 => g_ref08_branch_l1 k p0 p2 x28 (wI (a43 + 1)) (a44 && (x46.2 && (x46.1 == x28.1))))) else some a44)

def g_ref08_branch (K : Nat) (p0 : Env8) (p1 : St8) (p2 : Instr) : Option (St8) := ((if (p2.op != (12 : Int)) = true then ((g_ref08_take p1 127).bind fun x52 => some x52.1) else some p1)).bind (fun j1 => (if (p2.op == (14 : Int)) = true then (if (((p2.labels.length : Int) == (0 : Int)) || (decide ((p2.labels.length : Int) > (257 : Int)))) = true then some (St8.mk j1.l j1.under j1.away j1.dead j1.most false) else gd (0 ≤ (wI ((p2.labels.length : Int) - 1)) ∧ (wI ((p2.labels.length : Int) - 1)) < (p2.labels.length : Int)) (((g_ref08_label p0 (wI (p2.labels.getD (wI ((p2.labels.length : Int) - 1)).toNat default))).bind fun x3 => (g_ref08_branch_l0 K p0 p2 x3 0 x3.2).bind (fun j5 => ((if j1.ok = true then some j5 else some false)).bind (fun j6 => ((g_ref08_take (St8.mk j1.l j1.under j1.away j1.dead j1.most j6) x3.1).bind fun x7 => (if (p2.op == (13 : Int)) = true then ((g_ref08_lay x7.1 x3.1).bind fun x9 => some x9) else ((g_ref08_away x7.1).bind fun x11 => some x11)))))))) else ((g_ref08_label p0 p2.n).bind fun x28 => (g_ref08_branch_l1 K p0 p2 x28 0 x28.2).bind (fun j30 => ((if j1.ok = true then some j30 else some false)).bind (fun j31 => ((g_ref08_take (St8.mk j1.l j1.under j1.away j1.dead j1.most j31) x28.1).bind fun x32 => (if (p2.op == (13 : Int)) = true then ((g_ref08_lay x32.1 x28.1).bind fun x34 => some x34) else ((g_ref08_away x32.1).bind fun x36 => some x36))))))))

theorem c_ref08_branch (K : Nat) (p0 : Env8) (p1 : St8) (p2 : Instr) (r : St8) (H : g_ref08_branch K p0 p1 p2 = some r) : CF E 44 [.agg (eEnv8 p0), .agg (eSt8 p1), .agg (eInstr p2)] (.agg (eSt8 r)) := by
  refine cf_of (A := F_ref08_branch) fn_ref08_branch rfl fun fr => ?_
  unfold g_ref08_branch at H
  refine AW2.seq ?_
  refine AW2.rg [.k 3, .k 4, .k 5, .k 6] [3, 4, 5, 6] [] [.k 3, .k 4, .k 5, .k 6] ⟨[(3, .p 3 0), (4, .p 4 0), (5, .p 5 0), (6, .p 6 0)], [(3, .st false (eD (eEnv8 p0))), (4, .st false (eD (eSt8 p1))), (5, .st false (eD (eInstr p2))), (6, .st false [.d .nils, .d (.int .i64 0), .d (.bool false), .d (.bool false), .d (.int .i64 0), .d (.bool false)])]⟩ (And.intro True.intro True.intro) (by kernel_rfl) ?_
  obtain ⟨j1, H55, H⟩ := bind_some H
  refine AW2.mid ⟨[(3, .p 3 0), (4, .p 4 0), (5, .p 5 0), (6, .p 6 0)], [(3, .st false (eD (eEnv8 p0))), (4, .st false (eD (eSt8 j1))), (5, .st false (eD (eInstr p2))), (6, .st false [.d .nils, .d (.int .i64 0), .d (.bool false), .d (.bool false), .d (.int .i64 0), .d (.bool false)])]⟩ ?_ ?_
  · refine AW2.seq ?_
    refine AW2.rg [] [3, 4, 5, 6, 7] [] [.k 3, .k 4, .k 5, .k 6] ⟨[(3, .p 3 0), (4, .p 4 0), (5, .p 5 0), (6, .p 6 0), (7, .d (.int .i64 p2.n))], [(3, .st false (eD (eEnv8 p0))), (4, .st false (eD (eSt8 j1))), (5, .st false (eD (eInstr p2))), (6, .st false [.d .nils, .d (.int .i64 0), .d (.bool false), .d (.bool false), .d (.int .i64 0), .d (.bool false)])]⟩ (And.intro True.intro True.intro) (by kernel_rfl) ?_
    refine AW2.seq ?_
    refine AW2.seq ?_
    refine AW2.rg [] [3, 4, 5, 6, 7, 25] [] [.k 3, .k 4, .k 5, .k 6] ⟨[(3, .p 3 0), (4, .p 4 0), (5, .p 5 0), (6, .p 6 0), (7, .d (.int .i64 p2.n)), (25, .d (.bool (p2.op == (14 : Int))))], [(3, .st false (eD (eEnv8 p0))), (4, .st false (eD (eSt8 j1))), (5, .st false (eD (eInstr p2))), (6, .st false [.d .nils, .d (.int .i64 0), .d (.bool false), .d (.bool false), .d (.int .i64 0), .d (.bool false)])]⟩ (And.intro True.intro True.intro) (by kernel_rfl) ?_
    refine AW2.cond (b := (p2.op == (14 : Int))) rfl (fun hc => ?_) (fun hc => ?_)
    · replace H := ite_t H hc
      refine AW2.seq ?_
      refine AW2.seq ?_
      refine AW2.reg [] rfl (YW.to ⟨[(3, .p 3 0), (4, .p 4 0), (5, .p 5 0), (6, .p 6 0), (35, .d (.bool (((p2.labels.length : Int) == (0 : Int)) || (decide ((p2.labels.length : Int) > (257 : Int))))))], [(3, .st false (eD (eEnv8 p0))), (4, .st false (eD (eSt8 j1))), (5, .st false (eD (eInstr p2))), (6, .st false [.d .nils, .d (.int .i64 0), .d (.bool false), .d (.bool false), .d (.int .i64 0), .d (.bool false)])]⟩ ?qh27 ?h27)
      case h27 =>
        rcases bT ((p2.labels.length : Int) == (0 : Int)) with hc1 | hc1
        · exact YW.fin [(30, true)] [] [3, 4, 5, 6, 35] [(35, .d (.bool (((p2.labels.length : Int) == (0 : Int)) || (decide ((p2.labels.length : Int) > (257 : Int))))))] [.k 3, .k 4, .k 5, .k 6] _ (And.intro (And.intro hc1 (And.intro hc1 (And.intro hc1 (And.intro hc1 (And.intro hc1 True.intro))))) (And.intro (ovB (orT (b := (decide ((p2.labels.length : Int) > (257 : Int)))) hc1)) True.intro)) (by kernel_rfl) rfl
        · exact YW.fin [(30, false)] [] [3, 4, 5, 6, 35] [(35, .d (.bool (((p2.labels.length : Int) == (0 : Int)) || (decide ((p2.labels.length : Int) > (257 : Int))))))] [.k 3, .k 4, .k 5, .k 6] _ (And.intro (And.intro hc1 (And.intro hc1 (And.intro hc1 (And.intro hc1 (And.intro hc1 True.intro))))) (And.intro (ovB (Eq.trans (orF (b := (decide ((p2.labels.length : Int) > (257 : Int)))) hc1) (Eq.refl (decide ((p2.labels.length : Int) > (257 : Int)))))) True.intro)) (by kernel_rfl) rfl
      refine AW2.cond (b := (((p2.labels.length : Int) == (0 : Int)) || (decide ((p2.labels.length : Int) > (257 : Int))))) rfl (fun hc => ?_) (fun hc => ?_)
      · replace H := ite_t H hc
        refine AW2.seq ?_
        refine AW2.rg [] [4, 6] [] [.k 4, .k 6] ⟨[(4, .p 4 0), (6, .p 6 0)], [(4, .st false [.d (sV (eI .u8) j1.l), .d (.int .i64 j1.under), .d (.bool j1.away), .d (.bool j1.dead), .d (.int .i64 j1.most), .d (.bool false)]), (6, .st false [.d .nils, .d (.int .i64 0), .d (.bool false), .d (.bool false), .d (.int .i64 0), .d (.bool false)])]⟩ (And.intro True.intro True.intro) (by kernel_rfl) ?_
        refine AW2.seq ?_
        refine AW2.rg [] [6] [] [.k 6] ⟨[(6, .p 6 0)], [(6, .st false [.d (sV (eI .u8) j1.l), .d (.int .i64 j1.under), .d (.bool j1.away), .d (.bool j1.dead), .d (.int .i64 j1.most), .d (.bool false)])]⟩ (And.intro True.intro True.intro) (by kernel_rfl) ?_
        refine AW2.ret ?_
        have H := Option.some.inj H
        subst H
        exact retP_mk2 True.intro (by kernel_rfl)
      · replace H := ite_f H hc
        refine AW2.skip ?_
        obtain ⟨h2, H⟩ := gd_some H
        refine AW2.rg [] [3, 4, 5, 6, 7] [] [.k 3, .k 4, .k 5, .k 6] ⟨[(3, .p 3 0), (4, .p 4 0), (5, .p 5 0), (6, .p 6 0), (7, .d (.int .i64 (wI (p2.labels.getD (wI ((p2.labels.length : Int) - 1)).toNat default))))], [(3, .st false (eD (eEnv8 p0))), (4, .st false (eD (eSt8 j1))), (5, .st false (eD (eInstr p2))), (6, .st false [.d .nils, .d (.int .i64 0), .d (.bool false), .d (.bool false), .d (.int .i64 0), .d (.bool false)])]⟩ (And.intro (And.intro h2 True.intro) True.intro) (by kernel_rfl) ?_
        refine AW2.seq ?_
        obtain ⟨x3, hx4, H⟩ := bind_some H
        refine AW2.rg [.r (.tup [.int .u8 x3.1, .bool x3.2])] [3, 4, 5, 6, 8, 9] [] [.k 3, .k 4, .k 5, .k 6] ⟨[(3, .p 3 0), (4, .p 4 0), (5, .p 5 0), (6, .p 6 0), (8, .d (.int .u8 x3.1)), (9, .d (.bool x3.2))], [(3, .st false (eD (eEnv8 p0))), (4, .st false (eD (eSt8 j1))), (5, .st false (eD (eInstr p2))), (6, .st false [.d .nils, .d (.int .i64 0), .d (.bool false), .d (.bool false), .d (.int .i64 0), .d (.bool false)])]⟩ (And.intro (And.intro (c_ref08_label p0 (wI (p2.labels.getD (wI ((p2.labels.length : Int) - 1)).toNat default)) x3 hx4) True.intro) True.intro) (by kernel_rfl) ?_
        obtain ⟨j5, H26, H⟩ := bind_some H
        refine AW2.mid ⟨[(4, .p 4 0), (5, .p 5 0), (6, .p 6 0), (8, .d (.int .u8 x3.1)), (9, .d (.bool j5))], [(4, .st false (eD (eSt8 j1))), (5, .st false (eD (eInstr p2))), (6, .st false [.d .nils, .d (.int .i64 0), .d (.bool false), .d (.bool false), .d (.int .i64 0), .d (.bool false)])]⟩ ?_ ?_
        · refine AW2.seq ?_
          obtain ⟨j6, H14, H⟩ := bind_some H
          refine AW2.reg [] rfl (YW.to ⟨[(4, .p 4 0), (5, .p 5 0), (6, .p 6 0), (8, .d (.int .u8 x3.1))], [(4, .st false [.d (sV (eI .u8) j1.l), .d (.int .i64 j1.under), .d (.bool j1.away), .d (.bool j1.dead), .d (.int .i64 j1.most), .d (.bool j6)]), (5, .st false (eD (eInstr p2))), (6, .st false [.d .nils, .d (.int .i64 0), .d (.bool false), .d (.bool false), .d (.int .i64 0), .d (.bool false)])]⟩ ?qh15 ?h15)
          case h15 =>
            have H := H14
            rcases bT j1.ok with hc1 | hc1
            · replace H := ite_t H hc1
              have H := Option.some.inj H
              subst H
              exact YW.fin [(87, true)] [] [4, 5, 6, 8] [] [.k 4, .k 5, .k 6] _ (And.intro (And.intro hc1 (And.intro hc1 True.intro)) True.intro) (by kernel_rfl) rfl
            · replace H := ite_f H hc1
              have H := Option.some.inj H
              subst H
              exact YW.fin [(87, false)] [] [4, 5, 6, 8] [] [.k 4, .k 5, .k 6] _ (And.intro (And.intro hc1 (And.intro hc1 True.intro)) True.intro) (by kernel_rfl) rfl
          refine AW2.seq ?_
          obtain ⟨x7, hx8, H⟩ := bind_some H
          refine AW2.rg [.r (.tup [.agg (eSt8 x7.1), .int .u8 x7.2])] [4, 5, 6, 8] [] [.k 4, .k 5, .k 6] ⟨[(4, .p 4 0), (5, .p 5 0), (6, .p 6 0), (8, .d (.int .u8 x3.1))], [(4, .st false (eD (eSt8 x7.1))), (5, .st false (eD (eInstr p2))), (6, .st false [.d .nils, .d (.int .i64 0), .d (.bool false), .d (.bool false), .d (.int .i64 0), .d (.bool false)])]⟩ (And.intro (And.intro (c_ref08_take (St8.mk j1.l j1.under j1.away j1.dead j1.most j6) x3.1 x7 hx8) True.intro) True.intro) (by kernel_rfl) ?_
          refine AW2.seq ?_
          refine AW2.seq ?_
          refine AW2.rg [] [4, 6, 8, 99] [] [.k 4, .k 6] ⟨[(4, .p 4 0), (6, .p 6 0), (8, .d (.int .u8 x3.1)), (99, .d (.bool (p2.op == (13 : Int))))], [(4, .st false (eD (eSt8 x7.1))), (6, .st false [.d .nils, .d (.int .i64 0), .d (.bool false), .d (.bool false), .d (.int .i64 0), .d (.bool false)])]⟩ (And.intro True.intro True.intro) (by kernel_rfl) ?_
          refine AW2.cond (b := (p2.op == (13 : Int))) rfl (fun hc => ?_) (fun hc => ?_)
          · replace H := ite_t H hc
            refine AW2.seq ?_
            obtain ⟨x9, hx10, H⟩ := bind_some H
            refine AW2.rg [.r (.agg (eSt8 x9))] [6] [] [.k 6] ⟨[(6, .p 6 0)], [(6, .st false (eD (eSt8 x9)))]⟩ (And.intro (And.intro (c_ref08_lay x7.1 x3.1 x9 hx10) True.intro) True.intro) (by kernel_rfl) ?_
            refine AW2.ret ?_
            have H := Option.some.inj H
            subst H
            exact retP_mk2 True.intro (by kernel_rfl)
          · replace H := ite_f H hc
            refine AW2.skip ?_
            refine AW2.seq ?_
            obtain ⟨x11, hx12, H⟩ := bind_some H
            refine AW2.rg [.r (.agg (eSt8 x11))] [6] [] [.k 6] ⟨[(6, .p 6 0)], [(6, .st false (eD (eSt8 x11)))]⟩ (And.intro (And.intro (c_ref08_away x7.1 x11 hx12) True.intro) True.intro) (by kernel_rfl) ?_
            refine AW2.ret ?_
            have H := Option.some.inj H
            subst H
            exact retP_mk2 True.intro (by kernel_rfl)
        · have H := H26
          refine AW2.seq ?_
          refine AW2.rg [] [3, 4, 5, 6, 8, 9, 10] [] [.k 3, .k 4, .k 5, .k 6] ⟨[(3, .p 3 0), (4, .p 4 0), (5, .p 5 0), (6, .p 6 0), (8, .d (.int .u8 x3.1)), (9, .d (.bool x3.2)), (10, .d (.int .i64 0))], [(3, .st false (eD (eEnv8 p0))), (4, .st false (eD (eSt8 j1))), (5, .st false (eD (eInstr p2))), (6, .st false [.d .nils, .d (.int .i64 0), .d (.bool false), .d (.bool false), .d (.int .i64 0), .d (.bool false)])]⟩ (And.intro True.intro True.intro) (by kernel_rfl) ?_
          refine AW2.block ?_
          refine AW2.lp (σ := Int × Bool) (fun v => ⟨[(3, .p 3 0), (4, .p 4 0), (5, .p 5 0), (6, .p 6 0), (8, .d (.int .u8 x3.1)), (9, .d (.bool v.2)), (10, .d (.int .i64 v.1))], [(3, .st false (eD (eEnv8 p0))), (4, .st false (eD (eSt8 j1))), (5, .st false (eD (eInstr p2))), (6, .st false [.d .nils, .d (.int .i64 0), .d (.bool false), .d (.bool false), .d (.int .i64 0), .d (.bool false)])]⟩) (fun k v => g_ref08_branch_l0 k p0 p2 x3 v.1 v.2 = some j5) ?_ K (0, x3.2) H
          rintro k ⟨a18, a19⟩ H
          dsimp only at H
          cases k with
          | zero => cases H
          | succ k =>
          unfold g_ref08_branch_l0 at H
          refine AW2.seq ?_
          refine AW2.seq ?_
          refine AW2.reg [] rfl (YW.to ⟨[(3, .p 3 0), (4, .p 4 0), (5, .p 5 0), (6, .p 6 0), (8, .d (.int .u8 x3.1)), (9, .d (.bool a19)), (10, .d (.int .i64 a18)), (62, .d (.bool ((p2.op == (14 : Int)) && (decide (a18 < (p2.labels.length : Int))))))], [(3, .st false (eD (eEnv8 p0))), (4, .st false (eD (eSt8 j1))), (5, .st false (eD (eInstr p2))), (6, .st false [.d .nils, .d (.int .i64 0), .d (.bool false), .d (.bool false), .d (.int .i64 0), .d (.bool false)])]⟩ ?qh24 ?h24)
          case h24 =>
            rcases bT (p2.op == (14 : Int)) with hc1 | hc1
            · exact YW.fin [(56, true)] [] [3, 4, 5, 6, 8, 9, 10, 62] [(62, .d (.bool ((p2.op == (14 : Int)) && (decide (a18 < (p2.labels.length : Int))))))] [.k 3, .k 4, .k 5, .k 6] _ (And.intro (And.intro hc1 (And.intro hc1 (And.intro hc1 (And.intro hc1 (And.intro hc1 (And.intro hc1 True.intro)))))) (And.intro (ovB (Eq.trans (andT (b := (decide (a18 < (p2.labels.length : Int)))) hc1) (Eq.refl (decide (a18 < (p2.labels.length : Int)))))) True.intro)) (by kernel_rfl) rfl
            · exact YW.fin [(56, false)] [] [3, 4, 5, 6, 8, 9, 10, 62] [(62, .d (.bool ((p2.op == (14 : Int)) && (decide (a18 < (p2.labels.length : Int))))))] [.k 3, .k 4, .k 5, .k 6] _ (And.intro (And.intro hc1 (And.intro hc1 (And.intro hc1 (And.intro hc1 (And.intro hc1 (And.intro hc1 True.intro)))))) (And.intro (ovB (andF (b := (decide (a18 < (p2.labels.length : Int)))) hc1)) True.intro)) (by kernel_rfl) rfl
          refine AW2.cond (b := ((p2.op == (14 : Int)) && (decide (a18 < (p2.labels.length : Int))))) rfl (fun hc => ?_) (fun hc => ?_)
          · replace H := ite_t H hc
            refine AW2.skip ?_
            refine AW2.seq ?_
            refine AW2.block ?_
            refine AW2.seq ?_
            obtain ⟨h20, H⟩ := gd_some H
            obtain ⟨x21, hx22, H⟩ := bind_some H
            refine AW2.rg [.r (.tup [.int .u8 x21.1, .bool x21.2])] [3, 4, 5, 6, 8, 9, 10, 11, 12] [] [.k 3, .k 4, .k 5, .k 6] ⟨[(3, .p 3 0), (4, .p 4 0), (5, .p 5 0), (6, .p 6 0), (8, .d (.int .u8 x3.1)), (9, .d (.bool a19)), (10, .d (.int .i64 a18)), (11, .d (.int .u8 x21.1)), (12, .d (.bool x21.2))], [(3, .st false (eD (eEnv8 p0))), (4, .st false (eD (eSt8 j1))), (5, .st false (eD (eInstr p2))), (6, .st false [.d .nils, .d (.int .i64 0), .d (.bool false), .d (.bool false), .d (.int .i64 0), .d (.bool false)])]⟩ (And.intro (And.intro h20 (And.intro (c_ref08_label p0 (wI (p2.labels.getD a18.toNat default)) x21 hx22) True.intro)) True.intro) (by kernel_rfl) ?_
            refine AW2.reg [] rfl (YW.to ⟨[(3, .p 3 0), (4, .p 4 0), (5, .p 5 0), (6, .p 6 0), (8, .d (.int .u8 x3.1)), (9, .d (.bool (a19 && (x21.2 && (x21.1 == x3.1))))), (10, .d (.int .i64 a18))], [(3, .st false (eD (eEnv8 p0))), (4, .st false (eD (eSt8 j1))), (5, .st false (eD (eInstr p2))), (6, .st false [.d .nils, .d (.int .i64 0), .d (.bool false), .d (.bool false), .d (.int .i64 0), .d (.bool false)])]⟩ ?qh23 ?h23)
            case h23 =>
              rcases bT a19 with hc1 | hc1
              · rcases bT x21.2 with hc2 | hc2
                · exact YW.fin [(77, true), (80, true)] [] [3, 4, 5, 6, 8, 9, 10] [(9, .d (.bool (a19 && (x21.2 && (x21.1 == x3.1)))))] [.k 3, .k 4, .k 5, .k 6] _ (And.intro (And.intro hc1 (And.intro hc1 (And.intro hc2 (And.intro hc2 (And.intro hc2 (And.intro hc2 True.intro)))))) (And.intro (ovB (Eq.trans (andT (b := (x21.2 && (x21.1 == x3.1))) hc1) (Eq.trans (andT (b := (x21.1 == x3.1)) hc2) (Eq.refl (x21.1 == x3.1))))) True.intro)) (by kernel_rfl) rfl
                · exact YW.fin [(77, true), (80, false)] [] [3, 4, 5, 6, 8, 9, 10] [(9, .d (.bool (a19 && (x21.2 && (x21.1 == x3.1)))))] [.k 3, .k 4, .k 5, .k 6] _ (And.intro (And.intro hc1 (And.intro hc1 (And.intro hc2 (And.intro hc2 (And.intro hc2 (And.intro hc2 True.intro)))))) (And.intro (ovB (Eq.trans (andT (b := (x21.2 && (x21.1 == x3.1))) hc1) (andF (b := (x21.1 == x3.1)) hc2))) True.intro)) (by kernel_rfl) rfl
              · exact YW.fin [(77, false), (80, false)] [] [3, 4, 5, 6, 8, 9, 10] [(9, .d (.bool (a19 && (x21.2 && (x21.1 == x3.1)))))] [.k 3, .k 4, .k 5, .k 6] _ (And.intro (And.intro hc1 (And.intro hc1 (And.intro (Eq.refl false) (And.intro (Eq.refl false) (And.intro (Eq.refl false) (And.intro (Eq.refl false) True.intro)))))) (And.intro (ovB (andF (b := (x21.2 && (x21.1 == x3.1))) hc1)) True.intro)) (by kernel_rfl) rfl
            refine AW2.rg [] [3, 4, 5, 6, 8, 9, 10] [] [.k 3, .k 4, .k 5, .k 6] ⟨[(3, .p 3 0), (4, .p 4 0), (5, .p 5 0), (6, .p 6 0), (8, .d (.int .u8 x3.1)), (9, .d (.bool (a19 && (x21.2 && (x21.1 == x3.1))))), (10, .d (.int .i64 (wI (a18 + 1))))], [(3, .st false (eD (eEnv8 p0))), (4, .st false (eD (eSt8 j1))), (5, .st false (eD (eInstr p2))), (6, .st false [.d .nils, .d (.int .i64 0), .d (.bool false), .d (.bool false), .d (.int .i64 0), .d (.bool false)])]⟩ (And.intro True.intro True.intro) (by kernel_rfl) ?_
            exact ⟨k, ((wI (a18 + 1)), (a19 && (x21.2 && (x21.1 == x3.1)))), Nat.lt_succ_self k, H, wk_mk [3, 4, 5, 6, 8, 9, 10] [] [.k 3, .k 4, .k 5, .k 6] True.intro (by kernel_rfl)⟩
          · replace H := ite_f H hc
            refine AW2.exit ?_
            have H := Option.some.inj H
            subst H
            exact wk_mk [4, 5, 6, 8, 9] [] [.k 4, .k 5, .k 6] True.intro (by kernel_rfl)
    · replace H := ite_f H hc
      refine AW2.skip ?_
      refine AW2.seq ?_
      obtain ⟨x28, hx29, H⟩ := bind_some H
      refine AW2.rg [.r (.tup [.int .u8 x28.1, .bool x28.2])] [3, 4, 5, 6, 8, 9] [] [.k 3, .k 4, .k 5, .k 6] ⟨[(3, .p 3 0), (4, .p 4 0), (5, .p 5 0), (6, .p 6 0), (8, .d (.int .u8 x28.1)), (9, .d (.bool x28.2))], [(3, .st false (eD (eEnv8 p0))), (4, .st false (eD (eSt8 j1))), (5, .st false (eD (eInstr p2))), (6, .st false [.d .nils, .d (.int .i64 0), .d (.bool false), .d (.bool false), .d (.int .i64 0), .d (.bool false)])]⟩ (And.intro (And.intro (c_ref08_label p0 p2.n x28 hx29) True.intro) True.intro) (by kernel_rfl) ?_
      obtain ⟨j30, H51, H⟩ := bind_some H
      refine AW2.mid ⟨[(4, .p 4 0), (5, .p 5 0), (6, .p 6 0), (8, .d (.int .u8 x28.1)), (9, .d (.bool j30))], [(4, .st false (eD (eSt8 j1))), (5, .st false (eD (eInstr p2))), (6, .st false [.d .nils, .d (.int .i64 0), .d (.bool false), .d (.bool false), .d (.int .i64 0), .d (.bool false)])]⟩ ?_ ?_
      · refine AW2.seq ?_
        obtain ⟨j31, H39, H⟩ := bind_some H
        refine AW2.reg [] rfl (YW.to ⟨[(4, .p 4 0), (5, .p 5 0), (6, .p 6 0), (8, .d (.int .u8 x28.1))], [(4, .st false [.d (sV (eI .u8) j1.l), .d (.int .i64 j1.under), .d (.bool j1.away), .d (.bool j1.dead), .d (.int .i64 j1.most), .d (.bool j31)]), (5, .st false (eD (eInstr p2))), (6, .st false [.d .nils, .d (.int .i64 0), .d (.bool false), .d (.bool false), .d (.int .i64 0), .d (.bool false)])]⟩ ?qh40 ?h40)
        case h40 =>
          have H := H39
          rcases bT j1.ok with hc1 | hc1
          · replace H := ite_t H hc1
            have H := Option.some.inj H
            subst H
            exact YW.fin [(87, true)] [] [4, 5, 6, 8] [] [.k 4, .k 5, .k 6] _ (And.intro (And.intro hc1 (And.intro hc1 True.intro)) True.intro) (by kernel_rfl) rfl
          · replace H := ite_f H hc1
            have H := Option.some.inj H
            subst H
            exact YW.fin [(87, false)] [] [4, 5, 6, 8] [] [.k 4, .k 5, .k 6] _ (And.intro (And.intro hc1 (And.intro hc1 True.intro)) True.intro) (by kernel_rfl) rfl
        refine AW2.seq ?_
        obtain ⟨x32, hx33, H⟩ := bind_some H
        refine AW2.rg [.r (.tup [.agg (eSt8 x32.1), .int .u8 x32.2])] [4, 5, 6, 8] [] [.k 4, .k 5, .k 6] ⟨[(4, .p 4 0), (5, .p 5 0), (6, .p 6 0), (8, .d (.int .u8 x28.1))], [(4, .st false (eD (eSt8 x32.1))), (5, .st false (eD (eInstr p2))), (6, .st false [.d .nils, .d (.int .i64 0), .d (.bool false), .d (.bool false), .d (.int .i64 0), .d (.bool false)])]⟩ (And.intro (And.intro (c_ref08_take (St8.mk j1.l j1.under j1.away j1.dead j1.most j31) x28.1 x32 hx33) True.intro) True.intro) (by kernel_rfl) ?_
        refine AW2.seq ?_
        refine AW2.seq ?_
        refine AW2.rg [] [4, 6, 8, 99] [] [.k 4, .k 6] ⟨[(4, .p 4 0), (6, .p 6 0), (8, .d (.int .u8 x28.1)), (99, .d (.bool (p2.op == (13 : Int))))], [(4, .st false (eD (eSt8 x32.1))), (6, .st false [.d .nils, .d (.int .i64 0), .d (.bool false), .d (.bool false), .d (.int .i64 0), .d (.bool false)])]⟩ (And.intro True.intro True.intro) (by kernel_rfl) ?_
        refine AW2.cond (b := (p2.op == (13 : Int))) rfl (fun hc => ?_) (fun hc => ?_)
        · replace H := ite_t H hc
          refine AW2.seq ?_
          obtain ⟨x34, hx35, H⟩ := bind_some H
          refine AW2.rg [.r (.agg (eSt8 x34))] [6] [] [.k 6] ⟨[(6, .p 6 0)], [(6, .st false (eD (eSt8 x34)))]⟩ (And.intro (And.intro (c_ref08_lay x32.1 x28.1 x34 hx35) True.intro) True.intro) (by kernel_rfl) ?_
          refine AW2.ret ?_
          have H := Option.some.inj H
          subst H
          exact retP_mk2 True.intro (by kernel_rfl)
        · replace H := ite_f H hc
          refine AW2.skip ?_
          refine AW2.seq ?_
          obtain ⟨x36, hx37, H⟩ := bind_some H
          refine AW2.rg [.r (.agg (eSt8 x36))] [6] [] [.k 6] ⟨[(6, .p 6 0)], [(6, .st false (eD (eSt8 x36)))]⟩ (And.intro (And.intro (c_ref08_away x32.1 x36 hx37) True.intro) True.intro) (by kernel_rfl) ?_
          refine AW2.ret ?_
          have H := Option.some.inj H
          subst H
          exact retP_mk2 True.intro (by kernel_rfl)
      · have H := H51
        refine AW2.seq ?_
        refine AW2.rg [] [3, 4, 5, 6, 8, 9, 10] [] [.k 3, .k 4, .k 5, .k 6] ⟨[(3, .p 3 0), (4, .p 4 0), (5, .p 5 0), (6, .p 6 0), (8, .d (.int .u8 x28.1)), (9, .d (.bool x28.2)), (10, .d (.int .i64 0))], [(3, .st false (eD (eEnv8 p0))), (4, .st false (eD (eSt8 j1))), (5, .st false (eD (eInstr p2))), (6, .st false [.d .nils, .d (.int .i64 0), .d (.bool false), .d (.bool false), .d (.int .i64 0), .d (.bool false)])]⟩ (And.intro True.intro True.intro) (by kernel_rfl) ?_
        refine AW2.block ?_
        refine AW2.lp (σ := Int × Bool) (fun v => ⟨[(3, .p 3 0), (4, .p 4 0), (5, .p 5 0), (6, .p 6 0), (8, .d (.int .u8 x28.1)), (9, .d (.bool v.2)), (10, .d (.int .i64 v.1))], [(3, .st false (eD (eEnv8 p0))), (4, .st false (eD (eSt8 j1))), (5, .st false (eD (eInstr p2))), (6, .st false [.d .nils, .d (.int .i64 0), .d (.bool false), .d (.bool false), .d (.int .i64 0), .d (.bool false)])]⟩) (fun k v => g_ref08_branch_l1 k p0 p2 x28 v.1 v.2 = some j30) ?_ K (0, x28.2) H
        rintro k ⟨a43, a44⟩ H
        dsimp only at H
        cases k with
        | zero => cases H
        | succ k =>
        unfold g_ref08_branch_l1 at H
        refine AW2.seq ?_
        refine AW2.seq ?_
        refine AW2.reg [] rfl (YW.to ⟨[(3, .p 3 0), (4, .p 4 0), (5, .p 5 0), (6, .p 6 0), (8, .d (.int .u8 x28.1)), (9, .d (.bool a44)), (10, .d (.int .i64 a43)), (62, .d (.bool ((p2.op == (14 : Int)) && (decide (a43 < (p2.labels.length : Int))))))], [(3, .st false (eD (eEnv8 p0))), (4, .st false (eD (eSt8 j1))), (5, .st false (eD (eInstr p2))), (6, .st false [.d .nils, .d (.int .i64 0), .d (.bool false), .d (.bool false), .d (.int .i64 0), .d (.bool false)])]⟩ ?qh49 ?h49)
        case h49 =>
          rcases bT (p2.op == (14 : Int)) with hc1 | hc1
          · exact YW.fin [(56, true)] [] [3, 4, 5, 6, 8, 9, 10, 62] [(62, .d (.bool ((p2.op == (14 : Int)) && (decide (a43 < (p2.labels.length : Int))))))] [.k 3, .k 4, .k 5, .k 6] _ (And.intro (And.intro hc1 (And.intro hc1 (And.intro hc1 (And.intro hc1 (And.intro hc1 (And.intro hc1 True.intro)))))) (And.intro (ovB (Eq.trans (andT (b := (decide (a43 < (p2.labels.length : Int)))) hc1) (Eq.refl (decide (a43 < (p2.labels.length : Int)))))) True.intro)) (by kernel_rfl) rfl
          · exact YW.fin [(56, false)] [] [3, 4, 5, 6, 8, 9, 10, 62] [(62, .d (.bool ((p2.op == (14 : Int)) && (decide (a43 < (p2.labels.length : Int))))))] [.k 3, .k 4, .k 5, .k 6] _ (And.intro (And.intro hc1 (And.intro hc1 (And.intro hc1 (And.intro hc1 (And.intro hc1 (And.intro hc1 True.intro)))))) (And.intro (ovB (andF (b := (decide (a43 < (p2.labels.length : Int)))) hc1)) True.intro)) (by kernel_rfl) rfl
        refine AW2.cond (b := ((p2.op == (14 : Int)) && (decide (a43 < (p2.labels.length : Int))))) rfl (fun hc => ?_) (fun hc => ?_)
        · replace H := ite_t H hc
          refine AW2.skip ?_
          refine AW2.seq ?_
          refine AW2.block ?_
          refine AW2.seq ?_
          obtain ⟨h45, H⟩ := gd_some H
          obtain ⟨x46, hx47, H⟩ := bind_some H
          refine AW2.rg [.r (.tup [.int .u8 x46.1, .bool x46.2])] [3, 4, 5, 6, 8, 9, 10, 11, 12] [] [.k 3, .k 4, .k 5, .k 6] ⟨[(3, .p 3 0), (4, .p 4 0), (5, .p 5 0), (6, .p 6 0), (8, .d (.int .u8 x28.1)), (9, .d (.bool a44)), (10, .d (.int .i64 a43)), (11, .d (.int .u8 x46.1)), (12, .d (.bool x46.2))], [(3, .st false (eD (eEnv8 p0))), (4, .st false (eD (eSt8 j1))), (5, .st false (eD (eInstr p2))), (6, .st false [.d .nils, .d (.int .i64 0), .d (.bool false), .d (.bool false), .d (.int .i64 0), .d (.bool false)])]⟩ (And.intro (And.intro h45 (And.intro (c_ref08_label p0 (wI (p2.labels.getD a43.toNat default)) x46 hx47) True.intro)) True.intro) (by kernel_rfl) ?_
          refine AW2.reg [] rfl (YW.to ⟨[(3, .p 3 0), (4, .p 4 0), (5, .p 5 0), (6, .p 6 0), (8, .d (.int .u8 x28.1)), (9, .d (.bool (a44 && (x46.2 && (x46.1 == x28.1))))), (10, .d (.int .i64 a43))], [(3, .st false (eD (eEnv8 p0))), (4, .st false (eD (eSt8 j1))), (5, .st false (eD (eInstr p2))), (6, .st false [.d .nils, .d (.int .i64 0), .d (.bool false), .d (.bool false), .d (.int .i64 0), .d (.bool false)])]⟩ ?qh48 ?h48)
          case h48 =>
            rcases bT a44 with hc1 | hc1
            · rcases bT x46.2 with hc2 | hc2
              · exact YW.fin [(77, true), (80, true)] [] [3, 4, 5, 6, 8, 9, 10] [(9, .d (.bool (a44 && (x46.2 && (x46.1 == x28.1)))))] [.k 3, .k 4, .k 5, .k 6] _ (And.intro (And.intro hc1 (And.intro hc1 (And.intro hc2 (And.intro hc2 (And.intro hc2 (And.intro hc2 True.intro)))))) (And.intro (ovB (Eq.trans (andT (b := (x46.2 && (x46.1 == x28.1))) hc1) (Eq.trans (andT (b := (x46.1 == x28.1)) hc2) (Eq.refl (x46.1 == x28.1))))) True.intro)) (by kernel_rfl) rfl
              · exact YW.fin [(77, true), (80, false)] [] [3, 4, 5, 6, 8, 9, 10] [(9, .d (.bool (a44 && (x46.2 && (x46.1 == x28.1)))))] [.k 3, .k 4, .k 5, .k 6] _ (And.intro (And.intro hc1 (And.intro hc1 (And.intro hc2 (And.intro hc2 (And.intro hc2 (And.intro hc2 True.intro)))))) (And.intro (ovB (Eq.trans (andT (b := (x46.2 && (x46.1 == x28.1))) hc1) (andF (b := (x46.1 == x28.1)) hc2))) True.intro)) (by kernel_rfl) rfl
            · exact YW.fin [(77, false), (80, false)] [] [3, 4, 5, 6, 8, 9, 10] [(9, .d (.bool (a44 && (x46.2 && (x46.1 == x28.1)))))] [.k 3, .k 4, .k 5, .k 6] _ (And.intro (And.intro hc1 (And.intro hc1 (And.intro (Eq.refl false) (And.intro (Eq.refl false) (And.intro (Eq.refl false) (And.intro (Eq.refl false) True.intro)))))) (And.intro (ovB (andF (b := (x46.2 && (x46.1 == x28.1))) hc1)) True.intro)) (by kernel_rfl) rfl
          refine AW2.rg [] [3, 4, 5, 6, 8, 9, 10] [] [.k 3, .k 4, .k 5, .k 6] ⟨[(3, .p 3 0), (4, .p 4 0), (5, .p 5 0), (6, .p 6 0), (8, .d (.int .u8 x28.1)), (9, .d (.bool (a44 && (x46.2 && (x46.1 == x28.1))))), (10, .d (.int .i64 (wI (a43 + 1))))], [(3, .st false (eD (eEnv8 p0))), (4, .st false (eD (eSt8 j1))), (5, .st false (eD (eInstr p2))), (6, .st false [.d .nils, .d (.int .i64 0), .d (.bool false), .d (.bool false), .d (.int .i64 0), .d (.bool false)])]⟩ (And.intro True.intro True.intro) (by kernel_rfl) ?_
          exact ⟨k, ((wI (a43 + 1)), (a44 && (x46.2 && (x46.1 == x28.1)))), Nat.lt_succ_self k, H, wk_mk [3, 4, 5, 6, 8, 9, 10] [] [.k 3, .k 4, .k 5, .k 6] True.intro (by kernel_rfl)⟩
        · replace H := ite_f H hc
          refine AW2.exit ?_
          have H := Option.some.inj H
          subst H
          exact wk_mk [4, 5, 6, 8, 9] [] [.k 4, .k 5, .k 6] True.intro (by kernel_rfl)
  · have H := H55
    refine AW2.seq ?_
    refine AW2.rg [] [3, 4, 5, 6, 15] [] [.k 3, .k 4, .k 5, .k 6] ⟨[(3, .p 3 0), (4, .p 4 0), (5, .p 5 0), (6, .p 6 0), (15, .d (.bool (p2.op != (12 : Int))))], [(3, .st false (eD (eEnv8 p0))), (4, .st false (eD (eSt8 p1))), (5, .st false (eD (eInstr p2))), (6, .st false [.d .nils, .d (.int .i64 0), .d (.bool false), .d (.bool false), .d (.int .i64 0), .d (.bool false)])]⟩ (And.intro True.intro True.intro) (by kernel_rfl) ?_
    refine AW2.cond (b := (p2.op != (12 : Int))) rfl (fun hc => ?_) (fun hc => ?_)
    · replace H := ite_t H hc
      obtain ⟨x52, hx53, H⟩ := bind_some H
      refine AW2.rg [.r (.tup [.agg (eSt8 x52.1), .int .u8 x52.2])] [3, 4, 5, 6] [] [.k 3, .k 4, .k 5, .k 6] ⟨[(3, .p 3 0), (4, .p 4 0), (5, .p 5 0), (6, .p 6 0)], [(3, .st false (eD (eEnv8 p0))), (4, .st false (eD (eSt8 x52.1))), (5, .st false (eD (eInstr p2))), (6, .st false [.d .nils, .d (.int .i64 0), .d (.bool false), .d (.bool false), .d (.int .i64 0), .d (.bool false)])]⟩ (And.intro (And.intro (c_ref08_take p1 127 x52 hx53) True.intro) True.intro) (by kernel_rfl) ?_
      have H := Option.some.inj H
      subst H
      exact wk_mk [3, 4, 5, 6] [] [.k 3, .k 4, .k 5, .k 6] True.intro (by kernel_rfl)
    · replace H := ite_f H hc
      refine AW2.skip ?_
      have H := Option.some.inj H
      subst H
      exact wk_mk [3, 4, 5, 6] [] [.k 3, .k 4, .k 5, .k 6] True.intro (by kernel_rfl)

/- mandrel/mandrelref08.at -/
def g_ref08_at (p0 : Int) (p1 : Int) : Option (Bool) := some ((decide (p0 ≥ (0 : Int))) && (decide (p0 < p1)))

theorem c_ref08_at (p0 : Int) (p1 : Int) (r : Bool) (H : g_ref08_at p0 p1 = some r) : CF E 59 [.int .i64 p0, .int .i64 p1] (.bool r) := by
  refine cf_of (A := F_ref08_at) fn_ref08_at rfl fun fr => ?_
  unfold g_ref08_at at H
  refine AW2.seq ?_
  refine AW2.rg [] [0, 1] [] [] ⟨[(0, .d (.int .i64 p0)), (1, .d (.int .i64 p1))], []⟩ (And.intro True.intro True.intro) (by kernel_rfl) ?_
  refine AW2.seq ?_
  refine AW2.reg [] rfl (YW.to ⟨[(4, .d (.bool ((decide (p0 ≥ (0 : Int))) && (decide (p0 < p1)))))], []⟩ ?qh1 ?h1)
  case h1 =>
    rcases bT (decide (p0 ≥ (0 : Int))) with hc1 | hc1
    · exact YW.fin [(7, true)] [] [4] [(4, .d (.bool ((decide (p0 ≥ (0 : Int))) && (decide (p0 < p1)))))] [] _ (And.intro (And.intro hc1 (And.intro hc1 (And.intro hc1 (And.intro hc1 True.intro)))) (And.intro (ovB (Eq.trans (andT (b := (decide (p0 < p1))) hc1) (Eq.refl (decide (p0 < p1))))) True.intro)) (by kernel_rfl) rfl
    · exact YW.fin [(7, false)] [] [4] [(4, .d (.bool ((decide (p0 ≥ (0 : Int))) && (decide (p0 < p1)))))] [] _ (And.intro (And.intro hc1 (And.intro hc1 (And.intro hc1 (And.intro hc1 True.intro)))) (And.intro (ovB (andF (b := (decide (p0 < p1))) hc1)) True.intro)) (by kernel_rfl) rfl
  refine AW2.ret ?_
  have H := Option.some.inj H
  subst H
  exact retP_mk2 True.intro (by kernel_rfl)

/- mandrel/mandrelref08.call -/
def g_ref08_call_l0 : Nat → Typ → St8 → Int → Option (St8)
  | 0, _, _, _ => none
  | k+1, p1, a6, a7 => (if (decide (a7 ≥ (0 : Int))) = true then gd (0 ≤ a7 ∧ a7 < (p1.params.length : Int)) (((g_ref08_take a6 (p1.params.getD a7.toNat default)).bind fun x9 => g_ref08_call_l0 k p1 x9.1 (wI (a7 - 1)))) else some a6)

def g_ref08_call (K : Nat) (p0 : St8) (p1 : Typ) : Option (St8) := (g_ref08_call_l0 K p1 p0 (wI ((p1.params.length : Int) - 1))).bind (fun j1 => ((g_ref08_lay j1 p1.result).bind fun x2 => some x2))

theorem c_ref08_call (K : Nat) (p0 : St8) (p1 : Typ) (r : St8) (H : g_ref08_call K p0 p1 = some r) : CF E 60 [.agg (eSt8 p0), .agg (eTyp p1)] (.agg (eSt8 r)) := by
  refine cf_of (A := F_ref08_call) fn_ref08_call rfl fun fr => ?_
  unfold g_ref08_call at H
  refine AW2.seq ?_
  refine AW2.rg [.k 2, .k 3, .k 4] [2, 3, 4] [] [.k 2, .k 3, .k 4] ⟨[(2, .p 2 0), (3, .p 3 0), (4, .p 4 0)], [(2, .st false (eD (eSt8 p0))), (3, .st false (eD (eTyp p1))), (4, .st false [.d .nils, .d (.int .i64 0), .d (.bool false), .d (.bool false), .d (.int .i64 0), .d (.bool false)])]⟩ (And.intro True.intro True.intro) (by kernel_rfl) ?_
  obtain ⟨j1, H12, H⟩ := bind_some H
  refine AW2.mid ⟨[(2, .p 2 0), (3, .p 3 0), (4, .p 4 0)], [(2, .st false (eD (eSt8 j1))), (3, .st false (eD (eTyp p1))), (4, .st false [.d .nils, .d (.int .i64 0), .d (.bool false), .d (.bool false), .d (.int .i64 0), .d (.bool false)])]⟩ ?_ ?_
  · refine AW2.seq ?_
    obtain ⟨x2, hx3, H⟩ := bind_some H
    refine AW2.rg [.r (.agg (eSt8 x2))] [4] [] [.k 4] ⟨[(4, .p 4 0)], [(4, .st false (eD (eSt8 x2)))]⟩ (And.intro (And.intro (c_ref08_lay j1 p1.result x2 hx3) True.intro) True.intro) (by kernel_rfl) ?_
    refine AW2.ret ?_
    have H := Option.some.inj H
    subst H
    exact retP_mk2 True.intro (by kernel_rfl)
  · have H := H12
    refine AW2.seq ?_
    refine AW2.rg [] [2, 3, 4, 5] [] [.k 2, .k 3, .k 4] ⟨[(2, .p 2 0), (3, .p 3 0), (4, .p 4 0), (5, .d (.int .i64 (wI ((p1.params.length : Int) - 1))))], [(2, .st false (eD (eSt8 p0))), (3, .st false (eD (eTyp p1))), (4, .st false [.d .nils, .d (.int .i64 0), .d (.bool false), .d (.bool false), .d (.int .i64 0), .d (.bool false)])]⟩ (And.intro True.intro True.intro) (by kernel_rfl) ?_
    refine AW2.block ?_
    refine AW2.lp (σ := St8 × Int) (fun v => ⟨[(2, .p 2 0), (3, .p 3 0), (4, .p 4 0), (5, .d (.int .i64 v.2))], [(2, .st false (eD (eSt8 v.1))), (3, .st false (eD (eTyp p1))), (4, .st false [.d .nils, .d (.int .i64 0), .d (.bool false), .d (.bool false), .d (.int .i64 0), .d (.bool false)])]⟩) (fun k v => g_ref08_call_l0 k p1 v.1 v.2 = some j1) ?_ K (p0, (wI ((p1.params.length : Int) - 1))) H
    rintro k ⟨a6, a7⟩ H
    dsimp only at H
    cases k with
    | zero => cases H
    | succ k =>
    unfold g_ref08_call_l0 at H
    refine AW2.seq ?_
    refine AW2.seq ?_
    refine AW2.rg [] [2, 3, 4, 5, 11] [] [.k 2, .k 3, .k 4] ⟨[(2, .p 2 0), (3, .p 3 0), (4, .p 4 0), (5, .d (.int .i64 a7)), (11, .d (.bool (decide (a7 ≥ (0 : Int)))))], [(2, .st false (eD (eSt8 a6))), (3, .st false (eD (eTyp p1))), (4, .st false [.d .nils, .d (.int .i64 0), .d (.bool false), .d (.bool false), .d (.int .i64 0), .d (.bool false)])]⟩ (And.intro True.intro True.intro) (by kernel_rfl) ?_
    refine AW2.cond (b := (decide (a7 ≥ (0 : Int)))) rfl (fun hc => ?_) (fun hc => ?_)
    · replace H := ite_t H hc
      refine AW2.skip ?_
      refine AW2.seq ?_
      refine AW2.block ?_
      obtain ⟨h8, H⟩ := gd_some H
      obtain ⟨x9, hx10, H⟩ := bind_some H
      refine AW2.rg [.r (.tup [.agg (eSt8 x9.1), .int .u8 x9.2])] [2, 3, 4, 5] [] [.k 2, .k 3, .k 4] ⟨[(2, .p 2 0), (3, .p 3 0), (4, .p 4 0), (5, .d (.int .i64 a7))], [(2, .st false (eD (eSt8 x9.1))), (3, .st false (eD (eTyp p1))), (4, .st false [.d .nils, .d (.int .i64 0), .d (.bool false), .d (.bool false), .d (.int .i64 0), .d (.bool false)])]⟩ (And.intro (And.intro h8 (And.intro (c_ref08_take a6 (p1.params.getD a7.toNat default) x9 hx10) True.intro)) True.intro) (by kernel_rfl) ?_
      refine AW2.rg [] [2, 3, 4, 5] [] [.k 2, .k 3, .k 4] ⟨[(2, .p 2 0), (3, .p 3 0), (4, .p 4 0), (5, .d (.int .i64 (wI (a7 - 1))))], [(2, .st false (eD (eSt8 x9.1))), (3, .st false (eD (eTyp p1))), (4, .st false [.d .nils, .d (.int .i64 0), .d (.bool false), .d (.bool false), .d (.int .i64 0), .d (.bool false)])]⟩ (And.intro True.intro True.intro) (by kernel_rfl) ?_
      exact ⟨k, (x9.1, (wI (a7 - 1))), Nat.lt_succ_self k, H, wk_mk [2, 3, 4, 5] [] [.k 2, .k 3, .k 4] True.intro (by kernel_rfl)⟩
    · replace H := ite_f H hc
      refine AW2.exit ?_
      have H := Option.some.inj H
      subst H
      exact wk_mk [2, 3, 4] [] [.k 2, .k 3, .k 4] True.intro (by kernel_rfl)

/- mandrel/mandrelref08.calls -/
def g_ref08_calls (K : Nat) (p0 : Env8) (p1 : St8) (p2 : Instr) : Option (St8) := (if (p2.op == (16 : Int)) = true then ((g_ref08_at p2.n (p0.m.funcs.length : Int)).bind fun x1 => (if (!x1) = true then some (St8.mk p1.l p1.under p1.away p1.dead p1.most false) else gd (0 ≤ p2.n ∧ p2.n < (p0.m.funcs.length : Int)) (((g_ref08_at (wI (((p0.m.funcs.getD p2.n.toNat default)).type_)) (p0.m.types.length : Int)).bind fun x4 => (if (!x4) = true then some (St8.mk p1.l p1.under p1.away p1.dead p1.most false) else gd (0 ≤ (wI (((p0.m.funcs.getD p2.n.toNat default)).type_)) ∧ (wI (((p0.m.funcs.getD p2.n.toNat default)).type_)) < (p0.m.types.length : Int)) (((g_ref08_call K p1 (p0.m.types.getD (wI (((p0.m.funcs.getD p2.n.toNat default)).type_)).toNat default)).bind fun x7 => some x7))))))) else ((if p1.ok = true then some (decide ((p0.m.tables.length : Int) > (0 : Int))) else some false)).bind (fun j9 => ((g_ref08_take (St8.mk p1.l p1.under p1.away p1.dead p1.most j9) 127).bind fun x10 => ((g_ref08_at p2.n (p0.m.types.length : Int)).bind fun x12 => (if (!x12) = true then some (St8.mk x10.1.l x10.1.under x10.1.away x10.1.dead x10.1.most false) else gd (0 ≤ p2.n ∧ p2.n < (p0.m.types.length : Int)) (((g_ref08_call K x10.1 (p0.m.types.getD p2.n.toNat default)).bind fun x15 => some x15)))))))

theorem c_ref08_calls (K : Nat) (p0 : Env8) (p1 : St8) (p2 : Instr) (r : St8) (H : g_ref08_calls K p0 p1 p2 = some r) : CF E 45 [.agg (eEnv8 p0), .agg (eSt8 p1), .agg (eInstr p2)] (.agg (eSt8 r)) := by
  refine cf_of (A := F_ref08_calls) fn_ref08_calls rfl fun fr => ?_
  unfold g_ref08_calls at H
  refine AW2.seq ?_
  refine AW2.rg [.k 3, .k 4, .k 5, .k 6] [3, 4, 5, 6] [] [.k 3, .k 4, .k 5, .k 6] ⟨[(3, .p 3 0), (4, .p 4 0), (5, .p 5 0), (6, .p 6 0)], [(3, .st false (eD (eEnv8 p0))), (4, .st false (eD (eSt8 p1))), (5, .st false (eD (eInstr p2))), (6, .st false [.d .nils, .d (.int .i64 0), .d (.bool false), .d (.bool false), .d (.int .i64 0), .d (.bool false)])]⟩ (And.intro True.intro True.intro) (by kernel_rfl) ?_
  refine AW2.seq ?_
  refine AW2.rg [] [3, 4, 5, 6, 7] [] [.k 3, .k 4, .k 5, .k 6] ⟨[(3, .p 3 0), (4, .p 4 0), (5, .p 5 0), (6, .p 6 0), (7, .d (.int .i64 p2.n))], [(3, .st false (eD (eEnv8 p0))), (4, .st false (eD (eSt8 p1))), (5, .st false (eD (eInstr p2))), (6, .st false [.d .nils, .d (.int .i64 0), .d (.bool false), .d (.bool false), .d (.int .i64 0), .d (.bool false)])]⟩ (And.intro True.intro True.intro) (by kernel_rfl) ?_
  refine AW2.seq ?_
  refine AW2.seq ?_
  refine AW2.rg [] [3, 4, 6, 7, 12] [] [.k 3, .k 4, .k 6] ⟨[(3, .p 3 0), (4, .p 4 0), (6, .p 6 0), (7, .d (.int .i64 p2.n)), (12, .d (.bool (p2.op == (16 : Int))))], [(3, .st false (eD (eEnv8 p0))), (4, .st false (eD (eSt8 p1))), (6, .st false [.d .nils, .d (.int .i64 0), .d (.bool false), .d (.bool false), .d (.int .i64 0), .d (.bool false)])]⟩ (And.intro True.intro True.intro) (by kernel_rfl) ?_
  refine AW2.cond (b := (p2.op == (16 : Int))) rfl (fun hc => ?_) (fun hc => ?_)
  · replace H := ite_t H hc
    refine AW2.seq ?_
    refine AW2.seq ?_
    obtain ⟨x1, hx2, H⟩ := bind_some H
    refine AW2.rg [.r (.bool x1)] [3, 4, 6, 7, 19] [] [.k 3, .k 4, .k 6] ⟨[(3, .p 3 0), (4, .p 4 0), (6, .p 6 0), (7, .d (.int .i64 p2.n)), (19, .d (.bool (!x1)))], [(3, .st false (eD (eEnv8 p0))), (4, .st false (eD (eSt8 p1))), (6, .st false [.d .nils, .d (.int .i64 0), .d (.bool false), .d (.bool false), .d (.int .i64 0), .d (.bool false)])]⟩ (And.intro (And.intro (c_ref08_at p2.n (p0.m.funcs.length : Int) x1 hx2) True.intro) True.intro) (by kernel_rfl) ?_
    refine AW2.cond (b := (!x1)) rfl (fun hc => ?_) (fun hc => ?_)
    · replace H := ite_t H hc
      refine AW2.seq ?_
      refine AW2.rg [] [4, 6] [] [.k 4, .k 6] ⟨[(4, .p 4 0), (6, .p 6 0)], [(4, .st false [.d (sV (eI .u8) p1.l), .d (.int .i64 p1.under), .d (.bool p1.away), .d (.bool p1.dead), .d (.int .i64 p1.most), .d (.bool false)]), (6, .st false [.d .nils, .d (.int .i64 0), .d (.bool false), .d (.bool false), .d (.int .i64 0), .d (.bool false)])]⟩ (And.intro True.intro True.intro) (by kernel_rfl) ?_
      refine AW2.seq ?_
      refine AW2.rg [] [6] [] [.k 6] ⟨[(6, .p 6 0)], [(6, .st false [.d (sV (eI .u8) p1.l), .d (.int .i64 p1.under), .d (.bool p1.away), .d (.bool p1.dead), .d (.int .i64 p1.most), .d (.bool false)])]⟩ (And.intro True.intro True.intro) (by kernel_rfl) ?_
      refine AW2.ret ?_
      have H := Option.some.inj H
      subst H
      exact retP_mk2 True.intro (by kernel_rfl)
    · replace H := ite_f H hc
      refine AW2.skip ?_
      obtain ⟨h3, H⟩ := gd_some H
      refine AW2.rg [] [3, 4, 6, 7] [] [.k 3, .k 4, .k 6] ⟨[(3, .p 3 0), (4, .p 4 0), (6, .p 6 0), (7, .d (.int .i64 (wI (((p0.m.funcs.getD p2.n.toNat default)).type_))))], [(3, .st false (eD (eEnv8 p0))), (4, .st false (eD (eSt8 p1))), (6, .st false [.d .nils, .d (.int .i64 0), .d (.bool false), .d (.bool false), .d (.int .i64 0), .d (.bool false)])]⟩ (And.intro (And.intro h3 True.intro) True.intro) (by kernel_rfl) ?_
      refine AW2.seq ?_
      refine AW2.seq ?_
      obtain ⟨x4, hx5, H⟩ := bind_some H
      refine AW2.rg [.r (.bool x4)] [3, 4, 6, 7, 51] [] [.k 3, .k 4, .k 6] ⟨[(3, .p 3 0), (4, .p 4 0), (6, .p 6 0), (7, .d (.int .i64 (wI (((p0.m.funcs.getD p2.n.toNat default)).type_)))), (51, .d (.bool (!x4)))], [(3, .st false (eD (eEnv8 p0))), (4, .st false (eD (eSt8 p1))), (6, .st false [.d .nils, .d (.int .i64 0), .d (.bool false), .d (.bool false), .d (.int .i64 0), .d (.bool false)])]⟩ (And.intro (And.intro (c_ref08_at (wI (((p0.m.funcs.getD p2.n.toNat default)).type_)) (p0.m.types.length : Int) x4 hx5) True.intro) True.intro) (by kernel_rfl) ?_
      refine AW2.cond (b := (!x4)) rfl (fun hc => ?_) (fun hc => ?_)
      · replace H := ite_t H hc
        refine AW2.seq ?_
        refine AW2.rg [] [4, 6] [] [.k 4, .k 6] ⟨[(4, .p 4 0), (6, .p 6 0)], [(4, .st false [.d (sV (eI .u8) p1.l), .d (.int .i64 p1.under), .d (.bool p1.away), .d (.bool p1.dead), .d (.int .i64 p1.most), .d (.bool false)]), (6, .st false [.d .nils, .d (.int .i64 0), .d (.bool false), .d (.bool false), .d (.int .i64 0), .d (.bool false)])]⟩ (And.intro True.intro True.intro) (by kernel_rfl) ?_
        refine AW2.seq ?_
        refine AW2.rg [] [6] [] [.k 6] ⟨[(6, .p 6 0)], [(6, .st false [.d (sV (eI .u8) p1.l), .d (.int .i64 p1.under), .d (.bool p1.away), .d (.bool p1.dead), .d (.int .i64 p1.most), .d (.bool false)])]⟩ (And.intro True.intro True.intro) (by kernel_rfl) ?_
        refine AW2.ret ?_
        have H := Option.some.inj H
        subst H
        exact retP_mk2 True.intro (by kernel_rfl)
      · replace H := ite_f H hc
        refine AW2.skip ?_
        refine AW2.seq ?_
        obtain ⟨h6, H⟩ := gd_some H
        obtain ⟨x7, hx8, H⟩ := bind_some H
        refine AW2.rg [.r (.agg (eSt8 x7))] [6] [] [.k 6] ⟨[(6, .p 6 0)], [(6, .st false (eD (eSt8 x7)))]⟩ (And.intro (And.intro h6 (And.intro (c_ref08_call K p1 (p0.m.types.getD (wI (((p0.m.funcs.getD p2.n.toNat default)).type_)).toNat default) x7 hx8) True.intro)) True.intro) (by kernel_rfl) ?_
        refine AW2.ret ?_
        have H := Option.some.inj H
        subst H
        exact retP_mk2 True.intro (by kernel_rfl)
  · replace H := ite_f H hc
    refine AW2.seq ?_
    obtain ⟨j9, H18, H⟩ := bind_some H
    refine AW2.reg [] rfl (YW.to ⟨[(3, .p 3 0), (4, .p 4 0), (6, .p 6 0), (7, .d (.int .i64 p2.n))], [(3, .st false (eD (eEnv8 p0))), (4, .st false [.d (sV (eI .u8) p1.l), .d (.int .i64 p1.under), .d (.bool p1.away), .d (.bool p1.dead), .d (.int .i64 p1.most), .d (.bool j9)]), (6, .st false [.d .nils, .d (.int .i64 0), .d (.bool false), .d (.bool false), .d (.int .i64 0), .d (.bool false)])]⟩ ?qh19 ?h19)
    case h19 =>
      have H := H18
      rcases bT p1.ok with hc1 | hc1
      · replace H := ite_t H hc1
        have H := Option.some.inj H
        subst H
        exact YW.fin [(32, true)] [] [3, 4, 6, 7] [] [.k 3, .k 4, .k 6] _ (And.intro (And.intro hc1 (And.intro hc1 (And.intro hc1 (And.intro hc1 (And.intro hc1 (And.intro hc1 True.intro)))))) True.intro) (by kernel_rfl) rfl
      · replace H := ite_f H hc1
        have H := Option.some.inj H
        subst H
        exact YW.fin [(32, false)] [] [3, 4, 6, 7] [] [.k 3, .k 4, .k 6] _ (And.intro (And.intro hc1 (And.intro hc1 (And.intro hc1 (And.intro hc1 (And.intro hc1 (And.intro hc1 True.intro)))))) True.intro) (by kernel_rfl) rfl
    obtain ⟨x10, hx11, H⟩ := bind_some H
    refine AW2.rg [.r (.tup [.agg (eSt8 x10.1), .int .u8 x10.2])] [3, 4, 6, 7] [] [.k 3, .k 4, .k 6] ⟨[(3, .p 3 0), (4, .p 4 0), (6, .p 6 0), (7, .d (.int .i64 p2.n))], [(3, .st false (eD (eEnv8 p0))), (4, .st false (eD (eSt8 x10.1))), (6, .st false [.d .nils, .d (.int .i64 0), .d (.bool false), .d (.bool false), .d (.int .i64 0), .d (.bool false)])]⟩ (And.intro (And.intro (c_ref08_take (St8.mk p1.l p1.under p1.away p1.dead p1.most j9) 127 x10 hx11) True.intro) True.intro) (by kernel_rfl) ?_
    refine AW2.seq ?_
    refine AW2.seq ?_
    obtain ⟨x12, hx13, H⟩ := bind_some H
    refine AW2.rg [.r (.bool x12)] [3, 4, 6, 7, 51] [] [.k 3, .k 4, .k 6] ⟨[(3, .p 3 0), (4, .p 4 0), (6, .p 6 0), (7, .d (.int .i64 p2.n)), (51, .d (.bool (!x12)))], [(3, .st false (eD (eEnv8 p0))), (4, .st false (eD (eSt8 x10.1))), (6, .st false [.d .nils, .d (.int .i64 0), .d (.bool false), .d (.bool false), .d (.int .i64 0), .d (.bool false)])]⟩ (And.intro (And.intro (c_ref08_at p2.n (p0.m.types.length : Int) x12 hx13) True.intro) True.intro) (by kernel_rfl) ?_
    refine AW2.cond (b := (!x12)) rfl (fun hc => ?_) (fun hc => ?_)
    · replace H := ite_t H hc
      refine AW2.seq ?_
      refine AW2.rg [] [4, 6] [] [.k 4, .k 6] ⟨[(4, .p 4 0), (6, .p 6 0)], [(4, .st false [.d (sV (eI .u8) x10.1.l), .d (.int .i64 x10.1.under), .d (.bool x10.1.away), .d (.bool x10.1.dead), .d (.int .i64 x10.1.most), .d (.bool false)]), (6, .st false [.d .nils, .d (.int .i64 0), .d (.bool false), .d (.bool false), .d (.int .i64 0), .d (.bool false)])]⟩ (And.intro True.intro True.intro) (by kernel_rfl) ?_
      refine AW2.seq ?_
      refine AW2.rg [] [6] [] [.k 6] ⟨[(6, .p 6 0)], [(6, .st false [.d (sV (eI .u8) x10.1.l), .d (.int .i64 x10.1.under), .d (.bool x10.1.away), .d (.bool x10.1.dead), .d (.int .i64 x10.1.most), .d (.bool false)])]⟩ (And.intro True.intro True.intro) (by kernel_rfl) ?_
      refine AW2.ret ?_
      have H := Option.some.inj H
      subst H
      exact retP_mk2 True.intro (by kernel_rfl)
    · replace H := ite_f H hc
      refine AW2.skip ?_
      refine AW2.seq ?_
      obtain ⟨h14, H⟩ := gd_some H
      obtain ⟨x15, hx16, H⟩ := bind_some H
      refine AW2.rg [.r (.agg (eSt8 x15))] [6] [] [.k 6] ⟨[(6, .p 6 0)], [(6, .st false (eD (eSt8 x15)))]⟩ (And.intro (And.intro h14 (And.intro (c_ref08_call K x10.1 (p0.m.types.getD p2.n.toNat default) x15 hx16) True.intro)) True.intro) (by kernel_rfl) ?_
      refine AW2.ret ?_
      have H := Option.some.inj H
      subst H
      exact retP_mk2 True.intro (by kernel_rfl)

end Go.Proofs.YtablleokoifolaaGreatDoor

/- Plain functions and their contracts. Written by a program of this claim set (g2.py). -/
set_option linter.unusedVariables false
set_option maxRecDepth 100000
set_option maxHeartbeats 4000000
namespace Go.Proofs.YtablleokoifolaaGreatDoor
open Go

/- mandrel/mandrelref08.variable -/
def g_ref08_variable (p0 : Env8) (p1 : St8) (p2 : Instr) : Option (St8) := ((if (decide (p2.op ≥ (35 : Int))) = true then some (p0.m.globals.length : Int) else some (p0.locals.length : Int))).bind (fun j1 => ((g_ref08_at p2.n j1).bind fun x2 => (if (!x2) = true then some (St8.mk p1.l p1.under p1.away p1.dead p1.most false) else ((if (decide (p2.op ≥ (35 : Int))) = true then gd (0 ≤ p2.n ∧ p2.n < (p0.m.globals.length : Int)) (((if p1.ok = true then (if (p2.op == (35 : Int)) = true then some true else gd (0 ≤ p2.n ∧ p2.n < (p0.m.globals.length : Int)) (some (((p0.m.globals.getD p2.n.toNat default)).mut_))) else some false)).bind (fun j20 => some (((p0.m.globals.getD p2.n.toNat default)).kind, j20))) else gd (0 ≤ p2.n ∧ p2.n < (p0.locals.length : Int)) (some ((p0.locals.getD p2.n.toNat default), p1.ok)))).bind (fun | (j4, j5) => ((if ((p2.op == (33 : Int)) || ((p2.op == (34 : Int)) || (p2.op == (36 : Int)))) = true then ((g_ref08_take (St8.mk p1.l p1.under p1.away p1.dead p1.most j5) j4).bind fun x13 => some x13.1) else some (St8.mk p1.l p1.under p1.away p1.dead p1.most j5))).bind (fun j6 => ((if ((p2.op == (32 : Int)) || ((p2.op == (34 : Int)) || (p2.op == (35 : Int)))) = true then ((g_ref08_lay j6 j4).bind fun x8 => some x8) else some j6)).bind (fun j7 => some j7))))))

theorem c_ref08_variable (p0 : Env8) (p1 : St8) (p2 : Instr) (r : St8) (H : g_ref08_variable p0 p1 p2 = some r) : CF E 47 [.agg (eEnv8 p0), .agg (eSt8 p1), .agg (eInstr p2)] (.agg (eSt8 r)) := by
  refine cf_of (A := F_ref08_variable) fn_ref08_variable rfl fun fr => ?_
  unfold g_ref08_variable at H
  refine AW2.seq ?_
  refine AW2.rg [.k 3, .k 4, .k 5, .k 6] [3, 4, 5, 6] [] [.k 3, .k 4, .k 5, .k 6] ⟨[(3, .p 3 0), (4, .p 4 0), (5, .p 5 0), (6, .p 6 0)], [(3, .st false (eD (eEnv8 p0))), (4, .st false (eD (eSt8 p1))), (5, .st false (eD (eInstr p2))), (6, .st false [.d .nils, .d (.int .i64 0), .d (.bool false), .d (.bool false), .d (.int .i64 0), .d (.bool false)])]⟩ (And.intro True.intro True.intro) (by kernel_rfl) ?_
  refine AW2.seq ?_
  refine AW2.rg [] [3, 4, 5, 6, 7] [] [.k 3, .k 4, .k 5, .k 6] ⟨[(3, .p 3 0), (4, .p 4 0), (5, .p 5 0), (6, .p 6 0), (7, .d (.int .i64 (p0.locals.length : Int)))], [(3, .st false (eD (eEnv8 p0))), (4, .st false (eD (eSt8 p1))), (5, .st false (eD (eInstr p2))), (6, .st false [.d .nils, .d (.int .i64 0), .d (.bool false), .d (.bool false), .d (.int .i64 0), .d (.bool false)])]⟩ (And.intro True.intro True.intro) (by kernel_rfl) ?_
  obtain ⟨j1, H28, H⟩ := bind_some H
  refine AW2.mid ⟨[(3, .p 3 0), (4, .p 4 0), (5, .p 5 0), (6, .p 6 0), (7, .d (.int .i64 j1))], [(3, .st false (eD (eEnv8 p0))), (4, .st false (eD (eSt8 p1))), (5, .st false (eD (eInstr p2))), (6, .st false [.d .nils, .d (.int .i64 0), .d (.bool false), .d (.bool false), .d (.int .i64 0), .d (.bool false)])]⟩ ?_ ?_
  · refine AW2.seq ?_
    refine AW2.seq ?_
    obtain ⟨x2, hx3, H⟩ := bind_some H
    refine AW2.rg [.r (.bool x2)] [3, 4, 5, 6, 23] [] [.k 3, .k 4, .k 5, .k 6] ⟨[(3, .p 3 0), (4, .p 4 0), (5, .p 5 0), (6, .p 6 0), (23, .d (.bool (!x2)))], [(3, .st false (eD (eEnv8 p0))), (4, .st false (eD (eSt8 p1))), (5, .st false (eD (eInstr p2))), (6, .st false [.d .nils, .d (.int .i64 0), .d (.bool false), .d (.bool false), .d (.int .i64 0), .d (.bool false)])]⟩ (And.intro (And.intro (c_ref08_at p2.n j1 x2 hx3) True.intro) True.intro) (by kernel_rfl) ?_
    refine AW2.cond (b := (!x2)) rfl (fun hc => ?_) (fun hc => ?_)
    · replace H := ite_t H hc
      refine AW2.seq ?_
      refine AW2.rg [] [4, 6] [] [.k 4, .k 6] ⟨[(4, .p 4 0), (6, .p 6 0)], [(4, .st false [.d (sV (eI .u8) p1.l), .d (.int .i64 p1.under), .d (.bool p1.away), .d (.bool p1.dead), .d (.int .i64 p1.most), .d (.bool false)]), (6, .st false [.d .nils, .d (.int .i64 0), .d (.bool false), .d (.bool false), .d (.int .i64 0), .d (.bool false)])]⟩ (And.intro True.intro True.intro) (by kernel_rfl) ?_
      refine AW2.seq ?_
      refine AW2.rg [] [6] [] [.k 6] ⟨[(6, .p 6 0)], [(6, .st false [.d (sV (eI .u8) p1.l), .d (.int .i64 p1.under), .d (.bool p1.away), .d (.bool p1.dead), .d (.int .i64 p1.most), .d (.bool false)])]⟩ (And.intro True.intro True.intro) (by kernel_rfl) ?_
      refine AW2.ret ?_
      have H := Option.some.inj H
      subst H
      exact retP_mk2 True.intro (by kernel_rfl)
    · replace H := ite_f H hc
      refine AW2.skip ?_
      refine AW2.seq ?_
      refine AW2.rg [] [3, 4, 5, 6] [] [.k 3, .k 4, .k 5, .k 6] ⟨[(3, .p 3 0), (4, .p 4 0), (5, .p 5 0), (6, .p 6 0)], [(3, .st false (eD (eEnv8 p0))), (4, .st false (eD (eSt8 p1))), (5, .st false (eD (eInstr p2))), (6, .st false [.d .nils, .d (.int .i64 0), .d (.bool false), .d (.bool false), .d (.int .i64 0), .d (.bool false)])]⟩ (And.intro True.intro True.intro) (by kernel_rfl) ?_
      obtain ⟨v25, H26, H⟩ := bind_some H
      obtain ⟨j4, j5⟩ := v25
      dsimp only at H
      refine AW2.mid ⟨[(4, .p 4 0), (5, .p 5 0), (6, .p 6 0), (8, .d (.int .u8 j4))], [(4, .st false [.d (sV (eI .u8) p1.l), .d (.int .i64 p1.under), .d (.bool p1.away), .d (.bool p1.dead), .d (.int .i64 p1.most), .d (.bool j5)]), (5, .st false (eD (eInstr p2))), (6, .st false [.d .nils, .d (.int .i64 0), .d (.bool false), .d (.bool false), .d (.int .i64 0), .d (.bool false)])]⟩ ?_ ?_
      · obtain ⟨j6, H17, H⟩ := bind_some H
        refine AW2.mid ⟨[(4, .p 4 0), (5, .p 5 0), (6, .p 6 0), (8, .d (.int .u8 j4))], [(4, .st false (eD (eSt8 j6))), (5, .st false (eD (eInstr p2))), (6, .st false [.d .nils, .d (.int .i64 0), .d (.bool false), .d (.bool false), .d (.int .i64 0), .d (.bool false)])]⟩ ?_ ?_
        · obtain ⟨j7, H12, H⟩ := bind_some H
          refine AW2.mid ⟨[(4, .p 4 0), (6, .p 6 0)], [(4, .st false (eD (eSt8 j7))), (6, .st false [.d .nils, .d (.int .i64 0), .d (.bool false), .d (.bool false), .d (.int .i64 0), .d (.bool false)])]⟩ ?_ ?_
          · refine AW2.seq ?_
            refine AW2.rg [] [6] [] [.k 6] ⟨[(6, .p 6 0)], [(6, .st false (eD (eSt8 j7)))]⟩ (And.intro True.intro True.intro) (by kernel_rfl) ?_
            refine AW2.ret ?_
            have H := Option.some.inj H
            subst H
            exact retP_mk2 True.intro (by kernel_rfl)
          · have H := H12
            refine AW2.seq ?_
            refine AW2.reg [] rfl (YW.to ⟨[(4, .p 4 0), (6, .p 6 0), (8, .d (.int .u8 j4)), (92, .d (.bool ((p2.op == (32 : Int)) || ((p2.op == (34 : Int)) || (p2.op == (35 : Int))))))], [(4, .st false (eD (eSt8 j6))), (6, .st false [.d .nils, .d (.int .i64 0), .d (.bool false), .d (.bool false), .d (.int .i64 0), .d (.bool false)])]⟩ ?qh10 ?h10)
            case h10 =>
              rcases bT (p2.op == (32 : Int)) with hc1 | hc1
              · exact YW.fin [(83, true), (88, true)] [] [4, 6, 8, 92] [(92, .d (.bool ((p2.op == (32 : Int)) || ((p2.op == (34 : Int)) || (p2.op == (35 : Int))))))] [.k 4, .k 6] _ (And.intro (And.intro hc1 (And.intro hc1 (And.intro hc1 (And.intro hc1 (And.intro (Eq.refl true) (And.intro (Eq.refl true) (And.intro (Eq.refl true) (And.intro (Eq.refl true) True.intro)))))))) (And.intro (ovB (orT (b := ((p2.op == (34 : Int)) || (p2.op == (35 : Int)))) hc1)) True.intro)) (by kernel_rfl) rfl
              · rcases bT (p2.op == (34 : Int)) with hc2 | hc2
                · exact YW.fin [(83, false), (88, true)] [] [4, 6, 8, 92] [(92, .d (.bool ((p2.op == (32 : Int)) || ((p2.op == (34 : Int)) || (p2.op == (35 : Int))))))] [.k 4, .k 6] _ (And.intro (And.intro hc1 (And.intro hc1 (And.intro hc1 (And.intro hc1 (And.intro hc2 (And.intro hc2 (And.intro hc2 (And.intro hc2 True.intro)))))))) (And.intro (ovB (Eq.trans (orF (b := ((p2.op == (34 : Int)) || (p2.op == (35 : Int)))) hc1) (orT (b := (p2.op == (35 : Int))) hc2))) True.intro)) (by kernel_rfl) rfl
                · exact YW.fin [(83, false), (88, false)] [] [4, 6, 8, 92] [(92, .d (.bool ((p2.op == (32 : Int)) || ((p2.op == (34 : Int)) || (p2.op == (35 : Int))))))] [.k 4, .k 6] _ (And.intro (And.intro hc1 (And.intro hc1 (And.intro hc1 (And.intro hc1 (And.intro hc2 (And.intro hc2 (And.intro hc2 (And.intro hc2 True.intro)))))))) (And.intro (ovB (Eq.trans (orF (b := ((p2.op == (34 : Int)) || (p2.op == (35 : Int)))) hc1) (Eq.trans (orF (b := (p2.op == (35 : Int))) hc2) (Eq.refl (p2.op == (35 : Int)))))) True.intro)) (by kernel_rfl) rfl
            refine AW2.cond (b := ((p2.op == (32 : Int)) || ((p2.op == (34 : Int)) || (p2.op == (35 : Int))))) rfl (fun hc => ?_) (fun hc => ?_)
            · replace H := ite_t H hc
              obtain ⟨x8, hx9, H⟩ := bind_some H
              refine AW2.rg [.r (.agg (eSt8 x8))] [4, 6] [] [.k 4, .k 6] ⟨[(4, .p 4 0), (6, .p 6 0)], [(4, .st false (eD (eSt8 x8))), (6, .st false [.d .nils, .d (.int .i64 0), .d (.bool false), .d (.bool false), .d (.int .i64 0), .d (.bool false)])]⟩ (And.intro (And.intro (c_ref08_lay j6 j4 x8 hx9) True.intro) True.intro) (by kernel_rfl) ?_
              have H := Option.some.inj H
              subst H
              exact wk_mk [4, 6] [] [.k 4, .k 6] True.intro (by kernel_rfl)
            · replace H := ite_f H hc
              refine AW2.skip ?_
              have H := Option.some.inj H
              subst H
              exact wk_mk [4, 6] [] [.k 4, .k 6] True.intro (by kernel_rfl)
        · have H := H17
          refine AW2.seq ?_
          refine AW2.reg [] rfl (YW.to ⟨[(4, .p 4 0), (5, .p 5 0), (6, .p 6 0), (8, .d (.int .u8 j4)), (73, .d (.bool ((p2.op == (33 : Int)) || ((p2.op == (34 : Int)) || (p2.op == (36 : Int))))))], [(4, .st false [.d (sV (eI .u8) p1.l), .d (.int .i64 p1.under), .d (.bool p1.away), .d (.bool p1.dead), .d (.int .i64 p1.most), .d (.bool j5)]), (5, .st false (eD (eInstr p2))), (6, .st false [.d .nils, .d (.int .i64 0), .d (.bool false), .d (.bool false), .d (.int .i64 0), .d (.bool false)])]⟩ ?qh15 ?h15)
          case h15 =>
            rcases bT (p2.op == (33 : Int)) with hc1 | hc1
            · exact YW.fin [(64, true), (69, true)] [] [4, 5, 6, 8, 73] [(73, .d (.bool ((p2.op == (33 : Int)) || ((p2.op == (34 : Int)) || (p2.op == (36 : Int))))))] [.k 4, .k 5, .k 6] _ (And.intro (And.intro hc1 (And.intro hc1 (And.intro hc1 (And.intro hc1 (And.intro (Eq.refl true) (And.intro (Eq.refl true) (And.intro (Eq.refl true) (And.intro (Eq.refl true) True.intro)))))))) (And.intro (ovB (orT (b := ((p2.op == (34 : Int)) || (p2.op == (36 : Int)))) hc1)) True.intro)) (by kernel_rfl) rfl
            · rcases bT (p2.op == (34 : Int)) with hc2 | hc2
              · exact YW.fin [(64, false), (69, true)] [] [4, 5, 6, 8, 73] [(73, .d (.bool ((p2.op == (33 : Int)) || ((p2.op == (34 : Int)) || (p2.op == (36 : Int))))))] [.k 4, .k 5, .k 6] _ (And.intro (And.intro hc1 (And.intro hc1 (And.intro hc1 (And.intro hc1 (And.intro hc2 (And.intro hc2 (And.intro hc2 (And.intro hc2 True.intro)))))))) (And.intro (ovB (Eq.trans (orF (b := ((p2.op == (34 : Int)) || (p2.op == (36 : Int)))) hc1) (orT (b := (p2.op == (36 : Int))) hc2))) True.intro)) (by kernel_rfl) rfl
              · exact YW.fin [(64, false), (69, false)] [] [4, 5, 6, 8, 73] [(73, .d (.bool ((p2.op == (33 : Int)) || ((p2.op == (34 : Int)) || (p2.op == (36 : Int))))))] [.k 4, .k 5, .k 6] _ (And.intro (And.intro hc1 (And.intro hc1 (And.intro hc1 (And.intro hc1 (And.intro hc2 (And.intro hc2 (And.intro hc2 (And.intro hc2 True.intro)))))))) (And.intro (ovB (Eq.trans (orF (b := ((p2.op == (34 : Int)) || (p2.op == (36 : Int)))) hc1) (Eq.trans (orF (b := (p2.op == (36 : Int))) hc2) (Eq.refl (p2.op == (36 : Int)))))) True.intro)) (by kernel_rfl) rfl
          refine AW2.cond (b := ((p2.op == (33 : Int)) || ((p2.op == (34 : Int)) || (p2.op == (36 : Int))))) rfl (fun hc => ?_) (fun hc => ?_)
          · replace H := ite_t H hc
            obtain ⟨x13, hx14, H⟩ := bind_some H
            refine AW2.rg [.r (.tup [.agg (eSt8 x13.1), .int .u8 x13.2])] [4, 5, 6, 8] [] [.k 4, .k 5, .k 6] ⟨[(4, .p 4 0), (5, .p 5 0), (6, .p 6 0), (8, .d (.int .u8 j4))], [(4, .st false (eD (eSt8 x13.1))), (5, .st false (eD (eInstr p2))), (6, .st false [.d .nils, .d (.int .i64 0), .d (.bool false), .d (.bool false), .d (.int .i64 0), .d (.bool false)])]⟩ (And.intro (And.intro (c_ref08_take (St8.mk p1.l p1.under p1.away p1.dead p1.most j5) j4 x13 hx14) True.intro) True.intro) (by kernel_rfl) ?_
            have H := Option.some.inj H
            subst H
            exact wk_mk [4, 5, 6, 8] [] [.k 4, .k 5, .k 6] True.intro (by kernel_rfl)
          · replace H := ite_f H hc
            refine AW2.skip ?_
            have H := Option.some.inj H
            subst H
            exact wk_mk [4, 5, 6, 8] [] [.k 4, .k 5, .k 6] True.intro (by kernel_rfl)
      · have H := H26
        refine AW2.seq ?_
        refine AW2.rg [] [3, 4, 5, 6, 28] [] [.k 3, .k 4, .k 5, .k 6] ⟨[(3, .p 3 0), (4, .p 4 0), (5, .p 5 0), (6, .p 6 0), (28, .d (.bool (decide (p2.op ≥ (35 : Int)))))], [(3, .st false (eD (eEnv8 p0))), (4, .st false (eD (eSt8 p1))), (5, .st false (eD (eInstr p2))), (6, .st false [.d .nils, .d (.int .i64 0), .d (.bool false), .d (.bool false), .d (.int .i64 0), .d (.bool false)])]⟩ (And.intro True.intro True.intro) (by kernel_rfl) ?_
        refine AW2.cond (b := (decide (p2.op ≥ (35 : Int)))) rfl (fun hc => ?_) (fun hc => ?_)
        · replace H := ite_t H hc
          refine AW2.seq ?_
          obtain ⟨h18, H⟩ := gd_some H
          refine AW2.rg [] [3, 4, 5, 6, 8] [] [.k 3, .k 4, .k 5, .k 6] ⟨[(3, .p 3 0), (4, .p 4 0), (5, .p 5 0), (6, .p 6 0), (8, .d (.int .u8 (((p0.m.globals.getD p2.n.toNat default)).kind)))], [(3, .st false (eD (eEnv8 p0))), (4, .st false (eD (eSt8 p1))), (5, .st false (eD (eInstr p2))), (6, .st false [.d .nils, .d (.int .i64 0), .d (.bool false), .d (.bool false), .d (.int .i64 0), .d (.bool false)])]⟩ (And.intro (And.intro h18 True.intro) True.intro) (by kernel_rfl) ?_
          obtain ⟨j20, H22, H⟩ := bind_some H
          refine AW2.reg [] rfl (YW.to ⟨[(4, .p 4 0), (5, .p 5 0), (6, .p 6 0), (8, .d (.int .u8 (((p0.m.globals.getD p2.n.toNat default)).kind)))], [(4, .st false [.d (sV (eI .u8) p1.l), .d (.int .i64 p1.under), .d (.bool p1.away), .d (.bool p1.dead), .d (.int .i64 p1.most), .d (.bool j20)]), (5, .st false (eD (eInstr p2))), (6, .st false [.d .nils, .d (.int .i64 0), .d (.bool false), .d (.bool false), .d (.int .i64 0), .d (.bool false)])]⟩ ?qh23 ?h23)
          case h23 =>
            have H := H22
            rcases bT p1.ok with hc1 | hc1
            · replace H := ite_t H hc1
              rcases bT (p2.op == (35 : Int)) with hc2 | hc2
              · replace H := ite_t H hc2
                have H := Option.some.inj H
                subst H
                exact YW.fin [(39, true), (43, true)] [] [4, 5, 6, 8] [] [.k 4, .k 5, .k 6] _ (And.intro (And.intro hc1 (And.intro hc1 (And.intro hc1 (And.intro hc1 (And.intro hc2 (And.intro hc2 (And.intro hc2 (And.intro hc2 (And.intro hc2 (And.intro hc2 (And.intro hc2 (And.intro hc2 (And.intro hc1 (And.intro hc2 (And.intro hc1 True.intro))))))))))))))) True.intro) (by kernel_rfl) rfl
              · replace H := ite_f H hc2
                obtain ⟨h19, H⟩ := gd_some H
                have H := Option.some.inj H
                subst H
                exact YW.fin [(39, true), (43, false)] [] [4, 5, 6, 8] [] [.k 4, .k 5, .k 6] _ (And.intro (And.intro hc1 (And.intro hc1 (And.intro hc1 (And.intro hc1 (And.intro hc2 (And.intro hc2 (And.intro hc2 (And.intro hc2 (And.intro hc2 (And.intro hc2 (And.intro h19 (And.intro hc2 (And.intro hc2 (And.intro hc1 (And.intro hc2 (And.intro hc1 True.intro)))))))))))))))) True.intro) (by kernel_rfl) rfl
            · replace H := ite_f H hc1
              have H := Option.some.inj H
              subst H
              exact YW.fin [(39, false)] [] [4, 5, 6, 8] [] [.k 4, .k 5, .k 6] _ (And.intro (And.intro hc1 (And.intro hc1 (And.intro hc1 (And.intro hc1 (And.intro hc1 (And.intro hc1 True.intro)))))) True.intro) (by kernel_rfl) rfl
          have H := Option.some.inj H
          simp only [Prod.mk.injEq] at H
          obtain ⟨e0, e1⟩ := H
          subst e0
          subst e1
          exact wk_mk [4, 5, 6, 8] [] [.k 4, .k 5, .k 6] True.intro (by kernel_rfl)
        · replace H := ite_f H hc
          obtain ⟨h24, H⟩ := gd_some H
          refine AW2.rg [] [4, 5, 6, 8] [] [.k 4, .k 5, .k 6] ⟨[(4, .p 4 0), (5, .p 5 0), (6, .p 6 0), (8, .d (.int .u8 (p0.locals.getD p2.n.toNat default)))], [(4, .st false (eD (eSt8 p1))), (5, .st false (eD (eInstr p2))), (6, .st false [.d .nils, .d (.int .i64 0), .d (.bool false), .d (.bool false), .d (.int .i64 0), .d (.bool false)])]⟩ (And.intro (And.intro h24 True.intro) True.intro) (by kernel_rfl) ?_
          have H := Option.some.inj H
          simp only [Prod.mk.injEq] at H
          obtain ⟨e0, e1⟩ := H
          subst e0
          subst e1
          exact wk_mk [4, 5, 6, 8] [] [.k 4, .k 5, .k 6] True.intro (by kernel_rfl)
  · have H := H28
    refine AW2.seq ?_
    refine AW2.rg [] [3, 4, 5, 6, 7, 14] [] [.k 3, .k 4, .k 5, .k 6] ⟨[(3, .p 3 0), (4, .p 4 0), (5, .p 5 0), (6, .p 6 0), (7, .d (.int .i64 (p0.locals.length : Int))), (14, .d (.bool (decide (p2.op ≥ (35 : Int)))))], [(3, .st false (eD (eEnv8 p0))), (4, .st false (eD (eSt8 p1))), (5, .st false (eD (eInstr p2))), (6, .st false [.d .nils, .d (.int .i64 0), .d (.bool false), .d (.bool false), .d (.int .i64 0), .d (.bool false)])]⟩ (And.intro True.intro True.intro) (by kernel_rfl) ?_
    refine AW2.cond (b := (decide (p2.op ≥ (35 : Int)))) rfl (fun hc => ?_) (fun hc => ?_)
    · replace H := ite_t H hc
      refine AW2.rg [] [3, 4, 5, 6, 7] [] [.k 3, .k 4, .k 5, .k 6] ⟨[(3, .p 3 0), (4, .p 4 0), (5, .p 5 0), (6, .p 6 0), (7, .d (.int .i64 (p0.m.globals.length : Int)))], [(3, .st false (eD (eEnv8 p0))), (4, .st false (eD (eSt8 p1))), (5, .st false (eD (eInstr p2))), (6, .st false [.d .nils, .d (.int .i64 0), .d (.bool false), .d (.bool false), .d (.int .i64 0), .d (.bool false)])]⟩ (And.intro True.intro True.intro) (by kernel_rfl) ?_
      have H := Option.some.inj H
      subst H
      exact wk_mk [3, 4, 5, 6, 7] [] [.k 3, .k 4, .k 5, .k 6] True.intro (by kernel_rfl)
    · replace H := ite_f H hc
      refine AW2.skip ?_
      have H := Option.some.inj H
      subst H
      exact wk_mk [3, 4, 5, 6, 7] [] [.k 3, .k 4, .k 5, .k 6] True.intro (by kernel_rfl)

end Go.Proofs.YtablleokoifolaaGreatDoor

/- Plain functions and their contracts. Written by a program of this claim set (g2.py). -/
set_option linter.unusedVariables false
set_option maxRecDepth 100000
set_option maxHeartbeats 4000000
namespace Go.Proofs.YtablleokoifolaaGreatDoor
open Go

/- mandrel/mandrelref02.Name -/
def g_ref02_Name (p0 : Int) : Option (ByteArray × Int) := (if ((decide ((wI p0) ≥ (69 : Int))) && (decide ((wI p0) ≤ (79 : Int)))) = true then gd (0 ≤ (wI ((wI p0) - 69)) ∧ (wI ((wI p0) - 69)) < ([(ByteArray.mk #[101, 113, 122]), (ByteArray.mk #[101, 113]), (ByteArray.mk #[110, 101]), (ByteArray.mk #[108, 116, 95, 115]), (ByteArray.mk #[108, 116, 95, 117]), (ByteArray.mk #[103, 116, 95, 115]), (ByteArray.mk #[103, 116, 95, 117]), (ByteArray.mk #[108, 101, 95, 115]), (ByteArray.mk #[108, 101, 95, 117]), (ByteArray.mk #[103, 101, 95, 115]), (ByteArray.mk #[103, 101, 95, 117])].length : Int)) (some ([(ByteArray.mk #[101, 113, 122]), (ByteArray.mk #[101, 113]), (ByteArray.mk #[110, 101]), (ByteArray.mk #[108, 116, 95, 115]), (ByteArray.mk #[108, 116, 95, 117]), (ByteArray.mk #[103, 116, 95, 115]), (ByteArray.mk #[103, 116, 95, 117]), (ByteArray.mk #[108, 101, 95, 115]), (ByteArray.mk #[108, 101, 95, 117]), (ByteArray.mk #[103, 101, 95, 115]), (ByteArray.mk #[103, 101, 95, 117])].getD ((wI ((wI p0) - 69)).toNat) default, 32)) else (if ((decide ((wI p0) ≥ (80 : Int))) && (decide ((wI p0) ≤ (90 : Int)))) = true then gd (0 ≤ (wI ((wI p0) - 80)) ∧ (wI ((wI p0) - 80)) < ([(ByteArray.mk #[101, 113, 122]), (ByteArray.mk #[101, 113]), (ByteArray.mk #[110, 101]), (ByteArray.mk #[108, 116, 95, 115]), (ByteArray.mk #[108, 116, 95, 117]), (ByteArray.mk #[103, 116, 95, 115]), (ByteArray.mk #[103, 116, 95, 117]), (ByteArray.mk #[108, 101, 95, 115]), (ByteArray.mk #[108, 101, 95, 117]), (ByteArray.mk #[103, 101, 95, 115]), (ByteArray.mk #[103, 101, 95, 117])].length : Int)) (some ([(ByteArray.mk #[101, 113, 122]), (ByteArray.mk #[101, 113]), (ByteArray.mk #[110, 101]), (ByteArray.mk #[108, 116, 95, 115]), (ByteArray.mk #[108, 116, 95, 117]), (ByteArray.mk #[103, 116, 95, 115]), (ByteArray.mk #[103, 116, 95, 117]), (ByteArray.mk #[108, 101, 95, 115]), (ByteArray.mk #[108, 101, 95, 117]), (ByteArray.mk #[103, 101, 95, 115]), (ByteArray.mk #[103, 101, 95, 117])].getD ((wI ((wI p0) - 80)).toNat) default, 64)) else (if ((decide ((wI p0) ≥ (103 : Int))) && (decide ((wI p0) ≤ (105 : Int)))) = true then gd (0 ≤ (wI ((wI p0) - 103)) ∧ (wI ((wI p0) - 103)) < (([(ByteArray.mk #[99, 108, 122]), (ByteArray.mk #[99, 116, 122]), (ByteArray.mk #[112, 111, 112, 99, 110, 116])] : List ByteArray).length : Int)) (some (([(ByteArray.mk #[99, 108, 122]), (ByteArray.mk #[99, 116, 122]), (ByteArray.mk #[112, 111, 112, 99, 110, 116])] : List ByteArray).getD ((wI ((wI p0) - 103)).toNat) default, 32)) else (if ((decide ((wI p0) ≥ (106 : Int))) && (decide ((wI p0) ≤ (120 : Int)))) = true then gd (0 ≤ (wI ((wI p0) - 106)) ∧ (wI ((wI p0) - 106)) < ([(ByteArray.mk #[97, 100, 100]), (ByteArray.mk #[115, 117, 98]), (ByteArray.mk #[109, 117, 108]), (ByteArray.mk #[100, 105, 118, 95, 115]), (ByteArray.mk #[100, 105, 118, 95, 117]), (ByteArray.mk #[114, 101, 109, 95, 115]), (ByteArray.mk #[114, 101, 109, 95, 117]), (ByteArray.mk #[97, 110, 100]), (ByteArray.mk #[111, 114]), (ByteArray.mk #[120, 111, 114]), (ByteArray.mk #[115, 104, 108]), (ByteArray.mk #[115, 104, 114, 95, 115]), (ByteArray.mk #[115, 104, 114, 95, 117]), (ByteArray.mk #[114, 111, 116, 108]), (ByteArray.mk #[114, 111, 116, 114])].length : Int)) (some ([(ByteArray.mk #[97, 100, 100]), (ByteArray.mk #[115, 117, 98]), (ByteArray.mk #[109, 117, 108]), (ByteArray.mk #[100, 105, 118, 95, 115]), (ByteArray.mk #[100, 105, 118, 95, 117]), (ByteArray.mk #[114, 101, 109, 95, 115]), (ByteArray.mk #[114, 101, 109, 95, 117]), (ByteArray.mk #[97, 110, 100]), (ByteArray.mk #[111, 114]), (ByteArray.mk #[120, 111, 114]), (ByteArray.mk #[115, 104, 108]), (ByteArray.mk #[115, 104, 114, 95, 115]), (ByteArray.mk #[115, 104, 114, 95, 117]), (ByteArray.mk #[114, 111, 116, 108]), (ByteArray.mk #[114, 111, 116, 114])].getD ((wI ((wI p0) - 106)).toNat) default, 32)) else (if ((decide ((wI p0) ≥ (121 : Int))) && (decide ((wI p0) ≤ (123 : Int)))) = true then gd (0 ≤ (wI ((wI p0) - 121)) ∧ (wI ((wI p0) - 121)) < (([(ByteArray.mk #[99, 108, 122]), (ByteArray.mk #[99, 116, 122]), (ByteArray.mk #[112, 111, 112, 99, 110, 116])] : List ByteArray).length : Int)) (some (([(ByteArray.mk #[99, 108, 122]), (ByteArray.mk #[99, 116, 122]), (ByteArray.mk #[112, 111, 112, 99, 110, 116])] : List ByteArray).getD ((wI ((wI p0) - 121)).toNat) default, 64)) else (if ((decide ((wI p0) ≥ (124 : Int))) && (decide ((wI p0) ≤ (138 : Int)))) = true then gd (0 ≤ (wI ((wI p0) - 124)) ∧ (wI ((wI p0) - 124)) < ([(ByteArray.mk #[97, 100, 100]), (ByteArray.mk #[115, 117, 98]), (ByteArray.mk #[109, 117, 108]), (ByteArray.mk #[100, 105, 118, 95, 115]), (ByteArray.mk #[100, 105, 118, 95, 117]), (ByteArray.mk #[114, 101, 109, 95, 115]), (ByteArray.mk #[114, 101, 109, 95, 117]), (ByteArray.mk #[97, 110, 100]), (ByteArray.mk #[111, 114]), (ByteArray.mk #[120, 111, 114]), (ByteArray.mk #[115, 104, 108]), (ByteArray.mk #[115, 104, 114, 95, 115]), (ByteArray.mk #[115, 104, 114, 95, 117]), (ByteArray.mk #[114, 111, 116, 108]), (ByteArray.mk #[114, 111, 116, 114])].length : Int)) (some ([(ByteArray.mk #[97, 100, 100]), (ByteArray.mk #[115, 117, 98]), (ByteArray.mk #[109, 117, 108]), (ByteArray.mk #[100, 105, 118, 95, 115]), (ByteArray.mk #[100, 105, 118, 95, 117]), (ByteArray.mk #[114, 101, 109, 95, 115]), (ByteArray.mk #[114, 101, 109, 95, 117]), (ByteArray.mk #[97, 110, 100]), (ByteArray.mk #[111, 114]), (ByteArray.mk #[120, 111, 114]), (ByteArray.mk #[115, 104, 108]), (ByteArray.mk #[115, 104, 114, 95, 115]), (ByteArray.mk #[115, 104, 114, 95, 117]), (ByteArray.mk #[114, 111, 116, 108]), (ByteArray.mk #[114, 111, 116, 114])].getD ((wI ((wI p0) - 124)).toNat) default, 64)) else (if ((wI p0) == (167 : Int)) = true then some ((ByteArray.mk #[119, 114, 97, 112]), 64) else (if ((wI p0) == (172 : Int)) = true then some ((ByteArray.mk #[101, 120, 116, 101, 110, 100, 95, 115]), 32) else (if ((wI p0) == (173 : Int)) = true then some ((ByteArray.mk #[101, 120, 116, 101, 110, 100, 95, 117]), 32) else some ((ByteArray.mk #[]), 0))))))))))

theorem c_ref02_Name (p0 : Int) (r : ByteArray × Int) (H : g_ref02_Name p0 = some r) : CF E 83 [.int .u8 p0] (.tup [.str r.1, .int .i64 r.2]) := by
  refine cf_of (A := F_ref02_Name) fn_ref02_Name rfl fun fr => ?_
  unfold g_ref02_Name at H
  refine AW2.seq ?_
  refine AW2.rg [] [0] [] [] ⟨[(0, .d (.int .u8 p0))], []⟩ (And.intro True.intro True.intro) (by kernel_rfl) ?_
  refine AW2.seq ?_
  refine AW2.rg [.ks true 8 ([(ByteArray.mk #[99, 108, 122]), (ByteArray.mk #[99, 116, 122]), (ByteArray.mk #[112, 111, 112, 99, 110, 116])] : List ByteArray).length (fl eS ([(ByteArray.mk #[99, 108, 122]), (ByteArray.mk #[99, 116, 122]), (ByteArray.mk #[112, 111, 112, 99, 110, 116])] : List ByteArray))] [0, 4] [] [.k 8] ⟨[(0, .d (.int .u8 p0)), (4, .ls 8 0 ([(ByteArray.mk #[99, 108, 122]), (ByteArray.mk #[99, 116, 122]), (ByteArray.mk #[112, 111, 112, 99, 110, 116])] : List ByteArray).length)], [(8, .sl false 1 ([(ByteArray.mk #[99, 108, 122]), (ByteArray.mk #[99, 116, 122]), (ByteArray.mk #[112, 111, 112, 99, 110, 116])] : List ByteArray).length (fl eS ([(ByteArray.mk #[99, 108, 122]), (ByteArray.mk #[99, 116, 122]), (ByteArray.mk #[112, 111, 112, 99, 110, 116])] : List ByteArray)))]⟩ (And.intro (And.intro (litK eS ([(ByteArray.mk #[99, 108, 122]), (ByteArray.mk #[99, 116, 122]), (ByteArray.mk #[112, 111, 112, 99, 110, 116])] : List ByteArray) (fun _ => rfl)) True.intro) True.intro) (by kernel_rfl) ?_
  refine AW2.seq ?_
  refine AW2.rg [.ks true 9 [(ByteArray.mk #[97, 100, 100]), (ByteArray.mk #[115, 117, 98]), (ByteArray.mk #[109, 117, 108]), (ByteArray.mk #[100, 105, 118, 95, 115]), (ByteArray.mk #[100, 105, 118, 95, 117]), (ByteArray.mk #[114, 101, 109, 95, 115]), (ByteArray.mk #[114, 101, 109, 95, 117]), (ByteArray.mk #[97, 110, 100]), (ByteArray.mk #[111, 114]), (ByteArray.mk #[120, 111, 114]), (ByteArray.mk #[115, 104, 108]), (ByteArray.mk #[115, 104, 114, 95, 115]), (ByteArray.mk #[115, 104, 114, 95, 117]), (ByteArray.mk #[114, 111, 116, 108]), (ByteArray.mk #[114, 111, 116, 114])].length (fl eS [(ByteArray.mk #[97, 100, 100]), (ByteArray.mk #[115, 117, 98]), (ByteArray.mk #[109, 117, 108]), (ByteArray.mk #[100, 105, 118, 95, 115]), (ByteArray.mk #[100, 105, 118, 95, 117]), (ByteArray.mk #[114, 101, 109, 95, 115]), (ByteArray.mk #[114, 101, 109, 95, 117]), (ByteArray.mk #[97, 110, 100]), (ByteArray.mk #[111, 114]), (ByteArray.mk #[120, 111, 114]), (ByteArray.mk #[115, 104, 108]), (ByteArray.mk #[115, 104, 114, 95, 115]), (ByteArray.mk #[115, 104, 114, 95, 117]), (ByteArray.mk #[114, 111, 116, 108]), (ByteArray.mk #[114, 111, 116, 114])])] [0, 4, 5] [] [.k 8, .k 9] ⟨[(0, .d (.int .u8 p0)), (4, .ls 8 0 ([(ByteArray.mk #[99, 108, 122]), (ByteArray.mk #[99, 116, 122]), (ByteArray.mk #[112, 111, 112, 99, 110, 116])] : List ByteArray).length), (5, .ls 9 0 [(ByteArray.mk #[97, 100, 100]), (ByteArray.mk #[115, 117, 98]), (ByteArray.mk #[109, 117, 108]), (ByteArray.mk #[100, 105, 118, 95, 115]), (ByteArray.mk #[100, 105, 118, 95, 117]), (ByteArray.mk #[114, 101, 109, 95, 115]), (ByteArray.mk #[114, 101, 109, 95, 117]), (ByteArray.mk #[97, 110, 100]), (ByteArray.mk #[111, 114]), (ByteArray.mk #[120, 111, 114]), (ByteArray.mk #[115, 104, 108]), (ByteArray.mk #[115, 104, 114, 95, 115]), (ByteArray.mk #[115, 104, 114, 95, 117]), (ByteArray.mk #[114, 111, 116, 108]), (ByteArray.mk #[114, 111, 116, 114])].length)], [(8, .sl false 1 ([(ByteArray.mk #[99, 108, 122]), (ByteArray.mk #[99, 116, 122]), (ByteArray.mk #[112, 111, 112, 99, 110, 116])] : List ByteArray).length (fl eS ([(ByteArray.mk #[99, 108, 122]), (ByteArray.mk #[99, 116, 122]), (ByteArray.mk #[112, 111, 112, 99, 110, 116])] : List ByteArray))), (9, .sl false 1 [(ByteArray.mk #[97, 100, 100]), (ByteArray.mk #[115, 117, 98]), (ByteArray.mk #[109, 117, 108]), (ByteArray.mk #[100, 105, 118, 95, 115]), (ByteArray.mk #[100, 105, 118, 95, 117]), (ByteArray.mk #[114, 101, 109, 95, 115]), (ByteArray.mk #[114, 101, 109, 95, 117]), (ByteArray.mk #[97, 110, 100]), (ByteArray.mk #[111, 114]), (ByteArray.mk #[120, 111, 114]), (ByteArray.mk #[115, 104, 108]), (ByteArray.mk #[115, 104, 114, 95, 115]), (ByteArray.mk #[115, 104, 114, 95, 117]), (ByteArray.mk #[114, 111, 116, 108]), (ByteArray.mk #[114, 111, 116, 114])].length (fl eS [(ByteArray.mk #[97, 100, 100]), (ByteArray.mk #[115, 117, 98]), (ByteArray.mk #[109, 117, 108]), (ByteArray.mk #[100, 105, 118, 95, 115]), (ByteArray.mk #[100, 105, 118, 95, 117]), (ByteArray.mk #[114, 101, 109, 95, 115]), (ByteArray.mk #[114, 101, 109, 95, 117]), (ByteArray.mk #[97, 110, 100]), (ByteArray.mk #[111, 114]), (ByteArray.mk #[120, 111, 114]), (ByteArray.mk #[115, 104, 108]), (ByteArray.mk #[115, 104, 114, 95, 115]), (ByteArray.mk #[115, 104, 114, 95, 117]), (ByteArray.mk #[114, 111, 116, 108]), (ByteArray.mk #[114, 111, 116, 114])]))]⟩ (And.intro (And.intro (litK eS [(ByteArray.mk #[97, 100, 100]), (ByteArray.mk #[115, 117, 98]), (ByteArray.mk #[109, 117, 108]), (ByteArray.mk #[100, 105, 118, 95, 115]), (ByteArray.mk #[100, 105, 118, 95, 117]), (ByteArray.mk #[114, 101, 109, 95, 115]), (ByteArray.mk #[114, 101, 109, 95, 117]), (ByteArray.mk #[97, 110, 100]), (ByteArray.mk #[111, 114]), (ByteArray.mk #[120, 111, 114]), (ByteArray.mk #[115, 104, 108]), (ByteArray.mk #[115, 104, 114, 95, 115]), (ByteArray.mk #[115, 104, 114, 95, 117]), (ByteArray.mk #[114, 111, 116, 108]), (ByteArray.mk #[114, 111, 116, 114])] (fun _ => rfl)) True.intro) True.intro) (by kernel_rfl) ?_
  refine AW2.seq ?_
  refine AW2.rg [.ks true 10 [(ByteArray.mk #[101, 113, 122]), (ByteArray.mk #[101, 113]), (ByteArray.mk #[110, 101]), (ByteArray.mk #[108, 116, 95, 115]), (ByteArray.mk #[108, 116, 95, 117]), (ByteArray.mk #[103, 116, 95, 115]), (ByteArray.mk #[103, 116, 95, 117]), (ByteArray.mk #[108, 101, 95, 115]), (ByteArray.mk #[108, 101, 95, 117]), (ByteArray.mk #[103, 101, 95, 115]), (ByteArray.mk #[103, 101, 95, 117])].length (fl eS [(ByteArray.mk #[101, 113, 122]), (ByteArray.mk #[101, 113]), (ByteArray.mk #[110, 101]), (ByteArray.mk #[108, 116, 95, 115]), (ByteArray.mk #[108, 116, 95, 117]), (ByteArray.mk #[103, 116, 95, 115]), (ByteArray.mk #[103, 116, 95, 117]), (ByteArray.mk #[108, 101, 95, 115]), (ByteArray.mk #[108, 101, 95, 117]), (ByteArray.mk #[103, 101, 95, 115]), (ByteArray.mk #[103, 101, 95, 117])])] [0, 4, 5, 6] [] [.k 8, .k 9, .k 10] ⟨[(0, .d (.int .u8 p0)), (4, .ls 8 0 ([(ByteArray.mk #[99, 108, 122]), (ByteArray.mk #[99, 116, 122]), (ByteArray.mk #[112, 111, 112, 99, 110, 116])] : List ByteArray).length), (5, .ls 9 0 [(ByteArray.mk #[97, 100, 100]), (ByteArray.mk #[115, 117, 98]), (ByteArray.mk #[109, 117, 108]), (ByteArray.mk #[100, 105, 118, 95, 115]), (ByteArray.mk #[100, 105, 118, 95, 117]), (ByteArray.mk #[114, 101, 109, 95, 115]), (ByteArray.mk #[114, 101, 109, 95, 117]), (ByteArray.mk #[97, 110, 100]), (ByteArray.mk #[111, 114]), (ByteArray.mk #[120, 111, 114]), (ByteArray.mk #[115, 104, 108]), (ByteArray.mk #[115, 104, 114, 95, 115]), (ByteArray.mk #[115, 104, 114, 95, 117]), (ByteArray.mk #[114, 111, 116, 108]), (ByteArray.mk #[114, 111, 116, 114])].length), (6, .ls 10 0 [(ByteArray.mk #[101, 113, 122]), (ByteArray.mk #[101, 113]), (ByteArray.mk #[110, 101]), (ByteArray.mk #[108, 116, 95, 115]), (ByteArray.mk #[108, 116, 95, 117]), (ByteArray.mk #[103, 116, 95, 115]), (ByteArray.mk #[103, 116, 95, 117]), (ByteArray.mk #[108, 101, 95, 115]), (ByteArray.mk #[108, 101, 95, 117]), (ByteArray.mk #[103, 101, 95, 115]), (ByteArray.mk #[103, 101, 95, 117])].length)], [(8, .sl false 1 ([(ByteArray.mk #[99, 108, 122]), (ByteArray.mk #[99, 116, 122]), (ByteArray.mk #[112, 111, 112, 99, 110, 116])] : List ByteArray).length (fl eS ([(ByteArray.mk #[99, 108, 122]), (ByteArray.mk #[99, 116, 122]), (ByteArray.mk #[112, 111, 112, 99, 110, 116])] : List ByteArray))), (9, .sl false 1 [(ByteArray.mk #[97, 100, 100]), (ByteArray.mk #[115, 117, 98]), (ByteArray.mk #[109, 117, 108]), (ByteArray.mk #[100, 105, 118, 95, 115]), (ByteArray.mk #[100, 105, 118, 95, 117]), (ByteArray.mk #[114, 101, 109, 95, 115]), (ByteArray.mk #[114, 101, 109, 95, 117]), (ByteArray.mk #[97, 110, 100]), (ByteArray.mk #[111, 114]), (ByteArray.mk #[120, 111, 114]), (ByteArray.mk #[115, 104, 108]), (ByteArray.mk #[115, 104, 114, 95, 115]), (ByteArray.mk #[115, 104, 114, 95, 117]), (ByteArray.mk #[114, 111, 116, 108]), (ByteArray.mk #[114, 111, 116, 114])].length (fl eS [(ByteArray.mk #[97, 100, 100]), (ByteArray.mk #[115, 117, 98]), (ByteArray.mk #[109, 117, 108]), (ByteArray.mk #[100, 105, 118, 95, 115]), (ByteArray.mk #[100, 105, 118, 95, 117]), (ByteArray.mk #[114, 101, 109, 95, 115]), (ByteArray.mk #[114, 101, 109, 95, 117]), (ByteArray.mk #[97, 110, 100]), (ByteArray.mk #[111, 114]), (ByteArray.mk #[120, 111, 114]), (ByteArray.mk #[115, 104, 108]), (ByteArray.mk #[115, 104, 114, 95, 115]), (ByteArray.mk #[115, 104, 114, 95, 117]), (ByteArray.mk #[114, 111, 116, 108]), (ByteArray.mk #[114, 111, 116, 114])])), (10, .sl false 1 [(ByteArray.mk #[101, 113, 122]), (ByteArray.mk #[101, 113]), (ByteArray.mk #[110, 101]), (ByteArray.mk #[108, 116, 95, 115]), (ByteArray.mk #[108, 116, 95, 117]), (ByteArray.mk #[103, 116, 95, 115]), (ByteArray.mk #[103, 116, 95, 117]), (ByteArray.mk #[108, 101, 95, 115]), (ByteArray.mk #[108, 101, 95, 117]), (ByteArray.mk #[103, 101, 95, 115]), (ByteArray.mk #[103, 101, 95, 117])].length (fl eS [(ByteArray.mk #[101, 113, 122]), (ByteArray.mk #[101, 113]), (ByteArray.mk #[110, 101]), (ByteArray.mk #[108, 116, 95, 115]), (ByteArray.mk #[108, 116, 95, 117]), (ByteArray.mk #[103, 116, 95, 115]), (ByteArray.mk #[103, 116, 95, 117]), (ByteArray.mk #[108, 101, 95, 115]), (ByteArray.mk #[108, 101, 95, 117]), (ByteArray.mk #[103, 101, 95, 115]), (ByteArray.mk #[103, 101, 95, 117])]))]⟩ (And.intro (And.intro (litK eS [(ByteArray.mk #[101, 113, 122]), (ByteArray.mk #[101, 113]), (ByteArray.mk #[110, 101]), (ByteArray.mk #[108, 116, 95, 115]), (ByteArray.mk #[108, 116, 95, 117]), (ByteArray.mk #[103, 116, 95, 115]), (ByteArray.mk #[103, 116, 95, 117]), (ByteArray.mk #[108, 101, 95, 115]), (ByteArray.mk #[108, 101, 95, 117]), (ByteArray.mk #[103, 101, 95, 115]), (ByteArray.mk #[103, 101, 95, 117])] (fun _ => rfl)) True.intro) True.intro) (by kernel_rfl) ?_
  refine AW2.seq ?_
  refine AW2.rg [] [4, 5, 6, 7] [] [.k 8, .k 9, .k 10] ⟨[(4, .ls 8 0 ([(ByteArray.mk #[99, 108, 122]), (ByteArray.mk #[99, 116, 122]), (ByteArray.mk #[112, 111, 112, 99, 110, 116])] : List ByteArray).length), (5, .ls 9 0 [(ByteArray.mk #[97, 100, 100]), (ByteArray.mk #[115, 117, 98]), (ByteArray.mk #[109, 117, 108]), (ByteArray.mk #[100, 105, 118, 95, 115]), (ByteArray.mk #[100, 105, 118, 95, 117]), (ByteArray.mk #[114, 101, 109, 95, 115]), (ByteArray.mk #[114, 101, 109, 95, 117]), (ByteArray.mk #[97, 110, 100]), (ByteArray.mk #[111, 114]), (ByteArray.mk #[120, 111, 114]), (ByteArray.mk #[115, 104, 108]), (ByteArray.mk #[115, 104, 114, 95, 115]), (ByteArray.mk #[115, 104, 114, 95, 117]), (ByteArray.mk #[114, 111, 116, 108]), (ByteArray.mk #[114, 111, 116, 114])].length), (6, .ls 10 0 [(ByteArray.mk #[101, 113, 122]), (ByteArray.mk #[101, 113]), (ByteArray.mk #[110, 101]), (ByteArray.mk #[108, 116, 95, 115]), (ByteArray.mk #[108, 116, 95, 117]), (ByteArray.mk #[103, 116, 95, 115]), (ByteArray.mk #[103, 116, 95, 117]), (ByteArray.mk #[108, 101, 95, 115]), (ByteArray.mk #[108, 101, 95, 117]), (ByteArray.mk #[103, 101, 95, 115]), (ByteArray.mk #[103, 101, 95, 117])].length), (7, .d (.int .i64 (wI p0)))], [(8, .sl false 1 ([(ByteArray.mk #[99, 108, 122]), (ByteArray.mk #[99, 116, 122]), (ByteArray.mk #[112, 111, 112, 99, 110, 116])] : List ByteArray).length (fl eS ([(ByteArray.mk #[99, 108, 122]), (ByteArray.mk #[99, 116, 122]), (ByteArray.mk #[112, 111, 112, 99, 110, 116])] : List ByteArray))), (9, .sl false 1 [(ByteArray.mk #[97, 100, 100]), (ByteArray.mk #[115, 117, 98]), (ByteArray.mk #[109, 117, 108]), (ByteArray.mk #[100, 105, 118, 95, 115]), (ByteArray.mk #[100, 105, 118, 95, 117]), (ByteArray.mk #[114, 101, 109, 95, 115]), (ByteArray.mk #[114, 101, 109, 95, 117]), (ByteArray.mk #[97, 110, 100]), (ByteArray.mk #[111, 114]), (ByteArray.mk #[120, 111, 114]), (ByteArray.mk #[115, 104, 108]), (ByteArray.mk #[115, 104, 114, 95, 115]), (ByteArray.mk #[115, 104, 114, 95, 117]), (ByteArray.mk #[114, 111, 116, 108]), (ByteArray.mk #[114, 111, 116, 114])].length (fl eS [(ByteArray.mk #[97, 100, 100]), (ByteArray.mk #[115, 117, 98]), (ByteArray.mk #[109, 117, 108]), (ByteArray.mk #[100, 105, 118, 95, 115]), (ByteArray.mk #[100, 105, 118, 95, 117]), (ByteArray.mk #[114, 101, 109, 95, 115]), (ByteArray.mk #[114, 101, 109, 95, 117]), (ByteArray.mk #[97, 110, 100]), (ByteArray.mk #[111, 114]), (ByteArray.mk #[120, 111, 114]), (ByteArray.mk #[115, 104, 108]), (ByteArray.mk #[115, 104, 114, 95, 115]), (ByteArray.mk #[115, 104, 114, 95, 117]), (ByteArray.mk #[114, 111, 116, 108]), (ByteArray.mk #[114, 111, 116, 114])])), (10, .sl false 1 [(ByteArray.mk #[101, 113, 122]), (ByteArray.mk #[101, 113]), (ByteArray.mk #[110, 101]), (ByteArray.mk #[108, 116, 95, 115]), (ByteArray.mk #[108, 116, 95, 117]), (ByteArray.mk #[103, 116, 95, 115]), (ByteArray.mk #[103, 116, 95, 117]), (ByteArray.mk #[108, 101, 95, 115]), (ByteArray.mk #[108, 101, 95, 117]), (ByteArray.mk #[103, 101, 95, 115]), (ByteArray.mk #[103, 101, 95, 117])].length (fl eS [(ByteArray.mk #[101, 113, 122]), (ByteArray.mk #[101, 113]), (ByteArray.mk #[110, 101]), (ByteArray.mk #[108, 116, 95, 115]), (ByteArray.mk #[108, 116, 95, 117]), (ByteArray.mk #[103, 116, 95, 115]), (ByteArray.mk #[103, 116, 95, 117]), (ByteArray.mk #[108, 101, 95, 115]), (ByteArray.mk #[108, 101, 95, 117]), (ByteArray.mk #[103, 101, 95, 115]), (ByteArray.mk #[103, 101, 95, 117])]))]⟩ (And.intro True.intro True.intro) (by kernel_rfl) ?_
  refine AW2.seq ?_
  refine AW2.block ?_
  refine AW2.seq ?_
  refine AW2.reg [] rfl (YW.to ⟨[(4, .ls 8 0 ([(ByteArray.mk #[99, 108, 122]), (ByteArray.mk #[99, 116, 122]), (ByteArray.mk #[112, 111, 112, 99, 110, 116])] : List ByteArray).length), (5, .ls 9 0 [(ByteArray.mk #[97, 100, 100]), (ByteArray.mk #[115, 117, 98]), (ByteArray.mk #[109, 117, 108]), (ByteArray.mk #[100, 105, 118, 95, 115]), (ByteArray.mk #[100, 105, 118, 95, 117]), (ByteArray.mk #[114, 101, 109, 95, 115]), (ByteArray.mk #[114, 101, 109, 95, 117]), (ByteArray.mk #[97, 110, 100]), (ByteArray.mk #[111, 114]), (ByteArray.mk #[120, 111, 114]), (ByteArray.mk #[115, 104, 108]), (ByteArray.mk #[115, 104, 114, 95, 115]), (ByteArray.mk #[115, 104, 114, 95, 117]), (ByteArray.mk #[114, 111, 116, 108]), (ByteArray.mk #[114, 111, 116, 114])].length), (6, .ls 10 0 [(ByteArray.mk #[101, 113, 122]), (ByteArray.mk #[101, 113]), (ByteArray.mk #[110, 101]), (ByteArray.mk #[108, 116, 95, 115]), (ByteArray.mk #[108, 116, 95, 117]), (ByteArray.mk #[103, 116, 95, 115]), (ByteArray.mk #[103, 116, 95, 117]), (ByteArray.mk #[108, 101, 95, 115]), (ByteArray.mk #[108, 101, 95, 117]), (ByteArray.mk #[103, 101, 95, 115]), (ByteArray.mk #[103, 101, 95, 117])].length), (7, .d (.int .i64 (wI p0))), (13, .d (.bool ((decide ((wI p0) ≥ (69 : Int))) && (decide ((wI p0) ≤ (79 : Int))))))], [(8, .sl false 1 ([(ByteArray.mk #[99, 108, 122]), (ByteArray.mk #[99, 116, 122]), (ByteArray.mk #[112, 111, 112, 99, 110, 116])] : List ByteArray).length (fl eS ([(ByteArray.mk #[99, 108, 122]), (ByteArray.mk #[99, 116, 122]), (ByteArray.mk #[112, 111, 112, 99, 110, 116])] : List ByteArray))), (9, .sl false 1 [(ByteArray.mk #[97, 100, 100]), (ByteArray.mk #[115, 117, 98]), (ByteArray.mk #[109, 117, 108]), (ByteArray.mk #[100, 105, 118, 95, 115]), (ByteArray.mk #[100, 105, 118, 95, 117]), (ByteArray.mk #[114, 101, 109, 95, 115]), (ByteArray.mk #[114, 101, 109, 95, 117]), (ByteArray.mk #[97, 110, 100]), (ByteArray.mk #[111, 114]), (ByteArray.mk #[120, 111, 114]), (ByteArray.mk #[115, 104, 108]), (ByteArray.mk #[115, 104, 114, 95, 115]), (ByteArray.mk #[115, 104, 114, 95, 117]), (ByteArray.mk #[114, 111, 116, 108]), (ByteArray.mk #[114, 111, 116, 114])].length (fl eS [(ByteArray.mk #[97, 100, 100]), (ByteArray.mk #[115, 117, 98]), (ByteArray.mk #[109, 117, 108]), (ByteArray.mk #[100, 105, 118, 95, 115]), (ByteArray.mk #[100, 105, 118, 95, 117]), (ByteArray.mk #[114, 101, 109, 95, 115]), (ByteArray.mk #[114, 101, 109, 95, 117]), (ByteArray.mk #[97, 110, 100]), (ByteArray.mk #[111, 114]), (ByteArray.mk #[120, 111, 114]), (ByteArray.mk #[115, 104, 108]), (ByteArray.mk #[115, 104, 114, 95, 115]), (ByteArray.mk #[115, 104, 114, 95, 117]), (ByteArray.mk #[114, 111, 116, 108]), (ByteArray.mk #[114, 111, 116, 114])])), (10, .sl false 1 [(ByteArray.mk #[101, 113, 122]), (ByteArray.mk #[101, 113]), (ByteArray.mk #[110, 101]), (ByteArray.mk #[108, 116, 95, 115]), (ByteArray.mk #[108, 116, 95, 117]), (ByteArray.mk #[103, 116, 95, 115]), (ByteArray.mk #[103, 116, 95, 117]), (ByteArray.mk #[108, 101, 95, 115]), (ByteArray.mk #[108, 101, 95, 117]), (ByteArray.mk #[103, 101, 95, 115]), (ByteArray.mk #[103, 101, 95, 117])].length (fl eS [(ByteArray.mk #[101, 113, 122]), (ByteArray.mk #[101, 113]), (ByteArray.mk #[110, 101]), (ByteArray.mk #[108, 116, 95, 115]), (ByteArray.mk #[108, 116, 95, 117]), (ByteArray.mk #[103, 116, 95, 115]), (ByteArray.mk #[103, 116, 95, 117]), (ByteArray.mk #[108, 101, 95, 115]), (ByteArray.mk #[108, 101, 95, 117]), (ByteArray.mk #[103, 101, 95, 115]), (ByteArray.mk #[103, 101, 95, 117])]))]⟩ ?qh12 ?h12)
  case h12 =>
    rcases bT (decide ((wI p0) ≥ (69 : Int))) with hc1 | hc1
    · exact YW.fin [(16, true)] [] [4, 5, 6, 7, 13] [(13, .d (.bool ((decide ((wI p0) ≥ (69 : Int))) && (decide ((wI p0) ≤ (79 : Int))))))] [.k 8, .k 9, .k 10] _ (And.intro (And.intro hc1 (And.intro hc1 (And.intro hc1 True.intro))) (And.intro (ovB (Eq.trans (andT (b := (decide ((wI p0) ≤ (79 : Int)))) hc1) (Eq.refl (decide ((wI p0) ≤ (79 : Int)))))) True.intro)) (by kernel_rfl) rfl
    · exact YW.fin [(16, false)] [] [4, 5, 6, 7, 13] [(13, .d (.bool ((decide ((wI p0) ≥ (69 : Int))) && (decide ((wI p0) ≤ (79 : Int))))))] [.k 8, .k 9, .k 10] _ (And.intro (And.intro hc1 (And.intro hc1 (And.intro hc1 True.intro))) (And.intro (ovB (andF (b := (decide ((wI p0) ≤ (79 : Int)))) hc1)) True.intro)) (by kernel_rfl) rfl
  refine AW2.cond (b := ((decide ((wI p0) ≥ (69 : Int))) && (decide ((wI p0) ≤ (79 : Int))))) rfl (fun hc => ?_) (fun hc => ?_)
  · replace H := ite_t H hc
    refine AW2.seq ?_
    obtain ⟨h1, H⟩ := gd_some H
    refine AW2.rg [] [2, 3] [] [] ⟨[(2, .d (.str ([(ByteArray.mk #[101, 113, 122]), (ByteArray.mk #[101, 113]), (ByteArray.mk #[110, 101]), (ByteArray.mk #[108, 116, 95, 115]), (ByteArray.mk #[108, 116, 95, 117]), (ByteArray.mk #[103, 116, 95, 115]), (ByteArray.mk #[103, 116, 95, 117]), (ByteArray.mk #[108, 101, 95, 115]), (ByteArray.mk #[108, 101, 95, 117]), (ByteArray.mk #[103, 101, 95, 115]), (ByteArray.mk #[103, 101, 95, 117])].getD ((wI ((wI p0) - 69)).toNat) default))), (3, .d (.int .i64 32))], []⟩ (And.intro (And.intro h1 (And.intro (ixN h1) (And.intro (ixN h1) True.intro))) True.intro) (by kernel_rfl) ?_
    refine AW2.ret ?_
    have H := Option.some.inj H
    subst H
    exact retP_mk2 True.intro (by kernel_rfl)
  · replace H := ite_f H hc
    refine AW2.seq ?_
    refine AW2.reg [] rfl (YW.to ⟨[(4, .ls 8 0 ([(ByteArray.mk #[99, 108, 122]), (ByteArray.mk #[99, 116, 122]), (ByteArray.mk #[112, 111, 112, 99, 110, 116])] : List ByteArray).length), (5, .ls 9 0 [(ByteArray.mk #[97, 100, 100]), (ByteArray.mk #[115, 117, 98]), (ByteArray.mk #[109, 117, 108]), (ByteArray.mk #[100, 105, 118, 95, 115]), (ByteArray.mk #[100, 105, 118, 95, 117]), (ByteArray.mk #[114, 101, 109, 95, 115]), (ByteArray.mk #[114, 101, 109, 95, 117]), (ByteArray.mk #[97, 110, 100]), (ByteArray.mk #[111, 114]), (ByteArray.mk #[120, 111, 114]), (ByteArray.mk #[115, 104, 108]), (ByteArray.mk #[115, 104, 114, 95, 115]), (ByteArray.mk #[115, 104, 114, 95, 117]), (ByteArray.mk #[114, 111, 116, 108]), (ByteArray.mk #[114, 111, 116, 114])].length), (6, .ls 10 0 [(ByteArray.mk #[101, 113, 122]), (ByteArray.mk #[101, 113]), (ByteArray.mk #[110, 101]), (ByteArray.mk #[108, 116, 95, 115]), (ByteArray.mk #[108, 116, 95, 117]), (ByteArray.mk #[103, 116, 95, 115]), (ByteArray.mk #[103, 116, 95, 117]), (ByteArray.mk #[108, 101, 95, 115]), (ByteArray.mk #[108, 101, 95, 117]), (ByteArray.mk #[103, 101, 95, 115]), (ByteArray.mk #[103, 101, 95, 117])].length), (7, .d (.int .i64 (wI p0))), (25, .d (.bool ((decide ((wI p0) ≥ (80 : Int))) && (decide ((wI p0) ≤ (90 : Int))))))], [(8, .sl false 1 ([(ByteArray.mk #[99, 108, 122]), (ByteArray.mk #[99, 116, 122]), (ByteArray.mk #[112, 111, 112, 99, 110, 116])] : List ByteArray).length (fl eS ([(ByteArray.mk #[99, 108, 122]), (ByteArray.mk #[99, 116, 122]), (ByteArray.mk #[112, 111, 112, 99, 110, 116])] : List ByteArray))), (9, .sl false 1 [(ByteArray.mk #[97, 100, 100]), (ByteArray.mk #[115, 117, 98]), (ByteArray.mk #[109, 117, 108]), (ByteArray.mk #[100, 105, 118, 95, 115]), (ByteArray.mk #[100, 105, 118, 95, 117]), (ByteArray.mk #[114, 101, 109, 95, 115]), (ByteArray.mk #[114, 101, 109, 95, 117]), (ByteArray.mk #[97, 110, 100]), (ByteArray.mk #[111, 114]), (ByteArray.mk #[120, 111, 114]), (ByteArray.mk #[115, 104, 108]), (ByteArray.mk #[115, 104, 114, 95, 115]), (ByteArray.mk #[115, 104, 114, 95, 117]), (ByteArray.mk #[114, 111, 116, 108]), (ByteArray.mk #[114, 111, 116, 114])].length (fl eS [(ByteArray.mk #[97, 100, 100]), (ByteArray.mk #[115, 117, 98]), (ByteArray.mk #[109, 117, 108]), (ByteArray.mk #[100, 105, 118, 95, 115]), (ByteArray.mk #[100, 105, 118, 95, 117]), (ByteArray.mk #[114, 101, 109, 95, 115]), (ByteArray.mk #[114, 101, 109, 95, 117]), (ByteArray.mk #[97, 110, 100]), (ByteArray.mk #[111, 114]), (ByteArray.mk #[120, 111, 114]), (ByteArray.mk #[115, 104, 108]), (ByteArray.mk #[115, 104, 114, 95, 115]), (ByteArray.mk #[115, 104, 114, 95, 117]), (ByteArray.mk #[114, 111, 116, 108]), (ByteArray.mk #[114, 111, 116, 114])])), (10, .sl false 1 [(ByteArray.mk #[101, 113, 122]), (ByteArray.mk #[101, 113]), (ByteArray.mk #[110, 101]), (ByteArray.mk #[108, 116, 95, 115]), (ByteArray.mk #[108, 116, 95, 117]), (ByteArray.mk #[103, 116, 95, 115]), (ByteArray.mk #[103, 116, 95, 117]), (ByteArray.mk #[108, 101, 95, 115]), (ByteArray.mk #[108, 101, 95, 117]), (ByteArray.mk #[103, 101, 95, 115]), (ByteArray.mk #[103, 101, 95, 117])].length (fl eS [(ByteArray.mk #[101, 113, 122]), (ByteArray.mk #[101, 113]), (ByteArray.mk #[110, 101]), (ByteArray.mk #[108, 116, 95, 115]), (ByteArray.mk #[108, 116, 95, 117]), (ByteArray.mk #[103, 116, 95, 115]), (ByteArray.mk #[103, 116, 95, 117]), (ByteArray.mk #[108, 101, 95, 115]), (ByteArray.mk #[108, 101, 95, 117]), (ByteArray.mk #[103, 101, 95, 115]), (ByteArray.mk #[103, 101, 95, 117])]))]⟩ ?qh11 ?h11)
    case h11 =>
      rcases bT (decide ((wI p0) ≥ (80 : Int))) with hc1 | hc1
      · exact YW.fin [(28, true)] [] [4, 5, 6, 7, 25] [(25, .d (.bool ((decide ((wI p0) ≥ (80 : Int))) && (decide ((wI p0) ≤ (90 : Int))))))] [.k 8, .k 9, .k 10] _ (And.intro (And.intro hc1 (And.intro hc1 (And.intro hc1 True.intro))) (And.intro (ovB (Eq.trans (andT (b := (decide ((wI p0) ≤ (90 : Int)))) hc1) (Eq.refl (decide ((wI p0) ≤ (90 : Int)))))) True.intro)) (by kernel_rfl) rfl
      · exact YW.fin [(28, false)] [] [4, 5, 6, 7, 25] [(25, .d (.bool ((decide ((wI p0) ≥ (80 : Int))) && (decide ((wI p0) ≤ (90 : Int))))))] [.k 8, .k 9, .k 10] _ (And.intro (And.intro hc1 (And.intro hc1 (And.intro hc1 True.intro))) (And.intro (ovB (andF (b := (decide ((wI p0) ≤ (90 : Int)))) hc1)) True.intro)) (by kernel_rfl) rfl
    refine AW2.cond (b := ((decide ((wI p0) ≥ (80 : Int))) && (decide ((wI p0) ≤ (90 : Int))))) rfl (fun hc => ?_) (fun hc => ?_)
    · replace H := ite_t H hc
      refine AW2.seq ?_
      obtain ⟨h2, H⟩ := gd_some H
      refine AW2.rg [] [2, 3] [] [] ⟨[(2, .d (.str ([(ByteArray.mk #[101, 113, 122]), (ByteArray.mk #[101, 113]), (ByteArray.mk #[110, 101]), (ByteArray.mk #[108, 116, 95, 115]), (ByteArray.mk #[108, 116, 95, 117]), (ByteArray.mk #[103, 116, 95, 115]), (ByteArray.mk #[103, 116, 95, 117]), (ByteArray.mk #[108, 101, 95, 115]), (ByteArray.mk #[108, 101, 95, 117]), (ByteArray.mk #[103, 101, 95, 115]), (ByteArray.mk #[103, 101, 95, 117])].getD ((wI ((wI p0) - 80)).toNat) default))), (3, .d (.int .i64 64))], []⟩ (And.intro (And.intro h2 (And.intro (ixN h2) (And.intro (ixN h2) True.intro))) True.intro) (by kernel_rfl) ?_
      refine AW2.ret ?_
      have H := Option.some.inj H
      subst H
      exact retP_mk2 True.intro (by kernel_rfl)
    · replace H := ite_f H hc
      refine AW2.seq ?_
      refine AW2.reg [] rfl (YW.to ⟨[(4, .ls 8 0 ([(ByteArray.mk #[99, 108, 122]), (ByteArray.mk #[99, 116, 122]), (ByteArray.mk #[112, 111, 112, 99, 110, 116])] : List ByteArray).length), (5, .ls 9 0 [(ByteArray.mk #[97, 100, 100]), (ByteArray.mk #[115, 117, 98]), (ByteArray.mk #[109, 117, 108]), (ByteArray.mk #[100, 105, 118, 95, 115]), (ByteArray.mk #[100, 105, 118, 95, 117]), (ByteArray.mk #[114, 101, 109, 95, 115]), (ByteArray.mk #[114, 101, 109, 95, 117]), (ByteArray.mk #[97, 110, 100]), (ByteArray.mk #[111, 114]), (ByteArray.mk #[120, 111, 114]), (ByteArray.mk #[115, 104, 108]), (ByteArray.mk #[115, 104, 114, 95, 115]), (ByteArray.mk #[115, 104, 114, 95, 117]), (ByteArray.mk #[114, 111, 116, 108]), (ByteArray.mk #[114, 111, 116, 114])].length), (7, .d (.int .i64 (wI p0))), (37, .d (.bool ((decide ((wI p0) ≥ (103 : Int))) && (decide ((wI p0) ≤ (105 : Int))))))], [(8, .sl false 1 ([(ByteArray.mk #[99, 108, 122]), (ByteArray.mk #[99, 116, 122]), (ByteArray.mk #[112, 111, 112, 99, 110, 116])] : List ByteArray).length (fl eS ([(ByteArray.mk #[99, 108, 122]), (ByteArray.mk #[99, 116, 122]), (ByteArray.mk #[112, 111, 112, 99, 110, 116])] : List ByteArray))), (9, .sl false 1 [(ByteArray.mk #[97, 100, 100]), (ByteArray.mk #[115, 117, 98]), (ByteArray.mk #[109, 117, 108]), (ByteArray.mk #[100, 105, 118, 95, 115]), (ByteArray.mk #[100, 105, 118, 95, 117]), (ByteArray.mk #[114, 101, 109, 95, 115]), (ByteArray.mk #[114, 101, 109, 95, 117]), (ByteArray.mk #[97, 110, 100]), (ByteArray.mk #[111, 114]), (ByteArray.mk #[120, 111, 114]), (ByteArray.mk #[115, 104, 108]), (ByteArray.mk #[115, 104, 114, 95, 115]), (ByteArray.mk #[115, 104, 114, 95, 117]), (ByteArray.mk #[114, 111, 116, 108]), (ByteArray.mk #[114, 111, 116, 114])].length (fl eS [(ByteArray.mk #[97, 100, 100]), (ByteArray.mk #[115, 117, 98]), (ByteArray.mk #[109, 117, 108]), (ByteArray.mk #[100, 105, 118, 95, 115]), (ByteArray.mk #[100, 105, 118, 95, 117]), (ByteArray.mk #[114, 101, 109, 95, 115]), (ByteArray.mk #[114, 101, 109, 95, 117]), (ByteArray.mk #[97, 110, 100]), (ByteArray.mk #[111, 114]), (ByteArray.mk #[120, 111, 114]), (ByteArray.mk #[115, 104, 108]), (ByteArray.mk #[115, 104, 114, 95, 115]), (ByteArray.mk #[115, 104, 114, 95, 117]), (ByteArray.mk #[114, 111, 116, 108]), (ByteArray.mk #[114, 111, 116, 114])]))]⟩ ?qh10 ?h10)
      case h10 =>
        rcases bT (decide ((wI p0) ≥ (103 : Int))) with hc1 | hc1
        · exact YW.fin [(40, true)] [] [4, 5, 7, 37] [(37, .d (.bool ((decide ((wI p0) ≥ (103 : Int))) && (decide ((wI p0) ≤ (105 : Int))))))] [.k 8, .k 9] _ (And.intro (And.intro hc1 (And.intro hc1 (And.intro hc1 True.intro))) (And.intro (ovB (Eq.trans (andT (b := (decide ((wI p0) ≤ (105 : Int)))) hc1) (Eq.refl (decide ((wI p0) ≤ (105 : Int)))))) True.intro)) (by kernel_rfl) rfl
        · exact YW.fin [(40, false)] [] [4, 5, 7, 37] [(37, .d (.bool ((decide ((wI p0) ≥ (103 : Int))) && (decide ((wI p0) ≤ (105 : Int))))))] [.k 8, .k 9] _ (And.intro (And.intro hc1 (And.intro hc1 (And.intro hc1 True.intro))) (And.intro (ovB (andF (b := (decide ((wI p0) ≤ (105 : Int)))) hc1)) True.intro)) (by kernel_rfl) rfl
      refine AW2.cond (b := ((decide ((wI p0) ≥ (103 : Int))) && (decide ((wI p0) ≤ (105 : Int))))) rfl (fun hc => ?_) (fun hc => ?_)
      · replace H := ite_t H hc
        refine AW2.seq ?_
        obtain ⟨h3, H⟩ := gd_some H
        refine AW2.rg [] [2, 3] [] [] ⟨[(2, .d (.str (([(ByteArray.mk #[99, 108, 122]), (ByteArray.mk #[99, 116, 122]), (ByteArray.mk #[112, 111, 112, 99, 110, 116])] : List ByteArray).getD ((wI ((wI p0) - 103)).toNat) default))), (3, .d (.int .i64 32))], []⟩ (And.intro (And.intro h3 (And.intro (ixN h3) (And.intro (ixN h3) True.intro))) True.intro) (by kernel_rfl) ?_
        refine AW2.ret ?_
        have H := Option.some.inj H
        subst H
        exact retP_mk2 True.intro (by kernel_rfl)
      · replace H := ite_f H hc
        refine AW2.seq ?_
        refine AW2.reg [] rfl (YW.to ⟨[(4, .ls 8 0 ([(ByteArray.mk #[99, 108, 122]), (ByteArray.mk #[99, 116, 122]), (ByteArray.mk #[112, 111, 112, 99, 110, 116])] : List ByteArray).length), (5, .ls 9 0 [(ByteArray.mk #[97, 100, 100]), (ByteArray.mk #[115, 117, 98]), (ByteArray.mk #[109, 117, 108]), (ByteArray.mk #[100, 105, 118, 95, 115]), (ByteArray.mk #[100, 105, 118, 95, 117]), (ByteArray.mk #[114, 101, 109, 95, 115]), (ByteArray.mk #[114, 101, 109, 95, 117]), (ByteArray.mk #[97, 110, 100]), (ByteArray.mk #[111, 114]), (ByteArray.mk #[120, 111, 114]), (ByteArray.mk #[115, 104, 108]), (ByteArray.mk #[115, 104, 114, 95, 115]), (ByteArray.mk #[115, 104, 114, 95, 117]), (ByteArray.mk #[114, 111, 116, 108]), (ByteArray.mk #[114, 111, 116, 114])].length), (7, .d (.int .i64 (wI p0))), (49, .d (.bool ((decide ((wI p0) ≥ (106 : Int))) && (decide ((wI p0) ≤ (120 : Int))))))], [(8, .sl false 1 ([(ByteArray.mk #[99, 108, 122]), (ByteArray.mk #[99, 116, 122]), (ByteArray.mk #[112, 111, 112, 99, 110, 116])] : List ByteArray).length (fl eS ([(ByteArray.mk #[99, 108, 122]), (ByteArray.mk #[99, 116, 122]), (ByteArray.mk #[112, 111, 112, 99, 110, 116])] : List ByteArray))), (9, .sl false 1 [(ByteArray.mk #[97, 100, 100]), (ByteArray.mk #[115, 117, 98]), (ByteArray.mk #[109, 117, 108]), (ByteArray.mk #[100, 105, 118, 95, 115]), (ByteArray.mk #[100, 105, 118, 95, 117]), (ByteArray.mk #[114, 101, 109, 95, 115]), (ByteArray.mk #[114, 101, 109, 95, 117]), (ByteArray.mk #[97, 110, 100]), (ByteArray.mk #[111, 114]), (ByteArray.mk #[120, 111, 114]), (ByteArray.mk #[115, 104, 108]), (ByteArray.mk #[115, 104, 114, 95, 115]), (ByteArray.mk #[115, 104, 114, 95, 117]), (ByteArray.mk #[114, 111, 116, 108]), (ByteArray.mk #[114, 111, 116, 114])].length (fl eS [(ByteArray.mk #[97, 100, 100]), (ByteArray.mk #[115, 117, 98]), (ByteArray.mk #[109, 117, 108]), (ByteArray.mk #[100, 105, 118, 95, 115]), (ByteArray.mk #[100, 105, 118, 95, 117]), (ByteArray.mk #[114, 101, 109, 95, 115]), (ByteArray.mk #[114, 101, 109, 95, 117]), (ByteArray.mk #[97, 110, 100]), (ByteArray.mk #[111, 114]), (ByteArray.mk #[120, 111, 114]), (ByteArray.mk #[115, 104, 108]), (ByteArray.mk #[115, 104, 114, 95, 115]), (ByteArray.mk #[115, 104, 114, 95, 117]), (ByteArray.mk #[114, 111, 116, 108]), (ByteArray.mk #[114, 111, 116, 114])]))]⟩ ?qh9 ?h9)
        case h9 =>
          rcases bT (decide ((wI p0) ≥ (106 : Int))) with hc1 | hc1
          · exact YW.fin [(52, true)] [] [4, 5, 7, 49] [(49, .d (.bool ((decide ((wI p0) ≥ (106 : Int))) && (decide ((wI p0) ≤ (120 : Int))))))] [.k 8, .k 9] _ (And.intro (And.intro hc1 (And.intro hc1 (And.intro hc1 True.intro))) (And.intro (ovB (Eq.trans (andT (b := (decide ((wI p0) ≤ (120 : Int)))) hc1) (Eq.refl (decide ((wI p0) ≤ (120 : Int)))))) True.intro)) (by kernel_rfl) rfl
          · exact YW.fin [(52, false)] [] [4, 5, 7, 49] [(49, .d (.bool ((decide ((wI p0) ≥ (106 : Int))) && (decide ((wI p0) ≤ (120 : Int))))))] [.k 8, .k 9] _ (And.intro (And.intro hc1 (And.intro hc1 (And.intro hc1 True.intro))) (And.intro (ovB (andF (b := (decide ((wI p0) ≤ (120 : Int)))) hc1)) True.intro)) (by kernel_rfl) rfl
        refine AW2.cond (b := ((decide ((wI p0) ≥ (106 : Int))) && (decide ((wI p0) ≤ (120 : Int))))) rfl (fun hc => ?_) (fun hc => ?_)
        · replace H := ite_t H hc
          refine AW2.seq ?_
          obtain ⟨h4, H⟩ := gd_some H
          refine AW2.rg [] [2, 3] [] [] ⟨[(2, .d (.str ([(ByteArray.mk #[97, 100, 100]), (ByteArray.mk #[115, 117, 98]), (ByteArray.mk #[109, 117, 108]), (ByteArray.mk #[100, 105, 118, 95, 115]), (ByteArray.mk #[100, 105, 118, 95, 117]), (ByteArray.mk #[114, 101, 109, 95, 115]), (ByteArray.mk #[114, 101, 109, 95, 117]), (ByteArray.mk #[97, 110, 100]), (ByteArray.mk #[111, 114]), (ByteArray.mk #[120, 111, 114]), (ByteArray.mk #[115, 104, 108]), (ByteArray.mk #[115, 104, 114, 95, 115]), (ByteArray.mk #[115, 104, 114, 95, 117]), (ByteArray.mk #[114, 111, 116, 108]), (ByteArray.mk #[114, 111, 116, 114])].getD ((wI ((wI p0) - 106)).toNat) default))), (3, .d (.int .i64 32))], []⟩ (And.intro (And.intro h4 (And.intro (ixN h4) (And.intro (ixN h4) True.intro))) True.intro) (by kernel_rfl) ?_
          refine AW2.ret ?_
          have H := Option.some.inj H
          subst H
          exact retP_mk2 True.intro (by kernel_rfl)
        · replace H := ite_f H hc
          refine AW2.seq ?_
          refine AW2.reg [] rfl (YW.to ⟨[(4, .ls 8 0 ([(ByteArray.mk #[99, 108, 122]), (ByteArray.mk #[99, 116, 122]), (ByteArray.mk #[112, 111, 112, 99, 110, 116])] : List ByteArray).length), (5, .ls 9 0 [(ByteArray.mk #[97, 100, 100]), (ByteArray.mk #[115, 117, 98]), (ByteArray.mk #[109, 117, 108]), (ByteArray.mk #[100, 105, 118, 95, 115]), (ByteArray.mk #[100, 105, 118, 95, 117]), (ByteArray.mk #[114, 101, 109, 95, 115]), (ByteArray.mk #[114, 101, 109, 95, 117]), (ByteArray.mk #[97, 110, 100]), (ByteArray.mk #[111, 114]), (ByteArray.mk #[120, 111, 114]), (ByteArray.mk #[115, 104, 108]), (ByteArray.mk #[115, 104, 114, 95, 115]), (ByteArray.mk #[115, 104, 114, 95, 117]), (ByteArray.mk #[114, 111, 116, 108]), (ByteArray.mk #[114, 111, 116, 114])].length), (7, .d (.int .i64 (wI p0))), (61, .d (.bool ((decide ((wI p0) ≥ (121 : Int))) && (decide ((wI p0) ≤ (123 : Int))))))], [(8, .sl false 1 ([(ByteArray.mk #[99, 108, 122]), (ByteArray.mk #[99, 116, 122]), (ByteArray.mk #[112, 111, 112, 99, 110, 116])] : List ByteArray).length (fl eS ([(ByteArray.mk #[99, 108, 122]), (ByteArray.mk #[99, 116, 122]), (ByteArray.mk #[112, 111, 112, 99, 110, 116])] : List ByteArray))), (9, .sl false 1 [(ByteArray.mk #[97, 100, 100]), (ByteArray.mk #[115, 117, 98]), (ByteArray.mk #[109, 117, 108]), (ByteArray.mk #[100, 105, 118, 95, 115]), (ByteArray.mk #[100, 105, 118, 95, 117]), (ByteArray.mk #[114, 101, 109, 95, 115]), (ByteArray.mk #[114, 101, 109, 95, 117]), (ByteArray.mk #[97, 110, 100]), (ByteArray.mk #[111, 114]), (ByteArray.mk #[120, 111, 114]), (ByteArray.mk #[115, 104, 108]), (ByteArray.mk #[115, 104, 114, 95, 115]), (ByteArray.mk #[115, 104, 114, 95, 117]), (ByteArray.mk #[114, 111, 116, 108]), (ByteArray.mk #[114, 111, 116, 114])].length (fl eS [(ByteArray.mk #[97, 100, 100]), (ByteArray.mk #[115, 117, 98]), (ByteArray.mk #[109, 117, 108]), (ByteArray.mk #[100, 105, 118, 95, 115]), (ByteArray.mk #[100, 105, 118, 95, 117]), (ByteArray.mk #[114, 101, 109, 95, 115]), (ByteArray.mk #[114, 101, 109, 95, 117]), (ByteArray.mk #[97, 110, 100]), (ByteArray.mk #[111, 114]), (ByteArray.mk #[120, 111, 114]), (ByteArray.mk #[115, 104, 108]), (ByteArray.mk #[115, 104, 114, 95, 115]), (ByteArray.mk #[115, 104, 114, 95, 117]), (ByteArray.mk #[114, 111, 116, 108]), (ByteArray.mk #[114, 111, 116, 114])]))]⟩ ?qh8 ?h8)
          case h8 =>
            rcases bT (decide ((wI p0) ≥ (121 : Int))) with hc1 | hc1
            · exact YW.fin [(64, true)] [] [4, 5, 7, 61] [(61, .d (.bool ((decide ((wI p0) ≥ (121 : Int))) && (decide ((wI p0) ≤ (123 : Int))))))] [.k 8, .k 9] _ (And.intro (And.intro hc1 (And.intro hc1 (And.intro hc1 True.intro))) (And.intro (ovB (Eq.trans (andT (b := (decide ((wI p0) ≤ (123 : Int)))) hc1) (Eq.refl (decide ((wI p0) ≤ (123 : Int)))))) True.intro)) (by kernel_rfl) rfl
            · exact YW.fin [(64, false)] [] [4, 5, 7, 61] [(61, .d (.bool ((decide ((wI p0) ≥ (121 : Int))) && (decide ((wI p0) ≤ (123 : Int))))))] [.k 8, .k 9] _ (And.intro (And.intro hc1 (And.intro hc1 (And.intro hc1 True.intro))) (And.intro (ovB (andF (b := (decide ((wI p0) ≤ (123 : Int)))) hc1)) True.intro)) (by kernel_rfl) rfl
          refine AW2.cond (b := ((decide ((wI p0) ≥ (121 : Int))) && (decide ((wI p0) ≤ (123 : Int))))) rfl (fun hc => ?_) (fun hc => ?_)
          · replace H := ite_t H hc
            refine AW2.seq ?_
            obtain ⟨h5, H⟩ := gd_some H
            refine AW2.rg [] [2, 3] [] [] ⟨[(2, .d (.str (([(ByteArray.mk #[99, 108, 122]), (ByteArray.mk #[99, 116, 122]), (ByteArray.mk #[112, 111, 112, 99, 110, 116])] : List ByteArray).getD ((wI ((wI p0) - 121)).toNat) default))), (3, .d (.int .i64 64))], []⟩ (And.intro (And.intro h5 (And.intro (ixN h5) (And.intro (ixN h5) True.intro))) True.intro) (by kernel_rfl) ?_
            refine AW2.ret ?_
            have H := Option.some.inj H
            subst H
            exact retP_mk2 True.intro (by kernel_rfl)
          · replace H := ite_f H hc
            refine AW2.seq ?_
            refine AW2.reg [] rfl (YW.to ⟨[(5, .ls 9 0 [(ByteArray.mk #[97, 100, 100]), (ByteArray.mk #[115, 117, 98]), (ByteArray.mk #[109, 117, 108]), (ByteArray.mk #[100, 105, 118, 95, 115]), (ByteArray.mk #[100, 105, 118, 95, 117]), (ByteArray.mk #[114, 101, 109, 95, 115]), (ByteArray.mk #[114, 101, 109, 95, 117]), (ByteArray.mk #[97, 110, 100]), (ByteArray.mk #[111, 114]), (ByteArray.mk #[120, 111, 114]), (ByteArray.mk #[115, 104, 108]), (ByteArray.mk #[115, 104, 114, 95, 115]), (ByteArray.mk #[115, 104, 114, 95, 117]), (ByteArray.mk #[114, 111, 116, 108]), (ByteArray.mk #[114, 111, 116, 114])].length), (7, .d (.int .i64 (wI p0))), (73, .d (.bool ((decide ((wI p0) ≥ (124 : Int))) && (decide ((wI p0) ≤ (138 : Int))))))], [(9, .sl false 1 [(ByteArray.mk #[97, 100, 100]), (ByteArray.mk #[115, 117, 98]), (ByteArray.mk #[109, 117, 108]), (ByteArray.mk #[100, 105, 118, 95, 115]), (ByteArray.mk #[100, 105, 118, 95, 117]), (ByteArray.mk #[114, 101, 109, 95, 115]), (ByteArray.mk #[114, 101, 109, 95, 117]), (ByteArray.mk #[97, 110, 100]), (ByteArray.mk #[111, 114]), (ByteArray.mk #[120, 111, 114]), (ByteArray.mk #[115, 104, 108]), (ByteArray.mk #[115, 104, 114, 95, 115]), (ByteArray.mk #[115, 104, 114, 95, 117]), (ByteArray.mk #[114, 111, 116, 108]), (ByteArray.mk #[114, 111, 116, 114])].length (fl eS [(ByteArray.mk #[97, 100, 100]), (ByteArray.mk #[115, 117, 98]), (ByteArray.mk #[109, 117, 108]), (ByteArray.mk #[100, 105, 118, 95, 115]), (ByteArray.mk #[100, 105, 118, 95, 117]), (ByteArray.mk #[114, 101, 109, 95, 115]), (ByteArray.mk #[114, 101, 109, 95, 117]), (ByteArray.mk #[97, 110, 100]), (ByteArray.mk #[111, 114]), (ByteArray.mk #[120, 111, 114]), (ByteArray.mk #[115, 104, 108]), (ByteArray.mk #[115, 104, 114, 95, 115]), (ByteArray.mk #[115, 104, 114, 95, 117]), (ByteArray.mk #[114, 111, 116, 108]), (ByteArray.mk #[114, 111, 116, 114])]))]⟩ ?qh7 ?h7)
            case h7 =>
              rcases bT (decide ((wI p0) ≥ (124 : Int))) with hc1 | hc1
              · exact YW.fin [(76, true)] [] [5, 7, 73] [(73, .d (.bool ((decide ((wI p0) ≥ (124 : Int))) && (decide ((wI p0) ≤ (138 : Int))))))] [.k 9] _ (And.intro (And.intro hc1 (And.intro hc1 (And.intro hc1 True.intro))) (And.intro (ovB (Eq.trans (andT (b := (decide ((wI p0) ≤ (138 : Int)))) hc1) (Eq.refl (decide ((wI p0) ≤ (138 : Int)))))) True.intro)) (by kernel_rfl) rfl
              · exact YW.fin [(76, false)] [] [5, 7, 73] [(73, .d (.bool ((decide ((wI p0) ≥ (124 : Int))) && (decide ((wI p0) ≤ (138 : Int))))))] [.k 9] _ (And.intro (And.intro hc1 (And.intro hc1 (And.intro hc1 True.intro))) (And.intro (ovB (andF (b := (decide ((wI p0) ≤ (138 : Int)))) hc1)) True.intro)) (by kernel_rfl) rfl
            refine AW2.cond (b := ((decide ((wI p0) ≥ (124 : Int))) && (decide ((wI p0) ≤ (138 : Int))))) rfl (fun hc => ?_) (fun hc => ?_)
            · replace H := ite_t H hc
              refine AW2.seq ?_
              obtain ⟨h6, H⟩ := gd_some H
              refine AW2.rg [] [2, 3] [] [] ⟨[(2, .d (.str ([(ByteArray.mk #[97, 100, 100]), (ByteArray.mk #[115, 117, 98]), (ByteArray.mk #[109, 117, 108]), (ByteArray.mk #[100, 105, 118, 95, 115]), (ByteArray.mk #[100, 105, 118, 95, 117]), (ByteArray.mk #[114, 101, 109, 95, 115]), (ByteArray.mk #[114, 101, 109, 95, 117]), (ByteArray.mk #[97, 110, 100]), (ByteArray.mk #[111, 114]), (ByteArray.mk #[120, 111, 114]), (ByteArray.mk #[115, 104, 108]), (ByteArray.mk #[115, 104, 114, 95, 115]), (ByteArray.mk #[115, 104, 114, 95, 117]), (ByteArray.mk #[114, 111, 116, 108]), (ByteArray.mk #[114, 111, 116, 114])].getD ((wI ((wI p0) - 124)).toNat) default))), (3, .d (.int .i64 64))], []⟩ (And.intro (And.intro h6 (And.intro (ixN h6) (And.intro (ixN h6) True.intro))) True.intro) (by kernel_rfl) ?_
              refine AW2.ret ?_
              have H := Option.some.inj H
              subst H
              exact retP_mk2 True.intro (by kernel_rfl)
            · replace H := ite_f H hc
              refine AW2.seq ?_
              refine AW2.rg [] [7, 85] [] [] ⟨[(7, .d (.int .i64 (wI p0))), (85, .d (.bool ((wI p0) == (167 : Int))))], []⟩ (And.intro True.intro True.intro) (by kernel_rfl) ?_
              refine AW2.cond (b := ((wI p0) == (167 : Int))) rfl (fun hc => ?_) (fun hc => ?_)
              · replace H := ite_t H hc
                refine AW2.seq ?_
                refine AW2.rg [] [2, 3] [] [] ⟨[(2, .d (.str (ByteArray.mk #[119, 114, 97, 112]))), (3, .d (.int .i64 64))], []⟩ (And.intro True.intro True.intro) (by kernel_rfl) ?_
                refine AW2.ret ?_
                have H := Option.some.inj H
                subst H
                exact retP_mk2 True.intro (by kernel_rfl)
              · replace H := ite_f H hc
                refine AW2.seq ?_
                refine AW2.rg [] [7, 88] [] [] ⟨[(7, .d (.int .i64 (wI p0))), (88, .d (.bool ((wI p0) == (172 : Int))))], []⟩ (And.intro True.intro True.intro) (by kernel_rfl) ?_
                refine AW2.cond (b := ((wI p0) == (172 : Int))) rfl (fun hc => ?_) (fun hc => ?_)
                · replace H := ite_t H hc
                  refine AW2.seq ?_
                  refine AW2.rg [] [2, 3] [] [] ⟨[(2, .d (.str (ByteArray.mk #[101, 120, 116, 101, 110, 100, 95, 115]))), (3, .d (.int .i64 32))], []⟩ (And.intro True.intro True.intro) (by kernel_rfl) ?_
                  refine AW2.ret ?_
                  have H := Option.some.inj H
                  subst H
                  exact retP_mk2 True.intro (by kernel_rfl)
                · replace H := ite_f H hc
                  refine AW2.seq ?_
                  refine AW2.rg [] [91] [] [] ⟨[(91, .d (.bool ((wI p0) == (173 : Int))))], []⟩ (And.intro True.intro True.intro) (by kernel_rfl) ?_
                  refine AW2.cond (b := ((wI p0) == (173 : Int))) rfl (fun hc => ?_) (fun hc => ?_)
                  · replace H := ite_t H hc
                    refine AW2.seq ?_
                    refine AW2.rg [] [2, 3] [] [] ⟨[(2, .d (.str (ByteArray.mk #[101, 120, 116, 101, 110, 100, 95, 117]))), (3, .d (.int .i64 32))], []⟩ (And.intro True.intro True.intro) (by kernel_rfl) ?_
                    refine AW2.ret ?_
                    have H := Option.some.inj H
                    subst H
                    exact retP_mk2 True.intro (by kernel_rfl)
                  · replace H := ite_f H hc
                    refine AW2.skip ?_
                    refine AW2.seq ?_
                    refine AW2.rg [] [2, 3] [] [] ⟨[(2, .d (.str (ByteArray.mk #[]))), (3, .d (.int .i64 0))], []⟩ (And.intro True.intro True.intro) (by kernel_rfl) ?_
                    refine AW2.ret ?_
                    have H := Option.some.inj H
                    subst H
                    exact retP_mk2 True.intro (by kernel_rfl)

end Go.Proofs.YtablleokoifolaaGreatDoor

