/- Part 6 of the proof that ValidBodiesUptoCardSaid: for every input that fits the row the law answers true and its arguments read as before, over the world as the row lays it. -/
import Derived.Test.YtablleokoifolaaGreatDoorZ5
import Derived.RangeFuncKeeps
import Derived.RangeFuncLeaves
import Derived.WalkKit
import Derived.OwnWalkIn
import Derived.TacticsInMore
import Derived.RegionIn
import Derived.LoopNIn
import Derived.LoopIn
import Derived.Maps.RangeWalk
import Derived.RangeFuncIn
import Derived.RangeFuncFrom
import Derived.Shelf.Abstract
import Derived.RangeFuncCalls
/- Plain functions and their contracts. Written by a program of this claim set (g2.py). -/
set_option linter.unusedVariables false
set_option maxRecDepth 100000
set_option maxHeartbeats 4000000
namespace Go.Proofs.YtablleokoifolaaGreatDoor
open Go

/- mandrel/valid.result -/
def g_valid_result (p0 : Int) : Option (Bool) := some ((p0 == (0 : Int)) || ((p0 == (127 : Int)) || (p0 == (126 : Int))))

theorem c_valid_result (p0 : Int) (r : Bool) (H : g_valid_result p0 = some r) : CF E 50 [.int .u8 p0] (.bool r) := by
  refine cf_of (A := F_valid_result) fn_valid_result rfl fun fr => ?_
  unfold g_valid_result at H
  refine AW2.seq ?_
  refine AW2.rg [] [0] [] [] ⟨[(0, .d (.int .u8 p0))], []⟩ (And.intro True.intro True.intro) (by kernel_rfl) ?_
  refine AW2.seq ?_
  refine AW2.reg [] rfl (YW.to ⟨[(2, .d (.bool ((p0 == (0 : Int)) || ((p0 == (127 : Int)) || (p0 == (126 : Int))))))], []⟩ ?qh1 ?h1)
  case h1 =>
    rcases bT (p0 == (0 : Int)) with hc1 | hc1
    · exact YW.fin [(5, true), (9, true)] [] [2] [(2, .d (.bool ((p0 == (0 : Int)) || ((p0 == (127 : Int)) || (p0 == (126 : Int))))))] [] _ (And.intro (And.intro hc1 (And.intro hc1 (And.intro hc1 (And.intro (Eq.refl true) (And.intro (Eq.refl true) (And.intro (Eq.refl true) True.intro)))))) (And.intro (ovB (orT (b := ((p0 == (127 : Int)) || (p0 == (126 : Int)))) hc1)) True.intro)) (by kernel_rfl) rfl
    · rcases bT (p0 == (127 : Int)) with hc2 | hc2
      · exact YW.fin [(5, false), (9, true)] [] [2] [(2, .d (.bool ((p0 == (0 : Int)) || ((p0 == (127 : Int)) || (p0 == (126 : Int))))))] [] _ (And.intro (And.intro hc1 (And.intro hc1 (And.intro hc1 (And.intro hc2 (And.intro hc2 (And.intro hc2 True.intro)))))) (And.intro (ovB (Eq.trans (orF (b := ((p0 == (127 : Int)) || (p0 == (126 : Int)))) hc1) (orT (b := (p0 == (126 : Int))) hc2))) True.intro)) (by kernel_rfl) rfl
      · exact YW.fin [(5, false), (9, false)] [] [2] [(2, .d (.bool ((p0 == (0 : Int)) || ((p0 == (127 : Int)) || (p0 == (126 : Int))))))] [] _ (And.intro (And.intro hc1 (And.intro hc1 (And.intro hc1 (And.intro hc2 (And.intro hc2 (And.intro hc2 True.intro)))))) (And.intro (ovB (Eq.trans (orF (b := ((p0 == (127 : Int)) || (p0 == (126 : Int)))) hc1) (Eq.trans (orF (b := (p0 == (126 : Int))) hc2) (Eq.refl (p0 == (126 : Int)))))) True.intro)) (by kernel_rfl) rfl
  refine AW2.ret ?_
  have H := Option.some.inj H
  subst H
  exact retP_mk2 True.intro (by kernel_rfl)

/- mandrel/valid.kinds$1 -/
def g_valid_kinds_1 (p0 : Int) : Option (Bool) := ((if (p0 == (0 : Int)) = true then some true else ((g_valid_result p0).bind fun x1 => some (!x1)))).bind (fun j3 => some j3)

theorem c_valid_kinds_1 (p0 : Int) (r : Bool) (H : g_valid_kinds_1 p0 = some r) : CF E 49 [.int .u8 p0] (.bool r) := by
  refine cf_of (A := F_valid_kinds_1) fn_valid_kinds_1 rfl fun fr => ?_
  unfold g_valid_kinds_1 at H
  refine AW2.seq ?_
  refine AW2.rg [] [0] [] [] ⟨[(0, .d (.int .u8 p0))], []⟩ (And.intro True.intro True.intro) (by kernel_rfl) ?_
  refine AW2.seq ?_
  obtain ⟨j3, H5, H⟩ := bind_some H
  refine AW2.reg [] rfl (YW.to ⟨[(2, .d (.bool j3))], []⟩ ?qh6 ?h6)
  case h6 =>
    have H := H5
    rcases bT (p0 == (0 : Int)) with hc1 | hc1
    · replace H := ite_t H hc1
      have H := Option.some.inj H
      subst H
      exact YW.fin [(5, true)] [] [2] [] [] _ (And.intro (And.intro hc1 (And.intro hc1 (And.intro hc1 (And.intro hc1 True.intro)))) True.intro) (by kernel_rfl) rfl
    · replace H := ite_f H hc1
      obtain ⟨x1, hx2, H⟩ := bind_some H
      have H := Option.some.inj H
      subst H
      exact YW.fin [(5, false)] [.r (.bool x1)] [2] [] [] _ (And.intro (And.intro hc1 (And.intro hc1 (And.intro (c_valid_result p0 x1 hx2) (And.intro hc1 (And.intro hc1 True.intro))))) True.intro) (by kernel_rfl) rfl
  refine AW2.ret ?_
  have H := Option.some.inj H
  subst H
  exact retP_mk2 True.intro (by kernel_rfl)

/- slices.IndexFunc[[]mandrel/api.Kind,mandrel/api.Kind] -/
def g_slices_IndexFunc_api_Kind_api_Kind_l0 : Nat → (List Int) → (Int → Option Bool) → Int → Option (Int)
  | 0, _, _, _ => none
  | k+1, p0, pp1, a2 => (if (decide (a2 < (p0.length : Int))) = true then gd (0 ≤ a2 ∧ a2 < (p0.length : Int)) (((pp1 (p0.getD a2.toNat default)).bind fun x4 => (if x4 = true then some a2 else g_slices_IndexFunc_api_Kind_api_Kind_l0 k p0 pp1 (wI (a2 + 1))))) else some (-1))

def g_slices_IndexFunc_api_Kind_api_Kind (K : Nat) (p0 : List Int) (pp1 : Int → Option Bool) : Option (Int) := g_slices_IndexFunc_api_Kind_api_Kind_l0 K p0 pp1 0

theorem c_slices_IndexFunc_api_Kind_api_Kind_n0 (K : Nat) (p0 : List Int) (pf1 : Nat) (pp1 : Int → Option Bool) (hp1 : ∀ x0 b, pp1 x0 = some b → CF E pf1 [.int .u8 x0] (.bool b)) (r : Int) (H : g_slices_IndexFunc_api_Kind_api_Kind K p0 pp1 = some r) : CF E 66 [sV (eI .u8) p0, .func pf1 []] (.int .i64 r) := by
  refine cf_of (A := F_slices_IndexFunc_api_Kind_api_Kind) fn_slices_IndexFunc_api_Kind_api_Kind rfl fun fr => ?_
  unfold g_slices_IndexFunc_api_Kind_api_Kind at H
  refine AW2.seq ?_
  refine AW2.rg [] [0, 1] [] [] ⟨[(0, .d (sV (eI .u8) p0)), (1, .d (.func pf1 []))], []⟩ (And.intro True.intro True.intro) (by kernel_rfl) ?_
  refine AW2.seq ?_
  refine AW2.seq ?_
  refine AW2.rg [] [0, 1, 7, 8] [] [] ⟨[(0, .d (sV (eI .u8) p0)), (1, .d (.func pf1 [])), (7, .d (.int .i64 (p0.length : Int))), (8, .d (.int .i64 0))], []⟩ (And.intro True.intro True.intro) (by kernel_rfl) ?_
  refine AW2.block ?_
  refine AW2.lp (σ := Int) (fun v => ⟨[(0, .d (sV (eI .u8) p0)), (1, .d (.func pf1 [])), (7, .d (.int .i64 (p0.length : Int))), (8, .d (.int .i64 v))], []⟩) (fun k v => g_slices_IndexFunc_api_Kind_api_Kind_l0 k p0 pp1 v = some r) ?_ K 0 H
  rintro k a2 H
  cases k with
  | zero => cases H
  | succ k =>
  unfold g_slices_IndexFunc_api_Kind_api_Kind_l0 at H
  refine AW2.seq ?_
  refine AW2.rg [] [0, 1, 7, 8, 9] [] [] ⟨[(0, .d (sV (eI .u8) p0)), (1, .d (.func pf1 [])), (7, .d (.int .i64 (p0.length : Int))), (8, .d (.int .i64 a2)), (9, .d (.bool (decide (a2 < (p0.length : Int)))))], []⟩ (And.intro True.intro True.intro) (by kernel_rfl) ?_
  refine AW2.seq ?_
  refine AW2.cond (b := (decide (a2 < (p0.length : Int)))) rfl (fun hc => ?_) (fun hc => ?_)
  · replace H := ite_t H hc
    refine AW2.skip ?_
    refine AW2.seq ?_
    refine AW2.block ?_
    refine AW2.seq ?_
    refine AW2.rg [] [0, 1, 5, 7, 8] [] [] ⟨[(0, .d (sV (eI .u8) p0)), (1, .d (.func pf1 [])), (5, .d (.int .i64 a2)), (7, .d (.int .i64 (p0.length : Int))), (8, .d (.int .i64 a2))], []⟩ (And.intro True.intro True.intro) (by kernel_rfl) ?_
    refine AW2.seq ?_
    obtain ⟨h3, H⟩ := gd_some H
    obtain ⟨x4, hx5, H⟩ := bind_some H
    refine AW2.rg [.r (.bool x4)] [0, 1, 5, 7, 8, 16] [] [] ⟨[(0, .d (sV (eI .u8) p0)), (1, .d (.func pf1 [])), (5, .d (.int .i64 a2)), (7, .d (.int .i64 (p0.length : Int))), (8, .d (.int .i64 a2)), (16, .d (.bool x4))], []⟩ (And.intro (And.intro h3 (And.intro (hp1 (p0.getD a2.toNat default) x4 hx5) True.intro)) True.intro) (by kernel_rfl) ?_
    refine AW2.cond (b := x4) rfl (fun hc => ?_) (fun hc => ?_)
    · replace H := ite_t H hc
      refine AW2.seq ?_
      refine AW2.rg [] [4] [] [] ⟨[(4, .d (.int .i64 a2))], []⟩ (And.intro True.intro True.intro) (by kernel_rfl) ?_
      refine AW2.ret ?_
      have H := Option.some.inj H
      subst H
      exact retP_mk2 True.intro (by kernel_rfl)
    · replace H := ite_f H hc
      refine AW2.skip ?_
      refine AW2.rg [] [0, 1, 7, 8] [] [] ⟨[(0, .d (sV (eI .u8) p0)), (1, .d (.func pf1 [])), (7, .d (.int .i64 (p0.length : Int))), (8, .d (.int .i64 (wI (a2 + 1))))], []⟩ (And.intro True.intro True.intro) (by kernel_rfl) ?_
      exact ⟨k, (wI (a2 + 1)), Nat.lt_succ_self k, H, wk_mk [0, 1, 7, 8] [] [] True.intro (by kernel_rfl)⟩
  · replace H := ite_f H hc
    refine AW2.exit ?_
    refine AW2.seq ?_
    refine AW2.rg [] [4] [] [] ⟨[(4, .d (.int .i64 (-1)))], []⟩ (And.intro True.intro True.intro) (by kernel_rfl) ?_
    refine AW2.ret ?_
    have H := Option.some.inj H
    subst H
    exact retP_mk2 True.intro (by kernel_rfl)

/- slices.ContainsFunc[[]mandrel/api.Kind,mandrel/api.Kind] -/
def g_slices_ContainsFunc_api_Kind_api_Kind (K : Nat) (p0 : List Int) (pp1 : Int → Option Bool) : Option (Bool) := ((g_slices_IndexFunc_api_Kind_api_Kind K p0 pp1).bind fun x1 => some (decide (x1 ≥ (0 : Int))))

theorem c_slices_ContainsFunc_api_Kind_api_Kind_n0 (K : Nat) (p0 : List Int) (pf1 : Nat) (pp1 : Int → Option Bool) (hp1 : ∀ x0 b, pp1 x0 = some b → CF E pf1 [.int .u8 x0] (.bool b)) (r : Bool) (H : g_slices_ContainsFunc_api_Kind_api_Kind K p0 pp1 = some r) : CF E 51 [sV (eI .u8) p0, .func pf1 []] (.bool r) := by
  refine cf_of (A := F_slices_ContainsFunc_api_Kind_api_Kind) fn_slices_ContainsFunc_api_Kind_api_Kind rfl fun fr => ?_
  unfold g_slices_ContainsFunc_api_Kind_api_Kind at H
  refine AW2.seq ?_
  refine AW2.rg [] [0, 1] [] [] ⟨[(0, .d (sV (eI .u8) p0)), (1, .d (.func pf1 []))], []⟩ (And.intro True.intro True.intro) (by kernel_rfl) ?_
  refine AW2.seq ?_
  obtain ⟨x1, hx2, H⟩ := bind_some H
  refine AW2.rg [.r (.int .i64 x1)] [4] [] [] ⟨[(4, .d (.bool (decide (x1 ≥ (0 : Int)))))], []⟩ (And.intro (And.intro (c_slices_IndexFunc_api_Kind_api_Kind_n0 K p0 pf1 pp1 hp1 x1 hx2) True.intro) True.intro) (by kernel_rfl) ?_
  refine AW2.ret ?_
  have H := Option.some.inj H
  subst H
  exact retP_mk2 True.intro (by kernel_rfl)

/- slices.IndexFunc[[]mandrel/api.Global,mandrel/api.Global] -/
def g_slices_IndexFunc_api_Global_api_Global_l0 : Nat → (List Glo) → (Glo → Option Bool) → Int → Option (Int)
  | 0, _, _, _ => none
  | k+1, p0, pp1, a2 => (if (decide (a2 < (p0.length : Int))) = true then gd (0 ≤ a2 ∧ a2 < (p0.length : Int)) (((pp1 (p0.getD a2.toNat default)).bind fun x4 => (if x4 = true then some a2 else g_slices_IndexFunc_api_Global_api_Global_l0 k p0 pp1 (wI (a2 + 1))))) else some (-1))

def g_slices_IndexFunc_api_Global_api_Global (K : Nat) (p0 : List Glo) (pp1 : Glo → Option Bool) : Option (Int) := g_slices_IndexFunc_api_Global_api_Global_l0 K p0 pp1 0

theorem c_slices_IndexFunc_api_Global_api_Global_n1 (K : Nat) (p0 : List Glo) (pf1 : Nat) (pc1_0 : List FV) (pp1 : Glo → Option Bool) (hp1 : ∀ x0 b, pp1 x0 = some b → CF E pf1 [.agg (eGlo x0), .fp pc1_0] (.bool b)) (r : Int) (H : g_slices_IndexFunc_api_Global_api_Global K p0 pp1 = some r) : CF E 67 [sV eGlo p0, .func pf1 [.fp pc1_0]] (.int .i64 r) := by
  refine cf_of (A := F_slices_IndexFunc_api_Global_api_Global) fn_slices_IndexFunc_api_Global_api_Global rfl fun fr => ?_
  unfold g_slices_IndexFunc_api_Global_api_Global at H
  refine AW2.seq ?_
  refine AW2.rg [] [0, 1] [] [] ⟨[(0, .d (sV eGlo p0)), (1, .d (.func pf1 [.fp pc1_0]))], []⟩ (And.intro True.intro True.intro) (by kernel_rfl) ?_
  refine AW2.seq ?_
  refine AW2.seq ?_
  refine AW2.rg [] [0, 1, 7, 8] [] [] ⟨[(0, .d (sV eGlo p0)), (1, .d (.func pf1 [.fp pc1_0])), (7, .d (.int .i64 (p0.length : Int))), (8, .d (.int .i64 0))], []⟩ (And.intro True.intro True.intro) (by kernel_rfl) ?_
  refine AW2.block ?_
  refine AW2.lp (σ := Int) (fun v => ⟨[(0, .d (sV eGlo p0)), (1, .d (.func pf1 [.fp pc1_0])), (7, .d (.int .i64 (p0.length : Int))), (8, .d (.int .i64 v))], []⟩) (fun k v => g_slices_IndexFunc_api_Global_api_Global_l0 k p0 pp1 v = some r) ?_ K 0 H
  rintro k a2 H
  cases k with
  | zero => cases H
  | succ k =>
  unfold g_slices_IndexFunc_api_Global_api_Global_l0 at H
  refine AW2.seq ?_
  refine AW2.rg [] [0, 1, 7, 8, 9] [] [] ⟨[(0, .d (sV eGlo p0)), (1, .d (.func pf1 [.fp pc1_0])), (7, .d (.int .i64 (p0.length : Int))), (8, .d (.int .i64 a2)), (9, .d (.bool (decide (a2 < (p0.length : Int)))))], []⟩ (And.intro True.intro True.intro) (by kernel_rfl) ?_
  refine AW2.seq ?_
  refine AW2.cond (b := (decide (a2 < (p0.length : Int)))) rfl (fun hc => ?_) (fun hc => ?_)
  · replace H := ite_t H hc
    refine AW2.skip ?_
    refine AW2.seq ?_
    refine AW2.block ?_
    refine AW2.seq ?_
    refine AW2.rg [] [0, 1, 5, 7, 8] [] [] ⟨[(0, .d (sV eGlo p0)), (1, .d (.func pf1 [.fp pc1_0])), (5, .d (.int .i64 a2)), (7, .d (.int .i64 (p0.length : Int))), (8, .d (.int .i64 a2))], []⟩ (And.intro True.intro True.intro) (by kernel_rfl) ?_
    refine AW2.seq ?_
    obtain ⟨h3, H⟩ := gd_some H
    obtain ⟨x4, hx5, H⟩ := bind_some H
    refine AW2.rg [.r (.bool x4)] [0, 1, 5, 7, 8, 16] [] [] ⟨[(0, .d (sV eGlo p0)), (1, .d (.func pf1 [.fp pc1_0])), (5, .d (.int .i64 a2)), (7, .d (.int .i64 (p0.length : Int))), (8, .d (.int .i64 a2)), (16, .d (.bool x4))], []⟩ (And.intro (And.intro h3 (And.intro (hp1 (p0.getD a2.toNat default) x4 hx5) True.intro)) True.intro) (by kernel_rfl) ?_
    refine AW2.cond (b := x4) rfl (fun hc => ?_) (fun hc => ?_)
    · replace H := ite_t H hc
      refine AW2.seq ?_
      refine AW2.rg [] [4] [] [] ⟨[(4, .d (.int .i64 a2))], []⟩ (And.intro True.intro True.intro) (by kernel_rfl) ?_
      refine AW2.ret ?_
      have H := Option.some.inj H
      subst H
      exact retP_mk2 True.intro (by kernel_rfl)
    · replace H := ite_f H hc
      refine AW2.skip ?_
      refine AW2.rg [] [0, 1, 7, 8] [] [] ⟨[(0, .d (sV eGlo p0)), (1, .d (.func pf1 [.fp pc1_0])), (7, .d (.int .i64 (p0.length : Int))), (8, .d (.int .i64 (wI (a2 + 1))))], []⟩ (And.intro True.intro True.intro) (by kernel_rfl) ?_
      exact ⟨k, (wI (a2 + 1)), Nat.lt_succ_self k, H, wk_mk [0, 1, 7, 8] [] [] True.intro (by kernel_rfl)⟩
  · replace H := ite_f H hc
    refine AW2.exit ?_
    refine AW2.seq ?_
    refine AW2.rg [] [4] [] [] ⟨[(4, .d (.int .i64 (-1)))], []⟩ (And.intro True.intro True.intro) (by kernel_rfl) ?_
    refine AW2.ret ?_
    have H := Option.some.inj H
    subst H
    exact retP_mk2 True.intro (by kernel_rfl)

/- slices.ContainsFunc[[]mandrel/api.Global,mandrel/api.Global] -/
def g_slices_ContainsFunc_api_Global_api_Global (K : Nat) (p0 : List Glo) (pp1 : Glo → Option Bool) : Option (Bool) := ((g_slices_IndexFunc_api_Global_api_Global K p0 pp1).bind fun x1 => some (decide (x1 ≥ (0 : Int))))

theorem c_slices_ContainsFunc_api_Global_api_Global_n1 (K : Nat) (p0 : List Glo) (pf1 : Nat) (pc1_0 : List FV) (pp1 : Glo → Option Bool) (hp1 : ∀ x0 b, pp1 x0 = some b → CF E pf1 [.agg (eGlo x0), .fp pc1_0] (.bool b)) (r : Bool) (H : g_slices_ContainsFunc_api_Global_api_Global K p0 pp1 = some r) : CF E 53 [sV eGlo p0, .func pf1 [.fp pc1_0]] (.bool r) := by
  refine cf_of (A := F_slices_ContainsFunc_api_Global_api_Global) fn_slices_ContainsFunc_api_Global_api_Global rfl fun fr => ?_
  unfold g_slices_ContainsFunc_api_Global_api_Global at H
  refine AW2.seq ?_
  refine AW2.rg [] [0, 1] [] [] ⟨[(0, .d (sV eGlo p0)), (1, .d (.func pf1 [.fp pc1_0]))], []⟩ (And.intro True.intro True.intro) (by kernel_rfl) ?_
  refine AW2.seq ?_
  obtain ⟨x1, hx2, H⟩ := bind_some H
  refine AW2.rg [.r (.int .i64 x1)] [4] [] [] ⟨[(4, .d (.bool (decide (x1 ≥ (0 : Int)))))], []⟩ (And.intro (And.intro (c_slices_IndexFunc_api_Global_api_Global_n1 K p0 pf1 pc1_0 pp1 hp1 x1 hx2) True.intro) True.intro) (by kernel_rfl) ?_
  refine AW2.ret ?_
  have H := Option.some.inj H
  subst H
  exact retP_mk2 True.intro (by kernel_rfl)

/- mandrel/valid.kinds$2 -/
def g_valid_kinds_2 (p0 : Glo) : Option (Bool) := ((g_valid_kinds_1 p0.kind).bind fun x1 => some x1)

theorem c_valid_kinds_2 (p0 : Glo) (r : Bool) (H : g_valid_kinds_2 p0 = some r) : CF E 52 [.agg (eGlo p0), .fp [.func 49 []]] (.bool r) := by
  refine cf_of (A := F_valid_kinds_2) fn_valid_kinds_2 rfl fun fr => ?_
  unfold g_valid_kinds_2 at H
  refine AW2.seq ?_
  refine AW2.rg [.k 2] [1, 2] [] [.k 2] ⟨[(1, .d (.fp ([.func 49 []]))), (2, .p 2 0)], [(2, .st false (eD (eGlo p0)))]⟩ (And.intro True.intro True.intro) (by kernel_rfl) ?_
  refine AW2.seq ?_
  obtain ⟨x1, hx2, H⟩ := bind_some H
  refine AW2.rg [.r (.bool x1)] [3] [] [] ⟨[(3, .d (.bool x1))], []⟩ (And.intro (And.intro (c_valid_kinds_1 p0.kind x1 hx2) True.intro) True.intro) (by kernel_rfl) ?_
  refine AW2.ret ?_
  have H := Option.some.inj H
  subst H
  exact retP_mk2 True.intro (by kernel_rfl)

/- mandrel/valid.kinds -/
def g_valid_kinds_l1 : Nat → Nat → Mdl → Int → Option (Bool)
  | 0, _, _, _ => none
  | k+1, K, p0, a13 => (if (decide (a13 < (p0.funcs.length : Int))) = true then gd (0 ≤ a13 ∧ a13 < (p0.funcs.length : Int)) (((g_slices_ContainsFunc_api_Kind_api_Kind K (((p0.funcs.getD a13.toNat default)).locals) (fun x => g_valid_kinds_1 x)).bind fun x15 => (if x15 = true then some false else g_valid_kinds_l1 k K p0 (wI (a13 + 1))))) else ((g_slices_ContainsFunc_api_Global_api_Global K p0.globals (fun x => g_valid_kinds_2 x)).bind fun x17 => some (!x17)))

def g_valid_kinds_l0 : Nat → Nat → Mdl → Int → Option (Bool)
  | 0, _, _, _ => none
  | k+1, K, p0, a2 => (if (decide (a2 < (p0.types.length : Int))) = true then gd (0 ≤ a2 ∧ a2 < (p0.types.length : Int)) (((g_valid_result (((p0.types.getD a2.toNat default)).result)).bind fun x4 => ((if (!x4) = true then some true else ((g_slices_ContainsFunc_api_Kind_api_Kind K (((p0.types.getD a2.toNat default)).params) (fun x => g_valid_kinds_1 x)).bind fun x6 => some x6))).bind (fun j8 => (if j8 = true then some false else g_valid_kinds_l0 k K p0 (wI (a2 + 1)))))) else g_valid_kinds_l1 K K p0 0)

def g_valid_kinds (K : Nat) (p0 : Mdl) : Option (Bool) := g_valid_kinds_l0 K K p0 0

theorem c_valid_kinds (K : Nat) (p0 : Mdl) (r : Bool) (H : g_valid_kinds K p0 = some r) : CF E 31 [.agg (eMdl p0)] (.bool r) := by
  refine cf_of (A := F_valid_kinds) fn_valid_kinds rfl fun fr => ?_
  unfold g_valid_kinds at H
  refine AW2.seq ?_
  refine AW2.rg [.k 1] [1] [] [.k 1] ⟨[(1, .p 1 0)], [(1, .st false (eD (eMdl p0)))]⟩ (And.intro True.intro True.intro) (by kernel_rfl) ?_
  refine AW2.seq ?_
  refine AW2.rg [.k 3] [1, 3] [] [.k 1, .k 3] ⟨[(1, .p 1 0), (3, .p 3 0)], [(1, .st false (eD (eMdl p0))), (3, .st false [.d (.func 49 [])])]⟩ (And.intro True.intro True.intro) (by kernel_rfl) ?_
  refine AW2.seq ?_
  refine AW2.seq ?_
  refine AW2.rg [] [1, 3, 9, 10, 11] [] [.k 1, .k 3] ⟨[(1, .p 1 0), (3, .p 3 0), (9, .d (sV eTyp p0.types)), (10, .d (.int .i64 (p0.types.length : Int))), (11, .d (.int .i64 0))], [(1, .st false (eD (eMdl p0))), (3, .st false [.d (.func 49 [])])]⟩ (And.intro True.intro True.intro) (by kernel_rfl) ?_
  refine AW2.block ?_
  refine AW2.lp (σ := Int) (fun v => ⟨[(1, .p 1 0), (3, .p 3 0), (9, .d (sV eTyp p0.types)), (10, .d (.int .i64 (p0.types.length : Int))), (11, .d (.int .i64 v))], [(1, .st false (eD (eMdl p0))), (3, .st false [.d (.func 49 [])])]⟩) (fun k v => g_valid_kinds_l0 k K p0 v = some r) ?_ K 0 H
  rintro k a2 H
  cases k with
  | zero => cases H
  | succ k =>
  unfold g_valid_kinds_l0 at H
  refine AW2.seq ?_
  refine AW2.rg [] [1, 3, 9, 10, 11, 12] [] [.k 1, .k 3] ⟨[(1, .p 1 0), (3, .p 3 0), (9, .d (sV eTyp p0.types)), (10, .d (.int .i64 (p0.types.length : Int))), (11, .d (.int .i64 a2)), (12, .d (.bool (decide (a2 < (p0.types.length : Int)))))], [(1, .st false (eD (eMdl p0))), (3, .st false [.d (.func 49 [])])]⟩ (And.intro True.intro True.intro) (by kernel_rfl) ?_
  refine AW2.seq ?_
  refine AW2.cond (b := (decide (a2 < (p0.types.length : Int)))) rfl (fun hc => ?_) (fun hc => ?_)
  · replace H := ite_t H hc
    refine AW2.skip ?_
    refine AW2.seq ?_
    refine AW2.block ?_
    refine AW2.seq ?_
    obtain ⟨h3, H⟩ := gd_some H
    refine AW2.rg [.k 5] [1, 3, 5, 9, 10, 11] [] [.k 1, .k 3, .k 5] ⟨[(1, .p 1 0), (3, .p 3 0), (5, .p 5 0), (9, .d (sV eTyp p0.types)), (10, .d (.int .i64 (p0.types.length : Int))), (11, .d (.int .i64 a2))], [(1, .st false (eD (eMdl p0))), (3, .st false [.d (.func 49 [])]), (5, .st false (eD (eTyp (p0.types.getD a2.toNat default))))]⟩ (And.intro (And.intro h3 True.intro) True.intro) (by kernel_rfl) ?_
    refine AW2.seq ?_
    obtain ⟨x4, hx5, H⟩ := bind_some H
    obtain ⟨j8, H10, H⟩ := bind_some H
    refine AW2.reg [] rfl (YW.to ⟨[(1, .p 1 0), (3, .p 3 0), (9, .d (sV eTyp p0.types)), (10, .d (.int .i64 (p0.types.length : Int))), (11, .d (.int .i64 a2)), (24, .d (.bool j8))], [(1, .st false (eD (eMdl p0))), (3, .st false [.d (.func 49 [])])]⟩ ?qh11 ?h11)
    case h11 =>
      have H := H10
      rcases bT (!x4) with hc1 | hc1
      · replace H := ite_t H hc1
        have H := Option.some.inj H
        subst H
        exact YW.fin [(19, true)] [.r (.bool x4)] [1, 3, 9, 10, 11, 24] [] [.k 1, .k 3] _ (And.intro (And.intro (c_valid_result (((p0.types.getD a2.toNat default)).result) x4 hx5) (And.intro hc1 (And.intro hc1 (And.intro hc1 (And.intro hc1 (And.intro hc1 True.intro)))))) True.intro) (by kernel_rfl) rfl
      · replace H := ite_f H hc1
        obtain ⟨x6, hx7, H⟩ := bind_some H
        have H := Option.some.inj H
        subst H
        exact YW.fin [(19, false)] [.r (.bool x4), .r (.bool x6)] [1, 3, 9, 10, 11, 24] [] [.k 1, .k 3] _ (And.intro (And.intro (c_valid_result (((p0.types.getD a2.toNat default)).result) x4 hx5) (And.intro hc1 (And.intro hc1 (And.intro hc1 (And.intro hc1 (And.intro (c_slices_ContainsFunc_api_Kind_api_Kind_n0 K (((p0.types.getD a2.toNat default)).params) 49 (fun x => g_valid_kinds_1 x) (fun x b hb => c_valid_kinds_1 x b hb) x6 hx7) (And.intro hc1 True.intro))))))) True.intro) (by kernel_rfl) rfl
    refine AW2.cond (b := j8) rfl (fun hc => ?_) (fun hc => ?_)
    · replace H := ite_t H hc
      refine AW2.seq ?_
      refine AW2.rg [] [2] [] [] ⟨[(2, .d (.bool false))], []⟩ (And.intro True.intro True.intro) (by kernel_rfl) ?_
      refine AW2.ret ?_
      have H := Option.some.inj H
      subst H
      exact retP_mk2 True.intro (by kernel_rfl)
    · replace H := ite_f H hc
      refine AW2.skip ?_
      refine AW2.rg [] [1, 3, 9, 10, 11] [] [.k 1, .k 3] ⟨[(1, .p 1 0), (3, .p 3 0), (9, .d (sV eTyp p0.types)), (10, .d (.int .i64 (p0.types.length : Int))), (11, .d (.int .i64 (wI (a2 + 1))))], [(1, .st false (eD (eMdl p0))), (3, .st false [.d (.func 49 [])])]⟩ (And.intro True.intro True.intro) (by kernel_rfl) ?_
      exact ⟨k, (wI (a2 + 1)), Nat.lt_succ_self k, H, wk_mk [1, 3, 9, 10, 11] [] [.k 1, .k 3] True.intro (by kernel_rfl)⟩
  · replace H := ite_f H hc
    refine AW2.exit ?_
    refine AW2.seq ?_
    refine AW2.seq ?_
    refine AW2.rg [] [1, 3, 27, 28, 29] [] [.k 1, .k 3] ⟨[(1, .p 1 0), (3, .p 3 0), (27, .d (sV eFnc p0.funcs)), (28, .d (.int .i64 (p0.funcs.length : Int))), (29, .d (.int .i64 0))], [(1, .st false (eD (eMdl p0))), (3, .st false [.d (.func 49 [])])]⟩ (And.intro True.intro True.intro) (by kernel_rfl) ?_
    refine AW2.block ?_
    refine AW2.lp (σ := Int) (fun v => ⟨[(1, .p 1 0), (3, .p 3 0), (27, .d (sV eFnc p0.funcs)), (28, .d (.int .i64 (p0.funcs.length : Int))), (29, .d (.int .i64 v))], [(1, .st false (eD (eMdl p0))), (3, .st false [.d (.func 49 [])])]⟩) (fun k v => g_valid_kinds_l1 k K p0 v = some r) ?_ K 0 H
    rintro k a13 H
    cases k with
    | zero => cases H
    | succ k =>
    unfold g_valid_kinds_l1 at H
    refine AW2.seq ?_
    refine AW2.rg [] [1, 3, 27, 28, 29, 30] [] [.k 1, .k 3] ⟨[(1, .p 1 0), (3, .p 3 0), (27, .d (sV eFnc p0.funcs)), (28, .d (.int .i64 (p0.funcs.length : Int))), (29, .d (.int .i64 a13)), (30, .d (.bool (decide (a13 < (p0.funcs.length : Int)))))], [(1, .st false (eD (eMdl p0))), (3, .st false [.d (.func 49 [])])]⟩ (And.intro True.intro True.intro) (by kernel_rfl) ?_
    refine AW2.seq ?_
    refine AW2.cond (b := (decide (a13 < (p0.funcs.length : Int)))) rfl (fun hc => ?_) (fun hc => ?_)
    · replace H := ite_t H hc
      refine AW2.skip ?_
      refine AW2.seq ?_
      refine AW2.block ?_
      refine AW2.seq ?_
      obtain ⟨h14, H⟩ := gd_some H
      refine AW2.rg [.k 7] [1, 3, 7, 27, 28, 29] [] [.k 1, .k 3, .k 7] ⟨[(1, .p 1 0), (3, .p 3 0), (7, .p 7 0), (27, .d (sV eFnc p0.funcs)), (28, .d (.int .i64 (p0.funcs.length : Int))), (29, .d (.int .i64 a13))], [(1, .st false (eD (eMdl p0))), (3, .st false [.d (.func 49 [])]), (7, .st false (eD (eFnc (p0.funcs.getD a13.toNat default))))]⟩ (And.intro (And.intro h14 True.intro) True.intro) (by kernel_rfl) ?_
      refine AW2.seq ?_
      obtain ⟨x15, hx16, H⟩ := bind_some H
      refine AW2.rg [.r (.bool x15)] [1, 3, 27, 28, 29, 36] [] [.k 1, .k 3] ⟨[(1, .p 1 0), (3, .p 3 0), (27, .d (sV eFnc p0.funcs)), (28, .d (.int .i64 (p0.funcs.length : Int))), (29, .d (.int .i64 a13)), (36, .d (.bool x15))], [(1, .st false (eD (eMdl p0))), (3, .st false [.d (.func 49 [])])]⟩ (And.intro (And.intro (c_slices_ContainsFunc_api_Kind_api_Kind_n0 K (((p0.funcs.getD a13.toNat default)).locals) 49 (fun x => g_valid_kinds_1 x) (fun x b hb => c_valid_kinds_1 x b hb) x15 hx16) True.intro) True.intro) (by kernel_rfl) ?_
      refine AW2.cond (b := x15) rfl (fun hc => ?_) (fun hc => ?_)
      · replace H := ite_t H hc
        refine AW2.seq ?_
        refine AW2.rg [] [2] [] [] ⟨[(2, .d (.bool false))], []⟩ (And.intro True.intro True.intro) (by kernel_rfl) ?_
        refine AW2.ret ?_
        have H := Option.some.inj H
        subst H
        exact retP_mk2 True.intro (by kernel_rfl)
      · replace H := ite_f H hc
        refine AW2.skip ?_
        refine AW2.rg [] [1, 3, 27, 28, 29] [] [.k 1, .k 3] ⟨[(1, .p 1 0), (3, .p 3 0), (27, .d (sV eFnc p0.funcs)), (28, .d (.int .i64 (p0.funcs.length : Int))), (29, .d (.int .i64 (wI (a13 + 1))))], [(1, .st false (eD (eMdl p0))), (3, .st false [.d (.func 49 [])])]⟩ (And.intro True.intro True.intro) (by kernel_rfl) ?_
        exact ⟨k, (wI (a13 + 1)), Nat.lt_succ_self k, H, wk_mk [1, 3, 27, 28, 29] [] [.k 1, .k 3] True.intro (by kernel_rfl)⟩
    · replace H := ite_f H hc
      refine AW2.exit ?_
      refine AW2.seq ?_
      obtain ⟨x17, hx18, H⟩ := bind_some H
      refine AW2.rg [.r (.bool x17)] [2] [] [] ⟨[(2, .d (.bool (!x17)))], []⟩ (And.intro (And.intro (c_slices_ContainsFunc_api_Global_api_Global_n1 K p0.globals 52 [.func 49 []] (fun x => g_valid_kinds_2 x) (fun x b hb => c_valid_kinds_2 x b hb) x17 hx18) True.intro) True.intro) (by kernel_rfl) ?_
      refine AW2.ret ?_
      have H := Option.some.inj H
      subst H
      exact retP_mk2 True.intro (by kernel_rfl)

/- slices.Concat[[]mandrel/api.Kind,mandrel/api.Kind] -/
def g_slices_Concat_api_Kind_api_Kind_l0 : Nat → (List (List Int)) → (List Int) → Int → Option ((List Int))
  | 0, _, _, _ => none
  | k+1, p0, a6, a7 => (if (decide (a7 < (p0.length : Int))) = true then gd (0 ≤ a7 ∧ a7 < (p0.length : Int)) (gd ((a6.length + (p0.getD a7.toNat default).length) * 1 ≤ 140737488355328) (g_slices_Concat_api_Kind_api_Kind_l0 k p0 (a6 ++ (p0.getD a7.toNat default)) (wI (a7 + 1)))) else some a6)

def g_slices_Concat_api_Kind_api_Kind_l1 : Nat → (List (List Int)) → Int → Int → Option (Int)
  | 0, _, _, _ => none
  | k+1, p0, a14, a15 => (if (decide (a14 < (p0.length : Int))) = true then (gd (0 ≤ a14 ∧ a14 < (p0.length : Int)) ((if (decide ((wI (a15 + ((p0.getD a14.toNat default).length : Int))) < (0 : Int))) = true then none else some ()))).bind (fun _ => g_slices_Concat_api_Kind_api_Kind_l1 k p0 (wI (a14 + 1)) (wI (a15 + ((p0.getD a14.toNat default).length : Int)))) else some a15)

def g_slices_Concat_api_Kind_api_Kind (K : Nat) (p0 : List (List Int)) : Option (List Int) := (g_slices_Concat_api_Kind_api_Kind_l1 K p0 0 0).bind (fun j1 => gd (0 ≤ j1 ∧ j1 ≤ 140737488355328) ((g_slices_Concat_api_Kind_api_Kind_l0 K p0 ([] : List Int) 0).bind (fun j3 => some j3)))

theorem c_slices_Concat_api_Kind_api_Kind (K : Nat) (p0 : List (List Int)) (r : List Int) (H : g_slices_Concat_api_Kind_api_Kind K p0 = some r) : CF E 38 [sV (eL (eI .u8)) p0] (sV (eI .u8) r) := by
  refine cf_of (A := F_slices_Concat_api_Kind_api_Kind) fn_slices_Concat_api_Kind_api_Kind rfl fun fr => ?_
  unfold g_slices_Concat_api_Kind_api_Kind at H
  refine AW2.seq ?_
  refine AW2.rg [] [0] [] [] ⟨[(0, .d (sV (eL (eI .u8)) p0))], []⟩ (And.intro True.intro True.intro) (by kernel_rfl) ?_
  refine AW2.seq ?_
  refine AW2.rg [] [0, 3] [] [] ⟨[(0, .d (sV (eL (eI .u8)) p0)), (3, .d (.int .i64 0))], []⟩ (And.intro True.intro True.intro) (by kernel_rfl) ?_
  obtain ⟨j1, H20, H⟩ := bind_some H
  refine AW2.mid ⟨[(0, .d (sV (eL (eI .u8)) p0)), (3, .d (.int .i64 j1))], []⟩ ?_ ?_
  · refine AW2.seq ?_
    obtain ⟨h2, H⟩ := gd_some H
    refine AW2.rg [.c [] [900] [] (.ls 900 0 0) [(900, .sl false 1 0 (fl (eI .u8) ([] : List Int)))]] [0, 6] [] [.k 900] ⟨[(0, .d (sV (eL (eI .u8)) p0)), (6, .ls 900 0 ([] : List Int).length)], [(900, .sl false 1 ([] : List Int).length (fl (eI .u8) ([] : List Int)))]⟩ (And.intro (And.intro (c_slices_Grow1 j1 h2) True.intro) True.intro) (by kernel_rfl) ?_
    obtain ⟨j3, H11, H⟩ := bind_some H
    refine AW2.mid ⟨[(6, .ls 900 0 j3.length)], [(900, .sl false 1 j3.length (fl (eI .u8) j3))]⟩ ?_ ?_
    · refine AW2.seq ?_
      refine AW2.rg [] [2] [] [.k 900] ⟨[(2, .ls 900 0 j3.length)], [(900, .sl false 1 j3.length (fl (eI .u8) j3))]⟩ (And.intro True.intro True.intro) (by kernel_rfl) ?_
      refine AW2.ret ?_
      have H := Option.some.inj H
      subst H
      exact retP_mk2 (And.intro (Nat.le_refl j3.length) (And.intro (dfl (eI .u8) (dep_eI .u8) j3) True.intro)) (by kernel_rfl)
    · have H := H11
      refine AW2.seq ?_
      refine AW2.rg [] [6, 25, 26, 27] [] [.k 900] ⟨[(6, .ls 900 0 ([] : List Int).length), (25, .d (sV (eL (eI .u8)) p0)), (26, .d (.int .i64 (p0.length : Int))), (27, .d (.int .i64 0))], [(900, .sl false 1 ([] : List Int).length (fl (eI .u8) ([] : List Int)))]⟩ (And.intro True.intro True.intro) (by kernel_rfl) ?_
      refine AW2.block ?_
      refine AW2.lp (σ := (List Int) × Int) (fun v => ⟨[(6, .ls 900 0 v.1.length), (25, .d (sV (eL (eI .u8)) p0)), (26, .d (.int .i64 (p0.length : Int))), (27, .d (.int .i64 v.2))], [(900, .sl false 1 v.1.length (fl (eI .u8) v.1))]⟩) (fun k v => g_slices_Concat_api_Kind_api_Kind_l0 k p0 v.1 v.2 = some j3) ?_ K (([] : List Int), 0) H
      rintro k ⟨a6, a7⟩ H
      dsimp only at H
      cases k with
      | zero => cases H
      | succ k =>
      unfold g_slices_Concat_api_Kind_api_Kind_l0 at H
      refine AW2.seq ?_
      refine AW2.rg [] [6, 25, 26, 27, 28] [] [.k 900] ⟨[(6, .ls 900 0 a6.length), (25, .d (sV (eL (eI .u8)) p0)), (26, .d (.int .i64 (p0.length : Int))), (27, .d (.int .i64 a7)), (28, .d (.bool (decide (a7 < (p0.length : Int)))))], [(900, .sl false 1 a6.length (fl (eI .u8) a6))]⟩ (And.intro True.intro True.intro) (by kernel_rfl) ?_
      refine AW2.seq ?_
      refine AW2.cond (b := (decide (a7 < (p0.length : Int)))) rfl (fun hc => ?_) (fun hc => ?_)
      · replace H := ite_t H hc
        refine AW2.skip ?_
        refine AW2.seq ?_
        refine AW2.block ?_
        refine AW2.seq ?_
        obtain ⟨h8, H⟩ := gd_some H
        refine AW2.rg [] [6, 8, 25, 26, 27] [] [.k 900] ⟨[(6, .ls 900 0 a6.length), (8, .d (sV (eI .u8) (p0.getD a7.toNat default))), (25, .d (sV (eL (eI .u8)) p0)), (26, .d (.int .i64 (p0.length : Int))), (27, .d (.int .i64 a7))], [(900, .sl false 1 a6.length (fl (eI .u8) a6))]⟩ (And.intro (And.intro h8 True.intro) True.intro) (by kernel_rfl) ?_
        obtain ⟨h9, H⟩ := gd_some H
        refine AW2.rg [.s false (a6 ++ (p0.getD a7.toNat default)).length (fl (eI .u8) (a6 ++ (p0.getD a7.toNat default)))] [6, 25, 26, 27] [] [.k 900] ⟨[(6, .ls 900 0 (a6 ++ (p0.getD a7.toNat default)).length), (25, .d (sV (eL (eI .u8)) p0)), (26, .d (.int .i64 (p0.length : Int))), (27, .d (.int .i64 a7))], [(900, .sl false 1 (a6 ++ (p0.getD a7.toNat default)).length (fl (eI .u8) (a6 ++ (p0.getD a7.toNat default))))]⟩ (And.intro (And.intro (lcl (eI .u8) (lc_eI .u8) (p0.getD a7.toNat default)) (And.intro (Nat.le_refl a6.length) (And.intro h9 (And.intro (appN (eI .u8) a6 (p0.getD a7.toNat default)) True.intro)))) True.intro) (by kernel_rfl) ?_
        refine AW2.rg [] [6, 25, 26, 27] [] [.k 900] ⟨[(6, .ls 900 0 (a6 ++ (p0.getD a7.toNat default)).length), (25, .d (sV (eL (eI .u8)) p0)), (26, .d (.int .i64 (p0.length : Int))), (27, .d (.int .i64 (wI (a7 + 1))))], [(900, .sl false 1 (a6 ++ (p0.getD a7.toNat default)).length (fl (eI .u8) (a6 ++ (p0.getD a7.toNat default))))]⟩ (And.intro True.intro True.intro) (by kernel_rfl) ?_
        exact ⟨k, ((a6 ++ (p0.getD a7.toNat default)), (wI (a7 + 1))), Nat.lt_succ_self k, H, wk_mk [6, 25, 26, 27] [] [.k 900] True.intro (by kernel_rfl)⟩
      · replace H := ite_f H hc
        refine AW2.exit ?_
        have H := Option.some.inj H
        subst H
        exact wk_mk [6] [] [.k 900] True.intro (by kernel_rfl)
  · have H := H20
    refine AW2.seq ?_
    refine AW2.rg [] [0, 3, 9, 10, 11] [] [] ⟨[(0, .d (sV (eL (eI .u8)) p0)), (3, .d (.int .i64 0)), (9, .d (sV (eL (eI .u8)) p0)), (10, .d (.int .i64 (p0.length : Int))), (11, .d (.int .i64 0))], []⟩ (And.intro True.intro True.intro) (by kernel_rfl) ?_
    refine AW2.block ?_
    refine AW2.lp (σ := Int × Int) (fun v => ⟨[(0, .d (sV (eL (eI .u8)) p0)), (3, .d (.int .i64 v.2)), (9, .d (sV (eL (eI .u8)) p0)), (10, .d (.int .i64 (p0.length : Int))), (11, .d (.int .i64 v.1))], []⟩) (fun k v => g_slices_Concat_api_Kind_api_Kind_l1 k p0 v.1 v.2 = some j1) ?_ K (0, 0) H
    rintro k ⟨a14, a15⟩ H
    dsimp only at H
    cases k with
    | zero => cases H
    | succ k =>
    unfold g_slices_Concat_api_Kind_api_Kind_l1 at H
    refine AW2.seq ?_
    refine AW2.rg [] [0, 3, 9, 10, 11, 12] [] [] ⟨[(0, .d (sV (eL (eI .u8)) p0)), (3, .d (.int .i64 a15)), (9, .d (sV (eL (eI .u8)) p0)), (10, .d (.int .i64 (p0.length : Int))), (11, .d (.int .i64 a14)), (12, .d (.bool (decide (a14 < (p0.length : Int)))))], []⟩ (And.intro True.intro True.intro) (by kernel_rfl) ?_
    refine AW2.seq ?_
    refine AW2.cond (b := (decide (a14 < (p0.length : Int)))) rfl (fun hc => ?_) (fun hc => ?_)
    · replace H := ite_t H hc
      refine AW2.skip ?_
      obtain ⟨v17, H18, H⟩ := bind_some H
      obtain ⟨⟩ := v17
      refine AW2.mid ⟨[(0, .d (sV (eL (eI .u8)) p0)), (3, .d (.int .i64 (wI (a15 + ((p0.getD a14.toNat default).length : Int))))), (9, .d (sV (eL (eI .u8)) p0)), (10, .d (.int .i64 (p0.length : Int))), (11, .d (.int .i64 a14))], []⟩ ?_ ?_
      · refine AW2.rg [] [0, 3, 9, 10, 11] [] [] ⟨[(0, .d (sV (eL (eI .u8)) p0)), (3, .d (.int .i64 (wI (a15 + ((p0.getD a14.toNat default).length : Int))))), (9, .d (sV (eL (eI .u8)) p0)), (10, .d (.int .i64 (p0.length : Int))), (11, .d (.int .i64 (wI (a14 + 1))))], []⟩ (And.intro True.intro True.intro) (by kernel_rfl) ?_
        exact ⟨k, ((wI (a14 + 1)), (wI (a15 + ((p0.getD a14.toNat default).length : Int)))), Nat.lt_succ_self k, H, wk_mk [0, 3, 9, 10, 11] [] [] True.intro (by kernel_rfl)⟩
      · have H := H18
        refine AW2.block ?_
        refine AW2.seq ?_
        obtain ⟨h16, H⟩ := gd_some H
        refine AW2.rg [] [0, 3, 5, 9, 10, 11] [] [] ⟨[(0, .d (sV (eL (eI .u8)) p0)), (3, .d (.int .i64 a15)), (5, .d (sV (eI .u8) (p0.getD a14.toNat default))), (9, .d (sV (eL (eI .u8)) p0)), (10, .d (.int .i64 (p0.length : Int))), (11, .d (.int .i64 a14))], []⟩ (And.intro (And.intro h16 True.intro) True.intro) (by kernel_rfl) ?_
        refine AW2.seq ?_
        refine AW2.rg [] [0, 3, 9, 10, 11] [] [] ⟨[(0, .d (sV (eL (eI .u8)) p0)), (3, .d (.int .i64 (wI (a15 + ((p0.getD a14.toNat default).length : Int))))), (9, .d (sV (eL (eI .u8)) p0)), (10, .d (.int .i64 (p0.length : Int))), (11, .d (.int .i64 a14))], []⟩ (And.intro True.intro True.intro) (by kernel_rfl) ?_
        refine AW2.seq ?_
        refine AW2.rg [] [0, 3, 9, 10, 11, 20] [] [] ⟨[(0, .d (sV (eL (eI .u8)) p0)), (3, .d (.int .i64 (wI (a15 + ((p0.getD a14.toNat default).length : Int))))), (9, .d (sV (eL (eI .u8)) p0)), (10, .d (.int .i64 (p0.length : Int))), (11, .d (.int .i64 a14)), (20, .d (.bool (decide ((wI (a15 + ((p0.getD a14.toNat default).length : Int))) < (0 : Int)))))], []⟩ (And.intro True.intro True.intro) (by kernel_rfl) ?_
        refine AW2.cond (b := (decide ((wI (a15 + ((p0.getD a14.toNat default).length : Int))) < (0 : Int)))) rfl (fun hc => ?_) (fun hc => ?_)
        · replace H := ite_t H hc
          cases H
        · replace H := ite_f H hc
          refine AW2.skip ?_
          exact wk_mk [0, 3, 9, 10, 11] [] [] True.intro (by kernel_rfl)
    · replace H := ite_f H hc
      refine AW2.exit ?_
      have H := Option.some.inj H
      subst H
      exact wk_mk [0, 3] [] [] True.intro (by kernel_rfl)

/- (*mandrel/valid.checker).take -/
def g_valid_checker_take (p0 : Checker) (p1 : Int) : Option (Int × Checker) := gd (0 ≤ (wI ((p0.frames.length : Int) - 1)) ∧ (wI ((p0.frames.length : Int) - 1)) < (p0.frames.length : Int)) ((if (p1 == (0 : Int)) = true then some (p1, p0) else (if ((p0.stack.length : Int) == ((p0.frames.getD ((wI ((p0.frames.length : Int) - 1)).toNat) default).height)) = true then ((if p0.bad = true then some (Checker.mk p0.m p0.t p0.locals p0.stack p0.frames p0.labels p0.most true) else some (Checker.mk p0.m p0.t p0.locals p0.stack p0.frames p0.labels p0.most (!((p0.frames.getD ((wI ((p0.frames.length : Int) - 1)).toNat) default).away))))).bind (fun j2 => some (p1, j2)) else gd (0 ≤ (wI ((p0.stack.length : Int) - 1)) ∧ (wI ((p0.stack.length : Int) - 1)) < (p0.stack.length : Int)) (gd (0 ≤ (0 : Int) ∧ 0 ≤ (wI ((p0.stack.length : Int) - 1)) ∧ (wI ((p0.stack.length : Int) - 1)) ≤ (p0.stack.length : Int)) (((if (((p0.stack.getD ((wI ((p0.stack.length : Int) - 1)).toNat) default) != p1) && (((p0.stack.getD ((wI ((p0.stack.length : Int) - 1)).toNat) default) != (1 : Int)) && (p1 != (1 : Int)))) = true then some (Checker.mk p0.m p0.t p0.locals (List.take ((wI ((p0.stack.length : Int) - 1)).toNat) p0.stack) p0.frames p0.labels p0.most true) else some (Checker.mk p0.m p0.t p0.locals (List.take ((wI ((p0.stack.length : Int) - 1)).toNat) p0.stack) p0.frames p0.labels p0.most p0.bad))).bind (fun j8 => (if ((p0.stack.getD ((wI ((p0.stack.length : Int) - 1)).toNat) default) == (1 : Int)) = true then some (p1, j8) else some (p0.stack.getD ((wI ((p0.stack.length : Int) - 1)).toNat) default, j8))))))))

theorem c_valid_checker_take (p0 : Checker) (p1 : Int) (r : Int × Checker) (H : g_valid_checker_take p0 p1 = some r) : CM E 40 [.p 1000 0, .d (.int .u8 p1)] (H_Checker p0) [] [1000] (fun a b => a = (.d (.int .u8 r.1) : LV) ∧ b = H_Checker r.2) := by
  refine cs_of (A := F_valid_checker_take) fn_valid_checker_take fun fr => ?_
  unfold g_valid_checker_take at H
  refine AW2.seq ?_
  refine AW2.rg [] [0, 1] [] [.k 1000, .k 1001, .k 1002, .k 1003] ⟨[(0, .p 1000 0), (1, .d (.int .u8 p1))], H_Checker p0⟩ (And.intro True.intro True.intro) (by kernel_rfl) ?_
  refine AW2.seq ?_
  obtain ⟨h1, H⟩ := gd_some H
  refine AW2.rg [.k 5] [0, 1, 5] [] [.k 5, .k 1000, .k 1001, .k 1002, .k 1003] ⟨[(0, .p 1000 0), (1, .d (.int .u8 p1)), (5, .p 5 0)], [(5, .st false (eD (eFrame (p0.frames.getD ((wI ((p0.frames.length : Int) - 1)).toNat) default))))] ++ H_Checker p0⟩ (And.intro (And.intro h1 (And.intro (ixN h1) (And.intro (ixN h1) True.intro))) True.intro) (by kernel_rfl) ?_
  refine AW2.seq ?_
  refine AW2.seq ?_
  refine AW2.rg [] [0, 1, 5, 21] [] [.k 5, .k 1000, .k 1001, .k 1002, .k 1003] ⟨[(0, .p 1000 0), (1, .d (.int .u8 p1)), (5, .p 5 0), (21, .d (.bool (p1 == (0 : Int))))], [(5, .st false (eD (eFrame (p0.frames.getD ((wI ((p0.frames.length : Int) - 1)).toNat) default))))] ++ H_Checker p0⟩ (And.intro True.intro True.intro) (by kernel_rfl) ?_
  refine AW2.cond (b := (p1 == (0 : Int))) rfl (fun hc => ?_) (fun hc => ?_)
  · replace H := ite_t H hc
    refine AW2.seq ?_
    refine AW2.rg [] [4] [] [.k 1000, .k 1001, .k 1002, .k 1003] ⟨[(4, .d (.int .u8 p1))], H_Checker p0⟩ (And.intro True.intro True.intro) (by kernel_rfl) ?_
    refine AW2.ret ?_
    have H := Option.some.inj H
    subst H
    exact retS_mk3 [] [.k 1000, .k 1001, .k 1002, .k 1003] True.intro (by kernel_rfl) (by kernel_rfl)
  · replace H := ite_f H hc
    refine AW2.skip ?_
    refine AW2.seq ?_
    refine AW2.rg [] [0, 1, 5, 6] [] [.k 5, .k 1000, .k 1001, .k 1002, .k 1003] ⟨[(0, .p 1000 0), (1, .d (.int .u8 p1)), (5, .p 5 0), (6, .d (.int .i64 (p0.stack.length : Int)))], [(5, .st false (eD (eFrame (p0.frames.getD ((wI ((p0.frames.length : Int) - 1)).toNat) default))))] ++ H_Checker p0⟩ (And.intro True.intro True.intro) (by kernel_rfl) ?_
    refine AW2.seq ?_
    refine AW2.seq ?_
    refine AW2.rg [] [0, 1, 5, 6, 31] [] [.k 5, .k 1000, .k 1001, .k 1002, .k 1003] ⟨[(0, .p 1000 0), (1, .d (.int .u8 p1)), (5, .p 5 0), (6, .d (.int .i64 (p0.stack.length : Int))), (31, .d (.bool ((p0.stack.length : Int) == ((p0.frames.getD ((wI ((p0.frames.length : Int) - 1)).toNat) default).height))))], [(5, .st false (eD (eFrame (p0.frames.getD ((wI ((p0.frames.length : Int) - 1)).toNat) default))))] ++ H_Checker p0⟩ (And.intro True.intro True.intro) (by kernel_rfl) ?_
    refine AW2.cond (b := ((p0.stack.length : Int) == ((p0.frames.getD ((wI ((p0.frames.length : Int) - 1)).toNat) default).height))) rfl (fun hc => ?_) (fun hc => ?_)
    · replace H := ite_t H hc
      refine AW2.seq ?_
      obtain ⟨j2, H4, H⟩ := bind_some H
      refine AW2.reg [] rfl (YW.to ⟨[(1, .d (.int .u8 p1))], H_Checker j2⟩ ?qh5 ?h5)
      case h5 =>
        have H := H4
        rcases bT p0.bad with hc1 | hc1
        · replace H := ite_t H hc1
          have H := Option.some.inj H
          subst H
          exact YW.fin [(37, true)] [] [1] [] [.k 1000, .k 1001, .k 1002, .k 1003] _ (And.intro (And.intro hc1 (And.intro hc1 (And.intro hc1 (And.intro hc1 True.intro)))) True.intro) (by kernel_rfl) rfl
        · replace H := ite_f H hc1
          have H := Option.some.inj H
          subst H
          exact YW.fin [(37, false)] [] [1] [] [.k 1000, .k 1001, .k 1002, .k 1003] _ (And.intro (And.intro hc1 (And.intro hc1 (And.intro hc1 (And.intro hc1 True.intro)))) True.intro) (by kernel_rfl) rfl
      refine AW2.seq ?_
      refine AW2.rg [] [4] [] [.k 1000, .k 1001, .k 1002, .k 1003] ⟨[(4, .d (.int .u8 p1))], H_Checker j2⟩ (And.intro True.intro True.intro) (by kernel_rfl) ?_
      refine AW2.ret ?_
      have H := Option.some.inj H
      subst H
      exact retS_mk3 [] [.k 1000, .k 1001, .k 1002, .k 1003] True.intro (by kernel_rfl) (by kernel_rfl)
    · replace H := ite_f H hc
      refine AW2.skip ?_
      refine AW2.seq ?_
      obtain ⟨h6, H⟩ := gd_some H
      refine AW2.rg [] [0, 1, 6, 7] [] [.k 1000, .k 1001, .k 1002, .k 1003] ⟨[(0, .p 1000 0), (1, .d (.int .u8 p1)), (6, .d (.int .i64 (p0.stack.length : Int))), (7, .d (.int .u8 (p0.stack.getD ((wI ((p0.stack.length : Int) - 1)).toNat) default)))], H_Checker p0⟩ (And.intro (And.intro h6 (And.intro (ixN h6) (And.intro (ixN h6) True.intro))) True.intro) (by kernel_rfl) ?_
      refine AW2.seq ?_
      obtain ⟨h7, H⟩ := gd_some H
      refine AW2.rg [.s true (List.take ((wI ((p0.stack.length : Int) - 1)).toNat) p0.stack).length (fl (eI .u8) (List.take ((wI ((p0.stack.length : Int) - 1)).toNat) p0.stack))] [0, 1, 7] [] [.k 1000, .sl 1001 (List.take ((wI ((p0.stack.length : Int) - 1)).toNat) p0.stack).length (fl (eI .u8) (List.take ((wI ((p0.stack.length : Int) - 1)).toNat) p0.stack)), .k 1002, .k 1003] ⟨[(0, .p 1000 0), (1, .d (.int .u8 p1)), (7, .d (.int .u8 (p0.stack.getD ((wI ((p0.stack.length : Int) - 1)).toNat) default)))], H_Checker (Checker.mk p0.m p0.t p0.locals (List.take ((wI ((p0.stack.length : Int) - 1)).toNat) p0.stack) p0.frames p0.labels p0.most p0.bad)⟩ (And.intro (And.intro h7 (And.intro (takeN h7) True.intro)) (And.intro (takeL p0.stack ((wI ((p0.stack.length : Int) - 1)).toNat)) (And.intro (takeF (eI .u8) p0.stack ((wI ((p0.stack.length : Int) - 1)).toNat)) True.intro))) (by kernel_rfl) ?_
      obtain ⟨j8, H11, H⟩ := bind_some H
      refine AW2.mid ⟨[(1, .d (.int .u8 p1)), (7, .d (.int .u8 (p0.stack.getD ((wI ((p0.stack.length : Int) - 1)).toNat) default)))], H_Checker j8⟩ ?_ ?_
      · refine AW2.seq ?_
        refine AW2.seq ?_
        refine AW2.rg [] [1, 7, 78] [] [.k 1000, .k 1001, .k 1002, .k 1003] ⟨[(1, .d (.int .u8 p1)), (7, .d (.int .u8 (p0.stack.getD ((wI ((p0.stack.length : Int) - 1)).toNat) default))), (78, .d (.bool ((p0.stack.getD ((wI ((p0.stack.length : Int) - 1)).toNat) default) == (1 : Int))))], H_Checker j8⟩ (And.intro True.intro True.intro) (by kernel_rfl) ?_
        refine AW2.cond (b := ((p0.stack.getD ((wI ((p0.stack.length : Int) - 1)).toNat) default) == (1 : Int))) rfl (fun hc => ?_) (fun hc => ?_)
        · replace H := ite_t H hc
          refine AW2.seq ?_
          refine AW2.rg [] [4] [] [.k 1000, .k 1001, .k 1002, .k 1003] ⟨[(4, .d (.int .u8 p1))], H_Checker j8⟩ (And.intro True.intro True.intro) (by kernel_rfl) ?_
          refine AW2.ret ?_
          have H := Option.some.inj H
          subst H
          exact retS_mk3 [] [.k 1000, .k 1001, .k 1002, .k 1003] True.intro (by kernel_rfl) (by kernel_rfl)
        · replace H := ite_f H hc
          refine AW2.skip ?_
          refine AW2.seq ?_
          refine AW2.rg [] [4] [] [.k 1000, .k 1001, .k 1002, .k 1003] ⟨[(4, .d (.int .u8 (p0.stack.getD ((wI ((p0.stack.length : Int) - 1)).toNat) default)))], H_Checker j8⟩ (And.intro True.intro True.intro) (by kernel_rfl) ?_
          refine AW2.ret ?_
          have H := Option.some.inj H
          subst H
          exact retS_mk3 [] [.k 1000, .k 1001, .k 1002, .k 1003] True.intro (by kernel_rfl) (by kernel_rfl)
      · have H := H11
        refine AW2.seq ?_
        refine AW2.reg [] rfl (YW.to ⟨[(0, .p 1000 0), (1, .d (.int .u8 p1)), (7, .d (.int .u8 (p0.stack.getD ((wI ((p0.stack.length : Int) - 1)).toNat) default))), (73, .d (.bool (((p0.stack.getD ((wI ((p0.stack.length : Int) - 1)).toNat) default) != p1) && (((p0.stack.getD ((wI ((p0.stack.length : Int) - 1)).toNat) default) != (1 : Int)) && (p1 != (1 : Int))))))], H_Checker (Checker.mk p0.m p0.t p0.locals (List.take ((wI ((p0.stack.length : Int) - 1)).toNat) p0.stack) p0.frames p0.labels p0.most p0.bad)⟩ ?qh9 ?h9)
        case h9 =>
          rcases bT ((p0.stack.getD ((wI ((p0.stack.length : Int) - 1)).toNat) default) != p1) with hc1 | hc1
          · rcases bT ((p0.stack.getD ((wI ((p0.stack.length : Int) - 1)).toNat) default) != (1 : Int)) with hc2 | hc2
            · exact YW.fin [(66, true), (70, true)] [] [0, 1, 7, 73] [(73, .d (.bool (((p0.stack.getD ((wI ((p0.stack.length : Int) - 1)).toNat) default) != p1) && (((p0.stack.getD ((wI ((p0.stack.length : Int) - 1)).toNat) default) != (1 : Int)) && (p1 != (1 : Int))))))] [.k 1000, .k 1001, .k 1002, .k 1003] _ (And.intro (And.intro hc1 (And.intro hc1 (And.intro hc1 (And.intro hc2 (And.intro hc2 (And.intro hc2 True.intro)))))) (And.intro (ovB (Eq.trans (andT (b := (((p0.stack.getD ((wI ((p0.stack.length : Int) - 1)).toNat) default) != (1 : Int)) && (p1 != (1 : Int)))) hc1) (Eq.trans (andT (b := (p1 != (1 : Int))) hc2) (Eq.refl (p1 != (1 : Int)))))) True.intro)) (by kernel_rfl) rfl
            · exact YW.fin [(66, true), (70, false)] [] [0, 1, 7, 73] [(73, .d (.bool (((p0.stack.getD ((wI ((p0.stack.length : Int) - 1)).toNat) default) != p1) && (((p0.stack.getD ((wI ((p0.stack.length : Int) - 1)).toNat) default) != (1 : Int)) && (p1 != (1 : Int))))))] [.k 1000, .k 1001, .k 1002, .k 1003] _ (And.intro (And.intro hc1 (And.intro hc1 (And.intro hc1 (And.intro hc2 (And.intro hc2 (And.intro hc2 True.intro)))))) (And.intro (ovB (Eq.trans (andT (b := (((p0.stack.getD ((wI ((p0.stack.length : Int) - 1)).toNat) default) != (1 : Int)) && (p1 != (1 : Int)))) hc1) (andF (b := (p1 != (1 : Int))) hc2))) True.intro)) (by kernel_rfl) rfl
          · exact YW.fin [(66, false), (70, false)] [] [0, 1, 7, 73] [(73, .d (.bool (((p0.stack.getD ((wI ((p0.stack.length : Int) - 1)).toNat) default) != p1) && (((p0.stack.getD ((wI ((p0.stack.length : Int) - 1)).toNat) default) != (1 : Int)) && (p1 != (1 : Int))))))] [.k 1000, .k 1001, .k 1002, .k 1003] _ (And.intro (And.intro hc1 (And.intro hc1 (And.intro hc1 (And.intro (Eq.refl false) (And.intro (Eq.refl false) (And.intro (Eq.refl false) True.intro)))))) (And.intro (ovB (andF (b := (((p0.stack.getD ((wI ((p0.stack.length : Int) - 1)).toNat) default) != (1 : Int)) && (p1 != (1 : Int)))) hc1)) True.intro)) (by kernel_rfl) rfl
        refine AW2.cond (b := (((p0.stack.getD ((wI ((p0.stack.length : Int) - 1)).toNat) default) != p1) && (((p0.stack.getD ((wI ((p0.stack.length : Int) - 1)).toNat) default) != (1 : Int)) && (p1 != (1 : Int))))) rfl (fun hc => ?_) (fun hc => ?_)
        · replace H := ite_t H hc
          refine AW2.rg [] [1, 7] [] [.k 1000, .k 1001, .k 1002, .k 1003] ⟨[(1, .d (.int .u8 p1)), (7, .d (.int .u8 (p0.stack.getD ((wI ((p0.stack.length : Int) - 1)).toNat) default)))], H_Checker (Checker.mk p0.m p0.t p0.locals (List.take ((wI ((p0.stack.length : Int) - 1)).toNat) p0.stack) p0.frames p0.labels p0.most true)⟩ (And.intro True.intro True.intro) (by kernel_rfl) ?_
          have H := Option.some.inj H
          subst H
          exact wk_mk [1, 7] [] [.k 1000, .k 1001, .k 1002, .k 1003] True.intro (by kernel_rfl)
        · replace H := ite_f H hc
          refine AW2.skip ?_
          have H := Option.some.inj H
          subst H
          exact wk_mk [1, 7] [] [.k 1000, .k 1001, .k 1002, .k 1003] True.intro (by kernel_rfl)

end Go.Proofs.YtablleokoifolaaGreatDoor

/- slices.Backward's iterator, for every body that leaves the slice as it lies. -/
set_option linter.unusedVariables false
set_option linter.unusedSimpArgs false
namespace Go.Proofs.YtablleokoifolaaGreatDoor
open Go Go.RowKit

/-- What has come when k are left. -/
def backL (xs : List Int) (k : Nat) : List (Int × Int) := ((List.range (xs.length - k)).map fun q => (((xs.length - 1 - q : Nat) : Int), xs.getD (xs.length - 1 - q) 0))

theorem backL_step (xs : List Int) {k : Nat} (hk : k < xs.length) : backL xs (k + 1) ++ [((k : Int), xs.getD k 0)] = backL xs k := by
  unfold backL
  have e : xs.length - k = (xs.length - (k + 1)) + 1 := by omega
  rw [e, List.range_succ, List.map_append, List.map_singleton]
  have : xs.length - 1 - (xs.length - (k + 1)) = k := by omega
  rw [this]

def CellsAt (W : World) (A : Addr) (xs : List Int) : Prop := ∀ i, i < xs.length → W.cell? (A.add i) = some (.int .u8 (xs.getD i 0))
def muI : Value → Nat
  | .int _ i => (i + 1).toNat
  | _ => 0
theorem backL_len (xs : List Int) (k : Nat) : (backL xs k).length = xs.length - k := by simp [backL]

set_option maxRecDepth 100000 in
set_option maxHeartbeats 1000000 in
theorem back_in (S : Nat → Prop) (xs : List Int) (A : Addr) (cap : Nat) (n : Nat) (hn : 1 ≤ n) (l Bm : Nat) (hB : S Bm) (hA : S A.block) (J Jx : List (Int × Int) → World → Prop) (hx : xs.length < 4611686018427387904)
    (hY : ∀ pre x W, J pre W → pre.length < xs.length → YieldAt Fence.wide (n - 1) Tryz.prog l #[.int .i64 x.1, .int .u8 x.2] W fun e W' =>
      (e = .returned (.bool true) ∧ J (pre ++ [x]) W' ∧ ∀ b, S b → W'.heap[b]? = W.heap[b]?) ∨ (e = .returned (.bool false) ∧ Jx (pre ++ [x]) W'))
    (W : World) (hb : W.cell? ⟨Bm, 0, none⟩ = some (.slice (some A) xs.length cap)) (hc : ∀ i, i < xs.length → W.cell? (A.add i) = some (.int .u8 (xs.getD i 0))) (h0 : J [] W) :
    CallsIn Fence.wide n Tryz.prog 103 #[.func (.yield l) #[] #[], .pointer (some ⟨Bm, 0, none⟩)] W fun e W' => (∃ v, e = .returned v) ∧ (J (backL xs 0) W' ∨ ∃ pre, Jx pre W') := by
  refine callsIn_of_wp Tryz.func103 rfl trivial ?_ rfl
  simp only [Tryz.ntmps103, List.size_toArray, List.length_cons, List.length_nil, Nat.reduceAdd, Nat.reduceSub, Array.replicate_succ, Array.replicate_zero, List.push_toArray, List.append_toArray, List.nil_append, List.cons_append]
  gi_wp2
  gi_loopw [3] (fun v wr => ∃ k : Nat, k ≤ xs.length ∧ v = .int .i64 ((k : Int) - 1) ∧ J (backL xs k) wr ∧ wr.cell? ⟨Bm, 0, none⟩ = some (.slice (some A) xs.length cap) ∧ ∀ i, i < xs.length → wr.cell? (A.add i) = some (.int .u8 (xs.getD i 0)))
    (fun v wr => muI v)
  case atStart =>
    refine ⟨xs.length, Nat.le_refl _, rfl, ?_, hb, hc⟩
    have : backL xs xs.length = [] := by simp [backL]
    rw [this]; exact h0
  case round =>
    obtain ⟨k, hk, rfl, hJ, hb', hc'⟩ := hrel
    cases k with
    | zero =>
      gi_wp2
      go_end0
      exact ⟨⟨_, rfl⟩, .inl hJ⟩
    | succ m =>
      have hm : m < xs.length := by omega
      have e1 : (((m + 1 : Nat) : Int) - 1) = (m : Int) := by omega
      rw [e1]
      have hcm := hc' m hm
      have hge : (0 : Int) ≤ (m : Int) := by omega
      have hlt : (m : Int) < (xs.length : Int) := by omega
      obtain ⟨fn, tmps, assign, body, hy, hR⟩ := hY (backL xs (m + 1)) ((m : Int), xs.getD m 0) wr hJ (by rw [backL_len]; omega)
      rw [backL_step xs hm] at hR
      dsimp only at hy
      clear hY
      have HC : CellsAt wr A xs := hc'
      clear hc'
      generalize xs.getD m 0 = y at hcm hy
      gi_wp2
      refine hR.mono ?_
      rintro e W3 (⟨rfl, hJ3, hk3⟩ | ⟨rfl, h⟩)
      · have hb3 : W3.cell? ⟨Bm, 0, none⟩ = some (.slice (some A) xs.length cap) := (World.cell?_of_block (hk3 _ hB)).trans hb'
        have hc3 : ∀ i, i < xs.length → W3.cell? (A.add i) = some (.int .u8 (xs.getD i 0)) := fun i hi => (World.cell?_of_block (hk3 _ (by unfold Addr.add; split <;> exact hA))).trans (HC i hi)
        gi_wp2
        exact ⟨⟨m, by omega, rfl, hJ3, hb3, hc3⟩, by simp only [muI]; omega⟩
      · gi_wp2
        refine bodyPost_ret (results_none rfl _ _ _) rfl ?_
        exact ⟨⟨_, rfl⟩, .inr ⟨_, h⟩⟩

set_option maxRecDepth 100000 in
set_option maxHeartbeats 1000000 in
/-- .. and where nothing is in it. -/
theorem back_in0 (b : Option Addr) (cap : Nat) (n : Nat) (hn : 1 ≤ n) (l Bm : Nat) (J : World → Prop)
    (W : World) (hb : W.cell? ⟨Bm, 0, none⟩ = some (.slice b 0 cap)) (h0 : J W) :
    CallsIn Fence.wide n Tryz.prog 103 #[.func (.yield l) #[] #[], .pointer (some ⟨Bm, 0, none⟩)] W fun e W' => (∃ v, e = .returned v) ∧ J W' := by
  refine callsIn_of_wp Tryz.func103 rfl trivial ?_ rfl
  simp only [Tryz.ntmps103, List.size_toArray, List.length_cons, List.length_nil, Nat.reduceAdd, Nat.reduceSub, Array.replicate_succ, Array.replicate_zero, List.push_toArray, List.append_toArray, List.nil_append, List.cons_append]
  gi_wp2
  gi_loopw [3] (fun v wr => v = .int .i64 (-1) ∧ J wr) (fun v wr => 0)
  case atStart => exact ⟨rfl, h0⟩
  case round =>
    obtain ⟨rfl, hJ⟩ := hrel
    gi_wp2
    go_end0
    exact ⟨⟨_, rfl⟩, hJ⟩
end Go.Proofs.YtablleokoifolaaGreatDoor

/- What a range over a function leaves of the relation to memory. -/
set_option linter.unusedVariables false
set_option linter.unusedSimpArgs false
namespace Go.Proofs.YtablleokoifolaaGreatDoor
open Go Go.RowKit

variable {E : Env} {h : Hp} {H H' : Array Obj} {β : Bt} {V F : Nat → Prop}

/-- Blocks of cells lie as they lay. -/
def KeepCells (H H' : Array Obj) : Prop := ∀ (b : Nat) (C : Array Value) (T : TypeId) (fr : Nat × Nat), H[b]? = some (.cells C T fr) → H'[b]? = some (.cells C T fr)

theorem RVF.keep {a : AV} {v : Value} (r : RVF E H F a v) (k : KeepCells H H') : RVF E H' F a v := by
  induction r with
  | undef v => exact .undef v
  | hole => exact .hole
  | bool b => exact .bool b
  | int k n => exact .int k n
  | str s => exact .str s
  | nilp => exact .nilp
  | fptr cs b off C T fr h1 h2 h3 hk h4 ih => exact .fptr cs b off C T fr h1 (k _ _ _ _ h2) h3 hk ih
  | nils => exact .nils
  | slv0 a cap => exact .slv0 a cap
  | slv es b off cap esz C T fr h1 h2 h3 h4 h5 hk h6 ih => exact .slv es b off cap esz C T fr h1 (k _ _ _ _ h2) h3 h4 h5 hk ih
  | func f caps cv hl hc ih => exact .func f caps cv hl ih
  | nilf => exact .nilf
  | iface c a v h ih => exact .iface c a v ih
  | nili => exact .nili
  | nilm => exact .nilm
  | agg cs cv hl hk hc ih => exact .agg cs cv hl hk ih
  | tup cs cv hl hc ih => exact .tup cs cv hl ih

theorem RV.keep {a : AV} {v : Value} (r : RV E H β V F a v) (k : KeepCells H H') : RV E H' β V F a v := by
  induction r with
  | fz h => exact .fz (h.keep k)
  | ptrD κ i o a hV hβ => exact .ptrD κ i o a hV hβ
  | ptr κ i o b esz hV hβ => exact .ptr κ i o b esz hV hβ
  | slD κ lo n a cap hV hβ => exact .slD κ lo n a cap hV hβ
  | sl κ lo n b esz cap C T fr hV hβ hn hb hs => exact .sl κ lo n b esz cap C T fr hV hβ hn (k _ _ _ _ hb) hs
  | sl0 κ lo a hV => exact .sl0 κ lo a hV
  | mapD κ a hV hβ => exact .mapD κ a hV hβ
  | map κ b esz hV hβ => exact .map κ b esz hV hβ
  | func f caps cv hl hc ih => exact .func f caps cv hl ih
  | iface c a v h ih => exact .iface c a v ih
  | agg cs cv hl hk hc ih => exact .agg cs cv hl hk ih
  | tup cs cv hl hc ih => exact .tup cs cv hl ih

def AllRows (h : Hp) : Prop := ∀ κ es, h κ ≠ some (.mp es)

theorem HRel.keep (R : HRel E h H β V F) (hr : AllRows h) (k : KeepCells H H') (hs : H.size ≤ H'.size) (hg : ∀ b, b < E.gb → H'[b]? = H[b]?) : HRel E h H' β V F where
  dom := R.dom
  lt κ b e he := ⟨(R.lt κ b e he).1, Nat.lt_of_lt_of_le (R.lt κ b e he).2 hs⟩
  inj := R.inj
  obj κ o ho := by
    cases o with
    | mp es => exact absurd ho (hr κ es)
    | row ro esz es =>
      obtain ⟨b, C, T, h1, h2, h3, h4, h5, h6, h7⟩ := R.obj κ _ ho
      exact ⟨b, C, T, h1, k _ _ _ _ h2, h3, h4, h5, fun i j hi hj => ⟨(h6 i j hi hj).1, (h6 i j hi hj).2.keep k⟩, h7⟩
  fsz b hb := Nat.lt_of_lt_of_le (R.fsz b hb) hs
  glo := R.glo
  gsz := Nat.le_trans R.gsz hs
  gk := E.gkeep _ _ hg R.gk

/-- From a start on: what was there keeps its way; new blocks may lie as they will. -/
theorem Ext.keep {H0 : Array Obj} {β0 : Bt} {V0 F0 : Nat → Prop} (x : Ext H0 β0 V0 F0 H β V F) (k : KeepCells H H') (hs : H.size ≤ H'.size) (hb : ∀ b, b < H0.size → H'[b]? = H[b]?) : Ext H0 β0 V0 F0 H' β V F where
  size := Nat.le_trans x.size hs
  out b h1 h2 := (hb b h1).trans (x.out b h1 h2)
  fr b h1 h2 := (hb b h2).trans (x.fr b h1 h2)
  shape b C T fr h := by
    obtain ⟨C', h1, h2⟩ := x.shape b C T fr h
    exact ⟨C', k _ _ _ _ h1, h2⟩
  old := x.old
  img := x.img
  fmono := x.fmono
  fnew := x.fnew

theorem keep_grown {W W' : World} {row : Option Nat} (hg : W.grownBy W' row) (hrow : ∀ r, row = some r → ∃ o : Obj, W.heap[r]? = some o ∧ o.isCells = false) : KeepCells W.heap W'.heap := fun b C T fr hb =>
  (grownBy_keeps_cells hg hrow hb rfl).trans hb

/-- A block of objects is one of cells. -/
theorem HRel.cells (R : HRel E h H β V F) (hr : AllRows h) {κ b e : Nat} (hβ : β κ = some (b, e)) : ∃ C T, H[b]? = some (.cells C T (0, 0)) := by
  cases ho : h κ with
  | none => rw [(R.dom κ).1 ho] at hβ; cases hβ
  | some o =>
    cases o with
    | mp es => exact absurd ho (hr κ es)
    | row ro esz es =>
      obtain ⟨b', C, T, h1, h2, _⟩ := R.obj κ _ ho
      rw [hβ] at h1
      obtain ⟨rfl, rfl⟩ : b = b' ∧ e = esz := by simpa using h1
      exact ⟨C, T, h2⟩

end Go.Proofs.YtablleokoifolaaGreatDoor

/- checker.takes: a range over slices.Backward. -/
set_option linter.unusedVariables false
set_option linter.unusedSimpArgs false
namespace Go.Proofs.YtablleokoifolaaGreatDoor
open Go Go.RowKit Go.Shelf
attribute [local go_sem] Oper.semAt_some

theorem back_fn (b : Option Addr) (len cap : Nat) (w : World) :
    Calls Tryz.prog 96 #[.slice b len cap] w fun e w' => e = .returned (.func (.func 103) #[] #[.pointer (some ⟨w.heap.size, 0, none⟩)]) ∧ w' = w.alloc (.cells #[.slice b len cap] 64) := by
  go_enter Tryz.func96, Tryz.ntmps96
  go_wp2
  go_ret
  exact ⟨rfl, rfl⟩

theorem back_snd (xs : List Int) : (backL xs 0).map (·.2) = xs.reverse := by
  apply List.ext_getElem
  · simp [backL]
  · intro i h1 h2
    simp [backL] at h1 ⊢
    rw [List.getElem?_eq_getElem (by omega)]
    rfl

/-- What holds between two rounds. -/
structure TI (E : Env) (w0 : World) (β : Bt) (V F : Nat → Prop) (n : Nat) (v0 : Value) (J : List Int → Hp → Nat → Prop) (pre : List (Int × Int)) (W : World) : Prop where
  ex : ∃ h' n' β' V' F', J (pre.map (·.2)) h' n' ∧ AllRows h' ∧ HRel E h' W.heap β' V' F' ∧ Ext w0.heap β V F W.heap β' V' F' ∧ WX w0 W ∧ n ≤ n' ∧ (∀ κ, V' κ → κ < n') ∧ (∀ κ, V' κ → κ < n → V κ) ∧
    (∀ κ b e, β' κ = some (b, e) → b ≠ w0.heap.size ∧ b ≠ w0.heap.size + 1) ∧ W.heap[w0.heap.size]? = some (.cells #[v0] 106 (0, 0)) ∧ w0.heap.size + 2 ≤ W.heap.size

theorem TI.own {E : Env} {w0 : World} {β : Bt} {V F : Nat → Prop} {n : Nat} {v0 : Value} {J : List Int → Hp → Nat → Prop} (hg0 : E.gb ≤ w0.heap.size) : OwnFrom (w0.heap.size + 2) (TI E w0 β V F n v0 J) := by
  rintro pre W W' row ⟨h', n', β', V', F', k1, k2, k3, k4, k5, k6, k7, k8, k9, k10, k11⟩ hg hr
  have kc := keep_grown hg (fun r e => (hr r e).2)
  have lo : ∀ b, b < w0.heap.size → W'.heap[b]? = W.heap[b]? := fun b hb => hg.block b (by omega) (fun e => by have := (hr b e.symm).1; omega)
  exact ⟨⟨h', n', β', V', F', k1, k2, k3.keep k2 kc hg.size (fun b hb => lo b (by omega)), k4.keep kc hg.size lo, k5.trans ⟨hg.os, hg.tape, hg.output⟩, k6, k7, k8, k9, kc _ _ _ _ k10, Nat.le_trans k11 hg.size⟩⟩

set_option maxRecDepth 100000 in
set_option maxHeartbeats 1000000 in
theorem takes_in {h : Hp} {n : Nat} {c : AV} (ks : List Int) (hk : ks.length < 4611686018427387904) (J : List Int → Hp → Nat → Prop) (hrows : ∀ pre h n, J pre h n → AllRows h) (h0 : J [] h n)
    (hstep : ∀ pre x h n, J pre h n → pre.length < ks.length → ACallS E 40 [c, .int .u8 x] h n (fun _ h' n' => J (pre ++ [x]) h' n'))
    (w : World) (β : Bt) (V F : Nat → Prop) (R : HRel E h w.heap β V F) (vb : ∀ κ, V κ → κ < n) (pc : Addr) (rc : RV E w.heap β V F c (.pointer (some pc)))
    (b : Option Addr) (cap : Nat) (hb : (∃ A, b = some A ∧ F A.block ∧ ∀ i, i < ks.length → w.cell? (A.add i) = some (.int .u8 (ks.getD i 0))) ∨ ks = []) :
    Calls Tryz.prog 92 #[.pointer (some pc), .slice b ks.length cap] w fun e w' => ∃ v β' V' F' r h' n', e = .returned v ∧ RV E w'.heap β' V' F' r v ∧ HRel E h' w'.heap β' V' F' ∧ Ext w.heap β V F w'.heap β' V' F' ∧ WX w w' ∧
      n ≤ n' ∧ (∀ κ, V' κ → κ < n') ∧ (∀ κ, V' κ → κ < n → V κ) ∧ J ks.reverse h' n' := by
  refine (callsIn_wide (n := 10)).1 ?_
  refine callsIn_of_wp_marks Tryz.func92 rfl trivial ?_ rfl
  simp only [Tryz.ntmps92, List.size_toArray, List.length_cons, List.length_nil, Nat.reduceAdd, Nat.reduceSub, Array.replicate_succ, Array.replicate_zero, List.push_toArray, List.append_toArray, List.nil_append, List.cons_append]
  gi_wp2
  refine ⟨trivial, (callsIn_wide.2 (back_fn _ _ _ _)).mono ?_⟩
  rintro e w' ⟨rfl, rfl⟩
  gi_wp2
  obtain ⟨W1, hW1⟩ : ∃ W1, ((w.alloc (Obj.cells #[Value.pointer (some pc)] 106)).alloc (Obj.cells #[Value.slice b ks.length cap] 64)) = W1 := ⟨_, rfl⟩
  rw [hW1]
  have hs1 : W1.heap.size = w.heap.size + 2 := by rw [← hW1]; simp
  have hold : ∀ b, b < w.heap.size → W1.heap[b]? = w.heap[b]? := fun b hb => by
    rw [← hW1]
    exact (Below.heap_alloc _ _ _ (by simp; omega)).trans (Below.heap_alloc _ _ _ hb)
  have hbox1 : W1.heap[w.heap.size]? = some (.cells #[Value.pointer (some pc)] 106 (0, 0)) := by
    rw [← hW1]
    exact (Below.heap_alloc _ _ _ (by simp)).trans (World.alloc_heap_new w _)
  have hbox2 : W1.heap[w.heap.size + 1]? = some (.cells #[Value.slice b ks.length cap] 64 (0, 0)) := by
    rw [← hW1]
    have := World.alloc_heap_new (w.alloc (Obj.cells #[Value.pointer (some pc)] 106)) (Obj.cells #[Value.slice b ks.length cap] 64)
    rwa [World.size_alloc] at this
  have hwx : WX w W1 := by rw [← hW1]; exact ⟨rfl, rfl, rfl⟩
  have kc1 : KeepCells w.heap W1.heap := fun b C T fr hb => (hold b (Array.getElem?_eq_some_iff.1 hb).1).trans hb
  refine wpIn_rangeFunc_ownF (encs := fun x : Int × Int => #[.int .i64 x.1, .int .u8 x.2]) (Kp := fun X Y => ∀ b, (b = w.heap.size + 1 ∨ F b) → Y.heap[b]? = X.heap[b]?) (S := fun xs => xs = backL ks 0) (Sp := fun _ => True)
    (N := ks.length) (w0 := W1) rfl (by omega) (gf := 103) (lb := #[.pointer (some ⟨w.heap.size + 1, 0, none⟩)]) rfl trivial (enters_of Tryz.func103 (by kernel_rfl) rfl) ?seq (fun h k b hb => (k b hb).trans (h b hb)) ?kb (Below.refl _ _) (fun _ => rfl)
    (TI E w β V F n (.pointer (some pc)) J) (fun _ _ _ => False) ?own (fun _ _ _ _ _ h => h.elim) ?h0
    (fun x => { tmps := #[Value.pointer (some pc), Value.slice b ks.length cap, Value.pointer (some { block := w.heap.size, off := 0 }), undef, undef, .int .u8 x.2, Value.slice b ks.length cap,
      Value.func (Fn.func 103) #[] #[Value.pointer (some { block := w.heap.size + 1, off := 0 })], .int .i64 x.1, .int .u8 x.2, undef, undef, undef], defers := [] }) ?assign ?body ?done (fun _ _ _ _ _ _ h => h.elim)
  case seq =>
    intro l J' Jx W hW hJ hJx hY hJ0
    have hbx : W.cell? ⟨w.heap.size + 1, 0, none⟩ = some (.slice b ks.length cap) := by
      have := hW.block (w.heap.size + 1) (by omega)
      rw [hbox2] at this
      simp [World.cell?, this]
    rcases hb with ⟨A, rfl, hFA, hc⟩ | rfl
    · have hAlt : A.block < w.heap.size := R.fsz _ hFA
      refine (back_in (fun b => b = w.heap.size + 1 ∨ F b) ks A cap 9 (by omega) l (w.heap.size + 1) (.inl rfl) (.inr hFA) J' Jx hk hY W hbx ?_ hJ0).mono ?_
      · intro i hi
        have e1 := hW.block A.block (by omega)
        have := hc i hi
        have eb : (A.add i).block = A.block := by unfold Addr.add; split <;> rfl
        exact (World.cell?_of_block (by rw [eb]; exact e1.trans (hold _ hAlt))).trans this
      · rintro e W' ⟨hv, h | ⟨pre, h⟩⟩
        · exact ⟨hv, .inl ⟨_, rfl, h⟩⟩
        · exact ⟨hv, .inr ⟨pre, trivial, h⟩⟩
    · refine (back_in0 b cap 9 (by omega) l (w.heap.size + 1) (J' []) W hbx hJ0).mono ?_
      rintro e W' ⟨hv, h⟩
      exact ⟨hv, .inl ⟨_, rfl, h⟩⟩
  case kb =>
    intro W l o o' hl ho h1 h2 b hb
    refine World.putObj_heap_other ?_
    rcases hb with rfl | hb
    · omega
    · have := R.fsz _ hb; omega
  case own => rw [hs1]; exact TI.own R.gsz
  case h0 =>
    refine ⟨⟨h, n, β, V, F, h0, hrows _ _ _ h0, R.keep (hrows _ _ _ h0) kc1 (by omega) (fun b hb => hold b (Nat.lt_of_lt_of_le hb R.gsz)), (Ext.refl w.heap β V F).keep kc1 (by omega) hold, hwx, Nat.le_refl _, vb, fun κ h _ => h, fun κ b e he => ?_, hbox1, by omega⟩⟩
    have := (R.lt κ b e he).2
    omega
  case assign =>
    intro l x W K hK
    have e0 : ((#[8, 9] : Array Nat).zip (#[.int .i64 x.1, .int .u8 x.2] : Array Value)).foldl (fun t (p, v) => t.setIfInBounds p v) #[Value.pointer (some pc), Value.slice b ks.length cap, Value.pointer (some { block := w.heap.size, off := 0 }), undef, undef, undef, Value.slice b ks.length cap,
      Value.func (Fn.func 103) #[] #[Value.pointer (some { block := w.heap.size + 1, off := 0 })], undef, undef, undef, undef, undef] = #[Value.pointer (some pc), Value.slice b ks.length cap, Value.pointer (some { block := w.heap.size, off := 0 }), undef, undef, undef, Value.slice b ks.length cap,
      Value.func (Fn.func 103) #[] #[Value.pointer (some { block := w.heap.size + 1, off := 0 })], .int .i64 x.1, .int .u8 x.2, undef, undef, undef] := by simp
    simp only [e0]
    gi_wp2
    exact hK
  case body =>
    intro l pre x W hI hlen
    obtain ⟨h', n', β', V', F', k1, k2, k3, k4, k5, k6, k7, k8, k9, k10, k11⟩ := hI
    have hcell : W.cell? ⟨w.heap.size, 0, none⟩ = some (.pointer (some pc)) := by simp [World.cell?, k10]
    gi_wp2
    have hx : (pre.map (·.2)).length < ks.length := by simpa using hlen
    have rc' : RV E W.heap β' V' F' c (.pointer (some pc)) := rc.mono R.fsz k4
    have hcall := (hstep _ x.2 h' n' k1 hx).2 W β' V' F' #[.pointer (some pc), .int .u8 x.2] k3 k7 rfl (fun i hi => by
      match i with
      | 0 => exact rc'
      | 1 => exact .fz (.int _ _))
    refine ⟨trivial, CallsIn.inRound l ((callsIn_wide (n := 7)).2 (hcall.mono ?_))⟩
    rintro e W' ⟨v, β2, V2, F2, r, h2, n2, rfl, q1, q2, q3, q4, q5, q6, q7, q8⟩
    have nb : ∀ b, b < W.heap.size → (∀ κ e, β' κ ≠ some (b, e)) → W'.heap[b]? = W.heap[b]? := q3.out
    have ncell : ∀ b (o : Obj), W.heap[b]? = some o → o.isCells = false → W'.heap[b]? = some o := fun b o ho hoc => by
      rw [nb b (Array.getElem?_eq_some_iff.1 ho).1 (fun κ e he => by
        obtain ⟨C, T, hC⟩ := k3.cells k2 he
        rw [ho] at hC; cases hC; cases hoc)]
      exact ho
    gi_wp2
    refine ⟨⟨q3.size, ncell⟩, fun b hb => ?_, ⟨h2, n2, β2, V2, F2, ?_, hrows _ _ _ q8, q2, k4.trans q3, k5.trans q4, Nat.le_trans k6 q5, q6, fun κ a1 a2 => k8 κ (q7 κ a1 (by omega)) a2, fun κ b e he => ?_, ?_, Nat.le_trans k11 q3.size⟩⟩
    · rcases hb with rfl | hb
      · exact nb _ (by omega) (fun κ e he => (k9 κ _ e he).2 rfl)
      · exact q3.fr _ (k4.fmono _ hb) (by have := R.fsz _ hb; omega)
    · rw [List.map_append]; exact q8
    · rcases q3.img κ b e he with ⟨κ', e', h⟩ | h
      · exact k9 κ' b e' h
      · omega
    · rw [nb _ (by omega) (fun κ e he => (k9 κ _ e he).1 rfl)]; exact k10
  case done =>
    intro D xs W hD hS hI hdef
    subst hS
    simp only [Exit.inBlock]
    obtain ⟨h', n', β', V', F', k1, k2, k3, k4, k5, k6, k7, k8, k9, k10, k11⟩ := TI.own (J := J) (v0 := .pointer (some pc)) (n := n) R.gsz _ _ _ (some D) hI (grownBy_putObj' W D (.deferred none)) (fun r e => by cases e; exact ⟨by omega, _, hdef, rfl⟩)
    show LeavesInM _ _ _ _ _ _ _ _ _
    refine ⟨by simp, .inl ⟨D, _, rfl, run_takeDeferred hdef, ?_⟩⟩
    refine ⟨_, results_none rfl _ _ _, ?_⟩
    refine ⟨_, β', V', F', .undef, h', n', rfl, .fz (.undef _), k3, k4, k5, k6, k7, k8, ?_⟩
    rw [← back_snd]; exact k1
end Go.Proofs.YtablleokoifolaaGreatDoor

/- checker.takes as a contract with memory. -/
set_option linter.unusedVariables false
set_option linter.unusedSimpArgs false
namespace Go.Proofs.YtablleokoifolaaGreatDoor
open Go Go.RowKit

/-- A slice of kinds (bytes), frozen. -/
def u8s (l : List Int) : AV := .slv (l.map fun x => [.int .u8 x])

theorem fnOk_takes : FnOk E 84 := ⟨Tryz.f92, Tryz.func92, by kernel_rfl, by kernel_rfl⟩

theorem c_takes {h : Hp} {n κ i o : Nat} (ks : List Int) (hk : ks.length < 4611686018427387904) (J : List Int → Hp → Nat → Prop) (hrows : ∀ pre h n, J pre h n → AllRows h) (h0 : J [] h n)
    (hstep : ∀ pre x h n, J pre h n → pre.length < ks.length → ACallS E 40 [.ptr κ i o, .int .u8 x] h n (fun _ h' n' => J (pre ++ [x]) h' n'))
    (a : AV) (ha : a = u8s ks ∨ (a = .nils ∧ ks = [])) : ACallS E 84 [.ptr κ i o, a] h n (fun _ h' n' => J ks.reverse h' n') := by
  refine ⟨fnOk_takes, fun w β V F vs R vb hl hrv => ?_⟩
  have r0 := hrv 0 (by simp)
  have r1 := hrv 1 (by simp)
  obtain ⟨v, u, rfl⟩ : ∃ v u, vs = #[v, u] := by
    match vs, hl with
    | ⟨[v, u]⟩, _ => exact ⟨v, u, rfl⟩
  have e0 : (#[v, u] : Array Value).getD 0 Go.undef = v := rfl
  have e1 : (#[v, u] : Array Value).getD 1 Go.undef = u := rfl
  rw [e0] at r0
  rw [e1] at r1
  simp only [List.getD_cons_zero, List.getD_cons_succ] at r0 r1
  obtain ⟨pc, rfl⟩ := rv_ptr r0
  have key : ∃ (b : Option Addr) (cap : Nat), u = .slice b ks.length cap ∧ ((∃ A, b = some A ∧ F A.block ∧ ∀ i, i < ks.length → w.cell? (A.add i) = some (.int .u8 (ks.getD i 0))) ∨ ks = []) := by
    rcases ha with rfl | ⟨rfl, rfl⟩
    · unfold u8s at r1
      generalize hes : (ks.map fun x => [AV.int .u8 x]) = es at r1
      have hlen : es.length = ks.length := by rw [← hes]; simp
      cases r1 with
      | fz r =>
        cases r with
        | slv0 a cap =>
          have : ks = [] := List.length_eq_zero_iff.1 (by rw [← hlen]; rfl)
          subst this
          exact ⟨a, cap, rfl, .inr rfl⟩
        | slv _ b off cap esz C T fr hF hb hs hcap hlr hkc hc =>
          refine ⟨some ⟨b, off, none⟩, cap, by rw [hlen], .inl ⟨_, rfl, hF, fun i hi => ?_⟩⟩
          have hi' : i < es.length := by omega
          have eg : es.getD i [] = [AV.int .u8 (ks.getD i 0)] := by
            rw [← hes]; simp [List.getD_eq_getElem?_getD, hi]
          have hesz : esz = 1 := by
            have := hlr i hi'
            rw [eg] at this; simpa using this.symm
          subst hesz
          have hcc := hc i 0 hi' (by omega)
          rw [eg] at hcc
          simp only [List.getD_cons_zero, Nat.mul_one, Nat.add_zero] at hcc
          rw [addr_add]
          have hsz : off + i < C.size := by omega
          have hcell : w.cell? ⟨b, off + i, none⟩ = some (C.getD (off + i) Go.undef) := cell_at hb hsz
          rw [hcell]
          generalize C.getD (off + i) Go.undef = z at hcc
          cases hcc; rfl
    · cases r1 with
      | fz r => cases r; exact ⟨none, 0, rfl, .inr rfl⟩
  obtain ⟨b, cap, rfl, hb⟩ := key
  exact takes_in ks hk J hrows h0 hstep w β V F R vb pc r0 b cap hb

end Go.Proofs.YtablleokoifolaaGreatDoor

/- checker.takes as a contract with memory on laid objects. -/
set_option linter.unusedVariables false
set_option linter.unusedSimpArgs false
set_option maxRecDepth 100000
namespace Go.Proofs.YtablleokoifolaaGreatDoor
open Go

/-- A checker as taking needs it. -/
def okT (c : Checker) : Prop := 1 ≤ c.frames.length ∧ c.frames.length < 4611686018427387904 ∧ c.stack.length < 4611686018427387904 ∧
  0 ≤ (c.frames.getD (c.frames.length - 1) default).height ∧ (c.frames.getD (c.frames.length - 1) default).height ≤ (c.stack.length : Int)
instance (c : Checker) : Decidable (okT c) := by unfold okT; infer_instance

def takeT (c : Checker) (x : Int) : Checker := ((g_valid_checker_take c x).getD (0, c)).2

theorem gd_of {α : Type} {p : Prop} [Decidable p] {e : Option α} (h : p) : gd p e = e := by unfold gd; rw [if_pos h]

theorem okT_of {c c' : Checker} (ok : okT c) (hf : c'.frames = c.frames) (h1 : c'.stack.length ≤ c.stack.length) (h2 : (c.frames.getD (c.frames.length - 1) default).height ≤ (c'.stack.length : Int)) : okT c' := by
  obtain ⟨a, b, d, e, f⟩ := ok
  unfold okT
  rw [hf]
  exact ⟨a, b, by omega, e, h2⟩

theorem take_tot {c : Checker} (ok : okT c) (x : Int) : ∃ v, g_valid_checker_take c x = some (v, takeT c x) ∧ okT (takeT c x) ∧ (takeT c x).frames = c.frames := by
  have key : ∃ v c', g_valid_checker_take c x = some (v, c') ∧ okT c' ∧ c'.frames = c.frames := by
    have ok0 := ok
    obtain ⟨a, b, d, e, f⟩ := ok
    have w1 : wI ((c.frames.length : Int) - 1) = (c.frames.length : Int) - 1 := wI_small (by omega) (by omega)
    have t1 : ((c.frames.length : Int) - 1).toNat = c.frames.length - 1 := by omega
    unfold g_valid_checker_take
    rw [w1, t1, gd_of (by omega)]
    split
    · exact ⟨_, _, rfl, ok0, rfl⟩
    · split
      · split
        · exact ⟨_, _, rfl, okT_of ok0 rfl (Nat.le_refl _) f, rfl⟩
        · exact ⟨_, _, rfl, okT_of ok0 rfl (Nat.le_refl _) f, rfl⟩
      · rename_i hne
        have hne' : ¬ ((c.stack.length : Int) = (c.frames.getD (c.frames.length - 1) default).height) := by simpa using hne
        have w2 : wI ((c.stack.length : Int) - 1) = (c.stack.length : Int) - 1 := wI_small (by omega) (by omega)
        rw [w2, gd_of (by omega), gd_of (by omega)]
        have hl : (List.take ((c.stack.length : Int) - 1).toNat c.stack).length = c.stack.length - 1 := by rw [List.length_take]; omega
        split
        · simp only [Option.bind_some]
          split
          · exact ⟨_, _, rfl, okT_of ok0 rfl (by simp only [hl]; omega) (by simp only [hl]; omega), rfl⟩
          · exact ⟨_, _, rfl, okT_of ok0 rfl (by simp only [hl]; omega) (by simp only [hl]; omega), rfl⟩
        · simp only [Option.bind_some]
          split
          · exact ⟨_, _, rfl, okT_of ok0 rfl (by simp only [hl]; omega) (by simp only [hl]; omega), rfl⟩
          · exact ⟨_, _, rfl, okT_of ok0 rfl (by simp only [hl]; omega) (by simp only [hl]; omega), rfl⟩
  obtain ⟨v, c', h1, h2, h3⟩ := key
  have e : takeT c x = c' := by unfold takeT; rw [h1]; rfl
  rw [e]
  exact ⟨v, h1, h2, h3⟩

theorem foldT_ok {c : Checker} (ok : okT c) (l : List Int) : okT (l.foldl takeT c) := by
  induction l generalizing c with
  | nil => exact ok
  | cons x l ih => exact ih (take_tot ok x).choose_spec.2.1

def g_valid_checker_takes (c : Checker) (l : List Int) : Option Checker := gd (okT c ∧ l.length < 4611686018427387904) (some (l.reverse.foldl takeT c))

/-- Between two takings. -/
structure TkI (c : Checker) (ρ : Rho) (h : Hp) (n : Nat) (pre : List Int) (h' : Hp) (n' : Nat) : Prop where
  ex : ∃ ρ', (∀ k o, lkO (H_Checker (pre.foldl takeT c)) k = some o → RO ρ' h' k o) ∧
    (∀ k k' κ, (lkO (H_Checker (pre.foldl takeT c)) k).isSome = true → (lkO (H_Checker (pre.foldl takeT c)) k').isSome = true → ρ' k = some κ → ρ' k' = some κ → k = k') ∧
    (∀ k κ, (lkO (H_Checker (pre.foldl takeT c)) k).isSome = true → ρ' k = some κ → κ < n') ∧
    (∀ k κ, (lkO (H_Checker (pre.foldl takeT c)) k).isSome = true → ρ' k = some κ → (∃ k0, (lkO (H_Checker c) k0).isSome = true ∧ ρ k0 = some κ) ∨ n ≤ κ) ∧ ρ' 1000 = ρ 1000
  fr : ∀ κ, κ < n → (∀ k, (lkO (H_Checker c) k).isSome = true → ρ k ≠ some κ) → h' κ = h κ
  le : n ≤ n'
  rows : AllR h'

theorem c_valid_checker_takes (p0 : Checker) (p1 : List Int) (r : Checker) (H : g_valid_checker_takes p0 p1 = some r) :
    CM E 84 [.p 1000 0, .d (sV (eI .u8) p1)] (H_Checker p0) [] [1000] (fun a b => a = .undef ∧ b = H_Checker r) := by
  obtain ⟨⟨ok, hlen⟩, H⟩ := gd_some H
  obtain rfl := Option.some.inj H
  intro ρ h n al hO hinj hlt hr hrows
  obtain ⟨a0, a1, rfl⟩ : ∃ a0 a1, al = [a0, a1] := by
    have hl : al.length = 2 := hr.1
    match al, hl with
    | [a, b], _ => exact ⟨a, b, rfl⟩
  have r0 := hr.2 0 (by simp)
  have r1 := hr.2 1 (by simp)
  simp only [List.getD_cons_zero, List.getD_cons_succ] at r0 r1
  obtain ⟨κ, hκ, rfl⟩ : ∃ κ, ρ 1000 = some κ ∧ a0 = .ptr κ 0 0 := by
    cases r0 with
    | p k o κ h => exact ⟨κ, h, rfl⟩
  have ha : a1 = u8s p1 ∨ (a1 = .nils ∧ p1 = []) := by
    have r1 := rl_d r1
    generalize hv : sV (eI .u8) p1 = v at r1
    cases r1 with
    | c v hh =>
      left
      rw [← hv]
      simp only [sV, toA, u8s, AV.slv.injEq]
      apply List.ext_getElem
      · simp
      · intro i h1 h2
        have hi : i < p1.length := by simpa using h2
        simp [fl, eI, toAL, toA, List.getD_eq_getElem?_getD, hi]
    | sv0 f =>
      right
      unfold sV at hv
      injection hv with e1 e2
      exact ⟨rfl, List.length_eq_zero_iff.1 e1⟩
    | nils => cases hv
    | func => cases hv
    | iface => cases hv
    | agg => cases hv
    | tup => cases hv
  refine (c_takes p1 hlen (TkI p0 ρ h n) (fun pre h n j => j.rows) ⟨⟨ρ, hO, hinj, hlt, fun k κ a b => .inl ⟨k, a, b⟩, rfl⟩, fun _ _ _ => rfl, Nat.le_refl _, hrows⟩ ?_ a1 ha).mono ?_
  · intro pre x h1 n1 hJ _
    obtain ⟨⟨ρ1, j1, j2, j3, j4, j5⟩, j6, j7, j8⟩ := hJ
    obtain ⟨v, t1, t2, t3⟩ := take_tot (foldT_ok ok pre) x
    have hc := c_valid_checker_take _ _ _ t1 ρ1 h1 n1 [.ptr κ 0 0, .int .u8 x] j1 j2 j3 ⟨rfl, fun i hi => by
      match i with
      | 0 => exact .p _ _ _ (j5.trans hκ)
      | 1 => exact .d _ _ (.c _ rfl)⟩ j8
    refine hc.mono ?_
    rintro r h2 n2 ⟨⟨lv, H', ρ2, ⟨e1, e2⟩, q1, q2, q3, q4, q5, q6, q7, q8⟩, q9, q10, q11⟩
    subst e2
    have ef : (pre ++ [x]).foldl takeT p0 = takeT (pre.foldl takeT p0) x := by rw [List.foldl_append]; rfl
    refine ⟨⟨ρ2, ?_, ?_, ?_, ?_, (q8 1000 (by simp)).trans j5⟩, fun κ' hκ' hno => ?_, Nat.le_trans j7 q10, q11⟩
    · rw [ef]; exact q4
    · rw [ef]; exact q5
    · rw [ef]; exact q6
    · rw [ef]
      intro k κ' hk he
      rcases q7 k κ' hk he with ⟨k0, i1, i2⟩ | i
      · exact j4 k0 κ' i1 i2
      · exact .inr (by omega)
    · rw [← j6 κ' hκ' hno]
      refine q9 κ' (by omega) fun k hk he => ?_
      rcases j4 k κ' hk he with ⟨k0, i1, i2⟩ | i
      · exact hno k0 i1 i2
      · omega
  · rintro r h2 n2 ⟨⟨ρ2, q4, q5, q6, q7, q8⟩, q9, q10, q11⟩
    exact ⟨⟨.undef, _, ρ2, ⟨rfl, rfl⟩, rfl, rfl, .undef _, q4, q5, q6, q7, fun k hk => by
      obtain rfl : k = 1000 := by simpa using hk
      exact q8⟩, q9, q10, q11⟩
end Go.Proofs.YtablleokoifolaaGreatDoor

/- Plain functions and their contracts. Written by a program of this claim set (g2.py). -/
set_option linter.unusedVariables false
set_option maxRecDepth 100000
set_option maxHeartbeats 4000000
namespace Go.Proofs.YtablleokoifolaaGreatDoor
open Go

/- (*mandrel/valid.checker).leave -/
def g_valid_checker_leave (p0 : Checker) : Option (Checker) := gd (0 ≤ (wI ((p0.frames.length : Int) - 1)) ∧ (wI ((p0.frames.length : Int) - 1)) < (p0.frames.length : Int)) (gd (0 ≤ (0 : Int) ∧ 0 ≤ ((p0.frames.getD ((wI ((p0.frames.length : Int) - 1)).toNat) default).height) ∧ ((p0.frames.getD ((wI ((p0.frames.length : Int) - 1)).toNat) default).height) ≤ (p0.stack.length : Int)) (some (Checker.mk p0.m p0.t p0.locals (List.take (((p0.frames.getD ((wI ((p0.frames.length : Int) - 1)).toNat) default).height).toNat) p0.stack) (List.set p0.frames ((wI ((p0.frames.length : Int) - 1)).toNat) (Frame.mk (((p0.frames.getD ((wI ((p0.frames.length : Int) - 1)).toNat) default)).height) true (((p0.frames.getD ((wI ((p0.frames.length : Int) - 1)).toNat) default)).dead))) p0.labels p0.most p0.bad)))

theorem c_valid_checker_leave (p0 : Checker) (r : Checker) (H : g_valid_checker_leave p0 = some r) : CM E 69 [.p 1000 0] (H_Checker p0) [] [1000] (fun a b => a = (.tup [] : LV) ∧ b = H_Checker r) := by
  refine cs_of (A := F_valid_checker_leave) fn_valid_checker_leave fun fr => ?_
  unfold g_valid_checker_leave at H
  refine AW2.seq ?_
  obtain ⟨h1, H⟩ := gd_some H
  refine AW2.rg [] [0, 2] [] [.k 1000, .k 1001, .k 1002, .k 1003] ⟨[(0, .p 1000 0), (2, .ep 1002 ((wI ((p0.frames.length : Int) - 1)).toNat) 0)], H_Checker p0⟩ (And.intro (And.intro h1 (And.intro (ixN h1) True.intro)) True.intro) (by kernel_rfl) ?_
  refine AW2.seq ?_
  obtain ⟨h2, H⟩ := gd_some H
  refine AW2.rg [.s true (List.take (((p0.frames.getD ((wI ((p0.frames.length : Int) - 1)).toNat) default).height).toNat) p0.stack).length (fl (eI .u8) (List.take (((p0.frames.getD ((wI ((p0.frames.length : Int) - 1)).toNat) default).height).toNat) p0.stack))] [2] [] [.k 1000, .sl 1001 (List.take (((p0.frames.getD ((wI ((p0.frames.length : Int) - 1)).toNat) default).height).toNat) p0.stack).length (fl (eI .u8) (List.take (((p0.frames.getD ((wI ((p0.frames.length : Int) - 1)).toNat) default).height).toNat) p0.stack)), .k 1002, .k 1003] ⟨[(2, .ep 1002 ((wI ((p0.frames.length : Int) - 1)).toNat) 0)], H_Checker (Checker.mk p0.m p0.t p0.locals (List.take (((p0.frames.getD ((wI ((p0.frames.length : Int) - 1)).toNat) default).height).toNat) p0.stack) p0.frames p0.labels p0.most p0.bad)⟩ (And.intro (And.intro (ixN h1) (And.intro h2 (And.intro (takeN h2) True.intro))) (And.intro (takeL p0.stack (((p0.frames.getD ((wI ((p0.frames.length : Int) - 1)).toNat) default).height).toNat)) (And.intro (takeF (eI .u8) p0.stack (((p0.frames.getD ((wI ((p0.frames.length : Int) - 1)).toNat) default).height).toNat)) True.intro))) (by kernel_rfl) ?_
  refine AW2.rg [.s true 0 (fl eFrame (List.set p0.frames ((wI ((p0.frames.length : Int) - 1)).toNat) (Frame.mk (((p0.frames.getD ((wI ((p0.frames.length : Int) - 1)).toNat) default)).height) true (((p0.frames.getD ((wI ((p0.frames.length : Int) - 1)).toNat) default)).dead))))] [] [] [.st 1000 [(12, .ls 1002 0 (List.set p0.frames ((wI ((p0.frames.length : Int) - 1)).toNat) (Frame.mk (((p0.frames.getD ((wI ((p0.frames.length : Int) - 1)).toNat) default)).height) true (((p0.frames.getD ((wI ((p0.frames.length : Int) - 1)).toNat) default)).dead))).length)], .k 1001, .sl 1002 (List.set p0.frames ((wI ((p0.frames.length : Int) - 1)).toNat) (Frame.mk (((p0.frames.getD ((wI ((p0.frames.length : Int) - 1)).toNat) default)).height) true (((p0.frames.getD ((wI ((p0.frames.length : Int) - 1)).toNat) default)).dead))).length (fl eFrame (List.set p0.frames ((wI ((p0.frames.length : Int) - 1)).toNat) (Frame.mk (((p0.frames.getD ((wI ((p0.frames.length : Int) - 1)).toNat) default)).height) true (((p0.frames.getD ((wI ((p0.frames.length : Int) - 1)).toNat) default)).dead)))), .k 1003] ⟨[], H_Checker (Checker.mk p0.m p0.t p0.locals (List.take (((p0.frames.getD ((wI ((p0.frames.length : Int) - 1)).toNat) default).height).toNat) p0.stack) (List.set p0.frames ((wI ((p0.frames.length : Int) - 1)).toNat) (Frame.mk (((p0.frames.getD ((wI ((p0.frames.length : Int) - 1)).toNat) default)).height) true (((p0.frames.getD ((wI ((p0.frames.length : Int) - 1)).toNat) default)).dead))) p0.labels p0.most p0.bad)⟩ (And.intro (And.intro (ixN h1) (And.intro (setF eFrame p0.frames ((wI ((p0.frames.length : Int) - 1)).toNat) (Frame.mk (((p0.frames.getD ((wI ((p0.frames.length : Int) - 1)).toNat) default)).height) true (((p0.frames.getD ((wI ((p0.frames.length : Int) - 1)).toNat) default)).dead)) _ rfl) True.intro)) (And.intro (setEq p0.frames ((wI ((p0.frames.length : Int) - 1)).toNat) (Frame.mk (((p0.frames.getD ((wI ((p0.frames.length : Int) - 1)).toNat) default)).height) true (((p0.frames.getD ((wI ((p0.frames.length : Int) - 1)).toNat) default)).dead))) (And.intro (setLe p0.frames ((wI ((p0.frames.length : Int) - 1)).toNat) (Frame.mk (((p0.frames.getD ((wI ((p0.frames.length : Int) - 1)).toNat) default)).height) true (((p0.frames.getD ((wI ((p0.frames.length : Int) - 1)).toNat) default)).dead))) (And.intro (refF (fl eFrame (List.set p0.frames ((wI ((p0.frames.length : Int) - 1)).toNat) (Frame.mk (((p0.frames.getD ((wI ((p0.frames.length : Int) - 1)).toNat) default)).height) true (((p0.frames.getD ((wI ((p0.frames.length : Int) - 1)).toNat) default)).dead)))) (List.set p0.frames ((wI ((p0.frames.length : Int) - 1)).toNat) (Frame.mk (((p0.frames.getD ((wI ((p0.frames.length : Int) - 1)).toNat) default)).height) true (((p0.frames.getD ((wI ((p0.frames.length : Int) - 1)).toNat) default)).dead))).length) True.intro)))) (by kernel_rfl) ?_
  have H := Option.some.inj H
  subst H
  exact retS_mkn3 [] [.k 1000, .k 1001, .k 1002, .k 1003] True.intro (by kernel_rfl) (by kernel_rfl)

/- (*mandrel/valid.checker).lay -/
def g_valid_checker_lay (p0 : Checker) (p1 : Int) : Option (Checker) := (if (p1 == (0 : Int)) = true then some p0 else gd ((p0.stack.length + 1) * 1 ≤ 140737488355328) (gd (0 ≤ (wI ((p0.frames.length : Int) - 1)) ∧ (wI ((p0.frames.length : Int) - 1)) < (p0.frames.length : Int)) ((if ((!((p0.frames.getD ((wI ((p0.frames.length : Int) - 1)).toNat) default).away)) && (!((p0.frames.getD ((wI ((p0.frames.length : Int) - 1)).toNat) default).dead))) = true then some (Checker.mk p0.m p0.t p0.locals (p0.stack ++ ([p1] : List Int)) p0.frames p0.labels (mxI p0.most ((p0.stack ++ ([p1] : List Int)).length : Int)) p0.bad) else some (Checker.mk p0.m p0.t p0.locals (p0.stack ++ ([p1] : List Int)) p0.frames p0.labels p0.most p0.bad)))))

theorem c_valid_checker_lay (p0 : Checker) (p1 : Int) (r : Checker) (H : g_valid_checker_lay p0 p1 = some r) : CM E 71 [.p 1000 0, .d (.int .u8 p1)] (H_Checker p0) [] [1000] (fun a b => a = (.tup [] : LV) ∧ b = H_Checker r) := by
  refine cs_of (A := F_valid_checker_lay) fn_valid_checker_lay fun fr => ?_
  unfold g_valid_checker_lay at H
  refine AW2.seq ?_
  refine AW2.seq ?_
  refine AW2.rg [] [0, 1, 6] [] [.k 1000, .k 1001, .k 1002, .k 1003] ⟨[(0, .p 1000 0), (1, .d (.int .u8 p1)), (6, .d (.bool (p1 == (0 : Int))))], H_Checker p0⟩ (And.intro True.intro True.intro) (by kernel_rfl) ?_
  refine AW2.cond (b := (p1 == (0 : Int))) rfl (fun hc => ?_) (fun hc => ?_)
  · replace H := ite_t H hc
    refine AW2.ret ?_
    have H := Option.some.inj H
    subst H
    exact retS_mk3 [] [.k 1000, .k 1001, .k 1002, .k 1003] True.intro (by kernel_rfl) (by kernel_rfl)
  · replace H := ite_f H hc
    refine AW2.skip ?_
    refine AW2.seq ?_
    obtain ⟨h1, H⟩ := gd_some H
    refine AW2.rg [.sb ([p1] : List Int).length (fl (eI .u8) ([p1] : List Int)), .s true (p0.stack ++ ([p1] : List Int)).length (fl (eI .u8) (p0.stack ++ ([p1] : List Int)))] [0] [] [.k 1000, .k 1001, .k 1002, .k 1003] ⟨[(0, .p 1000 0)], H_Checker (Checker.mk p0.m p0.t p0.locals (p0.stack ++ ([p1] : List Int)) p0.frames p0.labels p0.most p0.bad)⟩ (And.intro (And.intro (litF (eI .u8) ([p1] : List Int)) (And.intro (Nat.le_refl p0.stack.length) (And.intro h1 (And.intro (app1 (eI .u8) p0.stack p1 (fl (eI .u8) ([p1] : List Int)) rfl) True.intro)))) True.intro) (by kernel_rfl) ?_
    refine AW2.seq ?_
    obtain ⟨h2, H⟩ := gd_some H
    refine AW2.rg [.k 4] [0, 4] [] [.k 4, .k 1000, .k 1001, .k 1002, .k 1003] ⟨[(0, .p 1000 0), (4, .p 4 0)], [(4, .st false (eD (eFrame (p0.frames.getD ((wI ((p0.frames.length : Int) - 1)).toNat) default))))] ++ H_Checker (Checker.mk p0.m p0.t p0.locals (p0.stack ++ ([p1] : List Int)) p0.frames p0.labels p0.most p0.bad)⟩ (And.intro (And.intro h2 (And.intro (ixN h2) (And.intro (ixN h2) True.intro))) True.intro) (by kernel_rfl) ?_
    refine AW2.seq ?_
    refine AW2.reg [] rfl (YW.to ⟨[(0, .p 1000 0), (36, .d (.bool ((!((p0.frames.getD ((wI ((p0.frames.length : Int) - 1)).toNat) default).away)) && (!((p0.frames.getD ((wI ((p0.frames.length : Int) - 1)).toNat) default).dead)))))], H_Checker (Checker.mk p0.m p0.t p0.locals (p0.stack ++ ([p1] : List Int)) p0.frames p0.labels p0.most p0.bad)⟩ ?qh3 ?h3)
    case h3 =>
      rcases bT (!((p0.frames.getD ((wI ((p0.frames.length : Int) - 1)).toNat) default).away)) with hc1 | hc1
      · exact YW.fin [(32, true)] [] [0, 36] [(36, .d (.bool ((!((p0.frames.getD ((wI ((p0.frames.length : Int) - 1)).toNat) default).away)) && (!((p0.frames.getD ((wI ((p0.frames.length : Int) - 1)).toNat) default).dead)))))] [.k 1000, .k 1001, .k 1002, .k 1003] _ (And.intro (And.intro hc1 (And.intro hc1 (And.intro hc1 (And.intro hc1 True.intro)))) (And.intro (ovB (Eq.trans (andT (b := (!((p0.frames.getD ((wI ((p0.frames.length : Int) - 1)).toNat) default).dead))) hc1) (Eq.refl (!((p0.frames.getD ((wI ((p0.frames.length : Int) - 1)).toNat) default).dead))))) True.intro)) (by kernel_rfl) rfl
      · exact YW.fin [(32, false)] [] [0, 36] [(36, .d (.bool ((!((p0.frames.getD ((wI ((p0.frames.length : Int) - 1)).toNat) default).away)) && (!((p0.frames.getD ((wI ((p0.frames.length : Int) - 1)).toNat) default).dead)))))] [.k 1000, .k 1001, .k 1002, .k 1003] _ (And.intro (And.intro hc1 (And.intro hc1 (And.intro hc1 (And.intro hc1 True.intro)))) (And.intro (ovB (andF (b := (!((p0.frames.getD ((wI ((p0.frames.length : Int) - 1)).toNat) default).dead))) hc1)) True.intro)) (by kernel_rfl) rfl
    refine AW2.cond (b := ((!((p0.frames.getD ((wI ((p0.frames.length : Int) - 1)).toNat) default).away)) && (!((p0.frames.getD ((wI ((p0.frames.length : Int) - 1)).toNat) default).dead)))) rfl (fun hc => ?_) (fun hc => ?_)
    · replace H := ite_t H hc
      refine AW2.rg [] [] [] [.k 1000, .k 1001, .k 1002, .k 1003] ⟨[], H_Checker (Checker.mk p0.m p0.t p0.locals (p0.stack ++ ([p1] : List Int)) p0.frames p0.labels (mxI p0.most ((p0.stack ++ ([p1] : List Int)).length : Int)) p0.bad)⟩ (And.intro True.intro True.intro) (by kernel_rfl) ?_
      have H := Option.some.inj H
      subst H
      exact retS_mkn3 [] [.k 1000, .k 1001, .k 1002, .k 1003] True.intro (by kernel_rfl) (by kernel_rfl)
    · replace H := ite_f H hc
      refine AW2.skip ?_
      have H := Option.some.inj H
      subst H
      exact retS_mkn3 [] [.k 1000, .k 1001, .k 1002, .k 1003] True.intro (by kernel_rfl) (by kernel_rfl)

/- (*mandrel/valid.checker).label -/
def g_valid_checker_label (p0 : Checker) (p1 : Int) : Option (Int × Checker) := (if ((decide (p1 < (0 : Int))) || (decide (p1 ≥ (p0.labels.length : Int)))) = true then some (0, (Checker.mk p0.m p0.t p0.locals p0.stack p0.frames p0.labels p0.most true)) else gd (0 ≤ (wI ((wI ((p0.labels.length : Int) - 1)) - p1)) ∧ (wI ((wI ((p0.labels.length : Int) - 1)) - p1)) < (p0.labels.length : Int)) (some (p0.labels.getD ((wI ((wI ((p0.labels.length : Int) - 1)) - p1)).toNat) default, p0)))

theorem c_valid_checker_label (p0 : Checker) (p1 : Int) (r : Int × Checker) (H : g_valid_checker_label p0 p1 = some r) : CM E 72 [.p 1000 0, .d (.int .i64 p1)] (H_Checker p0) [] [1000] (fun a b => a = (.d (.int .u8 r.1) : LV) ∧ b = H_Checker r.2) := by
  refine cs_of (A := F_valid_checker_label) fn_valid_checker_label fun fr => ?_
  unfold g_valid_checker_label at H
  refine AW2.seq ?_
  refine AW2.rg [] [0, 1] [] [.k 1000, .k 1001, .k 1002, .k 1003] ⟨[(0, .p 1000 0), (1, .d (.int .i64 p1))], H_Checker p0⟩ (And.intro True.intro True.intro) (by kernel_rfl) ?_
  refine AW2.seq ?_
  refine AW2.seq ?_
  refine AW2.reg [] rfl (YW.to ⟨[(0, .p 1000 0), (1, .d (.int .i64 p1)), (15, .d (.bool ((decide (p1 < (0 : Int))) || (decide (p1 ≥ (p0.labels.length : Int))))))], H_Checker p0⟩ ?qh2 ?h2)
  case h2 =>
    rcases bT (decide (p1 < (0 : Int))) with hc1 | hc1
    · exact YW.fin [(7, true)] [] [0, 1, 15] [(15, .d (.bool ((decide (p1 < (0 : Int))) || (decide (p1 ≥ (p0.labels.length : Int))))))] [.k 1000, .k 1001, .k 1002, .k 1003] _ (And.intro (And.intro hc1 (And.intro hc1 (And.intro hc1 (And.intro hc1 (And.intro hc1 (And.intro hc1 (And.intro hc1 (And.intro hc1 True.intro)))))))) (And.intro (ovB (orT (b := (decide (p1 ≥ (p0.labels.length : Int)))) hc1)) True.intro)) (by kernel_rfl) rfl
    · exact YW.fin [(7, false)] [] [0, 1, 15] [(15, .d (.bool ((decide (p1 < (0 : Int))) || (decide (p1 ≥ (p0.labels.length : Int))))))] [.k 1000, .k 1001, .k 1002, .k 1003] _ (And.intro (And.intro hc1 (And.intro hc1 (And.intro hc1 (And.intro hc1 (And.intro hc1 (And.intro hc1 (And.intro hc1 (And.intro hc1 True.intro)))))))) (And.intro (ovB (Eq.trans (orF (b := (decide (p1 ≥ (p0.labels.length : Int)))) hc1) (Eq.refl (decide (p1 ≥ (p0.labels.length : Int)))))) True.intro)) (by kernel_rfl) rfl
  refine AW2.cond (b := ((decide (p1 < (0 : Int))) || (decide (p1 ≥ (p0.labels.length : Int))))) rfl (fun hc => ?_) (fun hc => ?_)
  · replace H := ite_t H hc
    refine AW2.seq ?_
    refine AW2.rg [] [] [] [.k 1000, .k 1001, .k 1002, .k 1003] ⟨[], H_Checker (Checker.mk p0.m p0.t p0.locals p0.stack p0.frames p0.labels p0.most true)⟩ (And.intro True.intro True.intro) (by kernel_rfl) ?_
    refine AW2.seq ?_
    refine AW2.rg [] [4] [] [.k 1000, .k 1001, .k 1002, .k 1003] ⟨[(4, .d (.int .u8 0))], H_Checker (Checker.mk p0.m p0.t p0.locals p0.stack p0.frames p0.labels p0.most true)⟩ (And.intro True.intro True.intro) (by kernel_rfl) ?_
    refine AW2.ret ?_
    have H := Option.some.inj H
    subst H
    exact retS_mk3 [] [.k 1000, .k 1001, .k 1002, .k 1003] True.intro (by kernel_rfl) (by kernel_rfl)
  · replace H := ite_f H hc
    refine AW2.skip ?_
    refine AW2.seq ?_
    obtain ⟨h1, H⟩ := gd_some H
    refine AW2.rg [] [4] [] [.k 1000, .k 1001, .k 1002, .k 1003] ⟨[(4, .d (.int .u8 (p0.labels.getD ((wI ((wI ((p0.labels.length : Int) - 1)) - p1)).toNat) default)))], H_Checker p0⟩ (And.intro (And.intro h1 (And.intro (ixN h1) (And.intro (ixN h1) True.intro))) True.intro) (by kernel_rfl) ?_
    refine AW2.ret ?_
    have H := Option.some.inj H
    subst H
    exact retS_mk3 [] [.k 1000, .k 1001, .k 1002, .k 1003] True.intro (by kernel_rfl) (by kernel_rfl)

/- (*mandrel/valid.checker).table -/
def g_valid_checker_table_l0 : Nat → Instr → (Int × Checker) → Checker → Int → Option (Checker)
  | 0, _, _, _, _ => none
  | k+1, p1, x4, a13, a14 => (if (decide (a14 < (p1.labels.length : Int))) = true then (gd (0 ≤ a14 ∧ a14 < (p1.labels.length : Int)) (((g_valid_checker_label a13 (wI (p1.labels.getD a14.toNat default))).bind fun x17 => (if (x17.1 != x4.1) = true then some (Checker.mk x17.2.m x17.2.t x17.2.locals x17.2.stack x17.2.frames x17.2.labels x17.2.most true) else some x17.2)))).bind (fun j15 => g_valid_checker_table_l0 k p1 x4 j15 (wI (a14 + 1))) else some a13)

def g_valid_checker_table (K : Nat) (p0 : Checker) (p1 : Instr) : Option (Checker) := ((g_valid_checker_take p0 127).bind fun x1 => (if (((p1.labels.length : Int) == (0 : Int)) || (decide ((p1.labels.length : Int) > (257 : Int)))) = true then some (Checker.mk x1.2.m x1.2.t x1.2.locals x1.2.stack x1.2.frames x1.2.labels x1.2.most true) else gd (0 ≤ (wI ((p1.labels.length : Int) - 1)) ∧ (wI ((p1.labels.length : Int) - 1)) < (p1.labels.length : Int)) (((g_valid_checker_label x1.2 (wI (p1.labels.getD (wI ((p1.labels.length : Int) - 1)).toNat default))).bind fun x4 => (g_valid_checker_table_l0 K p1 x4 x4.2 0).bind (fun j6 => ((g_valid_checker_take j6 x4.1).bind fun x7 => ((g_valid_checker_leave x7.2).bind fun x9 => some x9)))))))

theorem c_valid_checker_table (K : Nat) (p0 : Checker) (p1 : Instr) (r : Checker) (H : g_valid_checker_table K p0 p1 = some r) : CM E 73 [.p 1000 0, .agg (eD (eInstr p1))] (H_Checker p0) [] [1000] (fun a b => a = (.tup [] : LV) ∧ b = H_Checker r) := by
  refine cs_of (A := F_valid_checker_table) fn_valid_checker_table fun fr => ?_
  unfold g_valid_checker_table at H
  refine AW2.seq ?_
  refine AW2.rg [.k 3] [0, 3] [] [.k 3, .k 1000, .k 1001, .k 1002, .k 1003] ⟨[(0, .p 1000 0), (3, .p 3 0)], [(3, .st false (eD (eInstr p1)))] ++ H_Checker p0⟩ (And.intro True.intro True.intro) (by kernel_rfl) ?_
  refine AW2.seq ?_
  obtain ⟨x1, hx2, H⟩ := bind_some H
  refine AW2.rg [.c [1000, 1001, 1002, 1003] [] [1000] (.d (.int .u8 x1.1)) (H_Checker x1.2)] [0, 3] [] [.k 3, .k 1000, .k 1001, .k 1002, .k 1003] ⟨[(0, .p 1000 0), (3, .p 3 0)], [(3, .st false (eD (eInstr p1)))] ++ H_Checker x1.2⟩ (And.intro (And.intro (c_valid_checker_take p0 127 x1 hx2) True.intro) True.intro) (by kernel_rfl) ?_
  refine AW2.seq ?_
  refine AW2.seq ?_
  refine AW2.reg [] rfl (YW.to ⟨[(0, .p 1000 0), (3, .p 3 0), (18, .d (.bool (((p1.labels.length : Int) == (0 : Int)) || (decide ((p1.labels.length : Int) > (257 : Int))))))], [(3, .st false (eD (eInstr p1)))] ++ H_Checker x1.2⟩ ?qh23 ?h23)
  case h23 =>
    rcases bT ((p1.labels.length : Int) == (0 : Int)) with hc1 | hc1
    · exact YW.fin [(13, true)] [] [0, 3, 18] [(18, .d (.bool (((p1.labels.length : Int) == (0 : Int)) || (decide ((p1.labels.length : Int) > (257 : Int))))))] [.k 3, .k 1000, .k 1001, .k 1002, .k 1003] _ (And.intro (And.intro hc1 (And.intro hc1 (And.intro hc1 (And.intro hc1 (And.intro hc1 True.intro))))) (And.intro (ovB (orT (b := (decide ((p1.labels.length : Int) > (257 : Int)))) hc1)) True.intro)) (by kernel_rfl) rfl
    · exact YW.fin [(13, false)] [] [0, 3, 18] [(18, .d (.bool (((p1.labels.length : Int) == (0 : Int)) || (decide ((p1.labels.length : Int) > (257 : Int))))))] [.k 3, .k 1000, .k 1001, .k 1002, .k 1003] _ (And.intro (And.intro hc1 (And.intro hc1 (And.intro hc1 (And.intro hc1 (And.intro hc1 True.intro))))) (And.intro (ovB (Eq.trans (orF (b := (decide ((p1.labels.length : Int) > (257 : Int)))) hc1) (Eq.refl (decide ((p1.labels.length : Int) > (257 : Int)))))) True.intro)) (by kernel_rfl) rfl
  refine AW2.cond (b := (((p1.labels.length : Int) == (0 : Int)) || (decide ((p1.labels.length : Int) > (257 : Int))))) rfl (fun hc => ?_) (fun hc => ?_)
  · replace H := ite_t H hc
    refine AW2.seq ?_
    refine AW2.rg [] [] [] [.k 1000, .k 1001, .k 1002, .k 1003] ⟨[], H_Checker (Checker.mk x1.2.m x1.2.t x1.2.locals x1.2.stack x1.2.frames x1.2.labels x1.2.most true)⟩ (And.intro True.intro True.intro) (by kernel_rfl) ?_
    refine AW2.ret ?_
    have H := Option.some.inj H
    subst H
    exact retS_mk3 [] [.k 1000, .k 1001, .k 1002, .k 1003] True.intro (by kernel_rfl) (by kernel_rfl)
  · replace H := ite_f H hc
    refine AW2.skip ?_
    refine AW2.seq ?_
    obtain ⟨h3, H⟩ := gd_some H
    obtain ⟨x4, hx5, H⟩ := bind_some H
    refine AW2.rg [.c [1000, 1001, 1002, 1003] [] [1000] (.d (.int .u8 x4.1)) (H_Checker x4.2)] [0, 3, 4] [] [.k 3, .k 1000, .k 1001, .k 1002, .k 1003] ⟨[(0, .p 1000 0), (3, .p 3 0), (4, .d (.int .u8 x4.1))], [(3, .st false (eD (eInstr p1)))] ++ H_Checker x4.2⟩ (And.intro (And.intro h3 (And.intro (c_valid_checker_label x1.2 (wI (p1.labels.getD (wI ((p1.labels.length : Int) - 1)).toNat default)) x4 hx5) True.intro)) True.intro) (by kernel_rfl) ?_
    obtain ⟨j6, H22, H⟩ := bind_some H
    refine AW2.mid ⟨[(0, .p 1000 0), (4, .d (.int .u8 x4.1))], H_Checker j6⟩ ?_ ?_
    · refine AW2.seq ?_
      obtain ⟨x7, hx8, H⟩ := bind_some H
      refine AW2.rg [.c [1000, 1001, 1002, 1003] [] [1000] (.d (.int .u8 x7.1)) (H_Checker x7.2)] [0] [] [.k 1000, .k 1001, .k 1002, .k 1003] ⟨[(0, .p 1000 0)], H_Checker x7.2⟩ (And.intro (And.intro (c_valid_checker_take j6 x4.1 x7 hx8) True.intro) True.intro) (by kernel_rfl) ?_
      obtain ⟨x9, hx10, H⟩ := bind_some H
      refine AW2.rg [.c [1000, 1001, 1002, 1003] [] [1000] (.tup []) (H_Checker x9)] [] [] [.k 1000, .k 1001, .k 1002, .k 1003] ⟨[], H_Checker x9⟩ (And.intro (And.intro (c_valid_checker_leave x7.2 x9 hx10) True.intro) True.intro) (by kernel_rfl) ?_
      have H := Option.some.inj H
      subst H
      exact retS_mkn3 [] [.k 1000, .k 1001, .k 1002, .k 1003] True.intro (by kernel_rfl) (by kernel_rfl)
    · have H := H22
      refine AW2.seq ?_
      refine AW2.rg [] [0, 4, 34, 35, 36] [] [.k 1000, .k 1001, .k 1002, .k 1003] ⟨[(0, .p 1000 0), (4, .d (.int .u8 x4.1)), (34, .d (sV (eI .u32) p1.labels)), (35, .d (.int .i64 (p1.labels.length : Int))), (36, .d (.int .i64 0))], H_Checker x4.2⟩ (And.intro True.intro True.intro) (by kernel_rfl) ?_
      refine AW2.block ?_
      refine AW2.lp (σ := Checker × Int) (fun v => ⟨[(0, .p 1000 0), (4, .d (.int .u8 x4.1)), (34, .d (sV (eI .u32) p1.labels)), (35, .d (.int .i64 (p1.labels.length : Int))), (36, .d (.int .i64 v.2))], H_Checker v.1⟩) (fun k v => g_valid_checker_table_l0 k p1 x4 v.1 v.2 = some j6) ?_ K (x4.2, 0) H
      rintro k ⟨a13, a14⟩ H
      dsimp only at H
      cases k with
      | zero => cases H
      | succ k =>
      unfold g_valid_checker_table_l0 at H
      refine AW2.seq ?_
      refine AW2.rg [] [0, 4, 34, 35, 36, 37] [] [.k 1000, .k 1001, .k 1002, .k 1003] ⟨[(0, .p 1000 0), (4, .d (.int .u8 x4.1)), (34, .d (sV (eI .u32) p1.labels)), (35, .d (.int .i64 (p1.labels.length : Int))), (36, .d (.int .i64 a14)), (37, .d (.bool (decide (a14 < (p1.labels.length : Int)))))], H_Checker a13⟩ (And.intro True.intro True.intro) (by kernel_rfl) ?_
      refine AW2.seq ?_
      refine AW2.cond (b := (decide (a14 < (p1.labels.length : Int)))) rfl (fun hc => ?_) (fun hc => ?_)
      · replace H := ite_t H hc
        refine AW2.skip ?_
        obtain ⟨j15, H20, H⟩ := bind_some H
        refine AW2.mid ⟨[(0, .p 1000 0), (4, .d (.int .u8 x4.1)), (34, .d (sV (eI .u32) p1.labels)), (35, .d (.int .i64 (p1.labels.length : Int))), (36, .d (.int .i64 a14))], H_Checker j15⟩ ?_ ?_
        · refine AW2.rg [] [0, 4, 34, 35, 36] [] [.k 1000, .k 1001, .k 1002, .k 1003] ⟨[(0, .p 1000 0), (4, .d (.int .u8 x4.1)), (34, .d (sV (eI .u32) p1.labels)), (35, .d (.int .i64 (p1.labels.length : Int))), (36, .d (.int .i64 (wI (a14 + 1))))], H_Checker j15⟩ (And.intro True.intro True.intro) (by kernel_rfl) ?_
          exact ⟨k, (j15, (wI (a14 + 1))), Nat.lt_succ_self k, H, wk_mk [0, 4, 34, 35, 36] [] [.k 1000, .k 1001, .k 1002, .k 1003] True.intro (by kernel_rfl)⟩
        · have H := H20
          refine AW2.block ?_
          refine AW2.seq ?_
          obtain ⟨h16, H⟩ := gd_some H
          refine AW2.rg [] [0, 4, 6, 34, 35, 36] [] [.k 1000, .k 1001, .k 1002, .k 1003] ⟨[(0, .p 1000 0), (4, .d (.int .u8 x4.1)), (6, .d (.int .u32 (p1.labels.getD a14.toNat default))), (34, .d (sV (eI .u32) p1.labels)), (35, .d (.int .i64 (p1.labels.length : Int))), (36, .d (.int .i64 a14))], H_Checker a13⟩ (And.intro (And.intro h16 True.intro) True.intro) (by kernel_rfl) ?_
          refine AW2.seq ?_
          obtain ⟨x17, hx18, H⟩ := bind_some H
          refine AW2.rg [.c [1000, 1001, 1002, 1003] [] [1000] (.d (.int .u8 x17.1)) (H_Checker x17.2)] [0, 4, 34, 35, 36, 45] [] [.k 1000, .k 1001, .k 1002, .k 1003] ⟨[(0, .p 1000 0), (4, .d (.int .u8 x4.1)), (34, .d (sV (eI .u32) p1.labels)), (35, .d (.int .i64 (p1.labels.length : Int))), (36, .d (.int .i64 a14)), (45, .d (.bool (x17.1 != x4.1)))], H_Checker x17.2⟩ (And.intro (And.intro (c_valid_checker_label a13 (wI (p1.labels.getD a14.toNat default)) x17 hx18) True.intro) True.intro) (by kernel_rfl) ?_
          refine AW2.cond (b := (x17.1 != x4.1)) rfl (fun hc => ?_) (fun hc => ?_)
          · replace H := ite_t H hc
            refine AW2.rg [] [0, 4, 34, 35, 36] [] [.k 1000, .k 1001, .k 1002, .k 1003] ⟨[(0, .p 1000 0), (4, .d (.int .u8 x4.1)), (34, .d (sV (eI .u32) p1.labels)), (35, .d (.int .i64 (p1.labels.length : Int))), (36, .d (.int .i64 a14))], H_Checker (Checker.mk x17.2.m x17.2.t x17.2.locals x17.2.stack x17.2.frames x17.2.labels x17.2.most true)⟩ (And.intro True.intro True.intro) (by kernel_rfl) ?_
            have H := Option.some.inj H
            subst H
            exact wk_mk [0, 4, 34, 35, 36] [] [.k 1000, .k 1001, .k 1002, .k 1003] True.intro (by kernel_rfl)
          · replace H := ite_f H hc
            refine AW2.skip ?_
            have H := Option.some.inj H
            subst H
            exact wk_mk [0, 4, 34, 35, 36] [] [.k 1000, .k 1001, .k 1002, .k 1003] True.intro (by kernel_rfl)
      · replace H := ite_f H hc
        refine AW2.exit ?_
        have H := Option.some.inj H
        subst H
        exact wk_mk [0, 4] [] [.k 1000, .k 1001, .k 1002, .k 1003] True.intro (by kernel_rfl)

/- (*mandrel/valid.checker).call -/
def g_valid_checker_call (p0 : Checker) (p1 : Typ) : Option (Checker) := ((g_valid_checker_takes p0 p1.params).bind fun x1 => ((g_valid_checker_lay x1 p1.result).bind fun x3 => some x3))

theorem c_valid_checker_call (p0 : Checker) (p1 : Typ) (r : Checker) (H : g_valid_checker_call p0 p1 = some r) : CM E 75 [.p 1000 0, .agg (eD (eTyp p1))] (H_Checker p0) [] [1000] (fun a b => a = (.tup [] : LV) ∧ b = H_Checker r) := by
  refine cs_of (A := F_valid_checker_call) fn_valid_checker_call fun fr => ?_
  unfold g_valid_checker_call at H
  refine AW2.seq ?_
  refine AW2.rg [.k 3] [0, 3] [] [.k 3, .k 1000, .k 1001, .k 1002, .k 1003] ⟨[(0, .p 1000 0), (3, .p 3 0)], [(3, .st false (eD (eTyp p1)))] ++ H_Checker p0⟩ (And.intro True.intro True.intro) (by kernel_rfl) ?_
  refine AW2.seq ?_
  obtain ⟨x1, hx2, H⟩ := bind_some H
  refine AW2.rg [.c [1000, 1001, 1002, 1003] [] [1000] (.undef) (H_Checker x1)] [0, 3] [] [.k 3, .k 1000, .k 1001, .k 1002, .k 1003] ⟨[(0, .p 1000 0), (3, .p 3 0)], [(3, .st false (eD (eTyp p1)))] ++ H_Checker x1⟩ (And.intro (And.intro (c_valid_checker_takes p0 p1.params x1 hx2) True.intro) True.intro) (by kernel_rfl) ?_
  obtain ⟨x3, hx4, H⟩ := bind_some H
  refine AW2.rg [.c [1000, 1001, 1002, 1003] [] [1000] (.tup []) (H_Checker x3)] [] [] [.k 1000, .k 1001, .k 1002, .k 1003] ⟨[], H_Checker x3⟩ (And.intro (And.intro (c_valid_checker_lay x1 p1.result x3 hx4) True.intro) True.intro) (by kernel_rfl) ?_
  have H := Option.some.inj H
  subst H
  exact retS_mkn3 [] [.k 1000, .k 1001, .k 1002, .k 1003] True.intro (by kernel_rfl) (by kernel_rfl)

/- (*mandrel/valid.checker).typ -/
def g_valid_checker_typ (p0 : Checker) (p1 : Int) : Option (Typ × Checker) := (if ((decide (p1 < (0 : Int))) || (decide (p1 ≥ (p0.m.types.length : Int)))) = true then some ((Typ.mk ([] : List Int) 0), (Checker.mk p0.m p0.t p0.locals p0.stack p0.frames p0.labels p0.most true)) else gd (0 ≤ p1 ∧ p1 < (p0.m.types.length : Int)) (some ((p0.m.types.getD p1.toNat default), p0)))

theorem c_valid_checker_typ (p0 : Checker) (p1 : Int) (r : Typ × Checker) (H : g_valid_checker_typ p0 p1 = some r) : CM E 76 [.p 1000 0, .d (.int .i64 p1)] (H_Checker p0) [] [1000] (fun a b => a = (.agg (eD (eTyp r.1)) : LV) ∧ b = H_Checker r.2) := by
  refine cs_of (A := F_valid_checker_typ) fn_valid_checker_typ fun fr => ?_
  unfold g_valid_checker_typ at H
  refine AW2.seq ?_
  refine AW2.rg [.k 4] [0, 1, 4] [] [.k 4, .k 1000, .k 1001, .k 1002, .k 1003] ⟨[(0, .p 1000 0), (1, .d (.int .i64 p1)), (4, .p 4 0)], [(4, .st false [.d .nils, .d (.int .u8 0)])] ++ H_Checker p0⟩ (And.intro True.intro True.intro) (by kernel_rfl) ?_
  refine AW2.seq ?_
  refine AW2.seq ?_
  refine AW2.reg [] rfl (YW.to ⟨[(0, .p 1000 0), (1, .d (.int .i64 p1)), (4, .p 4 0), (16, .d (.bool ((decide (p1 < (0 : Int))) || (decide (p1 ≥ (p0.m.types.length : Int))))))], [(4, .st false [.d .nils, .d (.int .u8 0)])] ++ H_Checker p0⟩ ?qh2 ?h2)
  case h2 =>
    rcases bT (decide (p1 < (0 : Int))) with hc1 | hc1
    · exact YW.fin [(7, true)] [] [0, 1, 4, 16] [(16, .d (.bool ((decide (p1 < (0 : Int))) || (decide (p1 ≥ (p0.m.types.length : Int))))))] [.k 4, .k 1000, .k 1001, .k 1002, .k 1003] _ (And.intro (And.intro hc1 (And.intro hc1 (And.intro hc1 (And.intro hc1 (And.intro hc1 (And.intro hc1 (And.intro hc1 (And.intro hc1 (And.intro hc1 True.intro))))))))) (And.intro (ovB (orT (b := (decide (p1 ≥ (p0.m.types.length : Int)))) hc1)) True.intro)) (by kernel_rfl) rfl
    · exact YW.fin [(7, false)] [] [0, 1, 4, 16] [(16, .d (.bool ((decide (p1 < (0 : Int))) || (decide (p1 ≥ (p0.m.types.length : Int))))))] [.k 4, .k 1000, .k 1001, .k 1002, .k 1003] _ (And.intro (And.intro hc1 (And.intro hc1 (And.intro hc1 (And.intro hc1 (And.intro hc1 (And.intro hc1 (And.intro hc1 (And.intro hc1 (And.intro hc1 True.intro))))))))) (And.intro (ovB (Eq.trans (orF (b := (decide (p1 ≥ (p0.m.types.length : Int)))) hc1) (Eq.refl (decide (p1 ≥ (p0.m.types.length : Int)))))) True.intro)) (by kernel_rfl) rfl
  refine AW2.cond (b := ((decide (p1 < (0 : Int))) || (decide (p1 ≥ (p0.m.types.length : Int))))) rfl (fun hc => ?_) (fun hc => ?_)
  · replace H := ite_t H hc
    refine AW2.seq ?_
    refine AW2.rg [] [4] [] [.k 4, .k 1000, .k 1001, .k 1002, .k 1003] ⟨[(4, .p 4 0)], [(4, .st false [.d .nils, .d (.int .u8 0)])] ++ H_Checker (Checker.mk p0.m p0.t p0.locals p0.stack p0.frames p0.labels p0.most true)⟩ (And.intro True.intro True.intro) (by kernel_rfl) ?_
    refine AW2.seq ?_
    refine AW2.rg [] [4] [] [.k 4, .k 1000, .k 1001, .k 1002, .k 1003] ⟨[(4, .p 4 0)], [(4, .st false [.d .nils, .d (.int .u8 0)])] ++ H_Checker (Checker.mk p0.m p0.t p0.locals p0.stack p0.frames p0.labels p0.most true)⟩ (And.intro True.intro True.intro) (by kernel_rfl) ?_
    refine AW2.ret ?_
    have H := Option.some.inj H
    subst H
    exact retS_mk3 [(0, .d (sV (eI .u8) ([] : List Int)))] [.k 1000, .k 1001, .k 1002, .k 1003] (And.intro (Eq.refl 0) True.intro) (by kernel_rfl) (by kernel_rfl)
  · replace H := ite_f H hc
    refine AW2.skip ?_
    refine AW2.seq ?_
    obtain ⟨h1, H⟩ := gd_some H
    refine AW2.rg [] [4] [] [.k 4, .k 1000, .k 1001, .k 1002, .k 1003] ⟨[(4, .p 4 0)], [(4, .st false (eD (eTyp (p0.m.types.getD p1.toNat default))))] ++ H_Checker p0⟩ (And.intro (And.intro h1 True.intro) True.intro) (by kernel_rfl) ?_
    refine AW2.ret ?_
    have H := Option.some.inj H
    subst H
    exact retS_mk3 [] [.k 1000, .k 1001, .k 1002, .k 1003] True.intro (by kernel_rfl) (by kernel_rfl)

/- (*mandrel/valid.checker).function -/
def g_valid_checker_function (p0 : Checker) (p1 : Int) : Option (Typ × Checker) := (if ((decide (p1 < (0 : Int))) || (decide (p1 ≥ (p0.m.funcs.length : Int)))) = true then some ((Typ.mk ([] : List Int) 0), (Checker.mk p0.m p0.t p0.locals p0.stack p0.frames p0.labels p0.most true)) else gd (0 ≤ p1 ∧ p1 < (p0.m.funcs.length : Int)) (((g_valid_checker_typ p0 (wI (((p0.m.funcs.getD p1.toNat default)).type_))).bind fun x2 => some (x2.1, x2.2))))

theorem c_valid_checker_function (p0 : Checker) (p1 : Int) (r : Typ × Checker) (H : g_valid_checker_function p0 p1 = some r) : CM E 74 [.p 1000 0, .d (.int .i64 p1)] (H_Checker p0) [] [1000] (fun a b => a = (.agg (eD (eTyp r.1)) : LV) ∧ b = H_Checker r.2) := by
  refine cs_of (A := F_valid_checker_function) fn_valid_checker_function fun fr => ?_
  unfold g_valid_checker_function at H
  refine AW2.seq ?_
  refine AW2.rg [.k 4] [0, 1, 4] [] [.k 4, .k 1000, .k 1001, .k 1002, .k 1003] ⟨[(0, .p 1000 0), (1, .d (.int .i64 p1)), (4, .p 4 0)], [(4, .st false [.d .nils, .d (.int .u8 0)])] ++ H_Checker p0⟩ (And.intro True.intro True.intro) (by kernel_rfl) ?_
  refine AW2.seq ?_
  refine AW2.seq ?_
  refine AW2.reg [] rfl (YW.to ⟨[(0, .p 1000 0), (1, .d (.int .i64 p1)), (4, .p 4 0), (16, .d (.bool ((decide (p1 < (0 : Int))) || (decide (p1 ≥ (p0.m.funcs.length : Int))))))], [(4, .st false [.d .nils, .d (.int .u8 0)])] ++ H_Checker p0⟩ ?qh4 ?h4)
  case h4 =>
    rcases bT (decide (p1 < (0 : Int))) with hc1 | hc1
    · exact YW.fin [(7, true)] [] [0, 1, 4, 16] [(16, .d (.bool ((decide (p1 < (0 : Int))) || (decide (p1 ≥ (p0.m.funcs.length : Int))))))] [.k 4, .k 1000, .k 1001, .k 1002, .k 1003] _ (And.intro (And.intro hc1 (And.intro hc1 (And.intro hc1 (And.intro hc1 (And.intro hc1 (And.intro hc1 (And.intro hc1 (And.intro hc1 (And.intro hc1 True.intro))))))))) (And.intro (ovB (orT (b := (decide (p1 ≥ (p0.m.funcs.length : Int)))) hc1)) True.intro)) (by kernel_rfl) rfl
    · exact YW.fin [(7, false)] [] [0, 1, 4, 16] [(16, .d (.bool ((decide (p1 < (0 : Int))) || (decide (p1 ≥ (p0.m.funcs.length : Int))))))] [.k 4, .k 1000, .k 1001, .k 1002, .k 1003] _ (And.intro (And.intro hc1 (And.intro hc1 (And.intro hc1 (And.intro hc1 (And.intro hc1 (And.intro hc1 (And.intro hc1 (And.intro hc1 (And.intro hc1 True.intro))))))))) (And.intro (ovB (Eq.trans (orF (b := (decide (p1 ≥ (p0.m.funcs.length : Int)))) hc1) (Eq.refl (decide (p1 ≥ (p0.m.funcs.length : Int)))))) True.intro)) (by kernel_rfl) rfl
  refine AW2.cond (b := ((decide (p1 < (0 : Int))) || (decide (p1 ≥ (p0.m.funcs.length : Int))))) rfl (fun hc => ?_) (fun hc => ?_)
  · replace H := ite_t H hc
    refine AW2.seq ?_
    refine AW2.rg [] [4] [] [.k 4, .k 1000, .k 1001, .k 1002, .k 1003] ⟨[(4, .p 4 0)], [(4, .st false [.d .nils, .d (.int .u8 0)])] ++ H_Checker (Checker.mk p0.m p0.t p0.locals p0.stack p0.frames p0.labels p0.most true)⟩ (And.intro True.intro True.intro) (by kernel_rfl) ?_
    refine AW2.seq ?_
    refine AW2.rg [] [4] [] [.k 4, .k 1000, .k 1001, .k 1002, .k 1003] ⟨[(4, .p 4 0)], [(4, .st false [.d .nils, .d (.int .u8 0)])] ++ H_Checker (Checker.mk p0.m p0.t p0.locals p0.stack p0.frames p0.labels p0.most true)⟩ (And.intro True.intro True.intro) (by kernel_rfl) ?_
    refine AW2.ret ?_
    have H := Option.some.inj H
    subst H
    exact retS_mk3 [(0, .d (sV (eI .u8) ([] : List Int)))] [.k 1000, .k 1001, .k 1002, .k 1003] (And.intro (Eq.refl 0) True.intro) (by kernel_rfl) (by kernel_rfl)
  · replace H := ite_f H hc
    refine AW2.skip ?_
    refine AW2.seq ?_
    obtain ⟨h1, H⟩ := gd_some H
    obtain ⟨x2, hx3, H⟩ := bind_some H
    refine AW2.rg [.c [1000, 1001, 1002, 1003] [] [1000] (.agg (eD (eTyp x2.1))) (H_Checker x2.2)] [4] [] [.k 4, .k 1000, .k 1001, .k 1002, .k 1003] ⟨[(4, .p 4 0)], [(4, .st false (eD (eTyp x2.1)))] ++ H_Checker x2.2⟩ (And.intro (And.intro h1 (And.intro (c_valid_checker_typ p0 (wI (((p0.m.funcs.getD p1.toNat default)).type_)) x2 hx3) True.intro)) True.intro) (by kernel_rfl) ?_
    refine AW2.ret ?_
    have H := Option.some.inj H
    subst H
    exact retS_mk3 [] [.k 1000, .k 1001, .k 1002, .k 1003] True.intro (by kernel_rfl) (by kernel_rfl)

/- (*mandrel/valid.checker).local -/
def g_valid_checker_local (p0 : Checker) (p1 : Int) : Option (Int × Checker) := (if ((decide (p1 < (0 : Int))) || (decide (p1 ≥ (p0.locals.length : Int)))) = true then some (1, (Checker.mk p0.m p0.t p0.locals p0.stack p0.frames p0.labels p0.most true)) else gd (0 ≤ p1 ∧ p1 < (p0.locals.length : Int)) (some ((p0.locals.getD p1.toNat default), p0)))

theorem c_valid_checker_local (p0 : Checker) (p1 : Int) (r : Int × Checker) (H : g_valid_checker_local p0 p1 = some r) : CM E 77 [.p 1000 0, .d (.int .i64 p1)] (H_Checker p0) [] [1000] (fun a b => a = (.d (.int .u8 r.1) : LV) ∧ b = H_Checker r.2) := by
  refine cs_of (A := F_valid_checker_local) fn_valid_checker_local fun fr => ?_
  unfold g_valid_checker_local at H
  refine AW2.seq ?_
  refine AW2.rg [] [0, 1] [] [.k 1000, .k 1001, .k 1002, .k 1003] ⟨[(0, .p 1000 0), (1, .d (.int .i64 p1))], H_Checker p0⟩ (And.intro True.intro True.intro) (by kernel_rfl) ?_
  refine AW2.seq ?_
  refine AW2.seq ?_
  refine AW2.reg [] rfl (YW.to ⟨[(0, .p 1000 0), (1, .d (.int .i64 p1)), (15, .d (.bool ((decide (p1 < (0 : Int))) || (decide (p1 ≥ (p0.locals.length : Int))))))], H_Checker p0⟩ ?qh2 ?h2)
  case h2 =>
    rcases bT (decide (p1 < (0 : Int))) with hc1 | hc1
    · exact YW.fin [(7, true)] [] [0, 1, 15] [(15, .d (.bool ((decide (p1 < (0 : Int))) || (decide (p1 ≥ (p0.locals.length : Int))))))] [.k 1000, .k 1001, .k 1002, .k 1003] _ (And.intro (And.intro hc1 (And.intro hc1 (And.intro hc1 (And.intro hc1 (And.intro hc1 (And.intro hc1 (And.intro hc1 (And.intro hc1 True.intro)))))))) (And.intro (ovB (orT (b := (decide (p1 ≥ (p0.locals.length : Int)))) hc1)) True.intro)) (by kernel_rfl) rfl
    · exact YW.fin [(7, false)] [] [0, 1, 15] [(15, .d (.bool ((decide (p1 < (0 : Int))) || (decide (p1 ≥ (p0.locals.length : Int))))))] [.k 1000, .k 1001, .k 1002, .k 1003] _ (And.intro (And.intro hc1 (And.intro hc1 (And.intro hc1 (And.intro hc1 (And.intro hc1 (And.intro hc1 (And.intro hc1 (And.intro hc1 True.intro)))))))) (And.intro (ovB (Eq.trans (orF (b := (decide (p1 ≥ (p0.locals.length : Int)))) hc1) (Eq.refl (decide (p1 ≥ (p0.locals.length : Int)))))) True.intro)) (by kernel_rfl) rfl
  refine AW2.cond (b := ((decide (p1 < (0 : Int))) || (decide (p1 ≥ (p0.locals.length : Int))))) rfl (fun hc => ?_) (fun hc => ?_)
  · replace H := ite_t H hc
    refine AW2.seq ?_
    refine AW2.rg [] [] [] [.k 1000, .k 1001, .k 1002, .k 1003] ⟨[], H_Checker (Checker.mk p0.m p0.t p0.locals p0.stack p0.frames p0.labels p0.most true)⟩ (And.intro True.intro True.intro) (by kernel_rfl) ?_
    refine AW2.seq ?_
    refine AW2.rg [] [4] [] [.k 1000, .k 1001, .k 1002, .k 1003] ⟨[(4, .d (.int .u8 1))], H_Checker (Checker.mk p0.m p0.t p0.locals p0.stack p0.frames p0.labels p0.most true)⟩ (And.intro True.intro True.intro) (by kernel_rfl) ?_
    refine AW2.ret ?_
    have H := Option.some.inj H
    subst H
    exact retS_mk3 [] [.k 1000, .k 1001, .k 1002, .k 1003] True.intro (by kernel_rfl) (by kernel_rfl)
  · replace H := ite_f H hc
    refine AW2.skip ?_
    refine AW2.seq ?_
    obtain ⟨h1, H⟩ := gd_some H
    refine AW2.rg [] [4] [] [.k 1000, .k 1001, .k 1002, .k 1003] ⟨[(4, .d (.int .u8 (p0.locals.getD p1.toNat default)))], H_Checker p0⟩ (And.intro (And.intro h1 True.intro) True.intro) (by kernel_rfl) ?_
    refine AW2.ret ?_
    have H := Option.some.inj H
    subst H
    exact retS_mk3 [] [.k 1000, .k 1001, .k 1002, .k 1003] True.intro (by kernel_rfl) (by kernel_rfl)

/- (*mandrel/valid.checker).global -/
def g_valid_checker_global (p0 : Checker) (p1 : Int) : Option (Glo × Checker) := (if ((decide (p1 < (0 : Int))) || (decide (p1 ≥ (p0.m.globals.length : Int)))) = true then some ((Glo.mk 1 true (Instr.mk 0 0 0 0 0 ([] : List Instr) ([] : List Instr) ([] : List Int))), (Checker.mk p0.m p0.t p0.locals p0.stack p0.frames p0.labels p0.most true)) else gd (0 ≤ p1 ∧ p1 < (p0.m.globals.length : Int)) (some ((p0.m.globals.getD p1.toNat default), p0)))

theorem c_valid_checker_global (p0 : Checker) (p1 : Int) (r : Glo × Checker) (H : g_valid_checker_global p0 p1 = some r) : CM E 78 [.p 1000 0, .d (.int .i64 p1)] (H_Checker p0) [] [1000] (fun a b => a = (.agg (eD (eGlo r.1)) : LV) ∧ b = H_Checker r.2) := by
  refine cs_of (A := F_valid_checker_global) fn_valid_checker_global fun fr => ?_
  unfold g_valid_checker_global at H
  refine AW2.seq ?_
  refine AW2.rg [.k 4] [0, 1, 4] [] [.k 4, .k 1000, .k 1001, .k 1002, .k 1003] ⟨[(0, .p 1000 0), (1, .d (.int .i64 p1)), (4, .p 4 0)], [(4, .st false [.d (.int .u8 0), .d (.bool false), .d (.int .u8 0), .d (.int .i64 0), .d (.int .u32 0), .d (.int .u32 0), .d (.int .u8 0), .d .nils, .d .nils, .d .nils])] ++ H_Checker p0⟩ (And.intro True.intro True.intro) (by kernel_rfl) ?_
  refine AW2.seq ?_
  refine AW2.seq ?_
  refine AW2.reg [] rfl (YW.to ⟨[(0, .p 1000 0), (1, .d (.int .i64 p1)), (4, .p 4 0), (16, .d (.bool ((decide (p1 < (0 : Int))) || (decide (p1 ≥ (p0.m.globals.length : Int))))))], [(4, .st false [.d (.int .u8 0), .d (.bool false), .d (.int .u8 0), .d (.int .i64 0), .d (.int .u32 0), .d (.int .u32 0), .d (.int .u8 0), .d .nils, .d .nils, .d .nils])] ++ H_Checker p0⟩ ?qh2 ?h2)
  case h2 =>
    rcases bT (decide (p1 < (0 : Int))) with hc1 | hc1
    · exact YW.fin [(7, true)] [] [0, 1, 4, 16] [(16, .d (.bool ((decide (p1 < (0 : Int))) || (decide (p1 ≥ (p0.m.globals.length : Int))))))] [.k 4, .k 1000, .k 1001, .k 1002, .k 1003] _ (And.intro (And.intro hc1 (And.intro hc1 (And.intro hc1 (And.intro hc1 (And.intro hc1 (And.intro hc1 (And.intro hc1 (And.intro hc1 (And.intro hc1 True.intro))))))))) (And.intro (ovB (orT (b := (decide (p1 ≥ (p0.m.globals.length : Int)))) hc1)) True.intro)) (by kernel_rfl) rfl
    · exact YW.fin [(7, false)] [] [0, 1, 4, 16] [(16, .d (.bool ((decide (p1 < (0 : Int))) || (decide (p1 ≥ (p0.m.globals.length : Int))))))] [.k 4, .k 1000, .k 1001, .k 1002, .k 1003] _ (And.intro (And.intro hc1 (And.intro hc1 (And.intro hc1 (And.intro hc1 (And.intro hc1 (And.intro hc1 (And.intro hc1 (And.intro hc1 (And.intro hc1 True.intro))))))))) (And.intro (ovB (Eq.trans (orF (b := (decide (p1 ≥ (p0.m.globals.length : Int)))) hc1) (Eq.refl (decide (p1 ≥ (p0.m.globals.length : Int)))))) True.intro)) (by kernel_rfl) rfl
  refine AW2.cond (b := ((decide (p1 < (0 : Int))) || (decide (p1 ≥ (p0.m.globals.length : Int))))) rfl (fun hc => ?_) (fun hc => ?_)
  · replace H := ite_t H hc
    refine AW2.seq ?_
    refine AW2.rg [] [4] [] [.k 4, .k 1000, .k 1001, .k 1002, .k 1003] ⟨[(4, .p 4 0)], [(4, .st false [.d (.int .u8 0), .d (.bool false), .d (.int .u8 0), .d (.int .i64 0), .d (.int .u32 0), .d (.int .u32 0), .d (.int .u8 0), .d .nils, .d .nils, .d .nils])] ++ H_Checker (Checker.mk p0.m p0.t p0.locals p0.stack p0.frames p0.labels p0.most true)⟩ (And.intro True.intro True.intro) (by kernel_rfl) ?_
    refine AW2.seq ?_
    refine AW2.rg [] [4] [] [.k 4, .k 1000, .k 1001, .k 1002, .k 1003] ⟨[(4, .p 4 0)], [(4, .st false [.d (.int .u8 1), .d (.bool true), .d (.int .u8 0), .d (.int .i64 0), .d (.int .u32 0), .d (.int .u32 0), .d (.int .u8 0), .d .nils, .d .nils, .d .nils])] ++ H_Checker (Checker.mk p0.m p0.t p0.locals p0.stack p0.frames p0.labels p0.most true)⟩ (And.intro True.intro True.intro) (by kernel_rfl) ?_
    refine AW2.ret ?_
    have H := Option.some.inj H
    subst H
    exact retS_mk3 [(7, .d (sVI ([] : List Instr))), (8, .d (sVI ([] : List Instr))), (9, .d (sV (eI .u32) ([] : List Int)))] [.k 1000, .k 1001, .k 1002, .k 1003] (And.intro (Eq.refl 0) (And.intro (Eq.refl 0) (And.intro (Eq.refl 0) True.intro))) (by kernel_rfl) (by kernel_rfl)
  · replace H := ite_f H hc
    refine AW2.skip ?_
    refine AW2.seq ?_
    obtain ⟨h1, H⟩ := gd_some H
    refine AW2.rg [] [4] [] [.k 4, .k 1000, .k 1001, .k 1002, .k 1003] ⟨[(4, .p 4 0)], [(4, .st false (eD (eGlo (p0.m.globals.getD p1.toNat default))))] ++ H_Checker p0⟩ (And.intro (And.intro h1 True.intro) True.intro) (by kernel_rfl) ?_
    refine AW2.ret ?_
    have H := Option.some.inj H
    subst H
    exact retS_mk3 [] [.k 1000, .k 1001, .k 1002, .k 1003] True.intro (by kernel_rfl) (by kernel_rfl)

/- internal/stringslite.HasPrefix -/
def g_stringslite_HasPrefix (p0 : ByteArray) (p1 : ByteArray) : Option (Bool) := ((if (decide ((p0.size : Int) ≥ (p1.size : Int))) = true then gd (0 ≤ (0 : Int) ∧ (0 : Int) ≤ (p1.size : Int) ∧ (p1.size : Int) ≤ (p0.size : Int)) (some ((ByteArray.extract p0 (0 : Int).toNat ((p1.size : Int) : Int).toNat).toList == p1.toList)) else some false)).bind (fun j2 => some j2)

theorem c_stringslite_HasPrefix (p0 : ByteArray) (p1 : ByteArray) (r : Bool) (H : g_stringslite_HasPrefix p0 p1 = some r) : CF E 103 [.str p0, .str p1] (.bool r) := by
  refine cf_of (A := F_stringslite_HasPrefix) fn_stringslite_HasPrefix rfl fun fr => ?_
  unfold g_stringslite_HasPrefix at H
  refine AW2.seq ?_
  refine AW2.rg [] [0, 1] [] [] ⟨[(0, .d (.str p0)), (1, .d (.str p1))], []⟩ (And.intro True.intro True.intro) (by kernel_rfl) ?_
  refine AW2.seq ?_
  obtain ⟨j2, H4, H⟩ := bind_some H
  refine AW2.reg [] rfl (YW.to ⟨[(4, .d (.bool j2))], []⟩ ?qh5 ?h5)
  case h5 =>
    have H := H4
    rcases bT (decide ((p0.size : Int) ≥ (p1.size : Int))) with hc1 | hc1
    · replace H := ite_t H hc1
      obtain ⟨h1, H⟩ := gd_some H
      have H := Option.some.inj H
      subst H
      exact YW.fin [(10, true)] [] [4] [] [] _ (And.intro (And.intro hc1 (And.intro hc1 (And.intro hc1 (And.intro hc1 (And.intro h1 (And.intro hc1 (And.intro hc1 (And.intro hc1 True.intro)))))))) True.intro) (by kernel_rfl) rfl
    · replace H := ite_f H hc1
      have H := Option.some.inj H
      subst H
      exact YW.fin [(10, false)] [] [4] [] [] _ (And.intro (And.intro hc1 (And.intro hc1 (And.intro hc1 (And.intro hc1 (And.intro hc1 (And.intro hc1 (And.intro hc1 True.intro))))))) True.intro) (by kernel_rfl) rfl
  refine AW2.ret ?_
  have H := Option.some.inj H
  subst H
  exact retP_mk2 True.intro (by kernel_rfl)

/- strings.HasPrefix -/
def g_strings_HasPrefix (p0 : ByteArray) (p1 : ByteArray) : Option (Bool) := ((g_stringslite_HasPrefix p0 p1).bind fun x1 => some x1)

theorem c_strings_HasPrefix (p0 : ByteArray) (p1 : ByteArray) (r : Bool) (H : g_strings_HasPrefix p0 p1 = some r) : CF E 97 [.str p0, .str p1] (.bool r) := by
  refine cf_of (A := F_strings_HasPrefix) fn_strings_HasPrefix rfl fun fr => ?_
  unfold g_strings_HasPrefix at H
  refine AW2.seq ?_
  refine AW2.rg [] [0, 1] [] [] ⟨[(0, .d (.str p0)), (1, .d (.str p1))], []⟩ (And.intro True.intro True.intro) (by kernel_rfl) ?_
  refine AW2.seq ?_
  obtain ⟨x1, hx2, H⟩ := bind_some H
  refine AW2.rg [.r (.bool x1)] [4] [] [] ⟨[(4, .d (.bool x1))], []⟩ (And.intro (And.intro (c_stringslite_HasPrefix p0 p1 x1 hx2) True.intro) True.intro) (by kernel_rfl) ?_
  refine AW2.ret ?_
  have H := Option.some.inj H
  subst H
  exact retP_mk2 True.intro (by kernel_rfl)

/- mandrel/ops.own -/
def g_ops_own (p0 : ByteArray) : Option (Int) := ((g_strings_HasPrefix p0 (ByteArray.mk #[105, 54, 52, 46])).bind fun x1 => (if x1 = true then some 126 else some 127))

theorem c_ops_own (p0 : ByteArray) (r : Int) (H : g_ops_own p0 = some r) : CF E 89 [.str p0] (.int .u8 r) := by
  refine cf_of (A := F_ops_own) fn_ops_own rfl fun fr => ?_
  unfold g_ops_own at H
  refine AW2.seq ?_
  refine AW2.rg [] [0] [] [] ⟨[(0, .d (.str p0))], []⟩ (And.intro True.intro True.intro) (by kernel_rfl) ?_
  refine AW2.seq ?_
  refine AW2.seq ?_
  obtain ⟨x1, hx2, H⟩ := bind_some H
  refine AW2.rg [.r (.bool x1)] [4] [] [] ⟨[(4, .d (.bool x1))], []⟩ (And.intro (And.intro (c_strings_HasPrefix p0 (ByteArray.mk #[105, 54, 52, 46]) x1 hx2) True.intro) True.intro) (by kernel_rfl) ?_
  refine AW2.cond (b := x1) rfl (fun hc => ?_) (fun hc => ?_)
  · replace H := ite_t H hc
    refine AW2.seq ?_
    refine AW2.rg [] [2] [] [] ⟨[(2, .d (.int .u8 126))], []⟩ (And.intro True.intro True.intro) (by kernel_rfl) ?_
    refine AW2.ret ?_
    have H := Option.some.inj H
    subst H
    exact retP_mk2 True.intro (by kernel_rfl)
  · replace H := ite_f H hc
    refine AW2.skip ?_
    refine AW2.seq ?_
    refine AW2.rg [] [2] [] [] ⟨[(2, .d (.int .u8 127))], []⟩ (And.intro True.intro True.intro) (by kernel_rfl) ?_
    refine AW2.ret ?_
    have H := Option.some.inj H
    subst H
    exact retP_mk2 True.intro (by kernel_rfl)

/- internal/stringslite.HasSuffix -/
def g_stringslite_HasSuffix (p0 : ByteArray) (p1 : ByteArray) : Option (Bool) := ((if (decide ((p0.size : Int) ≥ (p1.size : Int))) = true then gd (0 ≤ ((wI ((p0.size : Int) - (p1.size : Int))) : Int) ∧ ((wI ((p0.size : Int) - (p1.size : Int))) : Int) ≤ (p0.size : Int) ∧ (p0.size : Int) ≤ (p0.size : Int)) (some ((ByteArray.extract p0 ((wI ((p0.size : Int) - (p1.size : Int))) : Int).toNat ((p0.size : Int) : Int).toNat).toList == p1.toList)) else some false)).bind (fun j2 => some j2)

theorem c_stringslite_HasSuffix (p0 : ByteArray) (p1 : ByteArray) (r : Bool) (H : g_stringslite_HasSuffix p0 p1 = some r) : CF E 102 [.str p0, .str p1] (.bool r) := by
  refine cf_of (A := F_stringslite_HasSuffix) fn_stringslite_HasSuffix rfl fun fr => ?_
  unfold g_stringslite_HasSuffix at H
  refine AW2.seq ?_
  refine AW2.rg [] [0, 1] [] [] ⟨[(0, .d (.str p0)), (1, .d (.str p1))], []⟩ (And.intro True.intro True.intro) (by kernel_rfl) ?_
  refine AW2.seq ?_
  obtain ⟨j2, H4, H⟩ := bind_some H
  refine AW2.reg [] rfl (YW.to ⟨[(4, .d (.bool j2))], []⟩ ?qh5 ?h5)
  case h5 =>
    have H := H4
    rcases bT (decide ((p0.size : Int) ≥ (p1.size : Int))) with hc1 | hc1
    · replace H := ite_t H hc1
      obtain ⟨h1, H⟩ := gd_some H
      have H := Option.some.inj H
      subst H
      exact YW.fin [(10, true)] [] [4] [] [] _ (And.intro (And.intro hc1 (And.intro hc1 (And.intro hc1 (And.intro hc1 (And.intro hc1 (And.intro hc1 (And.intro hc1 (And.intro h1 (And.intro hc1 (And.intro hc1 (And.intro hc1 True.intro))))))))))) True.intro) (by kernel_rfl) rfl
    · replace H := ite_f H hc1
      have H := Option.some.inj H
      subst H
      exact YW.fin [(10, false)] [] [4] [] [] _ (And.intro (And.intro hc1 (And.intro hc1 (And.intro hc1 (And.intro hc1 (And.intro hc1 (And.intro hc1 (And.intro hc1 (And.intro hc1 (And.intro hc1 (And.intro hc1 True.intro)))))))))) True.intro) (by kernel_rfl) rfl
  refine AW2.ret ?_
  have H := Option.some.inj H
  subst H
  exact retP_mk2 True.intro (by kernel_rfl)

/- strings.HasSuffix -/
def g_strings_HasSuffix (p0 : ByteArray) (p1 : ByteArray) : Option (Bool) := ((g_stringslite_HasSuffix p0 p1).bind fun x1 => some x1)

theorem c_strings_HasSuffix (p0 : ByteArray) (p1 : ByteArray) (r : Bool) (H : g_strings_HasSuffix p0 p1 = some r) : CF E 93 [.str p0, .str p1] (.bool r) := by
  refine cf_of (A := F_strings_HasSuffix) fn_strings_HasSuffix rfl fun fr => ?_
  unfold g_strings_HasSuffix at H
  refine AW2.seq ?_
  refine AW2.rg [] [0, 1] [] [] ⟨[(0, .d (.str p0)), (1, .d (.str p1))], []⟩ (And.intro True.intro True.intro) (by kernel_rfl) ?_
  refine AW2.seq ?_
  obtain ⟨x1, hx2, H⟩ := bind_some H
  refine AW2.rg [.r (.bool x1)] [4] [] [] ⟨[(4, .d (.bool x1))], []⟩ (And.intro (And.intro (c_stringslite_HasSuffix p0 p1 x1 hx2) True.intro) True.intro) (by kernel_rfl) ?_
  refine AW2.ret ?_
  have H := Option.some.inj H
  subst H
  exact retP_mk2 True.intro (by kernel_rfl)

/- internal/stringslite.Cut -/
def g_stringslite_Cut (p0 : ByteArray) (p1 : ByteArray) : Option (ByteArray × ByteArray × Bool) := ((g_stringslite_Index p0 p1).bind fun x1 => (if (decide (x1 ≥ (0 : Int))) = true then gd (0 ≤ (0 : Int) ∧ (0 : Int) ≤ x1 ∧ x1 ≤ (p0.size : Int)) (gd (0 ≤ ((wI (x1 + (p1.size : Int))) : Int) ∧ ((wI (x1 + (p1.size : Int))) : Int) ≤ (p0.size : Int) ∧ (p0.size : Int) ≤ (p0.size : Int)) (some ((ByteArray.extract p0 (0 : Int).toNat (x1 : Int).toNat), (ByteArray.extract p0 ((wI (x1 + (p1.size : Int))) : Int).toNat ((p0.size : Int) : Int).toNat), true))) else some (p0, (ByteArray.mk #[]), false)))

theorem c_stringslite_Cut (p0 : ByteArray) (p1 : ByteArray) (r : ByteArray × ByteArray × Bool) (H : g_stringslite_Cut p0 p1 = some r) : CF E 104 [.str p0, .str p1] (.tup [.str r.1, .str r.2.1, .bool r.2.2]) := by
  refine cf_of (A := F_stringslite_Cut) fn_stringslite_Cut rfl fun fr => ?_
  unfold g_stringslite_Cut at H
  refine AW2.seq ?_
  refine AW2.rg [] [0, 1] [] [] ⟨[(0, .d (.str p0)), (1, .d (.str p1))], []⟩ (And.intro True.intro True.intro) (by kernel_rfl) ?_
  refine AW2.seq ?_
  refine AW2.seq ?_
  obtain ⟨x1, hx2, H⟩ := bind_some H
  refine AW2.rg [.r (.int .i64 x1)] [0, 1, 7] [] [] ⟨[(0, .d (.str p0)), (1, .d (.str p1)), (7, .d (.int .i64 x1))], []⟩ (And.intro (And.intro (c_stringslite_Index p0 p1 x1 hx2) True.intro) True.intro) (by kernel_rfl) ?_
  refine AW2.seq ?_
  refine AW2.rg [] [0, 1, 7, 12] [] [] ⟨[(0, .d (.str p0)), (1, .d (.str p1)), (7, .d (.int .i64 x1)), (12, .d (.bool (decide (x1 ≥ (0 : Int)))))], []⟩ (And.intro True.intro True.intro) (by kernel_rfl) ?_
  refine AW2.cond (b := (decide (x1 ≥ (0 : Int)))) rfl (fun hc => ?_) (fun hc => ?_)
  · replace H := ite_t H hc
    refine AW2.seq ?_
    obtain ⟨h3, H⟩ := gd_some H
    obtain ⟨h4, H⟩ := gd_some H
    refine AW2.rg [] [4, 5, 6] [] [] ⟨[(4, .d (.str (ByteArray.extract p0 (0 : Int).toNat (x1 : Int).toNat))), (5, .d (.str (ByteArray.extract p0 ((wI (x1 + (p1.size : Int))) : Int).toNat ((p0.size : Int) : Int).toNat))), (6, .d (.bool true))], []⟩ (And.intro (And.intro h3 (And.intro h4 True.intro)) True.intro) (by kernel_rfl) ?_
    refine AW2.ret ?_
    have H := Option.some.inj H
    subst H
    exact retP_mk2 True.intro (by kernel_rfl)
  · replace H := ite_f H hc
    refine AW2.skip ?_
    refine AW2.seq ?_
    refine AW2.rg [] [4, 5, 6] [] [] ⟨[(4, .d (.str p0)), (5, .d (.str (ByteArray.mk #[]))), (6, .d (.bool false))], []⟩ (And.intro True.intro True.intro) (by kernel_rfl) ?_
    refine AW2.ret ?_
    have H := Option.some.inj H
    subst H
    exact retP_mk2 True.intro (by kernel_rfl)

/- strings.Cut -/
def g_strings_Cut (p0 : ByteArray) (p1 : ByteArray) : Option (ByteArray × ByteArray × Bool) := ((g_stringslite_Cut p0 p1).bind fun x1 => some (x1.1, x1.2.1, x1.2.2))

theorem c_strings_Cut (p0 : ByteArray) (p1 : ByteArray) (r : ByteArray × ByteArray × Bool) (H : g_strings_Cut p0 p1 = some r) : CF E 98 [.str p0, .str p1] (.tup [.str r.1, .str r.2.1, .bool r.2.2]) := by
  refine cf_of (A := F_strings_Cut) fn_strings_Cut rfl fun fr => ?_
  unfold g_strings_Cut at H
  refine AW2.seq ?_
  refine AW2.rg [] [0, 1] [] [] ⟨[(0, .d (.str p0)), (1, .d (.str p1))], []⟩ (And.intro True.intro True.intro) (by kernel_rfl) ?_
  refine AW2.seq ?_
  obtain ⟨x1, hx2, H⟩ := bind_some H
  refine AW2.rg [.r (.tup [.str x1.1, .str x1.2.1, .bool x1.2.2])] [4, 5, 6] [] [] ⟨[(4, .d (.str x1.1)), (5, .d (.str x1.2.1)), (6, .d (.bool x1.2.2))], []⟩ (And.intro (And.intro (c_stringslite_Cut p0 p1 x1 hx2) True.intro) True.intro) (by kernel_rfl) ?_
  refine AW2.ret ?_
  have H := Option.some.inj H
  subst H
  exact retP_mk2 True.intro (by kernel_rfl)

/- strings.Index -/
def g_strings_Index (p0 : ByteArray) (p1 : ByteArray) : Option (Int) := ((g_stringslite_Index p0 p1).bind fun x1 => some x1)

theorem c_strings_Index (p0 : ByteArray) (p1 : ByteArray) (r : Int) (H : g_strings_Index p0 p1 = some r) : CF E 105 [.str p0, .str p1] (.int .i64 r) := by
  refine cf_of (A := F_strings_Index) fn_strings_Index rfl fun fr => ?_
  unfold g_strings_Index at H
  refine AW2.seq ?_
  refine AW2.rg [] [0, 1] [] [] ⟨[(0, .d (.str p0)), (1, .d (.str p1))], []⟩ (And.intro True.intro True.intro) (by kernel_rfl) ?_
  refine AW2.seq ?_
  obtain ⟨x1, hx2, H⟩ := bind_some H
  refine AW2.rg [.r (.int .i64 x1)] [4] [] [] ⟨[(4, .d (.int .i64 x1))], []⟩ (And.intro (And.intro (c_stringslite_Index p0 p1 x1 hx2) True.intro) True.intro) (by kernel_rfl) ?_
  refine AW2.ret ?_
  have H := Option.some.inj H
  subst H
  exact retP_mk2 True.intro (by kernel_rfl)

/- strings.Contains -/
def g_strings_Contains (p0 : ByteArray) (p1 : ByteArray) : Option (Bool) := ((g_strings_Index p0 p1).bind fun x1 => some (decide (x1 ≥ (0 : Int))))

theorem c_strings_Contains (p0 : ByteArray) (p1 : ByteArray) (r : Bool) (H : g_strings_Contains p0 p1 = some r) : CF E 99 [.str p0, .str p1] (.bool r) := by
  refine cf_of (A := F_strings_Contains) fn_strings_Contains rfl fun fr => ?_
  unfold g_strings_Contains at H
  refine AW2.seq ?_
  refine AW2.rg [] [0, 1] [] [] ⟨[(0, .d (.str p0)), (1, .d (.str p1))], []⟩ (And.intro True.intro True.intro) (by kernel_rfl) ?_
  refine AW2.seq ?_
  obtain ⟨x1, hx2, H⟩ := bind_some H
  refine AW2.rg [.r (.int .i64 x1)] [4] [] [] ⟨[(4, .d (.bool (decide (x1 ≥ (0 : Int)))))], []⟩ (And.intro (And.intro (c_strings_Index p0 p1 x1 hx2) True.intro) True.intro) (by kernel_rfl) ?_
  refine AW2.ret ?_
  have H := Option.some.inj H
  subst H
  exact retP_mk2 True.intro (by kernel_rfl)

end Go.Proofs.YtablleokoifolaaGreatDoor

/- Plain functions and their contracts. Written by a program of this claim set (g2.py). -/
set_option linter.unusedVariables false
set_option maxRecDepth 100000
set_option maxHeartbeats 4000000
namespace Go.Proofs.YtablleokoifolaaGreatDoor
open Go

/- mandrel/ops.reckoned -/
def g_ops_reckoned (p0 : ByteArray) : Option (Typ) := ((g_ops_own p0).bind fun x1 => ((g_strings_Cut p0 (ByteArray.mk #[46])).bind fun x3 => ((g_strings_HasSuffix p0 (ByteArray.mk #[95, 105, 54, 52])).bind fun x5 => (if x5 = true then some (Typ.mk ([126] : List Int) x1) else ((g_strings_Contains x3.2.1 (ByteArray.mk #[101, 120, 116, 101, 110, 100])).bind fun x7 => (if x7 = true then some (Typ.mk ([127] : List Int) x1) else (if (x3.2.1.toList == (ByteArray.mk #[101, 113, 122]).toList) = true then some (Typ.mk ([x1] : List Int) 127) else (if ((x3.2.1.toList == (ByteArray.mk #[99, 108, 122]).toList) || ((x3.2.1.toList == (ByteArray.mk #[99, 116, 122]).toList) || (x3.2.1.toList == (ByteArray.mk #[112, 111, 112, 99, 110, 116]).toList))) = true then some (Typ.mk ([x1] : List Int) x1) else gd (0 ≤ (0 : Int) ∧ (0 : Int) ≤ 2 ∧ 2 ≤ (x3.2.1.size : Int)) (gd (¬ (((ByteArray.mk #[32]).size + (ByteArray.extract x3.2.1 (0 : Int).toNat (2 : Int).toNat).size : Nat) : Int) > IntKind.i64.max) (gd (¬ ((((ByteArray.mk #[32]) ++ (ByteArray.extract x3.2.1 (0 : Int).toNat (2 : Int).toNat)).size + (ByteArray.mk #[32]).size : Nat) : Int) > IntKind.i64.max) (((g_strings_Contains (ByteArray.mk #[32, 101, 113, 32, 110, 101, 32, 108, 116, 32, 103, 116, 32, 108, 101, 32, 103, 101, 32]) (((ByteArray.mk #[32]) ++ (ByteArray.extract x3.2.1 (0 : Int).toNat (2 : Int).toNat)) ++ (ByteArray.mk #[32]))).bind fun x12 => (if x12 = true then some (Typ.mk ([x1, x1] : List Int) 127) else some (Typ.mk ([x1, x1] : List Int) x1))))))))))))))

theorem c_ops_reckoned (p0 : ByteArray) (r : Typ) (H : g_ops_reckoned p0 = some r) : CF E 90 [.str p0] (.agg (eTyp r)) := by
  refine cf_of (A := F_ops_reckoned) fn_ops_reckoned rfl fun fr => ?_
  unfold g_ops_reckoned at H
  refine AW2.seq ?_
  refine AW2.rg [.k 2] [0, 2] [] [.k 2] ⟨[(0, .d (.str p0)), (2, .p 2 0)], [(2, .st false [.d .nils, .d (.int .u8 0)])]⟩ (And.intro True.intro True.intro) (by kernel_rfl) ?_
  refine AW2.seq ?_
  obtain ⟨x1, hx2, H⟩ := bind_some H
  refine AW2.rg [.r (.int .u8 x1)] [0, 2, 3] [] [.k 2] ⟨[(0, .d (.str p0)), (2, .p 2 0), (3, .d (.int .u8 x1))], [(2, .st false [.d .nils, .d (.int .u8 0)])]⟩ (And.intro (And.intro (c_ops_own p0 x1 hx2) True.intro) True.intro) (by kernel_rfl) ?_
  refine AW2.seq ?_
  obtain ⟨x3, hx4, H⟩ := bind_some H
  refine AW2.rg [.r (.tup [.str x3.1, .str x3.2.1, .bool x3.2.2])] [0, 2, 3, 5] [] [.k 2] ⟨[(0, .d (.str p0)), (2, .p 2 0), (3, .d (.int .u8 x1)), (5, .d (.str x3.2.1))], [(2, .st false [.d .nils, .d (.int .u8 0)])]⟩ (And.intro (And.intro (c_strings_Cut p0 (ByteArray.mk #[46]) x3 hx4) True.intro) True.intro) (by kernel_rfl) ?_
  refine AW2.seq ?_
  refine AW2.block ?_
  refine AW2.seq ?_
  obtain ⟨x5, hx6, H⟩ := bind_some H
  refine AW2.rg [.r (.bool x5)] [2, 3, 5, 15] [] [.k 2] ⟨[(2, .p 2 0), (3, .d (.int .u8 x1)), (5, .d (.str x3.2.1)), (15, .d (.bool x5))], [(2, .st false [.d .nils, .d (.int .u8 0)])]⟩ (And.intro (And.intro (c_strings_HasSuffix p0 (ByteArray.mk #[95, 105, 54, 52]) x5 hx6) True.intro) True.intro) (by kernel_rfl) ?_
  refine AW2.cond (b := x5) rfl (fun hc => ?_) (fun hc => ?_)
  · replace H := ite_t H hc
    refine AW2.seq ?_
    refine AW2.rg [.ks true 18 ([126] : List Int).length (fl (eI .u8) ([126] : List Int))] [2] [] [.k 2, .k 18] ⟨[(2, .p 2 0)], [(2, .st false [.ls 18 0 ([126] : List Int).length, .d (.int .u8 x1)]), (18, .sl false 1 ([126] : List Int).length (fl (eI .u8) ([126] : List Int)))]⟩ (And.intro (And.intro (litK (eI .u8) ([126] : List Int) (fun _ => rfl)) True.intro) True.intro) (by kernel_rfl) ?_
    refine AW2.ret ?_
    have H := Option.some.inj H
    subst H
    exact retP_mk2 (And.intro (Nat.le_refl ([126] : List Int).length) (And.intro (dfl (eI .u8) (dep_eI .u8) ([126] : List Int)) True.intro)) (by kernel_rfl)
  · replace H := ite_f H hc
    refine AW2.seq ?_
    obtain ⟨x7, hx8, H⟩ := bind_some H
    refine AW2.rg [.r (.bool x7)] [2, 3, 5, 21] [] [.k 2] ⟨[(2, .p 2 0), (3, .d (.int .u8 x1)), (5, .d (.str x3.2.1)), (21, .d (.bool x7))], [(2, .st false [.d .nils, .d (.int .u8 0)])]⟩ (And.intro (And.intro (c_strings_Contains x3.2.1 (ByteArray.mk #[101, 120, 116, 101, 110, 100]) x7 hx8) True.intro) True.intro) (by kernel_rfl) ?_
    refine AW2.cond (b := x7) rfl (fun hc => ?_) (fun hc => ?_)
    · replace H := ite_t H hc
      refine AW2.seq ?_
      refine AW2.rg [.ks true 24 ([127] : List Int).length (fl (eI .u8) ([127] : List Int))] [2] [] [.k 2, .k 24] ⟨[(2, .p 2 0)], [(2, .st false [.ls 24 0 ([127] : List Int).length, .d (.int .u8 x1)]), (24, .sl false 1 ([127] : List Int).length (fl (eI .u8) ([127] : List Int)))]⟩ (And.intro (And.intro (litK (eI .u8) ([127] : List Int) (fun _ => rfl)) True.intro) True.intro) (by kernel_rfl) ?_
      refine AW2.ret ?_
      have H := Option.some.inj H
      subst H
      exact retP_mk2 (And.intro (Nat.le_refl ([127] : List Int).length) (And.intro (dfl (eI .u8) (dep_eI .u8) ([127] : List Int)) True.intro)) (by kernel_rfl)
    · replace H := ite_f H hc
      refine AW2.seq ?_
      refine AW2.rg [] [2, 3, 5, 27] [] [.k 2] ⟨[(2, .p 2 0), (3, .d (.int .u8 x1)), (5, .d (.str x3.2.1)), (27, .d (.bool (x3.2.1.toList == (ByteArray.mk #[101, 113, 122]).toList)))], [(2, .st false [.d .nils, .d (.int .u8 0)])]⟩ (And.intro True.intro True.intro) (by kernel_rfl) ?_
      refine AW2.cond (b := (x3.2.1.toList == (ByteArray.mk #[101, 113, 122]).toList)) rfl (fun hc => ?_) (fun hc => ?_)
      · replace H := ite_t H hc
        refine AW2.seq ?_
        refine AW2.rg [.ks true 31 ([x1] : List Int).length (fl (eI .u8) ([x1] : List Int))] [2] [] [.k 2, .k 31] ⟨[(2, .p 2 0)], [(2, .st false [.ls 31 0 ([x1] : List Int).length, .d (.int .u8 127)]), (31, .sl false 1 ([x1] : List Int).length (fl (eI .u8) ([x1] : List Int)))]⟩ (And.intro (And.intro (litK (eI .u8) ([x1] : List Int) (fun _ => rfl)) True.intro) True.intro) (by kernel_rfl) ?_
        refine AW2.ret ?_
        have H := Option.some.inj H
        subst H
        exact retP_mk2 (And.intro (Nat.le_refl ([x1] : List Int).length) (And.intro (dfl (eI .u8) (dep_eI .u8) ([x1] : List Int)) True.intro)) (by kernel_rfl)
      · replace H := ite_f H hc
        refine AW2.seq ?_
        refine AW2.reg [] rfl (YW.to ⟨[(2, .p 2 0), (3, .d (.int .u8 x1)), (5, .d (.str x3.2.1)), (33, .d (.bool ((x3.2.1.toList == (ByteArray.mk #[99, 108, 122]).toList) || ((x3.2.1.toList == (ByteArray.mk #[99, 116, 122]).toList) || (x3.2.1.toList == (ByteArray.mk #[112, 111, 112, 99, 110, 116]).toList)))))], [(2, .st false [.d .nils, .d (.int .u8 0)])]⟩ ?qh14 ?h14)
        case h14 =>
          rcases bT (x3.2.1.toList == (ByteArray.mk #[99, 108, 122]).toList) with hc1 | hc1
          · exact YW.fin [(36, true), (40, true)] [] [2, 3, 5, 33] [(33, .d (.bool ((x3.2.1.toList == (ByteArray.mk #[99, 108, 122]).toList) || ((x3.2.1.toList == (ByteArray.mk #[99, 116, 122]).toList) || (x3.2.1.toList == (ByteArray.mk #[112, 111, 112, 99, 110, 116]).toList)))))] [.k 2] _ (And.intro (And.intro hc1 (And.intro hc1 (And.intro hc1 (And.intro (Eq.refl true) (And.intro (Eq.refl true) (And.intro (Eq.refl true) True.intro)))))) (And.intro (ovB (orT (b := ((x3.2.1.toList == (ByteArray.mk #[99, 116, 122]).toList) || (x3.2.1.toList == (ByteArray.mk #[112, 111, 112, 99, 110, 116]).toList))) hc1)) True.intro)) (by kernel_rfl) rfl
          · rcases bT (x3.2.1.toList == (ByteArray.mk #[99, 116, 122]).toList) with hc2 | hc2
            · exact YW.fin [(36, false), (40, true)] [] [2, 3, 5, 33] [(33, .d (.bool ((x3.2.1.toList == (ByteArray.mk #[99, 108, 122]).toList) || ((x3.2.1.toList == (ByteArray.mk #[99, 116, 122]).toList) || (x3.2.1.toList == (ByteArray.mk #[112, 111, 112, 99, 110, 116]).toList)))))] [.k 2] _ (And.intro (And.intro hc1 (And.intro hc1 (And.intro hc1 (And.intro hc2 (And.intro hc2 (And.intro hc2 True.intro)))))) (And.intro (ovB (Eq.trans (orF (b := ((x3.2.1.toList == (ByteArray.mk #[99, 116, 122]).toList) || (x3.2.1.toList == (ByteArray.mk #[112, 111, 112, 99, 110, 116]).toList))) hc1) (orT (b := (x3.2.1.toList == (ByteArray.mk #[112, 111, 112, 99, 110, 116]).toList)) hc2))) True.intro)) (by kernel_rfl) rfl
            · exact YW.fin [(36, false), (40, false)] [] [2, 3, 5, 33] [(33, .d (.bool ((x3.2.1.toList == (ByteArray.mk #[99, 108, 122]).toList) || ((x3.2.1.toList == (ByteArray.mk #[99, 116, 122]).toList) || (x3.2.1.toList == (ByteArray.mk #[112, 111, 112, 99, 110, 116]).toList)))))] [.k 2] _ (And.intro (And.intro hc1 (And.intro hc1 (And.intro hc1 (And.intro hc2 (And.intro hc2 (And.intro hc2 True.intro)))))) (And.intro (ovB (Eq.trans (orF (b := ((x3.2.1.toList == (ByteArray.mk #[99, 116, 122]).toList) || (x3.2.1.toList == (ByteArray.mk #[112, 111, 112, 99, 110, 116]).toList))) hc1) (Eq.trans (orF (b := (x3.2.1.toList == (ByteArray.mk #[112, 111, 112, 99, 110, 116]).toList)) hc2) (Eq.refl (x3.2.1.toList == (ByteArray.mk #[112, 111, 112, 99, 110, 116]).toList))))) True.intro)) (by kernel_rfl) rfl
        refine AW2.cond (b := ((x3.2.1.toList == (ByteArray.mk #[99, 108, 122]).toList) || ((x3.2.1.toList == (ByteArray.mk #[99, 116, 122]).toList) || (x3.2.1.toList == (ByteArray.mk #[112, 111, 112, 99, 110, 116]).toList)))) rfl (fun hc => ?_) (fun hc => ?_)
        · replace H := ite_t H hc
          refine AW2.seq ?_
          refine AW2.rg [.ks true 45 ([x1] : List Int).length (fl (eI .u8) ([x1] : List Int))] [2] [] [.k 2, .k 45] ⟨[(2, .p 2 0)], [(2, .st false [.ls 45 0 ([x1] : List Int).length, .d (.int .u8 x1)]), (45, .sl false 1 ([x1] : List Int).length (fl (eI .u8) ([x1] : List Int)))]⟩ (And.intro (And.intro (litK (eI .u8) ([x1] : List Int) (fun _ => rfl)) True.intro) True.intro) (by kernel_rfl) ?_
          refine AW2.ret ?_
          have H := Option.some.inj H
          subst H
          exact retP_mk2 (And.intro (Nat.le_refl ([x1] : List Int).length) (And.intro (dfl (eI .u8) (dep_eI .u8) ([x1] : List Int)) True.intro)) (by kernel_rfl)
        · replace H := ite_f H hc
          refine AW2.seq ?_
          obtain ⟨h9, H⟩ := gd_some H
          obtain ⟨h10, H⟩ := gd_some H
          obtain ⟨h11, H⟩ := gd_some H
          obtain ⟨x12, hx13, H⟩ := bind_some H
          refine AW2.rg [.r (.bool x12)] [2, 3, 48] [] [.k 2] ⟨[(2, .p 2 0), (3, .d (.int .u8 x1)), (48, .d (.bool x12))], [(2, .st false [.d .nils, .d (.int .u8 0)])]⟩ (And.intro (And.intro h9 (And.intro h10 (And.intro h11 (And.intro (c_strings_Contains (ByteArray.mk #[32, 101, 113, 32, 110, 101, 32, 108, 116, 32, 103, 116, 32, 108, 101, 32, 103, 101, 32]) (((ByteArray.mk #[32]) ++ (ByteArray.extract x3.2.1 (0 : Int).toNat (2 : Int).toNat)) ++ (ByteArray.mk #[32])) x12 hx13) True.intro)))) True.intro) (by kernel_rfl) ?_
          refine AW2.cond (b := x12) rfl (fun hc => ?_) (fun hc => ?_)
          · replace H := ite_t H hc
            refine AW2.seq ?_
            refine AW2.rg [.ks true 56 ([x1, x1] : List Int).length (fl (eI .u8) ([x1, x1] : List Int))] [2] [] [.k 2, .k 56] ⟨[(2, .p 2 0)], [(2, .st false [.ls 56 0 ([x1, x1] : List Int).length, .d (.int .u8 127)]), (56, .sl false 1 ([x1, x1] : List Int).length (fl (eI .u8) ([x1, x1] : List Int)))]⟩ (And.intro (And.intro (litK (eI .u8) ([x1, x1] : List Int) (fun _ => rfl)) True.intro) True.intro) (by kernel_rfl) ?_
            refine AW2.ret ?_
            have H := Option.some.inj H
            subst H
            exact retP_mk2 (And.intro (Nat.le_refl ([x1, x1] : List Int).length) (And.intro (dfl (eI .u8) (dep_eI .u8) ([x1, x1] : List Int)) True.intro)) (by kernel_rfl)
          · replace H := ite_f H hc
            refine AW2.skip ?_
            refine AW2.seq ?_
            refine AW2.rg [.ks true 60 ([x1, x1] : List Int).length (fl (eI .u8) ([x1, x1] : List Int))] [2] [] [.k 2, .k 60] ⟨[(2, .p 2 0)], [(2, .st false [.ls 60 0 ([x1, x1] : List Int).length, .d (.int .u8 x1)]), (60, .sl false 1 ([x1, x1] : List Int).length (fl (eI .u8) ([x1, x1] : List Int)))]⟩ (And.intro (And.intro (litK (eI .u8) ([x1, x1] : List Int) (fun _ => rfl)) True.intro) True.intro) (by kernel_rfl) ?_
            refine AW2.ret ?_
            have H := Option.some.inj H
            subst H
            exact retP_mk2 (And.intro (Nat.le_refl ([x1, x1] : List Int).length) (And.intro (dfl (eI .u8) (dep_eI .u8) ([x1, x1] : List Int)) True.intro)) (by kernel_rfl)

/- mandrel/ops.Sign -/
def g_ops_Sign (p0 : Int) : Option (Typ × Option Int) := ((g_ops_NameB p0).bind fun x1 => (if ((x1.toList == (ByteArray.mk #[]).toList) || (decide (p0 < (40 : Int)))) = true then some ((Typ.mk ([] : List Int) 0), (some 1)) else (if (decide (p0 ≤ (53 : Int))) = true then ((g_ops_own x1).bind fun x3 => some ((Typ.mk ([127] : List Int) x3), none)) else (if (decide (p0 ≤ (62 : Int))) = true then ((g_ops_own x1).bind fun x5 => some ((Typ.mk ([127, x5] : List Int) 0), none)) else (if (p0 == (63 : Int)) = true then some ((Typ.mk ([] : List Int) 127), none) else (if (p0 == (64 : Int)) = true then some ((Typ.mk ([127] : List Int) 127), none) else (if (decide (p0 ≤ (66 : Int))) = true then ((g_ops_own x1).bind fun x7 => some ((Typ.mk ([] : List Int) x7), none)) else ((g_ops_reckoned x1).bind fun x9 => some (x9, none)))))))))

theorem c_ops_Sign (p0 : Int) (r : Typ × Option Int) (H : g_ops_Sign p0 = some r) : CF E 85 [.int .u8 p0] (.tup [.agg (eTyp r.1), .err 45 r.2]) := by
  refine cf_of (A := F_ops_Sign) fn_ops_Sign rfl fun fr => ?_
  unfold g_ops_Sign at H
  refine AW2.seq ?_
  refine AW2.rg [.k 2] [0, 2] [] [.k 2] ⟨[(0, .d (.int .u8 p0)), (2, .p 2 0)], [(2, .st false [.d .nils, .d (.int .u8 0)])]⟩ (And.intro True.intro True.intro) (by kernel_rfl) ?_
  refine AW2.seq ?_
  obtain ⟨x1, hx2, H⟩ := bind_some H
  refine AW2.rg [.r (.str x1)] [0, 2, 4] [] [.k 2] ⟨[(0, .d (.int .u8 p0)), (2, .p 2 0), (4, .d (.str x1))], [(2, .st false [.d .nils, .d (.int .u8 0)])]⟩ (And.intro (And.intro (c_ops_NameB p0 x1 hx2) True.intro) True.intro) (by kernel_rfl) ?_
  refine AW2.seq ?_
  refine AW2.block ?_
  refine AW2.seq ?_
  refine AW2.reg [] rfl (YW.to ⟨[(0, .d (.int .u8 p0)), (2, .p 2 0), (4, .d (.str x1)), (7, .d (.bool ((x1.toList == (ByteArray.mk #[]).toList) || (decide (p0 < (40 : Int))))))], [(2, .st false [.d .nils, .d (.int .u8 0)])]⟩ ?qh11 ?h11)
  case h11 =>
    rcases bT (x1.toList == (ByteArray.mk #[]).toList) with hc1 | hc1
    · exact YW.fin [(10, true)] [] [0, 2, 4, 7] [(7, .d (.bool ((x1.toList == (ByteArray.mk #[]).toList) || (decide (p0 < (40 : Int))))))] [.k 2] _ (And.intro (And.intro hc1 (And.intro hc1 (And.intro hc1 True.intro))) (And.intro (ovB (orT (b := (decide (p0 < (40 : Int)))) hc1)) True.intro)) (by kernel_rfl) rfl
    · exact YW.fin [(10, false)] [] [0, 2, 4, 7] [(7, .d (.bool ((x1.toList == (ByteArray.mk #[]).toList) || (decide (p0 < (40 : Int))))))] [.k 2] _ (And.intro (And.intro hc1 (And.intro hc1 (And.intro hc1 True.intro))) (And.intro (ovB (Eq.trans (orF (b := (decide (p0 < (40 : Int)))) hc1) (Eq.refl (decide (p0 < (40 : Int)))))) True.intro)) (by kernel_rfl) rfl
  refine AW2.cond (b := ((x1.toList == (ByteArray.mk #[]).toList) || (decide (p0 < (40 : Int))))) rfl (fun hc => ?_) (fun hc => ?_)
  · replace H := ite_t H hc
    refine AW2.seq ?_
    refine AW2.rg [] [2, 3] [] [.k 2] ⟨[(2, .p 2 0), (3, .d (.err 45 (some 1)))], [(2, .st false [.d .nils, .d (.int .u8 0)])]⟩ (And.intro True.intro True.intro) (by kernel_rfl) ?_
    refine AW2.ret ?_
    have H := Option.some.inj H
    subst H
    exact retP_mk2 True.intro (by kernel_rfl)
  · replace H := ite_f H hc
    refine AW2.seq ?_
    refine AW2.rg [] [0, 2, 4, 16] [] [.k 2] ⟨[(0, .d (.int .u8 p0)), (2, .p 2 0), (4, .d (.str x1)), (16, .d (.bool (decide (p0 ≤ (53 : Int)))))], [(2, .st false [.d .nils, .d (.int .u8 0)])]⟩ (And.intro True.intro True.intro) (by kernel_rfl) ?_
    refine AW2.cond (b := (decide (p0 ≤ (53 : Int)))) rfl (fun hc => ?_) (fun hc => ?_)
    · replace H := ite_t H hc
      refine AW2.seq ?_
      obtain ⟨x3, hx4, H⟩ := bind_some H
      refine AW2.rg [.ks true 19 ([127] : List Int).length (fl (eI .u8) ([127] : List Int)), .r (.int .u8 x3)] [2, 3] [] [.k 2, .k 19] ⟨[(2, .p 2 0), (3, .d .nili)], [(2, .st false [.ls 19 0 ([127] : List Int).length, .d (.int .u8 x3)]), (19, .sl false 1 ([127] : List Int).length (fl (eI .u8) ([127] : List Int)))]⟩ (And.intro (And.intro (litK (eI .u8) ([127] : List Int) (fun _ => rfl)) (And.intro (c_ops_own x1 x3 hx4) True.intro)) True.intro) (by kernel_rfl) ?_
      refine AW2.ret ?_
      have H := Option.some.inj H
      subst H
      exact retP_mk2 (And.intro (Nat.le_refl ([127] : List Int).length) (And.intro (dfl (eI .u8) (dep_eI .u8) ([127] : List Int)) True.intro)) (by kernel_rfl)
    · replace H := ite_f H hc
      refine AW2.seq ?_
      refine AW2.rg [] [0, 2, 4, 23] [] [.k 2] ⟨[(0, .d (.int .u8 p0)), (2, .p 2 0), (4, .d (.str x1)), (23, .d (.bool (decide (p0 ≤ (62 : Int)))))], [(2, .st false [.d .nils, .d (.int .u8 0)])]⟩ (And.intro True.intro True.intro) (by kernel_rfl) ?_
      refine AW2.cond (b := (decide (p0 ≤ (62 : Int)))) rfl (fun hc => ?_) (fun hc => ?_)
      · replace H := ite_t H hc
        refine AW2.seq ?_
        obtain ⟨x5, hx6, H⟩ := bind_some H
        refine AW2.rg [.r (.int .u8 x5), .ks true 28 ([127, x5] : List Int).length (fl (eI .u8) ([127, x5] : List Int))] [2, 3] [] [.k 2, .k 28] ⟨[(2, .p 2 0), (3, .d .nili)], [(2, .st false [.ls 28 0 ([127, x5] : List Int).length, .d (.int .u8 0)]), (28, .sl false 1 ([127, x5] : List Int).length (fl (eI .u8) ([127, x5] : List Int)))]⟩ (And.intro (And.intro (c_ops_own x1 x5 hx6) (And.intro (litK (eI .u8) ([127, x5] : List Int) (fun _ => rfl)) True.intro)) True.intro) (by kernel_rfl) ?_
        refine AW2.ret ?_
        have H := Option.some.inj H
        subst H
        exact retP_mk2 (And.intro (Nat.le_refl ([127, x5] : List Int).length) (And.intro (dfl (eI .u8) (dep_eI .u8) ([127, x5] : List Int)) True.intro)) (by kernel_rfl)
      · replace H := ite_f H hc
        refine AW2.seq ?_
        refine AW2.rg [] [0, 2, 4, 30] [] [.k 2] ⟨[(0, .d (.int .u8 p0)), (2, .p 2 0), (4, .d (.str x1)), (30, .d (.bool (p0 == (63 : Int))))], [(2, .st false [.d .nils, .d (.int .u8 0)])]⟩ (And.intro True.intro True.intro) (by kernel_rfl) ?_
        refine AW2.cond (b := (p0 == (63 : Int))) rfl (fun hc => ?_) (fun hc => ?_)
        · replace H := ite_t H hc
          refine AW2.seq ?_
          refine AW2.rg [] [2, 3] [] [.k 2] ⟨[(2, .p 2 0), (3, .d .nili)], [(2, .st false [.d .nils, .d (.int .u8 127)])]⟩ (And.intro True.intro True.intro) (by kernel_rfl) ?_
          refine AW2.ret ?_
          have H := Option.some.inj H
          subst H
          exact retP_mk2 True.intro (by kernel_rfl)
        · replace H := ite_f H hc
          refine AW2.seq ?_
          refine AW2.rg [] [0, 2, 4, 34] [] [.k 2] ⟨[(0, .d (.int .u8 p0)), (2, .p 2 0), (4, .d (.str x1)), (34, .d (.bool (p0 == (64 : Int))))], [(2, .st false [.d .nils, .d (.int .u8 0)])]⟩ (And.intro True.intro True.intro) (by kernel_rfl) ?_
          refine AW2.cond (b := (p0 == (64 : Int))) rfl (fun hc => ?_) (fun hc => ?_)
          · replace H := ite_t H hc
            refine AW2.seq ?_
            refine AW2.rg [.ks true 37 ([127] : List Int).length (fl (eI .u8) ([127] : List Int))] [2, 3] [] [.k 2, .k 37] ⟨[(2, .p 2 0), (3, .d .nili)], [(2, .st false [.ls 37 0 ([127] : List Int).length, .d (.int .u8 127)]), (37, .sl false 1 ([127] : List Int).length (fl (eI .u8) ([127] : List Int)))]⟩ (And.intro (And.intro (litK (eI .u8) ([127] : List Int) (fun _ => rfl)) True.intro) True.intro) (by kernel_rfl) ?_
            refine AW2.ret ?_
            have H := Option.some.inj H
            subst H
            exact retP_mk2 (And.intro (Nat.le_refl ([127] : List Int).length) (And.intro (dfl (eI .u8) (dep_eI .u8) ([127] : List Int)) True.intro)) (by kernel_rfl)
          · replace H := ite_f H hc
            refine AW2.seq ?_
            refine AW2.rg [] [2, 4, 39] [] [.k 2] ⟨[(2, .p 2 0), (4, .d (.str x1)), (39, .d (.bool (decide (p0 ≤ (66 : Int)))))], [(2, .st false [.d .nils, .d (.int .u8 0)])]⟩ (And.intro True.intro True.intro) (by kernel_rfl) ?_
            refine AW2.cond (b := (decide (p0 ≤ (66 : Int)))) rfl (fun hc => ?_) (fun hc => ?_)
            · replace H := ite_t H hc
              refine AW2.seq ?_
              obtain ⟨x7, hx8, H⟩ := bind_some H
              refine AW2.rg [.r (.int .u8 x7)] [2, 3] [] [.k 2] ⟨[(2, .p 2 0), (3, .d .nili)], [(2, .st false [.d .nils, .d (.int .u8 x7)])]⟩ (And.intro (And.intro (c_ops_own x1 x7 hx8) True.intro) True.intro) (by kernel_rfl) ?_
              refine AW2.ret ?_
              have H := Option.some.inj H
              subst H
              exact retP_mk2 True.intro (by kernel_rfl)
            · replace H := ite_f H hc
              refine AW2.skip ?_
              refine AW2.seq ?_
              obtain ⟨x9, hx10, H⟩ := bind_some H
              refine AW2.rg [.r (.agg (eTyp x9))] [2, 3] [] [.k 2] ⟨[(2, .p 2 0), (3, .d .nili)], [(2, .st false (eD (eTyp x9)))]⟩ (And.intro (And.intro (c_ops_reckoned x1 x9 hx10) True.intro) True.intro) (by kernel_rfl) ?_
              refine AW2.ret ?_
              have H := Option.some.inj H
              subst H
              exact retP_mk2 True.intro (by kernel_rfl)

/- internal/stringslite.CutSuffix -/
def g_stringslite_CutSuffix (p0 : ByteArray) (p1 : ByteArray) : Option (ByteArray × Bool) := ((g_stringslite_HasSuffix p0 p1).bind fun x1 => (if (!x1) = true then some (p0, false) else gd (0 ≤ (0 : Int) ∧ (0 : Int) ≤ (wI ((p0.size : Int) - (p1.size : Int))) ∧ (wI ((p0.size : Int) - (p1.size : Int))) ≤ (p0.size : Int)) (some ((ByteArray.extract p0 (0 : Int).toNat ((wI ((p0.size : Int) - (p1.size : Int))) : Int).toNat), true))))

theorem c_stringslite_CutSuffix (p0 : ByteArray) (p1 : ByteArray) (r : ByteArray × Bool) (H : g_stringslite_CutSuffix p0 p1 = some r) : CF E 100 [.str p0, .str p1] (.tup [.str r.1, .bool r.2]) := by
  refine cf_of (A := F_stringslite_CutSuffix) fn_stringslite_CutSuffix rfl fun fr => ?_
  unfold g_stringslite_CutSuffix at H
  refine AW2.seq ?_
  refine AW2.rg [] [0, 1] [] [] ⟨[(0, .d (.str p0)), (1, .d (.str p1))], []⟩ (And.intro True.intro True.intro) (by kernel_rfl) ?_
  refine AW2.seq ?_
  refine AW2.seq ?_
  obtain ⟨x1, hx2, H⟩ := bind_some H
  refine AW2.rg [.r (.bool x1)] [0, 1, 9] [] [] ⟨[(0, .d (.str p0)), (1, .d (.str p1)), (9, .d (.bool (!x1)))], []⟩ (And.intro (And.intro (c_stringslite_HasSuffix p0 p1 x1 hx2) True.intro) True.intro) (by kernel_rfl) ?_
  refine AW2.cond (b := (!x1)) rfl (fun hc => ?_) (fun hc => ?_)
  · replace H := ite_t H hc
    refine AW2.seq ?_
    refine AW2.rg [] [4, 5] [] [] ⟨[(4, .d (.str p0)), (5, .d (.bool false))], []⟩ (And.intro True.intro True.intro) (by kernel_rfl) ?_
    refine AW2.ret ?_
    have H := Option.some.inj H
    subst H
    exact retP_mk2 True.intro (by kernel_rfl)
  · replace H := ite_f H hc
    refine AW2.skip ?_
    refine AW2.seq ?_
    obtain ⟨h3, H⟩ := gd_some H
    refine AW2.rg [] [4, 5] [] [] ⟨[(4, .d (.str (ByteArray.extract p0 (0 : Int).toNat ((wI ((p0.size : Int) - (p1.size : Int))) : Int).toNat))), (5, .d (.bool true))], []⟩ (And.intro (And.intro h3 True.intro) True.intro) (by kernel_rfl) ?_
    refine AW2.ret ?_
    have H := Option.some.inj H
    subst H
    exact retP_mk2 True.intro (by kernel_rfl)

/- strings.CutSuffix -/
def g_strings_CutSuffix (p0 : ByteArray) (p1 : ByteArray) : Option (ByteArray × Bool) := ((g_stringslite_CutSuffix p0 p1).bind fun x1 => some (x1.1, x1.2))

theorem c_strings_CutSuffix (p0 : ByteArray) (p1 : ByteArray) (r : ByteArray × Bool) (H : g_strings_CutSuffix p0 p1 = some r) : CF E 91 [.str p0, .str p1] (.tup [.str r.1, .bool r.2]) := by
  refine cf_of (A := F_strings_CutSuffix) fn_strings_CutSuffix rfl fun fr => ?_
  unfold g_strings_CutSuffix at H
  refine AW2.seq ?_
  refine AW2.rg [] [0, 1] [] [] ⟨[(0, .d (.str p0)), (1, .d (.str p1))], []⟩ (And.intro True.intro True.intro) (by kernel_rfl) ?_
  refine AW2.seq ?_
  obtain ⟨x1, hx2, H⟩ := bind_some H
  refine AW2.rg [.r (.tup [.str x1.1, .bool x1.2])] [4, 5] [] [] ⟨[(4, .d (.str x1.1)), (5, .d (.bool x1.2))], []⟩ (And.intro (And.intro (c_stringslite_CutSuffix p0 p1 x1 hx2) True.intro) True.intro) (by kernel_rfl) ?_
  refine AW2.ret ?_
  have H := Option.some.inj H
  subst H
  exact retP_mk2 True.intro (by kernel_rfl)

/- internal/stringslite.TrimSuffix -/
def g_stringslite_TrimSuffix (p0 : ByteArray) (p1 : ByteArray) : Option (ByteArray) := ((g_stringslite_HasSuffix p0 p1).bind fun x1 => (if x1 = true then gd (0 ≤ (0 : Int) ∧ (0 : Int) ≤ (wI ((p0.size : Int) - (p1.size : Int))) ∧ (wI ((p0.size : Int) - (p1.size : Int))) ≤ (p0.size : Int)) (some (ByteArray.extract p0 (0 : Int).toNat ((wI ((p0.size : Int) - (p1.size : Int))) : Int).toNat)) else some p0))

theorem c_stringslite_TrimSuffix (p0 : ByteArray) (p1 : ByteArray) (r : ByteArray) (H : g_stringslite_TrimSuffix p0 p1 = some r) : CF E 101 [.str p0, .str p1] (.str r) := by
  refine cf_of (A := F_stringslite_TrimSuffix) fn_stringslite_TrimSuffix rfl fun fr => ?_
  unfold g_stringslite_TrimSuffix at H
  refine AW2.seq ?_
  refine AW2.rg [] [0, 1] [] [] ⟨[(0, .d (.str p0)), (1, .d (.str p1))], []⟩ (And.intro True.intro True.intro) (by kernel_rfl) ?_
  refine AW2.seq ?_
  refine AW2.seq ?_
  obtain ⟨x1, hx2, H⟩ := bind_some H
  refine AW2.rg [.r (.bool x1)] [0, 1, 7] [] [] ⟨[(0, .d (.str p0)), (1, .d (.str p1)), (7, .d (.bool x1))], []⟩ (And.intro (And.intro (c_stringslite_HasSuffix p0 p1 x1 hx2) True.intro) True.intro) (by kernel_rfl) ?_
  refine AW2.cond (b := x1) rfl (fun hc => ?_) (fun hc => ?_)
  · replace H := ite_t H hc
    refine AW2.seq ?_
    obtain ⟨h3, H⟩ := gd_some H
    refine AW2.rg [] [4] [] [] ⟨[(4, .d (.str (ByteArray.extract p0 (0 : Int).toNat ((wI ((p0.size : Int) - (p1.size : Int))) : Int).toNat)))], []⟩ (And.intro (And.intro h3 True.intro) True.intro) (by kernel_rfl) ?_
    refine AW2.ret ?_
    have H := Option.some.inj H
    subst H
    exact retP_mk2 True.intro (by kernel_rfl)
  · replace H := ite_f H hc
    refine AW2.skip ?_
    refine AW2.seq ?_
    refine AW2.rg [] [4] [] [] ⟨[(4, .d (.str p0))], []⟩ (And.intro True.intro True.intro) (by kernel_rfl) ?_
    refine AW2.ret ?_
    have H := Option.some.inj H
    subst H
    exact retP_mk2 True.intro (by kernel_rfl)

/- strings.TrimSuffix -/
def g_strings_TrimSuffix (p0 : ByteArray) (p1 : ByteArray) : Option (ByteArray) := ((g_stringslite_TrimSuffix p0 p1).bind fun x1 => some x1)

theorem c_strings_TrimSuffix (p0 : ByteArray) (p1 : ByteArray) (r : ByteArray) (H : g_strings_TrimSuffix p0 p1 = some r) : CF E 92 [.str p0, .str p1] (.str r) := by
  refine cf_of (A := F_strings_TrimSuffix) fn_strings_TrimSuffix rfl fun fr => ?_
  unfold g_strings_TrimSuffix at H
  refine AW2.seq ?_
  refine AW2.rg [] [0, 1] [] [] ⟨[(0, .d (.str p0)), (1, .d (.str p1))], []⟩ (And.intro True.intro True.intro) (by kernel_rfl) ?_
  refine AW2.seq ?_
  obtain ⟨x1, hx2, H⟩ := bind_some H
  refine AW2.rg [.r (.str x1)] [4] [] [] ⟨[(4, .d (.str x1))], []⟩ (And.intro (And.intro (c_stringslite_TrimSuffix p0 p1 x1 hx2) True.intro) True.intro) (by kernel_rfl) ?_
  refine AW2.ret ?_
  have H := Option.some.inj H
  subst H
  exact retP_mk2 True.intro (by kernel_rfl)

/- mandrel/ops.Bytes -/
def g_ops_Bytes (p0 : Int) : Option (Int × Bool × Option Int) := ((g_ops_NameB p0).bind fun x1 => (if ((x1.toList == (ByteArray.mk #[]).toList) || ((decide (p0 < (40 : Int))) || (decide (p0 > (62 : Int))))) = true then some (0, false, (some 1)) else ((g_strings_CutSuffix x1 (ByteArray.mk #[95, 115])).bind fun x3 => ((g_strings_TrimSuffix x3.1 (ByteArray.mk #[95, 117])).bind fun x5 => ((g_strings_HasSuffix x5 (ByteArray.mk #[56])).bind fun x7 => (if x7 = true then some (1, x3.2, none) else ((g_strings_HasSuffix x5 (ByteArray.mk #[49, 54])).bind fun x9 => (if x9 = true then some (2, x3.2, none) else ((g_strings_HasSuffix x5 (ByteArray.mk #[51, 50])).bind fun x11 => ((if x11 = true then some true else ((g_ops_own x1).bind fun x13 => some (x13 == (127 : Int))))).bind (fun j15 => (if j15 = true then some (4, x3.2, none) else some (8, x3.2, none))))))))))))

theorem c_ops_Bytes (p0 : Int) (r : Int × Bool × Option Int) (H : g_ops_Bytes p0 = some r) : CF E 86 [.int .u8 p0] (.tup [.int .i64 r.1, .bool r.2.1, .err 45 r.2.2]) := by
  refine cf_of (A := F_ops_Bytes) fn_ops_Bytes rfl fun fr => ?_
  unfold g_ops_Bytes at H
  refine AW2.seq ?_
  refine AW2.rg [] [0] [] [] ⟨[(0, .d (.int .u8 p0))], []⟩ (And.intro True.intro True.intro) (by kernel_rfl) ?_
  refine AW2.seq ?_
  obtain ⟨x1, hx2, H⟩ := bind_some H
  refine AW2.rg [.r (.str x1)] [0, 5] [] [] ⟨[(0, .d (.int .u8 p0)), (5, .d (.str x1))], []⟩ (And.intro (And.intro (c_ops_NameB p0 x1 hx2) True.intro) True.intro) (by kernel_rfl) ?_
  refine AW2.seq ?_
  refine AW2.seq ?_
  refine AW2.reg [] rfl (YW.to ⟨[(5, .d (.str x1)), (19, .d (.bool ((x1.toList == (ByteArray.mk #[]).toList) || ((decide (p0 < (40 : Int))) || (decide (p0 > (62 : Int)))))))], []⟩ ?qh19 ?h19)
  case h19 =>
    rcases bT (x1.toList == (ByteArray.mk #[]).toList) with hc1 | hc1
    · exact YW.fin [(12, true), (16, true)] [] [5, 19] [(19, .d (.bool ((x1.toList == (ByteArray.mk #[]).toList) || ((decide (p0 < (40 : Int))) || (decide (p0 > (62 : Int)))))))] [] _ (And.intro (And.intro hc1 (And.intro hc1 (And.intro hc1 (And.intro (Eq.refl true) (And.intro (Eq.refl true) (And.intro (Eq.refl true) True.intro)))))) (And.intro (ovB (orT (b := ((decide (p0 < (40 : Int))) || (decide (p0 > (62 : Int))))) hc1)) True.intro)) (by kernel_rfl) rfl
    · rcases bT (decide (p0 < (40 : Int))) with hc2 | hc2
      · exact YW.fin [(12, false), (16, true)] [] [5, 19] [(19, .d (.bool ((x1.toList == (ByteArray.mk #[]).toList) || ((decide (p0 < (40 : Int))) || (decide (p0 > (62 : Int)))))))] [] _ (And.intro (And.intro hc1 (And.intro hc1 (And.intro hc1 (And.intro hc2 (And.intro hc2 (And.intro hc2 True.intro)))))) (And.intro (ovB (Eq.trans (orF (b := ((decide (p0 < (40 : Int))) || (decide (p0 > (62 : Int))))) hc1) (orT (b := (decide (p0 > (62 : Int)))) hc2))) True.intro)) (by kernel_rfl) rfl
      · exact YW.fin [(12, false), (16, false)] [] [5, 19] [(19, .d (.bool ((x1.toList == (ByteArray.mk #[]).toList) || ((decide (p0 < (40 : Int))) || (decide (p0 > (62 : Int)))))))] [] _ (And.intro (And.intro hc1 (And.intro hc1 (And.intro hc1 (And.intro hc2 (And.intro hc2 (And.intro hc2 True.intro)))))) (And.intro (ovB (Eq.trans (orF (b := ((decide (p0 < (40 : Int))) || (decide (p0 > (62 : Int))))) hc1) (Eq.trans (orF (b := (decide (p0 > (62 : Int)))) hc2) (Eq.refl (decide (p0 > (62 : Int))))))) True.intro)) (by kernel_rfl) rfl
  refine AW2.cond (b := ((x1.toList == (ByteArray.mk #[]).toList) || ((decide (p0 < (40 : Int))) || (decide (p0 > (62 : Int)))))) rfl (fun hc => ?_) (fun hc => ?_)
  · replace H := ite_t H hc
    refine AW2.seq ?_
    refine AW2.rg [] [2, 3, 4] [] [] ⟨[(2, .d (.int .i64 0)), (3, .d (.bool false)), (4, .d (.err 45 (some 1)))], []⟩ (And.intro True.intro True.intro) (by kernel_rfl) ?_
    refine AW2.ret ?_
    have H := Option.some.inj H
    subst H
    exact retP_mk2 True.intro (by kernel_rfl)
  · replace H := ite_f H hc
    refine AW2.skip ?_
    refine AW2.seq ?_
    obtain ⟨x3, hx4, H⟩ := bind_some H
    refine AW2.rg [.r (.tup [.str x3.1, .bool x3.2])] [5, 6, 7] [] [] ⟨[(5, .d (.str x1)), (6, .d (.str x3.1)), (7, .d (.bool x3.2))], []⟩ (And.intro (And.intro (c_strings_CutSuffix x1 (ByteArray.mk #[95, 115]) x3 hx4) True.intro) True.intro) (by kernel_rfl) ?_
    refine AW2.seq ?_
    obtain ⟨x5, hx6, H⟩ := bind_some H
    refine AW2.rg [.r (.str x5)] [5, 6, 7] [] [] ⟨[(5, .d (.str x1)), (6, .d (.str x5)), (7, .d (.bool x3.2))], []⟩ (And.intro (And.intro (c_strings_TrimSuffix x3.1 (ByteArray.mk #[95, 117]) x5 hx6) True.intro) True.intro) (by kernel_rfl) ?_
    refine AW2.seq ?_
    refine AW2.block ?_
    refine AW2.seq ?_
    obtain ⟨x7, hx8, H⟩ := bind_some H
    refine AW2.rg [.r (.bool x7)] [5, 6, 7, 28] [] [] ⟨[(5, .d (.str x1)), (6, .d (.str x5)), (7, .d (.bool x3.2)), (28, .d (.bool x7))], []⟩ (And.intro (And.intro (c_strings_HasSuffix x5 (ByteArray.mk #[56]) x7 hx8) True.intro) True.intro) (by kernel_rfl) ?_
    refine AW2.cond (b := x7) rfl (fun hc => ?_) (fun hc => ?_)
    · replace H := ite_t H hc
      refine AW2.seq ?_
      refine AW2.rg [] [2, 3, 4] [] [] ⟨[(2, .d (.int .i64 1)), (3, .d (.bool x3.2)), (4, .d .nili)], []⟩ (And.intro True.intro True.intro) (by kernel_rfl) ?_
      refine AW2.ret ?_
      have H := Option.some.inj H
      subst H
      exact retP_mk2 True.intro (by kernel_rfl)
    · replace H := ite_f H hc
      refine AW2.seq ?_
      obtain ⟨x9, hx10, H⟩ := bind_some H
      refine AW2.rg [.r (.bool x9)] [5, 6, 7, 32] [] [] ⟨[(5, .d (.str x1)), (6, .d (.str x5)), (7, .d (.bool x3.2)), (32, .d (.bool x9))], []⟩ (And.intro (And.intro (c_strings_HasSuffix x5 (ByteArray.mk #[49, 54]) x9 hx10) True.intro) True.intro) (by kernel_rfl) ?_
      refine AW2.cond (b := x9) rfl (fun hc => ?_) (fun hc => ?_)
      · replace H := ite_t H hc
        refine AW2.seq ?_
        refine AW2.rg [] [2, 3, 4] [] [] ⟨[(2, .d (.int .i64 2)), (3, .d (.bool x3.2)), (4, .d .nili)], []⟩ (And.intro True.intro True.intro) (by kernel_rfl) ?_
        refine AW2.ret ?_
        have H := Option.some.inj H
        subst H
        exact retP_mk2 True.intro (by kernel_rfl)
      · replace H := ite_f H hc
        refine AW2.seq ?_
        obtain ⟨x11, hx12, H⟩ := bind_some H
        obtain ⟨j15, H17, H⟩ := bind_some H
        refine AW2.reg [] rfl (YW.to ⟨[(7, .d (.bool x3.2)), (36, .d (.bool j15))], []⟩ ?qh18 ?h18)
        case h18 =>
          have H := H17
          rcases bT x11 with hc1 | hc1
          · replace H := ite_t H hc1
            have H := Option.some.inj H
            subst H
            exact YW.fin [(39, true)] [.r (.bool x11)] [7, 36] [] [] _ (And.intro (And.intro (c_strings_HasSuffix x5 (ByteArray.mk #[51, 50]) x11 hx12) (And.intro hc1 (And.intro hc1 (And.intro hc1 (And.intro hc1 True.intro))))) True.intro) (by kernel_rfl) rfl
          · replace H := ite_f H hc1
            obtain ⟨x13, hx14, H⟩ := bind_some H
            have H := Option.some.inj H
            subst H
            exact YW.fin [(39, false)] [.r (.bool x11), .r (.int .u8 x13)] [7, 36] [] [] _ (And.intro (And.intro (c_strings_HasSuffix x5 (ByteArray.mk #[51, 50]) x11 hx12) (And.intro hc1 (And.intro hc1 (And.intro (c_ops_own x1 x13 hx14) (And.intro hc1 (And.intro hc1 True.intro)))))) True.intro) (by kernel_rfl) rfl
        refine AW2.cond (b := j15) rfl (fun hc => ?_) (fun hc => ?_)
        · replace H := ite_t H hc
          refine AW2.seq ?_
          refine AW2.rg [] [2, 3, 4] [] [] ⟨[(2, .d (.int .i64 4)), (3, .d (.bool x3.2)), (4, .d .nili)], []⟩ (And.intro True.intro True.intro) (by kernel_rfl) ?_
          refine AW2.ret ?_
          have H := Option.some.inj H
          subst H
          exact retP_mk2 True.intro (by kernel_rfl)
        · replace H := ite_f H hc
          refine AW2.skip ?_
          refine AW2.seq ?_
          refine AW2.rg [] [2, 3, 4] [] [] ⟨[(2, .d (.int .i64 8)), (3, .d (.bool x3.2)), (4, .d .nili)], []⟩ (And.intro True.intro True.intro) (by kernel_rfl) ?_
          refine AW2.ret ?_
          have H := Option.some.inj H
          subst H
          exact retP_mk2 True.intro (by kernel_rfl)

/- mandrel/ops.Form -/
def g_ops_Form (p0 : Int) : Option (Int × Option Int) := ((g_ops_NameB p0).bind fun x1 => (if (x1.toList == (ByteArray.mk #[]).toList) = true then some (0, (some 1)) else (if ((p0 == (2 : Int)) || (p0 == (3 : Int))) = true then some (6, none) else (if (p0 == (4 : Int)) = true then some (7, none) else (if (p0 == (14 : Int)) = true then some (8, none) else (if (p0 == (17 : Int)) = true then some (9, none) else (if ((p0 == (12 : Int)) || ((p0 == (13 : Int)) || ((p0 == (16 : Int)) || ((decide (p0 ≥ (32 : Int))) && (decide (p0 ≤ (36 : Int))))))) = true then some (3, none) else (if ((decide (p0 ≥ (40 : Int))) && (decide (p0 ≤ (62 : Int)))) = true then some (4, none) else (if ((p0 == (63 : Int)) || (p0 == (64 : Int))) = true then some (5, none) else (if (p0 == (65 : Int)) = true then some (1, none) else (if (p0 == (66 : Int)) = true then some (2, none) else some (0, none))))))))))))

theorem c_ops_Form (p0 : Int) (r : Int × Option Int) (H : g_ops_Form p0 = some r) : CF E 87 [.int .u8 p0] (.tup [.int .i64 r.1, .err 45 r.2]) := by
  refine cf_of (A := F_ops_Form) fn_ops_Form rfl fun fr => ?_
  unfold g_ops_Form at H
  refine AW2.seq ?_
  refine AW2.rg [] [0] [] [] ⟨[(0, .d (.int .u8 p0))], []⟩ (And.intro True.intro True.intro) (by kernel_rfl) ?_
  refine AW2.seq ?_
  refine AW2.block ?_
  refine AW2.seq ?_
  obtain ⟨x1, hx2, H⟩ := bind_some H
  refine AW2.rg [.r (.str x1)] [0, 4] [] [] ⟨[(0, .d (.int .u8 p0)), (4, .d (.bool (x1.toList == (ByteArray.mk #[]).toList)))], []⟩ (And.intro (And.intro (c_ops_NameB p0 x1 hx2) True.intro) True.intro) (by kernel_rfl) ?_
  refine AW2.cond (b := (x1.toList == (ByteArray.mk #[]).toList)) rfl (fun hc => ?_) (fun hc => ?_)
  · replace H := ite_t H hc
    refine AW2.seq ?_
    refine AW2.rg [] [2, 3] [] [] ⟨[(2, .d (.int .i64 0)), (3, .d (.err 45 (some 1)))], []⟩ (And.intro True.intro True.intro) (by kernel_rfl) ?_
    refine AW2.ret ?_
    have H := Option.some.inj H
    subst H
    exact retP_mk2 True.intro (by kernel_rfl)
  · replace H := ite_f H hc
    refine AW2.seq ?_
    refine AW2.reg [] rfl (YW.to ⟨[(0, .d (.int .u8 p0)), (9, .d (.bool ((p0 == (2 : Int)) || (p0 == (3 : Int)))))], []⟩ ?qh6 ?h6)
    case h6 =>
      rcases bT (p0 == (2 : Int)) with hc1 | hc1
      · exact YW.fin [(12, true)] [] [0, 9] [(9, .d (.bool ((p0 == (2 : Int)) || (p0 == (3 : Int)))))] [] _ (And.intro (And.intro hc1 (And.intro hc1 (And.intro hc1 True.intro))) (And.intro (ovB (orT (b := (p0 == (3 : Int))) hc1)) True.intro)) (by kernel_rfl) rfl
      · exact YW.fin [(12, false)] [] [0, 9] [(9, .d (.bool ((p0 == (2 : Int)) || (p0 == (3 : Int)))))] [] _ (And.intro (And.intro hc1 (And.intro hc1 (And.intro hc1 True.intro))) (And.intro (ovB (Eq.trans (orF (b := (p0 == (3 : Int))) hc1) (Eq.refl (p0 == (3 : Int))))) True.intro)) (by kernel_rfl) rfl
    refine AW2.cond (b := ((p0 == (2 : Int)) || (p0 == (3 : Int)))) rfl (fun hc => ?_) (fun hc => ?_)
    · replace H := ite_t H hc
      refine AW2.seq ?_
      refine AW2.rg [] [2, 3] [] [] ⟨[(2, .d (.int .i64 6)), (3, .d .nili)], []⟩ (And.intro True.intro True.intro) (by kernel_rfl) ?_
      refine AW2.ret ?_
      have H := Option.some.inj H
      subst H
      exact retP_mk2 True.intro (by kernel_rfl)
    · replace H := ite_f H hc
      refine AW2.seq ?_
      refine AW2.rg [] [0, 16] [] [] ⟨[(0, .d (.int .u8 p0)), (16, .d (.bool (p0 == (4 : Int))))], []⟩ (And.intro True.intro True.intro) (by kernel_rfl) ?_
      refine AW2.cond (b := (p0 == (4 : Int))) rfl (fun hc => ?_) (fun hc => ?_)
      · replace H := ite_t H hc
        refine AW2.seq ?_
        refine AW2.rg [] [2, 3] [] [] ⟨[(2, .d (.int .i64 7)), (3, .d .nili)], []⟩ (And.intro True.intro True.intro) (by kernel_rfl) ?_
        refine AW2.ret ?_
        have H := Option.some.inj H
        subst H
        exact retP_mk2 True.intro (by kernel_rfl)
      · replace H := ite_f H hc
        refine AW2.seq ?_
        refine AW2.rg [] [0, 19] [] [] ⟨[(0, .d (.int .u8 p0)), (19, .d (.bool (p0 == (14 : Int))))], []⟩ (And.intro True.intro True.intro) (by kernel_rfl) ?_
        refine AW2.cond (b := (p0 == (14 : Int))) rfl (fun hc => ?_) (fun hc => ?_)
        · replace H := ite_t H hc
          refine AW2.seq ?_
          refine AW2.rg [] [2, 3] [] [] ⟨[(2, .d (.int .i64 8)), (3, .d .nili)], []⟩ (And.intro True.intro True.intro) (by kernel_rfl) ?_
          refine AW2.ret ?_
          have H := Option.some.inj H
          subst H
          exact retP_mk2 True.intro (by kernel_rfl)
        · replace H := ite_f H hc
          refine AW2.seq ?_
          refine AW2.rg [] [0, 22] [] [] ⟨[(0, .d (.int .u8 p0)), (22, .d (.bool (p0 == (17 : Int))))], []⟩ (And.intro True.intro True.intro) (by kernel_rfl) ?_
          refine AW2.cond (b := (p0 == (17 : Int))) rfl (fun hc => ?_) (fun hc => ?_)
          · replace H := ite_t H hc
            refine AW2.seq ?_
            refine AW2.rg [] [2, 3] [] [] ⟨[(2, .d (.int .i64 9)), (3, .d .nili)], []⟩ (And.intro True.intro True.intro) (by kernel_rfl) ?_
            refine AW2.ret ?_
            have H := Option.some.inj H
            subst H
            exact retP_mk2 True.intro (by kernel_rfl)
          · replace H := ite_f H hc
            refine AW2.seq ?_
            refine AW2.reg [] rfl (YW.to ⟨[(0, .d (.int .u8 p0)), (25, .d (.bool ((p0 == (12 : Int)) || ((p0 == (13 : Int)) || ((p0 == (16 : Int)) || ((decide (p0 ≥ (32 : Int))) && (decide (p0 ≤ (36 : Int)))))))))], []⟩ ?qh5 ?h5)
            case h5 =>
              rcases bT (p0 == (12 : Int)) with hc1 | hc1
              · exact YW.fin [(28, true), (32, true), (36, true)] [] [0, 25] [(25, .d (.bool ((p0 == (12 : Int)) || ((p0 == (13 : Int)) || ((p0 == (16 : Int)) || ((decide (p0 ≥ (32 : Int))) && (decide (p0 ≤ (36 : Int)))))))))] [] _ (And.intro (And.intro hc1 (And.intro hc1 (And.intro hc1 (And.intro (Eq.refl true) (And.intro (Eq.refl true) (And.intro (Eq.refl true) (And.intro (Eq.refl true) (And.intro (Eq.refl true) (And.intro (Eq.refl true) (And.intro (Eq.refl true) (And.intro (Eq.refl true) True.intro))))))))))) (And.intro (ovB (orT (b := ((p0 == (13 : Int)) || ((p0 == (16 : Int)) || ((decide (p0 ≥ (32 : Int))) && (decide (p0 ≤ (36 : Int))))))) hc1)) True.intro)) (by kernel_rfl) rfl
              · rcases bT (p0 == (13 : Int)) with hc2 | hc2
                · exact YW.fin [(28, false), (32, true), (36, true)] [] [0, 25] [(25, .d (.bool ((p0 == (12 : Int)) || ((p0 == (13 : Int)) || ((p0 == (16 : Int)) || ((decide (p0 ≥ (32 : Int))) && (decide (p0 ≤ (36 : Int)))))))))] [] _ (And.intro (And.intro hc1 (And.intro hc1 (And.intro hc1 (And.intro hc2 (And.intro hc2 (And.intro hc2 (And.intro (Eq.refl true) (And.intro (Eq.refl true) (And.intro (Eq.refl true) (And.intro (Eq.refl true) (And.intro (Eq.refl true) True.intro))))))))))) (And.intro (ovB (Eq.trans (orF (b := ((p0 == (13 : Int)) || ((p0 == (16 : Int)) || ((decide (p0 ≥ (32 : Int))) && (decide (p0 ≤ (36 : Int))))))) hc1) (orT (b := ((p0 == (16 : Int)) || ((decide (p0 ≥ (32 : Int))) && (decide (p0 ≤ (36 : Int)))))) hc2))) True.intro)) (by kernel_rfl) rfl
                · rcases bT (p0 == (16 : Int)) with hc3 | hc3
                  · exact YW.fin [(28, false), (32, false), (36, true)] [] [0, 25] [(25, .d (.bool ((p0 == (12 : Int)) || ((p0 == (13 : Int)) || ((p0 == (16 : Int)) || ((decide (p0 ≥ (32 : Int))) && (decide (p0 ≤ (36 : Int)))))))))] [] _ (And.intro (And.intro hc1 (And.intro hc1 (And.intro hc1 (And.intro hc2 (And.intro hc2 (And.intro hc2 (And.intro hc3 (And.intro hc3 (And.intro hc3 (And.intro hc3 (And.intro hc3 True.intro))))))))))) (And.intro (ovB (Eq.trans (orF (b := ((p0 == (13 : Int)) || ((p0 == (16 : Int)) || ((decide (p0 ≥ (32 : Int))) && (decide (p0 ≤ (36 : Int))))))) hc1) (Eq.trans (orF (b := ((p0 == (16 : Int)) || ((decide (p0 ≥ (32 : Int))) && (decide (p0 ≤ (36 : Int)))))) hc2) (orT (b := ((decide (p0 ≥ (32 : Int))) && (decide (p0 ≤ (36 : Int))))) hc3)))) True.intro)) (by kernel_rfl) rfl
                  · rcases bT (decide (p0 ≥ (32 : Int))) with hc4 | hc4
                    · exact YW.fin [(28, false), (32, false), (36, false), (39, true)] [] [0, 25] [(25, .d (.bool ((p0 == (12 : Int)) || ((p0 == (13 : Int)) || ((p0 == (16 : Int)) || ((decide (p0 ≥ (32 : Int))) && (decide (p0 ≤ (36 : Int)))))))))] [] _ (And.intro (And.intro hc1 (And.intro hc1 (And.intro hc1 (And.intro hc2 (And.intro hc2 (And.intro hc2 (And.intro hc3 (And.intro hc3 (And.intro hc3 (And.intro hc4 (And.intro hc4 (And.intro hc3 (And.intro hc4 (And.intro hc3 True.intro)))))))))))))) (And.intro (ovB (Eq.trans (orF (b := ((p0 == (13 : Int)) || ((p0 == (16 : Int)) || ((decide (p0 ≥ (32 : Int))) && (decide (p0 ≤ (36 : Int))))))) hc1) (Eq.trans (orF (b := ((p0 == (16 : Int)) || ((decide (p0 ≥ (32 : Int))) && (decide (p0 ≤ (36 : Int)))))) hc2) (Eq.trans (orF (b := ((decide (p0 ≥ (32 : Int))) && (decide (p0 ≤ (36 : Int))))) hc3) (Eq.trans (andT (b := (decide (p0 ≤ (36 : Int)))) hc4) (Eq.refl (decide (p0 ≤ (36 : Int))))))))) True.intro)) (by kernel_rfl) rfl
                    · exact YW.fin [(28, false), (32, false), (36, false), (39, false)] [] [0, 25] [(25, .d (.bool ((p0 == (12 : Int)) || ((p0 == (13 : Int)) || ((p0 == (16 : Int)) || ((decide (p0 ≥ (32 : Int))) && (decide (p0 ≤ (36 : Int)))))))))] [] _ (And.intro (And.intro hc1 (And.intro hc1 (And.intro hc1 (And.intro hc2 (And.intro hc2 (And.intro hc2 (And.intro hc3 (And.intro hc3 (And.intro hc3 (And.intro hc4 (And.intro hc4 (And.intro hc3 (And.intro hc4 (And.intro hc3 True.intro)))))))))))))) (And.intro (ovB (Eq.trans (orF (b := ((p0 == (13 : Int)) || ((p0 == (16 : Int)) || ((decide (p0 ≥ (32 : Int))) && (decide (p0 ≤ (36 : Int))))))) hc1) (Eq.trans (orF (b := ((p0 == (16 : Int)) || ((decide (p0 ≥ (32 : Int))) && (decide (p0 ≤ (36 : Int)))))) hc2) (Eq.trans (orF (b := ((decide (p0 ≥ (32 : Int))) && (decide (p0 ≤ (36 : Int))))) hc3) (andF (b := (decide (p0 ≤ (36 : Int)))) hc4))))) True.intro)) (by kernel_rfl) rfl
            refine AW2.cond (b := ((p0 == (12 : Int)) || ((p0 == (13 : Int)) || ((p0 == (16 : Int)) || ((decide (p0 ≥ (32 : Int))) && (decide (p0 ≤ (36 : Int)))))))) rfl (fun hc => ?_) (fun hc => ?_)
            · replace H := ite_t H hc
              refine AW2.seq ?_
              refine AW2.rg [] [2, 3] [] [] ⟨[(2, .d (.int .i64 3)), (3, .d .nili)], []⟩ (And.intro True.intro True.intro) (by kernel_rfl) ?_
              refine AW2.ret ?_
              have H := Option.some.inj H
              subst H
              exact retP_mk2 True.intro (by kernel_rfl)
            · replace H := ite_f H hc
              refine AW2.seq ?_
              refine AW2.reg [] rfl (YW.to ⟨[(0, .d (.int .u8 p0)), (44, .d (.bool ((decide (p0 ≥ (40 : Int))) && (decide (p0 ≤ (62 : Int))))))], []⟩ ?qh4 ?h4)
              case h4 =>
                rcases bT (decide (p0 ≥ (40 : Int))) with hc1 | hc1
                · exact YW.fin [(47, true)] [] [0, 44] [(44, .d (.bool ((decide (p0 ≥ (40 : Int))) && (decide (p0 ≤ (62 : Int))))))] [] _ (And.intro (And.intro hc1 (And.intro hc1 (And.intro hc1 True.intro))) (And.intro (ovB (Eq.trans (andT (b := (decide (p0 ≤ (62 : Int)))) hc1) (Eq.refl (decide (p0 ≤ (62 : Int)))))) True.intro)) (by kernel_rfl) rfl
                · exact YW.fin [(47, false)] [] [0, 44] [(44, .d (.bool ((decide (p0 ≥ (40 : Int))) && (decide (p0 ≤ (62 : Int))))))] [] _ (And.intro (And.intro hc1 (And.intro hc1 (And.intro hc1 True.intro))) (And.intro (ovB (andF (b := (decide (p0 ≤ (62 : Int)))) hc1)) True.intro)) (by kernel_rfl) rfl
              refine AW2.cond (b := ((decide (p0 ≥ (40 : Int))) && (decide (p0 ≤ (62 : Int))))) rfl (fun hc => ?_) (fun hc => ?_)
              · replace H := ite_t H hc
                refine AW2.seq ?_
                refine AW2.rg [] [2, 3] [] [] ⟨[(2, .d (.int .i64 4)), (3, .d .nili)], []⟩ (And.intro True.intro True.intro) (by kernel_rfl) ?_
                refine AW2.ret ?_
                have H := Option.some.inj H
                subst H
                exact retP_mk2 True.intro (by kernel_rfl)
              · replace H := ite_f H hc
                refine AW2.seq ?_
                refine AW2.reg [] rfl (YW.to ⟨[(0, .d (.int .u8 p0)), (51, .d (.bool ((p0 == (63 : Int)) || (p0 == (64 : Int)))))], []⟩ ?qh3 ?h3)
                case h3 =>
                  rcases bT (p0 == (63 : Int)) with hc1 | hc1
                  · exact YW.fin [(54, true)] [] [0, 51] [(51, .d (.bool ((p0 == (63 : Int)) || (p0 == (64 : Int)))))] [] _ (And.intro (And.intro hc1 (And.intro hc1 (And.intro hc1 True.intro))) (And.intro (ovB (orT (b := (p0 == (64 : Int))) hc1)) True.intro)) (by kernel_rfl) rfl
                  · exact YW.fin [(54, false)] [] [0, 51] [(51, .d (.bool ((p0 == (63 : Int)) || (p0 == (64 : Int)))))] [] _ (And.intro (And.intro hc1 (And.intro hc1 (And.intro hc1 True.intro))) (And.intro (ovB (Eq.trans (orF (b := (p0 == (64 : Int))) hc1) (Eq.refl (p0 == (64 : Int))))) True.intro)) (by kernel_rfl) rfl
                refine AW2.cond (b := ((p0 == (63 : Int)) || (p0 == (64 : Int)))) rfl (fun hc => ?_) (fun hc => ?_)
                · replace H := ite_t H hc
                  refine AW2.seq ?_
                  refine AW2.rg [] [2, 3] [] [] ⟨[(2, .d (.int .i64 5)), (3, .d .nili)], []⟩ (And.intro True.intro True.intro) (by kernel_rfl) ?_
                  refine AW2.ret ?_
                  have H := Option.some.inj H
                  subst H
                  exact retP_mk2 True.intro (by kernel_rfl)
                · replace H := ite_f H hc
                  refine AW2.seq ?_
                  refine AW2.rg [] [0, 58] [] [] ⟨[(0, .d (.int .u8 p0)), (58, .d (.bool (p0 == (65 : Int))))], []⟩ (And.intro True.intro True.intro) (by kernel_rfl) ?_
                  refine AW2.cond (b := (p0 == (65 : Int))) rfl (fun hc => ?_) (fun hc => ?_)
                  · replace H := ite_t H hc
                    refine AW2.seq ?_
                    refine AW2.rg [] [2, 3] [] [] ⟨[(2, .d (.int .i64 1)), (3, .d .nili)], []⟩ (And.intro True.intro True.intro) (by kernel_rfl) ?_
                    refine AW2.ret ?_
                    have H := Option.some.inj H
                    subst H
                    exact retP_mk2 True.intro (by kernel_rfl)
                  · replace H := ite_f H hc
                    refine AW2.seq ?_
                    refine AW2.rg [] [61] [] [] ⟨[(61, .d (.bool (p0 == (66 : Int))))], []⟩ (And.intro True.intro True.intro) (by kernel_rfl) ?_
                    refine AW2.cond (b := (p0 == (66 : Int))) rfl (fun hc => ?_) (fun hc => ?_)
                    · replace H := ite_t H hc
                      refine AW2.seq ?_
                      refine AW2.rg [] [2, 3] [] [] ⟨[(2, .d (.int .i64 2)), (3, .d .nili)], []⟩ (And.intro True.intro True.intro) (by kernel_rfl) ?_
                      refine AW2.ret ?_
                      have H := Option.some.inj H
                      subst H
                      exact retP_mk2 True.intro (by kernel_rfl)
                    · replace H := ite_f H hc
                      refine AW2.skip ?_
                      refine AW2.seq ?_
                      refine AW2.rg [] [2, 3] [] [] ⟨[(2, .d (.int .i64 0)), (3, .d .nili)], []⟩ (And.intro True.intro True.intro) (by kernel_rfl) ?_
                      refine AW2.ret ?_
                      have H := Option.some.inj H
                      subst H
                      exact retP_mk2 True.intro (by kernel_rfl)

end Go.Proofs.YtablleokoifolaaGreatDoor

/- Plain functions and their contracts. Written by a program of this claim set (g2.py). -/
set_option linter.unusedVariables false
set_option maxRecDepth 100000
set_option maxHeartbeats 4000000
namespace Go.Proofs.YtablleokoifolaaGreatDoor
open Go

/- (*mandrel/valid.checker).plain -/
def g_valid_checker_plain (p0 : Checker) (p1 : Instr) : Option (Checker) := ((g_ops_Sign p1.op).bind fun x1 => (if (!x1.2.isNone) = true then some (Checker.mk p0.m p0.t p0.locals p0.stack p0.frames p0.labels p0.most true) else (((g_ops_Bytes p1.op).bind fun x13 => (if x13.2.2.isNone = true then ((if p0.bad = true then some (Checker.mk p0.m p0.t p0.locals p0.stack p0.frames p0.labels p0.most true) else (if (decide (p1.align > (3 : Int))) = true then some (Checker.mk p0.m p0.t p0.locals p0.stack p0.frames p0.labels p0.most true) else gd (¬ p1.align < 0) (some (Checker.mk p0.m p0.t p0.locals p0.stack p0.frames p0.labels p0.most (decide ((wI (1 * 2 ^ (min p1.align.toNat (IntKind.bits .i64)))) > x13.1))))))).bind (fun j16 => some j16) else some p0))).bind (fun j3 => ((g_ops_Form p1.op).bind fun x4 => ((if ((!x4.2.isNone) || (bif ((x4.1 == (4 : Int)) || (x4.1 == (5 : Int))) then (((j3.m.memories.length : Int) == (0 : Int)) || ((x4.1 == (1 : Int)) && (p1.n != (wI (IntKind.wrap .i32 p1.n))))) else ((x4.1 == (1 : Int)) && (p1.n != (wI (IntKind.wrap .i32 p1.n)))))) = true then some (Checker.mk j3.m j3.t j3.locals j3.stack j3.frames j3.labels j3.most true) else some j3)).bind (fun j6 => ((g_valid_checker_call j6 x1.1).bind fun x7 => some x7))))))

theorem c_valid_checker_plain (p0 : Checker) (p1 : Instr) (r : Checker) (H : g_valid_checker_plain p0 p1 = some r) : CM E 79 [.p 1000 0, .agg (eD (eInstr p1))] (H_Checker p0) [] [1000] (fun a b => a = (.tup [] : LV) ∧ b = H_Checker r) := by
  refine cs_of (A := F_valid_checker_plain) fn_valid_checker_plain fun fr => ?_
  unfold g_valid_checker_plain at H
  refine AW2.seq ?_
  refine AW2.rg [.k 3] [0, 3] [] [.k 3, .k 1000, .k 1001, .k 1002, .k 1003] ⟨[(0, .p 1000 0), (3, .p 3 0)], [(3, .st false (eD (eInstr p1)))] ++ H_Checker p0⟩ (And.intro True.intro True.intro) (by kernel_rfl) ?_
  refine AW2.seq ?_
  obtain ⟨x1, hx2, H⟩ := bind_some H
  refine AW2.rg [.r (.tup [.agg (eTyp x1.1), .err 45 x1.2]), .k 4] [0, 3, 4, 5] [] [.k 3, .k 4, .k 1000, .k 1001, .k 1002, .k 1003] ⟨[(0, .p 1000 0), (3, .p 3 0), (4, .p 4 0), (5, .d (.err 45 x1.2))], [(3, .st false (eD (eInstr p1))), (4, .st false (eD (eTyp x1.1)))] ++ H_Checker p0⟩ (And.intro (And.intro (c_ops_Sign p1.op x1 hx2) True.intro) True.intro) (by kernel_rfl) ?_
  refine AW2.seq ?_
  refine AW2.seq ?_
  refine AW2.rg [] [0, 3, 4, 18] [] [.k 3, .k 4, .k 1000, .k 1001, .k 1002, .k 1003] ⟨[(0, .p 1000 0), (3, .p 3 0), (4, .p 4 0), (18, .d (.bool (!x1.2.isNone)))], [(3, .st false (eD (eInstr p1))), (4, .st false (eD (eTyp x1.1)))] ++ H_Checker p0⟩ (And.intro True.intro True.intro) (by kernel_rfl) ?_
  refine AW2.cond (b := (!x1.2.isNone)) rfl (fun hc => ?_) (fun hc => ?_)
  · replace H := ite_t H hc
    refine AW2.seq ?_
    refine AW2.rg [] [] [] [.k 1000, .k 1001, .k 1002, .k 1003] ⟨[], H_Checker (Checker.mk p0.m p0.t p0.locals p0.stack p0.frames p0.labels p0.most true)⟩ (And.intro True.intro True.intro) (by kernel_rfl) ?_
    refine AW2.ret ?_
    have H := Option.some.inj H
    subst H
    exact retS_mk3 [] [.k 1000, .k 1001, .k 1002, .k 1003] True.intro (by kernel_rfl) (by kernel_rfl)
  · replace H := ite_f H hc
    refine AW2.skip ?_
    obtain ⟨j3, H21, H⟩ := bind_some H
    refine AW2.mid ⟨[(0, .p 1000 0), (3, .p 3 0), (4, .p 4 0)], [(3, .st false (eD (eInstr p1))), (4, .st false (eD (eTyp x1.1)))] ++ H_Checker j3⟩ ?_ ?_
    · refine AW2.seq ?_
      obtain ⟨x4, hx5, H⟩ := bind_some H
      refine AW2.rg [.r (.tup [.int .i64 x4.1, .err 45 x4.2])] [0, 3, 4, 5, 9] [] [.k 3, .k 4, .k 1000, .k 1001, .k 1002, .k 1003] ⟨[(0, .p 1000 0), (3, .p 3 0), (4, .p 4 0), (5, .d (.err 45 x4.2)), (9, .d (.int .i64 x4.1))], [(3, .st false (eD (eInstr p1))), (4, .st false (eD (eTyp x1.1)))] ++ H_Checker j3⟩ (And.intro (And.intro (c_ops_Form p1.op x4 hx5) True.intro) True.intro) (by kernel_rfl) ?_
      refine AW2.seq ?_
      refine AW2.reg [] rfl (YW.to ⟨[(0, .p 1000 0), (3, .p 3 0), (4, .p 4 0), (5, .d (.err 45 x4.2)), (9, .d (.int .i64 x4.1)), (10, .d (.bool ((x4.1 == (4 : Int)) || (x4.1 == (5 : Int)))))], [(3, .st false (eD (eInstr p1))), (4, .st false (eD (eTyp x1.1)))] ++ H_Checker j3⟩ ?qh12 ?h12)
      case h12 =>
        rcases bT (x4.1 == (4 : Int)) with hc1 | hc1
        · exact YW.fin [(58, true)] [] [0, 3, 4, 5, 9, 10] [(10, .d (.bool ((x4.1 == (4 : Int)) || (x4.1 == (5 : Int)))))] [.k 3, .k 4, .k 1000, .k 1001, .k 1002, .k 1003] _ (And.intro (And.intro hc1 (And.intro hc1 (And.intro hc1 True.intro))) (And.intro (ovB (orT (b := (x4.1 == (5 : Int))) hc1)) True.intro)) (by kernel_rfl) rfl
        · exact YW.fin [(58, false)] [] [0, 3, 4, 5, 9, 10] [(10, .d (.bool ((x4.1 == (4 : Int)) || (x4.1 == (5 : Int)))))] [.k 3, .k 4, .k 1000, .k 1001, .k 1002, .k 1003] _ (And.intro (And.intro hc1 (And.intro hc1 (And.intro hc1 True.intro))) (And.intro (ovB (Eq.trans (orF (b := (x4.1 == (5 : Int))) hc1) (Eq.refl (x4.1 == (5 : Int))))) True.intro)) (by kernel_rfl) rfl
      obtain ⟨j6, H11, H⟩ := bind_some H
      refine AW2.mid ⟨[(0, .p 1000 0), (4, .p 4 0)], [(4, .st false (eD (eTyp x1.1)))] ++ H_Checker j6⟩ ?_ ?_
      · obtain ⟨x7, hx8, H⟩ := bind_some H
        refine AW2.rg [.c [1000, 1001, 1002, 1003] [] [1000] (.tup []) (H_Checker x7)] [] [] [.k 1000, .k 1001, .k 1002, .k 1003] ⟨[], H_Checker x7⟩ (And.intro (And.intro (c_valid_checker_call j6 x1.1 x7 hx8) True.intro) True.intro) (by kernel_rfl) ?_
        have H := Option.some.inj H
        subst H
        exact retS_mkn3 [] [.k 1000, .k 1001, .k 1002, .k 1003] True.intro (by kernel_rfl) (by kernel_rfl)
      · have H := H11
        refine AW2.seq ?_
        refine AW2.reg [] rfl (YW.to ⟨[(0, .p 1000 0), (4, .p 4 0), (88, .d (.bool ((!x4.2.isNone) || (bif ((x4.1 == (4 : Int)) || (x4.1 == (5 : Int))) then (((j3.m.memories.length : Int) == (0 : Int)) || ((x4.1 == (1 : Int)) && (p1.n != (wI (IntKind.wrap .i32 p1.n))))) else ((x4.1 == (1 : Int)) && (p1.n != (wI (IntKind.wrap .i32 p1.n))))))))], [(4, .st false (eD (eTyp x1.1)))] ++ H_Checker j3⟩ ?qh9 ?h9)
        case h9 =>
          rcases bT (!x4.2.isNone) with hc1 | hc1
          · exact YW.fin [(64, true), (76, true)] [] [0, 4, 88] [(88, .d (.bool ((!x4.2.isNone) || (bif ((x4.1 == (4 : Int)) || (x4.1 == (5 : Int))) then (((j3.m.memories.length : Int) == (0 : Int)) || ((x4.1 == (1 : Int)) && (p1.n != (wI (IntKind.wrap .i32 p1.n))))) else ((x4.1 == (1 : Int)) && (p1.n != (wI (IntKind.wrap .i32 p1.n))))))))] [.k 4, .k 1000, .k 1001, .k 1002, .k 1003] _ (And.intro (And.intro hc1 (And.intro hc1 (And.intro hc1 (And.intro hc1 (And.intro (Eq.refl true) (And.intro (Eq.refl true) (And.intro (Eq.refl true) (And.intro (Eq.refl true) (And.intro (Eq.refl true) True.intro))))))))) (And.intro (ovB (orT (b := (bif ((x4.1 == (4 : Int)) || (x4.1 == (5 : Int))) then (((j3.m.memories.length : Int) == (0 : Int)) || ((x4.1 == (1 : Int)) && (p1.n != (wI (IntKind.wrap .i32 p1.n))))) else ((x4.1 == (1 : Int)) && (p1.n != (wI (IntKind.wrap .i32 p1.n)))))) hc1)) True.intro)) (by kernel_rfl) rfl
          · rcases bT ((x4.1 == (4 : Int)) || (x4.1 == (5 : Int))) with hc2 | hc2
            · rcases bT ((j3.m.memories.length : Int) == (0 : Int)) with hc3 | hc3
              · exact YW.fin [(64, false), (66, true), (76, true)] [] [0, 4, 88] [(88, .d (.bool ((!x4.2.isNone) || (bif ((x4.1 == (4 : Int)) || (x4.1 == (5 : Int))) then (((j3.m.memories.length : Int) == (0 : Int)) || ((x4.1 == (1 : Int)) && (p1.n != (wI (IntKind.wrap .i32 p1.n))))) else ((x4.1 == (1 : Int)) && (p1.n != (wI (IntKind.wrap .i32 p1.n))))))))] [.k 4, .k 1000, .k 1001, .k 1002, .k 1003] _ (And.intro (And.intro hc1 (And.intro hc1 (And.intro hc2 (And.intro hc2 (And.intro hc2 (And.intro hc2 (And.intro hc2 (And.intro hc2 (And.intro hc2 (And.intro hc1 (And.intro hc2 (And.intro hc1 (And.intro hc3 (And.intro hc3 (And.intro hc3 (And.intro hc3 (And.intro hc3 True.intro))))))))))))))))) (And.intro (ovB (Eq.trans (orF (b := (bif ((x4.1 == (4 : Int)) || (x4.1 == (5 : Int))) then (((j3.m.memories.length : Int) == (0 : Int)) || ((x4.1 == (1 : Int)) && (p1.n != (wI (IntKind.wrap .i32 p1.n))))) else ((x4.1 == (1 : Int)) && (p1.n != (wI (IntKind.wrap .i32 p1.n)))))) hc1) (Eq.trans (bifT (a := (((j3.m.memories.length : Int) == (0 : Int)) || ((x4.1 == (1 : Int)) && (p1.n != (wI (IntKind.wrap .i32 p1.n)))))) (b := ((x4.1 == (1 : Int)) && (p1.n != (wI (IntKind.wrap .i32 p1.n))))) hc2) (orT (b := ((x4.1 == (1 : Int)) && (p1.n != (wI (IntKind.wrap .i32 p1.n))))) hc3)))) True.intro)) (by kernel_rfl) rfl
              · rcases bT (x4.1 == (1 : Int)) with hc4 | hc4
                · exact YW.fin [(64, false), (66, true), (76, false), (79, true)] [] [0, 4, 88] [(88, .d (.bool ((!x4.2.isNone) || (bif ((x4.1 == (4 : Int)) || (x4.1 == (5 : Int))) then (((j3.m.memories.length : Int) == (0 : Int)) || ((x4.1 == (1 : Int)) && (p1.n != (wI (IntKind.wrap .i32 p1.n))))) else ((x4.1 == (1 : Int)) && (p1.n != (wI (IntKind.wrap .i32 p1.n))))))))] [.k 4, .k 1000, .k 1001, .k 1002, .k 1003] _ (And.intro (And.intro hc1 (And.intro hc1 (And.intro hc2 (And.intro hc2 (And.intro hc2 (And.intro hc2 (And.intro hc2 (And.intro hc2 (And.intro hc2 (And.intro hc1 (And.intro hc2 (And.intro hc1 (And.intro hc3 (And.intro hc3 (And.intro hc3 (And.intro hc4 (And.intro hc4 (And.intro hc4 (And.intro hc4 (And.intro hc4 (And.intro hc4 (And.intro hc4 (And.intro hc3 (And.intro hc4 (And.intro hc3 True.intro))))))))))))))))))))))))) (And.intro (ovB (Eq.trans (orF (b := (bif ((x4.1 == (4 : Int)) || (x4.1 == (5 : Int))) then (((j3.m.memories.length : Int) == (0 : Int)) || ((x4.1 == (1 : Int)) && (p1.n != (wI (IntKind.wrap .i32 p1.n))))) else ((x4.1 == (1 : Int)) && (p1.n != (wI (IntKind.wrap .i32 p1.n)))))) hc1) (Eq.trans (bifT (a := (((j3.m.memories.length : Int) == (0 : Int)) || ((x4.1 == (1 : Int)) && (p1.n != (wI (IntKind.wrap .i32 p1.n)))))) (b := ((x4.1 == (1 : Int)) && (p1.n != (wI (IntKind.wrap .i32 p1.n))))) hc2) (Eq.trans (orF (b := ((x4.1 == (1 : Int)) && (p1.n != (wI (IntKind.wrap .i32 p1.n))))) hc3) (Eq.trans (andT (b := (p1.n != (wI (IntKind.wrap .i32 p1.n)))) hc4) (Eq.refl (p1.n != (wI (IntKind.wrap .i32 p1.n))))))))) True.intro)) (by kernel_rfl) rfl
                · exact YW.fin [(64, false), (66, true), (76, false), (79, false)] [] [0, 4, 88] [(88, .d (.bool ((!x4.2.isNone) || (bif ((x4.1 == (4 : Int)) || (x4.1 == (5 : Int))) then (((j3.m.memories.length : Int) == (0 : Int)) || ((x4.1 == (1 : Int)) && (p1.n != (wI (IntKind.wrap .i32 p1.n))))) else ((x4.1 == (1 : Int)) && (p1.n != (wI (IntKind.wrap .i32 p1.n))))))))] [.k 4, .k 1000, .k 1001, .k 1002, .k 1003] _ (And.intro (And.intro hc1 (And.intro hc1 (And.intro hc2 (And.intro hc2 (And.intro hc2 (And.intro hc2 (And.intro hc2 (And.intro hc2 (And.intro hc2 (And.intro hc1 (And.intro hc2 (And.intro hc1 (And.intro hc3 (And.intro hc3 (And.intro hc3 (And.intro hc4 (And.intro hc4 (And.intro hc4 (And.intro hc4 (And.intro hc4 (And.intro hc4 (And.intro hc4 (And.intro hc3 (And.intro hc4 (And.intro hc3 True.intro))))))))))))))))))))))))) (And.intro (ovB (Eq.trans (orF (b := (bif ((x4.1 == (4 : Int)) || (x4.1 == (5 : Int))) then (((j3.m.memories.length : Int) == (0 : Int)) || ((x4.1 == (1 : Int)) && (p1.n != (wI (IntKind.wrap .i32 p1.n))))) else ((x4.1 == (1 : Int)) && (p1.n != (wI (IntKind.wrap .i32 p1.n)))))) hc1) (Eq.trans (bifT (a := (((j3.m.memories.length : Int) == (0 : Int)) || ((x4.1 == (1 : Int)) && (p1.n != (wI (IntKind.wrap .i32 p1.n)))))) (b := ((x4.1 == (1 : Int)) && (p1.n != (wI (IntKind.wrap .i32 p1.n))))) hc2) (Eq.trans (orF (b := ((x4.1 == (1 : Int)) && (p1.n != (wI (IntKind.wrap .i32 p1.n))))) hc3) (andF (b := (p1.n != (wI (IntKind.wrap .i32 p1.n)))) hc4))))) True.intro)) (by kernel_rfl) rfl
            · rcases bT (x4.1 == (1 : Int)) with hc3 | hc3
              · exact YW.fin [(64, false), (66, false), (79, true), (76, false)] [] [0, 4, 88] [(88, .d (.bool ((!x4.2.isNone) || (bif ((x4.1 == (4 : Int)) || (x4.1 == (5 : Int))) then (((j3.m.memories.length : Int) == (0 : Int)) || ((x4.1 == (1 : Int)) && (p1.n != (wI (IntKind.wrap .i32 p1.n))))) else ((x4.1 == (1 : Int)) && (p1.n != (wI (IntKind.wrap .i32 p1.n))))))))] [.k 4, .k 1000, .k 1001, .k 1002, .k 1003] _ (And.intro (And.intro hc1 (And.intro hc1 (And.intro hc2 (And.intro hc2 (And.intro hc2 (And.intro hc2 (And.intro hc2 (And.intro hc2 (And.intro hc2 (And.intro hc1 (And.intro hc2 (And.intro hc1 (And.intro (Eq.refl false) (And.intro (Eq.refl false) (And.intro (Eq.refl false) (And.intro hc3 (And.intro hc3 (And.intro hc3 (And.intro hc3 (And.intro hc3 (And.intro hc3 (And.intro hc3 (And.intro (Eq.refl false) (And.intro hc3 (And.intro (Eq.refl false) True.intro))))))))))))))))))))))))) (And.intro (ovB (Eq.trans (orF (b := (bif ((x4.1 == (4 : Int)) || (x4.1 == (5 : Int))) then (((j3.m.memories.length : Int) == (0 : Int)) || ((x4.1 == (1 : Int)) && (p1.n != (wI (IntKind.wrap .i32 p1.n))))) else ((x4.1 == (1 : Int)) && (p1.n != (wI (IntKind.wrap .i32 p1.n)))))) hc1) (Eq.trans (bifF (a := (((j3.m.memories.length : Int) == (0 : Int)) || ((x4.1 == (1 : Int)) && (p1.n != (wI (IntKind.wrap .i32 p1.n)))))) (b := ((x4.1 == (1 : Int)) && (p1.n != (wI (IntKind.wrap .i32 p1.n))))) hc2) (Eq.trans (andT (b := (p1.n != (wI (IntKind.wrap .i32 p1.n)))) hc3) (Eq.refl (p1.n != (wI (IntKind.wrap .i32 p1.n)))))))) True.intro)) (by kernel_rfl) rfl
              · exact YW.fin [(64, false), (66, false), (79, false), (76, false)] [] [0, 4, 88] [(88, .d (.bool ((!x4.2.isNone) || (bif ((x4.1 == (4 : Int)) || (x4.1 == (5 : Int))) then (((j3.m.memories.length : Int) == (0 : Int)) || ((x4.1 == (1 : Int)) && (p1.n != (wI (IntKind.wrap .i32 p1.n))))) else ((x4.1 == (1 : Int)) && (p1.n != (wI (IntKind.wrap .i32 p1.n))))))))] [.k 4, .k 1000, .k 1001, .k 1002, .k 1003] _ (And.intro (And.intro hc1 (And.intro hc1 (And.intro hc2 (And.intro hc2 (And.intro hc2 (And.intro hc2 (And.intro hc2 (And.intro hc2 (And.intro hc2 (And.intro hc1 (And.intro hc2 (And.intro hc1 (And.intro (Eq.refl false) (And.intro (Eq.refl false) (And.intro (Eq.refl false) (And.intro hc3 (And.intro hc3 (And.intro hc3 (And.intro hc3 (And.intro hc3 (And.intro hc3 (And.intro hc3 (And.intro (Eq.refl false) (And.intro hc3 (And.intro (Eq.refl false) True.intro))))))))))))))))))))))))) (And.intro (ovB (Eq.trans (orF (b := (bif ((x4.1 == (4 : Int)) || (x4.1 == (5 : Int))) then (((j3.m.memories.length : Int) == (0 : Int)) || ((x4.1 == (1 : Int)) && (p1.n != (wI (IntKind.wrap .i32 p1.n))))) else ((x4.1 == (1 : Int)) && (p1.n != (wI (IntKind.wrap .i32 p1.n)))))) hc1) (Eq.trans (bifF (a := (((j3.m.memories.length : Int) == (0 : Int)) || ((x4.1 == (1 : Int)) && (p1.n != (wI (IntKind.wrap .i32 p1.n)))))) (b := ((x4.1 == (1 : Int)) && (p1.n != (wI (IntKind.wrap .i32 p1.n))))) hc2) (andF (b := (p1.n != (wI (IntKind.wrap .i32 p1.n)))) hc3)))) True.intro)) (by kernel_rfl) rfl
        refine AW2.cond (b := ((!x4.2.isNone) || (bif ((x4.1 == (4 : Int)) || (x4.1 == (5 : Int))) then (((j3.m.memories.length : Int) == (0 : Int)) || ((x4.1 == (1 : Int)) && (p1.n != (wI (IntKind.wrap .i32 p1.n))))) else ((x4.1 == (1 : Int)) && (p1.n != (wI (IntKind.wrap .i32 p1.n))))))) rfl (fun hc => ?_) (fun hc => ?_)
        · replace H := ite_t H hc
          refine AW2.rg [] [0, 4] [] [.k 4, .k 1000, .k 1001, .k 1002, .k 1003] ⟨[(0, .p 1000 0), (4, .p 4 0)], [(4, .st false (eD (eTyp x1.1)))] ++ H_Checker (Checker.mk j3.m j3.t j3.locals j3.stack j3.frames j3.labels j3.most true)⟩ (And.intro True.intro True.intro) (by kernel_rfl) ?_
          have H := Option.some.inj H
          subst H
          exact wk_mk [0, 4] [] [.k 4, .k 1000, .k 1001, .k 1002, .k 1003] True.intro (by kernel_rfl)
        · replace H := ite_f H hc
          refine AW2.skip ?_
          have H := Option.some.inj H
          subst H
          exact wk_mk [0, 4] [] [.k 4, .k 1000, .k 1001, .k 1002, .k 1003] True.intro (by kernel_rfl)
    · have H := H21
      refine AW2.seq ?_
      obtain ⟨x13, hx14, H⟩ := bind_some H
      refine AW2.rg [.r (.tup [.int .i64 x13.1, .bool x13.2.1, .err 45 x13.2.2])] [0, 3, 4, 6, 8] [] [.k 3, .k 4, .k 1000, .k 1001, .k 1002, .k 1003] ⟨[(0, .p 1000 0), (3, .p 3 0), (4, .p 4 0), (6, .d (.int .i64 x13.1)), (8, .d (.err 45 x13.2.2))], [(3, .st false (eD (eInstr p1))), (4, .st false (eD (eTyp x1.1)))] ++ H_Checker p0⟩ (And.intro (And.intro (c_ops_Bytes p1.op x13 hx14) True.intro) True.intro) (by kernel_rfl) ?_
      refine AW2.seq ?_
      refine AW2.rg [] [0, 3, 4, 6, 30] [] [.k 3, .k 4, .k 1000, .k 1001, .k 1002, .k 1003] ⟨[(0, .p 1000 0), (3, .p 3 0), (4, .p 4 0), (6, .d (.int .i64 x13.1)), (30, .d (.bool x13.2.2.isNone))], [(3, .st false (eD (eInstr p1))), (4, .st false (eD (eTyp x1.1)))] ++ H_Checker p0⟩ (And.intro True.intro True.intro) (by kernel_rfl) ?_
      refine AW2.cond (b := x13.2.2.isNone) rfl (fun hc => ?_) (fun hc => ?_)
      · replace H := ite_t H hc
        obtain ⟨j16, H18, H⟩ := bind_some H
        refine AW2.reg [] rfl (YW.to ⟨[(0, .p 1000 0), (3, .p 3 0), (4, .p 4 0)], [(3, .st false (eD (eInstr p1))), (4, .st false (eD (eTyp x1.1)))] ++ H_Checker j16⟩ ?qh19 ?h19)
        case h19 =>
          have H := H18
          rcases bT p0.bad with hc1 | hc1
          · replace H := ite_t H hc1
            have H := Option.some.inj H
            subst H
            exact YW.fin [(36, true), (41, true)] [] [0, 3, 4] [] [.k 3, .k 4, .k 1000, .k 1001, .k 1002, .k 1003] _ (And.intro (And.intro hc1 (And.intro hc1 (And.intro hc1 (And.intro hc1 (And.intro (Eq.refl true) (And.intro (Eq.refl true) (And.intro (Eq.refl true) (And.intro (Eq.refl true) (And.intro (Eq.refl true) (And.intro (Eq.refl true) True.intro)))))))))) True.intro) (by kernel_rfl) rfl
          · replace H := ite_f H hc1
            rcases bT (decide (p1.align > (3 : Int))) with hc2 | hc2
            · replace H := ite_t H hc2
              have H := Option.some.inj H
              subst H
              exact YW.fin [(36, false), (41, true)] [] [0, 3, 4] [] [.k 3, .k 4, .k 1000, .k 1001, .k 1002, .k 1003] _ (And.intro (And.intro hc1 (And.intro hc1 (And.intro hc1 (And.intro hc1 (And.intro hc2 (And.intro hc2 (And.intro hc2 (And.intro hc2 (And.intro hc2 (And.intro hc2 True.intro)))))))))) True.intro) (by kernel_rfl) rfl
            · replace H := ite_f H hc2
              obtain ⟨h15, H⟩ := gd_some H
              have H := Option.some.inj H
              subst H
              exact YW.fin [(36, false), (41, false)] [] [0, 3, 4] [] [.k 3, .k 4, .k 1000, .k 1001, .k 1002, .k 1003] _ (And.intro (And.intro hc1 (And.intro hc1 (And.intro hc1 (And.intro hc1 (And.intro hc2 (And.intro hc2 (And.intro hc2 (And.intro h15 (And.intro hc2 (And.intro hc2 (And.intro hc2 True.intro))))))))))) True.intro) (by kernel_rfl) rfl
        have H := Option.some.inj H
        subst H
        exact wk_mk [0, 3, 4] [] [.k 3, .k 4, .k 1000, .k 1001, .k 1002, .k 1003] True.intro (by kernel_rfl)
      · replace H := ite_f H hc
        refine AW2.skip ?_
        have H := Option.some.inj H
        subst H
        exact wk_mk [0, 3, 4] [] [.k 3, .k 4, .k 1000, .k 1001, .k 1002, .k 1003] True.intro (by kernel_rfl)

/- (*mandrel/valid.checker).simple -/
def g_valid_checker_simple (p0 : Checker) (p1 : Instr) : Option (Checker) := (if (p1.op == (26 : Int)) = true then ((g_valid_checker_take p0 1).bind fun x1 => some x1.2) else (if (p1.op == (27 : Int)) = true then ((g_valid_checker_take p0 127).bind fun x3 => ((g_valid_checker_take x3.2 1).bind fun x5 => ((g_valid_checker_take x5.2 x5.1).bind fun x7 => ((g_valid_checker_lay x7.2 x7.1).bind fun x9 => some x9)))) else (if (p1.op == (32 : Int)) = true then ((g_valid_checker_local p0 p1.n).bind fun x11 => ((g_valid_checker_lay x11.2 x11.1).bind fun x13 => some x13)) else (if (p1.op == (33 : Int)) = true then ((g_valid_checker_local p0 p1.n).bind fun x15 => ((g_valid_checker_take x15.2 x15.1).bind fun x17 => some x17.2)) else (if (p1.op == (34 : Int)) = true then ((g_valid_checker_local p0 p1.n).bind fun x19 => ((g_valid_checker_take x19.2 x19.1).bind fun x21 => ((g_valid_checker_lay x21.2 x19.1).bind fun x23 => some x23))) else (if (p1.op == (35 : Int)) = true then ((g_valid_checker_global p0 p1.n).bind fun x25 => ((g_valid_checker_lay x25.2 x25.1.kind).bind fun x27 => some x27)) else (if (p1.op == (36 : Int)) = true then ((g_valid_checker_global p0 p1.n).bind fun x29 => ((if x29.2.bad = true then some (Checker.mk x29.2.m x29.2.t x29.2.locals x29.2.stack x29.2.frames x29.2.labels x29.2.most true) else some (Checker.mk x29.2.m x29.2.t x29.2.locals x29.2.stack x29.2.frames x29.2.labels x29.2.most (!x29.1.mut_)))).bind (fun j31 => ((g_valid_checker_take j31 x29.1.kind).bind fun x32 => some x32.2))) else ((g_valid_checker_plain p0 p1).bind fun x37 => some x37))))))))

theorem c_valid_checker_simple (p0 : Checker) (p1 : Instr) (r : Checker) (H : g_valid_checker_simple p0 p1 = some r) : CM E 56 [.p 1000 0, .agg (eD (eInstr p1))] (H_Checker p0) [] [1000] (fun a b => a = (.tup [] : LV) ∧ b = H_Checker r) := by
  refine cs_of (A := F_valid_checker_simple) fn_valid_checker_simple fun fr => ?_
  unfold g_valid_checker_simple at H
  refine AW2.seq ?_
  refine AW2.rg [.k 3] [0, 3] [] [.k 3, .k 1000, .k 1001, .k 1002, .k 1003] ⟨[(0, .p 1000 0), (3, .p 3 0)], [(3, .st false (eD (eInstr p1)))] ++ H_Checker p0⟩ (And.intro True.intro True.intro) (by kernel_rfl) ?_
  refine AW2.seq ?_
  refine AW2.rg [] [0, 3, 8] [] [.k 3, .k 1000, .k 1001, .k 1002, .k 1003] ⟨[(0, .p 1000 0), (3, .p 3 0), (8, .d (.int .u8 p1.op))], [(3, .st false (eD (eInstr p1)))] ++ H_Checker p0⟩ (And.intro True.intro True.intro) (by kernel_rfl) ?_
  refine AW2.block ?_
  refine AW2.seq ?_
  refine AW2.rg [] [0, 3, 8, 12] [] [.k 3, .k 1000, .k 1001, .k 1002, .k 1003] ⟨[(0, .p 1000 0), (3, .p 3 0), (8, .d (.int .u8 p1.op)), (12, .d (.bool (p1.op == (26 : Int))))], [(3, .st false (eD (eInstr p1)))] ++ H_Checker p0⟩ (And.intro True.intro True.intro) (by kernel_rfl) ?_
  refine AW2.cond (b := (p1.op == (26 : Int))) rfl (fun hc => ?_) (fun hc => ?_)
  · replace H := ite_t H hc
    obtain ⟨x1, hx2, H⟩ := bind_some H
    refine AW2.rg [.c [1000, 1001, 1002, 1003] [] [1000] (.d (.int .u8 x1.1)) (H_Checker x1.2)] [] [] [.k 1000, .k 1001, .k 1002, .k 1003] ⟨[], H_Checker x1.2⟩ (And.intro (And.intro (c_valid_checker_take p0 1 x1 hx2) True.intro) True.intro) (by kernel_rfl) ?_
    have H := Option.some.inj H
    subst H
    exact retS_mkn3 [] [.k 1000, .k 1001, .k 1002, .k 1003] True.intro (by kernel_rfl) (by kernel_rfl)
  · replace H := ite_f H hc
    refine AW2.seq ?_
    refine AW2.rg [] [0, 3, 8, 16] [] [.k 3, .k 1000, .k 1001, .k 1002, .k 1003] ⟨[(0, .p 1000 0), (3, .p 3 0), (8, .d (.int .u8 p1.op)), (16, .d (.bool (p1.op == (27 : Int))))], [(3, .st false (eD (eInstr p1)))] ++ H_Checker p0⟩ (And.intro True.intro True.intro) (by kernel_rfl) ?_
    refine AW2.cond (b := (p1.op == (27 : Int))) rfl (fun hc => ?_) (fun hc => ?_)
    · replace H := ite_t H hc
      refine AW2.seq ?_
      obtain ⟨x3, hx4, H⟩ := bind_some H
      refine AW2.rg [.c [1000, 1001, 1002, 1003] [] [1000] (.d (.int .u8 x3.1)) (H_Checker x3.2)] [0] [] [.k 1000, .k 1001, .k 1002, .k 1003] ⟨[(0, .p 1000 0)], H_Checker x3.2⟩ (And.intro (And.intro (c_valid_checker_take p0 127 x3 hx4) True.intro) True.intro) (by kernel_rfl) ?_
      refine AW2.seq ?_
      obtain ⟨x5, hx6, H⟩ := bind_some H
      refine AW2.rg [.c [1000, 1001, 1002, 1003] [] [1000] (.d (.int .u8 x5.1)) (H_Checker x5.2)] [0, 4] [] [.k 1000, .k 1001, .k 1002, .k 1003] ⟨[(0, .p 1000 0), (4, .d (.int .u8 x5.1))], H_Checker x5.2⟩ (And.intro (And.intro (c_valid_checker_take x3.2 1 x5 hx6) True.intro) True.intro) (by kernel_rfl) ?_
      obtain ⟨x7, hx8, H⟩ := bind_some H
      obtain ⟨x9, hx10, H⟩ := bind_some H
      refine AW2.rg [.c [1000, 1001, 1002, 1003] [] [1000] (.d (.int .u8 x7.1)) (H_Checker x7.2), .c [1000, 1001, 1002, 1003] [] [1000] (.tup []) (H_Checker x9)] [] [] [.k 1000, .k 1001, .k 1002, .k 1003] ⟨[], H_Checker x9⟩ (And.intro (And.intro (c_valid_checker_take x5.2 x5.1 x7 hx8) (And.intro (c_valid_checker_lay x7.2 x7.1 x9 hx10) True.intro)) True.intro) (by kernel_rfl) ?_
      have H := Option.some.inj H
      subst H
      exact retS_mkn3 [] [.k 1000, .k 1001, .k 1002, .k 1003] True.intro (by kernel_rfl) (by kernel_rfl)
    · replace H := ite_f H hc
      refine AW2.seq ?_
      refine AW2.rg [] [0, 3, 8, 27] [] [.k 3, .k 1000, .k 1001, .k 1002, .k 1003] ⟨[(0, .p 1000 0), (3, .p 3 0), (8, .d (.int .u8 p1.op)), (27, .d (.bool (p1.op == (32 : Int))))], [(3, .st false (eD (eInstr p1)))] ++ H_Checker p0⟩ (And.intro True.intro True.intro) (by kernel_rfl) ?_
      refine AW2.cond (b := (p1.op == (32 : Int))) rfl (fun hc => ?_) (fun hc => ?_)
      · replace H := ite_t H hc
        obtain ⟨x11, hx12, H⟩ := bind_some H
        obtain ⟨x13, hx14, H⟩ := bind_some H
        refine AW2.rg [.c [1000, 1001, 1002, 1003] [] [1000] (.d (.int .u8 x11.1)) (H_Checker x11.2), .c [1000, 1001, 1002, 1003] [] [1000] (.tup []) (H_Checker x13)] [] [] [.k 1000, .k 1001, .k 1002, .k 1003] ⟨[], H_Checker x13⟩ (And.intro (And.intro (c_valid_checker_local p0 p1.n x11 hx12) (And.intro (c_valid_checker_lay x11.2 x11.1 x13 hx14) True.intro)) True.intro) (by kernel_rfl) ?_
        have H := Option.some.inj H
        subst H
        exact retS_mkn3 [] [.k 1000, .k 1001, .k 1002, .k 1003] True.intro (by kernel_rfl) (by kernel_rfl)
      · replace H := ite_f H hc
        refine AW2.seq ?_
        refine AW2.rg [] [0, 3, 8, 35] [] [.k 3, .k 1000, .k 1001, .k 1002, .k 1003] ⟨[(0, .p 1000 0), (3, .p 3 0), (8, .d (.int .u8 p1.op)), (35, .d (.bool (p1.op == (33 : Int))))], [(3, .st false (eD (eInstr p1)))] ++ H_Checker p0⟩ (And.intro True.intro True.intro) (by kernel_rfl) ?_
        refine AW2.cond (b := (p1.op == (33 : Int))) rfl (fun hc => ?_) (fun hc => ?_)
        · replace H := ite_t H hc
          obtain ⟨x15, hx16, H⟩ := bind_some H
          obtain ⟨x17, hx18, H⟩ := bind_some H
          refine AW2.rg [.c [1000, 1001, 1002, 1003] [] [1000] (.d (.int .u8 x15.1)) (H_Checker x15.2), .c [1000, 1001, 1002, 1003] [] [1000] (.d (.int .u8 x17.1)) (H_Checker x17.2)] [] [] [.k 1000, .k 1001, .k 1002, .k 1003] ⟨[], H_Checker x17.2⟩ (And.intro (And.intro (c_valid_checker_local p0 p1.n x15 hx16) (And.intro (c_valid_checker_take x15.2 x15.1 x17 hx18) True.intro)) True.intro) (by kernel_rfl) ?_
          have H := Option.some.inj H
          subst H
          exact retS_mkn3 [] [.k 1000, .k 1001, .k 1002, .k 1003] True.intro (by kernel_rfl) (by kernel_rfl)
        · replace H := ite_f H hc
          refine AW2.seq ?_
          refine AW2.rg [] [0, 3, 8, 43] [] [.k 3, .k 1000, .k 1001, .k 1002, .k 1003] ⟨[(0, .p 1000 0), (3, .p 3 0), (8, .d (.int .u8 p1.op)), (43, .d (.bool (p1.op == (34 : Int))))], [(3, .st false (eD (eInstr p1)))] ++ H_Checker p0⟩ (And.intro True.intro True.intro) (by kernel_rfl) ?_
          refine AW2.cond (b := (p1.op == (34 : Int))) rfl (fun hc => ?_) (fun hc => ?_)
          · replace H := ite_t H hc
            refine AW2.seq ?_
            obtain ⟨x19, hx20, H⟩ := bind_some H
            refine AW2.rg [.c [1000, 1001, 1002, 1003] [] [1000] (.d (.int .u8 x19.1)) (H_Checker x19.2)] [0, 5] [] [.k 1000, .k 1001, .k 1002, .k 1003] ⟨[(0, .p 1000 0), (5, .d (.int .u8 x19.1))], H_Checker x19.2⟩ (And.intro (And.intro (c_valid_checker_local p0 p1.n x19 hx20) True.intro) True.intro) (by kernel_rfl) ?_
            refine AW2.seq ?_
            obtain ⟨x21, hx22, H⟩ := bind_some H
            refine AW2.rg [.c [1000, 1001, 1002, 1003] [] [1000] (.d (.int .u8 x21.1)) (H_Checker x21.2)] [0, 5] [] [.k 1000, .k 1001, .k 1002, .k 1003] ⟨[(0, .p 1000 0), (5, .d (.int .u8 x19.1))], H_Checker x21.2⟩ (And.intro (And.intro (c_valid_checker_take x19.2 x19.1 x21 hx22) True.intro) True.intro) (by kernel_rfl) ?_
            obtain ⟨x23, hx24, H⟩ := bind_some H
            refine AW2.rg [.c [1000, 1001, 1002, 1003] [] [1000] (.tup []) (H_Checker x23)] [] [] [.k 1000, .k 1001, .k 1002, .k 1003] ⟨[], H_Checker x23⟩ (And.intro (And.intro (c_valid_checker_lay x21.2 x19.1 x23 hx24) True.intro) True.intro) (by kernel_rfl) ?_
            have H := Option.some.inj H
            subst H
            exact retS_mkn3 [] [.k 1000, .k 1001, .k 1002, .k 1003] True.intro (by kernel_rfl) (by kernel_rfl)
          · replace H := ite_f H hc
            refine AW2.seq ?_
            refine AW2.rg [] [0, 3, 8, 55] [] [.k 3, .k 1000, .k 1001, .k 1002, .k 1003] ⟨[(0, .p 1000 0), (3, .p 3 0), (8, .d (.int .u8 p1.op)), (55, .d (.bool (p1.op == (35 : Int))))], [(3, .st false (eD (eInstr p1)))] ++ H_Checker p0⟩ (And.intro True.intro True.intro) (by kernel_rfl) ?_
            refine AW2.cond (b := (p1.op == (35 : Int))) rfl (fun hc => ?_) (fun hc => ?_)
            · replace H := ite_t H hc
              obtain ⟨x25, hx26, H⟩ := bind_some H
              obtain ⟨x27, hx28, H⟩ := bind_some H
              refine AW2.rg [.c [1000, 1001, 1002, 1003] [] [1000] (.agg (eD (eGlo x25.1))) (H_Checker x25.2), .c [1000, 1001, 1002, 1003] [] [1000] (.tup []) (H_Checker x27)] [] [] [.k 1000, .k 1001, .k 1002, .k 1003] ⟨[], H_Checker x27⟩ (And.intro (And.intro (c_valid_checker_global p0 p1.n x25 hx26) (And.intro (c_valid_checker_lay x25.2 x25.1.kind x27 hx28) True.intro)) True.intro) (by kernel_rfl) ?_
              have H := Option.some.inj H
              subst H
              exact retS_mkn3 [] [.k 1000, .k 1001, .k 1002, .k 1003] True.intro (by kernel_rfl) (by kernel_rfl)
            · replace H := ite_f H hc
              refine AW2.seq ?_
              refine AW2.rg [] [0, 3, 64] [] [.k 3, .k 1000, .k 1001, .k 1002, .k 1003] ⟨[(0, .p 1000 0), (3, .p 3 0), (64, .d (.bool (p1.op == (36 : Int))))], [(3, .st false (eD (eInstr p1)))] ++ H_Checker p0⟩ (And.intro True.intro True.intro) (by kernel_rfl) ?_
              refine AW2.cond (b := (p1.op == (36 : Int))) rfl (fun hc => ?_) (fun hc => ?_)
              · replace H := ite_t H hc
                refine AW2.seq ?_
                obtain ⟨x29, hx30, H⟩ := bind_some H
                refine AW2.rg [.c [1000, 1001, 1002, 1003] [] [1000] (.agg (eD (eGlo x29.1))) (H_Checker x29.2), .k 6] [0, 6] [] [.k 6, .k 1000, .k 1001, .k 1002, .k 1003] ⟨[(0, .p 1000 0), (6, .p 6 0)], [(6, .st false (eD (eGlo x29.1)))] ++ H_Checker x29.2⟩ (And.intro (And.intro (c_valid_checker_global p0 p1.n x29 hx30) True.intro) True.intro) (by kernel_rfl) ?_
                refine AW2.seq ?_
                obtain ⟨j31, H35, H⟩ := bind_some H
                refine AW2.reg [] rfl (YW.to ⟨[(0, .p 1000 0), (6, .p 6 0)], [(6, .st false (eD (eGlo x29.1)))] ++ H_Checker j31⟩ ?qh36 ?h36)
                case h36 =>
                  have H := H35
                  rcases bT x29.2.bad with hc1 | hc1
                  · replace H := ite_t H hc1
                    have H := Option.some.inj H
                    subst H
                    exact YW.fin [(75, true)] [] [0, 6] [] [.k 6, .k 1000, .k 1001, .k 1002, .k 1003] _ (And.intro (And.intro hc1 (And.intro hc1 (And.intro hc1 (And.intro hc1 True.intro)))) True.intro) (by kernel_rfl) rfl
                  · replace H := ite_f H hc1
                    have H := Option.some.inj H
                    subst H
                    exact YW.fin [(75, false)] [] [0, 6] [] [.k 6, .k 1000, .k 1001, .k 1002, .k 1003] _ (And.intro (And.intro hc1 (And.intro hc1 (And.intro hc1 (And.intro hc1 True.intro)))) True.intro) (by kernel_rfl) rfl
                obtain ⟨x32, hx33, H⟩ := bind_some H
                refine AW2.rg [.c [1000, 1001, 1002, 1003] [] [1000] (.d (.int .u8 x32.1)) (H_Checker x32.2)] [] [] [.k 1000, .k 1001, .k 1002, .k 1003] ⟨[], H_Checker x32.2⟩ (And.intro (And.intro (c_valid_checker_take j31 x29.1.kind x32 hx33) True.intro) True.intro) (by kernel_rfl) ?_
                have H := Option.some.inj H
                subst H
                exact retS_mkn3 [] [.k 1000, .k 1001, .k 1002, .k 1003] True.intro (by kernel_rfl) (by kernel_rfl)
              · replace H := ite_f H hc
                obtain ⟨x37, hx38, H⟩ := bind_some H
                refine AW2.rg [.c [1000, 1001, 1002, 1003] [] [1000] (.tup []) (H_Checker x37)] [] [] [.k 1000, .k 1001, .k 1002, .k 1003] ⟨[], H_Checker x37⟩ (And.intro (And.intro (c_valid_checker_plain p0 p1 x37 hx38) True.intro) True.intro) (by kernel_rfl) ?_
                have H := Option.some.inj H
                subst H
                exact retS_mkn3 [] [.k 1000, .k 1001, .k 1002, .k 1003] True.intro (by kernel_rfl) (by kernel_rfl)

end Go.Proofs.YtablleokoifolaaGreatDoor

