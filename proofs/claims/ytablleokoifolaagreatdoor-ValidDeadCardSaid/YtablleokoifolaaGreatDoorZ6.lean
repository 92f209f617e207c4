/- Part 6 of the proof that ValidDeadCardSaid: for every input that fits the row the law answers true and its arguments read as before, over the world as the row lays it. -/
import Derived.Test.YtablleokoifolaaGreatDoorZ5
import Derived.Deep.Slices
import Derived.ChangeShapes
import Derived.RowKit
import Derived.ChangeSame
import Derived.Test.YtablleokoifolaaGreatDoorCards
import Derived.Test.YtablleokoifolaaGreatDoorTie
import Derived.WideShapes
import Derived.LaidLaws
import Derived.LaidHandle
import Derived.OpenShut
import Derived.Deep.DeepHandedRow
import Derived.FnData
/- Plain functions and their contracts. Written by a program of this claim set (g2.py). -/
set_option linter.unusedVariables false
set_option maxRecDepth 100000
set_option maxHeartbeats 4000000
namespace Go.Proofs.YtablleokoifolaaGreatDoor
open Go

/- mandrel/ops.reckoned -/
def g_ops_reckoned (p0 : ByteArray) : Option (Typ) := ((g_ops_own p0).bind fun x1 => ((g_strings_Cut p0 (ByteArray.mk #[46])).bind fun x3 => ((g_strings_HasSuffix p0 (ByteArray.mk #[95, 105, 54, 52])).bind fun x5 => (if x5 = true then some (Typ.mk ([126] : List Int) x1) else ((g_strings_Contains x3.2.1 (ByteArray.mk #[101, 120, 116, 101, 110, 100])).bind fun x7 => (if x7 = true then some (Typ.mk ([127] : List Int) x1) else (if (x3.2.1.toList == (ByteArray.mk #[101, 113, 122]).toList) = true then some (Typ.mk ([x1] : List Int) 127) else (if ((x3.2.1.toList == (ByteArray.mk #[99, 108, 122]).toList) || ((x3.2.1.toList == (ByteArray.mk #[99, 116, 122]).toList) || (x3.2.1.toList == (ByteArray.mk #[112, 111, 112, 99, 110, 116]).toList))) = true then some (Typ.mk ([x1] : List Int) x1) else gd (0 ≤ (0 : Int) ∧ (0 : Int) ≤ 2 ∧ 2 ≤ (x3.2.1.size : Int)) (gd (¬ (((ByteArray.mk #[32]).size + (ByteArray.extract x3.2.1 (0 : Int).toNat (2 : Int).toNat).size : Nat) : Int) > IntKind.i64.max) (gd (¬ ((((ByteArray.mk #[32]) ++ (ByteArray.extract x3.2.1 (0 : Int).toNat (2 : Int).toNat)).size + (ByteArray.mk #[32]).size : Nat) : Int) > IntKind.i64.max) (((g_strings_Contains (ByteArray.mk #[32, 101, 113, 32, 110, 101, 32, 108, 116, 32, 103, 116, 32, 108, 101, 32, 103, 101, 32]) (((ByteArray.mk #[32]) ++ (ByteArray.extract x3.2.1 (0 : Int).toNat (2 : Int).toNat)) ++ (ByteArray.mk #[32]))).bind fun x12 => (if x12 = true then some (Typ.mk ([x1, x1] : List Int) 127) else some (Typ.mk ([x1, x1] : List Int) x1))))))))))))))

theorem c_ops_reckoned (p0 : ByteArray) (r : Typ) (H : g_ops_reckoned p0 = some r) : CF E 90 [.str p0] (.agg (eTyp r)) := by
  refine cf_of (A := F_ops_reckoned) fn_ops_reckoned rfl fun fr => ?_
  unfold g_ops_reckoned at H
  refine AW2.seq ?_
  refine AW2.rg [.k 2] [0, 2] [] [.k 2] ⟨[(0, .d (.str p0)), (2, .p 2 0)], [(2, .st false [.d .nils, .d (.int .u8 0)])]⟩ (And.intro True.intro True.intro) (by kernel_rfl) ?_
  refine AW2.seq ?_
  obtain ⟨x1, hx2, H⟩ := bind_some H
  refine AW2.rg [.r (.int .u8 x1)] [0, 2, 3] [] [.k 2] ⟨[(0, .d (.str p0)), (2, .p 2 0), (3, .d (.int .u8 x1))], [(2, .st false [.d .nils, .d (.int .u8 0)])]⟩ (And.intro (And.intro (c_ops_own p0 x1 hx2) True.intro) True.intro) (by kernel_rfl) ?_
  refine AW2.seq ?_
  obtain ⟨x3, hx4, H⟩ := bind_some H
  refine AW2.rg [.r (.tup [.str x3.1, .str x3.2.1, .bool x3.2.2])] [0, 2, 3, 5] [] [.k 2] ⟨[(0, .d (.str p0)), (2, .p 2 0), (3, .d (.int .u8 x1)), (5, .d (.str x3.2.1))], [(2, .st false [.d .nils, .d (.int .u8 0)])]⟩ (And.intro (And.intro (c_strings_Cut p0 (ByteArray.mk #[46]) x3 hx4) True.intro) True.intro) (by kernel_rfl) ?_
  refine AW2.seq ?_
  refine AW2.block ?_
  refine AW2.seq ?_
  obtain ⟨x5, hx6, H⟩ := bind_some H
  refine AW2.rg [.r (.bool x5)] [2, 3, 5, 15] [] [.k 2] ⟨[(2, .p 2 0), (3, .d (.int .u8 x1)), (5, .d (.str x3.2.1)), (15, .d (.bool x5))], [(2, .st false [.d .nils, .d (.int .u8 0)])]⟩ (And.intro (And.intro (c_strings_HasSuffix p0 (ByteArray.mk #[95, 105, 54, 52]) x5 hx6) True.intro) True.intro) (by kernel_rfl) ?_
  refine AW2.cond (b := x5) rfl (fun hc => ?_) (fun hc => ?_)
  · replace H := ite_t H hc
    refine AW2.seq ?_
    refine AW2.rg [.ks true 18 ([126] : List Int).length (fl (eI .u8) ([126] : List Int))] [2] [] [.k 2, .k 18] ⟨[(2, .p 2 0)], [(2, .st false [.ls 18 0 ([126] : List Int).length, .d (.int .u8 x1)]), (18, .sl false 1 ([126] : List Int).length (fl (eI .u8) ([126] : List Int)))]⟩ (And.intro (And.intro (litK (eI .u8) ([126] : List Int) (fun _ => rfl)) True.intro) True.intro) (by kernel_rfl) ?_
    refine AW2.ret ?_
    have H := Option.some.inj H
    subst H
    exact retP_mk2 (And.intro (Nat.le_refl ([126] : List Int).length) (And.intro (dfl (eI .u8) (dep_eI .u8) ([126] : List Int)) True.intro)) (by kernel_rfl)
  · replace H := ite_f H hc
    refine AW2.seq ?_
    obtain ⟨x7, hx8, H⟩ := bind_some H
    refine AW2.rg [.r (.bool x7)] [2, 3, 5, 21] [] [.k 2] ⟨[(2, .p 2 0), (3, .d (.int .u8 x1)), (5, .d (.str x3.2.1)), (21, .d (.bool x7))], [(2, .st false [.d .nils, .d (.int .u8 0)])]⟩ (And.intro (And.intro (c_strings_Contains x3.2.1 (ByteArray.mk #[101, 120, 116, 101, 110, 100]) x7 hx8) True.intro) True.intro) (by kernel_rfl) ?_
    refine AW2.cond (b := x7) rfl (fun hc => ?_) (fun hc => ?_)
    · replace H := ite_t H hc
      refine AW2.seq ?_
      refine AW2.rg [.ks true 24 ([127] : List Int).length (fl (eI .u8) ([127] : List Int))] [2] [] [.k 2, .k 24] ⟨[(2, .p 2 0)], [(2, .st false [.ls 24 0 ([127] : List Int).length, .d (.int .u8 x1)]), (24, .sl false 1 ([127] : List Int).length (fl (eI .u8) ([127] : List Int)))]⟩ (And.intro (And.intro (litK (eI .u8) ([127] : List Int) (fun _ => rfl)) True.intro) True.intro) (by kernel_rfl) ?_
      refine AW2.ret ?_
      have H := Option.some.inj H
      subst H
      exact retP_mk2 (And.intro (Nat.le_refl ([127] : List Int).length) (And.intro (dfl (eI .u8) (dep_eI .u8) ([127] : List Int)) True.intro)) (by kernel_rfl)
    · replace H := ite_f H hc
      refine AW2.seq ?_
      refine AW2.rg [] [2, 3, 5, 27] [] [.k 2] ⟨[(2, .p 2 0), (3, .d (.int .u8 x1)), (5, .d (.str x3.2.1)), (27, .d (.bool (x3.2.1.toList == (ByteArray.mk #[101, 113, 122]).toList)))], [(2, .st false [.d .nils, .d (.int .u8 0)])]⟩ (And.intro True.intro True.intro) (by kernel_rfl) ?_
      refine AW2.cond (b := (x3.2.1.toList == (ByteArray.mk #[101, 113, 122]).toList)) rfl (fun hc => ?_) (fun hc => ?_)
      · replace H := ite_t H hc
        refine AW2.seq ?_
        refine AW2.rg [.ks true 31 ([x1] : List Int).length (fl (eI .u8) ([x1] : List Int))] [2] [] [.k 2, .k 31] ⟨[(2, .p 2 0)], [(2, .st false [.ls 31 0 ([x1] : List Int).length, .d (.int .u8 127)]), (31, .sl false 1 ([x1] : List Int).length (fl (eI .u8) ([x1] : List Int)))]⟩ (And.intro (And.intro (litK (eI .u8) ([x1] : List Int) (fun _ => rfl)) True.intro) True.intro) (by kernel_rfl) ?_
        refine AW2.ret ?_
        have H := Option.some.inj H
        subst H
        exact retP_mk2 (And.intro (Nat.le_refl ([x1] : List Int).length) (And.intro (dfl (eI .u8) (dep_eI .u8) ([x1] : List Int)) True.intro)) (by kernel_rfl)
      · replace H := ite_f H hc
        refine AW2.seq ?_
        refine AW2.reg [] rfl (YW.to ⟨[(2, .p 2 0), (3, .d (.int .u8 x1)), (5, .d (.str x3.2.1)), (33, .d (.bool ((x3.2.1.toList == (ByteArray.mk #[99, 108, 122]).toList) || ((x3.2.1.toList == (ByteArray.mk #[99, 116, 122]).toList) || (x3.2.1.toList == (ByteArray.mk #[112, 111, 112, 99, 110, 116]).toList)))))], [(2, .st false [.d .nils, .d (.int .u8 0)])]⟩ ?qh14 ?h14)
        case h14 =>
          rcases bT (x3.2.1.toList == (ByteArray.mk #[99, 108, 122]).toList) with hc1 | hc1
          · exact YW.fin [(36, true), (40, true)] [] [2, 3, 5, 33] [(33, .d (.bool ((x3.2.1.toList == (ByteArray.mk #[99, 108, 122]).toList) || ((x3.2.1.toList == (ByteArray.mk #[99, 116, 122]).toList) || (x3.2.1.toList == (ByteArray.mk #[112, 111, 112, 99, 110, 116]).toList)))))] [.k 2] _ (And.intro (And.intro hc1 (And.intro hc1 (And.intro hc1 (And.intro (Eq.refl true) (And.intro (Eq.refl true) (And.intro (Eq.refl true) True.intro)))))) (And.intro (ovB (orT (b := ((x3.2.1.toList == (ByteArray.mk #[99, 116, 122]).toList) || (x3.2.1.toList == (ByteArray.mk #[112, 111, 112, 99, 110, 116]).toList))) hc1)) True.intro)) (by kernel_rfl) rfl
          · rcases bT (x3.2.1.toList == (ByteArray.mk #[99, 116, 122]).toList) with hc2 | hc2
            · exact YW.fin [(36, false), (40, true)] [] [2, 3, 5, 33] [(33, .d (.bool ((x3.2.1.toList == (ByteArray.mk #[99, 108, 122]).toList) || ((x3.2.1.toList == (ByteArray.mk #[99, 116, 122]).toList) || (x3.2.1.toList == (ByteArray.mk #[112, 111, 112, 99, 110, 116]).toList)))))] [.k 2] _ (And.intro (And.intro hc1 (And.intro hc1 (And.intro hc1 (And.intro hc2 (And.intro hc2 (And.intro hc2 True.intro)))))) (And.intro (ovB (Eq.trans (orF (b := ((x3.2.1.toList == (ByteArray.mk #[99, 116, 122]).toList) || (x3.2.1.toList == (ByteArray.mk #[112, 111, 112, 99, 110, 116]).toList))) hc1) (orT (b := (x3.2.1.toList == (ByteArray.mk #[112, 111, 112, 99, 110, 116]).toList)) hc2))) True.intro)) (by kernel_rfl) rfl
            · exact YW.fin [(36, false), (40, false)] [] [2, 3, 5, 33] [(33, .d (.bool ((x3.2.1.toList == (ByteArray.mk #[99, 108, 122]).toList) || ((x3.2.1.toList == (ByteArray.mk #[99, 116, 122]).toList) || (x3.2.1.toList == (ByteArray.mk #[112, 111, 112, 99, 110, 116]).toList)))))] [.k 2] _ (And.intro (And.intro hc1 (And.intro hc1 (And.intro hc1 (And.intro hc2 (And.intro hc2 (And.intro hc2 True.intro)))))) (And.intro (ovB (Eq.trans (orF (b := ((x3.2.1.toList == (ByteArray.mk #[99, 116, 122]).toList) || (x3.2.1.toList == (ByteArray.mk #[112, 111, 112, 99, 110, 116]).toList))) hc1) (Eq.trans (orF (b := (x3.2.1.toList == (ByteArray.mk #[112, 111, 112, 99, 110, 116]).toList)) hc2) (Eq.refl (x3.2.1.toList == (ByteArray.mk #[112, 111, 112, 99, 110, 116]).toList))))) True.intro)) (by kernel_rfl) rfl
        refine AW2.cond (b := ((x3.2.1.toList == (ByteArray.mk #[99, 108, 122]).toList) || ((x3.2.1.toList == (ByteArray.mk #[99, 116, 122]).toList) || (x3.2.1.toList == (ByteArray.mk #[112, 111, 112, 99, 110, 116]).toList)))) rfl (fun hc => ?_) (fun hc => ?_)
        · replace H := ite_t H hc
          refine AW2.seq ?_
          refine AW2.rg [.ks true 45 ([x1] : List Int).length (fl (eI .u8) ([x1] : List Int))] [2] [] [.k 2, .k 45] ⟨[(2, .p 2 0)], [(2, .st false [.ls 45 0 ([x1] : List Int).length, .d (.int .u8 x1)]), (45, .sl false 1 ([x1] : List Int).length (fl (eI .u8) ([x1] : List Int)))]⟩ (And.intro (And.intro (litK (eI .u8) ([x1] : List Int) (fun _ => rfl)) True.intro) True.intro) (by kernel_rfl) ?_
          refine AW2.ret ?_
          have H := Option.some.inj H
          subst H
          exact retP_mk2 (And.intro (Nat.le_refl ([x1] : List Int).length) (And.intro (dfl (eI .u8) (dep_eI .u8) ([x1] : List Int)) True.intro)) (by kernel_rfl)
        · replace H := ite_f H hc
          refine AW2.seq ?_
          obtain ⟨h9, H⟩ := gd_some H
          obtain ⟨h10, H⟩ := gd_some H
          obtain ⟨h11, H⟩ := gd_some H
          obtain ⟨x12, hx13, H⟩ := bind_some H
          refine AW2.rg [.r (.bool x12)] [2, 3, 48] [] [.k 2] ⟨[(2, .p 2 0), (3, .d (.int .u8 x1)), (48, .d (.bool x12))], [(2, .st false [.d .nils, .d (.int .u8 0)])]⟩ (And.intro (And.intro h9 (And.intro h10 (And.intro h11 (And.intro (c_strings_Contains (ByteArray.mk #[32, 101, 113, 32, 110, 101, 32, 108, 116, 32, 103, 116, 32, 108, 101, 32, 103, 101, 32]) (((ByteArray.mk #[32]) ++ (ByteArray.extract x3.2.1 (0 : Int).toNat (2 : Int).toNat)) ++ (ByteArray.mk #[32])) x12 hx13) True.intro)))) True.intro) (by kernel_rfl) ?_
          refine AW2.cond (b := x12) rfl (fun hc => ?_) (fun hc => ?_)
          · replace H := ite_t H hc
            refine AW2.seq ?_
            refine AW2.rg [.ks true 56 ([x1, x1] : List Int).length (fl (eI .u8) ([x1, x1] : List Int))] [2] [] [.k 2, .k 56] ⟨[(2, .p 2 0)], [(2, .st false [.ls 56 0 ([x1, x1] : List Int).length, .d (.int .u8 127)]), (56, .sl false 1 ([x1, x1] : List Int).length (fl (eI .u8) ([x1, x1] : List Int)))]⟩ (And.intro (And.intro (litK (eI .u8) ([x1, x1] : List Int) (fun _ => rfl)) True.intro) True.intro) (by kernel_rfl) ?_
            refine AW2.ret ?_
            have H := Option.some.inj H
            subst H
            exact retP_mk2 (And.intro (Nat.le_refl ([x1, x1] : List Int).length) (And.intro (dfl (eI .u8) (dep_eI .u8) ([x1, x1] : List Int)) True.intro)) (by kernel_rfl)
          · replace H := ite_f H hc
            refine AW2.skip ?_
            refine AW2.seq ?_
            refine AW2.rg [.ks true 60 ([x1, x1] : List Int).length (fl (eI .u8) ([x1, x1] : List Int))] [2] [] [.k 2, .k 60] ⟨[(2, .p 2 0)], [(2, .st false [.ls 60 0 ([x1, x1] : List Int).length, .d (.int .u8 x1)]), (60, .sl false 1 ([x1, x1] : List Int).length (fl (eI .u8) ([x1, x1] : List Int)))]⟩ (And.intro (And.intro (litK (eI .u8) ([x1, x1] : List Int) (fun _ => rfl)) True.intro) True.intro) (by kernel_rfl) ?_
            refine AW2.ret ?_
            have H := Option.some.inj H
            subst H
            exact retP_mk2 (And.intro (Nat.le_refl ([x1, x1] : List Int).length) (And.intro (dfl (eI .u8) (dep_eI .u8) ([x1, x1] : List Int)) True.intro)) (by kernel_rfl)

/- mandrel/ops.Sign -/
def g_ops_Sign (p0 : Int) : Option (Typ × Option Int) := ((g_ops_NameB p0).bind fun x1 => (if ((x1.toList == (ByteArray.mk #[]).toList) || (decide (p0 < (40 : Int)))) = true then some ((Typ.mk ([] : List Int) 0), (some 1)) else (if (decide (p0 ≤ (53 : Int))) = true then ((g_ops_own x1).bind fun x3 => some ((Typ.mk ([127] : List Int) x3), none)) else (if (decide (p0 ≤ (62 : Int))) = true then ((g_ops_own x1).bind fun x5 => some ((Typ.mk ([127, x5] : List Int) 0), none)) else (if (p0 == (63 : Int)) = true then some ((Typ.mk ([] : List Int) 127), none) else (if (p0 == (64 : Int)) = true then some ((Typ.mk ([127] : List Int) 127), none) else (if (decide (p0 ≤ (66 : Int))) = true then ((g_ops_own x1).bind fun x7 => some ((Typ.mk ([] : List Int) x7), none)) else ((g_ops_reckoned x1).bind fun x9 => some (x9, none)))))))))

theorem c_ops_Sign (p0 : Int) (r : Typ × Option Int) (H : g_ops_Sign p0 = some r) : CF E 85 [.int .u8 p0] (.tup [.agg (eTyp r.1), .err 45 r.2]) := by
  refine cf_of (A := F_ops_Sign) fn_ops_Sign rfl fun fr => ?_
  unfold g_ops_Sign at H
  refine AW2.seq ?_
  refine AW2.rg [.k 2] [0, 2] [] [.k 2] ⟨[(0, .d (.int .u8 p0)), (2, .p 2 0)], [(2, .st false [.d .nils, .d (.int .u8 0)])]⟩ (And.intro True.intro True.intro) (by kernel_rfl) ?_
  refine AW2.seq ?_
  obtain ⟨x1, hx2, H⟩ := bind_some H
  refine AW2.rg [.r (.str x1)] [0, 2, 4] [] [.k 2] ⟨[(0, .d (.int .u8 p0)), (2, .p 2 0), (4, .d (.str x1))], [(2, .st false [.d .nils, .d (.int .u8 0)])]⟩ (And.intro (And.intro (c_ops_NameB p0 x1 hx2) True.intro) True.intro) (by kernel_rfl) ?_
  refine AW2.seq ?_
  refine AW2.block ?_
  refine AW2.seq ?_
  refine AW2.reg [] rfl (YW.to ⟨[(0, .d (.int .u8 p0)), (2, .p 2 0), (4, .d (.str x1)), (7, .d (.bool ((x1.toList == (ByteArray.mk #[]).toList) || (decide (p0 < (40 : Int))))))], [(2, .st false [.d .nils, .d (.int .u8 0)])]⟩ ?qh11 ?h11)
  case h11 =>
    rcases bT (x1.toList == (ByteArray.mk #[]).toList) with hc1 | hc1
    · exact YW.fin [(10, true)] [] [0, 2, 4, 7] [(7, .d (.bool ((x1.toList == (ByteArray.mk #[]).toList) || (decide (p0 < (40 : Int))))))] [.k 2] _ (And.intro (And.intro hc1 (And.intro hc1 (And.intro hc1 True.intro))) (And.intro (ovB (orT (b := (decide (p0 < (40 : Int)))) hc1)) True.intro)) (by kernel_rfl) rfl
    · exact YW.fin [(10, false)] [] [0, 2, 4, 7] [(7, .d (.bool ((x1.toList == (ByteArray.mk #[]).toList) || (decide (p0 < (40 : Int))))))] [.k 2] _ (And.intro (And.intro hc1 (And.intro hc1 (And.intro hc1 True.intro))) (And.intro (ovB (Eq.trans (orF (b := (decide (p0 < (40 : Int)))) hc1) (Eq.refl (decide (p0 < (40 : Int)))))) True.intro)) (by kernel_rfl) rfl
  refine AW2.cond (b := ((x1.toList == (ByteArray.mk #[]).toList) || (decide (p0 < (40 : Int))))) rfl (fun hc => ?_) (fun hc => ?_)
  · replace H := ite_t H hc
    refine AW2.seq ?_
    refine AW2.rg [] [2, 3] [] [.k 2] ⟨[(2, .p 2 0), (3, .d (.err 45 (some 1)))], [(2, .st false [.d .nils, .d (.int .u8 0)])]⟩ (And.intro True.intro True.intro) (by kernel_rfl) ?_
    refine AW2.ret ?_
    have H := Option.some.inj H
    subst H
    exact retP_mk2 True.intro (by kernel_rfl)
  · replace H := ite_f H hc
    refine AW2.seq ?_
    refine AW2.rg [] [0, 2, 4, 16] [] [.k 2] ⟨[(0, .d (.int .u8 p0)), (2, .p 2 0), (4, .d (.str x1)), (16, .d (.bool (decide (p0 ≤ (53 : Int)))))], [(2, .st false [.d .nils, .d (.int .u8 0)])]⟩ (And.intro True.intro True.intro) (by kernel_rfl) ?_
    refine AW2.cond (b := (decide (p0 ≤ (53 : Int)))) rfl (fun hc => ?_) (fun hc => ?_)
    · replace H := ite_t H hc
      refine AW2.seq ?_
      obtain ⟨x3, hx4, H⟩ := bind_some H
      refine AW2.rg [.ks true 19 ([127] : List Int).length (fl (eI .u8) ([127] : List Int)), .r (.int .u8 x3)] [2, 3] [] [.k 2, .k 19] ⟨[(2, .p 2 0), (3, .d .nili)], [(2, .st false [.ls 19 0 ([127] : List Int).length, .d (.int .u8 x3)]), (19, .sl false 1 ([127] : List Int).length (fl (eI .u8) ([127] : List Int)))]⟩ (And.intro (And.intro (litK (eI .u8) ([127] : List Int) (fun _ => rfl)) (And.intro (c_ops_own x1 x3 hx4) True.intro)) True.intro) (by kernel_rfl) ?_
      refine AW2.ret ?_
      have H := Option.some.inj H
      subst H
      exact retP_mk2 (And.intro (Nat.le_refl ([127] : List Int).length) (And.intro (dfl (eI .u8) (dep_eI .u8) ([127] : List Int)) True.intro)) (by kernel_rfl)
    · replace H := ite_f H hc
      refine AW2.seq ?_
      refine AW2.rg [] [0, 2, 4, 23] [] [.k 2] ⟨[(0, .d (.int .u8 p0)), (2, .p 2 0), (4, .d (.str x1)), (23, .d (.bool (decide (p0 ≤ (62 : Int)))))], [(2, .st false [.d .nils, .d (.int .u8 0)])]⟩ (And.intro True.intro True.intro) (by kernel_rfl) ?_
      refine AW2.cond (b := (decide (p0 ≤ (62 : Int)))) rfl (fun hc => ?_) (fun hc => ?_)
      · replace H := ite_t H hc
        refine AW2.seq ?_
        obtain ⟨x5, hx6, H⟩ := bind_some H
        refine AW2.rg [.r (.int .u8 x5), .ks true 28 ([127, x5] : List Int).length (fl (eI .u8) ([127, x5] : List Int))] [2, 3] [] [.k 2, .k 28] ⟨[(2, .p 2 0), (3, .d .nili)], [(2, .st false [.ls 28 0 ([127, x5] : List Int).length, .d (.int .u8 0)]), (28, .sl false 1 ([127, x5] : List Int).length (fl (eI .u8) ([127, x5] : List Int)))]⟩ (And.intro (And.intro (c_ops_own x1 x5 hx6) (And.intro (litK (eI .u8) ([127, x5] : List Int) (fun _ => rfl)) True.intro)) True.intro) (by kernel_rfl) ?_
        refine AW2.ret ?_
        have H := Option.some.inj H
        subst H
        exact retP_mk2 (And.intro (Nat.le_refl ([127, x5] : List Int).length) (And.intro (dfl (eI .u8) (dep_eI .u8) ([127, x5] : List Int)) True.intro)) (by kernel_rfl)
      · replace H := ite_f H hc
        refine AW2.seq ?_
        refine AW2.rg [] [0, 2, 4, 30] [] [.k 2] ⟨[(0, .d (.int .u8 p0)), (2, .p 2 0), (4, .d (.str x1)), (30, .d (.bool (p0 == (63 : Int))))], [(2, .st false [.d .nils, .d (.int .u8 0)])]⟩ (And.intro True.intro True.intro) (by kernel_rfl) ?_
        refine AW2.cond (b := (p0 == (63 : Int))) rfl (fun hc => ?_) (fun hc => ?_)
        · replace H := ite_t H hc
          refine AW2.seq ?_
          refine AW2.rg [] [2, 3] [] [.k 2] ⟨[(2, .p 2 0), (3, .d .nili)], [(2, .st false [.d .nils, .d (.int .u8 127)])]⟩ (And.intro True.intro True.intro) (by kernel_rfl) ?_
          refine AW2.ret ?_
          have H := Option.some.inj H
          subst H
          exact retP_mk2 True.intro (by kernel_rfl)
        · replace H := ite_f H hc
          refine AW2.seq ?_
          refine AW2.rg [] [0, 2, 4, 34] [] [.k 2] ⟨[(0, .d (.int .u8 p0)), (2, .p 2 0), (4, .d (.str x1)), (34, .d (.bool (p0 == (64 : Int))))], [(2, .st false [.d .nils, .d (.int .u8 0)])]⟩ (And.intro True.intro True.intro) (by kernel_rfl) ?_
          refine AW2.cond (b := (p0 == (64 : Int))) rfl (fun hc => ?_) (fun hc => ?_)
          · replace H := ite_t H hc
            refine AW2.seq ?_
            refine AW2.rg [.ks true 37 ([127] : List Int).length (fl (eI .u8) ([127] : List Int))] [2, 3] [] [.k 2, .k 37] ⟨[(2, .p 2 0), (3, .d .nili)], [(2, .st false [.ls 37 0 ([127] : List Int).length, .d (.int .u8 127)]), (37, .sl false 1 ([127] : List Int).length (fl (eI .u8) ([127] : List Int)))]⟩ (And.intro (And.intro (litK (eI .u8) ([127] : List Int) (fun _ => rfl)) True.intro) True.intro) (by kernel_rfl) ?_
            refine AW2.ret ?_
            have H := Option.some.inj H
            subst H
            exact retP_mk2 (And.intro (Nat.le_refl ([127] : List Int).length) (And.intro (dfl (eI .u8) (dep_eI .u8) ([127] : List Int)) True.intro)) (by kernel_rfl)
          · replace H := ite_f H hc
            refine AW2.seq ?_
            refine AW2.rg [] [2, 4, 39] [] [.k 2] ⟨[(2, .p 2 0), (4, .d (.str x1)), (39, .d (.bool (decide (p0 ≤ (66 : Int)))))], [(2, .st false [.d .nils, .d (.int .u8 0)])]⟩ (And.intro True.intro True.intro) (by kernel_rfl) ?_
            refine AW2.cond (b := (decide (p0 ≤ (66 : Int)))) rfl (fun hc => ?_) (fun hc => ?_)
            · replace H := ite_t H hc
              refine AW2.seq ?_
              obtain ⟨x7, hx8, H⟩ := bind_some H
              refine AW2.rg [.r (.int .u8 x7)] [2, 3] [] [.k 2] ⟨[(2, .p 2 0), (3, .d .nili)], [(2, .st false [.d .nils, .d (.int .u8 x7)])]⟩ (And.intro (And.intro (c_ops_own x1 x7 hx8) True.intro) True.intro) (by kernel_rfl) ?_
              refine AW2.ret ?_
              have H := Option.some.inj H
              subst H
              exact retP_mk2 True.intro (by kernel_rfl)
            · replace H := ite_f H hc
              refine AW2.skip ?_
              refine AW2.seq ?_
              obtain ⟨x9, hx10, H⟩ := bind_some H
              refine AW2.rg [.r (.agg (eTyp x9))] [2, 3] [] [.k 2] ⟨[(2, .p 2 0), (3, .d .nili)], [(2, .st false (eD (eTyp x9)))]⟩ (And.intro (And.intro (c_ops_reckoned x1 x9 hx10) True.intro) True.intro) (by kernel_rfl) ?_
              refine AW2.ret ?_
              have H := Option.some.inj H
              subst H
              exact retP_mk2 True.intro (by kernel_rfl)

/- internal/stringslite.CutSuffix -/
def g_stringslite_CutSuffix (p0 : ByteArray) (p1 : ByteArray) : Option (ByteArray × Bool) := ((g_stringslite_HasSuffix p0 p1).bind fun x1 => (if (!x1) = true then some (p0, false) else gd (0 ≤ (0 : Int) ∧ (0 : Int) ≤ (wI ((p0.size : Int) - (p1.size : Int))) ∧ (wI ((p0.size : Int) - (p1.size : Int))) ≤ (p0.size : Int)) (some ((ByteArray.extract p0 (0 : Int).toNat ((wI ((p0.size : Int) - (p1.size : Int))) : Int).toNat), true))))

theorem c_stringslite_CutSuffix (p0 : ByteArray) (p1 : ByteArray) (r : ByteArray × Bool) (H : g_stringslite_CutSuffix p0 p1 = some r) : CF E 100 [.str p0, .str p1] (.tup [.str r.1, .bool r.2]) := by
  refine cf_of (A := F_stringslite_CutSuffix) fn_stringslite_CutSuffix rfl fun fr => ?_
  unfold g_stringslite_CutSuffix at H
  refine AW2.seq ?_
  refine AW2.rg [] [0, 1] [] [] ⟨[(0, .d (.str p0)), (1, .d (.str p1))], []⟩ (And.intro True.intro True.intro) (by kernel_rfl) ?_
  refine AW2.seq ?_
  refine AW2.seq ?_
  obtain ⟨x1, hx2, H⟩ := bind_some H
  refine AW2.rg [.r (.bool x1)] [0, 1, 9] [] [] ⟨[(0, .d (.str p0)), (1, .d (.str p1)), (9, .d (.bool (!x1)))], []⟩ (And.intro (And.intro (c_stringslite_HasSuffix p0 p1 x1 hx2) True.intro) True.intro) (by kernel_rfl) ?_
  refine AW2.cond (b := (!x1)) rfl (fun hc => ?_) (fun hc => ?_)
  · replace H := ite_t H hc
    refine AW2.seq ?_
    refine AW2.rg [] [4, 5] [] [] ⟨[(4, .d (.str p0)), (5, .d (.bool false))], []⟩ (And.intro True.intro True.intro) (by kernel_rfl) ?_
    refine AW2.ret ?_
    have H := Option.some.inj H
    subst H
    exact retP_mk2 True.intro (by kernel_rfl)
  · replace H := ite_f H hc
    refine AW2.skip ?_
    refine AW2.seq ?_
    obtain ⟨h3, H⟩ := gd_some H
    refine AW2.rg [] [4, 5] [] [] ⟨[(4, .d (.str (ByteArray.extract p0 (0 : Int).toNat ((wI ((p0.size : Int) - (p1.size : Int))) : Int).toNat))), (5, .d (.bool true))], []⟩ (And.intro (And.intro h3 True.intro) True.intro) (by kernel_rfl) ?_
    refine AW2.ret ?_
    have H := Option.some.inj H
    subst H
    exact retP_mk2 True.intro (by kernel_rfl)

/- strings.CutSuffix -/
def g_strings_CutSuffix (p0 : ByteArray) (p1 : ByteArray) : Option (ByteArray × Bool) := ((g_stringslite_CutSuffix p0 p1).bind fun x1 => some (x1.1, x1.2))

theorem c_strings_CutSuffix (p0 : ByteArray) (p1 : ByteArray) (r : ByteArray × Bool) (H : g_strings_CutSuffix p0 p1 = some r) : CF E 91 [.str p0, .str p1] (.tup [.str r.1, .bool r.2]) := by
  refine cf_of (A := F_strings_CutSuffix) fn_strings_CutSuffix rfl fun fr => ?_
  unfold g_strings_CutSuffix at H
  refine AW2.seq ?_
  refine AW2.rg [] [0, 1] [] [] ⟨[(0, .d (.str p0)), (1, .d (.str p1))], []⟩ (And.intro True.intro True.intro) (by kernel_rfl) ?_
  refine AW2.seq ?_
  obtain ⟨x1, hx2, H⟩ := bind_some H
  refine AW2.rg [.r (.tup [.str x1.1, .bool x1.2])] [4, 5] [] [] ⟨[(4, .d (.str x1.1)), (5, .d (.bool x1.2))], []⟩ (And.intro (And.intro (c_stringslite_CutSuffix p0 p1 x1 hx2) True.intro) True.intro) (by kernel_rfl) ?_
  refine AW2.ret ?_
  have H := Option.some.inj H
  subst H
  exact retP_mk2 True.intro (by kernel_rfl)

/- internal/stringslite.TrimSuffix -/
def g_stringslite_TrimSuffix (p0 : ByteArray) (p1 : ByteArray) : Option (ByteArray) := ((g_stringslite_HasSuffix p0 p1).bind fun x1 => (if x1 = true then gd (0 ≤ (0 : Int) ∧ (0 : Int) ≤ (wI ((p0.size : Int) - (p1.size : Int))) ∧ (wI ((p0.size : Int) - (p1.size : Int))) ≤ (p0.size : Int)) (some (ByteArray.extract p0 (0 : Int).toNat ((wI ((p0.size : Int) - (p1.size : Int))) : Int).toNat)) else some p0))

theorem c_stringslite_TrimSuffix (p0 : ByteArray) (p1 : ByteArray) (r : ByteArray) (H : g_stringslite_TrimSuffix p0 p1 = some r) : CF E 101 [.str p0, .str p1] (.str r) := by
  refine cf_of (A := F_stringslite_TrimSuffix) fn_stringslite_TrimSuffix rfl fun fr => ?_
  unfold g_stringslite_TrimSuffix at H
  refine AW2.seq ?_
  refine AW2.rg [] [0, 1] [] [] ⟨[(0, .d (.str p0)), (1, .d (.str p1))], []⟩ (And.intro True.intro True.intro) (by kernel_rfl) ?_
  refine AW2.seq ?_
  refine AW2.seq ?_
  obtain ⟨x1, hx2, H⟩ := bind_some H
  refine AW2.rg [.r (.bool x1)] [0, 1, 7] [] [] ⟨[(0, .d (.str p0)), (1, .d (.str p1)), (7, .d (.bool x1))], []⟩ (And.intro (And.intro (c_stringslite_HasSuffix p0 p1 x1 hx2) True.intro) True.intro) (by kernel_rfl) ?_
  refine AW2.cond (b := x1) rfl (fun hc => ?_) (fun hc => ?_)
  · replace H := ite_t H hc
    refine AW2.seq ?_
    obtain ⟨h3, H⟩ := gd_some H
    refine AW2.rg [] [4] [] [] ⟨[(4, .d (.str (ByteArray.extract p0 (0 : Int).toNat ((wI ((p0.size : Int) - (p1.size : Int))) : Int).toNat)))], []⟩ (And.intro (And.intro h3 True.intro) True.intro) (by kernel_rfl) ?_
    refine AW2.ret ?_
    have H := Option.some.inj H
    subst H
    exact retP_mk2 True.intro (by kernel_rfl)
  · replace H := ite_f H hc
    refine AW2.skip ?_
    refine AW2.seq ?_
    refine AW2.rg [] [4] [] [] ⟨[(4, .d (.str p0))], []⟩ (And.intro True.intro True.intro) (by kernel_rfl) ?_
    refine AW2.ret ?_
    have H := Option.some.inj H
    subst H
    exact retP_mk2 True.intro (by kernel_rfl)

/- strings.TrimSuffix -/
def g_strings_TrimSuffix (p0 : ByteArray) (p1 : ByteArray) : Option (ByteArray) := ((g_stringslite_TrimSuffix p0 p1).bind fun x1 => some x1)

theorem c_strings_TrimSuffix (p0 : ByteArray) (p1 : ByteArray) (r : ByteArray) (H : g_strings_TrimSuffix p0 p1 = some r) : CF E 92 [.str p0, .str p1] (.str r) := by
  refine cf_of (A := F_strings_TrimSuffix) fn_strings_TrimSuffix rfl fun fr => ?_
  unfold g_strings_TrimSuffix at H
  refine AW2.seq ?_
  refine AW2.rg [] [0, 1] [] [] ⟨[(0, .d (.str p0)), (1, .d (.str p1))], []⟩ (And.intro True.intro True.intro) (by kernel_rfl) ?_
  refine AW2.seq ?_
  obtain ⟨x1, hx2, H⟩ := bind_some H
  refine AW2.rg [.r (.str x1)] [4] [] [] ⟨[(4, .d (.str x1))], []⟩ (And.intro (And.intro (c_stringslite_TrimSuffix p0 p1 x1 hx2) True.intro) True.intro) (by kernel_rfl) ?_
  refine AW2.ret ?_
  have H := Option.some.inj H
  subst H
  exact retP_mk2 True.intro (by kernel_rfl)

/- mandrel/ops.Bytes -/
def g_ops_Bytes (p0 : Int) : Option (Int × Bool × Option Int) := ((g_ops_NameB p0).bind fun x1 => (if ((x1.toList == (ByteArray.mk #[]).toList) || ((decide (p0 < (40 : Int))) || (decide (p0 > (62 : Int))))) = true then some (0, false, (some 1)) else ((g_strings_CutSuffix x1 (ByteArray.mk #[95, 115])).bind fun x3 => ((g_strings_TrimSuffix x3.1 (ByteArray.mk #[95, 117])).bind fun x5 => ((g_strings_HasSuffix x5 (ByteArray.mk #[56])).bind fun x7 => (if x7 = true then some (1, x3.2, none) else ((g_strings_HasSuffix x5 (ByteArray.mk #[49, 54])).bind fun x9 => (if x9 = true then some (2, x3.2, none) else ((g_strings_HasSuffix x5 (ByteArray.mk #[51, 50])).bind fun x11 => ((if x11 = true then some true else ((g_ops_own x1).bind fun x13 => some (x13 == (127 : Int))))).bind (fun j15 => (if j15 = true then some (4, x3.2, none) else some (8, x3.2, none))))))))))))

theorem c_ops_Bytes (p0 : Int) (r : Int × Bool × Option Int) (H : g_ops_Bytes p0 = some r) : CF E 86 [.int .u8 p0] (.tup [.int .i64 r.1, .bool r.2.1, .err 45 r.2.2]) := by
  refine cf_of (A := F_ops_Bytes) fn_ops_Bytes rfl fun fr => ?_
  unfold g_ops_Bytes at H
  refine AW2.seq ?_
  refine AW2.rg [] [0] [] [] ⟨[(0, .d (.int .u8 p0))], []⟩ (And.intro True.intro True.intro) (by kernel_rfl) ?_
  refine AW2.seq ?_
  obtain ⟨x1, hx2, H⟩ := bind_some H
  refine AW2.rg [.r (.str x1)] [0, 5] [] [] ⟨[(0, .d (.int .u8 p0)), (5, .d (.str x1))], []⟩ (And.intro (And.intro (c_ops_NameB p0 x1 hx2) True.intro) True.intro) (by kernel_rfl) ?_
  refine AW2.seq ?_
  refine AW2.seq ?_
  refine AW2.reg [] rfl (YW.to ⟨[(5, .d (.str x1)), (19, .d (.bool ((x1.toList == (ByteArray.mk #[]).toList) || ((decide (p0 < (40 : Int))) || (decide (p0 > (62 : Int)))))))], []⟩ ?qh19 ?h19)
  case h19 =>
    rcases bT (x1.toList == (ByteArray.mk #[]).toList) with hc1 | hc1
    · exact YW.fin [(12, true), (16, true)] [] [5, 19] [(19, .d (.bool ((x1.toList == (ByteArray.mk #[]).toList) || ((decide (p0 < (40 : Int))) || (decide (p0 > (62 : Int)))))))] [] _ (And.intro (And.intro hc1 (And.intro hc1 (And.intro hc1 (And.intro (Eq.refl true) (And.intro (Eq.refl true) (And.intro (Eq.refl true) True.intro)))))) (And.intro (ovB (orT (b := ((decide (p0 < (40 : Int))) || (decide (p0 > (62 : Int))))) hc1)) True.intro)) (by kernel_rfl) rfl
    · rcases bT (decide (p0 < (40 : Int))) with hc2 | hc2
      · exact YW.fin [(12, false), (16, true)] [] [5, 19] [(19, .d (.bool ((x1.toList == (ByteArray.mk #[]).toList) || ((decide (p0 < (40 : Int))) || (decide (p0 > (62 : Int)))))))] [] _ (And.intro (And.intro hc1 (And.intro hc1 (And.intro hc1 (And.intro hc2 (And.intro hc2 (And.intro hc2 True.intro)))))) (And.intro (ovB (Eq.trans (orF (b := ((decide (p0 < (40 : Int))) || (decide (p0 > (62 : Int))))) hc1) (orT (b := (decide (p0 > (62 : Int)))) hc2))) True.intro)) (by kernel_rfl) rfl
      · exact YW.fin [(12, false), (16, false)] [] [5, 19] [(19, .d (.bool ((x1.toList == (ByteArray.mk #[]).toList) || ((decide (p0 < (40 : Int))) || (decide (p0 > (62 : Int)))))))] [] _ (And.intro (And.intro hc1 (And.intro hc1 (And.intro hc1 (And.intro hc2 (And.intro hc2 (And.intro hc2 True.intro)))))) (And.intro (ovB (Eq.trans (orF (b := ((decide (p0 < (40 : Int))) || (decide (p0 > (62 : Int))))) hc1) (Eq.trans (orF (b := (decide (p0 > (62 : Int)))) hc2) (Eq.refl (decide (p0 > (62 : Int))))))) True.intro)) (by kernel_rfl) rfl
  refine AW2.cond (b := ((x1.toList == (ByteArray.mk #[]).toList) || ((decide (p0 < (40 : Int))) || (decide (p0 > (62 : Int)))))) rfl (fun hc => ?_) (fun hc => ?_)
  · replace H := ite_t H hc
    refine AW2.seq ?_
    refine AW2.rg [] [2, 3, 4] [] [] ⟨[(2, .d (.int .i64 0)), (3, .d (.bool false)), (4, .d (.err 45 (some 1)))], []⟩ (And.intro True.intro True.intro) (by kernel_rfl) ?_
    refine AW2.ret ?_
    have H := Option.some.inj H
    subst H
    exact retP_mk2 True.intro (by kernel_rfl)
  · replace H := ite_f H hc
    refine AW2.skip ?_
    refine AW2.seq ?_
    obtain ⟨x3, hx4, H⟩ := bind_some H
    refine AW2.rg [.r (.tup [.str x3.1, .bool x3.2])] [5, 6, 7] [] [] ⟨[(5, .d (.str x1)), (6, .d (.str x3.1)), (7, .d (.bool x3.2))], []⟩ (And.intro (And.intro (c_strings_CutSuffix x1 (ByteArray.mk #[95, 115]) x3 hx4) True.intro) True.intro) (by kernel_rfl) ?_
    refine AW2.seq ?_
    obtain ⟨x5, hx6, H⟩ := bind_some H
    refine AW2.rg [.r (.str x5)] [5, 6, 7] [] [] ⟨[(5, .d (.str x1)), (6, .d (.str x5)), (7, .d (.bool x3.2))], []⟩ (And.intro (And.intro (c_strings_TrimSuffix x3.1 (ByteArray.mk #[95, 117]) x5 hx6) True.intro) True.intro) (by kernel_rfl) ?_
    refine AW2.seq ?_
    refine AW2.block ?_
    refine AW2.seq ?_
    obtain ⟨x7, hx8, H⟩ := bind_some H
    refine AW2.rg [.r (.bool x7)] [5, 6, 7, 28] [] [] ⟨[(5, .d (.str x1)), (6, .d (.str x5)), (7, .d (.bool x3.2)), (28, .d (.bool x7))], []⟩ (And.intro (And.intro (c_strings_HasSuffix x5 (ByteArray.mk #[56]) x7 hx8) True.intro) True.intro) (by kernel_rfl) ?_
    refine AW2.cond (b := x7) rfl (fun hc => ?_) (fun hc => ?_)
    · replace H := ite_t H hc
      refine AW2.seq ?_
      refine AW2.rg [] [2, 3, 4] [] [] ⟨[(2, .d (.int .i64 1)), (3, .d (.bool x3.2)), (4, .d .nili)], []⟩ (And.intro True.intro True.intro) (by kernel_rfl) ?_
      refine AW2.ret ?_
      have H := Option.some.inj H
      subst H
      exact retP_mk2 True.intro (by kernel_rfl)
    · replace H := ite_f H hc
      refine AW2.seq ?_
      obtain ⟨x9, hx10, H⟩ := bind_some H
      refine AW2.rg [.r (.bool x9)] [5, 6, 7, 32] [] [] ⟨[(5, .d (.str x1)), (6, .d (.str x5)), (7, .d (.bool x3.2)), (32, .d (.bool x9))], []⟩ (And.intro (And.intro (c_strings_HasSuffix x5 (ByteArray.mk #[49, 54]) x9 hx10) True.intro) True.intro) (by kernel_rfl) ?_
      refine AW2.cond (b := x9) rfl (fun hc => ?_) (fun hc => ?_)
      · replace H := ite_t H hc
        refine AW2.seq ?_
        refine AW2.rg [] [2, 3, 4] [] [] ⟨[(2, .d (.int .i64 2)), (3, .d (.bool x3.2)), (4, .d .nili)], []⟩ (And.intro True.intro True.intro) (by kernel_rfl) ?_
        refine AW2.ret ?_
        have H := Option.some.inj H
        subst H
        exact retP_mk2 True.intro (by kernel_rfl)
      · replace H := ite_f H hc
        refine AW2.seq ?_
        obtain ⟨x11, hx12, H⟩ := bind_some H
        obtain ⟨j15, H17, H⟩ := bind_some H
        refine AW2.reg [] rfl (YW.to ⟨[(7, .d (.bool x3.2)), (36, .d (.bool j15))], []⟩ ?qh18 ?h18)
        case h18 =>
          have H := H17
          rcases bT x11 with hc1 | hc1
          · replace H := ite_t H hc1
            have H := Option.some.inj H
            subst H
            exact YW.fin [(39, true)] [.r (.bool x11)] [7, 36] [] [] _ (And.intro (And.intro (c_strings_HasSuffix x5 (ByteArray.mk #[51, 50]) x11 hx12) (And.intro hc1 (And.intro hc1 (And.intro hc1 (And.intro hc1 True.intro))))) True.intro) (by kernel_rfl) rfl
          · replace H := ite_f H hc1
            obtain ⟨x13, hx14, H⟩ := bind_some H
            have H := Option.some.inj H
            subst H
            exact YW.fin [(39, false)] [.r (.bool x11), .r (.int .u8 x13)] [7, 36] [] [] _ (And.intro (And.intro (c_strings_HasSuffix x5 (ByteArray.mk #[51, 50]) x11 hx12) (And.intro hc1 (And.intro hc1 (And.intro (c_ops_own x1 x13 hx14) (And.intro hc1 (And.intro hc1 True.intro)))))) True.intro) (by kernel_rfl) rfl
        refine AW2.cond (b := j15) rfl (fun hc => ?_) (fun hc => ?_)
        · replace H := ite_t H hc
          refine AW2.seq ?_
          refine AW2.rg [] [2, 3, 4] [] [] ⟨[(2, .d (.int .i64 4)), (3, .d (.bool x3.2)), (4, .d .nili)], []⟩ (And.intro True.intro True.intro) (by kernel_rfl) ?_
          refine AW2.ret ?_
          have H := Option.some.inj H
          subst H
          exact retP_mk2 True.intro (by kernel_rfl)
        · replace H := ite_f H hc
          refine AW2.skip ?_
          refine AW2.seq ?_
          refine AW2.rg [] [2, 3, 4] [] [] ⟨[(2, .d (.int .i64 8)), (3, .d (.bool x3.2)), (4, .d .nili)], []⟩ (And.intro True.intro True.intro) (by kernel_rfl) ?_
          refine AW2.ret ?_
          have H := Option.some.inj H
          subst H
          exact retP_mk2 True.intro (by kernel_rfl)

/- mandrel/ops.Form -/
def g_ops_Form (p0 : Int) : Option (Int × Option Int) := ((g_ops_NameB p0).bind fun x1 => (if (x1.toList == (ByteArray.mk #[]).toList) = true then some (0, (some 1)) else (if ((p0 == (2 : Int)) || (p0 == (3 : Int))) = true then some (6, none) else (if (p0 == (4 : Int)) = true then some (7, none) else (if (p0 == (14 : Int)) = true then some (8, none) else (if (p0 == (17 : Int)) = true then some (9, none) else (if ((p0 == (12 : Int)) || ((p0 == (13 : Int)) || ((p0 == (16 : Int)) || ((decide (p0 ≥ (32 : Int))) && (decide (p0 ≤ (36 : Int))))))) = true then some (3, none) else (if ((decide (p0 ≥ (40 : Int))) && (decide (p0 ≤ (62 : Int)))) = true then some (4, none) else (if ((p0 == (63 : Int)) || (p0 == (64 : Int))) = true then some (5, none) else (if (p0 == (65 : Int)) = true then some (1, none) else (if (p0 == (66 : Int)) = true then some (2, none) else some (0, none))))))))))))

theorem c_ops_Form (p0 : Int) (r : Int × Option Int) (H : g_ops_Form p0 = some r) : CF E 87 [.int .u8 p0] (.tup [.int .i64 r.1, .err 45 r.2]) := by
  refine cf_of (A := F_ops_Form) fn_ops_Form rfl fun fr => ?_
  unfold g_ops_Form at H
  refine AW2.seq ?_
  refine AW2.rg [] [0] [] [] ⟨[(0, .d (.int .u8 p0))], []⟩ (And.intro True.intro True.intro) (by kernel_rfl) ?_
  refine AW2.seq ?_
  refine AW2.block ?_
  refine AW2.seq ?_
  obtain ⟨x1, hx2, H⟩ := bind_some H
  refine AW2.rg [.r (.str x1)] [0, 4] [] [] ⟨[(0, .d (.int .u8 p0)), (4, .d (.bool (x1.toList == (ByteArray.mk #[]).toList)))], []⟩ (And.intro (And.intro (c_ops_NameB p0 x1 hx2) True.intro) True.intro) (by kernel_rfl) ?_
  refine AW2.cond (b := (x1.toList == (ByteArray.mk #[]).toList)) rfl (fun hc => ?_) (fun hc => ?_)
  · replace H := ite_t H hc
    refine AW2.seq ?_
    refine AW2.rg [] [2, 3] [] [] ⟨[(2, .d (.int .i64 0)), (3, .d (.err 45 (some 1)))], []⟩ (And.intro True.intro True.intro) (by kernel_rfl) ?_
    refine AW2.ret ?_
    have H := Option.some.inj H
    subst H
    exact retP_mk2 True.intro (by kernel_rfl)
  · replace H := ite_f H hc
    refine AW2.seq ?_
    refine AW2.reg [] rfl (YW.to ⟨[(0, .d (.int .u8 p0)), (9, .d (.bool ((p0 == (2 : Int)) || (p0 == (3 : Int)))))], []⟩ ?qh6 ?h6)
    case h6 =>
      rcases bT (p0 == (2 : Int)) with hc1 | hc1
      · exact YW.fin [(12, true)] [] [0, 9] [(9, .d (.bool ((p0 == (2 : Int)) || (p0 == (3 : Int)))))] [] _ (And.intro (And.intro hc1 (And.intro hc1 (And.intro hc1 True.intro))) (And.intro (ovB (orT (b := (p0 == (3 : Int))) hc1)) True.intro)) (by kernel_rfl) rfl
      · exact YW.fin [(12, false)] [] [0, 9] [(9, .d (.bool ((p0 == (2 : Int)) || (p0 == (3 : Int)))))] [] _ (And.intro (And.intro hc1 (And.intro hc1 (And.intro hc1 True.intro))) (And.intro (ovB (Eq.trans (orF (b := (p0 == (3 : Int))) hc1) (Eq.refl (p0 == (3 : Int))))) True.intro)) (by kernel_rfl) rfl
    refine AW2.cond (b := ((p0 == (2 : Int)) || (p0 == (3 : Int)))) rfl (fun hc => ?_) (fun hc => ?_)
    · replace H := ite_t H hc
      refine AW2.seq ?_
      refine AW2.rg [] [2, 3] [] [] ⟨[(2, .d (.int .i64 6)), (3, .d .nili)], []⟩ (And.intro True.intro True.intro) (by kernel_rfl) ?_
      refine AW2.ret ?_
      have H := Option.some.inj H
      subst H
      exact retP_mk2 True.intro (by kernel_rfl)
    · replace H := ite_f H hc
      refine AW2.seq ?_
      refine AW2.rg [] [0, 16] [] [] ⟨[(0, .d (.int .u8 p0)), (16, .d (.bool (p0 == (4 : Int))))], []⟩ (And.intro True.intro True.intro) (by kernel_rfl) ?_
      refine AW2.cond (b := (p0 == (4 : Int))) rfl (fun hc => ?_) (fun hc => ?_)
      · replace H := ite_t H hc
        refine AW2.seq ?_
        refine AW2.rg [] [2, 3] [] [] ⟨[(2, .d (.int .i64 7)), (3, .d .nili)], []⟩ (And.intro True.intro True.intro) (by kernel_rfl) ?_
        refine AW2.ret ?_
        have H := Option.some.inj H
        subst H
        exact retP_mk2 True.intro (by kernel_rfl)
      · replace H := ite_f H hc
        refine AW2.seq ?_
        refine AW2.rg [] [0, 19] [] [] ⟨[(0, .d (.int .u8 p0)), (19, .d (.bool (p0 == (14 : Int))))], []⟩ (And.intro True.intro True.intro) (by kernel_rfl) ?_
        refine AW2.cond (b := (p0 == (14 : Int))) rfl (fun hc => ?_) (fun hc => ?_)
        · replace H := ite_t H hc
          refine AW2.seq ?_
          refine AW2.rg [] [2, 3] [] [] ⟨[(2, .d (.int .i64 8)), (3, .d .nili)], []⟩ (And.intro True.intro True.intro) (by kernel_rfl) ?_
          refine AW2.ret ?_
          have H := Option.some.inj H
          subst H
          exact retP_mk2 True.intro (by kernel_rfl)
        · replace H := ite_f H hc
          refine AW2.seq ?_
          refine AW2.rg [] [0, 22] [] [] ⟨[(0, .d (.int .u8 p0)), (22, .d (.bool (p0 == (17 : Int))))], []⟩ (And.intro True.intro True.intro) (by kernel_rfl) ?_
          refine AW2.cond (b := (p0 == (17 : Int))) rfl (fun hc => ?_) (fun hc => ?_)
          · replace H := ite_t H hc
            refine AW2.seq ?_
            refine AW2.rg [] [2, 3] [] [] ⟨[(2, .d (.int .i64 9)), (3, .d .nili)], []⟩ (And.intro True.intro True.intro) (by kernel_rfl) ?_
            refine AW2.ret ?_
            have H := Option.some.inj H
            subst H
            exact retP_mk2 True.intro (by kernel_rfl)
          · replace H := ite_f H hc
            refine AW2.seq ?_
            refine AW2.reg [] rfl (YW.to ⟨[(0, .d (.int .u8 p0)), (25, .d (.bool ((p0 == (12 : Int)) || ((p0 == (13 : Int)) || ((p0 == (16 : Int)) || ((decide (p0 ≥ (32 : Int))) && (decide (p0 ≤ (36 : Int)))))))))], []⟩ ?qh5 ?h5)
            case h5 =>
              rcases bT (p0 == (12 : Int)) with hc1 | hc1
              · exact YW.fin [(28, true), (32, true), (36, true)] [] [0, 25] [(25, .d (.bool ((p0 == (12 : Int)) || ((p0 == (13 : Int)) || ((p0 == (16 : Int)) || ((decide (p0 ≥ (32 : Int))) && (decide (p0 ≤ (36 : Int)))))))))] [] _ (And.intro (And.intro hc1 (And.intro hc1 (And.intro hc1 (And.intro (Eq.refl true) (And.intro (Eq.refl true) (And.intro (Eq.refl true) (And.intro (Eq.refl true) (And.intro (Eq.refl true) (And.intro (Eq.refl true) (And.intro (Eq.refl true) (And.intro (Eq.refl true) True.intro))))))))))) (And.intro (ovB (orT (b := ((p0 == (13 : Int)) || ((p0 == (16 : Int)) || ((decide (p0 ≥ (32 : Int))) && (decide (p0 ≤ (36 : Int))))))) hc1)) True.intro)) (by kernel_rfl) rfl
              · rcases bT (p0 == (13 : Int)) with hc2 | hc2
                · exact YW.fin [(28, false), (32, true), (36, true)] [] [0, 25] [(25, .d (.bool ((p0 == (12 : Int)) || ((p0 == (13 : Int)) || ((p0 == (16 : Int)) || ((decide (p0 ≥ (32 : Int))) && (decide (p0 ≤ (36 : Int)))))))))] [] _ (And.intro (And.intro hc1 (And.intro hc1 (And.intro hc1 (And.intro hc2 (And.intro hc2 (And.intro hc2 (And.intro (Eq.refl true) (And.intro (Eq.refl true) (And.intro (Eq.refl true) (And.intro (Eq.refl true) (And.intro (Eq.refl true) True.intro))))))))))) (And.intro (ovB (Eq.trans (orF (b := ((p0 == (13 : Int)) || ((p0 == (16 : Int)) || ((decide (p0 ≥ (32 : Int))) && (decide (p0 ≤ (36 : Int))))))) hc1) (orT (b := ((p0 == (16 : Int)) || ((decide (p0 ≥ (32 : Int))) && (decide (p0 ≤ (36 : Int)))))) hc2))) True.intro)) (by kernel_rfl) rfl
                · rcases bT (p0 == (16 : Int)) with hc3 | hc3
                  · exact YW.fin [(28, false), (32, false), (36, true)] [] [0, 25] [(25, .d (.bool ((p0 == (12 : Int)) || ((p0 == (13 : Int)) || ((p0 == (16 : Int)) || ((decide (p0 ≥ (32 : Int))) && (decide (p0 ≤ (36 : Int)))))))))] [] _ (And.intro (And.intro hc1 (And.intro hc1 (And.intro hc1 (And.intro hc2 (And.intro hc2 (And.intro hc2 (And.intro hc3 (And.intro hc3 (And.intro hc3 (And.intro hc3 (And.intro hc3 True.intro))))))))))) (And.intro (ovB (Eq.trans (orF (b := ((p0 == (13 : Int)) || ((p0 == (16 : Int)) || ((decide (p0 ≥ (32 : Int))) && (decide (p0 ≤ (36 : Int))))))) hc1) (Eq.trans (orF (b := ((p0 == (16 : Int)) || ((decide (p0 ≥ (32 : Int))) && (decide (p0 ≤ (36 : Int)))))) hc2) (orT (b := ((decide (p0 ≥ (32 : Int))) && (decide (p0 ≤ (36 : Int))))) hc3)))) True.intro)) (by kernel_rfl) rfl
                  · rcases bT (decide (p0 ≥ (32 : Int))) with hc4 | hc4
                    · exact YW.fin [(28, false), (32, false), (36, false), (39, true)] [] [0, 25] [(25, .d (.bool ((p0 == (12 : Int)) || ((p0 == (13 : Int)) || ((p0 == (16 : Int)) || ((decide (p0 ≥ (32 : Int))) && (decide (p0 ≤ (36 : Int)))))))))] [] _ (And.intro (And.intro hc1 (And.intro hc1 (And.intro hc1 (And.intro hc2 (And.intro hc2 (And.intro hc2 (And.intro hc3 (And.intro hc3 (And.intro hc3 (And.intro hc4 (And.intro hc4 (And.intro hc3 (And.intro hc4 (And.intro hc3 True.intro)))))))))))))) (And.intro (ovB (Eq.trans (orF (b := ((p0 == (13 : Int)) || ((p0 == (16 : Int)) || ((decide (p0 ≥ (32 : Int))) && (decide (p0 ≤ (36 : Int))))))) hc1) (Eq.trans (orF (b := ((p0 == (16 : Int)) || ((decide (p0 ≥ (32 : Int))) && (decide (p0 ≤ (36 : Int)))))) hc2) (Eq.trans (orF (b := ((decide (p0 ≥ (32 : Int))) && (decide (p0 ≤ (36 : Int))))) hc3) (Eq.trans (andT (b := (decide (p0 ≤ (36 : Int)))) hc4) (Eq.refl (decide (p0 ≤ (36 : Int))))))))) True.intro)) (by kernel_rfl) rfl
                    · exact YW.fin [(28, false), (32, false), (36, false), (39, false)] [] [0, 25] [(25, .d (.bool ((p0 == (12 : Int)) || ((p0 == (13 : Int)) || ((p0 == (16 : Int)) || ((decide (p0 ≥ (32 : Int))) && (decide (p0 ≤ (36 : Int)))))))))] [] _ (And.intro (And.intro hc1 (And.intro hc1 (And.intro hc1 (And.intro hc2 (And.intro hc2 (And.intro hc2 (And.intro hc3 (And.intro hc3 (And.intro hc3 (And.intro hc4 (And.intro hc4 (And.intro hc3 (And.intro hc4 (And.intro hc3 True.intro)))))))))))))) (And.intro (ovB (Eq.trans (orF (b := ((p0 == (13 : Int)) || ((p0 == (16 : Int)) || ((decide (p0 ≥ (32 : Int))) && (decide (p0 ≤ (36 : Int))))))) hc1) (Eq.trans (orF (b := ((p0 == (16 : Int)) || ((decide (p0 ≥ (32 : Int))) && (decide (p0 ≤ (36 : Int)))))) hc2) (Eq.trans (orF (b := ((decide (p0 ≥ (32 : Int))) && (decide (p0 ≤ (36 : Int))))) hc3) (andF (b := (decide (p0 ≤ (36 : Int)))) hc4))))) True.intro)) (by kernel_rfl) rfl
            refine AW2.cond (b := ((p0 == (12 : Int)) || ((p0 == (13 : Int)) || ((p0 == (16 : Int)) || ((decide (p0 ≥ (32 : Int))) && (decide (p0 ≤ (36 : Int)))))))) rfl (fun hc => ?_) (fun hc => ?_)
            · replace H := ite_t H hc
              refine AW2.seq ?_
              refine AW2.rg [] [2, 3] [] [] ⟨[(2, .d (.int .i64 3)), (3, .d .nili)], []⟩ (And.intro True.intro True.intro) (by kernel_rfl) ?_
              refine AW2.ret ?_
              have H := Option.some.inj H
              subst H
              exact retP_mk2 True.intro (by kernel_rfl)
            · replace H := ite_f H hc
              refine AW2.seq ?_
              refine AW2.reg [] rfl (YW.to ⟨[(0, .d (.int .u8 p0)), (44, .d (.bool ((decide (p0 ≥ (40 : Int))) && (decide (p0 ≤ (62 : Int))))))], []⟩ ?qh4 ?h4)
              case h4 =>
                rcases bT (decide (p0 ≥ (40 : Int))) with hc1 | hc1
                · exact YW.fin [(47, true)] [] [0, 44] [(44, .d (.bool ((decide (p0 ≥ (40 : Int))) && (decide (p0 ≤ (62 : Int))))))] [] _ (And.intro (And.intro hc1 (And.intro hc1 (And.intro hc1 True.intro))) (And.intro (ovB (Eq.trans (andT (b := (decide (p0 ≤ (62 : Int)))) hc1) (Eq.refl (decide (p0 ≤ (62 : Int)))))) True.intro)) (by kernel_rfl) rfl
                · exact YW.fin [(47, false)] [] [0, 44] [(44, .d (.bool ((decide (p0 ≥ (40 : Int))) && (decide (p0 ≤ (62 : Int))))))] [] _ (And.intro (And.intro hc1 (And.intro hc1 (And.intro hc1 True.intro))) (And.intro (ovB (andF (b := (decide (p0 ≤ (62 : Int)))) hc1)) True.intro)) (by kernel_rfl) rfl
              refine AW2.cond (b := ((decide (p0 ≥ (40 : Int))) && (decide (p0 ≤ (62 : Int))))) rfl (fun hc => ?_) (fun hc => ?_)
              · replace H := ite_t H hc
                refine AW2.seq ?_
                refine AW2.rg [] [2, 3] [] [] ⟨[(2, .d (.int .i64 4)), (3, .d .nili)], []⟩ (And.intro True.intro True.intro) (by kernel_rfl) ?_
                refine AW2.ret ?_
                have H := Option.some.inj H
                subst H
                exact retP_mk2 True.intro (by kernel_rfl)
              · replace H := ite_f H hc
                refine AW2.seq ?_
                refine AW2.reg [] rfl (YW.to ⟨[(0, .d (.int .u8 p0)), (51, .d (.bool ((p0 == (63 : Int)) || (p0 == (64 : Int)))))], []⟩ ?qh3 ?h3)
                case h3 =>
                  rcases bT (p0 == (63 : Int)) with hc1 | hc1
                  · exact YW.fin [(54, true)] [] [0, 51] [(51, .d (.bool ((p0 == (63 : Int)) || (p0 == (64 : Int)))))] [] _ (And.intro (And.intro hc1 (And.intro hc1 (And.intro hc1 True.intro))) (And.intro (ovB (orT (b := (p0 == (64 : Int))) hc1)) True.intro)) (by kernel_rfl) rfl
                  · exact YW.fin [(54, false)] [] [0, 51] [(51, .d (.bool ((p0 == (63 : Int)) || (p0 == (64 : Int)))))] [] _ (And.intro (And.intro hc1 (And.intro hc1 (And.intro hc1 True.intro))) (And.intro (ovB (Eq.trans (orF (b := (p0 == (64 : Int))) hc1) (Eq.refl (p0 == (64 : Int))))) True.intro)) (by kernel_rfl) rfl
                refine AW2.cond (b := ((p0 == (63 : Int)) || (p0 == (64 : Int)))) rfl (fun hc => ?_) (fun hc => ?_)
                · replace H := ite_t H hc
                  refine AW2.seq ?_
                  refine AW2.rg [] [2, 3] [] [] ⟨[(2, .d (.int .i64 5)), (3, .d .nili)], []⟩ (And.intro True.intro True.intro) (by kernel_rfl) ?_
                  refine AW2.ret ?_
                  have H := Option.some.inj H
                  subst H
                  exact retP_mk2 True.intro (by kernel_rfl)
                · replace H := ite_f H hc
                  refine AW2.seq ?_
                  refine AW2.rg [] [0, 58] [] [] ⟨[(0, .d (.int .u8 p0)), (58, .d (.bool (p0 == (65 : Int))))], []⟩ (And.intro True.intro True.intro) (by kernel_rfl) ?_
                  refine AW2.cond (b := (p0 == (65 : Int))) rfl (fun hc => ?_) (fun hc => ?_)
                  · replace H := ite_t H hc
                    refine AW2.seq ?_
                    refine AW2.rg [] [2, 3] [] [] ⟨[(2, .d (.int .i64 1)), (3, .d .nili)], []⟩ (And.intro True.intro True.intro) (by kernel_rfl) ?_
                    refine AW2.ret ?_
                    have H := Option.some.inj H
                    subst H
                    exact retP_mk2 True.intro (by kernel_rfl)
                  · replace H := ite_f H hc
                    refine AW2.seq ?_
                    refine AW2.rg [] [61] [] [] ⟨[(61, .d (.bool (p0 == (66 : Int))))], []⟩ (And.intro True.intro True.intro) (by kernel_rfl) ?_
                    refine AW2.cond (b := (p0 == (66 : Int))) rfl (fun hc => ?_) (fun hc => ?_)
                    · replace H := ite_t H hc
                      refine AW2.seq ?_
                      refine AW2.rg [] [2, 3] [] [] ⟨[(2, .d (.int .i64 2)), (3, .d .nili)], []⟩ (And.intro True.intro True.intro) (by kernel_rfl) ?_
                      refine AW2.ret ?_
                      have H := Option.some.inj H
                      subst H
                      exact retP_mk2 True.intro (by kernel_rfl)
                    · replace H := ite_f H hc
                      refine AW2.skip ?_
                      refine AW2.seq ?_
                      refine AW2.rg [] [2, 3] [] [] ⟨[(2, .d (.int .i64 0)), (3, .d .nili)], []⟩ (And.intro True.intro True.intro) (by kernel_rfl) ?_
                      refine AW2.ret ?_
                      have H := Option.some.inj H
                      subst H
                      exact retP_mk2 True.intro (by kernel_rfl)

end Go.Proofs.YtablleokoifolaaGreatDoor

/- Plain functions and their contracts. Written by a program of this claim set (g2.py). -/
set_option linter.unusedVariables false
set_option maxRecDepth 100000
set_option maxHeartbeats 4000000
namespace Go.Proofs.YtablleokoifolaaGreatDoor
open Go

/- (*mandrel/valid.checker).plain -/
def g_valid_checker_plain (p0 : Checker) (p1 : Instr) : Option (Checker) := ((g_ops_Sign p1.op).bind fun x1 => (if (!x1.2.isNone) = true then some (Checker.mk p0.m p0.t p0.locals p0.stack p0.frames p0.labels p0.most true) else (((g_ops_Bytes p1.op).bind fun x13 => (if x13.2.2.isNone = true then ((if p0.bad = true then some (Checker.mk p0.m p0.t p0.locals p0.stack p0.frames p0.labels p0.most true) else (if (decide (p1.align > (3 : Int))) = true then some (Checker.mk p0.m p0.t p0.locals p0.stack p0.frames p0.labels p0.most true) else gd (¬ p1.align < 0) (some (Checker.mk p0.m p0.t p0.locals p0.stack p0.frames p0.labels p0.most (decide ((wI (1 * 2 ^ (min p1.align.toNat (IntKind.bits .i64)))) > x13.1))))))).bind (fun j16 => some j16) else some p0))).bind (fun j3 => ((g_ops_Form p1.op).bind fun x4 => ((if ((!x4.2.isNone) || (bif ((x4.1 == (4 : Int)) || (x4.1 == (5 : Int))) then (((j3.m.memories.length : Int) == (0 : Int)) || ((x4.1 == (1 : Int)) && (p1.n != (wI (IntKind.wrap .i32 p1.n))))) else ((x4.1 == (1 : Int)) && (p1.n != (wI (IntKind.wrap .i32 p1.n)))))) = true then some (Checker.mk j3.m j3.t j3.locals j3.stack j3.frames j3.labels j3.most true) else some j3)).bind (fun j6 => ((g_valid_checker_call j6 x1.1).bind fun x7 => some x7))))))

theorem c_valid_checker_plain (p0 : Checker) (p1 : Instr) (r : Checker) (H : g_valid_checker_plain p0 p1 = some r) : CM E 79 [.p 1000 0, .agg (eD (eInstr p1))] (H_Checker p0) [] [1000] (fun a b => a = (.tup [] : LV) ∧ b = H_Checker r) := by
  refine cs_of (A := F_valid_checker_plain) fn_valid_checker_plain fun fr => ?_
  unfold g_valid_checker_plain at H
  refine AW2.seq ?_
  refine AW2.rg [.k 3] [0, 3] [] [.k 3, .k 1000, .k 1001, .k 1002, .k 1003] ⟨[(0, .p 1000 0), (3, .p 3 0)], [(3, .st false (eD (eInstr p1)))] ++ H_Checker p0⟩ (And.intro True.intro True.intro) (by kernel_rfl) ?_
  refine AW2.seq ?_
  obtain ⟨x1, hx2, H⟩ := bind_some H
  refine AW2.rg [.r (.tup [.agg (eTyp x1.1), .err 45 x1.2]), .k 4] [0, 3, 4, 5] [] [.k 3, .k 4, .k 1000, .k 1001, .k 1002, .k 1003] ⟨[(0, .p 1000 0), (3, .p 3 0), (4, .p 4 0), (5, .d (.err 45 x1.2))], [(3, .st false (eD (eInstr p1))), (4, .st false (eD (eTyp x1.1)))] ++ H_Checker p0⟩ (And.intro (And.intro (c_ops_Sign p1.op x1 hx2) True.intro) True.intro) (by kernel_rfl) ?_
  refine AW2.seq ?_
  refine AW2.seq ?_
  refine AW2.rg [] [0, 3, 4, 18] [] [.k 3, .k 4, .k 1000, .k 1001, .k 1002, .k 1003] ⟨[(0, .p 1000 0), (3, .p 3 0), (4, .p 4 0), (18, .d (.bool (!x1.2.isNone)))], [(3, .st false (eD (eInstr p1))), (4, .st false (eD (eTyp x1.1)))] ++ H_Checker p0⟩ (And.intro True.intro True.intro) (by kernel_rfl) ?_
  refine AW2.cond (b := (!x1.2.isNone)) rfl (fun hc => ?_) (fun hc => ?_)
  · replace H := ite_t H hc
    refine AW2.seq ?_
    refine AW2.rg [] [] [] [.k 1000, .k 1001, .k 1002, .k 1003] ⟨[], H_Checker (Checker.mk p0.m p0.t p0.locals p0.stack p0.frames p0.labels p0.most true)⟩ (And.intro True.intro True.intro) (by kernel_rfl) ?_
    refine AW2.ret ?_
    have H := Option.some.inj H
    subst H
    exact retS_mk3 [] [.k 1000, .k 1001, .k 1002, .k 1003] True.intro (by kernel_rfl) (by kernel_rfl)
  · replace H := ite_f H hc
    refine AW2.skip ?_
    obtain ⟨j3, H21, H⟩ := bind_some H
    refine AW2.mid ⟨[(0, .p 1000 0), (3, .p 3 0), (4, .p 4 0)], [(3, .st false (eD (eInstr p1))), (4, .st false (eD (eTyp x1.1)))] ++ H_Checker j3⟩ ?_ ?_
    · refine AW2.seq ?_
      obtain ⟨x4, hx5, H⟩ := bind_some H
      refine AW2.rg [.r (.tup [.int .i64 x4.1, .err 45 x4.2])] [0, 3, 4, 5, 9] [] [.k 3, .k 4, .k 1000, .k 1001, .k 1002, .k 1003] ⟨[(0, .p 1000 0), (3, .p 3 0), (4, .p 4 0), (5, .d (.err 45 x4.2)), (9, .d (.int .i64 x4.1))], [(3, .st false (eD (eInstr p1))), (4, .st false (eD (eTyp x1.1)))] ++ H_Checker j3⟩ (And.intro (And.intro (c_ops_Form p1.op x4 hx5) True.intro) True.intro) (by kernel_rfl) ?_
      refine AW2.seq ?_
      refine AW2.reg [] rfl (YW.to ⟨[(0, .p 1000 0), (3, .p 3 0), (4, .p 4 0), (5, .d (.err 45 x4.2)), (9, .d (.int .i64 x4.1)), (10, .d (.bool ((x4.1 == (4 : Int)) || (x4.1 == (5 : Int)))))], [(3, .st false (eD (eInstr p1))), (4, .st false (eD (eTyp x1.1)))] ++ H_Checker j3⟩ ?qh12 ?h12)
      case h12 =>
        rcases bT (x4.1 == (4 : Int)) with hc1 | hc1
        · exact YW.fin [(58, true)] [] [0, 3, 4, 5, 9, 10] [(10, .d (.bool ((x4.1 == (4 : Int)) || (x4.1 == (5 : Int)))))] [.k 3, .k 4, .k 1000, .k 1001, .k 1002, .k 1003] _ (And.intro (And.intro hc1 (And.intro hc1 (And.intro hc1 True.intro))) (And.intro (ovB (orT (b := (x4.1 == (5 : Int))) hc1)) True.intro)) (by kernel_rfl) rfl
        · exact YW.fin [(58, false)] [] [0, 3, 4, 5, 9, 10] [(10, .d (.bool ((x4.1 == (4 : Int)) || (x4.1 == (5 : Int)))))] [.k 3, .k 4, .k 1000, .k 1001, .k 1002, .k 1003] _ (And.intro (And.intro hc1 (And.intro hc1 (And.intro hc1 True.intro))) (And.intro (ovB (Eq.trans (orF (b := (x4.1 == (5 : Int))) hc1) (Eq.refl (x4.1 == (5 : Int))))) True.intro)) (by kernel_rfl) rfl
      obtain ⟨j6, H11, H⟩ := bind_some H
      refine AW2.mid ⟨[(0, .p 1000 0), (4, .p 4 0)], [(4, .st false (eD (eTyp x1.1)))] ++ H_Checker j6⟩ ?_ ?_
      · obtain ⟨x7, hx8, H⟩ := bind_some H
        refine AW2.rg [.c [1000, 1001, 1002, 1003] [] [1000] (.tup []) (H_Checker x7)] [] [] [.k 1000, .k 1001, .k 1002, .k 1003] ⟨[], H_Checker x7⟩ (And.intro (And.intro (c_valid_checker_call j6 x1.1 x7 hx8) True.intro) True.intro) (by kernel_rfl) ?_
        have H := Option.some.inj H
        subst H
        exact retS_mkn3 [] [.k 1000, .k 1001, .k 1002, .k 1003] True.intro (by kernel_rfl) (by kernel_rfl)
      · have H := H11
        refine AW2.seq ?_
        refine AW2.reg [] rfl (YW.to ⟨[(0, .p 1000 0), (4, .p 4 0), (88, .d (.bool ((!x4.2.isNone) || (bif ((x4.1 == (4 : Int)) || (x4.1 == (5 : Int))) then (((j3.m.memories.length : Int) == (0 : Int)) || ((x4.1 == (1 : Int)) && (p1.n != (wI (IntKind.wrap .i32 p1.n))))) else ((x4.1 == (1 : Int)) && (p1.n != (wI (IntKind.wrap .i32 p1.n))))))))], [(4, .st false (eD (eTyp x1.1)))] ++ H_Checker j3⟩ ?qh9 ?h9)
        case h9 =>
          rcases bT (!x4.2.isNone) with hc1 | hc1
          · exact YW.fin [(64, true), (76, true)] [] [0, 4, 88] [(88, .d (.bool ((!x4.2.isNone) || (bif ((x4.1 == (4 : Int)) || (x4.1 == (5 : Int))) then (((j3.m.memories.length : Int) == (0 : Int)) || ((x4.1 == (1 : Int)) && (p1.n != (wI (IntKind.wrap .i32 p1.n))))) else ((x4.1 == (1 : Int)) && (p1.n != (wI (IntKind.wrap .i32 p1.n))))))))] [.k 4, .k 1000, .k 1001, .k 1002, .k 1003] _ (And.intro (And.intro hc1 (And.intro hc1 (And.intro hc1 (And.intro hc1 (And.intro (Eq.refl true) (And.intro (Eq.refl true) (And.intro (Eq.refl true) (And.intro (Eq.refl true) (And.intro (Eq.refl true) True.intro))))))))) (And.intro (ovB (orT (b := (bif ((x4.1 == (4 : Int)) || (x4.1 == (5 : Int))) then (((j3.m.memories.length : Int) == (0 : Int)) || ((x4.1 == (1 : Int)) && (p1.n != (wI (IntKind.wrap .i32 p1.n))))) else ((x4.1 == (1 : Int)) && (p1.n != (wI (IntKind.wrap .i32 p1.n)))))) hc1)) True.intro)) (by kernel_rfl) rfl
          · rcases bT ((x4.1 == (4 : Int)) || (x4.1 == (5 : Int))) with hc2 | hc2
            · rcases bT ((j3.m.memories.length : Int) == (0 : Int)) with hc3 | hc3
              · exact YW.fin [(64, false), (66, true), (76, true)] [] [0, 4, 88] [(88, .d (.bool ((!x4.2.isNone) || (bif ((x4.1 == (4 : Int)) || (x4.1 == (5 : Int))) then (((j3.m.memories.length : Int) == (0 : Int)) || ((x4.1 == (1 : Int)) && (p1.n != (wI (IntKind.wrap .i32 p1.n))))) else ((x4.1 == (1 : Int)) && (p1.n != (wI (IntKind.wrap .i32 p1.n))))))))] [.k 4, .k 1000, .k 1001, .k 1002, .k 1003] _ (And.intro (And.intro hc1 (And.intro hc1 (And.intro hc2 (And.intro hc2 (And.intro hc2 (And.intro hc2 (And.intro hc2 (And.intro hc2 (And.intro hc2 (And.intro hc1 (And.intro hc2 (And.intro hc1 (And.intro hc3 (And.intro hc3 (And.intro hc3 (And.intro hc3 (And.intro hc3 True.intro))))))))))))))))) (And.intro (ovB (Eq.trans (orF (b := (bif ((x4.1 == (4 : Int)) || (x4.1 == (5 : Int))) then (((j3.m.memories.length : Int) == (0 : Int)) || ((x4.1 == (1 : Int)) && (p1.n != (wI (IntKind.wrap .i32 p1.n))))) else ((x4.1 == (1 : Int)) && (p1.n != (wI (IntKind.wrap .i32 p1.n)))))) hc1) (Eq.trans (bifT (a := (((j3.m.memories.length : Int) == (0 : Int)) || ((x4.1 == (1 : Int)) && (p1.n != (wI (IntKind.wrap .i32 p1.n)))))) (b := ((x4.1 == (1 : Int)) && (p1.n != (wI (IntKind.wrap .i32 p1.n))))) hc2) (orT (b := ((x4.1 == (1 : Int)) && (p1.n != (wI (IntKind.wrap .i32 p1.n))))) hc3)))) True.intro)) (by kernel_rfl) rfl
              · rcases bT (x4.1 == (1 : Int)) with hc4 | hc4
                · exact YW.fin [(64, false), (66, true), (76, false), (79, true)] [] [0, 4, 88] [(88, .d (.bool ((!x4.2.isNone) || (bif ((x4.1 == (4 : Int)) || (x4.1 == (5 : Int))) then (((j3.m.memories.length : Int) == (0 : Int)) || ((x4.1 == (1 : Int)) && (p1.n != (wI (IntKind.wrap .i32 p1.n))))) else ((x4.1 == (1 : Int)) && (p1.n != (wI (IntKind.wrap .i32 p1.n))))))))] [.k 4, .k 1000, .k 1001, .k 1002, .k 1003] _ (And.intro (And.intro hc1 (And.intro hc1 (And.intro hc2 (And.intro hc2 (And.intro hc2 (And.intro hc2 (And.intro hc2 (And.intro hc2 (And.intro hc2 (And.intro hc1 (And.intro hc2 (And.intro hc1 (And.intro hc3 (And.intro hc3 (And.intro hc3 (And.intro hc4 (And.intro hc4 (And.intro hc4 (And.intro hc4 (And.intro hc4 (And.intro hc4 (And.intro hc4 (And.intro hc3 (And.intro hc4 (And.intro hc3 True.intro))))))))))))))))))))))))) (And.intro (ovB (Eq.trans (orF (b := (bif ((x4.1 == (4 : Int)) || (x4.1 == (5 : Int))) then (((j3.m.memories.length : Int) == (0 : Int)) || ((x4.1 == (1 : Int)) && (p1.n != (wI (IntKind.wrap .i32 p1.n))))) else ((x4.1 == (1 : Int)) && (p1.n != (wI (IntKind.wrap .i32 p1.n)))))) hc1) (Eq.trans (bifT (a := (((j3.m.memories.length : Int) == (0 : Int)) || ((x4.1 == (1 : Int)) && (p1.n != (wI (IntKind.wrap .i32 p1.n)))))) (b := ((x4.1 == (1 : Int)) && (p1.n != (wI (IntKind.wrap .i32 p1.n))))) hc2) (Eq.trans (orF (b := ((x4.1 == (1 : Int)) && (p1.n != (wI (IntKind.wrap .i32 p1.n))))) hc3) (Eq.trans (andT (b := (p1.n != (wI (IntKind.wrap .i32 p1.n)))) hc4) (Eq.refl (p1.n != (wI (IntKind.wrap .i32 p1.n))))))))) True.intro)) (by kernel_rfl) rfl
                · exact YW.fin [(64, false), (66, true), (76, false), (79, false)] [] [0, 4, 88] [(88, .d (.bool ((!x4.2.isNone) || (bif ((x4.1 == (4 : Int)) || (x4.1 == (5 : Int))) then (((j3.m.memories.length : Int) == (0 : Int)) || ((x4.1 == (1 : Int)) && (p1.n != (wI (IntKind.wrap .i32 p1.n))))) else ((x4.1 == (1 : Int)) && (p1.n != (wI (IntKind.wrap .i32 p1.n))))))))] [.k 4, .k 1000, .k 1001, .k 1002, .k 1003] _ (And.intro (And.intro hc1 (And.intro hc1 (And.intro hc2 (And.intro hc2 (And.intro hc2 (And.intro hc2 (And.intro hc2 (And.intro hc2 (And.intro hc2 (And.intro hc1 (And.intro hc2 (And.intro hc1 (And.intro hc3 (And.intro hc3 (And.intro hc3 (And.intro hc4 (And.intro hc4 (And.intro hc4 (And.intro hc4 (And.intro hc4 (And.intro hc4 (And.intro hc4 (And.intro hc3 (And.intro hc4 (And.intro hc3 True.intro))))))))))))))))))))))))) (And.intro (ovB (Eq.trans (orF (b := (bif ((x4.1 == (4 : Int)) || (x4.1 == (5 : Int))) then (((j3.m.memories.length : Int) == (0 : Int)) || ((x4.1 == (1 : Int)) && (p1.n != (wI (IntKind.wrap .i32 p1.n))))) else ((x4.1 == (1 : Int)) && (p1.n != (wI (IntKind.wrap .i32 p1.n)))))) hc1) (Eq.trans (bifT (a := (((j3.m.memories.length : Int) == (0 : Int)) || ((x4.1 == (1 : Int)) && (p1.n != (wI (IntKind.wrap .i32 p1.n)))))) (b := ((x4.1 == (1 : Int)) && (p1.n != (wI (IntKind.wrap .i32 p1.n))))) hc2) (Eq.trans (orF (b := ((x4.1 == (1 : Int)) && (p1.n != (wI (IntKind.wrap .i32 p1.n))))) hc3) (andF (b := (p1.n != (wI (IntKind.wrap .i32 p1.n)))) hc4))))) True.intro)) (by kernel_rfl) rfl
            · rcases bT (x4.1 == (1 : Int)) with hc3 | hc3
              · exact YW.fin [(64, false), (66, false), (79, true), (76, false)] [] [0, 4, 88] [(88, .d (.bool ((!x4.2.isNone) || (bif ((x4.1 == (4 : Int)) || (x4.1 == (5 : Int))) then (((j3.m.memories.length : Int) == (0 : Int)) || ((x4.1 == (1 : Int)) && (p1.n != (wI (IntKind.wrap .i32 p1.n))))) else ((x4.1 == (1 : Int)) && (p1.n != (wI (IntKind.wrap .i32 p1.n))))))))] [.k 4, .k 1000, .k 1001, .k 1002, .k 1003] _ (And.intro (And.intro hc1 (And.intro hc1 (And.intro hc2 (And.intro hc2 (And.intro hc2 (And.intro hc2 (And.intro hc2 (And.intro hc2 (And.intro hc2 (And.intro hc1 (And.intro hc2 (And.intro hc1 (And.intro (Eq.refl false) (And.intro (Eq.refl false) (And.intro (Eq.refl false) (And.intro hc3 (And.intro hc3 (And.intro hc3 (And.intro hc3 (And.intro hc3 (And.intro hc3 (And.intro hc3 (And.intro (Eq.refl false) (And.intro hc3 (And.intro (Eq.refl false) True.intro))))))))))))))))))))))))) (And.intro (ovB (Eq.trans (orF (b := (bif ((x4.1 == (4 : Int)) || (x4.1 == (5 : Int))) then (((j3.m.memories.length : Int) == (0 : Int)) || ((x4.1 == (1 : Int)) && (p1.n != (wI (IntKind.wrap .i32 p1.n))))) else ((x4.1 == (1 : Int)) && (p1.n != (wI (IntKind.wrap .i32 p1.n)))))) hc1) (Eq.trans (bifF (a := (((j3.m.memories.length : Int) == (0 : Int)) || ((x4.1 == (1 : Int)) && (p1.n != (wI (IntKind.wrap .i32 p1.n)))))) (b := ((x4.1 == (1 : Int)) && (p1.n != (wI (IntKind.wrap .i32 p1.n))))) hc2) (Eq.trans (andT (b := (p1.n != (wI (IntKind.wrap .i32 p1.n)))) hc3) (Eq.refl (p1.n != (wI (IntKind.wrap .i32 p1.n)))))))) True.intro)) (by kernel_rfl) rfl
              · exact YW.fin [(64, false), (66, false), (79, false), (76, false)] [] [0, 4, 88] [(88, .d (.bool ((!x4.2.isNone) || (bif ((x4.1 == (4 : Int)) || (x4.1 == (5 : Int))) then (((j3.m.memories.length : Int) == (0 : Int)) || ((x4.1 == (1 : Int)) && (p1.n != (wI (IntKind.wrap .i32 p1.n))))) else ((x4.1 == (1 : Int)) && (p1.n != (wI (IntKind.wrap .i32 p1.n))))))))] [.k 4, .k 1000, .k 1001, .k 1002, .k 1003] _ (And.intro (And.intro hc1 (And.intro hc1 (And.intro hc2 (And.intro hc2 (And.intro hc2 (And.intro hc2 (And.intro hc2 (And.intro hc2 (And.intro hc2 (And.intro hc1 (And.intro hc2 (And.intro hc1 (And.intro (Eq.refl false) (And.intro (Eq.refl false) (And.intro (Eq.refl false) (And.intro hc3 (And.intro hc3 (And.intro hc3 (And.intro hc3 (And.intro hc3 (And.intro hc3 (And.intro hc3 (And.intro (Eq.refl false) (And.intro hc3 (And.intro (Eq.refl false) True.intro))))))))))))))))))))))))) (And.intro (ovB (Eq.trans (orF (b := (bif ((x4.1 == (4 : Int)) || (x4.1 == (5 : Int))) then (((j3.m.memories.length : Int) == (0 : Int)) || ((x4.1 == (1 : Int)) && (p1.n != (wI (IntKind.wrap .i32 p1.n))))) else ((x4.1 == (1 : Int)) && (p1.n != (wI (IntKind.wrap .i32 p1.n)))))) hc1) (Eq.trans (bifF (a := (((j3.m.memories.length : Int) == (0 : Int)) || ((x4.1 == (1 : Int)) && (p1.n != (wI (IntKind.wrap .i32 p1.n)))))) (b := ((x4.1 == (1 : Int)) && (p1.n != (wI (IntKind.wrap .i32 p1.n))))) hc2) (andF (b := (p1.n != (wI (IntKind.wrap .i32 p1.n)))) hc3)))) True.intro)) (by kernel_rfl) rfl
        refine AW2.cond (b := ((!x4.2.isNone) || (bif ((x4.1 == (4 : Int)) || (x4.1 == (5 : Int))) then (((j3.m.memories.length : Int) == (0 : Int)) || ((x4.1 == (1 : Int)) && (p1.n != (wI (IntKind.wrap .i32 p1.n))))) else ((x4.1 == (1 : Int)) && (p1.n != (wI (IntKind.wrap .i32 p1.n))))))) rfl (fun hc => ?_) (fun hc => ?_)
        · replace H := ite_t H hc
          refine AW2.rg [] [0, 4] [] [.k 4, .k 1000, .k 1001, .k 1002, .k 1003] ⟨[(0, .p 1000 0), (4, .p 4 0)], [(4, .st false (eD (eTyp x1.1)))] ++ H_Checker (Checker.mk j3.m j3.t j3.locals j3.stack j3.frames j3.labels j3.most true)⟩ (And.intro True.intro True.intro) (by kernel_rfl) ?_
          have H := Option.some.inj H
          subst H
          exact wk_mk [0, 4] [] [.k 4, .k 1000, .k 1001, .k 1002, .k 1003] True.intro (by kernel_rfl)
        · replace H := ite_f H hc
          refine AW2.skip ?_
          have H := Option.some.inj H
          subst H
          exact wk_mk [0, 4] [] [.k 4, .k 1000, .k 1001, .k 1002, .k 1003] True.intro (by kernel_rfl)
    · have H := H21
      refine AW2.seq ?_
      obtain ⟨x13, hx14, H⟩ := bind_some H
      refine AW2.rg [.r (.tup [.int .i64 x13.1, .bool x13.2.1, .err 45 x13.2.2])] [0, 3, 4, 6, 8] [] [.k 3, .k 4, .k 1000, .k 1001, .k 1002, .k 1003] ⟨[(0, .p 1000 0), (3, .p 3 0), (4, .p 4 0), (6, .d (.int .i64 x13.1)), (8, .d (.err 45 x13.2.2))], [(3, .st false (eD (eInstr p1))), (4, .st false (eD (eTyp x1.1)))] ++ H_Checker p0⟩ (And.intro (And.intro (c_ops_Bytes p1.op x13 hx14) True.intro) True.intro) (by kernel_rfl) ?_
      refine AW2.seq ?_
      refine AW2.rg [] [0, 3, 4, 6, 30] [] [.k 3, .k 4, .k 1000, .k 1001, .k 1002, .k 1003] ⟨[(0, .p 1000 0), (3, .p 3 0), (4, .p 4 0), (6, .d (.int .i64 x13.1)), (30, .d (.bool x13.2.2.isNone))], [(3, .st false (eD (eInstr p1))), (4, .st false (eD (eTyp x1.1)))] ++ H_Checker p0⟩ (And.intro True.intro True.intro) (by kernel_rfl) ?_
      refine AW2.cond (b := x13.2.2.isNone) rfl (fun hc => ?_) (fun hc => ?_)
      · replace H := ite_t H hc
        obtain ⟨j16, H18, H⟩ := bind_some H
        refine AW2.reg [] rfl (YW.to ⟨[(0, .p 1000 0), (3, .p 3 0), (4, .p 4 0)], [(3, .st false (eD (eInstr p1))), (4, .st false (eD (eTyp x1.1)))] ++ H_Checker j16⟩ ?qh19 ?h19)
        case h19 =>
          have H := H18
          rcases bT p0.bad with hc1 | hc1
          · replace H := ite_t H hc1
            have H := Option.some.inj H
            subst H
            exact YW.fin [(36, true), (41, true)] [] [0, 3, 4] [] [.k 3, .k 4, .k 1000, .k 1001, .k 1002, .k 1003] _ (And.intro (And.intro hc1 (And.intro hc1 (And.intro hc1 (And.intro hc1 (And.intro (Eq.refl true) (And.intro (Eq.refl true) (And.intro (Eq.refl true) (And.intro (Eq.refl true) (And.intro (Eq.refl true) (And.intro (Eq.refl true) True.intro)))))))))) True.intro) (by kernel_rfl) rfl
          · replace H := ite_f H hc1
            rcases bT (decide (p1.align > (3 : Int))) with hc2 | hc2
            · replace H := ite_t H hc2
              have H := Option.some.inj H
              subst H
              exact YW.fin [(36, false), (41, true)] [] [0, 3, 4] [] [.k 3, .k 4, .k 1000, .k 1001, .k 1002, .k 1003] _ (And.intro (And.intro hc1 (And.intro hc1 (And.intro hc1 (And.intro hc1 (And.intro hc2 (And.intro hc2 (And.intro hc2 (And.intro hc2 (And.intro hc2 (And.intro hc2 True.intro)))))))))) True.intro) (by kernel_rfl) rfl
            · replace H := ite_f H hc2
              obtain ⟨h15, H⟩ := gd_some H
              have H := Option.some.inj H
              subst H
              exact YW.fin [(36, false), (41, false)] [] [0, 3, 4] [] [.k 3, .k 4, .k 1000, .k 1001, .k 1002, .k 1003] _ (And.intro (And.intro hc1 (And.intro hc1 (And.intro hc1 (And.intro hc1 (And.intro hc2 (And.intro hc2 (And.intro hc2 (And.intro h15 (And.intro hc2 (And.intro hc2 (And.intro hc2 True.intro))))))))))) True.intro) (by kernel_rfl) rfl
        have H := Option.some.inj H
        subst H
        exact wk_mk [0, 3, 4] [] [.k 3, .k 4, .k 1000, .k 1001, .k 1002, .k 1003] True.intro (by kernel_rfl)
      · replace H := ite_f H hc
        refine AW2.skip ?_
        have H := Option.some.inj H
        subst H
        exact wk_mk [0, 3, 4] [] [.k 3, .k 4, .k 1000, .k 1001, .k 1002, .k 1003] True.intro (by kernel_rfl)

/- (*mandrel/valid.checker).simple -/
def g_valid_checker_simple (p0 : Checker) (p1 : Instr) : Option (Checker) := (if (p1.op == (26 : Int)) = true then ((g_valid_checker_take p0 1).bind fun x1 => some x1.2) else (if (p1.op == (27 : Int)) = true then ((g_valid_checker_take p0 127).bind fun x3 => ((g_valid_checker_take x3.2 1).bind fun x5 => ((g_valid_checker_take x5.2 x5.1).bind fun x7 => ((g_valid_checker_lay x7.2 x7.1).bind fun x9 => some x9)))) else (if (p1.op == (32 : Int)) = true then ((g_valid_checker_local p0 p1.n).bind fun x11 => ((g_valid_checker_lay x11.2 x11.1).bind fun x13 => some x13)) else (if (p1.op == (33 : Int)) = true then ((g_valid_checker_local p0 p1.n).bind fun x15 => ((g_valid_checker_take x15.2 x15.1).bind fun x17 => some x17.2)) else (if (p1.op == (34 : Int)) = true then ((g_valid_checker_local p0 p1.n).bind fun x19 => ((g_valid_checker_take x19.2 x19.1).bind fun x21 => ((g_valid_checker_lay x21.2 x19.1).bind fun x23 => some x23))) else (if (p1.op == (35 : Int)) = true then ((g_valid_checker_global p0 p1.n).bind fun x25 => ((g_valid_checker_lay x25.2 x25.1.kind).bind fun x27 => some x27)) else (if (p1.op == (36 : Int)) = true then ((g_valid_checker_global p0 p1.n).bind fun x29 => ((if x29.2.bad = true then some (Checker.mk x29.2.m x29.2.t x29.2.locals x29.2.stack x29.2.frames x29.2.labels x29.2.most true) else some (Checker.mk x29.2.m x29.2.t x29.2.locals x29.2.stack x29.2.frames x29.2.labels x29.2.most (!x29.1.mut_)))).bind (fun j31 => ((g_valid_checker_take j31 x29.1.kind).bind fun x32 => some x32.2))) else ((g_valid_checker_plain p0 p1).bind fun x37 => some x37))))))))

theorem c_valid_checker_simple (p0 : Checker) (p1 : Instr) (r : Checker) (H : g_valid_checker_simple p0 p1 = some r) : CM E 56 [.p 1000 0, .agg (eD (eInstr p1))] (H_Checker p0) [] [1000] (fun a b => a = (.tup [] : LV) ∧ b = H_Checker r) := by
  refine cs_of (A := F_valid_checker_simple) fn_valid_checker_simple fun fr => ?_
  unfold g_valid_checker_simple at H
  refine AW2.seq ?_
  refine AW2.rg [.k 3] [0, 3] [] [.k 3, .k 1000, .k 1001, .k 1002, .k 1003] ⟨[(0, .p 1000 0), (3, .p 3 0)], [(3, .st false (eD (eInstr p1)))] ++ H_Checker p0⟩ (And.intro True.intro True.intro) (by kernel_rfl) ?_
  refine AW2.seq ?_
  refine AW2.rg [] [0, 3, 8] [] [.k 3, .k 1000, .k 1001, .k 1002, .k 1003] ⟨[(0, .p 1000 0), (3, .p 3 0), (8, .d (.int .u8 p1.op))], [(3, .st false (eD (eInstr p1)))] ++ H_Checker p0⟩ (And.intro True.intro True.intro) (by kernel_rfl) ?_
  refine AW2.block ?_
  refine AW2.seq ?_
  refine AW2.rg [] [0, 3, 8, 12] [] [.k 3, .k 1000, .k 1001, .k 1002, .k 1003] ⟨[(0, .p 1000 0), (3, .p 3 0), (8, .d (.int .u8 p1.op)), (12, .d (.bool (p1.op == (26 : Int))))], [(3, .st false (eD (eInstr p1)))] ++ H_Checker p0⟩ (And.intro True.intro True.intro) (by kernel_rfl) ?_
  refine AW2.cond (b := (p1.op == (26 : Int))) rfl (fun hc => ?_) (fun hc => ?_)
  · replace H := ite_t H hc
    obtain ⟨x1, hx2, H⟩ := bind_some H
    refine AW2.rg [.c [1000, 1001, 1002, 1003] [] [1000] (.d (.int .u8 x1.1)) (H_Checker x1.2)] [] [] [.k 1000, .k 1001, .k 1002, .k 1003] ⟨[], H_Checker x1.2⟩ (And.intro (And.intro (c_valid_checker_take p0 1 x1 hx2) True.intro) True.intro) (by kernel_rfl) ?_
    have H := Option.some.inj H
    subst H
    exact retS_mkn3 [] [.k 1000, .k 1001, .k 1002, .k 1003] True.intro (by kernel_rfl) (by kernel_rfl)
  · replace H := ite_f H hc
    refine AW2.seq ?_
    refine AW2.rg [] [0, 3, 8, 16] [] [.k 3, .k 1000, .k 1001, .k 1002, .k 1003] ⟨[(0, .p 1000 0), (3, .p 3 0), (8, .d (.int .u8 p1.op)), (16, .d (.bool (p1.op == (27 : Int))))], [(3, .st false (eD (eInstr p1)))] ++ H_Checker p0⟩ (And.intro True.intro True.intro) (by kernel_rfl) ?_
    refine AW2.cond (b := (p1.op == (27 : Int))) rfl (fun hc => ?_) (fun hc => ?_)
    · replace H := ite_t H hc
      refine AW2.seq ?_
      obtain ⟨x3, hx4, H⟩ := bind_some H
      refine AW2.rg [.c [1000, 1001, 1002, 1003] [] [1000] (.d (.int .u8 x3.1)) (H_Checker x3.2)] [0] [] [.k 1000, .k 1001, .k 1002, .k 1003] ⟨[(0, .p 1000 0)], H_Checker x3.2⟩ (And.intro (And.intro (c_valid_checker_take p0 127 x3 hx4) True.intro) True.intro) (by kernel_rfl) ?_
      refine AW2.seq ?_
      obtain ⟨x5, hx6, H⟩ := bind_some H
      refine AW2.rg [.c [1000, 1001, 1002, 1003] [] [1000] (.d (.int .u8 x5.1)) (H_Checker x5.2)] [0, 4] [] [.k 1000, .k 1001, .k 1002, .k 1003] ⟨[(0, .p 1000 0), (4, .d (.int .u8 x5.1))], H_Checker x5.2⟩ (And.intro (And.intro (c_valid_checker_take x3.2 1 x5 hx6) True.intro) True.intro) (by kernel_rfl) ?_
      obtain ⟨x7, hx8, H⟩ := bind_some H
      obtain ⟨x9, hx10, H⟩ := bind_some H
      refine AW2.rg [.c [1000, 1001, 1002, 1003] [] [1000] (.d (.int .u8 x7.1)) (H_Checker x7.2), .c [1000, 1001, 1002, 1003] [] [1000] (.tup []) (H_Checker x9)] [] [] [.k 1000, .k 1001, .k 1002, .k 1003] ⟨[], H_Checker x9⟩ (And.intro (And.intro (c_valid_checker_take x5.2 x5.1 x7 hx8) (And.intro (c_valid_checker_lay x7.2 x7.1 x9 hx10) True.intro)) True.intro) (by kernel_rfl) ?_
      have H := Option.some.inj H
      subst H
      exact retS_mkn3 [] [.k 1000, .k 1001, .k 1002, .k 1003] True.intro (by kernel_rfl) (by kernel_rfl)
    · replace H := ite_f H hc
      refine AW2.seq ?_
      refine AW2.rg [] [0, 3, 8, 27] [] [.k 3, .k 1000, .k 1001, .k 1002, .k 1003] ⟨[(0, .p 1000 0), (3, .p 3 0), (8, .d (.int .u8 p1.op)), (27, .d (.bool (p1.op == (32 : Int))))], [(3, .st false (eD (eInstr p1)))] ++ H_Checker p0⟩ (And.intro True.intro True.intro) (by kernel_rfl) ?_
      refine AW2.cond (b := (p1.op == (32 : Int))) rfl (fun hc => ?_) (fun hc => ?_)
      · replace H := ite_t H hc
        obtain ⟨x11, hx12, H⟩ := bind_some H
        obtain ⟨x13, hx14, H⟩ := bind_some H
        refine AW2.rg [.c [1000, 1001, 1002, 1003] [] [1000] (.d (.int .u8 x11.1)) (H_Checker x11.2), .c [1000, 1001, 1002, 1003] [] [1000] (.tup []) (H_Checker x13)] [] [] [.k 1000, .k 1001, .k 1002, .k 1003] ⟨[], H_Checker x13⟩ (And.intro (And.intro (c_valid_checker_local p0 p1.n x11 hx12) (And.intro (c_valid_checker_lay x11.2 x11.1 x13 hx14) True.intro)) True.intro) (by kernel_rfl) ?_
        have H := Option.some.inj H
        subst H
        exact retS_mkn3 [] [.k 1000, .k 1001, .k 1002, .k 1003] True.intro (by kernel_rfl) (by kernel_rfl)
      · replace H := ite_f H hc
        refine AW2.seq ?_
        refine AW2.rg [] [0, 3, 8, 35] [] [.k 3, .k 1000, .k 1001, .k 1002, .k 1003] ⟨[(0, .p 1000 0), (3, .p 3 0), (8, .d (.int .u8 p1.op)), (35, .d (.bool (p1.op == (33 : Int))))], [(3, .st false (eD (eInstr p1)))] ++ H_Checker p0⟩ (And.intro True.intro True.intro) (by kernel_rfl) ?_
        refine AW2.cond (b := (p1.op == (33 : Int))) rfl (fun hc => ?_) (fun hc => ?_)
        · replace H := ite_t H hc
          obtain ⟨x15, hx16, H⟩ := bind_some H
          obtain ⟨x17, hx18, H⟩ := bind_some H
          refine AW2.rg [.c [1000, 1001, 1002, 1003] [] [1000] (.d (.int .u8 x15.1)) (H_Checker x15.2), .c [1000, 1001, 1002, 1003] [] [1000] (.d (.int .u8 x17.1)) (H_Checker x17.2)] [] [] [.k 1000, .k 1001, .k 1002, .k 1003] ⟨[], H_Checker x17.2⟩ (And.intro (And.intro (c_valid_checker_local p0 p1.n x15 hx16) (And.intro (c_valid_checker_take x15.2 x15.1 x17 hx18) True.intro)) True.intro) (by kernel_rfl) ?_
          have H := Option.some.inj H
          subst H
          exact retS_mkn3 [] [.k 1000, .k 1001, .k 1002, .k 1003] True.intro (by kernel_rfl) (by kernel_rfl)
        · replace H := ite_f H hc
          refine AW2.seq ?_
          refine AW2.rg [] [0, 3, 8, 43] [] [.k 3, .k 1000, .k 1001, .k 1002, .k 1003] ⟨[(0, .p 1000 0), (3, .p 3 0), (8, .d (.int .u8 p1.op)), (43, .d (.bool (p1.op == (34 : Int))))], [(3, .st false (eD (eInstr p1)))] ++ H_Checker p0⟩ (And.intro True.intro True.intro) (by kernel_rfl) ?_
          refine AW2.cond (b := (p1.op == (34 : Int))) rfl (fun hc => ?_) (fun hc => ?_)
          · replace H := ite_t H hc
            refine AW2.seq ?_
            obtain ⟨x19, hx20, H⟩ := bind_some H
            refine AW2.rg [.c [1000, 1001, 1002, 1003] [] [1000] (.d (.int .u8 x19.1)) (H_Checker x19.2)] [0, 5] [] [.k 1000, .k 1001, .k 1002, .k 1003] ⟨[(0, .p 1000 0), (5, .d (.int .u8 x19.1))], H_Checker x19.2⟩ (And.intro (And.intro (c_valid_checker_local p0 p1.n x19 hx20) True.intro) True.intro) (by kernel_rfl) ?_
            refine AW2.seq ?_
            obtain ⟨x21, hx22, H⟩ := bind_some H
            refine AW2.rg [.c [1000, 1001, 1002, 1003] [] [1000] (.d (.int .u8 x21.1)) (H_Checker x21.2)] [0, 5] [] [.k 1000, .k 1001, .k 1002, .k 1003] ⟨[(0, .p 1000 0), (5, .d (.int .u8 x19.1))], H_Checker x21.2⟩ (And.intro (And.intro (c_valid_checker_take x19.2 x19.1 x21 hx22) True.intro) True.intro) (by kernel_rfl) ?_
            obtain ⟨x23, hx24, H⟩ := bind_some H
            refine AW2.rg [.c [1000, 1001, 1002, 1003] [] [1000] (.tup []) (H_Checker x23)] [] [] [.k 1000, .k 1001, .k 1002, .k 1003] ⟨[], H_Checker x23⟩ (And.intro (And.intro (c_valid_checker_lay x21.2 x19.1 x23 hx24) True.intro) True.intro) (by kernel_rfl) ?_
            have H := Option.some.inj H
            subst H
            exact retS_mkn3 [] [.k 1000, .k 1001, .k 1002, .k 1003] True.intro (by kernel_rfl) (by kernel_rfl)
          · replace H := ite_f H hc
            refine AW2.seq ?_
            refine AW2.rg [] [0, 3, 8, 55] [] [.k 3, .k 1000, .k 1001, .k 1002, .k 1003] ⟨[(0, .p 1000 0), (3, .p 3 0), (8, .d (.int .u8 p1.op)), (55, .d (.bool (p1.op == (35 : Int))))], [(3, .st false (eD (eInstr p1)))] ++ H_Checker p0⟩ (And.intro True.intro True.intro) (by kernel_rfl) ?_
            refine AW2.cond (b := (p1.op == (35 : Int))) rfl (fun hc => ?_) (fun hc => ?_)
            · replace H := ite_t H hc
              obtain ⟨x25, hx26, H⟩ := bind_some H
              obtain ⟨x27, hx28, H⟩ := bind_some H
              refine AW2.rg [.c [1000, 1001, 1002, 1003] [] [1000] (.agg (eD (eGlo x25.1))) (H_Checker x25.2), .c [1000, 1001, 1002, 1003] [] [1000] (.tup []) (H_Checker x27)] [] [] [.k 1000, .k 1001, .k 1002, .k 1003] ⟨[], H_Checker x27⟩ (And.intro (And.intro (c_valid_checker_global p0 p1.n x25 hx26) (And.intro (c_valid_checker_lay x25.2 x25.1.kind x27 hx28) True.intro)) True.intro) (by kernel_rfl) ?_
              have H := Option.some.inj H
              subst H
              exact retS_mkn3 [] [.k 1000, .k 1001, .k 1002, .k 1003] True.intro (by kernel_rfl) (by kernel_rfl)
            · replace H := ite_f H hc
              refine AW2.seq ?_
              refine AW2.rg [] [0, 3, 64] [] [.k 3, .k 1000, .k 1001, .k 1002, .k 1003] ⟨[(0, .p 1000 0), (3, .p 3 0), (64, .d (.bool (p1.op == (36 : Int))))], [(3, .st false (eD (eInstr p1)))] ++ H_Checker p0⟩ (And.intro True.intro True.intro) (by kernel_rfl) ?_
              refine AW2.cond (b := (p1.op == (36 : Int))) rfl (fun hc => ?_) (fun hc => ?_)
              · replace H := ite_t H hc
                refine AW2.seq ?_
                obtain ⟨x29, hx30, H⟩ := bind_some H
                refine AW2.rg [.c [1000, 1001, 1002, 1003] [] [1000] (.agg (eD (eGlo x29.1))) (H_Checker x29.2), .k 6] [0, 6] [] [.k 6, .k 1000, .k 1001, .k 1002, .k 1003] ⟨[(0, .p 1000 0), (6, .p 6 0)], [(6, .st false (eD (eGlo x29.1)))] ++ H_Checker x29.2⟩ (And.intro (And.intro (c_valid_checker_global p0 p1.n x29 hx30) True.intro) True.intro) (by kernel_rfl) ?_
                refine AW2.seq ?_
                obtain ⟨j31, H35, H⟩ := bind_some H
                refine AW2.reg [] rfl (YW.to ⟨[(0, .p 1000 0), (6, .p 6 0)], [(6, .st false (eD (eGlo x29.1)))] ++ H_Checker j31⟩ ?qh36 ?h36)
                case h36 =>
                  have H := H35
                  rcases bT x29.2.bad with hc1 | hc1
                  · replace H := ite_t H hc1
                    have H := Option.some.inj H
                    subst H
                    exact YW.fin [(75, true)] [] [0, 6] [] [.k 6, .k 1000, .k 1001, .k 1002, .k 1003] _ (And.intro (And.intro hc1 (And.intro hc1 (And.intro hc1 (And.intro hc1 True.intro)))) True.intro) (by kernel_rfl) rfl
                  · replace H := ite_f H hc1
                    have H := Option.some.inj H
                    subst H
                    exact YW.fin [(75, false)] [] [0, 6] [] [.k 6, .k 1000, .k 1001, .k 1002, .k 1003] _ (And.intro (And.intro hc1 (And.intro hc1 (And.intro hc1 (And.intro hc1 True.intro)))) True.intro) (by kernel_rfl) rfl
                obtain ⟨x32, hx33, H⟩ := bind_some H
                refine AW2.rg [.c [1000, 1001, 1002, 1003] [] [1000] (.d (.int .u8 x32.1)) (H_Checker x32.2)] [] [] [.k 1000, .k 1001, .k 1002, .k 1003] ⟨[], H_Checker x32.2⟩ (And.intro (And.intro (c_valid_checker_take j31 x29.1.kind x32 hx33) True.intro) True.intro) (by kernel_rfl) ?_
                have H := Option.some.inj H
                subst H
                exact retS_mkn3 [] [.k 1000, .k 1001, .k 1002, .k 1003] True.intro (by kernel_rfl) (by kernel_rfl)
              · replace H := ite_f H hc
                obtain ⟨x37, hx38, H⟩ := bind_some H
                refine AW2.rg [.c [1000, 1001, 1002, 1003] [] [1000] (.tup []) (H_Checker x37)] [] [] [.k 1000, .k 1001, .k 1002, .k 1003] ⟨[], H_Checker x37⟩ (And.intro (And.intro (c_valid_checker_plain p0 p1 x37 hx38) True.intro) True.intro) (by kernel_rfl) ?_
                have H := Option.some.inj H
                subst H
                exact retS_mkn3 [] [.k 1000, .k 1001, .k 1002, .k 1003] True.intro (by kernel_rfl) (by kernel_rfl)

end Go.Proofs.YtablleokoifolaaGreatDoor

/- Plain functions and their contracts. Written by a program of this claim set (g2.py). -/
set_option linter.unusedVariables false
set_option maxRecDepth 100000
set_option maxHeartbeats 4000000
namespace Go.Proofs.YtablleokoifolaaGreatDoor
open Go

/- (*mandrel/valid.checker).inner, (*mandrel/valid.checker).control, (*mandrel/valid.checker).list -/
mutual
def g_valid_checker_inner : Nat → Checker → (List Instr) → Int → Int → Option (Checker)
  | 0, _, _, _, _ => none
  | k+1, p0, p1, p2, p3 => gd (0 ≤ (wI ((p0.frames.length : Int) - 1)) ∧ (wI ((p0.frames.length : Int) - 1)) < (p0.frames.length : Int)) (((if (p0.frames.getD ((wI ((p0.frames.length : Int) - 1)).toNat) default).away = true then gd ((p0.frames.length + 1) * 16 ≤ 140737488355328) (some (Checker.mk p0.m p0.t p0.locals p0.stack (p0.frames ++ ([(Frame.mk (p0.stack.length : Int) false true)] : List Frame)) p0.labels p0.most p0.bad)) else gd ((p0.frames.length + 1) * 16 ≤ 140737488355328) (some (Checker.mk p0.m p0.t p0.locals p0.stack (p0.frames ++ ([(Frame.mk (p0.stack.length : Int) false ((p0.frames.getD ((wI ((p0.frames.length : Int) - 1)).toNat) default).dead))] : List Frame)) p0.labels p0.most p0.bad)))).bind (fun j4 => gd ((j4.labels.length + 1) * 1 ≤ 140737488355328) (((g_valid_checker_list k (Checker.mk j4.m j4.t j4.locals j4.stack j4.frames (j4.labels ++ ([p3] : List Int)) j4.most j4.bad) p1).bind fun x6 => ((g_valid_checker_take x6 p2).bind fun x8 => gd (0 ≤ (wI ((x8.2.frames.length : Int) - 1)) ∧ (wI ((x8.2.frames.length : Int) - 1)) < (x8.2.frames.length : Int)) (((if x8.2.bad = true then some (Checker.mk x8.2.m x8.2.t x8.2.locals x8.2.stack x8.2.frames x8.2.labels x8.2.most true) else some (Checker.mk x8.2.m x8.2.t x8.2.locals x8.2.stack x8.2.frames x8.2.labels x8.2.most ((x8.2.stack.length : Int) != ((x8.2.frames.getD ((wI ((x8.2.frames.length : Int) - 1)).toNat) default).height))))).bind (fun j11 => gd (0 ≤ (0 : Int) ∧ 0 ≤ (mnI ((x8.2.frames.getD ((wI ((x8.2.frames.length : Int) - 1)).toNat) default).height) (j11.stack.length : Int)) ∧ (mnI ((x8.2.frames.getD ((wI ((x8.2.frames.length : Int) - 1)).toNat) default).height) (j11.stack.length : Int)) ≤ (j11.stack.length : Int)) (gd (0 ≤ (0 : Int) ∧ 0 ≤ (wI ((j11.frames.length : Int) - 1)) ∧ (wI ((j11.frames.length : Int) - 1)) ≤ (j11.frames.length : Int)) (gd (0 ≤ (0 : Int) ∧ 0 ≤ (wI ((j11.labels.length : Int) - 1)) ∧ (wI ((j11.labels.length : Int) - 1)) ≤ (j11.labels.length : Int)) (some (Checker.mk j11.m j11.t j11.locals (List.take ((mnI ((x8.2.frames.getD ((wI ((x8.2.frames.length : Int) - 1)).toNat) default).height) (j11.stack.length : Int)).toNat) j11.stack) (List.take ((wI ((j11.frames.length : Int) - 1)).toNat) j11.frames) (List.take ((wI ((j11.labels.length : Int) - 1)).toNat) j11.labels) j11.most j11.bad)))))))))))

def g_valid_checker_control : Nat → Checker → Instr → Option (Checker)
  | 0, _, _ => none
  | k+1, p0, p1 => (if (p1.op == (0 : Int)) = true then ((g_valid_checker_leave p0).bind fun x1 => some x1) else (if (p1.op == (1 : Int)) = true then some p0 else ((if (p1.op == (2 : Int)) = true then some (p1.op == (2 : Int)) else some (p1.op == (3 : Int)))).bind (fun j3 => (if j3 = true then ((if p0.bad = true then some (Checker.mk p0.m p0.t p0.locals p0.stack p0.frames p0.labels p0.most true) else ((g_valid_result p1.result).bind fun x4 => some (Checker.mk p0.m p0.t p0.locals p0.stack p0.frames p0.labels p0.most (!x4))))).bind (fun j6 => ((if (p1.op == (3 : Int)) = true then some 0 else some p1.result)).bind (fun j7 => ((g_valid_checker_inner k j6 p1.body p1.result j7).bind fun x8 => ((g_valid_checker_lay x8 p1.result).bind fun x10 => some x10)))) else (if (p1.op == (4 : Int)) = true then ((if p0.bad = true then some (Checker.mk p0.m p0.t p0.locals p0.stack p0.frames p0.labels p0.most true) else ((g_valid_result p1.result).bind fun x17 => some (Checker.mk p0.m p0.t p0.locals p0.stack p0.frames p0.labels p0.most (!x17))))).bind (fun j19 => ((g_valid_checker_take j19 127).bind fun x20 => ((g_valid_checker_inner k x20.2 p1.body p1.result p1.result).bind fun x22 => ((g_valid_checker_inner k x22 p1.els p1.result p1.result).bind fun x24 => ((g_valid_checker_lay x24 p1.result).bind fun x26 => some x26))))) else (if (p1.op == (12 : Int)) = true then ((g_valid_checker_label p0 p1.n).bind fun x31 => ((g_valid_checker_take x31.2 x31.1).bind fun x33 => ((g_valid_checker_leave x33.2).bind fun x35 => some x35))) else (if (p1.op == (13 : Int)) = true then ((g_valid_checker_take p0 127).bind fun x37 => ((g_valid_checker_label x37.2 p1.n).bind fun x39 => ((g_valid_checker_take x39.2 x39.1).bind fun x41 => ((g_valid_checker_lay x41.2 x39.1).bind fun x43 => some x43)))) else (if (p1.op == (14 : Int)) = true then ((g_valid_checker_table k p0 p1).bind fun x45 => some x45) else (if (p1.op == (15 : Int)) = true then ((g_valid_checker_take p0 p0.t.result).bind fun x47 => ((g_valid_checker_leave x47.2).bind fun x49 => some x49)) else (if (p1.op == (16 : Int)) = true then ((g_valid_checker_function p0 p1.n).bind fun x51 => ((g_valid_checker_call x51.2 x51.1).bind fun x53 => some x53)) else (if (p1.op == (17 : Int)) = true then ((if p0.bad = true then some (Checker.mk p0.m p0.t p0.locals p0.stack p0.frames p0.labels p0.most true) else some (Checker.mk p0.m p0.t p0.locals p0.stack p0.frames p0.labels p0.most ((p0.m.tables.length : Int) == (0 : Int))))).bind (fun j55 => ((g_valid_checker_take j55 127).bind fun x56 => ((g_valid_checker_typ x56.2 p1.n).bind fun x58 => ((g_valid_checker_call x58.2 x58.1).bind fun x60 => some x60)))) else some (Checker.mk p0.m p0.t p0.locals p0.stack p0.frames p0.labels p0.most true))))))))))))

def g_valid_checker_list : Nat → Checker → (List Instr) → Option (Checker)
  | 0, _, _ => none
  | k+1, p0, p1 => lpN k (fun (rec5 : Checker × Int → Option (Checker)) v => match v with | (a3, a4) => (if (decide (a4 < (p1.length : Int))) = true then gd (0 ≤ a4 ∧ a4 < (p1.length : Int)) ((if a3.bad = true then some a3 else (if (decide ((((p1.getD a4.toNat default)).op) < (26 : Int))) = true then ((g_valid_checker_control k a3 (p1.getD a4.toNat default)).bind fun x7 => rec5 (x7, (wI (a4 + 1)))) else ((g_valid_checker_simple a3 (p1.getD a4.toNat default)).bind fun x9 => rec5 (x9, (wI (a4 + 1))))))) else some a3)) (p0, 0)
end
theorem s_valid_checker_inner (k : Nat) (IH_valid_checker_inner : ∀ (p0 : Checker) (p1 : List Instr) (p2 : Int) (p3 : Int) (r : Checker), g_valid_checker_inner k p0 p1 p2 p3 = some r → CM E 70 [.p 1000 0, .d (sVI p1), .d (.int .u8 p2), .d (.int .u8 p3)] (H_Checker p0) [] [1000] (fun a b => a = (.tup [] : LV) ∧ b = H_Checker r)) (IH_valid_checker_control : ∀ (p0 : Checker) (p1 : Instr) (r : Checker), g_valid_checker_control k p0 p1 = some r → CM E 55 [.p 1000 0, .agg (eD (eInstr p1))] (H_Checker p0) [] [1000] (fun a b => a = (.tup [] : LV) ∧ b = H_Checker r)) (IH_valid_checker_list : ∀ (p0 : Checker) (p1 : List Instr) (r : Checker), g_valid_checker_list k p0 p1 = some r → CM E 39 [.p 1000 0, .d (sVI p1)] (H_Checker p0) [] [1000] (fun a b => a = (.tup [] : LV) ∧ b = H_Checker r)) : ∀ (p0 : Checker) (p1 : List Instr) (p2 : Int) (p3 : Int) (r : Checker), g_valid_checker_inner (k + 1) p0 p1 p2 p3 = some r → CM E 70 [.p 1000 0, .d (sVI p1), .d (.int .u8 p2), .d (.int .u8 p3)] (H_Checker p0) [] [1000] (fun a b => a = (.tup [] : LV) ∧ b = H_Checker r) := by
  intro p0 p1 p2 p3 r H
  refine cs_of (A := F_valid_checker_inner) fn_valid_checker_inner fun fr => ?_
  unfold g_valid_checker_inner at H
  refine AW2.seq ?_
  obtain ⟨h1, H⟩ := gd_some H
  refine AW2.rg [.k 8] [0, 1, 2, 3, 8] [] [.k 8, .k 1000, .k 1001, .k 1002, .k 1003] ⟨[(0, .p 1000 0), (1, .d (sVI p1)), (2, .d (.int .u8 p2)), (3, .d (.int .u8 p3)), (8, .p 8 0)], [(8, .st false (eD (eFrame (p0.frames.getD ((wI ((p0.frames.length : Int) - 1)).toNat) default))))] ++ H_Checker p0⟩ (And.intro (And.intro h1 (And.intro (ixN h1) (And.intro (ixN h1) True.intro))) True.intro) (by kernel_rfl) ?_
  refine AW2.seq ?_
  obtain ⟨j4, H19, H⟩ := bind_some H
  refine AW2.reg [] rfl (YW.to ⟨[(0, .p 1000 0), (1, .d (sVI p1)), (2, .d (.int .u8 p2)), (3, .d (.int .u8 p3))], H_Checker j4⟩ ?qh20 ?h20)
  case h20 =>
    have H := H19
    rcases bT ((p0.frames.getD ((wI ((p0.frames.length : Int) - 1)).toNat) default).away) with hc1 | hc1
    · replace H := ite_t H hc1
      obtain ⟨h2, H⟩ := gd_some H
      have H := Option.some.inj H
      subst H
      exact YW.fin [(34, true)] [.sb ([(Frame.mk (p0.stack.length : Int) false true)] : List Frame).length (fl eFrame ([(Frame.mk (p0.stack.length : Int) false true)] : List Frame)), .s true (p0.frames ++ ([(Frame.mk (p0.stack.length : Int) false true)] : List Frame)).length (fl eFrame (p0.frames ++ ([(Frame.mk (p0.stack.length : Int) false true)] : List Frame)))] [0, 1, 2, 3] [] [.k 1000, .k 1001, .k 1002, .k 1003] _ (And.intro (And.intro hc1 (And.intro hc1 (And.intro hc1 (And.intro (litF eFrame ([(Frame.mk (p0.stack.length : Int) false true)] : List Frame)) (And.intro (Nat.le_refl p0.frames.length) (And.intro h2 (And.intro (app1 eFrame p0.frames (Frame.mk (p0.stack.length : Int) false true) (fl eFrame ([(Frame.mk (p0.stack.length : Int) false true)] : List Frame)) rfl) True.intro))))))) True.intro) (by kernel_rfl) rfl
    · replace H := ite_f H hc1
      obtain ⟨h3, H⟩ := gd_some H
      have H := Option.some.inj H
      subst H
      exact YW.fin [(34, false)] [.sb ([(Frame.mk (p0.stack.length : Int) false ((p0.frames.getD ((wI ((p0.frames.length : Int) - 1)).toNat) default).dead))] : List Frame).length (fl eFrame ([(Frame.mk (p0.stack.length : Int) false ((p0.frames.getD ((wI ((p0.frames.length : Int) - 1)).toNat) default).dead))] : List Frame)), .s true (p0.frames ++ ([(Frame.mk (p0.stack.length : Int) false ((p0.frames.getD ((wI ((p0.frames.length : Int) - 1)).toNat) default).dead))] : List Frame)).length (fl eFrame (p0.frames ++ ([(Frame.mk (p0.stack.length : Int) false ((p0.frames.getD ((wI ((p0.frames.length : Int) - 1)).toNat) default).dead))] : List Frame)))] [0, 1, 2, 3] [] [.k 1000, .k 1001, .k 1002, .k 1003] _ (And.intro (And.intro hc1 (And.intro hc1 (And.intro hc1 (And.intro (litF eFrame ([(Frame.mk (p0.stack.length : Int) false ((p0.frames.getD ((wI ((p0.frames.length : Int) - 1)).toNat) default).dead))] : List Frame)) (And.intro (Nat.le_refl p0.frames.length) (And.intro h3 (And.intro (app1 eFrame p0.frames (Frame.mk (p0.stack.length : Int) false ((p0.frames.getD ((wI ((p0.frames.length : Int) - 1)).toNat) default).dead)) (fl eFrame ([(Frame.mk (p0.stack.length : Int) false ((p0.frames.getD ((wI ((p0.frames.length : Int) - 1)).toNat) default).dead))] : List Frame)) rfl) True.intro))))))) True.intro) (by kernel_rfl) rfl
  refine AW2.seq ?_
  obtain ⟨h5, H⟩ := gd_some H
  refine AW2.rg [.sb ([p3] : List Int).length (fl (eI .u8) ([p3] : List Int)), .s true (j4.labels ++ ([p3] : List Int)).length (fl (eI .u8) (j4.labels ++ ([p3] : List Int)))] [0, 1, 2] [] [.k 1000, .k 1001, .k 1002, .k 1003] ⟨[(0, .p 1000 0), (1, .d (sVI p1)), (2, .d (.int .u8 p2))], H_Checker (Checker.mk j4.m j4.t j4.locals j4.stack j4.frames (j4.labels ++ ([p3] : List Int)) j4.most j4.bad)⟩ (And.intro (And.intro (litF (eI .u8) ([p3] : List Int)) (And.intro (Nat.le_refl j4.labels.length) (And.intro h5 (And.intro (app1 (eI .u8) j4.labels p3 (fl (eI .u8) ([p3] : List Int)) rfl) True.intro)))) True.intro) (by kernel_rfl) ?_
  refine AW2.seq ?_
  obtain ⟨x6, hx7, H⟩ := bind_some H
  refine AW2.rg [.c [1000, 1001, 1002, 1003] [] [1000] (.tup []) (H_Checker x6)] [0, 2] [] [.k 1000, .k 1001, .k 1002, .k 1003] ⟨[(0, .p 1000 0), (2, .d (.int .u8 p2))], H_Checker x6⟩ (And.intro (And.intro (IH_valid_checker_list (Checker.mk j4.m j4.t j4.locals j4.stack j4.frames (j4.labels ++ ([p3] : List Int)) j4.most j4.bad) p1 x6 hx7) True.intro) True.intro) (by kernel_rfl) ?_
  refine AW2.seq ?_
  obtain ⟨x8, hx9, H⟩ := bind_some H
  refine AW2.rg [.c [1000, 1001, 1002, 1003] [] [1000] (.d (.int .u8 x8.1)) (H_Checker x8.2)] [0] [] [.k 1000, .k 1001, .k 1002, .k 1003] ⟨[(0, .p 1000 0)], H_Checker x8.2⟩ (And.intro (And.intro (c_valid_checker_take x6 p2 x8 hx9) True.intro) True.intro) (by kernel_rfl) ?_
  refine AW2.seq ?_
  obtain ⟨h10, H⟩ := gd_some H
  refine AW2.rg [] [0, 9] [] [.k 1000, .k 1001, .k 1002, .k 1003] ⟨[(0, .p 1000 0), (9, .d (.int .i64 ((x8.2.frames.getD ((wI ((x8.2.frames.length : Int) - 1)).toNat) default).height)))], H_Checker x8.2⟩ (And.intro (And.intro h10 (And.intro (ixN h10) (And.intro (ixN h10) True.intro))) True.intro) (by kernel_rfl) ?_
  refine AW2.seq ?_
  obtain ⟨j11, H16, H⟩ := bind_some H
  refine AW2.reg [] rfl (YW.to ⟨[(0, .p 1000 0), (9, .d (.int .i64 ((x8.2.frames.getD ((wI ((x8.2.frames.length : Int) - 1)).toNat) default).height)))], H_Checker j11⟩ ?qh17 ?h17)
  case h17 =>
    have H := H16
    rcases bT x8.2.bad with hc1 | hc1
    · replace H := ite_t H hc1
      have H := Option.some.inj H
      subst H
      exact YW.fin [(77, true)] [] [0, 9] [] [.k 1000, .k 1001, .k 1002, .k 1003] _ (And.intro (And.intro hc1 (And.intro hc1 (And.intro hc1 (And.intro hc1 (And.intro hc1 (And.intro hc1 (And.intro hc1 (And.intro hc1 True.intro)))))))) True.intro) (by kernel_rfl) rfl
    · replace H := ite_f H hc1
      have H := Option.some.inj H
      subst H
      exact YW.fin [(77, false)] [] [0, 9] [] [.k 1000, .k 1001, .k 1002, .k 1003] _ (And.intro (And.intro hc1 (And.intro hc1 (And.intro hc1 (And.intro hc1 (And.intro hc1 (And.intro hc1 (And.intro hc1 (And.intro hc1 True.intro)))))))) True.intro) (by kernel_rfl) rfl
  refine AW2.seq ?_
  obtain ⟨h12, H⟩ := gd_some H
  refine AW2.rg [.s true (List.take ((mnI ((x8.2.frames.getD ((wI ((x8.2.frames.length : Int) - 1)).toNat) default).height) (j11.stack.length : Int)).toNat) j11.stack).length (fl (eI .u8) (List.take ((mnI ((x8.2.frames.getD ((wI ((x8.2.frames.length : Int) - 1)).toNat) default).height) (j11.stack.length : Int)).toNat) j11.stack))] [0] [] [.k 1000, .sl 1001 (List.take ((mnI ((x8.2.frames.getD ((wI ((x8.2.frames.length : Int) - 1)).toNat) default).height) (j11.stack.length : Int)).toNat) j11.stack).length (fl (eI .u8) (List.take ((mnI ((x8.2.frames.getD ((wI ((x8.2.frames.length : Int) - 1)).toNat) default).height) (j11.stack.length : Int)).toNat) j11.stack)), .k 1002, .k 1003] ⟨[(0, .p 1000 0)], H_Checker (Checker.mk j11.m j11.t j11.locals (List.take ((mnI ((x8.2.frames.getD ((wI ((x8.2.frames.length : Int) - 1)).toNat) default).height) (j11.stack.length : Int)).toNat) j11.stack) j11.frames j11.labels j11.most j11.bad)⟩ (And.intro (And.intro h12 (And.intro (takeN h12) True.intro)) (And.intro (takeL j11.stack ((mnI ((x8.2.frames.getD ((wI ((x8.2.frames.length : Int) - 1)).toNat) default).height) (j11.stack.length : Int)).toNat)) (And.intro (takeF (eI .u8) j11.stack ((mnI ((x8.2.frames.getD ((wI ((x8.2.frames.length : Int) - 1)).toNat) default).height) (j11.stack.length : Int)).toNat)) True.intro))) (by kernel_rfl) ?_
  obtain ⟨h13, H⟩ := gd_some H
  obtain ⟨h14, H⟩ := gd_some H
  refine AW2.reg [(1000, 0, 12)] (by kernel_rfl) (YW.fin [] [.s true (List.take ((wI ((j11.frames.length : Int) - 1)).toNat) j11.frames).length (fl eFrame (List.take ((wI ((j11.frames.length : Int) - 1)).toNat) j11.frames)), .s true (List.take ((wI ((j11.labels.length : Int) - 1)).toNat) j11.labels).length (fl (eI .u8) (List.take ((wI ((j11.labels.length : Int) - 1)).toNat) j11.labels))] [] [] [.k 1000, .k 1001, .sl 1002 (List.take ((wI ((j11.frames.length : Int) - 1)).toNat) j11.frames).length (fl eFrame (List.take ((wI ((j11.frames.length : Int) - 1)).toNat) j11.frames)), .sl 1003 (List.take ((wI ((j11.labels.length : Int) - 1)).toNat) j11.labels).length (fl (eI .u8) (List.take ((wI ((j11.labels.length : Int) - 1)).toNat) j11.labels))] ⟨[], H_Checker (Checker.mk j11.m j11.t j11.locals (List.take ((mnI ((x8.2.frames.getD ((wI ((x8.2.frames.length : Int) - 1)).toNat) default).height) (j11.stack.length : Int)).toNat) j11.stack) (List.take ((wI ((j11.frames.length : Int) - 1)).toNat) j11.frames) (List.take ((wI ((j11.labels.length : Int) - 1)).toNat) j11.labels) j11.most j11.bad)⟩ (And.intro (And.intro h13 (And.intro (takeN h13) (And.intro h14 (And.intro (takeN h14) True.intro)))) (And.intro (takeL j11.frames ((wI ((j11.frames.length : Int) - 1)).toNat)) (And.intro (takeF eFrame j11.frames ((wI ((j11.frames.length : Int) - 1)).toNat)) (And.intro (takeL j11.labels ((wI ((j11.labels.length : Int) - 1)).toNat)) (And.intro (takeF (eI .u8) j11.labels ((wI ((j11.labels.length : Int) - 1)).toNat)) True.intro))))) (by kernel_rfl) ?_)
  have H := Option.some.inj H
  subst H
  exact retS_mkn3 [] [.k 1000, .k 1001, .k 1002, .k 1003] True.intro (by kernel_rfl) (by kernel_rfl)
theorem s_valid_checker_control (k : Nat) (IH_valid_checker_inner : ∀ (p0 : Checker) (p1 : List Instr) (p2 : Int) (p3 : Int) (r : Checker), g_valid_checker_inner k p0 p1 p2 p3 = some r → CM E 70 [.p 1000 0, .d (sVI p1), .d (.int .u8 p2), .d (.int .u8 p3)] (H_Checker p0) [] [1000] (fun a b => a = (.tup [] : LV) ∧ b = H_Checker r)) (IH_valid_checker_control : ∀ (p0 : Checker) (p1 : Instr) (r : Checker), g_valid_checker_control k p0 p1 = some r → CM E 55 [.p 1000 0, .agg (eD (eInstr p1))] (H_Checker p0) [] [1000] (fun a b => a = (.tup [] : LV) ∧ b = H_Checker r)) (IH_valid_checker_list : ∀ (p0 : Checker) (p1 : List Instr) (r : Checker), g_valid_checker_list k p0 p1 = some r → CM E 39 [.p 1000 0, .d (sVI p1)] (H_Checker p0) [] [1000] (fun a b => a = (.tup [] : LV) ∧ b = H_Checker r)) : ∀ (p0 : Checker) (p1 : Instr) (r : Checker), g_valid_checker_control (k + 1) p0 p1 = some r → CM E 55 [.p 1000 0, .agg (eD (eInstr p1))] (H_Checker p0) [] [1000] (fun a b => a = (.tup [] : LV) ∧ b = H_Checker r) := by
  intro p0 p1 r H
  refine cs_of (A := F_valid_checker_control) fn_valid_checker_control fun fr => ?_
  unfold g_valid_checker_control at H
  refine AW2.seq ?_
  refine AW2.rg [.k 3] [0, 3] [] [.k 3, .k 1000, .k 1001, .k 1002, .k 1003] ⟨[(0, .p 1000 0), (3, .p 3 0)], [(3, .st false (eD (eInstr p1)))] ++ H_Checker p0⟩ (And.intro True.intro True.intro) (by kernel_rfl) ?_
  refine AW2.seq ?_
  refine AW2.rg [] [0, 3, 7] [] [.k 3, .k 1000, .k 1001, .k 1002, .k 1003] ⟨[(0, .p 1000 0), (3, .p 3 0), (7, .d (.int .u8 p1.op))], [(3, .st false (eD (eInstr p1)))] ++ H_Checker p0⟩ (And.intro True.intro True.intro) (by kernel_rfl) ?_
  refine AW2.block ?_
  refine AW2.seq ?_
  refine AW2.rg [] [0, 3, 7, 11] [] [.k 3, .k 1000, .k 1001, .k 1002, .k 1003] ⟨[(0, .p 1000 0), (3, .p 3 0), (7, .d (.int .u8 p1.op)), (11, .d (.bool (p1.op == (0 : Int))))], [(3, .st false (eD (eInstr p1)))] ++ H_Checker p0⟩ (And.intro True.intro True.intro) (by kernel_rfl) ?_
  refine AW2.cond (b := (p1.op == (0 : Int))) rfl (fun hc => ?_) (fun hc => ?_)
  · replace H := ite_t H hc
    obtain ⟨x1, hx2, H⟩ := bind_some H
    refine AW2.rg [.c [1000, 1001, 1002, 1003] [] [1000] (.tup []) (H_Checker x1)] [] [] [.k 1000, .k 1001, .k 1002, .k 1003] ⟨[], H_Checker x1⟩ (And.intro (And.intro (c_valid_checker_leave p0 x1 hx2) True.intro) True.intro) (by kernel_rfl) ?_
    have H := Option.some.inj H
    subst H
    exact retS_mkn3 [] [.k 1000, .k 1001, .k 1002, .k 1003] True.intro (by kernel_rfl) (by kernel_rfl)
  · replace H := ite_f H hc
    refine AW2.seq ?_
    refine AW2.rg [] [0, 3, 7, 15] [] [.k 3, .k 1000, .k 1001, .k 1002, .k 1003] ⟨[(0, .p 1000 0), (3, .p 3 0), (7, .d (.int .u8 p1.op)), (15, .d (.bool (p1.op == (1 : Int))))], [(3, .st false (eD (eInstr p1)))] ++ H_Checker p0⟩ (And.intro True.intro True.intro) (by kernel_rfl) ?_
    refine AW2.cond (b := (p1.op == (1 : Int))) rfl (fun hc => ?_) (fun hc => ?_)
    · replace H := ite_t H hc
      refine AW2.skip ?_
      have H := Option.some.inj H
      subst H
      exact retS_mkn3 [] [.k 1000, .k 1001, .k 1002, .k 1003] True.intro (by kernel_rfl) (by kernel_rfl)
    · replace H := ite_f H hc
      obtain ⟨j3, H66, H⟩ := bind_some H
      refine AW2.mid ⟨[(0, .p 1000 0), (3, .p 3 0), (7, .d (.int .u8 p1.op)), (17, .d (.bool j3))], [(3, .st false (eD (eInstr p1)))] ++ H_Checker p0⟩ ?_ ?_
      · refine AW2.cond (b := j3) rfl (fun hc => ?_) (fun hc => ?_)
        · replace H := ite_t H hc
          refine AW2.seq ?_
          obtain ⟨j6, H15, H⟩ := bind_some H
          refine AW2.reg [] rfl (YW.to ⟨[(0, .p 1000 0), (3, .p 3 0)], [(3, .st false (eD (eInstr p1)))] ++ H_Checker j6⟩ ?qh16 ?h16)
          case h16 =>
            have H := H15
            rcases bT p0.bad with hc1 | hc1
            · replace H := ite_t H hc1
              have H := Option.some.inj H
              subst H
              exact YW.fin [(25, true)] [] [0, 3] [] [.k 3, .k 1000, .k 1001, .k 1002, .k 1003] _ (And.intro (And.intro hc1 (And.intro hc1 (And.intro hc1 (And.intro hc1 (And.intro hc1 True.intro))))) True.intro) (by kernel_rfl) rfl
            · replace H := ite_f H hc1
              obtain ⟨x4, hx5, H⟩ := bind_some H
              have H := Option.some.inj H
              subst H
              exact YW.fin [(25, false)] [.r (.bool x4)] [0, 3] [] [.k 3, .k 1000, .k 1001, .k 1002, .k 1003] _ (And.intro (And.intro hc1 (And.intro hc1 (And.intro hc1 (And.intro (c_valid_result p1.result x4 hx5) (And.intro hc1 (And.intro hc1 True.intro)))))) True.intro) (by kernel_rfl) rfl
          refine AW2.seq ?_
          refine AW2.rg [] [0, 3, 4] [] [.k 3, .k 1000, .k 1001, .k 1002, .k 1003] ⟨[(0, .p 1000 0), (3, .p 3 0), (4, .d (.int .u8 p1.result))], [(3, .st false (eD (eInstr p1)))] ++ H_Checker j6⟩ (And.intro True.intro True.intro) (by kernel_rfl) ?_
          obtain ⟨j7, H13, H⟩ := bind_some H
          refine AW2.mid ⟨[(0, .p 1000 0), (3, .p 3 0), (4, .d (.int .u8 j7))], [(3, .st false (eD (eInstr p1)))] ++ H_Checker j6⟩ ?_ ?_
          · refine AW2.seq ?_
            obtain ⟨x8, hx9, H⟩ := bind_some H
            refine AW2.rg [.c [1000, 1001, 1002, 1003] [] [1000] (.tup []) (H_Checker x8)] [0, 3] [] [.k 3, .k 1000, .k 1001, .k 1002, .k 1003] ⟨[(0, .p 1000 0), (3, .p 3 0)], [(3, .st false (eD (eInstr p1)))] ++ H_Checker x8⟩ (And.intro (And.intro (IH_valid_checker_inner j6 p1.body p1.result j7 x8 hx9) True.intro) True.intro) (by kernel_rfl) ?_
            obtain ⟨x10, hx11, H⟩ := bind_some H
            refine AW2.rg [.c [1000, 1001, 1002, 1003] [] [1000] (.tup []) (H_Checker x10)] [] [] [.k 1000, .k 1001, .k 1002, .k 1003] ⟨[], H_Checker x10⟩ (And.intro (And.intro (c_valid_checker_lay x8 p1.result x10 hx11) True.intro) True.intro) (by kernel_rfl) ?_
            have H := Option.some.inj H
            subst H
            exact retS_mkn3 [] [.k 1000, .k 1001, .k 1002, .k 1003] True.intro (by kernel_rfl) (by kernel_rfl)
          · have H := H13
            refine AW2.seq ?_
            refine AW2.rg [] [0, 3, 4, 37] [] [.k 3, .k 1000, .k 1001, .k 1002, .k 1003] ⟨[(0, .p 1000 0), (3, .p 3 0), (4, .d (.int .u8 p1.result)), (37, .d (.bool (p1.op == (3 : Int))))], [(3, .st false (eD (eInstr p1)))] ++ H_Checker j6⟩ (And.intro True.intro True.intro) (by kernel_rfl) ?_
            refine AW2.cond (b := (p1.op == (3 : Int))) rfl (fun hc => ?_) (fun hc => ?_)
            · replace H := ite_t H hc
              refine AW2.rg [] [0, 3, 4] [] [.k 3, .k 1000, .k 1001, .k 1002, .k 1003] ⟨[(0, .p 1000 0), (3, .p 3 0), (4, .d (.int .u8 0))], [(3, .st false (eD (eInstr p1)))] ++ H_Checker j6⟩ (And.intro True.intro True.intro) (by kernel_rfl) ?_
              have H := Option.some.inj H
              subst H
              exact wk_mk [0, 3, 4] [] [.k 3, .k 1000, .k 1001, .k 1002, .k 1003] True.intro (by kernel_rfl)
            · replace H := ite_f H hc
              refine AW2.skip ?_
              have H := Option.some.inj H
              subst H
              exact wk_mk [0, 3, 4] [] [.k 3, .k 1000, .k 1001, .k 1002, .k 1003] True.intro (by kernel_rfl)
        · replace H := ite_f H hc
          refine AW2.seq ?_
          refine AW2.rg [] [0, 3, 7, 49] [] [.k 3, .k 1000, .k 1001, .k 1002, .k 1003] ⟨[(0, .p 1000 0), (3, .p 3 0), (7, .d (.int .u8 p1.op)), (49, .d (.bool (p1.op == (4 : Int))))], [(3, .st false (eD (eInstr p1)))] ++ H_Checker p0⟩ (And.intro True.intro True.intro) (by kernel_rfl) ?_
          refine AW2.cond (b := (p1.op == (4 : Int))) rfl (fun hc => ?_) (fun hc => ?_)
          · replace H := ite_t H hc
            refine AW2.seq ?_
            obtain ⟨j19, H29, H⟩ := bind_some H
            refine AW2.reg [] rfl (YW.to ⟨[(0, .p 1000 0), (3, .p 3 0)], [(3, .st false (eD (eInstr p1)))] ++ H_Checker j19⟩ ?qh30 ?h30)
            case h30 =>
              have H := H29
              rcases bT p0.bad with hc1 | hc1
              · replace H := ite_t H hc1
                have H := Option.some.inj H
                subst H
                exact YW.fin [(56, true)] [] [0, 3] [] [.k 3, .k 1000, .k 1001, .k 1002, .k 1003] _ (And.intro (And.intro hc1 (And.intro hc1 (And.intro hc1 (And.intro hc1 (And.intro hc1 True.intro))))) True.intro) (by kernel_rfl) rfl
              · replace H := ite_f H hc1
                obtain ⟨x17, hx18, H⟩ := bind_some H
                have H := Option.some.inj H
                subst H
                exact YW.fin [(56, false)] [.r (.bool x17)] [0, 3] [] [.k 3, .k 1000, .k 1001, .k 1002, .k 1003] _ (And.intro (And.intro hc1 (And.intro hc1 (And.intro hc1 (And.intro (c_valid_result p1.result x17 hx18) (And.intro hc1 (And.intro hc1 True.intro)))))) True.intro) (by kernel_rfl) rfl
            refine AW2.seq ?_
            obtain ⟨x20, hx21, H⟩ := bind_some H
            refine AW2.rg [.c [1000, 1001, 1002, 1003] [] [1000] (.d (.int .u8 x20.1)) (H_Checker x20.2)] [0, 3] [] [.k 3, .k 1000, .k 1001, .k 1002, .k 1003] ⟨[(0, .p 1000 0), (3, .p 3 0)], [(3, .st false (eD (eInstr p1)))] ++ H_Checker x20.2⟩ (And.intro (And.intro (c_valid_checker_take j19 127 x20 hx21) True.intro) True.intro) (by kernel_rfl) ?_
            refine AW2.seq ?_
            obtain ⟨x22, hx23, H⟩ := bind_some H
            refine AW2.rg [.c [1000, 1001, 1002, 1003] [] [1000] (.tup []) (H_Checker x22)] [0, 3] [] [.k 3, .k 1000, .k 1001, .k 1002, .k 1003] ⟨[(0, .p 1000 0), (3, .p 3 0)], [(3, .st false (eD (eInstr p1)))] ++ H_Checker x22⟩ (And.intro (And.intro (IH_valid_checker_inner x20.2 p1.body p1.result p1.result x22 hx23) True.intro) True.intro) (by kernel_rfl) ?_
            refine AW2.seq ?_
            obtain ⟨x24, hx25, H⟩ := bind_some H
            refine AW2.rg [.c [1000, 1001, 1002, 1003] [] [1000] (.tup []) (H_Checker x24)] [0, 3] [] [.k 3, .k 1000, .k 1001, .k 1002, .k 1003] ⟨[(0, .p 1000 0), (3, .p 3 0)], [(3, .st false (eD (eInstr p1)))] ++ H_Checker x24⟩ (And.intro (And.intro (IH_valid_checker_inner x22 p1.els p1.result p1.result x24 hx25) True.intro) True.intro) (by kernel_rfl) ?_
            obtain ⟨x26, hx27, H⟩ := bind_some H
            refine AW2.rg [.c [1000, 1001, 1002, 1003] [] [1000] (.tup []) (H_Checker x26)] [] [] [.k 1000, .k 1001, .k 1002, .k 1003] ⟨[], H_Checker x26⟩ (And.intro (And.intro (c_valid_checker_lay x24 p1.result x26 hx27) True.intro) True.intro) (by kernel_rfl) ?_
            have H := Option.some.inj H
            subst H
            exact retS_mkn3 [] [.k 1000, .k 1001, .k 1002, .k 1003] True.intro (by kernel_rfl) (by kernel_rfl)
          · replace H := ite_f H hc
            refine AW2.seq ?_
            refine AW2.rg [] [0, 3, 7, 86] [] [.k 3, .k 1000, .k 1001, .k 1002, .k 1003] ⟨[(0, .p 1000 0), (3, .p 3 0), (7, .d (.int .u8 p1.op)), (86, .d (.bool (p1.op == (12 : Int))))], [(3, .st false (eD (eInstr p1)))] ++ H_Checker p0⟩ (And.intro True.intro True.intro) (by kernel_rfl) ?_
            refine AW2.cond (b := (p1.op == (12 : Int))) rfl (fun hc => ?_) (fun hc => ?_)
            · replace H := ite_t H hc
              refine AW2.seq ?_
              obtain ⟨x31, hx32, H⟩ := bind_some H
              obtain ⟨x33, hx34, H⟩ := bind_some H
              refine AW2.rg [.c [1000, 1001, 1002, 1003] [] [1000] (.d (.int .u8 x31.1)) (H_Checker x31.2), .c [1000, 1001, 1002, 1003] [] [1000] (.d (.int .u8 x33.1)) (H_Checker x33.2)] [0] [] [.k 1000, .k 1001, .k 1002, .k 1003] ⟨[(0, .p 1000 0)], H_Checker x33.2⟩ (And.intro (And.intro (c_valid_checker_label p0 p1.n x31 hx32) (And.intro (c_valid_checker_take x31.2 x31.1 x33 hx34) True.intro)) True.intro) (by kernel_rfl) ?_
              obtain ⟨x35, hx36, H⟩ := bind_some H
              refine AW2.rg [.c [1000, 1001, 1002, 1003] [] [1000] (.tup []) (H_Checker x35)] [] [] [.k 1000, .k 1001, .k 1002, .k 1003] ⟨[], H_Checker x35⟩ (And.intro (And.intro (c_valid_checker_leave x33.2 x35 hx36) True.intro) True.intro) (by kernel_rfl) ?_
              have H := Option.some.inj H
              subst H
              exact retS_mkn3 [] [.k 1000, .k 1001, .k 1002, .k 1003] True.intro (by kernel_rfl) (by kernel_rfl)
            · replace H := ite_f H hc
              refine AW2.seq ?_
              refine AW2.rg [] [0, 3, 7, 96] [] [.k 3, .k 1000, .k 1001, .k 1002, .k 1003] ⟨[(0, .p 1000 0), (3, .p 3 0), (7, .d (.int .u8 p1.op)), (96, .d (.bool (p1.op == (13 : Int))))], [(3, .st false (eD (eInstr p1)))] ++ H_Checker p0⟩ (And.intro True.intro True.intro) (by kernel_rfl) ?_
              refine AW2.cond (b := (p1.op == (13 : Int))) rfl (fun hc => ?_) (fun hc => ?_)
              · replace H := ite_t H hc
                refine AW2.seq ?_
                obtain ⟨x37, hx38, H⟩ := bind_some H
                refine AW2.rg [.c [1000, 1001, 1002, 1003] [] [1000] (.d (.int .u8 x37.1)) (H_Checker x37.2)] [0, 3] [] [.k 3, .k 1000, .k 1001, .k 1002, .k 1003] ⟨[(0, .p 1000 0), (3, .p 3 0)], [(3, .st false (eD (eInstr p1)))] ++ H_Checker x37.2⟩ (And.intro (And.intro (c_valid_checker_take p0 127 x37 hx38) True.intro) True.intro) (by kernel_rfl) ?_
                refine AW2.seq ?_
                obtain ⟨x39, hx40, H⟩ := bind_some H
                refine AW2.rg [.c [1000, 1001, 1002, 1003] [] [1000] (.d (.int .u8 x39.1)) (H_Checker x39.2)] [0, 5] [] [.k 1000, .k 1001, .k 1002, .k 1003] ⟨[(0, .p 1000 0), (5, .d (.int .u8 x39.1))], H_Checker x39.2⟩ (And.intro (And.intro (c_valid_checker_label x37.2 p1.n x39 hx40) True.intro) True.intro) (by kernel_rfl) ?_
                refine AW2.seq ?_
                obtain ⟨x41, hx42, H⟩ := bind_some H
                refine AW2.rg [.c [1000, 1001, 1002, 1003] [] [1000] (.d (.int .u8 x41.1)) (H_Checker x41.2)] [0, 5] [] [.k 1000, .k 1001, .k 1002, .k 1003] ⟨[(0, .p 1000 0), (5, .d (.int .u8 x39.1))], H_Checker x41.2⟩ (And.intro (And.intro (c_valid_checker_take x39.2 x39.1 x41 hx42) True.intro) True.intro) (by kernel_rfl) ?_
                obtain ⟨x43, hx44, H⟩ := bind_some H
                refine AW2.rg [.c [1000, 1001, 1002, 1003] [] [1000] (.tup []) (H_Checker x43)] [] [] [.k 1000, .k 1001, .k 1002, .k 1003] ⟨[], H_Checker x43⟩ (And.intro (And.intro (c_valid_checker_lay x41.2 x39.1 x43 hx44) True.intro) True.intro) (by kernel_rfl) ?_
                have H := Option.some.inj H
                subst H
                exact retS_mkn3 [] [.k 1000, .k 1001, .k 1002, .k 1003] True.intro (by kernel_rfl) (by kernel_rfl)
              · replace H := ite_f H hc
                refine AW2.seq ?_
                refine AW2.rg [] [0, 3, 7, 110] [] [.k 3, .k 1000, .k 1001, .k 1002, .k 1003] ⟨[(0, .p 1000 0), (3, .p 3 0), (7, .d (.int .u8 p1.op)), (110, .d (.bool (p1.op == (14 : Int))))], [(3, .st false (eD (eInstr p1)))] ++ H_Checker p0⟩ (And.intro True.intro True.intro) (by kernel_rfl) ?_
                refine AW2.cond (b := (p1.op == (14 : Int))) rfl (fun hc => ?_) (fun hc => ?_)
                · replace H := ite_t H hc
                  obtain ⟨x45, hx46, H⟩ := bind_some H
                  refine AW2.rg [.c [1000, 1001, 1002, 1003] [] [1000] (.tup []) (H_Checker x45)] [] [] [.k 1000, .k 1001, .k 1002, .k 1003] ⟨[], H_Checker x45⟩ (And.intro (And.intro (c_valid_checker_table k p0 p1 x45 hx46) True.intro) True.intro) (by kernel_rfl) ?_
                  have H := Option.some.inj H
                  subst H
                  exact retS_mkn3 [] [.k 1000, .k 1001, .k 1002, .k 1003] True.intro (by kernel_rfl) (by kernel_rfl)
                · replace H := ite_f H hc
                  refine AW2.seq ?_
                  refine AW2.rg [] [0, 3, 7, 115] [] [.k 3, .k 1000, .k 1001, .k 1002, .k 1003] ⟨[(0, .p 1000 0), (3, .p 3 0), (7, .d (.int .u8 p1.op)), (115, .d (.bool (p1.op == (15 : Int))))], [(3, .st false (eD (eInstr p1)))] ++ H_Checker p0⟩ (And.intro True.intro True.intro) (by kernel_rfl) ?_
                  refine AW2.cond (b := (p1.op == (15 : Int))) rfl (fun hc => ?_) (fun hc => ?_)
                  · replace H := ite_t H hc
                    refine AW2.seq ?_
                    obtain ⟨x47, hx48, H⟩ := bind_some H
                    refine AW2.rg [.c [1000, 1001, 1002, 1003] [] [1000] (.d (.int .u8 x47.1)) (H_Checker x47.2)] [0] [] [.k 1000, .k 1001, .k 1002, .k 1003] ⟨[(0, .p 1000 0)], H_Checker x47.2⟩ (And.intro (And.intro (c_valid_checker_take p0 p0.t.result x47 hx48) True.intro) True.intro) (by kernel_rfl) ?_
                    obtain ⟨x49, hx50, H⟩ := bind_some H
                    refine AW2.rg [.c [1000, 1001, 1002, 1003] [] [1000] (.tup []) (H_Checker x49)] [] [] [.k 1000, .k 1001, .k 1002, .k 1003] ⟨[], H_Checker x49⟩ (And.intro (And.intro (c_valid_checker_leave x47.2 x49 hx50) True.intro) True.intro) (by kernel_rfl) ?_
                    have H := Option.some.inj H
                    subst H
                    exact retS_mkn3 [] [.k 1000, .k 1001, .k 1002, .k 1003] True.intro (by kernel_rfl) (by kernel_rfl)
                  · replace H := ite_f H hc
                    refine AW2.seq ?_
                    refine AW2.rg [] [0, 3, 7, 126] [] [.k 3, .k 1000, .k 1001, .k 1002, .k 1003] ⟨[(0, .p 1000 0), (3, .p 3 0), (7, .d (.int .u8 p1.op)), (126, .d (.bool (p1.op == (16 : Int))))], [(3, .st false (eD (eInstr p1)))] ++ H_Checker p0⟩ (And.intro True.intro True.intro) (by kernel_rfl) ?_
                    refine AW2.cond (b := (p1.op == (16 : Int))) rfl (fun hc => ?_) (fun hc => ?_)
                    · replace H := ite_t H hc
                      obtain ⟨x51, hx52, H⟩ := bind_some H
                      obtain ⟨x53, hx54, H⟩ := bind_some H
                      refine AW2.rg [.c [1000, 1001, 1002, 1003] [] [1000] (.agg (eD (eTyp x51.1))) (H_Checker x51.2), .c [1000, 1001, 1002, 1003] [] [1000] (.tup []) (H_Checker x53)] [] [] [.k 1000, .k 1001, .k 1002, .k 1003] ⟨[], H_Checker x53⟩ (And.intro (And.intro (c_valid_checker_function p0 p1.n x51 hx52) (And.intro (c_valid_checker_call x51.2 x51.1 x53 hx54) True.intro)) True.intro) (by kernel_rfl) ?_
                      have H := Option.some.inj H
                      subst H
                      exact retS_mkn3 [] [.k 1000, .k 1001, .k 1002, .k 1003] True.intro (by kernel_rfl) (by kernel_rfl)
                    · replace H := ite_f H hc
                      refine AW2.seq ?_
                      refine AW2.rg [] [0, 3, 134] [] [.k 3, .k 1000, .k 1001, .k 1002, .k 1003] ⟨[(0, .p 1000 0), (3, .p 3 0), (134, .d (.bool (p1.op == (17 : Int))))], [(3, .st false (eD (eInstr p1)))] ++ H_Checker p0⟩ (And.intro True.intro True.intro) (by kernel_rfl) ?_
                      refine AW2.cond (b := (p1.op == (17 : Int))) rfl (fun hc => ?_) (fun hc => ?_)
                      · replace H := ite_t H hc
                        refine AW2.seq ?_
                        obtain ⟨j55, H63, H⟩ := bind_some H
                        refine AW2.reg [] rfl (YW.to ⟨[(0, .p 1000 0), (3, .p 3 0)], [(3, .st false (eD (eInstr p1)))] ++ H_Checker j55⟩ ?qh64 ?h64)
                        case h64 =>
                          have H := H63
                          rcases bT p0.bad with hc1 | hc1
                          · replace H := ite_t H hc1
                            have H := Option.some.inj H
                            subst H
                            exact YW.fin [(141, true)] [] [0, 3] [] [.k 3, .k 1000, .k 1001, .k 1002, .k 1003] _ (And.intro (And.intro hc1 (And.intro hc1 (And.intro hc1 (And.intro hc1 (And.intro hc1 (And.intro hc1 (And.intro hc1 (And.intro hc1 True.intro)))))))) True.intro) (by kernel_rfl) rfl
                          · replace H := ite_f H hc1
                            have H := Option.some.inj H
                            subst H
                            exact YW.fin [(141, false)] [] [0, 3] [] [.k 3, .k 1000, .k 1001, .k 1002, .k 1003] _ (And.intro (And.intro hc1 (And.intro hc1 (And.intro hc1 (And.intro hc1 (And.intro hc1 (And.intro hc1 (And.intro hc1 (And.intro hc1 True.intro)))))))) True.intro) (by kernel_rfl) rfl
                        refine AW2.seq ?_
                        obtain ⟨x56, hx57, H⟩ := bind_some H
                        refine AW2.rg [.c [1000, 1001, 1002, 1003] [] [1000] (.d (.int .u8 x56.1)) (H_Checker x56.2)] [0, 3] [] [.k 3, .k 1000, .k 1001, .k 1002, .k 1003] ⟨[(0, .p 1000 0), (3, .p 3 0)], [(3, .st false (eD (eInstr p1)))] ++ H_Checker x56.2⟩ (And.intro (And.intro (c_valid_checker_take j55 127 x56 hx57) True.intro) True.intro) (by kernel_rfl) ?_
                        obtain ⟨x58, hx59, H⟩ := bind_some H
                        obtain ⟨x60, hx61, H⟩ := bind_some H
                        refine AW2.rg [.c [1000, 1001, 1002, 1003] [] [1000] (.agg (eD (eTyp x58.1))) (H_Checker x58.2), .c [1000, 1001, 1002, 1003] [] [1000] (.tup []) (H_Checker x60)] [] [] [.k 1000, .k 1001, .k 1002, .k 1003] ⟨[], H_Checker x60⟩ (And.intro (And.intro (c_valid_checker_typ x56.2 p1.n x58 hx59) (And.intro (c_valid_checker_call x58.2 x58.1 x60 hx61) True.intro)) True.intro) (by kernel_rfl) ?_
                        have H := Option.some.inj H
                        subst H
                        exact retS_mkn3 [] [.k 1000, .k 1001, .k 1002, .k 1003] True.intro (by kernel_rfl) (by kernel_rfl)
                      · replace H := ite_f H hc
                        refine AW2.rg [] [] [] [.k 1000, .k 1001, .k 1002, .k 1003] ⟨[], H_Checker (Checker.mk p0.m p0.t p0.locals p0.stack p0.frames p0.labels p0.most true)⟩ (And.intro True.intro True.intro) (by kernel_rfl) ?_
                        have H := Option.some.inj H
                        subst H
                        exact retS_mkn3 [] [.k 1000, .k 1001, .k 1002, .k 1003] True.intro (by kernel_rfl) (by kernel_rfl)
      · have H := H66
        refine AW2.seq ?_
        refine AW2.rg [] [0, 3, 7, 17] [] [.k 3, .k 1000, .k 1001, .k 1002, .k 1003] ⟨[(0, .p 1000 0), (3, .p 3 0), (7, .d (.int .u8 p1.op)), (17, .d (.bool (p1.op == (2 : Int))))], [(3, .st false (eD (eInstr p1)))] ++ H_Checker p0⟩ (And.intro True.intro True.intro) (by kernel_rfl) ?_
        refine AW2.cond (b := (p1.op == (2 : Int))) rfl (fun hc => ?_) (fun hc => ?_)
        · replace H := ite_t H hc
          refine AW2.skip ?_
          have H := Option.some.inj H
          subst H
          exact wk_mk [0, 3, 7, 17] [] [.k 3, .k 1000, .k 1001, .k 1002, .k 1003] True.intro (by kernel_rfl)
        · replace H := ite_f H hc
          refine AW2.rg [] [0, 3, 7, 17] [] [.k 3, .k 1000, .k 1001, .k 1002, .k 1003] ⟨[(0, .p 1000 0), (3, .p 3 0), (7, .d (.int .u8 p1.op)), (17, .d (.bool (p1.op == (3 : Int))))], [(3, .st false (eD (eInstr p1)))] ++ H_Checker p0⟩ (And.intro True.intro True.intro) (by kernel_rfl) ?_
          have H := Option.some.inj H
          subst H
          exact wk_mk [0, 3, 7, 17] [] [.k 3, .k 1000, .k 1001, .k 1002, .k 1003] True.intro (by kernel_rfl)
theorem s_valid_checker_list (k : Nat) (IH_valid_checker_inner : ∀ (p0 : Checker) (p1 : List Instr) (p2 : Int) (p3 : Int) (r : Checker), g_valid_checker_inner k p0 p1 p2 p3 = some r → CM E 70 [.p 1000 0, .d (sVI p1), .d (.int .u8 p2), .d (.int .u8 p3)] (H_Checker p0) [] [1000] (fun a b => a = (.tup [] : LV) ∧ b = H_Checker r)) (IH_valid_checker_control : ∀ (p0 : Checker) (p1 : Instr) (r : Checker), g_valid_checker_control k p0 p1 = some r → CM E 55 [.p 1000 0, .agg (eD (eInstr p1))] (H_Checker p0) [] [1000] (fun a b => a = (.tup [] : LV) ∧ b = H_Checker r)) (IH_valid_checker_list : ∀ (p0 : Checker) (p1 : List Instr) (r : Checker), g_valid_checker_list k p0 p1 = some r → CM E 39 [.p 1000 0, .d (sVI p1)] (H_Checker p0) [] [1000] (fun a b => a = (.tup [] : LV) ∧ b = H_Checker r)) : ∀ (p0 : Checker) (p1 : List Instr) (r : Checker), g_valid_checker_list (k + 1) p0 p1 = some r → CM E 39 [.p 1000 0, .d (sVI p1)] (H_Checker p0) [] [1000] (fun a b => a = (.tup [] : LV) ∧ b = H_Checker r) := by
  intro p0 p1 r H
  refine cs_of (A := F_valid_checker_list) fn_valid_checker_list fun fr => ?_
  unfold g_valid_checker_list at H
  refine AW2.seq ?_
  refine AW2.rg [] [0, 6, 7, 8] [] [.k 1000, .k 1001, .k 1002, .k 1003] ⟨[(0, .p 1000 0), (6, .d (sVI p1)), (7, .d (.int .i64 (p1.length : Int))), (8, .d (.int .i64 0))], H_Checker p0⟩ (And.intro True.intro True.intro) (by kernel_rfl) ?_
  refine AW2.block ?_
  refine AW2.lpR (σ := Checker × Int) (fun v => ⟨[(0, .p 1000 0), (6, .d (sVI p1)), (7, .d (.int .i64 (p1.length : Int))), (8, .d (.int .i64 v.2))], H_Checker v.1⟩) ?_ (v := (p0, 0)) H
  rintro rec5 ⟨a3, a4⟩ H
  dsimp only at H
  refine AW2.seq ?_
  refine AW2.rg [] [0, 6, 7, 8, 9] [] [.k 1000, .k 1001, .k 1002, .k 1003] ⟨[(0, .p 1000 0), (6, .d (sVI p1)), (7, .d (.int .i64 (p1.length : Int))), (8, .d (.int .i64 a4)), (9, .d (.bool (decide (a4 < (p1.length : Int)))))], H_Checker a3⟩ (And.intro True.intro True.intro) (by kernel_rfl) ?_
  refine AW2.seq ?_
  refine AW2.cond (b := (decide (a4 < (p1.length : Int)))) rfl (fun hc => ?_) (fun hc => ?_)
  · replace H := ite_t H hc
    refine AW2.skip ?_
    refine AW2.seq ?_
    refine AW2.block ?_
    refine AW2.seq ?_
    obtain ⟨h6, H⟩ := gd_some H
    refine AW2.rg [.e (eInstr (p1.getD a4.toNat default)), .k 5] [0, 5, 6, 7, 8] [] [.k 5, .k 1000, .k 1001, .k 1002, .k 1003] ⟨[(0, .p 1000 0), (5, .p 5 0), (6, .d (sVI p1)), (7, .d (.int .i64 (p1.length : Int))), (8, .d (.int .i64 a4))], [(5, .st false (eD (eInstr (p1.getD a4.toNat default))))] ++ H_Checker a3⟩ (And.intro (And.intro h6 (And.intro (flI_ix h6) True.intro)) True.intro) (by kernel_rfl) ?_
    refine AW2.seq ?_
    refine AW2.seq ?_
    refine AW2.rg [] [0, 5, 6, 7, 8, 15] [] [.k 5, .k 1000, .k 1001, .k 1002, .k 1003] ⟨[(0, .p 1000 0), (5, .p 5 0), (6, .d (sVI p1)), (7, .d (.int .i64 (p1.length : Int))), (8, .d (.int .i64 a4)), (15, .d (.bool a3.bad))], [(5, .st false (eD (eInstr (p1.getD a4.toNat default))))] ++ H_Checker a3⟩ (And.intro True.intro True.intro) (by kernel_rfl) ?_
    refine AW2.cond (b := a3.bad) rfl (fun hc => ?_) (fun hc => ?_)
    · replace H := ite_t H hc
      refine AW2.ret ?_
      have H := Option.some.inj H
      subst H
      exact retS_mk3 [] [.k 1000, .k 1001, .k 1002, .k 1003] True.intro (by kernel_rfl) (by kernel_rfl)
    · replace H := ite_f H hc
      refine AW2.skip ?_
      refine AW2.seq ?_
      refine AW2.rg [] [0, 5, 6, 7, 8, 18] [] [.k 5, .k 1000, .k 1001, .k 1002, .k 1003] ⟨[(0, .p 1000 0), (5, .p 5 0), (6, .d (sVI p1)), (7, .d (.int .i64 (p1.length : Int))), (8, .d (.int .i64 a4)), (18, .d (.bool (decide ((((p1.getD a4.toNat default)).op) < (26 : Int)))))], [(5, .st false (eD (eInstr (p1.getD a4.toNat default))))] ++ H_Checker a3⟩ (And.intro True.intro True.intro) (by kernel_rfl) ?_
      refine AW2.cond (b := (decide ((((p1.getD a4.toNat default)).op) < (26 : Int)))) rfl (fun hc => ?_) (fun hc => ?_)
      · replace H := ite_t H hc
        obtain ⟨x7, hx8, H⟩ := bind_some H
        refine AW2.rg [.c [1000, 1001, 1002, 1003] [] [1000] (.tup []) (H_Checker x7)] [0, 6, 7, 8] [] [.k 1000, .k 1001, .k 1002, .k 1003] ⟨[(0, .p 1000 0), (6, .d (sVI p1)), (7, .d (.int .i64 (p1.length : Int))), (8, .d (.int .i64 a4))], H_Checker x7⟩ (And.intro (And.intro (IH_valid_checker_control a3 (p1.getD a4.toNat default) x7 hx8) True.intro) True.intro) (by kernel_rfl) ?_
        refine AW2.rg [] [0, 6, 7, 8] [] [.k 1000, .k 1001, .k 1002, .k 1003] ⟨[(0, .p 1000 0), (6, .d (sVI p1)), (7, .d (.int .i64 (p1.length : Int))), (8, .d (.int .i64 (wI (a4 + 1))))], H_Checker x7⟩ (And.intro True.intro True.intro) (by kernel_rfl) ?_
        exact ⟨(x7, (wI (a4 + 1))), H, wk_mk [0, 6, 7, 8] [] [.k 1000, .k 1001, .k 1002, .k 1003] True.intro (by kernel_rfl)⟩
      · replace H := ite_f H hc
        obtain ⟨x9, hx10, H⟩ := bind_some H
        refine AW2.rg [.c [1000, 1001, 1002, 1003] [] [1000] (.tup []) (H_Checker x9)] [0, 6, 7, 8] [] [.k 1000, .k 1001, .k 1002, .k 1003] ⟨[(0, .p 1000 0), (6, .d (sVI p1)), (7, .d (.int .i64 (p1.length : Int))), (8, .d (.int .i64 a4))], H_Checker x9⟩ (And.intro (And.intro (c_valid_checker_simple a3 (p1.getD a4.toNat default) x9 hx10) True.intro) True.intro) (by kernel_rfl) ?_
        refine AW2.rg [] [0, 6, 7, 8] [] [.k 1000, .k 1001, .k 1002, .k 1003] ⟨[(0, .p 1000 0), (6, .d (sVI p1)), (7, .d (.int .i64 (p1.length : Int))), (8, .d (.int .i64 (wI (a4 + 1))))], H_Checker x9⟩ (And.intro True.intro True.intro) (by kernel_rfl) ?_
        exact ⟨(x9, (wI (a4 + 1))), H, wk_mk [0, 6, 7, 8] [] [.k 1000, .k 1001, .k 1002, .k 1003] True.intro (by kernel_rfl)⟩
  · replace H := ite_f H hc
    refine AW2.exit ?_
    have H := Option.some.inj H
    subst H
    exact retS_mkn3 [] [.k 1000, .k 1001, .k 1002, .k 1003] True.intro (by kernel_rfl) (by kernel_rfl)
theorem c_scc_valid_checker_inner : ∀ k, (∀ (p0 : Checker) (p1 : List Instr) (p2 : Int) (p3 : Int) (r : Checker), g_valid_checker_inner k p0 p1 p2 p3 = some r → CM E 70 [.p 1000 0, .d (sVI p1), .d (.int .u8 p2), .d (.int .u8 p3)] (H_Checker p0) [] [1000] (fun a b => a = (.tup [] : LV) ∧ b = H_Checker r)) ∧ (∀ (p0 : Checker) (p1 : Instr) (r : Checker), g_valid_checker_control k p0 p1 = some r → CM E 55 [.p 1000 0, .agg (eD (eInstr p1))] (H_Checker p0) [] [1000] (fun a b => a = (.tup [] : LV) ∧ b = H_Checker r)) ∧ (∀ (p0 : Checker) (p1 : List Instr) (r : Checker), g_valid_checker_list k p0 p1 = some r → CM E 39 [.p 1000 0, .d (sVI p1)] (H_Checker p0) [] [1000] (fun a b => a = (.tup [] : LV) ∧ b = H_Checker r)) := by
  intro k
  induction k with
  | zero => exact ⟨fun _ _ _ _ _ H => (by cases H), fun _ _ _ H => (by cases H), fun _ _ _ H => (by cases H)⟩
  | succ k ih =>
    obtain ⟨i0, i1, i2⟩ := ih
    exact ⟨s_valid_checker_inner k i0 i1 i2, s_valid_checker_control k i0 i1 i2, s_valid_checker_list k i0 i1 i2⟩
theorem c_valid_checker_list (k : Nat) : ∀ (p0 : Checker) (p1 : List Instr) (r : Checker), g_valid_checker_list k p0 p1 = some r → CM E 39 [.p 1000 0, .d (sVI p1)] (H_Checker p0) [] [1000] (fun a b => a = (.tup [] : LV) ∧ b = H_Checker r) := (c_scc_valid_checker_inner k).2.2

end Go.Proofs.YtablleokoifolaaGreatDoor

/- Plain functions and their contracts. Written by a program of this claim set (g2.py). -/
set_option linter.unusedVariables false
set_option maxRecDepth 100000
set_option maxHeartbeats 4000000
namespace Go.Proofs.YtablleokoifolaaGreatDoor
open Go

/- mandrel/valid.check -/
def g_valid_check (K : Nat) (p0 : Mdl) (p1 : Int) : Option (Option Checker × Option Int) := ((if (decide (p1 < (0 : Int))) = true then some true else (if (decide (p1 ≥ (p0.funcs.length : Int))) = true then some true else gd (0 ≤ p1 ∧ p1 < (p0.funcs.length : Int)) ((if (decide ((((p0.funcs.getD p1.toNat default)).type_) ≥ (IntKind.wrap .u32 (p0.types.length : Int)))) = true then some true else ((g_valid_kinds K p0).bind fun x2 => some (!x2))))))).bind (fun j4 => (if j4 = true then some (none, (some 1)) else gd (0 ≤ p1 ∧ p1 < (p0.funcs.length : Int)) (gd (0 ≤ (((p0.funcs.getD p1.toNat default)).type_) ∧ (((p0.funcs.getD p1.toNat default)).type_) < (p0.types.length : Int)) (gd (0 ≤ p1 ∧ p1 < (p0.funcs.length : Int)) (((g_slices_Concat_api_Kind_api_Kind K ([((p0.types.getD (((p0.funcs.getD p1.toNat default)).type_).toNat default)).params, ((p0.funcs.getD p1.toNat default)).locals] : List (List Int))).bind fun x8 => gd (0 ≤ p1 ∧ p1 < (p0.funcs.length : Int)) (((g_valid_checker_list K (Checker.mk p0 (p0.types.getD (((p0.funcs.getD p1.toNat default)).type_).toNat default) x8 ([] : List Int) ([(Frame.mk 0 false false)] : List Frame) ([((p0.types.getD (((p0.funcs.getD p1.toNat default)).type_).toNat default)).result] : List Int) 0 false) (((p0.funcs.getD p1.toNat default)).body)).bind fun x11 => ((g_valid_checker_take x11 (((p0.types.getD (((p0.funcs.getD p1.toNat default)).type_).toNat default)).result)).bind fun x13 => (if (x13.2.bad || (decide ((x13.2.stack.length : Int) > (0 : Int)))) = true then some (none, (some 7)) else some ((some x13.2), none)))))))))))

theorem c_valid_check (K : Nat) (p0 : Mdl) (p1 : Int) (r : Option Checker × Option Int) (H : g_valid_check K p0 p1 = some r) : CF E 24 [.agg (eMdl p0), .int .i64 p1] (.tup [.pt (r.1.map eChecker), .err 45 r.2]) := by
  refine cf_of (A := F_valid_check) fn_valid_check rfl fun fr => ?_
  unfold g_valid_check at H
  refine AW2.seq ?_
  refine AW2.rg [.k 2] [1, 2] [] [.k 2] ⟨[(1, .d (.int .i64 p1)), (2, .p 2 0)], [(2, .st false (eD (eMdl p0)))]⟩ (And.intro True.intro True.intro) (by kernel_rfl) ?_
  refine AW2.seq ?_
  refine AW2.seq ?_
  obtain ⟨j4, H17, H⟩ := bind_some H
  refine AW2.reg [] rfl (YW.to ⟨[(1, .d (.int .i64 p1)), (2, .p 2 0), (34, .d (.bool j4))], [(2, .st false (eD (eMdl p0)))]⟩ ?qh18 ?h18)
  case h18 =>
    have H := H17
    rcases bT (decide (p1 < (0 : Int))) with hc1 | hc1
    · replace H := ite_t H hc1
      have H := Option.some.inj H
      subst H
      exact YW.fin [(10, true), (17, true), (30, true)] [] [1, 2, 34] [] [.k 2] _ (And.intro (And.intro hc1 (And.intro hc1 (And.intro hc1 (And.intro hc1 (And.intro hc1 (And.intro hc1 (And.intro (Eq.refl true) (And.intro (Eq.refl true) (And.intro (Eq.refl true) (And.intro (Eq.refl true) (And.intro (Eq.refl true) (And.intro (Eq.refl true) (And.intro (Eq.refl true) (And.intro (Eq.refl true) (And.intro (Eq.refl true) (And.intro (Eq.refl true) (And.intro (Eq.refl true) (And.intro (Eq.refl true) (And.intro (Eq.refl true) (And.intro (Eq.refl true) (And.intro (Eq.refl true) (And.intro (Eq.refl true) True.intro)))))))))))))))))))))) True.intro) (by kernel_rfl) rfl
    · replace H := ite_f H hc1
      rcases bT (decide (p1 ≥ (p0.funcs.length : Int))) with hc2 | hc2
      · replace H := ite_t H hc2
        have H := Option.some.inj H
        subst H
        exact YW.fin [(10, false), (17, true), (30, true)] [] [1, 2, 34] [] [.k 2] _ (And.intro (And.intro hc1 (And.intro hc1 (And.intro hc1 (And.intro hc1 (And.intro hc1 (And.intro hc1 (And.intro hc2 (And.intro hc2 (And.intro hc2 (And.intro hc2 (And.intro hc2 (And.intro hc2 (And.intro hc2 (And.intro hc2 (And.intro hc2 (And.intro hc2 (And.intro hc2 (And.intro hc2 (And.intro (Eq.refl true) (And.intro (Eq.refl true) (And.intro (Eq.refl true) (And.intro (Eq.refl true) True.intro)))))))))))))))))))))) True.intro) (by kernel_rfl) rfl
      · replace H := ite_f H hc2
        obtain ⟨h1, H⟩ := gd_some H
        rcases bT (decide ((((p0.funcs.getD p1.toNat default)).type_) ≥ (IntKind.wrap .u32 (p0.types.length : Int)))) with hc3 | hc3
        · replace H := ite_t H hc3
          have H := Option.some.inj H
          subst H
          exact YW.fin [(10, false), (17, false), (30, true)] [] [1, 2, 34] [] [.k 2] _ (And.intro (And.intro hc1 (And.intro hc1 (And.intro hc1 (And.intro hc1 (And.intro hc1 (And.intro hc1 (And.intro hc2 (And.intro hc2 (And.intro hc2 (And.intro hc2 (And.intro h1 (And.intro hc2 (And.intro hc2 (And.intro hc2 (And.intro hc2 (And.intro hc2 (And.intro hc2 (And.intro hc2 (And.intro hc2 (And.intro hc3 (And.intro hc3 (And.intro hc3 (And.intro hc3 True.intro))))))))))))))))))))))) True.intro) (by kernel_rfl) rfl
        · replace H := ite_f H hc3
          obtain ⟨x2, hx3, H⟩ := bind_some H
          have H := Option.some.inj H
          subst H
          exact YW.fin [(10, false), (17, false), (30, false)] [.r (.bool x2)] [1, 2, 34] [] [.k 2] _ (And.intro (And.intro hc1 (And.intro hc1 (And.intro hc1 (And.intro hc1 (And.intro hc1 (And.intro hc1 (And.intro hc2 (And.intro hc2 (And.intro hc2 (And.intro hc2 (And.intro h1 (And.intro hc2 (And.intro hc2 (And.intro hc2 (And.intro hc2 (And.intro hc2 (And.intro hc2 (And.intro hc2 (And.intro hc2 (And.intro hc3 (And.intro hc3 (And.intro (c_valid_kinds K p0 x2 hx3) (And.intro hc3 (And.intro hc3 True.intro)))))))))))))))))))))))) True.intro) (by kernel_rfl) rfl
  refine AW2.cond (b := j4) rfl (fun hc => ?_) (fun hc => ?_)
  · replace H := ite_t H hc
    refine AW2.seq ?_
    refine AW2.rg [] [4, 5] [] [] ⟨[(4, .d .nilp), (5, .d (.err 45 (some 1)))], []⟩ (And.intro True.intro True.intro) (by kernel_rfl) ?_
    refine AW2.ret ?_
    have H := Option.some.inj H
    subst H
    exact retP_mk2 True.intro (by kernel_rfl)
  · replace H := ite_f H hc
    refine AW2.skip ?_
    refine AW2.seq ?_
    obtain ⟨h5, H⟩ := gd_some H
    obtain ⟨h6, H⟩ := gd_some H
    refine AW2.rg [.k 6] [1, 2, 6] [] [.k 2, .k 6] ⟨[(1, .d (.int .i64 p1)), (2, .p 2 0), (6, .p 6 0)], [(2, .st false (eD (eMdl p0))), (6, .st false (eD (eTyp (p0.types.getD (((p0.funcs.getD p1.toNat default)).type_).toNat default))))]⟩ (And.intro (And.intro h5 (And.intro h6 True.intro)) True.intro) (by kernel_rfl) ?_
    refine AW2.seq ?_
    obtain ⟨h7, H⟩ := gd_some H
    obtain ⟨x8, hx9, H⟩ := bind_some H
    refine AW2.rg [.sb ([((p0.types.getD (((p0.funcs.getD p1.toNat default)).type_).toNat default)).params, ((p0.funcs.getD p1.toNat default)).locals] : List (List Int)).length (fl (eL (eI .u8)) ([((p0.types.getD (((p0.funcs.getD p1.toNat default)).type_).toNat default)).params, ((p0.funcs.getD p1.toNat default)).locals] : List (List Int))), .r (sV (eI .u8) x8), .k 1000] [1, 2, 6, 7] [] [.k 2, .k 6, .k 1000] ⟨[(1, .d (.int .i64 p1)), (2, .p 2 0), (6, .p 6 0), (7, .p 1000 0)], [(2, .st false (eD (eMdl p0))), (6, .st false (eD (eTyp (p0.types.getD (((p0.funcs.getD p1.toNat default)).type_).toNat default)))), (1000, .st false [.d (sV eTyp p0.types), .d (sV eFnc p0.funcs), .d (sV eLim p0.tables), .d (sV eLim p0.memories), .d (sV eGlo p0.globals), .d (sV eXpo p0.exports), .d (sV eEle p0.elems), .d (sV eDat p0.datas), .d (sV (eI .u8) (((p0.types.getD (((p0.funcs.getD p1.toNat default)).type_).toNat default)).params)), .d (.int .u8 (((p0.types.getD (((p0.funcs.getD p1.toNat default)).type_).toNat default)).result)), .d (sV (eI .u8) x8), .d .nils, .d .nils, .d .nils, .d (.int .i64 0), .d (.bool false)])]⟩ (And.intro (And.intro h7 (And.intro (litF (eL (eI .u8)) ([((p0.types.getD (((p0.funcs.getD p1.toNat default)).type_).toNat default)).params, ((p0.funcs.getD p1.toNat default)).locals] : List (List Int))) (And.intro (c_slices_Concat_api_Kind_api_Kind K ([((p0.types.getD (((p0.funcs.getD p1.toNat default)).type_).toNat default)).params, ((p0.funcs.getD p1.toNat default)).locals] : List (List Int)) x8 hx9) True.intro))) True.intro) (by kernel_rfl) ?_
    refine AW2.seq ?_
    refine AW2.reg [(1000, 0, 12)] (by kernel_rfl) (YW.fin [] [.ks true 1002 ([(Frame.mk 0 false false)] : List Frame).length (fl eFrame ([(Frame.mk 0 false false)] : List Frame)), .ks true 1003 ([((p0.types.getD (((p0.funcs.getD p1.toNat default)).type_).toNat default)).result] : List Int).length (fl (eI .u8) ([((p0.types.getD (((p0.funcs.getD p1.toNat default)).type_).toNat default)).result] : List Int))] [1, 2, 6, 7] [] [.k 2, .k 6, .k 1000, .k 1002, .k 1003] ⟨[(1, .d (.int .i64 p1)), (2, .p 2 0), (6, .p 6 0), (7, .p 1000 0)], [(2, .st false (eD (eMdl p0))), (6, .st false (eD (eTyp (p0.types.getD (((p0.funcs.getD p1.toNat default)).type_).toNat default)))), (1000, .st false [.d (sV eTyp p0.types), .d (sV eFnc p0.funcs), .d (sV eLim p0.tables), .d (sV eLim p0.memories), .d (sV eGlo p0.globals), .d (sV eXpo p0.exports), .d (sV eEle p0.elems), .d (sV eDat p0.datas), .d (sV (eI .u8) (((p0.types.getD (((p0.funcs.getD p1.toNat default)).type_).toNat default)).params)), .d (.int .u8 (((p0.types.getD (((p0.funcs.getD p1.toNat default)).type_).toNat default)).result)), .d (sV (eI .u8) x8), .d .nils, .ls 1002 0 ([(Frame.mk 0 false false)] : List Frame).length, .ls 1003 0 ([((p0.types.getD (((p0.funcs.getD p1.toNat default)).type_).toNat default)).result] : List Int).length, .d (.int .i64 0), .d (.bool false)]), (1002, .sl false 3 ([(Frame.mk 0 false false)] : List Frame).length (fl eFrame ([(Frame.mk 0 false false)] : List Frame))), (1003, .sl false 1 ([((p0.types.getD (((p0.funcs.getD p1.toNat default)).type_).toNat default)).result] : List Int).length (fl (eI .u8) ([((p0.types.getD (((p0.funcs.getD p1.toNat default)).type_).toNat default)).result] : List Int)))]⟩ (And.intro (And.intro (litK eFrame ([(Frame.mk 0 false false)] : List Frame) (fun _ => rfl)) (And.intro (litK (eI .u8) ([((p0.types.getD (((p0.funcs.getD p1.toNat default)).type_).toNat default)).result] : List Int) (fun _ => rfl)) True.intro)) True.intro) (by kernel_rfl) ?_)
    refine AW2.seq ?_
    refine AW2.cv [.c 1000 11 1001 1 (fl (eI .u8) ([] : List Int))] [1, 2, 6, 7] [] [.k 2, .k 6, .k 1000, .k 1001, .k 1002, .k 1003] ⟨[(1, .d (.int .i64 p1)), (2, .p 2 0), (6, .p 6 0), (7, .p 1000 0)], [(2, .st false (eD (eMdl p0))), (6, .st false (eD (eTyp (p0.types.getD (((p0.funcs.getD p1.toNat default)).type_).toNat default))))] ++ H_Checker (Checker.mk p0 (p0.types.getD (((p0.funcs.getD p1.toNat default)).type_).toNat default) x8 ([] : List Int) ([(Frame.mk 0 false false)] : List Frame) ([((p0.types.getD (((p0.funcs.getD p1.toNat default)).type_).toNat default)).result] : List Int) 0 false)⟩ True.intro (by kernel_rfl) ?_
    obtain ⟨h10, H⟩ := gd_some H
    obtain ⟨x11, hx12, H⟩ := bind_some H
    refine AW2.rg [.c [1000, 1001, 1002, 1003] [] [1000] (.tup []) (H_Checker x11)] [6, 7] [] [.k 6, .k 1000, .k 1001, .k 1002, .k 1003] ⟨[(6, .p 6 0), (7, .p 1000 0)], [(6, .st false (eD (eTyp (p0.types.getD (((p0.funcs.getD p1.toNat default)).type_).toNat default))))] ++ H_Checker x11⟩ (And.intro (And.intro h10 (And.intro (c_valid_checker_list K (Checker.mk p0 (p0.types.getD (((p0.funcs.getD p1.toNat default)).type_).toNat default) x8 ([] : List Int) ([(Frame.mk 0 false false)] : List Frame) ([((p0.types.getD (((p0.funcs.getD p1.toNat default)).type_).toNat default)).result] : List Int) 0 false) (((p0.funcs.getD p1.toNat default)).body) x11 hx12) True.intro)) True.intro) (by kernel_rfl) ?_
    refine AW2.seq ?_
    obtain ⟨x13, hx14, H⟩ := bind_some H
    refine AW2.rg [.c [1000, 1001, 1002, 1003] [] [1000] (.d (.int .u8 x13.1)) (H_Checker x13.2)] [7] [] [.k 1000, .k 1001, .k 1002, .k 1003] ⟨[(7, .p 1000 0)], H_Checker x13.2⟩ (And.intro (And.intro (c_valid_checker_take x11 (((p0.types.getD (((p0.funcs.getD p1.toNat default)).type_).toNat default)).result) x13 hx14) True.intro) True.intro) (by kernel_rfl) ?_
    refine AW2.seq ?_
    refine AW2.seq ?_
    refine AW2.reg [] rfl (YW.to ⟨[(7, .p 1000 0), (94, .d (.bool (x13.2.bad || (decide ((x13.2.stack.length : Int) > (0 : Int))))))], H_Checker x13.2⟩ ?qh15 ?h15)
    case h15 =>
      rcases bT x13.2.bad with hc1 | hc1
      · exact YW.fin [(87, true)] [] [7, 94] [(94, .d (.bool (x13.2.bad || (decide ((x13.2.stack.length : Int) > (0 : Int))))))] [.k 1000, .k 1001, .k 1002, .k 1003] _ (And.intro (And.intro hc1 (And.intro hc1 (And.intro hc1 (And.intro hc1 (And.intro hc1 (And.intro hc1 (And.intro hc1 True.intro))))))) (And.intro (ovB (orT (b := (decide ((x13.2.stack.length : Int) > (0 : Int)))) hc1)) True.intro)) (by kernel_rfl) rfl
      · exact YW.fin [(87, false)] [] [7, 94] [(94, .d (.bool (x13.2.bad || (decide ((x13.2.stack.length : Int) > (0 : Int))))))] [.k 1000, .k 1001, .k 1002, .k 1003] _ (And.intro (And.intro hc1 (And.intro hc1 (And.intro hc1 (And.intro hc1 (And.intro hc1 (And.intro hc1 (And.intro hc1 True.intro))))))) (And.intro (ovB (Eq.trans (orF (b := (decide ((x13.2.stack.length : Int) > (0 : Int)))) hc1) (Eq.refl (decide ((x13.2.stack.length : Int) > (0 : Int)))))) True.intro)) (by kernel_rfl) rfl
    refine AW2.cond (b := (x13.2.bad || (decide ((x13.2.stack.length : Int) > (0 : Int))))) rfl (fun hc => ?_) (fun hc => ?_)
    · replace H := ite_t H hc
      refine AW2.seq ?_
      refine AW2.rg [] [4, 5] [] [] ⟨[(4, .d .nilp), (5, .d (.err 45 (some 7)))], []⟩ (And.intro True.intro True.intro) (by kernel_rfl) ?_
      refine AW2.ret ?_
      have H := Option.some.inj H
      subst H
      exact retP_mk2 True.intro (by kernel_rfl)
    · replace H := ite_f H hc
      refine AW2.skip ?_
      refine AW2.seq ?_
      refine AW2.rg [] [4, 5] [] [.k 1000, .k 1001, .k 1002, .k 1003] ⟨[(4, .p 1000 0), (5, .d .nili)], H_Checker x13.2⟩ (And.intro True.intro True.intro) (by kernel_rfl) ?_
      refine AW2.ret ?_
      have H := Option.some.inj H
      subst H
      exact retP_mk2 (And.intro (Nat.le_refl x13.2.stack.length) (And.intro (dfl (eI .u8) (dep_eI .u8) x13.2.stack) (And.intro (Nat.le_refl x13.2.frames.length) (And.intro (dfl eFrame dep_eFrame x13.2.frames) (And.intro (Nat.le_refl x13.2.labels.length) (And.intro (dfl (eI .u8) (dep_eI .u8) x13.2.labels) True.intro)))))) (by kernel_rfl)

/- mandrel/valid.Body -/
def g_valid_Body (K : Nat) (p0 : Mdl) (p1 : Int) : Option (Option Int) := ((g_valid_check K p0 p1).bind fun x1 => some x1.2)

theorem c_valid_Body (K : Nat) (p0 : Mdl) (p1 : Int) (r : Option Int) (H : g_valid_Body K p0 p1 = some r) : CF E 6 [.agg (eMdl p0), .int .i64 p1] (.err 45 r) := by
  refine cf_of (A := F_valid_Body) fn_valid_Body rfl fun fr => ?_
  unfold g_valid_Body at H
  refine AW2.seq ?_
  refine AW2.rg [.k 2] [1, 2] [] [.k 2] ⟨[(1, .d (.int .i64 p1)), (2, .p 2 0)], [(2, .st false (eD (eMdl p0)))]⟩ (And.intro True.intro True.intro) (by kernel_rfl) ?_
  refine AW2.seq ?_
  obtain ⟨x1, hx2, H⟩ := bind_some H
  refine AW2.rg [.r (.tup [.pt (x1.1.map eChecker), .err 45 x1.2])] [6] [] [] ⟨[(6, .d (.err 45 x1.2))], []⟩ (And.intro (And.intro (c_valid_check K p0 p1 x1 hx2) True.intro) True.intro) (by kernel_rfl) ?_
  refine AW2.seq ?_
  refine AW2.rg [] [4] [] [] ⟨[(4, .d (.err 45 x1.2))], []⟩ (And.intro True.intro True.intro) (by kernel_rfl) ?_
  refine AW2.ret ?_
  have H := Option.some.inj H
  subst H
  exact retP_mk2 True.intro (by kernel_rfl)

end Go.Proofs.YtablleokoifolaaGreatDoor












/- Plain functions and their contracts. Written by a program of this claim set (g2.py). -/
set_option linter.unusedVariables false
set_option maxRecDepth 100000
set_option maxHeartbeats 4000000
namespace Go.Proofs.YtablleokoifolaaGreatDoor
open Go

/- mandrel/mandrellaw08.scene -/
def g_law08_scene (p0 : List Int) (p1 : Int) (p2 : List Instr) : Option (Mdl) := some (Mdl.mk ([(Typ.mk p0 p1), (Typ.mk ([127] : List Int) 126), (Typ.mk ([] : List Int) 0)] : List Typ) ([(Fnc.mk 0 ([127, 126] : List Int) p2), (Fnc.mk 1 ([] : List Int) ([(Instr.mk 66 0 0 0 0 ([] : List Instr) ([] : List Instr) ([] : List Int))] : List Instr)), (Fnc.mk 2 ([] : List Int) ([] : List Instr))] : List Fnc) ([(Lim.mk 4 false 0)] : List Lim) ([(Lim.mk 1 false 0)] : List Lim) ([(Glo.mk 127 true (Instr.mk 65 0 0 0 0 ([] : List Instr) ([] : List Instr) ([] : List Int))), (Glo.mk 126 false (Instr.mk 66 0 0 0 0 ([] : List Instr) ([] : List Instr) ([] : List Int)))] : List Glo) ([] : List Xpo) ([] : List Ele) ([] : List Dat))

theorem c_law08_scene (p0 : List Int) (p1 : Int) (p2 : List Instr) (r : Mdl) (H : g_law08_scene p0 p1 p2 = some r) : CF E 11 [sV (eI .u8) p0, .int .u8 p1, sVI p2] (.agg (eMdl r)) := by
  refine cf_of (A := F_law08_scene) fn_law08_scene rfl fun fr => ?_
  unfold g_law08_scene at H
  refine AW2.seq ?_
  refine AW2.rg [.k 6] [0, 1, 2, 6] [] [.k 6] ⟨[(0, .d (sV (eI .u8) p0)), (1, .d (.int .u8 p1)), (2, .d (sVI p2)), (6, .p 6 0)], [(6, .st false [.d .nils, .d .nils, .d .nils, .d .nils, .d .nils, .d .nils, .d .nils, .d .nils])]⟩ (And.intro True.intro True.intro) (by kernel_rfl) ?_
  refine AW2.seq ?_
  refine AW2.rg [.k 7] [0, 1, 2, 6, 7] [] [.k 6, .k 7] ⟨[(0, .d (sV (eI .u8) p0)), (1, .d (.int .u8 p1)), (2, .d (sVI p2)), (6, .p 6 0), (7, .p 7 0)], [(6, .st false [.d .nils, .d .nils, .d .nils, .d .nils, .d .nils, .d .nils, .d .nils, .d .nils]), (7, .st false [.d (.int .u8 65), .d (.int .i64 0), .d (.int .u32 0), .d (.int .u32 0), .d (.int .u8 0), .d .nils, .d .nils, .d .nils])]⟩ (And.intro True.intro True.intro) (by kernel_rfl) ?_
  refine AW2.seq ?_
  refine AW2.rg [.k 8] [0, 1, 2, 6, 7, 8] [] [.k 6, .k 7, .k 8] ⟨[(0, .d (sV (eI .u8) p0)), (1, .d (.int .u8 p1)), (2, .d (sVI p2)), (6, .p 6 0), (7, .p 7 0), (8, .p 8 0)], [(6, .st false [.d .nils, .d .nils, .d .nils, .d .nils, .d .nils, .d .nils, .d .nils, .d .nils]), (7, .st false [.d (.int .u8 65), .d (.int .i64 0), .d (.int .u32 0), .d (.int .u32 0), .d (.int .u8 0), .d .nils, .d .nils, .d .nils]), (8, .st false [.d (.int .u8 66), .d (.int .i64 0), .d (.int .u32 0), .d (.int .u32 0), .d (.int .u8 0), .d .nils, .d .nils, .d .nils])]⟩ (And.intro True.intro True.intro) (by kernel_rfl) ?_
  refine AW2.seq ?_
  refine AW2.rg [.sb ([127] : List Int).length (fl (eI .u8) ([127] : List Int)), .sb ([(Typ.mk p0 p1), (Typ.mk ([127] : List Int) 126), (Typ.mk ([] : List Int) 0)] : List Typ).length (fl eTyp ([(Typ.mk p0 p1), (Typ.mk ([127] : List Int) 126), (Typ.mk ([] : List Int) 0)] : List Typ)), .sb ([127, 126] : List Int).length (fl (eI .u8) ([127, 126] : List Int)), .sb ([(Instr.mk 66 0 0 0 0 ([] : List Instr) ([] : List Instr) ([] : List Int))] : List Instr).length (flI ([(Instr.mk 66 0 0 0 0 ([] : List Instr) ([] : List Instr) ([] : List Int))] : List Instr)), .sb ([(Fnc.mk 0 ([127, 126] : List Int) p2), (Fnc.mk 1 ([] : List Int) ([(Instr.mk 66 0 0 0 0 ([] : List Instr) ([] : List Instr) ([] : List Int))] : List Instr)), (Fnc.mk 2 ([] : List Int) ([] : List Instr))] : List Fnc).length (fl eFnc ([(Fnc.mk 0 ([127, 126] : List Int) p2), (Fnc.mk 1 ([] : List Int) ([(Instr.mk 66 0 0 0 0 ([] : List Instr) ([] : List Instr) ([] : List Int))] : List Instr)), (Fnc.mk 2 ([] : List Int) ([] : List Instr))] : List Fnc)), .sb ([(Lim.mk 4 false 0)] : List Lim).length (fl eLim ([(Lim.mk 4 false 0)] : List Lim)), .sb ([(Lim.mk 1 false 0)] : List Lim).length (fl eLim ([(Lim.mk 1 false 0)] : List Lim)), .sb ([(Glo.mk 127 true (Instr.mk 65 0 0 0 0 ([] : List Instr) ([] : List Instr) ([] : List Int))), (Glo.mk 126 false (Instr.mk 66 0 0 0 0 ([] : List Instr) ([] : List Instr) ([] : List Int)))] : List Glo).length (fl eGlo ([(Glo.mk 127 true (Instr.mk 65 0 0 0 0 ([] : List Instr) ([] : List Instr) ([] : List Int))), (Glo.mk 126 false (Instr.mk 66 0 0 0 0 ([] : List Instr) ([] : List Instr) ([] : List Int)))] : List Glo))] [6] [] [.k 6] ⟨[(6, .p 6 0)], [(6, .st false [.d (sV eTyp ([(Typ.mk p0 p1), (Typ.mk ([127] : List Int) 126), (Typ.mk ([] : List Int) 0)] : List Typ)), .d (sV eFnc ([(Fnc.mk 0 ([127, 126] : List Int) p2), (Fnc.mk 1 ([] : List Int) ([(Instr.mk 66 0 0 0 0 ([] : List Instr) ([] : List Instr) ([] : List Int))] : List Instr)), (Fnc.mk 2 ([] : List Int) ([] : List Instr))] : List Fnc)), .d (sV eLim ([(Lim.mk 4 false 0)] : List Lim)), .d (sV eLim ([(Lim.mk 1 false 0)] : List Lim)), .d (sV eGlo ([(Glo.mk 127 true (Instr.mk 65 0 0 0 0 ([] : List Instr) ([] : List Instr) ([] : List Int))), (Glo.mk 126 false (Instr.mk 66 0 0 0 0 ([] : List Instr) ([] : List Instr) ([] : List Int)))] : List Glo)), .d .nils, .d .nils, .d .nils])]⟩ (And.intro (And.intro (litF (eI .u8) ([127] : List Int)) (And.intro (litF eTyp ([(Typ.mk p0 p1), (Typ.mk ([127] : List Int) 126), (Typ.mk ([] : List Int) 0)] : List Typ)) (And.intro (litF (eI .u8) ([127, 126] : List Int)) (And.intro (litI ([(Instr.mk 66 0 0 0 0 ([] : List Instr) ([] : List Instr) ([] : List Int))] : List Instr)) (And.intro (litF eFnc ([(Fnc.mk 0 ([127, 126] : List Int) p2), (Fnc.mk 1 ([] : List Int) ([(Instr.mk 66 0 0 0 0 ([] : List Instr) ([] : List Instr) ([] : List Int))] : List Instr)), (Fnc.mk 2 ([] : List Int) ([] : List Instr))] : List Fnc)) (And.intro (litF eLim ([(Lim.mk 4 false 0)] : List Lim)) (And.intro (litF eLim ([(Lim.mk 1 false 0)] : List Lim)) (And.intro (litF eGlo ([(Glo.mk 127 true (Instr.mk 65 0 0 0 0 ([] : List Instr) ([] : List Instr) ([] : List Int))), (Glo.mk 126 false (Instr.mk 66 0 0 0 0 ([] : List Instr) ([] : List Instr) ([] : List Int)))] : List Glo)) True.intro)))))))) True.intro) (by kernel_rfl) ?_
  refine AW2.ret ?_
  have H := Option.some.inj H
  subst H
  exact retP_mk2 True.intro (by kernel_rfl)

/- mandrel/mandrellaw08.ValidDead -/
def g_law08_ValidDead_l0 : Nat → (List Bool) → (List Instr) → Int → Int → Option (Int × (List Instr))
  | 0, _, _, _, _ => none
  | k+1, p0, a23, a24, a25 => (if ((decide (a25 < (p0.length : Int))) && (decide (a25 < (60 : Int)))) = true then (gd (0 ≤ a25 ∧ a25 < (p0.length : Int)) ((if (p0.getD a25.toNat default) = true then gd ((a23.length + 1) * 104 ≤ 140737488355328) (some ((wI (a24 + 1)), (a23 ++ ([(Instr.mk 65 1 0 0 0 ([] : List Instr) ([] : List Instr) ([] : List Int))] : List Instr)))) else gd ((a23.length + 1) * 104 ≤ 140737488355328) (some ((mxI 0 (wI (a24 - 1))), (a23 ++ ([(Instr.mk 26 0 0 0 0 ([] : List Instr) ([] : List Instr) ([] : List Int))] : List Instr))))))).bind (fun | (j26, j27) => g_law08_ValidDead_l0 k p0 j27 j26 (wI (a25 + 1))) else some (a24, a23))

def g_law08_ValidDead (K : Nat) (p0 : List Bool) (p1 : Bool) : Option (Bool) := ((if p1 = true then some 126 else some 127)).bind (fun j1 => (g_law08_ValidDead_l0 K p0 ([(Instr.mk 0 0 0 0 0 ([] : List Instr) ([] : List Instr) ([] : List Int))] : List Instr) 0 0).bind (fun | (j2, j3) => ((g_law08_scene ([] : List Int) j1 j3).bind fun x4 => ((g_law08_giveModule K x4).bind fun x6 => ((g_valid_Body K x6 0).bind fun x8 => ((if (j2 == (0 : Int)) = true then (if (x8.isNone == true) = true then ((g_law08_sure).bind fun x10 => some x10) else some false) else (if (j2 == (1 : Int)) = true then (if (x8.isNone == (!p1)) = true then ((g_law08_sure).bind fun x12 => some x12) else some false) else (if (x8.isNone == false) = true then ((g_law08_sure).bind fun x14 => some x14) else some false)))).bind (fun j16 => some j16))))))

theorem c_law08_ValidDead (K : Nat) (p0 : List Bool) (p1 : Bool) (r : Bool) (H : g_law08_ValidDead K p0 p1 = some r) : CF E 13 [sV eB p0, .bool p1] (.bool r) := by
  refine cf_of (A := F_law08_ValidDead) fn_law08_ValidDead rfl fun fr => ?_
  unfold g_law08_ValidDead at H
  refine AW2.seq ?_
  refine AW2.rg [] [0, 1] [] [] ⟨[(0, .d (sV eB p0)), (1, .d (.bool p1))], []⟩ (And.intro True.intro True.intro) (by kernel_rfl) ?_
  refine AW2.seq ?_
  refine AW2.rg [] [0, 1, 5] [] [] ⟨[(0, .d (sV eB p0)), (1, .d (.bool p1)), (5, .d (.int .u8 127))], []⟩ (And.intro True.intro True.intro) (by kernel_rfl) ?_
  obtain ⟨j1, H37, H⟩ := bind_some H
  refine AW2.mid ⟨[(0, .d (sV eB p0)), (1, .d (.bool p1)), (5, .d (.int .u8 j1))], []⟩ ?_ ?_
  · refine AW2.seq ?_
    refine AW2.rg [.ks true 13 ([(Instr.mk 0 0 0 0 0 ([] : List Instr) ([] : List Instr) ([] : List Int))] : List Instr).length (flI ([(Instr.mk 0 0 0 0 0 ([] : List Instr) ([] : List Instr) ([] : List Int))] : List Instr))] [0, 1, 5, 6] [] [.k 13] ⟨[(0, .d (sV eB p0)), (1, .d (.bool p1)), (5, .d (.int .u8 j1)), (6, .ls 13 0 ([(Instr.mk 0 0 0 0 0 ([] : List Instr) ([] : List Instr) ([] : List Int))] : List Instr).length)], [(13, .sl false 8 ([(Instr.mk 0 0 0 0 0 ([] : List Instr) ([] : List Instr) ([] : List Int))] : List Instr).length (flI ([(Instr.mk 0 0 0 0 0 ([] : List Instr) ([] : List Instr) ([] : List Int))] : List Instr)))]⟩ (And.intro (And.intro (litKI ([(Instr.mk 0 0 0 0 0 ([] : List Instr) ([] : List Instr) ([] : List Int))] : List Instr)) True.intro) True.intro) (by kernel_rfl) ?_
    refine AW2.seq ?_
    refine AW2.rg [] [0, 1, 5, 6, 7] [] [.k 13] ⟨[(0, .d (sV eB p0)), (1, .d (.bool p1)), (5, .d (.int .u8 j1)), (6, .ls 13 0 ([(Instr.mk 0 0 0 0 0 ([] : List Instr) ([] : List Instr) ([] : List Int))] : List Instr).length), (7, .d (.int .i64 0))], [(13, .sl false 8 ([(Instr.mk 0 0 0 0 0 ([] : List Instr) ([] : List Instr) ([] : List Int))] : List Instr).length (flI ([(Instr.mk 0 0 0 0 0 ([] : List Instr) ([] : List Instr) ([] : List Int))] : List Instr)))]⟩ (And.intro True.intro True.intro) (by kernel_rfl) ?_
    obtain ⟨v34, H35, H⟩ := bind_some H
    obtain ⟨j2, j3⟩ := v34
    dsimp only at H
    refine AW2.mid ⟨[(1, .d (.bool p1)), (5, .d (.int .u8 j1)), (6, .ls 13 0 j3.length), (7, .d (.int .i64 j2))], [(13, .sl false 8 j3.length (flI j3))]⟩ ?_ ?_
    · refine AW2.seq ?_
      obtain ⟨x4, hx5, H⟩ := bind_some H
      obtain ⟨x6, hx7, H⟩ := bind_some H
      refine AW2.rg [.r (.agg (eMdl x4)), .r (.agg (eMdl x6)), .k 9] [1, 7, 9] [] [.k 9] ⟨[(1, .d (.bool p1)), (7, .d (.int .i64 j2)), (9, .p 9 0)], [(9, .st false (eD (eMdl x6)))]⟩ (And.intro (And.intro (Nat.le_refl j3.length) (And.intro (dflI j3) (And.intro (c_law08_scene ([] : List Int) j1 j3 x4 hx5) (And.intro (c_law08_giveModule K x4 x6 hx7) True.intro)))) True.intro) (by kernel_rfl) ?_
      refine AW2.seq ?_
      obtain ⟨x8, hx9, H⟩ := bind_some H
      refine AW2.rg [.r (.err 45 x8)] [1, 7, 10] [] [] ⟨[(1, .d (.bool p1)), (7, .d (.int .i64 j2)), (10, .d (.err 45 x8))], []⟩ (And.intro (And.intro (c_valid_Body K x6 0 x8 hx9) True.intro) True.intro) (by kernel_rfl) ?_
      refine AW2.seq ?_
      obtain ⟨j16, H18, H⟩ := bind_some H
      refine AW2.reg [] rfl (YW.to ⟨[(4, .d (.bool j16))], []⟩ ?qh19 ?h19)
      case h19 =>
        have H := H18
        rcases bT (j2 == (0 : Int)) with hc1 | hc1
        · replace H := ite_t H hc1
          rcases bT (x8.isNone == true) with hc2 | hc2
          · replace H := ite_t H hc2
            obtain ⟨x10, hx11, H⟩ := bind_some H
            have H := Option.some.inj H
            subst H
            exact YW.fin [(51, true), (60, true)] [.r (.bool x10)] [4] [] [] _ (And.intro (And.intro hc1 (And.intro hc1 (And.intro hc1 (And.intro hc1 (And.intro hc1 (And.intro hc2 (And.intro (c_law08_sure x10 hx11) (And.intro hc2 True.intro)))))))) True.intro) (by kernel_rfl) rfl
          · replace H := ite_f H hc2
            have H := Option.some.inj H
            subst H
            exact YW.fin [(51, true), (60, false)] [] [4] [] [] _ (And.intro (And.intro hc1 (And.intro hc1 (And.intro hc1 (And.intro hc1 (And.intro hc1 (And.intro hc2 (And.intro hc2 True.intro))))))) True.intro) (by kernel_rfl) rfl
        · replace H := ite_f H hc1
          rcases bT (j2 == (1 : Int)) with hc2 | hc2
          · replace H := ite_t H hc2
            rcases bT (x8.isNone == (!p1)) with hc3 | hc3
            · replace H := ite_t H hc3
              obtain ⟨x12, hx13, H⟩ := bind_some H
              have H := Option.some.inj H
              subst H
              exact YW.fin [(51, false), (54, true), (60, true)] [.r (.bool x12)] [4] [] [] _ (And.intro (And.intro hc1 (And.intro hc1 (And.intro hc1 (And.intro hc2 (And.intro hc2 (And.intro hc1 (And.intro hc2 (And.intro hc1 (And.intro hc3 (And.intro (c_law08_sure x12 hx13) (And.intro hc3 True.intro))))))))))) True.intro) (by kernel_rfl) rfl
            · replace H := ite_f H hc3
              have H := Option.some.inj H
              subst H
              exact YW.fin [(51, false), (54, true), (60, false)] [] [4] [] [] _ (And.intro (And.intro hc1 (And.intro hc1 (And.intro hc1 (And.intro hc2 (And.intro hc2 (And.intro hc1 (And.intro hc2 (And.intro hc1 (And.intro hc3 (And.intro hc3 True.intro)))))))))) True.intro) (by kernel_rfl) rfl
          · replace H := ite_f H hc2
            rcases bT (x8.isNone == false) with hc3 | hc3
            · replace H := ite_t H hc3
              obtain ⟨x14, hx15, H⟩ := bind_some H
              have H := Option.some.inj H
              subst H
              exact YW.fin [(51, false), (54, false), (60, true)] [.r (.bool x14)] [4] [] [] _ (And.intro (And.intro hc1 (And.intro hc1 (And.intro hc1 (And.intro hc2 (And.intro hc2 (And.intro hc1 (And.intro hc2 (And.intro hc1 (And.intro hc3 (And.intro (c_law08_sure x14 hx15) (And.intro hc3 True.intro))))))))))) True.intro) (by kernel_rfl) rfl
            · replace H := ite_f H hc3
              have H := Option.some.inj H
              subst H
              exact YW.fin [(51, false), (54, false), (60, false)] [] [4] [] [] _ (And.intro (And.intro hc1 (And.intro hc1 (And.intro hc1 (And.intro hc2 (And.intro hc2 (And.intro hc1 (And.intro hc2 (And.intro hc1 (And.intro hc3 (And.intro hc3 True.intro)))))))))) True.intro) (by kernel_rfl) rfl
      refine AW2.ret ?_
      have H := Option.some.inj H
      subst H
      exact retP_mk2 True.intro (by kernel_rfl)
    · have H := H35
      refine AW2.seq ?_
      refine AW2.rg [] [0, 1, 5, 6, 7, 8] [] [.k 13] ⟨[(0, .d (sV eB p0)), (1, .d (.bool p1)), (5, .d (.int .u8 j1)), (6, .ls 13 0 ([(Instr.mk 0 0 0 0 0 ([] : List Instr) ([] : List Instr) ([] : List Int))] : List Instr).length), (7, .d (.int .i64 0)), (8, .d (.int .i64 0))], [(13, .sl false 8 ([(Instr.mk 0 0 0 0 0 ([] : List Instr) ([] : List Instr) ([] : List Int))] : List Instr).length (flI ([(Instr.mk 0 0 0 0 0 ([] : List Instr) ([] : List Instr) ([] : List Int))] : List Instr)))]⟩ (And.intro True.intro True.intro) (by kernel_rfl) ?_
      refine AW2.block ?_
      refine AW2.lp (σ := (List Instr) × Int × Int) (fun v => ⟨[(0, .d (sV eB p0)), (1, .d (.bool p1)), (5, .d (.int .u8 j1)), (6, .ls 13 0 v.1.length), (7, .d (.int .i64 v.2.1)), (8, .d (.int .i64 v.2.2))], [(13, .sl false 8 v.1.length (flI v.1))]⟩) (fun k v => g_law08_ValidDead_l0 k p0 v.1 v.2.1 v.2.2 = some (j2, j3)) ?_ K (([(Instr.mk 0 0 0 0 0 ([] : List Instr) ([] : List Instr) ([] : List Int))] : List Instr), 0, 0) H
      rintro k ⟨a23, a24, a25⟩ H
      dsimp only at H
      cases k with
      | zero => cases H
      | succ k =>
      unfold g_law08_ValidDead_l0 at H
      refine AW2.seq ?_
      refine AW2.seq ?_
      refine AW2.reg [] rfl (YW.to ⟨[(0, .d (sV eB p0)), (1, .d (.bool p1)), (5, .d (.int .u8 j1)), (6, .ls 13 0 a23.length), (7, .d (.int .i64 a24)), (8, .d (.int .i64 a25)), (21, .d (.bool ((decide (a25 < (p0.length : Int))) && (decide (a25 < (60 : Int))))))], [(13, .sl false 8 a23.length (flI a23))]⟩ ?qh33 ?h33)
      case h33 =>
        rcases bT (decide (a25 < (p0.length : Int))) with hc1 | hc1
        · exact YW.fin [(18, true)] [] [0, 1, 5, 6, 7, 8, 21] [(21, .d (.bool ((decide (a25 < (p0.length : Int))) && (decide (a25 < (60 : Int))))))] [.k 13] _ (And.intro (And.intro hc1 (And.intro hc1 (And.intro hc1 True.intro))) (And.intro (ovB (Eq.trans (andT (b := (decide (a25 < (60 : Int)))) hc1) (Eq.refl (decide (a25 < (60 : Int)))))) True.intro)) (by kernel_rfl) rfl
        · exact YW.fin [(18, false)] [] [0, 1, 5, 6, 7, 8, 21] [(21, .d (.bool ((decide (a25 < (p0.length : Int))) && (decide (a25 < (60 : Int))))))] [.k 13] _ (And.intro (And.intro hc1 (And.intro hc1 (And.intro hc1 True.intro))) (And.intro (ovB (andF (b := (decide (a25 < (60 : Int)))) hc1)) True.intro)) (by kernel_rfl) rfl
      refine AW2.cond (b := ((decide (a25 < (p0.length : Int))) && (decide (a25 < (60 : Int))))) rfl (fun hc => ?_) (fun hc => ?_)
      · replace H := ite_t H hc
        refine AW2.skip ?_
        obtain ⟨v31, H32, H⟩ := bind_some H
        obtain ⟨j26, j27⟩ := v31
        dsimp only at H
        refine AW2.mid ⟨[(0, .d (sV eB p0)), (1, .d (.bool p1)), (5, .d (.int .u8 j1)), (6, .ls 13 0 j27.length), (7, .d (.int .i64 j26)), (8, .d (.int .i64 a25))], [(13, .sl false 8 j27.length (flI j27))]⟩ ?_ ?_
        · refine AW2.rg [] [0, 1, 5, 6, 7, 8] [] [.k 13] ⟨[(0, .d (sV eB p0)), (1, .d (.bool p1)), (5, .d (.int .u8 j1)), (6, .ls 13 0 j27.length), (7, .d (.int .i64 j26)), (8, .d (.int .i64 (wI (a25 + 1))))], [(13, .sl false 8 j27.length (flI j27))]⟩ (And.intro True.intro True.intro) (by kernel_rfl) ?_
          exact ⟨k, (j27, j26, (wI (a25 + 1))), Nat.lt_succ_self k, H, wk_mk [0, 1, 5, 6, 7, 8] [] [.k 13] True.intro (by kernel_rfl)⟩
        · have H := H32
          refine AW2.block ?_
          refine AW2.seq ?_
          obtain ⟨h28, H⟩ := gd_some H
          refine AW2.rg [] [0, 1, 5, 6, 7, 8, 27] [] [.k 13] ⟨[(0, .d (sV eB p0)), (1, .d (.bool p1)), (5, .d (.int .u8 j1)), (6, .ls 13 0 a23.length), (7, .d (.int .i64 a24)), (8, .d (.int .i64 a25)), (27, .d (.bool (p0.getD a25.toNat default)))], [(13, .sl false 8 a23.length (flI a23))]⟩ (And.intro (And.intro h28 True.intro) True.intro) (by kernel_rfl) ?_
          refine AW2.cond (b := (p0.getD a25.toNat default)) rfl (fun hc => ?_) (fun hc => ?_)
          · replace H := ite_t H hc
            refine AW2.seq ?_
            obtain ⟨h29, H⟩ := gd_some H
            refine AW2.rg [.sb ([(Instr.mk 65 1 0 0 0 ([] : List Instr) ([] : List Instr) ([] : List Int))] : List Instr).length (flI ([(Instr.mk 65 1 0 0 0 ([] : List Instr) ([] : List Instr) ([] : List Int))] : List Instr)), .s true (a23 ++ ([(Instr.mk 65 1 0 0 0 ([] : List Instr) ([] : List Instr) ([] : List Int))] : List Instr)).length (flI (a23 ++ ([(Instr.mk 65 1 0 0 0 ([] : List Instr) ([] : List Instr) ([] : List Int))] : List Instr)))] [0, 1, 5, 6, 7, 8] [] [.k 13] ⟨[(0, .d (sV eB p0)), (1, .d (.bool p1)), (5, .d (.int .u8 j1)), (6, .ls 13 0 (a23 ++ ([(Instr.mk 65 1 0 0 0 ([] : List Instr) ([] : List Instr) ([] : List Int))] : List Instr)).length), (7, .d (.int .i64 a24)), (8, .d (.int .i64 a25))], [(13, .sl false 8 (a23 ++ ([(Instr.mk 65 1 0 0 0 ([] : List Instr) ([] : List Instr) ([] : List Int))] : List Instr)).length (flI (a23 ++ ([(Instr.mk 65 1 0 0 0 ([] : List Instr) ([] : List Instr) ([] : List Int))] : List Instr))))]⟩ (And.intro (And.intro (litI ([(Instr.mk 65 1 0 0 0 ([] : List Instr) ([] : List Instr) ([] : List Int))] : List Instr)) (And.intro (Nat.le_refl a23.length) (And.intro h29 (And.intro (appI a23 (Instr.mk 65 1 0 0 0 ([] : List Instr) ([] : List Instr) ([] : List Int)) (flI ([(Instr.mk 65 1 0 0 0 ([] : List Instr) ([] : List Instr) ([] : List Int))] : List Instr)) (flI_eq (l := ([(Instr.mk 65 1 0 0 0 ([] : List Instr) ([] : List Instr) ([] : List Int))] : List Instr)) Nat.zero_lt_one)) True.intro)))) True.intro) (by kernel_rfl) ?_
            refine AW2.rg [] [0, 1, 5, 6, 7, 8] [] [.k 13] ⟨[(0, .d (sV eB p0)), (1, .d (.bool p1)), (5, .d (.int .u8 j1)), (6, .ls 13 0 (a23 ++ ([(Instr.mk 65 1 0 0 0 ([] : List Instr) ([] : List Instr) ([] : List Int))] : List Instr)).length), (7, .d (.int .i64 (wI (a24 + 1)))), (8, .d (.int .i64 a25))], [(13, .sl false 8 (a23 ++ ([(Instr.mk 65 1 0 0 0 ([] : List Instr) ([] : List Instr) ([] : List Int))] : List Instr)).length (flI (a23 ++ ([(Instr.mk 65 1 0 0 0 ([] : List Instr) ([] : List Instr) ([] : List Int))] : List Instr))))]⟩ (And.intro True.intro True.intro) (by kernel_rfl) ?_
            have H := Option.some.inj H
            simp only [Prod.mk.injEq] at H
            obtain ⟨e0, e1⟩ := H
            subst e0
            subst e1
            exact wk_mk [0, 1, 5, 6, 7, 8] [] [.k 13] True.intro (by kernel_rfl)
          · replace H := ite_f H hc
            refine AW2.seq ?_
            obtain ⟨h30, H⟩ := gd_some H
            refine AW2.rg [.sb ([(Instr.mk 26 0 0 0 0 ([] : List Instr) ([] : List Instr) ([] : List Int))] : List Instr).length (flI ([(Instr.mk 26 0 0 0 0 ([] : List Instr) ([] : List Instr) ([] : List Int))] : List Instr)), .s true (a23 ++ ([(Instr.mk 26 0 0 0 0 ([] : List Instr) ([] : List Instr) ([] : List Int))] : List Instr)).length (flI (a23 ++ ([(Instr.mk 26 0 0 0 0 ([] : List Instr) ([] : List Instr) ([] : List Int))] : List Instr)))] [0, 1, 5, 6, 7, 8] [] [.k 13] ⟨[(0, .d (sV eB p0)), (1, .d (.bool p1)), (5, .d (.int .u8 j1)), (6, .ls 13 0 (a23 ++ ([(Instr.mk 26 0 0 0 0 ([] : List Instr) ([] : List Instr) ([] : List Int))] : List Instr)).length), (7, .d (.int .i64 a24)), (8, .d (.int .i64 a25))], [(13, .sl false 8 (a23 ++ ([(Instr.mk 26 0 0 0 0 ([] : List Instr) ([] : List Instr) ([] : List Int))] : List Instr)).length (flI (a23 ++ ([(Instr.mk 26 0 0 0 0 ([] : List Instr) ([] : List Instr) ([] : List Int))] : List Instr))))]⟩ (And.intro (And.intro (litI ([(Instr.mk 26 0 0 0 0 ([] : List Instr) ([] : List Instr) ([] : List Int))] : List Instr)) (And.intro (Nat.le_refl a23.length) (And.intro h30 (And.intro (appI a23 (Instr.mk 26 0 0 0 0 ([] : List Instr) ([] : List Instr) ([] : List Int)) (flI ([(Instr.mk 26 0 0 0 0 ([] : List Instr) ([] : List Instr) ([] : List Int))] : List Instr)) (flI_eq (l := ([(Instr.mk 26 0 0 0 0 ([] : List Instr) ([] : List Instr) ([] : List Int))] : List Instr)) Nat.zero_lt_one)) True.intro)))) True.intro) (by kernel_rfl) ?_
            refine AW2.rg [] [0, 1, 5, 6, 7, 8] [] [.k 13] ⟨[(0, .d (sV eB p0)), (1, .d (.bool p1)), (5, .d (.int .u8 j1)), (6, .ls 13 0 (a23 ++ ([(Instr.mk 26 0 0 0 0 ([] : List Instr) ([] : List Instr) ([] : List Int))] : List Instr)).length), (7, .d (.int .i64 (mxI 0 (wI (a24 - 1))))), (8, .d (.int .i64 a25))], [(13, .sl false 8 (a23 ++ ([(Instr.mk 26 0 0 0 0 ([] : List Instr) ([] : List Instr) ([] : List Int))] : List Instr)).length (flI (a23 ++ ([(Instr.mk 26 0 0 0 0 ([] : List Instr) ([] : List Instr) ([] : List Int))] : List Instr))))]⟩ (And.intro True.intro True.intro) (by kernel_rfl) ?_
            have H := Option.some.inj H
            simp only [Prod.mk.injEq] at H
            obtain ⟨e0, e1⟩ := H
            subst e0
            subst e1
            exact wk_mk [0, 1, 5, 6, 7, 8] [] [.k 13] True.intro (by kernel_rfl)
      · replace H := ite_f H hc
        refine AW2.exit ?_
        have H := Option.some.inj H
        simp only [Prod.mk.injEq] at H
        obtain ⟨e0, e1⟩ := H
        subst e0
        subst e1
        exact wk_mk [1, 5, 6, 7] [] [.k 13] True.intro (by kernel_rfl)
  · have H := H37
    refine AW2.seq ?_
    refine AW2.rg [] [0, 1, 5, 11] [] [] ⟨[(0, .d (sV eB p0)), (1, .d (.bool p1)), (5, .d (.int .u8 127)), (11, .d (.bool p1))], []⟩ (And.intro True.intro True.intro) (by kernel_rfl) ?_
    refine AW2.cond (b := p1) rfl (fun hc => ?_) (fun hc => ?_)
    · replace H := ite_t H hc
      refine AW2.rg [] [0, 1, 5] [] [] ⟨[(0, .d (sV eB p0)), (1, .d (.bool p1)), (5, .d (.int .u8 126))], []⟩ (And.intro True.intro True.intro) (by kernel_rfl) ?_
      have H := Option.some.inj H
      subst H
      exact wk_mk [0, 1, 5] [] [] True.intro (by kernel_rfl)
    · replace H := ite_f H hc
      refine AW2.skip ?_
      have H := Option.some.inj H
      subst H
      exact wk_mk [0, 1, 5] [] [] True.intro (by kernel_rfl)

end Go.Proofs.YtablleokoifolaaGreatDoor


/- Plain facts: loops over lists; the law's copies of its inputs are the inputs. -/
set_option linter.unusedVariables false
set_option linter.unusedSimpArgs false
set_option maxRecDepth 100000
namespace Go.Proofs.YtablleokoifolaaGreatDoor
open Go

theorem wI_nat (i : Nat) (h : i < 140737488355328) : wI ((i : Int) + 1) = ((i + 1 : Nat) : Int) := by
  rw [wI_small (by omega) (by omega)]; omega
theorem takeS {α : Type} [Inhabited α] (l : List α) (i : Nat) (h : i < l.length) : l.take i ++ [l.getD ((i : Int)).toNat default] = l.take (i + 1) := by
  rw [Int.toNat_natCast, List.take_add_one]
  simp [List.getD_eq_getElem?_getD, h]
theorem takeL' {α : Type} (l : List α) (i : Nat) (h : i ≤ l.length) (h' : ¬ i < l.length) : l.take i = l := by
  have : i = l.length := by omega
  subst this; exact List.take_length
theorem dltT {a b : Nat} (h : a < b) : decide ((a : Int) < (b : Int)) = true := decide_eq_true (by omega)
theorem dltF {a b : Nat} (h : ¬ a < b) : ¬ decide ((a : Int) < (b : Int)) = true := fun e => by have := of_decide_eq_true e; omega
theorem getD_mem {α : Type} [Inhabited α] (l : List α) (i : Nat) (h : i < l.length) : l.getD ((i : Int)).toNat default ∈ l := by
  rw [Int.toNat_natCast, List.getD_eq_getElem?_getD, List.getElem?_eq_getElem h]
  exact List.getElem_mem h
theorem tlen {α : Type} (l : List α) (i : Nat) : (l.take i).length ≤ i := by simp; omega

theorem kinds_l0_id (l : List Int) (hl : l.length < 1000000000) : ∀ k (i : Nat), i ≤ l.length → l.length - i < k → g_law08_kinds_l0 k l (l.take i) (i : Int) = some l := by
  intro k
  induction k with
  | zero => intro i _ h; omega
  | succ k ih =>
    intro i h1 h2
    have := tlen l i
    simp only [g_law08_kinds_l0]
    by_cases h : i < l.length
    · rw [if_pos (dltT h), gd_of (by omega), gd_of (by omega), takeS l i h, wI_nat i (by omega)]
      exact ih (i + 1) h (by omega)
    · rw [if_neg (dltF h), takeL' l i h1 h]
theorem kinds_id (K : Nat) (l : List Int) (hl : l.length < 1000000000) (hK : l.length < K) : g_law08_kinds K l = some l := by
  unfold g_law08_kinds
  have := kinds_l0_id l hl K 0 (Nat.zero_le _) (by omega)
  simp only [List.take_zero] at this
  rw [show (0 : Int) = ((0 : Nat) : Int) from rfl, this]; rfl

mutual
/-- How far giving back goes. -/
def wtI : Instr → Nat
  | .mk _ _ _ _ _ b e _ => 3 + wtL b + wtL e
def wtL : List Instr → Nat
  | [] => 1
  | x :: l => wtI x + wtL l
end
theorem wtI_eq (x : Instr) : wtI x = 3 + wtL x.body + wtL x.els := by cases x; simp only [wtI, Instr.body, Instr.els]
theorem wtL_pos (l : List Instr) : 1 ≤ wtL l ∧ l.length < wtL l := by
  induction l with
  | nil => simp [wtL]
  | cons x l ih => simp only [wtL, List.length_cons, wtI_eq]; omega
theorem wtL_mem {l : List Instr} {x : Instr} (h : x ∈ l) : wtI x + 1 ≤ wtL l := by
  induction l with
  | nil => cases h
  | cons y l ih =>
    simp only [wtL]
    rcases List.mem_cons.1 h with rfl | h
    · have := (wtL_pos l).1; omega
    · have := ih h; omega

theorem give_id : ∀ (K : Nat) (l : List Instr), wtL l < K → wtL l < 1000000000 → g_law08_give K l = some l := by
  intro K
  induction K with
  | zero => intro l h; omega
  | succ k ih =>
    intro l h hs
    have hw := wtL_pos l
    simp only [g_law08_give]
    have key : ∀ (q i : Nat), i ≤ l.length → l.length - i < q → lpN q (fun (rec6 : (List Instr) × Int → Option ((List Instr))) v => match v with | (a4, a5) => (if (decide (a5 < (l.length : Int))) = true then gd (0 ≤ a5 ∧ a5 < (l.length : Int)) (((g_law08_give k (((l.getD a5.toNat default)).body)).bind fun x8 => ((g_law08_give k (((l.getD a5.toNat default)).els)).bind fun x10 => gd ((a4.length + 1) * 104 ≤ 140737488355328) (rec6 ((a4 ++ ([(Instr.mk (((l.getD a5.toNat default)).op) (((l.getD a5.toNat default)).n) (((l.getD a5.toNat default)).align) (((l.getD a5.toNat default)).offset) (((l.getD a5.toNat default)).result) x8 x10 (((l.getD a5.toNat default)).labels))] : List Instr)), (wI (a5 + 1))))))) else some a4)) (l.take i, (i : Int)) = some l := by
      intro q
      induction q with
      | zero => intro i _ h; omega
      | succ q ihq =>
        intro i h1 h2
        have := tlen l i
        simp only [lpN]
        by_cases h : i < l.length
        · have hm := getD_mem l i h
          have hx := wtL_mem hm
          rw [wtI_eq] at hx
          rw [if_pos (dltT h), gd_of (by omega), ih _ (by omega) (by omega), Option.bind_some, ih _ (by omega) (by omega), Option.bind_some, gd_of (by omega), Instr.eta, takeS l i h, wI_nat i (by omega)]
          exact ihq (i + 1) h (by omega)
        · rw [if_neg (dltF h), takeL' l i h1 h]
    have := key k 0 (Nat.zero_le _) (by omega)
    rw [List.take_zero] at this
    exact congrArg (fun o => o.bind (fun j1 => some j1)) this
theorem one_id (K : Nat) (x : Instr) (h : wtI x + 1 < K) (hs : wtI x + 1 < 1000000000) : g_law08_one K x = some x := by
  unfold g_law08_one
  have hw : wtL [x] = wtI x + 1 := by simp [wtL]
  rw [give_id K [x] (by omega) (by omega)]
  rfl

/-- A module small enough to be given back. -/
structure GvOk (K : Nat) (m : Mdl) : Prop where
  K0 : K < 1000000000
  types : m.types.length < K
  typ : ∀ t ∈ m.types, t.params.length < K
  funcs : m.funcs.length < K
  fnc : ∀ f ∈ m.funcs, f.locals.length < K ∧ wtL f.body < K
  tables : m.tables.length < K
  memories : m.memories.length < K
  globals : m.globals.length < K
  glo : ∀ g ∈ m.globals, wtI g.init_ + 1 < K
  exports : m.exports.length < K
  elems : m.elems.length < K
  ele : ∀ e ∈ m.elems, wtI e.offset + 1 < K
  datas : m.datas.length < K
  dat : ∀ d ∈ m.datas, wtI d.offset + 1 < K

theorem gm_l7 {K : Nat} {m : Mdl} (o : GvOk K m) : ∀ k (i : Nat), i ≤ m.types.length → m.types.length - i < k → g_law08_giveModule_l7 k K m (m.types.take i) (i : Int) = some m.types := by
  intro k
  induction k with
  | zero => intro i _ h; omega
  | succ k ih =>
    intro i h1 h2
    have := tlen m.types i; have := o.K0; have := o.types
    simp only [g_law08_giveModule_l7]
    by_cases h : i < m.types.length
    · have hm := o.typ _ (getD_mem m.types i h)
      rw [if_pos (dltT h), gd_of (by omega), kinds_id K _ (by omega) hm, Option.bind_some, gd_of (by omega), gd_of (by omega)]
      rw [show ∀ t : Typ, Typ.mk t.params t.result = t from fun _ => rfl, takeS _ i h, wI_nat i (by omega)]
      exact ih (i + 1) h (by omega)
    · rw [if_neg (dltF h), takeL' _ i h1 h]
theorem gm_l6 {K : Nat} {m : Mdl} (o : GvOk K m) : ∀ k (i : Nat), i ≤ m.funcs.length → m.funcs.length - i < k → g_law08_giveModule_l6 k K m (m.funcs.take i) (i : Int) = some m.funcs := by
  intro k
  induction k with
  | zero => intro i _ h; omega
  | succ k ih =>
    intro i h1 h2
    have := tlen m.funcs i; have := o.K0; have := o.funcs
    simp only [g_law08_giveModule_l6]
    by_cases h : i < m.funcs.length
    · have hm := o.fnc _ (getD_mem m.funcs i h)
      rw [if_pos (dltT h), gd_of (by omega), gd_of (by omega), kinds_id K _ (by omega) hm.1, Option.bind_some, gd_of (by omega), give_id K _ hm.2 (by omega), Option.bind_some, gd_of (by omega)]
      rw [show ∀ t : Fnc, Fnc.mk t.type_ t.locals t.body = t from fun _ => rfl, takeS _ i h, wI_nat i (by omega)]
      exact ih (i + 1) h (by omega)
    · rw [if_neg (dltF h), takeL' _ i h1 h]
theorem gm_l5 {K : Nat} {m : Mdl} (o : GvOk K m) : ∀ k (i : Nat), i ≤ m.tables.length → m.tables.length - i < k → g_law08_giveModule_l5 k m (m.tables.take i) (i : Int) = some m.tables := by
  intro k
  induction k with
  | zero => intro i _ h; omega
  | succ k ih =>
    intro i h1 h2
    have := tlen m.tables i; have := o.K0; have := o.tables
    simp only [g_law08_giveModule_l5]
    by_cases h : i < m.tables.length
    · rw [if_pos (dltT h), gd_of (by omega), gd_of (by omega), takeS _ i h, wI_nat i (by omega)]
      exact ih (i + 1) h (by omega)
    · rw [if_neg (dltF h), takeL' _ i h1 h]
theorem gm_l4 {K : Nat} {m : Mdl} (o : GvOk K m) : ∀ k (i : Nat), i ≤ m.memories.length → m.memories.length - i < k → g_law08_giveModule_l4 k m (m.memories.take i) (i : Int) = some m.memories := by
  intro k
  induction k with
  | zero => intro i _ h; omega
  | succ k ih =>
    intro i h1 h2
    have := tlen m.memories i; have := o.K0; have := o.memories
    simp only [g_law08_giveModule_l4]
    by_cases h : i < m.memories.length
    · rw [if_pos (dltT h), gd_of (by omega), gd_of (by omega), takeS _ i h, wI_nat i (by omega)]
      exact ih (i + 1) h (by omega)
    · rw [if_neg (dltF h), takeL' _ i h1 h]
theorem gm_l3 {K : Nat} {m : Mdl} (o : GvOk K m) : ∀ k (i : Nat), i ≤ m.globals.length → m.globals.length - i < k → g_law08_giveModule_l3 k K m (m.globals.take i) (i : Int) = some m.globals := by
  intro k
  induction k with
  | zero => intro i _ h; omega
  | succ k ih =>
    intro i h1 h2
    have := tlen m.globals i; have := o.K0; have := o.globals
    simp only [g_law08_giveModule_l3]
    by_cases h : i < m.globals.length
    · have hm := o.glo _ (getD_mem m.globals i h)
      rw [if_pos (dltT h), gd_of (by omega), gd_of (by omega), gd_of (by omega), one_id K _ hm (by omega), Option.bind_some, gd_of (by omega)]
      rw [show ∀ t : Glo, Glo.mk t.kind t.mut_ t.init_ = t from fun _ => rfl, takeS _ i h, wI_nat i (by omega)]
      exact ih (i + 1) h (by omega)
    · rw [if_neg (dltF h), takeL' _ i h1 h]
theorem gm_l2 {K : Nat} {m : Mdl} (o : GvOk K m) : ∀ k (i : Nat), i ≤ m.exports.length → m.exports.length - i < k → g_law08_giveModule_l2 k m (m.exports.take i) (i : Int) = some m.exports := by
  intro k
  induction k with
  | zero => intro i _ h; omega
  | succ k ih =>
    intro i h1 h2
    have := tlen m.exports i; have := o.K0; have := o.exports
    simp only [g_law08_giveModule_l2]
    by_cases h : i < m.exports.length
    · rw [if_pos (dltT h), gd_of (by omega), gd_of (by omega), takeS _ i h, wI_nat i (by omega)]
      exact ih (i + 1) h (by omega)
    · rw [if_neg (dltF h), takeL' _ i h1 h]
theorem gm_l1 {K : Nat} {m : Mdl} (o : GvOk K m) : ∀ k (i : Nat), i ≤ m.elems.length → m.elems.length - i < k → g_law08_giveModule_l1 k K m (m.elems.take i) (i : Int) = some m.elems := by
  intro k
  induction k with
  | zero => intro i _ h; omega
  | succ k ih =>
    intro i h1 h2
    have := tlen m.elems i; have := o.K0; have := o.elems
    simp only [g_law08_giveModule_l1]
    by_cases h : i < m.elems.length
    · have hm := o.ele _ (getD_mem m.elems i h)
      rw [if_pos (dltT h), gd_of (by omega), gd_of (by omega), one_id K _ hm (by omega), Option.bind_some, gd_of (by omega), gd_of (by omega)]
      rw [show ∀ t : Ele, Ele.mk t.table t.offset t.funcs = t from fun _ => rfl, takeS _ i h, wI_nat i (by omega)]
      exact ih (i + 1) h (by omega)
    · rw [if_neg (dltF h), takeL' _ i h1 h]
theorem gm_l0 {K : Nat} {m : Mdl} (o : GvOk K m) : ∀ k (i : Nat), i ≤ m.datas.length → m.datas.length - i < k → g_law08_giveModule_l0 k K m (m.datas.take i) (i : Int) = some m.datas := by
  intro k
  induction k with
  | zero => intro i _ h; omega
  | succ k ih =>
    intro i h1 h2
    have := tlen m.datas i; have := o.K0; have := o.datas
    simp only [g_law08_giveModule_l0]
    by_cases h : i < m.datas.length
    · have hm := o.dat _ (getD_mem m.datas i h)
      rw [if_pos (dltT h), gd_of (by omega), gd_of (by omega), one_id K _ hm (by omega), Option.bind_some, gd_of (by omega), gd_of (by omega)]
      rw [show ∀ t : Dat, Dat.mk t.memory t.offset t.bytes = t from fun _ => rfl, takeS _ i h, wI_nat i (by omega)]
      exact ih (i + 1) h (by omega)
    · rw [if_neg (dltF h), takeL' _ i h1 h]
theorem giveModule_id {K : Nat} {m : Mdl} (o : GvOk K m) : g_law08_giveModule K m = some m := by
  unfold g_law08_giveModule
  have h7 := gm_l7 o K 0 (Nat.zero_le _) (by have := o.types; omega)
  have h6 := gm_l6 o K 0 (Nat.zero_le _) (by have := o.funcs; omega)
  have h5 := gm_l5 o K 0 (Nat.zero_le _) (by have := o.tables; omega)
  have h4 := gm_l4 o K 0 (Nat.zero_le _) (by have := o.memories; omega)
  have h3 := gm_l3 o K 0 (Nat.zero_le _) (by have := o.globals; omega)
  have h2 := gm_l2 o K 0 (Nat.zero_le _) (by have := o.exports; omega)
  have h1 := gm_l1 o K 0 (Nat.zero_le _) (by have := o.elems; omega)
  have h0 := gm_l0 o K 0 (Nat.zero_le _) (by have := o.datas; omega)
  simp only [List.take_zero] at h0 h1 h2 h3 h4 h5 h6 h7
  simp only [show (0 : Int) = ((0 : Nat) : Int) from rfl]
  rw [h7, Option.bind_some, h6, Option.bind_some, h5, Option.bind_some, h4, Option.bind_some, h3, Option.bind_some, h2, Option.bind_some, h1, Option.bind_some, h0]
  rfl
end Go.Proofs.YtablleokoifolaaGreatDoor

/- Plain facts: going over instructions as a fold. -/
set_option linter.unusedVariables false
set_option linter.unusedSimpArgs false
set_option maxRecDepth 100000
namespace Go.Proofs.YtablleokoifolaaGreatDoor
open Go

/-- One instruction of a list. -/
def stepC (k : Nat) (c : Checker) (x : Instr) : Option Checker :=
  if c.bad = true then some c else if decide (x.op < (26 : Int)) = true then g_valid_checker_control k c x else g_valid_checker_simple c x

theorem fold_bad (k : Nat) (l : List Instr) {c : Checker} (h : c.bad = true) : l.foldlM (stepC k) c = some c := by
  induction l with
  | nil => rfl
  | cons x l ih =>
    rw [List.foldlM_cons]
    have : stepC k c x = some c := by unfold stepC; rw [if_pos h]
    rw [this]; exact ih

theorem dropS {α : Type} [Inhabited α] (l : List α) (i : Nat) (h : i < l.length) : l.drop i = l.getD ((i : Int)).toNat default :: l.drop (i + 1) := by
  rw [Int.toNat_natCast, List.drop_eq_getElem_cons h]
  simp [List.getD_eq_getElem?_getD, h]

theorem list_fold (k : Nat) (c : Checker) (l : List Instr) (hk : l.length < k) (hs : l.length < 1000000000) : g_valid_checker_list (k + 1) c l = l.foldlM (stepC k) c := by
  simp only [g_valid_checker_list]
  have key : ∀ (q i : Nat) (c : Checker), i ≤ l.length → l.length - i < q → lpN q (fun (rec5 : Checker × Int → Option (Checker)) v => match v with | (a3, a4) => (if (decide (a4 < (l.length : Int))) = true then gd (0 ≤ a4 ∧ a4 < (l.length : Int)) ((if a3.bad = true then some a3 else (if (decide ((((l.getD a4.toNat default)).op) < (26 : Int))) = true then ((g_valid_checker_control k a3 (l.getD a4.toNat default)).bind fun x7 => rec5 (x7, (wI (a4 + 1)))) else ((g_valid_checker_simple a3 (l.getD a4.toNat default)).bind fun x9 => rec5 (x9, (wI (a4 + 1))))))) else some a3)) (c, (i : Int)) = (l.drop i).foldlM (stepC k) c := by
    intro q
    induction q with
    | zero => intro i c _ h; omega
    | succ q ih =>
      intro i c h1 h2
      simp only [lpN]
      by_cases h : i < l.length
      · rw [if_pos (dltT h), gd_of (by omega), dropS l i h, List.foldlM_cons]
        by_cases hb : c.bad = true
        · rw [if_pos hb]
          have : stepC k c (l.getD ((i : Int)).toNat default) = some c := by unfold stepC; rw [if_pos hb]
          rw [this]
          exact (fold_bad k _ hb).symm
        · rw [if_neg hb]
          unfold stepC
          rw [if_neg hb, wI_nat i (by omega)]
          split
          · cases g_valid_checker_control k c (l.getD ((i : Int)).toNat default) with
            | none => rfl
            | some c' => exact ih (i + 1) c' h (by omega)
          · cases g_valid_checker_simple c (l.getD ((i : Int)).toNat default) with
            | none => rfl
            | some c' => exact ih (i + 1) c' h (by omega)
      · rw [if_neg (dltF h), List.drop_of_length_le (by omega)]
        rfl
  exact key k 0 c (Nat.zero_le _) (by omega)

/-- The checker behind an unreachable, with so many kinds of I32 on its stack. -/
def cD (m : Mdl) (t : Typ) (ls : List Int) (n : Nat) : Checker := Checker.mk m t ls (List.replicate n 127) [Frame.mk 0 true false] [t.result] 0 false
def iC : Instr := Instr.mk 65 1 0 0 0 [] [] []
def iD : Instr := Instr.mk 26 0 0 0 0 [] [] []
def iU : Instr := Instr.mk 0 0 0 0 0 [] [] []

theorem sign65 : g_ops_Sign 65 = some (Typ.mk [] 127, none) := by kernel_rfl
theorem bytes65 : g_ops_Bytes 65 = some (0, false, some 1) := by kernel_rfl
theorem form65 : g_ops_Form 65 = some (1, none) := by kernel_rfl
theorem w1 : wI (((1 : Nat) : Int) - 1) = 0 := by decide
theorem w1' : wI (IntKind.wrap .i32 1) = 1 := by decide

theorem ite_ff {α : Type} {c : Bool} {a b : α} (h : c = false) : (if c = true then a else b) = b := by rw [h]; rfl
theorem ite_tt {α : Type} {c : Bool} {a b : α} (h : c = true) : (if c = true then a else b) = a := by rw [h]; rfl
theorem okT_cD (m : Mdl) (t : Typ) (ls : List Int) (n : Nat) (h : n < 1000) : okT (cD m t ls n) := by
  refine ⟨Nat.le_refl 1, (by decide : 1 < 4611686018427387904), ?_, ?_, ?_⟩
  · simp only [cD, List.length_replicate]; omega
  · exact Int.le_refl 0
  · simp only [cD, List.length_replicate]; exact Int.natCast_nonneg n

theorem step_iC (k : Nat) (m : Mdl) (t : Typ) (ls : List Int) (n : Nat) (h : n < 1000) : stepC k (cD m t ls n) iC = some (cD m t ls (n + 1)) := by
  unfold stepC
  rw [ite_ff (c := (cD m t ls n).bad) rfl, if_neg (by decide)]
  have hp : g_valid_checker_plain (cD m t ls n) iC = some (cD m t ls (n + 1)) := by
    unfold g_valid_checker_plain
    rw [show iC.op = 65 from rfl, sign65, Option.bind_some, if_neg (by decide), bytes65, Option.bind_some, if_neg (by decide), Option.bind_some, form65, Option.bind_some, ite_ff]
    rotate_left
    · kernel_rfl
    rw [Option.bind_some]
    unfold g_valid_checker_call g_valid_checker_takes
    rw [gd_of ⟨okT_cD m t ls n h, by decide⟩, Option.bind_some]
    unfold g_valid_checker_lay
    rw [if_neg (by decide), gd_of (by simp [cD]; omega)]
    show (gd (0 ≤ wI (((1 : Nat) : Int) - 1) ∧ wI (((1 : Nat) : Int) - 1) < ((1 : Nat) : Int)) _).bind _ = _
    rw [gd_of (by rw [w1]; decide)]
    show some (Checker.mk _ _ _ (List.replicate n 127 ++ [127]) _ _ _ _) = _
    rw [← List.replicate_succ']
    rfl
  unfold g_valid_checker_simple
  rw [if_neg (by decide), if_neg (by decide), if_neg (by decide), if_neg (by decide), if_neg (by decide), if_neg (by decide), if_neg (by decide), hp]
  rfl

theorem take_cD0 (m : Mdl) (t : Typ) (ls : List Int) (x : Int) : g_valid_checker_take (cD m t ls 0) x = some (x, cD m t ls 0) := by
  unfold g_valid_checker_take
  show gd (0 ≤ wI (((1 : Nat) : Int) - 1) ∧ wI (((1 : Nat) : Int) - 1) < ((1 : Nat) : Int)) _ = _
  rw [gd_of (by rw [w1]; decide)]
  split
  · rfl
  · rw [ite_tt]
    rotate_left
    · kernel_rfl
    rfl

theorem take_cDs (m : Mdl) (t : Typ) (ls : List Int) (n : Nat) (h : n < 1000) (x : Int) (hx : ¬ (x == 0) = true) :
    g_valid_checker_take (cD m t ls (n + 1)) x = some (127, Checker.mk m t ls (List.replicate n 127) [Frame.mk 0 true false] [t.result] 0 ((127 != x) && (x != 1))) := by
  unfold g_valid_checker_take
  show gd (0 ≤ wI (((1 : Nat) : Int) - 1) ∧ wI (((1 : Nat) : Int) - 1) < ((1 : Nat) : Int)) _ = _
  rw [gd_of (by rw [w1]; decide), if_neg hx]
  have hl : ((cD m t ls (n + 1)).stack.length : Int) = ((n + 1 : Nat) : Int) := by simp [cD]
  have hw : wI (((n + 1 : Nat) : Int) - 1) = (n : Int) := by rw [wI_small (by omega) (by omega)]; omega
  have hf : ((cD m t ls (n + 1)).frames.getD (wI (((cD m t ls (n + 1)).frames.length : Int) - 1)).toNat default).height = 0 := by
    show (([Frame.mk 0 true false] : List Frame).getD (wI (((1 : Nat) : Int) - 1)).toNat default).height = 0
    rw [w1]; rfl
  have hg : (cD m t ls (n + 1)).stack.getD ((n : Int)).toNat default = 127 := by simp [cD, List.getD_eq_getElem?_getD]
  have ht : List.take ((n : Int)).toNat (cD m t ls (n + 1)).stack = List.replicate n 127 := by simp [cD, List.take_replicate]
  rw [hl, hw, hf, if_neg (by simp; omega), gd_of (by omega), gd_of (by omega), hg, ht]
  by_cases hb : ((127 != x) && (x != 1)) = true
  · rw [if_pos (by simpa using hb), Option.bind_some, if_neg (by decide), hb]
    rfl
  · rw [if_neg (by simpa using hb), Option.bind_some, if_neg (by decide)]
    have : ((127 != x) && (x != 1)) = false := by simpa using hb
    rw [this]
    rfl

theorem step_iD (k : Nat) (m : Mdl) (t : Typ) (ls : List Int) (n : Nat) (h : n < 1000) : stepC k (cD m t ls n) iD = some (cD m t ls (n - 1)) := by
  unfold stepC
  rw [ite_ff (c := (cD m t ls n).bad) rfl, if_neg (by decide)]
  unfold g_valid_checker_simple
  rw [if_pos (by decide)]
  cases n with
  | zero => rw [take_cD0]; rfl
  | succ n => rw [take_cDs m t ls n (by omega) 1 (by decide)]; rfl

theorem step_iU (k : Nat) (m : Mdl) (t : Typ) (ls : List Int) : stepC (k + 1) (Checker.mk m t ls [] [Frame.mk 0 false false] [t.result] 0 false) iU = some (cD m t ls 0) := by
  unfold stepC
  rw [ite_ff (c := (Checker.mk m t ls [] [Frame.mk 0 false false] [t.result] 0 false).bad) rfl, if_pos (by decide)]
  simp only [g_valid_checker_control]
  rw [if_pos (by decide)]
  unfold g_valid_checker_leave
  show (gd (0 ≤ wI (((1 : Nat) : Int) - 1) ∧ wI (((1 : Nat) : Int) - 1) < ((1 : Nat) : Int)) _).bind _ = _
  rw [gd_of (by rw [w1]; decide)]
  show (gd (0 ≤ (0 : Int) ∧ 0 ≤ (([Frame.mk 0 false false] : List Frame).getD (wI (((1 : Nat) : Int) - 1)).toNat default).height ∧ (([Frame.mk 0 false false] : List Frame).getD (wI (((1 : Nat) : Int) - 1)).toNat default).height ≤ ((0 : Nat) : Int)) _).bind _ = _
  rw [gd_of (by rw [w1]; decide)]
  rfl
end Go.Proofs.YtablleokoifolaaGreatDoor

/- The law ValidDead of the plain functions. -/
set_option linter.unusedVariables false
set_option linter.unusedSimpArgs false
set_option maxRecDepth 100000
namespace Go.Proofs.YtablleokoifolaaGreatDoor
open Go

theorem wtL_snoc (l : List Instr) (x : Instr) : wtL (l ++ [x]) = wtL l + wtI x := by
  induction l with
  | nil => simp only [List.nil_append, wtL]; omega
  | cons y l ih => simp only [List.cons_append, wtL, ih]; omega

def c0 (m : Mdl) (t : Typ) (ls : List Int) : Checker := Checker.mk m t ls [] [Frame.mk 0 false false] [t.result] 0 false

/-- What holds between two rounds of ValidDead's loop. -/
structure DI (acc : List Instr) (n i : Nat) : Prop where
  len : acc.length = i + 1
  le : n ≤ i
  wt : wtL acc = 1 + 5 * (i + 1)
  run : ∀ m t ls, acc.foldlM (stepC 999) (c0 m t ls) = some (cD m t ls n)

theorem DI.snoc {acc : List Instr} {n i n' : Nat} {x : Instr} (d : DI acc n i) (hi : i < 60) (hx : wtI x = 5) (hn : n' ≤ i + 1) (hs : ∀ m t ls, stepC 999 (cD m t ls n) x = some (cD m t ls n')) : DI (acc ++ [x]) n' (i + 1) := by
  refine ⟨by simp [d.len], hn, by rw [wtL_snoc, d.wt, hx]; omega, fun m t ls => ?_⟩
  rw [List.foldlM_append, d.run]
  show ([x].foldlM (stepC 999) (cD m t ls n)) = _
  rw [List.foldlM_cons, hs]
  rfl

theorem mx0 (n : Nat) (h : n < 1000) : mxI 0 (wI ((n : Int) - 1)) = ((n - 1 : Nat) : Int) := by
  rw [wI_small (by omega) (by omega)]
  unfold mxI
  cases n with
  | zero => rfl
  | succ n => split <;> omega

theorem dead_l0 (l : List Bool) : ∀ (k i n : Nat) (acc : List Instr), DI acc n i → i ≤ 60 → 60 - i < k → ∃ acc' n' i', DI acc' n' i' ∧ i' ≤ 60 ∧ g_law08_ValidDead_l0 k l acc (n : Int) (i : Int) = some ((n' : Int), acc') := by
  intro k
  induction k with
  | zero => intro i n acc _ _ h; omega
  | succ k ih =>
    intro i n acc d hi hk
    have := d.len; have := d.le
    simp only [g_law08_ValidDead_l0]
    by_cases h : i < l.length ∧ i < 60
    · rw [if_pos (by simp only [Bool.and_eq_true, decide_eq_true_eq]; omega), gd_of (by omega)]
      by_cases hb : l.getD ((i : Int)).toNat default = true
      · rw [if_pos hb, gd_of (by omega), Option.bind_some, wI_nat n (by omega), wI_nat i (by omega)]
        exact ih (i + 1) (n + 1) _ (d.snoc (x := iC) h.2 rfl (by omega) fun m t ls => step_iC 999 m t ls n (by omega)) (by omega) (by omega)
      · rw [if_neg hb, gd_of (by omega), Option.bind_some, mx0 n (by omega), wI_nat i (by omega)]
        exact ih (i + 1) (n - 1) _ (d.snoc (x := iD) h.2 rfl (by omega) fun m t ls => step_iD 999 m t ls n (by omega)) (by omega) (by omega)
    · rw [if_neg (by simp only [Bool.and_eq_true, decide_eq_true_eq]; omega)]
      exact ⟨acc, n, i, d, hi, rfl⟩

/-- The scene as a module. -/
def scM (ps : List Int) (r : Int) (b : List Instr) : Mdl := (g_law08_scene ps r b).getD default
theorem scM_eq (ps : List Int) (r : Int) (b : List Instr) : g_law08_scene ps r b = some (scM ps r b) := rfl
theorem scM_gv (ps : List Int) (r : Int) (b : List Instr) (hp : ps.length < 1000) (hb : wtL b < 1000) : GvOk 1000 (scM ps r b) := by
  refine ⟨by decide, (by decide : 3 < 1000), ?_, (by decide : 3 < 1000), ?_, (by decide : 1 < 1000), (by decide : 1 < 1000), (by decide : 2 < 1000), ?_, (by decide : 0 < 1000), (by decide : 0 < 1000), fun e h => (by cases h), (by decide : 0 < 1000), fun e h => (by cases h)⟩
  · intro t ht
    rcases List.mem_cons.1 ht with rfl | ht
    · exact hp
    rcases List.mem_cons.1 ht with rfl | ht
    · exact (by decide : 1 < 1000)
    rcases List.mem_cons.1 ht with rfl | ht
    · exact (by decide : 0 < 1000)
    cases ht
  · intro t ht
    rcases List.mem_cons.1 ht with rfl | ht
    · exact ⟨(by decide : 2 < 1000), hb⟩
    rcases List.mem_cons.1 ht with rfl | ht
    · exact ⟨(by decide : 0 < 1000), by decide⟩
    rcases List.mem_cons.1 ht with rfl | ht
    · exact ⟨(by decide : 0 < 1000), by decide⟩
    cases ht
  · intro t ht
    rcases List.mem_cons.1 ht with rfl | ht
    · decide
    rcases List.mem_cons.1 ht with rfl | ht
    · decide
    cases ht

theorem kinds_scM {r : Int} (h : r = 0 ∨ r = 126 ∨ r = 127) (b : List Instr) : g_valid_kinds 1000 (scM [] r b) = some true := by
  rcases h with rfl | rfl | rfl <;> kernel_rfl
theorem concat_scM : g_slices_Concat_api_Kind_api_Kind 1000 [[], [127, 126]] = some [127, 126] := by kernel_rfl

/-- What checking says of a state at a body's end. -/
def endC (c : Checker) (r : Int) : Option (Option Checker × Option Int) :=
  (g_valid_checker_take c r).bind fun x => if (x.2.bad || decide ((x.2.stack.length : Int) > (0 : Int))) = true then some (none, some 7) else some (some x.2, none)

theorem check_scM {r : Int} (h : r = 0 ∨ r = 126 ∨ r = 127) (b : List Instr) : g_valid_check 1000 (scM [] r b) 0 = (g_valid_checker_list 1000 (c0 (scM [] r b) (Typ.mk [] r) [127, 126]) b).bind fun c => endC c r := by
  unfold g_valid_check
  have e1 : ((scM [] r b).funcs.length : Int) = 3 := rfl
  have e2 : ((scM [] r b).types.length : Int) = 3 := rfl
  have e3 : (scM [] r b).funcs.getD (0 : Int).toNat default = Fnc.mk 0 [127, 126] b := rfl
  have e4 : (scM [] r b).types.getD (Fnc.mk 0 [127, 126] b).type_.toNat default = Typ.mk [] r := rfl
  rw [e1, e2, e3, e4]
  show ((if decide ((0 : Int) < 0) = true then some true else if decide ((0 : Int) ≥ 3) = true then some true else gd (0 ≤ (0 : Int) ∧ (0 : Int) < 3) (if decide ((0 : Int) ≥ IntKind.wrap .u32 3) = true then some true else (g_valid_kinds 1000 (scM [] r b)).bind fun x2 => some (!x2))).bind fun j4 => if j4 = true then some (none, some 1) else gd (0 ≤ (0 : Int) ∧ (0 : Int) < 3) (gd (0 ≤ (0 : Int) ∧ (0 : Int) < 3) (gd (0 ≤ (0 : Int) ∧ (0 : Int) < 3)
    ((g_slices_Concat_api_Kind_api_Kind 1000 [[], [127, 126]]).bind fun x8 => gd (0 ≤ (0 : Int) ∧ (0 : Int) < 3) ((g_valid_checker_list 1000 (Checker.mk (scM [] r b) (Typ.mk [] r) x8 [] [Frame.mk 0 false false] [r] 0 false) b).bind fun c => endC c r)))) : Option (Option Checker × Option Int)) = _
  rw [if_neg (by decide), if_neg (by decide), gd_of (by decide), if_neg (by decide), kinds_scM h b, Option.bind_some, Option.bind_some, if_neg (by decide), gd_of (by decide), gd_of (by decide), gd_of (by decide), concat_scM, Option.bind_some, gd_of (by decide)]
  rfl

theorem end_dead (m : Mdl) (r : Int) (hr : r = 126 ∨ r = 127) (n : Nat) (hn : n < 1000) : ∃ c e, endC (cD m (Typ.mk [] r) [127, 126] n) r = some (c, e) ∧ (e.isNone = true ↔ n = 0 ∨ (n = 1 ∧ r = 127)) := by
  unfold endC
  cases n with
  | zero =>
    rw [take_cD0, Option.bind_some, if_neg (by simp [cD])]
    exact ⟨_, _, rfl, by simp⟩
  | succ n =>
    rw [take_cDs _ _ _ _ (by omega) _ (by rcases hr with rfl | rfl <;> decide), Option.bind_some]
    rcases hr with rfl | rfl
    · rw [if_pos (by simp)]
      exact ⟨_, _, rfl, by simp⟩
    · cases n with
      | zero =>
        rw [if_neg (by simp)]
        exact ⟨_, _, rfl, by simp⟩
      | succ n =>
        rw [if_pos (by simp)]
        exact ⟨_, _, rfl, by simp⟩

theorem dead_true (l : List Bool) (p1 : Bool) : g_law08_ValidDead 1000 l p1 = some true := by
  unfold g_law08_ValidDead
  obtain ⟨r, hr, hr2, hb⟩ : ∃ r : Int, (r = 126 ∨ r = 127) ∧ (r = 127 ↔ p1 = false) ∧ (if p1 = true then some (126 : Int) else some 127) = some r := by
    cases p1 with
    | true => exact ⟨126, .inl rfl, by decide, rfl⟩
    | false => exact ⟨127, .inr rfl, by decide, rfl⟩
  have d0 : DI [iU] 0 0 := ⟨rfl, Nat.le_refl _, rfl, fun m t ls => by
    rw [List.foldlM_cons]
    have := step_iU 998 m t ls
    unfold c0
    rw [this]; rfl⟩
  obtain ⟨acc, n, i, d, hi, he⟩ := dead_l0 l 1000 0 0 [iU] d0 (by omega) (by omega)
  have h1 := d.len; have h2 := d.le; have h3 := d.wt
  rw [hb, Option.bind_some]
  have he' : g_law08_ValidDead_l0 1000 l ([(Instr.mk 0 0 0 0 0 ([] : List Instr) ([] : List Instr) ([] : List Int))] : List Instr) 0 0 = some ((n : Int), acc) := he
  rw [he', Option.bind_some]
  show ((g_law08_scene ([] : List Int) r acc).bind fun x4 => _ : Option Bool) = _
  rw [scM_eq, Option.bind_some, giveModule_id (scM_gv [] r acc (by decide) (by omega)), Option.bind_some]
  unfold g_valid_Body
  rw [check_scM (by omega), show (1000 : Nat) = 999 + 1 from rfl, list_fold 999 _ acc (by omega) (by omega), d.run, Option.bind_some]
  obtain ⟨c, e, h4, h5⟩ := end_dead (scM [] r acc) r hr n (by omega)
  rw [h4, Option.bind_some, Option.bind_some]
  unfold g_law08_sure
  by_cases hn0 : n = 0
  · subst hn0
    have : e.isNone = true := h5.2 (.inl rfl)
    simp [this]
  · by_cases hn1 : n = 1
    · subst hn1
      cases p1 with
      | true =>
        cases e with
        | none => have := h5.1 rfl; have := hr2.1; simp_all
        | some v => rfl
      | false =>
        have : e.isNone = true := h5.2 (.inr ⟨rfl, hr2.2 rfl⟩)
        simp [this]
    · cases e with
      | none => have := h5.1 rfl; omega
      | some v =>
        have a : ¬ ((n : Int) = 0) := by omega
        have b : ¬ ((n : Int) = 1) := by omega
        simp [a, b, hn0, hn1]
end Go.Proofs.YtablleokoifolaaGreatDoor

/- From the row's reading of the arguments to frozen data; readings stay where the blocks stay. -/
set_option linter.unusedVariables false
set_option linter.unusedSimpArgs false
namespace Go.Proofs.YtablleokoifolaaGreatDoor
open Go Go.ChangeShapes Go.RowKit Go.Deep

section
variable {H : Type} {enc : TypeId × Value → H} {E : Env} {W : World}

/-- Blocks of a world. -/
def old (W : World) (b : Nat) : Prop := b < W.heap.size

/-- What reads by this type is data told so. -/
def Rd (enc : TypeId × Value → H) (E : Env) (W : World) {α : Type} (t : TypeId) (en : α → List FV) (wf : α → Prop) (n : Nat) : Prop :=
  ∀ (base : Nat) (sp : Nat → Bool) (hd : Bool) (cs : List Value) (x : DataW H × List MemPlace), DataW.trod enc E.P W base sp hd n t cs = some x →
    ∃ a, wf a ∧ cs.length = (en a).length ∧ ∀ j, j < cs.length → RVF E W.heap (old W) (toA ((en a).getD j .undef)) (cs.getD j Go.undef)

theorem rdr_bool {t : TypeId} (ht : E.P.underlying t = some .bool) (n : Nat) : Rd enc E W t (fun b : Bool => [.bool b]) (fun _ => True) n := by
  intro base sp hd cs x h
  obtain ⟨b, rfl, _⟩ := DataW.trod_bool ht h
  refine ⟨b, trivial, rfl, fun j hj => ?_⟩
  obtain rfl : j = 0 := by simp at hj; omega
  exact .bool b
theorem rdr_int {t : TypeId} {k : IntKind} (ht : E.P.underlying t = some (.int k)) (n : Nat) : Rd enc E W t (eI k) (fun x => (Lit.int k x).wf = true) n := by
  intro base sp hd cs x h
  obtain ⟨b, rfl, _, hw⟩ := DataW.trod_int ht h
  refine ⟨b, hw, rfl, fun j hj => ?_⟩
  obtain rfl : j = 0 := by simp at hj; omega
  exact .int k b

theorem toA_sV {α : Type} [Inhabited α] (en : α → List FV) (l : List α) : toA (sV en l) = .slv ((List.range l.length).map fun i => (en (l.getD i default)).map toA) := by
  simp only [sV, toA, fl, toAL_map]

theorem rdr_slice {α : Type} [Inhabited α] {t e : TypeId} {en : α → List FV} {wf : α → Prop} (ht : E.P.underlying t = some (.slice e)) (hs : 0 < E.P.cellsOf e)
    (hsz : ∀ a, (en a).length = E.P.cellsOf e) (hk : ∀ a, ∀ v ∈ en a, cellOk (toA v) = true) (h : ∀ n, Rd enc E W e en wf n) (n : Nat) :
    Rd enc E W t (fun l : List α => [sV en l]) (fun l => (∀ a ∈ l, wf a) ∧ l.length ≤ maxLen) n := by
  intro base sp hd cs x hx
  rcases open_slice ht hx with ⟨rfl, _⟩ | ⟨a, len, cap, m, n', D, Pl, rfl, hb, hl, hm, hmm, _, hel⟩
  · refine ⟨[], ⟨fun a h => (by cases h), Nat.zero_le _⟩, rfl, fun j hj => ?_⟩
    obtain rfl : j = 0 := by simp at hj; omega
    exact .slv0 none 0
  · have hlm : len ≤ m := by rw [hmm]; split <;> omega
    have key : ∀ i, i < len → ∃ (b : α) (cs' : List Value), wf b ∧ E.P.cellsOf e = cs'.length ∧ cs'.length = (en b).length ∧ (∀ j, j < cs'.length → W.cell? ((a.add (i * E.P.cellsOf e)).add j) = some (cs'.getD j Go.undef)) ∧
        ∀ j, j < cs'.length → RVF E W.heap (old W) (toA ((en b).getD j .undef)) (cs'.getD j Go.undef) := by
      intro i hi
      obtain ⟨cs', h1, h2⟩ := hel i (by omega)
      obtain ⟨_, hlen, hc⟩ := World.cells?_some h1
      obtain ⟨b, w1, w2, w3⟩ := h n' base sp hd cs' _ h2
      refine ⟨b, cs', w1, hlen.symm, w2, fun j hj => ?_, w3⟩
      have := hc j (by omega)
      simpa [List.getD_eq_getElem?_getD, hj] using this
    obtain ⟨B, hB⟩ := choose_lt (α := α) (p := fun i b => ∃ cs' : List Value, wf b ∧ E.P.cellsOf e = cs'.length ∧ cs'.length = (en b).length ∧ (∀ j, j < cs'.length → W.cell? ((a.add (i * E.P.cellsOf e)).add j) = some (cs'.getD j Go.undef)) ∧
        ∀ j, j < cs'.length → RVF E W.heap (old W) (toA ((en b).getD j .undef)) (cs'.getD j Go.undef)) key
    have hll : ((List.range len).map B).length = len := by simp
    refine ⟨(List.range len).map B, ⟨fun b hb => ?_, by rw [hll]; omega⟩, rfl, fun j hj => ?_⟩
    · obtain ⟨i, hi, rfl⟩ := List.mem_map.1 hb
      exact (hB i (List.mem_range.1 hi)).choose_spec.1
    · obtain rfl : j = 0 := by simp at hj; omega
      show RVF E W.heap (old W) (toA (sV en ((List.range len).map B))) (.slice (some a) len cap)
      rw [toA_sV, hll]
      by_cases h0 : len = 0
      · subst h0
        exact .slv0 (some a) cap
      · have hB0 := hB 0 (by omega)
        have first : ∃ C T fr, W.heap[a.block]? = some (.cells C T fr) ∧ a.spot = none := by
          obtain ⟨cs', _, hc, _, hcell, _⟩ := hB0
          have := hcell 0 (by omega)
          rw [Nat.zero_mul] at this
          have ea : (a.add 0).add 0 = a := rfl
          rw [ea] at this
          unfold World.cell? at this
          split at this
          · rename_i C T fr hh
            refine ⟨C, T, fr, hh, ?_⟩
            split at this
            · cases this
            · rename_i hsn
              cases hsp : a.spot with
              | none => rfl
              | some q => rw [hsp] at hsn; exact absurd rfl hsn
          · cases this
        obtain ⟨C, T, fr, hC, hspot⟩ := first
        obtain ⟨blk, off, spot⟩ := a
        simp only at hspot hC
        subst hspot
        have cellC : ∀ i j, i < len → j < E.P.cellsOf e → ∃ (b : α) (cs' : List Value), B i = b ∧ cs'.length = (en b).length ∧ E.P.cellsOf e = cs'.length ∧ off + i * E.P.cellsOf e + j < C.size ∧ C.getD (off + i * E.P.cellsOf e + j) Go.undef = cs'.getD j Go.undef ∧
            RVF E W.heap (old W) (toA ((en b).getD j .undef)) (cs'.getD j Go.undef) := by
          intro i j hi hj
          obtain ⟨cs', _, hc, hc2, hcell, hr⟩ := hB i hi
          have h1 := hcell j (by omega)
          rw [add_add] at h1
          have h2 : (Addr.add ⟨blk, off, none⟩ (i * E.P.cellsOf e + j)) = ⟨blk, off + (i * E.P.cellsOf e + j), none⟩ := by
            unfold Addr.add
            split
            · rename_i hz; simp [hz]
            · rfl
          rw [h2] at h1
          unfold World.cell? at h1
          simp only [hC, Option.isSome_none, Bool.false_eq_true, if_false] at h1
          have hlt : off + (i * E.P.cellsOf e + j) < C.size := (Array.getElem?_eq_some_iff.1 h1).1
          refine ⟨B i, cs', rfl, hc2, hc, by omega, ?_, hr j (by omega)⟩
          have : C.getD (off + i * E.P.cellsOf e + j) Go.undef = C.getD (off + (i * E.P.cellsOf e + j)) Go.undef := by rw [Nat.add_assoc]
          rw [this, Array.getD_eq_getD_getElem?, h1]; rfl
        have hlen2 : ((List.range len).map fun i => (en (((List.range len).map B).getD i default)).map toA).length = len := by simp
        have hget : ∀ i, i < len → ((List.range len).map fun i => (en (((List.range len).map B).getD i default)).map toA).getD i [] = (en (B i)).map toA := by
          intro i hi
          simp [List.getD_eq_getElem?_getD, hi]
        have hr := RVF.slv (E := E) (H := W.heap) (F := old W) ((List.range len).map fun i => (en (((List.range len).map B).getD i default)).map toA) blk off cap (E.P.cellsOf e) C T fr (Array.getElem?_eq_some_iff.1 hC).1 hC
          (by
            rw [hlen2]
            have := cellC (len - 1) (E.P.cellsOf e - 1) (by omega) (by omega)
            obtain ⟨_, _, _, _, _, hlt, _⟩ := this
            have e1 : len * E.P.cellsOf e = (len - 1) * E.P.cellsOf e + E.P.cellsOf e := by
              have : len = (len - 1) + 1 := by omega
              conv => lhs; rw [this, Nat.add_mul, Nat.one_mul]
            omega)
          (by rw [hlen2]; exact hl)
          (by
            rw [hlen2]
            intro i hi
            rw [hget i hi]; simp [hsz])
          (by
            rw [hlen2]
            intro i j hi hj
            rw [hget i hi]
            have hjl : j < (en (B i)).length := by rw [hsz]; exact hj
            rw [List.getD_eq_getElem?_getD, List.getElem?_map, List.getElem?_eq_getElem hjl]
            exact hk _ _ (List.getElem_mem hjl))
          (by
            rw [hlen2]
            intro i j hi hj
            rw [hget i hi]
            obtain ⟨b, cs', rfl, _, _, _, hcv, hrv⟩ := cellC i j hi hj
            rw [hcv]
            have hjl : j < (en (B i)).length := by rw [hsz]; exact hj
            rw [List.getD_eq_getElem?_getD, List.getElem?_eq_getElem hjl] at hrv
            rw [List.getD_eq_getElem?_getD, List.getElem?_map, List.getElem?_eq_getElem hjl]
            exact hrv)
        rw [hlen2] at hr
        exact hr
end
end Go.Proofs.YtablleokoifolaaGreatDoor

/- Readings stay where the blocks stay. -/
set_option linter.unusedVariables false
set_option linter.unusedSimpArgs false
namespace Go.Proofs.YtablleokoifolaaGreatDoor
open Go Go.ChangeShapes Go.RowKit Go.Deep

theorem mapM_ext {α β : Type} {f g : α → Option β} : ∀ {l : List α} {ys : List β}, l.mapM f = some ys → (∀ a, a ∈ l → ∀ y, f a = some y → y ∈ ys → g a = some y) → l.mapM g = some ys
  | [], ys, h, _ => by simpa using h
  | a :: l, ys, h, hg => by
    rw [List.mapM_cons] at h ⊢
    cases hfa : f a with
    | none => rw [hfa] at h; cases h
    | some y =>
      rw [hfa] at h
      cases hl : l.mapM f with
      | none => rw [hl] at h; cases h
      | some zs =>
        rw [hl] at h
        obtain rfl : y :: zs = ys := Option.some.inj h
        rw [hg a (by simp) y hfa (by simp), mapM_ext hl fun b hb z hz hm => hg b (by simp [hb]) z hz (by simp [hm])]
        rfl

/-- Types that are read without maps, pointers, interfaces. -/
def TyOk (P : Program) (T : TypeId → Prop) : Prop :=
  ∀ t, T t → P.underlying t = some .bool ∨ (∃ k, P.underlying t = some (.int k)) ∨ P.underlying t = some .string ∨ (∃ e, P.underlying t = some (.slice e) ∧ T e ∧ 0 < P.cellsOf e) ∨ ∃ fs, P.underlying t = some (.struct fs) ∧ ∀ f ∈ fs.toList, T f.type

section
variable {H : Type} {enc : TypeId × Value → H} {P : Program} {W W' : World}

theorem cells_ext (hs : ∀ b, b < W.heap.size → W'.heap[b]? = W.heap[b]?) {base : Nat} {a : Addr} {n : Nat} {cs : List Value} (h : W.cells? base a n = some cs) : W'.cells? base a n = some cs := by
  unfold World.cells? at h ⊢
  split
  · rename_i hb
    rw [if_pos hb] at h
    refine mapM_ext h fun i _ y hy _ => ?_
    unfold World.cell? at hy ⊢
    split at hy
    · rename_i C T fr hh
      rw [hs _ (Array.getElem?_eq_some_iff.1 hh).1, hh]
      exact hy
    · cases hy
  · rename_i hb; rw [if_neg hb] at h; exact h

theorem trod_ext {T : TypeId → Prop} (hT : TyOk P T) (hs : ∀ b, b < W.heap.size → W'.heap[b]? = W.heap[b]?) {base : Nat} {hd : Bool} {sp : Nat → Bool} : ∀ (n : Nat) (t : TypeId) (cs : List Value) (x : DataW H × List MemPlace), T t →
    DataW.trod enc P W base (fun _ => true) hd n t cs = some x → (∀ p ∈ x.2, sp p.block = true) → DataW.trod enc P W' base sp hd n t cs = some x := by
  intro n
  induction n with
  | zero => intro t cs x _ h; cases h
  | succ n ih =>
    intro t cs x ht h hp
    have sub : ∀ e, T e → ∀ (a : Addr) (m : Nat) (y : DataW H × List MemPlace), (W.cells? base a m).bind (DataW.trod enc P W base (fun _ => true) hd n e) = some y → (∀ p ∈ y.2, sp p.block = true) →
        (W'.cells? base a m).bind (DataW.trod enc P W' base sp hd n e) = some y := by
      intro e he a m y hy hyp
      obtain ⟨cs', h1, h2⟩ := Option.bind_eq_some_iff.1 hy
      rw [cells_ext hs h1]
      exact ih e cs' y he h2 hyp
    rcases hT t ht with hu | ⟨k, hu⟩ | hu | ⟨e, hu, he, hpos⟩ | ⟨fs, hu, hfs⟩
    · obtain ⟨b, rfl, rfl⟩ := DataW.trod_bool hu h
      simp [DataW.trod, hu]
    · obtain ⟨z, rfl, rfl, hw⟩ := DataW.trod_int hu h
      simp [DataW.trod, hu, hw]
    · obtain ⟨z, rfl, rfl, hw⟩ := DataW.trod_string hu h
      simp [DataW.trod, hu, hw]
    · have h0 := h
      unfold DataW.trod at h ⊢
      rw [hu] at h ⊢
      rcases DataW.trod_slice hu h0 with ⟨rfl, rfl⟩ | ⟨a, len, cap, el0, re0, n', hn, rfl, hx, hb, hl, hm, hlen, -, hsp, -⟩
      · rfl
      · simp only at h ⊢
        rw [if_pos ⟨hb, hl, hm⟩] at h ⊢
        simp only [Option.bind_eq_some_iff, Option.map_eq_some_iff, if_true] at h
        obtain ⟨elems, h1, rest, h2, h3⟩ := h
        have hsa : cap - len ≠ 0 ∨ cap - len = 0 := by omega
        have hpe : ∀ y ∈ elems ++ rest, ∀ p ∈ y.2, sp p.block = true := by
          intro y hy p hpy
          refine hp p ?_
          rw [← h3]
          exact List.mem_append_right _ (List.mem_flatMap.2 ⟨y, hy, hpy⟩)
        have e1 := mapM_ext (g := fun i => (W'.cells? base (a.add (i * P.cellsOf e)) (P.cellsOf e)).bind (DataW.trod enc P W' base sp hd n e)) h1 fun i _ y hy hm => sub e he _ _ y hy (hpe y (List.mem_append_left _ hm))
        rw [e1, Option.bind_some]
        have e2 : (if sp a.block = true then (List.range (cap - len)).mapM fun j => (W'.cells? base (a.add ((len + j) * P.cellsOf e)) (P.cellsOf e)).bind (DataW.trod enc P W' base sp hd n e) else some []) = some rest := by
          by_cases hz : cap - len = 0
          · rw [hz] at h2 ⊢
            simp only [List.range_zero, List.mapM_nil] at h2 ⊢
            split
            · exact h2
            · exact h2
          · have hr := mapM_some_length h2
            have : sp a.block = true := by
              refine hp (.cell a.block (a.off + 0)) ?_
              rw [← h3]
              refine List.mem_append_left _ (List.mem_map.2 ⟨0, List.mem_range.2 ?_, rfl⟩)
              simp only [List.length_range] at hr
              exact Nat.mul_pos (by omega) hpos
            rw [if_pos this]
            exact mapM_ext h2 fun i _ y hy hm => sub e he _ _ y hy (hpe y (List.mem_append_right _ hm))
        rw [e2, ← h3]
        rfl
    · unfold DataW.trod at h ⊢
      rw [hu] at h ⊢
      simp only at h ⊢
      split
      · rename_i hl
        rw [if_pos hl] at h
        obtain ⟨xs, h1, h2⟩ := Option.map_eq_some_iff.1 h
        have hpe : ∀ y ∈ xs, ∀ p ∈ y.2, sp p.block = true := by
          intro y hy p hpy
          refine hp p ?_
          rw [← h2]
          exact List.mem_flatMap.2 ⟨y, hy, hpy⟩
        have e1 := mapM_ext (g := fun f : Field => DataW.trod enc P W' base sp hd n f.type ((cs.drop f.offset).take (P.cellsOf f.type))) h1 fun f hf y hy hm => ih f.type _ y (hfs f hf) hy (hpe y hm)
        rw [e1, ← h2]
        rfl
      · rename_i hl
        rw [if_neg hl] at h
        cases h

theorem trodAll_ext {T : TypeId → Prop} (hT : TyOk P T) (hs : ∀ b, b < W.heap.size → W'.heap[b]? = W.heap[b]?) {base : Nat} {hd : Bool} {sp : Nat → Bool} : ∀ (ts : List TypeId) (vs : List Value) (ds : List (DataW H)) (ps : List MemPlace), (∀ t ∈ ts, T t) →
    DataW.TrodAll enc P W base (fun _ => true) hd ts vs ds ps → (∀ p ∈ ps, sp p.block = true) → DataW.TrodAll enc P W' base sp hd ts vs ds ps
  | [], vs, ds, ps, _, h, _ => by
    obtain ⟨rfl, rfl, rfl⟩ := trodAll_nil h
    rfl
  | t :: ts, vs, ds, ps, ht, h, hp => by
    obtain ⟨v, vs1, d, ds1, a, c, rfl, rfl, rfl, ⟨n, h1⟩, h2⟩ := trodAll_cons h
    exact ⟨a, c, ⟨n, trod_ext hT hs n t _ _ (ht t (by simp)) h1 fun p hpp => hp p (by simp [hpp])⟩, trodAll_ext hT hs ts vs1 ds1 c (fun t h => ht t (by simp [h])) h2 fun p hpp => hp p (by simp [hpp]), rfl⟩

theorem kept_of_same (hs : ∀ b, b < W.heap.size → W'.heap[b]? = W.heap[b]?) (ho : W'.os = W.os) (hp : W'.output = W.output) (may : MemPlace → Prop) : W.keptBut W' may := by
  refine ⟨ho, hp, fun i hi => ?_⟩
  rw [hs i hi]
  split
  · rename_i c t fr c' t' fr' h1 h2
    rw [h1] at h2
    cases h2
    exact ⟨rfl, rfl, rfl, fun _ _ => rfl⟩
  · rename_i es cl es' cl' h1 h2
    rw [h1] at h2
    cases h2
    exact .inr ⟨rfl, rfl⟩
  · rfl
end
end Go.Proofs.YtablleokoifolaaGreatDoor

/- What the rows' condition tells of a world: the listed variable, the named one; a world for the witness. -/
set_option linter.unusedVariables false
set_option linter.unusedSimpArgs false
namespace Go.Proofs.YtablleokoifolaaGreatDoor
open Go Go.ChangeShapes Go.WideShapes Go.RowKit

theorem own : ownKnob Tryz.prog.godebug = none := by kernel_rfl
theorem etN : Tryz.prog.globalNamed "errors.errorType" = some 0 := by kernel_rfl
theorem rtN : (Tryz.prog.cutTypes.find? (·.1 == "internal/reflectlite.rtype")).map (·.2) = some 170 := by kernel_rfl
theorem oneRow : ((List.range 251).filter fun t => Tryz.prog.rowNamed t [101, 114, 114, 111, 114]) = [44] := by kernel_rfl
theorem tsize : Tryz.prog.types.size = 251 := by kernel_rfl
theorem gsize : Tryz.prog.globals.size = 2 := by kernel_rfl
theorem row1 : ((begin Tryz.prog (fun _ _ => 0) default).world.heap[1]?).bind Obj.row? = some (#[.int .i64 0], 3) := by kernel_rfl
theorem ct3 : Tryz.prog.cellTypes Tryz.prog.depth 3 = some [3] := by kernel_rfl
theorem b3 : Tryz.prog.buildable 3 = true := by kernel_rfl

abbrev laidE : List (String × DataW Unit) := [("errors.errorType", Rows.laid_errors_errorType)]

theorem handle_of_laid {W : World} (h : laidMetH Tryz.prog laidE W) : W.cell? ⟨0, 0, none⟩ = some errV := by
  have h' : laidMet Tryz.prog [] W ∧ handlesMet Tryz.prog laidE W := h
  obtain ⟨name, u, ty, e1, e2, e3, e4, e5⟩ := h'.2 _ (List.mem_singleton.2 rfl)
  have en : name = [101, 114, 114, 111, 114] := (Option.some.inj e1).symm
  subst en
  obtain rfl := Option.some.inj (rtN.symm.trans e2)
  have hm : ty ∈ (List.range 251).filter fun t => Tryz.prog.rowNamed t [101, 114, 114, 111, 114] := List.mem_filter.2 ⟨List.mem_range.2 (by rw [← tsize]; exact e3), e4⟩
  rw [oneRow] at hm
  obtain rfl := List.mem_singleton.1 hm
  have hh : typeHandle Tryz.prog 44 = .pointer (some ⟨2, 44, none⟩) := by kernel_rfl
  rw [hh] at e5
  simpa [errV] using World.var?_cell etN e5 0

/-- A variable of an integer type holds some number. -/
theorem int_of_shape {P : Program} {w : World} {g : Nat} {t : TypeId} {k : IntKind} {zero : Array Value} (h : w.ShapedOpen P) (hg : g < P.globals.size)
    (h0 : ((begin P (fun _ _ => 0) default).world.heap[g]?).bind Obj.row? = some (zero, t)) (hz : zero.size = 1)
    (hb : P.buildable t = true) (hc : P.cellTypes P.depth t = some [t]) (hu : P.underlying t = some (.int k)) : ∃ n, w.cell? ⟨g, 0, none⟩ = some (.int k n) := by
  obtain ⟨cs, hh, hs, hr⟩ := h.1 g zero t hg h0
  obtain ⟨ts, hts, _, hall⟩ := hr hb
  rw [hc] at hts
  cases hts
  have h1 : 0 < cs.size := by omega
  obtain ⟨u, hu', hok⟩ := hall 0 cs[0] (by simp [h1])
  have : u = t := by simpa using hu'.symm
  subst this
  have hcell : w.cell? ⟨g, 0, none⟩ = some cs[0] := by simp [World.cell?, hh, h1]
  rw [hcell]
  unfold Cell.ok at hok
  rw [hu] at hok
  cases hv : cs[0] with
  | int k' n => rw [hv] at hok; obtain ⟨rfl, _⟩ := hok; exact ⟨n, rfl⟩
  | _ => rw [hv] at hok; simp at hok

set_option maxRecDepth 100000 in
theorem maxLen_of_shape {W : World} (h : W.ShapedOpen Tryz.prog) : ∃ n, W.cell? ⟨1, 0, none⟩ = some (.int .i64 n) :=
  int_of_shape h (gsize ▸ by decide) row1 rfl b3 ct3 Tryz.underlying3

theorem cellH_of {W : World} {b : Nat} {v : Value} (h : W.cell? ⟨b, 0, none⟩ = some v) : cellH W.heap b = some v := by
  unfold World.cell? at h
  unfold cellH
  split at h
  · rename_i C T fr hb
    simp only at hb
    rw [hb]
    simpa using h
  · cases h

/-- What the proofs over the abstract machine ask of a world. -/
theorem gok_of {W : World} (hl : laidMetH Tryz.prog laidE W) (hs : W.ShapedOpen Tryz.prog) : E.gok W.heap ∧ E.gb ≤ W.heap.size := by
  obtain ⟨n, hn⟩ := maxLen_of_shape hs
  refine ⟨⟨cellH_of (handle_of_laid hl), n, cellH_of hn⟩, ?_⟩
  have := cellH_of hn
  unfold cellH at this
  split at this
  · rename_i hb
    have := (Array.getElem?_eq_some_iff.1 hb).1
    show 2 ≤ W.heap.size
    omega
  · cases this

/-- A world for the witness: the settled one, the listed variable's cell laid. -/
noncomputable def laidWorld (os : Os) : World :=
  { World.holding Tryz.prog os ⟨#[], #[], []⟩ with heap := (World.holding Tryz.prog os ⟨#[], #[], []⟩).heap.modify 0 fun
      | .cells _ t frozen => .cells #[errV] t frozen
      | o => o }
theorem laidWorld_met (os : Os) (args : Array Value) : laidMetH Tryz.prog laidE ((laidWorld os).forCall (fun _ _ => 0) ⟨#[], args, []⟩).memory :=
  laidMetH_of_parts (laidMet_nil _ _) (by kernel_rfl)

theorem rvf_bool {H : Array Obj} {F : Nat → Prop} {b : Bool} {v : Value} (h : RVF E H F (.bool b) v) : v = .bool b := by cases h; rfl
end Go.Proofs.YtablleokoifolaaGreatDoor

/- ValidDead: whatever the flags are, the law answers true and its arguments read as before. -/
set_option linter.unusedVariables false
set_option linter.unusedSimpArgs false
namespace Go.Proofs.YtablleokoifolaaGreatDoor.validDead
open Go Go.ChangeShapes Go.WideShapes Go.RowKit

theorem c4 : Tryz.prog.cellsOf 4 = 1 := by kernel_rfl
theorem c4p : 0 < Tryz.prog.cellsOf 4 := by rw [c4]; exact Nat.zero_lt_one
theorem tyOk : TyOk Tryz.prog (fun t => t = 67 ∨ t = 4) := by
  intro t ht
  rcases ht with rfl | rfl
  · exact .inr (.inr (.inr (.inl ⟨4, Tryz.underlying67, .inr rfl, c4p⟩)))
  · exact .inl Tryz.underlying4

set_option maxRecDepth 100000 in
theorem contract (H : Type) (enc : TypeId × Value → H) (W : World) (base : Nat) (args : Array Value) (ds gs : List (DataW H)) (before : List MemPlace)
    (hval : ∀ (j : Nat) t v, Tryz.f6.params[j]? = some t → args[j]? = some v → Value.okWide Tryz.prog W .any base t v)
    (hW : DataW.Whole enc Tryz.prog Tryz.f6.params.toList Rows.validDeadSpec.vars false W args.toList ds gs before) (hL : laidMetH Tryz.prog laidE W) (hS : W.ShapedOpen Tryz.prog) :
    Calls Tryz.prog 6 args W fun e W' => ∃ v, e = .returned v ∧ Rows.validDeadSpec.post enc Tryz.prog Tryz.f6 false true false false W args v W' := by
  have hW' := hW
  obtain ⟨p, q, hA0, hV, rfl, hfz, hnd⟩ := hW
  have hA : DataW.TrodAll enc Tryz.prog W 0 (fun _ => true) true Tryz.f6.params.toList args.toList ds p := hA0
  rw [Tryz.params6] at hA hval
  obtain ⟨v0, vs0, d0, ds0, p0, q0, hargs, rfl, rfl, ⟨n0, h0⟩, r0⟩ := trodAll_cons hA
  obtain ⟨v1, vs1, d1, ds1, p1, q1, rfl, rfl, rfl, h1, r1⟩ := trodAll_cons r0
  obtain ⟨rfl, rfl, rfl⟩ := trodAll_nil r1
  obtain rfl : args = #[v0, v1] := by cases args; simp_all
  obtain ⟨rfl, rfl⟩ := trodVars_none hV
  obtain ⟨wide, rfl, rfl, rfl⟩ := open_bool Tryz.underlying4 (hval 1 4 v1 rfl rfl) h1
  obtain ⟨a, len, cap, rfl⟩ := okWide_slice Tryz.underlying67 (hval 0 67 v0 rfl rfl)
  obtain ⟨l, _, _, hl⟩ := rdr_slice (enc := enc) (E := E) (W := W) (en := eB) (wf := fun _ => True) Tryz.underlying67 c4p (fun _ => c4.symm) (fun a v hv => by
    obtain rfl : v = .bool a := by simpa [eB] using hv
    rfl) (fun n => rdr_bool Tryz.underlying4 n) n0 0 _ _ _ _ h0
  have hl0 := hl 0 Nat.zero_lt_one
  obtain ⟨g1, g2⟩ := gok_of hL hS
  have hc := c_law08_ValidDead 1000 l wide true (dead_true l wide)
  refine (hc.2 W (old W) #[.slice a len cap, .bool wide] g2 g1 (fun b hb => hb) rfl (fun i hi => ?_)).mono ?_
  · match i with
    | 0 => exact hl0
    | 1 => exact .bool wide
  rintro e W' ⟨v, F', rfl, k⟩
  obtain rfl := rvf_bool k.rv
  refine ⟨_, rfl, _, _, _, [], p0 ++ ([] ++ []), [], hW', trodAll_cons_mk (shut_bool Tryz.underlying4 _) trodAll_mk0, ?_, rfl, kept_of_same k.same k.wx.os k.wx.output _, fun h => by cases h⟩
  refine trodAll_ext tyOk k.same _ _ _ _ (fun t ht => ?_) hA0 fun p hp => ?_
  · rw [Tryz.params6] at ht
    simpa using ht
  · have := hW'.lt p (by simpa using hp)
    simpa using this

theorem reads (os : Os) {H : Type} (enc : TypeId × Value → H) : ∃ places, DataW.whole enc Tryz.prog ((laidWorld os).forCall (fun _ _ => 0) ⟨#[], #[.slice none 0 0, .bool false], []⟩).memory Tryz.f6.params.toList Rows.validDeadSpec.vars false #[Value.slice none 0 0, Value.bool false].toList 8 = some ([.nil, .lit (.bool false)], [], places) :=
  ⟨[], by kernel_rfl⟩

set_option maxRecDepth 100000 in
theorem lifted (os : Os) (started : os.Started) (H : Type) (enc : TypeId × Value → H) (F : Stop.Interp) :
    ReturnsInHanded {} Tryz.checked os 6 .any ((OpenSpec.ofChange Rows.validDeadSpec).preRow enc Tryz.prog Tryz.f6 Rows.validDeadRow.domain false Rows.validDeadRow.laid) (((OpenSpec.ofChange Rows.validDeadSpec).at F).post enc Tryz.prog Tryz.f6 false true false false) := by
  obtain ⟨places, hx⟩ := reads os enc
  refine returnsInHanded_of_row (C := Tryz.checked) (s := OpenSpec.ofChange Rows.validDeadSpec) own started (by kernel_rfl) Tryz.func6
    (witness_row_at (enc := enc) (C := Tryz.checked) false (laidWorld os) #[.slice none 0 0, .bool false] rfl (by kernel_rfl) (by kernel_rfl) (by kernel_rfl)
      (OpenSpec.preRow_of_cond 8 hx (by kernel_rfl) (fun k hk => by cases hk) (by kernel_rfl) (laidWorld_met os _))) ?_
  intro W base args ds gs before hval hW _ _ _ hL hS _
  exact contract H enc W base args ds gs before hval hW hL hS

theorem said : Rows.ValidDeadSaid :=
  OpenClaim.holds_of_cond 6 Tryz.f6 rfl rfl rfl rfl rfl rfl rfl ⟨rfl, rfl, rfl, rfl, rfl⟩ rfl rfl rfl rfl rfl (by kernel_rfl) Tryz.func6 (by kernel_rfl)
    (of_decide_eq_true (by kernel_rfl)) (by unfold Func.isWrapper; first | (rw [if_pos (by decide +kernel)]; kernel_rfl) | (rw [if_neg (by decide +kernel)]; exact ⟨rfl, rfl⟩))
    (fun os started H enc _ F => by rw [OpenClaim.pre_eq_preRow]; exact lifted os started H enc F)

/-- No parameter wants a stand-in; the program's own looks. -/
theorem plain (f : FuncId) (fn : Func) (hf : Tryz.pinned.checked.prog.funcNamed "mandrel/mandrellaw08.ValidDead" = some f) (hfn : Tryz.pinned.checked.prog.funcs[f]? = some fn) :
    true = Tryz.pinned.checked.prog.looks [] ∧ ∀ (j : Nat) t, fn.params[j]? = some t → Tryz.pinned.checked.prog.wantsStandIn t = false := by
  obtain rfl : f = 6 := Option.some.inj ((show Tryz.prog.funcNamed "mandrel/mandrellaw08.ValidDead" = some 6 by kernel_rfl).symm.trans hf) |>.symm
  obtain rfl : fn = Tryz.f6 := (Option.some.inj (Tryz.func6.symm.trans hfn)).symm
  refine ⟨by kernel_rfl, fun j t ht => ?_⟩
  rw [Tryz.params6] at ht
  have : t = 67 ∨ t = 4 := by simpa using Array.mem_of_getElem? ht
  rcases this with rfl | rfl
  · exact (show Tryz.prog.wantsStandIn 67 = false by kernel_rfl)
  · exact (show Tryz.prog.wantsStandIn 4 = false by kernel_rfl)

theorem card : Rows.ValidDeadCardSaid :=
  Claim7.holds_tied_plain_at .later [] [.handle] true _ true said (fun _ h => by cases h) (by kernel_rfl) (fun _ h => by cases h) validDead_row_tie rfl ⟨rfl, rfl⟩ (by kernel_rfl) rfl plain (by kernel_rfl)
end Go.Proofs.YtablleokoifolaaGreatDoor.validDead

