/- Part 6 of the proof that ValidLabelsCardSaid: for every input that fits the row the law answers true and its arguments read as before, over the world as the row lays it. -/
import Derived.Test.YtablleokoifolaaGreatDoorZ5
/- Plain functions and their contracts. Written by a program of this claim set (g2.py). -/
set_option linter.unusedVariables false
set_option maxRecDepth 100000
set_option maxHeartbeats 4000000
namespace Go.Proofs.YtablleokoifolaaGreatDoor
open Go

/- mandrel/ops.reckoned -/
def g_ops_reckoned (p0 : ByteArray) : Option (Typ) := ((g_ops_own p0).bind fun x1 => ((g_strings_Cut p0 (ByteArray.mk #[46])).bind fun x3 => ((g_strings_HasSuffix p0 (ByteArray.mk #[95, 105, 54, 52])).bind fun x5 => (if x5 = true then some (Typ.mk ([126] : List Int) x1) else ((g_strings_Contains x3.2.1 (ByteArray.mk #[101, 120, 116, 101, 110, 100])).bind fun x7 => (if x7 = true then some (Typ.mk ([127] : List Int) x1) else (if (x3.2.1.toList == (ByteArray.mk #[101, 113, 122]).toList) = true then some (Typ.mk ([x1] : List Int) 127) else (if ((x3.2.1.toList == (ByteArray.mk #[99, 108, 122]).toList) || ((x3.2.1.toList == (ByteArray.mk #[99, 116, 122]).toList) || (x3.2.1.toList == (ByteArray.mk #[112, 111, 112, 99, 110, 116]).toList))) = true then some (Typ.mk ([x1] : List Int) x1) else gd (0 ≤ (0 : Int) ∧ (0 : Int) ≤ 2 ∧ 2 ≤ (x3.2.1.size : Int)) (gd (¬ (((ByteArray.mk #[32]).size + (ByteArray.extract x3.2.1 (0 : Int).toNat (2 : Int).toNat).size : Nat) : Int) > IntKind.i64.max) (gd (¬ ((((ByteArray.mk #[32]) ++ (ByteArray.extract x3.2.1 (0 : Int).toNat (2 : Int).toNat)).size + (ByteArray.mk #[32]).size : Nat) : Int) > IntKind.i64.max) (((g_strings_Contains (ByteArray.mk #[32, 101, 113, 32, 110, 101, 32, 108, 116, 32, 103, 116, 32, 108, 101, 32, 103, 101, 32]) (((ByteArray.mk #[32]) ++ (ByteArray.extract x3.2.1 (0 : Int).toNat (2 : Int).toNat)) ++ (ByteArray.mk #[32]))).bind fun x12 => (if x12 = true then some (Typ.mk ([x1, x1] : List Int) 127) else some (Typ.mk ([x1, x1] : List Int) x1))))))))))))))

theorem c_ops_reckoned (p0 : ByteArray) (r : Typ) (H : g_ops_reckoned p0 = some r) : CF E 90 [.str p0] (.agg (eTyp r)) := by
  refine cf_of (A := F_ops_reckoned) fn_ops_reckoned rfl fun fr => ?_
  unfold g_ops_reckoned at H
  refine AW2.seq ?_
  refine AW2.rg [.k 2] [0, 2] [] [.k 2] ⟨[(0, .d (.str p0)), (2, .p 2 0)], [(2, .st false [.d .nils, .d (.int .u8 0)])]⟩ (And.intro True.intro True.intro) (by kernel_rfl) ?_
  refine AW2.seq ?_
  obtain ⟨x1, hx2, H⟩ := bind_some H
  refine AW2.rg [.r (.int .u8 x1)] [0, 2, 3] [] [.k 2] ⟨[(0, .d (.str p0)), (2, .p 2 0), (3, .d (.int .u8 x1))], [(2, .st false [.d .nils, .d (.int .u8 0)])]⟩ (And.intro (And.intro (c_ops_own p0 x1 hx2) True.intro) True.intro) (by kernel_rfl) ?_
  refine AW2.seq ?_
  obtain ⟨x3, hx4, H⟩ := bind_some H
  refine AW2.rg [.r (.tup [.str x3.1, .str x3.2.1, .bool x3.2.2])] [0, 2, 3, 5] [] [.k 2] ⟨[(0, .d (.str p0)), (2, .p 2 0), (3, .d (.int .u8 x1)), (5, .d (.str x3.2.1))], [(2, .st false [.d .nils, .d (.int .u8 0)])]⟩ (And.intro (And.intro (c_strings_Cut p0 (ByteArray.mk #[46]) x3 hx4) True.intro) True.intro) (by kernel_rfl) ?_
  refine AW2.seq ?_
  refine AW2.block ?_
  refine AW2.seq ?_
  obtain ⟨x5, hx6, H⟩ := bind_some H
  refine AW2.rg [.r (.bool x5)] [2, 3, 5, 15] [] [.k 2] ⟨[(2, .p 2 0), (3, .d (.int .u8 x1)), (5, .d (.str x3.2.1)), (15, .d (.bool x5))], [(2, .st false [.d .nils, .d (.int .u8 0)])]⟩ (And.intro (And.intro (c_strings_HasSuffix p0 (ByteArray.mk #[95, 105, 54, 52]) x5 hx6) True.intro) True.intro) (by kernel_rfl) ?_
  refine AW2.cond (b := x5) rfl (fun hc => ?_) (fun hc => ?_)
  · replace H := ite_t H hc
    refine AW2.seq ?_
    refine AW2.rg [.ks true 18 ([126] : List Int).length (fl (eI .u8) ([126] : List Int))] [2] [] [.k 2, .k 18] ⟨[(2, .p 2 0)], [(2, .st false [.ls 18 0 ([126] : List Int).length, .d (.int .u8 x1)]), (18, .sl false 1 ([126] : List Int).length (fl (eI .u8) ([126] : List Int)))]⟩ (And.intro (And.intro (litK (eI .u8) ([126] : List Int) (fun _ => rfl)) True.intro) True.intro) (by kernel_rfl) ?_
    refine AW2.ret ?_
    have H := Option.some.inj H
    subst H
    exact retP_mk2 (And.intro (Nat.le_refl ([126] : List Int).length) (And.intro (dfl (eI .u8) (dep_eI .u8) ([126] : List Int)) True.intro)) (by kernel_rfl)
  · replace H := ite_f H hc
    refine AW2.seq ?_
    obtain ⟨x7, hx8, H⟩ := bind_some H
    refine AW2.rg [.r (.bool x7)] [2, 3, 5, 21] [] [.k 2] ⟨[(2, .p 2 0), (3, .d (.int .u8 x1)), (5, .d (.str x3.2.1)), (21, .d (.bool x7))], [(2, .st false [.d .nils, .d (.int .u8 0)])]⟩ (And.intro (And.intro (c_strings_Contains x3.2.1 (ByteArray.mk #[101, 120, 116, 101, 110, 100]) x7 hx8) True.intro) True.intro) (by kernel_rfl) ?_
    refine AW2.cond (b := x7) rfl (fun hc => ?_) (fun hc => ?_)
    · replace H := ite_t H hc
      refine AW2.seq ?_
      refine AW2.rg [.ks true 24 ([127] : List Int).length (fl (eI .u8) ([127] : List Int))] [2] [] [.k 2, .k 24] ⟨[(2, .p 2 0)], [(2, .st false [.ls 24 0 ([127] : List Int).length, .d (.int .u8 x1)]), (24, .sl false 1 ([127] : List Int).length (fl (eI .u8) ([127] : List Int)))]⟩ (And.intro (And.intro (litK (eI .u8) ([127] : List Int) (fun _ => rfl)) True.intro) True.intro) (by kernel_rfl) ?_
      refine AW2.ret ?_
      have H := Option.some.inj H
      subst H
      exact retP_mk2 (And.intro (Nat.le_refl ([127] : List Int).length) (And.intro (dfl (eI .u8) (dep_eI .u8) ([127] : List Int)) True.intro)) (by kernel_rfl)
    · replace H := ite_f H hc
      refine AW2.seq ?_
      refine AW2.rg [] [2, 3, 5, 27] [] [.k 2] ⟨[(2, .p 2 0), (3, .d (.int .u8 x1)), (5, .d (.str x3.2.1)), (27, .d (.bool (x3.2.1.toList == (ByteArray.mk #[101, 113, 122]).toList)))], [(2, .st false [.d .nils, .d (.int .u8 0)])]⟩ (And.intro True.intro True.intro) (by kernel_rfl) ?_
      refine AW2.cond (b := (x3.2.1.toList == (ByteArray.mk #[101, 113, 122]).toList)) rfl (fun hc => ?_) (fun hc => ?_)
      · replace H := ite_t H hc
        refine AW2.seq ?_
        refine AW2.rg [.ks true 31 ([x1] : List Int).length (fl (eI .u8) ([x1] : List Int))] [2] [] [.k 2, .k 31] ⟨[(2, .p 2 0)], [(2, .st false [.ls 31 0 ([x1] : List Int).length, .d (.int .u8 127)]), (31, .sl false 1 ([x1] : List Int).length (fl (eI .u8) ([x1] : List Int)))]⟩ (And.intro (And.intro (litK (eI .u8) ([x1] : List Int) (fun _ => rfl)) True.intro) True.intro) (by kernel_rfl) ?_
        refine AW2.ret ?_
        have H := Option.some.inj H
        subst H
        exact retP_mk2 (And.intro (Nat.le_refl ([x1] : List Int).length) (And.intro (dfl (eI .u8) (dep_eI .u8) ([x1] : List Int)) True.intro)) (by kernel_rfl)
      · replace H := ite_f H hc
        refine AW2.seq ?_
        refine AW2.reg [] rfl (YW.to ⟨[(2, .p 2 0), (3, .d (.int .u8 x1)), (5, .d (.str x3.2.1)), (33, .d (.bool ((x3.2.1.toList == (ByteArray.mk #[99, 108, 122]).toList) || ((x3.2.1.toList == (ByteArray.mk #[99, 116, 122]).toList) || (x3.2.1.toList == (ByteArray.mk #[112, 111, 112, 99, 110, 116]).toList)))))], [(2, .st false [.d .nils, .d (.int .u8 0)])]⟩ ?qh14 ?h14)
        case h14 =>
          rcases bT (x3.2.1.toList == (ByteArray.mk #[99, 108, 122]).toList) with hc1 | hc1
          · exact YW.fin [(36, true), (40, true)] [] [2, 3, 5, 33] [(33, .d (.bool ((x3.2.1.toList == (ByteArray.mk #[99, 108, 122]).toList) || ((x3.2.1.toList == (ByteArray.mk #[99, 116, 122]).toList) || (x3.2.1.toList == (ByteArray.mk #[112, 111, 112, 99, 110, 116]).toList)))))] [.k 2] _ (And.intro (And.intro hc1 (And.intro hc1 (And.intro hc1 (And.intro (Eq.refl true) (And.intro (Eq.refl true) (And.intro (Eq.refl true) True.intro)))))) (And.intro (ovB (orT (b := ((x3.2.1.toList == (ByteArray.mk #[99, 116, 122]).toList) || (x3.2.1.toList == (ByteArray.mk #[112, 111, 112, 99, 110, 116]).toList))) hc1)) True.intro)) (by kernel_rfl) rfl
          · rcases bT (x3.2.1.toList == (ByteArray.mk #[99, 116, 122]).toList) with hc2 | hc2
            · exact YW.fin [(36, false), (40, true)] [] [2, 3, 5, 33] [(33, .d (.bool ((x3.2.1.toList == (ByteArray.mk #[99, 108, 122]).toList) || ((x3.2.1.toList == (ByteArray.mk #[99, 116, 122]).toList) || (x3.2.1.toList == (ByteArray.mk #[112, 111, 112, 99, 110, 116]).toList)))))] [.k 2] _ (And.intro (And.intro hc1 (And.intro hc1 (And.intro hc1 (And.intro hc2 (And.intro hc2 (And.intro hc2 True.intro)))))) (And.intro (ovB (Eq.trans (orF (b := ((x3.2.1.toList == (ByteArray.mk #[99, 116, 122]).toList) || (x3.2.1.toList == (ByteArray.mk #[112, 111, 112, 99, 110, 116]).toList))) hc1) (orT (b := (x3.2.1.toList == (ByteArray.mk #[112, 111, 112, 99, 110, 116]).toList)) hc2))) True.intro)) (by kernel_rfl) rfl
            · exact YW.fin [(36, false), (40, false)] [] [2, 3, 5, 33] [(33, .d (.bool ((x3.2.1.toList == (ByteArray.mk #[99, 108, 122]).toList) || ((x3.2.1.toList == (ByteArray.mk #[99, 116, 122]).toList) || (x3.2.1.toList == (ByteArray.mk #[112, 111, 112, 99, 110, 116]).toList)))))] [.k 2] _ (And.intro (And.intro hc1 (And.intro hc1 (And.intro hc1 (And.intro hc2 (And.intro hc2 (And.intro hc2 True.intro)))))) (And.intro (ovB (Eq.trans (orF (b := ((x3.2.1.toList == (ByteArray.mk #[99, 116, 122]).toList) || (x3.2.1.toList == (ByteArray.mk #[112, 111, 112, 99, 110, 116]).toList))) hc1) (Eq.trans (orF (b := (x3.2.1.toList == (ByteArray.mk #[112, 111, 112, 99, 110, 116]).toList)) hc2) (Eq.refl (x3.2.1.toList == (ByteArray.mk #[112, 111, 112, 99, 110, 116]).toList))))) True.intro)) (by kernel_rfl) rfl
        refine AW2.cond (b := ((x3.2.1.toList == (ByteArray.mk #[99, 108, 122]).toList) || ((x3.2.1.toList == (ByteArray.mk #[99, 116, 122]).toList) || (x3.2.1.toList == (ByteArray.mk #[112, 111, 112, 99, 110, 116]).toList)))) rfl (fun hc => ?_) (fun hc => ?_)
        · replace H := ite_t H hc
          refine AW2.seq ?_
          refine AW2.rg [.ks true 45 ([x1] : List Int).length (fl (eI .u8) ([x1] : List Int))] [2] [] [.k 2, .k 45] ⟨[(2, .p 2 0)], [(2, .st false [.ls 45 0 ([x1] : List Int).length, .d (.int .u8 x1)]), (45, .sl false 1 ([x1] : List Int).length (fl (eI .u8) ([x1] : List Int)))]⟩ (And.intro (And.intro (litK (eI .u8) ([x1] : List Int) (fun _ => rfl)) True.intro) True.intro) (by kernel_rfl) ?_
          refine AW2.ret ?_
          have H := Option.some.inj H
          subst H
          exact retP_mk2 (And.intro (Nat.le_refl ([x1] : List Int).length) (And.intro (dfl (eI .u8) (dep_eI .u8) ([x1] : List Int)) True.intro)) (by kernel_rfl)
        · replace H := ite_f H hc
          refine AW2.seq ?_
          obtain ⟨h9, H⟩ := gd_some H
          obtain ⟨h10, H⟩ := gd_some H
          obtain ⟨h11, H⟩ := gd_some H
          obtain ⟨x12, hx13, H⟩ := bind_some H
          refine AW2.rg [.r (.bool x12)] [2, 3, 48] [] [.k 2] ⟨[(2, .p 2 0), (3, .d (.int .u8 x1)), (48, .d (.bool x12))], [(2, .st false [.d .nils, .d (.int .u8 0)])]⟩ (And.intro (And.intro h9 (And.intro h10 (And.intro h11 (And.intro (c_strings_Contains (ByteArray.mk #[32, 101, 113, 32, 110, 101, 32, 108, 116, 32, 103, 116, 32, 108, 101, 32, 103, 101, 32]) (((ByteArray.mk #[32]) ++ (ByteArray.extract x3.2.1 (0 : Int).toNat (2 : Int).toNat)) ++ (ByteArray.mk #[32])) x12 hx13) True.intro)))) True.intro) (by kernel_rfl) ?_
          refine AW2.cond (b := x12) rfl (fun hc => ?_) (fun hc => ?_)
          · replace H := ite_t H hc
            refine AW2.seq ?_
            refine AW2.rg [.ks true 56 ([x1, x1] : List Int).length (fl (eI .u8) ([x1, x1] : List Int))] [2] [] [.k 2, .k 56] ⟨[(2, .p 2 0)], [(2, .st false [.ls 56 0 ([x1, x1] : List Int).length, .d (.int .u8 127)]), (56, .sl false 1 ([x1, x1] : List Int).length (fl (eI .u8) ([x1, x1] : List Int)))]⟩ (And.intro (And.intro (litK (eI .u8) ([x1, x1] : List Int) (fun _ => rfl)) True.intro) True.intro) (by kernel_rfl) ?_
            refine AW2.ret ?_
            have H := Option.some.inj H
            subst H
            exact retP_mk2 (And.intro (Nat.le_refl ([x1, x1] : List Int).length) (And.intro (dfl (eI .u8) (dep_eI .u8) ([x1, x1] : List Int)) True.intro)) (by kernel_rfl)
          · replace H := ite_f H hc
            refine AW2.skip ?_
            refine AW2.seq ?_
            refine AW2.rg [.ks true 60 ([x1, x1] : List Int).length (fl (eI .u8) ([x1, x1] : List Int))] [2] [] [.k 2, .k 60] ⟨[(2, .p 2 0)], [(2, .st false [.ls 60 0 ([x1, x1] : List Int).length, .d (.int .u8 x1)]), (60, .sl false 1 ([x1, x1] : List Int).length (fl (eI .u8) ([x1, x1] : List Int)))]⟩ (And.intro (And.intro (litK (eI .u8) ([x1, x1] : List Int) (fun _ => rfl)) True.intro) True.intro) (by kernel_rfl) ?_
            refine AW2.ret ?_
            have H := Option.some.inj H
            subst H
            exact retP_mk2 (And.intro (Nat.le_refl ([x1, x1] : List Int).length) (And.intro (dfl (eI .u8) (dep_eI .u8) ([x1, x1] : List Int)) True.intro)) (by kernel_rfl)

/- mandrel/ops.Sign -/
def g_ops_Sign (p0 : Int) : Option (Typ × Option Int) := ((g_ops_NameB p0).bind fun x1 => (if ((x1.toList == (ByteArray.mk #[]).toList) || (decide (p0 < (40 : Int)))) = true then some ((Typ.mk ([] : List Int) 0), (some 1)) else (if (decide (p0 ≤ (53 : Int))) = true then ((g_ops_own x1).bind fun x3 => some ((Typ.mk ([127] : List Int) x3), none)) else (if (decide (p0 ≤ (62 : Int))) = true then ((g_ops_own x1).bind fun x5 => some ((Typ.mk ([127, x5] : List Int) 0), none)) else (if (p0 == (63 : Int)) = true then some ((Typ.mk ([] : List Int) 127), none) else (if (p0 == (64 : Int)) = true then some ((Typ.mk ([127] : List Int) 127), none) else (if (decide (p0 ≤ (66 : Int))) = true then ((g_ops_own x1).bind fun x7 => some ((Typ.mk ([] : List Int) x7), none)) else ((g_ops_reckoned x1).bind fun x9 => some (x9, none)))))))))

theorem c_ops_Sign (p0 : Int) (r : Typ × Option Int) (H : g_ops_Sign p0 = some r) : CF E 85 [.int .u8 p0] (.tup [.agg (eTyp r.1), .err 45 r.2]) := by
  refine cf_of (A := F_ops_Sign) fn_ops_Sign rfl fun fr => ?_
  unfold g_ops_Sign at H
  refine AW2.seq ?_
  refine AW2.rg [.k 2] [0, 2] [] [.k 2] ⟨[(0, .d (.int .u8 p0)), (2, .p 2 0)], [(2, .st false [.d .nils, .d (.int .u8 0)])]⟩ (And.intro True.intro True.intro) (by kernel_rfl) ?_
  refine AW2.seq ?_
  obtain ⟨x1, hx2, H⟩ := bind_some H
  refine AW2.rg [.r (.str x1)] [0, 2, 4] [] [.k 2] ⟨[(0, .d (.int .u8 p0)), (2, .p 2 0), (4, .d (.str x1))], [(2, .st false [.d .nils, .d (.int .u8 0)])]⟩ (And.intro (And.intro (c_ops_NameB p0 x1 hx2) True.intro) True.intro) (by kernel_rfl) ?_
  refine AW2.seq ?_
  refine AW2.block ?_
  refine AW2.seq ?_
  refine AW2.reg [] rfl (YW.to ⟨[(0, .d (.int .u8 p0)), (2, .p 2 0), (4, .d (.str x1)), (7, .d (.bool ((x1.toList == (ByteArray.mk #[]).toList) || (decide (p0 < (40 : Int))))))], [(2, .st false [.d .nils, .d (.int .u8 0)])]⟩ ?qh11 ?h11)
  case h11 =>
    rcases bT (x1.toList == (ByteArray.mk #[]).toList) with hc1 | hc1
    · exact YW.fin [(10, true)] [] [0, 2, 4, 7] [(7, .d (.bool ((x1.toList == (ByteArray.mk #[]).toList) || (decide (p0 < (40 : Int))))))] [.k 2] _ (And.intro (And.intro hc1 (And.intro hc1 (And.intro hc1 True.intro))) (And.intro (ovB (orT (b := (decide (p0 < (40 : Int)))) hc1)) True.intro)) (by kernel_rfl) rfl
    · exact YW.fin [(10, false)] [] [0, 2, 4, 7] [(7, .d (.bool ((x1.toList == (ByteArray.mk #[]).toList) || (decide (p0 < (40 : Int))))))] [.k 2] _ (And.intro (And.intro hc1 (And.intro hc1 (And.intro hc1 True.intro))) (And.intro (ovB (Eq.trans (orF (b := (decide (p0 < (40 : Int)))) hc1) (Eq.refl (decide (p0 < (40 : Int)))))) True.intro)) (by kernel_rfl) rfl
  refine AW2.cond (b := ((x1.toList == (ByteArray.mk #[]).toList) || (decide (p0 < (40 : Int))))) rfl (fun hc => ?_) (fun hc => ?_)
  · replace H := ite_t H hc
    refine AW2.seq ?_
    refine AW2.rg [] [2, 3] [] [.k 2] ⟨[(2, .p 2 0), (3, .d (.err 45 (some 1)))], [(2, .st false [.d .nils, .d (.int .u8 0)])]⟩ (And.intro True.intro True.intro) (by kernel_rfl) ?_
    refine AW2.ret ?_
    have H := Option.some.inj H
    subst H
    exact retP_mk2 True.intro (by kernel_rfl)
  · replace H := ite_f H hc
    refine AW2.seq ?_
    refine AW2.rg [] [0, 2, 4, 16] [] [.k 2] ⟨[(0, .d (.int .u8 p0)), (2, .p 2 0), (4, .d (.str x1)), (16, .d (.bool (decide (p0 ≤ (53 : Int)))))], [(2, .st false [.d .nils, .d (.int .u8 0)])]⟩ (And.intro True.intro True.intro) (by kernel_rfl) ?_
    refine AW2.cond (b := (decide (p0 ≤ (53 : Int)))) rfl (fun hc => ?_) (fun hc => ?_)
    · replace H := ite_t H hc
      refine AW2.seq ?_
      obtain ⟨x3, hx4, H⟩ := bind_some H
      refine AW2.rg [.ks true 19 ([127] : List Int).length (fl (eI .u8) ([127] : List Int)), .r (.int .u8 x3)] [2, 3] [] [.k 2, .k 19] ⟨[(2, .p 2 0), (3, .d .nili)], [(2, .st false [.ls 19 0 ([127] : List Int).length, .d (.int .u8 x3)]), (19, .sl false 1 ([127] : List Int).length (fl (eI .u8) ([127] : List Int)))]⟩ (And.intro (And.intro (litK (eI .u8) ([127] : List Int) (fun _ => rfl)) (And.intro (c_ops_own x1 x3 hx4) True.intro)) True.intro) (by kernel_rfl) ?_
      refine AW2.ret ?_
      have H := Option.some.inj H
      subst H
      exact retP_mk2 (And.intro (Nat.le_refl ([127] : List Int).length) (And.intro (dfl (eI .u8) (dep_eI .u8) ([127] : List Int)) True.intro)) (by kernel_rfl)
    · replace H := ite_f H hc
      refine AW2.seq ?_
      refine AW2.rg [] [0, 2, 4, 23] [] [.k 2] ⟨[(0, .d (.int .u8 p0)), (2, .p 2 0), (4, .d (.str x1)), (23, .d (.bool (decide (p0 ≤ (62 : Int)))))], [(2, .st false [.d .nils, .d (.int .u8 0)])]⟩ (And.intro True.intro True.intro) (by kernel_rfl) ?_
      refine AW2.cond (b := (decide (p0 ≤ (62 : Int)))) rfl (fun hc => ?_) (fun hc => ?_)
      · replace H := ite_t H hc
        refine AW2.seq ?_
        obtain ⟨x5, hx6, H⟩ := bind_some H
        refine AW2.rg [.r (.int .u8 x5), .ks true 28 ([127, x5] : List Int).length (fl (eI .u8) ([127, x5] : List Int))] [2, 3] [] [.k 2, .k 28] ⟨[(2, .p 2 0), (3, .d .nili)], [(2, .st false [.ls 28 0 ([127, x5] : List Int).length, .d (.int .u8 0)]), (28, .sl false 1 ([127, x5] : List Int).length (fl (eI .u8) ([127, x5] : List Int)))]⟩ (And.intro (And.intro (c_ops_own x1 x5 hx6) (And.intro (litK (eI .u8) ([127, x5] : List Int) (fun _ => rfl)) True.intro)) True.intro) (by kernel_rfl) ?_
        refine AW2.ret ?_
        have H := Option.some.inj H
        subst H
        exact retP_mk2 (And.intro (Nat.le_refl ([127, x5] : List Int).length) (And.intro (dfl (eI .u8) (dep_eI .u8) ([127, x5] : List Int)) True.intro)) (by kernel_rfl)
      · replace H := ite_f H hc
        refine AW2.seq ?_
        refine AW2.rg [] [0, 2, 4, 30] [] [.k 2] ⟨[(0, .d (.int .u8 p0)), (2, .p 2 0), (4, .d (.str x1)), (30, .d (.bool (p0 == (63 : Int))))], [(2, .st false [.d .nils, .d (.int .u8 0)])]⟩ (And.intro True.intro True.intro) (by kernel_rfl) ?_
        refine AW2.cond (b := (p0 == (63 : Int))) rfl (fun hc => ?_) (fun hc => ?_)
        · replace H := ite_t H hc
          refine AW2.seq ?_
          refine AW2.rg [] [2, 3] [] [.k 2] ⟨[(2, .p 2 0), (3, .d .nili)], [(2, .st false [.d .nils, .d (.int .u8 127)])]⟩ (And.intro True.intro True.intro) (by kernel_rfl) ?_
          refine AW2.ret ?_
          have H := Option.some.inj H
          subst H
          exact retP_mk2 True.intro (by kernel_rfl)
        · replace H := ite_f H hc
          refine AW2.seq ?_
          refine AW2.rg [] [0, 2, 4, 34] [] [.k 2] ⟨[(0, .d (.int .u8 p0)), (2, .p 2 0), (4, .d (.str x1)), (34, .d (.bool (p0 == (64 : Int))))], [(2, .st false [.d .nils, .d (.int .u8 0)])]⟩ (And.intro True.intro True.intro) (by kernel_rfl) ?_
          refine AW2.cond (b := (p0 == (64 : Int))) rfl (fun hc => ?_) (fun hc => ?_)
          · replace H := ite_t H hc
            refine AW2.seq ?_
            refine AW2.rg [.ks true 37 ([127] : List Int).length (fl (eI .u8) ([127] : List Int))] [2, 3] [] [.k 2, .k 37] ⟨[(2, .p 2 0), (3, .d .nili)], [(2, .st false [.ls 37 0 ([127] : List Int).length, .d (.int .u8 127)]), (37, .sl false 1 ([127] : List Int).length (fl (eI .u8) ([127] : List Int)))]⟩ (And.intro (And.intro (litK (eI .u8) ([127] : List Int) (fun _ => rfl)) True.intro) True.intro) (by kernel_rfl) ?_
            refine AW2.ret ?_
            have H := Option.some.inj H
            subst H
            exact retP_mk2 (And.intro (Nat.le_refl ([127] : List Int).length) (And.intro (dfl (eI .u8) (dep_eI .u8) ([127] : List Int)) True.intro)) (by kernel_rfl)
          · replace H := ite_f H hc
            refine AW2.seq ?_
            refine AW2.rg [] [2, 4, 39] [] [.k 2] ⟨[(2, .p 2 0), (4, .d (.str x1)), (39, .d (.bool (decide (p0 ≤ (66 : Int)))))], [(2, .st false [.d .nils, .d (.int .u8 0)])]⟩ (And.intro True.intro True.intro) (by kernel_rfl) ?_
            refine AW2.cond (b := (decide (p0 ≤ (66 : Int)))) rfl (fun hc => ?_) (fun hc => ?_)
            · replace H := ite_t H hc
              refine AW2.seq ?_
              obtain ⟨x7, hx8, H⟩ := bind_some H
              refine AW2.rg [.r (.int .u8 x7)] [2, 3] [] [.k 2] ⟨[(2, .p 2 0), (3, .d .nili)], [(2, .st false [.d .nils, .d (.int .u8 x7)])]⟩ (And.intro (And.intro (c_ops_own x1 x7 hx8) True.intro) True.intro) (by kernel_rfl) ?_
              refine AW2.ret ?_
              have H := Option.some.inj H
              subst H
              exact retP_mk2 True.intro (by kernel_rfl)
            · replace H := ite_f H hc
              refine AW2.skip ?_
              refine AW2.seq ?_
              obtain ⟨x9, hx10, H⟩ := bind_some H
              refine AW2.rg [.r (.agg (eTyp x9))] [2, 3] [] [.k 2] ⟨[(2, .p 2 0), (3, .d .nili)], [(2, .st false (eD (eTyp x9)))]⟩ (And.intro (And.intro (c_ops_reckoned x1 x9 hx10) True.intro) True.intro) (by kernel_rfl) ?_
              refine AW2.ret ?_
              have H := Option.some.inj H
              subst H
              exact retP_mk2 True.intro (by kernel_rfl)

/- internal/stringslite.CutSuffix -/
def g_stringslite_CutSuffix (p0 : ByteArray) (p1 : ByteArray) : Option (ByteArray × Bool) := ((g_stringslite_HasSuffix p0 p1).bind fun x1 => (if (!x1) = true then some (p0, false) else gd (0 ≤ (0 : Int) ∧ (0 : Int) ≤ (wI ((p0.size : Int) - (p1.size : Int))) ∧ (wI ((p0.size : Int) - (p1.size : Int))) ≤ (p0.size : Int)) (some ((ByteArray.extract p0 (0 : Int).toNat ((wI ((p0.size : Int) - (p1.size : Int))) : Int).toNat), true))))

theorem c_stringslite_CutSuffix (p0 : ByteArray) (p1 : ByteArray) (r : ByteArray × Bool) (H : g_stringslite_CutSuffix p0 p1 = some r) : CF E 100 [.str p0, .str p1] (.tup [.str r.1, .bool r.2]) := by
  refine cf_of (A := F_stringslite_CutSuffix) fn_stringslite_CutSuffix rfl fun fr => ?_
  unfold g_stringslite_CutSuffix at H
  refine AW2.seq ?_
  refine AW2.rg [] [0, 1] [] [] ⟨[(0, .d (.str p0)), (1, .d (.str p1))], []⟩ (And.intro True.intro True.intro) (by kernel_rfl) ?_
  refine AW2.seq ?_
  refine AW2.seq ?_
  obtain ⟨x1, hx2, H⟩ := bind_some H
  refine AW2.rg [.r (.bool x1)] [0, 1, 9] [] [] ⟨[(0, .d (.str p0)), (1, .d (.str p1)), (9, .d (.bool (!x1)))], []⟩ (And.intro (And.intro (c_stringslite_HasSuffix p0 p1 x1 hx2) True.intro) True.intro) (by kernel_rfl) ?_
  refine AW2.cond (b := (!x1)) rfl (fun hc => ?_) (fun hc => ?_)
  · replace H := ite_t H hc
    refine AW2.seq ?_
    refine AW2.rg [] [4, 5] [] [] ⟨[(4, .d (.str p0)), (5, .d (.bool false))], []⟩ (And.intro True.intro True.intro) (by kernel_rfl) ?_
    refine AW2.ret ?_
    have H := Option.some.inj H
    subst H
    exact retP_mk2 True.intro (by kernel_rfl)
  · replace H := ite_f H hc
    refine AW2.skip ?_
    refine AW2.seq ?_
    obtain ⟨h3, H⟩ := gd_some H
    refine AW2.rg [] [4, 5] [] [] ⟨[(4, .d (.str (ByteArray.extract p0 (0 : Int).toNat ((wI ((p0.size : Int) - (p1.size : Int))) : Int).toNat))), (5, .d (.bool true))], []⟩ (And.intro (And.intro h3 True.intro) True.intro) (by kernel_rfl) ?_
    refine AW2.ret ?_
    have H := Option.some.inj H
    subst H
    exact retP_mk2 True.intro (by kernel_rfl)

/- strings.CutSuffix -/
def g_strings_CutSuffix (p0 : ByteArray) (p1 : ByteArray) : Option (ByteArray × Bool) := ((g_stringslite_CutSuffix p0 p1).bind fun x1 => some (x1.1, x1.2))

theorem c_strings_CutSuffix (p0 : ByteArray) (p1 : ByteArray) (r : ByteArray × Bool) (H : g_strings_CutSuffix p0 p1 = some r) : CF E 91 [.str p0, .str p1] (.tup [.str r.1, .bool r.2]) := by
  refine cf_of (A := F_strings_CutSuffix) fn_strings_CutSuffix rfl fun fr => ?_
  unfold g_strings_CutSuffix at H
  refine AW2.seq ?_
  refine AW2.rg [] [0, 1] [] [] ⟨[(0, .d (.str p0)), (1, .d (.str p1))], []⟩ (And.intro True.intro True.intro) (by kernel_rfl) ?_
  refine AW2.seq ?_
  obtain ⟨x1, hx2, H⟩ := bind_some H
  refine AW2.rg [.r (.tup [.str x1.1, .bool x1.2])] [4, 5] [] [] ⟨[(4, .d (.str x1.1)), (5, .d (.bool x1.2))], []⟩ (And.intro (And.intro (c_stringslite_CutSuffix p0 p1 x1 hx2) True.intro) True.intro) (by kernel_rfl) ?_
  refine AW2.ret ?_
  have H := Option.some.inj H
  subst H
  exact retP_mk2 True.intro (by kernel_rfl)

/- internal/stringslite.TrimSuffix -/
def g_stringslite_TrimSuffix (p0 : ByteArray) (p1 : ByteArray) : Option (ByteArray) := ((g_stringslite_HasSuffix p0 p1).bind fun x1 => (if x1 = true then gd (0 ≤ (0 : Int) ∧ (0 : Int) ≤ (wI ((p0.size : Int) - (p1.size : Int))) ∧ (wI ((p0.size : Int) - (p1.size : Int))) ≤ (p0.size : Int)) (some (ByteArray.extract p0 (0 : Int).toNat ((wI ((p0.size : Int) - (p1.size : Int))) : Int).toNat)) else some p0))

theorem c_stringslite_TrimSuffix (p0 : ByteArray) (p1 : ByteArray) (r : ByteArray) (H : g_stringslite_TrimSuffix p0 p1 = some r) : CF E 101 [.str p0, .str p1] (.str r) := by
  refine cf_of (A := F_stringslite_TrimSuffix) fn_stringslite_TrimSuffix rfl fun fr => ?_
  unfold g_stringslite_TrimSuffix at H
  refine AW2.seq ?_
  refine AW2.rg [] [0, 1] [] [] ⟨[(0, .d (.str p0)), (1, .d (.str p1))], []⟩ (And.intro True.intro True.intro) (by kernel_rfl) ?_
  refine AW2.seq ?_
  refine AW2.seq ?_
  obtain ⟨x1, hx2, H⟩ := bind_some H
  refine AW2.rg [.r (.bool x1)] [0, 1, 7] [] [] ⟨[(0, .d (.str p0)), (1, .d (.str p1)), (7, .d (.bool x1))], []⟩ (And.intro (And.intro (c_stringslite_HasSuffix p0 p1 x1 hx2) True.intro) True.intro) (by kernel_rfl) ?_
  refine AW2.cond (b := x1) rfl (fun hc => ?_) (fun hc => ?_)
  · replace H := ite_t H hc
    refine AW2.seq ?_
    obtain ⟨h3, H⟩ := gd_some H
    refine AW2.rg [] [4] [] [] ⟨[(4, .d (.str (ByteArray.extract p0 (0 : Int).toNat ((wI ((p0.size : Int) - (p1.size : Int))) : Int).toNat)))], []⟩ (And.intro (And.intro h3 True.intro) True.intro) (by kernel_rfl) ?_
    refine AW2.ret ?_
    have H := Option.some.inj H
    subst H
    exact retP_mk2 True.intro (by kernel_rfl)
  · replace H := ite_f H hc
    refine AW2.skip ?_
    refine AW2.seq ?_
    refine AW2.rg [] [4] [] [] ⟨[(4, .d (.str p0))], []⟩ (And.intro True.intro True.intro) (by kernel_rfl) ?_
    refine AW2.ret ?_
    have H := Option.some.inj H
    subst H
    exact retP_mk2 True.intro (by kernel_rfl)

/- strings.TrimSuffix -/
def g_strings_TrimSuffix (p0 : ByteArray) (p1 : ByteArray) : Option (ByteArray) := ((g_stringslite_TrimSuffix p0 p1).bind fun x1 => some x1)

theorem c_strings_TrimSuffix (p0 : ByteArray) (p1 : ByteArray) (r : ByteArray) (H : g_strings_TrimSuffix p0 p1 = some r) : CF E 92 [.str p0, .str p1] (.str r) := by
  refine cf_of (A := F_strings_TrimSuffix) fn_strings_TrimSuffix rfl fun fr => ?_
  unfold g_strings_TrimSuffix at H
  refine AW2.seq ?_
  refine AW2.rg [] [0, 1] [] [] ⟨[(0, .d (.str p0)), (1, .d (.str p1))], []⟩ (And.intro True.intro True.intro) (by kernel_rfl) ?_
  refine AW2.seq ?_
  obtain ⟨x1, hx2, H⟩ := bind_some H
  refine AW2.rg [.r (.str x1)] [4] [] [] ⟨[(4, .d (.str x1))], []⟩ (And.intro (And.intro (c_stringslite_TrimSuffix p0 p1 x1 hx2) True.intro) True.intro) (by kernel_rfl) ?_
  refine AW2.ret ?_
  have H := Option.some.inj H
  subst H
  exact retP_mk2 True.intro (by kernel_rfl)

/- mandrel/ops.Bytes -/
def g_ops_Bytes (p0 : Int) : Option (Int × Bool × Option Int) := ((g_ops_NameB p0).bind fun x1 => (if ((x1.toList == (ByteArray.mk #[]).toList) || ((decide (p0 < (40 : Int))) || (decide (p0 > (62 : Int))))) = true then some (0, false, (some 1)) else ((g_strings_CutSuffix x1 (ByteArray.mk #[95, 115])).bind fun x3 => ((g_strings_TrimSuffix x3.1 (ByteArray.mk #[95, 117])).bind fun x5 => ((g_strings_HasSuffix x5 (ByteArray.mk #[56])).bind fun x7 => (if x7 = true then some (1, x3.2, none) else ((g_strings_HasSuffix x5 (ByteArray.mk #[49, 54])).bind fun x9 => (if x9 = true then some (2, x3.2, none) else ((g_strings_HasSuffix x5 (ByteArray.mk #[51, 50])).bind fun x11 => ((if x11 = true then some true else ((g_ops_own x1).bind fun x13 => some (x13 == (127 : Int))))).bind (fun j15 => (if j15 = true then some (4, x3.2, none) else some (8, x3.2, none))))))))))))

theorem c_ops_Bytes (p0 : Int) (r : Int × Bool × Option Int) (H : g_ops_Bytes p0 = some r) : CF E 86 [.int .u8 p0] (.tup [.int .i64 r.1, .bool r.2.1, .err 45 r.2.2]) := by
  refine cf_of (A := F_ops_Bytes) fn_ops_Bytes rfl fun fr => ?_
  unfold g_ops_Bytes at H
  refine AW2.seq ?_
  refine AW2.rg [] [0] [] [] ⟨[(0, .d (.int .u8 p0))], []⟩ (And.intro True.intro True.intro) (by kernel_rfl) ?_
  refine AW2.seq ?_
  obtain ⟨x1, hx2, H⟩ := bind_some H
  refine AW2.rg [.r (.str x1)] [0, 5] [] [] ⟨[(0, .d (.int .u8 p0)), (5, .d (.str x1))], []⟩ (And.intro (And.intro (c_ops_NameB p0 x1 hx2) True.intro) True.intro) (by kernel_rfl) ?_
  refine AW2.seq ?_
  refine AW2.seq ?_
  refine AW2.reg [] rfl (YW.to ⟨[(5, .d (.str x1)), (19, .d (.bool ((x1.toList == (ByteArray.mk #[]).toList) || ((decide (p0 < (40 : Int))) || (decide (p0 > (62 : Int)))))))], []⟩ ?qh19 ?h19)
  case h19 =>
    rcases bT (x1.toList == (ByteArray.mk #[]).toList) with hc1 | hc1
    · exact YW.fin [(12, true), (16, true)] [] [5, 19] [(19, .d (.bool ((x1.toList == (ByteArray.mk #[]).toList) || ((decide (p0 < (40 : Int))) || (decide (p0 > (62 : Int)))))))] [] _ (And.intro (And.intro hc1 (And.intro hc1 (And.intro hc1 (And.intro (Eq.refl true) (And.intro (Eq.refl true) (And.intro (Eq.refl true) True.intro)))))) (And.intro (ovB (orT (b := ((decide (p0 < (40 : Int))) || (decide (p0 > (62 : Int))))) hc1)) True.intro)) (by kernel_rfl) rfl
    · rcases bT (decide (p0 < (40 : Int))) with hc2 | hc2
      · exact YW.fin [(12, false), (16, true)] [] [5, 19] [(19, .d (.bool ((x1.toList == (ByteArray.mk #[]).toList) || ((decide (p0 < (40 : Int))) || (decide (p0 > (62 : Int)))))))] [] _ (And.intro (And.intro hc1 (And.intro hc1 (And.intro hc1 (And.intro hc2 (And.intro hc2 (And.intro hc2 True.intro)))))) (And.intro (ovB (Eq.trans (orF (b := ((decide (p0 < (40 : Int))) || (decide (p0 > (62 : Int))))) hc1) (orT (b := (decide (p0 > (62 : Int)))) hc2))) True.intro)) (by kernel_rfl) rfl
      · exact YW.fin [(12, false), (16, false)] [] [5, 19] [(19, .d (.bool ((x1.toList == (ByteArray.mk #[]).toList) || ((decide (p0 < (40 : Int))) || (decide (p0 > (62 : Int)))))))] [] _ (And.intro (And.intro hc1 (And.intro hc1 (And.intro hc1 (And.intro hc2 (And.intro hc2 (And.intro hc2 True.intro)))))) (And.intro (ovB (Eq.trans (orF (b := ((decide (p0 < (40 : Int))) || (decide (p0 > (62 : Int))))) hc1) (Eq.trans (orF (b := (decide (p0 > (62 : Int)))) hc2) (Eq.refl (decide (p0 > (62 : Int))))))) True.intro)) (by kernel_rfl) rfl
  refine AW2.cond (b := ((x1.toList == (ByteArray.mk #[]).toList) || ((decide (p0 < (40 : Int))) || (decide (p0 > (62 : Int)))))) rfl (fun hc => ?_) (fun hc => ?_)
  · replace H := ite_t H hc
    refine AW2.seq ?_
    refine AW2.rg [] [2, 3, 4] [] [] ⟨[(2, .d (.int .i64 0)), (3, .d (.bool false)), (4, .d (.err 45 (some 1)))], []⟩ (And.intro True.intro True.intro) (by kernel_rfl) ?_
    refine AW2.ret ?_
    have H := Option.some.inj H
    subst H
    exact retP_mk2 True.intro (by kernel_rfl)
  · replace H := ite_f H hc
    refine AW2.skip ?_
    refine AW2.seq ?_
    obtain ⟨x3, hx4, H⟩ := bind_some H
    refine AW2.rg [.r (.tup [.str x3.1, .bool x3.2])] [5, 6, 7] [] [] ⟨[(5, .d (.str x1)), (6, .d (.str x3.1)), (7, .d (.bool x3.2))], []⟩ (And.intro (And.intro (c_strings_CutSuffix x1 (ByteArray.mk #[95, 115]) x3 hx4) True.intro) True.intro) (by kernel_rfl) ?_
    refine AW2.seq ?_
    obtain ⟨x5, hx6, H⟩ := bind_some H
    refine AW2.rg [.r (.str x5)] [5, 6, 7] [] [] ⟨[(5, .d (.str x1)), (6, .d (.str x5)), (7, .d (.bool x3.2))], []⟩ (And.intro (And.intro (c_strings_TrimSuffix x3.1 (ByteArray.mk #[95, 117]) x5 hx6) True.intro) True.intro) (by kernel_rfl) ?_
    refine AW2.seq ?_
    refine AW2.block ?_
    refine AW2.seq ?_
    obtain ⟨x7, hx8, H⟩ := bind_some H
    refine AW2.rg [.r (.bool x7)] [5, 6, 7, 28] [] [] ⟨[(5, .d (.str x1)), (6, .d (.str x5)), (7, .d (.bool x3.2)), (28, .d (.bool x7))], []⟩ (And.intro (And.intro (c_strings_HasSuffix x5 (ByteArray.mk #[56]) x7 hx8) True.intro) True.intro) (by kernel_rfl) ?_
    refine AW2.cond (b := x7) rfl (fun hc => ?_) (fun hc => ?_)
    · replace H := ite_t H hc
      refine AW2.seq ?_
      refine AW2.rg [] [2, 3, 4] [] [] ⟨[(2, .d (.int .i64 1)), (3, .d (.bool x3.2)), (4, .d .nili)], []⟩ (And.intro True.intro True.intro) (by kernel_rfl) ?_
      refine AW2.ret ?_
      have H := Option.some.inj H
      subst H
      exact retP_mk2 True.intro (by kernel_rfl)
    · replace H := ite_f H hc
      refine AW2.seq ?_
      obtain ⟨x9, hx10, H⟩ := bind_some H
      refine AW2.rg [.r (.bool x9)] [5, 6, 7, 32] [] [] ⟨[(5, .d (.str x1)), (6, .d (.str x5)), (7, .d (.bool x3.2)), (32, .d (.bool x9))], []⟩ (And.intro (And.intro (c_strings_HasSuffix x5 (ByteArray.mk #[49, 54]) x9 hx10) True.intro) True.intro) (by kernel_rfl) ?_
      refine AW2.cond (b := x9) rfl (fun hc => ?_) (fun hc => ?_)
      · replace H := ite_t H hc
        refine AW2.seq ?_
        refine AW2.rg [] [2, 3, 4] [] [] ⟨[(2, .d (.int .i64 2)), (3, .d (.bool x3.2)), (4, .d .nili)], []⟩ (And.intro True.intro True.intro) (by kernel_rfl) ?_
        refine AW2.ret ?_
        have H := Option.some.inj H
        subst H
        exact retP_mk2 True.intro (by kernel_rfl)
      · replace H := ite_f H hc
        refine AW2.seq ?_
        obtain ⟨x11, hx12, H⟩ := bind_some H
        obtain ⟨j15, H17, H⟩ := bind_some H
        refine AW2.reg [] rfl (YW.to ⟨[(7, .d (.bool x3.2)), (36, .d (.bool j15))], []⟩ ?qh18 ?h18)
        case h18 =>
          have H := H17
          rcases bT x11 with hc1 | hc1
          · replace H := ite_t H hc1
            have H := Option.some.inj H
            subst H
            exact YW.fin [(39, true)] [.r (.bool x11)] [7, 36] [] [] _ (And.intro (And.intro (c_strings_HasSuffix x5 (ByteArray.mk #[51, 50]) x11 hx12) (And.intro hc1 (And.intro hc1 (And.intro hc1 (And.intro hc1 True.intro))))) True.intro) (by kernel_rfl) rfl
          · replace H := ite_f H hc1
            obtain ⟨x13, hx14, H⟩ := bind_some H
            have H := Option.some.inj H
            subst H
            exact YW.fin [(39, false)] [.r (.bool x11), .r (.int .u8 x13)] [7, 36] [] [] _ (And.intro (And.intro (c_strings_HasSuffix x5 (ByteArray.mk #[51, 50]) x11 hx12) (And.intro hc1 (And.intro hc1 (And.intro (c_ops_own x1 x13 hx14) (And.intro hc1 (And.intro hc1 True.intro)))))) True.intro) (by kernel_rfl) rfl
        refine AW2.cond (b := j15) rfl (fun hc => ?_) (fun hc => ?_)
        · replace H := ite_t H hc
          refine AW2.seq ?_
          refine AW2.rg [] [2, 3, 4] [] [] ⟨[(2, .d (.int .i64 4)), (3, .d (.bool x3.2)), (4, .d .nili)], []⟩ (And.intro True.intro True.intro) (by kernel_rfl) ?_
          refine AW2.ret ?_
          have H := Option.some.inj H
          subst H
          exact retP_mk2 True.intro (by kernel_rfl)
        · replace H := ite_f H hc
          refine AW2.skip ?_
          refine AW2.seq ?_
          refine AW2.rg [] [2, 3, 4] [] [] ⟨[(2, .d (.int .i64 8)), (3, .d (.bool x3.2)), (4, .d .nili)], []⟩ (And.intro True.intro True.intro) (by kernel_rfl) ?_
          refine AW2.ret ?_
          have H := Option.some.inj H
          subst H
          exact retP_mk2 True.intro (by kernel_rfl)

/- mandrel/ops.Form -/
def g_ops_Form (p0 : Int) : Option (Int × Option Int) := ((g_ops_NameB p0).bind fun x1 => (if (x1.toList == (ByteArray.mk #[]).toList) = true then some (0, (some 1)) else (if ((p0 == (2 : Int)) || (p0 == (3 : Int))) = true then some (6, none) else (if (p0 == (4 : Int)) = true then some (7, none) else (if (p0 == (14 : Int)) = true then some (8, none) else (if (p0 == (17 : Int)) = true then some (9, none) else (if ((p0 == (12 : Int)) || ((p0 == (13 : Int)) || ((p0 == (16 : Int)) || ((decide (p0 ≥ (32 : Int))) && (decide (p0 ≤ (36 : Int))))))) = true then some (3, none) else (if ((decide (p0 ≥ (40 : Int))) && (decide (p0 ≤ (62 : Int)))) = true then some (4, none) else (if ((p0 == (63 : Int)) || (p0 == (64 : Int))) = true then some (5, none) else (if (p0 == (65 : Int)) = true then some (1, none) else (if (p0 == (66 : Int)) = true then some (2, none) else some (0, none))))))))))))

theorem c_ops_Form (p0 : Int) (r : Int × Option Int) (H : g_ops_Form p0 = some r) : CF E 87 [.int .u8 p0] (.tup [.int .i64 r.1, .err 45 r.2]) := by
  refine cf_of (A := F_ops_Form) fn_ops_Form rfl fun fr => ?_
  unfold g_ops_Form at H
  refine AW2.seq ?_
  refine AW2.rg [] [0] [] [] ⟨[(0, .d (.int .u8 p0))], []⟩ (And.intro True.intro True.intro) (by kernel_rfl) ?_
  refine AW2.seq ?_
  refine AW2.block ?_
  refine AW2.seq ?_
  obtain ⟨x1, hx2, H⟩ := bind_some H
  refine AW2.rg [.r (.str x1)] [0, 4] [] [] ⟨[(0, .d (.int .u8 p0)), (4, .d (.bool (x1.toList == (ByteArray.mk #[]).toList)))], []⟩ (And.intro (And.intro (c_ops_NameB p0 x1 hx2) True.intro) True.intro) (by kernel_rfl) ?_
  refine AW2.cond (b := (x1.toList == (ByteArray.mk #[]).toList)) rfl (fun hc => ?_) (fun hc => ?_)
  · replace H := ite_t H hc
    refine AW2.seq ?_
    refine AW2.rg [] [2, 3] [] [] ⟨[(2, .d (.int .i64 0)), (3, .d (.err 45 (some 1)))], []⟩ (And.intro True.intro True.intro) (by kernel_rfl) ?_
    refine AW2.ret ?_
    have H := Option.some.inj H
    subst H
    exact retP_mk2 True.intro (by kernel_rfl)
  · replace H := ite_f H hc
    refine AW2.seq ?_
    refine AW2.reg [] rfl (YW.to ⟨[(0, .d (.int .u8 p0)), (9, .d (.bool ((p0 == (2 : Int)) || (p0 == (3 : Int)))))], []⟩ ?qh6 ?h6)
    case h6 =>
      rcases bT (p0 == (2 : Int)) with hc1 | hc1
      · exact YW.fin [(12, true)] [] [0, 9] [(9, .d (.bool ((p0 == (2 : Int)) || (p0 == (3 : Int)))))] [] _ (And.intro (And.intro hc1 (And.intro hc1 (And.intro hc1 True.intro))) (And.intro (ovB (orT (b := (p0 == (3 : Int))) hc1)) True.intro)) (by kernel_rfl) rfl
      · exact YW.fin [(12, false)] [] [0, 9] [(9, .d (.bool ((p0 == (2 : Int)) || (p0 == (3 : Int)))))] [] _ (And.intro (And.intro hc1 (And.intro hc1 (And.intro hc1 True.intro))) (And.intro (ovB (Eq.trans (orF (b := (p0 == (3 : Int))) hc1) (Eq.refl (p0 == (3 : Int))))) True.intro)) (by kernel_rfl) rfl
    refine AW2.cond (b := ((p0 == (2 : Int)) || (p0 == (3 : Int)))) rfl (fun hc => ?_) (fun hc => ?_)
    · replace H := ite_t H hc
      refine AW2.seq ?_
      refine AW2.rg [] [2, 3] [] [] ⟨[(2, .d (.int .i64 6)), (3, .d .nili)], []⟩ (And.intro True.intro True.intro) (by kernel_rfl) ?_
      refine AW2.ret ?_
      have H := Option.some.inj H
      subst H
      exact retP_mk2 True.intro (by kernel_rfl)
    · replace H := ite_f H hc
      refine AW2.seq ?_
      refine AW2.rg [] [0, 16] [] [] ⟨[(0, .d (.int .u8 p0)), (16, .d (.bool (p0 == (4 : Int))))], []⟩ (And.intro True.intro True.intro) (by kernel_rfl) ?_
      refine AW2.cond (b := (p0 == (4 : Int))) rfl (fun hc => ?_) (fun hc => ?_)
      · replace H := ite_t H hc
        refine AW2.seq ?_
        refine AW2.rg [] [2, 3] [] [] ⟨[(2, .d (.int .i64 7)), (3, .d .nili)], []⟩ (And.intro True.intro True.intro) (by kernel_rfl) ?_
        refine AW2.ret ?_
        have H := Option.some.inj H
        subst H
        exact retP_mk2 True.intro (by kernel_rfl)
      · replace H := ite_f H hc
        refine AW2.seq ?_
        refine AW2.rg [] [0, 19] [] [] ⟨[(0, .d (.int .u8 p0)), (19, .d (.bool (p0 == (14 : Int))))], []⟩ (And.intro True.intro True.intro) (by kernel_rfl) ?_
        refine AW2.cond (b := (p0 == (14 : Int))) rfl (fun hc => ?_) (fun hc => ?_)
        · replace H := ite_t H hc
          refine AW2.seq ?_
          refine AW2.rg [] [2, 3] [] [] ⟨[(2, .d (.int .i64 8)), (3, .d .nili)], []⟩ (And.intro True.intro True.intro) (by kernel_rfl) ?_
          refine AW2.ret ?_
          have H := Option.some.inj H
          subst H
          exact retP_mk2 True.intro (by kernel_rfl)
        · replace H := ite_f H hc
          refine AW2.seq ?_
          refine AW2.rg [] [0, 22] [] [] ⟨[(0, .d (.int .u8 p0)), (22, .d (.bool (p0 == (17 : Int))))], []⟩ (And.intro True.intro True.intro) (by kernel_rfl) ?_
          refine AW2.cond (b := (p0 == (17 : Int))) rfl (fun hc => ?_) (fun hc => ?_)
          · replace H := ite_t H hc
            refine AW2.seq ?_
            refine AW2.rg [] [2, 3] [] [] ⟨[(2, .d (.int .i64 9)), (3, .d .nili)], []⟩ (And.intro True.intro True.intro) (by kernel_rfl) ?_
            refine AW2.ret ?_
            have H := Option.some.inj H
            subst H
            exact retP_mk2 True.intro (by kernel_rfl)
          · replace H := ite_f H hc
            refine AW2.seq ?_
            refine AW2.reg [] rfl (YW.to ⟨[(0, .d (.int .u8 p0)), (25, .d (.bool ((p0 == (12 : Int)) || ((p0 == (13 : Int)) || ((p0 == (16 : Int)) || ((decide (p0 ≥ (32 : Int))) && (decide (p0 ≤ (36 : Int)))))))))], []⟩ ?qh5 ?h5)
            case h5 =>
              rcases bT (p0 == (12 : Int)) with hc1 | hc1
              · exact YW.fin [(28, true), (32, true), (36, true)] [] [0, 25] [(25, .d (.bool ((p0 == (12 : Int)) || ((p0 == (13 : Int)) || ((p0 == (16 : Int)) || ((decide (p0 ≥ (32 : Int))) && (decide (p0 ≤ (36 : Int)))))))))] [] _ (And.intro (And.intro hc1 (And.intro hc1 (And.intro hc1 (And.intro (Eq.refl true) (And.intro (Eq.refl true) (And.intro (Eq.refl true) (And.intro (Eq.refl true) (And.intro (Eq.refl true) (And.intro (Eq.refl true) (And.intro (Eq.refl true) (And.intro (Eq.refl true) True.intro))))))))))) (And.intro (ovB (orT (b := ((p0 == (13 : Int)) || ((p0 == (16 : Int)) || ((decide (p0 ≥ (32 : Int))) && (decide (p0 ≤ (36 : Int))))))) hc1)) True.intro)) (by kernel_rfl) rfl
              · rcases bT (p0 == (13 : Int)) with hc2 | hc2
                · exact YW.fin [(28, false), (32, true), (36, true)] [] [0, 25] [(25, .d (.bool ((p0 == (12 : Int)) || ((p0 == (13 : Int)) || ((p0 == (16 : Int)) || ((decide (p0 ≥ (32 : Int))) && (decide (p0 ≤ (36 : Int)))))))))] [] _ (And.intro (And.intro hc1 (And.intro hc1 (And.intro hc1 (And.intro hc2 (And.intro hc2 (And.intro hc2 (And.intro (Eq.refl true) (And.intro (Eq.refl true) (And.intro (Eq.refl true) (And.intro (Eq.refl true) (And.intro (Eq.refl true) True.intro))))))))))) (And.intro (ovB (Eq.trans (orF (b := ((p0 == (13 : Int)) || ((p0 == (16 : Int)) || ((decide (p0 ≥ (32 : Int))) && (decide (p0 ≤ (36 : Int))))))) hc1) (orT (b := ((p0 == (16 : Int)) || ((decide (p0 ≥ (32 : Int))) && (decide (p0 ≤ (36 : Int)))))) hc2))) True.intro)) (by kernel_rfl) rfl
                · rcases bT (p0 == (16 : Int)) with hc3 | hc3
                  · exact YW.fin [(28, false), (32, false), (36, true)] [] [0, 25] [(25, .d (.bool ((p0 == (12 : Int)) || ((p0 == (13 : Int)) || ((p0 == (16 : Int)) || ((decide (p0 ≥ (32 : Int))) && (decide (p0 ≤ (36 : Int)))))))))] [] _ (And.intro (And.intro hc1 (And.intro hc1 (And.intro hc1 (And.intro hc2 (And.intro hc2 (And.intro hc2 (And.intro hc3 (And.intro hc3 (And.intro hc3 (And.intro hc3 (And.intro hc3 True.intro))))))))))) (And.intro (ovB (Eq.trans (orF (b := ((p0 == (13 : Int)) || ((p0 == (16 : Int)) || ((decide (p0 ≥ (32 : Int))) && (decide (p0 ≤ (36 : Int))))))) hc1) (Eq.trans (orF (b := ((p0 == (16 : Int)) || ((decide (p0 ≥ (32 : Int))) && (decide (p0 ≤ (36 : Int)))))) hc2) (orT (b := ((decide (p0 ≥ (32 : Int))) && (decide (p0 ≤ (36 : Int))))) hc3)))) True.intro)) (by kernel_rfl) rfl
                  · rcases bT (decide (p0 ≥ (32 : Int))) with hc4 | hc4
                    · exact YW.fin [(28, false), (32, false), (36, false), (39, true)] [] [0, 25] [(25, .d (.bool ((p0 == (12 : Int)) || ((p0 == (13 : Int)) || ((p0 == (16 : Int)) || ((decide (p0 ≥ (32 : Int))) && (decide (p0 ≤ (36 : Int)))))))))] [] _ (And.intro (And.intro hc1 (And.intro hc1 (And.intro hc1 (And.intro hc2 (And.intro hc2 (And.intro hc2 (And.intro hc3 (And.intro hc3 (And.intro hc3 (And.intro hc4 (And.intro hc4 (And.intro hc3 (And.intro hc4 (And.intro hc3 True.intro)))))))))))))) (And.intro (ovB (Eq.trans (orF (b := ((p0 == (13 : Int)) || ((p0 == (16 : Int)) || ((decide (p0 ≥ (32 : Int))) && (decide (p0 ≤ (36 : Int))))))) hc1) (Eq.trans (orF (b := ((p0 == (16 : Int)) || ((decide (p0 ≥ (32 : Int))) && (decide (p0 ≤ (36 : Int)))))) hc2) (Eq.trans (orF (b := ((decide (p0 ≥ (32 : Int))) && (decide (p0 ≤ (36 : Int))))) hc3) (Eq.trans (andT (b := (decide (p0 ≤ (36 : Int)))) hc4) (Eq.refl (decide (p0 ≤ (36 : Int))))))))) True.intro)) (by kernel_rfl) rfl
                    · exact YW.fin [(28, false), (32, false), (36, false), (39, false)] [] [0, 25] [(25, .d (.bool ((p0 == (12 : Int)) || ((p0 == (13 : Int)) || ((p0 == (16 : Int)) || ((decide (p0 ≥ (32 : Int))) && (decide (p0 ≤ (36 : Int)))))))))] [] _ (And.intro (And.intro hc1 (And.intro hc1 (And.intro hc1 (And.intro hc2 (And.intro hc2 (And.intro hc2 (And.intro hc3 (And.intro hc3 (And.intro hc3 (And.intro hc4 (And.intro hc4 (And.intro hc3 (And.intro hc4 (And.intro hc3 True.intro)))))))))))))) (And.intro (ovB (Eq.trans (orF (b := ((p0 == (13 : Int)) || ((p0 == (16 : Int)) || ((decide (p0 ≥ (32 : Int))) && (decide (p0 ≤ (36 : Int))))))) hc1) (Eq.trans (orF (b := ((p0 == (16 : Int)) || ((decide (p0 ≥ (32 : Int))) && (decide (p0 ≤ (36 : Int)))))) hc2) (Eq.trans (orF (b := ((decide (p0 ≥ (32 : Int))) && (decide (p0 ≤ (36 : Int))))) hc3) (andF (b := (decide (p0 ≤ (36 : Int)))) hc4))))) True.intro)) (by kernel_rfl) rfl
            refine AW2.cond (b := ((p0 == (12 : Int)) || ((p0 == (13 : Int)) || ((p0 == (16 : Int)) || ((decide (p0 ≥ (32 : Int))) && (decide (p0 ≤ (36 : Int)))))))) rfl (fun hc => ?_) (fun hc => ?_)
            · replace H := ite_t H hc
              refine AW2.seq ?_
              refine AW2.rg [] [2, 3] [] [] ⟨[(2, .d (.int .i64 3)), (3, .d .nili)], []⟩ (And.intro True.intro True.intro) (by kernel_rfl) ?_
              refine AW2.ret ?_
              have H := Option.some.inj H
              subst H
              exact retP_mk2 True.intro (by kernel_rfl)
            · replace H := ite_f H hc
              refine AW2.seq ?_
              refine AW2.reg [] rfl (YW.to ⟨[(0, .d (.int .u8 p0)), (44, .d (.bool ((decide (p0 ≥ (40 : Int))) && (decide (p0 ≤ (62 : Int))))))], []⟩ ?qh4 ?h4)
              case h4 =>
                rcases bT (decide (p0 ≥ (40 : Int))) with hc1 | hc1
                · exact YW.fin [(47, true)] [] [0, 44] [(44, .d (.bool ((decide (p0 ≥ (40 : Int))) && (decide (p0 ≤ (62 : Int))))))] [] _ (And.intro (And.intro hc1 (And.intro hc1 (And.intro hc1 True.intro))) (And.intro (ovB (Eq.trans (andT (b := (decide (p0 ≤ (62 : Int)))) hc1) (Eq.refl (decide (p0 ≤ (62 : Int)))))) True.intro)) (by kernel_rfl) rfl
                · exact YW.fin [(47, false)] [] [0, 44] [(44, .d (.bool ((decide (p0 ≥ (40 : Int))) && (decide (p0 ≤ (62 : Int))))))] [] _ (And.intro (And.intro hc1 (And.intro hc1 (And.intro hc1 True.intro))) (And.intro (ovB (andF (b := (decide (p0 ≤ (62 : Int)))) hc1)) True.intro)) (by kernel_rfl) rfl
              refine AW2.cond (b := ((decide (p0 ≥ (40 : Int))) && (decide (p0 ≤ (62 : Int))))) rfl (fun hc => ?_) (fun hc => ?_)
              · replace H := ite_t H hc
                refine AW2.seq ?_
                refine AW2.rg [] [2, 3] [] [] ⟨[(2, .d (.int .i64 4)), (3, .d .nili)], []⟩ (And.intro True.intro True.intro) (by kernel_rfl) ?_
                refine AW2.ret ?_
                have H := Option.some.inj H
                subst H
                exact retP_mk2 True.intro (by kernel_rfl)
              · replace H := ite_f H hc
                refine AW2.seq ?_
                refine AW2.reg [] rfl (YW.to ⟨[(0, .d (.int .u8 p0)), (51, .d (.bool ((p0 == (63 : Int)) || (p0 == (64 : Int)))))], []⟩ ?qh3 ?h3)
                case h3 =>
                  rcases bT (p0 == (63 : Int)) with hc1 | hc1
                  · exact YW.fin [(54, true)] [] [0, 51] [(51, .d (.bool ((p0 == (63 : Int)) || (p0 == (64 : Int)))))] [] _ (And.intro (And.intro hc1 (And.intro hc1 (And.intro hc1 True.intro))) (And.intro (ovB (orT (b := (p0 == (64 : Int))) hc1)) True.intro)) (by kernel_rfl) rfl
                  · exact YW.fin [(54, false)] [] [0, 51] [(51, .d (.bool ((p0 == (63 : Int)) || (p0 == (64 : Int)))))] [] _ (And.intro (And.intro hc1 (And.intro hc1 (And.intro hc1 True.intro))) (And.intro (ovB (Eq.trans (orF (b := (p0 == (64 : Int))) hc1) (Eq.refl (p0 == (64 : Int))))) True.intro)) (by kernel_rfl) rfl
                refine AW2.cond (b := ((p0 == (63 : Int)) || (p0 == (64 : Int)))) rfl (fun hc => ?_) (fun hc => ?_)
                · replace H := ite_t H hc
                  refine AW2.seq ?_
                  refine AW2.rg [] [2, 3] [] [] ⟨[(2, .d (.int .i64 5)), (3, .d .nili)], []⟩ (And.intro True.intro True.intro) (by kernel_rfl) ?_
                  refine AW2.ret ?_
                  have H := Option.some.inj H
                  subst H
                  exact retP_mk2 True.intro (by kernel_rfl)
                · replace H := ite_f H hc
                  refine AW2.seq ?_
                  refine AW2.rg [] [0, 58] [] [] ⟨[(0, .d (.int .u8 p0)), (58, .d (.bool (p0 == (65 : Int))))], []⟩ (And.intro True.intro True.intro) (by kernel_rfl) ?_
                  refine AW2.cond (b := (p0 == (65 : Int))) rfl (fun hc => ?_) (fun hc => ?_)
                  · replace H := ite_t H hc
                    refine AW2.seq ?_
                    refine AW2.rg [] [2, 3] [] [] ⟨[(2, .d (.int .i64 1)), (3, .d .nili)], []⟩ (And.intro True.intro True.intro) (by kernel_rfl) ?_
                    refine AW2.ret ?_
                    have H := Option.some.inj H
                    subst H
                    exact retP_mk2 True.intro (by kernel_rfl)
                  · replace H := ite_f H hc
                    refine AW2.seq ?_
                    refine AW2.rg [] [61] [] [] ⟨[(61, .d (.bool (p0 == (66 : Int))))], []⟩ (And.intro True.intro True.intro) (by kernel_rfl) ?_
                    refine AW2.cond (b := (p0 == (66 : Int))) rfl (fun hc => ?_) (fun hc => ?_)
                    · replace H := ite_t H hc
                      refine AW2.seq ?_
                      refine AW2.rg [] [2, 3] [] [] ⟨[(2, .d (.int .i64 2)), (3, .d .nili)], []⟩ (And.intro True.intro True.intro) (by kernel_rfl) ?_
                      refine AW2.ret ?_
                      have H := Option.some.inj H
                      subst H
                      exact retP_mk2 True.intro (by kernel_rfl)
                    · replace H := ite_f H hc
                      refine AW2.skip ?_
                      refine AW2.seq ?_
                      refine AW2.rg [] [2, 3] [] [] ⟨[(2, .d (.int .i64 0)), (3, .d .nili)], []⟩ (And.intro True.intro True.intro) (by kernel_rfl) ?_
                      refine AW2.ret ?_
                      have H := Option.some.inj H
                      subst H
                      exact retP_mk2 True.intro (by kernel_rfl)

end Go.Proofs.YtablleokoifolaaGreatDoor

/- Plain functions and their contracts. Written by a program of this claim set (g2.py). -/
set_option linter.unusedVariables false
set_option maxRecDepth 100000
set_option maxHeartbeats 4000000
namespace Go.Proofs.YtablleokoifolaaGreatDoor
open Go

/- (*mandrel/valid.checker).plain -/
def g_valid_checker_plain (p0 : Checker) (p1 : Instr) : Option (Checker) := ((g_ops_Sign p1.op).bind fun x1 => (if (!x1.2.isNone) = true then some (Checker.mk p0.m p0.t p0.locals p0.stack p0.frames p0.labels p0.most true) else (((g_ops_Bytes p1.op).bind fun x13 => (if x13.2.2.isNone = true then ((if p0.bad = true then some (Checker.mk p0.m p0.t p0.locals p0.stack p0.frames p0.labels p0.most true) else (if (decide (p1.align > (3 : Int))) = true then some (Checker.mk p0.m p0.t p0.locals p0.stack p0.frames p0.labels p0.most true) else gd (¬ p1.align < 0) (some (Checker.mk p0.m p0.t p0.locals p0.stack p0.frames p0.labels p0.most (decide ((wI (1 * 2 ^ (min p1.align.toNat (IntKind.bits .i64)))) > x13.1))))))).bind (fun j16 => some j16) else some p0))).bind (fun j3 => ((g_ops_Form p1.op).bind fun x4 => ((if ((!x4.2.isNone) || (bif ((x4.1 == (4 : Int)) || (x4.1 == (5 : Int))) then (((j3.m.memories.length : Int) == (0 : Int)) || ((x4.1 == (1 : Int)) && (p1.n != (wI (IntKind.wrap .i32 p1.n))))) else ((x4.1 == (1 : Int)) && (p1.n != (wI (IntKind.wrap .i32 p1.n)))))) = true then some (Checker.mk j3.m j3.t j3.locals j3.stack j3.frames j3.labels j3.most true) else some j3)).bind (fun j6 => ((g_valid_checker_call j6 x1.1).bind fun x7 => some x7))))))

theorem c_valid_checker_plain (p0 : Checker) (p1 : Instr) (r : Checker) (H : g_valid_checker_plain p0 p1 = some r) : CM E 79 [.p 1000 0, .agg (eD (eInstr p1))] (H_Checker p0) [] [1000] (fun a b => a = (.tup [] : LV) ∧ b = H_Checker r) := by
  refine cs_of (A := F_valid_checker_plain) fn_valid_checker_plain fun fr => ?_
  unfold g_valid_checker_plain at H
  refine AW2.seq ?_
  refine AW2.rg [.k 3] [0, 3] [] [.k 3, .k 1000, .k 1001, .k 1002, .k 1003] ⟨[(0, .p 1000 0), (3, .p 3 0)], [(3, .st false (eD (eInstr p1)))] ++ H_Checker p0⟩ (And.intro True.intro True.intro) (by kernel_rfl) ?_
  refine AW2.seq ?_
  obtain ⟨x1, hx2, H⟩ := bind_some H
  refine AW2.rg [.r (.tup [.agg (eTyp x1.1), .err 45 x1.2]), .k 4] [0, 3, 4, 5] [] [.k 3, .k 4, .k 1000, .k 1001, .k 1002, .k 1003] ⟨[(0, .p 1000 0), (3, .p 3 0), (4, .p 4 0), (5, .d (.err 45 x1.2))], [(3, .st false (eD (eInstr p1))), (4, .st false (eD (eTyp x1.1)))] ++ H_Checker p0⟩ (And.intro (And.intro (c_ops_Sign p1.op x1 hx2) True.intro) True.intro) (by kernel_rfl) ?_
  refine AW2.seq ?_
  refine AW2.seq ?_
  refine AW2.rg [] [0, 3, 4, 18] [] [.k 3, .k 4, .k 1000, .k 1001, .k 1002, .k 1003] ⟨[(0, .p 1000 0), (3, .p 3 0), (4, .p 4 0), (18, .d (.bool (!x1.2.isNone)))], [(3, .st false (eD (eInstr p1))), (4, .st false (eD (eTyp x1.1)))] ++ H_Checker p0⟩ (And.intro True.intro True.intro) (by kernel_rfl) ?_
  refine AW2.cond (b := (!x1.2.isNone)) rfl (fun hc => ?_) (fun hc => ?_)
  · replace H := ite_t H hc
    refine AW2.seq ?_
    refine AW2.rg [] [] [] [.k 1000, .k 1001, .k 1002, .k 1003] ⟨[], H_Checker (Checker.mk p0.m p0.t p0.locals p0.stack p0.frames p0.labels p0.most true)⟩ (And.intro True.intro True.intro) (by kernel_rfl) ?_
    refine AW2.ret ?_
    have H := Option.some.inj H
    subst H
    exact retS_mk3 [] [.k 1000, .k 1001, .k 1002, .k 1003] True.intro (by kernel_rfl) (by kernel_rfl)
  · replace H := ite_f H hc
    refine AW2.skip ?_
    obtain ⟨j3, H21, H⟩ := bind_some H
    refine AW2.mid ⟨[(0, .p 1000 0), (3, .p 3 0), (4, .p 4 0)], [(3, .st false (eD (eInstr p1))), (4, .st false (eD (eTyp x1.1)))] ++ H_Checker j3⟩ ?_ ?_
    · refine AW2.seq ?_
      obtain ⟨x4, hx5, H⟩ := bind_some H
      refine AW2.rg [.r (.tup [.int .i64 x4.1, .err 45 x4.2])] [0, 3, 4, 5, 9] [] [.k 3, .k 4, .k 1000, .k 1001, .k 1002, .k 1003] ⟨[(0, .p 1000 0), (3, .p 3 0), (4, .p 4 0), (5, .d (.err 45 x4.2)), (9, .d (.int .i64 x4.1))], [(3, .st false (eD (eInstr p1))), (4, .st false (eD (eTyp x1.1)))] ++ H_Checker j3⟩ (And.intro (And.intro (c_ops_Form p1.op x4 hx5) True.intro) True.intro) (by kernel_rfl) ?_
      refine AW2.seq ?_
      refine AW2.reg [] rfl (YW.to ⟨[(0, .p 1000 0), (3, .p 3 0), (4, .p 4 0), (5, .d (.err 45 x4.2)), (9, .d (.int .i64 x4.1)), (10, .d (.bool ((x4.1 == (4 : Int)) || (x4.1 == (5 : Int)))))], [(3, .st false (eD (eInstr p1))), (4, .st false (eD (eTyp x1.1)))] ++ H_Checker j3⟩ ?qh12 ?h12)
      case h12 =>
        rcases bT (x4.1 == (4 : Int)) with hc1 | hc1
        · exact YW.fin [(58, true)] [] [0, 3, 4, 5, 9, 10] [(10, .d (.bool ((x4.1 == (4 : Int)) || (x4.1 == (5 : Int)))))] [.k 3, .k 4, .k 1000, .k 1001, .k 1002, .k 1003] _ (And.intro (And.intro hc1 (And.intro hc1 (And.intro hc1 True.intro))) (And.intro (ovB (orT (b := (x4.1 == (5 : Int))) hc1)) True.intro)) (by kernel_rfl) rfl
        · exact YW.fin [(58, false)] [] [0, 3, 4, 5, 9, 10] [(10, .d (.bool ((x4.1 == (4 : Int)) || (x4.1 == (5 : Int)))))] [.k 3, .k 4, .k 1000, .k 1001, .k 1002, .k 1003] _ (And.intro (And.intro hc1 (And.intro hc1 (And.intro hc1 True.intro))) (And.intro (ovB (Eq.trans (orF (b := (x4.1 == (5 : Int))) hc1) (Eq.refl (x4.1 == (5 : Int))))) True.intro)) (by kernel_rfl) rfl
      obtain ⟨j6, H11, H⟩ := bind_some H
      refine AW2.mid ⟨[(0, .p 1000 0), (4, .p 4 0)], [(4, .st false (eD (eTyp x1.1)))] ++ H_Checker j6⟩ ?_ ?_
      · obtain ⟨x7, hx8, H⟩ := bind_some H
        refine AW2.rg [.c [1000, 1001, 1002, 1003] [] [1000] (.tup []) (H_Checker x7)] [] [] [.k 1000, .k 1001, .k 1002, .k 1003] ⟨[], H_Checker x7⟩ (And.intro (And.intro (c_valid_checker_call j6 x1.1 x7 hx8) True.intro) True.intro) (by kernel_rfl) ?_
        have H := Option.some.inj H
        subst H
        exact retS_mkn3 [] [.k 1000, .k 1001, .k 1002, .k 1003] True.intro (by kernel_rfl) (by kernel_rfl)
      · have H := H11
        refine AW2.seq ?_
        refine AW2.reg [] rfl (YW.to ⟨[(0, .p 1000 0), (4, .p 4 0), (88, .d (.bool ((!x4.2.isNone) || (bif ((x4.1 == (4 : Int)) || (x4.1 == (5 : Int))) then (((j3.m.memories.length : Int) == (0 : Int)) || ((x4.1 == (1 : Int)) && (p1.n != (wI (IntKind.wrap .i32 p1.n))))) else ((x4.1 == (1 : Int)) && (p1.n != (wI (IntKind.wrap .i32 p1.n))))))))], [(4, .st false (eD (eTyp x1.1)))] ++ H_Checker j3⟩ ?qh9 ?h9)
        case h9 =>
          rcases bT (!x4.2.isNone) with hc1 | hc1
          · exact YW.fin [(64, true), (76, true)] [] [0, 4, 88] [(88, .d (.bool ((!x4.2.isNone) || (bif ((x4.1 == (4 : Int)) || (x4.1 == (5 : Int))) then (((j3.m.memories.length : Int) == (0 : Int)) || ((x4.1 == (1 : Int)) && (p1.n != (wI (IntKind.wrap .i32 p1.n))))) else ((x4.1 == (1 : Int)) && (p1.n != (wI (IntKind.wrap .i32 p1.n))))))))] [.k 4, .k 1000, .k 1001, .k 1002, .k 1003] _ (And.intro (And.intro hc1 (And.intro hc1 (And.intro hc1 (And.intro hc1 (And.intro (Eq.refl true) (And.intro (Eq.refl true) (And.intro (Eq.refl true) (And.intro (Eq.refl true) (And.intro (Eq.refl true) True.intro))))))))) (And.intro (ovB (orT (b := (bif ((x4.1 == (4 : Int)) || (x4.1 == (5 : Int))) then (((j3.m.memories.length : Int) == (0 : Int)) || ((x4.1 == (1 : Int)) && (p1.n != (wI (IntKind.wrap .i32 p1.n))))) else ((x4.1 == (1 : Int)) && (p1.n != (wI (IntKind.wrap .i32 p1.n)))))) hc1)) True.intro)) (by kernel_rfl) rfl
          · rcases bT ((x4.1 == (4 : Int)) || (x4.1 == (5 : Int))) with hc2 | hc2
            · rcases bT ((j3.m.memories.length : Int) == (0 : Int)) with hc3 | hc3
              · exact YW.fin [(64, false), (66, true), (76, true)] [] [0, 4, 88] [(88, .d (.bool ((!x4.2.isNone) || (bif ((x4.1 == (4 : Int)) || (x4.1 == (5 : Int))) then (((j3.m.memories.length : Int) == (0 : Int)) || ((x4.1 == (1 : Int)) && (p1.n != (wI (IntKind.wrap .i32 p1.n))))) else ((x4.1 == (1 : Int)) && (p1.n != (wI (IntKind.wrap .i32 p1.n))))))))] [.k 4, .k 1000, .k 1001, .k 1002, .k 1003] _ (And.intro (And.intro hc1 (And.intro hc1 (And.intro hc2 (And.intro hc2 (And.intro hc2 (And.intro hc2 (And.intro hc2 (And.intro hc2 (And.intro hc2 (And.intro hc1 (And.intro hc2 (And.intro hc1 (And.intro hc3 (And.intro hc3 (And.intro hc3 (And.intro hc3 (And.intro hc3 True.intro))))))))))))))))) (And.intro (ovB (Eq.trans (orF (b := (bif ((x4.1 == (4 : Int)) || (x4.1 == (5 : Int))) then (((j3.m.memories.length : Int) == (0 : Int)) || ((x4.1 == (1 : Int)) && (p1.n != (wI (IntKind.wrap .i32 p1.n))))) else ((x4.1 == (1 : Int)) && (p1.n != (wI (IntKind.wrap .i32 p1.n)))))) hc1) (Eq.trans (bifT (a := (((j3.m.memories.length : Int) == (0 : Int)) || ((x4.1 == (1 : Int)) && (p1.n != (wI (IntKind.wrap .i32 p1.n)))))) (b := ((x4.1 == (1 : Int)) && (p1.n != (wI (IntKind.wrap .i32 p1.n))))) hc2) (orT (b := ((x4.1 == (1 : Int)) && (p1.n != (wI (IntKind.wrap .i32 p1.n))))) hc3)))) True.intro)) (by kernel_rfl) rfl
              · rcases bT (x4.1 == (1 : Int)) with hc4 | hc4
                · exact YW.fin [(64, false), (66, true), (76, false), (79, true)] [] [0, 4, 88] [(88, .d (.bool ((!x4.2.isNone) || (bif ((x4.1 == (4 : Int)) || (x4.1 == (5 : Int))) then (((j3.m.memories.length : Int) == (0 : Int)) || ((x4.1 == (1 : Int)) && (p1.n != (wI (IntKind.wrap .i32 p1.n))))) else ((x4.1 == (1 : Int)) && (p1.n != (wI (IntKind.wrap .i32 p1.n))))))))] [.k 4, .k 1000, .k 1001, .k 1002, .k 1003] _ (And.intro (And.intro hc1 (And.intro hc1 (And.intro hc2 (And.intro hc2 (And.intro hc2 (And.intro hc2 (And.intro hc2 (And.intro hc2 (And.intro hc2 (And.intro hc1 (And.intro hc2 (And.intro hc1 (And.intro hc3 (And.intro hc3 (And.intro hc3 (And.intro hc4 (And.intro hc4 (And.intro hc4 (And.intro hc4 (And.intro hc4 (And.intro hc4 (And.intro hc4 (And.intro hc3 (And.intro hc4 (And.intro hc3 True.intro))))))))))))))))))))))))) (And.intro (ovB (Eq.trans (orF (b := (bif ((x4.1 == (4 : Int)) || (x4.1 == (5 : Int))) then (((j3.m.memories.length : Int) == (0 : Int)) || ((x4.1 == (1 : Int)) && (p1.n != (wI (IntKind.wrap .i32 p1.n))))) else ((x4.1 == (1 : Int)) && (p1.n != (wI (IntKind.wrap .i32 p1.n)))))) hc1) (Eq.trans (bifT (a := (((j3.m.memories.length : Int) == (0 : Int)) || ((x4.1 == (1 : Int)) && (p1.n != (wI (IntKind.wrap .i32 p1.n)))))) (b := ((x4.1 == (1 : Int)) && (p1.n != (wI (IntKind.wrap .i32 p1.n))))) hc2) (Eq.trans (orF (b := ((x4.1 == (1 : Int)) && (p1.n != (wI (IntKind.wrap .i32 p1.n))))) hc3) (Eq.trans (andT (b := (p1.n != (wI (IntKind.wrap .i32 p1.n)))) hc4) (Eq.refl (p1.n != (wI (IntKind.wrap .i32 p1.n))))))))) True.intro)) (by kernel_rfl) rfl
                · exact YW.fin [(64, false), (66, true), (76, false), (79, false)] [] [0, 4, 88] [(88, .d (.bool ((!x4.2.isNone) || (bif ((x4.1 == (4 : Int)) || (x4.1 == (5 : Int))) then (((j3.m.memories.length : Int) == (0 : Int)) || ((x4.1 == (1 : Int)) && (p1.n != (wI (IntKind.wrap .i32 p1.n))))) else ((x4.1 == (1 : Int)) && (p1.n != (wI (IntKind.wrap .i32 p1.n))))))))] [.k 4, .k 1000, .k 1001, .k 1002, .k 1003] _ (And.intro (And.intro hc1 (And.intro hc1 (And.intro hc2 (And.intro hc2 (And.intro hc2 (And.intro hc2 (And.intro hc2 (And.intro hc2 (And.intro hc2 (And.intro hc1 (And.intro hc2 (And.intro hc1 (And.intro hc3 (And.intro hc3 (And.intro hc3 (And.intro hc4 (And.intro hc4 (And.intro hc4 (And.intro hc4 (And.intro hc4 (And.intro hc4 (And.intro hc4 (And.intro hc3 (And.intro hc4 (And.intro hc3 True.intro))))))))))))))))))))))))) (And.intro (ovB (Eq.trans (orF (b := (bif ((x4.1 == (4 : Int)) || (x4.1 == (5 : Int))) then (((j3.m.memories.length : Int) == (0 : Int)) || ((x4.1 == (1 : Int)) && (p1.n != (wI (IntKind.wrap .i32 p1.n))))) else ((x4.1 == (1 : Int)) && (p1.n != (wI (IntKind.wrap .i32 p1.n)))))) hc1) (Eq.trans (bifT (a := (((j3.m.memories.length : Int) == (0 : Int)) || ((x4.1 == (1 : Int)) && (p1.n != (wI (IntKind.wrap .i32 p1.n)))))) (b := ((x4.1 == (1 : Int)) && (p1.n != (wI (IntKind.wrap .i32 p1.n))))) hc2) (Eq.trans (orF (b := ((x4.1 == (1 : Int)) && (p1.n != (wI (IntKind.wrap .i32 p1.n))))) hc3) (andF (b := (p1.n != (wI (IntKind.wrap .i32 p1.n)))) hc4))))) True.intro)) (by kernel_rfl) rfl
            · rcases bT (x4.1 == (1 : Int)) with hc3 | hc3
              · exact YW.fin [(64, false), (66, false), (79, true), (76, false)] [] [0, 4, 88] [(88, .d (.bool ((!x4.2.isNone) || (bif ((x4.1 == (4 : Int)) || (x4.1 == (5 : Int))) then (((j3.m.memories.length : Int) == (0 : Int)) || ((x4.1 == (1 : Int)) && (p1.n != (wI (IntKind.wrap .i32 p1.n))))) else ((x4.1 == (1 : Int)) && (p1.n != (wI (IntKind.wrap .i32 p1.n))))))))] [.k 4, .k 1000, .k 1001, .k 1002, .k 1003] _ (And.intro (And.intro hc1 (And.intro hc1 (And.intro hc2 (And.intro hc2 (And.intro hc2 (And.intro hc2 (And.intro hc2 (And.intro hc2 (And.intro hc2 (And.intro hc1 (And.intro hc2 (And.intro hc1 (And.intro (Eq.refl false) (And.intro (Eq.refl false) (And.intro (Eq.refl false) (And.intro hc3 (And.intro hc3 (And.intro hc3 (And.intro hc3 (And.intro hc3 (And.intro hc3 (And.intro hc3 (And.intro (Eq.refl false) (And.intro hc3 (And.intro (Eq.refl false) True.intro))))))))))))))))))))))))) (And.intro (ovB (Eq.trans (orF (b := (bif ((x4.1 == (4 : Int)) || (x4.1 == (5 : Int))) then (((j3.m.memories.length : Int) == (0 : Int)) || ((x4.1 == (1 : Int)) && (p1.n != (wI (IntKind.wrap .i32 p1.n))))) else ((x4.1 == (1 : Int)) && (p1.n != (wI (IntKind.wrap .i32 p1.n)))))) hc1) (Eq.trans (bifF (a := (((j3.m.memories.length : Int) == (0 : Int)) || ((x4.1 == (1 : Int)) && (p1.n != (wI (IntKind.wrap .i32 p1.n)))))) (b := ((x4.1 == (1 : Int)) && (p1.n != (wI (IntKind.wrap .i32 p1.n))))) hc2) (Eq.trans (andT (b := (p1.n != (wI (IntKind.wrap .i32 p1.n)))) hc3) (Eq.refl (p1.n != (wI (IntKind.wrap .i32 p1.n)))))))) True.intro)) (by kernel_rfl) rfl
              · exact YW.fin [(64, false), (66, false), (79, false), (76, false)] [] [0, 4, 88] [(88, .d (.bool ((!x4.2.isNone) || (bif ((x4.1 == (4 : Int)) || (x4.1 == (5 : Int))) then (((j3.m.memories.length : Int) == (0 : Int)) || ((x4.1 == (1 : Int)) && (p1.n != (wI (IntKind.wrap .i32 p1.n))))) else ((x4.1 == (1 : Int)) && (p1.n != (wI (IntKind.wrap .i32 p1.n))))))))] [.k 4, .k 1000, .k 1001, .k 1002, .k 1003] _ (And.intro (And.intro hc1 (And.intro hc1 (And.intro hc2 (And.intro hc2 (And.intro hc2 (And.intro hc2 (And.intro hc2 (And.intro hc2 (And.intro hc2 (And.intro hc1 (And.intro hc2 (And.intro hc1 (And.intro (Eq.refl false) (And.intro (Eq.refl false) (And.intro (Eq.refl false) (And.intro hc3 (And.intro hc3 (And.intro hc3 (And.intro hc3 (And.intro hc3 (And.intro hc3 (And.intro hc3 (And.intro (Eq.refl false) (And.intro hc3 (And.intro (Eq.refl false) True.intro))))))))))))))))))))))))) (And.intro (ovB (Eq.trans (orF (b := (bif ((x4.1 == (4 : Int)) || (x4.1 == (5 : Int))) then (((j3.m.memories.length : Int) == (0 : Int)) || ((x4.1 == (1 : Int)) && (p1.n != (wI (IntKind.wrap .i32 p1.n))))) else ((x4.1 == (1 : Int)) && (p1.n != (wI (IntKind.wrap .i32 p1.n)))))) hc1) (Eq.trans (bifF (a := (((j3.m.memories.length : Int) == (0 : Int)) || ((x4.1 == (1 : Int)) && (p1.n != (wI (IntKind.wrap .i32 p1.n)))))) (b := ((x4.1 == (1 : Int)) && (p1.n != (wI (IntKind.wrap .i32 p1.n))))) hc2) (andF (b := (p1.n != (wI (IntKind.wrap .i32 p1.n)))) hc3)))) True.intro)) (by kernel_rfl) rfl
        refine AW2.cond (b := ((!x4.2.isNone) || (bif ((x4.1 == (4 : Int)) || (x4.1 == (5 : Int))) then (((j3.m.memories.length : Int) == (0 : Int)) || ((x4.1 == (1 : Int)) && (p1.n != (wI (IntKind.wrap .i32 p1.n))))) else ((x4.1 == (1 : Int)) && (p1.n != (wI (IntKind.wrap .i32 p1.n))))))) rfl (fun hc => ?_) (fun hc => ?_)
        · replace H := ite_t H hc
          refine AW2.rg [] [0, 4] [] [.k 4, .k 1000, .k 1001, .k 1002, .k 1003] ⟨[(0, .p 1000 0), (4, .p 4 0)], [(4, .st false (eD (eTyp x1.1)))] ++ H_Checker (Checker.mk j3.m j3.t j3.locals j3.stack j3.frames j3.labels j3.most true)⟩ (And.intro True.intro True.intro) (by kernel_rfl) ?_
          have H := Option.some.inj H
          subst H
          exact wk_mk [0, 4] [] [.k 4, .k 1000, .k 1001, .k 1002, .k 1003] True.intro (by kernel_rfl)
        · replace H := ite_f H hc
          refine AW2.skip ?_
          have H := Option.some.inj H
          subst H
          exact wk_mk [0, 4] [] [.k 4, .k 1000, .k 1001, .k 1002, .k 1003] True.intro (by kernel_rfl)
    · have H := H21
      refine AW2.seq ?_
      obtain ⟨x13, hx14, H⟩ := bind_some H
      refine AW2.rg [.r (.tup [.int .i64 x13.1, .bool x13.2.1, .err 45 x13.2.2])] [0, 3, 4, 6, 8] [] [.k 3, .k 4, .k 1000, .k 1001, .k 1002, .k 1003] ⟨[(0, .p 1000 0), (3, .p 3 0), (4, .p 4 0), (6, .d (.int .i64 x13.1)), (8, .d (.err 45 x13.2.2))], [(3, .st false (eD (eInstr p1))), (4, .st false (eD (eTyp x1.1)))] ++ H_Checker p0⟩ (And.intro (And.intro (c_ops_Bytes p1.op x13 hx14) True.intro) True.intro) (by kernel_rfl) ?_
      refine AW2.seq ?_
      refine AW2.rg [] [0, 3, 4, 6, 30] [] [.k 3, .k 4, .k 1000, .k 1001, .k 1002, .k 1003] ⟨[(0, .p 1000 0), (3, .p 3 0), (4, .p 4 0), (6, .d (.int .i64 x13.1)), (30, .d (.bool x13.2.2.isNone))], [(3, .st false (eD (eInstr p1))), (4, .st false (eD (eTyp x1.1)))] ++ H_Checker p0⟩ (And.intro True.intro True.intro) (by kernel_rfl) ?_
      refine AW2.cond (b := x13.2.2.isNone) rfl (fun hc => ?_) (fun hc => ?_)
      · replace H := ite_t H hc
        obtain ⟨j16, H18, H⟩ := bind_some H
        refine AW2.reg [] rfl (YW.to ⟨[(0, .p 1000 0), (3, .p 3 0), (4, .p 4 0)], [(3, .st false (eD (eInstr p1))), (4, .st false (eD (eTyp x1.1)))] ++ H_Checker j16⟩ ?qh19 ?h19)
        case h19 =>
          have H := H18
          rcases bT p0.bad with hc1 | hc1
          · replace H := ite_t H hc1
            have H := Option.some.inj H
            subst H
            exact YW.fin [(36, true), (41, true)] [] [0, 3, 4] [] [.k 3, .k 4, .k 1000, .k 1001, .k 1002, .k 1003] _ (And.intro (And.intro hc1 (And.intro hc1 (And.intro hc1 (And.intro hc1 (And.intro (Eq.refl true) (And.intro (Eq.refl true) (And.intro (Eq.refl true) (And.intro (Eq.refl true) (And.intro (Eq.refl true) (And.intro (Eq.refl true) True.intro)))))))))) True.intro) (by kernel_rfl) rfl
          · replace H := ite_f H hc1
            rcases bT (decide (p1.align > (3 : Int))) with hc2 | hc2
            · replace H := ite_t H hc2
              have H := Option.some.inj H
              subst H
              exact YW.fin [(36, false), (41, true)] [] [0, 3, 4] [] [.k 3, .k 4, .k 1000, .k 1001, .k 1002, .k 1003] _ (And.intro (And.intro hc1 (And.intro hc1 (And.intro hc1 (And.intro hc1 (And.intro hc2 (And.intro hc2 (And.intro hc2 (And.intro hc2 (And.intro hc2 (And.intro hc2 True.intro)))))))))) True.intro) (by kernel_rfl) rfl
            · replace H := ite_f H hc2
              obtain ⟨h15, H⟩ := gd_some H
              have H := Option.some.inj H
              subst H
              exact YW.fin [(36, false), (41, false)] [] [0, 3, 4] [] [.k 3, .k 4, .k 1000, .k 1001, .k 1002, .k 1003] _ (And.intro (And.intro hc1 (And.intro hc1 (And.intro hc1 (And.intro hc1 (And.intro hc2 (And.intro hc2 (And.intro hc2 (And.intro h15 (And.intro hc2 (And.intro hc2 (And.intro hc2 True.intro))))))))))) True.intro) (by kernel_rfl) rfl
        have H := Option.some.inj H
        subst H
        exact wk_mk [0, 3, 4] [] [.k 3, .k 4, .k 1000, .k 1001, .k 1002, .k 1003] True.intro (by kernel_rfl)
      · replace H := ite_f H hc
        refine AW2.skip ?_
        have H := Option.some.inj H
        subst H
        exact wk_mk [0, 3, 4] [] [.k 3, .k 4, .k 1000, .k 1001, .k 1002, .k 1003] True.intro (by kernel_rfl)

/- (*mandrel/valid.checker).simple -/
def g_valid_checker_simple (p0 : Checker) (p1 : Instr) : Option (Checker) := (if (p1.op == (26 : Int)) = true then ((g_valid_checker_take p0 1).bind fun x1 => some x1.2) else (if (p1.op == (27 : Int)) = true then ((g_valid_checker_take p0 127).bind fun x3 => ((g_valid_checker_take x3.2 1).bind fun x5 => ((g_valid_checker_take x5.2 x5.1).bind fun x7 => ((g_valid_checker_lay x7.2 x7.1).bind fun x9 => some x9)))) else (if (p1.op == (32 : Int)) = true then ((g_valid_checker_local p0 p1.n).bind fun x11 => ((g_valid_checker_lay x11.2 x11.1).bind fun x13 => some x13)) else (if (p1.op == (33 : Int)) = true then ((g_valid_checker_local p0 p1.n).bind fun x15 => ((g_valid_checker_take x15.2 x15.1).bind fun x17 => some x17.2)) else (if (p1.op == (34 : Int)) = true then ((g_valid_checker_local p0 p1.n).bind fun x19 => ((g_valid_checker_take x19.2 x19.1).bind fun x21 => ((g_valid_checker_lay x21.2 x19.1).bind fun x23 => some x23))) else (if (p1.op == (35 : Int)) = true then ((g_valid_checker_global p0 p1.n).bind fun x25 => ((g_valid_checker_lay x25.2 x25.1.kind).bind fun x27 => some x27)) else (if (p1.op == (36 : Int)) = true then ((g_valid_checker_global p0 p1.n).bind fun x29 => ((if x29.2.bad = true then some (Checker.mk x29.2.m x29.2.t x29.2.locals x29.2.stack x29.2.frames x29.2.labels x29.2.most true) else some (Checker.mk x29.2.m x29.2.t x29.2.locals x29.2.stack x29.2.frames x29.2.labels x29.2.most (!x29.1.mut_)))).bind (fun j31 => ((g_valid_checker_take j31 x29.1.kind).bind fun x32 => some x32.2))) else ((g_valid_checker_plain p0 p1).bind fun x37 => some x37))))))))

theorem c_valid_checker_simple (p0 : Checker) (p1 : Instr) (r : Checker) (H : g_valid_checker_simple p0 p1 = some r) : CM E 56 [.p 1000 0, .agg (eD (eInstr p1))] (H_Checker p0) [] [1000] (fun a b => a = (.tup [] : LV) ∧ b = H_Checker r) := by
  refine cs_of (A := F_valid_checker_simple) fn_valid_checker_simple fun fr => ?_
  unfold g_valid_checker_simple at H
  refine AW2.seq ?_
  refine AW2.rg [.k 3] [0, 3] [] [.k 3, .k 1000, .k 1001, .k 1002, .k 1003] ⟨[(0, .p 1000 0), (3, .p 3 0)], [(3, .st false (eD (eInstr p1)))] ++ H_Checker p0⟩ (And.intro True.intro True.intro) (by kernel_rfl) ?_
  refine AW2.seq ?_
  refine AW2.rg [] [0, 3, 8] [] [.k 3, .k 1000, .k 1001, .k 1002, .k 1003] ⟨[(0, .p 1000 0), (3, .p 3 0), (8, .d (.int .u8 p1.op))], [(3, .st false (eD (eInstr p1)))] ++ H_Checker p0⟩ (And.intro True.intro True.intro) (by kernel_rfl) ?_
  refine AW2.block ?_
  refine AW2.seq ?_
  refine AW2.rg [] [0, 3, 8, 12] [] [.k 3, .k 1000, .k 1001, .k 1002, .k 1003] ⟨[(0, .p 1000 0), (3, .p 3 0), (8, .d (.int .u8 p1.op)), (12, .d (.bool (p1.op == (26 : Int))))], [(3, .st false (eD (eInstr p1)))] ++ H_Checker p0⟩ (And.intro True.intro True.intro) (by kernel_rfl) ?_
  refine AW2.cond (b := (p1.op == (26 : Int))) rfl (fun hc => ?_) (fun hc => ?_)
  · replace H := ite_t H hc
    obtain ⟨x1, hx2, H⟩ := bind_some H
    refine AW2.rg [.c [1000, 1001, 1002, 1003] [] [1000] (.d (.int .u8 x1.1)) (H_Checker x1.2)] [] [] [.k 1000, .k 1001, .k 1002, .k 1003] ⟨[], H_Checker x1.2⟩ (And.intro (And.intro (c_valid_checker_take p0 1 x1 hx2) True.intro) True.intro) (by kernel_rfl) ?_
    have H := Option.some.inj H
    subst H
    exact retS_mkn3 [] [.k 1000, .k 1001, .k 1002, .k 1003] True.intro (by kernel_rfl) (by kernel_rfl)
  · replace H := ite_f H hc
    refine AW2.seq ?_
    refine AW2.rg [] [0, 3, 8, 16] [] [.k 3, .k 1000, .k 1001, .k 1002, .k 1003] ⟨[(0, .p 1000 0), (3, .p 3 0), (8, .d (.int .u8 p1.op)), (16, .d (.bool (p1.op == (27 : Int))))], [(3, .st false (eD (eInstr p1)))] ++ H_Checker p0⟩ (And.intro True.intro True.intro) (by kernel_rfl) ?_
    refine AW2.cond (b := (p1.op == (27 : Int))) rfl (fun hc => ?_) (fun hc => ?_)
    · replace H := ite_t H hc
      refine AW2.seq ?_
      obtain ⟨x3, hx4, H⟩ := bind_some H
      refine AW2.rg [.c [1000, 1001, 1002, 1003] [] [1000] (.d (.int .u8 x3.1)) (H_Checker x3.2)] [0] [] [.k 1000, .k 1001, .k 1002, .k 1003] ⟨[(0, .p 1000 0)], H_Checker x3.2⟩ (And.intro (And.intro (c_valid_checker_take p0 127 x3 hx4) True.intro) True.intro) (by kernel_rfl) ?_
      refine AW2.seq ?_
      obtain ⟨x5, hx6, H⟩ := bind_some H
      refine AW2.rg [.c [1000, 1001, 1002, 1003] [] [1000] (.d (.int .u8 x5.1)) (H_Checker x5.2)] [0, 4] [] [.k 1000, .k 1001, .k 1002, .k 1003] ⟨[(0, .p 1000 0), (4, .d (.int .u8 x5.1))], H_Checker x5.2⟩ (And.intro (And.intro (c_valid_checker_take x3.2 1 x5 hx6) True.intro) True.intro) (by kernel_rfl) ?_
      obtain ⟨x7, hx8, H⟩ := bind_some H
      obtain ⟨x9, hx10, H⟩ := bind_some H
      refine AW2.rg [.c [1000, 1001, 1002, 1003] [] [1000] (.d (.int .u8 x7.1)) (H_Checker x7.2), .c [1000, 1001, 1002, 1003] [] [1000] (.tup []) (H_Checker x9)] [] [] [.k 1000, .k 1001, .k 1002, .k 1003] ⟨[], H_Checker x9⟩ (And.intro (And.intro (c_valid_checker_take x5.2 x5.1 x7 hx8) (And.intro (c_valid_checker_lay x7.2 x7.1 x9 hx10) True.intro)) True.intro) (by kernel_rfl) ?_
      have H := Option.some.inj H
      subst H
      exact retS_mkn3 [] [.k 1000, .k 1001, .k 1002, .k 1003] True.intro (by kernel_rfl) (by kernel_rfl)
    · replace H := ite_f H hc
      refine AW2.seq ?_
      refine AW2.rg [] [0, 3, 8, 27] [] [.k 3, .k 1000, .k 1001, .k 1002, .k 1003] ⟨[(0, .p 1000 0), (3, .p 3 0), (8, .d (.int .u8 p1.op)), (27, .d (.bool (p1.op == (32 : Int))))], [(3, .st false (eD (eInstr p1)))] ++ H_Checker p0⟩ (And.intro True.intro True.intro) (by kernel_rfl) ?_
      refine AW2.cond (b := (p1.op == (32 : Int))) rfl (fun hc => ?_) (fun hc => ?_)
      · replace H := ite_t H hc
        obtain ⟨x11, hx12, H⟩ := bind_some H
        obtain ⟨x13, hx14, H⟩ := bind_some H
        refine AW2.rg [.c [1000, 1001, 1002, 1003] [] [1000] (.d (.int .u8 x11.1)) (H_Checker x11.2), .c [1000, 1001, 1002, 1003] [] [1000] (.tup []) (H_Checker x13)] [] [] [.k 1000, .k 1001, .k 1002, .k 1003] ⟨[], H_Checker x13⟩ (And.intro (And.intro (c_valid_checker_local p0 p1.n x11 hx12) (And.intro (c_valid_checker_lay x11.2 x11.1 x13 hx14) True.intro)) True.intro) (by kernel_rfl) ?_
        have H := Option.some.inj H
        subst H
        exact retS_mkn3 [] [.k 1000, .k 1001, .k 1002, .k 1003] True.intro (by kernel_rfl) (by kernel_rfl)
      · replace H := ite_f H hc
        refine AW2.seq ?_
        refine AW2.rg [] [0, 3, 8, 35] [] [.k 3, .k 1000, .k 1001, .k 1002, .k 1003] ⟨[(0, .p 1000 0), (3, .p 3 0), (8, .d (.int .u8 p1.op)), (35, .d (.bool (p1.op == (33 : Int))))], [(3, .st false (eD (eInstr p1)))] ++ H_Checker p0⟩ (And.intro True.intro True.intro) (by kernel_rfl) ?_
        refine AW2.cond (b := (p1.op == (33 : Int))) rfl (fun hc => ?_) (fun hc => ?_)
        · replace H := ite_t H hc
          obtain ⟨x15, hx16, H⟩ := bind_some H
          obtain ⟨x17, hx18, H⟩ := bind_some H
          refine AW2.rg [.c [1000, 1001, 1002, 1003] [] [1000] (.d (.int .u8 x15.1)) (H_Checker x15.2), .c [1000, 1001, 1002, 1003] [] [1000] (.d (.int .u8 x17.1)) (H_Checker x17.2)] [] [] [.k 1000, .k 1001, .k 1002, .k 1003] ⟨[], H_Checker x17.2⟩ (And.intro (And.intro (c_valid_checker_local p0 p1.n x15 hx16) (And.intro (c_valid_checker_take x15.2 x15.1 x17 hx18) True.intro)) True.intro) (by kernel_rfl) ?_
          have H := Option.some.inj H
          subst H
          exact retS_mkn3 [] [.k 1000, .k 1001, .k 1002, .k 1003] True.intro (by kernel_rfl) (by kernel_rfl)
        · replace H := ite_f H hc
          refine AW2.seq ?_
          refine AW2.rg [] [0, 3, 8, 43] [] [.k 3, .k 1000, .k 1001, .k 1002, .k 1003] ⟨[(0, .p 1000 0), (3, .p 3 0), (8, .d (.int .u8 p1.op)), (43, .d (.bool (p1.op == (34 : Int))))], [(3, .st false (eD (eInstr p1)))] ++ H_Checker p0⟩ (And.intro True.intro True.intro) (by kernel_rfl) ?_
          refine AW2.cond (b := (p1.op == (34 : Int))) rfl (fun hc => ?_) (fun hc => ?_)
          · replace H := ite_t H hc
            refine AW2.seq ?_
            obtain ⟨x19, hx20, H⟩ := bind_some H
            refine AW2.rg [.c [1000, 1001, 1002, 1003] [] [1000] (.d (.int .u8 x19.1)) (H_Checker x19.2)] [0, 5] [] [.k 1000, .k 1001, .k 1002, .k 1003] ⟨[(0, .p 1000 0), (5, .d (.int .u8 x19.1))], H_Checker x19.2⟩ (And.intro (And.intro (c_valid_checker_local p0 p1.n x19 hx20) True.intro) True.intro) (by kernel_rfl) ?_
            refine AW2.seq ?_
            obtain ⟨x21, hx22, H⟩ := bind_some H
            refine AW2.rg [.c [1000, 1001, 1002, 1003] [] [1000] (.d (.int .u8 x21.1)) (H_Checker x21.2)] [0, 5] [] [.k 1000, .k 1001, .k 1002, .k 1003] ⟨[(0, .p 1000 0), (5, .d (.int .u8 x19.1))], H_Checker x21.2⟩ (And.intro (And.intro (c_valid_checker_take x19.2 x19.1 x21 hx22) True.intro) True.intro) (by kernel_rfl) ?_
            obtain ⟨x23, hx24, H⟩ := bind_some H
            refine AW2.rg [.c [1000, 1001, 1002, 1003] [] [1000] (.tup []) (H_Checker x23)] [] [] [.k 1000, .k 1001, .k 1002, .k 1003] ⟨[], H_Checker x23⟩ (And.intro (And.intro (c_valid_checker_lay x21.2 x19.1 x23 hx24) True.intro) True.intro) (by kernel_rfl) ?_
            have H := Option.some.inj H
            subst H
            exact retS_mkn3 [] [.k 1000, .k 1001, .k 1002, .k 1003] True.intro (by kernel_rfl) (by kernel_rfl)
          · replace H := ite_f H hc
            refine AW2.seq ?_
            refine AW2.rg [] [0, 3, 8, 55] [] [.k 3, .k 1000, .k 1001, .k 1002, .k 1003] ⟨[(0, .p 1000 0), (3, .p 3 0), (8, .d (.int .u8 p1.op)), (55, .d (.bool (p1.op == (35 : Int))))], [(3, .st false (eD (eInstr p1)))] ++ H_Checker p0⟩ (And.intro True.intro True.intro) (by kernel_rfl) ?_
            refine AW2.cond (b := (p1.op == (35 : Int))) rfl (fun hc => ?_) (fun hc => ?_)
            · replace H := ite_t H hc
              obtain ⟨x25, hx26, H⟩ := bind_some H
              obtain ⟨x27, hx28, H⟩ := bind_some H
              refine AW2.rg [.c [1000, 1001, 1002, 1003] [] [1000] (.agg (eD (eGlo x25.1))) (H_Checker x25.2), .c [1000, 1001, 1002, 1003] [] [1000] (.tup []) (H_Checker x27)] [] [] [.k 1000, .k 1001, .k 1002, .k 1003] ⟨[], H_Checker x27⟩ (And.intro (And.intro (c_valid_checker_global p0 p1.n x25 hx26) (And.intro (c_valid_checker_lay x25.2 x25.1.kind x27 hx28) True.intro)) True.intro) (by kernel_rfl) ?_
              have H := Option.some.inj H
              subst H
              exact retS_mkn3 [] [.k 1000, .k 1001, .k 1002, .k 1003] True.intro (by kernel_rfl) (by kernel_rfl)
            · replace H := ite_f H hc
              refine AW2.seq ?_
              refine AW2.rg [] [0, 3, 64] [] [.k 3, .k 1000, .k 1001, .k 1002, .k 1003] ⟨[(0, .p 1000 0), (3, .p 3 0), (64, .d (.bool (p1.op == (36 : Int))))], [(3, .st false (eD (eInstr p1)))] ++ H_Checker p0⟩ (And.intro True.intro True.intro) (by kernel_rfl) ?_
              refine AW2.cond (b := (p1.op == (36 : Int))) rfl (fun hc => ?_) (fun hc => ?_)
              · replace H := ite_t H hc
                refine AW2.seq ?_
                obtain ⟨x29, hx30, H⟩ := bind_some H
                refine AW2.rg [.c [1000, 1001, 1002, 1003] [] [1000] (.agg (eD (eGlo x29.1))) (H_Checker x29.2), .k 6] [0, 6] [] [.k 6, .k 1000, .k 1001, .k 1002, .k 1003] ⟨[(0, .p 1000 0), (6, .p 6 0)], [(6, .st false (eD (eGlo x29.1)))] ++ H_Checker x29.2⟩ (And.intro (And.intro (c_valid_checker_global p0 p1.n x29 hx30) True.intro) True.intro) (by kernel_rfl) ?_
                refine AW2.seq ?_
                obtain ⟨j31, H35, H⟩ := bind_some H
                refine AW2.reg [] rfl (YW.to ⟨[(0, .p 1000 0), (6, .p 6 0)], [(6, .st false (eD (eGlo x29.1)))] ++ H_Checker j31⟩ ?qh36 ?h36)
                case h36 =>
                  have H := H35
                  rcases bT x29.2.bad with hc1 | hc1
                  · replace H := ite_t H hc1
                    have H := Option.some.inj H
                    subst H
                    exact YW.fin [(75, true)] [] [0, 6] [] [.k 6, .k 1000, .k 1001, .k 1002, .k 1003] _ (And.intro (And.intro hc1 (And.intro hc1 (And.intro hc1 (And.intro hc1 True.intro)))) True.intro) (by kernel_rfl) rfl
                  · replace H := ite_f H hc1
                    have H := Option.some.inj H
                    subst H
                    exact YW.fin [(75, false)] [] [0, 6] [] [.k 6, .k 1000, .k 1001, .k 1002, .k 1003] _ (And.intro (And.intro hc1 (And.intro hc1 (And.intro hc1 (And.intro hc1 True.intro)))) True.intro) (by kernel_rfl) rfl
                obtain ⟨x32, hx33, H⟩ := bind_some H
                refine AW2.rg [.c [1000, 1001, 1002, 1003] [] [1000] (.d (.int .u8 x32.1)) (H_Checker x32.2)] [] [] [.k 1000, .k 1001, .k 1002, .k 1003] ⟨[], H_Checker x32.2⟩ (And.intro (And.intro (c_valid_checker_take j31 x29.1.kind x32 hx33) True.intro) True.intro) (by kernel_rfl) ?_
                have H := Option.some.inj H
                subst H
                exact retS_mkn3 [] [.k 1000, .k 1001, .k 1002, .k 1003] True.intro (by kernel_rfl) (by kernel_rfl)
              · replace H := ite_f H hc
                obtain ⟨x37, hx38, H⟩ := bind_some H
                refine AW2.rg [.c [1000, 1001, 1002, 1003] [] [1000] (.tup []) (H_Checker x37)] [] [] [.k 1000, .k 1001, .k 1002, .k 1003] ⟨[], H_Checker x37⟩ (And.intro (And.intro (c_valid_checker_plain p0 p1 x37 hx38) True.intro) True.intro) (by kernel_rfl) ?_
                have H := Option.some.inj H
                subst H
                exact retS_mkn3 [] [.k 1000, .k 1001, .k 1002, .k 1003] True.intro (by kernel_rfl) (by kernel_rfl)

end Go.Proofs.YtablleokoifolaaGreatDoor

/- Plain functions and their contracts. Written by a program of this claim set (g2.py). -/
set_option linter.unusedVariables false
set_option maxRecDepth 100000
set_option maxHeartbeats 4000000
namespace Go.Proofs.YtablleokoifolaaGreatDoor
open Go

/- (*mandrel/valid.checker).inner, (*mandrel/valid.checker).control, (*mandrel/valid.checker).list -/
mutual
def g_valid_checker_inner : Nat → Checker → (List Instr) → Int → Int → Option (Checker)
  | 0, _, _, _, _ => none
  | k+1, p0, p1, p2, p3 => gd (0 ≤ (wI ((p0.frames.length : Int) - 1)) ∧ (wI ((p0.frames.length : Int) - 1)) < (p0.frames.length : Int)) (((if (p0.frames.getD ((wI ((p0.frames.length : Int) - 1)).toNat) default).away = true then gd ((p0.frames.length + 1) * 16 ≤ 140737488355328) (some (Checker.mk p0.m p0.t p0.locals p0.stack (p0.frames ++ ([(Frame.mk (p0.stack.length : Int) false true)] : List Frame)) p0.labels p0.most p0.bad)) else gd ((p0.frames.length + 1) * 16 ≤ 140737488355328) (some (Checker.mk p0.m p0.t p0.locals p0.stack (p0.frames ++ ([(Frame.mk (p0.stack.length : Int) false ((p0.frames.getD ((wI ((p0.frames.length : Int) - 1)).toNat) default).dead))] : List Frame)) p0.labels p0.most p0.bad)))).bind (fun j4 => gd ((j4.labels.length + 1) * 1 ≤ 140737488355328) (((g_valid_checker_list k (Checker.mk j4.m j4.t j4.locals j4.stack j4.frames (j4.labels ++ ([p3] : List Int)) j4.most j4.bad) p1).bind fun x6 => ((g_valid_checker_take x6 p2).bind fun x8 => gd (0 ≤ (wI ((x8.2.frames.length : Int) - 1)) ∧ (wI ((x8.2.frames.length : Int) - 1)) < (x8.2.frames.length : Int)) (((if x8.2.bad = true then some (Checker.mk x8.2.m x8.2.t x8.2.locals x8.2.stack x8.2.frames x8.2.labels x8.2.most true) else some (Checker.mk x8.2.m x8.2.t x8.2.locals x8.2.stack x8.2.frames x8.2.labels x8.2.most ((x8.2.stack.length : Int) != ((x8.2.frames.getD ((wI ((x8.2.frames.length : Int) - 1)).toNat) default).height))))).bind (fun j11 => gd (0 ≤ (0 : Int) ∧ 0 ≤ (mnI ((x8.2.frames.getD ((wI ((x8.2.frames.length : Int) - 1)).toNat) default).height) (j11.stack.length : Int)) ∧ (mnI ((x8.2.frames.getD ((wI ((x8.2.frames.length : Int) - 1)).toNat) default).height) (j11.stack.length : Int)) ≤ (j11.stack.length : Int)) (gd (0 ≤ (0 : Int) ∧ 0 ≤ (wI ((j11.frames.length : Int) - 1)) ∧ (wI ((j11.frames.length : Int) - 1)) ≤ (j11.frames.length : Int)) (gd (0 ≤ (0 : Int) ∧ 0 ≤ (wI ((j11.labels.length : Int) - 1)) ∧ (wI ((j11.labels.length : Int) - 1)) ≤ (j11.labels.length : Int)) (some (Checker.mk j11.m j11.t j11.locals (List.take ((mnI ((x8.2.frames.getD ((wI ((x8.2.frames.length : Int) - 1)).toNat) default).height) (j11.stack.length : Int)).toNat) j11.stack) (List.take ((wI ((j11.frames.length : Int) - 1)).toNat) j11.frames) (List.take ((wI ((j11.labels.length : Int) - 1)).toNat) j11.labels) j11.most j11.bad)))))))))))

def g_valid_checker_control : Nat → Checker → Instr → Option (Checker)
  | 0, _, _ => none
  | k+1, p0, p1 => (if (p1.op == (0 : Int)) = true then ((g_valid_checker_leave p0).bind fun x1 => some x1) else (if (p1.op == (1 : Int)) = true then some p0 else ((if (p1.op == (2 : Int)) = true then some (p1.op == (2 : Int)) else some (p1.op == (3 : Int)))).bind (fun j3 => (if j3 = true then ((if p0.bad = true then some (Checker.mk p0.m p0.t p0.locals p0.stack p0.frames p0.labels p0.most true) else ((g_valid_result p1.result).bind fun x4 => some (Checker.mk p0.m p0.t p0.locals p0.stack p0.frames p0.labels p0.most (!x4))))).bind (fun j6 => ((if (p1.op == (3 : Int)) = true then some 0 else some p1.result)).bind (fun j7 => ((g_valid_checker_inner k j6 p1.body p1.result j7).bind fun x8 => ((g_valid_checker_lay x8 p1.result).bind fun x10 => some x10)))) else (if (p1.op == (4 : Int)) = true then ((if p0.bad = true then some (Checker.mk p0.m p0.t p0.locals p0.stack p0.frames p0.labels p0.most true) else ((g_valid_result p1.result).bind fun x17 => some (Checker.mk p0.m p0.t p0.locals p0.stack p0.frames p0.labels p0.most (!x17))))).bind (fun j19 => ((g_valid_checker_take j19 127).bind fun x20 => ((g_valid_checker_inner k x20.2 p1.body p1.result p1.result).bind fun x22 => ((g_valid_checker_inner k x22 p1.els p1.result p1.result).bind fun x24 => ((g_valid_checker_lay x24 p1.result).bind fun x26 => some x26))))) else (if (p1.op == (12 : Int)) = true then ((g_valid_checker_label p0 p1.n).bind fun x31 => ((g_valid_checker_take x31.2 x31.1).bind fun x33 => ((g_valid_checker_leave x33.2).bind fun x35 => some x35))) else (if (p1.op == (13 : Int)) = true then ((g_valid_checker_take p0 127).bind fun x37 => ((g_valid_checker_label x37.2 p1.n).bind fun x39 => ((g_valid_checker_take x39.2 x39.1).bind fun x41 => ((g_valid_checker_lay x41.2 x39.1).bind fun x43 => some x43)))) else (if (p1.op == (14 : Int)) = true then ((g_valid_checker_table k p0 p1).bind fun x45 => some x45) else (if (p1.op == (15 : Int)) = true then ((g_valid_checker_take p0 p0.t.result).bind fun x47 => ((g_valid_checker_leave x47.2).bind fun x49 => some x49)) else (if (p1.op == (16 : Int)) = true then ((g_valid_checker_function p0 p1.n).bind fun x51 => ((g_valid_checker_call x51.2 x51.1).bind fun x53 => some x53)) else (if (p1.op == (17 : Int)) = true then ((if p0.bad = true then some (Checker.mk p0.m p0.t p0.locals p0.stack p0.frames p0.labels p0.most true) else some (Checker.mk p0.m p0.t p0.locals p0.stack p0.frames p0.labels p0.most ((p0.m.tables.length : Int) == (0 : Int))))).bind (fun j55 => ((g_valid_checker_take j55 127).bind fun x56 => ((g_valid_checker_typ x56.2 p1.n).bind fun x58 => ((g_valid_checker_call x58.2 x58.1).bind fun x60 => some x60)))) else some (Checker.mk p0.m p0.t p0.locals p0.stack p0.frames p0.labels p0.most true))))))))))))

def g_valid_checker_list : Nat → Checker → (List Instr) → Option (Checker)
  | 0, _, _ => none
  | k+1, p0, p1 => lpN k (fun (rec5 : Checker × Int → Option (Checker)) v => match v with | (a3, a4) => (if (decide (a4 < (p1.length : Int))) = true then gd (0 ≤ a4 ∧ a4 < (p1.length : Int)) ((if a3.bad = true then some a3 else (if (decide ((((p1.getD a4.toNat default)).op) < (26 : Int))) = true then ((g_valid_checker_control k a3 (p1.getD a4.toNat default)).bind fun x7 => rec5 (x7, (wI (a4 + 1)))) else ((g_valid_checker_simple a3 (p1.getD a4.toNat default)).bind fun x9 => rec5 (x9, (wI (a4 + 1))))))) else some a3)) (p0, 0)
end
theorem s_valid_checker_inner (k : Nat) (IH_valid_checker_inner : ∀ (p0 : Checker) (p1 : List Instr) (p2 : Int) (p3 : Int) (r : Checker), g_valid_checker_inner k p0 p1 p2 p3 = some r → CM E 70 [.p 1000 0, .d (sVI p1), .d (.int .u8 p2), .d (.int .u8 p3)] (H_Checker p0) [] [1000] (fun a b => a = (.tup [] : LV) ∧ b = H_Checker r)) (IH_valid_checker_control : ∀ (p0 : Checker) (p1 : Instr) (r : Checker), g_valid_checker_control k p0 p1 = some r → CM E 55 [.p 1000 0, .agg (eD (eInstr p1))] (H_Checker p0) [] [1000] (fun a b => a = (.tup [] : LV) ∧ b = H_Checker r)) (IH_valid_checker_list : ∀ (p0 : Checker) (p1 : List Instr) (r : Checker), g_valid_checker_list k p0 p1 = some r → CM E 39 [.p 1000 0, .d (sVI p1)] (H_Checker p0) [] [1000] (fun a b => a = (.tup [] : LV) ∧ b = H_Checker r)) : ∀ (p0 : Checker) (p1 : List Instr) (p2 : Int) (p3 : Int) (r : Checker), g_valid_checker_inner (k + 1) p0 p1 p2 p3 = some r → CM E 70 [.p 1000 0, .d (sVI p1), .d (.int .u8 p2), .d (.int .u8 p3)] (H_Checker p0) [] [1000] (fun a b => a = (.tup [] : LV) ∧ b = H_Checker r) := by
  intro p0 p1 p2 p3 r H
  refine cs_of (A := F_valid_checker_inner) fn_valid_checker_inner fun fr => ?_
  unfold g_valid_checker_inner at H
  refine AW2.seq ?_
  obtain ⟨h1, H⟩ := gd_some H
  refine AW2.rg [.k 8] [0, 1, 2, 3, 8] [] [.k 8, .k 1000, .k 1001, .k 1002, .k 1003] ⟨[(0, .p 1000 0), (1, .d (sVI p1)), (2, .d (.int .u8 p2)), (3, .d (.int .u8 p3)), (8, .p 8 0)], [(8, .st false (eD (eFrame (p0.frames.getD ((wI ((p0.frames.length : Int) - 1)).toNat) default))))] ++ H_Checker p0⟩ (And.intro (And.intro h1 (And.intro (ixN h1) (And.intro (ixN h1) True.intro))) True.intro) (by kernel_rfl) ?_
  refine AW2.seq ?_
  obtain ⟨j4, H19, H⟩ := bind_some H
  refine AW2.reg [] rfl (YW.to ⟨[(0, .p 1000 0), (1, .d (sVI p1)), (2, .d (.int .u8 p2)), (3, .d (.int .u8 p3))], H_Checker j4⟩ ?qh20 ?h20)
  case h20 =>
    have H := H19
    rcases bT ((p0.frames.getD ((wI ((p0.frames.length : Int) - 1)).toNat) default).away) with hc1 | hc1
    · replace H := ite_t H hc1
      obtain ⟨h2, H⟩ := gd_some H
      have H := Option.some.inj H
      subst H
      exact YW.fin [(34, true)] [.sb ([(Frame.mk (p0.stack.length : Int) false true)] : List Frame).length (fl eFrame ([(Frame.mk (p0.stack.length : Int) false true)] : List Frame)), .s true (p0.frames ++ ([(Frame.mk (p0.stack.length : Int) false true)] : List Frame)).length (fl eFrame (p0.frames ++ ([(Frame.mk (p0.stack.length : Int) false true)] : List Frame)))] [0, 1, 2, 3] [] [.k 1000, .k 1001, .k 1002, .k 1003] _ (And.intro (And.intro hc1 (And.intro hc1 (And.intro hc1 (And.intro (litF eFrame ([(Frame.mk (p0.stack.length : Int) false true)] : List Frame)) (And.intro (Nat.le_refl p0.frames.length) (And.intro h2 (And.intro (app1 eFrame p0.frames (Frame.mk (p0.stack.length : Int) false true) (fl eFrame ([(Frame.mk (p0.stack.length : Int) false true)] : List Frame)) rfl) True.intro))))))) True.intro) (by kernel_rfl) rfl
    · replace H := ite_f H hc1
      obtain ⟨h3, H⟩ := gd_some H
      have H := Option.some.inj H
      subst H
      exact YW.fin [(34, false)] [.sb ([(Frame.mk (p0.stack.length : Int) false ((p0.frames.getD ((wI ((p0.frames.length : Int) - 1)).toNat) default).dead))] : List Frame).length (fl eFrame ([(Frame.mk (p0.stack.length : Int) false ((p0.frames.getD ((wI ((p0.frames.length : Int) - 1)).toNat) default).dead))] : List Frame)), .s true (p0.frames ++ ([(Frame.mk (p0.stack.length : Int) false ((p0.frames.getD ((wI ((p0.frames.length : Int) - 1)).toNat) default).dead))] : List Frame)).length (fl eFrame (p0.frames ++ ([(Frame.mk (p0.stack.length : Int) false ((p0.frames.getD ((wI ((p0.frames.length : Int) - 1)).toNat) default).dead))] : List Frame)))] [0, 1, 2, 3] [] [.k 1000, .k 1001, .k 1002, .k 1003] _ (And.intro (And.intro hc1 (And.intro hc1 (And.intro hc1 (And.intro (litF eFrame ([(Frame.mk (p0.stack.length : Int) false ((p0.frames.getD ((wI ((p0.frames.length : Int) - 1)).toNat) default).dead))] : List Frame)) (And.intro (Nat.le_refl p0.frames.length) (And.intro h3 (And.intro (app1 eFrame p0.frames (Frame.mk (p0.stack.length : Int) false ((p0.frames.getD ((wI ((p0.frames.length : Int) - 1)).toNat) default).dead)) (fl eFrame ([(Frame.mk (p0.stack.length : Int) false ((p0.frames.getD ((wI ((p0.frames.length : Int) - 1)).toNat) default).dead))] : List Frame)) rfl) True.intro))))))) True.intro) (by kernel_rfl) rfl
  refine AW2.seq ?_
  obtain ⟨h5, H⟩ := gd_some H
  refine AW2.rg [.sb ([p3] : List Int).length (fl (eI .u8) ([p3] : List Int)), .s true (j4.labels ++ ([p3] : List Int)).length (fl (eI .u8) (j4.labels ++ ([p3] : List Int)))] [0, 1, 2] [] [.k 1000, .k 1001, .k 1002, .k 1003] ⟨[(0, .p 1000 0), (1, .d (sVI p1)), (2, .d (.int .u8 p2))], H_Checker (Checker.mk j4.m j4.t j4.locals j4.stack j4.frames (j4.labels ++ ([p3] : List Int)) j4.most j4.bad)⟩ (And.intro (And.intro (litF (eI .u8) ([p3] : List Int)) (And.intro (Nat.le_refl j4.labels.length) (And.intro h5 (And.intro (app1 (eI .u8) j4.labels p3 (fl (eI .u8) ([p3] : List Int)) rfl) True.intro)))) True.intro) (by kernel_rfl) ?_
  refine AW2.seq ?_
  obtain ⟨x6, hx7, H⟩ := bind_some H
  refine AW2.rg [.c [1000, 1001, 1002, 1003] [] [1000] (.tup []) (H_Checker x6)] [0, 2] [] [.k 1000, .k 1001, .k 1002, .k 1003] ⟨[(0, .p 1000 0), (2, .d (.int .u8 p2))], H_Checker x6⟩ (And.intro (And.intro (IH_valid_checker_list (Checker.mk j4.m j4.t j4.locals j4.stack j4.frames (j4.labels ++ ([p3] : List Int)) j4.most j4.bad) p1 x6 hx7) True.intro) True.intro) (by kernel_rfl) ?_
  refine AW2.seq ?_
  obtain ⟨x8, hx9, H⟩ := bind_some H
  refine AW2.rg [.c [1000, 1001, 1002, 1003] [] [1000] (.d (.int .u8 x8.1)) (H_Checker x8.2)] [0] [] [.k 1000, .k 1001, .k 1002, .k 1003] ⟨[(0, .p 1000 0)], H_Checker x8.2⟩ (And.intro (And.intro (c_valid_checker_take x6 p2 x8 hx9) True.intro) True.intro) (by kernel_rfl) ?_
  refine AW2.seq ?_
  obtain ⟨h10, H⟩ := gd_some H
  refine AW2.rg [] [0, 9] [] [.k 1000, .k 1001, .k 1002, .k 1003] ⟨[(0, .p 1000 0), (9, .d (.int .i64 ((x8.2.frames.getD ((wI ((x8.2.frames.length : Int) - 1)).toNat) default).height)))], H_Checker x8.2⟩ (And.intro (And.intro h10 (And.intro (ixN h10) (And.intro (ixN h10) True.intro))) True.intro) (by kernel_rfl) ?_
  refine AW2.seq ?_
  obtain ⟨j11, H16, H⟩ := bind_some H
  refine AW2.reg [] rfl (YW.to ⟨[(0, .p 1000 0), (9, .d (.int .i64 ((x8.2.frames.getD ((wI ((x8.2.frames.length : Int) - 1)).toNat) default).height)))], H_Checker j11⟩ ?qh17 ?h17)
  case h17 =>
    have H := H16
    rcases bT x8.2.bad with hc1 | hc1
    · replace H := ite_t H hc1
      have H := Option.some.inj H
      subst H
      exact YW.fin [(77, true)] [] [0, 9] [] [.k 1000, .k 1001, .k 1002, .k 1003] _ (And.intro (And.intro hc1 (And.intro hc1 (And.intro hc1 (And.intro hc1 (And.intro hc1 (And.intro hc1 (And.intro hc1 (And.intro hc1 True.intro)))))))) True.intro) (by kernel_rfl) rfl
    · replace H := ite_f H hc1
      have H := Option.some.inj H
      subst H
      exact YW.fin [(77, false)] [] [0, 9] [] [.k 1000, .k 1001, .k 1002, .k 1003] _ (And.intro (And.intro hc1 (And.intro hc1 (And.intro hc1 (And.intro hc1 (And.intro hc1 (And.intro hc1 (And.intro hc1 (And.intro hc1 True.intro)))))))) True.intro) (by kernel_rfl) rfl
  refine AW2.seq ?_
  obtain ⟨h12, H⟩ := gd_some H
  refine AW2.rg [.s true (List.take ((mnI ((x8.2.frames.getD ((wI ((x8.2.frames.length : Int) - 1)).toNat) default).height) (j11.stack.length : Int)).toNat) j11.stack).length (fl (eI .u8) (List.take ((mnI ((x8.2.frames.getD ((wI ((x8.2.frames.length : Int) - 1)).toNat) default).height) (j11.stack.length : Int)).toNat) j11.stack))] [0] [] [.k 1000, .sl 1001 (List.take ((mnI ((x8.2.frames.getD ((wI ((x8.2.frames.length : Int) - 1)).toNat) default).height) (j11.stack.length : Int)).toNat) j11.stack).length (fl (eI .u8) (List.take ((mnI ((x8.2.frames.getD ((wI ((x8.2.frames.length : Int) - 1)).toNat) default).height) (j11.stack.length : Int)).toNat) j11.stack)), .k 1002, .k 1003] ⟨[(0, .p 1000 0)], H_Checker (Checker.mk j11.m j11.t j11.locals (List.take ((mnI ((x8.2.frames.getD ((wI ((x8.2.frames.length : Int) - 1)).toNat) default).height) (j11.stack.length : Int)).toNat) j11.stack) j11.frames j11.labels j11.most j11.bad)⟩ (And.intro (And.intro h12 (And.intro (takeN h12) True.intro)) (And.intro (takeL j11.stack ((mnI ((x8.2.frames.getD ((wI ((x8.2.frames.length : Int) - 1)).toNat) default).height) (j11.stack.length : Int)).toNat)) (And.intro (takeF (eI .u8) j11.stack ((mnI ((x8.2.frames.getD ((wI ((x8.2.frames.length : Int) - 1)).toNat) default).height) (j11.stack.length : Int)).toNat)) True.intro))) (by kernel_rfl) ?_
  obtain ⟨h13, H⟩ := gd_some H
  obtain ⟨h14, H⟩ := gd_some H
  refine AW2.reg [(1000, 0, 12)] (by kernel_rfl) (YW.fin [] [.s true (List.take ((wI ((j11.frames.length : Int) - 1)).toNat) j11.frames).length (fl eFrame (List.take ((wI ((j11.frames.length : Int) - 1)).toNat) j11.frames)), .s true (List.take ((wI ((j11.labels.length : Int) - 1)).toNat) j11.labels).length (fl (eI .u8) (List.take ((wI ((j11.labels.length : Int) - 1)).toNat) j11.labels))] [] [] [.k 1000, .k 1001, .sl 1002 (List.take ((wI ((j11.frames.length : Int) - 1)).toNat) j11.frames).length (fl eFrame (List.take ((wI ((j11.frames.length : Int) - 1)).toNat) j11.frames)), .sl 1003 (List.take ((wI ((j11.labels.length : Int) - 1)).toNat) j11.labels).length (fl (eI .u8) (List.take ((wI ((j11.labels.length : Int) - 1)).toNat) j11.labels))] ⟨[], H_Checker (Checker.mk j11.m j11.t j11.locals (List.take ((mnI ((x8.2.frames.getD ((wI ((x8.2.frames.length : Int) - 1)).toNat) default).height) (j11.stack.length : Int)).toNat) j11.stack) (List.take ((wI ((j11.frames.length : Int) - 1)).toNat) j11.frames) (List.take ((wI ((j11.labels.length : Int) - 1)).toNat) j11.labels) j11.most j11.bad)⟩ (And.intro (And.intro h13 (And.intro (takeN h13) (And.intro h14 (And.intro (takeN h14) True.intro)))) (And.intro (takeL j11.frames ((wI ((j11.frames.length : Int) - 1)).toNat)) (And.intro (takeF eFrame j11.frames ((wI ((j11.frames.length : Int) - 1)).toNat)) (And.intro (takeL j11.labels ((wI ((j11.labels.length : Int) - 1)).toNat)) (And.intro (takeF (eI .u8) j11.labels ((wI ((j11.labels.length : Int) - 1)).toNat)) True.intro))))) (by kernel_rfl) ?_)
  have H := Option.some.inj H
  subst H
  exact retS_mkn3 [] [.k 1000, .k 1001, .k 1002, .k 1003] True.intro (by kernel_rfl) (by kernel_rfl)
theorem s_valid_checker_control (k : Nat) (IH_valid_checker_inner : ∀ (p0 : Checker) (p1 : List Instr) (p2 : Int) (p3 : Int) (r : Checker), g_valid_checker_inner k p0 p1 p2 p3 = some r → CM E 70 [.p 1000 0, .d (sVI p1), .d (.int .u8 p2), .d (.int .u8 p3)] (H_Checker p0) [] [1000] (fun a b => a = (.tup [] : LV) ∧ b = H_Checker r)) (IH_valid_checker_control : ∀ (p0 : Checker) (p1 : Instr) (r : Checker), g_valid_checker_control k p0 p1 = some r → CM E 55 [.p 1000 0, .agg (eD (eInstr p1))] (H_Checker p0) [] [1000] (fun a b => a = (.tup [] : LV) ∧ b = H_Checker r)) (IH_valid_checker_list : ∀ (p0 : Checker) (p1 : List Instr) (r : Checker), g_valid_checker_list k p0 p1 = some r → CM E 39 [.p 1000 0, .d (sVI p1)] (H_Checker p0) [] [1000] (fun a b => a = (.tup [] : LV) ∧ b = H_Checker r)) : ∀ (p0 : Checker) (p1 : Instr) (r : Checker), g_valid_checker_control (k + 1) p0 p1 = some r → CM E 55 [.p 1000 0, .agg (eD (eInstr p1))] (H_Checker p0) [] [1000] (fun a b => a = (.tup [] : LV) ∧ b = H_Checker r) := by
  intro p0 p1 r H
  refine cs_of (A := F_valid_checker_control) fn_valid_checker_control fun fr => ?_
  unfold g_valid_checker_control at H
  refine AW2.seq ?_
  refine AW2.rg [.k 3] [0, 3] [] [.k 3, .k 1000, .k 1001, .k 1002, .k 1003] ⟨[(0, .p 1000 0), (3, .p 3 0)], [(3, .st false (eD (eInstr p1)))] ++ H_Checker p0⟩ (And.intro True.intro True.intro) (by kernel_rfl) ?_
  refine AW2.seq ?_
  refine AW2.rg [] [0, 3, 7] [] [.k 3, .k 1000, .k 1001, .k 1002, .k 1003] ⟨[(0, .p 1000 0), (3, .p 3 0), (7, .d (.int .u8 p1.op))], [(3, .st false (eD (eInstr p1)))] ++ H_Checker p0⟩ (And.intro True.intro True.intro) (by kernel_rfl) ?_
  refine AW2.block ?_
  refine AW2.seq ?_
  refine AW2.rg [] [0, 3, 7, 11] [] [.k 3, .k 1000, .k 1001, .k 1002, .k 1003] ⟨[(0, .p 1000 0), (3, .p 3 0), (7, .d (.int .u8 p1.op)), (11, .d (.bool (p1.op == (0 : Int))))], [(3, .st false (eD (eInstr p1)))] ++ H_Checker p0⟩ (And.intro True.intro True.intro) (by kernel_rfl) ?_
  refine AW2.cond (b := (p1.op == (0 : Int))) rfl (fun hc => ?_) (fun hc => ?_)
  · replace H := ite_t H hc
    obtain ⟨x1, hx2, H⟩ := bind_some H
    refine AW2.rg [.c [1000, 1001, 1002, 1003] [] [1000] (.tup []) (H_Checker x1)] [] [] [.k 1000, .k 1001, .k 1002, .k 1003] ⟨[], H_Checker x1⟩ (And.intro (And.intro (c_valid_checker_leave p0 x1 hx2) True.intro) True.intro) (by kernel_rfl) ?_
    have H := Option.some.inj H
    subst H
    exact retS_mkn3 [] [.k 1000, .k 1001, .k 1002, .k 1003] True.intro (by kernel_rfl) (by kernel_rfl)
  · replace H := ite_f H hc
    refine AW2.seq ?_
    refine AW2.rg [] [0, 3, 7, 15] [] [.k 3, .k 1000, .k 1001, .k 1002, .k 1003] ⟨[(0, .p 1000 0), (3, .p 3 0), (7, .d (.int .u8 p1.op)), (15, .d (.bool (p1.op == (1 : Int))))], [(3, .st false (eD (eInstr p1)))] ++ H_Checker p0⟩ (And.intro True.intro True.intro) (by kernel_rfl) ?_
    refine AW2.cond (b := (p1.op == (1 : Int))) rfl (fun hc => ?_) (fun hc => ?_)
    · replace H := ite_t H hc
      refine AW2.skip ?_
      have H := Option.some.inj H
      subst H
      exact retS_mkn3 [] [.k 1000, .k 1001, .k 1002, .k 1003] True.intro (by kernel_rfl) (by kernel_rfl)
    · replace H := ite_f H hc
      obtain ⟨j3, H66, H⟩ := bind_some H
      refine AW2.mid ⟨[(0, .p 1000 0), (3, .p 3 0), (7, .d (.int .u8 p1.op)), (17, .d (.bool j3))], [(3, .st false (eD (eInstr p1)))] ++ H_Checker p0⟩ ?_ ?_
      · refine AW2.cond (b := j3) rfl (fun hc => ?_) (fun hc => ?_)
        · replace H := ite_t H hc
          refine AW2.seq ?_
          obtain ⟨j6, H15, H⟩ := bind_some H
          refine AW2.reg [] rfl (YW.to ⟨[(0, .p 1000 0), (3, .p 3 0)], [(3, .st false (eD (eInstr p1)))] ++ H_Checker j6⟩ ?qh16 ?h16)
          case h16 =>
            have H := H15
            rcases bT p0.bad with hc1 | hc1
            · replace H := ite_t H hc1
              have H := Option.some.inj H
              subst H
              exact YW.fin [(25, true)] [] [0, 3] [] [.k 3, .k 1000, .k 1001, .k 1002, .k 1003] _ (And.intro (And.intro hc1 (And.intro hc1 (And.intro hc1 (And.intro hc1 (And.intro hc1 True.intro))))) True.intro) (by kernel_rfl) rfl
            · replace H := ite_f H hc1
              obtain ⟨x4, hx5, H⟩ := bind_some H
              have H := Option.some.inj H
              subst H
              exact YW.fin [(25, false)] [.r (.bool x4)] [0, 3] [] [.k 3, .k 1000, .k 1001, .k 1002, .k 1003] _ (And.intro (And.intro hc1 (And.intro hc1 (And.intro hc1 (And.intro (c_valid_result p1.result x4 hx5) (And.intro hc1 (And.intro hc1 True.intro)))))) True.intro) (by kernel_rfl) rfl
          refine AW2.seq ?_
          refine AW2.rg [] [0, 3, 4] [] [.k 3, .k 1000, .k 1001, .k 1002, .k 1003] ⟨[(0, .p 1000 0), (3, .p 3 0), (4, .d (.int .u8 p1.result))], [(3, .st false (eD (eInstr p1)))] ++ H_Checker j6⟩ (And.intro True.intro True.intro) (by kernel_rfl) ?_
          obtain ⟨j7, H13, H⟩ := bind_some H
          refine AW2.mid ⟨[(0, .p 1000 0), (3, .p 3 0), (4, .d (.int .u8 j7))], [(3, .st false (eD (eInstr p1)))] ++ H_Checker j6⟩ ?_ ?_
          · refine AW2.seq ?_
            obtain ⟨x8, hx9, H⟩ := bind_some H
            refine AW2.rg [.c [1000, 1001, 1002, 1003] [] [1000] (.tup []) (H_Checker x8)] [0, 3] [] [.k 3, .k 1000, .k 1001, .k 1002, .k 1003] ⟨[(0, .p 1000 0), (3, .p 3 0)], [(3, .st false (eD (eInstr p1)))] ++ H_Checker x8⟩ (And.intro (And.intro (IH_valid_checker_inner j6 p1.body p1.result j7 x8 hx9) True.intro) True.intro) (by kernel_rfl) ?_
            obtain ⟨x10, hx11, H⟩ := bind_some H
            refine AW2.rg [.c [1000, 1001, 1002, 1003] [] [1000] (.tup []) (H_Checker x10)] [] [] [.k 1000, .k 1001, .k 1002, .k 1003] ⟨[], H_Checker x10⟩ (And.intro (And.intro (c_valid_checker_lay x8 p1.result x10 hx11) True.intro) True.intro) (by kernel_rfl) ?_
            have H := Option.some.inj H
            subst H
            exact retS_mkn3 [] [.k 1000, .k 1001, .k 1002, .k 1003] True.intro (by kernel_rfl) (by kernel_rfl)
          · have H := H13
            refine AW2.seq ?_
            refine AW2.rg [] [0, 3, 4, 37] [] [.k 3, .k 1000, .k 1001, .k 1002, .k 1003] ⟨[(0, .p 1000 0), (3, .p 3 0), (4, .d (.int .u8 p1.result)), (37, .d (.bool (p1.op == (3 : Int))))], [(3, .st false (eD (eInstr p1)))] ++ H_Checker j6⟩ (And.intro True.intro True.intro) (by kernel_rfl) ?_
            refine AW2.cond (b := (p1.op == (3 : Int))) rfl (fun hc => ?_) (fun hc => ?_)
            · replace H := ite_t H hc
              refine AW2.rg [] [0, 3, 4] [] [.k 3, .k 1000, .k 1001, .k 1002, .k 1003] ⟨[(0, .p 1000 0), (3, .p 3 0), (4, .d (.int .u8 0))], [(3, .st false (eD (eInstr p1)))] ++ H_Checker j6⟩ (And.intro True.intro True.intro) (by kernel_rfl) ?_
              have H := Option.some.inj H
              subst H
              exact wk_mk [0, 3, 4] [] [.k 3, .k 1000, .k 1001, .k 1002, .k 1003] True.intro (by kernel_rfl)
            · replace H := ite_f H hc
              refine AW2.skip ?_
              have H := Option.some.inj H
              subst H
              exact wk_mk [0, 3, 4] [] [.k 3, .k 1000, .k 1001, .k 1002, .k 1003] True.intro (by kernel_rfl)
        · replace H := ite_f H hc
          refine AW2.seq ?_
          refine AW2.rg [] [0, 3, 7, 49] [] [.k 3, .k 1000, .k 1001, .k 1002, .k 1003] ⟨[(0, .p 1000 0), (3, .p 3 0), (7, .d (.int .u8 p1.op)), (49, .d (.bool (p1.op == (4 : Int))))], [(3, .st false (eD (eInstr p1)))] ++ H_Checker p0⟩ (And.intro True.intro True.intro) (by kernel_rfl) ?_
          refine AW2.cond (b := (p1.op == (4 : Int))) rfl (fun hc => ?_) (fun hc => ?_)
          · replace H := ite_t H hc
            refine AW2.seq ?_
            obtain ⟨j19, H29, H⟩ := bind_some H
            refine AW2.reg [] rfl (YW.to ⟨[(0, .p 1000 0), (3, .p 3 0)], [(3, .st false (eD (eInstr p1)))] ++ H_Checker j19⟩ ?qh30 ?h30)
            case h30 =>
              have H := H29
              rcases bT p0.bad with hc1 | hc1
              · replace H := ite_t H hc1
                have H := Option.some.inj H
                subst H
                exact YW.fin [(56, true)] [] [0, 3] [] [.k 3, .k 1000, .k 1001, .k 1002, .k 1003] _ (And.intro (And.intro hc1 (And.intro hc1 (And.intro hc1 (And.intro hc1 (And.intro hc1 True.intro))))) True.intro) (by kernel_rfl) rfl
              · replace H := ite_f H hc1
                obtain ⟨x17, hx18, H⟩ := bind_some H
                have H := Option.some.inj H
                subst H
                exact YW.fin [(56, false)] [.r (.bool x17)] [0, 3] [] [.k 3, .k 1000, .k 1001, .k 1002, .k 1003] _ (And.intro (And.intro hc1 (And.intro hc1 (And.intro hc1 (And.intro (c_valid_result p1.result x17 hx18) (And.intro hc1 (And.intro hc1 True.intro)))))) True.intro) (by kernel_rfl) rfl
            refine AW2.seq ?_
            obtain ⟨x20, hx21, H⟩ := bind_some H
            refine AW2.rg [.c [1000, 1001, 1002, 1003] [] [1000] (.d (.int .u8 x20.1)) (H_Checker x20.2)] [0, 3] [] [.k 3, .k 1000, .k 1001, .k 1002, .k 1003] ⟨[(0, .p 1000 0), (3, .p 3 0)], [(3, .st false (eD (eInstr p1)))] ++ H_Checker x20.2⟩ (And.intro (And.intro (c_valid_checker_take j19 127 x20 hx21) True.intro) True.intro) (by kernel_rfl) ?_
            refine AW2.seq ?_
            obtain ⟨x22, hx23, H⟩ := bind_some H
            refine AW2.rg [.c [1000, 1001, 1002, 1003] [] [1000] (.tup []) (H_Checker x22)] [0, 3] [] [.k 3, .k 1000, .k 1001, .k 1002, .k 1003] ⟨[(0, .p 1000 0), (3, .p 3 0)], [(3, .st false (eD (eInstr p1)))] ++ H_Checker x22⟩ (And.intro (And.intro (IH_valid_checker_inner x20.2 p1.body p1.result p1.result x22 hx23) True.intro) True.intro) (by kernel_rfl) ?_
            refine AW2.seq ?_
            obtain ⟨x24, hx25, H⟩ := bind_some H
            refine AW2.rg [.c [1000, 1001, 1002, 1003] [] [1000] (.tup []) (H_Checker x24)] [0, 3] [] [.k 3, .k 1000, .k 1001, .k 1002, .k 1003] ⟨[(0, .p 1000 0), (3, .p 3 0)], [(3, .st false (eD (eInstr p1)))] ++ H_Checker x24⟩ (And.intro (And.intro (IH_valid_checker_inner x22 p1.els p1.result p1.result x24 hx25) True.intro) True.intro) (by kernel_rfl) ?_
            obtain ⟨x26, hx27, H⟩ := bind_some H
            refine AW2.rg [.c [1000, 1001, 1002, 1003] [] [1000] (.tup []) (H_Checker x26)] [] [] [.k 1000, .k 1001, .k 1002, .k 1003] ⟨[], H_Checker x26⟩ (And.intro (And.intro (c_valid_checker_lay x24 p1.result x26 hx27) True.intro) True.intro) (by kernel_rfl) ?_
            have H := Option.some.inj H
            subst H
            exact retS_mkn3 [] [.k 1000, .k 1001, .k 1002, .k 1003] True.intro (by kernel_rfl) (by kernel_rfl)
          · replace H := ite_f H hc
            refine AW2.seq ?_
            refine AW2.rg [] [0, 3, 7, 86] [] [.k 3, .k 1000, .k 1001, .k 1002, .k 1003] ⟨[(0, .p 1000 0), (3, .p 3 0), (7, .d (.int .u8 p1.op)), (86, .d (.bool (p1.op == (12 : Int))))], [(3, .st false (eD (eInstr p1)))] ++ H_Checker p0⟩ (And.intro True.intro True.intro) (by kernel_rfl) ?_
            refine AW2.cond (b := (p1.op == (12 : Int))) rfl (fun hc => ?_) (fun hc => ?_)
            · replace H := ite_t H hc
              refine AW2.seq ?_
              obtain ⟨x31, hx32, H⟩ := bind_some H
              obtain ⟨x33, hx34, H⟩ := bind_some H
              refine AW2.rg [.c [1000, 1001, 1002, 1003] [] [1000] (.d (.int .u8 x31.1)) (H_Checker x31.2), .c [1000, 1001, 1002, 1003] [] [1000] (.d (.int .u8 x33.1)) (H_Checker x33.2)] [0] [] [.k 1000, .k 1001, .k 1002, .k 1003] ⟨[(0, .p 1000 0)], H_Checker x33.2⟩ (And.intro (And.intro (c_valid_checker_label p0 p1.n x31 hx32) (And.intro (c_valid_checker_take x31.2 x31.1 x33 hx34) True.intro)) True.intro) (by kernel_rfl) ?_
              obtain ⟨x35, hx36, H⟩ := bind_some H
              refine AW2.rg [.c [1000, 1001, 1002, 1003] [] [1000] (.tup []) (H_Checker x35)] [] [] [.k 1000, .k 1001, .k 1002, .k 1003] ⟨[], H_Checker x35⟩ (And.intro (And.intro (c_valid_checker_leave x33.2 x35 hx36) True.intro) True.intro) (by kernel_rfl) ?_
              have H := Option.some.inj H
              subst H
              exact retS_mkn3 [] [.k 1000, .k 1001, .k 1002, .k 1003] True.intro (by kernel_rfl) (by kernel_rfl)
            · replace H := ite_f H hc
              refine AW2.seq ?_
              refine AW2.rg [] [0, 3, 7, 96] [] [.k 3, .k 1000, .k 1001, .k 1002, .k 1003] ⟨[(0, .p 1000 0), (3, .p 3 0), (7, .d (.int .u8 p1.op)), (96, .d (.bool (p1.op == (13 : Int))))], [(3, .st false (eD (eInstr p1)))] ++ H_Checker p0⟩ (And.intro True.intro True.intro) (by kernel_rfl) ?_
              refine AW2.cond (b := (p1.op == (13 : Int))) rfl (fun hc => ?_) (fun hc => ?_)
              · replace H := ite_t H hc
                refine AW2.seq ?_
                obtain ⟨x37, hx38, H⟩ := bind_some H
                refine AW2.rg [.c [1000, 1001, 1002, 1003] [] [1000] (.d (.int .u8 x37.1)) (H_Checker x37.2)] [0, 3] [] [.k 3, .k 1000, .k 1001, .k 1002, .k 1003] ⟨[(0, .p 1000 0), (3, .p 3 0)], [(3, .st false (eD (eInstr p1)))] ++ H_Checker x37.2⟩ (And.intro (And.intro (c_valid_checker_take p0 127 x37 hx38) True.intro) True.intro) (by kernel_rfl) ?_
                refine AW2.seq ?_
                obtain ⟨x39, hx40, H⟩ := bind_some H
                refine AW2.rg [.c [1000, 1001, 1002, 1003] [] [1000] (.d (.int .u8 x39.1)) (H_Checker x39.2)] [0, 5] [] [.k 1000, .k 1001, .k 1002, .k 1003] ⟨[(0, .p 1000 0), (5, .d (.int .u8 x39.1))], H_Checker x39.2⟩ (And.intro (And.intro (c_valid_checker_label x37.2 p1.n x39 hx40) True.intro) True.intro) (by kernel_rfl) ?_
                refine AW2.seq ?_
                obtain ⟨x41, hx42, H⟩ := bind_some H
                refine AW2.rg [.c [1000, 1001, 1002, 1003] [] [1000] (.d (.int .u8 x41.1)) (H_Checker x41.2)] [0, 5] [] [.k 1000, .k 1001, .k 1002, .k 1003] ⟨[(0, .p 1000 0), (5, .d (.int .u8 x39.1))], H_Checker x41.2⟩ (And.intro (And.intro (c_valid_checker_take x39.2 x39.1 x41 hx42) True.intro) True.intro) (by kernel_rfl) ?_
                obtain ⟨x43, hx44, H⟩ := bind_some H
                refine AW2.rg [.c [1000, 1001, 1002, 1003] [] [1000] (.tup []) (H_Checker x43)] [] [] [.k 1000, .k 1001, .k 1002, .k 1003] ⟨[], H_Checker x43⟩ (And.intro (And.intro (c_valid_checker_lay x41.2 x39.1 x43 hx44) True.intro) True.intro) (by kernel_rfl) ?_
                have H := Option.some.inj H
                subst H
                exact retS_mkn3 [] [.k 1000, .k 1001, .k 1002, .k 1003] True.intro (by kernel_rfl) (by kernel_rfl)
              · replace H := ite_f H hc
                refine AW2.seq ?_
                refine AW2.rg [] [0, 3, 7, 110] [] [.k 3, .k 1000, .k 1001, .k 1002, .k 1003] ⟨[(0, .p 1000 0), (3, .p 3 0), (7, .d (.int .u8 p1.op)), (110, .d (.bool (p1.op == (14 : Int))))], [(3, .st false (eD (eInstr p1)))] ++ H_Checker p0⟩ (And.intro True.intro True.intro) (by kernel_rfl) ?_
                refine AW2.cond (b := (p1.op == (14 : Int))) rfl (fun hc => ?_) (fun hc => ?_)
                · replace H := ite_t H hc
                  obtain ⟨x45, hx46, H⟩ := bind_some H
                  refine AW2.rg [.c [1000, 1001, 1002, 1003] [] [1000] (.tup []) (H_Checker x45)] [] [] [.k 1000, .k 1001, .k 1002, .k 1003] ⟨[], H_Checker x45⟩ (And.intro (And.intro (c_valid_checker_table k p0 p1 x45 hx46) True.intro) True.intro) (by kernel_rfl) ?_
                  have H := Option.some.inj H
                  subst H
                  exact retS_mkn3 [] [.k 1000, .k 1001, .k 1002, .k 1003] True.intro (by kernel_rfl) (by kernel_rfl)
                · replace H := ite_f H hc
                  refine AW2.seq ?_
                  refine AW2.rg [] [0, 3, 7, 115] [] [.k 3, .k 1000, .k 1001, .k 1002, .k 1003] ⟨[(0, .p 1000 0), (3, .p 3 0), (7, .d (.int .u8 p1.op)), (115, .d (.bool (p1.op == (15 : Int))))], [(3, .st false (eD (eInstr p1)))] ++ H_Checker p0⟩ (And.intro True.intro True.intro) (by kernel_rfl) ?_
                  refine AW2.cond (b := (p1.op == (15 : Int))) rfl (fun hc => ?_) (fun hc => ?_)
                  · replace H := ite_t H hc
                    refine AW2.seq ?_
                    obtain ⟨x47, hx48, H⟩ := bind_some H
                    refine AW2.rg [.c [1000, 1001, 1002, 1003] [] [1000] (.d (.int .u8 x47.1)) (H_Checker x47.2)] [0] [] [.k 1000, .k 1001, .k 1002, .k 1003] ⟨[(0, .p 1000 0)], H_Checker x47.2⟩ (And.intro (And.intro (c_valid_checker_take p0 p0.t.result x47 hx48) True.intro) True.intro) (by kernel_rfl) ?_
                    obtain ⟨x49, hx50, H⟩ := bind_some H
                    refine AW2.rg [.c [1000, 1001, 1002, 1003] [] [1000] (.tup []) (H_Checker x49)] [] [] [.k 1000, .k 1001, .k 1002, .k 1003] ⟨[], H_Checker x49⟩ (And.intro (And.intro (c_valid_checker_leave x47.2 x49 hx50) True.intro) True.intro) (by kernel_rfl) ?_
                    have H := Option.some.inj H
                    subst H
                    exact retS_mkn3 [] [.k 1000, .k 1001, .k 1002, .k 1003] True.intro (by kernel_rfl) (by kernel_rfl)
                  · replace H := ite_f H hc
                    refine AW2.seq ?_
                    refine AW2.rg [] [0, 3, 7, 126] [] [.k 3, .k 1000, .k 1001, .k 1002, .k 1003] ⟨[(0, .p 1000 0), (3, .p 3 0), (7, .d (.int .u8 p1.op)), (126, .d (.bool (p1.op == (16 : Int))))], [(3, .st false (eD (eInstr p1)))] ++ H_Checker p0⟩ (And.intro True.intro True.intro) (by kernel_rfl) ?_
                    refine AW2.cond (b := (p1.op == (16 : Int))) rfl (fun hc => ?_) (fun hc => ?_)
                    · replace H := ite_t H hc
                      obtain ⟨x51, hx52, H⟩ := bind_some H
                      obtain ⟨x53, hx54, H⟩ := bind_some H
                      refine AW2.rg [.c [1000, 1001, 1002, 1003] [] [1000] (.agg (eD (eTyp x51.1))) (H_Checker x51.2), .c [1000, 1001, 1002, 1003] [] [1000] (.tup []) (H_Checker x53)] [] [] [.k 1000, .k 1001, .k 1002, .k 1003] ⟨[], H_Checker x53⟩ (And.intro (And.intro (c_valid_checker_function p0 p1.n x51 hx52) (And.intro (c_valid_checker_call x51.2 x51.1 x53 hx54) True.intro)) True.intro) (by kernel_rfl) ?_
                      have H := Option.some.inj H
                      subst H
                      exact retS_mkn3 [] [.k 1000, .k 1001, .k 1002, .k 1003] True.intro (by kernel_rfl) (by kernel_rfl)
                    · replace H := ite_f H hc
                      refine AW2.seq ?_
                      refine AW2.rg [] [0, 3, 134] [] [.k 3, .k 1000, .k 1001, .k 1002, .k 1003] ⟨[(0, .p 1000 0), (3, .p 3 0), (134, .d (.bool (p1.op == (17 : Int))))], [(3, .st false (eD (eInstr p1)))] ++ H_Checker p0⟩ (And.intro True.intro True.intro) (by kernel_rfl) ?_
                      refine AW2.cond (b := (p1.op == (17 : Int))) rfl (fun hc => ?_) (fun hc => ?_)
                      · replace H := ite_t H hc
                        refine AW2.seq ?_
                        obtain ⟨j55, H63, H⟩ := bind_some H
                        refine AW2.reg [] rfl (YW.to ⟨[(0, .p 1000 0), (3, .p 3 0)], [(3, .st false (eD (eInstr p1)))] ++ H_Checker j55⟩ ?qh64 ?h64)
                        case h64 =>
                          have H := H63
                          rcases bT p0.bad with hc1 | hc1
                          · replace H := ite_t H hc1
                            have H := Option.some.inj H
                            subst H
                            exact YW.fin [(141, true)] [] [0, 3] [] [.k 3, .k 1000, .k 1001, .k 1002, .k 1003] _ (And.intro (And.intro hc1 (And.intro hc1 (And.intro hc1 (And.intro hc1 (And.intro hc1 (And.intro hc1 (And.intro hc1 (And.intro hc1 True.intro)))))))) True.intro) (by kernel_rfl) rfl
                          · replace H := ite_f H hc1
                            have H := Option.some.inj H
                            subst H
                            exact YW.fin [(141, false)] [] [0, 3] [] [.k 3, .k 1000, .k 1001, .k 1002, .k 1003] _ (And.intro (And.intro hc1 (And.intro hc1 (And.intro hc1 (And.intro hc1 (And.intro hc1 (And.intro hc1 (And.intro hc1 (And.intro hc1 True.intro)))))))) True.intro) (by kernel_rfl) rfl
                        refine AW2.seq ?_
                        obtain ⟨x56, hx57, H⟩ := bind_some H
                        refine AW2.rg [.c [1000, 1001, 1002, 1003] [] [1000] (.d (.int .u8 x56.1)) (H_Checker x56.2)] [0, 3] [] [.k 3, .k 1000, .k 1001, .k 1002, .k 1003] ⟨[(0, .p 1000 0), (3, .p 3 0)], [(3, .st false (eD (eInstr p1)))] ++ H_Checker x56.2⟩ (And.intro (And.intro (c_valid_checker_take j55 127 x56 hx57) True.intro) True.intro) (by kernel_rfl) ?_
                        obtain ⟨x58, hx59, H⟩ := bind_some H
                        obtain ⟨x60, hx61, H⟩ := bind_some H
                        refine AW2.rg [.c [1000, 1001, 1002, 1003] [] [1000] (.agg (eD (eTyp x58.1))) (H_Checker x58.2), .c [1000, 1001, 1002, 1003] [] [1000] (.tup []) (H_Checker x60)] [] [] [.k 1000, .k 1001, .k 1002, .k 1003] ⟨[], H_Checker x60⟩ (And.intro (And.intro (c_valid_checker_typ x56.2 p1.n x58 hx59) (And.intro (c_valid_checker_call x58.2 x58.1 x60 hx61) True.intro)) True.intro) (by kernel_rfl) ?_
                        have H := Option.some.inj H
                        subst H
                        exact retS_mkn3 [] [.k 1000, .k 1001, .k 1002, .k 1003] True.intro (by kernel_rfl) (by kernel_rfl)
                      · replace H := ite_f H hc
                        refine AW2.rg [] [] [] [.k 1000, .k 1001, .k 1002, .k 1003] ⟨[], H_Checker (Checker.mk p0.m p0.t p0.locals p0.stack p0.frames p0.labels p0.most true)⟩ (And.intro True.intro True.intro) (by kernel_rfl) ?_
                        have H := Option.some.inj H
                        subst H
                        exact retS_mkn3 [] [.k 1000, .k 1001, .k 1002, .k 1003] True.intro (by kernel_rfl) (by kernel_rfl)
      · have H := H66
        refine AW2.seq ?_
        refine AW2.rg [] [0, 3, 7, 17] [] [.k 3, .k 1000, .k 1001, .k 1002, .k 1003] ⟨[(0, .p 1000 0), (3, .p 3 0), (7, .d (.int .u8 p1.op)), (17, .d (.bool (p1.op == (2 : Int))))], [(3, .st false (eD (eInstr p1)))] ++ H_Checker p0⟩ (And.intro True.intro True.intro) (by kernel_rfl) ?_
        refine AW2.cond (b := (p1.op == (2 : Int))) rfl (fun hc => ?_) (fun hc => ?_)
        · replace H := ite_t H hc
          refine AW2.skip ?_
          have H := Option.some.inj H
          subst H
          exact wk_mk [0, 3, 7, 17] [] [.k 3, .k 1000, .k 1001, .k 1002, .k 1003] True.intro (by kernel_rfl)
        · replace H := ite_f H hc
          refine AW2.rg [] [0, 3, 7, 17] [] [.k 3, .k 1000, .k 1001, .k 1002, .k 1003] ⟨[(0, .p 1000 0), (3, .p 3 0), (7, .d (.int .u8 p1.op)), (17, .d (.bool (p1.op == (3 : Int))))], [(3, .st false (eD (eInstr p1)))] ++ H_Checker p0⟩ (And.intro True.intro True.intro) (by kernel_rfl) ?_
          have H := Option.some.inj H
          subst H
          exact wk_mk [0, 3, 7, 17] [] [.k 3, .k 1000, .k 1001, .k 1002, .k 1003] True.intro (by kernel_rfl)
theorem s_valid_checker_list (k : Nat) (IH_valid_checker_inner : ∀ (p0 : Checker) (p1 : List Instr) (p2 : Int) (p3 : Int) (r : Checker), g_valid_checker_inner k p0 p1 p2 p3 = some r → CM E 70 [.p 1000 0, .d (sVI p1), .d (.int .u8 p2), .d (.int .u8 p3)] (H_Checker p0) [] [1000] (fun a b => a = (.tup [] : LV) ∧ b = H_Checker r)) (IH_valid_checker_control : ∀ (p0 : Checker) (p1 : Instr) (r : Checker), g_valid_checker_control k p0 p1 = some r → CM E 55 [.p 1000 0, .agg (eD (eInstr p1))] (H_Checker p0) [] [1000] (fun a b => a = (.tup [] : LV) ∧ b = H_Checker r)) (IH_valid_checker_list : ∀ (p0 : Checker) (p1 : List Instr) (r : Checker), g_valid_checker_list k p0 p1 = some r → CM E 39 [.p 1000 0, .d (sVI p1)] (H_Checker p0) [] [1000] (fun a b => a = (.tup [] : LV) ∧ b = H_Checker r)) : ∀ (p0 : Checker) (p1 : List Instr) (r : Checker), g_valid_checker_list (k + 1) p0 p1 = some r → CM E 39 [.p 1000 0, .d (sVI p1)] (H_Checker p0) [] [1000] (fun a b => a = (.tup [] : LV) ∧ b = H_Checker r) := by
  intro p0 p1 r H
  refine cs_of (A := F_valid_checker_list) fn_valid_checker_list fun fr => ?_
  unfold g_valid_checker_list at H
  refine AW2.seq ?_
  refine AW2.rg [] [0, 6, 7, 8] [] [.k 1000, .k 1001, .k 1002, .k 1003] ⟨[(0, .p 1000 0), (6, .d (sVI p1)), (7, .d (.int .i64 (p1.length : Int))), (8, .d (.int .i64 0))], H_Checker p0⟩ (And.intro True.intro True.intro) (by kernel_rfl) ?_
  refine AW2.block ?_
  refine AW2.lpR (σ := Checker × Int) (fun v => ⟨[(0, .p 1000 0), (6, .d (sVI p1)), (7, .d (.int .i64 (p1.length : Int))), (8, .d (.int .i64 v.2))], H_Checker v.1⟩) ?_ (v := (p0, 0)) H
  rintro rec5 ⟨a3, a4⟩ H
  dsimp only at H
  refine AW2.seq ?_
  refine AW2.rg [] [0, 6, 7, 8, 9] [] [.k 1000, .k 1001, .k 1002, .k 1003] ⟨[(0, .p 1000 0), (6, .d (sVI p1)), (7, .d (.int .i64 (p1.length : Int))), (8, .d (.int .i64 a4)), (9, .d (.bool (decide (a4 < (p1.length : Int)))))], H_Checker a3⟩ (And.intro True.intro True.intro) (by kernel_rfl) ?_
  refine AW2.seq ?_
  refine AW2.cond (b := (decide (a4 < (p1.length : Int)))) rfl (fun hc => ?_) (fun hc => ?_)
  · replace H := ite_t H hc
    refine AW2.skip ?_
    refine AW2.seq ?_
    refine AW2.block ?_
    refine AW2.seq ?_
    obtain ⟨h6, H⟩ := gd_some H
    refine AW2.rg [.e (eInstr (p1.getD a4.toNat default)), .k 5] [0, 5, 6, 7, 8] [] [.k 5, .k 1000, .k 1001, .k 1002, .k 1003] ⟨[(0, .p 1000 0), (5, .p 5 0), (6, .d (sVI p1)), (7, .d (.int .i64 (p1.length : Int))), (8, .d (.int .i64 a4))], [(5, .st false (eD (eInstr (p1.getD a4.toNat default))))] ++ H_Checker a3⟩ (And.intro (And.intro h6 (And.intro (flI_ix h6) True.intro)) True.intro) (by kernel_rfl) ?_
    refine AW2.seq ?_
    refine AW2.seq ?_
    refine AW2.rg [] [0, 5, 6, 7, 8, 15] [] [.k 5, .k 1000, .k 1001, .k 1002, .k 1003] ⟨[(0, .p 1000 0), (5, .p 5 0), (6, .d (sVI p1)), (7, .d (.int .i64 (p1.length : Int))), (8, .d (.int .i64 a4)), (15, .d (.bool a3.bad))], [(5, .st false (eD (eInstr (p1.getD a4.toNat default))))] ++ H_Checker a3⟩ (And.intro True.intro True.intro) (by kernel_rfl) ?_
    refine AW2.cond (b := a3.bad) rfl (fun hc => ?_) (fun hc => ?_)
    · replace H := ite_t H hc
      refine AW2.ret ?_
      have H := Option.some.inj H
      subst H
      exact retS_mk3 [] [.k 1000, .k 1001, .k 1002, .k 1003] True.intro (by kernel_rfl) (by kernel_rfl)
    · replace H := ite_f H hc
      refine AW2.skip ?_
      refine AW2.seq ?_
      refine AW2.rg [] [0, 5, 6, 7, 8, 18] [] [.k 5, .k 1000, .k 1001, .k 1002, .k 1003] ⟨[(0, .p 1000 0), (5, .p 5 0), (6, .d (sVI p1)), (7, .d (.int .i64 (p1.length : Int))), (8, .d (.int .i64 a4)), (18, .d (.bool (decide ((((p1.getD a4.toNat default)).op) < (26 : Int)))))], [(5, .st false (eD (eInstr (p1.getD a4.toNat default))))] ++ H_Checker a3⟩ (And.intro True.intro True.intro) (by kernel_rfl) ?_
      refine AW2.cond (b := (decide ((((p1.getD a4.toNat default)).op) < (26 : Int)))) rfl (fun hc => ?_) (fun hc => ?_)
      · replace H := ite_t H hc
        obtain ⟨x7, hx8, H⟩ := bind_some H
        refine AW2.rg [.c [1000, 1001, 1002, 1003] [] [1000] (.tup []) (H_Checker x7)] [0, 6, 7, 8] [] [.k 1000, .k 1001, .k 1002, .k 1003] ⟨[(0, .p 1000 0), (6, .d (sVI p1)), (7, .d (.int .i64 (p1.length : Int))), (8, .d (.int .i64 a4))], H_Checker x7⟩ (And.intro (And.intro (IH_valid_checker_control a3 (p1.getD a4.toNat default) x7 hx8) True.intro) True.intro) (by kernel_rfl) ?_
        refine AW2.rg [] [0, 6, 7, 8] [] [.k 1000, .k 1001, .k 1002, .k 1003] ⟨[(0, .p 1000 0), (6, .d (sVI p1)), (7, .d (.int .i64 (p1.length : Int))), (8, .d (.int .i64 (wI (a4 + 1))))], H_Checker x7⟩ (And.intro True.intro True.intro) (by kernel_rfl) ?_
        exact ⟨(x7, (wI (a4 + 1))), H, wk_mk [0, 6, 7, 8] [] [.k 1000, .k 1001, .k 1002, .k 1003] True.intro (by kernel_rfl)⟩
      · replace H := ite_f H hc
        obtain ⟨x9, hx10, H⟩ := bind_some H
        refine AW2.rg [.c [1000, 1001, 1002, 1003] [] [1000] (.tup []) (H_Checker x9)] [0, 6, 7, 8] [] [.k 1000, .k 1001, .k 1002, .k 1003] ⟨[(0, .p 1000 0), (6, .d (sVI p1)), (7, .d (.int .i64 (p1.length : Int))), (8, .d (.int .i64 a4))], H_Checker x9⟩ (And.intro (And.intro (c_valid_checker_simple a3 (p1.getD a4.toNat default) x9 hx10) True.intro) True.intro) (by kernel_rfl) ?_
        refine AW2.rg [] [0, 6, 7, 8] [] [.k 1000, .k 1001, .k 1002, .k 1003] ⟨[(0, .p 1000 0), (6, .d (sVI p1)), (7, .d (.int .i64 (p1.length : Int))), (8, .d (.int .i64 (wI (a4 + 1))))], H_Checker x9⟩ (And.intro True.intro True.intro) (by kernel_rfl) ?_
        exact ⟨(x9, (wI (a4 + 1))), H, wk_mk [0, 6, 7, 8] [] [.k 1000, .k 1001, .k 1002, .k 1003] True.intro (by kernel_rfl)⟩
  · replace H := ite_f H hc
    refine AW2.exit ?_
    have H := Option.some.inj H
    subst H
    exact retS_mkn3 [] [.k 1000, .k 1001, .k 1002, .k 1003] True.intro (by kernel_rfl) (by kernel_rfl)
theorem c_scc_valid_checker_inner : ∀ k, (∀ (p0 : Checker) (p1 : List Instr) (p2 : Int) (p3 : Int) (r : Checker), g_valid_checker_inner k p0 p1 p2 p3 = some r → CM E 70 [.p 1000 0, .d (sVI p1), .d (.int .u8 p2), .d (.int .u8 p3)] (H_Checker p0) [] [1000] (fun a b => a = (.tup [] : LV) ∧ b = H_Checker r)) ∧ (∀ (p0 : Checker) (p1 : Instr) (r : Checker), g_valid_checker_control k p0 p1 = some r → CM E 55 [.p 1000 0, .agg (eD (eInstr p1))] (H_Checker p0) [] [1000] (fun a b => a = (.tup [] : LV) ∧ b = H_Checker r)) ∧ (∀ (p0 : Checker) (p1 : List Instr) (r : Checker), g_valid_checker_list k p0 p1 = some r → CM E 39 [.p 1000 0, .d (sVI p1)] (H_Checker p0) [] [1000] (fun a b => a = (.tup [] : LV) ∧ b = H_Checker r)) := by
  intro k
  induction k with
  | zero => exact ⟨fun _ _ _ _ _ H => (by cases H), fun _ _ _ H => (by cases H), fun _ _ _ H => (by cases H)⟩
  | succ k ih =>
    obtain ⟨i0, i1, i2⟩ := ih
    exact ⟨s_valid_checker_inner k i0 i1 i2, s_valid_checker_control k i0 i1 i2, s_valid_checker_list k i0 i1 i2⟩
theorem c_valid_checker_list (k : Nat) : ∀ (p0 : Checker) (p1 : List Instr) (r : Checker), g_valid_checker_list k p0 p1 = some r → CM E 39 [.p 1000 0, .d (sVI p1)] (H_Checker p0) [] [1000] (fun a b => a = (.tup [] : LV) ∧ b = H_Checker r) := (c_scc_valid_checker_inner k).2.2

end Go.Proofs.YtablleokoifolaaGreatDoor

/- Plain functions and their contracts. Written by a program of this claim set (g2.py). -/
set_option linter.unusedVariables false
set_option maxRecDepth 100000
set_option maxHeartbeats 4000000
namespace Go.Proofs.YtablleokoifolaaGreatDoor
open Go

/- mandrel/valid.check -/
def g_valid_check (K : Nat) (p0 : Mdl) (p1 : Int) : Option (Option Checker × Option Int) := ((if (decide (p1 < (0 : Int))) = true then some true else (if (decide (p1 ≥ (p0.funcs.length : Int))) = true then some true else gd (0 ≤ p1 ∧ p1 < (p0.funcs.length : Int)) ((if (decide ((((p0.funcs.getD p1.toNat default)).type_) ≥ (IntKind.wrap .u32 (p0.types.length : Int)))) = true then some true else ((g_valid_kinds K p0).bind fun x2 => some (!x2))))))).bind (fun j4 => (if j4 = true then some (none, (some 1)) else gd (0 ≤ p1 ∧ p1 < (p0.funcs.length : Int)) (gd (0 ≤ (((p0.funcs.getD p1.toNat default)).type_) ∧ (((p0.funcs.getD p1.toNat default)).type_) < (p0.types.length : Int)) (gd (0 ≤ p1 ∧ p1 < (p0.funcs.length : Int)) (((g_slices_Concat_api_Kind_api_Kind K ([((p0.types.getD (((p0.funcs.getD p1.toNat default)).type_).toNat default)).params, ((p0.funcs.getD p1.toNat default)).locals] : List (List Int))).bind fun x8 => gd (0 ≤ p1 ∧ p1 < (p0.funcs.length : Int)) (((g_valid_checker_list K (Checker.mk p0 (p0.types.getD (((p0.funcs.getD p1.toNat default)).type_).toNat default) x8 ([] : List Int) ([(Frame.mk 0 false false)] : List Frame) ([((p0.types.getD (((p0.funcs.getD p1.toNat default)).type_).toNat default)).result] : List Int) 0 false) (((p0.funcs.getD p1.toNat default)).body)).bind fun x11 => ((g_valid_checker_take x11 (((p0.types.getD (((p0.funcs.getD p1.toNat default)).type_).toNat default)).result)).bind fun x13 => (if (x13.2.bad || (decide ((x13.2.stack.length : Int) > (0 : Int)))) = true then some (none, (some 7)) else some ((some x13.2), none)))))))))))

theorem c_valid_check (K : Nat) (p0 : Mdl) (p1 : Int) (r : Option Checker × Option Int) (H : g_valid_check K p0 p1 = some r) : CF E 24 [.agg (eMdl p0), .int .i64 p1] (.tup [.pt (r.1.map eChecker), .err 45 r.2]) := by
  refine cf_of (A := F_valid_check) fn_valid_check rfl fun fr => ?_
  unfold g_valid_check at H
  refine AW2.seq ?_
  refine AW2.rg [.k 2] [1, 2] [] [.k 2] ⟨[(1, .d (.int .i64 p1)), (2, .p 2 0)], [(2, .st false (eD (eMdl p0)))]⟩ (And.intro True.intro True.intro) (by kernel_rfl) ?_
  refine AW2.seq ?_
  refine AW2.seq ?_
  obtain ⟨j4, H17, H⟩ := bind_some H
  refine AW2.reg [] rfl (YW.to ⟨[(1, .d (.int .i64 p1)), (2, .p 2 0), (34, .d (.bool j4))], [(2, .st false (eD (eMdl p0)))]⟩ ?qh18 ?h18)
  case h18 =>
    have H := H17
    rcases bT (decide (p1 < (0 : Int))) with hc1 | hc1
    · replace H := ite_t H hc1
      have H := Option.some.inj H
      subst H
      exact YW.fin [(10, true), (17, true), (30, true)] [] [1, 2, 34] [] [.k 2] _ (And.intro (And.intro hc1 (And.intro hc1 (And.intro hc1 (And.intro hc1 (And.intro hc1 (And.intro hc1 (And.intro (Eq.refl true) (And.intro (Eq.refl true) (And.intro (Eq.refl true) (And.intro (Eq.refl true) (And.intro (Eq.refl true) (And.intro (Eq.refl true) (And.intro (Eq.refl true) (And.intro (Eq.refl true) (And.intro (Eq.refl true) (And.intro (Eq.refl true) (And.intro (Eq.refl true) (And.intro (Eq.refl true) (And.intro (Eq.refl true) (And.intro (Eq.refl true) (And.intro (Eq.refl true) (And.intro (Eq.refl true) True.intro)))))))))))))))))))))) True.intro) (by kernel_rfl) rfl
    · replace H := ite_f H hc1
      rcases bT (decide (p1 ≥ (p0.funcs.length : Int))) with hc2 | hc2
      · replace H := ite_t H hc2
        have H := Option.some.inj H
        subst H
        exact YW.fin [(10, false), (17, true), (30, true)] [] [1, 2, 34] [] [.k 2] _ (And.intro (And.intro hc1 (And.intro hc1 (And.intro hc1 (And.intro hc1 (And.intro hc1 (And.intro hc1 (And.intro hc2 (And.intro hc2 (And.intro hc2 (And.intro hc2 (And.intro hc2 (And.intro hc2 (And.intro hc2 (And.intro hc2 (And.intro hc2 (And.intro hc2 (And.intro hc2 (And.intro hc2 (And.intro (Eq.refl true) (And.intro (Eq.refl true) (And.intro (Eq.refl true) (And.intro (Eq.refl true) True.intro)))))))))))))))))))))) True.intro) (by kernel_rfl) rfl
      · replace H := ite_f H hc2
        obtain ⟨h1, H⟩ := gd_some H
        rcases bT (decide ((((p0.funcs.getD p1.toNat default)).type_) ≥ (IntKind.wrap .u32 (p0.types.length : Int)))) with hc3 | hc3
        · replace H := ite_t H hc3
          have H := Option.some.inj H
          subst H
          exact YW.fin [(10, false), (17, false), (30, true)] [] [1, 2, 34] [] [.k 2] _ (And.intro (And.intro hc1 (And.intro hc1 (And.intro hc1 (And.intro hc1 (And.intro hc1 (And.intro hc1 (And.intro hc2 (And.intro hc2 (And.intro hc2 (And.intro hc2 (And.intro h1 (And.intro hc2 (And.intro hc2 (And.intro hc2 (And.intro hc2 (And.intro hc2 (And.intro hc2 (And.intro hc2 (And.intro hc2 (And.intro hc3 (And.intro hc3 (And.intro hc3 (And.intro hc3 True.intro))))))))))))))))))))))) True.intro) (by kernel_rfl) rfl
        · replace H := ite_f H hc3
          obtain ⟨x2, hx3, H⟩ := bind_some H
          have H := Option.some.inj H
          subst H
          exact YW.fin [(10, false), (17, false), (30, false)] [.r (.bool x2)] [1, 2, 34] [] [.k 2] _ (And.intro (And.intro hc1 (And.intro hc1 (And.intro hc1 (And.intro hc1 (And.intro hc1 (And.intro hc1 (And.intro hc2 (And.intro hc2 (And.intro hc2 (And.intro hc2 (And.intro h1 (And.intro hc2 (And.intro hc2 (And.intro hc2 (And.intro hc2 (And.intro hc2 (And.intro hc2 (And.intro hc2 (And.intro hc2 (And.intro hc3 (And.intro hc3 (And.intro (c_valid_kinds K p0 x2 hx3) (And.intro hc3 (And.intro hc3 True.intro)))))))))))))))))))))))) True.intro) (by kernel_rfl) rfl
  refine AW2.cond (b := j4) rfl (fun hc => ?_) (fun hc => ?_)
  · replace H := ite_t H hc
    refine AW2.seq ?_
    refine AW2.rg [] [4, 5] [] [] ⟨[(4, .d .nilp), (5, .d (.err 45 (some 1)))], []⟩ (And.intro True.intro True.intro) (by kernel_rfl) ?_
    refine AW2.ret ?_
    have H := Option.some.inj H
    subst H
    exact retP_mk2 True.intro (by kernel_rfl)
  · replace H := ite_f H hc
    refine AW2.skip ?_
    refine AW2.seq ?_
    obtain ⟨h5, H⟩ := gd_some H
    obtain ⟨h6, H⟩ := gd_some H
    refine AW2.rg [.k 6] [1, 2, 6] [] [.k 2, .k 6] ⟨[(1, .d (.int .i64 p1)), (2, .p 2 0), (6, .p 6 0)], [(2, .st false (eD (eMdl p0))), (6, .st false (eD (eTyp (p0.types.getD (((p0.funcs.getD p1.toNat default)).type_).toNat default))))]⟩ (And.intro (And.intro h5 (And.intro h6 True.intro)) True.intro) (by kernel_rfl) ?_
    refine AW2.seq ?_
    obtain ⟨h7, H⟩ := gd_some H
    obtain ⟨x8, hx9, H⟩ := bind_some H
    refine AW2.rg [.sb ([((p0.types.getD (((p0.funcs.getD p1.toNat default)).type_).toNat default)).params, ((p0.funcs.getD p1.toNat default)).locals] : List (List Int)).length (fl (eL (eI .u8)) ([((p0.types.getD (((p0.funcs.getD p1.toNat default)).type_).toNat default)).params, ((p0.funcs.getD p1.toNat default)).locals] : List (List Int))), .r (sV (eI .u8) x8), .k 1000] [1, 2, 6, 7] [] [.k 2, .k 6, .k 1000] ⟨[(1, .d (.int .i64 p1)), (2, .p 2 0), (6, .p 6 0), (7, .p 1000 0)], [(2, .st false (eD (eMdl p0))), (6, .st false (eD (eTyp (p0.types.getD (((p0.funcs.getD p1.toNat default)).type_).toNat default)))), (1000, .st false [.d (sV eTyp p0.types), .d (sV eFnc p0.funcs), .d (sV eLim p0.tables), .d (sV eLim p0.memories), .d (sV eGlo p0.globals), .d (sV eXpo p0.exports), .d (sV eEle p0.elems), .d (sV eDat p0.datas), .d (sV (eI .u8) (((p0.types.getD (((p0.funcs.getD p1.toNat default)).type_).toNat default)).params)), .d (.int .u8 (((p0.types.getD (((p0.funcs.getD p1.toNat default)).type_).toNat default)).result)), .d (sV (eI .u8) x8), .d .nils, .d .nils, .d .nils, .d (.int .i64 0), .d (.bool false)])]⟩ (And.intro (And.intro h7 (And.intro (litF (eL (eI .u8)) ([((p0.types.getD (((p0.funcs.getD p1.toNat default)).type_).toNat default)).params, ((p0.funcs.getD p1.toNat default)).locals] : List (List Int))) (And.intro (c_slices_Concat_api_Kind_api_Kind K ([((p0.types.getD (((p0.funcs.getD p1.toNat default)).type_).toNat default)).params, ((p0.funcs.getD p1.toNat default)).locals] : List (List Int)) x8 hx9) True.intro))) True.intro) (by kernel_rfl) ?_
    refine AW2.seq ?_
    refine AW2.reg [(1000, 0, 12)] (by kernel_rfl) (YW.fin [] [.ks true 1002 ([(Frame.mk 0 false false)] : List Frame).length (fl eFrame ([(Frame.mk 0 false false)] : List Frame)), .ks true 1003 ([((p0.types.getD (((p0.funcs.getD p1.toNat default)).type_).toNat default)).result] : List Int).length (fl (eI .u8) ([((p0.types.getD (((p0.funcs.getD p1.toNat default)).type_).toNat default)).result] : List Int))] [1, 2, 6, 7] [] [.k 2, .k 6, .k 1000, .k 1002, .k 1003] ⟨[(1, .d (.int .i64 p1)), (2, .p 2 0), (6, .p 6 0), (7, .p 1000 0)], [(2, .st false (eD (eMdl p0))), (6, .st false (eD (eTyp (p0.types.getD (((p0.funcs.getD p1.toNat default)).type_).toNat default)))), (1000, .st false [.d (sV eTyp p0.types), .d (sV eFnc p0.funcs), .d (sV eLim p0.tables), .d (sV eLim p0.memories), .d (sV eGlo p0.globals), .d (sV eXpo p0.exports), .d (sV eEle p0.elems), .d (sV eDat p0.datas), .d (sV (eI .u8) (((p0.types.getD (((p0.funcs.getD p1.toNat default)).type_).toNat default)).params)), .d (.int .u8 (((p0.types.getD (((p0.funcs.getD p1.toNat default)).type_).toNat default)).result)), .d (sV (eI .u8) x8), .d .nils, .ls 1002 0 ([(Frame.mk 0 false false)] : List Frame).length, .ls 1003 0 ([((p0.types.getD (((p0.funcs.getD p1.toNat default)).type_).toNat default)).result] : List Int).length, .d (.int .i64 0), .d (.bool false)]), (1002, .sl false 3 ([(Frame.mk 0 false false)] : List Frame).length (fl eFrame ([(Frame.mk 0 false false)] : List Frame))), (1003, .sl false 1 ([((p0.types.getD (((p0.funcs.getD p1.toNat default)).type_).toNat default)).result] : List Int).length (fl (eI .u8) ([((p0.types.getD (((p0.funcs.getD p1.toNat default)).type_).toNat default)).result] : List Int)))]⟩ (And.intro (And.intro (litK eFrame ([(Frame.mk 0 false false)] : List Frame) (fun _ => rfl)) (And.intro (litK (eI .u8) ([((p0.types.getD (((p0.funcs.getD p1.toNat default)).type_).toNat default)).result] : List Int) (fun _ => rfl)) True.intro)) True.intro) (by kernel_rfl) ?_)
    refine AW2.seq ?_
    refine AW2.cv [.c 1000 11 1001 1 (fl (eI .u8) ([] : List Int))] [1, 2, 6, 7] [] [.k 2, .k 6, .k 1000, .k 1001, .k 1002, .k 1003] ⟨[(1, .d (.int .i64 p1)), (2, .p 2 0), (6, .p 6 0), (7, .p 1000 0)], [(2, .st false (eD (eMdl p0))), (6, .st false (eD (eTyp (p0.types.getD (((p0.funcs.getD p1.toNat default)).type_).toNat default))))] ++ H_Checker (Checker.mk p0 (p0.types.getD (((p0.funcs.getD p1.toNat default)).type_).toNat default) x8 ([] : List Int) ([(Frame.mk 0 false false)] : List Frame) ([((p0.types.getD (((p0.funcs.getD p1.toNat default)).type_).toNat default)).result] : List Int) 0 false)⟩ True.intro (by kernel_rfl) ?_
    obtain ⟨h10, H⟩ := gd_some H
    obtain ⟨x11, hx12, H⟩ := bind_some H
    refine AW2.rg [.c [1000, 1001, 1002, 1003] [] [1000] (.tup []) (H_Checker x11)] [6, 7] [] [.k 6, .k 1000, .k 1001, .k 1002, .k 1003] ⟨[(6, .p 6 0), (7, .p 1000 0)], [(6, .st false (eD (eTyp (p0.types.getD (((p0.funcs.getD p1.toNat default)).type_).toNat default))))] ++ H_Checker x11⟩ (And.intro (And.intro h10 (And.intro (c_valid_checker_list K (Checker.mk p0 (p0.types.getD (((p0.funcs.getD p1.toNat default)).type_).toNat default) x8 ([] : List Int) ([(Frame.mk 0 false false)] : List Frame) ([((p0.types.getD (((p0.funcs.getD p1.toNat default)).type_).toNat default)).result] : List Int) 0 false) (((p0.funcs.getD p1.toNat default)).body) x11 hx12) True.intro)) True.intro) (by kernel_rfl) ?_
    refine AW2.seq ?_
    obtain ⟨x13, hx14, H⟩ := bind_some H
    refine AW2.rg [.c [1000, 1001, 1002, 1003] [] [1000] (.d (.int .u8 x13.1)) (H_Checker x13.2)] [7] [] [.k 1000, .k 1001, .k 1002, .k 1003] ⟨[(7, .p 1000 0)], H_Checker x13.2⟩ (And.intro (And.intro (c_valid_checker_take x11 (((p0.types.getD (((p0.funcs.getD p1.toNat default)).type_).toNat default)).result) x13 hx14) True.intro) True.intro) (by kernel_rfl) ?_
    refine AW2.seq ?_
    refine AW2.seq ?_
    refine AW2.reg [] rfl (YW.to ⟨[(7, .p 1000 0), (94, .d (.bool (x13.2.bad || (decide ((x13.2.stack.length : Int) > (0 : Int))))))], H_Checker x13.2⟩ ?qh15 ?h15)
    case h15 =>
      rcases bT x13.2.bad with hc1 | hc1
      · exact YW.fin [(87, true)] [] [7, 94] [(94, .d (.bool (x13.2.bad || (decide ((x13.2.stack.length : Int) > (0 : Int))))))] [.k 1000, .k 1001, .k 1002, .k 1003] _ (And.intro (And.intro hc1 (And.intro hc1 (And.intro hc1 (And.intro hc1 (And.intro hc1 (And.intro hc1 (And.intro hc1 True.intro))))))) (And.intro (ovB (orT (b := (decide ((x13.2.stack.length : Int) > (0 : Int)))) hc1)) True.intro)) (by kernel_rfl) rfl
      · exact YW.fin [(87, false)] [] [7, 94] [(94, .d (.bool (x13.2.bad || (decide ((x13.2.stack.length : Int) > (0 : Int))))))] [.k 1000, .k 1001, .k 1002, .k 1003] _ (And.intro (And.intro hc1 (And.intro hc1 (And.intro hc1 (And.intro hc1 (And.intro hc1 (And.intro hc1 (And.intro hc1 True.intro))))))) (And.intro (ovB (Eq.trans (orF (b := (decide ((x13.2.stack.length : Int) > (0 : Int)))) hc1) (Eq.refl (decide ((x13.2.stack.length : Int) > (0 : Int)))))) True.intro)) (by kernel_rfl) rfl
    refine AW2.cond (b := (x13.2.bad || (decide ((x13.2.stack.length : Int) > (0 : Int))))) rfl (fun hc => ?_) (fun hc => ?_)
    · replace H := ite_t H hc
      refine AW2.seq ?_
      refine AW2.rg [] [4, 5] [] [] ⟨[(4, .d .nilp), (5, .d (.err 45 (some 7)))], []⟩ (And.intro True.intro True.intro) (by kernel_rfl) ?_
      refine AW2.ret ?_
      have H := Option.some.inj H
      subst H
      exact retP_mk2 True.intro (by kernel_rfl)
    · replace H := ite_f H hc
      refine AW2.skip ?_
      refine AW2.seq ?_
      refine AW2.rg [] [4, 5] [] [.k 1000, .k 1001, .k 1002, .k 1003] ⟨[(4, .p 1000 0), (5, .d .nili)], H_Checker x13.2⟩ (And.intro True.intro True.intro) (by kernel_rfl) ?_
      refine AW2.ret ?_
      have H := Option.some.inj H
      subst H
      exact retP_mk2 (And.intro (Nat.le_refl x13.2.stack.length) (And.intro (dfl (eI .u8) (dep_eI .u8) x13.2.stack) (And.intro (Nat.le_refl x13.2.frames.length) (And.intro (dfl eFrame dep_eFrame x13.2.frames) (And.intro (Nat.le_refl x13.2.labels.length) (And.intro (dfl (eI .u8) (dep_eI .u8) x13.2.labels) True.intro)))))) (by kernel_rfl)

/- mandrel/valid.Body -/
def g_valid_Body (K : Nat) (p0 : Mdl) (p1 : Int) : Option (Option Int) := ((g_valid_check K p0 p1).bind fun x1 => some x1.2)

theorem c_valid_Body (K : Nat) (p0 : Mdl) (p1 : Int) (r : Option Int) (H : g_valid_Body K p0 p1 = some r) : CF E 6 [.agg (eMdl p0), .int .i64 p1] (.err 45 r) := by
  refine cf_of (A := F_valid_Body) fn_valid_Body rfl fun fr => ?_
  unfold g_valid_Body at H
  refine AW2.seq ?_
  refine AW2.rg [.k 2] [1, 2] [] [.k 2] ⟨[(1, .d (.int .i64 p1)), (2, .p 2 0)], [(2, .st false (eD (eMdl p0)))]⟩ (And.intro True.intro True.intro) (by kernel_rfl) ?_
  refine AW2.seq ?_
  obtain ⟨x1, hx2, H⟩ := bind_some H
  refine AW2.rg [.r (.tup [.pt (x1.1.map eChecker), .err 45 x1.2])] [6] [] [] ⟨[(6, .d (.err 45 x1.2))], []⟩ (And.intro (And.intro (c_valid_check K p0 p1 x1 hx2) True.intro) True.intro) (by kernel_rfl) ?_
  refine AW2.seq ?_
  refine AW2.rg [] [4] [] [] ⟨[(4, .d (.err 45 x1.2))], []⟩ (And.intro True.intro True.intro) (by kernel_rfl) ?_
  refine AW2.ret ?_
  have H := Option.some.inj H
  subst H
  exact retP_mk2 True.intro (by kernel_rfl)

end Go.Proofs.YtablleokoifolaaGreatDoor












/- Plain functions and their contracts. Written by a program of this claim set (g2.py). -/
set_option linter.unusedVariables false
set_option maxRecDepth 100000
set_option maxHeartbeats 4000000
namespace Go.Proofs.YtablleokoifolaaGreatDoor
open Go

/- mandrel/mandrellaw08.scene -/
def g_law08_scene (p0 : List Int) (p1 : Int) (p2 : List Instr) : Option (Mdl) := some (Mdl.mk ([(Typ.mk p0 p1), (Typ.mk ([127] : List Int) 126), (Typ.mk ([] : List Int) 0)] : List Typ) ([(Fnc.mk 0 ([127, 126] : List Int) p2), (Fnc.mk 1 ([] : List Int) ([(Instr.mk 66 0 0 0 0 ([] : List Instr) ([] : List Instr) ([] : List Int))] : List Instr)), (Fnc.mk 2 ([] : List Int) ([] : List Instr))] : List Fnc) ([(Lim.mk 4 false 0)] : List Lim) ([(Lim.mk 1 false 0)] : List Lim) ([(Glo.mk 127 true (Instr.mk 65 0 0 0 0 ([] : List Instr) ([] : List Instr) ([] : List Int))), (Glo.mk 126 false (Instr.mk 66 0 0 0 0 ([] : List Instr) ([] : List Instr) ([] : List Int)))] : List Glo) ([] : List Xpo) ([] : List Ele) ([] : List Dat))

theorem c_law08_scene (p0 : List Int) (p1 : Int) (p2 : List Instr) (r : Mdl) (H : g_law08_scene p0 p1 p2 = some r) : CF E 11 [sV (eI .u8) p0, .int .u8 p1, sVI p2] (.agg (eMdl r)) := by
  refine cf_of (A := F_law08_scene) fn_law08_scene rfl fun fr => ?_
  unfold g_law08_scene at H
  refine AW2.seq ?_
  refine AW2.rg [.k 6] [0, 1, 2, 6] [] [.k 6] ⟨[(0, .d (sV (eI .u8) p0)), (1, .d (.int .u8 p1)), (2, .d (sVI p2)), (6, .p 6 0)], [(6, .st false [.d .nils, .d .nils, .d .nils, .d .nils, .d .nils, .d .nils, .d .nils, .d .nils])]⟩ (And.intro True.intro True.intro) (by kernel_rfl) ?_
  refine AW2.seq ?_
  refine AW2.rg [.k 7] [0, 1, 2, 6, 7] [] [.k 6, .k 7] ⟨[(0, .d (sV (eI .u8) p0)), (1, .d (.int .u8 p1)), (2, .d (sVI p2)), (6, .p 6 0), (7, .p 7 0)], [(6, .st false [.d .nils, .d .nils, .d .nils, .d .nils, .d .nils, .d .nils, .d .nils, .d .nils]), (7, .st false [.d (.int .u8 65), .d (.int .i64 0), .d (.int .u32 0), .d (.int .u32 0), .d (.int .u8 0), .d .nils, .d .nils, .d .nils])]⟩ (And.intro True.intro True.intro) (by kernel_rfl) ?_
  refine AW2.seq ?_
  refine AW2.rg [.k 8] [0, 1, 2, 6, 7, 8] [] [.k 6, .k 7, .k 8] ⟨[(0, .d (sV (eI .u8) p0)), (1, .d (.int .u8 p1)), (2, .d (sVI p2)), (6, .p 6 0), (7, .p 7 0), (8, .p 8 0)], [(6, .st false [.d .nils, .d .nils, .d .nils, .d .nils, .d .nils, .d .nils, .d .nils, .d .nils]), (7, .st false [.d (.int .u8 65), .d (.int .i64 0), .d (.int .u32 0), .d (.int .u32 0), .d (.int .u8 0), .d .nils, .d .nils, .d .nils]), (8, .st false [.d (.int .u8 66), .d (.int .i64 0), .d (.int .u32 0), .d (.int .u32 0), .d (.int .u8 0), .d .nils, .d .nils, .d .nils])]⟩ (And.intro True.intro True.intro) (by kernel_rfl) ?_
  refine AW2.seq ?_
  refine AW2.rg [.sb ([127] : List Int).length (fl (eI .u8) ([127] : List Int)), .sb ([(Typ.mk p0 p1), (Typ.mk ([127] : List Int) 126), (Typ.mk ([] : List Int) 0)] : List Typ).length (fl eTyp ([(Typ.mk p0 p1), (Typ.mk ([127] : List Int) 126), (Typ.mk ([] : List Int) 0)] : List Typ)), .sb ([127, 126] : List Int).length (fl (eI .u8) ([127, 126] : List Int)), .sb ([(Instr.mk 66 0 0 0 0 ([] : List Instr) ([] : List Instr) ([] : List Int))] : List Instr).length (flI ([(Instr.mk 66 0 0 0 0 ([] : List Instr) ([] : List Instr) ([] : List Int))] : List Instr)), .sb ([(Fnc.mk 0 ([127, 126] : List Int) p2), (Fnc.mk 1 ([] : List Int) ([(Instr.mk 66 0 0 0 0 ([] : List Instr) ([] : List Instr) ([] : List Int))] : List Instr)), (Fnc.mk 2 ([] : List Int) ([] : List Instr))] : List Fnc).length (fl eFnc ([(Fnc.mk 0 ([127, 126] : List Int) p2), (Fnc.mk 1 ([] : List Int) ([(Instr.mk 66 0 0 0 0 ([] : List Instr) ([] : List Instr) ([] : List Int))] : List Instr)), (Fnc.mk 2 ([] : List Int) ([] : List Instr))] : List Fnc)), .sb ([(Lim.mk 4 false 0)] : List Lim).length (fl eLim ([(Lim.mk 4 false 0)] : List Lim)), .sb ([(Lim.mk 1 false 0)] : List Lim).length (fl eLim ([(Lim.mk 1 false 0)] : List Lim)), .sb ([(Glo.mk 127 true (Instr.mk 65 0 0 0 0 ([] : List Instr) ([] : List Instr) ([] : List Int))), (Glo.mk 126 false (Instr.mk 66 0 0 0 0 ([] : List Instr) ([] : List Instr) ([] : List Int)))] : List Glo).length (fl eGlo ([(Glo.mk 127 true (Instr.mk 65 0 0 0 0 ([] : List Instr) ([] : List Instr) ([] : List Int))), (Glo.mk 126 false (Instr.mk 66 0 0 0 0 ([] : List Instr) ([] : List Instr) ([] : List Int)))] : List Glo))] [6] [] [.k 6] ⟨[(6, .p 6 0)], [(6, .st false [.d (sV eTyp ([(Typ.mk p0 p1), (Typ.mk ([127] : List Int) 126), (Typ.mk ([] : List Int) 0)] : List Typ)), .d (sV eFnc ([(Fnc.mk 0 ([127, 126] : List Int) p2), (Fnc.mk 1 ([] : List Int) ([(Instr.mk 66 0 0 0 0 ([] : List Instr) ([] : List Instr) ([] : List Int))] : List Instr)), (Fnc.mk 2 ([] : List Int) ([] : List Instr))] : List Fnc)), .d (sV eLim ([(Lim.mk 4 false 0)] : List Lim)), .d (sV eLim ([(Lim.mk 1 false 0)] : List Lim)), .d (sV eGlo ([(Glo.mk 127 true (Instr.mk 65 0 0 0 0 ([] : List Instr) ([] : List Instr) ([] : List Int))), (Glo.mk 126 false (Instr.mk 66 0 0 0 0 ([] : List Instr) ([] : List Instr) ([] : List Int)))] : List Glo)), .d .nils, .d .nils, .d .nils])]⟩ (And.intro (And.intro (litF (eI .u8) ([127] : List Int)) (And.intro (litF eTyp ([(Typ.mk p0 p1), (Typ.mk ([127] : List Int) 126), (Typ.mk ([] : List Int) 0)] : List Typ)) (And.intro (litF (eI .u8) ([127, 126] : List Int)) (And.intro (litI ([(Instr.mk 66 0 0 0 0 ([] : List Instr) ([] : List Instr) ([] : List Int))] : List Instr)) (And.intro (litF eFnc ([(Fnc.mk 0 ([127, 126] : List Int) p2), (Fnc.mk 1 ([] : List Int) ([(Instr.mk 66 0 0 0 0 ([] : List Instr) ([] : List Instr) ([] : List Int))] : List Instr)), (Fnc.mk 2 ([] : List Int) ([] : List Instr))] : List Fnc)) (And.intro (litF eLim ([(Lim.mk 4 false 0)] : List Lim)) (And.intro (litF eLim ([(Lim.mk 1 false 0)] : List Lim)) (And.intro (litF eGlo ([(Glo.mk 127 true (Instr.mk 65 0 0 0 0 ([] : List Instr) ([] : List Instr) ([] : List Int))), (Glo.mk 126 false (Instr.mk 66 0 0 0 0 ([] : List Instr) ([] : List Instr) ([] : List Int)))] : List Glo)) True.intro)))))))) True.intro) (by kernel_rfl) ?_
  refine AW2.ret ?_
  have H := Option.some.inj H
  subst H
  exact retP_mk2 True.intro (by kernel_rfl)

/- mandrel/mandrellaw08.ValidDead -/
def g_law08_ValidDead_l0 : Nat → (List Bool) → (List Instr) → Int → Int → Option (Int × (List Instr))
  | 0, _, _, _, _ => none
  | k+1, p0, a23, a24, a25 => (if ((decide (a25 < (p0.length : Int))) && (decide (a25 < (60 : Int)))) = true then (gd (0 ≤ a25 ∧ a25 < (p0.length : Int)) ((if (p0.getD a25.toNat default) = true then gd ((a23.length + 1) * 104 ≤ 140737488355328) (some ((wI (a24 + 1)), (a23 ++ ([(Instr.mk 65 1 0 0 0 ([] : List Instr) ([] : List Instr) ([] : List Int))] : List Instr)))) else gd ((a23.length + 1) * 104 ≤ 140737488355328) (some ((mxI 0 (wI (a24 - 1))), (a23 ++ ([(Instr.mk 26 0 0 0 0 ([] : List Instr) ([] : List Instr) ([] : List Int))] : List Instr))))))).bind (fun | (j26, j27) => g_law08_ValidDead_l0 k p0 j27 j26 (wI (a25 + 1))) else some (a24, a23))

def g_law08_ValidDead (K : Nat) (p0 : List Bool) (p1 : Bool) : Option (Bool) := ((if p1 = true then some 126 else some 127)).bind (fun j1 => (g_law08_ValidDead_l0 K p0 ([(Instr.mk 0 0 0 0 0 ([] : List Instr) ([] : List Instr) ([] : List Int))] : List Instr) 0 0).bind (fun | (j2, j3) => ((g_law08_scene ([] : List Int) j1 j3).bind fun x4 => ((g_law08_giveModule K x4).bind fun x6 => ((g_valid_Body K x6 0).bind fun x8 => ((if (j2 == (0 : Int)) = true then (if (x8.isNone == true) = true then ((g_law08_sure).bind fun x10 => some x10) else some false) else (if (j2 == (1 : Int)) = true then (if (x8.isNone == (!p1)) = true then ((g_law08_sure).bind fun x12 => some x12) else some false) else (if (x8.isNone == false) = true then ((g_law08_sure).bind fun x14 => some x14) else some false)))).bind (fun j16 => some j16))))))

end Go.Proofs.YtablleokoifolaaGreatDoor

/- Plain functions and their contracts. Written by a program of this claim set (g2.py). -/
set_option linter.unusedVariables false
set_option maxRecDepth 100000
set_option maxHeartbeats 4000000
namespace Go.Proofs.YtablleokoifolaaGreatDoor
open Go

/- mandrel/mandrellaw08.ValidLabels -/
def g_law08_ValidLabels_l0 : Nat → Int → Int → (List Instr) → Int → Option ((List Instr))
  | 0, _, _, _, _ => none
  | k+1, p0, p2, a28, a29 => (if (decide (a29 < (wI ((IntKind.wrap .u64 p0).tmod 30)))) = true then gd ((2 : Int) ≠ 0) (g_law08_ValidLabels_l0 k p0 p2 ([(Instr.mk (IntKind.wrap .u8 (wI (2 + ((wI (a29 + (IntKind.wrap .i64 (((BitVec.ofInt (IntKind.bits .i64) p2) &&& (BitVec.ofInt (IntKind.bits .i64) 1)).toNat : Int)))).tmod 2)))) 0 0 0 0 a28 ([] : List Instr) ([] : List Int))] : List Instr) (wI (a29 + 1))) else some a28)

def g_law08_ValidLabels_l1 : Nat → Int → Int → (List Instr) → Int → Option ((List Instr))
  | 0, _, _, _, _ => none
  | k+1, p0, p2, a60, a61 => (if (decide (a61 < (wI ((IntKind.wrap .u64 p0).tmod 30)))) = true then gd ((2 : Int) ≠ 0) (g_law08_ValidLabels_l1 k p0 p2 ([(Instr.mk (IntKind.wrap .u8 (wI (2 + ((wI (a61 + (IntKind.wrap .i64 (((BitVec.ofInt (IntKind.bits .i64) p2) &&& (BitVec.ofInt (IntKind.bits .i64) 1)).toNat : Int)))).tmod 2)))) 0 0 0 0 a60 ([] : List Instr) ([] : List Int))] : List Instr) (wI (a61 + 1))) else some a60)

def g_law08_ValidLabels_l2 : Nat → Int → Int → (List Instr) → Int → Option ((List Instr))
  | 0, _, _, _, _ => none
  | k+1, p0, p2, a91, a92 => (if (decide (a92 < (wI ((IntKind.wrap .u64 p0).tmod 30)))) = true then gd ((2 : Int) ≠ 0) (g_law08_ValidLabels_l2 k p0 p2 ([(Instr.mk (IntKind.wrap .u8 (wI (2 + ((wI (a92 + (IntKind.wrap .i64 (((BitVec.ofInt (IntKind.bits .i64) p2) &&& (BitVec.ofInt (IntKind.bits .i64) 1)).toNat : Int)))).tmod 2)))) 0 0 0 0 a91 ([] : List Instr) ([] : List Int))] : List Instr) (wI (a92 + 1))) else some a91)

def g_law08_ValidLabels (K : Nat) (p0 : Int) (p1 : Int) (p2 : Int) : Option (Bool) := gd ((30 : Int) ≠ 0) (gd ((3 : Int) ≠ 0) ((if ((wI ((IntKind.wrap .u64 p2).tmod 3)) == (0 : Int)) = true then (g_law08_ValidLabels_l0 K p0 p2 ([(Instr.mk 65 0 0 0 0 ([] : List Instr) ([] : List Instr) ([] : List Int)), (Instr.mk 13 p1 0 0 0 ([] : List Instr) ([] : List Instr) ([] : List Int))] : List Instr) 0).bind (fun j3 => ((g_law08_scene ([] : List Int) 0 j3).bind fun x4 => ((g_law08_giveModule K x4).bind fun x6 => ((g_valid_Body K x6 0).bind fun x8 => ((if (decide (p1 ≥ (0 : Int))) = true then (if (x8.isNone == (decide (p1 ≤ (wI ((IntKind.wrap .u64 p0).tmod 30))))) = true then (if x8.isNone = true then ((g_law08_sure).bind fun x10 => some x10) else ((g_law08_num x8).bind fun x12 => (if (x12 == (7 : Int)) = true then ((g_law08_sure).bind fun x14 => some x14) else some false))) else some false) else (if (x8.isNone == false) = true then (if x8.isNone = true then ((g_law08_sure).bind fun x16 => some x16) else ((g_law08_num x8).bind fun x18 => (if (x18 == (7 : Int)) = true then ((g_law08_sure).bind fun x20 => some x20) else some false))) else some false))).bind (fun j22 => some j22))))) else (if ((wI ((IntKind.wrap .u64 p2).tmod 3)) == (1 : Int)) = true then (if ((decide (p1 < (0 : Int))) || (decide (p1 ≥ (4294967296 : Int)))) = true then ((g_law08_sure).bind fun x33 => some x33) else (g_law08_ValidLabels_l1 K p0 p2 ([(Instr.mk 65 0 0 0 0 ([] : List Instr) ([] : List Instr) ([] : List Int)), (Instr.mk 14 0 0 0 0 ([] : List Instr) ([] : List Instr) ([0, (IntKind.wrap .u32 p1), 0] : List Int))] : List Instr) 0).bind (fun j35 => ((g_law08_scene ([] : List Int) 0 j35).bind fun x36 => ((g_law08_giveModule K x36).bind fun x38 => ((g_valid_Body K x38 0).bind fun x40 => ((if (decide (p1 ≥ (0 : Int))) = true then (if (x40.isNone == (decide (p1 ≤ (wI ((IntKind.wrap .u64 p0).tmod 30))))) = true then (if x40.isNone = true then ((g_law08_sure).bind fun x42 => some x42) else ((g_law08_num x40).bind fun x44 => (if (x44 == (7 : Int)) = true then ((g_law08_sure).bind fun x46 => some x46) else some false))) else some false) else (if (x40.isNone == false) = true then (if x40.isNone = true then ((g_law08_sure).bind fun x48 => some x48) else ((g_law08_num x40).bind fun x50 => (if (x50 == (7 : Int)) = true then ((g_law08_sure).bind fun x52 => some x52) else some false))) else some false))).bind (fun j54 => some j54)))))) else (g_law08_ValidLabels_l2 K p0 p2 ([(Instr.mk 12 p1 0 0 0 ([] : List Instr) ([] : List Instr) ([] : List Int))] : List Instr) 0).bind (fun j66 => ((g_law08_scene ([] : List Int) 0 j66).bind fun x67 => ((g_law08_giveModule K x67).bind fun x69 => ((g_valid_Body K x69 0).bind fun x71 => ((if (decide (p1 ≥ (0 : Int))) = true then (if (x71.isNone == (decide (p1 ≤ (wI ((IntKind.wrap .u64 p0).tmod 30))))) = true then (if x71.isNone = true then ((g_law08_sure).bind fun x73 => some x73) else ((g_law08_num x71).bind fun x75 => (if (x75 == (7 : Int)) = true then ((g_law08_sure).bind fun x77 => some x77) else some false))) else some false) else (if (x71.isNone == false) = true then (if x71.isNone = true then ((g_law08_sure).bind fun x79 => some x79) else ((g_law08_num x71).bind fun x81 => (if (x81 == (7 : Int)) = true then ((g_law08_sure).bind fun x83 => some x83) else some false))) else some false))).bind (fun j85 => some j85)))))))))

theorem c_law08_ValidLabels (K : Nat) (p0 : Int) (p1 : Int) (p2 : Int) (r : Bool) (H : g_law08_ValidLabels K p0 p1 p2 = some r) : CF E 15 [.int .i64 p0, .int .i64 p1, .int .i64 p2] (.bool r) := by
  refine cf_of (A := F_law08_ValidLabels) fn_law08_ValidLabels rfl fun fr => ?_
  unfold g_law08_ValidLabels at H
  refine AW2.seq ?_
  refine AW2.rg [] [0, 1, 2] [] [] ⟨[(0, .d (.int .i64 p0)), (1, .d (.int .i64 p1)), (2, .d (.int .i64 p2))], []⟩ (And.intro True.intro True.intro) (by kernel_rfl) ?_
  refine AW2.seq ?_
  obtain ⟨h1, H⟩ := gd_some H
  refine AW2.rg [] [1, 2, 7] [] [] ⟨[(1, .d (.int .i64 p1)), (2, .d (.int .i64 p2)), (7, .d (.int .i64 (wI ((IntKind.wrap .u64 p0).tmod 30))))], []⟩ (And.intro (And.intro h1 True.intro) True.intro) (by kernel_rfl) ?_
  refine AW2.seq ?_
  refine AW2.rg [.sb ([(Instr.mk 12 p1 0 0 0 ([] : List Instr) ([] : List Instr) ([] : List Int))] : List Instr).length (flI ([(Instr.mk 12 p1 0 0 0 ([] : List Instr) ([] : List Instr) ([] : List Int))] : List Instr))] [1, 2, 7, 8] [] [] ⟨[(1, .d (.int .i64 p1)), (2, .d (.int .i64 p2)), (7, .d (.int .i64 (wI ((IntKind.wrap .u64 p0).tmod 30)))), (8, .d (sVI ([(Instr.mk 12 p1 0 0 0 ([] : List Instr) ([] : List Instr) ([] : List Int))] : List Instr)))], []⟩ (And.intro (And.intro (litI ([(Instr.mk 12 p1 0 0 0 ([] : List Instr) ([] : List Instr) ([] : List Int))] : List Instr)) True.intro) True.intro) (by kernel_rfl) ?_
  refine AW2.seq ?_
  refine AW2.seq ?_
  obtain ⟨h2, H⟩ := gd_some H
  refine AW2.rg [] [1, 2, 7, 8, 21] [] [] ⟨[(1, .d (.int .i64 p1)), (2, .d (.int .i64 p2)), (7, .d (.int .i64 (wI ((IntKind.wrap .u64 p0).tmod 30)))), (8, .d (sVI ([(Instr.mk 12 p1 0 0 0 ([] : List Instr) ([] : List Instr) ([] : List Int))] : List Instr))), (21, .d (.int .i64 (wI ((IntKind.wrap .u64 p2).tmod 3))))], []⟩ (And.intro (And.intro h2 True.intro) True.intro) (by kernel_rfl) ?_
  refine AW2.block ?_
  refine AW2.seq ?_
  refine AW2.rg [] [1, 2, 7, 8, 21, 22] [] [] ⟨[(1, .d (.int .i64 p1)), (2, .d (.int .i64 p2)), (7, .d (.int .i64 (wI ((IntKind.wrap .u64 p0).tmod 30)))), (8, .d (sVI ([(Instr.mk 12 p1 0 0 0 ([] : List Instr) ([] : List Instr) ([] : List Int))] : List Instr))), (21, .d (.int .i64 (wI ((IntKind.wrap .u64 p2).tmod 3)))), (22, .d (.bool ((wI ((IntKind.wrap .u64 p2).tmod 3)) == (0 : Int))))], []⟩ (And.intro True.intro True.intro) (by kernel_rfl) ?_
  refine AW2.cond (b := ((wI ((IntKind.wrap .u64 p2).tmod 3)) == (0 : Int))) rfl (fun hc => ?_) (fun hc => ?_)
  · replace H := ite_t H hc
    refine AW2.rg [.sb ([(Instr.mk 65 0 0 0 0 ([] : List Instr) ([] : List Instr) ([] : List Int)), (Instr.mk 13 p1 0 0 0 ([] : List Instr) ([] : List Instr) ([] : List Int))] : List Instr).length (flI ([(Instr.mk 65 0 0 0 0 ([] : List Instr) ([] : List Instr) ([] : List Int)), (Instr.mk 13 p1 0 0 0 ([] : List Instr) ([] : List Instr) ([] : List Int))] : List Instr))] [1, 2, 7, 8] [] [] ⟨[(1, .d (.int .i64 p1)), (2, .d (.int .i64 p2)), (7, .d (.int .i64 (wI ((IntKind.wrap .u64 p0).tmod 30)))), (8, .d (sVI ([(Instr.mk 65 0 0 0 0 ([] : List Instr) ([] : List Instr) ([] : List Int)), (Instr.mk 13 p1 0 0 0 ([] : List Instr) ([] : List Instr) ([] : List Int))] : List Instr)))], []⟩ (And.intro (And.intro (litI ([(Instr.mk 65 0 0 0 0 ([] : List Instr) ([] : List Instr) ([] : List Int)), (Instr.mk 13 p1 0 0 0 ([] : List Instr) ([] : List Instr) ([] : List Int))] : List Instr)) True.intro) True.intro) (by kernel_rfl) ?_
    obtain ⟨j3, H32, H⟩ := bind_some H
    refine AW2.mid ⟨[(1, .d (.int .i64 p1)), (7, .d (.int .i64 (wI ((IntKind.wrap .u64 p0).tmod 30)))), (8, .d (sVI j3))], []⟩ ?_ ?_
    · refine AW2.seq ?_
      obtain ⟨x4, hx5, H⟩ := bind_some H
      obtain ⟨x6, hx7, H⟩ := bind_some H
      obtain ⟨x8, hx9, H⟩ := bind_some H
      refine AW2.rg [.r (.agg (eMdl x4)), .r (.agg (eMdl x6)), .r (.err 45 x8)] [1, 7, 10] [] [] ⟨[(1, .d (.int .i64 p1)), (7, .d (.int .i64 (wI ((IntKind.wrap .u64 p0).tmod 30)))), (10, .d (.err 45 x8))], []⟩ (And.intro (And.intro (c_law08_scene ([] : List Int) 0 j3 x4 hx5) (And.intro (c_law08_giveModule K x4 x6 hx7) (And.intro (c_valid_Body K x6 0 x8 hx9) True.intro))) True.intro) (by kernel_rfl) ?_
      refine AW2.seq ?_
      obtain ⟨j22, H24, H⟩ := bind_some H
      refine AW2.reg [] rfl (YW.to ⟨[(6, .d (.bool j22))], []⟩ ?qh25 ?h25)
      case h25 =>
        have H := H24
        rcases bT (decide (p1 ≥ (0 : Int))) with hc1 | hc1
        · replace H := ite_t H hc1
          rcases bT (x8.isNone == (decide (p1 ≤ (wI ((IntKind.wrap .u64 p0).tmod 30))))) with hc2 | hc2
          · replace H := ite_t H hc2
            rcases bT x8.isNone with hc3 | hc3
            · replace H := ite_t H hc3
              obtain ⟨x10, hx11, H⟩ := bind_some H
              have H := Option.some.inj H
              subst H
              exact YW.fin [(66, true), (72, true), (75, true), (81, true)] [.r (.bool x10)] [6] [] [] _ (And.intro (And.intro hc1 (And.intro hc1 (And.intro hc1 (And.intro hc1 (And.intro hc2 (And.intro hc2 (And.intro hc2 (And.intro hc3 (And.intro hc3 (And.intro hc3 (And.intro hc2 (And.intro hc3 (And.intro hc2 (And.intro (Eq.refl true) (And.intro (c_law08_sure x10 hx11) (And.intro (Eq.refl true) True.intro)))))))))))))))) True.intro) (by kernel_rfl) rfl
            · replace H := ite_f H hc3
              obtain ⟨x12, hx13, H⟩ := bind_some H
              rcases bT (x12 == (7 : Int)) with hc4 | hc4
              · replace H := ite_t H hc4
                obtain ⟨x14, hx15, H⟩ := bind_some H
                have H := Option.some.inj H
                subst H
                exact YW.fin [(66, true), (72, true), (75, false), (81, true)] [.r (.int .i64 x12), .r (.bool x14)] [6] [] [] _ (And.intro (And.intro hc1 (And.intro hc1 (And.intro hc1 (And.intro hc1 (And.intro hc2 (And.intro hc2 (And.intro hc2 (And.intro hc3 (And.intro hc3 (And.intro (c_law08_num x8 x12 hx13) (And.intro hc3 (And.intro hc2 (And.intro hc3 (And.intro hc2 (And.intro hc4 (And.intro (c_law08_sure x14 hx15) (And.intro hc4 True.intro))))))))))))))))) True.intro) (by kernel_rfl) rfl
              · replace H := ite_f H hc4
                have H := Option.some.inj H
                subst H
                exact YW.fin [(66, true), (72, true), (75, false), (81, false)] [.r (.int .i64 x12)] [6] [] [] _ (And.intro (And.intro hc1 (And.intro hc1 (And.intro hc1 (And.intro hc1 (And.intro hc2 (And.intro hc2 (And.intro hc2 (And.intro hc3 (And.intro hc3 (And.intro (c_law08_num x8 x12 hx13) (And.intro hc3 (And.intro hc2 (And.intro hc3 (And.intro hc2 (And.intro hc4 (And.intro hc4 True.intro)))))))))))))))) True.intro) (by kernel_rfl) rfl
          · replace H := ite_f H hc2
            have H := Option.some.inj H
            subst H
            exact YW.fin [(66, true), (72, false), (81, false)] [] [6] [] [] _ (And.intro (And.intro hc1 (And.intro hc1 (And.intro hc1 (And.intro hc1 (And.intro hc2 (And.intro hc2 (And.intro hc2 (And.intro hc2 (And.intro hc2 (And.intro (Eq.refl false) (And.intro (Eq.refl false) True.intro))))))))))) True.intro) (by kernel_rfl) rfl
        · replace H := ite_f H hc1
          rcases bT (x8.isNone == false) with hc2 | hc2
          · replace H := ite_t H hc2
            rcases bT x8.isNone with hc3 | hc3
            · replace H := ite_t H hc3
              obtain ⟨x16, hx17, H⟩ := bind_some H
              have H := Option.some.inj H
              subst H
              exact YW.fin [(66, false), (72, true), (75, true), (81, true)] [.r (.bool x16)] [6] [] [] _ (And.intro (And.intro hc1 (And.intro hc1 (And.intro hc1 (And.intro hc1 (And.intro hc2 (And.intro hc2 (And.intro hc2 (And.intro hc3 (And.intro hc3 (And.intro hc3 (And.intro hc2 (And.intro hc3 (And.intro hc2 (And.intro (Eq.refl true) (And.intro (c_law08_sure x16 hx17) (And.intro (Eq.refl true) True.intro)))))))))))))))) True.intro) (by kernel_rfl) rfl
            · replace H := ite_f H hc3
              obtain ⟨x18, hx19, H⟩ := bind_some H
              rcases bT (x18 == (7 : Int)) with hc4 | hc4
              · replace H := ite_t H hc4
                obtain ⟨x20, hx21, H⟩ := bind_some H
                have H := Option.some.inj H
                subst H
                exact YW.fin [(66, false), (72, true), (75, false), (81, true)] [.r (.int .i64 x18), .r (.bool x20)] [6] [] [] _ (And.intro (And.intro hc1 (And.intro hc1 (And.intro hc1 (And.intro hc1 (And.intro hc2 (And.intro hc2 (And.intro hc2 (And.intro hc3 (And.intro hc3 (And.intro (c_law08_num x8 x18 hx19) (And.intro hc3 (And.intro hc2 (And.intro hc3 (And.intro hc2 (And.intro hc4 (And.intro (c_law08_sure x20 hx21) (And.intro hc4 True.intro))))))))))))))))) True.intro) (by kernel_rfl) rfl
              · replace H := ite_f H hc4
                have H := Option.some.inj H
                subst H
                exact YW.fin [(66, false), (72, true), (75, false), (81, false)] [.r (.int .i64 x18)] [6] [] [] _ (And.intro (And.intro hc1 (And.intro hc1 (And.intro hc1 (And.intro hc1 (And.intro hc2 (And.intro hc2 (And.intro hc2 (And.intro hc3 (And.intro hc3 (And.intro (c_law08_num x8 x18 hx19) (And.intro hc3 (And.intro hc2 (And.intro hc3 (And.intro hc2 (And.intro hc4 (And.intro hc4 True.intro)))))))))))))))) True.intro) (by kernel_rfl) rfl
          · replace H := ite_f H hc2
            have H := Option.some.inj H
            subst H
            exact YW.fin [(66, false), (72, false), (81, false)] [] [6] [] [] _ (And.intro (And.intro hc1 (And.intro hc1 (And.intro hc1 (And.intro hc1 (And.intro hc2 (And.intro hc2 (And.intro hc2 (And.intro hc2 (And.intro hc2 (And.intro (Eq.refl false) (And.intro (Eq.refl false) True.intro))))))))))) True.intro) (by kernel_rfl) rfl
      refine AW2.ret ?_
      have H := Option.some.inj H
      subst H
      exact retP_mk2 True.intro (by kernel_rfl)
    · have H := H32
      refine AW2.seq ?_
      refine AW2.rg [] [1, 2, 7, 8, 9] [] [] ⟨[(1, .d (.int .i64 p1)), (2, .d (.int .i64 p2)), (7, .d (.int .i64 (wI ((IntKind.wrap .u64 p0).tmod 30)))), (8, .d (sVI ([(Instr.mk 65 0 0 0 0 ([] : List Instr) ([] : List Instr) ([] : List Int)), (Instr.mk 13 p1 0 0 0 ([] : List Instr) ([] : List Instr) ([] : List Int))] : List Instr))), (9, .d (.int .i64 0))], []⟩ (And.intro True.intro True.intro) (by kernel_rfl) ?_
      refine AW2.block ?_
      refine AW2.lp (σ := (List Instr) × Int) (fun v => ⟨[(1, .d (.int .i64 p1)), (2, .d (.int .i64 p2)), (7, .d (.int .i64 (wI ((IntKind.wrap .u64 p0).tmod 30)))), (8, .d (sVI v.1)), (9, .d (.int .i64 v.2))], []⟩) (fun k v => g_law08_ValidLabels_l0 k p0 p2 v.1 v.2 = some j3) ?_ K (([(Instr.mk 65 0 0 0 0 ([] : List Instr) ([] : List Instr) ([] : List Int)), (Instr.mk 13 p1 0 0 0 ([] : List Instr) ([] : List Instr) ([] : List Int))] : List Instr), 0) H
      rintro k ⟨a28, a29⟩ H
      dsimp only at H
      cases k with
      | zero => cases H
      | succ k =>
      unfold g_law08_ValidLabels_l0 at H
      refine AW2.seq ?_
      refine AW2.seq ?_
      refine AW2.rg [] [1, 2, 7, 8, 9, 45] [] [] ⟨[(1, .d (.int .i64 p1)), (2, .d (.int .i64 p2)), (7, .d (.int .i64 (wI ((IntKind.wrap .u64 p0).tmod 30)))), (8, .d (sVI a28)), (9, .d (.int .i64 a29)), (45, .d (.bool (decide (a29 < (wI ((IntKind.wrap .u64 p0).tmod 30))))))], []⟩ (And.intro True.intro True.intro) (by kernel_rfl) ?_
      refine AW2.cond (b := (decide (a29 < (wI ((IntKind.wrap .u64 p0).tmod 30))))) rfl (fun hc => ?_) (fun hc => ?_)
      · replace H := ite_t H hc
        refine AW2.skip ?_
        refine AW2.seq ?_
        refine AW2.block ?_
        obtain ⟨h30, H⟩ := gd_some H
        refine AW2.rg [.sb ([(Instr.mk (IntKind.wrap .u8 (wI (2 + ((wI (a29 + (IntKind.wrap .i64 (((BitVec.ofInt (IntKind.bits .i64) p2) &&& (BitVec.ofInt (IntKind.bits .i64) 1)).toNat : Int)))).tmod 2)))) 0 0 0 0 a28 ([] : List Instr) ([] : List Int))] : List Instr).length (flI ([(Instr.mk (IntKind.wrap .u8 (wI (2 + ((wI (a29 + (IntKind.wrap .i64 (((BitVec.ofInt (IntKind.bits .i64) p2) &&& (BitVec.ofInt (IntKind.bits .i64) 1)).toNat : Int)))).tmod 2)))) 0 0 0 0 a28 ([] : List Instr) ([] : List Int))] : List Instr))] [1, 2, 7, 8, 9] [] [] ⟨[(1, .d (.int .i64 p1)), (2, .d (.int .i64 p2)), (7, .d (.int .i64 (wI ((IntKind.wrap .u64 p0).tmod 30)))), (8, .d (sVI ([(Instr.mk (IntKind.wrap .u8 (wI (2 + ((wI (a29 + (IntKind.wrap .i64 (((BitVec.ofInt (IntKind.bits .i64) p2) &&& (BitVec.ofInt (IntKind.bits .i64) 1)).toNat : Int)))).tmod 2)))) 0 0 0 0 a28 ([] : List Instr) ([] : List Int))] : List Instr))), (9, .d (.int .i64 a29))], []⟩ (And.intro (And.intro h30 (And.intro (litI ([(Instr.mk (IntKind.wrap .u8 (wI (2 + ((wI (a29 + (IntKind.wrap .i64 (((BitVec.ofInt (IntKind.bits .i64) p2) &&& (BitVec.ofInt (IntKind.bits .i64) 1)).toNat : Int)))).tmod 2)))) 0 0 0 0 a28 ([] : List Instr) ([] : List Int))] : List Instr)) True.intro)) True.intro) (by kernel_rfl) ?_
        refine AW2.rg [] [1, 2, 7, 8, 9] [] [] ⟨[(1, .d (.int .i64 p1)), (2, .d (.int .i64 p2)), (7, .d (.int .i64 (wI ((IntKind.wrap .u64 p0).tmod 30)))), (8, .d (sVI ([(Instr.mk (IntKind.wrap .u8 (wI (2 + ((wI (a29 + (IntKind.wrap .i64 (((BitVec.ofInt (IntKind.bits .i64) p2) &&& (BitVec.ofInt (IntKind.bits .i64) 1)).toNat : Int)))).tmod 2)))) 0 0 0 0 a28 ([] : List Instr) ([] : List Int))] : List Instr))), (9, .d (.int .i64 (wI (a29 + 1))))], []⟩ (And.intro True.intro True.intro) (by kernel_rfl) ?_
        exact ⟨k, (([(Instr.mk (IntKind.wrap .u8 (wI (2 + ((wI (a29 + (IntKind.wrap .i64 (((BitVec.ofInt (IntKind.bits .i64) p2) &&& (BitVec.ofInt (IntKind.bits .i64) 1)).toNat : Int)))).tmod 2)))) 0 0 0 0 a28 ([] : List Instr) ([] : List Int))] : List Instr), (wI (a29 + 1))), Nat.lt_succ_self k, H, wk_mk [1, 2, 7, 8, 9] [] [] True.intro (by kernel_rfl)⟩
      · replace H := ite_f H hc
        refine AW2.exit ?_
        have H := Option.some.inj H
        subst H
        exact wk_mk [1, 7, 8] [] [] True.intro (by kernel_rfl)
  · replace H := ite_f H hc
    refine AW2.seq ?_
    refine AW2.rg [] [1, 2, 7, 8, 28] [] [] ⟨[(1, .d (.int .i64 p1)), (2, .d (.int .i64 p2)), (7, .d (.int .i64 (wI ((IntKind.wrap .u64 p0).tmod 30)))), (8, .d (sVI ([(Instr.mk 12 p1 0 0 0 ([] : List Instr) ([] : List Instr) ([] : List Int))] : List Instr))), (28, .d (.bool ((wI ((IntKind.wrap .u64 p2).tmod 3)) == (1 : Int))))], []⟩ (And.intro True.intro True.intro) (by kernel_rfl) ?_
    refine AW2.cond (b := ((wI ((IntKind.wrap .u64 p2).tmod 3)) == (1 : Int))) rfl (fun hc => ?_) (fun hc => ?_)
    · replace H := ite_t H hc
      refine AW2.seq ?_
      refine AW2.seq ?_
      refine AW2.reg [] rfl (YW.to ⟨[(1, .d (.int .i64 p1)), (2, .d (.int .i64 p2)), (7, .d (.int .i64 (wI ((IntKind.wrap .u64 p0).tmod 30)))), (35, .d (.bool ((decide (p1 < (0 : Int))) || (decide (p1 ≥ (4294967296 : Int))))))], []⟩ ?qh65 ?h65)
      case h65 =>
        rcases bT (decide (p1 < (0 : Int))) with hc1 | hc1
        · exact YW.fin [(32, true)] [] [1, 2, 7, 35] [(35, .d (.bool ((decide (p1 < (0 : Int))) || (decide (p1 ≥ (4294967296 : Int))))))] [] _ (And.intro (And.intro hc1 (And.intro hc1 (And.intro hc1 True.intro))) (And.intro (ovB (orT (b := (decide (p1 ≥ (4294967296 : Int)))) hc1)) True.intro)) (by kernel_rfl) rfl
        · exact YW.fin [(32, false)] [] [1, 2, 7, 35] [(35, .d (.bool ((decide (p1 < (0 : Int))) || (decide (p1 ≥ (4294967296 : Int))))))] [] _ (And.intro (And.intro hc1 (And.intro hc1 (And.intro hc1 True.intro))) (And.intro (ovB (Eq.trans (orF (b := (decide (p1 ≥ (4294967296 : Int)))) hc1) (Eq.refl (decide (p1 ≥ (4294967296 : Int)))))) True.intro)) (by kernel_rfl) rfl
      refine AW2.cond (b := ((decide (p1 < (0 : Int))) || (decide (p1 ≥ (4294967296 : Int))))) rfl (fun hc => ?_) (fun hc => ?_)
      · replace H := ite_t H hc
        refine AW2.seq ?_
        obtain ⟨x33, hx34, H⟩ := bind_some H
        refine AW2.rg [.r (.bool x33)] [6] [] [] ⟨[(6, .d (.bool x33))], []⟩ (And.intro (And.intro (c_law08_sure x33 hx34) True.intro) True.intro) (by kernel_rfl) ?_
        refine AW2.ret ?_
        have H := Option.some.inj H
        subst H
        exact retP_mk2 True.intro (by kernel_rfl)
      · replace H := ite_f H hc
        refine AW2.skip ?_
        refine AW2.rg [.sb ([0, (IntKind.wrap .u32 p1), 0] : List Int).length (fl (eI .u32) ([0, (IntKind.wrap .u32 p1), 0] : List Int)), .sb ([(Instr.mk 65 0 0 0 0 ([] : List Instr) ([] : List Instr) ([] : List Int)), (Instr.mk 14 0 0 0 0 ([] : List Instr) ([] : List Instr) ([0, (IntKind.wrap .u32 p1), 0] : List Int))] : List Instr).length (flI ([(Instr.mk 65 0 0 0 0 ([] : List Instr) ([] : List Instr) ([] : List Int)), (Instr.mk 14 0 0 0 0 ([] : List Instr) ([] : List Instr) ([0, (IntKind.wrap .u32 p1), 0] : List Int))] : List Instr))] [1, 2, 7, 8] [] [] ⟨[(1, .d (.int .i64 p1)), (2, .d (.int .i64 p2)), (7, .d (.int .i64 (wI ((IntKind.wrap .u64 p0).tmod 30)))), (8, .d (sVI ([(Instr.mk 65 0 0 0 0 ([] : List Instr) ([] : List Instr) ([] : List Int)), (Instr.mk 14 0 0 0 0 ([] : List Instr) ([] : List Instr) ([0, (IntKind.wrap .u32 p1), 0] : List Int))] : List Instr)))], []⟩ (And.intro (And.intro (litF (eI .u32) ([0, (IntKind.wrap .u32 p1), 0] : List Int)) (And.intro (litI ([(Instr.mk 65 0 0 0 0 ([] : List Instr) ([] : List Instr) ([] : List Int)), (Instr.mk 14 0 0 0 0 ([] : List Instr) ([] : List Instr) ([0, (IntKind.wrap .u32 p1), 0] : List Int))] : List Instr)) True.intro)) True.intro) (by kernel_rfl) ?_
        obtain ⟨j35, H64, H⟩ := bind_some H
        refine AW2.mid ⟨[(1, .d (.int .i64 p1)), (7, .d (.int .i64 (wI ((IntKind.wrap .u64 p0).tmod 30)))), (8, .d (sVI j35))], []⟩ ?_ ?_
        · refine AW2.seq ?_
          obtain ⟨x36, hx37, H⟩ := bind_some H
          obtain ⟨x38, hx39, H⟩ := bind_some H
          obtain ⟨x40, hx41, H⟩ := bind_some H
          refine AW2.rg [.r (.agg (eMdl x36)), .r (.agg (eMdl x38)), .r (.err 45 x40)] [1, 7, 10] [] [] ⟨[(1, .d (.int .i64 p1)), (7, .d (.int .i64 (wI ((IntKind.wrap .u64 p0).tmod 30)))), (10, .d (.err 45 x40))], []⟩ (And.intro (And.intro (c_law08_scene ([] : List Int) 0 j35 x36 hx37) (And.intro (c_law08_giveModule K x36 x38 hx39) (And.intro (c_valid_Body K x38 0 x40 hx41) True.intro))) True.intro) (by kernel_rfl) ?_
          refine AW2.seq ?_
          obtain ⟨j54, H56, H⟩ := bind_some H
          refine AW2.reg [] rfl (YW.to ⟨[(6, .d (.bool j54))], []⟩ ?qh57 ?h57)
          case h57 =>
            have H := H56
            rcases bT (decide (p1 ≥ (0 : Int))) with hc1 | hc1
            · replace H := ite_t H hc1
              rcases bT (x40.isNone == (decide (p1 ≤ (wI ((IntKind.wrap .u64 p0).tmod 30))))) with hc2 | hc2
              · replace H := ite_t H hc2
                rcases bT x40.isNone with hc3 | hc3
                · replace H := ite_t H hc3
                  obtain ⟨x42, hx43, H⟩ := bind_some H
                  have H := Option.some.inj H
                  subst H
                  exact YW.fin [(66, true), (72, true), (75, true), (81, true)] [.r (.bool x42)] [6] [] [] _ (And.intro (And.intro hc1 (And.intro hc1 (And.intro hc1 (And.intro hc1 (And.intro hc2 (And.intro hc2 (And.intro hc2 (And.intro hc3 (And.intro hc3 (And.intro hc3 (And.intro hc2 (And.intro hc3 (And.intro hc2 (And.intro (Eq.refl true) (And.intro (c_law08_sure x42 hx43) (And.intro (Eq.refl true) True.intro)))))))))))))))) True.intro) (by kernel_rfl) rfl
                · replace H := ite_f H hc3
                  obtain ⟨x44, hx45, H⟩ := bind_some H
                  rcases bT (x44 == (7 : Int)) with hc4 | hc4
                  · replace H := ite_t H hc4
                    obtain ⟨x46, hx47, H⟩ := bind_some H
                    have H := Option.some.inj H
                    subst H
                    exact YW.fin [(66, true), (72, true), (75, false), (81, true)] [.r (.int .i64 x44), .r (.bool x46)] [6] [] [] _ (And.intro (And.intro hc1 (And.intro hc1 (And.intro hc1 (And.intro hc1 (And.intro hc2 (And.intro hc2 (And.intro hc2 (And.intro hc3 (And.intro hc3 (And.intro (c_law08_num x40 x44 hx45) (And.intro hc3 (And.intro hc2 (And.intro hc3 (And.intro hc2 (And.intro hc4 (And.intro (c_law08_sure x46 hx47) (And.intro hc4 True.intro))))))))))))))))) True.intro) (by kernel_rfl) rfl
                  · replace H := ite_f H hc4
                    have H := Option.some.inj H
                    subst H
                    exact YW.fin [(66, true), (72, true), (75, false), (81, false)] [.r (.int .i64 x44)] [6] [] [] _ (And.intro (And.intro hc1 (And.intro hc1 (And.intro hc1 (And.intro hc1 (And.intro hc2 (And.intro hc2 (And.intro hc2 (And.intro hc3 (And.intro hc3 (And.intro (c_law08_num x40 x44 hx45) (And.intro hc3 (And.intro hc2 (And.intro hc3 (And.intro hc2 (And.intro hc4 (And.intro hc4 True.intro)))))))))))))))) True.intro) (by kernel_rfl) rfl
              · replace H := ite_f H hc2
                have H := Option.some.inj H
                subst H
                exact YW.fin [(66, true), (72, false), (81, false)] [] [6] [] [] _ (And.intro (And.intro hc1 (And.intro hc1 (And.intro hc1 (And.intro hc1 (And.intro hc2 (And.intro hc2 (And.intro hc2 (And.intro hc2 (And.intro hc2 (And.intro (Eq.refl false) (And.intro (Eq.refl false) True.intro))))))))))) True.intro) (by kernel_rfl) rfl
            · replace H := ite_f H hc1
              rcases bT (x40.isNone == false) with hc2 | hc2
              · replace H := ite_t H hc2
                rcases bT x40.isNone with hc3 | hc3
                · replace H := ite_t H hc3
                  obtain ⟨x48, hx49, H⟩ := bind_some H
                  have H := Option.some.inj H
                  subst H
                  exact YW.fin [(66, false), (72, true), (75, true), (81, true)] [.r (.bool x48)] [6] [] [] _ (And.intro (And.intro hc1 (And.intro hc1 (And.intro hc1 (And.intro hc1 (And.intro hc2 (And.intro hc2 (And.intro hc2 (And.intro hc3 (And.intro hc3 (And.intro hc3 (And.intro hc2 (And.intro hc3 (And.intro hc2 (And.intro (Eq.refl true) (And.intro (c_law08_sure x48 hx49) (And.intro (Eq.refl true) True.intro)))))))))))))))) True.intro) (by kernel_rfl) rfl
                · replace H := ite_f H hc3
                  obtain ⟨x50, hx51, H⟩ := bind_some H
                  rcases bT (x50 == (7 : Int)) with hc4 | hc4
                  · replace H := ite_t H hc4
                    obtain ⟨x52, hx53, H⟩ := bind_some H
                    have H := Option.some.inj H
                    subst H
                    exact YW.fin [(66, false), (72, true), (75, false), (81, true)] [.r (.int .i64 x50), .r (.bool x52)] [6] [] [] _ (And.intro (And.intro hc1 (And.intro hc1 (And.intro hc1 (And.intro hc1 (And.intro hc2 (And.intro hc2 (And.intro hc2 (And.intro hc3 (And.intro hc3 (And.intro (c_law08_num x40 x50 hx51) (And.intro hc3 (And.intro hc2 (And.intro hc3 (And.intro hc2 (And.intro hc4 (And.intro (c_law08_sure x52 hx53) (And.intro hc4 True.intro))))))))))))))))) True.intro) (by kernel_rfl) rfl
                  · replace H := ite_f H hc4
                    have H := Option.some.inj H
                    subst H
                    exact YW.fin [(66, false), (72, true), (75, false), (81, false)] [.r (.int .i64 x50)] [6] [] [] _ (And.intro (And.intro hc1 (And.intro hc1 (And.intro hc1 (And.intro hc1 (And.intro hc2 (And.intro hc2 (And.intro hc2 (And.intro hc3 (And.intro hc3 (And.intro (c_law08_num x40 x50 hx51) (And.intro hc3 (And.intro hc2 (And.intro hc3 (And.intro hc2 (And.intro hc4 (And.intro hc4 True.intro)))))))))))))))) True.intro) (by kernel_rfl) rfl
              · replace H := ite_f H hc2
                have H := Option.some.inj H
                subst H
                exact YW.fin [(66, false), (72, false), (81, false)] [] [6] [] [] _ (And.intro (And.intro hc1 (And.intro hc1 (And.intro hc1 (And.intro hc1 (And.intro hc2 (And.intro hc2 (And.intro hc2 (And.intro hc2 (And.intro hc2 (And.intro (Eq.refl false) (And.intro (Eq.refl false) True.intro))))))))))) True.intro) (by kernel_rfl) rfl
          refine AW2.ret ?_
          have H := Option.some.inj H
          subst H
          exact retP_mk2 True.intro (by kernel_rfl)
        · have H := H64
          refine AW2.seq ?_
          refine AW2.rg [] [1, 2, 7, 8, 9] [] [] ⟨[(1, .d (.int .i64 p1)), (2, .d (.int .i64 p2)), (7, .d (.int .i64 (wI ((IntKind.wrap .u64 p0).tmod 30)))), (8, .d (sVI ([(Instr.mk 65 0 0 0 0 ([] : List Instr) ([] : List Instr) ([] : List Int)), (Instr.mk 14 0 0 0 0 ([] : List Instr) ([] : List Instr) ([0, (IntKind.wrap .u32 p1), 0] : List Int))] : List Instr))), (9, .d (.int .i64 0))], []⟩ (And.intro True.intro True.intro) (by kernel_rfl) ?_
          refine AW2.block ?_
          refine AW2.lp (σ := (List Instr) × Int) (fun v => ⟨[(1, .d (.int .i64 p1)), (2, .d (.int .i64 p2)), (7, .d (.int .i64 (wI ((IntKind.wrap .u64 p0).tmod 30)))), (8, .d (sVI v.1)), (9, .d (.int .i64 v.2))], []⟩) (fun k v => g_law08_ValidLabels_l1 k p0 p2 v.1 v.2 = some j35) ?_ K (([(Instr.mk 65 0 0 0 0 ([] : List Instr) ([] : List Instr) ([] : List Int)), (Instr.mk 14 0 0 0 0 ([] : List Instr) ([] : List Instr) ([0, (IntKind.wrap .u32 p1), 0] : List Int))] : List Instr), 0) H
          rintro k ⟨a60, a61⟩ H
          dsimp only at H
          cases k with
          | zero => cases H
          | succ k =>
          unfold g_law08_ValidLabels_l1 at H
          refine AW2.seq ?_
          refine AW2.seq ?_
          refine AW2.rg [] [1, 2, 7, 8, 9, 45] [] [] ⟨[(1, .d (.int .i64 p1)), (2, .d (.int .i64 p2)), (7, .d (.int .i64 (wI ((IntKind.wrap .u64 p0).tmod 30)))), (8, .d (sVI a60)), (9, .d (.int .i64 a61)), (45, .d (.bool (decide (a61 < (wI ((IntKind.wrap .u64 p0).tmod 30))))))], []⟩ (And.intro True.intro True.intro) (by kernel_rfl) ?_
          refine AW2.cond (b := (decide (a61 < (wI ((IntKind.wrap .u64 p0).tmod 30))))) rfl (fun hc => ?_) (fun hc => ?_)
          · replace H := ite_t H hc
            refine AW2.skip ?_
            refine AW2.seq ?_
            refine AW2.block ?_
            obtain ⟨h62, H⟩ := gd_some H
            refine AW2.rg [.sb ([(Instr.mk (IntKind.wrap .u8 (wI (2 + ((wI (a61 + (IntKind.wrap .i64 (((BitVec.ofInt (IntKind.bits .i64) p2) &&& (BitVec.ofInt (IntKind.bits .i64) 1)).toNat : Int)))).tmod 2)))) 0 0 0 0 a60 ([] : List Instr) ([] : List Int))] : List Instr).length (flI ([(Instr.mk (IntKind.wrap .u8 (wI (2 + ((wI (a61 + (IntKind.wrap .i64 (((BitVec.ofInt (IntKind.bits .i64) p2) &&& (BitVec.ofInt (IntKind.bits .i64) 1)).toNat : Int)))).tmod 2)))) 0 0 0 0 a60 ([] : List Instr) ([] : List Int))] : List Instr))] [1, 2, 7, 8, 9] [] [] ⟨[(1, .d (.int .i64 p1)), (2, .d (.int .i64 p2)), (7, .d (.int .i64 (wI ((IntKind.wrap .u64 p0).tmod 30)))), (8, .d (sVI ([(Instr.mk (IntKind.wrap .u8 (wI (2 + ((wI (a61 + (IntKind.wrap .i64 (((BitVec.ofInt (IntKind.bits .i64) p2) &&& (BitVec.ofInt (IntKind.bits .i64) 1)).toNat : Int)))).tmod 2)))) 0 0 0 0 a60 ([] : List Instr) ([] : List Int))] : List Instr))), (9, .d (.int .i64 a61))], []⟩ (And.intro (And.intro h62 (And.intro (litI ([(Instr.mk (IntKind.wrap .u8 (wI (2 + ((wI (a61 + (IntKind.wrap .i64 (((BitVec.ofInt (IntKind.bits .i64) p2) &&& (BitVec.ofInt (IntKind.bits .i64) 1)).toNat : Int)))).tmod 2)))) 0 0 0 0 a60 ([] : List Instr) ([] : List Int))] : List Instr)) True.intro)) True.intro) (by kernel_rfl) ?_
            refine AW2.rg [] [1, 2, 7, 8, 9] [] [] ⟨[(1, .d (.int .i64 p1)), (2, .d (.int .i64 p2)), (7, .d (.int .i64 (wI ((IntKind.wrap .u64 p0).tmod 30)))), (8, .d (sVI ([(Instr.mk (IntKind.wrap .u8 (wI (2 + ((wI (a61 + (IntKind.wrap .i64 (((BitVec.ofInt (IntKind.bits .i64) p2) &&& (BitVec.ofInt (IntKind.bits .i64) 1)).toNat : Int)))).tmod 2)))) 0 0 0 0 a60 ([] : List Instr) ([] : List Int))] : List Instr))), (9, .d (.int .i64 (wI (a61 + 1))))], []⟩ (And.intro True.intro True.intro) (by kernel_rfl) ?_
            exact ⟨k, (([(Instr.mk (IntKind.wrap .u8 (wI (2 + ((wI (a61 + (IntKind.wrap .i64 (((BitVec.ofInt (IntKind.bits .i64) p2) &&& (BitVec.ofInt (IntKind.bits .i64) 1)).toNat : Int)))).tmod 2)))) 0 0 0 0 a60 ([] : List Instr) ([] : List Int))] : List Instr), (wI (a61 + 1))), Nat.lt_succ_self k, H, wk_mk [1, 2, 7, 8, 9] [] [] True.intro (by kernel_rfl)⟩
          · replace H := ite_f H hc
            refine AW2.exit ?_
            have H := Option.some.inj H
            subst H
            exact wk_mk [1, 7, 8] [] [] True.intro (by kernel_rfl)
    · replace H := ite_f H hc
      refine AW2.skip ?_
      obtain ⟨j66, H95, H⟩ := bind_some H
      refine AW2.mid ⟨[(1, .d (.int .i64 p1)), (7, .d (.int .i64 (wI ((IntKind.wrap .u64 p0).tmod 30)))), (8, .d (sVI j66))], []⟩ ?_ ?_
      · refine AW2.seq ?_
        obtain ⟨x67, hx68, H⟩ := bind_some H
        obtain ⟨x69, hx70, H⟩ := bind_some H
        obtain ⟨x71, hx72, H⟩ := bind_some H
        refine AW2.rg [.r (.agg (eMdl x67)), .r (.agg (eMdl x69)), .r (.err 45 x71)] [1, 7, 10] [] [] ⟨[(1, .d (.int .i64 p1)), (7, .d (.int .i64 (wI ((IntKind.wrap .u64 p0).tmod 30)))), (10, .d (.err 45 x71))], []⟩ (And.intro (And.intro (c_law08_scene ([] : List Int) 0 j66 x67 hx68) (And.intro (c_law08_giveModule K x67 x69 hx70) (And.intro (c_valid_Body K x69 0 x71 hx72) True.intro))) True.intro) (by kernel_rfl) ?_
        refine AW2.seq ?_
        obtain ⟨j85, H87, H⟩ := bind_some H
        refine AW2.reg [] rfl (YW.to ⟨[(6, .d (.bool j85))], []⟩ ?qh88 ?h88)
        case h88 =>
          have H := H87
          rcases bT (decide (p1 ≥ (0 : Int))) with hc1 | hc1
          · replace H := ite_t H hc1
            rcases bT (x71.isNone == (decide (p1 ≤ (wI ((IntKind.wrap .u64 p0).tmod 30))))) with hc2 | hc2
            · replace H := ite_t H hc2
              rcases bT x71.isNone with hc3 | hc3
              · replace H := ite_t H hc3
                obtain ⟨x73, hx74, H⟩ := bind_some H
                have H := Option.some.inj H
                subst H
                exact YW.fin [(66, true), (72, true), (75, true), (81, true)] [.r (.bool x73)] [6] [] [] _ (And.intro (And.intro hc1 (And.intro hc1 (And.intro hc1 (And.intro hc1 (And.intro hc2 (And.intro hc2 (And.intro hc2 (And.intro hc3 (And.intro hc3 (And.intro hc3 (And.intro hc2 (And.intro hc3 (And.intro hc2 (And.intro (Eq.refl true) (And.intro (c_law08_sure x73 hx74) (And.intro (Eq.refl true) True.intro)))))))))))))))) True.intro) (by kernel_rfl) rfl
              · replace H := ite_f H hc3
                obtain ⟨x75, hx76, H⟩ := bind_some H
                rcases bT (x75 == (7 : Int)) with hc4 | hc4
                · replace H := ite_t H hc4
                  obtain ⟨x77, hx78, H⟩ := bind_some H
                  have H := Option.some.inj H
                  subst H
                  exact YW.fin [(66, true), (72, true), (75, false), (81, true)] [.r (.int .i64 x75), .r (.bool x77)] [6] [] [] _ (And.intro (And.intro hc1 (And.intro hc1 (And.intro hc1 (And.intro hc1 (And.intro hc2 (And.intro hc2 (And.intro hc2 (And.intro hc3 (And.intro hc3 (And.intro (c_law08_num x71 x75 hx76) (And.intro hc3 (And.intro hc2 (And.intro hc3 (And.intro hc2 (And.intro hc4 (And.intro (c_law08_sure x77 hx78) (And.intro hc4 True.intro))))))))))))))))) True.intro) (by kernel_rfl) rfl
                · replace H := ite_f H hc4
                  have H := Option.some.inj H
                  subst H
                  exact YW.fin [(66, true), (72, true), (75, false), (81, false)] [.r (.int .i64 x75)] [6] [] [] _ (And.intro (And.intro hc1 (And.intro hc1 (And.intro hc1 (And.intro hc1 (And.intro hc2 (And.intro hc2 (And.intro hc2 (And.intro hc3 (And.intro hc3 (And.intro (c_law08_num x71 x75 hx76) (And.intro hc3 (And.intro hc2 (And.intro hc3 (And.intro hc2 (And.intro hc4 (And.intro hc4 True.intro)))))))))))))))) True.intro) (by kernel_rfl) rfl
            · replace H := ite_f H hc2
              have H := Option.some.inj H
              subst H
              exact YW.fin [(66, true), (72, false), (81, false)] [] [6] [] [] _ (And.intro (And.intro hc1 (And.intro hc1 (And.intro hc1 (And.intro hc1 (And.intro hc2 (And.intro hc2 (And.intro hc2 (And.intro hc2 (And.intro hc2 (And.intro (Eq.refl false) (And.intro (Eq.refl false) True.intro))))))))))) True.intro) (by kernel_rfl) rfl
          · replace H := ite_f H hc1
            rcases bT (x71.isNone == false) with hc2 | hc2
            · replace H := ite_t H hc2
              rcases bT x71.isNone with hc3 | hc3
              · replace H := ite_t H hc3
                obtain ⟨x79, hx80, H⟩ := bind_some H
                have H := Option.some.inj H
                subst H
                exact YW.fin [(66, false), (72, true), (75, true), (81, true)] [.r (.bool x79)] [6] [] [] _ (And.intro (And.intro hc1 (And.intro hc1 (And.intro hc1 (And.intro hc1 (And.intro hc2 (And.intro hc2 (And.intro hc2 (And.intro hc3 (And.intro hc3 (And.intro hc3 (And.intro hc2 (And.intro hc3 (And.intro hc2 (And.intro (Eq.refl true) (And.intro (c_law08_sure x79 hx80) (And.intro (Eq.refl true) True.intro)))))))))))))))) True.intro) (by kernel_rfl) rfl
              · replace H := ite_f H hc3
                obtain ⟨x81, hx82, H⟩ := bind_some H
                rcases bT (x81 == (7 : Int)) with hc4 | hc4
                · replace H := ite_t H hc4
                  obtain ⟨x83, hx84, H⟩ := bind_some H
                  have H := Option.some.inj H
                  subst H
                  exact YW.fin [(66, false), (72, true), (75, false), (81, true)] [.r (.int .i64 x81), .r (.bool x83)] [6] [] [] _ (And.intro (And.intro hc1 (And.intro hc1 (And.intro hc1 (And.intro hc1 (And.intro hc2 (And.intro hc2 (And.intro hc2 (And.intro hc3 (And.intro hc3 (And.intro (c_law08_num x71 x81 hx82) (And.intro hc3 (And.intro hc2 (And.intro hc3 (And.intro hc2 (And.intro hc4 (And.intro (c_law08_sure x83 hx84) (And.intro hc4 True.intro))))))))))))))))) True.intro) (by kernel_rfl) rfl
                · replace H := ite_f H hc4
                  have H := Option.some.inj H
                  subst H
                  exact YW.fin [(66, false), (72, true), (75, false), (81, false)] [.r (.int .i64 x81)] [6] [] [] _ (And.intro (And.intro hc1 (And.intro hc1 (And.intro hc1 (And.intro hc1 (And.intro hc2 (And.intro hc2 (And.intro hc2 (And.intro hc3 (And.intro hc3 (And.intro (c_law08_num x71 x81 hx82) (And.intro hc3 (And.intro hc2 (And.intro hc3 (And.intro hc2 (And.intro hc4 (And.intro hc4 True.intro)))))))))))))))) True.intro) (by kernel_rfl) rfl
            · replace H := ite_f H hc2
              have H := Option.some.inj H
              subst H
              exact YW.fin [(66, false), (72, false), (81, false)] [] [6] [] [] _ (And.intro (And.intro hc1 (And.intro hc1 (And.intro hc1 (And.intro hc1 (And.intro hc2 (And.intro hc2 (And.intro hc2 (And.intro hc2 (And.intro hc2 (And.intro (Eq.refl false) (And.intro (Eq.refl false) True.intro))))))))))) True.intro) (by kernel_rfl) rfl
        refine AW2.ret ?_
        have H := Option.some.inj H
        subst H
        exact retP_mk2 True.intro (by kernel_rfl)
      · have H := H95
        refine AW2.seq ?_
        refine AW2.rg [] [1, 2, 7, 8, 9] [] [] ⟨[(1, .d (.int .i64 p1)), (2, .d (.int .i64 p2)), (7, .d (.int .i64 (wI ((IntKind.wrap .u64 p0).tmod 30)))), (8, .d (sVI ([(Instr.mk 12 p1 0 0 0 ([] : List Instr) ([] : List Instr) ([] : List Int))] : List Instr))), (9, .d (.int .i64 0))], []⟩ (And.intro True.intro True.intro) (by kernel_rfl) ?_
        refine AW2.block ?_
        refine AW2.lp (σ := (List Instr) × Int) (fun v => ⟨[(1, .d (.int .i64 p1)), (2, .d (.int .i64 p2)), (7, .d (.int .i64 (wI ((IntKind.wrap .u64 p0).tmod 30)))), (8, .d (sVI v.1)), (9, .d (.int .i64 v.2))], []⟩) (fun k v => g_law08_ValidLabels_l2 k p0 p2 v.1 v.2 = some j66) ?_ K (([(Instr.mk 12 p1 0 0 0 ([] : List Instr) ([] : List Instr) ([] : List Int))] : List Instr), 0) H
        rintro k ⟨a91, a92⟩ H
        dsimp only at H
        cases k with
        | zero => cases H
        | succ k =>
        unfold g_law08_ValidLabels_l2 at H
        refine AW2.seq ?_
        refine AW2.seq ?_
        refine AW2.rg [] [1, 2, 7, 8, 9, 45] [] [] ⟨[(1, .d (.int .i64 p1)), (2, .d (.int .i64 p2)), (7, .d (.int .i64 (wI ((IntKind.wrap .u64 p0).tmod 30)))), (8, .d (sVI a91)), (9, .d (.int .i64 a92)), (45, .d (.bool (decide (a92 < (wI ((IntKind.wrap .u64 p0).tmod 30))))))], []⟩ (And.intro True.intro True.intro) (by kernel_rfl) ?_
        refine AW2.cond (b := (decide (a92 < (wI ((IntKind.wrap .u64 p0).tmod 30))))) rfl (fun hc => ?_) (fun hc => ?_)
        · replace H := ite_t H hc
          refine AW2.skip ?_
          refine AW2.seq ?_
          refine AW2.block ?_
          obtain ⟨h93, H⟩ := gd_some H
          refine AW2.rg [.sb ([(Instr.mk (IntKind.wrap .u8 (wI (2 + ((wI (a92 + (IntKind.wrap .i64 (((BitVec.ofInt (IntKind.bits .i64) p2) &&& (BitVec.ofInt (IntKind.bits .i64) 1)).toNat : Int)))).tmod 2)))) 0 0 0 0 a91 ([] : List Instr) ([] : List Int))] : List Instr).length (flI ([(Instr.mk (IntKind.wrap .u8 (wI (2 + ((wI (a92 + (IntKind.wrap .i64 (((BitVec.ofInt (IntKind.bits .i64) p2) &&& (BitVec.ofInt (IntKind.bits .i64) 1)).toNat : Int)))).tmod 2)))) 0 0 0 0 a91 ([] : List Instr) ([] : List Int))] : List Instr))] [1, 2, 7, 8, 9] [] [] ⟨[(1, .d (.int .i64 p1)), (2, .d (.int .i64 p2)), (7, .d (.int .i64 (wI ((IntKind.wrap .u64 p0).tmod 30)))), (8, .d (sVI ([(Instr.mk (IntKind.wrap .u8 (wI (2 + ((wI (a92 + (IntKind.wrap .i64 (((BitVec.ofInt (IntKind.bits .i64) p2) &&& (BitVec.ofInt (IntKind.bits .i64) 1)).toNat : Int)))).tmod 2)))) 0 0 0 0 a91 ([] : List Instr) ([] : List Int))] : List Instr))), (9, .d (.int .i64 a92))], []⟩ (And.intro (And.intro h93 (And.intro (litI ([(Instr.mk (IntKind.wrap .u8 (wI (2 + ((wI (a92 + (IntKind.wrap .i64 (((BitVec.ofInt (IntKind.bits .i64) p2) &&& (BitVec.ofInt (IntKind.bits .i64) 1)).toNat : Int)))).tmod 2)))) 0 0 0 0 a91 ([] : List Instr) ([] : List Int))] : List Instr)) True.intro)) True.intro) (by kernel_rfl) ?_
          refine AW2.rg [] [1, 2, 7, 8, 9] [] [] ⟨[(1, .d (.int .i64 p1)), (2, .d (.int .i64 p2)), (7, .d (.int .i64 (wI ((IntKind.wrap .u64 p0).tmod 30)))), (8, .d (sVI ([(Instr.mk (IntKind.wrap .u8 (wI (2 + ((wI (a92 + (IntKind.wrap .i64 (((BitVec.ofInt (IntKind.bits .i64) p2) &&& (BitVec.ofInt (IntKind.bits .i64) 1)).toNat : Int)))).tmod 2)))) 0 0 0 0 a91 ([] : List Instr) ([] : List Int))] : List Instr))), (9, .d (.int .i64 (wI (a92 + 1))))], []⟩ (And.intro True.intro True.intro) (by kernel_rfl) ?_
          exact ⟨k, (([(Instr.mk (IntKind.wrap .u8 (wI (2 + ((wI (a92 + (IntKind.wrap .i64 (((BitVec.ofInt (IntKind.bits .i64) p2) &&& (BitVec.ofInt (IntKind.bits .i64) 1)).toNat : Int)))).tmod 2)))) 0 0 0 0 a91 ([] : List Instr) ([] : List Int))] : List Instr), (wI (a92 + 1))), Nat.lt_succ_self k, H, wk_mk [1, 2, 7, 8, 9] [] [] True.intro (by kernel_rfl)⟩
        · replace H := ite_f H hc
          refine AW2.exit ?_
          have H := Option.some.inj H
          subst H
          exact wk_mk [1, 7, 8] [] [] True.intro (by kernel_rfl)

end Go.Proofs.YtablleokoifolaaGreatDoor

/- Plain facts: loops over lists; the law's copies of its inputs are the inputs. -/
set_option linter.unusedVariables false
set_option linter.unusedSimpArgs false
set_option maxRecDepth 100000
namespace Go.Proofs.YtablleokoifolaaGreatDoor
open Go

theorem wI_nat (i : Nat) (h : i < 140737488355328) : wI ((i : Int) + 1) = ((i + 1 : Nat) : Int) := by
  rw [wI_small (by omega) (by omega)]; omega
theorem takeS {α : Type} [Inhabited α] (l : List α) (i : Nat) (h : i < l.length) : l.take i ++ [l.getD ((i : Int)).toNat default] = l.take (i + 1) := by
  rw [Int.toNat_natCast, List.take_add_one]
  simp [List.getD_eq_getElem?_getD, h]
theorem takeL' {α : Type} (l : List α) (i : Nat) (h : i ≤ l.length) (h' : ¬ i < l.length) : l.take i = l := by
  have : i = l.length := by omega
  subst this; exact List.take_length
theorem dltT {a b : Nat} (h : a < b) : decide ((a : Int) < (b : Int)) = true := decide_eq_true (by omega)
theorem dltF {a b : Nat} (h : ¬ a < b) : ¬ decide ((a : Int) < (b : Int)) = true := fun e => by have := of_decide_eq_true e; omega
theorem getD_mem {α : Type} [Inhabited α] (l : List α) (i : Nat) (h : i < l.length) : l.getD ((i : Int)).toNat default ∈ l := by
  rw [Int.toNat_natCast, List.getD_eq_getElem?_getD, List.getElem?_eq_getElem h]
  exact List.getElem_mem h
theorem tlen {α : Type} (l : List α) (i : Nat) : (l.take i).length ≤ i := by simp; omega

theorem kinds_l0_id (l : List Int) (hl : l.length < 1000000000) : ∀ k (i : Nat), i ≤ l.length → l.length - i < k → g_law08_kinds_l0 k l (l.take i) (i : Int) = some l := by
  intro k
  induction k with
  | zero => intro i _ h; omega
  | succ k ih =>
    intro i h1 h2
    have := tlen l i
    simp only [g_law08_kinds_l0]
    by_cases h : i < l.length
    · rw [if_pos (dltT h), gd_of (by omega), gd_of (by omega), takeS l i h, wI_nat i (by omega)]
      exact ih (i + 1) h (by omega)
    · rw [if_neg (dltF h), takeL' l i h1 h]
theorem kinds_id (K : Nat) (l : List Int) (hl : l.length < 1000000000) (hK : l.length < K) : g_law08_kinds K l = some l := by
  unfold g_law08_kinds
  have := kinds_l0_id l hl K 0 (Nat.zero_le _) (by omega)
  simp only [List.take_zero] at this
  rw [show (0 : Int) = ((0 : Nat) : Int) from rfl, this]; rfl

mutual
/-- How far giving back goes. -/
def wtI : Instr → Nat
  | .mk _ _ _ _ _ b e _ => 3 + wtL b + wtL e
def wtL : List Instr → Nat
  | [] => 1
  | x :: l => wtI x + wtL l
end
theorem wtI_eq (x : Instr) : wtI x = 3 + wtL x.body + wtL x.els := by cases x; simp only [wtI, Instr.body, Instr.els]
theorem wtL_pos (l : List Instr) : 1 ≤ wtL l ∧ l.length < wtL l := by
  induction l with
  | nil => simp [wtL]
  | cons x l ih => simp only [wtL, List.length_cons, wtI_eq]; omega
theorem wtL_mem {l : List Instr} {x : Instr} (h : x ∈ l) : wtI x + 1 ≤ wtL l := by
  induction l with
  | nil => cases h
  | cons y l ih =>
    simp only [wtL]
    rcases List.mem_cons.1 h with rfl | h
    · have := (wtL_pos l).1; omega
    · have := ih h; omega

theorem give_id : ∀ (K : Nat) (l : List Instr), wtL l < K → wtL l < 1000000000 → g_law08_give K l = some l := by
  intro K
  induction K with
  | zero => intro l h; omega
  | succ k ih =>
    intro l h hs
    have hw := wtL_pos l
    simp only [g_law08_give]
    have key : ∀ (q i : Nat), i ≤ l.length → l.length - i < q → lpN q (fun (rec6 : (List Instr) × Int → Option ((List Instr))) v => match v with | (a4, a5) => (if (decide (a5 < (l.length : Int))) = true then gd (0 ≤ a5 ∧ a5 < (l.length : Int)) (((g_law08_give k (((l.getD a5.toNat default)).body)).bind fun x8 => ((g_law08_give k (((l.getD a5.toNat default)).els)).bind fun x10 => gd ((a4.length + 1) * 104 ≤ 140737488355328) (rec6 ((a4 ++ ([(Instr.mk (((l.getD a5.toNat default)).op) (((l.getD a5.toNat default)).n) (((l.getD a5.toNat default)).align) (((l.getD a5.toNat default)).offset) (((l.getD a5.toNat default)).result) x8 x10 (((l.getD a5.toNat default)).labels))] : List Instr)), (wI (a5 + 1))))))) else some a4)) (l.take i, (i : Int)) = some l := by
      intro q
      induction q with
      | zero => intro i _ h; omega
      | succ q ihq =>
        intro i h1 h2
        have := tlen l i
        simp only [lpN]
        by_cases h : i < l.length
        · have hm := getD_mem l i h
          have hx := wtL_mem hm
          rw [wtI_eq] at hx
          rw [if_pos (dltT h), gd_of (by omega), ih _ (by omega) (by omega), Option.bind_some, ih _ (by omega) (by omega), Option.bind_some, gd_of (by omega), Instr.eta, takeS l i h, wI_nat i (by omega)]
          exact ihq (i + 1) h (by omega)
        · rw [if_neg (dltF h), takeL' l i h1 h]
    have := key k 0 (Nat.zero_le _) (by omega)
    rw [List.take_zero] at this
    exact congrArg (fun o => o.bind (fun j1 => some j1)) this
theorem one_id (K : Nat) (x : Instr) (h : wtI x + 1 < K) (hs : wtI x + 1 < 1000000000) : g_law08_one K x = some x := by
  unfold g_law08_one
  have hw : wtL [x] = wtI x + 1 := by simp [wtL]
  rw [give_id K [x] (by omega) (by omega)]
  rfl

/-- A module small enough to be given back. -/
structure GvOk (K : Nat) (m : Mdl) : Prop where
  K0 : K < 1000000000
  types : m.types.length < K
  typ : ∀ t ∈ m.types, t.params.length < K
  funcs : m.funcs.length < K
  fnc : ∀ f ∈ m.funcs, f.locals.length < K ∧ wtL f.body < K
  tables : m.tables.length < K
  memories : m.memories.length < K
  globals : m.globals.length < K
  glo : ∀ g ∈ m.globals, wtI g.init_ + 1 < K
  exports : m.exports.length < K
  elems : m.elems.length < K
  ele : ∀ e ∈ m.elems, wtI e.offset + 1 < K
  datas : m.datas.length < K
  dat : ∀ d ∈ m.datas, wtI d.offset + 1 < K

theorem gm_l7 {K : Nat} {m : Mdl} (o : GvOk K m) : ∀ k (i : Nat), i ≤ m.types.length → m.types.length - i < k → g_law08_giveModule_l7 k K m (m.types.take i) (i : Int) = some m.types := by
  intro k
  induction k with
  | zero => intro i _ h; omega
  | succ k ih =>
    intro i h1 h2
    have := tlen m.types i; have := o.K0; have := o.types
    simp only [g_law08_giveModule_l7]
    by_cases h : i < m.types.length
    · have hm := o.typ _ (getD_mem m.types i h)
      rw [if_pos (dltT h), gd_of (by omega), kinds_id K _ (by omega) hm, Option.bind_some, gd_of (by omega), gd_of (by omega)]
      rw [show ∀ t : Typ, Typ.mk t.params t.result = t from fun _ => rfl, takeS _ i h, wI_nat i (by omega)]
      exact ih (i + 1) h (by omega)
    · rw [if_neg (dltF h), takeL' _ i h1 h]
theorem gm_l6 {K : Nat} {m : Mdl} (o : GvOk K m) : ∀ k (i : Nat), i ≤ m.funcs.length → m.funcs.length - i < k → g_law08_giveModule_l6 k K m (m.funcs.take i) (i : Int) = some m.funcs := by
  intro k
  induction k with
  | zero => intro i _ h; omega
  | succ k ih =>
    intro i h1 h2
    have := tlen m.funcs i; have := o.K0; have := o.funcs
    simp only [g_law08_giveModule_l6]
    by_cases h : i < m.funcs.length
    · have hm := o.fnc _ (getD_mem m.funcs i h)
      rw [if_pos (dltT h), gd_of (by omega), gd_of (by omega), kinds_id K _ (by omega) hm.1, Option.bind_some, gd_of (by omega), give_id K _ hm.2 (by omega), Option.bind_some, gd_of (by omega)]
      rw [show ∀ t : Fnc, Fnc.mk t.type_ t.locals t.body = t from fun _ => rfl, takeS _ i h, wI_nat i (by omega)]
      exact ih (i + 1) h (by omega)
    · rw [if_neg (dltF h), takeL' _ i h1 h]
theorem gm_l5 {K : Nat} {m : Mdl} (o : GvOk K m) : ∀ k (i : Nat), i ≤ m.tables.length → m.tables.length - i < k → g_law08_giveModule_l5 k m (m.tables.take i) (i : Int) = some m.tables := by
  intro k
  induction k with
  | zero => intro i _ h; omega
  | succ k ih =>
    intro i h1 h2
    have := tlen m.tables i; have := o.K0; have := o.tables
    simp only [g_law08_giveModule_l5]
    by_cases h : i < m.tables.length
    · rw [if_pos (dltT h), gd_of (by omega), gd_of (by omega), takeS _ i h, wI_nat i (by omega)]
      exact ih (i + 1) h (by omega)
    · rw [if_neg (dltF h), takeL' _ i h1 h]
theorem gm_l4 {K : Nat} {m : Mdl} (o : GvOk K m) : ∀ k (i : Nat), i ≤ m.memories.length → m.memories.length - i < k → g_law08_giveModule_l4 k m (m.memories.take i) (i : Int) = some m.memories := by
  intro k
  induction k with
  | zero => intro i _ h; omega
  | succ k ih =>
    intro i h1 h2
    have := tlen m.memories i; have := o.K0; have := o.memories
    simp only [g_law08_giveModule_l4]
    by_cases h : i < m.memories.length
    · rw [if_pos (dltT h), gd_of (by omega), gd_of (by omega), takeS _ i h, wI_nat i (by omega)]
      exact ih (i + 1) h (by omega)
    · rw [if_neg (dltF h), takeL' _ i h1 h]
theorem gm_l3 {K : Nat} {m : Mdl} (o : GvOk K m) : ∀ k (i : Nat), i ≤ m.globals.length → m.globals.length - i < k → g_law08_giveModule_l3 k K m (m.globals.take i) (i : Int) = some m.globals := by
  intro k
  induction k with
  | zero => intro i _ h; omega
  | succ k ih =>
    intro i h1 h2
    have := tlen m.globals i; have := o.K0; have := o.globals
    simp only [g_law08_giveModule_l3]
    by_cases h : i < m.globals.length
    · have hm := o.glo _ (getD_mem m.globals i h)
      rw [if_pos (dltT h), gd_of (by omega), gd_of (by omega), gd_of (by omega), one_id K _ hm (by omega), Option.bind_some, gd_of (by omega)]
      rw [show ∀ t : Glo, Glo.mk t.kind t.mut_ t.init_ = t from fun _ => rfl, takeS _ i h, wI_nat i (by omega)]
      exact ih (i + 1) h (by omega)
    · rw [if_neg (dltF h), takeL' _ i h1 h]
theorem gm_l2 {K : Nat} {m : Mdl} (o : GvOk K m) : ∀ k (i : Nat), i ≤ m.exports.length → m.exports.length - i < k → g_law08_giveModule_l2 k m (m.exports.take i) (i : Int) = some m.exports := by
  intro k
  induction k with
  | zero => intro i _ h; omega
  | succ k ih =>
    intro i h1 h2
    have := tlen m.exports i; have := o.K0; have := o.exports
    simp only [g_law08_giveModule_l2]
    by_cases h : i < m.exports.length
    · rw [if_pos (dltT h), gd_of (by omega), gd_of (by omega), takeS _ i h, wI_nat i (by omega)]
      exact ih (i + 1) h (by omega)
    · rw [if_neg (dltF h), takeL' _ i h1 h]
theorem gm_l1 {K : Nat} {m : Mdl} (o : GvOk K m) : ∀ k (i : Nat), i ≤ m.elems.length → m.elems.length - i < k → g_law08_giveModule_l1 k K m (m.elems.take i) (i : Int) = some m.elems := by
  intro k
  induction k with
  | zero => intro i _ h; omega
  | succ k ih =>
    intro i h1 h2
    have := tlen m.elems i; have := o.K0; have := o.elems
    simp only [g_law08_giveModule_l1]
    by_cases h : i < m.elems.length
    · have hm := o.ele _ (getD_mem m.elems i h)
      rw [if_pos (dltT h), gd_of (by omega), gd_of (by omega), one_id K _ hm (by omega), Option.bind_some, gd_of (by omega), gd_of (by omega)]
      rw [show ∀ t : Ele, Ele.mk t.table t.offset t.funcs = t from fun _ => rfl, takeS _ i h, wI_nat i (by omega)]
      exact ih (i + 1) h (by omega)
    · rw [if_neg (dltF h), takeL' _ i h1 h]
theorem gm_l0 {K : Nat} {m : Mdl} (o : GvOk K m) : ∀ k (i : Nat), i ≤ m.datas.length → m.datas.length - i < k → g_law08_giveModule_l0 k K m (m.datas.take i) (i : Int) = some m.datas := by
  intro k
  induction k with
  | zero => intro i _ h; omega
  | succ k ih =>
    intro i h1 h2
    have := tlen m.datas i; have := o.K0; have := o.datas
    simp only [g_law08_giveModule_l0]
    by_cases h : i < m.datas.length
    · have hm := o.dat _ (getD_mem m.datas i h)
      rw [if_pos (dltT h), gd_of (by omega), gd_of (by omega), one_id K _ hm (by omega), Option.bind_some, gd_of (by omega), gd_of (by omega)]
      rw [show ∀ t : Dat, Dat.mk t.memory t.offset t.bytes = t from fun _ => rfl, takeS _ i h, wI_nat i (by omega)]
      exact ih (i + 1) h (by omega)
    · rw [if_neg (dltF h), takeL' _ i h1 h]
theorem giveModule_id {K : Nat} {m : Mdl} (o : GvOk K m) : g_law08_giveModule K m = some m := by
  unfold g_law08_giveModule
  have h7 := gm_l7 o K 0 (Nat.zero_le _) (by have := o.types; omega)
  have h6 := gm_l6 o K 0 (Nat.zero_le _) (by have := o.funcs; omega)
  have h5 := gm_l5 o K 0 (Nat.zero_le _) (by have := o.tables; omega)
  have h4 := gm_l4 o K 0 (Nat.zero_le _) (by have := o.memories; omega)
  have h3 := gm_l3 o K 0 (Nat.zero_le _) (by have := o.globals; omega)
  have h2 := gm_l2 o K 0 (Nat.zero_le _) (by have := o.exports; omega)
  have h1 := gm_l1 o K 0 (Nat.zero_le _) (by have := o.elems; omega)
  have h0 := gm_l0 o K 0 (Nat.zero_le _) (by have := o.datas; omega)
  simp only [List.take_zero] at h0 h1 h2 h3 h4 h5 h6 h7
  simp only [show (0 : Int) = ((0 : Nat) : Int) from rfl]
  rw [h7, Option.bind_some, h6, Option.bind_some, h5, Option.bind_some, h4, Option.bind_some, h3, Option.bind_some, h2, Option.bind_some, h1, Option.bind_some, h0]
  rfl
end Go.Proofs.YtablleokoifolaaGreatDoor

/- Plain facts: going over instructions as a fold. -/
set_option linter.unusedVariables false
set_option linter.unusedSimpArgs false
set_option maxRecDepth 100000
namespace Go.Proofs.YtablleokoifolaaGreatDoor
open Go

/-- One instruction of a list. -/
def stepC (k : Nat) (c : Checker) (x : Instr) : Option Checker :=
  if c.bad = true then some c else if decide (x.op < (26 : Int)) = true then g_valid_checker_control k c x else g_valid_checker_simple c x

theorem fold_bad (k : Nat) (l : List Instr) {c : Checker} (h : c.bad = true) : l.foldlM (stepC k) c = some c := by
  induction l with
  | nil => rfl
  | cons x l ih =>
    rw [List.foldlM_cons]
    have : stepC k c x = some c := by unfold stepC; rw [if_pos h]
    rw [this]; exact ih

theorem dropS {α : Type} [Inhabited α] (l : List α) (i : Nat) (h : i < l.length) : l.drop i = l.getD ((i : Int)).toNat default :: l.drop (i + 1) := by
  rw [Int.toNat_natCast, List.drop_eq_getElem_cons h]
  simp [List.getD_eq_getElem?_getD, h]

theorem list_fold (k : Nat) (c : Checker) (l : List Instr) (hk : l.length < k) (hs : l.length < 1000000000) : g_valid_checker_list (k + 1) c l = l.foldlM (stepC k) c := by
  simp only [g_valid_checker_list]
  have key : ∀ (q i : Nat) (c : Checker), i ≤ l.length → l.length - i < q → lpN q (fun (rec5 : Checker × Int → Option (Checker)) v => match v with | (a3, a4) => (if (decide (a4 < (l.length : Int))) = true then gd (0 ≤ a4 ∧ a4 < (l.length : Int)) ((if a3.bad = true then some a3 else (if (decide ((((l.getD a4.toNat default)).op) < (26 : Int))) = true then ((g_valid_checker_control k a3 (l.getD a4.toNat default)).bind fun x7 => rec5 (x7, (wI (a4 + 1)))) else ((g_valid_checker_simple a3 (l.getD a4.toNat default)).bind fun x9 => rec5 (x9, (wI (a4 + 1))))))) else some a3)) (c, (i : Int)) = (l.drop i).foldlM (stepC k) c := by
    intro q
    induction q with
    | zero => intro i c _ h; omega
    | succ q ih =>
      intro i c h1 h2
      simp only [lpN]
      by_cases h : i < l.length
      · rw [if_pos (dltT h), gd_of (by omega), dropS l i h, List.foldlM_cons]
        by_cases hb : c.bad = true
        · rw [if_pos hb]
          have : stepC k c (l.getD ((i : Int)).toNat default) = some c := by unfold stepC; rw [if_pos hb]
          rw [this]
          exact (fold_bad k _ hb).symm
        · rw [if_neg hb]
          unfold stepC
          rw [if_neg hb, wI_nat i (by omega)]
          split
          · cases g_valid_checker_control k c (l.getD ((i : Int)).toNat default) with
            | none => rfl
            | some c' => exact ih (i + 1) c' h (by omega)
          · cases g_valid_checker_simple c (l.getD ((i : Int)).toNat default) with
            | none => rfl
            | some c' => exact ih (i + 1) c' h (by omega)
      · rw [if_neg (dltF h), List.drop_of_length_le (by omega)]
        rfl
  exact key k 0 c (Nat.zero_le _) (by omega)

/-- The checker behind an unreachable, with so many kinds of I32 on its stack. -/
def cD (m : Mdl) (t : Typ) (ls : List Int) (n : Nat) : Checker := Checker.mk m t ls (List.replicate n 127) [Frame.mk 0 true false] [t.result] 0 false
def iC : Instr := Instr.mk 65 1 0 0 0 [] [] []
def iD : Instr := Instr.mk 26 0 0 0 0 [] [] []
def iU : Instr := Instr.mk 0 0 0 0 0 [] [] []

theorem sign65 : g_ops_Sign 65 = some (Typ.mk [] 127, none) := by kernel_rfl
theorem bytes65 : g_ops_Bytes 65 = some (0, false, some 1) := by kernel_rfl
theorem form65 : g_ops_Form 65 = some (1, none) := by kernel_rfl
theorem w1 : wI (((1 : Nat) : Int) - 1) = 0 := by decide
theorem w1' : wI (IntKind.wrap .i32 1) = 1 := by decide

theorem ite_ff {α : Type} {c : Bool} {a b : α} (h : c = false) : (if c = true then a else b) = b := by rw [h]; rfl
theorem ite_tt {α : Type} {c : Bool} {a b : α} (h : c = true) : (if c = true then a else b) = a := by rw [h]; rfl
theorem okT_cD (m : Mdl) (t : Typ) (ls : List Int) (n : Nat) (h : n < 1000) : okT (cD m t ls n) := by
  refine ⟨Nat.le_refl 1, (by decide : 1 < 4611686018427387904), ?_, ?_, ?_⟩
  · simp only [cD, List.length_replicate]; omega
  · exact Int.le_refl 0
  · simp only [cD, List.length_replicate]; exact Int.natCast_nonneg n

theorem step_iC (k : Nat) (m : Mdl) (t : Typ) (ls : List Int) (n : Nat) (h : n < 1000) : stepC k (cD m t ls n) iC = some (cD m t ls (n + 1)) := by
  unfold stepC
  rw [ite_ff (c := (cD m t ls n).bad) rfl, if_neg (by decide)]
  have hp : g_valid_checker_plain (cD m t ls n) iC = some (cD m t ls (n + 1)) := by
    unfold g_valid_checker_plain
    rw [show iC.op = 65 from rfl, sign65, Option.bind_some, if_neg (by decide), bytes65, Option.bind_some, if_neg (by decide), Option.bind_some, form65, Option.bind_some, ite_ff]
    rotate_left
    · kernel_rfl
    rw [Option.bind_some]
    unfold g_valid_checker_call g_valid_checker_takes
    rw [gd_of ⟨okT_cD m t ls n h, by decide⟩, Option.bind_some]
    unfold g_valid_checker_lay
    rw [if_neg (by decide), gd_of (by simp [cD]; omega)]
    show (gd (0 ≤ wI (((1 : Nat) : Int) - 1) ∧ wI (((1 : Nat) : Int) - 1) < ((1 : Nat) : Int)) _).bind _ = _
    rw [gd_of (by rw [w1]; decide)]
    show some (Checker.mk _ _ _ (List.replicate n 127 ++ [127]) _ _ _ _) = _
    rw [← List.replicate_succ']
    rfl
  unfold g_valid_checker_simple
  rw [if_neg (by decide), if_neg (by decide), if_neg (by decide), if_neg (by decide), if_neg (by decide), if_neg (by decide), if_neg (by decide), hp]
  rfl

theorem take_cD0 (m : Mdl) (t : Typ) (ls : List Int) (x : Int) : g_valid_checker_take (cD m t ls 0) x = some (x, cD m t ls 0) := by
  unfold g_valid_checker_take
  show gd (0 ≤ wI (((1 : Nat) : Int) - 1) ∧ wI (((1 : Nat) : Int) - 1) < ((1 : Nat) : Int)) _ = _
  rw [gd_of (by rw [w1]; decide)]
  split
  · rfl
  · rw [ite_tt]
    rotate_left
    · kernel_rfl
    rfl

theorem take_cDs (m : Mdl) (t : Typ) (ls : List Int) (n : Nat) (h : n < 1000) (x : Int) (hx : ¬ (x == 0) = true) :
    g_valid_checker_take (cD m t ls (n + 1)) x = some (127, Checker.mk m t ls (List.replicate n 127) [Frame.mk 0 true false] [t.result] 0 ((127 != x) && (x != 1))) := by
  unfold g_valid_checker_take
  show gd (0 ≤ wI (((1 : Nat) : Int) - 1) ∧ wI (((1 : Nat) : Int) - 1) < ((1 : Nat) : Int)) _ = _
  rw [gd_of (by rw [w1]; decide), if_neg hx]
  have hl : ((cD m t ls (n + 1)).stack.length : Int) = ((n + 1 : Nat) : Int) := by simp [cD]
  have hw : wI (((n + 1 : Nat) : Int) - 1) = (n : Int) := by rw [wI_small (by omega) (by omega)]; omega
  have hf : ((cD m t ls (n + 1)).frames.getD (wI (((cD m t ls (n + 1)).frames.length : Int) - 1)).toNat default).height = 0 := by
    show (([Frame.mk 0 true false] : List Frame).getD (wI (((1 : Nat) : Int) - 1)).toNat default).height = 0
    rw [w1]; rfl
  have hg : (cD m t ls (n + 1)).stack.getD ((n : Int)).toNat default = 127 := by simp [cD, List.getD_eq_getElem?_getD]
  have ht : List.take ((n : Int)).toNat (cD m t ls (n + 1)).stack = List.replicate n 127 := by simp [cD, List.take_replicate]
  rw [hl, hw, hf, if_neg (by simp; omega), gd_of (by omega), gd_of (by omega), hg, ht]
  by_cases hb : ((127 != x) && (x != 1)) = true
  · rw [if_pos (by simpa using hb), Option.bind_some, if_neg (by decide), hb]
    rfl
  · rw [if_neg (by simpa using hb), Option.bind_some, if_neg (by decide)]
    have : ((127 != x) && (x != 1)) = false := by simpa using hb
    rw [this]
    rfl

theorem step_iD (k : Nat) (m : Mdl) (t : Typ) (ls : List Int) (n : Nat) (h : n < 1000) : stepC k (cD m t ls n) iD = some (cD m t ls (n - 1)) := by
  unfold stepC
  rw [ite_ff (c := (cD m t ls n).bad) rfl, if_neg (by decide)]
  unfold g_valid_checker_simple
  rw [if_pos (by decide)]
  cases n with
  | zero => rw [take_cD0]; rfl
  | succ n => rw [take_cDs m t ls n (by omega) 1 (by decide)]; rfl

theorem step_iU (k : Nat) (m : Mdl) (t : Typ) (ls : List Int) : stepC (k + 1) (Checker.mk m t ls [] [Frame.mk 0 false false] [t.result] 0 false) iU = some (cD m t ls 0) := by
  unfold stepC
  rw [ite_ff (c := (Checker.mk m t ls [] [Frame.mk 0 false false] [t.result] 0 false).bad) rfl, if_pos (by decide)]
  simp only [g_valid_checker_control]
  rw [if_pos (by decide)]
  unfold g_valid_checker_leave
  show (gd (0 ≤ wI (((1 : Nat) : Int) - 1) ∧ wI (((1 : Nat) : Int) - 1) < ((1 : Nat) : Int)) _).bind _ = _
  rw [gd_of (by rw [w1]; decide)]
  show (gd (0 ≤ (0 : Int) ∧ 0 ≤ (([Frame.mk 0 false false] : List Frame).getD (wI (((1 : Nat) : Int) - 1)).toNat default).height ∧ (([Frame.mk 0 false false] : List Frame).getD (wI (((1 : Nat) : Int) - 1)).toNat default).height ≤ ((0 : Nat) : Int)) _).bind _ = _
  rw [gd_of (by rw [w1]; decide)]
  rfl
end Go.Proofs.YtablleokoifolaaGreatDoor

/- The law ValidDead of the plain functions. -/
set_option linter.unusedVariables false
set_option linter.unusedSimpArgs false
set_option maxRecDepth 100000
namespace Go.Proofs.YtablleokoifolaaGreatDoor
open Go

theorem wtL_snoc (l : List Instr) (x : Instr) : wtL (l ++ [x]) = wtL l + wtI x := by
  induction l with
  | nil => simp only [List.nil_append, wtL]; omega
  | cons y l ih => simp only [List.cons_append, wtL, ih]; omega

def c0 (m : Mdl) (t : Typ) (ls : List Int) : Checker := Checker.mk m t ls [] [Frame.mk 0 false false] [t.result] 0 false

/-- What holds between two rounds of ValidDead's loop. -/
structure DI (acc : List Instr) (n i : Nat) : Prop where
  len : acc.length = i + 1
  le : n ≤ i
  wt : wtL acc = 1 + 5 * (i + 1)
  run : ∀ m t ls, acc.foldlM (stepC 999) (c0 m t ls) = some (cD m t ls n)

theorem DI.snoc {acc : List Instr} {n i n' : Nat} {x : Instr} (d : DI acc n i) (hi : i < 60) (hx : wtI x = 5) (hn : n' ≤ i + 1) (hs : ∀ m t ls, stepC 999 (cD m t ls n) x = some (cD m t ls n')) : DI (acc ++ [x]) n' (i + 1) := by
  refine ⟨by simp [d.len], hn, by rw [wtL_snoc, d.wt, hx]; omega, fun m t ls => ?_⟩
  rw [List.foldlM_append, d.run]
  show ([x].foldlM (stepC 999) (cD m t ls n)) = _
  rw [List.foldlM_cons, hs]
  rfl

theorem mx0 (n : Nat) (h : n < 1000) : mxI 0 (wI ((n : Int) - 1)) = ((n - 1 : Nat) : Int) := by
  rw [wI_small (by omega) (by omega)]
  unfold mxI
  cases n with
  | zero => rfl
  | succ n => split <;> omega

theorem dead_l0 (l : List Bool) : ∀ (k i n : Nat) (acc : List Instr), DI acc n i → i ≤ 60 → 60 - i < k → ∃ acc' n' i', DI acc' n' i' ∧ i' ≤ 60 ∧ g_law08_ValidDead_l0 k l acc (n : Int) (i : Int) = some ((n' : Int), acc') := by
  intro k
  induction k with
  | zero => intro i n acc _ _ h; omega
  | succ k ih =>
    intro i n acc d hi hk
    have := d.len; have := d.le
    simp only [g_law08_ValidDead_l0]
    by_cases h : i < l.length ∧ i < 60
    · rw [if_pos (by simp only [Bool.and_eq_true, decide_eq_true_eq]; omega), gd_of (by omega)]
      by_cases hb : l.getD ((i : Int)).toNat default = true
      · rw [if_pos hb, gd_of (by omega), Option.bind_some, wI_nat n (by omega), wI_nat i (by omega)]
        exact ih (i + 1) (n + 1) _ (d.snoc (x := iC) h.2 rfl (by omega) fun m t ls => step_iC 999 m t ls n (by omega)) (by omega) (by omega)
      · rw [if_neg hb, gd_of (by omega), Option.bind_some, mx0 n (by omega), wI_nat i (by omega)]
        exact ih (i + 1) (n - 1) _ (d.snoc (x := iD) h.2 rfl (by omega) fun m t ls => step_iD 999 m t ls n (by omega)) (by omega) (by omega)
    · rw [if_neg (by simp only [Bool.and_eq_true, decide_eq_true_eq]; omega)]
      exact ⟨acc, n, i, d, hi, rfl⟩

/-- The scene as a module. -/
def scM (ps : List Int) (r : Int) (b : List Instr) : Mdl := (g_law08_scene ps r b).getD default
theorem scM_eq (ps : List Int) (r : Int) (b : List Instr) : g_law08_scene ps r b = some (scM ps r b) := rfl
theorem scM_gv (ps : List Int) (r : Int) (b : List Instr) (hp : ps.length < 1000) (hb : wtL b < 1000) : GvOk 1000 (scM ps r b) := by
  refine ⟨by decide, (by decide : 3 < 1000), ?_, (by decide : 3 < 1000), ?_, (by decide : 1 < 1000), (by decide : 1 < 1000), (by decide : 2 < 1000), ?_, (by decide : 0 < 1000), (by decide : 0 < 1000), fun e h => (by cases h), (by decide : 0 < 1000), fun e h => (by cases h)⟩
  · intro t ht
    rcases List.mem_cons.1 ht with rfl | ht
    · exact hp
    rcases List.mem_cons.1 ht with rfl | ht
    · exact (by decide : 1 < 1000)
    rcases List.mem_cons.1 ht with rfl | ht
    · exact (by decide : 0 < 1000)
    cases ht
  · intro t ht
    rcases List.mem_cons.1 ht with rfl | ht
    · exact ⟨(by decide : 2 < 1000), hb⟩
    rcases List.mem_cons.1 ht with rfl | ht
    · exact ⟨(by decide : 0 < 1000), by decide⟩
    rcases List.mem_cons.1 ht with rfl | ht
    · exact ⟨(by decide : 0 < 1000), by decide⟩
    cases ht
  · intro t ht
    rcases List.mem_cons.1 ht with rfl | ht
    · decide
    rcases List.mem_cons.1 ht with rfl | ht
    · decide
    cases ht

theorem kinds_scM {r : Int} (h : r = 0 ∨ r = 126 ∨ r = 127) (b : List Instr) : g_valid_kinds 1000 (scM [] r b) = some true := by
  rcases h with rfl | rfl | rfl <;> kernel_rfl
theorem concat_scM : g_slices_Concat_api_Kind_api_Kind 1000 [[], [127, 126]] = some [127, 126] := by kernel_rfl

/-- What checking says of a state at a body's end. -/
def endC (c : Checker) (r : Int) : Option (Option Checker × Option Int) :=
  (g_valid_checker_take c r).bind fun x => if (x.2.bad || decide ((x.2.stack.length : Int) > (0 : Int))) = true then some (none, some 7) else some (some x.2, none)

theorem check_scM {r : Int} (h : r = 0 ∨ r = 126 ∨ r = 127) (b : List Instr) : g_valid_check 1000 (scM [] r b) 0 = (g_valid_checker_list 1000 (c0 (scM [] r b) (Typ.mk [] r) [127, 126]) b).bind fun c => endC c r := by
  unfold g_valid_check
  have e1 : ((scM [] r b).funcs.length : Int) = 3 := rfl
  have e2 : ((scM [] r b).types.length : Int) = 3 := rfl
  have e3 : (scM [] r b).funcs.getD (0 : Int).toNat default = Fnc.mk 0 [127, 126] b := rfl
  have e4 : (scM [] r b).types.getD (Fnc.mk 0 [127, 126] b).type_.toNat default = Typ.mk [] r := rfl
  rw [e1, e2, e3, e4]
  show ((if decide ((0 : Int) < 0) = true then some true else if decide ((0 : Int) ≥ 3) = true then some true else gd (0 ≤ (0 : Int) ∧ (0 : Int) < 3) (if decide ((0 : Int) ≥ IntKind.wrap .u32 3) = true then some true else (g_valid_kinds 1000 (scM [] r b)).bind fun x2 => some (!x2))).bind fun j4 => if j4 = true then some (none, some 1) else gd (0 ≤ (0 : Int) ∧ (0 : Int) < 3) (gd (0 ≤ (0 : Int) ∧ (0 : Int) < 3) (gd (0 ≤ (0 : Int) ∧ (0 : Int) < 3)
    ((g_slices_Concat_api_Kind_api_Kind 1000 [[], [127, 126]]).bind fun x8 => gd (0 ≤ (0 : Int) ∧ (0 : Int) < 3) ((g_valid_checker_list 1000 (Checker.mk (scM [] r b) (Typ.mk [] r) x8 [] [Frame.mk 0 false false] [r] 0 false) b).bind fun c => endC c r)))) : Option (Option Checker × Option Int)) = _
  rw [if_neg (by decide), if_neg (by decide), gd_of (by decide), if_neg (by decide), kinds_scM h b, Option.bind_some, Option.bind_some, if_neg (by decide), gd_of (by decide), gd_of (by decide), gd_of (by decide), concat_scM, Option.bind_some, gd_of (by decide)]
  rfl

theorem end_dead (m : Mdl) (r : Int) (hr : r = 126 ∨ r = 127) (n : Nat) (hn : n < 1000) : ∃ c e, endC (cD m (Typ.mk [] r) [127, 126] n) r = some (c, e) ∧ (e.isNone = true ↔ n = 0 ∨ (n = 1 ∧ r = 127)) := by
  unfold endC
  cases n with
  | zero =>
    rw [take_cD0, Option.bind_some, if_neg (by simp [cD])]
    exact ⟨_, _, rfl, by simp⟩
  | succ n =>
    rw [take_cDs _ _ _ _ (by omega) _ (by rcases hr with rfl | rfl <;> decide), Option.bind_some]
    rcases hr with rfl | rfl
    · rw [if_pos (by simp)]
      exact ⟨_, _, rfl, by simp⟩
    · cases n with
      | zero =>
        rw [if_neg (by simp)]
        exact ⟨_, _, rfl, by simp⟩
      | succ n =>
        rw [if_pos (by simp)]
        exact ⟨_, _, rfl, by simp⟩

theorem dead_true (l : List Bool) (p1 : Bool) : g_law08_ValidDead 1000 l p1 = some true := by
  unfold g_law08_ValidDead
  obtain ⟨r, hr, hr2, hb⟩ : ∃ r : Int, (r = 126 ∨ r = 127) ∧ (r = 127 ↔ p1 = false) ∧ (if p1 = true then some (126 : Int) else some 127) = some r := by
    cases p1 with
    | true => exact ⟨126, .inl rfl, by decide, rfl⟩
    | false => exact ⟨127, .inr rfl, by decide, rfl⟩
  have d0 : DI [iU] 0 0 := ⟨rfl, Nat.le_refl _, rfl, fun m t ls => by
    rw [List.foldlM_cons]
    have := step_iU 998 m t ls
    unfold c0
    rw [this]; rfl⟩
  obtain ⟨acc, n, i, d, hi, he⟩ := dead_l0 l 1000 0 0 [iU] d0 (by omega) (by omega)
  have h1 := d.len; have h2 := d.le; have h3 := d.wt
  rw [hb, Option.bind_some]
  have he' : g_law08_ValidDead_l0 1000 l ([(Instr.mk 0 0 0 0 0 ([] : List Instr) ([] : List Instr) ([] : List Int))] : List Instr) 0 0 = some ((n : Int), acc) := he
  rw [he', Option.bind_some]
  show ((g_law08_scene ([] : List Int) r acc).bind fun x4 => _ : Option Bool) = _
  rw [scM_eq, Option.bind_some, giveModule_id (scM_gv [] r acc (by decide) (by omega)), Option.bind_some]
  unfold g_valid_Body
  rw [check_scM (by omega), show (1000 : Nat) = 999 + 1 from rfl, list_fold 999 _ acc (by omega) (by omega), d.run, Option.bind_some]
  obtain ⟨c, e, h4, h5⟩ := end_dead (scM [] r acc) r hr n (by omega)
  rw [h4, Option.bind_some, Option.bind_some]
  unfold g_law08_sure
  by_cases hn0 : n = 0
  · subst hn0
    have : e.isNone = true := h5.2 (.inl rfl)
    simp [this]
  · by_cases hn1 : n = 1
    · subst hn1
      cases p1 with
      | true =>
        cases e with
        | none => have := h5.1 rfl; have := hr2.1; simp_all
        | some v => rfl
      | false =>
        have : e.isNone = true := h5.2 (.inr ⟨rfl, hr2.2 rfl⟩)
        simp [this]
    · cases e with
      | none => have := h5.1 rfl; omega
      | some v =>
        have a : ¬ ((n : Int) = 0) := by omega
        have b : ¬ ((n : Int) = 1) := by omega
        simp [a, b, hn0, hn1]
end Go.Proofs.YtablleokoifolaaGreatDoor

