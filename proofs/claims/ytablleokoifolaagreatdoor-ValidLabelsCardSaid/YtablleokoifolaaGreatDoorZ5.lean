/- Part 5 of the proof that ValidLabelsCardSaid: for every input that fits the row the law answers true and its arguments read as before, over the world as the row lays it. -/
import Derived.Test.YtablleokoifolaaGreatDoorZ4
import Derived.RangeFuncKeeps
import Derived.RangeFuncLeaves
import Derived.WalkKit
import Derived.OwnWalkIn
import Derived.TacticsInMore
import Derived.RegionIn
import Derived.LoopNIn
import Derived.LoopIn
import Derived.Maps.RangeWalk
import Derived.RangeFuncIn
import Derived.RangeFuncFrom
import Derived.Shelf.Abstract
import Derived.RangeFuncCalls
/- Small contracts by hand: error numbers, names of instructions, searching. Printed by a program of this claim set (mkh0.py). -/
set_option linter.unusedVariables false
set_option maxRecDepth 100000
namespace Go.Proofs.YtablleokoifolaaGreatDoor
open Go

def nmL : List ByteArray := [(ByteArray.mk #[117, 110, 114, 101, 97, 99, 104, 97, 98, 108, 101]), (ByteArray.mk #[110, 111, 112]), (ByteArray.mk #[98, 108, 111, 99, 107]), (ByteArray.mk #[108, 111, 111, 112]), (ByteArray.mk #[105, 102]), (ByteArray.mk #[]), (ByteArray.mk #[]), (ByteArray.mk #[]), (ByteArray.mk #[]), (ByteArray.mk #[]), (ByteArray.mk #[]), (ByteArray.mk #[]), (ByteArray.mk #[98, 114]), (ByteArray.mk #[98, 114, 95, 105, 102]), (ByteArray.mk #[98, 114, 95, 116, 97, 98, 108, 101]), (ByteArray.mk #[114, 101, 116, 117, 114, 110]), (ByteArray.mk #[99, 97, 108, 108]), (ByteArray.mk #[99, 97, 108, 108, 95, 105, 110, 100, 105, 114, 101, 99, 116]), (ByteArray.mk #[]), (ByteArray.mk #[]), (ByteArray.mk #[]), (ByteArray.mk #[]), (ByteArray.mk #[]), (ByteArray.mk #[]), (ByteArray.mk #[]), (ByteArray.mk #[]), (ByteArray.mk #[100, 114, 111, 112]), (ByteArray.mk #[115, 101, 108, 101, 99, 116]), (ByteArray.mk #[]), (ByteArray.mk #[]), (ByteArray.mk #[]), (ByteArray.mk #[]), (ByteArray.mk #[108, 111, 99, 97, 108, 46, 103, 101, 116]), (ByteArray.mk #[108, 111, 99, 97, 108, 46, 115, 101, 116]), (ByteArray.mk #[108, 111, 99, 97, 108, 46, 116, 101, 101]), (ByteArray.mk #[103, 108, 111, 98, 97, 108, 46, 103, 101, 116]), (ByteArray.mk #[103, 108, 111, 98, 97, 108, 46, 115, 101, 116]), (ByteArray.mk #[]), (ByteArray.mk #[]), (ByteArray.mk #[]), (ByteArray.mk #[105, 51, 50, 46, 108, 111, 97, 100]), (ByteArray.mk #[105, 54, 52, 46, 108, 111, 97, 100]), (ByteArray.mk #[]), (ByteArray.mk #[]), (ByteArray.mk #[105, 51, 50, 46, 108, 111, 97, 100, 56, 95, 115]), (ByteArray.mk #[105, 51, 50, 46, 108, 111, 97, 100, 56, 95, 117]), (ByteArray.mk #[105, 51, 50, 46, 108, 111, 97, 100, 49, 54, 95, 115]), (ByteArray.mk #[105, 51, 50, 46, 108, 111, 97, 100, 49, 54, 95, 117]), (ByteArray.mk #[105, 54, 52, 46, 108, 111, 97, 100, 56, 95, 115]), (ByteArray.mk #[105, 54, 52, 46, 108, 111, 97, 100, 56, 95, 117]), (ByteArray.mk #[105, 54, 52, 46, 108, 111, 97, 100, 49, 54, 95, 115]), (ByteArray.mk #[105, 54, 52, 46, 108, 111, 97, 100, 49, 54, 95, 117]), (ByteArray.mk #[105, 54, 52, 46, 108, 111, 97, 100, 51, 50, 95, 115]), (ByteArray.mk #[105, 54, 52, 46, 108, 111, 97, 100, 51, 50, 95, 117]), (ByteArray.mk #[105, 51, 50, 46, 115, 116, 111, 114, 101]), (ByteArray.mk #[105, 54, 52, 46, 115, 116, 111, 114, 101]), (ByteArray.mk #[]), (ByteArray.mk #[]), (ByteArray.mk #[105, 51, 50, 46, 115, 116, 111, 114, 101, 56]), (ByteArray.mk #[105, 51, 50, 46, 115, 116, 111, 114, 101, 49, 54]), (ByteArray.mk #[105, 54, 52, 46, 115, 116, 111, 114, 101, 56]), (ByteArray.mk #[105, 54, 52, 46, 115, 116, 111, 114, 101, 49, 54]), (ByteArray.mk #[105, 54, 52, 46, 115, 116, 111, 114, 101, 51, 50]), (ByteArray.mk #[109, 101, 109, 111, 114, 121, 46, 115, 105, 122, 101]), (ByteArray.mk #[109, 101, 109, 111, 114, 121, 46, 103, 114, 111, 119]), (ByteArray.mk #[105, 51, 50, 46, 99, 111, 110, 115, 116]), (ByteArray.mk #[105, 54, 52, 46, 99, 111, 110, 115, 116]), (ByteArray.mk #[]), (ByteArray.mk #[]), (ByteArray.mk #[105, 51, 50, 46, 101, 113, 122]), (ByteArray.mk #[105, 51, 50, 46, 101, 113]), (ByteArray.mk #[105, 51, 50, 46, 110, 101]), (ByteArray.mk #[105, 51, 50, 46, 108, 116, 95, 115]), (ByteArray.mk #[105, 51, 50, 46, 108, 116, 95, 117]), (ByteArray.mk #[105, 51, 50, 46, 103, 116, 95, 115]), (ByteArray.mk #[105, 51, 50, 46, 103, 116, 95, 117]), (ByteArray.mk #[105, 51, 50, 46, 108, 101, 95, 115]), (ByteArray.mk #[105, 51, 50, 46, 108, 101, 95, 117]), (ByteArray.mk #[105, 51, 50, 46, 103, 101, 95, 115]), (ByteArray.mk #[105, 51, 50, 46, 103, 101, 95, 117]), (ByteArray.mk #[105, 54, 52, 46, 101, 113, 122]), (ByteArray.mk #[105, 54, 52, 46, 101, 113]), (ByteArray.mk #[105, 54, 52, 46, 110, 101]), (ByteArray.mk #[105, 54, 52, 46, 108, 116, 95, 115]), (ByteArray.mk #[105, 54, 52, 46, 108, 116, 95, 117]), (ByteArray.mk #[105, 54, 52, 46, 103, 116, 95, 115]), (ByteArray.mk #[105, 54, 52, 46, 103, 116, 95, 117]), (ByteArray.mk #[105, 54, 52, 46, 108, 101, 95, 115]), (ByteArray.mk #[105, 54, 52, 46, 108, 101, 95, 117]), (ByteArray.mk #[105, 54, 52, 46, 103, 101, 95, 115]), (ByteArray.mk #[105, 54, 52, 46, 103, 101, 95, 117]), (ByteArray.mk #[]), (ByteArray.mk #[]), (ByteArray.mk #[]), (ByteArray.mk #[]), (ByteArray.mk #[]), (ByteArray.mk #[]), (ByteArray.mk #[]), (ByteArray.mk #[]), (ByteArray.mk #[]), (ByteArray.mk #[]), (ByteArray.mk #[]), (ByteArray.mk #[]), (ByteArray.mk #[105, 51, 50, 46, 99, 108, 122]), (ByteArray.mk #[105, 51, 50, 46, 99, 116, 122]), (ByteArray.mk #[105, 51, 50, 46, 112, 111, 112, 99, 110, 116]), (ByteArray.mk #[105, 51, 50, 46, 97, 100, 100]), (ByteArray.mk #[105, 51, 50, 46, 115, 117, 98]), (ByteArray.mk #[105, 51, 50, 46, 109, 117, 108]), (ByteArray.mk #[105, 51, 50, 46, 100, 105, 118, 95, 115]), (ByteArray.mk #[105, 51, 50, 46, 100, 105, 118, 95, 117]), (ByteArray.mk #[105, 51, 50, 46, 114, 101, 109, 95, 115]), (ByteArray.mk #[105, 51, 50, 46, 114, 101, 109, 95, 117]), (ByteArray.mk #[105, 51, 50, 46, 97, 110, 100]), (ByteArray.mk #[105, 51, 50, 46, 111, 114]), (ByteArray.mk #[105, 51, 50, 46, 120, 111, 114]), (ByteArray.mk #[105, 51, 50, 46, 115, 104, 108]), (ByteArray.mk #[105, 51, 50, 46, 115, 104, 114, 95, 115]), (ByteArray.mk #[105, 51, 50, 46, 115, 104, 114, 95, 117]), (ByteArray.mk #[105, 51, 50, 46, 114, 111, 116, 108]), (ByteArray.mk #[105, 51, 50, 46, 114, 111, 116, 114]), (ByteArray.mk #[105, 54, 52, 46, 99, 108, 122]), (ByteArray.mk #[105, 54, 52, 46, 99, 116, 122]), (ByteArray.mk #[105, 54, 52, 46, 112, 111, 112, 99, 110, 116]), (ByteArray.mk #[105, 54, 52, 46, 97, 100, 100]), (ByteArray.mk #[105, 54, 52, 46, 115, 117, 98]), (ByteArray.mk #[105, 54, 52, 46, 109, 117, 108]), (ByteArray.mk #[105, 54, 52, 46, 100, 105, 118, 95, 115]), (ByteArray.mk #[105, 54, 52, 46, 100, 105, 118, 95, 117]), (ByteArray.mk #[105, 54, 52, 46, 114, 101, 109, 95, 115]), (ByteArray.mk #[105, 54, 52, 46, 114, 101, 109, 95, 117]), (ByteArray.mk #[105, 54, 52, 46, 97, 110, 100]), (ByteArray.mk #[105, 54, 52, 46, 111, 114]), (ByteArray.mk #[105, 54, 52, 46, 120, 111, 114]), (ByteArray.mk #[105, 54, 52, 46, 115, 104, 108]), (ByteArray.mk #[105, 54, 52, 46, 115, 104, 114, 95, 115]), (ByteArray.mk #[105, 54, 52, 46, 115, 104, 114, 95, 117]), (ByteArray.mk #[105, 54, 52, 46, 114, 111, 116, 108]), (ByteArray.mk #[105, 54, 52, 46, 114, 111, 116, 114]), (ByteArray.mk #[]), (ByteArray.mk #[]), (ByteArray.mk #[]), (ByteArray.mk #[]), (ByteArray.mk #[]), (ByteArray.mk #[]), (ByteArray.mk #[]), (ByteArray.mk #[]), (ByteArray.mk #[]), (ByteArray.mk #[]), (ByteArray.mk #[]), (ByteArray.mk #[]), (ByteArray.mk #[]), (ByteArray.mk #[]), (ByteArray.mk #[]), (ByteArray.mk #[]), (ByteArray.mk #[]), (ByteArray.mk #[]), (ByteArray.mk #[]), (ByteArray.mk #[]), (ByteArray.mk #[]), (ByteArray.mk #[]), (ByteArray.mk #[]), (ByteArray.mk #[]), (ByteArray.mk #[]), (ByteArray.mk #[]), (ByteArray.mk #[]), (ByteArray.mk #[]), (ByteArray.mk #[105, 51, 50, 46, 119, 114, 97, 112, 95, 105, 54, 52]), (ByteArray.mk #[]), (ByteArray.mk #[]), (ByteArray.mk #[]), (ByteArray.mk #[]), (ByteArray.mk #[105, 54, 52, 46, 101, 120, 116, 101, 110, 100, 95, 105, 51, 50, 95, 115]), (ByteArray.mk #[105, 54, 52, 46, 101, 120, 116, 101, 110, 100, 95, 105, 51, 50, 95, 117])]
def nmF : List FV := nmL.map .str
def nmV (n : Nat) : ByteArray := nmL.getD n ⟨#[]⟩
theorem c_ops_names : CF E 96 [] (.agg nmF) := run_ok 40 (by kernel_rfl)

def g_ops_Name (p0 : Int) : Option ByteArray := some (if decide (wI p0 ≥ (174 : Int)) = true then ⟨#[]⟩ else nmV p0.toNat)
theorem nm_get {i : Int} (h : 0 ≤ i ∧ i < ((174 : Nat) : Int)) : nmF.getD i.toNat .undef = .str (nmV i.toNat) := by
  have hl : nmL.length = 174 := rfl
  have : i.toNat < nmL.length := by omega
  simp [nmF, nmV, List.getD_eq_getElem?_getD, this]
theorem c_ops_Name0 (p0 : Int) (h0 : 0 ≤ p0 ∧ p0 < 256) (r : ByteArray) (H : g_ops_Name p0 = some r) : CF E 88 [.int .u8 p0] (.str r) := by
  refine cf_of (A := F_ops_Name) fn_ops_Name rfl fun fr => ?_
  obtain rfl := Option.some.inj H
  clear H
  have hw : wI p0 = p0 := by unfold wI; rw [IntKind.wrap_i64]; omega
  refine AW2.seq ?_
  refine AW2.rg [] [0] [] [] ⟨[(0, .d (.int .u8 p0))], []⟩ (And.intro True.intro True.intro) (by kernel_rfl) ?_
  refine AW2.seq ?_
  refine AW2.seq ?_
  refine AW2.rg [.r (.agg nmF)] [0, 7] [] [] ⟨[(0, .d (.int .u8 p0)), (7, .d (.bool (decide (wI p0 ≥ (174 : Int)))))], []⟩ (And.intro (And.intro c_ops_names True.intro) True.intro) (by kernel_rfl) ?_
  refine AW2.cond (b := decide (wI p0 ≥ (174 : Int))) rfl (fun hc => ?_) (fun hc => ?_)
  · rw [if_pos hc]
    refine AW2.seq ?_
    refine AW2.rg [] [2] [] [] ⟨[(2, .d (.str ⟨#[]⟩))], []⟩ (And.intro True.intro True.intro) (by kernel_rfl) ?_
    refine AW2.ret ?_
    exact retP_mk2 True.intro (by kernel_rfl)
  · rw [if_neg (by simp [hc])]
    have hb : 0 ≤ p0 ∧ p0 < ((174 : Nat) : Int) := by
      have := of_decide_eq_false hc
      rw [hw] at this; omega
    refine AW2.skip ?_
    refine AW2.seq ?_
    refine AW2.rg [.r (.agg nmF), .r (.str (nmV p0.toNat))] [2] [] [] ⟨[(2, .d (.str (nmV p0.toNat)))], []⟩ (And.intro (And.intro c_ops_names (And.intro hb (And.intro (nm_get hb) True.intro))) True.intro) (by kernel_rfl) ?_
    refine AW2.ret ?_
    exact retP_mk2 True.intro (by kernel_rfl)
/-- The name of an instruction. -/
def g_ops_NameB (p0 : Int) : Option ByteArray := gd (0 ≤ p0 ∧ p0 < 256) (g_ops_Name p0)
theorem c_ops_NameB (p0 : Int) (r : ByteArray) (H : g_ops_NameB p0 = some r) : CF E 88 [.int .u8 p0] (.str r) := by
  obtain ⟨h, H⟩ := gd_some H
  exact c_ops_Name0 p0 h r H

def g_stringslite_Index (s t : ByteArray) : Option Int := gd (s.size < 4294967281) (some (Lib.index s.data.toList t.data.toList))
theorem c_stringslite_Index (s t : ByteArray) (r : Int) (H : g_stringslite_Index s t = some r) : CF E 106 [.str s, .str t] (.int .i64 r) := by
  obtain ⟨h, H⟩ := gd_some H
  obtain rfl := Option.some.inj H
  exact c_index s t h

def g_law08_num (p0 : Option Int) : Option Int := some (p0.getD 0)
theorem c_law08_num (p0 : Option Int) (r : Int) (H : g_law08_num p0 = some r) : CF E 9 [.err 45 p0] (.int .i64 r) := by
  obtain rfl := Option.some.inj H
  cases p0 with
  | none => exact c_num_nil
  | some n => exact c_num n
def g_law08_sure : Option Bool := some true
theorem c_law08_sure (r : Bool) (H : g_law08_sure = some r) : CF E 2 [] (.bool r) := by
  obtain rfl := Option.some.inj H
  exact c_sure
end Go.Proofs.YtablleokoifolaaGreatDoor

/- slices.Grow of nil as a contract with memory. -/
set_option linter.unusedVariables false
set_option maxRecDepth 100000
namespace Go.Proofs.YtablleokoifolaaGreatDoor
open Go

theorem wI_small {x : Int} (h : -4611686018427387904 ≤ x) (h' : x < 4611686018427387904) : wI x = x := by
  unfold wI; rw [IntKind.wrap_i64]; omega
theorem grow_n {n : Int} (h : 0 ≤ n ∧ n ≤ 140737488355328) : wI (n - wI ((0 : Int) - ((0 : Nat) : Int))) = n := by
  have : wI ((0 : Int) - ((0 : Nat) : Int)) = 0 := by decide
  rw [this, wI_small (by omega) (by omega)]; omega

theorem c_slices_Grow (n : Int) (h : 0 ≤ n ∧ n ≤ 140737488355328) : CM E 68 [.d .nils, .d (.int .i64 n)] [] [900] [] (fun a b => a = .ls 900 0 0 ∧ b = [(900, .sl false 1 n.toNat (fun _ => [.int .u8 0]))]) := by
  refine cs_of (A := F_slices_Grow_api_Kind_api_Kind) fn_slices_Grow_api_Kind_api_Kind fun fr => ?_
  refine AW2.seq ?_
  refine AW2.rg [] [0, 1] [] [] ⟨[(0, .d .nils), (1, .d (.int .i64 n))], []⟩ (And.intro True.intro True.intro) (by kernel_rfl) ?_
  refine AW2.seq ?_
  refine AW2.seq ?_
  refine AW2.rg [] [0, 1, 6] [] [] ⟨[(0, .d .nils), (1, .d (.int .i64 n)), (6, .d (.bool (decide (n < 0))))], []⟩ (And.intro True.intro True.intro) (by kernel_rfl) ?_
  refine AW2.cond (b := decide (n < 0)) rfl (fun hc => absurd (of_decide_eq_true hc) (by omega)) (fun hc => ?_)
  refine AW2.skip ?_
  refine AW2.seq ?_
  refine AW2.seq ?_
  refine AW2.rg [] [0, 1] [] [] ⟨[(0, .d .nils), (1, .d (.int .i64 (wI (n - wI ((0 : Int) - ((0 : Nat) : Int))))))], []⟩ (And.intro True.intro True.intro) (by kernel_rfl) ?_
  rw [grow_n h]
  refine AW2.seq ?_
  refine AW2.rg [] [0, 1, 16] [] [] ⟨[(0, .d .nils), (1, .d (.int .i64 n)), (16, .d (.bool (decide (n > 0))))], []⟩ (And.intro True.intro True.intro) (by kernel_rfl) ?_
  refine AW2.cond (b := decide (n > 0)) rfl (fun hc => ?_) (fun hc => ?_)
  · have hn := of_decide_eq_true hc
    refine AW2.rg [.s false 0 (fun _ => []), .k 900, .s false 0 (fun _ => [])] [0] [] [.k 900] ⟨[(0, .ls 900 0 0)], [(900, .sl false 1 n.toNat (fun _ => [.int .u8 0]))]⟩ (And.intro (And.intro (⟨rfl, rfl⟩ : (0 : Int) = 0 ∧ (0 : Int) = 0) (And.intro (⟨by omega, by omega⟩ : 0 ≤ n ∧ n.toNat * 1 ≤ 140737488355328) (And.intro (⟨by omega, by omega, by omega⟩ : (0 : Int) ≤ 0 ∧ (0 : Int) ≤ ((0 : Nat) : Int) ∧ ((0 : Nat) : Int) ≤ ((n.toNat : Nat) : Int)) (And.intro (rfl : (0 : Nat) = (((0 : Nat) : Int)).toNat - (0 : Int).toNat) True.intro)))) True.intro) (by kernel_rfl) ?_
    refine AW2.seq ?_
    refine AW2.rg [] [4] [] [.k 900] ⟨[(4, .ls 900 0 0)], [(900, .sl false 1 n.toNat (fun _ => [.int .u8 0]))]⟩ (And.intro True.intro True.intro) (by kernel_rfl) ?_
    refine AW2.ret ?_
    exact retS_mk3 [] [.k 900] True.intro (by kernel_rfl) (by kernel_rfl)
  · have hn : n = 0 := by have := of_decide_eq_false hc; omega
    subst hn
    refine AW2.skip ?_
    refine AW2.cv [.s 0 900 1 (fun _ => [.int .u8 0])] [0] [] [.k 900] ⟨[(0, .ls 900 0 0)], [(900, .sl false 1 0 (fun _ => [.int .u8 0]))]⟩ True.intro (by kernel_rfl) ?_
    refine AW2.seq ?_
    refine AW2.rg [] [4] [] [.k 900] ⟨[(4, .ls 900 0 0)], [(900, .sl false 1 0 (fun _ => [.int .u8 0]))]⟩ (And.intro True.intro True.intro) (by kernel_rfl) ?_
    refine AW2.ret ?_
    exact retS_mk3 [] [.k 900] True.intro (by kernel_rfl) (by kernel_rfl)
theorem c_slices_Grow1 (n : Int) (h : 0 ≤ n ∧ n ≤ 140737488355328) : CM E 68 [.d .nils, .d (.int .i64 n)] [] [900] [] (fun a b => a = .ls 900 0 0 ∧ b = [(900, .sl false 1 0 (fl (eI .u8) ([] : List Int)))]) := by
  intro ρ h0 n0 al hO hinj hlt hr hrows
  refine (c_slices_Grow n h ρ h0 n0 al hO hinj hlt hr hrows).mono ?_
  rintro r h2 n2 ⟨⟨lv, H', ρ2, ⟨e1, e2⟩, q1, q2, q3, q4, q5, q6, q7, q8⟩, q9, q10, q11⟩
  subst e2
  have hs : ∀ k, (lkO [(900, Ob.sl false 1 0 (fl (eI .u8) ([] : List Int)))] k).isSome = true → (lkO [(900, Ob.sl false 1 n.toNat (fun _ => [.int .u8 0]))] k).isSome = true := by
    intro k
    simp only [lkO]
    cases Nat.beq k 900 <;> simp
  refine ⟨⟨lv, _, ρ2, ⟨e1, rfl⟩, q1, rfl, q3, ?_, fun k k' κ a b => q5 k k' κ (hs k a) (hs k' b), fun k κ a => q6 k κ (hs k a), fun k κ a => q7 k κ (hs k a), q8⟩, q9, q10, q11⟩
  intro k o ho
  have hk : k = 900 := by
    simp only [lkO] at ho
    cases e : Nat.beq k 900 with
    | false => rw [e] at ho; cases ho
    | true => exact Nat.eq_of_beq_eq_true e
  subst hk
  obtain rfl : Ob.sl false 1 0 (fl (eI .u8) ([] : List Int)) = o := Option.some.inj ho
  have := q4 900 _ rfl
  rcases this with ⟨κ, es, a1, a2, _, _⟩ | ⟨a1, _⟩
  · exact .inl ⟨κ, es, a1, a2, Nat.zero_le _, fun i hi => absurd hi (Nat.not_lt_zero _)⟩
  · exact .inr ⟨a1, rfl⟩
end Go.Proofs.YtablleokoifolaaGreatDoor

/- Plain functions and their contracts. Written by a program of this claim set (g2.py). -/
set_option linter.unusedVariables false
set_option maxRecDepth 100000
set_option maxHeartbeats 4000000
namespace Go.Proofs.YtablleokoifolaaGreatDoor
open Go

/- mandrel/mandrellaw08.kinds -/
def g_law08_kinds_l0 : Nat → (List Int) → (List Int) → Int → Option ((List Int))
  | 0, _, _, _ => none
  | k+1, p0, a4, a5 => (if (decide (a5 < (p0.length : Int))) = true then gd (0 ≤ a5 ∧ a5 < (p0.length : Int)) (gd ((a4.length + 1) * 1 ≤ 140737488355328) (g_law08_kinds_l0 k p0 (a4 ++ ([(p0.getD a5.toNat default)] : List Int)) (wI (a5 + 1)))) else some a4)

def g_law08_kinds (K : Nat) (p0 : List Int) : Option (List Int) := (g_law08_kinds_l0 K p0 ([] : List Int) 0).bind (fun j1 => some j1)

theorem c_law08_kinds (K : Nat) (p0 : List Int) (r : List Int) (H : g_law08_kinds K p0 = some r) : CF E 17 [sV (eI .u8) p0] (sV (eI .u8) r) := by
  refine cf_of (A := F_law08_kinds) fn_law08_kinds rfl fun fr => ?_
  unfold g_law08_kinds at H
  refine AW2.seq ?_
  refine AW2.rg [] [0] [] [] ⟨[(0, .d (sV (eI .u8) p0))], []⟩ (And.intro True.intro True.intro) (by kernel_rfl) ?_
  refine AW2.seq ?_
  refine AW2.rg [] [0, 3] [] [] ⟨[(0, .d (sV (eI .u8) p0)), (3, .d .nils)], []⟩ (And.intro True.intro True.intro) (by kernel_rfl) ?_
  obtain ⟨j1, H9, H⟩ := bind_some H
  refine AW2.mid ⟨[(3, .ls 17 0 j1.length)], [(17, .sl false 1 j1.length (fl (eI .u8) j1))]⟩ ?_ ?_
  · refine AW2.seq ?_
    refine AW2.rg [] [2] [] [.k 17] ⟨[(2, .ls 17 0 j1.length)], [(17, .sl false 1 j1.length (fl (eI .u8) j1))]⟩ (And.intro True.intro True.intro) (by kernel_rfl) ?_
    refine AW2.ret ?_
    have H := Option.some.inj H
    subst H
    exact retP_mk2 (And.intro (Nat.le_refl j1.length) (And.intro (dfl (eI .u8) (dep_eI .u8) j1) True.intro)) (by kernel_rfl)
  · have H := H9
    refine AW2.seq ?_
    refine AW2.rg [] [0, 3, 4] [] [] ⟨[(0, .d (sV (eI .u8) p0)), (3, .d .nils), (4, .d (.int .i64 0))], []⟩ (And.intro True.intro True.intro) (by kernel_rfl) ?_
    refine AW2.block ?_
    refine AW2.cv [.s 3 17 1 (fl (eI .u8) ([] : List Int))] [0, 3, 4] [] [.k 17] ⟨[(0, .d (sV (eI .u8) p0)), (3, .ls 17 0 ([] : List Int).length), (4, .d (.int .i64 0))], [(17, .sl false 1 ([] : List Int).length (fl (eI .u8) ([] : List Int)))]⟩ True.intro (by kernel_rfl) ?_
    refine AW2.lp (σ := (List Int) × Int) (fun v => ⟨[(0, .d (sV (eI .u8) p0)), (3, .ls 17 0 v.1.length), (4, .d (.int .i64 v.2))], [(17, .sl false 1 v.1.length (fl (eI .u8) v.1))]⟩) (fun k v => g_law08_kinds_l0 k p0 v.1 v.2 = some j1) ?_ K (([] : List Int), 0) H
    rintro k ⟨a4, a5⟩ H
    dsimp only at H
    cases k with
    | zero => cases H
    | succ k =>
    unfold g_law08_kinds_l0 at H
    refine AW2.seq ?_
    refine AW2.seq ?_
    refine AW2.rg [] [0, 3, 4, 8] [] [.k 17] ⟨[(0, .d (sV (eI .u8) p0)), (3, .ls 17 0 a4.length), (4, .d (.int .i64 a5)), (8, .d (.bool (decide (a5 < (p0.length : Int)))))], [(17, .sl false 1 a4.length (fl (eI .u8) a4))]⟩ (And.intro True.intro True.intro) (by kernel_rfl) ?_
    refine AW2.cond (b := (decide (a5 < (p0.length : Int)))) rfl (fun hc => ?_) (fun hc => ?_)
    · replace H := ite_t H hc
      refine AW2.skip ?_
      refine AW2.seq ?_
      refine AW2.block ?_
      obtain ⟨h6, H⟩ := gd_some H
      obtain ⟨h7, H⟩ := gd_some H
      refine AW2.rg [.sb ([(p0.getD a5.toNat default)] : List Int).length (fl (eI .u8) ([(p0.getD a5.toNat default)] : List Int)), .s true (a4 ++ ([(p0.getD a5.toNat default)] : List Int)).length (fl (eI .u8) (a4 ++ ([(p0.getD a5.toNat default)] : List Int)))] [0, 3, 4] [] [.k 17] ⟨[(0, .d (sV (eI .u8) p0)), (3, .ls 17 0 (a4 ++ ([(p0.getD a5.toNat default)] : List Int)).length), (4, .d (.int .i64 a5))], [(17, .sl false 1 (a4 ++ ([(p0.getD a5.toNat default)] : List Int)).length (fl (eI .u8) (a4 ++ ([(p0.getD a5.toNat default)] : List Int))))]⟩ (And.intro (And.intro h6 (And.intro (litF (eI .u8) ([(p0.getD a5.toNat default)] : List Int)) (And.intro (Nat.le_refl a4.length) (And.intro h7 (And.intro (app1 (eI .u8) a4 (p0.getD a5.toNat default) (fl (eI .u8) ([(p0.getD a5.toNat default)] : List Int)) rfl) True.intro))))) True.intro) (by kernel_rfl) ?_
      refine AW2.rg [] [0, 3, 4] [] [.k 17] ⟨[(0, .d (sV (eI .u8) p0)), (3, .ls 17 0 (a4 ++ ([(p0.getD a5.toNat default)] : List Int)).length), (4, .d (.int .i64 (wI (a5 + 1))))], [(17, .sl false 1 (a4 ++ ([(p0.getD a5.toNat default)] : List Int)).length (fl (eI .u8) (a4 ++ ([(p0.getD a5.toNat default)] : List Int))))]⟩ (And.intro True.intro True.intro) (by kernel_rfl) ?_
      exact ⟨k, ((a4 ++ ([(p0.getD a5.toNat default)] : List Int)), (wI (a5 + 1))), Nat.lt_succ_self k, H, wk_mk [0, 3, 4] [] [.k 17] True.intro (by kernel_rfl)⟩
    · replace H := ite_f H hc
      refine AW2.exit ?_
      have H := Option.some.inj H
      subst H
      exact wk_mk [3] [] [.k 17] True.intro (by kernel_rfl)

end Go.Proofs.YtablleokoifolaaGreatDoor

/- Plain functions and their contracts. Written by a program of this claim set (g2.py). -/
set_option linter.unusedVariables false
set_option maxRecDepth 100000
set_option maxHeartbeats 4000000
namespace Go.Proofs.YtablleokoifolaaGreatDoor
open Go

/- mandrel/mandrellaw08.give -/
def g_law08_give : Nat → (List Instr) → Option (List Instr)
  | 0, _ => none
  | k+1, p0 => (lpN k (fun (rec6 : (List Instr) × Int → Option ((List Instr))) v => match v with | (a4, a5) => (if (decide (a5 < (p0.length : Int))) = true then gd (0 ≤ a5 ∧ a5 < (p0.length : Int)) (((g_law08_give k (((p0.getD a5.toNat default)).body)).bind fun x8 => ((g_law08_give k (((p0.getD a5.toNat default)).els)).bind fun x10 => gd ((a4.length + 1) * 104 ≤ 140737488355328) (rec6 ((a4 ++ ([(Instr.mk (((p0.getD a5.toNat default)).op) (((p0.getD a5.toNat default)).n) (((p0.getD a5.toNat default)).align) (((p0.getD a5.toNat default)).offset) (((p0.getD a5.toNat default)).result) x8 x10 (((p0.getD a5.toNat default)).labels))] : List Instr)), (wI (a5 + 1))))))) else some a4)) (([] : List Instr), 0)).bind (fun j1 => some j1)
theorem s_law08_give (k : Nat) (IH_law08_give : ∀ (p0 : List Instr) (r : List Instr), g_law08_give k p0 = some r → CF E 18 [sVI p0] (sVI r)) : ∀ (p0 : List Instr) (r : List Instr), g_law08_give (k + 1) p0 = some r → CF E 18 [sVI p0] (sVI r) := by
  intro p0 r H
  refine cf_of (A := F_law08_give) fn_law08_give rfl fun fr => ?_
  unfold g_law08_give at H
  refine AW2.seq ?_
  refine AW2.rg [] [0] [] [] ⟨[(0, .d (sVI p0))], []⟩ (And.intro True.intro True.intro) (by kernel_rfl) ?_
  refine AW2.seq ?_
  refine AW2.rg [] [0, 3] [] [] ⟨[(0, .d (sVI p0)), (3, .d .nils)], []⟩ (And.intro True.intro True.intro) (by kernel_rfl) ?_
  obtain ⟨j1, H14, H⟩ := bind_some H
  refine AW2.mid ⟨[(3, .ls 37 0 j1.length)], [(37, .sl false 8 j1.length (flI j1))]⟩ ?_ ?_
  · refine AW2.seq ?_
    refine AW2.rg [] [2] [] [.k 37] ⟨[(2, .ls 37 0 j1.length)], [(37, .sl false 8 j1.length (flI j1))]⟩ (And.intro True.intro True.intro) (by kernel_rfl) ?_
    refine AW2.ret ?_
    have H := Option.some.inj H
    subst H
    exact retP_mk2 (And.intro (Nat.le_refl j1.length) (And.intro (dflI j1) True.intro)) (by kernel_rfl)
  · have H := H14
    refine AW2.seq ?_
    refine AW2.rg [] [0, 3, 4] [] [] ⟨[(0, .d (sVI p0)), (3, .d .nils), (4, .d (.int .i64 0))], []⟩ (And.intro True.intro True.intro) (by kernel_rfl) ?_
    refine AW2.block ?_
    refine AW2.cv [.s 3 37 8 (flI ([] : List Instr))] [0, 3, 4] [] [.k 37] ⟨[(0, .d (sVI p0)), (3, .ls 37 0 ([] : List Instr).length), (4, .d (.int .i64 0))], [(37, .sl false 8 ([] : List Instr).length (flI ([] : List Instr)))]⟩ True.intro (by kernel_rfl) ?_
    refine AW2.lpR (σ := (List Instr) × Int) (fun v => ⟨[(0, .d (sVI p0)), (3, .ls 37 0 v.1.length), (4, .d (.int .i64 v.2))], [(37, .sl false 8 v.1.length (flI v.1))]⟩) ?_ (v := (([] : List Instr), 0)) H
    rintro rec6 ⟨a4, a5⟩ H
    dsimp only at H
    refine AW2.seq ?_
    refine AW2.seq ?_
    refine AW2.rg [] [0, 3, 4, 9] [] [.k 37] ⟨[(0, .d (sVI p0)), (3, .ls 37 0 a4.length), (4, .d (.int .i64 a5)), (9, .d (.bool (decide (a5 < (p0.length : Int)))))], [(37, .sl false 8 a4.length (flI a4))]⟩ (And.intro True.intro True.intro) (by kernel_rfl) ?_
    refine AW2.cond (b := (decide (a5 < (p0.length : Int)))) rfl (fun hc => ?_) (fun hc => ?_)
    · replace H := ite_t H hc
      refine AW2.skip ?_
      refine AW2.seq ?_
      refine AW2.block ?_
      refine AW2.seq ?_
      obtain ⟨h7, H⟩ := gd_some H
      refine AW2.rg [.e (eInstr (p0.getD a5.toNat default)), .k 5] [0, 3, 4, 5] [] [.k 5, .k 37] ⟨[(0, .d (sVI p0)), (3, .ls 37 0 a4.length), (4, .d (.int .i64 a5)), (5, .p 5 0)], [(5, .st false (eD (eInstr (p0.getD a5.toNat default)))), (37, .sl false 8 a4.length (flI a4))]⟩ (And.intro (And.intro h7 (And.intro (flI_ix h7) True.intro)) True.intro) (by kernel_rfl) ?_
      obtain ⟨x8, hx9, H⟩ := bind_some H
      obtain ⟨x10, hx11, H⟩ := bind_some H
      obtain ⟨h12, H⟩ := gd_some H
      refine AW2.rg [.r (sVI x8), .r (sVI x10), .sb ([(Instr.mk (((p0.getD a5.toNat default)).op) (((p0.getD a5.toNat default)).n) (((p0.getD a5.toNat default)).align) (((p0.getD a5.toNat default)).offset) (((p0.getD a5.toNat default)).result) x8 x10 (((p0.getD a5.toNat default)).labels))] : List Instr).length (flI ([(Instr.mk (((p0.getD a5.toNat default)).op) (((p0.getD a5.toNat default)).n) (((p0.getD a5.toNat default)).align) (((p0.getD a5.toNat default)).offset) (((p0.getD a5.toNat default)).result) x8 x10 (((p0.getD a5.toNat default)).labels))] : List Instr)), .s true (a4 ++ ([(Instr.mk (((p0.getD a5.toNat default)).op) (((p0.getD a5.toNat default)).n) (((p0.getD a5.toNat default)).align) (((p0.getD a5.toNat default)).offset) (((p0.getD a5.toNat default)).result) x8 x10 (((p0.getD a5.toNat default)).labels))] : List Instr)).length (flI (a4 ++ ([(Instr.mk (((p0.getD a5.toNat default)).op) (((p0.getD a5.toNat default)).n) (((p0.getD a5.toNat default)).align) (((p0.getD a5.toNat default)).offset) (((p0.getD a5.toNat default)).result) x8 x10 (((p0.getD a5.toNat default)).labels))] : List Instr)))] [0, 3, 4] [] [.k 37] ⟨[(0, .d (sVI p0)), (3, .ls 37 0 (a4 ++ ([(Instr.mk (((p0.getD a5.toNat default)).op) (((p0.getD a5.toNat default)).n) (((p0.getD a5.toNat default)).align) (((p0.getD a5.toNat default)).offset) (((p0.getD a5.toNat default)).result) x8 x10 (((p0.getD a5.toNat default)).labels))] : List Instr)).length), (4, .d (.int .i64 a5))], [(37, .sl false 8 (a4 ++ ([(Instr.mk (((p0.getD a5.toNat default)).op) (((p0.getD a5.toNat default)).n) (((p0.getD a5.toNat default)).align) (((p0.getD a5.toNat default)).offset) (((p0.getD a5.toNat default)).result) x8 x10 (((p0.getD a5.toNat default)).labels))] : List Instr)).length (flI (a4 ++ ([(Instr.mk (((p0.getD a5.toNat default)).op) (((p0.getD a5.toNat default)).n) (((p0.getD a5.toNat default)).align) (((p0.getD a5.toNat default)).offset) (((p0.getD a5.toNat default)).result) x8 x10 (((p0.getD a5.toNat default)).labels))] : List Instr))))]⟩ (And.intro (And.intro (IH_law08_give (((p0.getD a5.toNat default)).body) x8 hx9) (And.intro (IH_law08_give (((p0.getD a5.toNat default)).els) x10 hx11) (And.intro (litI ([(Instr.mk (((p0.getD a5.toNat default)).op) (((p0.getD a5.toNat default)).n) (((p0.getD a5.toNat default)).align) (((p0.getD a5.toNat default)).offset) (((p0.getD a5.toNat default)).result) x8 x10 (((p0.getD a5.toNat default)).labels))] : List Instr)) (And.intro (Nat.le_refl a4.length) (And.intro h12 (And.intro (appI a4 (Instr.mk (((p0.getD a5.toNat default)).op) (((p0.getD a5.toNat default)).n) (((p0.getD a5.toNat default)).align) (((p0.getD a5.toNat default)).offset) (((p0.getD a5.toNat default)).result) x8 x10 (((p0.getD a5.toNat default)).labels)) (flI ([(Instr.mk (((p0.getD a5.toNat default)).op) (((p0.getD a5.toNat default)).n) (((p0.getD a5.toNat default)).align) (((p0.getD a5.toNat default)).offset) (((p0.getD a5.toNat default)).result) x8 x10 (((p0.getD a5.toNat default)).labels))] : List Instr)) (flI_eq (l := ([(Instr.mk (((p0.getD a5.toNat default)).op) (((p0.getD a5.toNat default)).n) (((p0.getD a5.toNat default)).align) (((p0.getD a5.toNat default)).offset) (((p0.getD a5.toNat default)).result) x8 x10 (((p0.getD a5.toNat default)).labels))] : List Instr)) Nat.zero_lt_one)) True.intro)))))) True.intro) (by kernel_rfl) ?_
      refine AW2.rg [] [0, 3, 4] [] [.k 37] ⟨[(0, .d (sVI p0)), (3, .ls 37 0 (a4 ++ ([(Instr.mk (((p0.getD a5.toNat default)).op) (((p0.getD a5.toNat default)).n) (((p0.getD a5.toNat default)).align) (((p0.getD a5.toNat default)).offset) (((p0.getD a5.toNat default)).result) x8 x10 (((p0.getD a5.toNat default)).labels))] : List Instr)).length), (4, .d (.int .i64 (wI (a5 + 1))))], [(37, .sl false 8 (a4 ++ ([(Instr.mk (((p0.getD a5.toNat default)).op) (((p0.getD a5.toNat default)).n) (((p0.getD a5.toNat default)).align) (((p0.getD a5.toNat default)).offset) (((p0.getD a5.toNat default)).result) x8 x10 (((p0.getD a5.toNat default)).labels))] : List Instr)).length (flI (a4 ++ ([(Instr.mk (((p0.getD a5.toNat default)).op) (((p0.getD a5.toNat default)).n) (((p0.getD a5.toNat default)).align) (((p0.getD a5.toNat default)).offset) (((p0.getD a5.toNat default)).result) x8 x10 (((p0.getD a5.toNat default)).labels))] : List Instr))))]⟩ (And.intro True.intro True.intro) (by kernel_rfl) ?_
      exact ⟨((a4 ++ ([(Instr.mk (((p0.getD a5.toNat default)).op) (((p0.getD a5.toNat default)).n) (((p0.getD a5.toNat default)).align) (((p0.getD a5.toNat default)).offset) (((p0.getD a5.toNat default)).result) x8 x10 (((p0.getD a5.toNat default)).labels))] : List Instr)), (wI (a5 + 1))), H, wk_mk [0, 3, 4] [] [.k 37] True.intro (by kernel_rfl)⟩
    · replace H := ite_f H hc
      refine AW2.exit ?_
      have H := Option.some.inj H
      subst H
      exact wk_mk [3] [] [.k 37] True.intro (by kernel_rfl)
theorem c_scc_law08_give : ∀ k, (∀ (p0 : List Instr) (r : List Instr), g_law08_give k p0 = some r → CF E 18 [sVI p0] (sVI r)) := by
  intro k
  induction k with
  | zero => exact fun _ _ H => (by cases H)
  | succ k ih =>
    have i0 := ih
    exact s_law08_give k i0
theorem c_law08_give (k : Nat) : ∀ (p0 : List Instr) (r : List Instr), g_law08_give k p0 = some r → CF E 18 [sVI p0] (sVI r) := (c_scc_law08_give k)

/- mandrel/mandrellaw08.one -/
def g_law08_one (K : Nat) (p0 : Instr) : Option (Instr) := ((g_law08_give K ([p0] : List Instr)).bind fun x1 => gd (0 ≤ (0 : Int) ∧ (0 : Int) < (x1.length : Int)) (some (x1.getD (0 : Int).toNat default)))

theorem c_law08_one (K : Nat) (p0 : Instr) (r : Instr) (H : g_law08_one K p0 = some r) : CF E 19 [.agg (eInstr p0)] (.agg (eInstr r)) := by
  refine cf_of (A := F_law08_one) fn_law08_one rfl fun fr => ?_
  unfold g_law08_one at H
  refine AW2.seq ?_
  refine AW2.rg [.k 1, .k 2] [1, 2] [] [.k 1, .k 2] ⟨[(1, .p 1 0), (2, .p 2 0)], [(1, .st false (eD (eInstr p0))), (2, .st false [.d (.int .u8 0), .d (.int .i64 0), .d (.int .u32 0), .d (.int .u32 0), .d (.int .u8 0), .d .nils, .d .nils, .d .nils])]⟩ (And.intro True.intro True.intro) (by kernel_rfl) ?_
  refine AW2.seq ?_
  obtain ⟨x1, hx2, H⟩ := bind_some H
  obtain ⟨h3, H⟩ := gd_some H
  refine AW2.rg [.sb ([p0] : List Instr).length (flI ([p0] : List Instr)), .r (sVI x1), .e (eInstr (x1.getD (0 : Int).toNat default))] [2] [] [.k 2] ⟨[(2, .p 2 0)], [(2, .st false (eD (eInstr (x1.getD (0 : Int).toNat default))))]⟩ (And.intro (And.intro (litI ([p0] : List Instr)) (And.intro (c_law08_give K ([p0] : List Instr) x1 hx2) (And.intro h3 (And.intro (flI_ix h3) True.intro)))) True.intro) (by kernel_rfl) ?_
  refine AW2.ret ?_
  have H := Option.some.inj H
  subst H
  exact retP_mk2 True.intro (by kernel_rfl)

end Go.Proofs.YtablleokoifolaaGreatDoor

/- Plain functions and their contracts. Written by a program of this claim set (g2.py). -/
set_option linter.unusedVariables false
set_option maxRecDepth 100000
set_option maxHeartbeats 4000000
namespace Go.Proofs.YtablleokoifolaaGreatDoor
open Go

/- mandrel/mandrellaw08.giveModule -/
def g_law08_giveModule_l0 : Nat → Nat → Mdl → (List Dat) → Int → Option ((List Dat))
  | 0, _, _, _, _ => none
  | k+1, K, p0, a11, a12 => (if (decide (a12 < (p0.datas.length : Int))) = true then gd (0 ≤ a12 ∧ a12 < (p0.datas.length : Int)) (gd (0 ≤ a12 ∧ a12 < (p0.datas.length : Int)) (((g_law08_one K (((p0.datas.getD a12.toNat default)).offset)).bind fun x15 => gd (0 ≤ a12 ∧ a12 < (p0.datas.length : Int)) (gd ((a11.length + 1) * 136 ≤ 140737488355328) (g_law08_giveModule_l0 k K p0 (a11 ++ ([(Dat.mk (((p0.datas.getD a12.toNat default)).memory) x15 (((p0.datas.getD a12.toNat default)).bytes))] : List Dat)) (wI (a12 + 1))))))) else some a11)

def g_law08_giveModule_l1 : Nat → Nat → Mdl → (List Ele) → Int → Option ((List Ele))
  | 0, _, _, _, _ => none
  | k+1, K, p0, a23, a24 => (if (decide (a24 < (p0.elems.length : Int))) = true then gd (0 ≤ a24 ∧ a24 < (p0.elems.length : Int)) (gd (0 ≤ a24 ∧ a24 < (p0.elems.length : Int)) (((g_law08_one K (((p0.elems.getD a24.toNat default)).offset)).bind fun x27 => gd (0 ≤ a24 ∧ a24 < (p0.elems.length : Int)) (gd ((a23.length + 1) * 136 ≤ 140737488355328) (g_law08_giveModule_l1 k K p0 (a23 ++ ([(Ele.mk (((p0.elems.getD a24.toNat default)).table) x27 (((p0.elems.getD a24.toNat default)).funcs))] : List Ele)) (wI (a24 + 1))))))) else some a23)

def g_law08_giveModule_l2 : Nat → Mdl → (List Xpo) → Int → Option ((List Xpo))
  | 0, _, _, _ => none
  | k+1, p0, a35, a36 => (if (decide (a36 < (p0.exports.length : Int))) = true then gd (0 ≤ a36 ∧ a36 < (p0.exports.length : Int)) (gd ((a35.length + 1) * 24 ≤ 140737488355328) (g_law08_giveModule_l2 k p0 (a35 ++ ([(p0.exports.getD a36.toNat default)] : List Xpo)) (wI (a36 + 1)))) else some a35)

def g_law08_giveModule_l3 : Nat → Nat → Mdl → (List Glo) → Int → Option ((List Glo))
  | 0, _, _, _, _ => none
  | k+1, K, p0, a43, a44 => (if (decide (a44 < (p0.globals.length : Int))) = true then gd (0 ≤ a44 ∧ a44 < (p0.globals.length : Int)) (gd (0 ≤ a44 ∧ a44 < (p0.globals.length : Int)) (gd (0 ≤ a44 ∧ a44 < (p0.globals.length : Int)) (((g_law08_one K (((p0.globals.getD a44.toNat default)).init_)).bind fun x48 => gd ((a43.length + 1) * 112 ≤ 140737488355328) (g_law08_giveModule_l3 k K p0 (a43 ++ ([(Glo.mk (((p0.globals.getD a44.toNat default)).kind) (((p0.globals.getD a44.toNat default)).mut_) x48)] : List Glo)) (wI (a44 + 1))))))) else some a43)

def g_law08_giveModule_l4 : Nat → Mdl → (List Lim) → Int → Option ((List Lim))
  | 0, _, _, _ => none
  | k+1, p0, a55, a56 => (if (decide (a56 < (p0.memories.length : Int))) = true then gd (0 ≤ a56 ∧ a56 < (p0.memories.length : Int)) (gd ((a55.length + 1) * 12 ≤ 140737488355328) (g_law08_giveModule_l4 k p0 (a55 ++ ([(p0.memories.getD a56.toNat default)] : List Lim)) (wI (a56 + 1)))) else some a55)

def g_law08_giveModule_l5 : Nat → Mdl → (List Lim) → Int → Option ((List Lim))
  | 0, _, _, _ => none
  | k+1, p0, a63, a64 => (if (decide (a64 < (p0.tables.length : Int))) = true then gd (0 ≤ a64 ∧ a64 < (p0.tables.length : Int)) (gd ((a63.length + 1) * 12 ≤ 140737488355328) (g_law08_giveModule_l5 k p0 (a63 ++ ([(p0.tables.getD a64.toNat default)] : List Lim)) (wI (a64 + 1)))) else some a63)

def g_law08_giveModule_l6 : Nat → Nat → Mdl → (List Fnc) → Int → Option ((List Fnc))
  | 0, _, _, _, _ => none
  | k+1, K, p0, a71, a72 => (if (decide (a72 < (p0.funcs.length : Int))) = true then gd (0 ≤ a72 ∧ a72 < (p0.funcs.length : Int)) (gd (0 ≤ a72 ∧ a72 < (p0.funcs.length : Int)) (((g_law08_kinds K (((p0.funcs.getD a72.toNat default)).locals)).bind fun x75 => gd (0 ≤ a72 ∧ a72 < (p0.funcs.length : Int)) (((g_law08_give K (((p0.funcs.getD a72.toNat default)).body)).bind fun x78 => gd ((a71.length + 1) * 56 ≤ 140737488355328) (g_law08_giveModule_l6 k K p0 (a71 ++ ([(Fnc.mk (((p0.funcs.getD a72.toNat default)).type_) x75 x78)] : List Fnc)) (wI (a72 + 1)))))))) else some a71)

def g_law08_giveModule_l7 : Nat → Nat → Mdl → (List Typ) → Int → Option ((List Typ))
  | 0, _, _, _, _ => none
  | k+1, K, p0, a85, a86 => (if (decide (a86 < (p0.types.length : Int))) = true then gd (0 ≤ a86 ∧ a86 < (p0.types.length : Int)) (((g_law08_kinds K (((p0.types.getD a86.toNat default)).params)).bind fun x88 => gd (0 ≤ a86 ∧ a86 < (p0.types.length : Int)) (gd ((a85.length + 1) * 32 ≤ 140737488355328) (g_law08_giveModule_l7 k K p0 (a85 ++ ([(Typ.mk x88 (((p0.types.getD a86.toNat default)).result))] : List Typ)) (wI (a86 + 1)))))) else some a85)

def g_law08_giveModule (K : Nat) (p0 : Mdl) : Option (Mdl) := (g_law08_giveModule_l7 K K p0 ([] : List Typ) 0).bind (fun j1 => (g_law08_giveModule_l6 K K p0 ([] : List Fnc) 0).bind (fun j2 => (g_law08_giveModule_l5 K p0 ([] : List Lim) 0).bind (fun j3 => (g_law08_giveModule_l4 K p0 ([] : List Lim) 0).bind (fun j4 => (g_law08_giveModule_l3 K K p0 ([] : List Glo) 0).bind (fun j5 => (g_law08_giveModule_l2 K p0 ([] : List Xpo) 0).bind (fun j6 => (g_law08_giveModule_l1 K K p0 ([] : List Ele) 0).bind (fun j7 => (g_law08_giveModule_l0 K K p0 ([] : List Dat) 0).bind (fun j8 => some (Mdl.mk j1 j2 j3 j4 j5 j6 j7 j8)))))))))

theorem c_law08_giveModule (K : Nat) (p0 : Mdl) (r : Mdl) (H : g_law08_giveModule K p0 = some r) : CF E 3 [.agg (eMdl p0)] (.agg (eMdl r)) := by
  refine cf_of (A := F_law08_giveModule) fn_law08_giveModule rfl fun fr => ?_
  unfold g_law08_giveModule at H
  refine AW2.seq ?_
  refine AW2.rg [.k 1, .k 2] [1, 2] [] [.k 1, .k 2] ⟨[(1, .p 1 0), (2, .p 2 0)], [(1, .st false (eD (eMdl p0))), (2, .st false [.d .nils, .d .nils, .d .nils, .d .nils, .d .nils, .d .nils, .d .nils, .d .nils])]⟩ (And.intro True.intro True.intro) (by kernel_rfl) ?_
  refine AW2.seq ?_
  refine AW2.rg [.k 3] [1, 2, 3] [] [.k 1, .k 2, .k 3] ⟨[(1, .p 1 0), (2, .p 2 0), (3, .p 3 0)], [(1, .st false (eD (eMdl p0))), (2, .st false [.d .nils, .d .nils, .d .nils, .d .nils, .d .nils, .d .nils, .d .nils, .d .nils]), (3, .st false [.d .nils, .d .nils, .d .nils, .d .nils, .d .nils, .d .nils, .d .nils, .d .nils])]⟩ (And.intro True.intro True.intro) (by kernel_rfl) ?_
  obtain ⟨j1, H93, H⟩ := bind_some H
  refine AW2.mid ⟨[(1, .p 1 0), (2, .p 2 0), (3, .p 3 0)], [(1, .st false (eD (eMdl p0))), (2, .st false [.d .nils, .d .nils, .d .nils, .d .nils, .d .nils, .d .nils, .d .nils, .d .nils]), (3, .st false [.ls 36 0 j1.length, .d .nils, .d .nils, .d .nils, .d .nils, .d .nils, .d .nils, .d .nils]), (36, .sl false 2 j1.length (fl eTyp j1))]⟩ ?_ ?_
  · obtain ⟨j2, H82, H⟩ := bind_some H
    refine AW2.mid ⟨[(1, .p 1 0), (2, .p 2 0), (3, .p 3 0)], [(1, .st false (eD (eMdl p0))), (2, .st false [.d .nils, .d .nils, .d .nils, .d .nils, .d .nils, .d .nils, .d .nils, .d .nils]), (3, .st false [.ls 36 0 j1.length, .ls 69 0 j2.length, .d .nils, .d .nils, .d .nils, .d .nils, .d .nils, .d .nils]), (36, .sl false 2 j1.length (fl eTyp j1)), (69, .sl false 3 j2.length (fl eFnc j2))]⟩ ?_ ?_
    · obtain ⟨j3, H68, H⟩ := bind_some H
      refine AW2.mid ⟨[(1, .p 1 0), (2, .p 2 0), (3, .p 3 0)], [(1, .st false (eD (eMdl p0))), (2, .st false [.d .nils, .d .nils, .d .nils, .d .nils, .d .nils, .d .nils, .d .nils, .d .nils]), (3, .st false [.ls 36 0 j1.length, .ls 69 0 j2.length, .ls 86 0 j3.length, .d .nils, .d .nils, .d .nils, .d .nils, .d .nils]), (36, .sl false 2 j1.length (fl eTyp j1)), (69, .sl false 3 j2.length (fl eFnc j2)), (86, .sl false 3 j3.length (fl eLim j3))]⟩ ?_ ?_
      · obtain ⟨j4, H60, H⟩ := bind_some H
        refine AW2.mid ⟨[(1, .p 1 0), (2, .p 2 0), (3, .p 3 0)], [(1, .st false (eD (eMdl p0))), (2, .st false [.d .nils, .d .nils, .d .nils, .d .nils, .d .nils, .d .nils, .d .nils, .d .nils]), (3, .st false [.ls 36 0 j1.length, .ls 69 0 j2.length, .ls 86 0 j3.length, .ls 103 0 j4.length, .d .nils, .d .nils, .d .nils, .d .nils]), (36, .sl false 2 j1.length (fl eTyp j1)), (69, .sl false 3 j2.length (fl eFnc j2)), (86, .sl false 3 j3.length (fl eLim j3)), (103, .sl false 3 j4.length (fl eLim j4))]⟩ ?_ ?_
        · obtain ⟨j5, H52, H⟩ := bind_some H
          refine AW2.mid ⟨[(1, .p 1 0), (2, .p 2 0), (3, .p 3 0)], [(1, .st false (eD (eMdl p0))), (2, .st false [.d .nils, .d .nils, .d .nils, .d .nils, .d .nils, .d .nils, .d .nils, .d .nils]), (3, .st false [.ls 36 0 j1.length, .ls 69 0 j2.length, .ls 86 0 j3.length, .ls 103 0 j4.length, .ls 135 0 j5.length, .d .nils, .d .nils, .d .nils]), (36, .sl false 2 j1.length (fl eTyp j1)), (69, .sl false 3 j2.length (fl eFnc j2)), (86, .sl false 3 j3.length (fl eLim j3)), (103, .sl false 3 j4.length (fl eLim j4)), (135, .sl false 10 j5.length (fl eGlo j5))]⟩ ?_ ?_
          · obtain ⟨j6, H40, H⟩ := bind_some H
            refine AW2.mid ⟨[(1, .p 1 0), (2, .p 2 0), (3, .p 3 0)], [(1, .st false (eD (eMdl p0))), (2, .st false [.d .nils, .d .nils, .d .nils, .d .nils, .d .nils, .d .nils, .d .nils, .d .nils]), (3, .st false [.ls 36 0 j1.length, .ls 69 0 j2.length, .ls 86 0 j3.length, .ls 103 0 j4.length, .ls 135 0 j5.length, .ls 152 0 j6.length, .d .nils, .d .nils]), (36, .sl false 2 j1.length (fl eTyp j1)), (69, .sl false 3 j2.length (fl eFnc j2)), (86, .sl false 3 j3.length (fl eLim j3)), (103, .sl false 3 j4.length (fl eLim j4)), (135, .sl false 10 j5.length (fl eGlo j5)), (152, .sl false 3 j6.length (fl eXpo j6))]⟩ ?_ ?_
            · obtain ⟨j7, H32, H⟩ := bind_some H
              refine AW2.mid ⟨[(1, .p 1 0), (2, .p 2 0), (3, .p 3 0)], [(1, .st false (eD (eMdl p0))), (2, .st false [.d .nils, .d .nils, .d .nils, .d .nils, .d .nils, .d .nils, .d .nils, .d .nils]), (3, .st false [.ls 36 0 j1.length, .ls 69 0 j2.length, .ls 86 0 j3.length, .ls 103 0 j4.length, .ls 135 0 j5.length, .ls 152 0 j6.length, .ls 184 0 j7.length, .d .nils]), (36, .sl false 2 j1.length (fl eTyp j1)), (69, .sl false 3 j2.length (fl eFnc j2)), (86, .sl false 3 j3.length (fl eLim j3)), (103, .sl false 3 j4.length (fl eLim j4)), (135, .sl false 10 j5.length (fl eGlo j5)), (152, .sl false 3 j6.length (fl eXpo j6)), (184, .sl false 10 j7.length (fl eEle j7))]⟩ ?_ ?_
              · obtain ⟨j8, H20, H⟩ := bind_some H
                refine AW2.mid ⟨[(2, .p 2 0), (3, .p 3 0)], [(2, .st false [.d .nils, .d .nils, .d .nils, .d .nils, .d .nils, .d .nils, .d .nils, .d .nils]), (3, .st false [.ls 36 0 j1.length, .ls 69 0 j2.length, .ls 86 0 j3.length, .ls 103 0 j4.length, .ls 135 0 j5.length, .ls 152 0 j6.length, .ls 184 0 j7.length, .ls 216 0 j8.length]), (36, .sl false 2 j1.length (fl eTyp j1)), (69, .sl false 3 j2.length (fl eFnc j2)), (86, .sl false 3 j3.length (fl eLim j3)), (103, .sl false 3 j4.length (fl eLim j4)), (135, .sl false 10 j5.length (fl eGlo j5)), (152, .sl false 3 j6.length (fl eXpo j6)), (184, .sl false 10 j7.length (fl eEle j7)), (216, .sl false 10 j8.length (fl eDat j8))]⟩ ?_ ?_
                · refine AW2.seq ?_
                  refine AW2.rg [] [2] [] [.k 2, .k 36, .k 69, .k 86, .k 103, .k 135, .k 152, .k 184, .k 216] ⟨[(2, .p 2 0)], [(2, .st false [.ls 36 0 j1.length, .ls 69 0 j2.length, .ls 86 0 j3.length, .ls 103 0 j4.length, .ls 135 0 j5.length, .ls 152 0 j6.length, .ls 184 0 j7.length, .ls 216 0 j8.length]), (36, .sl false 2 j1.length (fl eTyp j1)), (69, .sl false 3 j2.length (fl eFnc j2)), (86, .sl false 3 j3.length (fl eLim j3)), (103, .sl false 3 j4.length (fl eLim j4)), (135, .sl false 10 j5.length (fl eGlo j5)), (152, .sl false 3 j6.length (fl eXpo j6)), (184, .sl false 10 j7.length (fl eEle j7)), (216, .sl false 10 j8.length (fl eDat j8))]⟩ (And.intro True.intro True.intro) (by kernel_rfl) ?_
                  refine AW2.ret ?_
                  have H := Option.some.inj H
                  subst H
                  exact retP_mk2 (And.intro (Nat.le_refl j1.length) (And.intro (dfl eTyp dep_eTyp j1) (And.intro (Nat.le_refl j2.length) (And.intro (dfl eFnc dep_eFnc j2) (And.intro (Nat.le_refl j3.length) (And.intro (dfl eLim dep_eLim j3) (And.intro (Nat.le_refl j4.length) (And.intro (dfl eLim dep_eLim j4) (And.intro (Nat.le_refl j5.length) (And.intro (dfl eGlo dep_eGlo j5) (And.intro (Nat.le_refl j6.length) (And.intro (dfl eXpo dep_eXpo j6) (And.intro (Nat.le_refl j7.length) (And.intro (dfl eEle dep_eEle j7) (And.intro (Nat.le_refl j8.length) (And.intro (dfl eDat dep_eDat j8) True.intro)))))))))))))))) (by kernel_rfl)
                · have H := H20
                  refine AW2.seq ?_
                  refine AW2.rg [] [1, 2, 3, 11] [] [.k 1, .k 2, .k 3, .k 36, .k 69, .k 86, .k 103, .k 135, .k 152, .k 184] ⟨[(1, .p 1 0), (2, .p 2 0), (3, .p 3 0), (11, .d (.int .i64 0))], [(1, .st false (eD (eMdl p0))), (2, .st false [.d .nils, .d .nils, .d .nils, .d .nils, .d .nils, .d .nils, .d .nils, .d .nils]), (3, .st false [.ls 36 0 j1.length, .ls 69 0 j2.length, .ls 86 0 j3.length, .ls 103 0 j4.length, .ls 135 0 j5.length, .ls 152 0 j6.length, .ls 184 0 j7.length, .d .nils]), (36, .sl false 2 j1.length (fl eTyp j1)), (69, .sl false 3 j2.length (fl eFnc j2)), (86, .sl false 3 j3.length (fl eLim j3)), (103, .sl false 3 j4.length (fl eLim j4)), (135, .sl false 10 j5.length (fl eGlo j5)), (152, .sl false 3 j6.length (fl eXpo j6)), (184, .sl false 10 j7.length (fl eEle j7))]⟩ (And.intro True.intro True.intro) (by kernel_rfl) ?_
                  refine AW2.block ?_
                  refine AW2.cv [.c 3 7 216 10 (fl eDat ([] : List Dat))] [1, 2, 3, 11] [] [.k 1, .k 2, .k 3, .k 36, .k 69, .k 86, .k 103, .k 135, .k 152, .k 184, .k 216] ⟨[(1, .p 1 0), (2, .p 2 0), (3, .p 3 0), (11, .d (.int .i64 0))], [(1, .st false (eD (eMdl p0))), (2, .st false [.d .nils, .d .nils, .d .nils, .d .nils, .d .nils, .d .nils, .d .nils, .d .nils]), (3, .st false [.ls 36 0 j1.length, .ls 69 0 j2.length, .ls 86 0 j3.length, .ls 103 0 j4.length, .ls 135 0 j5.length, .ls 152 0 j6.length, .ls 184 0 j7.length, .ls 216 0 ([] : List Dat).length]), (36, .sl false 2 j1.length (fl eTyp j1)), (69, .sl false 3 j2.length (fl eFnc j2)), (86, .sl false 3 j3.length (fl eLim j3)), (103, .sl false 3 j4.length (fl eLim j4)), (135, .sl false 10 j5.length (fl eGlo j5)), (152, .sl false 3 j6.length (fl eXpo j6)), (184, .sl false 10 j7.length (fl eEle j7)), (216, .sl false 10 ([] : List Dat).length (fl eDat ([] : List Dat)))]⟩ True.intro (by kernel_rfl) ?_
                  refine AW2.lp (σ := (List Dat) × Int) (fun v => ⟨[(1, .p 1 0), (2, .p 2 0), (3, .p 3 0), (11, .d (.int .i64 v.2))], [(1, .st false (eD (eMdl p0))), (2, .st false [.d .nils, .d .nils, .d .nils, .d .nils, .d .nils, .d .nils, .d .nils, .d .nils]), (3, .st false [.ls 36 0 j1.length, .ls 69 0 j2.length, .ls 86 0 j3.length, .ls 103 0 j4.length, .ls 135 0 j5.length, .ls 152 0 j6.length, .ls 184 0 j7.length, .ls 216 0 v.1.length]), (36, .sl false 2 j1.length (fl eTyp j1)), (69, .sl false 3 j2.length (fl eFnc j2)), (86, .sl false 3 j3.length (fl eLim j3)), (103, .sl false 3 j4.length (fl eLim j4)), (135, .sl false 10 j5.length (fl eGlo j5)), (152, .sl false 3 j6.length (fl eXpo j6)), (184, .sl false 10 j7.length (fl eEle j7)), (216, .sl false 10 v.1.length (fl eDat v.1))]⟩) (fun k v => g_law08_giveModule_l0 k K p0 v.1 v.2 = some j8) ?_ K (([] : List Dat), 0) H
                  rintro k ⟨a11, a12⟩ H
                  dsimp only at H
                  cases k with
                  | zero => cases H
                  | succ k =>
                  unfold g_law08_giveModule_l0 at H
                  refine AW2.seq ?_
                  refine AW2.seq ?_
                  refine AW2.rg [] [1, 2, 3, 11, 190] [] [.k 1, .k 2, .k 3, .k 36, .k 69, .k 86, .k 103, .k 135, .k 152, .k 184, .k 216] ⟨[(1, .p 1 0), (2, .p 2 0), (3, .p 3 0), (11, .d (.int .i64 a12)), (190, .d (.bool (decide (a12 < (p0.datas.length : Int)))))], [(1, .st false (eD (eMdl p0))), (2, .st false [.d .nils, .d .nils, .d .nils, .d .nils, .d .nils, .d .nils, .d .nils, .d .nils]), (3, .st false [.ls 36 0 j1.length, .ls 69 0 j2.length, .ls 86 0 j3.length, .ls 103 0 j4.length, .ls 135 0 j5.length, .ls 152 0 j6.length, .ls 184 0 j7.length, .ls 216 0 a11.length]), (36, .sl false 2 j1.length (fl eTyp j1)), (69, .sl false 3 j2.length (fl eFnc j2)), (86, .sl false 3 j3.length (fl eLim j3)), (103, .sl false 3 j4.length (fl eLim j4)), (135, .sl false 10 j5.length (fl eGlo j5)), (152, .sl false 3 j6.length (fl eXpo j6)), (184, .sl false 10 j7.length (fl eEle j7)), (216, .sl false 10 a11.length (fl eDat a11))]⟩ (And.intro True.intro True.intro) (by kernel_rfl) ?_
                  refine AW2.cond (b := (decide (a12 < (p0.datas.length : Int)))) rfl (fun hc => ?_) (fun hc => ?_)
                  · replace H := ite_t H hc
                    refine AW2.skip ?_
                    refine AW2.seq ?_
                    refine AW2.block ?_
                    obtain ⟨h13, H⟩ := gd_some H
                    obtain ⟨h14, H⟩ := gd_some H
                    obtain ⟨x15, hx16, H⟩ := bind_some H
                    obtain ⟨h17, H⟩ := gd_some H
                    obtain ⟨h18, H⟩ := gd_some H
                    refine AW2.rg [.r (.agg (eInstr x15)), .sb ([(Dat.mk (((p0.datas.getD a12.toNat default)).memory) x15 (((p0.datas.getD a12.toNat default)).bytes))] : List Dat).length (fl eDat ([(Dat.mk (((p0.datas.getD a12.toNat default)).memory) x15 (((p0.datas.getD a12.toNat default)).bytes))] : List Dat)), .s true (a11 ++ ([(Dat.mk (((p0.datas.getD a12.toNat default)).memory) x15 (((p0.datas.getD a12.toNat default)).bytes))] : List Dat)).length (fl eDat (a11 ++ ([(Dat.mk (((p0.datas.getD a12.toNat default)).memory) x15 (((p0.datas.getD a12.toNat default)).bytes))] : List Dat)))] [1, 2, 3, 11] [] [.k 1, .k 2, .k 3, .k 36, .k 69, .k 86, .k 103, .k 135, .k 152, .k 184, .k 216] ⟨[(1, .p 1 0), (2, .p 2 0), (3, .p 3 0), (11, .d (.int .i64 a12))], [(1, .st false (eD (eMdl p0))), (2, .st false [.d .nils, .d .nils, .d .nils, .d .nils, .d .nils, .d .nils, .d .nils, .d .nils]), (3, .st false [.ls 36 0 j1.length, .ls 69 0 j2.length, .ls 86 0 j3.length, .ls 103 0 j4.length, .ls 135 0 j5.length, .ls 152 0 j6.length, .ls 184 0 j7.length, .ls 216 0 (a11 ++ ([(Dat.mk (((p0.datas.getD a12.toNat default)).memory) x15 (((p0.datas.getD a12.toNat default)).bytes))] : List Dat)).length]), (36, .sl false 2 j1.length (fl eTyp j1)), (69, .sl false 3 j2.length (fl eFnc j2)), (86, .sl false 3 j3.length (fl eLim j3)), (103, .sl false 3 j4.length (fl eLim j4)), (135, .sl false 10 j5.length (fl eGlo j5)), (152, .sl false 3 j6.length (fl eXpo j6)), (184, .sl false 10 j7.length (fl eEle j7)), (216, .sl false 10 (a11 ++ ([(Dat.mk (((p0.datas.getD a12.toNat default)).memory) x15 (((p0.datas.getD a12.toNat default)).bytes))] : List Dat)).length (fl eDat (a11 ++ ([(Dat.mk (((p0.datas.getD a12.toNat default)).memory) x15 (((p0.datas.getD a12.toNat default)).bytes))] : List Dat))))]⟩ (And.intro (And.intro h13 (And.intro h14 (And.intro (c_law08_one K (((p0.datas.getD a12.toNat default)).offset) x15 hx16) (And.intro h17 (And.intro (litF eDat ([(Dat.mk (((p0.datas.getD a12.toNat default)).memory) x15 (((p0.datas.getD a12.toNat default)).bytes))] : List Dat)) (And.intro (Nat.le_refl a11.length) (And.intro h18 (And.intro (app1 eDat a11 (Dat.mk (((p0.datas.getD a12.toNat default)).memory) x15 (((p0.datas.getD a12.toNat default)).bytes)) (fl eDat ([(Dat.mk (((p0.datas.getD a12.toNat default)).memory) x15 (((p0.datas.getD a12.toNat default)).bytes))] : List Dat)) rfl) True.intro)))))))) True.intro) (by kernel_rfl) ?_
                    refine AW2.rg [] [1, 2, 3, 11] [] [.k 1, .k 2, .k 3, .k 36, .k 69, .k 86, .k 103, .k 135, .k 152, .k 184, .k 216] ⟨[(1, .p 1 0), (2, .p 2 0), (3, .p 3 0), (11, .d (.int .i64 (wI (a12 + 1))))], [(1, .st false (eD (eMdl p0))), (2, .st false [.d .nils, .d .nils, .d .nils, .d .nils, .d .nils, .d .nils, .d .nils, .d .nils]), (3, .st false [.ls 36 0 j1.length, .ls 69 0 j2.length, .ls 86 0 j3.length, .ls 103 0 j4.length, .ls 135 0 j5.length, .ls 152 0 j6.length, .ls 184 0 j7.length, .ls 216 0 (a11 ++ ([(Dat.mk (((p0.datas.getD a12.toNat default)).memory) x15 (((p0.datas.getD a12.toNat default)).bytes))] : List Dat)).length]), (36, .sl false 2 j1.length (fl eTyp j1)), (69, .sl false 3 j2.length (fl eFnc j2)), (86, .sl false 3 j3.length (fl eLim j3)), (103, .sl false 3 j4.length (fl eLim j4)), (135, .sl false 10 j5.length (fl eGlo j5)), (152, .sl false 3 j6.length (fl eXpo j6)), (184, .sl false 10 j7.length (fl eEle j7)), (216, .sl false 10 (a11 ++ ([(Dat.mk (((p0.datas.getD a12.toNat default)).memory) x15 (((p0.datas.getD a12.toNat default)).bytes))] : List Dat)).length (fl eDat (a11 ++ ([(Dat.mk (((p0.datas.getD a12.toNat default)).memory) x15 (((p0.datas.getD a12.toNat default)).bytes))] : List Dat))))]⟩ (And.intro True.intro True.intro) (by kernel_rfl) ?_
                    exact ⟨k, ((a11 ++ ([(Dat.mk (((p0.datas.getD a12.toNat default)).memory) x15 (((p0.datas.getD a12.toNat default)).bytes))] : List Dat)), (wI (a12 + 1))), Nat.lt_succ_self k, H, wk_mk [1, 2, 3, 11] [] [.k 1, .k 2, .k 3, .k 36, .k 69, .k 86, .k 103, .k 135, .k 152, .k 184, .k 216] True.intro (by kernel_rfl)⟩
                  · replace H := ite_f H hc
                    refine AW2.exit ?_
                    have H := Option.some.inj H
                    subst H
                    exact wk_mk [2, 3] [] [.k 2, .k 3, .k 36, .k 69, .k 86, .k 103, .k 135, .k 152, .k 184, .k 216] True.intro (by kernel_rfl)
              · have H := H32
                refine AW2.seq ?_
                refine AW2.rg [] [1, 2, 3, 10] [] [.k 1, .k 2, .k 3, .k 36, .k 69, .k 86, .k 103, .k 135, .k 152] ⟨[(1, .p 1 0), (2, .p 2 0), (3, .p 3 0), (10, .d (.int .i64 0))], [(1, .st false (eD (eMdl p0))), (2, .st false [.d .nils, .d .nils, .d .nils, .d .nils, .d .nils, .d .nils, .d .nils, .d .nils]), (3, .st false [.ls 36 0 j1.length, .ls 69 0 j2.length, .ls 86 0 j3.length, .ls 103 0 j4.length, .ls 135 0 j5.length, .ls 152 0 j6.length, .d .nils, .d .nils]), (36, .sl false 2 j1.length (fl eTyp j1)), (69, .sl false 3 j2.length (fl eFnc j2)), (86, .sl false 3 j3.length (fl eLim j3)), (103, .sl false 3 j4.length (fl eLim j4)), (135, .sl false 10 j5.length (fl eGlo j5)), (152, .sl false 3 j6.length (fl eXpo j6))]⟩ (And.intro True.intro True.intro) (by kernel_rfl) ?_
                refine AW2.block ?_
                refine AW2.cv [.c 3 6 184 10 (fl eEle ([] : List Ele))] [1, 2, 3, 10] [] [.k 1, .k 2, .k 3, .k 36, .k 69, .k 86, .k 103, .k 135, .k 152, .k 184] ⟨[(1, .p 1 0), (2, .p 2 0), (3, .p 3 0), (10, .d (.int .i64 0))], [(1, .st false (eD (eMdl p0))), (2, .st false [.d .nils, .d .nils, .d .nils, .d .nils, .d .nils, .d .nils, .d .nils, .d .nils]), (3, .st false [.ls 36 0 j1.length, .ls 69 0 j2.length, .ls 86 0 j3.length, .ls 103 0 j4.length, .ls 135 0 j5.length, .ls 152 0 j6.length, .ls 184 0 ([] : List Ele).length, .d .nils]), (36, .sl false 2 j1.length (fl eTyp j1)), (69, .sl false 3 j2.length (fl eFnc j2)), (86, .sl false 3 j3.length (fl eLim j3)), (103, .sl false 3 j4.length (fl eLim j4)), (135, .sl false 10 j5.length (fl eGlo j5)), (152, .sl false 3 j6.length (fl eXpo j6)), (184, .sl false 10 ([] : List Ele).length (fl eEle ([] : List Ele)))]⟩ True.intro (by kernel_rfl) ?_
                refine AW2.lp (σ := (List Ele) × Int) (fun v => ⟨[(1, .p 1 0), (2, .p 2 0), (3, .p 3 0), (10, .d (.int .i64 v.2))], [(1, .st false (eD (eMdl p0))), (2, .st false [.d .nils, .d .nils, .d .nils, .d .nils, .d .nils, .d .nils, .d .nils, .d .nils]), (3, .st false [.ls 36 0 j1.length, .ls 69 0 j2.length, .ls 86 0 j3.length, .ls 103 0 j4.length, .ls 135 0 j5.length, .ls 152 0 j6.length, .ls 184 0 v.1.length, .d .nils]), (36, .sl false 2 j1.length (fl eTyp j1)), (69, .sl false 3 j2.length (fl eFnc j2)), (86, .sl false 3 j3.length (fl eLim j3)), (103, .sl false 3 j4.length (fl eLim j4)), (135, .sl false 10 j5.length (fl eGlo j5)), (152, .sl false 3 j6.length (fl eXpo j6)), (184, .sl false 10 v.1.length (fl eEle v.1))]⟩) (fun k v => g_law08_giveModule_l1 k K p0 v.1 v.2 = some j7) ?_ K (([] : List Ele), 0) H
                rintro k ⟨a23, a24⟩ H
                dsimp only at H
                cases k with
                | zero => cases H
                | succ k =>
                unfold g_law08_giveModule_l1 at H
                refine AW2.seq ?_
                refine AW2.seq ?_
                refine AW2.rg [] [1, 2, 3, 10, 158] [] [.k 1, .k 2, .k 3, .k 36, .k 69, .k 86, .k 103, .k 135, .k 152, .k 184] ⟨[(1, .p 1 0), (2, .p 2 0), (3, .p 3 0), (10, .d (.int .i64 a24)), (158, .d (.bool (decide (a24 < (p0.elems.length : Int)))))], [(1, .st false (eD (eMdl p0))), (2, .st false [.d .nils, .d .nils, .d .nils, .d .nils, .d .nils, .d .nils, .d .nils, .d .nils]), (3, .st false [.ls 36 0 j1.length, .ls 69 0 j2.length, .ls 86 0 j3.length, .ls 103 0 j4.length, .ls 135 0 j5.length, .ls 152 0 j6.length, .ls 184 0 a23.length, .d .nils]), (36, .sl false 2 j1.length (fl eTyp j1)), (69, .sl false 3 j2.length (fl eFnc j2)), (86, .sl false 3 j3.length (fl eLim j3)), (103, .sl false 3 j4.length (fl eLim j4)), (135, .sl false 10 j5.length (fl eGlo j5)), (152, .sl false 3 j6.length (fl eXpo j6)), (184, .sl false 10 a23.length (fl eEle a23))]⟩ (And.intro True.intro True.intro) (by kernel_rfl) ?_
                refine AW2.cond (b := (decide (a24 < (p0.elems.length : Int)))) rfl (fun hc => ?_) (fun hc => ?_)
                · replace H := ite_t H hc
                  refine AW2.skip ?_
                  refine AW2.seq ?_
                  refine AW2.block ?_
                  obtain ⟨h25, H⟩ := gd_some H
                  obtain ⟨h26, H⟩ := gd_some H
                  obtain ⟨x27, hx28, H⟩ := bind_some H
                  obtain ⟨h29, H⟩ := gd_some H
                  obtain ⟨h30, H⟩ := gd_some H
                  refine AW2.rg [.r (.agg (eInstr x27)), .sb ([(Ele.mk (((p0.elems.getD a24.toNat default)).table) x27 (((p0.elems.getD a24.toNat default)).funcs))] : List Ele).length (fl eEle ([(Ele.mk (((p0.elems.getD a24.toNat default)).table) x27 (((p0.elems.getD a24.toNat default)).funcs))] : List Ele)), .s true (a23 ++ ([(Ele.mk (((p0.elems.getD a24.toNat default)).table) x27 (((p0.elems.getD a24.toNat default)).funcs))] : List Ele)).length (fl eEle (a23 ++ ([(Ele.mk (((p0.elems.getD a24.toNat default)).table) x27 (((p0.elems.getD a24.toNat default)).funcs))] : List Ele)))] [1, 2, 3, 10] [] [.k 1, .k 2, .k 3, .k 36, .k 69, .k 86, .k 103, .k 135, .k 152, .k 184] ⟨[(1, .p 1 0), (2, .p 2 0), (3, .p 3 0), (10, .d (.int .i64 a24))], [(1, .st false (eD (eMdl p0))), (2, .st false [.d .nils, .d .nils, .d .nils, .d .nils, .d .nils, .d .nils, .d .nils, .d .nils]), (3, .st false [.ls 36 0 j1.length, .ls 69 0 j2.length, .ls 86 0 j3.length, .ls 103 0 j4.length, .ls 135 0 j5.length, .ls 152 0 j6.length, .ls 184 0 (a23 ++ ([(Ele.mk (((p0.elems.getD a24.toNat default)).table) x27 (((p0.elems.getD a24.toNat default)).funcs))] : List Ele)).length, .d .nils]), (36, .sl false 2 j1.length (fl eTyp j1)), (69, .sl false 3 j2.length (fl eFnc j2)), (86, .sl false 3 j3.length (fl eLim j3)), (103, .sl false 3 j4.length (fl eLim j4)), (135, .sl false 10 j5.length (fl eGlo j5)), (152, .sl false 3 j6.length (fl eXpo j6)), (184, .sl false 10 (a23 ++ ([(Ele.mk (((p0.elems.getD a24.toNat default)).table) x27 (((p0.elems.getD a24.toNat default)).funcs))] : List Ele)).length (fl eEle (a23 ++ ([(Ele.mk (((p0.elems.getD a24.toNat default)).table) x27 (((p0.elems.getD a24.toNat default)).funcs))] : List Ele))))]⟩ (And.intro (And.intro h25 (And.intro h26 (And.intro (c_law08_one K (((p0.elems.getD a24.toNat default)).offset) x27 hx28) (And.intro h29 (And.intro (litF eEle ([(Ele.mk (((p0.elems.getD a24.toNat default)).table) x27 (((p0.elems.getD a24.toNat default)).funcs))] : List Ele)) (And.intro (Nat.le_refl a23.length) (And.intro h30 (And.intro (app1 eEle a23 (Ele.mk (((p0.elems.getD a24.toNat default)).table) x27 (((p0.elems.getD a24.toNat default)).funcs)) (fl eEle ([(Ele.mk (((p0.elems.getD a24.toNat default)).table) x27 (((p0.elems.getD a24.toNat default)).funcs))] : List Ele)) rfl) True.intro)))))))) True.intro) (by kernel_rfl) ?_
                  refine AW2.rg [] [1, 2, 3, 10] [] [.k 1, .k 2, .k 3, .k 36, .k 69, .k 86, .k 103, .k 135, .k 152, .k 184] ⟨[(1, .p 1 0), (2, .p 2 0), (3, .p 3 0), (10, .d (.int .i64 (wI (a24 + 1))))], [(1, .st false (eD (eMdl p0))), (2, .st false [.d .nils, .d .nils, .d .nils, .d .nils, .d .nils, .d .nils, .d .nils, .d .nils]), (3, .st false [.ls 36 0 j1.length, .ls 69 0 j2.length, .ls 86 0 j3.length, .ls 103 0 j4.length, .ls 135 0 j5.length, .ls 152 0 j6.length, .ls 184 0 (a23 ++ ([(Ele.mk (((p0.elems.getD a24.toNat default)).table) x27 (((p0.elems.getD a24.toNat default)).funcs))] : List Ele)).length, .d .nils]), (36, .sl false 2 j1.length (fl eTyp j1)), (69, .sl false 3 j2.length (fl eFnc j2)), (86, .sl false 3 j3.length (fl eLim j3)), (103, .sl false 3 j4.length (fl eLim j4)), (135, .sl false 10 j5.length (fl eGlo j5)), (152, .sl false 3 j6.length (fl eXpo j6)), (184, .sl false 10 (a23 ++ ([(Ele.mk (((p0.elems.getD a24.toNat default)).table) x27 (((p0.elems.getD a24.toNat default)).funcs))] : List Ele)).length (fl eEle (a23 ++ ([(Ele.mk (((p0.elems.getD a24.toNat default)).table) x27 (((p0.elems.getD a24.toNat default)).funcs))] : List Ele))))]⟩ (And.intro True.intro True.intro) (by kernel_rfl) ?_
                  exact ⟨k, ((a23 ++ ([(Ele.mk (((p0.elems.getD a24.toNat default)).table) x27 (((p0.elems.getD a24.toNat default)).funcs))] : List Ele)), (wI (a24 + 1))), Nat.lt_succ_self k, H, wk_mk [1, 2, 3, 10] [] [.k 1, .k 2, .k 3, .k 36, .k 69, .k 86, .k 103, .k 135, .k 152, .k 184] True.intro (by kernel_rfl)⟩
                · replace H := ite_f H hc
                  refine AW2.exit ?_
                  have H := Option.some.inj H
                  subst H
                  exact wk_mk [1, 2, 3] [] [.k 1, .k 2, .k 3, .k 36, .k 69, .k 86, .k 103, .k 135, .k 152, .k 184] True.intro (by kernel_rfl)
            · have H := H40
              refine AW2.seq ?_
              refine AW2.rg [] [1, 2, 3, 9] [] [.k 1, .k 2, .k 3, .k 36, .k 69, .k 86, .k 103, .k 135] ⟨[(1, .p 1 0), (2, .p 2 0), (3, .p 3 0), (9, .d (.int .i64 0))], [(1, .st false (eD (eMdl p0))), (2, .st false [.d .nils, .d .nils, .d .nils, .d .nils, .d .nils, .d .nils, .d .nils, .d .nils]), (3, .st false [.ls 36 0 j1.length, .ls 69 0 j2.length, .ls 86 0 j3.length, .ls 103 0 j4.length, .ls 135 0 j5.length, .d .nils, .d .nils, .d .nils]), (36, .sl false 2 j1.length (fl eTyp j1)), (69, .sl false 3 j2.length (fl eFnc j2)), (86, .sl false 3 j3.length (fl eLim j3)), (103, .sl false 3 j4.length (fl eLim j4)), (135, .sl false 10 j5.length (fl eGlo j5))]⟩ (And.intro True.intro True.intro) (by kernel_rfl) ?_
              refine AW2.block ?_
              refine AW2.cv [.c 3 5 152 3 (fl eXpo ([] : List Xpo))] [1, 2, 3, 9] [] [.k 1, .k 2, .k 3, .k 36, .k 69, .k 86, .k 103, .k 135, .k 152] ⟨[(1, .p 1 0), (2, .p 2 0), (3, .p 3 0), (9, .d (.int .i64 0))], [(1, .st false (eD (eMdl p0))), (2, .st false [.d .nils, .d .nils, .d .nils, .d .nils, .d .nils, .d .nils, .d .nils, .d .nils]), (3, .st false [.ls 36 0 j1.length, .ls 69 0 j2.length, .ls 86 0 j3.length, .ls 103 0 j4.length, .ls 135 0 j5.length, .ls 152 0 ([] : List Xpo).length, .d .nils, .d .nils]), (36, .sl false 2 j1.length (fl eTyp j1)), (69, .sl false 3 j2.length (fl eFnc j2)), (86, .sl false 3 j3.length (fl eLim j3)), (103, .sl false 3 j4.length (fl eLim j4)), (135, .sl false 10 j5.length (fl eGlo j5)), (152, .sl false 3 ([] : List Xpo).length (fl eXpo ([] : List Xpo)))]⟩ True.intro (by kernel_rfl) ?_
              refine AW2.lp (σ := (List Xpo) × Int) (fun v => ⟨[(1, .p 1 0), (2, .p 2 0), (3, .p 3 0), (9, .d (.int .i64 v.2))], [(1, .st false (eD (eMdl p0))), (2, .st false [.d .nils, .d .nils, .d .nils, .d .nils, .d .nils, .d .nils, .d .nils, .d .nils]), (3, .st false [.ls 36 0 j1.length, .ls 69 0 j2.length, .ls 86 0 j3.length, .ls 103 0 j4.length, .ls 135 0 j5.length, .ls 152 0 v.1.length, .d .nils, .d .nils]), (36, .sl false 2 j1.length (fl eTyp j1)), (69, .sl false 3 j2.length (fl eFnc j2)), (86, .sl false 3 j3.length (fl eLim j3)), (103, .sl false 3 j4.length (fl eLim j4)), (135, .sl false 10 j5.length (fl eGlo j5)), (152, .sl false 3 v.1.length (fl eXpo v.1))]⟩) (fun k v => g_law08_giveModule_l2 k p0 v.1 v.2 = some j6) ?_ K (([] : List Xpo), 0) H
              rintro k ⟨a35, a36⟩ H
              dsimp only at H
              cases k with
              | zero => cases H
              | succ k =>
              unfold g_law08_giveModule_l2 at H
              refine AW2.seq ?_
              refine AW2.seq ?_
              refine AW2.rg [] [1, 2, 3, 9, 141] [] [.k 1, .k 2, .k 3, .k 36, .k 69, .k 86, .k 103, .k 135, .k 152] ⟨[(1, .p 1 0), (2, .p 2 0), (3, .p 3 0), (9, .d (.int .i64 a36)), (141, .d (.bool (decide (a36 < (p0.exports.length : Int)))))], [(1, .st false (eD (eMdl p0))), (2, .st false [.d .nils, .d .nils, .d .nils, .d .nils, .d .nils, .d .nils, .d .nils, .d .nils]), (3, .st false [.ls 36 0 j1.length, .ls 69 0 j2.length, .ls 86 0 j3.length, .ls 103 0 j4.length, .ls 135 0 j5.length, .ls 152 0 a35.length, .d .nils, .d .nils]), (36, .sl false 2 j1.length (fl eTyp j1)), (69, .sl false 3 j2.length (fl eFnc j2)), (86, .sl false 3 j3.length (fl eLim j3)), (103, .sl false 3 j4.length (fl eLim j4)), (135, .sl false 10 j5.length (fl eGlo j5)), (152, .sl false 3 a35.length (fl eXpo a35))]⟩ (And.intro True.intro True.intro) (by kernel_rfl) ?_
              refine AW2.cond (b := (decide (a36 < (p0.exports.length : Int)))) rfl (fun hc => ?_) (fun hc => ?_)
              · replace H := ite_t H hc
                refine AW2.skip ?_
                refine AW2.seq ?_
                refine AW2.block ?_
                obtain ⟨h37, H⟩ := gd_some H
                obtain ⟨h38, H⟩ := gd_some H
                refine AW2.rg [.sb ([(p0.exports.getD a36.toNat default)] : List Xpo).length (fl eXpo ([(p0.exports.getD a36.toNat default)] : List Xpo)), .s true (a35 ++ ([(p0.exports.getD a36.toNat default)] : List Xpo)).length (fl eXpo (a35 ++ ([(p0.exports.getD a36.toNat default)] : List Xpo)))] [1, 2, 3, 9] [] [.k 1, .k 2, .k 3, .k 36, .k 69, .k 86, .k 103, .k 135, .k 152] ⟨[(1, .p 1 0), (2, .p 2 0), (3, .p 3 0), (9, .d (.int .i64 a36))], [(1, .st false (eD (eMdl p0))), (2, .st false [.d .nils, .d .nils, .d .nils, .d .nils, .d .nils, .d .nils, .d .nils, .d .nils]), (3, .st false [.ls 36 0 j1.length, .ls 69 0 j2.length, .ls 86 0 j3.length, .ls 103 0 j4.length, .ls 135 0 j5.length, .ls 152 0 (a35 ++ ([(p0.exports.getD a36.toNat default)] : List Xpo)).length, .d .nils, .d .nils]), (36, .sl false 2 j1.length (fl eTyp j1)), (69, .sl false 3 j2.length (fl eFnc j2)), (86, .sl false 3 j3.length (fl eLim j3)), (103, .sl false 3 j4.length (fl eLim j4)), (135, .sl false 10 j5.length (fl eGlo j5)), (152, .sl false 3 (a35 ++ ([(p0.exports.getD a36.toNat default)] : List Xpo)).length (fl eXpo (a35 ++ ([(p0.exports.getD a36.toNat default)] : List Xpo))))]⟩ (And.intro (And.intro h37 (And.intro (litF eXpo ([(p0.exports.getD a36.toNat default)] : List Xpo)) (And.intro (Nat.le_refl a35.length) (And.intro h38 (And.intro (app1 eXpo a35 (p0.exports.getD a36.toNat default) (fl eXpo ([(p0.exports.getD a36.toNat default)] : List Xpo)) rfl) True.intro))))) True.intro) (by kernel_rfl) ?_
                refine AW2.rg [] [1, 2, 3, 9] [] [.k 1, .k 2, .k 3, .k 36, .k 69, .k 86, .k 103, .k 135, .k 152] ⟨[(1, .p 1 0), (2, .p 2 0), (3, .p 3 0), (9, .d (.int .i64 (wI (a36 + 1))))], [(1, .st false (eD (eMdl p0))), (2, .st false [.d .nils, .d .nils, .d .nils, .d .nils, .d .nils, .d .nils, .d .nils, .d .nils]), (3, .st false [.ls 36 0 j1.length, .ls 69 0 j2.length, .ls 86 0 j3.length, .ls 103 0 j4.length, .ls 135 0 j5.length, .ls 152 0 (a35 ++ ([(p0.exports.getD a36.toNat default)] : List Xpo)).length, .d .nils, .d .nils]), (36, .sl false 2 j1.length (fl eTyp j1)), (69, .sl false 3 j2.length (fl eFnc j2)), (86, .sl false 3 j3.length (fl eLim j3)), (103, .sl false 3 j4.length (fl eLim j4)), (135, .sl false 10 j5.length (fl eGlo j5)), (152, .sl false 3 (a35 ++ ([(p0.exports.getD a36.toNat default)] : List Xpo)).length (fl eXpo (a35 ++ ([(p0.exports.getD a36.toNat default)] : List Xpo))))]⟩ (And.intro True.intro True.intro) (by kernel_rfl) ?_
                exact ⟨k, ((a35 ++ ([(p0.exports.getD a36.toNat default)] : List Xpo)), (wI (a36 + 1))), Nat.lt_succ_self k, H, wk_mk [1, 2, 3, 9] [] [.k 1, .k 2, .k 3, .k 36, .k 69, .k 86, .k 103, .k 135, .k 152] True.intro (by kernel_rfl)⟩
              · replace H := ite_f H hc
                refine AW2.exit ?_
                have H := Option.some.inj H
                subst H
                exact wk_mk [1, 2, 3] [] [.k 1, .k 2, .k 3, .k 36, .k 69, .k 86, .k 103, .k 135, .k 152] True.intro (by kernel_rfl)
          · have H := H52
            refine AW2.seq ?_
            refine AW2.rg [] [1, 2, 3, 8] [] [.k 1, .k 2, .k 3, .k 36, .k 69, .k 86, .k 103] ⟨[(1, .p 1 0), (2, .p 2 0), (3, .p 3 0), (8, .d (.int .i64 0))], [(1, .st false (eD (eMdl p0))), (2, .st false [.d .nils, .d .nils, .d .nils, .d .nils, .d .nils, .d .nils, .d .nils, .d .nils]), (3, .st false [.ls 36 0 j1.length, .ls 69 0 j2.length, .ls 86 0 j3.length, .ls 103 0 j4.length, .d .nils, .d .nils, .d .nils, .d .nils]), (36, .sl false 2 j1.length (fl eTyp j1)), (69, .sl false 3 j2.length (fl eFnc j2)), (86, .sl false 3 j3.length (fl eLim j3)), (103, .sl false 3 j4.length (fl eLim j4))]⟩ (And.intro True.intro True.intro) (by kernel_rfl) ?_
            refine AW2.block ?_
            refine AW2.cv [.c 3 4 135 10 (fl eGlo ([] : List Glo))] [1, 2, 3, 8] [] [.k 1, .k 2, .k 3, .k 36, .k 69, .k 86, .k 103, .k 135] ⟨[(1, .p 1 0), (2, .p 2 0), (3, .p 3 0), (8, .d (.int .i64 0))], [(1, .st false (eD (eMdl p0))), (2, .st false [.d .nils, .d .nils, .d .nils, .d .nils, .d .nils, .d .nils, .d .nils, .d .nils]), (3, .st false [.ls 36 0 j1.length, .ls 69 0 j2.length, .ls 86 0 j3.length, .ls 103 0 j4.length, .ls 135 0 ([] : List Glo).length, .d .nils, .d .nils, .d .nils]), (36, .sl false 2 j1.length (fl eTyp j1)), (69, .sl false 3 j2.length (fl eFnc j2)), (86, .sl false 3 j3.length (fl eLim j3)), (103, .sl false 3 j4.length (fl eLim j4)), (135, .sl false 10 ([] : List Glo).length (fl eGlo ([] : List Glo)))]⟩ True.intro (by kernel_rfl) ?_
            refine AW2.lp (σ := (List Glo) × Int) (fun v => ⟨[(1, .p 1 0), (2, .p 2 0), (3, .p 3 0), (8, .d (.int .i64 v.2))], [(1, .st false (eD (eMdl p0))), (2, .st false [.d .nils, .d .nils, .d .nils, .d .nils, .d .nils, .d .nils, .d .nils, .d .nils]), (3, .st false [.ls 36 0 j1.length, .ls 69 0 j2.length, .ls 86 0 j3.length, .ls 103 0 j4.length, .ls 135 0 v.1.length, .d .nils, .d .nils, .d .nils]), (36, .sl false 2 j1.length (fl eTyp j1)), (69, .sl false 3 j2.length (fl eFnc j2)), (86, .sl false 3 j3.length (fl eLim j3)), (103, .sl false 3 j4.length (fl eLim j4)), (135, .sl false 10 v.1.length (fl eGlo v.1))]⟩) (fun k v => g_law08_giveModule_l3 k K p0 v.1 v.2 = some j5) ?_ K (([] : List Glo), 0) H
            rintro k ⟨a43, a44⟩ H
            dsimp only at H
            cases k with
            | zero => cases H
            | succ k =>
            unfold g_law08_giveModule_l3 at H
            refine AW2.seq ?_
            refine AW2.seq ?_
            refine AW2.rg [] [1, 2, 3, 8, 109] [] [.k 1, .k 2, .k 3, .k 36, .k 69, .k 86, .k 103, .k 135] ⟨[(1, .p 1 0), (2, .p 2 0), (3, .p 3 0), (8, .d (.int .i64 a44)), (109, .d (.bool (decide (a44 < (p0.globals.length : Int)))))], [(1, .st false (eD (eMdl p0))), (2, .st false [.d .nils, .d .nils, .d .nils, .d .nils, .d .nils, .d .nils, .d .nils, .d .nils]), (3, .st false [.ls 36 0 j1.length, .ls 69 0 j2.length, .ls 86 0 j3.length, .ls 103 0 j4.length, .ls 135 0 a43.length, .d .nils, .d .nils, .d .nils]), (36, .sl false 2 j1.length (fl eTyp j1)), (69, .sl false 3 j2.length (fl eFnc j2)), (86, .sl false 3 j3.length (fl eLim j3)), (103, .sl false 3 j4.length (fl eLim j4)), (135, .sl false 10 a43.length (fl eGlo a43))]⟩ (And.intro True.intro True.intro) (by kernel_rfl) ?_
            refine AW2.cond (b := (decide (a44 < (p0.globals.length : Int)))) rfl (fun hc => ?_) (fun hc => ?_)
            · replace H := ite_t H hc
              refine AW2.skip ?_
              refine AW2.seq ?_
              refine AW2.block ?_
              obtain ⟨h45, H⟩ := gd_some H
              obtain ⟨h46, H⟩ := gd_some H
              obtain ⟨h47, H⟩ := gd_some H
              obtain ⟨x48, hx49, H⟩ := bind_some H
              obtain ⟨h50, H⟩ := gd_some H
              refine AW2.rg [.r (.agg (eInstr x48)), .sb ([(Glo.mk (((p0.globals.getD a44.toNat default)).kind) (((p0.globals.getD a44.toNat default)).mut_) x48)] : List Glo).length (fl eGlo ([(Glo.mk (((p0.globals.getD a44.toNat default)).kind) (((p0.globals.getD a44.toNat default)).mut_) x48)] : List Glo)), .s true (a43 ++ ([(Glo.mk (((p0.globals.getD a44.toNat default)).kind) (((p0.globals.getD a44.toNat default)).mut_) x48)] : List Glo)).length (fl eGlo (a43 ++ ([(Glo.mk (((p0.globals.getD a44.toNat default)).kind) (((p0.globals.getD a44.toNat default)).mut_) x48)] : List Glo)))] [1, 2, 3, 8] [] [.k 1, .k 2, .k 3, .k 36, .k 69, .k 86, .k 103, .k 135] ⟨[(1, .p 1 0), (2, .p 2 0), (3, .p 3 0), (8, .d (.int .i64 a44))], [(1, .st false (eD (eMdl p0))), (2, .st false [.d .nils, .d .nils, .d .nils, .d .nils, .d .nils, .d .nils, .d .nils, .d .nils]), (3, .st false [.ls 36 0 j1.length, .ls 69 0 j2.length, .ls 86 0 j3.length, .ls 103 0 j4.length, .ls 135 0 (a43 ++ ([(Glo.mk (((p0.globals.getD a44.toNat default)).kind) (((p0.globals.getD a44.toNat default)).mut_) x48)] : List Glo)).length, .d .nils, .d .nils, .d .nils]), (36, .sl false 2 j1.length (fl eTyp j1)), (69, .sl false 3 j2.length (fl eFnc j2)), (86, .sl false 3 j3.length (fl eLim j3)), (103, .sl false 3 j4.length (fl eLim j4)), (135, .sl false 10 (a43 ++ ([(Glo.mk (((p0.globals.getD a44.toNat default)).kind) (((p0.globals.getD a44.toNat default)).mut_) x48)] : List Glo)).length (fl eGlo (a43 ++ ([(Glo.mk (((p0.globals.getD a44.toNat default)).kind) (((p0.globals.getD a44.toNat default)).mut_) x48)] : List Glo))))]⟩ (And.intro (And.intro h45 (And.intro h46 (And.intro h47 (And.intro (c_law08_one K (((p0.globals.getD a44.toNat default)).init_) x48 hx49) (And.intro (litF eGlo ([(Glo.mk (((p0.globals.getD a44.toNat default)).kind) (((p0.globals.getD a44.toNat default)).mut_) x48)] : List Glo)) (And.intro (Nat.le_refl a43.length) (And.intro h50 (And.intro (app1 eGlo a43 (Glo.mk (((p0.globals.getD a44.toNat default)).kind) (((p0.globals.getD a44.toNat default)).mut_) x48) (fl eGlo ([(Glo.mk (((p0.globals.getD a44.toNat default)).kind) (((p0.globals.getD a44.toNat default)).mut_) x48)] : List Glo)) rfl) True.intro)))))))) True.intro) (by kernel_rfl) ?_
              refine AW2.rg [] [1, 2, 3, 8] [] [.k 1, .k 2, .k 3, .k 36, .k 69, .k 86, .k 103, .k 135] ⟨[(1, .p 1 0), (2, .p 2 0), (3, .p 3 0), (8, .d (.int .i64 (wI (a44 + 1))))], [(1, .st false (eD (eMdl p0))), (2, .st false [.d .nils, .d .nils, .d .nils, .d .nils, .d .nils, .d .nils, .d .nils, .d .nils]), (3, .st false [.ls 36 0 j1.length, .ls 69 0 j2.length, .ls 86 0 j3.length, .ls 103 0 j4.length, .ls 135 0 (a43 ++ ([(Glo.mk (((p0.globals.getD a44.toNat default)).kind) (((p0.globals.getD a44.toNat default)).mut_) x48)] : List Glo)).length, .d .nils, .d .nils, .d .nils]), (36, .sl false 2 j1.length (fl eTyp j1)), (69, .sl false 3 j2.length (fl eFnc j2)), (86, .sl false 3 j3.length (fl eLim j3)), (103, .sl false 3 j4.length (fl eLim j4)), (135, .sl false 10 (a43 ++ ([(Glo.mk (((p0.globals.getD a44.toNat default)).kind) (((p0.globals.getD a44.toNat default)).mut_) x48)] : List Glo)).length (fl eGlo (a43 ++ ([(Glo.mk (((p0.globals.getD a44.toNat default)).kind) (((p0.globals.getD a44.toNat default)).mut_) x48)] : List Glo))))]⟩ (And.intro True.intro True.intro) (by kernel_rfl) ?_
              exact ⟨k, ((a43 ++ ([(Glo.mk (((p0.globals.getD a44.toNat default)).kind) (((p0.globals.getD a44.toNat default)).mut_) x48)] : List Glo)), (wI (a44 + 1))), Nat.lt_succ_self k, H, wk_mk [1, 2, 3, 8] [] [.k 1, .k 2, .k 3, .k 36, .k 69, .k 86, .k 103, .k 135] True.intro (by kernel_rfl)⟩
            · replace H := ite_f H hc
              refine AW2.exit ?_
              have H := Option.some.inj H
              subst H
              exact wk_mk [1, 2, 3] [] [.k 1, .k 2, .k 3, .k 36, .k 69, .k 86, .k 103, .k 135] True.intro (by kernel_rfl)
        · have H := H60
          refine AW2.seq ?_
          refine AW2.rg [] [1, 2, 3, 7] [] [.k 1, .k 2, .k 3, .k 36, .k 69, .k 86] ⟨[(1, .p 1 0), (2, .p 2 0), (3, .p 3 0), (7, .d (.int .i64 0))], [(1, .st false (eD (eMdl p0))), (2, .st false [.d .nils, .d .nils, .d .nils, .d .nils, .d .nils, .d .nils, .d .nils, .d .nils]), (3, .st false [.ls 36 0 j1.length, .ls 69 0 j2.length, .ls 86 0 j3.length, .d .nils, .d .nils, .d .nils, .d .nils, .d .nils]), (36, .sl false 2 j1.length (fl eTyp j1)), (69, .sl false 3 j2.length (fl eFnc j2)), (86, .sl false 3 j3.length (fl eLim j3))]⟩ (And.intro True.intro True.intro) (by kernel_rfl) ?_
          refine AW2.block ?_
          refine AW2.cv [.c 3 3 103 3 (fl eLim ([] : List Lim))] [1, 2, 3, 7] [] [.k 1, .k 2, .k 3, .k 36, .k 69, .k 86, .k 103] ⟨[(1, .p 1 0), (2, .p 2 0), (3, .p 3 0), (7, .d (.int .i64 0))], [(1, .st false (eD (eMdl p0))), (2, .st false [.d .nils, .d .nils, .d .nils, .d .nils, .d .nils, .d .nils, .d .nils, .d .nils]), (3, .st false [.ls 36 0 j1.length, .ls 69 0 j2.length, .ls 86 0 j3.length, .ls 103 0 ([] : List Lim).length, .d .nils, .d .nils, .d .nils, .d .nils]), (36, .sl false 2 j1.length (fl eTyp j1)), (69, .sl false 3 j2.length (fl eFnc j2)), (86, .sl false 3 j3.length (fl eLim j3)), (103, .sl false 3 ([] : List Lim).length (fl eLim ([] : List Lim)))]⟩ True.intro (by kernel_rfl) ?_
          refine AW2.lp (σ := (List Lim) × Int) (fun v => ⟨[(1, .p 1 0), (2, .p 2 0), (3, .p 3 0), (7, .d (.int .i64 v.2))], [(1, .st false (eD (eMdl p0))), (2, .st false [.d .nils, .d .nils, .d .nils, .d .nils, .d .nils, .d .nils, .d .nils, .d .nils]), (3, .st false [.ls 36 0 j1.length, .ls 69 0 j2.length, .ls 86 0 j3.length, .ls 103 0 v.1.length, .d .nils, .d .nils, .d .nils, .d .nils]), (36, .sl false 2 j1.length (fl eTyp j1)), (69, .sl false 3 j2.length (fl eFnc j2)), (86, .sl false 3 j3.length (fl eLim j3)), (103, .sl false 3 v.1.length (fl eLim v.1))]⟩) (fun k v => g_law08_giveModule_l4 k p0 v.1 v.2 = some j4) ?_ K (([] : List Lim), 0) H
          rintro k ⟨a55, a56⟩ H
          dsimp only at H
          cases k with
          | zero => cases H
          | succ k =>
          unfold g_law08_giveModule_l4 at H
          refine AW2.seq ?_
          refine AW2.seq ?_
          refine AW2.rg [] [1, 2, 3, 7, 92] [] [.k 1, .k 2, .k 3, .k 36, .k 69, .k 86, .k 103] ⟨[(1, .p 1 0), (2, .p 2 0), (3, .p 3 0), (7, .d (.int .i64 a56)), (92, .d (.bool (decide (a56 < (p0.memories.length : Int)))))], [(1, .st false (eD (eMdl p0))), (2, .st false [.d .nils, .d .nils, .d .nils, .d .nils, .d .nils, .d .nils, .d .nils, .d .nils]), (3, .st false [.ls 36 0 j1.length, .ls 69 0 j2.length, .ls 86 0 j3.length, .ls 103 0 a55.length, .d .nils, .d .nils, .d .nils, .d .nils]), (36, .sl false 2 j1.length (fl eTyp j1)), (69, .sl false 3 j2.length (fl eFnc j2)), (86, .sl false 3 j3.length (fl eLim j3)), (103, .sl false 3 a55.length (fl eLim a55))]⟩ (And.intro True.intro True.intro) (by kernel_rfl) ?_
          refine AW2.cond (b := (decide (a56 < (p0.memories.length : Int)))) rfl (fun hc => ?_) (fun hc => ?_)
          · replace H := ite_t H hc
            refine AW2.skip ?_
            refine AW2.seq ?_
            refine AW2.block ?_
            obtain ⟨h57, H⟩ := gd_some H
            obtain ⟨h58, H⟩ := gd_some H
            refine AW2.rg [.sb ([(p0.memories.getD a56.toNat default)] : List Lim).length (fl eLim ([(p0.memories.getD a56.toNat default)] : List Lim)), .s true (a55 ++ ([(p0.memories.getD a56.toNat default)] : List Lim)).length (fl eLim (a55 ++ ([(p0.memories.getD a56.toNat default)] : List Lim)))] [1, 2, 3, 7] [] [.k 1, .k 2, .k 3, .k 36, .k 69, .k 86, .k 103] ⟨[(1, .p 1 0), (2, .p 2 0), (3, .p 3 0), (7, .d (.int .i64 a56))], [(1, .st false (eD (eMdl p0))), (2, .st false [.d .nils, .d .nils, .d .nils, .d .nils, .d .nils, .d .nils, .d .nils, .d .nils]), (3, .st false [.ls 36 0 j1.length, .ls 69 0 j2.length, .ls 86 0 j3.length, .ls 103 0 (a55 ++ ([(p0.memories.getD a56.toNat default)] : List Lim)).length, .d .nils, .d .nils, .d .nils, .d .nils]), (36, .sl false 2 j1.length (fl eTyp j1)), (69, .sl false 3 j2.length (fl eFnc j2)), (86, .sl false 3 j3.length (fl eLim j3)), (103, .sl false 3 (a55 ++ ([(p0.memories.getD a56.toNat default)] : List Lim)).length (fl eLim (a55 ++ ([(p0.memories.getD a56.toNat default)] : List Lim))))]⟩ (And.intro (And.intro h57 (And.intro (litF eLim ([(p0.memories.getD a56.toNat default)] : List Lim)) (And.intro (Nat.le_refl a55.length) (And.intro h58 (And.intro (app1 eLim a55 (p0.memories.getD a56.toNat default) (fl eLim ([(p0.memories.getD a56.toNat default)] : List Lim)) rfl) True.intro))))) True.intro) (by kernel_rfl) ?_
            refine AW2.rg [] [1, 2, 3, 7] [] [.k 1, .k 2, .k 3, .k 36, .k 69, .k 86, .k 103] ⟨[(1, .p 1 0), (2, .p 2 0), (3, .p 3 0), (7, .d (.int .i64 (wI (a56 + 1))))], [(1, .st false (eD (eMdl p0))), (2, .st false [.d .nils, .d .nils, .d .nils, .d .nils, .d .nils, .d .nils, .d .nils, .d .nils]), (3, .st false [.ls 36 0 j1.length, .ls 69 0 j2.length, .ls 86 0 j3.length, .ls 103 0 (a55 ++ ([(p0.memories.getD a56.toNat default)] : List Lim)).length, .d .nils, .d .nils, .d .nils, .d .nils]), (36, .sl false 2 j1.length (fl eTyp j1)), (69, .sl false 3 j2.length (fl eFnc j2)), (86, .sl false 3 j3.length (fl eLim j3)), (103, .sl false 3 (a55 ++ ([(p0.memories.getD a56.toNat default)] : List Lim)).length (fl eLim (a55 ++ ([(p0.memories.getD a56.toNat default)] : List Lim))))]⟩ (And.intro True.intro True.intro) (by kernel_rfl) ?_
            exact ⟨k, ((a55 ++ ([(p0.memories.getD a56.toNat default)] : List Lim)), (wI (a56 + 1))), Nat.lt_succ_self k, H, wk_mk [1, 2, 3, 7] [] [.k 1, .k 2, .k 3, .k 36, .k 69, .k 86, .k 103] True.intro (by kernel_rfl)⟩
          · replace H := ite_f H hc
            refine AW2.exit ?_
            have H := Option.some.inj H
            subst H
            exact wk_mk [1, 2, 3] [] [.k 1, .k 2, .k 3, .k 36, .k 69, .k 86, .k 103] True.intro (by kernel_rfl)
      · have H := H68
        refine AW2.seq ?_
        refine AW2.rg [] [1, 2, 3, 6] [] [.k 1, .k 2, .k 3, .k 36, .k 69] ⟨[(1, .p 1 0), (2, .p 2 0), (3, .p 3 0), (6, .d (.int .i64 0))], [(1, .st false (eD (eMdl p0))), (2, .st false [.d .nils, .d .nils, .d .nils, .d .nils, .d .nils, .d .nils, .d .nils, .d .nils]), (3, .st false [.ls 36 0 j1.length, .ls 69 0 j2.length, .d .nils, .d .nils, .d .nils, .d .nils, .d .nils, .d .nils]), (36, .sl false 2 j1.length (fl eTyp j1)), (69, .sl false 3 j2.length (fl eFnc j2))]⟩ (And.intro True.intro True.intro) (by kernel_rfl) ?_
        refine AW2.block ?_
        refine AW2.cv [.c 3 2 86 3 (fl eLim ([] : List Lim))] [1, 2, 3, 6] [] [.k 1, .k 2, .k 3, .k 36, .k 69, .k 86] ⟨[(1, .p 1 0), (2, .p 2 0), (3, .p 3 0), (6, .d (.int .i64 0))], [(1, .st false (eD (eMdl p0))), (2, .st false [.d .nils, .d .nils, .d .nils, .d .nils, .d .nils, .d .nils, .d .nils, .d .nils]), (3, .st false [.ls 36 0 j1.length, .ls 69 0 j2.length, .ls 86 0 ([] : List Lim).length, .d .nils, .d .nils, .d .nils, .d .nils, .d .nils]), (36, .sl false 2 j1.length (fl eTyp j1)), (69, .sl false 3 j2.length (fl eFnc j2)), (86, .sl false 3 ([] : List Lim).length (fl eLim ([] : List Lim)))]⟩ True.intro (by kernel_rfl) ?_
        refine AW2.lp (σ := (List Lim) × Int) (fun v => ⟨[(1, .p 1 0), (2, .p 2 0), (3, .p 3 0), (6, .d (.int .i64 v.2))], [(1, .st false (eD (eMdl p0))), (2, .st false [.d .nils, .d .nils, .d .nils, .d .nils, .d .nils, .d .nils, .d .nils, .d .nils]), (3, .st false [.ls 36 0 j1.length, .ls 69 0 j2.length, .ls 86 0 v.1.length, .d .nils, .d .nils, .d .nils, .d .nils, .d .nils]), (36, .sl false 2 j1.length (fl eTyp j1)), (69, .sl false 3 j2.length (fl eFnc j2)), (86, .sl false 3 v.1.length (fl eLim v.1))]⟩) (fun k v => g_law08_giveModule_l5 k p0 v.1 v.2 = some j3) ?_ K (([] : List Lim), 0) H
        rintro k ⟨a63, a64⟩ H
        dsimp only at H
        cases k with
        | zero => cases H
        | succ k =>
        unfold g_law08_giveModule_l5 at H
        refine AW2.seq ?_
        refine AW2.seq ?_
        refine AW2.rg [] [1, 2, 3, 6, 75] [] [.k 1, .k 2, .k 3, .k 36, .k 69, .k 86] ⟨[(1, .p 1 0), (2, .p 2 0), (3, .p 3 0), (6, .d (.int .i64 a64)), (75, .d (.bool (decide (a64 < (p0.tables.length : Int)))))], [(1, .st false (eD (eMdl p0))), (2, .st false [.d .nils, .d .nils, .d .nils, .d .nils, .d .nils, .d .nils, .d .nils, .d .nils]), (3, .st false [.ls 36 0 j1.length, .ls 69 0 j2.length, .ls 86 0 a63.length, .d .nils, .d .nils, .d .nils, .d .nils, .d .nils]), (36, .sl false 2 j1.length (fl eTyp j1)), (69, .sl false 3 j2.length (fl eFnc j2)), (86, .sl false 3 a63.length (fl eLim a63))]⟩ (And.intro True.intro True.intro) (by kernel_rfl) ?_
        refine AW2.cond (b := (decide (a64 < (p0.tables.length : Int)))) rfl (fun hc => ?_) (fun hc => ?_)
        · replace H := ite_t H hc
          refine AW2.skip ?_
          refine AW2.seq ?_
          refine AW2.block ?_
          obtain ⟨h65, H⟩ := gd_some H
          obtain ⟨h66, H⟩ := gd_some H
          refine AW2.rg [.sb ([(p0.tables.getD a64.toNat default)] : List Lim).length (fl eLim ([(p0.tables.getD a64.toNat default)] : List Lim)), .s true (a63 ++ ([(p0.tables.getD a64.toNat default)] : List Lim)).length (fl eLim (a63 ++ ([(p0.tables.getD a64.toNat default)] : List Lim)))] [1, 2, 3, 6] [] [.k 1, .k 2, .k 3, .k 36, .k 69, .k 86] ⟨[(1, .p 1 0), (2, .p 2 0), (3, .p 3 0), (6, .d (.int .i64 a64))], [(1, .st false (eD (eMdl p0))), (2, .st false [.d .nils, .d .nils, .d .nils, .d .nils, .d .nils, .d .nils, .d .nils, .d .nils]), (3, .st false [.ls 36 0 j1.length, .ls 69 0 j2.length, .ls 86 0 (a63 ++ ([(p0.tables.getD a64.toNat default)] : List Lim)).length, .d .nils, .d .nils, .d .nils, .d .nils, .d .nils]), (36, .sl false 2 j1.length (fl eTyp j1)), (69, .sl false 3 j2.length (fl eFnc j2)), (86, .sl false 3 (a63 ++ ([(p0.tables.getD a64.toNat default)] : List Lim)).length (fl eLim (a63 ++ ([(p0.tables.getD a64.toNat default)] : List Lim))))]⟩ (And.intro (And.intro h65 (And.intro (litF eLim ([(p0.tables.getD a64.toNat default)] : List Lim)) (And.intro (Nat.le_refl a63.length) (And.intro h66 (And.intro (app1 eLim a63 (p0.tables.getD a64.toNat default) (fl eLim ([(p0.tables.getD a64.toNat default)] : List Lim)) rfl) True.intro))))) True.intro) (by kernel_rfl) ?_
          refine AW2.rg [] [1, 2, 3, 6] [] [.k 1, .k 2, .k 3, .k 36, .k 69, .k 86] ⟨[(1, .p 1 0), (2, .p 2 0), (3, .p 3 0), (6, .d (.int .i64 (wI (a64 + 1))))], [(1, .st false (eD (eMdl p0))), (2, .st false [.d .nils, .d .nils, .d .nils, .d .nils, .d .nils, .d .nils, .d .nils, .d .nils]), (3, .st false [.ls 36 0 j1.length, .ls 69 0 j2.length, .ls 86 0 (a63 ++ ([(p0.tables.getD a64.toNat default)] : List Lim)).length, .d .nils, .d .nils, .d .nils, .d .nils, .d .nils]), (36, .sl false 2 j1.length (fl eTyp j1)), (69, .sl false 3 j2.length (fl eFnc j2)), (86, .sl false 3 (a63 ++ ([(p0.tables.getD a64.toNat default)] : List Lim)).length (fl eLim (a63 ++ ([(p0.tables.getD a64.toNat default)] : List Lim))))]⟩ (And.intro True.intro True.intro) (by kernel_rfl) ?_
          exact ⟨k, ((a63 ++ ([(p0.tables.getD a64.toNat default)] : List Lim)), (wI (a64 + 1))), Nat.lt_succ_self k, H, wk_mk [1, 2, 3, 6] [] [.k 1, .k 2, .k 3, .k 36, .k 69, .k 86] True.intro (by kernel_rfl)⟩
        · replace H := ite_f H hc
          refine AW2.exit ?_
          have H := Option.some.inj H
          subst H
          exact wk_mk [1, 2, 3] [] [.k 1, .k 2, .k 3, .k 36, .k 69, .k 86] True.intro (by kernel_rfl)
    · have H := H82
      refine AW2.seq ?_
      refine AW2.rg [] [1, 2, 3, 5] [] [.k 1, .k 2, .k 3, .k 36] ⟨[(1, .p 1 0), (2, .p 2 0), (3, .p 3 0), (5, .d (.int .i64 0))], [(1, .st false (eD (eMdl p0))), (2, .st false [.d .nils, .d .nils, .d .nils, .d .nils, .d .nils, .d .nils, .d .nils, .d .nils]), (3, .st false [.ls 36 0 j1.length, .d .nils, .d .nils, .d .nils, .d .nils, .d .nils, .d .nils, .d .nils]), (36, .sl false 2 j1.length (fl eTyp j1))]⟩ (And.intro True.intro True.intro) (by kernel_rfl) ?_
      refine AW2.block ?_
      refine AW2.cv [.c 3 1 69 3 (fl eFnc ([] : List Fnc))] [1, 2, 3, 5] [] [.k 1, .k 2, .k 3, .k 36, .k 69] ⟨[(1, .p 1 0), (2, .p 2 0), (3, .p 3 0), (5, .d (.int .i64 0))], [(1, .st false (eD (eMdl p0))), (2, .st false [.d .nils, .d .nils, .d .nils, .d .nils, .d .nils, .d .nils, .d .nils, .d .nils]), (3, .st false [.ls 36 0 j1.length, .ls 69 0 ([] : List Fnc).length, .d .nils, .d .nils, .d .nils, .d .nils, .d .nils, .d .nils]), (36, .sl false 2 j1.length (fl eTyp j1)), (69, .sl false 3 ([] : List Fnc).length (fl eFnc ([] : List Fnc)))]⟩ True.intro (by kernel_rfl) ?_
      refine AW2.lp (σ := (List Fnc) × Int) (fun v => ⟨[(1, .p 1 0), (2, .p 2 0), (3, .p 3 0), (5, .d (.int .i64 v.2))], [(1, .st false (eD (eMdl p0))), (2, .st false [.d .nils, .d .nils, .d .nils, .d .nils, .d .nils, .d .nils, .d .nils, .d .nils]), (3, .st false [.ls 36 0 j1.length, .ls 69 0 v.1.length, .d .nils, .d .nils, .d .nils, .d .nils, .d .nils, .d .nils]), (36, .sl false 2 j1.length (fl eTyp j1)), (69, .sl false 3 v.1.length (fl eFnc v.1))]⟩) (fun k v => g_law08_giveModule_l6 k K p0 v.1 v.2 = some j2) ?_ K (([] : List Fnc), 0) H
      rintro k ⟨a71, a72⟩ H
      dsimp only at H
      cases k with
      | zero => cases H
      | succ k =>
      unfold g_law08_giveModule_l6 at H
      refine AW2.seq ?_
      refine AW2.seq ?_
      refine AW2.rg [] [1, 2, 3, 5, 42] [] [.k 1, .k 2, .k 3, .k 36, .k 69] ⟨[(1, .p 1 0), (2, .p 2 0), (3, .p 3 0), (5, .d (.int .i64 a72)), (42, .d (.bool (decide (a72 < (p0.funcs.length : Int)))))], [(1, .st false (eD (eMdl p0))), (2, .st false [.d .nils, .d .nils, .d .nils, .d .nils, .d .nils, .d .nils, .d .nils, .d .nils]), (3, .st false [.ls 36 0 j1.length, .ls 69 0 a71.length, .d .nils, .d .nils, .d .nils, .d .nils, .d .nils, .d .nils]), (36, .sl false 2 j1.length (fl eTyp j1)), (69, .sl false 3 a71.length (fl eFnc a71))]⟩ (And.intro True.intro True.intro) (by kernel_rfl) ?_
      refine AW2.cond (b := (decide (a72 < (p0.funcs.length : Int)))) rfl (fun hc => ?_) (fun hc => ?_)
      · replace H := ite_t H hc
        refine AW2.skip ?_
        refine AW2.seq ?_
        refine AW2.block ?_
        obtain ⟨h73, H⟩ := gd_some H
        obtain ⟨h74, H⟩ := gd_some H
        obtain ⟨x75, hx76, H⟩ := bind_some H
        obtain ⟨h77, H⟩ := gd_some H
        obtain ⟨x78, hx79, H⟩ := bind_some H
        obtain ⟨h80, H⟩ := gd_some H
        refine AW2.rg [.r (sV (eI .u8) x75), .r (sVI x78), .sb ([(Fnc.mk (((p0.funcs.getD a72.toNat default)).type_) x75 x78)] : List Fnc).length (fl eFnc ([(Fnc.mk (((p0.funcs.getD a72.toNat default)).type_) x75 x78)] : List Fnc)), .s true (a71 ++ ([(Fnc.mk (((p0.funcs.getD a72.toNat default)).type_) x75 x78)] : List Fnc)).length (fl eFnc (a71 ++ ([(Fnc.mk (((p0.funcs.getD a72.toNat default)).type_) x75 x78)] : List Fnc)))] [1, 2, 3, 5] [] [.k 1, .k 2, .k 3, .k 36, .k 69] ⟨[(1, .p 1 0), (2, .p 2 0), (3, .p 3 0), (5, .d (.int .i64 a72))], [(1, .st false (eD (eMdl p0))), (2, .st false [.d .nils, .d .nils, .d .nils, .d .nils, .d .nils, .d .nils, .d .nils, .d .nils]), (3, .st false [.ls 36 0 j1.length, .ls 69 0 (a71 ++ ([(Fnc.mk (((p0.funcs.getD a72.toNat default)).type_) x75 x78)] : List Fnc)).length, .d .nils, .d .nils, .d .nils, .d .nils, .d .nils, .d .nils]), (36, .sl false 2 j1.length (fl eTyp j1)), (69, .sl false 3 (a71 ++ ([(Fnc.mk (((p0.funcs.getD a72.toNat default)).type_) x75 x78)] : List Fnc)).length (fl eFnc (a71 ++ ([(Fnc.mk (((p0.funcs.getD a72.toNat default)).type_) x75 x78)] : List Fnc))))]⟩ (And.intro (And.intro h73 (And.intro h74 (And.intro (c_law08_kinds K (((p0.funcs.getD a72.toNat default)).locals) x75 hx76) (And.intro h77 (And.intro (c_law08_give K (((p0.funcs.getD a72.toNat default)).body) x78 hx79) (And.intro (litF eFnc ([(Fnc.mk (((p0.funcs.getD a72.toNat default)).type_) x75 x78)] : List Fnc)) (And.intro (Nat.le_refl a71.length) (And.intro h80 (And.intro (app1 eFnc a71 (Fnc.mk (((p0.funcs.getD a72.toNat default)).type_) x75 x78) (fl eFnc ([(Fnc.mk (((p0.funcs.getD a72.toNat default)).type_) x75 x78)] : List Fnc)) rfl) True.intro))))))))) True.intro) (by kernel_rfl) ?_
        refine AW2.rg [] [1, 2, 3, 5] [] [.k 1, .k 2, .k 3, .k 36, .k 69] ⟨[(1, .p 1 0), (2, .p 2 0), (3, .p 3 0), (5, .d (.int .i64 (wI (a72 + 1))))], [(1, .st false (eD (eMdl p0))), (2, .st false [.d .nils, .d .nils, .d .nils, .d .nils, .d .nils, .d .nils, .d .nils, .d .nils]), (3, .st false [.ls 36 0 j1.length, .ls 69 0 (a71 ++ ([(Fnc.mk (((p0.funcs.getD a72.toNat default)).type_) x75 x78)] : List Fnc)).length, .d .nils, .d .nils, .d .nils, .d .nils, .d .nils, .d .nils]), (36, .sl false 2 j1.length (fl eTyp j1)), (69, .sl false 3 (a71 ++ ([(Fnc.mk (((p0.funcs.getD a72.toNat default)).type_) x75 x78)] : List Fnc)).length (fl eFnc (a71 ++ ([(Fnc.mk (((p0.funcs.getD a72.toNat default)).type_) x75 x78)] : List Fnc))))]⟩ (And.intro True.intro True.intro) (by kernel_rfl) ?_
        exact ⟨k, ((a71 ++ ([(Fnc.mk (((p0.funcs.getD a72.toNat default)).type_) x75 x78)] : List Fnc)), (wI (a72 + 1))), Nat.lt_succ_self k, H, wk_mk [1, 2, 3, 5] [] [.k 1, .k 2, .k 3, .k 36, .k 69] True.intro (by kernel_rfl)⟩
      · replace H := ite_f H hc
        refine AW2.exit ?_
        have H := Option.some.inj H
        subst H
        exact wk_mk [1, 2, 3] [] [.k 1, .k 2, .k 3, .k 36, .k 69] True.intro (by kernel_rfl)
  · have H := H93
    refine AW2.seq ?_
    refine AW2.rg [] [1, 2, 3, 4] [] [.k 1, .k 2, .k 3] ⟨[(1, .p 1 0), (2, .p 2 0), (3, .p 3 0), (4, .d (.int .i64 0))], [(1, .st false (eD (eMdl p0))), (2, .st false [.d .nils, .d .nils, .d .nils, .d .nils, .d .nils, .d .nils, .d .nils, .d .nils]), (3, .st false [.d .nils, .d .nils, .d .nils, .d .nils, .d .nils, .d .nils, .d .nils, .d .nils])]⟩ (And.intro True.intro True.intro) (by kernel_rfl) ?_
    refine AW2.block ?_
    refine AW2.cv [.c 3 0 36 2 (fl eTyp ([] : List Typ))] [1, 2, 3, 4] [] [.k 1, .k 2, .k 3, .k 36] ⟨[(1, .p 1 0), (2, .p 2 0), (3, .p 3 0), (4, .d (.int .i64 0))], [(1, .st false (eD (eMdl p0))), (2, .st false [.d .nils, .d .nils, .d .nils, .d .nils, .d .nils, .d .nils, .d .nils, .d .nils]), (3, .st false [.ls 36 0 ([] : List Typ).length, .d .nils, .d .nils, .d .nils, .d .nils, .d .nils, .d .nils, .d .nils]), (36, .sl false 2 ([] : List Typ).length (fl eTyp ([] : List Typ)))]⟩ True.intro (by kernel_rfl) ?_
    refine AW2.lp (σ := (List Typ) × Int) (fun v => ⟨[(1, .p 1 0), (2, .p 2 0), (3, .p 3 0), (4, .d (.int .i64 v.2))], [(1, .st false (eD (eMdl p0))), (2, .st false [.d .nils, .d .nils, .d .nils, .d .nils, .d .nils, .d .nils, .d .nils, .d .nils]), (3, .st false [.ls 36 0 v.1.length, .d .nils, .d .nils, .d .nils, .d .nils, .d .nils, .d .nils, .d .nils]), (36, .sl false 2 v.1.length (fl eTyp v.1))]⟩) (fun k v => g_law08_giveModule_l7 k K p0 v.1 v.2 = some j1) ?_ K (([] : List Typ), 0) H
    rintro k ⟨a85, a86⟩ H
    dsimp only at H
    cases k with
    | zero => cases H
    | succ k =>
    unfold g_law08_giveModule_l7 at H
    refine AW2.seq ?_
    refine AW2.seq ?_
    refine AW2.rg [] [1, 2, 3, 4, 16] [] [.k 1, .k 2, .k 3, .k 36] ⟨[(1, .p 1 0), (2, .p 2 0), (3, .p 3 0), (4, .d (.int .i64 a86)), (16, .d (.bool (decide (a86 < (p0.types.length : Int)))))], [(1, .st false (eD (eMdl p0))), (2, .st false [.d .nils, .d .nils, .d .nils, .d .nils, .d .nils, .d .nils, .d .nils, .d .nils]), (3, .st false [.ls 36 0 a85.length, .d .nils, .d .nils, .d .nils, .d .nils, .d .nils, .d .nils, .d .nils]), (36, .sl false 2 a85.length (fl eTyp a85))]⟩ (And.intro True.intro True.intro) (by kernel_rfl) ?_
    refine AW2.cond (b := (decide (a86 < (p0.types.length : Int)))) rfl (fun hc => ?_) (fun hc => ?_)
    · replace H := ite_t H hc
      refine AW2.skip ?_
      refine AW2.seq ?_
      refine AW2.block ?_
      obtain ⟨h87, H⟩ := gd_some H
      obtain ⟨x88, hx89, H⟩ := bind_some H
      obtain ⟨h90, H⟩ := gd_some H
      obtain ⟨h91, H⟩ := gd_some H
      refine AW2.rg [.r (sV (eI .u8) x88), .sb ([(Typ.mk x88 (((p0.types.getD a86.toNat default)).result))] : List Typ).length (fl eTyp ([(Typ.mk x88 (((p0.types.getD a86.toNat default)).result))] : List Typ)), .s true (a85 ++ ([(Typ.mk x88 (((p0.types.getD a86.toNat default)).result))] : List Typ)).length (fl eTyp (a85 ++ ([(Typ.mk x88 (((p0.types.getD a86.toNat default)).result))] : List Typ)))] [1, 2, 3, 4] [] [.k 1, .k 2, .k 3, .k 36] ⟨[(1, .p 1 0), (2, .p 2 0), (3, .p 3 0), (4, .d (.int .i64 a86))], [(1, .st false (eD (eMdl p0))), (2, .st false [.d .nils, .d .nils, .d .nils, .d .nils, .d .nils, .d .nils, .d .nils, .d .nils]), (3, .st false [.ls 36 0 (a85 ++ ([(Typ.mk x88 (((p0.types.getD a86.toNat default)).result))] : List Typ)).length, .d .nils, .d .nils, .d .nils, .d .nils, .d .nils, .d .nils, .d .nils]), (36, .sl false 2 (a85 ++ ([(Typ.mk x88 (((p0.types.getD a86.toNat default)).result))] : List Typ)).length (fl eTyp (a85 ++ ([(Typ.mk x88 (((p0.types.getD a86.toNat default)).result))] : List Typ))))]⟩ (And.intro (And.intro h87 (And.intro (c_law08_kinds K (((p0.types.getD a86.toNat default)).params) x88 hx89) (And.intro h90 (And.intro (litF eTyp ([(Typ.mk x88 (((p0.types.getD a86.toNat default)).result))] : List Typ)) (And.intro (Nat.le_refl a85.length) (And.intro h91 (And.intro (app1 eTyp a85 (Typ.mk x88 (((p0.types.getD a86.toNat default)).result)) (fl eTyp ([(Typ.mk x88 (((p0.types.getD a86.toNat default)).result))] : List Typ)) rfl) True.intro))))))) True.intro) (by kernel_rfl) ?_
      refine AW2.rg [] [1, 2, 3, 4] [] [.k 1, .k 2, .k 3, .k 36] ⟨[(1, .p 1 0), (2, .p 2 0), (3, .p 3 0), (4, .d (.int .i64 (wI (a86 + 1))))], [(1, .st false (eD (eMdl p0))), (2, .st false [.d .nils, .d .nils, .d .nils, .d .nils, .d .nils, .d .nils, .d .nils, .d .nils]), (3, .st false [.ls 36 0 (a85 ++ ([(Typ.mk x88 (((p0.types.getD a86.toNat default)).result))] : List Typ)).length, .d .nils, .d .nils, .d .nils, .d .nils, .d .nils, .d .nils, .d .nils]), (36, .sl false 2 (a85 ++ ([(Typ.mk x88 (((p0.types.getD a86.toNat default)).result))] : List Typ)).length (fl eTyp (a85 ++ ([(Typ.mk x88 (((p0.types.getD a86.toNat default)).result))] : List Typ))))]⟩ (And.intro True.intro True.intro) (by kernel_rfl) ?_
      exact ⟨k, ((a85 ++ ([(Typ.mk x88 (((p0.types.getD a86.toNat default)).result))] : List Typ)), (wI (a86 + 1))), Nat.lt_succ_self k, H, wk_mk [1, 2, 3, 4] [] [.k 1, .k 2, .k 3, .k 36] True.intro (by kernel_rfl)⟩
    · replace H := ite_f H hc
      refine AW2.exit ?_
      have H := Option.some.inj H
      subst H
      exact wk_mk [1, 2, 3] [] [.k 1, .k 2, .k 3, .k 36] True.intro (by kernel_rfl)

end Go.Proofs.YtablleokoifolaaGreatDoor

/- Plain functions and their contracts. Written by a program of this claim set (g2.py). -/
set_option linter.unusedVariables false
set_option maxRecDepth 100000
set_option maxHeartbeats 4000000
namespace Go.Proofs.YtablleokoifolaaGreatDoor
open Go

/- mandrel/valid.result -/
def g_valid_result (p0 : Int) : Option (Bool) := some ((p0 == (0 : Int)) || ((p0 == (127 : Int)) || (p0 == (126 : Int))))

theorem c_valid_result (p0 : Int) (r : Bool) (H : g_valid_result p0 = some r) : CF E 50 [.int .u8 p0] (.bool r) := by
  refine cf_of (A := F_valid_result) fn_valid_result rfl fun fr => ?_
  unfold g_valid_result at H
  refine AW2.seq ?_
  refine AW2.rg [] [0] [] [] ⟨[(0, .d (.int .u8 p0))], []⟩ (And.intro True.intro True.intro) (by kernel_rfl) ?_
  refine AW2.seq ?_
  refine AW2.reg [] rfl (YW.to ⟨[(2, .d (.bool ((p0 == (0 : Int)) || ((p0 == (127 : Int)) || (p0 == (126 : Int))))))], []⟩ ?qh1 ?h1)
  case h1 =>
    rcases bT (p0 == (0 : Int)) with hc1 | hc1
    · exact YW.fin [(5, true), (9, true)] [] [2] [(2, .d (.bool ((p0 == (0 : Int)) || ((p0 == (127 : Int)) || (p0 == (126 : Int))))))] [] _ (And.intro (And.intro hc1 (And.intro hc1 (And.intro hc1 (And.intro (Eq.refl true) (And.intro (Eq.refl true) (And.intro (Eq.refl true) True.intro)))))) (And.intro (ovB (orT (b := ((p0 == (127 : Int)) || (p0 == (126 : Int)))) hc1)) True.intro)) (by kernel_rfl) rfl
    · rcases bT (p0 == (127 : Int)) with hc2 | hc2
      · exact YW.fin [(5, false), (9, true)] [] [2] [(2, .d (.bool ((p0 == (0 : Int)) || ((p0 == (127 : Int)) || (p0 == (126 : Int))))))] [] _ (And.intro (And.intro hc1 (And.intro hc1 (And.intro hc1 (And.intro hc2 (And.intro hc2 (And.intro hc2 True.intro)))))) (And.intro (ovB (Eq.trans (orF (b := ((p0 == (127 : Int)) || (p0 == (126 : Int)))) hc1) (orT (b := (p0 == (126 : Int))) hc2))) True.intro)) (by kernel_rfl) rfl
      · exact YW.fin [(5, false), (9, false)] [] [2] [(2, .d (.bool ((p0 == (0 : Int)) || ((p0 == (127 : Int)) || (p0 == (126 : Int))))))] [] _ (And.intro (And.intro hc1 (And.intro hc1 (And.intro hc1 (And.intro hc2 (And.intro hc2 (And.intro hc2 True.intro)))))) (And.intro (ovB (Eq.trans (orF (b := ((p0 == (127 : Int)) || (p0 == (126 : Int)))) hc1) (Eq.trans (orF (b := (p0 == (126 : Int))) hc2) (Eq.refl (p0 == (126 : Int)))))) True.intro)) (by kernel_rfl) rfl
  refine AW2.ret ?_
  have H := Option.some.inj H
  subst H
  exact retP_mk2 True.intro (by kernel_rfl)

/- mandrel/valid.kinds$1 -/
def g_valid_kinds_1 (p0 : Int) : Option (Bool) := ((if (p0 == (0 : Int)) = true then some true else ((g_valid_result p0).bind fun x1 => some (!x1)))).bind (fun j3 => some j3)

theorem c_valid_kinds_1 (p0 : Int) (r : Bool) (H : g_valid_kinds_1 p0 = some r) : CF E 49 [.int .u8 p0] (.bool r) := by
  refine cf_of (A := F_valid_kinds_1) fn_valid_kinds_1 rfl fun fr => ?_
  unfold g_valid_kinds_1 at H
  refine AW2.seq ?_
  refine AW2.rg [] [0] [] [] ⟨[(0, .d (.int .u8 p0))], []⟩ (And.intro True.intro True.intro) (by kernel_rfl) ?_
  refine AW2.seq ?_
  obtain ⟨j3, H5, H⟩ := bind_some H
  refine AW2.reg [] rfl (YW.to ⟨[(2, .d (.bool j3))], []⟩ ?qh6 ?h6)
  case h6 =>
    have H := H5
    rcases bT (p0 == (0 : Int)) with hc1 | hc1
    · replace H := ite_t H hc1
      have H := Option.some.inj H
      subst H
      exact YW.fin [(5, true)] [] [2] [] [] _ (And.intro (And.intro hc1 (And.intro hc1 (And.intro hc1 (And.intro hc1 True.intro)))) True.intro) (by kernel_rfl) rfl
    · replace H := ite_f H hc1
      obtain ⟨x1, hx2, H⟩ := bind_some H
      have H := Option.some.inj H
      subst H
      exact YW.fin [(5, false)] [.r (.bool x1)] [2] [] [] _ (And.intro (And.intro hc1 (And.intro hc1 (And.intro (c_valid_result p0 x1 hx2) (And.intro hc1 (And.intro hc1 True.intro))))) True.intro) (by kernel_rfl) rfl
  refine AW2.ret ?_
  have H := Option.some.inj H
  subst H
  exact retP_mk2 True.intro (by kernel_rfl)

/- slices.IndexFunc[[]mandrel/api.Kind,mandrel/api.Kind] -/
def g_slices_IndexFunc_api_Kind_api_Kind_l0 : Nat → (List Int) → (Int → Option Bool) → Int → Option (Int)
  | 0, _, _, _ => none
  | k+1, p0, pp1, a2 => (if (decide (a2 < (p0.length : Int))) = true then gd (0 ≤ a2 ∧ a2 < (p0.length : Int)) (((pp1 (p0.getD a2.toNat default)).bind fun x4 => (if x4 = true then some a2 else g_slices_IndexFunc_api_Kind_api_Kind_l0 k p0 pp1 (wI (a2 + 1))))) else some (-1))

def g_slices_IndexFunc_api_Kind_api_Kind (K : Nat) (p0 : List Int) (pp1 : Int → Option Bool) : Option (Int) := g_slices_IndexFunc_api_Kind_api_Kind_l0 K p0 pp1 0

theorem c_slices_IndexFunc_api_Kind_api_Kind_n0 (K : Nat) (p0 : List Int) (pf1 : Nat) (pp1 : Int → Option Bool) (hp1 : ∀ x0 b, pp1 x0 = some b → CF E pf1 [.int .u8 x0] (.bool b)) (r : Int) (H : g_slices_IndexFunc_api_Kind_api_Kind K p0 pp1 = some r) : CF E 66 [sV (eI .u8) p0, .func pf1 []] (.int .i64 r) := by
  refine cf_of (A := F_slices_IndexFunc_api_Kind_api_Kind) fn_slices_IndexFunc_api_Kind_api_Kind rfl fun fr => ?_
  unfold g_slices_IndexFunc_api_Kind_api_Kind at H
  refine AW2.seq ?_
  refine AW2.rg [] [0, 1] [] [] ⟨[(0, .d (sV (eI .u8) p0)), (1, .d (.func pf1 []))], []⟩ (And.intro True.intro True.intro) (by kernel_rfl) ?_
  refine AW2.seq ?_
  refine AW2.seq ?_
  refine AW2.rg [] [0, 1, 7, 8] [] [] ⟨[(0, .d (sV (eI .u8) p0)), (1, .d (.func pf1 [])), (7, .d (.int .i64 (p0.length : Int))), (8, .d (.int .i64 0))], []⟩ (And.intro True.intro True.intro) (by kernel_rfl) ?_
  refine AW2.block ?_
  refine AW2.lp (σ := Int) (fun v => ⟨[(0, .d (sV (eI .u8) p0)), (1, .d (.func pf1 [])), (7, .d (.int .i64 (p0.length : Int))), (8, .d (.int .i64 v))], []⟩) (fun k v => g_slices_IndexFunc_api_Kind_api_Kind_l0 k p0 pp1 v = some r) ?_ K 0 H
  rintro k a2 H
  cases k with
  | zero => cases H
  | succ k =>
  unfold g_slices_IndexFunc_api_Kind_api_Kind_l0 at H
  refine AW2.seq ?_
  refine AW2.rg [] [0, 1, 7, 8, 9] [] [] ⟨[(0, .d (sV (eI .u8) p0)), (1, .d (.func pf1 [])), (7, .d (.int .i64 (p0.length : Int))), (8, .d (.int .i64 a2)), (9, .d (.bool (decide (a2 < (p0.length : Int)))))], []⟩ (And.intro True.intro True.intro) (by kernel_rfl) ?_
  refine AW2.seq ?_
  refine AW2.cond (b := (decide (a2 < (p0.length : Int)))) rfl (fun hc => ?_) (fun hc => ?_)
  · replace H := ite_t H hc
    refine AW2.skip ?_
    refine AW2.seq ?_
    refine AW2.block ?_
    refine AW2.seq ?_
    refine AW2.rg [] [0, 1, 5, 7, 8] [] [] ⟨[(0, .d (sV (eI .u8) p0)), (1, .d (.func pf1 [])), (5, .d (.int .i64 a2)), (7, .d (.int .i64 (p0.length : Int))), (8, .d (.int .i64 a2))], []⟩ (And.intro True.intro True.intro) (by kernel_rfl) ?_
    refine AW2.seq ?_
    obtain ⟨h3, H⟩ := gd_some H
    obtain ⟨x4, hx5, H⟩ := bind_some H
    refine AW2.rg [.r (.bool x4)] [0, 1, 5, 7, 8, 16] [] [] ⟨[(0, .d (sV (eI .u8) p0)), (1, .d (.func pf1 [])), (5, .d (.int .i64 a2)), (7, .d (.int .i64 (p0.length : Int))), (8, .d (.int .i64 a2)), (16, .d (.bool x4))], []⟩ (And.intro (And.intro h3 (And.intro (hp1 (p0.getD a2.toNat default) x4 hx5) True.intro)) True.intro) (by kernel_rfl) ?_
    refine AW2.cond (b := x4) rfl (fun hc => ?_) (fun hc => ?_)
    · replace H := ite_t H hc
      refine AW2.seq ?_
      refine AW2.rg [] [4] [] [] ⟨[(4, .d (.int .i64 a2))], []⟩ (And.intro True.intro True.intro) (by kernel_rfl) ?_
      refine AW2.ret ?_
      have H := Option.some.inj H
      subst H
      exact retP_mk2 True.intro (by kernel_rfl)
    · replace H := ite_f H hc
      refine AW2.skip ?_
      refine AW2.rg [] [0, 1, 7, 8] [] [] ⟨[(0, .d (sV (eI .u8) p0)), (1, .d (.func pf1 [])), (7, .d (.int .i64 (p0.length : Int))), (8, .d (.int .i64 (wI (a2 + 1))))], []⟩ (And.intro True.intro True.intro) (by kernel_rfl) ?_
      exact ⟨k, (wI (a2 + 1)), Nat.lt_succ_self k, H, wk_mk [0, 1, 7, 8] [] [] True.intro (by kernel_rfl)⟩
  · replace H := ite_f H hc
    refine AW2.exit ?_
    refine AW2.seq ?_
    refine AW2.rg [] [4] [] [] ⟨[(4, .d (.int .i64 (-1)))], []⟩ (And.intro True.intro True.intro) (by kernel_rfl) ?_
    refine AW2.ret ?_
    have H := Option.some.inj H
    subst H
    exact retP_mk2 True.intro (by kernel_rfl)

/- slices.ContainsFunc[[]mandrel/api.Kind,mandrel/api.Kind] -/
def g_slices_ContainsFunc_api_Kind_api_Kind (K : Nat) (p0 : List Int) (pp1 : Int → Option Bool) : Option (Bool) := ((g_slices_IndexFunc_api_Kind_api_Kind K p0 pp1).bind fun x1 => some (decide (x1 ≥ (0 : Int))))

theorem c_slices_ContainsFunc_api_Kind_api_Kind_n0 (K : Nat) (p0 : List Int) (pf1 : Nat) (pp1 : Int → Option Bool) (hp1 : ∀ x0 b, pp1 x0 = some b → CF E pf1 [.int .u8 x0] (.bool b)) (r : Bool) (H : g_slices_ContainsFunc_api_Kind_api_Kind K p0 pp1 = some r) : CF E 51 [sV (eI .u8) p0, .func pf1 []] (.bool r) := by
  refine cf_of (A := F_slices_ContainsFunc_api_Kind_api_Kind) fn_slices_ContainsFunc_api_Kind_api_Kind rfl fun fr => ?_
  unfold g_slices_ContainsFunc_api_Kind_api_Kind at H
  refine AW2.seq ?_
  refine AW2.rg [] [0, 1] [] [] ⟨[(0, .d (sV (eI .u8) p0)), (1, .d (.func pf1 []))], []⟩ (And.intro True.intro True.intro) (by kernel_rfl) ?_
  refine AW2.seq ?_
  obtain ⟨x1, hx2, H⟩ := bind_some H
  refine AW2.rg [.r (.int .i64 x1)] [4] [] [] ⟨[(4, .d (.bool (decide (x1 ≥ (0 : Int)))))], []⟩ (And.intro (And.intro (c_slices_IndexFunc_api_Kind_api_Kind_n0 K p0 pf1 pp1 hp1 x1 hx2) True.intro) True.intro) (by kernel_rfl) ?_
  refine AW2.ret ?_
  have H := Option.some.inj H
  subst H
  exact retP_mk2 True.intro (by kernel_rfl)

/- slices.IndexFunc[[]mandrel/api.Global,mandrel/api.Global] -/
def g_slices_IndexFunc_api_Global_api_Global_l0 : Nat → (List Glo) → (Glo → Option Bool) → Int → Option (Int)
  | 0, _, _, _ => none
  | k+1, p0, pp1, a2 => (if (decide (a2 < (p0.length : Int))) = true then gd (0 ≤ a2 ∧ a2 < (p0.length : Int)) (((pp1 (p0.getD a2.toNat default)).bind fun x4 => (if x4 = true then some a2 else g_slices_IndexFunc_api_Global_api_Global_l0 k p0 pp1 (wI (a2 + 1))))) else some (-1))

def g_slices_IndexFunc_api_Global_api_Global (K : Nat) (p0 : List Glo) (pp1 : Glo → Option Bool) : Option (Int) := g_slices_IndexFunc_api_Global_api_Global_l0 K p0 pp1 0

theorem c_slices_IndexFunc_api_Global_api_Global_n1 (K : Nat) (p0 : List Glo) (pf1 : Nat) (pc1_0 : List FV) (pp1 : Glo → Option Bool) (hp1 : ∀ x0 b, pp1 x0 = some b → CF E pf1 [.agg (eGlo x0), .fp pc1_0] (.bool b)) (r : Int) (H : g_slices_IndexFunc_api_Global_api_Global K p0 pp1 = some r) : CF E 67 [sV eGlo p0, .func pf1 [.fp pc1_0]] (.int .i64 r) := by
  refine cf_of (A := F_slices_IndexFunc_api_Global_api_Global) fn_slices_IndexFunc_api_Global_api_Global rfl fun fr => ?_
  unfold g_slices_IndexFunc_api_Global_api_Global at H
  refine AW2.seq ?_
  refine AW2.rg [] [0, 1] [] [] ⟨[(0, .d (sV eGlo p0)), (1, .d (.func pf1 [.fp pc1_0]))], []⟩ (And.intro True.intro True.intro) (by kernel_rfl) ?_
  refine AW2.seq ?_
  refine AW2.seq ?_
  refine AW2.rg [] [0, 1, 7, 8] [] [] ⟨[(0, .d (sV eGlo p0)), (1, .d (.func pf1 [.fp pc1_0])), (7, .d (.int .i64 (p0.length : Int))), (8, .d (.int .i64 0))], []⟩ (And.intro True.intro True.intro) (by kernel_rfl) ?_
  refine AW2.block ?_
  refine AW2.lp (σ := Int) (fun v => ⟨[(0, .d (sV eGlo p0)), (1, .d (.func pf1 [.fp pc1_0])), (7, .d (.int .i64 (p0.length : Int))), (8, .d (.int .i64 v))], []⟩) (fun k v => g_slices_IndexFunc_api_Global_api_Global_l0 k p0 pp1 v = some r) ?_ K 0 H
  rintro k a2 H
  cases k with
  | zero => cases H
  | succ k =>
  unfold g_slices_IndexFunc_api_Global_api_Global_l0 at H
  refine AW2.seq ?_
  refine AW2.rg [] [0, 1, 7, 8, 9] [] [] ⟨[(0, .d (sV eGlo p0)), (1, .d (.func pf1 [.fp pc1_0])), (7, .d (.int .i64 (p0.length : Int))), (8, .d (.int .i64 a2)), (9, .d (.bool (decide (a2 < (p0.length : Int)))))], []⟩ (And.intro True.intro True.intro) (by kernel_rfl) ?_
  refine AW2.seq ?_
  refine AW2.cond (b := (decide (a2 < (p0.length : Int)))) rfl (fun hc => ?_) (fun hc => ?_)
  · replace H := ite_t H hc
    refine AW2.skip ?_
    refine AW2.seq ?_
    refine AW2.block ?_
    refine AW2.seq ?_
    refine AW2.rg [] [0, 1, 5, 7, 8] [] [] ⟨[(0, .d (sV eGlo p0)), (1, .d (.func pf1 [.fp pc1_0])), (5, .d (.int .i64 a2)), (7, .d (.int .i64 (p0.length : Int))), (8, .d (.int .i64 a2))], []⟩ (And.intro True.intro True.intro) (by kernel_rfl) ?_
    refine AW2.seq ?_
    obtain ⟨h3, H⟩ := gd_some H
    obtain ⟨x4, hx5, H⟩ := bind_some H
    refine AW2.rg [.r (.bool x4)] [0, 1, 5, 7, 8, 16] [] [] ⟨[(0, .d (sV eGlo p0)), (1, .d (.func pf1 [.fp pc1_0])), (5, .d (.int .i64 a2)), (7, .d (.int .i64 (p0.length : Int))), (8, .d (.int .i64 a2)), (16, .d (.bool x4))], []⟩ (And.intro (And.intro h3 (And.intro (hp1 (p0.getD a2.toNat default) x4 hx5) True.intro)) True.intro) (by kernel_rfl) ?_
    refine AW2.cond (b := x4) rfl (fun hc => ?_) (fun hc => ?_)
    · replace H := ite_t H hc
      refine AW2.seq ?_
      refine AW2.rg [] [4] [] [] ⟨[(4, .d (.int .i64 a2))], []⟩ (And.intro True.intro True.intro) (by kernel_rfl) ?_
      refine AW2.ret ?_
      have H := Option.some.inj H
      subst H
      exact retP_mk2 True.intro (by kernel_rfl)
    · replace H := ite_f H hc
      refine AW2.skip ?_
      refine AW2.rg [] [0, 1, 7, 8] [] [] ⟨[(0, .d (sV eGlo p0)), (1, .d (.func pf1 [.fp pc1_0])), (7, .d (.int .i64 (p0.length : Int))), (8, .d (.int .i64 (wI (a2 + 1))))], []⟩ (And.intro True.intro True.intro) (by kernel_rfl) ?_
      exact ⟨k, (wI (a2 + 1)), Nat.lt_succ_self k, H, wk_mk [0, 1, 7, 8] [] [] True.intro (by kernel_rfl)⟩
  · replace H := ite_f H hc
    refine AW2.exit ?_
    refine AW2.seq ?_
    refine AW2.rg [] [4] [] [] ⟨[(4, .d (.int .i64 (-1)))], []⟩ (And.intro True.intro True.intro) (by kernel_rfl) ?_
    refine AW2.ret ?_
    have H := Option.some.inj H
    subst H
    exact retP_mk2 True.intro (by kernel_rfl)

/- slices.ContainsFunc[[]mandrel/api.Global,mandrel/api.Global] -/
def g_slices_ContainsFunc_api_Global_api_Global (K : Nat) (p0 : List Glo) (pp1 : Glo → Option Bool) : Option (Bool) := ((g_slices_IndexFunc_api_Global_api_Global K p0 pp1).bind fun x1 => some (decide (x1 ≥ (0 : Int))))

theorem c_slices_ContainsFunc_api_Global_api_Global_n1 (K : Nat) (p0 : List Glo) (pf1 : Nat) (pc1_0 : List FV) (pp1 : Glo → Option Bool) (hp1 : ∀ x0 b, pp1 x0 = some b → CF E pf1 [.agg (eGlo x0), .fp pc1_0] (.bool b)) (r : Bool) (H : g_slices_ContainsFunc_api_Global_api_Global K p0 pp1 = some r) : CF E 53 [sV eGlo p0, .func pf1 [.fp pc1_0]] (.bool r) := by
  refine cf_of (A := F_slices_ContainsFunc_api_Global_api_Global) fn_slices_ContainsFunc_api_Global_api_Global rfl fun fr => ?_
  unfold g_slices_ContainsFunc_api_Global_api_Global at H
  refine AW2.seq ?_
  refine AW2.rg [] [0, 1] [] [] ⟨[(0, .d (sV eGlo p0)), (1, .d (.func pf1 [.fp pc1_0]))], []⟩ (And.intro True.intro True.intro) (by kernel_rfl) ?_
  refine AW2.seq ?_
  obtain ⟨x1, hx2, H⟩ := bind_some H
  refine AW2.rg [.r (.int .i64 x1)] [4] [] [] ⟨[(4, .d (.bool (decide (x1 ≥ (0 : Int)))))], []⟩ (And.intro (And.intro (c_slices_IndexFunc_api_Global_api_Global_n1 K p0 pf1 pc1_0 pp1 hp1 x1 hx2) True.intro) True.intro) (by kernel_rfl) ?_
  refine AW2.ret ?_
  have H := Option.some.inj H
  subst H
  exact retP_mk2 True.intro (by kernel_rfl)

/- mandrel/valid.kinds$2 -/
def g_valid_kinds_2 (p0 : Glo) : Option (Bool) := ((g_valid_kinds_1 p0.kind).bind fun x1 => some x1)

theorem c_valid_kinds_2 (p0 : Glo) (r : Bool) (H : g_valid_kinds_2 p0 = some r) : CF E 52 [.agg (eGlo p0), .fp [.func 49 []]] (.bool r) := by
  refine cf_of (A := F_valid_kinds_2) fn_valid_kinds_2 rfl fun fr => ?_
  unfold g_valid_kinds_2 at H
  refine AW2.seq ?_
  refine AW2.rg [.k 2] [1, 2] [] [.k 2] ⟨[(1, .d (.fp ([.func 49 []]))), (2, .p 2 0)], [(2, .st false (eD (eGlo p0)))]⟩ (And.intro True.intro True.intro) (by kernel_rfl) ?_
  refine AW2.seq ?_
  obtain ⟨x1, hx2, H⟩ := bind_some H
  refine AW2.rg [.r (.bool x1)] [3] [] [] ⟨[(3, .d (.bool x1))], []⟩ (And.intro (And.intro (c_valid_kinds_1 p0.kind x1 hx2) True.intro) True.intro) (by kernel_rfl) ?_
  refine AW2.ret ?_
  have H := Option.some.inj H
  subst H
  exact retP_mk2 True.intro (by kernel_rfl)

/- mandrel/valid.kinds -/
def g_valid_kinds_l1 : Nat → Nat → Mdl → Int → Option (Bool)
  | 0, _, _, _ => none
  | k+1, K, p0, a13 => (if (decide (a13 < (p0.funcs.length : Int))) = true then gd (0 ≤ a13 ∧ a13 < (p0.funcs.length : Int)) (((g_slices_ContainsFunc_api_Kind_api_Kind K (((p0.funcs.getD a13.toNat default)).locals) (fun x => g_valid_kinds_1 x)).bind fun x15 => (if x15 = true then some false else g_valid_kinds_l1 k K p0 (wI (a13 + 1))))) else ((g_slices_ContainsFunc_api_Global_api_Global K p0.globals (fun x => g_valid_kinds_2 x)).bind fun x17 => some (!x17)))

def g_valid_kinds_l0 : Nat → Nat → Mdl → Int → Option (Bool)
  | 0, _, _, _ => none
  | k+1, K, p0, a2 => (if (decide (a2 < (p0.types.length : Int))) = true then gd (0 ≤ a2 ∧ a2 < (p0.types.length : Int)) (((g_valid_result (((p0.types.getD a2.toNat default)).result)).bind fun x4 => ((if (!x4) = true then some true else ((g_slices_ContainsFunc_api_Kind_api_Kind K (((p0.types.getD a2.toNat default)).params) (fun x => g_valid_kinds_1 x)).bind fun x6 => some x6))).bind (fun j8 => (if j8 = true then some false else g_valid_kinds_l0 k K p0 (wI (a2 + 1)))))) else g_valid_kinds_l1 K K p0 0)

def g_valid_kinds (K : Nat) (p0 : Mdl) : Option (Bool) := g_valid_kinds_l0 K K p0 0

theorem c_valid_kinds (K : Nat) (p0 : Mdl) (r : Bool) (H : g_valid_kinds K p0 = some r) : CF E 31 [.agg (eMdl p0)] (.bool r) := by
  refine cf_of (A := F_valid_kinds) fn_valid_kinds rfl fun fr => ?_
  unfold g_valid_kinds at H
  refine AW2.seq ?_
  refine AW2.rg [.k 1] [1] [] [.k 1] ⟨[(1, .p 1 0)], [(1, .st false (eD (eMdl p0)))]⟩ (And.intro True.intro True.intro) (by kernel_rfl) ?_
  refine AW2.seq ?_
  refine AW2.rg [.k 3] [1, 3] [] [.k 1, .k 3] ⟨[(1, .p 1 0), (3, .p 3 0)], [(1, .st false (eD (eMdl p0))), (3, .st false [.d (.func 49 [])])]⟩ (And.intro True.intro True.intro) (by kernel_rfl) ?_
  refine AW2.seq ?_
  refine AW2.seq ?_
  refine AW2.rg [] [1, 3, 9, 10, 11] [] [.k 1, .k 3] ⟨[(1, .p 1 0), (3, .p 3 0), (9, .d (sV eTyp p0.types)), (10, .d (.int .i64 (p0.types.length : Int))), (11, .d (.int .i64 0))], [(1, .st false (eD (eMdl p0))), (3, .st false [.d (.func 49 [])])]⟩ (And.intro True.intro True.intro) (by kernel_rfl) ?_
  refine AW2.block ?_
  refine AW2.lp (σ := Int) (fun v => ⟨[(1, .p 1 0), (3, .p 3 0), (9, .d (sV eTyp p0.types)), (10, .d (.int .i64 (p0.types.length : Int))), (11, .d (.int .i64 v))], [(1, .st false (eD (eMdl p0))), (3, .st false [.d (.func 49 [])])]⟩) (fun k v => g_valid_kinds_l0 k K p0 v = some r) ?_ K 0 H
  rintro k a2 H
  cases k with
  | zero => cases H
  | succ k =>
  unfold g_valid_kinds_l0 at H
  refine AW2.seq ?_
  refine AW2.rg [] [1, 3, 9, 10, 11, 12] [] [.k 1, .k 3] ⟨[(1, .p 1 0), (3, .p 3 0), (9, .d (sV eTyp p0.types)), (10, .d (.int .i64 (p0.types.length : Int))), (11, .d (.int .i64 a2)), (12, .d (.bool (decide (a2 < (p0.types.length : Int)))))], [(1, .st false (eD (eMdl p0))), (3, .st false [.d (.func 49 [])])]⟩ (And.intro True.intro True.intro) (by kernel_rfl) ?_
  refine AW2.seq ?_
  refine AW2.cond (b := (decide (a2 < (p0.types.length : Int)))) rfl (fun hc => ?_) (fun hc => ?_)
  · replace H := ite_t H hc
    refine AW2.skip ?_
    refine AW2.seq ?_
    refine AW2.block ?_
    refine AW2.seq ?_
    obtain ⟨h3, H⟩ := gd_some H
    refine AW2.rg [.k 5] [1, 3, 5, 9, 10, 11] [] [.k 1, .k 3, .k 5] ⟨[(1, .p 1 0), (3, .p 3 0), (5, .p 5 0), (9, .d (sV eTyp p0.types)), (10, .d (.int .i64 (p0.types.length : Int))), (11, .d (.int .i64 a2))], [(1, .st false (eD (eMdl p0))), (3, .st false [.d (.func 49 [])]), (5, .st false (eD (eTyp (p0.types.getD a2.toNat default))))]⟩ (And.intro (And.intro h3 True.intro) True.intro) (by kernel_rfl) ?_
    refine AW2.seq ?_
    obtain ⟨x4, hx5, H⟩ := bind_some H
    obtain ⟨j8, H10, H⟩ := bind_some H
    refine AW2.reg [] rfl (YW.to ⟨[(1, .p 1 0), (3, .p 3 0), (9, .d (sV eTyp p0.types)), (10, .d (.int .i64 (p0.types.length : Int))), (11, .d (.int .i64 a2)), (24, .d (.bool j8))], [(1, .st false (eD (eMdl p0))), (3, .st false [.d (.func 49 [])])]⟩ ?qh11 ?h11)
    case h11 =>
      have H := H10
      rcases bT (!x4) with hc1 | hc1
      · replace H := ite_t H hc1
        have H := Option.some.inj H
        subst H
        exact YW.fin [(19, true)] [.r (.bool x4)] [1, 3, 9, 10, 11, 24] [] [.k 1, .k 3] _ (And.intro (And.intro (c_valid_result (((p0.types.getD a2.toNat default)).result) x4 hx5) (And.intro hc1 (And.intro hc1 (And.intro hc1 (And.intro hc1 (And.intro hc1 True.intro)))))) True.intro) (by kernel_rfl) rfl
      · replace H := ite_f H hc1
        obtain ⟨x6, hx7, H⟩ := bind_some H
        have H := Option.some.inj H
        subst H
        exact YW.fin [(19, false)] [.r (.bool x4), .r (.bool x6)] [1, 3, 9, 10, 11, 24] [] [.k 1, .k 3] _ (And.intro (And.intro (c_valid_result (((p0.types.getD a2.toNat default)).result) x4 hx5) (And.intro hc1 (And.intro hc1 (And.intro hc1 (And.intro hc1 (And.intro (c_slices_ContainsFunc_api_Kind_api_Kind_n0 K (((p0.types.getD a2.toNat default)).params) 49 (fun x => g_valid_kinds_1 x) (fun x b hb => c_valid_kinds_1 x b hb) x6 hx7) (And.intro hc1 True.intro))))))) True.intro) (by kernel_rfl) rfl
    refine AW2.cond (b := j8) rfl (fun hc => ?_) (fun hc => ?_)
    · replace H := ite_t H hc
      refine AW2.seq ?_
      refine AW2.rg [] [2] [] [] ⟨[(2, .d (.bool false))], []⟩ (And.intro True.intro True.intro) (by kernel_rfl) ?_
      refine AW2.ret ?_
      have H := Option.some.inj H
      subst H
      exact retP_mk2 True.intro (by kernel_rfl)
    · replace H := ite_f H hc
      refine AW2.skip ?_
      refine AW2.rg [] [1, 3, 9, 10, 11] [] [.k 1, .k 3] ⟨[(1, .p 1 0), (3, .p 3 0), (9, .d (sV eTyp p0.types)), (10, .d (.int .i64 (p0.types.length : Int))), (11, .d (.int .i64 (wI (a2 + 1))))], [(1, .st false (eD (eMdl p0))), (3, .st false [.d (.func 49 [])])]⟩ (And.intro True.intro True.intro) (by kernel_rfl) ?_
      exact ⟨k, (wI (a2 + 1)), Nat.lt_succ_self k, H, wk_mk [1, 3, 9, 10, 11] [] [.k 1, .k 3] True.intro (by kernel_rfl)⟩
  · replace H := ite_f H hc
    refine AW2.exit ?_
    refine AW2.seq ?_
    refine AW2.seq ?_
    refine AW2.rg [] [1, 3, 27, 28, 29] [] [.k 1, .k 3] ⟨[(1, .p 1 0), (3, .p 3 0), (27, .d (sV eFnc p0.funcs)), (28, .d (.int .i64 (p0.funcs.length : Int))), (29, .d (.int .i64 0))], [(1, .st false (eD (eMdl p0))), (3, .st false [.d (.func 49 [])])]⟩ (And.intro True.intro True.intro) (by kernel_rfl) ?_
    refine AW2.block ?_
    refine AW2.lp (σ := Int) (fun v => ⟨[(1, .p 1 0), (3, .p 3 0), (27, .d (sV eFnc p0.funcs)), (28, .d (.int .i64 (p0.funcs.length : Int))), (29, .d (.int .i64 v))], [(1, .st false (eD (eMdl p0))), (3, .st false [.d (.func 49 [])])]⟩) (fun k v => g_valid_kinds_l1 k K p0 v = some r) ?_ K 0 H
    rintro k a13 H
    cases k with
    | zero => cases H
    | succ k =>
    unfold g_valid_kinds_l1 at H
    refine AW2.seq ?_
    refine AW2.rg [] [1, 3, 27, 28, 29, 30] [] [.k 1, .k 3] ⟨[(1, .p 1 0), (3, .p 3 0), (27, .d (sV eFnc p0.funcs)), (28, .d (.int .i64 (p0.funcs.length : Int))), (29, .d (.int .i64 a13)), (30, .d (.bool (decide (a13 < (p0.funcs.length : Int)))))], [(1, .st false (eD (eMdl p0))), (3, .st false [.d (.func 49 [])])]⟩ (And.intro True.intro True.intro) (by kernel_rfl) ?_
    refine AW2.seq ?_
    refine AW2.cond (b := (decide (a13 < (p0.funcs.length : Int)))) rfl (fun hc => ?_) (fun hc => ?_)
    · replace H := ite_t H hc
      refine AW2.skip ?_
      refine AW2.seq ?_
      refine AW2.block ?_
      refine AW2.seq ?_
      obtain ⟨h14, H⟩ := gd_some H
      refine AW2.rg [.k 7] [1, 3, 7, 27, 28, 29] [] [.k 1, .k 3, .k 7] ⟨[(1, .p 1 0), (3, .p 3 0), (7, .p 7 0), (27, .d (sV eFnc p0.funcs)), (28, .d (.int .i64 (p0.funcs.length : Int))), (29, .d (.int .i64 a13))], [(1, .st false (eD (eMdl p0))), (3, .st false [.d (.func 49 [])]), (7, .st false (eD (eFnc (p0.funcs.getD a13.toNat default))))]⟩ (And.intro (And.intro h14 True.intro) True.intro) (by kernel_rfl) ?_
      refine AW2.seq ?_
      obtain ⟨x15, hx16, H⟩ := bind_some H
      refine AW2.rg [.r (.bool x15)] [1, 3, 27, 28, 29, 36] [] [.k 1, .k 3] ⟨[(1, .p 1 0), (3, .p 3 0), (27, .d (sV eFnc p0.funcs)), (28, .d (.int .i64 (p0.funcs.length : Int))), (29, .d (.int .i64 a13)), (36, .d (.bool x15))], [(1, .st false (eD (eMdl p0))), (3, .st false [.d (.func 49 [])])]⟩ (And.intro (And.intro (c_slices_ContainsFunc_api_Kind_api_Kind_n0 K (((p0.funcs.getD a13.toNat default)).locals) 49 (fun x => g_valid_kinds_1 x) (fun x b hb => c_valid_kinds_1 x b hb) x15 hx16) True.intro) True.intro) (by kernel_rfl) ?_
      refine AW2.cond (b := x15) rfl (fun hc => ?_) (fun hc => ?_)
      · replace H := ite_t H hc
        refine AW2.seq ?_
        refine AW2.rg [] [2] [] [] ⟨[(2, .d (.bool false))], []⟩ (And.intro True.intro True.intro) (by kernel_rfl) ?_
        refine AW2.ret ?_
        have H := Option.some.inj H
        subst H
        exact retP_mk2 True.intro (by kernel_rfl)
      · replace H := ite_f H hc
        refine AW2.skip ?_
        refine AW2.rg [] [1, 3, 27, 28, 29] [] [.k 1, .k 3] ⟨[(1, .p 1 0), (3, .p 3 0), (27, .d (sV eFnc p0.funcs)), (28, .d (.int .i64 (p0.funcs.length : Int))), (29, .d (.int .i64 (wI (a13 + 1))))], [(1, .st false (eD (eMdl p0))), (3, .st false [.d (.func 49 [])])]⟩ (And.intro True.intro True.intro) (by kernel_rfl) ?_
        exact ⟨k, (wI (a13 + 1)), Nat.lt_succ_self k, H, wk_mk [1, 3, 27, 28, 29] [] [.k 1, .k 3] True.intro (by kernel_rfl)⟩
    · replace H := ite_f H hc
      refine AW2.exit ?_
      refine AW2.seq ?_
      obtain ⟨x17, hx18, H⟩ := bind_some H
      refine AW2.rg [.r (.bool x17)] [2] [] [] ⟨[(2, .d (.bool (!x17)))], []⟩ (And.intro (And.intro (c_slices_ContainsFunc_api_Global_api_Global_n1 K p0.globals 52 [.func 49 []] (fun x => g_valid_kinds_2 x) (fun x b hb => c_valid_kinds_2 x b hb) x17 hx18) True.intro) True.intro) (by kernel_rfl) ?_
      refine AW2.ret ?_
      have H := Option.some.inj H
      subst H
      exact retP_mk2 True.intro (by kernel_rfl)

/- slices.Concat[[]mandrel/api.Kind,mandrel/api.Kind] -/
def g_slices_Concat_api_Kind_api_Kind_l0 : Nat → (List (List Int)) → (List Int) → Int → Option ((List Int))
  | 0, _, _, _ => none
  | k+1, p0, a6, a7 => (if (decide (a7 < (p0.length : Int))) = true then gd (0 ≤ a7 ∧ a7 < (p0.length : Int)) (gd ((a6.length + (p0.getD a7.toNat default).length) * 1 ≤ 140737488355328) (g_slices_Concat_api_Kind_api_Kind_l0 k p0 (a6 ++ (p0.getD a7.toNat default)) (wI (a7 + 1)))) else some a6)

def g_slices_Concat_api_Kind_api_Kind_l1 : Nat → (List (List Int)) → Int → Int → Option (Int)
  | 0, _, _, _ => none
  | k+1, p0, a14, a15 => (if (decide (a14 < (p0.length : Int))) = true then (gd (0 ≤ a14 ∧ a14 < (p0.length : Int)) ((if (decide ((wI (a15 + ((p0.getD a14.toNat default).length : Int))) < (0 : Int))) = true then none else some ()))).bind (fun _ => g_slices_Concat_api_Kind_api_Kind_l1 k p0 (wI (a14 + 1)) (wI (a15 + ((p0.getD a14.toNat default).length : Int)))) else some a15)

def g_slices_Concat_api_Kind_api_Kind (K : Nat) (p0 : List (List Int)) : Option (List Int) := (g_slices_Concat_api_Kind_api_Kind_l1 K p0 0 0).bind (fun j1 => gd (0 ≤ j1 ∧ j1 ≤ 140737488355328) ((g_slices_Concat_api_Kind_api_Kind_l0 K p0 ([] : List Int) 0).bind (fun j3 => some j3)))

theorem c_slices_Concat_api_Kind_api_Kind (K : Nat) (p0 : List (List Int)) (r : List Int) (H : g_slices_Concat_api_Kind_api_Kind K p0 = some r) : CF E 38 [sV (eL (eI .u8)) p0] (sV (eI .u8) r) := by
  refine cf_of (A := F_slices_Concat_api_Kind_api_Kind) fn_slices_Concat_api_Kind_api_Kind rfl fun fr => ?_
  unfold g_slices_Concat_api_Kind_api_Kind at H
  refine AW2.seq ?_
  refine AW2.rg [] [0] [] [] ⟨[(0, .d (sV (eL (eI .u8)) p0))], []⟩ (And.intro True.intro True.intro) (by kernel_rfl) ?_
  refine AW2.seq ?_
  refine AW2.rg [] [0, 3] [] [] ⟨[(0, .d (sV (eL (eI .u8)) p0)), (3, .d (.int .i64 0))], []⟩ (And.intro True.intro True.intro) (by kernel_rfl) ?_
  obtain ⟨j1, H20, H⟩ := bind_some H
  refine AW2.mid ⟨[(0, .d (sV (eL (eI .u8)) p0)), (3, .d (.int .i64 j1))], []⟩ ?_ ?_
  · refine AW2.seq ?_
    obtain ⟨h2, H⟩ := gd_some H
    refine AW2.rg [.c [] [900] [] (.ls 900 0 0) [(900, .sl false 1 0 (fl (eI .u8) ([] : List Int)))]] [0, 6] [] [.k 900] ⟨[(0, .d (sV (eL (eI .u8)) p0)), (6, .ls 900 0 ([] : List Int).length)], [(900, .sl false 1 ([] : List Int).length (fl (eI .u8) ([] : List Int)))]⟩ (And.intro (And.intro (c_slices_Grow1 j1 h2) True.intro) True.intro) (by kernel_rfl) ?_
    obtain ⟨j3, H11, H⟩ := bind_some H
    refine AW2.mid ⟨[(6, .ls 900 0 j3.length)], [(900, .sl false 1 j3.length (fl (eI .u8) j3))]⟩ ?_ ?_
    · refine AW2.seq ?_
      refine AW2.rg [] [2] [] [.k 900] ⟨[(2, .ls 900 0 j3.length)], [(900, .sl false 1 j3.length (fl (eI .u8) j3))]⟩ (And.intro True.intro True.intro) (by kernel_rfl) ?_
      refine AW2.ret ?_
      have H := Option.some.inj H
      subst H
      exact retP_mk2 (And.intro (Nat.le_refl j3.length) (And.intro (dfl (eI .u8) (dep_eI .u8) j3) True.intro)) (by kernel_rfl)
    · have H := H11
      refine AW2.seq ?_
      refine AW2.rg [] [6, 25, 26, 27] [] [.k 900] ⟨[(6, .ls 900 0 ([] : List Int).length), (25, .d (sV (eL (eI .u8)) p0)), (26, .d (.int .i64 (p0.length : Int))), (27, .d (.int .i64 0))], [(900, .sl false 1 ([] : List Int).length (fl (eI .u8) ([] : List Int)))]⟩ (And.intro True.intro True.intro) (by kernel_rfl) ?_
      refine AW2.block ?_
      refine AW2.lp (σ := (List Int) × Int) (fun v => ⟨[(6, .ls 900 0 v.1.length), (25, .d (sV (eL (eI .u8)) p0)), (26, .d (.int .i64 (p0.length : Int))), (27, .d (.int .i64 v.2))], [(900, .sl false 1 v.1.length (fl (eI .u8) v.1))]⟩) (fun k v => g_slices_Concat_api_Kind_api_Kind_l0 k p0 v.1 v.2 = some j3) ?_ K (([] : List Int), 0) H
      rintro k ⟨a6, a7⟩ H
      dsimp only at H
      cases k with
      | zero => cases H
      | succ k =>
      unfold g_slices_Concat_api_Kind_api_Kind_l0 at H
      refine AW2.seq ?_
      refine AW2.rg [] [6, 25, 26, 27, 28] [] [.k 900] ⟨[(6, .ls 900 0 a6.length), (25, .d (sV (eL (eI .u8)) p0)), (26, .d (.int .i64 (p0.length : Int))), (27, .d (.int .i64 a7)), (28, .d (.bool (decide (a7 < (p0.length : Int)))))], [(900, .sl false 1 a6.length (fl (eI .u8) a6))]⟩ (And.intro True.intro True.intro) (by kernel_rfl) ?_
      refine AW2.seq ?_
      refine AW2.cond (b := (decide (a7 < (p0.length : Int)))) rfl (fun hc => ?_) (fun hc => ?_)
      · replace H := ite_t H hc
        refine AW2.skip ?_
        refine AW2.seq ?_
        refine AW2.block ?_
        refine AW2.seq ?_
        obtain ⟨h8, H⟩ := gd_some H
        refine AW2.rg [] [6, 8, 25, 26, 27] [] [.k 900] ⟨[(6, .ls 900 0 a6.length), (8, .d (sV (eI .u8) (p0.getD a7.toNat default))), (25, .d (sV (eL (eI .u8)) p0)), (26, .d (.int .i64 (p0.length : Int))), (27, .d (.int .i64 a7))], [(900, .sl false 1 a6.length (fl (eI .u8) a6))]⟩ (And.intro (And.intro h8 True.intro) True.intro) (by kernel_rfl) ?_
        obtain ⟨h9, H⟩ := gd_some H
        refine AW2.rg [.s false (a6 ++ (p0.getD a7.toNat default)).length (fl (eI .u8) (a6 ++ (p0.getD a7.toNat default)))] [6, 25, 26, 27] [] [.k 900] ⟨[(6, .ls 900 0 (a6 ++ (p0.getD a7.toNat default)).length), (25, .d (sV (eL (eI .u8)) p0)), (26, .d (.int .i64 (p0.length : Int))), (27, .d (.int .i64 a7))], [(900, .sl false 1 (a6 ++ (p0.getD a7.toNat default)).length (fl (eI .u8) (a6 ++ (p0.getD a7.toNat default))))]⟩ (And.intro (And.intro (lcl (eI .u8) (lc_eI .u8) (p0.getD a7.toNat default)) (And.intro (Nat.le_refl a6.length) (And.intro h9 (And.intro (appN (eI .u8) a6 (p0.getD a7.toNat default)) True.intro)))) True.intro) (by kernel_rfl) ?_
        refine AW2.rg [] [6, 25, 26, 27] [] [.k 900] ⟨[(6, .ls 900 0 (a6 ++ (p0.getD a7.toNat default)).length), (25, .d (sV (eL (eI .u8)) p0)), (26, .d (.int .i64 (p0.length : Int))), (27, .d (.int .i64 (wI (a7 + 1))))], [(900, .sl false 1 (a6 ++ (p0.getD a7.toNat default)).length (fl (eI .u8) (a6 ++ (p0.getD a7.toNat default))))]⟩ (And.intro True.intro True.intro) (by kernel_rfl) ?_
        exact ⟨k, ((a6 ++ (p0.getD a7.toNat default)), (wI (a7 + 1))), Nat.lt_succ_self k, H, wk_mk [6, 25, 26, 27] [] [.k 900] True.intro (by kernel_rfl)⟩
      · replace H := ite_f H hc
        refine AW2.exit ?_
        have H := Option.some.inj H
        subst H
        exact wk_mk [6] [] [.k 900] True.intro (by kernel_rfl)
  · have H := H20
    refine AW2.seq ?_
    refine AW2.rg [] [0, 3, 9, 10, 11] [] [] ⟨[(0, .d (sV (eL (eI .u8)) p0)), (3, .d (.int .i64 0)), (9, .d (sV (eL (eI .u8)) p0)), (10, .d (.int .i64 (p0.length : Int))), (11, .d (.int .i64 0))], []⟩ (And.intro True.intro True.intro) (by kernel_rfl) ?_
    refine AW2.block ?_
    refine AW2.lp (σ := Int × Int) (fun v => ⟨[(0, .d (sV (eL (eI .u8)) p0)), (3, .d (.int .i64 v.2)), (9, .d (sV (eL (eI .u8)) p0)), (10, .d (.int .i64 (p0.length : Int))), (11, .d (.int .i64 v.1))], []⟩) (fun k v => g_slices_Concat_api_Kind_api_Kind_l1 k p0 v.1 v.2 = some j1) ?_ K (0, 0) H
    rintro k ⟨a14, a15⟩ H
    dsimp only at H
    cases k with
    | zero => cases H
    | succ k =>
    unfold g_slices_Concat_api_Kind_api_Kind_l1 at H
    refine AW2.seq ?_
    refine AW2.rg [] [0, 3, 9, 10, 11, 12] [] [] ⟨[(0, .d (sV (eL (eI .u8)) p0)), (3, .d (.int .i64 a15)), (9, .d (sV (eL (eI .u8)) p0)), (10, .d (.int .i64 (p0.length : Int))), (11, .d (.int .i64 a14)), (12, .d (.bool (decide (a14 < (p0.length : Int)))))], []⟩ (And.intro True.intro True.intro) (by kernel_rfl) ?_
    refine AW2.seq ?_
    refine AW2.cond (b := (decide (a14 < (p0.length : Int)))) rfl (fun hc => ?_) (fun hc => ?_)
    · replace H := ite_t H hc
      refine AW2.skip ?_
      obtain ⟨v17, H18, H⟩ := bind_some H
      obtain ⟨⟩ := v17
      refine AW2.mid ⟨[(0, .d (sV (eL (eI .u8)) p0)), (3, .d (.int .i64 (wI (a15 + ((p0.getD a14.toNat default).length : Int))))), (9, .d (sV (eL (eI .u8)) p0)), (10, .d (.int .i64 (p0.length : Int))), (11, .d (.int .i64 a14))], []⟩ ?_ ?_
      · refine AW2.rg [] [0, 3, 9, 10, 11] [] [] ⟨[(0, .d (sV (eL (eI .u8)) p0)), (3, .d (.int .i64 (wI (a15 + ((p0.getD a14.toNat default).length : Int))))), (9, .d (sV (eL (eI .u8)) p0)), (10, .d (.int .i64 (p0.length : Int))), (11, .d (.int .i64 (wI (a14 + 1))))], []⟩ (And.intro True.intro True.intro) (by kernel_rfl) ?_
        exact ⟨k, ((wI (a14 + 1)), (wI (a15 + ((p0.getD a14.toNat default).length : Int)))), Nat.lt_succ_self k, H, wk_mk [0, 3, 9, 10, 11] [] [] True.intro (by kernel_rfl)⟩
      · have H := H18
        refine AW2.block ?_
        refine AW2.seq ?_
        obtain ⟨h16, H⟩ := gd_some H
        refine AW2.rg [] [0, 3, 5, 9, 10, 11] [] [] ⟨[(0, .d (sV (eL (eI .u8)) p0)), (3, .d (.int .i64 a15)), (5, .d (sV (eI .u8) (p0.getD a14.toNat default))), (9, .d (sV (eL (eI .u8)) p0)), (10, .d (.int .i64 (p0.length : Int))), (11, .d (.int .i64 a14))], []⟩ (And.intro (And.intro h16 True.intro) True.intro) (by kernel_rfl) ?_
        refine AW2.seq ?_
        refine AW2.rg [] [0, 3, 9, 10, 11] [] [] ⟨[(0, .d (sV (eL (eI .u8)) p0)), (3, .d (.int .i64 (wI (a15 + ((p0.getD a14.toNat default).length : Int))))), (9, .d (sV (eL (eI .u8)) p0)), (10, .d (.int .i64 (p0.length : Int))), (11, .d (.int .i64 a14))], []⟩ (And.intro True.intro True.intro) (by kernel_rfl) ?_
        refine AW2.seq ?_
        refine AW2.rg [] [0, 3, 9, 10, 11, 20] [] [] ⟨[(0, .d (sV (eL (eI .u8)) p0)), (3, .d (.int .i64 (wI (a15 + ((p0.getD a14.toNat default).length : Int))))), (9, .d (sV (eL (eI .u8)) p0)), (10, .d (.int .i64 (p0.length : Int))), (11, .d (.int .i64 a14)), (20, .d (.bool (decide ((wI (a15 + ((p0.getD a14.toNat default).length : Int))) < (0 : Int)))))], []⟩ (And.intro True.intro True.intro) (by kernel_rfl) ?_
        refine AW2.cond (b := (decide ((wI (a15 + ((p0.getD a14.toNat default).length : Int))) < (0 : Int)))) rfl (fun hc => ?_) (fun hc => ?_)
        · replace H := ite_t H hc
          cases H
        · replace H := ite_f H hc
          refine AW2.skip ?_
          exact wk_mk [0, 3, 9, 10, 11] [] [] True.intro (by kernel_rfl)
    · replace H := ite_f H hc
      refine AW2.exit ?_
      have H := Option.some.inj H
      subst H
      exact wk_mk [0, 3] [] [] True.intro (by kernel_rfl)

/- (*mandrel/valid.checker).take -/
def g_valid_checker_take (p0 : Checker) (p1 : Int) : Option (Int × Checker) := gd (0 ≤ (wI ((p0.frames.length : Int) - 1)) ∧ (wI ((p0.frames.length : Int) - 1)) < (p0.frames.length : Int)) ((if (p1 == (0 : Int)) = true then some (p1, p0) else (if ((p0.stack.length : Int) == ((p0.frames.getD ((wI ((p0.frames.length : Int) - 1)).toNat) default).height)) = true then ((if p0.bad = true then some (Checker.mk p0.m p0.t p0.locals p0.stack p0.frames p0.labels p0.most true) else some (Checker.mk p0.m p0.t p0.locals p0.stack p0.frames p0.labels p0.most (!((p0.frames.getD ((wI ((p0.frames.length : Int) - 1)).toNat) default).away))))).bind (fun j2 => some (p1, j2)) else gd (0 ≤ (wI ((p0.stack.length : Int) - 1)) ∧ (wI ((p0.stack.length : Int) - 1)) < (p0.stack.length : Int)) (gd (0 ≤ (0 : Int) ∧ 0 ≤ (wI ((p0.stack.length : Int) - 1)) ∧ (wI ((p0.stack.length : Int) - 1)) ≤ (p0.stack.length : Int)) (((if (((p0.stack.getD ((wI ((p0.stack.length : Int) - 1)).toNat) default) != p1) && (((p0.stack.getD ((wI ((p0.stack.length : Int) - 1)).toNat) default) != (1 : Int)) && (p1 != (1 : Int)))) = true then some (Checker.mk p0.m p0.t p0.locals (List.take ((wI ((p0.stack.length : Int) - 1)).toNat) p0.stack) p0.frames p0.labels p0.most true) else some (Checker.mk p0.m p0.t p0.locals (List.take ((wI ((p0.stack.length : Int) - 1)).toNat) p0.stack) p0.frames p0.labels p0.most p0.bad))).bind (fun j8 => (if ((p0.stack.getD ((wI ((p0.stack.length : Int) - 1)).toNat) default) == (1 : Int)) = true then some (p1, j8) else some (p0.stack.getD ((wI ((p0.stack.length : Int) - 1)).toNat) default, j8))))))))

theorem c_valid_checker_take (p0 : Checker) (p1 : Int) (r : Int × Checker) (H : g_valid_checker_take p0 p1 = some r) : CM E 40 [.p 1000 0, .d (.int .u8 p1)] (H_Checker p0) [] [1000] (fun a b => a = (.d (.int .u8 r.1) : LV) ∧ b = H_Checker r.2) := by
  refine cs_of (A := F_valid_checker_take) fn_valid_checker_take fun fr => ?_
  unfold g_valid_checker_take at H
  refine AW2.seq ?_
  refine AW2.rg [] [0, 1] [] [.k 1000, .k 1001, .k 1002, .k 1003] ⟨[(0, .p 1000 0), (1, .d (.int .u8 p1))], H_Checker p0⟩ (And.intro True.intro True.intro) (by kernel_rfl) ?_
  refine AW2.seq ?_
  obtain ⟨h1, H⟩ := gd_some H
  refine AW2.rg [.k 5] [0, 1, 5] [] [.k 5, .k 1000, .k 1001, .k 1002, .k 1003] ⟨[(0, .p 1000 0), (1, .d (.int .u8 p1)), (5, .p 5 0)], [(5, .st false (eD (eFrame (p0.frames.getD ((wI ((p0.frames.length : Int) - 1)).toNat) default))))] ++ H_Checker p0⟩ (And.intro (And.intro h1 (And.intro (ixN h1) (And.intro (ixN h1) True.intro))) True.intro) (by kernel_rfl) ?_
  refine AW2.seq ?_
  refine AW2.seq ?_
  refine AW2.rg [] [0, 1, 5, 21] [] [.k 5, .k 1000, .k 1001, .k 1002, .k 1003] ⟨[(0, .p 1000 0), (1, .d (.int .u8 p1)), (5, .p 5 0), (21, .d (.bool (p1 == (0 : Int))))], [(5, .st false (eD (eFrame (p0.frames.getD ((wI ((p0.frames.length : Int) - 1)).toNat) default))))] ++ H_Checker p0⟩ (And.intro True.intro True.intro) (by kernel_rfl) ?_
  refine AW2.cond (b := (p1 == (0 : Int))) rfl (fun hc => ?_) (fun hc => ?_)
  · replace H := ite_t H hc
    refine AW2.seq ?_
    refine AW2.rg [] [4] [] [.k 1000, .k 1001, .k 1002, .k 1003] ⟨[(4, .d (.int .u8 p1))], H_Checker p0⟩ (And.intro True.intro True.intro) (by kernel_rfl) ?_
    refine AW2.ret ?_
    have H := Option.some.inj H
    subst H
    exact retS_mk3 [] [.k 1000, .k 1001, .k 1002, .k 1003] True.intro (by kernel_rfl) (by kernel_rfl)
  · replace H := ite_f H hc
    refine AW2.skip ?_
    refine AW2.seq ?_
    refine AW2.rg [] [0, 1, 5, 6] [] [.k 5, .k 1000, .k 1001, .k 1002, .k 1003] ⟨[(0, .p 1000 0), (1, .d (.int .u8 p1)), (5, .p 5 0), (6, .d (.int .i64 (p0.stack.length : Int)))], [(5, .st false (eD (eFrame (p0.frames.getD ((wI ((p0.frames.length : Int) - 1)).toNat) default))))] ++ H_Checker p0⟩ (And.intro True.intro True.intro) (by kernel_rfl) ?_
    refine AW2.seq ?_
    refine AW2.seq ?_
    refine AW2.rg [] [0, 1, 5, 6, 31] [] [.k 5, .k 1000, .k 1001, .k 1002, .k 1003] ⟨[(0, .p 1000 0), (1, .d (.int .u8 p1)), (5, .p 5 0), (6, .d (.int .i64 (p0.stack.length : Int))), (31, .d (.bool ((p0.stack.length : Int) == ((p0.frames.getD ((wI ((p0.frames.length : Int) - 1)).toNat) default).height))))], [(5, .st false (eD (eFrame (p0.frames.getD ((wI ((p0.frames.length : Int) - 1)).toNat) default))))] ++ H_Checker p0⟩ (And.intro True.intro True.intro) (by kernel_rfl) ?_
    refine AW2.cond (b := ((p0.stack.length : Int) == ((p0.frames.getD ((wI ((p0.frames.length : Int) - 1)).toNat) default).height))) rfl (fun hc => ?_) (fun hc => ?_)
    · replace H := ite_t H hc
      refine AW2.seq ?_
      obtain ⟨j2, H4, H⟩ := bind_some H
      refine AW2.reg [] rfl (YW.to ⟨[(1, .d (.int .u8 p1))], H_Checker j2⟩ ?qh5 ?h5)
      case h5 =>
        have H := H4
        rcases bT p0.bad with hc1 | hc1
        · replace H := ite_t H hc1
          have H := Option.some.inj H
          subst H
          exact YW.fin [(37, true)] [] [1] [] [.k 1000, .k 1001, .k 1002, .k 1003] _ (And.intro (And.intro hc1 (And.intro hc1 (And.intro hc1 (And.intro hc1 True.intro)))) True.intro) (by kernel_rfl) rfl
        · replace H := ite_f H hc1
          have H := Option.some.inj H
          subst H
          exact YW.fin [(37, false)] [] [1] [] [.k 1000, .k 1001, .k 1002, .k 1003] _ (And.intro (And.intro hc1 (And.intro hc1 (And.intro hc1 (And.intro hc1 True.intro)))) True.intro) (by kernel_rfl) rfl
      refine AW2.seq ?_
      refine AW2.rg [] [4] [] [.k 1000, .k 1001, .k 1002, .k 1003] ⟨[(4, .d (.int .u8 p1))], H_Checker j2⟩ (And.intro True.intro True.intro) (by kernel_rfl) ?_
      refine AW2.ret ?_
      have H := Option.some.inj H
      subst H
      exact retS_mk3 [] [.k 1000, .k 1001, .k 1002, .k 1003] True.intro (by kernel_rfl) (by kernel_rfl)
    · replace H := ite_f H hc
      refine AW2.skip ?_
      refine AW2.seq ?_
      obtain ⟨h6, H⟩ := gd_some H
      refine AW2.rg [] [0, 1, 6, 7] [] [.k 1000, .k 1001, .k 1002, .k 1003] ⟨[(0, .p 1000 0), (1, .d (.int .u8 p1)), (6, .d (.int .i64 (p0.stack.length : Int))), (7, .d (.int .u8 (p0.stack.getD ((wI ((p0.stack.length : Int) - 1)).toNat) default)))], H_Checker p0⟩ (And.intro (And.intro h6 (And.intro (ixN h6) (And.intro (ixN h6) True.intro))) True.intro) (by kernel_rfl) ?_
      refine AW2.seq ?_
      obtain ⟨h7, H⟩ := gd_some H
      refine AW2.rg [.s true (List.take ((wI ((p0.stack.length : Int) - 1)).toNat) p0.stack).length (fl (eI .u8) (List.take ((wI ((p0.stack.length : Int) - 1)).toNat) p0.stack))] [0, 1, 7] [] [.k 1000, .sl 1001 (List.take ((wI ((p0.stack.length : Int) - 1)).toNat) p0.stack).length (fl (eI .u8) (List.take ((wI ((p0.stack.length : Int) - 1)).toNat) p0.stack)), .k 1002, .k 1003] ⟨[(0, .p 1000 0), (1, .d (.int .u8 p1)), (7, .d (.int .u8 (p0.stack.getD ((wI ((p0.stack.length : Int) - 1)).toNat) default)))], H_Checker (Checker.mk p0.m p0.t p0.locals (List.take ((wI ((p0.stack.length : Int) - 1)).toNat) p0.stack) p0.frames p0.labels p0.most p0.bad)⟩ (And.intro (And.intro h7 (And.intro (takeN h7) True.intro)) (And.intro (takeL p0.stack ((wI ((p0.stack.length : Int) - 1)).toNat)) (And.intro (takeF (eI .u8) p0.stack ((wI ((p0.stack.length : Int) - 1)).toNat)) True.intro))) (by kernel_rfl) ?_
      obtain ⟨j8, H11, H⟩ := bind_some H
      refine AW2.mid ⟨[(1, .d (.int .u8 p1)), (7, .d (.int .u8 (p0.stack.getD ((wI ((p0.stack.length : Int) - 1)).toNat) default)))], H_Checker j8⟩ ?_ ?_
      · refine AW2.seq ?_
        refine AW2.seq ?_
        refine AW2.rg [] [1, 7, 78] [] [.k 1000, .k 1001, .k 1002, .k 1003] ⟨[(1, .d (.int .u8 p1)), (7, .d (.int .u8 (p0.stack.getD ((wI ((p0.stack.length : Int) - 1)).toNat) default))), (78, .d (.bool ((p0.stack.getD ((wI ((p0.stack.length : Int) - 1)).toNat) default) == (1 : Int))))], H_Checker j8⟩ (And.intro True.intro True.intro) (by kernel_rfl) ?_
        refine AW2.cond (b := ((p0.stack.getD ((wI ((p0.stack.length : Int) - 1)).toNat) default) == (1 : Int))) rfl (fun hc => ?_) (fun hc => ?_)
        · replace H := ite_t H hc
          refine AW2.seq ?_
          refine AW2.rg [] [4] [] [.k 1000, .k 1001, .k 1002, .k 1003] ⟨[(4, .d (.int .u8 p1))], H_Checker j8⟩ (And.intro True.intro True.intro) (by kernel_rfl) ?_
          refine AW2.ret ?_
          have H := Option.some.inj H
          subst H
          exact retS_mk3 [] [.k 1000, .k 1001, .k 1002, .k 1003] True.intro (by kernel_rfl) (by kernel_rfl)
        · replace H := ite_f H hc
          refine AW2.skip ?_
          refine AW2.seq ?_
          refine AW2.rg [] [4] [] [.k 1000, .k 1001, .k 1002, .k 1003] ⟨[(4, .d (.int .u8 (p0.stack.getD ((wI ((p0.stack.length : Int) - 1)).toNat) default)))], H_Checker j8⟩ (And.intro True.intro True.intro) (by kernel_rfl) ?_
          refine AW2.ret ?_
          have H := Option.some.inj H
          subst H
          exact retS_mk3 [] [.k 1000, .k 1001, .k 1002, .k 1003] True.intro (by kernel_rfl) (by kernel_rfl)
      · have H := H11
        refine AW2.seq ?_
        refine AW2.reg [] rfl (YW.to ⟨[(0, .p 1000 0), (1, .d (.int .u8 p1)), (7, .d (.int .u8 (p0.stack.getD ((wI ((p0.stack.length : Int) - 1)).toNat) default))), (73, .d (.bool (((p0.stack.getD ((wI ((p0.stack.length : Int) - 1)).toNat) default) != p1) && (((p0.stack.getD ((wI ((p0.stack.length : Int) - 1)).toNat) default) != (1 : Int)) && (p1 != (1 : Int))))))], H_Checker (Checker.mk p0.m p0.t p0.locals (List.take ((wI ((p0.stack.length : Int) - 1)).toNat) p0.stack) p0.frames p0.labels p0.most p0.bad)⟩ ?qh9 ?h9)
        case h9 =>
          rcases bT ((p0.stack.getD ((wI ((p0.stack.length : Int) - 1)).toNat) default) != p1) with hc1 | hc1
          · rcases bT ((p0.stack.getD ((wI ((p0.stack.length : Int) - 1)).toNat) default) != (1 : Int)) with hc2 | hc2
            · exact YW.fin [(66, true), (70, true)] [] [0, 1, 7, 73] [(73, .d (.bool (((p0.stack.getD ((wI ((p0.stack.length : Int) - 1)).toNat) default) != p1) && (((p0.stack.getD ((wI ((p0.stack.length : Int) - 1)).toNat) default) != (1 : Int)) && (p1 != (1 : Int))))))] [.k 1000, .k 1001, .k 1002, .k 1003] _ (And.intro (And.intro hc1 (And.intro hc1 (And.intro hc1 (And.intro hc2 (And.intro hc2 (And.intro hc2 True.intro)))))) (And.intro (ovB (Eq.trans (andT (b := (((p0.stack.getD ((wI ((p0.stack.length : Int) - 1)).toNat) default) != (1 : Int)) && (p1 != (1 : Int)))) hc1) (Eq.trans (andT (b := (p1 != (1 : Int))) hc2) (Eq.refl (p1 != (1 : Int)))))) True.intro)) (by kernel_rfl) rfl
            · exact YW.fin [(66, true), (70, false)] [] [0, 1, 7, 73] [(73, .d (.bool (((p0.stack.getD ((wI ((p0.stack.length : Int) - 1)).toNat) default) != p1) && (((p0.stack.getD ((wI ((p0.stack.length : Int) - 1)).toNat) default) != (1 : Int)) && (p1 != (1 : Int))))))] [.k 1000, .k 1001, .k 1002, .k 1003] _ (And.intro (And.intro hc1 (And.intro hc1 (And.intro hc1 (And.intro hc2 (And.intro hc2 (And.intro hc2 True.intro)))))) (And.intro (ovB (Eq.trans (andT (b := (((p0.stack.getD ((wI ((p0.stack.length : Int) - 1)).toNat) default) != (1 : Int)) && (p1 != (1 : Int)))) hc1) (andF (b := (p1 != (1 : Int))) hc2))) True.intro)) (by kernel_rfl) rfl
          · exact YW.fin [(66, false), (70, false)] [] [0, 1, 7, 73] [(73, .d (.bool (((p0.stack.getD ((wI ((p0.stack.length : Int) - 1)).toNat) default) != p1) && (((p0.stack.getD ((wI ((p0.stack.length : Int) - 1)).toNat) default) != (1 : Int)) && (p1 != (1 : Int))))))] [.k 1000, .k 1001, .k 1002, .k 1003] _ (And.intro (And.intro hc1 (And.intro hc1 (And.intro hc1 (And.intro (Eq.refl false) (And.intro (Eq.refl false) (And.intro (Eq.refl false) True.intro)))))) (And.intro (ovB (andF (b := (((p0.stack.getD ((wI ((p0.stack.length : Int) - 1)).toNat) default) != (1 : Int)) && (p1 != (1 : Int)))) hc1)) True.intro)) (by kernel_rfl) rfl
        refine AW2.cond (b := (((p0.stack.getD ((wI ((p0.stack.length : Int) - 1)).toNat) default) != p1) && (((p0.stack.getD ((wI ((p0.stack.length : Int) - 1)).toNat) default) != (1 : Int)) && (p1 != (1 : Int))))) rfl (fun hc => ?_) (fun hc => ?_)
        · replace H := ite_t H hc
          refine AW2.rg [] [1, 7] [] [.k 1000, .k 1001, .k 1002, .k 1003] ⟨[(1, .d (.int .u8 p1)), (7, .d (.int .u8 (p0.stack.getD ((wI ((p0.stack.length : Int) - 1)).toNat) default)))], H_Checker (Checker.mk p0.m p0.t p0.locals (List.take ((wI ((p0.stack.length : Int) - 1)).toNat) p0.stack) p0.frames p0.labels p0.most true)⟩ (And.intro True.intro True.intro) (by kernel_rfl) ?_
          have H := Option.some.inj H
          subst H
          exact wk_mk [1, 7] [] [.k 1000, .k 1001, .k 1002, .k 1003] True.intro (by kernel_rfl)
        · replace H := ite_f H hc
          refine AW2.skip ?_
          have H := Option.some.inj H
          subst H
          exact wk_mk [1, 7] [] [.k 1000, .k 1001, .k 1002, .k 1003] True.intro (by kernel_rfl)

end Go.Proofs.YtablleokoifolaaGreatDoor

/- slices.Backward's iterator, for every body that leaves the slice as it lies. -/
set_option linter.unusedVariables false
set_option linter.unusedSimpArgs false
namespace Go.Proofs.YtablleokoifolaaGreatDoor
open Go Go.RowKit

/-- What has come when k are left. -/
def backL (xs : List Int) (k : Nat) : List (Int × Int) := ((List.range (xs.length - k)).map fun q => (((xs.length - 1 - q : Nat) : Int), xs.getD (xs.length - 1 - q) 0))

theorem backL_step (xs : List Int) {k : Nat} (hk : k < xs.length) : backL xs (k + 1) ++ [((k : Int), xs.getD k 0)] = backL xs k := by
  unfold backL
  have e : xs.length - k = (xs.length - (k + 1)) + 1 := by omega
  rw [e, List.range_succ, List.map_append, List.map_singleton]
  have : xs.length - 1 - (xs.length - (k + 1)) = k := by omega
  rw [this]

def CellsAt (W : World) (A : Addr) (xs : List Int) : Prop := ∀ i, i < xs.length → W.cell? (A.add i) = some (.int .u8 (xs.getD i 0))
def muI : Value → Nat
  | .int _ i => (i + 1).toNat
  | _ => 0
theorem backL_len (xs : List Int) (k : Nat) : (backL xs k).length = xs.length - k := by simp [backL]

set_option maxRecDepth 100000 in
set_option maxHeartbeats 1000000 in
theorem back_in (S : Nat → Prop) (xs : List Int) (A : Addr) (cap : Nat) (n : Nat) (hn : 1 ≤ n) (l Bm : Nat) (hB : S Bm) (hA : S A.block) (J Jx : List (Int × Int) → World → Prop) (hx : xs.length < 4611686018427387904)
    (hY : ∀ pre x W, J pre W → pre.length < xs.length → YieldAt Fence.wide (n - 1) Tryz.prog l #[.int .i64 x.1, .int .u8 x.2] W fun e W' =>
      (e = .returned (.bool true) ∧ J (pre ++ [x]) W' ∧ ∀ b, S b → W'.heap[b]? = W.heap[b]?) ∨ (e = .returned (.bool false) ∧ Jx (pre ++ [x]) W'))
    (W : World) (hb : W.cell? ⟨Bm, 0, none⟩ = some (.slice (some A) xs.length cap)) (hc : ∀ i, i < xs.length → W.cell? (A.add i) = some (.int .u8 (xs.getD i 0))) (h0 : J [] W) :
    CallsIn Fence.wide n Tryz.prog 103 #[.func (.yield l) #[] #[], .pointer (some ⟨Bm, 0, none⟩)] W fun e W' => (∃ v, e = .returned v) ∧ (J (backL xs 0) W' ∨ ∃ pre, Jx pre W') := by
  refine callsIn_of_wp Tryz.func103 rfl trivial ?_ rfl
  simp only [Tryz.ntmps103, List.size_toArray, List.length_cons, List.length_nil, Nat.reduceAdd, Nat.reduceSub, Array.replicate_succ, Array.replicate_zero, List.push_toArray, List.append_toArray, List.nil_append, List.cons_append]
  gi_wp2
  gi_loopw [3] (fun v wr => ∃ k : Nat, k ≤ xs.length ∧ v = .int .i64 ((k : Int) - 1) ∧ J (backL xs k) wr ∧ wr.cell? ⟨Bm, 0, none⟩ = some (.slice (some A) xs.length cap) ∧ ∀ i, i < xs.length → wr.cell? (A.add i) = some (.int .u8 (xs.getD i 0)))
    (fun v wr => muI v)
  case atStart =>
    refine ⟨xs.length, Nat.le_refl _, rfl, ?_, hb, hc⟩
    have : backL xs xs.length = [] := by simp [backL]
    rw [this]; exact h0
  case round =>
    obtain ⟨k, hk, rfl, hJ, hb', hc'⟩ := hrel
    cases k with
    | zero =>
      gi_wp2
      go_end0
      exact ⟨⟨_, rfl⟩, .inl hJ⟩
    | succ m =>
      have hm : m < xs.length := by omega
      have e1 : (((m + 1 : Nat) : Int) - 1) = (m : Int) := by omega
      rw [e1]
      have hcm := hc' m hm
      have hge : (0 : Int) ≤ (m : Int) := by omega
      have hlt : (m : Int) < (xs.length : Int) := by omega
      obtain ⟨fn, tmps, assign, body, hy, hR⟩ := hY (backL xs (m + 1)) ((m : Int), xs.getD m 0) wr hJ (by rw [backL_len]; omega)
      rw [backL_step xs hm] at hR
      dsimp only at hy
      clear hY
      have HC : CellsAt wr A xs := hc'
      clear hc'
      generalize xs.getD m 0 = y at hcm hy
      gi_wp2
      refine hR.mono ?_
      rintro e W3 (⟨rfl, hJ3, hk3⟩ | ⟨rfl, h⟩)
      · have hb3 : W3.cell? ⟨Bm, 0, none⟩ = some (.slice (some A) xs.length cap) := (World.cell?_of_block (hk3 _ hB)).trans hb'
        have hc3 : ∀ i, i < xs.length → W3.cell? (A.add i) = some (.int .u8 (xs.getD i 0)) := fun i hi => (World.cell?_of_block (hk3 _ (by unfold Addr.add; split <;> exact hA))).trans (HC i hi)
        gi_wp2
        exact ⟨⟨m, by omega, rfl, hJ3, hb3, hc3⟩, by simp only [muI]; omega⟩
      · gi_wp2
        refine bodyPost_ret (results_none rfl _ _ _) rfl ?_
        exact ⟨⟨_, rfl⟩, .inr ⟨_, h⟩⟩

set_option maxRecDepth 100000 in
set_option maxHeartbeats 1000000 in
/-- .. and where nothing is in it. -/
theorem back_in0 (b : Option Addr) (cap : Nat) (n : Nat) (hn : 1 ≤ n) (l Bm : Nat) (J : World → Prop)
    (W : World) (hb : W.cell? ⟨Bm, 0, none⟩ = some (.slice b 0 cap)) (h0 : J W) :
    CallsIn Fence.wide n Tryz.prog 103 #[.func (.yield l) #[] #[], .pointer (some ⟨Bm, 0, none⟩)] W fun e W' => (∃ v, e = .returned v) ∧ J W' := by
  refine callsIn_of_wp Tryz.func103 rfl trivial ?_ rfl
  simp only [Tryz.ntmps103, List.size_toArray, List.length_cons, List.length_nil, Nat.reduceAdd, Nat.reduceSub, Array.replicate_succ, Array.replicate_zero, List.push_toArray, List.append_toArray, List.nil_append, List.cons_append]
  gi_wp2
  gi_loopw [3] (fun v wr => v = .int .i64 (-1) ∧ J wr) (fun v wr => 0)
  case atStart => exact ⟨rfl, h0⟩
  case round =>
    obtain ⟨rfl, hJ⟩ := hrel
    gi_wp2
    go_end0
    exact ⟨⟨_, rfl⟩, hJ⟩
end Go.Proofs.YtablleokoifolaaGreatDoor

/- What a range over a function leaves of the relation to memory. -/
set_option linter.unusedVariables false
set_option linter.unusedSimpArgs false
namespace Go.Proofs.YtablleokoifolaaGreatDoor
open Go Go.RowKit

variable {E : Env} {h : Hp} {H H' : Array Obj} {β : Bt} {V F : Nat → Prop}

/-- Blocks of cells lie as they lay. -/
def KeepCells (H H' : Array Obj) : Prop := ∀ (b : Nat) (C : Array Value) (T : TypeId) (fr : Nat × Nat), H[b]? = some (.cells C T fr) → H'[b]? = some (.cells C T fr)

theorem RVF.keep {a : AV} {v : Value} (r : RVF E H F a v) (k : KeepCells H H') : RVF E H' F a v := by
  induction r with
  | undef v => exact .undef v
  | hole => exact .hole
  | bool b => exact .bool b
  | int k n => exact .int k n
  | str s => exact .str s
  | nilp => exact .nilp
  | fptr cs b off C T fr h1 h2 h3 hk h4 ih => exact .fptr cs b off C T fr h1 (k _ _ _ _ h2) h3 hk ih
  | nils => exact .nils
  | slv0 a cap => exact .slv0 a cap
  | slv es b off cap esz C T fr h1 h2 h3 h4 h5 hk h6 ih => exact .slv es b off cap esz C T fr h1 (k _ _ _ _ h2) h3 h4 h5 hk ih
  | func f caps cv hl hc ih => exact .func f caps cv hl ih
  | nilf => exact .nilf
  | iface c a v h ih => exact .iface c a v ih
  | nili => exact .nili
  | nilm => exact .nilm
  | agg cs cv hl hk hc ih => exact .agg cs cv hl hk ih
  | tup cs cv hl hc ih => exact .tup cs cv hl ih

theorem RV.keep {a : AV} {v : Value} (r : RV E H β V F a v) (k : KeepCells H H') : RV E H' β V F a v := by
  induction r with
  | fz h => exact .fz (h.keep k)
  | ptrD κ i o a hV hβ => exact .ptrD κ i o a hV hβ
  | ptr κ i o b esz hV hβ => exact .ptr κ i o b esz hV hβ
  | slD κ lo n a cap hV hβ => exact .slD κ lo n a cap hV hβ
  | sl κ lo n b esz cap C T fr hV hβ hn hb hs => exact .sl κ lo n b esz cap C T fr hV hβ hn (k _ _ _ _ hb) hs
  | sl0 κ lo a hV => exact .sl0 κ lo a hV
  | mapD κ a hV hβ => exact .mapD κ a hV hβ
  | map κ b esz hV hβ => exact .map κ b esz hV hβ
  | func f caps cv hl hc ih => exact .func f caps cv hl ih
  | iface c a v h ih => exact .iface c a v ih
  | agg cs cv hl hk hc ih => exact .agg cs cv hl hk ih
  | tup cs cv hl hc ih => exact .tup cs cv hl ih

def AllRows (h : Hp) : Prop := ∀ κ es, h κ ≠ some (.mp es)

theorem HRel.keep (R : HRel E h H β V F) (hr : AllRows h) (k : KeepCells H H') (hs : H.size ≤ H'.size) (hg : ∀ b, b < E.gb → H'[b]? = H[b]?) : HRel E h H' β V F where
  dom := R.dom
  lt κ b e he := ⟨(R.lt κ b e he).1, Nat.lt_of_lt_of_le (R.lt κ b e he).2 hs⟩
  inj := R.inj
  obj κ o ho := by
    cases o with
    | mp es => exact absurd ho (hr κ es)
    | row ro esz es =>
      obtain ⟨b, C, T, h1, h2, h3, h4, h5, h6, h7⟩ := R.obj κ _ ho
      exact ⟨b, C, T, h1, k _ _ _ _ h2, h3, h4, h5, fun i j hi hj => ⟨(h6 i j hi hj).1, (h6 i j hi hj).2.keep k⟩, h7⟩
  fsz b hb := Nat.lt_of_lt_of_le (R.fsz b hb) hs
  glo := R.glo
  gsz := Nat.le_trans R.gsz hs
  gk := E.gkeep _ _ hg R.gk

/-- From a start on: what was there keeps its way; new blocks may lie as they will. -/
theorem Ext.keep {H0 : Array Obj} {β0 : Bt} {V0 F0 : Nat → Prop} (x : Ext H0 β0 V0 F0 H β V F) (k : KeepCells H H') (hs : H.size ≤ H'.size) (hb : ∀ b, b < H0.size → H'[b]? = H[b]?) : Ext H0 β0 V0 F0 H' β V F where
  size := Nat.le_trans x.size hs
  out b h1 h2 := (hb b h1).trans (x.out b h1 h2)
  fr b h1 h2 := (hb b h2).trans (x.fr b h1 h2)
  shape b C T fr h := by
    obtain ⟨C', h1, h2⟩ := x.shape b C T fr h
    exact ⟨C', k _ _ _ _ h1, h2⟩
  old := x.old
  img := x.img
  fmono := x.fmono
  fnew := x.fnew

theorem keep_grown {W W' : World} {row : Option Nat} (hg : W.grownBy W' row) (hrow : ∀ r, row = some r → ∃ o : Obj, W.heap[r]? = some o ∧ o.isCells = false) : KeepCells W.heap W'.heap := fun b C T fr hb =>
  (grownBy_keeps_cells hg hrow hb rfl).trans hb

/-- A block of objects is one of cells. -/
theorem HRel.cells (R : HRel E h H β V F) (hr : AllRows h) {κ b e : Nat} (hβ : β κ = some (b, e)) : ∃ C T, H[b]? = some (.cells C T (0, 0)) := by
  cases ho : h κ with
  | none => rw [(R.dom κ).1 ho] at hβ; cases hβ
  | some o =>
    cases o with
    | mp es => exact absurd ho (hr κ es)
    | row ro esz es =>
      obtain ⟨b', C, T, h1, h2, _⟩ := R.obj κ _ ho
      rw [hβ] at h1
      obtain ⟨rfl, rfl⟩ : b = b' ∧ e = esz := by simpa using h1
      exact ⟨C, T, h2⟩

end Go.Proofs.YtablleokoifolaaGreatDoor

/- checker.takes: a range over slices.Backward. -/
set_option linter.unusedVariables false
set_option linter.unusedSimpArgs false
namespace Go.Proofs.YtablleokoifolaaGreatDoor
open Go Go.RowKit Go.Shelf
attribute [local go_sem] Oper.semAt_some

theorem back_fn (b : Option Addr) (len cap : Nat) (w : World) :
    Calls Tryz.prog 96 #[.slice b len cap] w fun e w' => e = .returned (.func (.func 103) #[] #[.pointer (some ⟨w.heap.size, 0, none⟩)]) ∧ w' = w.alloc (.cells #[.slice b len cap] 64) := by
  go_enter Tryz.func96, Tryz.ntmps96
  go_wp2
  go_ret
  exact ⟨rfl, rfl⟩

theorem back_snd (xs : List Int) : (backL xs 0).map (·.2) = xs.reverse := by
  apply List.ext_getElem
  · simp [backL]
  · intro i h1 h2
    simp [backL] at h1 ⊢
    rw [List.getElem?_eq_getElem (by omega)]
    rfl

/-- What holds between two rounds. -/
structure TI (E : Env) (w0 : World) (β : Bt) (V F : Nat → Prop) (n : Nat) (v0 : Value) (J : List Int → Hp → Nat → Prop) (pre : List (Int × Int)) (W : World) : Prop where
  ex : ∃ h' n' β' V' F', J (pre.map (·.2)) h' n' ∧ AllRows h' ∧ HRel E h' W.heap β' V' F' ∧ Ext w0.heap β V F W.heap β' V' F' ∧ WX w0 W ∧ n ≤ n' ∧ (∀ κ, V' κ → κ < n') ∧ (∀ κ, V' κ → κ < n → V κ) ∧
    (∀ κ b e, β' κ = some (b, e) → b ≠ w0.heap.size ∧ b ≠ w0.heap.size + 1) ∧ W.heap[w0.heap.size]? = some (.cells #[v0] 106 (0, 0)) ∧ w0.heap.size + 2 ≤ W.heap.size

theorem TI.own {E : Env} {w0 : World} {β : Bt} {V F : Nat → Prop} {n : Nat} {v0 : Value} {J : List Int → Hp → Nat → Prop} (hg0 : E.gb ≤ w0.heap.size) : OwnFrom (w0.heap.size + 2) (TI E w0 β V F n v0 J) := by
  rintro pre W W' row ⟨h', n', β', V', F', k1, k2, k3, k4, k5, k6, k7, k8, k9, k10, k11⟩ hg hr
  have kc := keep_grown hg (fun r e => (hr r e).2)
  have lo : ∀ b, b < w0.heap.size → W'.heap[b]? = W.heap[b]? := fun b hb => hg.block b (by omega) (fun e => by have := (hr b e.symm).1; omega)
  exact ⟨⟨h', n', β', V', F', k1, k2, k3.keep k2 kc hg.size (fun b hb => lo b (by omega)), k4.keep kc hg.size lo, k5.trans ⟨hg.os, hg.tape, hg.output⟩, k6, k7, k8, k9, kc _ _ _ _ k10, Nat.le_trans k11 hg.size⟩⟩

set_option maxRecDepth 100000 in
set_option maxHeartbeats 1000000 in
theorem takes_in {h : Hp} {n : Nat} {c : AV} (ks : List Int) (hk : ks.length < 4611686018427387904) (J : List Int → Hp → Nat → Prop) (hrows : ∀ pre h n, J pre h n → AllRows h) (h0 : J [] h n)
    (hstep : ∀ pre x h n, J pre h n → pre.length < ks.length → ACallS E 40 [c, .int .u8 x] h n (fun _ h' n' => J (pre ++ [x]) h' n'))
    (w : World) (β : Bt) (V F : Nat → Prop) (R : HRel E h w.heap β V F) (vb : ∀ κ, V κ → κ < n) (pc : Addr) (rc : RV E w.heap β V F c (.pointer (some pc)))
    (b : Option Addr) (cap : Nat) (hb : (∃ A, b = some A ∧ F A.block ∧ ∀ i, i < ks.length → w.cell? (A.add i) = some (.int .u8 (ks.getD i 0))) ∨ ks = []) :
    Calls Tryz.prog 92 #[.pointer (some pc), .slice b ks.length cap] w fun e w' => ∃ v β' V' F' r h' n', e = .returned v ∧ RV E w'.heap β' V' F' r v ∧ HRel E h' w'.heap β' V' F' ∧ Ext w.heap β V F w'.heap β' V' F' ∧ WX w w' ∧
      n ≤ n' ∧ (∀ κ, V' κ → κ < n') ∧ (∀ κ, V' κ → κ < n → V κ) ∧ J ks.reverse h' n' := by
  refine (callsIn_wide (n := 10)).1 ?_
  refine callsIn_of_wp_marks Tryz.func92 rfl trivial ?_ rfl
  simp only [Tryz.ntmps92, List.size_toArray, List.length_cons, List.length_nil, Nat.reduceAdd, Nat.reduceSub, Array.replicate_succ, Array.replicate_zero, List.push_toArray, List.append_toArray, List.nil_append, List.cons_append]
  gi_wp2
  refine ⟨trivial, (callsIn_wide.2 (back_fn _ _ _ _)).mono ?_⟩
  rintro e w' ⟨rfl, rfl⟩
  gi_wp2
  obtain ⟨W1, hW1⟩ : ∃ W1, ((w.alloc (Obj.cells #[Value.pointer (some pc)] 106)).alloc (Obj.cells #[Value.slice b ks.length cap] 64)) = W1 := ⟨_, rfl⟩
  rw [hW1]
  have hs1 : W1.heap.size = w.heap.size + 2 := by rw [← hW1]; simp
  have hold : ∀ b, b < w.heap.size → W1.heap[b]? = w.heap[b]? := fun b hb => by
    rw [← hW1]
    exact (Below.heap_alloc _ _ _ (by simp; omega)).trans (Below.heap_alloc _ _ _ hb)
  have hbox1 : W1.heap[w.heap.size]? = some (.cells #[Value.pointer (some pc)] 106 (0, 0)) := by
    rw [← hW1]
    exact (Below.heap_alloc _ _ _ (by simp)).trans (World.alloc_heap_new w _)
  have hbox2 : W1.heap[w.heap.size + 1]? = some (.cells #[Value.slice b ks.length cap] 64 (0, 0)) := by
    rw [← hW1]
    have := World.alloc_heap_new (w.alloc (Obj.cells #[Value.pointer (some pc)] 106)) (Obj.cells #[Value.slice b ks.length cap] 64)
    rwa [World.size_alloc] at this
  have hwx : WX w W1 := by rw [← hW1]; exact ⟨rfl, rfl, rfl⟩
  have kc1 : KeepCells w.heap W1.heap := fun b C T fr hb => (hold b (Array.getElem?_eq_some_iff.1 hb).1).trans hb
  refine wpIn_rangeFunc_ownF (encs := fun x : Int × Int => #[.int .i64 x.1, .int .u8 x.2]) (Kp := fun X Y => ∀ b, (b = w.heap.size + 1 ∨ F b) → Y.heap[b]? = X.heap[b]?) (S := fun xs => xs = backL ks 0) (Sp := fun _ => True)
    (N := ks.length) (w0 := W1) rfl (by omega) (gf := 103) (lb := #[.pointer (some ⟨w.heap.size + 1, 0, none⟩)]) rfl trivial (enters_of Tryz.func103 (by kernel_rfl) rfl) ?seq (fun h k b hb => (k b hb).trans (h b hb)) ?kb (Below.refl _ _) (fun _ => rfl)
    (TI E w β V F n (.pointer (some pc)) J) (fun _ _ _ => False) ?own (fun _ _ _ _ _ h => h.elim) ?h0
    (fun x => { tmps := #[Value.pointer (some pc), Value.slice b ks.length cap, Value.pointer (some { block := w.heap.size, off := 0 }), undef, undef, .int .u8 x.2, Value.slice b ks.length cap,
      Value.func (Fn.func 103) #[] #[Value.pointer (some { block := w.heap.size + 1, off := 0 })], .int .i64 x.1, .int .u8 x.2, undef, undef, undef], defers := [] }) ?assign ?body ?done (fun _ _ _ _ _ _ h => h.elim)
  case seq =>
    intro l J' Jx W hW hJ hJx hY hJ0
    have hbx : W.cell? ⟨w.heap.size + 1, 0, none⟩ = some (.slice b ks.length cap) := by
      have := hW.block (w.heap.size + 1) (by omega)
      rw [hbox2] at this
      simp [World.cell?, this]
    rcases hb with ⟨A, rfl, hFA, hc⟩ | rfl
    · have hAlt : A.block < w.heap.size := R.fsz _ hFA
      refine (back_in (fun b => b = w.heap.size + 1 ∨ F b) ks A cap 9 (by omega) l (w.heap.size + 1) (.inl rfl) (.inr hFA) J' Jx hk hY W hbx ?_ hJ0).mono ?_
      · intro i hi
        have e1 := hW.block A.block (by omega)
        have := hc i hi
        have eb : (A.add i).block = A.block := by unfold Addr.add; split <;> rfl
        exact (World.cell?_of_block (by rw [eb]; exact e1.trans (hold _ hAlt))).trans this
      · rintro e W' ⟨hv, h | ⟨pre, h⟩⟩
        · exact ⟨hv, .inl ⟨_, rfl, h⟩⟩
        · exact ⟨hv, .inr ⟨pre, trivial, h⟩⟩
    · refine (back_in0 b cap 9 (by omega) l (w.heap.size + 1) (J' []) W hbx hJ0).mono ?_
      rintro e W' ⟨hv, h⟩
      exact ⟨hv, .inl ⟨_, rfl, h⟩⟩
  case kb =>
    intro W l o o' hl ho h1 h2 b hb
    refine World.putObj_heap_other ?_
    rcases hb with rfl | hb
    · omega
    · have := R.fsz _ hb; omega
  case own => rw [hs1]; exact TI.own R.gsz
  case h0 =>
    refine ⟨⟨h, n, β, V, F, h0, hrows _ _ _ h0, R.keep (hrows _ _ _ h0) kc1 (by omega) (fun b hb => hold b (Nat.lt_of_lt_of_le hb R.gsz)), (Ext.refl w.heap β V F).keep kc1 (by omega) hold, hwx, Nat.le_refl _, vb, fun κ h _ => h, fun κ b e he => ?_, hbox1, by omega⟩⟩
    have := (R.lt κ b e he).2
    omega
  case assign =>
    intro l x W K hK
    have e0 : ((#[8, 9] : Array Nat).zip (#[.int .i64 x.1, .int .u8 x.2] : Array Value)).foldl (fun t (p, v) => t.setIfInBounds p v) #[Value.pointer (some pc), Value.slice b ks.length cap, Value.pointer (some { block := w.heap.size, off := 0 }), undef, undef, undef, Value.slice b ks.length cap,
      Value.func (Fn.func 103) #[] #[Value.pointer (some { block := w.heap.size + 1, off := 0 })], undef, undef, undef, undef, undef] = #[Value.pointer (some pc), Value.slice b ks.length cap, Value.pointer (some { block := w.heap.size, off := 0 }), undef, undef, undef, Value.slice b ks.length cap,
      Value.func (Fn.func 103) #[] #[Value.pointer (some { block := w.heap.size + 1, off := 0 })], .int .i64 x.1, .int .u8 x.2, undef, undef, undef] := by simp
    simp only [e0]
    gi_wp2
    exact hK
  case body =>
    intro l pre x W hI hlen
    obtain ⟨h', n', β', V', F', k1, k2, k3, k4, k5, k6, k7, k8, k9, k10, k11⟩ := hI
    have hcell : W.cell? ⟨w.heap.size, 0, none⟩ = some (.pointer (some pc)) := by simp [World.cell?, k10]
    gi_wp2
    have hx : (pre.map (·.2)).length < ks.length := by simpa using hlen
    have rc' : RV E W.heap β' V' F' c (.pointer (some pc)) := rc.mono R.fsz k4
    have hcall := (hstep _ x.2 h' n' k1 hx).2 W β' V' F' #[.pointer (some pc), .int .u8 x.2] k3 k7 rfl (fun i hi => by
      match i with
      | 0 => exact rc'
      | 1 => exact .fz (.int _ _))
    refine ⟨trivial, CallsIn.inRound l ((callsIn_wide (n := 7)).2 (hcall.mono ?_))⟩
    rintro e W' ⟨v, β2, V2, F2, r, h2, n2, rfl, q1, q2, q3, q4, q5, q6, q7, q8⟩
    have nb : ∀ b, b < W.heap.size → (∀ κ e, β' κ ≠ some (b, e)) → W'.heap[b]? = W.heap[b]? := q3.out
    have ncell : ∀ b (o : Obj), W.heap[b]? = some o → o.isCells = false → W'.heap[b]? = some o := fun b o ho hoc => by
      rw [nb b (Array.getElem?_eq_some_iff.1 ho).1 (fun κ e he => by
        obtain ⟨C, T, hC⟩ := k3.cells k2 he
        rw [ho] at hC; cases hC; cases hoc)]
      exact ho
    gi_wp2
    refine ⟨⟨q3.size, ncell⟩, fun b hb => ?_, ⟨h2, n2, β2, V2, F2, ?_, hrows _ _ _ q8, q2, k4.trans q3, k5.trans q4, Nat.le_trans k6 q5, q6, fun κ a1 a2 => k8 κ (q7 κ a1 (by omega)) a2, fun κ b e he => ?_, ?_, Nat.le_trans k11 q3.size⟩⟩
    · rcases hb with rfl | hb
      · exact nb _ (by omega) (fun κ e he => (k9 κ _ e he).2 rfl)
      · exact q3.fr _ (k4.fmono _ hb) (by have := R.fsz _ hb; omega)
    · rw [List.map_append]; exact q8
    · rcases q3.img κ b e he with ⟨κ', e', h⟩ | h
      · exact k9 κ' b e' h
      · omega
    · rw [nb _ (by omega) (fun κ e he => (k9 κ _ e he).1 rfl)]; exact k10
  case done =>
    intro D xs W hD hS hI hdef
    subst hS
    simp only [Exit.inBlock]
    obtain ⟨h', n', β', V', F', k1, k2, k3, k4, k5, k6, k7, k8, k9, k10, k11⟩ := TI.own (J := J) (v0 := .pointer (some pc)) (n := n) R.gsz _ _ _ (some D) hI (grownBy_putObj' W D (.deferred none)) (fun r e => by cases e; exact ⟨by omega, _, hdef, rfl⟩)
    show LeavesInM _ _ _ _ _ _ _ _ _
    refine ⟨by simp, .inl ⟨D, _, rfl, run_takeDeferred hdef, ?_⟩⟩
    refine ⟨_, results_none rfl _ _ _, ?_⟩
    refine ⟨_, β', V', F', .undef, h', n', rfl, .fz (.undef _), k3, k4, k5, k6, k7, k8, ?_⟩
    rw [← back_snd]; exact k1
end Go.Proofs.YtablleokoifolaaGreatDoor

/- checker.takes as a contract with memory. -/
set_option linter.unusedVariables false
set_option linter.unusedSimpArgs false
namespace Go.Proofs.YtablleokoifolaaGreatDoor
open Go Go.RowKit

/-- A slice of kinds (bytes), frozen. -/
def u8s (l : List Int) : AV := .slv (l.map fun x => [.int .u8 x])

theorem fnOk_takes : FnOk E 84 := ⟨Tryz.f92, Tryz.func92, by kernel_rfl, by kernel_rfl⟩

theorem c_takes {h : Hp} {n κ i o : Nat} (ks : List Int) (hk : ks.length < 4611686018427387904) (J : List Int → Hp → Nat → Prop) (hrows : ∀ pre h n, J pre h n → AllRows h) (h0 : J [] h n)
    (hstep : ∀ pre x h n, J pre h n → pre.length < ks.length → ACallS E 40 [.ptr κ i o, .int .u8 x] h n (fun _ h' n' => J (pre ++ [x]) h' n'))
    (a : AV) (ha : a = u8s ks ∨ (a = .nils ∧ ks = [])) : ACallS E 84 [.ptr κ i o, a] h n (fun _ h' n' => J ks.reverse h' n') := by
  refine ⟨fnOk_takes, fun w β V F vs R vb hl hrv => ?_⟩
  have r0 := hrv 0 (by simp)
  have r1 := hrv 1 (by simp)
  obtain ⟨v, u, rfl⟩ : ∃ v u, vs = #[v, u] := by
    match vs, hl with
    | ⟨[v, u]⟩, _ => exact ⟨v, u, rfl⟩
  have e0 : (#[v, u] : Array Value).getD 0 Go.undef = v := rfl
  have e1 : (#[v, u] : Array Value).getD 1 Go.undef = u := rfl
  rw [e0] at r0
  rw [e1] at r1
  simp only [List.getD_cons_zero, List.getD_cons_succ] at r0 r1
  obtain ⟨pc, rfl⟩ := rv_ptr r0
  have key : ∃ (b : Option Addr) (cap : Nat), u = .slice b ks.length cap ∧ ((∃ A, b = some A ∧ F A.block ∧ ∀ i, i < ks.length → w.cell? (A.add i) = some (.int .u8 (ks.getD i 0))) ∨ ks = []) := by
    rcases ha with rfl | ⟨rfl, rfl⟩
    · unfold u8s at r1
      generalize hes : (ks.map fun x => [AV.int .u8 x]) = es at r1
      have hlen : es.length = ks.length := by rw [← hes]; simp
      cases r1 with
      | fz r =>
        cases r with
        | slv0 a cap =>
          have : ks = [] := List.length_eq_zero_iff.1 (by rw [← hlen]; rfl)
          subst this
          exact ⟨a, cap, rfl, .inr rfl⟩
        | slv _ b off cap esz C T fr hF hb hs hcap hlr hkc hc =>
          refine ⟨some ⟨b, off, none⟩, cap, by rw [hlen], .inl ⟨_, rfl, hF, fun i hi => ?_⟩⟩
          have hi' : i < es.length := by omega
          have eg : es.getD i [] = [AV.int .u8 (ks.getD i 0)] := by
            rw [← hes]; simp [List.getD_eq_getElem?_getD, hi]
          have hesz : esz = 1 := by
            have := hlr i hi'
            rw [eg] at this; simpa using this.symm
          subst hesz
          have hcc := hc i 0 hi' (by omega)
          rw [eg] at hcc
          simp only [List.getD_cons_zero, Nat.mul_one, Nat.add_zero] at hcc
          rw [addr_add]
          have hsz : off + i < C.size := by omega
          have hcell : w.cell? ⟨b, off + i, none⟩ = some (C.getD (off + i) Go.undef) := cell_at hb hsz
          rw [hcell]
          generalize C.getD (off + i) Go.undef = z at hcc
          cases hcc; rfl
    · cases r1 with
      | fz r => cases r; exact ⟨none, 0, rfl, .inr rfl⟩
  obtain ⟨b, cap, rfl, hb⟩ := key
  exact takes_in ks hk J hrows h0 hstep w β V F R vb pc r0 b cap hb

end Go.Proofs.YtablleokoifolaaGreatDoor

/- checker.takes as a contract with memory on laid objects. -/
set_option linter.unusedVariables false
set_option linter.unusedSimpArgs false
set_option maxRecDepth 100000
namespace Go.Proofs.YtablleokoifolaaGreatDoor
open Go

/-- A checker as taking needs it. -/
def okT (c : Checker) : Prop := 1 ≤ c.frames.length ∧ c.frames.length < 4611686018427387904 ∧ c.stack.length < 4611686018427387904 ∧
  0 ≤ (c.frames.getD (c.frames.length - 1) default).height ∧ (c.frames.getD (c.frames.length - 1) default).height ≤ (c.stack.length : Int)
instance (c : Checker) : Decidable (okT c) := by unfold okT; infer_instance

def takeT (c : Checker) (x : Int) : Checker := ((g_valid_checker_take c x).getD (0, c)).2

theorem gd_of {α : Type} {p : Prop} [Decidable p] {e : Option α} (h : p) : gd p e = e := by unfold gd; rw [if_pos h]

theorem okT_of {c c' : Checker} (ok : okT c) (hf : c'.frames = c.frames) (h1 : c'.stack.length ≤ c.stack.length) (h2 : (c.frames.getD (c.frames.length - 1) default).height ≤ (c'.stack.length : Int)) : okT c' := by
  obtain ⟨a, b, d, e, f⟩ := ok
  unfold okT
  rw [hf]
  exact ⟨a, b, by omega, e, h2⟩

theorem take_tot {c : Checker} (ok : okT c) (x : Int) : ∃ v, g_valid_checker_take c x = some (v, takeT c x) ∧ okT (takeT c x) ∧ (takeT c x).frames = c.frames := by
  have key : ∃ v c', g_valid_checker_take c x = some (v, c') ∧ okT c' ∧ c'.frames = c.frames := by
    have ok0 := ok
    obtain ⟨a, b, d, e, f⟩ := ok
    have w1 : wI ((c.frames.length : Int) - 1) = (c.frames.length : Int) - 1 := wI_small (by omega) (by omega)
    have t1 : ((c.frames.length : Int) - 1).toNat = c.frames.length - 1 := by omega
    unfold g_valid_checker_take
    rw [w1, t1, gd_of (by omega)]
    split
    · exact ⟨_, _, rfl, ok0, rfl⟩
    · split
      · split
        · exact ⟨_, _, rfl, okT_of ok0 rfl (Nat.le_refl _) f, rfl⟩
        · exact ⟨_, _, rfl, okT_of ok0 rfl (Nat.le_refl _) f, rfl⟩
      · rename_i hne
        have hne' : ¬ ((c.stack.length : Int) = (c.frames.getD (c.frames.length - 1) default).height) := by simpa using hne
        have w2 : wI ((c.stack.length : Int) - 1) = (c.stack.length : Int) - 1 := wI_small (by omega) (by omega)
        rw [w2, gd_of (by omega), gd_of (by omega)]
        have hl : (List.take ((c.stack.length : Int) - 1).toNat c.stack).length = c.stack.length - 1 := by rw [List.length_take]; omega
        split
        · simp only [Option.bind_some]
          split
          · exact ⟨_, _, rfl, okT_of ok0 rfl (by simp only [hl]; omega) (by simp only [hl]; omega), rfl⟩
          · exact ⟨_, _, rfl, okT_of ok0 rfl (by simp only [hl]; omega) (by simp only [hl]; omega), rfl⟩
        · simp only [Option.bind_some]
          split
          · exact ⟨_, _, rfl, okT_of ok0 rfl (by simp only [hl]; omega) (by simp only [hl]; omega), rfl⟩
          · exact ⟨_, _, rfl, okT_of ok0 rfl (by simp only [hl]; omega) (by simp only [hl]; omega), rfl⟩
  obtain ⟨v, c', h1, h2, h3⟩ := key
  have e : takeT c x = c' := by unfold takeT; rw [h1]; rfl
  rw [e]
  exact ⟨v, h1, h2, h3⟩

theorem foldT_ok {c : Checker} (ok : okT c) (l : List Int) : okT (l.foldl takeT c) := by
  induction l generalizing c with
  | nil => exact ok
  | cons x l ih => exact ih (take_tot ok x).choose_spec.2.1

def g_valid_checker_takes (c : Checker) (l : List Int) : Option Checker := gd (okT c ∧ l.length < 4611686018427387904) (some (l.reverse.foldl takeT c))

/-- Between two takings. -/
structure TkI (c : Checker) (ρ : Rho) (h : Hp) (n : Nat) (pre : List Int) (h' : Hp) (n' : Nat) : Prop where
  ex : ∃ ρ', (∀ k o, lkO (H_Checker (pre.foldl takeT c)) k = some o → RO ρ' h' k o) ∧
    (∀ k k' κ, (lkO (H_Checker (pre.foldl takeT c)) k).isSome = true → (lkO (H_Checker (pre.foldl takeT c)) k').isSome = true → ρ' k = some κ → ρ' k' = some κ → k = k') ∧
    (∀ k κ, (lkO (H_Checker (pre.foldl takeT c)) k).isSome = true → ρ' k = some κ → κ < n') ∧
    (∀ k κ, (lkO (H_Checker (pre.foldl takeT c)) k).isSome = true → ρ' k = some κ → (∃ k0, (lkO (H_Checker c) k0).isSome = true ∧ ρ k0 = some κ) ∨ n ≤ κ) ∧ ρ' 1000 = ρ 1000
  fr : ∀ κ, κ < n → (∀ k, (lkO (H_Checker c) k).isSome = true → ρ k ≠ some κ) → h' κ = h κ
  le : n ≤ n'
  rows : AllR h'

theorem c_valid_checker_takes (p0 : Checker) (p1 : List Int) (r : Checker) (H : g_valid_checker_takes p0 p1 = some r) :
    CM E 84 [.p 1000 0, .d (sV (eI .u8) p1)] (H_Checker p0) [] [1000] (fun a b => a = .undef ∧ b = H_Checker r) := by
  obtain ⟨⟨ok, hlen⟩, H⟩ := gd_some H
  obtain rfl := Option.some.inj H
  intro ρ h n al hO hinj hlt hr hrows
  obtain ⟨a0, a1, rfl⟩ : ∃ a0 a1, al = [a0, a1] := by
    have hl : al.length = 2 := hr.1
    match al, hl with
    | [a, b], _ => exact ⟨a, b, rfl⟩
  have r0 := hr.2 0 (by simp)
  have r1 := hr.2 1 (by simp)
  simp only [List.getD_cons_zero, List.getD_cons_succ] at r0 r1
  obtain ⟨κ, hκ, rfl⟩ : ∃ κ, ρ 1000 = some κ ∧ a0 = .ptr κ 0 0 := by
    cases r0 with
    | p k o κ h => exact ⟨κ, h, rfl⟩
  have ha : a1 = u8s p1 ∨ (a1 = .nils ∧ p1 = []) := by
    have r1 := rl_d r1
    generalize hv : sV (eI .u8) p1 = v at r1
    cases r1 with
    | c v hh =>
      left
      rw [← hv]
      simp only [sV, toA, u8s, AV.slv.injEq]
      apply List.ext_getElem
      · simp
      · intro i h1 h2
        have hi : i < p1.length := by simpa using h2
        simp [fl, eI, toAL, toA, List.getD_eq_getElem?_getD, hi]
    | sv0 f =>
      right
      unfold sV at hv
      injection hv with e1 e2
      exact ⟨rfl, List.length_eq_zero_iff.1 e1⟩
    | nils => cases hv
    | func => cases hv
    | iface => cases hv
    | agg => cases hv
    | tup => cases hv
  refine (c_takes p1 hlen (TkI p0 ρ h n) (fun pre h n j => j.rows) ⟨⟨ρ, hO, hinj, hlt, fun k κ a b => .inl ⟨k, a, b⟩, rfl⟩, fun _ _ _ => rfl, Nat.le_refl _, hrows⟩ ?_ a1 ha).mono ?_
  · intro pre x h1 n1 hJ _
    obtain ⟨⟨ρ1, j1, j2, j3, j4, j5⟩, j6, j7, j8⟩ := hJ
    obtain ⟨v, t1, t2, t3⟩ := take_tot (foldT_ok ok pre) x
    have hc := c_valid_checker_take _ _ _ t1 ρ1 h1 n1 [.ptr κ 0 0, .int .u8 x] j1 j2 j3 ⟨rfl, fun i hi => by
      match i with
      | 0 => exact .p _ _ _ (j5.trans hκ)
      | 1 => exact .d _ _ (.c _ rfl)⟩ j8
    refine hc.mono ?_
    rintro r h2 n2 ⟨⟨lv, H', ρ2, ⟨e1, e2⟩, q1, q2, q3, q4, q5, q6, q7, q8⟩, q9, q10, q11⟩
    subst e2
    have ef : (pre ++ [x]).foldl takeT p0 = takeT (pre.foldl takeT p0) x := by rw [List.foldl_append]; rfl
    refine ⟨⟨ρ2, ?_, ?_, ?_, ?_, (q8 1000 (by simp)).trans j5⟩, fun κ' hκ' hno => ?_, Nat.le_trans j7 q10, q11⟩
    · rw [ef]; exact q4
    · rw [ef]; exact q5
    · rw [ef]; exact q6
    · rw [ef]
      intro k κ' hk he
      rcases q7 k κ' hk he with ⟨k0, i1, i2⟩ | i
      · exact j4 k0 κ' i1 i2
      · exact .inr (by omega)
    · rw [← j6 κ' hκ' hno]
      refine q9 κ' (by omega) fun k hk he => ?_
      rcases j4 k κ' hk he with ⟨k0, i1, i2⟩ | i
      · exact hno k0 i1 i2
      · omega
  · rintro r h2 n2 ⟨⟨ρ2, q4, q5, q6, q7, q8⟩, q9, q10, q11⟩
    exact ⟨⟨.undef, _, ρ2, ⟨rfl, rfl⟩, rfl, rfl, .undef _, q4, q5, q6, q7, fun k hk => by
      obtain rfl : k = 1000 := by simpa using hk
      exact q8⟩, q9, q10, q11⟩
end Go.Proofs.YtablleokoifolaaGreatDoor

/- Plain functions and their contracts. Written by a program of this claim set (g2.py). -/
set_option linter.unusedVariables false
set_option maxRecDepth 100000
set_option maxHeartbeats 4000000
namespace Go.Proofs.YtablleokoifolaaGreatDoor
open Go

/- (*mandrel/valid.checker).leave -/
def g_valid_checker_leave (p0 : Checker) : Option (Checker) := gd (0 ≤ (wI ((p0.frames.length : Int) - 1)) ∧ (wI ((p0.frames.length : Int) - 1)) < (p0.frames.length : Int)) (gd (0 ≤ (0 : Int) ∧ 0 ≤ ((p0.frames.getD ((wI ((p0.frames.length : Int) - 1)).toNat) default).height) ∧ ((p0.frames.getD ((wI ((p0.frames.length : Int) - 1)).toNat) default).height) ≤ (p0.stack.length : Int)) (some (Checker.mk p0.m p0.t p0.locals (List.take (((p0.frames.getD ((wI ((p0.frames.length : Int) - 1)).toNat) default).height).toNat) p0.stack) (List.set p0.frames ((wI ((p0.frames.length : Int) - 1)).toNat) (Frame.mk (((p0.frames.getD ((wI ((p0.frames.length : Int) - 1)).toNat) default)).height) true (((p0.frames.getD ((wI ((p0.frames.length : Int) - 1)).toNat) default)).dead))) p0.labels p0.most p0.bad)))

theorem c_valid_checker_leave (p0 : Checker) (r : Checker) (H : g_valid_checker_leave p0 = some r) : CM E 69 [.p 1000 0] (H_Checker p0) [] [1000] (fun a b => a = (.tup [] : LV) ∧ b = H_Checker r) := by
  refine cs_of (A := F_valid_checker_leave) fn_valid_checker_leave fun fr => ?_
  unfold g_valid_checker_leave at H
  refine AW2.seq ?_
  obtain ⟨h1, H⟩ := gd_some H
  refine AW2.rg [] [0, 2] [] [.k 1000, .k 1001, .k 1002, .k 1003] ⟨[(0, .p 1000 0), (2, .ep 1002 ((wI ((p0.frames.length : Int) - 1)).toNat) 0)], H_Checker p0⟩ (And.intro (And.intro h1 (And.intro (ixN h1) True.intro)) True.intro) (by kernel_rfl) ?_
  refine AW2.seq ?_
  obtain ⟨h2, H⟩ := gd_some H
  refine AW2.rg [.s true (List.take (((p0.frames.getD ((wI ((p0.frames.length : Int) - 1)).toNat) default).height).toNat) p0.stack).length (fl (eI .u8) (List.take (((p0.frames.getD ((wI ((p0.frames.length : Int) - 1)).toNat) default).height).toNat) p0.stack))] [2] [] [.k 1000, .sl 1001 (List.take (((p0.frames.getD ((wI ((p0.frames.length : Int) - 1)).toNat) default).height).toNat) p0.stack).length (fl (eI .u8) (List.take (((p0.frames.getD ((wI ((p0.frames.length : Int) - 1)).toNat) default).height).toNat) p0.stack)), .k 1002, .k 1003] ⟨[(2, .ep 1002 ((wI ((p0.frames.length : Int) - 1)).toNat) 0)], H_Checker (Checker.mk p0.m p0.t p0.locals (List.take (((p0.frames.getD ((wI ((p0.frames.length : Int) - 1)).toNat) default).height).toNat) p0.stack) p0.frames p0.labels p0.most p0.bad)⟩ (And.intro (And.intro (ixN h1) (And.intro h2 (And.intro (takeN h2) True.intro))) (And.intro (takeL p0.stack (((p0.frames.getD ((wI ((p0.frames.length : Int) - 1)).toNat) default).height).toNat)) (And.intro (takeF (eI .u8) p0.stack (((p0.frames.getD ((wI ((p0.frames.length : Int) - 1)).toNat) default).height).toNat)) True.intro))) (by kernel_rfl) ?_
  refine AW2.rg [.s true 0 (fl eFrame (List.set p0.frames ((wI ((p0.frames.length : Int) - 1)).toNat) (Frame.mk (((p0.frames.getD ((wI ((p0.frames.length : Int) - 1)).toNat) default)).height) true (((p0.frames.getD ((wI ((p0.frames.length : Int) - 1)).toNat) default)).dead))))] [] [] [.st 1000 [(12, .ls 1002 0 (List.set p0.frames ((wI ((p0.frames.length : Int) - 1)).toNat) (Frame.mk (((p0.frames.getD ((wI ((p0.frames.length : Int) - 1)).toNat) default)).height) true (((p0.frames.getD ((wI ((p0.frames.length : Int) - 1)).toNat) default)).dead))).length)], .k 1001, .sl 1002 (List.set p0.frames ((wI ((p0.frames.length : Int) - 1)).toNat) (Frame.mk (((p0.frames.getD ((wI ((p0.frames.length : Int) - 1)).toNat) default)).height) true (((p0.frames.getD ((wI ((p0.frames.length : Int) - 1)).toNat) default)).dead))).length (fl eFrame (List.set p0.frames ((wI ((p0.frames.length : Int) - 1)).toNat) (Frame.mk (((p0.frames.getD ((wI ((p0.frames.length : Int) - 1)).toNat) default)).height) true (((p0.frames.getD ((wI ((p0.frames.length : Int) - 1)).toNat) default)).dead)))), .k 1003] ⟨[], H_Checker (Checker.mk p0.m p0.t p0.locals (List.take (((p0.frames.getD ((wI ((p0.frames.length : Int) - 1)).toNat) default).height).toNat) p0.stack) (List.set p0.frames ((wI ((p0.frames.length : Int) - 1)).toNat) (Frame.mk (((p0.frames.getD ((wI ((p0.frames.length : Int) - 1)).toNat) default)).height) true (((p0.frames.getD ((wI ((p0.frames.length : Int) - 1)).toNat) default)).dead))) p0.labels p0.most p0.bad)⟩ (And.intro (And.intro (ixN h1) (And.intro (setF eFrame p0.frames ((wI ((p0.frames.length : Int) - 1)).toNat) (Frame.mk (((p0.frames.getD ((wI ((p0.frames.length : Int) - 1)).toNat) default)).height) true (((p0.frames.getD ((wI ((p0.frames.length : Int) - 1)).toNat) default)).dead)) _ rfl) True.intro)) (And.intro (setEq p0.frames ((wI ((p0.frames.length : Int) - 1)).toNat) (Frame.mk (((p0.frames.getD ((wI ((p0.frames.length : Int) - 1)).toNat) default)).height) true (((p0.frames.getD ((wI ((p0.frames.length : Int) - 1)).toNat) default)).dead))) (And.intro (setLe p0.frames ((wI ((p0.frames.length : Int) - 1)).toNat) (Frame.mk (((p0.frames.getD ((wI ((p0.frames.length : Int) - 1)).toNat) default)).height) true (((p0.frames.getD ((wI ((p0.frames.length : Int) - 1)).toNat) default)).dead))) (And.intro (refF (fl eFrame (List.set p0.frames ((wI ((p0.frames.length : Int) - 1)).toNat) (Frame.mk (((p0.frames.getD ((wI ((p0.frames.length : Int) - 1)).toNat) default)).height) true (((p0.frames.getD ((wI ((p0.frames.length : Int) - 1)).toNat) default)).dead)))) (List.set p0.frames ((wI ((p0.frames.length : Int) - 1)).toNat) (Frame.mk (((p0.frames.getD ((wI ((p0.frames.length : Int) - 1)).toNat) default)).height) true (((p0.frames.getD ((wI ((p0.frames.length : Int) - 1)).toNat) default)).dead))).length) True.intro)))) (by kernel_rfl) ?_
  have H := Option.some.inj H
  subst H
  exact retS_mkn3 [] [.k 1000, .k 1001, .k 1002, .k 1003] True.intro (by kernel_rfl) (by kernel_rfl)

/- (*mandrel/valid.checker).lay -/
def g_valid_checker_lay (p0 : Checker) (p1 : Int) : Option (Checker) := (if (p1 == (0 : Int)) = true then some p0 else gd ((p0.stack.length + 1) * 1 ≤ 140737488355328) (gd (0 ≤ (wI ((p0.frames.length : Int) - 1)) ∧ (wI ((p0.frames.length : Int) - 1)) < (p0.frames.length : Int)) ((if ((!((p0.frames.getD ((wI ((p0.frames.length : Int) - 1)).toNat) default).away)) && (!((p0.frames.getD ((wI ((p0.frames.length : Int) - 1)).toNat) default).dead))) = true then some (Checker.mk p0.m p0.t p0.locals (p0.stack ++ ([p1] : List Int)) p0.frames p0.labels (mxI p0.most ((p0.stack ++ ([p1] : List Int)).length : Int)) p0.bad) else some (Checker.mk p0.m p0.t p0.locals (p0.stack ++ ([p1] : List Int)) p0.frames p0.labels p0.most p0.bad)))))

theorem c_valid_checker_lay (p0 : Checker) (p1 : Int) (r : Checker) (H : g_valid_checker_lay p0 p1 = some r) : CM E 71 [.p 1000 0, .d (.int .u8 p1)] (H_Checker p0) [] [1000] (fun a b => a = (.tup [] : LV) ∧ b = H_Checker r) := by
  refine cs_of (A := F_valid_checker_lay) fn_valid_checker_lay fun fr => ?_
  unfold g_valid_checker_lay at H
  refine AW2.seq ?_
  refine AW2.seq ?_
  refine AW2.rg [] [0, 1, 6] [] [.k 1000, .k 1001, .k 1002, .k 1003] ⟨[(0, .p 1000 0), (1, .d (.int .u8 p1)), (6, .d (.bool (p1 == (0 : Int))))], H_Checker p0⟩ (And.intro True.intro True.intro) (by kernel_rfl) ?_
  refine AW2.cond (b := (p1 == (0 : Int))) rfl (fun hc => ?_) (fun hc => ?_)
  · replace H := ite_t H hc
    refine AW2.ret ?_
    have H := Option.some.inj H
    subst H
    exact retS_mk3 [] [.k 1000, .k 1001, .k 1002, .k 1003] True.intro (by kernel_rfl) (by kernel_rfl)
  · replace H := ite_f H hc
    refine AW2.skip ?_
    refine AW2.seq ?_
    obtain ⟨h1, H⟩ := gd_some H
    refine AW2.rg [.sb ([p1] : List Int).length (fl (eI .u8) ([p1] : List Int)), .s true (p0.stack ++ ([p1] : List Int)).length (fl (eI .u8) (p0.stack ++ ([p1] : List Int)))] [0] [] [.k 1000, .k 1001, .k 1002, .k 1003] ⟨[(0, .p 1000 0)], H_Checker (Checker.mk p0.m p0.t p0.locals (p0.stack ++ ([p1] : List Int)) p0.frames p0.labels p0.most p0.bad)⟩ (And.intro (And.intro (litF (eI .u8) ([p1] : List Int)) (And.intro (Nat.le_refl p0.stack.length) (And.intro h1 (And.intro (app1 (eI .u8) p0.stack p1 (fl (eI .u8) ([p1] : List Int)) rfl) True.intro)))) True.intro) (by kernel_rfl) ?_
    refine AW2.seq ?_
    obtain ⟨h2, H⟩ := gd_some H
    refine AW2.rg [.k 4] [0, 4] [] [.k 4, .k 1000, .k 1001, .k 1002, .k 1003] ⟨[(0, .p 1000 0), (4, .p 4 0)], [(4, .st false (eD (eFrame (p0.frames.getD ((wI ((p0.frames.length : Int) - 1)).toNat) default))))] ++ H_Checker (Checker.mk p0.m p0.t p0.locals (p0.stack ++ ([p1] : List Int)) p0.frames p0.labels p0.most p0.bad)⟩ (And.intro (And.intro h2 (And.intro (ixN h2) (And.intro (ixN h2) True.intro))) True.intro) (by kernel_rfl) ?_
    refine AW2.seq ?_
    refine AW2.reg [] rfl (YW.to ⟨[(0, .p 1000 0), (36, .d (.bool ((!((p0.frames.getD ((wI ((p0.frames.length : Int) - 1)).toNat) default).away)) && (!((p0.frames.getD ((wI ((p0.frames.length : Int) - 1)).toNat) default).dead)))))], H_Checker (Checker.mk p0.m p0.t p0.locals (p0.stack ++ ([p1] : List Int)) p0.frames p0.labels p0.most p0.bad)⟩ ?qh3 ?h3)
    case h3 =>
      rcases bT (!((p0.frames.getD ((wI ((p0.frames.length : Int) - 1)).toNat) default).away)) with hc1 | hc1
      · exact YW.fin [(32, true)] [] [0, 36] [(36, .d (.bool ((!((p0.frames.getD ((wI ((p0.frames.length : Int) - 1)).toNat) default).away)) && (!((p0.frames.getD ((wI ((p0.frames.length : Int) - 1)).toNat) default).dead)))))] [.k 1000, .k 1001, .k 1002, .k 1003] _ (And.intro (And.intro hc1 (And.intro hc1 (And.intro hc1 (And.intro hc1 True.intro)))) (And.intro (ovB (Eq.trans (andT (b := (!((p0.frames.getD ((wI ((p0.frames.length : Int) - 1)).toNat) default).dead))) hc1) (Eq.refl (!((p0.frames.getD ((wI ((p0.frames.length : Int) - 1)).toNat) default).dead))))) True.intro)) (by kernel_rfl) rfl
      · exact YW.fin [(32, false)] [] [0, 36] [(36, .d (.bool ((!((p0.frames.getD ((wI ((p0.frames.length : Int) - 1)).toNat) default).away)) && (!((p0.frames.getD ((wI ((p0.frames.length : Int) - 1)).toNat) default).dead)))))] [.k 1000, .k 1001, .k 1002, .k 1003] _ (And.intro (And.intro hc1 (And.intro hc1 (And.intro hc1 (And.intro hc1 True.intro)))) (And.intro (ovB (andF (b := (!((p0.frames.getD ((wI ((p0.frames.length : Int) - 1)).toNat) default).dead))) hc1)) True.intro)) (by kernel_rfl) rfl
    refine AW2.cond (b := ((!((p0.frames.getD ((wI ((p0.frames.length : Int) - 1)).toNat) default).away)) && (!((p0.frames.getD ((wI ((p0.frames.length : Int) - 1)).toNat) default).dead)))) rfl (fun hc => ?_) (fun hc => ?_)
    · replace H := ite_t H hc
      refine AW2.rg [] [] [] [.k 1000, .k 1001, .k 1002, .k 1003] ⟨[], H_Checker (Checker.mk p0.m p0.t p0.locals (p0.stack ++ ([p1] : List Int)) p0.frames p0.labels (mxI p0.most ((p0.stack ++ ([p1] : List Int)).length : Int)) p0.bad)⟩ (And.intro True.intro True.intro) (by kernel_rfl) ?_
      have H := Option.some.inj H
      subst H
      exact retS_mkn3 [] [.k 1000, .k 1001, .k 1002, .k 1003] True.intro (by kernel_rfl) (by kernel_rfl)
    · replace H := ite_f H hc
      refine AW2.skip ?_
      have H := Option.some.inj H
      subst H
      exact retS_mkn3 [] [.k 1000, .k 1001, .k 1002, .k 1003] True.intro (by kernel_rfl) (by kernel_rfl)

/- (*mandrel/valid.checker).label -/
def g_valid_checker_label (p0 : Checker) (p1 : Int) : Option (Int × Checker) := (if ((decide (p1 < (0 : Int))) || (decide (p1 ≥ (p0.labels.length : Int)))) = true then some (0, (Checker.mk p0.m p0.t p0.locals p0.stack p0.frames p0.labels p0.most true)) else gd (0 ≤ (wI ((wI ((p0.labels.length : Int) - 1)) - p1)) ∧ (wI ((wI ((p0.labels.length : Int) - 1)) - p1)) < (p0.labels.length : Int)) (some (p0.labels.getD ((wI ((wI ((p0.labels.length : Int) - 1)) - p1)).toNat) default, p0)))

theorem c_valid_checker_label (p0 : Checker) (p1 : Int) (r : Int × Checker) (H : g_valid_checker_label p0 p1 = some r) : CM E 72 [.p 1000 0, .d (.int .i64 p1)] (H_Checker p0) [] [1000] (fun a b => a = (.d (.int .u8 r.1) : LV) ∧ b = H_Checker r.2) := by
  refine cs_of (A := F_valid_checker_label) fn_valid_checker_label fun fr => ?_
  unfold g_valid_checker_label at H
  refine AW2.seq ?_
  refine AW2.rg [] [0, 1] [] [.k 1000, .k 1001, .k 1002, .k 1003] ⟨[(0, .p 1000 0), (1, .d (.int .i64 p1))], H_Checker p0⟩ (And.intro True.intro True.intro) (by kernel_rfl) ?_
  refine AW2.seq ?_
  refine AW2.seq ?_
  refine AW2.reg [] rfl (YW.to ⟨[(0, .p 1000 0), (1, .d (.int .i64 p1)), (15, .d (.bool ((decide (p1 < (0 : Int))) || (decide (p1 ≥ (p0.labels.length : Int))))))], H_Checker p0⟩ ?qh2 ?h2)
  case h2 =>
    rcases bT (decide (p1 < (0 : Int))) with hc1 | hc1
    · exact YW.fin [(7, true)] [] [0, 1, 15] [(15, .d (.bool ((decide (p1 < (0 : Int))) || (decide (p1 ≥ (p0.labels.length : Int))))))] [.k 1000, .k 1001, .k 1002, .k 1003] _ (And.intro (And.intro hc1 (And.intro hc1 (And.intro hc1 (And.intro hc1 (And.intro hc1 (And.intro hc1 (And.intro hc1 (And.intro hc1 True.intro)))))))) (And.intro (ovB (orT (b := (decide (p1 ≥ (p0.labels.length : Int)))) hc1)) True.intro)) (by kernel_rfl) rfl
    · exact YW.fin [(7, false)] [] [0, 1, 15] [(15, .d (.bool ((decide (p1 < (0 : Int))) || (decide (p1 ≥ (p0.labels.length : Int))))))] [.k 1000, .k 1001, .k 1002, .k 1003] _ (And.intro (And.intro hc1 (And.intro hc1 (And.intro hc1 (And.intro hc1 (And.intro hc1 (And.intro hc1 (And.intro hc1 (And.intro hc1 True.intro)))))))) (And.intro (ovB (Eq.trans (orF (b := (decide (p1 ≥ (p0.labels.length : Int)))) hc1) (Eq.refl (decide (p1 ≥ (p0.labels.length : Int)))))) True.intro)) (by kernel_rfl) rfl
  refine AW2.cond (b := ((decide (p1 < (0 : Int))) || (decide (p1 ≥ (p0.labels.length : Int))))) rfl (fun hc => ?_) (fun hc => ?_)
  · replace H := ite_t H hc
    refine AW2.seq ?_
    refine AW2.rg [] [] [] [.k 1000, .k 1001, .k 1002, .k 1003] ⟨[], H_Checker (Checker.mk p0.m p0.t p0.locals p0.stack p0.frames p0.labels p0.most true)⟩ (And.intro True.intro True.intro) (by kernel_rfl) ?_
    refine AW2.seq ?_
    refine AW2.rg [] [4] [] [.k 1000, .k 1001, .k 1002, .k 1003] ⟨[(4, .d (.int .u8 0))], H_Checker (Checker.mk p0.m p0.t p0.locals p0.stack p0.frames p0.labels p0.most true)⟩ (And.intro True.intro True.intro) (by kernel_rfl) ?_
    refine AW2.ret ?_
    have H := Option.some.inj H
    subst H
    exact retS_mk3 [] [.k 1000, .k 1001, .k 1002, .k 1003] True.intro (by kernel_rfl) (by kernel_rfl)
  · replace H := ite_f H hc
    refine AW2.skip ?_
    refine AW2.seq ?_
    obtain ⟨h1, H⟩ := gd_some H
    refine AW2.rg [] [4] [] [.k 1000, .k 1001, .k 1002, .k 1003] ⟨[(4, .d (.int .u8 (p0.labels.getD ((wI ((wI ((p0.labels.length : Int) - 1)) - p1)).toNat) default)))], H_Checker p0⟩ (And.intro (And.intro h1 (And.intro (ixN h1) (And.intro (ixN h1) True.intro))) True.intro) (by kernel_rfl) ?_
    refine AW2.ret ?_
    have H := Option.some.inj H
    subst H
    exact retS_mk3 [] [.k 1000, .k 1001, .k 1002, .k 1003] True.intro (by kernel_rfl) (by kernel_rfl)

/- (*mandrel/valid.checker).table -/
def g_valid_checker_table_l0 : Nat → Instr → (Int × Checker) → Checker → Int → Option (Checker)
  | 0, _, _, _, _ => none
  | k+1, p1, x4, a13, a14 => (if (decide (a14 < (p1.labels.length : Int))) = true then (gd (0 ≤ a14 ∧ a14 < (p1.labels.length : Int)) (((g_valid_checker_label a13 (wI (p1.labels.getD a14.toNat default))).bind fun x17 => (if (x17.1 != x4.1) = true then some (Checker.mk x17.2.m x17.2.t x17.2.locals x17.2.stack x17.2.frames x17.2.labels x17.2.most true) else some x17.2)))).bind (fun j15 => g_valid_checker_table_l0 k p1 x4 j15 (wI (a14 + 1))) else some a13)

def g_valid_checker_table (K : Nat) (p0 : Checker) (p1 : Instr) : Option (Checker) := ((g_valid_checker_take p0 127).bind fun x1 => (if (((p1.labels.length : Int) == (0 : Int)) || (decide ((p1.labels.length : Int) > (257 : Int)))) = true then some (Checker.mk x1.2.m x1.2.t x1.2.locals x1.2.stack x1.2.frames x1.2.labels x1.2.most true) else gd (0 ≤ (wI ((p1.labels.length : Int) - 1)) ∧ (wI ((p1.labels.length : Int) - 1)) < (p1.labels.length : Int)) (((g_valid_checker_label x1.2 (wI (p1.labels.getD (wI ((p1.labels.length : Int) - 1)).toNat default))).bind fun x4 => (g_valid_checker_table_l0 K p1 x4 x4.2 0).bind (fun j6 => ((g_valid_checker_take j6 x4.1).bind fun x7 => ((g_valid_checker_leave x7.2).bind fun x9 => some x9)))))))

theorem c_valid_checker_table (K : Nat) (p0 : Checker) (p1 : Instr) (r : Checker) (H : g_valid_checker_table K p0 p1 = some r) : CM E 73 [.p 1000 0, .agg (eD (eInstr p1))] (H_Checker p0) [] [1000] (fun a b => a = (.tup [] : LV) ∧ b = H_Checker r) := by
  refine cs_of (A := F_valid_checker_table) fn_valid_checker_table fun fr => ?_
  unfold g_valid_checker_table at H
  refine AW2.seq ?_
  refine AW2.rg [.k 3] [0, 3] [] [.k 3, .k 1000, .k 1001, .k 1002, .k 1003] ⟨[(0, .p 1000 0), (3, .p 3 0)], [(3, .st false (eD (eInstr p1)))] ++ H_Checker p0⟩ (And.intro True.intro True.intro) (by kernel_rfl) ?_
  refine AW2.seq ?_
  obtain ⟨x1, hx2, H⟩ := bind_some H
  refine AW2.rg [.c [1000, 1001, 1002, 1003] [] [1000] (.d (.int .u8 x1.1)) (H_Checker x1.2)] [0, 3] [] [.k 3, .k 1000, .k 1001, .k 1002, .k 1003] ⟨[(0, .p 1000 0), (3, .p 3 0)], [(3, .st false (eD (eInstr p1)))] ++ H_Checker x1.2⟩ (And.intro (And.intro (c_valid_checker_take p0 127 x1 hx2) True.intro) True.intro) (by kernel_rfl) ?_
  refine AW2.seq ?_
  refine AW2.seq ?_
  refine AW2.reg [] rfl (YW.to ⟨[(0, .p 1000 0), (3, .p 3 0), (18, .d (.bool (((p1.labels.length : Int) == (0 : Int)) || (decide ((p1.labels.length : Int) > (257 : Int))))))], [(3, .st false (eD (eInstr p1)))] ++ H_Checker x1.2⟩ ?qh23 ?h23)
  case h23 =>
    rcases bT ((p1.labels.length : Int) == (0 : Int)) with hc1 | hc1
    · exact YW.fin [(13, true)] [] [0, 3, 18] [(18, .d (.bool (((p1.labels.length : Int) == (0 : Int)) || (decide ((p1.labels.length : Int) > (257 : Int))))))] [.k 3, .k 1000, .k 1001, .k 1002, .k 1003] _ (And.intro (And.intro hc1 (And.intro hc1 (And.intro hc1 (And.intro hc1 (And.intro hc1 True.intro))))) (And.intro (ovB (orT (b := (decide ((p1.labels.length : Int) > (257 : Int)))) hc1)) True.intro)) (by kernel_rfl) rfl
    · exact YW.fin [(13, false)] [] [0, 3, 18] [(18, .d (.bool (((p1.labels.length : Int) == (0 : Int)) || (decide ((p1.labels.length : Int) > (257 : Int))))))] [.k 3, .k 1000, .k 1001, .k 1002, .k 1003] _ (And.intro (And.intro hc1 (And.intro hc1 (And.intro hc1 (And.intro hc1 (And.intro hc1 True.intro))))) (And.intro (ovB (Eq.trans (orF (b := (decide ((p1.labels.length : Int) > (257 : Int)))) hc1) (Eq.refl (decide ((p1.labels.length : Int) > (257 : Int)))))) True.intro)) (by kernel_rfl) rfl
  refine AW2.cond (b := (((p1.labels.length : Int) == (0 : Int)) || (decide ((p1.labels.length : Int) > (257 : Int))))) rfl (fun hc => ?_) (fun hc => ?_)
  · replace H := ite_t H hc
    refine AW2.seq ?_
    refine AW2.rg [] [] [] [.k 1000, .k 1001, .k 1002, .k 1003] ⟨[], H_Checker (Checker.mk x1.2.m x1.2.t x1.2.locals x1.2.stack x1.2.frames x1.2.labels x1.2.most true)⟩ (And.intro True.intro True.intro) (by kernel_rfl) ?_
    refine AW2.ret ?_
    have H := Option.some.inj H
    subst H
    exact retS_mk3 [] [.k 1000, .k 1001, .k 1002, .k 1003] True.intro (by kernel_rfl) (by kernel_rfl)
  · replace H := ite_f H hc
    refine AW2.skip ?_
    refine AW2.seq ?_
    obtain ⟨h3, H⟩ := gd_some H
    obtain ⟨x4, hx5, H⟩ := bind_some H
    refine AW2.rg [.c [1000, 1001, 1002, 1003] [] [1000] (.d (.int .u8 x4.1)) (H_Checker x4.2)] [0, 3, 4] [] [.k 3, .k 1000, .k 1001, .k 1002, .k 1003] ⟨[(0, .p 1000 0), (3, .p 3 0), (4, .d (.int .u8 x4.1))], [(3, .st false (eD (eInstr p1)))] ++ H_Checker x4.2⟩ (And.intro (And.intro h3 (And.intro (c_valid_checker_label x1.2 (wI (p1.labels.getD (wI ((p1.labels.length : Int) - 1)).toNat default)) x4 hx5) True.intro)) True.intro) (by kernel_rfl) ?_
    obtain ⟨j6, H22, H⟩ := bind_some H
    refine AW2.mid ⟨[(0, .p 1000 0), (4, .d (.int .u8 x4.1))], H_Checker j6⟩ ?_ ?_
    · refine AW2.seq ?_
      obtain ⟨x7, hx8, H⟩ := bind_some H
      refine AW2.rg [.c [1000, 1001, 1002, 1003] [] [1000] (.d (.int .u8 x7.1)) (H_Checker x7.2)] [0] [] [.k 1000, .k 1001, .k 1002, .k 1003] ⟨[(0, .p 1000 0)], H_Checker x7.2⟩ (And.intro (And.intro (c_valid_checker_take j6 x4.1 x7 hx8) True.intro) True.intro) (by kernel_rfl) ?_
      obtain ⟨x9, hx10, H⟩ := bind_some H
      refine AW2.rg [.c [1000, 1001, 1002, 1003] [] [1000] (.tup []) (H_Checker x9)] [] [] [.k 1000, .k 1001, .k 1002, .k 1003] ⟨[], H_Checker x9⟩ (And.intro (And.intro (c_valid_checker_leave x7.2 x9 hx10) True.intro) True.intro) (by kernel_rfl) ?_
      have H := Option.some.inj H
      subst H
      exact retS_mkn3 [] [.k 1000, .k 1001, .k 1002, .k 1003] True.intro (by kernel_rfl) (by kernel_rfl)
    · have H := H22
      refine AW2.seq ?_
      refine AW2.rg [] [0, 4, 34, 35, 36] [] [.k 1000, .k 1001, .k 1002, .k 1003] ⟨[(0, .p 1000 0), (4, .d (.int .u8 x4.1)), (34, .d (sV (eI .u32) p1.labels)), (35, .d (.int .i64 (p1.labels.length : Int))), (36, .d (.int .i64 0))], H_Checker x4.2⟩ (And.intro True.intro True.intro) (by kernel_rfl) ?_
      refine AW2.block ?_
      refine AW2.lp (σ := Checker × Int) (fun v => ⟨[(0, .p 1000 0), (4, .d (.int .u8 x4.1)), (34, .d (sV (eI .u32) p1.labels)), (35, .d (.int .i64 (p1.labels.length : Int))), (36, .d (.int .i64 v.2))], H_Checker v.1⟩) (fun k v => g_valid_checker_table_l0 k p1 x4 v.1 v.2 = some j6) ?_ K (x4.2, 0) H
      rintro k ⟨a13, a14⟩ H
      dsimp only at H
      cases k with
      | zero => cases H
      | succ k =>
      unfold g_valid_checker_table_l0 at H
      refine AW2.seq ?_
      refine AW2.rg [] [0, 4, 34, 35, 36, 37] [] [.k 1000, .k 1001, .k 1002, .k 1003] ⟨[(0, .p 1000 0), (4, .d (.int .u8 x4.1)), (34, .d (sV (eI .u32) p1.labels)), (35, .d (.int .i64 (p1.labels.length : Int))), (36, .d (.int .i64 a14)), (37, .d (.bool (decide (a14 < (p1.labels.length : Int)))))], H_Checker a13⟩ (And.intro True.intro True.intro) (by kernel_rfl) ?_
      refine AW2.seq ?_
      refine AW2.cond (b := (decide (a14 < (p1.labels.length : Int)))) rfl (fun hc => ?_) (fun hc => ?_)
      · replace H := ite_t H hc
        refine AW2.skip ?_
        obtain ⟨j15, H20, H⟩ := bind_some H
        refine AW2.mid ⟨[(0, .p 1000 0), (4, .d (.int .u8 x4.1)), (34, .d (sV (eI .u32) p1.labels)), (35, .d (.int .i64 (p1.labels.length : Int))), (36, .d (.int .i64 a14))], H_Checker j15⟩ ?_ ?_
        · refine AW2.rg [] [0, 4, 34, 35, 36] [] [.k 1000, .k 1001, .k 1002, .k 1003] ⟨[(0, .p 1000 0), (4, .d (.int .u8 x4.1)), (34, .d (sV (eI .u32) p1.labels)), (35, .d (.int .i64 (p1.labels.length : Int))), (36, .d (.int .i64 (wI (a14 + 1))))], H_Checker j15⟩ (And.intro True.intro True.intro) (by kernel_rfl) ?_
          exact ⟨k, (j15, (wI (a14 + 1))), Nat.lt_succ_self k, H, wk_mk [0, 4, 34, 35, 36] [] [.k 1000, .k 1001, .k 1002, .k 1003] True.intro (by kernel_rfl)⟩
        · have H := H20
          refine AW2.block ?_
          refine AW2.seq ?_
          obtain ⟨h16, H⟩ := gd_some H
          refine AW2.rg [] [0, 4, 6, 34, 35, 36] [] [.k 1000, .k 1001, .k 1002, .k 1003] ⟨[(0, .p 1000 0), (4, .d (.int .u8 x4.1)), (6, .d (.int .u32 (p1.labels.getD a14.toNat default))), (34, .d (sV (eI .u32) p1.labels)), (35, .d (.int .i64 (p1.labels.length : Int))), (36, .d (.int .i64 a14))], H_Checker a13⟩ (And.intro (And.intro h16 True.intro) True.intro) (by kernel_rfl) ?_
          refine AW2.seq ?_
          obtain ⟨x17, hx18, H⟩ := bind_some H
          refine AW2.rg [.c [1000, 1001, 1002, 1003] [] [1000] (.d (.int .u8 x17.1)) (H_Checker x17.2)] [0, 4, 34, 35, 36, 45] [] [.k 1000, .k 1001, .k 1002, .k 1003] ⟨[(0, .p 1000 0), (4, .d (.int .u8 x4.1)), (34, .d (sV (eI .u32) p1.labels)), (35, .d (.int .i64 (p1.labels.length : Int))), (36, .d (.int .i64 a14)), (45, .d (.bool (x17.1 != x4.1)))], H_Checker x17.2⟩ (And.intro (And.intro (c_valid_checker_label a13 (wI (p1.labels.getD a14.toNat default)) x17 hx18) True.intro) True.intro) (by kernel_rfl) ?_
          refine AW2.cond (b := (x17.1 != x4.1)) rfl (fun hc => ?_) (fun hc => ?_)
          · replace H := ite_t H hc
            refine AW2.rg [] [0, 4, 34, 35, 36] [] [.k 1000, .k 1001, .k 1002, .k 1003] ⟨[(0, .p 1000 0), (4, .d (.int .u8 x4.1)), (34, .d (sV (eI .u32) p1.labels)), (35, .d (.int .i64 (p1.labels.length : Int))), (36, .d (.int .i64 a14))], H_Checker (Checker.mk x17.2.m x17.2.t x17.2.locals x17.2.stack x17.2.frames x17.2.labels x17.2.most true)⟩ (And.intro True.intro True.intro) (by kernel_rfl) ?_
            have H := Option.some.inj H
            subst H
            exact wk_mk [0, 4, 34, 35, 36] [] [.k 1000, .k 1001, .k 1002, .k 1003] True.intro (by kernel_rfl)
          · replace H := ite_f H hc
            refine AW2.skip ?_
            have H := Option.some.inj H
            subst H
            exact wk_mk [0, 4, 34, 35, 36] [] [.k 1000, .k 1001, .k 1002, .k 1003] True.intro (by kernel_rfl)
      · replace H := ite_f H hc
        refine AW2.exit ?_
        have H := Option.some.inj H
        subst H
        exact wk_mk [0, 4] [] [.k 1000, .k 1001, .k 1002, .k 1003] True.intro (by kernel_rfl)

/- (*mandrel/valid.checker).call -/
def g_valid_checker_call (p0 : Checker) (p1 : Typ) : Option (Checker) := ((g_valid_checker_takes p0 p1.params).bind fun x1 => ((g_valid_checker_lay x1 p1.result).bind fun x3 => some x3))

theorem c_valid_checker_call (p0 : Checker) (p1 : Typ) (r : Checker) (H : g_valid_checker_call p0 p1 = some r) : CM E 75 [.p 1000 0, .agg (eD (eTyp p1))] (H_Checker p0) [] [1000] (fun a b => a = (.tup [] : LV) ∧ b = H_Checker r) := by
  refine cs_of (A := F_valid_checker_call) fn_valid_checker_call fun fr => ?_
  unfold g_valid_checker_call at H
  refine AW2.seq ?_
  refine AW2.rg [.k 3] [0, 3] [] [.k 3, .k 1000, .k 1001, .k 1002, .k 1003] ⟨[(0, .p 1000 0), (3, .p 3 0)], [(3, .st false (eD (eTyp p1)))] ++ H_Checker p0⟩ (And.intro True.intro True.intro) (by kernel_rfl) ?_
  refine AW2.seq ?_
  obtain ⟨x1, hx2, H⟩ := bind_some H
  refine AW2.rg [.c [1000, 1001, 1002, 1003] [] [1000] (.undef) (H_Checker x1)] [0, 3] [] [.k 3, .k 1000, .k 1001, .k 1002, .k 1003] ⟨[(0, .p 1000 0), (3, .p 3 0)], [(3, .st false (eD (eTyp p1)))] ++ H_Checker x1⟩ (And.intro (And.intro (c_valid_checker_takes p0 p1.params x1 hx2) True.intro) True.intro) (by kernel_rfl) ?_
  obtain ⟨x3, hx4, H⟩ := bind_some H
  refine AW2.rg [.c [1000, 1001, 1002, 1003] [] [1000] (.tup []) (H_Checker x3)] [] [] [.k 1000, .k 1001, .k 1002, .k 1003] ⟨[], H_Checker x3⟩ (And.intro (And.intro (c_valid_checker_lay x1 p1.result x3 hx4) True.intro) True.intro) (by kernel_rfl) ?_
  have H := Option.some.inj H
  subst H
  exact retS_mkn3 [] [.k 1000, .k 1001, .k 1002, .k 1003] True.intro (by kernel_rfl) (by kernel_rfl)

/- (*mandrel/valid.checker).typ -/
def g_valid_checker_typ (p0 : Checker) (p1 : Int) : Option (Typ × Checker) := (if ((decide (p1 < (0 : Int))) || (decide (p1 ≥ (p0.m.types.length : Int)))) = true then some ((Typ.mk ([] : List Int) 0), (Checker.mk p0.m p0.t p0.locals p0.stack p0.frames p0.labels p0.most true)) else gd (0 ≤ p1 ∧ p1 < (p0.m.types.length : Int)) (some ((p0.m.types.getD p1.toNat default), p0)))

theorem c_valid_checker_typ (p0 : Checker) (p1 : Int) (r : Typ × Checker) (H : g_valid_checker_typ p0 p1 = some r) : CM E 76 [.p 1000 0, .d (.int .i64 p1)] (H_Checker p0) [] [1000] (fun a b => a = (.agg (eD (eTyp r.1)) : LV) ∧ b = H_Checker r.2) := by
  refine cs_of (A := F_valid_checker_typ) fn_valid_checker_typ fun fr => ?_
  unfold g_valid_checker_typ at H
  refine AW2.seq ?_
  refine AW2.rg [.k 4] [0, 1, 4] [] [.k 4, .k 1000, .k 1001, .k 1002, .k 1003] ⟨[(0, .p 1000 0), (1, .d (.int .i64 p1)), (4, .p 4 0)], [(4, .st false [.d .nils, .d (.int .u8 0)])] ++ H_Checker p0⟩ (And.intro True.intro True.intro) (by kernel_rfl) ?_
  refine AW2.seq ?_
  refine AW2.seq ?_
  refine AW2.reg [] rfl (YW.to ⟨[(0, .p 1000 0), (1, .d (.int .i64 p1)), (4, .p 4 0), (16, .d (.bool ((decide (p1 < (0 : Int))) || (decide (p1 ≥ (p0.m.types.length : Int))))))], [(4, .st false [.d .nils, .d (.int .u8 0)])] ++ H_Checker p0⟩ ?qh2 ?h2)
  case h2 =>
    rcases bT (decide (p1 < (0 : Int))) with hc1 | hc1
    · exact YW.fin [(7, true)] [] [0, 1, 4, 16] [(16, .d (.bool ((decide (p1 < (0 : Int))) || (decide (p1 ≥ (p0.m.types.length : Int))))))] [.k 4, .k 1000, .k 1001, .k 1002, .k 1003] _ (And.intro (And.intro hc1 (And.intro hc1 (And.intro hc1 (And.intro hc1 (And.intro hc1 (And.intro hc1 (And.intro hc1 (And.intro hc1 (And.intro hc1 True.intro))))))))) (And.intro (ovB (orT (b := (decide (p1 ≥ (p0.m.types.length : Int)))) hc1)) True.intro)) (by kernel_rfl) rfl
    · exact YW.fin [(7, false)] [] [0, 1, 4, 16] [(16, .d (.bool ((decide (p1 < (0 : Int))) || (decide (p1 ≥ (p0.m.types.length : Int))))))] [.k 4, .k 1000, .k 1001, .k 1002, .k 1003] _ (And.intro (And.intro hc1 (And.intro hc1 (And.intro hc1 (And.intro hc1 (And.intro hc1 (And.intro hc1 (And.intro hc1 (And.intro hc1 (And.intro hc1 True.intro))))))))) (And.intro (ovB (Eq.trans (orF (b := (decide (p1 ≥ (p0.m.types.length : Int)))) hc1) (Eq.refl (decide (p1 ≥ (p0.m.types.length : Int)))))) True.intro)) (by kernel_rfl) rfl
  refine AW2.cond (b := ((decide (p1 < (0 : Int))) || (decide (p1 ≥ (p0.m.types.length : Int))))) rfl (fun hc => ?_) (fun hc => ?_)
  · replace H := ite_t H hc
    refine AW2.seq ?_
    refine AW2.rg [] [4] [] [.k 4, .k 1000, .k 1001, .k 1002, .k 1003] ⟨[(4, .p 4 0)], [(4, .st false [.d .nils, .d (.int .u8 0)])] ++ H_Checker (Checker.mk p0.m p0.t p0.locals p0.stack p0.frames p0.labels p0.most true)⟩ (And.intro True.intro True.intro) (by kernel_rfl) ?_
    refine AW2.seq ?_
    refine AW2.rg [] [4] [] [.k 4, .k 1000, .k 1001, .k 1002, .k 1003] ⟨[(4, .p 4 0)], [(4, .st false [.d .nils, .d (.int .u8 0)])] ++ H_Checker (Checker.mk p0.m p0.t p0.locals p0.stack p0.frames p0.labels p0.most true)⟩ (And.intro True.intro True.intro) (by kernel_rfl) ?_
    refine AW2.ret ?_
    have H := Option.some.inj H
    subst H
    exact retS_mk3 [(0, .d (sV (eI .u8) ([] : List Int)))] [.k 1000, .k 1001, .k 1002, .k 1003] (And.intro (Eq.refl 0) True.intro) (by kernel_rfl) (by kernel_rfl)
  · replace H := ite_f H hc
    refine AW2.skip ?_
    refine AW2.seq ?_
    obtain ⟨h1, H⟩ := gd_some H
    refine AW2.rg [] [4] [] [.k 4, .k 1000, .k 1001, .k 1002, .k 1003] ⟨[(4, .p 4 0)], [(4, .st false (eD (eTyp (p0.m.types.getD p1.toNat default))))] ++ H_Checker p0⟩ (And.intro (And.intro h1 True.intro) True.intro) (by kernel_rfl) ?_
    refine AW2.ret ?_
    have H := Option.some.inj H
    subst H
    exact retS_mk3 [] [.k 1000, .k 1001, .k 1002, .k 1003] True.intro (by kernel_rfl) (by kernel_rfl)

/- (*mandrel/valid.checker).function -/
def g_valid_checker_function (p0 : Checker) (p1 : Int) : Option (Typ × Checker) := (if ((decide (p1 < (0 : Int))) || (decide (p1 ≥ (p0.m.funcs.length : Int)))) = true then some ((Typ.mk ([] : List Int) 0), (Checker.mk p0.m p0.t p0.locals p0.stack p0.frames p0.labels p0.most true)) else gd (0 ≤ p1 ∧ p1 < (p0.m.funcs.length : Int)) (((g_valid_checker_typ p0 (wI (((p0.m.funcs.getD p1.toNat default)).type_))).bind fun x2 => some (x2.1, x2.2))))

theorem c_valid_checker_function (p0 : Checker) (p1 : Int) (r : Typ × Checker) (H : g_valid_checker_function p0 p1 = some r) : CM E 74 [.p 1000 0, .d (.int .i64 p1)] (H_Checker p0) [] [1000] (fun a b => a = (.agg (eD (eTyp r.1)) : LV) ∧ b = H_Checker r.2) := by
  refine cs_of (A := F_valid_checker_function) fn_valid_checker_function fun fr => ?_
  unfold g_valid_checker_function at H
  refine AW2.seq ?_
  refine AW2.rg [.k 4] [0, 1, 4] [] [.k 4, .k 1000, .k 1001, .k 1002, .k 1003] ⟨[(0, .p 1000 0), (1, .d (.int .i64 p1)), (4, .p 4 0)], [(4, .st false [.d .nils, .d (.int .u8 0)])] ++ H_Checker p0⟩ (And.intro True.intro True.intro) (by kernel_rfl) ?_
  refine AW2.seq ?_
  refine AW2.seq ?_
  refine AW2.reg [] rfl (YW.to ⟨[(0, .p 1000 0), (1, .d (.int .i64 p1)), (4, .p 4 0), (16, .d (.bool ((decide (p1 < (0 : Int))) || (decide (p1 ≥ (p0.m.funcs.length : Int))))))], [(4, .st false [.d .nils, .d (.int .u8 0)])] ++ H_Checker p0⟩ ?qh4 ?h4)
  case h4 =>
    rcases bT (decide (p1 < (0 : Int))) with hc1 | hc1
    · exact YW.fin [(7, true)] [] [0, 1, 4, 16] [(16, .d (.bool ((decide (p1 < (0 : Int))) || (decide (p1 ≥ (p0.m.funcs.length : Int))))))] [.k 4, .k 1000, .k 1001, .k 1002, .k 1003] _ (And.intro (And.intro hc1 (And.intro hc1 (And.intro hc1 (And.intro hc1 (And.intro hc1 (And.intro hc1 (And.intro hc1 (And.intro hc1 (And.intro hc1 True.intro))))))))) (And.intro (ovB (orT (b := (decide (p1 ≥ (p0.m.funcs.length : Int)))) hc1)) True.intro)) (by kernel_rfl) rfl
    · exact YW.fin [(7, false)] [] [0, 1, 4, 16] [(16, .d (.bool ((decide (p1 < (0 : Int))) || (decide (p1 ≥ (p0.m.funcs.length : Int))))))] [.k 4, .k 1000, .k 1001, .k 1002, .k 1003] _ (And.intro (And.intro hc1 (And.intro hc1 (And.intro hc1 (And.intro hc1 (And.intro hc1 (And.intro hc1 (And.intro hc1 (And.intro hc1 (And.intro hc1 True.intro))))))))) (And.intro (ovB (Eq.trans (orF (b := (decide (p1 ≥ (p0.m.funcs.length : Int)))) hc1) (Eq.refl (decide (p1 ≥ (p0.m.funcs.length : Int)))))) True.intro)) (by kernel_rfl) rfl
  refine AW2.cond (b := ((decide (p1 < (0 : Int))) || (decide (p1 ≥ (p0.m.funcs.length : Int))))) rfl (fun hc => ?_) (fun hc => ?_)
  · replace H := ite_t H hc
    refine AW2.seq ?_
    refine AW2.rg [] [4] [] [.k 4, .k 1000, .k 1001, .k 1002, .k 1003] ⟨[(4, .p 4 0)], [(4, .st false [.d .nils, .d (.int .u8 0)])] ++ H_Checker (Checker.mk p0.m p0.t p0.locals p0.stack p0.frames p0.labels p0.most true)⟩ (And.intro True.intro True.intro) (by kernel_rfl) ?_
    refine AW2.seq ?_
    refine AW2.rg [] [4] [] [.k 4, .k 1000, .k 1001, .k 1002, .k 1003] ⟨[(4, .p 4 0)], [(4, .st false [.d .nils, .d (.int .u8 0)])] ++ H_Checker (Checker.mk p0.m p0.t p0.locals p0.stack p0.frames p0.labels p0.most true)⟩ (And.intro True.intro True.intro) (by kernel_rfl) ?_
    refine AW2.ret ?_
    have H := Option.some.inj H
    subst H
    exact retS_mk3 [(0, .d (sV (eI .u8) ([] : List Int)))] [.k 1000, .k 1001, .k 1002, .k 1003] (And.intro (Eq.refl 0) True.intro) (by kernel_rfl) (by kernel_rfl)
  · replace H := ite_f H hc
    refine AW2.skip ?_
    refine AW2.seq ?_
    obtain ⟨h1, H⟩ := gd_some H
    obtain ⟨x2, hx3, H⟩ := bind_some H
    refine AW2.rg [.c [1000, 1001, 1002, 1003] [] [1000] (.agg (eD (eTyp x2.1))) (H_Checker x2.2)] [4] [] [.k 4, .k 1000, .k 1001, .k 1002, .k 1003] ⟨[(4, .p 4 0)], [(4, .st false (eD (eTyp x2.1)))] ++ H_Checker x2.2⟩ (And.intro (And.intro h1 (And.intro (c_valid_checker_typ p0 (wI (((p0.m.funcs.getD p1.toNat default)).type_)) x2 hx3) True.intro)) True.intro) (by kernel_rfl) ?_
    refine AW2.ret ?_
    have H := Option.some.inj H
    subst H
    exact retS_mk3 [] [.k 1000, .k 1001, .k 1002, .k 1003] True.intro (by kernel_rfl) (by kernel_rfl)

/- (*mandrel/valid.checker).local -/
def g_valid_checker_local (p0 : Checker) (p1 : Int) : Option (Int × Checker) := (if ((decide (p1 < (0 : Int))) || (decide (p1 ≥ (p0.locals.length : Int)))) = true then some (1, (Checker.mk p0.m p0.t p0.locals p0.stack p0.frames p0.labels p0.most true)) else gd (0 ≤ p1 ∧ p1 < (p0.locals.length : Int)) (some ((p0.locals.getD p1.toNat default), p0)))

theorem c_valid_checker_local (p0 : Checker) (p1 : Int) (r : Int × Checker) (H : g_valid_checker_local p0 p1 = some r) : CM E 77 [.p 1000 0, .d (.int .i64 p1)] (H_Checker p0) [] [1000] (fun a b => a = (.d (.int .u8 r.1) : LV) ∧ b = H_Checker r.2) := by
  refine cs_of (A := F_valid_checker_local) fn_valid_checker_local fun fr => ?_
  unfold g_valid_checker_local at H
  refine AW2.seq ?_
  refine AW2.rg [] [0, 1] [] [.k 1000, .k 1001, .k 1002, .k 1003] ⟨[(0, .p 1000 0), (1, .d (.int .i64 p1))], H_Checker p0⟩ (And.intro True.intro True.intro) (by kernel_rfl) ?_
  refine AW2.seq ?_
  refine AW2.seq ?_
  refine AW2.reg [] rfl (YW.to ⟨[(0, .p 1000 0), (1, .d (.int .i64 p1)), (15, .d (.bool ((decide (p1 < (0 : Int))) || (decide (p1 ≥ (p0.locals.length : Int))))))], H_Checker p0⟩ ?qh2 ?h2)
  case h2 =>
    rcases bT (decide (p1 < (0 : Int))) with hc1 | hc1
    · exact YW.fin [(7, true)] [] [0, 1, 15] [(15, .d (.bool ((decide (p1 < (0 : Int))) || (decide (p1 ≥ (p0.locals.length : Int))))))] [.k 1000, .k 1001, .k 1002, .k 1003] _ (And.intro (And.intro hc1 (And.intro hc1 (And.intro hc1 (And.intro hc1 (And.intro hc1 (And.intro hc1 (And.intro hc1 (And.intro hc1 True.intro)))))))) (And.intro (ovB (orT (b := (decide (p1 ≥ (p0.locals.length : Int)))) hc1)) True.intro)) (by kernel_rfl) rfl
    · exact YW.fin [(7, false)] [] [0, 1, 15] [(15, .d (.bool ((decide (p1 < (0 : Int))) || (decide (p1 ≥ (p0.locals.length : Int))))))] [.k 1000, .k 1001, .k 1002, .k 1003] _ (And.intro (And.intro hc1 (And.intro hc1 (And.intro hc1 (And.intro hc1 (And.intro hc1 (And.intro hc1 (And.intro hc1 (And.intro hc1 True.intro)))))))) (And.intro (ovB (Eq.trans (orF (b := (decide (p1 ≥ (p0.locals.length : Int)))) hc1) (Eq.refl (decide (p1 ≥ (p0.locals.length : Int)))))) True.intro)) (by kernel_rfl) rfl
  refine AW2.cond (b := ((decide (p1 < (0 : Int))) || (decide (p1 ≥ (p0.locals.length : Int))))) rfl (fun hc => ?_) (fun hc => ?_)
  · replace H := ite_t H hc
    refine AW2.seq ?_
    refine AW2.rg [] [] [] [.k 1000, .k 1001, .k 1002, .k 1003] ⟨[], H_Checker (Checker.mk p0.m p0.t p0.locals p0.stack p0.frames p0.labels p0.most true)⟩ (And.intro True.intro True.intro) (by kernel_rfl) ?_
    refine AW2.seq ?_
    refine AW2.rg [] [4] [] [.k 1000, .k 1001, .k 1002, .k 1003] ⟨[(4, .d (.int .u8 1))], H_Checker (Checker.mk p0.m p0.t p0.locals p0.stack p0.frames p0.labels p0.most true)⟩ (And.intro True.intro True.intro) (by kernel_rfl) ?_
    refine AW2.ret ?_
    have H := Option.some.inj H
    subst H
    exact retS_mk3 [] [.k 1000, .k 1001, .k 1002, .k 1003] True.intro (by kernel_rfl) (by kernel_rfl)
  · replace H := ite_f H hc
    refine AW2.skip ?_
    refine AW2.seq ?_
    obtain ⟨h1, H⟩ := gd_some H
    refine AW2.rg [] [4] [] [.k 1000, .k 1001, .k 1002, .k 1003] ⟨[(4, .d (.int .u8 (p0.locals.getD p1.toNat default)))], H_Checker p0⟩ (And.intro (And.intro h1 True.intro) True.intro) (by kernel_rfl) ?_
    refine AW2.ret ?_
    have H := Option.some.inj H
    subst H
    exact retS_mk3 [] [.k 1000, .k 1001, .k 1002, .k 1003] True.intro (by kernel_rfl) (by kernel_rfl)

/- (*mandrel/valid.checker).global -/
def g_valid_checker_global (p0 : Checker) (p1 : Int) : Option (Glo × Checker) := (if ((decide (p1 < (0 : Int))) || (decide (p1 ≥ (p0.m.globals.length : Int)))) = true then some ((Glo.mk 1 true (Instr.mk 0 0 0 0 0 ([] : List Instr) ([] : List Instr) ([] : List Int))), (Checker.mk p0.m p0.t p0.locals p0.stack p0.frames p0.labels p0.most true)) else gd (0 ≤ p1 ∧ p1 < (p0.m.globals.length : Int)) (some ((p0.m.globals.getD p1.toNat default), p0)))

theorem c_valid_checker_global (p0 : Checker) (p1 : Int) (r : Glo × Checker) (H : g_valid_checker_global p0 p1 = some r) : CM E 78 [.p 1000 0, .d (.int .i64 p1)] (H_Checker p0) [] [1000] (fun a b => a = (.agg (eD (eGlo r.1)) : LV) ∧ b = H_Checker r.2) := by
  refine cs_of (A := F_valid_checker_global) fn_valid_checker_global fun fr => ?_
  unfold g_valid_checker_global at H
  refine AW2.seq ?_
  refine AW2.rg [.k 4] [0, 1, 4] [] [.k 4, .k 1000, .k 1001, .k 1002, .k 1003] ⟨[(0, .p 1000 0), (1, .d (.int .i64 p1)), (4, .p 4 0)], [(4, .st false [.d (.int .u8 0), .d (.bool false), .d (.int .u8 0), .d (.int .i64 0), .d (.int .u32 0), .d (.int .u32 0), .d (.int .u8 0), .d .nils, .d .nils, .d .nils])] ++ H_Checker p0⟩ (And.intro True.intro True.intro) (by kernel_rfl) ?_
  refine AW2.seq ?_
  refine AW2.seq ?_
  refine AW2.reg [] rfl (YW.to ⟨[(0, .p 1000 0), (1, .d (.int .i64 p1)), (4, .p 4 0), (16, .d (.bool ((decide (p1 < (0 : Int))) || (decide (p1 ≥ (p0.m.globals.length : Int))))))], [(4, .st false [.d (.int .u8 0), .d (.bool false), .d (.int .u8 0), .d (.int .i64 0), .d (.int .u32 0), .d (.int .u32 0), .d (.int .u8 0), .d .nils, .d .nils, .d .nils])] ++ H_Checker p0⟩ ?qh2 ?h2)
  case h2 =>
    rcases bT (decide (p1 < (0 : Int))) with hc1 | hc1
    · exact YW.fin [(7, true)] [] [0, 1, 4, 16] [(16, .d (.bool ((decide (p1 < (0 : Int))) || (decide (p1 ≥ (p0.m.globals.length : Int))))))] [.k 4, .k 1000, .k 1001, .k 1002, .k 1003] _ (And.intro (And.intro hc1 (And.intro hc1 (And.intro hc1 (And.intro hc1 (And.intro hc1 (And.intro hc1 (And.intro hc1 (And.intro hc1 (And.intro hc1 True.intro))))))))) (And.intro (ovB (orT (b := (decide (p1 ≥ (p0.m.globals.length : Int)))) hc1)) True.intro)) (by kernel_rfl) rfl
    · exact YW.fin [(7, false)] [] [0, 1, 4, 16] [(16, .d (.bool ((decide (p1 < (0 : Int))) || (decide (p1 ≥ (p0.m.globals.length : Int))))))] [.k 4, .k 1000, .k 1001, .k 1002, .k 1003] _ (And.intro (And.intro hc1 (And.intro hc1 (And.intro hc1 (And.intro hc1 (And.intro hc1 (And.intro hc1 (And.intro hc1 (And.intro hc1 (And.intro hc1 True.intro))))))))) (And.intro (ovB (Eq.trans (orF (b := (decide (p1 ≥ (p0.m.globals.length : Int)))) hc1) (Eq.refl (decide (p1 ≥ (p0.m.globals.length : Int)))))) True.intro)) (by kernel_rfl) rfl
  refine AW2.cond (b := ((decide (p1 < (0 : Int))) || (decide (p1 ≥ (p0.m.globals.length : Int))))) rfl (fun hc => ?_) (fun hc => ?_)
  · replace H := ite_t H hc
    refine AW2.seq ?_
    refine AW2.rg [] [4] [] [.k 4, .k 1000, .k 1001, .k 1002, .k 1003] ⟨[(4, .p 4 0)], [(4, .st false [.d (.int .u8 0), .d (.bool false), .d (.int .u8 0), .d (.int .i64 0), .d (.int .u32 0), .d (.int .u32 0), .d (.int .u8 0), .d .nils, .d .nils, .d .nils])] ++ H_Checker (Checker.mk p0.m p0.t p0.locals p0.stack p0.frames p0.labels p0.most true)⟩ (And.intro True.intro True.intro) (by kernel_rfl) ?_
    refine AW2.seq ?_
    refine AW2.rg [] [4] [] [.k 4, .k 1000, .k 1001, .k 1002, .k 1003] ⟨[(4, .p 4 0)], [(4, .st false [.d (.int .u8 1), .d (.bool true), .d (.int .u8 0), .d (.int .i64 0), .d (.int .u32 0), .d (.int .u32 0), .d (.int .u8 0), .d .nils, .d .nils, .d .nils])] ++ H_Checker (Checker.mk p0.m p0.t p0.locals p0.stack p0.frames p0.labels p0.most true)⟩ (And.intro True.intro True.intro) (by kernel_rfl) ?_
    refine AW2.ret ?_
    have H := Option.some.inj H
    subst H
    exact retS_mk3 [(7, .d (sVI ([] : List Instr))), (8, .d (sVI ([] : List Instr))), (9, .d (sV (eI .u32) ([] : List Int)))] [.k 1000, .k 1001, .k 1002, .k 1003] (And.intro (Eq.refl 0) (And.intro (Eq.refl 0) (And.intro (Eq.refl 0) True.intro))) (by kernel_rfl) (by kernel_rfl)
  · replace H := ite_f H hc
    refine AW2.skip ?_
    refine AW2.seq ?_
    obtain ⟨h1, H⟩ := gd_some H
    refine AW2.rg [] [4] [] [.k 4, .k 1000, .k 1001, .k 1002, .k 1003] ⟨[(4, .p 4 0)], [(4, .st false (eD (eGlo (p0.m.globals.getD p1.toNat default))))] ++ H_Checker p0⟩ (And.intro (And.intro h1 True.intro) True.intro) (by kernel_rfl) ?_
    refine AW2.ret ?_
    have H := Option.some.inj H
    subst H
    exact retS_mk3 [] [.k 1000, .k 1001, .k 1002, .k 1003] True.intro (by kernel_rfl) (by kernel_rfl)

/- internal/stringslite.HasPrefix -/
def g_stringslite_HasPrefix (p0 : ByteArray) (p1 : ByteArray) : Option (Bool) := ((if (decide ((p0.size : Int) ≥ (p1.size : Int))) = true then gd (0 ≤ (0 : Int) ∧ (0 : Int) ≤ (p1.size : Int) ∧ (p1.size : Int) ≤ (p0.size : Int)) (some ((ByteArray.extract p0 (0 : Int).toNat ((p1.size : Int) : Int).toNat).toList == p1.toList)) else some false)).bind (fun j2 => some j2)

theorem c_stringslite_HasPrefix (p0 : ByteArray) (p1 : ByteArray) (r : Bool) (H : g_stringslite_HasPrefix p0 p1 = some r) : CF E 103 [.str p0, .str p1] (.bool r) := by
  refine cf_of (A := F_stringslite_HasPrefix) fn_stringslite_HasPrefix rfl fun fr => ?_
  unfold g_stringslite_HasPrefix at H
  refine AW2.seq ?_
  refine AW2.rg [] [0, 1] [] [] ⟨[(0, .d (.str p0)), (1, .d (.str p1))], []⟩ (And.intro True.intro True.intro) (by kernel_rfl) ?_
  refine AW2.seq ?_
  obtain ⟨j2, H4, H⟩ := bind_some H
  refine AW2.reg [] rfl (YW.to ⟨[(4, .d (.bool j2))], []⟩ ?qh5 ?h5)
  case h5 =>
    have H := H4
    rcases bT (decide ((p0.size : Int) ≥ (p1.size : Int))) with hc1 | hc1
    · replace H := ite_t H hc1
      obtain ⟨h1, H⟩ := gd_some H
      have H := Option.some.inj H
      subst H
      exact YW.fin [(10, true)] [] [4] [] [] _ (And.intro (And.intro hc1 (And.intro hc1 (And.intro hc1 (And.intro hc1 (And.intro h1 (And.intro hc1 (And.intro hc1 (And.intro hc1 True.intro)))))))) True.intro) (by kernel_rfl) rfl
    · replace H := ite_f H hc1
      have H := Option.some.inj H
      subst H
      exact YW.fin [(10, false)] [] [4] [] [] _ (And.intro (And.intro hc1 (And.intro hc1 (And.intro hc1 (And.intro hc1 (And.intro hc1 (And.intro hc1 (And.intro hc1 True.intro))))))) True.intro) (by kernel_rfl) rfl
  refine AW2.ret ?_
  have H := Option.some.inj H
  subst H
  exact retP_mk2 True.intro (by kernel_rfl)

/- strings.HasPrefix -/
def g_strings_HasPrefix (p0 : ByteArray) (p1 : ByteArray) : Option (Bool) := ((g_stringslite_HasPrefix p0 p1).bind fun x1 => some x1)

theorem c_strings_HasPrefix (p0 : ByteArray) (p1 : ByteArray) (r : Bool) (H : g_strings_HasPrefix p0 p1 = some r) : CF E 97 [.str p0, .str p1] (.bool r) := by
  refine cf_of (A := F_strings_HasPrefix) fn_strings_HasPrefix rfl fun fr => ?_
  unfold g_strings_HasPrefix at H
  refine AW2.seq ?_
  refine AW2.rg [] [0, 1] [] [] ⟨[(0, .d (.str p0)), (1, .d (.str p1))], []⟩ (And.intro True.intro True.intro) (by kernel_rfl) ?_
  refine AW2.seq ?_
  obtain ⟨x1, hx2, H⟩ := bind_some H
  refine AW2.rg [.r (.bool x1)] [4] [] [] ⟨[(4, .d (.bool x1))], []⟩ (And.intro (And.intro (c_stringslite_HasPrefix p0 p1 x1 hx2) True.intro) True.intro) (by kernel_rfl) ?_
  refine AW2.ret ?_
  have H := Option.some.inj H
  subst H
  exact retP_mk2 True.intro (by kernel_rfl)

/- mandrel/ops.own -/
def g_ops_own (p0 : ByteArray) : Option (Int) := ((g_strings_HasPrefix p0 (ByteArray.mk #[105, 54, 52, 46])).bind fun x1 => (if x1 = true then some 126 else some 127))

theorem c_ops_own (p0 : ByteArray) (r : Int) (H : g_ops_own p0 = some r) : CF E 89 [.str p0] (.int .u8 r) := by
  refine cf_of (A := F_ops_own) fn_ops_own rfl fun fr => ?_
  unfold g_ops_own at H
  refine AW2.seq ?_
  refine AW2.rg [] [0] [] [] ⟨[(0, .d (.str p0))], []⟩ (And.intro True.intro True.intro) (by kernel_rfl) ?_
  refine AW2.seq ?_
  refine AW2.seq ?_
  obtain ⟨x1, hx2, H⟩ := bind_some H
  refine AW2.rg [.r (.bool x1)] [4] [] [] ⟨[(4, .d (.bool x1))], []⟩ (And.intro (And.intro (c_strings_HasPrefix p0 (ByteArray.mk #[105, 54, 52, 46]) x1 hx2) True.intro) True.intro) (by kernel_rfl) ?_
  refine AW2.cond (b := x1) rfl (fun hc => ?_) (fun hc => ?_)
  · replace H := ite_t H hc
    refine AW2.seq ?_
    refine AW2.rg [] [2] [] [] ⟨[(2, .d (.int .u8 126))], []⟩ (And.intro True.intro True.intro) (by kernel_rfl) ?_
    refine AW2.ret ?_
    have H := Option.some.inj H
    subst H
    exact retP_mk2 True.intro (by kernel_rfl)
  · replace H := ite_f H hc
    refine AW2.skip ?_
    refine AW2.seq ?_
    refine AW2.rg [] [2] [] [] ⟨[(2, .d (.int .u8 127))], []⟩ (And.intro True.intro True.intro) (by kernel_rfl) ?_
    refine AW2.ret ?_
    have H := Option.some.inj H
    subst H
    exact retP_mk2 True.intro (by kernel_rfl)

/- internal/stringslite.HasSuffix -/
def g_stringslite_HasSuffix (p0 : ByteArray) (p1 : ByteArray) : Option (Bool) := ((if (decide ((p0.size : Int) ≥ (p1.size : Int))) = true then gd (0 ≤ ((wI ((p0.size : Int) - (p1.size : Int))) : Int) ∧ ((wI ((p0.size : Int) - (p1.size : Int))) : Int) ≤ (p0.size : Int) ∧ (p0.size : Int) ≤ (p0.size : Int)) (some ((ByteArray.extract p0 ((wI ((p0.size : Int) - (p1.size : Int))) : Int).toNat ((p0.size : Int) : Int).toNat).toList == p1.toList)) else some false)).bind (fun j2 => some j2)

theorem c_stringslite_HasSuffix (p0 : ByteArray) (p1 : ByteArray) (r : Bool) (H : g_stringslite_HasSuffix p0 p1 = some r) : CF E 102 [.str p0, .str p1] (.bool r) := by
  refine cf_of (A := F_stringslite_HasSuffix) fn_stringslite_HasSuffix rfl fun fr => ?_
  unfold g_stringslite_HasSuffix at H
  refine AW2.seq ?_
  refine AW2.rg [] [0, 1] [] [] ⟨[(0, .d (.str p0)), (1, .d (.str p1))], []⟩ (And.intro True.intro True.intro) (by kernel_rfl) ?_
  refine AW2.seq ?_
  obtain ⟨j2, H4, H⟩ := bind_some H
  refine AW2.reg [] rfl (YW.to ⟨[(4, .d (.bool j2))], []⟩ ?qh5 ?h5)
  case h5 =>
    have H := H4
    rcases bT (decide ((p0.size : Int) ≥ (p1.size : Int))) with hc1 | hc1
    · replace H := ite_t H hc1
      obtain ⟨h1, H⟩ := gd_some H
      have H := Option.some.inj H
      subst H
      exact YW.fin [(10, true)] [] [4] [] [] _ (And.intro (And.intro hc1 (And.intro hc1 (And.intro hc1 (And.intro hc1 (And.intro hc1 (And.intro hc1 (And.intro hc1 (And.intro h1 (And.intro hc1 (And.intro hc1 (And.intro hc1 True.intro))))))))))) True.intro) (by kernel_rfl) rfl
    · replace H := ite_f H hc1
      have H := Option.some.inj H
      subst H
      exact YW.fin [(10, false)] [] [4] [] [] _ (And.intro (And.intro hc1 (And.intro hc1 (And.intro hc1 (And.intro hc1 (And.intro hc1 (And.intro hc1 (And.intro hc1 (And.intro hc1 (And.intro hc1 (And.intro hc1 True.intro)))))))))) True.intro) (by kernel_rfl) rfl
  refine AW2.ret ?_
  have H := Option.some.inj H
  subst H
  exact retP_mk2 True.intro (by kernel_rfl)

/- strings.HasSuffix -/
def g_strings_HasSuffix (p0 : ByteArray) (p1 : ByteArray) : Option (Bool) := ((g_stringslite_HasSuffix p0 p1).bind fun x1 => some x1)

theorem c_strings_HasSuffix (p0 : ByteArray) (p1 : ByteArray) (r : Bool) (H : g_strings_HasSuffix p0 p1 = some r) : CF E 93 [.str p0, .str p1] (.bool r) := by
  refine cf_of (A := F_strings_HasSuffix) fn_strings_HasSuffix rfl fun fr => ?_
  unfold g_strings_HasSuffix at H
  refine AW2.seq ?_
  refine AW2.rg [] [0, 1] [] [] ⟨[(0, .d (.str p0)), (1, .d (.str p1))], []⟩ (And.intro True.intro True.intro) (by kernel_rfl) ?_
  refine AW2.seq ?_
  obtain ⟨x1, hx2, H⟩ := bind_some H
  refine AW2.rg [.r (.bool x1)] [4] [] [] ⟨[(4, .d (.bool x1))], []⟩ (And.intro (And.intro (c_stringslite_HasSuffix p0 p1 x1 hx2) True.intro) True.intro) (by kernel_rfl) ?_
  refine AW2.ret ?_
  have H := Option.some.inj H
  subst H
  exact retP_mk2 True.intro (by kernel_rfl)

/- internal/stringslite.Cut -/
def g_stringslite_Cut (p0 : ByteArray) (p1 : ByteArray) : Option (ByteArray × ByteArray × Bool) := ((g_stringslite_Index p0 p1).bind fun x1 => (if (decide (x1 ≥ (0 : Int))) = true then gd (0 ≤ (0 : Int) ∧ (0 : Int) ≤ x1 ∧ x1 ≤ (p0.size : Int)) (gd (0 ≤ ((wI (x1 + (p1.size : Int))) : Int) ∧ ((wI (x1 + (p1.size : Int))) : Int) ≤ (p0.size : Int) ∧ (p0.size : Int) ≤ (p0.size : Int)) (some ((ByteArray.extract p0 (0 : Int).toNat (x1 : Int).toNat), (ByteArray.extract p0 ((wI (x1 + (p1.size : Int))) : Int).toNat ((p0.size : Int) : Int).toNat), true))) else some (p0, (ByteArray.mk #[]), false)))

theorem c_stringslite_Cut (p0 : ByteArray) (p1 : ByteArray) (r : ByteArray × ByteArray × Bool) (H : g_stringslite_Cut p0 p1 = some r) : CF E 104 [.str p0, .str p1] (.tup [.str r.1, .str r.2.1, .bool r.2.2]) := by
  refine cf_of (A := F_stringslite_Cut) fn_stringslite_Cut rfl fun fr => ?_
  unfold g_stringslite_Cut at H
  refine AW2.seq ?_
  refine AW2.rg [] [0, 1] [] [] ⟨[(0, .d (.str p0)), (1, .d (.str p1))], []⟩ (And.intro True.intro True.intro) (by kernel_rfl) ?_
  refine AW2.seq ?_
  refine AW2.seq ?_
  obtain ⟨x1, hx2, H⟩ := bind_some H
  refine AW2.rg [.r (.int .i64 x1)] [0, 1, 7] [] [] ⟨[(0, .d (.str p0)), (1, .d (.str p1)), (7, .d (.int .i64 x1))], []⟩ (And.intro (And.intro (c_stringslite_Index p0 p1 x1 hx2) True.intro) True.intro) (by kernel_rfl) ?_
  refine AW2.seq ?_
  refine AW2.rg [] [0, 1, 7, 12] [] [] ⟨[(0, .d (.str p0)), (1, .d (.str p1)), (7, .d (.int .i64 x1)), (12, .d (.bool (decide (x1 ≥ (0 : Int)))))], []⟩ (And.intro True.intro True.intro) (by kernel_rfl) ?_
  refine AW2.cond (b := (decide (x1 ≥ (0 : Int)))) rfl (fun hc => ?_) (fun hc => ?_)
  · replace H := ite_t H hc
    refine AW2.seq ?_
    obtain ⟨h3, H⟩ := gd_some H
    obtain ⟨h4, H⟩ := gd_some H
    refine AW2.rg [] [4, 5, 6] [] [] ⟨[(4, .d (.str (ByteArray.extract p0 (0 : Int).toNat (x1 : Int).toNat))), (5, .d (.str (ByteArray.extract p0 ((wI (x1 + (p1.size : Int))) : Int).toNat ((p0.size : Int) : Int).toNat))), (6, .d (.bool true))], []⟩ (And.intro (And.intro h3 (And.intro h4 True.intro)) True.intro) (by kernel_rfl) ?_
    refine AW2.ret ?_
    have H := Option.some.inj H
    subst H
    exact retP_mk2 True.intro (by kernel_rfl)
  · replace H := ite_f H hc
    refine AW2.skip ?_
    refine AW2.seq ?_
    refine AW2.rg [] [4, 5, 6] [] [] ⟨[(4, .d (.str p0)), (5, .d (.str (ByteArray.mk #[]))), (6, .d (.bool false))], []⟩ (And.intro True.intro True.intro) (by kernel_rfl) ?_
    refine AW2.ret ?_
    have H := Option.some.inj H
    subst H
    exact retP_mk2 True.intro (by kernel_rfl)

/- strings.Cut -/
def g_strings_Cut (p0 : ByteArray) (p1 : ByteArray) : Option (ByteArray × ByteArray × Bool) := ((g_stringslite_Cut p0 p1).bind fun x1 => some (x1.1, x1.2.1, x1.2.2))

theorem c_strings_Cut (p0 : ByteArray) (p1 : ByteArray) (r : ByteArray × ByteArray × Bool) (H : g_strings_Cut p0 p1 = some r) : CF E 98 [.str p0, .str p1] (.tup [.str r.1, .str r.2.1, .bool r.2.2]) := by
  refine cf_of (A := F_strings_Cut) fn_strings_Cut rfl fun fr => ?_
  unfold g_strings_Cut at H
  refine AW2.seq ?_
  refine AW2.rg [] [0, 1] [] [] ⟨[(0, .d (.str p0)), (1, .d (.str p1))], []⟩ (And.intro True.intro True.intro) (by kernel_rfl) ?_
  refine AW2.seq ?_
  obtain ⟨x1, hx2, H⟩ := bind_some H
  refine AW2.rg [.r (.tup [.str x1.1, .str x1.2.1, .bool x1.2.2])] [4, 5, 6] [] [] ⟨[(4, .d (.str x1.1)), (5, .d (.str x1.2.1)), (6, .d (.bool x1.2.2))], []⟩ (And.intro (And.intro (c_stringslite_Cut p0 p1 x1 hx2) True.intro) True.intro) (by kernel_rfl) ?_
  refine AW2.ret ?_
  have H := Option.some.inj H
  subst H
  exact retP_mk2 True.intro (by kernel_rfl)

/- strings.Index -/
def g_strings_Index (p0 : ByteArray) (p1 : ByteArray) : Option (Int) := ((g_stringslite_Index p0 p1).bind fun x1 => some x1)

theorem c_strings_Index (p0 : ByteArray) (p1 : ByteArray) (r : Int) (H : g_strings_Index p0 p1 = some r) : CF E 105 [.str p0, .str p1] (.int .i64 r) := by
  refine cf_of (A := F_strings_Index) fn_strings_Index rfl fun fr => ?_
  unfold g_strings_Index at H
  refine AW2.seq ?_
  refine AW2.rg [] [0, 1] [] [] ⟨[(0, .d (.str p0)), (1, .d (.str p1))], []⟩ (And.intro True.intro True.intro) (by kernel_rfl) ?_
  refine AW2.seq ?_
  obtain ⟨x1, hx2, H⟩ := bind_some H
  refine AW2.rg [.r (.int .i64 x1)] [4] [] [] ⟨[(4, .d (.int .i64 x1))], []⟩ (And.intro (And.intro (c_stringslite_Index p0 p1 x1 hx2) True.intro) True.intro) (by kernel_rfl) ?_
  refine AW2.ret ?_
  have H := Option.some.inj H
  subst H
  exact retP_mk2 True.intro (by kernel_rfl)

/- strings.Contains -/
def g_strings_Contains (p0 : ByteArray) (p1 : ByteArray) : Option (Bool) := ((g_strings_Index p0 p1).bind fun x1 => some (decide (x1 ≥ (0 : Int))))

theorem c_strings_Contains (p0 : ByteArray) (p1 : ByteArray) (r : Bool) (H : g_strings_Contains p0 p1 = some r) : CF E 99 [.str p0, .str p1] (.bool r) := by
  refine cf_of (A := F_strings_Contains) fn_strings_Contains rfl fun fr => ?_
  unfold g_strings_Contains at H
  refine AW2.seq ?_
  refine AW2.rg [] [0, 1] [] [] ⟨[(0, .d (.str p0)), (1, .d (.str p1))], []⟩ (And.intro True.intro True.intro) (by kernel_rfl) ?_
  refine AW2.seq ?_
  obtain ⟨x1, hx2, H⟩ := bind_some H
  refine AW2.rg [.r (.int .i64 x1)] [4] [] [] ⟨[(4, .d (.bool (decide (x1 ≥ (0 : Int)))))], []⟩ (And.intro (And.intro (c_strings_Index p0 p1 x1 hx2) True.intro) True.intro) (by kernel_rfl) ?_
  refine AW2.ret ?_
  have H := Option.some.inj H
  subst H
  exact retP_mk2 True.intro (by kernel_rfl)

end Go.Proofs.YtablleokoifolaaGreatDoor

