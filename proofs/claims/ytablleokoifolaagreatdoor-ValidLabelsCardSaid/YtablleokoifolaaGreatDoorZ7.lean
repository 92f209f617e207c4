/- Part 7 of the proof that ValidLabelsCardSaid: for every input that fits the row the law answers true and its arguments read as before, over the world as the row lays it. -/
import Derived.Test.YtablleokoifolaaGreatDoorZ6
import Derived.Deep.Slices
import Derived.ChangeShapes
import Derived.RowKit
import Derived.ChangeSame
import Derived.Test.YtablleokoifolaaGreatDoorCards
import Derived.Test.YtablleokoifolaaGreatDoorTie
import Derived.WideShapes
import Derived.LaidLaws
import Derived.LaidHandle
import Derived.OpenShut
import Derived.Deep.DeepHandedRow
import Derived.FnData
/- The law ValidLabels of the plain functions. -/
set_option linter.unusedVariables false
set_option linter.unusedSimpArgs false
set_option maxRecDepth 100000
namespace Go.Proofs.YtablleokoifolaaGreatDoor
open Go

def F0 : Frame := Frame.mk 0 false false
/-- The checker within so many blocks of no result. -/
def cL (m : Mdl) (t : Typ) (ls : List Int) (n : Nat) (mo : Int) (b aw : Bool) : Checker :=
  Checker.mk m t ls [] (List.replicate n F0 ++ [Frame.mk 0 aw false]) (List.replicate (n + 1) 0) mo b

theorem cL_fl (n : Nat) (aw : Bool) : (((List.replicate n F0 ++ [Frame.mk 0 aw false]).length : Nat) : Int) = ((n + 1 : Nat) : Int) := by simp
theorem cL_ll (n : Nat) : (((List.replicate (n + 1) (0 : Int)).length : Nat) : Int) = ((n + 1 : Nat) : Int) := by simp
theorem cL_top (n : Nat) (aw : Bool) : (List.replicate n F0 ++ [Frame.mk 0 aw false]).getD ((n : Int)).toNat default = Frame.mk 0 aw false := by
  rw [Int.toNat_natCast, List.getD_eq_getElem?_getD]; simp
theorem cL_topI (n : Nat) (aw : Bool) : (List.replicate n F0 ++ [Frame.mk 0 aw false])[n]?.getD default = Frame.mk 0 aw false := by
  simp
theorem wN (n : Nat) (h : n < 100000) : wI (((n + 1 : Nat) : Int) - 1) = (n : Int) := by rw [wI_small (by omega) (by omega)]; omega

theorem take0 (c : Checker) (n : Nat) (h : n < 100000) (hf : c.frames.length = n + 1) : g_valid_checker_take c 0 = some (0, c) := by
  unfold g_valid_checker_take
  rw [hf, wN n h, gd_of (by omega), if_pos (by decide)]
theorem lay0 (c : Checker) : g_valid_checker_lay c 0 = some c := by unfold g_valid_checker_lay; rw [if_pos (by decide)]

theorem inner_cL (m : Mdl) (t : Typ) (ls : List Int) (n k : Nat) (mo mo' : Int) (b aw : Bool) (l : List Instr) (hn : n < 10000)
    (h : g_valid_checker_list k (cL m t ls (n + 1) mo false false) l = some (cL m t ls (n + 1) mo' b aw)) :
    g_valid_checker_inner (k + 1) (cL m t ls n mo false false) l 0 0 = some (cL m t ls n mo' b false) := by
  simp only [g_valid_checker_inner]
  have e1 : (((cL m t ls n mo false false).frames.length : Nat) : Int) = ((n + 1 : Nat) : Int) := cL_fl n false
  have e2 : (cL m t ls n mo false false).frames.getD ((n : Int)).toNat default = Frame.mk 0 false false := cL_top n false
  have e3 : (Checker.mk m t ls [] ((cL m t ls n mo false false).frames ++ [Frame.mk 0 false false]) ((cL m t ls n mo false false).labels ++ [0]) mo false) = cL m t ls (n + 1) mo false false := by
    unfold cL
    simp only [Checker.mk.injEq, and_true, true_and, List.append_cancel_right_eq]
    exact ⟨(List.replicate_succ' (n := n) (a := F0)).symm, (List.replicate_succ' (n := n + 1) (a := (0 : Int))).symm⟩
  rw [e1, wN n (by omega), gd_of (by omega), e2, if_neg (by decide), gd_of (by simp [cL]; omega), Option.bind_some, gd_of (by simp [cL]; omega)]
  show ((g_valid_checker_list k (Checker.mk m t ls [] ((cL m t ls n mo false false).frames ++ [Frame.mk 0 false false]) ((cL m t ls n mo false false).labels ++ [0]) mo false) l).bind _ : Option Checker) = _
  rw [e3, h, Option.bind_some, take0 _ (n + 1) (by omega) (by simp [cL]), Option.bind_some]
  have e4 : (((cL m t ls (n + 1) mo' b aw).frames.length : Nat) : Int) = ((n + 1 + 1 : Nat) : Int) := cL_fl (n + 1) aw
  have e5 : (cL m t ls (n + 1) mo' b aw).frames.getD (((n + 1 : Nat) : Int)).toNat default = Frame.mk 0 aw false := cL_top (n + 1) aw
  have e6 : (((cL m t ls (n + 1) mo' b aw).labels.length : Nat) : Int) = ((n + 1 + 1 : Nat) : Int) := cL_ll (n + 1)
  have e7 : (((cL m t ls (n + 1) mo' b aw).stack.length : Nat) : Int) = 0 := rfl
  show (gd (0 ≤ (wI (((cL m t ls (n + 1) mo' b aw).frames.length : Int) - 1)) ∧ (wI (((cL m t ls (n + 1) mo' b aw).frames.length : Int) - 1)) < ((cL m t ls (n + 1) mo' b aw).frames.length : Int)) _ : Option Checker) = _
  have e8 : (if b = true then some (Checker.mk m t ls [] (cL m t ls (n + 1) mo' b aw).frames (cL m t ls (n + 1) mo' b aw).labels mo' true) else some (Checker.mk m t ls [] (cL m t ls (n + 1) mo' b aw).frames (cL m t ls (n + 1) mo' b aw).labels mo' ((0 : Int) != 0))) = some (cL m t ls (n + 1) mo' b aw) := by
    cases b <;> rfl
  rw [e4, wN (n + 1) (by omega), gd_of (by omega), e5, e7]
  show ((if b = true then some (Checker.mk m t ls [] (cL m t ls (n + 1) mo' b aw).frames (cL m t ls (n + 1) mo' b aw).labels mo' true) else some (Checker.mk m t ls [] (cL m t ls (n + 1) mo' b aw).frames (cL m t ls (n + 1) mo' b aw).labels mo' ((0 : Int) != 0))).bind _ : Option Checker) = _
  rw [e8, Option.bind_some, e7, gd_of ⟨Int.le_refl 0, Int.le_refl 0, Int.le_refl 0⟩, e4, wN (n + 1) (by omega), gd_of (by omega), e6, wN (n + 1) (by omega), gd_of (by omega)]
  simp only [cL, Option.some.injEq, Checker.mk.injEq, true_and, and_true, List.take_nil, Int.toNat_natCast]
  refine ⟨?_, ?_⟩
  · rw [List.take_append_of_le_length (by simp), List.take_replicate, Nat.min_self]
    exact List.replicate_succ' (n := n) (a := F0)
  · rw [List.take_replicate]; congr 1; omega

theorem block_cL (m : Mdl) (t : Typ) (ls : List Int) (n k : Nat) (mo mo' : Int) (b aw : Bool) (l : List Instr) (o : Int) (ho : o = 2 ∨ o = 3) (hn : n < 10000) (hk : 1 < k)
    (h : g_valid_checker_list k (cL m t ls (n + 1) mo false false) l = some (cL m t ls (n + 1) mo' b aw)) :
    g_valid_checker_list (k + 3) (cL m t ls n mo false false) [Instr.mk o 0 0 0 0 l [] []] = some (cL m t ls n mo' b false) := by
  rw [list_fold (k + 2) _ _ (by simp) (by simp), List.foldlM_cons]
  have e : stepC (k + 2) (cL m t ls n mo false false) (Instr.mk o 0 0 0 0 l [] []) = some (cL m t ls n mo' b false) := by
    unfold stepC
    rw [ite_ff (c := (cL m t ls n mo false false).bad) rfl, if_pos (by rcases ho with rfl | rfl <;> rfl)]
    simp only [g_valid_checker_control]
    have hi := inner_cL m t ls n k mo mo' b aw l hn h
    have e1 : (cL m t ls n mo false false).bad = false := rfl
    have e2 : (if o == 3 then some (0 : Int) else some 0) = some 0 := by split <;> rfl
    have e3 : (Checker.mk m t ls (cL m t ls n mo false false).stack (cL m t ls n mo false false).frames (cL m t ls n mo false false).labels mo false) = cL m t ls n mo false false := rfl
    rcases ho with rfl | rfl
    · show (((g_valid_checker_inner (k + 1) (cL m t ls n mo false false) l 0 0).bind fun x8 => (g_valid_checker_lay x8 0).bind fun x10 => some x10) : Option Checker) = _
      rw [hi, Option.bind_some, lay0]; rfl
    · show (((g_valid_checker_inner (k + 1) (cL m t ls n mo false false) l 0 0).bind fun x8 => (g_valid_checker_lay x8 0).bind fun x10 => some x10) : Option Checker) = _
      rw [hi, Option.bind_some, lay0]; rfl
  rw [e]; rfl

/-- Blocks about a list. -/
def wr (os : List Int) (l : List Instr) : List Instr := os.foldl (fun l o => [Instr.mk o 0 0 0 0 l [] []]) l

theorem list_wr (m : Mdl) (t : Typ) (ls : List Int) (mo mo' : Int) (b : Bool) : ∀ (os : List Int) (n k : Nat) (l : List Instr) (aw : Bool), (∀ o ∈ os, o = 2 ∨ o = 3) → n + os.length < 10000 → 1 < k →
    g_valid_checker_list k (cL m t ls (n + os.length) mo false false) l = some (cL m t ls (n + os.length) mo' b aw) →
    ∃ aw', g_valid_checker_list (k + 3 * os.length) (cL m t ls n mo false false) (wr os l) = some (cL m t ls n mo' b aw') := by
  intro os
  induction os with
  | nil => intro n k l aw _ _ _ h; exact ⟨aw, h⟩
  | cons o os ih =>
    intro n k l aw ho hn hk h
    simp only [List.length_cons] at hn h
    obtain ⟨aw', e⟩ := ih n (k + 3) _ false (fun o' h' => ho o' (List.mem_cons_of_mem _ h')) (by omega) (by omega) (block_cL m t ls (n + os.length) k mo mo' b aw l o (ho o List.mem_cons_self) (by omega) hk h)
    refine ⟨aw', ?_⟩
    rw [show k + 3 * (o :: os).length = k + 3 + 3 * os.length by simp only [List.length_cons]; omega]
    exact e

theorem wtL_wr : ∀ (os : List Int) (l : List Instr), wtL (wr os l) = wtL l + 5 * os.length := by
  intro os
  induction os with
  | nil => intro l; rfl
  | cons o os ih =>
    intro l
    rw [show wr (o :: os) l = wr os [Instr.mk o 0 0 0 0 l [] []] from rfl, ih]
    simp only [wtL, wtI, List.length_cons]; omega

/-- What a label says within so many blocks. -/
theorem label_cL (m : Mdl) (t : Typ) (ls : List Int) (n : Nat) (mo : Int) (st : List Int) (fr : List Frame) (b : Bool) (to : Int) (hn : n < 10000) :
    g_valid_checker_label (Checker.mk m t ls st fr (List.replicate (n + 1) 0) mo b) to = some (0, Checker.mk m t ls st fr (List.replicate (n + 1) 0) mo (b || !(decide (0 ≤ to) && decide (to ≤ (n : Int))))) := by
  unfold g_valid_checker_label
  show (if ((decide (to < (0 : Int))) || (decide (to ≥ ((List.replicate (n + 1) (0 : Int)).length : Int)))) = true then some ((0 : Int), Checker.mk m t ls st fr (List.replicate (n + 1) 0) mo true) else gd (0 ≤ (wI ((wI (((List.replicate (n + 1) (0 : Int)).length : Int) - 1)) - to)) ∧ (wI ((wI (((List.replicate (n + 1) (0 : Int)).length : Int) - 1)) - to)) < ((List.replicate (n + 1) (0 : Int)).length : Int)) (some ((List.replicate (n + 1) (0 : Int)).getD ((wI ((wI (((List.replicate (n + 1) (0 : Int)).length : Int) - 1)) - to)).toNat) default, Checker.mk m t ls st fr (List.replicate (n + 1) 0) mo b))) = _
  rw [cL_ll, wN n (by omega)]
  by_cases h : 0 ≤ to ∧ to ≤ (n : Int)
  · rw [if_neg (by simp; omega), wI_small (by omega) (by omega), gd_of (by omega)]
    have e : (decide (0 ≤ to) && decide (to ≤ (n : Int))) = true := by simp [h.1, h.2]
    have e2 : (List.replicate (n + 1) (0 : Int)).getD ((n : Int) - to).toNat default = 0 := by
      rw [List.getD_eq_getElem?_getD, List.getElem?_replicate]
      rw [if_pos (by omega)]; rfl
    rw [e, e2]; cases b <;> rfl
  · rw [if_pos (by simp; omega)]
    have e : (decide (0 ≤ to) && decide (to ≤ (n : Int))) = false := by
      cases h' : (decide (0 ≤ to) && decide (to ≤ (n : Int))) with
      | false => rfl
      | true => exact absurd (by simpa using h') h
    rw [e]; cases b <;> rfl

theorem leave_cL (m : Mdl) (t : Typ) (ls : List Int) (n : Nat) (mo : Int) (b aw : Bool) (hn : n < 10000) : g_valid_checker_leave (cL m t ls n mo b aw) = some (cL m t ls n mo b true) := by
  unfold g_valid_checker_leave
  have e1 : (((cL m t ls n mo b aw).frames.length : Nat) : Int) = ((n + 1 : Nat) : Int) := cL_fl n aw
  have e2 : (cL m t ls n mo b aw).frames.getD ((n : Int)).toNat default = Frame.mk 0 aw false := cL_top n aw
  rw [e1, wN n (by omega), gd_of (by omega), e2, gd_of ⟨Int.le_refl 0, Int.le_refl 0, Int.le_refl 0⟩]
  simp only [cL, Int.toNat_natCast, Option.some.injEq, Checker.mk.injEq, true_and, and_true, List.take_nil]
  rw [List.set_append_right _ _ (by simp)]
  simp

def okL (to : Int) (n : Nat) : Bool := decide (0 ≤ to) && decide (to ≤ (n : Int))

def lA (to : Int) : List Instr := [Instr.mk 12 to 0 0 0 [] [] []]
def lB (to : Int) : List Instr := [Instr.mk 65 0 0 0 0 [] [] [], Instr.mk 13 to 0 0 0 [] [] []]
def lC (to : Int) : List Instr := [Instr.mk 65 0 0 0 0 [] [] [], Instr.mk 14 0 0 0 0 [] [] [0, to, 0]]

theorem list_lA (m : Mdl) (t : Typ) (ls : List Int) (n k : Nat) (hn : n < 10000) (to : Int) :
    g_valid_checker_list (k + 10) (cL m t ls n 0 false false) (lA to) = some (cL m t ls n 0 (!okL to n) true) := by
  rw [list_fold (k + 9) _ _ (by simp [lA]) (by simp [lA])]
  unfold lA
  rw [List.foldlM_cons]
  have e : stepC (k + 9) (cL m t ls n 0 false false) (Instr.mk 12 to 0 0 0 [] [] []) = some (cL m t ls n 0 (!okL to n) true) := by
    unfold stepC
    rw [ite_ff (c := (cL m t ls n 0 false false).bad) rfl, if_pos (by rfl)]
    simp only [g_valid_checker_control]
    show ((g_valid_checker_label (cL m t ls n 0 false false) to).bind fun x31 => (g_valid_checker_take x31.2 x31.1).bind fun x33 => (g_valid_checker_leave x33.2).bind fun x35 => some x35 : Option Checker) = _
    have := label_cL m t ls n 0 [] (List.replicate n F0 ++ [Frame.mk 0 false false]) false to hn
    rw [show cL m t ls n 0 false false = Checker.mk m t ls [] (List.replicate n F0 ++ [Frame.mk 0 false false]) (List.replicate (n + 1) 0) 0 false from rfl, this, Option.bind_some, take0 _ n (by omega) (by simp), Option.bind_some]
    have := leave_cL m t ls n 0 (!okL to n) false hn
    rw [show (Checker.mk m t ls [] (List.replicate n F0 ++ [Frame.mk 0 false false]) (List.replicate (n + 1) 0) 0 (false || !(decide (0 ≤ to) && decide (to ≤ (n : Int))))) = cL m t ls n 0 (!okL to n) false from rfl, this]
    rfl
  rw [e]; rfl

/-- Behind a const. -/
def cM (m : Mdl) (t : Typ) (ls : List Int) (n : Nat) : Checker := Checker.mk m t ls [127] (List.replicate n F0 ++ [Frame.mk 0 false false]) (List.replicate (n + 1) 0) 1 false

theorem step_const (m : Mdl) (t : Typ) (ls : List Int) (n k : Nat) (hn : n < 10000) :
    stepC k (cL m t ls n 0 false false) (Instr.mk 65 0 0 0 0 [] [] []) = some (cM m t ls n) := by
  unfold stepC
  rw [ite_ff (c := (cL m t ls n 0 false false).bad) rfl, if_neg (by decide)]
  have hp : g_valid_checker_plain (cL m t ls n 0 false false) (Instr.mk 65 0 0 0 0 [] [] []) = some (cM m t ls n) := by
    unfold g_valid_checker_plain
    rw [show (Instr.mk 65 0 0 0 0 [] [] []).op = 65 from rfl, sign65, Option.bind_some, if_neg (by decide), bytes65, Option.bind_some, if_neg (by decide), Option.bind_some, form65, Option.bind_some, ite_ff]
    rotate_left
    · kernel_rfl
    rw [Option.bind_some]
    unfold g_valid_checker_call g_valid_checker_takes
    have ok : okT (cL m t ls n 0 false false) := by
      refine ⟨by simp [cL], by simp [cL]; omega, by simp [cL], ?_, ?_⟩
      · have e1 : (((cL m t ls n 0 false false).frames.length : Nat) : Int) = ((n + 1 : Nat) : Int) := cL_fl n false
        have e2 : (cL m t ls n 0 false false).frames.getD ((n : Int)).toNat default = Frame.mk 0 false false := cL_top n false
        first | (rw [e1, wN n (by omega), e2]; exact Int.le_refl 0) | (simp [cL]) 
      · have e1 : (((cL m t ls n 0 false false).frames.length : Nat) : Int) = ((n + 1 : Nat) : Int) := cL_fl n false
        have e2 : (cL m t ls n 0 false false).frames.getD ((n : Int)).toNat default = Frame.mk 0 false false := cL_top n false
        first | (rw [e1, wN n (by omega), e2]; exact Int.le_refl 0) | (simp [cL]) 
    rw [gd_of ⟨ok, by decide⟩, Option.bind_some]
    show (((g_valid_checker_lay (cL m t ls n 0 false false) 127).bind fun x3 => some x3).bind fun x7 => some x7 : Option Checker) = _
    unfold g_valid_checker_lay
    have e1 : (((cL m t ls n 0 false false).frames.length : Nat) : Int) = ((n + 1 : Nat) : Int) := cL_fl n false
    have e2 : (cL m t ls n 0 false false).frames.getD ((n : Int)).toNat default = Frame.mk 0 false false := cL_top n false
    rw [if_neg (by decide), gd_of (by simp [cL]), e1, wN n (by omega), gd_of (by omega), e2]
    rfl
  unfold g_valid_checker_simple
  rw [if_neg (by decide), if_neg (by decide), if_neg (by decide), if_neg (by decide), if_neg (by decide), if_neg (by decide), if_neg (by decide), hp]
  rfl

theorem take_cM (m : Mdl) (t : Typ) (ls : List Int) (n : Nat) (hn : n < 10000) : g_valid_checker_take (cM m t ls n) 127 = some (127, cL m t ls n 1 false false) := by
  unfold g_valid_checker_take
  have e1 : (((cM m t ls n).frames.length : Nat) : Int) = ((n + 1 : Nat) : Int) := cL_fl n false
  have e2 : (cM m t ls n).frames.getD ((n : Int)).toNat default = Frame.mk 0 false false := cL_top n false
  rw [e1, wN n (by omega), gd_of (by omega), if_neg (by decide), e2]
  rfl

theorem list_lB (m : Mdl) (t : Typ) (ls : List Int) (n k : Nat) (hn : n < 10000) (to : Int) :
    g_valid_checker_list (k + 10) (cL m t ls n 0 false false) (lB to) = some (cL m t ls n 1 (!okL to n) false) := by
  rw [list_fold (k + 9) _ _ (by simp [lB]) (by simp [lB])]
  unfold lB
  rw [List.foldlM_cons, step_const m t ls n _ hn]
  show List.foldlM (stepC (k + 9)) (cM m t ls n) [Instr.mk 13 to 0 0 0 [] [] []] = _
  rw [List.foldlM_cons]
  have e : stepC (k + 9) (cM m t ls n) (Instr.mk 13 to 0 0 0 [] [] []) = some (cL m t ls n 1 (!okL to n) false) := by
    unfold stepC
    rw [ite_ff (c := (cM m t ls n).bad) rfl, if_pos (by rfl)]
    simp only [g_valid_checker_control]
    show ((g_valid_checker_take (cM m t ls n) 127).bind fun x37 => ((g_valid_checker_label x37.2 to).bind fun x39 => ((g_valid_checker_take x39.2 x39.1).bind fun x41 => ((g_valid_checker_lay x41.2 x39.1).bind fun x43 => some x43))) : Option Checker) = _
    rw [take_cM m t ls n hn, Option.bind_some]
    have := label_cL m t ls n 1 [] (List.replicate n F0 ++ [Frame.mk 0 false false]) false to hn
    rw [show (127, cL m t ls n 1 false false).2 = Checker.mk m t ls [] (List.replicate n F0 ++ [Frame.mk 0 false false]) (List.replicate (n + 1) 0) 1 false from rfl, this, Option.bind_some, take0 _ n (by omega) (by simp), Option.bind_some, lay0]
    rfl
  rw [e]; rfl

theorem list_lC (m : Mdl) (t : Typ) (ls : List Int) (n k : Nat) (hn : n < 10000) (to : Int) (h0 : 0 ≤ to) (h1 : to < 4294967296) :
    g_valid_checker_list (k + 10) (cL m t ls n 0 false false) (lC to) = some (cL m t ls n 1 (!okL to n) true) := by
  rw [list_fold (k + 9) _ _ (by simp [lC]) (by simp [lC])]
  unfold lC
  rw [List.foldlM_cons, step_const m t ls n _ hn]
  show List.foldlM (stepC (k + 9)) (cM m t ls n) [Instr.mk 14 0 0 0 0 [] [] [0, to, 0]] = _
  rw [List.foldlM_cons]
  have e : stepC (k + 9) (cM m t ls n) (Instr.mk 14 0 0 0 0 [] [] [0, to, 0]) = some (cL m t ls n 1 (!okL to n) true) := by
    unfold stepC
    rw [ite_ff (c := (cM m t ls n).bad) rfl, if_pos (by rfl)]
    simp only [g_valid_checker_control]
    show ((g_valid_checker_table (k + 8) (cM m t ls n) (Instr.mk 14 0 0 0 0 [] [] [0, to, 0])).bind fun x45 => some x45 : Option Checker) = _
    have ht : g_valid_checker_table (k + 8) (cM m t ls n) (Instr.mk 14 0 0 0 0 [] [] [0, to, 0]) = some (cL m t ls n 1 (!okL to n) true) := by
      unfold g_valid_checker_table
      have w2 : wI ((([0, to, 0] : List Int).length : Int) - 1) = 2 := (by decide : wI (3 - 1) = 2)
      have ok0 : (decide (0 ≤ (0 : Int)) && decide ((0 : Int) ≤ (n : Int))) = true := by simp
      have wto : wI to = to := wI_small (by omega) (by omega)
      have w0 : wI 0 = 0 := by decide
      have L : ∀ b x, g_valid_checker_label (cL m t ls n 1 b false) x = some (0, cL m t ls n 1 (b || !okL x n) false) := fun b x => label_cL m t ls n 1 [] _ b x hn
      have L0 : ∀ b, g_valid_checker_label (cL m t ls n 1 b false) 0 = some (0, cL m t ls n 1 b false) := fun b => by
        rw [L]; unfold okL; rw [ok0]; cases b <;> rfl
      rw [take_cM m t ls n hn, Option.bind_some, ite_ff (by rfl)]
      show gd (0 ≤ wI ((([0, to, 0] : List Int).length : Int) - 1) ∧ wI ((([0, to, 0] : List Int).length : Int) - 1) < (([0, to, 0] : List Int).length : Int)) ((g_valid_checker_label (cL m t ls n 1 false false) (wI (([0, to, 0] : List Int).getD (wI ((([0, to, 0] : List Int).length : Int) - 1)).toNat default))).bind _) = _
      rw [w2, gd_of (by exact (by decide : 0 ≤ (2 : Int) ∧ (2 : Int) < 3))]
      show ((g_valid_checker_label (cL m t ls n 1 false false) (wI 0)).bind _ : Option Checker) = _
      rw [w0, L0, Option.bind_some]
      have hl : g_valid_checker_table_l0 (k + 8) (Instr.mk 14 0 0 0 0 [] [] [0, to, 0]) (0, cL m t ls n 1 false false) (cL m t ls n 1 false false) 0 = some (cL m t ls n 1 (!okL to n) false) := by
        simp only [g_valid_checker_table_l0]
        show (if decide ((0 : Int) < 3) = true then (gd (0 ≤ (0 : Int) ∧ (0 : Int) < 3) ((g_valid_checker_label (cL m t ls n 1 false false) (wI 0)).bind _)).bind _ else _) = _
        rw [if_pos (by decide), gd_of (by decide), w0, L0, Option.bind_some, if_neg (by exact (by decide : ¬ ((0 : Int) != 0) = true)), Option.bind_some]
        show (if decide ((1 : Int) < 3) = true then (gd (0 ≤ (1 : Int) ∧ (1 : Int) < 3) ((g_valid_checker_label (cL m t ls n 1 false false) (wI to)).bind _)).bind _ else _) = _
        rw [if_pos (by decide), gd_of (by decide), wto, L, Option.bind_some, if_neg (by exact (by decide : ¬ ((0 : Int) != 0) = true)), Option.bind_some]
        show (if decide ((2 : Int) < 3) = true then (gd (0 ≤ (2 : Int) ∧ (2 : Int) < 3) ((g_valid_checker_label (cL m t ls n 1 (false || !okL to n) false) (wI 0)).bind _)).bind _ else _) = _
        rw [if_pos (by decide), gd_of (by decide), w0, L0, Option.bind_some, if_neg (by exact (by decide : ¬ ((0 : Int) != 0) = true)), Option.bind_some]
        show (if decide ((3 : Int) < 3) = true then _ else some (cL m t ls n 1 (false || !okL to n) false)) = _
        rw [if_neg (by decide), Bool.false_or]
      rw [hl, Option.bind_some, take0 _ n (by omega) (by simp [cL]), Option.bind_some, leave_cL _ _ _ _ _ _ _ hn]
      rfl
    rw [ht]; rfl
  rw [e]; rfl
end Go.Proofs.YtablleokoifolaaGreatDoor

/- The law ValidLabels of the plain functions, whole. -/
set_option linter.unusedVariables false
set_option linter.unusedSimpArgs false
set_option maxRecDepth 100000
namespace Go.Proofs.YtablleokoifolaaGreatDoor
open Go

theorem wr_u64 (x : Int) : ∃ n : Nat, IntKind.wrap .u64 x = n := ⟨(IntKind.wrap .u64 x).toNat, by rw [IntKind.wrap_u64]; omega⟩
theorem wr_k (x : Int) : ∃ N : Nat, N < 30 ∧ wI ((IntKind.wrap .u64 x).tmod 30) = N := by
  obtain ⟨n, hn⟩ := wr_u64 x
  refine ⟨n % 30, Nat.mod_lt _ (by decide), ?_⟩
  rw [hn]
  have e : ((n : Int)).tmod 30 = ((n % 30 : Nat) : Int) := by rw [Int.tmod_eq_emod_of_nonneg (by omega)]; omega
  rw [e, wI_small (by omega) (by omega)]
theorem wr_b (x : Int) : ∃ w : Nat, w ≤ 1 ∧ IntKind.wrap .i64 (((BitVec.ofInt (IntKind.bits .i64) x) &&& (BitVec.ofInt (IntKind.bits .i64) 1)).toNat : Int) = w := by
  refine ⟨(BitVec.ofInt 64 x).toNat % 2, by omega, ?_⟩
  have e : ((BitVec.ofInt (IntKind.bits .i64) x) &&& (BitVec.ofInt (IntKind.bits .i64) 1)).toNat = (BitVec.ofInt 64 x).toNat % 2 := by
    rw [BitVec.toNat_and]
    show (BitVec.ofInt 64 x).toNat &&& 1 = _
    exact Nat.and_one_is_mod _
  rw [e]
  exact wI_small (by omega) (by omega)
theorem wr_o (i w : Nat) (hi : i < 100) (hw : w ≤ 1) : IntKind.wrap .u8 (wI (2 + ((wI ((i : Int) + (w : Int))).tmod 2))) = 2 ∨ IntKind.wrap .u8 (wI (2 + ((wI ((i : Int) + (w : Int))).tmod 2))) = 3 := by
  rw [wI_small (x := (i : Int) + (w : Int)) (by omega) (by omega), Int.tmod_eq_emod_of_nonneg (by omega)]
  have : ((i : Int) + (w : Int)) % 2 = 0 ∨ ((i : Int) + (w : Int)) % 2 = 1 := by omega
  rcases this with h | h <;> rw [h]
  · exact .inl (by decide)
  · exact .inr (by decide)

theorem wr_l0 (p0 p2 : Int) (N : Nat) (hN : N < 30) (he : wI ((IntKind.wrap .u64 p0).tmod 30) = N) : ∀ (k i : Nat) (l : List Instr), i ≤ N → N - i < k →
    ∃ os : List Int, (∀ o ∈ os, o = 2 ∨ o = 3) ∧ os.length = N - i ∧ g_law08_ValidLabels_l0 k p0 p2 l (i : Int) = some (wr os l) := by
  intro k
  induction k with
  | zero => intro i _ _ h; omega
  | succ k ih =>
    intro i l h1 h2
    obtain ⟨w, hw, ew⟩ := wr_b p2
    simp only [g_law08_ValidLabels_l0]
    rw [he]
    by_cases h : i < N
    · rw [if_pos (by simp; omega), gd_of (by decide), ew, wI_nat i (by omega)]
      obtain ⟨os, o1, o2, o3⟩ := ih (i + 1) [Instr.mk (IntKind.wrap .u8 (wI (2 + ((wI ((i : Int) + (w : Int))).tmod 2)))) 0 0 0 0 l [] []] (by omega) (by omega)
      refine ⟨_ :: os, fun o ho => ?_, by simp [o2]; omega, o3⟩
      rcases List.mem_cons.1 ho with rfl | ho
      · exact wr_o i w (by omega) hw
      · exact o1 o ho
    · rw [if_neg (by simp; omega)]
      exact ⟨[], (fun o ho => by cases ho), by simp only [List.length_nil]; omega, rfl⟩
theorem wr_l1 : g_law08_ValidLabels_l1 = g_law08_ValidLabels_l0 := by
  funext k
  induction k with
  | zero => funext a b c d; rfl
  | succ k ih => funext a b c d; simp only [g_law08_ValidLabels_l1, g_law08_ValidLabels_l0, ih]
theorem wr_l2 : g_law08_ValidLabels_l2 = g_law08_ValidLabels_l0 := by
  funext k
  induction k with
  | zero => funext a b c d; rfl
  | succ k ih => funext a b c d; simp only [g_law08_ValidLabels_l2, g_law08_ValidLabels_l0, ih]

/-- What a body says whose list ends so. -/
theorem body_wr (os : List Int) (l : List Instr) (to mo : Int) (aw : Bool) (ho : ∀ o ∈ os, o = 2 ∨ o = 3) (hn : os.length < 30) (hl : wtL l < 100)
    (h : ∀ (m : Mdl) (t : Typ) (ls : List Int) (n k : Nat), n < 10000 → g_valid_checker_list (k + 10) (cL m t ls n 0 false false) l = some (cL m t ls n mo (!okL to n) aw)) :
    ((g_law08_scene [] 0 (wr os l)).bind fun x4 => (g_law08_giveModule 1000 x4).bind fun x6 => g_valid_Body 1000 x6 0) = some (if okL to os.length = true then none else some 7) := by
  have hw := wtL_wr os l
  rw [scM_eq, Option.bind_some, giveModule_id (scM_gv [] 0 _ (by decide) (by omega)), Option.bind_some]
  unfold g_valid_Body
  rw [check_scM (.inl rfl)]
  obtain ⟨aw', e⟩ := list_wr (scM [] 0 (wr os l)) (Typ.mk [] 0) [127, 126] 0 mo (!okL to os.length) os 0 (1000 - 3 * os.length) l aw ho (by omega) (by omega) (by
    have := h (scM [] 0 (wr os l)) (Typ.mk [] 0) [127, 126] os.length (1000 - 3 * os.length - 10) (by omega)
    rw [Nat.zero_add]
    rw [show 1000 - 3 * os.length = 1000 - 3 * os.length - 10 + 10 by omega]
    exact this)
  rw [show 1000 - 3 * os.length + 3 * os.length = 1000 by omega] at e
  rw [show c0 (scM [] 0 (wr os l)) (Typ.mk [] 0) [127, 126] = cL (scM [] 0 (wr os l)) (Typ.mk [] 0) [127, 126] 0 0 false false from rfl, e, Option.bind_some]
  unfold endC
  rw [take0 _ 0 (by decide) (by simp [cL]), Option.bind_some]
  show ((if ((!okL to os.length) || decide (((0 : Nat) : Int) > (0 : Int))) = true then some (none, some 7) else some (some _, none) : Option (Option Checker × Option Int)).bind _ : Option (Option Int)) = _
  cases okL to os.length <;> rfl

theorem bind3 {A B C D : Type} {a : Option A} {b : A → Option B} {c : B → Option C} {f : C → Option D} {r : C} (h : (a.bind fun x => (b x).bind fun y => c y) = some r) :
    (a.bind fun x => (b x).bind fun y => (c y).bind f) = f r := by
  cases a with
  | none => cases h
  | some x =>
    rw [Option.bind_some] at h ⊢
    cases hb : b x with
    | none => rw [hb] at h; cases h
    | some y =>
      rw [hb, Option.bind_some] at h
      rw [Option.bind_some, h, Option.bind_some]

/-- The law's end. -/
theorem labels_end (to : Int) (N : Nat) (x : Option Int) (hx : x = if okL to N = true then none else some 7) :
    ((if (decide (to ≥ (0 : Int))) = true then (if (x.isNone == (decide (to ≤ (N : Int)))) = true then (if x.isNone = true then ((g_law08_sure).bind fun x10 => some x10) else ((g_law08_num x).bind fun x12 => (if (x12 == (7 : Int)) = true then ((g_law08_sure).bind fun x14 => some x14) else some false))) else some false) else (if (x.isNone == false) = true then (if x.isNone = true then ((g_law08_sure).bind fun x16 => some x16) else ((g_law08_num x).bind fun x18 => (if (x18 == (7 : Int)) = true then ((g_law08_sure).bind fun x20 => some x20) else some false))) else some false)).bind (fun j22 => some j22)) = some true := by
  by_cases h0 : 0 ≤ to
  · by_cases h1 : to ≤ (N : Int)
    · have : okL to N = true := by simp [okL, h0, h1]
      rw [this] at hx
      subst hx
      simp [h0, h1, g_law08_sure]
    · have : okL to N = false := by simp [okL, h0, h1]
      rw [this] at hx
      subst hx
      simp [h0, h1, g_law08_sure, g_law08_num]
  · have : okL to N = false := by simp [okL, h0]
    rw [this] at hx
    subst hx
    simp [h0, g_law08_sure, g_law08_num]

theorem labels_true (p0 p1 p2 : Int) : g_law08_ValidLabels 1000 p0 p1 p2 = some true := by
  obtain ⟨N, hN, he⟩ := wr_k p0
  unfold g_law08_ValidLabels
  rw [gd_of (by decide), gd_of (by decide)]
  split
  · obtain ⟨os, o1, o2, o3⟩ := wr_l0 p0 p2 N hN he 1000 0 (lB p1) (by omega) (by omega)
    have hb := body_wr os (lB p1) p1 1 false o1 (by omega) (by simp [lB, wtL, wtI]) (fun m t ls n k hn => list_lB m t ls n k hn p1)
    have o3' : g_law08_ValidLabels_l0 1000 p0 p2 ([(Instr.mk 65 0 0 0 0 ([] : List Instr) ([] : List Instr) ([] : List Int)), (Instr.mk 13 p1 0 0 0 ([] : List Instr) ([] : List Instr) ([] : List Int))] : List Instr) 0 = some (wr os (lB p1)) := o3
    rw [o3', Option.bind_some]
    refine (bind3 hb).trans ?_
    rw [he]
    exact labels_end p1 N _ (by rw [o2]; rfl)
  split
  · split
    · rfl
    · rename_i hr
      have hr' : 0 ≤ p1 ∧ p1 < 4294967296 := by simp at hr; omega
      have e1 : IntKind.wrap .u32 p1 = p1 := by rw [IntKind.wrap_u32]; omega
      obtain ⟨os, o1, o2, o3⟩ := wr_l0 p0 p2 N hN he 1000 0 (lC p1) (by omega) (by omega)
      have hb := body_wr os (lC p1) p1 1 true o1 (by omega) (by simp [lC, wtL, wtI]) (fun m t ls n k hn => list_lC m t ls n k hn p1 hr'.1 hr'.2)
      have o3' : g_law08_ValidLabels_l0 1000 p0 p2 ([(Instr.mk 65 0 0 0 0 ([] : List Instr) ([] : List Instr) ([] : List Int)), (Instr.mk 14 0 0 0 0 ([] : List Instr) ([] : List Instr) ([0, p1, 0] : List Int))] : List Instr) 0 = some (wr os (lC p1)) := o3
      rw [wr_l1, e1, o3', Option.bind_some]
      refine (bind3 hb).trans ?_
      rw [he]
      exact labels_end p1 N _ (by rw [o2]; rfl)
  · obtain ⟨os, o1, o2, o3⟩ := wr_l0 p0 p2 N hN he 1000 0 (lA p1) (by omega) (by omega)
    have hb := body_wr os (lA p1) p1 0 true o1 (by omega) (by simp [lA, wtL, wtI]) (fun m t ls n k hn => list_lA m t ls n k hn p1)
    have o3' : g_law08_ValidLabels_l0 1000 p0 p2 ([(Instr.mk 12 p1 0 0 0 ([] : List Instr) ([] : List Instr) ([] : List Int))] : List Instr) 0 = some (wr os (lA p1)) := o3
    rw [wr_l2, o3', Option.bind_some]
    refine (bind3 hb).trans ?_
    rw [he]
    exact labels_end p1 N _ (by rw [o2]; rfl)
end Go.Proofs.YtablleokoifolaaGreatDoor

/- From the row's reading of the arguments to frozen data; readings stay where the blocks stay. -/
set_option linter.unusedVariables false
set_option linter.unusedSimpArgs false
namespace Go.Proofs.YtablleokoifolaaGreatDoor
open Go Go.ChangeShapes Go.RowKit Go.Deep

section
variable {H : Type} {enc : TypeId × Value → H} {E : Env} {W : World}

/-- Blocks of a world. -/
def old (W : World) (b : Nat) : Prop := b < W.heap.size

/-- What reads by this type is data told so. -/
def Rd (enc : TypeId × Value → H) (E : Env) (W : World) {α : Type} (t : TypeId) (en : α → List FV) (wf : α → Prop) (n : Nat) : Prop :=
  ∀ (base : Nat) (sp : Nat → Bool) (hd : Bool) (cs : List Value) (x : DataW H × List MemPlace), DataW.trod enc E.P W base sp hd n t cs = some x →
    ∃ a, wf a ∧ cs.length = (en a).length ∧ ∀ j, j < cs.length → RVF E W.heap (old W) (toA ((en a).getD j .undef)) (cs.getD j Go.undef)

theorem rdr_bool {t : TypeId} (ht : E.P.underlying t = some .bool) (n : Nat) : Rd enc E W t (fun b : Bool => [.bool b]) (fun _ => True) n := by
  intro base sp hd cs x h
  obtain ⟨b, rfl, _⟩ := DataW.trod_bool ht h
  refine ⟨b, trivial, rfl, fun j hj => ?_⟩
  obtain rfl : j = 0 := by simp at hj; omega
  exact .bool b
theorem rdr_int {t : TypeId} {k : IntKind} (ht : E.P.underlying t = some (.int k)) (n : Nat) : Rd enc E W t (eI k) (fun x => (Lit.int k x).wf = true) n := by
  intro base sp hd cs x h
  obtain ⟨b, rfl, _, hw⟩ := DataW.trod_int ht h
  refine ⟨b, hw, rfl, fun j hj => ?_⟩
  obtain rfl : j = 0 := by simp at hj; omega
  exact .int k b

theorem toA_sV {α : Type} [Inhabited α] (en : α → List FV) (l : List α) : toA (sV en l) = .slv ((List.range l.length).map fun i => (en (l.getD i default)).map toA) := by
  simp only [sV, toA, fl, toAL_map]

theorem rdr_slice {α : Type} [Inhabited α] {t e : TypeId} {en : α → List FV} {wf : α → Prop} (ht : E.P.underlying t = some (.slice e)) (hs : 0 < E.P.cellsOf e)
    (hsz : ∀ a, (en a).length = E.P.cellsOf e) (hk : ∀ a, ∀ v ∈ en a, cellOk (toA v) = true) (h : ∀ n, Rd enc E W e en wf n) (n : Nat) :
    Rd enc E W t (fun l : List α => [sV en l]) (fun l => (∀ a ∈ l, wf a) ∧ l.length ≤ maxLen) n := by
  intro base sp hd cs x hx
  rcases open_slice ht hx with ⟨rfl, _⟩ | ⟨a, len, cap, m, n', D, Pl, rfl, hb, hl, hm, hmm, _, hel⟩
  · refine ⟨[], ⟨fun a h => (by cases h), Nat.zero_le _⟩, rfl, fun j hj => ?_⟩
    obtain rfl : j = 0 := by simp at hj; omega
    exact .slv0 none 0
  · have hlm : len ≤ m := by rw [hmm]; split <;> omega
    have key : ∀ i, i < len → ∃ (b : α) (cs' : List Value), wf b ∧ E.P.cellsOf e = cs'.length ∧ cs'.length = (en b).length ∧ (∀ j, j < cs'.length → W.cell? ((a.add (i * E.P.cellsOf e)).add j) = some (cs'.getD j Go.undef)) ∧
        ∀ j, j < cs'.length → RVF E W.heap (old W) (toA ((en b).getD j .undef)) (cs'.getD j Go.undef) := by
      intro i hi
      obtain ⟨cs', h1, h2⟩ := hel i (by omega)
      obtain ⟨_, hlen, hc⟩ := World.cells?_some h1
      obtain ⟨b, w1, w2, w3⟩ := h n' base sp hd cs' _ h2
      refine ⟨b, cs', w1, hlen.symm, w2, fun j hj => ?_, w3⟩
      have := hc j (by omega)
      simpa [List.getD_eq_getElem?_getD, hj] using this
    obtain ⟨B, hB⟩ := choose_lt (α := α) (p := fun i b => ∃ cs' : List Value, wf b ∧ E.P.cellsOf e = cs'.length ∧ cs'.length = (en b).length ∧ (∀ j, j < cs'.length → W.cell? ((a.add (i * E.P.cellsOf e)).add j) = some (cs'.getD j Go.undef)) ∧
        ∀ j, j < cs'.length → RVF E W.heap (old W) (toA ((en b).getD j .undef)) (cs'.getD j Go.undef)) key
    have hll : ((List.range len).map B).length = len := by simp
    refine ⟨(List.range len).map B, ⟨fun b hb => ?_, by rw [hll]; omega⟩, rfl, fun j hj => ?_⟩
    · obtain ⟨i, hi, rfl⟩ := List.mem_map.1 hb
      exact (hB i (List.mem_range.1 hi)).choose_spec.1
    · obtain rfl : j = 0 := by simp at hj; omega
      show RVF E W.heap (old W) (toA (sV en ((List.range len).map B))) (.slice (some a) len cap)
      rw [toA_sV, hll]
      by_cases h0 : len = 0
      · subst h0
        exact .slv0 (some a) cap
      · have hB0 := hB 0 (by omega)
        have first : ∃ C T fr, W.heap[a.block]? = some (.cells C T fr) ∧ a.spot = none := by
          obtain ⟨cs', _, hc, _, hcell, _⟩ := hB0
          have := hcell 0 (by omega)
          rw [Nat.zero_mul] at this
          have ea : (a.add 0).add 0 = a := rfl
          rw [ea] at this
          unfold World.cell? at this
          split at this
          · rename_i C T fr hh
            refine ⟨C, T, fr, hh, ?_⟩
            split at this
            · cases this
            · rename_i hsn
              cases hsp : a.spot with
              | none => rfl
              | some q => rw [hsp] at hsn; exact absurd rfl hsn
          · cases this
        obtain ⟨C, T, fr, hC, hspot⟩ := first
        obtain ⟨blk, off, spot⟩ := a
        simp only at hspot hC
        subst hspot
        have cellC : ∀ i j, i < len → j < E.P.cellsOf e → ∃ (b : α) (cs' : List Value), B i = b ∧ cs'.length = (en b).length ∧ E.P.cellsOf e = cs'.length ∧ off + i * E.P.cellsOf e + j < C.size ∧ C.getD (off + i * E.P.cellsOf e + j) Go.undef = cs'.getD j Go.undef ∧
            RVF E W.heap (old W) (toA ((en b).getD j .undef)) (cs'.getD j Go.undef) := by
          intro i j hi hj
          obtain ⟨cs', _, hc, hc2, hcell, hr⟩ := hB i hi
          have h1 := hcell j (by omega)
          rw [add_add] at h1
          have h2 : (Addr.add ⟨blk, off, none⟩ (i * E.P.cellsOf e + j)) = ⟨blk, off + (i * E.P.cellsOf e + j), none⟩ := by
            unfold Addr.add
            split
            · rename_i hz; simp [hz]
            · rfl
          rw [h2] at h1
          unfold World.cell? at h1
          simp only [hC, Option.isSome_none, Bool.false_eq_true, if_false] at h1
          have hlt : off + (i * E.P.cellsOf e + j) < C.size := (Array.getElem?_eq_some_iff.1 h1).1
          refine ⟨B i, cs', rfl, hc2, hc, by omega, ?_, hr j (by omega)⟩
          have : C.getD (off + i * E.P.cellsOf e + j) Go.undef = C.getD (off + (i * E.P.cellsOf e + j)) Go.undef := by rw [Nat.add_assoc]
          rw [this, Array.getD_eq_getD_getElem?, h1]; rfl
        have hlen2 : ((List.range len).map fun i => (en (((List.range len).map B).getD i default)).map toA).length = len := by simp
        have hget : ∀ i, i < len → ((List.range len).map fun i => (en (((List.range len).map B).getD i default)).map toA).getD i [] = (en (B i)).map toA := by
          intro i hi
          simp [List.getD_eq_getElem?_getD, hi]
        have hr := RVF.slv (E := E) (H := W.heap) (F := old W) ((List.range len).map fun i => (en (((List.range len).map B).getD i default)).map toA) blk off cap (E.P.cellsOf e) C T fr (Array.getElem?_eq_some_iff.1 hC).1 hC
          (by
            rw [hlen2]
            have := cellC (len - 1) (E.P.cellsOf e - 1) (by omega) (by omega)
            obtain ⟨_, _, _, _, _, hlt, _⟩ := this
            have e1 : len * E.P.cellsOf e = (len - 1) * E.P.cellsOf e + E.P.cellsOf e := by
              have : len = (len - 1) + 1 := by omega
              conv => lhs; rw [this, Nat.add_mul, Nat.one_mul]
            omega)
          (by rw [hlen2]; exact hl)
          (by
            rw [hlen2]
            intro i hi
            rw [hget i hi]; simp [hsz])
          (by
            rw [hlen2]
            intro i j hi hj
            rw [hget i hi]
            have hjl : j < (en (B i)).length := by rw [hsz]; exact hj
            rw [List.getD_eq_getElem?_getD, List.getElem?_map, List.getElem?_eq_getElem hjl]
            exact hk _ _ (List.getElem_mem hjl))
          (by
            rw [hlen2]
            intro i j hi hj
            rw [hget i hi]
            obtain ⟨b, cs', rfl, _, _, _, hcv, hrv⟩ := cellC i j hi hj
            rw [hcv]
            have hjl : j < (en (B i)).length := by rw [hsz]; exact hj
            rw [List.getD_eq_getElem?_getD, List.getElem?_eq_getElem hjl] at hrv
            rw [List.getD_eq_getElem?_getD, List.getElem?_map, List.getElem?_eq_getElem hjl]
            exact hrv)
        rw [hlen2] at hr
        exact hr
end
end Go.Proofs.YtablleokoifolaaGreatDoor

/- Readings stay where the blocks stay. -/
set_option linter.unusedVariables false
set_option linter.unusedSimpArgs false
namespace Go.Proofs.YtablleokoifolaaGreatDoor
open Go Go.ChangeShapes Go.RowKit Go.Deep

theorem mapM_ext {α β : Type} {f g : α → Option β} : ∀ {l : List α} {ys : List β}, l.mapM f = some ys → (∀ a, a ∈ l → ∀ y, f a = some y → y ∈ ys → g a = some y) → l.mapM g = some ys
  | [], ys, h, _ => by simpa using h
  | a :: l, ys, h, hg => by
    rw [List.mapM_cons] at h ⊢
    cases hfa : f a with
    | none => rw [hfa] at h; cases h
    | some y =>
      rw [hfa] at h
      cases hl : l.mapM f with
      | none => rw [hl] at h; cases h
      | some zs =>
        rw [hl] at h
        obtain rfl : y :: zs = ys := Option.some.inj h
        rw [hg a (by simp) y hfa (by simp), mapM_ext hl fun b hb z hz hm => hg b (by simp [hb]) z hz (by simp [hm])]
        rfl

/-- Types that are read without maps, pointers, interfaces. -/
def TyOk (P : Program) (T : TypeId → Prop) : Prop :=
  ∀ t, T t → P.underlying t = some .bool ∨ (∃ k, P.underlying t = some (.int k)) ∨ P.underlying t = some .string ∨ (∃ e, P.underlying t = some (.slice e) ∧ T e ∧ 0 < P.cellsOf e) ∨ ∃ fs, P.underlying t = some (.struct fs) ∧ ∀ f ∈ fs.toList, T f.type

section
variable {H : Type} {enc : TypeId × Value → H} {P : Program} {W W' : World}

theorem cells_ext (hs : ∀ b, b < W.heap.size → W'.heap[b]? = W.heap[b]?) {base : Nat} {a : Addr} {n : Nat} {cs : List Value} (h : W.cells? base a n = some cs) : W'.cells? base a n = some cs := by
  unfold World.cells? at h ⊢
  split
  · rename_i hb
    rw [if_pos hb] at h
    refine mapM_ext h fun i _ y hy _ => ?_
    unfold World.cell? at hy ⊢
    split at hy
    · rename_i C T fr hh
      rw [hs _ (Array.getElem?_eq_some_iff.1 hh).1, hh]
      exact hy
    · cases hy
  · rename_i hb; rw [if_neg hb] at h; exact h

theorem trod_ext {T : TypeId → Prop} (hT : TyOk P T) (hs : ∀ b, b < W.heap.size → W'.heap[b]? = W.heap[b]?) {base : Nat} {hd : Bool} {sp : Nat → Bool} : ∀ (n : Nat) (t : TypeId) (cs : List Value) (x : DataW H × List MemPlace), T t →
    DataW.trod enc P W base (fun _ => true) hd n t cs = some x → (∀ p ∈ x.2, sp p.block = true) → DataW.trod enc P W' base sp hd n t cs = some x := by
  intro n
  induction n with
  | zero => intro t cs x _ h; cases h
  | succ n ih =>
    intro t cs x ht h hp
    have sub : ∀ e, T e → ∀ (a : Addr) (m : Nat) (y : DataW H × List MemPlace), (W.cells? base a m).bind (DataW.trod enc P W base (fun _ => true) hd n e) = some y → (∀ p ∈ y.2, sp p.block = true) →
        (W'.cells? base a m).bind (DataW.trod enc P W' base sp hd n e) = some y := by
      intro e he a m y hy hyp
      obtain ⟨cs', h1, h2⟩ := Option.bind_eq_some_iff.1 hy
      rw [cells_ext hs h1]
      exact ih e cs' y he h2 hyp
    rcases hT t ht with hu | ⟨k, hu⟩ | hu | ⟨e, hu, he, hpos⟩ | ⟨fs, hu, hfs⟩
    · obtain ⟨b, rfl, rfl⟩ := DataW.trod_bool hu h
      simp [DataW.trod, hu]
    · obtain ⟨z, rfl, rfl, hw⟩ := DataW.trod_int hu h
      simp [DataW.trod, hu, hw]
    · obtain ⟨z, rfl, rfl, hw⟩ := DataW.trod_string hu h
      simp [DataW.trod, hu, hw]
    · have h0 := h
      unfold DataW.trod at h ⊢
      rw [hu] at h ⊢
      rcases DataW.trod_slice hu h0 with ⟨rfl, rfl⟩ | ⟨a, len, cap, el0, re0, n', hn, rfl, hx, hb, hl, hm, hlen, -, hsp, -⟩
      · rfl
      · simp only at h ⊢
        rw [if_pos ⟨hb, hl, hm⟩] at h ⊢
        simp only [Option.bind_eq_some_iff, Option.map_eq_some_iff, if_true] at h
        obtain ⟨elems, h1, rest, h2, h3⟩ := h
        have hsa : cap - len ≠ 0 ∨ cap - len = 0 := by omega
        have hpe : ∀ y ∈ elems ++ rest, ∀ p ∈ y.2, sp p.block = true := by
          intro y hy p hpy
          refine hp p ?_
          rw [← h3]
          exact List.mem_append_right _ (List.mem_flatMap.2 ⟨y, hy, hpy⟩)
        have e1 := mapM_ext (g := fun i => (W'.cells? base (a.add (i * P.cellsOf e)) (P.cellsOf e)).bind (DataW.trod enc P W' base sp hd n e)) h1 fun i _ y hy hm => sub e he _ _ y hy (hpe y (List.mem_append_left _ hm))
        rw [e1, Option.bind_some]
        have e2 : (if sp a.block = true then (List.range (cap - len)).mapM fun j => (W'.cells? base (a.add ((len + j) * P.cellsOf e)) (P.cellsOf e)).bind (DataW.trod enc P W' base sp hd n e) else some []) = some rest := by
          by_cases hz : cap - len = 0
          · rw [hz] at h2 ⊢
            simp only [List.range_zero, List.mapM_nil] at h2 ⊢
            split
            · exact h2
            · exact h2
          · have hr := mapM_some_length h2
            have : sp a.block = true := by
              refine hp (.cell a.block (a.off + 0)) ?_
              rw [← h3]
              refine List.mem_append_left _ (List.mem_map.2 ⟨0, List.mem_range.2 ?_, rfl⟩)
              simp only [List.length_range] at hr
              exact Nat.mul_pos (by omega) hpos
            rw [if_pos this]
            exact mapM_ext h2 fun i _ y hy hm => sub e he _ _ y hy (hpe y (List.mem_append_right _ hm))
        rw [e2, ← h3]
        rfl
    · unfold DataW.trod at h ⊢
      rw [hu] at h ⊢
      simp only at h ⊢
      split
      · rename_i hl
        rw [if_pos hl] at h
        obtain ⟨xs, h1, h2⟩ := Option.map_eq_some_iff.1 h
        have hpe : ∀ y ∈ xs, ∀ p ∈ y.2, sp p.block = true := by
          intro y hy p hpy
          refine hp p ?_
          rw [← h2]
          exact List.mem_flatMap.2 ⟨y, hy, hpy⟩
        have e1 := mapM_ext (g := fun f : Field => DataW.trod enc P W' base sp hd n f.type ((cs.drop f.offset).take (P.cellsOf f.type))) h1 fun f hf y hy hm => ih f.type _ y (hfs f hf) hy (hpe y hm)
        rw [e1, ← h2]
        rfl
      · rename_i hl
        rw [if_neg hl] at h
        cases h

theorem trodAll_ext {T : TypeId → Prop} (hT : TyOk P T) (hs : ∀ b, b < W.heap.size → W'.heap[b]? = W.heap[b]?) {base : Nat} {hd : Bool} {sp : Nat → Bool} : ∀ (ts : List TypeId) (vs : List Value) (ds : List (DataW H)) (ps : List MemPlace), (∀ t ∈ ts, T t) →
    DataW.TrodAll enc P W base (fun _ => true) hd ts vs ds ps → (∀ p ∈ ps, sp p.block = true) → DataW.TrodAll enc P W' base sp hd ts vs ds ps
  | [], vs, ds, ps, _, h, _ => by
    obtain ⟨rfl, rfl, rfl⟩ := trodAll_nil h
    rfl
  | t :: ts, vs, ds, ps, ht, h, hp => by
    obtain ⟨v, vs1, d, ds1, a, c, rfl, rfl, rfl, ⟨n, h1⟩, h2⟩ := trodAll_cons h
    exact ⟨a, c, ⟨n, trod_ext hT hs n t _ _ (ht t (by simp)) h1 fun p hpp => hp p (by simp [hpp])⟩, trodAll_ext hT hs ts vs1 ds1 c (fun t h => ht t (by simp [h])) h2 fun p hpp => hp p (by simp [hpp]), rfl⟩

theorem kept_of_same (hs : ∀ b, b < W.heap.size → W'.heap[b]? = W.heap[b]?) (ho : W'.os = W.os) (hp : W'.output = W.output) (may : MemPlace → Prop) : W.keptBut W' may := by
  refine ⟨ho, hp, fun i hi => ?_⟩
  rw [hs i hi]
  split
  · rename_i c t fr c' t' fr' h1 h2
    rw [h1] at h2
    cases h2
    exact ⟨rfl, rfl, rfl, fun _ _ => rfl⟩
  · rename_i es cl es' cl' h1 h2
    rw [h1] at h2
    cases h2
    exact .inr ⟨rfl, rfl⟩
  · rfl
end
end Go.Proofs.YtablleokoifolaaGreatDoor

/- What the rows' condition tells of a world: the listed variable, the named one; a world for the witness. -/
set_option linter.unusedVariables false
set_option linter.unusedSimpArgs false
namespace Go.Proofs.YtablleokoifolaaGreatDoor
open Go Go.ChangeShapes Go.WideShapes Go.RowKit

theorem own : ownKnob Tryz.prog.godebug = none := by kernel_rfl
theorem etN : Tryz.prog.globalNamed "errors.errorType" = some 0 := by kernel_rfl
theorem rtN : (Tryz.prog.cutTypes.find? (·.1 == "internal/reflectlite.rtype")).map (·.2) = some 170 := by kernel_rfl
theorem oneRow : ((List.range 251).filter fun t => Tryz.prog.rowNamed t [101, 114, 114, 111, 114]) = [44] := by kernel_rfl
theorem tsize : Tryz.prog.types.size = 251 := by kernel_rfl
theorem gsize : Tryz.prog.globals.size = 2 := by kernel_rfl
theorem row1 : ((begin Tryz.prog (fun _ _ => 0) default).world.heap[1]?).bind Obj.row? = some (#[.int .i64 0], 3) := by kernel_rfl
theorem ct3 : Tryz.prog.cellTypes Tryz.prog.depth 3 = some [3] := by kernel_rfl
theorem b3 : Tryz.prog.buildable 3 = true := by kernel_rfl

abbrev laidE : List (String × DataW Unit) := [("errors.errorType", Rows.laid_errors_errorType)]

theorem handle_of_laid {W : World} (h : laidMetH Tryz.prog laidE W) : W.cell? ⟨0, 0, none⟩ = some errV := by
  have h' : laidMet Tryz.prog [] W ∧ handlesMet Tryz.prog laidE W := h
  obtain ⟨name, u, ty, e1, e2, e3, e4, e5⟩ := h'.2 _ (List.mem_singleton.2 rfl)
  have en : name = [101, 114, 114, 111, 114] := (Option.some.inj e1).symm
  subst en
  obtain rfl := Option.some.inj (rtN.symm.trans e2)
  have hm : ty ∈ (List.range 251).filter fun t => Tryz.prog.rowNamed t [101, 114, 114, 111, 114] := List.mem_filter.2 ⟨List.mem_range.2 (by rw [← tsize]; exact e3), e4⟩
  rw [oneRow] at hm
  obtain rfl := List.mem_singleton.1 hm
  have hh : typeHandle Tryz.prog 44 = .pointer (some ⟨2, 44, none⟩) := by kernel_rfl
  rw [hh] at e5
  simpa [errV] using World.var?_cell etN e5 0

/-- A variable of an integer type holds some number. -/
theorem int_of_shape {P : Program} {w : World} {g : Nat} {t : TypeId} {k : IntKind} {zero : Array Value} (h : w.ShapedOpen P) (hg : g < P.globals.size)
    (h0 : ((begin P (fun _ _ => 0) default).world.heap[g]?).bind Obj.row? = some (zero, t)) (hz : zero.size = 1)
    (hb : P.buildable t = true) (hc : P.cellTypes P.depth t = some [t]) (hu : P.underlying t = some (.int k)) : ∃ n, w.cell? ⟨g, 0, none⟩ = some (.int k n) := by
  obtain ⟨cs, hh, hs, hr⟩ := h.1 g zero t hg h0
  obtain ⟨ts, hts, _, hall⟩ := hr hb
  rw [hc] at hts
  cases hts
  have h1 : 0 < cs.size := by omega
  obtain ⟨u, hu', hok⟩ := hall 0 cs[0] (by simp [h1])
  have : u = t := by simpa using hu'.symm
  subst this
  have hcell : w.cell? ⟨g, 0, none⟩ = some cs[0] := by simp [World.cell?, hh, h1]
  rw [hcell]
  unfold Cell.ok at hok
  rw [hu] at hok
  cases hv : cs[0] with
  | int k' n => rw [hv] at hok; obtain ⟨rfl, _⟩ := hok; exact ⟨n, rfl⟩
  | _ => rw [hv] at hok; simp at hok

set_option maxRecDepth 100000 in
theorem maxLen_of_shape {W : World} (h : W.ShapedOpen Tryz.prog) : ∃ n, W.cell? ⟨1, 0, none⟩ = some (.int .i64 n) :=
  int_of_shape h (gsize ▸ by decide) row1 rfl b3 ct3 Tryz.underlying3

theorem cellH_of {W : World} {b : Nat} {v : Value} (h : W.cell? ⟨b, 0, none⟩ = some v) : cellH W.heap b = some v := by
  unfold World.cell? at h
  unfold cellH
  split at h
  · rename_i C T fr hb
    simp only at hb
    rw [hb]
    simpa using h
  · cases h

/-- What the proofs over the abstract machine ask of a world. -/
theorem gok_of {W : World} (hl : laidMetH Tryz.prog laidE W) (hs : W.ShapedOpen Tryz.prog) : E.gok W.heap ∧ E.gb ≤ W.heap.size := by
  obtain ⟨n, hn⟩ := maxLen_of_shape hs
  refine ⟨⟨cellH_of (handle_of_laid hl), n, cellH_of hn⟩, ?_⟩
  have := cellH_of hn
  unfold cellH at this
  split at this
  · rename_i hb
    have := (Array.getElem?_eq_some_iff.1 hb).1
    show 2 ≤ W.heap.size
    omega
  · cases this

/-- A world for the witness: the settled one, the listed variable's cell laid. -/
noncomputable def laidWorld (os : Os) : World :=
  { World.holding Tryz.prog os ⟨#[], #[], []⟩ with heap := (World.holding Tryz.prog os ⟨#[], #[], []⟩).heap.modify 0 fun
      | .cells _ t frozen => .cells #[errV] t frozen
      | o => o }
theorem laidWorld_met (os : Os) (args : Array Value) : laidMetH Tryz.prog laidE ((laidWorld os).forCall (fun _ _ => 0) ⟨#[], args, []⟩).memory :=
  laidMetH_of_parts (laidMet_nil _ _) (by kernel_rfl)

theorem rvf_bool {H : Array Obj} {F : Nat → Prop} {b : Bool} {v : Value} (h : RVF E H F (.bool b) v) : v = .bool b := by cases h; rfl
end Go.Proofs.YtablleokoifolaaGreatDoor

/- ValidLabels: whatever the numbers are, the law answers true and its arguments read as before. -/
set_option linter.unusedVariables false
set_option linter.unusedSimpArgs false
namespace Go.Proofs.YtablleokoifolaaGreatDoor.validLabels
open Go Go.ChangeShapes Go.WideShapes Go.RowKit

theorem tyOk : TyOk Tryz.prog (fun t => t = 3 ∨ t = 2) := by
  intro t ht
  rcases ht with rfl | rfl
  · exact .inr (.inl ⟨_, Tryz.underlying3⟩)
  · exact .inr (.inl ⟨_, Tryz.underlying2⟩)

set_option maxRecDepth 100000 in
theorem contract (H : Type) (enc : TypeId × Value → H) (W : World) (base : Nat) (args : Array Value) (ds gs : List (DataW H)) (before : List MemPlace)
    (hval : ∀ (j : Nat) t v, Tryz.f8.params[j]? = some t → args[j]? = some v → Value.okWide Tryz.prog W .any base t v)
    (hW : DataW.Whole enc Tryz.prog Tryz.f8.params.toList Rows.validLabelsSpec.vars false W args.toList ds gs before) (hL : laidMetH Tryz.prog laidE W) (hS : W.ShapedOpen Tryz.prog) :
    Calls Tryz.prog 8 args W fun e W' => ∃ v, e = .returned v ∧ Rows.validLabelsSpec.post enc Tryz.prog Tryz.f8 false true false false W args v W' := by
  have hW' := hW
  obtain ⟨p, q, hA0, hV, rfl, hfz, hnd⟩ := hW
  have hA : DataW.TrodAll enc Tryz.prog W 0 (fun _ => true) true Tryz.f8.params.toList args.toList ds p := hA0
  rw [Tryz.params8] at hA hval
  obtain ⟨v0, vs0, d0, ds0, p0, q0, hargs, rfl, rfl, h0, r0⟩ := trodAll_cons hA
  obtain ⟨v1, vs1, d1, ds1, p1, q1, rfl, rfl, rfl, h1, r1⟩ := trodAll_cons r0
  obtain ⟨v2, vs2, d2, ds2, p2, q2, rfl, rfl, rfl, h2, r2⟩ := trodAll_cons r1
  obtain ⟨rfl, rfl, rfl⟩ := trodAll_nil r2
  obtain rfl : args = #[v0, v1, v2] := by cases args; simp_all
  obtain ⟨rfl, rfl⟩ := trodVars_none hV
  obtain ⟨x0, rfl, rfl, rfl, w0⟩ := open_int Tryz.underlying3 (hval 0 3 v0 rfl rfl) h0
  obtain ⟨x1, rfl, rfl, rfl, w1⟩ := open_int Tryz.underlying2 (hval 1 2 v1 rfl rfl) h1
  obtain ⟨x2, rfl, rfl, rfl, w2⟩ := open_int Tryz.underlying3 (hval 2 3 v2 rfl rfl) h2
  obtain ⟨g1, g2⟩ := gok_of hL hS
  have hc := c_law08_ValidLabels 1000 x0 x1 x2 true (labels_true x0 x1 x2)
  refine (hc.2 W (old W) #[.int .i64 x0, .int .i64 x1, .int .i64 x2] g2 g1 (fun b hb => hb) rfl (fun i hi => ?_)).mono ?_
  · match i with
    | 0 => exact .int .i64 x0
    | 1 => exact .int .i64 x1
    | 2 => exact .int .i64 x2
  rintro e W' ⟨v, F', rfl, k⟩
  obtain rfl := rvf_bool k.rv
  refine ⟨_, rfl, _, _, _, [], [] ++ ([] ++ ([] ++ [])), [], hW', trodAll_cons_mk (shut_bool Tryz.underlying4 _) trodAll_mk0, ?_, rfl, kept_of_same k.same k.wx.os k.wx.output _, fun h => by cases h⟩
  refine trodAll_ext tyOk k.same _ _ _ _ (fun t ht => ?_) hA0 fun p hp => ?_
  · rw [Tryz.params8] at ht
    have : t = 3 ∨ t = 2 ∨ t = 3 := by simpa using ht
    rcases this with h | h | h
    · exact .inl h
    · exact .inr h
    · exact .inl h
  · simp at hp

theorem reads (os : Os) {H : Type} (enc : TypeId × Value → H) : ∃ places, DataW.whole enc Tryz.prog ((laidWorld os).forCall (fun _ _ => 0) ⟨#[], #[.int .i64 0, .int .i64 0, .int .i64 0], []⟩).memory Tryz.f8.params.toList Rows.validLabelsSpec.vars false #[Value.int .i64 0, Value.int .i64 0, Value.int .i64 0].toList 8 = some ([.lit (.int .i64 0), .lit (.int .i64 0), .lit (.int .i64 0)], [], places) :=
  ⟨[], by kernel_rfl⟩

set_option maxRecDepth 100000 in
theorem lifted (os : Os) (started : os.Started) (H : Type) (enc : TypeId × Value → H) (F : Stop.Interp) :
    ReturnsInHanded {} Tryz.checked os 8 .any ((OpenSpec.ofChange Rows.validLabelsSpec).preRow enc Tryz.prog Tryz.f8 Rows.validLabelsRow.domain false Rows.validLabelsRow.laid) (((OpenSpec.ofChange Rows.validLabelsSpec).at F).post enc Tryz.prog Tryz.f8 false true false false) := by
  obtain ⟨places, hx⟩ := reads os enc
  refine returnsInHanded_of_row (C := Tryz.checked) (s := OpenSpec.ofChange Rows.validLabelsSpec) own started (by kernel_rfl) Tryz.func8
    (witness_row_at (enc := enc) (C := Tryz.checked) false (laidWorld os) #[.int .i64 0, .int .i64 0, .int .i64 0] rfl (by kernel_rfl) (by kernel_rfl) (by kernel_rfl)
      (OpenSpec.preRow_of_cond 8 hx (by kernel_rfl) (fun k hk => by cases hk) (by kernel_rfl) (laidWorld_met os _))) ?_
  intro W base args ds gs before hval hW _ _ _ hL hS _
  exact contract H enc W base args ds gs before hval hW hL hS

theorem said : Rows.ValidLabelsSaid :=
  OpenClaim.holds_of_cond 8 Tryz.f8 rfl rfl rfl rfl rfl rfl rfl ⟨rfl, rfl, rfl, rfl, rfl⟩ rfl rfl rfl rfl rfl (by kernel_rfl) Tryz.func8 (by kernel_rfl)
    (of_decide_eq_true (by kernel_rfl)) (by unfold Func.isWrapper; first | (rw [if_pos (by decide +kernel)]; kernel_rfl) | (rw [if_neg (by decide +kernel)]; exact ⟨rfl, rfl⟩))
    (fun os started H enc _ F => by rw [OpenClaim.pre_eq_preRow]; exact lifted os started H enc F)

/-- No parameter wants a stand-in; the program's own looks. -/
theorem plain (f : FuncId) (fn : Func) (hf : Tryz.pinned.checked.prog.funcNamed "mandrel/mandrellaw08.ValidLabels" = some f) (hfn : Tryz.pinned.checked.prog.funcs[f]? = some fn) :
    true = Tryz.pinned.checked.prog.looks [] ∧ ∀ (j : Nat) t, fn.params[j]? = some t → Tryz.pinned.checked.prog.wantsStandIn t = false := by
  obtain rfl : f = 8 := Option.some.inj ((show Tryz.prog.funcNamed "mandrel/mandrellaw08.ValidLabels" = some 8 by kernel_rfl).symm.trans hf) |>.symm
  obtain rfl : fn = Tryz.f8 := (Option.some.inj (Tryz.func8.symm.trans hfn)).symm
  refine ⟨by kernel_rfl, fun j t ht => ?_⟩
  rw [Tryz.params8] at ht
  have : t = 3 ∨ t = 2 ∨ t = 3 := by simpa using Array.mem_of_getElem? ht
  rcases this with rfl | rfl | rfl
  · exact (show Tryz.prog.wantsStandIn 3 = false by kernel_rfl)
  · exact (show Tryz.prog.wantsStandIn 2 = false by kernel_rfl)
  · exact (show Tryz.prog.wantsStandIn 3 = false by kernel_rfl)

theorem card : Rows.ValidLabelsCardSaid :=
  Claim7.holds_tied_plain_at .later [] [.handle] true _ true said (fun _ h => by cases h) (by kernel_rfl) (fun _ h => by cases h) validLabels_row_tie rfl ⟨rfl, rfl⟩ (by kernel_rfl) rfl plain (by kernel_rfl)
end Go.Proofs.YtablleokoifolaaGreatDoor.validLabels

