/- Part 10 of the proof that ValidBodiesUptoCardSaid: for every input that fits the row the law answers true and its arguments read as before, over the world as the row lays it. -/
import Derived.Test.YtablleokoifolaaGreatDoorZ9
import Derived.Deep.Slices
import Derived.ChangeShapes
import Derived.RowKit
import Derived.ChangeSame
import Derived.Test.YtablleokoifolaaGreatDoorCards
import Derived.Test.YtablleokoifolaaGreatDoorTie
import Derived.WideShapes
import Derived.LaidLaws
import Derived.LaidHandle
import Derived.OpenShut
import Derived.Deep.DeepHandedRow
import Derived.FnData
import Derived.Test.YtablleokoifolaaGreatDoorRows
/- Two checkers of bodies: blocks, whole lists, whole bodies. -/
set_option linter.unusedVariables false
set_option linter.unusedSimpArgs false
set_option maxRecDepth 100000
namespace Go.Proofs.YtablleokoifolaaGreatDoor
open Go

instance (r : Int) : Decidable (K3 r) := by unfold K3; infer_instance
theorem res_eq (r : Int) : g_valid_result r = some (decide (K3 r)) := by
  unfold g_valid_result
  by_cases h0 : r = 0
  · subst h0; rfl
  by_cases h1 : r = 127
  · subst h1; rfl
  by_cases h2 : r = 126
  · subst h2; rfl
  have hn : ¬ K3 r := by unfold K3; omega
  rw [decide_eq_false hn]
  simp [h0, h1, h2]
theorem nres_eq (r : Int) : ((r != (0 : Int)) && ((r != (127 : Int)) && (r != (126 : Int)))) = !decide (K3 r) := by
  by_cases h0 : r = 0
  · subst h0; rfl
  by_cases h1 : r = 127
  · subst h1; rfl
  by_cases h2 : r = 126
  · subst h2; rfl
  have hn : ¬ K3 r := by unfold K3; omega
  rw [decide_eq_false hn]
  simp [h0, h1, h2]

/-- Lists within answer alike. -/
def IH (Γ : Ctx) (N k : Nat) (L : List Instr) : Prop :=
  ∀ (lab : Int), K3 lab → ∀ (l : List Int) (aw dd : Bool) (c : Checker) (s : St8), l.length ≤ N → Sim (Γ.sub l aw dd lab) 0 c s → ∃ c' s', g_valid_checker_list (k + 2) c L = some c' ∧ g_ref08_list (k + 2) (Γ.sub l aw dd lab).env s L = some s' ∧ Sim (Γ.sub l aw dd lab) L.length c' s'

theorem ask_res (c : Checker) (r : Int) : (if c.bad = true then some (Checker.mk c.m c.t c.locals c.stack c.frames c.labels c.most true) else (g_valid_result r).bind fun x4 => some (Checker.mk c.m c.t c.locals c.stack c.frames c.labels c.most (!x4))) = some (setB c (!decide (K3 r))) := by
  rw [res_eq, Option.bind_some]
  exact ask_if c _

theorem st_block {Γ : Ctx} {N P k : Nat} {c : Checker} {s : St8} (o : COk Γ P) (h : Sim Γ N c s) (x : Instr) (hx : x.op = 2 ∨ x.op = 3 ∨ x.op = 4)
    (g : Gd Γ (N + x.body.length + x.els.length + 1)) (hf : Γ.fr.length + 1 < 1000000000) (hl : Γ.lb.length + 1 < 1000000000) (i1 : IH Γ N k x.body) (i2 : IH Γ N k x.els) :
    StB Γ (N + 1) (g_valid_checker_control (k + 4) c x) (g_ref08_block (k + 4) Γ.env s x) := by
  obtain ⟨op, n, al, of_, res, body, els, labels⟩ := x
  have gN : Gd Γ N := g.mono (by omega)
  have g1 : Gd Γ (N + body.length + 1) := g.mono (by show N + body.length + 1 ≤ N + body.length + els.length + 1; omega)
  have g2 : Gd Γ (N + els.length + 1) := g.mono (by show N + els.length + 1 ≤ N + body.length + els.length + 1; omega)
  have L0 : ∀ {c s}, Sim Γ N c s → K3 res → ∃ c' s', ((g_valid_checker_lay c res).bind fun x10 => some x10) = some c' ∧ ((g_ref08_lay s res).bind fun x2 => some x2) = some s' ∧ Sim Γ (N + 1) c' s' := fun h hr => by
    obtain ⟨c', s', e1, e2, h'⟩ := sim_lay gN h (Vk.of3 hr)
    exact ⟨c', s', by rw [e1]; rfl, by rw [e2]; rfl, h'⟩
  have LB : ∀ {c}, BadV Γ N c → ∃ c', ((g_valid_checker_lay c res).bind fun x10 => some x10) = some c' ∧ BadV Γ (N + 1) c' := fun h => by
    obtain ⟨c', e1, h'⟩ := layB gN h res
    exact ⟨c', by rw [e1]; rfl, h'⟩
  have eb : ∀ op, g_ref08_block (k + 4) Γ.env s (Instr.mk op n al of_ res body els labels) = if ((res != (0 : Int)) && ((res != (127 : Int)) && (res != (126 : Int)))) = true then some (St8.mk s.l s.under s.away s.dead s.most false) else ((if (op == (2 : Int)) = true then ((g_ref08_inner (k + 3) Γ.env s body res res).bind fun x4 => some x4) else (if (op == (3 : Int)) = true then ((g_ref08_inner (k + 3) Γ.env s body res 0).bind fun x6 => some x6) else ((g_ref08_take s 127).bind fun x8 => ((g_ref08_inner (k + 3) Γ.env x8.1 body res res).bind fun x10 => ((g_ref08_inner (k + 3) Γ.env x10 els res res).bind fun x12 => some x12)))))).bind (fun j1 => ((g_ref08_lay j1 res).bind fun x2 => some x2)) := fun op => by
    simp only [g_ref08_block]; rfl
  rw [eb, nres_eq]
  have hx' : op = 2 ∨ op = 3 ∨ op = 4 := hx
  rcases hx' with rfl | rfl | rfl
  · have e1 : g_valid_checker_control (k + 4) c (Instr.mk 2 n al of_ res body els labels) = (if c.bad = true then some (Checker.mk c.m c.t c.locals c.stack c.frames c.labels c.most true) else (g_valid_result res).bind fun x4 => some (Checker.mk c.m c.t c.locals c.stack c.frames c.labels c.most (!x4))).bind fun j6 => (g_valid_checker_inner (k + 3) j6 body res res).bind fun x8 => (g_valid_checker_lay x8 res).bind fun x10 => some x10 := by
      simp only [g_valid_checker_control]; rfl
    rw [e1, ask_res, Option.bind_some]
    by_cases hr : K3 res
    · rw [decide_eq_true hr, if_neg (by decide), if_pos (by rfl), Bool.not_true, setB_false]
      obtain ⟨c', s', e3, e4, h'⟩ := sim_inner body hr g1 hf hl (i1 res hr) h
      rw [e3, e4]
      exact L0 h' hr
    · rw [decide_eq_false hr, if_pos (by decide), Bool.not_false]
      obtain ⟨c', e3, hb⟩ := innerB (k := k) gN hf hl h.badV body res res
      rw [e3]
      exact StB.ofB (LB hb) ⟨_, rfl, h.badR.mono (by omega)⟩
  · have e1 : g_valid_checker_control (k + 4) c (Instr.mk 3 n al of_ res body els labels) = (if c.bad = true then some (Checker.mk c.m c.t c.locals c.stack c.frames c.labels c.most true) else (g_valid_result res).bind fun x4 => some (Checker.mk c.m c.t c.locals c.stack c.frames c.labels c.most (!x4))).bind fun j6 => (g_valid_checker_inner (k + 3) j6 body res 0).bind fun x8 => (g_valid_checker_lay x8 res).bind fun x10 => some x10 := by
      simp only [g_valid_checker_control]; rfl
    rw [e1, ask_res, Option.bind_some]
    by_cases hr : K3 res
    · rw [decide_eq_true hr, if_neg (by decide), if_neg (by decide), if_pos (by rfl), Bool.not_true, setB_false]
      obtain ⟨c', s', e3, e4, h'⟩ := sim_inner body hr g1 hf hl (i1 0 (.inl rfl)) h
      rw [e3, e4]
      exact L0 h' hr
    · rw [decide_eq_false hr, if_pos (by decide), Bool.not_false]
      obtain ⟨c', e3, hb⟩ := innerB (k := k) gN hf hl h.badV body res 0
      rw [e3]
      exact StB.ofB (LB hb) ⟨_, rfl, h.badR.mono (by omega)⟩
  · have e1 : g_valid_checker_control (k + 4) c (Instr.mk 4 n al of_ res body els labels) = (if c.bad = true then some (Checker.mk c.m c.t c.locals c.stack c.frames c.labels c.most true) else (g_valid_result res).bind fun x4 => some (Checker.mk c.m c.t c.locals c.stack c.frames c.labels c.most (!x4))).bind fun j19 => (g_valid_checker_take j19 127).bind fun x20 => (g_valid_checker_inner (k + 3) x20.2 body res res).bind fun x22 => (g_valid_checker_inner (k + 3) x22 els res res).bind fun x24 => (g_valid_checker_lay x24 res).bind fun x26 => some x26 := by
      simp only [g_valid_checker_control]; rfl
    rw [e1, ask_res, Option.bind_some]
    by_cases hr : K3 res
    · rw [decide_eq_true hr, if_neg (by decide), if_neg (by decide), if_neg (by decide), Bool.not_true, setB_false]
      obtain ⟨v, c0, v', s0, e5, e6, h0, _⟩ := sim_take gN h (Vk.of2 (x := 127) (.inr rfl))
      rw [e5, e6, Option.bind_some, Option.bind_some]
      obtain ⟨c1, s1, e3, e4, h1⟩ := sim_inner body hr g1 hf hl (i1 res hr) h0
      rw [e3, e4, Option.bind_some, Option.bind_some]
      obtain ⟨c2, s2, e7, e8, h2⟩ := sim_inner els hr g2 hf hl (i2 res hr) h1
      rw [e7, e8]
      exact L0 h2 hr
    · rw [decide_eq_false hr, if_pos (by decide), Bool.not_false]
      obtain ⟨v, c0, e5, h0⟩ := takeB gN h.badV 127
      rw [e5, Option.bind_some]
      obtain ⟨c', e3, hb⟩ := innerB (k := k) gN hf hl h0 body res res
      rw [e3, Option.bind_some]
      obtain ⟨c'', e4, hb'⟩ := innerB (k := k) gN hf hl hb els res res
      rw [e4]
      exact StB.ofB (LB hb') ⟨_, rfl, h.badR.mono (by omega)⟩

/-- One instruction of the document's list. -/
def stepR (k : Nat) (p0 : Env8) (a4 : St8) (x : Instr) : Option St8 :=
  if ((x.op) == (0 : Int)) = true then ((g_ref08_away a4).bind fun x9 => some x9) else (if ((x.op) == (1 : Int)) = true then some a4 else (if ((decide ((x.op) ≥ (2 : Int))) && (decide ((x.op) ≤ (4 : Int)))) = true then ((g_ref08_block k p0 a4 x).bind fun x11 => some x11) else (if ((decide ((x.op) ≥ (12 : Int))) && (decide ((x.op) ≤ (14 : Int)))) = true then ((g_ref08_branch k p0 a4 x).bind fun x13 => some x13) else (if ((x.op) == (15 : Int)) = true then ((g_ref08_take a4 p0.result).bind fun x15 => ((g_ref08_away x15.1).bind fun x17 => some x17)) else (if (((x.op) == (16 : Int)) || ((x.op) == (17 : Int))) = true then ((g_ref08_calls k p0 a4 x).bind fun x19 => some x19) else (if ((x.op) == (26 : Int)) = true then ((g_ref08_take a4 255).bind fun x21 => some x21.1) else (if ((x.op) == (27 : Int)) = true then ((g_ref08_take a4 127).bind fun x23 => ((g_ref08_take x23.1 255).bind fun x25 => ((g_ref08_take x25.1 x25.2).bind fun x27 => ((g_ref08_lay x27.1 x27.2).bind fun x29 => some x29)))) else (if ((decide ((x.op) ≥ (32 : Int))) && (decide ((x.op) ≤ (36 : Int)))) = true then ((g_ref08_variable p0 a4 x).bind fun x31 => some x31) else ((g_ref08_value k p0 a4 x).bind fun x33 => some x33)))))))))
def stepR' (k : Nat) (e : Env8) (s : St8) (x : Instr) : Option St8 := if s.ok = true then stepR k e s x else some s

theorem rfold_bad (k : Nat) (e : Env8) (l : List Instr) {s : St8} (h : s.ok = false) : l.foldlM (stepR' k e) s = some s := by
  induction l with
  | nil => rfl
  | cons x l ih =>
    rw [List.foldlM_cons]
    have : stepR' k e s x = some s := by unfold stepR'; rw [h]; rfl
    rw [this]; exact ih

theorem rlist_fold (k : Nat) (e : Env8) (s : St8) (l : List Instr) (hk : l.length < k) (hs : l.length < 1000000000) : g_ref08_list (k + 1) e s l = l.foldlM (stepR' k e) s := by
  simp only [g_ref08_list]
  rw [Option.bind_fun_some]
  have key : ∀ (q i : Nat) (s : St8), i ≤ l.length → l.length - i < q → lpN q (fun (rec6 : St8 × Int → Option (St8)) v => match v with | (a4, a5) => (if ((decide (a5 < (l.length : Int))) && a4.ok) = true then (gd (0 ≤ a5 ∧ a5 < (l.length : Int)) (stepR k e a4 (l.getD a5.toNat default))).bind (fun j7 => rec6 (j7, (wI (a5 + 1)))) else some a4)) (s, (i : Int)) = (l.drop i).foldlM (stepR' k e) s := by
    intro q
    induction q with
    | zero => intro i s _ h; omega
    | succ q ih =>
      intro i s h1 h2
      simp only [lpN]
      by_cases h : i < l.length
      · rw [dropS l i h, List.foldlM_cons]
        by_cases hb : s.ok = true
        · rw [if_pos (by rw [dltT h, hb]; rfl), gd_of (by omega)]
          unfold stepR'
          rw [if_pos hb, wI_nat i (by omega)]
          cases stepR k e s (l.getD ((i : Int)).toNat default) with
          | none => rfl
          | some c' => exact ih (i + 1) c' h (by omega)
        · have hb' : s.ok = false := by simpa using hb
          rw [if_neg (by rw [hb', Bool.and_false]; decide)]
          have : stepR' k e s (l.getD ((i : Int)).toNat default) = some s := by unfold stepR'; rw [hb']; rfl
          rw [this]
          exact (rfold_bad k e _ hb').symm
      · rw [if_neg (by intro hh; rw [Bool.and_eq_true] at hh; exact dltF h hh.1), List.drop_of_length_le (by omega)]
        rfl
  exact key k 0 s (Nat.zero_le _) (by omega)

mutual
/-- Instructions as bytes and numbers tell them. -/
def IWI : Instr → Prop
  | .mk op _ al _ _ b e _ => (0 ≤ op ∧ op < 256) ∧ 0 ≤ al ∧ IWL b ∧ IWL e
def IWL : List Instr → Prop
  | [] => True
  | x :: l => IWI x ∧ IWL l
end

theorem st_none {s : St8} {f : St8 → Option St8} {a : Option St8} : (a.bind fun x => some x) = a := Option.bind_fun_some a

/-- One instruction: both answer alike. -/
theorem sim_step {Γ : Ctx} {N P k : Nat} {c : Checker} {s : St8} (o : COk Γ P) (h : Sim Γ N c s) (x : Instr) (hw : IWI x) (hk : P + 400 < k)
    (g : Gd Γ (N + x.body.length + x.els.length + 1)) (hf : Γ.fr.length + 1 < 1000000000) (hl : Γ.lb.length + 1 < 1000000000) (i1 : IH Γ N k x.body) (i2 : IH Γ N k x.els) :
    StB Γ (N + 1) (stepC (k + 4) c x) (stepR' (k + 4) Γ.env s x) := by
  have gN : Gd Γ N := g.mono (by omega)
  unfold stepC stepR'
  by_cases hk' : s.ok = true
  rotate_left
  · have hb : s.ok = false := by simpa using hk'
    rw [if_pos (by rw [h.bad, hb]; rfl), if_neg hk']
    exact ⟨c, s, rfl, rfl, h.mono (by omega)⟩
  rw [if_neg (by rw [h.bad, hk']; decide), if_pos hk']
  have hop : (0 ≤ x.op ∧ x.op < 256) ∧ 0 ≤ x.align := by
    cases x; simp only [IWI] at hw; exact ⟨hw.1, hw.2.1⟩
  obtain ⟨⟨o1, o2⟩, o3⟩ := hop
  unfold stepR
  simp only [Option.bind_fun_some]
  by_cases q0 : x.op = 0
  · rw [if_pos (by rw [q0]; decide), if_pos (by rw [q0]; decide)]
    simp only [g_valid_checker_control]
    rw [if_pos (by rw [q0]; decide)]
    obtain ⟨c', s', e1, e2, h'⟩ := sim_leave gN h
    exact ⟨c', s', by rw [e1]; rfl, e2, h'.mono (by omega)⟩
  by_cases q1 : x.op = 1
  · rw [if_pos (by rw [q1]; decide), if_neg (by rw [q1]; decide), if_pos (by rw [q1]; decide)]
    simp only [g_valid_checker_control]
    rw [if_neg (by rw [q1]; decide), if_pos (by rw [q1]; decide)]
    exact ⟨c, s, rfl, rfl, h.mono (by omega)⟩
  rw [if_neg (c := (x.op == (0 : Int)) = true) (by simpa using q0), if_neg (c := (x.op == (1 : Int)) = true) (by simpa using q1)]
  by_cases q2 : x.op = 2 ∨ x.op = 3 ∨ x.op = 4
  · rw [if_pos (by simp; omega), if_pos (by simp; omega)]
    exact st_block o h x q2 g hf hl i1 i2
  rw [if_neg (c := (decide (x.op ≥ 2) && decide (x.op ≤ 4)) = true) (by simp; omega)]
  by_cases q3 : x.op = 12
  · rw [if_pos (by simp; omega), if_pos (by simp; omega)]
    exact st_br gN o h x _ q3
  by_cases q4 : x.op = 13
  · rw [if_pos (by simp; omega), if_pos (by simp; omega)]
    exact st_brif gN o h x _ q4
  by_cases q5 : x.op = 14
  · rw [if_pos (by simp; omega), if_pos (by simp; omega)]
    exact st_table gN o h x _ q5 (by omega) (by omega)
  rw [if_neg (c := (decide (x.op ≥ 12) && decide (x.op ≤ 14)) = true) (by simp; omega)]
  by_cases q6 : x.op = 15
  · rw [if_pos (by simp; omega), if_pos (by simp [q6])]
    have e1 : g_valid_checker_control (k + 4) c x = (g_valid_checker_take c c.t.result).bind fun x47 => (g_valid_checker_leave x47.2).bind fun x49 => some x49 := by
      obtain ⟨op, n, al, of_, res, body, els, labels⟩ := x
      obtain rfl : op = 15 := q6
      simp only [g_valid_checker_control]; rfl
    rw [e1, h.fld.2.1]
    obtain ⟨v, c', v', s', e3, e4, h', _⟩ := sim_take gN h (Vk.of3 o.res)
    have e4' : g_ref08_take s Γ.env.result = some (s', v') := e4
    rw [e3, e4', Option.bind_some, Option.bind_some]
    obtain ⟨c2, s2, e5, e6, h2⟩ := sim_leave gN h'
    exact ⟨c2, s2, by rw [e5]; rfl, e6, h2.mono (by omega)⟩
  rw [if_neg (c := (x.op == (15 : Int)) = true) (by simpa using q6)]
  by_cases q7 : x.op = 16
  · rw [if_pos (by simp; omega), if_pos (by simp [q7])]
    exact (st_calls gN o h hk' (by omega) x _).1 q7
  by_cases q8 : x.op = 17
  · rw [if_pos (by simp; omega), if_pos (by simp [q8])]
    exact (st_calls gN o h hk' (by omega) x _).2 q8
  rw [if_neg (c := (x.op == (16 : Int) || x.op == (17 : Int)) = true) (by simp [q7, q8])]
  by_cases q9 : x.op = 26
  · rw [if_neg (by simp; omega), if_pos (by simp [q9])]
    have e1 : g_valid_checker_simple c x = (g_valid_checker_take c 1).bind fun x1 => some x1.2 := by
      unfold g_valid_checker_simple; rw [if_pos (by simp [q9])]
    rw [e1]
    obtain ⟨v, c', v', s', e3, e4, h', _⟩ := sim_take gN h Vk.any
    exact ⟨c', s', by rw [e3]; rfl, by rw [e4]; rfl, h'.mono (by omega)⟩
  rw [if_neg (c := (x.op == (26 : Int)) = true) (by simpa using q9)]
  by_cases q10 : x.op = 27
  · rw [if_neg (by simp; omega), if_pos (by simp [q10])]
    have e1 : g_valid_checker_simple c x = (g_valid_checker_take c 127).bind fun x3 => (g_valid_checker_take x3.2 1).bind fun x5 => (g_valid_checker_take x5.2 x5.1).bind fun x7 => (g_valid_checker_lay x7.2 x7.1).bind fun x9 => some x9 := by
      unfold g_valid_checker_simple; rw [if_neg (by simp [q10]), if_pos (by simp [q10])]
    rw [e1]
    obtain ⟨v, c', v', s', e3, e4, h', _⟩ := sim_take gN h (Vk.of2 (x := 127) (.inr rfl))
    rw [e3, e4, Option.bind_some, Option.bind_some]
    obtain ⟨v2, c2, v2', s2, e5, e6, h2, k2⟩ := sim_take gN h' Vk.any
    rw [e5, e6, Option.bind_some, Option.bind_some]
    obtain ⟨v3, c3, v3', s3, e7, e8, h3, k3⟩ := sim_take gN h2 k2
    rw [e7, e8, Option.bind_some, Option.bind_some]
    obtain ⟨c4, s4, e9, e10, h4⟩ := sim_lay gN h3 k3
    exact ⟨c4, s4, by rw [e9]; rfl, e10, h4⟩
  rw [if_neg (c := (x.op == (27 : Int)) = true) (by simpa using q10)]
  by_cases q11 : 32 ≤ x.op ∧ x.op ≤ 36
  · rw [if_neg (by simp; omega), if_pos (by simp; omega)]
    exact st_variable gN o h hk' x q11.1 q11.2
  rw [if_neg (c := (decide (x.op ≥ 32) && decide (x.op ≤ 36)) = true) (by simp; omega)]
  by_cases q12 : x.op < 26
  · rw [if_pos (by simpa using q12)]
    have hB : g_valid_checker_control (k + 4) c x = some (Checker.mk c.m c.t c.locals c.stack c.frames c.labels c.most true) := by
      simp only [g_valid_checker_control]
      have r2 : (if (x.op == (2 : Int)) = true then some (x.op == (2 : Int)) else some (x.op == (3 : Int))) = some false := by
        rw [if_neg (by simp; omega)]
        congr 1
        simp; omega
      rw [if_neg (by simp; omega), if_neg (by simp; omega), r2, Option.bind_some, if_neg (by decide), if_neg (by simp; omega), if_neg (by simp; omega), if_neg (by simp; omega), if_neg (by simp; omega), if_neg (by simp; omega), if_neg (by simp; omega), if_neg (by simp; omega)]
    rw [hB]
    obtain ⟨t, is, f, n, bs, S⟩ := op_said x.op o1 o2
    obtain ⟨p, r, r1, _⟩ := S.rsg
    obtain ⟨fe, r2⟩ := S.rfo
    obtain ⟨sg, r3⟩ := S.rby
    have his : is = false := S.low q12 (by omega) (by omega)
    subst his
    unfold g_ref08_value
    rw [r1, r2, r3, Option.bind_some, Option.bind_some, Option.bind_some, if_pos (by rfl)]
    have hb := h.badV
    rw [setB_true] at hb
    exact StB.ofB ⟨_, rfl, hb.mono (by omega)⟩ ⟨_, rfl, h.badR.mono (by omega)⟩
  · rw [if_neg (by simpa using q12)]
    have e1 : g_valid_checker_simple c x = (g_valid_checker_plain c x).bind fun x37 => some x37 := by
      unfold g_valid_checker_simple
      rw [if_neg (by simp; omega), if_neg (by simp; omega), if_neg (by simp; omega), if_neg (by simp; omega), if_neg (by simp; omega), if_neg (by simp; omega), if_neg (by simp; omega)]
    rw [e1, Option.bind_fun_some]
    exact st_plain gN o h hk' x o1 o2 o3 (by omega)

/-- Whole lists: both answer alike. -/
theorem sim_list : ∀ (K : Nat) (Γ : Ctx) (N P : Nat) (c : Checker) (s : St8) (L : List Instr), COk Γ P → IWL L → wtL L + P + 500 ≤ K → wtL L < 1000000000 → Gd Γ (N + 3 * wtL L) → Γ.fr.length + wtL L < 1000000000 → Γ.lb.length + wtL L < 1000000000 → Sim Γ N c s →
    ∃ c' s', g_valid_checker_list K c L = some c' ∧ g_ref08_list K Γ.env s L = some s' ∧ Sim Γ (N + L.length) c' s' := by
  intro K
  induction K using Nat.strongRecOn with
  | _ K ihK =>
  intro Γ N P c s L o hw hK hW g hf hl h
  obtain ⟨k, rfl⟩ : ∃ k, K = k + 4 + 1 := ⟨K - 5, by omega⟩
  have hLn := wtL_pos L
  rw [list_fold (k + 4) c L (by omega) (by omega), rlist_fold (k + 4) Γ.env s L (by omega) (by omega)]
  have key : ∀ (M : List Instr) (N' : Nat) (c : Checker) (s : St8), IWL M → wtL M ≤ wtL L → N' + 3 * wtL M ≤ N + 3 * wtL L → Sim Γ N' c s → ∃ c' s', M.foldlM (stepC (k + 4)) c = some c' ∧ M.foldlM (stepR' (k + 4) Γ.env) s = some s' ∧ Sim Γ (N' + M.length) c' s' := by
    intro M
    induction M with
    | nil => intro N' c s _ _ _ h; exact ⟨c, s, rfl, rfl, h⟩
    | cons x M ihM =>
      intro N' c s hw hm hn h
      simp only [IWL] at hw
      simp only [wtL] at hm hn
      have hx := wtI_eq x
      have hbp := wtL_pos x.body
      have hep := wtL_pos x.els
      have hMp := wtL_pos M
      have hwb : IWL x.body ∧ IWL x.els := by
        have := hw.1
        cases x; simp only [IWI] at this; exact this.2.2
      have gun := g.un
      have gI : ∀ (B : List Instr), IWL B → wtL B + 4 ≤ wtI x + wtL M → IH Γ N' k B := by
        intro B hB1 hB2 lab hlab l aw dd c s hll hs
        have := ihK (k + 2) (by omega) (Γ.sub l aw dd lab) 0 P c s B (o.sub l aw dd hlab) hB1 (by omega) (by omega)
          (by
            have g' : Gd Γ (l.length + (0 + 3 * wtL B)) := g.mono (by omega)
            exact g'.sub (N := 0) (by omega) (by omega))
          (by simp only [Ctx.sub, List.length_append, List.length_cons, List.length_nil]; omega)
          (by simp only [Ctx.sub, List.length_append, List.length_cons, List.length_nil]; omega) hs
        rwa [Nat.zero_add] at this
      obtain ⟨c1, s1, e1, e2, h1⟩ := sim_step (k := k) o h x hw.1 (by omega) (g.mono (by omega)) (by omega) (by omega) (gI _ hwb.1 (by omega)) (gI _ hwb.2 (by omega))
      obtain ⟨c2, s2, e3, e4, h2⟩ := ihM (N' + 1) c1 s1 hw.2 (by omega) (by omega) h1
      refine ⟨c2, s2, ?_, ?_, ?_⟩
      · rw [List.foldlM_cons, e1]; exact e3
      · rw [List.foldlM_cons, e2]; exact e4
      · rw [List.length_cons, show N' + (M.length + 1) = N' + 1 + M.length by omega]; exact h2
  exact key L N c s hw (Nat.le_refl _) (Nat.le_refl _) h
end Go.Proofs.YtablleokoifolaaGreatDoor

/- Whole bodies: both checkers answer alike. -/
set_option linter.unusedVariables false
set_option linter.unusedSimpArgs false
set_option maxRecDepth 100000
namespace Go.Proofs.YtablleokoifolaaGreatDoor
open Go

instance (r : Int) : Decidable (K2 r) := by unfold K2; infer_instance

theorem idxK {p : Int → Bool} {f : Int → Option Bool} (hf : ∀ x, f x = some (p x)) (l : List Int) (hl : l.length < 1000000000) : ∀ (k i : Nat), i ≤ l.length → l.length - i < k →
    ∃ j, g_slices_IndexFunc_api_Kind_api_Kind_l0 k l f (i : Int) = some j ∧ decide (j ≥ 0) = (l.drop i).any p := by
  intro k
  induction k with
  | zero => intro i _ h; omega
  | succ k ih =>
    intro i h1 h2
    simp only [g_slices_IndexFunc_api_Kind_api_Kind_l0]
    by_cases h : i < l.length
    · rw [if_pos (dltT h), gd_of (by omega), hf, Option.bind_some, dropS l i h, List.any_cons]
      cases p (l.getD ((i : Int)).toNat default) with
      | true => exact ⟨(i : Int), by rw [if_pos rfl], by rw [Bool.true_or]; exact decide_eq_true (by omega)⟩
      | false =>
        rw [if_neg (by decide), wI_nat i (by omega), Bool.false_or]
        exact ih (i + 1) h (by omega)
    · rw [if_neg (dltF h), List.drop_of_length_le (by omega)]
      exact ⟨-1, rfl, rfl⟩
theorem containsK {p : Int → Bool} {f : Int → Option Bool} (hf : ∀ x, f x = some (p x)) (l : List Int) (hl : l.length < 1000000000) (K : Nat) (hK : l.length < K) : g_slices_ContainsFunc_api_Kind_api_Kind K l f = some (l.any p) := by
  unfold g_slices_ContainsFunc_api_Kind_api_Kind g_slices_IndexFunc_api_Kind_api_Kind
  obtain ⟨j, h1, h2⟩ := idxK hf l hl K 0 (Nat.zero_le _) (by omega)
  rw [show (0 : Int) = ((0 : Nat) : Int) from rfl, h1, Option.bind_some]
  exact congrArg some h2
theorem idxG {p : Glo → Bool} {f : Glo → Option Bool} (hf : ∀ x, f x = some (p x)) (l : List Glo) (hl : l.length < 1000000000) : ∀ (k i : Nat), i ≤ l.length → l.length - i < k →
    ∃ j, g_slices_IndexFunc_api_Global_api_Global_l0 k l f (i : Int) = some j ∧ decide (j ≥ 0) = (l.drop i).any p := by
  intro k
  induction k with
  | zero => intro i _ h; omega
  | succ k ih =>
    intro i h1 h2
    simp only [g_slices_IndexFunc_api_Global_api_Global_l0]
    by_cases h : i < l.length
    · rw [if_pos (dltT h), gd_of (by omega), hf, Option.bind_some, dropS l i h, List.any_cons]
      cases p (l.getD ((i : Int)).toNat default) with
      | true => exact ⟨(i : Int), by rw [if_pos rfl], by rw [Bool.true_or]; exact decide_eq_true (by omega)⟩
      | false =>
        rw [if_neg (by decide), wI_nat i (by omega), Bool.false_or]
        exact ih (i + 1) h (by omega)
    · rw [if_neg (dltF h), List.drop_of_length_le (by omega)]
      exact ⟨-1, rfl, rfl⟩
theorem containsG {p : Glo → Bool} {f : Glo → Option Bool} (hf : ∀ x, f x = some (p x)) (l : List Glo) (hl : l.length < 1000000000) (K : Nat) (hK : l.length < K) : g_slices_ContainsFunc_api_Global_api_Global K l f = some (l.any p) := by
  unfold g_slices_ContainsFunc_api_Global_api_Global g_slices_IndexFunc_api_Global_api_Global
  obtain ⟨j, h1, h2⟩ := idxG hf l hl K 0 (Nat.zero_le _) (by omega)
  rw [show (0 : Int) = ((0 : Nat) : Int) from rfl, h1, Option.bind_some]
  exact congrArg some h2

theorem none_eq (x : Int) : g_valid_kinds_1 x = some (!decide (K2 x)) := by
  unfold g_valid_kinds_1
  rw [Option.bind_fun_some, res_eq, Option.bind_some]
  by_cases h0 : x = 0
  · subst h0; rfl
  · rw [if_neg (by simpa using h0)]
    have : K3 x ↔ K2 x := by unfold K3 K2; omega
    by_cases h : K2 x
    · rw [decide_eq_true h, decide_eq_true (this.2 h)]
    · rw [decide_eq_false h, decide_eq_false (fun h' => h (this.1 h'))]
theorem none2_eq (x : Glo) : g_valid_kinds_2 x = some (!decide (K2 x.kind)) := by
  unfold g_valid_kinds_2
  rw [none_eq, Option.bind_some]
theorem kind_eq (x : Int) : g_ref08_kind x false = some (decide (K2 x)) := by
  unfold g_ref08_kind K2
  by_cases h1 : x = 127
  · subst h1; rfl
  by_cases h2 : x = 126
  · subst h2; rfl
  simp [h1, h2]
theorem kind3_eq (x : Int) : g_ref08_kind x true = some (decide (K3 x)) := by
  unfold g_ref08_kind K3
  by_cases h1 : x = 127
  · subst h1; rfl
  by_cases h2 : x = 126
  · subst h2; rfl
  by_cases h3 : x = 0
  · subst h3; rfl
  simp [h1, h2, h3]

def kT (t : Typ) : Bool := decide (K3 t.result) && t.params.all fun x => decide (K2 x)
def kF (f : Fnc) : Bool := f.locals.all fun x => decide (K2 x)
def kG (g : Glo) : Bool := decide (K2 g.kind)
/-- Are all kinds of a module some? -/
def kindsB (m : Mdl) : Bool := m.types.all kT && (m.funcs.all kF && m.globals.all kG)

/-- A module's sizes. -/
structure MSz (S : Nat) (m : Mdl) : Prop where
  S0 : S < 1000000000
  types : m.types.length < S
  typ : ∀ t ∈ m.types, t.params.length < S
  funcs : m.funcs.length < S
  fnc : ∀ f ∈ m.funcs, f.locals.length < S
  globals : m.globals.length < S

theorem any_not {α : Type} (p : α → Bool) (l : List α) : (l.any fun x => !p x) = !l.all p := by
  induction l with
  | nil => rfl
  | cons x l ih => rw [List.any_cons, List.all_cons, ih]; cases p x <;> rfl

theorem vkinds_l1 {S K : Nat} {m : Mdl} (z : MSz S m) (hK : S ≤ K) : ∀ (k i : Nat), i ≤ m.funcs.length → m.funcs.length - i < k → g_valid_kinds_l1 k K m (i : Int) = some ((m.funcs.drop i).all kF && m.globals.all kG) := by
  intro k
  have s1 := z.S0; have s2 := z.funcs; have s3 := z.globals
  induction k with
  | zero => intro i _ h; omega
  | succ k ih =>
    intro i h1 h2
    simp only [g_valid_kinds_l1]
    by_cases h : i < m.funcs.length
    · have s4 := z.fnc _ (getD_mem m.funcs i h)
      rw [if_pos (dltT h), gd_of (by omega), containsK none_eq _ (by omega) K (by omega), Option.bind_some, dropS m.funcs i h, List.all_cons, any_not]
      show (if (!kF (m.funcs.getD ((i : Int)).toNat default)) = true then _ else _) = _
      cases kF (m.funcs.getD ((i : Int)).toNat default) with
      | false => rfl
      | true =>
        rw [if_neg (by decide), wI_nat i (by omega), Bool.true_and]
        exact ih (i + 1) h (by omega)
    · rw [if_neg (dltF h), List.drop_of_length_le (by omega), containsG none2_eq _ (by omega) K (by omega), Option.bind_some]
      rw [show (m.globals.any fun x => !decide (K2 x.kind)) = !m.globals.all kG from any_not kG m.globals, Bool.not_not]
      rfl
theorem vkinds_l0 {S K : Nat} {m : Mdl} (z : MSz S m) (hK : S ≤ K) : ∀ (k i : Nat), i ≤ m.types.length → m.types.length - i < k → g_valid_kinds_l0 k K m (i : Int) = some ((m.types.drop i).all kT && (m.funcs.all kF && m.globals.all kG)) := by
  intro k
  have s1 := z.S0; have s2 := z.types; have s3 := z.funcs
  induction k with
  | zero => intro i _ h; omega
  | succ k ih =>
    intro i h1 h2
    simp only [g_valid_kinds_l0]
    by_cases h : i < m.types.length
    · have s4 := z.typ _ (getD_mem m.types i h)
      rw [if_pos (dltT h), gd_of (by omega), res_eq, Option.bind_some, containsK none_eq _ (by omega) K (by omega), Option.bind_some, dropS m.types i h, List.all_cons, any_not]
      have e : (if (!decide (K3 (m.types.getD ((i : Int)).toNat default).result)) = true then some true else some (!(m.types.getD ((i : Int)).toNat default).params.all fun x => decide (K2 x))) = some (!kT (m.types.getD ((i : Int)).toNat default)) := by
        unfold kT
        cases decide (K3 (m.types.getD ((i : Int)).toNat default).result) <;> rfl
      refine (congrArg (fun o => Option.bind o _) e).trans ?_
      rw [Option.bind_some]
      cases kT (m.types.getD ((i : Int)).toNat default) with
      | false => rfl
      | true =>
        rw [if_neg (by decide), wI_nat i (by omega), Bool.true_and]
        exact ih (i + 1) h (by omega)
    · rw [if_neg (dltF h), List.drop_of_length_le (by omega)]
      exact vkinds_l1 z hK K 0 (Nat.zero_le _) (by omega)
theorem vkinds {S K : Nat} {m : Mdl} (z : MSz S m) (hK : S ≤ K) : g_valid_kinds K m = some (kindsB m) := by
  have := z.types
  exact vkinds_l0 z hK K 0 (Nat.zero_le _) (by omega)

theorem rkinds_l4 {S : Nat} {m : Mdl} (z : MSz S m) (a : Nat) (ha : a < m.types.length) : ∀ (k i : Nat) (b : Bool), i ≤ (m.types.getD ((a : Int)).toNat default).params.length → (m.types.getD ((a : Int)).toNat default).params.length - i < k →
    g_ref08_kinds_l4 k m (a : Int) b (i : Int) = some (b && ((m.types.getD ((a : Int)).toNat default).params.drop i).all fun x => decide (K2 x)) := by
  intro k
  have s1 := z.S0; have s4 := z.typ _ (getD_mem m.types a ha)
  induction k with
  | zero => intro i b _ h; omega
  | succ k ih =>
    intro i b h1 h2
    simp only [g_ref08_kinds_l4]
    rw [gd_of (by omega)]
    by_cases h : i < (m.types.getD ((a : Int)).toNat default).params.length
    · rw [if_pos (dltT h), dropS _ i h, List.all_cons]
      have e : (if b = true then gd (0 ≤ (a : Int) ∧ (a : Int) < (m.types.length : Int)) (gd (0 ≤ (i : Int) ∧ (i : Int) < ((m.types.getD ((a : Int)).toNat default).params.length : Int)) ((g_ref08_kind ((m.types.getD ((a : Int)).toNat default).params.getD ((i : Int)).toNat default) false).bind fun x55 => some x55)) else some false) = some (b && decide (K2 ((m.types.getD ((a : Int)).toNat default).params.getD ((i : Int)).toNat default))) := by
        rw [gd_of (by omega), gd_of (by omega), kind_eq]
        cases b <;> rfl
      refine (congrArg (fun o => Option.bind o _) e).trans ?_
      rw [Option.bind_some, wI_nat i (by omega), ih (i + 1) _ h (by omega), Bool.and_assoc]
    · rw [if_neg (dltF h), List.drop_of_length_le (by omega)]
      simp
theorem rkinds_l3 {S K : Nat} {m : Mdl} (z : MSz S m) (hK : S ≤ K) : ∀ (k i : Nat) (b : Bool), i ≤ m.types.length → m.types.length - i < k → g_ref08_kinds_l3 k K m b (i : Int) = some (b && (m.types.drop i).all kT) := by
  intro k
  have s1 := z.S0; have s2 := z.types
  induction k with
  | zero => intro i b _ h; omega
  | succ k ih =>
    intro i b h1 h2
    simp only [g_ref08_kinds_l3]
    by_cases h : i < m.types.length
    · have s4 := z.typ _ (getD_mem m.types i h)
      rw [if_pos (dltT h), dropS _ i h, List.all_cons]
      have e : (if b = true then gd (0 ≤ (i : Int) ∧ (i : Int) < (m.types.length : Int)) ((g_ref08_kind (m.types.getD ((i : Int)).toNat default).result true).bind fun x45 => some x45) else some false) = some (b && decide (K3 (m.types.getD ((i : Int)).toNat default).result)) := by
        rw [gd_of (by omega), kind3_eq]
        cases b <;> rfl
      have e2 : ((if b = true then gd (0 ≤ (i : Int) ∧ (i : Int) < (m.types.length : Int)) ((g_ref08_kind (m.types.getD ((i : Int)).toNat default).result true).bind fun x45 => some x45) else some false).bind fun j47 => g_ref08_kinds_l4 K m (i : Int) j47 0) = some (b && kT (m.types.getD ((i : Int)).toNat default)) := by
        rw [e, Option.bind_some]
        have := rkinds_l4 z i h K 0 (b && decide (K3 (m.types.getD ((i : Int)).toNat default).result)) (Nat.zero_le _) (by omega)
        rw [show ((0 : Nat) : Int) = 0 from rfl] at this
        rw [this, List.drop_zero, Bool.and_assoc]; rfl
      refine (congrArg (fun o => Option.bind o _) e2).trans ?_
      rw [Option.bind_some, wI_nat i (by omega), ih (i + 1) _ h (by omega), Bool.and_assoc]
    · rw [if_neg (dltF h), List.drop_of_length_le (by omega)]
      simp
theorem rkinds_l2 {S : Nat} {m : Mdl} (z : MSz S m) (a : Nat) (ha : a < m.funcs.length) : ∀ (k i : Nat) (b : Bool), i ≤ (m.funcs.getD ((a : Int)).toNat default).locals.length → (m.funcs.getD ((a : Int)).toNat default).locals.length - i < k →
    g_ref08_kinds_l2 k m (a : Int) b (i : Int) = some (b && ((m.funcs.getD ((a : Int)).toNat default).locals.drop i).all fun x => decide (K2 x)) := by
  intro k
  have s1 := z.S0; have s4 := z.fnc _ (getD_mem m.funcs a ha)
  induction k with
  | zero => intro i b _ h; omega
  | succ k ih =>
    intro i b h1 h2
    simp only [g_ref08_kinds_l2]
    rw [gd_of (by omega)]
    by_cases h : i < (m.funcs.getD ((a : Int)).toNat default).locals.length
    · rw [if_pos (dltT h), dropS _ i h, List.all_cons]
      have e : (if b = true then gd (0 ≤ (a : Int) ∧ (a : Int) < (m.funcs.length : Int)) (gd (0 ≤ (i : Int) ∧ (i : Int) < ((m.funcs.getD ((a : Int)).toNat default).locals.length : Int)) ((g_ref08_kind ((m.funcs.getD ((a : Int)).toNat default).locals.getD ((i : Int)).toNat default) false).bind fun x55 => some x55)) else some false) = some (b && decide (K2 ((m.funcs.getD ((a : Int)).toNat default).locals.getD ((i : Int)).toNat default))) := by
        rw [gd_of (by omega), gd_of (by omega), kind_eq]
        cases b <;> rfl
      refine (congrArg (fun o => Option.bind o _) e).trans ?_
      rw [Option.bind_some, wI_nat i (by omega), ih (i + 1) _ h (by omega), Bool.and_assoc]
    · rw [if_neg (dltF h), List.drop_of_length_le (by omega)]
      simp
theorem rkinds_l1 {S K : Nat} {m : Mdl} (z : MSz S m) (hK : S ≤ K) : ∀ (k i : Nat) (b : Bool), i ≤ m.funcs.length → m.funcs.length - i < k → g_ref08_kinds_l1 k K m b (i : Int) = some (b && (m.funcs.drop i).all kF) := by
  intro k
  have s1 := z.S0; have s2 := z.funcs
  induction k with
  | zero => intro i b _ h; omega
  | succ k ih =>
    intro i b h1 h2
    simp only [g_ref08_kinds_l1]
    by_cases h : i < m.funcs.length
    · have s4 := z.fnc _ (getD_mem m.funcs i h)
      have := rkinds_l2 z i h K 0 b (Nat.zero_le _) (by omega)
      rw [show ((0 : Nat) : Int) = 0 from rfl] at this
      rw [if_pos (dltT h), dropS _ i h, List.all_cons, this, Option.bind_some, wI_nat i (by omega), ih (i + 1) _ h (by omega), Bool.and_assoc, List.drop_zero]
      rfl
    · rw [if_neg (dltF h), List.drop_of_length_le (by omega)]
      simp
theorem rkinds_l0 {S : Nat} {m : Mdl} (z : MSz S m) : ∀ (k i : Nat) (b : Bool), i ≤ m.globals.length → m.globals.length - i < k → g_ref08_kinds_l0 k m b (i : Int) = some (b && (m.globals.drop i).all kG) := by
  intro k
  have s1 := z.S0; have s2 := z.globals
  induction k with
  | zero => intro i b _ h; omega
  | succ k ih =>
    intro i b h1 h2
    simp only [g_ref08_kinds_l0]
    by_cases h : i < m.globals.length
    · rw [if_pos (dltT h), dropS _ i h, List.all_cons]
      have e : (if b = true then gd (0 ≤ (i : Int) ∧ (i : Int) < (m.globals.length : Int)) ((g_ref08_kind (m.globals.getD ((i : Int)).toNat default).kind false).bind fun x45 => some x45) else some false) = some (b && kG (m.globals.getD ((i : Int)).toNat default)) := by
        rw [gd_of (by omega), kind_eq]
        cases b <;> rfl
      refine (congrArg (fun o => Option.bind o _) e).trans ?_
      rw [Option.bind_some, wI_nat i (by omega), ih (i + 1) _ h (by omega), Bool.and_assoc]
    · rw [if_neg (dltF h), List.drop_of_length_le (by omega)]
      simp
theorem rkinds {S K : Nat} {m : Mdl} (z : MSz S m) (hK : S ≤ K) : g_ref08_kinds K m = some (kindsB m) := by
  have s2 := z.types; have s3 := z.funcs; have s4 := z.globals
  unfold g_ref08_kinds
  have e3 := rkinds_l3 z hK K 0 true (Nat.zero_le _) (by omega)
  have e1 := rkinds_l1 z hK K 0 (true && (m.types.drop 0).all kT) (Nat.zero_le _) (by omega)
  have e0 := rkinds_l0 z K 0 ((true && (m.types.drop 0).all kT) && (m.funcs.drop 0).all kF) (Nat.zero_le _) (by omega)
  rw [show ((0 : Nat) : Int) = 0 from rfl] at e3 e1 e0
  rw [e3, Option.bind_some, e1, Option.bind_some, e0, Option.bind_some]
  simp only [List.drop_zero, Bool.true_and, kindsB, Bool.and_assoc]

theorem concat2 (K : Nat) (hK : 3 ≤ K) (a b : List Int) (ha : a.length < 1000000000) (hb : b.length < 1000000000) : g_slices_Concat_api_Kind_api_Kind K [a, b] = some (a ++ b) := by
  obtain ⟨k, rfl⟩ : ∃ k, K = k + 3 := ⟨K - 3, by omega⟩
  have w0 : wI (0 + 1) = 1 := by decide
  have w1 : wI (1 + 1) = 2 := by decide
  have q1 : wI (0 + (a.length : Int)) = (a.length : Int) := by rw [wI_small (by omega) (by omega)]; omega
  have q2 : wI ((a.length : Int) + (b.length : Int)) = (a.length : Int) + (b.length : Int) := wI_small (by omega) (by omega)
  have l1 : g_slices_Concat_api_Kind_api_Kind_l1 (k + 3) [a, b] 0 0 = some ((a.length : Int) + (b.length : Int)) := by
    simp only [g_slices_Concat_api_Kind_api_Kind_l1]
    show (if decide ((0 : Int) < 2) = true then (gd (0 ≤ (0 : Int) ∧ (0 : Int) < 2) (if decide (wI (0 + (a.length : Int)) < 0) = true then none else some ())).bind _ else _) = _
    rw [if_pos (by decide), gd_of (by decide), q1, if_neg (by simp <;> omega), Option.bind_some, w0]
    show (if decide ((1 : Int) < 2) = true then (gd (0 ≤ (1 : Int) ∧ (1 : Int) < 2) (if decide (wI (wI (0 + (a.length : Int)) + (b.length : Int)) < 0) = true then none else some ())).bind _ else _) = _
    rw [if_pos (by decide), gd_of (by decide), q1, q2, if_neg (by simp <;> omega), Option.bind_some, w1]
    show (if decide ((2 : Int) < 2) = true then _ else some (wI (wI (0 + (a.length : Int)) + (b.length : Int)))) = _
    rw [if_neg (by decide), q1, q2]
  have l0 : g_slices_Concat_api_Kind_api_Kind_l0 (k + 3) [a, b] [] 0 = some (a ++ b) := by
    simp only [g_slices_Concat_api_Kind_api_Kind_l0]
    show (if decide ((0 : Int) < 2) = true then (gd (0 ≤ (0 : Int) ∧ (0 : Int) < 2) (gd ((0 + a.length) * 1 ≤ 140737488355328) _)) else _) = _
    rw [if_pos (by decide), gd_of (by decide), gd_of (by omega), w0]
    show (if decide ((1 : Int) < 2) = true then (gd (0 ≤ (1 : Int) ∧ (1 : Int) < 2) (gd ((a.length + b.length) * 1 ≤ 140737488355328) _)) else _) = _
    rw [if_pos (by decide), gd_of (by decide), gd_of (by omega), w1]
    rfl
  unfold g_slices_Concat_api_Kind_api_Kind
  rw [l1, Option.bind_some, gd_of (by omega), l0]
  rfl

/-- One body: both answer alike. -/
theorem body_said {S K : Nat} {m : Mdl} (z : MSz S m) (f : Int) (hI : ∀ fn ∈ m.funcs, IWL fn.body ∧ wtL fn.body + S + 600 ≤ K ∧ 0 ≤ fn.type_) (hK : S + 600 ≤ K) (hK2 : K < 1000000000) :
    ∃ e mo, g_valid_Body K m f = some e ∧ g_valid_Height K m f = some (mo, e) ∧ g_ref08_Body K m f = some (e.getD 0, mo) := by
  have s1 := z.S0; have s2 := z.types; have s3 := z.funcs
  have main : ∃ (c : Option Checker) (e : Option Int) (mo : Int), g_valid_check K m f = some (c, e) ∧ ((e.isNone = false ∧ mo = 0) ∨ (e = none ∧ ∃ c', c = some c' ∧ c'.most = mo)) ∧ g_ref08_Body K m f = some (e.getD 0, mo) := by
    unfold g_valid_check g_ref08_Body
    rw [vkinds z (by omega), rkinds z (by omega), Option.bind_some]
    by_cases hf : inb f m.funcs.length
    rotate_left
    · have : (if (decide (f < (0 : Int))) = true then some true else (if (decide (f ≥ (m.funcs.length : Int))) = true then some true else gd (0 ≤ f ∧ f < (m.funcs.length : Int)) ((if (decide ((((m.funcs.getD f.toNat default)).type_) ≥ (IntKind.wrap .u32 (m.types.length : Int)))) = true then some true else some (!kindsB m))))) = some true := by
        by_cases h0 : f < 0
        · rw [if_pos (by simpa using h0)]
        · rw [if_neg (by simpa using h0), if_pos (by unfold inb at hf; simp; omega)]
      rw [this, Option.bind_some, Option.bind_some, if_pos rfl, if_pos rfl]
      exact ⟨_, _, _, rfl, .inl ⟨rfl, rfl⟩, rfl⟩
    have hf' := hf
    unfold inb at hf'
    have hm := getD_memI hf
    obtain ⟨hw, hwt, hty⟩ := hI _ hm
    have s5 := z.fnc _ hm
    have eu : IntKind.wrap .u32 (m.types.length : Int) = (m.types.length : Int) := by rw [IntKind.wrap_u32]; omega
    rw [if_neg (by simp; omega), if_neg (by simp; omega), gdI hf, eu]
    by_cases ht : (m.funcs.getD f.toNat default).type_ ≥ (m.types.length : Int)
    · rw [if_pos (by simpa using ht), Option.bind_some, Option.bind_some, if_pos rfl, if_pos rfl]
      exact ⟨_, _, _, rfl, .inl ⟨rfl, rfl⟩, rfl⟩
    rw [if_neg (by simpa using ht), Option.bind_some, Option.bind_some]
    cases hk : kindsB m with
    | false =>
      rw [if_pos (by rfl), if_pos (by rfl)]
      exact ⟨_, _, _, rfl, .inl ⟨rfl, rfl⟩, rfl⟩
    | true =>
    rw [if_neg (by decide), if_neg (by decide)]
    by_cases ht0 : 0 ≤ (m.funcs.getD f.toNat default).type_
    rotate_left
    · exact absurd hty ht0
    have hti : inb (m.funcs.getD f.toNat default).type_ m.types.length := ⟨ht0, by omega⟩
    have hmt := getD_memI hti
    have s6 := z.typ _ hmt
    unfold kindsB at hk
    simp only [Bool.and_eq_true, List.all_eq_true] at hk
    obtain ⟨k1, k2, k3⟩ := hk
    have kt : ∀ t ∈ m.types, TOk (S + 10) t := fun t h => by
      have := k1 t h
      unfold kT at this
      simp only [Bool.and_eq_true, List.all_eq_true, decide_eq_true_eq] at this
      exact ⟨this.2, this.1, by have := z.typ t h; omega⟩
    have o : COk (Ctx.mk m (m.types.getD (m.funcs.getD f.toNat default).type_.toNat default) ((m.types.getD (m.funcs.getD f.toNat default).type_.toNat default).params ++ (m.funcs.getD f.toNat default).locals) [] [] [(m.types.getD (m.funcs.getD f.toNat default).type_.toNat default).result]) (S + 10) :=
      ⟨kt, fun g h => by have := k3 g h; unfold kG at this; exact of_decide_eq_true this, fun x hx => by
        rcases List.mem_append.1 hx with hx | hx
        · exact (kt _ hmt).1 x hx
        · have := k2 _ hm
          unfold kF at this
          rw [List.all_eq_true] at this
          exact of_decide_eq_true (this x hx), fun x hx => by
        obtain rfl : x = (m.types.getD (m.funcs.getD f.toNat default).type_.toNat default).result := by simpa using hx
        exact (kt _ hmt).2.1, (kt _ hmt).2.1, by omega, by omega⟩
    have hwl := wtL_pos (m.funcs.getD f.toNat default).body
    have s0 : Sim (Ctx.mk m (m.types.getD (m.funcs.getD f.toNat default).type_.toNat default) ((m.types.getD (m.funcs.getD f.toNat default).type_.toNat default).params ++ (m.funcs.getD f.toNat default).locals) [] [] [(m.types.getD (m.funcs.getD f.toNat default).type_.toNat default).result]) 0
        (Checker.mk m (m.types.getD (m.funcs.getD f.toNat default).type_.toNat default) ((m.types.getD (m.funcs.getD f.toNat default).type_.toNat default).params ++ (m.funcs.getD f.toNat default).locals) [] [Frame.mk 0 false false] [(m.types.getD (m.funcs.getD f.toNat default).type_.toNat default).result] 0 false) (St8.mk [] 0 false false 0 true) :=
      .inl ⟨[], false, false, 0, (fun x hx => by cases hx), Nat.le_refl 0, rfl, rfl⟩
    have gg : ∀ N, N < 999999999999 → Gd (Ctx.mk m (m.types.getD (m.funcs.getD f.toNat default).type_.toNat default) ((m.types.getD (m.funcs.getD f.toNat default).type_.toNat default).params ++ (m.funcs.getD f.toNat default).locals) [] [] [(m.types.getD (m.funcs.getD f.toNat default).type_.toNat default).result]) N := fun N h =>
      ⟨by show 0 + N < _; omega, (by decide : 0 < 1000000000), (by decide : 1 < 1000000000)⟩
    obtain ⟨c1, r1, e1, e2, h1⟩ := sim_list K _ 0 (S + 10) _ _ (m.funcs.getD f.toNat default).body o hw (by omega) (by omega) (gg _ (by omega)) (by show 0 + _ < _; omega) (by show 1 + _ < _; omega) s0
    obtain ⟨v, c2, v', r2, e3, e4, h2, _⟩ := sim_take (gg _ (by omega)) h1 (Vk.of3 (kt _ hmt).2.1)
    have e2' : g_ref08_list K (Env8.mk m (m.types.getD (m.funcs.getD f.toNat default).type_.toNat default).result ((m.types.getD (m.funcs.getD f.toNat default).type_.toNat default).params ++ (m.funcs.getD f.toNat default).locals) [(m.types.getD (m.funcs.getD f.toNat default).type_.toNat default).result]) (St8.mk [] 0 false false 0 true) (m.funcs.getD f.toNat default).body = some r1 := e2
    rw [gdI hf, gdI hti, gdI hf, concat2 K (by omega) _ _ (by omega) (by omega), Option.bind_some, gdI hf, e1, Option.bind_some, e3, Option.bind_some]
    rw [gdI hf, gdI hti, gd_of (by omega), gdI hf, gd_of (by omega), gdI hf, e2', Option.bind_some, e4, Option.bind_some]
    rcases h2 with ⟨l, aw, dd, mo, q1, q2, rfl, rfl⟩ | ⟨⟨l, aw, dd, mo, q1, rfl⟩, q2, q3⟩
    · by_cases hl : l.length = 0
      · have : l = [] := List.length_eq_zero_iff.1 hl
        subst this
        exact ⟨_, none, mo, rfl, .inr ⟨rfl, _, rfl, rfl⟩, rfl⟩
      · refine ⟨none, some 7, 0, ?_, .inl ⟨rfl, rfl⟩, ?_⟩
        · rw [if_pos ?_]
          show (false || decide ((([] ++ l.map fk : List Int).length : Int) > 0)) = true
          rw [Bool.false_or]
          exact decide_eq_true (by simp; omega)
        · rw [if_pos ?_]; rfl
          show (false || decide ((l.length : Int) > 0)) = true
          rw [Bool.false_or]
          exact decide_eq_true (by omega)
    · refine ⟨none, some 7, 0, by rw [if_pos (by rfl)], .inl ⟨rfl, rfl⟩, ?_⟩
      rw [if_pos (by rw [q2]; rfl)]; rfl
  obtain ⟨c, e, mo, h1, h2, h3⟩ := main
  refine ⟨e, mo, ?_, ?_, h3⟩
  · unfold g_valid_Body
    rw [h1]; rfl
  · unfold g_valid_Height
    rw [h1, Option.bind_some]
    rcases h2 with ⟨a, rfl⟩ | ⟨rfl, c', rfl, rfl⟩
    · rw [if_pos (by rw [a]; rfl)]
    · rfl
end Go.Proofs.YtablleokoifolaaGreatDoor

/- The law ValidBodies of the plain functions. -/
set_option linter.unusedVariables false
set_option linter.unusedSimpArgs false
set_option maxRecDepth 100000
namespace Go.Proofs.YtablleokoifolaaGreatDoor
open Go

theorem cc_tot : ∀ (K : Nat) (l : List Instr) (p1 p2 : Int), wtL l < K → wtL l < 1000000000 → ∃ v, g_law08_countCode K l p1 p2 = some v := by
  intro K
  induction K with
  | zero => intro l _ _ h; omega
  | succ k ih =>
    intro l p1 p2 h hs
    have hw := wtL_pos l
    simp only [g_law08_countCode]
    rw [Option.bind_fun_some]
    split
    · exact ⟨_, rfl⟩
    have key : ∀ (q i : Nat) (n : Int), i ≤ l.length → l.length - i < q → ∃ v, lpN q (fun (rec6 : Int × Int → Option (Int)) v => match v with | (a4, a5) => (if ((decide (a5 < (l.length : Int))) && (decide (a4 < p1))) = true then gd (0 ≤ a5 ∧ a5 < (l.length : Int)) (gd (0 ≤ a5 ∧ a5 < (l.length : Int)) (((g_law08_countCode k (((l.getD a5.toNat default)).body) p1 (wI (p2 + 1))).bind fun x9 => gd (0 ≤ a5 ∧ a5 < (l.length : Int)) (((g_law08_countCode k (((l.getD a5.toNat default)).els) p1 (wI (p2 + 1))).bind fun x12 => rec6 ((wI ((wI ((wI (a4 + (mnI ((((l.getD a5.toNat default)).labels).length : Int) p1))) + x9)) + x12)), (wI (a5 + 1)))))))) else some a4)) (n, (i : Int)) = some v := by
      intro q
      induction q with
      | zero => intro i n _ h; omega
      | succ q ihq =>
        intro i n h1 h2
        simp only [lpN]
        by_cases h : i < l.length
        · by_cases hn : n < p1
          · have hm := getD_mem l i h
            have hx := wtL_mem hm
            rw [wtI_eq] at hx
            rw [if_pos (by rw [dltT h, decide_eq_true hn]; rfl), gd_of (by omega), gd_of (by omega)]
            obtain ⟨v1, e1⟩ := ih (l.getD ((i : Int)).toNat default).body p1 (wI (p2 + 1)) (by omega) (by omega)
            obtain ⟨v2, e2⟩ := ih (l.getD ((i : Int)).toNat default).els p1 (wI (p2 + 1)) (by omega) (by omega)
            rw [e1, Option.bind_some, gd_of (by omega), e2, Option.bind_some, wI_nat i (by omega)]
            exact ihq (i + 1) _ h (by omega)
          · rw [if_neg (by rw [decide_eq_false hn, Bool.and_false]; decide)]
            exact ⟨_, rfl⟩
        · rw [if_neg (by rw [Bool.and_eq_true]; intro hh; exact dltF h hh.1)]
          exact ⟨_, rfl⟩
    exact key k 0 _ (Nat.zero_le _) (by omega)

theorem bm_l5 {K : Nat} {m : Mdl} (o : GvOk K m) : ∀ k (i : Nat) (n : Int), i ≤ m.types.length → m.types.length - i < k → ∃ v, g_law08_bigModule_l5 k m n (i : Int) = some v := by
  intro k
  have := o.K0; have := o.types
  induction k with
  | zero => intro i _ _ h; omega
  | succ k ih =>
    intro i n h1 h2
    simp only [g_law08_bigModule_l5]
    by_cases h : i < m.types.length
    · rw [if_pos (dltT h), gd_of (by omega), wI_nat i (by omega)]
      exact ih (i + 1) _ h (by omega)
    · rw [if_neg (dltF h)]; exact ⟨_, rfl⟩
theorem bm_l4 {K : Nat} {m : Mdl} (o : GvOk K m) : ∀ k (i : Nat) (n : Int), i ≤ m.funcs.length → m.funcs.length - i < k → ∃ v, g_law08_bigModule_l4 k K m n (i : Int) = some v := by
  intro k
  have := o.K0; have := o.funcs
  induction k with
  | zero => intro i _ _ h; omega
  | succ k ih =>
    intro i n h1 h2
    simp only [g_law08_bigModule_l4]
    by_cases h : i < m.funcs.length
    · have hf := (o.fnc _ (getD_mem m.funcs i h)).2
      obtain ⟨v, e⟩ := cc_tot K (m.funcs.getD ((i : Int)).toNat default).body 3000 0 hf (by omega)
      rw [if_pos (dltT h), gd_of (by omega), gd_of (by omega), e, Option.bind_some, wI_nat i (by omega)]
      exact ih (i + 1) _ h (by omega)
    · rw [if_neg (dltF h)]; exact ⟨_, rfl⟩
theorem bm_l3 {K : Nat} {m : Mdl} (o : GvOk K m) : ∀ k (i : Nat) (n : Int), i ≤ m.exports.length → m.exports.length - i < k → ∃ v, g_law08_bigModule_l3 k m n (i : Int) = some v := by
  intro k
  have := o.K0; have := o.exports
  induction k with
  | zero => intro i _ _ h; omega
  | succ k ih =>
    intro i n h1 h2
    simp only [g_law08_bigModule_l3]
    by_cases h : i < m.exports.length
    · rw [if_pos (dltT h), gd_of (by omega), wI_nat i (by omega)]
      exact ih (i + 1) _ h (by omega)
    · rw [if_neg (dltF h)]; exact ⟨_, rfl⟩
theorem wt1 (x : Instr) : wtL [x] = wtI x + 1 := by simp [wtL]
theorem bm_l2 {K : Nat} {m : Mdl} (o : GvOk K m) : ∀ k (i : Nat) (n : Int), i ≤ m.elems.length → m.elems.length - i < k → ∃ v, g_law08_bigModule_l2 k K m n (i : Int) = some v := by
  intro k
  have := o.K0; have := o.elems
  induction k with
  | zero => intro i _ _ h; omega
  | succ k ih =>
    intro i n h1 h2
    simp only [g_law08_bigModule_l2]
    by_cases h : i < m.elems.length
    · have hf := o.ele _ (getD_mem m.elems i h)
      obtain ⟨v, e⟩ := cc_tot K [(m.elems.getD ((i : Int)).toNat default).offset] 3000 0 (by rw [wt1]; omega) (by rw [wt1]; omega)
      rw [if_pos (dltT h), gd_of (by omega), gd_of (by omega), e, Option.bind_some, wI_nat i (by omega)]
      exact ih (i + 1) _ h (by omega)
    · rw [if_neg (dltF h)]; exact ⟨_, rfl⟩
theorem bm_l1 {K : Nat} {m : Mdl} (o : GvOk K m) : ∀ k (i : Nat) (n : Int), i ≤ m.datas.length → m.datas.length - i < k → ∃ v, g_law08_bigModule_l1 k K m n (i : Int) = some v := by
  intro k
  have := o.K0; have := o.datas
  induction k with
  | zero => intro i _ _ h; omega
  | succ k ih =>
    intro i n h1 h2
    simp only [g_law08_bigModule_l1]
    by_cases h : i < m.datas.length
    · have hf := o.dat _ (getD_mem m.datas i h)
      obtain ⟨v, e⟩ := cc_tot K [(m.datas.getD ((i : Int)).toNat default).offset] 3000 0 (by rw [wt1]; omega) (by rw [wt1]; omega)
      rw [if_pos (dltT h), gd_of (by omega), gd_of (by omega), e, Option.bind_some, wI_nat i (by omega)]
      exact ih (i + 1) _ h (by omega)
    · rw [if_neg (dltF h)]; exact ⟨_, rfl⟩
theorem bm_l0 {K : Nat} {m : Mdl} (o : GvOk K m) : ∀ k (i : Nat) (n : Int), i ≤ m.globals.length → m.globals.length - i < k → ∃ v, g_law08_bigModule_l0 k K m n (i : Int) = some v := by
  intro k
  have := o.K0; have := o.globals
  induction k with
  | zero => intro i _ _ h; omega
  | succ k ih =>
    intro i n h1 h2
    simp only [g_law08_bigModule_l0]
    by_cases h : i < m.globals.length
    · have hf := o.glo _ (getD_mem m.globals i h)
      obtain ⟨v, e⟩ := cc_tot K [(m.globals.getD ((i : Int)).toNat default).init_] 3000 0 (by rw [wt1]; omega) (by rw [wt1]; omega)
      rw [if_pos (dltT h), gd_of (by omega), e, Option.bind_some, wI_nat i (by omega)]
      exact ih (i + 1) _ h (by omega)
    · rw [if_neg (dltF h)]; exact ⟨_, rfl⟩
theorem bm_tot {K : Nat} {m : Mdl} (o : GvOk K m) : ∃ b, g_law08_bigModule K m = some b := by
  unfold g_law08_bigModule
  split
  · exact ⟨_, rfl⟩
  obtain ⟨v5, e5⟩ := bm_l5 o K 0 0 (Nat.zero_le _) (by have := o.types; omega)
  obtain ⟨v4, e4⟩ := bm_l4 o K 0 v5 (Nat.zero_le _) (by have := o.funcs; omega)
  obtain ⟨v3, e3⟩ := bm_l3 o K 0 v4 (Nat.zero_le _) (by have := o.exports; omega)
  obtain ⟨v2, e2⟩ := bm_l2 o K 0 v3 (Nat.zero_le _) (by have := o.elems; omega)
  obtain ⟨v1, e1⟩ := bm_l1 o K 0 v2 (Nat.zero_le _) (by have := o.datas; omega)
  obtain ⟨v0, e0⟩ := bm_l0 o K 0 v1 (Nat.zero_le _) (by have := o.globals; omega)
  rw [show ((0 : Nat) : Int) = 0 from rfl] at e5 e4 e3 e2 e1 e0
  rw [e5, Option.bind_some, e4, Option.bind_some, e3, Option.bind_some, e2, Option.bind_some, e1, Option.bind_some, e0, Option.bind_some]
  exact ⟨_, rfl⟩

theorem scM_gvK {K : Nat} (hK : 1000 ≤ K) (hK2 : K < 1000000000) (ps : List Int) (r : Int) (b : List Instr) (hp : ps.length < K) (hb : wtL b < K) : GvOk K (scM ps r b) := by
  refine ⟨hK2, by show 3 < K; omega, ?_, by show 3 < K; omega, ?_, by show 1 < K; omega, by show 1 < K; omega, by show 2 < K; omega, ?_, by show 0 < K; omega, by show 0 < K; omega, fun e h => (by cases h), by show 0 < K; omega, fun e h => (by cases h)⟩
  · intro t ht
    rcases List.mem_cons.1 ht with rfl | ht
    · exact hp
    rcases List.mem_cons.1 ht with rfl | ht
    · show 1 < K; omega
    rcases List.mem_cons.1 ht with rfl | ht
    · show 0 < K; omega
    cases ht
  · intro t ht
    rcases List.mem_cons.1 ht with rfl | ht
    · exact ⟨by show 2 < K; omega, hb⟩
    rcases List.mem_cons.1 ht with rfl | ht
    · exact ⟨by show 0 < K; omega, Nat.lt_of_lt_of_le (by decide : wtL [Instr.mk 66 0 0 0 0 [] [] []] < 1000) hK⟩
    rcases List.mem_cons.1 ht with rfl | ht
    · exact ⟨by show 0 < K; omega, Nat.lt_of_lt_of_le (by decide : wtL [] < 1000) hK⟩
    cases ht
  · intro t ht
    rcases List.mem_cons.1 ht with rfl | ht
    · exact Nat.lt_of_lt_of_le (by decide : wtI (Instr.mk 65 0 0 0 0 [] [] []) + 1 < 1000) hK
    rcases List.mem_cons.1 ht with rfl | ht
    · exact Nat.lt_of_lt_of_le (by decide : wtI (Instr.mk 66 0 0 0 0 [] [] []) + 1 < 1000) hK
    cases ht
theorem scM_sz {S : Nat} (hS : 10 ≤ S) (hS2 : S < 1000000000) (ps : List Int) (r : Int) (b : List Instr) (hp : ps.length < S) : MSz S (scM ps r b) := by
  refine ⟨hS2, by show 3 < S; omega, ?_, by show 3 < S; omega, ?_, by show 2 < S; omega⟩
  · intro t ht
    rcases List.mem_cons.1 ht with rfl | ht
    · exact hp
    rcases List.mem_cons.1 ht with rfl | ht
    · show 1 < S; omega
    rcases List.mem_cons.1 ht with rfl | ht
    · show 0 < S; omega
    cases ht
  · intro t ht
    rcases List.mem_cons.1 ht with rfl | ht
    · show 2 < S; omega
    rcases List.mem_cons.1 ht with rfl | ht
    · show 0 < S; omega
    rcases List.mem_cons.1 ht with rfl | ht
    · show 0 < S; omega
    cases ht

theorem num_eq (e : Option Int) : g_law08_num e = some (e.getD 0) := rfl

theorem bodies_true (ps : List Int) (r : Int) (b : List Instr) (S K : Nat) (hw : IWL b) (hp : ps.length < S) (hS : 100 ≤ S) (hb : wtL b + S + 1000 ≤ K) (hK : K < 1000000000) : g_law08_ValidBodies K ps r b = some true := by
  have gv : GvOk K (scM ps r b) := scM_gvK (by omega) hK ps r b (by omega) (by omega)
  unfold g_law08_ValidBodies
  obtain ⟨bg, e1⟩ := bm_tot gv
  rw [scM_eq, Option.bind_some, e1, Option.bind_some]
  cases bg with
  | true => rfl
  | false =>
    rw [if_neg (by decide), giveModule_id gv, Option.bind_some]
    have hI : ∀ fn ∈ (scM ps r b).funcs, IWL fn.body ∧ wtL fn.body + S + 600 ≤ K ∧ 0 ≤ fn.type_ := by
      intro t ht
      rcases List.mem_cons.1 ht with rfl | ht
      · exact ⟨hw, by show wtL b + S + 600 ≤ K; omega, Int.le_refl 0⟩
      rcases List.mem_cons.1 ht with rfl | ht
      · refine ⟨by simp [IWL, IWI], ?_, by show (0 : Int) ≤ 1; decide⟩
        have : wtL [Instr.mk 66 0 0 0 0 [] [] []] = 6 := by decide
        show wtL [Instr.mk 66 0 0 0 0 [] [] []] + S + 600 ≤ K
        omega
      rcases List.mem_cons.1 ht with rfl | ht
      · refine ⟨by simp [IWL], ?_, by show (0 : Int) ≤ 2; decide⟩
        have : wtL [] = 1 := by decide
        show wtL [] + S + 600 ≤ K
        omega
      cases ht
    obtain ⟨e, mo, h1, h2, h3⟩ := body_said (scM_sz (by omega) (by omega) ps r b hp) 0 hI (by omega) hK
    rw [h2, Option.bind_some, h3, Option.bind_some, num_eq, Option.bind_some]
    show ((if (e.getD 0 == e.getD 0) = true then (if (mo == mo) = true then _ else some false) else some false).bind fun j21 => some j21) = some true
    rw [if_pos (by simp), if_pos (by simp), h1, Option.bind_some, num_eq, Option.bind_some]
    show ((if (e.getD 0 == e.getD 0) = true then _ else some false).bind fun j21 => some j21) = some true
    rw [if_pos (by simp)]
    rfl
end Go.Proofs.YtablleokoifolaaGreatDoor

/- From the row's reading of the arguments to frozen data; readings stay where the blocks stay. -/
set_option linter.unusedVariables false
set_option linter.unusedSimpArgs false
namespace Go.Proofs.YtablleokoifolaaGreatDoor
open Go Go.ChangeShapes Go.RowKit Go.Deep

section
variable {H : Type} {enc : TypeId × Value → H} {E : Env} {W : World}

/-- Blocks of a world. -/
def old (W : World) (b : Nat) : Prop := b < W.heap.size

/-- What reads by this type is data told so. -/
def Rd (enc : TypeId × Value → H) (E : Env) (W : World) {α : Type} (t : TypeId) (en : α → List FV) (wf : α → Prop) (n : Nat) : Prop :=
  ∀ (base : Nat) (sp : Nat → Bool) (hd : Bool) (cs : List Value) (x : DataW H × List MemPlace), DataW.trod enc E.P W base sp hd n t cs = some x →
    ∃ a, wf a ∧ cs.length = (en a).length ∧ ∀ j, j < cs.length → RVF E W.heap (old W) (toA ((en a).getD j .undef)) (cs.getD j Go.undef)

theorem rdr_bool {t : TypeId} (ht : E.P.underlying t = some .bool) (n : Nat) : Rd enc E W t (fun b : Bool => [.bool b]) (fun _ => True) n := by
  intro base sp hd cs x h
  obtain ⟨b, rfl, _⟩ := DataW.trod_bool ht h
  refine ⟨b, trivial, rfl, fun j hj => ?_⟩
  obtain rfl : j = 0 := by simp at hj; omega
  exact .bool b
theorem rdr_int {t : TypeId} {k : IntKind} (ht : E.P.underlying t = some (.int k)) (n : Nat) : Rd enc E W t (eI k) (fun x => (Lit.int k x).wf = true) n := by
  intro base sp hd cs x h
  obtain ⟨b, rfl, _, hw⟩ := DataW.trod_int ht h
  refine ⟨b, hw, rfl, fun j hj => ?_⟩
  obtain rfl : j = 0 := by simp at hj; omega
  exact .int k b

theorem toA_sV {α : Type} [Inhabited α] (en : α → List FV) (l : List α) : toA (sV en l) = .slv ((List.range l.length).map fun i => (en (l.getD i default)).map toA) := by
  simp only [sV, toA, fl, toAL_map]

theorem rdr_slice {α : Type} [Inhabited α] {t e : TypeId} {en : α → List FV} {wf : α → Prop} (ht : E.P.underlying t = some (.slice e)) (hs : 0 < E.P.cellsOf e)
    (hsz : ∀ a, (en a).length = E.P.cellsOf e) (hk : ∀ a, ∀ v ∈ en a, cellOk (toA v) = true) (h : ∀ n, Rd enc E W e en wf n) (n : Nat) :
    Rd enc E W t (fun l : List α => [sV en l]) (fun l => (∀ a ∈ l, wf a) ∧ l.length ≤ maxLen) n := by
  intro base sp hd cs x hx
  rcases open_slice ht hx with ⟨rfl, _⟩ | ⟨a, len, cap, m, n', D, Pl, rfl, hb, hl, hm, hmm, _, hel⟩
  · refine ⟨[], ⟨fun a h => (by cases h), Nat.zero_le _⟩, rfl, fun j hj => ?_⟩
    obtain rfl : j = 0 := by simp at hj; omega
    exact .slv0 none 0
  · have hlm : len ≤ m := by rw [hmm]; split <;> omega
    have key : ∀ i, i < len → ∃ (b : α) (cs' : List Value), wf b ∧ E.P.cellsOf e = cs'.length ∧ cs'.length = (en b).length ∧ (∀ j, j < cs'.length → W.cell? ((a.add (i * E.P.cellsOf e)).add j) = some (cs'.getD j Go.undef)) ∧
        ∀ j, j < cs'.length → RVF E W.heap (old W) (toA ((en b).getD j .undef)) (cs'.getD j Go.undef) := by
      intro i hi
      obtain ⟨cs', h1, h2⟩ := hel i (by omega)
      obtain ⟨_, hlen, hc⟩ := World.cells?_some h1
      obtain ⟨b, w1, w2, w3⟩ := h n' base sp hd cs' _ h2
      refine ⟨b, cs', w1, hlen.symm, w2, fun j hj => ?_, w3⟩
      have := hc j (by omega)
      simpa [List.getD_eq_getElem?_getD, hj] using this
    obtain ⟨B, hB⟩ := choose_lt (α := α) (p := fun i b => ∃ cs' : List Value, wf b ∧ E.P.cellsOf e = cs'.length ∧ cs'.length = (en b).length ∧ (∀ j, j < cs'.length → W.cell? ((a.add (i * E.P.cellsOf e)).add j) = some (cs'.getD j Go.undef)) ∧
        ∀ j, j < cs'.length → RVF E W.heap (old W) (toA ((en b).getD j .undef)) (cs'.getD j Go.undef)) key
    have hll : ((List.range len).map B).length = len := by simp
    refine ⟨(List.range len).map B, ⟨fun b hb => ?_, by rw [hll]; omega⟩, rfl, fun j hj => ?_⟩
    · obtain ⟨i, hi, rfl⟩ := List.mem_map.1 hb
      exact (hB i (List.mem_range.1 hi)).choose_spec.1
    · obtain rfl : j = 0 := by simp at hj; omega
      show RVF E W.heap (old W) (toA (sV en ((List.range len).map B))) (.slice (some a) len cap)
      rw [toA_sV, hll]
      by_cases h0 : len = 0
      · subst h0
        exact .slv0 (some a) cap
      · have hB0 := hB 0 (by omega)
        have first : ∃ C T fr, W.heap[a.block]? = some (.cells C T fr) ∧ a.spot = none := by
          obtain ⟨cs', _, hc, _, hcell, _⟩ := hB0
          have := hcell 0 (by omega)
          rw [Nat.zero_mul] at this
          have ea : (a.add 0).add 0 = a := rfl
          rw [ea] at this
          unfold World.cell? at this
          split at this
          · rename_i C T fr hh
            refine ⟨C, T, fr, hh, ?_⟩
            split at this
            · cases this
            · rename_i hsn
              cases hsp : a.spot with
              | none => rfl
              | some q => rw [hsp] at hsn; exact absurd rfl hsn
          · cases this
        obtain ⟨C, T, fr, hC, hspot⟩ := first
        obtain ⟨blk, off, spot⟩ := a
        simp only at hspot hC
        subst hspot
        have cellC : ∀ i j, i < len → j < E.P.cellsOf e → ∃ (b : α) (cs' : List Value), B i = b ∧ cs'.length = (en b).length ∧ E.P.cellsOf e = cs'.length ∧ off + i * E.P.cellsOf e + j < C.size ∧ C.getD (off + i * E.P.cellsOf e + j) Go.undef = cs'.getD j Go.undef ∧
            RVF E W.heap (old W) (toA ((en b).getD j .undef)) (cs'.getD j Go.undef) := by
          intro i j hi hj
          obtain ⟨cs', _, hc, hc2, hcell, hr⟩ := hB i hi
          have h1 := hcell j (by omega)
          rw [add_add] at h1
          have h2 : (Addr.add ⟨blk, off, none⟩ (i * E.P.cellsOf e + j)) = ⟨blk, off + (i * E.P.cellsOf e + j), none⟩ := by
            unfold Addr.add
            split
            · rename_i hz; simp [hz]
            · rfl
          rw [h2] at h1
          unfold World.cell? at h1
          simp only [hC, Option.isSome_none, Bool.false_eq_true, if_false] at h1
          have hlt : off + (i * E.P.cellsOf e + j) < C.size := (Array.getElem?_eq_some_iff.1 h1).1
          refine ⟨B i, cs', rfl, hc2, hc, by omega, ?_, hr j (by omega)⟩
          have : C.getD (off + i * E.P.cellsOf e + j) Go.undef = C.getD (off + (i * E.P.cellsOf e + j)) Go.undef := by rw [Nat.add_assoc]
          rw [this, Array.getD_eq_getD_getElem?, h1]; rfl
        have hlen2 : ((List.range len).map fun i => (en (((List.range len).map B).getD i default)).map toA).length = len := by simp
        have hget : ∀ i, i < len → ((List.range len).map fun i => (en (((List.range len).map B).getD i default)).map toA).getD i [] = (en (B i)).map toA := by
          intro i hi
          simp [List.getD_eq_getElem?_getD, hi]
        have hr := RVF.slv (E := E) (H := W.heap) (F := old W) ((List.range len).map fun i => (en (((List.range len).map B).getD i default)).map toA) blk off cap (E.P.cellsOf e) C T fr (Array.getElem?_eq_some_iff.1 hC).1 hC
          (by
            rw [hlen2]
            have := cellC (len - 1) (E.P.cellsOf e - 1) (by omega) (by omega)
            obtain ⟨_, _, _, _, _, hlt, _⟩ := this
            have e1 : len * E.P.cellsOf e = (len - 1) * E.P.cellsOf e + E.P.cellsOf e := by
              have : len = (len - 1) + 1 := by omega
              conv => lhs; rw [this, Nat.add_mul, Nat.one_mul]
            omega)
          (by rw [hlen2]; exact hl)
          (by
            rw [hlen2]
            intro i hi
            rw [hget i hi]; simp [hsz])
          (by
            rw [hlen2]
            intro i j hi hj
            rw [hget i hi]
            have hjl : j < (en (B i)).length := by rw [hsz]; exact hj
            rw [List.getD_eq_getElem?_getD, List.getElem?_map, List.getElem?_eq_getElem hjl]
            exact hk _ _ (List.getElem_mem hjl))
          (by
            rw [hlen2]
            intro i j hi hj
            rw [hget i hi]
            obtain ⟨b, cs', rfl, _, _, _, hcv, hrv⟩ := cellC i j hi hj
            rw [hcv]
            have hjl : j < (en (B i)).length := by rw [hsz]; exact hj
            rw [List.getD_eq_getElem?_getD, List.getElem?_eq_getElem hjl] at hrv
            rw [List.getD_eq_getElem?_getD, List.getElem?_map, List.getElem?_eq_getElem hjl]
            exact hrv)
        rw [hlen2] at hr
        exact hr
end
end Go.Proofs.YtablleokoifolaaGreatDoor

/- Readings stay where the blocks stay. -/
set_option linter.unusedVariables false
set_option linter.unusedSimpArgs false
namespace Go.Proofs.YtablleokoifolaaGreatDoor
open Go Go.ChangeShapes Go.RowKit Go.Deep

theorem mapM_ext {α β : Type} {f g : α → Option β} : ∀ {l : List α} {ys : List β}, l.mapM f = some ys → (∀ a, a ∈ l → ∀ y, f a = some y → y ∈ ys → g a = some y) → l.mapM g = some ys
  | [], ys, h, _ => by simpa using h
  | a :: l, ys, h, hg => by
    rw [List.mapM_cons] at h ⊢
    cases hfa : f a with
    | none => rw [hfa] at h; cases h
    | some y =>
      rw [hfa] at h
      cases hl : l.mapM f with
      | none => rw [hl] at h; cases h
      | some zs =>
        rw [hl] at h
        obtain rfl : y :: zs = ys := Option.some.inj h
        rw [hg a (by simp) y hfa (by simp), mapM_ext hl fun b hb z hz hm => hg b (by simp [hb]) z hz (by simp [hm])]
        rfl

/-- Types that are read without maps, pointers, interfaces. -/
def TyOk (P : Program) (T : TypeId → Prop) : Prop :=
  ∀ t, T t → P.underlying t = some .bool ∨ (∃ k, P.underlying t = some (.int k)) ∨ P.underlying t = some .string ∨ (∃ e, P.underlying t = some (.slice e) ∧ T e ∧ 0 < P.cellsOf e) ∨ ∃ fs, P.underlying t = some (.struct fs) ∧ ∀ f ∈ fs.toList, T f.type

section
variable {H : Type} {enc : TypeId × Value → H} {P : Program} {W W' : World}

theorem cells_ext (hs : ∀ b, b < W.heap.size → W'.heap[b]? = W.heap[b]?) {base : Nat} {a : Addr} {n : Nat} {cs : List Value} (h : W.cells? base a n = some cs) : W'.cells? base a n = some cs := by
  unfold World.cells? at h ⊢
  split
  · rename_i hb
    rw [if_pos hb] at h
    refine mapM_ext h fun i _ y hy _ => ?_
    unfold World.cell? at hy ⊢
    split at hy
    · rename_i C T fr hh
      rw [hs _ (Array.getElem?_eq_some_iff.1 hh).1, hh]
      exact hy
    · cases hy
  · rename_i hb; rw [if_neg hb] at h; exact h

theorem trod_ext {T : TypeId → Prop} (hT : TyOk P T) (hs : ∀ b, b < W.heap.size → W'.heap[b]? = W.heap[b]?) {base : Nat} {hd : Bool} {sp : Nat → Bool} : ∀ (n : Nat) (t : TypeId) (cs : List Value) (x : DataW H × List MemPlace), T t →
    DataW.trod enc P W base (fun _ => true) hd n t cs = some x → (∀ p ∈ x.2, sp p.block = true) → DataW.trod enc P W' base sp hd n t cs = some x := by
  intro n
  induction n with
  | zero => intro t cs x _ h; cases h
  | succ n ih =>
    intro t cs x ht h hp
    have sub : ∀ e, T e → ∀ (a : Addr) (m : Nat) (y : DataW H × List MemPlace), (W.cells? base a m).bind (DataW.trod enc P W base (fun _ => true) hd n e) = some y → (∀ p ∈ y.2, sp p.block = true) →
        (W'.cells? base a m).bind (DataW.trod enc P W' base sp hd n e) = some y := by
      intro e he a m y hy hyp
      obtain ⟨cs', h1, h2⟩ := Option.bind_eq_some_iff.1 hy
      rw [cells_ext hs h1]
      exact ih e cs' y he h2 hyp
    rcases hT t ht with hu | ⟨k, hu⟩ | hu | ⟨e, hu, he, hpos⟩ | ⟨fs, hu, hfs⟩
    · obtain ⟨b, rfl, rfl⟩ := DataW.trod_bool hu h
      simp [DataW.trod, hu]
    · obtain ⟨z, rfl, rfl, hw⟩ := DataW.trod_int hu h
      simp [DataW.trod, hu, hw]
    · obtain ⟨z, rfl, rfl, hw⟩ := DataW.trod_string hu h
      simp [DataW.trod, hu, hw]
    · have h0 := h
      unfold DataW.trod at h ⊢
      rw [hu] at h ⊢
      rcases DataW.trod_slice hu h0 with ⟨rfl, rfl⟩ | ⟨a, len, cap, el0, re0, n', hn, rfl, hx, hb, hl, hm, hlen, -, hsp, -⟩
      · rfl
      · simp only at h ⊢
        rw [if_pos ⟨hb, hl, hm⟩] at h ⊢
        simp only [Option.bind_eq_some_iff, Option.map_eq_some_iff, if_true] at h
        obtain ⟨elems, h1, rest, h2, h3⟩ := h
        have hsa : cap - len ≠ 0 ∨ cap - len = 0 := by omega
        have hpe : ∀ y ∈ elems ++ rest, ∀ p ∈ y.2, sp p.block = true := by
          intro y hy p hpy
          refine hp p ?_
          rw [← h3]
          exact List.mem_append_right _ (List.mem_flatMap.2 ⟨y, hy, hpy⟩)
        have e1 := mapM_ext (g := fun i => (W'.cells? base (a.add (i * P.cellsOf e)) (P.cellsOf e)).bind (DataW.trod enc P W' base sp hd n e)) h1 fun i _ y hy hm => sub e he _ _ y hy (hpe y (List.mem_append_left _ hm))
        rw [e1, Option.bind_some]
        have e2 : (if sp a.block = true then (List.range (cap - len)).mapM fun j => (W'.cells? base (a.add ((len + j) * P.cellsOf e)) (P.cellsOf e)).bind (DataW.trod enc P W' base sp hd n e) else some []) = some rest := by
          by_cases hz : cap - len = 0
          · rw [hz] at h2 ⊢
            simp only [List.range_zero, List.mapM_nil] at h2 ⊢
            split
            · exact h2
            · exact h2
          · have hr := mapM_some_length h2
            have : sp a.block = true := by
              refine hp (.cell a.block (a.off + 0)) ?_
              rw [← h3]
              refine List.mem_append_left _ (List.mem_map.2 ⟨0, List.mem_range.2 ?_, rfl⟩)
              simp only [List.length_range] at hr
              exact Nat.mul_pos (by omega) hpos
            rw [if_pos this]
            exact mapM_ext h2 fun i _ y hy hm => sub e he _ _ y hy (hpe y (List.mem_append_right _ hm))
        rw [e2, ← h3]
        rfl
    · unfold DataW.trod at h ⊢
      rw [hu] at h ⊢
      simp only at h ⊢
      split
      · rename_i hl
        rw [if_pos hl] at h
        obtain ⟨xs, h1, h2⟩ := Option.map_eq_some_iff.1 h
        have hpe : ∀ y ∈ xs, ∀ p ∈ y.2, sp p.block = true := by
          intro y hy p hpy
          refine hp p ?_
          rw [← h2]
          exact List.mem_flatMap.2 ⟨y, hy, hpy⟩
        have e1 := mapM_ext (g := fun f : Field => DataW.trod enc P W' base sp hd n f.type ((cs.drop f.offset).take (P.cellsOf f.type))) h1 fun f hf y hy hm => ih f.type _ y (hfs f hf) hy (hpe y hm)
        rw [e1, ← h2]
        rfl
      · rename_i hl
        rw [if_neg hl] at h
        cases h

theorem trodAll_ext {T : TypeId → Prop} (hT : TyOk P T) (hs : ∀ b, b < W.heap.size → W'.heap[b]? = W.heap[b]?) {base : Nat} {hd : Bool} {sp : Nat → Bool} : ∀ (ts : List TypeId) (vs : List Value) (ds : List (DataW H)) (ps : List MemPlace), (∀ t ∈ ts, T t) →
    DataW.TrodAll enc P W base (fun _ => true) hd ts vs ds ps → (∀ p ∈ ps, sp p.block = true) → DataW.TrodAll enc P W' base sp hd ts vs ds ps
  | [], vs, ds, ps, _, h, _ => by
    obtain ⟨rfl, rfl, rfl⟩ := trodAll_nil h
    rfl
  | t :: ts, vs, ds, ps, ht, h, hp => by
    obtain ⟨v, vs1, d, ds1, a, c, rfl, rfl, rfl, ⟨n, h1⟩, h2⟩ := trodAll_cons h
    exact ⟨a, c, ⟨n, trod_ext hT hs n t _ _ (ht t (by simp)) h1 fun p hpp => hp p (by simp [hpp])⟩, trodAll_ext hT hs ts vs1 ds1 c (fun t h => ht t (by simp [h])) h2 fun p hpp => hp p (by simp [hpp]), rfl⟩

theorem kept_of_same (hs : ∀ b, b < W.heap.size → W'.heap[b]? = W.heap[b]?) (ho : W'.os = W.os) (hp : W'.output = W.output) (may : MemPlace → Prop) : W.keptBut W' may := by
  refine ⟨ho, hp, fun i hi => ?_⟩
  rw [hs i hi]
  split
  · rename_i c t fr c' t' fr' h1 h2
    rw [h1] at h2
    cases h2
    exact ⟨rfl, rfl, rfl, fun _ _ => rfl⟩
  · rename_i es cl es' cl' h1 h2
    rw [h1] at h2
    cases h2
    exact .inr ⟨rfl, rfl⟩
  · rfl
end
end Go.Proofs.YtablleokoifolaaGreatDoor

/- What the rows' condition tells of a world: the listed variable, the named one; a world for the witness. -/
set_option linter.unusedVariables false
set_option linter.unusedSimpArgs false
namespace Go.Proofs.YtablleokoifolaaGreatDoor
open Go Go.ChangeShapes Go.WideShapes Go.RowKit

theorem own : ownKnob Tryz.prog.godebug = none := by kernel_rfl
theorem etN : Tryz.prog.globalNamed "errors.errorType" = some 0 := by kernel_rfl
theorem rtN : (Tryz.prog.cutTypes.find? (·.1 == "internal/reflectlite.rtype")).map (·.2) = some 170 := by kernel_rfl
theorem oneRow : ((List.range 251).filter fun t => Tryz.prog.rowNamed t [101, 114, 114, 111, 114]) = [44] := by kernel_rfl
theorem tsize : Tryz.prog.types.size = 251 := by kernel_rfl
theorem gsize : Tryz.prog.globals.size = 2 := by kernel_rfl
theorem row1 : ((begin Tryz.prog (fun _ _ => 0) default).world.heap[1]?).bind Obj.row? = some (#[.int .i64 0], 3) := by kernel_rfl
theorem ct3 : Tryz.prog.cellTypes Tryz.prog.depth 3 = some [3] := by kernel_rfl
theorem b3 : Tryz.prog.buildable 3 = true := by kernel_rfl

abbrev laidE : List (String × DataW Unit) := [("errors.errorType", Rows.laid_errors_errorType)]

theorem handle_of_laid {W : World} (h : laidMetH Tryz.prog laidE W) : W.cell? ⟨0, 0, none⟩ = some errV := by
  have h' : laidMet Tryz.prog [] W ∧ handlesMet Tryz.prog laidE W := h
  obtain ⟨name, u, ty, e1, e2, e3, e4, e5⟩ := h'.2 _ (List.mem_singleton.2 rfl)
  have en : name = [101, 114, 114, 111, 114] := (Option.some.inj e1).symm
  subst en
  obtain rfl := Option.some.inj (rtN.symm.trans e2)
  have hm : ty ∈ (List.range 251).filter fun t => Tryz.prog.rowNamed t [101, 114, 114, 111, 114] := List.mem_filter.2 ⟨List.mem_range.2 (by rw [← tsize]; exact e3), e4⟩
  rw [oneRow] at hm
  obtain rfl := List.mem_singleton.1 hm
  have hh : typeHandle Tryz.prog 44 = .pointer (some ⟨2, 44, none⟩) := by kernel_rfl
  rw [hh] at e5
  simpa [errV] using World.var?_cell etN e5 0

/-- A variable of an integer type holds some number. -/
theorem int_of_shape {P : Program} {w : World} {g : Nat} {t : TypeId} {k : IntKind} {zero : Array Value} (h : w.ShapedOpen P) (hg : g < P.globals.size)
    (h0 : ((begin P (fun _ _ => 0) default).world.heap[g]?).bind Obj.row? = some (zero, t)) (hz : zero.size = 1)
    (hb : P.buildable t = true) (hc : P.cellTypes P.depth t = some [t]) (hu : P.underlying t = some (.int k)) : ∃ n, w.cell? ⟨g, 0, none⟩ = some (.int k n) := by
  obtain ⟨cs, hh, hs, hr⟩ := h.1 g zero t hg h0
  obtain ⟨ts, hts, _, hall⟩ := hr hb
  rw [hc] at hts
  cases hts
  have h1 : 0 < cs.size := by omega
  obtain ⟨u, hu', hok⟩ := hall 0 cs[0] (by simp [h1])
  have : u = t := by simpa using hu'.symm
  subst this
  have hcell : w.cell? ⟨g, 0, none⟩ = some cs[0] := by simp [World.cell?, hh, h1]
  rw [hcell]
  unfold Cell.ok at hok
  rw [hu] at hok
  cases hv : cs[0] with
  | int k' n => rw [hv] at hok; obtain ⟨rfl, _⟩ := hok; exact ⟨n, rfl⟩
  | _ => rw [hv] at hok; simp at hok

set_option maxRecDepth 100000 in
theorem maxLen_of_shape {W : World} (h : W.ShapedOpen Tryz.prog) : ∃ n, W.cell? ⟨1, 0, none⟩ = some (.int .i64 n) :=
  int_of_shape h (gsize ▸ by decide) row1 rfl b3 ct3 Tryz.underlying3

theorem cellH_of {W : World} {b : Nat} {v : Value} (h : W.cell? ⟨b, 0, none⟩ = some v) : cellH W.heap b = some v := by
  unfold World.cell? at h
  unfold cellH
  split at h
  · rename_i C T fr hb
    simp only at hb
    rw [hb]
    simpa using h
  · cases h

/-- What the proofs over the abstract machine ask of a world. -/
theorem gok_of {W : World} (hl : laidMetH Tryz.prog laidE W) (hs : W.ShapedOpen Tryz.prog) : E.gok W.heap ∧ E.gb ≤ W.heap.size := by
  obtain ⟨n, hn⟩ := maxLen_of_shape hs
  refine ⟨⟨cellH_of (handle_of_laid hl), n, cellH_of hn⟩, ?_⟩
  have := cellH_of hn
  unfold cellH at this
  split at this
  · rename_i hb
    have := (Array.getElem?_eq_some_iff.1 hb).1
    show 2 ≤ W.heap.size
    omega
  · cases this

/-- A world for the witness: the settled one, the listed variable's cell laid. -/
noncomputable def laidWorld (os : Os) : World :=
  { World.holding Tryz.prog os ⟨#[], #[], []⟩ with heap := (World.holding Tryz.prog os ⟨#[], #[], []⟩).heap.modify 0 fun
      | .cells _ t frozen => .cells #[errV] t frozen
      | o => o }
theorem laidWorld_met (os : Os) (args : Array Value) : laidMetH Tryz.prog laidE ((laidWorld os).forCall (fun _ _ => 0) ⟨#[], args, []⟩).memory :=
  laidMetH_of_parts (laidMet_nil _ _) (by kernel_rfl)

theorem rvf_bool {H : Array Obj} {F : Nat → Prop} {b : Bool} {v : Value} (h : RVF E H F (.bool b) v) : v = .bool b := by cases h; rfl
end Go.Proofs.YtablleokoifolaaGreatDoor

/- From the row's reading to frozen data, with what it says of sizes. -/
set_option linter.unusedVariables false
set_option linter.unusedSimpArgs false
namespace Go.Proofs.YtablleokoifolaaGreatDoor
open Go Go.ChangeShapes Go.RowKit Go.Deep

section
variable {H : Type} {enc : TypeId × Value → H} {E : Env} {W : World}

/-- What reads by this type is data told so, tied to the reading. -/
def Rd2 (enc : TypeId × Value → H) (E : Env) (W : World) {α : Type} (t : TypeId) (en : α → List FV) (wf : α → DataW H → Prop) (n : Nat) : Prop :=
  ∀ (base : Nat) (sp : Nat → Bool) (hd : Bool) (cs : List Value) (x : DataW H × List MemPlace), DataW.trod enc E.P W base sp hd n t cs = some x →
    ∃ a, wf a x.1 ∧ cs.length = (en a).length ∧ ∀ j, j < cs.length → RVF E W.heap (old W) (toA ((en a).getD j .undef)) (cs.getD j Go.undef)

theorem Rd2.zero {α : Type} {t : TypeId} {en : α → List FV} {wf : α → DataW H → Prop} : Rd2 enc E W t en wf 0 := fun base sp hd cs x h => by cases h
theorem rd2_int {t : TypeId} {k : IntKind} (ht : E.P.underlying t = some (.int k)) (n : Nat) : Rd2 enc E W t (eI k) (fun x d => (Lit.int k x).wf = true) n := by
  intro base sp hd cs x h
  obtain ⟨b, h1, h2, h3⟩ := rdr_int (enc := enc) (E := E) (W := W) ht n base sp hd cs x h
  exact ⟨b, h1, h2, h3⟩
theorem rd2_bool {t : TypeId} (ht : E.P.underlying t = some .bool) (n : Nat) : Rd2 enc E W t (fun b : Bool => [.bool b]) (fun x d => True) n := by
  intro base sp hd cs x h
  obtain ⟨b, h1, h2, h3⟩ := rdr_bool (enc := enc) (E := E) (W := W) ht n base sp hd cs x h
  exact ⟨b, h1, h2, h3⟩

/-- A slice's elements as they are read. -/
def wfS {α : Type} [Inhabited α] (wf : α → DataW H → Prop) (l : List α) (d : DataW H) : Prop :=
  l.length ≤ maxLen ∧ ((d = .nil ∧ l = []) ∨ ∃ ds rest, d = .slice ds rest ∧ ds.length = l.length ∧ ∀ i, i < l.length → wf (l.getD i default) (ds.getD i .nil))

theorem rd2_slice {α : Type} [Inhabited α] {t e : TypeId} {en : α → List FV} {wf : α → DataW H → Prop} (ht : E.P.underlying t = some (.slice e)) (hs : 0 < E.P.cellsOf e)
    (hsz : ∀ a, (en a).length = E.P.cellsOf e) (hk : ∀ a, ∀ v ∈ en a, cellOk (toA v) = true) (n' : Nat) (h : Rd2 enc E W e en wf n') :
    Rd2 enc E W t (fun l : List α => [sV en l]) (wfS wf) (n' + 1) := by
  intro base sp hd cs x hx
  rcases DataW.trod_slice ht hx with ⟨rfl, rfl⟩ | ⟨a, len, cap, elems, rest, n2, hn2, rfl, rfl, hb, hl, hm, hlen0, hel, _, _⟩
  · refine ⟨[], ⟨Nat.zero_le _, .inl ⟨rfl, rfl⟩⟩, rfl, fun j hj => ?_⟩
    obtain rfl : j = 0 := by simp at hj; omega
    exact .slv0 none 0
  obtain rfl : n2 = n' := by omega
  let D : Nat → DataW H := fun i => (elems.map (·.1)).getD i .nil
  have hel2 : ∀ i, i < len → ∃ cs' y, W.cells? base (a.add (i * E.P.cellsOf e)) (E.P.cellsOf e) = some cs' ∧ DataW.trod enc E.P W base sp hd n2 e cs' = some y ∧ y.1 = D i := by
    intro i hi
    have h1 := hel i hi
    rw [List.getElem?_eq_getElem (by omega)] at h1
    obtain ⟨cs', h2, h3⟩ := Option.bind_eq_some_iff.1 h1
    refine ⟨cs', _, h2, h3, ?_⟩
    show _ = (elems.map (·.1)).getD i .nil
    rw [List.getD_eq_getElem?_getD, List.getElem?_map, List.getElem?_eq_getElem (by omega)]; rfl
  have key : ∀ i, i < len → ∃ (b : α) (cs' : List Value), wf b (D i) ∧ E.P.cellsOf e = cs'.length ∧ cs'.length = (en b).length ∧ (∀ j, j < cs'.length → W.cell? ((a.add (i * E.P.cellsOf e)).add j) = some (cs'.getD j Go.undef)) ∧
      ∀ j, j < cs'.length → RVF E W.heap (old W) (toA ((en b).getD j .undef)) (cs'.getD j Go.undef) := by
    intro i hi
    obtain ⟨cs', y, h1, h2, h2'⟩ := hel2 i (by omega)
    obtain ⟨_, hlen, hc⟩ := World.cells?_some h1
    obtain ⟨b, w1, w2, w3⟩ := h base sp hd cs' _ h2
    rw [h2'] at w1
    refine ⟨b, cs', w1, hlen.symm, w2, fun j hj => ?_, w3⟩
    have := hc j (by omega)
    simpa [List.getD_eq_getElem?_getD, hj] using this
  obtain ⟨B, hB⟩ := choose_lt (α := α) (p := fun i b => ∃ cs' : List Value, wf b (D i) ∧ E.P.cellsOf e = cs'.length ∧ cs'.length = (en b).length ∧ (∀ j, j < cs'.length → W.cell? ((a.add (i * E.P.cellsOf e)).add j) = some (cs'.getD j Go.undef)) ∧
      ∀ j, j < cs'.length → RVF E W.heap (old W) (toA ((en b).getD j .undef)) (cs'.getD j Go.undef)) key
  have hll : ((List.range len).map B).length = len := by simp
  refine ⟨(List.range len).map B, ⟨by rw [hll]; omega, .inr ⟨_, _, rfl, by rw [hll, List.length_map, hlen0], fun i hi => ?_⟩⟩, rfl, fun j hj => ?_⟩
  · rw [hll] at hi
    have e1 : ((List.range len).map B).getD i default = B i := by simp [List.getD_eq_getElem?_getD, hi]
    rw [e1, show (elems.map (·.1)).getD i .nil = D i from rfl]
    exact (hB i hi).choose_spec.1
  · obtain rfl : j = 0 := by simp at hj; omega
    show RVF E W.heap (old W) (toA (sV en ((List.range len).map B))) (.slice (some a) len cap)
    rw [toA_sV, hll]
    by_cases h0 : len = 0
    · subst h0
      exact .slv0 (some a) cap
    · have hB0 := hB 0 (by omega)
      have first : ∃ C T fr, W.heap[a.block]? = some (.cells C T fr) ∧ a.spot = none := by
        obtain ⟨cs', _, hc, _, hcell, _⟩ := hB0
        have := hcell 0 (by omega)
        rw [Nat.zero_mul] at this
        have ea : (a.add 0).add 0 = a := rfl
        rw [ea] at this
        unfold World.cell? at this
        split at this
        · rename_i C T fr hh
          refine ⟨C, T, fr, hh, ?_⟩
          split at this
          · cases this
          · rename_i hsn
            cases hsp : a.spot with
            | none => rfl
            | some q => rw [hsp] at hsn; exact absurd rfl hsn
        · cases this
      obtain ⟨C, T, fr, hC, hspot⟩ := first
      obtain ⟨blk, off, spot⟩ := a
      simp only at hspot hC
      subst hspot
      have cellC : ∀ i j, i < len → j < E.P.cellsOf e → ∃ (b : α) (cs' : List Value), B i = b ∧ cs'.length = (en b).length ∧ E.P.cellsOf e = cs'.length ∧ off + i * E.P.cellsOf e + j < C.size ∧ C.getD (off + i * E.P.cellsOf e + j) Go.undef = cs'.getD j Go.undef ∧
          RVF E W.heap (old W) (toA ((en b).getD j .undef)) (cs'.getD j Go.undef) := by
        intro i j hi hj
        obtain ⟨cs', _, hc, hc2, hcell, hr⟩ := hB i hi
        have h1 := hcell j (by omega)
        rw [add_add] at h1
        have h2 : (Addr.add ⟨blk, off, none⟩ (i * E.P.cellsOf e + j)) = ⟨blk, off + (i * E.P.cellsOf e + j), none⟩ := by
          unfold Addr.add
          split
          · rename_i hz; simp [hz]
          · rfl
        rw [h2] at h1
        unfold World.cell? at h1
        simp only [hC, Option.isSome_none, Bool.false_eq_true, if_false] at h1
        have hlt : off + (i * E.P.cellsOf e + j) < C.size := (Array.getElem?_eq_some_iff.1 h1).1
        refine ⟨B i, cs', rfl, hc2, hc, by omega, ?_, hr j (by omega)⟩
        have : C.getD (off + i * E.P.cellsOf e + j) Go.undef = C.getD (off + (i * E.P.cellsOf e + j)) Go.undef := by rw [Nat.add_assoc]
        rw [this, Array.getD_eq_getD_getElem?, h1]; rfl
      have hlen2 : ((List.range len).map fun i => (en (((List.range len).map B).getD i default)).map toA).length = len := by simp
      have hget : ∀ i, i < len → ((List.range len).map fun i => (en (((List.range len).map B).getD i default)).map toA).getD i [] = (en (B i)).map toA := by
        intro i hi
        simp [List.getD_eq_getElem?_getD, hi]
      have hr := RVF.slv (E := E) (H := W.heap) (F := old W) ((List.range len).map fun i => (en (((List.range len).map B).getD i default)).map toA) blk off cap (E.P.cellsOf e) C T fr (Array.getElem?_eq_some_iff.1 hC).1 hC
        (by
          rw [hlen2]
          have := cellC (len - 1) (E.P.cellsOf e - 1) (by omega) (by omega)
          obtain ⟨_, _, _, _, _, hlt, _⟩ := this
          have e1 : len * E.P.cellsOf e = (len - 1) * E.P.cellsOf e + E.P.cellsOf e := by
            have : len = (len - 1) + 1 := by omega
            conv => lhs; rw [this, Nat.add_mul, Nat.one_mul]
          omega)
        (by rw [hlen2]; exact hl)
        (by
          rw [hlen2]
          intro i hi
          rw [hget i hi]; simp [hsz])
        (by
          rw [hlen2]
          intro i j hi hj
          rw [hget i hi]
          have hjl : j < (en (B i)).length := by rw [hsz]; exact hj
          rw [List.getD_eq_getElem?_getD, List.getElem?_map, List.getElem?_eq_getElem hjl]
          exact hk _ _ (List.getElem_mem hjl))
        (by
          rw [hlen2]
          intro i j hi hj
          rw [hget i hi]
          obtain ⟨b, cs', rfl, _, _, _, hcv, hrv⟩ := cellC i j hi hj
          rw [hcv]
          have hjl : j < (en (B i)).length := by rw [hsz]; exact hj
          rw [List.getD_eq_getElem?_getD, List.getElem?_eq_getElem hjl] at hrv
          rw [List.getD_eq_getElem?_getD, List.getElem?_map, List.getElem?_eq_getElem hjl]
          exact hrv)
      rw [hlen2] at hr
      exact hr

theorem bulk_pos : ∀ d : DataW H, 1 ≤ Rows.uptoBulk d := fun d => by
  cases d with
  | lit l => cases l <;> simp [Rows.uptoBulk]
  | _ => simp [Rows.uptoBulk]
theorem bulkAll_get : ∀ (ds : List (DataW H)), ds.length ≤ Rows.uptoBulkAll ds ∧ ∀ i, i < ds.length → Rows.uptoBulk (ds.getD i .nil) ≤ Rows.uptoBulkAll ds
  | [] => ⟨Nat.le_refl _, fun i h => by simp at h⟩
  | d :: ds => by
    obtain ⟨h1, h2⟩ := bulkAll_get ds
    have hp := bulk_pos d
    refine ⟨by simp only [List.length_cons, Rows.uptoBulkAll]; omega, fun i hi => ?_⟩
    cases i with
    | zero => simp only [List.getD_cons_zero, Rows.uptoBulkAll]; omega
    | succ i =>
      have := h2 i (by simpa using hi)
      simp only [List.getD_cons_succ, Rows.uptoBulkAll]; omega
theorem wfS_len {α : Type} [Inhabited α] {wf : α → DataW H → Prop} {l : List α} {d : DataW H} (h : wfS wf l d) : l.length ≤ Rows.uptoBulk d := by
  rcases h.2 with ⟨rfl, rfl⟩ | ⟨ds, rest, rfl, h1, _⟩
  · simp
  · have := (bulkAll_get ds).1
    simp only [Rows.uptoBulk]; omega
theorem wfS_mem {α : Type} [Inhabited α] {wf : α → DataW H → Prop} {l : List α} {d : DataW H} (h : wfS wf l d) {a : α} (ha : a ∈ l) : ∃ d', wf a d' ∧ Rows.uptoBulk d' ≤ Rows.uptoBulk d := by
  rcases h.2 with ⟨rfl, rfl⟩ | ⟨ds, rest, rfl, h1, h2⟩
  · cases ha
  · obtain ⟨i, hi, rfl⟩ := List.getElem_of_mem ha
    have := h2 i hi
    rw [List.getD_eq_getElem?_getD, List.getElem?_eq_getElem hi] at this
    refine ⟨_, this, ?_⟩
    have := (bulkAll_get ds).2 i (by omega)
    simp only [Rows.uptoBulk]; omega
theorem wfS_wt {wf : Instr → DataW H → Prop} (hw : ∀ x d, wf x d → wtI x ≤ 6 * Rows.uptoBulk d) {l : List Instr} {d : DataW H} (h : wfS wf l d) : wtL l ≤ 6 * Rows.uptoBulk d := by
  rcases h.2 with ⟨rfl, rfl⟩ | ⟨ds, rest, rfl, h1, h2⟩
  · simp [wtL, Rows.uptoBulk]
  · have key : ∀ (l : List Instr) (ds : List (DataW H)), ds.length = l.length → (∀ i, i < l.length → wf (l.getD i default) (ds.getD i .nil)) → wtL l ≤ 1 + 6 * Rows.uptoBulkAll ds := by
      intro l
      induction l with
      | nil => intro ds _ _; simp only [wtL]; omega
      | cons x l ih =>
        intro ds hl hh
        cases ds with
        | nil => simp at hl
        | cons d ds =>
          have h0 := hw _ _ (hh 0 (by simp))
          have h3 := ih ds (by simpa using hl) (fun i hi => by simpa using hh (i + 1) (by simpa using hi))
          simp only [List.getD_cons_zero] at h0
          simp only [wtL, Rows.uptoBulkAll]; omega
    have := key l ds h1 h2
    simp only [Rows.uptoBulk]; omega
theorem wfS_IWL {wf : Instr → DataW H → Prop} (hw : ∀ x d, wf x d → IWI x) {l : List Instr} {d : DataW H} (h : wfS wf l d) : IWL l := by
  have key : ∀ (l : List Instr), (∀ x ∈ l, IWI x) → IWL l := by
    intro l
    induction l with
    | nil => intro _; simp only [IWL]
    | cons x l ih => intro hh; simp only [IWL]; exact ⟨hh x List.mem_cons_self, ih fun y hy => hh y (List.mem_cons_of_mem _ hy)⟩
  exact key l fun x hx => by
    obtain ⟨d', h1, _⟩ := wfS_mem h hx
    exact hw x d' h1

theorem toA_sVI (L : List Instr) : toA (sVI L) = toA (sV eInstr L) := by
  simp only [sVI, sV, toA]
  congr 1
  refine List.map_congr_left fun i hi => ?_
  rw [flI_eq (List.mem_range.1 hi)]
  rfl

/-- An instruction as it is read. -/
def wfI (x : Instr) (d : DataW H) : Prop := IWI x ∧ wtI x ≤ 6 * Rows.uptoBulk d

theorem rd2_instr {tI tL tB tN tU tLb : TypeId} {fs : Array Field} (hI : E.P.underlying tI = some (.struct fs)) (hL : E.P.underlying tL = some (.slice tI))
    (hfs : fs.toList.map (fun f => (f.type, f.offset)) = [(tB, 0), (tN, 1), (tU, 2), (tU, 3), (tB, 4), (tL, 5), (tL, 6), (tLb, 7)])
    (hB : E.P.underlying tB = some (.int .u8)) (hN : E.P.underlying tN = some (.int .i64)) (hU : E.P.underlying tU = some (.int .u32)) (hLb : E.P.underlying tLb = some (.slice tU))
    (cB : E.P.cellsOf tB = 1) (cN : E.P.cellsOf tN = 1) (cU : E.P.cellsOf tU = 1) (cL : E.P.cellsOf tL = 1) (cLb : E.P.cellsOf tLb = 1) (cI : E.P.cellsOf tI = 8) :
    ∀ n, Rd2 enc E W tI eInstr wfI n := by
  intro n
  induction n using Nat.strongRecOn with
  | _ n ih =>
  intro base sp hd cs x hx
  obtain ⟨xs, m, rfl, rfl, hlen, hsz, hf⟩ := DataW.trod_struct hI hx
  have hfl : fs.size = 8 := by have := congrArg List.length hfs; simpa using this
  have fget : ∀ (i : Nat) (t : TypeId) (o : Nat), [(tB, 0), (tN, 1), (tU, 2), (tU, 3), (tB, 4), (tL, 5), (tL, 6), (tLb, 7)][i]? = some (t, o) → DataW.trod enc E.P W base sp hd m t ((cs.drop o).take (E.P.cellsOf t)) = xs[i]? := by
    intro i t o h
    rw [← hfs, List.getElem?_map] at h
    cases hfi : fs.toList[i]? with
    | none => rw [hfi] at h; cases h
    | some f =>
      rw [hfi] at h
      obtain ⟨rfl, rfl⟩ := Prod.mk.inj (Option.some.inj h)
      exact hf i f (by rw [← Array.getElem?_toList]; exact hfi)
  obtain ⟨x0, x1, x2, x3, x4, x5, x6, x7, rfl⟩ : ∃ x0 x1 x2 x3 x4 x5 x6 x7, xs = [x0, x1, x2, x3, x4, x5, x6, x7] := by
    have : xs.length = 8 := by omega
    match xs, this with
    | [x0, x1, x2, x3, x4, x5, x6, x7], _ => exact ⟨x0, x1, x2, x3, x4, x5, x6, x7, rfl⟩
  obtain ⟨v0, v1, v2, v3, v4, v5, v6, v7, rfl⟩ : ∃ v0 v1 v2 v3 v4 v5 v6 v7, cs = [v0, v1, v2, v3, v4, v5, v6, v7] := by
    have : cs.length = 8 := by omega
    match cs, this with
    | [v0, v1, v2, v3, v4, v5, v6, v7], _ => exact ⟨v0, v1, v2, v3, v4, v5, v6, v7, rfl⟩
  have g0 := fget 0 tB 0 rfl
  have g1 := fget 1 tN 1 rfl
  have g2 := fget 2 tU 2 rfl
  have g3 := fget 3 tU 3 rfl
  have g4 := fget 4 tB 4 rfl
  have g5 := fget 5 tL 5 rfl
  have g6 := fget 6 tL 6 rfl
  have g7 := fget 7 tLb 7 rfl
  rw [cB] at g0 g4
  rw [cN] at g1
  rw [cU] at g2 g3
  rw [cL] at g5 g6
  rw [cLb] at g7
  have rL : Rd2 enc E W tL (fun l : List Instr => [sV eInstr l]) (wfS wfI) m := by
    cases m with
    | zero => exact Rd2.zero
    | succ q => exact rd2_slice hL (by rw [cI]; decide) (fun a => by rw [cI]; rfl) (fun a v hv => by
        simp only [eInstr, List.mem_cons, List.not_mem_nil, or_false] at hv
        rcases hv with rfl | rfl | rfl | rfl | rfl | rfl | rfl | rfl <;> rfl) q (ih q (by omega))
  have rLb : Rd2 enc E W tLb (fun l : List Int => [sV (eI .u32) l]) (wfS fun x d => (Lit.int .u32 x).wf = true) m := by
    cases m with
    | zero => exact Rd2.zero
    | succ q =>
      exact rd2_slice (en := eI .u32) (wf := fun x d => (Lit.int .u32 x).wf = true) hLb (by rw [cU]; decide) (fun a => by rw [cU]; rfl) (fun a v hv => by
        obtain rfl : v = .int .u32 a := by simpa [eI] using hv
        rfl) q (rd2_int hU q)
  obtain ⟨a0, w0, _, r0⟩ := rd2_int (enc := enc) (W := W) hB m base sp hd _ _ g0
  obtain ⟨a1, w1, _, r1⟩ := rd2_int (enc := enc) (W := W) hN m base sp hd _ _ g1
  obtain ⟨a2, w2, _, r2⟩ := rd2_int (enc := enc) (W := W) hU m base sp hd _ _ g2
  obtain ⟨a3, w3, _, r3⟩ := rd2_int (enc := enc) (W := W) hU m base sp hd _ _ g3
  obtain ⟨a4, w4, _, r4⟩ := rd2_int (enc := enc) (W := W) hB m base sp hd _ _ g4
  obtain ⟨a5, w5, _, r5⟩ := rL base sp hd _ _ g5
  obtain ⟨a6, w6, _, r6⟩ := rL base sp hd _ _ g6
  obtain ⟨a7, w7, _, r7⟩ := rLb base sp hd _ _ g7
  have b5 := wfS_wt (fun x d h => h.2) w5
  have b6 := wfS_wt (fun x d h => h.2) w6
  have i5 := wfS_IWL (fun x d h => h.1) w5
  have i6 := wfS_IWL (fun x d h => h.1) w6
  refine ⟨Instr.mk a0 a1 a2 a3 a4 a5 a6 a7, ⟨?_, ?_⟩, rfl, fun j hj => ?_⟩
  · have q0 : 0 ≤ a0 ∧ a0 < 256 := by
      have h : IntKind.u8.min ≤ a0 ∧ a0 ≤ IntKind.u8.max := by simpa [Lit.wf] using w0
      have e1 : IntKind.u8.min = 0 := by decide
      have e2 : IntKind.u8.max = 255 := by decide
      omega
    have q2 : 0 ≤ a2 := by
      have h : IntKind.u32.min ≤ a2 ∧ a2 ≤ IntKind.u32.max := by simpa [Lit.wf] using w2
      have e1 : IntKind.u32.min = 0 := by decide
      omega
    simp only [IWI]
    exact ⟨q0, q2, i5, i6⟩
  · simp only [wtI, List.map_cons, List.map_nil, Rows.uptoBulk, Rows.uptoBulkAll]
    omega
  · have hj' : j < 8 := hj
    have r5' := r5 0 Nat.zero_lt_one
    have r6' := r6 0 Nat.zero_lt_one
    match j, hj' with
    | 0, _ => exact r0 0 Nat.zero_lt_one
    | 1, _ => exact r1 0 Nat.zero_lt_one
    | 2, _ => exact r2 0 Nat.zero_lt_one
    | 3, _ => exact r3 0 Nat.zero_lt_one
    | 4, _ => exact r4 0 Nat.zero_lt_one
    | 5, _ =>
      show RVF E W.heap (old W) (toA (sVI a5)) _
      rw [toA_sVI]; exact r5'
    | 6, _ =>
      show RVF E W.heap (old W) (toA (sVI a6)) _
      rw [toA_sVI]; exact r6'
    | 7, _ => exact r7 0 Nat.zero_lt_one
end
end Go.Proofs.YtablleokoifolaaGreatDoor

/- ValidBodies, where what it reads is of bulk at most 1048576: the law answers true and its arguments read as before. -/
set_option linter.unusedVariables false
set_option linter.unusedSimpArgs false
namespace Go.Proofs.YtablleokoifolaaGreatDoor.validBodies
open Go Go.ChangeShapes Go.WideShapes Go.RowKit

theorem c5 : Tryz.prog.cellsOf 5 = 1 := by kernel_rfl
theorem c2 : Tryz.prog.cellsOf 2 = 1 := by kernel_rfl
theorem c59 : Tryz.prog.cellsOf 59 = 1 := by kernel_rfl
theorem c55 : Tryz.prog.cellsOf 55 = 1 := by kernel_rfl
theorem c61 : Tryz.prog.cellsOf 61 = 1 := by kernel_rfl
theorem c69 : Tryz.prog.cellsOf 69 = 8 := by kernel_rfl
def T (t : TypeId) : Prop := t = 54 ∨ t = 5 ∨ t = 55 ∨ t = 69 ∨ t = 2 ∨ t = 59 ∨ t = 61
theorem tyOk : TyOk Tryz.prog T := by
  intro t ht
  rcases ht with rfl | rfl | rfl | rfl | rfl | rfl | rfl
  · exact .inr (.inr (.inr (.inl ⟨5, Tryz.underlying54, .inr (.inl rfl), by rw [c5]; decide⟩)))
  · exact .inr (.inl ⟨_, Tryz.underlying5⟩)
  · exact .inr (.inr (.inr (.inl ⟨69, Tryz.underlying55, .inr (.inr (.inr (.inl rfl))), by rw [c69]; decide⟩)))
  · refine .inr (.inr (.inr (.inr ⟨_, Tryz.underlying69, fun f hf => ?_⟩)))
    simp only [List.mem_cons, List.not_mem_nil, or_false] at hf
    rcases hf with rfl | rfl | rfl | rfl | rfl | rfl | rfl | rfl <;> simp [T]
  · exact .inr (.inl ⟨_, Tryz.underlying2⟩)
  · exact .inr (.inl ⟨_, Tryz.underlying59⟩)
  · exact .inr (.inr (.inr (.inl ⟨59, Tryz.underlying61, .inr (.inr (.inr (.inr (.inr (.inl rfl))))), by rw [c59]; decide⟩)))

theorem rdI {H : Type} (enc : TypeId × Value → H) (W : World) : ∀ n, Rd2 enc E W 55 (fun l : List Instr => [sV eInstr l]) (wfS wfI) n
  | 0 => Rd2.zero
  | n + 1 => rd2_slice (E := E) (en := eInstr) (wf := wfI) Tryz.underlying55 (by show 0 < Tryz.prog.cellsOf 69; rw [c69]; decide) (fun a => by show 8 = Tryz.prog.cellsOf 69; rw [c69]) (fun a v hv => by
      simp only [eInstr, List.mem_cons, List.not_mem_nil, or_false] at hv
      rcases hv with rfl | rfl | rfl | rfl | rfl | rfl | rfl | rfl <;> rfl) n
      (rd2_instr (E := E) Tryz.underlying69 Tryz.underlying55 rfl Tryz.underlying5 Tryz.underlying2 Tryz.underlying59 Tryz.underlying61 c5 c2 c59 c55 c61 c69 n)
theorem rdB {H : Type} (enc : TypeId × Value → H) (W : World) : ∀ n, Rd2 enc E W 54 (fun l : List Int => [sV (eI .u8) l]) (wfS fun x d => (Lit.int .u8 x).wf = true) n
  | 0 => Rd2.zero
  | n + 1 => rd2_slice (E := E) (en := eI .u8) (wf := fun x d => (Lit.int .u8 x).wf = true) Tryz.underlying54 (by show 0 < Tryz.prog.cellsOf 5; rw [c5]; decide) (fun a => by show 1 = Tryz.prog.cellsOf 5; rw [c5]) (fun a v hv => by
      obtain rfl : v = .int .u8 a := by simpa [eI] using hv
      rfl) n (rd2_int (E := E) Tryz.underlying5 n)

set_option maxRecDepth 100000 in
theorem contract (H : Type) (enc : TypeId × Value → H) (W : World) (base : Nat) (args : Array Value) (ds gs : List (DataW H)) (before : List MemPlace)
    (hval : ∀ (j : Nat) t v, Tryz.f4.params[j]? = some t → args[j]? = some v → Value.okWide Tryz.prog W .any base t v)
    (hW : DataW.Whole enc Tryz.prog Tryz.f4.params.toList Rows.validBodiesSpec.vars false W args.toList ds gs before) (hcond : Rows.uptoSmall H (ds ++ gs) = true) (hL : laidMetH Tryz.prog laidE W) (hS : W.ShapedOpen Tryz.prog) :
    Calls Tryz.prog 4 args W fun e W' => ∃ v, e = .returned v ∧ Rows.validBodiesSpec.post enc Tryz.prog Tryz.f4 false true false false W args v W' := by
  have hW' := hW
  obtain ⟨p, q, hA0, hV, rfl, hfz, hnd⟩ := hW
  have hA : DataW.TrodAll enc Tryz.prog W 0 (fun _ => true) true Tryz.f4.params.toList args.toList ds p := hA0
  rw [Tryz.params4] at hA hval
  obtain ⟨v0, vs0, d0, ds0, p0, q0, hargs, rfl, rfl, ⟨n0, h0⟩, r0⟩ := trodAll_cons hA
  obtain ⟨v1, vs1, d1, ds1, p1, q1, rfl, rfl, rfl, h1, r1⟩ := trodAll_cons r0
  obtain ⟨v2, vs2, d2, ds2, p2, q2, rfl, rfl, rfl, ⟨n2, h2⟩, r2⟩ := trodAll_cons r1
  obtain ⟨rfl, rfl, rfl⟩ := trodAll_nil r2
  obtain rfl : args = #[v0, v1, v2] := by cases args; simp_all
  obtain ⟨rfl, rfl⟩ := trodVars_none hV
  obtain ⟨x1, rfl, rfl, rfl, w1⟩ := open_int Tryz.underlying5 (hval 1 5 v1 rfl rfl) h1
  obtain ⟨a0, len0, cap0, rfl⟩ := okWide_slice Tryz.underlying54 (hval 0 54 v0 rfl rfl)
  obtain ⟨a2, len2, cap2, rfl⟩ := okWide_slice Tryz.underlying55 (hval 2 55 v2 rfl rfl)
  obtain ⟨ps, f0, _, l0⟩ := rdB enc W n0 0 _ _ _ _ h0
  obtain ⟨b, f2, _, l2⟩ := rdI enc W n2 0 _ _ _ _ h2
  have l0' := l0 0 Nat.zero_lt_one
  have l2' : RVF E W.heap (old W) (toA (sVI b)) (.slice a2 len2 cap2) := by
    rw [toA_sVI]
    exact l2 0 Nat.zero_lt_one
  have g0 := wfS_len f0
  have g2 := wfS_wt (fun x d h => h.2) f2
  have gw := wfS_IWL (fun x d h => h.1) f2
  have hb : Rows.uptoBulkAll [d0, .lit (.int .u8 x1), d2] ≤ 1048576 := of_decide_eq_true hcond
  simp only [Rows.uptoBulkAll, Rows.uptoBulk] at hb
  have g0' : ps.length ≤ Rows.uptoBulk d0 := g0
  have g2' : wtL b ≤ 6 * Rows.uptoBulk d2 := g2
  have ht := bodies_true ps x1 b 1048700 10000000 gw (by omega) (by omega) (by omega) (by omega)
  obtain ⟨g1, g3⟩ := gok_of hL hS
  have hc := c_law08_ValidBodies 10000000 ps x1 b true ht
  refine (hc.2 W (old W) #[.slice a0 len0 cap0, .int .u8 x1, .slice a2 len2 cap2] g3 g1 (fun b hb => hb) rfl (fun i hi => ?_)).mono ?_
  · match i with
    | 0 => exact l0'
    | 1 => exact .int .u8 x1
    | 2 => exact l2'
  rintro e W' ⟨v, F', rfl, k⟩
  obtain rfl := rvf_bool k.rv
  refine ⟨_, rfl, _, _, _, [], p0 ++ ([] ++ (p2 ++ [])), [], hW', trodAll_cons_mk (shut_bool Tryz.underlying4 _) trodAll_mk0, ?_, rfl, kept_of_same k.same k.wx.os k.wx.output _, fun h => by cases h⟩
  refine trodAll_ext tyOk k.same _ _ _ _ (fun t ht => ?_) hA0 fun p hp => ?_
  · rw [Tryz.params4] at ht
    have : t = 54 ∨ t = 5 ∨ t = 55 := by simpa using ht
    rcases this with h | h | h
    · exact .inl h
    · exact .inr (.inl h)
    · exact .inr (.inr (.inl h))
  · have := hW'.lt p (by simpa using hp)
    simpa using this

theorem reads (os : Os) {H : Type} (enc : TypeId × Value → H) : ∃ places, DataW.whole enc Tryz.prog ((laidWorld os).forCall (fun _ _ => 0) ⟨#[], #[.slice none 0 0, .int .u8 0, .slice none 0 0], []⟩).memory Tryz.f4.params.toList Rows.validBodiesSpec.vars false #[Value.slice none 0 0, Value.int .u8 0, Value.slice none 0 0].toList 8 = some ([.nil, .lit (.int .u8 0), .nil], [], places) :=
  ⟨[], by kernel_rfl⟩

set_option maxRecDepth 100000 in
theorem lifted (os : Os) (started : os.Started) (H : Type) (enc : TypeId × Value → H) (F : Stop.Interp) :
    ReturnsInHanded {} Tryz.checked os 4 .any ((Rows.OpenSpec.upto Rows.validBodiesSpec).preRow enc Tryz.prog Tryz.f4 Rows.validBodiesUptoRow.domain false Rows.validBodiesUptoRow.laid) (((Rows.OpenSpec.upto Rows.validBodiesSpec).at F).post enc Tryz.prog Tryz.f4 false true false false) := by
  obtain ⟨places, hx⟩ := reads os enc
  refine returnsInHanded_of_row (C := Tryz.checked) (s := Rows.OpenSpec.upto Rows.validBodiesSpec) own started (by kernel_rfl) Tryz.func4
    (witness_row_at (enc := enc) (C := Tryz.checked) false (laidWorld os) #[.slice none 0 0, .int .u8 0, .slice none 0 0] rfl (by kernel_rfl) (by kernel_rfl) (by kernel_rfl)
      (OpenSpec.preRow_of_cond 8 hx (by kernel_rfl) (fun k hk => by cases hk; kernel_rfl) (by kernel_rfl) (laidWorld_met os _))) ?_
  intro W base args ds gs before hval hW _ hcond _ hL hS _
  exact contract H enc W base args ds gs before hval hW (hcond _ rfl) hL hS

theorem said : Rows.ValidBodiesUptoSaid :=
  OpenClaim.holds_of_cond 4 Tryz.f4 rfl rfl rfl rfl rfl rfl rfl ⟨rfl, rfl, rfl, rfl, rfl⟩ rfl rfl rfl rfl rfl (by kernel_rfl) Tryz.func4 (by kernel_rfl)
    (of_decide_eq_true (by kernel_rfl)) (by unfold Func.isWrapper; first | (rw [if_pos (by decide +kernel)]; kernel_rfl) | (rw [if_neg (by decide +kernel)]; exact ⟨rfl, rfl⟩))
    (fun os started H enc _ F => by rw [OpenClaim.pre_eq_preRow]; exact lifted os started H enc F)

/-- No parameter wants a stand-in; the program's own looks. -/
theorem plain (f : FuncId) (fn : Func) (hf : Tryz.pinned.checked.prog.funcNamed "mandrel/mandrellaw08.ValidBodies" = some f) (hfn : Tryz.pinned.checked.prog.funcs[f]? = some fn) :
    true = Tryz.pinned.checked.prog.looks [] ∧ ∀ (j : Nat) t, fn.params[j]? = some t → Tryz.pinned.checked.prog.wantsStandIn t = false := by
  obtain rfl : f = 4 := Option.some.inj ((show Tryz.prog.funcNamed "mandrel/mandrellaw08.ValidBodies" = some 4 by kernel_rfl).symm.trans hf) |>.symm
  obtain rfl : fn = Tryz.f4 := (Option.some.inj (Tryz.func4.symm.trans hfn)).symm
  refine ⟨by kernel_rfl, fun j t ht => ?_⟩
  rw [Tryz.params4] at ht
  have : t = 54 ∨ t = 5 ∨ t = 55 := by simpa using Array.mem_of_getElem? ht
  rcases this with rfl | rfl | rfl
  · exact (show Tryz.prog.wantsStandIn 54 = false by kernel_rfl)
  · exact (show Tryz.prog.wantsStandIn 5 = false by kernel_rfl)
  · exact (show Tryz.prog.wantsStandIn 55 = false by kernel_rfl)

theorem card : Rows.ValidBodiesUptoCardSaid :=
  Claim7.holds_tied_plain_at .later [] [.handle] true _ true said (fun _ h => by cases h) (by kernel_rfl) (fun _ h => by cases h) validBodiesUpto_row_tie rfl ⟨rfl, rfl⟩ (by kernel_rfl) rfl plain (by kernel_rfl)
end Go.Proofs.YtablleokoifolaaGreatDoor.validBodies

