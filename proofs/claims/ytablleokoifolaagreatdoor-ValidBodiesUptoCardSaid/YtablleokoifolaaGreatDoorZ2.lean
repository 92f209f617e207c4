/- Part 2 of the proof that ValidBodiesUptoCardSaid: for every input that fits the row the law answers true and its arguments read as before, over the world as the row lays it. -/
import Derived.Test.YtablleokoifolaaGreatDoorZ1
/- Own abstract machine, part 15: regions in the order of their text. -/
set_option linter.unusedVariables false
set_option linter.unusedSimpArgs false
namespace Go.Proofs.YtablleokoifolaaGreatDoor
open Go Go.RowKit

variable {W : Nat → Nat → Nat → Prop} {E : Env} {h h' : Hp} {β β' : Bt} {V V' F F' : Nat → Prop} {w : World}

theorem post_of_done {nt : Nat} {s : St} {a : Act} (r : RelO E nt s a w β V F) {d : Option Nat} (hd : ∀ i, d = some i → i < nt) {K : St → Prop} {base : Nat} {ko : Option Nat}
    (hlt : ∀ k, ko = some k → base + k < s.n) {av : AV} {h' : Hp} {v : Value} {w' : World} {β' : Bt} {V' F' : Nat → Prop} (rv : RV E w'.heap β' V' F' av v) (hr : HRel E h' w'.heap β' V' F')
    (x : Ext w.heap β V F w'.heap β' V' F') (wx : WX w w') (hv : ∀ k, V' k → V k ∨ ∃ o, ko = some o ∧ k = base + o) (hK : K ⟨putT d s.t av, h', s.n⟩) :
    Post E nt K ko base s w β V F (a.put d v) w' :=
  ⟨_, β', V', F', hK, rel_put r hd x rv hr (fun κ hκ => by
    rcases hv κ hκ with h | ⟨o, ho, rfl⟩
    · exact r.vb κ h
    · exact hlt o ho), x, wx, Nat.le_refl _, fun κ hκ _ => hv κ hκ⟩

theorem exec_call {a : Act} {o : Oper} {f : Operand} {args : Array Operand} {ts : Array TypeId} (ho : o.op = .call { callee := .value f, args, argTypes := ts }) {g : Nat} {cv : Array Value}
    (hf : a.eval f = .func (.func (E.fn g)) #[] cv) (hk : FnOk E g) (w : World) :
    (execOp a.eval o).run E.P w = .ok (.enter (E.fn g) (args.map a.eval ++ cv)) w := by
  simp [execOp, ho, resolve, hf, Deferred.ofValue, invoke, callFunc_run hk]

theorem step_sound {nt : Nat} {s : St} {a : Act} (r : RelO E nt s a w β V F) {cops : Array Oper} {i : Nat} {o : Oper} {ao : AOper} (hi : cops[i]? = some o) (m : MatchO E nt cops o ao)
    {base : Nat} (hfr : ∀ k, koff ao.op = some k → ¬ V (base + k)) (hlt : ∀ k, koff ao.op = some k → base + k < s.n) {dr : Bool} {K : St → Prop} (hA : AW1 E dr base W ao K s)
    {next : Act → World → Prop} {Q : Exit → Act → World → Prop} (hn : ∀ a' w', Post E nt K (koff ao.op) base s w β V F a' w' → next a' w') :
    wpOp E.P cops Q i next a w := by
  unfold AW1 at hA
  unfold wpOp
  rw [hi]
  simp only
  split at hA
  · exact hA.elim
  · rename_i hw
    have := wanted_sound m r.tr hw
    rw [this]
    simp only [Bool.false_eq_true, if_false]
    rw [m.dst]
    exact hn _ _ (post_of_done r m.dlt hlt (.fz .hole) r.hr (Ext.refl _ _ _ _) (WX.refl w) (fun k hk => .inl hk) hA)
  · rename_i hw
    have := wanted_sound m r.tr hw
    rw [this]
    simp only [if_true]
    left
    have other : ∀ {av : AV} {h' : Hp}, aval base s.t s.h ao.op = some (av, h') → K ⟨putT ao.dst s.t av, h', s.n⟩ → o.wp E.P a w next Q := by
      intro av h' hv hK
      obtain ⟨v, w', β', V', h1, h2, h3, h4, h5, h6⟩ := aval_sound r.hr r.tr m.op m.ok hfr hv
      unfold Oper.wp
      rcases h1 with h1 | ⟨h1, rfl⟩
      · rw [h1]
        show next (a.put o.dst v) w'
        rw [m.dst]
        exact hn _ _ (post_of_done r m.dlt hlt h2 h3 h4 h5 h6 hK)
      · rw [h1]
        show next (a.put o.dst Go.undef) w'
        rw [m.dst]
        exact hn _ _ (post_of_done r m.dlt hlt h2 h3 h4 h5 h6 hK)
    split at hA
    · -- a pure call
      rename_i f args hop
      obtain ⟨args', rr, g1, g2, g3, g4⟩ := hA
      have hs := m.op
      have hok := m.ok
      rw [hop] at hs hok
      obtain ⟨ts, ho⟩ := strip_call hs
      have hrun := exec_call (a := a) (E := E) (g := f) (cv := #[]) ho (by simp [Act.eval]) g2.1 w
      unfold Oper.wp
      rw [hrun]
      have hsz : (((args.map (emitX E)).toArray.map a.eval) ++ #[]).size = (args.map (evX s.t)).length := by simp
      have hrv := args_rv r.tr hok
      rw [hop] at hn
      have := callp_sound (next := next) (Q := Q) (ko := koff (.callp f args)) (base := base) (K := K) r m.dlt (f := f) (vs := ((args.map (emitX E)).toArray.map a.eval) ++ #[]) hsz
        (fun i hi => by rw [Array.append_empty]; exact hrv i hi) g1 g2 g4 hn
      rw [← m.dst] at this
      exact this
    · -- a call of a function's value
      rename_i g args hop
      obtain ⟨f, caps, args', rr, e1, g1, g2, g3, g4⟩ := hA
      have hs := m.op
      have hok := m.ok
      rw [hop] at hs hok
      simp only [okO, Bool.and_eq_true] at hok
      obtain ⟨ts, ho⟩ := strip_call hs
      have rg := evX_sound r.tr hok.1
      rw [e1] at rg
      have hcv : ∃ cv, a.eval (emitX E g) = .func (.func (E.fn f)) #[] cv ∧ cv.size = caps.length ∧ ∀ i, i < caps.length → RV E w.heap β V F (caps.getD i .undef) (cv.getD i Go.undef) := by
        generalize a.eval (emitX E g) = v at rg
        cases rg with
        | fz r => cases r with | func _ _ cv hl hc => exact ⟨cv, rfl, hl, fun i hi => .fz (hc i hi)⟩
        | func _ _ cv hl hc => exact ⟨cv, rfl, hl, hc⟩
      obtain ⟨cv, c1, c2, c3⟩ := hcv
      have hrun := exec_call (a := a) (E := E) (g := f) (cv := cv) ho c1 g2.1 w
      unfold Oper.wp
      rw [hrun]
      have hsz : (((args.map (emitX E)).toArray.map a.eval) ++ cv).size = (args.map (evX s.t) ++ caps).length := by simp [c2]
      have hrv := args_rv r.tr hok.2
      rw [hop] at hn
      have := callp_sound (next := next) (Q := Q) (ko := koff (.callv g args)) (base := base) (K := K) r m.dlt (f := f) (vs := ((args.map (emitX E)).toArray.map a.eval) ++ cv) hsz
        (fun i hi => by
          by_cases hi2 : i < args.length
          · have e2 : (args.map (evX s.t) ++ caps).getD i .undef = (args.map (evX s.t)).getD i .undef := by
              simp only [List.getD_eq_getElem?_getD]; rw [List.getElem?_append_left (by simpa using hi2)]
            rw [e2, getD_append_left _ _ (by simpa using hi2)]
            exact hrv i (by simpa using hi2)
          · obtain ⟨j, rfl⟩ : ∃ j, i = args.length + j := ⟨i - args.length, by omega⟩
            have hj : j < caps.length := by simp at hi; omega
            have e2 : (args.map (evX s.t) ++ caps).getD (args.length + j) .undef = caps.getD j .undef := by
              simp only [List.getD_eq_getElem?_getD]; rw [List.getElem?_append_right (by simp)]; simp
            have e3 := getD_append_right ((args.map (emitX E)).toArray.map a.eval) cv (j := j)
            rw [show ((args.map (emitX E)).toArray.map a.eval).size = args.length by simp] at e3
            rw [e2, e3]
            exact c3 j hj) g1 g2 g4 hn
      rw [← m.dst] at this
      exact this
    · -- a call with memory
      rename_i f args hop
      obtain ⟨_, Rr, g2, g4⟩ := hA
      have hs := m.op
      have hok := m.ok
      rw [hop] at hs hok
      obtain ⟨ts, ho⟩ := strip_call hs
      have hrun := exec_call (a := a) (E := E) (g := f) (cv := #[]) ho (by simp [Act.eval]) g2.1 w
      unfold Oper.wp
      rw [hrun]
      have hsz : (((args.map (emitX E)).toArray.map a.eval) ++ #[]).size = (args.map (evX s.t)).length := by simp
      have hrv := args_rv r.tr hok
      rw [hop] at hn
      have := calls_sound (next := next) (Q := Q) (ko := koff (.calls f args)) (base := base) (K := K) r m.dlt (f := f) (vs := ((args.map (emitX E)).toArray.map a.eval) ++ #[]) hsz
        (fun i hi => by rw [Array.append_empty]; exact hrv i hi) g2 g4 hn
      rw [← m.dst] at this
      exact this
    · -- a frozen literal
      rename_i k c zs n ps hop
      obtain ⟨es, g1, g2, g3⟩ := hA
      have hs := m.op
      have hok := m.ok
      rw [hop] at hs hok hfr hlt hn
      have ho := strip_plain hs rfl
      obtain ⟨v, w', β', V', F', h1, h2, h3, h4, h5, h6⟩ := bslv_sound r.hr r.tr (hfr k rfl) hok g1 g2
      unfold Oper.wp
      have hrun : (execOp a.eval o).run E.P w = .ok (.value v) w' := by
        simp only [execOp, ho, emitO]
        exact run_v h1
      rw [hrun]
      show next (a.put o.dst v) w'
      rw [m.dst]
      exact hn _ _ (post_of_done r m.dlt hlt h2 h3 h4 h5 (fun q hq => by
        rcases h6 q hq with h | h
        · exact .inl h
        · exact .inr ⟨k, rfl, h⟩) g3)
    · obtain ⟨av, h', g1, g2, g3⟩ := hA
      exact other g1 g3

/-- Operations one after another. -/
theorem ops_sound {nt : Nat} {cops : Array Oper} {base : Nat} {Q : Exit → Act → World → Prop} : ∀ (is : List Nat) (aops : List AOper) (K : St → Prop) {s : St} {a : Act} {w : World} {β : Bt} {V F : Nat → Prop},
    RelO E nt s a w β V F → base ≤ s.n → is.length = aops.length → (∀ q, q < is.length → ∃ o, cops[is.getD q 0]? = some o ∧ MatchO E nt cops o (aops.getD q default)) →
    (aops.filterMap fun o => koff o.op).Nodup → (∀ k ∈ aops.filterMap (fun o => koff o.op), ¬ V (base + k) ∧ base + k < s.n) →
    AWL E false base W aops K s →
    (∀ s' a' w' β' V' F', K s' → RelO E nt s' a' w' β' V' F' → Ext w.heap β V F w'.heap β' V' F' → WX w w' → s.n ≤ s'.n → (∀ κ, V' κ → κ < base → V κ) → Q .normal a' w') →
    wpOps E.P cops Q is a w
  | [], [], K, s, a, w, β, V, F, r, _, _, _, _, _, hA, hn => hn s a w β V F hA r (Ext.refl _ _ _ _) (WX.refl w) (Nat.le_refl _) (fun _ h _ => h)
  | i :: is, ao :: aops, K, s, a, w, β, V, F, r, hb, hl, hm, hnd, hfr, hA, hn => by
    rw [wpOps_cons]
    obtain ⟨o, ho, m⟩ := hm 0 (by simp)
    simp only [List.getD_cons_zero] at ho m
    have hko : ∀ k, koff ao.op = some k → k ∈ (ao :: aops).filterMap (fun o => koff o.op) := by
      intro k hk
      simp [List.filterMap_cons, hk]
    refine step_sound r ho m (fun k hk => (hfr k (hko k hk)).1) (fun k hk => (hfr k (hko k hk)).2) hA ?_
    rintro a' w' ⟨s', β', V', F', hK, r', x, wx, hle, hv⟩
    have hsub : ∀ k ∈ aops.filterMap (fun o => koff o.op), k ∈ (ao :: aops).filterMap (fun o => koff o.op) ∧ ∀ k', koff ao.op = some k' → k ≠ k' := by
      intro k hk
      cases hka : koff ao.op with
      | none => simp only [List.filterMap_cons, hka]; exact ⟨hk, fun k' h => by cases h⟩
      | some k0 =>
        simp only [List.filterMap_cons, hka] at hnd ⊢
        refine ⟨List.mem_cons_of_mem _ hk, fun k' h => ?_⟩
        obtain rfl := Option.some.inj h
        rintro rfl
        exact (List.nodup_cons.1 hnd).1 hk
    have hnd' : (aops.filterMap fun o => koff o.op).Nodup := by
      cases hka : koff ao.op with
      | none => simpa only [List.filterMap_cons, hka] using hnd
      | some k0 => simp only [List.filterMap_cons, hka] at hnd; exact (List.nodup_cons.1 hnd).2
    refine ops_sound is aops K r' (Nat.le_trans hb hle) (by simpa using hl) (fun q hq => ?_) hnd' (fun k hk => ?_) hK (fun s2 a2 w2 β2 V2 F2 k1 k2 k3 k4 k5 k6 => hn s2 a2 w2 β2 V2 F2 k1 k2 (x.trans k3) (wx.trans k4) (Nat.le_trans hle k5) (fun κ h1 h2 => by
      rcases hv κ (k6 κ h1 h2) (by omega) with h | ⟨o', _, he⟩
      · exact h
      · omega))
    · have := hm (q + 1) (by simpa using hq)
      simpa using this
    · obtain ⟨h1, h2⟩ := hsub k hk
      obtain ⟨h3, h4⟩ := hfr k h1
      refine ⟨fun hV => ?_, Nat.lt_of_lt_of_le h4 hle⟩
      rcases hv _ hV h4 with h | ⟨o', ho', he⟩
      · exact h3 h
      · exact h2 o' ho' (by omega)
  | [], _ :: _, _, _, _, _, _, _, _, _, _, hl, _, _, _, _, _ => by simp at hl
  | _ :: _, [], _, _, _, _, _, _, _, _, _, hl, _, _, _, _, _ => by simp at hl

end Go.Proofs.YtablleokoifolaaGreatDoor

/- Own abstract machine, part 16: operations that may change places. -/
set_option linter.unusedVariables false
set_option linter.unusedSimpArgs false
namespace Go.Proofs.YtablleokoifolaaGreatDoor
open Go Go.RowKit

variable {W : Nat → Nat → Nat → Prop} {E : Env} {base : Nat}

def usesX : AX → List Nat
  | .t i => [i]
  | _ => []
def usesOX : Option AX → List Nat
  | some x => usesX x
  | none => []
def usesXO : XOp → List Nat
  | .cap _ x | .pan x => usesX x
  | .appZ _ _ _ _ _ s n => usesX s ++ usesX n
  | .mkmap _ _ => []
  | .mlook _ _ m key => usesX m ++ usesX key
  | .mset _ m key v => usesX m ++ (usesX key ++ usesX v)
def usesO : AOp → List Nat
  | .x o => usesXO o
  | .mov x | .asg x | .box _ _ x | .nilchk x | .un _ x | .convi _ _ _ x | .mkif _ x | .fld _ _ _ _ _ x | .faddr _ _ _ x | .lenS _ x | .len _ x | .ext x _ | .load _ _ _ x => usesX x
  | .pick c a b => usesX c ++ (usesX a ++ usesX b)
  | .alloc _ _ _ => []
  | .build _ _ ps => ps.flatMap fun p => usesX p.2.2.2
  | .bslice _ _ _ _ ps | .bslv _ _ _ _ ps => ps.flatMap fun p => usesX p.2
  | .store _ _ a x | .bin _ _ _ a x | .iaddr _ _ a x | .iaddrA _ _ _ a x | .idxA _ _ _ _ a x | .idxS _ a x | .app _ _ _ _ a x | .appN _ _ _ _ a x | .mm _ _ _ a x => usesX a ++ usesX x
  | .mkfn _ xs | .callp _ xs | .calls _ xs => xs.flatMap usesX
  | .slcS _ x lo hi | .slc _ _ x lo hi => usesX x ++ (usesOX lo ++ usesOX hi)
  | .callv g xs => usesX g ++ xs.flatMap usesX

/-- How an operation meets the objects: 0 not at all, 1 it reads, 2 it makes one, 3 it changes one, 4 a call. -/
def hclass : AOp → Nat
  | .x (.cap ..) | .x (.pan ..) => 0
  | .x _ => 4
  | .load .. | .iaddr .. | .slc .. => 1
  | .alloc .. | .box .. | .bslice .. | .appN .. => 2
  | .store .. | .app .. => 3
  | .calls .. => 4
  | _ => 0

theorem evX_congr {t t' : Nat → AV} {x : AX} (hx : ∀ i ∈ usesX x, t i = t' i) : evX t x = evX t' x := by
  cases x with
  | t i => exact hx i (by simp [usesX])
  | _ => rfl
theorem evOX_congr {t t' : Nat → AV} {x : Option AX} (hx : ∀ i ∈ usesOX x, t i = t' i) : x.map (evX t) = x.map (evX t') := by
  cases x with
  | none => rfl
  | some x => simp only [Option.map_some]; rw [evX_congr (by simpa [usesOX] using hx)]
theorem evL_congr {α : Type} {t t' : Nat → AV} {xs : List α} {g : α → AX} (hx : ∀ i ∈ xs.flatMap (fun p => usesX (g p)), t i = t' i) : ∀ p ∈ xs, evX t (g p) = evX t' (g p) :=
  fun p hp => evX_congr fun i hi => hx i (List.mem_flatMap.2 ⟨p, hp, hi⟩)

theorem xval_congr {t t' : Nat → AV} {h : Hp} {op : XOp} (hu : ∀ i ∈ usesXO op, t i = t' i) : xval base t h op = xval base t' h op := by
  cases op <;> simp only [usesXO, List.mem_append] at hu <;> simp only [xval]
  · rw [evX_congr hu]
  · rename_i k c ci b zs s n
    rw [evX_congr (x := s) (fun i hi => hu i (.inl hi)), evX_congr (x := n) (fun i hi => hu i (.inr hi))]
  · rename_i c z m key
    rw [evX_congr (x := m) (fun i hi => hu i (.inl hi)), evX_congr (x := key) (fun i hi => hu i (.inr hi))]
  · rename_i c m key v
    rw [evX_congr (x := m) (fun i hi => hu i (.inl hi)), evX_congr (x := key) (fun i hi => hu i (.inr (.inl hi))), evX_congr (x := v) (fun i hi => hu i (.inr (.inr hi)))]

theorem aval_congr {t t' : Nat → AV} {h : Hp} {op : AOp} (hu : ∀ i ∈ usesO op, t i = t' i) : aval base t h op = aval base t' h op := by
  cases op <;> simp only [usesO, List.mem_append] at hu
  case x o => exact xval_congr hu
  all_goals first
    | rfl
    | (simp only [aval]; rw [evX_congr hu])
    | (rename_i a x; simp only [aval]; rw [evX_congr (x := a) (fun i hi => hu i (.inl hi)), evX_congr (x := x) (fun i hi => hu i (.inr hi))])
    | skip
  · rename_i c a b
    simp only [aval]
    rw [evX_congr (x := c) (fun i hi => hu i (.inl hi)), evX_congr (x := a) (fun i hi => hu i (.inr (.inl hi))), evX_congr (x := b) (fun i hi => hu i (.inr (.inr hi)))]
  · rename_i c zs ps
    simp only [aval]
    rw [List.map_congr_left (fun p hp => by rw [evL_congr (g := fun p : Nat × Nat × Nat × AX => p.2.2.2) hu p hp])]
  · rename_i k c zs n ps
    simp only [aval]
    rw [List.map_congr_left (fun p hp => by rw [evL_congr (g := fun p : Nat × AX => p.2) hu p hp])]
  · rename_i f xs
    simp only [aval]
    rw [List.map_congr_left (fun p hp => evL_congr (g := fun p : AX => p) hu p hp)]
  · rename_i c x lo hi
    simp only [aval]
    rw [evX_congr (x := x) (fun i h => hu i (.inl h)), evOX_congr (x := lo) (fun i h => hu i (.inr (.inl h))), evOX_congr (x := hi) (fun i h => hu i (.inr (.inr h)))]
  · rename_i c e x lo hi
    simp only [aval]
    rw [evX_congr (x := x) (fun i h => hu i (.inl h)), evOX_congr (x := lo) (fun i h => hu i (.inr (.inl h))), evOX_congr (x := hi) (fun i h => hu i (.inr (.inr h)))]

/-- What one operation gives, where no call with memory stands. -/
def AV1 (E : Env) (base : Nat) (W : Nat → Nat → Nat → Prop) (o : AOp) (t : Nat → AV) (h : Hp) (v : AV) (h' : Hp) : Prop :=
  match o with
  | .callp f args => h' = h ∧ ∃ args', frzL h (args.map (evX t)) = some args' ∧ ACallP E f args' v ∧ frzKL h (args.map (evX t)) = []
  | .callv g args => h' = h ∧ ∃ f caps args', evX t g = .func f caps ∧ frzL h (args.map (evX t) ++ caps) = some args' ∧ ACallP E f args' v ∧ frzKL h (args.map (evX t) ++ caps) = []
  | .calls _ _ => False
  | .bslv _ _ zs n ps => h' = h ∧ ∃ es, afillE zs.length (List.replicate n zs) (ps.map fun p => (p.1, evX t p.2)) = some es ∧ es.all (fun c => c.all kf0) = true ∧ v = .slv (es.map fun c => c.map nz)
  | op => aval base t h op = some (v, h') ∧ rdOk base W t op

theorem roAll_nil (h : Hp) : roAll [] h = h := by funext κ; simp [roAll]

def AW1' (E : Env) (base : Nat) (W : Nat → Nat → Nat → Prop) (o : AOper) (K : St → Prop) (s : St) : Prop :=
  match wantA o.guard s.t with
  | none => False
  | some false => K ⟨putT o.dst s.t .hole, s.h, s.n⟩
  | some true => ∃ v h', AV1 E base W o.op s.t s.h v h' ∧ K ⟨putT o.dst s.t v, h', s.n⟩

theorem AW1_to {o : AOper} {K : St → Prop} {s : St} (h : AW1 E true base W o K s) : AW1' E base W o K s := by
  unfold AW1 at h
  unfold AW1'
  split at h
  · exact h.elim
  · rename_i hw; rw [hw]; exact h
  · rename_i hw
    rw [hw]
    simp only
    split at h
    · rename_i f args hop
      obtain ⟨args', r, g1, g2, g3, g4⟩ := h
      refine ⟨r, s.h, ?_, by rw [g3 rfl, roAll_nil] at g4; exact g4⟩
      rw [hop]; exact ⟨rfl, args', g1, g2, g3 rfl⟩
    · rename_i g args hop
      obtain ⟨f, caps, args', r, e1, g1, g2, g3, g4⟩ := h
      refine ⟨r, s.h, ?_, by rw [g3 rfl, roAll_nil] at g4; exact g4⟩
      rw [hop]; exact ⟨rfl, f, caps, args', e1, g1, g2, g3 rfl⟩
    · exact absurd h.1 (by simp)
    · rename_i k c zs n ps hop
      obtain ⟨es, g1, g2, g3⟩ := h
      refine ⟨_, s.h, ?_, g3⟩
      rw [hop]; exact ⟨rfl, es, g1, g2, rfl⟩
    · rename_i n1 n2 n3 n4
      obtain ⟨v, h', g1, g2, g3⟩ := h
      refine ⟨v, h', ?_, g3⟩
      unfold AV1
      split
      · rename_i f args hop; exact absurd hop (n1 f args)
      · rename_i f args hop; exact absurd hop (n2 f args)
      · rename_i f args hop; exact absurd hop (n3 f args)
      · rename_i a b c d e hop; exact absurd hop (n4 a b c d e)
      · exact ⟨g1, g2 rfl⟩

theorem AW1_of {o : AOper} {K : St → Prop} {s : St} (h : AW1' E base W o K s) : AW1 E true base W o K s := by
  unfold AW1' at h
  unfold AW1
  split at h
  · exact h.elim
  · rename_i hw; rw [hw]; exact h
  · rename_i hw
    rw [hw]
    simp only
    obtain ⟨v, h', g, hK⟩ := h
    unfold AV1 at g
    split at g
    · rename_i f args hop
      rw [hop]
      obtain ⟨rfl, args', g1, g2, g3⟩ := g
      exact ⟨args', v, g1, g2, fun _ => g3, by rw [g3, roAll_nil]; exact hK⟩
    · rename_i f args hop
      rw [hop]
      obtain ⟨rfl, f, caps, args', e1, g1, g2, g3⟩ := g
      exact ⟨f, caps, args', v, e1, g1, g2, fun _ => g3, by rw [g3, roAll_nil]; exact hK⟩
    · exact g.elim
    · rename_i k c zs n ps hop
      rw [hop]
      obtain ⟨rfl, es, g1, g2, rfl⟩ := g
      exact ⟨es, g1, g2, hK⟩
    · rename_i n1 n2 n3 n4
      split
      · rename_i f args hop; exact absurd hop (n1 f args)
      · rename_i f args hop; exact absurd hop (n2 f args)
      · rename_i f args hop; exact absurd hop (n3 f args)
      · rename_i a b c d e hop; exact absurd hop (n4 a b c d e)
      · exact ⟨v, h', g.1, fun _ => g.2, hK⟩

theorem AW1'_mono {o : AOper} {K K' : St → Prop} {s : St} (hk : ∀ s, K s → K' s) (h : AW1' E base W o K s) : AW1' E base W o K' s := by
  unfold AW1' at h ⊢
  split at h
  · exact h.elim
  · exact hk _ h
  · obtain ⟨v, h', g1, g2⟩ := h
    exact ⟨v, h', g1, hk _ g2⟩

theorem rdOk_congr {t t' : Nat → AV} {op : AOp} (hu : ∀ i ∈ usesO op, t i = t' i) (h : rdOk base W t op) : rdOk base W t' op := by
  cases op <;> simp only [usesO, List.mem_append] at hu <;> simp only [rdOk] at h ⊢
  · rw [← evX_congr hu]; exact h
  · rw [← evX_congr (fun i hi => hu i (.inl hi))]; exact h
  · rw [← evX_congr (fun i hi => hu i (.inl hi))]; exact h
  · rw [← evX_congr (fun i hi => hu i (.inl hi))]; exact h
  · rw [← evX_congr (fun i hi => hu i (.inr hi))]; exact h

theorem AV1_congr {t t' : Nat → AV} {h h' : Hp} {v : AV} {op : AOp} (hu : ∀ i ∈ usesO op, t i = t' i) (hv : AV1 E base W op t h v h') : AV1 E base W op t' h v h' := by
  unfold AV1 at hv ⊢
  split at hv
  · rename_i f args
    have e : args.map (evX t) = args.map (evX t') := List.map_congr_left (evL_congr (g := fun p : AX => p) hu)
    rw [← e]; exact hv
  · rename_i g args
    simp only [usesO, List.mem_append] at hu
    have e : args.map (evX t) = args.map (evX t') := List.map_congr_left (evL_congr (g := fun p : AX => p) (fun i hi => hu i (.inr hi)))
    rw [← e, ← evX_congr (fun i hi => hu i (.inl hi))]; exact hv
  · exact hv
  · rename_i k c zs n ps
    have e : ps.map (fun p => (p.1, evX t p.2)) = ps.map (fun p => (p.1, evX t' p.2)) := List.map_congr_left (fun p hp => by rw [evL_congr (g := fun p : Nat × AX => p.2) hu p hp])
    rw [← e]; exact hv
  · exact ⟨by rw [← aval_congr hu]; exact hv.1, rdOk_congr hu hv.2⟩

/-- Freezing that meets no key does not look at the objects. -/
theorem frz_any {h : Hp} (h2 : Hp) : ∀ (k : Nat) {x y : AV}, frz h k x = some y → frzK h k x = [] → frz h2 k x = some y ∧ frzK h2 k x = []
  | 0, x, y, hx, _ => by cases hx
  | k + 1, x, y, hx, hk => by
    have cells : ∀ (cs cs' : List AV), cs.mapM (frz h k) = some cs' → cs.flatMap (frzK h k) = [] → cs.mapM (frz h2 k) = some cs' ∧ cs.flatMap (frzK h2 k) = [] := by
      intro cs
      induction cs with
      | nil => intro cs' hm _; exact ⟨hm, rfl⟩
      | cons c cs ih =>
        intro cs' hm hkk
        simp only [List.flatMap_cons, List.append_eq_nil_iff] at hkk
        simp only [List.mapM_cons, Option.bind_eq_bind, Option.bind_eq_some_iff, Option.pure_def, Option.some.injEq] at hm
        obtain ⟨b, hb, bs, hbs, rfl⟩ := hm
        obtain ⟨i1, i2⟩ := ih bs hbs hkk.2
        obtain ⟨j1, j2⟩ := frz_any h2 k hb hkk.1
        exact ⟨by simp [List.mapM_cons, i1, j1], by simp [i2, j2]⟩
    cases x with
    | ptr κ i o => simp only [frzK] at hk; cases hk
    | sl κ lo n => simp only [frzK] at hk; cases hk
    | func f cs =>
      simp only [frz] at hx ⊢
      simp only [frzK] at hk ⊢
      obtain ⟨cs', hm, rfl⟩ := Option.map_eq_some_iff.1 hx
      obtain ⟨i1, i2⟩ := cells _ _ hm hk
      exact ⟨by rw [i1]; rfl, i2⟩
    | iface c x =>
      simp only [frz] at hx ⊢
      simp only [frzK] at hk ⊢
      obtain ⟨x', hm, rfl⟩ := Option.map_eq_some_iff.1 hx
      obtain ⟨i1, i2⟩ := frz_any h2 k hm hk
      exact ⟨by rw [i1]; rfl, i2⟩
    | agg cs =>
      simp only [frz] at hx ⊢
      simp only [frzK] at hk ⊢
      obtain ⟨cs', hm, rfl⟩ := Option.map_eq_some_iff.1 hx
      obtain ⟨i1, i2⟩ := cells _ _ hm hk
      exact ⟨by rw [i1]; rfl, i2⟩
    | tup cs =>
      simp only [frz] at hx ⊢
      simp only [frzK] at hk ⊢
      obtain ⟨cs', hm, rfl⟩ := Option.map_eq_some_iff.1 hx
      obtain ⟨i1, i2⟩ := cells _ _ hm hk
      exact ⟨by rw [i1]; rfl, i2⟩
    | map κ => cases hx
    | _ => exact ⟨hx, hk⟩

theorem frzM_any {h : Hp} (h2 : Hp) (k : Nat) : ∀ {l l' : List AV}, l.mapM (frz h k) = some l' → l.flatMap (frzK h k) = [] → l.mapM (frz h2 k) = some l' ∧ l.flatMap (frzK h2 k) = []
  | [], l', hm, _ => ⟨hm, rfl⟩
  | c :: l, l', hm, hk => by
    simp only [List.flatMap_cons, List.append_eq_nil_iff] at hk
    simp only [List.mapM_cons, Option.bind_eq_bind, Option.bind_eq_some_iff, Option.pure_def, Option.some.injEq] at hm
    obtain ⟨b, hb, bs, hbs, rfl⟩ := hm
    obtain ⟨i1, i2⟩ := frzM_any h2 k (l := l) hbs hk.2
    obtain ⟨j1, j2⟩ := frz_any h2 k hb hk.1
    exact ⟨by simp [List.mapM_cons, i1, j1], by simp [i2, j2]⟩

theorem frzL_any {h : Hp} (h2 : Hp) {l l' : List AV} (hm : frzL h l = some l') (hk : frzKL h l = []) : frzL h2 l = some l' ∧ frzKL h2 l = [] := frzM_any h2 FZ hm hk

theorem aval_free {t : Nat → AV} {op : AOp} (hc : hclass op = 0) (h h2 : Hp) : aval base t h2 op = (aval base t h op).map fun p => (p.1, h2) := by
  cases op <;> first | (simp [hclass] at hc; done) | rfl | skip
  case x o =>
    cases o <;> first | (simp [hclass] at hc; done) | rfl | skip
    rename_i c x
    simp only [aval, xval]
    generalize evX t x = a
    cases a <;> rfl
  all_goals simp only [aval]
  all_goals first
    | (rename_i x; generalize evX t x = a; cases a <;> rfl)
    | (rename_i c a b; generalize evX t c = q; cases q <;> rfl)
    | (rw [Option.map_map]; congr 1)
    | (rename_i x y; generalize evX t x = a; generalize evX t y = b; cases a <;> cases b <;> first | rfl | (simp only []; repeat' split) <;> first | rfl | (rw [Option.map_map]; congr 1))
    | (rename_i x; generalize evX t x = a; cases a <;> first | rfl | (simp only []; repeat' split) <;> first | rfl | (rw [Option.map_map]; congr 1))
    | (rename_i x i; generalize evX t x = a; cases a <;> first | rfl | (simp only []; repeat' split) <;> first | rfl | (rw [Option.map_map]; congr 1))
    | (rename_i x lo hi; generalize evX t x = a; cases a <;> first | rfl | (simp only []; repeat' split) <;> first | rfl | (rw [Option.map_map]; congr 1))

theorem AV1_free {t : Nat → AV} {h h' : Hp} {v : AV} {op : AOp} (hc : hclass op = 0) (hv : AV1 E base W op t h v h') : h' = h ∧ ∀ h2, AV1 E base W op t h2 v h2 := by
  unfold AV1 at hv
  split at hv
  · obtain ⟨rfl, args', g1, g2, g3⟩ := hv
    refine ⟨rfl, fun h2 => ?_⟩
    obtain ⟨k1, k2⟩ := frzL_any h2 g1 g3
    exact ⟨rfl, args', k1, g2, k2⟩
  · obtain ⟨rfl, f, caps, args', e1, g1, g2, g3⟩ := hv
    refine ⟨rfl, fun h2 => ?_⟩
    obtain ⟨k1, k2⟩ := frzL_any h2 g1 g3
    exact ⟨rfl, f, caps, args', e1, k1, g2, k2⟩
  · exact hv.elim
  · obtain ⟨rfl, es, g1, g2, g3⟩ := hv
    exact ⟨rfl, fun h2 => ⟨rfl, es, g1, g2, g3⟩⟩
  · rename_i n1 n2 n3 n4
    obtain ⟨g1, g2⟩ := hv
    have key : h' = h ∧ ∀ h2, aval base t h2 op = some (v, h2) := by
      have e := aval_free (base := base) (t := t) hc h h
      rw [g1] at e
      simp only [Option.map_some, Option.some.injEq, Prod.mk.injEq, true_and] at e
      exact ⟨e, fun h2 => by rw [aval_free hc h h2, g1]; rfl⟩
    refine ⟨key.1, fun h2 => ?_⟩
    unfold AV1
    split
    · exact absurd rfl (n1 _ _)
    · exact absurd rfl (n2 _ _)
    · exact absurd rfl (n3 _ _)
    · exact absurd rfl (n4 _ _ _ _ _)
    · exact ⟨key.2 h2, g2⟩

end Go.Proofs.YtablleokoifolaaGreatDoor

/- Own abstract machine, part 17: two operations change places. -/
set_option linter.unusedVariables false
set_option linter.unusedSimpArgs false
namespace Go.Proofs.YtablleokoifolaaGreatDoor
open Go Go.RowKit

variable {W : Nat → Nat → Nat → Prop} {E : Env} {base : Nat}

theorem pcells_upd {h : Hp} {p : AV} (hk : klt base p) {κ : Nat} (x : Option AObj) (hκ : base ≤ κ) : pcells (upd h κ x) p = pcells h p := by
  cases p <;> first | rfl | skip
  rename_i κ' i o
  have : κ' ≠ κ := by simp only [klt] at hk; omega
  simp only [pcells, upd_ne _ _ _ this]

theorem AV1_read {t : Nat → AV} {h h' : Hp} {v : AV} {op : AOp} (hc : hclass op = 1) (hv : AV1 E base W op t h v h') :
    h' = h ∧ ∀ κ x, base ≤ κ → AV1 E base W op t (upd h κ x) v (upd h κ x) := by
  cases op <;> first | (simp [hclass] at hc; done) | skip
  case x o => cases o <;> simp [hclass] at hc
  · rename_i c ag n a
    obtain ⟨g1, g2⟩ := hv
    simp only [aval] at g1
    obtain ⟨u, hu, g1⟩ := Option.map_eq_some_iff.1 g1
    simp only [Prod.mk.injEq] at g1
    obtain ⟨rfl, rfl⟩ := g1
    refine ⟨rfl, fun κ x hκ => ⟨?_, g2⟩⟩
    have : aload (upd h κ x) ag n (evX t a) = some u := by
      unfold aload at hu ⊢
      rw [pcells_upd g2.1 x hκ]; exact hu
    simp only [aval, this, Option.map_some]
  · rename_i c esz s i
    obtain ⟨g1, g2⟩ := hv
    simp only [aval] at g1
    obtain ⟨u, hu, g1⟩ := Option.map_eq_some_iff.1 g1
    simp only [Prod.mk.injEq] at g1
    obtain ⟨rfl, rfl⟩ := g1
    refine ⟨rfl, fun κ x hκ => ⟨?_, g2⟩⟩
    have : aiaddr (upd h κ x) esz (evX t s) (evX t i) = some u := by
      simp only [rdOk] at g2
      generalize evX t s = a at *
      generalize evX t i = b at *
      cases a <;> first | exact hu | (cases b <;> exact hu) | skip
      rename_i κ' lo n
      have hne : κ' ≠ κ := by simp only [klt] at g2; omega
      unfold aiaddr at hu ⊢
      cases b <;> first | exact hu | skip
      simp only [upd_ne _ _ _ hne]; exact hu
    simp only [aval, this, Option.map_some]
  · rename_i c esz s lo hi
    obtain ⟨g1, g2⟩ := hv
    simp only [aval] at g1
    obtain ⟨u, hu, g1⟩ := Option.map_eq_some_iff.1 g1
    simp only [Prod.mk.injEq] at g1
    obtain ⟨rfl, rfl⟩ := g1
    refine ⟨rfl, fun κ x hκ => ⟨?_, g2⟩⟩
    have : aslc (upd h κ x) esz (evX t s) (lo.map (evX t)) (hi.map (evX t)) = some u := by
      simp only [rdOk] at g2
      generalize evX t s = a at *
      cases a <;> first | exact hu | skip
      rename_i κ' b n
      have hne : κ' ≠ κ := by simp only [klt] at g2; omega
      unfold aslc at hu ⊢
      simp only [upd_ne _ _ _ hne]; exact hu
    simp only [aval, this, Option.map_some]

theorem AV1_create {t : Nat → AV} {h h' : Hp} {v : AV} {op : AOp} (hc : hclass op = 2) (hnn : ∀ a b c d e f, op ≠ .appN a b c d e f) (hv : AV1 E base W op t h v h') :
    ∃ k x, koff op = some k ∧ h' = upd h (base + k) x ∧ ∀ h2, AV1 E base W op t h2 v (upd h2 (base + k) x) := by
  cases op <;> first | (simp [hclass] at hc; done) | skip
  case x o => cases o <;> simp [hclass] at hc
  · rename_i k c zs
    obtain ⟨g1, g2⟩ := hv
    simp only [aval, Option.some.injEq, Prod.mk.injEq] at g1
    obtain ⟨rfl, rfl⟩ := g1
    exact ⟨k, _, rfl, rfl, fun h2 => ⟨rfl, trivial⟩⟩
  · rename_i k c x
    obtain ⟨g1, g2⟩ := hv
    simp only [aval, bval] at g1
    split at g1
    · rename_i hcc
      simp only [Option.some.injEq, Prod.mk.injEq] at g1
      obtain ⟨rfl, rfl⟩ := g1
      exact ⟨k, _, rfl, rfl, fun h2 => ⟨by simp only [aval, bval, if_pos hcc], trivial⟩⟩
    · cases g1
  · rename_i k c zs n ps
    obtain ⟨g1, g2⟩ := hv
    simp only [aval] at g1
    obtain ⟨u, hu, g1⟩ := Option.map_eq_some_iff.1 g1
    simp only [Prod.mk.injEq] at g1
    obtain ⟨rfl, rfl⟩ := g1
    exact ⟨k, _, rfl, rfl, fun h2 => ⟨by simp only [aval, hu, Option.map_some], trivial⟩⟩
  · exact absurd rfl (hnn _ _ _ _ _ _)

/-- What an operation does to the objects: nothing, or one new one. -/
def appM (base : Nat) (m : Option (Nat × Option AObj)) (h : Hp) : Hp := match m with
  | none => h
  | some (k, x) => upd h (base + k) x

theorem selems_upd {h : Hp} {esz : Nat} {x : AV} (hk : klt base x) {κ : Nat} (y : Option AObj) (hκ : base ≤ κ) : selems (upd h κ y) esz x = selems h esz x := by
  cases x <;> first | rfl | skip
  rename_i κ' lo n
  have hne : κ' ≠ κ := by simp only [klt] at hk; omega
  simp only [selems, upd_ne _ _ _ hne]

theorem AV1_rc {t : Nat → AV} {h h' : Hp} {v : AV} {op : AOp} (hc : hclass op ≤ 2) (hv : AV1 E base W op t h v h') :
    ∃ m, (∀ k x, m = some (k, x) → koff op = some k) ∧ h' = appM base m h ∧ ∀ κ y, base ≤ κ → AV1 E base W op t (upd h κ y) v (appM base m (upd h κ y)) := by
  have h3 : hclass op = 0 ∨ hclass op = 1 ∨ hclass op = 2 := by omega
  rcases h3 with h0 | h1 | h2
  · obtain ⟨rfl, f⟩ := AV1_free h0 hv
    exact ⟨none, fun k x e => (by cases e), rfl, fun κ y _ => f _⟩
  · obtain ⟨rfl, f⟩ := AV1_read h1 hv
    exact ⟨none, fun k x e => (by cases e), rfl, fun κ y hκ => f κ y hκ⟩
  · by_cases hn : ∃ k c esz bytes s x, op = .appN k c esz bytes s x
    · obtain ⟨k, c, esz, bytes, s, x, rfl⟩ := hn
      obtain ⟨g1, g2⟩ := hv
      simp only [aval] at g1
      split at g1
      · rename_i es
        simp only [rdOk] at g2
        unfold aapp at g1
        split at g1
        · cases g1
        · rename_i xs hx
          simp only at g1
          split at g1
          · rename_i hlim
            by_cases he : xs.isEmpty = true
            · rw [if_pos he] at g1
              simp only [Option.some.injEq, Prod.mk.injEq] at g1
              obtain ⟨rfl, rfl⟩ := g1
              refine ⟨none, fun k x e => (by cases e), rfl, fun κ y hκ => ⟨?_, g2⟩⟩
              simp only [aval, es, aapp, selems_upd g2 y hκ, hx, if_pos hlim, if_pos he, appM]
            · rw [if_neg he] at g1
              simp only [Option.some.injEq, Prod.mk.injEq] at g1
              obtain ⟨rfl, rfl⟩ := g1
              refine ⟨some (k, _), fun k x e => (by cases e; rfl), rfl, fun κ y hκ => ⟨?_, g2⟩⟩
              simp only [aval, es, aapp, selems_upd g2 y hκ, hx, if_pos hlim, if_neg he, appM]
          · cases g1
      · cases g1
    · obtain ⟨k, x, hk, rfl, f⟩ := AV1_create h2 (fun a b c d e f e' => hn ⟨a, b, c, d, e, f, e'⟩) hv
      exact ⟨some (k, x), fun k' x' e => (by cases e; exact hk), rfl, fun κ y _ => f _⟩

/-! ### Stores and loads that are told apart by their cells -/
def farStore : AOp → Bool
  | .store c _ _ _ => far c
  | _ => false
def farOk : AOp → Bool
  | .alloc .. | .box .. | .bslice .. | .iaddr .. | .slc .. => true
  | .load c _ _ _ => far c
  | _ => false

theorem upd_upd_comm {α : Type} {f : Nat → α} {k k' : Nat} {x y : α} (hne : k ≠ k') : upd (upd f k x) k' y = upd (upd f k' y) k x := by
  funext i
  simp only [upd]
  by_cases h1 : i = k
  · subst h1; simp [hne]
  · simp [h1]

theorem far_store {t : Nat → AV} {h h' : Hp} {v : AV} {op : AOp} (hf : farStore op = true) (hv : AV1 E base W op t h v h') :
    ∃ κ i o n esz es new, κ < base ∧ (∀ q, o ≤ q → q < o + n → W κ i q) ∧ h κ = some (.row false esz es) ∧ o + n ≤ (es.getD i []).length ∧ new.length = n ∧
      h' = upd h κ (some (.row false esz (es.set i (splice (es.getD i []) o new)))) ∧
      ∀ h2, h2 κ = h κ → AV1 E base W op t h2 v (upd h2 κ (some (.row false esz (es.set i (splice (es.getD i []) o new))))) := by
  cases op <;> first | (simp [farStore] at hf; done) | skip
  rename_i c n a x
  obtain ⟨g1, g2⟩ := hv
  have hc := g2 (by simpa [farStore] using hf)
  simp only [aval] at g1
  obtain ⟨u, hu, g1⟩ := Option.map_eq_some_iff.1 g1
  simp only [Prod.mk.injEq] at g1
  obtain ⟨rfl, rfl⟩ := g1
  have hu' := hu
  unfold astore at hu
  split at hu
  · rename_i κ i o hp
    rw [hp] at hc
    split at hu
    · rename_i esz es hκ
      split at hu
      · rename_i hcond
        obtain rfl := Option.some.inj hu
        refine ⟨κ, i, o, n, esz, es, cellsL (evX t x), hc.1, hc.2, hκ, hcond.2.1, hcond.2.2.1, rfl, fun h2 h2κ => ⟨?_, g2⟩⟩
        simp only [aval, astore, hp, h2κ, hκ, if_pos hcond, Option.map_some]
      · cases hu
    · cases hu
  · cases hu

theorem far_read {t : Nat → AV} {h : Hp} {v : AV} {op : AOp} (hf : farOk op = true) (h1 : hclass op = 1) {κ i o n esz : Nat} {es : List (List AV)} {new : List AV}
    (hW : ∀ q, o ≤ q → q < o + n → W κ i q) (hκ : h κ = some (.row false esz es)) (hl : o + n ≤ (es.getD i []).length) (hn : new.length = n) :
    AV1 E base W op t h v h ↔ AV1 E base W op t (upd h κ (some (.row false esz (es.set i (splice (es.getD i []) o new))))) v (upd h κ (some (.row false esz (es.set i (splice (es.getD i []) o new))))) := by
  generalize hg : upd h κ (some (.row false esz (es.set i (splice (es.getD i []) o new)))) = g
  have gk : g κ = some (.row false esz (es.set i (splice (es.getD i []) o new))) := by rw [← hg, upd_same]
  have gn : ∀ κ', κ' ≠ κ → g κ' = h κ' := fun κ' hne => by rw [← hg, upd_ne _ _ _ hne]
  cases op <;> first | (simp [hclass] at h1; done) | (simp [farOk] at hf; done) | skip
  · rename_i c ag m a
    have hfar : far c = true := by simpa [farOk] using hf
    simp only [AV1, aval]
    have key : ∀ hr : rdOk base W t (.load c ag m a), aload g ag m (evX t a) = aload h ag m (evX t a) := by
      intro hr
      have hout := hr.2 hfar
      generalize evX t a = p at hout
      cases p <;> first | rfl | skip
      rename_i κ' i' o'
      by_cases hk : κ' = κ
      · subst hk
        simp only [aload, pcells, gk, hκ, List.length_set]
        by_cases hi' : i' < es.length
        · simp only [if_pos hi']
          by_cases hii : i' = i
          · subst hii
            have e1 : (es.set i' (splice (es.getD i' []) o new)).getD i' [] = splice (es.getD i' []) o new := by simp [List.getD_eq_getElem?_getD, hi']
            rw [e1]
            have hl' : o + new.length ≤ (es.getD i' []).length := by omega
            clear e1 gk gn hg
            generalize es.getD i' [] = row at hl hl'
            simp only [List.length_drop, splice_len hl']
            split
            · rename_i hm
              have : ((splice row o new).drop o').take m = (row.drop o').take m := by
                apply List.ext_getElem
                · simp [splice_len hl']
                · intro q q1 q2
                  simp only [List.length_take, List.length_drop] at q2
                  have hq : o' + q < row.length := by omega
                  have hs := splice_getD hl' (o' + q) .undef
                  have hnot : ¬ (o ≤ o' + q ∧ o' + q < o + new.length) := by
                    rintro ⟨a1, a2⟩
                    exact hout (o' + q) (by omega) (by omega) (hW (o' + q) (by omega) (by omega))
                  rw [if_neg hnot] at hs
                  have hq3 : o' + q < (splice row o new).length := by rw [splice_len hl']; exact hq
                  simp only [List.getElem_take, List.getElem_drop]
                  simpa only [List.getD_eq_getElem?_getD, List.getElem?_eq_getElem hq3, List.getElem?_eq_getElem hq, Option.getD_some] using hs
              rw [this]
            · rfl
          · have e1 : (es.set i (splice (es.getD i []) o new)).getD i' [] = es.getD i' [] := by simp [List.getD_eq_getElem?_getD, List.getElem?_set, Ne.symm hii]
            rw [e1]
        · simp only [if_neg hi']
      · simp only [aload, pcells, gn κ' hk]
    constructor
    · rintro ⟨k1, k2⟩
      refine ⟨?_, k2⟩
      rw [key k2]
      obtain ⟨u, hu, k1⟩ := Option.map_eq_some_iff.1 k1
      simp only [Prod.mk.injEq, and_true] at k1
      rw [hu, k1]; rfl
    · rintro ⟨k1, k2⟩
      refine ⟨?_, k2⟩
      rw [key k2] at k1
      obtain ⟨u, hu, k1⟩ := Option.map_eq_some_iff.1 k1
      simp only [Prod.mk.injEq, and_true] at k1
      rw [hu, k1]; rfl
  · rename_i c e s x
    simp only [AV1, aval]
    have key : aiaddr g e (evX t s) (evX t x) = aiaddr h e (evX t s) (evX t x) := by
      generalize evX t s = p
      generalize evX t x = q
      cases p <;> first | rfl | (cases q <;> rfl) | skip
      rename_i κ' lo m
      cases q <;> first | rfl | skip
      by_cases hk : κ' = κ
      · subst hk; simp only [aiaddr, gk, hκ, List.length_set]
      · simp only [aiaddr, gn κ' hk]
    rw [key]
    constructor
    · rintro ⟨k1, k2⟩
      obtain ⟨u, hu, k1⟩ := Option.map_eq_some_iff.1 k1
      simp only [Prod.mk.injEq, and_true] at k1
      exact ⟨by rw [hu, k1]; rfl, k2⟩
    · rintro ⟨k1, k2⟩
      obtain ⟨u, hu, k1⟩ := Option.map_eq_some_iff.1 k1
      simp only [Prod.mk.injEq, and_true] at k1
      exact ⟨by rw [hu, k1]; rfl, k2⟩
  · rename_i c e s lo hi
    simp only [AV1, aval]
    have key : aslc g e (evX t s) (lo.map (evX t)) (hi.map (evX t)) = aslc h e (evX t s) (lo.map (evX t)) (hi.map (evX t)) := by
      generalize evX t s = p
      generalize lo.map (evX t) = ql
      generalize hi.map (evX t) = qh
      cases p <;> first | rfl | skip
      rename_i κ' b m
      by_cases hk : κ' = κ
      · subst hk; simp only [aslc, gk, hκ]
      · simp only [aslc, gn κ' hk]
    rw [key]
    constructor
    · rintro ⟨k1, k2⟩
      obtain ⟨u, hu, k1⟩ := Option.map_eq_some_iff.1 k1
      simp only [Prod.mk.injEq, and_true] at k1
      exact ⟨by rw [hu, k1]; rfl, k2⟩
    · rintro ⟨k1, k2⟩
      obtain ⟨u, hu, k1⟩ := Option.map_eq_some_iff.1 k1
      simp only [Prod.mk.injEq, and_true] at k1
      exact ⟨by rw [hu, k1]; rfl, k2⟩

theorem farOk_class {op : AOp} (hf : farOk op = true) : hclass op = 1 ∨ (hclass op = 2 ∧ ∀ a b c d e f, op ≠ .appN a b c d e f) := by
  cases op <;> first | (simp [farOk] at hf; done) | (left; rfl) | (right; exact ⟨rfl, fun _ _ _ _ _ _ e => by cases e⟩)

/-- First the store, then the other. -/
theorem far_comm {t : Nat → AV} {h h1 h2 : Hp} {v1 v2 : AV} {a b : AOp} (ha : farStore a = true) (hb : farOk b = true) (k1 : AV1 E base W a t h v1 h1) (k2 : AV1 E base W b t h1 v2 h2) :
    ∃ hm, AV1 E base W b t h v2 hm ∧ AV1 E base W a t hm v1 h2 := by
  obtain ⟨κ, i, o, n, esz, es, new, c1, c2, c3, c4, c5, rfl, f⟩ := far_store ha k1
  rcases farOk_class hb with hr | ⟨hr, hn⟩
  · obtain ⟨rfl, _⟩ := AV1_read hr k2
    exact ⟨h, (far_read hb hr c2 c3 c4 c5).2 k2, k1⟩
  · obtain ⟨k, x, _, rfl, f2⟩ := AV1_create hr hn k2
    refine ⟨upd h (base + k) x, f2 h, ?_⟩
    have := f (upd h (base + k) x) (upd_ne _ _ _ (by omega))
    rw [upd_upd_comm (by omega)] at this
    exact this
/-- First the other, then the store. -/
theorem far_comm2 {t : Nat → AV} {h h1 h2 : Hp} {v1 v2 : AV} {a b : AOp} (ha : farStore a = true) (hb : farOk b = true) (k1 : AV1 E base W b t h v1 h1) (k2 : AV1 E base W a t h1 v2 h2) :
    ∃ hm, AV1 E base W a t h v2 hm ∧ AV1 E base W b t hm v1 h2 := by
  obtain ⟨κ, i, o, n, esz, es, new, c1, c2, c3, c4, c5, rfl, f⟩ := far_store ha k2
  rcases farOk_class hb with hr | ⟨hr, hn⟩
  · obtain ⟨rfl, _⟩ := AV1_read hr k1
    exact ⟨_, k2, (far_read hb hr c2 c3 c4 c5).1 k1⟩
  · obtain ⟨k, x, _, rfl, f2⟩ := AV1_create hr hn k1
    have hk : upd h (base + k) x κ = h κ := upd_ne _ _ _ (by omega)
    refine ⟨upd h κ _, f h hk.symm, ?_⟩
    have := f2 (upd h κ (some (.row false esz (es.set i (splice (es.getD i []) o new)))))
    rw [upd_upd_comm (by omega)] at this
    exact this

def looks (o : AOper) : List Nat := usesO o.op ++ (match o.guard with | some (_, d, _) => [d] | none => [])

def dstIn (o : AOper) (l : List Nat) : Bool := match o.dst with
  | some d => l.contains d
  | none => false

def indep (a b : AOper) : Bool :=
  !dstIn a (looks b) && (!dstIn b (looks a) && ((match a.dst, b.dst with | some x, some y => x != y | _, _ => true) &&
  ((hclass a.op == 0 || (hclass b.op == 0 || ((hclass a.op ≤ 2 && hclass b.op ≤ 2) || ((farStore a.op && farOk b.op) || (farStore b.op && farOk a.op))))) && (hclass a.op != 4 && hclass b.op != 4))))

theorem putT_other {d : Option Nat} {t : Nat → AV} {v : AV} {i : Nat} (hd : d ≠ some i) : putT d t v i = t i := by
  cases d with
  | none => rfl
  | some d => exact upd_ne _ _ _ (fun e => hd (by rw [e]))

theorem putT_comm {d d' : Option Nat} (hd : ∀ i, d = some i → d' ≠ some i) (t : Nat → AV) (v v' : AV) : putT d' (putT d t v) v' = putT d (putT d' t v') v := by
  cases d with
  | none => rfl
  | some d =>
    cases d' with
    | none => rfl
    | some d' =>
      have hne : d' ≠ d := fun e => hd d rfl (by rw [e])
      funext i
      simp only [putT, upd]
      by_cases h1 : i = d'
      · by_cases h2 : i = d
        · omega
        · simp [h1, hne]
      · simp [h1]

theorem wantA_put {o b : AOper} {t : Nat → AV} {v : AV} (hd : dstIn o (looks b) = false) : wantA b.guard (putT o.dst t v) = wantA b.guard t := by
  unfold wantA
  cases hg : b.guard with
  | none => rfl
  | some g =>
    obtain ⟨j, d, w⟩ := g
    simp only
    rw [putT_other]
    intro e
    unfold dstIn at hd
    rw [e] at hd
    simp [looks, hg] at hd

theorem uses_put {o b : AOper} {t : Nat → AV} {v : AV} (hd : dstIn o (looks b) = false) : ∀ i ∈ usesO b.op, putT o.dst t v i = t i := by
  intro i hi
  refine putT_other fun e => ?_
  unfold dstIn at hd
  rw [e] at hd
  simp [looks, hi] at hd

/-- A step of one operation, as a relation. -/
def Stp (E : Env) (base : Nat) (W : Nat → Nat → Nat → Prop) (o : AOper) (s s' : St) : Prop := AW1' E base W o (fun x => x = s') s

theorem AW1'_stp {o : AOper} {K : St → Prop} {s : St} (h : AW1' E base W o K s) : ∃ s', Stp E base W o s s' ∧ K s' := by
  unfold AW1' at h
  unfold Stp AW1'
  split at h
  · exact h.elim
  · rename_i hw; exact ⟨_, rfl, h⟩
  · rename_i hw
    obtain ⟨v, h', g, hK⟩ := h
    exact ⟨_, ⟨v, h', g, rfl⟩, hK⟩

theorem stp_AW1' {o : AOper} {K : St → Prop} {s s' : St} (h : Stp E base W o s s') (hK : K s') : AW1' E base W o K s := by
  refine AW1'_mono (K := fun x => x = s') ?_ h
  rintro _ rfl
  exact hK

theorem stp_comm {o1 o2 : AOper} (hi : indep o1 o2 = true) (hk : ∀ k, koff o1.op = some k → koff o2.op ≠ some k) {s s1 s2 : St} (h1 : Stp E base W o1 s s1) (h2 : Stp E base W o2 s1 s2) :
    ∃ s1', Stp E base W o2 s s1' ∧ Stp E base W o1 s1' s2 := by
  simp only [indep, Bool.and_eq_true, Bool.not_eq_true', Bool.or_eq_true, beq_iff_eq, decide_eq_true_eq, bne_iff_ne] at hi
  obtain ⟨d1, d2, d3, hc, _⟩ := hi
  have hdd : ∀ i, o1.dst = some i → o2.dst ≠ some i := by
    intro i e1 e2
    rw [e1, e2] at d3
    simp at d3
  -- what each of the two gives, at its own place
  unfold Stp AW1' at h1
  split at h1
  · exact h1.elim
  · -- the first one is passed by
    rename_i hw1
    subst h1
    unfold Stp AW1' at h2
    simp only at h2
    rw [wantA_put d1] at h2
    split at h2
    · exact h2.elim
    · rename_i hw2
      subst h2
      refine ⟨⟨putT o2.dst s.t .hole, s.h, s.n⟩, ?_, ?_⟩
      · unfold Stp AW1'; rw [hw2]
      · unfold Stp AW1'; simp only; rw [wantA_put d2, hw1]; simp only; rw [putT_comm hdd]
    · rename_i hw2
      obtain ⟨v, h', g, rfl⟩ := h2
      refine ⟨⟨putT o2.dst s.t v, h', s.n⟩, ?_, ?_⟩
      · unfold Stp AW1'; rw [hw2]; exact ⟨v, h', AV1_congr (fun i hi => uses_put d1 i hi) g, rfl⟩
      · unfold Stp AW1'; simp only; rw [wantA_put d2, hw1]; simp only; rw [putT_comm hdd]
  · rename_i hw1
    obtain ⟨v1, g1', g1, rfl⟩ := h1
    unfold Stp AW1' at h2
    simp only at h2
    rw [wantA_put d1] at h2
    split at h2
    · exact h2.elim
    · rename_i hw2
      subst h2
      refine ⟨⟨putT o2.dst s.t .hole, s.h, s.n⟩, ?_, ?_⟩
      · unfold Stp AW1'; rw [hw2]
      · unfold Stp AW1'; simp only; rw [wantA_put d2, hw1]; simp only
        exact ⟨v1, g1', AV1_congr (fun i hi => (uses_put d2 i hi).symm) g1, by rw [putT_comm hdd]⟩
    · rename_i hw2
      obtain ⟨v2, g2', g2, rfl⟩ := h2
      have g2 := AV1_congr (fun i hi => uses_put (t := s.t) (v := v1) d1 i hi) g2
      have fin : ∀ (ha : Hp), AV1 E base W o2.op s.t s.h v2 ha → AV1 E base W o1.op s.t ha v1 g2' →
          ∃ s1', Stp E base W o2 s s1' ∧ Stp E base W o1 s1' ⟨putT o2.dst (putT o1.dst s.t v1) v2, g2', s.n⟩ := by
        intro ha k1 k2
        refine ⟨⟨putT o2.dst s.t v2, ha, s.n⟩, ?_, ?_⟩
        · unfold Stp AW1'; rw [hw2]; exact ⟨v2, ha, k1, rfl⟩
        · unfold Stp AW1'; simp only; rw [wantA_put d2, hw1]; simp only
          exact ⟨v1, g2', AV1_congr (fun i hi => (uses_put d2 i hi).symm) k2, by rw [putT_comm hdd]⟩
      rcases hc with c1 | c2 | ⟨c1, c2⟩ | ⟨c1, c2⟩ | ⟨c1, c2⟩
      · obtain ⟨rfl, f1⟩ := AV1_free c1 g1
        exact fin g2' g2 (f1 g2')
      · obtain ⟨rfl, f2⟩ := AV1_free c2 g2
        exact fin s.h (f2 s.h) g1
      · obtain ⟨m1, n1, rfl, f1⟩ := AV1_rc c1 g1
        obtain ⟨m2, n2, rfl, f2⟩ := AV1_rc c2 g2
        have hb : AV1 E base W o2.op s.t s.h v2 (appM base m2 s.h) := by
          cases m1 with
          | none => exact g2
          | some p =>
            obtain ⟨k, x⟩ := p
            have := f2 (base + k) (s.h (base + k)) (Nat.le_add_right _ _)
            have e : upd (upd s.h (base + k) x) (base + k) (s.h (base + k)) = s.h := by
              funext i
              by_cases hi : i = base + k
              · subst hi; rw [upd_same]
              · rw [upd_ne _ _ _ hi, upd_ne _ _ _ hi]
            simp only [appM] at this
            rw [e] at this
            exact this
        refine fin _ hb ?_
        cases m2 with
        | none => exact g1
        | some p =>
          obtain ⟨k2, x2⟩ := p
          have := f1 (base + k2) x2 (Nat.le_add_right _ _)
          have e : appM base m1 (upd s.h (base + k2) x2) = appM base (some (k2, x2)) (appM base m1 s.h) := by
            cases m1 with
            | none => rfl
            | some p =>
              obtain ⟨k, x⟩ := p
              have hne : k ≠ k2 := fun e => hk k (n1 k x rfl) (by rw [n2 k2 x2 rfl, e])
              funext i
              simp only [appM, upd]
              by_cases h1 : i = base + k2
              · by_cases h2 : i = base + k
                · omega
                · simp [h1]; omega
              · simp [h1]
          rw [e] at this
          exact this
      · obtain ⟨hm, q1, q2⟩ := far_comm c1 c2 g1 g2
        exact fin hm q1 q2
      · obtain ⟨hm, q1, q2⟩ := far_comm2 c1 c2 g1 g2
        exact fin hm q1 q2

/-- Operations one after another, without calls with memory. -/
def AWL' (E : Env) (base : Nat) (W : Nat → Nat → Nat → Prop) : List AOper → (St → Prop) → St → Prop
  | [], K, s => K s
  | o :: r, K, s => AW1' E base W o (AWL' E base W r K) s

theorem AWL_to : ∀ {l : List AOper} {K : St → Prop} {s : St}, AWL E true base W l K s → AWL' E base W l K s
  | [], _, _, h => h
  | o :: r, K, s, h => AW1'_mono (fun _ => AWL_to) (AW1_to h)

theorem awl_front : ∀ (p : List AOper) {o : AOper} {q : List AOper} {K : St → Prop} {s : St}, (∀ x ∈ p, indep x o = true ∧ ∀ k, koff x.op = some k → koff o.op ≠ some k) →
    AWL' E base W (p ++ o :: q) K s → AWL' E base W (o :: (p ++ q)) K s
  | [], o, q, K, s, _, h => h
  | x :: p, o, q, K, s, hi, h => by
    obtain ⟨s1, g1, g2⟩ := AW1'_stp h
    have g3 := awl_front p (fun y hy => hi y (by simp [hy])) g2
    obtain ⟨s2, g4, g5⟩ := AW1'_stp g3
    obtain ⟨s1', k1, k2⟩ := stp_comm (hi x (by simp)).1 (hi x (by simp)).2 g1 g4
    exact stp_AW1' k1 (stp_AW1' k2 g5)

end Go.Proofs.YtablleokoifolaaGreatDoor

/- Own abstract machine, part 18: regions whose order is drawn. -/
set_option linter.unusedVariables false
set_option linter.unusedSimpArgs false
namespace Go.Proofs.YtablleokoifolaaGreatDoor
open Go Go.RowKit

variable {W : Nat → Nat → Nat → Prop} {E : Env}

def kdis (aops : List AOper) : Bool := (List.range aops.length).all fun i => (List.range i).all fun j =>
  match koff (aops.getD i default).op, koff (aops.getD j default).op with
  | some a, some b => a != b
  | _, _ => true

/-- Does an operation stand behind another one, by the edges? -/
def reaches (cops : Array Oper) : Nat → Nat → Nat → Bool
  | 0, _, _ => false
  | k + 1, i, j => match cops[i]? with
    | some o => o.after.any fun e => Region.binds .any e && (e.on == j || reaches cops k e.on j)
    | none => false

/-- May the operations be carried out in whatever order the edges allow? -/
def drawB (aops : List AOper) (cops : Array Oper) : Bool := (List.range aops.length).all fun i => match cops[i]? with
  | some o => o.after.all (fun e => !Region.binds .any e || decide (e.on < i)) &&
      (List.range i).all fun j => indep (aops.getD j default) (aops.getD i default) || reaches cops 12 i j
  | none => false

theorem kdis_spec {aops : List AOper} (hk : kdis aops = true) {i j : Nat} (hi : i < aops.length) (hj : j < aops.length) (hne : i ≠ j) {k : Nat} (h1 : koff (aops.getD i default).op = some k) :
    koff (aops.getD j default).op ≠ some k := by
  intro h2
  have key : ∀ i j, i < aops.length → j < i → koff (aops.getD i default).op = some k → koff (aops.getD j default).op = some k → False := by
    intro i j hi hj h1 h2
    have := List.all_eq_true.1 hk i (List.mem_range.2 hi)
    have := List.all_eq_true.1 this j (List.mem_range.2 hj)
    rw [h1, h2] at this
    simp at this
  rcases Nat.lt_or_gt_of_ne hne with h | h
  · exact key j i hj h h2 h1
  · exact key i j hi h h1 h2

/-- What stands behind a listed set is listed. -/
theorem reaches_listed {cops : Array Oper} {listed : Array Bool} (hls : listed.size = cops.size) (hcl : ∀ i o, cops[i]? = some o → listed.getD i true = true → ∀ e ∈ o.after, Region.binds .any e = true → listed.getD e.on false = true) :
    ∀ (k i j : Nat) (o : Oper), cops[i]? = some o → (∀ e ∈ o.after, Region.binds .any e = true → listed.getD e.on false = true) → reaches cops k i j = true → listed.getD j false = true
  | 0, _, _, _, _, _, h => by cases h
  | k + 1, i, j, o, ho, hd, h => by
    simp only [reaches, ho] at h
    rw [Array.any_eq_true] at h
    obtain ⟨q, hq, hb⟩ := h
    simp only [Bool.and_eq_true, Bool.or_eq_true, beq_iff_eq] at hb
    have h1 := hd _ (Array.getElem_mem hq) hb.1
    rcases hb.2 with h2 | h2
    · rw [h2] at h1; exact h1
    · have hs : o.after[q].on < listed.size := by
        rcases Nat.lt_or_ge o.after[q].on listed.size with h | h
        · exact h
        · simp [Array.getD_eq_getD_getElem?, Array.getElem?_eq_none h] at h1
      have hc : ∃ o', cops[o.after[q].on]? = some o' := ⟨_, Array.getElem?_eq_getElem (by omega)⟩
      obtain ⟨o', ho'⟩ := hc
      refine reaches_listed hls hcl k _ j o' ho' (hcl _ o' ho' ?_) h2
      simp [hs] at h1 ⊢
      exact h1

theorem any_sound {nt : Nat} {cops : Array Oper} {aops : List AOper} {base : Nat} {Q : Exit → Act → World → Prop} {K : St → Prop} (hsz : cops.size = aops.length)
    (hm : ∀ q, q < aops.length → ∃ o, cops[q]? = some o ∧ MatchO E nt cops o (aops.getD q default)) (hkd : kdis aops = true) (hdr : drawB aops cops = true) :
    ∀ (fuel : Nat) (is : List Nat) (listed : Array Bool) (s : St) (a : Act) (w : World) (β : Bt) (V F : Nat → Prop), is.length = fuel → is.Pairwise (· < ·) → listed.size = cops.size →
      (∀ i, i < cops.size → (listed.getD i true = false ↔ i ∈ is)) → (∀ i ∈ is, i < cops.size) → (∀ i o, cops[i]? = some o → listed.getD i true = true → ∀ e ∈ o.after, Region.binds .any e = true → listed.getD e.on false = true) → RelO E nt s a w β V F → base ≤ s.n →
      (∀ i ∈ is, ∀ k, koff (aops.getD i default).op = some k → ¬ V (base + k) ∧ base + k < s.n) →
      AWL' E base W (is.map fun i => aops.getD i default) K s →
      (∀ s' a' w' β' V' F', K s' → RelO E nt s' a' w' β' V' F' → Ext w.heap β V F w'.heap β' V' F' → WX w w' → s.n ≤ s'.n → (∀ κ, V' κ → κ < base → V κ) → Q .normal a' w') →
      wpAny E.P .any cops Q fuel listed a w := by
  intro fuel
  induction fuel with
  | zero =>
    intro is listed s a w β V F hl _ hls hlist hlt _ r _ _ hA hn
    have hnil : is = [] := List.eq_nil_of_length_eq_zero hl
    subst hnil
    refine ⟨?_, hn s a w β V F hA r (Ext.refl _ _ _ _) (WX.refl w) (Nat.le_refl _) (fun _ h _ => h)⟩
    unfold Region.ready
    rw [List.filter_eq_nil_iff]
    intro i hi
    have hi' : i < cops.size := List.mem_range.1 hi
    have : listed.getD i true = true := by
      cases hb : listed.getD i true with
      | true => rfl
      | false => exact absurd ((hlist i hi').1 hb) (by simp)
    simp [this]
  | succ fuel ih =>
    intro is listed s a w β V F hl hpw hls hlist hlt hcl r hb hfr hA hn
    refine ⟨fun hready => ?_, fun i hi => ?_⟩
    · exfalso
      cases is with
      | nil => simp at hl
      | cons i0 rest =>
        have hi0 := hlt i0 (by simp)
        have hmem : i0 ∈ Region.ready .any cops listed := by
          unfold Region.ready
          rw [List.mem_filter]
          refine ⟨List.mem_range.2 hi0, ?_⟩
          have h1 : listed.getD i0 true = false := (hlist i0 hi0).2 (by simp)
          have h2 := List.all_eq_true.1 hdr i0 (List.mem_range.2 (by omega))
          rw [Array.getElem?_eq_getElem hi0] at h2 ⊢
          simp only [Bool.and_eq_true] at h2
          simp only [h1, Bool.not_false, Bool.true_and, Option.map_some, Option.getD_some]
          rw [Array.all_eq_true_iff_forall_mem] at h2 ⊢
          intro e he
          have := h2.1 e he
          simp only [Bool.or_eq_true, Bool.not_eq_true', decide_eq_true_eq] at this
          rcases this with h | h
          · simp [h]
          · have hon : e.on < cops.size := by omega
            have hnot : e.on ∉ i0 :: rest := by
              intro hin
              rcases List.mem_cons.1 hin with h' | h'
              · omega
              · have := (List.pairwise_cons.1 hpw).1 _ h'; omega
            have ht : listed.getD e.on true = true := by
              cases hb : listed.getD e.on true with
              | true => rfl
              | false => exact absurd ((hlist _ hon).1 hb) hnot
            have : listed.getD e.on false = true := by
              have hs : e.on < listed.size := by omega
              simpa [hs] using ht
            simp [this]
        rw [hready] at hmem
        cases hmem
    · unfold Region.ready at hi
      rw [List.mem_filter] at hi
      obtain ⟨hi1, hi2⟩ := hi
      have hi' : i < cops.size := List.mem_range.1 hi1
      simp only [Bool.and_eq_true, Bool.not_eq_true'] at hi2
      have hin : i ∈ is := (hlist i hi').1 hi2.1
      obtain ⟨p, q, rfl⟩ := List.append_of_mem hin
      obtain ⟨o, ho, m⟩ := hm i (by omega)
      have hafter : ∀ e ∈ o.after, Region.binds .any e = true → listed.getD e.on false = true := by
        have h2 := hi2.2
        rw [ho] at h2
        simp only [Option.map_some, Option.getD_some] at h2
        rw [Array.all_eq_true_iff_forall_mem] at h2
        intro e he hb
        have := h2 e he
        simpa [hb] using this
      rw [List.pairwise_append] at hpw
      obtain ⟨pw1, pw2, pw3⟩ := hpw
      rw [List.pairwise_cons] at pw2
      have hfront : ∀ x ∈ p.map (fun i => aops.getD i default), indep x (aops.getD i default) = true ∧ ∀ k, koff x.op = some k → koff (aops.getD i default).op ≠ some k := by
        intro x hx
        obtain ⟨j, hj, rfl⟩ := List.mem_map.1 hx
        have hji : j < i := pw3 j hj i (by simp)
        have hjs : j < cops.size := by omega
        refine ⟨?_, fun k hk => kdis_spec hkd (by omega) (by omega) (by omega) hk⟩
        have h2 := List.all_eq_true.1 hdr i (List.mem_range.2 (by omega))
        rw [ho] at h2
        simp only [Bool.and_eq_true] at h2
        have h3 := List.all_eq_true.1 h2.2 j (List.mem_range.2 hji)
        simp only [Bool.or_eq_true] at h3
        rcases h3 with h3 | h3
        · exact h3
        · exfalso
          have ht := reaches_listed hls hcl 12 i j o ho hafter h3
          have hf : listed.getD j true = false := (hlist j hjs).2 (by simp [hj])
          have hs : j < listed.size := by omega
          simp [hs] at ht hf
          rw [ht] at hf; cases hf
      simp only [List.map_append, List.map_cons] at hA
      have hA' := awl_front _ hfront hA
      refine step_sound r ho m (fun k hk => (hfr i hin k hk).1) (fun k hk => (hfr i hin k hk).2) (AW1_of hA') ?_
      rintro a' w' ⟨s', β', V', F', hK, r', x, wx, hle, hv⟩
      have hpq : ∀ j ∈ p ++ q, j ∈ p ++ i :: q ∧ j ≠ i := by
        intro j hj
        rcases List.mem_append.1 hj with h | h
        · exact ⟨by simp [h], by have := pw3 j h i (by simp); omega⟩
        · exact ⟨by simp [h], by have := pw2.1 j h; omega⟩
      refine ih (p ++ q) (listed.setIfInBounds i true) s' a' w' β' V' F' (by simp at hl ⊢; omega) ?_ (by simpa using hls) (fun j hj => ?_) (fun j hj => hlt j (hpq j hj).1) (fun j o' ho' hj e he hbd => ?_) r' (Nat.le_trans hb hle) (fun j hj k hk => ?_) ?_
        (fun s2 a2 w2 β2 V2 F2 k1 k2 k3 k4 k5 k6 => hn s2 a2 w2 β2 V2 F2 k1 k2 (x.trans k3) (wx.trans k4) (Nat.le_trans hle k5) (fun κ h1 h2 => by
          rcases hv κ (k6 κ h1 h2) (by omega) with h | ⟨o', _, he⟩
          · exact h
          · omega))
      · rw [List.pairwise_append]
        exact ⟨pw1, pw2.2, fun a ha b hb => pw3 a ha b (by simp [hb])⟩
      · by_cases hji : j = i
        · subst hji
          have hs : j < listed.size := by omega
          have : (listed.setIfInBounds j true).getD j true = true := by simp [hs]
          rw [this]
          simp only [Bool.true_eq_false, false_iff]
          exact fun h => (hpq j h).2 rfl
        · have : (listed.setIfInBounds i true).getD j true = listed.getD j true := by
            simp [Array.getD_eq_getD_getElem?, Array.getElem?_setIfInBounds, Ne.symm hji]
          rw [this, hlist j hj]
          simp [hji]
      · have hkeep : ∀ q, listed.getD q false = true → (listed.setIfInBounds i true).getD q false = true := by
          intro q hq
          by_cases hqi : q = i
          · subst hqi
            have hs : q < listed.size := by omega
            simp [hs]
          · simp only [Array.getD_eq_getD_getElem?, Array.getElem?_setIfInBounds, Ne.symm hqi, if_false] at hq ⊢
            exact hq
        by_cases hji : j = i
        · subst hji
          rw [ho] at ho'
          obtain rfl := Option.some.inj ho'
          exact hkeep _ (hafter e he hbd)
        · have h1 : listed.getD j true = true := by
            simpa [Array.getD_eq_getD_getElem?, Array.getElem?_setIfInBounds, Ne.symm hji] using hj
          exact hkeep _ (hcl j o' ho' h1 e he hbd)
      · obtain ⟨h1, h2⟩ := hpq j hj
        obtain ⟨h3, h4⟩ := hfr j h1 k hk
        refine ⟨fun hV => ?_, Nat.lt_of_lt_of_le h4 hle⟩
        rcases hv _ hV h4 with h | ⟨o', ho', he⟩
        · exact h3 h
        · have : o' = k := by omega
          subst this
          exact kdis_spec hkd (by have := hlt j h1; omega) (by omega) h2 hk ho'
      · rw [List.map_append]; exact hK

end Go.Proofs.YtablleokoifolaaGreatDoor

/- Own abstract machine, part 19: code: regions, branches, blocks, loops. -/
set_option linter.unusedVariables false
set_option linter.unusedSimpArgs false
namespace Go.Proofs.YtablleokoifolaaGreatDoor
open Go Go.RowKit

variable {E : Env} {nt : Nat}

inductive ACode where
  | skip | ret
  | exit (i : Nat)
  | reg (res : Nat) (ops : List AOper) (dr : Bool) (live : List Nat)
  | seq (a b : ACode)
  | cond (c : AX) (a b : ACode)
  | block (i : Nat) (a : ACode)
  | loop (a : ACode)
  | fz (sl : List Nat) (a : ACode)     -- of no code: data in these slots are frozen first

/-- Code without what does not count. -/
inductive SC where
  | skip | ret | bad
  | exit (i : Nat)
  | reg (ops : List (Option Nat × Op × Option (Nat × Bool))) (dr : Bool)
  | seq (a b : SC)
  | cond (c : Operand) (a b : SC)
  | block (i : Nat) (a : SC)
  | loop (a : SC)

def sc : Code → SC
  | .skip => .skip
  | .ret => .ret
  | .exit i => .exit i
  | .region _ ops dr => .reg (ops.toList.map fun o => (o.dst, stripO o.op, o.guard)) dr
  | .seq a b => .seq (sc a) (sc b)
  | .cond c a b => .cond c (sc a) (sc b)
  | .block i a => .block i (sc a)
  | .loop a => .loop (sc a)
  | _ => .bad

def em (E : Env) : ACode → SC
  | .skip => .skip
  | .ret => .ret
  | .exit i => .exit i
  | .reg _ ops dr _ => .reg (ops.map fun o => (o.dst, emitO E o.op, o.guard.map fun g => (g.1, g.2.2))) dr
  | .seq a b => .seq (em E a) (em E b)
  | .cond c a b => .cond (emitX E c) (em E a) (em E b)
  | .block i a => .block i (em E a)
  | .loop a => .loop (em E a)
  | .fz _ a => em E a

def regB (E : Env) (nt : Nat) (res : Nat) (ops : List AOper) (dr : Bool) (cops : Array Oper) : Bool :=
  ops.all (fun o => okO E o.op && ((match o.dst with | some d => decide (d < nt) | none => true) &&
    (match o.guard with | some g => (cops[g.1]?).bind (·.dst) == some g.2.1 | none => true))) &&
  ((ops.filterMap fun o => koff o.op).all (fun k => decide (k < res)) && (decide (ops.filterMap fun o => koff o.op).Nodup && (!dr || (kdis ops && drawB ops cops))))

def okC (E : Env) (nt : Nat) : ACode → Code → Bool
  | .reg res ops dr _, .region _ cops _ => regB E nt res ops dr cops
  | .seq a b, .seq c d => okC E nt a c && okC E nt b d
  | .cond x a b, .cond _ c d => xOk x && (okC E nt a c && okC E nt b d)
  | .block _ a, .block _ c => okC E nt a c
  | .loop a, .loop c => okC E nt a c
  | .fz _ a, c => okC E nt a c
  | .skip, _ => true
  | .ret, _ => true
  | .exit _, _ => true
  | _, _ => false

structure MatchC (E : Env) (nt : Nat) (ac : ACode) (c : Code) : Prop where
  eq : sc c = em E ac
  ok : okC E nt ac c = true
  mx : E.P.follows .mixedOrders = true

def tm : List (Nat × AV) → Nat → AV
  | [], _ => .undef
  | (k, v) :: l, i => if i = k then v else tm l i

def prune (live : List Nat) (t : Nat → AV) : Nat → AV := tm (live.map fun i => (i, t i))

theorem prune_cases (live : List Nat) (t : Nat → AV) (i : Nat) : prune live t i = t i ∨ prune live t i = .undef := by
  unfold prune
  induction live with
  | nil => exact .inr rfl
  | cons a l ih =>
    simp only [List.map_cons, tm]
    split
    · rename_i h; subst h; exact .inl rfl
    · exact ih

inductive AExit where
  | normal | ret
  | exit (i : Nat)

def cvE : AExit → Exit
  | .normal => .normal
  | .ret => .ret
  | .exit i => .exit i

/-- What is wanted behind a piece of code. -/
structure End (E : Env) (nt : Nat) (Q : AExit → St → Prop) (s : St) (w : World) (β : Bt) (V F : Nat → Prop) (ae : AExit) (a' : Act) (w' : World) : Prop where
  ex : ∃ s' β' V' F', Q ae s' ∧ RelO E nt s' a' w' β' V' F' ∧ Ext w.heap β V F w'.heap β' V' F' ∧ WX w w' ∧ s.n ≤ s'.n ∧ ∀ κ, V' κ → κ < s.n → V κ

/-- The code, begun in a state that the abstract one describes, ends in one that is wanted. -/
def AW (E : Env) (nt : Nat) (ac : ACode) (Q : AExit → St → Prop) (s : St) : Prop :=
  ∀ c, MatchC E nt ac c → ∀ a w β V F, RelO E nt s a w β V F → c.wp E.P (fun e a' w' => ∃ ae, e = cvE ae ∧ End E nt Q s w β V F ae a' w') a w

theorem End.refl {Q : AExit → St → Prop} {s : St} {a : Act} {w : World} {β : Bt} {V F : Nat → Prop} {ae : AExit} (r : RelO E nt s a w β V F) (h : Q ae s) : End E nt Q s w β V F ae a w :=
  ⟨⟨s, β, V, F, h, r, Ext.refl _ _ _ _, WX.refl w, Nat.le_refl _, fun _ h _ => h⟩⟩

theorem AW.mono {ac : ACode} {Q Q' : AExit → St → Prop} {s : St} (h : AW E nt ac Q s) (hq : ∀ e s, Q e s → Q' e s) : AW E nt ac Q' s :=
  fun c m a w β V F r => wp_mono (h c m a w β V F r) fun e a' w' ⟨ae, he, ⟨s', β', V', F', g1, g2⟩⟩ => ⟨ae, he, ⟨s', β', V', F', hq _ _ g1, g2⟩⟩

theorem AW.skip {Q : AExit → St → Prop} {s : St} (h : Q .normal s) : AW E nt .skip Q s := by
  intro c m a w β V F r
  have := m.eq
  cases c <;> simp only [sc, em] at this <;> first | (cases this; done) | skip
  exact wp_skip ⟨.normal, rfl, .refl r h⟩

theorem AW.ret {Q : AExit → St → Prop} {s : St} (h : Q .ret s) : AW E nt .ret Q s := by
  intro c m a w β V F r
  have := m.eq
  cases c <;> simp only [sc, em] at this <;> first | (cases this; done) | skip
  exact wp_ret ⟨.ret, rfl, .refl r h⟩

theorem AW.exit {Q : AExit → St → Prop} {s : St} {i : Nat} (h : Q (.exit i) s) : AW E nt (.exit i) Q s := by
  intro c m a w β V F r
  have := m.eq
  cases c <;> simp only [sc, em] at this <;> first | (cases this; done) | skip
  cases this
  exact wp_exit ⟨.exit i, rfl, .refl r h⟩

def seqQ (E : Env) (nt : Nat) (b : ACode) (Q : AExit → St → Prop) : AExit → St → Prop
  | .normal, s => AW E nt b Q s
  | e, s => Q e s

theorem End.trans {Q : AExit → St → Prop} {s s1 : St} {w w1 : World} {β β1 : Bt} {V V1 F F1 : Nat → Prop} {ae : AExit} {a' : Act} {w' : World}
    (x : Ext w.heap β V F w1.heap β1 V1 F1) (wx : WX w w1) (hle : s.n ≤ s1.n) (hv : ∀ κ, V1 κ → κ < s.n → V κ) (h : End E nt Q s1 w1 β1 V1 F1 ae a' w') : End E nt Q s w β V F ae a' w' := by
  obtain ⟨s', β', V', F', g1, g2, g3, g4, g5, g6⟩ := h
  exact ⟨⟨s', β', V', F', g1, g2, x.trans g3, wx.trans g4, Nat.le_trans hle g5, fun κ h1 h2 => hv κ (g6 κ h1 (by omega)) h2⟩⟩

theorem AW.seq {x y : ACode} {Q : AExit → St → Prop} {s : St} (h : AW E nt x (seqQ E nt y Q) s) : AW E nt (.seq x y) Q s := by
  intro c m a w β V F r
  have he := m.eq
  have hok := m.ok
  cases c <;> simp only [sc, em] at he <;> first | (cases he; done) | skip
  rename_i cx cy
  injection he with e1 e2
  simp only [okC, Bool.and_eq_true] at hok
  refine wp_seq (wp_mono (h cx ⟨e1, hok.1, m.mx⟩ a w β V F r) ?_)
  rintro e a' w' ⟨ae, rfl, ⟨s', β', V', F', g1, g2, g3, g4, g5, g6⟩⟩
  cases ae with
  | normal =>
    simp only [cvE, Exit.then]
    refine wp_mono (g1 cy ⟨e2, hok.2, m.mx⟩ a' w' β' V' F' g2) ?_
    rintro e a2 w2 ⟨ae, rfl, k⟩
    exact ⟨ae, rfl, .trans g3 g4 g5 g6 k⟩
  | ret => exact ⟨.ret, rfl, ⟨s', β', V', F', g1, g2, g3, g4, g5, g6⟩⟩
  | exit i => exact ⟨.exit i, rfl, ⟨s', β', V', F', g1, g2, g3, g4, g5, g6⟩⟩

theorem AW.cond {x : AX} {p q : ACode} {Q : AExit → St → Prop} {s : St} {b : Bool} (hx : evX s.t x = .bool b) (ht : b = true → AW E nt p Q s) (hf : b = false → AW E nt q Q s) : AW E nt (.cond x p q) Q s := by
  intro c m a w β V F r
  have he := m.eq
  have hok := m.ok
  cases c <;> simp only [sc, em] at he <;> first | (cases he; done) | skip
  rename_i cx cp cq
  injection he with e1 e2 e3
  simp only [okC, Bool.and_eq_true] at hok
  have rx := evX_sound r.tr hok.1
  rw [hx, ← e1] at rx
  refine wp_cond (rv_bool rx) ?_
  cases b with
  | true => exact ht rfl cp ⟨e2, hok.2.1, m.mx⟩ a w β V F r
  | false => exact hf rfl cq ⟨e3, hok.2.2, m.mx⟩ a w β V F r

def blockQ (i : Nat) (Q : AExit → St → Prop) : AExit → St → Prop
  | .exit j, s => if j = i then Q .normal s else Q (.exit j) s
  | e, s => Q e s

theorem AW.block {i : Nat} {x : ACode} {Q : AExit → St → Prop} {s : St} (h : AW E nt x (blockQ i Q) s) : AW E nt (.block i x) Q s := by
  intro c m a w β V F r
  have he := m.eq
  have hok := m.ok
  cases c <;> simp only [sc, em] at he <;> first | (cases he; done) | skip
  rename_i j cx
  injection he with e1 e2
  subst e1
  simp only [okC] at hok
  refine wp_block (wp_mono (h cx ⟨e2, hok, m.mx⟩ a w β V F r) ?_)
  rintro e a' w' ⟨ae, rfl, ⟨s', β', V', F', g1, g2⟩⟩
  cases ae with
  | normal => exact ⟨.normal, rfl, ⟨s', β', V', F', g1, g2⟩⟩
  | ret => exact ⟨.ret, rfl, ⟨s', β', V', F', g1, g2⟩⟩
  | exit i =>
    simp only [cvE, Exit.inBlock]
    simp only [blockQ] at g1
    by_cases hi : i = j
    · rw [if_pos hi] at g1 ⊢; exact ⟨.normal, rfl, ⟨s', β', V', F', g1, g2⟩⟩
    · rw [if_neg hi] at g1 ⊢; exact ⟨.exit i, rfl, ⟨s', β', V', F', g1, g2⟩⟩

/-- A loop: a number goes down with every round. -/
theorem AW.loop {x : ACode} {Q : AExit → St → Prop} (I : Nat → St → Prop)
    (round : ∀ k s, I k s → AW E nt x (fun e s' => match e with | .normal => ∃ k', k' < k ∧ I k' s' | e => Q e s') s) : ∀ (k : Nat) (s : St), I k s → AW E nt (.loop x) Q s := by
  intro k s hI c m a w β V F r
  have he := m.eq
  have hok := m.ok
  cases c <;> simp only [sc, em] at he <;> first | (cases he; done) | skip
  rename_i cx
  injection he with e1
  simp only [okC] at hok
  intro b kk cs
  have key : ∀ n s1 a1 w1 β1 V1 F1, I n s1 → RelO E nt s1 a1 w1 β1 V1 F1 → Ext w.heap β V F w1.heap β1 V1 F1 → WX w w1 → s.n ≤ s1.n → (∀ κ, V1 κ → κ < s.n → V κ) →
      ∃ e a' w', (∃ ae, e = cvE ae ∧ End E nt Q s w β V F ae a' w') ∧ Arrives E.P (lone (b.at a1 (.code cx :: .inLoop cx :: kk)) cs w1) b kk cs e a' w' := by
    intro n
    induction n using Nat.strongRecOn with
    | _ n ih =>
      intro s1 a1 w1 β1 V1 F1 hI1 r1 x1 wx1 hle1 hv1
      obtain ⟨e, a2, w2, ⟨ae, rfl, ⟨s2, β2, V2, F2, g1, g2, g3, g4, g5, g6⟩⟩, harr⟩ := round n s1 hI1 cx ⟨e1, hok, m.mx⟩ a1 w1 β1 V1 F1 r1 b (.inLoop cx :: kk) cs
      cases ae with
      | normal =>
        obtain ⟨k', hk', hI2⟩ := g1
        obtain ⟨e, a3, w3, h3, harr3⟩ := ih k' hk' s2 a2 w2 β2 V2 F2 hI2 g2 (x1.trans g3) (wx1.trans g4) (Nat.le_trans hle1 g5) (fun κ h1 h2 => hv1 κ (g6 κ h1 (by omega)) h2)
        exact ⟨e, a3, w3, h3, .of_steps (Steps.trans harr (.one step_inLoop)) harr3⟩
      | ret =>
        exact ⟨_, a2, w2, ⟨.ret, rfl, .trans x1 wx1 hle1 hv1 ⟨⟨s2, β2, V2, F2, g1, g2, g3, g4, g5, g6⟩⟩⟩, .pass (x := .inLoop cx) rfl (fun _ _ => .inl (by simp [cvE])) harr⟩
      | exit i =>
        exact ⟨_, a2, w2, ⟨.exit i, rfl, .trans x1 wx1 hle1 hv1 ⟨⟨s2, β2, V2, F2, g1, g2, g3, g4, g5, g6⟩⟩⟩, .pass (x := .inLoop cx) rfl (fun _ _ => .inl (by simp [cvE])) harr⟩
  obtain ⟨e, a', w', h', harr⟩ := key k s a w β V F hI r (Ext.refl _ _ _ _) (WX.refl w) (Nat.le_refl _) (fun _ h _ => h)
  exact ⟨e, a', w', h', .of_steps (.one step_loop) harr⟩

end Go.Proofs.YtablleokoifolaaGreatDoor

/- Own abstract machine, part 20: regions and functions. -/
set_option linter.unusedVariables false
set_option linter.unusedSimpArgs false
namespace Go.Proofs.YtablleokoifolaaGreatDoor
open Go Go.RowKit

variable {E : Env} {nt : Nat}

theorem rel_prune {s : St} {a : Act} {w : World} {β : Bt} {V F : Nat → Prop} (r : RelO E nt s a w β V F) (live : List Nat) : RelO E nt ⟨prune live s.t, s.h, s.n⟩ a w β V F :=
  ⟨r.defers, r.nt, fun i => by
    rcases prune_cases live s.t i with h | h
    · simp only; rw [h]; exact r.tr i
    · simp only; rw [h]; exact .fz (.undef _), r.hr, r.vb⟩

theorem AW.reg (W : Nat → Nat → Nat → Prop) {res : Nat} {ops : List AOper} {dr : Bool} {live : List Nat} {Q : AExit → St → Prop} {s : St}
    (h : AWL E dr s.n W ops (fun s' => Q .normal ⟨prune live s'.t, s'.h, s'.n⟩) ⟨s.t, s.h, s.n + res⟩) : AW E nt (.reg res ops dr live) Q s := by
  intro c m a w β V F r
  have he := m.eq
  have hok := m.ok
  cases c <;> simp only [sc, em] at he <;> first | (cases he; done) | skip
  rename_i id cops draw
  injection he with e1 e2
  subst e2
  simp only [okC, regB, Bool.and_eq_true] at hok
  obtain ⟨k1, k2, k3, k4⟩ := hok
  have hsz : cops.size = ops.length := by
    have := congrArg List.length e1
    simpa using this
  have hm : ∀ q, q < ops.length → ∃ o, cops[q]? = some o ∧ MatchO E nt cops o (ops.getD q default) := by
    intro q hq
    have hq' : q < cops.size := by omega
    refine ⟨cops[q], Array.getElem?_eq_getElem hq', ?_⟩
    have e3 : ops.getD q default = ops[q] := by simp [List.getD_eq_getElem?_getD, hq]
    rw [e3]
    have e4 := congrArg (fun l => l[q]?) e1
    simp only [List.getElem?_map, Array.getElem?_toList, Array.getElem?_eq_getElem hq', List.getElem?_eq_getElem hq, Option.map_some, Option.some.injEq, Prod.mk.injEq] at e4
    have hb := List.all_eq_true.1 k1 ops[q] (List.getElem_mem hq)
    simp only [Bool.and_eq_true] at hb
    refine ⟨e4.1, e4.2.1, e4.2.2, hb.1, fun d hd => ?_, fun g hg => ?_⟩
    · have := hb.2.1; rw [hd] at this; simpa using this
    · have := hb.2.2; rw [hg] at this; simpa using this
  have r' : RelO E nt ⟨s.t, s.h, s.n + res⟩ a w β V F := ⟨r.defers, r.nt, r.tr, r.hr, fun κ hκ => by have := r.vb κ hκ; simp only; omega⟩
  have hfr : ∀ k ∈ ops.filterMap (fun o => koff o.op), ¬ V (s.n + k) ∧ s.n + k < s.n + res := by
    intro k hk
    have := List.all_eq_true.1 k2 k hk
    refine ⟨fun hV => ?_, by simp at this; omega⟩
    have := r.vb _ hV; omega
  cases draw with
  | false =>
    refine wp_region (ops_sound (List.range cops.size) ops _ r' (by simp) (by simpa using hsz) (fun q hq => ?_) (by simpa using k3) hfr h ?_)
    · have hq' : q < cops.size := by simpa using hq
      have : (List.range cops.size).getD q 0 = q := by simp [List.getD_eq_getElem?_getD, hq']
      rw [this]; exact hm q (by omega)
    · intro s' a' w' β' V' F' g1 g2 g3 g4 g5 g6
      exact ⟨.normal, rfl, ⟨⟨_, β', V', F', g1, rel_prune g2 live, g3, g4, by simp only at g5 ⊢; omega, g6⟩⟩⟩
  | true =>
    simp only [Bool.not_true, Bool.false_or, Bool.and_eq_true] at k4
    have hA := AWL_to h
    refine wp_region_any m.mx ?_
    have r2 : RelO E nt ⟨s.t, s.h, s.n + res⟩ a { w with drawn := w.drawn + 1 } β V F := ⟨r'.defers, r'.nt, r'.tr, r'.hr, r'.vb⟩
    have hmap : (List.range cops.size).map (fun i => ops.getD i default) = ops := by
      apply List.ext_getElem
      · simp [hsz]
      · intro i h1 h2
        simp [List.getD_eq_getElem?_getD, h2]
    refine any_sound (Q := fun e a' w' => ∃ ae, e = cvE ae ∧ End E nt Q s w β V F ae a' w') hsz hm k4.1 k4.2 cops.size (List.range cops.size) _ _ a _ β V F (by simp) (List.pairwise_lt_range) (by simp) (fun i hi => ?_) (fun i hi => List.mem_range.1 hi) (fun i o ho hli => ?_) r2 (Nat.le_add_right s.n res) (fun i hi k hk => ?_) (by rw [hmap]; exact hA) ?_
    · simp [hi]
    · have hi' := (Array.getElem?_eq_some_iff.1 ho).1
      simp [hi'] at hli
    · refine hfr k (List.mem_filterMap.2 ⟨ops.getD i default, ?_, hk⟩)
      have hi' : i < ops.length := by have := List.mem_range.1 hi; omega
      rw [List.getD_eq_getElem?_getD, List.getElem?_eq_getElem hi']
      exact List.getElem_mem _
    · intro s' a' w' β' V' F' g1 g2 g3 g4 g5 g6
      exact ⟨.normal, rfl, ⟨⟨_, β', V', F', g1, rel_prune g2 live, g3, ⟨g4.os, g4.tape, g4.output⟩, by simp only at g5 ⊢; omega, g6⟩⟩⟩

def frzT (h : Hp) (sl : List Nat) (t : Nat → AV) : Nat → AV := fun i => if i ∈ sl then (frz h FZ (t i)).getD .undef else t i

/-- Freezing costs nothing. -/
theorem AW.fz {sl : List Nat} {x : ACode} {Q : AExit → St → Prop} {s : St} (hf : ∀ i ∈ sl, (frz s.h FZ (s.t i)).isSome = true)
    (h : AW E nt x Q ⟨frzT s.h sl s.t, roAll (frzKL s.h (sl.map s.t)) s.h, s.n⟩) : AW E nt (.fz sl x) Q s := by
  intro c m a w β V F r
  have x0 := ro_ext r.hr (frzKL s.h (sl.map s.t))
  have R1 := ro_rel r.hr (frzKL s.h (sl.map s.t))
  have r1 : RelO E nt ⟨frzT s.h sl s.t, roAll (frzKL s.h (sl.map s.t)) s.h, s.n⟩ a w β V (roF s.h β (frzKL s.h (sl.map s.t)) F) := by
    refine ⟨r.defers, r.nt, fun i => ?_, R1, r.vb⟩
    simp only [frzT]
    split
    · rename_i hi
      have := hf i hi
      obtain ⟨y, hy⟩ := Option.isSome_iff_exists.1 this
      rw [hy]
      simp only [Option.getD_some]
      refine .fz (frz_sound r.hr (fun b hb => .inl hb) FZ (r.tr i) hy (fun κ hκ b e hb => ?_))
      have hmem : κ ∈ frzKL s.h (sl.map s.t) := List.mem_flatMap.2 ⟨s.t i, List.mem_map.2 ⟨i, hi, rfl⟩, hκ⟩
      cases ho : s.h κ with
      | none => rw [(r.hr.dom κ).1 ho] at hb; cases hb
      | some o =>
        cases o with
        | row ro esz es => exact .inr ⟨κ, hmem, e, ro, esz, es, hb, ho⟩
        | mp es => exact (frz_nomap ho FZ _ _ hy hκ).elim
    · exact (r.tr i).mono r.hr.fsz x0
  refine wp_mono (h c ⟨m.eq, m.ok, m.mx⟩ a w β V _ r1) ?_
  rintro e a' w' ⟨ae, rfl, k⟩
  exact ⟨ae, rfl, End.trans (s1 := ⟨frzT s.h sl s.t, roAll (frzKL s.h (sl.map s.t)) s.h, s.n⟩) x0 (WX.refl w) (Nat.le_refl _) (fun _ h _ => h) k⟩

/-! ### Functions -/
inductive ARes where
  | t (i : Nat)
  | cell (i c : Nat) (ag : Bool) (n : Nat)

structure AFun where
  code : ACode
  nt : Nat
  res : List ARes

def emR (E : Env) : ARes → ResultVar
  | .t i => .tmp i
  | .cell i c _ _ => .cell i (E.ty c)

def okR (E : Env) : ARes → Bool
  | .t _ => true
  | .cell _ c ag n => aggB E (E.ty c) ag && (!ag || szB E (E.ty c) n)

/-- The abstract function is the model's function of that number. -/
structure Fn (E : Env) (f : Nat) (A : AFun) (np : Nat) : Prop where
  ex : ∃ fn c, E.P.funcs[E.fn f]? = some fn ∧ (fn.name == "runtime.NumGoroutine") = false ∧ fn.body = some c ∧ fn.ntmps = A.nt ∧ np ≤ A.nt ∧ fn.results.toList = A.res.map (emR E) ∧
    A.res.all (okR E) = true ∧ MatchC E A.nt A.code c

theorem Fn.ok {f : Nat} {A : AFun} {np : Nat} (h : Fn E f A np) : FnOk E f := by
  obtain ⟨fn, c, h1, h2, h3, _⟩ := h
  exact ⟨fn, h1, h2, by rw [h3]; rfl⟩

def resV (h : Hp) (t : Nat → AV) : ARes → Option AV
  | .t i => some (t i)
  | .cell i _ ag n => aload h ag n (t i)

def resL (h : Hp) (t : Nat → AV) : List ARes → Option AV
  | [r] => resV h t r
  | rs => (rs.mapM (resV h t)).map .tup

def rdRes (tm : Array Value) : ResultVar → Sem Value
  | .tmp t => pure (tm.getD t Go.undef)
  | .cell a t => do loadVar t (← asAddr (tm.getD a Go.undef))

theorem results_eq (fn : Func) (tm : Array Value) : results fn tm = (do let vs ← fn.results.mapM (rdRes tm); pure (if h : vs.size = 1 then vs[0] else .tuple vs)) := by
  unfold results
  congr 2

theorem resV_sound {h : Hp} {w : World} {β : Bt} {V F : Nat → Prop} (R : HRel E h w.heap β V F) {t : Nat → AV} {tm : Array Value} (hT : TR E w.heap β V F t tm) {x : ARes} (ho : okR E x = true) {av : AV} (hv : resV h t x = some av) :
    ∃ u, (rdRes tm (emR E x)).run E.P w = .ok u w ∧ RV E w.heap β V F av u := by
  cases x with
  | t i =>
    obtain rfl := Option.some.inj hv
    exact ⟨_, rfl, hT i⟩
  | cell i c ag n =>
    simp only [resV] at hv
    simp only [okR, Bool.and_eq_true, Bool.or_eq_true, Bool.not_eq_true'] at ho
    obtain ⟨u, h1, h2⟩ := loadAt_sound R (hT i) ho.1 (fun e => by rcases ho.2 with h | h; (rw [e] at h; cases h); exact h) hv
    refine ⟨u, ?_, h2⟩
    have hp : ∃ A, tm.getD i Go.undef = .pointer (some A) := by
      have := hT i
      generalize tm.getD i Go.undef = v at this h1
      unfold aload at hv
      split at hv
      · rename_i cs hp
        obtain ⟨A, rfl, _⟩ := pcells_view R this hp
        exact ⟨A, rfl⟩
      · cases hv
    obtain ⟨A, hA⟩ := hp
    rw [hA] at h1
    simp only [emR, rdRes]
    rw [hA]
    simpa [Instr.loadAt, Instr.sureAddr, asAddr] using h1

theorem run_mapM_res {h : Hp} {w : World} {β : Bt} {V F : Nat → Prop} (R : HRel E h w.heap β V F) {t : Nat → AV} {tm : Array Value} (hT : TR E w.heap β V F t tm) :
    ∀ (rs : List ARes) (vs : List AV), rs.all (okR E) = true → rs.mapM (resV h t) = some vs →
      ∃ us, ((rs.map (emR E)).mapM (rdRes tm)).run E.P w = .ok us w ∧ us.length = vs.length ∧
        ∀ i, i < vs.length → RV E w.heap β V F (vs.getD i .undef) (us.getD i Go.undef)
  | [], vs, _, hv => by
    obtain rfl : vs = [] := by simpa using hv.symm
    exact ⟨[], rfl, rfl, fun i hi => by simp at hi⟩
  | x :: rs, vs, ho, hv => by
    simp only [List.all_cons, Bool.and_eq_true] at ho
    simp only [List.mapM_cons, Option.bind_eq_bind, Option.bind_eq_some_iff, Option.pure_def, Option.some.injEq] at hv
    obtain ⟨v, hv1, vs', hv2, rfl⟩ := hv
    obtain ⟨u, h1, h2⟩ := resV_sound R hT ho.1 hv1
    obtain ⟨us, h3, h4, h5⟩ := run_mapM_res R hT rs vs' ho.2 hv2
    refine ⟨u :: us, ?_, by simp [h4], fun i hi => ?_⟩
    · simp only [List.map_cons, List.mapM_cons, Sem.run_bind, h1, Result.andThen_ok, h3, Sem.run_pure]
    · cases i with
      | zero => simpa using h2
      | succ i => simpa using h5 i (by simpa using hi)

theorem results_sound {h : Hp} {w : World} {β : Bt} {V F : Nat → Prop} (R : HRel E h w.heap β V F) {t : Nat → AV} {tm : Array Value} (hT : TR E w.heap β V F t tm) {fn : Func} {rs : List ARes}
    (hr : fn.results.toList = rs.map (emR E)) (ho : rs.all (okR E) = true) {av : AV} (hv : resL h t rs = some av) :
    ∃ u, (results fn tm).run E.P w = .ok u w ∧ RV E w.heap β V F av u := by
  have key : ∀ vs : List AV, rs.mapM (resV h t) = some vs → ∃ us : List Value, (results fn tm).run E.P w = .ok (if hh : us.toArray.size = 1 then us.toArray[0] else .tuple us.toArray) w ∧ us.length = vs.length ∧
      ∀ i, i < vs.length → RV E w.heap β V F (vs.getD i .undef) (us.getD i Go.undef) := by
    intro vs hvs
    obtain ⟨us, h1, h2, h3⟩ := run_mapM_res R hT rs vs ho hvs
    refine ⟨us, ?_, h2, h3⟩
    rw [← hr] at h1
    rw [results_eq, Array.mapM_eq_mapM_toList]
    simp only [Sem.run_bind, Sem.run_map]
    rw [h1]
    simp
  unfold resL at hv
  split at hv
  · rename_i r
    obtain ⟨us, h1, h2, h3⟩ := key [av] (by simp [hv])
    have h0 := h3 0 (by simp)
    simp only [List.length_singleton] at h2
    obtain ⟨u, rfl⟩ := List.length_eq_one_iff.1 h2
    exact ⟨u, by simpa using h1, by simpa using h0⟩
  · rename_i hne
    obtain ⟨vs, hvs, rfl⟩ := Option.map_eq_some_iff.1 hv
    obtain ⟨us, h1, h2, h3⟩ := key vs hvs
    have hlen : vs.length ≠ 1 := by
      intro e
      have := (mapM_some hvs).1
      rw [e] at this
      obtain ⟨r, hr'⟩ := List.length_eq_one_iff.1 this.symm
      exact hne r hr'
    have hd : ¬ (us.toArray.size = 1) := by simp; omega
    rw [dif_neg hd] at h1
    exact ⟨_, h1, .tup _ _ (by simp [h2]) (fun i hi => by have := h3 i hi; simpa using this)⟩

def argT (args : List AV) : Nat → AV := fun i => args.getD i .undef

theorem argT_undef {args : List AV} : True := trivial

theorem enter_rel {h : Hp} {w : World} {β : Bt} {V F : Nat → Prop} (R : HRel E h w.heap β V F) {n : Nat} (vb : ∀ κ, V κ → κ < n) {args : List AV} {vs : Array Value} (hl : vs.size = args.length) (hn : args.length ≤ nt)
    (hrv : ∀ i, i < args.length → RV E w.heap β V F (args.getD i .undef) (vs.getD i Go.undef)) :
    RelO E nt ⟨argT args, h, n⟩ { tmps := vs ++ Array.replicate (nt - vs.size) Go.undef, defers := [] } w β V F := by
  refine ⟨rfl, by simp; omega, fun i => ?_, R, vb⟩
  by_cases hi : i < args.length
  · simp only [argT]
    rw [getD_append_left _ _ (by omega)]
    exact hrv i hi
  · have : argT args i = .undef := by simp [argT, List.getD_eq_getElem?_getD, List.getElem?_eq_none (Nat.le_of_not_lt hi)]
    simp only [this]
    exact .fz (.undef _)

def retQ (P : AV → St → Prop) (rs : List ARes) : AExit → St → Prop
  | .exit _, _ => False
  | _, s => ∃ r, resL s.h s.t rs = some r ∧ P r s

/-- A contract with memory, out of the code. -/
theorem calls_of {f : Nat} {A : AFun} {args : List AV} {h : Hp} {n : Nat} {R : AV → Hp → Nat → Prop} (hf : Fn E f A args.length)
    (hA : AW E A.nt A.code (retQ (fun r s => R r s.h s.n) A.res) ⟨argT args, h, n⟩) : ACallS E f args h n R := by
  refine ⟨hf.ok, fun w β V F vs Rh vb hl hrv => ?_⟩
  obtain ⟨fn, c, h1, h2, h3, h4, h5, h6, h7, h8⟩ := hf
  refine calls_of_wp h1 h3 ?_
  have r0 := enter_rel (nt := A.nt) Rh vb hl h5 hrv
  rw [h4]
  refine wp_mono (hA c h8 _ w β V F r0) ?_
  rintro e a' w' ⟨ae, rfl, ⟨s', β', V', F', g1, g2, g3, g4, g5, g6⟩⟩
  have fin : (∃ r, resL s'.h s'.t A.res = some r ∧ R r s'.h s'.n) → a'.defers = [] ∧ ∃ v, (results fn a'.tmps).run E.P w' = .ok v w' ∧ ∃ v_1 β' V' F' r h' n', Ending.returned v = .returned v_1 ∧ RV E w'.heap β' V' F' r v_1 ∧ HRel E h' w'.heap β' V' F' ∧
      Ext w.heap β V F w'.heap β' V' F' ∧ WX w w' ∧ n ≤ n' ∧ (∀ κ, V' κ → κ < n') ∧ (∀ κ, V' κ → κ < n → V κ) ∧ R r h' n' := by
    rintro ⟨r, hr, hR⟩
    obtain ⟨u, k1, k2⟩ := results_sound g2.hr g2.tr h6 h7 hr
    exact ⟨g2.defers, u, k1, u, β', V', F', r, s'.h, s'.n, rfl, k2, g2.hr, g3, g4, g5, g2.vb, g6, hR⟩
  cases ae with
  | normal => exact fin g1
  | ret => exact fin g1
  | exit i => exact g1.elim

/-- A pure contract, out of the code. -/
theorem callp_of {f : Nat} {A : AFun} {args : List AV} {r0 : AV} (hf : Fn E f A args.length)
    (hA : AW E A.nt A.code (retQ (fun r s => frz s.h FZ r = some r0) A.res) ⟨argT args, fun _ => none, 0⟩) : ACallP E f args r0 := by
  refine ⟨hf.ok, fun w F vs hgb hgo hF hl hrv => ?_⟩
  have R0 : HRel E (fun _ => none) w.heap (fun _ => none) (fun _ => False) F := ⟨fun κ => (by simp), fun κ b e h => (by cases h), fun κ κ' b e e' h _ => (by cases h), fun κ o h => (by cases h), hF, fun κ b e h => (by cases h), hgb, hgo⟩
  have hs := (calls_of (R := fun r h' _ => frz h' FZ r = some r0) hf hA).2 w (fun _ => none) (fun _ => False) F vs R0 (fun _ h => h.elim) hl (fun i hi => .fz (hrv i hi))
  refine hs.mono ?_
  rintro e w' ⟨v, β', V', F', r, h', n', rfl, g1, g2, g3, g4, g5, g6, g7, g8⟩
  refine ⟨v, fun b => F' b ∨ ∃ κ e, β' κ = some (b, e), rfl, ⟨frz_sound g2 (fun b hb => .inl hb) FZ g1 g8 (fun κ _ b e hb => .inr ⟨κ, e, hb⟩), fun b hb => .inl (g3.fmono b hb), fun b hb => ?_, fun b hb => ?_, g3.size,
    fun b hb => g3.out b hb (fun κ e he => by cases he), g4⟩⟩
  · rcases hb with hb | ⟨κ, e, hb⟩
    · rcases g3.fnew b hb with h | ⟨κ, e, h⟩ | h
      · exact .inl h
      · cases h
      · exact .inr h
    · rcases g3.img κ b e hb with ⟨κ', e', h⟩ | h
      · cases h
      · exact .inr h
  · rcases hb with hb | ⟨κ, e, hb⟩
    · exact g2.fsz b hb
    · exact (g2.lt κ b e hb).2

end Go.Proofs.YtablleokoifolaaGreatDoor

/- Abstract code of functions, written by a program of this claim set (gen.py) out of the program's own print. -/
set_option linter.unusedVariables false
set_option maxRecDepth 100000
namespace Go.Proofs.YtablleokoifolaaGreatDoor
open Go

/-- mandrel/mandrellaw08.ValidBodies -/
def F_law08_ValidBodies_p1 : ACode :=
  .cond (.t 18) (.seq (.reg 0 [⟨some 19, .callp 2 [], none⟩, ⟨some 6, .asg (.t 19), none⟩] false [6])
       (.ret)) (.skip)
def F_law08_ValidBodies_p2 : ACode :=
  .seq (.reg 0 [⟨some 32, .mov (.t 10), none⟩, ⟨some 33, .callp 9 [.t 32], none⟩, ⟨some 34, .mov (.t 11), none⟩, ⟨some 35, .bin .eql .other 2 (.t 33) (.t 34), none⟩, ⟨some 36, .mov (.t 35), none⟩, ⟨some 37, .mov (.t 9), some (4, 36, true)⟩, ⟨some 38, .mov (.t 12), some (4, 36, true)⟩, ⟨some 39, .bin .eql .other 2 (.t 37) (.t 38), some (4, 36, true)⟩, ⟨some 40, .pick (.t 36) (.t 39) (.c (.bool false)), none⟩, ⟨some 41, .mov (.t 40), none⟩, ⟨some 42, .load 1 true 8 (.t 8), some (9, 41, true)⟩, ⟨some 43, .callp 6 [.t 42, .c (.int .i64 0)], some (9, 41, true)⟩, ⟨some 44, .callp 9 [.t 43], some (9, 41, true)⟩, ⟨some 45, .mov (.t 11), some (9, 41, true)⟩, ⟨some 46, .bin .eql .other 2 (.t 44) (.t 45), some (9, 41, true)⟩, ⟨some 47, .pick (.t 41) (.t 46) (.c (.bool false)), none⟩, ⟨some 48, .mov (.t 47), none⟩, ⟨some 49, .callp 2 [], some (16, 48, true)⟩, ⟨some 50, .pick (.t 48) (.t 49) (.c (.bool false)), none⟩, ⟨some 6, .asg (.t 50), none⟩] false [6])
        (.ret)
def F_law08_ValidBodies_p3 : ACode :=
  .seq (.reg 0 [⟨some 28, .load 0 true 8 (.t 7), none⟩, ⟨some 29, .callp 8 [.t 28, .c (.int .i64 0)], none⟩, ⟨some 27, .mov (.t 29), none⟩, ⟨some 30, .ext (.t 27) 0, none⟩, ⟨some 31, .ext (.t 27) 1, none⟩, ⟨some 11, .asg (.t 30), none⟩, ⟨some 12, .asg (.t 31), none⟩] false [8, 9, 10, 11, 12])
       (F_law08_ValidBodies_p2)
def F_law08_ValidBodies_p4 : ACode :=
  .seq (.reg 0 [⟨some 23, .load 1 true 8 (.t 8), none⟩, ⟨some 24, .callp 7 [.t 23, .c (.int .i64 0)], none⟩, ⟨some 22, .mov (.t 24), none⟩, ⟨some 25, .ext (.t 22) 0, none⟩, ⟨some 26, .ext (.t 22) 1, none⟩, ⟨some 9, .asg (.t 25), none⟩, ⟨some 10, .asg (.t 26), none⟩] false [7, 8, 9, 10])
      (F_law08_ValidBodies_p3)
def F_law08_ValidBodies_p5 : ACode :=
  .seq (.reg 1 [⟨some 20, .load 0 true 8 (.t 7), none⟩, ⟨some 21, .callp 3 [.t 20], none⟩, ⟨some 8, .alloc 0 1 [.nils, .nils, .nils, .nils, .nils, .nils, .nils, .nils], none⟩, ⟨none, .store 1 8 (.t 8) (.t 21), none⟩] false [7, 8])
     (F_law08_ValidBodies_p4)
def F_law08_ValidBodies_p6 : ACode :=
  .seq (.seq (.reg 0 [⟨some 17, .load 0 true 8 (.t 7), none⟩, ⟨some 18, .callp 1 [.t 17], none⟩] false [7, 18])
     (F_law08_ValidBodies_p1))
    (F_law08_ValidBodies_p5)
def F_law08_ValidBodies_p7 : ACode :=
  .seq (.reg 1 [⟨some 13, .mov (.t 0), none⟩, ⟨some 14, .mov (.t 1), none⟩, ⟨some 15, .mov (.t 2), none⟩, ⟨some 16, .callp 11 [.t 13, .t 14, .t 15], none⟩, ⟨some 7, .alloc 0 0 [.nils, .nils, .nils, .nils, .nils, .nils, .nils, .nils], none⟩, ⟨none, .store 0 8 (.t 7) (.t 16), none⟩] false [7])
   (F_law08_ValidBodies_p6)
def F_law08_ValidBodies_p8 : ACode :=
  .seq (.reg 0 [⟨some 6, .asg (.c (.bool false)), none⟩] false [0, 1, 2])
  (F_law08_ValidBodies_p7)
def F_law08_ValidBodies : AFun := { nt := 51, res := [.t 6], code := (F_law08_ValidBodies_p8) }

/-- mandrel/mandrellaw08.bigModule -/
def F_law08_bigModule_p1 : ACode :=
  .cond (.t 55) (.seq (.reg 0 [⟨some 2, .asg (.c (.bool true)), none⟩] false [2])
      (.ret)) (.skip)
def F_law08_bigModule_p2 : ACode :=
  .reg 0 [⟨some 61, .mov (.t 4), none⟩, ⟨some 62, .bin .add .other 2 (.t 61) (.c (.int .i64 1)), none⟩, ⟨some 4, .asg (.t 62), none⟩] false [1, 3, 4]
def F_law08_bigModule_p3 : ACode :=
  .seq (.block 1 (.reg 0 [⟨some 63, .mov (.t 3), none⟩, ⟨some 64, .faddr 0 0 0 (.t 1), none⟩, ⟨some 65, .load 28 false 1 (.t 64), none⟩, ⟨some 66, .mov (.t 4), none⟩, ⟨some 67, .iaddr 28 2 (.t 65) (.t 66), none⟩, ⟨some 68, .faddr 35 0 0 (.t 67), none⟩, ⟨some 69, .load 36 false 1 (.t 68), none⟩, ⟨some 70, .len 36 (.t 69), none⟩, ⟨some 71, .mm false 2 2 (.t 70) (.c (.int .i64 5000)), none⟩, ⟨some 72, .bin .add .other 2 (.t 63) (.t 71), none⟩, ⟨some 3, .asg (.t 72), none⟩] false [1, 3, 4]))
          (F_law08_bigModule_p2)
def F_law08_bigModule_p4 : ACode :=
  .seq (.seq (.reg 0 [⟨some 56, .mov (.t 4), none⟩, ⟨some 57, .faddr 0 0 0 (.t 1), none⟩, ⟨some 58, .load 28 false 1 (.t 57), none⟩, ⟨some 59, .len 28 (.t 58), none⟩, ⟨some 60, .bin .lss .other 2 (.t 56) (.t 59), none⟩] false [1, 3, 4, 60])
          (.cond (.t 60) (.skip) (.exit 0)))
         (F_law08_bigModule_p3)
def F_law08_bigModule_p5 : ACode :=
  .reg 0 [⟨some 78, .mov (.t 5), none⟩, ⟨some 79, .bin .add .other 2 (.t 78) (.c (.int .i64 1)), none⟩, ⟨some 5, .asg (.t 79), none⟩] false [1, 3, 5]
def F_law08_bigModule_p6 : ACode :=
  .seq (.block 3 (.reg 0 [⟨some 80, .mov (.t 3), none⟩, ⟨some 81, .faddr 0 1 1 (.t 1), none⟩, ⟨some 82, .load 29 false 1 (.t 81), none⟩, ⟨some 83, .mov (.t 5), none⟩, ⟨some 84, .iaddr 29 3 (.t 82) (.t 83), none⟩, ⟨some 85, .faddr 37 1 1 (.t 84), none⟩, ⟨some 86, .load 36 false 1 (.t 85), none⟩, ⟨some 87, .len 36 (.t 86), none⟩, ⟨some 88, .mm false 2 2 (.t 87) (.c (.int .i64 5000)), none⟩, ⟨some 89, .bin .add .other 2 (.t 80) (.t 88), none⟩, ⟨some 90, .faddr 0 1 1 (.t 1), none⟩, ⟨some 91, .load 29 false 1 (.t 90), none⟩, ⟨some 92, .mov (.t 5), none⟩, ⟨some 93, .iaddr 29 3 (.t 91) (.t 92), none⟩, ⟨some 94, .faddr 37 2 2 (.t 93), none⟩, ⟨some 95, .load 10 false 1 (.t 94), none⟩, ⟨some 96, .callp 16 [.t 95, .c (.int .i64 3000), .c (.int .i64 0)], none⟩, ⟨some 97, .bin .add .other 2 (.t 89) (.t 96), none⟩, ⟨some 3, .asg (.t 97), none⟩] true [1, 3, 5]))
           (F_law08_bigModule_p5)
def F_law08_bigModule_p7 : ACode :=
  .seq (.seq (.reg 0 [⟨some 73, .mov (.t 5), none⟩, ⟨some 74, .faddr 0 1 1 (.t 1), none⟩, ⟨some 75, .load 29 false 1 (.t 74), none⟩, ⟨some 76, .len 29 (.t 75), none⟩, ⟨some 77, .bin .lss .other 2 (.t 73) (.t 76), none⟩] false [1, 3, 5, 77])
           (.cond (.t 77) (.skip) (.exit 2)))
          (F_law08_bigModule_p6)
def F_law08_bigModule_p8 : ACode :=
  .reg 0 [⟨some 103, .mov (.t 6), none⟩, ⟨some 104, .bin .add .other 2 (.t 103) (.c (.int .i64 1)), none⟩, ⟨some 6, .asg (.t 104), none⟩] false [1, 3, 6]
def F_law08_bigModule_p9 : ACode :=
  .seq (.block 5 (.reg 0 [⟨some 105, .mov (.t 3), none⟩, ⟨some 106, .faddr 0 5 5 (.t 1), none⟩, ⟨some 107, .load 32 false 1 (.t 106), none⟩, ⟨some 108, .mov (.t 6), none⟩, ⟨some 109, .iaddr 32 3 (.t 107) (.t 108), none⟩, ⟨some 110, .faddr 38 0 0 (.t 109), none⟩, ⟨some 111, .load 39 false 1 (.t 110), none⟩, ⟨some 112, .lenS 39 (.t 111), none⟩, ⟨some 113, .mm false 2 2 (.t 112) (.c (.int .i64 5000)), none⟩, ⟨some 114, .bin .add .other 2 (.t 105) (.t 113), none⟩, ⟨some 3, .asg (.t 114), none⟩] false [1, 3, 6]))
            (F_law08_bigModule_p8)
def F_law08_bigModule_p10 : ACode :=
  .seq (.seq (.reg 0 [⟨some 98, .mov (.t 6), none⟩, ⟨some 99, .faddr 0 5 5 (.t 1), none⟩, ⟨some 100, .load 32 false 1 (.t 99), none⟩, ⟨some 101, .len 32 (.t 100), none⟩, ⟨some 102, .bin .lss .other 2 (.t 98) (.t 101), none⟩] false [1, 3, 6, 102])
            (.cond (.t 102) (.skip) (.exit 4)))
           (F_law08_bigModule_p9)
def F_law08_bigModule_p11 : ACode :=
  .reg 0 [⟨some 120, .mov (.t 7), none⟩, ⟨some 121, .bin .add .other 2 (.t 120) (.c (.int .i64 1)), none⟩, ⟨some 7, .asg (.t 121), none⟩] false [1, 3, 7]
def F_law08_bigModule_p12 : ACode :=
  .seq (.block 7 (.reg 1 [⟨some 122, .mov (.t 3), none⟩, ⟨some 123, .faddr 0 6 6 (.t 1), none⟩, ⟨some 124, .load 33 false 1 (.t 123), none⟩, ⟨some 125, .mov (.t 7), none⟩, ⟨some 126, .iaddr 33 10 (.t 124) (.t 125), none⟩, ⟨some 127, .faddr 40 2 9 (.t 126), none⟩, ⟨some 128, .load 23 false 1 (.t 127), none⟩, ⟨some 129, .len 23 (.t 128), none⟩, ⟨some 130, .mm false 2 2 (.t 129) (.c (.int .i64 5000)), none⟩, ⟨some 131, .bin .add .other 2 (.t 122) (.t 130), none⟩, ⟨some 132, .faddr 0 6 6 (.t 1), none⟩, ⟨some 133, .load 33 false 1 (.t 132), none⟩, ⟨some 134, .mov (.t 7), none⟩, ⟨some 135, .iaddr 33 10 (.t 133) (.t 134), none⟩, ⟨some 136, .faddr 40 1 1 (.t 135), none⟩, ⟨some 137, .load 9 true 8 (.t 136), none⟩, ⟨some 138, .bslv 0 10 [.int .u8 0, .int .i64 0, .int .u32 0, .int .u32 0, .int .u8 0, .nils, .nils, .nils] 1 [(0, .t 137)], none⟩, ⟨some 139, .callp 16 [.t 138, .c (.int .i64 3000), .c (.int .i64 0)], none⟩, ⟨some 140, .bin .add .other 2 (.t 131) (.t 139), none⟩, ⟨some 3, .asg (.t 140), none⟩] true [1, 3, 7]))
             (F_law08_bigModule_p11)
def F_law08_bigModule_p13 : ACode :=
  .seq (.seq (.reg 0 [⟨some 115, .mov (.t 7), none⟩, ⟨some 116, .faddr 0 6 6 (.t 1), none⟩, ⟨some 117, .load 33 false 1 (.t 116), none⟩, ⟨some 118, .len 33 (.t 117), none⟩, ⟨some 119, .bin .lss .other 2 (.t 115) (.t 118), none⟩] false [1, 3, 7, 119])
             (.cond (.t 119) (.skip) (.exit 6)))
            (F_law08_bigModule_p12)
def F_law08_bigModule_p14 : ACode :=
  .reg 0 [⟨some 146, .mov (.t 8), none⟩, ⟨some 147, .bin .add .other 2 (.t 146) (.c (.int .i64 1)), none⟩, ⟨some 8, .asg (.t 147), none⟩] false [1, 3, 8]
def F_law08_bigModule_p15 : ACode :=
  .seq (.block 9 (.reg 1 [⟨some 148, .mov (.t 3), none⟩, ⟨some 149, .faddr 0 7 7 (.t 1), none⟩, ⟨some 150, .load 34 false 1 (.t 149), none⟩, ⟨some 151, .mov (.t 8), none⟩, ⟨some 152, .iaddr 34 10 (.t 150) (.t 151), none⟩, ⟨some 153, .faddr 41 2 9 (.t 152), none⟩, ⟨some 154, .load 36 false 1 (.t 153), none⟩, ⟨some 155, .len 36 (.t 154), none⟩, ⟨some 156, .mm false 2 2 (.t 155) (.c (.int .i64 5000)), none⟩, ⟨some 157, .bin .add .other 2 (.t 148) (.t 156), none⟩, ⟨some 158, .faddr 0 7 7 (.t 1), none⟩, ⟨some 159, .load 34 false 1 (.t 158), none⟩, ⟨some 160, .mov (.t 8), none⟩, ⟨some 161, .iaddr 34 10 (.t 159) (.t 160), none⟩, ⟨some 162, .faddr 41 1 1 (.t 161), none⟩, ⟨some 163, .load 9 true 8 (.t 162), none⟩, ⟨some 164, .bslv 0 10 [.int .u8 0, .int .i64 0, .int .u32 0, .int .u32 0, .int .u8 0, .nils, .nils, .nils] 1 [(0, .t 163)], none⟩, ⟨some 165, .callp 16 [.t 164, .c (.int .i64 3000), .c (.int .i64 0)], none⟩, ⟨some 166, .bin .add .other 2 (.t 157) (.t 165), none⟩, ⟨some 3, .asg (.t 166), none⟩] true [1, 3, 8]))
              (F_law08_bigModule_p14)
def F_law08_bigModule_p16 : ACode :=
  .seq (.seq (.reg 0 [⟨some 141, .mov (.t 8), none⟩, ⟨some 142, .faddr 0 7 7 (.t 1), none⟩, ⟨some 143, .load 34 false 1 (.t 142), none⟩, ⟨some 144, .len 34 (.t 143), none⟩, ⟨some 145, .bin .lss .other 2 (.t 141) (.t 144), none⟩] false [1, 3, 8, 145])
              (.cond (.t 145) (.skip) (.exit 8)))
             (F_law08_bigModule_p15)
def F_law08_bigModule_p17 : ACode :=
  .reg 0 [⟨some 172, .mov (.t 9), none⟩, ⟨some 173, .bin .add .other 2 (.t 172) (.c (.int .i64 1)), none⟩, ⟨some 9, .asg (.t 173), none⟩] false [1, 3, 9]
def F_law08_bigModule_p18 : ACode :=
  .seq (.block 11 (.reg 1 [⟨some 174, .mov (.t 3), none⟩, ⟨some 175, .faddr 0 4 4 (.t 1), none⟩, ⟨some 176, .load 31 false 1 (.t 175), none⟩, ⟨some 177, .mov (.t 9), none⟩, ⟨some 178, .iaddr 31 10 (.t 176) (.t 177), none⟩, ⟨some 179, .faddr 42 2 2 (.t 178), none⟩, ⟨some 180, .load 9 true 8 (.t 179), none⟩, ⟨some 181, .bslv 0 10 [.int .u8 0, .int .i64 0, .int .u32 0, .int .u32 0, .int .u8 0, .nils, .nils, .nils] 1 [(0, .t 180)], none⟩, ⟨some 182, .callp 16 [.t 181, .c (.int .i64 3000), .c (.int .i64 0)], none⟩, ⟨some 183, .bin .add .other 2 (.t 174) (.t 182), none⟩, ⟨some 3, .asg (.t 183), none⟩] false [1, 3, 9]))
               (F_law08_bigModule_p17)
def F_law08_bigModule_p19 : ACode :=
  .seq (.seq (.reg 0 [⟨some 167, .mov (.t 9), none⟩, ⟨some 168, .faddr 0 4 4 (.t 1), none⟩, ⟨some 169, .load 31 false 1 (.t 168), none⟩, ⟨some 170, .len 31 (.t 169), none⟩, ⟨some 171, .bin .lss .other 2 (.t 167) (.t 170), none⟩] false [1, 3, 9, 171])
               (.cond (.t 171) (.skip) (.exit 10)))
              (F_law08_bigModule_p18)
def F_law08_bigModule_p20 : ACode :=
  .seq (.reg 0 [⟨some 184, .mov (.t 3), none⟩, ⟨some 185, .bin .gtr .other 2 (.t 184) (.c (.int .i64 1000)), none⟩, ⟨some 2, .asg (.t 185), none⟩] false [2])
           (.ret)
def F_law08_bigModule_p21 : ACode :=
  .seq (.seq (.reg 0 [⟨some 9, .asg (.c (.int .i64 0)), none⟩] false [1, 3, 9])
           (.block 10 (.loop (F_law08_bigModule_p19))))
          (F_law08_bigModule_p20)
def F_law08_bigModule_p22 : ACode :=
  .seq (.seq (.reg 0 [⟨some 8, .asg (.c (.int .i64 0)), none⟩] false [1, 3, 8])
          (.block 8 (.loop (F_law08_bigModule_p16))))
         (F_law08_bigModule_p21)
def F_law08_bigModule_p23 : ACode :=
  .seq (.seq (.reg 0 [⟨some 7, .asg (.c (.int .i64 0)), none⟩] false [1, 3, 7])
         (.block 6 (.loop (F_law08_bigModule_p13))))
        (F_law08_bigModule_p22)
def F_law08_bigModule_p24 : ACode :=
  .seq (.seq (.reg 0 [⟨some 6, .asg (.c (.int .i64 0)), none⟩] false [1, 3, 6])
        (.block 4 (.loop (F_law08_bigModule_p10))))
       (F_law08_bigModule_p23)
def F_law08_bigModule_p25 : ACode :=
  .seq (.seq (.reg 0 [⟨some 5, .asg (.c (.int .i64 0)), none⟩] false [1, 3, 5])
       (.block 2 (.loop (F_law08_bigModule_p7))))
      (F_law08_bigModule_p24)
def F_law08_bigModule_p26 : ACode :=
  .seq (.seq (.reg 0 [⟨some 4, .asg (.c (.int .i64 0)), none⟩] false [1, 3, 4])
      (.block 0 (.loop (F_law08_bigModule_p4))))
     (F_law08_bigModule_p25)
def F_law08_bigModule_p27 : ACode :=
  .seq (.reg 0 [⟨some 3, .asg (.c (.int .i64 0)), none⟩] false [1, 3])
    (F_law08_bigModule_p26)
def F_law08_bigModule_p28 : ACode :=
  .seq (.seq (.reg 0 [⟨some 10, .faddr 0 0 0 (.t 1), none⟩, ⟨some 11, .load 28 false 1 (.t 10), none⟩, ⟨some 12, .len 28 (.t 11), none⟩, ⟨some 13, .bin .gtr .other 2 (.t 12) (.c (.int .i64 300)), none⟩, ⟨some 14, .mov (.t 13), none⟩, ⟨some 15, .faddr 0 1 1 (.t 1), some (4, 14, false)⟩, ⟨some 16, .load 29 false 1 (.t 15), some (4, 14, false)⟩, ⟨some 17, .len 29 (.t 16), some (4, 14, false)⟩, ⟨some 18, .bin .gtr .other 2 (.t 17) (.c (.int .i64 300)), some (4, 14, false)⟩, ⟨some 19, .pick (.t 14) (.c (.bool true)) (.t 18), none⟩, ⟨some 20, .mov (.t 19), none⟩, ⟨some 21, .faddr 0 2 2 (.t 1), some (10, 20, false)⟩, ⟨some 22, .load 30 false 1 (.t 21), some (10, 20, false)⟩, ⟨some 23, .len 30 (.t 22), some (10, 20, false)⟩, ⟨some 24, .bin .gtr .other 2 (.t 23) (.c (.int .i64 300)), some (10, 20, false)⟩, ⟨some 25, .pick (.t 20) (.c (.bool true)) (.t 24), none⟩, ⟨some 26, .mov (.t 25), none⟩, ⟨some 27, .faddr 0 3 3 (.t 1), some (16, 26, false)⟩, ⟨some 28, .load 30 false 1 (.t 27), some (16, 26, false)⟩, ⟨some 29, .len 30 (.t 28), some (16, 26, false)⟩, ⟨some 30, .bin .gtr .other 2 (.t 29) (.c (.int .i64 300)), some (16, 26, false)⟩, ⟨some 31, .pick (.t 26) (.c (.bool true)) (.t 30), none⟩, ⟨some 32, .mov (.t 31), none⟩, ⟨some 33, .faddr 0 4 4 (.t 1), some (22, 32, false)⟩, ⟨some 34, .load 31 false 1 (.t 33), some (22, 32, false)⟩, ⟨some 35, .len 31 (.t 34), some (22, 32, false)⟩, ⟨some 36, .bin .gtr .other 2 (.t 35) (.c (.int .i64 300)), some (22, 32, false)⟩, ⟨some 37, .pick (.t 32) (.c (.bool true)) (.t 36), none⟩, ⟨some 38, .mov (.t 37), none⟩, ⟨some 39, .faddr 0 5 5 (.t 1), some (28, 38, false)⟩, ⟨some 40, .load 32 false 1 (.t 39), some (28, 38, false)⟩, ⟨some 41, .len 32 (.t 40), some (28, 38, false)⟩, ⟨some 42, .bin .gtr .other 2 (.t 41) (.c (.int .i64 300)), some (28, 38, false)⟩, ⟨some 43, .pick (.t 38) (.c (.bool true)) (.t 42), none⟩, ⟨some 44, .mov (.t 43), none⟩, ⟨some 45, .faddr 0 6 6 (.t 1), some (34, 44, false)⟩, ⟨some 46, .load 33 false 1 (.t 45), some (34, 44, false)⟩, ⟨some 47, .len 33 (.t 46), some (34, 44, false)⟩, ⟨some 48, .bin .gtr .other 2 (.t 47) (.c (.int .i64 300)), some (34, 44, false)⟩, ⟨some 49, .pick (.t 44) (.c (.bool true)) (.t 48), none⟩, ⟨some 50, .mov (.t 49), none⟩, ⟨some 51, .faddr 0 7 7 (.t 1), some (40, 50, false)⟩, ⟨some 52, .load 34 false 1 (.t 51), some (40, 50, false)⟩, ⟨some 53, .len 34 (.t 52), some (40, 50, false)⟩, ⟨some 54, .bin .gtr .other 2 (.t 53) (.c (.int .i64 300)), some (40, 50, false)⟩, ⟨some 55, .pick (.t 50) (.c (.bool true)) (.t 54), none⟩] false [1, 55])
    (F_law08_bigModule_p1))
   (F_law08_bigModule_p27)
def F_law08_bigModule_p29 : ACode :=
  .seq (.reg 1 [⟨some 1, .box 0 0 (.t 0), none⟩, ⟨some 2, .asg (.c (.bool false)), none⟩] false [1])
  (F_law08_bigModule_p28)
def F_law08_bigModule : AFun := { nt := 186, res := [.t 2], code := (F_law08_bigModule_p29) }

/-- mandrel/mandrellaw08.sure -/
def F_law08_sure_p1 : ACode :=
  .seq (.reg 0 [⟨some 27, .mov (.t 3), none⟩, ⟨some 28, .bin .eql .iface 8 (.t 27) (.c .nili), none⟩, ⟨some 29, .mov (.t 28), none⟩, ⟨some 30, .mov (.t 2), some (2, 29, true)⟩, ⟨some 31, .bin .eql .other 2 (.t 30) (.c (.int .i64 0)), some (2, 29, true)⟩, ⟨some 32, .pick (.t 29) (.t 31) (.c (.bool false)), none⟩, ⟨some 33, .mov (.t 32), none⟩, ⟨some 34, .load 1 true 8 (.t 1), some (6, 33, true)⟩, ⟨some 35, .callp 6 [.t 34, .c (.int .i64 0)], some (6, 33, true)⟩, ⟨some 36, .bin .eql .iface 8 (.t 35) (.c .nili), some (6, 33, true)⟩, ⟨some 37, .pick (.t 33) (.t 36) (.c (.bool false)), none⟩, ⟨some 38, .mov (.t 37), none⟩, ⟨some 39, .load 1 true 8 (.t 1), some (11, 38, true)⟩, ⟨some 40, .callp 6 [.t 39, .c (.int .i64 1)], some (11, 38, true)⟩, ⟨some 41, .callp 9 [.t 40], some (11, 38, true)⟩, ⟨some 42, .bin .eql .other 2 (.t 41) (.c (.int .i64 7)), some (11, 38, true)⟩, ⟨some 43, .pick (.t 38) (.t 42) (.c (.bool false)), none⟩, ⟨some 44, .mov (.t 43), none⟩, ⟨some 45, .mov (.t 4), some (17, 44, true)⟩, ⟨some 46, .bin .eql .other 2 (.t 45) (.c (.int .i64 1)), some (17, 44, true)⟩, ⟨some 47, .pick (.t 44) (.t 46) (.c (.bool false)), none⟩, ⟨some 48, .mov (.t 47), none⟩, ⟨some 49, .mov (.t 5), some (21, 48, true)⟩, ⟨some 50, .callp 9 [.t 49], some (21, 48, true)⟩, ⟨some 51, .bin .eql .other 2 (.t 50) (.c (.int .i64 7)), some (21, 48, true)⟩, ⟨some 52, .pick (.t 48) (.t 51) (.c (.bool false)), none⟩, ⟨some 0, .asg (.t 52), none⟩] false [0])
      (.ret)
def F_law08_sure_p2 : ACode :=
  .seq (.reg 0 [⟨some 23, .load 1 true 8 (.t 1), none⟩, ⟨some 24, .callp 4 [.t 23], none⟩, ⟨some 22, .mov (.t 24), none⟩, ⟨some 25, .ext (.t 22) 0, none⟩, ⟨some 26, .ext (.t 22) 1, none⟩, ⟨some 4, .asg (.t 25), none⟩, ⟨some 5, .asg (.t 26), none⟩] false [1, 2, 3, 4, 5])
     (F_law08_sure_p1)
def F_law08_sure_p3 : ACode :=
  .seq (.reg 0 [⟨some 18, .load 1 true 8 (.t 1), none⟩, ⟨some 19, .callp 7 [.t 18, .c (.int .i64 0)], none⟩, ⟨some 17, .mov (.t 19), none⟩, ⟨some 20, .ext (.t 17) 0, none⟩, ⟨some 21, .ext (.t 17) 1, none⟩, ⟨some 2, .asg (.t 20), none⟩, ⟨some 3, .asg (.t 21), none⟩] false [1, 2, 3])
    (F_law08_sure_p2)
def F_law08_sure_p4 : ACode :=
  .seq (.reg 5 [⟨some 6, .build 43 [.nils, .int .u8 0] [], none⟩, ⟨some 7, .bslice 0 17 [.nils, .int .u8 0] 1 [(0, .t 6)], none⟩, ⟨some 8, .build 3 [.int .u8 0, .int .i64 0, .int .u32 0, .int .u32 0, .int .u8 0, .nils, .nils, .nils] [(0, 0, 1, .c (.int .u8 0))], none⟩, ⟨some 9, .build 3 [.int .u8 0, .int .i64 0, .int .u32 0, .int .u32 0, .int .u8 0, .nils, .nils, .nils] [(0, 0, 1, .c (.int .u8 26))], none⟩, ⟨some 10, .bslice 1 4 [.int .u8 0, .int .i64 0, .int .u32 0, .int .u32 0, .int .u8 0, .nils, .nils, .nils] 2 [(0, .t 8), (1, .t 9)], none⟩, ⟨some 11, .build 6 [.int .u32 0, .nils, .nils] [(2, 2, 1, .t 10)], none⟩, ⟨some 12, .build 3 [.int .u8 0, .int .i64 0, .int .u32 0, .int .u32 0, .int .u8 0, .nils, .nils, .nils] [(0, 0, 1, .c (.int .u8 26))], none⟩, ⟨some 13, .bslice 2 4 [.int .u8 0, .int .i64 0, .int .u32 0, .int .u32 0, .int .u8 0, .nils, .nils, .nils] 1 [(0, .t 12)], none⟩, ⟨some 14, .build 6 [.int .u32 0, .nils, .nils] [(2, 2, 1, .t 13)], none⟩, ⟨some 15, .bslice 3 5 [.int .u32 0, .nils, .nils] 2 [(0, .t 11), (1, .t 14)], none⟩, ⟨some 16, .build 1 [.nils, .nils, .nils, .nils, .nils, .nils, .nils, .nils] [(0, 0, 1, .t 7), (1, 1, 1, .t 15)], none⟩, ⟨some 1, .alloc 4 1 [.nils, .nils, .nils, .nils, .nils, .nils, .nils, .nils], none⟩, ⟨none, .store 1 8 (.t 1) (.t 16), none⟩] false [1])
   (F_law08_sure_p3)
def F_law08_sure_p5 : ACode :=
  .seq (.reg 0 [⟨some 0, .asg (.c (.bool false)), none⟩] false [])
  (F_law08_sure_p4)
def F_law08_sure : AFun := { nt := 53, res := [.t 0], code := (F_law08_sure_p5) }

/-- mandrel/mandrellaw08.giveModule -/
def F_law08_giveModule_p1 : ACode :=
  .reg 0 [⟨some 17, .mov (.t 4), none⟩, ⟨some 18, .bin .add .other 2 (.t 17) (.c (.int .i64 1)), none⟩, ⟨some 4, .asg (.t 18), none⟩] false [1, 2, 3, 4]
def F_law08_giveModule_p2 : ACode :=
  .seq (.block 1 (.reg 2 [⟨some 19, .faddr 1 0 0 (.t 3), none⟩, ⟨some 20, .load 17 false 1 (.t 19), none⟩, ⟨some 21, .faddr 0 0 0 (.t 1), none⟩, ⟨some 22, .load 28 false 1 (.t 21), none⟩, ⟨some 23, .mov (.t 4), none⟩, ⟨some 24, .iaddr 28 2 (.t 22) (.t 23), none⟩, ⟨some 25, .faddr 35 0 0 (.t 24), none⟩, ⟨some 26, .load 36 false 1 (.t 25), none⟩, ⟨some 27, .callp 17 [.t 26], none⟩, ⟨some 28, .faddr 0 0 0 (.t 1), none⟩, ⟨some 29, .load 28 false 1 (.t 28), none⟩, ⟨some 30, .mov (.t 4), none⟩, ⟨some 31, .iaddr 28 2 (.t 29) (.t 30), none⟩, ⟨some 32, .faddr 35 1 1 (.t 31), none⟩, ⟨some 33, .load 7 false 1 (.t 32), none⟩, ⟨some 34, .build 43 [.nils, .int .u8 0] [(0, 0, 1, .t 27), (1, 1, 1, .t 33)], none⟩, ⟨some 35, .bslv 0 17 [.nils, .int .u8 0] 1 [(0, .t 34)], none⟩, ⟨some 36, .app 1 17 2 32 (.t 20) (.t 35), none⟩, ⟨some 37, .faddr 1 0 0 (.t 3), none⟩, ⟨none, .store 17 1 (.t 37) (.t 36), none⟩] true [1, 2, 3, 4]))
         (F_law08_giveModule_p1)
def F_law08_giveModule_p3 : ACode :=
  .seq (.seq (.reg 0 [⟨some 12, .mov (.t 4), none⟩, ⟨some 13, .faddr 0 0 0 (.t 1), none⟩, ⟨some 14, .load 28 false 1 (.t 13), none⟩, ⟨some 15, .len 28 (.t 14), none⟩, ⟨some 16, .bin .lss .other 2 (.t 12) (.t 15), none⟩] false [1, 2, 3, 4, 16])
         (.cond (.t 16) (.skip) (.exit 0)))
        (F_law08_giveModule_p2)
def F_law08_giveModule_p4 : ACode :=
  .reg 0 [⟨some 43, .mov (.t 5), none⟩, ⟨some 44, .bin .add .other 2 (.t 43) (.c (.int .i64 1)), none⟩, ⟨some 5, .asg (.t 44), none⟩] false [1, 2, 3, 5]
def F_law08_giveModule_p5 : ACode :=
  .seq (.block 3 (.reg 2 [⟨some 45, .faddr 1 1 1 (.t 3), none⟩, ⟨some 46, .load 5 false 1 (.t 45), none⟩, ⟨some 47, .faddr 0 1 1 (.t 1), none⟩, ⟨some 48, .load 29 false 1 (.t 47), none⟩, ⟨some 49, .mov (.t 5), none⟩, ⟨some 50, .iaddr 29 3 (.t 48) (.t 49), none⟩, ⟨some 51, .faddr 37 0 0 (.t 50), none⟩, ⟨some 52, .load 13 false 1 (.t 51), none⟩, ⟨some 53, .faddr 0 1 1 (.t 1), none⟩, ⟨some 54, .load 29 false 1 (.t 53), none⟩, ⟨some 55, .mov (.t 5), none⟩, ⟨some 56, .iaddr 29 3 (.t 54) (.t 55), none⟩, ⟨some 57, .faddr 37 1 1 (.t 56), none⟩, ⟨some 58, .load 36 false 1 (.t 57), none⟩, ⟨some 59, .callp 17 [.t 58], none⟩, ⟨some 60, .faddr 0 1 1 (.t 1), none⟩, ⟨some 61, .load 29 false 1 (.t 60), none⟩, ⟨some 62, .mov (.t 5), none⟩, ⟨some 63, .iaddr 29 3 (.t 61) (.t 62), none⟩, ⟨some 64, .faddr 37 2 2 (.t 63), none⟩, ⟨some 65, .load 10 false 1 (.t 64), none⟩, ⟨some 66, .callp 18 [.t 65], none⟩, ⟨some 67, .build 6 [.int .u32 0, .nils, .nils] [(0, 0, 1, .t 52), (1, 1, 1, .t 59), (2, 2, 1, .t 66)], none⟩, ⟨some 68, .bslv 0 5 [.int .u32 0, .nils, .nils] 1 [(0, .t 67)], none⟩, ⟨some 69, .app 1 5 3 56 (.t 46) (.t 68), none⟩, ⟨some 70, .faddr 1 1 1 (.t 3), none⟩, ⟨none, .store 5 1 (.t 70) (.t 69), none⟩] true [1, 2, 3, 5]))
          (F_law08_giveModule_p4)
def F_law08_giveModule_p6 : ACode :=
  .seq (.seq (.reg 0 [⟨some 38, .mov (.t 5), none⟩, ⟨some 39, .faddr 0 1 1 (.t 1), none⟩, ⟨some 40, .load 29 false 1 (.t 39), none⟩, ⟨some 41, .len 29 (.t 40), none⟩, ⟨some 42, .bin .lss .other 2 (.t 38) (.t 41), none⟩] false [1, 2, 3, 5, 42])
          (.cond (.t 42) (.skip) (.exit 2)))
         (F_law08_giveModule_p5)
def F_law08_giveModule_p7 : ACode :=
  .reg 0 [⟨some 76, .mov (.t 6), none⟩, ⟨some 77, .bin .add .other 2 (.t 76) (.c (.int .i64 1)), none⟩, ⟨some 6, .asg (.t 77), none⟩] false [1, 2, 3, 6]
def F_law08_giveModule_p8 : ACode :=
  .seq (.block 5 (.reg 2 [⟨some 78, .faddr 1 2 2 (.t 3), none⟩, ⟨some 79, .load 18 false 1 (.t 78), none⟩, ⟨some 80, .faddr 0 2 2 (.t 1), none⟩, ⟨some 81, .load 30 false 1 (.t 80), none⟩, ⟨some 82, .mov (.t 6), none⟩, ⟨some 83, .iaddr 30 3 (.t 81) (.t 82), none⟩, ⟨some 84, .load 44 true 3 (.t 83), none⟩, ⟨some 85, .bslv 0 18 [.int .u32 0, .bool false, .int .u32 0] 1 [(0, .t 84)], none⟩, ⟨some 86, .app 1 18 3 12 (.t 79) (.t 85), none⟩, ⟨some 87, .faddr 1 2 2 (.t 3), none⟩, ⟨none, .store 18 1 (.t 87) (.t 86), none⟩] true [1, 2, 3, 6]))
           (F_law08_giveModule_p7)
def F_law08_giveModule_p9 : ACode :=
  .seq (.seq (.reg 0 [⟨some 71, .mov (.t 6), none⟩, ⟨some 72, .faddr 0 2 2 (.t 1), none⟩, ⟨some 73, .load 30 false 1 (.t 72), none⟩, ⟨some 74, .len 30 (.t 73), none⟩, ⟨some 75, .bin .lss .other 2 (.t 71) (.t 74), none⟩] false [1, 2, 3, 6, 75])
           (.cond (.t 75) (.skip) (.exit 4)))
          (F_law08_giveModule_p8)
def F_law08_giveModule_p10 : ACode :=
  .reg 0 [⟨some 93, .mov (.t 7), none⟩, ⟨some 94, .bin .add .other 2 (.t 93) (.c (.int .i64 1)), none⟩, ⟨some 7, .asg (.t 94), none⟩] false [1, 2, 3, 7]
def F_law08_giveModule_p11 : ACode :=
  .seq (.block 7 (.reg 2 [⟨some 95, .faddr 1 3 3 (.t 3), none⟩, ⟨some 96, .load 18 false 1 (.t 95), none⟩, ⟨some 97, .faddr 0 3 3 (.t 1), none⟩, ⟨some 98, .load 30 false 1 (.t 97), none⟩, ⟨some 99, .mov (.t 7), none⟩, ⟨some 100, .iaddr 30 3 (.t 98) (.t 99), none⟩, ⟨some 101, .load 44 true 3 (.t 100), none⟩, ⟨some 102, .bslv 0 18 [.int .u32 0, .bool false, .int .u32 0] 1 [(0, .t 101)], none⟩, ⟨some 103, .app 1 18 3 12 (.t 96) (.t 102), none⟩, ⟨some 104, .faddr 1 3 3 (.t 3), none⟩, ⟨none, .store 18 1 (.t 104) (.t 103), none⟩] true [1, 2, 3, 7]))
            (F_law08_giveModule_p10)
def F_law08_giveModule_p12 : ACode :=
  .seq (.seq (.reg 0 [⟨some 88, .mov (.t 7), none⟩, ⟨some 89, .faddr 0 3 3 (.t 1), none⟩, ⟨some 90, .load 30 false 1 (.t 89), none⟩, ⟨some 91, .len 30 (.t 90), none⟩, ⟨some 92, .bin .lss .other 2 (.t 88) (.t 91), none⟩] false [1, 2, 3, 7, 92])
            (.cond (.t 92) (.skip) (.exit 6)))
           (F_law08_giveModule_p11)
def F_law08_giveModule_p13 : ACode :=
  .reg 0 [⟨some 110, .mov (.t 8), none⟩, ⟨some 111, .bin .add .other 2 (.t 110) (.c (.int .i64 1)), none⟩, ⟨some 8, .asg (.t 111), none⟩] false [1, 2, 3, 8]
def F_law08_giveModule_p14 : ACode :=
  .seq (.block 9 (.reg 2 [⟨some 112, .faddr 1 4 4 (.t 3), none⟩, ⟨some 113, .load 20 false 1 (.t 112), none⟩, ⟨some 114, .faddr 0 4 4 (.t 1), none⟩, ⟨some 115, .load 31 false 1 (.t 114), none⟩, ⟨some 116, .mov (.t 8), none⟩, ⟨some 117, .iaddr 31 10 (.t 115) (.t 116), none⟩, ⟨some 118, .faddr 42 0 0 (.t 117), none⟩, ⟨some 119, .load 7 false 1 (.t 118), none⟩, ⟨some 120, .faddr 0 4 4 (.t 1), none⟩, ⟨some 121, .load 31 false 1 (.t 120), none⟩, ⟨some 122, .mov (.t 8), none⟩, ⟨some 123, .iaddr 31 10 (.t 121) (.t 122), none⟩, ⟨some 124, .faddr 42 1 1 (.t 123), none⟩, ⟨some 125, .load 12 false 1 (.t 124), none⟩, ⟨some 126, .faddr 0 4 4 (.t 1), none⟩, ⟨some 127, .load 31 false 1 (.t 126), none⟩, ⟨some 128, .mov (.t 8), none⟩, ⟨some 129, .iaddr 31 10 (.t 127) (.t 128), none⟩, ⟨some 130, .faddr 42 2 2 (.t 129), none⟩, ⟨some 131, .load 9 true 8 (.t 130), none⟩, ⟨some 132, .callp 19 [.t 131], none⟩, ⟨some 133, .build 21 [.int .u8 0, .bool false, .int .u8 0, .int .i64 0, .int .u32 0, .int .u32 0, .int .u8 0, .nils, .nils, .nils] [(0, 0, 1, .t 119), (1, 1, 1, .t 125), (2, 2, 8, .t 132)], none⟩, ⟨some 134, .bslv 0 20 [.int .u8 0, .bool false, .int .u8 0, .int .i64 0, .int .u32 0, .int .u32 0, .int .u8 0, .nils, .nils, .nils] 1 [(0, .t 133)], none⟩, ⟨some 135, .app 1 20 10 112 (.t 113) (.t 134), none⟩, ⟨some 136, .faddr 1 4 4 (.t 3), none⟩, ⟨none, .store 20 1 (.t 136) (.t 135), none⟩] true [1, 2, 3, 8]))
             (F_law08_giveModule_p13)
def F_law08_giveModule_p15 : ACode :=
  .seq (.seq (.reg 0 [⟨some 105, .mov (.t 8), none⟩, ⟨some 106, .faddr 0 4 4 (.t 1), none⟩, ⟨some 107, .load 31 false 1 (.t 106), none⟩, ⟨some 108, .len 31 (.t 107), none⟩, ⟨some 109, .bin .lss .other 2 (.t 105) (.t 108), none⟩] false [1, 2, 3, 8, 109])
             (.cond (.t 109) (.skip) (.exit 8)))
            (F_law08_giveModule_p14)
def F_law08_giveModule_p16 : ACode :=
  .reg 0 [⟨some 142, .mov (.t 9), none⟩, ⟨some 143, .bin .add .other 2 (.t 142) (.c (.int .i64 1)), none⟩, ⟨some 9, .asg (.t 143), none⟩] false [1, 2, 3, 9]
def F_law08_giveModule_p17 : ACode :=
  .seq (.block 11 (.reg 2 [⟨some 144, .faddr 1 5 5 (.t 3), none⟩, ⟨some 145, .load 15 false 1 (.t 144), none⟩, ⟨some 146, .faddr 0 5 5 (.t 1), none⟩, ⟨some 147, .load 32 false 1 (.t 146), none⟩, ⟨some 148, .mov (.t 9), none⟩, ⟨some 149, .iaddr 32 3 (.t 147) (.t 148), none⟩, ⟨some 150, .load 38 true 3 (.t 149), none⟩, ⟨some 151, .bslv 0 15 [.str ⟨#[]⟩, .int .u8 0, .int .u32 0] 1 [(0, .t 150)], none⟩, ⟨some 152, .app 1 15 3 24 (.t 145) (.t 151), none⟩, ⟨some 153, .faddr 1 5 5 (.t 3), none⟩, ⟨none, .store 15 1 (.t 153) (.t 152), none⟩] true [1, 2, 3, 9]))
              (F_law08_giveModule_p16)
def F_law08_giveModule_p18 : ACode :=
  .seq (.seq (.reg 0 [⟨some 137, .mov (.t 9), none⟩, ⟨some 138, .faddr 0 5 5 (.t 1), none⟩, ⟨some 139, .load 32 false 1 (.t 138), none⟩, ⟨some 140, .len 32 (.t 139), none⟩, ⟨some 141, .bin .lss .other 2 (.t 137) (.t 140), none⟩] false [1, 2, 3, 9, 141])
              (.cond (.t 141) (.skip) (.exit 10)))
             (F_law08_giveModule_p17)
def F_law08_giveModule_p19 : ACode :=
  .reg 0 [⟨some 159, .mov (.t 10), none⟩, ⟨some 160, .bin .add .other 2 (.t 159) (.c (.int .i64 1)), none⟩, ⟨some 10, .asg (.t 160), none⟩] false [1, 2, 3, 10]
def F_law08_giveModule_p20 : ACode :=
  .seq (.block 13 (.reg 2 [⟨some 161, .faddr 1 6 6 (.t 3), none⟩, ⟨some 162, .load 22 false 1 (.t 161), none⟩, ⟨some 163, .faddr 0 6 6 (.t 1), none⟩, ⟨some 164, .load 33 false 1 (.t 163), none⟩, ⟨some 165, .mov (.t 10), none⟩, ⟨some 166, .iaddr 33 10 (.t 164) (.t 165), none⟩, ⟨some 167, .faddr 40 0 0 (.t 166), none⟩, ⟨some 168, .load 13 false 1 (.t 167), none⟩, ⟨some 169, .faddr 0 6 6 (.t 1), none⟩, ⟨some 170, .load 33 false 1 (.t 169), none⟩, ⟨some 171, .mov (.t 10), none⟩, ⟨some 172, .iaddr 33 10 (.t 170) (.t 171), none⟩, ⟨some 173, .faddr 40 1 1 (.t 172), none⟩, ⟨some 174, .load 9 true 8 (.t 173), none⟩, ⟨some 175, .callp 19 [.t 174], none⟩, ⟨some 176, .faddr 0 6 6 (.t 1), none⟩, ⟨some 177, .load 33 false 1 (.t 176), none⟩, ⟨some 178, .mov (.t 10), none⟩, ⟨some 179, .iaddr 33 10 (.t 177) (.t 178), none⟩, ⟨some 180, .faddr 40 2 9 (.t 179), none⟩, ⟨some 181, .load 23 false 1 (.t 180), none⟩, ⟨some 182, .build 24 [.int .u32 0, .int .u8 0, .int .i64 0, .int .u32 0, .int .u32 0, .int .u8 0, .nils, .nils, .nils, .nils] [(0, 0, 1, .t 168), (1, 1, 8, .t 175), (2, 9, 1, .t 181)], none⟩, ⟨some 183, .bslv 0 22 [.int .u32 0, .int .u8 0, .int .i64 0, .int .u32 0, .int .u32 0, .int .u8 0, .nils, .nils, .nils, .nils] 1 [(0, .t 182)], none⟩, ⟨some 184, .app 1 22 10 136 (.t 162) (.t 183), none⟩, ⟨some 185, .faddr 1 6 6 (.t 3), none⟩, ⟨none, .store 22 1 (.t 185) (.t 184), none⟩] true [1, 2, 3, 10]))
               (F_law08_giveModule_p19)
def F_law08_giveModule_p21 : ACode :=
  .seq (.seq (.reg 0 [⟨some 154, .mov (.t 10), none⟩, ⟨some 155, .faddr 0 6 6 (.t 1), none⟩, ⟨some 156, .load 33 false 1 (.t 155), none⟩, ⟨some 157, .len 33 (.t 156), none⟩, ⟨some 158, .bin .lss .other 2 (.t 154) (.t 157), none⟩] false [1, 2, 3, 10, 158])
               (.cond (.t 158) (.skip) (.exit 12)))
              (F_law08_giveModule_p20)
def F_law08_giveModule_p22 : ACode :=
  .reg 0 [⟨some 191, .mov (.t 11), none⟩, ⟨some 192, .bin .add .other 2 (.t 191) (.c (.int .i64 1)), none⟩, ⟨some 11, .asg (.t 192), none⟩] false [1, 2, 3, 11]
def F_law08_giveModule_p23 : ACode :=
  .seq (.block 15 (.reg 2 [⟨some 193, .faddr 1 7 7 (.t 3), none⟩, ⟨some 194, .load 25 false 1 (.t 193), none⟩, ⟨some 195, .faddr 0 7 7 (.t 1), none⟩, ⟨some 196, .load 34 false 1 (.t 195), none⟩, ⟨some 197, .mov (.t 11), none⟩, ⟨some 198, .iaddr 34 10 (.t 196) (.t 197), none⟩, ⟨some 199, .faddr 41 0 0 (.t 198), none⟩, ⟨some 200, .load 13 false 1 (.t 199), none⟩, ⟨some 201, .faddr 0 7 7 (.t 1), none⟩, ⟨some 202, .load 34 false 1 (.t 201), none⟩, ⟨some 203, .mov (.t 11), none⟩, ⟨some 204, .iaddr 34 10 (.t 202) (.t 203), none⟩, ⟨some 205, .faddr 41 1 1 (.t 204), none⟩, ⟨some 206, .load 9 true 8 (.t 205), none⟩, ⟨some 207, .callp 19 [.t 206], none⟩, ⟨some 208, .faddr 0 7 7 (.t 1), none⟩, ⟨some 209, .load 34 false 1 (.t 208), none⟩, ⟨some 210, .mov (.t 11), none⟩, ⟨some 211, .iaddr 34 10 (.t 209) (.t 210), none⟩, ⟨some 212, .faddr 41 2 9 (.t 211), none⟩, ⟨some 213, .load 36 false 1 (.t 212), none⟩, ⟨some 214, .build 26 [.int .u32 0, .int .u8 0, .int .i64 0, .int .u32 0, .int .u32 0, .int .u8 0, .nils, .nils, .nils, .nils] [(0, 0, 1, .t 200), (1, 1, 8, .t 207), (2, 9, 1, .t 213)], none⟩, ⟨some 215, .bslv 0 25 [.int .u32 0, .int .u8 0, .int .i64 0, .int .u32 0, .int .u32 0, .int .u8 0, .nils, .nils, .nils, .nils] 1 [(0, .t 214)], none⟩, ⟨some 216, .app 1 25 10 136 (.t 194) (.t 215), none⟩, ⟨some 217, .faddr 1 7 7 (.t 3), none⟩, ⟨none, .store 25 1 (.t 217) (.t 216), none⟩] true [1, 2, 3, 11]))
                (F_law08_giveModule_p22)
def F_law08_giveModule_p24 : ACode :=
  .seq (.seq (.reg 0 [⟨some 186, .mov (.t 11), none⟩, ⟨some 187, .faddr 0 7 7 (.t 1), none⟩, ⟨some 188, .load 34 false 1 (.t 187), none⟩, ⟨some 189, .len 34 (.t 188), none⟩, ⟨some 190, .bin .lss .other 2 (.t 186) (.t 189), none⟩] false [1, 2, 3, 11, 190])
                (.cond (.t 190) (.skip) (.exit 14)))
               (F_law08_giveModule_p23)
def F_law08_giveModule_p25 : ACode :=
  .seq (.reg 0 [⟨some 218, .load 1 true 8 (.t 3), none⟩, ⟨none, .store 1 8 (.t 2) (.t 218), none⟩] false [2])
            (.ret)
def F_law08_giveModule_p26 : ACode :=
  .seq (.seq (.reg 0 [⟨some 11, .asg (.c (.int .i64 0)), none⟩] false [1, 2, 3, 11])
            (.block 14 (.loop (F_law08_giveModule_p24))))
           (F_law08_giveModule_p25)
def F_law08_giveModule_p27 : ACode :=
  .seq (.seq (.reg 0 [⟨some 10, .asg (.c (.int .i64 0)), none⟩] false [1, 2, 3, 10])
           (.block 12 (.loop (F_law08_giveModule_p21))))
          (F_law08_giveModule_p26)
def F_law08_giveModule_p28 : ACode :=
  .seq (.seq (.reg 0 [⟨some 9, .asg (.c (.int .i64 0)), none⟩] false [1, 2, 3, 9])
          (.block 10 (.loop (F_law08_giveModule_p18))))
         (F_law08_giveModule_p27)
def F_law08_giveModule_p29 : ACode :=
  .seq (.seq (.reg 0 [⟨some 8, .asg (.c (.int .i64 0)), none⟩] false [1, 2, 3, 8])
         (.block 8 (.loop (F_law08_giveModule_p15))))
        (F_law08_giveModule_p28)
def F_law08_giveModule_p30 : ACode :=
  .seq (.seq (.reg 0 [⟨some 7, .asg (.c (.int .i64 0)), none⟩] false [1, 2, 3, 7])
        (.block 6 (.loop (F_law08_giveModule_p12))))
       (F_law08_giveModule_p29)
def F_law08_giveModule_p31 : ACode :=
  .seq (.seq (.reg 0 [⟨some 6, .asg (.c (.int .i64 0)), none⟩] false [1, 2, 3, 6])
       (.block 4 (.loop (F_law08_giveModule_p9))))
      (F_law08_giveModule_p30)
def F_law08_giveModule_p32 : ACode :=
  .seq (.seq (.reg 0 [⟨some 5, .asg (.c (.int .i64 0)), none⟩] false [1, 2, 3, 5])
      (.block 2 (.loop (F_law08_giveModule_p6))))
     (F_law08_giveModule_p31)
def F_law08_giveModule_p33 : ACode :=
  .seq (.seq (.reg 0 [⟨some 4, .asg (.c (.int .i64 0)), none⟩] false [1, 2, 3, 4])
     (.block 0 (.loop (F_law08_giveModule_p3))))
    (F_law08_giveModule_p32)
def F_law08_giveModule_p34 : ACode :=
  .seq (.reg 1 [⟨some 3, .alloc 0 1 [.nils, .nils, .nils, .nils, .nils, .nils, .nils, .nils], none⟩] false [1, 2, 3])
   (F_law08_giveModule_p33)
def F_law08_giveModule_p35 : ACode :=
  .seq (.reg 2 [⟨some 1, .box 0 0 (.t 0), none⟩, ⟨some 2, .alloc 1 1 [.nils, .nils, .nils, .nils, .nils, .nils, .nils, .nils], none⟩] false [1, 2])
  (F_law08_giveModule_p34)
def F_law08_giveModule : AFun := { nt := 219, res := [.cell 2 1 true 8], code := (F_law08_giveModule_p35) }

/-- mandrel/valid.Check -/
def F_valid_Check_p1 : ACode :=
  .cond (.t 21) (.seq (.reg 0 [⟨some 25, .mkif 45 (.c (.int .i64 7)), none⟩, ⟨some 2, .asg (.c (.int .i64 (-1))), none⟩, ⟨some 3, .asg (.t 25), none⟩] false [2, 3])
          (.ret)) (.skip)
def F_valid_Check_p2 : ACode :=
  .cond (.t 7) (.seq (.reg 0 [⟨some 20, .mkif 45 (.c (.int .i64 9)), none⟩, ⟨some 2, .asg (.c (.int .i64 (-1))), none⟩, ⟨some 3, .asg (.t 20), none⟩] false [2, 3])
        (.ret)) (.seq (.reg 0 [⟨some 22, .load 1 true 8 (.t 1), none⟩, ⟨some 23, .callp 22 [.t 22], none⟩, ⟨some 24, .un .not (.t 23), none⟩, ⟨some 21, .asg (.t 24), none⟩] false [1, 21])
        (F_valid_Check_p1))
def F_valid_Check_p3 : ACode :=
  .cond (.t 36) (.seq (.reg 0 [⟨some 37, .mov (.t 5), none⟩, ⟨some 38, .mkif 45 (.c (.int .i64 7)), none⟩, ⟨some 2, .asg (.t 37), none⟩, ⟨some 3, .asg (.t 38), none⟩] false [2, 3])
                 (.ret)) (.skip)
def F_valid_Check_p4 : ACode :=
  .seq (.reg 0 [⟨some 35, .mov (.t 6), none⟩, ⟨some 36, .bin .neq .iface 8 (.t 35) (.c .nili), none⟩] false [1, 5, 28, 29, 36])
               (F_valid_Check_p3)
def F_valid_Check_p5 : ACode :=
  .seq (.reg 0 [⟨some 32, .load 1 true 8 (.t 1), none⟩, ⟨some 33, .mov (.t 5), none⟩, ⟨some 34, .callp 6 [.t 32, .t 33], none⟩, ⟨some 6, .asg (.t 34), none⟩] false [1, 5, 6, 28, 29])
              (F_valid_Check_p4)
def F_valid_Check_p6 : ACode :=
  .reg 0 [⟨some 39, .bin .add .other 2 (.t 29) (.c (.int .i64 1)), none⟩, ⟨some 29, .mov (.t 39), none⟩] false [1, 28, 29]
def F_valid_Check_p7 : ACode :=
  .seq (.block 2 (.seq (.reg 0 [⟨some 31, .mov (.t 29), none⟩, ⟨some 5, .asg (.t 31), none⟩] false [1, 5, 28, 29])
             (F_valid_Check_p5)))
           (F_valid_Check_p6)
def F_valid_Check_p8 : ACode :=
  .seq (.reg 0 [⟨some 30, .bin .lss .other 2 (.t 29) (.t 28), none⟩] false [1, 28, 29, 30])
         (.seq (.cond (.t 30) (.skip) (.exit 1))
          (F_valid_Check_p7))
def F_valid_Check_p9 : ACode :=
  .seq (.reg 0 [⟨some 2, .asg (.c (.int .i64 (-1))), none⟩, ⟨some 3, .asg (.c .nili), none⟩] false [2, 3])
      (.ret)
def F_valid_Check_p10 : ACode :=
  .seq (.seq (.reg 0 [⟨some 26, .faddr 1 1 1 (.t 1), none⟩, ⟨some 27, .load 5 false 1 (.t 26), none⟩, ⟨some 28, .len 5 (.t 27), none⟩, ⟨some 29, .mov (.c (.int .i64 0)), none⟩] false [1, 28, 29])
      (.block 1 (.loop (F_valid_Check_p8))))
     (F_valid_Check_p9)
def F_valid_Check_p11 : ACode :=
  .seq (.block 0 (.seq (.reg 0 [⟨some 8, .faddr 1 2 2 (.t 1), none⟩, ⟨some 9, .load 18 false 1 (.t 8), none⟩, ⟨some 10, .mov (.t 4), none⟩, ⟨some 11, .callv (.t 10) [.c (.int .u32 256)], none⟩, ⟨some 12, .callp 21 [.t 9, .t 11], none⟩, ⟨some 13, .mov (.t 12), none⟩, ⟨some 14, .faddr 1 3 3 (.t 1), some (5, 13, false)⟩, ⟨some 15, .load 18 false 1 (.t 14), some (5, 13, false)⟩, ⟨some 16, .mov (.t 4), some (5, 13, false)⟩, ⟨some 17, .callv (.t 16) [.c (.int .u32 16)], some (5, 13, false)⟩, ⟨some 18, .callp 21 [.t 15, .t 17], some (5, 13, false)⟩, ⟨some 19, .pick (.t 13) (.c (.bool true)) (.t 18), none⟩, ⟨some 7, .asg (.t 19), none⟩] true [1, 7])
      (F_valid_Check_p2)))
    (F_valid_Check_p10)
def F_valid_Check_p12 : ACode :=
  .seq (.reg 0 [⟨some 4, .asg (.f 20), none⟩] false [1, 4])
   (F_valid_Check_p11)
def F_valid_Check_p13 : ACode :=
  .seq (.reg 1 [⟨some 1, .box 0 1 (.t 0), none⟩, ⟨some 2, .asg (.c (.int .i64 0)), none⟩, ⟨some 3, .asg (.c .nili), none⟩] false [1])
  (F_valid_Check_p12)
def F_valid_Check : AFun := { nt := 40, res := [.t 2, .t 3], code := (F_valid_Check_p13) }

/-- mandrel/valid.Body -/
def F_valid_Body_p1 : ACode :=
  .seq (.reg 0 [⟨some 13, .mov (.t 6), none⟩, ⟨some 4, .asg (.t 13), none⟩] false [4])
    (.ret)
def F_valid_Body_p2 : ACode :=
  .seq (.reg 0 [⟨some 8, .load 1 true 8 (.t 2), none⟩, ⟨some 9, .mov (.t 1), none⟩, ⟨some 10, .callp 24 [.t 8, .t 9], none⟩, ⟨some 7, .mov (.t 10), none⟩, ⟨some 11, .ext (.t 7) 0, none⟩, ⟨some 12, .ext (.t 7) 1, none⟩, ⟨some 5, .asg (.t 11), none⟩, ⟨some 6, .asg (.t 12), none⟩] false [6])
   (F_valid_Body_p1)
def F_valid_Body_p3 : ACode :=
  .seq (.reg 1 [⟨some 2, .box 0 1 (.t 0), none⟩, ⟨some 4, .asg (.c .nili), none⟩] false [1, 2])
  (F_valid_Body_p2)
def F_valid_Body : AFun := { nt := 14, res := [.t 4], code := (F_valid_Body_p3) }

/-- mandrel/valid.Height -/
def F_valid_Height_p1 : ACode :=
  .cond (.t 15) (.seq (.reg 0 [⟨some 16, .mov (.t 7), none⟩, ⟨some 4, .asg (.c (.int .i64 0)), none⟩, ⟨some 5, .asg (.t 16), none⟩] false [4, 5])
       (.ret)) (.skip)
def F_valid_Height_p2 : ACode :=
  .seq (.reg 0 [⟨some 17, .mov (.t 6), none⟩, ⟨some 18, .nilchk (.t 17), none⟩, ⟨some 19, .faddr 46 6 14 (.t 18), none⟩, ⟨some 20, .load 2 false 1 (.t 19), none⟩, ⟨some 4, .asg (.t 20), none⟩, ⟨some 5, .asg (.c .nili), none⟩] false [4, 5])
     (.ret)
def F_valid_Height_p3 : ACode :=
  .seq (.seq (.reg 0 [⟨some 14, .mov (.t 7), none⟩, ⟨some 15, .bin .neq .iface 8 (.t 14) (.c .nili), none⟩] false [6, 7, 15])
     (F_valid_Height_p1))
    (F_valid_Height_p2)
def F_valid_Height_p4 : ACode :=
  .seq (.reg 0 [⟨some 9, .load 1 true 8 (.t 2), none⟩, ⟨some 10, .mov (.t 1), none⟩, ⟨some 11, .callp 24 [.t 9, .t 10], none⟩, ⟨some 8, .mov (.t 11), none⟩, ⟨some 12, .ext (.t 8) 0, none⟩, ⟨some 13, .ext (.t 8) 1, none⟩, ⟨some 6, .asg (.t 12), none⟩, ⟨some 7, .asg (.t 13), none⟩] false [6, 7])
   (F_valid_Height_p3)
def F_valid_Height_p5 : ACode :=
  .seq (.reg 1 [⟨some 2, .box 0 1 (.t 0), none⟩, ⟨some 4, .asg (.c (.int .i64 0)), none⟩, ⟨some 5, .asg (.c .nili), none⟩] false [1, 2])
  (F_valid_Height_p4)
def F_valid_Height : AFun := { nt := 21, res := [.t 4, .t 5], code := (F_valid_Height_p5) }

/-- mandrel/mandrelref08.Body -/
def F_ref08_Body_p1 : ACode :=
  .cond (.t 35) (.seq (.reg 0 [⟨some 4, .asg (.c (.int .i64 1)), none⟩, ⟨some 5, .asg (.c (.int .i64 0)), none⟩] false [4, 5])
      (.ret)) (.skip)
def F_ref08_Body_p2 : ACode :=
  .cond (.t 88) (.seq (.reg 0 [⟨some 4, .asg (.c (.int .i64 7)), none⟩, ⟨some 5, .asg (.c (.int .i64 0)), none⟩] false [4, 5])
            (.ret)) (.skip)
def F_ref08_Body_p3 : ACode :=
  .seq (.reg 0 [⟨some 89, .faddr 48 4 4 (.t 8), none⟩, ⟨some 90, .load 2 false 1 (.t 89), none⟩, ⟨some 4, .asg (.c (.int .i64 0)), none⟩, ⟨some 5, .asg (.t 90), none⟩] true [4, 5])
          (.ret)
def F_ref08_Body_p4 : ACode :=
  .seq (.seq (.reg 0 [⟨some 80, .faddr 48 5 5 (.t 8), none⟩, ⟨some 81, .load 12 false 1 (.t 80), none⟩, ⟨some 82, .un .not (.t 81), none⟩, ⟨some 83, .mov (.t 82), none⟩, ⟨some 84, .faddr 48 0 0 (.t 8), some (3, 83, false)⟩, ⟨some 85, .load 36 false 1 (.t 84), some (3, 83, false)⟩, ⟨some 86, .len 36 (.t 85), some (3, 83, false)⟩, ⟨some 87, .bin .gtr .other 2 (.t 86) (.c (.int .i64 0)), some (3, 83, false)⟩, ⟨some 88, .pick (.t 83) (.c (.bool true)) (.t 87), none⟩] false [8, 88])
          (F_ref08_Body_p2))
         (F_ref08_Body_p3)
def F_ref08_Body_p5 : ACode :=
  .seq (.reg 0 [⟨some 74, .load 48 true 6 (.t 8), none⟩, ⟨some 75, .faddr 35 1 1 (.t 6), none⟩, ⟨some 76, .load 7 false 1 (.t 75), none⟩, ⟨some 77, .callp 27 [.t 74, .t 76], none⟩, ⟨some 73, .mov (.t 77), none⟩, ⟨some 78, .ext (.t 73) 0, none⟩, ⟨some 79, .ext (.t 73) 1, none⟩, ⟨none, .store 48 6 (.t 8) (.t 78), none⟩] false [8])
        (F_ref08_Body_p4)
def F_ref08_Body_p6 : ACode :=
  .seq (.fz [7] (.reg 2 [⟨some 57, .load 0 true 8 (.t 2), none⟩, ⟨some 58, .faddr 35 1 1 (.t 6), none⟩, ⟨some 59, .load 7 false 1 (.t 58), none⟩, ⟨some 60, .mov (.t 7), none⟩, ⟨some 61, .faddr 35 1 1 (.t 6), none⟩, ⟨some 62, .load 7 false 1 (.t 61), none⟩, ⟨some 63, .bslv 0 36 [.int .u8 0] 1 [(0, .t 62)], none⟩, ⟨some 64, .build 47 [.nils, .nils, .nils, .nils, .nils, .nils, .nils, .nils, .int .u8 0, .nils, .nils] [(0, 0, 8, .t 57), (1, 8, 1, .t 59), (2, 9, 1, .t 60), (3, 10, 1, .t 63)], none⟩, ⟨some 65, .build 48 [.nils, .int .i64 0, .bool false, .bool false, .int .i64 0, .bool false] [(5, 5, 1, .c (.bool true))], none⟩, ⟨some 66, .faddr 0 1 1 (.t 2), none⟩, ⟨some 67, .load 29 false 1 (.t 66), none⟩, ⟨some 68, .mov (.t 1), none⟩, ⟨some 69, .iaddr 29 3 (.t 67) (.t 68), none⟩, ⟨some 70, .faddr 37 2 2 (.t 69), none⟩, ⟨some 71, .load 10 false 1 (.t 70), none⟩, ⟨some 72, .callp 26 [.t 64, .t 65, .t 71], none⟩, ⟨some 8, .alloc 1 48 [.nils, .int .i64 0, .bool false, .bool false, .int .i64 0, .bool false], none⟩, ⟨none, .store 48 6 (.t 8) (.t 72), none⟩] true [6, 8]))
       (F_ref08_Body_p5)
def F_ref08_Body_p7 : ACode :=
  .seq (.reg 2 [⟨some 46, .mov (.t 7), none⟩, ⟨some 47, .faddr 35 0 0 (.t 6), none⟩, ⟨some 48, .load 36 false 1 (.t 47), none⟩, ⟨some 49, .appN 0 36 1 1 (.t 46) (.t 48), none⟩, ⟨some 50, .faddr 0 1 1 (.t 2), none⟩, ⟨some 51, .load 29 false 1 (.t 50), none⟩, ⟨some 52, .mov (.t 1), none⟩, ⟨some 53, .iaddr 29 3 (.t 51) (.t 52), none⟩, ⟨some 54, .faddr 37 1 1 (.t 53), none⟩, ⟨some 55, .load 36 false 1 (.t 54), none⟩, ⟨some 56, .app 1 36 1 1 (.t 49) (.t 55), none⟩, ⟨some 7, .asg (.t 56), none⟩] true [1, 2, 6, 7])
      (F_ref08_Body_p6)
def F_ref08_Body_p8 : ACode :=
  .seq (.reg 0 [⟨some 7, .asg (.c .nils), none⟩] false [1, 2, 6, 7])
     (F_ref08_Body_p7)
def F_ref08_Body_p9 : ACode :=
  .seq (.reg 1 [⟨some 36, .faddr 0 0 0 (.t 2), none⟩, ⟨some 37, .load 28 false 1 (.t 36), none⟩, ⟨some 38, .faddr 0 1 1 (.t 2), none⟩, ⟨some 39, .load 29 false 1 (.t 38), none⟩, ⟨some 40, .mov (.t 1), none⟩, ⟨some 41, .iaddr 29 3 (.t 39) (.t 40), none⟩, ⟨some 42, .faddr 37 0 0 (.t 41), none⟩, ⟨some 43, .load 13 false 1 (.t 42), none⟩, ⟨some 44, .iaddr 28 2 (.t 37) (.t 43), none⟩, ⟨some 45, .load 35 true 2 (.t 44), none⟩, ⟨some 6, .alloc 0 35 [.nils, .int .u8 0], none⟩, ⟨none, .store 35 2 (.t 6) (.t 45), none⟩] true [1, 2, 6])
    (F_ref08_Body_p8)
def F_ref08_Body_p10 : ACode :=
  .seq (.seq (.reg 0 [⟨some 9, .mov (.t 1), none⟩, ⟨some 10, .bin .lss .other 2 (.t 9) (.c (.int .i64 0)), none⟩, ⟨some 11, .mov (.t 10), none⟩, ⟨some 12, .mov (.t 1), some (2, 11, false)⟩, ⟨some 13, .faddr 0 1 1 (.t 2), some (2, 11, false)⟩, ⟨some 14, .load 29 false 1 (.t 13), some (2, 11, false)⟩, ⟨some 15, .len 29 (.t 14), some (2, 11, false)⟩, ⟨some 16, .bin .geq .other 2 (.t 12) (.t 15), some (2, 11, false)⟩, ⟨some 17, .pick (.t 11) (.c (.bool true)) (.t 16), none⟩, ⟨some 18, .mov (.t 17), none⟩, ⟨some 19, .faddr 0 1 1 (.t 2), some (9, 18, false)⟩, ⟨some 20, .load 29 false 1 (.t 19), some (9, 18, false)⟩, ⟨some 21, .mov (.t 1), some (9, 18, false)⟩, ⟨some 22, .iaddr 29 3 (.t 20) (.t 21), some (9, 18, false)⟩, ⟨some 23, .faddr 37 0 0 (.t 22), some (9, 18, false)⟩, ⟨some 24, .load 13 false 1 (.t 23), some (9, 18, false)⟩, ⟨some 25, .faddr 0 0 0 (.t 2), some (9, 18, false)⟩, ⟨some 26, .load 28 false 1 (.t 25), some (9, 18, false)⟩, ⟨some 27, .len 28 (.t 26), some (9, 18, false)⟩, ⟨some 28, .convi .u32 2 13 (.t 27), some (9, 18, false)⟩, ⟨some 29, .bin .geq .other 13 (.t 24) (.t 28), some (9, 18, false)⟩, ⟨some 30, .pick (.t 18) (.c (.bool true)) (.t 29), none⟩, ⟨some 31, .mov (.t 30), none⟩, ⟨some 32, .load 0 true 8 (.t 2), some (22, 31, false)⟩, ⟨some 33, .callp 25 [.t 32], some (22, 31, false)⟩, ⟨some 34, .un .not (.t 33), some (22, 31, false)⟩, ⟨some 35, .pick (.t 31) (.c (.bool true)) (.t 34), none⟩] true [1, 2, 35])
    (F_ref08_Body_p1))
   (F_ref08_Body_p9)
def F_ref08_Body_p11 : ACode :=
  .seq (.reg 1 [⟨some 2, .box 0 0 (.t 0), none⟩, ⟨some 4, .asg (.c (.int .i64 0)), none⟩, ⟨some 5, .asg (.c (.int .i64 0)), none⟩] false [1, 2])
  (F_ref08_Body_p10)
def F_ref08_Body : AFun := { nt := 91, res := [.t 4, .t 5], code := (F_ref08_Body_p11) }

/-- mandrel/mandrellaw08.num -/
def F_law08_num_p1 : ACode :=
  .cond (.t 5) (.seq (.reg 0 [⟨some 2, .asg (.c (.int .i64 0)), none⟩] false [2])
       (.ret)) (.skip)
def F_law08_num_p2 : ACode :=
  .cond (.t 8) (.seq (.reg 0 [⟨some 9, .load 45 false 1 (.t 3), none⟩, ⟨some 2, .asg (.t 9), none⟩] false [2])
        (.ret)) (.skip)
def F_law08_num_p3 : ACode :=
  .seq (.reg 0 [⟨some 2, .asg (.c (.int .i64 (-1))), none⟩] false [2])
      (.ret)
def F_law08_num_p4 : ACode :=
  .seq (.seq (.reg 0 [⟨some 6, .mov (.t 0), none⟩, ⟨some 7, .mkif 49 (.t 3), none⟩, ⟨some 8, .callp 28 [.t 6, .t 7], none⟩] false [3, 8])
      (F_law08_num_p2))
     (F_law08_num_p3)
def F_law08_num_p5 : ACode :=
  .seq (.seq (.reg 0 [⟨some 4, .mov (.t 0), none⟩, ⟨some 5, .bin .eql .iface 8 (.t 4) (.c .nili), none⟩] false [0, 3, 5])
     (F_law08_num_p1))
    (F_law08_num_p4)
def F_law08_num_p6 : ACode :=
  .seq (.reg 1 [⟨some 3, .alloc 0 45 [.int .i64 0], none⟩] false [0, 3])
   (F_law08_num_p5)
def F_law08_num_p7 : ACode :=
  .seq (.reg 0 [⟨some 2, .asg (.c (.int .i64 0)), none⟩] false [0])
  (F_law08_num_p6)
def F_law08_num : AFun := { nt := 10, res := [.t 2], code := (F_law08_num_p7) }

/-- mandrel/mandrellaw08.scene -/
def F_law08_scene_p1 : ACode :=
  .seq (.reg 8 [⟨some 11, .mov (.t 0), none⟩, ⟨some 12, .mov (.t 1), none⟩, ⟨some 13, .build 35 [.nils, .int .u8 0] [(0, 0, 1, .t 11), (1, 1, 1, .t 12)], none⟩, ⟨some 14, .bslv 0 36 [.int .u8 0] 1 [(0, .c (.int .u8 127))], none⟩, ⟨some 15, .build 35 [.nils, .int .u8 0] [(0, 0, 1, .t 14), (1, 1, 1, .c (.int .u8 126))], none⟩, ⟨some 16, .build 35 [.nils, .int .u8 0] [], none⟩, ⟨some 17, .bslv 1 28 [.nils, .int .u8 0] 3 [(0, .t 13), (1, .t 15), (2, .t 16)], none⟩, ⟨some 18, .bslv 2 36 [.int .u8 0] 2 [(0, .c (.int .u8 127)), (1, .c (.int .u8 126))], none⟩, ⟨some 19, .mov (.t 2), none⟩, ⟨some 20, .build 37 [.int .u32 0, .nils, .nils] [(1, 1, 1, .t 18), (2, 2, 1, .t 19)], none⟩, ⟨some 21, .load 9 true 8 (.t 8), none⟩, ⟨some 22, .bslv 3 10 [.int .u8 0, .int .i64 0, .int .u32 0, .int .u32 0, .int .u8 0, .nils, .nils, .nils] 1 [(0, .t 21)], none⟩, ⟨some 23, .build 37 [.int .u32 0, .nils, .nils] [(0, 0, 1, .c (.int .u32 1)), (2, 2, 1, .t 22)], none⟩, ⟨some 24, .build 37 [.int .u32 0, .nils, .nils] [(0, 0, 1, .c (.int .u32 2))], none⟩, ⟨some 25, .bslv 4 29 [.int .u32 0, .nils, .nils] 3 [(0, .t 20), (1, .t 23), (2, .t 24)], none⟩, ⟨some 26, .build 44 [.int .u32 0, .bool false, .int .u32 0] [(0, 0, 1, .c (.int .u32 4))], none⟩, ⟨some 27, .bslv 5 30 [.int .u32 0, .bool false, .int .u32 0] 1 [(0, .t 26)], none⟩, ⟨some 28, .build 44 [.int .u32 0, .bool false, .int .u32 0] [(0, 0, 1, .c (.int .u32 1))], none⟩, ⟨some 29, .bslv 6 30 [.int .u32 0, .bool false, .int .u32 0] 1 [(0, .t 28)], none⟩, ⟨some 30, .load 9 true 8 (.t 7), none⟩, ⟨some 31, .build 42 [.int .u8 0, .bool false, .int .u8 0, .int .i64 0, .int .u32 0, .int .u32 0, .int .u8 0, .nils, .nils, .nils] [(0, 0, 1, .c (.int .u8 127)), (1, 1, 1, .c (.bool true)), (2, 2, 8, .t 30)], none⟩, ⟨some 32, .load 9 true 8 (.t 8), none⟩, ⟨some 33, .build 42 [.int .u8 0, .bool false, .int .u8 0, .int .i64 0, .int .u32 0, .int .u32 0, .int .u8 0, .nils, .nils, .nils] [(0, 0, 1, .c (.int .u8 126)), (2, 2, 8, .t 32)], none⟩, ⟨some 34, .bslv 7 31 [.int .u8 0, .bool false, .int .u8 0, .int .i64 0, .int .u32 0, .int .u32 0, .int .u8 0, .nils, .nils, .nils] 2 [(0, .t 31), (1, .t 33)], none⟩, ⟨some 35, .build 0 [.nils, .nils, .nils, .nils, .nils, .nils, .nils, .nils] [(0, 0, 1, .t 17), (1, 1, 1, .t 25), (2, 2, 1, .t 27), (3, 3, 1, .t 29), (4, 4, 1, .t 34)], none⟩, ⟨none, .store 0 8 (.t 6) (.t 35), none⟩] false [6])
     (.ret)
def F_law08_scene_p2 : ACode :=
  .seq (.reg 1 [⟨some 10, .build 9 [.int .u8 0, .int .i64 0, .int .u32 0, .int .u32 0, .int .u8 0, .nils, .nils, .nils] [(0, 0, 1, .c (.int .u8 66))], none⟩, ⟨some 8, .alloc 0 9 [.int .u8 0, .int .i64 0, .int .u32 0, .int .u32 0, .int .u8 0, .nils, .nils, .nils], none⟩, ⟨none, .store 9 8 (.t 8) (.t 10), none⟩] false [0, 1, 2, 6, 7, 8])
    (F_law08_scene_p1)
def F_law08_scene_p3 : ACode :=
  .seq (.reg 1 [⟨some 9, .build 9 [.int .u8 0, .int .i64 0, .int .u32 0, .int .u32 0, .int .u8 0, .nils, .nils, .nils] [(0, 0, 1, .c (.int .u8 65))], none⟩, ⟨some 7, .alloc 0 9 [.int .u8 0, .int .i64 0, .int .u32 0, .int .u32 0, .int .u8 0, .nils, .nils, .nils], none⟩, ⟨none, .store 9 8 (.t 7) (.t 9), none⟩] false [0, 1, 2, 6, 7])
   (F_law08_scene_p2)
def F_law08_scene_p4 : ACode :=
  .seq (.reg 1 [⟨some 6, .alloc 0 0 [.nils, .nils, .nils, .nils, .nils, .nils, .nils, .nils], none⟩] false [0, 1, 2, 6])
  (F_law08_scene_p3)
def F_law08_scene : AFun := { nt := 36, res := [.cell 6 0 true 8], code := (F_law08_scene_p4) }

/-- mandrel/mandrellaw08.countCode -/
def F_law08_countCode_p1 : ACode :=
  .cond (.t 16) (.seq (.reg 0 [⟨some 17, .mov (.t 1), none⟩, ⟨some 6, .asg (.t 17), none⟩] false [6])
      (.ret)) (.skip)
def F_law08_countCode_p2 : ACode :=
  .reg 0 [⟨some 29, .mov (.t 8), none⟩, ⟨some 30, .bin .add .other 2 (.t 29) (.c (.int .i64 1)), none⟩, ⟨some 8, .asg (.t 30), none⟩] false [0, 1, 2, 7, 8]
def F_law08_countCode_p3 : ACode :=
  .seq (.block 1 (.reg 0 [⟨some 31, .mov (.t 7), none⟩, ⟨some 32, .mov (.t 0), none⟩, ⟨some 33, .mov (.t 8), none⟩, ⟨some 34, .iaddr 10 8 (.t 32) (.t 33), none⟩, ⟨some 35, .faddr 9 7 7 (.t 34), none⟩, ⟨some 36, .load 23 false 1 (.t 35), none⟩, ⟨some 37, .len 23 (.t 36), none⟩, ⟨some 38, .mov (.t 1), none⟩, ⟨some 39, .mm false 2 2 (.t 37) (.t 38), none⟩, ⟨some 40, .bin .add .other 2 (.t 31) (.t 39), none⟩, ⟨some 41, .mov (.t 0), none⟩, ⟨some 42, .mov (.t 8), none⟩, ⟨some 43, .iaddr 10 8 (.t 41) (.t 42), none⟩, ⟨some 44, .faddr 9 5 5 (.t 43), none⟩, ⟨some 45, .load 10 false 1 (.t 44), none⟩, ⟨some 46, .mov (.t 1), none⟩, ⟨some 47, .mov (.t 2), none⟩, ⟨some 48, .bin .add .other 2 (.t 47) (.c (.int .i64 1)), none⟩, ⟨some 49, .callp 16 [.t 45, .t 46, .t 48], none⟩, ⟨some 50, .bin .add .other 2 (.t 40) (.t 49), none⟩, ⟨some 51, .mov (.t 0), none⟩, ⟨some 52, .mov (.t 8), none⟩, ⟨some 53, .iaddr 10 8 (.t 51) (.t 52), none⟩, ⟨some 54, .faddr 9 6 6 (.t 53), none⟩, ⟨some 55, .load 10 false 1 (.t 54), none⟩, ⟨some 56, .mov (.t 1), none⟩, ⟨some 57, .mov (.t 2), none⟩, ⟨some 58, .bin .add .other 2 (.t 57) (.c (.int .i64 1)), none⟩, ⟨some 59, .callp 16 [.t 55, .t 56, .t 58], none⟩, ⟨some 60, .bin .add .other 2 (.t 50) (.t 59), none⟩, ⟨some 7, .asg (.t 60), none⟩] true [0, 1, 2, 7, 8]))
          (F_law08_countCode_p2)
def F_law08_countCode_p4 : ACode :=
  .seq (.seq (.reg 0 [⟨some 20, .mov (.t 8), none⟩, ⟨some 21, .mov (.t 0), none⟩, ⟨some 22, .len 10 (.t 21), none⟩, ⟨some 23, .bin .lss .other 2 (.t 20) (.t 22), none⟩, ⟨some 24, .mov (.t 23), none⟩, ⟨some 25, .mov (.t 7), some (4, 24, true)⟩, ⟨some 26, .mov (.t 1), some (4, 24, true)⟩, ⟨some 27, .bin .lss .other 2 (.t 25) (.t 26), some (4, 24, true)⟩, ⟨some 28, .pick (.t 24) (.t 27) (.c (.bool false)), none⟩] false [0, 1, 2, 7, 8, 28])
          (.cond (.t 28) (.skip) (.exit 0)))
         (F_law08_countCode_p3)
def F_law08_countCode_p5 : ACode :=
  .seq (.reg 0 [⟨some 61, .mov (.t 7), none⟩, ⟨some 6, .asg (.t 61), none⟩] false [6])
      (.ret)
def F_law08_countCode_p6 : ACode :=
  .seq (.seq (.reg 0 [⟨some 8, .asg (.c (.int .i64 0)), none⟩] false [0, 1, 2, 7, 8])
      (.block 0 (.loop (F_law08_countCode_p4))))
     (F_law08_countCode_p5)
def F_law08_countCode_p7 : ACode :=
  .seq (.reg 0 [⟨some 18, .mov (.t 0), none⟩, ⟨some 19, .len 10 (.t 18), none⟩, ⟨some 7, .asg (.t 19), none⟩] false [0, 1, 2, 7])
    (F_law08_countCode_p6)
def F_law08_countCode_p8 : ACode :=
  .seq (.seq (.reg 0 [⟨some 9, .mov (.t 0), none⟩, ⟨some 10, .len 10 (.t 9), none⟩, ⟨some 11, .mov (.t 1), none⟩, ⟨some 12, .bin .gtr .other 2 (.t 10) (.t 11), none⟩, ⟨some 13, .mov (.t 12), none⟩, ⟨some 14, .mov (.t 2), some (4, 13, false)⟩, ⟨some 15, .bin .gtr .other 2 (.t 14) (.c (.int .i64 80)), some (4, 13, false)⟩, ⟨some 16, .pick (.t 13) (.c (.bool true)) (.t 15), none⟩] false [0, 1, 2, 16])
    (F_law08_countCode_p1))
   (F_law08_countCode_p7)
def F_law08_countCode_p9 : ACode :=
  .seq (.reg 0 [⟨some 6, .asg (.c (.int .i64 0)), none⟩] false [0, 1, 2])
  (F_law08_countCode_p8)
def F_law08_countCode : AFun := { nt := 62, res := [.t 6], code := (F_law08_countCode_p9) }

/-- mandrel/mandrellaw08.kinds -/
def F_law08_kinds_p1 : ACode :=
  .reg 0 [⟨some 9, .mov (.t 4), none⟩, ⟨some 10, .bin .add .other 2 (.t 9) (.c (.int .i64 1)), none⟩, ⟨some 4, .asg (.t 10), none⟩] false [0, 3, 4]
def F_law08_kinds_p2 : ACode :=
  .seq (.block 1 (.reg 2 [⟨some 11, .mov (.t 3), none⟩, ⟨some 12, .mov (.t 0), none⟩, ⟨some 13, .mov (.t 4), none⟩, ⟨some 14, .iaddr 36 1 (.t 12) (.t 13), none⟩, ⟨some 15, .load 7 false 1 (.t 14), none⟩, ⟨some 16, .bslv 0 50 [.int .u8 0] 1 [(0, .t 15)], none⟩, ⟨some 17, .app 1 50 1 1 (.t 11) (.t 16), none⟩, ⟨some 3, .asg (.t 17), none⟩] false [0, 3, 4]))
         (F_law08_kinds_p1)
def F_law08_kinds_p3 : ACode :=
  .seq (.seq (.reg 0 [⟨some 5, .mov (.t 4), none⟩, ⟨some 6, .mov (.t 0), none⟩, ⟨some 7, .len 36 (.t 6), none⟩, ⟨some 8, .bin .lss .other 2 (.t 5) (.t 7), none⟩] false [0, 3, 4, 8])
         (.cond (.t 8) (.skip) (.exit 0)))
        (F_law08_kinds_p2)
def F_law08_kinds_p4 : ACode :=
  .seq (.reg 0 [⟨some 18, .mov (.t 3), none⟩, ⟨some 2, .asg (.t 18), none⟩] false [2])
     (.ret)
def F_law08_kinds_p5 : ACode :=
  .seq (.seq (.reg 0 [⟨some 4, .asg (.c (.int .i64 0)), none⟩] false [0, 3, 4])
     (.block 0 (.loop (F_law08_kinds_p3))))
    (F_law08_kinds_p4)
def F_law08_kinds_p6 : ACode :=
  .seq (.reg 0 [⟨some 3, .asg (.c .nils), none⟩] false [0, 3])
   (F_law08_kinds_p5)
def F_law08_kinds : AFun := { nt := 19, res := [.t 2], code := (.seq (.reg 0 [⟨some 2, .asg (.c .nils), none⟩] false [0])
  (F_law08_kinds_p6)) }

/-- mandrel/mandrellaw08.give -/
def F_law08_give_p1 : ACode :=
  .reg 2 [⟨some 16, .mov (.t 3), none⟩, ⟨some 17, .faddr 9 0 0 (.t 5), none⟩, ⟨some 18, .load 7 false 1 (.t 17), none⟩, ⟨some 19, .faddr 9 1 1 (.t 5), none⟩, ⟨some 20, .load 27 false 1 (.t 19), none⟩, ⟨some 21, .faddr 9 2 2 (.t 5), none⟩, ⟨some 22, .load 13 false 1 (.t 21), none⟩, ⟨some 23, .faddr 9 3 3 (.t 5), none⟩, ⟨some 24, .load 13 false 1 (.t 23), none⟩, ⟨some 25, .faddr 9 4 4 (.t 5), none⟩, ⟨some 26, .load 7 false 1 (.t 25), none⟩, ⟨some 27, .faddr 9 5 5 (.t 5), none⟩, ⟨some 28, .load 10 false 1 (.t 27), none⟩, ⟨some 29, .callp 18 [.t 28], none⟩, ⟨some 30, .faddr 9 6 6 (.t 5), none⟩, ⟨some 31, .load 10 false 1 (.t 30), none⟩, ⟨some 32, .callp 18 [.t 31], none⟩, ⟨some 33, .faddr 9 7 7 (.t 5), none⟩, ⟨some 34, .load 23 false 1 (.t 33), none⟩, ⟨some 35, .build 3 [.int .u8 0, .int .i64 0, .int .u32 0, .int .u32 0, .int .u8 0, .nils, .nils, .nils] [(0, 0, 1, .t 18), (1, 1, 1, .t 20), (2, 2, 1, .t 22), (3, 3, 1, .t 24), (4, 4, 1, .t 26), (5, 5, 1, .t 29), (6, 6, 1, .t 32), (7, 7, 1, .t 34)], none⟩, ⟨some 36, .bslv 0 4 [.int .u8 0, .int .i64 0, .int .u32 0, .int .u32 0, .int .u8 0, .nils, .nils, .nils] 1 [(0, .t 35)], none⟩, ⟨some 37, .app 1 4 8 104 (.t 16) (.t 36), none⟩, ⟨some 3, .asg (.t 37), none⟩] true [0, 3, 4]
def F_law08_give_p2 : ACode :=
  .reg 0 [⟨some 10, .mov (.t 4), none⟩, ⟨some 11, .bin .add .other 2 (.t 10) (.c (.int .i64 1)), none⟩, ⟨some 4, .asg (.t 11), none⟩] false [0, 3, 4]
def F_law08_give_p3 : ACode :=
  .seq (.block 1 (.seq (.reg 1 [⟨some 12, .mov (.t 0), none⟩, ⟨some 13, .mov (.t 4), none⟩, ⟨some 14, .iaddr 10 8 (.t 12) (.t 13), none⟩, ⟨some 15, .load 9 true 8 (.t 14), none⟩, ⟨some 5, .alloc 0 9 [.int .u8 0, .int .i64 0, .int .u32 0, .int .u32 0, .int .u8 0, .nils, .nils, .nils], none⟩, ⟨none, .store 9 8 (.t 5) (.t 15), none⟩] false [0, 3, 4, 5])
           (F_law08_give_p1)))
         (F_law08_give_p2)
def F_law08_give_p4 : ACode :=
  .seq (.seq (.reg 0 [⟨some 6, .mov (.t 4), none⟩, ⟨some 7, .mov (.t 0), none⟩, ⟨some 8, .len 10 (.t 7), none⟩, ⟨some 9, .bin .lss .other 2 (.t 6) (.t 8), none⟩] false [0, 3, 4, 9])
         (.cond (.t 9) (.skip) (.exit 0)))
        (F_law08_give_p3)
def F_law08_give_p5 : ACode :=
  .seq (.reg 0 [⟨some 38, .mov (.t 3), none⟩, ⟨some 2, .asg (.t 38), none⟩] false [2])
     (.ret)
def F_law08_give_p6 : ACode :=
  .seq (.seq (.reg 0 [⟨some 4, .asg (.c (.int .i64 0)), none⟩] false [0, 3, 4])
     (.block 0 (.loop (F_law08_give_p4))))
    (F_law08_give_p5)
def F_law08_give_p7 : ACode :=
  .seq (.reg 0 [⟨some 3, .asg (.c .nils), none⟩] false [0, 3])
   (F_law08_give_p6)
def F_law08_give : AFun := { nt := 39, res := [.t 2], code := (.seq (.reg 0 [⟨some 2, .asg (.c .nils), none⟩] false [0])
  (F_law08_give_p7)) }

/-- mandrel/mandrellaw08.one -/
def F_law08_one_p1 : ACode :=
  .seq (.reg 1 [⟨some 3, .load 9 true 8 (.t 1), none⟩, ⟨some 4, .bslv 0 10 [.int .u8 0, .int .i64 0, .int .u32 0, .int .u32 0, .int .u8 0, .nils, .nils, .nils] 1 [(0, .t 3)], none⟩, ⟨some 5, .callp 18 [.t 4], none⟩, ⟨some 6, .iaddr 4 8 (.t 5) (.c (.int .i64 0)), none⟩, ⟨some 7, .load 3 true 8 (.t 6), none⟩, ⟨none, .store 3 8 (.t 2) (.t 7), none⟩] false [2])
   (.ret)
def F_law08_one_p2 : ACode :=
  .seq (.reg 2 [⟨some 1, .box 0 9 (.t 0), none⟩, ⟨some 2, .alloc 1 3 [.int .u8 0, .int .i64 0, .int .u32 0, .int .u32 0, .int .u8 0, .nils, .nils, .nils], none⟩] false [1, 2])
  (F_law08_one_p1)
def F_law08_one : AFun := { nt := 8, res := [.cell 2 3 true 8], code := (F_law08_one_p2) }

/-- mandrel/valid.Check$1 -/
def F_valid_Check_1_p1 : ACode :=
  .seq (.reg 0 [⟨some 3, .mkfn 29 [.t 1], none⟩, ⟨some 2, .asg (.t 3), none⟩] false [2])
   (.ret)
def F_valid_Check_1_p2 : ACode :=
  .seq (.reg 1 [⟨some 1, .box 0 13 (.t 0), none⟩, ⟨some 2, .asg (.c .nilf), none⟩] false [1])
  (F_valid_Check_1_p1)
def F_valid_Check_1 : AFun := { nt := 4, res := [.t 2], code := (F_valid_Check_1_p2) }

/-- mandrel/valid.Check$1$1 -/
def F_valid_Check_1_1_p1 : ACode :=
  .seq (.reg 0 [⟨some 4, .faddr 19 0 0 (.t 2), none⟩, ⟨some 5, .load 13 false 1 (.t 4), none⟩, ⟨some 6, .load 13 false 1 (.t 1), none⟩, ⟨some 7, .bin .gtr .other 13 (.t 5) (.t 6), none⟩, ⟨some 3, .asg (.t 7), none⟩] false [3])
   (.ret)
def F_valid_Check_1_1_p2 : ACode :=
  .seq (.reg 1 [⟨some 2, .box 0 19 (.t 0), none⟩, ⟨some 3, .asg (.c (.bool false)), none⟩] false [1, 2])
  (F_valid_Check_1_1_p1)
def F_valid_Check_1_1 : AFun := { nt := 8, res := [.t 3], code := (F_valid_Check_1_1_p2) }

/-- slices.ContainsFunc[[]mandrel/api.Limits,mandrel/api.Limits] -/
def F_slices_ContainsFunc_api_Limits_api_Limits_p1 : ACode :=
  .seq (.reg 0 [⟨some 5, .mov (.t 0), none⟩, ⟨some 6, .mov (.t 1), none⟩, ⟨some 7, .callp 30 [.t 5, .t 6], none⟩, ⟨some 8, .bin .geq .other 2 (.t 7) (.c (.int .i64 0)), none⟩, ⟨some 4, .asg (.t 8), none⟩] false [4])
   (.ret)
def F_slices_ContainsFunc_api_Limits_api_Limits_p2 : ACode :=
  .seq (.reg 0 [⟨some 4, .asg (.c (.bool false)), none⟩] false [0, 1])
  (F_slices_ContainsFunc_api_Limits_api_Limits_p1)
def F_slices_ContainsFunc_api_Limits_api_Limits : AFun := { nt := 9, res := [.t 4], code := (F_slices_ContainsFunc_api_Limits_api_Limits_p2) }

/-- mandrel/valid.outer -/
def F_valid_outer_p1 : ACode :=
  .cond (.t 35) (.seq (.reg 0 [⟨some 2, .asg (.c (.bool false)), none⟩] false [2])
      (.ret)) (.skip)
def F_valid_outer_p2 : ACode :=
  .cond (.t 49) (.seq (.reg 0 [⟨some 2, .asg (.c (.bool false)), none⟩] false [2])
               (.ret)) (.skip)
def F_valid_outer_p3 : ACode :=
  .seq (.reg 0 [⟨some 43, .faddr 6 0 0 (.t 4), none⟩, ⟨some 44, .load 13 false 1 (.t 43), none⟩, ⟨some 45, .faddr 1 0 0 (.t 1), none⟩, ⟨some 46, .load 17 false 1 (.t 45), none⟩, ⟨some 47, .len 17 (.t 46), none⟩, ⟨some 48, .convi .u32 2 13 (.t 47), none⟩, ⟨some 49, .bin .geq .other 13 (.t 44) (.t 48), none⟩] false [1, 37, 38, 39, 49])
             (F_valid_outer_p2)
def F_valid_outer_p4 : ACode :=
  .reg 0 [⟨some 50, .bin .add .other 2 (.t 39) (.c (.int .i64 1)), none⟩, ⟨some 39, .mov (.t 50), none⟩] false [1, 37, 38, 39]
def F_valid_outer_p5 : ACode :=
  .seq (.block 1 (.seq (.reg 1 [⟨some 41, .iaddr 5 3 (.t 37) (.t 39), none⟩, ⟨some 42, .load 6 true 3 (.t 41), none⟩, ⟨some 4, .alloc 0 6 [.int .u32 0, .nils, .nils], none⟩, ⟨none, .store 6 3 (.t 4) (.t 42), none⟩] false [1, 4, 37, 38, 39])
            (F_valid_outer_p3)))
          (F_valid_outer_p4)
def F_valid_outer_p6 : ACode :=
  .seq (.reg 0 [⟨some 40, .bin .lss .other 2 (.t 39) (.t 38), none⟩] false [1, 37, 38, 39, 40])
        (.seq (.cond (.t 40) (.skip) (.exit 0))
         (F_valid_outer_p5))
def F_valid_outer_p7 : ACode :=
  .cond (.t 63) (.seq (.reg 0 [⟨some 2, .asg (.c (.bool false)), none⟩] false [2])
                (.ret)) (.skip)
def F_valid_outer_p8 : ACode :=
  .seq (.reg 0 [⟨some 58, .faddr 21 2 2 (.t 6), none⟩, ⟨some 59, .load 3 true 8 (.t 58), none⟩, ⟨some 60, .faddr 21 0 0 (.t 6), none⟩, ⟨some 61, .load 51 false 1 (.t 60), none⟩, ⟨some 62, .callp 33 [.t 59, .t 61], none⟩, ⟨some 63, .un .not (.t 62), none⟩] false [1, 52, 53, 54, 63])
              (F_valid_outer_p7)
def F_valid_outer_p9 : ACode :=
  .reg 0 [⟨some 64, .bin .add .other 2 (.t 54) (.c (.int .i64 1)), none⟩, ⟨some 54, .mov (.t 64), none⟩] false [1, 52, 53, 54]
def F_valid_outer_p10 : ACode :=
  .seq (.block 3 (.seq (.reg 1 [⟨some 56, .iaddr 20 10 (.t 52) (.t 54), none⟩, ⟨some 57, .load 21 true 10 (.t 56), none⟩, ⟨some 6, .alloc 0 21 [.int .u8 0, .bool false, .int .u8 0, .int .i64 0, .int .u32 0, .int .u32 0, .int .u8 0, .nils, .nils, .nils], none⟩, ⟨none, .store 21 10 (.t 6) (.t 57), none⟩] false [1, 6, 52, 53, 54])
             (F_valid_outer_p8)))
           (F_valid_outer_p9)
def F_valid_outer_p11 : ACode :=
  .seq (.reg 0 [⟨some 55, .bin .lss .other 2 (.t 54) (.t 53), none⟩] false [1, 52, 53, 54, 55])
         (.seq (.cond (.t 55) (.skip) (.exit 2))
          (F_valid_outer_p10))
def F_valid_outer_p12 : ACode :=
  .cond (.t 92) (.seq (.reg 0 [⟨some 2, .asg (.c (.bool false)), none⟩] false [2])
                 (.ret)) (.skip)
def F_valid_outer_p13 : ACode :=
  .seq (.reg 0 [⟨some 72, .faddr 24 0 0 (.t 8), none⟩, ⟨some 73, .load 13 false 1 (.t 72), none⟩, ⟨some 74, .bin .neq .other 13 (.t 73) (.c (.int .u32 0)), none⟩, ⟨some 75, .mov (.t 74), none⟩, ⟨some 76, .faddr 1 2 2 (.t 1), some (3, 75, false)⟩, ⟨some 77, .load 18 false 1 (.t 76), some (3, 75, false)⟩, ⟨some 78, .len 18 (.t 77), some (3, 75, false)⟩, ⟨some 79, .bin .eql .other 2 (.t 78) (.c (.int .i64 0)), some (3, 75, false)⟩, ⟨some 80, .pick (.t 75) (.c (.bool true)) (.t 79), none⟩, ⟨some 81, .mov (.t 80), none⟩, ⟨some 82, .faddr 24 1 1 (.t 8), some (9, 81, false)⟩, ⟨some 83, .load 3 true 8 (.t 82), some (9, 81, false)⟩, ⟨some 84, .callp 33 [.t 83, .c (.int .u8 127)], some (9, 81, false)⟩, ⟨some 85, .un .not (.t 84), some (9, 81, false)⟩, ⟨some 86, .pick (.t 81) (.c (.bool true)) (.t 85), none⟩, ⟨some 87, .mov (.t 86), none⟩, ⟨some 88, .faddr 24 2 9 (.t 8), some (15, 87, false)⟩, ⟨some 89, .load 23 false 1 (.t 88), some (15, 87, false)⟩, ⟨some 90, .mkfn 34 [.t 1], some (15, 87, false)⟩, ⟨some 91, .callp 35 [.t 89, .t 90], some (15, 87, false)⟩, ⟨some 92, .pick (.t 87) (.c (.bool true)) (.t 91), none⟩] false [1, 66, 67, 68, 92])
               (F_valid_outer_p12)
def F_valid_outer_p14 : ACode :=
  .reg 0 [⟨some 93, .bin .add .other 2 (.t 68) (.c (.int .i64 1)), none⟩, ⟨some 68, .mov (.t 93), none⟩] false [1, 66, 67, 68]
def F_valid_outer_p15 : ACode :=
  .seq (.block 5 (.seq (.reg 1 [⟨some 70, .iaddr 22 10 (.t 66) (.t 68), none⟩, ⟨some 71, .load 24 true 10 (.t 70), none⟩, ⟨some 8, .alloc 0 24 [.int .u32 0, .int .u8 0, .int .i64 0, .int .u32 0, .int .u32 0, .int .u8 0, .nils, .nils, .nils, .nils], none⟩, ⟨none, .store 24 10 (.t 8) (.t 71), none⟩] false [1, 8, 66, 67, 68])
              (F_valid_outer_p13)))
            (F_valid_outer_p14)
def F_valid_outer_p16 : ACode :=
  .seq (.reg 0 [⟨some 69, .bin .lss .other 2 (.t 68) (.t 67), none⟩] false [1, 66, 67, 68, 69])
          (.seq (.cond (.t 69) (.skip) (.exit 4))
           (F_valid_outer_p15))
def F_valid_outer_p17 : ACode :=
  .cond (.t 115) (.seq (.reg 0 [⟨some 2, .asg (.c (.bool false)), none⟩] false [2])
                  (.ret)) (.skip)
def F_valid_outer_p18 : ACode :=
  .seq (.reg 0 [⟨some 101, .faddr 26 0 0 (.t 10), none⟩, ⟨some 102, .load 13 false 1 (.t 101), none⟩, ⟨some 103, .bin .neq .other 13 (.t 102) (.c (.int .u32 0)), none⟩, ⟨some 104, .mov (.t 103), none⟩, ⟨some 105, .faddr 1 3 3 (.t 1), some (3, 104, false)⟩, ⟨some 106, .load 18 false 1 (.t 105), some (3, 104, false)⟩, ⟨some 107, .len 18 (.t 106), some (3, 104, false)⟩, ⟨some 108, .bin .eql .other 2 (.t 107) (.c (.int .i64 0)), some (3, 104, false)⟩, ⟨some 109, .pick (.t 104) (.c (.bool true)) (.t 108), none⟩, ⟨some 110, .mov (.t 109), none⟩, ⟨some 111, .faddr 26 1 1 (.t 10), some (9, 110, false)⟩, ⟨some 112, .load 3 true 8 (.t 111), some (9, 110, false)⟩, ⟨some 113, .callp 33 [.t 112, .c (.int .u8 127)], some (9, 110, false)⟩, ⟨some 114, .un .not (.t 113), some (9, 110, false)⟩, ⟨some 115, .pick (.t 110) (.c (.bool true)) (.t 114), none⟩] false [1, 95, 96, 97, 115])
                (F_valid_outer_p17)
def F_valid_outer_p19 : ACode :=
  .reg 0 [⟨some 116, .bin .add .other 2 (.t 97) (.c (.int .i64 1)), none⟩, ⟨some 97, .mov (.t 116), none⟩] false [1, 95, 96, 97]
def F_valid_outer_p20 : ACode :=
  .seq (.block 7 (.seq (.reg 1 [⟨some 99, .iaddr 25 10 (.t 95) (.t 97), none⟩, ⟨some 100, .load 26 true 10 (.t 99), none⟩, ⟨some 10, .alloc 0 26 [.int .u32 0, .int .u8 0, .int .i64 0, .int .u32 0, .int .u32 0, .int .u8 0, .nils, .nils, .nils, .nils], none⟩, ⟨none, .store 26 10 (.t 10) (.t 100), none⟩] false [1, 10, 95, 96, 97])
               (F_valid_outer_p18)))
             (F_valid_outer_p19)
def F_valid_outer_p21 : ACode :=
  .seq (.reg 0 [⟨some 98, .bin .lss .other 2 (.t 97) (.t 96), none⟩] false [1, 95, 96, 97, 98])
           (.seq (.cond (.t 98) (.skip) (.exit 6))
            (F_valid_outer_p20))
def F_valid_outer_p22 : ACode :=
  .seq (.reg 0 [⟨some 117, .load 1 true 8 (.t 1), none⟩, ⟨some 118, .callp 36 [.t 117], none⟩, ⟨some 2, .asg (.t 118), none⟩] false [2])
        (.ret)
def F_valid_outer_p23 : ACode :=
  .seq (.seq (.reg 0 [⟨some 94, .faddr 1 7 7 (.t 1), none⟩, ⟨some 95, .load 25 false 1 (.t 94), none⟩, ⟨some 96, .len 25 (.t 95), none⟩, ⟨some 97, .mov (.c (.int .i64 0)), none⟩] false [1, 95, 96, 97])
        (.block 6 (.loop (F_valid_outer_p21))))
       (F_valid_outer_p22)
def F_valid_outer_p24 : ACode :=
  .seq (.seq (.reg 0 [⟨some 65, .faddr 1 6 6 (.t 1), none⟩, ⟨some 66, .load 22 false 1 (.t 65), none⟩, ⟨some 67, .len 22 (.t 66), none⟩, ⟨some 68, .mov (.c (.int .i64 0)), none⟩] false [1, 66, 67, 68])
       (.block 4 (.loop (F_valid_outer_p16))))
      (F_valid_outer_p23)
def F_valid_outer_p25 : ACode :=
  .seq (.seq (.reg 0 [⟨some 51, .faddr 1 4 4 (.t 1), none⟩, ⟨some 52, .load 20 false 1 (.t 51), none⟩, ⟨some 53, .len 20 (.t 52), none⟩, ⟨some 54, .mov (.c (.int .i64 0)), none⟩] false [1, 52, 53, 54])
      (.block 2 (.loop (F_valid_outer_p11))))
     (F_valid_outer_p24)
def F_valid_outer_p26 : ACode :=
  .seq (.seq (.reg 0 [⟨some 36, .faddr 1 1 1 (.t 1), none⟩, ⟨some 37, .load 5 false 1 (.t 36), none⟩, ⟨some 38, .len 5 (.t 37), none⟩, ⟨some 39, .mov (.c (.int .i64 0)), none⟩] false [1, 37, 38, 39])
     (.block 0 (.loop (F_valid_outer_p6))))
    (F_valid_outer_p25)
def F_valid_outer_p27 : ACode :=
  .seq (.seq (.reg 0 [⟨some 11, .load 1 true 8 (.t 1), none⟩, ⟨some 12, .callp 31 [.t 11], none⟩, ⟨some 13, .un .not (.t 12), none⟩, ⟨some 14, .mov (.t 13), none⟩, ⟨some 15, .faddr 1 2 2 (.t 1), some (3, 14, false)⟩, ⟨some 16, .load 18 false 1 (.t 15), some (3, 14, false)⟩, ⟨some 17, .len 18 (.t 16), some (3, 14, false)⟩, ⟨some 18, .bin .gtr .other 2 (.t 17) (.c (.int .i64 1)), some (3, 14, false)⟩, ⟨some 19, .pick (.t 14) (.c (.bool true)) (.t 18), none⟩, ⟨some 20, .mov (.t 19), none⟩, ⟨some 21, .faddr 1 3 3 (.t 1), some (9, 20, false)⟩, ⟨some 22, .load 18 false 1 (.t 21), some (9, 20, false)⟩, ⟨some 23, .len 18 (.t 22), some (9, 20, false)⟩, ⟨some 24, .bin .gtr .other 2 (.t 23) (.c (.int .i64 1)), some (9, 20, false)⟩, ⟨some 25, .pick (.t 20) (.c (.bool true)) (.t 24), none⟩, ⟨some 26, .mov (.t 25), none⟩, ⟨some 27, .faddr 1 2 2 (.t 1), some (15, 26, false)⟩, ⟨some 28, .load 18 false 1 (.t 27), some (15, 26, false)⟩, ⟨some 29, .callp 21 [.t 28, .f 32], some (15, 26, false)⟩, ⟨some 30, .pick (.t 26) (.c (.bool true)) (.t 29), none⟩, ⟨some 31, .mov (.t 30), none⟩, ⟨some 32, .faddr 1 3 3 (.t 1), some (20, 31, false)⟩, ⟨some 33, .load 18 false 1 (.t 32), some (20, 31, false)⟩, ⟨some 34, .callp 21 [.t 33, .f 32], some (20, 31, false)⟩, ⟨some 35, .pick (.t 31) (.c (.bool true)) (.t 34), none⟩] false [1, 35])
    (F_valid_outer_p1))
   (F_valid_outer_p26)
def F_valid_outer_p28 : ACode :=
  .seq (.reg 1 [⟨some 1, .box 0 1 (.t 0), none⟩, ⟨some 2, .asg (.c (.bool false)), none⟩] false [1])
  (F_valid_outer_p27)
def F_valid_outer : AFun := { nt := 119, res := [.t 2], code := (F_valid_outer_p28) }

/-- mandrel/valid.check -/
def F_valid_check_p1 : ACode :=
  .cond (.t 34) (.seq (.reg 0 [⟨some 35, .mkif 45 (.c (.int .i64 1)), none⟩, ⟨some 4, .asg (.c .nilp), none⟩, ⟨some 5, .asg (.t 35), none⟩] false [4, 5])
      (.ret)) (.skip)
def F_valid_check_p2 : ACode :=
  .cond (.t 94) (.seq (.reg 0 [⟨some 95, .mkif 45 (.c (.int .i64 7)), none⟩, ⟨some 4, .asg (.c .nilp), none⟩, ⟨some 5, .asg (.t 95), none⟩] false [4, 5])
            (.ret)) (.skip)
def F_valid_check_p3 : ACode :=
  .seq (.reg 0 [⟨some 96, .mov (.t 7), none⟩, ⟨some 4, .asg (.t 96), none⟩, ⟨some 5, .asg (.c .nili), none⟩] false [4, 5])
          (.ret)
def F_valid_check_p4 : ACode :=
  .seq (.seq (.reg 0 [⟨some 83, .mov (.t 7), none⟩, ⟨some 84, .nilchk (.t 83), none⟩, ⟨some 85, .faddr 46 7 15 (.t 84), none⟩, ⟨some 86, .load 12 false 1 (.t 85), none⟩, ⟨some 87, .mov (.t 86), none⟩, ⟨some 88, .mov (.t 7), some (4, 87, false)⟩, ⟨some 89, .nilchk (.t 88), some (4, 87, false)⟩, ⟨some 90, .faddr 46 3 11 (.t 89), some (4, 87, false)⟩, ⟨some 91, .load 50 false 1 (.t 90), some (4, 87, false)⟩, ⟨some 92, .len 50 (.t 91), some (4, 87, false)⟩, ⟨some 93, .bin .gtr .other 2 (.t 92) (.c (.int .i64 0)), some (4, 87, false)⟩, ⟨some 94, .pick (.t 87) (.c (.bool true)) (.t 93), none⟩] false [7, 94])
          (F_valid_check_p2))
         (F_valid_check_p3)
def F_valid_check_p5 : ACode :=
  .seq (.reg 0 [⟨some 79, .mov (.t 7), none⟩, ⟨some 80, .faddr 43 1 1 (.t 6), none⟩, ⟨some 81, .load 51 false 1 (.t 80), none⟩, ⟨some 82, .calls 40 [.t 79, .t 81], none⟩] false [7])
        (F_valid_check_p4)
def F_valid_check_p6 : ACode :=
  .seq (.reg 0 [⟨some 71, .mov (.t 7), none⟩, ⟨some 72, .faddr 1 1 1 (.t 2), none⟩, ⟨some 73, .load 5 false 1 (.t 72), none⟩, ⟨some 74, .mov (.t 1), none⟩, ⟨some 75, .iaddr 5 3 (.t 73) (.t 74), none⟩, ⟨some 76, .faddr 6 2 2 (.t 75), none⟩, ⟨some 77, .load 4 false 1 (.t 76), none⟩, ⟨some 78, .calls 39 [.t 71, .t 77], none⟩] false [6, 7])
       (F_valid_check_p5)
def F_valid_check_p7 : ACode :=
  .seq (.reg 2 [⟨some 60, .mov (.t 7), none⟩, ⟨some 61, .mov (.t 7), none⟩, ⟨some 62, .build 54 [.int .i64 0, .bool false, .bool false] [], none⟩, ⟨some 63, .bslice 0 55 [.int .i64 0, .bool false, .bool false] 1 [(0, .t 62)], none⟩, ⟨some 64, .faddr 43 1 1 (.t 6), none⟩, ⟨some 65, .load 100051 false 1 (.t 64), none⟩, ⟨some 66, .bslice 1 50 [.int .u8 0] 1 [(0, .t 65)], none⟩, ⟨some 67, .nilchk (.t 60), none⟩, ⟨some 68, .faddr 46 4 12 (.t 67), none⟩, ⟨none, .store 100055 1 (.t 68) (.t 63), none⟩, ⟨some 69, .nilchk (.t 61), none⟩, ⟨some 70, .faddr 46 5 13 (.t 69), none⟩, ⟨none, .store 50 1 (.t 70) (.t 66), none⟩] true [1, 2, 6, 7])
      (F_valid_check_p6)
def F_valid_check_p8 : ACode :=
  .seq (.reg 2 [⟨some 46, .load 1 true 8 (.t 2), none⟩, ⟨some 47, .load 43 true 2 (.t 6), none⟩, ⟨some 48, .faddr 43 0 0 (.t 6), none⟩, ⟨some 49, .load 50 false 1 (.t 48), none⟩, ⟨some 50, .faddr 1 1 1 (.t 2), none⟩, ⟨some 51, .load 5 false 1 (.t 50), none⟩, ⟨some 52, .mov (.t 1), none⟩, ⟨some 53, .iaddr 5 3 (.t 51) (.t 52), none⟩, ⟨some 54, .faddr 6 1 1 (.t 53), none⟩, ⟨some 55, .load 50 false 1 (.t 54), none⟩, ⟨some 56, .bslv 0 53 [.nils] 2 [(0, .t 49), (1, .t 55)], none⟩, ⟨some 57, .callp 38 [.t 56], none⟩, ⟨some 58, .build 46 [.nils, .nils, .nils, .nils, .nils, .nils, .nils, .nils, .nils, .int .u8 0, .nils, .nils, .nils, .nils, .int .i64 0, .bool false] [(0, 0, 8, .t 46), (1, 8, 2, .t 47), (2, 10, 1, .t 57)], none⟩, ⟨some 59, .box 1 46 (.t 58), none⟩, ⟨some 7, .asg (.t 59), none⟩] true [1, 2, 6, 7])
     (F_valid_check_p7)
def F_valid_check_p9 : ACode :=
  .seq (.reg 1 [⟨some 36, .faddr 1 0 0 (.t 2), none⟩, ⟨some 37, .load 17 false 1 (.t 36), none⟩, ⟨some 38, .faddr 1 1 1 (.t 2), none⟩, ⟨some 39, .load 5 false 1 (.t 38), none⟩, ⟨some 40, .mov (.t 1), none⟩, ⟨some 41, .iaddr 5 3 (.t 39) (.t 40), none⟩, ⟨some 42, .faddr 6 0 0 (.t 41), none⟩, ⟨some 43, .load 13 false 1 (.t 42), none⟩, ⟨some 44, .iaddr 17 2 (.t 37) (.t 43), none⟩, ⟨some 45, .load 43 true 2 (.t 44), none⟩, ⟨some 6, .alloc 0 43 [.nils, .int .u8 0], none⟩, ⟨none, .store 43 2 (.t 6) (.t 45), none⟩] true [1, 2, 6])
    (F_valid_check_p8)
def F_valid_check_p10 : ACode :=
  .seq (.seq (.reg 0 [⟨some 8, .mov (.t 1), none⟩, ⟨some 9, .bin .lss .other 2 (.t 8) (.c (.int .i64 0)), none⟩, ⟨some 10, .mov (.t 9), none⟩, ⟨some 11, .mov (.t 1), some (2, 10, false)⟩, ⟨some 12, .faddr 1 1 1 (.t 2), some (2, 10, false)⟩, ⟨some 13, .load 5 false 1 (.t 12), some (2, 10, false)⟩, ⟨some 14, .len 5 (.t 13), some (2, 10, false)⟩, ⟨some 15, .bin .geq .other 2 (.t 11) (.t 14), some (2, 10, false)⟩, ⟨some 16, .pick (.t 10) (.c (.bool true)) (.t 15), none⟩, ⟨some 17, .mov (.t 16), none⟩, ⟨some 18, .faddr 1 1 1 (.t 2), some (9, 17, false)⟩, ⟨some 19, .load 5 false 1 (.t 18), some (9, 17, false)⟩, ⟨some 20, .mov (.t 1), some (9, 17, false)⟩, ⟨some 21, .iaddr 5 3 (.t 19) (.t 20), some (9, 17, false)⟩, ⟨some 22, .faddr 6 0 0 (.t 21), some (9, 17, false)⟩, ⟨some 23, .load 13 false 1 (.t 22), some (9, 17, false)⟩, ⟨some 24, .faddr 1 0 0 (.t 2), some (9, 17, false)⟩, ⟨some 25, .load 17 false 1 (.t 24), some (9, 17, false)⟩, ⟨some 26, .len 17 (.t 25), some (9, 17, false)⟩, ⟨some 27, .convi .u32 2 13 (.t 26), some (9, 17, false)⟩, ⟨some 28, .bin .geq .other 13 (.t 23) (.t 27), some (9, 17, false)⟩, ⟨some 29, .pick (.t 17) (.c (.bool true)) (.t 28), none⟩, ⟨some 30, .mov (.t 29), none⟩, ⟨some 31, .load 1 true 8 (.t 2), some (22, 30, false)⟩, ⟨some 32, .callp 31 [.t 31], some (22, 30, false)⟩, ⟨some 33, .un .not (.t 32), some (22, 30, false)⟩, ⟨some 34, .pick (.t 30) (.c (.bool true)) (.t 33), none⟩] true [1, 2, 34])
    (F_valid_check_p1))
   (F_valid_check_p9)
def F_valid_check_p11 : ACode :=
  .seq (.reg 1 [⟨some 2, .box 0 1 (.t 0), none⟩, ⟨some 4, .asg (.c .nilp), none⟩, ⟨some 5, .asg (.c .nili), none⟩] false [1, 2])
  (F_valid_check_p10)
def F_valid_check : AFun := { nt := 97, res := [.t 4, .t 5], code := (F_valid_check_p11) }

/-- mandrel/mandrelref08.kinds -/
def F_ref08_kinds_p1 : ACode :=
  .reg 0 [⟨some 35, .mov (.t 5), none⟩, ⟨some 36, .bin .add .other 2 (.t 35) (.c (.int .i64 1)), none⟩, ⟨some 5, .asg (.t 36), none⟩] false [1, 3, 4, 5]
def F_ref08_kinds_p2 : ACode :=
  .seq (.block 3 (.reg 0 [⟨some 37, .mov (.t 3), none⟩, ⟨some 38, .mov (.t 37), none⟩, ⟨some 39, .faddr 0 0 0 (.t 1), some (1, 38, true)⟩, ⟨some 40, .load 28 false 1 (.t 39), some (1, 38, true)⟩, ⟨some 41, .mov (.t 4), some (1, 38, true)⟩, ⟨some 42, .iaddr 28 2 (.t 40) (.t 41), some (1, 38, true)⟩, ⟨some 43, .faddr 35 0 0 (.t 42), some (1, 38, true)⟩, ⟨some 44, .load 36 false 1 (.t 43), some (1, 38, true)⟩, ⟨some 45, .mov (.t 5), some (1, 38, true)⟩, ⟨some 46, .iaddr 36 1 (.t 44) (.t 45), some (1, 38, true)⟩, ⟨some 47, .load 7 false 1 (.t 46), some (1, 38, true)⟩, ⟨some 48, .callp 41 [.t 47, .c (.bool false)], some (1, 38, true)⟩, ⟨some 49, .pick (.t 38) (.t 48) (.c (.bool false)), none⟩, ⟨some 3, .asg (.t 49), none⟩] false [1, 3, 4, 5]))
                (F_ref08_kinds_p1)
def F_ref08_kinds_p3 : ACode :=
  .seq (.seq (.reg 0 [⟨some 26, .mov (.t 5), none⟩, ⟨some 27, .faddr 0 0 0 (.t 1), none⟩, ⟨some 28, .load 28 false 1 (.t 27), none⟩, ⟨some 29, .mov (.t 4), none⟩, ⟨some 30, .iaddr 28 2 (.t 28) (.t 29), none⟩, ⟨some 31, .faddr 35 0 0 (.t 30), none⟩, ⟨some 32, .load 36 false 1 (.t 31), none⟩, ⟨some 33, .len 36 (.t 32), none⟩, ⟨some 34, .bin .lss .other 2 (.t 26) (.t 33), none⟩] false [1, 3, 4, 5, 34])
                (.cond (.t 34) (.skip) (.exit 2)))
               (F_ref08_kinds_p2)
def F_ref08_kinds_p4 : ACode :=
  .seq (.reg 0 [⟨some 5, .asg (.c (.int .i64 0)), none⟩] false [1, 3, 4, 5])
            (.block 2 (.loop (F_ref08_kinds_p3)))
def F_ref08_kinds_p5 : ACode :=
  .reg 0 [⟨some 14, .mov (.t 4), none⟩, ⟨some 15, .bin .add .other 2 (.t 14) (.c (.int .i64 1)), none⟩, ⟨some 4, .asg (.t 15), none⟩] false [1, 3, 4]
def F_ref08_kinds_p6 : ACode :=
  .seq (.block 1 (.seq (.reg 0 [⟨some 16, .mov (.t 3), none⟩, ⟨some 17, .mov (.t 16), none⟩, ⟨some 18, .faddr 0 0 0 (.t 1), some (1, 17, true)⟩, ⟨some 19, .load 28 false 1 (.t 18), some (1, 17, true)⟩, ⟨some 20, .mov (.t 4), some (1, 17, true)⟩, ⟨some 21, .iaddr 28 2 (.t 19) (.t 20), some (1, 17, true)⟩, ⟨some 22, .faddr 35 1 1 (.t 21), some (1, 17, true)⟩, ⟨some 23, .load 7 false 1 (.t 22), some (1, 17, true)⟩, ⟨some 24, .callp 41 [.t 23, .c (.bool true)], some (1, 17, true)⟩, ⟨some 25, .pick (.t 17) (.t 24) (.c (.bool false)), none⟩, ⟨some 3, .asg (.t 25), none⟩] false [1, 3, 4])
           (F_ref08_kinds_p4)))
         (F_ref08_kinds_p5)
def F_ref08_kinds_p7 : ACode :=
  .seq (.seq (.reg 0 [⟨some 9, .mov (.t 4), none⟩, ⟨some 10, .faddr 0 0 0 (.t 1), none⟩, ⟨some 11, .load 28 false 1 (.t 10), none⟩, ⟨some 12, .len 28 (.t 11), none⟩, ⟨some 13, .bin .lss .other 2 (.t 9) (.t 12), none⟩] false [1, 3, 4, 13])
         (.cond (.t 13) (.skip) (.exit 0)))
        (F_ref08_kinds_p6)
def F_ref08_kinds_p8 : ACode :=
  .reg 0 [⟨some 66, .mov (.t 7), none⟩, ⟨some 67, .bin .add .other 2 (.t 66) (.c (.int .i64 1)), none⟩, ⟨some 7, .asg (.t 67), none⟩] false [1, 3, 6, 7]
def F_ref08_kinds_p9 : ACode :=
  .seq (.block 7 (.reg 0 [⟨some 68, .mov (.t 3), none⟩, ⟨some 69, .mov (.t 68), none⟩, ⟨some 70, .faddr 0 1 1 (.t 1), some (1, 69, true)⟩, ⟨some 71, .load 29 false 1 (.t 70), some (1, 69, true)⟩, ⟨some 72, .mov (.t 6), some (1, 69, true)⟩, ⟨some 73, .iaddr 29 3 (.t 71) (.t 72), some (1, 69, true)⟩, ⟨some 74, .faddr 37 1 1 (.t 73), some (1, 69, true)⟩, ⟨some 75, .load 36 false 1 (.t 74), some (1, 69, true)⟩, ⟨some 76, .mov (.t 7), some (1, 69, true)⟩, ⟨some 77, .iaddr 36 1 (.t 75) (.t 76), some (1, 69, true)⟩, ⟨some 78, .load 7 false 1 (.t 77), some (1, 69, true)⟩, ⟨some 79, .callp 41 [.t 78, .c (.bool false)], some (1, 69, true)⟩, ⟨some 80, .pick (.t 69) (.t 79) (.c (.bool false)), none⟩, ⟨some 3, .asg (.t 80), none⟩] false [1, 3, 6, 7]))
                (F_ref08_kinds_p8)
def F_ref08_kinds_p10 : ACode :=
  .seq (.seq (.reg 0 [⟨some 57, .mov (.t 7), none⟩, ⟨some 58, .faddr 0 1 1 (.t 1), none⟩, ⟨some 59, .load 29 false 1 (.t 58), none⟩, ⟨some 60, .mov (.t 6), none⟩, ⟨some 61, .iaddr 29 3 (.t 59) (.t 60), none⟩, ⟨some 62, .faddr 37 1 1 (.t 61), none⟩, ⟨some 63, .load 36 false 1 (.t 62), none⟩, ⟨some 64, .len 36 (.t 63), none⟩, ⟨some 65, .bin .lss .other 2 (.t 57) (.t 64), none⟩] false [1, 3, 6, 7, 65])
                (.cond (.t 65) (.skip) (.exit 6)))
               (F_ref08_kinds_p9)
def F_ref08_kinds_p11 : ACode :=
  .reg 0 [⟨some 55, .mov (.t 6), none⟩, ⟨some 56, .bin .add .other 2 (.t 55) (.c (.int .i64 1)), none⟩, ⟨some 6, .asg (.t 56), none⟩] false [1, 3, 6]
def F_ref08_kinds_p12 : ACode :=
  .seq (.block 5 (.seq (.reg 0 [⟨some 7, .asg (.c (.int .i64 0)), none⟩] false [1, 3, 6, 7])
            (.block 6 (.loop (F_ref08_kinds_p10)))))
          (F_ref08_kinds_p11)
def F_ref08_kinds_p13 : ACode :=
  .seq (.seq (.reg 0 [⟨some 50, .mov (.t 6), none⟩, ⟨some 51, .faddr 0 1 1 (.t 1), none⟩, ⟨some 52, .load 29 false 1 (.t 51), none⟩, ⟨some 53, .len 29 (.t 52), none⟩, ⟨some 54, .bin .lss .other 2 (.t 50) (.t 53), none⟩] false [1, 3, 6, 54])
          (.cond (.t 54) (.skip) (.exit 4)))
         (F_ref08_kinds_p12)
def F_ref08_kinds_p14 : ACode :=
  .reg 0 [⟨some 86, .mov (.t 8), none⟩, ⟨some 87, .bin .add .other 2 (.t 86) (.c (.int .i64 1)), none⟩, ⟨some 8, .asg (.t 87), none⟩] false [1, 3, 8]
def F_ref08_kinds_p15 : ACode :=
  .seq (.block 9 (.reg 0 [⟨some 88, .mov (.t 3), none⟩, ⟨some 89, .mov (.t 88), none⟩, ⟨some 90, .faddr 0 4 4 (.t 1), some (1, 89, true)⟩, ⟨some 91, .load 31 false 1 (.t 90), some (1, 89, true)⟩, ⟨some 92, .mov (.t 8), some (1, 89, true)⟩, ⟨some 93, .iaddr 31 10 (.t 91) (.t 92), some (1, 89, true)⟩, ⟨some 94, .faddr 42 0 0 (.t 93), some (1, 89, true)⟩, ⟨some 95, .load 7 false 1 (.t 94), some (1, 89, true)⟩, ⟨some 96, .callp 41 [.t 95, .c (.bool false)], some (1, 89, true)⟩, ⟨some 97, .pick (.t 89) (.t 96) (.c (.bool false)), none⟩, ⟨some 3, .asg (.t 97), none⟩] false [1, 3, 8]))
           (F_ref08_kinds_p14)
def F_ref08_kinds_p16 : ACode :=
  .seq (.seq (.reg 0 [⟨some 81, .mov (.t 8), none⟩, ⟨some 82, .faddr 0 4 4 (.t 1), none⟩, ⟨some 83, .load 31 false 1 (.t 82), none⟩, ⟨some 84, .len 31 (.t 83), none⟩, ⟨some 85, .bin .lss .other 2 (.t 81) (.t 84), none⟩] false [1, 3, 8, 85])
           (.cond (.t 85) (.skip) (.exit 8)))
          (F_ref08_kinds_p15)
def F_ref08_kinds_p17 : ACode :=
  .seq (.reg 0 [⟨some 98, .mov (.t 3), none⟩, ⟨some 2, .asg (.t 98), none⟩] false [2])
       (.ret)
def F_ref08_kinds_p18 : ACode :=
  .seq (.seq (.reg 0 [⟨some 8, .asg (.c (.int .i64 0)), none⟩] false [1, 3, 8])
       (.block 8 (.loop (F_ref08_kinds_p16))))
      (F_ref08_kinds_p17)
def F_ref08_kinds_p19 : ACode :=
  .seq (.seq (.reg 0 [⟨some 6, .asg (.c (.int .i64 0)), none⟩] false [1, 3, 6])
      (.block 4 (.loop (F_ref08_kinds_p13))))
     (F_ref08_kinds_p18)
def F_ref08_kinds_p20 : ACode :=
  .seq (.seq (.reg 0 [⟨some 4, .asg (.c (.int .i64 0)), none⟩] false [1, 3, 4])
     (.block 0 (.loop (F_ref08_kinds_p7))))
    (F_ref08_kinds_p19)
def F_ref08_kinds_p21 : ACode :=
  .seq (.reg 0 [⟨some 3, .asg (.c (.bool true)), none⟩] false [1, 3])
   (F_ref08_kinds_p20)
def F_ref08_kinds_p22 : ACode :=
  .seq (.reg 1 [⟨some 1, .box 0 0 (.t 0), none⟩, ⟨some 2, .asg (.c (.bool false)), none⟩] false [1])
  (F_ref08_kinds_p21)
def F_ref08_kinds : AFun := { nt := 99, res := [.t 2], code := (F_ref08_kinds_p22) }

/-- mandrel/mandrelref08.list -/
def F_ref08_list_p1 : ACode :=
  .reg 0 [⟨some 80, .load 48 true 6 (.t 4), none⟩, ⟨some 81, .callp 42 [.t 80], none⟩, ⟨none, .store 48 6 (.t 4) (.t 81), none⟩] false [2, 3, 4, 6, 7]
def F_ref08_list_p2 : ACode :=
  .reg 0 [⟨some 124, .load 48 true 6 (.t 13), none⟩, ⟨some 125, .mov (.t 14), none⟩, ⟨some 126, .callp 46 [.t 124, .t 125], none⟩, ⟨none, .store 48 6 (.t 4) (.t 126), none⟩] false [2, 3, 4, 6, 7]
def F_ref08_list_p3 : ACode :=
  .seq (.reg 1 [⟨some 119, .load 48 true 6 (.t 11), none⟩, ⟨some 120, .mov (.t 12), none⟩, ⟨some 121, .callp 27 [.t 119, .t 120], none⟩, ⟨some 118, .mov (.t 121), none⟩, ⟨some 122, .ext (.t 118) 0, none⟩, ⟨some 123, .ext (.t 118) 1, none⟩, ⟨some 13, .alloc 0 48 [.nils, .int .i64 0, .bool false, .bool false, .int .i64 0, .bool false], none⟩, ⟨none, .store 48 6 (.t 13) (.t 122), none⟩, ⟨some 14, .asg (.t 123), none⟩] false [2, 3, 4, 6, 7, 13, 14])
                              (F_ref08_list_p2)
def F_ref08_list_p4 : ACode :=
  .seq (.reg 1 [⟨some 114, .load 48 true 6 (.t 9), none⟩, ⟨some 115, .callp 27 [.t 114, .c (.int .u8 255)], none⟩, ⟨some 113, .mov (.t 115), none⟩, ⟨some 116, .ext (.t 113) 0, none⟩, ⟨some 117, .ext (.t 113) 1, none⟩, ⟨some 11, .alloc 0 48 [.nils, .int .i64 0, .bool false, .bool false, .int .i64 0, .bool false], none⟩, ⟨none, .store 48 6 (.t 11) (.t 116), none⟩, ⟨some 12, .asg (.t 117), none⟩] false [2, 3, 4, 6, 7, 11, 12])
                             (F_ref08_list_p3)
def F_ref08_list_p5 : ACode :=
  .cond (.t 127) (.reg 0 [⟨some 136, .load 47 true 11 (.t 3), none⟩, ⟨some 137, .load 48 true 6 (.t 4), none⟩, ⟨some 138, .load 9 true 8 (.t 8), none⟩, ⟨some 139, .callp 47 [.t 136, .t 137, .t 138], none⟩, ⟨none, .store 48 6 (.t 4) (.t 139), none⟩] false [2, 3, 4, 6, 7]) (.reg 0 [⟨some 29, .load 47 true 11 (.t 3), none⟩, ⟨some 30, .load 48 true 6 (.t 4), none⟩, ⟨some 31, .load 9 true 8 (.t 8), none⟩, ⟨some 32, .callp 48 [.t 29, .t 30, .t 31], none⟩, ⟨none, .store 48 6 (.t 4) (.t 32), none⟩] false [2, 3, 4, 6, 7])
def F_ref08_list_p6 : ACode :=
  .cond (.t 104) (.seq (.reg 1 [⟨some 109, .load 48 true 6 (.t 4), none⟩, ⟨some 110, .callp 27 [.t 109, .c (.int .u8 127)], none⟩, ⟨some 108, .mov (.t 110), none⟩, ⟨some 111, .ext (.t 108) 0, none⟩, ⟨some 112, .ext (.t 108) 1, none⟩, ⟨some 9, .alloc 0 48 [.nils, .int .i64 0, .bool false, .bool false, .int .i64 0, .bool false], none⟩, ⟨none, .store 48 6 (.t 9) (.t 111), none⟩, ⟨some 10, .asg (.t 112), none⟩] false [2, 3, 4, 6, 7, 9])
                            (F_ref08_list_p4)) (.seq (.reg 0 [⟨some 128, .faddr 9 0 0 (.t 8), none⟩, ⟨some 129, .load 7 false 1 (.t 128), none⟩, ⟨some 130, .bin .geq .other 7 (.t 129) (.c (.int .u8 32)), none⟩, ⟨some 131, .mov (.t 130), none⟩, ⟨some 132, .faddr 9 0 0 (.t 8), some (3, 131, true)⟩, ⟨some 133, .load 7 false 1 (.t 132), some (3, 131, true)⟩, ⟨some 134, .bin .leq .other 7 (.t 133) (.c (.int .u8 36)), some (3, 131, true)⟩, ⟨some 135, .pick (.t 131) (.t 134) (.c (.bool false)), none⟩, ⟨some 127, .asg (.t 135), none⟩] false [2, 3, 4, 6, 7, 8, 127])
                            (F_ref08_list_p5))
def F_ref08_list_p7 : ACode :=
  .cond (.t 95) (.reg 0 [⟨some 100, .load 48 true 6 (.t 4), none⟩, ⟨some 101, .callp 27 [.t 100, .c (.int .u8 255)], none⟩, ⟨some 99, .mov (.t 101), none⟩, ⟨some 102, .ext (.t 99) 0, none⟩, ⟨some 103, .ext (.t 99) 1, none⟩, ⟨none, .store 48 6 (.t 4) (.t 102), none⟩] false [2, 3, 4, 6, 7]) (.seq (.reg 0 [⟨some 105, .faddr 9 0 0 (.t 8), none⟩, ⟨some 106, .load 7 false 1 (.t 105), none⟩, ⟨some 107, .bin .eql .other 7 (.t 106) (.c (.int .u8 27)), none⟩, ⟨some 104, .asg (.t 107), none⟩] false [2, 3, 4, 6, 7, 8, 104])
                          (F_ref08_list_p6))
def F_ref08_list_p8 : ACode :=
  .cond (.t 82) (.reg 0 [⟨some 91, .load 47 true 11 (.t 3), none⟩, ⟨some 92, .load 48 true 6 (.t 4), none⟩, ⟨some 93, .load 9 true 8 (.t 8), none⟩, ⟨some 94, .callp 45 [.t 91, .t 92, .t 93], none⟩, ⟨none, .store 48 6 (.t 4) (.t 94), none⟩] false [2, 3, 4, 6, 7]) (.seq (.reg 0 [⟨some 96, .faddr 9 0 0 (.t 8), none⟩, ⟨some 97, .load 7 false 1 (.t 96), none⟩, ⟨some 98, .bin .eql .other 7 (.t 97) (.c (.int .u8 26)), none⟩, ⟨some 95, .asg (.t 98), none⟩] false [2, 3, 4, 6, 7, 8, 95])
                        (F_ref08_list_p7))
def F_ref08_list_p9 : ACode :=
  .cond (.t 69) (.seq (.reg 0 [⟨some 74, .load 48 true 6 (.t 4), none⟩, ⟨some 75, .faddr 47 1 8 (.t 3), none⟩, ⟨some 76, .load 7 false 1 (.t 75), none⟩, ⟨some 77, .callp 27 [.t 74, .t 76], none⟩, ⟨some 73, .mov (.t 77), none⟩, ⟨some 78, .ext (.t 73) 0, none⟩, ⟨some 79, .ext (.t 73) 1, none⟩, ⟨none, .store 48 6 (.t 4) (.t 78), none⟩] false [2, 3, 4, 6, 7])
                      (F_ref08_list_p1)) (.seq (.reg 0 [⟨some 83, .faddr 9 0 0 (.t 8), none⟩, ⟨some 84, .load 7 false 1 (.t 83), none⟩, ⟨some 85, .bin .eql .other 7 (.t 84) (.c (.int .u8 16)), none⟩, ⟨some 86, .mov (.t 85), none⟩, ⟨some 87, .faddr 9 0 0 (.t 8), some (3, 86, false)⟩, ⟨some 88, .load 7 false 1 (.t 87), some (3, 86, false)⟩, ⟨some 89, .bin .eql .other 7 (.t 88) (.c (.int .u8 17)), some (3, 86, false)⟩, ⟨some 90, .pick (.t 86) (.c (.bool true)) (.t 89), none⟩, ⟨some 82, .asg (.t 90), none⟩] false [2, 3, 4, 6, 7, 8, 82])
                      (F_ref08_list_p8))
def F_ref08_list_p10 : ACode :=
  .cond (.t 56) (.reg 0 [⟨some 65, .load 47 true 11 (.t 3), none⟩, ⟨some 66, .load 48 true 6 (.t 4), none⟩, ⟨some 67, .load 9 true 8 (.t 8), none⟩, ⟨some 68, .callp 44 [.t 65, .t 66, .t 67], none⟩, ⟨none, .store 48 6 (.t 4) (.t 68), none⟩] false [2, 3, 4, 6, 7]) (.seq (.reg 0 [⟨some 70, .faddr 9 0 0 (.t 8), none⟩, ⟨some 71, .load 7 false 1 (.t 70), none⟩, ⟨some 72, .bin .eql .other 7 (.t 71) (.c (.int .u8 15)), none⟩, ⟨some 69, .asg (.t 72), none⟩] false [2, 3, 4, 6, 7, 8, 69])
                    (F_ref08_list_p9))
def F_ref08_list_p11 : ACode :=
  .cond (.t 43) (.reg 0 [⟨some 52, .load 47 true 11 (.t 3), none⟩, ⟨some 53, .load 48 true 6 (.t 4), none⟩, ⟨some 54, .load 9 true 8 (.t 8), none⟩, ⟨some 55, .callp 43 [.t 52, .t 53, .t 54], none⟩, ⟨none, .store 48 6 (.t 4) (.t 55), none⟩] false [2, 3, 4, 6, 7]) (.seq (.reg 0 [⟨some 57, .faddr 9 0 0 (.t 8), none⟩, ⟨some 58, .load 7 false 1 (.t 57), none⟩, ⟨some 59, .bin .geq .other 7 (.t 58) (.c (.int .u8 12)), none⟩, ⟨some 60, .mov (.t 59), none⟩, ⟨some 61, .faddr 9 0 0 (.t 8), some (3, 60, true)⟩, ⟨some 62, .load 7 false 1 (.t 61), some (3, 60, true)⟩, ⟨some 63, .bin .leq .other 7 (.t 62) (.c (.int .u8 14)), some (3, 60, true)⟩, ⟨some 64, .pick (.t 60) (.t 63) (.c (.bool false)), none⟩, ⟨some 56, .asg (.t 64), none⟩] false [2, 3, 4, 6, 7, 8, 56])
                  (F_ref08_list_p10))
def F_ref08_list_p12 : ACode :=
  .cond (.t 39) (.skip) (.seq (.reg 0 [⟨some 44, .faddr 9 0 0 (.t 8), none⟩, ⟨some 45, .load 7 false 1 (.t 44), none⟩, ⟨some 46, .bin .geq .other 7 (.t 45) (.c (.int .u8 2)), none⟩, ⟨some 47, .mov (.t 46), none⟩, ⟨some 48, .faddr 9 0 0 (.t 8), some (3, 47, true)⟩, ⟨some 49, .load 7 false 1 (.t 48), some (3, 47, true)⟩, ⟨some 50, .bin .leq .other 7 (.t 49) (.c (.int .u8 4)), some (3, 47, true)⟩, ⟨some 51, .pick (.t 47) (.t 50) (.c (.bool false)), none⟩, ⟨some 43, .asg (.t 51), none⟩] false [2, 3, 4, 6, 7, 8, 43])
                (F_ref08_list_p11))
def F_ref08_list_p13 : ACode :=
  .cond (.t 33) (.reg 0 [⟨some 37, .load 48 true 6 (.t 4), none⟩, ⟨some 38, .callp 42 [.t 37], none⟩, ⟨none, .store 48 6 (.t 4) (.t 38), none⟩] false [2, 3, 4, 6, 7]) (.seq (.reg 0 [⟨some 40, .faddr 9 0 0 (.t 8), none⟩, ⟨some 41, .load 7 false 1 (.t 40), none⟩, ⟨some 42, .bin .eql .other 7 (.t 41) (.c (.int .u8 1)), none⟩, ⟨some 39, .asg (.t 42), none⟩] false [2, 3, 4, 6, 7, 8, 39])
              (F_ref08_list_p12))
def F_ref08_list_p14 : ACode :=
  .block 2 (.seq (.reg 0 [⟨some 34, .faddr 9 0 0 (.t 8), none⟩, ⟨some 35, .load 7 false 1 (.t 34), none⟩, ⟨some 36, .bin .eql .other 7 (.t 35) (.c (.int .u8 0)), none⟩, ⟨some 33, .asg (.t 36), none⟩] false [2, 3, 4, 6, 7, 8, 33])
            (F_ref08_list_p13))
def F_ref08_list_p15 : ACode :=
  .reg 0 [⟨some 23, .mov (.t 7), none⟩, ⟨some 24, .bin .add .other 2 (.t 23) (.c (.int .i64 1)), none⟩, ⟨some 7, .asg (.t 24), none⟩] false [2, 3, 4, 6, 7]
def F_ref08_list_p16 : ACode :=
  .seq (.block 1 (.seq (.reg 1 [⟨some 25, .mov (.t 2), none⟩, ⟨some 26, .mov (.t 7), none⟩, ⟨some 27, .iaddr 10 8 (.t 25) (.t 26), none⟩, ⟨some 28, .load 9 true 8 (.t 27), none⟩, ⟨some 8, .alloc 0 9 [.int .u8 0, .int .i64 0, .int .u32 0, .int .u32 0, .int .u8 0, .nils, .nils, .nils], none⟩, ⟨none, .store 9 8 (.t 8) (.t 28), none⟩] false [2, 3, 4, 6, 7, 8])
          (F_ref08_list_p14)))
        (F_ref08_list_p15)
def F_ref08_list_p17 : ACode :=
  .seq (.seq (.reg 0 [⟨some 15, .mov (.t 7), none⟩, ⟨some 16, .mov (.t 2), none⟩, ⟨some 17, .len 10 (.t 16), none⟩, ⟨some 18, .bin .lss .other 2 (.t 15) (.t 17), none⟩, ⟨some 19, .mov (.t 18), none⟩, ⟨some 20, .faddr 48 5 5 (.t 4), some (4, 19, true)⟩, ⟨some 21, .load 12 false 1 (.t 20), some (4, 19, true)⟩, ⟨some 22, .pick (.t 19) (.t 21) (.c (.bool false)), none⟩] false [2, 3, 4, 6, 7, 22])
        (.cond (.t 22) (.skip) (.exit 0)))
       (F_ref08_list_p16)
def F_ref08_list_p18 : ACode :=
  .seq (.reg 0 [⟨some 140, .load 48 true 6 (.t 4), none⟩, ⟨none, .store 48 6 (.t 6) (.t 140), none⟩] false [6])
    (.ret)
def F_ref08_list_p19 : ACode :=
  .seq (.seq (.reg 0 [⟨some 7, .asg (.c (.int .i64 0)), none⟩] false [2, 3, 4, 6, 7])
    (.block 0 (.loop (F_ref08_list_p17))))
   (F_ref08_list_p18)
def F_ref08_list_p20 : ACode :=
  .seq (.reg 3 [⟨some 3, .box 0 47 (.t 0), none⟩, ⟨some 4, .box 1 48 (.t 1), none⟩, ⟨some 6, .alloc 2 48 [.nils, .int .i64 0, .bool false, .bool false, .int .i64 0, .bool false], none⟩] false [2, 3, 4, 6])
  (F_ref08_list_p19)
def F_ref08_list : AFun := { nt := 141, res := [.cell 6 48 true 6], code := (F_ref08_list_p20) }

/-- mandrel/mandrelref08.take -/
def F_ref08_take_p1 : ACode :=
  .cond (.t 8) (.seq (.reg 0 [⟨some 9, .load 48 true 6 (.t 2), none⟩, ⟨none, .store 48 6 (.t 4) (.t 9), none⟩, ⟨some 5, .asg (.c (.int .u8 0)), none⟩] false [4, 5])
      (.ret)) (.skip)
def F_ref08_take_p2 : ACode :=
  .seq (.reg 0 [⟨some 21, .load 48 true 6 (.t 2), none⟩, ⟨some 22, .mov (.t 1), none⟩, ⟨none, .store 48 6 (.t 4) (.t 21), none⟩, ⟨some 5, .asg (.t 22), none⟩] false [4, 5])
        (.ret)
def F_ref08_take_p3 : ACode :=
  .cond (.t 13) (.seq (.reg 0 [⟨some 14, .faddr 48 5 5 (.t 2), none⟩, ⟨some 15, .load 12 false 1 (.t 14), none⟩, ⟨some 16, .mov (.t 15), none⟩, ⟨some 17, .faddr 48 2 2 (.t 2), some (2, 16, true)⟩, ⟨some 18, .load 12 false 1 (.t 17), some (2, 16, true)⟩, ⟨some 19, .pick (.t 16) (.t 18) (.c (.bool false)), none⟩, ⟨some 20, .faddr 48 5 5 (.t 2), none⟩, ⟨none, .store 12 1 (.t 20) (.t 19), none⟩] false [1, 2, 4])
       (F_ref08_take_p2)) (.skip)
def F_ref08_take_p4 : ACode :=
  .cond (.t 40) (.seq (.reg 0 [⟨some 41, .load 48 true 6 (.t 2), none⟩, ⟨some 42, .mov (.t 1), none⟩, ⟨none, .store 48 6 (.t 4) (.t 41), none⟩, ⟨some 5, .asg (.t 42), none⟩] false [4, 5])
          (.ret)) (.skip)
def F_ref08_take_p5 : ACode :=
  .cond (.t 49) (.reg 0 [⟨some 50, .faddr 48 5 5 (.t 2), none⟩, ⟨none, .store 12 1 (.t 50) (.c (.bool false)), none⟩] false [2, 4, 6]) (.skip)
def F_ref08_take_p6 : ACode :=
  .seq (.reg 0 [⟨some 51, .load 48 true 6 (.t 2), none⟩, ⟨some 52, .mov (.t 6), none⟩, ⟨none, .store 48 6 (.t 4) (.t 51), none⟩, ⟨some 5, .asg (.t 52), none⟩] false [4, 5])
         (.ret)
def F_ref08_take_p7 : ACode :=
  .seq (.seq (.reg 0 [⟨some 43, .mov (.t 1), none⟩, ⟨some 44, .bin .neq .other 7 (.t 43) (.c (.int .u8 255)), none⟩, ⟨some 45, .mov (.t 44), none⟩, ⟨some 46, .mov (.t 6), some (2, 45, true)⟩, ⟨some 47, .mov (.t 1), some (2, 45, true)⟩, ⟨some 48, .bin .neq .other 7 (.t 46) (.t 47), some (2, 45, true)⟩, ⟨some 49, .pick (.t 45) (.t 48) (.c (.bool false)), none⟩] false [2, 4, 6, 49])
         (F_ref08_take_p5))
        (F_ref08_take_p6)
def F_ref08_take_p8 : ACode :=
  .seq (.seq (.reg 0 [⟨some 39, .mov (.t 6), none⟩, ⟨some 40, .bin .eql .other 7 (.t 39) (.c (.int .u8 255)), none⟩] false [1, 2, 4, 6, 40])
        (F_ref08_take_p4))
       (F_ref08_take_p7)
def F_ref08_take_p9 : ACode :=
  .seq (.reg 0 [⟨some 31, .faddr 48 0 0 (.t 2), none⟩, ⟨some 32, .load 36 false 1 (.t 31), none⟩, ⟨some 33, .faddr 48 0 0 (.t 2), none⟩, ⟨some 34, .load 36 false 1 (.t 33), none⟩, ⟨some 35, .len 36 (.t 34), none⟩, ⟨some 36, .bin .sub .other 2 (.t 35) (.c (.int .i64 1)), none⟩, ⟨some 37, .slc 36 1 (.t 32) none (some (.t 36)), none⟩, ⟨some 38, .faddr 48 0 0 (.t 2), none⟩, ⟨none, .store 36 1 (.t 38) (.t 37), none⟩] false [1, 2, 4, 6])
      (F_ref08_take_p8)
def F_ref08_take_p10 : ACode :=
  .seq (.reg 0 [⟨some 23, .faddr 48 0 0 (.t 2), none⟩, ⟨some 24, .load 36 false 1 (.t 23), none⟩, ⟨some 25, .faddr 48 0 0 (.t 2), none⟩, ⟨some 26, .load 36 false 1 (.t 25), none⟩, ⟨some 27, .len 36 (.t 26), none⟩, ⟨some 28, .bin .sub .other 2 (.t 27) (.c (.int .i64 1)), none⟩, ⟨some 29, .iaddr 36 1 (.t 24) (.t 28), none⟩, ⟨some 30, .load 7 false 1 (.t 29), none⟩, ⟨some 6, .asg (.t 30), none⟩] false [1, 2, 4, 6])
     (F_ref08_take_p9)
def F_ref08_take_p11 : ACode :=
  .seq (.seq (.reg 0 [⟨some 10, .faddr 48 0 0 (.t 2), none⟩, ⟨some 11, .load 36 false 1 (.t 10), none⟩, ⟨some 12, .len 36 (.t 11), none⟩, ⟨some 13, .bin .eql .other 2 (.t 12) (.c (.int .i64 0)), none⟩] false [1, 2, 4, 13])
     (F_ref08_take_p3))
    (F_ref08_take_p10)
def F_ref08_take_p12 : ACode :=
  .seq (.seq (.reg 0 [⟨some 7, .mov (.t 1), none⟩, ⟨some 8, .bin .eql .other 7 (.t 7) (.c (.int .u8 0)), none⟩] false [1, 2, 4, 8])
    (F_ref08_take_p1))
   (F_ref08_take_p11)
def F_ref08_take_p13 : ACode :=
  .seq (.reg 2 [⟨some 2, .box 0 48 (.t 0), none⟩, ⟨some 4, .alloc 1 48 [.nils, .int .i64 0, .bool false, .bool false, .int .i64 0, .bool false], none⟩, ⟨some 5, .asg (.c (.int .u8 0)), none⟩] false [1, 2, 4])
  (F_ref08_take_p12)
def F_ref08_take : AFun := { nt := 53, res := [.cell 4 48 true 6, .t 5], code := (F_ref08_take_p13) }

/-- slices.IndexFunc[[]mandrel/api.Limits,mandrel/api.Limits] -/
def F_slices_IndexFunc_api_Limits_api_Limits_p1 : ACode :=
  .cond (.t 16) (.seq (.reg 0 [⟨some 17, .mov (.t 5), none⟩, ⟨some 4, .asg (.t 17), none⟩] false [4])
              (.ret)) (.skip)
def F_slices_IndexFunc_api_Limits_api_Limits_p2 : ACode :=
  .seq (.reg 0 [⟨some 11, .mov (.t 1), none⟩, ⟨some 12, .mov (.t 0), none⟩, ⟨some 13, .mov (.t 5), none⟩, ⟨some 14, .iaddr 18 3 (.t 12) (.t 13), none⟩, ⟨some 15, .load 19 true 3 (.t 14), none⟩, ⟨some 16, .callv (.t 11) [.t 15], none⟩] false [0, 1, 5, 7, 8, 16])
            (F_slices_IndexFunc_api_Limits_api_Limits_p1)
def F_slices_IndexFunc_api_Limits_api_Limits_p3 : ACode :=
  .reg 0 [⟨some 18, .bin .add .other 2 (.t 8) (.c (.int .i64 1)), none⟩, ⟨some 8, .mov (.t 18), none⟩] false [0, 1, 7, 8]
def F_slices_IndexFunc_api_Limits_api_Limits_p4 : ACode :=
  .seq (.block 1 (.seq (.reg 0 [⟨some 10, .mov (.t 8), none⟩, ⟨some 5, .asg (.t 10), none⟩] false [0, 1, 5, 7, 8])
           (F_slices_IndexFunc_api_Limits_api_Limits_p2)))
         (F_slices_IndexFunc_api_Limits_api_Limits_p3)
def F_slices_IndexFunc_api_Limits_api_Limits_p5 : ACode :=
  .seq (.cond (.t 9) (.skip) (.exit 0))
        (F_slices_IndexFunc_api_Limits_api_Limits_p4)
def F_slices_IndexFunc_api_Limits_api_Limits_p6 : ACode :=
  .seq (.reg 0 [⟨some 9, .bin .lss .other 2 (.t 8) (.t 7), none⟩] false [0, 1, 7, 8, 9])
       (F_slices_IndexFunc_api_Limits_api_Limits_p5)
def F_slices_IndexFunc_api_Limits_api_Limits_p7 : ACode :=
  .seq (.seq (.reg 0 [⟨some 6, .mov (.t 0), none⟩, ⟨some 7, .len 18 (.t 6), none⟩, ⟨some 8, .mov (.c (.int .i64 0)), none⟩] false [0, 1, 7, 8])
    (.block 0 (.loop (F_slices_IndexFunc_api_Limits_api_Limits_p6))))
   (.seq (.reg 0 [⟨some 4, .asg (.c (.int .i64 (-1))), none⟩] false [4])
    (.ret))
def F_slices_IndexFunc_api_Limits_api_Limits_p8 : ACode :=
  .seq (.reg 0 [⟨some 4, .asg (.c (.int .i64 0)), none⟩] false [0, 1])
  (F_slices_IndexFunc_api_Limits_api_Limits_p7)
def F_slices_IndexFunc_api_Limits_api_Limits : AFun := { nt := 19, res := [.t 4], code := (F_slices_IndexFunc_api_Limits_api_Limits_p8) }

/-- mandrel/valid.kinds -/
def F_valid_kinds_p1 : ACode :=
  .cond (.t 24) (.seq (.reg 0 [⟨some 2, .asg (.c (.bool false)), none⟩] false [2])
               (.ret)) (.skip)
def F_valid_kinds_p2 : ACode :=
  .seq (.reg 0 [⟨some 15, .faddr 43 1 1 (.t 5), none⟩, ⟨some 16, .load 51 false 1 (.t 15), none⟩, ⟨some 17, .callp 50 [.t 16], none⟩, ⟨some 18, .un .not (.t 17), none⟩, ⟨some 19, .mov (.t 18), none⟩, ⟨some 20, .faddr 43 0 0 (.t 5), some (4, 19, false)⟩, ⟨some 21, .load 50 false 1 (.t 20), some (4, 19, false)⟩, ⟨some 22, .load 57 false 1 (.t 3), some (4, 19, false)⟩, ⟨some 23, .callp 51 [.t 21, .t 22], some (4, 19, false)⟩, ⟨some 24, .pick (.t 19) (.c (.bool true)) (.t 23), none⟩] false [1, 3, 9, 10, 11, 24])
             (F_valid_kinds_p1)
def F_valid_kinds_p3 : ACode :=
  .reg 0 [⟨some 25, .bin .add .other 2 (.t 11) (.c (.int .i64 1)), none⟩, ⟨some 11, .mov (.t 25), none⟩] false [1, 3, 9, 10, 11]
def F_valid_kinds_p4 : ACode :=
  .seq (.block 1 (.seq (.reg 1 [⟨some 13, .iaddr 17 2 (.t 9) (.t 11), none⟩, ⟨some 14, .load 43 true 2 (.t 13), none⟩, ⟨some 5, .alloc 0 43 [.nils, .int .u8 0], none⟩, ⟨none, .store 43 2 (.t 5) (.t 14), none⟩] false [1, 3, 5, 9, 10, 11])
            (F_valid_kinds_p2)))
          (F_valid_kinds_p3)
def F_valid_kinds_p5 : ACode :=
  .seq (.reg 0 [⟨some 12, .bin .lss .other 2 (.t 11) (.t 10), none⟩] false [1, 3, 9, 10, 11, 12])
        (.seq (.cond (.t 12) (.skip) (.exit 0))
         (F_valid_kinds_p4))
def F_valid_kinds_p6 : ACode :=
  .cond (.t 36) (.seq (.reg 0 [⟨some 2, .asg (.c (.bool false)), none⟩] false [2])
                (.ret)) (.skip)
def F_valid_kinds_p7 : ACode :=
  .seq (.reg 0 [⟨some 33, .faddr 6 1 1 (.t 7), none⟩, ⟨some 34, .load 50 false 1 (.t 33), none⟩, ⟨some 35, .load 57 false 1 (.t 3), none⟩, ⟨some 36, .callp 51 [.t 34, .t 35], none⟩] false [1, 3, 27, 28, 29, 36])
              (F_valid_kinds_p6)
def F_valid_kinds_p8 : ACode :=
  .reg 0 [⟨some 37, .bin .add .other 2 (.t 29) (.c (.int .i64 1)), none⟩, ⟨some 29, .mov (.t 37), none⟩] false [1, 3, 27, 28, 29]
def F_valid_kinds_p9 : ACode :=
  .seq (.block 3 (.seq (.reg 1 [⟨some 31, .iaddr 5 3 (.t 27) (.t 29), none⟩, ⟨some 32, .load 6 true 3 (.t 31), none⟩, ⟨some 7, .alloc 0 6 [.int .u32 0, .nils, .nils], none⟩, ⟨none, .store 6 3 (.t 7) (.t 32), none⟩] false [1, 3, 7, 27, 28, 29])
             (F_valid_kinds_p7)))
           (F_valid_kinds_p8)
def F_valid_kinds_p10 : ACode :=
  .seq (.reg 0 [⟨some 30, .bin .lss .other 2 (.t 29) (.t 28), none⟩] false [1, 3, 27, 28, 29, 30])
         (.seq (.cond (.t 30) (.skip) (.exit 2))
          (F_valid_kinds_p9))
def F_valid_kinds_p11 : ACode :=
  .seq (.reg 0 [⟨some 38, .faddr 1 4 4 (.t 1), none⟩, ⟨some 39, .load 20 false 1 (.t 38), none⟩, ⟨some 40, .mkfn 52 [.t 3], none⟩, ⟨some 41, .callp 53 [.t 39, .t 40], none⟩, ⟨some 42, .un .not (.t 41), none⟩, ⟨some 2, .asg (.t 42), none⟩] false [2])
      (.ret)
def F_valid_kinds_p12 : ACode :=
  .seq (.seq (.reg 0 [⟨some 26, .faddr 1 1 1 (.t 1), none⟩, ⟨some 27, .load 5 false 1 (.t 26), none⟩, ⟨some 28, .len 5 (.t 27), none⟩, ⟨some 29, .mov (.c (.int .i64 0)), none⟩] false [1, 3, 27, 28, 29])
      (.block 2 (.loop (F_valid_kinds_p10))))
     (F_valid_kinds_p11)
def F_valid_kinds_p13 : ACode :=
  .seq (.seq (.reg 0 [⟨some 8, .faddr 1 0 0 (.t 1), none⟩, ⟨some 9, .load 17 false 1 (.t 8), none⟩, ⟨some 10, .len 17 (.t 9), none⟩, ⟨some 11, .mov (.c (.int .i64 0)), none⟩] false [1, 3, 9, 10, 11])
     (.block 0 (.loop (F_valid_kinds_p5))))
    (F_valid_kinds_p12)
def F_valid_kinds_p14 : ACode :=
  .seq (.reg 1 [⟨some 3, .alloc 0 57 [.nilf], none⟩, ⟨none, .store 57 1 (.t 3) (.f 49), none⟩] false [1, 3])
   (F_valid_kinds_p13)
def F_valid_kinds_p15 : ACode :=
  .seq (.reg 1 [⟨some 1, .box 0 1 (.t 0), none⟩, ⟨some 2, .asg (.c (.bool false)), none⟩] false [1])
  (F_valid_kinds_p14)
def F_valid_kinds : AFun := { nt := 43, res := [.t 2], code := (F_valid_kinds_p15) }

/-- mandrel/valid.bounds -/
def F_valid_bounds_p1 : ACode :=
  .seq (.reg 0 [⟨some 3, .faddr 19 1 1 (.t 1), none⟩, ⟨some 4, .load 12 false 1 (.t 3), none⟩, ⟨some 5, .mov (.t 4), none⟩, ⟨some 6, .faddr 19 0 0 (.t 1), some (2, 5, true)⟩, ⟨some 7, .load 13 false 1 (.t 6), some (2, 5, true)⟩, ⟨some 8, .faddr 19 2 2 (.t 1), some (2, 5, true)⟩, ⟨some 9, .load 13 false 1 (.t 8), some (2, 5, true)⟩, ⟨some 10, .bin .gtr .other 13 (.t 7) (.t 9), some (2, 5, true)⟩, ⟨some 11, .pick (.t 5) (.t 10) (.c (.bool false)), none⟩, ⟨some 2, .asg (.t 11), none⟩] false [2])
   (.ret)
def F_valid_bounds_p2 : ACode :=
  .seq (.reg 1 [⟨some 1, .box 0 19 (.t 0), none⟩, ⟨some 2, .asg (.c (.bool false)), none⟩] false [1])
  (F_valid_bounds_p1)
def F_valid_bounds : AFun := { nt := 12, res := [.t 2], code := (F_valid_bounds_p2) }

/-- mandrel/valid.value -/
def F_valid_value_p1 : ACode :=
  .seq (.reg 0 [⟨some 5, .mov (.t 1), none⟩, ⟨some 6, .bin .eql .other 51 (.t 5) (.c (.int .u8 127)), none⟩, ⟨some 7, .mov (.t 6), none⟩, ⟨some 8, .faddr 3 0 0 (.t 2), some (2, 7, true)⟩, ⟨some 9, .load 7 false 1 (.t 8), some (2, 7, true)⟩, ⟨some 10, .bin .eql .other 7 (.t 9) (.c (.int .u8 65)), some (2, 7, true)⟩, ⟨some 11, .pick (.t 7) (.t 10) (.c (.bool false)), none⟩, ⟨some 12, .mov (.t 11), none⟩, ⟨some 13, .faddr 3 1 1 (.t 2), some (7, 12, true)⟩, ⟨some 14, .load 27 false 1 (.t 13), some (7, 12, true)⟩, ⟨some 15, .faddr 3 1 1 (.t 2), some (7, 12, true)⟩, ⟨some 16, .load 27 false 1 (.t 15), some (7, 12, true)⟩, ⟨some 17, .convi .i32 27 58 (.t 16), some (7, 12, true)⟩, ⟨some 18, .convi .i64 58 27 (.t 17), some (7, 12, true)⟩, ⟨some 19, .bin .eql .other 27 (.t 14) (.t 18), some (7, 12, true)⟩, ⟨some 20, .pick (.t 12) (.t 19) (.c (.bool false)), none⟩, ⟨some 21, .mov (.t 20), none⟩, ⟨some 22, .mov (.t 1), some (16, 21, false)⟩, ⟨some 23, .bin .eql .other 51 (.t 22) (.c (.int .u8 126)), some (16, 21, false)⟩, ⟨some 24, .mov (.t 23), some (16, 21, false)⟩, ⟨some 25, .faddr 3 0 0 (.t 2), some (19, 24, true)⟩, ⟨some 26, .load 7 false 1 (.t 25), some (19, 24, true)⟩, ⟨some 27, .bin .eql .other 7 (.t 26) (.c (.int .u8 66)), some (19, 24, true)⟩, ⟨some 28, .pick (.t 24) (.t 27) (.c (.bool false)), some (16, 21, false)⟩, ⟨some 29, .pick (.t 21) (.c (.bool true)) (.t 28), none⟩, ⟨some 4, .asg (.t 29), none⟩] false [4])
   (.ret)
def F_valid_value_p2 : ACode :=
  .seq (.reg 1 [⟨some 2, .box 0 3 (.t 0), none⟩, ⟨some 4, .asg (.c (.bool false)), none⟩] false [1, 2])
  (F_valid_value_p1)
def F_valid_value : AFun := { nt := 30, res := [.t 4], code := (F_valid_value_p2) }

/-- slices.ContainsFunc[[]uint32,uint32] -/
def F_slices_ContainsFunc_uint32_uint32_p1 : ACode :=
  .seq (.reg 0 [⟨some 5, .mov (.t 0), none⟩, ⟨some 6, .mov (.t 1), none⟩, ⟨some 7, .callp 54 [.t 5, .t 6], none⟩, ⟨some 8, .bin .geq .other 2 (.t 7) (.c (.int .i64 0)), none⟩, ⟨some 4, .asg (.t 8), none⟩] false [4])
   (.ret)
def F_slices_ContainsFunc_uint32_uint32_p2 : ACode :=
  .seq (.reg 0 [⟨some 4, .asg (.c (.bool false)), none⟩] false [0, 1])
  (F_slices_ContainsFunc_uint32_uint32_p1)
def F_slices_ContainsFunc_uint32_uint32 : AFun := { nt := 9, res := [.t 4], code := (F_slices_ContainsFunc_uint32_uint32_p2) }

/-- mandrel/valid.outer$1 -/
def F_valid_outer_1_p1 : ACode :=
  .seq (.reg 0 [⟨some 4, .mov (.t 0), none⟩, ⟨some 5, .faddr 1 1 1 (.t 1), none⟩, ⟨some 6, .load 5 false 1 (.t 5), none⟩, ⟨some 7, .len 5 (.t 6), none⟩, ⟨some 8, .convi .u32 2 13 (.t 7), none⟩, ⟨some 9, .bin .geq .other 13 (.t 4) (.t 8), none⟩, ⟨some 3, .asg (.t 9), none⟩] false [3])
   (.ret)
def F_valid_outer_1_p2 : ACode :=
  .seq (.reg 0 [⟨some 3, .asg (.c (.bool false)), none⟩] false [0, 1])
  (F_valid_outer_1_p1)
def F_valid_outer_1 : AFun := { nt := 10, res := [.t 3], code := (F_valid_outer_1_p2) }

end Go.Proofs.YtablleokoifolaaGreatDoor

