/- Part 5 of the proof that ValidBodiesUptoCardSaid: for every input that fits the row the law answers true and its arguments read as before, over the world as the row lays it. -/
import Derived.Test.YtablleokoifolaaGreatDoorZ4
/- Level 2: regions, calls of functions. -/
set_option linter.unusedVariables false
set_option linter.unusedSimpArgs false
namespace Go.Proofs.YtablleokoifolaaGreatDoor
open Go

/-- Called with these data a function gives that datum. -/
def CF (E : Env) (f : Nat) (vs : List FV) (r : FV) : Prop := ACallP E f (vs.map toA) (toA r)

def setroO : Ob → Ob
  | .st _ cs => .st true cs
  | .sl _ esz n f => .sl true esz n f
def roH (ks : List Nat) : List (Nat × Ob) → List (Nat × Ob)
  | [] => []
  | (k, o) :: l => (k, bif ks.any (Nat.beq k) then setroO o else o) :: roH ks l
theorem roH_lk (ks : List Nat) : ∀ (h : List (Nat × Ob)) (k : Nat), lkO (roH ks h) k = (lkO h k).map fun o => bif ks.any (Nat.beq k) then setroO o else o
  | [], k => rfl
  | (j, o) :: l, k => by
    simp only [roH, lkO]
    by_cases e : k = j
    · subst e; rw [beqT]; rfl
    · rw [beqF e]; simpa using roH_lk ks l k

/-- Cells that may stand in a frozen slice just made. -/
def kfF : FV → Bool
  | .bool _ | .int _ _ | .str _ | .nilp | .nils | .nilf | .nili | .nilm | .sv _ _ | .fp _ | .err _ _ | .pt _ => true
  | .func _ [] => true
  | .iface _ (.int _ _) | .iface _ (.bool _) | .iface _ (.str _) => true
  | _ => false
theorem kfF_sound {v : FV} {a : AV} (r : RD v a) (h : kfF v = true) : kf0 a = true ∧ nz a = toA v := by
  cases v with
  | undef => cases h
  | hole => cases h
  | agg => cases h
  | tup => cases h
  | nils => obtain rfl := rd_nils r; exact ⟨rfl, rfl⟩
  | sv n f =>
    cases r with
    | c h => exact ⟨rfl, rfl⟩
    | sv0 => exact ⟨rfl, by simp [nz, toA]⟩
  | err c e =>
    cases r
    cases e <;> exact ⟨rfl, rfl⟩
  | pt o =>
    cases r
    cases o <;> exact ⟨rfl, rfl⟩
  | func f cs =>
    cases cs with
    | nil =>
      obtain ⟨cs', rfl, hr⟩ := rd_func r
      have : cs' = [] := List.eq_nil_of_length_eq_zero (by simpa using hr.1)
      subst this; exact ⟨rfl, rfl⟩
    | cons => cases h
  | iface c v =>
    obtain ⟨b, rfl, hr⟩ := rd_iface r
    cases v <;> first | (cases h; done) | (cases hr; exact ⟨rfl, rfl⟩)
  | bool => cases r; exact ⟨rfl, rfl⟩
  | int => cases r; exact ⟨rfl, rfl⟩
  | str => cases r; exact ⟨rfl, rfl⟩
  | nilp => cases r; exact ⟨rfl, rfl⟩
  | nilf => cases r; exact ⟨rfl, rfl⟩
  | nili => cases r; exact ⟨rfl, rfl⟩
  | nilm => cases r; exact ⟨rfl, rfl⟩
  | fp => cases r; exact ⟨rfl, rfl⟩

/-- Does an operation run? -/
def gdRun (gd : List (Nat × Bool)) (y : Y) (g : Option (Nat × Nat × Bool)) : Option (Bool × List Prop) :=
  match g with
  | none => some (true, [])
  | some (_, d, w) => match lkT y.t d with
    | .hole => some (false, [])
    | .d (.bool c) => match lkG gd d with
      | some b => some (b == w, [c = b])
      | none => some (c == w, [])
    | _ => none

theorem getD_mapL (es : List (List FV)) (i : Nat) : (es.map toAL).getD i [] = toAL (es.getD i []) := by
  rw [List.getD_eq_getElem?_getD, List.getElem?_map, List.getD_eq_getElem?_getD]
  cases es[i]? <;> rfl
/-- An operation, pure calls among them. -/
def exC (E : Env) (K0 : List Nat) (W2 : W2L) (res : Nat) (dr : Bool) (gd : List (Nat × Bool)) (y : Y) (an : List An) (op : AOp) : Ex :=
  match op with
  | .bslv _ _ zs n ps => match fillF zs.length (List.replicate n (zF zs)) (ps.map fun p => (p.1, evL y.t p.2)) with
    | some es => match an with
      | .sb n2 f2 :: an => rok (zOk zs && (es.all (fun c => c.all kfF) && Nat.beq n2 n)) (some (.d (.sv n2 f2), y, [∀ i, i < n2 → toAL (f2 i) = (es.map toAL).getD i []], an))
      | an => rok (zOk zs && es.all (fun c => c.all kfF)) (some (.d (.sv n fun i => es.getD i []), y, [], an))
    | none => none
  | .callp f args => match an with
    | .r r :: an => match mapF (fz y.h 20) (args.map (evL y.t)) with
      | some (vs, c) => rok (cl r && (!dr || ((args.map (evL y.t)).flatMap (fzK y.h 20)).isEmpty))
          (some (.d r, ⟨y.t, roH ((args.map (evL y.t)).flatMap (fzK y.h 20)) y.h, y.nw, y.us⟩, c ++ [CF E f vs r], an))
      | none => none
    | _ => none
  | .callv g args => match an, (match evL y.t g with | .func f caps => some (f, caps) | .d (.func f caps) => some (f, caps.map .d) | _ => none) with
    | .r r :: an, some (f, caps) => match mapF (fz y.h 20) (args.map (evL y.t) ++ caps) with
      | some (vs, c) => rok (cl r && (!dr || ((args.map (evL y.t) ++ caps).flatMap (fzK y.h 20)).isEmpty))
          (some (.d r, ⟨y.t, roH ((args.map (evL y.t) ++ caps).flatMap (fzK y.h 20)) y.h, y.nw, y.us⟩, c ++ [CF E f vs r], an))
      | none => none
    | _, _ => none
  | .calls f args => match an with
    | .c hk hn st lv H' :: an => match pickH y.h hk with
      | some H => rok (!dr && (W2.isEmpty && callOk K0 hk hn st)) (some (lv, callY y hk hn st H', [CM E f (args.map (evL y.t)) H hn st (fun a b => a = lv ∧ b = H')], an))
      | none => none
    | _ => none
  | op => ex K0 W2 res dr gd y an op

def y1 (E : Env) (K0 : List Nat) (W2 : W2L) (res : Nat) (dr : Bool) (gd : List (Nat × Bool)) (y : Y) (an : List An) (o : AOper) : Option (Y × List Prop × List An) :=
  match gdRun gd y o.guard with
  | none => none
  | some (false, c) => some (⟨putL2 o.dst y.t .hole, y.h, y.nw, y.us⟩, c, an)
  | some (true, c) => match exC E K0 W2 res dr gd y an o.op with
    | none => none
    | some (lv, y', c', an') => some (⟨putL2 o.dst y'.t lv, y'.h, y'.nw, y'.us⟩, c ++ c', an')

def AndL : List Prop → Prop → Prop
  | [], p => p
  | q :: l, p => q ∧ AndL l p
theorem andL_iff {l : List Prop} {p : Prop} : AndL l p ↔ AllP l ∧ p := by
  induction l with
  | nil => simp [AndL, AllP]
  | cons q l ih => simp [AndL, AllP, ih, and_assoc]

/-- Operations one after another. -/
def yL (E : Env) (K0 : List Nat) (W2 : W2L) (res : Nat) (dr : Bool) (gd : List (Nat × Bool)) : List AOper → List An → Y → Option (Y × Prop)
  | [], _, y => some (y, True)
  | o :: r, an, y => match y1 E K0 W2 res dr gd y an o with
      | none => none
      | some (y', c, an') => match yL E K0 W2 res dr gd r an' y' with
        | some (y'', p) => some (y'', AndL c p)
        | none => none

section
variable {E : Env} {K0 : List Nat} {fr : Frm} {ρ0 : Rho} {W2 : W2L} {base res : Nat} {ρ : Rho} {y : Y} {s : St}

theorem RY.mark (hR : RY K0 fr ρ0 W2 base res ρ y s) {ks L : List Nat} (h1 : ∀ κ, κ ∈ L ↔ ∃ k ∈ ks, ρ k = some κ) (h2 : ∀ k ∈ ks, (lkO y.h k).isSome = true) :
    RY K0 fr ρ0 W2 base res ρ ⟨y.t, roH ks y.h, y.nw, y.us⟩ ⟨s.t, roAll L s.h, s.n⟩ := by
  have iss : ∀ k, (lkO (roH ks y.h) k).isSome = true ↔ (lkO y.h k).isSome = true := by
    intro k; rw [roH_lk]; simp
  refine ⟨⟨hR.r.t, fun k o ho => ?_, fun k k' κ a b => hR.r.inj k k' κ ((iss _).1 a) ((iss _).1 b), fun k κ a => hR.r.lt k κ ((iss _).1 a), fun κ hd => ?_, fun k κ a => hR.r.dis k κ ((iss _).1 a), hR.r.n0, hR.r.an, hR.r.rows.ro L⟩,
    hR.bn, hR.sn, fun k κ a => hR.us k κ ((iss _).1 a), fun k κ a => hR.nw k κ ((iss _).1 a), fun c hc => ⟨(iss _).2 (hR.wk c hc).1, (hR.wk c hc).2⟩⟩
  · rw [roH_lk] at ho
    obtain ⟨o1, ho1, rfl⟩ := Option.map_eq_some_iff.1 ho
    have r := hR.r.o k o1 ho1
    have same : ∀ κ, ρ k = some κ → (κ ∈ L ↔ k ∈ ks) := by
      intro κ e
      rw [h1]
      constructor
      · rintro ⟨k', hk', e'⟩
        have := hR.r.inj k' k κ (h2 k' hk') (by rw [ho1]; rfl) e' e
        exact this ▸ hk'
      · intro hk; exact ⟨k, hk, e⟩
    by_cases hk : k ∈ ks
    · rw [any_beq.2 hk, cond_true]
      cases o1 with
      | st ro cs =>
        obtain ⟨κ, cs', g1, g2, g3⟩ := r
        refine ⟨κ, cs', g1, ?_, g3⟩
        simp only [roAll, if_pos ((same κ g1).2 hk), g2]; rfl
      | sl ro esz n f =>
        rcases r with ⟨κ, es, g1, g2, g3⟩ | g
        · refine .inl ⟨κ, es, g1, ?_, g3⟩
          simp only [roAll, if_pos ((same κ g1).2 hk), g2]; rfl
        · exact .inr g
    · have : ks.any (Nat.beq k) = false := by
        cases e : ks.any (Nat.beq k) with
        | false => rfl
        | true => exact absurd (any_beq.1 e) hk
      rw [this, cond_false]
      cases o1 with
      | st ro cs =>
        obtain ⟨κ, cs', g1, g2, g3⟩ := r
        refine ⟨κ, cs', g1, ?_, g3⟩
        simp only [roAll]
        rw [if_neg (fun hh => hk ((same κ g1).1 hh))]; exact g2
      | sl ro esz n f =>
        rcases r with ⟨κ, es, g1, g2, g3⟩ | g
        · refine .inl ⟨κ, es, g1, ?_, g3⟩
          simp only [roAll]
          rw [if_neg (fun hh => hk ((same κ g1).1 hh))]; exact g2
        · exact .inr g
  · obtain ⟨q1, q2⟩ := hR.r.fm κ hd
    refine ⟨q1, ?_⟩
    simp only [roAll]
    rw [if_neg]
    · exact q2
    · intro hh
      obtain ⟨k', hk', e'⟩ := (h1 κ).1 hh
      exact hR.r.dis k' κ (h2 k' hk') e' hd

theorem args_sound (hR : RY K0 fr ρ0 W2 base res ρ y s) {ls : List LV} {asx : List AV} (hr : RLs ρ ls asx) {vs : List FV} {c : List Prop} (h : mapF (fz y.h 20) ls = some (vs, c)) (hc : AllP c) :
    frzL s.h asx = some (vs.map toA) ∧ (∀ κ, κ ∈ frzKL s.h asx ↔ ∃ k ∈ ls.flatMap (fzK y.h 20), ρ k = some κ) ∧ ∀ k ∈ ls.flatMap (fzK y.h 20), (lkO y.h k).isSome = true := by
  have := fz_list (hp := s.h) (h := y.h) (ρ := ρ) (F := FZ) (m := 20) (fun {v a fv c} => fz_sound hR.r.o 20 FZ (by decide)) hr h hc
  rw [toAL_map] at this
  exact this

theorem evLs (hR : RY K0 fr ρ0 W2 base res ρ y s) (args : List AX) : RLs ρ (args.map (evL y.t)) (args.map (evX s.t)) := by
  refine ⟨by simp, fun i hi => ?_⟩
  have hi' : i < args.length := by simpa using hi
  have := evL_sound hR.r.t args[i]
  simpa [List.getD_eq_getElem?_getD, hi'] using this

theorem empty_keys {L ks : List Nat} (h1 : ∀ κ, κ ∈ L ↔ ∃ k ∈ ks, ρ k = some κ) (h : ks.isEmpty = true) : L = [] := by
  have : ks = [] := by simpa using h
  subst this
  cases L with
  | nil => rfl
  | cons a l =>
    obtain ⟨k, hk, _⟩ := (h1 a).1 (by simp)
    cases hk

theorem exC_sound (hR : RY K0 fr ρ0 W2 base res ρ y s) {dr : Bool} {gd : List (Nat × Bool)} {an an' : List An} {o : AOper} {lv : LV} {y' : Y} {p : List Prop}
    (h : exC E K0 W2 res dr gd y an o.op = some (lv, y', p, an')) (hp : AllP p) {K : St → Prop} (hk : ∀ ρ' s', RY K0 fr ρ0 W2 base res ρ' ⟨putL2 o.dst y'.t lv, y'.h, y'.nw, y'.us⟩ s' → K s') (hw : wantA o.guard s.t = some true) :
    AW1 E dr base (Wof W2 ρ0) o K s := by
  unfold AW1
  rw [hw]
  simp only
  cases ho : o.op with
  | bslv j c zs n ps =>
    simp only [ho, exC] at h ⊢
    split at h
    · rename_i es hes
      obtain ⟨b1, b2, hlv, hy⟩ : zOk zs = true ∧ es.all (fun c => c.all kfF) = true ∧ (∃ n2 f2, lv = .d (.sv n2 f2) ∧ n2 = n ∧ ∀ i, i < n → toAL (f2 i) = toAL (es.getD i [])) ∧ y' = y := by
        split at h
        · obtain ⟨hb, h'⟩ := rok_some h
          simp only [Bool.and_eq_true, Nat.beq_eq] at hb
          obtain ⟨b1, b2, b3⟩ := hb
          simp only [Option.some.injEq, Prod.mk.injEq] at h'
          obtain ⟨rfl, rfl, rfl, rfl⟩ := h'
          exact ⟨b1, b2, ⟨_, _, rfl, b3, by rw [← b3]; exact fun i hi => (hp.1 i hi).trans (getD_mapL es i)⟩, rfl⟩
        · obtain ⟨hb, h'⟩ := rok_some h
          simp only [Bool.and_eq_true] at hb
          obtain ⟨b1, b2⟩ := hb
          simp only [Option.some.injEq, Prod.mk.injEq] at h'
          obtain ⟨rfl, rfl, rfl, rfl⟩ := h'
          exact ⟨b1, b2, ⟨_, _, rfl, rfl, fun _ _ => rfl⟩, rfl⟩
      obtain ⟨n2, f2, rfl, rfl, hf2⟩ := hlv
      subst hy
      clear h
      obtain ⟨r', q1, q2⟩ := fillF_sound hR.r.t zs.length ps (zR_sound b1 n2) hes
      have hlen : r'.length = n2 := by
        have key2 : ∀ (ps : List (Nat × AV)) (e0 r0 : List (List AV)), afillE zs.length e0 ps = some r0 → r0.length = e0.length := by
          intro ps
          induction ps with
          | nil => intro e0 r0 h; obtain rfl := Option.some.inj h; rfl
          | cons p ps ih =>
            intro e0 r0 h
            simp only [afillE] at h
            split at h
            · have := ih _ _ h; simpa using this
            · cases h
        have := key2 _ _ _ q1
        simpa using this
      have hall : ∀ i, i < es.length → (r'.getD i []).all kf0 = true ∧ (r'.getD i []).map nz = (es.getD i []).map toA := by
        intro i hi
        have c1 := q2.2 i hi
        have c2 : (es.getD i []).all kfF = true := by
          have := List.all_eq_true.1 b2 es[i] (List.getElem_mem hi)
          simpa [List.getD_eq_getElem?_getD, hi] using this
        have c3 : ∀ j, j < (es.getD i []).length → kf0 ((r'.getD i []).getD j .undef) = true ∧ nz ((r'.getD i []).getD j .undef) = toA ((es.getD i []).getD j .undef) := by
          intro j hj
          refine kfF_sound (c1.2 j hj) ?_
          have := List.all_eq_true.1 c2 (es.getD i [])[j] (List.getElem_mem hj)
          rw [List.getD_eq_getElem?_getD (l := es.getD i []), List.getElem?_eq_getElem hj]; exact this
        refine ⟨?_, ?_⟩
        · rw [List.all_eq_true]
          intro x hx
          obtain ⟨j, hj, rfl⟩ := List.getElem_of_mem hx
          have := (c3 j (by rw [← c1.1]; exact hj)).1
          rw [List.getD_eq_getElem?_getD (l := r'.getD i []), List.getElem?_eq_getElem hj] at this; exact this
        · apply List.ext_getElem
          · simp only [List.length_map]; exact c1.1
          · intro j h1 h2
            simp only [List.length_map] at h1 h2
            have := (c3 j h2).2
            rw [List.getD_eq_getElem?_getD (l := r'.getD i []), List.getElem?_eq_getElem h1, List.getD_eq_getElem?_getD (l := es.getD i []), List.getElem?_eq_getElem h2] at this
            simpa using this
      refine ⟨r', q1, ?_, hk ρ _ (hR.put (v := .d _) (.d _ _ ?_) o.dst)⟩
      · rw [List.all_eq_true]
        intro c hc
        obtain ⟨i, hi, rfl⟩ := List.getElem_of_mem hc
        have := (hall i (by rw [← q2.1]; exact hi)).1
        rw [List.getD_eq_getElem?_getD (l := r'), List.getElem?_eq_getElem hi] at this; exact this
      · have e : toA (.sv n2 f2) = .slv (r'.map fun c => c.map nz) := by
          simp only [toA, toAL_map, AV.slv.injEq]
          apply List.ext_getElem
          · simp [hlen]
          · intro i h1 h2
            simp only [List.length_map] at h2
            have := (hall i (by rw [← q2.1]; exact h2)).2
            rw [List.getD_eq_getElem?_getD (l := r'), List.getElem?_eq_getElem h2] at this
            simp only [List.getElem_map, List.getElem_range]
            rw [← toAL_map, hf2 i (by omega), toAL_map]
            exact this.symm
        rw [← e]; exact .c _ rfl
    · cases h
  | callp f args =>
    simp only [ho, exC] at h ⊢
    split at h
    · rename_i r an2
      split at h
      · rename_i vs c hm
        obtain ⟨hb, h'⟩ := rok_some h
        simp only [Bool.and_eq_true, Bool.or_eq_true, Bool.not_eq_true'] at hb
        simp only [Option.some.injEq, Prod.mk.injEq] at h'
        obtain ⟨rfl, rfl, rfl, rfl⟩ := h'
        obtain ⟨p1, p2, _⟩ := allP_append.1 hp
        obtain ⟨a1, a2, a3⟩ := args_sound hR (evLs hR args) hm p1
        refine ⟨_, toA r, a1, p2, fun hd => empty_keys a2 (by rcases hb.2 with h | h; (rw [hd] at h; cases h); exact h), hk ρ _ ((hR.mark a2 a3).put (v := .d _) (.d _ _ (cl_sound r hb.1)) o.dst)⟩
      · cases h
    · cases h
  | callv g args =>
    simp only [ho, exC] at h ⊢
    split at h
    · rename_i r an2 f caps hg
      split at h
      · rename_i vs c hm
        obtain ⟨hb, h'⟩ := rok_some h
        simp only [Bool.and_eq_true, Bool.or_eq_true, Bool.not_eq_true'] at hb
        simp only [Option.some.injEq, Prod.mk.injEq] at h'
        obtain ⟨rfl, rfl, rfl, rfl⟩ := h'
        obtain ⟨p1, p2, _⟩ := allP_append.1 hp
        have rg := evL_sound hR.r.t g
        obtain ⟨caps', e1, hr⟩ : ∃ caps', evX s.t g = .func f caps' ∧ RLs ρ caps caps' := by
          split at hg
          · rename_i hgg
            simp only [Option.some.injEq, Prod.mk.injEq] at hg
            obtain ⟨rfl, rfl⟩ := hg
            rw [hgg] at rg; exact rl_func rg
          · rename_i hgg
            simp only [Option.some.injEq, Prod.mk.injEq] at hg
            obtain ⟨rfl, rfl⟩ := hg
            rw [hgg] at rg
            obtain ⟨cs', q1, q2⟩ := rd_func (rl_d rg)
            exact ⟨cs', q1, PW.mapl LV.d q2 (fun a b h => .d _ _ h)⟩
          · cases hg
        obtain ⟨a1, a2, a3⟩ := args_sound hR ((evLs hR args).append hr) hm p1
        refine ⟨f, caps', _, toA r, e1, a1, p2, fun hd => empty_keys a2 (by rcases hb.2 with h | h; (rw [hd] at h; cases h); exact h), hk ρ _ ((hR.mark a2 a3).put (v := .d _) (.d _ _ (cl_sound r hb.1)) o.dst)⟩
      · cases h
    · cases h
  | calls f args =>
    simp only [ho, exC] at h ⊢
    split at h
    · rename_i hk' hn st lv2 H' an2
      split at h
      · rename_i H hH
        obtain ⟨hb, h'⟩ := rok_some h
        simp only [Bool.and_eq_true, Bool.not_eq_true'] at hb
        obtain ⟨b1, b2, b3⟩ := hb
        obtain rfl : W2 = [] := by simpa using b2
        simp only [Option.some.injEq, Prod.mk.injEq] at h'
        obtain ⟨rfl, rfl, rfl, rfl⟩ := h'
        obtain ⟨p1, p2, p3⟩ := pickH_spec hH
        have subS : ∀ k, (lkO H k).isSome = true → (lkO y.h k).isSome = true := by
          intro k e
          obtain ⟨o, ho⟩ := Option.isSome_iff_exists.1 e
          rw [(p2 k o ho).2]; rfl
        have ac := hp.1 ρ s.h s.n (args.map (evX s.t)) (fun k o ho => hR.r.o k o (p2 k o ho).2) (fun k k' κ a b => hR.r.inj k k' κ (subS k a) (subS k' b)) (fun k κ a => hR.r.lt k κ (subS k a)) (evLs hR args) hR.r.rows
        refine ⟨b1, _, ac, fun r h' n' e => ?_⟩
        obtain ⟨lv3, H3, ρ2, ⟨rfl, rfl⟩, q1, q2⟩ := calls_y hR hH b3 e
        exact hk ρ2 _ (q2.put q1 o.dst)
      · cases h
    · cases h
  | _ =>
    simp only [ho, exC] at h ⊢
    obtain ⟨av, h', ρ', q1, q2, q3, q4⟩ := ex_sound hR h hp
    exact ⟨av, h', q1, q2, hk ρ' _ (q4.put q3 o.dst)⟩

theorem gdRun_sound (hR : RY K0 fr ρ0 W2 base res ρ y s) {gd : List (Nat × Bool)} {g : Option (Nat × Nat × Bool)} {b : Bool} {c : List Prop} (h : gdRun gd y g = some (b, c)) (hc : AllP c) : wantA g s.t = some b := by
  unfold gdRun at h
  cases g with
  | none => simp only [Option.some.injEq, Prod.mk.injEq] at h; obtain ⟨rfl, rfl⟩ := h; rfl
  | some g =>
    obtain ⟨j, d, w⟩ := g
    simp only at h
    have r := hR.r.t d
    split at h
    · rename_i hd
      simp only [Option.some.injEq, Prod.mk.injEq] at h
      obtain ⟨rfl, rfl⟩ := h
      rw [hd] at r
      simp only [wantA, rl_hole r]
    · rename_i q hd
      rw [hd] at r
      have e := rd_bool (rl_d r)
      split at h
      · rename_i b' _
        simp only [Option.some.injEq, Prod.mk.injEq] at h
        obtain ⟨rfl, rfl⟩ := h
        obtain ⟨rfl, _⟩ := hc
        simp only [wantA, e]
      · simp only [Option.some.injEq, Prod.mk.injEq] at h
        obtain ⟨rfl, rfl⟩ := h
        simp only [wantA, e]
    · cases h

theorem y1_sound (hR : RY K0 fr ρ0 W2 base res ρ y s) {dr : Bool} {gd : List (Nat × Bool)} {an an' : List An} {o : AOper} {y' : Y} {p : List Prop}
    (h : y1 E K0 W2 res dr gd y an o = some (y', p, an')) (hp : AllP p) {K : St → Prop} (hk : ∀ ρ' s', RY K0 fr ρ0 W2 base res ρ' y' s' → K s') : AW1 E dr base (Wof W2 ρ0) o K s := by
  unfold y1 at h
  split at h
  · cases h
  · rename_i c hg
    simp only [Option.some.injEq, Prod.mk.injEq] at h
    obtain ⟨rfl, rfl, rfl⟩ := h
    unfold AW1
    rw [gdRun_sound hR hg hp]
    exact hk ρ _ (hR.put .hole o.dst)
  · rename_i c hg
    split at h
    · cases h
    · rename_i lv y2 c2 an2 he
      simp only [Option.some.injEq, Prod.mk.injEq] at h
      obtain ⟨rfl, rfl, rfl⟩ := h
      obtain ⟨p1, p2⟩ := allP_append.1 hp
      exact exC_sound hR he p2 hk (gdRun_sound hR hg p1)

theorem yL_sound {dr : Bool} {gd : List (Nat × Bool)} {K : St → Prop} : ∀ (ops : List AOper) (an : List An) {y y' : Y} {s : St} {ρ : Rho} {p : Prop}, RY K0 fr ρ0 W2 base res ρ y s →
    yL E K0 W2 res dr gd ops an y = some (y', p) → p → (∀ ρ' s', RY K0 fr ρ0 W2 base res ρ' y' s' → K s') → AWL E dr base (Wof W2 ρ0) ops K s
  | [], an, y, y', s, ρ, p, hR, h, hp, hk => by
    simp only [yL, Option.some.injEq, Prod.mk.injEq] at h
    obtain ⟨rfl, rfl⟩ := h
    exact hk ρ s hR
  | o :: r, an, y, y', s, ρ, p, hR, h, hp, hk => by
    simp only [yL] at h
    split at h
    · cases h
    · rename_i y2 c an2 h1
      split at h
      · rename_i y3 p2 h2
        simp only [Option.some.injEq, Prod.mk.injEq] at h
        obtain ⟨rfl, rfl⟩ := h
        obtain ⟨hc, hp2⟩ := andL_iff.1 hp
        exact y1_sound hR h1 hc fun ρ' s' hR' => yL_sound r an2 hR' h2 hp2 fun ρ'' s'' hR'' => hk ρ'' s'' hR''
      · cases h
end

/-- The rest of a region. -/
structure YW (E : Env) (K0 : List Nat) (fr : Frm) (W2 : W2L) (res : Nat) (dr : Bool) (live : List Nat) (ops : List AOper) (Q : S2 → Prop) (y : Y) : Prop where
  go : ∀ base ρ0 ρ s, RY K0 fr ρ0 W2 base res ρ y s → AWL E dr base (Wof W2 ρ0) ops (fun s' => ∃ s2' ρ', Q s2' ∧ Rep K0 fr ρ' s2'.t s2'.h ⟨prune live s'.t, s'.h, s'.n⟩) s

section
variable {E : Env} {nt : Nat} {K0 : List Nat} {fr : Frm} {W2 : W2L} {res : Nat} {dr : Bool} {live : List Nat} {ops : List AOper}

theorem AW2.reg (W2 : W2L) {Q : AExit → S2 → Prop} {s2 : S2} (hW : W2.all (fun c => (lkO s2.h c.1).isSome) = true) (h : YW E K0 fr W2 res dr live ops (Q .normal) ⟨s2.t, s2.h, [], []⟩) : AW2 E nt K0 fr (.reg res ops dr live) Q s2 :=
  ⟨fun s ρ r => AW.reg (Wof W2 ρ) (h.go s.n ρ ρ ⟨s.t, s.h, s.n + res⟩
    ⟨⟨r.t, r.o, r.inj, fun k κ a b => by have := r.lt k κ a b; simp only; omega, r.fm, r.dis, by have := r.n0; simp only; omega, r.an, r.rows⟩, r.n0, Nat.le_refl _, fun k κ a b => .inl (r.lt k κ a b), fun k κ a _ b => r.lt k κ a b,
      fun c hc => ⟨List.all_eq_true.1 hW c hc, rfl⟩⟩)⟩

theorem YW.step (gd : List (Nat × Bool)) (an : List An) {Q : S2 → Prop} {y y' : Y} {p : Prop} (h : yL E K0 W2 res dr gd ops an y = some (y', p)) (hp : p) (k : YW E K0 fr W2 res dr live [] Q y') :
    YW E K0 fr W2 res dr live ops Q y :=
  ⟨fun base ρ0 ρ s hR => yL_sound ops an hR h hp fun ρ' s' hR' => k.go base ρ0 ρ' s' hR'⟩
/-- Several ways through a region come to one state. -/
theorem YW.to (s2 : S2) {Q : S2 → Prop} {y : Y} (hq : Q s2) (h : YW E K0 fr W2 res dr live ops (fun s => s = s2) y) : YW E K0 fr W2 res dr live ops Q y :=
  ⟨fun base ρ0 ρ s hR => by
    have := h.go base ρ0 ρ s hR
    have mono : ∀ (ops : List AOper) (K K' : St → Prop) (s : St) {W : Nat → Nat → Nat → Prop}, (∀ s, K s → K' s) → AWL E dr base W ops K s → AWL E dr base W ops K' s := by
      intro ops
      induction ops with
      | nil => intro K K' s W hk h; exact hk s h
      | cons o r ih =>
        intro K K' s W hk h
        simp only [AWL] at h ⊢
        have ih' := fun s => ih K K' s (W := W) hk
        revert h ih'
        generalize AWL E dr base W r K = A
        generalize AWL E dr base W r K' = B
        intro h ih'
        unfold AW1 at h ⊢
        split at h
        · exact h
        · exact ih' _ h
        · split at h
          · obtain ⟨a, b, h1, h2, h3, h4⟩ := h; exact ⟨a, b, h1, h2, h3, ih' _ h4⟩
          · obtain ⟨a, b, c, d, h1, h2, h3, h4, h5⟩ := h; exact ⟨a, b, c, d, h1, h2, h3, h4, ih' _ h5⟩
          · obtain ⟨h1, R, h2, h3⟩ := h; exact ⟨h1, R, h2, fun a b c d => ih' _ (h3 a b c d)⟩
          · obtain ⟨a, h1, h2, h3⟩ := h; exact ⟨a, h1, h2, ih' _ h3⟩
          · obtain ⟨a, b, h1, h2, h3⟩ := h; exact ⟨a, b, h1, h2, ih' _ h3⟩
    refine mono ops _ _ s (fun s' ⟨s2', ρ', e, r⟩ => ?_) this
    subst e; exact ⟨_, ρ', hq, r⟩⟩
end
end Go.Proofs.YtablleokoifolaaGreatDoor

/- Level 2: ends of regions, functions, calls with memory. -/
set_option linter.unusedVariables false
set_option linter.unusedSimpArgs false
namespace Go.Proofs.YtablleokoifolaaGreatDoor
open Go

/-- Another word for a value: what that asks. -/
def notSv : FV → Bool
  | .sv _ _ => false
  | _ => true
def ovL : LV → LV → Option (List Prop)
  | .d (.sv n2 f2), .d (.sv n f) => some [n2 = n, ∀ i, i < n → f2 i = f i]
  | .d (.sv n2 _), .d .nils => some [n2 = 0]
  | .ls k2 lo2 n2, .ls k lo n => bif Nat.beq k2 k && Nat.beq lo2 lo then some [n2 = n] else none
  | .d v, .d u => bif isH v && (isH u && (notSv v && notSv u)) then some [toA v = toA u] else none
  | _, _ => none
theorem ovL_sound {ρ : Rho} {v u : LV} {a : AV} {c : List Prop} (r : RL ρ u a) (h : ovL v u = some c) (hc : AllP c) : RL ρ v a := by
  unfold ovL at h
  split at h
  · rename_i n2 f2 n f
    obtain rfl := Option.some.inj h
    obtain ⟨rfl, c2, _⟩ := hc
    refine .d _ _ ?_
    rcases rd_sv (rl_d r) with rfl | ⟨rfl, rfl⟩
    · have e : toA (.sv n2 f2) = .slv ((List.range n2).map fun i => (f i).map toA) := by
        simp only [toA, toAL_map, AV.slv.injEq]
        apply List.map_congr_left
        intro i hi
        rw [c2 i (List.mem_range.1 hi)]
      rw [← e]; exact .c _ rfl
    · exact .sv0 _
  · obtain rfl := Option.some.inj h
    obtain ⟨rfl, _⟩ := hc
    obtain rfl := rd_nils (rl_d r)
    exact .d _ _ (.sv0 _)
  · rw [Bool.cond_eq_ite] at h
    split at h
    · rename_i hb
      simp only [Bool.and_eq_true, Nat.beq_eq] at hb
      obtain ⟨rfl, rfl⟩ := hb
      obtain rfl := Option.some.inj h
      obtain ⟨rfl, _⟩ := hc
      exact r
    · cases h
  · rw [Bool.cond_eq_ite] at h
    split at h
    · rename_i hb
      simp only [Bool.and_eq_true] at hb
      obtain rfl := Option.some.inj h
      have rd := rl_d r
      refine .d _ _ ?_
      rename_i v u _ _
      have : a = toA u := by
        cases rd with
        | c _ _ => rfl
        | sv0 => simp [notSv] at hb
        | nils => simp [isH] at hb
        | func => simp [isH] at hb
        | iface => simp [isH] at hb
        | agg => simp [isH] at hb
        | tup => simp [isH] at hb
      rw [this, ← hc.1]
      exact .c _ hb.1
    · cases h
  · cases h

def lkV : List (Nat × LV) → Nat → Option LV
  | [], _ => none
  | (k, v) :: l, i => bif Nat.beq i k then some v else lkV l i

def prT (ov : List (Nat × LV)) (t : List (Nat × LV)) : List Nat → Option (List (Nat × LV) × List Prop)
  | [] => some ([], [])
  | i :: r => match prT ov t r with
    | none => none
    | some (l, c) => match lkV ov i with
      | none => some ((i, lkT t i) :: l, c)
      | some v => match ovL v (lkT t i) with
        | none => none
        | some c' => some ((i, v) :: l, c' ++ c)

/-- What is kept of an object: as it is; fewer elements, by other words; a struct with cells in other words. -/
inductive KA where
  | k (key : Nat)
  | sl (key n : Nat) (f : Nat → List FV)
  | st (key : Nat) (ov : List (Nat × LV))

def ovC (ov : List (Nat × LV)) : Nat → List LV → Option (List LV × List Prop)
  | _, [] => some ([], [])
  | i, u :: l => match ovC ov (i + 1) l with
    | none => none
    | some (r, c) => match lkV ov i with
      | none => some (u :: r, c)
      | some v => match ovL v u with
        | none => none
        | some c' => some (v :: r, c' ++ c)

def prH (h : List (Nat × Ob)) : List KA → Option (List (Nat × Ob) × List Prop)
  | [] => some ([], [])
  | a :: r => match prH h r with
    | none => none
    | some (l, c) => match a with
      | .k key => match lkO h key with
        | some o => some ((key, o) :: l, c)
        | none => none
      | .sl key n2 f2 => match lkO h key with
        | some (.sl ro esz n f) => some ((key, .sl ro esz n2 f2) :: l, [n2 ≤ n, ∀ i, i < n2 → f2 i = f i] ++ c)
        | _ => none
      | .st key ov => match lkO h key with
        | some (.st ro cs) => match ovC ov 0 cs with
          | some (cs', c') => some ((key, .st ro cs') :: l, c' ++ c)
          | none => none
        | _ => none

/-- The end of a region. -/
def prn (live tl : List Nat) (ov : List (Nat × LV)) (ks : List KA) (y : Y) : Option (S2 × Prop) :=
  bif tl.all (fun i => live.any (Nat.beq i)) then
    match prT ov y.t tl, prH y.h ks with
    | some (t, c), some (h, c') => some (⟨t, h⟩, AndL c (AndL c' True))
    | _, _ => none
  else none

theorem prT_sound {ρ : Rho} {ov t : List (Nat × LV)} {u : Nat → AV} (ht : ∀ i, RL ρ (lkT t i) (u i)) : ∀ (tl : List Nat) {t' : List (Nat × LV)} {c : List Prop}, prT ov t tl = some (t', c) → AllP c →
    ∀ i, (i ∈ tl ∧ RL ρ (lkT t' i) (u i)) ∨ lkT t' i = .undef
  | [], t', c, h, hc, i => by
    simp only [prT, Option.some.injEq, Prod.mk.injEq] at h
    obtain ⟨rfl, rfl⟩ := h
    exact .inr rfl
  | j :: r, t', c, h, hc, i => by
    simp only [prT] at h
    split at h
    · cases h
    · rename_i l c1 hr
      split at h
      · simp only [Option.some.injEq, Prod.mk.injEq] at h
        obtain ⟨rfl, rfl⟩ := h
        by_cases e : i = j
        · subst e
          left
          refine ⟨by simp, ?_⟩
          simp only [lkT, lk, beqT, cond_true]
          exact ht i
        · simp only [lkT, lk, beqF e, cond_false]
          rcases prT_sound ht r hr hc i with ⟨h1, h2⟩ | h
          · exact .inl ⟨by simp [h1], h2⟩
          · exact .inr h
      · split at h
        · cases h
        · rename_i v hv c' hov
          simp only [Option.some.injEq, Prod.mk.injEq] at h
          obtain ⟨rfl, rfl⟩ := h
          obtain ⟨c1, c2⟩ := allP_append.1 hc
          by_cases e : i = j
          · subst e
            left
            refine ⟨by simp, ?_⟩
            simp only [lkT, lk, beqT, cond_true]
            exact ovL_sound (ht i) hov c1
          · simp only [lkT, lk, beqF e, cond_false]
            rcases prT_sound ht r hr c2 i with ⟨h1, h2⟩ | h
            · exact .inl ⟨by simp [h1], h2⟩
            · exact .inr h

theorem ovC_sound {ρ : Rho} {ov : List (Nat × LV)} : ∀ (i : Nat) {cs cs2 : List LV} {c : List Prop} {cs' : List AV}, RLs ρ cs cs' → ovC ov i cs = some (cs2, c) → AllP c → RLs ρ cs2 cs' ∧ cs2.length = cs.length
  | i, [], cs2, c, cs', r, h, hc => by
    simp only [ovC, Option.some.injEq, Prod.mk.injEq] at h
    obtain ⟨rfl, rfl⟩ := h
    exact ⟨r, rfl⟩
  | i, u :: l, cs2, c, cs', r, h, hc => by
    obtain ⟨b, m', rfl, h1, h2⟩ := r.uncons
    simp only [ovC] at h
    split at h
    · cases h
    · rename_i r2 c1 hr
      split at h
      · simp only [Option.some.injEq, Prod.mk.injEq] at h
        obtain ⟨rfl, rfl⟩ := h
        obtain ⟨k1, k2⟩ := ovC_sound (i + 1) h2 hr hc
        exact ⟨.cons h1 k1, by simp [k2]⟩
      · split at h
        · cases h
        · rename_i v hv c' hov
          simp only [Option.some.injEq, Prod.mk.injEq] at h
          obtain ⟨rfl, rfl⟩ := h
          obtain ⟨c1, c2⟩ := allP_append.1 hc
          obtain ⟨k1, k2⟩ := ovC_sound (i + 1) h2 hr c2
          exact ⟨.cons (ovL_sound h1 hov c1) k1, by simp [k2]⟩

theorem prH_sound {ρ : Rho} {hp : Hp} {h : List (Nat × Ob)} (ho : ∀ k o, lkO h k = some o → RO ρ hp k o) : ∀ (ks : List KA) {h' : List (Nat × Ob)} {c : List Prop}, prH h ks = some (h', c) → AllP c →
    ∀ k o, lkO h' k = some o → RO ρ hp k o ∧ (lkO h k).isSome = true
  | [], h', c, hh, hc, k, o, hk => by
    simp only [prH, Option.some.injEq, Prod.mk.injEq] at hh
    obtain ⟨rfl, rfl⟩ := hh
    simp [lkO] at hk
  | a :: r, h', c, hh, hc, k, o, hk => by
    simp only [prH] at hh
    split at hh
    · cases hh
    · rename_i l c1 hr
      cases a with
      | k key =>
        simp only at hh
        split at hh
        · rename_i o1 ho1
          simp only [Option.some.injEq, Prod.mk.injEq] at hh
          obtain ⟨rfl, rfl⟩ := hh
          simp only [lkO] at hk
          by_cases e : k = key
          · subst e
            rw [beqT, cond_true] at hk
            obtain rfl := Option.some.inj hk
            exact ⟨ho k _ ho1, by rw [ho1]; rfl⟩
          · rw [beqF e, cond_false] at hk
            exact prH_sound ho r hr hc k o hk
        · cases hh
      | sl key n2 f2 =>
        simp only at hh
        split at hh
        · rename_i ro esz n f ho1
          simp only [Option.some.injEq, Prod.mk.injEq] at hh
          obtain ⟨rfl, rfl⟩ := hh
          obtain ⟨⟨c1, c2, _⟩, c3⟩ := allP_append.1 hc
          simp only [lkO] at hk
          by_cases e : k = key
          · subst e
            rw [beqT, cond_true] at hk
            obtain rfl := Option.some.inj hk
            refine ⟨?_, by rw [ho1]; rfl⟩
            rcases ho k _ ho1 with ⟨κ, es, g1, g2, g3, g4⟩ | ⟨g1, rfl⟩
            · exact .inl ⟨κ, es, g1, g2, by omega, fun i hi => by rw [c2 i hi]; exact g4 i (by omega)⟩
            · exact .inr ⟨g1, by omega⟩
          · rw [beqF e, cond_false] at hk
            exact prH_sound ho r hr c3 k o hk
        · cases hh
      | st key ov =>
        simp only at hh
        split at hh
        · rename_i ro cs ho1
          split at hh
          · rename_i cs2 c' hov
            simp only [Option.some.injEq, Prod.mk.injEq] at hh
            obtain ⟨rfl, rfl⟩ := hh
            obtain ⟨c2, c3⟩ := allP_append.1 hc
            simp only [lkO] at hk
            by_cases e : k = key
            · subst e
              rw [beqT, cond_true] at hk
              obtain rfl := Option.some.inj hk
              refine ⟨?_, by rw [ho1]; rfl⟩
              obtain ⟨κ, cs', g1, g2, g3⟩ := ho k _ ho1
              obtain ⟨k1, k2⟩ := ovC_sound 0 g3 hov c2
              exact ⟨κ, cs', g1, by rw [k2]; exact g2, k1⟩
            · rw [beqF e, cond_false] at hk
              exact prH_sound ho r hr c3 k o hk
          · cases hh
        · cases hh

theorem tm_mem {live : List Nat} {u : Nat → AV} {i : Nat} (h : i ∈ live) : prune live u i = u i := by
  unfold prune
  induction live with
  | nil => cases h
  | cons a l ih =>
    simp only [List.map_cons, tm]
    by_cases e : i = a
    · rw [if_pos e, e]
    · rw [if_neg e]
      exact ih (by rcases List.mem_cons.1 h with h | h; exact absurd h e; exact h)

section
variable {E : Env} {nt : Nat} {K0 : List Nat} {fr : Frm} {W2 : W2L} {res : Nat} {dr : Bool} {live : List Nat} {ops : List AOper}

theorem YW.done (tl : List Nat) (ov : List (Nat × LV)) (ks : List KA) {Q : S2 → Prop} {y : Y} {s2 : S2} {p : Prop} (h : prn live tl ov ks y = some (s2, p)) (hp : p) (hq : Q s2) : YW E K0 fr W2 res dr live [] Q y :=
  ⟨fun base ρ0 ρ s hR => by
    unfold prn at h
    rw [Bool.cond_eq_ite] at h
    split at h
    · rename_i hb
      split at h
      · rename_i t c h' c' ht hh
        simp only [Option.some.injEq, Prod.mk.injEq] at h
        obtain ⟨rfl, rfl⟩ := h
        obtain ⟨p1, p2⟩ := andL_iff.1 hp
        have p3 := (andL_iff.1 p2).1
        refine ⟨⟨t, h'⟩, ρ, hq, ⟨fun i => ?_, fun k o ho => (prH_sound hR.r.o ks hh p3 k o ho).1, fun k k' κ a b => hR.r.inj k k' κ ?_ ?_, fun k κ a => hR.r.lt k κ ?_, hR.r.fm, fun k κ a => hR.r.dis k κ ?_, hR.r.n0, hR.r.an, hR.r.rows⟩⟩
        · rcases prT_sound hR.r.t tl ht p1 i with ⟨h1, h2⟩ | h
          · have : i ∈ live := any_beq.1 (List.all_eq_true.1 hb i h1)
            simp only [tm_mem this]; exact h2
          · simp only [h]; exact .undef _
        all_goals
          first
          | (obtain ⟨o, ho⟩ := Option.isSome_iff_exists.1 a; exact (prH_sound hR.r.o ks hh p3 _ o ho).2)
          | (obtain ⟨o, ho⟩ := Option.isSome_iff_exists.1 b; exact (prH_sound hR.r.o ks hh p3 _ o ho).2)
      · cases h
    · cases h⟩

/-- A region's rest, all at once. -/
def yR (E : Env) (K0 : List Nat) (W2 : W2L) (res : Nat) (dr : Bool) (gd : List (Nat × Bool)) (ops : List AOper) (an : List An) (live tl : List Nat) (ov : List (Nat × LV)) (ks : List KA) (y : Y) : Option (S2 × Prop) :=
  match yL E K0 W2 res dr gd ops an y with
  | none => none
  | some (y', p) => match prn live tl ov ks y' with
    | none => none
    | some (s, q) => some (s, p ∧ q)
theorem YW.fin (gd : List (Nat × Bool)) (an : List An) (tl : List Nat) (ov : List (Nat × LV)) (ks : List KA) {Q : S2 → Prop} {y : Y} (s2 : S2) {p : Prop} (hp : p) (h : yR E K0 W2 res dr gd ops an live tl ov ks y = some (s2, p)) (hq : Q s2) :
    YW E K0 fr W2 res dr live ops Q y := by
  unfold yR at h
  split at h
  · cases h
  · rename_i y' p' hy
    split at h
    · cases h
    · rename_i s q hs
      simp only [Option.some.injEq, Prod.mk.injEq] at h
      obtain ⟨rfl, rfl⟩ := h
      exact YW.step gd an hy hp.1 (YW.done tl ov ks hs hp.2 hq)
/-- A region without more ado. -/
theorem AW2.rg (an : List An) (tl : List Nat) (ov : List (Nat × LV)) (ks : List KA) {Q : AExit → S2 → Prop} {s : S2} (s2 : S2) {p : Prop} (hp : p) (h : yR E K0 [] res dr [] ops an live tl ov ks ⟨s.t, s.h, [], []⟩ = some (s2, p)) (hq : Q .normal s2) :
    AW2 E nt K0 fr (.reg res ops dr live) Q s := AW2.reg [] rfl (YW.fin [] an tl ov ks s2 hp h hq)

end

/-! ### Other words for a state -/
theorem Rep.newNil {K0 : List Nat} {fr : Frm} {ρ : Rho} {t : List (Nat × LV)} {h : List (Nat × Ob)} {s : St} (r : Rep K0 fr ρ t h s) {key esz : Nat} {f : Nat → List FV} (hk : K0.contains key = false) :
    Rep K0 fr (updR ρ key none) (scrT key t) ((key, .sl false esz 0 f) :: scrH key h) s := by
  have oldS : ∀ k', k' ≠ key → (lkO ((key, Ob.sl false esz 0 f) :: scrH key h) k').isSome = true → (lkO h k').isSome = true := by
    intro k' hne hs
    simp only [lkO, beqF hne, cond_false, scrH_lk, if_neg hne] at hs
    simpa using hs
  have old : ∀ k', k' ≠ key → (lkO ((key, Ob.sl false esz 0 f) :: scrH key h) k') = (lkO h k').map (scrO key) := by
    intro k' hne
    simp only [lkO, beqF hne, cond_false, scrH_lk, if_neg hne]
  refine ⟨fun j => ?_, fun k' o' ho' => ?_, fun a b κ h1 h2 e1 e2 => ?_, fun k' κ hs e => ?_, r.fm, fun k' κ hs e => ?_, r.n0, fun k' hk' => ?_, r.rows⟩
  · rw [scrT_lk]; exact scr_sound (r.t j)
  · by_cases hne : k' = key
    · subst hne
      simp only [lkO, beqT, cond_true, Option.some.injEq] at ho'
      subst ho'; exact .inr ⟨updR_same _ _ _, rfl⟩
    · rw [old k' hne] at ho'
      obtain ⟨o1, ho1, rfl⟩ := Option.map_eq_some_iff.1 ho'
      exact (r.o k' o1 ho1).other hne (fun κ hκ => rfl)
  · by_cases n1 : a = key
    · subst n1; rw [updR_same] at e1; cases e1
    · by_cases n2 : b = key
      · subst n2; rw [updR_same] at e2; cases e2
      · rw [updR_ne _ _ n1] at e1
        rw [updR_ne _ _ n2] at e2
        exact r.inj a b κ (oldS a n1 h1) (oldS b n2 h2) e1 e2
  · by_cases n1 : k' = key
    · subst n1; rw [updR_same] at e; cases e
    · rw [updR_ne _ _ n1] at e; exact r.lt k' κ (oldS k' n1 hs) e
  · by_cases n1 : k' = key
    · subst n1; rw [updR_same] at e; cases e
    · rw [updR_ne _ _ n1] at e; exact r.dis k' κ (oldS k' n1 hs) e
  · have hne : k' ≠ key := by
      rintro rfl
      rw [List.contains_eq_mem] at hk
      simp [hk'] at hk
    rw [updR_ne _ _ hne]; exact r.an k' hk'

/-- A nil slice, in a slot or in a struct's cell, is told as an object of its own, without elements. -/
inductive Ad where
  | s (i key esz : Nat) (f : Nat → List FV)
  | c (k idx key esz : Nat) (f : Nat → List FV)
def isNl : LV → Bool
  | .d .nils => true
  | _ => false
def setAt {α : Type} : List α → Nat → α → List α
  | [], _, _ => []
  | _ :: l, 0, x => x :: l
  | a :: l, n + 1, x => a :: setAt l n x
theorem setAt_pw {ρ : Rho} {v : LV} : ∀ {cs : List LV} {cs' : List AV} {i : Nat}, RLs ρ cs cs' → RL ρ v (cs'.getD i .undef) → RLs ρ (setAt cs i v) cs'
  | [], cs', i, r, h => r
  | c :: cs, cs', i, r, h => by
    obtain ⟨b, m', rfl, h1, h2⟩ := r.uncons
    cases i with
    | zero => exact .cons h h2
    | succ i => exact .cons h1 (setAt_pw h2 (by simpa using h))
theorem setAt_len {α : Type} (x : α) : ∀ (l : List α) (i : Nat), (setAt l i x).length = l.length
  | [], i => rfl
  | a :: l, 0 => rfl
  | a :: l, i + 1 => by simp [setAt, setAt_len x l i]
def adS (K0 : List Nat) : Ad → S2 → Option S2
  | .s i key esz f, s => bif !K0.contains key && isNl (lkT s.t i) then some ⟨(i, .ls key 0 0) :: scrT key s.t, (key, .sl false esz 0 f) :: scrH key s.h⟩ else none
  | .c k idx key esz f, s => match lkO s.h k with
    | some (.st ro cs) => bif !K0.contains key && (!Nat.beq k key && (Nat.blt idx cs.length && isNl (cs.getD idx .undef))) then
        some ⟨scrT key s.t, setH k (.st ro (setAt (scrL key cs) idx (.ls key 0 0))) ((key, .sl false esz 0 f) :: scrH key s.h)⟩ else none
    | _ => none
theorem isNl_eq {v : LV} (h : isNl v = true) : v = .d .nils := by
  unfold isNl at h
  split at h
  · rfl
  · cases h
theorem adS_sound {K0 : List Nat} {fr : Frm} {ρ : Rho} {s2 s2' : S2} {s : St} (r : Rep K0 fr ρ s2.t s2.h s) {a : Ad} (h : adS K0 a s2 = some s2') : ∃ ρ', Rep K0 fr ρ' s2'.t s2'.h s := by
  cases a with
  | s i key esz f =>
    simp only [adS] at h
    rw [Bool.cond_eq_ite] at h
    split at h
    · rename_i hb
      simp only [Bool.and_eq_true, Bool.not_eq_true'] at hb
      obtain rfl := Option.some.inj h
      have r' := r.newNil (key := key) (esz := esz) (f := f) hb.1
      refine ⟨_, ⟨fun j => ?_, r'.o, r'.inj, r'.lt, r'.fm, r'.dis, r'.n0, r'.an, r'.rows⟩⟩
      simp only [lkT, lk]
      by_cases e : j = i
      · subst e
        have hr := r.t j
        rw [isNl_eq hb.2] at hr
        rw [beqT, cond_true, rd_nils (rl_d hr)]; exact .ls0 _ _ (updR_same _ _ _)
      · rw [beqF e, cond_false]; exact r'.t j
    · cases h
  | c k idx key esz f =>
    simp only [adS] at h
    split at h
    · rename_i ro cs ho
      rw [Bool.cond_eq_ite] at h
      split at h
      · rename_i hb
        simp only [Bool.and_eq_true, Bool.not_eq_true', blt_iff] at hb
        obtain ⟨b1, b2, b3, b4⟩ := hb
        obtain rfl := Option.some.inj h
        have r' := r.newNil (key := key) (esz := esz) (f := f) b1
        have hne : k ≠ key := by
          rintro rfl
          rw [beqT] at b2; cases b2
        obtain ⟨κ, cs', g1, g2, g3⟩ := r.o k _ ho
        have hk : lkO ((key, Ob.sl false esz 0 f) :: scrH key s2.h) k = some (.st ro (scrL key cs)) := by
          simp only [lkO, beqF hne, cond_false, scrH_lk, if_neg hne, ho]; rfl
        have := r'.set (k := k) (κ := κ) (o' := .st ro (setAt (scrL key cs) idx (.ls key 0 0))) (h' := s.h) (by rw [hk]; rfl) (by rw [updR_ne _ _ hne]; exact g1) (fun _ _ => rfl) ?_ r.rows
        · exact ⟨_, this⟩
        · refine ⟨κ, cs', by rw [updR_ne _ _ hne]; exact g1, ?_, setAt_pw (scrL_sound g3) ?_⟩
          · rw [setAt_len, scrL_map, List.length_map]; exact g2
          · have hr := g3.2 idx b3
            rw [isNl_eq b4] at hr
            rw [rd_nils (rl_d hr)]; exact .ls0 _ _ (updR_same _ _ _)
      · cases h
    · cases h

/-- A state in other words. -/
def cvS (tl : List Nat) (ov : List (Nat × LV)) (ks : List KA) (s : S2) : Option (S2 × Prop) :=
  match prT ov s.t tl, prH s.h ks with
  | some (t, c), some (h, c') => some (⟨t, h⟩, AndL c (AndL c' True))
  | _, _ => none
def adsS (K0 : List Nat) : List Ad → S2 → Option S2
  | [], s => some s
  | a :: l, s => match adS K0 a s with
    | some s' => adsS K0 l s'
    | none => none
theorem adsS_sound {K0 : List Nat} {fr : Frm} : ∀ {l : List Ad} {ρ : Rho} {s2 s2' : S2} {s : St}, Rep K0 fr ρ s2.t s2.h s → adsS K0 l s2 = some s2' → ∃ ρ', Rep K0 fr ρ' s2'.t s2'.h s
  | [], ρ, s2, s2', s, r, h => by obtain rfl := Option.some.inj h; exact ⟨ρ, r⟩
  | a :: l, ρ, s2, s2', s, r, h => by
    simp only [adsS] at h
    split at h
    · rename_i s3 h3
      obtain ⟨ρ', r'⟩ := adS_sound r h3
      exact adsS_sound r' h
    · cases h
def cvA (K0 : List Nat) (ads : List Ad) (tl : List Nat) (ov : List (Nat × LV)) (ks : List KA) (s : S2) : Option (S2 × Prop) :=
  match adsS K0 ads s with
  | some s' => cvS tl ov ks s'
  | none => none
theorem AW2.cv {E : Env} {nt : Nat} {K0 : List Nat} {fr : Frm} {c : ACode} {Q : AExit → S2 → Prop} {s : S2} (ads : List Ad) (tl : List Nat) (ov : List (Nat × LV)) (ks : List KA) (s2 : S2) {p : Prop} (hp : p)
    (h : cvA K0 ads tl ov ks s = some (s2, p)) (k : AW2 E nt K0 fr c Q s2) : AW2 E nt K0 fr c Q s :=
  ⟨fun s' ρ r => by
    unfold cvA at h
    split at h
    · rename_i s3 h3
      obtain ⟨ρ', r'⟩ := adsS_sound r h3
      unfold cvS at h
      split at h
      · rename_i t c h' c' ht hh
        simp only [Option.some.injEq, Prod.mk.injEq] at h
        obtain ⟨rfl, rfl⟩ := h
        obtain ⟨p1, p2⟩ := andL_iff.1 hp
        have p3 := (andL_iff.1 p2).1
        have iss : ∀ k, (lkO h' k).isSome = true → (lkO s3.h k).isSome = true := fun k a => by
          obtain ⟨o, ho⟩ := Option.isSome_iff_exists.1 a
          exact (prH_sound r'.o ks hh p3 _ o ho).2
        refine k.go s' ρ' ⟨fun i => ?_, fun k o ho => (prH_sound r'.o ks hh p3 k o ho).1, fun k k' κ a b => r'.inj k k' κ (iss k a) (iss k' b), fun k κ a => r'.lt k κ (iss k a), r'.fm, fun k κ a => r'.dis k κ (iss k a), r'.n0, r'.an, r'.rows⟩
        rcases prT_sound r'.t tl ht p1 i with ⟨h1, h2⟩ | h
        · exact h2
        · simp only [h]; exact .undef _
      · cases h
    · cases h⟩

/-! ### Functions -/
def argI : Nat → List LV → List (Nat × LV)
  | _, [] => []
  | i, a :: l => (i, a) :: argI (i + 1) l
theorem argI_sound {ρ : Rho} {ls : List LV} {asx : List AV} (h : RLs ρ ls asx) : ∀ i, RL ρ (lkT (argI 0 ls) i) (argT asx i) := by
  have key : ∀ (l : List LV) (j i : Nat), lkT (argI j l) i = if j ≤ i then l.getD (i - j) .undef else .undef := by
    intro l
    induction l with
    | nil => intro j i; simp [argI, lkT, lk]
    | cons a l ih =>
      intro j i
      simp only [argI, lkT, lk]
      by_cases e : i = j
      · subst e; rw [beqT]; simp
      · rw [beqF e, cond_false]
        have := ih (j + 1) i
        simp only [lkT] at this
        rw [this]
        by_cases h : j ≤ i
        · rw [if_pos h, if_pos (by omega), show i - j = (i - (j + 1)) + 1 by omega]; rfl
        · rw [if_neg h, if_neg (by omega)]
  intro i
  rw [key, if_pos (Nat.zero_le _), Nat.sub_zero, argT]
  by_cases hi : i < ls.length
  · exact h.2 i hi
  · have : ls.getD i .undef = .undef := by simp [List.getD_eq_getElem?_getD, List.getElem?_eq_none (Nat.le_of_not_lt hi)]
    rw [this]; exact .undef _

def resV2 (s : S2) : ARes → Option LV
  | .t i => some (lkT s.t i)
  | .cell i _ ag n => match lkT s.t i with
    | .p k o => match lkO s.h k with
      | some (.st _ cs) => bif Nat.ble n (cs.drop o).length then mkL ag ((cs.drop o).take n) else none
      | _ => none
    | _ => none
def resM (s : S2) : List ARes → Option (List LV)
  | [] => some []
  | r :: l => match resV2 s r with
    | none => none
    | some v => match resM s l with
      | none => none
      | some vs => some (v :: vs)
def resL2 (s : S2) : List ARes → Option LV
  | [r] => resV2 s r
  | rs => (resM s rs).map .tup

theorem resV2_sound {K0 : List Nat} {fr : Frm} {ρ : Rho} {s2 : S2} {s : St} (r : Rep K0 fr ρ s2.t s2.h s) {x : ARes} {lv : LV} (h : resV2 s2 x = some lv) : ∃ a, resV s.h s.t x = some a ∧ RL ρ lv a := by
  cases x with
  | t i => obtain rfl := Option.some.inj h; exact ⟨_, rfl, r.t i⟩
  | cell i c ag n =>
    simp only [resV2] at h
    have ri := r.t i
    split at h
    · rename_i k o hi
      split at h
      · rename_i ro cs ho
        rw [Bool.cond_eq_ite] at h
        split at h
        · rename_i hb
          rw [Nat.ble_eq] at hb
          rw [hi] at ri
          obtain ⟨κ, hρ, e⟩ := rl_p ri
          obtain ⟨κ', cs', g1, g2, g3⟩ := r.o k _ ho
          obtain rfl : κ' = κ := by rw [hρ] at g1; exact (Option.some.inj g1).symm
          obtain ⟨av, q1, q2⟩ := mkL_sound ((g3.drop o).take n) h
          refine ⟨av, ?_, q2⟩
          have hlen : n ≤ (cs'.drop o).length := by rw [(g3.drop o).1]; exact hb
          simp only [resV, e, aload, pcells, g2, List.length_singleton, Nat.zero_lt_one, if_true, List.getD_cons_zero]
          rw [if_pos hlen, q1]
        · cases h
      · cases h
    · cases h
theorem resM_sound {K0 : List Nat} {fr : Frm} {ρ : Rho} {s2 : S2} {s : St} (r : Rep K0 fr ρ s2.t s2.h s) : ∀ {xs : List ARes} {ls : List LV}, resM s2 xs = some ls → ∃ asx, xs.mapM (resV s.h s.t) = some asx ∧ RLs ρ ls asx
  | [], ls, h => by obtain rfl := Option.some.inj h; exact ⟨[], rfl, .nil⟩
  | x :: xs, ls, h => by
    simp only [resM] at h
    split at h
    · cases h
    · rename_i v hv
      split at h
      · cases h
      · rename_i vs hvs
        obtain rfl := Option.some.inj h
        obtain ⟨a, q1, q2⟩ := resV2_sound r hv
        obtain ⟨asx, q3, q4⟩ := resM_sound r hvs
        exact ⟨a :: asx, by simp [List.mapM_cons, q1, q3], .cons q2 q4⟩
theorem resL2_sound {K0 : List Nat} {fr : Frm} {ρ : Rho} {s2 : S2} {s : St} (r : Rep K0 fr ρ s2.t s2.h s) {xs : List ARes} {lv : LV} (h : resL2 s2 xs = some lv) : ∃ a, resL s.h s.t xs = some a ∧ RL ρ lv a := by
  unfold resL2 at h
  split at h
  · exact resV2_sound r h
  · rename_i hne
    obtain ⟨ls, hls, rfl⟩ := Option.map_eq_some_iff.1 h
    obtain ⟨asx, q1, q2⟩ := resM_sound r hls
    refine ⟨.tup asx, ?_, .tup _ _ q2.1 q2.2⟩
    unfold resL
    split
    · exact absurd rfl (hne _)
    · rw [q1]; rfl

/-- What a function gives, as frozen data. -/
def rtF (s : S2) (xs : List ARes) : Option (AV × Prop) := match resL2 s xs with
  | none => none
  | some lv => match fz s.h 20 lv with
    | none => none
    | some (v, c) => some (toA v, AndL c True)
def retP (r : FV) (xs : List ARes) : AExit → S2 → Prop
  | .exit _, _ => False
  | _, s => ∃ p, rtF s xs = some (toA r, p) ∧ p
theorem retP_mk {r : FV} {xs : List ARes} {s : S2} {p : Prop} (h : rtF s xs = some (toA r, p)) (hp : p) : retP r xs .ret s := ⟨p, h, hp⟩
theorem retP_mkn {r : FV} {xs : List ARes} {s : S2} {p : Prop} (h : rtF s xs = some (toA r, p)) (hp : p) : retP r xs .normal s := ⟨p, h, hp⟩

/-- A pure contract, out of the code. -/
theorem cf_of {E : Env} {f : Nat} {A : AFun} {vs : List FV} {r : FV} (hf : Fn E f A vs.length) (hcl : clL vs = true) (hA : ∀ fr, AW2 E A.nt [] fr A.code (retP r A.res) ⟨argI 0 (vs.map .d), []⟩) : CF E f vs r := by
  refine callp_of (by simpa using hf) ?_
  have rs : RLs (fun _ => none) (vs.map .d) (vs.map toA) := by
    have := clL_sound vs hcl
    rw [toAL_map] at this
    exact PW.mapl LV.d this (fun a b h => .d _ _ h)
  have r0 : Rep [] ⟨fun _ => False, fun _ => none, 0, fun _ => none⟩ (fun _ => none) (argI 0 (vs.map .d)) [] ⟨argT (vs.map toA), fun _ => none, 0⟩ :=
    ⟨argI_sound rs, fun k o h => (by cases h), fun k k' κ h => (by cases h), fun k κ h => (by cases h), fun κ h => h.elim, fun k κ h => (by cases h), Nat.le_refl _, fun k h => (by cases h), fun _ _ h => (by cases h)⟩
  refine ((hA ⟨fun _ => False, fun _ => none, 0, fun _ => none⟩).go _ _ r0).mono fun e s' ⟨s2', ρ', h1, h2⟩ => ?_
  have fin : (∃ p, rtF s2' A.res = some (toA r, p) ∧ p) → ∃ r', resL s'.h s'.t A.res = some r' ∧ frz s'.h FZ r' = some (toA r) := by
    rintro ⟨p, hp1, hp2⟩
    unfold rtF at hp1
    split at hp1
    · cases hp1
    · rename_i lv hlv
      split at hp1
      · cases hp1
      · rename_i v c hv
        simp only [Option.some.injEq, Prod.mk.injEq] at hp1
        obtain ⟨e1, rfl⟩ := hp1
        obtain ⟨a, q1, q2⟩ := resL2_sound h2 hlv
        have := (fz_sound h2.o 20 FZ (by decide) q2 hv (andL_iff.1 hp2).1).1
        exact ⟨a, q1, by rw [this, e1]⟩
  cases e with
  | normal => exact fin h1
  | ret => exact fin h1
  | exit i => exact h1.elim
end Go.Proofs.YtablleokoifolaaGreatDoor

/- Level 2: functions with memory; words for typed data. -/
set_option linter.unusedVariables false
set_option linter.unusedSimpArgs false
namespace Go.Proofs.YtablleokoifolaaGreatDoor
open Go

/-- A result in other words. -/
def resC (ov : List (Nat × LV)) : LV → Option (LV × List Prop)
  | .agg cs => match ovC ov 0 cs with | some (cs', c) => some (.agg cs', c) | none => none
  | .d (.agg cs) => match ovC ov 0 (cs.map .d) with | some (cs', c) => some (.agg cs', c) | none => none
  | v => match lkV ov 0 with
    | none => some (v, [])
    | some w => match ovL w v with
      | some c => some (w, c)
      | none => none
theorem resC_sound {ρ : Rho} {ov : List (Nat × LV)} {v w : LV} {c : List Prop} {a : AV} (r : RL ρ v a) (h : resC ov v = some (w, c)) (hc : AllP c) : RL ρ w a := by
  unfold resC at h
  split at h
  · split at h
    · rename_i cs' c' hov
      simp only [Option.some.injEq, Prod.mk.injEq] at h
      obtain ⟨rfl, rfl⟩ := h
      obtain ⟨asx, rfl, hr⟩ := rl_agg r
      have := (ovC_sound 0 hr hov hc).1
      exact .agg _ _ this.1 this.2
    · cases h
  · split at h
    · rename_i cs' c' hov
      simp only [Option.some.injEq, Prod.mk.injEq] at h
      obtain ⟨rfl, rfl⟩ := h
      obtain ⟨asx, rfl, hr⟩ := rd_agg (rl_d r)
      have := (ovC_sound 0 (PW.mapl (R' := RL ρ) (d' := .undef) LV.d hr (fun a b h => .d _ _ h)) hov hc).1
      exact .agg _ _ this.1 this.2
    · cases h
  · split at h
    · simp only [Option.some.injEq, Prod.mk.injEq] at h
      obtain ⟨rfl, rfl⟩ := h
      exact r
    · split at h
      · rename_i w' _ c' hov
        simp only [Option.some.injEq, Prod.mk.injEq] at h
        obtain ⟨rfl, rfl⟩ := h
        exact ovL_sound r hov hc
      · cases h
def rtS (s : S2) (xs : List ARes) (ov : List (Nat × LV)) (kas : List KA) : Option (LV × List (Nat × Ob) × Prop) := match resL2 s xs with
  | none => none
  | some lv => match resC ov lv, prH s.h kas with
    | some (lv', c), some (H', c') => some (lv', H', AndL c (AndL c' True))
    | _, _ => none
def retS (ks : List Nat) (R : LV → List (Nat × Ob) → Prop) (xs : List ARes) : AExit → S2 → Prop
  | .exit _, _ => False
  | _, s => ∃ ov kas lv H' p, rtS s xs ov kas = some (lv, H', p) ∧ p ∧ R lv H' ∧ inK ks lv = true ∧ inKH ks H' = true
theorem retS_mk3 {ks : List Nat} {lv : LV} {H' : List (Nat × Ob)} {xs : List ARes} {s : S2} (ov : List (Nat × LV)) (kas : List KA) {p : Prop} (hp : p) (h : rtS s xs ov kas = some (lv, H', p)) (h2 : (inK ks lv && inKH ks H') = true) :
    retS ks (fun a b => a = lv ∧ b = H') xs .ret s := by
  simp only [Bool.and_eq_true] at h2
  exact ⟨ov, kas, lv, H', p, h, hp, ⟨rfl, rfl⟩, h2.1, h2.2⟩
theorem retS_mkn3 {ks : List Nat} {lv : LV} {H' : List (Nat × Ob)} {xs : List ARes} {s : S2} (ov : List (Nat × LV)) (kas : List KA) {p : Prop} (hp : p) (h : rtS s xs ov kas = some (lv, H', p)) (h2 : (inK ks lv && inKH ks H') = true) :
    retS ks (fun a b => a = lv ∧ b = H') xs .normal s := by
  simp only [Bool.and_eq_true] at h2
  exact ⟨ov, kas, lv, H', p, h, hp, ⟨rfl, rfl⟩, h2.1, h2.2⟩

/-- A contract with memory, out of the code. -/
theorem cs_of {E : Env} {f : Nat} {A : AFun} {args : List LV} {H : List (Nat × Ob)} {hn st : List Nat} {R : LV → List (Nat × Ob) → Prop} (hf : Fn E f A args.length)
    (hA : ∀ fr, AW2 E A.nt st fr A.code (retS (H.map (·.1) ++ hn) R A.res) ⟨argI 0 args, H⟩) : CM E f args H hn st R := by
  intro ρ h n asx ho hinj hlt hr hrw
  refine calls_of (by rw [hr.1]; exact hf) ?_
  have r0 : Rep st ⟨fun κ => κ < n ∧ ∀ k, (lkO H k).isSome = true → ρ k ≠ some κ, h, n, ρ⟩ ρ (argI 0 args) H ⟨argT asx, h, n⟩ :=
    ⟨argI_sound hr, ho, hinj, hlt, fun κ hd => ⟨hd.1, rfl⟩, fun k κ hs e hd => hd.2 k hs e, Nat.le_refl _, fun k _ => rfl, hrw⟩
  refine ((hA _).go _ _ r0).mono fun e s' ⟨s2', ρ', h1, h2⟩ => ?_
  have fin : (∃ ov kas lv H' p, rtS s2' A.res ov kas = some (lv, H', p) ∧ p ∧ R lv H' ∧ inK (H.map (·.1) ++ hn) lv = true ∧ inKH (H.map (·.1) ++ hn) H' = true) → ∃ r', resL s'.h s'.t A.res = some r' ∧ CSEnd H hn st ρ h n R r' s'.h s'.n := by
    rintro ⟨ov, kas, lv, H', p, q1, hp, q2, q3, q4⟩
    unfold rtS at q1
    split at q1
    · cases q1
    · rename_i lv0 hlv
      split at q1
      · rename_i lv1 c H1 c' hc1 hc2
        simp only [Option.some.injEq, Prod.mk.injEq] at q1
        obtain ⟨rfl, rfl, rfl⟩ := q1
        obtain ⟨p1, p2⟩ := andL_iff.1 hp
        have p3 := (andL_iff.1 p2).1
        have hH := fun k o ho => prH_sound h2.o kas hc2 p3 k o ho
        have iss : ∀ k, (lkO H1 k).isSome = true → (lkO s2'.h k).isSome = true := fun k a => by
          obtain ⟨o, ho⟩ := Option.isSome_iff_exists.1 a
          exact (hH k o ho).2
        obtain ⟨a, q5, q6⟩ := resL2_sound h2 hlv
        refine ⟨a, q5, ⟨⟨lv1, H1, ρ', q2, q3, q4, resC_sound q6 hc1 p1, fun k o ho => (hH k o ho).1, fun k k' κ a b => h2.inj k k' κ (iss k a) (iss k' b), fun k κ a => h2.lt k κ (iss k a), fun k κ hs e => ?_, h2.an⟩, fun κ k1 k2 => (h2.fm κ ⟨k1, k2⟩).2, h2.n0, h2.rows⟩⟩
        have := h2.dis k κ (iss k hs) e
        by_cases hκ : κ < n
        · left
          apply Classical.byContradiction
          intro hne
          exact this ⟨hκ, fun k0 a b => hne ⟨k0, a, b⟩⟩
        · exact .inr (by omega)
      · cases q1
  cases e with
  | normal => exact fin h1
  | ret => exact fin h1
  | exit i => exact h1.elim

/-! ### Typed data -/
def fl {α : Type} [Inhabited α] (enc : α → List FV) (l : List α) (i : Nat) : List FV := enc (l.getD i default)
def sV {α : Type} [Inhabited α] (enc : α → List FV) (l : List α) : FV := .sv l.length (fl enc l)
/-- Steps of functions. -/
def gd {α : Type} (p : Prop) [Decidable p] (e : Option α) : Option α := if p then e else none
theorem gd_some {α : Type} {p : Prop} [Decidable p] {e : Option α} {r : α} (h : gd p e = some r) : p ∧ e = some r := by
  unfold gd at h
  split at h
  · exact ⟨‹_›, h⟩
  · cases h
theorem bind_some {α β : Type} {a : Option α} {f : α → Option β} {r : β} (h : a.bind f = some r) : ∃ x, a = some x ∧ f x = some r := by
  cases a with
  | none => cases h
  | some x => exact ⟨x, rfl, h⟩
theorem ite_t {α : Type} {c : Bool} {a b r : Option α} (h : (if c = true then a else b) = r) (hc : c = true) : a = r := by rw [if_pos hc] at h; exact h
theorem ite_f {α : Type} {c : Bool} {a b r : Option α} (h : (if c = true then a else b) = r) (hc : c = false) : b = r := by rw [if_neg (by simp [hc])] at h; exact h
theorem app1 {α : Type} [Inhabited α] (enc : α → List FV) (l : List α) (x : α) (g : Nat → List FV) (hg : g 0 = enc x) :
    (l ++ [x]).length = l.length + 1 ∧ ∀ i, i < (l ++ [x]).length → fl enc (l ++ [x]) i = appF l.length (fl enc l) g i := by
  refine ⟨by simp, fun i hi => ?_⟩
  unfold appF fl
  by_cases h : i < l.length
  · rw [blt_iff.2 h, cond_true]
    simp [List.getD_eq_getElem?_getD, List.getElem?_append, h]
  · have hb : Nat.blt i l.length = false := by
      cases e : Nat.blt i l.length with
      | false => rfl
      | true => exact absurd (blt_iff.1 e) h
    have : i = l.length := by simp at hi; omega
    subst this
    rw [hb, cond_false, Nat.sub_self, hg]
    simp [List.getD_eq_getElem?_getD]
/-- A branch of a code. -/
theorem AW2.cond {E : Env} {nt : Nat} {K0 : List Nat} {fr : Frm} {x : AX} {p q : ACode} {Q : AExit → S2 → Prop} {s : S2} {b : Bool} (hx : evL s.t x = .d (.bool b)) (ht : b = true → AW2 E nt K0 fr p Q s) (hf : b = false → AW2 E nt K0 fr q Q s) :
    AW2 E nt K0 fr (.cond x p q) Q s :=
  ⟨fun s' ρ r => AW.cond (rd_bool (rl_d (hx ▸ evL_sound r.t x))) (fun h => (ht h).go s' ρ r) (fun h => (hf h).go s' ρ r)⟩
/-- Freezing between regions. -/
theorem AW2.fzC {E : Env} {nt : Nat} {K0 : List Nat} {fr : Frm} {sl : List Nat} {x : ACode} {Q : AExit → S2 → Prop} {s : S2} (vs : List FV) {c : List Prop} (hc : AndL c True) (hv : mapF (Go.Proofs.YtablleokoifolaaGreatDoor.fz s.h 20) (sl.map (lkT s.t)) = some (vs, c)) (hcl : clL vs = true)
    (h : AW2 E nt K0 fr x Q ⟨sl.zip (vs.map .d) ++ s.t, roH ((sl.map (lkT s.t)).flatMap (fzK s.h 20)) s.h⟩) : AW2 E nt K0 fr (.fz sl x) Q s :=
  ⟨fun s' ρ r => by
    have hr : RLs ρ (sl.map (lkT s.t)) (sl.map s'.t) := ⟨by simp, fun i hi => by
      have hi' : i < sl.length := by simpa using hi
      have := r.t sl[i]
      simpa [List.getD_eq_getElem?_getD, hi'] using this⟩
    have hR : RY K0 fr ρ [] s'.n 0 ρ ⟨s.t, s.h, [], []⟩ s' := ⟨r, r.n0, Nat.le_refl _, fun k κ a b => .inl (r.lt k κ a b), fun k κ a _ b => r.lt k κ a b, fun c hc => by cases hc⟩
    obtain ⟨a1, a2, a3⟩ := args_sound hR hr hv (andL_iff.1 hc).1
    have hm := (hR.mark a2 a3).r
    have hg : ∀ i, i < sl.length → frz s'.h FZ (s'.t (sl.getD i 0)) = some (toA (vs.getD i .undef)) ∧ i < vs.length := by
      intro i hi
      have e1 := (mapM_some a1).1
      have hvl : vs.length = sl.length := by simpa using e1
      obtain ⟨y, hy, hf⟩ := (mapM_some a1).2 i (s'.t sl[i]) (by simp [hi])
      have hiv : i < vs.length := by omega
      refine ⟨?_, hiv⟩
      simp only [List.getElem?_map, List.getElem?_eq_getElem hiv, Option.map_some, Option.some.injEq] at hy
      simp only [List.getD_eq_getElem?_getD, List.getElem?_eq_getElem hi, List.getElem?_eq_getElem hiv, Option.getD_some]
      rw [hf, hy]
    refine AW.fz (fun i hi => ?_) (h.go _ ρ ⟨fun i => ?_, hm.o, hm.inj, hm.lt, hm.fm, hm.dis, hm.n0, hm.an, hm.rows⟩)
    · obtain ⟨j, hj, rfl⟩ := List.getElem_of_mem hi
      have := (hg j hj).1
      rw [List.getD_eq_getElem?_getD, List.getElem?_eq_getElem hj] at this
      simp only [Option.getD_some] at this
      rw [this]; rfl
    · have key : ∀ (sl : List Nat) (vs : List FV), (∀ j, j < sl.length → frz s'.h FZ (s'.t (sl.getD j 0)) = some (toA (vs.getD j .undef)) ∧ j < vs.length) → clL vs = true →
          (i ∉ sl ∧ lkT (sl.zip (vs.map LV.d) ++ s.t) i = lkT s.t i) ∨ (i ∈ sl ∧ ∃ v, lkT (sl.zip (vs.map LV.d) ++ s.t) i = .d v ∧ frz s'.h FZ (s'.t i) = some (toA v) ∧ cl v = true) := by
        intro sl
        induction sl with
        | nil => intro vs _ _; exact .inl ⟨by simp, by simp⟩
        | cons j sl ih =>
          intro vs hh hcl
          cases vs with
          | nil => have := (hh 0 (by simp)).2; simp at this
          | cons v vs =>
            simp only [clL, Bool.and_eq_true] at hcl
            simp only [List.map_cons, List.zip_cons_cons, List.cons_append, lkT, lk]
            by_cases e : i = j
            · subst e
              rw [beqT, cond_true]
              have := (hh 0 (by simp)).1
              simp only [List.getD_cons_zero] at this
              exact .inr ⟨by simp, v, rfl, this, hcl.1⟩
            · rw [beqF e, cond_false]
              have := ih vs (fun q hq => by
                have := hh (q + 1) (by simpa using hq)
                simpa using this) hcl.2
              simp only [lkT] at this
              rcases this with ⟨h1, h2⟩ | ⟨h1, h2⟩
              · exact .inl ⟨by simp [e, h1], h2⟩
              · exact .inr ⟨by simp [h1], h2⟩
      have fin : i ∈ sl → (∃ v, lkT (sl.zip (vs.map LV.d) ++ s.t) i = .d v ∧ frz s'.h FZ (s'.t i) = some (toA v) ∧ cl v = true) → RL ρ (lkT (sl.zip (vs.map LV.d) ++ s.t) i) (frzT s'.h sl s'.t i) := by
        rintro hi ⟨v, e1, e2, e3⟩
        simp only [frzT, if_pos hi, e1, e2, Option.getD_some]
        exact .d _ _ (cl_sound v e3)
      rcases key sl vs hg hcl with ⟨h1, h2⟩ | ⟨h1, h2⟩
      · simp only [h2, frzT, if_neg h1]; exact r.t i
      · exact fin h1 h2⟩

/-- One state stands for another one, told in other words or by less. -/
structure Wk (s s2 : S2) : Prop where
  go : ∀ K0 fr ρ s', Rep K0 fr ρ s.t s.h s' → Rep K0 fr ρ s2.t s2.h s'
theorem wk_mk {s s2 : S2} (tl : List Nat) (ov : List (Nat × LV)) (ks : List KA) {p : Prop} (hp : p) (h : cvS tl ov ks s = some (s2, p)) : Wk s s2 :=
  ⟨fun K0 fr ρ s' r => by
    unfold cvS at h
    split at h
    · rename_i t c h' c' ht hh
      simp only [Option.some.injEq, Prod.mk.injEq] at h
      obtain ⟨rfl, rfl⟩ := h
      obtain ⟨p1, p2⟩ := andL_iff.1 hp
      have p3 := (andL_iff.1 p2).1
      have iss : ∀ k, (lkO h' k).isSome = true → (lkO s.h k).isSome = true := fun k a => by
        obtain ⟨o, ho⟩ := Option.isSome_iff_exists.1 a
        exact (prH_sound r.o ks hh p3 _ o ho).2
      refine ⟨fun i => ?_, fun k o ho => (prH_sound r.o ks hh p3 k o ho).1, fun k k' κ a b => r.inj k k' κ (iss k a) (iss k' b), fun k κ a => r.lt k κ (iss k a), r.fm, fun k κ a => r.dis k κ (iss k a), r.n0, r.an, r.rows⟩
      rcases prT_sound r.t tl ht p1 i with ⟨h1, h2⟩ | h
      · exact h2
      · simp only [h]; exact .undef _
    · cases h⟩
theorem AW2.wk {E : Env} {nt : Nat} {K0 : List Nat} {fr : Frm} {c : ACode} {Q : AExit → S2 → Prop} {s s2 : S2} (w : Wk s s2) (h : AW2 E nt K0 fr c Q s2) : AW2 E nt K0 fr c Q s :=
  ⟨fun s' ρ r => h.go s' ρ (w.go _ _ _ _ r)⟩
/-- The state between two pieces of code. -/
theorem AW2.mid {E : Env} {nt : Nat} {K0 : List Nat} {fr : Frm} {x y : ACode} {Q : AExit → S2 → Prop} {s : S2} (s1 : S2) (rest : AW2 E nt K0 fr y Q s1)
    (h : AW2 E nt K0 fr x (fun e s' => match e with | .normal => Wk s' s1 | .ret => Q .ret s' | .exit i => Q (.exit i) s') s) : AW2 E nt K0 fr (.seq x y) Q s :=
  AW2.seq (h.mono fun e s' hh => by
    cases e with
    | normal => exact AW2.wk hh rest
    | ret => exact hh
    | exit i => exact hh)
/-- A loop: a number goes down with every round. -/
theorem AW2.lp {E : Env} {nt : Nat} {K0 : List Nat} {fr : Frm} {x : ACode} {Q : AExit → S2 → Prop} {σ : Type} (J : σ → S2) (P : Nat → σ → Prop)
    (round : ∀ k v, P k v → AW2 E nt K0 fr x (fun e s' => match e with | .normal => ∃ k' v', k' < k ∧ P k' v' ∧ Wk s' (J v') | .ret => Q .ret s' | .exit i => Q (.exit i) s') (J v))
    (k : Nat) (v : σ) (h : P k v) : AW2 E nt K0 fr (.loop x) Q (J v) :=
  ⟨fun s ρ r => AW.loop (fun k s => ∃ v ρ, P k v ∧ Rep K0 fr ρ (J v).t (J v).h s) (fun k s ⟨v, ρ, hp, hr⟩ => ((round k v hp).go s ρ hr).mono fun e s' ⟨s2', ρ', k1, k2⟩ => by
    cases e with
    | normal =>
      obtain ⟨k', v', g1, g2, g3⟩ := k1
      exact ⟨k', g1, v', ρ', g2, g3.go _ _ _ _ k2⟩
    | ret => exact ⟨s2', ρ', k1, k2⟩
    | exit i => exact ⟨s2', ρ', k1, k2⟩) k s ⟨v, ρ, h, r⟩⟩
/-- A loop inside a function that calls itself. -/
def lpN {σ R : Type} : Nat → ((σ → Option R) → σ → Option R) → σ → Option R
  | 0, _, _ => none
  | n + 1, F, v => F (lpN n F) v
theorem AW2.lpR {E : Env} {nt : Nat} {K0 : List Nat} {fr : Frm} {x : ACode} {Q : AExit → S2 → Prop} {σ R : Type} (J : σ → S2) {F : (σ → Option R) → σ → Option R} {r : R}
    (round : ∀ (rec : σ → Option R) (v : σ), F rec v = some r → AW2 E nt K0 fr x (fun e s' => match e with | .normal => ∃ v', rec v' = some r ∧ Wk s' (J v') | .ret => Q .ret s' | .exit i => Q (.exit i) s') (J v))
    {n : Nat} {v : σ} (H : lpN n F v = some r) : AW2 E nt K0 fr (.loop x) Q (J v) :=
  AW2.lp J (fun n v => lpN n F v = some r) (fun k v H => by
    cases k with
    | zero => cases H
    | succ k =>
      refine (round (lpN k F) v H).mono fun e s' hh => ?_
      cases e with
      | normal => obtain ⟨v', h1, h2⟩ := hh; exact ⟨k, v', Nat.lt_succ_self k, h1, h2⟩
      | ret => exact hh
      | exit i => exact hh) n v H
theorem optS {α : Type} (enc : α → List FV) {o : Option α} {x : α} (h : o = some x) : o.map enc = some (enc x) := by rw [h]; rfl
theorem dfl {α : Type} [Inhabited α] (enc : α → List FV) (h : ∀ x, depFL (enc x) < 40) (l : List α) : ∀ i, i < l.length → depFL (shF 0 (fl enc l) i) < 40 := fun i _ => h _
/-- Encodings of plain data. -/
def eI (k : IntKind) (x : Int) : List FV := [.int k x]
def eB (x : Bool) : List FV := [.bool x]
def eS (x : ByteArray) : List FV := [.str x]
def eE (c : Nat) (x : Option Int) : List FV := [.err c x]
def eL {α : Type} [Inhabited α] (enc : α → List FV) (l : List α) : List FV := [sV enc l]
def eD (l : List FV) : List LV := l.map .d
abbrev wI (x : Int) : Int := IntKind.i64.wrap x
theorem orT {a b : Bool} (h : a = true) : (a || b) = true := by rw [h]; rfl
theorem orF {a b : Bool} (h : a = false) : (a || b) = b := by rw [h]; rfl
theorem andT {a b : Bool} (h : a = true) : (a && b) = b := by rw [h]; rfl
theorem andF {a b : Bool} (h : a = false) : (a && b) = false := by rw [h]; rfl
theorem ovB {a b : Bool} (h : a = b) : toA (.bool a) = toA (.bool b) := by rw [h]
theorem bT (b : Bool) : b = true ∨ b = false := by cases b <;> simp
theorem ixN {i : Int} {n : Nat} (h : 0 ≤ i ∧ i < n) : addN 0 i.toNat < n := by show i.toNat < n; omega
theorem takeN {α : Type} {l : List α} {g : Int} (h : 0 ≤ (0 : Int) ∧ 0 ≤ g ∧ g ≤ l.length) : (l.take g.toNat).length = g.toNat - (0 : Int).toNat := by
  simp; omega
theorem takeF {α : Type} [Inhabited α] (enc : α → List FV) (l : List α) (n : Nat) : ∀ i, i < (l.take n).length → fl enc (l.take n) i = fl enc l i := by
  intro i hi
  have : i < n := by simp at hi; omega
  simp [fl, List.getD_eq_getElem?_getD, List.getElem?_take, this]
theorem takeL {α : Type} (l : List α) (n : Nat) : (l.take n).length ≤ l.length := by simp; omega
theorem litK {α : Type} [Inhabited α] (enc : α → List FV) (l : List α) (hn : ∀ x, (enc x).all nnF = true) : ∀ i, i < l.length → (fl enc l i).map cnF = ((l.map enc).map (List.map cnF)).getD i [] ∧ (fl enc l i).all nnF = true := by
  intro i hi
  refine ⟨?_, hn _⟩
  simp [fl, List.getD_eq_getElem?_getD, hi]
theorem litF {α : Type} [Inhabited α] (enc : α → List FV) (l : List α) : ∀ i, i < l.length → toAL (fl enc l i) = ((l.map enc).map toAL).getD i [] := by
  intro i hi
  simp [fl, List.getD_eq_getElem?_getD, hi]
theorem app1N {α : Type} [Inhabited α] (enc : α → List FV) (x : α) (g : Nat → List FV) (hg : g 0 = enc x) : ([x] : List α).length = 1 ∧ ∀ i, i < ([x] : List α).length → fl enc [x] i = g i := by
  refine ⟨rfl, fun i hi => ?_⟩
  have : i = 0 := by simpa using hi
  subst this; exact hg.symm
theorem retP_mk2 {r : FV} {xs : List ARes} {s : S2} {p : Prop} (hp : p) (h : rtF s xs = some (toA r, p)) : retP r xs .ret s := ⟨p, h, hp⟩
theorem retP_mkn2 {r : FV} {xs : List ARes} {s : S2} {p : Prop} (hp : p) (h : rtF s xs = some (toA r, p)) : retP r xs .normal s := ⟨p, h, hp⟩
theorem bifT {α : Type} {c : Bool} {a b : α} (h : c = true) : (bif c then a else b) = a := by rw [h]; rfl
theorem bifF {α : Type} {c : Bool} {a b : α} (h : c = false) : (bif c then a else b) = b := by rw [h]; rfl
theorem dep_eI (k : IntKind) : ∀ x, depFL (eI k x) < 40 := fun _ => of_decide_eq_true (by kernel_rfl)
theorem dep_eB : ∀ x, depFL (eB x) < 40 := fun _ => of_decide_eq_true (by kernel_rfl)
theorem dep_eS : ∀ x, depFL (eS x) < 40 := fun _ => of_decide_eq_true (by kernel_rfl)
theorem dep_eE (c : Nat) : ∀ x, depFL (eE c x) < 40 := fun _ => of_decide_eq_true (by kernel_rfl)
theorem dep_eL {α : Type} [Inhabited α] (enc : α → List FV) : ∀ x, depFL (eL enc x) < 40 := fun _ => of_decide_eq_true (by kernel_rfl)
theorem appN {α : Type} [Inhabited α] (enc : α → List FV) (l m : List α) : (l ++ m).length = l.length + m.length ∧ ∀ i, i < (l ++ m).length → fl enc (l ++ m) i = appF l.length (fl enc l) (fl enc m) i := by
  refine ⟨by simp, fun i hi => ?_⟩
  unfold appF fl
  by_cases h : i < l.length
  · rw [blt_iff.2 h, cond_true]
    simp [List.getD_eq_getElem?_getD, List.getElem?_append, h]
  · have hb : Nat.blt i l.length = false := by
      cases e : Nat.blt i l.length with
      | false => rfl
      | true => exact absurd (blt_iff.1 e) h
    rw [hb, cond_false]
    simp [List.getD_eq_getElem?_getD, List.getElem?_append, h]
theorem lcl {α : Type} [Inhabited α] (enc : α → List FV) {n : Nat} (h : ∀ x, (enc x).length = n ∧ clL (enc x) = true) (l : List α) : ∀ i, i < l.length → (fl enc l i).length = n ∧ clL (fl enc l i) = true := fun i _ => h _
theorem lc_eI (k : IntKind) : ∀ x, (eI k x).length = 1 ∧ clL (eI k x) = true := fun _ => ⟨rfl, by kernel_rfl⟩
theorem lc_eB : ∀ x, (eB x).length = 1 ∧ clL (eB x) = true := fun _ => ⟨rfl, by kernel_rfl⟩
theorem lc_eS : ∀ x, (eS x).length = 1 ∧ clL (eS x) = true := fun _ => ⟨rfl, by kernel_rfl⟩
theorem lc_eE (c : Nat) : ∀ x, (eE c x).length = 1 ∧ clL (eE c x) = true := fun _ => ⟨rfl, by kernel_rfl⟩
theorem lc_eL {α : Type} [Inhabited α] (enc : α → List FV) : ∀ x, (eL enc x).length = 1 ∧ clL (eL enc x) = true := fun _ => ⟨rfl, by kernel_rfl⟩
theorem takeD1 {α : Type} {l : List α} {g : Int} (h : 0 ≤ (0 : Int) ∧ (0 : Int) ≤ g ∧ g ≤ l.length) : (List.take g.toNat l).length = g.toNat - (0 : Int).toNat := by simp; omega
theorem dropD1 {α : Type} {l : List α} {g : Int} (h : 0 ≤ g ∧ g ≤ (l.length : Int) ∧ (l.length : Int) ≤ l.length) : (List.drop g.toNat l).length = (l.length : Int).toNat - g.toNat := by simp
section
variable {α : Type} [Inhabited α] (enc : α → List FV) {l : List α} {g : Int}
theorem takeD2 {n : Nat} (lc : ∀ x, (enc x).length = n ∧ clL (enc x) = true) (h : 0 ≤ (0 : Int) ∧ (0 : Int) ≤ g ∧ g ≤ l.length) : ∀ i, i < l.length → (fl enc l i).length = n := fun i _ => (lc _).1
theorem takeD3 (h : 0 ≤ (0 : Int) ∧ (0 : Int) ≤ g ∧ g ≤ l.length) : ∀ i, i < (List.take g.toNat l).length → fl enc (List.take g.toNat l) i = fl enc l ((0 : Int).toNat + i) := by
  intro i hi
  have : i < g.toNat := by simp at hi; omega
  simp [fl, List.getD_eq_getElem?_getD, List.getElem?_take, this]
theorem dropD2 {n : Nat} (lc : ∀ x, (enc x).length = n ∧ clL (enc x) = true) (h : 0 ≤ g ∧ g ≤ (l.length : Int) ∧ (l.length : Int) ≤ l.length) : ∀ i, i < l.length → (fl enc l i).length = n := fun i _ => (lc _).1
theorem dropD3 (h : 0 ≤ g ∧ g ≤ (l.length : Int) ∧ (l.length : Int) ≤ l.length) : ∀ i, i < (List.drop g.toNat l).length → fl enc (List.drop g.toNat l) i = fl enc l (g.toNat + i) := by
  intro i hi
  simp [fl, List.getD_eq_getElem?_getD]
end
theorem setF {α : Type} [Inhabited α] (enc : α → List FV) (l : List α) (n : Nat) (x : α) (c : List FV) (hc : c = enc x) : ∀ j, j < l.length → fl enc (List.set l n x) j = bif Nat.beq j n then c else fl enc l j := by
  intro j hj
  subst hc
  by_cases e : j = n
  · subst e
    rw [beqT, cond_true]
    simp [fl, List.getD_eq_getElem?_getD, hj]
  · rw [beqF e, cond_false]
    simp [fl, List.getD_eq_getElem?_getD, List.getElem?_set_ne (Ne.symm e)]
theorem setLe {α : Type} (l : List α) (n : Nat) (x : α) : (List.set l n x).length ≤ l.length := by simp
theorem setEq {α : Type} (l : List α) (n : Nat) (x : α) : (List.set l n x).length = l.length := by simp
theorem refF (f : Nat → List FV) (n : Nat) : ∀ i, i < n → f i = f i := fun _ _ => rfl
/-- Freezing between regions, with the condition as it is given. -/
theorem AW2.fz {E : Env} {nt : Nat} {K0 : List Nat} {fr : Frm} {sl : List Nat} {x : ACode} {Q : AExit → S2 → Prop} {s : S2} (vs : List FV) {P : Prop} (hp : P) (hv : (match mapF (Go.Proofs.YtablleokoifolaaGreatDoor.fz s.h 20) (sl.map (lkT s.t)) with
      | some (vs', c) => some (vs', AndL c True)
      | none => none) = some (vs, P)) (hcl : clL vs = true)
    (h : AW2 E nt K0 fr x Q ⟨sl.zip (vs.map .d) ++ s.t, roH ((sl.map (lkT s.t)).flatMap (fzK s.h 20)) s.h⟩) : AW2 E nt K0 fr (.fz sl x) Q s := by
  cases e : mapF (Go.Proofs.YtablleokoifolaaGreatDoor.fz s.h 20) (sl.map (lkT s.t)) with
  | none => rw [e] at hv; cases hv
  | some vc =>
    obtain ⟨vs', c⟩ := vc
    rw [e] at hv
    simp only [Option.some.injEq, Prod.mk.injEq] at hv
    obtain ⟨rfl, rfl⟩ := hv
    exact AW2.fzC vs' hp e hcl h
end Go.Proofs.YtablleokoifolaaGreatDoor

/- Instructions as Lean data, and how they are told as frozen data. -/
set_option linter.unusedVariables false
set_option linter.unusedSimpArgs false
namespace Go.Proofs.YtablleokoifolaaGreatDoor
open Go

inductive Instr where
  | mk (op n align offset result : Int) (body els : List Instr) (labels : List Int)
namespace Instr
def op : Instr → Int | mk a _ _ _ _ _ _ _ => a
def n : Instr → Int | mk _ a _ _ _ _ _ _ => a
def align : Instr → Int | mk _ _ a _ _ _ _ _ => a
def offset : Instr → Int | mk _ _ _ a _ _ _ _ => a
def result : Instr → Int | mk _ _ _ _ a _ _ _ => a
def body : Instr → List Instr | mk _ _ _ _ _ a _ _ => a
def els : Instr → List Instr | mk _ _ _ _ _ _ a _ => a
def labels : Instr → List Int | mk _ _ _ _ _ _ _ a => a
end Instr
instance : Inhabited Instr := ⟨.mk 0 0 0 0 0 [] [] []⟩
theorem Instr.eta (x : Instr) : Instr.mk x.op x.n x.align x.offset x.result x.body x.els x.labels = x := by cases x; rfl

abbrev BF := Nat × (Nat → List FV)
def bf0 : BF := (0, fun _ => [])
/-- The cells of the i-th of some instructions, whose bodies are told. -/
def flX (l : List Instr) (p q : List BF) (i : Nat) : List FV :=
  [.int .u8 (l.getD i default).op, .int .i64 (l.getD i default).n, .int .u32 (l.getD i default).align, .int .u32 (l.getD i default).offset, .int .u8 (l.getD i default).result,
    .sv (p.getD i bf0).1 (p.getD i bf0).2, .sv (q.getD i bf0).1 (q.getD i bf0).2, sV (eI .u32) (l.getD i default).labels]
mutual
def bdy : Instr → BF
  | .mk _ _ _ _ _ b _ _ => (b.length, flX b (bdys b) (elss b))
def ely : Instr → BF
  | .mk _ _ _ _ _ _ e _ => (e.length, flX e (bdys e) (elss e))
def bdys : List Instr → List BF
  | [] => []
  | x :: l => bdy x :: bdys l
def elss : List Instr → List BF
  | [] => []
  | x :: l => ely x :: elss l
end
def flI (l : List Instr) : Nat → List FV := flX l (bdys l) (elss l)
def sVI (l : List Instr) : FV := .sv l.length (flI l)
def eInstr (x : Instr) : List FV := [.int .u8 x.op, .int .i64 x.n, .int .u32 x.align, .int .u32 x.offset, .int .u8 x.result, sVI x.body, sVI x.els, sV (eI .u32) x.labels]

theorem bdys_get : ∀ (l : List Instr) (i : Nat), i < l.length → (bdys l).getD i bf0 = bdy (l.getD i default)
  | [], i, h => by simp at h
  | x :: l, 0, h => by simp [bdys]
  | x :: l, i + 1, h => by
    have := bdys_get l i (by simpa using h)
    simpa [bdys] using this
theorem elss_get : ∀ (l : List Instr) (i : Nat), i < l.length → (elss l).getD i bf0 = ely (l.getD i default)
  | [], i, h => by simp at h
  | x :: l, 0, h => by simp [elss]
  | x :: l, i + 1, h => by
    have := elss_get l i (by simpa using h)
    simpa [elss] using this
theorem bdy_eq (x : Instr) : bdy x = (x.body.length, flI x.body) := by cases x; simp only [bdy, Instr.body, flI]
theorem ely_eq (x : Instr) : ely x = (x.els.length, flI x.els) := by cases x; simp only [ely, Instr.els, flI]
theorem flI_eq {l : List Instr} {i : Nat} (h : i < l.length) : flI l i = eInstr (l.getD i default) := by
  unfold flI flX eInstr sVI
  rw [bdys_get l i h, elss_get l i h, bdy_eq, ely_eq]
theorem flI_ix {l : List Instr} {i : Int} (h : 0 ≤ i ∧ i < l.length) : flI l i.toNat = eInstr (l.getD i.toNat default) := flI_eq (by omega)
theorem appI (l : List Instr) (x : Instr) (g : Nat → List FV) (hg : g 0 = eInstr x) :
    (l ++ [x]).length = l.length + 1 ∧ ∀ i, i < (l ++ [x]).length → flI (l ++ [x]) i = appF l.length (flI l) g i := by
  refine ⟨by simp, fun i hi => ?_⟩
  rw [flI_eq hi]
  unfold appF
  by_cases h : i < l.length
  · rw [blt_iff.2 h, cond_true, flI_eq h]
    simp [List.getD_eq_getElem?_getD, List.getElem?_append, h]
  · have hb : Nat.blt i l.length = false := by
      cases e : Nat.blt i l.length with
      | false => rfl
      | true => exact absurd (blt_iff.1 e) h
    have : i = l.length := by simp at hi; omega
    subst this
    rw [hb, cond_false, Nat.sub_self, hg]
    simp [List.getD_eq_getElem?_getD]
theorem appIN (x : Instr) (g : Nat → List FV) (hg : g 0 = eInstr x) : ([x] : List Instr).length = 1 ∧ ∀ i, i < ([x] : List Instr).length → flI [x] i = g i := by
  refine ⟨rfl, fun i hi => ?_⟩
  have : i = 0 := by simpa using hi
  subst this
  rw [flI_eq (by simp)]; exact hg.symm
theorem dflI (l : List Instr) : ∀ i, i < l.length → depFL (shF 0 (flI l) i) < 40 := fun i h => by
  show depFL (flI l i) < 40
  rw [flI_eq h]
  exact of_decide_eq_true (by kernel_rfl)
theorem litKI (l : List Instr) : ∀ i, i < l.length → (flI l i).map cnF = ((l.map eInstr).map (List.map cnF)).getD i [] ∧ (flI l i).all nnF = true := by
  intro i hi
  rw [flI_eq hi]
  refine ⟨?_, rfl⟩
  simp [List.getD_eq_getElem?_getD, hi]
theorem litI (l : List Instr) : ∀ i, i < l.length → toAL (flI l i) = ((l.map eInstr).map toAL).getD i [] := by
  intro i hi
  rw [flI_eq hi]
  simp [List.getD_eq_getElem?_getD, hi]
def eLI (l : List Instr) : List FV := [sVI l]
theorem dep_eLI : ∀ x, depFL (eLI x) < 40 := fun _ => of_decide_eq_true (by kernel_rfl)
theorem dep_eInstr : ∀ x, depFL (eInstr x) < 40 := fun _ => of_decide_eq_true (by kernel_rfl)
theorem lclI (l : List Instr) : ∀ i, i < l.length → (flI l i).length = 8 ∧ clL (flI l i) = true := fun i h => by
  rw [flI_eq h]; exact ⟨rfl, by kernel_rfl⟩
theorem appNI (l m : List Instr) : (l ++ m).length = l.length + m.length ∧ ∀ i, i < (l ++ m).length → flI (l ++ m) i = appF l.length (flI l) (flI m) i := by
  refine ⟨by simp, fun i hi => ?_⟩
  rw [flI_eq hi]
  unfold appF
  by_cases h : i < l.length
  · rw [blt_iff.2 h, cond_true, flI_eq h]
    simp [List.getD_eq_getElem?_getD, List.getElem?_append, h]
  · have hb : Nat.blt i l.length = false := by
      cases e : Nat.blt i l.length with
      | false => rfl
      | true => exact absurd (blt_iff.1 e) h
    rw [hb, cond_false, flI_eq (by simp at hi; omega)]
    simp [List.getD_eq_getElem?_getD, List.getElem?_append, h]
end Go.Proofs.YtablleokoifolaaGreatDoor

/- Plain data of the program. Written by a program of this claim set (g2.py). -/
set_option linter.unusedVariables false
namespace Go.Proofs.YtablleokoifolaaGreatDoor
open Go

structure Typ where
  params : List Int
  result : Int

instance : Inhabited Typ := ⟨(Typ.mk ([] : List Int) 0)⟩
def eTyp (x : Typ) : List FV := [sV (eI .u8) x.params, .int .u8 x.result]
theorem dep_eTyp : ∀ x, depFL (eTyp x) < 40 := fun _ => of_decide_eq_true (by kernel_rfl)
theorem lc_eTyp : ∀ x, (eTyp x).length = 2 ∧ clL (eTyp x) = true := fun _ => ⟨rfl, by kernel_rfl⟩

structure Fnc where
  type_ : Int
  locals : List Int
  body : List Instr

instance : Inhabited Fnc := ⟨(Fnc.mk 0 ([] : List Int) ([] : List Instr))⟩
def eFnc (x : Fnc) : List FV := [.int .u32 x.type_, sV (eI .u8) x.locals, sVI x.body]
theorem dep_eFnc : ∀ x, depFL (eFnc x) < 40 := fun _ => of_decide_eq_true (by kernel_rfl)
theorem lc_eFnc : ∀ x, (eFnc x).length = 3 ∧ clL (eFnc x) = true := fun _ => ⟨rfl, by kernel_rfl⟩

structure Lim where
  min_ : Int
  has : Bool
  max_ : Int

instance : Inhabited Lim := ⟨(Lim.mk 0 false 0)⟩
def eLim (x : Lim) : List FV := [.int .u32 x.min_, .bool x.has, .int .u32 x.max_]
theorem dep_eLim : ∀ x, depFL (eLim x) < 40 := fun _ => of_decide_eq_true (by kernel_rfl)
theorem lc_eLim : ∀ x, (eLim x).length = 3 ∧ clL (eLim x) = true := fun _ => ⟨rfl, by kernel_rfl⟩

structure Glo where
  kind : Int
  mut_ : Bool
  init_ : Instr

instance : Inhabited Glo := ⟨(Glo.mk 0 false (Instr.mk 0 0 0 0 0 ([] : List Instr) ([] : List Instr) ([] : List Int)))⟩
def eGlo (x : Glo) : List FV := [.int .u8 x.kind, .bool x.mut_, .int .u8 x.init_.op, .int .i64 x.init_.n, .int .u32 x.init_.align, .int .u32 x.init_.offset, .int .u8 x.init_.result, sVI x.init_.body, sVI x.init_.els, sV (eI .u32) x.init_.labels]
theorem dep_eGlo : ∀ x, depFL (eGlo x) < 40 := fun _ => of_decide_eq_true (by kernel_rfl)
theorem lc_eGlo : ∀ x, (eGlo x).length = 10 ∧ clL (eGlo x) = true := fun _ => ⟨rfl, by kernel_rfl⟩

structure Xpo where
  name : ByteArray
  what : Int
  index : Int

instance : Inhabited Xpo := ⟨(Xpo.mk (ByteArray.mk #[]) 0 0)⟩
def eXpo (x : Xpo) : List FV := [.str x.name, .int .u8 x.what, .int .u32 x.index]
theorem dep_eXpo : ∀ x, depFL (eXpo x) < 40 := fun _ => of_decide_eq_true (by kernel_rfl)
theorem lc_eXpo : ∀ x, (eXpo x).length = 3 ∧ clL (eXpo x) = true := fun _ => ⟨rfl, by kernel_rfl⟩

structure Ele where
  table : Int
  offset : Instr
  funcs : List Int

instance : Inhabited Ele := ⟨(Ele.mk 0 (Instr.mk 0 0 0 0 0 ([] : List Instr) ([] : List Instr) ([] : List Int)) ([] : List Int))⟩
def eEle (x : Ele) : List FV := [.int .u32 x.table, .int .u8 x.offset.op, .int .i64 x.offset.n, .int .u32 x.offset.align, .int .u32 x.offset.offset, .int .u8 x.offset.result, sVI x.offset.body, sVI x.offset.els, sV (eI .u32) x.offset.labels, sV (eI .u32) x.funcs]
theorem dep_eEle : ∀ x, depFL (eEle x) < 40 := fun _ => of_decide_eq_true (by kernel_rfl)
theorem lc_eEle : ∀ x, (eEle x).length = 10 ∧ clL (eEle x) = true := fun _ => ⟨rfl, by kernel_rfl⟩

structure Dat where
  memory : Int
  offset : Instr
  bytes : List Int

instance : Inhabited Dat := ⟨(Dat.mk 0 (Instr.mk 0 0 0 0 0 ([] : List Instr) ([] : List Instr) ([] : List Int)) ([] : List Int))⟩
def eDat (x : Dat) : List FV := [.int .u32 x.memory, .int .u8 x.offset.op, .int .i64 x.offset.n, .int .u32 x.offset.align, .int .u32 x.offset.offset, .int .u8 x.offset.result, sVI x.offset.body, sVI x.offset.els, sV (eI .u32) x.offset.labels, sV (eI .u8) x.bytes]
theorem dep_eDat : ∀ x, depFL (eDat x) < 40 := fun _ => of_decide_eq_true (by kernel_rfl)
theorem lc_eDat : ∀ x, (eDat x).length = 10 ∧ clL (eDat x) = true := fun _ => ⟨rfl, by kernel_rfl⟩

structure Mdl where
  types : List Typ
  funcs : List Fnc
  tables : List Lim
  memories : List Lim
  globals : List Glo
  exports : List Xpo
  elems : List Ele
  datas : List Dat

instance : Inhabited Mdl := ⟨(Mdl.mk ([] : List Typ) ([] : List Fnc) ([] : List Lim) ([] : List Lim) ([] : List Glo) ([] : List Xpo) ([] : List Ele) ([] : List Dat))⟩
def eMdl (x : Mdl) : List FV := [sV eTyp x.types, sV eFnc x.funcs, sV eLim x.tables, sV eLim x.memories, sV eGlo x.globals, sV eXpo x.exports, sV eEle x.elems, sV eDat x.datas]
theorem dep_eMdl : ∀ x, depFL (eMdl x) < 40 := fun _ => of_decide_eq_true (by kernel_rfl)
theorem lc_eMdl : ∀ x, (eMdl x).length = 8 ∧ clL (eMdl x) = true := fun _ => ⟨rfl, by kernel_rfl⟩

structure Frame where
  height : Int
  away : Bool
  dead : Bool

instance : Inhabited Frame := ⟨(Frame.mk 0 false false)⟩
def eFrame (x : Frame) : List FV := [.int .i64 x.height, .bool x.away, .bool x.dead]
theorem dep_eFrame : ∀ x, depFL (eFrame x) < 40 := fun _ => of_decide_eq_true (by kernel_rfl)
theorem lc_eFrame : ∀ x, (eFrame x).length = 3 ∧ clL (eFrame x) = true := fun _ => ⟨rfl, by kernel_rfl⟩

structure Checker where
  m : Mdl
  t : Typ
  locals : List Int
  stack : List Int
  frames : List Frame
  labels : List Int
  most : Int
  bad : Bool

instance : Inhabited Checker := ⟨(Checker.mk (Mdl.mk ([] : List Typ) ([] : List Fnc) ([] : List Lim) ([] : List Lim) ([] : List Glo) ([] : List Xpo) ([] : List Ele) ([] : List Dat)) (Typ.mk ([] : List Int) 0) ([] : List Int) ([] : List Int) ([] : List Frame) ([] : List Int) 0 false)⟩
def eChecker (x : Checker) : List FV := [sV eTyp x.m.types, sV eFnc x.m.funcs, sV eLim x.m.tables, sV eLim x.m.memories, sV eGlo x.m.globals, sV eXpo x.m.exports, sV eEle x.m.elems, sV eDat x.m.datas, sV (eI .u8) x.t.params, .int .u8 x.t.result, sV (eI .u8) x.locals, sV (eI .u8) x.stack, sV eFrame x.frames, sV (eI .u8) x.labels, .int .i64 x.most, .bool x.bad]
theorem dep_eChecker : ∀ x, depFL (eChecker x) < 40 := fun _ => of_decide_eq_true (by kernel_rfl)
theorem lc_eChecker : ∀ x, (eChecker x).length = 16 ∧ clL (eChecker x) = true := fun _ => ⟨rfl, by kernel_rfl⟩

structure St8 where
  l : List Int
  under : Int
  away : Bool
  dead : Bool
  most : Int
  ok : Bool

instance : Inhabited St8 := ⟨(St8.mk ([] : List Int) 0 false false 0 false)⟩
def eSt8 (x : St8) : List FV := [sV (eI .u8) x.l, .int .i64 x.under, .bool x.away, .bool x.dead, .int .i64 x.most, .bool x.ok]
theorem dep_eSt8 : ∀ x, depFL (eSt8 x) < 40 := fun _ => of_decide_eq_true (by kernel_rfl)
theorem lc_eSt8 : ∀ x, (eSt8 x).length = 6 ∧ clL (eSt8 x) = true := fun _ => ⟨rfl, by kernel_rfl⟩

structure Env8 where
  m : Mdl
  result : Int
  locals : List Int
  labels : List Int

instance : Inhabited Env8 := ⟨(Env8.mk (Mdl.mk ([] : List Typ) ([] : List Fnc) ([] : List Lim) ([] : List Lim) ([] : List Glo) ([] : List Xpo) ([] : List Ele) ([] : List Dat)) 0 ([] : List Int) ([] : List Int))⟩
def eEnv8 (x : Env8) : List FV := [sV eTyp x.m.types, sV eFnc x.m.funcs, sV eLim x.m.tables, sV eLim x.m.memories, sV eGlo x.m.globals, sV eXpo x.m.exports, sV eEle x.m.elems, sV eDat x.m.datas, .int .u8 x.result, sV (eI .u8) x.locals, sV (eI .u8) x.labels]
theorem dep_eEnv8 : ∀ x, depFL (eEnv8 x) < 40 := fun _ => of_decide_eq_true (by kernel_rfl)
theorem lc_eEnv8 : ∀ x, (eEnv8 x).length = 11 ∧ clL (eEnv8 x) = true := fun _ => ⟨rfl, by kernel_rfl⟩

def H_Checker (x : Checker) : List (Nat × Ob) := [(1000, .st false [.d (sV eTyp x.m.types), .d (sV eFnc x.m.funcs), .d (sV eLim x.m.tables), .d (sV eLim x.m.memories), .d (sV eGlo x.m.globals), .d (sV eXpo x.m.exports), .d (sV eEle x.m.elems), .d (sV eDat x.m.datas), .d (sV (eI .u8) x.t.params), .d (.int .u8 x.t.result), .d (sV (eI .u8) x.locals), .ls 1001 0 x.stack.length, .ls 1002 0 x.frames.length, .ls 1003 0 x.labels.length, .d (.int .i64 x.most), .d (.bool x.bad)]), (1001, .sl false 1 x.stack.length (fl (eI .u8) x.stack)), (1002, .sl false 3 x.frames.length (fl eFrame x.frames)), (1003, .sl false 1 x.labels.length (fl (eI .u8) x.labels))]
end Go.Proofs.YtablleokoifolaaGreatDoor

/- Small contracts by hand: error numbers, names of instructions, searching. Printed by a program of this claim set (mkh0.py). -/
set_option linter.unusedVariables false
set_option maxRecDepth 100000
namespace Go.Proofs.YtablleokoifolaaGreatDoor
open Go

def nmL : List ByteArray := [(ByteArray.mk #[117, 110, 114, 101, 97, 99, 104, 97, 98, 108, 101]), (ByteArray.mk #[110, 111, 112]), (ByteArray.mk #[98, 108, 111, 99, 107]), (ByteArray.mk #[108, 111, 111, 112]), (ByteArray.mk #[105, 102]), (ByteArray.mk #[]), (ByteArray.mk #[]), (ByteArray.mk #[]), (ByteArray.mk #[]), (ByteArray.mk #[]), (ByteArray.mk #[]), (ByteArray.mk #[]), (ByteArray.mk #[98, 114]), (ByteArray.mk #[98, 114, 95, 105, 102]), (ByteArray.mk #[98, 114, 95, 116, 97, 98, 108, 101]), (ByteArray.mk #[114, 101, 116, 117, 114, 110]), (ByteArray.mk #[99, 97, 108, 108]), (ByteArray.mk #[99, 97, 108, 108, 95, 105, 110, 100, 105, 114, 101, 99, 116]), (ByteArray.mk #[]), (ByteArray.mk #[]), (ByteArray.mk #[]), (ByteArray.mk #[]), (ByteArray.mk #[]), (ByteArray.mk #[]), (ByteArray.mk #[]), (ByteArray.mk #[]), (ByteArray.mk #[100, 114, 111, 112]), (ByteArray.mk #[115, 101, 108, 101, 99, 116]), (ByteArray.mk #[]), (ByteArray.mk #[]), (ByteArray.mk #[]), (ByteArray.mk #[]), (ByteArray.mk #[108, 111, 99, 97, 108, 46, 103, 101, 116]), (ByteArray.mk #[108, 111, 99, 97, 108, 46, 115, 101, 116]), (ByteArray.mk #[108, 111, 99, 97, 108, 46, 116, 101, 101]), (ByteArray.mk #[103, 108, 111, 98, 97, 108, 46, 103, 101, 116]), (ByteArray.mk #[103, 108, 111, 98, 97, 108, 46, 115, 101, 116]), (ByteArray.mk #[]), (ByteArray.mk #[]), (ByteArray.mk #[]), (ByteArray.mk #[105, 51, 50, 46, 108, 111, 97, 100]), (ByteArray.mk #[105, 54, 52, 46, 108, 111, 97, 100]), (ByteArray.mk #[]), (ByteArray.mk #[]), (ByteArray.mk #[105, 51, 50, 46, 108, 111, 97, 100, 56, 95, 115]), (ByteArray.mk #[105, 51, 50, 46, 108, 111, 97, 100, 56, 95, 117]), (ByteArray.mk #[105, 51, 50, 46, 108, 111, 97, 100, 49, 54, 95, 115]), (ByteArray.mk #[105, 51, 50, 46, 108, 111, 97, 100, 49, 54, 95, 117]), (ByteArray.mk #[105, 54, 52, 46, 108, 111, 97, 100, 56, 95, 115]), (ByteArray.mk #[105, 54, 52, 46, 108, 111, 97, 100, 56, 95, 117]), (ByteArray.mk #[105, 54, 52, 46, 108, 111, 97, 100, 49, 54, 95, 115]), (ByteArray.mk #[105, 54, 52, 46, 108, 111, 97, 100, 49, 54, 95, 117]), (ByteArray.mk #[105, 54, 52, 46, 108, 111, 97, 100, 51, 50, 95, 115]), (ByteArray.mk #[105, 54, 52, 46, 108, 111, 97, 100, 51, 50, 95, 117]), (ByteArray.mk #[105, 51, 50, 46, 115, 116, 111, 114, 101]), (ByteArray.mk #[105, 54, 52, 46, 115, 116, 111, 114, 101]), (ByteArray.mk #[]), (ByteArray.mk #[]), (ByteArray.mk #[105, 51, 50, 46, 115, 116, 111, 114, 101, 56]), (ByteArray.mk #[105, 51, 50, 46, 115, 116, 111, 114, 101, 49, 54]), (ByteArray.mk #[105, 54, 52, 46, 115, 116, 111, 114, 101, 56]), (ByteArray.mk #[105, 54, 52, 46, 115, 116, 111, 114, 101, 49, 54]), (ByteArray.mk #[105, 54, 52, 46, 115, 116, 111, 114, 101, 51, 50]), (ByteArray.mk #[109, 101, 109, 111, 114, 121, 46, 115, 105, 122, 101]), (ByteArray.mk #[109, 101, 109, 111, 114, 121, 46, 103, 114, 111, 119]), (ByteArray.mk #[105, 51, 50, 46, 99, 111, 110, 115, 116]), (ByteArray.mk #[105, 54, 52, 46, 99, 111, 110, 115, 116]), (ByteArray.mk #[]), (ByteArray.mk #[]), (ByteArray.mk #[105, 51, 50, 46, 101, 113, 122]), (ByteArray.mk #[105, 51, 50, 46, 101, 113]), (ByteArray.mk #[105, 51, 50, 46, 110, 101]), (ByteArray.mk #[105, 51, 50, 46, 108, 116, 95, 115]), (ByteArray.mk #[105, 51, 50, 46, 108, 116, 95, 117]), (ByteArray.mk #[105, 51, 50, 46, 103, 116, 95, 115]), (ByteArray.mk #[105, 51, 50, 46, 103, 116, 95, 117]), (ByteArray.mk #[105, 51, 50, 46, 108, 101, 95, 115]), (ByteArray.mk #[105, 51, 50, 46, 108, 101, 95, 117]), (ByteArray.mk #[105, 51, 50, 46, 103, 101, 95, 115]), (ByteArray.mk #[105, 51, 50, 46, 103, 101, 95, 117]), (ByteArray.mk #[105, 54, 52, 46, 101, 113, 122]), (ByteArray.mk #[105, 54, 52, 46, 101, 113]), (ByteArray.mk #[105, 54, 52, 46, 110, 101]), (ByteArray.mk #[105, 54, 52, 46, 108, 116, 95, 115]), (ByteArray.mk #[105, 54, 52, 46, 108, 116, 95, 117]), (ByteArray.mk #[105, 54, 52, 46, 103, 116, 95, 115]), (ByteArray.mk #[105, 54, 52, 46, 103, 116, 95, 117]), (ByteArray.mk #[105, 54, 52, 46, 108, 101, 95, 115]), (ByteArray.mk #[105, 54, 52, 46, 108, 101, 95, 117]), (ByteArray.mk #[105, 54, 52, 46, 103, 101, 95, 115]), (ByteArray.mk #[105, 54, 52, 46, 103, 101, 95, 117]), (ByteArray.mk #[]), (ByteArray.mk #[]), (ByteArray.mk #[]), (ByteArray.mk #[]), (ByteArray.mk #[]), (ByteArray.mk #[]), (ByteArray.mk #[]), (ByteArray.mk #[]), (ByteArray.mk #[]), (ByteArray.mk #[]), (ByteArray.mk #[]), (ByteArray.mk #[]), (ByteArray.mk #[105, 51, 50, 46, 99, 108, 122]), (ByteArray.mk #[105, 51, 50, 46, 99, 116, 122]), (ByteArray.mk #[105, 51, 50, 46, 112, 111, 112, 99, 110, 116]), (ByteArray.mk #[105, 51, 50, 46, 97, 100, 100]), (ByteArray.mk #[105, 51, 50, 46, 115, 117, 98]), (ByteArray.mk #[105, 51, 50, 46, 109, 117, 108]), (ByteArray.mk #[105, 51, 50, 46, 100, 105, 118, 95, 115]), (ByteArray.mk #[105, 51, 50, 46, 100, 105, 118, 95, 117]), (ByteArray.mk #[105, 51, 50, 46, 114, 101, 109, 95, 115]), (ByteArray.mk #[105, 51, 50, 46, 114, 101, 109, 95, 117]), (ByteArray.mk #[105, 51, 50, 46, 97, 110, 100]), (ByteArray.mk #[105, 51, 50, 46, 111, 114]), (ByteArray.mk #[105, 51, 50, 46, 120, 111, 114]), (ByteArray.mk #[105, 51, 50, 46, 115, 104, 108]), (ByteArray.mk #[105, 51, 50, 46, 115, 104, 114, 95, 115]), (ByteArray.mk #[105, 51, 50, 46, 115, 104, 114, 95, 117]), (ByteArray.mk #[105, 51, 50, 46, 114, 111, 116, 108]), (ByteArray.mk #[105, 51, 50, 46, 114, 111, 116, 114]), (ByteArray.mk #[105, 54, 52, 46, 99, 108, 122]), (ByteArray.mk #[105, 54, 52, 46, 99, 116, 122]), (ByteArray.mk #[105, 54, 52, 46, 112, 111, 112, 99, 110, 116]), (ByteArray.mk #[105, 54, 52, 46, 97, 100, 100]), (ByteArray.mk #[105, 54, 52, 46, 115, 117, 98]), (ByteArray.mk #[105, 54, 52, 46, 109, 117, 108]), (ByteArray.mk #[105, 54, 52, 46, 100, 105, 118, 95, 115]), (ByteArray.mk #[105, 54, 52, 46, 100, 105, 118, 95, 117]), (ByteArray.mk #[105, 54, 52, 46, 114, 101, 109, 95, 115]), (ByteArray.mk #[105, 54, 52, 46, 114, 101, 109, 95, 117]), (ByteArray.mk #[105, 54, 52, 46, 97, 110, 100]), (ByteArray.mk #[105, 54, 52, 46, 111, 114]), (ByteArray.mk #[105, 54, 52, 46, 120, 111, 114]), (ByteArray.mk #[105, 54, 52, 46, 115, 104, 108]), (ByteArray.mk #[105, 54, 52, 46, 115, 104, 114, 95, 115]), (ByteArray.mk #[105, 54, 52, 46, 115, 104, 114, 95, 117]), (ByteArray.mk #[105, 54, 52, 46, 114, 111, 116, 108]), (ByteArray.mk #[105, 54, 52, 46, 114, 111, 116, 114]), (ByteArray.mk #[]), (ByteArray.mk #[]), (ByteArray.mk #[]), (ByteArray.mk #[]), (ByteArray.mk #[]), (ByteArray.mk #[]), (ByteArray.mk #[]), (ByteArray.mk #[]), (ByteArray.mk #[]), (ByteArray.mk #[]), (ByteArray.mk #[]), (ByteArray.mk #[]), (ByteArray.mk #[]), (ByteArray.mk #[]), (ByteArray.mk #[]), (ByteArray.mk #[]), (ByteArray.mk #[]), (ByteArray.mk #[]), (ByteArray.mk #[]), (ByteArray.mk #[]), (ByteArray.mk #[]), (ByteArray.mk #[]), (ByteArray.mk #[]), (ByteArray.mk #[]), (ByteArray.mk #[]), (ByteArray.mk #[]), (ByteArray.mk #[]), (ByteArray.mk #[]), (ByteArray.mk #[105, 51, 50, 46, 119, 114, 97, 112, 95, 105, 54, 52]), (ByteArray.mk #[]), (ByteArray.mk #[]), (ByteArray.mk #[]), (ByteArray.mk #[]), (ByteArray.mk #[105, 54, 52, 46, 101, 120, 116, 101, 110, 100, 95, 105, 51, 50, 95, 115]), (ByteArray.mk #[105, 54, 52, 46, 101, 120, 116, 101, 110, 100, 95, 105, 51, 50, 95, 117])]
def nmF : List FV := nmL.map .str
def nmV (n : Nat) : ByteArray := nmL.getD n ⟨#[]⟩
theorem c_ops_names : CF E 96 [] (.agg nmF) := run_ok 40 (by kernel_rfl)

def g_ops_Name (p0 : Int) : Option ByteArray := some (if decide (wI p0 ≥ (174 : Int)) = true then ⟨#[]⟩ else nmV p0.toNat)
theorem nm_get {i : Int} (h : 0 ≤ i ∧ i < ((174 : Nat) : Int)) : nmF.getD i.toNat .undef = .str (nmV i.toNat) := by
  have hl : nmL.length = 174 := rfl
  have : i.toNat < nmL.length := by omega
  simp [nmF, nmV, List.getD_eq_getElem?_getD, this]
theorem c_ops_Name0 (p0 : Int) (h0 : 0 ≤ p0 ∧ p0 < 256) (r : ByteArray) (H : g_ops_Name p0 = some r) : CF E 88 [.int .u8 p0] (.str r) := by
  refine cf_of (A := F_ops_Name) fn_ops_Name rfl fun fr => ?_
  obtain rfl := Option.some.inj H
  clear H
  have hw : wI p0 = p0 := by unfold wI; rw [IntKind.wrap_i64]; omega
  refine AW2.seq ?_
  refine AW2.rg [] [0] [] [] ⟨[(0, .d (.int .u8 p0))], []⟩ (And.intro True.intro True.intro) (by kernel_rfl) ?_
  refine AW2.seq ?_
  refine AW2.seq ?_
  refine AW2.rg [.r (.agg nmF)] [0, 7] [] [] ⟨[(0, .d (.int .u8 p0)), (7, .d (.bool (decide (wI p0 ≥ (174 : Int)))))], []⟩ (And.intro (And.intro c_ops_names True.intro) True.intro) (by kernel_rfl) ?_
  refine AW2.cond (b := decide (wI p0 ≥ (174 : Int))) rfl (fun hc => ?_) (fun hc => ?_)
  · rw [if_pos hc]
    refine AW2.seq ?_
    refine AW2.rg [] [2] [] [] ⟨[(2, .d (.str ⟨#[]⟩))], []⟩ (And.intro True.intro True.intro) (by kernel_rfl) ?_
    refine AW2.ret ?_
    exact retP_mk2 True.intro (by kernel_rfl)
  · rw [if_neg (by simp [hc])]
    have hb : 0 ≤ p0 ∧ p0 < ((174 : Nat) : Int) := by
      have := of_decide_eq_false hc
      rw [hw] at this; omega
    refine AW2.skip ?_
    refine AW2.seq ?_
    refine AW2.rg [.r (.agg nmF), .r (.str (nmV p0.toNat))] [2] [] [] ⟨[(2, .d (.str (nmV p0.toNat)))], []⟩ (And.intro (And.intro c_ops_names (And.intro hb (And.intro (nm_get hb) True.intro))) True.intro) (by kernel_rfl) ?_
    refine AW2.ret ?_
    exact retP_mk2 True.intro (by kernel_rfl)
/-- The name of an instruction. -/
def g_ops_NameB (p0 : Int) : Option ByteArray := gd (0 ≤ p0 ∧ p0 < 256) (g_ops_Name p0)
theorem c_ops_NameB (p0 : Int) (r : ByteArray) (H : g_ops_NameB p0 = some r) : CF E 88 [.int .u8 p0] (.str r) := by
  obtain ⟨h, H⟩ := gd_some H
  exact c_ops_Name0 p0 h r H

def g_stringslite_Index (s t : ByteArray) : Option Int := gd (s.size < 4294967281) (some (Lib.index s.data.toList t.data.toList))
theorem c_stringslite_Index (s t : ByteArray) (r : Int) (H : g_stringslite_Index s t = some r) : CF E 106 [.str s, .str t] (.int .i64 r) := by
  obtain ⟨h, H⟩ := gd_some H
  obtain rfl := Option.some.inj H
  exact c_index s t h

def g_law08_num (p0 : Option Int) : Option Int := some (p0.getD 0)
theorem c_law08_num (p0 : Option Int) (r : Int) (H : g_law08_num p0 = some r) : CF E 9 [.err 45 p0] (.int .i64 r) := by
  obtain rfl := Option.some.inj H
  cases p0 with
  | none => exact c_num_nil
  | some n => exact c_num n
def g_law08_sure : Option Bool := some true
theorem c_law08_sure (r : Bool) (H : g_law08_sure = some r) : CF E 2 [] (.bool r) := by
  obtain rfl := Option.some.inj H
  exact c_sure
end Go.Proofs.YtablleokoifolaaGreatDoor

/- slices.Grow of nil as a contract with memory. -/
set_option linter.unusedVariables false
set_option maxRecDepth 100000
namespace Go.Proofs.YtablleokoifolaaGreatDoor
open Go

theorem wI_small {x : Int} (h : -4611686018427387904 ≤ x) (h' : x < 4611686018427387904) : wI x = x := by
  unfold wI; rw [IntKind.wrap_i64]; omega
theorem grow_n {n : Int} (h : 0 ≤ n ∧ n ≤ 140737488355328) : wI (n - wI ((0 : Int) - ((0 : Nat) : Int))) = n := by
  have : wI ((0 : Int) - ((0 : Nat) : Int)) = 0 := by decide
  rw [this, wI_small (by omega) (by omega)]; omega

theorem c_slices_Grow (n : Int) (h : 0 ≤ n ∧ n ≤ 140737488355328) : CM E 68 [.d .nils, .d (.int .i64 n)] [] [900] [] (fun a b => a = .ls 900 0 0 ∧ b = [(900, .sl false 1 n.toNat (fun _ => [.int .u8 0]))]) := by
  refine cs_of (A := F_slices_Grow_api_Kind_api_Kind) fn_slices_Grow_api_Kind_api_Kind fun fr => ?_
  refine AW2.seq ?_
  refine AW2.rg [] [0, 1] [] [] ⟨[(0, .d .nils), (1, .d (.int .i64 n))], []⟩ (And.intro True.intro True.intro) (by kernel_rfl) ?_
  refine AW2.seq ?_
  refine AW2.seq ?_
  refine AW2.rg [] [0, 1, 6] [] [] ⟨[(0, .d .nils), (1, .d (.int .i64 n)), (6, .d (.bool (decide (n < 0))))], []⟩ (And.intro True.intro True.intro) (by kernel_rfl) ?_
  refine AW2.cond (b := decide (n < 0)) rfl (fun hc => absurd (of_decide_eq_true hc) (by omega)) (fun hc => ?_)
  refine AW2.skip ?_
  refine AW2.seq ?_
  refine AW2.seq ?_
  refine AW2.rg [] [0, 1] [] [] ⟨[(0, .d .nils), (1, .d (.int .i64 (wI (n - wI ((0 : Int) - ((0 : Nat) : Int))))))], []⟩ (And.intro True.intro True.intro) (by kernel_rfl) ?_
  rw [grow_n h]
  refine AW2.seq ?_
  refine AW2.rg [] [0, 1, 16] [] [] ⟨[(0, .d .nils), (1, .d (.int .i64 n)), (16, .d (.bool (decide (n > 0))))], []⟩ (And.intro True.intro True.intro) (by kernel_rfl) ?_
  refine AW2.cond (b := decide (n > 0)) rfl (fun hc => ?_) (fun hc => ?_)
  · have hn := of_decide_eq_true hc
    refine AW2.rg [.s false 0 (fun _ => []), .k 900, .s false 0 (fun _ => [])] [0] [] [.k 900] ⟨[(0, .ls 900 0 0)], [(900, .sl false 1 n.toNat (fun _ => [.int .u8 0]))]⟩ (And.intro (And.intro (⟨rfl, rfl⟩ : (0 : Int) = 0 ∧ (0 : Int) = 0) (And.intro (⟨by omega, by omega⟩ : 0 ≤ n ∧ n.toNat * 1 ≤ 140737488355328) (And.intro (⟨by omega, by omega, by omega⟩ : (0 : Int) ≤ 0 ∧ (0 : Int) ≤ ((0 : Nat) : Int) ∧ ((0 : Nat) : Int) ≤ ((n.toNat : Nat) : Int)) (And.intro (rfl : (0 : Nat) = (((0 : Nat) : Int)).toNat - (0 : Int).toNat) True.intro)))) True.intro) (by kernel_rfl) ?_
    refine AW2.seq ?_
    refine AW2.rg [] [4] [] [.k 900] ⟨[(4, .ls 900 0 0)], [(900, .sl false 1 n.toNat (fun _ => [.int .u8 0]))]⟩ (And.intro True.intro True.intro) (by kernel_rfl) ?_
    refine AW2.ret ?_
    exact retS_mk3 [] [.k 900] True.intro (by kernel_rfl) (by kernel_rfl)
  · have hn : n = 0 := by have := of_decide_eq_false hc; omega
    subst hn
    refine AW2.skip ?_
    refine AW2.cv [.s 0 900 1 (fun _ => [.int .u8 0])] [0] [] [.k 900] ⟨[(0, .ls 900 0 0)], [(900, .sl false 1 0 (fun _ => [.int .u8 0]))]⟩ True.intro (by kernel_rfl) ?_
    refine AW2.seq ?_
    refine AW2.rg [] [4] [] [.k 900] ⟨[(4, .ls 900 0 0)], [(900, .sl false 1 0 (fun _ => [.int .u8 0]))]⟩ (And.intro True.intro True.intro) (by kernel_rfl) ?_
    refine AW2.ret ?_
    exact retS_mk3 [] [.k 900] True.intro (by kernel_rfl) (by kernel_rfl)
theorem c_slices_Grow1 (n : Int) (h : 0 ≤ n ∧ n ≤ 140737488355328) : CM E 68 [.d .nils, .d (.int .i64 n)] [] [900] [] (fun a b => a = .ls 900 0 0 ∧ b = [(900, .sl false 1 0 (fl (eI .u8) ([] : List Int)))]) := by
  intro ρ h0 n0 al hO hinj hlt hr hrows
  refine (c_slices_Grow n h ρ h0 n0 al hO hinj hlt hr hrows).mono ?_
  rintro r h2 n2 ⟨⟨lv, H', ρ2, ⟨e1, e2⟩, q1, q2, q3, q4, q5, q6, q7, q8⟩, q9, q10, q11⟩
  subst e2
  have hs : ∀ k, (lkO [(900, Ob.sl false 1 0 (fl (eI .u8) ([] : List Int)))] k).isSome = true → (lkO [(900, Ob.sl false 1 n.toNat (fun _ => [.int .u8 0]))] k).isSome = true := by
    intro k
    simp only [lkO]
    cases Nat.beq k 900 <;> simp
  refine ⟨⟨lv, _, ρ2, ⟨e1, rfl⟩, q1, rfl, q3, ?_, fun k k' κ a b => q5 k k' κ (hs k a) (hs k' b), fun k κ a => q6 k κ (hs k a), fun k κ a => q7 k κ (hs k a), q8⟩, q9, q10, q11⟩
  intro k o ho
  have hk : k = 900 := by
    simp only [lkO] at ho
    cases e : Nat.beq k 900 with
    | false => rw [e] at ho; cases ho
    | true => exact Nat.eq_of_beq_eq_true e
  subst hk
  obtain rfl : Ob.sl false 1 0 (fl (eI .u8) ([] : List Int)) = o := Option.some.inj ho
  have := q4 900 _ rfl
  rcases this with ⟨κ, es, a1, a2, _, _⟩ | ⟨a1, _⟩
  · exact .inl ⟨κ, es, a1, a2, Nat.zero_le _, fun i hi => absurd hi (Nat.not_lt_zero _)⟩
  · exact .inr ⟨a1, rfl⟩
end Go.Proofs.YtablleokoifolaaGreatDoor

/- Plain functions and their contracts. Written by a program of this claim set (g2.py). -/
set_option linter.unusedVariables false
set_option maxRecDepth 100000
set_option maxHeartbeats 4000000
namespace Go.Proofs.YtablleokoifolaaGreatDoor
open Go

/- mandrel/mandrellaw08.countCode -/
def g_law08_countCode : Nat → (List Instr) → Int → Int → Option (Int)
  | 0, _, _, _ => none
  | k+1, p0, p1, p2 => (if ((decide ((p0.length : Int) > p1)) || (decide (p2 > (80 : Int)))) = true then some p1 else (lpN k (fun (rec6 : Int × Int → Option (Int)) v => match v with | (a4, a5) => (if ((decide (a5 < (p0.length : Int))) && (decide (a4 < p1))) = true then gd (0 ≤ a5 ∧ a5 < (p0.length : Int)) (gd (0 ≤ a5 ∧ a5 < (p0.length : Int)) (((g_law08_countCode k (((p0.getD a5.toNat default)).body) p1 (wI (p2 + 1))).bind fun x9 => gd (0 ≤ a5 ∧ a5 < (p0.length : Int)) (((g_law08_countCode k (((p0.getD a5.toNat default)).els) p1 (wI (p2 + 1))).bind fun x12 => rec6 ((wI ((wI ((wI (a4 + (mnI ((((p0.getD a5.toNat default)).labels).length : Int) p1))) + x9)) + x12)), (wI (a5 + 1)))))))) else some a4)) ((p0.length : Int), 0)).bind (fun j1 => some j1))
theorem s_law08_countCode (k : Nat) (IH_law08_countCode : ∀ (p0 : List Instr) (p1 : Int) (p2 : Int) (r : Int), g_law08_countCode k p0 p1 p2 = some r → CF E 16 [sVI p0, .int .i64 p1, .int .i64 p2] (.int .i64 r)) : ∀ (p0 : List Instr) (p1 : Int) (p2 : Int) (r : Int), g_law08_countCode (k + 1) p0 p1 p2 = some r → CF E 16 [sVI p0, .int .i64 p1, .int .i64 p2] (.int .i64 r) := by
  intro p0 p1 p2 r H
  refine cf_of (A := F_law08_countCode) fn_law08_countCode rfl fun fr => ?_
  unfold g_law08_countCode at H
  refine AW2.seq ?_
  refine AW2.rg [] [0, 1, 2] [] [] ⟨[(0, .d (sVI p0)), (1, .d (.int .i64 p1)), (2, .d (.int .i64 p2))], []⟩ (And.intro True.intro True.intro) (by kernel_rfl) ?_
  refine AW2.seq ?_
  refine AW2.seq ?_
  refine AW2.reg [] rfl (YW.to ⟨[(0, .d (sVI p0)), (1, .d (.int .i64 p1)), (2, .d (.int .i64 p2)), (16, .d (.bool ((decide ((p0.length : Int) > p1)) || (decide (p2 > (80 : Int))))))], []⟩ ?qh17 ?h17)
  case h17 =>
    rcases bT (decide ((p0.length : Int) > p1)) with hc1 | hc1
    · exact YW.fin [(13, true)] [] [0, 1, 2, 16] [(16, .d (.bool ((decide ((p0.length : Int) > p1)) || (decide (p2 > (80 : Int))))))] [] _ (And.intro (And.intro hc1 (And.intro hc1 (And.intro hc1 True.intro))) (And.intro (ovB (orT (b := (decide (p2 > (80 : Int)))) hc1)) True.intro)) (by kernel_rfl) rfl
    · exact YW.fin [(13, false)] [] [0, 1, 2, 16] [(16, .d (.bool ((decide ((p0.length : Int) > p1)) || (decide (p2 > (80 : Int))))))] [] _ (And.intro (And.intro hc1 (And.intro hc1 (And.intro hc1 True.intro))) (And.intro (ovB (Eq.trans (orF (b := (decide (p2 > (80 : Int)))) hc1) (Eq.refl (decide (p2 > (80 : Int)))))) True.intro)) (by kernel_rfl) rfl
  refine AW2.cond (b := ((decide ((p0.length : Int) > p1)) || (decide (p2 > (80 : Int))))) rfl (fun hc => ?_) (fun hc => ?_)
  · replace H := ite_t H hc
    refine AW2.seq ?_
    refine AW2.rg [] [6] [] [] ⟨[(6, .d (.int .i64 p1))], []⟩ (And.intro True.intro True.intro) (by kernel_rfl) ?_
    refine AW2.ret ?_
    have H := Option.some.inj H
    subst H
    exact retP_mk2 True.intro (by kernel_rfl)
  · replace H := ite_f H hc
    refine AW2.skip ?_
    refine AW2.seq ?_
    refine AW2.rg [] [0, 1, 2, 7] [] [] ⟨[(0, .d (sVI p0)), (1, .d (.int .i64 p1)), (2, .d (.int .i64 p2)), (7, .d (.int .i64 (p0.length : Int)))], []⟩ (And.intro True.intro True.intro) (by kernel_rfl) ?_
    obtain ⟨j1, H16, H⟩ := bind_some H
    refine AW2.mid ⟨[(7, .d (.int .i64 j1))], []⟩ ?_ ?_
    · refine AW2.seq ?_
      refine AW2.rg [] [6] [] [] ⟨[(6, .d (.int .i64 j1))], []⟩ (And.intro True.intro True.intro) (by kernel_rfl) ?_
      refine AW2.ret ?_
      have H := Option.some.inj H
      subst H
      exact retP_mk2 True.intro (by kernel_rfl)
    · have H := H16
      refine AW2.seq ?_
      refine AW2.rg [] [0, 1, 2, 7, 8] [] [] ⟨[(0, .d (sVI p0)), (1, .d (.int .i64 p1)), (2, .d (.int .i64 p2)), (7, .d (.int .i64 (p0.length : Int))), (8, .d (.int .i64 0))], []⟩ (And.intro True.intro True.intro) (by kernel_rfl) ?_
      refine AW2.block ?_
      refine AW2.lpR (σ := Int × Int) (fun v => ⟨[(0, .d (sVI p0)), (1, .d (.int .i64 p1)), (2, .d (.int .i64 p2)), (7, .d (.int .i64 v.1)), (8, .d (.int .i64 v.2))], []⟩) ?_ (v := ((p0.length : Int), 0)) H
      rintro rec6 ⟨a4, a5⟩ H
      dsimp only at H
      refine AW2.seq ?_
      refine AW2.seq ?_
      refine AW2.reg [] rfl (YW.to ⟨[(0, .d (sVI p0)), (1, .d (.int .i64 p1)), (2, .d (.int .i64 p2)), (7, .d (.int .i64 a4)), (8, .d (.int .i64 a5)), (28, .d (.bool ((decide (a5 < (p0.length : Int))) && (decide (a4 < p1)))))], []⟩ ?qh14 ?h14)
      case h14 =>
        rcases bT (decide (a5 < (p0.length : Int))) with hc1 | hc1
        · exact YW.fin [(24, true)] [] [0, 1, 2, 7, 8, 28] [(28, .d (.bool ((decide (a5 < (p0.length : Int))) && (decide (a4 < p1)))))] [] _ (And.intro (And.intro hc1 (And.intro hc1 (And.intro hc1 (And.intro hc1 True.intro)))) (And.intro (ovB (Eq.trans (andT (b := (decide (a4 < p1))) hc1) (Eq.refl (decide (a4 < p1))))) True.intro)) (by kernel_rfl) rfl
        · exact YW.fin [(24, false)] [] [0, 1, 2, 7, 8, 28] [(28, .d (.bool ((decide (a5 < (p0.length : Int))) && (decide (a4 < p1)))))] [] _ (And.intro (And.intro hc1 (And.intro hc1 (And.intro hc1 (And.intro hc1 True.intro)))) (And.intro (ovB (andF (b := (decide (a4 < p1))) hc1)) True.intro)) (by kernel_rfl) rfl
      refine AW2.cond (b := ((decide (a5 < (p0.length : Int))) && (decide (a4 < p1)))) rfl (fun hc => ?_) (fun hc => ?_)
      · replace H := ite_t H hc
        refine AW2.skip ?_
        refine AW2.seq ?_
        refine AW2.block ?_
        obtain ⟨h7, H⟩ := gd_some H
        obtain ⟨h8, H⟩ := gd_some H
        obtain ⟨x9, hx10, H⟩ := bind_some H
        obtain ⟨h11, H⟩ := gd_some H
        obtain ⟨x12, hx13, H⟩ := bind_some H
        refine AW2.rg [.e (eInstr (p0.getD a5.toNat default)), .e (eInstr (p0.getD a5.toNat default)), .r (.int .i64 x9), .e (eInstr (p0.getD a5.toNat default)), .r (.int .i64 x12)] [0, 1, 2, 7, 8] [] [] ⟨[(0, .d (sVI p0)), (1, .d (.int .i64 p1)), (2, .d (.int .i64 p2)), (7, .d (.int .i64 (wI ((wI ((wI (a4 + (mnI ((((p0.getD a5.toNat default)).labels).length : Int) p1))) + x9)) + x12)))), (8, .d (.int .i64 a5))], []⟩ (And.intro (And.intro h7 (And.intro (flI_ix h7) (And.intro h8 (And.intro (flI_ix h8) (And.intro (IH_law08_countCode (((p0.getD a5.toNat default)).body) p1 (wI (p2 + 1)) x9 hx10) (And.intro h11 (And.intro (flI_ix h11) (And.intro (IH_law08_countCode (((p0.getD a5.toNat default)).els) p1 (wI (p2 + 1)) x12 hx13) True.intro)))))))) True.intro) (by kernel_rfl) ?_
        refine AW2.rg [] [0, 1, 2, 7, 8] [] [] ⟨[(0, .d (sVI p0)), (1, .d (.int .i64 p1)), (2, .d (.int .i64 p2)), (7, .d (.int .i64 (wI ((wI ((wI (a4 + (mnI ((((p0.getD a5.toNat default)).labels).length : Int) p1))) + x9)) + x12)))), (8, .d (.int .i64 (wI (a5 + 1))))], []⟩ (And.intro True.intro True.intro) (by kernel_rfl) ?_
        exact ⟨((wI ((wI ((wI (a4 + (mnI ((((p0.getD a5.toNat default)).labels).length : Int) p1))) + x9)) + x12)), (wI (a5 + 1))), H, wk_mk [0, 1, 2, 7, 8] [] [] True.intro (by kernel_rfl)⟩
      · replace H := ite_f H hc
        refine AW2.exit ?_
        have H := Option.some.inj H
        subst H
        exact wk_mk [7] [] [] True.intro (by kernel_rfl)
theorem c_scc_law08_countCode : ∀ k, (∀ (p0 : List Instr) (p1 : Int) (p2 : Int) (r : Int), g_law08_countCode k p0 p1 p2 = some r → CF E 16 [sVI p0, .int .i64 p1, .int .i64 p2] (.int .i64 r)) := by
  intro k
  induction k with
  | zero => exact fun _ _ _ _ H => (by cases H)
  | succ k ih =>
    have i0 := ih
    exact s_law08_countCode k i0
theorem c_law08_countCode (k : Nat) : ∀ (p0 : List Instr) (p1 : Int) (p2 : Int) (r : Int), g_law08_countCode k p0 p1 p2 = some r → CF E 16 [sVI p0, .int .i64 p1, .int .i64 p2] (.int .i64 r) := (c_scc_law08_countCode k)

/- mandrel/mandrellaw08.bigModule -/
def g_law08_bigModule_l0 : Nat → Nat → Mdl → Int → Int → Option (Int)
  | 0, _, _, _, _ => none
  | k+1, K, p0, a9, a10 => (if (decide (a10 < (p0.globals.length : Int))) = true then gd (0 ≤ a10 ∧ a10 < (p0.globals.length : Int)) (((g_law08_countCode K ([((p0.globals.getD a10.toNat default)).init_] : List Instr) 3000 0).bind fun x12 => g_law08_bigModule_l0 k K p0 (wI (a9 + x12)) (wI (a10 + 1)))) else some a9)

def g_law08_bigModule_l1 : Nat → Nat → Mdl → Int → Int → Option (Int)
  | 0, _, _, _, _ => none
  | k+1, K, p0, a18, a19 => (if (decide (a19 < (p0.datas.length : Int))) = true then gd (0 ≤ a19 ∧ a19 < (p0.datas.length : Int)) (gd (0 ≤ a19 ∧ a19 < (p0.datas.length : Int)) (((g_law08_countCode K ([((p0.datas.getD a19.toNat default)).offset] : List Instr) 3000 0).bind fun x22 => g_law08_bigModule_l1 k K p0 (wI ((wI (a18 + (mnI ((((p0.datas.getD a19.toNat default)).bytes).length : Int) 5000))) + x22)) (wI (a19 + 1))))) else some a18)

def g_law08_bigModule_l2 : Nat → Nat → Mdl → Int → Int → Option (Int)
  | 0, _, _, _, _ => none
  | k+1, K, p0, a28, a29 => (if (decide (a29 < (p0.elems.length : Int))) = true then gd (0 ≤ a29 ∧ a29 < (p0.elems.length : Int)) (gd (0 ≤ a29 ∧ a29 < (p0.elems.length : Int)) (((g_law08_countCode K ([((p0.elems.getD a29.toNat default)).offset] : List Instr) 3000 0).bind fun x32 => g_law08_bigModule_l2 k K p0 (wI ((wI (a28 + (mnI ((((p0.elems.getD a29.toNat default)).funcs).length : Int) 5000))) + x32)) (wI (a29 + 1))))) else some a28)

def g_law08_bigModule_l3 : Nat → Mdl → Int → Int → Option (Int)
  | 0, _, _, _ => none
  | k+1, p0, a38, a39 => (if (decide (a39 < (p0.exports.length : Int))) = true then gd (0 ≤ a39 ∧ a39 < (p0.exports.length : Int)) (g_law08_bigModule_l3 k p0 (wI (a38 + (mnI ((((p0.exports.getD a39.toNat default)).name).size : Int) 5000))) (wI (a39 + 1))) else some a38)

def g_law08_bigModule_l4 : Nat → Nat → Mdl → Int → Int → Option (Int)
  | 0, _, _, _, _ => none
  | k+1, K, p0, a45, a46 => (if (decide (a46 < (p0.funcs.length : Int))) = true then gd (0 ≤ a46 ∧ a46 < (p0.funcs.length : Int)) (gd (0 ≤ a46 ∧ a46 < (p0.funcs.length : Int)) (((g_law08_countCode K (((p0.funcs.getD a46.toNat default)).body) 3000 0).bind fun x49 => g_law08_bigModule_l4 k K p0 (wI ((wI (a45 + (mnI ((((p0.funcs.getD a46.toNat default)).locals).length : Int) 5000))) + x49)) (wI (a46 + 1))))) else some a45)

def g_law08_bigModule_l5 : Nat → Mdl → Int → Int → Option (Int)
  | 0, _, _, _ => none
  | k+1, p0, a55, a56 => (if (decide (a56 < (p0.types.length : Int))) = true then gd (0 ≤ a56 ∧ a56 < (p0.types.length : Int)) (g_law08_bigModule_l5 k p0 (wI (a55 + (mnI ((((p0.types.getD a56.toNat default)).params).length : Int) 5000))) (wI (a56 + 1))) else some a55)

def g_law08_bigModule (K : Nat) (p0 : Mdl) : Option (Bool) := (if ((decide ((p0.types.length : Int) > (300 : Int))) || ((decide ((p0.funcs.length : Int) > (300 : Int))) || ((decide ((p0.tables.length : Int) > (300 : Int))) || ((decide ((p0.memories.length : Int) > (300 : Int))) || ((decide ((p0.globals.length : Int) > (300 : Int))) || ((decide ((p0.exports.length : Int) > (300 : Int))) || ((decide ((p0.elems.length : Int) > (300 : Int))) || (decide ((p0.datas.length : Int) > (300 : Int)))))))))) = true then some true else (g_law08_bigModule_l5 K p0 0 0).bind (fun j1 => (g_law08_bigModule_l4 K K p0 j1 0).bind (fun j2 => (g_law08_bigModule_l3 K p0 j2 0).bind (fun j3 => (g_law08_bigModule_l2 K K p0 j3 0).bind (fun j4 => (g_law08_bigModule_l1 K K p0 j4 0).bind (fun j5 => (g_law08_bigModule_l0 K K p0 j5 0).bind (fun j6 => some (decide (j6 > (1000 : Int))))))))))

theorem c_law08_bigModule (K : Nat) (p0 : Mdl) (r : Bool) (H : g_law08_bigModule K p0 = some r) : CF E 1 [.agg (eMdl p0)] (.bool r) := by
  refine cf_of (A := F_law08_bigModule) fn_law08_bigModule rfl fun fr => ?_
  unfold g_law08_bigModule at H
  refine AW2.seq ?_
  refine AW2.rg [.k 1] [1] [] [.k 1] ⟨[(1, .p 1 0)], [(1, .st false (eD (eMdl p0)))]⟩ (And.intro True.intro True.intro) (by kernel_rfl) ?_
  refine AW2.seq ?_
  refine AW2.seq ?_
  refine AW2.reg [] rfl (YW.to ⟨[(1, .p 1 0), (55, .d (.bool ((decide ((p0.types.length : Int) > (300 : Int))) || ((decide ((p0.funcs.length : Int) > (300 : Int))) || ((decide ((p0.tables.length : Int) > (300 : Int))) || ((decide ((p0.memories.length : Int) > (300 : Int))) || ((decide ((p0.globals.length : Int) > (300 : Int))) || ((decide ((p0.exports.length : Int) > (300 : Int))) || ((decide ((p0.elems.length : Int) > (300 : Int))) || (decide ((p0.datas.length : Int) > (300 : Int))))))))))))], [(1, .st false (eD (eMdl p0)))]⟩ ?qh60 ?h60)
  case h60 =>
    rcases bT (decide ((p0.types.length : Int) > (300 : Int))) with hc1 | hc1
    · exact YW.fin [(14, true), (20, true), (26, true), (32, true), (38, true), (44, true), (50, true)] [] [1, 55] [(55, .d (.bool ((decide ((p0.types.length : Int) > (300 : Int))) || ((decide ((p0.funcs.length : Int) > (300 : Int))) || ((decide ((p0.tables.length : Int) > (300 : Int))) || ((decide ((p0.memories.length : Int) > (300 : Int))) || ((decide ((p0.globals.length : Int) > (300 : Int))) || ((decide ((p0.exports.length : Int) > (300 : Int))) || ((decide ((p0.elems.length : Int) > (300 : Int))) || (decide ((p0.datas.length : Int) > (300 : Int))))))))))))] [.k 1] _ (And.intro (And.intro hc1 (And.intro hc1 (And.intro hc1 (And.intro hc1 (And.intro hc1 (And.intro (Eq.refl true) (And.intro (Eq.refl true) (And.intro (Eq.refl true) (And.intro (Eq.refl true) (And.intro (Eq.refl true) (And.intro (Eq.refl true) (And.intro (Eq.refl true) (And.intro (Eq.refl true) (And.intro (Eq.refl true) (And.intro (Eq.refl true) (And.intro (Eq.refl true) (And.intro (Eq.refl true) (And.intro (Eq.refl true) (And.intro (Eq.refl true) (And.intro (Eq.refl true) (And.intro (Eq.refl true) (And.intro (Eq.refl true) (And.intro (Eq.refl true) (And.intro (Eq.refl true) (And.intro (Eq.refl true) (And.intro (Eq.refl true) (And.intro (Eq.refl true) (And.intro (Eq.refl true) (And.intro (Eq.refl true) (And.intro (Eq.refl true) (And.intro (Eq.refl true) (And.intro (Eq.refl true) (And.intro (Eq.refl true) (And.intro (Eq.refl true) (And.intro (Eq.refl true) True.intro))))))))))))))))))))))))))))))))))) (And.intro (ovB (orT (b := ((decide ((p0.funcs.length : Int) > (300 : Int))) || ((decide ((p0.tables.length : Int) > (300 : Int))) || ((decide ((p0.memories.length : Int) > (300 : Int))) || ((decide ((p0.globals.length : Int) > (300 : Int))) || ((decide ((p0.exports.length : Int) > (300 : Int))) || ((decide ((p0.elems.length : Int) > (300 : Int))) || (decide ((p0.datas.length : Int) > (300 : Int)))))))))) hc1)) True.intro)) (by kernel_rfl) rfl
    · rcases bT (decide ((p0.funcs.length : Int) > (300 : Int))) with hc2 | hc2
      · exact YW.fin [(14, false), (20, true), (26, true), (32, true), (38, true), (44, true), (50, true)] [] [1, 55] [(55, .d (.bool ((decide ((p0.types.length : Int) > (300 : Int))) || ((decide ((p0.funcs.length : Int) > (300 : Int))) || ((decide ((p0.tables.length : Int) > (300 : Int))) || ((decide ((p0.memories.length : Int) > (300 : Int))) || ((decide ((p0.globals.length : Int) > (300 : Int))) || ((decide ((p0.exports.length : Int) > (300 : Int))) || ((decide ((p0.elems.length : Int) > (300 : Int))) || (decide ((p0.datas.length : Int) > (300 : Int))))))))))))] [.k 1] _ (And.intro (And.intro hc1 (And.intro hc1 (And.intro hc1 (And.intro hc1 (And.intro hc1 (And.intro hc2 (And.intro hc2 (And.intro hc2 (And.intro hc2 (And.intro hc2 (And.intro (Eq.refl true) (And.intro (Eq.refl true) (And.intro (Eq.refl true) (And.intro (Eq.refl true) (And.intro (Eq.refl true) (And.intro (Eq.refl true) (And.intro (Eq.refl true) (And.intro (Eq.refl true) (And.intro (Eq.refl true) (And.intro (Eq.refl true) (And.intro (Eq.refl true) (And.intro (Eq.refl true) (And.intro (Eq.refl true) (And.intro (Eq.refl true) (And.intro (Eq.refl true) (And.intro (Eq.refl true) (And.intro (Eq.refl true) (And.intro (Eq.refl true) (And.intro (Eq.refl true) (And.intro (Eq.refl true) (And.intro (Eq.refl true) (And.intro (Eq.refl true) (And.intro (Eq.refl true) (And.intro (Eq.refl true) (And.intro (Eq.refl true) True.intro))))))))))))))))))))))))))))))))))) (And.intro (ovB (Eq.trans (orF (b := ((decide ((p0.funcs.length : Int) > (300 : Int))) || ((decide ((p0.tables.length : Int) > (300 : Int))) || ((decide ((p0.memories.length : Int) > (300 : Int))) || ((decide ((p0.globals.length : Int) > (300 : Int))) || ((decide ((p0.exports.length : Int) > (300 : Int))) || ((decide ((p0.elems.length : Int) > (300 : Int))) || (decide ((p0.datas.length : Int) > (300 : Int)))))))))) hc1) (orT (b := ((decide ((p0.tables.length : Int) > (300 : Int))) || ((decide ((p0.memories.length : Int) > (300 : Int))) || ((decide ((p0.globals.length : Int) > (300 : Int))) || ((decide ((p0.exports.length : Int) > (300 : Int))) || ((decide ((p0.elems.length : Int) > (300 : Int))) || (decide ((p0.datas.length : Int) > (300 : Int))))))))) hc2))) True.intro)) (by kernel_rfl) rfl
      · rcases bT (decide ((p0.tables.length : Int) > (300 : Int))) with hc3 | hc3
        · exact YW.fin [(14, false), (20, false), (26, true), (32, true), (38, true), (44, true), (50, true)] [] [1, 55] [(55, .d (.bool ((decide ((p0.types.length : Int) > (300 : Int))) || ((decide ((p0.funcs.length : Int) > (300 : Int))) || ((decide ((p0.tables.length : Int) > (300 : Int))) || ((decide ((p0.memories.length : Int) > (300 : Int))) || ((decide ((p0.globals.length : Int) > (300 : Int))) || ((decide ((p0.exports.length : Int) > (300 : Int))) || ((decide ((p0.elems.length : Int) > (300 : Int))) || (decide ((p0.datas.length : Int) > (300 : Int))))))))))))] [.k 1] _ (And.intro (And.intro hc1 (And.intro hc1 (And.intro hc1 (And.intro hc1 (And.intro hc1 (And.intro hc2 (And.intro hc2 (And.intro hc2 (And.intro hc2 (And.intro hc2 (And.intro hc3 (And.intro hc3 (And.intro hc3 (And.intro hc3 (And.intro hc3 (And.intro (Eq.refl true) (And.intro (Eq.refl true) (And.intro (Eq.refl true) (And.intro (Eq.refl true) (And.intro (Eq.refl true) (And.intro (Eq.refl true) (And.intro (Eq.refl true) (And.intro (Eq.refl true) (And.intro (Eq.refl true) (And.intro (Eq.refl true) (And.intro (Eq.refl true) (And.intro (Eq.refl true) (And.intro (Eq.refl true) (And.intro (Eq.refl true) (And.intro (Eq.refl true) (And.intro (Eq.refl true) (And.intro (Eq.refl true) (And.intro (Eq.refl true) (And.intro (Eq.refl true) (And.intro (Eq.refl true) True.intro))))))))))))))))))))))))))))))))))) (And.intro (ovB (Eq.trans (orF (b := ((decide ((p0.funcs.length : Int) > (300 : Int))) || ((decide ((p0.tables.length : Int) > (300 : Int))) || ((decide ((p0.memories.length : Int) > (300 : Int))) || ((decide ((p0.globals.length : Int) > (300 : Int))) || ((decide ((p0.exports.length : Int) > (300 : Int))) || ((decide ((p0.elems.length : Int) > (300 : Int))) || (decide ((p0.datas.length : Int) > (300 : Int)))))))))) hc1) (Eq.trans (orF (b := ((decide ((p0.tables.length : Int) > (300 : Int))) || ((decide ((p0.memories.length : Int) > (300 : Int))) || ((decide ((p0.globals.length : Int) > (300 : Int))) || ((decide ((p0.exports.length : Int) > (300 : Int))) || ((decide ((p0.elems.length : Int) > (300 : Int))) || (decide ((p0.datas.length : Int) > (300 : Int))))))))) hc2) (orT (b := ((decide ((p0.memories.length : Int) > (300 : Int))) || ((decide ((p0.globals.length : Int) > (300 : Int))) || ((decide ((p0.exports.length : Int) > (300 : Int))) || ((decide ((p0.elems.length : Int) > (300 : Int))) || (decide ((p0.datas.length : Int) > (300 : Int)))))))) hc3)))) True.intro)) (by kernel_rfl) rfl
        · rcases bT (decide ((p0.memories.length : Int) > (300 : Int))) with hc4 | hc4
          · exact YW.fin [(14, false), (20, false), (26, false), (32, true), (38, true), (44, true), (50, true)] [] [1, 55] [(55, .d (.bool ((decide ((p0.types.length : Int) > (300 : Int))) || ((decide ((p0.funcs.length : Int) > (300 : Int))) || ((decide ((p0.tables.length : Int) > (300 : Int))) || ((decide ((p0.memories.length : Int) > (300 : Int))) || ((decide ((p0.globals.length : Int) > (300 : Int))) || ((decide ((p0.exports.length : Int) > (300 : Int))) || ((decide ((p0.elems.length : Int) > (300 : Int))) || (decide ((p0.datas.length : Int) > (300 : Int))))))))))))] [.k 1] _ (And.intro (And.intro hc1 (And.intro hc1 (And.intro hc1 (And.intro hc1 (And.intro hc1 (And.intro hc2 (And.intro hc2 (And.intro hc2 (And.intro hc2 (And.intro hc2 (And.intro hc3 (And.intro hc3 (And.intro hc3 (And.intro hc3 (And.intro hc3 (And.intro hc4 (And.intro hc4 (And.intro hc4 (And.intro hc4 (And.intro hc4 (And.intro (Eq.refl true) (And.intro (Eq.refl true) (And.intro (Eq.refl true) (And.intro (Eq.refl true) (And.intro (Eq.refl true) (And.intro (Eq.refl true) (And.intro (Eq.refl true) (And.intro (Eq.refl true) (And.intro (Eq.refl true) (And.intro (Eq.refl true) (And.intro (Eq.refl true) (And.intro (Eq.refl true) (And.intro (Eq.refl true) (And.intro (Eq.refl true) (And.intro (Eq.refl true) True.intro))))))))))))))))))))))))))))))))))) (And.intro (ovB (Eq.trans (orF (b := ((decide ((p0.funcs.length : Int) > (300 : Int))) || ((decide ((p0.tables.length : Int) > (300 : Int))) || ((decide ((p0.memories.length : Int) > (300 : Int))) || ((decide ((p0.globals.length : Int) > (300 : Int))) || ((decide ((p0.exports.length : Int) > (300 : Int))) || ((decide ((p0.elems.length : Int) > (300 : Int))) || (decide ((p0.datas.length : Int) > (300 : Int)))))))))) hc1) (Eq.trans (orF (b := ((decide ((p0.tables.length : Int) > (300 : Int))) || ((decide ((p0.memories.length : Int) > (300 : Int))) || ((decide ((p0.globals.length : Int) > (300 : Int))) || ((decide ((p0.exports.length : Int) > (300 : Int))) || ((decide ((p0.elems.length : Int) > (300 : Int))) || (decide ((p0.datas.length : Int) > (300 : Int))))))))) hc2) (Eq.trans (orF (b := ((decide ((p0.memories.length : Int) > (300 : Int))) || ((decide ((p0.globals.length : Int) > (300 : Int))) || ((decide ((p0.exports.length : Int) > (300 : Int))) || ((decide ((p0.elems.length : Int) > (300 : Int))) || (decide ((p0.datas.length : Int) > (300 : Int)))))))) hc3) (orT (b := ((decide ((p0.globals.length : Int) > (300 : Int))) || ((decide ((p0.exports.length : Int) > (300 : Int))) || ((decide ((p0.elems.length : Int) > (300 : Int))) || (decide ((p0.datas.length : Int) > (300 : Int))))))) hc4))))) True.intro)) (by kernel_rfl) rfl
          · rcases bT (decide ((p0.globals.length : Int) > (300 : Int))) with hc5 | hc5
            · exact YW.fin [(14, false), (20, false), (26, false), (32, false), (38, true), (44, true), (50, true)] [] [1, 55] [(55, .d (.bool ((decide ((p0.types.length : Int) > (300 : Int))) || ((decide ((p0.funcs.length : Int) > (300 : Int))) || ((decide ((p0.tables.length : Int) > (300 : Int))) || ((decide ((p0.memories.length : Int) > (300 : Int))) || ((decide ((p0.globals.length : Int) > (300 : Int))) || ((decide ((p0.exports.length : Int) > (300 : Int))) || ((decide ((p0.elems.length : Int) > (300 : Int))) || (decide ((p0.datas.length : Int) > (300 : Int))))))))))))] [.k 1] _ (And.intro (And.intro hc1 (And.intro hc1 (And.intro hc1 (And.intro hc1 (And.intro hc1 (And.intro hc2 (And.intro hc2 (And.intro hc2 (And.intro hc2 (And.intro hc2 (And.intro hc3 (And.intro hc3 (And.intro hc3 (And.intro hc3 (And.intro hc3 (And.intro hc4 (And.intro hc4 (And.intro hc4 (And.intro hc4 (And.intro hc4 (And.intro hc5 (And.intro hc5 (And.intro hc5 (And.intro hc5 (And.intro hc5 (And.intro (Eq.refl true) (And.intro (Eq.refl true) (And.intro (Eq.refl true) (And.intro (Eq.refl true) (And.intro (Eq.refl true) (And.intro (Eq.refl true) (And.intro (Eq.refl true) (And.intro (Eq.refl true) (And.intro (Eq.refl true) (And.intro (Eq.refl true) True.intro))))))))))))))))))))))))))))))))))) (And.intro (ovB (Eq.trans (orF (b := ((decide ((p0.funcs.length : Int) > (300 : Int))) || ((decide ((p0.tables.length : Int) > (300 : Int))) || ((decide ((p0.memories.length : Int) > (300 : Int))) || ((decide ((p0.globals.length : Int) > (300 : Int))) || ((decide ((p0.exports.length : Int) > (300 : Int))) || ((decide ((p0.elems.length : Int) > (300 : Int))) || (decide ((p0.datas.length : Int) > (300 : Int)))))))))) hc1) (Eq.trans (orF (b := ((decide ((p0.tables.length : Int) > (300 : Int))) || ((decide ((p0.memories.length : Int) > (300 : Int))) || ((decide ((p0.globals.length : Int) > (300 : Int))) || ((decide ((p0.exports.length : Int) > (300 : Int))) || ((decide ((p0.elems.length : Int) > (300 : Int))) || (decide ((p0.datas.length : Int) > (300 : Int))))))))) hc2) (Eq.trans (orF (b := ((decide ((p0.memories.length : Int) > (300 : Int))) || ((decide ((p0.globals.length : Int) > (300 : Int))) || ((decide ((p0.exports.length : Int) > (300 : Int))) || ((decide ((p0.elems.length : Int) > (300 : Int))) || (decide ((p0.datas.length : Int) > (300 : Int)))))))) hc3) (Eq.trans (orF (b := ((decide ((p0.globals.length : Int) > (300 : Int))) || ((decide ((p0.exports.length : Int) > (300 : Int))) || ((decide ((p0.elems.length : Int) > (300 : Int))) || (decide ((p0.datas.length : Int) > (300 : Int))))))) hc4) (orT (b := ((decide ((p0.exports.length : Int) > (300 : Int))) || ((decide ((p0.elems.length : Int) > (300 : Int))) || (decide ((p0.datas.length : Int) > (300 : Int)))))) hc5)))))) True.intro)) (by kernel_rfl) rfl
            · rcases bT (decide ((p0.exports.length : Int) > (300 : Int))) with hc6 | hc6
              · exact YW.fin [(14, false), (20, false), (26, false), (32, false), (38, false), (44, true), (50, true)] [] [1, 55] [(55, .d (.bool ((decide ((p0.types.length : Int) > (300 : Int))) || ((decide ((p0.funcs.length : Int) > (300 : Int))) || ((decide ((p0.tables.length : Int) > (300 : Int))) || ((decide ((p0.memories.length : Int) > (300 : Int))) || ((decide ((p0.globals.length : Int) > (300 : Int))) || ((decide ((p0.exports.length : Int) > (300 : Int))) || ((decide ((p0.elems.length : Int) > (300 : Int))) || (decide ((p0.datas.length : Int) > (300 : Int))))))))))))] [.k 1] _ (And.intro (And.intro hc1 (And.intro hc1 (And.intro hc1 (And.intro hc1 (And.intro hc1 (And.intro hc2 (And.intro hc2 (And.intro hc2 (And.intro hc2 (And.intro hc2 (And.intro hc3 (And.intro hc3 (And.intro hc3 (And.intro hc3 (And.intro hc3 (And.intro hc4 (And.intro hc4 (And.intro hc4 (And.intro hc4 (And.intro hc4 (And.intro hc5 (And.intro hc5 (And.intro hc5 (And.intro hc5 (And.intro hc5 (And.intro hc6 (And.intro hc6 (And.intro hc6 (And.intro hc6 (And.intro hc6 (And.intro (Eq.refl true) (And.intro (Eq.refl true) (And.intro (Eq.refl true) (And.intro (Eq.refl true) (And.intro (Eq.refl true) True.intro))))))))))))))))))))))))))))))))))) (And.intro (ovB (Eq.trans (orF (b := ((decide ((p0.funcs.length : Int) > (300 : Int))) || ((decide ((p0.tables.length : Int) > (300 : Int))) || ((decide ((p0.memories.length : Int) > (300 : Int))) || ((decide ((p0.globals.length : Int) > (300 : Int))) || ((decide ((p0.exports.length : Int) > (300 : Int))) || ((decide ((p0.elems.length : Int) > (300 : Int))) || (decide ((p0.datas.length : Int) > (300 : Int)))))))))) hc1) (Eq.trans (orF (b := ((decide ((p0.tables.length : Int) > (300 : Int))) || ((decide ((p0.memories.length : Int) > (300 : Int))) || ((decide ((p0.globals.length : Int) > (300 : Int))) || ((decide ((p0.exports.length : Int) > (300 : Int))) || ((decide ((p0.elems.length : Int) > (300 : Int))) || (decide ((p0.datas.length : Int) > (300 : Int))))))))) hc2) (Eq.trans (orF (b := ((decide ((p0.memories.length : Int) > (300 : Int))) || ((decide ((p0.globals.length : Int) > (300 : Int))) || ((decide ((p0.exports.length : Int) > (300 : Int))) || ((decide ((p0.elems.length : Int) > (300 : Int))) || (decide ((p0.datas.length : Int) > (300 : Int)))))))) hc3) (Eq.trans (orF (b := ((decide ((p0.globals.length : Int) > (300 : Int))) || ((decide ((p0.exports.length : Int) > (300 : Int))) || ((decide ((p0.elems.length : Int) > (300 : Int))) || (decide ((p0.datas.length : Int) > (300 : Int))))))) hc4) (Eq.trans (orF (b := ((decide ((p0.exports.length : Int) > (300 : Int))) || ((decide ((p0.elems.length : Int) > (300 : Int))) || (decide ((p0.datas.length : Int) > (300 : Int)))))) hc5) (orT (b := ((decide ((p0.elems.length : Int) > (300 : Int))) || (decide ((p0.datas.length : Int) > (300 : Int))))) hc6))))))) True.intro)) (by kernel_rfl) rfl
              · rcases bT (decide ((p0.elems.length : Int) > (300 : Int))) with hc7 | hc7
                · exact YW.fin [(14, false), (20, false), (26, false), (32, false), (38, false), (44, false), (50, true)] [] [1, 55] [(55, .d (.bool ((decide ((p0.types.length : Int) > (300 : Int))) || ((decide ((p0.funcs.length : Int) > (300 : Int))) || ((decide ((p0.tables.length : Int) > (300 : Int))) || ((decide ((p0.memories.length : Int) > (300 : Int))) || ((decide ((p0.globals.length : Int) > (300 : Int))) || ((decide ((p0.exports.length : Int) > (300 : Int))) || ((decide ((p0.elems.length : Int) > (300 : Int))) || (decide ((p0.datas.length : Int) > (300 : Int))))))))))))] [.k 1] _ (And.intro (And.intro hc1 (And.intro hc1 (And.intro hc1 (And.intro hc1 (And.intro hc1 (And.intro hc2 (And.intro hc2 (And.intro hc2 (And.intro hc2 (And.intro hc2 (And.intro hc3 (And.intro hc3 (And.intro hc3 (And.intro hc3 (And.intro hc3 (And.intro hc4 (And.intro hc4 (And.intro hc4 (And.intro hc4 (And.intro hc4 (And.intro hc5 (And.intro hc5 (And.intro hc5 (And.intro hc5 (And.intro hc5 (And.intro hc6 (And.intro hc6 (And.intro hc6 (And.intro hc6 (And.intro hc6 (And.intro hc7 (And.intro hc7 (And.intro hc7 (And.intro hc7 (And.intro hc7 True.intro))))))))))))))))))))))))))))))))))) (And.intro (ovB (Eq.trans (orF (b := ((decide ((p0.funcs.length : Int) > (300 : Int))) || ((decide ((p0.tables.length : Int) > (300 : Int))) || ((decide ((p0.memories.length : Int) > (300 : Int))) || ((decide ((p0.globals.length : Int) > (300 : Int))) || ((decide ((p0.exports.length : Int) > (300 : Int))) || ((decide ((p0.elems.length : Int) > (300 : Int))) || (decide ((p0.datas.length : Int) > (300 : Int)))))))))) hc1) (Eq.trans (orF (b := ((decide ((p0.tables.length : Int) > (300 : Int))) || ((decide ((p0.memories.length : Int) > (300 : Int))) || ((decide ((p0.globals.length : Int) > (300 : Int))) || ((decide ((p0.exports.length : Int) > (300 : Int))) || ((decide ((p0.elems.length : Int) > (300 : Int))) || (decide ((p0.datas.length : Int) > (300 : Int))))))))) hc2) (Eq.trans (orF (b := ((decide ((p0.memories.length : Int) > (300 : Int))) || ((decide ((p0.globals.length : Int) > (300 : Int))) || ((decide ((p0.exports.length : Int) > (300 : Int))) || ((decide ((p0.elems.length : Int) > (300 : Int))) || (decide ((p0.datas.length : Int) > (300 : Int)))))))) hc3) (Eq.trans (orF (b := ((decide ((p0.globals.length : Int) > (300 : Int))) || ((decide ((p0.exports.length : Int) > (300 : Int))) || ((decide ((p0.elems.length : Int) > (300 : Int))) || (decide ((p0.datas.length : Int) > (300 : Int))))))) hc4) (Eq.trans (orF (b := ((decide ((p0.exports.length : Int) > (300 : Int))) || ((decide ((p0.elems.length : Int) > (300 : Int))) || (decide ((p0.datas.length : Int) > (300 : Int)))))) hc5) (Eq.trans (orF (b := ((decide ((p0.elems.length : Int) > (300 : Int))) || (decide ((p0.datas.length : Int) > (300 : Int))))) hc6) (orT (b := (decide ((p0.datas.length : Int) > (300 : Int)))) hc7)))))))) True.intro)) (by kernel_rfl) rfl
                · exact YW.fin [(14, false), (20, false), (26, false), (32, false), (38, false), (44, false), (50, false)] [] [1, 55] [(55, .d (.bool ((decide ((p0.types.length : Int) > (300 : Int))) || ((decide ((p0.funcs.length : Int) > (300 : Int))) || ((decide ((p0.tables.length : Int) > (300 : Int))) || ((decide ((p0.memories.length : Int) > (300 : Int))) || ((decide ((p0.globals.length : Int) > (300 : Int))) || ((decide ((p0.exports.length : Int) > (300 : Int))) || ((decide ((p0.elems.length : Int) > (300 : Int))) || (decide ((p0.datas.length : Int) > (300 : Int))))))))))))] [.k 1] _ (And.intro (And.intro hc1 (And.intro hc1 (And.intro hc1 (And.intro hc1 (And.intro hc1 (And.intro hc2 (And.intro hc2 (And.intro hc2 (And.intro hc2 (And.intro hc2 (And.intro hc3 (And.intro hc3 (And.intro hc3 (And.intro hc3 (And.intro hc3 (And.intro hc4 (And.intro hc4 (And.intro hc4 (And.intro hc4 (And.intro hc4 (And.intro hc5 (And.intro hc5 (And.intro hc5 (And.intro hc5 (And.intro hc5 (And.intro hc6 (And.intro hc6 (And.intro hc6 (And.intro hc6 (And.intro hc6 (And.intro hc7 (And.intro hc7 (And.intro hc7 (And.intro hc7 (And.intro hc7 True.intro))))))))))))))))))))))))))))))))))) (And.intro (ovB (Eq.trans (orF (b := ((decide ((p0.funcs.length : Int) > (300 : Int))) || ((decide ((p0.tables.length : Int) > (300 : Int))) || ((decide ((p0.memories.length : Int) > (300 : Int))) || ((decide ((p0.globals.length : Int) > (300 : Int))) || ((decide ((p0.exports.length : Int) > (300 : Int))) || ((decide ((p0.elems.length : Int) > (300 : Int))) || (decide ((p0.datas.length : Int) > (300 : Int)))))))))) hc1) (Eq.trans (orF (b := ((decide ((p0.tables.length : Int) > (300 : Int))) || ((decide ((p0.memories.length : Int) > (300 : Int))) || ((decide ((p0.globals.length : Int) > (300 : Int))) || ((decide ((p0.exports.length : Int) > (300 : Int))) || ((decide ((p0.elems.length : Int) > (300 : Int))) || (decide ((p0.datas.length : Int) > (300 : Int))))))))) hc2) (Eq.trans (orF (b := ((decide ((p0.memories.length : Int) > (300 : Int))) || ((decide ((p0.globals.length : Int) > (300 : Int))) || ((decide ((p0.exports.length : Int) > (300 : Int))) || ((decide ((p0.elems.length : Int) > (300 : Int))) || (decide ((p0.datas.length : Int) > (300 : Int)))))))) hc3) (Eq.trans (orF (b := ((decide ((p0.globals.length : Int) > (300 : Int))) || ((decide ((p0.exports.length : Int) > (300 : Int))) || ((decide ((p0.elems.length : Int) > (300 : Int))) || (decide ((p0.datas.length : Int) > (300 : Int))))))) hc4) (Eq.trans (orF (b := ((decide ((p0.exports.length : Int) > (300 : Int))) || ((decide ((p0.elems.length : Int) > (300 : Int))) || (decide ((p0.datas.length : Int) > (300 : Int)))))) hc5) (Eq.trans (orF (b := ((decide ((p0.elems.length : Int) > (300 : Int))) || (decide ((p0.datas.length : Int) > (300 : Int))))) hc6) (Eq.trans (orF (b := (decide ((p0.datas.length : Int) > (300 : Int)))) hc7) (Eq.refl (decide ((p0.datas.length : Int) > (300 : Int)))))))))))) True.intro)) (by kernel_rfl) rfl
  refine AW2.cond (b := ((decide ((p0.types.length : Int) > (300 : Int))) || ((decide ((p0.funcs.length : Int) > (300 : Int))) || ((decide ((p0.tables.length : Int) > (300 : Int))) || ((decide ((p0.memories.length : Int) > (300 : Int))) || ((decide ((p0.globals.length : Int) > (300 : Int))) || ((decide ((p0.exports.length : Int) > (300 : Int))) || ((decide ((p0.elems.length : Int) > (300 : Int))) || (decide ((p0.datas.length : Int) > (300 : Int))))))))))) rfl (fun hc => ?_) (fun hc => ?_)
  · replace H := ite_t H hc
    refine AW2.seq ?_
    refine AW2.rg [] [2] [] [] ⟨[(2, .d (.bool true))], []⟩ (And.intro True.intro True.intro) (by kernel_rfl) ?_
    refine AW2.ret ?_
    have H := Option.some.inj H
    subst H
    exact retP_mk2 True.intro (by kernel_rfl)
  · replace H := ite_f H hc
    refine AW2.skip ?_
    refine AW2.seq ?_
    refine AW2.rg [] [1, 3] [] [.k 1] ⟨[(1, .p 1 0), (3, .d (.int .i64 0))], [(1, .st false (eD (eMdl p0)))]⟩ (And.intro True.intro True.intro) (by kernel_rfl) ?_
    obtain ⟨j1, H59, H⟩ := bind_some H
    refine AW2.mid ⟨[(1, .p 1 0), (3, .d (.int .i64 j1))], [(1, .st false (eD (eMdl p0)))]⟩ ?_ ?_
    · obtain ⟨j2, H52, H⟩ := bind_some H
      refine AW2.mid ⟨[(1, .p 1 0), (3, .d (.int .i64 j2))], [(1, .st false (eD (eMdl p0)))]⟩ ?_ ?_
      · obtain ⟨j3, H42, H⟩ := bind_some H
        refine AW2.mid ⟨[(1, .p 1 0), (3, .d (.int .i64 j3))], [(1, .st false (eD (eMdl p0)))]⟩ ?_ ?_
        · obtain ⟨j4, H35, H⟩ := bind_some H
          refine AW2.mid ⟨[(1, .p 1 0), (3, .d (.int .i64 j4))], [(1, .st false (eD (eMdl p0)))]⟩ ?_ ?_
          · obtain ⟨j5, H25, H⟩ := bind_some H
            refine AW2.mid ⟨[(1, .p 1 0), (3, .d (.int .i64 j5))], [(1, .st false (eD (eMdl p0)))]⟩ ?_ ?_
            · obtain ⟨j6, H15, H⟩ := bind_some H
              refine AW2.mid ⟨[(3, .d (.int .i64 j6))], []⟩ ?_ ?_
              · refine AW2.seq ?_
                refine AW2.rg [] [2] [] [] ⟨[(2, .d (.bool (decide (j6 > (1000 : Int)))))], []⟩ (And.intro True.intro True.intro) (by kernel_rfl) ?_
                refine AW2.ret ?_
                have H := Option.some.inj H
                subst H
                exact retP_mk2 True.intro (by kernel_rfl)
              · have H := H15
                refine AW2.seq ?_
                refine AW2.rg [] [1, 3, 9] [] [.k 1] ⟨[(1, .p 1 0), (3, .d (.int .i64 j5)), (9, .d (.int .i64 0))], [(1, .st false (eD (eMdl p0)))]⟩ (And.intro True.intro True.intro) (by kernel_rfl) ?_
                refine AW2.block ?_
                refine AW2.lp (σ := Int × Int) (fun v => ⟨[(1, .p 1 0), (3, .d (.int .i64 v.1)), (9, .d (.int .i64 v.2))], [(1, .st false (eD (eMdl p0)))]⟩) (fun k v => g_law08_bigModule_l0 k K p0 v.1 v.2 = some j6) ?_ K (j5, 0) H
                rintro k ⟨a9, a10⟩ H
                dsimp only at H
                cases k with
                | zero => cases H
                | succ k =>
                unfold g_law08_bigModule_l0 at H
                refine AW2.seq ?_
                refine AW2.seq ?_
                refine AW2.rg [] [1, 3, 9, 171] [] [.k 1] ⟨[(1, .p 1 0), (3, .d (.int .i64 a9)), (9, .d (.int .i64 a10)), (171, .d (.bool (decide (a10 < (p0.globals.length : Int)))))], [(1, .st false (eD (eMdl p0)))]⟩ (And.intro True.intro True.intro) (by kernel_rfl) ?_
                refine AW2.cond (b := (decide (a10 < (p0.globals.length : Int)))) rfl (fun hc => ?_) (fun hc => ?_)
                · replace H := ite_t H hc
                  refine AW2.skip ?_
                  refine AW2.seq ?_
                  refine AW2.block ?_
                  obtain ⟨h11, H⟩ := gd_some H
                  obtain ⟨x12, hx13, H⟩ := bind_some H
                  refine AW2.rg [.sb ([((p0.globals.getD a10.toNat default)).init_] : List Instr).length (flI ([((p0.globals.getD a10.toNat default)).init_] : List Instr)), .r (.int .i64 x12)] [1, 3, 9] [] [.k 1] ⟨[(1, .p 1 0), (3, .d (.int .i64 (wI (a9 + x12)))), (9, .d (.int .i64 a10))], [(1, .st false (eD (eMdl p0)))]⟩ (And.intro (And.intro h11 (And.intro (litI ([((p0.globals.getD a10.toNat default)).init_] : List Instr)) (And.intro (c_law08_countCode K ([((p0.globals.getD a10.toNat default)).init_] : List Instr) 3000 0 x12 hx13) True.intro))) True.intro) (by kernel_rfl) ?_
                  refine AW2.rg [] [1, 3, 9] [] [.k 1] ⟨[(1, .p 1 0), (3, .d (.int .i64 (wI (a9 + x12)))), (9, .d (.int .i64 (wI (a10 + 1))))], [(1, .st false (eD (eMdl p0)))]⟩ (And.intro True.intro True.intro) (by kernel_rfl) ?_
                  exact ⟨k, ((wI (a9 + x12)), (wI (a10 + 1))), Nat.lt_succ_self k, H, wk_mk [1, 3, 9] [] [.k 1] True.intro (by kernel_rfl)⟩
                · replace H := ite_f H hc
                  refine AW2.exit ?_
                  have H := Option.some.inj H
                  subst H
                  exact wk_mk [3] [] [] True.intro (by kernel_rfl)
            · have H := H25
              refine AW2.seq ?_
              refine AW2.rg [] [1, 3, 8] [] [.k 1] ⟨[(1, .p 1 0), (3, .d (.int .i64 j4)), (8, .d (.int .i64 0))], [(1, .st false (eD (eMdl p0)))]⟩ (And.intro True.intro True.intro) (by kernel_rfl) ?_
              refine AW2.block ?_
              refine AW2.lp (σ := Int × Int) (fun v => ⟨[(1, .p 1 0), (3, .d (.int .i64 v.1)), (8, .d (.int .i64 v.2))], [(1, .st false (eD (eMdl p0)))]⟩) (fun k v => g_law08_bigModule_l1 k K p0 v.1 v.2 = some j5) ?_ K (j4, 0) H
              rintro k ⟨a18, a19⟩ H
              dsimp only at H
              cases k with
              | zero => cases H
              | succ k =>
              unfold g_law08_bigModule_l1 at H
              refine AW2.seq ?_
              refine AW2.seq ?_
              refine AW2.rg [] [1, 3, 8, 145] [] [.k 1] ⟨[(1, .p 1 0), (3, .d (.int .i64 a18)), (8, .d (.int .i64 a19)), (145, .d (.bool (decide (a19 < (p0.datas.length : Int)))))], [(1, .st false (eD (eMdl p0)))]⟩ (And.intro True.intro True.intro) (by kernel_rfl) ?_
              refine AW2.cond (b := (decide (a19 < (p0.datas.length : Int)))) rfl (fun hc => ?_) (fun hc => ?_)
              · replace H := ite_t H hc
                refine AW2.skip ?_
                refine AW2.seq ?_
                refine AW2.block ?_
                obtain ⟨h20, H⟩ := gd_some H
                obtain ⟨h21, H⟩ := gd_some H
                obtain ⟨x22, hx23, H⟩ := bind_some H
                refine AW2.rg [.sb ([((p0.datas.getD a19.toNat default)).offset] : List Instr).length (flI ([((p0.datas.getD a19.toNat default)).offset] : List Instr)), .r (.int .i64 x22)] [1, 3, 8] [] [.k 1] ⟨[(1, .p 1 0), (3, .d (.int .i64 (wI ((wI (a18 + (mnI ((((p0.datas.getD a19.toNat default)).bytes).length : Int) 5000))) + x22)))), (8, .d (.int .i64 a19))], [(1, .st false (eD (eMdl p0)))]⟩ (And.intro (And.intro h20 (And.intro h21 (And.intro (litI ([((p0.datas.getD a19.toNat default)).offset] : List Instr)) (And.intro (c_law08_countCode K ([((p0.datas.getD a19.toNat default)).offset] : List Instr) 3000 0 x22 hx23) True.intro)))) True.intro) (by kernel_rfl) ?_
                refine AW2.rg [] [1, 3, 8] [] [.k 1] ⟨[(1, .p 1 0), (3, .d (.int .i64 (wI ((wI (a18 + (mnI ((((p0.datas.getD a19.toNat default)).bytes).length : Int) 5000))) + x22)))), (8, .d (.int .i64 (wI (a19 + 1))))], [(1, .st false (eD (eMdl p0)))]⟩ (And.intro True.intro True.intro) (by kernel_rfl) ?_
                exact ⟨k, ((wI ((wI (a18 + (mnI ((((p0.datas.getD a19.toNat default)).bytes).length : Int) 5000))) + x22)), (wI (a19 + 1))), Nat.lt_succ_self k, H, wk_mk [1, 3, 8] [] [.k 1] True.intro (by kernel_rfl)⟩
              · replace H := ite_f H hc
                refine AW2.exit ?_
                have H := Option.some.inj H
                subst H
                exact wk_mk [1, 3] [] [.k 1] True.intro (by kernel_rfl)
          · have H := H35
            refine AW2.seq ?_
            refine AW2.rg [] [1, 3, 7] [] [.k 1] ⟨[(1, .p 1 0), (3, .d (.int .i64 j3)), (7, .d (.int .i64 0))], [(1, .st false (eD (eMdl p0)))]⟩ (And.intro True.intro True.intro) (by kernel_rfl) ?_
            refine AW2.block ?_
            refine AW2.lp (σ := Int × Int) (fun v => ⟨[(1, .p 1 0), (3, .d (.int .i64 v.1)), (7, .d (.int .i64 v.2))], [(1, .st false (eD (eMdl p0)))]⟩) (fun k v => g_law08_bigModule_l2 k K p0 v.1 v.2 = some j4) ?_ K (j3, 0) H
            rintro k ⟨a28, a29⟩ H
            dsimp only at H
            cases k with
            | zero => cases H
            | succ k =>
            unfold g_law08_bigModule_l2 at H
            refine AW2.seq ?_
            refine AW2.seq ?_
            refine AW2.rg [] [1, 3, 7, 119] [] [.k 1] ⟨[(1, .p 1 0), (3, .d (.int .i64 a28)), (7, .d (.int .i64 a29)), (119, .d (.bool (decide (a29 < (p0.elems.length : Int)))))], [(1, .st false (eD (eMdl p0)))]⟩ (And.intro True.intro True.intro) (by kernel_rfl) ?_
            refine AW2.cond (b := (decide (a29 < (p0.elems.length : Int)))) rfl (fun hc => ?_) (fun hc => ?_)
            · replace H := ite_t H hc
              refine AW2.skip ?_
              refine AW2.seq ?_
              refine AW2.block ?_
              obtain ⟨h30, H⟩ := gd_some H
              obtain ⟨h31, H⟩ := gd_some H
              obtain ⟨x32, hx33, H⟩ := bind_some H
              refine AW2.rg [.sb ([((p0.elems.getD a29.toNat default)).offset] : List Instr).length (flI ([((p0.elems.getD a29.toNat default)).offset] : List Instr)), .r (.int .i64 x32)] [1, 3, 7] [] [.k 1] ⟨[(1, .p 1 0), (3, .d (.int .i64 (wI ((wI (a28 + (mnI ((((p0.elems.getD a29.toNat default)).funcs).length : Int) 5000))) + x32)))), (7, .d (.int .i64 a29))], [(1, .st false (eD (eMdl p0)))]⟩ (And.intro (And.intro h30 (And.intro h31 (And.intro (litI ([((p0.elems.getD a29.toNat default)).offset] : List Instr)) (And.intro (c_law08_countCode K ([((p0.elems.getD a29.toNat default)).offset] : List Instr) 3000 0 x32 hx33) True.intro)))) True.intro) (by kernel_rfl) ?_
              refine AW2.rg [] [1, 3, 7] [] [.k 1] ⟨[(1, .p 1 0), (3, .d (.int .i64 (wI ((wI (a28 + (mnI ((((p0.elems.getD a29.toNat default)).funcs).length : Int) 5000))) + x32)))), (7, .d (.int .i64 (wI (a29 + 1))))], [(1, .st false (eD (eMdl p0)))]⟩ (And.intro True.intro True.intro) (by kernel_rfl) ?_
              exact ⟨k, ((wI ((wI (a28 + (mnI ((((p0.elems.getD a29.toNat default)).funcs).length : Int) 5000))) + x32)), (wI (a29 + 1))), Nat.lt_succ_self k, H, wk_mk [1, 3, 7] [] [.k 1] True.intro (by kernel_rfl)⟩
            · replace H := ite_f H hc
              refine AW2.exit ?_
              have H := Option.some.inj H
              subst H
              exact wk_mk [1, 3] [] [.k 1] True.intro (by kernel_rfl)
        · have H := H42
          refine AW2.seq ?_
          refine AW2.rg [] [1, 3, 6] [] [.k 1] ⟨[(1, .p 1 0), (3, .d (.int .i64 j2)), (6, .d (.int .i64 0))], [(1, .st false (eD (eMdl p0)))]⟩ (And.intro True.intro True.intro) (by kernel_rfl) ?_
          refine AW2.block ?_
          refine AW2.lp (σ := Int × Int) (fun v => ⟨[(1, .p 1 0), (3, .d (.int .i64 v.1)), (6, .d (.int .i64 v.2))], [(1, .st false (eD (eMdl p0)))]⟩) (fun k v => g_law08_bigModule_l3 k p0 v.1 v.2 = some j3) ?_ K (j2, 0) H
          rintro k ⟨a38, a39⟩ H
          dsimp only at H
          cases k with
          | zero => cases H
          | succ k =>
          unfold g_law08_bigModule_l3 at H
          refine AW2.seq ?_
          refine AW2.seq ?_
          refine AW2.rg [] [1, 3, 6, 102] [] [.k 1] ⟨[(1, .p 1 0), (3, .d (.int .i64 a38)), (6, .d (.int .i64 a39)), (102, .d (.bool (decide (a39 < (p0.exports.length : Int)))))], [(1, .st false (eD (eMdl p0)))]⟩ (And.intro True.intro True.intro) (by kernel_rfl) ?_
          refine AW2.cond (b := (decide (a39 < (p0.exports.length : Int)))) rfl (fun hc => ?_) (fun hc => ?_)
          · replace H := ite_t H hc
            refine AW2.skip ?_
            refine AW2.seq ?_
            refine AW2.block ?_
            obtain ⟨h40, H⟩ := gd_some H
            refine AW2.rg [] [1, 3, 6] [] [.k 1] ⟨[(1, .p 1 0), (3, .d (.int .i64 (wI (a38 + (mnI ((((p0.exports.getD a39.toNat default)).name).size : Int) 5000))))), (6, .d (.int .i64 a39))], [(1, .st false (eD (eMdl p0)))]⟩ (And.intro (And.intro h40 True.intro) True.intro) (by kernel_rfl) ?_
            refine AW2.rg [] [1, 3, 6] [] [.k 1] ⟨[(1, .p 1 0), (3, .d (.int .i64 (wI (a38 + (mnI ((((p0.exports.getD a39.toNat default)).name).size : Int) 5000))))), (6, .d (.int .i64 (wI (a39 + 1))))], [(1, .st false (eD (eMdl p0)))]⟩ (And.intro True.intro True.intro) (by kernel_rfl) ?_
            exact ⟨k, ((wI (a38 + (mnI ((((p0.exports.getD a39.toNat default)).name).size : Int) 5000))), (wI (a39 + 1))), Nat.lt_succ_self k, H, wk_mk [1, 3, 6] [] [.k 1] True.intro (by kernel_rfl)⟩
          · replace H := ite_f H hc
            refine AW2.exit ?_
            have H := Option.some.inj H
            subst H
            exact wk_mk [1, 3] [] [.k 1] True.intro (by kernel_rfl)
      · have H := H52
        refine AW2.seq ?_
        refine AW2.rg [] [1, 3, 5] [] [.k 1] ⟨[(1, .p 1 0), (3, .d (.int .i64 j1)), (5, .d (.int .i64 0))], [(1, .st false (eD (eMdl p0)))]⟩ (And.intro True.intro True.intro) (by kernel_rfl) ?_
        refine AW2.block ?_
        refine AW2.lp (σ := Int × Int) (fun v => ⟨[(1, .p 1 0), (3, .d (.int .i64 v.1)), (5, .d (.int .i64 v.2))], [(1, .st false (eD (eMdl p0)))]⟩) (fun k v => g_law08_bigModule_l4 k K p0 v.1 v.2 = some j2) ?_ K (j1, 0) H
        rintro k ⟨a45, a46⟩ H
        dsimp only at H
        cases k with
        | zero => cases H
        | succ k =>
        unfold g_law08_bigModule_l4 at H
        refine AW2.seq ?_
        refine AW2.seq ?_
        refine AW2.rg [] [1, 3, 5, 77] [] [.k 1] ⟨[(1, .p 1 0), (3, .d (.int .i64 a45)), (5, .d (.int .i64 a46)), (77, .d (.bool (decide (a46 < (p0.funcs.length : Int)))))], [(1, .st false (eD (eMdl p0)))]⟩ (And.intro True.intro True.intro) (by kernel_rfl) ?_
        refine AW2.cond (b := (decide (a46 < (p0.funcs.length : Int)))) rfl (fun hc => ?_) (fun hc => ?_)
        · replace H := ite_t H hc
          refine AW2.skip ?_
          refine AW2.seq ?_
          refine AW2.block ?_
          obtain ⟨h47, H⟩ := gd_some H
          obtain ⟨h48, H⟩ := gd_some H
          obtain ⟨x49, hx50, H⟩ := bind_some H
          refine AW2.rg [.r (.int .i64 x49)] [1, 3, 5] [] [.k 1] ⟨[(1, .p 1 0), (3, .d (.int .i64 (wI ((wI (a45 + (mnI ((((p0.funcs.getD a46.toNat default)).locals).length : Int) 5000))) + x49)))), (5, .d (.int .i64 a46))], [(1, .st false (eD (eMdl p0)))]⟩ (And.intro (And.intro h47 (And.intro h48 (And.intro (c_law08_countCode K (((p0.funcs.getD a46.toNat default)).body) 3000 0 x49 hx50) True.intro))) True.intro) (by kernel_rfl) ?_
          refine AW2.rg [] [1, 3, 5] [] [.k 1] ⟨[(1, .p 1 0), (3, .d (.int .i64 (wI ((wI (a45 + (mnI ((((p0.funcs.getD a46.toNat default)).locals).length : Int) 5000))) + x49)))), (5, .d (.int .i64 (wI (a46 + 1))))], [(1, .st false (eD (eMdl p0)))]⟩ (And.intro True.intro True.intro) (by kernel_rfl) ?_
          exact ⟨k, ((wI ((wI (a45 + (mnI ((((p0.funcs.getD a46.toNat default)).locals).length : Int) 5000))) + x49)), (wI (a46 + 1))), Nat.lt_succ_self k, H, wk_mk [1, 3, 5] [] [.k 1] True.intro (by kernel_rfl)⟩
        · replace H := ite_f H hc
          refine AW2.exit ?_
          have H := Option.some.inj H
          subst H
          exact wk_mk [1, 3] [] [.k 1] True.intro (by kernel_rfl)
    · have H := H59
      refine AW2.seq ?_
      refine AW2.rg [] [1, 3, 4] [] [.k 1] ⟨[(1, .p 1 0), (3, .d (.int .i64 0)), (4, .d (.int .i64 0))], [(1, .st false (eD (eMdl p0)))]⟩ (And.intro True.intro True.intro) (by kernel_rfl) ?_
      refine AW2.block ?_
      refine AW2.lp (σ := Int × Int) (fun v => ⟨[(1, .p 1 0), (3, .d (.int .i64 v.1)), (4, .d (.int .i64 v.2))], [(1, .st false (eD (eMdl p0)))]⟩) (fun k v => g_law08_bigModule_l5 k p0 v.1 v.2 = some j1) ?_ K (0, 0) H
      rintro k ⟨a55, a56⟩ H
      dsimp only at H
      cases k with
      | zero => cases H
      | succ k =>
      unfold g_law08_bigModule_l5 at H
      refine AW2.seq ?_
      refine AW2.seq ?_
      refine AW2.rg [] [1, 3, 4, 60] [] [.k 1] ⟨[(1, .p 1 0), (3, .d (.int .i64 a55)), (4, .d (.int .i64 a56)), (60, .d (.bool (decide (a56 < (p0.types.length : Int)))))], [(1, .st false (eD (eMdl p0)))]⟩ (And.intro True.intro True.intro) (by kernel_rfl) ?_
      refine AW2.cond (b := (decide (a56 < (p0.types.length : Int)))) rfl (fun hc => ?_) (fun hc => ?_)
      · replace H := ite_t H hc
        refine AW2.skip ?_
        refine AW2.seq ?_
        refine AW2.block ?_
        obtain ⟨h57, H⟩ := gd_some H
        refine AW2.rg [] [1, 3, 4] [] [.k 1] ⟨[(1, .p 1 0), (3, .d (.int .i64 (wI (a55 + (mnI ((((p0.types.getD a56.toNat default)).params).length : Int) 5000))))), (4, .d (.int .i64 a56))], [(1, .st false (eD (eMdl p0)))]⟩ (And.intro (And.intro h57 True.intro) True.intro) (by kernel_rfl) ?_
        refine AW2.rg [] [1, 3, 4] [] [.k 1] ⟨[(1, .p 1 0), (3, .d (.int .i64 (wI (a55 + (mnI ((((p0.types.getD a56.toNat default)).params).length : Int) 5000))))), (4, .d (.int .i64 (wI (a56 + 1))))], [(1, .st false (eD (eMdl p0)))]⟩ (And.intro True.intro True.intro) (by kernel_rfl) ?_
        exact ⟨k, ((wI (a55 + (mnI ((((p0.types.getD a56.toNat default)).params).length : Int) 5000))), (wI (a56 + 1))), Nat.lt_succ_self k, H, wk_mk [1, 3, 4] [] [.k 1] True.intro (by kernel_rfl)⟩
      · replace H := ite_f H hc
        refine AW2.exit ?_
        have H := Option.some.inj H
        subst H
        exact wk_mk [1, 3] [] [.k 1] True.intro (by kernel_rfl)

/- mandrel/mandrellaw08.kinds -/
def g_law08_kinds_l0 : Nat → (List Int) → (List Int) → Int → Option ((List Int))
  | 0, _, _, _ => none
  | k+1, p0, a4, a5 => (if (decide (a5 < (p0.length : Int))) = true then gd (0 ≤ a5 ∧ a5 < (p0.length : Int)) (gd ((a4.length + 1) * 1 ≤ 140737488355328) (g_law08_kinds_l0 k p0 (a4 ++ ([(p0.getD a5.toNat default)] : List Int)) (wI (a5 + 1)))) else some a4)

def g_law08_kinds (K : Nat) (p0 : List Int) : Option (List Int) := (g_law08_kinds_l0 K p0 ([] : List Int) 0).bind (fun j1 => some j1)

theorem c_law08_kinds (K : Nat) (p0 : List Int) (r : List Int) (H : g_law08_kinds K p0 = some r) : CF E 17 [sV (eI .u8) p0] (sV (eI .u8) r) := by
  refine cf_of (A := F_law08_kinds) fn_law08_kinds rfl fun fr => ?_
  unfold g_law08_kinds at H
  refine AW2.seq ?_
  refine AW2.rg [] [0] [] [] ⟨[(0, .d (sV (eI .u8) p0))], []⟩ (And.intro True.intro True.intro) (by kernel_rfl) ?_
  refine AW2.seq ?_
  refine AW2.rg [] [0, 3] [] [] ⟨[(0, .d (sV (eI .u8) p0)), (3, .d .nils)], []⟩ (And.intro True.intro True.intro) (by kernel_rfl) ?_
  obtain ⟨j1, H9, H⟩ := bind_some H
  refine AW2.mid ⟨[(3, .ls 17 0 j1.length)], [(17, .sl false 1 j1.length (fl (eI .u8) j1))]⟩ ?_ ?_
  · refine AW2.seq ?_
    refine AW2.rg [] [2] [] [.k 17] ⟨[(2, .ls 17 0 j1.length)], [(17, .sl false 1 j1.length (fl (eI .u8) j1))]⟩ (And.intro True.intro True.intro) (by kernel_rfl) ?_
    refine AW2.ret ?_
    have H := Option.some.inj H
    subst H
    exact retP_mk2 (And.intro (Nat.le_refl j1.length) (And.intro (dfl (eI .u8) (dep_eI .u8) j1) True.intro)) (by kernel_rfl)
  · have H := H9
    refine AW2.seq ?_
    refine AW2.rg [] [0, 3, 4] [] [] ⟨[(0, .d (sV (eI .u8) p0)), (3, .d .nils), (4, .d (.int .i64 0))], []⟩ (And.intro True.intro True.intro) (by kernel_rfl) ?_
    refine AW2.block ?_
    refine AW2.cv [.s 3 17 1 (fl (eI .u8) ([] : List Int))] [0, 3, 4] [] [.k 17] ⟨[(0, .d (sV (eI .u8) p0)), (3, .ls 17 0 ([] : List Int).length), (4, .d (.int .i64 0))], [(17, .sl false 1 ([] : List Int).length (fl (eI .u8) ([] : List Int)))]⟩ True.intro (by kernel_rfl) ?_
    refine AW2.lp (σ := (List Int) × Int) (fun v => ⟨[(0, .d (sV (eI .u8) p0)), (3, .ls 17 0 v.1.length), (4, .d (.int .i64 v.2))], [(17, .sl false 1 v.1.length (fl (eI .u8) v.1))]⟩) (fun k v => g_law08_kinds_l0 k p0 v.1 v.2 = some j1) ?_ K (([] : List Int), 0) H
    rintro k ⟨a4, a5⟩ H
    dsimp only at H
    cases k with
    | zero => cases H
    | succ k =>
    unfold g_law08_kinds_l0 at H
    refine AW2.seq ?_
    refine AW2.seq ?_
    refine AW2.rg [] [0, 3, 4, 8] [] [.k 17] ⟨[(0, .d (sV (eI .u8) p0)), (3, .ls 17 0 a4.length), (4, .d (.int .i64 a5)), (8, .d (.bool (decide (a5 < (p0.length : Int)))))], [(17, .sl false 1 a4.length (fl (eI .u8) a4))]⟩ (And.intro True.intro True.intro) (by kernel_rfl) ?_
    refine AW2.cond (b := (decide (a5 < (p0.length : Int)))) rfl (fun hc => ?_) (fun hc => ?_)
    · replace H := ite_t H hc
      refine AW2.skip ?_
      refine AW2.seq ?_
      refine AW2.block ?_
      obtain ⟨h6, H⟩ := gd_some H
      obtain ⟨h7, H⟩ := gd_some H
      refine AW2.rg [.sb ([(p0.getD a5.toNat default)] : List Int).length (fl (eI .u8) ([(p0.getD a5.toNat default)] : List Int)), .s true (a4 ++ ([(p0.getD a5.toNat default)] : List Int)).length (fl (eI .u8) (a4 ++ ([(p0.getD a5.toNat default)] : List Int)))] [0, 3, 4] [] [.k 17] ⟨[(0, .d (sV (eI .u8) p0)), (3, .ls 17 0 (a4 ++ ([(p0.getD a5.toNat default)] : List Int)).length), (4, .d (.int .i64 a5))], [(17, .sl false 1 (a4 ++ ([(p0.getD a5.toNat default)] : List Int)).length (fl (eI .u8) (a4 ++ ([(p0.getD a5.toNat default)] : List Int))))]⟩ (And.intro (And.intro h6 (And.intro (litF (eI .u8) ([(p0.getD a5.toNat default)] : List Int)) (And.intro (Nat.le_refl a4.length) (And.intro h7 (And.intro (app1 (eI .u8) a4 (p0.getD a5.toNat default) (fl (eI .u8) ([(p0.getD a5.toNat default)] : List Int)) rfl) True.intro))))) True.intro) (by kernel_rfl) ?_
      refine AW2.rg [] [0, 3, 4] [] [.k 17] ⟨[(0, .d (sV (eI .u8) p0)), (3, .ls 17 0 (a4 ++ ([(p0.getD a5.toNat default)] : List Int)).length), (4, .d (.int .i64 (wI (a5 + 1))))], [(17, .sl false 1 (a4 ++ ([(p0.getD a5.toNat default)] : List Int)).length (fl (eI .u8) (a4 ++ ([(p0.getD a5.toNat default)] : List Int))))]⟩ (And.intro True.intro True.intro) (by kernel_rfl) ?_
      exact ⟨k, ((a4 ++ ([(p0.getD a5.toNat default)] : List Int)), (wI (a5 + 1))), Nat.lt_succ_self k, H, wk_mk [0, 3, 4] [] [.k 17] True.intro (by kernel_rfl)⟩
    · replace H := ite_f H hc
      refine AW2.exit ?_
      have H := Option.some.inj H
      subst H
      exact wk_mk [3] [] [.k 17] True.intro (by kernel_rfl)

end Go.Proofs.YtablleokoifolaaGreatDoor

/- Plain functions and their contracts. Written by a program of this claim set (g2.py). -/
set_option linter.unusedVariables false
set_option maxRecDepth 100000
set_option maxHeartbeats 4000000
namespace Go.Proofs.YtablleokoifolaaGreatDoor
open Go

/- mandrel/mandrellaw08.give -/
def g_law08_give : Nat → (List Instr) → Option (List Instr)
  | 0, _ => none
  | k+1, p0 => (lpN k (fun (rec6 : (List Instr) × Int → Option ((List Instr))) v => match v with | (a4, a5) => (if (decide (a5 < (p0.length : Int))) = true then gd (0 ≤ a5 ∧ a5 < (p0.length : Int)) (((g_law08_give k (((p0.getD a5.toNat default)).body)).bind fun x8 => ((g_law08_give k (((p0.getD a5.toNat default)).els)).bind fun x10 => gd ((a4.length + 1) * 104 ≤ 140737488355328) (rec6 ((a4 ++ ([(Instr.mk (((p0.getD a5.toNat default)).op) (((p0.getD a5.toNat default)).n) (((p0.getD a5.toNat default)).align) (((p0.getD a5.toNat default)).offset) (((p0.getD a5.toNat default)).result) x8 x10 (((p0.getD a5.toNat default)).labels))] : List Instr)), (wI (a5 + 1))))))) else some a4)) (([] : List Instr), 0)).bind (fun j1 => some j1)
theorem s_law08_give (k : Nat) (IH_law08_give : ∀ (p0 : List Instr) (r : List Instr), g_law08_give k p0 = some r → CF E 18 [sVI p0] (sVI r)) : ∀ (p0 : List Instr) (r : List Instr), g_law08_give (k + 1) p0 = some r → CF E 18 [sVI p0] (sVI r) := by
  intro p0 r H
  refine cf_of (A := F_law08_give) fn_law08_give rfl fun fr => ?_
  unfold g_law08_give at H
  refine AW2.seq ?_
  refine AW2.rg [] [0] [] [] ⟨[(0, .d (sVI p0))], []⟩ (And.intro True.intro True.intro) (by kernel_rfl) ?_
  refine AW2.seq ?_
  refine AW2.rg [] [0, 3] [] [] ⟨[(0, .d (sVI p0)), (3, .d .nils)], []⟩ (And.intro True.intro True.intro) (by kernel_rfl) ?_
  obtain ⟨j1, H14, H⟩ := bind_some H
  refine AW2.mid ⟨[(3, .ls 37 0 j1.length)], [(37, .sl false 8 j1.length (flI j1))]⟩ ?_ ?_
  · refine AW2.seq ?_
    refine AW2.rg [] [2] [] [.k 37] ⟨[(2, .ls 37 0 j1.length)], [(37, .sl false 8 j1.length (flI j1))]⟩ (And.intro True.intro True.intro) (by kernel_rfl) ?_
    refine AW2.ret ?_
    have H := Option.some.inj H
    subst H
    exact retP_mk2 (And.intro (Nat.le_refl j1.length) (And.intro (dflI j1) True.intro)) (by kernel_rfl)
  · have H := H14
    refine AW2.seq ?_
    refine AW2.rg [] [0, 3, 4] [] [] ⟨[(0, .d (sVI p0)), (3, .d .nils), (4, .d (.int .i64 0))], []⟩ (And.intro True.intro True.intro) (by kernel_rfl) ?_
    refine AW2.block ?_
    refine AW2.cv [.s 3 37 8 (flI ([] : List Instr))] [0, 3, 4] [] [.k 37] ⟨[(0, .d (sVI p0)), (3, .ls 37 0 ([] : List Instr).length), (4, .d (.int .i64 0))], [(37, .sl false 8 ([] : List Instr).length (flI ([] : List Instr)))]⟩ True.intro (by kernel_rfl) ?_
    refine AW2.lpR (σ := (List Instr) × Int) (fun v => ⟨[(0, .d (sVI p0)), (3, .ls 37 0 v.1.length), (4, .d (.int .i64 v.2))], [(37, .sl false 8 v.1.length (flI v.1))]⟩) ?_ (v := (([] : List Instr), 0)) H
    rintro rec6 ⟨a4, a5⟩ H
    dsimp only at H
    refine AW2.seq ?_
    refine AW2.seq ?_
    refine AW2.rg [] [0, 3, 4, 9] [] [.k 37] ⟨[(0, .d (sVI p0)), (3, .ls 37 0 a4.length), (4, .d (.int .i64 a5)), (9, .d (.bool (decide (a5 < (p0.length : Int)))))], [(37, .sl false 8 a4.length (flI a4))]⟩ (And.intro True.intro True.intro) (by kernel_rfl) ?_
    refine AW2.cond (b := (decide (a5 < (p0.length : Int)))) rfl (fun hc => ?_) (fun hc => ?_)
    · replace H := ite_t H hc
      refine AW2.skip ?_
      refine AW2.seq ?_
      refine AW2.block ?_
      refine AW2.seq ?_
      obtain ⟨h7, H⟩ := gd_some H
      refine AW2.rg [.e (eInstr (p0.getD a5.toNat default)), .k 5] [0, 3, 4, 5] [] [.k 5, .k 37] ⟨[(0, .d (sVI p0)), (3, .ls 37 0 a4.length), (4, .d (.int .i64 a5)), (5, .p 5 0)], [(5, .st false (eD (eInstr (p0.getD a5.toNat default)))), (37, .sl false 8 a4.length (flI a4))]⟩ (And.intro (And.intro h7 (And.intro (flI_ix h7) True.intro)) True.intro) (by kernel_rfl) ?_
      obtain ⟨x8, hx9, H⟩ := bind_some H
      obtain ⟨x10, hx11, H⟩ := bind_some H
      obtain ⟨h12, H⟩ := gd_some H
      refine AW2.rg [.r (sVI x8), .r (sVI x10), .sb ([(Instr.mk (((p0.getD a5.toNat default)).op) (((p0.getD a5.toNat default)).n) (((p0.getD a5.toNat default)).align) (((p0.getD a5.toNat default)).offset) (((p0.getD a5.toNat default)).result) x8 x10 (((p0.getD a5.toNat default)).labels))] : List Instr).length (flI ([(Instr.mk (((p0.getD a5.toNat default)).op) (((p0.getD a5.toNat default)).n) (((p0.getD a5.toNat default)).align) (((p0.getD a5.toNat default)).offset) (((p0.getD a5.toNat default)).result) x8 x10 (((p0.getD a5.toNat default)).labels))] : List Instr)), .s true (a4 ++ ([(Instr.mk (((p0.getD a5.toNat default)).op) (((p0.getD a5.toNat default)).n) (((p0.getD a5.toNat default)).align) (((p0.getD a5.toNat default)).offset) (((p0.getD a5.toNat default)).result) x8 x10 (((p0.getD a5.toNat default)).labels))] : List Instr)).length (flI (a4 ++ ([(Instr.mk (((p0.getD a5.toNat default)).op) (((p0.getD a5.toNat default)).n) (((p0.getD a5.toNat default)).align) (((p0.getD a5.toNat default)).offset) (((p0.getD a5.toNat default)).result) x8 x10 (((p0.getD a5.toNat default)).labels))] : List Instr)))] [0, 3, 4] [] [.k 37] ⟨[(0, .d (sVI p0)), (3, .ls 37 0 (a4 ++ ([(Instr.mk (((p0.getD a5.toNat default)).op) (((p0.getD a5.toNat default)).n) (((p0.getD a5.toNat default)).align) (((p0.getD a5.toNat default)).offset) (((p0.getD a5.toNat default)).result) x8 x10 (((p0.getD a5.toNat default)).labels))] : List Instr)).length), (4, .d (.int .i64 a5))], [(37, .sl false 8 (a4 ++ ([(Instr.mk (((p0.getD a5.toNat default)).op) (((p0.getD a5.toNat default)).n) (((p0.getD a5.toNat default)).align) (((p0.getD a5.toNat default)).offset) (((p0.getD a5.toNat default)).result) x8 x10 (((p0.getD a5.toNat default)).labels))] : List Instr)).length (flI (a4 ++ ([(Instr.mk (((p0.getD a5.toNat default)).op) (((p0.getD a5.toNat default)).n) (((p0.getD a5.toNat default)).align) (((p0.getD a5.toNat default)).offset) (((p0.getD a5.toNat default)).result) x8 x10 (((p0.getD a5.toNat default)).labels))] : List Instr))))]⟩ (And.intro (And.intro (IH_law08_give (((p0.getD a5.toNat default)).body) x8 hx9) (And.intro (IH_law08_give (((p0.getD a5.toNat default)).els) x10 hx11) (And.intro (litI ([(Instr.mk (((p0.getD a5.toNat default)).op) (((p0.getD a5.toNat default)).n) (((p0.getD a5.toNat default)).align) (((p0.getD a5.toNat default)).offset) (((p0.getD a5.toNat default)).result) x8 x10 (((p0.getD a5.toNat default)).labels))] : List Instr)) (And.intro (Nat.le_refl a4.length) (And.intro h12 (And.intro (appI a4 (Instr.mk (((p0.getD a5.toNat default)).op) (((p0.getD a5.toNat default)).n) (((p0.getD a5.toNat default)).align) (((p0.getD a5.toNat default)).offset) (((p0.getD a5.toNat default)).result) x8 x10 (((p0.getD a5.toNat default)).labels)) (flI ([(Instr.mk (((p0.getD a5.toNat default)).op) (((p0.getD a5.toNat default)).n) (((p0.getD a5.toNat default)).align) (((p0.getD a5.toNat default)).offset) (((p0.getD a5.toNat default)).result) x8 x10 (((p0.getD a5.toNat default)).labels))] : List Instr)) (flI_eq (l := ([(Instr.mk (((p0.getD a5.toNat default)).op) (((p0.getD a5.toNat default)).n) (((p0.getD a5.toNat default)).align) (((p0.getD a5.toNat default)).offset) (((p0.getD a5.toNat default)).result) x8 x10 (((p0.getD a5.toNat default)).labels))] : List Instr)) Nat.zero_lt_one)) True.intro)))))) True.intro) (by kernel_rfl) ?_
      refine AW2.rg [] [0, 3, 4] [] [.k 37] ⟨[(0, .d (sVI p0)), (3, .ls 37 0 (a4 ++ ([(Instr.mk (((p0.getD a5.toNat default)).op) (((p0.getD a5.toNat default)).n) (((p0.getD a5.toNat default)).align) (((p0.getD a5.toNat default)).offset) (((p0.getD a5.toNat default)).result) x8 x10 (((p0.getD a5.toNat default)).labels))] : List Instr)).length), (4, .d (.int .i64 (wI (a5 + 1))))], [(37, .sl false 8 (a4 ++ ([(Instr.mk (((p0.getD a5.toNat default)).op) (((p0.getD a5.toNat default)).n) (((p0.getD a5.toNat default)).align) (((p0.getD a5.toNat default)).offset) (((p0.getD a5.toNat default)).result) x8 x10 (((p0.getD a5.toNat default)).labels))] : List Instr)).length (flI (a4 ++ ([(Instr.mk (((p0.getD a5.toNat default)).op) (((p0.getD a5.toNat default)).n) (((p0.getD a5.toNat default)).align) (((p0.getD a5.toNat default)).offset) (((p0.getD a5.toNat default)).result) x8 x10 (((p0.getD a5.toNat default)).labels))] : List Instr))))]⟩ (And.intro True.intro True.intro) (by kernel_rfl) ?_
      exact ⟨((a4 ++ ([(Instr.mk (((p0.getD a5.toNat default)).op) (((p0.getD a5.toNat default)).n) (((p0.getD a5.toNat default)).align) (((p0.getD a5.toNat default)).offset) (((p0.getD a5.toNat default)).result) x8 x10 (((p0.getD a5.toNat default)).labels))] : List Instr)), (wI (a5 + 1))), H, wk_mk [0, 3, 4] [] [.k 37] True.intro (by kernel_rfl)⟩
    · replace H := ite_f H hc
      refine AW2.exit ?_
      have H := Option.some.inj H
      subst H
      exact wk_mk [3] [] [.k 37] True.intro (by kernel_rfl)
theorem c_scc_law08_give : ∀ k, (∀ (p0 : List Instr) (r : List Instr), g_law08_give k p0 = some r → CF E 18 [sVI p0] (sVI r)) := by
  intro k
  induction k with
  | zero => exact fun _ _ H => (by cases H)
  | succ k ih =>
    have i0 := ih
    exact s_law08_give k i0
theorem c_law08_give (k : Nat) : ∀ (p0 : List Instr) (r : List Instr), g_law08_give k p0 = some r → CF E 18 [sVI p0] (sVI r) := (c_scc_law08_give k)

/- mandrel/mandrellaw08.one -/
def g_law08_one (K : Nat) (p0 : Instr) : Option (Instr) := ((g_law08_give K ([p0] : List Instr)).bind fun x1 => gd (0 ≤ (0 : Int) ∧ (0 : Int) < (x1.length : Int)) (some (x1.getD (0 : Int).toNat default)))

theorem c_law08_one (K : Nat) (p0 : Instr) (r : Instr) (H : g_law08_one K p0 = some r) : CF E 19 [.agg (eInstr p0)] (.agg (eInstr r)) := by
  refine cf_of (A := F_law08_one) fn_law08_one rfl fun fr => ?_
  unfold g_law08_one at H
  refine AW2.seq ?_
  refine AW2.rg [.k 1, .k 2] [1, 2] [] [.k 1, .k 2] ⟨[(1, .p 1 0), (2, .p 2 0)], [(1, .st false (eD (eInstr p0))), (2, .st false [.d (.int .u8 0), .d (.int .i64 0), .d (.int .u32 0), .d (.int .u32 0), .d (.int .u8 0), .d .nils, .d .nils, .d .nils])]⟩ (And.intro True.intro True.intro) (by kernel_rfl) ?_
  refine AW2.seq ?_
  obtain ⟨x1, hx2, H⟩ := bind_some H
  obtain ⟨h3, H⟩ := gd_some H
  refine AW2.rg [.sb ([p0] : List Instr).length (flI ([p0] : List Instr)), .r (sVI x1), .e (eInstr (x1.getD (0 : Int).toNat default))] [2] [] [.k 2] ⟨[(2, .p 2 0)], [(2, .st false (eD (eInstr (x1.getD (0 : Int).toNat default))))]⟩ (And.intro (And.intro (litI ([p0] : List Instr)) (And.intro (c_law08_give K ([p0] : List Instr) x1 hx2) (And.intro h3 (And.intro (flI_ix h3) True.intro)))) True.intro) (by kernel_rfl) ?_
  refine AW2.ret ?_
  have H := Option.some.inj H
  subst H
  exact retP_mk2 True.intro (by kernel_rfl)

end Go.Proofs.YtablleokoifolaaGreatDoor

/- Plain functions and their contracts. Written by a program of this claim set (g2.py). -/
set_option linter.unusedVariables false
set_option maxRecDepth 100000
set_option maxHeartbeats 4000000
namespace Go.Proofs.YtablleokoifolaaGreatDoor
open Go

/- mandrel/mandrellaw08.giveModule -/
def g_law08_giveModule_l0 : Nat → Nat → Mdl → (List Dat) → Int → Option ((List Dat))
  | 0, _, _, _, _ => none
  | k+1, K, p0, a11, a12 => (if (decide (a12 < (p0.datas.length : Int))) = true then gd (0 ≤ a12 ∧ a12 < (p0.datas.length : Int)) (gd (0 ≤ a12 ∧ a12 < (p0.datas.length : Int)) (((g_law08_one K (((p0.datas.getD a12.toNat default)).offset)).bind fun x15 => gd (0 ≤ a12 ∧ a12 < (p0.datas.length : Int)) (gd ((a11.length + 1) * 136 ≤ 140737488355328) (g_law08_giveModule_l0 k K p0 (a11 ++ ([(Dat.mk (((p0.datas.getD a12.toNat default)).memory) x15 (((p0.datas.getD a12.toNat default)).bytes))] : List Dat)) (wI (a12 + 1))))))) else some a11)

def g_law08_giveModule_l1 : Nat → Nat → Mdl → (List Ele) → Int → Option ((List Ele))
  | 0, _, _, _, _ => none
  | k+1, K, p0, a23, a24 => (if (decide (a24 < (p0.elems.length : Int))) = true then gd (0 ≤ a24 ∧ a24 < (p0.elems.length : Int)) (gd (0 ≤ a24 ∧ a24 < (p0.elems.length : Int)) (((g_law08_one K (((p0.elems.getD a24.toNat default)).offset)).bind fun x27 => gd (0 ≤ a24 ∧ a24 < (p0.elems.length : Int)) (gd ((a23.length + 1) * 136 ≤ 140737488355328) (g_law08_giveModule_l1 k K p0 (a23 ++ ([(Ele.mk (((p0.elems.getD a24.toNat default)).table) x27 (((p0.elems.getD a24.toNat default)).funcs))] : List Ele)) (wI (a24 + 1))))))) else some a23)

def g_law08_giveModule_l2 : Nat → Mdl → (List Xpo) → Int → Option ((List Xpo))
  | 0, _, _, _ => none
  | k+1, p0, a35, a36 => (if (decide (a36 < (p0.exports.length : Int))) = true then gd (0 ≤ a36 ∧ a36 < (p0.exports.length : Int)) (gd ((a35.length + 1) * 24 ≤ 140737488355328) (g_law08_giveModule_l2 k p0 (a35 ++ ([(p0.exports.getD a36.toNat default)] : List Xpo)) (wI (a36 + 1)))) else some a35)

def g_law08_giveModule_l3 : Nat → Nat → Mdl → (List Glo) → Int → Option ((List Glo))
  | 0, _, _, _, _ => none
  | k+1, K, p0, a43, a44 => (if (decide (a44 < (p0.globals.length : Int))) = true then gd (0 ≤ a44 ∧ a44 < (p0.globals.length : Int)) (gd (0 ≤ a44 ∧ a44 < (p0.globals.length : Int)) (gd (0 ≤ a44 ∧ a44 < (p0.globals.length : Int)) (((g_law08_one K (((p0.globals.getD a44.toNat default)).init_)).bind fun x48 => gd ((a43.length + 1) * 112 ≤ 140737488355328) (g_law08_giveModule_l3 k K p0 (a43 ++ ([(Glo.mk (((p0.globals.getD a44.toNat default)).kind) (((p0.globals.getD a44.toNat default)).mut_) x48)] : List Glo)) (wI (a44 + 1))))))) else some a43)

def g_law08_giveModule_l4 : Nat → Mdl → (List Lim) → Int → Option ((List Lim))
  | 0, _, _, _ => none
  | k+1, p0, a55, a56 => (if (decide (a56 < (p0.memories.length : Int))) = true then gd (0 ≤ a56 ∧ a56 < (p0.memories.length : Int)) (gd ((a55.length + 1) * 12 ≤ 140737488355328) (g_law08_giveModule_l4 k p0 (a55 ++ ([(p0.memories.getD a56.toNat default)] : List Lim)) (wI (a56 + 1)))) else some a55)

def g_law08_giveModule_l5 : Nat → Mdl → (List Lim) → Int → Option ((List Lim))
  | 0, _, _, _ => none
  | k+1, p0, a63, a64 => (if (decide (a64 < (p0.tables.length : Int))) = true then gd (0 ≤ a64 ∧ a64 < (p0.tables.length : Int)) (gd ((a63.length + 1) * 12 ≤ 140737488355328) (g_law08_giveModule_l5 k p0 (a63 ++ ([(p0.tables.getD a64.toNat default)] : List Lim)) (wI (a64 + 1)))) else some a63)

def g_law08_giveModule_l6 : Nat → Nat → Mdl → (List Fnc) → Int → Option ((List Fnc))
  | 0, _, _, _, _ => none
  | k+1, K, p0, a71, a72 => (if (decide (a72 < (p0.funcs.length : Int))) = true then gd (0 ≤ a72 ∧ a72 < (p0.funcs.length : Int)) (gd (0 ≤ a72 ∧ a72 < (p0.funcs.length : Int)) (((g_law08_kinds K (((p0.funcs.getD a72.toNat default)).locals)).bind fun x75 => gd (0 ≤ a72 ∧ a72 < (p0.funcs.length : Int)) (((g_law08_give K (((p0.funcs.getD a72.toNat default)).body)).bind fun x78 => gd ((a71.length + 1) * 56 ≤ 140737488355328) (g_law08_giveModule_l6 k K p0 (a71 ++ ([(Fnc.mk (((p0.funcs.getD a72.toNat default)).type_) x75 x78)] : List Fnc)) (wI (a72 + 1)))))))) else some a71)

def g_law08_giveModule_l7 : Nat → Nat → Mdl → (List Typ) → Int → Option ((List Typ))
  | 0, _, _, _, _ => none
  | k+1, K, p0, a85, a86 => (if (decide (a86 < (p0.types.length : Int))) = true then gd (0 ≤ a86 ∧ a86 < (p0.types.length : Int)) (((g_law08_kinds K (((p0.types.getD a86.toNat default)).params)).bind fun x88 => gd (0 ≤ a86 ∧ a86 < (p0.types.length : Int)) (gd ((a85.length + 1) * 32 ≤ 140737488355328) (g_law08_giveModule_l7 k K p0 (a85 ++ ([(Typ.mk x88 (((p0.types.getD a86.toNat default)).result))] : List Typ)) (wI (a86 + 1)))))) else some a85)

def g_law08_giveModule (K : Nat) (p0 : Mdl) : Option (Mdl) := (g_law08_giveModule_l7 K K p0 ([] : List Typ) 0).bind (fun j1 => (g_law08_giveModule_l6 K K p0 ([] : List Fnc) 0).bind (fun j2 => (g_law08_giveModule_l5 K p0 ([] : List Lim) 0).bind (fun j3 => (g_law08_giveModule_l4 K p0 ([] : List Lim) 0).bind (fun j4 => (g_law08_giveModule_l3 K K p0 ([] : List Glo) 0).bind (fun j5 => (g_law08_giveModule_l2 K p0 ([] : List Xpo) 0).bind (fun j6 => (g_law08_giveModule_l1 K K p0 ([] : List Ele) 0).bind (fun j7 => (g_law08_giveModule_l0 K K p0 ([] : List Dat) 0).bind (fun j8 => some (Mdl.mk j1 j2 j3 j4 j5 j6 j7 j8)))))))))

theorem c_law08_giveModule (K : Nat) (p0 : Mdl) (r : Mdl) (H : g_law08_giveModule K p0 = some r) : CF E 3 [.agg (eMdl p0)] (.agg (eMdl r)) := by
  refine cf_of (A := F_law08_giveModule) fn_law08_giveModule rfl fun fr => ?_
  unfold g_law08_giveModule at H
  refine AW2.seq ?_
  refine AW2.rg [.k 1, .k 2] [1, 2] [] [.k 1, .k 2] ⟨[(1, .p 1 0), (2, .p 2 0)], [(1, .st false (eD (eMdl p0))), (2, .st false [.d .nils, .d .nils, .d .nils, .d .nils, .d .nils, .d .nils, .d .nils, .d .nils])]⟩ (And.intro True.intro True.intro) (by kernel_rfl) ?_
  refine AW2.seq ?_
  refine AW2.rg [.k 3] [1, 2, 3] [] [.k 1, .k 2, .k 3] ⟨[(1, .p 1 0), (2, .p 2 0), (3, .p 3 0)], [(1, .st false (eD (eMdl p0))), (2, .st false [.d .nils, .d .nils, .d .nils, .d .nils, .d .nils, .d .nils, .d .nils, .d .nils]), (3, .st false [.d .nils, .d .nils, .d .nils, .d .nils, .d .nils, .d .nils, .d .nils, .d .nils])]⟩ (And.intro True.intro True.intro) (by kernel_rfl) ?_
  obtain ⟨j1, H93, H⟩ := bind_some H
  refine AW2.mid ⟨[(1, .p 1 0), (2, .p 2 0), (3, .p 3 0)], [(1, .st false (eD (eMdl p0))), (2, .st false [.d .nils, .d .nils, .d .nils, .d .nils, .d .nils, .d .nils, .d .nils, .d .nils]), (3, .st false [.ls 36 0 j1.length, .d .nils, .d .nils, .d .nils, .d .nils, .d .nils, .d .nils, .d .nils]), (36, .sl false 2 j1.length (fl eTyp j1))]⟩ ?_ ?_
  · obtain ⟨j2, H82, H⟩ := bind_some H
    refine AW2.mid ⟨[(1, .p 1 0), (2, .p 2 0), (3, .p 3 0)], [(1, .st false (eD (eMdl p0))), (2, .st false [.d .nils, .d .nils, .d .nils, .d .nils, .d .nils, .d .nils, .d .nils, .d .nils]), (3, .st false [.ls 36 0 j1.length, .ls 69 0 j2.length, .d .nils, .d .nils, .d .nils, .d .nils, .d .nils, .d .nils]), (36, .sl false 2 j1.length (fl eTyp j1)), (69, .sl false 3 j2.length (fl eFnc j2))]⟩ ?_ ?_
    · obtain ⟨j3, H68, H⟩ := bind_some H
      refine AW2.mid ⟨[(1, .p 1 0), (2, .p 2 0), (3, .p 3 0)], [(1, .st false (eD (eMdl p0))), (2, .st false [.d .nils, .d .nils, .d .nils, .d .nils, .d .nils, .d .nils, .d .nils, .d .nils]), (3, .st false [.ls 36 0 j1.length, .ls 69 0 j2.length, .ls 86 0 j3.length, .d .nils, .d .nils, .d .nils, .d .nils, .d .nils]), (36, .sl false 2 j1.length (fl eTyp j1)), (69, .sl false 3 j2.length (fl eFnc j2)), (86, .sl false 3 j3.length (fl eLim j3))]⟩ ?_ ?_
      · obtain ⟨j4, H60, H⟩ := bind_some H
        refine AW2.mid ⟨[(1, .p 1 0), (2, .p 2 0), (3, .p 3 0)], [(1, .st false (eD (eMdl p0))), (2, .st false [.d .nils, .d .nils, .d .nils, .d .nils, .d .nils, .d .nils, .d .nils, .d .nils]), (3, .st false [.ls 36 0 j1.length, .ls 69 0 j2.length, .ls 86 0 j3.length, .ls 103 0 j4.length, .d .nils, .d .nils, .d .nils, .d .nils]), (36, .sl false 2 j1.length (fl eTyp j1)), (69, .sl false 3 j2.length (fl eFnc j2)), (86, .sl false 3 j3.length (fl eLim j3)), (103, .sl false 3 j4.length (fl eLim j4))]⟩ ?_ ?_
        · obtain ⟨j5, H52, H⟩ := bind_some H
          refine AW2.mid ⟨[(1, .p 1 0), (2, .p 2 0), (3, .p 3 0)], [(1, .st false (eD (eMdl p0))), (2, .st false [.d .nils, .d .nils, .d .nils, .d .nils, .d .nils, .d .nils, .d .nils, .d .nils]), (3, .st false [.ls 36 0 j1.length, .ls 69 0 j2.length, .ls 86 0 j3.length, .ls 103 0 j4.length, .ls 135 0 j5.length, .d .nils, .d .nils, .d .nils]), (36, .sl false 2 j1.length (fl eTyp j1)), (69, .sl false 3 j2.length (fl eFnc j2)), (86, .sl false 3 j3.length (fl eLim j3)), (103, .sl false 3 j4.length (fl eLim j4)), (135, .sl false 10 j5.length (fl eGlo j5))]⟩ ?_ ?_
          · obtain ⟨j6, H40, H⟩ := bind_some H
            refine AW2.mid ⟨[(1, .p 1 0), (2, .p 2 0), (3, .p 3 0)], [(1, .st false (eD (eMdl p0))), (2, .st false [.d .nils, .d .nils, .d .nils, .d .nils, .d .nils, .d .nils, .d .nils, .d .nils]), (3, .st false [.ls 36 0 j1.length, .ls 69 0 j2.length, .ls 86 0 j3.length, .ls 103 0 j4.length, .ls 135 0 j5.length, .ls 152 0 j6.length, .d .nils, .d .nils]), (36, .sl false 2 j1.length (fl eTyp j1)), (69, .sl false 3 j2.length (fl eFnc j2)), (86, .sl false 3 j3.length (fl eLim j3)), (103, .sl false 3 j4.length (fl eLim j4)), (135, .sl false 10 j5.length (fl eGlo j5)), (152, .sl false 3 j6.length (fl eXpo j6))]⟩ ?_ ?_
            · obtain ⟨j7, H32, H⟩ := bind_some H
              refine AW2.mid ⟨[(1, .p 1 0), (2, .p 2 0), (3, .p 3 0)], [(1, .st false (eD (eMdl p0))), (2, .st false [.d .nils, .d .nils, .d .nils, .d .nils, .d .nils, .d .nils, .d .nils, .d .nils]), (3, .st false [.ls 36 0 j1.length, .ls 69 0 j2.length, .ls 86 0 j3.length, .ls 103 0 j4.length, .ls 135 0 j5.length, .ls 152 0 j6.length, .ls 184 0 j7.length, .d .nils]), (36, .sl false 2 j1.length (fl eTyp j1)), (69, .sl false 3 j2.length (fl eFnc j2)), (86, .sl false 3 j3.length (fl eLim j3)), (103, .sl false 3 j4.length (fl eLim j4)), (135, .sl false 10 j5.length (fl eGlo j5)), (152, .sl false 3 j6.length (fl eXpo j6)), (184, .sl false 10 j7.length (fl eEle j7))]⟩ ?_ ?_
              · obtain ⟨j8, H20, H⟩ := bind_some H
                refine AW2.mid ⟨[(2, .p 2 0), (3, .p 3 0)], [(2, .st false [.d .nils, .d .nils, .d .nils, .d .nils, .d .nils, .d .nils, .d .nils, .d .nils]), (3, .st false [.ls 36 0 j1.length, .ls 69 0 j2.length, .ls 86 0 j3.length, .ls 103 0 j4.length, .ls 135 0 j5.length, .ls 152 0 j6.length, .ls 184 0 j7.length, .ls 216 0 j8.length]), (36, .sl false 2 j1.length (fl eTyp j1)), (69, .sl false 3 j2.length (fl eFnc j2)), (86, .sl false 3 j3.length (fl eLim j3)), (103, .sl false 3 j4.length (fl eLim j4)), (135, .sl false 10 j5.length (fl eGlo j5)), (152, .sl false 3 j6.length (fl eXpo j6)), (184, .sl false 10 j7.length (fl eEle j7)), (216, .sl false 10 j8.length (fl eDat j8))]⟩ ?_ ?_
                · refine AW2.seq ?_
                  refine AW2.rg [] [2] [] [.k 2, .k 36, .k 69, .k 86, .k 103, .k 135, .k 152, .k 184, .k 216] ⟨[(2, .p 2 0)], [(2, .st false [.ls 36 0 j1.length, .ls 69 0 j2.length, .ls 86 0 j3.length, .ls 103 0 j4.length, .ls 135 0 j5.length, .ls 152 0 j6.length, .ls 184 0 j7.length, .ls 216 0 j8.length]), (36, .sl false 2 j1.length (fl eTyp j1)), (69, .sl false 3 j2.length (fl eFnc j2)), (86, .sl false 3 j3.length (fl eLim j3)), (103, .sl false 3 j4.length (fl eLim j4)), (135, .sl false 10 j5.length (fl eGlo j5)), (152, .sl false 3 j6.length (fl eXpo j6)), (184, .sl false 10 j7.length (fl eEle j7)), (216, .sl false 10 j8.length (fl eDat j8))]⟩ (And.intro True.intro True.intro) (by kernel_rfl) ?_
                  refine AW2.ret ?_
                  have H := Option.some.inj H
                  subst H
                  exact retP_mk2 (And.intro (Nat.le_refl j1.length) (And.intro (dfl eTyp dep_eTyp j1) (And.intro (Nat.le_refl j2.length) (And.intro (dfl eFnc dep_eFnc j2) (And.intro (Nat.le_refl j3.length) (And.intro (dfl eLim dep_eLim j3) (And.intro (Nat.le_refl j4.length) (And.intro (dfl eLim dep_eLim j4) (And.intro (Nat.le_refl j5.length) (And.intro (dfl eGlo dep_eGlo j5) (And.intro (Nat.le_refl j6.length) (And.intro (dfl eXpo dep_eXpo j6) (And.intro (Nat.le_refl j7.length) (And.intro (dfl eEle dep_eEle j7) (And.intro (Nat.le_refl j8.length) (And.intro (dfl eDat dep_eDat j8) True.intro)))))))))))))))) (by kernel_rfl)
                · have H := H20
                  refine AW2.seq ?_
                  refine AW2.rg [] [1, 2, 3, 11] [] [.k 1, .k 2, .k 3, .k 36, .k 69, .k 86, .k 103, .k 135, .k 152, .k 184] ⟨[(1, .p 1 0), (2, .p 2 0), (3, .p 3 0), (11, .d (.int .i64 0))], [(1, .st false (eD (eMdl p0))), (2, .st false [.d .nils, .d .nils, .d .nils, .d .nils, .d .nils, .d .nils, .d .nils, .d .nils]), (3, .st false [.ls 36 0 j1.length, .ls 69 0 j2.length, .ls 86 0 j3.length, .ls 103 0 j4.length, .ls 135 0 j5.length, .ls 152 0 j6.length, .ls 184 0 j7.length, .d .nils]), (36, .sl false 2 j1.length (fl eTyp j1)), (69, .sl false 3 j2.length (fl eFnc j2)), (86, .sl false 3 j3.length (fl eLim j3)), (103, .sl false 3 j4.length (fl eLim j4)), (135, .sl false 10 j5.length (fl eGlo j5)), (152, .sl false 3 j6.length (fl eXpo j6)), (184, .sl false 10 j7.length (fl eEle j7))]⟩ (And.intro True.intro True.intro) (by kernel_rfl) ?_
                  refine AW2.block ?_
                  refine AW2.cv [.c 3 7 216 10 (fl eDat ([] : List Dat))] [1, 2, 3, 11] [] [.k 1, .k 2, .k 3, .k 36, .k 69, .k 86, .k 103, .k 135, .k 152, .k 184, .k 216] ⟨[(1, .p 1 0), (2, .p 2 0), (3, .p 3 0), (11, .d (.int .i64 0))], [(1, .st false (eD (eMdl p0))), (2, .st false [.d .nils, .d .nils, .d .nils, .d .nils, .d .nils, .d .nils, .d .nils, .d .nils]), (3, .st false [.ls 36 0 j1.length, .ls 69 0 j2.length, .ls 86 0 j3.length, .ls 103 0 j4.length, .ls 135 0 j5.length, .ls 152 0 j6.length, .ls 184 0 j7.length, .ls 216 0 ([] : List Dat).length]), (36, .sl false 2 j1.length (fl eTyp j1)), (69, .sl false 3 j2.length (fl eFnc j2)), (86, .sl false 3 j3.length (fl eLim j3)), (103, .sl false 3 j4.length (fl eLim j4)), (135, .sl false 10 j5.length (fl eGlo j5)), (152, .sl false 3 j6.length (fl eXpo j6)), (184, .sl false 10 j7.length (fl eEle j7)), (216, .sl false 10 ([] : List Dat).length (fl eDat ([] : List Dat)))]⟩ True.intro (by kernel_rfl) ?_
                  refine AW2.lp (σ := (List Dat) × Int) (fun v => ⟨[(1, .p 1 0), (2, .p 2 0), (3, .p 3 0), (11, .d (.int .i64 v.2))], [(1, .st false (eD (eMdl p0))), (2, .st false [.d .nils, .d .nils, .d .nils, .d .nils, .d .nils, .d .nils, .d .nils, .d .nils]), (3, .st false [.ls 36 0 j1.length, .ls 69 0 j2.length, .ls 86 0 j3.length, .ls 103 0 j4.length, .ls 135 0 j5.length, .ls 152 0 j6.length, .ls 184 0 j7.length, .ls 216 0 v.1.length]), (36, .sl false 2 j1.length (fl eTyp j1)), (69, .sl false 3 j2.length (fl eFnc j2)), (86, .sl false 3 j3.length (fl eLim j3)), (103, .sl false 3 j4.length (fl eLim j4)), (135, .sl false 10 j5.length (fl eGlo j5)), (152, .sl false 3 j6.length (fl eXpo j6)), (184, .sl false 10 j7.length (fl eEle j7)), (216, .sl false 10 v.1.length (fl eDat v.1))]⟩) (fun k v => g_law08_giveModule_l0 k K p0 v.1 v.2 = some j8) ?_ K (([] : List Dat), 0) H
                  rintro k ⟨a11, a12⟩ H
                  dsimp only at H
                  cases k with
                  | zero => cases H
                  | succ k =>
                  unfold g_law08_giveModule_l0 at H
                  refine AW2.seq ?_
                  refine AW2.seq ?_
                  refine AW2.rg [] [1, 2, 3, 11, 190] [] [.k 1, .k 2, .k 3, .k 36, .k 69, .k 86, .k 103, .k 135, .k 152, .k 184, .k 216] ⟨[(1, .p 1 0), (2, .p 2 0), (3, .p 3 0), (11, .d (.int .i64 a12)), (190, .d (.bool (decide (a12 < (p0.datas.length : Int)))))], [(1, .st false (eD (eMdl p0))), (2, .st false [.d .nils, .d .nils, .d .nils, .d .nils, .d .nils, .d .nils, .d .nils, .d .nils]), (3, .st false [.ls 36 0 j1.length, .ls 69 0 j2.length, .ls 86 0 j3.length, .ls 103 0 j4.length, .ls 135 0 j5.length, .ls 152 0 j6.length, .ls 184 0 j7.length, .ls 216 0 a11.length]), (36, .sl false 2 j1.length (fl eTyp j1)), (69, .sl false 3 j2.length (fl eFnc j2)), (86, .sl false 3 j3.length (fl eLim j3)), (103, .sl false 3 j4.length (fl eLim j4)), (135, .sl false 10 j5.length (fl eGlo j5)), (152, .sl false 3 j6.length (fl eXpo j6)), (184, .sl false 10 j7.length (fl eEle j7)), (216, .sl false 10 a11.length (fl eDat a11))]⟩ (And.intro True.intro True.intro) (by kernel_rfl) ?_
                  refine AW2.cond (b := (decide (a12 < (p0.datas.length : Int)))) rfl (fun hc => ?_) (fun hc => ?_)
                  · replace H := ite_t H hc
                    refine AW2.skip ?_
                    refine AW2.seq ?_
                    refine AW2.block ?_
                    obtain ⟨h13, H⟩ := gd_some H
                    obtain ⟨h14, H⟩ := gd_some H
                    obtain ⟨x15, hx16, H⟩ := bind_some H
                    obtain ⟨h17, H⟩ := gd_some H
                    obtain ⟨h18, H⟩ := gd_some H
                    refine AW2.rg [.r (.agg (eInstr x15)), .sb ([(Dat.mk (((p0.datas.getD a12.toNat default)).memory) x15 (((p0.datas.getD a12.toNat default)).bytes))] : List Dat).length (fl eDat ([(Dat.mk (((p0.datas.getD a12.toNat default)).memory) x15 (((p0.datas.getD a12.toNat default)).bytes))] : List Dat)), .s true (a11 ++ ([(Dat.mk (((p0.datas.getD a12.toNat default)).memory) x15 (((p0.datas.getD a12.toNat default)).bytes))] : List Dat)).length (fl eDat (a11 ++ ([(Dat.mk (((p0.datas.getD a12.toNat default)).memory) x15 (((p0.datas.getD a12.toNat default)).bytes))] : List Dat)))] [1, 2, 3, 11] [] [.k 1, .k 2, .k 3, .k 36, .k 69, .k 86, .k 103, .k 135, .k 152, .k 184, .k 216] ⟨[(1, .p 1 0), (2, .p 2 0), (3, .p 3 0), (11, .d (.int .i64 a12))], [(1, .st false (eD (eMdl p0))), (2, .st false [.d .nils, .d .nils, .d .nils, .d .nils, .d .nils, .d .nils, .d .nils, .d .nils]), (3, .st false [.ls 36 0 j1.length, .ls 69 0 j2.length, .ls 86 0 j3.length, .ls 103 0 j4.length, .ls 135 0 j5.length, .ls 152 0 j6.length, .ls 184 0 j7.length, .ls 216 0 (a11 ++ ([(Dat.mk (((p0.datas.getD a12.toNat default)).memory) x15 (((p0.datas.getD a12.toNat default)).bytes))] : List Dat)).length]), (36, .sl false 2 j1.length (fl eTyp j1)), (69, .sl false 3 j2.length (fl eFnc j2)), (86, .sl false 3 j3.length (fl eLim j3)), (103, .sl false 3 j4.length (fl eLim j4)), (135, .sl false 10 j5.length (fl eGlo j5)), (152, .sl false 3 j6.length (fl eXpo j6)), (184, .sl false 10 j7.length (fl eEle j7)), (216, .sl false 10 (a11 ++ ([(Dat.mk (((p0.datas.getD a12.toNat default)).memory) x15 (((p0.datas.getD a12.toNat default)).bytes))] : List Dat)).length (fl eDat (a11 ++ ([(Dat.mk (((p0.datas.getD a12.toNat default)).memory) x15 (((p0.datas.getD a12.toNat default)).bytes))] : List Dat))))]⟩ (And.intro (And.intro h13 (And.intro h14 (And.intro (c_law08_one K (((p0.datas.getD a12.toNat default)).offset) x15 hx16) (And.intro h17 (And.intro (litF eDat ([(Dat.mk (((p0.datas.getD a12.toNat default)).memory) x15 (((p0.datas.getD a12.toNat default)).bytes))] : List Dat)) (And.intro (Nat.le_refl a11.length) (And.intro h18 (And.intro (app1 eDat a11 (Dat.mk (((p0.datas.getD a12.toNat default)).memory) x15 (((p0.datas.getD a12.toNat default)).bytes)) (fl eDat ([(Dat.mk (((p0.datas.getD a12.toNat default)).memory) x15 (((p0.datas.getD a12.toNat default)).bytes))] : List Dat)) rfl) True.intro)))))))) True.intro) (by kernel_rfl) ?_
                    refine AW2.rg [] [1, 2, 3, 11] [] [.k 1, .k 2, .k 3, .k 36, .k 69, .k 86, .k 103, .k 135, .k 152, .k 184, .k 216] ⟨[(1, .p 1 0), (2, .p 2 0), (3, .p 3 0), (11, .d (.int .i64 (wI (a12 + 1))))], [(1, .st false (eD (eMdl p0))), (2, .st false [.d .nils, .d .nils, .d .nils, .d .nils, .d .nils, .d .nils, .d .nils, .d .nils]), (3, .st false [.ls 36 0 j1.length, .ls 69 0 j2.length, .ls 86 0 j3.length, .ls 103 0 j4.length, .ls 135 0 j5.length, .ls 152 0 j6.length, .ls 184 0 j7.length, .ls 216 0 (a11 ++ ([(Dat.mk (((p0.datas.getD a12.toNat default)).memory) x15 (((p0.datas.getD a12.toNat default)).bytes))] : List Dat)).length]), (36, .sl false 2 j1.length (fl eTyp j1)), (69, .sl false 3 j2.length (fl eFnc j2)), (86, .sl false 3 j3.length (fl eLim j3)), (103, .sl false 3 j4.length (fl eLim j4)), (135, .sl false 10 j5.length (fl eGlo j5)), (152, .sl false 3 j6.length (fl eXpo j6)), (184, .sl false 10 j7.length (fl eEle j7)), (216, .sl false 10 (a11 ++ ([(Dat.mk (((p0.datas.getD a12.toNat default)).memory) x15 (((p0.datas.getD a12.toNat default)).bytes))] : List Dat)).length (fl eDat (a11 ++ ([(Dat.mk (((p0.datas.getD a12.toNat default)).memory) x15 (((p0.datas.getD a12.toNat default)).bytes))] : List Dat))))]⟩ (And.intro True.intro True.intro) (by kernel_rfl) ?_
                    exact ⟨k, ((a11 ++ ([(Dat.mk (((p0.datas.getD a12.toNat default)).memory) x15 (((p0.datas.getD a12.toNat default)).bytes))] : List Dat)), (wI (a12 + 1))), Nat.lt_succ_self k, H, wk_mk [1, 2, 3, 11] [] [.k 1, .k 2, .k 3, .k 36, .k 69, .k 86, .k 103, .k 135, .k 152, .k 184, .k 216] True.intro (by kernel_rfl)⟩
                  · replace H := ite_f H hc
                    refine AW2.exit ?_
                    have H := Option.some.inj H
                    subst H
                    exact wk_mk [2, 3] [] [.k 2, .k 3, .k 36, .k 69, .k 86, .k 103, .k 135, .k 152, .k 184, .k 216] True.intro (by kernel_rfl)
              · have H := H32
                refine AW2.seq ?_
                refine AW2.rg [] [1, 2, 3, 10] [] [.k 1, .k 2, .k 3, .k 36, .k 69, .k 86, .k 103, .k 135, .k 152] ⟨[(1, .p 1 0), (2, .p 2 0), (3, .p 3 0), (10, .d (.int .i64 0))], [(1, .st false (eD (eMdl p0))), (2, .st false [.d .nils, .d .nils, .d .nils, .d .nils, .d .nils, .d .nils, .d .nils, .d .nils]), (3, .st false [.ls 36 0 j1.length, .ls 69 0 j2.length, .ls 86 0 j3.length, .ls 103 0 j4.length, .ls 135 0 j5.length, .ls 152 0 j6.length, .d .nils, .d .nils]), (36, .sl false 2 j1.length (fl eTyp j1)), (69, .sl false 3 j2.length (fl eFnc j2)), (86, .sl false 3 j3.length (fl eLim j3)), (103, .sl false 3 j4.length (fl eLim j4)), (135, .sl false 10 j5.length (fl eGlo j5)), (152, .sl false 3 j6.length (fl eXpo j6))]⟩ (And.intro True.intro True.intro) (by kernel_rfl) ?_
                refine AW2.block ?_
                refine AW2.cv [.c 3 6 184 10 (fl eEle ([] : List Ele))] [1, 2, 3, 10] [] [.k 1, .k 2, .k 3, .k 36, .k 69, .k 86, .k 103, .k 135, .k 152, .k 184] ⟨[(1, .p 1 0), (2, .p 2 0), (3, .p 3 0), (10, .d (.int .i64 0))], [(1, .st false (eD (eMdl p0))), (2, .st false [.d .nils, .d .nils, .d .nils, .d .nils, .d .nils, .d .nils, .d .nils, .d .nils]), (3, .st false [.ls 36 0 j1.length, .ls 69 0 j2.length, .ls 86 0 j3.length, .ls 103 0 j4.length, .ls 135 0 j5.length, .ls 152 0 j6.length, .ls 184 0 ([] : List Ele).length, .d .nils]), (36, .sl false 2 j1.length (fl eTyp j1)), (69, .sl false 3 j2.length (fl eFnc j2)), (86, .sl false 3 j3.length (fl eLim j3)), (103, .sl false 3 j4.length (fl eLim j4)), (135, .sl false 10 j5.length (fl eGlo j5)), (152, .sl false 3 j6.length (fl eXpo j6)), (184, .sl false 10 ([] : List Ele).length (fl eEle ([] : List Ele)))]⟩ True.intro (by kernel_rfl) ?_
                refine AW2.lp (σ := (List Ele) × Int) (fun v => ⟨[(1, .p 1 0), (2, .p 2 0), (3, .p 3 0), (10, .d (.int .i64 v.2))], [(1, .st false (eD (eMdl p0))), (2, .st false [.d .nils, .d .nils, .d .nils, .d .nils, .d .nils, .d .nils, .d .nils, .d .nils]), (3, .st false [.ls 36 0 j1.length, .ls 69 0 j2.length, .ls 86 0 j3.length, .ls 103 0 j4.length, .ls 135 0 j5.length, .ls 152 0 j6.length, .ls 184 0 v.1.length, .d .nils]), (36, .sl false 2 j1.length (fl eTyp j1)), (69, .sl false 3 j2.length (fl eFnc j2)), (86, .sl false 3 j3.length (fl eLim j3)), (103, .sl false 3 j4.length (fl eLim j4)), (135, .sl false 10 j5.length (fl eGlo j5)), (152, .sl false 3 j6.length (fl eXpo j6)), (184, .sl false 10 v.1.length (fl eEle v.1))]⟩) (fun k v => g_law08_giveModule_l1 k K p0 v.1 v.2 = some j7) ?_ K (([] : List Ele), 0) H
                rintro k ⟨a23, a24⟩ H
                dsimp only at H
                cases k with
                | zero => cases H
                | succ k =>
                unfold g_law08_giveModule_l1 at H
                refine AW2.seq ?_
                refine AW2.seq ?_
                refine AW2.rg [] [1, 2, 3, 10, 158] [] [.k 1, .k 2, .k 3, .k 36, .k 69, .k 86, .k 103, .k 135, .k 152, .k 184] ⟨[(1, .p 1 0), (2, .p 2 0), (3, .p 3 0), (10, .d (.int .i64 a24)), (158, .d (.bool (decide (a24 < (p0.elems.length : Int)))))], [(1, .st false (eD (eMdl p0))), (2, .st false [.d .nils, .d .nils, .d .nils, .d .nils, .d .nils, .d .nils, .d .nils, .d .nils]), (3, .st false [.ls 36 0 j1.length, .ls 69 0 j2.length, .ls 86 0 j3.length, .ls 103 0 j4.length, .ls 135 0 j5.length, .ls 152 0 j6.length, .ls 184 0 a23.length, .d .nils]), (36, .sl false 2 j1.length (fl eTyp j1)), (69, .sl false 3 j2.length (fl eFnc j2)), (86, .sl false 3 j3.length (fl eLim j3)), (103, .sl false 3 j4.length (fl eLim j4)), (135, .sl false 10 j5.length (fl eGlo j5)), (152, .sl false 3 j6.length (fl eXpo j6)), (184, .sl false 10 a23.length (fl eEle a23))]⟩ (And.intro True.intro True.intro) (by kernel_rfl) ?_
                refine AW2.cond (b := (decide (a24 < (p0.elems.length : Int)))) rfl (fun hc => ?_) (fun hc => ?_)
                · replace H := ite_t H hc
                  refine AW2.skip ?_
                  refine AW2.seq ?_
                  refine AW2.block ?_
                  obtain ⟨h25, H⟩ := gd_some H
                  obtain ⟨h26, H⟩ := gd_some H
                  obtain ⟨x27, hx28, H⟩ := bind_some H
                  obtain ⟨h29, H⟩ := gd_some H
                  obtain ⟨h30, H⟩ := gd_some H
                  refine AW2.rg [.r (.agg (eInstr x27)), .sb ([(Ele.mk (((p0.elems.getD a24.toNat default)).table) x27 (((p0.elems.getD a24.toNat default)).funcs))] : List Ele).length (fl eEle ([(Ele.mk (((p0.elems.getD a24.toNat default)).table) x27 (((p0.elems.getD a24.toNat default)).funcs))] : List Ele)), .s true (a23 ++ ([(Ele.mk (((p0.elems.getD a24.toNat default)).table) x27 (((p0.elems.getD a24.toNat default)).funcs))] : List Ele)).length (fl eEle (a23 ++ ([(Ele.mk (((p0.elems.getD a24.toNat default)).table) x27 (((p0.elems.getD a24.toNat default)).funcs))] : List Ele)))] [1, 2, 3, 10] [] [.k 1, .k 2, .k 3, .k 36, .k 69, .k 86, .k 103, .k 135, .k 152, .k 184] ⟨[(1, .p 1 0), (2, .p 2 0), (3, .p 3 0), (10, .d (.int .i64 a24))], [(1, .st false (eD (eMdl p0))), (2, .st false [.d .nils, .d .nils, .d .nils, .d .nils, .d .nils, .d .nils, .d .nils, .d .nils]), (3, .st false [.ls 36 0 j1.length, .ls 69 0 j2.length, .ls 86 0 j3.length, .ls 103 0 j4.length, .ls 135 0 j5.length, .ls 152 0 j6.length, .ls 184 0 (a23 ++ ([(Ele.mk (((p0.elems.getD a24.toNat default)).table) x27 (((p0.elems.getD a24.toNat default)).funcs))] : List Ele)).length, .d .nils]), (36, .sl false 2 j1.length (fl eTyp j1)), (69, .sl false 3 j2.length (fl eFnc j2)), (86, .sl false 3 j3.length (fl eLim j3)), (103, .sl false 3 j4.length (fl eLim j4)), (135, .sl false 10 j5.length (fl eGlo j5)), (152, .sl false 3 j6.length (fl eXpo j6)), (184, .sl false 10 (a23 ++ ([(Ele.mk (((p0.elems.getD a24.toNat default)).table) x27 (((p0.elems.getD a24.toNat default)).funcs))] : List Ele)).length (fl eEle (a23 ++ ([(Ele.mk (((p0.elems.getD a24.toNat default)).table) x27 (((p0.elems.getD a24.toNat default)).funcs))] : List Ele))))]⟩ (And.intro (And.intro h25 (And.intro h26 (And.intro (c_law08_one K (((p0.elems.getD a24.toNat default)).offset) x27 hx28) (And.intro h29 (And.intro (litF eEle ([(Ele.mk (((p0.elems.getD a24.toNat default)).table) x27 (((p0.elems.getD a24.toNat default)).funcs))] : List Ele)) (And.intro (Nat.le_refl a23.length) (And.intro h30 (And.intro (app1 eEle a23 (Ele.mk (((p0.elems.getD a24.toNat default)).table) x27 (((p0.elems.getD a24.toNat default)).funcs)) (fl eEle ([(Ele.mk (((p0.elems.getD a24.toNat default)).table) x27 (((p0.elems.getD a24.toNat default)).funcs))] : List Ele)) rfl) True.intro)))))))) True.intro) (by kernel_rfl) ?_
                  refine AW2.rg [] [1, 2, 3, 10] [] [.k 1, .k 2, .k 3, .k 36, .k 69, .k 86, .k 103, .k 135, .k 152, .k 184] ⟨[(1, .p 1 0), (2, .p 2 0), (3, .p 3 0), (10, .d (.int .i64 (wI (a24 + 1))))], [(1, .st false (eD (eMdl p0))), (2, .st false [.d .nils, .d .nils, .d .nils, .d .nils, .d .nils, .d .nils, .d .nils, .d .nils]), (3, .st false [.ls 36 0 j1.length, .ls 69 0 j2.length, .ls 86 0 j3.length, .ls 103 0 j4.length, .ls 135 0 j5.length, .ls 152 0 j6.length, .ls 184 0 (a23 ++ ([(Ele.mk (((p0.elems.getD a24.toNat default)).table) x27 (((p0.elems.getD a24.toNat default)).funcs))] : List Ele)).length, .d .nils]), (36, .sl false 2 j1.length (fl eTyp j1)), (69, .sl false 3 j2.length (fl eFnc j2)), (86, .sl false 3 j3.length (fl eLim j3)), (103, .sl false 3 j4.length (fl eLim j4)), (135, .sl false 10 j5.length (fl eGlo j5)), (152, .sl false 3 j6.length (fl eXpo j6)), (184, .sl false 10 (a23 ++ ([(Ele.mk (((p0.elems.getD a24.toNat default)).table) x27 (((p0.elems.getD a24.toNat default)).funcs))] : List Ele)).length (fl eEle (a23 ++ ([(Ele.mk (((p0.elems.getD a24.toNat default)).table) x27 (((p0.elems.getD a24.toNat default)).funcs))] : List Ele))))]⟩ (And.intro True.intro True.intro) (by kernel_rfl) ?_
                  exact ⟨k, ((a23 ++ ([(Ele.mk (((p0.elems.getD a24.toNat default)).table) x27 (((p0.elems.getD a24.toNat default)).funcs))] : List Ele)), (wI (a24 + 1))), Nat.lt_succ_self k, H, wk_mk [1, 2, 3, 10] [] [.k 1, .k 2, .k 3, .k 36, .k 69, .k 86, .k 103, .k 135, .k 152, .k 184] True.intro (by kernel_rfl)⟩
                · replace H := ite_f H hc
                  refine AW2.exit ?_
                  have H := Option.some.inj H
                  subst H
                  exact wk_mk [1, 2, 3] [] [.k 1, .k 2, .k 3, .k 36, .k 69, .k 86, .k 103, .k 135, .k 152, .k 184] True.intro (by kernel_rfl)
            · have H := H40
              refine AW2.seq ?_
              refine AW2.rg [] [1, 2, 3, 9] [] [.k 1, .k 2, .k 3, .k 36, .k 69, .k 86, .k 103, .k 135] ⟨[(1, .p 1 0), (2, .p 2 0), (3, .p 3 0), (9, .d (.int .i64 0))], [(1, .st false (eD (eMdl p0))), (2, .st false [.d .nils, .d .nils, .d .nils, .d .nils, .d .nils, .d .nils, .d .nils, .d .nils]), (3, .st false [.ls 36 0 j1.length, .ls 69 0 j2.length, .ls 86 0 j3.length, .ls 103 0 j4.length, .ls 135 0 j5.length, .d .nils, .d .nils, .d .nils]), (36, .sl false 2 j1.length (fl eTyp j1)), (69, .sl false 3 j2.length (fl eFnc j2)), (86, .sl false 3 j3.length (fl eLim j3)), (103, .sl false 3 j4.length (fl eLim j4)), (135, .sl false 10 j5.length (fl eGlo j5))]⟩ (And.intro True.intro True.intro) (by kernel_rfl) ?_
              refine AW2.block ?_
              refine AW2.cv [.c 3 5 152 3 (fl eXpo ([] : List Xpo))] [1, 2, 3, 9] [] [.k 1, .k 2, .k 3, .k 36, .k 69, .k 86, .k 103, .k 135, .k 152] ⟨[(1, .p 1 0), (2, .p 2 0), (3, .p 3 0), (9, .d (.int .i64 0))], [(1, .st false (eD (eMdl p0))), (2, .st false [.d .nils, .d .nils, .d .nils, .d .nils, .d .nils, .d .nils, .d .nils, .d .nils]), (3, .st false [.ls 36 0 j1.length, .ls 69 0 j2.length, .ls 86 0 j3.length, .ls 103 0 j4.length, .ls 135 0 j5.length, .ls 152 0 ([] : List Xpo).length, .d .nils, .d .nils]), (36, .sl false 2 j1.length (fl eTyp j1)), (69, .sl false 3 j2.length (fl eFnc j2)), (86, .sl false 3 j3.length (fl eLim j3)), (103, .sl false 3 j4.length (fl eLim j4)), (135, .sl false 10 j5.length (fl eGlo j5)), (152, .sl false 3 ([] : List Xpo).length (fl eXpo ([] : List Xpo)))]⟩ True.intro (by kernel_rfl) ?_
              refine AW2.lp (σ := (List Xpo) × Int) (fun v => ⟨[(1, .p 1 0), (2, .p 2 0), (3, .p 3 0), (9, .d (.int .i64 v.2))], [(1, .st false (eD (eMdl p0))), (2, .st false [.d .nils, .d .nils, .d .nils, .d .nils, .d .nils, .d .nils, .d .nils, .d .nils]), (3, .st false [.ls 36 0 j1.length, .ls 69 0 j2.length, .ls 86 0 j3.length, .ls 103 0 j4.length, .ls 135 0 j5.length, .ls 152 0 v.1.length, .d .nils, .d .nils]), (36, .sl false 2 j1.length (fl eTyp j1)), (69, .sl false 3 j2.length (fl eFnc j2)), (86, .sl false 3 j3.length (fl eLim j3)), (103, .sl false 3 j4.length (fl eLim j4)), (135, .sl false 10 j5.length (fl eGlo j5)), (152, .sl false 3 v.1.length (fl eXpo v.1))]⟩) (fun k v => g_law08_giveModule_l2 k p0 v.1 v.2 = some j6) ?_ K (([] : List Xpo), 0) H
              rintro k ⟨a35, a36⟩ H
              dsimp only at H
              cases k with
              | zero => cases H
              | succ k =>
              unfold g_law08_giveModule_l2 at H
              refine AW2.seq ?_
              refine AW2.seq ?_
              refine AW2.rg [] [1, 2, 3, 9, 141] [] [.k 1, .k 2, .k 3, .k 36, .k 69, .k 86, .k 103, .k 135, .k 152] ⟨[(1, .p 1 0), (2, .p 2 0), (3, .p 3 0), (9, .d (.int .i64 a36)), (141, .d (.bool (decide (a36 < (p0.exports.length : Int)))))], [(1, .st false (eD (eMdl p0))), (2, .st false [.d .nils, .d .nils, .d .nils, .d .nils, .d .nils, .d .nils, .d .nils, .d .nils]), (3, .st false [.ls 36 0 j1.length, .ls 69 0 j2.length, .ls 86 0 j3.length, .ls 103 0 j4.length, .ls 135 0 j5.length, .ls 152 0 a35.length, .d .nils, .d .nils]), (36, .sl false 2 j1.length (fl eTyp j1)), (69, .sl false 3 j2.length (fl eFnc j2)), (86, .sl false 3 j3.length (fl eLim j3)), (103, .sl false 3 j4.length (fl eLim j4)), (135, .sl false 10 j5.length (fl eGlo j5)), (152, .sl false 3 a35.length (fl eXpo a35))]⟩ (And.intro True.intro True.intro) (by kernel_rfl) ?_
              refine AW2.cond (b := (decide (a36 < (p0.exports.length : Int)))) rfl (fun hc => ?_) (fun hc => ?_)
              · replace H := ite_t H hc
                refine AW2.skip ?_
                refine AW2.seq ?_
                refine AW2.block ?_
                obtain ⟨h37, H⟩ := gd_some H
                obtain ⟨h38, H⟩ := gd_some H
                refine AW2.rg [.sb ([(p0.exports.getD a36.toNat default)] : List Xpo).length (fl eXpo ([(p0.exports.getD a36.toNat default)] : List Xpo)), .s true (a35 ++ ([(p0.exports.getD a36.toNat default)] : List Xpo)).length (fl eXpo (a35 ++ ([(p0.exports.getD a36.toNat default)] : List Xpo)))] [1, 2, 3, 9] [] [.k 1, .k 2, .k 3, .k 36, .k 69, .k 86, .k 103, .k 135, .k 152] ⟨[(1, .p 1 0), (2, .p 2 0), (3, .p 3 0), (9, .d (.int .i64 a36))], [(1, .st false (eD (eMdl p0))), (2, .st false [.d .nils, .d .nils, .d .nils, .d .nils, .d .nils, .d .nils, .d .nils, .d .nils]), (3, .st false [.ls 36 0 j1.length, .ls 69 0 j2.length, .ls 86 0 j3.length, .ls 103 0 j4.length, .ls 135 0 j5.length, .ls 152 0 (a35 ++ ([(p0.exports.getD a36.toNat default)] : List Xpo)).length, .d .nils, .d .nils]), (36, .sl false 2 j1.length (fl eTyp j1)), (69, .sl false 3 j2.length (fl eFnc j2)), (86, .sl false 3 j3.length (fl eLim j3)), (103, .sl false 3 j4.length (fl eLim j4)), (135, .sl false 10 j5.length (fl eGlo j5)), (152, .sl false 3 (a35 ++ ([(p0.exports.getD a36.toNat default)] : List Xpo)).length (fl eXpo (a35 ++ ([(p0.exports.getD a36.toNat default)] : List Xpo))))]⟩ (And.intro (And.intro h37 (And.intro (litF eXpo ([(p0.exports.getD a36.toNat default)] : List Xpo)) (And.intro (Nat.le_refl a35.length) (And.intro h38 (And.intro (app1 eXpo a35 (p0.exports.getD a36.toNat default) (fl eXpo ([(p0.exports.getD a36.toNat default)] : List Xpo)) rfl) True.intro))))) True.intro) (by kernel_rfl) ?_
                refine AW2.rg [] [1, 2, 3, 9] [] [.k 1, .k 2, .k 3, .k 36, .k 69, .k 86, .k 103, .k 135, .k 152] ⟨[(1, .p 1 0), (2, .p 2 0), (3, .p 3 0), (9, .d (.int .i64 (wI (a36 + 1))))], [(1, .st false (eD (eMdl p0))), (2, .st false [.d .nils, .d .nils, .d .nils, .d .nils, .d .nils, .d .nils, .d .nils, .d .nils]), (3, .st false [.ls 36 0 j1.length, .ls 69 0 j2.length, .ls 86 0 j3.length, .ls 103 0 j4.length, .ls 135 0 j5.length, .ls 152 0 (a35 ++ ([(p0.exports.getD a36.toNat default)] : List Xpo)).length, .d .nils, .d .nils]), (36, .sl false 2 j1.length (fl eTyp j1)), (69, .sl false 3 j2.length (fl eFnc j2)), (86, .sl false 3 j3.length (fl eLim j3)), (103, .sl false 3 j4.length (fl eLim j4)), (135, .sl false 10 j5.length (fl eGlo j5)), (152, .sl false 3 (a35 ++ ([(p0.exports.getD a36.toNat default)] : List Xpo)).length (fl eXpo (a35 ++ ([(p0.exports.getD a36.toNat default)] : List Xpo))))]⟩ (And.intro True.intro True.intro) (by kernel_rfl) ?_
                exact ⟨k, ((a35 ++ ([(p0.exports.getD a36.toNat default)] : List Xpo)), (wI (a36 + 1))), Nat.lt_succ_self k, H, wk_mk [1, 2, 3, 9] [] [.k 1, .k 2, .k 3, .k 36, .k 69, .k 86, .k 103, .k 135, .k 152] True.intro (by kernel_rfl)⟩
              · replace H := ite_f H hc
                refine AW2.exit ?_
                have H := Option.some.inj H
                subst H
                exact wk_mk [1, 2, 3] [] [.k 1, .k 2, .k 3, .k 36, .k 69, .k 86, .k 103, .k 135, .k 152] True.intro (by kernel_rfl)
          · have H := H52
            refine AW2.seq ?_
            refine AW2.rg [] [1, 2, 3, 8] [] [.k 1, .k 2, .k 3, .k 36, .k 69, .k 86, .k 103] ⟨[(1, .p 1 0), (2, .p 2 0), (3, .p 3 0), (8, .d (.int .i64 0))], [(1, .st false (eD (eMdl p0))), (2, .st false [.d .nils, .d .nils, .d .nils, .d .nils, .d .nils, .d .nils, .d .nils, .d .nils]), (3, .st false [.ls 36 0 j1.length, .ls 69 0 j2.length, .ls 86 0 j3.length, .ls 103 0 j4.length, .d .nils, .d .nils, .d .nils, .d .nils]), (36, .sl false 2 j1.length (fl eTyp j1)), (69, .sl false 3 j2.length (fl eFnc j2)), (86, .sl false 3 j3.length (fl eLim j3)), (103, .sl false 3 j4.length (fl eLim j4))]⟩ (And.intro True.intro True.intro) (by kernel_rfl) ?_
            refine AW2.block ?_
            refine AW2.cv [.c 3 4 135 10 (fl eGlo ([] : List Glo))] [1, 2, 3, 8] [] [.k 1, .k 2, .k 3, .k 36, .k 69, .k 86, .k 103, .k 135] ⟨[(1, .p 1 0), (2, .p 2 0), (3, .p 3 0), (8, .d (.int .i64 0))], [(1, .st false (eD (eMdl p0))), (2, .st false [.d .nils, .d .nils, .d .nils, .d .nils, .d .nils, .d .nils, .d .nils, .d .nils]), (3, .st false [.ls 36 0 j1.length, .ls 69 0 j2.length, .ls 86 0 j3.length, .ls 103 0 j4.length, .ls 135 0 ([] : List Glo).length, .d .nils, .d .nils, .d .nils]), (36, .sl false 2 j1.length (fl eTyp j1)), (69, .sl false 3 j2.length (fl eFnc j2)), (86, .sl false 3 j3.length (fl eLim j3)), (103, .sl false 3 j4.length (fl eLim j4)), (135, .sl false 10 ([] : List Glo).length (fl eGlo ([] : List Glo)))]⟩ True.intro (by kernel_rfl) ?_
            refine AW2.lp (σ := (List Glo) × Int) (fun v => ⟨[(1, .p 1 0), (2, .p 2 0), (3, .p 3 0), (8, .d (.int .i64 v.2))], [(1, .st false (eD (eMdl p0))), (2, .st false [.d .nils, .d .nils, .d .nils, .d .nils, .d .nils, .d .nils, .d .nils, .d .nils]), (3, .st false [.ls 36 0 j1.length, .ls 69 0 j2.length, .ls 86 0 j3.length, .ls 103 0 j4.length, .ls 135 0 v.1.length, .d .nils, .d .nils, .d .nils]), (36, .sl false 2 j1.length (fl eTyp j1)), (69, .sl false 3 j2.length (fl eFnc j2)), (86, .sl false 3 j3.length (fl eLim j3)), (103, .sl false 3 j4.length (fl eLim j4)), (135, .sl false 10 v.1.length (fl eGlo v.1))]⟩) (fun k v => g_law08_giveModule_l3 k K p0 v.1 v.2 = some j5) ?_ K (([] : List Glo), 0) H
            rintro k ⟨a43, a44⟩ H
            dsimp only at H
            cases k with
            | zero => cases H
            | succ k =>
            unfold g_law08_giveModule_l3 at H
            refine AW2.seq ?_
            refine AW2.seq ?_
            refine AW2.rg [] [1, 2, 3, 8, 109] [] [.k 1, .k 2, .k 3, .k 36, .k 69, .k 86, .k 103, .k 135] ⟨[(1, .p 1 0), (2, .p 2 0), (3, .p 3 0), (8, .d (.int .i64 a44)), (109, .d (.bool (decide (a44 < (p0.globals.length : Int)))))], [(1, .st false (eD (eMdl p0))), (2, .st false [.d .nils, .d .nils, .d .nils, .d .nils, .d .nils, .d .nils, .d .nils, .d .nils]), (3, .st false [.ls 36 0 j1.length, .ls 69 0 j2.length, .ls 86 0 j3.length, .ls 103 0 j4.length, .ls 135 0 a43.length, .d .nils, .d .nils, .d .nils]), (36, .sl false 2 j1.length (fl eTyp j1)), (69, .sl false 3 j2.length (fl eFnc j2)), (86, .sl false 3 j3.length (fl eLim j3)), (103, .sl false 3 j4.length (fl eLim j4)), (135, .sl false 10 a43.length (fl eGlo a43))]⟩ (And.intro True.intro True.intro) (by kernel_rfl) ?_
            refine AW2.cond (b := (decide (a44 < (p0.globals.length : Int)))) rfl (fun hc => ?_) (fun hc => ?_)
            · replace H := ite_t H hc
              refine AW2.skip ?_
              refine AW2.seq ?_
              refine AW2.block ?_
              obtain ⟨h45, H⟩ := gd_some H
              obtain ⟨h46, H⟩ := gd_some H
              obtain ⟨h47, H⟩ := gd_some H
              obtain ⟨x48, hx49, H⟩ := bind_some H
              obtain ⟨h50, H⟩ := gd_some H
              refine AW2.rg [.r (.agg (eInstr x48)), .sb ([(Glo.mk (((p0.globals.getD a44.toNat default)).kind) (((p0.globals.getD a44.toNat default)).mut_) x48)] : List Glo).length (fl eGlo ([(Glo.mk (((p0.globals.getD a44.toNat default)).kind) (((p0.globals.getD a44.toNat default)).mut_) x48)] : List Glo)), .s true (a43 ++ ([(Glo.mk (((p0.globals.getD a44.toNat default)).kind) (((p0.globals.getD a44.toNat default)).mut_) x48)] : List Glo)).length (fl eGlo (a43 ++ ([(Glo.mk (((p0.globals.getD a44.toNat default)).kind) (((p0.globals.getD a44.toNat default)).mut_) x48)] : List Glo)))] [1, 2, 3, 8] [] [.k 1, .k 2, .k 3, .k 36, .k 69, .k 86, .k 103, .k 135] ⟨[(1, .p 1 0), (2, .p 2 0), (3, .p 3 0), (8, .d (.int .i64 a44))], [(1, .st false (eD (eMdl p0))), (2, .st false [.d .nils, .d .nils, .d .nils, .d .nils, .d .nils, .d .nils, .d .nils, .d .nils]), (3, .st false [.ls 36 0 j1.length, .ls 69 0 j2.length, .ls 86 0 j3.length, .ls 103 0 j4.length, .ls 135 0 (a43 ++ ([(Glo.mk (((p0.globals.getD a44.toNat default)).kind) (((p0.globals.getD a44.toNat default)).mut_) x48)] : List Glo)).length, .d .nils, .d .nils, .d .nils]), (36, .sl false 2 j1.length (fl eTyp j1)), (69, .sl false 3 j2.length (fl eFnc j2)), (86, .sl false 3 j3.length (fl eLim j3)), (103, .sl false 3 j4.length (fl eLim j4)), (135, .sl false 10 (a43 ++ ([(Glo.mk (((p0.globals.getD a44.toNat default)).kind) (((p0.globals.getD a44.toNat default)).mut_) x48)] : List Glo)).length (fl eGlo (a43 ++ ([(Glo.mk (((p0.globals.getD a44.toNat default)).kind) (((p0.globals.getD a44.toNat default)).mut_) x48)] : List Glo))))]⟩ (And.intro (And.intro h45 (And.intro h46 (And.intro h47 (And.intro (c_law08_one K (((p0.globals.getD a44.toNat default)).init_) x48 hx49) (And.intro (litF eGlo ([(Glo.mk (((p0.globals.getD a44.toNat default)).kind) (((p0.globals.getD a44.toNat default)).mut_) x48)] : List Glo)) (And.intro (Nat.le_refl a43.length) (And.intro h50 (And.intro (app1 eGlo a43 (Glo.mk (((p0.globals.getD a44.toNat default)).kind) (((p0.globals.getD a44.toNat default)).mut_) x48) (fl eGlo ([(Glo.mk (((p0.globals.getD a44.toNat default)).kind) (((p0.globals.getD a44.toNat default)).mut_) x48)] : List Glo)) rfl) True.intro)))))))) True.intro) (by kernel_rfl) ?_
              refine AW2.rg [] [1, 2, 3, 8] [] [.k 1, .k 2, .k 3, .k 36, .k 69, .k 86, .k 103, .k 135] ⟨[(1, .p 1 0), (2, .p 2 0), (3, .p 3 0), (8, .d (.int .i64 (wI (a44 + 1))))], [(1, .st false (eD (eMdl p0))), (2, .st false [.d .nils, .d .nils, .d .nils, .d .nils, .d .nils, .d .nils, .d .nils, .d .nils]), (3, .st false [.ls 36 0 j1.length, .ls 69 0 j2.length, .ls 86 0 j3.length, .ls 103 0 j4.length, .ls 135 0 (a43 ++ ([(Glo.mk (((p0.globals.getD a44.toNat default)).kind) (((p0.globals.getD a44.toNat default)).mut_) x48)] : List Glo)).length, .d .nils, .d .nils, .d .nils]), (36, .sl false 2 j1.length (fl eTyp j1)), (69, .sl false 3 j2.length (fl eFnc j2)), (86, .sl false 3 j3.length (fl eLim j3)), (103, .sl false 3 j4.length (fl eLim j4)), (135, .sl false 10 (a43 ++ ([(Glo.mk (((p0.globals.getD a44.toNat default)).kind) (((p0.globals.getD a44.toNat default)).mut_) x48)] : List Glo)).length (fl eGlo (a43 ++ ([(Glo.mk (((p0.globals.getD a44.toNat default)).kind) (((p0.globals.getD a44.toNat default)).mut_) x48)] : List Glo))))]⟩ (And.intro True.intro True.intro) (by kernel_rfl) ?_
              exact ⟨k, ((a43 ++ ([(Glo.mk (((p0.globals.getD a44.toNat default)).kind) (((p0.globals.getD a44.toNat default)).mut_) x48)] : List Glo)), (wI (a44 + 1))), Nat.lt_succ_self k, H, wk_mk [1, 2, 3, 8] [] [.k 1, .k 2, .k 3, .k 36, .k 69, .k 86, .k 103, .k 135] True.intro (by kernel_rfl)⟩
            · replace H := ite_f H hc
              refine AW2.exit ?_
              have H := Option.some.inj H
              subst H
              exact wk_mk [1, 2, 3] [] [.k 1, .k 2, .k 3, .k 36, .k 69, .k 86, .k 103, .k 135] True.intro (by kernel_rfl)
        · have H := H60
          refine AW2.seq ?_
          refine AW2.rg [] [1, 2, 3, 7] [] [.k 1, .k 2, .k 3, .k 36, .k 69, .k 86] ⟨[(1, .p 1 0), (2, .p 2 0), (3, .p 3 0), (7, .d (.int .i64 0))], [(1, .st false (eD (eMdl p0))), (2, .st false [.d .nils, .d .nils, .d .nils, .d .nils, .d .nils, .d .nils, .d .nils, .d .nils]), (3, .st false [.ls 36 0 j1.length, .ls 69 0 j2.length, .ls 86 0 j3.length, .d .nils, .d .nils, .d .nils, .d .nils, .d .nils]), (36, .sl false 2 j1.length (fl eTyp j1)), (69, .sl false 3 j2.length (fl eFnc j2)), (86, .sl false 3 j3.length (fl eLim j3))]⟩ (And.intro True.intro True.intro) (by kernel_rfl) ?_
          refine AW2.block ?_
          refine AW2.cv [.c 3 3 103 3 (fl eLim ([] : List Lim))] [1, 2, 3, 7] [] [.k 1, .k 2, .k 3, .k 36, .k 69, .k 86, .k 103] ⟨[(1, .p 1 0), (2, .p 2 0), (3, .p 3 0), (7, .d (.int .i64 0))], [(1, .st false (eD (eMdl p0))), (2, .st false [.d .nils, .d .nils, .d .nils, .d .nils, .d .nils, .d .nils, .d .nils, .d .nils]), (3, .st false [.ls 36 0 j1.length, .ls 69 0 j2.length, .ls 86 0 j3.length, .ls 103 0 ([] : List Lim).length, .d .nils, .d .nils, .d .nils, .d .nils]), (36, .sl false 2 j1.length (fl eTyp j1)), (69, .sl false 3 j2.length (fl eFnc j2)), (86, .sl false 3 j3.length (fl eLim j3)), (103, .sl false 3 ([] : List Lim).length (fl eLim ([] : List Lim)))]⟩ True.intro (by kernel_rfl) ?_
          refine AW2.lp (σ := (List Lim) × Int) (fun v => ⟨[(1, .p 1 0), (2, .p 2 0), (3, .p 3 0), (7, .d (.int .i64 v.2))], [(1, .st false (eD (eMdl p0))), (2, .st false [.d .nils, .d .nils, .d .nils, .d .nils, .d .nils, .d .nils, .d .nils, .d .nils]), (3, .st false [.ls 36 0 j1.length, .ls 69 0 j2.length, .ls 86 0 j3.length, .ls 103 0 v.1.length, .d .nils, .d .nils, .d .nils, .d .nils]), (36, .sl false 2 j1.length (fl eTyp j1)), (69, .sl false 3 j2.length (fl eFnc j2)), (86, .sl false 3 j3.length (fl eLim j3)), (103, .sl false 3 v.1.length (fl eLim v.1))]⟩) (fun k v => g_law08_giveModule_l4 k p0 v.1 v.2 = some j4) ?_ K (([] : List Lim), 0) H
          rintro k ⟨a55, a56⟩ H
          dsimp only at H
          cases k with
          | zero => cases H
          | succ k =>
          unfold g_law08_giveModule_l4 at H
          refine AW2.seq ?_
          refine AW2.seq ?_
          refine AW2.rg [] [1, 2, 3, 7, 92] [] [.k 1, .k 2, .k 3, .k 36, .k 69, .k 86, .k 103] ⟨[(1, .p 1 0), (2, .p 2 0), (3, .p 3 0), (7, .d (.int .i64 a56)), (92, .d (.bool (decide (a56 < (p0.memories.length : Int)))))], [(1, .st false (eD (eMdl p0))), (2, .st false [.d .nils, .d .nils, .d .nils, .d .nils, .d .nils, .d .nils, .d .nils, .d .nils]), (3, .st false [.ls 36 0 j1.length, .ls 69 0 j2.length, .ls 86 0 j3.length, .ls 103 0 a55.length, .d .nils, .d .nils, .d .nils, .d .nils]), (36, .sl false 2 j1.length (fl eTyp j1)), (69, .sl false 3 j2.length (fl eFnc j2)), (86, .sl false 3 j3.length (fl eLim j3)), (103, .sl false 3 a55.length (fl eLim a55))]⟩ (And.intro True.intro True.intro) (by kernel_rfl) ?_
          refine AW2.cond (b := (decide (a56 < (p0.memories.length : Int)))) rfl (fun hc => ?_) (fun hc => ?_)
          · replace H := ite_t H hc
            refine AW2.skip ?_
            refine AW2.seq ?_
            refine AW2.block ?_
            obtain ⟨h57, H⟩ := gd_some H
            obtain ⟨h58, H⟩ := gd_some H
            refine AW2.rg [.sb ([(p0.memories.getD a56.toNat default)] : List Lim).length (fl eLim ([(p0.memories.getD a56.toNat default)] : List Lim)), .s true (a55 ++ ([(p0.memories.getD a56.toNat default)] : List Lim)).length (fl eLim (a55 ++ ([(p0.memories.getD a56.toNat default)] : List Lim)))] [1, 2, 3, 7] [] [.k 1, .k 2, .k 3, .k 36, .k 69, .k 86, .k 103] ⟨[(1, .p 1 0), (2, .p 2 0), (3, .p 3 0), (7, .d (.int .i64 a56))], [(1, .st false (eD (eMdl p0))), (2, .st false [.d .nils, .d .nils, .d .nils, .d .nils, .d .nils, .d .nils, .d .nils, .d .nils]), (3, .st false [.ls 36 0 j1.length, .ls 69 0 j2.length, .ls 86 0 j3.length, .ls 103 0 (a55 ++ ([(p0.memories.getD a56.toNat default)] : List Lim)).length, .d .nils, .d .nils, .d .nils, .d .nils]), (36, .sl false 2 j1.length (fl eTyp j1)), (69, .sl false 3 j2.length (fl eFnc j2)), (86, .sl false 3 j3.length (fl eLim j3)), (103, .sl false 3 (a55 ++ ([(p0.memories.getD a56.toNat default)] : List Lim)).length (fl eLim (a55 ++ ([(p0.memories.getD a56.toNat default)] : List Lim))))]⟩ (And.intro (And.intro h57 (And.intro (litF eLim ([(p0.memories.getD a56.toNat default)] : List Lim)) (And.intro (Nat.le_refl a55.length) (And.intro h58 (And.intro (app1 eLim a55 (p0.memories.getD a56.toNat default) (fl eLim ([(p0.memories.getD a56.toNat default)] : List Lim)) rfl) True.intro))))) True.intro) (by kernel_rfl) ?_
            refine AW2.rg [] [1, 2, 3, 7] [] [.k 1, .k 2, .k 3, .k 36, .k 69, .k 86, .k 103] ⟨[(1, .p 1 0), (2, .p 2 0), (3, .p 3 0), (7, .d (.int .i64 (wI (a56 + 1))))], [(1, .st false (eD (eMdl p0))), (2, .st false [.d .nils, .d .nils, .d .nils, .d .nils, .d .nils, .d .nils, .d .nils, .d .nils]), (3, .st false [.ls 36 0 j1.length, .ls 69 0 j2.length, .ls 86 0 j3.length, .ls 103 0 (a55 ++ ([(p0.memories.getD a56.toNat default)] : List Lim)).length, .d .nils, .d .nils, .d .nils, .d .nils]), (36, .sl false 2 j1.length (fl eTyp j1)), (69, .sl false 3 j2.length (fl eFnc j2)), (86, .sl false 3 j3.length (fl eLim j3)), (103, .sl false 3 (a55 ++ ([(p0.memories.getD a56.toNat default)] : List Lim)).length (fl eLim (a55 ++ ([(p0.memories.getD a56.toNat default)] : List Lim))))]⟩ (And.intro True.intro True.intro) (by kernel_rfl) ?_
            exact ⟨k, ((a55 ++ ([(p0.memories.getD a56.toNat default)] : List Lim)), (wI (a56 + 1))), Nat.lt_succ_self k, H, wk_mk [1, 2, 3, 7] [] [.k 1, .k 2, .k 3, .k 36, .k 69, .k 86, .k 103] True.intro (by kernel_rfl)⟩
          · replace H := ite_f H hc
            refine AW2.exit ?_
            have H := Option.some.inj H
            subst H
            exact wk_mk [1, 2, 3] [] [.k 1, .k 2, .k 3, .k 36, .k 69, .k 86, .k 103] True.intro (by kernel_rfl)
      · have H := H68
        refine AW2.seq ?_
        refine AW2.rg [] [1, 2, 3, 6] [] [.k 1, .k 2, .k 3, .k 36, .k 69] ⟨[(1, .p 1 0), (2, .p 2 0), (3, .p 3 0), (6, .d (.int .i64 0))], [(1, .st false (eD (eMdl p0))), (2, .st false [.d .nils, .d .nils, .d .nils, .d .nils, .d .nils, .d .nils, .d .nils, .d .nils]), (3, .st false [.ls 36 0 j1.length, .ls 69 0 j2.length, .d .nils, .d .nils, .d .nils, .d .nils, .d .nils, .d .nils]), (36, .sl false 2 j1.length (fl eTyp j1)), (69, .sl false 3 j2.length (fl eFnc j2))]⟩ (And.intro True.intro True.intro) (by kernel_rfl) ?_
        refine AW2.block ?_
        refine AW2.cv [.c 3 2 86 3 (fl eLim ([] : List Lim))] [1, 2, 3, 6] [] [.k 1, .k 2, .k 3, .k 36, .k 69, .k 86] ⟨[(1, .p 1 0), (2, .p 2 0), (3, .p 3 0), (6, .d (.int .i64 0))], [(1, .st false (eD (eMdl p0))), (2, .st false [.d .nils, .d .nils, .d .nils, .d .nils, .d .nils, .d .nils, .d .nils, .d .nils]), (3, .st false [.ls 36 0 j1.length, .ls 69 0 j2.length, .ls 86 0 ([] : List Lim).length, .d .nils, .d .nils, .d .nils, .d .nils, .d .nils]), (36, .sl false 2 j1.length (fl eTyp j1)), (69, .sl false 3 j2.length (fl eFnc j2)), (86, .sl false 3 ([] : List Lim).length (fl eLim ([] : List Lim)))]⟩ True.intro (by kernel_rfl) ?_
        refine AW2.lp (σ := (List Lim) × Int) (fun v => ⟨[(1, .p 1 0), (2, .p 2 0), (3, .p 3 0), (6, .d (.int .i64 v.2))], [(1, .st false (eD (eMdl p0))), (2, .st false [.d .nils, .d .nils, .d .nils, .d .nils, .d .nils, .d .nils, .d .nils, .d .nils]), (3, .st false [.ls 36 0 j1.length, .ls 69 0 j2.length, .ls 86 0 v.1.length, .d .nils, .d .nils, .d .nils, .d .nils, .d .nils]), (36, .sl false 2 j1.length (fl eTyp j1)), (69, .sl false 3 j2.length (fl eFnc j2)), (86, .sl false 3 v.1.length (fl eLim v.1))]⟩) (fun k v => g_law08_giveModule_l5 k p0 v.1 v.2 = some j3) ?_ K (([] : List Lim), 0) H
        rintro k ⟨a63, a64⟩ H
        dsimp only at H
        cases k with
        | zero => cases H
        | succ k =>
        unfold g_law08_giveModule_l5 at H
        refine AW2.seq ?_
        refine AW2.seq ?_
        refine AW2.rg [] [1, 2, 3, 6, 75] [] [.k 1, .k 2, .k 3, .k 36, .k 69, .k 86] ⟨[(1, .p 1 0), (2, .p 2 0), (3, .p 3 0), (6, .d (.int .i64 a64)), (75, .d (.bool (decide (a64 < (p0.tables.length : Int)))))], [(1, .st false (eD (eMdl p0))), (2, .st false [.d .nils, .d .nils, .d .nils, .d .nils, .d .nils, .d .nils, .d .nils, .d .nils]), (3, .st false [.ls 36 0 j1.length, .ls 69 0 j2.length, .ls 86 0 a63.length, .d .nils, .d .nils, .d .nils, .d .nils, .d .nils]), (36, .sl false 2 j1.length (fl eTyp j1)), (69, .sl false 3 j2.length (fl eFnc j2)), (86, .sl false 3 a63.length (fl eLim a63))]⟩ (And.intro True.intro True.intro) (by kernel_rfl) ?_
        refine AW2.cond (b := (decide (a64 < (p0.tables.length : Int)))) rfl (fun hc => ?_) (fun hc => ?_)
        · replace H := ite_t H hc
          refine AW2.skip ?_
          refine AW2.seq ?_
          refine AW2.block ?_
          obtain ⟨h65, H⟩ := gd_some H
          obtain ⟨h66, H⟩ := gd_some H
          refine AW2.rg [.sb ([(p0.tables.getD a64.toNat default)] : List Lim).length (fl eLim ([(p0.tables.getD a64.toNat default)] : List Lim)), .s true (a63 ++ ([(p0.tables.getD a64.toNat default)] : List Lim)).length (fl eLim (a63 ++ ([(p0.tables.getD a64.toNat default)] : List Lim)))] [1, 2, 3, 6] [] [.k 1, .k 2, .k 3, .k 36, .k 69, .k 86] ⟨[(1, .p 1 0), (2, .p 2 0), (3, .p 3 0), (6, .d (.int .i64 a64))], [(1, .st false (eD (eMdl p0))), (2, .st false [.d .nils, .d .nils, .d .nils, .d .nils, .d .nils, .d .nils, .d .nils, .d .nils]), (3, .st false [.ls 36 0 j1.length, .ls 69 0 j2.length, .ls 86 0 (a63 ++ ([(p0.tables.getD a64.toNat default)] : List Lim)).length, .d .nils, .d .nils, .d .nils, .d .nils, .d .nils]), (36, .sl false 2 j1.length (fl eTyp j1)), (69, .sl false 3 j2.length (fl eFnc j2)), (86, .sl false 3 (a63 ++ ([(p0.tables.getD a64.toNat default)] : List Lim)).length (fl eLim (a63 ++ ([(p0.tables.getD a64.toNat default)] : List Lim))))]⟩ (And.intro (And.intro h65 (And.intro (litF eLim ([(p0.tables.getD a64.toNat default)] : List Lim)) (And.intro (Nat.le_refl a63.length) (And.intro h66 (And.intro (app1 eLim a63 (p0.tables.getD a64.toNat default) (fl eLim ([(p0.tables.getD a64.toNat default)] : List Lim)) rfl) True.intro))))) True.intro) (by kernel_rfl) ?_
          refine AW2.rg [] [1, 2, 3, 6] [] [.k 1, .k 2, .k 3, .k 36, .k 69, .k 86] ⟨[(1, .p 1 0), (2, .p 2 0), (3, .p 3 0), (6, .d (.int .i64 (wI (a64 + 1))))], [(1, .st false (eD (eMdl p0))), (2, .st false [.d .nils, .d .nils, .d .nils, .d .nils, .d .nils, .d .nils, .d .nils, .d .nils]), (3, .st false [.ls 36 0 j1.length, .ls 69 0 j2.length, .ls 86 0 (a63 ++ ([(p0.tables.getD a64.toNat default)] : List Lim)).length, .d .nils, .d .nils, .d .nils, .d .nils, .d .nils]), (36, .sl false 2 j1.length (fl eTyp j1)), (69, .sl false 3 j2.length (fl eFnc j2)), (86, .sl false 3 (a63 ++ ([(p0.tables.getD a64.toNat default)] : List Lim)).length (fl eLim (a63 ++ ([(p0.tables.getD a64.toNat default)] : List Lim))))]⟩ (And.intro True.intro True.intro) (by kernel_rfl) ?_
          exact ⟨k, ((a63 ++ ([(p0.tables.getD a64.toNat default)] : List Lim)), (wI (a64 + 1))), Nat.lt_succ_self k, H, wk_mk [1, 2, 3, 6] [] [.k 1, .k 2, .k 3, .k 36, .k 69, .k 86] True.intro (by kernel_rfl)⟩
        · replace H := ite_f H hc
          refine AW2.exit ?_
          have H := Option.some.inj H
          subst H
          exact wk_mk [1, 2, 3] [] [.k 1, .k 2, .k 3, .k 36, .k 69, .k 86] True.intro (by kernel_rfl)
    · have H := H82
      refine AW2.seq ?_
      refine AW2.rg [] [1, 2, 3, 5] [] [.k 1, .k 2, .k 3, .k 36] ⟨[(1, .p 1 0), (2, .p 2 0), (3, .p 3 0), (5, .d (.int .i64 0))], [(1, .st false (eD (eMdl p0))), (2, .st false [.d .nils, .d .nils, .d .nils, .d .nils, .d .nils, .d .nils, .d .nils, .d .nils]), (3, .st false [.ls 36 0 j1.length, .d .nils, .d .nils, .d .nils, .d .nils, .d .nils, .d .nils, .d .nils]), (36, .sl false 2 j1.length (fl eTyp j1))]⟩ (And.intro True.intro True.intro) (by kernel_rfl) ?_
      refine AW2.block ?_
      refine AW2.cv [.c 3 1 69 3 (fl eFnc ([] : List Fnc))] [1, 2, 3, 5] [] [.k 1, .k 2, .k 3, .k 36, .k 69] ⟨[(1, .p 1 0), (2, .p 2 0), (3, .p 3 0), (5, .d (.int .i64 0))], [(1, .st false (eD (eMdl p0))), (2, .st false [.d .nils, .d .nils, .d .nils, .d .nils, .d .nils, .d .nils, .d .nils, .d .nils]), (3, .st false [.ls 36 0 j1.length, .ls 69 0 ([] : List Fnc).length, .d .nils, .d .nils, .d .nils, .d .nils, .d .nils, .d .nils]), (36, .sl false 2 j1.length (fl eTyp j1)), (69, .sl false 3 ([] : List Fnc).length (fl eFnc ([] : List Fnc)))]⟩ True.intro (by kernel_rfl) ?_
      refine AW2.lp (σ := (List Fnc) × Int) (fun v => ⟨[(1, .p 1 0), (2, .p 2 0), (3, .p 3 0), (5, .d (.int .i64 v.2))], [(1, .st false (eD (eMdl p0))), (2, .st false [.d .nils, .d .nils, .d .nils, .d .nils, .d .nils, .d .nils, .d .nils, .d .nils]), (3, .st false [.ls 36 0 j1.length, .ls 69 0 v.1.length, .d .nils, .d .nils, .d .nils, .d .nils, .d .nils, .d .nils]), (36, .sl false 2 j1.length (fl eTyp j1)), (69, .sl false 3 v.1.length (fl eFnc v.1))]⟩) (fun k v => g_law08_giveModule_l6 k K p0 v.1 v.2 = some j2) ?_ K (([] : List Fnc), 0) H
      rintro k ⟨a71, a72⟩ H
      dsimp only at H
      cases k with
      | zero => cases H
      | succ k =>
      unfold g_law08_giveModule_l6 at H
      refine AW2.seq ?_
      refine AW2.seq ?_
      refine AW2.rg [] [1, 2, 3, 5, 42] [] [.k 1, .k 2, .k 3, .k 36, .k 69] ⟨[(1, .p 1 0), (2, .p 2 0), (3, .p 3 0), (5, .d (.int .i64 a72)), (42, .d (.bool (decide (a72 < (p0.funcs.length : Int)))))], [(1, .st false (eD (eMdl p0))), (2, .st false [.d .nils, .d .nils, .d .nils, .d .nils, .d .nils, .d .nils, .d .nils, .d .nils]), (3, .st false [.ls 36 0 j1.length, .ls 69 0 a71.length, .d .nils, .d .nils, .d .nils, .d .nils, .d .nils, .d .nils]), (36, .sl false 2 j1.length (fl eTyp j1)), (69, .sl false 3 a71.length (fl eFnc a71))]⟩ (And.intro True.intro True.intro) (by kernel_rfl) ?_
      refine AW2.cond (b := (decide (a72 < (p0.funcs.length : Int)))) rfl (fun hc => ?_) (fun hc => ?_)
      · replace H := ite_t H hc
        refine AW2.skip ?_
        refine AW2.seq ?_
        refine AW2.block ?_
        obtain ⟨h73, H⟩ := gd_some H
        obtain ⟨h74, H⟩ := gd_some H
        obtain ⟨x75, hx76, H⟩ := bind_some H
        obtain ⟨h77, H⟩ := gd_some H
        obtain ⟨x78, hx79, H⟩ := bind_some H
        obtain ⟨h80, H⟩ := gd_some H
        refine AW2.rg [.r (sV (eI .u8) x75), .r (sVI x78), .sb ([(Fnc.mk (((p0.funcs.getD a72.toNat default)).type_) x75 x78)] : List Fnc).length (fl eFnc ([(Fnc.mk (((p0.funcs.getD a72.toNat default)).type_) x75 x78)] : List Fnc)), .s true (a71 ++ ([(Fnc.mk (((p0.funcs.getD a72.toNat default)).type_) x75 x78)] : List Fnc)).length (fl eFnc (a71 ++ ([(Fnc.mk (((p0.funcs.getD a72.toNat default)).type_) x75 x78)] : List Fnc)))] [1, 2, 3, 5] [] [.k 1, .k 2, .k 3, .k 36, .k 69] ⟨[(1, .p 1 0), (2, .p 2 0), (3, .p 3 0), (5, .d (.int .i64 a72))], [(1, .st false (eD (eMdl p0))), (2, .st false [.d .nils, .d .nils, .d .nils, .d .nils, .d .nils, .d .nils, .d .nils, .d .nils]), (3, .st false [.ls 36 0 j1.length, .ls 69 0 (a71 ++ ([(Fnc.mk (((p0.funcs.getD a72.toNat default)).type_) x75 x78)] : List Fnc)).length, .d .nils, .d .nils, .d .nils, .d .nils, .d .nils, .d .nils]), (36, .sl false 2 j1.length (fl eTyp j1)), (69, .sl false 3 (a71 ++ ([(Fnc.mk (((p0.funcs.getD a72.toNat default)).type_) x75 x78)] : List Fnc)).length (fl eFnc (a71 ++ ([(Fnc.mk (((p0.funcs.getD a72.toNat default)).type_) x75 x78)] : List Fnc))))]⟩ (And.intro (And.intro h73 (And.intro h74 (And.intro (c_law08_kinds K (((p0.funcs.getD a72.toNat default)).locals) x75 hx76) (And.intro h77 (And.intro (c_law08_give K (((p0.funcs.getD a72.toNat default)).body) x78 hx79) (And.intro (litF eFnc ([(Fnc.mk (((p0.funcs.getD a72.toNat default)).type_) x75 x78)] : List Fnc)) (And.intro (Nat.le_refl a71.length) (And.intro h80 (And.intro (app1 eFnc a71 (Fnc.mk (((p0.funcs.getD a72.toNat default)).type_) x75 x78) (fl eFnc ([(Fnc.mk (((p0.funcs.getD a72.toNat default)).type_) x75 x78)] : List Fnc)) rfl) True.intro))))))))) True.intro) (by kernel_rfl) ?_
        refine AW2.rg [] [1, 2, 3, 5] [] [.k 1, .k 2, .k 3, .k 36, .k 69] ⟨[(1, .p 1 0), (2, .p 2 0), (3, .p 3 0), (5, .d (.int .i64 (wI (a72 + 1))))], [(1, .st false (eD (eMdl p0))), (2, .st false [.d .nils, .d .nils, .d .nils, .d .nils, .d .nils, .d .nils, .d .nils, .d .nils]), (3, .st false [.ls 36 0 j1.length, .ls 69 0 (a71 ++ ([(Fnc.mk (((p0.funcs.getD a72.toNat default)).type_) x75 x78)] : List Fnc)).length, .d .nils, .d .nils, .d .nils, .d .nils, .d .nils, .d .nils]), (36, .sl false 2 j1.length (fl eTyp j1)), (69, .sl false 3 (a71 ++ ([(Fnc.mk (((p0.funcs.getD a72.toNat default)).type_) x75 x78)] : List Fnc)).length (fl eFnc (a71 ++ ([(Fnc.mk (((p0.funcs.getD a72.toNat default)).type_) x75 x78)] : List Fnc))))]⟩ (And.intro True.intro True.intro) (by kernel_rfl) ?_
        exact ⟨k, ((a71 ++ ([(Fnc.mk (((p0.funcs.getD a72.toNat default)).type_) x75 x78)] : List Fnc)), (wI (a72 + 1))), Nat.lt_succ_self k, H, wk_mk [1, 2, 3, 5] [] [.k 1, .k 2, .k 3, .k 36, .k 69] True.intro (by kernel_rfl)⟩
      · replace H := ite_f H hc
        refine AW2.exit ?_
        have H := Option.some.inj H
        subst H
        exact wk_mk [1, 2, 3] [] [.k 1, .k 2, .k 3, .k 36, .k 69] True.intro (by kernel_rfl)
  · have H := H93
    refine AW2.seq ?_
    refine AW2.rg [] [1, 2, 3, 4] [] [.k 1, .k 2, .k 3] ⟨[(1, .p 1 0), (2, .p 2 0), (3, .p 3 0), (4, .d (.int .i64 0))], [(1, .st false (eD (eMdl p0))), (2, .st false [.d .nils, .d .nils, .d .nils, .d .nils, .d .nils, .d .nils, .d .nils, .d .nils]), (3, .st false [.d .nils, .d .nils, .d .nils, .d .nils, .d .nils, .d .nils, .d .nils, .d .nils])]⟩ (And.intro True.intro True.intro) (by kernel_rfl) ?_
    refine AW2.block ?_
    refine AW2.cv [.c 3 0 36 2 (fl eTyp ([] : List Typ))] [1, 2, 3, 4] [] [.k 1, .k 2, .k 3, .k 36] ⟨[(1, .p 1 0), (2, .p 2 0), (3, .p 3 0), (4, .d (.int .i64 0))], [(1, .st false (eD (eMdl p0))), (2, .st false [.d .nils, .d .nils, .d .nils, .d .nils, .d .nils, .d .nils, .d .nils, .d .nils]), (3, .st false [.ls 36 0 ([] : List Typ).length, .d .nils, .d .nils, .d .nils, .d .nils, .d .nils, .d .nils, .d .nils]), (36, .sl false 2 ([] : List Typ).length (fl eTyp ([] : List Typ)))]⟩ True.intro (by kernel_rfl) ?_
    refine AW2.lp (σ := (List Typ) × Int) (fun v => ⟨[(1, .p 1 0), (2, .p 2 0), (3, .p 3 0), (4, .d (.int .i64 v.2))], [(1, .st false (eD (eMdl p0))), (2, .st false [.d .nils, .d .nils, .d .nils, .d .nils, .d .nils, .d .nils, .d .nils, .d .nils]), (3, .st false [.ls 36 0 v.1.length, .d .nils, .d .nils, .d .nils, .d .nils, .d .nils, .d .nils, .d .nils]), (36, .sl false 2 v.1.length (fl eTyp v.1))]⟩) (fun k v => g_law08_giveModule_l7 k K p0 v.1 v.2 = some j1) ?_ K (([] : List Typ), 0) H
    rintro k ⟨a85, a86⟩ H
    dsimp only at H
    cases k with
    | zero => cases H
    | succ k =>
    unfold g_law08_giveModule_l7 at H
    refine AW2.seq ?_
    refine AW2.seq ?_
    refine AW2.rg [] [1, 2, 3, 4, 16] [] [.k 1, .k 2, .k 3, .k 36] ⟨[(1, .p 1 0), (2, .p 2 0), (3, .p 3 0), (4, .d (.int .i64 a86)), (16, .d (.bool (decide (a86 < (p0.types.length : Int)))))], [(1, .st false (eD (eMdl p0))), (2, .st false [.d .nils, .d .nils, .d .nils, .d .nils, .d .nils, .d .nils, .d .nils, .d .nils]), (3, .st false [.ls 36 0 a85.length, .d .nils, .d .nils, .d .nils, .d .nils, .d .nils, .d .nils, .d .nils]), (36, .sl false 2 a85.length (fl eTyp a85))]⟩ (And.intro True.intro True.intro) (by kernel_rfl) ?_
    refine AW2.cond (b := (decide (a86 < (p0.types.length : Int)))) rfl (fun hc => ?_) (fun hc => ?_)
    · replace H := ite_t H hc
      refine AW2.skip ?_
      refine AW2.seq ?_
      refine AW2.block ?_
      obtain ⟨h87, H⟩ := gd_some H
      obtain ⟨x88, hx89, H⟩ := bind_some H
      obtain ⟨h90, H⟩ := gd_some H
      obtain ⟨h91, H⟩ := gd_some H
      refine AW2.rg [.r (sV (eI .u8) x88), .sb ([(Typ.mk x88 (((p0.types.getD a86.toNat default)).result))] : List Typ).length (fl eTyp ([(Typ.mk x88 (((p0.types.getD a86.toNat default)).result))] : List Typ)), .s true (a85 ++ ([(Typ.mk x88 (((p0.types.getD a86.toNat default)).result))] : List Typ)).length (fl eTyp (a85 ++ ([(Typ.mk x88 (((p0.types.getD a86.toNat default)).result))] : List Typ)))] [1, 2, 3, 4] [] [.k 1, .k 2, .k 3, .k 36] ⟨[(1, .p 1 0), (2, .p 2 0), (3, .p 3 0), (4, .d (.int .i64 a86))], [(1, .st false (eD (eMdl p0))), (2, .st false [.d .nils, .d .nils, .d .nils, .d .nils, .d .nils, .d .nils, .d .nils, .d .nils]), (3, .st false [.ls 36 0 (a85 ++ ([(Typ.mk x88 (((p0.types.getD a86.toNat default)).result))] : List Typ)).length, .d .nils, .d .nils, .d .nils, .d .nils, .d .nils, .d .nils, .d .nils]), (36, .sl false 2 (a85 ++ ([(Typ.mk x88 (((p0.types.getD a86.toNat default)).result))] : List Typ)).length (fl eTyp (a85 ++ ([(Typ.mk x88 (((p0.types.getD a86.toNat default)).result))] : List Typ))))]⟩ (And.intro (And.intro h87 (And.intro (c_law08_kinds K (((p0.types.getD a86.toNat default)).params) x88 hx89) (And.intro h90 (And.intro (litF eTyp ([(Typ.mk x88 (((p0.types.getD a86.toNat default)).result))] : List Typ)) (And.intro (Nat.le_refl a85.length) (And.intro h91 (And.intro (app1 eTyp a85 (Typ.mk x88 (((p0.types.getD a86.toNat default)).result)) (fl eTyp ([(Typ.mk x88 (((p0.types.getD a86.toNat default)).result))] : List Typ)) rfl) True.intro))))))) True.intro) (by kernel_rfl) ?_
      refine AW2.rg [] [1, 2, 3, 4] [] [.k 1, .k 2, .k 3, .k 36] ⟨[(1, .p 1 0), (2, .p 2 0), (3, .p 3 0), (4, .d (.int .i64 (wI (a86 + 1))))], [(1, .st false (eD (eMdl p0))), (2, .st false [.d .nils, .d .nils, .d .nils, .d .nils, .d .nils, .d .nils, .d .nils, .d .nils]), (3, .st false [.ls 36 0 (a85 ++ ([(Typ.mk x88 (((p0.types.getD a86.toNat default)).result))] : List Typ)).length, .d .nils, .d .nils, .d .nils, .d .nils, .d .nils, .d .nils, .d .nils]), (36, .sl false 2 (a85 ++ ([(Typ.mk x88 (((p0.types.getD a86.toNat default)).result))] : List Typ)).length (fl eTyp (a85 ++ ([(Typ.mk x88 (((p0.types.getD a86.toNat default)).result))] : List Typ))))]⟩ (And.intro True.intro True.intro) (by kernel_rfl) ?_
      exact ⟨k, ((a85 ++ ([(Typ.mk x88 (((p0.types.getD a86.toNat default)).result))] : List Typ)), (wI (a86 + 1))), Nat.lt_succ_self k, H, wk_mk [1, 2, 3, 4] [] [.k 1, .k 2, .k 3, .k 36] True.intro (by kernel_rfl)⟩
    · replace H := ite_f H hc
      refine AW2.exit ?_
      have H := Option.some.inj H
      subst H
      exact wk_mk [1, 2, 3] [] [.k 1, .k 2, .k 3, .k 36] True.intro (by kernel_rfl)

end Go.Proofs.YtablleokoifolaaGreatDoor

