/- Part 4 of the proof that ValidOuterUptoCardSaid: for every input that fits the row the law answers true and its arguments read as before, over the world as the row lays it. -/
import Derived.Test.YtablleokoifolaaGreatDoorZ3
set_option linter.unusedVariables false
set_option maxRecDepth 100000
namespace Go.Proofs.YtablleokoifolaaGreatDoor
open Go
theorem wI_small {x:Int} (h : -4611686018427387904≤x) (h':x<4611686018427387904):wI x=x:=by
 unfold wI; rw [IntKind.wrap_i64]; omega
theorem zyy {n:Int} (h:0≤n∧n≤140737488355328):wI (n - wI ((0:Int) - ((0:Nat):Int)))=n:=by
 have:wI ((0:Int) - ((0:Nat):Int))=0:=by decide
 rw [this,wI_small (by omega) (by omega)]; omega
theorem ztM (n:Int) (h:0≤n∧n≤140737488355328):CM E 68 [.d .nils,.d (.int .i64 n)] [] [900] [] (fun a b => a=.ls 900 0 0∧b=[(900,.sl false 1 n.toNat (fun _ => [.int .u8 0]))]):=by
 refine zkr (A:=zbI) zcn fun fr => ?_
 refine AW2.seq ?_
 refine AW2.rg [] [0,1] [] [] ⟨[(0,.d .nils),(1,.d (.int .i64 n))],[]⟩ (And.intro True.intro True.intro) (by kernel_rfl) ?_
 refine AW2.seq ?_
 refine AW2.seq ?_
 refine AW2.rg [] [0,1,6] [] [] ⟨[(0,.d .nils),(1,.d (.int .i64 n)),(6,.d (.bool (decide (n<0))))],[]⟩ (And.intro True.intro True.intro) (by kernel_rfl) ?_
 refine AW2.cond (b:=decide (n<0)) rfl (fun hc => absurd (of_decide_eq_true hc) (by omega)) (fun hc => ?_)
 refine AW2.skip ?_
 refine AW2.seq ?_
 refine AW2.seq ?_
 refine AW2.rg [] [0,1] [] [] ⟨[(0,.d .nils),(1,.d (.int .i64 (wI (n - wI ((0:Int) - ((0:Nat):Int))))))],[]⟩ (And.intro True.intro True.intro) (by kernel_rfl) ?_
 rw [zyy h]
 refine AW2.seq ?_
 refine AW2.rg [] [0,1,16] [] [] ⟨[(0,.d .nils),(1,.d (.int .i64 n)),(16,.d (.bool (decide (n>0))))],[]⟩ (And.intro True.intro True.intro) (by kernel_rfl) ?_
 refine AW2.cond (b:=decide (n>0)) rfl (fun hc => ?_) (fun hc => ?_)
 ·have hn:=of_decide_eq_true hc
  refine AW2.rg [.s false 0 (fun _ => []),.k 900,.s false 0 (fun _ => [])] [0] [] [.k 900] ⟨[(0,.ls 900 0 0)],[(900,.sl false 1 n.toNat (fun _ => [.int .u8 0]))]⟩ (And.intro (And.intro (⟨rfl,rfl⟩:(0:Int)=0∧(0:Int)=0) (And.intro (⟨by omega,by omega⟩:0≤n∧n.toNat * 1≤140737488355328) (And.intro (⟨by omega,by omega,by omega⟩:(0:Int)≤0∧(0:Int)≤((0:Nat):Int)∧((0:Nat):Int)≤((n.toNat:Nat):Int)) (And.intro (rfl:(0:Nat)=((0:Nat):Int).toNat - (0:Int).toNat) True.intro)))) True.intro) (by kernel_rfl) ?_
  refine AW2.seq ?_
  refine AW2.rg [] [4] [] [.k 900] ⟨[(4,.ls 900 0 0)],[(900,.sl false 1 n.toNat (fun _ => [.int .u8 0]))]⟩ (And.intro True.intro True.intro) (by kernel_rfl) ?_
  refine AW2.ret ?_
  exact retS_mk3 [] [.k 900] True.intro (by kernel_rfl) (by kernel_rfl)
 ·have hn:n=0:=by have:=of_decide_eq_false hc; omega
  subst hn
  refine AW2.skip ?_
  refine AW2.cv [.s 0 900 1 (fun _ => [.int .u8 0])] [0] [] [.k 900] ⟨[(0,.ls 900 0 0)],[(900,.sl false 1 0 (fun _ => [.int .u8 0]))]⟩ True.intro (by kernel_rfl) ?_
  refine AW2.seq ?_
  refine AW2.rg [] [4] [] [.k 900] ⟨[(4,.ls 900 0 0)],[(900,.sl false 1 0 (fun _ => [.int .u8 0]))]⟩ (And.intro True.intro True.intro) (by kernel_rfl) ?_
  refine AW2.ret ?_
  exact retS_mk3 [] [.k 900] True.intro (by kernel_rfl) (by kernel_rfl)
theorem zsz (n:Int) (h:0≤n∧n≤140737488355328):CM E 68 [.d .nils,.d (.int .i64 n)] [] [900] [] (fun a b => a=.ls 900 0 0∧b=[(900,.sl false 1 0 (fl (eI .u8) ([]:List Int)))]):=by
 intro ρ h0 n0 al hO hinj hlt hr hrows
 refine (ztM n h ρ h0 n0 al hO hinj hlt hr hrows).mono ?_
 rintro r h2 n2 ⟨⟨lv,H',ρ2,⟨e1,e2⟩,q1,q2,q3,q4,q5,q6,q7,q8⟩,q9,q10,q11⟩
 subst e2
 have hs:∀ k,(lkO [(900,Ob.sl false 1 0 (fl (eI .u8) ([]:List Int)))] k).isSome=true→(lkO [(900,Ob.sl false 1 n.toNat (fun _ => [.int .u8 0]))] k).isSome=true:=by
  intro k
  simp only [lkO]
  cases Nat.beq k 900 <;> simp
 refine ⟨⟨lv,_,ρ2,⟨e1,rfl⟩,q1,rfl,q3,?_,fun k k' κ a b => q5 k k' κ (hs k a) (hs k' b),fun k κ a => q6 k κ (hs k a),fun k κ a => q7 k κ (hs k a),q8⟩,q9,q10,q11⟩
 intro k o ho
 have hk:k=900:=by
  simp only [lkO] at ho
  cases e:Nat.beq k 900 with
  | false => rw [e] at ho; cases ho
  | true => exact Nat.eq_of_beq_eq_true e
 subst hk
 obtain rfl:Ob.sl false 1 0 (fl (eI .u8) ([]:List Int))=o:=Option.some.inj ho
 have:=q4 900 _ rfl
 rcases this with ⟨κ,es,a1,a2,_,_⟩ | ⟨a1,_⟩
 ·exact .inl ⟨κ,es,a1,a2,Nat.zero_le _,fun i hi => absurd hi (Nat.not_lt_zero _)⟩
 ·exact .inr ⟨a1,rfl⟩
end Go.Proofs.YtablleokoifolaaGreatDoor
