/- Part 5 of the proof that ValidOuterUptoCardSaid: for every input that fits the row the law answers true and its arguments read as before, over the world as the row lays it. -/
import Derived.Test.YtablleokoifolaaGreatDoorZ4
import Derived.RangeFuncKeeps
import Derived.RangeFuncLeaves
import Derived.WalkKit
import Derived.OwnWalkIn
import Derived.TacticsInMore
import Derived.RegionIn
import Derived.LoopNIn
import Derived.LoopIn
import Derived.Maps.RangeWalk
import Derived.RangeFuncIn
import Derived.RangeFuncFrom
import Derived.Shelf.Abstract
import Derived.RangeFuncCalls
set_option linter.unusedVariables false
set_option maxRecDepth 100000
namespace Go.Proofs.YtablleokoifolaaGreatDoor
open Go
def rlT {α:Type} (l:List (Nat×α)):List α:=l.flatMap fun p => List.replicate p.1 p.2
def sgT:List (List Int×Int×Option Int):=rlT [(40,([],(0,some 1))),(1,([127],(127,none))),(1,([127],(126,none))),(2,([],(0,some 1))),(4,([127],(127,none))),(6,([127],(126,none))),(1,([127,127],(0,none))),(1,([127,126],(0,none))),(2,([],(0,some 1))),(2,([127,127],(0,none))),(3,([127,126],(0,none))),(1,([],(127,none))),(1,([127],(127,none))),(1,([],(127,none))),(1,([],(126,none))),(2,([],(0,some 1))),(1,([127],(127,none))),(10,([127,127],(127,none))),(1,([126],(127,none))),(10,([126,126],(127,none))),(12,([],(0,some 1))),(3,([127],(127,none))),(15,([127,127],(127,none))),(3,([126],(126,none))),(15,([126,126],(126,none))),(28,([],(0,some 1))),(1,([126],(127,none))),(4,([],(0,some 1))),(2,([127],(126,none))),(82,([],(0,some 1)))]
def foT:List (Int×Option Int):=rlT [(2,(0,none)),(2,(6,none)),(1,(7,none)),(7,(0,some 1)),(2,(3,none)),(1,(8,none)),(1,(0,none)),(1,(3,none)),(1,(9,none)),(8,(0,some 1)),(2,(0,none)),(4,(0,some 1)),(5,(3,none)),(3,(0,some 1)),(2,(4,none)),(2,(0,some 1)),(12,(4,none)),(2,(0,some 1)),(5,(4,none)),(2,(5,none)),(1,(1,none)),(1,(2,none)),(2,(0,some 1)),(22,(0,none)),(12,(0,some 1)),(36,(0,none)),(28,(0,some 1)),(1,(0,none)),(4,(0,some 1)),(2,(0,none)),(82,(0,some 1))]
def byT:List (Int×Bool×Option Int):=rlT [(40,(0,(false,some 1))),(1,(4,(false,none))),(1,(8,(false,none))),(2,(0,(false,some 1))),(1,(1,(true,none))),(1,(1,(false,none))),(1,(2,(true,none))),(1,(2,(false,none))),(1,(1,(true,none))),(1,(1,(false,none))),(1,(2,(true,none))),(1,(2,(false,none))),(1,(4,(true,none))),(2,(4,(false,none))),(1,(8,(false,none))),(2,(0,(false,some 1))),(1,(1,(false,none))),(1,(2,(false,none))),(1,(1,(false,none))),(1,(2,(false,none))),(1,(4,(false,none))),(193,(0,(false,some 1)))]
theorem zvT {α:Type} [Inhabited α] {T:Tab} {f d:Nat} {l:List α} {en:α→FV} (hl:l.length=256) (h:(List.range 256).map (fun i:Nat => (xF T 3000 d).1 f [.int .u8 (i:Int)])=l.map fun r => some (toA (en r)))
  {p0:Int} (h0:0≤p0∧p0<256):(xF T 3000 d).1 f [.int .u8 p0]=some (toA (en (l.getD p0.toNat default))):=by
 have hi:p0.toNat<256:=by omega
 have e:((p0.toNat:Nat):Int)=p0:=by omega
 have:=congrArg (fun l => l[p0.toNat]?) h
 simp only [List.getElem?_map,List.getElem?_range hi,Option.map_some] at this
 rw [List.getElem?_eq_getElem (by omega),Option.map_some,e] at this
 rw [Option.some.inj this,List.getD_eq_getElem?_getD,List.getElem?_eq_getElem (by omega)]
 rfl
def nmB (n:Nat):ByteArray:=if n<174 then nmV n else ⟨#[]⟩
theorem nmB_eq {p0:Int} (h0:0≤p0∧p0<256):zmg p0=some (nmB p0.toNat):=by
 have hw:wI p0=p0:=by unfold wI; rw [IntKind.wrap_i64]; omega
 unfold zmg zmU gd nmB
 rw [if_pos h0,hw]
 by_cases h:p0≥174
 ·rw [if_pos (by simpa using h),if_neg (by omega)]
 ·rw [if_neg (by simpa using h),if_pos (by omega)]
theorem zwR:(List.range 256).map (fun i:Nat => (xF TT 3000 60).1 80 [.int .u8 (i:Int)])=((List.range 256).map nmB).map fun r => some (toA (.str r)):=by kernel_rfl
def torc2 (f:Nat) (ar:List AV):Option AV:=
 match ar with
 | [.int .u8 i] => if (Nat.beq f 80||Nat.beq f 88)=true then (if 0≤i∧i<256 then some (.str (nmB i.toNat)) else none) else torc f ar
 | _ => torc f ar
def TT2:Tab:=⟨fun f => if (Nat.beq f 80||Nat.beq f 88)=true then none else Tfn f,torc2,fun _ _ _ _ _ _ => none⟩
theorem zwA {f:Nat} {ar:List AV} {r:AV} (h:torc f ar=some r):ACallP E f ar r:=TT_ok.2.1 f ar r h
theorem TT2_ok:TabOk E TT2:=by
 refine ⟨fun f A np h => ?_,fun f ar r h => ?_,fun _ _ _ _ f ar h n r h' n' hx => by cases hx⟩
 ·simp only [TT2] at h
  split at h
  ·cases h
  ·exact TT_ok.1 f A np h
 ·simp only [TT2] at h
  unfold torc2 at h
  split at h
  ·rename_i i
   split at h
   ·rename_i hf
    split at h
    ·rename_i hi
     obtain rfl:=Option.some.inj h
     rw [Bool.or_eq_true] at hf
     rcases hf with hf | hf
     ·obtain rfl:=Nat.eq_of_beq_eq_true hf
      have:=zwF 60 (zvT (l:=(List.range 256).map nmB) (en:=.str) rfl zwR hi)
      have e:((List.range 256).map nmB).getD i.toNat default=nmB i.toNat:=by
       have hlt:i.toNat<256:=by omega
       rw [List.getD_eq_getElem?_getD,List.getElem?_map,List.getElem?_range hlt]; rfl
      rw [e] at this
      exact this
     ·obtain rfl:=Nat.eq_of_beq_eq_true hf
      exact zvo i _ (nmB_eq hi)
    ·cases h
   ·exact zwA h
  ·exact zwA h
theorem zuX {f:Nat} {ar:List AV} {r:AV} (d:Nat) (h:(xF TT2 3000 d).1 f ar=some r):ACallP E f ar r:=(xF_sound TT2_ok 3000 d).1 f ar r h
def enS (r:List Int×Int×Option Int):FV:=.tup [.agg (eTyp ⟨r.1,r.2.1⟩),.err 45 r.2.2]
def enF (r:Int×Option Int):FV:=.tup [.int .i64 r.1,.err 45 r.2]
def enY (r:Int×Bool×Option Int):FV:=.tup [.int .i64 r.1,.bool r.2.1,.err 45 r.2.2]
theorem zzc:(List.range 256).map (fun i:Nat => (xF TT2 3000 60).1 85 [.int .u8 (i:Int)])=sgT.map fun r => some (toA (enS r)):=by kernel_rfl
theorem zzd:(List.range 256).map (fun i:Nat => (xF TT2 3000 60).1 87 [.int .u8 (i:Int)])=foT.map fun r => some (toA (enF r)):=by kernel_rfl
theorem zzb:(List.range 256).map (fun i:Nat => (xF TT2 3000 60).1 86 [.int .u8 (i:Int)])=byT.map fun r => some (toA (enY r)):=by kernel_rfl
def zlm (p0:Int):Option (Typ×Option Int):=gd (0≤p0∧p0<256) (some (⟨(sgT.getD p0.toNat default).1,(sgT.getD p0.toNat default).2.1⟩,(sgT.getD p0.toNat default).2.2))
def zln (p0:Int):Option (Int×Option Int):=gd (0≤p0∧p0<256) (some (foT.getD p0.toNat default))
def ziz (p0:Int):Option (Int×Bool×Option Int):=gd (0≤p0∧p0<256) (some (byT.getD p0.toNat default))
def zkm (p0:Int):Option (List Int×Int×Bool):=gd (0≤p0∧p0<256) (some ((sgT.getD p0.toNat default).1,(sgT.getD p0.toNat default).2.1,(sgT.getD p0.toNat default).2.2.isNone))
def zkn (p0:Int):Option (Int×Bool):=gd (0≤p0∧p0<256) (some ((foT.getD p0.toNat default).1,(foT.getD p0.toNat default).2.isNone))
def ziy (p0:Int):Option (Int×Bool×Bool):=gd (0≤p0∧p0<256) (some ((byT.getD p0.toNat default).1,(byT.getD p0.toNat default).2.1,(byT.getD p0.toNat default).2.2.isNone))
theorem zwm (p0:Int) (r:Typ×Option Int) (H:zlm p0=some r):CF E 85 [.int .u8 p0] (.tup [.agg (eTyp r.1),.err 45 r.2]):=by
 obtain ⟨h,H⟩:=zaf H
 obtain rfl:=Option.some.inj H
 exact zuX 60 (zvT (en:=enS) rfl zzc h)
theorem zwn (p0:Int) (r:Int×Option Int) (H:zln p0=some r):CF E 87 [.int .u8 p0] (.tup [.int .i64 r.1,.err 45 r.2]):=by
 obtain ⟨h,H⟩:=zaf H
 obtain rfl:=Option.some.inj H
 exact zuX 60 (zvT (en:=enF) rfl zzd h)
theorem zvq (p0:Int) (r:Int×Bool×Option Int) (H:ziz p0=some r):CF E 86 [.int .u8 p0] (.tup [.int .i64 r.1,.bool r.2.1,.err 45 r.2.2]):=by
 obtain ⟨h,H⟩:=zaf H
 obtain rfl:=Option.some.inj H
 exact zuX 60 (zvT (en:=enY) rfl zzb h)
end Go.Proofs.YtablleokoifolaaGreatDoor
set_option linter.unusedVariables false
set_option maxRecDepth 100000
set_option maxHeartbeats 4000000
namespace Go.Proofs.YtablleokoifolaaGreatDoor
open Go
def zaD:Nat→(List Instr)→Int→Int→Option (Int)
 | 0,_,_,_ => none
 | k+1,p0,p1,p2 => (if ((decide ((p0.length:Int)>p1))||(decide (p2>(80:Int))))=true then some p1 else (lpN k (fun (rec6:Int×Int→Option (Int)) v => match v with | (a4,a5) => (if ((decide (a5<(p0.length:Int)))&&(decide (a4<p1)))=true then gd (0≤a5∧a5<(p0.length:Int)) (gd (0≤a5∧a5<(p0.length:Int)) ((zaD k ((p0.getD a5.toNat default).body) p1 (wI (p2+1))).bind fun x9 => gd (0≤a5∧a5<(p0.length:Int)) ((zaD k ((p0.getD a5.toNat default).els) p1 (wI (p2+1))).bind fun x12 => rec6 ((wI ((wI ((wI (a4+(mnI (((p0.getD a5.toNat default).labels).length:Int) p1)))+x9))+x12)),(wI (a5+1)))))) else some a4)) ((p0.length:Int),0)).bind (fun j1 => some j1))
theorem zmQ (k:Nat) (IH_law08_countCode:∀ (p0:List Instr) (p1:Int) (p2:Int) (r:Int),zaD k p0 p1 p2=some r→CF E 16 [sVI p0,.int .i64 p1,.int .i64 p2] (.int .i64 r)):∀ (p0:List Instr) (p1:Int) (p2:Int) (r:Int),zaD (k+1) p0 p1 p2=some r→CF E 16 [sVI p0,.int .i64 p1,.int .i64 p2] (.int .i64 r):=by
 intro p0 p1 p2 r H
 refine zeg (A:=ziu) zmv rfl fun fr => ?_
 unfold zaD at H
 refine AW2.seq ?_
 refine r_ [] [0,1,2] [] [] ⟨[(0,.d (sVI p0)),(1,.d (.int .i64 p1)),(2,.d (.int .i64 p2))],[]⟩ (a_ t_ t_) ?_
 refine AW2.seq ?_
 refine AW2.seq ?_
 refine AW2.reg [] rfl (YW.to ⟨[(0,.d (sVI p0)),(1,.d (.int .i64 p1)),(2,.d (.int .i64 p2)),(16,.d (.bool ((decide ((p0.length:Int)>p1))||(decide (p2>(80:Int))))))],[]⟩ ?qh17 ?h17)
 case h17 => 
  rcases bT (decide ((p0.length:Int)>p1)) with hc1 | hc1
  ·exact YW.fin [(13,true)] [] [0,1,2,16] [(16,.d (.bool ((decide ((p0.length:Int)>p1))||(decide (p2>(80:Int))))))] [] _ (a_ (a_ hc1 (a_ hc1 (a_ hc1 t_))) (a_ (ovB (orT (b:=(decide (p2>(80:Int)))) hc1)) t_)) (by kernel_rfl) rfl
  ·exact YW.fin [(13,false)] [] [0,1,2,16] [(16,.d (.bool ((decide ((p0.length:Int)>p1))||(decide (p2>(80:Int))))))] [] _ (a_ (a_ hc1 (a_ hc1 (a_ hc1 t_))) (a_ (ovB (Eq.trans (orF (b:=(decide (p2>(80:Int)))) hc1) (Eq.refl (decide (p2>(80:Int)))))) t_)) (by kernel_rfl) rfl
 refine AW2.cond (b:=((decide ((p0.length:Int)>p1))||(decide (p2>(80:Int))))) rfl (fun hc => ?_) (fun hc => ?_)
 ·replace H:=zao H hc
  refine AW2.seq ?_
  refine r_ [] [6] [] [] ⟨[(6,.d (.int .i64 p1))],[]⟩ (a_ t_ t_) ?_
  refine AW2.ret ?_
  have H:=Option.some.inj H
  subst H
  exact retP_mk2 t_ (by kernel_rfl)
 ·replace H:=zap H hc
  refine AW2.skip ?_
  refine AW2.seq ?_
  refine r_ [] [0,1,2,7] [] [] ⟨[(0,.d (sVI p0)),(1,.d (.int .i64 p1)),(2,.d (.int .i64 p2)),(7,.d (.int .i64 (p0.length:Int)))],[]⟩ (a_ t_ t_) ?_
  obtain ⟨j1,H16,H⟩:=bind_some H
  refine AW2.mid ⟨[(7,.d (.int .i64 j1))],[]⟩ ?_ ?_
  ·refine AW2.seq ?_
   refine r_ [] [6] [] [] ⟨[(6,.d (.int .i64 j1))],[]⟩ (a_ t_ t_) ?_
   refine AW2.ret ?_
   have H:=Option.some.inj H
   subst H
   exact retP_mk2 t_ (by kernel_rfl)
  ·have H:=H16
   refine AW2.seq ?_
   refine r_ [] [0,1,2,7,8] [] [] ⟨[(0,.d (sVI p0)),(1,.d (.int .i64 p1)),(2,.d (.int .i64 p2)),(7,.d (.int .i64 (p0.length:Int))),(8,.d (.int .i64 0))],[]⟩ (a_ t_ t_) ?_
   refine AW2.block ?_
   refine AW2.lpR (σ:=Int×Int) (fun v => ⟨[(0,.d (sVI p0)),(1,.d (.int .i64 p1)),(2,.d (.int .i64 p2)),(7,.d (.int .i64 v.1)),(8,.d (.int .i64 v.2))],[]⟩) ?_ (v:=((p0.length:Int),0)) H
   rintro rec6 ⟨a4,a5⟩ H
   dsimp only at H
   refine AW2.seq ?_
   refine AW2.seq ?_
   refine AW2.reg [] rfl (YW.to ⟨[(0,.d (sVI p0)),(1,.d (.int .i64 p1)),(2,.d (.int .i64 p2)),(7,.d (.int .i64 a4)),(8,.d (.int .i64 a5)),(28,.d (.bool ((decide (a5<(p0.length:Int)))&&(decide (a4<p1)))))],[]⟩ ?qh14 ?h14)
   case h14 => 
    rcases bT (decide (a5<(p0.length:Int))) with hc1 | hc1
    ·exact YW.fin [(24,true)] [] [0,1,2,7,8,28] [(28,.d (.bool ((decide (a5<(p0.length:Int)))&&(decide (a4<p1)))))] [] _ (a_ (a_ hc1 (a_ hc1 (a_ hc1 (a_ hc1 t_)))) (a_ (ovB (Eq.trans (andT (b:=(decide (a4<p1))) hc1) (Eq.refl (decide (a4<p1))))) t_)) (by kernel_rfl) rfl
    ·exact YW.fin [(24,false)] [] [0,1,2,7,8,28] [(28,.d (.bool ((decide (a5<(p0.length:Int)))&&(decide (a4<p1)))))] [] _ (a_ (a_ hc1 (a_ hc1 (a_ hc1 (a_ hc1 t_)))) (a_ (ovB (andF (b:=(decide (a4<p1))) hc1)) t_)) (by kernel_rfl) rfl
   refine AW2.cond (b:=((decide (a5<(p0.length:Int)))&&(decide (a4<p1)))) rfl (fun hc => ?_) (fun hc => ?_)
   ·replace H:=zao H hc
    refine AW2.skip ?_
    refine AW2.seq ?_
    refine AW2.block ?_
    obtain ⟨h7,H⟩:=zaf H
    obtain ⟨h8,H⟩:=zaf H
    obtain ⟨x9,hx10,H⟩:=bind_some H
    obtain ⟨h11,H⟩:=zaf H
    obtain ⟨x12,hx13,H⟩:=bind_some H
    refine r_ [.e (eInstr (p0.getD a5.toNat default)),.e (eInstr (p0.getD a5.toNat default)),.r (.int .i64 x9),.e (eInstr (p0.getD a5.toNat default)),.r (.int .i64 x12)] [0,1,2,7,8] [] [] ⟨[(0,.d (sVI p0)),(1,.d (.int .i64 p1)),(2,.d (.int .i64 p2)),(7,.d (.int .i64 (wI ((wI ((wI (a4+(mnI (((p0.getD a5.toNat default).labels).length:Int) p1)))+x9))+x12)))),(8,.d (.int .i64 a5))],[]⟩ (a_ (a_ h7 (a_ (flI_ix h7) (a_ h8 (a_ (flI_ix h8) (a_ (IH_law08_countCode ((p0.getD a5.toNat default).body) p1 (wI (p2+1)) x9 hx10) (a_ h11 (a_ (flI_ix h11) (a_ (IH_law08_countCode ((p0.getD a5.toNat default).els) p1 (wI (p2+1)) x12 hx13) t_)))))))) t_) ?_
    refine r_ [] [0,1,2,7,8] [] [] ⟨[(0,.d (sVI p0)),(1,.d (.int .i64 p1)),(2,.d (.int .i64 p2)),(7,.d (.int .i64 (wI ((wI ((wI (a4+(mnI (((p0.getD a5.toNat default).labels).length:Int) p1)))+x9))+x12)))),(8,.d (.int .i64 (wI (a5+1))))],[]⟩ (a_ t_ t_) ?_
    exact ⟨((wI ((wI ((wI (a4+(mnI (((p0.getD a5.toNat default).labels).length:Int) p1)))+x9))+x12)),(wI (a5+1))),H,zbc [0,1,2,7,8] [] [] t_ (by kernel_rfl)⟩
   ·replace H:=zap H hc
    refine AW2.exit ?_
    have H:=Option.some.inj H
    subst H
    exact zbc [7] [] [] t_ (by kernel_rfl)
theorem zkv:∀ k,(∀ (p0:List Instr) (p1:Int) (p2:Int) (r:Int),zaD k p0 p1 p2=some r→CF E 16 [sVI p0,.int .i64 p1,.int .i64 p2] (.int .i64 r)):=by
 intro k
 induction k with
 | zero => exact fun _ _ _ _ H => (by cases H)
 | succ k ih => 
  have i0:=ih
  exact zmQ k i0
theorem zdx (k:Nat):∀ (p0:List Instr) (p1:Int) (p2:Int) (r:Int),zaD k p0 p1 p2=some r→CF E 16 [sVI p0,.int .i64 p1,.int .i64 p2] (.int .i64 r):=(zkv k)
def zbE:Nat→Nat→Mdl→Int→Int→Option (Int)
 | 0,_,_,_,_ => none
 | k+1,K,p0,a9,a10 => (if (decide (a10<(p0.globals.length:Int)))=true then gd (0≤a10∧a10<(p0.globals.length:Int)) ((zaD K ([(p0.globals.getD a10.toNat default).init_]:List Instr) 3000 0).bind fun x12 => zbE k K p0 (wI (a9+x12)) (wI (a10+1))) else some a9)
def zbD:Nat→Nat→Mdl→Int→Int→Option (Int)
 | 0,_,_,_,_ => none
 | k+1,K,p0,a18,a19 => (if (decide (a19<(p0.datas.length:Int)))=true then gd (0≤a19∧a19<(p0.datas.length:Int)) (gd (0≤a19∧a19<(p0.datas.length:Int)) ((zaD K ([(p0.datas.getD a19.toNat default).offset]:List Instr) 3000 0).bind fun x22 => zbD k K p0 (wI ((wI (a18+(mnI (((p0.datas.getD a19.toNat default).bytes).length:Int) 5000)))+x22)) (wI (a19+1)))) else some a18)
def zbC:Nat→Nat→Mdl→Int→Int→Option (Int)
 | 0,_,_,_,_ => none
 | k+1,K,p0,a28,a29 => (if (decide (a29<(p0.elems.length:Int)))=true then gd (0≤a29∧a29<(p0.elems.length:Int)) (gd (0≤a29∧a29<(p0.elems.length:Int)) ((zaD K ([(p0.elems.getD a29.toNat default).offset]:List Instr) 3000 0).bind fun x32 => zbC k K p0 (wI ((wI (a28+(mnI (((p0.elems.getD a29.toNat default).funcs).length:Int) 5000)))+x32)) (wI (a29+1)))) else some a28)
def zbB:Nat→Mdl→Int→Int→Option (Int)
 | 0,_,_,_ => none
 | k+1,p0,a38,a39 => (if (decide (a39<(p0.exports.length:Int)))=true then gd (0≤a39∧a39<(p0.exports.length:Int)) (zbB k p0 (wI (a38+(mnI (((p0.exports.getD a39.toNat default).name).size:Int) 5000))) (wI (a39+1))) else some a38)
def zbA:Nat→Nat→Mdl→Int→Int→Option (Int)
 | 0,_,_,_,_ => none
 | k+1,K,p0,a45,a46 => (if (decide (a46<(p0.funcs.length:Int)))=true then gd (0≤a46∧a46<(p0.funcs.length:Int)) (gd (0≤a46∧a46<(p0.funcs.length:Int)) ((zaD K ((p0.funcs.getD a46.toNat default).body) 3000 0).bind fun x49 => zbA k K p0 (wI ((wI (a45+(mnI (((p0.funcs.getD a46.toNat default).locals).length:Int) 5000)))+x49)) (wI (a46+1)))) else some a45)
def zbz:Nat→Mdl→Int→Int→Option (Int)
 | 0,_,_,_ => none
 | k+1,p0,a55,a56 => (if (decide (a56<(p0.types.length:Int)))=true then gd (0≤a56∧a56<(p0.types.length:Int)) (zbz k p0 (wI (a55+(mnI (((p0.types.getD a56.toNat default).params).length:Int) 5000))) (wI (a56+1))) else some a55)
def zcw (K:Nat) (p0:Mdl):Option (Bool):=(if ((decide ((p0.types.length:Int)>(300:Int)))||((decide ((p0.funcs.length:Int)>(300:Int)))||((decide ((p0.tables.length:Int)>(300:Int)))||((decide ((p0.memories.length:Int)>(300:Int)))||((decide ((p0.globals.length:Int)>(300:Int)))||((decide ((p0.exports.length:Int)>(300:Int)))||((decide ((p0.elems.length:Int)>(300:Int)))||(decide ((p0.datas.length:Int)>(300:Int))))))))))=true then some true else (zbz K p0 0 0).bind (fun j1 => (zbA K K p0 j1 0).bind (fun j2 => (zbB K p0 j2 0).bind (fun j3 => (zbC K K p0 j3 0).bind (fun j4 => (zbD K K p0 j4 0).bind (fun j5 => (zbE K K p0 j5 0).bind (fun j6 => some (decide (j6>(1000:Int))))))))))
theorem zmY (K:Nat) (p0:Mdl) (r:Bool) (H:zcw K p0=some r):CF E 1 [.agg (eMdl p0)] (.bool r):=by
 refine zeg (A:=ziv) zmw rfl fun fr => ?_
 unfold zcw at H
 refine AW2.seq ?_
 refine r_ [.k 1] [1] [] [.k 1] ⟨[(1,.p 1 0)],[(1,.st false (eD (eMdl p0)))]⟩ (a_ t_ t_) ?_
 refine AW2.seq ?_
 refine AW2.seq ?_
 refine AW2.reg [] rfl (YW.to ⟨[(1,.p 1 0),(55,.d (.bool ((decide ((p0.types.length:Int)>(300:Int)))||((decide ((p0.funcs.length:Int)>(300:Int)))||((decide ((p0.tables.length:Int)>(300:Int)))||((decide ((p0.memories.length:Int)>(300:Int)))||((decide ((p0.globals.length:Int)>(300:Int)))||((decide ((p0.exports.length:Int)>(300:Int)))||((decide ((p0.elems.length:Int)>(300:Int)))||(decide ((p0.datas.length:Int)>(300:Int))))))))))))],[(1,.st false (eD (eMdl p0)))]⟩ ?qh60 ?h60)
 case h60 => 
  rcases bT (decide ((p0.types.length:Int)>(300:Int))) with hc1 | hc1
  ·exact YW.fin [(14,true),(20,true),(26,true),(32,true),(38,true),(44,true),(50,true)] [] [1,55] [(55,.d (.bool ((decide ((p0.types.length:Int)>(300:Int)))||((decide ((p0.funcs.length:Int)>(300:Int)))||((decide ((p0.tables.length:Int)>(300:Int)))||((decide ((p0.memories.length:Int)>(300:Int)))||((decide ((p0.globals.length:Int)>(300:Int)))||((decide ((p0.exports.length:Int)>(300:Int)))||((decide ((p0.elems.length:Int)>(300:Int)))||(decide ((p0.datas.length:Int)>(300:Int))))))))))))] [.k 1] _ (a_ (a_ hc1 (a_ hc1 (a_ hc1 (a_ hc1 (a_ hc1 (a_ (Eq.refl true) (a_ (Eq.refl true) (a_ (Eq.refl true) (a_ (Eq.refl true) (a_ (Eq.refl true) (a_ (Eq.refl true) (a_ (Eq.refl true) (a_ (Eq.refl true) (a_ (Eq.refl true) (a_ (Eq.refl true) (a_ (Eq.refl true) (a_ (Eq.refl true) (a_ (Eq.refl true) (a_ (Eq.refl true) (a_ (Eq.refl true) (a_ (Eq.refl true) (a_ (Eq.refl true) (a_ (Eq.refl true) (a_ (Eq.refl true) (a_ (Eq.refl true) (a_ (Eq.refl true) (a_ (Eq.refl true) (a_ (Eq.refl true) (a_ (Eq.refl true) (a_ (Eq.refl true) (a_ (Eq.refl true) (a_ (Eq.refl true) (a_ (Eq.refl true) (a_ (Eq.refl true) (a_ (Eq.refl true) t_))))))))))))))))))))))))))))))))))) (a_ (ovB (orT (b:=((decide ((p0.funcs.length:Int)>(300:Int)))||((decide ((p0.tables.length:Int)>(300:Int)))||((decide ((p0.memories.length:Int)>(300:Int)))||((decide ((p0.globals.length:Int)>(300:Int)))||((decide ((p0.exports.length:Int)>(300:Int)))||((decide ((p0.elems.length:Int)>(300:Int)))||(decide ((p0.datas.length:Int)>(300:Int)))))))))) hc1)) t_)) (by kernel_rfl) rfl
  ·rcases bT (decide ((p0.funcs.length:Int)>(300:Int))) with hc2 | hc2
   ·exact YW.fin [(14,false),(20,true),(26,true),(32,true),(38,true),(44,true),(50,true)] [] [1,55] [(55,.d (.bool ((decide ((p0.types.length:Int)>(300:Int)))||((decide ((p0.funcs.length:Int)>(300:Int)))||((decide ((p0.tables.length:Int)>(300:Int)))||((decide ((p0.memories.length:Int)>(300:Int)))||((decide ((p0.globals.length:Int)>(300:Int)))||((decide ((p0.exports.length:Int)>(300:Int)))||((decide ((p0.elems.length:Int)>(300:Int)))||(decide ((p0.datas.length:Int)>(300:Int))))))))))))] [.k 1] _ (a_ (a_ hc1 (a_ hc1 (a_ hc1 (a_ hc1 (a_ hc1 (a_ hc2 (a_ hc2 (a_ hc2 (a_ hc2 (a_ hc2 (a_ (Eq.refl true) (a_ (Eq.refl true) (a_ (Eq.refl true) (a_ (Eq.refl true) (a_ (Eq.refl true) (a_ (Eq.refl true) (a_ (Eq.refl true) (a_ (Eq.refl true) (a_ (Eq.refl true) (a_ (Eq.refl true) (a_ (Eq.refl true) (a_ (Eq.refl true) (a_ (Eq.refl true) (a_ (Eq.refl true) (a_ (Eq.refl true) (a_ (Eq.refl true) (a_ (Eq.refl true) (a_ (Eq.refl true) (a_ (Eq.refl true) (a_ (Eq.refl true) (a_ (Eq.refl true) (a_ (Eq.refl true) (a_ (Eq.refl true) (a_ (Eq.refl true) (a_ (Eq.refl true) t_))))))))))))))))))))))))))))))))))) (a_ (ovB (Eq.trans (orF (b:=((decide ((p0.funcs.length:Int)>(300:Int)))||((decide ((p0.tables.length:Int)>(300:Int)))||((decide ((p0.memories.length:Int)>(300:Int)))||((decide ((p0.globals.length:Int)>(300:Int)))||((decide ((p0.exports.length:Int)>(300:Int)))||((decide ((p0.elems.length:Int)>(300:Int)))||(decide ((p0.datas.length:Int)>(300:Int)))))))))) hc1) (orT (b:=((decide ((p0.tables.length:Int)>(300:Int)))||((decide ((p0.memories.length:Int)>(300:Int)))||((decide ((p0.globals.length:Int)>(300:Int)))||((decide ((p0.exports.length:Int)>(300:Int)))||((decide ((p0.elems.length:Int)>(300:Int)))||(decide ((p0.datas.length:Int)>(300:Int))))))))) hc2))) t_)) (by kernel_rfl) rfl
   ·rcases bT (decide ((p0.tables.length:Int)>(300:Int))) with hc3 | hc3
    ·exact YW.fin [(14,false),(20,false),(26,true),(32,true),(38,true),(44,true),(50,true)] [] [1,55] [(55,.d (.bool ((decide ((p0.types.length:Int)>(300:Int)))||((decide ((p0.funcs.length:Int)>(300:Int)))||((decide ((p0.tables.length:Int)>(300:Int)))||((decide ((p0.memories.length:Int)>(300:Int)))||((decide ((p0.globals.length:Int)>(300:Int)))||((decide ((p0.exports.length:Int)>(300:Int)))||((decide ((p0.elems.length:Int)>(300:Int)))||(decide ((p0.datas.length:Int)>(300:Int))))))))))))] [.k 1] _ (a_ (a_ hc1 (a_ hc1 (a_ hc1 (a_ hc1 (a_ hc1 (a_ hc2 (a_ hc2 (a_ hc2 (a_ hc2 (a_ hc2 (a_ hc3 (a_ hc3 (a_ hc3 (a_ hc3 (a_ hc3 (a_ (Eq.refl true) (a_ (Eq.refl true) (a_ (Eq.refl true) (a_ (Eq.refl true) (a_ (Eq.refl true) (a_ (Eq.refl true) (a_ (Eq.refl true) (a_ (Eq.refl true) (a_ (Eq.refl true) (a_ (Eq.refl true) (a_ (Eq.refl true) (a_ (Eq.refl true) (a_ (Eq.refl true) (a_ (Eq.refl true) (a_ (Eq.refl true) (a_ (Eq.refl true) (a_ (Eq.refl true) (a_ (Eq.refl true) (a_ (Eq.refl true) (a_ (Eq.refl true) t_))))))))))))))))))))))))))))))))))) (a_ (ovB (Eq.trans (orF (b:=((decide ((p0.funcs.length:Int)>(300:Int)))||((decide ((p0.tables.length:Int)>(300:Int)))||((decide ((p0.memories.length:Int)>(300:Int)))||((decide ((p0.globals.length:Int)>(300:Int)))||((decide ((p0.exports.length:Int)>(300:Int)))||((decide ((p0.elems.length:Int)>(300:Int)))||(decide ((p0.datas.length:Int)>(300:Int)))))))))) hc1) (Eq.trans (orF (b:=((decide ((p0.tables.length:Int)>(300:Int)))||((decide ((p0.memories.length:Int)>(300:Int)))||((decide ((p0.globals.length:Int)>(300:Int)))||((decide ((p0.exports.length:Int)>(300:Int)))||((decide ((p0.elems.length:Int)>(300:Int)))||(decide ((p0.datas.length:Int)>(300:Int))))))))) hc2) (orT (b:=((decide ((p0.memories.length:Int)>(300:Int)))||((decide ((p0.globals.length:Int)>(300:Int)))||((decide ((p0.exports.length:Int)>(300:Int)))||((decide ((p0.elems.length:Int)>(300:Int)))||(decide ((p0.datas.length:Int)>(300:Int)))))))) hc3)))) t_)) (by kernel_rfl) rfl
    ·rcases bT (decide ((p0.memories.length:Int)>(300:Int))) with hc4 | hc4
     ·exact YW.fin [(14,false),(20,false),(26,false),(32,true),(38,true),(44,true),(50,true)] [] [1,55] [(55,.d (.bool ((decide ((p0.types.length:Int)>(300:Int)))||((decide ((p0.funcs.length:Int)>(300:Int)))||((decide ((p0.tables.length:Int)>(300:Int)))||((decide ((p0.memories.length:Int)>(300:Int)))||((decide ((p0.globals.length:Int)>(300:Int)))||((decide ((p0.exports.length:Int)>(300:Int)))||((decide ((p0.elems.length:Int)>(300:Int)))||(decide ((p0.datas.length:Int)>(300:Int))))))))))))] [.k 1] _ (a_ (a_ hc1 (a_ hc1 (a_ hc1 (a_ hc1 (a_ hc1 (a_ hc2 (a_ hc2 (a_ hc2 (a_ hc2 (a_ hc2 (a_ hc3 (a_ hc3 (a_ hc3 (a_ hc3 (a_ hc3 (a_ hc4 (a_ hc4 (a_ hc4 (a_ hc4 (a_ hc4 (a_ (Eq.refl true) (a_ (Eq.refl true) (a_ (Eq.refl true) (a_ (Eq.refl true) (a_ (Eq.refl true) (a_ (Eq.refl true) (a_ (Eq.refl true) (a_ (Eq.refl true) (a_ (Eq.refl true) (a_ (Eq.refl true) (a_ (Eq.refl true) (a_ (Eq.refl true) (a_ (Eq.refl true) (a_ (Eq.refl true) (a_ (Eq.refl true) t_))))))))))))))))))))))))))))))))))) (a_ (ovB (Eq.trans (orF (b:=((decide ((p0.funcs.length:Int)>(300:Int)))||((decide ((p0.tables.length:Int)>(300:Int)))||((decide ((p0.memories.length:Int)>(300:Int)))||((decide ((p0.globals.length:Int)>(300:Int)))||((decide ((p0.exports.length:Int)>(300:Int)))||((decide ((p0.elems.length:Int)>(300:Int)))||(decide ((p0.datas.length:Int)>(300:Int)))))))))) hc1) (Eq.trans (orF (b:=((decide ((p0.tables.length:Int)>(300:Int)))||((decide ((p0.memories.length:Int)>(300:Int)))||((decide ((p0.globals.length:Int)>(300:Int)))||((decide ((p0.exports.length:Int)>(300:Int)))||((decide ((p0.elems.length:Int)>(300:Int)))||(decide ((p0.datas.length:Int)>(300:Int))))))))) hc2) (Eq.trans (orF (b:=((decide ((p0.memories.length:Int)>(300:Int)))||((decide ((p0.globals.length:Int)>(300:Int)))||((decide ((p0.exports.length:Int)>(300:Int)))||((decide ((p0.elems.length:Int)>(300:Int)))||(decide ((p0.datas.length:Int)>(300:Int)))))))) hc3) (orT (b:=((decide ((p0.globals.length:Int)>(300:Int)))||((decide ((p0.exports.length:Int)>(300:Int)))||((decide ((p0.elems.length:Int)>(300:Int)))||(decide ((p0.datas.length:Int)>(300:Int))))))) hc4))))) t_)) (by kernel_rfl) rfl
     ·rcases bT (decide ((p0.globals.length:Int)>(300:Int))) with hc5 | hc5
      ·exact YW.fin [(14,false),(20,false),(26,false),(32,false),(38,true),(44,true),(50,true)] [] [1,55] [(55,.d (.bool ((decide ((p0.types.length:Int)>(300:Int)))||((decide ((p0.funcs.length:Int)>(300:Int)))||((decide ((p0.tables.length:Int)>(300:Int)))||((decide ((p0.memories.length:Int)>(300:Int)))||((decide ((p0.globals.length:Int)>(300:Int)))||((decide ((p0.exports.length:Int)>(300:Int)))||((decide ((p0.elems.length:Int)>(300:Int)))||(decide ((p0.datas.length:Int)>(300:Int))))))))))))] [.k 1] _ (a_ (a_ hc1 (a_ hc1 (a_ hc1 (a_ hc1 (a_ hc1 (a_ hc2 (a_ hc2 (a_ hc2 (a_ hc2 (a_ hc2 (a_ hc3 (a_ hc3 (a_ hc3 (a_ hc3 (a_ hc3 (a_ hc4 (a_ hc4 (a_ hc4 (a_ hc4 (a_ hc4 (a_ hc5 (a_ hc5 (a_ hc5 (a_ hc5 (a_ hc5 (a_ (Eq.refl true) (a_ (Eq.refl true) (a_ (Eq.refl true) (a_ (Eq.refl true) (a_ (Eq.refl true) (a_ (Eq.refl true) (a_ (Eq.refl true) (a_ (Eq.refl true) (a_ (Eq.refl true) (a_ (Eq.refl true) t_))))))))))))))))))))))))))))))))))) (a_ (ovB (Eq.trans (orF (b:=((decide ((p0.funcs.length:Int)>(300:Int)))||((decide ((p0.tables.length:Int)>(300:Int)))||((decide ((p0.memories.length:Int)>(300:Int)))||((decide ((p0.globals.length:Int)>(300:Int)))||((decide ((p0.exports.length:Int)>(300:Int)))||((decide ((p0.elems.length:Int)>(300:Int)))||(decide ((p0.datas.length:Int)>(300:Int)))))))))) hc1) (Eq.trans (orF (b:=((decide ((p0.tables.length:Int)>(300:Int)))||((decide ((p0.memories.length:Int)>(300:Int)))||((decide ((p0.globals.length:Int)>(300:Int)))||((decide ((p0.exports.length:Int)>(300:Int)))||((decide ((p0.elems.length:Int)>(300:Int)))||(decide ((p0.datas.length:Int)>(300:Int))))))))) hc2) (Eq.trans (orF (b:=((decide ((p0.memories.length:Int)>(300:Int)))||((decide ((p0.globals.length:Int)>(300:Int)))||((decide ((p0.exports.length:Int)>(300:Int)))||((decide ((p0.elems.length:Int)>(300:Int)))||(decide ((p0.datas.length:Int)>(300:Int)))))))) hc3) (Eq.trans (orF (b:=((decide ((p0.globals.length:Int)>(300:Int)))||((decide ((p0.exports.length:Int)>(300:Int)))||((decide ((p0.elems.length:Int)>(300:Int)))||(decide ((p0.datas.length:Int)>(300:Int))))))) hc4) (orT (b:=((decide ((p0.exports.length:Int)>(300:Int)))||((decide ((p0.elems.length:Int)>(300:Int)))||(decide ((p0.datas.length:Int)>(300:Int)))))) hc5)))))) t_)) (by kernel_rfl) rfl
      ·rcases bT (decide ((p0.exports.length:Int)>(300:Int))) with hc6 | hc6
       ·exact YW.fin [(14,false),(20,false),(26,false),(32,false),(38,false),(44,true),(50,true)] [] [1,55] [(55,.d (.bool ((decide ((p0.types.length:Int)>(300:Int)))||((decide ((p0.funcs.length:Int)>(300:Int)))||((decide ((p0.tables.length:Int)>(300:Int)))||((decide ((p0.memories.length:Int)>(300:Int)))||((decide ((p0.globals.length:Int)>(300:Int)))||((decide ((p0.exports.length:Int)>(300:Int)))||((decide ((p0.elems.length:Int)>(300:Int)))||(decide ((p0.datas.length:Int)>(300:Int))))))))))))] [.k 1] _ (a_ (a_ hc1 (a_ hc1 (a_ hc1 (a_ hc1 (a_ hc1 (a_ hc2 (a_ hc2 (a_ hc2 (a_ hc2 (a_ hc2 (a_ hc3 (a_ hc3 (a_ hc3 (a_ hc3 (a_ hc3 (a_ hc4 (a_ hc4 (a_ hc4 (a_ hc4 (a_ hc4 (a_ hc5 (a_ hc5 (a_ hc5 (a_ hc5 (a_ hc5 (a_ hc6 (a_ hc6 (a_ hc6 (a_ hc6 (a_ hc6 (a_ (Eq.refl true) (a_ (Eq.refl true) (a_ (Eq.refl true) (a_ (Eq.refl true) (a_ (Eq.refl true) t_))))))))))))))))))))))))))))))))))) (a_ (ovB (Eq.trans (orF (b:=((decide ((p0.funcs.length:Int)>(300:Int)))||((decide ((p0.tables.length:Int)>(300:Int)))||((decide ((p0.memories.length:Int)>(300:Int)))||((decide ((p0.globals.length:Int)>(300:Int)))||((decide ((p0.exports.length:Int)>(300:Int)))||((decide ((p0.elems.length:Int)>(300:Int)))||(decide ((p0.datas.length:Int)>(300:Int)))))))))) hc1) (Eq.trans (orF (b:=((decide ((p0.tables.length:Int)>(300:Int)))||((decide ((p0.memories.length:Int)>(300:Int)))||((decide ((p0.globals.length:Int)>(300:Int)))||((decide ((p0.exports.length:Int)>(300:Int)))||((decide ((p0.elems.length:Int)>(300:Int)))||(decide ((p0.datas.length:Int)>(300:Int))))))))) hc2) (Eq.trans (orF (b:=((decide ((p0.memories.length:Int)>(300:Int)))||((decide ((p0.globals.length:Int)>(300:Int)))||((decide ((p0.exports.length:Int)>(300:Int)))||((decide ((p0.elems.length:Int)>(300:Int)))||(decide ((p0.datas.length:Int)>(300:Int)))))))) hc3) (Eq.trans (orF (b:=((decide ((p0.globals.length:Int)>(300:Int)))||((decide ((p0.exports.length:Int)>(300:Int)))||((decide ((p0.elems.length:Int)>(300:Int)))||(decide ((p0.datas.length:Int)>(300:Int))))))) hc4) (Eq.trans (orF (b:=((decide ((p0.exports.length:Int)>(300:Int)))||((decide ((p0.elems.length:Int)>(300:Int)))||(decide ((p0.datas.length:Int)>(300:Int)))))) hc5) (orT (b:=((decide ((p0.elems.length:Int)>(300:Int)))||(decide ((p0.datas.length:Int)>(300:Int))))) hc6))))))) t_)) (by kernel_rfl) rfl
       ·rcases bT (decide ((p0.elems.length:Int)>(300:Int))) with hc7 | hc7
        ·exact YW.fin [(14,false),(20,false),(26,false),(32,false),(38,false),(44,false),(50,true)] [] [1,55] [(55,.d (.bool ((decide ((p0.types.length:Int)>(300:Int)))||((decide ((p0.funcs.length:Int)>(300:Int)))||((decide ((p0.tables.length:Int)>(300:Int)))||((decide ((p0.memories.length:Int)>(300:Int)))||((decide ((p0.globals.length:Int)>(300:Int)))||((decide ((p0.exports.length:Int)>(300:Int)))||((decide ((p0.elems.length:Int)>(300:Int)))||(decide ((p0.datas.length:Int)>(300:Int))))))))))))] [.k 1] _ (a_ (a_ hc1 (a_ hc1 (a_ hc1 (a_ hc1 (a_ hc1 (a_ hc2 (a_ hc2 (a_ hc2 (a_ hc2 (a_ hc2 (a_ hc3 (a_ hc3 (a_ hc3 (a_ hc3 (a_ hc3 (a_ hc4 (a_ hc4 (a_ hc4 (a_ hc4 (a_ hc4 (a_ hc5 (a_ hc5 (a_ hc5 (a_ hc5 (a_ hc5 (a_ hc6 (a_ hc6 (a_ hc6 (a_ hc6 (a_ hc6 (a_ hc7 (a_ hc7 (a_ hc7 (a_ hc7 (a_ hc7 t_))))))))))))))))))))))))))))))))))) (a_ (ovB (Eq.trans (orF (b:=((decide ((p0.funcs.length:Int)>(300:Int)))||((decide ((p0.tables.length:Int)>(300:Int)))||((decide ((p0.memories.length:Int)>(300:Int)))||((decide ((p0.globals.length:Int)>(300:Int)))||((decide ((p0.exports.length:Int)>(300:Int)))||((decide ((p0.elems.length:Int)>(300:Int)))||(decide ((p0.datas.length:Int)>(300:Int)))))))))) hc1) (Eq.trans (orF (b:=((decide ((p0.tables.length:Int)>(300:Int)))||((decide ((p0.memories.length:Int)>(300:Int)))||((decide ((p0.globals.length:Int)>(300:Int)))||((decide ((p0.exports.length:Int)>(300:Int)))||((decide ((p0.elems.length:Int)>(300:Int)))||(decide ((p0.datas.length:Int)>(300:Int))))))))) hc2) (Eq.trans (orF (b:=((decide ((p0.memories.length:Int)>(300:Int)))||((decide ((p0.globals.length:Int)>(300:Int)))||((decide ((p0.exports.length:Int)>(300:Int)))||((decide ((p0.elems.length:Int)>(300:Int)))||(decide ((p0.datas.length:Int)>(300:Int)))))))) hc3) (Eq.trans (orF (b:=((decide ((p0.globals.length:Int)>(300:Int)))||((decide ((p0.exports.length:Int)>(300:Int)))||((decide ((p0.elems.length:Int)>(300:Int)))||(decide ((p0.datas.length:Int)>(300:Int))))))) hc4) (Eq.trans (orF (b:=((decide ((p0.exports.length:Int)>(300:Int)))||((decide ((p0.elems.length:Int)>(300:Int)))||(decide ((p0.datas.length:Int)>(300:Int)))))) hc5) (Eq.trans (orF (b:=((decide ((p0.elems.length:Int)>(300:Int)))||(decide ((p0.datas.length:Int)>(300:Int))))) hc6) (orT (b:=(decide ((p0.datas.length:Int)>(300:Int)))) hc7)))))))) t_)) (by kernel_rfl) rfl
        ·exact YW.fin [(14,false),(20,false),(26,false),(32,false),(38,false),(44,false),(50,false)] [] [1,55] [(55,.d (.bool ((decide ((p0.types.length:Int)>(300:Int)))||((decide ((p0.funcs.length:Int)>(300:Int)))||((decide ((p0.tables.length:Int)>(300:Int)))||((decide ((p0.memories.length:Int)>(300:Int)))||((decide ((p0.globals.length:Int)>(300:Int)))||((decide ((p0.exports.length:Int)>(300:Int)))||((decide ((p0.elems.length:Int)>(300:Int)))||(decide ((p0.datas.length:Int)>(300:Int))))))))))))] [.k 1] _ (a_ (a_ hc1 (a_ hc1 (a_ hc1 (a_ hc1 (a_ hc1 (a_ hc2 (a_ hc2 (a_ hc2 (a_ hc2 (a_ hc2 (a_ hc3 (a_ hc3 (a_ hc3 (a_ hc3 (a_ hc3 (a_ hc4 (a_ hc4 (a_ hc4 (a_ hc4 (a_ hc4 (a_ hc5 (a_ hc5 (a_ hc5 (a_ hc5 (a_ hc5 (a_ hc6 (a_ hc6 (a_ hc6 (a_ hc6 (a_ hc6 (a_ hc7 (a_ hc7 (a_ hc7 (a_ hc7 (a_ hc7 t_))))))))))))))))))))))))))))))))))) (a_ (ovB (Eq.trans (orF (b:=((decide ((p0.funcs.length:Int)>(300:Int)))||((decide ((p0.tables.length:Int)>(300:Int)))||((decide ((p0.memories.length:Int)>(300:Int)))||((decide ((p0.globals.length:Int)>(300:Int)))||((decide ((p0.exports.length:Int)>(300:Int)))||((decide ((p0.elems.length:Int)>(300:Int)))||(decide ((p0.datas.length:Int)>(300:Int)))))))))) hc1) (Eq.trans (orF (b:=((decide ((p0.tables.length:Int)>(300:Int)))||((decide ((p0.memories.length:Int)>(300:Int)))||((decide ((p0.globals.length:Int)>(300:Int)))||((decide ((p0.exports.length:Int)>(300:Int)))||((decide ((p0.elems.length:Int)>(300:Int)))||(decide ((p0.datas.length:Int)>(300:Int))))))))) hc2) (Eq.trans (orF (b:=((decide ((p0.memories.length:Int)>(300:Int)))||((decide ((p0.globals.length:Int)>(300:Int)))||((decide ((p0.exports.length:Int)>(300:Int)))||((decide ((p0.elems.length:Int)>(300:Int)))||(decide ((p0.datas.length:Int)>(300:Int)))))))) hc3) (Eq.trans (orF (b:=((decide ((p0.globals.length:Int)>(300:Int)))||((decide ((p0.exports.length:Int)>(300:Int)))||((decide ((p0.elems.length:Int)>(300:Int)))||(decide ((p0.datas.length:Int)>(300:Int))))))) hc4) (Eq.trans (orF (b:=((decide ((p0.exports.length:Int)>(300:Int)))||((decide ((p0.elems.length:Int)>(300:Int)))||(decide ((p0.datas.length:Int)>(300:Int)))))) hc5) (Eq.trans (orF (b:=((decide ((p0.elems.length:Int)>(300:Int)))||(decide ((p0.datas.length:Int)>(300:Int))))) hc6) (Eq.trans (orF (b:=(decide ((p0.datas.length:Int)>(300:Int)))) hc7) (Eq.refl (decide ((p0.datas.length:Int)>(300:Int)))))))))))) t_)) (by kernel_rfl) rfl
 refine AW2.cond (b:=((decide ((p0.types.length:Int)>(300:Int)))||((decide ((p0.funcs.length:Int)>(300:Int)))||((decide ((p0.tables.length:Int)>(300:Int)))||((decide ((p0.memories.length:Int)>(300:Int)))||((decide ((p0.globals.length:Int)>(300:Int)))||((decide ((p0.exports.length:Int)>(300:Int)))||((decide ((p0.elems.length:Int)>(300:Int)))||(decide ((p0.datas.length:Int)>(300:Int))))))))))) rfl (fun hc => ?_) (fun hc => ?_)
 ·replace H:=zao H hc
  refine AW2.seq ?_
  refine r_ [] [2] [] [] ⟨[(2,.d (.bool true))],[]⟩ (a_ t_ t_) ?_
  refine AW2.ret ?_
  have H:=Option.some.inj H
  subst H
  exact retP_mk2 t_ (by kernel_rfl)
 ·replace H:=zap H hc
  refine AW2.skip ?_
  refine AW2.seq ?_
  refine r_ [] [1,3] [] [.k 1] ⟨[(1,.p 1 0),(3,.d (.int .i64 0))],[(1,.st false (eD (eMdl p0)))]⟩ (a_ t_ t_) ?_
  obtain ⟨j1,H59,H⟩:=bind_some H
  refine AW2.mid ⟨[(1,.p 1 0),(3,.d (.int .i64 j1))],[(1,.st false (eD (eMdl p0)))]⟩ ?_ ?_
  ·obtain ⟨j2,H52,H⟩:=bind_some H
   refine AW2.mid ⟨[(1,.p 1 0),(3,.d (.int .i64 j2))],[(1,.st false (eD (eMdl p0)))]⟩ ?_ ?_
   ·obtain ⟨j3,H42,H⟩:=bind_some H
    refine AW2.mid ⟨[(1,.p 1 0),(3,.d (.int .i64 j3))],[(1,.st false (eD (eMdl p0)))]⟩ ?_ ?_
    ·obtain ⟨j4,H35,H⟩:=bind_some H
     refine AW2.mid ⟨[(1,.p 1 0),(3,.d (.int .i64 j4))],[(1,.st false (eD (eMdl p0)))]⟩ ?_ ?_
     ·obtain ⟨j5,H25,H⟩:=bind_some H
      refine AW2.mid ⟨[(1,.p 1 0),(3,.d (.int .i64 j5))],[(1,.st false (eD (eMdl p0)))]⟩ ?_ ?_
      ·obtain ⟨j6,H15,H⟩:=bind_some H
       refine AW2.mid ⟨[(3,.d (.int .i64 j6))],[]⟩ ?_ ?_
       ·refine AW2.seq ?_
        refine r_ [] [2] [] [] ⟨[(2,.d (.bool (decide (j6>(1000:Int)))))],[]⟩ (a_ t_ t_) ?_
        refine AW2.ret ?_
        have H:=Option.some.inj H
        subst H
        exact retP_mk2 t_ (by kernel_rfl)
       ·have H:=H15
        refine AW2.seq ?_
        refine r_ [] [1,3,9] [] [.k 1] ⟨[(1,.p 1 0),(3,.d (.int .i64 j5)),(9,.d (.int .i64 0))],[(1,.st false (eD (eMdl p0)))]⟩ (a_ t_ t_) ?_
        refine AW2.block ?_
        refine AW2.lp (σ:=Int×Int) (fun v => ⟨[(1,.p 1 0),(3,.d (.int .i64 v.1)),(9,.d (.int .i64 v.2))],[(1,.st false (eD (eMdl p0)))]⟩) (fun k v => zbE k K p0 v.1 v.2=some j6) ?_ K (j5,0) H
        rintro k ⟨a9,a10⟩ H
        dsimp only at H
        cases k with
        | zero => cases H
        | succ k => 
        unfold zbE at H
        refine AW2.seq ?_
        refine AW2.seq ?_
        refine r_ [] [1,3,9,171] [] [.k 1] ⟨[(1,.p 1 0),(3,.d (.int .i64 a9)),(9,.d (.int .i64 a10)),(171,.d (.bool (decide (a10<(p0.globals.length:Int)))))],[(1,.st false (eD (eMdl p0)))]⟩ (a_ t_ t_) ?_
        refine AW2.cond (b:=(decide (a10<(p0.globals.length:Int)))) rfl (fun hc => ?_) (fun hc => ?_)
        ·replace H:=zao H hc
         refine AW2.skip ?_
         refine AW2.seq ?_
         refine AW2.block ?_
         obtain ⟨h11,H⟩:=zaf H
         obtain ⟨x12,hx13,H⟩:=bind_some H
         refine r_ [.sb ([(p0.globals.getD a10.toNat default).init_]:List Instr).length (flI ([(p0.globals.getD a10.toNat default).init_]:List Instr)),.r (.int .i64 x12)] [1,3,9] [] [.k 1] ⟨[(1,.p 1 0),(3,.d (.int .i64 (wI (a9+x12)))),(9,.d (.int .i64 a10))],[(1,.st false (eD (eMdl p0)))]⟩ (a_ (a_ h11 (a_ (litI ([(p0.globals.getD a10.toNat default).init_]:List Instr)) (a_ (zdx K ([(p0.globals.getD a10.toNat default).init_]:List Instr) 3000 0 x12 hx13) t_))) t_) ?_
         refine r_ [] [1,3,9] [] [.k 1] ⟨[(1,.p 1 0),(3,.d (.int .i64 (wI (a9+x12)))),(9,.d (.int .i64 (wI (a10+1))))],[(1,.st false (eD (eMdl p0)))]⟩ (a_ t_ t_) ?_
         exact ⟨k,((wI (a9+x12)),(wI (a10+1))),Nat.lt_succ_self k,H,zbc [1,3,9] [] [.k 1] t_ (by kernel_rfl)⟩
        ·replace H:=zap H hc
         refine AW2.exit ?_
         have H:=Option.some.inj H
         subst H
         exact zbc [3] [] [] t_ (by kernel_rfl)
      ·have H:=H25
       refine AW2.seq ?_
       refine r_ [] [1,3,8] [] [.k 1] ⟨[(1,.p 1 0),(3,.d (.int .i64 j4)),(8,.d (.int .i64 0))],[(1,.st false (eD (eMdl p0)))]⟩ (a_ t_ t_) ?_
       refine AW2.block ?_
       refine AW2.lp (σ:=Int×Int) (fun v => ⟨[(1,.p 1 0),(3,.d (.int .i64 v.1)),(8,.d (.int .i64 v.2))],[(1,.st false (eD (eMdl p0)))]⟩) (fun k v => zbD k K p0 v.1 v.2=some j5) ?_ K (j4,0) H
       rintro k ⟨a18,a19⟩ H
       dsimp only at H
       cases k with
       | zero => cases H
       | succ k => 
       unfold zbD at H
       refine AW2.seq ?_
       refine AW2.seq ?_
       refine r_ [] [1,3,8,145] [] [.k 1] ⟨[(1,.p 1 0),(3,.d (.int .i64 a18)),(8,.d (.int .i64 a19)),(145,.d (.bool (decide (a19<(p0.datas.length:Int)))))],[(1,.st false (eD (eMdl p0)))]⟩ (a_ t_ t_) ?_
       refine AW2.cond (b:=(decide (a19<(p0.datas.length:Int)))) rfl (fun hc => ?_) (fun hc => ?_)
       ·replace H:=zao H hc
        refine AW2.skip ?_
        refine AW2.seq ?_
        refine AW2.block ?_
        obtain ⟨h20,H⟩:=zaf H
        obtain ⟨h21,H⟩:=zaf H
        obtain ⟨x22,hx23,H⟩:=bind_some H
        refine r_ [.sb ([(p0.datas.getD a19.toNat default).offset]:List Instr).length (flI ([(p0.datas.getD a19.toNat default).offset]:List Instr)),.r (.int .i64 x22)] [1,3,8] [] [.k 1] ⟨[(1,.p 1 0),(3,.d (.int .i64 (wI ((wI (a18+(mnI (((p0.datas.getD a19.toNat default).bytes).length:Int) 5000)))+x22)))),(8,.d (.int .i64 a19))],[(1,.st false (eD (eMdl p0)))]⟩ (a_ (a_ h20 (a_ h21 (a_ (litI ([(p0.datas.getD a19.toNat default).offset]:List Instr)) (a_ (zdx K ([(p0.datas.getD a19.toNat default).offset]:List Instr) 3000 0 x22 hx23) t_)))) t_) ?_
        refine r_ [] [1,3,8] [] [.k 1] ⟨[(1,.p 1 0),(3,.d (.int .i64 (wI ((wI (a18+(mnI (((p0.datas.getD a19.toNat default).bytes).length:Int) 5000)))+x22)))),(8,.d (.int .i64 (wI (a19+1))))],[(1,.st false (eD (eMdl p0)))]⟩ (a_ t_ t_) ?_
        exact ⟨k,((wI ((wI (a18+(mnI (((p0.datas.getD a19.toNat default).bytes).length:Int) 5000)))+x22)),(wI (a19+1))),Nat.lt_succ_self k,H,zbc [1,3,8] [] [.k 1] t_ (by kernel_rfl)⟩
       ·replace H:=zap H hc
        refine AW2.exit ?_
        have H:=Option.some.inj H
        subst H
        exact zbc [1,3] [] [.k 1] t_ (by kernel_rfl)
     ·have H:=H35
      refine AW2.seq ?_
      refine r_ [] [1,3,7] [] [.k 1] ⟨[(1,.p 1 0),(3,.d (.int .i64 j3)),(7,.d (.int .i64 0))],[(1,.st false (eD (eMdl p0)))]⟩ (a_ t_ t_) ?_
      refine AW2.block ?_
      refine AW2.lp (σ:=Int×Int) (fun v => ⟨[(1,.p 1 0),(3,.d (.int .i64 v.1)),(7,.d (.int .i64 v.2))],[(1,.st false (eD (eMdl p0)))]⟩) (fun k v => zbC k K p0 v.1 v.2=some j4) ?_ K (j3,0) H
      rintro k ⟨a28,a29⟩ H
      dsimp only at H
      cases k with
      | zero => cases H
      | succ k => 
      unfold zbC at H
      refine AW2.seq ?_
      refine AW2.seq ?_
      refine r_ [] [1,3,7,119] [] [.k 1] ⟨[(1,.p 1 0),(3,.d (.int .i64 a28)),(7,.d (.int .i64 a29)),(119,.d (.bool (decide (a29<(p0.elems.length:Int)))))],[(1,.st false (eD (eMdl p0)))]⟩ (a_ t_ t_) ?_
      refine AW2.cond (b:=(decide (a29<(p0.elems.length:Int)))) rfl (fun hc => ?_) (fun hc => ?_)
      ·replace H:=zao H hc
       refine AW2.skip ?_
       refine AW2.seq ?_
       refine AW2.block ?_
       obtain ⟨h30,H⟩:=zaf H
       obtain ⟨h31,H⟩:=zaf H
       obtain ⟨x32,hx33,H⟩:=bind_some H
       refine r_ [.sb ([(p0.elems.getD a29.toNat default).offset]:List Instr).length (flI ([(p0.elems.getD a29.toNat default).offset]:List Instr)),.r (.int .i64 x32)] [1,3,7] [] [.k 1] ⟨[(1,.p 1 0),(3,.d (.int .i64 (wI ((wI (a28+(mnI (((p0.elems.getD a29.toNat default).funcs).length:Int) 5000)))+x32)))),(7,.d (.int .i64 a29))],[(1,.st false (eD (eMdl p0)))]⟩ (a_ (a_ h30 (a_ h31 (a_ (litI ([(p0.elems.getD a29.toNat default).offset]:List Instr)) (a_ (zdx K ([(p0.elems.getD a29.toNat default).offset]:List Instr) 3000 0 x32 hx33) t_)))) t_) ?_
       refine r_ [] [1,3,7] [] [.k 1] ⟨[(1,.p 1 0),(3,.d (.int .i64 (wI ((wI (a28+(mnI (((p0.elems.getD a29.toNat default).funcs).length:Int) 5000)))+x32)))),(7,.d (.int .i64 (wI (a29+1))))],[(1,.st false (eD (eMdl p0)))]⟩ (a_ t_ t_) ?_
       exact ⟨k,((wI ((wI (a28+(mnI (((p0.elems.getD a29.toNat default).funcs).length:Int) 5000)))+x32)),(wI (a29+1))),Nat.lt_succ_self k,H,zbc [1,3,7] [] [.k 1] t_ (by kernel_rfl)⟩
      ·replace H:=zap H hc
       refine AW2.exit ?_
       have H:=Option.some.inj H
       subst H
       exact zbc [1,3] [] [.k 1] t_ (by kernel_rfl)
    ·have H:=H42
     refine AW2.seq ?_
     refine r_ [] [1,3,6] [] [.k 1] ⟨[(1,.p 1 0),(3,.d (.int .i64 j2)),(6,.d (.int .i64 0))],[(1,.st false (eD (eMdl p0)))]⟩ (a_ t_ t_) ?_
     refine AW2.block ?_
     refine AW2.lp (σ:=Int×Int) (fun v => ⟨[(1,.p 1 0),(3,.d (.int .i64 v.1)),(6,.d (.int .i64 v.2))],[(1,.st false (eD (eMdl p0)))]⟩) (fun k v => zbB k p0 v.1 v.2=some j3) ?_ K (j2,0) H
     rintro k ⟨a38,a39⟩ H
     dsimp only at H
     cases k with
     | zero => cases H
     | succ k => 
     unfold zbB at H
     refine AW2.seq ?_
     refine AW2.seq ?_
     refine r_ [] [1,3,6,102] [] [.k 1] ⟨[(1,.p 1 0),(3,.d (.int .i64 a38)),(6,.d (.int .i64 a39)),(102,.d (.bool (decide (a39<(p0.exports.length:Int)))))],[(1,.st false (eD (eMdl p0)))]⟩ (a_ t_ t_) ?_
     refine AW2.cond (b:=(decide (a39<(p0.exports.length:Int)))) rfl (fun hc => ?_) (fun hc => ?_)
     ·replace H:=zao H hc
      refine AW2.skip ?_
      refine AW2.seq ?_
      refine AW2.block ?_
      obtain ⟨h40,H⟩:=zaf H
      refine r_ [] [1,3,6] [] [.k 1] ⟨[(1,.p 1 0),(3,.d (.int .i64 (wI (a38+(mnI (((p0.exports.getD a39.toNat default).name).size:Int) 5000))))),(6,.d (.int .i64 a39))],[(1,.st false (eD (eMdl p0)))]⟩ (a_ (a_ h40 t_) t_) ?_
      refine r_ [] [1,3,6] [] [.k 1] ⟨[(1,.p 1 0),(3,.d (.int .i64 (wI (a38+(mnI (((p0.exports.getD a39.toNat default).name).size:Int) 5000))))),(6,.d (.int .i64 (wI (a39+1))))],[(1,.st false (eD (eMdl p0)))]⟩ (a_ t_ t_) ?_
      exact ⟨k,((wI (a38+(mnI (((p0.exports.getD a39.toNat default).name).size:Int) 5000))),(wI (a39+1))),Nat.lt_succ_self k,H,zbc [1,3,6] [] [.k 1] t_ (by kernel_rfl)⟩
     ·replace H:=zap H hc
      refine AW2.exit ?_
      have H:=Option.some.inj H
      subst H
      exact zbc [1,3] [] [.k 1] t_ (by kernel_rfl)
   ·have H:=H52
    refine AW2.seq ?_
    refine r_ [] [1,3,5] [] [.k 1] ⟨[(1,.p 1 0),(3,.d (.int .i64 j1)),(5,.d (.int .i64 0))],[(1,.st false (eD (eMdl p0)))]⟩ (a_ t_ t_) ?_
    refine AW2.block ?_
    refine AW2.lp (σ:=Int×Int) (fun v => ⟨[(1,.p 1 0),(3,.d (.int .i64 v.1)),(5,.d (.int .i64 v.2))],[(1,.st false (eD (eMdl p0)))]⟩) (fun k v => zbA k K p0 v.1 v.2=some j2) ?_ K (j1,0) H
    rintro k ⟨a45,a46⟩ H
    dsimp only at H
    cases k with
    | zero => cases H
    | succ k => 
    unfold zbA at H
    refine AW2.seq ?_
    refine AW2.seq ?_
    refine r_ [] [1,3,5,77] [] [.k 1] ⟨[(1,.p 1 0),(3,.d (.int .i64 a45)),(5,.d (.int .i64 a46)),(77,.d (.bool (decide (a46<(p0.funcs.length:Int)))))],[(1,.st false (eD (eMdl p0)))]⟩ (a_ t_ t_) ?_
    refine AW2.cond (b:=(decide (a46<(p0.funcs.length:Int)))) rfl (fun hc => ?_) (fun hc => ?_)
    ·replace H:=zao H hc
     refine AW2.skip ?_
     refine AW2.seq ?_
     refine AW2.block ?_
     obtain ⟨h47,H⟩:=zaf H
     obtain ⟨h48,H⟩:=zaf H
     obtain ⟨x49,hx50,H⟩:=bind_some H
     refine r_ [.r (.int .i64 x49)] [1,3,5] [] [.k 1] ⟨[(1,.p 1 0),(3,.d (.int .i64 (wI ((wI (a45+(mnI (((p0.funcs.getD a46.toNat default).locals).length:Int) 5000)))+x49)))),(5,.d (.int .i64 a46))],[(1,.st false (eD (eMdl p0)))]⟩ (a_ (a_ h47 (a_ h48 (a_ (zdx K ((p0.funcs.getD a46.toNat default).body) 3000 0 x49 hx50) t_))) t_) ?_
     refine r_ [] [1,3,5] [] [.k 1] ⟨[(1,.p 1 0),(3,.d (.int .i64 (wI ((wI (a45+(mnI (((p0.funcs.getD a46.toNat default).locals).length:Int) 5000)))+x49)))),(5,.d (.int .i64 (wI (a46+1))))],[(1,.st false (eD (eMdl p0)))]⟩ (a_ t_ t_) ?_
     exact ⟨k,((wI ((wI (a45+(mnI (((p0.funcs.getD a46.toNat default).locals).length:Int) 5000)))+x49)),(wI (a46+1))),Nat.lt_succ_self k,H,zbc [1,3,5] [] [.k 1] t_ (by kernel_rfl)⟩
    ·replace H:=zap H hc
     refine AW2.exit ?_
     have H:=Option.some.inj H
     subst H
     exact zbc [1,3] [] [.k 1] t_ (by kernel_rfl)
  ·have H:=H59
   refine AW2.seq ?_
   refine r_ [] [1,3,4] [] [.k 1] ⟨[(1,.p 1 0),(3,.d (.int .i64 0)),(4,.d (.int .i64 0))],[(1,.st false (eD (eMdl p0)))]⟩ (a_ t_ t_) ?_
   refine AW2.block ?_
   refine AW2.lp (σ:=Int×Int) (fun v => ⟨[(1,.p 1 0),(3,.d (.int .i64 v.1)),(4,.d (.int .i64 v.2))],[(1,.st false (eD (eMdl p0)))]⟩) (fun k v => zbz k p0 v.1 v.2=some j1) ?_ K (0,0) H
   rintro k ⟨a55,a56⟩ H
   dsimp only at H
   cases k with
   | zero => cases H
   | succ k => 
   unfold zbz at H
   refine AW2.seq ?_
   refine AW2.seq ?_
   refine r_ [] [1,3,4,60] [] [.k 1] ⟨[(1,.p 1 0),(3,.d (.int .i64 a55)),(4,.d (.int .i64 a56)),(60,.d (.bool (decide (a56<(p0.types.length:Int)))))],[(1,.st false (eD (eMdl p0)))]⟩ (a_ t_ t_) ?_
   refine AW2.cond (b:=(decide (a56<(p0.types.length:Int)))) rfl (fun hc => ?_) (fun hc => ?_)
   ·replace H:=zao H hc
    refine AW2.skip ?_
    refine AW2.seq ?_
    refine AW2.block ?_
    obtain ⟨h57,H⟩:=zaf H
    refine r_ [] [1,3,4] [] [.k 1] ⟨[(1,.p 1 0),(3,.d (.int .i64 (wI (a55+(mnI (((p0.types.getD a56.toNat default).params).length:Int) 5000))))),(4,.d (.int .i64 a56))],[(1,.st false (eD (eMdl p0)))]⟩ (a_ (a_ h57 t_) t_) ?_
    refine r_ [] [1,3,4] [] [.k 1] ⟨[(1,.p 1 0),(3,.d (.int .i64 (wI (a55+(mnI (((p0.types.getD a56.toNat default).params).length:Int) 5000))))),(4,.d (.int .i64 (wI (a56+1))))],[(1,.st false (eD (eMdl p0)))]⟩ (a_ t_ t_) ?_
    exact ⟨k,((wI (a55+(mnI (((p0.types.getD a56.toNat default).params).length:Int) 5000))),(wI (a56+1))),Nat.lt_succ_self k,H,zbc [1,3,4] [] [.k 1] t_ (by kernel_rfl)⟩
   ·replace H:=zap H hc
    refine AW2.exit ?_
    have H:=Option.some.inj H
    subst H
    exact zbc [1,3] [] [.k 1] t_ (by kernel_rfl)
def zcg:Nat→(List Int)→(List Int)→Int→Option (List Int)
 | 0,_,_,_ => none
 | k+1,p0,a4,a5 => (if (decide (a5<(p0.length:Int)))=true then gd (0≤a5∧a5<(p0.length:Int)) (gd ((a4.length+1) * 1≤140737488355328) (zcg k p0 (a4++([(p0.getD a5.toNat default)]:List Int)) (wI (a5+1)))) else some a4)
def zdu (K:Nat) (p0:List Int):Option (List Int):=(zcg K p0 ([]:List Int) 0).bind (fun j1 => some j1)
theorem zmy (K:Nat) (p0:List Int) (r:List Int) (H:zdu K p0=some r):CF E 17 [sV (eI .u8) p0] (sV (eI .u8) r):=by
 refine zeg (A:=zmN) zsy rfl fun fr => ?_
 unfold zdu at H
 refine AW2.seq ?_
 refine r_ [] [0] [] [] ⟨[(0,.d (sV (eI .u8) p0))],[]⟩ (a_ t_ t_) ?_
 refine AW2.seq ?_
 refine r_ [] [0,3] [] [] ⟨[(0,.d (sV (eI .u8) p0)),(3,.d .nils)],[]⟩ (a_ t_ t_) ?_
 obtain ⟨j1,H9,H⟩:=bind_some H
 refine AW2.mid ⟨[(3,.ls 17 0 j1.length)],[(17,.sl false 1 j1.length (fl (eI .u8) j1))]⟩ ?_ ?_
 ·refine AW2.seq ?_
  refine r_ [] [2] [] [.k 17] ⟨[(2,.ls 17 0 j1.length)],[(17,.sl false 1 j1.length (fl (eI .u8) j1))]⟩ (a_ t_ t_) ?_
  refine AW2.ret ?_
  have H:=Option.some.inj H
  subst H
  exact retP_mk2 (a_ (Nat.le_refl j1.length) (a_ (dfl (eI .u8) (zvO .u8) j1) t_)) (by kernel_rfl)
 ·have H:=H9
  refine AW2.seq ?_
  refine r_ [] [0,3,4] [] [] ⟨[(0,.d (sV (eI .u8) p0)),(3,.d .nils),(4,.d (.int .i64 0))],[]⟩ (a_ t_ t_) ?_
  refine AW2.block ?_
  refine AW2.cv [.s 3 17 1 (fl (eI .u8) ([]:List Int))] [0,3,4] [] [.k 17] ⟨[(0,.d (sV (eI .u8) p0)),(3,.ls 17 0 ([]:List Int).length),(4,.d (.int .i64 0))],[(17,.sl false 1 ([]:List Int).length (fl (eI .u8) ([]:List Int)))]⟩ t_ (by kernel_rfl) ?_
  refine AW2.lp (σ:=(List Int)×Int) (fun v => ⟨[(0,.d (sV (eI .u8) p0)),(3,.ls 17 0 v.1.length),(4,.d (.int .i64 v.2))],[(17,.sl false 1 v.1.length (fl (eI .u8) v.1))]⟩) (fun k v => zcg k p0 v.1 v.2=some j1) ?_ K (([]:List Int),0) H
  rintro k ⟨a4,a5⟩ H
  dsimp only at H
  cases k with
  | zero => cases H
  | succ k => 
  unfold zcg at H
  refine AW2.seq ?_
  refine AW2.seq ?_
  refine r_ [] [0,3,4,8] [] [.k 17] ⟨[(0,.d (sV (eI .u8) p0)),(3,.ls 17 0 a4.length),(4,.d (.int .i64 a5)),(8,.d (.bool (decide (a5<(p0.length:Int)))))],[(17,.sl false 1 a4.length (fl (eI .u8) a4))]⟩ (a_ t_ t_) ?_
  refine AW2.cond (b:=(decide (a5<(p0.length:Int)))) rfl (fun hc => ?_) (fun hc => ?_)
  ·replace H:=zao H hc
   refine AW2.skip ?_
   refine AW2.seq ?_
   refine AW2.block ?_
   obtain ⟨h6,H⟩:=zaf H
   obtain ⟨h7,H⟩:=zaf H
   refine r_ [.sb ([(p0.getD a5.toNat default)]:List Int).length (fl (eI .u8) ([(p0.getD a5.toNat default)]:List Int)),.s true (a4++([(p0.getD a5.toNat default)]:List Int)).length (fl (eI .u8) (a4++([(p0.getD a5.toNat default)]:List Int)))] [0,3,4] [] [.k 17] ⟨[(0,.d (sV (eI .u8) p0)),(3,.ls 17 0 (a4++([(p0.getD a5.toNat default)]:List Int)).length),(4,.d (.int .i64 a5))],[(17,.sl false 1 (a4++([(p0.getD a5.toNat default)]:List Int)).length (fl (eI .u8) (a4++([(p0.getD a5.toNat default)]:List Int))))]⟩ (a_ (a_ h6 (a_ (litF (eI .u8) ([(p0.getD a5.toNat default)]:List Int)) (a_ (Nat.le_refl a4.length) (a_ h7 (a_ (app1 (eI .u8) a4 (p0.getD a5.toNat default) (fl (eI .u8) ([(p0.getD a5.toNat default)]:List Int)) rfl) t_))))) t_) ?_
   refine r_ [] [0,3,4] [] [.k 17] ⟨[(0,.d (sV (eI .u8) p0)),(3,.ls 17 0 (a4++([(p0.getD a5.toNat default)]:List Int)).length),(4,.d (.int .i64 (wI (a5+1))))],[(17,.sl false 1 (a4++([(p0.getD a5.toNat default)]:List Int)).length (fl (eI .u8) (a4++([(p0.getD a5.toNat default)]:List Int))))]⟩ (a_ t_ t_) ?_
   exact ⟨k,((a4++([(p0.getD a5.toNat default)]:List Int)),(wI (a5+1))),Nat.lt_succ_self k,H,zbc [0,3,4] [] [.k 17] t_ (by kernel_rfl)⟩
  ·replace H:=zap H hc
   refine AW2.exit ?_
   have H:=Option.some.inj H
   subst H
   exact zbc [3] [] [.k 17] t_ (by kernel_rfl)
def zbt:Nat→(List Instr)→Option (List Instr)
 | 0,_ => none
 | k+1,p0 => (lpN k (fun (rec6:(List Instr)×Int→Option (List Instr)) v => match v with | (a4,a5) => (if (decide (a5<(p0.length:Int)))=true then gd (0≤a5∧a5<(p0.length:Int)) ((zbt k ((p0.getD a5.toNat default).body)).bind fun x8 => ((zbt k ((p0.getD a5.toNat default).els)).bind fun x10 => gd ((a4.length+1) * 104≤140737488355328) (rec6 ((a4++([(Instr.mk ((p0.getD a5.toNat default).op) ((p0.getD a5.toNat default).n) ((p0.getD a5.toNat default).align) ((p0.getD a5.toNat default).offset) ((p0.getD a5.toNat default).result) x8 x10 ((p0.getD a5.toNat default).labels))]:List Instr)),(wI (a5+1)))))) else some a4)) (([]:List Instr),0)).bind (fun j1 => some j1)
theorem zun (k:Nat) (IH_law08_give:∀ (p0:List Instr) (r:List Instr),zbt k p0=some r→CF E 18 [sVI p0] (sVI r)):∀ (p0:List Instr) (r:List Instr),zbt (k+1) p0=some r→CF E 18 [sVI p0] (sVI r):=by
 intro p0 r H
 refine zeg (A:=zos) ztF rfl fun fr => ?_
 unfold zbt at H
 refine AW2.seq ?_
 refine r_ [] [0] [] [] ⟨[(0,.d (sVI p0))],[]⟩ (a_ t_ t_) ?_
 refine AW2.seq ?_
 refine r_ [] [0,3] [] [] ⟨[(0,.d (sVI p0)),(3,.d .nils)],[]⟩ (a_ t_ t_) ?_
 obtain ⟨j1,H14,H⟩:=bind_some H
 refine AW2.mid ⟨[(3,.ls 37 0 j1.length)],[(37,.sl false 8 j1.length (flI j1))]⟩ ?_ ?_
 ·refine AW2.seq ?_
  refine r_ [] [2] [] [.k 37] ⟨[(2,.ls 37 0 j1.length)],[(37,.sl false 8 j1.length (flI j1))]⟩ (a_ t_ t_) ?_
  refine AW2.ret ?_
  have H:=Option.some.inj H
  subst H
  exact retP_mk2 (a_ (Nat.le_refl j1.length) (a_ (dflI j1) t_)) (by kernel_rfl)
 ·have H:=H14
  refine AW2.seq ?_
  refine r_ [] [0,3,4] [] [] ⟨[(0,.d (sVI p0)),(3,.d .nils),(4,.d (.int .i64 0))],[]⟩ (a_ t_ t_) ?_
  refine AW2.block ?_
  refine AW2.cv [.s 3 37 8 (flI ([]:List Instr))] [0,3,4] [] [.k 37] ⟨[(0,.d (sVI p0)),(3,.ls 37 0 ([]:List Instr).length),(4,.d (.int .i64 0))],[(37,.sl false 8 ([]:List Instr).length (flI ([]:List Instr)))]⟩ t_ (by kernel_rfl) ?_
  refine AW2.lpR (σ:=(List Instr)×Int) (fun v => ⟨[(0,.d (sVI p0)),(3,.ls 37 0 v.1.length),(4,.d (.int .i64 v.2))],[(37,.sl false 8 v.1.length (flI v.1))]⟩) ?_ (v:=(([]:List Instr),0)) H
  rintro rec6 ⟨a4,a5⟩ H
  dsimp only at H
  refine AW2.seq ?_
  refine AW2.seq ?_
  refine r_ [] [0,3,4,9] [] [.k 37] ⟨[(0,.d (sVI p0)),(3,.ls 37 0 a4.length),(4,.d (.int .i64 a5)),(9,.d (.bool (decide (a5<(p0.length:Int)))))],[(37,.sl false 8 a4.length (flI a4))]⟩ (a_ t_ t_) ?_
  refine AW2.cond (b:=(decide (a5<(p0.length:Int)))) rfl (fun hc => ?_) (fun hc => ?_)
  ·replace H:=zao H hc
   refine AW2.skip ?_
   refine AW2.seq ?_
   refine AW2.block ?_
   refine AW2.seq ?_
   obtain ⟨h7,H⟩:=zaf H
   refine r_ [.e (eInstr (p0.getD a5.toNat default)),.k 5] [0,3,4,5] [] [.k 5,.k 37] ⟨[(0,.d (sVI p0)),(3,.ls 37 0 a4.length),(4,.d (.int .i64 a5)),(5,.p 5 0)],[(5,.st false (eD (eInstr (p0.getD a5.toNat default)))),(37,.sl false 8 a4.length (flI a4))]⟩ (a_ (a_ h7 (a_ (flI_ix h7) t_)) t_) ?_
   obtain ⟨x8,hx9,H⟩:=bind_some H
   obtain ⟨x10,hx11,H⟩:=bind_some H
   obtain ⟨h12,H⟩:=zaf H
   refine r_ [.r (sVI x8),.r (sVI x10),.sb ([(Instr.mk ((p0.getD a5.toNat default).op) ((p0.getD a5.toNat default).n) ((p0.getD a5.toNat default).align) ((p0.getD a5.toNat default).offset) ((p0.getD a5.toNat default).result) x8 x10 ((p0.getD a5.toNat default).labels))]:List Instr).length (flI ([(Instr.mk ((p0.getD a5.toNat default).op) ((p0.getD a5.toNat default).n) ((p0.getD a5.toNat default).align) ((p0.getD a5.toNat default).offset) ((p0.getD a5.toNat default).result) x8 x10 ((p0.getD a5.toNat default).labels))]:List Instr)),.s true (a4++([(Instr.mk ((p0.getD a5.toNat default).op) ((p0.getD a5.toNat default).n) ((p0.getD a5.toNat default).align) ((p0.getD a5.toNat default).offset) ((p0.getD a5.toNat default).result) x8 x10 ((p0.getD a5.toNat default).labels))]:List Instr)).length (flI (a4++([(Instr.mk ((p0.getD a5.toNat default).op) ((p0.getD a5.toNat default).n) ((p0.getD a5.toNat default).align) ((p0.getD a5.toNat default).offset) ((p0.getD a5.toNat default).result) x8 x10 ((p0.getD a5.toNat default).labels))]:List Instr)))] [0,3,4] [] [.k 37] ⟨[(0,.d (sVI p0)),(3,.ls 37 0 (a4++([(Instr.mk ((p0.getD a5.toNat default).op) ((p0.getD a5.toNat default).n) ((p0.getD a5.toNat default).align) ((p0.getD a5.toNat default).offset) ((p0.getD a5.toNat default).result) x8 x10 ((p0.getD a5.toNat default).labels))]:List Instr)).length),(4,.d (.int .i64 a5))],[(37,.sl false 8 (a4++([(Instr.mk ((p0.getD a5.toNat default).op) ((p0.getD a5.toNat default).n) ((p0.getD a5.toNat default).align) ((p0.getD a5.toNat default).offset) ((p0.getD a5.toNat default).result) x8 x10 ((p0.getD a5.toNat default).labels))]:List Instr)).length (flI (a4++([(Instr.mk ((p0.getD a5.toNat default).op) ((p0.getD a5.toNat default).n) ((p0.getD a5.toNat default).align) ((p0.getD a5.toNat default).offset) ((p0.getD a5.toNat default).result) x8 x10 ((p0.getD a5.toNat default).labels))]:List Instr))))]⟩ (a_ (a_ (IH_law08_give ((p0.getD a5.toNat default).body) x8 hx9) (a_ (IH_law08_give ((p0.getD a5.toNat default).els) x10 hx11) (a_ (litI ([(Instr.mk ((p0.getD a5.toNat default).op) ((p0.getD a5.toNat default).n) ((p0.getD a5.toNat default).align) ((p0.getD a5.toNat default).offset) ((p0.getD a5.toNat default).result) x8 x10 ((p0.getD a5.toNat default).labels))]:List Instr)) (a_ (Nat.le_refl a4.length) (a_ h12 (a_ (appI a4 (Instr.mk ((p0.getD a5.toNat default).op) ((p0.getD a5.toNat default).n) ((p0.getD a5.toNat default).align) ((p0.getD a5.toNat default).offset) ((p0.getD a5.toNat default).result) x8 x10 ((p0.getD a5.toNat default).labels)) (flI ([(Instr.mk ((p0.getD a5.toNat default).op) ((p0.getD a5.toNat default).n) ((p0.getD a5.toNat default).align) ((p0.getD a5.toNat default).offset) ((p0.getD a5.toNat default).result) x8 x10 ((p0.getD a5.toNat default).labels))]:List Instr)) (flI_eq (l:=([(Instr.mk ((p0.getD a5.toNat default).op) ((p0.getD a5.toNat default).n) ((p0.getD a5.toNat default).align) ((p0.getD a5.toNat default).offset) ((p0.getD a5.toNat default).result) x8 x10 ((p0.getD a5.toNat default).labels))]:List Instr)) Nat.zero_lt_one)) t_)))))) t_) ?_
   refine r_ [] [0,3,4] [] [.k 37] ⟨[(0,.d (sVI p0)),(3,.ls 37 0 (a4++([(Instr.mk ((p0.getD a5.toNat default).op) ((p0.getD a5.toNat default).n) ((p0.getD a5.toNat default).align) ((p0.getD a5.toNat default).offset) ((p0.getD a5.toNat default).result) x8 x10 ((p0.getD a5.toNat default).labels))]:List Instr)).length),(4,.d (.int .i64 (wI (a5+1))))],[(37,.sl false 8 (a4++([(Instr.mk ((p0.getD a5.toNat default).op) ((p0.getD a5.toNat default).n) ((p0.getD a5.toNat default).align) ((p0.getD a5.toNat default).offset) ((p0.getD a5.toNat default).result) x8 x10 ((p0.getD a5.toNat default).labels))]:List Instr)).length (flI (a4++([(Instr.mk ((p0.getD a5.toNat default).op) ((p0.getD a5.toNat default).n) ((p0.getD a5.toNat default).align) ((p0.getD a5.toNat default).offset) ((p0.getD a5.toNat default).result) x8 x10 ((p0.getD a5.toNat default).labels))]:List Instr))))]⟩ (a_ t_ t_) ?_
   exact ⟨((a4++([(Instr.mk ((p0.getD a5.toNat default).op) ((p0.getD a5.toNat default).n) ((p0.getD a5.toNat default).align) ((p0.getD a5.toNat default).offset) ((p0.getD a5.toNat default).result) x8 x10 ((p0.getD a5.toNat default).labels))]:List Instr)),(wI (a5+1))),H,zbc [0,3,4] [] [.k 37] t_ (by kernel_rfl)⟩
  ·replace H:=zap H hc
   refine AW2.exit ?_
   have H:=Option.some.inj H
   subst H
   exact zbc [3] [] [.k 37] t_ (by kernel_rfl)
theorem zov:∀ k,(∀ (p0:List Instr) (r:List Instr),zbt k p0=some r→CF E 18 [sVI p0] (sVI r)):=by
 intro k
 induction k with
 | zero => exact fun _ _ H => (by cases H)
 | succ k ih => 
  have i0:=ih
  exact zun k i0
theorem zoj (k:Nat):∀ (p0:List Instr) (r:List Instr),zbt k p0=some r→CF E 18 [sVI p0] (sVI r):=(zov k)
def zef (K:Nat) (p0:Instr):Option (Instr):=((zbt K ([p0]:List Instr)).bind fun x1 => gd (0≤(0:Int)∧(0:Int)<(x1.length:Int)) (some (x1.getD (0:Int).toNat default)))
theorem zmk (K:Nat) (p0:Instr) (r:Instr) (H:zef K p0=some r):CF E 19 [.agg (eInstr p0)] (.agg (eInstr r)):=by
 refine zeg (A:=zsm) zuF rfl fun fr => ?_
 unfold zef at H
 refine AW2.seq ?_
 refine r_ [.k 1,.k 2] [1,2] [] [.k 1,.k 2] ⟨[(1,.p 1 0),(2,.p 2 0)],[(1,.st false (eD (eInstr p0))),(2,.st false [.d (.int .u8 0),.d (.int .i64 0),.d (.int .u32 0),.d (.int .u32 0),.d (.int .u8 0),.d .nils,.d .nils,.d .nils])]⟩ (a_ t_ t_) ?_
 refine AW2.seq ?_
 obtain ⟨x1,hx2,H⟩:=bind_some H
 obtain ⟨h3,H⟩:=zaf H
 refine r_ [.sb ([p0]:List Instr).length (flI ([p0]:List Instr)),.r (sVI x1),.e (eInstr (x1.getD (0:Int).toNat default))] [2] [] [.k 2] ⟨[(2,.p 2 0)],[(2,.st false (eD (eInstr (x1.getD (0:Int).toNat default))))]⟩ (a_ (a_ (litI ([p0]:List Instr)) (a_ (zoj K ([p0]:List Instr) x1 hx2) (a_ h3 (a_ (flI_ix h3) t_)))) t_) ?_
 refine AW2.ret ?_
 have H:=Option.some.inj H
 subst H
 exact retP_mk2 t_ (by kernel_rfl)
def zbs:Nat→Nat→Mdl→(List Dat)→Int→Option (List Dat)
 | 0,_,_,_,_ => none
 | k+1,K,p0,a11,a12 => (if (decide (a12<(p0.datas.length:Int)))=true then gd (0≤a12∧a12<(p0.datas.length:Int)) (gd (0≤a12∧a12<(p0.datas.length:Int)) ((zef K ((p0.datas.getD a12.toNat default).offset)).bind fun x15 => gd (0≤a12∧a12<(p0.datas.length:Int)) (gd ((a11.length+1) * 136≤140737488355328) (zbs k K p0 (a11++([(Dat.mk ((p0.datas.getD a12.toNat default).memory) x15 ((p0.datas.getD a12.toNat default).bytes))]:List Dat)) (wI (a12+1)))))) else some a11)
def zbr:Nat→Nat→Mdl→(List Ele)→Int→Option (List Ele)
 | 0,_,_,_,_ => none
 | k+1,K,p0,a23,a24 => (if (decide (a24<(p0.elems.length:Int)))=true then gd (0≤a24∧a24<(p0.elems.length:Int)) (gd (0≤a24∧a24<(p0.elems.length:Int)) ((zef K ((p0.elems.getD a24.toNat default).offset)).bind fun x27 => gd (0≤a24∧a24<(p0.elems.length:Int)) (gd ((a23.length+1) * 136≤140737488355328) (zbr k K p0 (a23++([(Ele.mk ((p0.elems.getD a24.toNat default).table) x27 ((p0.elems.getD a24.toNat default).funcs))]:List Ele)) (wI (a24+1)))))) else some a23)
def zbq:Nat→Mdl→(List Xpo)→Int→Option (List Xpo)
 | 0,_,_,_ => none
 | k+1,p0,a35,a36 => (if (decide (a36<(p0.exports.length:Int)))=true then gd (0≤a36∧a36<(p0.exports.length:Int)) (gd ((a35.length+1) * 24≤140737488355328) (zbq k p0 (a35++([(p0.exports.getD a36.toNat default)]:List Xpo)) (wI (a36+1)))) else some a35)
def zbp:Nat→Nat→Mdl→(List Glo)→Int→Option (List Glo)
 | 0,_,_,_,_ => none
 | k+1,K,p0,a43,a44 => (if (decide (a44<(p0.globals.length:Int)))=true then gd (0≤a44∧a44<(p0.globals.length:Int)) (gd (0≤a44∧a44<(p0.globals.length:Int)) (gd (0≤a44∧a44<(p0.globals.length:Int)) ((zef K ((p0.globals.getD a44.toNat default).init_)).bind fun x48 => gd ((a43.length+1) * 112≤140737488355328) (zbp k K p0 (a43++([(Glo.mk ((p0.globals.getD a44.toNat default).kind) ((p0.globals.getD a44.toNat default).mut_) x48)]:List Glo)) (wI (a44+1)))))) else some a43)
def zbo:Nat→Mdl→(List Lim)→Int→Option (List Lim)
 | 0,_,_,_ => none
 | k+1,p0,a55,a56 => (if (decide (a56<(p0.memories.length:Int)))=true then gd (0≤a56∧a56<(p0.memories.length:Int)) (gd ((a55.length+1) * 12≤140737488355328) (zbo k p0 (a55++([(p0.memories.getD a56.toNat default)]:List Lim)) (wI (a56+1)))) else some a55)
def zbn:Nat→Mdl→(List Lim)→Int→Option (List Lim)
 | 0,_,_,_ => none
 | k+1,p0,a63,a64 => (if (decide (a64<(p0.tables.length:Int)))=true then gd (0≤a64∧a64<(p0.tables.length:Int)) (gd ((a63.length+1) * 12≤140737488355328) (zbn k p0 (a63++([(p0.tables.getD a64.toNat default)]:List Lim)) (wI (a64+1)))) else some a63)
def zbm:Nat→Nat→Mdl→(List Fnc)→Int→Option (List Fnc)
 | 0,_,_,_,_ => none
 | k+1,K,p0,a71,a72 => (if (decide (a72<(p0.funcs.length:Int)))=true then gd (0≤a72∧a72<(p0.funcs.length:Int)) (gd (0≤a72∧a72<(p0.funcs.length:Int)) ((zdu K ((p0.funcs.getD a72.toNat default).locals)).bind fun x75 => gd (0≤a72∧a72<(p0.funcs.length:Int)) ((zbt K ((p0.funcs.getD a72.toNat default).body)).bind fun x78 => gd ((a71.length+1) * 56≤140737488355328) (zbm k K p0 (a71++([(Fnc.mk ((p0.funcs.getD a72.toNat default).type_) x75 x78)]:List Fnc)) (wI (a72+1)))))) else some a71)
def zbl:Nat→Nat→Mdl→(List Typ)→Int→Option (List Typ)
 | 0,_,_,_,_ => none
 | k+1,K,p0,a85,a86 => (if (decide (a86<(p0.types.length:Int)))=true then gd (0≤a86∧a86<(p0.types.length:Int)) ((zdu K ((p0.types.getD a86.toNat default).params)).bind fun x88 => gd (0≤a86∧a86<(p0.types.length:Int)) (gd ((a85.length+1) * 32≤140737488355328) (zbl k K p0 (a85++([(Typ.mk x88 ((p0.types.getD a86.toNat default).result))]:List Typ)) (wI (a86+1))))) else some a85)
def zbw (K:Nat) (p0:Mdl):Option (Mdl):=(zbl K K p0 ([]:List Typ) 0).bind (fun j1 => (zbm K K p0 ([]:List Fnc) 0).bind (fun j2 => (zbn K p0 ([]:List Lim) 0).bind (fun j3 => (zbo K p0 ([]:List Lim) 0).bind (fun j4 => (zbp K K p0 ([]:List Glo) 0).bind (fun j5 => (zbq K p0 ([]:List Xpo) 0).bind (fun j6 => (zbr K K p0 ([]:List Ele) 0).bind (fun j7 => (zbs K K p0 ([]:List Dat) 0).bind (fun j8 => some (Mdl.mk j1 j2 j3 j4 j5 j6 j7 j8)))))))))
def zba (p0:Int):Option (Bool):=some ((p0==(0:Int))||((p0==(127:Int))||(p0==(126:Int))))
theorem zdQ (p0:Int) (r:Bool) (H:zba p0=some r):CF E 50 [.int .u8 p0] (.bool r):=by
 refine zeg (A:=zgY) zko rfl fun fr => ?_
 unfold zba at H
 refine AW2.seq ?_
 refine r_ [] [0] [] [] ⟨[(0,.d (.int .u8 p0))],[]⟩ (a_ t_ t_) ?_
 refine AW2.seq ?_
 refine AW2.reg [] rfl (YW.to ⟨[(2,.d (.bool ((p0==(0:Int))||((p0==(127:Int))||(p0==(126:Int))))))],[]⟩ ?qh1 ?h1)
 case h1 => 
  rcases bT (p0==(0:Int)) with hc1 | hc1
  ·exact YW.fin [(5,true),(9,true)] [] [2] [(2,.d (.bool ((p0==(0:Int))||((p0==(127:Int))||(p0==(126:Int))))))] [] _ (a_ (a_ hc1 (a_ hc1 (a_ hc1 (a_ (Eq.refl true) (a_ (Eq.refl true) (a_ (Eq.refl true) t_)))))) (a_ (ovB (orT (b:=((p0==(127:Int))||(p0==(126:Int)))) hc1)) t_)) (by kernel_rfl) rfl
  ·rcases bT (p0==(127:Int)) with hc2 | hc2
   ·exact YW.fin [(5,false),(9,true)] [] [2] [(2,.d (.bool ((p0==(0:Int))||((p0==(127:Int))||(p0==(126:Int))))))] [] _ (a_ (a_ hc1 (a_ hc1 (a_ hc1 (a_ hc2 (a_ hc2 (a_ hc2 t_)))))) (a_ (ovB (Eq.trans (orF (b:=((p0==(127:Int))||(p0==(126:Int)))) hc1) (orT (b:=(p0==(126:Int))) hc2))) t_)) (by kernel_rfl) rfl
   ·exact YW.fin [(5,false),(9,false)] [] [2] [(2,.d (.bool ((p0==(0:Int))||((p0==(127:Int))||(p0==(126:Int))))))] [] _ (a_ (a_ hc1 (a_ hc1 (a_ hc1 (a_ hc2 (a_ hc2 (a_ hc2 t_)))))) (a_ (ovB (Eq.trans (orF (b:=((p0==(127:Int))||(p0==(126:Int)))) hc1) (Eq.trans (orF (b:=(p0==(126:Int))) hc2) (Eq.refl (p0==(126:Int)))))) t_)) (by kernel_rfl) rfl
 refine AW2.ret ?_
 have H:=Option.some.inj H
 subst H
 exact retP_mk2 t_ (by kernel_rfl)
def zbv (p0:Int):Option (Bool):=(if (p0==(0:Int))=true then some true else ((zba p0).bind fun x1 => some (!x1))).bind (fun j3 => some j3)
theorem zfo (p0:Int) (r:Bool) (H:zbv p0=some r):CF E 49 [.int .u8 p0] (.bool r):=by
 refine zeg (A:=zfu) zjd rfl fun fr => ?_
 unfold zbv at H
 refine AW2.seq ?_
 refine r_ [] [0] [] [] ⟨[(0,.d (.int .u8 p0))],[]⟩ (a_ t_ t_) ?_
 refine AW2.seq ?_
 obtain ⟨j3,H5,H⟩:=bind_some H
 refine AW2.reg [] rfl (YW.to ⟨[(2,.d (.bool j3))],[]⟩ ?qh6 ?h6)
 case h6 => 
  have H:=H5
  rcases bT (p0==(0:Int)) with hc1 | hc1
  ·replace H:=zao H hc1
   have H:=Option.some.inj H
   subst H
   exact YW.fin [(5,true)] [] [2] [] [] _ (a_ (a_ hc1 (a_ hc1 (a_ hc1 (a_ hc1 t_)))) t_) (by kernel_rfl) rfl
  ·replace H:=zap H hc1
   obtain ⟨x1,hx2,H⟩:=bind_some H
   have H:=Option.some.inj H
   subst H
   exact YW.fin [(5,false)] [.r (.bool x1)] [2] [] [] _ (a_ (a_ hc1 (a_ hc1 (a_ (zdQ p0 x1 hx2) (a_ hc1 (a_ hc1 t_))))) t_) (by kernel_rfl) rfl
 refine AW2.ret ?_
 have H:=Option.some.inj H
 subst H
 exact retP_mk2 t_ (by kernel_rfl)
def zas:Nat→(List Int)→(Int→Option Bool)→Int→Option (Int)
 | 0,_,_,_ => none
 | k+1,p0,pp1,a2 => (if (decide (a2<(p0.length:Int)))=true then gd (0≤a2∧a2<(p0.length:Int)) ((pp1 (p0.getD a2.toNat default)).bind fun x4 => (if x4=true then some a2 else zas k p0 pp1 (wI (a2+1)))) else some (-1))
def zaQ (K:Nat) (p0:List Int) (pp1:Int→Option Bool):Option (Int):=zas K p0 pp1 0
theorem zdd (K:Nat) (p0:List Int) (pf1:Nat) (pp1:Int→Option Bool) (hp1:∀ x0 b,pp1 x0=some b→CF E pf1 [.int .u8 x0] (.bool b)) (r:Int) (H:zaQ K p0 pp1=some r):CF E 66 [sV (eI .u8) p0,.func pf1 []] (.int .i64 r):=by
 refine zeg (A:=zbd) zbP rfl fun fr => ?_
 unfold zaQ at H
 refine AW2.seq ?_
 refine r_ [] [0,1] [] [] ⟨[(0,.d (sV (eI .u8) p0)),(1,.d (.func pf1 []))],[]⟩ (a_ t_ t_) ?_
 refine AW2.seq ?_
 refine AW2.seq ?_
 refine r_ [] [0,1,7,8] [] [] ⟨[(0,.d (sV (eI .u8) p0)),(1,.d (.func pf1 [])),(7,.d (.int .i64 (p0.length:Int))),(8,.d (.int .i64 0))],[]⟩ (a_ t_ t_) ?_
 refine AW2.block ?_
 refine AW2.lp (σ:=Int) (fun v => ⟨[(0,.d (sV (eI .u8) p0)),(1,.d (.func pf1 [])),(7,.d (.int .i64 (p0.length:Int))),(8,.d (.int .i64 v))],[]⟩) (fun k v => zas k p0 pp1 v=some r) ?_ K 0 H
 rintro k a2 H
 cases k with
 | zero => cases H
 | succ k => 
 unfold zas at H
 refine AW2.seq ?_
 refine r_ [] [0,1,7,8,9] [] [] ⟨[(0,.d (sV (eI .u8) p0)),(1,.d (.func pf1 [])),(7,.d (.int .i64 (p0.length:Int))),(8,.d (.int .i64 a2)),(9,.d (.bool (decide (a2<(p0.length:Int)))))],[]⟩ (a_ t_ t_) ?_
 refine AW2.seq ?_
 refine AW2.cond (b:=(decide (a2<(p0.length:Int)))) rfl (fun hc => ?_) (fun hc => ?_)
 ·replace H:=zao H hc
  refine AW2.skip ?_
  refine AW2.seq ?_
  refine AW2.block ?_
  refine AW2.seq ?_
  refine r_ [] [0,1,5,7,8] [] [] ⟨[(0,.d (sV (eI .u8) p0)),(1,.d (.func pf1 [])),(5,.d (.int .i64 a2)),(7,.d (.int .i64 (p0.length:Int))),(8,.d (.int .i64 a2))],[]⟩ (a_ t_ t_) ?_
  refine AW2.seq ?_
  obtain ⟨h3,H⟩:=zaf H
  obtain ⟨x4,hx5,H⟩:=bind_some H
  refine r_ [.r (.bool x4)] [0,1,5,7,8,16] [] [] ⟨[(0,.d (sV (eI .u8) p0)),(1,.d (.func pf1 [])),(5,.d (.int .i64 a2)),(7,.d (.int .i64 (p0.length:Int))),(8,.d (.int .i64 a2)),(16,.d (.bool x4))],[]⟩ (a_ (a_ h3 (a_ (hp1 (p0.getD a2.toNat default) x4 hx5) t_)) t_) ?_
  refine AW2.cond (b:=x4) rfl (fun hc => ?_) (fun hc => ?_)
  ·replace H:=zao H hc
   refine AW2.seq ?_
   refine r_ [] [4] [] [] ⟨[(4,.d (.int .i64 a2))],[]⟩ (a_ t_ t_) ?_
   refine AW2.ret ?_
   have H:=Option.some.inj H
   subst H
   exact retP_mk2 t_ (by kernel_rfl)
  ·replace H:=zap H hc
   refine AW2.skip ?_
   refine r_ [] [0,1,7,8] [] [] ⟨[(0,.d (sV (eI .u8) p0)),(1,.d (.func pf1 [])),(7,.d (.int .i64 (p0.length:Int))),(8,.d (.int .i64 (wI (a2+1))))],[]⟩ (a_ t_ t_) ?_
   exact ⟨k,(wI (a2+1)),Nat.lt_succ_self k,H,zbc [0,1,7,8] [] [] t_ (by kernel_rfl)⟩
 ·replace H:=zap H hc
  refine AW2.exit ?_
  refine AW2.seq ?_
  refine r_ [] [4] [] [] ⟨[(4,.d (.int .i64 (-1)))],[]⟩ (a_ t_ t_) ?_
  refine AW2.ret ?_
  have H:=Option.some.inj H
  subst H
  exact retP_mk2 t_ (by kernel_rfl)
def zat (K:Nat) (p0:List Int) (pp1:Int→Option Bool):Option (Bool):=((zaQ K p0 pp1).bind fun x1 => some (decide (x1≥(0:Int))))
theorem zbF (K:Nat) (p0:List Int) (pf1:Nat) (pp1:Int→Option Bool) (hp1:∀ x0 b,pp1 x0=some b→CF E pf1 [.int .u8 x0] (.bool b)) (r:Bool) (H:zat K p0 pp1=some r):CF E 51 [sV (eI .u8) p0,.func pf1 []] (.bool r):=by
 refine zeg (A:=zaZ) zbJ rfl fun fr => ?_
 unfold zat at H
 refine AW2.seq ?_
 refine r_ [] [0,1] [] [] ⟨[(0,.d (sV (eI .u8) p0)),(1,.d (.func pf1 []))],[]⟩ (a_ t_ t_) ?_
 refine AW2.seq ?_
 obtain ⟨x1,hx2,H⟩:=bind_some H
 refine r_ [.r (.int .i64 x1)] [4] [] [] ⟨[(4,.d (.bool (decide (x1≥(0:Int)))))],[]⟩ (a_ (a_ (zdd K p0 pf1 pp1 hp1 x1 hx2) t_) t_) ?_
 refine AW2.ret ?_
 have H:=Option.some.inj H
 subst H
 exact retP_mk2 t_ (by kernel_rfl)
def zan:Nat→(List Glo)→(Glo→Option Bool)→Int→Option (Int)
 | 0,_,_,_ => none
 | k+1,p0,pp1,a2 => (if (decide (a2<(p0.length:Int)))=true then gd (0≤a2∧a2<(p0.length:Int)) ((pp1 (p0.getD a2.toNat default)).bind fun x4 => (if x4=true then some a2 else zan k p0 pp1 (wI (a2+1)))) else some (-1))
def zaI (K:Nat) (p0:List Glo) (pp1:Glo→Option Bool):Option (Int):=zan K p0 pp1 0
theorem zcD (K:Nat) (p0:List Glo) (pf1:Nat) (pc1_0:List FV) (pp1:Glo→Option Bool) (hp1:∀ x0 b,pp1 x0=some b→CF E pf1 [.agg (eGlo x0),.fp pc1_0] (.bool b)) (r:Int) (H:zaI K p0 pp1=some r):CF E 67 [sV eGlo p0,.func pf1 [.fp pc1_0]] (.int .i64 r):=by
 refine zeg (A:=zaV) zbH rfl fun fr => ?_
 unfold zaI at H
 refine AW2.seq ?_
 refine r_ [] [0,1] [] [] ⟨[(0,.d (sV eGlo p0)),(1,.d (.func pf1 [.fp pc1_0]))],[]⟩ (a_ t_ t_) ?_
 refine AW2.seq ?_
 refine AW2.seq ?_
 refine r_ [] [0,1,7,8] [] [] ⟨[(0,.d (sV eGlo p0)),(1,.d (.func pf1 [.fp pc1_0])),(7,.d (.int .i64 (p0.length:Int))),(8,.d (.int .i64 0))],[]⟩ (a_ t_ t_) ?_
 refine AW2.block ?_
 refine AW2.lp (σ:=Int) (fun v => ⟨[(0,.d (sV eGlo p0)),(1,.d (.func pf1 [.fp pc1_0])),(7,.d (.int .i64 (p0.length:Int))),(8,.d (.int .i64 v))],[]⟩) (fun k v => zan k p0 pp1 v=some r) ?_ K 0 H
 rintro k a2 H
 cases k with
 | zero => cases H
 | succ k => 
 unfold zan at H
 refine AW2.seq ?_
 refine r_ [] [0,1,7,8,9] [] [] ⟨[(0,.d (sV eGlo p0)),(1,.d (.func pf1 [.fp pc1_0])),(7,.d (.int .i64 (p0.length:Int))),(8,.d (.int .i64 a2)),(9,.d (.bool (decide (a2<(p0.length:Int)))))],[]⟩ (a_ t_ t_) ?_
 refine AW2.seq ?_
 refine AW2.cond (b:=(decide (a2<(p0.length:Int)))) rfl (fun hc => ?_) (fun hc => ?_)
 ·replace H:=zao H hc
  refine AW2.skip ?_
  refine AW2.seq ?_
  refine AW2.block ?_
  refine AW2.seq ?_
  refine r_ [] [0,1,5,7,8] [] [] ⟨[(0,.d (sV eGlo p0)),(1,.d (.func pf1 [.fp pc1_0])),(5,.d (.int .i64 a2)),(7,.d (.int .i64 (p0.length:Int))),(8,.d (.int .i64 a2))],[]⟩ (a_ t_ t_) ?_
  refine AW2.seq ?_
  obtain ⟨h3,H⟩:=zaf H
  obtain ⟨x4,hx5,H⟩:=bind_some H
  refine r_ [.r (.bool x4)] [0,1,5,7,8,16] [] [] ⟨[(0,.d (sV eGlo p0)),(1,.d (.func pf1 [.fp pc1_0])),(5,.d (.int .i64 a2)),(7,.d (.int .i64 (p0.length:Int))),(8,.d (.int .i64 a2)),(16,.d (.bool x4))],[]⟩ (a_ (a_ h3 (a_ (hp1 (p0.getD a2.toNat default) x4 hx5) t_)) t_) ?_
  refine AW2.cond (b:=x4) rfl (fun hc => ?_) (fun hc => ?_)
  ·replace H:=zao H hc
   refine AW2.seq ?_
   refine r_ [] [4] [] [] ⟨[(4,.d (.int .i64 a2))],[]⟩ (a_ t_ t_) ?_
   refine AW2.ret ?_
   have H:=Option.some.inj H
   subst H
   exact retP_mk2 t_ (by kernel_rfl)
  ·replace H:=zap H hc
   refine AW2.skip ?_
   refine r_ [] [0,1,7,8] [] [] ⟨[(0,.d (sV eGlo p0)),(1,.d (.func pf1 [.fp pc1_0])),(7,.d (.int .i64 (p0.length:Int))),(8,.d (.int .i64 (wI (a2+1))))],[]⟩ (a_ t_ t_) ?_
   exact ⟨k,(wI (a2+1)),Nat.lt_succ_self k,H,zbc [0,1,7,8] [] [] t_ (by kernel_rfl)⟩
 ·replace H:=zap H hc
  refine AW2.exit ?_
  refine AW2.seq ?_
  refine r_ [] [4] [] [] ⟨[(4,.d (.int .i64 (-1)))],[]⟩ (a_ t_ t_) ?_
  refine AW2.ret ?_
  have H:=Option.some.inj H
  subst H
  exact retP_mk2 t_ (by kernel_rfl)
def zav (K:Nat) (p0:List Glo) (pp1:Glo→Option Bool):Option (Bool):=((zaI K p0 pp1).bind fun x1 => some (decide (x1≥(0:Int))))
theorem zco (K:Nat) (p0:List Glo) (pf1:Nat) (pc1_0:List FV) (pp1:Glo→Option Bool) (hp1:∀ x0 b,pp1 x0=some b→CF E pf1 [.agg (eGlo x0),.fp pc1_0] (.bool b)) (r:Bool) (H:zav K p0 pp1=some r):CF E 53 [sV eGlo p0,.func pf1 [.fp pc1_0]] (.bool r):=by
 refine zeg (A:=zaS) zbu rfl fun fr => ?_
 unfold zav at H
 refine AW2.seq ?_
 refine r_ [] [0,1] [] [] ⟨[(0,.d (sV eGlo p0)),(1,.d (.func pf1 [.fp pc1_0]))],[]⟩ (a_ t_ t_) ?_
 refine AW2.seq ?_
 obtain ⟨x1,hx2,H⟩:=bind_some H
 refine r_ [.r (.int .i64 x1)] [4] [] [] ⟨[(4,.d (.bool (decide (x1≥(0:Int)))))],[]⟩ (a_ (a_ (zcD K p0 pf1 pc1_0 pp1 hp1 x1 hx2) t_) t_) ?_
 refine AW2.ret ?_
 have H:=Option.some.inj H
 subst H
 exact retP_mk2 t_ (by kernel_rfl)
def zcu (p0:Glo):Option (Bool):=((zbv p0.kind).bind fun x1 => some x1)
theorem zri (p0:Glo) (r:Bool) (H:zcu p0=some r):CF E 52 [.agg (eGlo p0),.fp [.func 49 []]] (.bool r):=by
 refine zeg (A:=zft) zjc rfl fun fr => ?_
 unfold zcu at H
 refine AW2.seq ?_
 refine r_ [.k 2] [1,2] [] [.k 2] ⟨[(1,.d (.fp ([.func 49 []]))),(2,.p 2 0)],[(2,.st false (eD (eGlo p0)))]⟩ (a_ t_ t_) ?_
 refine AW2.seq ?_
 obtain ⟨x1,hx2,H⟩:=bind_some H
 refine r_ [.r (.bool x1)] [3] [] [] ⟨[(3,.d (.bool x1))],[]⟩ (a_ (a_ (zfo p0.kind x1 hx2) t_) t_) ?_
 refine AW2.ret ?_
 have H:=Option.some.inj H
 subst H
 exact retP_mk2 t_ (by kernel_rfl)
def zce:Nat→Nat→Mdl→Int→Option (Bool)
 | 0,_,_,_ => none
 | k+1,K,p0,a13 => (if (decide (a13<(p0.funcs.length:Int)))=true then gd (0≤a13∧a13<(p0.funcs.length:Int)) ((zat K ((p0.funcs.getD a13.toNat default).locals) (fun x => zbv x)).bind fun x15 => (if x15=true then some false else zce k K p0 (wI (a13+1)))) else ((zav K p0.globals (fun x => zcu x)).bind fun x17 => some (!x17)))
def zcf:Nat→Nat→Mdl→Int→Option (Bool)
 | 0,_,_,_ => none
 | k+1,K,p0,a2 => (if (decide (a2<(p0.types.length:Int)))=true then gd (0≤a2∧a2<(p0.types.length:Int)) ((zba ((p0.types.getD a2.toNat default).result)).bind fun x4 => (if (!x4)=true then some true else ((zat K ((p0.types.getD a2.toNat default).params) (fun x => zbv x)).bind fun x6 => some x6)).bind (fun j8 => (if j8=true then some false else zcf k K p0 (wI (a2+1))))) else zce K K p0 0)
def zeE (K:Nat) (p0:Mdl):Option (Bool):=zcf K K p0 0
theorem zdv (K:Nat) (p0:Mdl) (r:Bool) (H:zeE K p0=some r):CF E 31 [.agg (eMdl p0)] (.bool r):=by
 refine zeg (A:=ziD) zlZ rfl fun fr => ?_
 unfold zeE at H
 refine AW2.seq ?_
 refine r_ [.k 1] [1] [] [.k 1] ⟨[(1,.p 1 0)],[(1,.st false (eD (eMdl p0)))]⟩ (a_ t_ t_) ?_
 refine AW2.seq ?_
 refine r_ [.k 3] [1,3] [] [.k 1,.k 3] ⟨[(1,.p 1 0),(3,.p 3 0)],[(1,.st false (eD (eMdl p0))),(3,.st false [.d (.func 49 [])])]⟩ (a_ t_ t_) ?_
 refine AW2.seq ?_
 refine AW2.seq ?_
 refine r_ [] [1,3,9,10,11] [] [.k 1,.k 3] ⟨[(1,.p 1 0),(3,.p 3 0),(9,.d (sV eTyp p0.types)),(10,.d (.int .i64 (p0.types.length:Int))),(11,.d (.int .i64 0))],[(1,.st false (eD (eMdl p0))),(3,.st false [.d (.func 49 [])])]⟩ (a_ t_ t_) ?_
 refine AW2.block ?_
 refine AW2.lp (σ:=Int) (fun v => ⟨[(1,.p 1 0),(3,.p 3 0),(9,.d (sV eTyp p0.types)),(10,.d (.int .i64 (p0.types.length:Int))),(11,.d (.int .i64 v))],[(1,.st false (eD (eMdl p0))),(3,.st false [.d (.func 49 [])])]⟩) (fun k v => zcf k K p0 v=some r) ?_ K 0 H
 rintro k a2 H
 cases k with
 | zero => cases H
 | succ k => 
 unfold zcf at H
 refine AW2.seq ?_
 refine r_ [] [1,3,9,10,11,12] [] [.k 1,.k 3] ⟨[(1,.p 1 0),(3,.p 3 0),(9,.d (sV eTyp p0.types)),(10,.d (.int .i64 (p0.types.length:Int))),(11,.d (.int .i64 a2)),(12,.d (.bool (decide (a2<(p0.types.length:Int)))))],[(1,.st false (eD (eMdl p0))),(3,.st false [.d (.func 49 [])])]⟩ (a_ t_ t_) ?_
 refine AW2.seq ?_
 refine AW2.cond (b:=(decide (a2<(p0.types.length:Int)))) rfl (fun hc => ?_) (fun hc => ?_)
 ·replace H:=zao H hc
  refine AW2.skip ?_
  refine AW2.seq ?_
  refine AW2.block ?_
  refine AW2.seq ?_
  obtain ⟨h3,H⟩:=zaf H
  refine r_ [.k 5] [1,3,5,9,10,11] [] [.k 1,.k 3,.k 5] ⟨[(1,.p 1 0),(3,.p 3 0),(5,.p 5 0),(9,.d (sV eTyp p0.types)),(10,.d (.int .i64 (p0.types.length:Int))),(11,.d (.int .i64 a2))],[(1,.st false (eD (eMdl p0))),(3,.st false [.d (.func 49 [])]),(5,.st false (eD (eTyp (p0.types.getD a2.toNat default))))]⟩ (a_ (a_ h3 t_) t_) ?_
  refine AW2.seq ?_
  obtain ⟨x4,hx5,H⟩:=bind_some H
  obtain ⟨j8,H10,H⟩:=bind_some H
  refine AW2.reg [] rfl (YW.to ⟨[(1,.p 1 0),(3,.p 3 0),(9,.d (sV eTyp p0.types)),(10,.d (.int .i64 (p0.types.length:Int))),(11,.d (.int .i64 a2)),(24,.d (.bool j8))],[(1,.st false (eD (eMdl p0))),(3,.st false [.d (.func 49 [])])]⟩ ?qh11 ?h11)
  case h11 => 
   have H:=H10
   rcases bT (!x4) with hc1 | hc1
   ·replace H:=zao H hc1
    have H:=Option.some.inj H
    subst H
    exact YW.fin [(19,true)] [.r (.bool x4)] [1,3,9,10,11,24] [] [.k 1,.k 3] _ (a_ (a_ (zdQ ((p0.types.getD a2.toNat default).result) x4 hx5) (a_ hc1 (a_ hc1 (a_ hc1 (a_ hc1 (a_ hc1 t_)))))) t_) (by kernel_rfl) rfl
   ·replace H:=zap H hc1
    obtain ⟨x6,hx7,H⟩:=bind_some H
    have H:=Option.some.inj H
    subst H
    exact YW.fin [(19,false)] [.r (.bool x4),.r (.bool x6)] [1,3,9,10,11,24] [] [.k 1,.k 3] _ (a_ (a_ (zdQ ((p0.types.getD a2.toNat default).result) x4 hx5) (a_ hc1 (a_ hc1 (a_ hc1 (a_ hc1 (a_ (zbF K ((p0.types.getD a2.toNat default).params) 49 (fun x => zbv x) (fun x b hb => zfo x b hb) x6 hx7) (a_ hc1 t_))))))) t_) (by kernel_rfl) rfl
  refine AW2.cond (b:=j8) rfl (fun hc => ?_) (fun hc => ?_)
  ·replace H:=zao H hc
   refine AW2.seq ?_
   refine r_ [] [2] [] [] ⟨[(2,.d (.bool false))],[]⟩ (a_ t_ t_) ?_
   refine AW2.ret ?_
   have H:=Option.some.inj H
   subst H
   exact retP_mk2 t_ (by kernel_rfl)
  ·replace H:=zap H hc
   refine AW2.skip ?_
   refine r_ [] [1,3,9,10,11] [] [.k 1,.k 3] ⟨[(1,.p 1 0),(3,.p 3 0),(9,.d (sV eTyp p0.types)),(10,.d (.int .i64 (p0.types.length:Int))),(11,.d (.int .i64 (wI (a2+1))))],[(1,.st false (eD (eMdl p0))),(3,.st false [.d (.func 49 [])])]⟩ (a_ t_ t_) ?_
   exact ⟨k,(wI (a2+1)),Nat.lt_succ_self k,H,zbc [1,3,9,10,11] [] [.k 1,.k 3] t_ (by kernel_rfl)⟩
 ·replace H:=zap H hc
  refine AW2.exit ?_
  refine AW2.seq ?_
  refine AW2.seq ?_
  refine r_ [] [1,3,27,28,29] [] [.k 1,.k 3] ⟨[(1,.p 1 0),(3,.p 3 0),(27,.d (sV eFnc p0.funcs)),(28,.d (.int .i64 (p0.funcs.length:Int))),(29,.d (.int .i64 0))],[(1,.st false (eD (eMdl p0))),(3,.st false [.d (.func 49 [])])]⟩ (a_ t_ t_) ?_
  refine AW2.block ?_
  refine AW2.lp (σ:=Int) (fun v => ⟨[(1,.p 1 0),(3,.p 3 0),(27,.d (sV eFnc p0.funcs)),(28,.d (.int .i64 (p0.funcs.length:Int))),(29,.d (.int .i64 v))],[(1,.st false (eD (eMdl p0))),(3,.st false [.d (.func 49 [])])]⟩) (fun k v => zce k K p0 v=some r) ?_ K 0 H
  rintro k a13 H
  cases k with
  | zero => cases H
  | succ k => 
  unfold zce at H
  refine AW2.seq ?_
  refine r_ [] [1,3,27,28,29,30] [] [.k 1,.k 3] ⟨[(1,.p 1 0),(3,.p 3 0),(27,.d (sV eFnc p0.funcs)),(28,.d (.int .i64 (p0.funcs.length:Int))),(29,.d (.int .i64 a13)),(30,.d (.bool (decide (a13<(p0.funcs.length:Int)))))],[(1,.st false (eD (eMdl p0))),(3,.st false [.d (.func 49 [])])]⟩ (a_ t_ t_) ?_
  refine AW2.seq ?_
  refine AW2.cond (b:=(decide (a13<(p0.funcs.length:Int)))) rfl (fun hc => ?_) (fun hc => ?_)
  ·replace H:=zao H hc
   refine AW2.skip ?_
   refine AW2.seq ?_
   refine AW2.block ?_
   refine AW2.seq ?_
   obtain ⟨h14,H⟩:=zaf H
   refine r_ [.k 7] [1,3,7,27,28,29] [] [.k 1,.k 3,.k 7] ⟨[(1,.p 1 0),(3,.p 3 0),(7,.p 7 0),(27,.d (sV eFnc p0.funcs)),(28,.d (.int .i64 (p0.funcs.length:Int))),(29,.d (.int .i64 a13))],[(1,.st false (eD (eMdl p0))),(3,.st false [.d (.func 49 [])]),(7,.st false (eD (eFnc (p0.funcs.getD a13.toNat default))))]⟩ (a_ (a_ h14 t_) t_) ?_
   refine AW2.seq ?_
   obtain ⟨x15,hx16,H⟩:=bind_some H
   refine r_ [.r (.bool x15)] [1,3,27,28,29,36] [] [.k 1,.k 3] ⟨[(1,.p 1 0),(3,.p 3 0),(27,.d (sV eFnc p0.funcs)),(28,.d (.int .i64 (p0.funcs.length:Int))),(29,.d (.int .i64 a13)),(36,.d (.bool x15))],[(1,.st false (eD (eMdl p0))),(3,.st false [.d (.func 49 [])])]⟩ (a_ (a_ (zbF K ((p0.funcs.getD a13.toNat default).locals) 49 (fun x => zbv x) (fun x b hb => zfo x b hb) x15 hx16) t_) t_) ?_
   refine AW2.cond (b:=x15) rfl (fun hc => ?_) (fun hc => ?_)
   ·replace H:=zao H hc
    refine AW2.seq ?_
    refine r_ [] [2] [] [] ⟨[(2,.d (.bool false))],[]⟩ (a_ t_ t_) ?_
    refine AW2.ret ?_
    have H:=Option.some.inj H
    subst H
    exact retP_mk2 t_ (by kernel_rfl)
   ·replace H:=zap H hc
    refine AW2.skip ?_
    refine r_ [] [1,3,27,28,29] [] [.k 1,.k 3] ⟨[(1,.p 1 0),(3,.p 3 0),(27,.d (sV eFnc p0.funcs)),(28,.d (.int .i64 (p0.funcs.length:Int))),(29,.d (.int .i64 (wI (a13+1))))],[(1,.st false (eD (eMdl p0))),(3,.st false [.d (.func 49 [])])]⟩ (a_ t_ t_) ?_
    exact ⟨k,(wI (a13+1)),Nat.lt_succ_self k,H,zbc [1,3,27,28,29] [] [.k 1,.k 3] t_ (by kernel_rfl)⟩
  ·replace H:=zap H hc
   refine AW2.exit ?_
   refine AW2.seq ?_
   obtain ⟨x17,hx18,H⟩:=bind_some H
   refine r_ [.r (.bool x17)] [2] [] [] ⟨[(2,.d (.bool (!x17)))],[]⟩ (a_ (a_ (zco K p0.globals 52 [.func 49 []] (fun x => zcu x) (fun x b hb => zri x b hb) x17 hx18) t_) t_) ?_
   refine AW2.ret ?_
   have H:=Option.some.inj H
   subst H
   exact retP_mk2 t_ (by kernel_rfl)
def zaA:Nat→(List (List Int))→(List Int)→Int→Option (List Int)
 | 0,_,_,_ => none
 | k+1,p0,a6,a7 => (if (decide (a7<(p0.length:Int)))=true then gd (0≤a7∧a7<(p0.length:Int)) (gd ((a6.length+(p0.getD a7.toNat default).length) * 1≤140737488355328) (zaA k p0 (a6++(p0.getD a7.toNat default)) (wI (a7+1)))) else some a6)
def zaz:Nat→(List (List Int))→Int→Int→Option (Int)
 | 0,_,_,_ => none
 | k+1,p0,a14,a15 => (if (decide (a14<(p0.length:Int)))=true then (gd (0≤a14∧a14<(p0.length:Int)) (if (decide ((wI (a15+((p0.getD a14.toNat default).length:Int)))<(0:Int)))=true then none else some ())).bind (fun _ => zaz k p0 (wI (a14+1)) (wI (a15+((p0.getD a14.toNat default).length:Int)))) else some a15)
def zaL (K:Nat) (p0:List (List Int)):Option (List Int):=(zaz K p0 0 0).bind (fun j1 => gd (0≤j1∧j1≤140737488355328) ((zaA K p0 ([]:List Int) 0).bind (fun j3 => some j3)))
theorem zeK (K:Nat) (p0:List (List Int)) (r:List Int) (H:zaL K p0=some r):CF E 38 [sV (eL (eI .u8)) p0] (sV (eI .u8) r):=by
 refine zeg (A:=zby) zbZ rfl fun fr => ?_
 unfold zaL at H
 refine AW2.seq ?_
 refine r_ [] [0] [] [] ⟨[(0,.d (sV (eL (eI .u8)) p0))],[]⟩ (a_ t_ t_) ?_
 refine AW2.seq ?_
 refine r_ [] [0,3] [] [] ⟨[(0,.d (sV (eL (eI .u8)) p0)),(3,.d (.int .i64 0))],[]⟩ (a_ t_ t_) ?_
 obtain ⟨j1,H20,H⟩:=bind_some H
 refine AW2.mid ⟨[(0,.d (sV (eL (eI .u8)) p0)),(3,.d (.int .i64 j1))],[]⟩ ?_ ?_
 ·refine AW2.seq ?_
  obtain ⟨h2,H⟩:=zaf H
  refine r_ [.c [] [900] [] (.ls 900 0 0) [(900,.sl false 1 0 (fl (eI .u8) ([]:List Int)))]] [0,6] [] [.k 900] ⟨[(0,.d (sV (eL (eI .u8)) p0)),(6,.ls 900 0 ([]:List Int).length)],[(900,.sl false 1 ([]:List Int).length (fl (eI .u8) ([]:List Int)))]⟩ (a_ (a_ (zsz j1 h2) t_) t_) ?_
  obtain ⟨j3,H11,H⟩:=bind_some H
  refine AW2.mid ⟨[(6,.ls 900 0 j3.length)],[(900,.sl false 1 j3.length (fl (eI .u8) j3))]⟩ ?_ ?_
  ·refine AW2.seq ?_
   refine r_ [] [2] [] [.k 900] ⟨[(2,.ls 900 0 j3.length)],[(900,.sl false 1 j3.length (fl (eI .u8) j3))]⟩ (a_ t_ t_) ?_
   refine AW2.ret ?_
   have H:=Option.some.inj H
   subst H
   exact retP_mk2 (a_ (Nat.le_refl j3.length) (a_ (dfl (eI .u8) (zvO .u8) j3) t_)) (by kernel_rfl)
  ·have H:=H11
   refine AW2.seq ?_
   refine r_ [] [6,25,26,27] [] [.k 900] ⟨[(6,.ls 900 0 ([]:List Int).length),(25,.d (sV (eL (eI .u8)) p0)),(26,.d (.int .i64 (p0.length:Int))),(27,.d (.int .i64 0))],[(900,.sl false 1 ([]:List Int).length (fl (eI .u8) ([]:List Int)))]⟩ (a_ t_ t_) ?_
   refine AW2.block ?_
   refine AW2.lp (σ:=(List Int)×Int) (fun v => ⟨[(6,.ls 900 0 v.1.length),(25,.d (sV (eL (eI .u8)) p0)),(26,.d (.int .i64 (p0.length:Int))),(27,.d (.int .i64 v.2))],[(900,.sl false 1 v.1.length (fl (eI .u8) v.1))]⟩) (fun k v => zaA k p0 v.1 v.2=some j3) ?_ K (([]:List Int),0) H
   rintro k ⟨a6,a7⟩ H
   dsimp only at H
   cases k with
   | zero => cases H
   | succ k => 
   unfold zaA at H
   refine AW2.seq ?_
   refine r_ [] [6,25,26,27,28] [] [.k 900] ⟨[(6,.ls 900 0 a6.length),(25,.d (sV (eL (eI .u8)) p0)),(26,.d (.int .i64 (p0.length:Int))),(27,.d (.int .i64 a7)),(28,.d (.bool (decide (a7<(p0.length:Int)))))],[(900,.sl false 1 a6.length (fl (eI .u8) a6))]⟩ (a_ t_ t_) ?_
   refine AW2.seq ?_
   refine AW2.cond (b:=(decide (a7<(p0.length:Int)))) rfl (fun hc => ?_) (fun hc => ?_)
   ·replace H:=zao H hc
    refine AW2.skip ?_
    refine AW2.seq ?_
    refine AW2.block ?_
    refine AW2.seq ?_
    obtain ⟨h8,H⟩:=zaf H
    refine r_ [] [6,8,25,26,27] [] [.k 900] ⟨[(6,.ls 900 0 a6.length),(8,.d (sV (eI .u8) (p0.getD a7.toNat default))),(25,.d (sV (eL (eI .u8)) p0)),(26,.d (.int .i64 (p0.length:Int))),(27,.d (.int .i64 a7))],[(900,.sl false 1 a6.length (fl (eI .u8) a6))]⟩ (a_ (a_ h8 t_) t_) ?_
    obtain ⟨h9,H⟩:=zaf H
    refine r_ [.s false (a6++(p0.getD a7.toNat default)).length (fl (eI .u8) (a6++(p0.getD a7.toNat default)))] [6,25,26,27] [] [.k 900] ⟨[(6,.ls 900 0 (a6++(p0.getD a7.toNat default)).length),(25,.d (sV (eL (eI .u8)) p0)),(26,.d (.int .i64 (p0.length:Int))),(27,.d (.int .i64 a7))],[(900,.sl false 1 (a6++(p0.getD a7.toNat default)).length (fl (eI .u8) (a6++(p0.getD a7.toNat default))))]⟩ (a_ (a_ (lcl (eI .u8) (zyM .u8) (p0.getD a7.toNat default)) (a_ (Nat.le_refl a6.length) (a_ h9 (a_ (appN (eI .u8) a6 (p0.getD a7.toNat default)) t_)))) t_) ?_
    refine r_ [] [6,25,26,27] [] [.k 900] ⟨[(6,.ls 900 0 (a6++(p0.getD a7.toNat default)).length),(25,.d (sV (eL (eI .u8)) p0)),(26,.d (.int .i64 (p0.length:Int))),(27,.d (.int .i64 (wI (a7+1))))],[(900,.sl false 1 (a6++(p0.getD a7.toNat default)).length (fl (eI .u8) (a6++(p0.getD a7.toNat default))))]⟩ (a_ t_ t_) ?_
    exact ⟨k,((a6++(p0.getD a7.toNat default)),(wI (a7+1))),Nat.lt_succ_self k,H,zbc [6,25,26,27] [] [.k 900] t_ (by kernel_rfl)⟩
   ·replace H:=zap H hc
    refine AW2.exit ?_
    have H:=Option.some.inj H
    subst H
    exact zbc [6] [] [.k 900] t_ (by kernel_rfl)
 ·have H:=H20
  refine AW2.seq ?_
  refine r_ [] [0,3,9,10,11] [] [] ⟨[(0,.d (sV (eL (eI .u8)) p0)),(3,.d (.int .i64 0)),(9,.d (sV (eL (eI .u8)) p0)),(10,.d (.int .i64 (p0.length:Int))),(11,.d (.int .i64 0))],[]⟩ (a_ t_ t_) ?_
  refine AW2.block ?_
  refine AW2.lp (σ:=Int×Int) (fun v => ⟨[(0,.d (sV (eL (eI .u8)) p0)),(3,.d (.int .i64 v.2)),(9,.d (sV (eL (eI .u8)) p0)),(10,.d (.int .i64 (p0.length:Int))),(11,.d (.int .i64 v.1))],[]⟩) (fun k v => zaz k p0 v.1 v.2=some j1) ?_ K (0,0) H
  rintro k ⟨a14,a15⟩ H
  dsimp only at H
  cases k with
  | zero => cases H
  | succ k => 
  unfold zaz at H
  refine AW2.seq ?_
  refine r_ [] [0,3,9,10,11,12] [] [] ⟨[(0,.d (sV (eL (eI .u8)) p0)),(3,.d (.int .i64 a15)),(9,.d (sV (eL (eI .u8)) p0)),(10,.d (.int .i64 (p0.length:Int))),(11,.d (.int .i64 a14)),(12,.d (.bool (decide (a14<(p0.length:Int)))))],[]⟩ (a_ t_ t_) ?_
  refine AW2.seq ?_
  refine AW2.cond (b:=(decide (a14<(p0.length:Int)))) rfl (fun hc => ?_) (fun hc => ?_)
  ·replace H:=zao H hc
   refine AW2.skip ?_
   obtain ⟨v17,H18,H⟩:=bind_some H
   obtain ⟨⟩:=v17
   refine AW2.mid ⟨[(0,.d (sV (eL (eI .u8)) p0)),(3,.d (.int .i64 (wI (a15+((p0.getD a14.toNat default).length:Int))))),(9,.d (sV (eL (eI .u8)) p0)),(10,.d (.int .i64 (p0.length:Int))),(11,.d (.int .i64 a14))],[]⟩ ?_ ?_
   ·refine r_ [] [0,3,9,10,11] [] [] ⟨[(0,.d (sV (eL (eI .u8)) p0)),(3,.d (.int .i64 (wI (a15+((p0.getD a14.toNat default).length:Int))))),(9,.d (sV (eL (eI .u8)) p0)),(10,.d (.int .i64 (p0.length:Int))),(11,.d (.int .i64 (wI (a14+1))))],[]⟩ (a_ t_ t_) ?_
    exact ⟨k,((wI (a14+1)),(wI (a15+((p0.getD a14.toNat default).length:Int)))),Nat.lt_succ_self k,H,zbc [0,3,9,10,11] [] [] t_ (by kernel_rfl)⟩
   ·have H:=H18
    refine AW2.block ?_
    refine AW2.seq ?_
    obtain ⟨h16,H⟩:=zaf H
    refine r_ [] [0,3,5,9,10,11] [] [] ⟨[(0,.d (sV (eL (eI .u8)) p0)),(3,.d (.int .i64 a15)),(5,.d (sV (eI .u8) (p0.getD a14.toNat default))),(9,.d (sV (eL (eI .u8)) p0)),(10,.d (.int .i64 (p0.length:Int))),(11,.d (.int .i64 a14))],[]⟩ (a_ (a_ h16 t_) t_) ?_
    refine AW2.seq ?_
    refine r_ [] [0,3,9,10,11] [] [] ⟨[(0,.d (sV (eL (eI .u8)) p0)),(3,.d (.int .i64 (wI (a15+((p0.getD a14.toNat default).length:Int))))),(9,.d (sV (eL (eI .u8)) p0)),(10,.d (.int .i64 (p0.length:Int))),(11,.d (.int .i64 a14))],[]⟩ (a_ t_ t_) ?_
    refine AW2.seq ?_
    refine r_ [] [0,3,9,10,11,20] [] [] ⟨[(0,.d (sV (eL (eI .u8)) p0)),(3,.d (.int .i64 (wI (a15+((p0.getD a14.toNat default).length:Int))))),(9,.d (sV (eL (eI .u8)) p0)),(10,.d (.int .i64 (p0.length:Int))),(11,.d (.int .i64 a14)),(20,.d (.bool (decide ((wI (a15+((p0.getD a14.toNat default).length:Int)))<(0:Int)))))],[]⟩ (a_ t_ t_) ?_
    refine AW2.cond (b:=(decide ((wI (a15+((p0.getD a14.toNat default).length:Int)))<(0:Int)))) rfl (fun hc => ?_) (fun hc => ?_)
    ·replace H:=zao H hc
     cases H
    ·replace H:=zap H hc
     refine AW2.skip ?_
     exact zbc [0,3,9,10,11] [] [] t_ (by kernel_rfl)
  ·replace H:=zap H hc
   refine AW2.exit ?_
   have H:=Option.some.inj H
   subst H
   exact zbc [0,3] [] [] t_ (by kernel_rfl)
def zac (p0:Checker) (p1:Int):Option (Int×Checker):=gd (0≤(wI ((p0.frames.length:Int) - 1))∧(wI ((p0.frames.length:Int) - 1))<(p0.frames.length:Int)) (if (p1==(0:Int))=true then some (p1,p0) else (if ((p0.stack.length:Int)==((p0.frames.getD ((wI ((p0.frames.length:Int) - 1)).toNat) default).height))=true then (if p0.bad=true then some (Checker.mk p0.m p0.t p0.locals p0.stack p0.frames p0.labels p0.most true) else some (Checker.mk p0.m p0.t p0.locals p0.stack p0.frames p0.labels p0.most (!((p0.frames.getD ((wI ((p0.frames.length:Int) - 1)).toNat) default).away)))).bind (fun j2 => some (p1,j2)) else gd (0≤(wI ((p0.stack.length:Int) - 1))∧(wI ((p0.stack.length:Int) - 1))<(p0.stack.length:Int)) (gd (0≤(0:Int)∧0≤(wI ((p0.stack.length:Int) - 1))∧(wI ((p0.stack.length:Int) - 1))≤(p0.stack.length:Int)) ((if (((p0.stack.getD ((wI ((p0.stack.length:Int) - 1)).toNat) default) != p1)&&(((p0.stack.getD ((wI ((p0.stack.length:Int) - 1)).toNat) default) != (1:Int))&&(p1 != (1:Int))))=true then some (Checker.mk p0.m p0.t p0.locals (List.take ((wI ((p0.stack.length:Int) - 1)).toNat) p0.stack) p0.frames p0.labels p0.most true) else some (Checker.mk p0.m p0.t p0.locals (List.take ((wI ((p0.stack.length:Int) - 1)).toNat) p0.stack) p0.frames p0.labels p0.most p0.bad)).bind (fun j8 => (if ((p0.stack.getD ((wI ((p0.stack.length:Int) - 1)).toNat) default)==(1:Int))=true then some (p1,j8) else some (p0.stack.getD ((wI ((p0.stack.length:Int) - 1)).toNat) default,j8)))))))
theorem zak (p0:Checker) (p1:Int) (r:Int×Checker) (H:zac p0 p1=some r):CM E 40 [.p 1000 0,.d (.int .u8 p1)] (zaa p0) [] [1000] (fun a b => a=(.d (.int .u8 r.1):LV)∧b=zaa r.2):=by
 refine zkr (A:=zdD) zeZ fun fr => ?_
 unfold zac at H
 refine AW2.seq ?_
 refine r_ [] [0,1] [] [.k 1000,.k 1001,.k 1002,.k 1003] ⟨[(0,.p 1000 0),(1,.d (.int .u8 p1))],zaa p0⟩ (a_ t_ t_) ?_
 refine AW2.seq ?_
 obtain ⟨h1,H⟩:=zaf H
 refine r_ [.k 5] [0,1,5] [] [.k 5,.k 1000,.k 1001,.k 1002,.k 1003] ⟨[(0,.p 1000 0),(1,.d (.int .u8 p1)),(5,.p 5 0)],[(5,.st false (eD (eFrame (p0.frames.getD ((wI ((p0.frames.length:Int) - 1)).toNat) default))))]++zaa p0⟩ (a_ (a_ h1 (a_ (ixN h1) (a_ (ixN h1) t_))) t_) ?_
 refine AW2.seq ?_
 refine AW2.seq ?_
 refine r_ [] [0,1,5,21] [] [.k 5,.k 1000,.k 1001,.k 1002,.k 1003] ⟨[(0,.p 1000 0),(1,.d (.int .u8 p1)),(5,.p 5 0),(21,.d (.bool (p1==(0:Int))))],[(5,.st false (eD (eFrame (p0.frames.getD ((wI ((p0.frames.length:Int) - 1)).toNat) default))))]++zaa p0⟩ (a_ t_ t_) ?_
 refine AW2.cond (b:=(p1==(0:Int))) rfl (fun hc => ?_) (fun hc => ?_)
 ·replace H:=zao H hc
  refine AW2.seq ?_
  refine r_ [] [4] [] [.k 1000,.k 1001,.k 1002,.k 1003] ⟨[(4,.d (.int .u8 p1))],zaa p0⟩ (a_ t_ t_) ?_
  refine AW2.ret ?_
  have H:=Option.some.inj H
  subst H
  exact retS_mk3 [] [.k 1000,.k 1001,.k 1002,.k 1003] t_ (by kernel_rfl) (by kernel_rfl)
 ·replace H:=zap H hc
  refine AW2.skip ?_
  refine AW2.seq ?_
  refine r_ [] [0,1,5,6] [] [.k 5,.k 1000,.k 1001,.k 1002,.k 1003] ⟨[(0,.p 1000 0),(1,.d (.int .u8 p1)),(5,.p 5 0),(6,.d (.int .i64 (p0.stack.length:Int)))],[(5,.st false (eD (eFrame (p0.frames.getD ((wI ((p0.frames.length:Int) - 1)).toNat) default))))]++zaa p0⟩ (a_ t_ t_) ?_
  refine AW2.seq ?_
  refine AW2.seq ?_
  refine r_ [] [0,1,5,6,31] [] [.k 5,.k 1000,.k 1001,.k 1002,.k 1003] ⟨[(0,.p 1000 0),(1,.d (.int .u8 p1)),(5,.p 5 0),(6,.d (.int .i64 (p0.stack.length:Int))),(31,.d (.bool ((p0.stack.length:Int)==((p0.frames.getD ((wI ((p0.frames.length:Int) - 1)).toNat) default).height))))],[(5,.st false (eD (eFrame (p0.frames.getD ((wI ((p0.frames.length:Int) - 1)).toNat) default))))]++zaa p0⟩ (a_ t_ t_) ?_
  refine AW2.cond (b:=((p0.stack.length:Int)==((p0.frames.getD ((wI ((p0.frames.length:Int) - 1)).toNat) default).height))) rfl (fun hc => ?_) (fun hc => ?_)
  ·replace H:=zao H hc
   refine AW2.seq ?_
   obtain ⟨j2,H4,H⟩:=bind_some H
   refine AW2.reg [] rfl (YW.to ⟨[(1,.d (.int .u8 p1))],zaa j2⟩ ?qh5 ?h5)
   case h5 => 
    have H:=H4
    rcases bT p0.bad with hc1 | hc1
    ·replace H:=zao H hc1
     have H:=Option.some.inj H
     subst H
     exact YW.fin [(37,true)] [] [1] [] [.k 1000,.k 1001,.k 1002,.k 1003] _ (a_ (a_ hc1 (a_ hc1 (a_ hc1 (a_ hc1 t_)))) t_) (by kernel_rfl) rfl
    ·replace H:=zap H hc1
     have H:=Option.some.inj H
     subst H
     exact YW.fin [(37,false)] [] [1] [] [.k 1000,.k 1001,.k 1002,.k 1003] _ (a_ (a_ hc1 (a_ hc1 (a_ hc1 (a_ hc1 t_)))) t_) (by kernel_rfl) rfl
   refine AW2.seq ?_
   refine r_ [] [4] [] [.k 1000,.k 1001,.k 1002,.k 1003] ⟨[(4,.d (.int .u8 p1))],zaa j2⟩ (a_ t_ t_) ?_
   refine AW2.ret ?_
   have H:=Option.some.inj H
   subst H
   exact retS_mk3 [] [.k 1000,.k 1001,.k 1002,.k 1003] t_ (by kernel_rfl) (by kernel_rfl)
  ·replace H:=zap H hc
   refine AW2.skip ?_
   refine AW2.seq ?_
   obtain ⟨h6,H⟩:=zaf H
   refine r_ [] [0,1,6,7] [] [.k 1000,.k 1001,.k 1002,.k 1003] ⟨[(0,.p 1000 0),(1,.d (.int .u8 p1)),(6,.d (.int .i64 (p0.stack.length:Int))),(7,.d (.int .u8 (p0.stack.getD ((wI ((p0.stack.length:Int) - 1)).toNat) default)))],zaa p0⟩ (a_ (a_ h6 (a_ (ixN h6) (a_ (ixN h6) t_))) t_) ?_
   refine AW2.seq ?_
   obtain ⟨h7,H⟩:=zaf H
   refine r_ [.s true (List.take ((wI ((p0.stack.length:Int) - 1)).toNat) p0.stack).length (fl (eI .u8) (List.take ((wI ((p0.stack.length:Int) - 1)).toNat) p0.stack))] [0,1,7] [] [.k 1000,.sl 1001 (List.take ((wI ((p0.stack.length:Int) - 1)).toNat) p0.stack).length (fl (eI .u8) (List.take ((wI ((p0.stack.length:Int) - 1)).toNat) p0.stack)),.k 1002,.k 1003] ⟨[(0,.p 1000 0),(1,.d (.int .u8 p1)),(7,.d (.int .u8 (p0.stack.getD ((wI ((p0.stack.length:Int) - 1)).toNat) default)))],zaa (Checker.mk p0.m p0.t p0.locals (List.take ((wI ((p0.stack.length:Int) - 1)).toNat) p0.stack) p0.frames p0.labels p0.most p0.bad)⟩ (a_ (a_ h7 (a_ (takeN h7) t_)) (a_ (takeL p0.stack ((wI ((p0.stack.length:Int) - 1)).toNat)) (a_ (takeF (eI .u8) p0.stack ((wI ((p0.stack.length:Int) - 1)).toNat)) t_))) ?_
   obtain ⟨j8,H11,H⟩:=bind_some H
   refine AW2.mid ⟨[(1,.d (.int .u8 p1)),(7,.d (.int .u8 (p0.stack.getD ((wI ((p0.stack.length:Int) - 1)).toNat) default)))],zaa j8⟩ ?_ ?_
   ·refine AW2.seq ?_
    refine AW2.seq ?_
    refine r_ [] [1,7,78] [] [.k 1000,.k 1001,.k 1002,.k 1003] ⟨[(1,.d (.int .u8 p1)),(7,.d (.int .u8 (p0.stack.getD ((wI ((p0.stack.length:Int) - 1)).toNat) default))),(78,.d (.bool ((p0.stack.getD ((wI ((p0.stack.length:Int) - 1)).toNat) default)==(1:Int))))],zaa j8⟩ (a_ t_ t_) ?_
    refine AW2.cond (b:=((p0.stack.getD ((wI ((p0.stack.length:Int) - 1)).toNat) default)==(1:Int))) rfl (fun hc => ?_) (fun hc => ?_)
    ·replace H:=zao H hc
     refine AW2.seq ?_
     refine r_ [] [4] [] [.k 1000,.k 1001,.k 1002,.k 1003] ⟨[(4,.d (.int .u8 p1))],zaa j8⟩ (a_ t_ t_) ?_
     refine AW2.ret ?_
     have H:=Option.some.inj H
     subst H
     exact retS_mk3 [] [.k 1000,.k 1001,.k 1002,.k 1003] t_ (by kernel_rfl) (by kernel_rfl)
    ·replace H:=zap H hc
     refine AW2.skip ?_
     refine AW2.seq ?_
     refine r_ [] [4] [] [.k 1000,.k 1001,.k 1002,.k 1003] ⟨[(4,.d (.int .u8 (p0.stack.getD ((wI ((p0.stack.length:Int) - 1)).toNat) default)))],zaa j8⟩ (a_ t_ t_) ?_
     refine AW2.ret ?_
     have H:=Option.some.inj H
     subst H
     exact retS_mk3 [] [.k 1000,.k 1001,.k 1002,.k 1003] t_ (by kernel_rfl) (by kernel_rfl)
   ·have H:=H11
    refine AW2.seq ?_
    refine AW2.reg [] rfl (YW.to ⟨[(0,.p 1000 0),(1,.d (.int .u8 p1)),(7,.d (.int .u8 (p0.stack.getD ((wI ((p0.stack.length:Int) - 1)).toNat) default))),(73,.d (.bool (((p0.stack.getD ((wI ((p0.stack.length:Int) - 1)).toNat) default) != p1)&&(((p0.stack.getD ((wI ((p0.stack.length:Int) - 1)).toNat) default) != (1:Int))&&(p1 != (1:Int))))))],zaa (Checker.mk p0.m p0.t p0.locals (List.take ((wI ((p0.stack.length:Int) - 1)).toNat) p0.stack) p0.frames p0.labels p0.most p0.bad)⟩ ?qh9 ?h9)
    case h9 => 
     rcases bT ((p0.stack.getD ((wI ((p0.stack.length:Int) - 1)).toNat) default) != p1) with hc1 | hc1
     ·rcases bT ((p0.stack.getD ((wI ((p0.stack.length:Int) - 1)).toNat) default) != (1:Int)) with hc2 | hc2
      ·exact YW.fin [(66,true),(70,true)] [] [0,1,7,73] [(73,.d (.bool (((p0.stack.getD ((wI ((p0.stack.length:Int) - 1)).toNat) default) != p1)&&(((p0.stack.getD ((wI ((p0.stack.length:Int) - 1)).toNat) default) != (1:Int))&&(p1 != (1:Int))))))] [.k 1000,.k 1001,.k 1002,.k 1003] _ (a_ (a_ hc1 (a_ hc1 (a_ hc1 (a_ hc2 (a_ hc2 (a_ hc2 t_)))))) (a_ (ovB (Eq.trans (andT (b:=(((p0.stack.getD ((wI ((p0.stack.length:Int) - 1)).toNat) default) != (1:Int))&&(p1 != (1:Int)))) hc1) (Eq.trans (andT (b:=(p1 != (1:Int))) hc2) (Eq.refl (p1 != (1:Int)))))) t_)) (by kernel_rfl) rfl
      ·exact YW.fin [(66,true),(70,false)] [] [0,1,7,73] [(73,.d (.bool (((p0.stack.getD ((wI ((p0.stack.length:Int) - 1)).toNat) default) != p1)&&(((p0.stack.getD ((wI ((p0.stack.length:Int) - 1)).toNat) default) != (1:Int))&&(p1 != (1:Int))))))] [.k 1000,.k 1001,.k 1002,.k 1003] _ (a_ (a_ hc1 (a_ hc1 (a_ hc1 (a_ hc2 (a_ hc2 (a_ hc2 t_)))))) (a_ (ovB (Eq.trans (andT (b:=(((p0.stack.getD ((wI ((p0.stack.length:Int) - 1)).toNat) default) != (1:Int))&&(p1 != (1:Int)))) hc1) (andF (b:=(p1 != (1:Int))) hc2))) t_)) (by kernel_rfl) rfl
     ·exact YW.fin [(66,false),(70,false)] [] [0,1,7,73] [(73,.d (.bool (((p0.stack.getD ((wI ((p0.stack.length:Int) - 1)).toNat) default) != p1)&&(((p0.stack.getD ((wI ((p0.stack.length:Int) - 1)).toNat) default) != (1:Int))&&(p1 != (1:Int))))))] [.k 1000,.k 1001,.k 1002,.k 1003] _ (a_ (a_ hc1 (a_ hc1 (a_ hc1 (a_ (Eq.refl false) (a_ (Eq.refl false) (a_ (Eq.refl false) t_)))))) (a_ (ovB (andF (b:=(((p0.stack.getD ((wI ((p0.stack.length:Int) - 1)).toNat) default) != (1:Int))&&(p1 != (1:Int)))) hc1)) t_)) (by kernel_rfl) rfl
    refine AW2.cond (b:=(((p0.stack.getD ((wI ((p0.stack.length:Int) - 1)).toNat) default) != p1)&&(((p0.stack.getD ((wI ((p0.stack.length:Int) - 1)).toNat) default) != (1:Int))&&(p1 != (1:Int))))) rfl (fun hc => ?_) (fun hc => ?_)
    ·replace H:=zao H hc
     refine r_ [] [1,7] [] [.k 1000,.k 1001,.k 1002,.k 1003] ⟨[(1,.d (.int .u8 p1)),(7,.d (.int .u8 (p0.stack.getD ((wI ((p0.stack.length:Int) - 1)).toNat) default)))],zaa (Checker.mk p0.m p0.t p0.locals (List.take ((wI ((p0.stack.length:Int) - 1)).toNat) p0.stack) p0.frames p0.labels p0.most true)⟩ (a_ t_ t_) ?_
     have H:=Option.some.inj H
     subst H
     exact zbc [1,7] [] [.k 1000,.k 1001,.k 1002,.k 1003] t_ (by kernel_rfl)
    ·replace H:=zap H hc
     refine AW2.skip ?_
     have H:=Option.some.inj H
     subst H
     exact zbc [1,7] [] [.k 1000,.k 1001,.k 1002,.k 1003] t_ (by kernel_rfl)
end Go.Proofs.YtablleokoifolaaGreatDoor
set_option linter.unusedVariables false
set_option linter.unusedSimpArgs false
namespace Go.Proofs.YtablleokoifolaaGreatDoor
open Go Go.RowKit
def backL (xs:List Int) (k:Nat):List (Int×Int):=((List.range (xs.length - k)).map fun q => (((xs.length - 1 - q:Nat):Int),xs.getD (xs.length - 1 - q) 0))
theorem backL_step (xs:List Int) {k:Nat} (hk:k<xs.length):backL xs (k+1)++[((k:Int),xs.getD k 0)]=backL xs k:=by
 unfold backL
 have e:xs.length - k=(xs.length - (k+1))+1:=by omega
 rw [e,List.range_succ,List.map_append,List.map_singleton]
 have:xs.length - 1 - (xs.length - (k+1))=k:=by omega
 rw [this]
def CellsAt (W:World) (A:Addr) (xs:List Int):Prop:=∀ i,i<xs.length→W.cell? (A.add i)=some (.int .u8 (xs.getD i 0))
def muI:Value→Nat
 | .int _ i => (i+1).toNat
 | _ => 0
theorem backL_len (xs:List Int) (k:Nat):(backL xs k).length=xs.length - k:=by simp [backL]
set_option maxRecDepth 100000 in
set_option maxHeartbeats 1000000 in
theorem zyi (S:Nat→Prop) (xs:List Int) (A:Addr) (cap:Nat) (n:Nat) (hn:1≤n) (l Bm:Nat) (hB:S Bm) (hA:S A.block) (J Jx:List (Int×Int)→World→Prop) (hx:xs.length<4611686018427387904)
  (hY:∀ pre x W,J pre W→pre.length<xs.length→YieldAt Fence.wide (n - 1) Tryz.prog l #[.int .i64 x.1,.int .u8 x.2] W fun e W' => 
   (e=.returned (.bool true)∧J (pre++[x]) W'∧∀ b,S b→W'.heap[b]? = W.heap[b]?)∨(e=.returned (.bool false)∧Jx (pre++[x]) W'))
  (W:World) (hb:W.cell? ⟨Bm,0,none⟩=some (.slice (some A) xs.length cap)) (hc:∀ i,i<xs.length→W.cell? (A.add i)=some (.int .u8 (xs.getD i 0))) (h0:J [] W) :
  CallsIn Fence.wide n Tryz.prog 103 #[.func (.yield l) #[] #[],.pointer (some ⟨Bm,0,none⟩)] W fun e W' => (∃ v,e=.returned v)∧(J (backL xs 0) W'∨∃ pre,Jx pre W'):=by
 refine callsIn_of_wp Tryz.func103 rfl trivial ?_ rfl
 simp only [Tryz.ntmps103,List.size_toArray,List.length_cons,List.length_nil,Nat.reduceAdd,Nat.reduceSub,Array.replicate_succ,Array.replicate_zero,List.push_toArray,List.append_toArray,List.nil_append,List.cons_append]
 gi_wp2
 gi_loopw [3] (fun v wr => ∃ k:Nat,k≤xs.length∧v=.int .i64 ((k:Int) - 1)∧J (backL xs k) wr∧wr.cell? ⟨Bm,0,none⟩=some (.slice (some A) xs.length cap)∧∀ i,i<xs.length→wr.cell? (A.add i)=some (.int .u8 (xs.getD i 0)))
  (fun v wr => muI v)
 case atStart => 
  refine ⟨xs.length,Nat.le_refl _,rfl,?_,hb,hc⟩
  have:backL xs xs.length=[]:=by simp [backL]
  rw [this]; exact h0
 case round => 
  obtain ⟨k,hk,rfl,hJ,hb',hc'⟩:=hrel
  cases k with
  | zero => 
   gi_wp2
   go_end0
   exact ⟨⟨_,rfl⟩,.inl hJ⟩
  | succ m => 
   have hm:m<xs.length:=by omega
   have e1:(((m+1:Nat):Int) - 1)=(m:Int):=by omega
   rw [e1]
   have hcm:=hc' m hm
   have hge:(0:Int)≤(m:Int):=by omega
   have hlt:(m:Int)<(xs.length:Int):=by omega
   obtain ⟨fn,tmps,assign,body,hy,hR⟩:=hY (backL xs (m+1)) ((m:Int),xs.getD m 0) wr hJ (by rw [backL_len]; omega)
   rw [backL_step xs hm] at hR
   dsimp only at hy
   clear hY
   have HC:CellsAt wr A xs:=hc'
   clear hc'
   generalize xs.getD m 0=y at hcm hy
   gi_wp2
   refine hR.mono ?_
   rintro e W3 (⟨rfl,hJ3,hk3⟩ | ⟨rfl,h⟩)
   ·have hb3:W3.cell? ⟨Bm,0,none⟩=some (.slice (some A) xs.length cap):=(World.cell?_of_block (hk3 _ hB)).trans hb'
    have hc3:∀ i,i<xs.length→W3.cell? (A.add i)=some (.int .u8 (xs.getD i 0)):=fun i hi => (World.cell?_of_block (hk3 _ (by unfold Addr.add; split <;> exact hA))).trans (HC i hi)
    gi_wp2
    exact ⟨⟨m,by omega,rfl,hJ3,hb3,hc3⟩,by simp only [muI]; omega⟩
   ·gi_wp2
    refine bodyPost_ret (results_none rfl _ _ _) rfl ?_
    exact ⟨⟨_,rfl⟩,.inr ⟨_,h⟩⟩
set_option maxRecDepth 100000 in
set_option maxHeartbeats 1000000 in
theorem zxH (b:Option Addr) (cap:Nat) (n:Nat) (hn:1≤n) (l Bm:Nat) (J:World→Prop)
  (W:World) (hb:W.cell? ⟨Bm,0,none⟩=some (.slice b 0 cap)) (h0:J W) :
  CallsIn Fence.wide n Tryz.prog 103 #[.func (.yield l) #[] #[],.pointer (some ⟨Bm,0,none⟩)] W fun e W' => (∃ v,e=.returned v)∧J W':=by
 refine callsIn_of_wp Tryz.func103 rfl trivial ?_ rfl
 simp only [Tryz.ntmps103,List.size_toArray,List.length_cons,List.length_nil,Nat.reduceAdd,Nat.reduceSub,Array.replicate_succ,Array.replicate_zero,List.push_toArray,List.append_toArray,List.nil_append,List.cons_append]
 gi_wp2
 gi_loopw [3] (fun v wr => v=.int .i64 (-1)∧J wr) (fun v wr => 0)
 case atStart => exact ⟨rfl,h0⟩
 case round => 
  obtain ⟨rfl,hJ⟩:=hrel
  gi_wp2
  go_end0
  exact ⟨⟨_,rfl⟩,hJ⟩
variable {E:Env} {h:Hp} {H H':Array Obj} {β:Bt} {V F:Nat→Prop}
def KeepCells (H H':Array Obj):Prop:=∀ (b:Nat) (C:Array Value) (T:TypeId) (fr:Nat×Nat),H[b]? = some (.cells C T fr)→H'[b]? = some (.cells C T fr)
theorem RVF.keep {a:AV} {v:Value} (r:RVF E H F a v) (k:KeepCells H H'):RVF E H' F a v:=by
 induction r with
 | undef v => exact .undef v
 | hole => exact .hole
 | bool b => exact .bool b
 | int k n => exact .int k n
 | str s => exact .str s
 | nilp => exact .nilp
 | fptr cs b off C T fr h1 h2 h3 hk h4 ih => exact .fptr cs b off C T fr h1 (k _ _ _ _ h2) h3 hk ih
 | nils => exact .nils
 | slv0 a cap => exact .slv0 a cap
 | slv es b off cap esz C T fr h1 h2 h3 h4 h5 hk h6 ih => exact .slv es b off cap esz C T fr h1 (k _ _ _ _ h2) h3 h4 h5 hk ih
 | func f caps cv hl hc ih => exact .func f caps cv hl ih
 | nilf => exact .nilf
 | iface c a v h ih => exact .iface c a v ih
 | nili => exact .nili
 | nilm => exact .nilm
 | agg cs cv hl hk hc ih => exact .agg cs cv hl hk ih
 | tup cs cv hl hc ih => exact .tup cs cv hl ih
theorem RV.keep {a:AV} {v:Value} (r:RV E H β V F a v) (k:KeepCells H H'):RV E H' β V F a v:=by
 induction r with
 | fz h => exact .fz (h.keep k)
 | ptrD κ i o a hV hβ => exact .ptrD κ i o a hV hβ
 | ptr κ i o b esz hV hβ => exact .ptr κ i o b esz hV hβ
 | slD κ lo n a cap hV hβ => exact .slD κ lo n a cap hV hβ
 | sl κ lo n b esz cap C T fr hV hβ hn hb hs => exact .sl κ lo n b esz cap C T fr hV hβ hn (k _ _ _ _ hb) hs
 | sl0 κ lo a hV => exact .sl0 κ lo a hV
 | mapD κ a hV hβ => exact .mapD κ a hV hβ
 | map κ b esz hV hβ => exact .map κ b esz hV hβ
 | func f caps cv hl hc ih => exact .func f caps cv hl ih
 | iface c a v h ih => exact .iface c a v ih
 | agg cs cv hl hk hc ih => exact .agg cs cv hl hk ih
 | tup cs cv hl hc ih => exact .tup cs cv hl ih
def AllRows (h:Hp):Prop:=∀ κ es,h κ≠some (.mp es)
theorem HRel.keep (R:HRel E h H β V F) (hr:AllRows h) (k:KeepCells H H') (hs:H.size≤H'.size) (hg:∀ b,b<E.gb→H'[b]? = H[b]?):HRel E h H' β V F where
 dom:=R.dom
 lt κ b e he:=⟨(R.lt κ b e he).1,Nat.lt_of_lt_of_le (R.lt κ b e he).2 hs⟩
 inj:=R.inj
 obj κ o ho:=by
  cases o with
  | mp es => exact absurd ho (hr κ es)
  | row ro esz es => 
   obtain ⟨b,C,T,h1,h2,h3,h4,h5,h6,h7⟩:=R.obj κ _ ho
   exact ⟨b,C,T,h1,k _ _ _ _ h2,h3,h4,h5,fun i j hi hj => ⟨(h6 i j hi hj).1,(h6 i j hi hj).2.keep k⟩,h7⟩
 fsz b hb:=Nat.lt_of_lt_of_le (R.fsz b hb) hs
 glo:=R.glo
 gsz:=Nat.le_trans R.gsz hs
 gk:=E.gkeep _ _ hg R.gk
theorem Ext.keep {H0:Array Obj} {β0:Bt} {V0 F0:Nat→Prop} (x:Ext H0 β0 V0 F0 H β V F) (k:KeepCells H H') (hs:H.size≤H'.size) (hb:∀ b,b<H0.size→H'[b]? = H[b]?):Ext H0 β0 V0 F0 H' β V F where
 size:=Nat.le_trans x.size hs
 out b h1 h2:=(hb b h1).trans (x.out b h1 h2)
 fr b h1 h2:=(hb b h2).trans (x.fr b h1 h2)
 shape b C T fr h:=by
  obtain ⟨C',h1,h2⟩:=x.shape b C T fr h
  exact ⟨C',k _ _ _ _ h1,h2⟩
 old:=x.old
 img:=x.img
 fmono:=x.fmono
 fnew:=x.fnew
theorem zwj {W W':World} {row:Option Nat} (hg:W.grownBy W' row) (hrow:∀ r,row=some r→∃ o:Obj,W.heap[r]? = some o∧o.isCells=false):KeepCells W.heap W'.heap:=fun b C T fr hb => 
 (grownBy_keeps_cells hg hrow hb rfl).trans hb
theorem HRel.cells (R:HRel E h H β V F) (hr:AllRows h) {κ b e:Nat} (hβ:β κ=some (b,e)):∃ C T,H[b]? = some (.cells C T (0,0)):=by
 cases ho:h κ with
 | none => rw [(R.dom κ).1 ho] at hβ; cases hβ
 | some o => 
  cases o with
  | mp es => exact absurd ho (hr κ es)
  | row ro esz es => 
   obtain ⟨b',C,T,h1,h2,_⟩:=R.obj κ _ ho
   rw [hβ] at h1
   obtain ⟨rfl,rfl⟩:b=b'∧e=esz:=by simpa using h1
   exact ⟨C,T,h2⟩
end Go.Proofs.YtablleokoifolaaGreatDoor
set_option linter.unusedVariables false
set_option linter.unusedSimpArgs false
namespace Go.Proofs.YtablleokoifolaaGreatDoor
open Go Go.RowKit Go.Shelf
attribute [local go_sem] Oper.semAt_some
theorem zyj (b:Option Addr) (len cap:Nat) (w:World) :
  Calls Tryz.prog 96 #[.slice b len cap] w fun e w' => e=.returned (.func (.func 103) #[] #[.pointer (some ⟨w.heap.size,0,none⟩)])∧w'=w.alloc (.cells #[.slice b len cap] 64):=by
 go_enter Tryz.func96,Tryz.ntmps96
 go_wp2
 go_ret
 exact ⟨rfl,rfl⟩
theorem zxG (xs:List Int):(backL xs 0).map (·.2)=xs.reverse:=by
 apply List.ext_getElem
 ·simp [backL]
 ·intro i h1 h2
  simp [backL] at h1 ⊢
  rw [List.getElem?_eq_getElem (by omega)]
  rfl
structure TI (E:Env) (w0:World) (β:Bt) (V F:Nat→Prop) (n:Nat) (v0:Value) (J:List Int→Hp→Nat→Prop) (pre:List (Int×Int)) (W:World):Prop where
 ex:∃ h' n' β' V' F',J (pre.map (·.2)) h' n'∧AllRows h'∧HRel E h' W.heap β' V' F'∧Ext w0.heap β V F W.heap β' V' F'∧WX w0 W∧n≤n'∧(∀ κ,V' κ→κ<n')∧(∀ κ,V' κ→κ<n→V κ) ∧
  (∀ κ b e,β' κ=some (b,e)→b≠w0.heap.size∧b≠w0.heap.size+1)∧W.heap[w0.heap.size]? = some (.cells #[v0] 106 (0,0))∧w0.heap.size+2≤W.heap.size
theorem TI.own {E:Env} {w0:World} {β:Bt} {V F:Nat→Prop} {n:Nat} {v0:Value} {J:List Int→Hp→Nat→Prop} (hg0:E.gb≤w0.heap.size):OwnFrom (w0.heap.size+2) (TI E w0 β V F n v0 J):=by
 rintro pre W W' row ⟨h',n',β',V',F',k1,k2,k3,k4,k5,k6,k7,k8,k9,k10,k11⟩ hg hr
 have kc:=zwj hg (fun r e => (hr r e).2)
 have lo:∀ b,b<w0.heap.size→W'.heap[b]? = W.heap[b]?:=fun b hb => hg.block b (by omega) (fun e => by have:=(hr b e.symm).1; omega)
 exact ⟨⟨h',n',β',V',F',k1,k2,k3.keep k2 kc hg.size (fun b hb => lo b (by omega)),k4.keep kc hg.size lo,k5.trans ⟨hg.os,hg.tape,hg.output⟩,k6,k7,k8,k9,kc _ _ _ _ k10,Nat.le_trans k11 hg.size⟩⟩
set_option maxRecDepth 100000 in
set_option maxHeartbeats 1000000 in
theorem zxl {h:Hp} {n:Nat} {c:AV} (ks:List Int) (hk:ks.length<4611686018427387904) (J:List Int→Hp→Nat→Prop) (hrows:∀ pre h n,J pre h n→AllRows h) (h0:J [] h n)
  (hstep:∀ pre x h n,J pre h n→pre.length<ks.length→ACallS E 40 [c,.int .u8 x] h n (fun _ h' n' => J (pre++[x]) h' n'))
  (w:World) (β:Bt) (V F:Nat→Prop) (R:HRel E h w.heap β V F) (vb:∀ κ,V κ→κ<n) (pc:Addr) (rc:RV E w.heap β V F c (.pointer (some pc)))
  (b:Option Addr) (cap:Nat) (hb:(∃ A,b=some A∧F A.block∧∀ i,i<ks.length→w.cell? (A.add i)=some (.int .u8 (ks.getD i 0)))∨ks=[]) :
  Calls Tryz.prog 92 #[.pointer (some pc),.slice b ks.length cap] w fun e w' => ∃ v β' V' F' r h' n',e=.returned v∧RV E w'.heap β' V' F' r v∧HRel E h' w'.heap β' V' F'∧Ext w.heap β V F w'.heap β' V' F'∧WX w w' ∧
   n≤n'∧(∀ κ,V' κ→κ<n')∧(∀ κ,V' κ→κ<n→V κ)∧J ks.reverse h' n':=by
 refine (callsIn_wide (n:=10)).1 ?_
 refine callsIn_of_wp_marks Tryz.func92 rfl trivial ?_ rfl
 simp only [Tryz.ntmps92,List.size_toArray,List.length_cons,List.length_nil,Nat.reduceAdd,Nat.reduceSub,Array.replicate_succ,Array.replicate_zero,List.push_toArray,List.append_toArray,List.nil_append,List.cons_append]
 gi_wp2
 refine ⟨trivial,(callsIn_wide.2 (zyj _ _ _ _)).mono ?_⟩
 rintro e w' ⟨rfl,rfl⟩
 gi_wp2
 obtain ⟨W1,hW1⟩:∃ W1,((w.alloc (Obj.cells #[Value.pointer (some pc)] 106)).alloc (Obj.cells #[Value.slice b ks.length cap] 64))=W1:=⟨_,rfl⟩
 rw [hW1]
 have hs1:W1.heap.size=w.heap.size+2:=by rw [← hW1]; simp
 have hold:∀ b,b<w.heap.size→W1.heap[b]? = w.heap[b]?:=fun b hb => by
  rw [← hW1]
  exact (Below.heap_alloc _ _ _ (by simp; omega)).trans (Below.heap_alloc _ _ _ hb)
 have hbox1:W1.heap[w.heap.size]? = some (.cells #[Value.pointer (some pc)] 106 (0,0)):=by
  rw [← hW1]
  exact (Below.heap_alloc _ _ _ (by simp)).trans (World.alloc_heap_new w _)
 have hbox2:W1.heap[w.heap.size+1]? = some (.cells #[Value.slice b ks.length cap] 64 (0,0)):=by
  rw [← hW1]
  have:=World.alloc_heap_new (w.alloc (Obj.cells #[Value.pointer (some pc)] 106)) (Obj.cells #[Value.slice b ks.length cap] 64)
  rwa [World.size_alloc] at this
 have hwx:WX w W1:=by rw [← hW1]; exact ⟨rfl,rfl,rfl⟩
 have kc1:KeepCells w.heap W1.heap:=fun b C T fr hb => (hold b (Array.getElem?_eq_some_iff.1 hb).1).trans hb
 refine wpIn_rangeFunc_ownF (encs:=fun x:Int×Int => #[.int .i64 x.1,.int .u8 x.2]) (Kp:=fun X Y => ∀ b,(b=w.heap.size+1∨F b)→Y.heap[b]? = X.heap[b]?) (S:=fun xs => xs=backL ks 0) (Sp:=fun _ => True)
  (N:=ks.length) (w0:=W1) rfl (by omega) (gf:=103) (lb:=#[.pointer (some ⟨w.heap.size+1,0,none⟩)]) rfl trivial (enters_of Tryz.func103 (by kernel_rfl) rfl) ?seq (fun h k b hb => (k b hb).trans (h b hb)) ?kb (Below.refl _ _) (fun _ => rfl)
  (TI E w β V F n (.pointer (some pc)) J) (fun _ _ _ => False) ?own (fun _ _ _ _ _ h => h.elim) ?h0
  (fun x => { tmps:=#[Value.pointer (some pc),Value.slice b ks.length cap,Value.pointer (some { block:=w.heap.size,off:=0 }),undef,undef,.int .u8 x.2,Value.slice b ks.length cap,
   Value.func (Fn.func 103) #[] #[Value.pointer (some { block:=w.heap.size+1,off:=0 })],.int .i64 x.1,.int .u8 x.2,undef,undef,undef],defers:=[] }) ?assign ?body ?done (fun _ _ _ _ _ _ h => h.elim)
 case seq => 
  intro l J' Jx W hW hJ hJx hY hJ0
  have hbx:W.cell? ⟨w.heap.size+1,0,none⟩=some (.slice b ks.length cap):=by
   have:=hW.block (w.heap.size+1) (by omega)
   rw [hbox2] at this
   simp [World.cell?,this]
  rcases hb with ⟨A,rfl,hFA,hc⟩ | rfl
  ·have hAlt:A.block<w.heap.size:=R.fsz _ hFA
   refine (zyi (fun b => b=w.heap.size+1∨F b) ks A cap 9 (by omega) l (w.heap.size+1) (.inl rfl) (.inr hFA) J' Jx hk hY W hbx ?_ hJ0).mono ?_
   ·intro i hi
    have e1:=hW.block A.block (by omega)
    have:=hc i hi
    have eb:(A.add i).block=A.block:=by unfold Addr.add; split <;> rfl
    exact (World.cell?_of_block (by rw [eb]; exact e1.trans (hold _ hAlt))).trans this
   ·rintro e W' ⟨hv,h | ⟨pre,h⟩⟩
    ·exact ⟨hv,.inl ⟨_,rfl,h⟩⟩
    ·exact ⟨hv,.inr ⟨pre,trivial,h⟩⟩
  ·refine (zxH b cap 9 (by omega) l (w.heap.size+1) (J' []) W hbx hJ0).mono ?_
   rintro e W' ⟨hv,h⟩
   exact ⟨hv,.inl ⟨_,rfl,h⟩⟩
 case kb => 
  intro W l o o' hl ho h1 h2 b hb
  refine World.putObj_heap_other ?_
  rcases hb with rfl | hb
  ·omega
  ·have:=R.fsz _ hb; omega
 case own => rw [hs1]; exact TI.own R.gsz
 case h0 => 
  refine ⟨⟨h,n,β,V,F,h0,hrows _ _ _ h0,R.keep (hrows _ _ _ h0) kc1 (by omega) (fun b hb => hold b (Nat.lt_of_lt_of_le hb R.gsz)),(Ext.refl w.heap β V F).keep kc1 (by omega) hold,hwx,Nat.le_refl _,vb,fun κ h _ => h,fun κ b e he => ?_,hbox1,by omega⟩⟩
  have:=(R.lt κ b e he).2
  omega
 case assign => 
  intro l x W K hK
  have e0:((#[8,9]:Array Nat).zip (#[.int .i64 x.1,.int .u8 x.2]:Array Value)).foldl (fun t (p,v) => t.setIfInBounds p v) #[Value.pointer (some pc),Value.slice b ks.length cap,Value.pointer (some { block:=w.heap.size,off:=0 }),undef,undef,undef,Value.slice b ks.length cap,
   Value.func (Fn.func 103) #[] #[Value.pointer (some { block:=w.heap.size+1,off:=0 })],undef,undef,undef,undef,undef] = #[Value.pointer (some pc),Value.slice b ks.length cap,Value.pointer (some { block:=w.heap.size,off:=0 }),undef,undef,undef,Value.slice b ks.length cap,
   Value.func (Fn.func 103) #[] #[Value.pointer (some { block:=w.heap.size+1,off:=0 })],.int .i64 x.1,.int .u8 x.2,undef,undef,undef]:=by simp
  simp only [e0]
  gi_wp2
  exact hK
 case body => 
  intro l pre x W hI hlen
  obtain ⟨h',n',β',V',F',k1,k2,k3,k4,k5,k6,k7,k8,k9,k10,k11⟩:=hI
  have hcell:W.cell? ⟨w.heap.size,0,none⟩=some (.pointer (some pc)):=by simp [World.cell?,k10]
  gi_wp2
  have hx:(pre.map (·.2)).length<ks.length:=by simpa using hlen
  have rc':RV E W.heap β' V' F' c (.pointer (some pc)):=rc.mono R.fsz k4
  have hcall:=(hstep _ x.2 h' n' k1 hx).2 W β' V' F' #[.pointer (some pc),.int .u8 x.2] k3 k7 rfl (fun i hi => by
   match i with
   | 0 => exact rc'
   | 1 => exact .fz (.int _ _))
  refine ⟨trivial,CallsIn.inRound l ((callsIn_wide (n:=7)).2 (hcall.mono ?_))⟩
  rintro e W' ⟨v,β2,V2,F2,r,h2,n2,rfl,q1,q2,q3,q4,q5,q6,q7,q8⟩
  have nb:∀ b,b<W.heap.size→(∀ κ e,β' κ≠some (b,e))→W'.heap[b]? = W.heap[b]?:=q3.out
  have ncell:∀ b (o:Obj),W.heap[b]? = some o→o.isCells=false→W'.heap[b]? = some o:=fun b o ho hoc => by
   rw [nb b (Array.getElem?_eq_some_iff.1 ho).1 (fun κ e he => by
    obtain ⟨C,T,hC⟩:=k3.cells k2 he
    rw [ho] at hC; cases hC; cases hoc)]
   exact ho
  gi_wp2
  refine ⟨⟨q3.size,ncell⟩,fun b hb => ?_,⟨h2,n2,β2,V2,F2,?_,hrows _ _ _ q8,q2,k4.trans q3,k5.trans q4,Nat.le_trans k6 q5,q6,fun κ a1 a2 => k8 κ (q7 κ a1 (by omega)) a2,fun κ b e he => ?_,?_,Nat.le_trans k11 q3.size⟩⟩
  ·rcases hb with rfl | hb
   ·exact nb _ (by omega) (fun κ e he => (k9 κ _ e he).2 rfl)
   ·exact q3.fr _ (k4.fmono _ hb) (by have:=R.fsz _ hb; omega)
  ·rw [List.map_append]; exact q8
  ·rcases q3.img κ b e he with ⟨κ',e',h⟩ | h
   ·exact k9 κ' b e' h
   ·omega
  ·rw [nb _ (by omega) (fun κ e he => (k9 κ _ e he).1 rfl)]; exact k10
 case done => 
  intro D xs W hD hS hI hdef
  subst hS
  simp only [Exit.inBlock]
  obtain ⟨h',n',β',V',F',k1,k2,k3,k4,k5,k6,k7,k8,k9,k10,k11⟩:=TI.own (J:=J) (v0:=.pointer (some pc)) (n:=n) R.gsz _ _ _ (some D) hI (grownBy_putObj' W D (.deferred none)) (fun r e => by cases e; exact ⟨by omega,_,hdef,rfl⟩)
  show LeavesInM _ _ _ _ _ _ _ _ _
  refine ⟨by simp,.inl ⟨D,_,rfl,run_takeDeferred hdef,?_⟩⟩
  refine ⟨_,results_none rfl _ _ _,?_⟩
  refine ⟨_,β',V',F',.undef,h',n',rfl,.fz (.undef _),k3,k4,k5,k6,k7,k8,?_⟩
  rw [← zxG]; exact k1
end Go.Proofs.YtablleokoifolaaGreatDoor
set_option linter.unusedVariables false
set_option linter.unusedSimpArgs false
namespace Go.Proofs.YtablleokoifolaaGreatDoor
open Go Go.RowKit
def u8s (l:List Int):AV:=.slv (l.map fun x => [.int .u8 x])
theorem fnOk_takes:FnOk E 84:=⟨Tryz.f92,Tryz.func92,by kernel_rfl,by kernel_rfl⟩
theorem zyg {h:Hp} {n κ i o:Nat} (ks:List Int) (hk:ks.length<4611686018427387904) (J:List Int→Hp→Nat→Prop) (hrows:∀ pre h n,J pre h n→AllRows h) (h0:J [] h n)
  (hstep:∀ pre x h n,J pre h n→pre.length<ks.length→ACallS E 40 [.ptr κ i o,.int .u8 x] h n (fun _ h' n' => J (pre++[x]) h' n'))
  (a:AV) (ha:a=u8s ks∨(a=.nils∧ks=[])):ACallS E 84 [.ptr κ i o,a] h n (fun _ h' n' => J ks.reverse h' n'):=by
 refine ⟨fnOk_takes,fun w β V F vs R vb hl hrv => ?_⟩
 have r0:=hrv 0 (by simp)
 have r1:=hrv 1 (by simp)
 obtain ⟨v,u,rfl⟩:∃ v u,vs = #[v,u]:=by
  match vs,hl with
  | ⟨[v,u]⟩,_ => exact ⟨v,u,rfl⟩
 have e0:(#[v,u]:Array Value).getD 0 Go.undef=v:=rfl
 have e1:(#[v,u]:Array Value).getD 1 Go.undef=u:=rfl
 rw [e0] at r0
 rw [e1] at r1
 simp only [List.getD_cons_zero,List.getD_cons_succ] at r0 r1
 obtain ⟨pc,rfl⟩:=zvB r0
 have key:∃ (b:Option Addr) (cap:Nat),u=.slice b ks.length cap∧((∃ A,b=some A∧F A.block∧∀ i,i<ks.length→w.cell? (A.add i)=some (.int .u8 (ks.getD i 0)))∨ks=[]):=by
  rcases ha with rfl | ⟨rfl,rfl⟩
  ·unfold u8s at r1
   generalize hes:(ks.map fun x => [AV.int .u8 x])=es at r1
   have hlen:es.length=ks.length:=by rw [← hes]; simp
   cases r1 with
   | fz r => 
    cases r with
    | slv0 a cap => 
     have:ks=[]:=List.length_eq_zero_iff.1 (by rw [← hlen]; rfl)
     subst this
     exact ⟨a,cap,rfl,.inr rfl⟩
    | slv _ b off cap esz C T fr hF hb hs hcap hlr hkc hc => 
     refine ⟨some ⟨b,off,none⟩,cap,by rw [hlen],.inl ⟨_,rfl,hF,fun i hi => ?_⟩⟩
     have hi':i<es.length:=by omega
     have eg:es.getD i []=[AV.int .u8 (ks.getD i 0)]:=by
      rw [← hes]; simp [List.getD_eq_getElem?_getD,hi]
     have hesz:esz=1:=by
      have:=hlr i hi'
      rw [eg] at this; simpa using this.symm
     subst hesz
     have hcc:=hc i 0 hi' (by omega)
     rw [eg] at hcc
     simp only [List.getD_cons_zero,Nat.mul_one,Nat.add_zero] at hcc
     rw [zcE]
     have hsz:off+i<C.size:=by omega
     have hcell:w.cell? ⟨b,off+i,none⟩=some (C.getD (off+i) Go.undef):=zmX hb hsz
     rw [hcell]
     generalize C.getD (off+i) Go.undef=z at hcc
     cases hcc; rfl
  ·cases r1 with
   | fz r => cases r; exact ⟨none,0,rfl,.inr rfl⟩
 obtain ⟨b,cap,rfl,hb⟩:=key
 exact zxl ks hk J hrows h0 hstep w β V F R vb pc r0 b cap hb
end Go.Proofs.YtablleokoifolaaGreatDoor
set_option linter.unusedVariables false
set_option linter.unusedSimpArgs false
set_option maxRecDepth 100000
namespace Go.Proofs.YtablleokoifolaaGreatDoor
open Go
def okT (c:Checker):Prop:=1≤c.frames.length∧c.frames.length<4611686018427387904∧c.stack.length<4611686018427387904 ∧
 0≤(c.frames.getD (c.frames.length - 1) default).height∧(c.frames.getD (c.frames.length - 1) default).height≤(c.stack.length:Int)
instance (c:Checker):Decidable (okT c):=by unfold okT; infer_instance
def takeT (c:Checker) (x:Int):Checker:=((zac c x).getD (0,c)).2
theorem zax {α:Type} {p:Prop} [Decidable p] {e:Option α} (h:p):gd p e=e:=by unfold gd; rw [if_pos h]
theorem okT_of {c c':Checker} (ok:okT c) (hf:c'.frames=c.frames) (h1:c'.stack.length≤c.stack.length) (h2:(c.frames.getD (c.frames.length - 1) default).height≤(c'.stack.length:Int)):okT c':=by
 obtain ⟨a,b,d,e,f⟩:=ok
 unfold okT
 rw [hf]
 exact ⟨a,b,by omega,e,h2⟩
theorem zvy {c:Checker} (ok:okT c) (x:Int):∃ v,zac c x=some (v,takeT c x)∧okT (takeT c x)∧(takeT c x).frames=c.frames:=by
 have key:∃ v c',zac c x=some (v,c')∧okT c'∧c'.frames=c.frames:=by
  have ok0:=ok
  obtain ⟨a,b,d,e,f⟩:=ok
  have w1:wI ((c.frames.length:Int) - 1)=(c.frames.length:Int) - 1:=wI_small (by omega) (by omega)
  have t1:((c.frames.length:Int) - 1).toNat=c.frames.length - 1:=by omega
  unfold zac
  rw [w1,t1,zax (by omega)]
  split
  ·exact ⟨_,_,rfl,ok0,rfl⟩
  ·split
   ·split
    ·exact ⟨_,_,rfl,okT_of ok0 rfl (Nat.le_refl _) f,rfl⟩
    ·exact ⟨_,_,rfl,okT_of ok0 rfl (Nat.le_refl _) f,rfl⟩
   ·rename_i hne
    have hne':¬ ((c.stack.length:Int)=(c.frames.getD (c.frames.length - 1) default).height):=by simpa using hne
    have w2:wI ((c.stack.length:Int) - 1)=(c.stack.length:Int) - 1:=wI_small (by omega) (by omega)
    rw [w2,zax (by omega),zax (by omega)]
    have hl:(List.take ((c.stack.length:Int) - 1).toNat c.stack).length=c.stack.length - 1:=by rw [List.length_take]; omega
    split
    ·simp only [Option.bind_some]
     split
     ·exact ⟨_,_,rfl,okT_of ok0 rfl (by simp only [hl]; omega) (by simp only [hl]; omega),rfl⟩
     ·exact ⟨_,_,rfl,okT_of ok0 rfl (by simp only [hl]; omega) (by simp only [hl]; omega),rfl⟩
    ·simp only [Option.bind_some]
     split
     ·exact ⟨_,_,rfl,okT_of ok0 rfl (by simp only [hl]; omega) (by simp only [hl]; omega),rfl⟩
     ·exact ⟨_,_,rfl,okT_of ok0 rfl (by simp only [hl]; omega) (by simp only [hl]; omega),rfl⟩
 obtain ⟨v,c',h1,h2,h3⟩:=key
 have e:takeT c x=c':=by unfold takeT; rw [h1]; rfl
 rw [e]
 exact ⟨v,h1,h2,h3⟩
theorem foldT_ok {c:Checker} (ok:okT c) (l:List Int):okT (l.foldl takeT c):=by
 induction l generalizing c with
 | nil => exact ok
 | cons x l ih => exact ih (zvy ok x).choose_spec.2.1
def zch (c:Checker) (l:List Int):Option Checker:=gd (okT c∧l.length<4611686018427387904) (some (l.reverse.foldl takeT c))
structure TkI (c:Checker) (ρ:Rho) (h:Hp) (n:Nat) (pre:List Int) (h':Hp) (n':Nat):Prop where
 ex:∃ ρ',(∀ k o,lkO (zaa (pre.foldl takeT c)) k=some o→RO ρ' h' k o) ∧
  (∀ k k' κ,(lkO (zaa (pre.foldl takeT c)) k).isSome=true→(lkO (zaa (pre.foldl takeT c)) k').isSome=true→ρ' k=some κ→ρ' k'=some κ→k=k') ∧
  (∀ k κ,(lkO (zaa (pre.foldl takeT c)) k).isSome=true→ρ' k=some κ→κ<n') ∧
  (∀ k κ,(lkO (zaa (pre.foldl takeT c)) k).isSome=true→ρ' k=some κ→(∃ k0,(lkO (zaa c) k0).isSome=true∧ρ k0=some κ)∨n≤κ)∧ρ' 1000=ρ 1000
 fr:∀ κ,κ<n→(∀ k,(lkO (zaa c) k).isSome=true→ρ k≠some κ)→h' κ=h κ
 le:n≤n'
 rows:AllR h'
theorem zks (p0:Checker) (p1:List Int) (r:Checker) (H:zch p0 p1=some r) :
  CM E 84 [.p 1000 0,.d (sV (eI .u8) p1)] (zaa p0) [] [1000] (fun a b => a=.undef∧b=zaa r):=by
 obtain ⟨⟨ok,hlen⟩,H⟩:=zaf H
 obtain rfl:=Option.some.inj H
 intro ρ h n al hO hinj hlt hr hrows
 obtain ⟨a0,a1,rfl⟩:∃ a0 a1,al=[a0,a1]:=by
  have hl:al.length=2:=hr.1
  match al,hl with
  | [a,b],_ => exact ⟨a,b,rfl⟩
 have r0:=hr.2 0 (by simp)
 have r1:=hr.2 1 (by simp)
 simp only [List.getD_cons_zero,List.getD_cons_succ] at r0 r1
 obtain ⟨κ,hκ,rfl⟩:∃ κ,ρ 1000=some κ∧a0=.ptr κ 0 0:=by
  cases r0 with
  | p k o κ h => exact ⟨κ,h,rfl⟩
 have ha:a1=u8s p1∨(a1=.nils∧p1=[]):=by
  have r1:=rl_d r1
  generalize hv:sV (eI .u8) p1=v at r1
  cases r1 with
  | c v hh => 
   left
   rw [← hv]
   simp only [sV,toA,u8s,AV.slv.injEq]
   apply List.ext_getElem
   ·simp
   ·intro i h1 h2
    have hi:i<p1.length:=by simpa using h2
    simp [fl,eI,toAL,toA,List.getD_eq_getElem?_getD,hi]
  | sv0 f => 
   right
   unfold sV at hv
   injection hv with e1 e2
   exact ⟨rfl,List.length_eq_zero_iff.1 e1⟩
  | nils => cases hv
  | func => cases hv
  | iface => cases hv
  | agg => cases hv
  | tup => cases hv
 refine (zyg p1 hlen (TkI p0 ρ h n) (fun pre h n j => j.rows) ⟨⟨ρ,hO,hinj,hlt,fun k κ a b => .inl ⟨k,a,b⟩,rfl⟩,fun _ _ _ => rfl,Nat.le_refl _,hrows⟩ ?_ a1 ha).mono ?_
 ·intro pre x h1 n1 hJ _
  obtain ⟨⟨ρ1,j1,j2,j3,j4,j5⟩,j6,j7,j8⟩:=hJ
  obtain ⟨v,t1,t2,t3⟩:=zvy (foldT_ok ok pre) x
  have hc:=zak _ _ _ t1 ρ1 h1 n1 [.ptr κ 0 0,.int .u8 x] j1 j2 j3 ⟨rfl,fun i hi => by
   match i with
   | 0 => exact .p _ _ _ (j5.trans hκ)
   | 1 => exact .d _ _ (.c _ rfl)⟩ j8
  refine hc.mono ?_
  rintro r h2 n2 ⟨⟨lv,H',ρ2,⟨e1,e2⟩,q1,q2,q3,q4,q5,q6,q7,q8⟩,q9,q10,q11⟩
  subst e2
  have ef:(pre++[x]).foldl takeT p0=takeT (pre.foldl takeT p0) x:=by rw [List.foldl_append]; rfl
  refine ⟨⟨ρ2,?_,?_,?_,?_,(q8 1000 (by simp)).trans j5⟩,fun κ' hκ' hno => ?_,Nat.le_trans j7 q10,q11⟩
  ·rw [ef]; exact q4
  ·rw [ef]; exact q5
  ·rw [ef]; exact q6
  ·rw [ef]
   intro k κ' hk he
   rcases q7 k κ' hk he with ⟨k0,i1,i2⟩ | i
   ·exact j4 k0 κ' i1 i2
   ·exact .inr (by omega)
  ·rw [← j6 κ' hκ' hno]
   refine q9 κ' (by omega) fun k hk he => ?_
   rcases j4 k κ' hk he with ⟨k0,i1,i2⟩ | i
   ·exact hno k0 i1 i2
   ·omega
 ·rintro r h2 n2 ⟨⟨ρ2,q4,q5,q6,q7,q8⟩,q9,q10,q11⟩
  exact ⟨⟨.undef,_,ρ2,⟨rfl,rfl⟩,rfl,rfl,.undef _,q4,q5,q6,q7,fun k hk => by
   obtain rfl:k=1000:=by simpa using hk
   exact q8⟩,q9,q10,q11⟩
end Go.Proofs.YtablleokoifolaaGreatDoor
set_option linter.unusedVariables false
set_option maxRecDepth 100000
set_option maxHeartbeats 4000000
namespace Go.Proofs.YtablleokoifolaaGreatDoor
open Go
def zar (p0:Checker):Option (Checker):=gd (0≤(wI ((p0.frames.length:Int) - 1))∧(wI ((p0.frames.length:Int) - 1))<(p0.frames.length:Int)) (gd (0≤(0:Int)∧0≤((p0.frames.getD ((wI ((p0.frames.length:Int) - 1)).toNat) default).height)∧((p0.frames.getD ((wI ((p0.frames.length:Int) - 1)).toNat) default).height)≤(p0.stack.length:Int)) (some (Checker.mk p0.m p0.t p0.locals (List.take (((p0.frames.getD ((wI ((p0.frames.length:Int) - 1)).toNat) default).height).toNat) p0.stack) (List.set p0.frames ((wI ((p0.frames.length:Int) - 1)).toNat) (Frame.mk ((p0.frames.getD ((wI ((p0.frames.length:Int) - 1)).toNat) default).height) true ((p0.frames.getD ((wI ((p0.frames.length:Int) - 1)).toNat) default).dead))) p0.labels p0.most p0.bad)))
theorem zcj (p0:Checker) (r:Checker) (H:zar p0=some r):CM E 69 [.p 1000 0] (zaa p0) [] [1000] (fun a b => a=(.tup []:LV)∧b=zaa r):=by
 refine zkr (A:=zdh) zeS fun fr => ?_
 unfold zar at H
 refine AW2.seq ?_
 obtain ⟨h1,H⟩:=zaf H
 refine r_ [] [0,2] [] [.k 1000,.k 1001,.k 1002,.k 1003] ⟨[(0,.p 1000 0),(2,.ep 1002 ((wI ((p0.frames.length:Int) - 1)).toNat) 0)],zaa p0⟩ (a_ (a_ h1 (a_ (ixN h1) t_)) t_) ?_
 refine AW2.seq ?_
 obtain ⟨h2,H⟩:=zaf H
 refine r_ [.s true (List.take (((p0.frames.getD ((wI ((p0.frames.length:Int) - 1)).toNat) default).height).toNat) p0.stack).length (fl (eI .u8) (List.take (((p0.frames.getD ((wI ((p0.frames.length:Int) - 1)).toNat) default).height).toNat) p0.stack))] [2] [] [.k 1000,.sl 1001 (List.take (((p0.frames.getD ((wI ((p0.frames.length:Int) - 1)).toNat) default).height).toNat) p0.stack).length (fl (eI .u8) (List.take (((p0.frames.getD ((wI ((p0.frames.length:Int) - 1)).toNat) default).height).toNat) p0.stack)),.k 1002,.k 1003] ⟨[(2,.ep 1002 ((wI ((p0.frames.length:Int) - 1)).toNat) 0)],zaa (Checker.mk p0.m p0.t p0.locals (List.take (((p0.frames.getD ((wI ((p0.frames.length:Int) - 1)).toNat) default).height).toNat) p0.stack) p0.frames p0.labels p0.most p0.bad)⟩ (a_ (a_ (ixN h1) (a_ h2 (a_ (takeN h2) t_))) (a_ (takeL p0.stack (((p0.frames.getD ((wI ((p0.frames.length:Int) - 1)).toNat) default).height).toNat)) (a_ (takeF (eI .u8) p0.stack (((p0.frames.getD ((wI ((p0.frames.length:Int) - 1)).toNat) default).height).toNat)) t_))) ?_
 refine r_ [.s true 0 (fl eFrame (List.set p0.frames ((wI ((p0.frames.length:Int) - 1)).toNat) (Frame.mk ((p0.frames.getD ((wI ((p0.frames.length:Int) - 1)).toNat) default).height) true ((p0.frames.getD ((wI ((p0.frames.length:Int) - 1)).toNat) default).dead))))] [] [] [.st 1000 [(12,.ls 1002 0 (List.set p0.frames ((wI ((p0.frames.length:Int) - 1)).toNat) (Frame.mk ((p0.frames.getD ((wI ((p0.frames.length:Int) - 1)).toNat) default).height) true ((p0.frames.getD ((wI ((p0.frames.length:Int) - 1)).toNat) default).dead))).length)],.k 1001,.sl 1002 (List.set p0.frames ((wI ((p0.frames.length:Int) - 1)).toNat) (Frame.mk ((p0.frames.getD ((wI ((p0.frames.length:Int) - 1)).toNat) default).height) true ((p0.frames.getD ((wI ((p0.frames.length:Int) - 1)).toNat) default).dead))).length (fl eFrame (List.set p0.frames ((wI ((p0.frames.length:Int) - 1)).toNat) (Frame.mk ((p0.frames.getD ((wI ((p0.frames.length:Int) - 1)).toNat) default).height) true ((p0.frames.getD ((wI ((p0.frames.length:Int) - 1)).toNat) default).dead)))),.k 1003] ⟨[],zaa (Checker.mk p0.m p0.t p0.locals (List.take (((p0.frames.getD ((wI ((p0.frames.length:Int) - 1)).toNat) default).height).toNat) p0.stack) (List.set p0.frames ((wI ((p0.frames.length:Int) - 1)).toNat) (Frame.mk ((p0.frames.getD ((wI ((p0.frames.length:Int) - 1)).toNat) default).height) true ((p0.frames.getD ((wI ((p0.frames.length:Int) - 1)).toNat) default).dead))) p0.labels p0.most p0.bad)⟩ (a_ (a_ (ixN h1) (a_ (setF eFrame p0.frames ((wI ((p0.frames.length:Int) - 1)).toNat) (Frame.mk ((p0.frames.getD ((wI ((p0.frames.length:Int) - 1)).toNat) default).height) true ((p0.frames.getD ((wI ((p0.frames.length:Int) - 1)).toNat) default).dead)) _ rfl) t_)) (a_ (setEq p0.frames ((wI ((p0.frames.length:Int) - 1)).toNat) (Frame.mk ((p0.frames.getD ((wI ((p0.frames.length:Int) - 1)).toNat) default).height) true ((p0.frames.getD ((wI ((p0.frames.length:Int) - 1)).toNat) default).dead))) (a_ (setLe p0.frames ((wI ((p0.frames.length:Int) - 1)).toNat) (Frame.mk ((p0.frames.getD ((wI ((p0.frames.length:Int) - 1)).toNat) default).height) true ((p0.frames.getD ((wI ((p0.frames.length:Int) - 1)).toNat) default).dead))) (a_ (refF (fl eFrame (List.set p0.frames ((wI ((p0.frames.length:Int) - 1)).toNat) (Frame.mk ((p0.frames.getD ((wI ((p0.frames.length:Int) - 1)).toNat) default).height) true ((p0.frames.getD ((wI ((p0.frames.length:Int) - 1)).toNat) default).dead)))) (List.set p0.frames ((wI ((p0.frames.length:Int) - 1)).toNat) (Frame.mk ((p0.frames.getD ((wI ((p0.frames.length:Int) - 1)).toNat) default).height) true ((p0.frames.getD ((wI ((p0.frames.length:Int) - 1)).toNat) default).dead))).length) t_)))) ?_
 have H:=Option.some.inj H
 subst H
 exact retS_mkn3 [] [.k 1000,.k 1001,.k 1002,.k 1003] t_ (by kernel_rfl) (by kernel_rfl)
def zag (p0:Checker) (p1:Int):Option (Checker):=(if (p1==(0:Int))=true then some p0 else gd ((p0.stack.length+1) * 1≤140737488355328) (gd (0≤(wI ((p0.frames.length:Int) - 1))∧(wI ((p0.frames.length:Int) - 1))<(p0.frames.length:Int)) (if ((!((p0.frames.getD ((wI ((p0.frames.length:Int) - 1)).toNat) default).away))&&(!((p0.frames.getD ((wI ((p0.frames.length:Int) - 1)).toNat) default).dead)))=true then some (Checker.mk p0.m p0.t p0.locals (p0.stack++([p1]:List Int)) p0.frames p0.labels (mxI p0.most ((p0.stack++([p1]:List Int)).length:Int)) p0.bad) else some (Checker.mk p0.m p0.t p0.locals (p0.stack++([p1]:List Int)) p0.frames p0.labels p0.most p0.bad))))
theorem zaY (p0:Checker) (p1:Int) (r:Checker) (H:zag p0 p1=some r):CM E 71 [.p 1000 0,.d (.int .u8 p1)] (zaa p0) [] [1000] (fun a b => a=(.tup []:LV)∧b=zaa r):=by
 refine zkr (A:=zel) zff fun fr => ?_
 unfold zag at H
 refine AW2.seq ?_
 refine AW2.seq ?_
 refine r_ [] [0,1,6] [] [.k 1000,.k 1001,.k 1002,.k 1003] ⟨[(0,.p 1000 0),(1,.d (.int .u8 p1)),(6,.d (.bool (p1==(0:Int))))],zaa p0⟩ (a_ t_ t_) ?_
 refine AW2.cond (b:=(p1==(0:Int))) rfl (fun hc => ?_) (fun hc => ?_)
 ·replace H:=zao H hc
  refine AW2.ret ?_
  have H:=Option.some.inj H
  subst H
  exact retS_mk3 [] [.k 1000,.k 1001,.k 1002,.k 1003] t_ (by kernel_rfl) (by kernel_rfl)
 ·replace H:=zap H hc
  refine AW2.skip ?_
  refine AW2.seq ?_
  obtain ⟨h1,H⟩:=zaf H
  refine r_ [.sb ([p1]:List Int).length (fl (eI .u8) ([p1]:List Int)),.s true (p0.stack++([p1]:List Int)).length (fl (eI .u8) (p0.stack++([p1]:List Int)))] [0] [] [.k 1000,.k 1001,.k 1002,.k 1003] ⟨[(0,.p 1000 0)],zaa (Checker.mk p0.m p0.t p0.locals (p0.stack++([p1]:List Int)) p0.frames p0.labels p0.most p0.bad)⟩ (a_ (a_ (litF (eI .u8) ([p1]:List Int)) (a_ (Nat.le_refl p0.stack.length) (a_ h1 (a_ (app1 (eI .u8) p0.stack p1 (fl (eI .u8) ([p1]:List Int)) rfl) t_)))) t_) ?_
  refine AW2.seq ?_
  obtain ⟨h2,H⟩:=zaf H
  refine r_ [.k 4] [0,4] [] [.k 4,.k 1000,.k 1001,.k 1002,.k 1003] ⟨[(0,.p 1000 0),(4,.p 4 0)],[(4,.st false (eD (eFrame (p0.frames.getD ((wI ((p0.frames.length:Int) - 1)).toNat) default))))]++zaa (Checker.mk p0.m p0.t p0.locals (p0.stack++([p1]:List Int)) p0.frames p0.labels p0.most p0.bad)⟩ (a_ (a_ h2 (a_ (ixN h2) (a_ (ixN h2) t_))) t_) ?_
  refine AW2.seq ?_
  refine AW2.reg [] rfl (YW.to ⟨[(0,.p 1000 0),(36,.d (.bool ((!((p0.frames.getD ((wI ((p0.frames.length:Int) - 1)).toNat) default).away))&&(!((p0.frames.getD ((wI ((p0.frames.length:Int) - 1)).toNat) default).dead)))))],zaa (Checker.mk p0.m p0.t p0.locals (p0.stack++([p1]:List Int)) p0.frames p0.labels p0.most p0.bad)⟩ ?qh3 ?h3)
  case h3 => 
   rcases bT (!((p0.frames.getD ((wI ((p0.frames.length:Int) - 1)).toNat) default).away)) with hc1 | hc1
   ·exact YW.fin [(32,true)] [] [0,36] [(36,.d (.bool ((!((p0.frames.getD ((wI ((p0.frames.length:Int) - 1)).toNat) default).away))&&(!((p0.frames.getD ((wI ((p0.frames.length:Int) - 1)).toNat) default).dead)))))] [.k 1000,.k 1001,.k 1002,.k 1003] _ (a_ (a_ hc1 (a_ hc1 (a_ hc1 (a_ hc1 t_)))) (a_ (ovB (Eq.trans (andT (b:=(!((p0.frames.getD ((wI ((p0.frames.length:Int) - 1)).toNat) default).dead))) hc1) (Eq.refl (!((p0.frames.getD ((wI ((p0.frames.length:Int) - 1)).toNat) default).dead))))) t_)) (by kernel_rfl) rfl
   ·exact YW.fin [(32,false)] [] [0,36] [(36,.d (.bool ((!((p0.frames.getD ((wI ((p0.frames.length:Int) - 1)).toNat) default).away))&&(!((p0.frames.getD ((wI ((p0.frames.length:Int) - 1)).toNat) default).dead)))))] [.k 1000,.k 1001,.k 1002,.k 1003] _ (a_ (a_ hc1 (a_ hc1 (a_ hc1 (a_ hc1 t_)))) (a_ (ovB (andF (b:=(!((p0.frames.getD ((wI ((p0.frames.length:Int) - 1)).toNat) default).dead))) hc1)) t_)) (by kernel_rfl) rfl
  refine AW2.cond (b:=((!((p0.frames.getD ((wI ((p0.frames.length:Int) - 1)).toNat) default).away))&&(!((p0.frames.getD ((wI ((p0.frames.length:Int) - 1)).toNat) default).dead)))) rfl (fun hc => ?_) (fun hc => ?_)
  ·replace H:=zao H hc
   refine r_ [] [] [] [.k 1000,.k 1001,.k 1002,.k 1003] ⟨[],zaa (Checker.mk p0.m p0.t p0.locals (p0.stack++([p1]:List Int)) p0.frames p0.labels (mxI p0.most ((p0.stack++([p1]:List Int)).length:Int)) p0.bad)⟩ (a_ t_ t_) ?_
   have H:=Option.some.inj H
   subst H
   exact retS_mkn3 [] [.k 1000,.k 1001,.k 1002,.k 1003] t_ (by kernel_rfl) (by kernel_rfl)
  ·replace H:=zap H hc
   refine AW2.skip ?_
   have H:=Option.some.inj H
   subst H
   exact retS_mkn3 [] [.k 1000,.k 1001,.k 1002,.k 1003] t_ (by kernel_rfl) (by kernel_rfl)
def zay (p0:Checker) (p1:Int):Option (Int×Checker):=(if ((decide (p1<(0:Int)))||(decide (p1≥(p0.labels.length:Int))))=true then some (0,(Checker.mk p0.m p0.t p0.locals p0.stack p0.frames p0.labels p0.most true)) else gd (0≤(wI ((wI ((p0.labels.length:Int) - 1)) - p1))∧(wI ((wI ((p0.labels.length:Int) - 1)) - p1))<(p0.labels.length:Int)) (some (p0.labels.getD ((wI ((wI ((p0.labels.length:Int) - 1)) - p1)).toNat) default,p0)))
theorem zck (p0:Checker) (p1:Int) (r:Int×Checker) (H:zay p0 p1=some r):CM E 72 [.p 1000 0,.d (.int .i64 p1)] (zaa p0) [] [1000] (fun a b => a=(.d (.int .u8 r.1):LV)∧b=zaa r.2):=by
 refine zkr (A:=zdi) zeT fun fr => ?_
 unfold zay at H
 refine AW2.seq ?_
 refine r_ [] [0,1] [] [.k 1000,.k 1001,.k 1002,.k 1003] ⟨[(0,.p 1000 0),(1,.d (.int .i64 p1))],zaa p0⟩ (a_ t_ t_) ?_
 refine AW2.seq ?_
 refine AW2.seq ?_
 refine AW2.reg [] rfl (YW.to ⟨[(0,.p 1000 0),(1,.d (.int .i64 p1)),(15,.d (.bool ((decide (p1<(0:Int)))||(decide (p1≥(p0.labels.length:Int))))))],zaa p0⟩ ?qh2 ?h2)
 case h2 => 
  rcases bT (decide (p1<(0:Int))) with hc1 | hc1
  ·exact YW.fin [(7,true)] [] [0,1,15] [(15,.d (.bool ((decide (p1<(0:Int)))||(decide (p1≥(p0.labels.length:Int))))))] [.k 1000,.k 1001,.k 1002,.k 1003] _ (a_ (a_ hc1 (a_ hc1 (a_ hc1 (a_ hc1 (a_ hc1 (a_ hc1 (a_ hc1 (a_ hc1 t_)))))))) (a_ (ovB (orT (b:=(decide (p1≥(p0.labels.length:Int)))) hc1)) t_)) (by kernel_rfl) rfl
  ·exact YW.fin [(7,false)] [] [0,1,15] [(15,.d (.bool ((decide (p1<(0:Int)))||(decide (p1≥(p0.labels.length:Int))))))] [.k 1000,.k 1001,.k 1002,.k 1003] _ (a_ (a_ hc1 (a_ hc1 (a_ hc1 (a_ hc1 (a_ hc1 (a_ hc1 (a_ hc1 (a_ hc1 t_)))))))) (a_ (ovB (Eq.trans (orF (b:=(decide (p1≥(p0.labels.length:Int)))) hc1) (Eq.refl (decide (p1≥(p0.labels.length:Int)))))) t_)) (by kernel_rfl) rfl
 refine AW2.cond (b:=((decide (p1<(0:Int)))||(decide (p1≥(p0.labels.length:Int))))) rfl (fun hc => ?_) (fun hc => ?_)
 ·replace H:=zao H hc
  refine AW2.seq ?_
  refine r_ [] [] [] [.k 1000,.k 1001,.k 1002,.k 1003] ⟨[],zaa (Checker.mk p0.m p0.t p0.locals p0.stack p0.frames p0.labels p0.most true)⟩ (a_ t_ t_) ?_
  refine AW2.seq ?_
  refine r_ [] [4] [] [.k 1000,.k 1001,.k 1002,.k 1003] ⟨[(4,.d (.int .u8 0))],zaa (Checker.mk p0.m p0.t p0.locals p0.stack p0.frames p0.labels p0.most true)⟩ (a_ t_ t_) ?_
  refine AW2.ret ?_
  have H:=Option.some.inj H
  subst H
  exact retS_mk3 [] [.k 1000,.k 1001,.k 1002,.k 1003] t_ (by kernel_rfl) (by kernel_rfl)
 ·replace H:=zap H hc
  refine AW2.skip ?_
  refine AW2.seq ?_
  obtain ⟨h1,H⟩:=zaf H
  refine r_ [] [4] [] [.k 1000,.k 1001,.k 1002,.k 1003] ⟨[(4,.d (.int .u8 (p0.labels.getD ((wI ((wI ((p0.labels.length:Int) - 1)) - p1)).toNat) default)))],zaa p0⟩ (a_ (a_ h1 (a_ (ixN h1) (a_ (ixN h1) t_))) t_) ?_
  refine AW2.ret ?_
  have H:=Option.some.inj H
  subst H
  exact retS_mk3 [] [.k 1000,.k 1001,.k 1002,.k 1003] t_ (by kernel_rfl) (by kernel_rfl)
def zaO:Nat→Instr→(Int×Checker)→Checker→Int→Option (Checker)
 | 0,_,_,_,_ => none
 | k+1,p1,x4,a13,a14 => (if (decide (a14<(p1.labels.length:Int)))=true then (gd (0≤a14∧a14<(p1.labels.length:Int)) ((zay a13 (wI (p1.labels.getD a14.toNat default))).bind fun x17 => (if (x17.1 != x4.1)=true then some (Checker.mk x17.2.m x17.2.t x17.2.locals x17.2.stack x17.2.frames x17.2.labels x17.2.most true) else some x17.2))).bind (fun j15 => zaO k p1 x4 j15 (wI (a14+1))) else some a13)
def zbL (K:Nat) (p0:Checker) (p1:Instr):Option (Checker):=((zac p0 127).bind fun x1 => (if (((p1.labels.length:Int)==(0:Int))||(decide ((p1.labels.length:Int)>(257:Int))))=true then some (Checker.mk x1.2.m x1.2.t x1.2.locals x1.2.stack x1.2.frames x1.2.labels x1.2.most true) else gd (0≤(wI ((p1.labels.length:Int) - 1))∧(wI ((p1.labels.length:Int) - 1))<(p1.labels.length:Int)) ((zay x1.2 (wI (p1.labels.getD (wI ((p1.labels.length:Int) - 1)).toNat default))).bind fun x4 => (zaO K p1 x4 x4.2 0).bind (fun j6 => ((zac j6 x4.1).bind fun x7 => ((zar x7.2).bind fun x9 => some x9))))))
theorem zkt (K:Nat) (p0:Checker) (p1:Instr) (r:Checker) (H:zbL K p0 p1=some r):CM E 73 [.p 1000 0,.agg (eD (eInstr p1))] (zaa p0) [] [1000] (fun a b => a=(.tup []:LV)∧b=zaa r):=by
 refine zkr (A:=zde) zeP fun fr => ?_
 unfold zbL at H
 refine AW2.seq ?_
 refine r_ [.k 3] [0,3] [] [.k 3,.k 1000,.k 1001,.k 1002,.k 1003] ⟨[(0,.p 1000 0),(3,.p 3 0)],[(3,.st false (eD (eInstr p1)))]++zaa p0⟩ (a_ t_ t_) ?_
 refine AW2.seq ?_
 obtain ⟨x1,hx2,H⟩:=bind_some H
 refine r_ [.c [1000,1001,1002,1003] [] [1000] (.d (.int .u8 x1.1)) (zaa x1.2)] [0,3] [] [.k 3,.k 1000,.k 1001,.k 1002,.k 1003] ⟨[(0,.p 1000 0),(3,.p 3 0)],[(3,.st false (eD (eInstr p1)))]++zaa x1.2⟩ (a_ (a_ (zak p0 127 x1 hx2) t_) t_) ?_
 refine AW2.seq ?_
 refine AW2.seq ?_
 refine AW2.reg [] rfl (YW.to ⟨[(0,.p 1000 0),(3,.p 3 0),(18,.d (.bool (((p1.labels.length:Int)==(0:Int))||(decide ((p1.labels.length:Int)>(257:Int))))))],[(3,.st false (eD (eInstr p1)))]++zaa x1.2⟩ ?qh23 ?h23)
 case h23 => 
  rcases bT ((p1.labels.length:Int)==(0:Int)) with hc1 | hc1
  ·exact YW.fin [(13,true)] [] [0,3,18] [(18,.d (.bool (((p1.labels.length:Int)==(0:Int))||(decide ((p1.labels.length:Int)>(257:Int))))))] [.k 3,.k 1000,.k 1001,.k 1002,.k 1003] _ (a_ (a_ hc1 (a_ hc1 (a_ hc1 (a_ hc1 (a_ hc1 t_))))) (a_ (ovB (orT (b:=(decide ((p1.labels.length:Int)>(257:Int)))) hc1)) t_)) (by kernel_rfl) rfl
  ·exact YW.fin [(13,false)] [] [0,3,18] [(18,.d (.bool (((p1.labels.length:Int)==(0:Int))||(decide ((p1.labels.length:Int)>(257:Int))))))] [.k 3,.k 1000,.k 1001,.k 1002,.k 1003] _ (a_ (a_ hc1 (a_ hc1 (a_ hc1 (a_ hc1 (a_ hc1 t_))))) (a_ (ovB (Eq.trans (orF (b:=(decide ((p1.labels.length:Int)>(257:Int)))) hc1) (Eq.refl (decide ((p1.labels.length:Int)>(257:Int)))))) t_)) (by kernel_rfl) rfl
 refine AW2.cond (b:=(((p1.labels.length:Int)==(0:Int))||(decide ((p1.labels.length:Int)>(257:Int))))) rfl (fun hc => ?_) (fun hc => ?_)
 ·replace H:=zao H hc
  refine AW2.seq ?_
  refine r_ [] [] [] [.k 1000,.k 1001,.k 1002,.k 1003] ⟨[],zaa (Checker.mk x1.2.m x1.2.t x1.2.locals x1.2.stack x1.2.frames x1.2.labels x1.2.most true)⟩ (a_ t_ t_) ?_
  refine AW2.ret ?_
  have H:=Option.some.inj H
  subst H
  exact retS_mk3 [] [.k 1000,.k 1001,.k 1002,.k 1003] t_ (by kernel_rfl) (by kernel_rfl)
 ·replace H:=zap H hc
  refine AW2.skip ?_
  refine AW2.seq ?_
  obtain ⟨h3,H⟩:=zaf H
  obtain ⟨x4,hx5,H⟩:=bind_some H
  refine r_ [.c [1000,1001,1002,1003] [] [1000] (.d (.int .u8 x4.1)) (zaa x4.2)] [0,3,4] [] [.k 3,.k 1000,.k 1001,.k 1002,.k 1003] ⟨[(0,.p 1000 0),(3,.p 3 0),(4,.d (.int .u8 x4.1))],[(3,.st false (eD (eInstr p1)))]++zaa x4.2⟩ (a_ (a_ h3 (a_ (zck x1.2 (wI (p1.labels.getD (wI ((p1.labels.length:Int) - 1)).toNat default)) x4 hx5) t_)) t_) ?_
  obtain ⟨j6,H22,H⟩:=bind_some H
  refine AW2.mid ⟨[(0,.p 1000 0),(4,.d (.int .u8 x4.1))],zaa j6⟩ ?_ ?_
  ·refine AW2.seq ?_
   obtain ⟨x7,hx8,H⟩:=bind_some H
   refine r_ [.c [1000,1001,1002,1003] [] [1000] (.d (.int .u8 x7.1)) (zaa x7.2)] [0] [] [.k 1000,.k 1001,.k 1002,.k 1003] ⟨[(0,.p 1000 0)],zaa x7.2⟩ (a_ (a_ (zak j6 x4.1 x7 hx8) t_) t_) ?_
   obtain ⟨x9,hx10,H⟩:=bind_some H
   refine r_ [.c [1000,1001,1002,1003] [] [1000] (.tup []) (zaa x9)] [] [] [.k 1000,.k 1001,.k 1002,.k 1003] ⟨[],zaa x9⟩ (a_ (a_ (zcj x7.2 x9 hx10) t_) t_) ?_
   have H:=Option.some.inj H
   subst H
   exact retS_mkn3 [] [.k 1000,.k 1001,.k 1002,.k 1003] t_ (by kernel_rfl) (by kernel_rfl)
  ·have H:=H22
   refine AW2.seq ?_
   refine r_ [] [0,4,34,35,36] [] [.k 1000,.k 1001,.k 1002,.k 1003] ⟨[(0,.p 1000 0),(4,.d (.int .u8 x4.1)),(34,.d (sV (eI .u32) p1.labels)),(35,.d (.int .i64 (p1.labels.length:Int))),(36,.d (.int .i64 0))],zaa x4.2⟩ (a_ t_ t_) ?_
   refine AW2.block ?_
   refine AW2.lp (σ:=Checker×Int) (fun v => ⟨[(0,.p 1000 0),(4,.d (.int .u8 x4.1)),(34,.d (sV (eI .u32) p1.labels)),(35,.d (.int .i64 (p1.labels.length:Int))),(36,.d (.int .i64 v.2))],zaa v.1⟩) (fun k v => zaO k p1 x4 v.1 v.2=some j6) ?_ K (x4.2,0) H
   rintro k ⟨a13,a14⟩ H
   dsimp only at H
   cases k with
   | zero => cases H
   | succ k => 
   unfold zaO at H
   refine AW2.seq ?_
   refine r_ [] [0,4,34,35,36,37] [] [.k 1000,.k 1001,.k 1002,.k 1003] ⟨[(0,.p 1000 0),(4,.d (.int .u8 x4.1)),(34,.d (sV (eI .u32) p1.labels)),(35,.d (.int .i64 (p1.labels.length:Int))),(36,.d (.int .i64 a14)),(37,.d (.bool (decide (a14<(p1.labels.length:Int)))))],zaa a13⟩ (a_ t_ t_) ?_
   refine AW2.seq ?_
   refine AW2.cond (b:=(decide (a14<(p1.labels.length:Int)))) rfl (fun hc => ?_) (fun hc => ?_)
   ·replace H:=zao H hc
    refine AW2.skip ?_
    obtain ⟨j15,H20,H⟩:=bind_some H
    refine AW2.mid ⟨[(0,.p 1000 0),(4,.d (.int .u8 x4.1)),(34,.d (sV (eI .u32) p1.labels)),(35,.d (.int .i64 (p1.labels.length:Int))),(36,.d (.int .i64 a14))],zaa j15⟩ ?_ ?_
    ·refine r_ [] [0,4,34,35,36] [] [.k 1000,.k 1001,.k 1002,.k 1003] ⟨[(0,.p 1000 0),(4,.d (.int .u8 x4.1)),(34,.d (sV (eI .u32) p1.labels)),(35,.d (.int .i64 (p1.labels.length:Int))),(36,.d (.int .i64 (wI (a14+1))))],zaa j15⟩ (a_ t_ t_) ?_
     exact ⟨k,(j15,(wI (a14+1))),Nat.lt_succ_self k,H,zbc [0,4,34,35,36] [] [.k 1000,.k 1001,.k 1002,.k 1003] t_ (by kernel_rfl)⟩
    ·have H:=H20
     refine AW2.block ?_
     refine AW2.seq ?_
     obtain ⟨h16,H⟩:=zaf H
     refine r_ [] [0,4,6,34,35,36] [] [.k 1000,.k 1001,.k 1002,.k 1003] ⟨[(0,.p 1000 0),(4,.d (.int .u8 x4.1)),(6,.d (.int .u32 (p1.labels.getD a14.toNat default))),(34,.d (sV (eI .u32) p1.labels)),(35,.d (.int .i64 (p1.labels.length:Int))),(36,.d (.int .i64 a14))],zaa a13⟩ (a_ (a_ h16 t_) t_) ?_
     refine AW2.seq ?_
     obtain ⟨x17,hx18,H⟩:=bind_some H
     refine r_ [.c [1000,1001,1002,1003] [] [1000] (.d (.int .u8 x17.1)) (zaa x17.2)] [0,4,34,35,36,45] [] [.k 1000,.k 1001,.k 1002,.k 1003] ⟨[(0,.p 1000 0),(4,.d (.int .u8 x4.1)),(34,.d (sV (eI .u32) p1.labels)),(35,.d (.int .i64 (p1.labels.length:Int))),(36,.d (.int .i64 a14)),(45,.d (.bool (x17.1 != x4.1)))],zaa x17.2⟩ (a_ (a_ (zck a13 (wI (p1.labels.getD a14.toNat default)) x17 hx18) t_) t_) ?_
     refine AW2.cond (b:=(x17.1 != x4.1)) rfl (fun hc => ?_) (fun hc => ?_)
     ·replace H:=zao H hc
      refine r_ [] [0,4,34,35,36] [] [.k 1000,.k 1001,.k 1002,.k 1003] ⟨[(0,.p 1000 0),(4,.d (.int .u8 x4.1)),(34,.d (sV (eI .u32) p1.labels)),(35,.d (.int .i64 (p1.labels.length:Int))),(36,.d (.int .i64 a14))],zaa (Checker.mk x17.2.m x17.2.t x17.2.locals x17.2.stack x17.2.frames x17.2.labels x17.2.most true)⟩ (a_ t_ t_) ?_
      have H:=Option.some.inj H
      subst H
      exact zbc [0,4,34,35,36] [] [.k 1000,.k 1001,.k 1002,.k 1003] t_ (by kernel_rfl)
     ·replace H:=zap H hc
      refine AW2.skip ?_
      have H:=Option.some.inj H
      subst H
      exact zbc [0,4,34,35,36] [] [.k 1000,.k 1001,.k 1002,.k 1003] t_ (by kernel_rfl)
   ·replace H:=zap H hc
    refine AW2.exit ?_
    have H:=Option.some.inj H
    subst H
    exact zbc [0,4] [] [.k 1000,.k 1001,.k 1002,.k 1003] t_ (by kernel_rfl)
def zaw (p0:Checker) (p1:Typ):Option (Checker):=((zch p0 p1.params).bind fun x1 => ((zag x1 p1.result).bind fun x3 => some x3))
theorem zdB (p0:Checker) (p1:Typ) (r:Checker) (H:zaw p0 p1=some r):CM E 75 [.p 1000 0,.agg (eD (eTyp p1))] (zaa p0) [] [1000] (fun a b => a=(.tup []:LV)∧b=zaa r):=by
 refine zkr (A:=zdF) zfb fun fr => ?_
 unfold zaw at H
 refine AW2.seq ?_
 refine r_ [.k 3] [0,3] [] [.k 3,.k 1000,.k 1001,.k 1002,.k 1003] ⟨[(0,.p 1000 0),(3,.p 3 0)],[(3,.st false (eD (eTyp p1)))]++zaa p0⟩ (a_ t_ t_) ?_
 refine AW2.seq ?_
 obtain ⟨x1,hx2,H⟩:=bind_some H
 refine r_ [.c [1000,1001,1002,1003] [] [1000] (.undef) (zaa x1)] [0,3] [] [.k 3,.k 1000,.k 1001,.k 1002,.k 1003] ⟨[(0,.p 1000 0),(3,.p 3 0)],[(3,.st false (eD (eTyp p1)))]++zaa x1⟩ (a_ (a_ (zks p0 p1.params x1 hx2) t_) t_) ?_
 obtain ⟨x3,hx4,H⟩:=bind_some H
 refine r_ [.c [1000,1001,1002,1003] [] [1000] (.tup []) (zaa x3)] [] [] [.k 1000,.k 1001,.k 1002,.k 1003] ⟨[],zaa x3⟩ (a_ (a_ (zaY x1 p1.result x3 hx4) t_) t_) ?_
 have H:=Option.some.inj H
 subst H
 exact retS_mkn3 [] [.k 1000,.k 1001,.k 1002,.k 1003] t_ (by kernel_rfl) (by kernel_rfl)
def zbg (p0:Checker) (p1:Int):Option (Typ×Checker):=(if ((decide (p1<(0:Int)))||(decide (p1≥(p0.m.types.length:Int))))=true then some ((Typ.mk ([]:List Int) 0),(Checker.mk p0.m p0.t p0.locals p0.stack p0.frames p0.labels p0.most true)) else gd (0≤p1∧p1<(p0.m.types.length:Int)) (some ((p0.m.types.getD p1.toNat default),p0)))
theorem zfp (p0:Checker) (p1:Int) (r:Typ×Checker) (H:zbg p0 p1=some r):CM E 76 [.p 1000 0,.d (.int .i64 p1)] (zaa p0) [] [1000] (fun a b => a=(.agg (eD (eTyp r.1)):LV)∧b=zaa r.2):=by
 refine zkr (A:=zek) zfe fun fr => ?_
 unfold zbg at H
 refine AW2.seq ?_
 refine r_ [.k 4] [0,1,4] [] [.k 4,.k 1000,.k 1001,.k 1002,.k 1003] ⟨[(0,.p 1000 0),(1,.d (.int .i64 p1)),(4,.p 4 0)],[(4,.st false [.d .nils,.d (.int .u8 0)])]++zaa p0⟩ (a_ t_ t_) ?_
 refine AW2.seq ?_
 refine AW2.seq ?_
 refine AW2.reg [] rfl (YW.to ⟨[(0,.p 1000 0),(1,.d (.int .i64 p1)),(4,.p 4 0),(16,.d (.bool ((decide (p1<(0:Int)))||(decide (p1≥(p0.m.types.length:Int))))))],[(4,.st false [.d .nils,.d (.int .u8 0)])]++zaa p0⟩ ?qh2 ?h2)
 case h2 => 
  rcases bT (decide (p1<(0:Int))) with hc1 | hc1
  ·exact YW.fin [(7,true)] [] [0,1,4,16] [(16,.d (.bool ((decide (p1<(0:Int)))||(decide (p1≥(p0.m.types.length:Int))))))] [.k 4,.k 1000,.k 1001,.k 1002,.k 1003] _ (a_ (a_ hc1 (a_ hc1 (a_ hc1 (a_ hc1 (a_ hc1 (a_ hc1 (a_ hc1 (a_ hc1 (a_ hc1 t_))))))))) (a_ (ovB (orT (b:=(decide (p1≥(p0.m.types.length:Int)))) hc1)) t_)) (by kernel_rfl) rfl
  ·exact YW.fin [(7,false)] [] [0,1,4,16] [(16,.d (.bool ((decide (p1<(0:Int)))||(decide (p1≥(p0.m.types.length:Int))))))] [.k 4,.k 1000,.k 1001,.k 1002,.k 1003] _ (a_ (a_ hc1 (a_ hc1 (a_ hc1 (a_ hc1 (a_ hc1 (a_ hc1 (a_ hc1 (a_ hc1 (a_ hc1 t_))))))))) (a_ (ovB (Eq.trans (orF (b:=(decide (p1≥(p0.m.types.length:Int)))) hc1) (Eq.refl (decide (p1≥(p0.m.types.length:Int)))))) t_)) (by kernel_rfl) rfl
 refine AW2.cond (b:=((decide (p1<(0:Int)))||(decide (p1≥(p0.m.types.length:Int))))) rfl (fun hc => ?_) (fun hc => ?_)
 ·replace H:=zao H hc
  refine AW2.seq ?_
  refine r_ [] [4] [] [.k 4,.k 1000,.k 1001,.k 1002,.k 1003] ⟨[(4,.p 4 0)],[(4,.st false [.d .nils,.d (.int .u8 0)])]++zaa (Checker.mk p0.m p0.t p0.locals p0.stack p0.frames p0.labels p0.most true)⟩ (a_ t_ t_) ?_
  refine AW2.seq ?_
  refine r_ [] [4] [] [.k 4,.k 1000,.k 1001,.k 1002,.k 1003] ⟨[(4,.p 4 0)],[(4,.st false [.d .nils,.d (.int .u8 0)])]++zaa (Checker.mk p0.m p0.t p0.locals p0.stack p0.frames p0.labels p0.most true)⟩ (a_ t_ t_) ?_
  refine AW2.ret ?_
  have H:=Option.some.inj H
  subst H
  exact retS_mk3 [(0,.d (sV (eI .u8) ([]:List Int)))] [.k 1000,.k 1001,.k 1002,.k 1003] (a_ (Eq.refl 0) t_) (by kernel_rfl) (by kernel_rfl)
 ·replace H:=zap H hc
  refine AW2.skip ?_
  refine AW2.seq ?_
  obtain ⟨h1,H⟩:=zaf H
  refine r_ [] [4] [] [.k 4,.k 1000,.k 1001,.k 1002,.k 1003] ⟨[(4,.p 4 0)],[(4,.st false (eD (eTyp (p0.m.types.getD p1.toNat default))))]++zaa p0⟩ (a_ (a_ h1 t_) t_) ?_
  refine AW2.ret ?_
  have H:=Option.some.inj H
  subst H
  exact retS_mk3 [] [.k 1000,.k 1001,.k 1002,.k 1003] t_ (by kernel_rfl) (by kernel_rfl)
def zbj (p0:Checker) (p1:Int):Option (Typ×Checker):=(if ((decide (p1<(0:Int)))||(decide (p1≥(p0.m.funcs.length:Int))))=true then some ((Typ.mk ([]:List Int) 0),(Checker.mk p0.m p0.t p0.locals p0.stack p0.frames p0.labels p0.most true)) else gd (0≤p1∧p1<(p0.m.funcs.length:Int)) ((zbg p0 (wI ((p0.m.funcs.getD p1.toNat default).type_))).bind fun x2 => some (x2.1,x2.2)))
theorem zhz (p0:Checker) (p1:Int) (r:Typ×Checker) (H:zbj p0 p1=some r):CM E 74 [.p 1000 0,.d (.int .i64 p1)] (zaa p0) [] [1000] (fun a b => a=(.agg (eD (eTyp r.1)):LV)∧b=zaa r.2):=by
 refine zkr (A:=zcx) zdP fun fr => ?_
 unfold zbj at H
 refine AW2.seq ?_
 refine r_ [.k 4] [0,1,4] [] [.k 4,.k 1000,.k 1001,.k 1002,.k 1003] ⟨[(0,.p 1000 0),(1,.d (.int .i64 p1)),(4,.p 4 0)],[(4,.st false [.d .nils,.d (.int .u8 0)])]++zaa p0⟩ (a_ t_ t_) ?_
 refine AW2.seq ?_
 refine AW2.seq ?_
 refine AW2.reg [] rfl (YW.to ⟨[(0,.p 1000 0),(1,.d (.int .i64 p1)),(4,.p 4 0),(16,.d (.bool ((decide (p1<(0:Int)))||(decide (p1≥(p0.m.funcs.length:Int))))))],[(4,.st false [.d .nils,.d (.int .u8 0)])]++zaa p0⟩ ?qh4 ?h4)
 case h4 => 
  rcases bT (decide (p1<(0:Int))) with hc1 | hc1
  ·exact YW.fin [(7,true)] [] [0,1,4,16] [(16,.d (.bool ((decide (p1<(0:Int)))||(decide (p1≥(p0.m.funcs.length:Int))))))] [.k 4,.k 1000,.k 1001,.k 1002,.k 1003] _ (a_ (a_ hc1 (a_ hc1 (a_ hc1 (a_ hc1 (a_ hc1 (a_ hc1 (a_ hc1 (a_ hc1 (a_ hc1 t_))))))))) (a_ (ovB (orT (b:=(decide (p1≥(p0.m.funcs.length:Int)))) hc1)) t_)) (by kernel_rfl) rfl
  ·exact YW.fin [(7,false)] [] [0,1,4,16] [(16,.d (.bool ((decide (p1<(0:Int)))||(decide (p1≥(p0.m.funcs.length:Int))))))] [.k 4,.k 1000,.k 1001,.k 1002,.k 1003] _ (a_ (a_ hc1 (a_ hc1 (a_ hc1 (a_ hc1 (a_ hc1 (a_ hc1 (a_ hc1 (a_ hc1 (a_ hc1 t_))))))))) (a_ (ovB (Eq.trans (orF (b:=(decide (p1≥(p0.m.funcs.length:Int)))) hc1) (Eq.refl (decide (p1≥(p0.m.funcs.length:Int)))))) t_)) (by kernel_rfl) rfl
 refine AW2.cond (b:=((decide (p1<(0:Int)))||(decide (p1≥(p0.m.funcs.length:Int))))) rfl (fun hc => ?_) (fun hc => ?_)
 ·replace H:=zao H hc
  refine AW2.seq ?_
  refine r_ [] [4] [] [.k 4,.k 1000,.k 1001,.k 1002,.k 1003] ⟨[(4,.p 4 0)],[(4,.st false [.d .nils,.d (.int .u8 0)])]++zaa (Checker.mk p0.m p0.t p0.locals p0.stack p0.frames p0.labels p0.most true)⟩ (a_ t_ t_) ?_
  refine AW2.seq ?_
  refine r_ [] [4] [] [.k 4,.k 1000,.k 1001,.k 1002,.k 1003] ⟨[(4,.p 4 0)],[(4,.st false [.d .nils,.d (.int .u8 0)])]++zaa (Checker.mk p0.m p0.t p0.locals p0.stack p0.frames p0.labels p0.most true)⟩ (a_ t_ t_) ?_
  refine AW2.ret ?_
  have H:=Option.some.inj H
  subst H
  exact retS_mk3 [(0,.d (sV (eI .u8) ([]:List Int)))] [.k 1000,.k 1001,.k 1002,.k 1003] (a_ (Eq.refl 0) t_) (by kernel_rfl) (by kernel_rfl)
 ·replace H:=zap H hc
  refine AW2.skip ?_
  refine AW2.seq ?_
  obtain ⟨h1,H⟩:=zaf H
  obtain ⟨x2,hx3,H⟩:=bind_some H
  refine r_ [.c [1000,1001,1002,1003] [] [1000] (.agg (eD (eTyp x2.1))) (zaa x2.2)] [4] [] [.k 4,.k 1000,.k 1001,.k 1002,.k 1003] ⟨[(4,.p 4 0)],[(4,.st false (eD (eTyp x2.1)))]++zaa x2.2⟩ (a_ (a_ h1 (a_ (zfp p0 (wI ((p0.m.funcs.getD p1.toNat default).type_)) x2 hx3) t_)) t_) ?_
  refine AW2.ret ?_
  have H:=Option.some.inj H
  subst H
  exact retS_mk3 [] [.k 1000,.k 1001,.k 1002,.k 1003] t_ (by kernel_rfl) (by kernel_rfl)
def zaG (p0:Checker) (p1:Int):Option (Int×Checker):=(if ((decide (p1<(0:Int)))||(decide (p1≥(p0.locals.length:Int))))=true then some (1,(Checker.mk p0.m p0.t p0.locals p0.stack p0.frames p0.labels p0.most true)) else gd (0≤p1∧p1<(p0.locals.length:Int)) (some ((p0.locals.getD p1.toNat default),p0)))
theorem zdc (p0:Checker) (p1:Int) (r:Int×Checker) (H:zaG p0 p1=some r):CM E 77 [.p 1000 0,.d (.int .i64 p1)] (zaa p0) [] [1000] (fun a b => a=(.d (.int .u8 r.1):LV)∧b=zaa r.2):=by
 refine zkr (A:=zdg) zeR fun fr => ?_
 unfold zaG at H
 refine AW2.seq ?_
 refine r_ [] [0,1] [] [.k 1000,.k 1001,.k 1002,.k 1003] ⟨[(0,.p 1000 0),(1,.d (.int .i64 p1))],zaa p0⟩ (a_ t_ t_) ?_
 refine AW2.seq ?_
 refine AW2.seq ?_
 refine AW2.reg [] rfl (YW.to ⟨[(0,.p 1000 0),(1,.d (.int .i64 p1)),(15,.d (.bool ((decide (p1<(0:Int)))||(decide (p1≥(p0.locals.length:Int))))))],zaa p0⟩ ?qh2 ?h2)
 case h2 => 
  rcases bT (decide (p1<(0:Int))) with hc1 | hc1
  ·exact YW.fin [(7,true)] [] [0,1,15] [(15,.d (.bool ((decide (p1<(0:Int)))||(decide (p1≥(p0.locals.length:Int))))))] [.k 1000,.k 1001,.k 1002,.k 1003] _ (a_ (a_ hc1 (a_ hc1 (a_ hc1 (a_ hc1 (a_ hc1 (a_ hc1 (a_ hc1 (a_ hc1 t_)))))))) (a_ (ovB (orT (b:=(decide (p1≥(p0.locals.length:Int)))) hc1)) t_)) (by kernel_rfl) rfl
  ·exact YW.fin [(7,false)] [] [0,1,15] [(15,.d (.bool ((decide (p1<(0:Int)))||(decide (p1≥(p0.locals.length:Int))))))] [.k 1000,.k 1001,.k 1002,.k 1003] _ (a_ (a_ hc1 (a_ hc1 (a_ hc1 (a_ hc1 (a_ hc1 (a_ hc1 (a_ hc1 (a_ hc1 t_)))))))) (a_ (ovB (Eq.trans (orF (b:=(decide (p1≥(p0.locals.length:Int)))) hc1) (Eq.refl (decide (p1≥(p0.locals.length:Int)))))) t_)) (by kernel_rfl) rfl
 refine AW2.cond (b:=((decide (p1<(0:Int)))||(decide (p1≥(p0.locals.length:Int))))) rfl (fun hc => ?_) (fun hc => ?_)
 ·replace H:=zao H hc
  refine AW2.seq ?_
  refine r_ [] [] [] [.k 1000,.k 1001,.k 1002,.k 1003] ⟨[],zaa (Checker.mk p0.m p0.t p0.locals p0.stack p0.frames p0.labels p0.most true)⟩ (a_ t_ t_) ?_
  refine AW2.seq ?_
  refine r_ [] [4] [] [.k 1000,.k 1001,.k 1002,.k 1003] ⟨[(4,.d (.int .u8 1))],zaa (Checker.mk p0.m p0.t p0.locals p0.stack p0.frames p0.labels p0.most true)⟩ (a_ t_ t_) ?_
  refine AW2.ret ?_
  have H:=Option.some.inj H
  subst H
  exact retS_mk3 [] [.k 1000,.k 1001,.k 1002,.k 1003] t_ (by kernel_rfl) (by kernel_rfl)
 ·replace H:=zap H hc
  refine AW2.skip ?_
  refine AW2.seq ?_
  obtain ⟨h1,H⟩:=zaf H
  refine r_ [] [4] [] [.k 1000,.k 1001,.k 1002,.k 1003] ⟨[(4,.d (.int .u8 (p0.locals.getD p1.toNat default)))],zaa p0⟩ (a_ (a_ h1 t_) t_) ?_
  refine AW2.ret ?_
  have H:=Option.some.inj H
  subst H
  exact retS_mk3 [] [.k 1000,.k 1001,.k 1002,.k 1003] t_ (by kernel_rfl) (by kernel_rfl)
def zaH (p0:Checker) (p1:Int):Option (Glo×Checker):=(if ((decide (p1<(0:Int)))||(decide (p1≥(p0.m.globals.length:Int))))=true then some ((Glo.mk 1 true (Instr.mk 0 0 0 0 0 ([]:List Instr) ([]:List Instr) ([]:List Int))),(Checker.mk p0.m p0.t p0.locals p0.stack p0.frames p0.labels p0.most true)) else gd (0≤p1∧p1<(p0.m.globals.length:Int)) (some ((p0.m.globals.getD p1.toNat default),p0)))
theorem zeV (p0:Checker) (p1:Int) (r:Glo×Checker) (H:zaH p0 p1=some r):CM E 78 [.p 1000 0,.d (.int .i64 p1)] (zaa p0) [] [1000] (fun a b => a=(.agg (eD (eGlo r.1)):LV)∧b=zaa r.2):=by
 refine zkr (A:=zda) zeJ fun fr => ?_
 unfold zaH at H
 refine AW2.seq ?_
 refine r_ [.k 4] [0,1,4] [] [.k 4,.k 1000,.k 1001,.k 1002,.k 1003] ⟨[(0,.p 1000 0),(1,.d (.int .i64 p1)),(4,.p 4 0)],[(4,.st false [.d (.int .u8 0),.d (.bool false),.d (.int .u8 0),.d (.int .i64 0),.d (.int .u32 0),.d (.int .u32 0),.d (.int .u8 0),.d .nils,.d .nils,.d .nils])]++zaa p0⟩ (a_ t_ t_) ?_
 refine AW2.seq ?_
 refine AW2.seq ?_
 refine AW2.reg [] rfl (YW.to ⟨[(0,.p 1000 0),(1,.d (.int .i64 p1)),(4,.p 4 0),(16,.d (.bool ((decide (p1<(0:Int)))||(decide (p1≥(p0.m.globals.length:Int))))))],[(4,.st false [.d (.int .u8 0),.d (.bool false),.d (.int .u8 0),.d (.int .i64 0),.d (.int .u32 0),.d (.int .u32 0),.d (.int .u8 0),.d .nils,.d .nils,.d .nils])]++zaa p0⟩ ?qh2 ?h2)
 case h2 => 
  rcases bT (decide (p1<(0:Int))) with hc1 | hc1
  ·exact YW.fin [(7,true)] [] [0,1,4,16] [(16,.d (.bool ((decide (p1<(0:Int)))||(decide (p1≥(p0.m.globals.length:Int))))))] [.k 4,.k 1000,.k 1001,.k 1002,.k 1003] _ (a_ (a_ hc1 (a_ hc1 (a_ hc1 (a_ hc1 (a_ hc1 (a_ hc1 (a_ hc1 (a_ hc1 (a_ hc1 t_))))))))) (a_ (ovB (orT (b:=(decide (p1≥(p0.m.globals.length:Int)))) hc1)) t_)) (by kernel_rfl) rfl
  ·exact YW.fin [(7,false)] [] [0,1,4,16] [(16,.d (.bool ((decide (p1<(0:Int)))||(decide (p1≥(p0.m.globals.length:Int))))))] [.k 4,.k 1000,.k 1001,.k 1002,.k 1003] _ (a_ (a_ hc1 (a_ hc1 (a_ hc1 (a_ hc1 (a_ hc1 (a_ hc1 (a_ hc1 (a_ hc1 (a_ hc1 t_))))))))) (a_ (ovB (Eq.trans (orF (b:=(decide (p1≥(p0.m.globals.length:Int)))) hc1) (Eq.refl (decide (p1≥(p0.m.globals.length:Int)))))) t_)) (by kernel_rfl) rfl
 refine AW2.cond (b:=((decide (p1<(0:Int)))||(decide (p1≥(p0.m.globals.length:Int))))) rfl (fun hc => ?_) (fun hc => ?_)
 ·replace H:=zao H hc
  refine AW2.seq ?_
  refine r_ [] [4] [] [.k 4,.k 1000,.k 1001,.k 1002,.k 1003] ⟨[(4,.p 4 0)],[(4,.st false [.d (.int .u8 0),.d (.bool false),.d (.int .u8 0),.d (.int .i64 0),.d (.int .u32 0),.d (.int .u32 0),.d (.int .u8 0),.d .nils,.d .nils,.d .nils])]++zaa (Checker.mk p0.m p0.t p0.locals p0.stack p0.frames p0.labels p0.most true)⟩ (a_ t_ t_) ?_
  refine AW2.seq ?_
  refine r_ [] [4] [] [.k 4,.k 1000,.k 1001,.k 1002,.k 1003] ⟨[(4,.p 4 0)],[(4,.st false [.d (.int .u8 1),.d (.bool true),.d (.int .u8 0),.d (.int .i64 0),.d (.int .u32 0),.d (.int .u32 0),.d (.int .u8 0),.d .nils,.d .nils,.d .nils])]++zaa (Checker.mk p0.m p0.t p0.locals p0.stack p0.frames p0.labels p0.most true)⟩ (a_ t_ t_) ?_
  refine AW2.ret ?_
  have H:=Option.some.inj H
  subst H
  exact retS_mk3 [(7,.d (sVI ([]:List Instr))),(8,.d (sVI ([]:List Instr))),(9,.d (sV (eI .u32) ([]:List Int)))] [.k 1000,.k 1001,.k 1002,.k 1003] (a_ (Eq.refl 0) (a_ (Eq.refl 0) (a_ (Eq.refl 0) t_))) (by kernel_rfl) (by kernel_rfl)
 ·replace H:=zap H hc
  refine AW2.skip ?_
  refine AW2.seq ?_
  obtain ⟨h1,H⟩:=zaf H
  refine r_ [] [4] [] [.k 4,.k 1000,.k 1001,.k 1002,.k 1003] ⟨[(4,.p 4 0)],[(4,.st false (eD (eGlo (p0.m.globals.getD p1.toNat default))))]++zaa p0⟩ (a_ (a_ h1 t_) t_) ?_
  refine AW2.ret ?_
  have H:=Option.some.inj H
  subst H
  exact retS_mk3 [] [.k 1000,.k 1001,.k 1002,.k 1003] t_ (by kernel_rfl) (by kernel_rfl)
def zbi (p0:Checker) (p1:Instr):Option (Checker):=((zlm p1.op).bind fun x1 => (if (!x1.2.isNone)=true then some (Checker.mk p0.m p0.t p0.locals p0.stack p0.frames p0.labels p0.most true) else ((ziz p1.op).bind fun x13 => (if x13.2.2.isNone=true then (if p0.bad=true then some (Checker.mk p0.m p0.t p0.locals p0.stack p0.frames p0.labels p0.most true) else (if (decide (p1.align>(3:Int)))=true then some (Checker.mk p0.m p0.t p0.locals p0.stack p0.frames p0.labels p0.most true) else gd (¬ p1.align<0) (some (Checker.mk p0.m p0.t p0.locals p0.stack p0.frames p0.labels p0.most (decide ((wI (1 * 2 ^ (min p1.align.toNat (IntKind.bits .i64))))>x13.1)))))).bind (fun j16 => some j16) else some p0)).bind (fun j3 => ((zln p1.op).bind fun x4 => (if ((!x4.2.isNone)||(bif ((x4.1==(4:Int))||(x4.1==(5:Int))) then (((j3.m.memories.length:Int)==(0:Int))||((x4.1==(1:Int))&&(p1.n != (wI (IntKind.wrap .i32 p1.n))))) else ((x4.1==(1:Int))&&(p1.n != (wI (IntKind.wrap .i32 p1.n))))))=true then some (Checker.mk j3.m j3.t j3.locals j3.stack j3.frames j3.labels j3.most true) else some j3).bind (fun j6 => ((zaw j6 x1.1).bind fun x7 => some x7))))))
theorem zku (p0:Checker) (p1:Instr) (r:Checker) (H:zbi p0 p1=some r):CM E 79 [.p 1000 0,.agg (eD (eInstr p1))] (zaa p0) [] [1000] (fun a b => a=(.tup []:LV)∧b=zaa r):=by
 refine zkr (A:=zdf) zeQ fun fr => ?_
 unfold zbi at H
 refine AW2.seq ?_
 refine r_ [.k 3] [0,3] [] [.k 3,.k 1000,.k 1001,.k 1002,.k 1003] ⟨[(0,.p 1000 0),(3,.p 3 0)],[(3,.st false (eD (eInstr p1)))]++zaa p0⟩ (a_ t_ t_) ?_
 refine AW2.seq ?_
 obtain ⟨x1,hx2,H⟩:=bind_some H
 refine r_ [.r (.tup [.agg (eTyp x1.1),.err 45 x1.2]),.k 4] [0,3,4,5] [] [.k 3,.k 4,.k 1000,.k 1001,.k 1002,.k 1003] ⟨[(0,.p 1000 0),(3,.p 3 0),(4,.p 4 0),(5,.d (.err 45 x1.2))],[(3,.st false (eD (eInstr p1))),(4,.st false (eD (eTyp x1.1)))]++zaa p0⟩ (a_ (a_ (zwm p1.op x1 hx2) t_) t_) ?_
 refine AW2.seq ?_
 refine AW2.seq ?_
 refine r_ [] [0,3,4,18] [] [.k 3,.k 4,.k 1000,.k 1001,.k 1002,.k 1003] ⟨[(0,.p 1000 0),(3,.p 3 0),(4,.p 4 0),(18,.d (.bool (!x1.2.isNone)))],[(3,.st false (eD (eInstr p1))),(4,.st false (eD (eTyp x1.1)))]++zaa p0⟩ (a_ t_ t_) ?_
 refine AW2.cond (b:=(!x1.2.isNone)) rfl (fun hc => ?_) (fun hc => ?_)
 ·replace H:=zao H hc
  refine AW2.seq ?_
  refine r_ [] [] [] [.k 1000,.k 1001,.k 1002,.k 1003] ⟨[],zaa (Checker.mk p0.m p0.t p0.locals p0.stack p0.frames p0.labels p0.most true)⟩ (a_ t_ t_) ?_
  refine AW2.ret ?_
  have H:=Option.some.inj H
  subst H
  exact retS_mk3 [] [.k 1000,.k 1001,.k 1002,.k 1003] t_ (by kernel_rfl) (by kernel_rfl)
 ·replace H:=zap H hc
  refine AW2.skip ?_
  obtain ⟨j3,H21,H⟩:=bind_some H
  refine AW2.mid ⟨[(0,.p 1000 0),(3,.p 3 0),(4,.p 4 0)],[(3,.st false (eD (eInstr p1))),(4,.st false (eD (eTyp x1.1)))]++zaa j3⟩ ?_ ?_
  ·refine AW2.seq ?_
   obtain ⟨x4,hx5,H⟩:=bind_some H
   refine r_ [.r (.tup [.int .i64 x4.1,.err 45 x4.2])] [0,3,4,5,9] [] [.k 3,.k 4,.k 1000,.k 1001,.k 1002,.k 1003] ⟨[(0,.p 1000 0),(3,.p 3 0),(4,.p 4 0),(5,.d (.err 45 x4.2)),(9,.d (.int .i64 x4.1))],[(3,.st false (eD (eInstr p1))),(4,.st false (eD (eTyp x1.1)))]++zaa j3⟩ (a_ (a_ (zwn p1.op x4 hx5) t_) t_) ?_
   refine AW2.seq ?_
   refine AW2.reg [] rfl (YW.to ⟨[(0,.p 1000 0),(3,.p 3 0),(4,.p 4 0),(5,.d (.err 45 x4.2)),(9,.d (.int .i64 x4.1)),(10,.d (.bool ((x4.1==(4:Int))||(x4.1==(5:Int)))))],[(3,.st false (eD (eInstr p1))),(4,.st false (eD (eTyp x1.1)))]++zaa j3⟩ ?qh12 ?h12)
   case h12 => 
    rcases bT (x4.1==(4:Int)) with hc1 | hc1
    ·exact YW.fin [(58,true)] [] [0,3,4,5,9,10] [(10,.d (.bool ((x4.1==(4:Int))||(x4.1==(5:Int)))))] [.k 3,.k 4,.k 1000,.k 1001,.k 1002,.k 1003] _ (a_ (a_ hc1 (a_ hc1 (a_ hc1 t_))) (a_ (ovB (orT (b:=(x4.1==(5:Int))) hc1)) t_)) (by kernel_rfl) rfl
    ·exact YW.fin [(58,false)] [] [0,3,4,5,9,10] [(10,.d (.bool ((x4.1==(4:Int))||(x4.1==(5:Int)))))] [.k 3,.k 4,.k 1000,.k 1001,.k 1002,.k 1003] _ (a_ (a_ hc1 (a_ hc1 (a_ hc1 t_))) (a_ (ovB (Eq.trans (orF (b:=(x4.1==(5:Int))) hc1) (Eq.refl (x4.1==(5:Int))))) t_)) (by kernel_rfl) rfl
   obtain ⟨j6,H11,H⟩:=bind_some H
   refine AW2.mid ⟨[(0,.p 1000 0),(4,.p 4 0)],[(4,.st false (eD (eTyp x1.1)))]++zaa j6⟩ ?_ ?_
   ·obtain ⟨x7,hx8,H⟩:=bind_some H
    refine r_ [.c [1000,1001,1002,1003] [] [1000] (.tup []) (zaa x7)] [] [] [.k 1000,.k 1001,.k 1002,.k 1003] ⟨[],zaa x7⟩ (a_ (a_ (zdB j6 x1.1 x7 hx8) t_) t_) ?_
    have H:=Option.some.inj H
    subst H
    exact retS_mkn3 [] [.k 1000,.k 1001,.k 1002,.k 1003] t_ (by kernel_rfl) (by kernel_rfl)
   ·have H:=H11
    refine AW2.seq ?_
    refine AW2.reg [] rfl (YW.to ⟨[(0,.p 1000 0),(4,.p 4 0),(88,.d (.bool ((!x4.2.isNone)||(bif ((x4.1==(4:Int))||(x4.1==(5:Int))) then (((j3.m.memories.length:Int)==(0:Int))||((x4.1==(1:Int))&&(p1.n != (wI (IntKind.wrap .i32 p1.n))))) else ((x4.1==(1:Int))&&(p1.n != (wI (IntKind.wrap .i32 p1.n))))))))],[(4,.st false (eD (eTyp x1.1)))]++zaa j3⟩ ?qh9 ?h9)
    case h9 => 
     rcases bT (!x4.2.isNone) with hc1 | hc1
     ·exact YW.fin [(64,true),(76,true)] [] [0,4,88] [(88,.d (.bool ((!x4.2.isNone)||(bif ((x4.1==(4:Int))||(x4.1==(5:Int))) then (((j3.m.memories.length:Int)==(0:Int))||((x4.1==(1:Int))&&(p1.n != (wI (IntKind.wrap .i32 p1.n))))) else ((x4.1==(1:Int))&&(p1.n != (wI (IntKind.wrap .i32 p1.n))))))))] [.k 4,.k 1000,.k 1001,.k 1002,.k 1003] _ (a_ (a_ hc1 (a_ hc1 (a_ hc1 (a_ hc1 (a_ (Eq.refl true) (a_ (Eq.refl true) (a_ (Eq.refl true) (a_ (Eq.refl true) (a_ (Eq.refl true) t_))))))))) (a_ (ovB (orT (b:=(bif ((x4.1==(4:Int))||(x4.1==(5:Int))) then (((j3.m.memories.length:Int)==(0:Int))||((x4.1==(1:Int))&&(p1.n != (wI (IntKind.wrap .i32 p1.n))))) else ((x4.1==(1:Int))&&(p1.n != (wI (IntKind.wrap .i32 p1.n)))))) hc1)) t_)) (by kernel_rfl) rfl
     ·rcases bT ((x4.1==(4:Int))||(x4.1==(5:Int))) with hc2 | hc2
      ·rcases bT ((j3.m.memories.length:Int)==(0:Int)) with hc3 | hc3
       ·exact YW.fin [(64,false),(66,true),(76,true)] [] [0,4,88] [(88,.d (.bool ((!x4.2.isNone)||(bif ((x4.1==(4:Int))||(x4.1==(5:Int))) then (((j3.m.memories.length:Int)==(0:Int))||((x4.1==(1:Int))&&(p1.n != (wI (IntKind.wrap .i32 p1.n))))) else ((x4.1==(1:Int))&&(p1.n != (wI (IntKind.wrap .i32 p1.n))))))))] [.k 4,.k 1000,.k 1001,.k 1002,.k 1003] _ (a_ (a_ hc1 (a_ hc1 (a_ hc2 (a_ hc2 (a_ hc2 (a_ hc2 (a_ hc2 (a_ hc2 (a_ hc2 (a_ hc1 (a_ hc2 (a_ hc1 (a_ hc3 (a_ hc3 (a_ hc3 (a_ hc3 (a_ hc3 t_))))))))))))))))) (a_ (ovB (Eq.trans (orF (b:=(bif ((x4.1==(4:Int))||(x4.1==(5:Int))) then (((j3.m.memories.length:Int)==(0:Int))||((x4.1==(1:Int))&&(p1.n != (wI (IntKind.wrap .i32 p1.n))))) else ((x4.1==(1:Int))&&(p1.n != (wI (IntKind.wrap .i32 p1.n)))))) hc1) (Eq.trans (bifT (a:=(((j3.m.memories.length:Int)==(0:Int))||((x4.1==(1:Int))&&(p1.n != (wI (IntKind.wrap .i32 p1.n)))))) (b:=((x4.1==(1:Int))&&(p1.n != (wI (IntKind.wrap .i32 p1.n))))) hc2) (orT (b:=((x4.1==(1:Int))&&(p1.n != (wI (IntKind.wrap .i32 p1.n))))) hc3)))) t_)) (by kernel_rfl) rfl
       ·rcases bT (x4.1==(1:Int)) with hc4 | hc4
        ·exact YW.fin [(64,false),(66,true),(76,false),(79,true)] [] [0,4,88] [(88,.d (.bool ((!x4.2.isNone)||(bif ((x4.1==(4:Int))||(x4.1==(5:Int))) then (((j3.m.memories.length:Int)==(0:Int))||((x4.1==(1:Int))&&(p1.n != (wI (IntKind.wrap .i32 p1.n))))) else ((x4.1==(1:Int))&&(p1.n != (wI (IntKind.wrap .i32 p1.n))))))))] [.k 4,.k 1000,.k 1001,.k 1002,.k 1003] _ (a_ (a_ hc1 (a_ hc1 (a_ hc2 (a_ hc2 (a_ hc2 (a_ hc2 (a_ hc2 (a_ hc2 (a_ hc2 (a_ hc1 (a_ hc2 (a_ hc1 (a_ hc3 (a_ hc3 (a_ hc3 (a_ hc4 (a_ hc4 (a_ hc4 (a_ hc4 (a_ hc4 (a_ hc4 (a_ hc4 (a_ hc3 (a_ hc4 (a_ hc3 t_))))))))))))))))))))))))) (a_ (ovB (Eq.trans (orF (b:=(bif ((x4.1==(4:Int))||(x4.1==(5:Int))) then (((j3.m.memories.length:Int)==(0:Int))||((x4.1==(1:Int))&&(p1.n != (wI (IntKind.wrap .i32 p1.n))))) else ((x4.1==(1:Int))&&(p1.n != (wI (IntKind.wrap .i32 p1.n)))))) hc1) (Eq.trans (bifT (a:=(((j3.m.memories.length:Int)==(0:Int))||((x4.1==(1:Int))&&(p1.n != (wI (IntKind.wrap .i32 p1.n)))))) (b:=((x4.1==(1:Int))&&(p1.n != (wI (IntKind.wrap .i32 p1.n))))) hc2) (Eq.trans (orF (b:=((x4.1==(1:Int))&&(p1.n != (wI (IntKind.wrap .i32 p1.n))))) hc3) (Eq.trans (andT (b:=(p1.n != (wI (IntKind.wrap .i32 p1.n)))) hc4) (Eq.refl (p1.n != (wI (IntKind.wrap .i32 p1.n))))))))) t_)) (by kernel_rfl) rfl
        ·exact YW.fin [(64,false),(66,true),(76,false),(79,false)] [] [0,4,88] [(88,.d (.bool ((!x4.2.isNone)||(bif ((x4.1==(4:Int))||(x4.1==(5:Int))) then (((j3.m.memories.length:Int)==(0:Int))||((x4.1==(1:Int))&&(p1.n != (wI (IntKind.wrap .i32 p1.n))))) else ((x4.1==(1:Int))&&(p1.n != (wI (IntKind.wrap .i32 p1.n))))))))] [.k 4,.k 1000,.k 1001,.k 1002,.k 1003] _ (a_ (a_ hc1 (a_ hc1 (a_ hc2 (a_ hc2 (a_ hc2 (a_ hc2 (a_ hc2 (a_ hc2 (a_ hc2 (a_ hc1 (a_ hc2 (a_ hc1 (a_ hc3 (a_ hc3 (a_ hc3 (a_ hc4 (a_ hc4 (a_ hc4 (a_ hc4 (a_ hc4 (a_ hc4 (a_ hc4 (a_ hc3 (a_ hc4 (a_ hc3 t_))))))))))))))))))))))))) (a_ (ovB (Eq.trans (orF (b:=(bif ((x4.1==(4:Int))||(x4.1==(5:Int))) then (((j3.m.memories.length:Int)==(0:Int))||((x4.1==(1:Int))&&(p1.n != (wI (IntKind.wrap .i32 p1.n))))) else ((x4.1==(1:Int))&&(p1.n != (wI (IntKind.wrap .i32 p1.n)))))) hc1) (Eq.trans (bifT (a:=(((j3.m.memories.length:Int)==(0:Int))||((x4.1==(1:Int))&&(p1.n != (wI (IntKind.wrap .i32 p1.n)))))) (b:=((x4.1==(1:Int))&&(p1.n != (wI (IntKind.wrap .i32 p1.n))))) hc2) (Eq.trans (orF (b:=((x4.1==(1:Int))&&(p1.n != (wI (IntKind.wrap .i32 p1.n))))) hc3) (andF (b:=(p1.n != (wI (IntKind.wrap .i32 p1.n)))) hc4))))) t_)) (by kernel_rfl) rfl
      ·rcases bT (x4.1==(1:Int)) with hc3 | hc3
       ·exact YW.fin [(64,false),(66,false),(79,true),(76,false)] [] [0,4,88] [(88,.d (.bool ((!x4.2.isNone)||(bif ((x4.1==(4:Int))||(x4.1==(5:Int))) then (((j3.m.memories.length:Int)==(0:Int))||((x4.1==(1:Int))&&(p1.n != (wI (IntKind.wrap .i32 p1.n))))) else ((x4.1==(1:Int))&&(p1.n != (wI (IntKind.wrap .i32 p1.n))))))))] [.k 4,.k 1000,.k 1001,.k 1002,.k 1003] _ (a_ (a_ hc1 (a_ hc1 (a_ hc2 (a_ hc2 (a_ hc2 (a_ hc2 (a_ hc2 (a_ hc2 (a_ hc2 (a_ hc1 (a_ hc2 (a_ hc1 (a_ (Eq.refl false) (a_ (Eq.refl false) (a_ (Eq.refl false) (a_ hc3 (a_ hc3 (a_ hc3 (a_ hc3 (a_ hc3 (a_ hc3 (a_ hc3 (a_ (Eq.refl false) (a_ hc3 (a_ (Eq.refl false) t_))))))))))))))))))))))))) (a_ (ovB (Eq.trans (orF (b:=(bif ((x4.1==(4:Int))||(x4.1==(5:Int))) then (((j3.m.memories.length:Int)==(0:Int))||((x4.1==(1:Int))&&(p1.n != (wI (IntKind.wrap .i32 p1.n))))) else ((x4.1==(1:Int))&&(p1.n != (wI (IntKind.wrap .i32 p1.n)))))) hc1) (Eq.trans (bifF (a:=(((j3.m.memories.length:Int)==(0:Int))||((x4.1==(1:Int))&&(p1.n != (wI (IntKind.wrap .i32 p1.n)))))) (b:=((x4.1==(1:Int))&&(p1.n != (wI (IntKind.wrap .i32 p1.n))))) hc2) (Eq.trans (andT (b:=(p1.n != (wI (IntKind.wrap .i32 p1.n)))) hc3) (Eq.refl (p1.n != (wI (IntKind.wrap .i32 p1.n)))))))) t_)) (by kernel_rfl) rfl
       ·exact YW.fin [(64,false),(66,false),(79,false),(76,false)] [] [0,4,88] [(88,.d (.bool ((!x4.2.isNone)||(bif ((x4.1==(4:Int))||(x4.1==(5:Int))) then (((j3.m.memories.length:Int)==(0:Int))||((x4.1==(1:Int))&&(p1.n != (wI (IntKind.wrap .i32 p1.n))))) else ((x4.1==(1:Int))&&(p1.n != (wI (IntKind.wrap .i32 p1.n))))))))] [.k 4,.k 1000,.k 1001,.k 1002,.k 1003] _ (a_ (a_ hc1 (a_ hc1 (a_ hc2 (a_ hc2 (a_ hc2 (a_ hc2 (a_ hc2 (a_ hc2 (a_ hc2 (a_ hc1 (a_ hc2 (a_ hc1 (a_ (Eq.refl false) (a_ (Eq.refl false) (a_ (Eq.refl false) (a_ hc3 (a_ hc3 (a_ hc3 (a_ hc3 (a_ hc3 (a_ hc3 (a_ hc3 (a_ (Eq.refl false) (a_ hc3 (a_ (Eq.refl false) t_))))))))))))))))))))))))) (a_ (ovB (Eq.trans (orF (b:=(bif ((x4.1==(4:Int))||(x4.1==(5:Int))) then (((j3.m.memories.length:Int)==(0:Int))||((x4.1==(1:Int))&&(p1.n != (wI (IntKind.wrap .i32 p1.n))))) else ((x4.1==(1:Int))&&(p1.n != (wI (IntKind.wrap .i32 p1.n)))))) hc1) (Eq.trans (bifF (a:=(((j3.m.memories.length:Int)==(0:Int))||((x4.1==(1:Int))&&(p1.n != (wI (IntKind.wrap .i32 p1.n)))))) (b:=((x4.1==(1:Int))&&(p1.n != (wI (IntKind.wrap .i32 p1.n))))) hc2) (andF (b:=(p1.n != (wI (IntKind.wrap .i32 p1.n)))) hc3)))) t_)) (by kernel_rfl) rfl
    refine AW2.cond (b:=((!x4.2.isNone)||(bif ((x4.1==(4:Int))||(x4.1==(5:Int))) then (((j3.m.memories.length:Int)==(0:Int))||((x4.1==(1:Int))&&(p1.n != (wI (IntKind.wrap .i32 p1.n))))) else ((x4.1==(1:Int))&&(p1.n != (wI (IntKind.wrap .i32 p1.n))))))) rfl (fun hc => ?_) (fun hc => ?_)
    ·replace H:=zao H hc
     refine r_ [] [0,4] [] [.k 4,.k 1000,.k 1001,.k 1002,.k 1003] ⟨[(0,.p 1000 0),(4,.p 4 0)],[(4,.st false (eD (eTyp x1.1)))]++zaa (Checker.mk j3.m j3.t j3.locals j3.stack j3.frames j3.labels j3.most true)⟩ (a_ t_ t_) ?_
     have H:=Option.some.inj H
     subst H
     exact zbc [0,4] [] [.k 4,.k 1000,.k 1001,.k 1002,.k 1003] t_ (by kernel_rfl)
    ·replace H:=zap H hc
     refine AW2.skip ?_
     have H:=Option.some.inj H
     subst H
     exact zbc [0,4] [] [.k 4,.k 1000,.k 1001,.k 1002,.k 1003] t_ (by kernel_rfl)
  ·have H:=H21
   refine AW2.seq ?_
   obtain ⟨x13,hx14,H⟩:=bind_some H
   refine r_ [.r (.tup [.int .i64 x13.1,.bool x13.2.1,.err 45 x13.2.2])] [0,3,4,6,8] [] [.k 3,.k 4,.k 1000,.k 1001,.k 1002,.k 1003] ⟨[(0,.p 1000 0),(3,.p 3 0),(4,.p 4 0),(6,.d (.int .i64 x13.1)),(8,.d (.err 45 x13.2.2))],[(3,.st false (eD (eInstr p1))),(4,.st false (eD (eTyp x1.1)))]++zaa p0⟩ (a_ (a_ (zvq p1.op x13 hx14) t_) t_) ?_
   refine AW2.seq ?_
   refine r_ [] [0,3,4,6,30] [] [.k 3,.k 4,.k 1000,.k 1001,.k 1002,.k 1003] ⟨[(0,.p 1000 0),(3,.p 3 0),(4,.p 4 0),(6,.d (.int .i64 x13.1)),(30,.d (.bool x13.2.2.isNone))],[(3,.st false (eD (eInstr p1))),(4,.st false (eD (eTyp x1.1)))]++zaa p0⟩ (a_ t_ t_) ?_
   refine AW2.cond (b:=x13.2.2.isNone) rfl (fun hc => ?_) (fun hc => ?_)
   ·replace H:=zao H hc
    obtain ⟨j16,H18,H⟩:=bind_some H
    refine AW2.reg [] rfl (YW.to ⟨[(0,.p 1000 0),(3,.p 3 0),(4,.p 4 0)],[(3,.st false (eD (eInstr p1))),(4,.st false (eD (eTyp x1.1)))]++zaa j16⟩ ?qh19 ?h19)
    case h19 => 
     have H:=H18
     rcases bT p0.bad with hc1 | hc1
     ·replace H:=zao H hc1
      have H:=Option.some.inj H
      subst H
      exact YW.fin [(36,true),(41,true)] [] [0,3,4] [] [.k 3,.k 4,.k 1000,.k 1001,.k 1002,.k 1003] _ (a_ (a_ hc1 (a_ hc1 (a_ hc1 (a_ hc1 (a_ (Eq.refl true) (a_ (Eq.refl true) (a_ (Eq.refl true) (a_ (Eq.refl true) (a_ (Eq.refl true) (a_ (Eq.refl true) t_)))))))))) t_) (by kernel_rfl) rfl
     ·replace H:=zap H hc1
      rcases bT (decide (p1.align>(3:Int))) with hc2 | hc2
      ·replace H:=zao H hc2
       have H:=Option.some.inj H
       subst H
       exact YW.fin [(36,false),(41,true)] [] [0,3,4] [] [.k 3,.k 4,.k 1000,.k 1001,.k 1002,.k 1003] _ (a_ (a_ hc1 (a_ hc1 (a_ hc1 (a_ hc1 (a_ hc2 (a_ hc2 (a_ hc2 (a_ hc2 (a_ hc2 (a_ hc2 t_)))))))))) t_) (by kernel_rfl) rfl
      ·replace H:=zap H hc2
       obtain ⟨h15,H⟩:=zaf H
       have H:=Option.some.inj H
       subst H
       exact YW.fin [(36,false),(41,false)] [] [0,3,4] [] [.k 3,.k 4,.k 1000,.k 1001,.k 1002,.k 1003] _ (a_ (a_ hc1 (a_ hc1 (a_ hc1 (a_ hc1 (a_ hc2 (a_ hc2 (a_ hc2 (a_ h15 (a_ hc2 (a_ hc2 (a_ hc2 t_))))))))))) t_) (by kernel_rfl) rfl
    have H:=Option.some.inj H
    subst H
    exact zbc [0,3,4] [] [.k 3,.k 4,.k 1000,.k 1001,.k 1002,.k 1003] t_ (by kernel_rfl)
   ·replace H:=zap H hc
    refine AW2.skip ?_
    have H:=Option.some.inj H
    subst H
    exact zbc [0,3,4] [] [.k 3,.k 4,.k 1000,.k 1001,.k 1002,.k 1003] t_ (by kernel_rfl)
def zah (p0:Checker) (p1:Instr):Option (Checker):=(if (p1.op==(26:Int))=true then ((zac p0 1).bind fun x1 => some x1.2) else (if (p1.op==(27:Int))=true then ((zac p0 127).bind fun x3 => ((zac x3.2 1).bind fun x5 => ((zac x5.2 x5.1).bind fun x7 => ((zag x7.2 x7.1).bind fun x9 => some x9)))) else (if (p1.op==(32:Int))=true then ((zaG p0 p1.n).bind fun x11 => ((zag x11.2 x11.1).bind fun x13 => some x13)) else (if (p1.op==(33:Int))=true then ((zaG p0 p1.n).bind fun x15 => ((zac x15.2 x15.1).bind fun x17 => some x17.2)) else (if (p1.op==(34:Int))=true then ((zaG p0 p1.n).bind fun x19 => ((zac x19.2 x19.1).bind fun x21 => ((zag x21.2 x19.1).bind fun x23 => some x23))) else (if (p1.op==(35:Int))=true then ((zaH p0 p1.n).bind fun x25 => ((zag x25.2 x25.1.kind).bind fun x27 => some x27)) else (if (p1.op==(36:Int))=true then ((zaH p0 p1.n).bind fun x29 => (if x29.2.bad=true then some (Checker.mk x29.2.m x29.2.t x29.2.locals x29.2.stack x29.2.frames x29.2.labels x29.2.most true) else some (Checker.mk x29.2.m x29.2.t x29.2.locals x29.2.stack x29.2.frames x29.2.labels x29.2.most (!x29.1.mut_))).bind (fun j31 => ((zac j31 x29.1.kind).bind fun x32 => some x32.2))) else ((zbi p0 p1).bind fun x37 => some x37))))))))
theorem zjf (p0:Checker) (p1:Instr) (r:Checker) (H:zah p0 p1=some r):CM E 56 [.p 1000 0,.agg (eD (eInstr p1))] (zaa p0) [] [1000] (fun a b => a=(.tup []:LV)∧b=zaa r):=by
 refine zkr (A:=zcZ) zeI fun fr => ?_
 unfold zah at H
 refine AW2.seq ?_
 refine r_ [.k 3] [0,3] [] [.k 3,.k 1000,.k 1001,.k 1002,.k 1003] ⟨[(0,.p 1000 0),(3,.p 3 0)],[(3,.st false (eD (eInstr p1)))]++zaa p0⟩ (a_ t_ t_) ?_
 refine AW2.seq ?_
 refine r_ [] [0,3,8] [] [.k 3,.k 1000,.k 1001,.k 1002,.k 1003] ⟨[(0,.p 1000 0),(3,.p 3 0),(8,.d (.int .u8 p1.op))],[(3,.st false (eD (eInstr p1)))]++zaa p0⟩ (a_ t_ t_) ?_
 refine AW2.block ?_
 refine AW2.seq ?_
 refine r_ [] [0,3,8,12] [] [.k 3,.k 1000,.k 1001,.k 1002,.k 1003] ⟨[(0,.p 1000 0),(3,.p 3 0),(8,.d (.int .u8 p1.op)),(12,.d (.bool (p1.op==(26:Int))))],[(3,.st false (eD (eInstr p1)))]++zaa p0⟩ (a_ t_ t_) ?_
 refine AW2.cond (b:=(p1.op==(26:Int))) rfl (fun hc => ?_) (fun hc => ?_)
 ·replace H:=zao H hc
  obtain ⟨x1,hx2,H⟩:=bind_some H
  refine r_ [.c [1000,1001,1002,1003] [] [1000] (.d (.int .u8 x1.1)) (zaa x1.2)] [] [] [.k 1000,.k 1001,.k 1002,.k 1003] ⟨[],zaa x1.2⟩ (a_ (a_ (zak p0 1 x1 hx2) t_) t_) ?_
  have H:=Option.some.inj H
  subst H
  exact retS_mkn3 [] [.k 1000,.k 1001,.k 1002,.k 1003] t_ (by kernel_rfl) (by kernel_rfl)
 ·replace H:=zap H hc
  refine AW2.seq ?_
  refine r_ [] [0,3,8,16] [] [.k 3,.k 1000,.k 1001,.k 1002,.k 1003] ⟨[(0,.p 1000 0),(3,.p 3 0),(8,.d (.int .u8 p1.op)),(16,.d (.bool (p1.op==(27:Int))))],[(3,.st false (eD (eInstr p1)))]++zaa p0⟩ (a_ t_ t_) ?_
  refine AW2.cond (b:=(p1.op==(27:Int))) rfl (fun hc => ?_) (fun hc => ?_)
  ·replace H:=zao H hc
   refine AW2.seq ?_
   obtain ⟨x3,hx4,H⟩:=bind_some H
   refine r_ [.c [1000,1001,1002,1003] [] [1000] (.d (.int .u8 x3.1)) (zaa x3.2)] [0] [] [.k 1000,.k 1001,.k 1002,.k 1003] ⟨[(0,.p 1000 0)],zaa x3.2⟩ (a_ (a_ (zak p0 127 x3 hx4) t_) t_) ?_
   refine AW2.seq ?_
   obtain ⟨x5,hx6,H⟩:=bind_some H
   refine r_ [.c [1000,1001,1002,1003] [] [1000] (.d (.int .u8 x5.1)) (zaa x5.2)] [0,4] [] [.k 1000,.k 1001,.k 1002,.k 1003] ⟨[(0,.p 1000 0),(4,.d (.int .u8 x5.1))],zaa x5.2⟩ (a_ (a_ (zak x3.2 1 x5 hx6) t_) t_) ?_
   obtain ⟨x7,hx8,H⟩:=bind_some H
   obtain ⟨x9,hx10,H⟩:=bind_some H
   refine r_ [.c [1000,1001,1002,1003] [] [1000] (.d (.int .u8 x7.1)) (zaa x7.2),.c [1000,1001,1002,1003] [] [1000] (.tup []) (zaa x9)] [] [] [.k 1000,.k 1001,.k 1002,.k 1003] ⟨[],zaa x9⟩ (a_ (a_ (zak x5.2 x5.1 x7 hx8) (a_ (zaY x7.2 x7.1 x9 hx10) t_)) t_) ?_
   have H:=Option.some.inj H
   subst H
   exact retS_mkn3 [] [.k 1000,.k 1001,.k 1002,.k 1003] t_ (by kernel_rfl) (by kernel_rfl)
  ·replace H:=zap H hc
   refine AW2.seq ?_
   refine r_ [] [0,3,8,27] [] [.k 3,.k 1000,.k 1001,.k 1002,.k 1003] ⟨[(0,.p 1000 0),(3,.p 3 0),(8,.d (.int .u8 p1.op)),(27,.d (.bool (p1.op==(32:Int))))],[(3,.st false (eD (eInstr p1)))]++zaa p0⟩ (a_ t_ t_) ?_
   refine AW2.cond (b:=(p1.op==(32:Int))) rfl (fun hc => ?_) (fun hc => ?_)
   ·replace H:=zao H hc
    obtain ⟨x11,hx12,H⟩:=bind_some H
    obtain ⟨x13,hx14,H⟩:=bind_some H
    refine r_ [.c [1000,1001,1002,1003] [] [1000] (.d (.int .u8 x11.1)) (zaa x11.2),.c [1000,1001,1002,1003] [] [1000] (.tup []) (zaa x13)] [] [] [.k 1000,.k 1001,.k 1002,.k 1003] ⟨[],zaa x13⟩ (a_ (a_ (zdc p0 p1.n x11 hx12) (a_ (zaY x11.2 x11.1 x13 hx14) t_)) t_) ?_
    have H:=Option.some.inj H
    subst H
    exact retS_mkn3 [] [.k 1000,.k 1001,.k 1002,.k 1003] t_ (by kernel_rfl) (by kernel_rfl)
   ·replace H:=zap H hc
    refine AW2.seq ?_
    refine r_ [] [0,3,8,35] [] [.k 3,.k 1000,.k 1001,.k 1002,.k 1003] ⟨[(0,.p 1000 0),(3,.p 3 0),(8,.d (.int .u8 p1.op)),(35,.d (.bool (p1.op==(33:Int))))],[(3,.st false (eD (eInstr p1)))]++zaa p0⟩ (a_ t_ t_) ?_
    refine AW2.cond (b:=(p1.op==(33:Int))) rfl (fun hc => ?_) (fun hc => ?_)
    ·replace H:=zao H hc
     obtain ⟨x15,hx16,H⟩:=bind_some H
     obtain ⟨x17,hx18,H⟩:=bind_some H
     refine r_ [.c [1000,1001,1002,1003] [] [1000] (.d (.int .u8 x15.1)) (zaa x15.2),.c [1000,1001,1002,1003] [] [1000] (.d (.int .u8 x17.1)) (zaa x17.2)] [] [] [.k 1000,.k 1001,.k 1002,.k 1003] ⟨[],zaa x17.2⟩ (a_ (a_ (zdc p0 p1.n x15 hx16) (a_ (zak x15.2 x15.1 x17 hx18) t_)) t_) ?_
     have H:=Option.some.inj H
     subst H
     exact retS_mkn3 [] [.k 1000,.k 1001,.k 1002,.k 1003] t_ (by kernel_rfl) (by kernel_rfl)
    ·replace H:=zap H hc
     refine AW2.seq ?_
     refine r_ [] [0,3,8,43] [] [.k 3,.k 1000,.k 1001,.k 1002,.k 1003] ⟨[(0,.p 1000 0),(3,.p 3 0),(8,.d (.int .u8 p1.op)),(43,.d (.bool (p1.op==(34:Int))))],[(3,.st false (eD (eInstr p1)))]++zaa p0⟩ (a_ t_ t_) ?_
     refine AW2.cond (b:=(p1.op==(34:Int))) rfl (fun hc => ?_) (fun hc => ?_)
     ·replace H:=zao H hc
      refine AW2.seq ?_
      obtain ⟨x19,hx20,H⟩:=bind_some H
      refine r_ [.c [1000,1001,1002,1003] [] [1000] (.d (.int .u8 x19.1)) (zaa x19.2)] [0,5] [] [.k 1000,.k 1001,.k 1002,.k 1003] ⟨[(0,.p 1000 0),(5,.d (.int .u8 x19.1))],zaa x19.2⟩ (a_ (a_ (zdc p0 p1.n x19 hx20) t_) t_) ?_
      refine AW2.seq ?_
      obtain ⟨x21,hx22,H⟩:=bind_some H
      refine r_ [.c [1000,1001,1002,1003] [] [1000] (.d (.int .u8 x21.1)) (zaa x21.2)] [0,5] [] [.k 1000,.k 1001,.k 1002,.k 1003] ⟨[(0,.p 1000 0),(5,.d (.int .u8 x19.1))],zaa x21.2⟩ (a_ (a_ (zak x19.2 x19.1 x21 hx22) t_) t_) ?_
      obtain ⟨x23,hx24,H⟩:=bind_some H
      refine r_ [.c [1000,1001,1002,1003] [] [1000] (.tup []) (zaa x23)] [] [] [.k 1000,.k 1001,.k 1002,.k 1003] ⟨[],zaa x23⟩ (a_ (a_ (zaY x21.2 x19.1 x23 hx24) t_) t_) ?_
      have H:=Option.some.inj H
      subst H
      exact retS_mkn3 [] [.k 1000,.k 1001,.k 1002,.k 1003] t_ (by kernel_rfl) (by kernel_rfl)
     ·replace H:=zap H hc
      refine AW2.seq ?_
      refine r_ [] [0,3,8,55] [] [.k 3,.k 1000,.k 1001,.k 1002,.k 1003] ⟨[(0,.p 1000 0),(3,.p 3 0),(8,.d (.int .u8 p1.op)),(55,.d (.bool (p1.op==(35:Int))))],[(3,.st false (eD (eInstr p1)))]++zaa p0⟩ (a_ t_ t_) ?_
      refine AW2.cond (b:=(p1.op==(35:Int))) rfl (fun hc => ?_) (fun hc => ?_)
      ·replace H:=zao H hc
       obtain ⟨x25,hx26,H⟩:=bind_some H
       obtain ⟨x27,hx28,H⟩:=bind_some H
       refine r_ [.c [1000,1001,1002,1003] [] [1000] (.agg (eD (eGlo x25.1))) (zaa x25.2),.c [1000,1001,1002,1003] [] [1000] (.tup []) (zaa x27)] [] [] [.k 1000,.k 1001,.k 1002,.k 1003] ⟨[],zaa x27⟩ (a_ (a_ (zeV p0 p1.n x25 hx26) (a_ (zaY x25.2 x25.1.kind x27 hx28) t_)) t_) ?_
       have H:=Option.some.inj H
       subst H
       exact retS_mkn3 [] [.k 1000,.k 1001,.k 1002,.k 1003] t_ (by kernel_rfl) (by kernel_rfl)
      ·replace H:=zap H hc
       refine AW2.seq ?_
       refine r_ [] [0,3,64] [] [.k 3,.k 1000,.k 1001,.k 1002,.k 1003] ⟨[(0,.p 1000 0),(3,.p 3 0),(64,.d (.bool (p1.op==(36:Int))))],[(3,.st false (eD (eInstr p1)))]++zaa p0⟩ (a_ t_ t_) ?_
       refine AW2.cond (b:=(p1.op==(36:Int))) rfl (fun hc => ?_) (fun hc => ?_)
       ·replace H:=zao H hc
        refine AW2.seq ?_
        obtain ⟨x29,hx30,H⟩:=bind_some H
        refine r_ [.c [1000,1001,1002,1003] [] [1000] (.agg (eD (eGlo x29.1))) (zaa x29.2),.k 6] [0,6] [] [.k 6,.k 1000,.k 1001,.k 1002,.k 1003] ⟨[(0,.p 1000 0),(6,.p 6 0)],[(6,.st false (eD (eGlo x29.1)))]++zaa x29.2⟩ (a_ (a_ (zeV p0 p1.n x29 hx30) t_) t_) ?_
        refine AW2.seq ?_
        obtain ⟨j31,H35,H⟩:=bind_some H
        refine AW2.reg [] rfl (YW.to ⟨[(0,.p 1000 0),(6,.p 6 0)],[(6,.st false (eD (eGlo x29.1)))]++zaa j31⟩ ?qh36 ?h36)
        case h36 => 
         have H:=H35
         rcases bT x29.2.bad with hc1 | hc1
         ·replace H:=zao H hc1
          have H:=Option.some.inj H
          subst H
          exact YW.fin [(75,true)] [] [0,6] [] [.k 6,.k 1000,.k 1001,.k 1002,.k 1003] _ (a_ (a_ hc1 (a_ hc1 (a_ hc1 (a_ hc1 t_)))) t_) (by kernel_rfl) rfl
         ·replace H:=zap H hc1
          have H:=Option.some.inj H
          subst H
          exact YW.fin [(75,false)] [] [0,6] [] [.k 6,.k 1000,.k 1001,.k 1002,.k 1003] _ (a_ (a_ hc1 (a_ hc1 (a_ hc1 (a_ hc1 t_)))) t_) (by kernel_rfl) rfl
        obtain ⟨x32,hx33,H⟩:=bind_some H
        refine r_ [.c [1000,1001,1002,1003] [] [1000] (.d (.int .u8 x32.1)) (zaa x32.2)] [] [] [.k 1000,.k 1001,.k 1002,.k 1003] ⟨[],zaa x32.2⟩ (a_ (a_ (zak j31 x29.1.kind x32 hx33) t_) t_) ?_
        have H:=Option.some.inj H
        subst H
        exact retS_mkn3 [] [.k 1000,.k 1001,.k 1002,.k 1003] t_ (by kernel_rfl) (by kernel_rfl)
       ·replace H:=zap H hc
        obtain ⟨x37,hx38,H⟩:=bind_some H
        refine r_ [.c [1000,1001,1002,1003] [] [1000] (.tup []) (zaa x37)] [] [] [.k 1000,.k 1001,.k 1002,.k 1003] ⟨[],zaa x37⟩ (a_ (a_ (zku p0 p1 x37 hx38) t_) t_) ?_
        have H:=Option.some.inj H
        subst H
        exact retS_mkn3 [] [.k 1000,.k 1001,.k 1002,.k 1003] t_ (by kernel_rfl) (by kernel_rfl)
mutual
def zaj:Nat→Checker→(List Instr)→Int→Int→Option (Checker)
 | 0,_,_,_,_ => none
 | k+1,p0,p1,p2,p3 => gd (0≤(wI ((p0.frames.length:Int) - 1))∧(wI ((p0.frames.length:Int) - 1))<(p0.frames.length:Int)) ((if (p0.frames.getD ((wI ((p0.frames.length:Int) - 1)).toNat) default).away=true then gd ((p0.frames.length+1) * 16≤140737488355328) (some (Checker.mk p0.m p0.t p0.locals p0.stack (p0.frames++([(Frame.mk (p0.stack.length:Int) false true)]:List Frame)) p0.labels p0.most p0.bad)) else gd ((p0.frames.length+1) * 16≤140737488355328) (some (Checker.mk p0.m p0.t p0.locals p0.stack (p0.frames++([(Frame.mk (p0.stack.length:Int) false ((p0.frames.getD ((wI ((p0.frames.length:Int) - 1)).toNat) default).dead))]:List Frame)) p0.labels p0.most p0.bad))).bind (fun j4 => gd ((j4.labels.length+1) * 1≤140737488355328) ((zal k (Checker.mk j4.m j4.t j4.locals j4.stack j4.frames (j4.labels++([p3]:List Int)) j4.most j4.bad) p1).bind fun x6 => ((zac x6 p2).bind fun x8 => gd (0≤(wI ((x8.2.frames.length:Int) - 1))∧(wI ((x8.2.frames.length:Int) - 1))<(x8.2.frames.length:Int)) ((if x8.2.bad=true then some (Checker.mk x8.2.m x8.2.t x8.2.locals x8.2.stack x8.2.frames x8.2.labels x8.2.most true) else some (Checker.mk x8.2.m x8.2.t x8.2.locals x8.2.stack x8.2.frames x8.2.labels x8.2.most ((x8.2.stack.length:Int) != ((x8.2.frames.getD ((wI ((x8.2.frames.length:Int) - 1)).toNat) default).height)))).bind (fun j11 => gd (0≤(0:Int)∧0≤(mnI ((x8.2.frames.getD ((wI ((x8.2.frames.length:Int) - 1)).toNat) default).height) (j11.stack.length:Int))∧(mnI ((x8.2.frames.getD ((wI ((x8.2.frames.length:Int) - 1)).toNat) default).height) (j11.stack.length:Int))≤(j11.stack.length:Int)) (gd (0≤(0:Int)∧0≤(wI ((j11.frames.length:Int) - 1))∧(wI ((j11.frames.length:Int) - 1))≤(j11.frames.length:Int)) (gd (0≤(0:Int)∧0≤(wI ((j11.labels.length:Int) - 1))∧(wI ((j11.labels.length:Int) - 1))≤(j11.labels.length:Int)) (some (Checker.mk j11.m j11.t j11.locals (List.take ((mnI ((x8.2.frames.getD ((wI ((x8.2.frames.length:Int) - 1)).toNat) default).height) (j11.stack.length:Int)).toNat) j11.stack) (List.take ((wI ((j11.frames.length:Int) - 1)).toNat) j11.frames) (List.take ((wI ((j11.labels.length:Int) - 1)).toNat) j11.labels) j11.most j11.bad))))))))))
def zab:Nat→Checker→Instr→Option (Checker)
 | 0,_,_ => none
 | k+1,p0,p1 => (if (p1.op==(0:Int))=true then ((zar p0).bind fun x1 => some x1) else (if (p1.op==(1:Int))=true then some p0 else (if (p1.op==(2:Int))=true then some (p1.op==(2:Int)) else some (p1.op==(3:Int))).bind (fun j3 => (if j3=true then (if p0.bad=true then some (Checker.mk p0.m p0.t p0.locals p0.stack p0.frames p0.labels p0.most true) else ((zba p1.result).bind fun x4 => some (Checker.mk p0.m p0.t p0.locals p0.stack p0.frames p0.labels p0.most (!x4)))).bind (fun j6 => (if (p1.op==(3:Int))=true then some 0 else some p1.result).bind (fun j7 => ((zaj k j6 p1.body p1.result j7).bind fun x8 => ((zag x8 p1.result).bind fun x10 => some x10)))) else (if (p1.op==(4:Int))=true then (if p0.bad=true then some (Checker.mk p0.m p0.t p0.locals p0.stack p0.frames p0.labels p0.most true) else ((zba p1.result).bind fun x17 => some (Checker.mk p0.m p0.t p0.locals p0.stack p0.frames p0.labels p0.most (!x17)))).bind (fun j19 => ((zac j19 127).bind fun x20 => ((zaj k x20.2 p1.body p1.result p1.result).bind fun x22 => ((zaj k x22 p1.els p1.result p1.result).bind fun x24 => ((zag x24 p1.result).bind fun x26 => some x26))))) else (if (p1.op==(12:Int))=true then ((zay p0 p1.n).bind fun x31 => ((zac x31.2 x31.1).bind fun x33 => ((zar x33.2).bind fun x35 => some x35))) else (if (p1.op==(13:Int))=true then ((zac p0 127).bind fun x37 => ((zay x37.2 p1.n).bind fun x39 => ((zac x39.2 x39.1).bind fun x41 => ((zag x41.2 x39.1).bind fun x43 => some x43)))) else (if (p1.op==(14:Int))=true then ((zbL k p0 p1).bind fun x45 => some x45) else (if (p1.op==(15:Int))=true then ((zac p0 p0.t.result).bind fun x47 => ((zar x47.2).bind fun x49 => some x49)) else (if (p1.op==(16:Int))=true then ((zbj p0 p1.n).bind fun x51 => ((zaw x51.2 x51.1).bind fun x53 => some x53)) else (if (p1.op==(17:Int))=true then (if p0.bad=true then some (Checker.mk p0.m p0.t p0.locals p0.stack p0.frames p0.labels p0.most true) else some (Checker.mk p0.m p0.t p0.locals p0.stack p0.frames p0.labels p0.most ((p0.m.tables.length:Int)==(0:Int)))).bind (fun j55 => ((zac j55 127).bind fun x56 => ((zbg x56.2 p1.n).bind fun x58 => ((zaw x58.2 x58.1).bind fun x60 => some x60)))) else some (Checker.mk p0.m p0.t p0.locals p0.stack p0.frames p0.labels p0.most true))))))))))))
def zal:Nat→Checker→(List Instr)→Option (Checker)
 | 0,_,_ => none
 | k+1,p0,p1 => lpN k (fun (rec5:Checker×Int→Option (Checker)) v => match v with | (a3,a4) => (if (decide (a4<(p1.length:Int)))=true then gd (0≤a4∧a4<(p1.length:Int)) (if a3.bad=true then some a3 else (if (decide (((p1.getD a4.toNat default).op)<(26:Int)))=true then ((zab k a3 (p1.getD a4.toNat default)).bind fun x7 => rec5 (x7,(wI (a4+1)))) else ((zah a3 (p1.getD a4.toNat default)).bind fun x9 => rec5 (x9,(wI (a4+1)))))) else some a3)) (p0,0)
end
theorem zkh (k:Nat) (IH_valid_checker_inner:∀ (p0:Checker) (p1:List Instr) (p2:Int) (p3:Int) (r:Checker),zaj k p0 p1 p2 p3=some r→CM E 70 [.p 1000 0,.d (sVI p1),.d (.int .u8 p2),.d (.int .u8 p3)] (zaa p0) [] [1000] (fun a b => a=(.tup []:LV)∧b=zaa r)) (IH_valid_checker_control:∀ (p0:Checker) (p1:Instr) (r:Checker),zab k p0 p1=some r→CM E 55 [.p 1000 0,.agg (eD (eInstr p1))] (zaa p0) [] [1000] (fun a b => a=(.tup []:LV)∧b=zaa r)) (IH_valid_checker_list:∀ (p0:Checker) (p1:List Instr) (r:Checker),zal k p0 p1=some r→CM E 39 [.p 1000 0,.d (sVI p1)] (zaa p0) [] [1000] (fun a b => a=(.tup []:LV)∧b=zaa r)):∀ (p0:Checker) (p1:List Instr) (p2:Int) (p3:Int) (r:Checker),zaj (k+1) p0 p1 p2 p3=some r→CM E 70 [.p 1000 0,.d (sVI p1),.d (.int .u8 p2),.d (.int .u8 p3)] (zaa p0) [] [1000] (fun a b => a=(.tup []:LV)∧b=zaa r):=by
 intro p0 p1 p2 p3 r H
 refine zkr (A:=zdj) zeU fun fr => ?_
 unfold zaj at H
 refine AW2.seq ?_
 obtain ⟨h1,H⟩:=zaf H
 refine r_ [.k 8] [0,1,2,3,8] [] [.k 8,.k 1000,.k 1001,.k 1002,.k 1003] ⟨[(0,.p 1000 0),(1,.d (sVI p1)),(2,.d (.int .u8 p2)),(3,.d (.int .u8 p3)),(8,.p 8 0)],[(8,.st false (eD (eFrame (p0.frames.getD ((wI ((p0.frames.length:Int) - 1)).toNat) default))))]++zaa p0⟩ (a_ (a_ h1 (a_ (ixN h1) (a_ (ixN h1) t_))) t_) ?_
 refine AW2.seq ?_
 obtain ⟨j4,H19,H⟩:=bind_some H
 refine AW2.reg [] rfl (YW.to ⟨[(0,.p 1000 0),(1,.d (sVI p1)),(2,.d (.int .u8 p2)),(3,.d (.int .u8 p3))],zaa j4⟩ ?qh20 ?h20)
 case h20 => 
  have H:=H19
  rcases bT ((p0.frames.getD ((wI ((p0.frames.length:Int) - 1)).toNat) default).away) with hc1 | hc1
  ·replace H:=zao H hc1
   obtain ⟨h2,H⟩:=zaf H
   have H:=Option.some.inj H
   subst H
   exact YW.fin [(34,true)] [.sb ([(Frame.mk (p0.stack.length:Int) false true)]:List Frame).length (fl eFrame ([(Frame.mk (p0.stack.length:Int) false true)]:List Frame)),.s true (p0.frames++([(Frame.mk (p0.stack.length:Int) false true)]:List Frame)).length (fl eFrame (p0.frames++([(Frame.mk (p0.stack.length:Int) false true)]:List Frame)))] [0,1,2,3] [] [.k 1000,.k 1001,.k 1002,.k 1003] _ (a_ (a_ hc1 (a_ hc1 (a_ hc1 (a_ (litF eFrame ([(Frame.mk (p0.stack.length:Int) false true)]:List Frame)) (a_ (Nat.le_refl p0.frames.length) (a_ h2 (a_ (app1 eFrame p0.frames (Frame.mk (p0.stack.length:Int) false true) (fl eFrame ([(Frame.mk (p0.stack.length:Int) false true)]:List Frame)) rfl) t_))))))) t_) (by kernel_rfl) rfl
  ·replace H:=zap H hc1
   obtain ⟨h3,H⟩:=zaf H
   have H:=Option.some.inj H
   subst H
   exact YW.fin [(34,false)] [.sb ([(Frame.mk (p0.stack.length:Int) false ((p0.frames.getD ((wI ((p0.frames.length:Int) - 1)).toNat) default).dead))]:List Frame).length (fl eFrame ([(Frame.mk (p0.stack.length:Int) false ((p0.frames.getD ((wI ((p0.frames.length:Int) - 1)).toNat) default).dead))]:List Frame)),.s true (p0.frames++([(Frame.mk (p0.stack.length:Int) false ((p0.frames.getD ((wI ((p0.frames.length:Int) - 1)).toNat) default).dead))]:List Frame)).length (fl eFrame (p0.frames++([(Frame.mk (p0.stack.length:Int) false ((p0.frames.getD ((wI ((p0.frames.length:Int) - 1)).toNat) default).dead))]:List Frame)))] [0,1,2,3] [] [.k 1000,.k 1001,.k 1002,.k 1003] _ (a_ (a_ hc1 (a_ hc1 (a_ hc1 (a_ (litF eFrame ([(Frame.mk (p0.stack.length:Int) false ((p0.frames.getD ((wI ((p0.frames.length:Int) - 1)).toNat) default).dead))]:List Frame)) (a_ (Nat.le_refl p0.frames.length) (a_ h3 (a_ (app1 eFrame p0.frames (Frame.mk (p0.stack.length:Int) false ((p0.frames.getD ((wI ((p0.frames.length:Int) - 1)).toNat) default).dead)) (fl eFrame ([(Frame.mk (p0.stack.length:Int) false ((p0.frames.getD ((wI ((p0.frames.length:Int) - 1)).toNat) default).dead))]:List Frame)) rfl) t_))))))) t_) (by kernel_rfl) rfl
 refine AW2.seq ?_
 obtain ⟨h5,H⟩:=zaf H
 refine r_ [.sb ([p3]:List Int).length (fl (eI .u8) ([p3]:List Int)),.s true (j4.labels++([p3]:List Int)).length (fl (eI .u8) (j4.labels++([p3]:List Int)))] [0,1,2] [] [.k 1000,.k 1001,.k 1002,.k 1003] ⟨[(0,.p 1000 0),(1,.d (sVI p1)),(2,.d (.int .u8 p2))],zaa (Checker.mk j4.m j4.t j4.locals j4.stack j4.frames (j4.labels++([p3]:List Int)) j4.most j4.bad)⟩ (a_ (a_ (litF (eI .u8) ([p3]:List Int)) (a_ (Nat.le_refl j4.labels.length) (a_ h5 (a_ (app1 (eI .u8) j4.labels p3 (fl (eI .u8) ([p3]:List Int)) rfl) t_)))) t_) ?_
 refine AW2.seq ?_
 obtain ⟨x6,hx7,H⟩:=bind_some H
 refine r_ [.c [1000,1001,1002,1003] [] [1000] (.tup []) (zaa x6)] [0,2] [] [.k 1000,.k 1001,.k 1002,.k 1003] ⟨[(0,.p 1000 0),(2,.d (.int .u8 p2))],zaa x6⟩ (a_ (a_ (IH_valid_checker_list (Checker.mk j4.m j4.t j4.locals j4.stack j4.frames (j4.labels++([p3]:List Int)) j4.most j4.bad) p1 x6 hx7) t_) t_) ?_
 refine AW2.seq ?_
 obtain ⟨x8,hx9,H⟩:=bind_some H
 refine r_ [.c [1000,1001,1002,1003] [] [1000] (.d (.int .u8 x8.1)) (zaa x8.2)] [0] [] [.k 1000,.k 1001,.k 1002,.k 1003] ⟨[(0,.p 1000 0)],zaa x8.2⟩ (a_ (a_ (zak x6 p2 x8 hx9) t_) t_) ?_
 refine AW2.seq ?_
 obtain ⟨h10,H⟩:=zaf H
 refine r_ [] [0,9] [] [.k 1000,.k 1001,.k 1002,.k 1003] ⟨[(0,.p 1000 0),(9,.d (.int .i64 ((x8.2.frames.getD ((wI ((x8.2.frames.length:Int) - 1)).toNat) default).height)))],zaa x8.2⟩ (a_ (a_ h10 (a_ (ixN h10) (a_ (ixN h10) t_))) t_) ?_
 refine AW2.seq ?_
 obtain ⟨j11,H16,H⟩:=bind_some H
 refine AW2.reg [] rfl (YW.to ⟨[(0,.p 1000 0),(9,.d (.int .i64 ((x8.2.frames.getD ((wI ((x8.2.frames.length:Int) - 1)).toNat) default).height)))],zaa j11⟩ ?qh17 ?h17)
 case h17 => 
  have H:=H16
  rcases bT x8.2.bad with hc1 | hc1
  ·replace H:=zao H hc1
   have H:=Option.some.inj H
   subst H
   exact YW.fin [(77,true)] [] [0,9] [] [.k 1000,.k 1001,.k 1002,.k 1003] _ (a_ (a_ hc1 (a_ hc1 (a_ hc1 (a_ hc1 (a_ hc1 (a_ hc1 (a_ hc1 (a_ hc1 t_)))))))) t_) (by kernel_rfl) rfl
  ·replace H:=zap H hc1
   have H:=Option.some.inj H
   subst H
   exact YW.fin [(77,false)] [] [0,9] [] [.k 1000,.k 1001,.k 1002,.k 1003] _ (a_ (a_ hc1 (a_ hc1 (a_ hc1 (a_ hc1 (a_ hc1 (a_ hc1 (a_ hc1 (a_ hc1 t_)))))))) t_) (by kernel_rfl) rfl
 refine AW2.seq ?_
 obtain ⟨h12,H⟩:=zaf H
 refine r_ [.s true (List.take ((mnI ((x8.2.frames.getD ((wI ((x8.2.frames.length:Int) - 1)).toNat) default).height) (j11.stack.length:Int)).toNat) j11.stack).length (fl (eI .u8) (List.take ((mnI ((x8.2.frames.getD ((wI ((x8.2.frames.length:Int) - 1)).toNat) default).height) (j11.stack.length:Int)).toNat) j11.stack))] [0] [] [.k 1000,.sl 1001 (List.take ((mnI ((x8.2.frames.getD ((wI ((x8.2.frames.length:Int) - 1)).toNat) default).height) (j11.stack.length:Int)).toNat) j11.stack).length (fl (eI .u8) (List.take ((mnI ((x8.2.frames.getD ((wI ((x8.2.frames.length:Int) - 1)).toNat) default).height) (j11.stack.length:Int)).toNat) j11.stack)),.k 1002,.k 1003] ⟨[(0,.p 1000 0)],zaa (Checker.mk j11.m j11.t j11.locals (List.take ((mnI ((x8.2.frames.getD ((wI ((x8.2.frames.length:Int) - 1)).toNat) default).height) (j11.stack.length:Int)).toNat) j11.stack) j11.frames j11.labels j11.most j11.bad)⟩ (a_ (a_ h12 (a_ (takeN h12) t_)) (a_ (takeL j11.stack ((mnI ((x8.2.frames.getD ((wI ((x8.2.frames.length:Int) - 1)).toNat) default).height) (j11.stack.length:Int)).toNat)) (a_ (takeF (eI .u8) j11.stack ((mnI ((x8.2.frames.getD ((wI ((x8.2.frames.length:Int) - 1)).toNat) default).height) (j11.stack.length:Int)).toNat)) t_))) ?_
 obtain ⟨h13,H⟩:=zaf H
 obtain ⟨h14,H⟩:=zaf H
 refine AW2.reg [(1000,0,12)] (by kernel_rfl) (YW.fin [] [.s true (List.take ((wI ((j11.frames.length:Int) - 1)).toNat) j11.frames).length (fl eFrame (List.take ((wI ((j11.frames.length:Int) - 1)).toNat) j11.frames)),.s true (List.take ((wI ((j11.labels.length:Int) - 1)).toNat) j11.labels).length (fl (eI .u8) (List.take ((wI ((j11.labels.length:Int) - 1)).toNat) j11.labels))] [] [] [.k 1000,.k 1001,.sl 1002 (List.take ((wI ((j11.frames.length:Int) - 1)).toNat) j11.frames).length (fl eFrame (List.take ((wI ((j11.frames.length:Int) - 1)).toNat) j11.frames)),.sl 1003 (List.take ((wI ((j11.labels.length:Int) - 1)).toNat) j11.labels).length (fl (eI .u8) (List.take ((wI ((j11.labels.length:Int) - 1)).toNat) j11.labels))] ⟨[],zaa (Checker.mk j11.m j11.t j11.locals (List.take ((mnI ((x8.2.frames.getD ((wI ((x8.2.frames.length:Int) - 1)).toNat) default).height) (j11.stack.length:Int)).toNat) j11.stack) (List.take ((wI ((j11.frames.length:Int) - 1)).toNat) j11.frames) (List.take ((wI ((j11.labels.length:Int) - 1)).toNat) j11.labels) j11.most j11.bad)⟩ (a_ (a_ h13 (a_ (takeN h13) (a_ h14 (a_ (takeN h14) t_)))) (a_ (takeL j11.frames ((wI ((j11.frames.length:Int) - 1)).toNat)) (a_ (takeF eFrame j11.frames ((wI ((j11.frames.length:Int) - 1)).toNat)) (a_ (takeL j11.labels ((wI ((j11.labels.length:Int) - 1)).toNat)) (a_ (takeF (eI .u8) j11.labels ((wI ((j11.labels.length:Int) - 1)).toNat)) t_))))) (by kernel_rfl) ?_)
 have H:=Option.some.inj H
 subst H
 exact retS_mkn3 [] [.k 1000,.k 1001,.k 1002,.k 1003] t_ (by kernel_rfl) (by kernel_rfl)
theorem ziw (k:Nat) (IH_valid_checker_inner:∀ (p0:Checker) (p1:List Instr) (p2:Int) (p3:Int) (r:Checker),zaj k p0 p1 p2 p3=some r→CM E 70 [.p 1000 0,.d (sVI p1),.d (.int .u8 p2),.d (.int .u8 p3)] (zaa p0) [] [1000] (fun a b => a=(.tup []:LV)∧b=zaa r)) (IH_valid_checker_control:∀ (p0:Checker) (p1:Instr) (r:Checker),zab k p0 p1=some r→CM E 55 [.p 1000 0,.agg (eD (eInstr p1))] (zaa p0) [] [1000] (fun a b => a=(.tup []:LV)∧b=zaa r)) (IH_valid_checker_list:∀ (p0:Checker) (p1:List Instr) (r:Checker),zal k p0 p1=some r→CM E 39 [.p 1000 0,.d (sVI p1)] (zaa p0) [] [1000] (fun a b => a=(.tup []:LV)∧b=zaa r)):∀ (p0:Checker) (p1:Instr) (r:Checker),zab (k+1) p0 p1=some r→CM E 55 [.p 1000 0,.agg (eD (eInstr p1))] (zaa p0) [] [1000] (fun a b => a=(.tup []:LV)∧b=zaa r):=by
 intro p0 p1 r H
 refine zkr (A:=zcF) zeu fun fr => ?_
 unfold zab at H
 refine AW2.seq ?_
 refine r_ [.k 3] [0,3] [] [.k 3,.k 1000,.k 1001,.k 1002,.k 1003] ⟨[(0,.p 1000 0),(3,.p 3 0)],[(3,.st false (eD (eInstr p1)))]++zaa p0⟩ (a_ t_ t_) ?_
 refine AW2.seq ?_
 refine r_ [] [0,3,7] [] [.k 3,.k 1000,.k 1001,.k 1002,.k 1003] ⟨[(0,.p 1000 0),(3,.p 3 0),(7,.d (.int .u8 p1.op))],[(3,.st false (eD (eInstr p1)))]++zaa p0⟩ (a_ t_ t_) ?_
 refine AW2.block ?_
 refine AW2.seq ?_
 refine r_ [] [0,3,7,11] [] [.k 3,.k 1000,.k 1001,.k 1002,.k 1003] ⟨[(0,.p 1000 0),(3,.p 3 0),(7,.d (.int .u8 p1.op)),(11,.d (.bool (p1.op==(0:Int))))],[(3,.st false (eD (eInstr p1)))]++zaa p0⟩ (a_ t_ t_) ?_
 refine AW2.cond (b:=(p1.op==(0:Int))) rfl (fun hc => ?_) (fun hc => ?_)
 ·replace H:=zao H hc
  obtain ⟨x1,hx2,H⟩:=bind_some H
  refine r_ [.c [1000,1001,1002,1003] [] [1000] (.tup []) (zaa x1)] [] [] [.k 1000,.k 1001,.k 1002,.k 1003] ⟨[],zaa x1⟩ (a_ (a_ (zcj p0 x1 hx2) t_) t_) ?_
  have H:=Option.some.inj H
  subst H
  exact retS_mkn3 [] [.k 1000,.k 1001,.k 1002,.k 1003] t_ (by kernel_rfl) (by kernel_rfl)
 ·replace H:=zap H hc
  refine AW2.seq ?_
  refine r_ [] [0,3,7,15] [] [.k 3,.k 1000,.k 1001,.k 1002,.k 1003] ⟨[(0,.p 1000 0),(3,.p 3 0),(7,.d (.int .u8 p1.op)),(15,.d (.bool (p1.op==(1:Int))))],[(3,.st false (eD (eInstr p1)))]++zaa p0⟩ (a_ t_ t_) ?_
  refine AW2.cond (b:=(p1.op==(1:Int))) rfl (fun hc => ?_) (fun hc => ?_)
  ·replace H:=zao H hc
   refine AW2.skip ?_
   have H:=Option.some.inj H
   subst H
   exact retS_mkn3 [] [.k 1000,.k 1001,.k 1002,.k 1003] t_ (by kernel_rfl) (by kernel_rfl)
  ·replace H:=zap H hc
   obtain ⟨j3,H66,H⟩:=bind_some H
   refine AW2.mid ⟨[(0,.p 1000 0),(3,.p 3 0),(7,.d (.int .u8 p1.op)),(17,.d (.bool j3))],[(3,.st false (eD (eInstr p1)))]++zaa p0⟩ ?_ ?_
   ·refine AW2.cond (b:=j3) rfl (fun hc => ?_) (fun hc => ?_)
    ·replace H:=zao H hc
     refine AW2.seq ?_
     obtain ⟨j6,H15,H⟩:=bind_some H
     refine AW2.reg [] rfl (YW.to ⟨[(0,.p 1000 0),(3,.p 3 0)],[(3,.st false (eD (eInstr p1)))]++zaa j6⟩ ?qh16 ?h16)
     case h16 => 
      have H:=H15
      rcases bT p0.bad with hc1 | hc1
      ·replace H:=zao H hc1
       have H:=Option.some.inj H
       subst H
       exact YW.fin [(25,true)] [] [0,3] [] [.k 3,.k 1000,.k 1001,.k 1002,.k 1003] _ (a_ (a_ hc1 (a_ hc1 (a_ hc1 (a_ hc1 (a_ hc1 t_))))) t_) (by kernel_rfl) rfl
      ·replace H:=zap H hc1
       obtain ⟨x4,hx5,H⟩:=bind_some H
       have H:=Option.some.inj H
       subst H
       exact YW.fin [(25,false)] [.r (.bool x4)] [0,3] [] [.k 3,.k 1000,.k 1001,.k 1002,.k 1003] _ (a_ (a_ hc1 (a_ hc1 (a_ hc1 (a_ (zdQ p1.result x4 hx5) (a_ hc1 (a_ hc1 t_)))))) t_) (by kernel_rfl) rfl
     refine AW2.seq ?_
     refine r_ [] [0,3,4] [] [.k 3,.k 1000,.k 1001,.k 1002,.k 1003] ⟨[(0,.p 1000 0),(3,.p 3 0),(4,.d (.int .u8 p1.result))],[(3,.st false (eD (eInstr p1)))]++zaa j6⟩ (a_ t_ t_) ?_
     obtain ⟨j7,H13,H⟩:=bind_some H
     refine AW2.mid ⟨[(0,.p 1000 0),(3,.p 3 0),(4,.d (.int .u8 j7))],[(3,.st false (eD (eInstr p1)))]++zaa j6⟩ ?_ ?_
     ·refine AW2.seq ?_
      obtain ⟨x8,hx9,H⟩:=bind_some H
      refine r_ [.c [1000,1001,1002,1003] [] [1000] (.tup []) (zaa x8)] [0,3] [] [.k 3,.k 1000,.k 1001,.k 1002,.k 1003] ⟨[(0,.p 1000 0),(3,.p 3 0)],[(3,.st false (eD (eInstr p1)))]++zaa x8⟩ (a_ (a_ (IH_valid_checker_inner j6 p1.body p1.result j7 x8 hx9) t_) t_) ?_
      obtain ⟨x10,hx11,H⟩:=bind_some H
      refine r_ [.c [1000,1001,1002,1003] [] [1000] (.tup []) (zaa x10)] [] [] [.k 1000,.k 1001,.k 1002,.k 1003] ⟨[],zaa x10⟩ (a_ (a_ (zaY x8 p1.result x10 hx11) t_) t_) ?_
      have H:=Option.some.inj H
      subst H
      exact retS_mkn3 [] [.k 1000,.k 1001,.k 1002,.k 1003] t_ (by kernel_rfl) (by kernel_rfl)
     ·have H:=H13
      refine AW2.seq ?_
      refine r_ [] [0,3,4,37] [] [.k 3,.k 1000,.k 1001,.k 1002,.k 1003] ⟨[(0,.p 1000 0),(3,.p 3 0),(4,.d (.int .u8 p1.result)),(37,.d (.bool (p1.op==(3:Int))))],[(3,.st false (eD (eInstr p1)))]++zaa j6⟩ (a_ t_ t_) ?_
      refine AW2.cond (b:=(p1.op==(3:Int))) rfl (fun hc => ?_) (fun hc => ?_)
      ·replace H:=zao H hc
       refine r_ [] [0,3,4] [] [.k 3,.k 1000,.k 1001,.k 1002,.k 1003] ⟨[(0,.p 1000 0),(3,.p 3 0),(4,.d (.int .u8 0))],[(3,.st false (eD (eInstr p1)))]++zaa j6⟩ (a_ t_ t_) ?_
       have H:=Option.some.inj H
       subst H
       exact zbc [0,3,4] [] [.k 3,.k 1000,.k 1001,.k 1002,.k 1003] t_ (by kernel_rfl)
      ·replace H:=zap H hc
       refine AW2.skip ?_
       have H:=Option.some.inj H
       subst H
       exact zbc [0,3,4] [] [.k 3,.k 1000,.k 1001,.k 1002,.k 1003] t_ (by kernel_rfl)
    ·replace H:=zap H hc
     refine AW2.seq ?_
     refine r_ [] [0,3,7,49] [] [.k 3,.k 1000,.k 1001,.k 1002,.k 1003] ⟨[(0,.p 1000 0),(3,.p 3 0),(7,.d (.int .u8 p1.op)),(49,.d (.bool (p1.op==(4:Int))))],[(3,.st false (eD (eInstr p1)))]++zaa p0⟩ (a_ t_ t_) ?_
     refine AW2.cond (b:=(p1.op==(4:Int))) rfl (fun hc => ?_) (fun hc => ?_)
     ·replace H:=zao H hc
      refine AW2.seq ?_
      obtain ⟨j19,H29,H⟩:=bind_some H
      refine AW2.reg [] rfl (YW.to ⟨[(0,.p 1000 0),(3,.p 3 0)],[(3,.st false (eD (eInstr p1)))]++zaa j19⟩ ?qh30 ?h30)
      case h30 => 
       have H:=H29
       rcases bT p0.bad with hc1 | hc1
       ·replace H:=zao H hc1
        have H:=Option.some.inj H
        subst H
        exact YW.fin [(56,true)] [] [0,3] [] [.k 3,.k 1000,.k 1001,.k 1002,.k 1003] _ (a_ (a_ hc1 (a_ hc1 (a_ hc1 (a_ hc1 (a_ hc1 t_))))) t_) (by kernel_rfl) rfl
       ·replace H:=zap H hc1
        obtain ⟨x17,hx18,H⟩:=bind_some H
        have H:=Option.some.inj H
        subst H
        exact YW.fin [(56,false)] [.r (.bool x17)] [0,3] [] [.k 3,.k 1000,.k 1001,.k 1002,.k 1003] _ (a_ (a_ hc1 (a_ hc1 (a_ hc1 (a_ (zdQ p1.result x17 hx18) (a_ hc1 (a_ hc1 t_)))))) t_) (by kernel_rfl) rfl
      refine AW2.seq ?_
      obtain ⟨x20,hx21,H⟩:=bind_some H
      refine r_ [.c [1000,1001,1002,1003] [] [1000] (.d (.int .u8 x20.1)) (zaa x20.2)] [0,3] [] [.k 3,.k 1000,.k 1001,.k 1002,.k 1003] ⟨[(0,.p 1000 0),(3,.p 3 0)],[(3,.st false (eD (eInstr p1)))]++zaa x20.2⟩ (a_ (a_ (zak j19 127 x20 hx21) t_) t_) ?_
      refine AW2.seq ?_
      obtain ⟨x22,hx23,H⟩:=bind_some H
      refine r_ [.c [1000,1001,1002,1003] [] [1000] (.tup []) (zaa x22)] [0,3] [] [.k 3,.k 1000,.k 1001,.k 1002,.k 1003] ⟨[(0,.p 1000 0),(3,.p 3 0)],[(3,.st false (eD (eInstr p1)))]++zaa x22⟩ (a_ (a_ (IH_valid_checker_inner x20.2 p1.body p1.result p1.result x22 hx23) t_) t_) ?_
      refine AW2.seq ?_
      obtain ⟨x24,hx25,H⟩:=bind_some H
      refine r_ [.c [1000,1001,1002,1003] [] [1000] (.tup []) (zaa x24)] [0,3] [] [.k 3,.k 1000,.k 1001,.k 1002,.k 1003] ⟨[(0,.p 1000 0),(3,.p 3 0)],[(3,.st false (eD (eInstr p1)))]++zaa x24⟩ (a_ (a_ (IH_valid_checker_inner x22 p1.els p1.result p1.result x24 hx25) t_) t_) ?_
      obtain ⟨x26,hx27,H⟩:=bind_some H
      refine r_ [.c [1000,1001,1002,1003] [] [1000] (.tup []) (zaa x26)] [] [] [.k 1000,.k 1001,.k 1002,.k 1003] ⟨[],zaa x26⟩ (a_ (a_ (zaY x24 p1.result x26 hx27) t_) t_) ?_
      have H:=Option.some.inj H
      subst H
      exact retS_mkn3 [] [.k 1000,.k 1001,.k 1002,.k 1003] t_ (by kernel_rfl) (by kernel_rfl)
     ·replace H:=zap H hc
      refine AW2.seq ?_
      refine r_ [] [0,3,7,86] [] [.k 3,.k 1000,.k 1001,.k 1002,.k 1003] ⟨[(0,.p 1000 0),(3,.p 3 0),(7,.d (.int .u8 p1.op)),(86,.d (.bool (p1.op==(12:Int))))],[(3,.st false (eD (eInstr p1)))]++zaa p0⟩ (a_ t_ t_) ?_
      refine AW2.cond (b:=(p1.op==(12:Int))) rfl (fun hc => ?_) (fun hc => ?_)
      ·replace H:=zao H hc
       refine AW2.seq ?_
       obtain ⟨x31,hx32,H⟩:=bind_some H
       obtain ⟨x33,hx34,H⟩:=bind_some H
       refine r_ [.c [1000,1001,1002,1003] [] [1000] (.d (.int .u8 x31.1)) (zaa x31.2),.c [1000,1001,1002,1003] [] [1000] (.d (.int .u8 x33.1)) (zaa x33.2)] [0] [] [.k 1000,.k 1001,.k 1002,.k 1003] ⟨[(0,.p 1000 0)],zaa x33.2⟩ (a_ (a_ (zck p0 p1.n x31 hx32) (a_ (zak x31.2 x31.1 x33 hx34) t_)) t_) ?_
       obtain ⟨x35,hx36,H⟩:=bind_some H
       refine r_ [.c [1000,1001,1002,1003] [] [1000] (.tup []) (zaa x35)] [] [] [.k 1000,.k 1001,.k 1002,.k 1003] ⟨[],zaa x35⟩ (a_ (a_ (zcj x33.2 x35 hx36) t_) t_) ?_
       have H:=Option.some.inj H
       subst H
       exact retS_mkn3 [] [.k 1000,.k 1001,.k 1002,.k 1003] t_ (by kernel_rfl) (by kernel_rfl)
      ·replace H:=zap H hc
       refine AW2.seq ?_
       refine r_ [] [0,3,7,96] [] [.k 3,.k 1000,.k 1001,.k 1002,.k 1003] ⟨[(0,.p 1000 0),(3,.p 3 0),(7,.d (.int .u8 p1.op)),(96,.d (.bool (p1.op==(13:Int))))],[(3,.st false (eD (eInstr p1)))]++zaa p0⟩ (a_ t_ t_) ?_
       refine AW2.cond (b:=(p1.op==(13:Int))) rfl (fun hc => ?_) (fun hc => ?_)
       ·replace H:=zao H hc
        refine AW2.seq ?_
        obtain ⟨x37,hx38,H⟩:=bind_some H
        refine r_ [.c [1000,1001,1002,1003] [] [1000] (.d (.int .u8 x37.1)) (zaa x37.2)] [0,3] [] [.k 3,.k 1000,.k 1001,.k 1002,.k 1003] ⟨[(0,.p 1000 0),(3,.p 3 0)],[(3,.st false (eD (eInstr p1)))]++zaa x37.2⟩ (a_ (a_ (zak p0 127 x37 hx38) t_) t_) ?_
        refine AW2.seq ?_
        obtain ⟨x39,hx40,H⟩:=bind_some H
        refine r_ [.c [1000,1001,1002,1003] [] [1000] (.d (.int .u8 x39.1)) (zaa x39.2)] [0,5] [] [.k 1000,.k 1001,.k 1002,.k 1003] ⟨[(0,.p 1000 0),(5,.d (.int .u8 x39.1))],zaa x39.2⟩ (a_ (a_ (zck x37.2 p1.n x39 hx40) t_) t_) ?_
        refine AW2.seq ?_
        obtain ⟨x41,hx42,H⟩:=bind_some H
        refine r_ [.c [1000,1001,1002,1003] [] [1000] (.d (.int .u8 x41.1)) (zaa x41.2)] [0,5] [] [.k 1000,.k 1001,.k 1002,.k 1003] ⟨[(0,.p 1000 0),(5,.d (.int .u8 x39.1))],zaa x41.2⟩ (a_ (a_ (zak x39.2 x39.1 x41 hx42) t_) t_) ?_
        obtain ⟨x43,hx44,H⟩:=bind_some H
        refine r_ [.c [1000,1001,1002,1003] [] [1000] (.tup []) (zaa x43)] [] [] [.k 1000,.k 1001,.k 1002,.k 1003] ⟨[],zaa x43⟩ (a_ (a_ (zaY x41.2 x39.1 x43 hx44) t_) t_) ?_
        have H:=Option.some.inj H
        subst H
        exact retS_mkn3 [] [.k 1000,.k 1001,.k 1002,.k 1003] t_ (by kernel_rfl) (by kernel_rfl)
       ·replace H:=zap H hc
        refine AW2.seq ?_
        refine r_ [] [0,3,7,110] [] [.k 3,.k 1000,.k 1001,.k 1002,.k 1003] ⟨[(0,.p 1000 0),(3,.p 3 0),(7,.d (.int .u8 p1.op)),(110,.d (.bool (p1.op==(14:Int))))],[(3,.st false (eD (eInstr p1)))]++zaa p0⟩ (a_ t_ t_) ?_
        refine AW2.cond (b:=(p1.op==(14:Int))) rfl (fun hc => ?_) (fun hc => ?_)
        ·replace H:=zao H hc
         obtain ⟨x45,hx46,H⟩:=bind_some H
         refine r_ [.c [1000,1001,1002,1003] [] [1000] (.tup []) (zaa x45)] [] [] [.k 1000,.k 1001,.k 1002,.k 1003] ⟨[],zaa x45⟩ (a_ (a_ (zkt k p0 p1 x45 hx46) t_) t_) ?_
         have H:=Option.some.inj H
         subst H
         exact retS_mkn3 [] [.k 1000,.k 1001,.k 1002,.k 1003] t_ (by kernel_rfl) (by kernel_rfl)
        ·replace H:=zap H hc
         refine AW2.seq ?_
         refine r_ [] [0,3,7,115] [] [.k 3,.k 1000,.k 1001,.k 1002,.k 1003] ⟨[(0,.p 1000 0),(3,.p 3 0),(7,.d (.int .u8 p1.op)),(115,.d (.bool (p1.op==(15:Int))))],[(3,.st false (eD (eInstr p1)))]++zaa p0⟩ (a_ t_ t_) ?_
         refine AW2.cond (b:=(p1.op==(15:Int))) rfl (fun hc => ?_) (fun hc => ?_)
         ·replace H:=zao H hc
          refine AW2.seq ?_
          obtain ⟨x47,hx48,H⟩:=bind_some H
          refine r_ [.c [1000,1001,1002,1003] [] [1000] (.d (.int .u8 x47.1)) (zaa x47.2)] [0] [] [.k 1000,.k 1001,.k 1002,.k 1003] ⟨[(0,.p 1000 0)],zaa x47.2⟩ (a_ (a_ (zak p0 p0.t.result x47 hx48) t_) t_) ?_
          obtain ⟨x49,hx50,H⟩:=bind_some H
          refine r_ [.c [1000,1001,1002,1003] [] [1000] (.tup []) (zaa x49)] [] [] [.k 1000,.k 1001,.k 1002,.k 1003] ⟨[],zaa x49⟩ (a_ (a_ (zcj x47.2 x49 hx50) t_) t_) ?_
          have H:=Option.some.inj H
          subst H
          exact retS_mkn3 [] [.k 1000,.k 1001,.k 1002,.k 1003] t_ (by kernel_rfl) (by kernel_rfl)
         ·replace H:=zap H hc
          refine AW2.seq ?_
          refine r_ [] [0,3,7,126] [] [.k 3,.k 1000,.k 1001,.k 1002,.k 1003] ⟨[(0,.p 1000 0),(3,.p 3 0),(7,.d (.int .u8 p1.op)),(126,.d (.bool (p1.op==(16:Int))))],[(3,.st false (eD (eInstr p1)))]++zaa p0⟩ (a_ t_ t_) ?_
          refine AW2.cond (b:=(p1.op==(16:Int))) rfl (fun hc => ?_) (fun hc => ?_)
          ·replace H:=zao H hc
           obtain ⟨x51,hx52,H⟩:=bind_some H
           obtain ⟨x53,hx54,H⟩:=bind_some H
           refine r_ [.c [1000,1001,1002,1003] [] [1000] (.agg (eD (eTyp x51.1))) (zaa x51.2),.c [1000,1001,1002,1003] [] [1000] (.tup []) (zaa x53)] [] [] [.k 1000,.k 1001,.k 1002,.k 1003] ⟨[],zaa x53⟩ (a_ (a_ (zhz p0 p1.n x51 hx52) (a_ (zdB x51.2 x51.1 x53 hx54) t_)) t_) ?_
           have H:=Option.some.inj H
           subst H
           exact retS_mkn3 [] [.k 1000,.k 1001,.k 1002,.k 1003] t_ (by kernel_rfl) (by kernel_rfl)
          ·replace H:=zap H hc
           refine AW2.seq ?_
           refine r_ [] [0,3,134] [] [.k 3,.k 1000,.k 1001,.k 1002,.k 1003] ⟨[(0,.p 1000 0),(3,.p 3 0),(134,.d (.bool (p1.op==(17:Int))))],[(3,.st false (eD (eInstr p1)))]++zaa p0⟩ (a_ t_ t_) ?_
           refine AW2.cond (b:=(p1.op==(17:Int))) rfl (fun hc => ?_) (fun hc => ?_)
           ·replace H:=zao H hc
            refine AW2.seq ?_
            obtain ⟨j55,H63,H⟩:=bind_some H
            refine AW2.reg [] rfl (YW.to ⟨[(0,.p 1000 0),(3,.p 3 0)],[(3,.st false (eD (eInstr p1)))]++zaa j55⟩ ?qh64 ?h64)
            case h64 => 
             have H:=H63
             rcases bT p0.bad with hc1 | hc1
             ·replace H:=zao H hc1
              have H:=Option.some.inj H
              subst H
              exact YW.fin [(141,true)] [] [0,3] [] [.k 3,.k 1000,.k 1001,.k 1002,.k 1003] _ (a_ (a_ hc1 (a_ hc1 (a_ hc1 (a_ hc1 (a_ hc1 (a_ hc1 (a_ hc1 (a_ hc1 t_)))))))) t_) (by kernel_rfl) rfl
             ·replace H:=zap H hc1
              have H:=Option.some.inj H
              subst H
              exact YW.fin [(141,false)] [] [0,3] [] [.k 3,.k 1000,.k 1001,.k 1002,.k 1003] _ (a_ (a_ hc1 (a_ hc1 (a_ hc1 (a_ hc1 (a_ hc1 (a_ hc1 (a_ hc1 (a_ hc1 t_)))))))) t_) (by kernel_rfl) rfl
            refine AW2.seq ?_
            obtain ⟨x56,hx57,H⟩:=bind_some H
            refine r_ [.c [1000,1001,1002,1003] [] [1000] (.d (.int .u8 x56.1)) (zaa x56.2)] [0,3] [] [.k 3,.k 1000,.k 1001,.k 1002,.k 1003] ⟨[(0,.p 1000 0),(3,.p 3 0)],[(3,.st false (eD (eInstr p1)))]++zaa x56.2⟩ (a_ (a_ (zak j55 127 x56 hx57) t_) t_) ?_
            obtain ⟨x58,hx59,H⟩:=bind_some H
            obtain ⟨x60,hx61,H⟩:=bind_some H
            refine r_ [.c [1000,1001,1002,1003] [] [1000] (.agg (eD (eTyp x58.1))) (zaa x58.2),.c [1000,1001,1002,1003] [] [1000] (.tup []) (zaa x60)] [] [] [.k 1000,.k 1001,.k 1002,.k 1003] ⟨[],zaa x60⟩ (a_ (a_ (zfp x56.2 p1.n x58 hx59) (a_ (zdB x58.2 x58.1 x60 hx61) t_)) t_) ?_
            have H:=Option.some.inj H
            subst H
            exact retS_mkn3 [] [.k 1000,.k 1001,.k 1002,.k 1003] t_ (by kernel_rfl) (by kernel_rfl)
           ·replace H:=zap H hc
            refine r_ [] [] [] [.k 1000,.k 1001,.k 1002,.k 1003] ⟨[],zaa (Checker.mk p0.m p0.t p0.locals p0.stack p0.frames p0.labels p0.most true)⟩ (a_ t_ t_) ?_
            have H:=Option.some.inj H
            subst H
            exact retS_mkn3 [] [.k 1000,.k 1001,.k 1002,.k 1003] t_ (by kernel_rfl) (by kernel_rfl)
   ·have H:=H66
    refine AW2.seq ?_
    refine r_ [] [0,3,7,17] [] [.k 3,.k 1000,.k 1001,.k 1002,.k 1003] ⟨[(0,.p 1000 0),(3,.p 3 0),(7,.d (.int .u8 p1.op)),(17,.d (.bool (p1.op==(2:Int))))],[(3,.st false (eD (eInstr p1)))]++zaa p0⟩ (a_ t_ t_) ?_
    refine AW2.cond (b:=(p1.op==(2:Int))) rfl (fun hc => ?_) (fun hc => ?_)
    ·replace H:=zao H hc
     refine AW2.skip ?_
     have H:=Option.some.inj H
     subst H
     exact zbc [0,3,7,17] [] [.k 3,.k 1000,.k 1001,.k 1002,.k 1003] t_ (by kernel_rfl)
    ·replace H:=zap H hc
     refine r_ [] [0,3,7,17] [] [.k 3,.k 1000,.k 1001,.k 1002,.k 1003] ⟨[(0,.p 1000 0),(3,.p 3 0),(7,.d (.int .u8 p1.op)),(17,.d (.bool (p1.op==(3:Int))))],[(3,.st false (eD (eInstr p1)))]++zaa p0⟩ (a_ t_ t_) ?_
     have H:=Option.some.inj H
     subst H
     exact zbc [0,3,7,17] [] [.k 3,.k 1000,.k 1001,.k 1002,.k 1003] t_ (by kernel_rfl)
theorem zlq (k:Nat) (IH_valid_checker_inner:∀ (p0:Checker) (p1:List Instr) (p2:Int) (p3:Int) (r:Checker),zaj k p0 p1 p2 p3=some r→CM E 70 [.p 1000 0,.d (sVI p1),.d (.int .u8 p2),.d (.int .u8 p3)] (zaa p0) [] [1000] (fun a b => a=(.tup []:LV)∧b=zaa r)) (IH_valid_checker_control:∀ (p0:Checker) (p1:Instr) (r:Checker),zab k p0 p1=some r→CM E 55 [.p 1000 0,.agg (eD (eInstr p1))] (zaa p0) [] [1000] (fun a b => a=(.tup []:LV)∧b=zaa r)) (IH_valid_checker_list:∀ (p0:Checker) (p1:List Instr) (r:Checker),zal k p0 p1=some r→CM E 39 [.p 1000 0,.d (sVI p1)] (zaa p0) [] [1000] (fun a b => a=(.tup []:LV)∧b=zaa r)):∀ (p0:Checker) (p1:List Instr) (r:Checker),zal (k+1) p0 p1=some r→CM E 39 [.p 1000 0,.d (sVI p1)] (zaa p0) [] [1000] (fun a b => a=(.tup []:LV)∧b=zaa r):=by
 intro p0 p1 r H
 refine zkr (A:=zdE) zfa fun fr => ?_
 unfold zal at H
 refine AW2.seq ?_
 refine r_ [] [0,6,7,8] [] [.k 1000,.k 1001,.k 1002,.k 1003] ⟨[(0,.p 1000 0),(6,.d (sVI p1)),(7,.d (.int .i64 (p1.length:Int))),(8,.d (.int .i64 0))],zaa p0⟩ (a_ t_ t_) ?_
 refine AW2.block ?_
 refine AW2.lpR (σ:=Checker×Int) (fun v => ⟨[(0,.p 1000 0),(6,.d (sVI p1)),(7,.d (.int .i64 (p1.length:Int))),(8,.d (.int .i64 v.2))],zaa v.1⟩) ?_ (v:=(p0,0)) H
 rintro rec5 ⟨a3,a4⟩ H
 dsimp only at H
 refine AW2.seq ?_
 refine r_ [] [0,6,7,8,9] [] [.k 1000,.k 1001,.k 1002,.k 1003] ⟨[(0,.p 1000 0),(6,.d (sVI p1)),(7,.d (.int .i64 (p1.length:Int))),(8,.d (.int .i64 a4)),(9,.d (.bool (decide (a4<(p1.length:Int)))))],zaa a3⟩ (a_ t_ t_) ?_
 refine AW2.seq ?_
 refine AW2.cond (b:=(decide (a4<(p1.length:Int)))) rfl (fun hc => ?_) (fun hc => ?_)
 ·replace H:=zao H hc
  refine AW2.skip ?_
  refine AW2.seq ?_
  refine AW2.block ?_
  refine AW2.seq ?_
  obtain ⟨h6,H⟩:=zaf H
  refine r_ [.e (eInstr (p1.getD a4.toNat default)),.k 5] [0,5,6,7,8] [] [.k 5,.k 1000,.k 1001,.k 1002,.k 1003] ⟨[(0,.p 1000 0),(5,.p 5 0),(6,.d (sVI p1)),(7,.d (.int .i64 (p1.length:Int))),(8,.d (.int .i64 a4))],[(5,.st false (eD (eInstr (p1.getD a4.toNat default))))]++zaa a3⟩ (a_ (a_ h6 (a_ (flI_ix h6) t_)) t_) ?_
  refine AW2.seq ?_
  refine AW2.seq ?_
  refine r_ [] [0,5,6,7,8,15] [] [.k 5,.k 1000,.k 1001,.k 1002,.k 1003] ⟨[(0,.p 1000 0),(5,.p 5 0),(6,.d (sVI p1)),(7,.d (.int .i64 (p1.length:Int))),(8,.d (.int .i64 a4)),(15,.d (.bool a3.bad))],[(5,.st false (eD (eInstr (p1.getD a4.toNat default))))]++zaa a3⟩ (a_ t_ t_) ?_
  refine AW2.cond (b:=a3.bad) rfl (fun hc => ?_) (fun hc => ?_)
  ·replace H:=zao H hc
   refine AW2.ret ?_
   have H:=Option.some.inj H
   subst H
   exact retS_mk3 [] [.k 1000,.k 1001,.k 1002,.k 1003] t_ (by kernel_rfl) (by kernel_rfl)
  ·replace H:=zap H hc
   refine AW2.skip ?_
   refine AW2.seq ?_
   refine r_ [] [0,5,6,7,8,18] [] [.k 5,.k 1000,.k 1001,.k 1002,.k 1003] ⟨[(0,.p 1000 0),(5,.p 5 0),(6,.d (sVI p1)),(7,.d (.int .i64 (p1.length:Int))),(8,.d (.int .i64 a4)),(18,.d (.bool (decide (((p1.getD a4.toNat default).op)<(26:Int)))))],[(5,.st false (eD (eInstr (p1.getD a4.toNat default))))]++zaa a3⟩ (a_ t_ t_) ?_
   refine AW2.cond (b:=(decide (((p1.getD a4.toNat default).op)<(26:Int)))) rfl (fun hc => ?_) (fun hc => ?_)
   ·replace H:=zao H hc
    obtain ⟨x7,hx8,H⟩:=bind_some H
    refine r_ [.c [1000,1001,1002,1003] [] [1000] (.tup []) (zaa x7)] [0,6,7,8] [] [.k 1000,.k 1001,.k 1002,.k 1003] ⟨[(0,.p 1000 0),(6,.d (sVI p1)),(7,.d (.int .i64 (p1.length:Int))),(8,.d (.int .i64 a4))],zaa x7⟩ (a_ (a_ (IH_valid_checker_control a3 (p1.getD a4.toNat default) x7 hx8) t_) t_) ?_
    refine r_ [] [0,6,7,8] [] [.k 1000,.k 1001,.k 1002,.k 1003] ⟨[(0,.p 1000 0),(6,.d (sVI p1)),(7,.d (.int .i64 (p1.length:Int))),(8,.d (.int .i64 (wI (a4+1))))],zaa x7⟩ (a_ t_ t_) ?_
    exact ⟨(x7,(wI (a4+1))),H,zbc [0,6,7,8] [] [.k 1000,.k 1001,.k 1002,.k 1003] t_ (by kernel_rfl)⟩
   ·replace H:=zap H hc
    obtain ⟨x9,hx10,H⟩:=bind_some H
    refine r_ [.c [1000,1001,1002,1003] [] [1000] (.tup []) (zaa x9)] [0,6,7,8] [] [.k 1000,.k 1001,.k 1002,.k 1003] ⟨[(0,.p 1000 0),(6,.d (sVI p1)),(7,.d (.int .i64 (p1.length:Int))),(8,.d (.int .i64 a4))],zaa x9⟩ (a_ (a_ (zjf a3 (p1.getD a4.toNat default) x9 hx10) t_) t_) ?_
    refine r_ [] [0,6,7,8] [] [.k 1000,.k 1001,.k 1002,.k 1003] ⟨[(0,.p 1000 0),(6,.d (sVI p1)),(7,.d (.int .i64 (p1.length:Int))),(8,.d (.int .i64 (wI (a4+1))))],zaa x9⟩ (a_ t_ t_) ?_
    exact ⟨(x9,(wI (a4+1))),H,zbc [0,6,7,8] [] [.k 1000,.k 1001,.k 1002,.k 1003] t_ (by kernel_rfl)⟩
 ·replace H:=zap H hc
  refine AW2.exit ?_
  have H:=Option.some.inj H
  subst H
  exact retS_mkn3 [] [.k 1000,.k 1001,.k 1002,.k 1003] t_ (by kernel_rfl) (by kernel_rfl)
theorem zgX:∀ k,(∀ (p0:Checker) (p1:List Instr) (p2:Int) (p3:Int) (r:Checker),zaj k p0 p1 p2 p3=some r→CM E 70 [.p 1000 0,.d (sVI p1),.d (.int .u8 p2),.d (.int .u8 p3)] (zaa p0) [] [1000] (fun a b => a=(.tup []:LV)∧b=zaa r))∧(∀ (p0:Checker) (p1:Instr) (r:Checker),zab k p0 p1=some r→CM E 55 [.p 1000 0,.agg (eD (eInstr p1))] (zaa p0) [] [1000] (fun a b => a=(.tup []:LV)∧b=zaa r))∧(∀ (p0:Checker) (p1:List Instr) (r:Checker),zal k p0 p1=some r→CM E 39 [.p 1000 0,.d (sVI p1)] (zaa p0) [] [1000] (fun a b => a=(.tup []:LV)∧b=zaa r)):=by
 intro k
 induction k with
 | zero => exact ⟨fun _ _ _ _ _ H => (by cases H),fun _ _ _ H => (by cases H),fun _ _ _ H => (by cases H)⟩
 | succ k ih => 
  obtain ⟨i0,i1,i2⟩:=ih
  exact ⟨zkh k i0 i1 i2,ziw k i0 i1 i2,zlq k i0 i1 i2⟩
theorem zlu (k:Nat):∀ (p0:Checker) (p1:List Instr) (r:Checker),zal k p0 p1=some r→CM E 39 [.p 1000 0,.d (sVI p1)] (zaa p0) [] [1000] (fun a b => a=(.tup []:LV)∧b=zaa r):=(zgX k).2.2
def zds (K:Nat) (p0:Mdl) (p1:Int):Option (Option Checker×Option Int):=(if (decide (p1<(0:Int)))=true then some true else (if (decide (p1≥(p0.funcs.length:Int)))=true then some true else gd (0≤p1∧p1<(p0.funcs.length:Int)) (if (decide (((p0.funcs.getD p1.toNat default).type_)≥(IntKind.wrap .u32 (p0.types.length:Int))))=true then some true else ((zeE K p0).bind fun x2 => some (!x2))))).bind (fun j4 => (if j4=true then some (none,(some 1)) else gd (0≤p1∧p1<(p0.funcs.length:Int)) (gd (0≤((p0.funcs.getD p1.toNat default).type_)∧((p0.funcs.getD p1.toNat default).type_)<(p0.types.length:Int)) (gd (0≤p1∧p1<(p0.funcs.length:Int)) ((zaL K ([(p0.types.getD ((p0.funcs.getD p1.toNat default).type_).toNat default).params,(p0.funcs.getD p1.toNat default).locals]:List (List Int))).bind fun x8 => gd (0≤p1∧p1<(p0.funcs.length:Int)) ((zal K (Checker.mk p0 (p0.types.getD ((p0.funcs.getD p1.toNat default).type_).toNat default) x8 ([]:List Int) ([(Frame.mk 0 false false)]:List Frame) ([(p0.types.getD ((p0.funcs.getD p1.toNat default).type_).toNat default).result]:List Int) 0 false) ((p0.funcs.getD p1.toNat default).body)).bind fun x11 => ((zac x11 ((p0.types.getD ((p0.funcs.getD p1.toNat default).type_).toNat default).result)).bind fun x13 => (if (x13.2.bad||(decide ((x13.2.stack.length:Int)>(0:Int))))=true then some (none,(some 7)) else some ((some x13.2),none)))))))))
theorem ztL (K:Nat) (p0:Mdl) (p1:Int) (r:Option Checker×Option Int) (H:zds K p0 p1=some r):CF E 24 [.agg (eMdl p0),.int .i64 p1] (.tup [.pt (r.1.map eChecker),.err 45 r.2]):=by
 refine zeg (A:=ziX) zma rfl fun fr => ?_
 unfold zds at H
 refine AW2.seq ?_
 refine r_ [.k 2] [1,2] [] [.k 2] ⟨[(1,.d (.int .i64 p1)),(2,.p 2 0)],[(2,.st false (eD (eMdl p0)))]⟩ (a_ t_ t_) ?_
 refine AW2.seq ?_
 refine AW2.seq ?_
 obtain ⟨j4,H17,H⟩:=bind_some H
 refine AW2.reg [] rfl (YW.to ⟨[(1,.d (.int .i64 p1)),(2,.p 2 0),(34,.d (.bool j4))],[(2,.st false (eD (eMdl p0)))]⟩ ?qh18 ?h18)
 case h18 => 
  have H:=H17
  rcases bT (decide (p1<(0:Int))) with hc1 | hc1
  ·replace H:=zao H hc1
   have H:=Option.some.inj H
   subst H
   exact YW.fin [(10,true),(17,true),(30,true)] [] [1,2,34] [] [.k 2] _ (a_ (a_ hc1 (a_ hc1 (a_ hc1 (a_ hc1 (a_ hc1 (a_ hc1 (a_ (Eq.refl true) (a_ (Eq.refl true) (a_ (Eq.refl true) (a_ (Eq.refl true) (a_ (Eq.refl true) (a_ (Eq.refl true) (a_ (Eq.refl true) (a_ (Eq.refl true) (a_ (Eq.refl true) (a_ (Eq.refl true) (a_ (Eq.refl true) (a_ (Eq.refl true) (a_ (Eq.refl true) (a_ (Eq.refl true) (a_ (Eq.refl true) (a_ (Eq.refl true) t_)))))))))))))))))))))) t_) (by kernel_rfl) rfl
  ·replace H:=zap H hc1
   rcases bT (decide (p1≥(p0.funcs.length:Int))) with hc2 | hc2
   ·replace H:=zao H hc2
    have H:=Option.some.inj H
    subst H
    exact YW.fin [(10,false),(17,true),(30,true)] [] [1,2,34] [] [.k 2] _ (a_ (a_ hc1 (a_ hc1 (a_ hc1 (a_ hc1 (a_ hc1 (a_ hc1 (a_ hc2 (a_ hc2 (a_ hc2 (a_ hc2 (a_ hc2 (a_ hc2 (a_ hc2 (a_ hc2 (a_ hc2 (a_ hc2 (a_ hc2 (a_ hc2 (a_ (Eq.refl true) (a_ (Eq.refl true) (a_ (Eq.refl true) (a_ (Eq.refl true) t_)))))))))))))))))))))) t_) (by kernel_rfl) rfl
   ·replace H:=zap H hc2
    obtain ⟨h1,H⟩:=zaf H
    rcases bT (decide (((p0.funcs.getD p1.toNat default).type_)≥(IntKind.wrap .u32 (p0.types.length:Int)))) with hc3 | hc3
    ·replace H:=zao H hc3
     have H:=Option.some.inj H
     subst H
     exact YW.fin [(10,false),(17,false),(30,true)] [] [1,2,34] [] [.k 2] _ (a_ (a_ hc1 (a_ hc1 (a_ hc1 (a_ hc1 (a_ hc1 (a_ hc1 (a_ hc2 (a_ hc2 (a_ hc2 (a_ hc2 (a_ h1 (a_ hc2 (a_ hc2 (a_ hc2 (a_ hc2 (a_ hc2 (a_ hc2 (a_ hc2 (a_ hc2 (a_ hc3 (a_ hc3 (a_ hc3 (a_ hc3 t_))))))))))))))))))))))) t_) (by kernel_rfl) rfl
    ·replace H:=zap H hc3
     obtain ⟨x2,hx3,H⟩:=bind_some H
     have H:=Option.some.inj H
     subst H
     exact YW.fin [(10,false),(17,false),(30,false)] [.r (.bool x2)] [1,2,34] [] [.k 2] _ (a_ (a_ hc1 (a_ hc1 (a_ hc1 (a_ hc1 (a_ hc1 (a_ hc1 (a_ hc2 (a_ hc2 (a_ hc2 (a_ hc2 (a_ h1 (a_ hc2 (a_ hc2 (a_ hc2 (a_ hc2 (a_ hc2 (a_ hc2 (a_ hc2 (a_ hc2 (a_ hc3 (a_ hc3 (a_ (zdv K p0 x2 hx3) (a_ hc3 (a_ hc3 t_)))))))))))))))))))))))) t_) (by kernel_rfl) rfl
 refine AW2.cond (b:=j4) rfl (fun hc => ?_) (fun hc => ?_)
 ·replace H:=zao H hc
  refine AW2.seq ?_
  refine r_ [] [4,5] [] [] ⟨[(4,.d .nilp),(5,.d (.err 45 (some 1)))],[]⟩ (a_ t_ t_) ?_
  refine AW2.ret ?_
  have H:=Option.some.inj H
  subst H
  exact retP_mk2 t_ (by kernel_rfl)
 ·replace H:=zap H hc
  refine AW2.skip ?_
  refine AW2.seq ?_
  obtain ⟨h5,H⟩:=zaf H
  obtain ⟨h6,H⟩:=zaf H
  refine r_ [.k 6] [1,2,6] [] [.k 2,.k 6] ⟨[(1,.d (.int .i64 p1)),(2,.p 2 0),(6,.p 6 0)],[(2,.st false (eD (eMdl p0))),(6,.st false (eD (eTyp (p0.types.getD ((p0.funcs.getD p1.toNat default).type_).toNat default))))]⟩ (a_ (a_ h5 (a_ h6 t_)) t_) ?_
  refine AW2.seq ?_
  obtain ⟨h7,H⟩:=zaf H
  obtain ⟨x8,hx9,H⟩:=bind_some H
  refine r_ [.sb ([(p0.types.getD ((p0.funcs.getD p1.toNat default).type_).toNat default).params,(p0.funcs.getD p1.toNat default).locals]:List (List Int)).length (fl (eL (eI .u8)) ([(p0.types.getD ((p0.funcs.getD p1.toNat default).type_).toNat default).params,(p0.funcs.getD p1.toNat default).locals]:List (List Int))),.r (sV (eI .u8) x8),.k 1000] [1,2,6,7] [] [.k 2,.k 6,.k 1000] ⟨[(1,.d (.int .i64 p1)),(2,.p 2 0),(6,.p 6 0),(7,.p 1000 0)],[(2,.st false (eD (eMdl p0))),(6,.st false (eD (eTyp (p0.types.getD ((p0.funcs.getD p1.toNat default).type_).toNat default)))),(1000,.st false [.d (sV eTyp p0.types),.d (sV eFnc p0.funcs),.d (sV eLim p0.tables),.d (sV eLim p0.memories),.d (sV eGlo p0.globals),.d (sV eXpo p0.exports),.d (sV eEle p0.elems),.d (sV eDat p0.datas),.d (sV (eI .u8) ((p0.types.getD ((p0.funcs.getD p1.toNat default).type_).toNat default).params)),.d (.int .u8 ((p0.types.getD ((p0.funcs.getD p1.toNat default).type_).toNat default).result)),.d (sV (eI .u8) x8),.d .nils,.d .nils,.d .nils,.d (.int .i64 0),.d (.bool false)])]⟩ (a_ (a_ h7 (a_ (litF (eL (eI .u8)) ([(p0.types.getD ((p0.funcs.getD p1.toNat default).type_).toNat default).params,(p0.funcs.getD p1.toNat default).locals]:List (List Int))) (a_ (zeK K ([(p0.types.getD ((p0.funcs.getD p1.toNat default).type_).toNat default).params,(p0.funcs.getD p1.toNat default).locals]:List (List Int)) x8 hx9) t_))) t_) ?_
  refine AW2.seq ?_
  refine AW2.reg [(1000,0,12)] (by kernel_rfl) (YW.fin [] [.ks true 1002 ([(Frame.mk 0 false false)]:List Frame).length (fl eFrame ([(Frame.mk 0 false false)]:List Frame)),.ks true 1003 ([(p0.types.getD ((p0.funcs.getD p1.toNat default).type_).toNat default).result]:List Int).length (fl (eI .u8) ([(p0.types.getD ((p0.funcs.getD p1.toNat default).type_).toNat default).result]:List Int))] [1,2,6,7] [] [.k 2,.k 6,.k 1000,.k 1002,.k 1003] ⟨[(1,.d (.int .i64 p1)),(2,.p 2 0),(6,.p 6 0),(7,.p 1000 0)],[(2,.st false (eD (eMdl p0))),(6,.st false (eD (eTyp (p0.types.getD ((p0.funcs.getD p1.toNat default).type_).toNat default)))),(1000,.st false [.d (sV eTyp p0.types),.d (sV eFnc p0.funcs),.d (sV eLim p0.tables),.d (sV eLim p0.memories),.d (sV eGlo p0.globals),.d (sV eXpo p0.exports),.d (sV eEle p0.elems),.d (sV eDat p0.datas),.d (sV (eI .u8) ((p0.types.getD ((p0.funcs.getD p1.toNat default).type_).toNat default).params)),.d (.int .u8 ((p0.types.getD ((p0.funcs.getD p1.toNat default).type_).toNat default).result)),.d (sV (eI .u8) x8),.d .nils,.ls 1002 0 ([(Frame.mk 0 false false)]:List Frame).length,.ls 1003 0 ([(p0.types.getD ((p0.funcs.getD p1.toNat default).type_).toNat default).result]:List Int).length,.d (.int .i64 0),.d (.bool false)]),(1002,.sl false 3 ([(Frame.mk 0 false false)]:List Frame).length (fl eFrame ([(Frame.mk 0 false false)]:List Frame))),(1003,.sl false 1 ([(p0.types.getD ((p0.funcs.getD p1.toNat default).type_).toNat default).result]:List Int).length (fl (eI .u8) ([(p0.types.getD ((p0.funcs.getD p1.toNat default).type_).toNat default).result]:List Int)))]⟩ (a_ (a_ (litK eFrame ([(Frame.mk 0 false false)]:List Frame) (fun _ => rfl)) (a_ (litK (eI .u8) ([(p0.types.getD ((p0.funcs.getD p1.toNat default).type_).toNat default).result]:List Int) (fun _ => rfl)) t_)) t_) (by kernel_rfl) ?_)
  refine AW2.seq ?_
  refine AW2.cv [.c 1000 11 1001 1 (fl (eI .u8) ([]:List Int))] [1,2,6,7] [] [.k 2,.k 6,.k 1000,.k 1001,.k 1002,.k 1003] ⟨[(1,.d (.int .i64 p1)),(2,.p 2 0),(6,.p 6 0),(7,.p 1000 0)],[(2,.st false (eD (eMdl p0))),(6,.st false (eD (eTyp (p0.types.getD ((p0.funcs.getD p1.toNat default).type_).toNat default))))]++zaa (Checker.mk p0 (p0.types.getD ((p0.funcs.getD p1.toNat default).type_).toNat default) x8 ([]:List Int) ([(Frame.mk 0 false false)]:List Frame) ([(p0.types.getD ((p0.funcs.getD p1.toNat default).type_).toNat default).result]:List Int) 0 false)⟩ t_ (by kernel_rfl) ?_
  obtain ⟨h10,H⟩:=zaf H
  obtain ⟨x11,hx12,H⟩:=bind_some H
  refine r_ [.c [1000,1001,1002,1003] [] [1000] (.tup []) (zaa x11)] [6,7] [] [.k 6,.k 1000,.k 1001,.k 1002,.k 1003] ⟨[(6,.p 6 0),(7,.p 1000 0)],[(6,.st false (eD (eTyp (p0.types.getD ((p0.funcs.getD p1.toNat default).type_).toNat default))))]++zaa x11⟩ (a_ (a_ h10 (a_ (zlu K (Checker.mk p0 (p0.types.getD ((p0.funcs.getD p1.toNat default).type_).toNat default) x8 ([]:List Int) ([(Frame.mk 0 false false)]:List Frame) ([(p0.types.getD ((p0.funcs.getD p1.toNat default).type_).toNat default).result]:List Int) 0 false) ((p0.funcs.getD p1.toNat default).body) x11 hx12) t_)) t_) ?_
  refine AW2.seq ?_
  obtain ⟨x13,hx14,H⟩:=bind_some H
  refine r_ [.c [1000,1001,1002,1003] [] [1000] (.d (.int .u8 x13.1)) (zaa x13.2)] [7] [] [.k 1000,.k 1001,.k 1002,.k 1003] ⟨[(7,.p 1000 0)],zaa x13.2⟩ (a_ (a_ (zak x11 ((p0.types.getD ((p0.funcs.getD p1.toNat default).type_).toNat default).result) x13 hx14) t_) t_) ?_
  refine AW2.seq ?_
  refine AW2.seq ?_
  refine AW2.reg [] rfl (YW.to ⟨[(7,.p 1000 0),(94,.d (.bool (x13.2.bad||(decide ((x13.2.stack.length:Int)>(0:Int))))))],zaa x13.2⟩ ?qh15 ?h15)
  case h15 => 
   rcases bT x13.2.bad with hc1 | hc1
   ·exact YW.fin [(87,true)] [] [7,94] [(94,.d (.bool (x13.2.bad||(decide ((x13.2.stack.length:Int)>(0:Int))))))] [.k 1000,.k 1001,.k 1002,.k 1003] _ (a_ (a_ hc1 (a_ hc1 (a_ hc1 (a_ hc1 (a_ hc1 (a_ hc1 (a_ hc1 t_))))))) (a_ (ovB (orT (b:=(decide ((x13.2.stack.length:Int)>(0:Int)))) hc1)) t_)) (by kernel_rfl) rfl
   ·exact YW.fin [(87,false)] [] [7,94] [(94,.d (.bool (x13.2.bad||(decide ((x13.2.stack.length:Int)>(0:Int))))))] [.k 1000,.k 1001,.k 1002,.k 1003] _ (a_ (a_ hc1 (a_ hc1 (a_ hc1 (a_ hc1 (a_ hc1 (a_ hc1 (a_ hc1 t_))))))) (a_ (ovB (Eq.trans (orF (b:=(decide ((x13.2.stack.length:Int)>(0:Int)))) hc1) (Eq.refl (decide ((x13.2.stack.length:Int)>(0:Int)))))) t_)) (by kernel_rfl) rfl
  refine AW2.cond (b:=(x13.2.bad||(decide ((x13.2.stack.length:Int)>(0:Int))))) rfl (fun hc => ?_) (fun hc => ?_)
  ·replace H:=zao H hc
   refine AW2.seq ?_
   refine r_ [] [4,5] [] [] ⟨[(4,.d .nilp),(5,.d (.err 45 (some 7)))],[]⟩ (a_ t_ t_) ?_
   refine AW2.ret ?_
   have H:=Option.some.inj H
   subst H
   exact retP_mk2 t_ (by kernel_rfl)
  ·replace H:=zap H hc
   refine AW2.skip ?_
   refine AW2.seq ?_
   refine r_ [] [4,5] [] [.k 1000,.k 1001,.k 1002,.k 1003] ⟨[(4,.p 1000 0),(5,.d .nili)],zaa x13.2⟩ (a_ t_ t_) ?_
   refine AW2.ret ?_
   have H:=Option.some.inj H
   subst H
   exact retP_mk2 (a_ (Nat.le_refl x13.2.stack.length) (a_ (dfl (eI .u8) (zvO .u8) x13.2.stack) (a_ (Nat.le_refl x13.2.frames.length) (a_ (dfl eFrame zwl x13.2.frames) (a_ (Nat.le_refl x13.2.labels.length) (a_ (dfl (eI .u8) (zvO .u8) x13.2.labels) t_)))))) (by kernel_rfl)
def zeY (K:Nat) (p0:Mdl) (p1:Int):Option (Option Int):=((zds K p0 p1).bind fun x1 => some x1.2)
theorem zuI (K:Nat) (p0:Mdl) (p1:Int) (r:Option Int) (H:zeY K p0 p1=some r):CF E 6 [.agg (eMdl p0),.int .i64 p1] (.err 45 r):=by
 refine zeg (A:=zkw) zmt rfl fun fr => ?_
 unfold zeY at H
 refine AW2.seq ?_
 refine r_ [.k 2] [1,2] [] [.k 2] ⟨[(1,.d (.int .i64 p1)),(2,.p 2 0)],[(2,.st false (eD (eMdl p0)))]⟩ (a_ t_ t_) ?_
 refine AW2.seq ?_
 obtain ⟨x1,hx2,H⟩:=bind_some H
 refine r_ [.r (.tup [.pt (x1.1.map eChecker),.err 45 x1.2])] [6] [] [] ⟨[(6,.d (.err 45 x1.2))],[]⟩ (a_ (a_ (ztL K p0 p1 x1 hx2) t_) t_) ?_
 refine AW2.seq ?_
 refine r_ [] [4] [] [] ⟨[(4,.d (.err 45 x1.2))],[]⟩ (a_ t_ t_) ?_
 refine AW2.ret ?_
 have H:=Option.some.inj H
 subst H
 exact retP_mk2 t_ (by kernel_rfl)
def zbb (p0:Lim) (q0:Int):Option (Bool):=some (decide (p0.min_>q0))
theorem zeW (p0:Lim) (q0:Int) (r:Bool) (H:zbb p0 q0=some r):CF E 29 [.agg (eLim p0),.fp ((eI .u32) q0)] (.bool r):=by
 refine zeg (A:=zeX) zgL rfl fun fr => ?_
 unfold zbb at H
 refine AW2.seq ?_
 refine r_ [.k 2] [1,2] [] [.k 2] ⟨[(1,.d (.fp ((eI .u32) q0))),(2,.p 2 0)],[(2,.st false (eD (eLim p0)))]⟩ (a_ t_ t_) ?_
 refine AW2.seq ?_
 refine r_ [] [3] [] [] ⟨[(3,.d (.bool (decide (p0.min_>q0))))],[]⟩ (a_ t_ t_) ?_
 refine AW2.ret ?_
 have H:=Option.some.inj H
 subst H
 exact retP_mk2 t_ (by kernel_rfl)
def zcv (p0:Int):Option (Int):=some p0
theorem zfq (p0:Int) (r:Int) (H:zcv p0=some r):CF E 20 [.int .u32 p0] (.func 29 [.fp ((eI .u32) r)]):=by
 refine zeg (A:=zgc) zje rfl fun fr => ?_
 unfold zcv at H
 refine AW2.seq ?_
 refine r_ [.k 1] [1] [] [.k 1] ⟨[(1,.p 1 0)],[(1,.st false (eD ((eI .u32) p0)))]⟩ (a_ t_ t_) ?_
 refine AW2.seq ?_
 refine r_ [] [2] [] [.k 1] ⟨[(2,.func 29 [.p 1 0])],[(1,.st false (eD ((eI .u32) p0)))]⟩ (a_ t_ t_) ?_
 refine AW2.ret ?_
 have H:=Option.some.inj H
 subst H
 exact retP_mk2 t_ (by kernel_rfl)
def zai:Nat→(List Lim)→(Lim→Option Bool)→Int→Option (Int)
 | 0,_,_,_ => none
 | k+1,p0,pp1,a2 => (if (decide (a2<(p0.length:Int)))=true then gd (0≤a2∧a2<(p0.length:Int)) ((pp1 (p0.getD a2.toNat default)).bind fun x4 => (if x4=true then some a2 else zai k p0 pp1 (wI (a2+1)))) else some (-1))
def zaq (K:Nat) (p0:List Lim) (pp1:Lim→Option Bool):Option (Int):=zai K p0 pp1 0
theorem zcC (K:Nat) (p0:List Lim) (pf1:Nat) (pp1:Lim→Option Bool) (hp1:∀ x0 b,pp1 x0=some b→CF E pf1 [.agg (eLim x0)] (.bool b)) (r:Int) (H:zaq K p0 pp1=some r):CF E 30 [sV eLim p0,.func pf1 []] (.int .i64 r):=by
 refine zeg (A:=zaJ) zaT rfl fun fr => ?_
 unfold zaq at H
 refine AW2.seq ?_
 refine r_ [] [0,1] [] [] ⟨[(0,.d (sV eLim p0)),(1,.d (.func pf1 []))],[]⟩ (a_ t_ t_) ?_
 refine AW2.seq ?_
 refine AW2.seq ?_
 refine r_ [] [0,1,7,8] [] [] ⟨[(0,.d (sV eLim p0)),(1,.d (.func pf1 [])),(7,.d (.int .i64 (p0.length:Int))),(8,.d (.int .i64 0))],[]⟩ (a_ t_ t_) ?_
 refine AW2.block ?_
 refine AW2.lp (σ:=Int) (fun v => ⟨[(0,.d (sV eLim p0)),(1,.d (.func pf1 [])),(7,.d (.int .i64 (p0.length:Int))),(8,.d (.int .i64 v))],[]⟩) (fun k v => zai k p0 pp1 v=some r) ?_ K 0 H
 rintro k a2 H
 cases k with
 | zero => cases H
 | succ k => 
 unfold zai at H
 refine AW2.seq ?_
 refine r_ [] [0,1,7,8,9] [] [] ⟨[(0,.d (sV eLim p0)),(1,.d (.func pf1 [])),(7,.d (.int .i64 (p0.length:Int))),(8,.d (.int .i64 a2)),(9,.d (.bool (decide (a2<(p0.length:Int)))))],[]⟩ (a_ t_ t_) ?_
 refine AW2.seq ?_
 refine AW2.cond (b:=(decide (a2<(p0.length:Int)))) rfl (fun hc => ?_) (fun hc => ?_)
 ·replace H:=zao H hc
  refine AW2.skip ?_
  refine AW2.seq ?_
  refine AW2.block ?_
  refine AW2.seq ?_
  refine r_ [] [0,1,5,7,8] [] [] ⟨[(0,.d (sV eLim p0)),(1,.d (.func pf1 [])),(5,.d (.int .i64 a2)),(7,.d (.int .i64 (p0.length:Int))),(8,.d (.int .i64 a2))],[]⟩ (a_ t_ t_) ?_
  refine AW2.seq ?_
  obtain ⟨h3,H⟩:=zaf H
  obtain ⟨x4,hx5,H⟩:=bind_some H
  refine r_ [.r (.bool x4)] [0,1,5,7,8,16] [] [] ⟨[(0,.d (sV eLim p0)),(1,.d (.func pf1 [])),(5,.d (.int .i64 a2)),(7,.d (.int .i64 (p0.length:Int))),(8,.d (.int .i64 a2)),(16,.d (.bool x4))],[]⟩ (a_ (a_ h3 (a_ (hp1 (p0.getD a2.toNat default) x4 hx5) t_)) t_) ?_
  refine AW2.cond (b:=x4) rfl (fun hc => ?_) (fun hc => ?_)
  ·replace H:=zao H hc
   refine AW2.seq ?_
   refine r_ [] [4] [] [] ⟨[(4,.d (.int .i64 a2))],[]⟩ (a_ t_ t_) ?_
   refine AW2.ret ?_
   have H:=Option.some.inj H
   subst H
   exact retP_mk2 t_ (by kernel_rfl)
  ·replace H:=zap H hc
   refine AW2.skip ?_
   refine r_ [] [0,1,7,8] [] [] ⟨[(0,.d (sV eLim p0)),(1,.d (.func pf1 [])),(7,.d (.int .i64 (p0.length:Int))),(8,.d (.int .i64 (wI (a2+1))))],[]⟩ (a_ t_ t_) ?_
   exact ⟨k,(wI (a2+1)),Nat.lt_succ_self k,H,zbc [0,1,7,8] [] [] t_ (by kernel_rfl)⟩
 ·replace H:=zap H hc
  refine AW2.exit ?_
  refine AW2.seq ?_
  refine r_ [] [4] [] [] ⟨[(4,.d (.int .i64 (-1)))],[]⟩ (a_ t_ t_) ?_
  refine AW2.ret ?_
  have H:=Option.some.inj H
  subst H
  exact retP_mk2 t_ (by kernel_rfl)
theorem zcB (K:Nat) (p0:List Lim) (pf1:Nat) (pc1_0:List FV) (pp1:Lim→Option Bool) (hp1:∀ x0 b,pp1 x0=some b→CF E pf1 [.agg (eLim x0),.fp pc1_0] (.bool b)) (r:Int) (H:zaq K p0 pp1=some r):CF E 30 [sV eLim p0,.func pf1 [.fp pc1_0]] (.int .i64 r):=by
 refine zeg (A:=zaJ) zaT rfl fun fr => ?_
 unfold zaq at H
 refine AW2.seq ?_
 refine r_ [] [0,1] [] [] ⟨[(0,.d (sV eLim p0)),(1,.d (.func pf1 [.fp pc1_0]))],[]⟩ (a_ t_ t_) ?_
 refine AW2.seq ?_
 refine AW2.seq ?_
 refine r_ [] [0,1,7,8] [] [] ⟨[(0,.d (sV eLim p0)),(1,.d (.func pf1 [.fp pc1_0])),(7,.d (.int .i64 (p0.length:Int))),(8,.d (.int .i64 0))],[]⟩ (a_ t_ t_) ?_
 refine AW2.block ?_
 refine AW2.lp (σ:=Int) (fun v => ⟨[(0,.d (sV eLim p0)),(1,.d (.func pf1 [.fp pc1_0])),(7,.d (.int .i64 (p0.length:Int))),(8,.d (.int .i64 v))],[]⟩) (fun k v => zai k p0 pp1 v=some r) ?_ K 0 H
 rintro k a2 H
 cases k with
 | zero => cases H
 | succ k => 
 unfold zai at H
 refine AW2.seq ?_
 refine r_ [] [0,1,7,8,9] [] [] ⟨[(0,.d (sV eLim p0)),(1,.d (.func pf1 [.fp pc1_0])),(7,.d (.int .i64 (p0.length:Int))),(8,.d (.int .i64 a2)),(9,.d (.bool (decide (a2<(p0.length:Int)))))],[]⟩ (a_ t_ t_) ?_
 refine AW2.seq ?_
 refine AW2.cond (b:=(decide (a2<(p0.length:Int)))) rfl (fun hc => ?_) (fun hc => ?_)
 ·replace H:=zao H hc
  refine AW2.skip ?_
  refine AW2.seq ?_
  refine AW2.block ?_
  refine AW2.seq ?_
  refine r_ [] [0,1,5,7,8] [] [] ⟨[(0,.d (sV eLim p0)),(1,.d (.func pf1 [.fp pc1_0])),(5,.d (.int .i64 a2)),(7,.d (.int .i64 (p0.length:Int))),(8,.d (.int .i64 a2))],[]⟩ (a_ t_ t_) ?_
  refine AW2.seq ?_
  obtain ⟨h3,H⟩:=zaf H
  obtain ⟨x4,hx5,H⟩:=bind_some H
  refine r_ [.r (.bool x4)] [0,1,5,7,8,16] [] [] ⟨[(0,.d (sV eLim p0)),(1,.d (.func pf1 [.fp pc1_0])),(5,.d (.int .i64 a2)),(7,.d (.int .i64 (p0.length:Int))),(8,.d (.int .i64 a2)),(16,.d (.bool x4))],[]⟩ (a_ (a_ h3 (a_ (hp1 (p0.getD a2.toNat default) x4 hx5) t_)) t_) ?_
  refine AW2.cond (b:=x4) rfl (fun hc => ?_) (fun hc => ?_)
  ·replace H:=zao H hc
   refine AW2.seq ?_
   refine r_ [] [4] [] [] ⟨[(4,.d (.int .i64 a2))],[]⟩ (a_ t_ t_) ?_
   refine AW2.ret ?_
   have H:=Option.some.inj H
   subst H
   exact retP_mk2 t_ (by kernel_rfl)
  ·replace H:=zap H hc
   refine AW2.skip ?_
   refine r_ [] [0,1,7,8] [] [] ⟨[(0,.d (sV eLim p0)),(1,.d (.func pf1 [.fp pc1_0])),(7,.d (.int .i64 (p0.length:Int))),(8,.d (.int .i64 (wI (a2+1))))],[]⟩ (a_ t_ t_) ?_
   exact ⟨k,(wI (a2+1)),Nat.lt_succ_self k,H,zbc [0,1,7,8] [] [] t_ (by kernel_rfl)⟩
 ·replace H:=zap H hc
  refine AW2.exit ?_
  refine AW2.seq ?_
  refine r_ [] [4] [] [] ⟨[(4,.d (.int .i64 (-1)))],[]⟩ (a_ t_ t_) ?_
  refine AW2.ret ?_
  have H:=Option.some.inj H
  subst H
  exact retP_mk2 t_ (by kernel_rfl)
def zae (K:Nat) (p0:List Lim) (pp1:Lim→Option Bool):Option (Bool):=((zaq K p0 pp1).bind fun x1 => some (decide (x1≥(0:Int))))
theorem zaN (K:Nat) (p0:List Lim) (pf1:Nat) (pp1:Lim→Option Bool) (hp1:∀ x0 b,pp1 x0=some b→CF E pf1 [.agg (eLim x0)] (.bool b)) (r:Bool) (H:zae K p0 pp1=some r):CF E 21 [sV eLim p0,.func pf1 []] (.bool r):=by
 refine zeg (A:=zaF) zaR rfl fun fr => ?_
 unfold zae at H
 refine AW2.seq ?_
 refine r_ [] [0,1] [] [] ⟨[(0,.d (sV eLim p0)),(1,.d (.func pf1 []))],[]⟩ (a_ t_ t_) ?_
 refine AW2.seq ?_
 obtain ⟨x1,hx2,H⟩:=bind_some H
 refine r_ [.r (.int .i64 x1)] [4] [] [] ⟨[(4,.d (.bool (decide (x1≥(0:Int)))))],[]⟩ (a_ (a_ (zcC K p0 pf1 pp1 hp1 x1 hx2) t_) t_) ?_
 refine AW2.ret ?_
 have H:=Option.some.inj H
 subst H
 exact retP_mk2 t_ (by kernel_rfl)
theorem zaM (K:Nat) (p0:List Lim) (pf1:Nat) (pc1_0:List FV) (pp1:Lim→Option Bool) (hp1:∀ x0 b,pp1 x0=some b→CF E pf1 [.agg (eLim x0),.fp pc1_0] (.bool b)) (r:Bool) (H:zae K p0 pp1=some r):CF E 21 [sV eLim p0,.func pf1 [.fp pc1_0]] (.bool r):=by
 refine zeg (A:=zaF) zaR rfl fun fr => ?_
 unfold zae at H
 refine AW2.seq ?_
 refine r_ [] [0,1] [] [] ⟨[(0,.d (sV eLim p0)),(1,.d (.func pf1 [.fp pc1_0]))],[]⟩ (a_ t_ t_) ?_
 refine AW2.seq ?_
 obtain ⟨x1,hx2,H⟩:=bind_some H
 refine r_ [.r (.int .i64 x1)] [4] [] [] ⟨[(4,.d (.bool (decide (x1≥(0:Int)))))],[]⟩ (a_ (a_ (zcB K p0 pf1 pc1_0 pp1 hp1 x1 hx2) t_) t_) ?_
 refine AW2.ret ?_
 have H:=Option.some.inj H
 subst H
 exact retP_mk2 t_ (by kernel_rfl)
def zbK (p0:Lim):Option (Bool):=some (p0.has&&(decide (p0.min_>p0.max_)))
theorem zgW (p0:Lim) (r:Bool) (H:zbK p0=some r):CF E 32 [.agg (eLim p0)] (.bool r):=by
 refine zeg (A:=zhu) zkp rfl fun fr => ?_
 unfold zbK at H
 refine AW2.seq ?_
 refine r_ [.k 1] [1] [] [.k 1] ⟨[(1,.p 1 0)],[(1,.st false (eD (eLim p0)))]⟩ (a_ t_ t_) ?_
 refine AW2.seq ?_
 refine AW2.reg [] rfl (YW.to ⟨[(2,.d (.bool (p0.has&&(decide (p0.min_>p0.max_)))))],[]⟩ ?qh1 ?h1)
 case h1 => 
  rcases bT p0.has with hc1 | hc1
  ·exact YW.fin [(5,true)] [] [2] [(2,.d (.bool (p0.has&&(decide (p0.min_>p0.max_)))))] [] _ (a_ (a_ hc1 (a_ hc1 (a_ hc1 (a_ hc1 (a_ hc1 (a_ hc1 t_)))))) (a_ (ovB (Eq.trans (andT (b:=(decide (p0.min_>p0.max_))) hc1) (Eq.refl (decide (p0.min_>p0.max_))))) t_)) (by kernel_rfl) rfl
  ·exact YW.fin [(5,false)] [] [2] [(2,.d (.bool (p0.has&&(decide (p0.min_>p0.max_)))))] [] _ (a_ (a_ hc1 (a_ hc1 (a_ hc1 (a_ hc1 (a_ hc1 (a_ hc1 t_)))))) (a_ (ovB (andF (b:=(decide (p0.min_>p0.max_))) hc1)) t_)) (by kernel_rfl) rfl
 refine AW2.ret ?_
 have H:=Option.some.inj H
 subst H
 exact retP_mk2 t_ (by kernel_rfl)
def zbR (p0:Instr) (p1:Int):Option (Bool):=some (bif (p1==(127:Int)) then (bif (p0.op==(65:Int)) then ((p0.n==(wI (IntKind.wrap .i32 p0.n)))||((p1==(126:Int))&&(p0.op==(66:Int)))) else ((p1==(126:Int))&&(p0.op==(66:Int)))) else ((p1==(126:Int))&&(p0.op==(66:Int))))
theorem zfi (p0:Instr) (p1:Int) (r:Bool) (H:zbR p0 p1=some r):CF E 33 [.agg (eInstr p0),.int .u8 p1] (.bool r):=by
 refine zeg (A:=ziB) zlX rfl fun fr => ?_
 unfold zbR at H
 refine AW2.seq ?_
 refine r_ [.k 2] [1,2] [] [.k 2] ⟨[(1,.d (.int .u8 p1)),(2,.p 2 0)],[(2,.st false (eD (eInstr p0)))]⟩ (a_ t_ t_) ?_
 refine AW2.seq ?_
 refine AW2.reg [] rfl (YW.to ⟨[(4,.d (.bool (bif (p1==(127:Int)) then (bif (p0.op==(65:Int)) then ((p0.n==(wI (IntKind.wrap .i32 p0.n)))||((p1==(126:Int))&&(p0.op==(66:Int)))) else ((p1==(126:Int))&&(p0.op==(66:Int)))) else ((p1==(126:Int))&&(p0.op==(66:Int))))))],[]⟩ ?qh1 ?h1)
 case h1 => 
  rcases bT (p1==(127:Int)) with hc1 | hc1
  ·rcases bT (p0.op==(65:Int)) with hc2 | hc2
   ·rcases bT (p0.n==(wI (IntKind.wrap .i32 p0.n))) with hc3 | hc3
    ·exact YW.fin [(7,true),(12,true),(21,true)] [] [4] [(4,.d (.bool (bif (p1==(127:Int)) then (bif (p0.op==(65:Int)) then ((p0.n==(wI (IntKind.wrap .i32 p0.n)))||((p1==(126:Int))&&(p0.op==(66:Int)))) else ((p1==(126:Int))&&(p0.op==(66:Int)))) else ((p1==(126:Int))&&(p0.op==(66:Int))))))] [] _ (a_ (a_ hc1 (a_ hc1 (a_ hc1 (a_ hc1 (a_ hc2 (a_ hc2 (a_ hc2 (a_ hc2 (a_ hc2 (a_ hc2 (a_ hc2 (a_ hc2 (a_ hc3 (a_ hc3 (a_ hc3 (a_ hc3 (a_ hc3 t_))))))))))))))))) (a_ (ovB (Eq.trans (bifT (a:=(bif (p0.op==(65:Int)) then ((p0.n==(wI (IntKind.wrap .i32 p0.n)))||((p1==(126:Int))&&(p0.op==(66:Int)))) else ((p1==(126:Int))&&(p0.op==(66:Int))))) (b:=((p1==(126:Int))&&(p0.op==(66:Int)))) hc1) (Eq.trans (bifT (a:=((p0.n==(wI (IntKind.wrap .i32 p0.n)))||((p1==(126:Int))&&(p0.op==(66:Int))))) (b:=((p1==(126:Int))&&(p0.op==(66:Int)))) hc2) (orT (b:=((p1==(126:Int))&&(p0.op==(66:Int)))) hc3)))) t_)) (by kernel_rfl) rfl
    ·rcases bT (p1==(126:Int)) with hc4 | hc4
     ·exact YW.fin [(7,true),(12,true),(21,false),(24,true)] [] [4] [(4,.d (.bool (bif (p1==(127:Int)) then (bif (p0.op==(65:Int)) then ((p0.n==(wI (IntKind.wrap .i32 p0.n)))||((p1==(126:Int))&&(p0.op==(66:Int)))) else ((p1==(126:Int))&&(p0.op==(66:Int)))) else ((p1==(126:Int))&&(p0.op==(66:Int))))))] [] _ (a_ (a_ hc1 (a_ hc1 (a_ hc1 (a_ hc1 (a_ hc2 (a_ hc2 (a_ hc2 (a_ hc2 (a_ hc2 (a_ hc2 (a_ hc2 (a_ hc2 (a_ hc3 (a_ hc3 (a_ hc3 (a_ hc4 (a_ hc4 (a_ hc4 (a_ hc3 (a_ hc4 (a_ hc3 t_))))))))))))))))))))) (a_ (ovB (Eq.trans (bifT (a:=(bif (p0.op==(65:Int)) then ((p0.n==(wI (IntKind.wrap .i32 p0.n)))||((p1==(126:Int))&&(p0.op==(66:Int)))) else ((p1==(126:Int))&&(p0.op==(66:Int))))) (b:=((p1==(126:Int))&&(p0.op==(66:Int)))) hc1) (Eq.trans (bifT (a:=((p0.n==(wI (IntKind.wrap .i32 p0.n)))||((p1==(126:Int))&&(p0.op==(66:Int))))) (b:=((p1==(126:Int))&&(p0.op==(66:Int)))) hc2) (Eq.trans (orF (b:=((p1==(126:Int))&&(p0.op==(66:Int)))) hc3) (Eq.trans (andT (b:=(p0.op==(66:Int))) hc4) (Eq.refl (p0.op==(66:Int)))))))) t_)) (by kernel_rfl) rfl
     ·exact YW.fin [(7,true),(12,true),(21,false),(24,false)] [] [4] [(4,.d (.bool (bif (p1==(127:Int)) then (bif (p0.op==(65:Int)) then ((p0.n==(wI (IntKind.wrap .i32 p0.n)))||((p1==(126:Int))&&(p0.op==(66:Int)))) else ((p1==(126:Int))&&(p0.op==(66:Int)))) else ((p1==(126:Int))&&(p0.op==(66:Int))))))] [] _ (a_ (a_ hc1 (a_ hc1 (a_ hc1 (a_ hc1 (a_ hc2 (a_ hc2 (a_ hc2 (a_ hc2 (a_ hc2 (a_ hc2 (a_ hc2 (a_ hc2 (a_ hc3 (a_ hc3 (a_ hc3 (a_ hc4 (a_ hc4 (a_ hc4 (a_ hc3 (a_ hc4 (a_ hc3 t_))))))))))))))))))))) (a_ (ovB (Eq.trans (bifT (a:=(bif (p0.op==(65:Int)) then ((p0.n==(wI (IntKind.wrap .i32 p0.n)))||((p1==(126:Int))&&(p0.op==(66:Int)))) else ((p1==(126:Int))&&(p0.op==(66:Int))))) (b:=((p1==(126:Int))&&(p0.op==(66:Int)))) hc1) (Eq.trans (bifT (a:=((p0.n==(wI (IntKind.wrap .i32 p0.n)))||((p1==(126:Int))&&(p0.op==(66:Int))))) (b:=((p1==(126:Int))&&(p0.op==(66:Int)))) hc2) (Eq.trans (orF (b:=((p1==(126:Int))&&(p0.op==(66:Int)))) hc3) (andF (b:=(p0.op==(66:Int))) hc4))))) t_)) (by kernel_rfl) rfl
   ·rcases bT (p1==(126:Int)) with hc3 | hc3
    ·exact YW.fin [(7,true),(12,false),(24,true),(21,false)] [] [4] [(4,.d (.bool (bif (p1==(127:Int)) then (bif (p0.op==(65:Int)) then ((p0.n==(wI (IntKind.wrap .i32 p0.n)))||((p1==(126:Int))&&(p0.op==(66:Int)))) else ((p1==(126:Int))&&(p0.op==(66:Int)))) else ((p1==(126:Int))&&(p0.op==(66:Int))))))] [] _ (a_ (a_ hc1 (a_ hc1 (a_ hc1 (a_ hc1 (a_ hc2 (a_ hc2 (a_ hc2 (a_ hc2 (a_ hc2 (a_ hc2 (a_ hc2 (a_ hc2 (a_ (Eq.refl false) (a_ (Eq.refl false) (a_ (Eq.refl false) (a_ hc3 (a_ hc3 (a_ hc3 (a_ (Eq.refl false) (a_ hc3 (a_ (Eq.refl false) t_))))))))))))))))))))) (a_ (ovB (Eq.trans (bifT (a:=(bif (p0.op==(65:Int)) then ((p0.n==(wI (IntKind.wrap .i32 p0.n)))||((p1==(126:Int))&&(p0.op==(66:Int)))) else ((p1==(126:Int))&&(p0.op==(66:Int))))) (b:=((p1==(126:Int))&&(p0.op==(66:Int)))) hc1) (Eq.trans (bifF (a:=((p0.n==(wI (IntKind.wrap .i32 p0.n)))||((p1==(126:Int))&&(p0.op==(66:Int))))) (b:=((p1==(126:Int))&&(p0.op==(66:Int)))) hc2) (Eq.trans (andT (b:=(p0.op==(66:Int))) hc3) (Eq.refl (p0.op==(66:Int))))))) t_)) (by kernel_rfl) rfl
    ·exact YW.fin [(7,true),(12,false),(24,false),(21,false)] [] [4] [(4,.d (.bool (bif (p1==(127:Int)) then (bif (p0.op==(65:Int)) then ((p0.n==(wI (IntKind.wrap .i32 p0.n)))||((p1==(126:Int))&&(p0.op==(66:Int)))) else ((p1==(126:Int))&&(p0.op==(66:Int)))) else ((p1==(126:Int))&&(p0.op==(66:Int))))))] [] _ (a_ (a_ hc1 (a_ hc1 (a_ hc1 (a_ hc1 (a_ hc2 (a_ hc2 (a_ hc2 (a_ hc2 (a_ hc2 (a_ hc2 (a_ hc2 (a_ hc2 (a_ (Eq.refl false) (a_ (Eq.refl false) (a_ (Eq.refl false) (a_ hc3 (a_ hc3 (a_ hc3 (a_ (Eq.refl false) (a_ hc3 (a_ (Eq.refl false) t_))))))))))))))))))))) (a_ (ovB (Eq.trans (bifT (a:=(bif (p0.op==(65:Int)) then ((p0.n==(wI (IntKind.wrap .i32 p0.n)))||((p1==(126:Int))&&(p0.op==(66:Int)))) else ((p1==(126:Int))&&(p0.op==(66:Int))))) (b:=((p1==(126:Int))&&(p0.op==(66:Int)))) hc1) (Eq.trans (bifF (a:=((p0.n==(wI (IntKind.wrap .i32 p0.n)))||((p1==(126:Int))&&(p0.op==(66:Int))))) (b:=((p1==(126:Int))&&(p0.op==(66:Int)))) hc2) (andF (b:=(p0.op==(66:Int))) hc3)))) t_)) (by kernel_rfl) rfl
  ·rcases bT (p1==(126:Int)) with hc2 | hc2
   ·exact YW.fin [(7,false),(24,true),(12,false),(21,false)] [] [4] [(4,.d (.bool (bif (p1==(127:Int)) then (bif (p0.op==(65:Int)) then ((p0.n==(wI (IntKind.wrap .i32 p0.n)))||((p1==(126:Int))&&(p0.op==(66:Int)))) else ((p1==(126:Int))&&(p0.op==(66:Int)))) else ((p1==(126:Int))&&(p0.op==(66:Int))))))] [] _ (a_ (a_ hc1 (a_ hc1 (a_ hc1 (a_ hc1 (a_ (Eq.refl false) (a_ (Eq.refl false) (a_ (Eq.refl false) (a_ (Eq.refl false) (a_ (Eq.refl false) (a_ (Eq.refl false) (a_ (Eq.refl false) (a_ (Eq.refl false) (a_ (Eq.refl false) (a_ (Eq.refl false) (a_ (Eq.refl false) (a_ hc2 (a_ hc2 (a_ hc2 (a_ (Eq.refl false) (a_ hc2 (a_ (Eq.refl false) t_))))))))))))))))))))) (a_ (ovB (Eq.trans (bifF (a:=(bif (p0.op==(65:Int)) then ((p0.n==(wI (IntKind.wrap .i32 p0.n)))||((p1==(126:Int))&&(p0.op==(66:Int)))) else ((p1==(126:Int))&&(p0.op==(66:Int))))) (b:=((p1==(126:Int))&&(p0.op==(66:Int)))) hc1) (Eq.trans (andT (b:=(p0.op==(66:Int))) hc2) (Eq.refl (p0.op==(66:Int)))))) t_)) (by kernel_rfl) rfl
   ·exact YW.fin [(7,false),(24,false),(12,false),(21,false)] [] [4] [(4,.d (.bool (bif (p1==(127:Int)) then (bif (p0.op==(65:Int)) then ((p0.n==(wI (IntKind.wrap .i32 p0.n)))||((p1==(126:Int))&&(p0.op==(66:Int)))) else ((p1==(126:Int))&&(p0.op==(66:Int)))) else ((p1==(126:Int))&&(p0.op==(66:Int))))))] [] _ (a_ (a_ hc1 (a_ hc1 (a_ hc1 (a_ hc1 (a_ (Eq.refl false) (a_ (Eq.refl false) (a_ (Eq.refl false) (a_ (Eq.refl false) (a_ (Eq.refl false) (a_ (Eq.refl false) (a_ (Eq.refl false) (a_ (Eq.refl false) (a_ (Eq.refl false) (a_ (Eq.refl false) (a_ (Eq.refl false) (a_ hc2 (a_ hc2 (a_ hc2 (a_ (Eq.refl false) (a_ hc2 (a_ (Eq.refl false) t_))))))))))))))))))))) (a_ (ovB (Eq.trans (bifF (a:=(bif (p0.op==(65:Int)) then ((p0.n==(wI (IntKind.wrap .i32 p0.n)))||((p1==(126:Int))&&(p0.op==(66:Int)))) else ((p1==(126:Int))&&(p0.op==(66:Int))))) (b:=((p1==(126:Int))&&(p0.op==(66:Int)))) hc1) (andF (b:=(p0.op==(66:Int))) hc2))) t_)) (by kernel_rfl) rfl
 refine AW2.ret ?_
 have H:=Option.some.inj H
 subst H
 exact retP_mk2 t_ (by kernel_rfl)
def zaB:Nat→(List Int)→(Int→Option Bool)→Int→Option (Int)
 | 0,_,_,_ => none
 | k+1,p0,pp1,a2 => (if (decide (a2<(p0.length:Int)))=true then gd (0≤a2∧a2<(p0.length:Int)) ((pp1 (p0.getD a2.toNat default)).bind fun x4 => (if x4=true then some a2 else zaB k p0 pp1 (wI (a2+1)))) else some (-1))
def zaW (K:Nat) (p0:List Int) (pp1:Int→Option Bool):Option (Int):=zaB K p0 pp1 0
theorem zeh (K:Nat) (p0:List Int) (pf1:Nat) (pc1_0:List FV) (pp1:Int→Option Bool) (hp1:∀ x0 b,pp1 x0=some b→CF E pf1 [.int .u32 x0,.fp pc1_0] (.bool b)) (r:Int) (H:zaW K p0 pp1=some r):CF E 54 [sV (eI .u32) p0,.func pf1 [.fp pc1_0]] (.int .i64 r):=by
 refine zeg (A:=zbG) zci rfl fun fr => ?_
 unfold zaW at H
 refine AW2.seq ?_
 refine r_ [] [0,1] [] [] ⟨[(0,.d (sV (eI .u32) p0)),(1,.d (.func pf1 [.fp pc1_0]))],[]⟩ (a_ t_ t_) ?_
 refine AW2.seq ?_
 refine AW2.seq ?_
 refine r_ [] [0,1,7,8] [] [] ⟨[(0,.d (sV (eI .u32) p0)),(1,.d (.func pf1 [.fp pc1_0])),(7,.d (.int .i64 (p0.length:Int))),(8,.d (.int .i64 0))],[]⟩ (a_ t_ t_) ?_
 refine AW2.block ?_
 refine AW2.lp (σ:=Int) (fun v => ⟨[(0,.d (sV (eI .u32) p0)),(1,.d (.func pf1 [.fp pc1_0])),(7,.d (.int .i64 (p0.length:Int))),(8,.d (.int .i64 v))],[]⟩) (fun k v => zaB k p0 pp1 v=some r) ?_ K 0 H
 rintro k a2 H
 cases k with
 | zero => cases H
 | succ k => 
 unfold zaB at H
 refine AW2.seq ?_
 refine r_ [] [0,1,7,8,9] [] [] ⟨[(0,.d (sV (eI .u32) p0)),(1,.d (.func pf1 [.fp pc1_0])),(7,.d (.int .i64 (p0.length:Int))),(8,.d (.int .i64 a2)),(9,.d (.bool (decide (a2<(p0.length:Int)))))],[]⟩ (a_ t_ t_) ?_
 refine AW2.seq ?_
 refine AW2.cond (b:=(decide (a2<(p0.length:Int)))) rfl (fun hc => ?_) (fun hc => ?_)
 ·replace H:=zao H hc
  refine AW2.skip ?_
  refine AW2.seq ?_
  refine AW2.block ?_
  refine AW2.seq ?_
  refine r_ [] [0,1,5,7,8] [] [] ⟨[(0,.d (sV (eI .u32) p0)),(1,.d (.func pf1 [.fp pc1_0])),(5,.d (.int .i64 a2)),(7,.d (.int .i64 (p0.length:Int))),(8,.d (.int .i64 a2))],[]⟩ (a_ t_ t_) ?_
  refine AW2.seq ?_
  obtain ⟨h3,H⟩:=zaf H
  obtain ⟨x4,hx5,H⟩:=bind_some H
  refine r_ [.r (.bool x4)] [0,1,5,7,8,16] [] [] ⟨[(0,.d (sV (eI .u32) p0)),(1,.d (.func pf1 [.fp pc1_0])),(5,.d (.int .i64 a2)),(7,.d (.int .i64 (p0.length:Int))),(8,.d (.int .i64 a2)),(16,.d (.bool x4))],[]⟩ (a_ (a_ h3 (a_ (hp1 (p0.getD a2.toNat default) x4 hx5) t_)) t_) ?_
  refine AW2.cond (b:=x4) rfl (fun hc => ?_) (fun hc => ?_)
  ·replace H:=zao H hc
   refine AW2.seq ?_
   refine r_ [] [4] [] [] ⟨[(4,.d (.int .i64 a2))],[]⟩ (a_ t_ t_) ?_
   refine AW2.ret ?_
   have H:=Option.some.inj H
   subst H
   exact retP_mk2 t_ (by kernel_rfl)
  ·replace H:=zap H hc
   refine AW2.skip ?_
   refine r_ [] [0,1,7,8] [] [] ⟨[(0,.d (sV (eI .u32) p0)),(1,.d (.func pf1 [.fp pc1_0])),(7,.d (.int .i64 (p0.length:Int))),(8,.d (.int .i64 (wI (a2+1))))],[]⟩ (a_ t_ t_) ?_
   exact ⟨k,(wI (a2+1)),Nat.lt_succ_self k,H,zbc [0,1,7,8] [] [] t_ (by kernel_rfl)⟩
 ·replace H:=zap H hc
  refine AW2.exit ?_
  refine AW2.seq ?_
  refine r_ [] [4] [] [] ⟨[(4,.d (.int .i64 (-1)))],[]⟩ (a_ t_ t_) ?_
  refine AW2.ret ?_
  have H:=Option.some.inj H
  subst H
  exact retP_mk2 t_ (by kernel_rfl)
def zaC (K:Nat) (p0:List Int) (pp1:Int→Option Bool):Option (Bool):=((zaW K p0 pp1).bind fun x1 => some (decide (x1≥(0:Int))))
theorem zdw (K:Nat) (p0:List Int) (pf1:Nat) (pc1_0:List FV) (pp1:Int→Option Bool) (hp1:∀ x0 b,pp1 x0=some b→CF E pf1 [.int .u32 x0,.fp pc1_0] (.bool b)) (r:Bool) (H:zaC K p0 pp1=some r):CF E 35 [sV (eI .u32) p0,.func pf1 [.fp pc1_0]] (.bool r):=by
 refine zeg (A:=zbh) zbV rfl fun fr => ?_
 unfold zaC at H
 refine AW2.seq ?_
 refine r_ [] [0,1] [] [] ⟨[(0,.d (sV (eI .u32) p0)),(1,.d (.func pf1 [.fp pc1_0]))],[]⟩ (a_ t_ t_) ?_
 refine AW2.seq ?_
 obtain ⟨x1,hx2,H⟩:=bind_some H
 refine r_ [.r (.int .i64 x1)] [4] [] [] ⟨[(4,.d (.bool (decide (x1≥(0:Int)))))],[]⟩ (a_ (a_ (zeh K p0 pf1 pc1_0 pp1 hp1 x1 hx2) t_) t_) ?_
 refine AW2.ret ?_
 have H:=Option.some.inj H
 subst H
 exact retP_mk2 t_ (by kernel_rfl)
def zct (p0:Int) (q0:Mdl):Option (Bool):=some (decide (p0≥(IntKind.wrap .u32 (q0.funcs.length:Int))))
theorem zrh (p0:Int) (q0:Mdl) (r:Bool) (H:zct p0 q0=some r):CF E 34 [.int .u32 p0,.fp (eMdl q0)] (.bool r):=by
 refine zeg (A:=zfs) zjb rfl fun fr => ?_
 unfold zct at H
 refine AW2.seq ?_
 refine r_ [] [0,1] [] [] ⟨[(0,.d (.int .u32 p0)),(1,.d (.fp (eMdl q0)))],[]⟩ (a_ t_ t_) ?_
 refine AW2.seq ?_
 refine r_ [] [3] [] [] ⟨[(3,.d (.bool (decide (p0≥(IntKind.wrap .u32 (q0.funcs.length:Int))))))],[]⟩ (a_ t_ t_) ?_
 refine AW2.ret ?_
 have H:=Option.some.inj H
 subst H
 exact retP_mk2 t_ (by kernel_rfl)
def zbk (p0:Int) (p1:Bool):Option (Bool):=some ((p0==(127:Int))||((p0==(126:Int))||(p1&&(p0==(0:Int)))))
def zed:Nat→Mdl→Bool→Int→Option (Bool)
 | 0,_,_,_ => none
 | k+1,p0,a6,a7 => (if (decide (a7<(p0.globals.length:Int)))=true then (if a6=true then gd (0≤a7∧a7<(p0.globals.length:Int)) ((zbk ((p0.globals.getD a7.toNat default).kind) false).bind fun x9 => some x9) else some false).bind (fun j11 => zed k p0 j11 (wI (a7+1))) else some a6)
def zeb:Nat→Mdl→Int→Bool→Int→Option (Bool)
 | 0,_,_,_,_ => none
 | k+1,p0,a20,a24,a25 => gd (0≤a20∧a20<(p0.funcs.length:Int)) (if (decide (a25<(((p0.funcs.getD a20.toNat default).locals).length:Int)))=true then (if a24=true then gd (0≤a20∧a20<(p0.funcs.length:Int)) (gd (0≤a25∧a25<(((p0.funcs.getD a20.toNat default).locals).length:Int)) ((zbk (((p0.funcs.getD a20.toNat default).locals).getD a25.toNat default) false).bind fun x29 => some x29)) else some false).bind (fun j31 => zeb k p0 a20 j31 (wI (a25+1))) else some a24)
def zec:Nat→Nat→Mdl→Bool→Int→Option (Bool)
 | 0,_,_,_,_ => none
 | k+1,K,p0,a19,a20 => (if (decide (a20<(p0.funcs.length:Int)))=true then (zeb K p0 a20 a19 0).bind (fun j21 => zec k K p0 j21 (wI (a20+1))) else some a19)
def zcW:Nat→Mdl→Int→Bool→Int→Option (Bool)
 | 0,_,_,_,_ => none
 | k+1,p0,a42,a50,a51 => gd (0≤a42∧a42<(p0.types.length:Int)) (if (decide (a51<(((p0.types.getD a42.toNat default).params).length:Int)))=true then (if a50=true then gd (0≤a42∧a42<(p0.types.length:Int)) (gd (0≤a51∧a51<(((p0.types.getD a42.toNat default).params).length:Int)) ((zbk (((p0.types.getD a42.toNat default).params).getD a51.toNat default) false).bind fun x55 => some x55)) else some false).bind (fun j57 => zcW k p0 a42 j57 (wI (a51+1))) else some a50)
def zea:Nat→Nat→Mdl→Bool→Int→Option (Bool)
 | 0,_,_,_,_ => none
 | k+1,K,p0,a41,a42 => (if (decide (a42<(p0.types.length:Int)))=true then ((if a41=true then gd (0≤a42∧a42<(p0.types.length:Int)) ((zbk ((p0.types.getD a42.toNat default).result) true).bind fun x45 => some x45) else some false).bind (fun j47 => zcW K p0 a42 j47 0)).bind (fun j43 => zea k K p0 j43 (wI (a42+1))) else some a41)
def zix (K:Nat) (p0:Mdl):Option (Bool):=(zea K K p0 true 0).bind (fun j1 => (zec K K p0 j1 0).bind (fun j2 => (zed K p0 j2 0).bind (fun j3 => some j3)))
def zad (p0:St8) (p1:Int):Option (St8×Int):=(if (p1==(0:Int))=true then some (p0,0) else (if ((p0.l.length:Int)==(0:Int))=true then (if p0.ok=true then some p0.away else some false).bind (fun j1 => some ((St8.mk p0.l p0.under p0.away p0.dead p0.most j1),p1)) else gd (0≤(wI ((p0.l.length:Int) - 1))∧(wI ((p0.l.length:Int) - 1))<(p0.l.length:Int)) (gd (0≤(0:Int)∧(0:Int)≤(wI ((p0.l.length:Int) - 1))∧(wI ((p0.l.length:Int) - 1))≤(p0.l.length:Int)) (if ((p0.l.getD (wI ((p0.l.length:Int) - 1)).toNat default)==(255:Int))=true then some ((St8.mk (List.take ((wI ((p0.l.length:Int) - 1)).toNat) p0.l) p0.under p0.away p0.dead p0.most p0.ok),p1) else (if ((p1 != (255:Int))&&((p0.l.getD (wI ((p0.l.length:Int) - 1)).toNat default) != p1))=true then some false else some p0.ok).bind (fun j7 => some ((St8.mk (List.take ((wI ((p0.l.length:Int) - 1)).toNat) p0.l) p0.under p0.away p0.dead p0.most j7),(p0.l.getD (wI ((p0.l.length:Int) - 1)).toNat default)))))))
def zbU (p0:St8):Option (St8):=some (St8.mk ([]:List Int) p0.under true p0.dead p0.most p0.ok)
def zaP (p0:St8) (p1:Int):Option (St8):=(if (p1==(0:Int))=true then some p0 else gd (p0.l.length * 1≤140737488355328) (gd ((p0.l.length+1) * 1≤140737488355328) ((if ((!p0.away)&&(!p0.dead))=true then some (mxI p0.most (wI (p0.under+((p0.l++([p1]:List Int)).length:Int)))) else some p0.most).bind (fun j3 => some (St8.mk (p0.l++([p1]:List Int)) p0.under p0.away p0.dead j3 p0.ok)))))
def zbS (p0:Env8) (p1:Int):Option (Int×Bool):=(if ((decide (p1<(0:Int)))||(decide (p1≥(p0.labels.length:Int))))=true then some (0,false) else gd (0≤(wI ((wI ((p0.labels.length:Int) - 1)) - p1))∧(wI ((wI ((p0.labels.length:Int) - 1)) - p1))<(p0.labels.length:Int)) (some ((p0.labels.getD (wI ((wI ((p0.labels.length:Int) - 1)) - p1)).toNat default),true)))
def zbX:Nat→Env8→Instr→(Int×Bool)→Int→Bool→Option (Bool)
 | 0,_,_,_,_,_ => none
 | k+1,p0,p2,x3,a18,a19 => (if ((p2.op==(14:Int))&&(decide (a18<(p2.labels.length:Int))))=true then gd (0≤a18∧a18<(p2.labels.length:Int)) ((zbS p0 (wI (p2.labels.getD a18.toNat default))).bind fun x21 => zbX k p0 p2 x3 (wI (a18+1)) (a19&&(x21.2&&(x21.1==x3.1)))) else some a19)
def zbW:Nat→Env8→Instr→(Int×Bool)→Int→Bool→Option (Bool)
 | 0,_,_,_,_,_ => none
 | k+1,p0,p2,x28,a43,a44 => (if ((p2.op==(14:Int))&&(decide (a43<(p2.labels.length:Int))))=true then gd (0≤a43∧a43<(p2.labels.length:Int)) ((zbS p0 (wI (p2.labels.getD a43.toNat default))).bind fun x46 => zbW k p0 p2 x28 (wI (a43+1)) (a44&&(x46.2&&(x46.1==x28.1)))) else some a44)
def zbT (K:Nat) (p0:Env8) (p1:St8) (p2:Instr):Option (St8):=(if (p2.op != (12:Int))=true then ((zad p1 127).bind fun x52 => some x52.1) else some p1).bind (fun j1 => (if (p2.op==(14:Int))=true then (if (((p2.labels.length:Int)==(0:Int))||(decide ((p2.labels.length:Int)>(257:Int))))=true then some (St8.mk j1.l j1.under j1.away j1.dead j1.most false) else gd (0≤(wI ((p2.labels.length:Int) - 1))∧(wI ((p2.labels.length:Int) - 1))<(p2.labels.length:Int)) ((zbS p0 (wI (p2.labels.getD (wI ((p2.labels.length:Int) - 1)).toNat default))).bind fun x3 => (zbX K p0 p2 x3 0 x3.2).bind (fun j5 => (if j1.ok=true then some j5 else some false).bind (fun j6 => ((zad (St8.mk j1.l j1.under j1.away j1.dead j1.most j6) x3.1).bind fun x7 => (if (p2.op==(13:Int))=true then ((zaP x7.1 x3.1).bind fun x9 => some x9) else ((zbU x7.1).bind fun x11 => some x11))))))) else ((zbS p0 p2.n).bind fun x28 => (zbW K p0 p2 x28 0 x28.2).bind (fun j30 => (if j1.ok=true then some j30 else some false).bind (fun j31 => ((zad (St8.mk j1.l j1.under j1.away j1.dead j1.most j31) x28.1).bind fun x32 => (if (p2.op==(13:Int))=true then ((zaP x32.1 x28.1).bind fun x34 => some x34) else ((zbU x32.1).bind fun x36 => some x36))))))))
def zbN (p0:Int) (p1:Int):Option (Bool):=some ((decide (p0≥(0:Int)))&&(decide (p0<p1)))
def zeG:Nat→Typ→St8→Int→Option (St8)
 | 0,_,_,_ => none
 | k+1,p1,a6,a7 => (if (decide (a7≥(0:Int)))=true then gd (0≤a7∧a7<(p1.params.length:Int)) ((zad a6 (p1.params.getD a7.toNat default)).bind fun x9 => zeG k p1 x9.1 (wI (a7 - 1))) else some a6)
def zcy (K:Nat) (p0:St8) (p1:Typ):Option (St8):=(zeG K p1 p0 (wI ((p1.params.length:Int) - 1))).bind (fun j1 => ((zaP j1 p1.result).bind fun x2 => some x2))
def zdt (K:Nat) (p0:Env8) (p1:St8) (p2:Instr):Option (St8):=(if (p2.op==(16:Int))=true then ((zbN p2.n (p0.m.funcs.length:Int)).bind fun x1 => (if (!x1)=true then some (St8.mk p1.l p1.under p1.away p1.dead p1.most false) else gd (0≤p2.n∧p2.n<(p0.m.funcs.length:Int)) ((zbN (wI ((p0.m.funcs.getD p2.n.toNat default).type_)) (p0.m.types.length:Int)).bind fun x4 => (if (!x4)=true then some (St8.mk p1.l p1.under p1.away p1.dead p1.most false) else gd (0≤(wI ((p0.m.funcs.getD p2.n.toNat default).type_))∧(wI ((p0.m.funcs.getD p2.n.toNat default).type_))<(p0.m.types.length:Int)) ((zcy K p1 (p0.m.types.getD (wI ((p0.m.funcs.getD p2.n.toNat default).type_)).toNat default)).bind fun x7 => some x7))))) else (if p1.ok=true then some (decide ((p0.m.tables.length:Int)>(0:Int))) else some false).bind (fun j9 => ((zad (St8.mk p1.l p1.under p1.away p1.dead p1.most j9) 127).bind fun x10 => ((zbN p2.n (p0.m.types.length:Int)).bind fun x12 => (if (!x12)=true then some (St8.mk x10.1.l x10.1.under x10.1.away x10.1.dead x10.1.most false) else gd (0≤p2.n∧p2.n<(p0.m.types.length:Int)) ((zcy K x10.1 (p0.m.types.getD p2.n.toNat default)).bind fun x15 => some x15))))))
def zaK (p0:Env8) (p1:St8) (p2:Instr):Option (St8):=(if (decide (p2.op≥(35:Int)))=true then some (p0.m.globals.length:Int) else some (p0.locals.length:Int)).bind (fun j1 => ((zbN p2.n j1).bind fun x2 => (if (!x2)=true then some (St8.mk p1.l p1.under p1.away p1.dead p1.most false) else (if (decide (p2.op≥(35:Int)))=true then gd (0≤p2.n∧p2.n<(p0.m.globals.length:Int)) ((if p1.ok=true then (if (p2.op==(35:Int))=true then some true else gd (0≤p2.n∧p2.n<(p0.m.globals.length:Int)) (some ((p0.m.globals.getD p2.n.toNat default).mut_))) else some false).bind (fun j20 => some ((p0.m.globals.getD p2.n.toNat default).kind,j20))) else gd (0≤p2.n∧p2.n<(p0.locals.length:Int)) (some ((p0.locals.getD p2.n.toNat default),p1.ok))).bind (fun | (j4,j5) => (if ((p2.op==(33:Int))||((p2.op==(34:Int))||(p2.op==(36:Int))))=true then ((zad (St8.mk p1.l p1.under p1.away p1.dead p1.most j5) j4).bind fun x13 => some x13.1) else some (St8.mk p1.l p1.under p1.away p1.dead p1.most j5)).bind (fun j6 => (if ((p2.op==(32:Int))||((p2.op==(34:Int))||(p2.op==(35:Int))))=true then ((zaP j6 j4).bind fun x8 => some x8) else some j6).bind (fun j7 => some j7))))))
def zbe:Nat→Instr→Int→Int→Option (Int)
 | 0,_,_,_ => none
 | k+1,p2,a17,a18 => (if ((decide (a18<p2.align))&&(decide (a17≤(8:Int))))=true then zbe k p2 (wI (2 * a17)) (IntKind.wrap .u32 (a18+1)) else some a17)
def zeF (K:Nat) (p0:Env8) (p1:St8) (p2:Instr):Option (St8):=((zkm p2.op).bind fun x1 => ((zkn p2.op).bind fun x3 => ((ziy p2.op).bind fun x5 => (if ((!x1.2.2)||(bif (x3.1==(4:Int)) then (((p0.m.memories.length:Int)==(0:Int))||((x3.1==(1:Int))&&((decide (p2.n<((-2147483648):Int)))||(decide (p2.n≥(2147483648:Int)))))) else (bif (x3.1==(5:Int)) then (((p0.m.memories.length:Int)==(0:Int))||((x3.1==(1:Int))&&((decide (p2.n<((-2147483648):Int)))||(decide (p2.n≥(2147483648:Int)))))) else ((x3.1==(1:Int))&&((decide (p2.n<((-2147483648):Int)))||(decide (p2.n≥(2147483648:Int))))))))=true then some (St8.mk p1.l p1.under p1.away p1.dead p1.most false) else (if x5.2.2=true then (zbe K p2 1 0).bind (fun j10 => (if p1.ok=true then some (decide (j10≤x5.1)) else some false).bind (fun j11 => some j11)) else some p1.ok).bind (fun j7 => ((zcy K (St8.mk p1.l p1.under p1.away p1.dead p1.most j7) (Typ.mk x1.1 x1.2.1)).bind fun x8 => some x8))))))
mutual
def zbf:Nat→Env8→St8→(List Instr)→Int→Int→Option (St8)
 | 0,_,_,_,_,_ => none
 | k+1,p0,p1,p2,p3,p4 => gd (p0.labels.length * 1≤140737488355328) (gd ((p0.labels.length+1) * 1≤140737488355328) ((if p1.away=true then ((zaX k (Env8.mk p0.m p0.result p0.locals (p0.labels++([p4]:List Int))) (St8.mk ([]:List Int) (wI (p1.under+(p1.l.length:Int))) false true p1.most p1.ok) p2).bind fun x3 => some x3) else ((zaX k (Env8.mk p0.m p0.result p0.locals (p0.labels++([p4]:List Int))) (St8.mk ([]:List Int) (wI (p1.under+(p1.l.length:Int))) false p1.dead p1.most p1.ok) p2).bind fun x5 => some x5)).bind (fun j7 => ((zad j7 p3).bind fun x8 => (if x8.1.ok=true then some ((x8.1.l.length:Int)==(0:Int)) else some false).bind (fun j10 => some (St8.mk p1.l p1.under p1.away p1.dead x8.1.most j10))))))
def zeH:Nat→Env8→St8→Instr→Option (St8)
 | 0,_,_,_ => none
 | k+1,p0,p1,p2 => (if ((p2.result != (0:Int))&&((p2.result != (127:Int))&&(p2.result != (126:Int))))=true then some (St8.mk p1.l p1.under p1.away p1.dead p1.most false) else (if (p2.op==(2:Int))=true then ((zbf k p0 p1 p2.body p2.result p2.result).bind fun x4 => some x4) else (if (p2.op==(3:Int))=true then ((zbf k p0 p1 p2.body p2.result 0).bind fun x6 => some x6) else ((zad p1 127).bind fun x8 => ((zbf k p0 x8.1 p2.body p2.result p2.result).bind fun x10 => ((zbf k p0 x10 p2.els p2.result p2.result).bind fun x12 => some x12))))).bind (fun j1 => ((zaP j1 p2.result).bind fun x2 => some x2)))
def zaX:Nat→Env8→St8→(List Instr)→Option (St8)
 | 0,_,_,_ => none
 | k+1,p0,p1,p2 => (lpN k (fun (rec6:St8×Int→Option (St8)) v => match v with | (a4,a5) => (if ((decide (a5<(p2.length:Int)))&&a4.ok)=true then (gd (0≤a5∧a5<(p2.length:Int)) (if (((p2.getD a5.toNat default).op)==(0:Int))=true then ((zbU a4).bind fun x9 => some x9) else (if (((p2.getD a5.toNat default).op)==(1:Int))=true then some a4 else (if ((decide (((p2.getD a5.toNat default).op)≥(2:Int)))&&(decide (((p2.getD a5.toNat default).op)≤(4:Int))))=true then ((zeH k p0 a4 (p2.getD a5.toNat default)).bind fun x11 => some x11) else (if ((decide (((p2.getD a5.toNat default).op)≥(12:Int)))&&(decide (((p2.getD a5.toNat default).op)≤(14:Int))))=true then ((zbT k p0 a4 (p2.getD a5.toNat default)).bind fun x13 => some x13) else (if (((p2.getD a5.toNat default).op)==(15:Int))=true then ((zad a4 p0.result).bind fun x15 => ((zbU x15.1).bind fun x17 => some x17)) else (if ((((p2.getD a5.toNat default).op)==(16:Int))||(((p2.getD a5.toNat default).op)==(17:Int)))=true then ((zdt k p0 a4 (p2.getD a5.toNat default)).bind fun x19 => some x19) else (if (((p2.getD a5.toNat default).op)==(26:Int))=true then ((zad a4 255).bind fun x21 => some x21.1) else (if (((p2.getD a5.toNat default).op)==(27:Int))=true then ((zad a4 127).bind fun x23 => ((zad x23.1 255).bind fun x25 => ((zad x25.1 x25.2).bind fun x27 => ((zaP x27.1 x27.2).bind fun x29 => some x29)))) else (if ((decide (((p2.getD a5.toNat default).op)≥(32:Int)))&&(decide (((p2.getD a5.toNat default).op)≤(36:Int))))=true then ((zaK p0 a4 (p2.getD a5.toNat default)).bind fun x31 => some x31) else ((zeF k p0 a4 (p2.getD a5.toNat default)).bind fun x33 => some x33))))))))))).bind (fun j7 => rec6 (j7,(wI (a5+1)))) else some a4)) (p1,0)).bind (fun j1 => some j1)
end
def zkl (K:Nat) (p0:Mdl) (p1:Int):Option (Int×Int):=(if (decide (p1<(0:Int)))=true then some true else (if (decide (p1≥(p0.funcs.length:Int)))=true then some true else gd (0≤p1∧p1<(p0.funcs.length:Int)) (if (decide (((p0.funcs.getD p1.toNat default).type_)≥(IntKind.wrap .u32 (p0.types.length:Int))))=true then some true else ((zix K p0).bind fun x2 => some (!x2))))).bind (fun j4 => (if j4=true then some (1,0) else gd (0≤p1∧p1<(p0.funcs.length:Int)) (gd (0≤((p0.funcs.getD p1.toNat default).type_)∧((p0.funcs.getD p1.toNat default).type_)<(p0.types.length:Int)) (gd (((p0.types.getD ((p0.funcs.getD p1.toNat default).type_).toNat default).params).length * 1≤140737488355328) (gd (0≤p1∧p1<(p0.funcs.length:Int)) (gd ((((p0.types.getD ((p0.funcs.getD p1.toNat default).type_).toNat default).params).length+((p0.funcs.getD p1.toNat default).locals).length) * 1≤140737488355328) (gd (0≤p1∧p1<(p0.funcs.length:Int)) ((zaX K (Env8.mk p0 ((p0.types.getD ((p0.funcs.getD p1.toNat default).type_).toNat default).result) ((p0.types.getD ((p0.funcs.getD p1.toNat default).type_).toNat default).params++(p0.funcs.getD p1.toNat default).locals) ([(p0.types.getD ((p0.funcs.getD p1.toNat default).type_).toNat default).result]:List Int)) (St8.mk ([]:List Int) 0 false false 0 true) ((p0.funcs.getD p1.toNat default).body)).bind fun x11 => ((zad x11 ((p0.types.getD ((p0.funcs.getD p1.toNat default).type_).toNat default).result)).bind fun x13 => (if ((!x13.1.ok)||(decide ((x13.1.l.length:Int)>(0:Int))))=true then some (7,0) else some (0,x13.1.most)))))))))))
def zlW (K:Nat) (p0:Mdl) (p1:Int):Option (Int×Option Int):=((zds K p0 p1).bind fun x1 => (if (!x1.2.isNone)=true then some (0,x1.2) else ((x1.1).bind fun x3 => some (x3.most,none))))
end Go.Proofs.YtablleokoifolaaGreatDoor
