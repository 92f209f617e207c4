/- Part 7 of the proof that ValidBodiesUptoCardSaid: for every input that fits the row the law answers true and its arguments read as before, over the world as the row lays it. -/
import Derived.Test.YtablleokoifolaaGreatDoorZ6
import Derived.Deep.Slices
import Derived.ChangeShapes
import Derived.RowKit
import Derived.ChangeSame
set_option linter.unusedVariables false
set_option maxRecDepth 100000
set_option maxHeartbeats 4000000
namespace Go.Proofs.YtablleokoifolaaGreatDoor
open Go
def zaM:Nat→Instr→Int→Int→Option (Int)
 | 0,_,_,_ => none
 | k+1,p2,a17,a18 => (if ((decide (a18<p2.align))&&(decide (a17≤(8:Int))))=true then zaM k p2 (wI (2 * a17)) (IntKind.wrap .u32 (a18+1)) else some a17)
def zcs (K:Nat) (p0:Env8) (p1:St8) (p2:Instr):Option (St8):=((zeX p2.op).bind fun x1 => ((zcY p2.op).bind fun x3 => ((zeD p2.op).bind fun x5 => (if ((!x1.2.2)||(bif (x3.1==(4:Int)) then (((p0.m.memories.length:Int)==(0:Int))||((x3.1==(1:Int))&&((decide (p2.n<((-2147483648):Int)))||(decide (p2.n≥(2147483648:Int)))))) else (bif (x3.1==(5:Int)) then (((p0.m.memories.length:Int)==(0:Int))||((x3.1==(1:Int))&&((decide (p2.n<((-2147483648):Int)))||(decide (p2.n≥(2147483648:Int)))))) else ((x3.1==(1:Int))&&((decide (p2.n<((-2147483648):Int)))||(decide (p2.n≥(2147483648:Int))))))))=true then some (St8.mk p1.l p1.under p1.away p1.dead p1.most false) else (if x5.2.2=true then (zaM K p2 1 0).bind (fun j10 => (if p1.ok=true then some (decide (j10≤x5.1)) else some false).bind (fun j11 => some j11)) else some p1.ok).bind (fun j7 => ((zbK K (St8.mk p1.l p1.under p1.away p1.dead p1.most j7) (Typ.mk x1.1 x1.2.1)).bind fun x8 => some x8))))))
theorem zxP (K:Nat) (p0:Env8) (p1:St8) (p2:Instr) (r:St8) (H:zcs K p0 p1 p2=some r):CF E 48 [.agg (eEnv8 p0),.agg (eSt8 p1),.agg (eInstr p2)] (.agg (eSt8 r)):=by
 refine zbi (A:=zmT) zwa rfl fun fr => ?_
 unfold zcs at H
 refine AW2.seq ?_
 refine r_ [.k 3,.k 4,.k 5,.k 6] [3,4,5,6] [] [.k 3,.k 4,.k 5,.k 6] ⟨[(3,.p 3 0),(4,.p 4 0),(5,.p 5 0),(6,.p 6 0)],[(3,.st false (eD (eEnv8 p0))),(4,.st false (eD (eSt8 p1))),(5,.st false (eD (eInstr p2))),(6,.st false [.d .nils,.d (.int .i64 0),.d (.bool false),.d (.bool false),.d (.int .i64 0),.d (.bool false)])]⟩ (a_ t_ t_) ?_
 refine AW2.seq ?_
 obtain ⟨x1,hx2,H⟩:=bind_some H
 refine r_ [.r (.tup [sV (eI .u8) x1.1,.int .u8 x1.2.1,.bool x1.2.2])] [3,4,5,6,7,8,9] [] [.k 3,.k 4,.k 5,.k 6] ⟨[(3,.p 3 0),(4,.p 4 0),(5,.p 5 0),(6,.p 6 0),(7,.d (sV (eI .u8) x1.1)),(8,.d (.int .u8 x1.2.1)),(9,.d (.bool x1.2.2))],[(3,.st false (eD (eEnv8 p0))),(4,.st false (eD (eSt8 p1))),(5,.st false (eD (eInstr p2))),(6,.st false [.d .nils,.d (.int .i64 0),.d (.bool false),.d (.bool false),.d (.int .i64 0),.d (.bool false)])]⟩ (a_ (a_ (zyS p2.op x1 hx2) t_) t_) ?_
 refine AW2.seq ?_
 obtain ⟨x3,hx4,H⟩:=bind_some H
 refine r_ [.r (.tup [.int .i64 x3.1,.bool x3.2])] [3,4,5,6,7,8,9,10] [] [.k 3,.k 4,.k 5,.k 6] ⟨[(3,.p 3 0),(4,.p 4 0),(5,.p 5 0),(6,.p 6 0),(7,.d (sV (eI .u8) x1.1)),(8,.d (.int .u8 x1.2.1)),(9,.d (.bool x1.2.2)),(10,.d (.int .i64 x3.1))],[(3,.st false (eD (eEnv8 p0))),(4,.st false (eD (eSt8 p1))),(5,.st false (eD (eInstr p2))),(6,.st false [.d .nils,.d (.int .i64 0),.d (.bool false),.d (.bool false),.d (.int .i64 0),.d (.bool false)])]⟩ (a_ (a_ (zkk p2.op x3 hx4) t_) t_) ?_
 refine AW2.seq ?_
 obtain ⟨x5,hx6,H⟩:=bind_some H
 refine r_ [.r (.tup [.int .i64 x5.1,.bool x5.2.1,.bool x5.2.2])] [3,4,5,6,7,8,9,10,12,14] [] [.k 3,.k 4,.k 5,.k 6] ⟨[(3,.p 3 0),(4,.p 4 0),(5,.p 5 0),(6,.p 6 0),(7,.d (sV (eI .u8) x1.1)),(8,.d (.int .u8 x1.2.1)),(9,.d (.bool x1.2.2)),(10,.d (.int .i64 x3.1)),(12,.d (.int .i64 x5.1)),(14,.d (.bool x5.2.2))],[(3,.st false (eD (eEnv8 p0))),(4,.st false (eD (eSt8 p1))),(5,.st false (eD (eInstr p2))),(6,.st false [.d .nils,.d (.int .i64 0),.d (.bool false),.d (.bool false),.d (.int .i64 0),.d (.bool false)])]⟩ (a_ (a_ (zxS p2.op x5 hx6) t_) t_) ?_
 refine AW2.seq ?_
 refine AW2.seq ?_
 refine AW2.reg [] rfl (YW.to ⟨[(4,.p 4 0),(5,.p 5 0),(6,.p 6 0),(7,.d (sV (eI .u8) x1.1)),(8,.d (.int .u8 x1.2.1)),(12,.d (.int .i64 x5.1)),(14,.d (.bool x5.2.2)),(67,.d (.bool ((!x1.2.2)||(bif (x3.1==(4:Int)) then (((p0.m.memories.length:Int)==(0:Int))||((x3.1==(1:Int))&&((decide (p2.n<((-2147483648):Int)))||(decide (p2.n≥(2147483648:Int)))))) else (bif (x3.1==(5:Int)) then (((p0.m.memories.length:Int)==(0:Int))||((x3.1==(1:Int))&&((decide (p2.n<((-2147483648):Int)))||(decide (p2.n≥(2147483648:Int)))))) else ((x3.1==(1:Int))&&((decide (p2.n<((-2147483648):Int)))||(decide (p2.n≥(2147483648:Int))))))))))],[(4,.st false (eD (eSt8 p1))),(5,.st false (eD (eInstr p2))),(6,.st false [.d .nils,.d (.int .i64 0),.d (.bool false),.d (.bool false),.d (.int .i64 0),.d (.bool false)])]⟩ ?qh24 ?h24)
 case h24 => 
  rcases bT (!x1.2.2) with hc1 | hc1
  ·exact YW.fin [(39,true),(54,true)] [] [4,5,6,7,8,12,14,67] [(67,.d (.bool ((!x1.2.2)||(bif (x3.1==(4:Int)) then (((p0.m.memories.length:Int)==(0:Int))||((x3.1==(1:Int))&&((decide (p2.n<((-2147483648):Int)))||(decide (p2.n≥(2147483648:Int)))))) else (bif (x3.1==(5:Int)) then (((p0.m.memories.length:Int)==(0:Int))||((x3.1==(1:Int))&&((decide (p2.n<((-2147483648):Int)))||(decide (p2.n≥(2147483648:Int)))))) else ((x3.1==(1:Int))&&((decide (p2.n<((-2147483648):Int)))||(decide (p2.n≥(2147483648:Int))))))))))] [.k 4,.k 5,.k 6] _ (a_ (a_ hc1 (a_ hc1 (a_ hc1 (a_ hc1 (a_ hc1 (a_ hc1 (a_ hc1 (a_ (Eq.refl true) (a_ (Eq.refl true) (a_ (Eq.refl true) (a_ (Eq.refl true) (a_ (Eq.refl true) t_)))))))))))) (a_ (ovB (orT (b:=(bif (x3.1==(4:Int)) then (((p0.m.memories.length:Int)==(0:Int))||((x3.1==(1:Int))&&((decide (p2.n<((-2147483648):Int)))||(decide (p2.n≥(2147483648:Int)))))) else (bif (x3.1==(5:Int)) then (((p0.m.memories.length:Int)==(0:Int))||((x3.1==(1:Int))&&((decide (p2.n<((-2147483648):Int)))||(decide (p2.n≥(2147483648:Int)))))) else ((x3.1==(1:Int))&&((decide (p2.n<((-2147483648):Int)))||(decide (p2.n≥(2147483648:Int)))))))) hc1)) t_)) (by kernel_rfl) rfl
  ·rcases bT (x3.1==(4:Int)) with hc2 | hc2
   ·rcases bT ((p0.m.memories.length:Int)==(0:Int)) with hc3 | hc3
    ·exact YW.fin [(39,false),(42,true),(54,true),(46,true)] [] [4,5,6,7,8,12,14,67] [(67,.d (.bool ((!x1.2.2)||(bif (x3.1==(4:Int)) then (((p0.m.memories.length:Int)==(0:Int))||((x3.1==(1:Int))&&((decide (p2.n<((-2147483648):Int)))||(decide (p2.n≥(2147483648:Int)))))) else (bif (x3.1==(5:Int)) then (((p0.m.memories.length:Int)==(0:Int))||((x3.1==(1:Int))&&((decide (p2.n<((-2147483648):Int)))||(decide (p2.n≥(2147483648:Int)))))) else ((x3.1==(1:Int))&&((decide (p2.n<((-2147483648):Int)))||(decide (p2.n≥(2147483648:Int))))))))))] [.k 4,.k 5,.k 6] _ (a_ (a_ hc1 (a_ hc1 (a_ hc1 (a_ hc2 (a_ hc2 (a_ hc1 (a_ hc2 (a_ hc1 (a_ (Eq.refl true) (a_ (Eq.refl true) (a_ (Eq.refl true) (a_ (Eq.refl true) (a_ (Eq.refl true) (a_ hc1 (a_ (Eq.refl true) (a_ hc1 (a_ hc3 (a_ hc3 (a_ hc3 (a_ hc3 (a_ hc3 t_))))))))))))))))))))) (a_ (ovB (Eq.trans (orF (b:=(bif (x3.1==(4:Int)) then (((p0.m.memories.length:Int)==(0:Int))||((x3.1==(1:Int))&&((decide (p2.n<((-2147483648):Int)))||(decide (p2.n≥(2147483648:Int)))))) else (bif (x3.1==(5:Int)) then (((p0.m.memories.length:Int)==(0:Int))||((x3.1==(1:Int))&&((decide (p2.n<((-2147483648):Int)))||(decide (p2.n≥(2147483648:Int)))))) else ((x3.1==(1:Int))&&((decide (p2.n<((-2147483648):Int)))||(decide (p2.n≥(2147483648:Int)))))))) hc1) (Eq.trans (bifT (a:=(((p0.m.memories.length:Int)==(0:Int))||((x3.1==(1:Int))&&((decide (p2.n<((-2147483648):Int)))||(decide (p2.n≥(2147483648:Int))))))) (b:=(bif (x3.1==(5:Int)) then (((p0.m.memories.length:Int)==(0:Int))||((x3.1==(1:Int))&&((decide (p2.n<((-2147483648):Int)))||(decide (p2.n≥(2147483648:Int)))))) else ((x3.1==(1:Int))&&((decide (p2.n<((-2147483648):Int)))||(decide (p2.n≥(2147483648:Int))))))) hc2) (orT (b:=((x3.1==(1:Int))&&((decide (p2.n<((-2147483648):Int)))||(decide (p2.n≥(2147483648:Int)))))) hc3)))) t_)) (by kernel_rfl) rfl
    ·rcases bT (x3.1==(1:Int)) with hc4 | hc4
     ·rcases bT (decide (p2.n<((-2147483648):Int))) with hc5 | hc5
      ·exact YW.fin [(39,false),(42,true),(54,false),(57,true),(61,true),(46,true)] [] [4,5,6,7,8,12,14,67] [(67,.d (.bool ((!x1.2.2)||(bif (x3.1==(4:Int)) then (((p0.m.memories.length:Int)==(0:Int))||((x3.1==(1:Int))&&((decide (p2.n<((-2147483648):Int)))||(decide (p2.n≥(2147483648:Int)))))) else (bif (x3.1==(5:Int)) then (((p0.m.memories.length:Int)==(0:Int))||((x3.1==(1:Int))&&((decide (p2.n<((-2147483648):Int)))||(decide (p2.n≥(2147483648:Int)))))) else ((x3.1==(1:Int))&&((decide (p2.n<((-2147483648):Int)))||(decide (p2.n≥(2147483648:Int))))))))))] [.k 4,.k 5,.k 6] _ (a_ (a_ hc1 (a_ hc1 (a_ hc1 (a_ hc2 (a_ hc2 (a_ hc1 (a_ hc2 (a_ hc1 (a_ (Eq.refl true) (a_ (Eq.refl true) (a_ (Eq.refl true) (a_ (Eq.refl true) (a_ (Eq.refl true) (a_ hc1 (a_ (Eq.refl true) (a_ hc1 (a_ hc3 (a_ hc3 (a_ hc3 (a_ hc4 (a_ hc4 (a_ hc4 (a_ hc4 (a_ hc5 (a_ hc5 (a_ hc5 (a_ hc4 (a_ hc5 (a_ hc3 (a_ hc4 (a_ hc3 t_))))))))))))))))))))))))))))))) (a_ (ovB (Eq.trans (orF (b:=(bif (x3.1==(4:Int)) then (((p0.m.memories.length:Int)==(0:Int))||((x3.1==(1:Int))&&((decide (p2.n<((-2147483648):Int)))||(decide (p2.n≥(2147483648:Int)))))) else (bif (x3.1==(5:Int)) then (((p0.m.memories.length:Int)==(0:Int))||((x3.1==(1:Int))&&((decide (p2.n<((-2147483648):Int)))||(decide (p2.n≥(2147483648:Int)))))) else ((x3.1==(1:Int))&&((decide (p2.n<((-2147483648):Int)))||(decide (p2.n≥(2147483648:Int)))))))) hc1) (Eq.trans (bifT (a:=(((p0.m.memories.length:Int)==(0:Int))||((x3.1==(1:Int))&&((decide (p2.n<((-2147483648):Int)))||(decide (p2.n≥(2147483648:Int))))))) (b:=(bif (x3.1==(5:Int)) then (((p0.m.memories.length:Int)==(0:Int))||((x3.1==(1:Int))&&((decide (p2.n<((-2147483648):Int)))||(decide (p2.n≥(2147483648:Int)))))) else ((x3.1==(1:Int))&&((decide (p2.n<((-2147483648):Int)))||(decide (p2.n≥(2147483648:Int))))))) hc2) (Eq.trans (orF (b:=((x3.1==(1:Int))&&((decide (p2.n<((-2147483648):Int)))||(decide (p2.n≥(2147483648:Int)))))) hc3) (Eq.trans (andT (b:=((decide (p2.n<((-2147483648):Int)))||(decide (p2.n≥(2147483648:Int))))) hc4) (orT (b:=(decide (p2.n≥(2147483648:Int)))) hc5)))))) t_)) (by kernel_rfl) rfl
      ·exact YW.fin [(39,false),(42,true),(54,false),(57,true),(61,false),(46,true)] [] [4,5,6,7,8,12,14,67] [(67,.d (.bool ((!x1.2.2)||(bif (x3.1==(4:Int)) then (((p0.m.memories.length:Int)==(0:Int))||((x3.1==(1:Int))&&((decide (p2.n<((-2147483648):Int)))||(decide (p2.n≥(2147483648:Int)))))) else (bif (x3.1==(5:Int)) then (((p0.m.memories.length:Int)==(0:Int))||((x3.1==(1:Int))&&((decide (p2.n<((-2147483648):Int)))||(decide (p2.n≥(2147483648:Int)))))) else ((x3.1==(1:Int))&&((decide (p2.n<((-2147483648):Int)))||(decide (p2.n≥(2147483648:Int))))))))))] [.k 4,.k 5,.k 6] _ (a_ (a_ hc1 (a_ hc1 (a_ hc1 (a_ hc2 (a_ hc2 (a_ hc1 (a_ hc2 (a_ hc1 (a_ (Eq.refl true) (a_ (Eq.refl true) (a_ (Eq.refl true) (a_ (Eq.refl true) (a_ (Eq.refl true) (a_ hc1 (a_ (Eq.refl true) (a_ hc1 (a_ hc3 (a_ hc3 (a_ hc3 (a_ hc4 (a_ hc4 (a_ hc4 (a_ hc4 (a_ hc5 (a_ hc5 (a_ hc5 (a_ hc4 (a_ hc5 (a_ hc3 (a_ hc4 (a_ hc3 t_))))))))))))))))))))))))))))))) (a_ (ovB (Eq.trans (orF (b:=(bif (x3.1==(4:Int)) then (((p0.m.memories.length:Int)==(0:Int))||((x3.1==(1:Int))&&((decide (p2.n<((-2147483648):Int)))||(decide (p2.n≥(2147483648:Int)))))) else (bif (x3.1==(5:Int)) then (((p0.m.memories.length:Int)==(0:Int))||((x3.1==(1:Int))&&((decide (p2.n<((-2147483648):Int)))||(decide (p2.n≥(2147483648:Int)))))) else ((x3.1==(1:Int))&&((decide (p2.n<((-2147483648):Int)))||(decide (p2.n≥(2147483648:Int)))))))) hc1) (Eq.trans (bifT (a:=(((p0.m.memories.length:Int)==(0:Int))||((x3.1==(1:Int))&&((decide (p2.n<((-2147483648):Int)))||(decide (p2.n≥(2147483648:Int))))))) (b:=(bif (x3.1==(5:Int)) then (((p0.m.memories.length:Int)==(0:Int))||((x3.1==(1:Int))&&((decide (p2.n<((-2147483648):Int)))||(decide (p2.n≥(2147483648:Int)))))) else ((x3.1==(1:Int))&&((decide (p2.n<((-2147483648):Int)))||(decide (p2.n≥(2147483648:Int))))))) hc2) (Eq.trans (orF (b:=((x3.1==(1:Int))&&((decide (p2.n<((-2147483648):Int)))||(decide (p2.n≥(2147483648:Int)))))) hc3) (Eq.trans (andT (b:=((decide (p2.n<((-2147483648):Int)))||(decide (p2.n≥(2147483648:Int))))) hc4) (Eq.trans (orF (b:=(decide (p2.n≥(2147483648:Int)))) hc5) (Eq.refl (decide (p2.n≥(2147483648:Int)))))))))) t_)) (by kernel_rfl) rfl
     ·exact YW.fin [(39,false),(42,true),(54,false),(57,false),(46,true)] [] [4,5,6,7,8,12,14,67] [(67,.d (.bool ((!x1.2.2)||(bif (x3.1==(4:Int)) then (((p0.m.memories.length:Int)==(0:Int))||((x3.1==(1:Int))&&((decide (p2.n<((-2147483648):Int)))||(decide (p2.n≥(2147483648:Int)))))) else (bif (x3.1==(5:Int)) then (((p0.m.memories.length:Int)==(0:Int))||((x3.1==(1:Int))&&((decide (p2.n<((-2147483648):Int)))||(decide (p2.n≥(2147483648:Int)))))) else ((x3.1==(1:Int))&&((decide (p2.n<((-2147483648):Int)))||(decide (p2.n≥(2147483648:Int))))))))))] [.k 4,.k 5,.k 6] _ (a_ (a_ hc1 (a_ hc1 (a_ hc1 (a_ hc2 (a_ hc2 (a_ hc1 (a_ hc2 (a_ hc1 (a_ (Eq.refl true) (a_ (Eq.refl true) (a_ (Eq.refl true) (a_ (Eq.refl true) (a_ (Eq.refl true) (a_ hc1 (a_ (Eq.refl true) (a_ hc1 (a_ hc3 (a_ hc3 (a_ hc3 (a_ hc4 (a_ hc4 (a_ hc4 (a_ hc4 (a_ hc4 (a_ hc3 (a_ hc4 (a_ hc3 t_))))))))))))))))))))))))))) (a_ (ovB (Eq.trans (orF (b:=(bif (x3.1==(4:Int)) then (((p0.m.memories.length:Int)==(0:Int))||((x3.1==(1:Int))&&((decide (p2.n<((-2147483648):Int)))||(decide (p2.n≥(2147483648:Int)))))) else (bif (x3.1==(5:Int)) then (((p0.m.memories.length:Int)==(0:Int))||((x3.1==(1:Int))&&((decide (p2.n<((-2147483648):Int)))||(decide (p2.n≥(2147483648:Int)))))) else ((x3.1==(1:Int))&&((decide (p2.n<((-2147483648):Int)))||(decide (p2.n≥(2147483648:Int)))))))) hc1) (Eq.trans (bifT (a:=(((p0.m.memories.length:Int)==(0:Int))||((x3.1==(1:Int))&&((decide (p2.n<((-2147483648):Int)))||(decide (p2.n≥(2147483648:Int))))))) (b:=(bif (x3.1==(5:Int)) then (((p0.m.memories.length:Int)==(0:Int))||((x3.1==(1:Int))&&((decide (p2.n<((-2147483648):Int)))||(decide (p2.n≥(2147483648:Int)))))) else ((x3.1==(1:Int))&&((decide (p2.n<((-2147483648):Int)))||(decide (p2.n≥(2147483648:Int))))))) hc2) (Eq.trans (orF (b:=((x3.1==(1:Int))&&((decide (p2.n<((-2147483648):Int)))||(decide (p2.n≥(2147483648:Int)))))) hc3) (andF (b:=((decide (p2.n<((-2147483648):Int)))||(decide (p2.n≥(2147483648:Int))))) hc4))))) t_)) (by kernel_rfl) rfl
   ·rcases bT (x3.1==(5:Int)) with hc3 | hc3
    ·rcases bT ((p0.m.memories.length:Int)==(0:Int)) with hc4 | hc4
     ·exact YW.fin [(39,false),(42,false),(46,true),(54,true)] [] [4,5,6,7,8,12,14,67] [(67,.d (.bool ((!x1.2.2)||(bif (x3.1==(4:Int)) then (((p0.m.memories.length:Int)==(0:Int))||((x3.1==(1:Int))&&((decide (p2.n<((-2147483648):Int)))||(decide (p2.n≥(2147483648:Int)))))) else (bif (x3.1==(5:Int)) then (((p0.m.memories.length:Int)==(0:Int))||((x3.1==(1:Int))&&((decide (p2.n<((-2147483648):Int)))||(decide (p2.n≥(2147483648:Int)))))) else ((x3.1==(1:Int))&&((decide (p2.n<((-2147483648):Int)))||(decide (p2.n≥(2147483648:Int))))))))))] [.k 4,.k 5,.k 6] _ (a_ (a_ hc1 (a_ hc1 (a_ hc1 (a_ hc2 (a_ hc2 (a_ hc1 (a_ hc2 (a_ hc1 (a_ hc3 (a_ hc3 (a_ hc3 (a_ hc3 (a_ hc3 (a_ hc1 (a_ hc3 (a_ hc1 (a_ hc4 (a_ hc4 (a_ hc4 (a_ hc4 (a_ hc4 t_))))))))))))))))))))) (a_ (ovB (Eq.trans (orF (b:=(bif (x3.1==(4:Int)) then (((p0.m.memories.length:Int)==(0:Int))||((x3.1==(1:Int))&&((decide (p2.n<((-2147483648):Int)))||(decide (p2.n≥(2147483648:Int)))))) else (bif (x3.1==(5:Int)) then (((p0.m.memories.length:Int)==(0:Int))||((x3.1==(1:Int))&&((decide (p2.n<((-2147483648):Int)))||(decide (p2.n≥(2147483648:Int)))))) else ((x3.1==(1:Int))&&((decide (p2.n<((-2147483648):Int)))||(decide (p2.n≥(2147483648:Int)))))))) hc1) (Eq.trans (bifF (a:=(((p0.m.memories.length:Int)==(0:Int))||((x3.1==(1:Int))&&((decide (p2.n<((-2147483648):Int)))||(decide (p2.n≥(2147483648:Int))))))) (b:=(bif (x3.1==(5:Int)) then (((p0.m.memories.length:Int)==(0:Int))||((x3.1==(1:Int))&&((decide (p2.n<((-2147483648):Int)))||(decide (p2.n≥(2147483648:Int)))))) else ((x3.1==(1:Int))&&((decide (p2.n<((-2147483648):Int)))||(decide (p2.n≥(2147483648:Int))))))) hc2) (Eq.trans (bifT (a:=(((p0.m.memories.length:Int)==(0:Int))||((x3.1==(1:Int))&&((decide (p2.n<((-2147483648):Int)))||(decide (p2.n≥(2147483648:Int))))))) (b:=((x3.1==(1:Int))&&((decide (p2.n<((-2147483648):Int)))||(decide (p2.n≥(2147483648:Int)))))) hc3) (orT (b:=((x3.1==(1:Int))&&((decide (p2.n<((-2147483648):Int)))||(decide (p2.n≥(2147483648:Int)))))) hc4))))) t_)) (by kernel_rfl) rfl
     ·rcases bT (x3.1==(1:Int)) with hc5 | hc5
      ·rcases bT (decide (p2.n<((-2147483648):Int))) with hc6 | hc6
       ·exact YW.fin [(39,false),(42,false),(46,true),(54,false),(57,true),(61,true)] [] [4,5,6,7,8,12,14,67] [(67,.d (.bool ((!x1.2.2)||(bif (x3.1==(4:Int)) then (((p0.m.memories.length:Int)==(0:Int))||((x3.1==(1:Int))&&((decide (p2.n<((-2147483648):Int)))||(decide (p2.n≥(2147483648:Int)))))) else (bif (x3.1==(5:Int)) then (((p0.m.memories.length:Int)==(0:Int))||((x3.1==(1:Int))&&((decide (p2.n<((-2147483648):Int)))||(decide (p2.n≥(2147483648:Int)))))) else ((x3.1==(1:Int))&&((decide (p2.n<((-2147483648):Int)))||(decide (p2.n≥(2147483648:Int))))))))))] [.k 4,.k 5,.k 6] _ (a_ (a_ hc1 (a_ hc1 (a_ hc1 (a_ hc2 (a_ hc2 (a_ hc1 (a_ hc2 (a_ hc1 (a_ hc3 (a_ hc3 (a_ hc3 (a_ hc3 (a_ hc3 (a_ hc1 (a_ hc3 (a_ hc1 (a_ hc4 (a_ hc4 (a_ hc4 (a_ hc5 (a_ hc5 (a_ hc5 (a_ hc5 (a_ hc6 (a_ hc6 (a_ hc6 (a_ hc5 (a_ hc6 (a_ hc4 (a_ hc5 (a_ hc4 t_))))))))))))))))))))))))))))))) (a_ (ovB (Eq.trans (orF (b:=(bif (x3.1==(4:Int)) then (((p0.m.memories.length:Int)==(0:Int))||((x3.1==(1:Int))&&((decide (p2.n<((-2147483648):Int)))||(decide (p2.n≥(2147483648:Int)))))) else (bif (x3.1==(5:Int)) then (((p0.m.memories.length:Int)==(0:Int))||((x3.1==(1:Int))&&((decide (p2.n<((-2147483648):Int)))||(decide (p2.n≥(2147483648:Int)))))) else ((x3.1==(1:Int))&&((decide (p2.n<((-2147483648):Int)))||(decide (p2.n≥(2147483648:Int)))))))) hc1) (Eq.trans (bifF (a:=(((p0.m.memories.length:Int)==(0:Int))||((x3.1==(1:Int))&&((decide (p2.n<((-2147483648):Int)))||(decide (p2.n≥(2147483648:Int))))))) (b:=(bif (x3.1==(5:Int)) then (((p0.m.memories.length:Int)==(0:Int))||((x3.1==(1:Int))&&((decide (p2.n<((-2147483648):Int)))||(decide (p2.n≥(2147483648:Int)))))) else ((x3.1==(1:Int))&&((decide (p2.n<((-2147483648):Int)))||(decide (p2.n≥(2147483648:Int))))))) hc2) (Eq.trans (bifT (a:=(((p0.m.memories.length:Int)==(0:Int))||((x3.1==(1:Int))&&((decide (p2.n<((-2147483648):Int)))||(decide (p2.n≥(2147483648:Int))))))) (b:=((x3.1==(1:Int))&&((decide (p2.n<((-2147483648):Int)))||(decide (p2.n≥(2147483648:Int)))))) hc3) (Eq.trans (orF (b:=((x3.1==(1:Int))&&((decide (p2.n<((-2147483648):Int)))||(decide (p2.n≥(2147483648:Int)))))) hc4) (Eq.trans (andT (b:=((decide (p2.n<((-2147483648):Int)))||(decide (p2.n≥(2147483648:Int))))) hc5) (orT (b:=(decide (p2.n≥(2147483648:Int)))) hc6))))))) t_)) (by kernel_rfl) rfl
       ·exact YW.fin [(39,false),(42,false),(46,true),(54,false),(57,true),(61,false)] [] [4,5,6,7,8,12,14,67] [(67,.d (.bool ((!x1.2.2)||(bif (x3.1==(4:Int)) then (((p0.m.memories.length:Int)==(0:Int))||((x3.1==(1:Int))&&((decide (p2.n<((-2147483648):Int)))||(decide (p2.n≥(2147483648:Int)))))) else (bif (x3.1==(5:Int)) then (((p0.m.memories.length:Int)==(0:Int))||((x3.1==(1:Int))&&((decide (p2.n<((-2147483648):Int)))||(decide (p2.n≥(2147483648:Int)))))) else ((x3.1==(1:Int))&&((decide (p2.n<((-2147483648):Int)))||(decide (p2.n≥(2147483648:Int))))))))))] [.k 4,.k 5,.k 6] _ (a_ (a_ hc1 (a_ hc1 (a_ hc1 (a_ hc2 (a_ hc2 (a_ hc1 (a_ hc2 (a_ hc1 (a_ hc3 (a_ hc3 (a_ hc3 (a_ hc3 (a_ hc3 (a_ hc1 (a_ hc3 (a_ hc1 (a_ hc4 (a_ hc4 (a_ hc4 (a_ hc5 (a_ hc5 (a_ hc5 (a_ hc5 (a_ hc6 (a_ hc6 (a_ hc6 (a_ hc5 (a_ hc6 (a_ hc4 (a_ hc5 (a_ hc4 t_))))))))))))))))))))))))))))))) (a_ (ovB (Eq.trans (orF (b:=(bif (x3.1==(4:Int)) then (((p0.m.memories.length:Int)==(0:Int))||((x3.1==(1:Int))&&((decide (p2.n<((-2147483648):Int)))||(decide (p2.n≥(2147483648:Int)))))) else (bif (x3.1==(5:Int)) then (((p0.m.memories.length:Int)==(0:Int))||((x3.1==(1:Int))&&((decide (p2.n<((-2147483648):Int)))||(decide (p2.n≥(2147483648:Int)))))) else ((x3.1==(1:Int))&&((decide (p2.n<((-2147483648):Int)))||(decide (p2.n≥(2147483648:Int)))))))) hc1) (Eq.trans (bifF (a:=(((p0.m.memories.length:Int)==(0:Int))||((x3.1==(1:Int))&&((decide (p2.n<((-2147483648):Int)))||(decide (p2.n≥(2147483648:Int))))))) (b:=(bif (x3.1==(5:Int)) then (((p0.m.memories.length:Int)==(0:Int))||((x3.1==(1:Int))&&((decide (p2.n<((-2147483648):Int)))||(decide (p2.n≥(2147483648:Int)))))) else ((x3.1==(1:Int))&&((decide (p2.n<((-2147483648):Int)))||(decide (p2.n≥(2147483648:Int))))))) hc2) (Eq.trans (bifT (a:=(((p0.m.memories.length:Int)==(0:Int))||((x3.1==(1:Int))&&((decide (p2.n<((-2147483648):Int)))||(decide (p2.n≥(2147483648:Int))))))) (b:=((x3.1==(1:Int))&&((decide (p2.n<((-2147483648):Int)))||(decide (p2.n≥(2147483648:Int)))))) hc3) (Eq.trans (orF (b:=((x3.1==(1:Int))&&((decide (p2.n<((-2147483648):Int)))||(decide (p2.n≥(2147483648:Int)))))) hc4) (Eq.trans (andT (b:=((decide (p2.n<((-2147483648):Int)))||(decide (p2.n≥(2147483648:Int))))) hc5) (Eq.trans (orF (b:=(decide (p2.n≥(2147483648:Int)))) hc6) (Eq.refl (decide (p2.n≥(2147483648:Int))))))))))) t_)) (by kernel_rfl) rfl
      ·exact YW.fin [(39,false),(42,false),(46,true),(54,false),(57,false)] [] [4,5,6,7,8,12,14,67] [(67,.d (.bool ((!x1.2.2)||(bif (x3.1==(4:Int)) then (((p0.m.memories.length:Int)==(0:Int))||((x3.1==(1:Int))&&((decide (p2.n<((-2147483648):Int)))||(decide (p2.n≥(2147483648:Int)))))) else (bif (x3.1==(5:Int)) then (((p0.m.memories.length:Int)==(0:Int))||((x3.1==(1:Int))&&((decide (p2.n<((-2147483648):Int)))||(decide (p2.n≥(2147483648:Int)))))) else ((x3.1==(1:Int))&&((decide (p2.n<((-2147483648):Int)))||(decide (p2.n≥(2147483648:Int))))))))))] [.k 4,.k 5,.k 6] _ (a_ (a_ hc1 (a_ hc1 (a_ hc1 (a_ hc2 (a_ hc2 (a_ hc1 (a_ hc2 (a_ hc1 (a_ hc3 (a_ hc3 (a_ hc3 (a_ hc3 (a_ hc3 (a_ hc1 (a_ hc3 (a_ hc1 (a_ hc4 (a_ hc4 (a_ hc4 (a_ hc5 (a_ hc5 (a_ hc5 (a_ hc5 (a_ hc5 (a_ hc4 (a_ hc5 (a_ hc4 t_))))))))))))))))))))))))))) (a_ (ovB (Eq.trans (orF (b:=(bif (x3.1==(4:Int)) then (((p0.m.memories.length:Int)==(0:Int))||((x3.1==(1:Int))&&((decide (p2.n<((-2147483648):Int)))||(decide (p2.n≥(2147483648:Int)))))) else (bif (x3.1==(5:Int)) then (((p0.m.memories.length:Int)==(0:Int))||((x3.1==(1:Int))&&((decide (p2.n<((-2147483648):Int)))||(decide (p2.n≥(2147483648:Int)))))) else ((x3.1==(1:Int))&&((decide (p2.n<((-2147483648):Int)))||(decide (p2.n≥(2147483648:Int)))))))) hc1) (Eq.trans (bifF (a:=(((p0.m.memories.length:Int)==(0:Int))||((x3.1==(1:Int))&&((decide (p2.n<((-2147483648):Int)))||(decide (p2.n≥(2147483648:Int))))))) (b:=(bif (x3.1==(5:Int)) then (((p0.m.memories.length:Int)==(0:Int))||((x3.1==(1:Int))&&((decide (p2.n<((-2147483648):Int)))||(decide (p2.n≥(2147483648:Int)))))) else ((x3.1==(1:Int))&&((decide (p2.n<((-2147483648):Int)))||(decide (p2.n≥(2147483648:Int))))))) hc2) (Eq.trans (bifT (a:=(((p0.m.memories.length:Int)==(0:Int))||((x3.1==(1:Int))&&((decide (p2.n<((-2147483648):Int)))||(decide (p2.n≥(2147483648:Int))))))) (b:=((x3.1==(1:Int))&&((decide (p2.n<((-2147483648):Int)))||(decide (p2.n≥(2147483648:Int)))))) hc3) (Eq.trans (orF (b:=((x3.1==(1:Int))&&((decide (p2.n<((-2147483648):Int)))||(decide (p2.n≥(2147483648:Int)))))) hc4) (andF (b:=((decide (p2.n<((-2147483648):Int)))||(decide (p2.n≥(2147483648:Int))))) hc5)))))) t_)) (by kernel_rfl) rfl
    ·rcases bT (x3.1==(1:Int)) with hc4 | hc4
     ·rcases bT (decide (p2.n<((-2147483648):Int))) with hc5 | hc5
      ·exact YW.fin [(39,false),(42,false),(46,false),(57,true),(61,true),(54,false)] [] [4,5,6,7,8,12,14,67] [(67,.d (.bool ((!x1.2.2)||(bif (x3.1==(4:Int)) then (((p0.m.memories.length:Int)==(0:Int))||((x3.1==(1:Int))&&((decide (p2.n<((-2147483648):Int)))||(decide (p2.n≥(2147483648:Int)))))) else (bif (x3.1==(5:Int)) then (((p0.m.memories.length:Int)==(0:Int))||((x3.1==(1:Int))&&((decide (p2.n<((-2147483648):Int)))||(decide (p2.n≥(2147483648:Int)))))) else ((x3.1==(1:Int))&&((decide (p2.n<((-2147483648):Int)))||(decide (p2.n≥(2147483648:Int))))))))))] [.k 4,.k 5,.k 6] _ (a_ (a_ hc1 (a_ hc1 (a_ hc1 (a_ hc2 (a_ hc2 (a_ hc1 (a_ hc2 (a_ hc1 (a_ hc3 (a_ hc3 (a_ hc3 (a_ hc3 (a_ hc3 (a_ hc1 (a_ hc3 (a_ hc1 (a_ (Eq.refl false) (a_ (Eq.refl false) (a_ (Eq.refl false) (a_ hc4 (a_ hc4 (a_ hc4 (a_ hc4 (a_ hc5 (a_ hc5 (a_ hc5 (a_ hc4 (a_ hc5 (a_ (Eq.refl false) (a_ hc4 (a_ (Eq.refl false) t_))))))))))))))))))))))))))))))) (a_ (ovB (Eq.trans (orF (b:=(bif (x3.1==(4:Int)) then (((p0.m.memories.length:Int)==(0:Int))||((x3.1==(1:Int))&&((decide (p2.n<((-2147483648):Int)))||(decide (p2.n≥(2147483648:Int)))))) else (bif (x3.1==(5:Int)) then (((p0.m.memories.length:Int)==(0:Int))||((x3.1==(1:Int))&&((decide (p2.n<((-2147483648):Int)))||(decide (p2.n≥(2147483648:Int)))))) else ((x3.1==(1:Int))&&((decide (p2.n<((-2147483648):Int)))||(decide (p2.n≥(2147483648:Int)))))))) hc1) (Eq.trans (bifF (a:=(((p0.m.memories.length:Int)==(0:Int))||((x3.1==(1:Int))&&((decide (p2.n<((-2147483648):Int)))||(decide (p2.n≥(2147483648:Int))))))) (b:=(bif (x3.1==(5:Int)) then (((p0.m.memories.length:Int)==(0:Int))||((x3.1==(1:Int))&&((decide (p2.n<((-2147483648):Int)))||(decide (p2.n≥(2147483648:Int)))))) else ((x3.1==(1:Int))&&((decide (p2.n<((-2147483648):Int)))||(decide (p2.n≥(2147483648:Int))))))) hc2) (Eq.trans (bifF (a:=(((p0.m.memories.length:Int)==(0:Int))||((x3.1==(1:Int))&&((decide (p2.n<((-2147483648):Int)))||(decide (p2.n≥(2147483648:Int))))))) (b:=((x3.1==(1:Int))&&((decide (p2.n<((-2147483648):Int)))||(decide (p2.n≥(2147483648:Int)))))) hc3) (Eq.trans (andT (b:=((decide (p2.n<((-2147483648):Int)))||(decide (p2.n≥(2147483648:Int))))) hc4) (orT (b:=(decide (p2.n≥(2147483648:Int)))) hc5)))))) t_)) (by kernel_rfl) rfl
      ·exact YW.fin [(39,false),(42,false),(46,false),(57,true),(61,false),(54,false)] [] [4,5,6,7,8,12,14,67] [(67,.d (.bool ((!x1.2.2)||(bif (x3.1==(4:Int)) then (((p0.m.memories.length:Int)==(0:Int))||((x3.1==(1:Int))&&((decide (p2.n<((-2147483648):Int)))||(decide (p2.n≥(2147483648:Int)))))) else (bif (x3.1==(5:Int)) then (((p0.m.memories.length:Int)==(0:Int))||((x3.1==(1:Int))&&((decide (p2.n<((-2147483648):Int)))||(decide (p2.n≥(2147483648:Int)))))) else ((x3.1==(1:Int))&&((decide (p2.n<((-2147483648):Int)))||(decide (p2.n≥(2147483648:Int))))))))))] [.k 4,.k 5,.k 6] _ (a_ (a_ hc1 (a_ hc1 (a_ hc1 (a_ hc2 (a_ hc2 (a_ hc1 (a_ hc2 (a_ hc1 (a_ hc3 (a_ hc3 (a_ hc3 (a_ hc3 (a_ hc3 (a_ hc1 (a_ hc3 (a_ hc1 (a_ (Eq.refl false) (a_ (Eq.refl false) (a_ (Eq.refl false) (a_ hc4 (a_ hc4 (a_ hc4 (a_ hc4 (a_ hc5 (a_ hc5 (a_ hc5 (a_ hc4 (a_ hc5 (a_ (Eq.refl false) (a_ hc4 (a_ (Eq.refl false) t_))))))))))))))))))))))))))))))) (a_ (ovB (Eq.trans (orF (b:=(bif (x3.1==(4:Int)) then (((p0.m.memories.length:Int)==(0:Int))||((x3.1==(1:Int))&&((decide (p2.n<((-2147483648):Int)))||(decide (p2.n≥(2147483648:Int)))))) else (bif (x3.1==(5:Int)) then (((p0.m.memories.length:Int)==(0:Int))||((x3.1==(1:Int))&&((decide (p2.n<((-2147483648):Int)))||(decide (p2.n≥(2147483648:Int)))))) else ((x3.1==(1:Int))&&((decide (p2.n<((-2147483648):Int)))||(decide (p2.n≥(2147483648:Int)))))))) hc1) (Eq.trans (bifF (a:=(((p0.m.memories.length:Int)==(0:Int))||((x3.1==(1:Int))&&((decide (p2.n<((-2147483648):Int)))||(decide (p2.n≥(2147483648:Int))))))) (b:=(bif (x3.1==(5:Int)) then (((p0.m.memories.length:Int)==(0:Int))||((x3.1==(1:Int))&&((decide (p2.n<((-2147483648):Int)))||(decide (p2.n≥(2147483648:Int)))))) else ((x3.1==(1:Int))&&((decide (p2.n<((-2147483648):Int)))||(decide (p2.n≥(2147483648:Int))))))) hc2) (Eq.trans (bifF (a:=(((p0.m.memories.length:Int)==(0:Int))||((x3.1==(1:Int))&&((decide (p2.n<((-2147483648):Int)))||(decide (p2.n≥(2147483648:Int))))))) (b:=((x3.1==(1:Int))&&((decide (p2.n<((-2147483648):Int)))||(decide (p2.n≥(2147483648:Int)))))) hc3) (Eq.trans (andT (b:=((decide (p2.n<((-2147483648):Int)))||(decide (p2.n≥(2147483648:Int))))) hc4) (Eq.trans (orF (b:=(decide (p2.n≥(2147483648:Int)))) hc5) (Eq.refl (decide (p2.n≥(2147483648:Int)))))))))) t_)) (by kernel_rfl) rfl
     ·exact YW.fin [(39,false),(42,false),(46,false),(57,false),(54,false)] [] [4,5,6,7,8,12,14,67] [(67,.d (.bool ((!x1.2.2)||(bif (x3.1==(4:Int)) then (((p0.m.memories.length:Int)==(0:Int))||((x3.1==(1:Int))&&((decide (p2.n<((-2147483648):Int)))||(decide (p2.n≥(2147483648:Int)))))) else (bif (x3.1==(5:Int)) then (((p0.m.memories.length:Int)==(0:Int))||((x3.1==(1:Int))&&((decide (p2.n<((-2147483648):Int)))||(decide (p2.n≥(2147483648:Int)))))) else ((x3.1==(1:Int))&&((decide (p2.n<((-2147483648):Int)))||(decide (p2.n≥(2147483648:Int))))))))))] [.k 4,.k 5,.k 6] _ (a_ (a_ hc1 (a_ hc1 (a_ hc1 (a_ hc2 (a_ hc2 (a_ hc1 (a_ hc2 (a_ hc1 (a_ hc3 (a_ hc3 (a_ hc3 (a_ hc3 (a_ hc3 (a_ hc1 (a_ hc3 (a_ hc1 (a_ (Eq.refl false) (a_ (Eq.refl false) (a_ (Eq.refl false) (a_ hc4 (a_ hc4 (a_ hc4 (a_ hc4 (a_ hc4 (a_ (Eq.refl false) (a_ hc4 (a_ (Eq.refl false) t_))))))))))))))))))))))))))) (a_ (ovB (Eq.trans (orF (b:=(bif (x3.1==(4:Int)) then (((p0.m.memories.length:Int)==(0:Int))||((x3.1==(1:Int))&&((decide (p2.n<((-2147483648):Int)))||(decide (p2.n≥(2147483648:Int)))))) else (bif (x3.1==(5:Int)) then (((p0.m.memories.length:Int)==(0:Int))||((x3.1==(1:Int))&&((decide (p2.n<((-2147483648):Int)))||(decide (p2.n≥(2147483648:Int)))))) else ((x3.1==(1:Int))&&((decide (p2.n<((-2147483648):Int)))||(decide (p2.n≥(2147483648:Int)))))))) hc1) (Eq.trans (bifF (a:=(((p0.m.memories.length:Int)==(0:Int))||((x3.1==(1:Int))&&((decide (p2.n<((-2147483648):Int)))||(decide (p2.n≥(2147483648:Int))))))) (b:=(bif (x3.1==(5:Int)) then (((p0.m.memories.length:Int)==(0:Int))||((x3.1==(1:Int))&&((decide (p2.n<((-2147483648):Int)))||(decide (p2.n≥(2147483648:Int)))))) else ((x3.1==(1:Int))&&((decide (p2.n<((-2147483648):Int)))||(decide (p2.n≥(2147483648:Int))))))) hc2) (Eq.trans (bifF (a:=(((p0.m.memories.length:Int)==(0:Int))||((x3.1==(1:Int))&&((decide (p2.n<((-2147483648):Int)))||(decide (p2.n≥(2147483648:Int))))))) (b:=((x3.1==(1:Int))&&((decide (p2.n<((-2147483648):Int)))||(decide (p2.n≥(2147483648:Int)))))) hc3) (andF (b:=((decide (p2.n<((-2147483648):Int)))||(decide (p2.n≥(2147483648:Int))))) hc4))))) t_)) (by kernel_rfl) rfl
 refine AW2.cond (b:=((!x1.2.2)||(bif (x3.1==(4:Int)) then (((p0.m.memories.length:Int)==(0:Int))||((x3.1==(1:Int))&&((decide (p2.n<((-2147483648):Int)))||(decide (p2.n≥(2147483648:Int)))))) else (bif (x3.1==(5:Int)) then (((p0.m.memories.length:Int)==(0:Int))||((x3.1==(1:Int))&&((decide (p2.n<((-2147483648):Int)))||(decide (p2.n≥(2147483648:Int)))))) else ((x3.1==(1:Int))&&((decide (p2.n<((-2147483648):Int)))||(decide (p2.n≥(2147483648:Int))))))))) rfl (fun hc => ?_) (fun hc => ?_)
 ·replace H:=zae H hc
  refine AW2.seq ?_
  refine r_ [] [4,6] [] [.k 4,.k 6] ⟨[(4,.p 4 0),(6,.p 6 0)],[(4,.st false [.d (sV (eI .u8) p1.l),.d (.int .i64 p1.under),.d (.bool p1.away),.d (.bool p1.dead),.d (.int .i64 p1.most),.d (.bool false)]),(6,.st false [.d .nils,.d (.int .i64 0),.d (.bool false),.d (.bool false),.d (.int .i64 0),.d (.bool false)])]⟩ (a_ t_ t_) ?_
  refine AW2.seq ?_
  refine r_ [] [6] [] [.k 6] ⟨[(6,.p 6 0)],[(6,.st false [.d (sV (eI .u8) p1.l),.d (.int .i64 p1.under),.d (.bool p1.away),.d (.bool p1.dead),.d (.int .i64 p1.most),.d (.bool false)])]⟩ (a_ t_ t_) ?_
  refine AW2.ret ?_
  have H:=Option.some.inj H
  subst H
  exact retP_mk2 t_ (by kernel_rfl)
 ·replace H:=zaf H hc
  refine AW2.skip ?_
  obtain ⟨j7,H23,H⟩:=bind_some H
  refine AW2.mid ⟨[(4,.p 4 0),(6,.p 6 0),(7,.d (sV (eI .u8) x1.1)),(8,.d (.int .u8 x1.2.1))],[(4,.st false [.d (sV (eI .u8) p1.l),.d (.int .i64 p1.under),.d (.bool p1.away),.d (.bool p1.dead),.d (.int .i64 p1.most),.d (.bool j7)]),(6,.st false [.d .nils,.d (.int .i64 0),.d (.bool false),.d (.bool false),.d (.int .i64 0),.d (.bool false)])]⟩ ?_ ?_
  ·refine AW2.seq ?_
   obtain ⟨x8,hx9,H⟩:=bind_some H
   refine r_ [.r (.agg (eSt8 x8))] [6] [] [.k 6] ⟨[(6,.p 6 0)],[(6,.st false (eD (eSt8 x8)))]⟩ (a_ (a_ (zki K (St8.mk p1.l p1.under p1.away p1.dead p1.most j7) (Typ.mk x1.1 x1.2.1) x8 hx9) t_) t_) ?_
   refine AW2.ret ?_
   have H:=Option.some.inj H
   subst H
   exact retP_mk2 t_ (by kernel_rfl)
  ·have H:=H23
   refine AW2.seq ?_
   refine r_ [] [4,5,6,7,8,12,70] [] [.k 4,.k 5,.k 6] ⟨[(4,.p 4 0),(5,.p 5 0),(6,.p 6 0),(7,.d (sV (eI .u8) x1.1)),(8,.d (.int .u8 x1.2.1)),(12,.d (.int .i64 x5.1)),(70,.d (.bool x5.2.2))],[(4,.st false (eD (eSt8 p1))),(5,.st false (eD (eInstr p2))),(6,.st false [.d .nils,.d (.int .i64 0),.d (.bool false),.d (.bool false),.d (.int .i64 0),.d (.bool false)])]⟩ (a_ t_ t_) ?_
   refine AW2.cond (b:=x5.2.2) rfl (fun hc => ?_) (fun hc => ?_)
   ·replace H:=zae H hc
    refine AW2.seq ?_
    refine r_ [] [4,5,6,7,8,12,15] [] [.k 4,.k 5,.k 6] ⟨[(4,.p 4 0),(5,.p 5 0),(6,.p 6 0),(7,.d (sV (eI .u8) x1.1)),(8,.d (.int .u8 x1.2.1)),(12,.d (.int .i64 x5.1)),(15,.d (.int .i64 1))],[(4,.st false (eD (eSt8 p1))),(5,.st false (eD (eInstr p2))),(6,.st false [.d .nils,.d (.int .i64 0),.d (.bool false),.d (.bool false),.d (.int .i64 0),.d (.bool false)])]⟩ (a_ t_ t_) ?_
    obtain ⟨j10,H21,H⟩:=bind_some H
    refine AW2.mid ⟨[(4,.p 4 0),(6,.p 6 0),(7,.d (sV (eI .u8) x1.1)),(8,.d (.int .u8 x1.2.1)),(12,.d (.int .i64 x5.1)),(15,.d (.int .i64 j10))],[(4,.st false (eD (eSt8 p1))),(6,.st false [.d .nils,.d (.int .i64 0),.d (.bool false),.d (.bool false),.d (.int .i64 0),.d (.bool false)])]⟩ ?_ ?_
    ·obtain ⟨j11,H13,H⟩:=bind_some H
     refine AW2.reg [] rfl (YW.to ⟨[(4,.p 4 0),(6,.p 6 0),(7,.d (sV (eI .u8) x1.1)),(8,.d (.int .u8 x1.2.1))],[(4,.st false [.d (sV (eI .u8) p1.l),.d (.int .i64 p1.under),.d (.bool p1.away),.d (.bool p1.dead),.d (.int .i64 p1.most),.d (.bool j11)]),(6,.st false [.d .nils,.d (.int .i64 0),.d (.bool false),.d (.bool false),.d (.int .i64 0),.d (.bool false)])]⟩ ?qh14 ?h14)
     case h14 => 
      have H:=H13
      rcases bT p1.ok with hc1 | hc1
      ·replace H:=zae H hc1
       have H:=Option.some.inj H
       subst H
       exact YW.fin [(85,true)] [] [4,6,7,8] [] [.k 4,.k 6] _ (a_ (a_ hc1 (a_ hc1 (a_ hc1 (a_ hc1 t_)))) t_) (by kernel_rfl) rfl
      ·replace H:=zaf H hc1
       have H:=Option.some.inj H
       subst H
       exact YW.fin [(85,false)] [] [4,6,7,8] [] [.k 4,.k 6] _ (a_ (a_ hc1 (a_ hc1 (a_ hc1 (a_ hc1 t_)))) t_) (by kernel_rfl) rfl
     have H:=Option.some.inj H
     subst H
     exact zam [4,6,7,8] [] [.k 4,.k 6] t_ (by kernel_rfl)
    ·have H:=H21
     refine AW2.seq ?_
     refine r_ [] [4,5,6,7,8,12,15,16] [] [.k 4,.k 5,.k 6] ⟨[(4,.p 4 0),(5,.p 5 0),(6,.p 6 0),(7,.d (sV (eI .u8) x1.1)),(8,.d (.int .u8 x1.2.1)),(12,.d (.int .i64 x5.1)),(15,.d (.int .i64 1)),(16,.d (.int .u32 0))],[(4,.st false (eD (eSt8 p1))),(5,.st false (eD (eInstr p2))),(6,.st false [.d .nils,.d (.int .i64 0),.d (.bool false),.d (.bool false),.d (.int .i64 0),.d (.bool false)])]⟩ (a_ t_ t_) ?_
     refine AW2.block ?_
     refine AW2.lp (σ:=Int×Int) (fun v => ⟨[(4,.p 4 0),(5,.p 5 0),(6,.p 6 0),(7,.d (sV (eI .u8) x1.1)),(8,.d (.int .u8 x1.2.1)),(12,.d (.int .i64 x5.1)),(15,.d (.int .i64 v.1)),(16,.d (.int .u32 v.2))],[(4,.st false (eD (eSt8 p1))),(5,.st false (eD (eInstr p2))),(6,.st false [.d .nils,.d (.int .i64 0),.d (.bool false),.d (.bool false),.d (.int .i64 0),.d (.bool false)])]⟩) (fun k v => zaM k p2 v.1 v.2=some j10) ?_ K (1,0) H
     rintro k ⟨a17,a18⟩ H
     dsimp only at H
     cases k with
     | zero => cases H
     | succ k => 
     unfold zaM at H
     refine AW2.seq ?_
     refine AW2.seq ?_
     refine AW2.reg [] rfl (YW.to ⟨[(4,.p 4 0),(5,.p 5 0),(6,.p 6 0),(7,.d (sV (eI .u8) x1.1)),(8,.d (.int .u8 x1.2.1)),(12,.d (.int .i64 x5.1)),(15,.d (.int .i64 a17)),(16,.d (.int .u32 a18)),(78,.d (.bool ((decide (a18<p2.align))&&(decide (a17≤(8:Int))))))],[(4,.st false (eD (eSt8 p1))),(5,.st false (eD (eInstr p2))),(6,.st false [.d .nils,.d (.int .i64 0),.d (.bool false),.d (.bool false),.d (.int .i64 0),.d (.bool false)])]⟩ ?qh19 ?h19)
     case h19 => 
      rcases bT (decide (a18<p2.align)) with hc1 | hc1
      ·exact YW.fin [(75,true)] [] [4,5,6,7,8,12,15,16,78] [(78,.d (.bool ((decide (a18<p2.align))&&(decide (a17≤(8:Int))))))] [.k 4,.k 5,.k 6] _ (a_ (a_ hc1 (a_ hc1 (a_ hc1 t_))) (a_ (ovB (Eq.trans (andT (b:=(decide (a17≤(8:Int)))) hc1) (Eq.refl (decide (a17≤(8:Int)))))) t_)) (by kernel_rfl) rfl
      ·exact YW.fin [(75,false)] [] [4,5,6,7,8,12,15,16,78] [(78,.d (.bool ((decide (a18<p2.align))&&(decide (a17≤(8:Int))))))] [.k 4,.k 5,.k 6] _ (a_ (a_ hc1 (a_ hc1 (a_ hc1 t_))) (a_ (ovB (andF (b:=(decide (a17≤(8:Int)))) hc1)) t_)) (by kernel_rfl) rfl
     refine AW2.cond (b:=((decide (a18<p2.align))&&(decide (a17≤(8:Int))))) rfl (fun hc => ?_) (fun hc => ?_)
     ·replace H:=zae H hc
      refine AW2.skip ?_
      refine AW2.seq ?_
      refine AW2.block ?_
      refine r_ [] [4,5,6,7,8,12,15,16] [] [.k 4,.k 5,.k 6] ⟨[(4,.p 4 0),(5,.p 5 0),(6,.p 6 0),(7,.d (sV (eI .u8) x1.1)),(8,.d (.int .u8 x1.2.1)),(12,.d (.int .i64 x5.1)),(15,.d (.int .i64 (wI (2 * a17)))),(16,.d (.int .u32 a18))],[(4,.st false (eD (eSt8 p1))),(5,.st false (eD (eInstr p2))),(6,.st false [.d .nils,.d (.int .i64 0),.d (.bool false),.d (.bool false),.d (.int .i64 0),.d (.bool false)])]⟩ (a_ t_ t_) ?_
      refine r_ [] [4,5,6,7,8,12,15,16] [] [.k 4,.k 5,.k 6] ⟨[(4,.p 4 0),(5,.p 5 0),(6,.p 6 0),(7,.d (sV (eI .u8) x1.1)),(8,.d (.int .u8 x1.2.1)),(12,.d (.int .i64 x5.1)),(15,.d (.int .i64 (wI (2 * a17)))),(16,.d (.int .u32 (IntKind.wrap .u32 (a18+1))))],[(4,.st false (eD (eSt8 p1))),(5,.st false (eD (eInstr p2))),(6,.st false [.d .nils,.d (.int .i64 0),.d (.bool false),.d (.bool false),.d (.int .i64 0),.d (.bool false)])]⟩ (a_ t_ t_) ?_
      exact ⟨k,((wI (2 * a17)),(IntKind.wrap .u32 (a18+1))),Nat.lt_succ_self k,H,zam [4,5,6,7,8,12,15,16] [] [.k 4,.k 5,.k 6] t_ (by kernel_rfl)⟩
     ·replace H:=zaf H hc
      refine AW2.exit ?_
      have H:=Option.some.inj H
      subst H
      exact zam [4,6,7,8,12,15] [] [.k 4,.k 6] t_ (by kernel_rfl)
   ·replace H:=zaf H hc
    refine AW2.skip ?_
    have H:=Option.some.inj H
    subst H
    exact zam [4,6,7,8] [] [.k 4,.k 6] t_ (by kernel_rfl)
mutual
def zaF:Nat→Env8→St8→(List Instr)→Int→Int→Option (St8)
 | 0,_,_,_,_,_ => none
 | k+1,p0,p1,p2,p3,p4 => gd (p0.labels.length * 1≤140737488355328) (gd ((p0.labels.length+1) * 1≤140737488355328) ((if p1.away=true then ((zaB k (Env8.mk p0.m p0.result p0.locals (p0.labels++([p4]:List Int))) (St8.mk ([]:List Int) (wI (p1.under+(p1.l.length:Int))) false true p1.most p1.ok) p2).bind fun x3 => some x3) else ((zaB k (Env8.mk p0.m p0.result p0.locals (p0.labels++([p4]:List Int))) (St8.mk ([]:List Int) (wI (p1.under+(p1.l.length:Int))) false p1.dead p1.most p1.ok) p2).bind fun x5 => some x5)).bind (fun j7 => ((zag j7 p3).bind fun x8 => (if x8.1.ok=true then some ((x8.1.l.length:Int)==(0:Int)) else some false).bind (fun j10 => some (St8.mk p1.l p1.under p1.away p1.dead x8.1.most j10))))))
def zbo:Nat→Env8→St8→Instr→Option (St8)
 | 0,_,_,_ => none
 | k+1,p0,p1,p2 => (if ((p2.result!=(0:Int))&&((p2.result!=(127:Int))&&(p2.result!=(126:Int))))=true then some (St8.mk p1.l p1.under p1.away p1.dead p1.most false) else (if (p2.op==(2:Int))=true then ((zaF k p0 p1 p2.body p2.result p2.result).bind fun x4 => some x4) else (if (p2.op==(3:Int))=true then ((zaF k p0 p1 p2.body p2.result 0).bind fun x6 => some x6) else ((zag p1 127).bind fun x8 => ((zaF k p0 x8.1 p2.body p2.result p2.result).bind fun x10 => ((zaF k p0 x10 p2.els p2.result p2.result).bind fun x12 => some x12))))).bind (fun j1 => ((zaH j1 p2.result).bind fun x2 => some x2)))
def zaB:Nat→Env8→St8→(List Instr)→Option (St8)
 | 0,_,_,_ => none
 | k+1,p0,p1,p2 => (lpN k (fun (rec6:St8×Int→Option (St8)) v => match v with | (a4,a5) => (if ((decide (a5<(p2.length:Int)))&&a4.ok)=true then (gd (0≤a5∧a5<(p2.length:Int)) (if (((p2.getD a5.toNat default).op)==(0:Int))=true then ((zby a4).bind fun x9 => some x9) else (if (((p2.getD a5.toNat default).op)==(1:Int))=true then some a4 else (if ((decide (((p2.getD a5.toNat default).op)≥(2:Int)))&&(decide (((p2.getD a5.toNat default).op)≤(4:Int))))=true then ((zbo k p0 a4 (p2.getD a5.toNat default)).bind fun x11 => some x11) else (if ((decide (((p2.getD a5.toNat default).op)≥(12:Int)))&&(decide (((p2.getD a5.toNat default).op)≤(14:Int))))=true then ((zbk k p0 a4 (p2.getD a5.toNat default)).bind fun x13 => some x13) else (if (((p2.getD a5.toNat default).op)==(15:Int))=true then ((zag a4 p0.result).bind fun x15 => ((zby x15.1).bind fun x17 => some x17)) else (if ((((p2.getD a5.toNat default).op)==(16:Int))||(((p2.getD a5.toNat default).op)==(17:Int)))=true then ((zbX k p0 a4 (p2.getD a5.toNat default)).bind fun x19 => some x19) else (if (((p2.getD a5.toNat default).op)==(26:Int))=true then ((zag a4 255).bind fun x21 => some x21.1) else (if (((p2.getD a5.toNat default).op)==(27:Int))=true then ((zag a4 127).bind fun x23 => ((zag x23.1 255).bind fun x25 => ((zag x25.1 x25.2).bind fun x27 => ((zaH x27.1 x27.2).bind fun x29 => some x29)))) else (if ((decide (((p2.getD a5.toNat default).op)≥(32:Int)))&&(decide (((p2.getD a5.toNat default).op)≤(36:Int))))=true then ((zaA p0 a4 (p2.getD a5.toNat default)).bind fun x31 => some x31) else ((zcs k p0 a4 (p2.getD a5.toNat default)).bind fun x33 => some x33))))))))))).bind (fun j7 => rec6 (j7,(wI (a5+1)))) else some a4)) (p1,0)).bind (fun j1 => some j1)
end
theorem zxl (k:Nat) (IH_ref08_inner:∀ (p0:Env8) (p1:St8) (p2:List Instr) (p3:Int) (p4:Int) (r:St8),zaF k p0 p1 p2 p3 p4=some r→CF E 57 [.agg (eEnv8 p0),.agg (eSt8 p1),sVI p2,.int .u8 p3,.int .u8 p4] (.agg (eSt8 r))) (IH_ref08_block:∀ (p0:Env8) (p1:St8) (p2:Instr) (r:St8),zbo k p0 p1 p2=some r→CF E 43 [.agg (eEnv8 p0),.agg (eSt8 p1),.agg (eInstr p2)] (.agg (eSt8 r))) (IH_ref08_list:∀ (p0:Env8) (p1:St8) (p2:List Instr) (r:St8),zaB k p0 p1 p2=some r→CF E 26 [.agg (eEnv8 p0),.agg (eSt8 p1),sVI p2] (.agg (eSt8 r))):∀ (p0:Env8) (p1:St8) (p2:List Instr) (p3:Int) (p4:Int) (r:St8),zaF (k+1) p0 p1 p2 p3 p4=some r→CF E 57 [.agg (eEnv8 p0),.agg (eSt8 p1),sVI p2,.int .u8 p3,.int .u8 p4] (.agg (eSt8 r)):=by
 intro p0 p1 p2 p3 p4 r H
 refine zbi (A:=zmW) zwd rfl fun fr => ?_
 unfold zaF at H
 refine AW2.seq ?_
 refine r_ [.k 5,.k 6,.k 10] [2,3,4,5,6,10] [] [.k 5,.k 6,.k 10] ⟨[(2,.d (sVI p2)),(3,.d (.int .u8 p3)),(4,.d (.int .u8 p4)),(5,.p 5 0),(6,.p 6 0),(10,.p 10 0)],[(5,.st false (eD (eEnv8 p0))),(6,.st false (eD (eSt8 p1))),(10,.st false [.d .nils,.d (.int .i64 0),.d (.bool false),.d (.bool false),.d (.int .i64 0),.d (.bool false)])]⟩ (a_ t_ t_) ?_
 refine AW2.seq ?_
 refine r_ [] [2,3,4,5,6,10,11] [] [.k 5,.k 6,.k 10] ⟨[(2,.d (sVI p2)),(3,.d (.int .u8 p3)),(4,.d (.int .u8 p4)),(5,.p 5 0),(6,.p 6 0),(10,.p 10 0),(11,.d .nils)],[(5,.st false (eD (eEnv8 p0))),(6,.st false (eD (eSt8 p1))),(10,.st false [.d .nils,.d (.int .i64 0),.d (.bool false),.d (.bool false),.d (.int .i64 0),.d (.bool false)])]⟩ (a_ t_ t_) ?_
 refine AW2.seq ?_
 obtain ⟨h1,H⟩:=zad H
 obtain ⟨h2,H⟩:=zad H
 refine r_ [.ks false 16 p0.labels.length (fl (eI .u8) p0.labels),.sb ([p4]:List Int).length (fl (eI .u8) ([p4]:List Int)),.s true (p0.labels++([p4]:List Int)).length (fl (eI .u8) (p0.labels++([p4]:List Int)))] [2,3,5,6,10] [] [.k 5,.k 6,.k 10,.k 16] ⟨[(2,.d (sVI p2)),(3,.d (.int .u8 p3)),(5,.p 5 0),(6,.p 6 0),(10,.p 10 0)],[(5,.st false [.d (sV eTyp p0.m.types),.d (sV eFnc p0.m.funcs),.d (sV eLim p0.m.tables),.d (sV eLim p0.m.memories),.d (sV eGlo p0.m.globals),.d (sV eXpo p0.m.exports),.d (sV eEle p0.m.elems),.d (sV eDat p0.m.datas),.d (.int .u8 p0.result),.d (sV (eI .u8) p0.locals),.ls 16 0 (p0.labels++([p4]:List Int)).length]),(6,.st false (eD (eSt8 p1))),(10,.st false [.d .nils,.d (.int .i64 0),.d (.bool false),.d (.bool false),.d (.int .i64 0),.d (.bool false)]),(16,.sl false 1 (p0.labels++([p4]:List Int)).length (fl (eI .u8) (p0.labels++([p4]:List Int))))]⟩ (a_ (a_ (lcl (eI .u8) (zAn .u8) p0.labels) (a_ h1 (a_ (a_ (Eq.refl p0.labels.length) (fun i (_:i<p0.labels.length) => Eq.refl (fl (eI .u8) p0.labels i))) (a_ (litF (eI .u8) ([p4]:List Int)) (a_ (Nat.le_refl p0.labels.length) (a_ h2 (a_ (app1 (eI .u8) p0.labels p4 (fl (eI .u8) ([p4]:List Int)) rfl) t_))))))) t_) ?_
 refine AW2.seq ?_
 obtain ⟨j7,H15,H⟩:=bind_some H
 refine AW2.reg [] rfl (YW.to ⟨[(3,.d (.int .u8 p3)),(6,.p 6 0),(10,.p 10 0),(12,.p 12 0)],[(6,.st false (eD (eSt8 p1))),(10,.st false [.d .nils,.d (.int .i64 0),.d (.bool false),.d (.bool false),.d (.int .i64 0),.d (.bool false)]),(12,.st false (eD (eSt8 j7)))]⟩ ?qh16 ?h16)
 case h16 => 
  have H:=H15
  rcases bT p1.away with hc1 | hc1
  ·replace H:=zae H hc1
   obtain ⟨x3,hx4,H⟩:=bind_some H
   have H:=Option.some.inj H
   subst H
   exact YW.fin [(30,true)] [.r (.agg (eSt8 x3)),.k 12] [3,6,10,12] [] [.k 6,.k 10,.k 12] _ (a_ (a_ hc1 (a_ hc1 (a_ hc1 (a_ (Nat.le_refl (p0.labels++([p4]:List Int)).length) (a_ (dfl (eI .u8) (zcp .u8) (p0.labels++([p4]:List Int))) (a_ (IH_ref08_list (Env8.mk p0.m p0.result p0.locals (p0.labels++([p4]:List Int))) (St8.mk ([]:List Int) (wI (p1.under+(p1.l.length:Int))) false true p1.most p1.ok) p2 x3 hx4) t_)))))) t_) (by kernel_rfl) rfl
  ·replace H:=zaf H hc1
   obtain ⟨x5,hx6,H⟩:=bind_some H
   have H:=Option.some.inj H
   subst H
   exact YW.fin [(30,false)] [.r (.agg (eSt8 x5)),.k 12] [3,6,10,12] [] [.k 6,.k 10,.k 12] _ (a_ (a_ hc1 (a_ hc1 (a_ hc1 (a_ (Nat.le_refl (p0.labels++([p4]:List Int)).length) (a_ (dfl (eI .u8) (zcp .u8) (p0.labels++([p4]:List Int))) (a_ (IH_ref08_list (Env8.mk p0.m p0.result p0.locals (p0.labels++([p4]:List Int))) (St8.mk ([]:List Int) (wI (p1.under+(p1.l.length:Int))) false p1.dead p1.most p1.ok) p2 x5 hx6) t_)))))) t_) (by kernel_rfl) rfl
 refine AW2.seq ?_
 obtain ⟨x8,hx9,H⟩:=bind_some H
 refine r_ [.r (.tup [.agg (eSt8 x8.1),.int .u8 x8.2])] [6,10,12] [] [.k 6,.k 10,.k 12] ⟨[(6,.p 6 0),(10,.p 10 0),(12,.p 12 0)],[(6,.st false (eD (eSt8 p1))),(10,.st false [.d .nils,.d (.int .i64 0),.d (.bool false),.d (.bool false),.d (.int .i64 0),.d (.bool false)]),(12,.st false (eD (eSt8 x8.1)))]⟩ (a_ (a_ (zaS j7 p3 x8 hx9) t_) t_) ?_
 refine AW2.seq ?_
 obtain ⟨j10,H12,H⟩:=bind_some H
 refine AW2.reg [(6,0,4)] (by kernel_rfl) (YW.to ⟨[(6,.p 6 0),(10,.p 10 0)],[(6,.st false [.d (sV (eI .u8) p1.l),.d (.int .i64 p1.under),.d (.bool p1.away),.d (.bool p1.dead),.d (.int .i64 x8.1.most),.d (.bool j10)]),(10,.st false [.d .nils,.d (.int .i64 0),.d (.bool false),.d (.bool false),.d (.int .i64 0),.d (.bool false)])]⟩ ?qh13 ?h13)
 case h13 => 
  have H:=H12
  rcases bT x8.1.ok with hc1 | hc1
  ·replace H:=zae H hc1
   have H:=Option.some.inj H
   subst H
   exact YW.fin [(51,true)] [] [6,10] [] [.k 6,.k 10] _ (a_ (a_ hc1 (a_ hc1 (a_ hc1 (a_ hc1 (a_ hc1 t_))))) t_) (by kernel_rfl) rfl
  ·replace H:=zaf H hc1
   have H:=Option.some.inj H
   subst H
   exact YW.fin [(51,false)] [] [6,10] [] [.k 6,.k 10] _ (a_ (a_ hc1 (a_ hc1 (a_ hc1 (a_ hc1 (a_ hc1 t_))))) t_) (by kernel_rfl) rfl
 refine AW2.seq ?_
 refine r_ [] [10] [] [.k 10] ⟨[(10,.p 10 0)],[(10,.st false [.d (sV (eI .u8) p1.l),.d (.int .i64 p1.under),.d (.bool p1.away),.d (.bool p1.dead),.d (.int .i64 x8.1.most),.d (.bool j10)])]⟩ (a_ t_ t_) ?_
 refine AW2.ret ?_
 have H:=Option.some.inj H
 subst H
 exact retP_mk2 t_ (by kernel_rfl)
theorem zxm (k:Nat) (IH_ref08_inner:∀ (p0:Env8) (p1:St8) (p2:List Instr) (p3:Int) (p4:Int) (r:St8),zaF k p0 p1 p2 p3 p4=some r→CF E 57 [.agg (eEnv8 p0),.agg (eSt8 p1),sVI p2,.int .u8 p3,.int .u8 p4] (.agg (eSt8 r))) (IH_ref08_block:∀ (p0:Env8) (p1:St8) (p2:Instr) (r:St8),zbo k p0 p1 p2=some r→CF E 43 [.agg (eEnv8 p0),.agg (eSt8 p1),.agg (eInstr p2)] (.agg (eSt8 r))) (IH_ref08_list:∀ (p0:Env8) (p1:St8) (p2:List Instr) (r:St8),zaB k p0 p1 p2=some r→CF E 26 [.agg (eEnv8 p0),.agg (eSt8 p1),sVI p2] (.agg (eSt8 r))):∀ (p0:Env8) (p1:St8) (p2:Instr) (r:St8),zbo (k+1) p0 p1 p2=some r→CF E 43 [.agg (eEnv8 p0),.agg (eSt8 p1),.agg (eInstr p2)] (.agg (eSt8 r)):=by
 intro p0 p1 p2 r H
 refine zbi (A:=znj) zwf rfl fun fr => ?_
 unfold zbo at H
 refine AW2.seq ?_
 refine r_ [.k 3,.k 4,.k 5,.k 6] [3,4,5,6] [] [.k 3,.k 4,.k 5,.k 6] ⟨[(3,.p 3 0),(4,.p 4 0),(5,.p 5 0),(6,.p 6 0)],[(3,.st false (eD (eEnv8 p0))),(4,.st false (eD (eSt8 p1))),(5,.st false (eD (eInstr p2))),(6,.st false [.d .nils,.d (.int .i64 0),.d (.bool false),.d (.bool false),.d (.int .i64 0),.d (.bool false)])]⟩ (a_ t_ t_) ?_
 refine AW2.seq ?_
 refine AW2.seq ?_
 refine AW2.reg [] rfl (YW.to ⟨[(3,.p 3 0),(4,.p 4 0),(5,.p 5 0),(6,.p 6 0),(19,.d (.bool ((p2.result!=(0:Int))&&((p2.result!=(127:Int))&&(p2.result!=(126:Int))))))],[(3,.st false (eD (eEnv8 p0))),(4,.st false (eD (eSt8 p1))),(5,.st false (eD (eInstr p2))),(6,.st false [.d .nils,.d (.int .i64 0),.d (.bool false),.d (.bool false),.d (.int .i64 0),.d (.bool false)])]⟩ ?qh16 ?h16)
 case h16 => 
  rcases bT (p2.result!=(0:Int)) with hc1 | hc1
  ·rcases bT (p2.result!=(127:Int)) with hc2 | hc2
   ·exact YW.fin [(10,true),(15,true)] [] [3,4,5,6,19] [(19,.d (.bool ((p2.result!=(0:Int))&&((p2.result!=(127:Int))&&(p2.result!=(126:Int))))))] [.k 3,.k 4,.k 5,.k 6] _ (a_ (a_ hc1 (a_ hc1 (a_ hc1 (a_ hc1 (a_ hc2 (a_ hc2 (a_ hc2 (a_ hc2 t_)))))))) (a_ (ovB (Eq.trans (andT (b:=((p2.result!=(127:Int))&&(p2.result!=(126:Int)))) hc1) (Eq.trans (andT (b:=(p2.result!=(126:Int))) hc2) (Eq.refl (p2.result!=(126:Int)))))) t_)) (by kernel_rfl) rfl
   ·exact YW.fin [(10,true),(15,false)] [] [3,4,5,6,19] [(19,.d (.bool ((p2.result!=(0:Int))&&((p2.result!=(127:Int))&&(p2.result!=(126:Int))))))] [.k 3,.k 4,.k 5,.k 6] _ (a_ (a_ hc1 (a_ hc1 (a_ hc1 (a_ hc1 (a_ hc2 (a_ hc2 (a_ hc2 (a_ hc2 t_)))))))) (a_ (ovB (Eq.trans (andT (b:=((p2.result!=(127:Int))&&(p2.result!=(126:Int)))) hc1) (andF (b:=(p2.result!=(126:Int))) hc2))) t_)) (by kernel_rfl) rfl
  ·exact YW.fin [(10,false),(15,false)] [] [3,4,5,6,19] [(19,.d (.bool ((p2.result!=(0:Int))&&((p2.result!=(127:Int))&&(p2.result!=(126:Int))))))] [.k 3,.k 4,.k 5,.k 6] _ (a_ (a_ hc1 (a_ hc1 (a_ hc1 (a_ hc1 (a_ (Eq.refl false) (a_ (Eq.refl false) (a_ (Eq.refl false) (a_ (Eq.refl false) t_)))))))) (a_ (ovB (andF (b:=((p2.result!=(127:Int))&&(p2.result!=(126:Int)))) hc1)) t_)) (by kernel_rfl) rfl
 refine AW2.cond (b:=((p2.result!=(0:Int))&&((p2.result!=(127:Int))&&(p2.result!=(126:Int))))) rfl (fun hc => ?_) (fun hc => ?_)
 ·replace H:=zae H hc
  refine AW2.seq ?_
  refine r_ [] [4,6] [] [.k 4,.k 6] ⟨[(4,.p 4 0),(6,.p 6 0)],[(4,.st false [.d (sV (eI .u8) p1.l),.d (.int .i64 p1.under),.d (.bool p1.away),.d (.bool p1.dead),.d (.int .i64 p1.most),.d (.bool false)]),(6,.st false [.d .nils,.d (.int .i64 0),.d (.bool false),.d (.bool false),.d (.int .i64 0),.d (.bool false)])]⟩ (a_ t_ t_) ?_
  refine AW2.seq ?_
  refine r_ [] [6] [] [.k 6] ⟨[(6,.p 6 0)],[(6,.st false [.d (sV (eI .u8) p1.l),.d (.int .i64 p1.under),.d (.bool p1.away),.d (.bool p1.dead),.d (.int .i64 p1.most),.d (.bool false)])]⟩ (a_ t_ t_) ?_
  refine AW2.ret ?_
  have H:=Option.some.inj H
  subst H
  exact retP_mk2 t_ (by kernel_rfl)
 ·replace H:=zaf H hc
  refine AW2.skip ?_
  obtain ⟨j1,H15,H⟩:=bind_some H
  refine AW2.mid ⟨[(4,.p 4 0),(5,.p 5 0),(6,.p 6 0)],[(4,.st false (eD (eSt8 j1))),(5,.st false (eD (eInstr p2))),(6,.st false [.d .nils,.d (.int .i64 0),.d (.bool false),.d (.bool false),.d (.int .i64 0),.d (.bool false)])]⟩ ?_ ?_
  ·refine AW2.seq ?_
   obtain ⟨x2,hx3,H⟩:=bind_some H
   refine r_ [.r (.agg (eSt8 x2))] [6] [] [.k 6] ⟨[(6,.p 6 0)],[(6,.st false (eD (eSt8 x2)))]⟩ (a_ (a_ (zeT j1 p2.result x2 hx3) t_) t_) ?_
   refine AW2.ret ?_
   have H:=Option.some.inj H
   subst H
   exact retP_mk2 t_ (by kernel_rfl)
  ·have H:=H15
   refine AW2.seq ?_
   refine r_ [] [3,4,5,6,23] [] [.k 3,.k 4,.k 5,.k 6] ⟨[(3,.p 3 0),(4,.p 4 0),(5,.p 5 0),(6,.p 6 0),(23,.d (.int .u8 p2.op))],[(3,.st false (eD (eEnv8 p0))),(4,.st false (eD (eSt8 p1))),(5,.st false (eD (eInstr p2))),(6,.st false [.d .nils,.d (.int .i64 0),.d (.bool false),.d (.bool false),.d (.int .i64 0),.d (.bool false)])]⟩ (a_ t_ t_) ?_
   refine AW2.block ?_
   refine AW2.seq ?_
   refine r_ [] [3,4,5,6,23,46] [] [.k 3,.k 4,.k 5,.k 6] ⟨[(3,.p 3 0),(4,.p 4 0),(5,.p 5 0),(6,.p 6 0),(23,.d (.int .u8 p2.op)),(46,.d (.bool (p2.op==(2:Int))))],[(3,.st false (eD (eEnv8 p0))),(4,.st false (eD (eSt8 p1))),(5,.st false (eD (eInstr p2))),(6,.st false [.d .nils,.d (.int .i64 0),.d (.bool false),.d (.bool false),.d (.int .i64 0),.d (.bool false)])]⟩ (a_ t_ t_) ?_
   refine AW2.cond (b:=(p2.op==(2:Int))) rfl (fun hc => ?_) (fun hc => ?_)
   ·replace H:=zae H hc
    obtain ⟨x4,hx5,H⟩:=bind_some H
    refine r_ [.r (.agg (eSt8 x4))] [4,5,6] [] [.k 4,.k 5,.k 6] ⟨[(4,.p 4 0),(5,.p 5 0),(6,.p 6 0)],[(4,.st false (eD (eSt8 x4))),(5,.st false (eD (eInstr p2))),(6,.st false [.d .nils,.d (.int .i64 0),.d (.bool false),.d (.bool false),.d (.int .i64 0),.d (.bool false)])]⟩ (a_ (a_ (IH_ref08_inner p0 p1 p2.body p2.result p2.result x4 hx5) t_) t_) ?_
    have H:=Option.some.inj H
    subst H
    exact zam [4,5,6] [] [.k 4,.k 5,.k 6] t_ (by kernel_rfl)
   ·replace H:=zaf H hc
    refine AW2.seq ?_
    refine r_ [] [3,4,5,6,57] [] [.k 3,.k 4,.k 5,.k 6] ⟨[(3,.p 3 0),(4,.p 4 0),(5,.p 5 0),(6,.p 6 0),(57,.d (.bool (p2.op==(3:Int))))],[(3,.st false (eD (eEnv8 p0))),(4,.st false (eD (eSt8 p1))),(5,.st false (eD (eInstr p2))),(6,.st false [.d .nils,.d (.int .i64 0),.d (.bool false),.d (.bool false),.d (.int .i64 0),.d (.bool false)])]⟩ (a_ t_ t_) ?_
    refine AW2.cond (b:=(p2.op==(3:Int))) rfl (fun hc => ?_) (fun hc => ?_)
    ·replace H:=zae H hc
     obtain ⟨x6,hx7,H⟩:=bind_some H
     refine r_ [.r (.agg (eSt8 x6))] [4,5,6] [] [.k 4,.k 5,.k 6] ⟨[(4,.p 4 0),(5,.p 5 0),(6,.p 6 0)],[(4,.st false (eD (eSt8 x6))),(5,.st false (eD (eInstr p2))),(6,.st false [.d .nils,.d (.int .i64 0),.d (.bool false),.d (.bool false),.d (.int .i64 0),.d (.bool false)])]⟩ (a_ (a_ (IH_ref08_inner p0 p1 p2.body p2.result 0 x6 hx7) t_) t_) ?_
     have H:=Option.some.inj H
     subst H
     exact zam [4,5,6] [] [.k 4,.k 5,.k 6] t_ (by kernel_rfl)
    ·replace H:=zaf H hc
     refine AW2.seq ?_
     obtain ⟨x8,hx9,H⟩:=bind_some H
     refine r_ [.r (.tup [.agg (eSt8 x8.1),.int .u8 x8.2])] [3,4,5,6] [] [.k 3,.k 4,.k 5,.k 6] ⟨[(3,.p 3 0),(4,.p 4 0),(5,.p 5 0),(6,.p 6 0)],[(3,.st false (eD (eEnv8 p0))),(4,.st false (eD (eSt8 x8.1))),(5,.st false (eD (eInstr p2))),(6,.st false [.d .nils,.d (.int .i64 0),.d (.bool false),.d (.bool false),.d (.int .i64 0),.d (.bool false)])]⟩ (a_ (a_ (zaS p1 127 x8 hx9) t_) t_) ?_
     obtain ⟨x10,hx11,H⟩:=bind_some H
     obtain ⟨x12,hx13,H⟩:=bind_some H
     refine r_ [.r (.agg (eSt8 x10)),.r (.agg (eSt8 x12))] [4,5,6] [] [.k 4,.k 5,.k 6] ⟨[(4,.p 4 0),(5,.p 5 0),(6,.p 6 0)],[(4,.st false (eD (eSt8 x12))),(5,.st false (eD (eInstr p2))),(6,.st false [.d .nils,.d (.int .i64 0),.d (.bool false),.d (.bool false),.d (.int .i64 0),.d (.bool false)])]⟩ (a_ (a_ (IH_ref08_inner p0 x8.1 p2.body p2.result p2.result x10 hx11) (a_ (IH_ref08_inner p0 x10 p2.els p2.result p2.result x12 hx13) t_)) t_) ?_
     have H:=Option.some.inj H
     subst H
     exact zam [4,5,6] [] [.k 4,.k 5,.k 6] t_ (by kernel_rfl)
theorem zyw (k:Nat) (IH_ref08_inner:∀ (p0:Env8) (p1:St8) (p2:List Instr) (p3:Int) (p4:Int) (r:St8),zaF k p0 p1 p2 p3 p4=some r→CF E 57 [.agg (eEnv8 p0),.agg (eSt8 p1),sVI p2,.int .u8 p3,.int .u8 p4] (.agg (eSt8 r))) (IH_ref08_block:∀ (p0:Env8) (p1:St8) (p2:Instr) (r:St8),zbo k p0 p1 p2=some r→CF E 43 [.agg (eEnv8 p0),.agg (eSt8 p1),.agg (eInstr p2)] (.agg (eSt8 r))) (IH_ref08_list:∀ (p0:Env8) (p1:St8) (p2:List Instr) (r:St8),zaB k p0 p1 p2=some r→CF E 26 [.agg (eEnv8 p0),.agg (eSt8 p1),sVI p2] (.agg (eSt8 r))):∀ (p0:Env8) (p1:St8) (p2:List Instr) (r:St8),zaB (k+1) p0 p1 p2=some r→CF E 26 [.agg (eEnv8 p0),.agg (eSt8 p1),sVI p2] (.agg (eSt8 r)):=by
 intro p0 p1 p2 r H
 refine zbi (A:=zpC) zxx rfl fun fr => ?_
 unfold zaB at H
 refine AW2.seq ?_
 refine r_ [.k 3,.k 4,.k 6] [2,3,4,6] [] [.k 3,.k 4,.k 6] ⟨[(2,.d (sVI p2)),(3,.p 3 0),(4,.p 4 0),(6,.p 6 0)],[(3,.st false (eD (eEnv8 p0))),(4,.st false (eD (eSt8 p1))),(6,.st false [.d .nils,.d (.int .i64 0),.d (.bool false),.d (.bool false),.d (.int .i64 0),.d (.bool false)])]⟩ (a_ t_ t_) ?_
 obtain ⟨j1,H43,H⟩:=bind_some H
 refine AW2.mid ⟨[(4,.p 4 0),(6,.p 6 0)],[(4,.st false (eD (eSt8 j1))),(6,.st false [.d .nils,.d (.int .i64 0),.d (.bool false),.d (.bool false),.d (.int .i64 0),.d (.bool false)])]⟩ ?_ ?_
 ·refine AW2.seq ?_
  refine r_ [] [6] [] [.k 6] ⟨[(6,.p 6 0)],[(6,.st false (eD (eSt8 j1)))]⟩ (a_ t_ t_) ?_
  refine AW2.ret ?_
  have H:=Option.some.inj H
  subst H
  exact retP_mk2 t_ (by kernel_rfl)
 ·have H:=H43
  refine AW2.seq ?_
  refine r_ [] [2,3,4,6,7] [] [.k 3,.k 4,.k 6] ⟨[(2,.d (sVI p2)),(3,.p 3 0),(4,.p 4 0),(6,.p 6 0),(7,.d (.int .i64 0))],[(3,.st false (eD (eEnv8 p0))),(4,.st false (eD (eSt8 p1))),(6,.st false [.d .nils,.d (.int .i64 0),.d (.bool false),.d (.bool false),.d (.int .i64 0),.d (.bool false)])]⟩ (a_ t_ t_) ?_
  refine AW2.block ?_
  refine AW2.lpR (σ:=St8×Int) (fun v => ⟨[(2,.d (sVI p2)),(3,.p 3 0),(4,.p 4 0),(6,.p 6 0),(7,.d (.int .i64 v.2))],[(3,.st false (eD (eEnv8 p0))),(4,.st false (eD (eSt8 v.1))),(6,.st false [.d .nils,.d (.int .i64 0),.d (.bool false),.d (.bool false),.d (.int .i64 0),.d (.bool false)])]⟩) ?_ (v:=(p1,0)) H
  rintro rec6 ⟨a4,a5⟩ H
  dsimp only at H
  refine AW2.seq ?_
  refine AW2.seq ?_
  refine AW2.reg [] rfl (YW.to ⟨[(2,.d (sVI p2)),(3,.p 3 0),(4,.p 4 0),(6,.p 6 0),(7,.d (.int .i64 a5)),(22,.d (.bool ((decide (a5<(p2.length:Int)))&&a4.ok)))],[(3,.st false (eD (eEnv8 p0))),(4,.st false (eD (eSt8 a4))),(6,.st false [.d .nils,.d (.int .i64 0),.d (.bool false),.d (.bool false),.d (.int .i64 0),.d (.bool false)])]⟩ ?qh41 ?h41)
  case h41 => 
   rcases bT (decide (a5<(p2.length:Int))) with hc1 | hc1
   ·exact YW.fin [(19,true)] [] [2,3,4,6,7,22] [(22,.d (.bool ((decide (a5<(p2.length:Int)))&&a4.ok)))] [.k 3,.k 4,.k 6] _ (a_ (a_ hc1 (a_ hc1 (a_ hc1 t_))) (a_ (ovB (Eq.trans (andT (b:=a4.ok) hc1) (Eq.refl a4.ok))) t_)) (by kernel_rfl) rfl
   ·exact YW.fin [(19,false)] [] [2,3,4,6,7,22] [(22,.d (.bool ((decide (a5<(p2.length:Int)))&&a4.ok)))] [.k 3,.k 4,.k 6] _ (a_ (a_ hc1 (a_ hc1 (a_ hc1 t_))) (a_ (ovB (andF (b:=a4.ok) hc1)) t_)) (by kernel_rfl) rfl
  refine AW2.cond (b:=((decide (a5<(p2.length:Int)))&&a4.ok)) rfl (fun hc => ?_) (fun hc => ?_)
  ·replace H:=zae H hc
   refine AW2.skip ?_
   obtain ⟨j7,H40,H⟩:=bind_some H
   refine AW2.mid ⟨[(2,.d (sVI p2)),(3,.p 3 0),(4,.p 4 0),(6,.p 6 0),(7,.d (.int .i64 a5))],[(3,.st false (eD (eEnv8 p0))),(4,.st false (eD (eSt8 j7))),(6,.st false [.d .nils,.d (.int .i64 0),.d (.bool false),.d (.bool false),.d (.int .i64 0),.d (.bool false)])]⟩ ?_ ?_
   ·refine r_ [] [2,3,4,6,7] [] [.k 3,.k 4,.k 6] ⟨[(2,.d (sVI p2)),(3,.p 3 0),(4,.p 4 0),(6,.p 6 0),(7,.d (.int .i64 (wI (a5+1))))],[(3,.st false (eD (eEnv8 p0))),(4,.st false (eD (eSt8 j7))),(6,.st false [.d .nils,.d (.int .i64 0),.d (.bool false),.d (.bool false),.d (.int .i64 0),.d (.bool false)])]⟩ (a_ t_ t_) ?_
    exact ⟨(j7,(wI (a5+1))),H,zam [2,3,4,6,7] [] [.k 3,.k 4,.k 6] t_ (by kernel_rfl)⟩
   ·have H:=H40
    refine AW2.block ?_
    refine AW2.seq ?_
    obtain ⟨h8,H⟩:=zad H
    refine r_ [.e (eInstr (p2.getD a5.toNat default)),.k 8] [2,3,4,6,7,8] [] [.k 3,.k 4,.k 6,.k 8] ⟨[(2,.d (sVI p2)),(3,.p 3 0),(4,.p 4 0),(6,.p 6 0),(7,.d (.int .i64 a5)),(8,.p 8 0)],[(3,.st false (eD (eEnv8 p0))),(4,.st false (eD (eSt8 a4))),(6,.st false [.d .nils,.d (.int .i64 0),.d (.bool false),.d (.bool false),.d (.int .i64 0),.d (.bool false)]),(8,.st false (eD (eInstr (p2.getD a5.toNat default))))]⟩ (a_ (a_ h8 (a_ (flI_ix h8) t_)) t_) ?_
    refine AW2.block ?_
    refine AW2.seq ?_
    refine r_ [] [2,3,4,6,7,8,33] [] [.k 3,.k 4,.k 6,.k 8] ⟨[(2,.d (sVI p2)),(3,.p 3 0),(4,.p 4 0),(6,.p 6 0),(7,.d (.int .i64 a5)),(8,.p 8 0),(33,.d (.bool (((p2.getD a5.toNat default).op)==(0:Int))))],[(3,.st false (eD (eEnv8 p0))),(4,.st false (eD (eSt8 a4))),(6,.st false [.d .nils,.d (.int .i64 0),.d (.bool false),.d (.bool false),.d (.int .i64 0),.d (.bool false)]),(8,.st false (eD (eInstr (p2.getD a5.toNat default))))]⟩ (a_ t_ t_) ?_
    refine AW2.cond (b:=(((p2.getD a5.toNat default).op)==(0:Int))) rfl (fun hc => ?_) (fun hc => ?_)
    ·replace H:=zae H hc
     obtain ⟨x9,hx10,H⟩:=bind_some H
     refine r_ [.r (.agg (eSt8 x9))] [2,3,4,6,7] [] [.k 3,.k 4,.k 6] ⟨[(2,.d (sVI p2)),(3,.p 3 0),(4,.p 4 0),(6,.p 6 0),(7,.d (.int .i64 a5))],[(3,.st false (eD (eEnv8 p0))),(4,.st false (eD (eSt8 x9))),(6,.st false [.d .nils,.d (.int .i64 0),.d (.bool false),.d (.bool false),.d (.int .i64 0),.d (.bool false)])]⟩ (a_ (a_ (zgK a4 x9 hx10) t_) t_) ?_
     have H:=Option.some.inj H
     subst H
     exact zam [2,3,4,6,7] [] [.k 3,.k 4,.k 6] t_ (by kernel_rfl)
    ·replace H:=zaf H hc
     refine AW2.seq ?_
     refine r_ [] [2,3,4,6,7,8,39] [] [.k 3,.k 4,.k 6,.k 8] ⟨[(2,.d (sVI p2)),(3,.p 3 0),(4,.p 4 0),(6,.p 6 0),(7,.d (.int .i64 a5)),(8,.p 8 0),(39,.d (.bool (((p2.getD a5.toNat default).op)==(1:Int))))],[(3,.st false (eD (eEnv8 p0))),(4,.st false (eD (eSt8 a4))),(6,.st false [.d .nils,.d (.int .i64 0),.d (.bool false),.d (.bool false),.d (.int .i64 0),.d (.bool false)]),(8,.st false (eD (eInstr (p2.getD a5.toNat default))))]⟩ (a_ t_ t_) ?_
     refine AW2.cond (b:=(((p2.getD a5.toNat default).op)==(1:Int))) rfl (fun hc => ?_) (fun hc => ?_)
     ·replace H:=zae H hc
      refine AW2.skip ?_
      have H:=Option.some.inj H
      subst H
      exact zam [2,3,4,6,7] [] [.k 3,.k 4,.k 6] t_ (by kernel_rfl)
     ·replace H:=zaf H hc
      refine AW2.seq ?_
      refine AW2.reg [] rfl (YW.to ⟨[(2,.d (sVI p2)),(3,.p 3 0),(4,.p 4 0),(6,.p 6 0),(7,.d (.int .i64 a5)),(8,.p 8 0),(43,.d (.bool ((decide (((p2.getD a5.toNat default).op)≥(2:Int)))&&(decide (((p2.getD a5.toNat default).op)≤(4:Int))))))],[(3,.st false (eD (eEnv8 p0))),(4,.st false (eD (eSt8 a4))),(6,.st false [.d .nils,.d (.int .i64 0),.d (.bool false),.d (.bool false),.d (.int .i64 0),.d (.bool false)]),(8,.st false (eD (eInstr (p2.getD a5.toNat default))))]⟩ ?qh38 ?h38)
      case h38 => 
       rcases bT (decide (((p2.getD a5.toNat default).op)≥(2:Int))) with hc1 | hc1
       ·exact YW.fin [(47,true)] [] [2,3,4,6,7,8,43] [(43,.d (.bool ((decide (((p2.getD a5.toNat default).op)≥(2:Int)))&&(decide (((p2.getD a5.toNat default).op)≤(4:Int))))))] [.k 3,.k 4,.k 6,.k 8] _ (a_ (a_ hc1 (a_ hc1 (a_ hc1 (a_ hc1 t_)))) (a_ (ovB (Eq.trans (andT (b:=(decide (((p2.getD a5.toNat default).op)≤(4:Int)))) hc1) (Eq.refl (decide (((p2.getD a5.toNat default).op)≤(4:Int)))))) t_)) (by kernel_rfl) rfl
       ·exact YW.fin [(47,false)] [] [2,3,4,6,7,8,43] [(43,.d (.bool ((decide (((p2.getD a5.toNat default).op)≥(2:Int)))&&(decide (((p2.getD a5.toNat default).op)≤(4:Int))))))] [.k 3,.k 4,.k 6,.k 8] _ (a_ (a_ hc1 (a_ hc1 (a_ hc1 (a_ hc1 t_)))) (a_ (ovB (andF (b:=(decide (((p2.getD a5.toNat default).op)≤(4:Int)))) hc1)) t_)) (by kernel_rfl) rfl
      refine AW2.cond (b:=((decide (((p2.getD a5.toNat default).op)≥(2:Int)))&&(decide (((p2.getD a5.toNat default).op)≤(4:Int))))) rfl (fun hc => ?_) (fun hc => ?_)
      ·replace H:=zae H hc
       obtain ⟨x11,hx12,H⟩:=bind_some H
       refine r_ [.r (.agg (eSt8 x11))] [2,3,4,6,7] [] [.k 3,.k 4,.k 6] ⟨[(2,.d (sVI p2)),(3,.p 3 0),(4,.p 4 0),(6,.p 6 0),(7,.d (.int .i64 a5))],[(3,.st false (eD (eEnv8 p0))),(4,.st false (eD (eSt8 x11))),(6,.st false [.d .nils,.d (.int .i64 0),.d (.bool false),.d (.bool false),.d (.int .i64 0),.d (.bool false)])]⟩ (a_ (a_ (IH_ref08_block p0 a4 (p2.getD a5.toNat default) x11 hx12) t_) t_) ?_
       have H:=Option.some.inj H
       subst H
       exact zam [2,3,4,6,7] [] [.k 3,.k 4,.k 6] t_ (by kernel_rfl)
      ·replace H:=zaf H hc
       refine AW2.seq ?_
       refine AW2.reg [] rfl (YW.to ⟨[(2,.d (sVI p2)),(3,.p 3 0),(4,.p 4 0),(6,.p 6 0),(7,.d (.int .i64 a5)),(8,.p 8 0),(56,.d (.bool ((decide (((p2.getD a5.toNat default).op)≥(12:Int)))&&(decide (((p2.getD a5.toNat default).op)≤(14:Int))))))],[(3,.st false (eD (eEnv8 p0))),(4,.st false (eD (eSt8 a4))),(6,.st false [.d .nils,.d (.int .i64 0),.d (.bool false),.d (.bool false),.d (.int .i64 0),.d (.bool false)]),(8,.st false (eD (eInstr (p2.getD a5.toNat default))))]⟩ ?qh37 ?h37)
       case h37 => 
        rcases bT (decide (((p2.getD a5.toNat default).op)≥(12:Int))) with hc1 | hc1
        ·exact YW.fin [(60,true)] [] [2,3,4,6,7,8,56] [(56,.d (.bool ((decide (((p2.getD a5.toNat default).op)≥(12:Int)))&&(decide (((p2.getD a5.toNat default).op)≤(14:Int))))))] [.k 3,.k 4,.k 6,.k 8] _ (a_ (a_ hc1 (a_ hc1 (a_ hc1 (a_ hc1 t_)))) (a_ (ovB (Eq.trans (andT (b:=(decide (((p2.getD a5.toNat default).op)≤(14:Int)))) hc1) (Eq.refl (decide (((p2.getD a5.toNat default).op)≤(14:Int)))))) t_)) (by kernel_rfl) rfl
        ·exact YW.fin [(60,false)] [] [2,3,4,6,7,8,56] [(56,.d (.bool ((decide (((p2.getD a5.toNat default).op)≥(12:Int)))&&(decide (((p2.getD a5.toNat default).op)≤(14:Int))))))] [.k 3,.k 4,.k 6,.k 8] _ (a_ (a_ hc1 (a_ hc1 (a_ hc1 (a_ hc1 t_)))) (a_ (ovB (andF (b:=(decide (((p2.getD a5.toNat default).op)≤(14:Int)))) hc1)) t_)) (by kernel_rfl) rfl
       refine AW2.cond (b:=((decide (((p2.getD a5.toNat default).op)≥(12:Int)))&&(decide (((p2.getD a5.toNat default).op)≤(14:Int))))) rfl (fun hc => ?_) (fun hc => ?_)
       ·replace H:=zae H hc
        obtain ⟨x13,hx14,H⟩:=bind_some H
        refine r_ [.r (.agg (eSt8 x13))] [2,3,4,6,7] [] [.k 3,.k 4,.k 6] ⟨[(2,.d (sVI p2)),(3,.p 3 0),(4,.p 4 0),(6,.p 6 0),(7,.d (.int .i64 a5))],[(3,.st false (eD (eEnv8 p0))),(4,.st false (eD (eSt8 x13))),(6,.st false [.d .nils,.d (.int .i64 0),.d (.bool false),.d (.bool false),.d (.int .i64 0),.d (.bool false)])]⟩ (a_ (a_ (zwl k p0 a4 (p2.getD a5.toNat default) x13 hx14) t_) t_) ?_
        have H:=Option.some.inj H
        subst H
        exact zam [2,3,4,6,7] [] [.k 3,.k 4,.k 6] t_ (by kernel_rfl)
       ·replace H:=zaf H hc
        refine AW2.seq ?_
        refine r_ [] [2,3,4,6,7,8,69] [] [.k 3,.k 4,.k 6,.k 8] ⟨[(2,.d (sVI p2)),(3,.p 3 0),(4,.p 4 0),(6,.p 6 0),(7,.d (.int .i64 a5)),(8,.p 8 0),(69,.d (.bool (((p2.getD a5.toNat default).op)==(15:Int))))],[(3,.st false (eD (eEnv8 p0))),(4,.st false (eD (eSt8 a4))),(6,.st false [.d .nils,.d (.int .i64 0),.d (.bool false),.d (.bool false),.d (.int .i64 0),.d (.bool false)]),(8,.st false (eD (eInstr (p2.getD a5.toNat default))))]⟩ (a_ t_ t_) ?_
        refine AW2.cond (b:=(((p2.getD a5.toNat default).op)==(15:Int))) rfl (fun hc => ?_) (fun hc => ?_)
        ·replace H:=zae H hc
         refine AW2.seq ?_
         obtain ⟨x15,hx16,H⟩:=bind_some H
         refine r_ [.r (.tup [.agg (eSt8 x15.1),.int .u8 x15.2])] [2,3,4,6,7] [] [.k 3,.k 4,.k 6] ⟨[(2,.d (sVI p2)),(3,.p 3 0),(4,.p 4 0),(6,.p 6 0),(7,.d (.int .i64 a5))],[(3,.st false (eD (eEnv8 p0))),(4,.st false (eD (eSt8 x15.1))),(6,.st false [.d .nils,.d (.int .i64 0),.d (.bool false),.d (.bool false),.d (.int .i64 0),.d (.bool false)])]⟩ (a_ (a_ (zaS a4 p0.result x15 hx16) t_) t_) ?_
         obtain ⟨x17,hx18,H⟩:=bind_some H
         refine r_ [.r (.agg (eSt8 x17))] [2,3,4,6,7] [] [.k 3,.k 4,.k 6] ⟨[(2,.d (sVI p2)),(3,.p 3 0),(4,.p 4 0),(6,.p 6 0),(7,.d (.int .i64 a5))],[(3,.st false (eD (eEnv8 p0))),(4,.st false (eD (eSt8 x17))),(6,.st false [.d .nils,.d (.int .i64 0),.d (.bool false),.d (.bool false),.d (.int .i64 0),.d (.bool false)])]⟩ (a_ (a_ (zgK x15.1 x17 hx18) t_) t_) ?_
         have H:=Option.some.inj H
         subst H
         exact zam [2,3,4,6,7] [] [.k 3,.k 4,.k 6] t_ (by kernel_rfl)
        ·replace H:=zaf H hc
         refine AW2.seq ?_
         refine AW2.reg [] rfl (YW.to ⟨[(2,.d (sVI p2)),(3,.p 3 0),(4,.p 4 0),(6,.p 6 0),(7,.d (.int .i64 a5)),(8,.p 8 0),(82,.d (.bool ((((p2.getD a5.toNat default).op)==(16:Int))||(((p2.getD a5.toNat default).op)==(17:Int)))))],[(3,.st false (eD (eEnv8 p0))),(4,.st false (eD (eSt8 a4))),(6,.st false [.d .nils,.d (.int .i64 0),.d (.bool false),.d (.bool false),.d (.int .i64 0),.d (.bool false)]),(8,.st false (eD (eInstr (p2.getD a5.toNat default))))]⟩ ?qh36 ?h36)
         case h36 => 
          rcases bT (((p2.getD a5.toNat default).op)==(16:Int)) with hc1 | hc1
          ·exact YW.fin [(86,true)] [] [2,3,4,6,7,8,82] [(82,.d (.bool ((((p2.getD a5.toNat default).op)==(16:Int))||(((p2.getD a5.toNat default).op)==(17:Int)))))] [.k 3,.k 4,.k 6,.k 8] _ (a_ (a_ hc1 (a_ hc1 (a_ hc1 (a_ hc1 t_)))) (a_ (ovB (orT (b:=(((p2.getD a5.toNat default).op)==(17:Int))) hc1)) t_)) (by kernel_rfl) rfl
          ·exact YW.fin [(86,false)] [] [2,3,4,6,7,8,82] [(82,.d (.bool ((((p2.getD a5.toNat default).op)==(16:Int))||(((p2.getD a5.toNat default).op)==(17:Int)))))] [.k 3,.k 4,.k 6,.k 8] _ (a_ (a_ hc1 (a_ hc1 (a_ hc1 (a_ hc1 t_)))) (a_ (ovB (Eq.trans (orF (b:=(((p2.getD a5.toNat default).op)==(17:Int))) hc1) (Eq.refl (((p2.getD a5.toNat default).op)==(17:Int))))) t_)) (by kernel_rfl) rfl
         refine AW2.cond (b:=((((p2.getD a5.toNat default).op)==(16:Int))||(((p2.getD a5.toNat default).op)==(17:Int)))) rfl (fun hc => ?_) (fun hc => ?_)
         ·replace H:=zae H hc
          obtain ⟨x19,hx20,H⟩:=bind_some H
          refine r_ [.r (.agg (eSt8 x19))] [2,3,4,6,7] [] [.k 3,.k 4,.k 6] ⟨[(2,.d (sVI p2)),(3,.p 3 0),(4,.p 4 0),(6,.p 6 0),(7,.d (.int .i64 a5))],[(3,.st false (eD (eEnv8 p0))),(4,.st false (eD (eSt8 x19))),(6,.st false [.d .nils,.d (.int .i64 0),.d (.bool false),.d (.bool false),.d (.int .i64 0),.d (.bool false)])]⟩ (a_ (a_ (zxR k p0 a4 (p2.getD a5.toNat default) x19 hx20) t_) t_) ?_
          have H:=Option.some.inj H
          subst H
          exact zam [2,3,4,6,7] [] [.k 3,.k 4,.k 6] t_ (by kernel_rfl)
         ·replace H:=zaf H hc
          refine AW2.seq ?_
          refine r_ [] [2,3,4,6,7,8,95] [] [.k 3,.k 4,.k 6,.k 8] ⟨[(2,.d (sVI p2)),(3,.p 3 0),(4,.p 4 0),(6,.p 6 0),(7,.d (.int .i64 a5)),(8,.p 8 0),(95,.d (.bool (((p2.getD a5.toNat default).op)==(26:Int))))],[(3,.st false (eD (eEnv8 p0))),(4,.st false (eD (eSt8 a4))),(6,.st false [.d .nils,.d (.int .i64 0),.d (.bool false),.d (.bool false),.d (.int .i64 0),.d (.bool false)]),(8,.st false (eD (eInstr (p2.getD a5.toNat default))))]⟩ (a_ t_ t_) ?_
          refine AW2.cond (b:=(((p2.getD a5.toNat default).op)==(26:Int))) rfl (fun hc => ?_) (fun hc => ?_)
          ·replace H:=zae H hc
           obtain ⟨x21,hx22,H⟩:=bind_some H
           refine r_ [.r (.tup [.agg (eSt8 x21.1),.int .u8 x21.2])] [2,3,4,6,7] [] [.k 3,.k 4,.k 6] ⟨[(2,.d (sVI p2)),(3,.p 3 0),(4,.p 4 0),(6,.p 6 0),(7,.d (.int .i64 a5))],[(3,.st false (eD (eEnv8 p0))),(4,.st false (eD (eSt8 x21.1))),(6,.st false [.d .nils,.d (.int .i64 0),.d (.bool false),.d (.bool false),.d (.int .i64 0),.d (.bool false)])]⟩ (a_ (a_ (zaS a4 255 x21 hx22) t_) t_) ?_
           have H:=Option.some.inj H
           subst H
           exact zam [2,3,4,6,7] [] [.k 3,.k 4,.k 6] t_ (by kernel_rfl)
          ·replace H:=zaf H hc
           refine AW2.seq ?_
           refine r_ [] [2,3,4,6,7,8,104] [] [.k 3,.k 4,.k 6,.k 8] ⟨[(2,.d (sVI p2)),(3,.p 3 0),(4,.p 4 0),(6,.p 6 0),(7,.d (.int .i64 a5)),(8,.p 8 0),(104,.d (.bool (((p2.getD a5.toNat default).op)==(27:Int))))],[(3,.st false (eD (eEnv8 p0))),(4,.st false (eD (eSt8 a4))),(6,.st false [.d .nils,.d (.int .i64 0),.d (.bool false),.d (.bool false),.d (.int .i64 0),.d (.bool false)]),(8,.st false (eD (eInstr (p2.getD a5.toNat default))))]⟩ (a_ t_ t_) ?_
           refine AW2.cond (b:=(((p2.getD a5.toNat default).op)==(27:Int))) rfl (fun hc => ?_) (fun hc => ?_)
           ·replace H:=zae H hc
            refine AW2.seq ?_
            obtain ⟨x23,hx24,H⟩:=bind_some H
            refine r_ [.r (.tup [.agg (eSt8 x23.1),.int .u8 x23.2]),.k 9] [2,3,4,6,7,9] [] [.k 3,.k 4,.k 6,.k 9] ⟨[(2,.d (sVI p2)),(3,.p 3 0),(4,.p 4 0),(6,.p 6 0),(7,.d (.int .i64 a5)),(9,.p 9 0)],[(3,.st false (eD (eEnv8 p0))),(4,.st false (eD (eSt8 a4))),(6,.st false [.d .nils,.d (.int .i64 0),.d (.bool false),.d (.bool false),.d (.int .i64 0),.d (.bool false)]),(9,.st false (eD (eSt8 x23.1)))]⟩ (a_ (a_ (zaS a4 127 x23 hx24) t_) t_) ?_
            refine AW2.seq ?_
            obtain ⟨x25,hx26,H⟩:=bind_some H
            refine r_ [.r (.tup [.agg (eSt8 x25.1),.int .u8 x25.2]),.k 11] [2,3,4,6,7,11,12] [] [.k 3,.k 4,.k 6,.k 11] ⟨[(2,.d (sVI p2)),(3,.p 3 0),(4,.p 4 0),(6,.p 6 0),(7,.d (.int .i64 a5)),(11,.p 11 0),(12,.d (.int .u8 x25.2))],[(3,.st false (eD (eEnv8 p0))),(4,.st false (eD (eSt8 a4))),(6,.st false [.d .nils,.d (.int .i64 0),.d (.bool false),.d (.bool false),.d (.int .i64 0),.d (.bool false)]),(11,.st false (eD (eSt8 x25.1)))]⟩ (a_ (a_ (zaS x23.1 255 x25 hx26) t_) t_) ?_
            refine AW2.seq ?_
            obtain ⟨x27,hx28,H⟩:=bind_some H
            refine r_ [.r (.tup [.agg (eSt8 x27.1),.int .u8 x27.2]),.k 13] [2,3,4,6,7,13,14] [] [.k 3,.k 4,.k 6,.k 13] ⟨[(2,.d (sVI p2)),(3,.p 3 0),(4,.p 4 0),(6,.p 6 0),(7,.d (.int .i64 a5)),(13,.p 13 0),(14,.d (.int .u8 x27.2))],[(3,.st false (eD (eEnv8 p0))),(4,.st false (eD (eSt8 a4))),(6,.st false [.d .nils,.d (.int .i64 0),.d (.bool false),.d (.bool false),.d (.int .i64 0),.d (.bool false)]),(13,.st false (eD (eSt8 x27.1)))]⟩ (a_ (a_ (zaS x25.1 x25.2 x27 hx28) t_) t_) ?_
            obtain ⟨x29,hx30,H⟩:=bind_some H
            refine r_ [.r (.agg (eSt8 x29))] [2,3,4,6,7] [] [.k 3,.k 4,.k 6] ⟨[(2,.d (sVI p2)),(3,.p 3 0),(4,.p 4 0),(6,.p 6 0),(7,.d (.int .i64 a5))],[(3,.st false (eD (eEnv8 p0))),(4,.st false (eD (eSt8 x29))),(6,.st false [.d .nils,.d (.int .i64 0),.d (.bool false),.d (.bool false),.d (.int .i64 0),.d (.bool false)])]⟩ (a_ (a_ (zeT x27.1 x27.2 x29 hx30) t_) t_) ?_
            have H:=Option.some.inj H
            subst H
            exact zam [2,3,4,6,7] [] [.k 3,.k 4,.k 6] t_ (by kernel_rfl)
           ·replace H:=zaf H hc
            refine AW2.seq ?_
            refine AW2.reg [] rfl (YW.to ⟨[(2,.d (sVI p2)),(3,.p 3 0),(4,.p 4 0),(6,.p 6 0),(7,.d (.int .i64 a5)),(8,.p 8 0),(127,.d (.bool ((decide (((p2.getD a5.toNat default).op)≥(32:Int)))&&(decide (((p2.getD a5.toNat default).op)≤(36:Int))))))],[(3,.st false (eD (eEnv8 p0))),(4,.st false (eD (eSt8 a4))),(6,.st false [.d .nils,.d (.int .i64 0),.d (.bool false),.d (.bool false),.d (.int .i64 0),.d (.bool false)]),(8,.st false (eD (eInstr (p2.getD a5.toNat default))))]⟩ ?qh35 ?h35)
            case h35 => 
             rcases bT (decide (((p2.getD a5.toNat default).op)≥(32:Int))) with hc1 | hc1
             ·exact YW.fin [(131,true)] [] [2,3,4,6,7,8,127] [(127,.d (.bool ((decide (((p2.getD a5.toNat default).op)≥(32:Int)))&&(decide (((p2.getD a5.toNat default).op)≤(36:Int))))))] [.k 3,.k 4,.k 6,.k 8] _ (a_ (a_ hc1 (a_ hc1 (a_ hc1 (a_ hc1 t_)))) (a_ (ovB (Eq.trans (andT (b:=(decide (((p2.getD a5.toNat default).op)≤(36:Int)))) hc1) (Eq.refl (decide (((p2.getD a5.toNat default).op)≤(36:Int)))))) t_)) (by kernel_rfl) rfl
             ·exact YW.fin [(131,false)] [] [2,3,4,6,7,8,127] [(127,.d (.bool ((decide (((p2.getD a5.toNat default).op)≥(32:Int)))&&(decide (((p2.getD a5.toNat default).op)≤(36:Int))))))] [.k 3,.k 4,.k 6,.k 8] _ (a_ (a_ hc1 (a_ hc1 (a_ hc1 (a_ hc1 t_)))) (a_ (ovB (andF (b:=(decide (((p2.getD a5.toNat default).op)≤(36:Int)))) hc1)) t_)) (by kernel_rfl) rfl
            refine AW2.cond (b:=((decide (((p2.getD a5.toNat default).op)≥(32:Int)))&&(decide (((p2.getD a5.toNat default).op)≤(36:Int))))) rfl (fun hc => ?_) (fun hc => ?_)
            ·replace H:=zae H hc
             obtain ⟨x31,hx32,H⟩:=bind_some H
             refine r_ [.r (.agg (eSt8 x31))] [2,3,4,6,7] [] [.k 3,.k 4,.k 6] ⟨[(2,.d (sVI p2)),(3,.p 3 0),(4,.p 4 0),(6,.p 6 0),(7,.d (.int .i64 a5))],[(3,.st false (eD (eEnv8 p0))),(4,.st false (eD (eSt8 x31))),(6,.st false [.d .nils,.d (.int .i64 0),.d (.bool false),.d (.bool false),.d (.int .i64 0),.d (.bool false)])]⟩ (a_ (a_ (zpR p0 a4 (p2.getD a5.toNat default) x31 hx32) t_) t_) ?_
             have H:=Option.some.inj H
             subst H
             exact zam [2,3,4,6,7] [] [.k 3,.k 4,.k 6] t_ (by kernel_rfl)
            ·replace H:=zaf H hc
             obtain ⟨x33,hx34,H⟩:=bind_some H
             refine r_ [.r (.agg (eSt8 x33))] [2,3,4,6,7] [] [.k 3,.k 4,.k 6] ⟨[(2,.d (sVI p2)),(3,.p 3 0),(4,.p 4 0),(6,.p 6 0),(7,.d (.int .i64 a5))],[(3,.st false (eD (eEnv8 p0))),(4,.st false (eD (eSt8 x33))),(6,.st false [.d .nils,.d (.int .i64 0),.d (.bool false),.d (.bool false),.d (.int .i64 0),.d (.bool false)])]⟩ (a_ (a_ (zxP k p0 a4 (p2.getD a5.toNat default) x33 hx34) t_) t_) ?_
             have H:=Option.some.inj H
             subst H
             exact zam [2,3,4,6,7] [] [.k 3,.k 4,.k 6] t_ (by kernel_rfl)
  ·replace H:=zaf H hc
   refine AW2.exit ?_
   have H:=Option.some.inj H
   subst H
   exact zam [4,6] [] [.k 4,.k 6] t_ (by kernel_rfl)
theorem znA:∀ k,(∀ (p0:Env8) (p1:St8) (p2:List Instr) (p3:Int) (p4:Int) (r:St8),zaF k p0 p1 p2 p3 p4=some r→CF E 57 [.agg (eEnv8 p0),.agg (eSt8 p1),sVI p2,.int .u8 p3,.int .u8 p4] (.agg (eSt8 r)))∧(∀ (p0:Env8) (p1:St8) (p2:Instr) (r:St8),zbo k p0 p1 p2=some r→CF E 43 [.agg (eEnv8 p0),.agg (eSt8 p1),.agg (eInstr p2)] (.agg (eSt8 r)))∧(∀ (p0:Env8) (p1:St8) (p2:List Instr) (r:St8),zaB k p0 p1 p2=some r→CF E 26 [.agg (eEnv8 p0),.agg (eSt8 p1),sVI p2] (.agg (eSt8 r))):=by
 intro k
 induction k with
 | zero => exact ⟨fun _ _ _ _ _ _ H => (by cases H),fun _ _ _ _ H => (by cases H),fun _ _ _ _ H => (by cases H)⟩
 | succ k ih => 
  obtain ⟨i0,i1,i2⟩:=ih
  exact ⟨zxl k i0 i1 i2,zxm k i0 i1 i2,zyw k i0 i1 i2⟩
theorem zyQ (k:Nat):∀ (p0:Env8) (p1:St8) (p2:List Instr) (r:St8),zaB k p0 p1 p2=some r→CF E 26 [.agg (eEnv8 p0),.agg (eSt8 p1),sVI p2] (.agg (eSt8 r)):=(znA k).2.2
def zeq (K:Nat) (p0:Mdl) (p1:Int):Option (Int×Int):=(if (decide (p1<(0:Int)))=true then some true else (if (decide (p1≥(p0.funcs.length:Int)))=true then some true else gd (0≤p1∧p1<(p0.funcs.length:Int)) (if (decide (((p0.funcs.getD p1.toNat default).type_)≥(IntKind.wrap .u32 (p0.types.length:Int))))=true then some true else ((zeC K p0).bind fun x2 => some (!x2))))).bind (fun j4 => (if j4=true then some (1,0) else gd (0≤p1∧p1<(p0.funcs.length:Int)) (gd (0≤((p0.funcs.getD p1.toNat default).type_)∧((p0.funcs.getD p1.toNat default).type_)<(p0.types.length:Int)) (gd (((p0.types.getD ((p0.funcs.getD p1.toNat default).type_).toNat default).params).length * 1≤140737488355328) (gd (0≤p1∧p1<(p0.funcs.length:Int)) (gd ((((p0.types.getD ((p0.funcs.getD p1.toNat default).type_).toNat default).params).length+((p0.funcs.getD p1.toNat default).locals).length) * 1≤140737488355328) (gd (0≤p1∧p1<(p0.funcs.length:Int)) ((zaB K (Env8.mk p0 ((p0.types.getD ((p0.funcs.getD p1.toNat default).type_).toNat default).result) ((p0.types.getD ((p0.funcs.getD p1.toNat default).type_).toNat default).params++(p0.funcs.getD p1.toNat default).locals) ([(p0.types.getD ((p0.funcs.getD p1.toNat default).type_).toNat default).result]:List Int)) (St8.mk ([]:List Int) 0 false false 0 true) ((p0.funcs.getD p1.toNat default).body)).bind fun x11 => ((zag x11 ((p0.types.getD ((p0.funcs.getD p1.toNat default).type_).toNat default).result)).bind fun x13 => (if ((!x13.1.ok)||(decide ((x13.1.l.length:Int)>(0:Int))))=true then some (7,0) else some (0,x13.1.most)))))))))))
theorem zyR (K:Nat) (p0:Mdl) (p1:Int) (r:Int×Int) (H:zeq K p0 p1=some r):CF E 8 [.agg (eMdl p0),.int .i64 p1] (.tup [.int .i64 r.1,.int .i64 r.2]):=by
 refine zbi (A:=zpG) zxB rfl fun fr => ?_
 unfold zeq at H
 refine AW2.seq ?_
 refine r_ [.k 2] [1,2] [] [.k 2] ⟨[(1,.d (.int .i64 p1)),(2,.p 2 0)],[(2,.st false (eD (eMdl p0)))]⟩ (a_ t_ t_) ?_
 refine AW2.seq ?_
 refine AW2.seq ?_
 obtain ⟨j4,H17,H⟩:=bind_some H
 refine AW2.reg [] rfl (YW.to ⟨[(1,.d (.int .i64 p1)),(2,.p 2 0),(35,.d (.bool j4))],[(2,.st false (eD (eMdl p0)))]⟩ ?qh18 ?h18)
 case h18 => 
  have H:=H17
  rcases bT (decide (p1<(0:Int))) with hc1 | hc1
  ·replace H:=zae H hc1
   have H:=Option.some.inj H
   subst H
   exact YW.fin [(11,true),(18,true),(31,true)] [] [1,2,35] [] [.k 2] _ (a_ (a_ hc1 (a_ hc1 (a_ hc1 (a_ hc1 (a_ hc1 (a_ hc1 (a_ (Eq.refl true) (a_ (Eq.refl true) (a_ (Eq.refl true) (a_ (Eq.refl true) (a_ (Eq.refl true) (a_ (Eq.refl true) (a_ (Eq.refl true) (a_ (Eq.refl true) (a_ (Eq.refl true) (a_ (Eq.refl true) (a_ (Eq.refl true) (a_ (Eq.refl true) (a_ (Eq.refl true) (a_ (Eq.refl true) (a_ (Eq.refl true) (a_ (Eq.refl true) t_)))))))))))))))))))))) t_) (by kernel_rfl) rfl
  ·replace H:=zaf H hc1
   rcases bT (decide (p1≥(p0.funcs.length:Int))) with hc2 | hc2
   ·replace H:=zae H hc2
    have H:=Option.some.inj H
    subst H
    exact YW.fin [(11,false),(18,true),(31,true)] [] [1,2,35] [] [.k 2] _ (a_ (a_ hc1 (a_ hc1 (a_ hc1 (a_ hc1 (a_ hc1 (a_ hc1 (a_ hc2 (a_ hc2 (a_ hc2 (a_ hc2 (a_ hc2 (a_ hc2 (a_ hc2 (a_ hc2 (a_ hc2 (a_ hc2 (a_ hc2 (a_ hc2 (a_ (Eq.refl true) (a_ (Eq.refl true) (a_ (Eq.refl true) (a_ (Eq.refl true) t_)))))))))))))))))))))) t_) (by kernel_rfl) rfl
   ·replace H:=zaf H hc2
    obtain ⟨h1,H⟩:=zad H
    rcases bT (decide (((p0.funcs.getD p1.toNat default).type_)≥(IntKind.wrap .u32 (p0.types.length:Int)))) with hc3 | hc3
    ·replace H:=zae H hc3
     have H:=Option.some.inj H
     subst H
     exact YW.fin [(11,false),(18,false),(31,true)] [] [1,2,35] [] [.k 2] _ (a_ (a_ hc1 (a_ hc1 (a_ hc1 (a_ hc1 (a_ hc1 (a_ hc1 (a_ hc2 (a_ hc2 (a_ hc2 (a_ hc2 (a_ h1 (a_ hc2 (a_ hc2 (a_ hc2 (a_ hc2 (a_ hc2 (a_ hc2 (a_ hc2 (a_ hc2 (a_ hc3 (a_ hc3 (a_ hc3 (a_ hc3 t_))))))))))))))))))))))) t_) (by kernel_rfl) rfl
    ·replace H:=zaf H hc3
     obtain ⟨x2,hx3,H⟩:=bind_some H
     have H:=Option.some.inj H
     subst H
     exact YW.fin [(11,false),(18,false),(31,false)] [.r (.bool x2)] [1,2,35] [] [.k 2] _ (a_ (a_ hc1 (a_ hc1 (a_ hc1 (a_ hc1 (a_ hc1 (a_ hc1 (a_ hc2 (a_ hc2 (a_ hc2 (a_ hc2 (a_ h1 (a_ hc2 (a_ hc2 (a_ hc2 (a_ hc2 (a_ hc2 (a_ hc2 (a_ hc2 (a_ hc2 (a_ hc3 (a_ hc3 (a_ (zxQ K p0 x2 hx3) (a_ hc3 (a_ hc3 t_)))))))))))))))))))))))) t_) (by kernel_rfl) rfl
 refine AW2.cond (b:=j4) rfl (fun hc => ?_) (fun hc => ?_)
 ·replace H:=zae H hc
  refine AW2.seq ?_
  refine r_ [] [4,5] [] [] ⟨[(4,.d (.int .i64 1)),(5,.d (.int .i64 0))],[]⟩ (a_ t_ t_) ?_
  refine AW2.ret ?_
  have H:=Option.some.inj H
  subst H
  exact retP_mk2 t_ (by kernel_rfl)
 ·replace H:=zaf H hc
  refine AW2.skip ?_
  refine AW2.seq ?_
  obtain ⟨h5,H⟩:=zad H
  obtain ⟨h6,H⟩:=zad H
  refine r_ [.k 6] [1,2,6] [] [.k 2,.k 6] ⟨[(1,.d (.int .i64 p1)),(2,.p 2 0),(6,.p 6 0)],[(2,.st false (eD (eMdl p0))),(6,.st false (eD (eTyp (p0.types.getD ((p0.funcs.getD p1.toNat default).type_).toNat default))))]⟩ (a_ (a_ h5 (a_ h6 t_)) t_) ?_
  refine AW2.seq ?_
  refine r_ [] [1,2,6,7] [] [.k 2,.k 6] ⟨[(1,.d (.int .i64 p1)),(2,.p 2 0),(6,.p 6 0),(7,.d .nils)],[(2,.st false (eD (eMdl p0))),(6,.st false (eD (eTyp (p0.types.getD ((p0.funcs.getD p1.toNat default).type_).toNat default))))]⟩ (a_ t_ t_) ?_
  refine AW2.seq ?_
  obtain ⟨h7,H⟩:=zad H
  obtain ⟨h8,H⟩:=zad H
  obtain ⟨h9,H⟩:=zad H
  refine r_ [.ks false 49 ((p0.types.getD ((p0.funcs.getD p1.toNat default).type_).toNat default).params).length (fl (eI .u8) ((p0.types.getD ((p0.funcs.getD p1.toNat default).type_).toNat default).params)),.s false ((p0.types.getD ((p0.funcs.getD p1.toNat default).type_).toNat default).params++(p0.funcs.getD p1.toNat default).locals).length (fl (eI .u8) ((p0.types.getD ((p0.funcs.getD p1.toNat default).type_).toNat default).params++(p0.funcs.getD p1.toNat default).locals))] [1,2,6,7] [] [.k 2,.k 6,.k 49] ⟨[(1,.d (.int .i64 p1)),(2,.p 2 0),(6,.p 6 0),(7,.ls 49 0 ((p0.types.getD ((p0.funcs.getD p1.toNat default).type_).toNat default).params++(p0.funcs.getD p1.toNat default).locals).length)],[(2,.st false (eD (eMdl p0))),(6,.st false (eD (eTyp (p0.types.getD ((p0.funcs.getD p1.toNat default).type_).toNat default)))),(49,.sl false 1 ((p0.types.getD ((p0.funcs.getD p1.toNat default).type_).toNat default).params++(p0.funcs.getD p1.toNat default).locals).length (fl (eI .u8) ((p0.types.getD ((p0.funcs.getD p1.toNat default).type_).toNat default).params++(p0.funcs.getD p1.toNat default).locals)))]⟩ (a_ (a_ (lcl (eI .u8) (zAn .u8) ((p0.types.getD ((p0.funcs.getD p1.toNat default).type_).toNat default).params)) (a_ h7 (a_ (a_ (Eq.refl ((p0.types.getD ((p0.funcs.getD p1.toNat default).type_).toNat default).params).length) (fun i (_:i<((p0.types.getD ((p0.funcs.getD p1.toNat default).type_).toNat default).params).length) => Eq.refl (fl (eI .u8) ((p0.types.getD ((p0.funcs.getD p1.toNat default).type_).toNat default).params) i))) (a_ h8 (a_ (lcl (eI .u8) (zAn .u8) ((p0.funcs.getD p1.toNat default).locals)) (a_ (Nat.le_refl ((p0.types.getD ((p0.funcs.getD p1.toNat default).type_).toNat default).params).length) (a_ h9 (a_ (appN (eI .u8) ((p0.types.getD ((p0.funcs.getD p1.toNat default).type_).toNat default).params) ((p0.funcs.getD p1.toNat default).locals)) t_)))))))) t_) ?_
  refine AW2.seq ?_
  refine AW2.fz [sV (eI .u8) ((p0.types.getD ((p0.funcs.getD p1.toNat default).type_).toNat default).params++(p0.funcs.getD p1.toNat default).locals)] (a_ (Nat.le_refl ((p0.types.getD ((p0.funcs.getD p1.toNat default).type_).toNat default).params++(p0.funcs.getD p1.toNat default).locals).length) (a_ (dfl (eI .u8) (zcp .u8) ((p0.types.getD ((p0.funcs.getD p1.toNat default).type_).toNat default).params++(p0.funcs.getD p1.toNat default).locals)) t_)) (by kernel_rfl) (by kernel_rfl) ?_
  refine AW2.wk (zam [1,2,6,7] [] [.k 2,.k 6] t_ (by kernel_rfl):Wk _ ⟨[(1,.d (.int .i64 p1)),(2,.p 2 0),(6,.p 6 0),(7,.d (sV (eI .u8) ((p0.types.getD ((p0.funcs.getD p1.toNat default).type_).toNat default).params++(p0.funcs.getD p1.toNat default).locals)))],[(2,.st false (eD (eMdl p0))),(6,.st false (eD (eTyp (p0.types.getD ((p0.funcs.getD p1.toNat default).type_).toNat default))))]⟩) ?_
  obtain ⟨h10,H⟩:=zad H
  obtain ⟨x11,hx12,H⟩:=bind_some H
  refine r_ [.sb ([(p0.types.getD ((p0.funcs.getD p1.toNat default).type_).toNat default).result]:List Int).length (fl (eI .u8) ([(p0.types.getD ((p0.funcs.getD p1.toNat default).type_).toNat default).result]:List Int)),.r (.agg (eSt8 x11)),.k 8] [6,8] [] [.k 6,.k 8] ⟨[(6,.p 6 0),(8,.p 8 0)],[(6,.st false (eD (eTyp (p0.types.getD ((p0.funcs.getD p1.toNat default).type_).toNat default)))),(8,.st false (eD (eSt8 x11)))]⟩ (a_ (a_ (litF (eI .u8) ([(p0.types.getD ((p0.funcs.getD p1.toNat default).type_).toNat default).result]:List Int)) (a_ h10 (a_ (zyQ K (Env8.mk p0 ((p0.types.getD ((p0.funcs.getD p1.toNat default).type_).toNat default).result) ((p0.types.getD ((p0.funcs.getD p1.toNat default).type_).toNat default).params++(p0.funcs.getD p1.toNat default).locals) ([(p0.types.getD ((p0.funcs.getD p1.toNat default).type_).toNat default).result]:List Int)) (St8.mk ([]:List Int) 0 false false 0 true) ((p0.funcs.getD p1.toNat default).body) x11 hx12) t_))) t_) ?_
  refine AW2.seq ?_
  obtain ⟨x13,hx14,H⟩:=bind_some H
  refine r_ [.r (.tup [.agg (eSt8 x13.1),.int .u8 x13.2])] [8] [] [.k 8] ⟨[(8,.p 8 0)],[(8,.st false (eD (eSt8 x13.1)))]⟩ (a_ (a_ (zaS x11 ((p0.types.getD ((p0.funcs.getD p1.toNat default).type_).toNat default).result) x13 hx14) t_) t_) ?_
  refine AW2.seq ?_
  refine AW2.seq ?_
  refine AW2.reg [] rfl (YW.to ⟨[(8,.p 8 0),(88,.d (.bool ((!x13.1.ok)||(decide ((x13.1.l.length:Int)>(0:Int))))))],[(8,.st false (eD (eSt8 x13.1)))]⟩ ?qh15 ?h15)
  case h15 => 
   rcases bT (!x13.1.ok) with hc1 | hc1
   ·exact YW.fin [(83,true)] [] [8,88] [(88,.d (.bool ((!x13.1.ok)||(decide ((x13.1.l.length:Int)>(0:Int))))))] [.k 8] _ (a_ (a_ hc1 (a_ hc1 (a_ hc1 (a_ hc1 (a_ hc1 t_))))) (a_ (ovB (orT (b:=(decide ((x13.1.l.length:Int)>(0:Int)))) hc1)) t_)) (by kernel_rfl) rfl
   ·exact YW.fin [(83,false)] [] [8,88] [(88,.d (.bool ((!x13.1.ok)||(decide ((x13.1.l.length:Int)>(0:Int))))))] [.k 8] _ (a_ (a_ hc1 (a_ hc1 (a_ hc1 (a_ hc1 (a_ hc1 t_))))) (a_ (ovB (Eq.trans (orF (b:=(decide ((x13.1.l.length:Int)>(0:Int)))) hc1) (Eq.refl (decide ((x13.1.l.length:Int)>(0:Int)))))) t_)) (by kernel_rfl) rfl
  refine AW2.cond (b:=((!x13.1.ok)||(decide ((x13.1.l.length:Int)>(0:Int))))) rfl (fun hc => ?_) (fun hc => ?_)
  ·replace H:=zae H hc
   refine AW2.seq ?_
   refine r_ [] [4,5] [] [] ⟨[(4,.d (.int .i64 7)),(5,.d (.int .i64 0))],[]⟩ (a_ t_ t_) ?_
   refine AW2.ret ?_
   have H:=Option.some.inj H
   subst H
   exact retP_mk2 t_ (by kernel_rfl)
  ·replace H:=zaf H hc
   refine AW2.skip ?_
   refine AW2.seq ?_
   refine r_ [] [4,5] [] [] ⟨[(4,.d (.int .i64 0)),(5,.d (.int .i64 x13.1.most))],[]⟩ (a_ t_ t_) ?_
   refine AW2.ret ?_
   have H:=Option.some.inj H
   subst H
   exact retP_mk2 t_ (by kernel_rfl)
def zdL (K:Nat) (p0:Mdl) (p1:Int):Option (Int×Option Int):=((zdp K p0 p1).bind fun x1 => (if (!x1.2.isNone)=true then some (0,x1.2) else ((x1.1).bind fun x3 => some (x3.most,none))))
theorem zwj (K:Nat) (p0:Mdl) (p1:Int) (r:Int×Option Int) (H:zdL K p0 p1=some r):CF E 7 [.agg (eMdl p0),.int .i64 p1] (.tup [.int .i64 r.1,.err 45 r.2]):=by
 refine zbi (A:=zhk) zkc rfl fun fr => ?_
 unfold zdL at H
 refine AW2.seq ?_
 refine r_ [.k 2] [1,2] [] [.k 2] ⟨[(1,.d (.int .i64 p1)),(2,.p 2 0)],[(2,.st false (eD (eMdl p0)))]⟩ (a_ t_ t_) ?_
 refine AW2.seq ?_
 obtain ⟨x1,hx2,H⟩:=bind_some H
 refine r_ [.r (.tup [.pt (x1.1.map eChecker),.err 45 x1.2])] [6,7] [] [] ⟨[(6,.d (.pt (x1.1.map eChecker))),(7,.d (.err 45 x1.2))],[]⟩ (a_ (a_ (zmD K p0 p1 x1 hx2) t_) t_) ?_
 refine AW2.seq ?_
 refine AW2.seq ?_
 refine r_ [] [6,7,15] [] [] ⟨[(6,.d (.pt (x1.1.map eChecker))),(7,.d (.err 45 x1.2)),(15,.d (.bool (!x1.2.isNone)))],[]⟩ (a_ t_ t_) ?_
 refine AW2.cond (b:=(!x1.2.isNone)) rfl (fun hc => ?_) (fun hc => ?_)
 ·replace H:=zae H hc
  refine AW2.seq ?_
  refine r_ [] [4,5] [] [] ⟨[(4,.d (.int .i64 0)),(5,.d (.err 45 x1.2))],[]⟩ (a_ t_ t_) ?_
  refine AW2.ret ?_
  have H:=Option.some.inj H
  subst H
  exact retP_mk2 t_ (by kernel_rfl)
 ·replace H:=zaf H hc
  refine AW2.skip ?_
  refine AW2.seq ?_
  obtain ⟨x3,hx4,H⟩:=bind_some H
  refine r_ [.e (eChecker x3)] [4,5] [] [] ⟨[(4,.d (.int .i64 x3.most)),(5,.d .nili)],[]⟩ (a_ (a_ (optS eChecker hx4) t_) t_) ?_
  refine AW2.ret ?_
  have H:=Option.some.inj H
  subst H
  exact retP_mk2 t_ (by kernel_rfl)
def zeE (p0:List Int) (p1:Int) (p2:List Instr):Option (Mdl):=some (Mdl.mk ([(Typ.mk p0 p1),(Typ.mk ([127]:List Int) 126),(Typ.mk ([]:List Int) 0)]:List Typ) ([(Fnc.mk 0 ([127,126]:List Int) p2),(Fnc.mk 1 ([]:List Int) ([(Instr.mk 66 0 0 0 0 ([]:List Instr) ([]:List Instr) ([]:List Int))]:List Instr)),(Fnc.mk 2 ([]:List Int) ([]:List Instr))]:List Fnc) ([(Lim.mk 4 false 0)]:List Lim) ([(Lim.mk 1 false 0)]:List Lim) ([(Glo.mk 127 true (Instr.mk 65 0 0 0 0 ([]:List Instr) ([]:List Instr) ([]:List Int))),(Glo.mk 126 false (Instr.mk 66 0 0 0 0 ([]:List Instr) ([]:List Instr) ([]:List Int)))]:List Glo) ([]:List Xpo) ([]:List Ele) ([]:List Dat))
theorem zxT (p0:List Int) (p1:Int) (p2:List Instr) (r:Mdl) (H:zeE p0 p1 p2=some r):CF E 11 [sV (eI .u8) p0,.int .u8 p1,sVI p2] (.agg (eMdl r)):=by
 refine zbi (A:=znm) zwh rfl fun fr => ?_
 unfold zeE at H
 refine AW2.seq ?_
 refine r_ [.k 6] [0,1,2,6] [] [.k 6] ⟨[(0,.d (sV (eI .u8) p0)),(1,.d (.int .u8 p1)),(2,.d (sVI p2)),(6,.p 6 0)],[(6,.st false [.d .nils,.d .nils,.d .nils,.d .nils,.d .nils,.d .nils,.d .nils,.d .nils])]⟩ (a_ t_ t_) ?_
 refine AW2.seq ?_
 refine r_ [.k 7] [0,1,2,6,7] [] [.k 6,.k 7] ⟨[(0,.d (sV (eI .u8) p0)),(1,.d (.int .u8 p1)),(2,.d (sVI p2)),(6,.p 6 0),(7,.p 7 0)],[(6,.st false [.d .nils,.d .nils,.d .nils,.d .nils,.d .nils,.d .nils,.d .nils,.d .nils]),(7,.st false [.d (.int .u8 65),.d (.int .i64 0),.d (.int .u32 0),.d (.int .u32 0),.d (.int .u8 0),.d .nils,.d .nils,.d .nils])]⟩ (a_ t_ t_) ?_
 refine AW2.seq ?_
 refine r_ [.k 8] [0,1,2,6,7,8] [] [.k 6,.k 7,.k 8] ⟨[(0,.d (sV (eI .u8) p0)),(1,.d (.int .u8 p1)),(2,.d (sVI p2)),(6,.p 6 0),(7,.p 7 0),(8,.p 8 0)],[(6,.st false [.d .nils,.d .nils,.d .nils,.d .nils,.d .nils,.d .nils,.d .nils,.d .nils]),(7,.st false [.d (.int .u8 65),.d (.int .i64 0),.d (.int .u32 0),.d (.int .u32 0),.d (.int .u8 0),.d .nils,.d .nils,.d .nils]),(8,.st false [.d (.int .u8 66),.d (.int .i64 0),.d (.int .u32 0),.d (.int .u32 0),.d (.int .u8 0),.d .nils,.d .nils,.d .nils])]⟩ (a_ t_ t_) ?_
 refine AW2.seq ?_
 refine r_ [.sb ([127]:List Int).length (fl (eI .u8) ([127]:List Int)),.sb ([(Typ.mk p0 p1),(Typ.mk ([127]:List Int) 126),(Typ.mk ([]:List Int) 0)]:List Typ).length (fl eTyp ([(Typ.mk p0 p1),(Typ.mk ([127]:List Int) 126),(Typ.mk ([]:List Int) 0)]:List Typ)),.sb ([127,126]:List Int).length (fl (eI .u8) ([127,126]:List Int)),.sb ([(Instr.mk 66 0 0 0 0 ([]:List Instr) ([]:List Instr) ([]:List Int))]:List Instr).length (flI ([(Instr.mk 66 0 0 0 0 ([]:List Instr) ([]:List Instr) ([]:List Int))]:List Instr)),.sb ([(Fnc.mk 0 ([127,126]:List Int) p2),(Fnc.mk 1 ([]:List Int) ([(Instr.mk 66 0 0 0 0 ([]:List Instr) ([]:List Instr) ([]:List Int))]:List Instr)),(Fnc.mk 2 ([]:List Int) ([]:List Instr))]:List Fnc).length (fl eFnc ([(Fnc.mk 0 ([127,126]:List Int) p2),(Fnc.mk 1 ([]:List Int) ([(Instr.mk 66 0 0 0 0 ([]:List Instr) ([]:List Instr) ([]:List Int))]:List Instr)),(Fnc.mk 2 ([]:List Int) ([]:List Instr))]:List Fnc)),.sb ([(Lim.mk 4 false 0)]:List Lim).length (fl eLim ([(Lim.mk 4 false 0)]:List Lim)),.sb ([(Lim.mk 1 false 0)]:List Lim).length (fl eLim ([(Lim.mk 1 false 0)]:List Lim)),.sb ([(Glo.mk 127 true (Instr.mk 65 0 0 0 0 ([]:List Instr) ([]:List Instr) ([]:List Int))),(Glo.mk 126 false (Instr.mk 66 0 0 0 0 ([]:List Instr) ([]:List Instr) ([]:List Int)))]:List Glo).length (fl eGlo ([(Glo.mk 127 true (Instr.mk 65 0 0 0 0 ([]:List Instr) ([]:List Instr) ([]:List Int))),(Glo.mk 126 false (Instr.mk 66 0 0 0 0 ([]:List Instr) ([]:List Instr) ([]:List Int)))]:List Glo))] [6] [] [.k 6] ⟨[(6,.p 6 0)],[(6,.st false [.d (sV eTyp ([(Typ.mk p0 p1),(Typ.mk ([127]:List Int) 126),(Typ.mk ([]:List Int) 0)]:List Typ)),.d (sV eFnc ([(Fnc.mk 0 ([127,126]:List Int) p2),(Fnc.mk 1 ([]:List Int) ([(Instr.mk 66 0 0 0 0 ([]:List Instr) ([]:List Instr) ([]:List Int))]:List Instr)),(Fnc.mk 2 ([]:List Int) ([]:List Instr))]:List Fnc)),.d (sV eLim ([(Lim.mk 4 false 0)]:List Lim)),.d (sV eLim ([(Lim.mk 1 false 0)]:List Lim)),.d (sV eGlo ([(Glo.mk 127 true (Instr.mk 65 0 0 0 0 ([]:List Instr) ([]:List Instr) ([]:List Int))),(Glo.mk 126 false (Instr.mk 66 0 0 0 0 ([]:List Instr) ([]:List Instr) ([]:List Int)))]:List Glo)),.d .nils,.d .nils,.d .nils])]⟩ (a_ (a_ (litF (eI .u8) ([127]:List Int)) (a_ (litF eTyp ([(Typ.mk p0 p1),(Typ.mk ([127]:List Int) 126),(Typ.mk ([]:List Int) 0)]:List Typ)) (a_ (litF (eI .u8) ([127,126]:List Int)) (a_ (litI ([(Instr.mk 66 0 0 0 0 ([]:List Instr) ([]:List Instr) ([]:List Int))]:List Instr)) (a_ (litF eFnc ([(Fnc.mk 0 ([127,126]:List Int) p2),(Fnc.mk 1 ([]:List Int) ([(Instr.mk 66 0 0 0 0 ([]:List Instr) ([]:List Instr) ([]:List Int))]:List Instr)),(Fnc.mk 2 ([]:List Int) ([]:List Instr))]:List Fnc)) (a_ (litF eLim ([(Lim.mk 4 false 0)]:List Lim)) (a_ (litF eLim ([(Lim.mk 1 false 0)]:List Lim)) (a_ (litF eGlo ([(Glo.mk 127 true (Instr.mk 65 0 0 0 0 ([]:List Instr) ([]:List Instr) ([]:List Int))),(Glo.mk 126 false (Instr.mk 66 0 0 0 0 ([]:List Instr) ([]:List Instr) ([]:List Int)))]:List Glo)) t_)))))))) t_) ?_
 refine AW2.ret ?_
 have H:=Option.some.inj H
 subst H
 exact retP_mk2 t_ (by kernel_rfl)
def zct (K:Nat) (p0:List Int) (p1:Int) (p2:List Instr):Option (Bool):=((zeE p0 p1 p2).bind fun x1 => ((zcl K x1).bind fun x3 => (if x3=true then ((zka).bind fun x5 => some x5) else ((zbY K x1).bind fun x7 => ((zdL K x7 0).bind fun x9 => ((zeq K x1 0).bind fun x11 => ((zio x9.2).bind fun x13 => (if (x13==x11.1)=true then (if (x9.1==x11.2)=true then ((zeW K x7 0).bind fun x15 => ((zio x15).bind fun x17 => (if (x17==x11.1)=true then ((zka).bind fun x19 => some x19) else some false))) else some false) else some false).bind (fun j21 => some j21))))))))
theorem zlW (K:Nat) (p0:List Int) (p1:Int) (p2:List Instr) (r:Bool) (H:zct K p0 p1 p2=some r):CF E 10 [sV (eI .u8) p0,.int .u8 p1,sVI p2] (.bool r):=by
 refine zbi (A:=zgd) zkY rfl fun fr => ?_
 unfold zct at H
 refine AW2.seq ?_
 refine r_ [] [0,1,2] [] [] ⟨[(0,.d (sV (eI .u8) p0)),(1,.d (.int .u8 p1)),(2,.d (sVI p2))],[]⟩ (a_ t_ t_) ?_
 refine AW2.seq ?_
 obtain ⟨x1,hx2,H⟩:=bind_some H
 refine r_ [.r (.agg (eMdl x1)),.k 7] [7] [] [.k 7] ⟨[(7,.p 7 0)],[(7,.st false (eD (eMdl x1)))]⟩ (a_ (a_ (zxT p0 p1 p2 x1 hx2) t_) t_) ?_
 refine AW2.seq ?_
 refine AW2.seq ?_
 obtain ⟨x3,hx4,H⟩:=bind_some H
 refine r_ [.r (.bool x3)] [7,18] [] [.k 7] ⟨[(7,.p 7 0),(18,.d (.bool x3))],[(7,.st false (eD (eMdl x1)))]⟩ (a_ (a_ (znB K x1 x3 hx4) t_) t_) ?_
 refine AW2.cond (b:=x3) rfl (fun hc => ?_) (fun hc => ?_)
 ·replace H:=zae H hc
  refine AW2.seq ?_
  obtain ⟨x5,hx6,H⟩:=bind_some H
  refine r_ [.r (.bool x5)] [6] [] [] ⟨[(6,.d (.bool x5))],[]⟩ (a_ (a_ (zpx x5 hx6) t_) t_) ?_
  refine AW2.ret ?_
  have H:=Option.some.inj H
  subst H
  exact retP_mk2 t_ (by kernel_rfl)
 ·replace H:=zaf H hc
  refine AW2.skip ?_
  refine AW2.seq ?_
  obtain ⟨x7,hx8,H⟩:=bind_some H
  refine r_ [.r (.agg (eMdl x7)),.k 8] [7,8] [] [.k 7,.k 8] ⟨[(7,.p 7 0),(8,.p 8 0)],[(7,.st false (eD (eMdl x1))),(8,.st false (eD (eMdl x7)))]⟩ (a_ (a_ (zmF K x1 x7 hx8) t_) t_) ?_
  refine AW2.seq ?_
  obtain ⟨x9,hx10,H⟩:=bind_some H
  refine r_ [.r (.tup [.int .i64 x9.1,.err 45 x9.2])] [7,8,9,10] [] [.k 7,.k 8] ⟨[(7,.p 7 0),(8,.p 8 0),(9,.d (.int .i64 x9.1)),(10,.d (.err 45 x9.2))],[(7,.st false (eD (eMdl x1))),(8,.st false (eD (eMdl x7)))]⟩ (a_ (a_ (zwj K x7 0 x9 hx10) t_) t_) ?_
  refine AW2.seq ?_
  obtain ⟨x11,hx12,H⟩:=bind_some H
  refine r_ [.r (.tup [.int .i64 x11.1,.int .i64 x11.2])] [8,9,10,11,12] [] [.k 8] ⟨[(8,.p 8 0),(9,.d (.int .i64 x9.1)),(10,.d (.err 45 x9.2)),(11,.d (.int .i64 x11.1)),(12,.d (.int .i64 x11.2))],[(8,.st false (eD (eMdl x7)))]⟩ (a_ (a_ (zyR K x1 0 x11 hx12) t_) t_) ?_
  refine AW2.seq ?_
  obtain ⟨x13,hx14,H⟩:=bind_some H
  obtain ⟨j21,H23,H⟩:=bind_some H
  refine AW2.reg [] rfl (YW.to ⟨[(6,.d (.bool j21))],[]⟩ ?qh24 ?h24)
  case h24 => 
   have H:=H23
   rcases bT (x13==x11.1) with hc1 | hc1
   ·replace H:=zae H hc1
    rcases bT (x9.1==x11.2) with hc2 | hc2
    ·replace H:=zae H hc2
     obtain ⟨x15,hx16,H⟩:=bind_some H
     obtain ⟨x17,hx18,H⟩:=bind_some H
     rcases bT (x17==x11.1) with hc3 | hc3
     ·replace H:=zae H hc3
      obtain ⟨x19,hx20,H⟩:=bind_some H
      have H:=Option.some.inj H
      subst H
      exact YW.fin [(36,true),(41,true),(48,true)] [.r (.int .i64 x13),.r (.err 45 x15),.r (.int .i64 x17),.r (.bool x19)] [6] [] [] _ (a_ (a_ (zeU x9.2 x13 hx14) (a_ hc1 (a_ hc1 (a_ hc1 (a_ hc1 (a_ hc2 (a_ hc2 (a_ (zpu K x7 0 x15 hx16) (a_ hc2 (a_ (zeU x15 x17 hx18) (a_ hc2 (a_ hc2 (a_ hc2 (a_ hc3 (a_ (zpx x19 hx20) (a_ hc3 t_)))))))))))))))) t_) (by kernel_rfl) rfl
     ·replace H:=zaf H hc3
      have H:=Option.some.inj H
      subst H
      exact YW.fin [(36,true),(41,true),(48,false)] [.r (.int .i64 x13),.r (.err 45 x15),.r (.int .i64 x17)] [6] [] [] _ (a_ (a_ (zeU x9.2 x13 hx14) (a_ hc1 (a_ hc1 (a_ hc1 (a_ hc1 (a_ hc2 (a_ hc2 (a_ (zpu K x7 0 x15 hx16) (a_ hc2 (a_ (zeU x15 x17 hx18) (a_ hc2 (a_ hc2 (a_ hc2 (a_ hc3 (a_ hc3 t_))))))))))))))) t_) (by kernel_rfl) rfl
    ·replace H:=zaf H hc2
     have H:=Option.some.inj H
     subst H
     exact YW.fin [(36,true),(41,false),(48,false)] [.r (.int .i64 x13)] [6] [] [] _ (a_ (a_ (zeU x9.2 x13 hx14) (a_ hc1 (a_ hc1 (a_ hc1 (a_ hc1 (a_ hc2 (a_ hc2 (a_ hc2 (a_ hc2 (a_ hc2 (a_ hc2 (a_ (Eq.refl false) (a_ (Eq.refl false) t_))))))))))))) t_) (by kernel_rfl) rfl
   ·replace H:=zaf H hc1
    have H:=Option.some.inj H
    subst H
    exact YW.fin [(36,false),(41,false),(48,false)] [.r (.int .i64 x13)] [6] [] [] _ (a_ (a_ (zeU x9.2 x13 hx14) (a_ hc1 (a_ hc1 (a_ hc1 (a_ hc1 (a_ (Eq.refl false) (a_ (Eq.refl false) (a_ (Eq.refl false) (a_ (Eq.refl false) (a_ (Eq.refl false) (a_ (Eq.refl false) (a_ (Eq.refl false) (a_ (Eq.refl false) t_))))))))))))) t_) (by kernel_rfl) rfl
  refine AW2.ret ?_
  have H:=Option.some.inj H
  subst H
  exact retP_mk2 t_ (by kernel_rfl)
end Go.Proofs.YtablleokoifolaaGreatDoor
set_option linter.unusedVariables false
set_option linter.unusedSimpArgs false
set_option maxRecDepth 100000
namespace Go.Proofs.YtablleokoifolaaGreatDoor
open Go
theorem wI_nat (i:Nat) (h:i<140737488355328):wI ((i:Int)+1)=((i+1:Nat):Int):=by
 rw [wI_small (by omega) (by omega)]; omega
theorem takeS {α:Type} [Inhabited α] (l:List α) (i:Nat) (h:i<l.length):l.take i++[l.getD (i:Int).toNat default]=l.take (i+1):=by
 rw [Int.toNat_natCast,List.take_add_one]
 simp [List.getD_eq_getElem?_getD,h]
theorem takeL' {α:Type} (l:List α) (i:Nat) (h:i≤l.length) (h':¬ i<l.length):l.take i=l:=by
 have:i=l.length:=by omega
 subst this; exact List.take_length
theorem dltT {a b:Nat} (h:a<b):decide ((a:Int)<(b:Int))=true:=decide_eq_true (by omega)
theorem dltF {a b:Nat} (h:¬ a<b):¬ decide ((a:Int)<(b:Int))=true:=fun e => by have:=of_decide_eq_true e; omega
theorem getD_mem {α:Type} [Inhabited α] (l:List α) (i:Nat) (h:i<l.length):l.getD (i:Int).toNat default∈l:=by
 rw [Int.toNat_natCast,List.getD_eq_getElem?_getD,List.getElem?_eq_getElem h]
 exact List.getElem_mem h
theorem tlen {α:Type} (l:List α) (i:Nat):(l.take i).length≤i:=by simp; omega
theorem zzm (l:List Int) (hl:l.length<1000000000):∀ k (i:Nat),i≤l.length→l.length - i<k→zbV k l (l.take i) (i:Int)=some l:=by
 intro k
 induction k with
 | zero => intro i _ h; omega
 | succ k ih => 
  intro i h1 h2
  have:=tlen l i
  simp only [zbV]
  by_cases h:i<l.length
  ·rw [if_pos (dltT h),zaC (by omega),zaC (by omega),takeS l i h,wI_nat i (by omega)]
   exact ih (i+1) h (by omega)
  ·rw [if_neg (dltF h),takeL' l i h1 h]
theorem zzO (K:Nat) (l:List Int) (hl:l.length<1000000000) (hK:l.length<K):zdq K l=some l:=by
 unfold zdq
 have:=zzm l hl K 0 (Nat.zero_le _) (by omega)
 simp only [List.take_zero] at this
 rw [show (0:Int)=((0:Nat):Int) from rfl,this]; rfl
mutual
def wtI:Instr→Nat
 | .mk _ _ _ _ _ b e _ => 3+wtL b+wtL e
def wtL:List Instr→Nat
 | [] => 1
 | x :: l => wtI x+wtL l
end
theorem wtI_eq (x:Instr):wtI x=3+wtL x.body+wtL x.els:=by cases x; simp only [wtI,Instr.body,Instr.els]
theorem wtL_pos (l:List Instr):1≤wtL l∧l.length<wtL l:=by
 induction l with
 | nil => simp [wtL]
 | cons x l ih => simp only [wtL,List.length_cons,wtI_eq]; omega
theorem wtL_mem {l:List Instr} {x:Instr} (h:x∈l):wtI x+1≤wtL l:=by
 induction l with
 | nil => cases h
 | cons y l ih => 
  simp only [wtL]
  rcases List.mem_cons.1 h with rfl | h
  ·have:=(wtL_pos l).1; omega
  ·have:=ih h; omega
theorem zAX:∀ (K:Nat) (l:List Instr),wtL l<K→wtL l<1000000000→zbh K l=some l:=by
 intro K
 induction K with
 | zero => intro l h; omega
 | succ k ih => 
  intro l h hs
  have hw:=wtL_pos l
  simp only [zbh]
  have key:∀ (q i:Nat),i≤l.length→l.length - i<q→lpN q (fun (rec6:(List Instr)×Int→Option (List Instr)) v => match v with | (a4,a5) => (if (decide (a5<(l.length:Int)))=true then gd (0≤a5∧a5<(l.length:Int)) ((zbh k ((l.getD a5.toNat default).body)).bind fun x8 => ((zbh k ((l.getD a5.toNat default).els)).bind fun x10 => gd ((a4.length+1) * 104≤140737488355328) (rec6 ((a4++([(Instr.mk ((l.getD a5.toNat default).op) ((l.getD a5.toNat default).n) ((l.getD a5.toNat default).align) ((l.getD a5.toNat default).offset) ((l.getD a5.toNat default).result) x8 x10 ((l.getD a5.toNat default).labels))]:List Instr)),(wI (a5+1)))))) else some a4)) (l.take i,(i:Int))=some l:=by
   intro q
   induction q with
   | zero => intro i _ h; omega
   | succ q ihq => 
    intro i h1 h2
    have:=tlen l i
    simp only [lpN]
    by_cases h:i<l.length
    ·have hm:=getD_mem l i h
     have hx:=wtL_mem hm
     rw [wtI_eq] at hx
     rw [if_pos (dltT h),zaC (by omega),ih _ (by omega) (by omega),Option.bind_some,ih _ (by omega) (by omega),Option.bind_some,zaC (by omega),Instr.eta,takeS l i h,wI_nat i (by omega)]
     exact ihq (i+1) h (by omega)
    ·rw [if_neg (dltF h),takeL' l i h1 h]
  have:=key k 0 (Nat.zero_le _) (by omega)
  rw [List.take_zero] at this
  exact congrArg (fun o => o.bind (fun j1 => some j1)) this
theorem zAU (K:Nat) (x:Instr) (h:wtI x+1<K) (hs:wtI x+1<1000000000):zec K x=some x:=by
 unfold zec
 have hw:wtL [x]=wtI x+1:=by simp [wtL]
 rw [zAX K [x] (by omega) (by omega)]
 rfl
structure GvOk (K:Nat) (m:Mdl):Prop where
 K0:K<1000000000
 types:m.types.length<K
 typ:∀ t∈m.types,t.params.length<K
 funcs:m.funcs.length<K
 fnc:∀ f∈m.funcs,f.locals.length<K∧wtL f.body<K
 tables:m.tables.length<K
 memories:m.memories.length<K
 globals:m.globals.length<K
 glo:∀ g∈m.globals,wtI g.init_+1<K
 exports:m.exports.length<K
 elems:m.elems.length<K
 ele:∀ e∈m.elems,wtI e.offset+1<K
 datas:m.datas.length<K
 dat:∀ d∈m.datas,wtI d.offset+1<K
theorem zCL {K:Nat} {m:Mdl} (o:GvOk K m):∀ k (i:Nat),i≤m.types.length→m.types.length - i<k→zaZ k K m (m.types.take i) (i:Int)=some m.types:=by
 intro k
 induction k with
 | zero => intro i _ h; omega
 | succ k ih => 
  intro i h1 h2
  have:=tlen m.types i; have:=o.K0; have:=o.types
  simp only [zaZ]
  by_cases h:i<m.types.length
  ·have hm:=o.typ _ (getD_mem m.types i h)
   rw [if_pos (dltT h),zaC (by omega),zzO K _ (by omega) hm,Option.bind_some,zaC (by omega),zaC (by omega)]
   rw [show ∀ t:Typ,Typ.mk t.params t.result=t from fun _ => rfl,takeS _ i h,wI_nat i (by omega)]
   exact ih (i+1) h (by omega)
  ·rw [if_neg (dltF h),takeL' _ i h1 h]
theorem zCM {K:Nat} {m:Mdl} (o:GvOk K m):∀ k (i:Nat),i≤m.funcs.length→m.funcs.length - i<k→zba k K m (m.funcs.take i) (i:Int)=some m.funcs:=by
 intro k
 induction k with
 | zero => intro i _ h; omega
 | succ k ih => 
  intro i h1 h2
  have:=tlen m.funcs i; have:=o.K0; have:=o.funcs
  simp only [zba]
  by_cases h:i<m.funcs.length
  ·have hm:=o.fnc _ (getD_mem m.funcs i h)
   rw [if_pos (dltT h),zaC (by omega),zaC (by omega),zzO K _ (by omega) hm.1,Option.bind_some,zaC (by omega),zAX K _ hm.2 (by omega),Option.bind_some,zaC (by omega)]
   rw [show ∀ t:Fnc,Fnc.mk t.type_ t.locals t.body=t from fun _ => rfl,takeS _ i h,wI_nat i (by omega)]
   exact ih (i+1) h (by omega)
  ·rw [if_neg (dltF h),takeL' _ i h1 h]
theorem zCN {K:Nat} {m:Mdl} (o:GvOk K m):∀ k (i:Nat),i≤m.tables.length→m.tables.length - i<k→zbb k m (m.tables.take i) (i:Int)=some m.tables:=by
 intro k
 induction k with
 | zero => intro i _ h; omega
 | succ k ih => 
  intro i h1 h2
  have:=tlen m.tables i; have:=o.K0; have:=o.tables
  simp only [zbb]
  by_cases h:i<m.tables.length
  ·rw [if_pos (dltT h),zaC (by omega),zaC (by omega),takeS _ i h,wI_nat i (by omega)]
   exact ih (i+1) h (by omega)
  ·rw [if_neg (dltF h),takeL' _ i h1 h]
theorem zCO {K:Nat} {m:Mdl} (o:GvOk K m):∀ k (i:Nat),i≤m.memories.length→m.memories.length - i<k→zbc k m (m.memories.take i) (i:Int)=some m.memories:=by
 intro k
 induction k with
 | zero => intro i _ h; omega
 | succ k ih => 
  intro i h1 h2
  have:=tlen m.memories i; have:=o.K0; have:=o.memories
  simp only [zbc]
  by_cases h:i<m.memories.length
  ·rw [if_pos (dltT h),zaC (by omega),zaC (by omega),takeS _ i h,wI_nat i (by omega)]
   exact ih (i+1) h (by omega)
  ·rw [if_neg (dltF h),takeL' _ i h1 h]
theorem zCP {K:Nat} {m:Mdl} (o:GvOk K m):∀ k (i:Nat),i≤m.globals.length→m.globals.length - i<k→zbd k K m (m.globals.take i) (i:Int)=some m.globals:=by
 intro k
 induction k with
 | zero => intro i _ h; omega
 | succ k ih => 
  intro i h1 h2
  have:=tlen m.globals i; have:=o.K0; have:=o.globals
  simp only [zbd]
  by_cases h:i<m.globals.length
  ·have hm:=o.glo _ (getD_mem m.globals i h)
   rw [if_pos (dltT h),zaC (by omega),zaC (by omega),zaC (by omega),zAU K _ hm (by omega),Option.bind_some,zaC (by omega)]
   rw [show ∀ t:Glo,Glo.mk t.kind t.mut_ t.init_=t from fun _ => rfl,takeS _ i h,wI_nat i (by omega)]
   exact ih (i+1) h (by omega)
  ·rw [if_neg (dltF h),takeL' _ i h1 h]
theorem zCQ {K:Nat} {m:Mdl} (o:GvOk K m):∀ k (i:Nat),i≤m.exports.length→m.exports.length - i<k→zbe k m (m.exports.take i) (i:Int)=some m.exports:=by
 intro k
 induction k with
 | zero => intro i _ h; omega
 | succ k ih => 
  intro i h1 h2
  have:=tlen m.exports i; have:=o.K0; have:=o.exports
  simp only [zbe]
  by_cases h:i<m.exports.length
  ·rw [if_pos (dltT h),zaC (by omega),zaC (by omega),takeS _ i h,wI_nat i (by omega)]
   exact ih (i+1) h (by omega)
  ·rw [if_neg (dltF h),takeL' _ i h1 h]
theorem zCR {K:Nat} {m:Mdl} (o:GvOk K m):∀ k (i:Nat),i≤m.elems.length→m.elems.length - i<k→zbf k K m (m.elems.take i) (i:Int)=some m.elems:=by
 intro k
 induction k with
 | zero => intro i _ h; omega
 | succ k ih => 
  intro i h1 h2
  have:=tlen m.elems i; have:=o.K0; have:=o.elems
  simp only [zbf]
  by_cases h:i<m.elems.length
  ·have hm:=o.ele _ (getD_mem m.elems i h)
   rw [if_pos (dltT h),zaC (by omega),zaC (by omega),zAU K _ hm (by omega),Option.bind_some,zaC (by omega),zaC (by omega)]
   rw [show ∀ t:Ele,Ele.mk t.table t.offset t.funcs=t from fun _ => rfl,takeS _ i h,wI_nat i (by omega)]
   exact ih (i+1) h (by omega)
  ·rw [if_neg (dltF h),takeL' _ i h1 h]
theorem zCS {K:Nat} {m:Mdl} (o:GvOk K m):∀ k (i:Nat),i≤m.datas.length→m.datas.length - i<k→zbg k K m (m.datas.take i) (i:Int)=some m.datas:=by
 intro k
 induction k with
 | zero => intro i _ h; omega
 | succ k ih => 
  intro i h1 h2
  have:=tlen m.datas i; have:=o.K0; have:=o.datas
  simp only [zbg]
  by_cases h:i<m.datas.length
  ·have hm:=o.dat _ (getD_mem m.datas i h)
   rw [if_pos (dltT h),zaC (by omega),zaC (by omega),zAU K _ hm (by omega),Option.bind_some,zaC (by omega),zaC (by omega)]
   rw [show ∀ t:Dat,Dat.mk t.memory t.offset t.bytes=t from fun _ => rfl,takeS _ i h,wI_nat i (by omega)]
   exact ih (i+1) h (by omega)
  ·rw [if_neg (dltF h),takeL' _ i h1 h]
theorem giveModule_id {K:Nat} {m:Mdl} (o:GvOk K m):zbY K m=some m:=by
 unfold zbY
 have h7:=zCL o K 0 (Nat.zero_le _) (by have:=o.types; omega)
 have h6:=zCM o K 0 (Nat.zero_le _) (by have:=o.funcs; omega)
 have h5:=zCN o K 0 (Nat.zero_le _) (by have:=o.tables; omega)
 have h4:=zCO o K 0 (Nat.zero_le _) (by have:=o.memories; omega)
 have h3:=zCP o K 0 (Nat.zero_le _) (by have:=o.globals; omega)
 have h2:=zCQ o K 0 (Nat.zero_le _) (by have:=o.exports; omega)
 have h1:=zCR o K 0 (Nat.zero_le _) (by have:=o.elems; omega)
 have h0:=zCS o K 0 (Nat.zero_le _) (by have:=o.datas; omega)
 simp only [List.take_zero] at h0 h1 h2 h3 h4 h5 h6 h7
 simp only [show (0:Int)=((0:Nat):Int) from rfl]
 rw [h7,Option.bind_some,h6,Option.bind_some,h5,Option.bind_some,h4,Option.bind_some,h3,Option.bind_some,h2,Option.bind_some,h1,Option.bind_some,h0]
 rfl
def stepC (k:Nat) (c:Checker) (x:Instr):Option Checker:=
 if c.bad=true then some c else if decide (x.op<(26:Int))=true then zab k c x else zai c x
theorem zBB (k:Nat) (l:List Instr) {c:Checker} (h:c.bad=true):l.foldlM (stepC k) c=some c:=by
 induction l with
 | nil => rfl
 | cons x l ih => 
  rw [List.foldlM_cons]
  have:stepC k c x=some c:=by unfold stepC; rw [if_pos h]
  rw [this]; exact ih
theorem dropS {α:Type} [Inhabited α] (l:List α) (i:Nat) (h:i<l.length):l.drop i=l.getD (i:Int).toNat default :: l.drop (i+1):=by
 rw [Int.toNat_natCast,List.drop_eq_getElem_cons h]
 simp [List.getD_eq_getElem?_getD,h]
theorem zAV (k:Nat) (c:Checker) (l:List Instr) (hk:l.length<k) (hs:l.length<1000000000):zal (k+1) c l=l.foldlM (stepC k) c:=by
 simp only [zal]
 have key:∀ (q i:Nat) (c:Checker),i≤l.length→l.length - i<q→lpN q (fun (rec5:Checker×Int→Option (Checker)) v => match v with | (a3,a4) => (if (decide (a4<(l.length:Int)))=true then gd (0≤a4∧a4<(l.length:Int)) (if a3.bad=true then some a3 else (if (decide (((l.getD a4.toNat default).op)<(26:Int)))=true then ((zab k a3 (l.getD a4.toNat default)).bind fun x7 => rec5 (x7,(wI (a4+1)))) else ((zai a3 (l.getD a4.toNat default)).bind fun x9 => rec5 (x9,(wI (a4+1)))))) else some a3)) (c,(i:Int))=(l.drop i).foldlM (stepC k) c:=by
  intro q
  induction q with
  | zero => intro i c _ h; omega
  | succ q ih => 
   intro i c h1 h2
   simp only [lpN]
   by_cases h:i<l.length
   ·rw [if_pos (dltT h),zaC (by omega),dropS l i h,List.foldlM_cons]
    by_cases hb:c.bad=true
    ·rw [if_pos hb]
     have:stepC k c (l.getD (i:Int).toNat default)=some c:=by unfold stepC; rw [if_pos hb]
     rw [this]
     exact (zBB k _ hb).symm
    ·rw [if_neg hb]
     unfold stepC
     rw [if_neg hb,wI_nat i (by omega)]
     split
     ·cases zab k c (l.getD (i:Int).toNat default) with
      | none => rfl
      | some c' => exact ih (i+1) c' h (by omega)
     ·cases zai c (l.getD (i:Int).toNat default) with
      | none => rfl
      | some c' => exact ih (i+1) c' h (by omega)
   ·rw [if_neg (dltF h),List.drop_of_length_le (by omega)]
    rfl
 exact key k 0 c (Nat.zero_le _) (by omega)
theorem w1:wI (((1:Nat):Int) - 1)=0:=by decide
def c0 (m:Mdl) (t:Typ) (ls:List Int):Checker:=Checker.mk m t ls [] [Frame.mk 0 false false] [t.result] 0 false
def scM (ps:List Int) (r:Int) (b:List Instr):Mdl:=(zeE ps r b).getD default
theorem scM_eq (ps:List Int) (r:Int) (b:List Instr):zeE ps r b=some (scM ps r b):=rfl
def F0:Frame:=Frame.mk 0 false false
def cL (m:Mdl) (t:Typ) (ls:List Int) (n:Nat) (mo:Int) (b aw:Bool):Checker:=
 Checker.mk m t ls [] (List.replicate n F0++[Frame.mk 0 aw false]) (List.replicate (n+1) 0) mo b
def wr (os:List Int) (l:List Instr):List Instr:=os.foldl (fun l o => [Instr.mk o 0 0 0 0 l [] []]) l
structure Ctx where
 m:Mdl
 t:Typ
 ls:List Int
 un:List Int
 fr:List Frame
 lb:List Int
def CC (Γ:Ctx) (l:List Int) (aw dd:Bool) (mo:Int) (bd:Bool):Checker:=
 Checker.mk Γ.m Γ.t Γ.ls (Γ.un++l) (Γ.fr++[Frame.mk (Γ.un.length:Int) aw dd]) Γ.lb mo bd
def Ctx.env (Γ:Ctx):Env8:=Env8.mk Γ.m Γ.t.result Γ.ls Γ.lb
structure Gd (Γ:Ctx) (N:Nat):Prop where
 un:Γ.un.length+N<1000000000000
 fr:Γ.fr.length<1000000000
 lb:Γ.lb.length<1000000000
theorem Gd.mono {Γ:Ctx} {N M:Nat} (g:Gd Γ N) (h:M≤N):Gd Γ M:=⟨by have:=g.un; omega,g.fr,g.lb⟩
theorem CC_fl (Γ:Ctx) (l:List Int) (aw dd:Bool) (mo:Int) (bd:Bool):(((CC Γ l aw dd mo bd).frames.length:Nat):Int)=((Γ.fr.length+1:Nat):Int):=by simp [CC]
theorem CC_top (Γ:Ctx) (l:List Int) (aw dd:Bool) (mo:Int) (bd:Bool):(CC Γ l aw dd mo bd).frames.getD (Γ.fr.length:Int).toNat default=Frame.mk (Γ.un.length:Int) aw dd:=by
 rw [Int.toNat_natCast,List.getD_eq_getElem?_getD]; simp [CC]
theorem wB (n:Nat) (h:n<1000000000000):wI (((n+1:Nat):Int) - 1)=(n:Int):=by rw [wI_small (by omega) (by omega)]; omega
def tV (l:List Int) (k:Int):Int:=if k=0 then k else match l.getLast? with | none => k | some x => if x=1 then k else x
def tL (l:List Int) (k:Int):List Int:=if k=0 then l else l.dropLast
def tB (l:List Int) (aw bd:Bool) (k:Int):Bool:=if k=0 then bd else match l.getLast? with | none => bd||!aw | some x => bd||(x!=k&&(x!=1&&k!=1))
theorem zxj (Γ:Ctx) (l:List Int) (aw dd:Bool) (mo:Int) (bd:Bool) (k:Int) (g:Gd Γ l.length) :
  zac (CC Γ l aw dd mo bd) k=some (tV l k,CC Γ (tL l k) aw dd mo (tB l aw bd k)):=by
 have hf:=g.fr; have hu:=g.un
 unfold zac
 rw [CC_fl,wB _ (by omega),zaC (by omega),CC_top]
 by_cases hk:k=0
 ·rw [if_pos (by simpa using hk)]
  simp [tV,tL,tB,hk]
 rw [if_neg (by simpa using hk)]
 rcases List.eq_nil_or_concat l with rfl | ⟨l,x,rfl⟩
 ·have e:(((CC Γ [] aw dd mo bd).stack.length:Nat):Int)=(Γ.un.length:Int):=by simp [CC]
  rw [e,if_pos (by simp)]
  simp only [tV,tL,tB,if_neg hk,List.getLast?_nil,List.dropLast_nil]
  cases bd <;> rfl
 ·simp only [List.concat_eq_append] at hu ⊢
  have e:(((CC Γ (l++[x]) aw dd mo bd).stack.length:Nat):Int)=((Γ.un.length+l.length+1:Nat):Int):=by simp [CC]; omega
  have e2:(CC Γ (l++[x]) aw dd mo bd).stack.getD ((Γ.un.length+l.length:Nat):Int).toNat default=x:=by
   rw [Int.toNat_natCast,List.getD_eq_getElem?_getD]
   simp only [CC,← List.append_assoc]
   rw [List.getElem?_append_right (by simp)]
   simp
  have e3:List.take ((Γ.un.length+l.length:Nat):Int).toNat (CC Γ (l++[x]) aw dd mo bd).stack=Γ.un++l:=by
   rw [Int.toNat_natCast]
   simp only [CC,← List.append_assoc]
   rw [List.take_append_of_le_length (by simp),← List.length_append,List.take_length]
  simp only [List.length_append,List.length_cons,List.length_nil] at hu
  rw [e,wB _ (by omega),if_neg (by simp; omega),zaC (by omega),zaC (by omega),e2,e3]
  simp only [tV,tL,tB,if_neg hk,List.getLast?_append,List.getLast?_singleton,List.dropLast_concat,Option.some_or]
  have e4:(if ((x!=k)&&((x!=(1:Int))&&(k!=(1:Int))))=true then some (Checker.mk Γ.m Γ.t Γ.ls (Γ.un++l) (Γ.fr++[Frame.mk (Γ.un.length:Int) aw dd]) Γ.lb mo true) else some (Checker.mk Γ.m Γ.t Γ.ls (Γ.un++l) (Γ.fr++[Frame.mk (Γ.un.length:Int) aw dd]) Γ.lb mo bd))=some (CC Γ l aw dd mo (bd||(x!=k&&(x!=1&&k!=1)))):=by
   cases (x!=k&&(x!=1&&k!=1)) <;> cases bd <;> rfl
  refine (congrArg (fun o => Option.bind o _) e4).trans ?_
  rw [Option.bind_some]
  by_cases hx:x=1
  ·rw [if_pos (by simpa using hx),if_pos hx]
  ·rw [if_neg (by simpa using hx),if_neg hx]
theorem zBY (Γ:Ctx) (l:List Int) (aw dd:Bool) (mo:Int) (bd:Bool) (k:Int) (g:Gd Γ l.length) :
  zah (CC Γ l aw dd mo bd) k=some (if k=0 then CC Γ l aw dd mo bd else CC Γ (l++[k]) aw dd (if (!aw&&!dd)=true then mxI mo ((Γ.un.length+l.length+1:Nat):Int) else mo) bd):=by
 have hf:=g.fr; have hu:=g.un
 unfold zah
 by_cases hk:k=0
 ·rw [if_pos (by simpa using hk),if_pos hk]
 have hs:(CC Γ l aw dd mo bd).stack.length=Γ.un.length+l.length:=by simp [CC]
 have hs2:((CC Γ l aw dd mo bd).stack++[k]).length=Γ.un.length+l.length+1:=by simp [CC]; omega
 rw [if_neg (by simpa using hk),if_neg hk,zaC (by omega),CC_fl,wB _ (by omega),zaC (by omega),CC_top,hs2]
 have e:((CC Γ l aw dd mo bd).stack++[k])=Γ.un++(l++[k]):=by simp [CC]
 rw [e]
 cases (!aw&&!dd) <;> rfl
theorem zzM (Γ:Ctx) (l:List Int) (aw dd:Bool) (mo:Int) (bd:Bool) (g:Gd Γ l.length) :
  zap (CC Γ l aw dd mo bd)=some (CC Γ [] true dd mo bd):=by
 have hf:=g.fr; have hu:=g.un
 unfold zap
 have hs:(CC Γ l aw dd mo bd).stack.length=Γ.un.length+l.length:=by simp [CC]
 rw [CC_fl,wB _ (by omega),zaC (by omega),CC_top,zaC (by rw [hs]; exact ⟨Int.le_refl 0,by simp,by simp; omega⟩)]
 simp only [CC,Int.toNat_natCast,Option.some.injEq,Checker.mk.injEq,true_and,and_true]
 refine ⟨by rw [List.take_append_of_le_length (Nat.le_refl _),List.take_length,List.append_nil],?_⟩
 rw [List.set_append_right _ _ (by simp)]
 simp
def lbV (lb:List Int) (n:Int):Int:=if 0≤n∧n<lb.length then lb.getD ((lb.length:Int) - 1 - n).toNat default else 0
def lbB (lb:List Int) (n:Int):Bool:=decide (0≤n∧n<lb.length)
theorem zzN (Γ:Ctx) (l:List Int) (aw dd:Bool) (mo:Int) (bd:Bool) (n:Int) (g:Gd Γ l.length) :
  zav (CC Γ l aw dd mo bd) n=some (lbV Γ.lb n,CC Γ l aw dd mo (bd||!lbB Γ.lb n)):=by
 have hl:=g.lb
 unfold zav
 have e1:(CC Γ l aw dd mo bd).labels=Γ.lb:=rfl
 rw [e1]
 by_cases h:0≤n∧n<Γ.lb.length
 ·rw [if_neg (by simp; omega),wI_small (x:=(Γ.lb.length:Int) - 1) (by omega) (by omega),wI_small (by omega) (by omega),zaC (by omega)]
  unfold lbV lbB
  rw [if_pos h,decide_eq_true h]
  cases bd <;> rfl
 ·rw [if_pos (by simp; omega)]
  unfold lbV lbB
  rw [if_neg h,decide_eq_false h]
  cases bd <;> rfl
def rV (l:List Int) (k:Int):Int:=if k=0 then 0 else match l.getLast? with | none => k | some x => if x=255 then k else x
def rB (l:List Int) (aw ok:Bool) (k:Int):Bool:=if k=0 then ok else match l.getLast? with | none => ok&&aw | some x => if x=255 then ok else if (k!=255&&x!=k)=true then false else ok
theorem zxp (l:List Int) (u:Int) (aw dd:Bool) (mo:Int) (ok:Bool) (k:Int) (h:l.length<1000000000000) :
  zag (St8.mk l u aw dd mo ok) k=some (St8.mk (tL l k) u aw dd mo (rB l aw ok k),rV l k):=by
 unfold zag
 by_cases hk:k=0
 ·rw [if_pos (by simpa using hk)]
  simp [rV,tL,rB,hk]
 rw [if_neg (by simpa using hk)]
 rcases List.eq_nil_or_concat l with rfl | ⟨l,x,rfl⟩
 ·rw [if_pos (by simp)]
  simp only [rV,tL,rB,if_neg hk,List.getLast?_nil,List.dropLast_nil]
  cases ok <;> rfl
 ·simp only [List.concat_eq_append] at h ⊢
  simp only [List.length_append,List.length_cons,List.length_nil] at h
  have e:(((l++[x]).length:Nat):Int)=((l.length+1:Nat):Int):=by simp
  have e2:(l++[x]).getD (l.length:Int).toNat default=x:=by
   rw [Int.toNat_natCast,List.getD_eq_getElem?_getD]; simp
  have e3:List.take (l.length:Int).toNat (l++[x])=l:=by
   rw [Int.toNat_natCast]; simp
  show (if (((l++[x]).length:Int)==(0:Int))=true then _ else gd (0≤(wI (((l++[x]).length:Int) - 1))∧(wI (((l++[x]).length:Int) - 1))<((l++[x]).length:Int)) _)=_
  rw [e,wB _ (by omega),if_neg (by simp; omega),zaC (by omega),zaC (by omega),e2,e3]
  simp only [rV,tL,rB,if_neg hk,List.getLast?_append,List.getLast?_singleton,List.dropLast_concat,Option.some_or]
  by_cases hx:x=255
  ·rw [if_pos (by simpa using hx),if_pos hx,if_pos hx]
  ·rw [if_neg (by simpa using hx),if_neg hx,if_neg hx]
   cases (k!=255&&x!=k) <;> rfl
theorem zCf (l:List Int) (u:Nat) (aw dd:Bool) (mo:Int) (ok:Bool) (k:Int) (h:u+l.length<1000000000000) :
  zaH (St8.mk l u aw dd mo ok) k=some (if k=0 then St8.mk l u aw dd mo ok else St8.mk (l++[k]) u aw dd (if (!aw&&!dd)=true then mxI mo ((u+l.length+1:Nat):Int) else mo) ok):=by
 unfold zaH
 by_cases hk:k=0
 ·rw [if_pos (by simpa using hk),if_pos hk]
 have e:wI ((u:Int)+((l++[k]).length:Int))=((u+l.length+1:Nat):Int):=by
  rw [wI_small (by simp; omega) (by simp; omega)]; simp; omega
 rw [if_neg (by simpa using hk),if_neg hk,zaC (by show l.length * 1≤_; omega),zaC (by show (l.length+1) * 1≤_; omega)]
 show ((if (!aw&&!dd)=true then some (mxI mo (wI ((u:Int)+((l++[k]).length:Int)))) else some mo).bind fun j3 => some (St8.mk (l++[k]) u aw dd j3 ok))=_
 rw [e]
 cases (!aw&&!dd) <;> rfl
def Kd (x:Int):Prop:=x=126∨x=127∨x=255
def fk (x:Int):Int:=if x=255 then 1 else x
theorem fk0 {x:Int} (h:x=0∨Kd x):fk x=0↔x=0:=by
 rcases h with rfl | rfl | rfl | rfl <;> decide
def BadV (Γ:Ctx) (N:Nat) (c:Checker):Prop:=∃ l aw dd mo,l.length≤N∧c=CC Γ l aw dd mo true
def BadR (N:Nat) (s:St8):Prop:=s.ok=false∧s.l.length≤N
def OkS (Γ:Ctx) (N:Nat) (c:Checker) (s:St8):Prop:=
 ∃ l aw dd mo,(∀ x∈l,Kd x)∧l.length≤N∧c=CC Γ (l.map fk) aw dd mo false∧s=St8.mk l Γ.un.length aw dd mo true
def Sim (Γ:Ctx) (N:Nat) (c:Checker) (s:St8):Prop:=OkS Γ N c s∨(BadV Γ N c∧BadR N s)
theorem BadV.mono {Γ:Ctx} {N M:Nat} {c:Checker} (h:BadV Γ N c) (hm:N≤M):BadV Γ M c:=by
 obtain ⟨l,aw,dd,mo,h1,h2⟩:=h; exact ⟨l,aw,dd,mo,by omega,h2⟩
theorem BadR.mono {N M:Nat} {s:St8} (h:BadR N s) (hm:N≤M):BadR M s:=⟨h.1,by have:=h.2; omega⟩
theorem Sim.mono {Γ:Ctx} {N M:Nat} {c:Checker} {s:St8} (h:Sim Γ N c s) (hm:N≤M):Sim Γ M c s:=by
 rcases h with ⟨l,aw,dd,mo,h1,h2,h3⟩ | ⟨h1,h2⟩
 ·exact .inl ⟨l,aw,dd,mo,h1,by omega,h3⟩
 ·exact .inr ⟨h1.mono hm,h2.mono hm⟩
theorem Sim.bad {Γ:Ctx} {N:Nat} {c:Checker} {s:St8} (h:Sim Γ N c s):c.bad = !s.ok:=by
 rcases h with ⟨l,aw,dd,mo,h1,h2,rfl,rfl⟩ | ⟨⟨l,aw,dd,mo,h1,rfl⟩,h2,h3⟩
 ·rfl
 ·rw [h2]; rfl
def Vk (s:St8) (v v':Int):Prop:=s.ok=true→v=fk v'∧(v'=0∨Kd v')
theorem tL_len (l:List Int) (k:Int):(tL l k).length≤l.length:=by
 unfold tL; split
 ·exact Nat.le_refl _
 ·rw [List.length_dropLast]; omega
theorem lastK {l:List Int} (h:∀ x∈l,Kd x) {x:Int} (hx:l.getLast? = some x):Kd x:=h x (List.mem_of_getLast? hx)
theorem takeB {Γ:Ctx} {N:Nat} {c:Checker} (g:Gd Γ N) (h:BadV Γ N c) (k:Int):∃ v c',zac c k=some (v,c')∧BadV Γ N c':=by
 obtain ⟨l,aw,dd,mo,h1,rfl⟩:=h
 have ht:=tL_len l k
 refine ⟨_,_,zxj Γ l aw dd mo true k (g.mono h1),tL l k,aw,dd,mo,Nat.le_trans ht h1,?_⟩
 have:tB l aw true k=true:=by
  unfold tB; split
  ·rfl
  ·split <;> rfl
 rw [this]
theorem rtakeB {N:Nat} {s:St8} (hN:N<1000000000000) (h:BadR N s) (k:Int):∃ v s',zag s k=some (s',v)∧BadR N s':=by
 obtain ⟨l,u,aw,dd,mo,ok⟩:=s
 obtain ⟨h1,h2⟩:=h
 obtain rfl:ok=false:=h1
 have ht:=tL_len l k
 have h2':l.length≤N:=h2
 refine ⟨_,_,zxp l u aw dd mo false k (by omega),?_,Nat.le_trans ht h2⟩
 show rB l aw false k=false
 unfold rB; split
 ·rfl
 ·split
  ·rfl
  ·split
   ·rfl
   ·split <;> rfl
theorem zbN {Γ:Ctx} {N:Nat} {c:Checker} {s:St8} (g:Gd Γ N) (h:Sim Γ N c s) {k k':Int} (hk:Vk s k k') :
  ∃ v c' v' s',zac c k=some (v,c')∧zag s k'=some (s',v')∧Sim Γ N c' s'∧Vk s' v v':=by
 have hN:N<1000000000000:=by have:=g.un; omega
 rcases h with ⟨l,aw,dd,mo,h1,h2,rfl,rfl⟩ | ⟨h1,h2⟩
 ·obtain ⟨rfl,hk'⟩:=hk rfl
  refine ⟨_,_,_,_,zxj Γ (l.map fk) aw dd mo false (fk k') (g.mono (by simpa using h2)),zxp l _ aw dd mo true k' (by omega),?_⟩
  have e1:tL (l.map fk) (fk k')=(tL l k').map fk:=by
   unfold tL
   by_cases h0:k'=0
   ·rw [if_pos h0,if_pos ((fk0 hk').2 h0)]
   ·rw [if_neg h0,if_neg (fun h => h0 ((fk0 hk').1 h)),List.map_dropLast]
  have hs:∀ x∈tL l k',Kd x:=by
   unfold tL; split
   ·exact h1
   ·exact fun x hx => h1 x (List.dropLast_subset l hx)
  have e2:tB (l.map fk) aw false (fk k') = !rB l aw true k':=by
   unfold tB rB
   by_cases h0:k'=0
   ·rw [if_pos h0,if_pos ((fk0 hk').2 h0)]; rfl
   ·rw [if_neg h0,if_neg (fun h => h0 ((fk0 hk').1 h)),List.getLast?_map]
    cases hl:l.getLast? with
    | none => cases aw <;> rfl
    | some x => 
     have kx:=lastK h1 hl
     rcases hk' with h | h
     ·exact absurd h h0
     rcases kx with rfl | rfl | rfl <;> rcases h with rfl | rfl | rfl <;> rfl
  have e3:tV (l.map fk) (fk k')=fk (rV l k')∧(rV l k'=0∨Kd (rV l k')):=by
   unfold tV rV
   by_cases h0:k'=0
   ·rw [if_pos h0,if_pos ((fk0 hk').2 h0),h0]; exact ⟨rfl,.inl rfl⟩
   ·rw [if_neg h0,if_neg (fun h => h0 ((fk0 hk').1 h)),List.getLast?_map]
    cases hl:l.getLast? with
    | none => exact ⟨rfl,hk'⟩
    | some x => 
     have kx:=lastK h1 hl
     rcases hk' with h | h
     ·exact absurd h h0
     rcases kx with rfl | rfl | rfl
     ·exact ⟨rfl,.inr (.inl rfl)⟩
     ·exact ⟨rfl,.inr (.inr (.inl rfl))⟩
     ·exact ⟨rfl,.inr h⟩
  rw [e1,e2]
  have ht:=tL_len l k'
  refine ⟨?_,fun _ => e3⟩
  cases hr:rB l aw true k' with
  | true => exact .inl ⟨tL l k',aw,dd,mo,hs,by omega,rfl,rfl⟩
  | false => exact .inr ⟨⟨_,aw,dd,mo,by rw [List.length_map]; omega,rfl⟩,rfl,by show (tL l k').length≤N; omega⟩
 ·obtain ⟨v,c',e,hb⟩:=takeB g h1 k
  obtain ⟨v',s',e',hb'⟩:=rtakeB hN h2 k'
  exact ⟨v,c',v',s',e,e',.inr ⟨hb,hb'⟩,fun h => by rw [hb'.1] at h; cases h⟩
theorem layB {Γ:Ctx} {N:Nat} {c:Checker} (g:Gd Γ N) (h:BadV Γ N c) (k:Int):∃ c',zah c k=some c'∧BadV Γ (N+1) c':=by
 obtain ⟨l,aw,dd,mo,h1,rfl⟩:=h
 refine ⟨_,zBY Γ l aw dd mo true k (g.mono h1),?_⟩
 split
 ·exact ⟨_,_,_,_,Nat.le_succ_of_le h1,rfl⟩
 ·exact ⟨_,_,_,_,by simp only [List.length_append,List.length_cons,List.length_nil]; omega,rfl⟩
theorem rlayB {N:Nat} {s:St8} (hN:N<1000000000000) (h:BadR N s) (k:Int):∃ s',zaH s k=some s'∧BadR (N+1) s':=by
 obtain ⟨l,u,aw,dd,mo,ok⟩:=s
 obtain ⟨h1,h2⟩:=h
 obtain rfl:ok=false:=h1
 have h2':l.length≤N:=h2
 unfold zaH
 split
 ·exact ⟨_,rfl,rfl,Nat.le_succ_of_le h2⟩
 ·rw [zaC (by show l.length * 1≤_; omega),zaC (by show (l.length+1) * 1≤_; omega)]
  split
  ·exact ⟨_,rfl,rfl,by show (l++[k]).length≤_; rw [List.length_append]; simp; omega⟩
  ·exact ⟨_,rfl,rfl,by show (l++[k]).length≤_; rw [List.length_append]; simp; omega⟩
theorem zlQ {Γ:Ctx} {N:Nat} {c:Checker} {s:St8} (g:Gd Γ N) (h:Sim Γ N c s) {k k':Int} (hk:Vk s k k') :
  ∃ c' s',zah c k=some c'∧zaH s k'=some s'∧Sim Γ (N+1) c' s':=by
 have hN:N<1000000000000:=by have:=g.un; omega
 rcases h with ⟨l,aw,dd,mo,h1,h2,rfl,rfl⟩ | ⟨h1,h2⟩
 ·obtain ⟨rfl,hk'⟩:=hk rfl
  refine ⟨_,_,zBY Γ (l.map fk) aw dd mo false (fk k') (g.mono (by simpa using h2)),zCf l Γ.un.length aw dd mo true k' (by have:=g.un; omega),?_⟩
  by_cases h0:k'=0
  ·rw [if_pos h0,if_pos ((fk0 hk').2 h0)]
   exact .inl ⟨l,aw,dd,mo,h1,by omega,rfl,rfl⟩
  ·rw [if_neg h0,if_neg (fun h => h0 ((fk0 hk').1 h))]
   refine .inl ⟨l++[k'],aw,dd,_,fun x hx => ?_,by simp; omega,?_,rfl⟩
   ·rcases List.mem_append.1 hx with hx | hx
    ·exact h1 x hx
    ·obtain rfl:x=k':=by simpa using hx
     rcases hk' with h | h
     ·exact absurd h h0
     ·exact h
   ·rw [List.map_append,List.length_map]; rfl
 ·obtain ⟨c',e,hb⟩:=layB g h1 k
  obtain ⟨s',e',hb'⟩:=rlayB hN h2 k'
  exact ⟨c',s',e,e',.inr ⟨hb,hb'⟩⟩
theorem leaveB {Γ:Ctx} {N:Nat} {c:Checker} (g:Gd Γ N) (h:BadV Γ N c):∃ c',zap c=some c'∧BadV Γ N c':=by
 obtain ⟨l,aw,dd,mo,h1,rfl⟩:=h
 exact ⟨_,zzM Γ l aw dd mo true (g.mono h1),_,_,_,_,Nat.zero_le _,rfl⟩
theorem zmr {Γ:Ctx} {N:Nat} {c:Checker} {s:St8} (g:Gd Γ N) (h:Sim Γ N c s) :
  ∃ c' s',zap c=some c'∧zby s=some s'∧Sim Γ N c' s':=by
 rcases h with ⟨l,aw,dd,mo,h1,h2,rfl,rfl⟩ | ⟨h1,h2⟩
 ·exact ⟨_,_,zzM Γ (l.map fk) aw dd mo false (g.mono (by simpa using h2)),rfl,.inl ⟨[],true,dd,mo,(fun x hx => by cases hx),Nat.zero_le _,rfl,rfl⟩⟩
 ·obtain ⟨c',e,hb⟩:=leaveB g h1
  exact ⟨c',_,e,rfl,.inr ⟨hb,h2.1,Nat.zero_le _⟩⟩
def setB (c:Checker) (b:Bool):Checker:=Checker.mk c.m c.t c.locals c.stack c.frames c.labels c.most (c.bad||b)
def setO (s:St8) (b:Bool):St8:=St8.mk s.l s.under s.away s.dead s.most (s.ok&&b)
theorem zjV {Γ:Ctx} {N:Nat} {c:Checker} {s:St8} (h:Sim Γ N c s) (b:Bool):Sim Γ N (setB c b) (setO s (!b)):=by
 rcases h with ⟨l,aw,dd,mo,h1,h2,rfl,rfl⟩ | ⟨⟨l,aw,dd,mo,h1,rfl⟩,h2,h3⟩
 ·cases b with
  | false => exact .inl ⟨l,aw,dd,mo,h1,h2,rfl,rfl⟩
  | true => exact .inr ⟨⟨l.map fk,aw,dd,mo,by simpa using h2,rfl⟩,rfl,h2⟩
 ·refine .inr ⟨⟨l,aw,dd,mo,h1,rfl⟩,?_,h3⟩
  show (s.ok&&!b)=false
  rw [h2]; rfl
theorem askB {Γ:Ctx} {N:Nat} {c:Checker} (h:BadV Γ N c) (b:Bool):BadV Γ N (setB c b):=by
 obtain ⟨l,aw,dd,mo,h1,rfl⟩:=h
 exact ⟨l,aw,dd,mo,h1,rfl⟩
theorem Sim.toBad {Γ:Ctx} {N:Nat} {c:Checker} {s:St8} (h:Sim Γ N c s):BadV Γ N (setB c true)∧BadR N (setO s false):=by
 rcases zjV h true with ⟨l,aw,dd,mo,h1,h2,h3,h4⟩ | h
 ·have:=congrArg St8.ok h4
  simp [setO] at this
 ·exact h
theorem zms {Γ:Ctx} {N:Nat} {c:Checker} {s:St8} (g:Gd Γ N) (h:Sim Γ N c s) (hl:∀ x∈Γ.lb,x=0∨x=126∨x=127) (n:Int) :
  zav c n=some (lbV Γ.lb n,setB c (!lbB Γ.lb n))∧zbn Γ.env n=some (lbV Γ.lb n,lbB Γ.lb n)∧Vk s (lbV Γ.lb n) (lbV Γ.lb n):=by
 refine ⟨?_,?_,fun _ => ?_⟩
 ·rcases h with ⟨l,aw,dd,mo,h1,h2,rfl,rfl⟩ | ⟨⟨l,aw,dd,mo,h1,rfl⟩,h2,h3⟩
  ·exact zzN Γ _ aw dd mo false n (g.mono (by simpa using h2))
  ·exact zzN Γ _ aw dd mo true n (g.mono (by simpa using h1))
 ·have hl:=g.lb
  unfold zbn
  show (if ((decide (n<(0:Int)))||(decide (n≥(Γ.lb.length:Int))))=true then some (0,false) else gd (0≤(wI ((wI ((Γ.lb.length:Int) - 1)) - n))∧(wI ((wI ((Γ.lb.length:Int) - 1)) - n))<(Γ.lb.length:Int)) (some (Γ.lb.getD ((wI ((wI ((Γ.lb.length:Int) - 1)) - n)).toNat) default,true)))=_
  by_cases h:0≤n∧n<Γ.lb.length
  ·rw [if_neg (by simp; omega),wI_small (x:=(Γ.lb.length:Int) - 1) (by omega) (by omega),wI_small (by omega) (by omega),zaC (by omega)]
   unfold lbV lbB
   rw [if_pos h,decide_eq_true h]
  ·rw [if_pos (by simp; omega)]
   unfold lbV lbB
   rw [if_neg h,decide_eq_false h]
 ·have:lbV Γ.lb n=0∨lbV Γ.lb n=126∨lbV Γ.lb n=127:=by
   unfold lbV
   split
   ·rename_i h
    apply hl
    rw [List.getD_eq_getElem?_getD,List.getElem?_eq_getElem (by omega)]
    exact List.getElem_mem _
   ·exact .inl rfl
  rcases this with h | h | h <;> rw [h]
  ·exact ⟨rfl,.inl rfl⟩
  ·exact ⟨rfl,.inr (.inl rfl)⟩
  ·exact ⟨rfl,.inr (.inr (.inl rfl))⟩
def K2 (x:Int):Prop:=x=126∨x=127
def K3 (x:Int):Prop:=x=0∨x=126∨x=127
theorem Vk.of3 {s:St8} {x:Int} (h:K3 x):Vk s x x:=fun _ => by
 rcases h with rfl | rfl | rfl
 ·exact ⟨rfl,.inl rfl⟩
 ·exact ⟨rfl,.inr (.inl rfl)⟩
 ·exact ⟨rfl,.inr (.inr (.inl rfl))⟩
theorem Vk.of2 {s:St8} {x:Int} (h:K2 x):Vk s x x:=Vk.of3 (.inr h)
theorem Vk.any {s:St8}:Vk s 1 255:=fun _ => ⟨rfl,.inr (.inr (.inr rfl))⟩
theorem okT_CC {Γ:Ctx} {l:List Int} {aw dd:Bool} {mo:Int} {bd:Bool} (g:Gd Γ l.length):okT (CC Γ l aw dd mo bd):=by
 have hf:=g.fr; have hu:=g.un
 have e1:(CC Γ l aw dd mo bd).frames.length=Γ.fr.length+1:=by simp [CC]
 have e2:(CC Γ l aw dd mo bd).stack.length=Γ.un.length+l.length:=by simp [CC]
 have e3:(CC Γ l aw dd mo bd).frames.getD (Γ.fr.length+1 - 1) default=Frame.mk (Γ.un.length:Int) aw dd:=by
  have:=CC_top Γ l aw dd mo bd
  rw [Int.toNat_natCast] at this
  exact this
 unfold okT
 rw [e1,e2,e3]
 refine ⟨by omega,by omega,by omega,?_,?_⟩
 ·show (0:Int)≤(Γ.un.length:Int); omega
 ·show ((Γ.un.length:Nat):Int)≤_; omega
theorem BadV.ok {Γ:Ctx} {N:Nat} {c:Checker} (g:Gd Γ N) (h:BadV Γ N c):okT c:=by
 obtain ⟨l,aw,dd,mo,h1,rfl⟩:=h
 exact okT_CC (g.mono h1)
theorem Sim.okT {Γ:Ctx} {N:Nat} {c:Checker} {s:St8} (g:Gd Γ N) (h:Sim Γ N c s):okT c:=by
 rcases h with ⟨l,aw,dd,mo,h1,h2,rfl,rfl⟩ | ⟨h,_⟩
 ·exact okT_CC (g.mono (by simpa using h2))
 ·exact h.ok g
theorem takesB {Γ:Ctx} {N:Nat} (g:Gd Γ N) (ps:List Int):∀ {c:Checker},BadV Γ N c→BadV Γ N (ps.foldl takeT c):=by
 induction ps with
 | nil => intro c h; exact h
 | cons p ps ih => 
  intro c h
  obtain ⟨v,c',e,hb⟩:=takeB g h p
  have:takeT c p=c':=by unfold takeT; rw [e]; rfl
  rw [List.foldl_cons,this]
  exact ih hb
theorem callB {Γ:Ctx} {N:Nat} (g:Gd Γ N) {c:Checker} (h:BadV Γ N c) (t:Typ) (ht:t.params.length<4611686018427387904):∃ c',zau c t=some c'∧BadV Γ (N+1) c':=by
 unfold zau zbW
 rw [zaC ⟨h.ok g,ht⟩,Option.bind_some]
 obtain ⟨c',e,hb⟩:=layB g (takesB g t.params.reverse h) t.result
 rw [e]
 exact ⟨c',rfl,hb⟩
theorem zzf {Γ:Ctx} {N:Nat} (g:Gd Γ N) (t:Typ) (ht:∀ p∈t.params,K2 p) (hs:t.params.length<1000000000):∀ (i k:Nat) (c:Checker) (s:St8),i≤t.params.length→i<k→Sim Γ N c s →
  ∃ s',zck k t s ((i:Int) - 1)=some s'∧Sim Γ N ((t.params.take i).reverse.foldl takeT c) s':=by
 intro i
 induction i with
 | zero => 
  intro k c s _ hk h
  cases k with
  | zero => omega
  | succ k => exact ⟨s,rfl,h⟩
 | succ i ih => 
  intro k c s hi hk h
  cases k with
  | zero => omega
  | succ k => 
   simp only [zck]
   have e0:(((i+1:Nat):Int) - 1)=(i:Int):=by omega
   have hm:K2 (t.params.getD (i:Int).toNat default):=ht _ (getD_mem t.params i (by omega))
   rw [e0,if_pos (by simp),zaC (by omega)]
   obtain ⟨v,c',v',s',e1,e2,h',_⟩:=zbN g h (Vk.of2 hm)
   rw [e2,Option.bind_some]
   obtain ⟨s'',e3,h''⟩:=ih k c' s' (by omega) (by omega) h'
   rw [wI_small (by omega) (by omega)]
   refine ⟨s'',e3,?_⟩
   have e4:takeT c (t.params.getD (i:Int).toNat default)=c':=by unfold takeT; rw [e1]; rfl
   have e5:(t.params.take (i+1)).reverse=t.params.getD (i:Int).toNat default :: (t.params.take i).reverse:=by
    rw [← takeS t.params i (by omega),List.reverse_append]; rfl
   rw [e5,List.foldl_cons,e4]
   exact h''
def TOk (P:Nat) (t:Typ):Prop:=(∀ p∈t.params,K2 p)∧K3 t.result∧t.params.length<P
theorem zxk {Γ:Ctx} {N P K:Nat} {c:Checker} {s:St8} (g:Gd Γ N) (h:Sim Γ N c s) {t:Typ} (ht:TOk P t) (hP:P<1000000000) (hK:P<K) :
  ∃ c' s',zau c t=some c'∧zbK K s t=some s'∧Sim Γ (N+1) c' s':=by
 obtain ⟨h1,h2,h3⟩:=ht
 unfold zau zbW zbK
 rw [zaC ⟨h.okT g,by omega⟩,Option.bind_some,wI_small (by omega) (by omega)]
 obtain ⟨s',e,h'⟩:=zzf g t h1 (by omega) t.params.length K c s (Nat.le_refl _) (by omega) h
 rw [e,Option.bind_some]
 rw [List.take_length] at h'
 obtain ⟨c2,s2,e1,e2,h''⟩:=zlQ g h' (Vk.of3 h2)
 rw [e1,e2]
 exact ⟨c2,s2,rfl,rfl,h''⟩
theorem zBy {k:Nat} {c:Checker} (h:c.bad=true) (L:List Instr):zal (k+2) c L=some c:=by
 simp only [zal,lpN]
 split
 ·rename_i hl
  have hl':=of_decide_eq_true hl
  rw [zaC ⟨Int.le_refl 0,hl'⟩]
 ·rfl
theorem zAI {k:Nat} {e:Env8} {s:St8} (h:s.ok=false) (L:List Instr):zaB (k+2) e s L=some s:=by
 simp only [zaB,lpN]
 rw [h,Bool.and_false,if_neg (by decide)]
 rfl
def Ctx.sub (Γ:Ctx) (l:List Int) (aw dd:Bool) (lab:Int):Ctx:=⟨Γ.m,Γ.t,Γ.ls,Γ.un++l,Γ.fr++[Frame.mk (Γ.un.length:Int) aw dd],Γ.lb++[lab]⟩
def popC (x6:Checker) (p2:Int):Option Checker:=
 (zac x6 p2).bind fun x8 => gd (0≤(wI ((x8.2.frames.length:Int) - 1))∧(wI ((x8.2.frames.length:Int) - 1))<(x8.2.frames.length:Int)) ((if x8.2.bad=true then some (Checker.mk x8.2.m x8.2.t x8.2.locals x8.2.stack x8.2.frames x8.2.labels x8.2.most true) else some (Checker.mk x8.2.m x8.2.t x8.2.locals x8.2.stack x8.2.frames x8.2.labels x8.2.most ((x8.2.stack.length:Int)!=((x8.2.frames.getD ((wI ((x8.2.frames.length:Int) - 1)).toNat) default).height)))).bind (fun j11 => gd (0≤(0:Int)∧0≤(mnI ((x8.2.frames.getD ((wI ((x8.2.frames.length:Int) - 1)).toNat) default).height) (j11.stack.length:Int))∧(mnI ((x8.2.frames.getD ((wI ((x8.2.frames.length:Int) - 1)).toNat) default).height) (j11.stack.length:Int))≤(j11.stack.length:Int)) (gd (0≤(0:Int)∧0≤(wI ((j11.frames.length:Int) - 1))∧(wI ((j11.frames.length:Int) - 1))≤(j11.frames.length:Int)) (gd (0≤(0:Int)∧0≤(wI ((j11.labels.length:Int) - 1))∧(wI ((j11.labels.length:Int) - 1))≤(j11.labels.length:Int)) (some (Checker.mk j11.m j11.t j11.locals (List.take ((mnI ((x8.2.frames.getD ((wI ((x8.2.frames.length:Int) - 1)).toNat) default).height) (j11.stack.length:Int)).toNat) j11.stack) (List.take ((wI ((j11.frames.length:Int) - 1)).toNat) j11.frames) (List.take ((wI ((j11.labels.length:Int) - 1)).toNat) j11.labels) j11.most j11.bad))))))
theorem zzP {Γ:Ctx} {l:List Int} {aw dd:Bool} {mo:Int} {bd:Bool} (g:Gd Γ l.length) (k:Nat) (L:List Instr) (res lab:Int) :
  zaj (k+1) (CC Γ l aw dd mo bd) L res lab=(zal k (CC (Γ.sub l aw dd lab) [] false (aw||dd) mo bd) L).bind fun x6 => popC x6 res:=by
 have hf:=g.fr; have hu:=g.un; have hb:=g.lb
 simp only [zaj]
 rw [CC_fl,wB _ (by omega),zaC (by omega),CC_top]
 have e0:((CC Γ l aw dd mo bd).frames.length+1) * 16≤140737488355328:=by
  have:(CC Γ l aw dd mo bd).frames.length=Γ.fr.length+1:=by simp [CC]
  omega
 have e1:(if (Frame.mk (Γ.un.length:Int) aw dd).away=true then gd (((CC Γ l aw dd mo bd).frames.length+1) * 16≤140737488355328) (some (Checker.mk Γ.m Γ.t Γ.ls (CC Γ l aw dd mo bd).stack ((CC Γ l aw dd mo bd).frames++([(Frame.mk ((CC Γ l aw dd mo bd).stack.length:Int) false true)]:List Frame)) Γ.lb mo bd)) else gd (((CC Γ l aw dd mo bd).frames.length+1) * 16≤140737488355328) (some (Checker.mk Γ.m Γ.t Γ.ls (CC Γ l aw dd mo bd).stack ((CC Γ l aw dd mo bd).frames++([(Frame.mk ((CC Γ l aw dd mo bd).stack.length:Int) false (Frame.mk (Γ.un.length:Int) aw dd).dead)]:List Frame)) Γ.lb mo bd)))=some (Checker.mk Γ.m Γ.t Γ.ls (CC Γ l aw dd mo bd).stack ((CC Γ l aw dd mo bd).frames++([(Frame.mk ((CC Γ l aw dd mo bd).stack.length:Int) false (aw||dd))]:List Frame)) Γ.lb mo bd):=by
  rw [zaC e0,zaC e0]
  cases aw <;> rfl
 refine (congrArg (fun o => Option.bind o _) e1).trans ?_
 rw [Option.bind_some,zaC (by show (Γ.lb.length+1) * 1≤_; omega)]
 have e2:CC (Γ.sub l aw dd lab) [] false (aw||dd) mo bd=Checker.mk Γ.m Γ.t Γ.ls (CC Γ l aw dd mo bd).stack ((CC Γ l aw dd mo bd).frames++([(Frame.mk ((CC Γ l aw dd mo bd).stack.length:Int) false (aw||dd))]:List Frame)) (Γ.lb++[lab]) mo bd:=by
  simp [CC,Ctx.sub]
 rw [e2]
 rfl
theorem zAS {Γ:Ctx} {l:List Int} {aw dd:Bool} {lab:Int} {l2:List Int} {aw2 dd2:Bool} {mo2:Int} {bd2:Bool} {N:Nat} (g:Gd Γ l.length) (g2:Gd (Γ.sub l aw dd lab) l2.length) (res:Int) :
  popC (CC (Γ.sub l aw dd lab) l2 aw2 dd2 mo2 bd2) res=some (CC Γ l aw dd mo2 (tB l2 aw2 bd2 res||decide ((tL l2 res).length≠0))):=by
 have hf:=g.fr; have hu:=g.un; have hb:=g.lb
 have hf2:=g2.fr; have hu2:=g2.un; have hb2:=g2.lb
 have ht:=tL_len l2 res
 unfold popC
 rw [zxj _ _ _ _ _ _ _ g2,Option.bind_some]
 show gd (0≤(wI (((CC (Γ.sub l aw dd lab) (tL l2 res) aw2 dd2 mo2 (tB l2 aw2 bd2 res)).frames.length:Int) - 1))∧(wI (((CC (Γ.sub l aw dd lab) (tL l2 res) aw2 dd2 mo2 (tB l2 aw2 bd2 res)).frames.length:Int) - 1))<((CC (Γ.sub l aw dd lab) (tL l2 res) aw2 dd2 mo2 (tB l2 aw2 bd2 res)).frames.length:Int)) _=_
 rw [CC_fl,wB _ (by omega),zaC (by omega),CC_top]
 have hs:(CC (Γ.sub l aw dd lab) (tL l2 res) aw2 dd2 mo2 (tB l2 aw2 bd2 res)).stack.length=(Γ.sub l aw dd lab).un.length+(tL l2 res).length:=by simp [CC]
 rw [hs]
 have e1:((((Γ.sub l aw dd lab).un.length+(tL l2 res).length:Nat):Int)!=(Frame.mk ((Γ.sub l aw dd lab).un.length:Int) aw2 dd2).height)=decide ((tL l2 res).length≠0):=by
  show ((((Γ.sub l aw dd lab).un.length+(tL l2 res).length:Nat):Int)!=((Γ.sub l aw dd lab).un.length:Int))=_
  by_cases h:(tL l2 res).length=0
  ·rw [h]; simp
  ·rw [decide_eq_true h]; simp; omega
 rw [e1]
 have e2:(if tB l2 aw2 bd2 res=true then some (Checker.mk Γ.m Γ.t Γ.ls (CC (Γ.sub l aw dd lab) (tL l2 res) aw2 dd2 mo2 (tB l2 aw2 bd2 res)).stack (CC (Γ.sub l aw dd lab) (tL l2 res) aw2 dd2 mo2 (tB l2 aw2 bd2 res)).frames (Γ.lb++[lab]) mo2 true) else some (Checker.mk Γ.m Γ.t Γ.ls (CC (Γ.sub l aw dd lab) (tL l2 res) aw2 dd2 mo2 (tB l2 aw2 bd2 res)).stack (CC (Γ.sub l aw dd lab) (tL l2 res) aw2 dd2 mo2 (tB l2 aw2 bd2 res)).frames (Γ.lb++[lab]) mo2 (decide ((tL l2 res).length≠0))))=some (CC (Γ.sub l aw dd lab) (tL l2 res) aw2 dd2 mo2 (tB l2 aw2 bd2 res||decide ((tL l2 res).length≠0))):=by
  cases tB l2 aw2 bd2 res <;> rfl
 refine (congrArg (fun o => Option.bind o _) e2).trans ?_
 have hs':(CC (Γ.sub l aw dd lab) (tL l2 res) aw2 dd2 mo2 (tB l2 aw2 bd2 res||decide ((tL l2 res).length≠0))).stack.length=(Γ.sub l aw dd lab).un.length+(tL l2 res).length:=by simp [CC]
 have em:mnI (Frame.mk ((Γ.sub l aw dd lab).un.length:Int) aw2 dd2).height (((Γ.sub l aw dd lab).un.length+(tL l2 res).length:Nat):Int)=((Γ.sub l aw dd lab).un.length:Int):=by
  show mnI ((Γ.sub l aw dd lab).un.length:Int) _=_
  unfold mnI; rw [if_neg (by omega)]
 have el:(CC (Γ.sub l aw dd lab) (tL l2 res) aw2 dd2 mo2 (tB l2 aw2 bd2 res||decide ((tL l2 res).length≠0))).labels=Γ.lb++[lab]:=rfl
 rw [Option.bind_some,hs',em,zaC (by omega),CC_fl,wB _ (by omega),zaC (by omega),el]
 have ell:(((Γ.lb++[lab]).length:Nat):Int)=((Γ.lb.length+1:Nat):Int):=by simp
 rw [ell,wB _ (by omega),zaC (by omega)]
 simp only [CC,Ctx.sub,Int.toNat_natCast,Option.some.injEq,Checker.mk.injEq,true_and,and_true]
 refine ⟨?_,?_,?_⟩
 ·rw [List.take_append_of_le_length (Nat.le_refl _),List.take_length]
 ·rw [List.take_append_of_le_length (Nat.le_refl _),List.take_length]
 ·rw [List.take_append_of_le_length (Nat.le_refl _),List.take_length]
theorem Gd.sub {Γ:Ctx} {N:Nat} {l:List Int} {M:Nat} {aw dd:Bool} {lab:Int} (g:Gd Γ (l.length+M)) (h1:Γ.fr.length+1<1000000000) (h2:Γ.lb.length+1<1000000000):Gd (Γ.sub l aw dd lab) M:=
 ⟨by have:=g.un; simp only [Ctx.sub,List.length_append]; omega,by simp only [Ctx.sub,List.length_append,List.length_cons,List.length_nil]; omega,by simp only [Ctx.sub,List.length_append,List.length_cons,List.length_nil]; omega⟩
theorem innerB {Γ:Ctx} {N k:Nat} (g:Gd Γ N) (hf:Γ.fr.length+1<1000000000) (hl:Γ.lb.length+1<1000000000) {c:Checker} (h:BadV Γ N c) (L:List Instr) (res lab:Int):∃ c',zaj (k+3) c L res lab=some c'∧BadV Γ N c':=by
 obtain ⟨l,aw,dd,mo,h1,rfl⟩:=h
 have g1:Gd Γ (l.length+0):=g.mono (by omega)
 rw [zzP (g.mono h1),zBy (by rfl),Option.bind_some,zAS (N:=0) (g.mono h1) (g1.sub (N:=0) hf hl)]
 refine ⟨_,rfl,l,aw,dd,mo,h1,?_⟩
 have:tB [] false true res=true:=by unfold tB; split <;> rfl
 rw [this,Bool.true_or]
theorem zyy {Γ:Ctx} {l:List Int} {u:Int} {aw dd:Bool} {mo:Int} {ok:Bool} (hb:Γ.lb.length<1000000000) (k:Nat) (L:List Instr) (res lab:Int) :
  zaF (k+1) Γ.env (St8.mk l u aw dd mo ok) L res lab=(zaB k (Env8.mk Γ.m Γ.t.result Γ.ls (Γ.lb++[lab])) (St8.mk [] (wI (u+(l.length:Int))) false (aw||dd) mo ok) L).bind fun j7 => (zag j7 res).bind fun x8 => some (St8.mk l u aw dd x8.1.most (x8.1.ok&&decide (x8.1.l.length=0))):=by
 simp only [zaF]
 rw [zaC (by show Γ.lb.length * 1≤_; omega),zaC (by show (Γ.lb.length+1) * 1≤_; omega)]
 have e:∀ j7:St8,((zag j7 res).bind fun x8 => (if x8.1.ok=true then some ((x8.1.l.length:Int)==(0:Int)) else some false).bind (fun j10 => some (St8.mk l u aw dd x8.1.most j10)))=(zag j7 res).bind fun x8 => some (St8.mk l u aw dd x8.1.most (x8.1.ok&&decide (x8.1.l.length=0))):=by
  intro j7
  congr 1
  funext x8
  have:((x8.1.l.length:Int)==(0:Int))=decide (x8.1.l.length=0):=by
   by_cases h:x8.1.l.length=0
   ·rw [h]; rfl
   ·rw [decide_eq_false h]; simp; simpa using h
  rw [this]
  cases x8.1.ok <;> rfl
 have e2:(fun j7:St8 => ((zag j7 res).bind fun x8 => (if x8.1.ok=true then some ((x8.1.l.length:Int)==(0:Int)) else some false).bind (fun j10 => some (St8.mk l u aw dd x8.1.most j10))))=fun j7 => (zag j7 res).bind fun x8 => some (St8.mk l u aw dd x8.1.most (x8.1.ok&&decide (x8.1.l.length=0))):=funext e
 show ((if aw=true then ((zaB k (Env8.mk Γ.m Γ.t.result Γ.ls (Γ.lb++[lab])) (St8.mk [] (wI (u+(l.length:Int))) false true mo ok) L).bind fun x3 => some x3) else ((zaB k (Env8.mk Γ.m Γ.t.result Γ.ls (Γ.lb++[lab])) (St8.mk [] (wI (u+(l.length:Int))) false dd mo ok) L).bind fun x3 => some x3)).bind fun j7:St8 => ((zag j7 res).bind fun x8 => (if x8.1.ok=true then some ((x8.1.l.length:Int)==(0:Int)) else some false).bind (fun j10 => some (St8.mk l u aw dd x8.1.most j10))))=_
 rw [e2]
 cases aw <;> simp only [Option.bind_fun_some] <;> rfl
theorem rinnerB {Γ:Ctx} {N k:Nat} (hb:Γ.lb.length<1000000000) {s:St8} (h:BadR N s) (L:List Instr) (res lab:Int):∃ s',zaF (k+3) Γ.env s L res lab=some s'∧BadR N s':=by
 obtain ⟨l,u,aw,dd,mo,ok⟩:=s
 obtain ⟨h1,h2⟩:=h
 obtain rfl:ok=false:=h1
 rw [zyy hb,zAI (by rfl),Option.bind_some]
 obtain ⟨v,s',e,hb'⟩:=rtakeB (N:=0) (by decide) (s:=St8.mk [] (wI (u+(l.length:Int))) false (aw||dd) mo false) ⟨rfl,Nat.le_refl 0⟩ res
 rw [e,Option.bind_some]
 refine ⟨_,rfl,?_,h2⟩
 show (s'.ok&&decide (s'.l.length=0))=false
 rw [hb'.1]; rfl
theorem zmt {Γ:Ctx} {N k:Nat} {c:Checker} {s:St8} (L:List Instr) {res lab:Int} (hr:K3 res) (g:Gd Γ (N+L.length+1)) (hf:Γ.fr.length+1<1000000000) (hl:Γ.lb.length+1<1000000000)
  (ih:∀ (l:List Int) (aw dd:Bool) (c:Checker) (s:St8),l.length≤N→Sim (Γ.sub l aw dd lab) 0 c s→∃ c' s',zal (k+2) c L=some c'∧zaB (k+2) (Γ.sub l aw dd lab).env s L=some s'∧Sim (Γ.sub l aw dd lab) L.length c' s')
  (h:Sim Γ N c s):∃ c' s',zaj (k+3) c L res lab=some c'∧zaF (k+3) Γ.env s L res lab=some s'∧Sim Γ N c' s':=by
 rcases h with ⟨l,aw,dd,mo,h1,h2,rfl,rfl⟩ | ⟨h1,h2⟩
 ·have gl:Gd Γ (l.map fk).length:=g.mono (by rw [List.length_map]; omega)
  have gs:Gd (Γ.sub (l.map fk) aw dd lab) L.length:=by
   have:Gd Γ ((l.map fk).length+L.length):=g.mono (by rw [List.length_map]; omega)
   exact this.sub (N:=0) hf hl
  have hu:((Γ.sub (l.map fk) aw dd lab).un.length:Int)=(Γ.un.length:Int)+(l.length:Int):=by simp [Ctx.sub]
  have hw:wI ((Γ.un.length:Int)+(l.length:Int))=((Γ.sub (l.map fk) aw dd lab).un.length:Int):=by
   have:=g.un
   rw [hu,wI_small (by omega) (by omega)]
  rw [zzP gl,zyy (by omega),hw]
  have s0:Sim (Γ.sub (l.map fk) aw dd lab) 0 (CC (Γ.sub (l.map fk) aw dd lab) [] false (aw||dd) mo false) (St8.mk [] ((Γ.sub (l.map fk) aw dd lab).un.length:Int) false (aw||dd) mo true):=
   .inl ⟨[],false,aw||dd,mo,(fun x hx => by cases hx),Nat.le_refl 0,rfl,rfl⟩
  obtain ⟨c1,s1,e1,e2,h3⟩:=ih (l.map fk) aw dd _ _ (by rw [List.length_map]; exact h2) s0
  have e2':zaB (k+2) (Env8.mk Γ.m Γ.t.result Γ.ls (Γ.lb++[lab])) (St8.mk [] ((Γ.sub (l.map fk) aw dd lab).un.length:Int) false (aw||dd) mo true) L=some s1:=e2
  rw [e1,e2',Option.bind_some,Option.bind_some]
  obtain ⟨v,c2,v',s2,e3,e4,h4,_⟩:=zbN gs h3 (Vk.of3 hr)
  rw [e4,Option.bind_some]
  rcases h3 with ⟨l2,aw2,dd2,mo2,k1,k2,rfl,rfl⟩ | ⟨⟨l2,aw2,dd2,mo2,k1,rfl⟩,k2⟩
  ·have gl2:Gd (Γ.sub (l.map fk) aw dd lab) (l2.map fk).length:=gs.mono (by rw [List.length_map]; omega)
   rw [zxj _ _ _ _ _ _ _ gl2] at e3
   obtain ⟨_,rfl⟩:=Prod.mk.inj (Option.some.inj e3)
   rw [zxp _ _ _ _ _ _ _ (by have:=gs.un; omega)] at e4
   obtain ⟨rfl,_⟩:=Prod.mk.inj (Option.some.inj e4)
   rw [zAS (N:=0) gl gl2]
   refine ⟨_,_,rfl,rfl,?_⟩
   have hb:=h4.bad
   have hb':tB (l2.map fk) aw2 false res = !rB l2 aw2 true res:=hb
   have hlen:(tL (l2.map fk) res).length=(tL l2 res).length:=by
    unfold tL; split
    ·rw [List.length_map]
    ·rw [List.length_dropLast,List.length_dropLast,List.length_map]
   rw [hb',hlen]
   show Sim Γ N _ (St8.mk l (Γ.un.length:Int) aw dd mo2 (rB l2 aw2 true res&&decide ((tL l2 res).length=0)))
   cases hB:rB l2 aw2 true res with
   | false => exact .inr ⟨⟨l.map fk,aw,dd,mo2,by rw [List.length_map]; exact h2,rfl⟩,rfl,h2⟩
   | true => 
    by_cases h0:(tL l2 res).length=0
    ·rw [decide_eq_true h0,decide_eq_false (by simpa using h0)]
     exact .inl ⟨l,aw,dd,mo2,h1,h2,rfl,rfl⟩
    ·rw [decide_eq_false h0,decide_eq_true (by simpa using h0)]
     exact .inr ⟨⟨l.map fk,aw,dd,mo2,by rw [List.length_map]; exact h2,rfl⟩,rfl,h2⟩
  ·rw [zAS (N:=0) gl (gs.mono k1)]
   refine ⟨_,_,rfl,rfl,?_⟩
   have hT:tB l2 aw2 true res=true:=by
    unfold tB; split
    ·rfl
    ·split <;> rfl
   have hR:s2.ok=false:=by
    obtain ⟨v3,s3,e5,h5⟩:=rtakeB (by have:=gs.un; omega) k2 res
    rw [e5] at e4
    obtain ⟨rfl,_⟩:=Prod.mk.inj (Option.some.inj e4)
    exact h5.1
   rw [hT,Bool.true_or]
   refine .inr ⟨⟨l.map fk,aw,dd,mo2,by rw [List.length_map]; exact h2,rfl⟩,?_,h2⟩
   show (s2.ok&&_)=false
   rw [hR]; rfl
 ·obtain ⟨c',e,hb⟩:=innerB (k:=k) (g.mono (by omega)) hf hl h1 L res lab
  obtain ⟨s',e',hb'⟩:=rinnerB (Γ:=Γ) (k:=k) (by omega) h2 L res lab
  exact ⟨c',s',e,e',.inr ⟨hb,hb'⟩⟩
def opOk (i:Int):Bool:=
 match zhm i,zeX i,zhn i,zcY i,zfr i,zeD i with
 | some (t,e),some (p,r,is),some (f,fe),some (f',_),some (n,_,be),some (n',_,bs) => 
  (e.isNone==is)&&(!is||((t.params==p)&&(t.result==r)&&fe.isNone&&(f==f')&&(n==n')&&(be.isNone==bs)&&decide (0≤n∧n≤8)&&p.all (fun x => x==126||x==127)&&(r==0||r==126||r==127)&&decide (p.length<10)))&&(!(decide (i<26)&&decide (4<i)&&!(decide (12≤i)&&decide (i≤17)))||!is)
 | _,_,_,_,_,_ => false
theorem allOps:(List.range 256).all (fun i => opOk (i:Int))=true:=by kernel_rfl
theorem zCK (i:Int) (h0:0≤i) (h1:i<256):opOk i=true:=by
 have:=List.all_eq_true.1 allOps i.toNat (List.mem_range.2 (by omega))
 have e:((i.toNat:Nat):Int)=i:=by omega
 rw [e] at this
 exact this
structure OpS (i:Int) (t:Typ) (is:Bool) (f n:Int) (bs:Bool):Prop where
 sg:∃ e,zhm i=some (t,e)∧e.isNone=is
 rsg:∃ p r,zeX i=some (p,r,is)∧(is=true→p=t.params∧r=t.result)
 fo:∃ f' fe,zhn i=some (f',fe)∧(is=true→f'=f∧fe.isNone=true)
 rfo:∃ fe,zcY i=some (f,fe)
 by_:∃ n' sg be,zfr i=some (n',sg,be)∧(is=true→n'=n∧be.isNone=bs)
 rby:∃ sg,zeD i=some (n,sg,bs)
 tok:is=true→TOk 10 t∧0≤n∧n≤8
 low:i<26→4<i→¬ (12≤i∧i≤17)→is=false
theorem zAT (i:Int) (h0:0≤i) (h1:i<256):∃ t is f n bs,OpS i t is f n bs:=by
 have h:=zCK i h0 h1
 unfold opOk at h
 split at h
 ·rename_i t e p r is f fe f' fe' n sg be n' sg' bs q1 q2 q3 q4 q5 q6
  simp only [Bool.and_eq_true,Bool.or_eq_true,beq_iff_eq,decide_eq_true_eq,Bool.not_eq_true',Bool.and_eq_false_iff,decide_eq_false_iff_not,List.all_eq_true,Bool.not_eq_false'] at h
  obtain ⟨⟨a1,a2⟩,a3⟩:=h
  refine ⟨t,is,f',n',bs,⟨e,q1,a1⟩,⟨p,r,q2,fun hi => ?_⟩,⟨f,fe,q3,fun hi => ?_⟩,⟨fe',q4⟩,⟨n,sg,be,q5,fun hi => ?_⟩,⟨sg',q6⟩,fun hi => ?_,fun i1 i2 i3 => ?_⟩
  ·rcases a2 with a2 | a2
   ·rw [hi] at a2; cases a2
   ·exact ⟨a2.1.1.1.1.1.1.1.1.1.symm,a2.1.1.1.1.1.1.1.1.2.symm⟩
  ·rcases a2 with a2 | a2
   ·rw [hi] at a2; cases a2
   ·exact ⟨a2.1.1.1.1.1.1.2,a2.1.1.1.1.1.1.1.2⟩
  ·rcases a2 with a2 | a2
   ·rw [hi] at a2; cases a2
   ·exact ⟨a2.1.1.1.1.1.2,a2.1.1.1.1.2⟩
  ·rcases a2 with a2 | a2
   ·rw [hi] at a2; cases a2
   ·obtain ⟨⟨⟨⟨⟨⟨⟨⟨⟨b1,b2⟩,b3⟩,b4⟩,b5⟩,b6⟩,b7⟩,b8⟩,b9⟩,b10⟩:=a2
    refine ⟨⟨fun x hx => ?_,?_,by rw [b1]; exact b10⟩,by omega,by omega⟩
    ·rw [b1] at hx; exact b8 x hx
    ·rw [b2]; rcases b9 with (h | h) | h
     ·exact .inl h
     ·exact .inr (.inl h)
     ·exact .inr (.inr h)
  ·rcases a3 with a3 | a3
   ·exfalso
    rcases a3 with (h | h) | h
    ·omega
    ·omega
    ·exact i3 h
   ·exact a3
 ·cases h
structure COk (Γ:Ctx) (P:Nat):Prop where
 typ:∀ t∈Γ.m.types,TOk P t
 glo:∀ g∈Γ.m.globals,K2 g.kind
 ls:∀ x∈Γ.ls,K2 x
 lb:∀ x∈Γ.lb,K3 x
 res:K3 Γ.t.result
 P0:P<1000000000
 P1:10≤P
theorem COk.sub {Γ:Ctx} {P:Nat} (h:COk Γ P) (l:List Int) (aw dd:Bool) {lab:Int} (hl:K3 lab):COk (Γ.sub l aw dd lab) P:=
 ⟨h.typ,h.glo,h.ls,fun x hx => by
  rcases List.mem_append.1 hx with hx | hx
  ·exact h.lb x hx
  ·obtain rfl:x=lab:=by simpa using hx
   exact hl,h.res,h.P0,h.P1⟩
theorem setB_false (c:Checker):setB c false=c:=by cases c; simp [setB]
theorem setB_setB (c:Checker) (a b:Bool):setB (setB c a) b=setB c (a||b):=by cases c; simp [setB,Bool.or_assoc]
theorem setB_true (c:Checker):setB c true=Checker.mk c.m c.t c.locals c.stack c.frames c.labels c.most true:=by cases c; simp [setB]
theorem zBg (c:Checker) (b:Bool):(if c.bad=true then some (Checker.mk c.m c.t c.locals c.stack c.frames c.labels c.most true) else some (Checker.mk c.m c.t c.locals c.stack c.frames c.labels c.most b))=some (setB c b):=by
 cases c with
 | mk a1 a2 a3 a4 a5 a6 a7 bd => cases bd <;> rfl
theorem zzY (s:St8) (b:Bool) (f:Bool→Option St8):(if s.ok=true then some b else some false).bind f=f (s.ok&&b):=by
 cases s.ok <;> rfl
def inb (n:Int) (k:Nat):Prop:=0≤n∧n<(k:Int)
instance (n:Int) (k:Nat):Decidable (inb n k):=by unfold inb; infer_instance
theorem gdI {α:Type} {n:Int} {k:Nat} {e:Option α} (h:inb n k):gd (0≤n∧n<(k:Int)) e=e:=zaC h
theorem zxu (c:Checker) (n:Int):zaD c n=some (if inb n c.locals.length then c.locals.getD n.toNat default else 1,setB c (!decide (inb n c.locals.length))):=by
 unfold zaD
 by_cases h:inb n c.locals.length
 ·rw [if_pos h,decide_eq_true h,if_neg (by unfold inb at h; simp; omega),gdI h,Bool.not_true,setB_false]
 ·rw [if_neg h,decide_eq_false h,if_pos (by unfold inb at h; simp; omega),Bool.not_false,setB_true]
def gl0:Glo:=Glo.mk 1 true (Instr.mk 0 0 0 0 0 [] [] [])
theorem zyI (c:Checker) (n:Int):zaE c n=some (if inb n c.m.globals.length then c.m.globals.getD n.toNat default else gl0,setB c (!decide (inb n c.m.globals.length))):=by
 unfold zaE
 by_cases h:inb n c.m.globals.length
 ·rw [if_pos h,decide_eq_true h,if_neg (by unfold inb at h; simp; omega),gdI h,Bool.not_true,setB_false]
 ·rw [if_neg h,decide_eq_false h,if_pos (by unfold inb at h; simp; omega),Bool.not_false,setB_true]; rfl
def ty0:Typ:=Typ.mk [] 0
theorem zBQ (c:Checker) (n:Int):zaU c n=some (if inb n c.m.types.length then c.m.types.getD n.toNat default else ty0,setB c (!decide (inb n c.m.types.length))):=by
 unfold zaU
 by_cases h:inb n c.m.types.length
 ·rw [if_pos h,decide_eq_true h,if_neg (by unfold inb at h; simp; omega),gdI h,Bool.not_true,setB_false]
 ·rw [if_neg h,decide_eq_false h,if_pos (by unfold inb at h; simp; omega),Bool.not_false,setB_true]; rfl
theorem zyW (n:Int) (k:Nat):zbr n (k:Int)=some (decide (inb n k)):=by
 unfold zbr inb
 by_cases h1:0≤n <;> by_cases h2:n<(k:Int) <;> simp [h1,h2]
theorem getD_memI {α:Type} [Inhabited α] {l:List α} {n:Int} (h:inb n l.length):l.getD n.toNat default∈l:=by
 have:=getD_mem l n.toNat (by unfold inb at h; omega)
 have e:((n.toNat:Nat):Int)=n:=by unfold inb at h; omega
 rw [e] at this
 exact this
theorem lbK {lb:List Int} (h:∀ x∈lb,K3 x) (n:Int):K3 (lbV lb n):=by
 unfold lbV
 split
 ·rename_i hh
  exact h _ (getD_memI (by unfold inb; omega))
 ·exact .inl rfl
theorem Sim.rl {Γ:Ctx} {N:Nat} {c:Checker} {s:St8} (h:Sim Γ N c s):s.l.length≤N:=by
 rcases h with ⟨l,aw,dd,mo,h1,h2,rfl,rfl⟩ | ⟨_,h⟩
 ·exact h2
 ·exact h.2
theorem Sim.badR {Γ:Ctx} {N:Nat} {c:Checker} {s:St8} (h:Sim Γ N c s):BadR N (St8.mk s.l s.under s.away s.dead s.most false):=⟨rfl,h.rl⟩
theorem Sim.badV {Γ:Ctx} {N:Nat} {c:Checker} {s:St8} (h:Sim Γ N c s):BadV Γ N (setB c true):=h.toBad.1
theorem Sim.fld {Γ:Ctx} {N:Nat} {c:Checker} {s:St8} (h:Sim Γ N c s):c.m=Γ.m∧c.t=Γ.t∧c.locals=Γ.ls:=by
 rcases h with ⟨l,aw,dd,mo,h1,h2,rfl,rfl⟩ | ⟨⟨l,aw,dd,mo,h1,rfl⟩,_⟩ <;> exact ⟨rfl,rfl,rfl⟩
theorem BadV.fld {Γ:Ctx} {N:Nat} {c:Checker} (h:BadV Γ N c):c.m=Γ.m∧c.t=Γ.t∧c.locals=Γ.ls:=by
 obtain ⟨l,aw,dd,mo,h1,rfl⟩:=h; exact ⟨rfl,rfl,rfl⟩
def StB (Γ:Ctx) (N:Nat) (a:Option Checker) (b:Option St8):Prop:=∃ c' s',a=some c'∧b=some s'∧Sim Γ N c' s'
theorem StB.ofB {Γ:Ctx} {N:Nat} {a:Option Checker} {b:Option St8} (h1:∃ c',a=some c'∧BadV Γ N c') (h2:∃ s',b=some s'∧BadR N s'):StB Γ N a b:=by
 obtain ⟨c',e1,h1⟩:=h1
 obtain ⟨s',e2,h2⟩:=h2
 exact ⟨c',s',e1,e2,.inr ⟨h1,h2⟩⟩
theorem zze {Γ:Ctx} {N P:Nat} {c:Checker} {s:St8} (g:Gd Γ N) (o:COk Γ P) (h:Sim Γ N c s) (hk:s.ok=true) (x:Instr) (h1:32≤x.op) (h2:x.op≤36) :
  StB Γ (N+1) (zai c x) (zaA Γ.env s x):=by
 obtain ⟨op,n,al,of_,res,body,els,labels⟩:=x
 have f:=h.fld
 have hop:op=32∨op=33∨op=34∨op=35∨op=36:=by simp only [Instr.op] at h1 h2; omega
 obtain ⟨sl,su,sa,sd,sm,so⟩:=s
 obtain rfl:so=true:=hk
 rcases hop with rfl | rfl | rfl | rfl | rfl
 ·have e1:zai c (Instr.mk 32 n al of_ res body els labels)=(zaD c n).bind fun x11 => (zah x11.2 x11.1).bind fun x13 => some x13:=rfl
  have e2:zaA Γ.env (St8.mk sl su sa sd sm true) (Instr.mk 32 n al of_ res body els labels)=(zbr n (Γ.ls.length:Int)).bind fun x2 => if (!x2)=true then some (St8.mk sl su sa sd sm false) else (gd (0≤n∧n<(Γ.ls.length:Int)) (some (Γ.ls.getD n.toNat default,true))).bind fun | (j4,j5) => ((zaH (St8.mk sl su sa sd sm j5) j4).bind fun x8 => some x8).bind fun j7 => some j7:=by
   unfold zaA
   simp only [Instr.op,Instr.n,Ctx.env]
   rfl
  rw [e1,e2,zxu,Option.bind_some,zyW,Option.bind_some,f.2.2]
  by_cases hi:inb n Γ.ls.length
  ·rw [if_pos hi,decide_eq_true hi,if_neg (by decide),gdI hi,Option.bind_some,Bool.not_true,setB_false]
   obtain ⟨c',s',e3,e4,h'⟩:=zlQ g h (Vk.of2 (o.ls _ (getD_memI hi)))
   exact ⟨c',s',by rw [e3]; rfl,by show (((zaH _ _).bind _).bind _)=_; rw [e4]; rfl,h'⟩
  ·rw [if_neg hi,decide_eq_false hi,if_pos (by decide),Bool.not_false]
   refine StB.ofB ?_ ⟨_,rfl,h.badR.mono (by omega)⟩
   obtain ⟨c',e,hb⟩:=layB g h.badV 1
   exact ⟨c',by rw [e]; rfl,hb⟩
 ·have e1:zai c (Instr.mk 33 n al of_ res body els labels)=(zaD c n).bind fun x11 => (zac x11.2 x11.1).bind fun x13 => some x13.2:=rfl
  have e2:zaA Γ.env (St8.mk sl su sa sd sm true) (Instr.mk 33 n al of_ res body els labels)=(zbr n (Γ.ls.length:Int)).bind fun x2 => if (!x2)=true then some (St8.mk sl su sa sd sm false) else (gd (0≤n∧n<(Γ.ls.length:Int)) (some (Γ.ls.getD n.toNat default,true))).bind fun | (j4,j5) => ((zag (St8.mk sl su sa sd sm j5) j4).bind fun x13 => some x13.1).bind fun j6 => some j6:=by
   unfold zaA
   simp only [Instr.op,Instr.n,Ctx.env]
   rfl
  rw [e1,e2,zxu,Option.bind_some,zyW,Option.bind_some,f.2.2]
  by_cases hi:inb n Γ.ls.length
  ·rw [if_pos hi,decide_eq_true hi,if_neg (by decide),gdI hi,Option.bind_some,Bool.not_true,setB_false]
   obtain ⟨v,c',v',s',e3,e4,h',_⟩:=zbN g h (Vk.of2 (o.ls _ (getD_memI hi)))
   exact ⟨c',s',by rw [e3]; rfl,by show (((zag _ _).bind _).bind _)=_; rw [e4]; rfl,h'.mono (by omega)⟩
  ·rw [if_neg hi,decide_eq_false hi,if_pos (by decide),Bool.not_false]
   refine StB.ofB ?_ ⟨_,rfl,h.badR.mono (by omega)⟩
   obtain ⟨v,c',e,hb⟩:=takeB g h.badV 1
   exact ⟨c',by rw [e]; rfl,hb.mono (by omega)⟩
 ·have e1:zai c (Instr.mk 34 n al of_ res body els labels)=(zaD c n).bind fun x19 => (zac x19.2 x19.1).bind fun x21 => (zah x21.2 x19.1).bind fun x23 => some x23:=rfl
  have e2:zaA Γ.env (St8.mk sl su sa sd sm true) (Instr.mk 34 n al of_ res body els labels)=(zbr n (Γ.ls.length:Int)).bind fun x2 => if (!x2)=true then some (St8.mk sl su sa sd sm false) else (gd (0≤n∧n<(Γ.ls.length:Int)) (some (Γ.ls.getD n.toNat default,true))).bind fun | (j4,j5) => ((zag (St8.mk sl su sa sd sm j5) j4).bind fun x13 => some x13.1).bind fun j6 => ((zaH j6 j4).bind fun x8 => some x8).bind fun j7 => some j7:=by
   unfold zaA
   simp only [Instr.op,Instr.n,Ctx.env]
   rfl
  rw [e1,e2,zxu,Option.bind_some,zyW,Option.bind_some,f.2.2]
  by_cases hi:inb n Γ.ls.length
  ·rw [if_pos hi,decide_eq_true hi,if_neg (by decide),gdI hi,Option.bind_some,Bool.not_true,setB_false]
   obtain ⟨v,c',v',s',e3,e4,h',_⟩:=zbN g h (Vk.of2 (o.ls _ (getD_memI hi)))
   obtain ⟨c2,s2,e5,e6,h2⟩:=zlQ g h' (Vk.of2 (o.ls _ (getD_memI hi)))
   refine ⟨c2,s2,?_,?_,h2⟩
   ·rw [e3,Option.bind_some,e5]; rfl
   ·show (((zag _ _).bind _).bind _)=_
    rw [e4,Option.bind_some,Option.bind_some,e6]; rfl
  ·rw [if_neg hi,decide_eq_false hi,if_pos (by decide),Bool.not_false]
   refine StB.ofB ?_ ⟨_,rfl,h.badR.mono (by omega)⟩
   obtain ⟨v,c',e,hb⟩:=takeB g h.badV 1
   obtain ⟨c2,e',hb'⟩:=layB g hb 1
   exact ⟨c2,by rw [e,Option.bind_some,e']; rfl,hb'⟩
 ·have e1:zai c (Instr.mk 35 n al of_ res body els labels)=(zaE c n).bind fun x11 => (zah x11.2 x11.1.kind).bind fun x13 => some x13:=rfl
  have e2:zaA Γ.env (St8.mk sl su sa sd sm true) (Instr.mk 35 n al of_ res body els labels)=(zbr n (Γ.m.globals.length:Int)).bind fun x2 => if (!x2)=true then some (St8.mk sl su sa sd sm false) else (gd (0≤n∧n<(Γ.m.globals.length:Int)) (some ((Γ.m.globals.getD n.toNat default).kind,true))).bind fun | (j4,j5) => ((zaH (St8.mk sl su sa sd sm j5) j4).bind fun x8 => some x8).bind fun j7 => some j7:=by
   unfold zaA
   simp only [Instr.op,Instr.n,Ctx.env]
   rfl
  rw [e1,e2,zyI,Option.bind_some,zyW,Option.bind_some,f.1]
  by_cases hi:inb n Γ.m.globals.length
  ·rw [if_pos hi,decide_eq_true hi,if_neg (by decide),gdI hi,Option.bind_some,Bool.not_true,setB_false]
   obtain ⟨c',s',e3,e4,h'⟩:=zlQ g h (Vk.of2 (o.glo _ (getD_memI hi)))
   exact ⟨c',s',by rw [e3]; rfl,by show (((zaH _ _).bind _).bind _)=_; rw [e4]; rfl,h'⟩
  ·rw [if_neg hi,decide_eq_false hi,if_pos (by decide),Bool.not_false]
   refine StB.ofB ?_ ⟨_,rfl,h.badR.mono (by omega)⟩
   obtain ⟨c',e,hb⟩:=layB g h.badV gl0.kind
   exact ⟨c',by rw [e]; rfl,hb⟩
 ·have e1:zai c (Instr.mk 36 n al of_ res body els labels)=(zaE c n).bind fun x29 => (zac (setB x29.2 (!x29.1.mut_)) x29.1.kind).bind fun x32 => some x32.2:=by
   show ((zaE c n).bind fun x29 => (if x29.2.bad=true then some (Checker.mk x29.2.m x29.2.t x29.2.locals x29.2.stack x29.2.frames x29.2.labels x29.2.most true) else some (Checker.mk x29.2.m x29.2.t x29.2.locals x29.2.stack x29.2.frames x29.2.labels x29.2.most (!x29.1.mut_))).bind (fun j31 => ((zac j31 x29.1.kind).bind fun x32 => some x32.2)))=_
   congr 1
   funext x29
   rw [zBg,Option.bind_some]
  have e2:zaA Γ.env (St8.mk sl su sa sd sm true) (Instr.mk 36 n al of_ res body els labels)=(zbr n (Γ.m.globals.length:Int)).bind fun x2 => if (!x2)=true then some (St8.mk sl su sa sd sm false) else (gd (0≤n∧n<(Γ.m.globals.length:Int)) ((gd (0≤n∧n<(Γ.m.globals.length:Int)) (some (Γ.m.globals.getD n.toNat default).mut_)).bind fun j20 => some ((Γ.m.globals.getD n.toNat default).kind,j20))).bind fun | (j4,j5) => ((zag (St8.mk sl su sa sd sm j5) j4).bind fun x13 => some x13.1).bind fun j6 => some j6:=by
   unfold zaA
   simp only [Instr.op,Instr.n,Ctx.env]
   rfl
  rw [e1,e2,zyI,Option.bind_some,zyW,Option.bind_some,f.1]
  by_cases hi:inb n Γ.m.globals.length
  ·rw [if_pos hi,decide_eq_true hi,if_neg (by decide),gdI hi,gdI hi,Option.bind_some,Option.bind_some,Bool.not_true,setB_false]
   have ha:=zjV h (!(Γ.m.globals.getD n.toNat default).mut_)
   obtain ⟨v,c',v',s',e3,e4,h',_⟩:=zbN g ha (Vk.of2 (o.glo _ (getD_memI hi)))
   refine ⟨c',s',by rw [e3]; rfl,?_,h'.mono (by omega)⟩
   rw [Bool.not_not] at e4
   show (((zag (setO (St8.mk sl su sa sd sm true) (Γ.m.globals.getD n.toNat default).mut_) _).bind _).bind _)=_
   rw [e4]; rfl
  ·rw [if_neg hi,decide_eq_false hi,if_pos (by decide),Bool.not_false]
   refine StB.ofB ?_ ⟨_,rfl,h.badR.mono (by omega)⟩
   obtain ⟨v,c',e,hb⟩:=takeB g (askB h.badV (!gl0.mut_)) gl0.kind
   exact ⟨c',by rw [e]; rfl,hb.mono (by omega)⟩
theorem zzF {Γ:Ctx} {N P K:Nat} {c:Checker} {s:St8} (g:Gd Γ N) (o:COk Γ P) (h:Sim Γ N c s) (hk:s.ok=true) (hK:P<K) (x:Instr) (k:Nat) :
  (x.op=16→StB Γ (N+1) (zab (k+1) c x) (zbX K Γ.env s x))∧(x.op=17→StB Γ (N+1) (zab (k+1) c x) (zbX K Γ.env s x)):=by
 obtain ⟨op,n,al,of_,res,body,els,labels⟩:=x
 have f:=h.fld
 have hty0:TOk P ty0:=⟨(fun p hp => by cases hp),.inl rfl,by have:=o.P1; show 0<P; omega⟩
 refine ⟨fun ho => ?_,fun ho => ?_⟩
 ·obtain rfl:op=16:=ho
  have e1:zab (k+1) c (Instr.mk 16 n al of_ res body els labels)=(zaW c n).bind fun x51 => (zau x51.2 x51.1).bind fun x53 => some x53:=by
   simp only [zab]; rfl
  have e2:zbX K Γ.env s (Instr.mk 16 n al of_ res body els labels)=(zbr n (Γ.m.funcs.length:Int)).bind fun x1 => if (!x1)=true then some (St8.mk s.l s.under s.away s.dead s.most false) else gd (0≤n∧n<(Γ.m.funcs.length:Int)) ((zbr (wI (Γ.m.funcs.getD n.toNat default).type_) (Γ.m.types.length:Int)).bind fun x4 => if (!x4)=true then some (St8.mk s.l s.under s.away s.dead s.most false) else gd (0≤wI (Γ.m.funcs.getD n.toNat default).type_∧wI (Γ.m.funcs.getD n.toNat default).type_<(Γ.m.types.length:Int)) ((zbK K s (Γ.m.types.getD (wI (Γ.m.funcs.getD n.toNat default).type_).toNat default)).bind fun x7 => some x7)):=rfl
  rw [e1,e2,zyW,Option.bind_some]
  have hB:∀ c',BadV Γ N c'→∀ t,TOk P t→∃ c'',((zau c' t).bind fun x53 => some x53)=some c''∧BadV Γ (N+1) c'':=fun c' hb t ht => by
   obtain ⟨c'',e,hb'⟩:=callB g hb t (by have:=ht.2.2; have:=o.P0; omega)
   exact ⟨c'',by rw [e]; rfl,hb'⟩
  unfold zaW
  rw [f.1]
  by_cases hi:inb n Γ.m.funcs.length
  ·have hi':=hi
   unfold inb at hi'
   rw [decide_eq_true hi,if_neg (by simp; omega),if_neg (by decide),gdI hi,gdI hi,zBQ,zyW,Option.bind_some,Option.bind_some,Option.bind_some,f.1]
   by_cases hj:inb (wI (Γ.m.funcs.getD n.toNat default).type_) Γ.m.types.length
   ·rw [if_pos hj,decide_eq_true hj,if_neg (by decide),gdI hj,Bool.not_true,setB_false]
    obtain ⟨c',s',e3,e4,h'⟩:=zxk g h (o.typ _ (getD_memI hj)) o.P0 hK
    exact ⟨c',s',by rw [e3]; rfl,by rw [e4]; rfl,h'⟩
   ·rw [if_neg hj,decide_eq_false hj,if_pos (by decide),Bool.not_false]
    exact StB.ofB (hB _ h.badV _ hty0) ⟨_,rfl,h.badR.mono (by omega)⟩
  ·have hi':¬ (0≤n∧n<(Γ.m.funcs.length:Int)):=hi
   rw [decide_eq_false hi,if_pos (by simp; omega),if_pos (by decide),Option.bind_some,← f.1]
   have:=hB _ h.badV _ hty0
   rw [setB_true] at this
   exact StB.ofB this ⟨_,rfl,h.badR.mono (by omega)⟩
 ·obtain rfl:op=17:=ho
  have e1:zab (k+1) c (Instr.mk 17 n al of_ res body els labels)=(if c.bad=true then some (Checker.mk c.m c.t c.locals c.stack c.frames c.labels c.most true) else some (Checker.mk c.m c.t c.locals c.stack c.frames c.labels c.most ((c.m.tables.length:Int)==(0:Int)))).bind (fun j55 => ((zac j55 127).bind fun x56 => ((zaU x56.2 n).bind fun x58 => ((zau x58.2 x58.1).bind fun x60 => some x60)))):=by
   simp only [zab]; rfl
  have e2:zbX K Γ.env s (Instr.mk 17 n al of_ res body els labels)=(if s.ok=true then some (decide ((Γ.m.tables.length:Int)>(0:Int))) else some false).bind (fun j9 => ((zag (St8.mk s.l s.under s.away s.dead s.most j9) 127).bind fun x10 => ((zbr n (Γ.m.types.length:Int)).bind fun x12 => (if (!x12)=true then some (St8.mk x10.1.l x10.1.under x10.1.away x10.1.dead x10.1.most false) else gd (0≤n∧n<(Γ.m.types.length:Int)) ((zbK K x10.1 (Γ.m.types.getD n.toNat default)).bind fun x15 => some x15))))):=rfl
  rw [e1,e2,zBg,zzY,Option.bind_some,f.1]
  have et:((Γ.m.tables.length:Int)==(0:Int)) = !decide ((Γ.m.tables.length:Int)>(0:Int)):=by
   by_cases h0:Γ.m.tables.length=0
   ·rw [h0]; rfl
   ·rw [decide_eq_true (by omega)]; simp; simpa using h0
  rw [et]
  have ha:=zjV h (!decide ((Γ.m.tables.length:Int)>(0:Int)))
  rw [Bool.not_not] at ha
  obtain ⟨v,c',v',s',e3,e4,h',_⟩:=zbN g ha (Vk.of2 (x:=127) (.inr rfl))
  have e4':zag (St8.mk s.l s.under s.away s.dead s.most (s.ok&&decide ((Γ.m.tables.length:Int)>(0:Int)))) 127=some (s',v'):=e4
  have f':=h'.fld
  rw [e3,e4',Option.bind_some,Option.bind_some,zBQ,zyW,Option.bind_some,Option.bind_some]
  show StB Γ (N+1) ((zau (setB c' (!decide (inb n c'.m.types.length))) (if inb n c'.m.types.length then c'.m.types.getD n.toNat default else ty0)).bind fun x60 => some x60) _
  rw [f'.1]
  by_cases hj:inb n Γ.m.types.length
  ·rw [if_pos hj,decide_eq_true hj,if_neg (by decide),gdI hj,Bool.not_true,setB_false]
   obtain ⟨c2,s2,e5,e6,h2⟩:=zxk g h' (o.typ _ (getD_memI hj)) o.P0 hK
   exact ⟨c2,s2,by rw [e5]; rfl,by rw [e6]; rfl,h2⟩
  ·rw [if_neg hj,decide_eq_false hj,if_pos (by decide),Bool.not_false]
   obtain ⟨c'',e,hb'⟩:=callB g h'.badV ty0 (by decide)
   exact StB.ofB ⟨c'',by rw [e]; rfl,hb'⟩ ⟨_,rfl,h'.badR.mono (by omega)⟩
theorem zBW {k:Nat} {e:Env8} {x:Instr} (hx:(x.op==(14:Int))=false) (y:Int×Bool) (b:Bool):zaX (k+1) e x y 0 b=some b:=by
 simp only [zaX]
 rw [hx,Bool.false_and,if_neg (by decide)]
theorem zCI {Γ:Ctx} {N P K:Nat} {c:Checker} {s:St8} (g:Gd Γ N) (o:COk Γ P) (h:Sim Γ N c s) (x:Instr) (k:Nat) (hx:x.op=12) :
  StB Γ (N+1) (zab (k+1) c x) (zbk (K+1) Γ.env s x):=by
 obtain ⟨op,n,al,of_,res,body,els,labels⟩:=x
 obtain rfl:op=12:=hx
 have e1:zab (k+1) c (Instr.mk 12 n al of_ res body els labels)=(zav c n).bind fun x31 => (zac x31.2 x31.1).bind fun x33 => (zap x33.2).bind fun x35 => some x35:=by
  simp only [zab]; rfl
 have e2:zbk (K+1) Γ.env s (Instr.mk 12 n al of_ res body els labels)=(zbn Γ.env n).bind fun x28 => (zaX (K+1) Γ.env (Instr.mk 12 n al of_ res body els labels) x28 0 x28.2).bind (fun j30 => (if s.ok=true then some j30 else some false).bind (fun j31 => ((zag (St8.mk s.l s.under s.away s.dead s.most j31) x28.1).bind fun x32 => ((zby x32.1).bind fun x36 => some x36)))):=rfl
 obtain ⟨l1,l2,l3⟩:=zms g h o.lb n
 rw [e1,e2,l1,l2,Option.bind_some,Option.bind_some,zBW (by rfl),Option.bind_some,zzY]
 have ha:=zjV h (!lbB Γ.lb n)
 rw [Bool.not_not] at ha
 obtain ⟨v,c',v',s',e3,e4,h',_⟩:=zbN g ha (Vk.of3 (lbK o.lb n))
 have e4':zag (St8.mk s.l s.under s.away s.dead s.most (s.ok&&lbB Γ.lb n)) (lbV Γ.lb n)=some (s',v'):=e4
 rw [e3,e4',Option.bind_some,Option.bind_some]
 obtain ⟨c2,s2,e5,e6,h2⟩:=zmr g h'
 exact ⟨c2,s2,by rw [e5]; rfl,by rw [e6]; rfl,h2.mono (by omega)⟩
theorem zCc {Γ:Ctx} {N P K:Nat} {c:Checker} {s:St8} (g:Gd Γ N) (o:COk Γ P) (h:Sim Γ N c s) (x:Instr) (k:Nat) (hx:x.op=13) :
  StB Γ (N+1) (zab (k+1) c x) (zbk (K+1) Γ.env s x):=by
 obtain ⟨op,n,al,of_,res,body,els,labels⟩:=x
 obtain rfl:op=13:=hx
 have e1:zab (k+1) c (Instr.mk 13 n al of_ res body els labels)=(zac c 127).bind fun x37 => (zav x37.2 n).bind fun x39 => (zac x39.2 x39.1).bind fun x41 => (zah x41.2 x39.1).bind fun x43 => some x43:=by
  simp only [zab]; rfl
 have e2:zbk (K+1) Γ.env s (Instr.mk 13 n al of_ res body els labels)=((zag s 127).bind fun x52 => some x52.1).bind fun j1 => (zbn Γ.env n).bind fun x28 => (zaX (K+1) Γ.env (Instr.mk 13 n al of_ res body els labels) x28 0 x28.2).bind (fun j30 => (if j1.ok=true then some j30 else some false).bind (fun j31 => ((zag (St8.mk j1.l j1.under j1.away j1.dead j1.most j31) x28.1).bind fun x32 => ((zaH x32.1 x28.1).bind fun x34 => some x34)))):=rfl
 obtain ⟨v,c1,v',s1,e3,e4,h1,_⟩:=zbN g h (Vk.of2 (x:=127) (.inr rfl))
 obtain ⟨l1,l2,l3⟩:=zms g h1 o.lb n
 rw [e1,e2,e3,e4,Option.bind_some,Option.bind_some,Option.bind_some,l1,l2,Option.bind_some,Option.bind_some,zBW (by rfl),Option.bind_some,zzY]
 have ha:=zjV h1 (!lbB Γ.lb n)
 rw [Bool.not_not] at ha
 obtain ⟨v2,c2,v2',s2,e5,e6,h2,_⟩:=zbN g ha (Vk.of3 (lbK o.lb n))
 have e6':zag (St8.mk s1.l s1.under s1.away s1.dead s1.most (s1.ok&&lbB Γ.lb n)) (lbV Γ.lb n)=some (s2,v2'):=e6
 rw [e5,e6',Option.bind_some,Option.bind_some]
 obtain ⟨c3,s3,e7,e8,h3⟩:=zlQ g h2 (Vk.of3 (lbK o.lb n))
 exact ⟨c3,s3,by rw [e7]; rfl,by rw [e8]; rfl,h3⟩
theorem zAe {Γ:Ctx} {N:Nat} {c:Checker} {s:St8} (g:Gd Γ N) (h:Sim Γ N c s) (hl:∀ x∈Γ.lb,K3 x) (x:Instr) (hx:x.op=14) (hs:x.labels.length<1000) (v:Int) (c0:Checker) (b0:Bool):∀ (k K i:Nat) (b:Bool),i≤x.labels.length→x.labels.length - i<k→x.labels.length - i<K →
  ∃ b',zaJ k x (v,c0) (setB c (!b)) (i:Int)=some (setB c (!b'))∧zaY K Γ.env x (v,b0) (i:Int) b=some b':=by
 intro k
 induction k with
 | zero => intro K i b _ h; omega
 | succ k ih => 
  intro K i b hi h1 h2
  cases K with
  | zero => omega
  | succ K => 
   simp only [zaJ,zaY]
   have ho:(x.op==(14:Int))=true:=by rw [hx]; rfl
   by_cases hlt:i<x.labels.length
   ·have ha:=zjV h (!b)
    obtain ⟨l1,l2,l3⟩:=zms g ha hl (wI (x.labels.getD (i:Int).toNat default))
    rw [if_pos (dltT hlt),if_pos (by rw [ho,dltT hlt]; rfl),zaC (by omega),zaC (by omega),l1,l2,Option.bind_some,Option.bind_some,wI_nat i (by omega)]
    have e:(if (lbV Γ.lb (wI (x.labels.getD (i:Int).toNat default))!=v)=true then some (Checker.mk (setB (setB c (!b)) (!lbB Γ.lb (wI (x.labels.getD (i:Int).toNat default)))).m (setB (setB c (!b)) (!lbB Γ.lb (wI (x.labels.getD (i:Int).toNat default)))).t (setB (setB c (!b)) (!lbB Γ.lb (wI (x.labels.getD (i:Int).toNat default)))).locals (setB (setB c (!b)) (!lbB Γ.lb (wI (x.labels.getD (i:Int).toNat default)))).stack (setB (setB c (!b)) (!lbB Γ.lb (wI (x.labels.getD (i:Int).toNat default)))).frames (setB (setB c (!b)) (!lbB Γ.lb (wI (x.labels.getD (i:Int).toNat default)))).labels (setB (setB c (!b)) (!lbB Γ.lb (wI (x.labels.getD (i:Int).toNat default)))).most true) else some (setB (setB c (!b)) (!lbB Γ.lb (wI (x.labels.getD (i:Int).toNat default)))))=some (setB c (!(b&&(lbB Γ.lb (wI (x.labels.getD (i:Int).toNat default))&&(lbV Γ.lb (wI (x.labels.getD (i:Int).toNat default))==v))))):=by
     by_cases hv:lbV Γ.lb (wI (x.labels.getD (i:Int).toNat default))=v
     ·rw [if_neg (by simpa using hv),setB_setB]
      have:(lbV Γ.lb (wI (x.labels.getD (i:Int).toNat default))==v)=true:=by simpa using hv
      rw [this]
      cases b <;> cases lbB Γ.lb (wI (x.labels.getD (i:Int).toNat default)) <;> rfl
     ·rw [if_pos (by simpa using hv),← setB_true,setB_setB,setB_setB]
      have:(lbV Γ.lb (wI (x.labels.getD (i:Int).toNat default))==v)=false:=by simpa using hv
      rw [this]
      cases b <;> cases lbB Γ.lb (wI (x.labels.getD (i:Int).toNat default)) <;> rfl
    refine (ih K (i+1) _ (by omega) (by omega) (by omega)).imp fun b' hb => ⟨?_,hb.2⟩
    refine Eq.trans ?_ hb.1
    exact congrArg (fun o => Option.bind o _) e
   ·rw [if_neg (dltF hlt),if_neg (by rw [ho,Bool.true_and]; exact dltF hlt)]
    exact ⟨b,rfl,rfl⟩
theorem zBp {Γ:Ctx} {N P K:Nat} {c:Checker} {s:St8} (g:Gd Γ N) (o:COk Γ P) (h:Sim Γ N c s) (x:Instr) (k:Nat) (hx:x.op=14) (hk:300<k) (hK:300<K) :
  StB Γ (N+1) (zab (k+1) c x) (zbk K Γ.env s x):=by
 have e1:zab (k+1) c x=(zbF k c x).bind fun x45 => some x45:=by
  obtain ⟨op,n,al,of_,res,body,els,labels⟩:=x
  obtain rfl:op=14:=hx
  simp only [zab]; rfl
 have e2:zbk K Γ.env s x=((zag s 127).bind fun x52 => some x52.1).bind fun j1 => (if (((x.labels.length:Int)==(0:Int))||(decide ((x.labels.length:Int)>(257:Int))))=true then some (St8.mk j1.l j1.under j1.away j1.dead j1.most false) else gd (0≤(wI ((x.labels.length:Int) - 1))∧(wI ((x.labels.length:Int) - 1))<(x.labels.length:Int)) ((zbn Γ.env (wI (x.labels.getD (wI ((x.labels.length:Int) - 1)).toNat default))).bind fun x3 => (zaY K Γ.env x x3 0 x3.2).bind (fun j5 => (if j1.ok=true then some j5 else some false).bind (fun j6 => ((zag (St8.mk j1.l j1.under j1.away j1.dead j1.most j6) x3.1).bind fun x7 => ((zby x7.1).bind fun x11 => some x11)))))):=by
  obtain ⟨op,n,al,of_,res,body,els,labels⟩:=x
  obtain rfl:op=14:=hx
  rfl
 obtain ⟨v,c1,v',s1,e3,e4,h1,_⟩:=zbN g h (Vk.of2 (x:=127) (.inr rfl))
 rw [e1,e2,e4,Option.bind_some,Option.bind_some]
 unfold zbF
 rw [e3,Option.bind_some]
 by_cases hn:(((x.labels.length:Int)==(0:Int))||(decide ((x.labels.length:Int)>(257:Int))))=true
 ·rw [if_pos hn,if_pos hn]
  have hb:=h1.badV
  rw [setB_true] at hb
  exact StB.ofB ⟨_,rfl,hb.mono (by omega)⟩ ⟨_,rfl,h1.badR.mono (by omega)⟩
 ·rw [if_neg hn,if_neg hn]
  rw [Bool.or_eq_true,not_or] at hn
  have hn0:¬ ((x.labels.length:Int)=0):=fun e => hn.1 (by rw [e]; rfl)
  have hn1:¬ ((x.labels.length:Int)>257):=fun e => hn.2 (decide_eq_true e)
  have hlen:0<x.labels.length∧x.labels.length≤257:=by constructor <;> omega
  have hw:wI ((x.labels.length:Int) - 1)=(x.labels.length:Int) - 1:=wI_small (by omega) (by omega)
  rw [hw,zaC (by omega),zaC (by omega)]
  obtain ⟨l1,l2,l3⟩:=zms g h1 o.lb (wI (x.labels.getD ((x.labels.length:Int) - 1).toNat default))
  have l1':zav (v,c1).2 (wI (x.labels.getD ((x.labels.length:Int) - 1).toNat default))=_:=l1
  rw [l1',l2,Option.bind_some,Option.bind_some]
  obtain ⟨b',t1,t2⟩:=zAe g h1 o.lb x hx (by omega) (lbV Γ.lb (wI (x.labels.getD ((x.labels.length:Int) - 1).toNat default))) (setB c1 (!lbB Γ.lb (wI (x.labels.getD ((x.labels.length:Int) - 1).toNat default)))) (lbB Γ.lb (wI (x.labels.getD ((x.labels.length:Int) - 1).toNat default))) k K 0 (lbB Γ.lb (wI (x.labels.getD ((x.labels.length:Int) - 1).toNat default))) (by omega) (by omega) (by omega)
  have t1':=t1
  rw [show ((0:Nat):Int)=0 from rfl] at t1' t2
  show StB Γ (N+1) (((zaJ k x (lbV Γ.lb (wI (x.labels.getD ((x.labels.length:Int) - 1).toNat default)),setB c1 (!lbB Γ.lb (wI (x.labels.getD ((x.labels.length:Int) - 1).toNat default)))) (setB c1 (!lbB Γ.lb (wI (x.labels.getD ((x.labels.length:Int) - 1).toNat default)))) 0).bind fun j6 => (zac j6 (lbV Γ.lb (wI (x.labels.getD ((x.labels.length:Int) - 1).toNat default)))).bind fun x7 => (zap x7.2).bind fun x9 => some x9).bind fun x45 => some x45) ((zaY K Γ.env x (lbV Γ.lb (wI (x.labels.getD ((x.labels.length:Int) - 1).toNat default)),lbB Γ.lb (wI (x.labels.getD ((x.labels.length:Int) - 1).toNat default))) 0 (lbB Γ.lb (wI (x.labels.getD ((x.labels.length:Int) - 1).toNat default)))).bind fun j5 => (if s1.ok=true then some j5 else some false).bind (fun j6 => ((zag (St8.mk s1.l s1.under s1.away s1.dead s1.most j6) (lbV Γ.lb (wI (x.labels.getD ((x.labels.length:Int) - 1).toNat default)))).bind fun x7 => ((zby x7.1).bind fun x11 => some x11))))
  rw [t1',t2,Option.bind_some,Option.bind_some,zzY]
  have ha:=zjV h1 (!b')
  rw [Bool.not_not] at ha
  obtain ⟨v2,c2,v2',s2,e5,e6,h2,_⟩:=zbN g ha (Vk.of3 (lbK o.lb (wI (x.labels.getD ((x.labels.length:Int) - 1).toNat default))))
  have e6':zag (St8.mk s1.l s1.under s1.away s1.dead s1.most (s1.ok&&b')) (lbV Γ.lb (wI (x.labels.getD ((x.labels.length:Int) - 1).toNat default)))=some (s2,v2'):=e6
  rw [e5,e6',Option.bind_some,Option.bind_some]
  obtain ⟨c3,s3,e7,e8,h3⟩:=zmr g h2
  exact ⟨c3,s3,by rw [e7]; rfl,by rw [e8]; rfl,h3.mono (by omega)⟩
theorem zCd (x:Instr) (K:Nat) (hK:10<K) (ha:0≤x.align):zaM K x 1 0=some (if x.align≤3 then 2 ^ x.align.toNat else 16):=by
 obtain ⟨k,rfl⟩:∃ k,K=k+6:=⟨K - 6,by omega⟩
 have w1:wI (2 * 1)=2:=by decide
 have w2:wI (2 * 2)=4:=by decide
 have w3:wI (2 * 4)=8:=by decide
 have w4:wI (2 * 8)=16:=by decide
 have u0:IntKind.wrap .u32 (0+1)=1:=by decide
 have u1:IntKind.wrap .u32 (1+1)=2:=by decide
 have u2:IntKind.wrap .u32 (2+1)=3:=by decide
 have u3:IntKind.wrap .u32 (3+1)=4:=by decide
 have hc:x.align=0∨x.align=1∨x.align=2∨x.align=3∨4≤x.align:=by omega
 rcases hc with h | h | h | h | h
 ·simp only [zaM,h]; rfl
 ·simp only [zaM,h,w1,u0]; rfl
 ·simp only [zaM,h,w1,w2,u0,u1]; rfl
 ·simp only [zaM,h,w1,w2,w3,u0,u1,u2]; rfl
 ·have d0:decide (0<x.align)=true:=decide_eq_true (by omega)
  have d1:decide (1<x.align)=true:=decide_eq_true (by omega)
  have d2:decide (2<x.align)=true:=decide_eq_true (by omega)
  have d3:decide (3<x.align)=true:=decide_eq_true (by omega)
  simp only [zaM,w1,w2,w3,w4,u0,u1,u2,u3,d0,d1,d2,d3]
  rw [if_neg (by omega:¬ x.align≤3)]
  have d4:decide ((16:Int)≤8)=false:=by decide
  rw [d4,Bool.and_false]
  rfl
theorem zBO (x:Instr) (ha:0≤x.align) (n:Int) (hn:0≤n∧n≤8) :
  (if decide (x.align>(3:Int))=true then true else decide ((wI (1 * 2 ^ (min x.align.toNat (IntKind.bits .i64))))>n)) = !decide ((if x.align≤3 then (2:Int) ^ x.align.toNat else 16)≤n):=by
 by_cases h:x.align≤3
 ·rw [if_neg (by simp; omega),if_pos h]
  have hc:x.align=0∨x.align=1∨x.align=2∨x.align=3:=by omega
  have e:wI (1 * 2 ^ (min x.align.toNat (IntKind.bits .i64)))=(2:Int) ^ x.align.toNat:=by
   rcases hc with h | h | h | h <;> rw [h] <;> decide
  rw [e]
  by_cases h2:(2:Int) ^ x.align.toNat≤n
  ·rw [decide_eq_true h2,decide_eq_false (by omega)]; rfl
  ·rw [decide_eq_false h2,decide_eq_true (by omega)]; rfl
 ·rw [if_pos (by simp; omega),if_neg h,decide_eq_false (by omega)]; rfl
theorem n32 (n:Int):(n!=wI (IntKind.wrap .i32 n))=((decide (n<((-2147483648):Int)))||(decide (n≥(2147483648:Int)))):=by
 rw [IntKind.wrap_i32,wI_small (by omega) (by omega)]
 by_cases h:n < -2147483648
 ·rw [decide_eq_true h,Bool.true_or]
  simp only [bne_iff_ne,ne_eq]
  omega
 ·by_cases h2:n≥2147483648
  ·rw [decide_eq_true h2,Bool.or_true]
   simp only [bne_iff_ne,ne_eq]
   omega
  ·rw [decide_eq_false h,decide_eq_false h2]
   have:n=(n+2147483648) % 4294967296 - 2147483648:=by omega
   rw [← this]; simp
theorem zBq {Γ:Ctx} {N P K:Nat} {c:Checker} {s:St8} (g:Gd Γ N) (o:COk Γ P) (h:Sim Γ N c s) (hk:s.ok=true) (x:Instr) (h0:0≤x.op) (h1:x.op<256) (ha:0≤x.align) (hK:P<K) :
  StB Γ (N+1) (zaV c x) (zcs K Γ.env s x):=by
 obtain ⟨t,is,f,n,bs,S⟩:=zAT x.op h0 h1
 obtain ⟨e,q1,a1⟩:=S.sg
 obtain ⟨p,r,q2,a2⟩:=S.rsg
 obtain ⟨f',fe,q3,a3⟩:=S.fo
 obtain ⟨fe',q4⟩:=S.rfo
 obtain ⟨n',sg,be,q5,a5⟩:=S.by_
 obtain ⟨sg',q6⟩:=S.rby
 have fl:=h.fld
 have hcb:c.bad=false:=by rw [h.bad,hk]; rfl
 unfold zaV zcs
 rw [q1,q2,q4,q6,Option.bind_some,Option.bind_some,Option.bind_some,Option.bind_some]
 cases is with
 | false => 
  rw [if_pos (by rw [a1]; rfl),if_pos (by rfl)]
  have hb:=h.badV
  rw [setB_true] at hb
  exact StB.ofB ⟨_,rfl,hb.mono (by omega)⟩ ⟨_,rfl,h.badR.mono (by omega)⟩
 | true => 
  obtain ⟨rfl,rfl⟩:=a2 rfl
  obtain ⟨rfl,a3'⟩:=a3 rfl
  obtain ⟨rfl,a5'⟩:=a5 rfl
  obtain ⟨tok,hn⟩:=S.tok rfl
  have tok':TOk P t:=⟨tok.1,tok.2.1,by have:=tok.2.2; have:=o.P1; omega⟩
  rw [if_neg (by rw [a1]; decide),q5,Option.bind_some]
  have hal:∃ b:Bool,(if be.isNone=true then (if c.bad=true then some (Checker.mk c.m c.t c.locals c.stack c.frames c.labels c.most true) else (if (decide (x.align>(3:Int)))=true then some (Checker.mk c.m c.t c.locals c.stack c.frames c.labels c.most true) else gd (¬ x.align<0) (some (Checker.mk c.m c.t c.locals c.stack c.frames c.labels c.most (decide ((wI (1 * 2 ^ (min x.align.toNat (IntKind.bits .i64))))>n')))))).bind (fun j16 => some j16) else some c)=some (setB c (!b)) ∧
    (if bs=true then (zaM K x 1 0).bind (fun j10 => (if s.ok=true then some (decide (j10≤n')) else some false).bind (fun j11 => some j11)) else some s.ok)=some (s.ok&&b):=by
   rw [a5']
   cases bs with
   | false => exact ⟨true,by rw [if_neg (by decide),Bool.not_true,setB_false],by rw [if_neg (by decide),Bool.and_true]⟩
   | true => 
    refine ⟨decide ((if x.align≤3 then (2:Int) ^ x.align.toNat else 16)≤n'),?_,?_⟩
    ·rw [if_pos rfl,← zBO x ha n' hn,if_neg (by rw [hcb]; decide)]
     by_cases h3:decide (x.align>(3:Int))=true
     ·rw [if_pos h3,if_pos h3,setB_true]; rfl
     ·rw [if_neg h3,if_neg h3,zaC (by omega)]
      unfold setB
      rw [hcb]; rfl
    ·rw [if_pos rfl,zCd x K (by have:=o.P1; omega) ha,Option.bind_some,hk]
     rfl
  obtain ⟨b,b1,b2⟩:=hal
  have key:∀ (A:Option Checker) (B:Option Bool) (F:Checker→Option Checker) (G:Bool→Option St8),A=some (setB c (!b))→B=some (s.ok&&b)→StB Γ (N+1) (F (setB c (!b))) (G (s.ok&&b))→StB Γ (N+1) (A.bind F) (B.bind G):=by
   intro A B F G h1 h2 h3
   rw [h1,h2]; exact h3
  have ha2:=zjV h (!b)
  rw [Bool.not_not] at ha2
  have em:(bif ((f'==(4:Int))||(f'==(5:Int))) then ((((setB c (!b)).m.memories.length:Int)==(0:Int))||((f'==(1:Int))&&(x.n!=(wI (IntKind.wrap .i32 x.n))))) else ((f'==(1:Int))&&(x.n!=(wI (IntKind.wrap .i32 x.n)))))=(bif (f'==(4:Int)) then (((Γ.m.memories.length:Int)==(0:Int))||((f'==(1:Int))&&((decide (x.n<((-2147483648):Int)))||(decide (x.n≥(2147483648:Int)))))) else (bif (f'==(5:Int)) then (((Γ.m.memories.length:Int)==(0:Int))||((f'==(1:Int))&&((decide (x.n<((-2147483648):Int)))||(decide (x.n≥(2147483648:Int)))))) else ((f'==(1:Int))&&((decide (x.n<((-2147483648):Int)))||(decide (x.n≥(2147483648:Int))))))):=by
   rw [n32,show (setB c (!b)).m=Γ.m from fl.1]
   cases f'==(4:Int) <;> cases f'==(5:Int) <;> rfl
  by_cases hF:(bif (f'==(4:Int)) then (((Γ.m.memories.length:Int)==(0:Int))||((f'==(1:Int))&&((decide (x.n<((-2147483648):Int)))||(decide (x.n≥(2147483648:Int)))))) else (bif (f'==(5:Int)) then (((Γ.m.memories.length:Int)==(0:Int))||((f'==(1:Int))&&((decide (x.n<((-2147483648):Int)))||(decide (x.n≥(2147483648:Int)))))) else ((f'==(1:Int))&&((decide (x.n<((-2147483648):Int)))||(decide (x.n≥(2147483648:Int)))))))=true
  ·have hc0:((!(t.params,t.result,true).2.2)||(bif ((f',fe').1==(4:Int)) then (((Γ.env.m.memories.length:Int)==(0:Int))||(((f',fe').1==(1:Int))&&((decide (x.n<((-2147483648):Int)))||(decide (x.n≥(2147483648:Int)))))) else (bif ((f',fe').1==(5:Int)) then (((Γ.env.m.memories.length:Int)==(0:Int))||(((f',fe').1==(1:Int))&&((decide (x.n<((-2147483648):Int)))||(decide (x.n≥(2147483648:Int)))))) else (((f',fe').1==(1:Int))&&((decide (x.n<((-2147483648):Int)))||(decide (x.n≥(2147483648:Int))))))))=true:=hF
   rw [if_pos hc0]
   refine StB.ofB ?_ ⟨_,rfl,h.badR.mono (by omega)⟩
   obtain ⟨c',e5,hb⟩:=callB g ha2.badV t (by have:=tok.2.2; omega)
   refine ⟨c',?_,hb⟩
   refine (congrArg (fun o => Option.bind o _) b1).trans ?_
   rw [Option.bind_some,q3,Option.bind_some]
   have hc1:((!(f',fe).2.isNone)||(bif (((f',fe).1==(4:Int))||((f',fe).1==(5:Int))) then ((((setB c (!b)).m.memories.length:Int)==(0:Int))||(((f',fe).1==(1:Int))&&(x.n!=(wI (IntKind.wrap .i32 x.n))))) else (((f',fe).1==(1:Int))&&(x.n!=(wI (IntKind.wrap .i32 x.n))))))=true:=by
    show ((!fe.isNone)||_)=true
    rw [a3']
    exact em.trans hF
   rw [if_pos hc1,Option.bind_some,← setB_true,e5]
   rfl
  ·have hc0:¬ ((!(t.params,t.result,true).2.2)||(bif ((f',fe').1==(4:Int)) then (((Γ.env.m.memories.length:Int)==(0:Int))||(((f',fe').1==(1:Int))&&((decide (x.n<((-2147483648):Int)))||(decide (x.n≥(2147483648:Int)))))) else (bif ((f',fe').1==(5:Int)) then (((Γ.env.m.memories.length:Int)==(0:Int))||(((f',fe').1==(1:Int))&&((decide (x.n<((-2147483648):Int)))||(decide (x.n≥(2147483648:Int)))))) else (((f',fe').1==(1:Int))&&((decide (x.n<((-2147483648):Int)))||(decide (x.n≥(2147483648:Int))))))))=true:=hF
   rw [if_neg hc0]
   refine key _ _ _ _ b1 b2 ?_
   rw [q3,Option.bind_some]
   have hc1:¬ ((!(f',fe).2.isNone)||(bif (((f',fe).1==(4:Int))||((f',fe).1==(5:Int))) then ((((setB c (!b)).m.memories.length:Int)==(0:Int))||(((f',fe).1==(1:Int))&&(x.n!=(wI (IntKind.wrap .i32 x.n))))) else (((f',fe).1==(1:Int))&&(x.n!=(wI (IntKind.wrap .i32 x.n))))))=true:=by
    intro hh
    apply hF
    rw [← em]
    have hh':((!fe.isNone)||_)=true:=hh
    rw [a3'] at hh'
    exact hh'
   rw [if_neg hc1,Option.bind_some]
   obtain ⟨c',s',e5,e6,h'⟩:=zxk g ha2 tok' o.P0 hK
   refine ⟨c',s',by rw [e5]; rfl,?_,h'⟩
   show ((zbK K (setO s b) t).bind fun x8 => some x8)=_
   rw [e6]; rfl
instance (r:Int):Decidable (K3 r):=by unfold K3; infer_instance
theorem zAR (r:Int):zaR r=some (decide (K3 r)):=by
 unfold zaR
 by_cases h0:r=0
 ·subst h0; rfl
 by_cases h1:r=127
 ·subst h1; rfl
 by_cases h2:r=126
 ·subst h2; rfl
 have hn:¬ K3 r:=by unfold K3; omega
 rw [decide_eq_false hn]
 simp [h0,h1,h2]
theorem zCk (r:Int):((r!=(0:Int))&&((r!=(127:Int))&&(r!=(126:Int)))) = !decide (K3 r):=by
 by_cases h0:r=0
 ·subst h0; rfl
 by_cases h1:r=127
 ·subst h1; rfl
 by_cases h2:r=126
 ·subst h2; rfl
 have hn:¬ K3 r:=by unfold K3; omega
 rw [decide_eq_false hn]
 simp [h0,h1,h2]
def IH (Γ:Ctx) (N k:Nat) (L:List Instr):Prop:=
 ∀ (lab:Int),K3 lab→∀ (l:List Int) (aw dd:Bool) (c:Checker) (s:St8),l.length≤N→Sim (Γ.sub l aw dd lab) 0 c s→∃ c' s',zal (k+2) c L=some c'∧zaB (k+2) (Γ.sub l aw dd lab).env s L=some s'∧Sim (Γ.sub l aw dd lab) L.length c' s'
theorem zzz (c:Checker) (r:Int):(if c.bad=true then some (Checker.mk c.m c.t c.locals c.stack c.frames c.labels c.most true) else (zaR r).bind fun x4 => some (Checker.mk c.m c.t c.locals c.stack c.frames c.labels c.most (!x4)))=some (setB c (!decide (K3 r))):=by
 rw [zAR,Option.bind_some]
 exact zBg c _
theorem zBr {Γ:Ctx} {N P k:Nat} {c:Checker} {s:St8} (o:COk Γ P) (h:Sim Γ N c s) (x:Instr) (hx:x.op=2∨x.op=3∨x.op=4)
  (g:Gd Γ (N+x.body.length+x.els.length+1)) (hf:Γ.fr.length+1<1000000000) (hl:Γ.lb.length+1<1000000000) (i1:IH Γ N k x.body) (i2:IH Γ N k x.els) :
  StB Γ (N+1) (zab (k+4) c x) (zbo (k+4) Γ.env s x):=by
 obtain ⟨op,n,al,of_,res,body,els,labels⟩:=x
 have gN:Gd Γ N:=g.mono (by omega)
 have g1:Gd Γ (N+body.length+1):=g.mono (by show N+body.length+1≤N+body.length+els.length+1; omega)
 have g2:Gd Γ (N+els.length+1):=g.mono (by show N+els.length+1≤N+body.length+els.length+1; omega)
 have L0:∀ {c s},Sim Γ N c s→K3 res→∃ c' s',((zah c res).bind fun x10 => some x10)=some c'∧((zaH s res).bind fun x2 => some x2)=some s'∧Sim Γ (N+1) c' s':=fun h hr => by
  obtain ⟨c',s',e1,e2,h'⟩:=zlQ gN h (Vk.of3 hr)
  exact ⟨c',s',by rw [e1]; rfl,by rw [e2]; rfl,h'⟩
 have LB:∀ {c},BadV Γ N c→∃ c',((zah c res).bind fun x10 => some x10)=some c'∧BadV Γ (N+1) c':=fun h => by
  obtain ⟨c',e1,h'⟩:=layB gN h res
  exact ⟨c',by rw [e1]; rfl,h'⟩
 have eb:∀ op,zbo (k+4) Γ.env s (Instr.mk op n al of_ res body els labels)=if ((res!=(0:Int))&&((res!=(127:Int))&&(res!=(126:Int))))=true then some (St8.mk s.l s.under s.away s.dead s.most false) else (if (op==(2:Int))=true then ((zaF (k+3) Γ.env s body res res).bind fun x4 => some x4) else (if (op==(3:Int))=true then ((zaF (k+3) Γ.env s body res 0).bind fun x6 => some x6) else ((zag s 127).bind fun x8 => ((zaF (k+3) Γ.env x8.1 body res res).bind fun x10 => ((zaF (k+3) Γ.env x10 els res res).bind fun x12 => some x12))))).bind (fun j1 => ((zaH j1 res).bind fun x2 => some x2)):=fun op => by
  simp only [zbo]; rfl
 rw [eb,zCk]
 have hx':op=2∨op=3∨op=4:=hx
 rcases hx' with rfl | rfl | rfl
 ·have e1:zab (k+4) c (Instr.mk 2 n al of_ res body els labels)=(if c.bad=true then some (Checker.mk c.m c.t c.locals c.stack c.frames c.labels c.most true) else (zaR res).bind fun x4 => some (Checker.mk c.m c.t c.locals c.stack c.frames c.labels c.most (!x4))).bind fun j6 => (zaj (k+3) j6 body res res).bind fun x8 => (zah x8 res).bind fun x10 => some x10:=by
   simp only [zab]; rfl
  rw [e1,zzz,Option.bind_some]
  by_cases hr:K3 res
  ·rw [decide_eq_true hr,if_neg (by decide),if_pos (by rfl),Bool.not_true,setB_false]
   obtain ⟨c',s',e3,e4,h'⟩:=zmt body hr g1 hf hl (i1 res hr) h
   rw [e3,e4]
   exact L0 h' hr
  ·rw [decide_eq_false hr,if_pos (by decide),Bool.not_false]
   obtain ⟨c',e3,hb⟩:=innerB (k:=k) gN hf hl h.badV body res res
   rw [e3]
   exact StB.ofB (LB hb) ⟨_,rfl,h.badR.mono (by omega)⟩
 ·have e1:zab (k+4) c (Instr.mk 3 n al of_ res body els labels)=(if c.bad=true then some (Checker.mk c.m c.t c.locals c.stack c.frames c.labels c.most true) else (zaR res).bind fun x4 => some (Checker.mk c.m c.t c.locals c.stack c.frames c.labels c.most (!x4))).bind fun j6 => (zaj (k+3) j6 body res 0).bind fun x8 => (zah x8 res).bind fun x10 => some x10:=by
   simp only [zab]; rfl
  rw [e1,zzz,Option.bind_some]
  by_cases hr:K3 res
  ·rw [decide_eq_true hr,if_neg (by decide),if_neg (by decide),if_pos (by rfl),Bool.not_true,setB_false]
   obtain ⟨c',s',e3,e4,h'⟩:=zmt body hr g1 hf hl (i1 0 (.inl rfl)) h
   rw [e3,e4]
   exact L0 h' hr
  ·rw [decide_eq_false hr,if_pos (by decide),Bool.not_false]
   obtain ⟨c',e3,hb⟩:=innerB (k:=k) gN hf hl h.badV body res 0
   rw [e3]
   exact StB.ofB (LB hb) ⟨_,rfl,h.badR.mono (by omega)⟩
 ·have e1:zab (k+4) c (Instr.mk 4 n al of_ res body els labels)=(if c.bad=true then some (Checker.mk c.m c.t c.locals c.stack c.frames c.labels c.most true) else (zaR res).bind fun x4 => some (Checker.mk c.m c.t c.locals c.stack c.frames c.labels c.most (!x4))).bind fun j19 => (zac j19 127).bind fun x20 => (zaj (k+3) x20.2 body res res).bind fun x22 => (zaj (k+3) x22 els res res).bind fun x24 => (zah x24 res).bind fun x26 => some x26:=by
   simp only [zab]; rfl
  rw [e1,zzz,Option.bind_some]
  by_cases hr:K3 res
  ·rw [decide_eq_true hr,if_neg (by decide),if_neg (by decide),if_neg (by decide),Bool.not_true,setB_false]
   obtain ⟨v,c0,v',s0,e5,e6,h0,_⟩:=zbN gN h (Vk.of2 (x:=127) (.inr rfl))
   rw [e5,e6,Option.bind_some,Option.bind_some]
   obtain ⟨c1,s1,e3,e4,h1⟩:=zmt body hr g1 hf hl (i1 res hr) h0
   rw [e3,e4,Option.bind_some,Option.bind_some]
   obtain ⟨c2,s2,e7,e8,h2⟩:=zmt els hr g2 hf hl (i2 res hr) h1
   rw [e7,e8]
   exact L0 h2 hr
  ·rw [decide_eq_false hr,if_pos (by decide),Bool.not_false]
   obtain ⟨v,c0,e5,h0⟩:=takeB gN h.badV 127
   rw [e5,Option.bind_some]
   obtain ⟨c',e3,hb⟩:=innerB (k:=k) gN hf hl h0 body res res
   rw [e3,Option.bind_some]
   obtain ⟨c'',e4,hb'⟩:=innerB (k:=k) gN hf hl hb els res res
   rw [e4]
   exact StB.ofB (LB hb') ⟨_,rfl,h.badR.mono (by omega)⟩
def stepR (k:Nat) (p0:Env8) (a4:St8) (x:Instr):Option St8:=
 if ((x.op)==(0:Int))=true then ((zby a4).bind fun x9 => some x9) else (if ((x.op)==(1:Int))=true then some a4 else (if ((decide ((x.op)≥(2:Int)))&&(decide ((x.op)≤(4:Int))))=true then ((zbo k p0 a4 x).bind fun x11 => some x11) else (if ((decide ((x.op)≥(12:Int)))&&(decide ((x.op)≤(14:Int))))=true then ((zbk k p0 a4 x).bind fun x13 => some x13) else (if ((x.op)==(15:Int))=true then ((zag a4 p0.result).bind fun x15 => ((zby x15.1).bind fun x17 => some x17)) else (if (((x.op)==(16:Int))||((x.op)==(17:Int)))=true then ((zbX k p0 a4 x).bind fun x19 => some x19) else (if ((x.op)==(26:Int))=true then ((zag a4 255).bind fun x21 => some x21.1) else (if ((x.op)==(27:Int))=true then ((zag a4 127).bind fun x23 => ((zag x23.1 255).bind fun x25 => ((zag x25.1 x25.2).bind fun x27 => ((zaH x27.1 x27.2).bind fun x29 => some x29)))) else (if ((decide ((x.op)≥(32:Int)))&&(decide ((x.op)≤(36:Int))))=true then ((zaA p0 a4 x).bind fun x31 => some x31) else ((zcs k p0 a4 x).bind fun x33 => some x33)))))))))
def stepR' (k:Nat) (e:Env8) (s:St8) (x:Instr):Option St8:=if s.ok=true then stepR k e s x else some s
theorem zAQ (k:Nat) (e:Env8) (l:List Instr) {s:St8} (h:s.ok=false):l.foldlM (stepR' k e) s=some s:=by
 induction l with
 | nil => rfl
 | cons x l ih => 
  rw [List.foldlM_cons]
  have:stepR' k e s x=some s:=by unfold stepR'; rw [h]; rfl
  rw [this]; exact ih
theorem zAg (k:Nat) (e:Env8) (s:St8) (l:List Instr) (hk:l.length<k) (hs:l.length<1000000000):zaB (k+1) e s l=l.foldlM (stepR' k e) s:=by
 simp only [zaB]
 rw [Option.bind_fun_some]
 have key:∀ (q i:Nat) (s:St8),i≤l.length→l.length - i<q→lpN q (fun (rec6:St8×Int→Option (St8)) v => match v with | (a4,a5) => (if ((decide (a5<(l.length:Int)))&&a4.ok)=true then (gd (0≤a5∧a5<(l.length:Int)) (stepR k e a4 (l.getD a5.toNat default))).bind (fun j7 => rec6 (j7,(wI (a5+1)))) else some a4)) (s,(i:Int))=(l.drop i).foldlM (stepR' k e) s:=by
  intro q
  induction q with
  | zero => intro i s _ h; omega
  | succ q ih => 
   intro i s h1 h2
   simp only [lpN]
   by_cases h:i<l.length
   ·rw [dropS l i h,List.foldlM_cons]
    by_cases hb:s.ok=true
    ·rw [if_pos (by rw [dltT h,hb]; rfl),zaC (by omega)]
     unfold stepR'
     rw [if_pos hb,wI_nat i (by omega)]
     cases stepR k e s (l.getD (i:Int).toNat default) with
     | none => rfl
     | some c' => exact ih (i+1) c' h (by omega)
    ·have hb':s.ok=false:=by simpa using hb
     rw [if_neg (by rw [hb',Bool.and_false]; decide)]
     have:stepR' k e s (l.getD (i:Int).toNat default)=some s:=by unfold stepR'; rw [hb']; rfl
     rw [this]
     exact (zAQ k e _ hb').symm
   ·rw [if_neg (by intro hh; rw [Bool.and_eq_true] at hh; exact dltF h hh.1),List.drop_of_length_le (by omega)]
    rfl
 exact key k 0 s (Nat.zero_le _) (by omega)
mutual
def IWI:Instr→Prop
 | .mk op _ al _ _ b e _ => (0≤op∧op<256)∧0≤al∧IWL b∧IWL e
def IWL:List Instr→Prop
 | [] => True
 | x :: l => IWI x∧IWL l
end
theorem zBs {Γ:Ctx} {N P k:Nat} {c:Checker} {s:St8} (o:COk Γ P) (h:Sim Γ N c s) (x:Instr) (hw:IWI x) (hk:P+400<k)
  (g:Gd Γ (N+x.body.length+x.els.length+1)) (hf:Γ.fr.length+1<1000000000) (hl:Γ.lb.length+1<1000000000) (i1:IH Γ N k x.body) (i2:IH Γ N k x.els) :
  StB Γ (N+1) (stepC (k+4) c x) (stepR' (k+4) Γ.env s x):=by
 have gN:Gd Γ N:=g.mono (by omega)
 unfold stepC stepR'
 by_cases hk':s.ok=true
 rotate_left
 ·have hb:s.ok=false:=by simpa using hk'
  rw [if_pos (by rw [h.bad,hb]; rfl),if_neg hk']
  exact ⟨c,s,rfl,rfl,h.mono (by omega)⟩
 rw [if_neg (by rw [h.bad,hk']; decide),if_pos hk']
 have hop:(0≤x.op∧x.op<256)∧0≤x.align:=by
  cases x; simp only [IWI] at hw; exact ⟨hw.1,hw.2.1⟩
 obtain ⟨⟨o1,o2⟩,o3⟩:=hop
 unfold stepR
 simp only [Option.bind_fun_some]
 by_cases q0:x.op=0
 ·rw [if_pos (by rw [q0]; decide),if_pos (by rw [q0]; decide)]
  simp only [zab]
  rw [if_pos (by rw [q0]; decide)]
  obtain ⟨c',s',e1,e2,h'⟩:=zmr gN h
  exact ⟨c',s',by rw [e1]; rfl,e2,h'.mono (by omega)⟩
 by_cases q1:x.op=1
 ·rw [if_pos (by rw [q1]; decide),if_neg (by rw [q1]; decide),if_pos (by rw [q1]; decide)]
  simp only [zab]
  rw [if_neg (by rw [q1]; decide),if_pos (by rw [q1]; decide)]
  exact ⟨c,s,rfl,rfl,h.mono (by omega)⟩
 rw [if_neg (c:=(x.op==(0:Int))=true) (by simpa using q0),if_neg (c:=(x.op==(1:Int))=true) (by simpa using q1)]
 by_cases q2:x.op=2∨x.op=3∨x.op=4
 ·rw [if_pos (by simp; omega),if_pos (by simp; omega)]
  exact zBr o h x q2 g hf hl i1 i2
 rw [if_neg (c:=(decide (x.op≥2)&&decide (x.op≤4))=true) (by simp; omega)]
 by_cases q3:x.op=12
 ·rw [if_pos (by simp; omega),if_pos (by simp; omega)]
  exact zCI gN o h x _ q3
 by_cases q4:x.op=13
 ·rw [if_pos (by simp; omega),if_pos (by simp; omega)]
  exact zCc gN o h x _ q4
 by_cases q5:x.op=14
 ·rw [if_pos (by simp; omega),if_pos (by simp; omega)]
  exact zBp gN o h x _ q5 (by omega) (by omega)
 rw [if_neg (c:=(decide (x.op≥12)&&decide (x.op≤14))=true) (by simp; omega)]
 by_cases q6:x.op=15
 ·rw [if_pos (by simp; omega),if_pos (by simp [q6])]
  have e1:zab (k+4) c x=(zac c c.t.result).bind fun x47 => (zap x47.2).bind fun x49 => some x49:=by
   obtain ⟨op,n,al,of_,res,body,els,labels⟩:=x
   obtain rfl:op=15:=q6
   simp only [zab]; rfl
  rw [e1,h.fld.2.1]
  obtain ⟨v,c',v',s',e3,e4,h',_⟩:=zbN gN h (Vk.of3 o.res)
  have e4':zag s Γ.env.result=some (s',v'):=e4
  rw [e3,e4',Option.bind_some,Option.bind_some]
  obtain ⟨c2,s2,e5,e6,h2⟩:=zmr gN h'
  exact ⟨c2,s2,by rw [e5]; rfl,e6,h2.mono (by omega)⟩
 rw [if_neg (c:=(x.op==(15:Int))=true) (by simpa using q6)]
 by_cases q7:x.op=16
 ·rw [if_pos (by simp; omega),if_pos (by simp [q7])]
  exact (zzF gN o h hk' (by omega) x _).1 q7
 by_cases q8:x.op=17
 ·rw [if_pos (by simp; omega),if_pos (by simp [q8])]
  exact (zzF gN o h hk' (by omega) x _).2 q8
 rw [if_neg (c:=(x.op==(16:Int)||x.op==(17:Int))=true) (by simp [q7,q8])]
 by_cases q9:x.op=26
 ·rw [if_neg (by simp; omega),if_pos (by simp [q9])]
  have e1:zai c x=(zac c 1).bind fun x1 => some x1.2:=by
   unfold zai; rw [if_pos (by simp [q9])]
  rw [e1]
  obtain ⟨v,c',v',s',e3,e4,h',_⟩:=zbN gN h Vk.any
  exact ⟨c',s',by rw [e3]; rfl,by rw [e4]; rfl,h'.mono (by omega)⟩
 rw [if_neg (c:=(x.op==(26:Int))=true) (by simpa using q9)]
 by_cases q10:x.op=27
 ·rw [if_neg (by simp; omega),if_pos (by simp [q10])]
  have e1:zai c x=(zac c 127).bind fun x3 => (zac x3.2 1).bind fun x5 => (zac x5.2 x5.1).bind fun x7 => (zah x7.2 x7.1).bind fun x9 => some x9:=by
   unfold zai; rw [if_neg (by simp [q10]),if_pos (by simp [q10])]
  rw [e1]
  obtain ⟨v,c',v',s',e3,e4,h',_⟩:=zbN gN h (Vk.of2 (x:=127) (.inr rfl))
  rw [e3,e4,Option.bind_some,Option.bind_some]
  obtain ⟨v2,c2,v2',s2,e5,e6,h2,k2⟩:=zbN gN h' Vk.any
  rw [e5,e6,Option.bind_some,Option.bind_some]
  obtain ⟨v3,c3,v3',s3,e7,e8,h3,k3⟩:=zbN gN h2 k2
  rw [e7,e8,Option.bind_some,Option.bind_some]
  obtain ⟨c4,s4,e9,e10,h4⟩:=zlQ gN h3 k3
  exact ⟨c4,s4,by rw [e9]; rfl,e10,h4⟩
 rw [if_neg (c:=(x.op==(27:Int))=true) (by simpa using q10)]
 by_cases q11:32≤x.op∧x.op≤36
 ·rw [if_neg (by simp; omega),if_pos (by simp; omega)]
  exact zze gN o h hk' x q11.1 q11.2
 rw [if_neg (c:=(decide (x.op≥32)&&decide (x.op≤36))=true) (by simp; omega)]
 by_cases q12:x.op<26
 ·rw [if_pos (by simpa using q12)]
  have hB:zab (k+4) c x=some (Checker.mk c.m c.t c.locals c.stack c.frames c.labels c.most true):=by
   simp only [zab]
   have r2:(if (x.op==(2:Int))=true then some (x.op==(2:Int)) else some (x.op==(3:Int)))=some false:=by
    rw [if_neg (by simp; omega)]
    congr 1
    simp; omega
   rw [if_neg (by simp; omega),if_neg (by simp; omega),r2,Option.bind_some,if_neg (by decide),if_neg (by simp; omega),if_neg (by simp; omega),if_neg (by simp; omega),if_neg (by simp; omega),if_neg (by simp; omega),if_neg (by simp; omega),if_neg (by simp; omega)]
  rw [hB]
  obtain ⟨t,is,f,n,bs,S⟩:=zAT x.op o1 o2
  obtain ⟨p,r,r1,_⟩:=S.rsg
  obtain ⟨fe,r2⟩:=S.rfo
  obtain ⟨sg,r3⟩:=S.rby
  have his:is=false:=S.low q12 (by omega) (by omega)
  subst his
  unfold zcs
  rw [r1,r2,r3,Option.bind_some,Option.bind_some,Option.bind_some,if_pos (by rfl)]
  have hb:=h.badV
  rw [setB_true] at hb
  exact StB.ofB ⟨_,rfl,hb.mono (by omega)⟩ ⟨_,rfl,h.badR.mono (by omega)⟩
 ·rw [if_neg (by simpa using q12)]
  have e1:zai c x=(zaV c x).bind fun x37 => some x37:=by
   unfold zai
   rw [if_neg (by simp; omega),if_neg (by simp; omega),if_neg (by simp; omega),if_neg (by simp; omega),if_neg (by simp; omega),if_neg (by simp; omega),if_neg (by simp; omega)]
  rw [e1,Option.bind_fun_some]
  exact zBq gN o h hk' x o1 o2 o3 (by omega)
theorem zBt:∀ (K:Nat) (Γ:Ctx) (N P:Nat) (c:Checker) (s:St8) (L:List Instr),COk Γ P→IWL L→wtL L+P+500≤K→wtL L<1000000000→Gd Γ (N+3 * wtL L)→Γ.fr.length+wtL L<1000000000→Γ.lb.length+wtL L<1000000000→Sim Γ N c s →
  ∃ c' s',zal K c L=some c'∧zaB K Γ.env s L=some s'∧Sim Γ (N+L.length) c' s':=by
 intro K
 induction K using Nat.strongRecOn with
 | _ K ihK => 
 intro Γ N P c s L o hw hK hW g hf hl h
 obtain ⟨k,rfl⟩:∃ k,K=k+4+1:=⟨K - 5,by omega⟩
 have hLn:=wtL_pos L
 rw [zAV (k+4) c L (by omega) (by omega),zAg (k+4) Γ.env s L (by omega) (by omega)]
 have key:∀ (M:List Instr) (N':Nat) (c:Checker) (s:St8),IWL M→wtL M≤wtL L→N'+3 * wtL M≤N+3 * wtL L→Sim Γ N' c s→∃ c' s',M.foldlM (stepC (k+4)) c=some c'∧M.foldlM (stepR' (k+4) Γ.env) s=some s'∧Sim Γ (N'+M.length) c' s':=by
  intro M
  induction M with
  | nil => intro N' c s _ _ _ h; exact ⟨c,s,rfl,rfl,h⟩
  | cons x M ihM => 
   intro N' c s hw hm hn h
   simp only [IWL] at hw
   simp only [wtL] at hm hn
   have hx:=wtI_eq x
   have hbp:=wtL_pos x.body
   have hep:=wtL_pos x.els
   have hMp:=wtL_pos M
   have hwb:IWL x.body∧IWL x.els:=by
    have:=hw.1
    cases x; simp only [IWI] at this; exact this.2.2
   have gun:=g.un
   have gI:∀ (B:List Instr),IWL B→wtL B+4≤wtI x+wtL M→IH Γ N' k B:=by
    intro B hB1 hB2 lab hlab l aw dd c s hll hs
    have:=ihK (k+2) (by omega) (Γ.sub l aw dd lab) 0 P c s B (o.sub l aw dd hlab) hB1 (by omega) (by omega)
     (by
      have g':Gd Γ (l.length+(0+3 * wtL B)):=g.mono (by omega)
      exact g'.sub (N:=0) (by omega) (by omega))
     (by simp only [Ctx.sub,List.length_append,List.length_cons,List.length_nil]; omega)
     (by simp only [Ctx.sub,List.length_append,List.length_cons,List.length_nil]; omega) hs
    rwa [Nat.zero_add] at this
   obtain ⟨c1,s1,e1,e2,h1⟩:=zBs (k:=k) o h x hw.1 (by omega) (g.mono (by omega)) (by omega) (by omega) (gI _ hwb.1 (by omega)) (gI _ hwb.2 (by omega))
   obtain ⟨c2,s2,e3,e4,h2⟩:=ihM (N'+1) c1 s1 hw.2 (by omega) (by omega) h1
   refine ⟨c2,s2,?_,?_,?_⟩
   ·rw [List.foldlM_cons,e1]; exact e3
   ·rw [List.foldlM_cons,e2]; exact e4
   ·rw [List.length_cons,show N'+(M.length+1)=N'+1+M.length by omega]; exact h2
 exact key L N c s hw (Nat.le_refl _) (Nat.le_refl _) h
instance (r:Int):Decidable (K2 r):=by unfold K2; infer_instance
theorem idxK {p:Int→Bool} {f:Int→Option Bool} (hf:∀ x,f x=some (p x)) (l:List Int) (hl:l.length<1000000000):∀ (k i:Nat),i≤l.length→l.length - i<k →
  ∃ j,zaq k l f (i:Int)=some j∧decide (j≥0)=(l.drop i).any p:=by
 intro k
 induction k with
 | zero => intro i _ h; omega
 | succ k ih => 
  intro i h1 h2
  simp only [zaq]
  by_cases h:i<l.length
  ·rw [if_pos (dltT h),zaC (by omega),hf,Option.bind_some,dropS l i h,List.any_cons]
   cases p (l.getD (i:Int).toNat default) with
   | true => exact ⟨(i:Int),by rw [if_pos rfl],by rw [Bool.true_or]; exact decide_eq_true (by omega)⟩
   | false => 
    rw [if_neg (by decide),wI_nat i (by omega),Bool.false_or]
    exact ih (i+1) h (by omega)
  ·rw [if_neg (dltF h),List.drop_of_length_le (by omega)]
   exact ⟨-1,rfl,rfl⟩
theorem containsK {p:Int→Bool} {f:Int→Option Bool} (hf:∀ x,f x=some (p x)) (l:List Int) (hl:l.length<1000000000) (K:Nat) (hK:l.length<K):zar K l f=some (l.any p):=by
 unfold zar zaK
 obtain ⟨j,h1,h2⟩:=idxK hf l hl K 0 (Nat.zero_le _) (by omega)
 rw [show (0:Int)=((0:Nat):Int) from rfl,h1,Option.bind_some]
 exact congrArg some h2
theorem idxG {p:Glo→Bool} {f:Glo→Option Bool} (hf:∀ x,f x=some (p x)) (l:List Glo) (hl:l.length<1000000000):∀ (k i:Nat),i≤l.length→l.length - i<k →
  ∃ j,zao k l f (i:Int)=some j∧decide (j≥0)=(l.drop i).any p:=by
 intro k
 induction k with
 | zero => intro i _ h; omega
 | succ k ih => 
  intro i h1 h2
  simp only [zao]
  by_cases h:i<l.length
  ·rw [if_pos (dltT h),zaC (by omega),hf,Option.bind_some,dropS l i h,List.any_cons]
   cases p (l.getD (i:Int).toNat default) with
   | true => exact ⟨(i:Int),by rw [if_pos rfl],by rw [Bool.true_or]; exact decide_eq_true (by omega)⟩
   | false => 
    rw [if_neg (by decide),wI_nat i (by omega),Bool.false_or]
    exact ih (i+1) h (by omega)
  ·rw [if_neg (dltF h),List.drop_of_length_le (by omega)]
   exact ⟨-1,rfl,rfl⟩
theorem containsG {p:Glo→Bool} {f:Glo→Option Bool} (hf:∀ x,f x=some (p x)) (l:List Glo) (hl:l.length<1000000000) (K:Nat) (hK:l.length<K):zat K l f=some (l.any p):=by
 unfold zat zaG
 obtain ⟨j,h1,h2⟩:=idxG hf l hl K 0 (Nat.zero_le _) (by omega)
 rw [show (0:Int)=((0:Nat):Int) from rfl,h1,Option.bind_some]
 exact congrArg some h2
theorem zzk (x:Int):zbl x=some (!decide (K2 x)):=by
 unfold zbl
 rw [Option.bind_fun_some,zAR,Option.bind_some]
 by_cases h0:x=0
 ·subst h0; rfl
 ·rw [if_neg (by simpa using h0)]
  have:K3 x↔K2 x:=by unfold K3 K2; omega
  by_cases h:K2 x
  ·rw [decide_eq_true h,decide_eq_true (this.2 h)]
  ·rw [decide_eq_false h,decide_eq_false (fun h' => h (this.1 h'))]
theorem none2_eq (x:Glo):zci x=some (!decide (K2 x.kind)):=by
 unfold zci
 rw [zzk,Option.bind_some]
theorem zzn (x:Int):zaO x false=some (decide (K2 x)):=by
 unfold zaO K2
 by_cases h1:x=127
 ·subst h1; rfl
 by_cases h2:x=126
 ·subst h2; rfl
 simp [h1,h2]
theorem kind3_eq (x:Int):zaO x true=some (decide (K3 x)):=by
 unfold zaO K3
 by_cases h1:x=127
 ·subst h1; rfl
 by_cases h2:x=126
 ·subst h2; rfl
 by_cases h3:x=0
 ·subst h3; rfl
 simp [h1,h2,h3]
def kT (t:Typ):Bool:=decide (K3 t.result)&&t.params.all fun x => decide (K2 x)
def kF (f:Fnc):Bool:=f.locals.all fun x => decide (K2 x)
def kG (g:Glo):Bool:=decide (K2 g.kind)
def kindsB (m:Mdl):Bool:=m.types.all kT&&(m.funcs.all kF&&m.globals.all kG)
structure MSz (S:Nat) (m:Mdl):Prop where
 S0:S<1000000000
 types:m.types.length<S
 typ:∀ t∈m.types,t.params.length<S
 funcs:m.funcs.length<S
 fnc:∀ f∈m.funcs,f.locals.length<S
 globals:m.globals.length<S
theorem zzC {α:Type} (p:α→Bool) (l:List α):(l.any fun x => !p x) = !l.all p:=by
 induction l with
 | nil => rfl
 | cons x l ih => rw [List.any_cons,List.all_cons,ih]; cases p x <;> rfl
theorem zAB {S K:Nat} {m:Mdl} (z:MSz S m) (hK:S≤K):∀ (k i:Nat),i≤m.funcs.length→m.funcs.length - i<k→zbP k K m (i:Int)=some ((m.funcs.drop i).all kF&&m.globals.all kG):=by
 intro k
 have s1:=z.S0; have s2:=z.funcs; have s3:=z.globals
 induction k with
 | zero => intro i _ h; omega
 | succ k ih => 
  intro i h1 h2
  simp only [zbP]
  by_cases h:i<m.funcs.length
  ·have s4:=z.fnc _ (getD_mem m.funcs i h)
   rw [if_pos (dltT h),zaC (by omega),containsK zzk _ (by omega) K (by omega),Option.bind_some,dropS m.funcs i h,List.all_cons,zzC]
   show (if (!kF (m.funcs.getD (i:Int).toNat default))=true then _ else _)=_
   cases kF (m.funcs.getD (i:Int).toNat default) with
   | false => rfl
   | true => 
    rw [if_neg (by decide),wI_nat i (by omega),Bool.true_and]
    exact ih (i+1) h (by omega)
  ·rw [if_neg (dltF h),List.drop_of_length_le (by omega),containsG none2_eq _ (by omega) K (by omega),Option.bind_some]
   rw [show (m.globals.any fun x => !decide (K2 x.kind)) = !m.globals.all kG from zzC kG m.globals,Bool.not_not]
   rfl
theorem zAC {S K:Nat} {m:Mdl} (z:MSz S m) (hK:S≤K):∀ (k i:Nat),i≤m.types.length→m.types.length - i<k→zbQ k K m (i:Int)=some ((m.types.drop i).all kT&&(m.funcs.all kF&&m.globals.all kG)):=by
 intro k
 have s1:=z.S0; have s2:=z.types; have s3:=z.funcs
 induction k with
 | zero => intro i _ h; omega
 | succ k ih => 
  intro i h1 h2
  simp only [zbQ]
  by_cases h:i<m.types.length
  ·have s4:=z.typ _ (getD_mem m.types i h)
   rw [if_pos (dltT h),zaC (by omega),zAR,Option.bind_some,containsK zzk _ (by omega) K (by omega),Option.bind_some,dropS m.types i h,List.all_cons,zzC]
   have e:(if (!decide (K3 (m.types.getD (i:Int).toNat default).result))=true then some true else some (!(m.types.getD (i:Int).toNat default).params.all fun x => decide (K2 x)))=some (!kT (m.types.getD (i:Int).toNat default)):=by
    unfold kT
    cases decide (K3 (m.types.getD (i:Int).toNat default).result) <;> rfl
   refine (congrArg (fun o => Option.bind o _) e).trans ?_
   rw [Option.bind_some]
   cases kT (m.types.getD (i:Int).toNat default) with
   | false => rfl
   | true => 
    rw [if_neg (by decide),wI_nat i (by omega),Bool.true_and]
    exact ih (i+1) h (by omega)
  ·rw [if_neg (dltF h),List.drop_of_length_le (by omega)]
   exact zAB z hK K 0 (Nat.zero_le _) (by omega)
theorem vkinds {S K:Nat} {m:Mdl} (z:MSz S m) (hK:S≤K):zfj K m=some (kindsB m):=by
 have:=z.types
 exact zAC z hK K 0 (Nat.zero_le _) (by omega)
theorem zAL {S:Nat} {m:Mdl} (z:MSz S m) (a:Nat) (ha:a<m.types.length):∀ (k i:Nat) (b:Bool),i≤(m.types.getD (a:Int).toNat default).params.length→(m.types.getD (a:Int).toNat default).params.length - i<k →
  zbG k m (a:Int) b (i:Int)=some (b&&((m.types.getD (a:Int).toNat default).params.drop i).all fun x => decide (K2 x)):=by
 intro k
 have s1:=z.S0; have s4:=z.typ _ (getD_mem m.types a ha)
 induction k with
 | zero => intro i b _ h; omega
 | succ k ih => 
  intro i b h1 h2
  simp only [zbG]
  rw [zaC (by omega)]
  by_cases h:i<(m.types.getD (a:Int).toNat default).params.length
  ·rw [if_pos (dltT h),dropS _ i h,List.all_cons]
   have e:(if b=true then gd (0≤(a:Int)∧(a:Int)<(m.types.length:Int)) (gd (0≤(i:Int)∧(i:Int)<((m.types.getD (a:Int).toNat default).params.length:Int)) ((zaO ((m.types.getD (a:Int).toNat default).params.getD (i:Int).toNat default) false).bind fun x55 => some x55)) else some false)=some (b&&decide (K2 ((m.types.getD (a:Int).toNat default).params.getD (i:Int).toNat default))):=by
    rw [zaC (by omega),zaC (by omega),zzn]
    cases b <;> rfl
   refine (congrArg (fun o => Option.bind o _) e).trans ?_
   rw [Option.bind_some,wI_nat i (by omega),ih (i+1) _ h (by omega),Bool.and_assoc]
  ·rw [if_neg (dltF h),List.drop_of_length_le (by omega)]
   simp
theorem zAM {S K:Nat} {m:Mdl} (z:MSz S m) (hK:S≤K):∀ (k i:Nat) (b:Bool),i≤m.types.length→m.types.length - i<k→zbR k K m b (i:Int)=some (b&&(m.types.drop i).all kT):=by
 intro k
 have s1:=z.S0; have s2:=z.types
 induction k with
 | zero => intro i b _ h; omega
 | succ k ih => 
  intro i b h1 h2
  simp only [zbR]
  by_cases h:i<m.types.length
  ·have s4:=z.typ _ (getD_mem m.types i h)
   rw [if_pos (dltT h),dropS _ i h,List.all_cons]
   have e:(if b=true then gd (0≤(i:Int)∧(i:Int)<(m.types.length:Int)) ((zaO (m.types.getD (i:Int).toNat default).result true).bind fun x45 => some x45) else some false)=some (b&&decide (K3 (m.types.getD (i:Int).toNat default).result)):=by
    rw [zaC (by omega),kind3_eq]
    cases b <;> rfl
   have e2:((if b=true then gd (0≤(i:Int)∧(i:Int)<(m.types.length:Int)) ((zaO (m.types.getD (i:Int).toNat default).result true).bind fun x45 => some x45) else some false).bind fun j47 => zbG K m (i:Int) j47 0)=some (b&&kT (m.types.getD (i:Int).toNat default)):=by
    rw [e,Option.bind_some]
    have:=zAL z i h K 0 (b&&decide (K3 (m.types.getD (i:Int).toNat default).result)) (Nat.zero_le _) (by omega)
    rw [show ((0:Nat):Int)=0 from rfl] at this
    rw [this,List.drop_zero,Bool.and_assoc]; rfl
   refine (congrArg (fun o => Option.bind o _) e2).trans ?_
   rw [Option.bind_some,wI_nat i (by omega),ih (i+1) _ h (by omega),Bool.and_assoc]
  ·rw [if_neg (dltF h),List.drop_of_length_le (by omega)]
   simp
theorem zAN {S:Nat} {m:Mdl} (z:MSz S m) (a:Nat) (ha:a<m.funcs.length):∀ (k i:Nat) (b:Bool),i≤(m.funcs.getD (a:Int).toNat default).locals.length→(m.funcs.getD (a:Int).toNat default).locals.length - i<k →
  zbS k m (a:Int) b (i:Int)=some (b&&((m.funcs.getD (a:Int).toNat default).locals.drop i).all fun x => decide (K2 x)):=by
 intro k
 have s1:=z.S0; have s4:=z.fnc _ (getD_mem m.funcs a ha)
 induction k with
 | zero => intro i b _ h; omega
 | succ k ih => 
  intro i b h1 h2
  simp only [zbS]
  rw [zaC (by omega)]
  by_cases h:i<(m.funcs.getD (a:Int).toNat default).locals.length
  ·rw [if_pos (dltT h),dropS _ i h,List.all_cons]
   have e:(if b=true then gd (0≤(a:Int)∧(a:Int)<(m.funcs.length:Int)) (gd (0≤(i:Int)∧(i:Int)<((m.funcs.getD (a:Int).toNat default).locals.length:Int)) ((zaO ((m.funcs.getD (a:Int).toNat default).locals.getD (i:Int).toNat default) false).bind fun x55 => some x55)) else some false)=some (b&&decide (K2 ((m.funcs.getD (a:Int).toNat default).locals.getD (i:Int).toNat default))):=by
    rw [zaC (by omega),zaC (by omega),zzn]
    cases b <;> rfl
   refine (congrArg (fun o => Option.bind o _) e).trans ?_
   rw [Option.bind_some,wI_nat i (by omega),ih (i+1) _ h (by omega),Bool.and_assoc]
  ·rw [if_neg (dltF h),List.drop_of_length_le (by omega)]
   simp
theorem zAO {S K:Nat} {m:Mdl} (z:MSz S m) (hK:S≤K):∀ (k i:Nat) (b:Bool),i≤m.funcs.length→m.funcs.length - i<k→zbT k K m b (i:Int)=some (b&&(m.funcs.drop i).all kF):=by
 intro k
 have s1:=z.S0; have s2:=z.funcs
 induction k with
 | zero => intro i b _ h; omega
 | succ k ih => 
  intro i b h1 h2
  simp only [zbT]
  by_cases h:i<m.funcs.length
  ·have s4:=z.fnc _ (getD_mem m.funcs i h)
   have:=zAN z i h K 0 b (Nat.zero_le _) (by omega)
   rw [show ((0:Nat):Int)=0 from rfl] at this
   rw [if_pos (dltT h),dropS _ i h,List.all_cons,this,Option.bind_some,wI_nat i (by omega),ih (i+1) _ h (by omega),Bool.and_assoc,List.drop_zero]
   rfl
  ·rw [if_neg (dltF h),List.drop_of_length_le (by omega)]
   simp
theorem zAP {S:Nat} {m:Mdl} (z:MSz S m):∀ (k i:Nat) (b:Bool),i≤m.globals.length→m.globals.length - i<k→zbU k m b (i:Int)=some (b&&(m.globals.drop i).all kG):=by
 intro k
 have s1:=z.S0; have s2:=z.globals
 induction k with
 | zero => intro i b _ h; omega
 | succ k ih => 
  intro i b h1 h2
  simp only [zbU]
  by_cases h:i<m.globals.length
  ·rw [if_pos (dltT h),dropS _ i h,List.all_cons]
   have e:(if b=true then gd (0≤(i:Int)∧(i:Int)<(m.globals.length:Int)) ((zaO (m.globals.getD (i:Int).toNat default).kind false).bind fun x45 => some x45) else some false)=some (b&&kG (m.globals.getD (i:Int).toNat default)):=by
    rw [zaC (by omega),zzn]
    cases b <;> rfl
   refine (congrArg (fun o => Option.bind o _) e).trans ?_
   rw [Option.bind_some,wI_nat i (by omega),ih (i+1) _ h (by omega),Bool.and_assoc]
  ·rw [if_neg (dltF h),List.drop_of_length_le (by omega)]
   simp
theorem rkinds {S K:Nat} {m:Mdl} (z:MSz S m) (hK:S≤K):zeC K m=some (kindsB m):=by
 have s2:=z.types; have s3:=z.funcs; have s4:=z.globals
 unfold zeC
 have e3:=zAM z hK K 0 true (Nat.zero_le _) (by omega)
 have e1:=zAO z hK K 0 (true&&(m.types.drop 0).all kT) (Nat.zero_le _) (by omega)
 have e0:=zAP z K 0 ((true&&(m.types.drop 0).all kT)&&(m.funcs.drop 0).all kF) (Nat.zero_le _) (by omega)
 rw [show ((0:Nat):Int)=0 from rfl] at e3 e1 e0
 rw [e3,Option.bind_some,e1,Option.bind_some,e0,Option.bind_some]
 simp only [List.drop_zero,Bool.true_and,kindsB,Bool.and_assoc]
theorem concat2 (K:Nat) (hK:3≤K) (a b:List Int) (ha:a.length<1000000000) (hb:b.length<1000000000):zaI K [a,b]=some (a++b):=by
 obtain ⟨k,rfl⟩:∃ k,K=k+3:=⟨K - 3,by omega⟩
 have w0:wI (0+1)=1:=by decide
 have w1:wI (1+1)=2:=by decide
 have q1:wI (0+(a.length:Int))=(a.length:Int):=by rw [wI_small (by omega) (by omega)]; omega
 have q2:wI ((a.length:Int)+(b.length:Int))=(a.length:Int)+(b.length:Int):=wI_small (by omega) (by omega)
 have l1:zaw (k+3) [a,b] 0 0=some ((a.length:Int)+(b.length:Int)):=by
  simp only [zaw]
  show (if decide ((0:Int)<2)=true then (gd (0≤(0:Int)∧(0:Int)<2) (if decide (wI (0+(a.length:Int))<0)=true then none else some ())).bind _ else _)=_
  rw [if_pos (by decide),zaC (by decide),q1,if_neg (by simp <;> omega),Option.bind_some,w0]
  show (if decide ((1:Int)<2)=true then (gd (0≤(1:Int)∧(1:Int)<2) (if decide (wI (wI (0+(a.length:Int))+(b.length:Int))<0)=true then none else some ())).bind _ else _)=_
  rw [if_pos (by decide),zaC (by decide),q1,q2,if_neg (by simp <;> omega),Option.bind_some,w1]
  show (if decide ((2:Int)<2)=true then _ else some (wI (wI (0+(a.length:Int))+(b.length:Int))))=_
  rw [if_neg (by decide),q1,q2]
 have l0:zax (k+3) [a,b] [] 0=some (a++b):=by
  simp only [zax]
  show (if decide ((0:Int)<2)=true then (gd (0≤(0:Int)∧(0:Int)<2) (gd ((0+a.length) * 1≤140737488355328) _)) else _)=_
  rw [if_pos (by decide),zaC (by decide),zaC (by omega),w0]
  show (if decide ((1:Int)<2)=true then (gd (0≤(1:Int)∧(1:Int)<2) (gd ((a.length+b.length) * 1≤140737488355328) _)) else _)=_
  rw [if_pos (by decide),zaC (by decide),zaC (by omega),w1]
  rfl
 unfold zaI
 rw [l1,Option.bind_some,zaC (by omega),l0]
 rfl
theorem zBe {S K:Nat} {m:Mdl} (z:MSz S m) (f:Int) (hI:∀ fn∈m.funcs,IWL fn.body∧wtL fn.body+S+600≤K∧0≤fn.type_) (hK:S+600≤K) (hK2:K<1000000000) :
  ∃ e mo,zeW K m f=some e∧zdL K m f=some (mo,e)∧zeq K m f=some (e.getD 0,mo):=by
 have s1:=z.S0; have s2:=z.types; have s3:=z.funcs
 have main:∃ (c:Option Checker) (e:Option Int) (mo:Int),zdp K m f=some (c,e)∧((e.isNone=false∧mo=0)∨(e=none∧∃ c',c=some c'∧c'.most=mo))∧zeq K m f=some (e.getD 0,mo):=by
  unfold zdp zeq
  rw [vkinds z (by omega),rkinds z (by omega),Option.bind_some]
  by_cases hf:inb f m.funcs.length
  rotate_left
  ·have:(if (decide (f<(0:Int)))=true then some true else (if (decide (f≥(m.funcs.length:Int)))=true then some true else gd (0≤f∧f<(m.funcs.length:Int)) (if (decide (((m.funcs.getD f.toNat default).type_)≥(IntKind.wrap .u32 (m.types.length:Int))))=true then some true else some (!kindsB m))))=some true:=by
    by_cases h0:f<0
    ·rw [if_pos (by simpa using h0)]
    ·rw [if_neg (by simpa using h0),if_pos (by unfold inb at hf; simp; omega)]
   rw [this,Option.bind_some,Option.bind_some,if_pos rfl,if_pos rfl]
   exact ⟨_,_,_,rfl,.inl ⟨rfl,rfl⟩,rfl⟩
  have hf':=hf
  unfold inb at hf'
  have hm:=getD_memI hf
  obtain ⟨hw,hwt,hty⟩:=hI _ hm
  have s5:=z.fnc _ hm
  have eu:IntKind.wrap .u32 (m.types.length:Int)=(m.types.length:Int):=by rw [IntKind.wrap_u32]; omega
  rw [if_neg (by simp; omega),if_neg (by simp; omega),gdI hf,eu]
  by_cases ht:(m.funcs.getD f.toNat default).type_≥(m.types.length:Int)
  ·rw [if_pos (by simpa using ht),Option.bind_some,Option.bind_some,if_pos rfl,if_pos rfl]
   exact ⟨_,_,_,rfl,.inl ⟨rfl,rfl⟩,rfl⟩
  rw [if_neg (by simpa using ht),Option.bind_some,Option.bind_some]
  cases hk:kindsB m with
  | false => 
   rw [if_pos (by rfl),if_pos (by rfl)]
   exact ⟨_,_,_,rfl,.inl ⟨rfl,rfl⟩,rfl⟩
  | true => 
  rw [if_neg (by decide),if_neg (by decide)]
  by_cases ht0:0≤(m.funcs.getD f.toNat default).type_
  rotate_left
  ·exact absurd hty ht0
  have hti:inb (m.funcs.getD f.toNat default).type_ m.types.length:=⟨ht0,by omega⟩
  have hmt:=getD_memI hti
  have s6:=z.typ _ hmt
  unfold kindsB at hk
  simp only [Bool.and_eq_true,List.all_eq_true] at hk
  obtain ⟨k1,k2,k3⟩:=hk
  have kt:∀ t∈m.types,TOk (S+10) t:=fun t h => by
   have:=k1 t h
   unfold kT at this
   simp only [Bool.and_eq_true,List.all_eq_true,decide_eq_true_eq] at this
   exact ⟨this.2,this.1,by have:=z.typ t h; omega⟩
  have o:COk (Ctx.mk m (m.types.getD (m.funcs.getD f.toNat default).type_.toNat default) ((m.types.getD (m.funcs.getD f.toNat default).type_.toNat default).params++(m.funcs.getD f.toNat default).locals) [] [] [(m.types.getD (m.funcs.getD f.toNat default).type_.toNat default).result]) (S+10):=
   ⟨kt,fun g h => by have:=k3 g h; unfold kG at this; exact of_decide_eq_true this,fun x hx => by
    rcases List.mem_append.1 hx with hx | hx
    ·exact (kt _ hmt).1 x hx
    ·have:=k2 _ hm
     unfold kF at this
     rw [List.all_eq_true] at this
     exact of_decide_eq_true (this x hx),fun x hx => by
    obtain rfl:x=(m.types.getD (m.funcs.getD f.toNat default).type_.toNat default).result:=by simpa using hx
    exact (kt _ hmt).2.1,(kt _ hmt).2.1,by omega,by omega⟩
  have hwl:=wtL_pos (m.funcs.getD f.toNat default).body
  have s0:Sim (Ctx.mk m (m.types.getD (m.funcs.getD f.toNat default).type_.toNat default) ((m.types.getD (m.funcs.getD f.toNat default).type_.toNat default).params++(m.funcs.getD f.toNat default).locals) [] [] [(m.types.getD (m.funcs.getD f.toNat default).type_.toNat default).result]) 0
    (Checker.mk m (m.types.getD (m.funcs.getD f.toNat default).type_.toNat default) ((m.types.getD (m.funcs.getD f.toNat default).type_.toNat default).params++(m.funcs.getD f.toNat default).locals) [] [Frame.mk 0 false false] [(m.types.getD (m.funcs.getD f.toNat default).type_.toNat default).result] 0 false) (St8.mk [] 0 false false 0 true):=
   .inl ⟨[],false,false,0,(fun x hx => by cases hx),Nat.le_refl 0,rfl,rfl⟩
  have gg:∀ N,N<999999999999→Gd (Ctx.mk m (m.types.getD (m.funcs.getD f.toNat default).type_.toNat default) ((m.types.getD (m.funcs.getD f.toNat default).type_.toNat default).params++(m.funcs.getD f.toNat default).locals) [] [] [(m.types.getD (m.funcs.getD f.toNat default).type_.toNat default).result]) N:=fun N h => 
   ⟨by show 0+N<_; omega,(by decide:0<1000000000),(by decide:1<1000000000)⟩
  obtain ⟨c1,r1,e1,e2,h1⟩:=zBt K _ 0 (S+10) _ _ (m.funcs.getD f.toNat default).body o hw (by omega) (by omega) (gg _ (by omega)) (by show 0+_<_; omega) (by show 1+_<_; omega) s0
  obtain ⟨v,c2,v',r2,e3,e4,h2,_⟩:=zbN (gg _ (by omega)) h1 (Vk.of3 (kt _ hmt).2.1)
  have e2':zaB K (Env8.mk m (m.types.getD (m.funcs.getD f.toNat default).type_.toNat default).result ((m.types.getD (m.funcs.getD f.toNat default).type_.toNat default).params++(m.funcs.getD f.toNat default).locals) [(m.types.getD (m.funcs.getD f.toNat default).type_.toNat default).result]) (St8.mk [] 0 false false 0 true) (m.funcs.getD f.toNat default).body=some r1:=e2
  rw [gdI hf,gdI hti,gdI hf,concat2 K (by omega) _ _ (by omega) (by omega),Option.bind_some,gdI hf,e1,Option.bind_some,e3,Option.bind_some]
  rw [gdI hf,gdI hti,zaC (by omega),gdI hf,zaC (by omega),gdI hf,e2',Option.bind_some,e4,Option.bind_some]
  rcases h2 with ⟨l,aw,dd,mo,q1,q2,rfl,rfl⟩ | ⟨⟨l,aw,dd,mo,q1,rfl⟩,q2,q3⟩
  ·by_cases hl:l.length=0
   ·have:l=[]:=List.length_eq_zero_iff.1 hl
    subst this
    exact ⟨_,none,mo,rfl,.inr ⟨rfl,_,rfl,rfl⟩,rfl⟩
   ·refine ⟨none,some 7,0,?_,.inl ⟨rfl,rfl⟩,?_⟩
    ·rw [if_pos ?_]
     show (false||decide ((([]++l.map fk:List Int).length:Int)>0))=true
     rw [Bool.false_or]
     exact decide_eq_true (by simp; omega)
    ·rw [if_pos ?_]; rfl
     show (false||decide ((l.length:Int)>0))=true
     rw [Bool.false_or]
     exact decide_eq_true (by omega)
  ·refine ⟨none,some 7,0,by rw [if_pos (by rfl)],.inl ⟨rfl,rfl⟩,?_⟩
   rw [if_pos (by rw [q2]; rfl)]; rfl
 obtain ⟨c,e,mo,h1,h2,h3⟩:=main
 refine ⟨e,mo,?_,?_,h3⟩
 ·unfold zeW
  rw [h1]; rfl
 ·unfold zdL
  rw [h1,Option.bind_some]
  rcases h2 with ⟨a,rfl⟩ | ⟨rfl,c',rfl,rfl⟩
  ·rw [if_pos (by rw [a]; rfl)]
  ·rfl
theorem zzV:∀ (K:Nat) (l:List Instr) (p1 p2:Int),wtL l<K→wtL l<1000000000→∃ v,zay K l p1 p2=some v:=by
 intro K
 induction K with
 | zero => intro l _ _ h; omega
 | succ k ih => 
  intro l p1 p2 h hs
  have hw:=wtL_pos l
  simp only [zay]
  rw [Option.bind_fun_some]
  split
  ·exact ⟨_,rfl⟩
  have key:∀ (q i:Nat) (n:Int),i≤l.length→l.length - i<q→∃ v,lpN q (fun (rec6:Int×Int→Option (Int)) v => match v with | (a4,a5) => (if ((decide (a5<(l.length:Int)))&&(decide (a4<p1)))=true then gd (0≤a5∧a5<(l.length:Int)) (gd (0≤a5∧a5<(l.length:Int)) ((zay k ((l.getD a5.toNat default).body) p1 (wI (p2+1))).bind fun x9 => gd (0≤a5∧a5<(l.length:Int)) ((zay k ((l.getD a5.toNat default).els) p1 (wI (p2+1))).bind fun x12 => rec6 ((wI ((wI ((wI (a4+(mnI (((l.getD a5.toNat default).labels).length:Int) p1)))+x9))+x12)),(wI (a5+1)))))) else some a4)) (n,(i:Int))=some v:=by
   intro q
   induction q with
   | zero => intro i n _ h; omega
   | succ q ihq => 
    intro i n h1 h2
    simp only [lpN]
    by_cases h:i<l.length
    ·by_cases hn:n<p1
     ·have hm:=getD_mem l i h
      have hx:=wtL_mem hm
      rw [wtI_eq] at hx
      rw [if_pos (by rw [dltT h,decide_eq_true hn]; rfl),zaC (by omega),zaC (by omega)]
      obtain ⟨v1,e1⟩:=ih (l.getD (i:Int).toNat default).body p1 (wI (p2+1)) (by omega) (by omega)
      obtain ⟨v2,e2⟩:=ih (l.getD (i:Int).toNat default).els p1 (wI (p2+1)) (by omega) (by omega)
      rw [e1,Option.bind_some,zaC (by omega),e2,Option.bind_some,wI_nat i (by omega)]
      exact ihq (i+1) _ h (by omega)
     ·rw [if_neg (by rw [decide_eq_false hn,Bool.and_false]; decide)]
      exact ⟨_,rfl⟩
    ·rw [if_neg (by rw [Bool.and_eq_true]; intro hh; exact dltF h hh.1)]
     exact ⟨_,rfl⟩
  exact key k 0 _ (Nat.zero_le _) (by omega)
theorem zCT {K:Nat} {m:Mdl} (o:GvOk K m):∀ k (i:Nat) (n:Int),i≤m.types.length→m.types.length - i<k→∃ v,zbs k m n (i:Int)=some v:=by
 intro k
 have:=o.K0; have:=o.types
 induction k with
 | zero => intro i _ _ h; omega
 | succ k ih => 
  intro i n h1 h2
  simp only [zbs]
  by_cases h:i<m.types.length
  ·rw [if_pos (dltT h),zaC (by omega),wI_nat i (by omega)]
   exact ih (i+1) _ h (by omega)
  ·rw [if_neg (dltF h)]; exact ⟨_,rfl⟩
theorem zCU {K:Nat} {m:Mdl} (o:GvOk K m):∀ k (i:Nat) (n:Int),i≤m.funcs.length→m.funcs.length - i<k→∃ v,zbt k K m n (i:Int)=some v:=by
 intro k
 have:=o.K0; have:=o.funcs
 induction k with
 | zero => intro i _ _ h; omega
 | succ k ih => 
  intro i n h1 h2
  simp only [zbt]
  by_cases h:i<m.funcs.length
  ·have hf:=(o.fnc _ (getD_mem m.funcs i h)).2
   obtain ⟨v,e⟩:=zzV K (m.funcs.getD (i:Int).toNat default).body 3000 0 hf (by omega)
   rw [if_pos (dltT h),zaC (by omega),zaC (by omega),e,Option.bind_some,wI_nat i (by omega)]
   exact ih (i+1) _ h (by omega)
  ·rw [if_neg (dltF h)]; exact ⟨_,rfl⟩
theorem zCV {K:Nat} {m:Mdl} (o:GvOk K m):∀ k (i:Nat) (n:Int),i≤m.exports.length→m.exports.length - i<k→∃ v,zbu k m n (i:Int)=some v:=by
 intro k
 have:=o.K0; have:=o.exports
 induction k with
 | zero => intro i _ _ h; omega
 | succ k ih => 
  intro i n h1 h2
  simp only [zbu]
  by_cases h:i<m.exports.length
  ·rw [if_pos (dltT h),zaC (by omega),wI_nat i (by omega)]
   exact ih (i+1) _ h (by omega)
  ·rw [if_neg (dltF h)]; exact ⟨_,rfl⟩
theorem wt1 (x:Instr):wtL [x]=wtI x+1:=by simp [wtL]
theorem zCW {K:Nat} {m:Mdl} (o:GvOk K m):∀ k (i:Nat) (n:Int),i≤m.elems.length→m.elems.length - i<k→∃ v,zbv k K m n (i:Int)=some v:=by
 intro k
 have:=o.K0; have:=o.elems
 induction k with
 | zero => intro i _ _ h; omega
 | succ k ih => 
  intro i n h1 h2
  simp only [zbv]
  by_cases h:i<m.elems.length
  ·have hf:=o.ele _ (getD_mem m.elems i h)
   obtain ⟨v,e⟩:=zzV K [(m.elems.getD (i:Int).toNat default).offset] 3000 0 (by rw [wt1]; omega) (by rw [wt1]; omega)
   rw [if_pos (dltT h),zaC (by omega),zaC (by omega),e,Option.bind_some,wI_nat i (by omega)]
   exact ih (i+1) _ h (by omega)
  ·rw [if_neg (dltF h)]; exact ⟨_,rfl⟩
theorem zCX {K:Nat} {m:Mdl} (o:GvOk K m):∀ k (i:Nat) (n:Int),i≤m.datas.length→m.datas.length - i<k→∃ v,zbw k K m n (i:Int)=some v:=by
 intro k
 have:=o.K0; have:=o.datas
 induction k with
 | zero => intro i _ _ h; omega
 | succ k ih => 
  intro i n h1 h2
  simp only [zbw]
  by_cases h:i<m.datas.length
  ·have hf:=o.dat _ (getD_mem m.datas i h)
   obtain ⟨v,e⟩:=zzV K [(m.datas.getD (i:Int).toNat default).offset] 3000 0 (by rw [wt1]; omega) (by rw [wt1]; omega)
   rw [if_pos (dltT h),zaC (by omega),zaC (by omega),e,Option.bind_some,wI_nat i (by omega)]
   exact ih (i+1) _ h (by omega)
  ·rw [if_neg (dltF h)]; exact ⟨_,rfl⟩
theorem zCY {K:Nat} {m:Mdl} (o:GvOk K m):∀ k (i:Nat) (n:Int),i≤m.globals.length→m.globals.length - i<k→∃ v,zbx k K m n (i:Int)=some v:=by
 intro k
 have:=o.K0; have:=o.globals
 induction k with
 | zero => intro i _ _ h; omega
 | succ k ih => 
  intro i n h1 h2
  simp only [zbx]
  by_cases h:i<m.globals.length
  ·have hf:=o.glo _ (getD_mem m.globals i h)
   obtain ⟨v,e⟩:=zzV K [(m.globals.getD (i:Int).toNat default).init_] 3000 0 (by rw [wt1]; omega) (by rw [wt1]; omega)
   rw [if_pos (dltT h),zaC (by omega),e,Option.bind_some,wI_nat i (by omega)]
   exact ih (i+1) _ h (by omega)
  ·rw [if_neg (dltF h)]; exact ⟨_,rfl⟩
theorem zCD {K:Nat} {m:Mdl} (o:GvOk K m):∃ b,zcl K m=some b:=by
 unfold zcl
 split
 ·exact ⟨_,rfl⟩
 obtain ⟨v5,e5⟩:=zCT o K 0 0 (Nat.zero_le _) (by have:=o.types; omega)
 obtain ⟨v4,e4⟩:=zCU o K 0 v5 (Nat.zero_le _) (by have:=o.funcs; omega)
 obtain ⟨v3,e3⟩:=zCV o K 0 v4 (Nat.zero_le _) (by have:=o.exports; omega)
 obtain ⟨v2,e2⟩:=zCW o K 0 v3 (Nat.zero_le _) (by have:=o.elems; omega)
 obtain ⟨v1,e1⟩:=zCX o K 0 v2 (Nat.zero_le _) (by have:=o.datas; omega)
 obtain ⟨v0,e0⟩:=zCY o K 0 v1 (Nat.zero_le _) (by have:=o.globals; omega)
 rw [show ((0:Nat):Int)=0 from rfl] at e5 e4 e3 e2 e1 e0
 rw [e5,Option.bind_some,e4,Option.bind_some,e3,Option.bind_some,e2,Option.bind_some,e1,Option.bind_some,e0,Option.bind_some]
 exact ⟨_,rfl⟩
theorem scM_gvK {K:Nat} (hK:1000≤K) (hK2:K<1000000000) (ps:List Int) (r:Int) (b:List Instr) (hp:ps.length<K) (hb:wtL b<K):GvOk K (scM ps r b):=by
 refine ⟨hK2,by show 3<K; omega,?_,by show 3<K; omega,?_,by show 1<K; omega,by show 1<K; omega,by show 2<K; omega,?_,by show 0<K; omega,by show 0<K; omega,fun e h => (by cases h),by show 0<K; omega,fun e h => (by cases h)⟩
 ·intro t ht
  rcases List.mem_cons.1 ht with rfl | ht
  ·exact hp
  rcases List.mem_cons.1 ht with rfl | ht
  ·show 1<K; omega
  rcases List.mem_cons.1 ht with rfl | ht
  ·show 0<K; omega
  cases ht
 ·intro t ht
  rcases List.mem_cons.1 ht with rfl | ht
  ·exact ⟨by show 2<K; omega,hb⟩
  rcases List.mem_cons.1 ht with rfl | ht
  ·exact ⟨by show 0<K; omega,Nat.lt_of_lt_of_le (by decide:wtL [Instr.mk 66 0 0 0 0 [] [] []]<1000) hK⟩
  rcases List.mem_cons.1 ht with rfl | ht
  ·exact ⟨by show 0<K; omega,Nat.lt_of_lt_of_le (by decide:wtL []<1000) hK⟩
  cases ht
 ·intro t ht
  rcases List.mem_cons.1 ht with rfl | ht
  ·exact Nat.lt_of_lt_of_le (by decide:wtI (Instr.mk 65 0 0 0 0 [] [] [])+1<1000) hK
  rcases List.mem_cons.1 ht with rfl | ht
  ·exact Nat.lt_of_lt_of_le (by decide:wtI (Instr.mk 66 0 0 0 0 [] [] [])+1<1000) hK
  cases ht
theorem scM_sz {S:Nat} (hS:10≤S) (hS2:S<1000000000) (ps:List Int) (r:Int) (b:List Instr) (hp:ps.length<S):MSz S (scM ps r b):=by
 refine ⟨hS2,by show 3<S; omega,?_,by show 3<S; omega,?_,by show 2<S; omega⟩
 ·intro t ht
  rcases List.mem_cons.1 ht with rfl | ht
  ·exact hp
  rcases List.mem_cons.1 ht with rfl | ht
  ·show 1<S; omega
  rcases List.mem_cons.1 ht with rfl | ht
  ·show 0<S; omega
  cases ht
 ·intro t ht
  rcases List.mem_cons.1 ht with rfl | ht
  ·show 2<S; omega
  rcases List.mem_cons.1 ht with rfl | ht
  ·show 0<S; omega
  rcases List.mem_cons.1 ht with rfl | ht
  ·show 0<S; omega
  cases ht
theorem zBX (e:Option Int):zio e=some (e.getD 0):=rfl
theorem zzy (ps:List Int) (r:Int) (b:List Instr) (S K:Nat) (hw:IWL b) (hp:ps.length<S) (hS:100≤S) (hb:wtL b+S+1000≤K) (hK:K<1000000000):zct K ps r b=some true:=by
 have gv:GvOk K (scM ps r b):=scM_gvK (by omega) hK ps r b (by omega) (by omega)
 unfold zct
 obtain ⟨bg,e1⟩:=zCD gv
 rw [scM_eq,Option.bind_some,e1,Option.bind_some]
 cases bg with
 | true => rfl
 | false => 
  rw [if_neg (by decide),giveModule_id gv,Option.bind_some]
  have hI:∀ fn∈(scM ps r b).funcs,IWL fn.body∧wtL fn.body+S+600≤K∧0≤fn.type_:=by
   intro t ht
   rcases List.mem_cons.1 ht with rfl | ht
   ·exact ⟨hw,by show wtL b+S+600≤K; omega,Int.le_refl 0⟩
   rcases List.mem_cons.1 ht with rfl | ht
   ·refine ⟨by simp [IWL,IWI],?_,by show (0:Int)≤1; decide⟩
    have:wtL [Instr.mk 66 0 0 0 0 [] [] []]=6:=by decide
    show wtL [Instr.mk 66 0 0 0 0 [] [] []]+S+600≤K
    omega
   rcases List.mem_cons.1 ht with rfl | ht
   ·refine ⟨by simp [IWL],?_,by show (0:Int)≤2; decide⟩
    have:wtL []=1:=by decide
    show wtL []+S+600≤K
    omega
   cases ht
  obtain ⟨e,mo,h1,h2,h3⟩:=zBe (scM_sz (by omega) (by omega) ps r b hp) 0 hI (by omega) hK
  rw [h2,Option.bind_some,h3,Option.bind_some,zBX,Option.bind_some]
  show ((if (e.getD 0==e.getD 0)=true then (if (mo==mo)=true then _ else some false) else some false).bind fun j21 => some j21)=some true
  rw [if_pos (by simp),if_pos (by simp),h1,Option.bind_some,zBX,Option.bind_some]
  show ((if (e.getD 0==e.getD 0)=true then _ else some false).bind fun j21 => some j21)=some true
  rw [if_pos (by simp)]
  rfl
end Go.Proofs.YtablleokoifolaaGreatDoor
set_option linter.unusedVariables false
set_option linter.unusedSimpArgs false
namespace Go.Proofs.YtablleokoifolaaGreatDoor
open Go Go.ChangeShapes Go.RowKit Go.Deep
section
variable {H:Type} {enc:TypeId×Value→H} {E:Env} {W:World}
def old (W:World) (b:Nat):Prop:=b<W.heap.size
def Rd (enc:TypeId×Value→H) (E:Env) (W:World) {α:Type} (t:TypeId) (en:α→List FV) (wf:α→Prop) (n:Nat):Prop:=
 ∀ (base:Nat) (sp:Nat→Bool) (hd:Bool) (cs:List Value) (x:DataW H×List MemPlace),DataW.trod enc E.P W base sp hd n t cs=some x →
  ∃ a,wf a∧cs.length=(en a).length∧∀ j,j<cs.length→RVF E W.heap (old W) (toA ((en a).getD j .undef)) (cs.getD j Go.undef)
theorem zCh {t:TypeId} {k:IntKind} (ht:E.P.underlying t=some (.int k)) (n:Nat):Rd enc E W t (eI k) (fun x => (Lit.int k x).wf=true) n:=by
 intro base sp hd cs x h
 obtain ⟨b,rfl,_,hw⟩:=DataW.trod_int ht h
 refine ⟨b,hw,rfl,fun j hj => ?_⟩
 obtain rfl:j=0:=by simp at hj; omega
 exact .int k b
theorem toA_sV {α:Type} [Inhabited α] (en:α→List FV) (l:List α):toA (sV en l)=.slv ((List.range l.length).map fun i => (en (l.getD i default)).map toA):=by
 simp only [sV,toA,fl,toAL_map]
end
end Go.Proofs.YtablleokoifolaaGreatDoor
