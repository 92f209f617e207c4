/- Part 5 of the proof that ValidBodiesUptoCardSaid: for every input that fits the row the law answers true and its arguments read as before, over the world as the row lays it. -/
import Derived.Test.YtablleokoifolaaGreatDoorZ4
set_option linter.unusedVariables false
set_option maxRecDepth 100000
set_option maxHeartbeats 4000000
namespace Go.Proofs.YtablleokoifolaaGreatDoor
open Go
mutual
def zah:Nat→Checker→(List Instr)→Int→Int→Option (Checker)
 | 0,_,_,_,_ => none
 | k+1,p0,p1,p2,p3 => gd (0≤(wI ((p0.frames.length:Int) - 1))∧(wI ((p0.frames.length:Int) - 1))<(p0.frames.length:Int)) ((if (p0.frames.getD ((wI ((p0.frames.length:Int) - 1)).toNat) default).away=true then gd ((p0.frames.length+1) * 16≤140737488355328) (some (Checker.mk p0.m p0.t p0.locals p0.stack (p0.frames++([(Frame.mk (p0.stack.length:Int) false true)]:List Frame)) p0.labels p0.most p0.bad)) else gd ((p0.frames.length+1) * 16≤140737488355328) (some (Checker.mk p0.m p0.t p0.locals p0.stack (p0.frames++([(Frame.mk (p0.stack.length:Int) false ((p0.frames.getD ((wI ((p0.frames.length:Int) - 1)).toNat) default).dead))]:List Frame)) p0.labels p0.most p0.bad))).bind (fun j4 => gd ((j4.labels.length+1) * 1≤140737488355328) ((zal k (Checker.mk j4.m j4.t j4.locals j4.stack j4.frames (j4.labels++([p3]:List Int)) j4.most j4.bad) p1).bind fun x6 => ((zac x6 p2).bind fun x8 => gd (0≤(wI ((x8.2.frames.length:Int) - 1))∧(wI ((x8.2.frames.length:Int) - 1))<(x8.2.frames.length:Int)) ((if x8.2.bad=true then some (Checker.mk x8.2.m x8.2.t x8.2.locals x8.2.stack x8.2.frames x8.2.labels x8.2.most true) else some (Checker.mk x8.2.m x8.2.t x8.2.locals x8.2.stack x8.2.frames x8.2.labels x8.2.most ((x8.2.stack.length:Int) != ((x8.2.frames.getD ((wI ((x8.2.frames.length:Int) - 1)).toNat) default).height)))).bind (fun j11 => gd (0≤(0:Int)∧0≤(mnI ((x8.2.frames.getD ((wI ((x8.2.frames.length:Int) - 1)).toNat) default).height) (j11.stack.length:Int))∧(mnI ((x8.2.frames.getD ((wI ((x8.2.frames.length:Int) - 1)).toNat) default).height) (j11.stack.length:Int))≤(j11.stack.length:Int)) (gd (0≤(0:Int)∧0≤(wI ((j11.frames.length:Int) - 1))∧(wI ((j11.frames.length:Int) - 1))≤(j11.frames.length:Int)) (gd (0≤(0:Int)∧0≤(wI ((j11.labels.length:Int) - 1))∧(wI ((j11.labels.length:Int) - 1))≤(j11.labels.length:Int)) (some (Checker.mk j11.m j11.t j11.locals (List.take ((mnI ((x8.2.frames.getD ((wI ((x8.2.frames.length:Int) - 1)).toNat) default).height) (j11.stack.length:Int)).toNat) j11.stack) (List.take ((wI ((j11.frames.length:Int) - 1)).toNat) j11.frames) (List.take ((wI ((j11.labels.length:Int) - 1)).toNat) j11.labels) j11.most j11.bad))))))))))
def zab:Nat→Checker→Instr→Option (Checker)
 | 0,_,_ => none
 | k+1,p0,p1 => (if (p1.op==(0:Int))=true then ((zao p0).bind fun x1 => some x1) else (if (p1.op==(1:Int))=true then some p0 else (if (p1.op==(2:Int))=true then some (p1.op==(2:Int)) else some (p1.op==(3:Int))).bind (fun j3 => (if j3=true then (if p0.bad=true then some (Checker.mk p0.m p0.t p0.locals p0.stack p0.frames p0.labels p0.most true) else ((zaR p1.result).bind fun x4 => some (Checker.mk p0.m p0.t p0.locals p0.stack p0.frames p0.labels p0.most (!x4)))).bind (fun j6 => (if (p1.op==(3:Int))=true then some 0 else some p1.result).bind (fun j7 => ((zah k j6 p1.body p1.result j7).bind fun x8 => ((zaf x8 p1.result).bind fun x10 => some x10)))) else (if (p1.op==(4:Int))=true then (if p0.bad=true then some (Checker.mk p0.m p0.t p0.locals p0.stack p0.frames p0.labels p0.most true) else ((zaR p1.result).bind fun x17 => some (Checker.mk p0.m p0.t p0.locals p0.stack p0.frames p0.labels p0.most (!x17)))).bind (fun j19 => ((zac j19 127).bind fun x20 => ((zah k x20.2 p1.body p1.result p1.result).bind fun x22 => ((zah k x22 p1.els p1.result p1.result).bind fun x24 => ((zaf x24 p1.result).bind fun x26 => some x26))))) else (if (p1.op==(12:Int))=true then ((zau p0 p1.n).bind fun x31 => ((zac x31.2 x31.1).bind fun x33 => ((zao x33.2).bind fun x35 => some x35))) else (if (p1.op==(13:Int))=true then ((zac p0 127).bind fun x37 => ((zau x37.2 p1.n).bind fun x39 => ((zac x39.2 x39.1).bind fun x41 => ((zaf x41.2 x39.1).bind fun x43 => some x43)))) else (if (p1.op==(14:Int))=true then ((zbC k p0 p1).bind fun x45 => some x45) else (if (p1.op==(15:Int))=true then ((zac p0 p0.t.result).bind fun x47 => ((zao x47.2).bind fun x49 => some x49)) else (if (p1.op==(16:Int))=true then ((zaW p0 p1.n).bind fun x51 => ((zat x51.2 x51.1).bind fun x53 => some x53)) else (if (p1.op==(17:Int))=true then (if p0.bad=true then some (Checker.mk p0.m p0.t p0.locals p0.stack p0.frames p0.labels p0.most true) else some (Checker.mk p0.m p0.t p0.locals p0.stack p0.frames p0.labels p0.most ((p0.m.tables.length:Int)==(0:Int)))).bind (fun j55 => ((zac j55 127).bind fun x56 => ((zaU x56.2 p1.n).bind fun x58 => ((zat x58.2 x58.1).bind fun x60 => some x60)))) else some (Checker.mk p0.m p0.t p0.locals p0.stack p0.frames p0.labels p0.most true))))))))))))
def zal:Nat→Checker→(List Instr)→Option (Checker)
 | 0,_,_ => none
 | k+1,p0,p1 => lpN k (fun (rec5:Checker×Int→Option (Checker)) v => match v with | (a3,a4) => (if (decide (a4<(p1.length:Int)))=true then gd (0≤a4∧a4<(p1.length:Int)) (if a3.bad=true then some a3 else (if (decide (((p1.getD a4.toNat default).op)<(26:Int)))=true then ((zab k a3 (p1.getD a4.toNat default)).bind fun x7 => rec5 (x7,(wI (a4+1)))) else ((zag a3 (p1.getD a4.toNat default)).bind fun x9 => rec5 (x9,(wI (a4+1)))))) else some a3)) (p0,0)
end
theorem zjh (k:Nat) (IH_valid_checker_inner:∀ (p0:Checker) (p1:List Instr) (p2:Int) (p3:Int) (r:Checker),zah k p0 p1 p2 p3=some r→CM E 70 [.p 1000 0,.d (sVI p1),.d (.int .u8 p2),.d (.int .u8 p3)] (zaa p0) [] [1000] (fun a b => a=(.tup []:LV)∧b=zaa r)) (IH_valid_checker_control:∀ (p0:Checker) (p1:Instr) (r:Checker),zab k p0 p1=some r→CM E 55 [.p 1000 0,.agg (eD (eInstr p1))] (zaa p0) [] [1000] (fun a b => a=(.tup []:LV)∧b=zaa r)) (IH_valid_checker_list:∀ (p0:Checker) (p1:List Instr) (r:Checker),zal k p0 p1=some r→CM E 39 [.p 1000 0,.d (sVI p1)] (zaa p0) [] [1000] (fun a b => a=(.tup []:LV)∧b=zaa r)):∀ (p0:Checker) (p1:List Instr) (p2:Int) (p3:Int) (r:Checker),zah (k+1) p0 p1 p2 p3=some r→CM E 70 [.p 1000 0,.d (sVI p1),.d (.int .u8 p2),.d (.int .u8 p3)] (zaa p0) [] [1000] (fun a b => a=(.tup []:LV)∧b=zaa r):=by
 intro p0 p1 p2 p3 r H
 refine zkn (A:=zcQ) zeq fun fr => ?_
 unfold zah at H
 refine AW2.seq ?_
 obtain ⟨h1,H⟩:=zad H
 refine r_ [.k 8] [0,1,2,3,8] [] [.k 8,.k 1000,.k 1001,.k 1002,.k 1003] ⟨[(0,.p 1000 0),(1,.d (sVI p1)),(2,.d (.int .u8 p2)),(3,.d (.int .u8 p3)),(8,.p 8 0)],[(8,.st false (eD (eFrame (p0.frames.getD ((wI ((p0.frames.length:Int) - 1)).toNat) default))))]++zaa p0⟩ (a_ (a_ h1 (a_ (ixN h1) (a_ (ixN h1) t_))) t_) ?_
 refine AW2.seq ?_
 obtain ⟨j4,H19,H⟩:=bind_some H
 refine AW2.reg [] rfl (YW.to ⟨[(0,.p 1000 0),(1,.d (sVI p1)),(2,.d (.int .u8 p2)),(3,.d (.int .u8 p3))],zaa j4⟩ ?qh20 ?h20)
 case h20 => 
  have H:=H19
  rcases bT ((p0.frames.getD ((wI ((p0.frames.length:Int) - 1)).toNat) default).away) with hc1 | hc1
  ·replace H:=zaj H hc1
   obtain ⟨h2,H⟩:=zad H
   have H:=Option.some.inj H
   subst H
   exact YW.fin [(34,true)] [.sb ([(Frame.mk (p0.stack.length:Int) false true)]:List Frame).length (fl eFrame ([(Frame.mk (p0.stack.length:Int) false true)]:List Frame)),.s true (p0.frames++([(Frame.mk (p0.stack.length:Int) false true)]:List Frame)).length (fl eFrame (p0.frames++([(Frame.mk (p0.stack.length:Int) false true)]:List Frame)))] [0,1,2,3] [] [.k 1000,.k 1001,.k 1002,.k 1003] _ (a_ (a_ hc1 (a_ hc1 (a_ hc1 (a_ (litF eFrame ([(Frame.mk (p0.stack.length:Int) false true)]:List Frame)) (a_ (Nat.le_refl p0.frames.length) (a_ h2 (a_ (app1 eFrame p0.frames (Frame.mk (p0.stack.length:Int) false true) (fl eFrame ([(Frame.mk (p0.stack.length:Int) false true)]:List Frame)) rfl) t_))))))) t_) (by kernel_rfl) rfl
  ·replace H:=zak H hc1
   obtain ⟨h3,H⟩:=zad H
   have H:=Option.some.inj H
   subst H
   exact YW.fin [(34,false)] [.sb ([(Frame.mk (p0.stack.length:Int) false ((p0.frames.getD ((wI ((p0.frames.length:Int) - 1)).toNat) default).dead))]:List Frame).length (fl eFrame ([(Frame.mk (p0.stack.length:Int) false ((p0.frames.getD ((wI ((p0.frames.length:Int) - 1)).toNat) default).dead))]:List Frame)),.s true (p0.frames++([(Frame.mk (p0.stack.length:Int) false ((p0.frames.getD ((wI ((p0.frames.length:Int) - 1)).toNat) default).dead))]:List Frame)).length (fl eFrame (p0.frames++([(Frame.mk (p0.stack.length:Int) false ((p0.frames.getD ((wI ((p0.frames.length:Int) - 1)).toNat) default).dead))]:List Frame)))] [0,1,2,3] [] [.k 1000,.k 1001,.k 1002,.k 1003] _ (a_ (a_ hc1 (a_ hc1 (a_ hc1 (a_ (litF eFrame ([(Frame.mk (p0.stack.length:Int) false ((p0.frames.getD ((wI ((p0.frames.length:Int) - 1)).toNat) default).dead))]:List Frame)) (a_ (Nat.le_refl p0.frames.length) (a_ h3 (a_ (app1 eFrame p0.frames (Frame.mk (p0.stack.length:Int) false ((p0.frames.getD ((wI ((p0.frames.length:Int) - 1)).toNat) default).dead)) (fl eFrame ([(Frame.mk (p0.stack.length:Int) false ((p0.frames.getD ((wI ((p0.frames.length:Int) - 1)).toNat) default).dead))]:List Frame)) rfl) t_))))))) t_) (by kernel_rfl) rfl
 refine AW2.seq ?_
 obtain ⟨h5,H⟩:=zad H
 refine r_ [.sb ([p3]:List Int).length (fl (eI .u8) ([p3]:List Int)),.s true (j4.labels++([p3]:List Int)).length (fl (eI .u8) (j4.labels++([p3]:List Int)))] [0,1,2] [] [.k 1000,.k 1001,.k 1002,.k 1003] ⟨[(0,.p 1000 0),(1,.d (sVI p1)),(2,.d (.int .u8 p2))],zaa (Checker.mk j4.m j4.t j4.locals j4.stack j4.frames (j4.labels++([p3]:List Int)) j4.most j4.bad)⟩ (a_ (a_ (litF (eI .u8) ([p3]:List Int)) (a_ (Nat.le_refl j4.labels.length) (a_ h5 (a_ (app1 (eI .u8) j4.labels p3 (fl (eI .u8) ([p3]:List Int)) rfl) t_)))) t_) ?_
 refine AW2.seq ?_
 obtain ⟨x6,hx7,H⟩:=bind_some H
 refine r_ [.c [1000,1001,1002,1003] [] [1000] (.tup []) (zaa x6)] [0,2] [] [.k 1000,.k 1001,.k 1002,.k 1003] ⟨[(0,.p 1000 0),(2,.d (.int .u8 p2))],zaa x6⟩ (a_ (a_ (IH_valid_checker_list (Checker.mk j4.m j4.t j4.locals j4.stack j4.frames (j4.labels++([p3]:List Int)) j4.most j4.bad) p1 x6 hx7) t_) t_) ?_
 refine AW2.seq ?_
 obtain ⟨x8,hx9,H⟩:=bind_some H
 refine r_ [.c [1000,1001,1002,1003] [] [1000] (.d (.int .u8 x8.1)) (zaa x8.2)] [0] [] [.k 1000,.k 1001,.k 1002,.k 1003] ⟨[(0,.p 1000 0)],zaa x8.2⟩ (a_ (a_ (zai x6 p2 x8 hx9) t_) t_) ?_
 refine AW2.seq ?_
 obtain ⟨h10,H⟩:=zad H
 refine r_ [] [0,9] [] [.k 1000,.k 1001,.k 1002,.k 1003] ⟨[(0,.p 1000 0),(9,.d (.int .i64 ((x8.2.frames.getD ((wI ((x8.2.frames.length:Int) - 1)).toNat) default).height)))],zaa x8.2⟩ (a_ (a_ h10 (a_ (ixN h10) (a_ (ixN h10) t_))) t_) ?_
 refine AW2.seq ?_
 obtain ⟨j11,H16,H⟩:=bind_some H
 refine AW2.reg [] rfl (YW.to ⟨[(0,.p 1000 0),(9,.d (.int .i64 ((x8.2.frames.getD ((wI ((x8.2.frames.length:Int) - 1)).toNat) default).height)))],zaa j11⟩ ?qh17 ?h17)
 case h17 => 
  have H:=H16
  rcases bT x8.2.bad with hc1 | hc1
  ·replace H:=zaj H hc1
   have H:=Option.some.inj H
   subst H
   exact YW.fin [(77,true)] [] [0,9] [] [.k 1000,.k 1001,.k 1002,.k 1003] _ (a_ (a_ hc1 (a_ hc1 (a_ hc1 (a_ hc1 (a_ hc1 (a_ hc1 (a_ hc1 (a_ hc1 t_)))))))) t_) (by kernel_rfl) rfl
  ·replace H:=zak H hc1
   have H:=Option.some.inj H
   subst H
   exact YW.fin [(77,false)] [] [0,9] [] [.k 1000,.k 1001,.k 1002,.k 1003] _ (a_ (a_ hc1 (a_ hc1 (a_ hc1 (a_ hc1 (a_ hc1 (a_ hc1 (a_ hc1 (a_ hc1 t_)))))))) t_) (by kernel_rfl) rfl
 refine AW2.seq ?_
 obtain ⟨h12,H⟩:=zad H
 refine r_ [.s true (List.take ((mnI ((x8.2.frames.getD ((wI ((x8.2.frames.length:Int) - 1)).toNat) default).height) (j11.stack.length:Int)).toNat) j11.stack).length (fl (eI .u8) (List.take ((mnI ((x8.2.frames.getD ((wI ((x8.2.frames.length:Int) - 1)).toNat) default).height) (j11.stack.length:Int)).toNat) j11.stack))] [0] [] [.k 1000,.sl 1001 (List.take ((mnI ((x8.2.frames.getD ((wI ((x8.2.frames.length:Int) - 1)).toNat) default).height) (j11.stack.length:Int)).toNat) j11.stack).length (fl (eI .u8) (List.take ((mnI ((x8.2.frames.getD ((wI ((x8.2.frames.length:Int) - 1)).toNat) default).height) (j11.stack.length:Int)).toNat) j11.stack)),.k 1002,.k 1003] ⟨[(0,.p 1000 0)],zaa (Checker.mk j11.m j11.t j11.locals (List.take ((mnI ((x8.2.frames.getD ((wI ((x8.2.frames.length:Int) - 1)).toNat) default).height) (j11.stack.length:Int)).toNat) j11.stack) j11.frames j11.labels j11.most j11.bad)⟩ (a_ (a_ h12 (a_ (takeN h12) t_)) (a_ (takeL j11.stack ((mnI ((x8.2.frames.getD ((wI ((x8.2.frames.length:Int) - 1)).toNat) default).height) (j11.stack.length:Int)).toNat)) (a_ (takeF (eI .u8) j11.stack ((mnI ((x8.2.frames.getD ((wI ((x8.2.frames.length:Int) - 1)).toNat) default).height) (j11.stack.length:Int)).toNat)) t_))) ?_
 obtain ⟨h13,H⟩:=zad H
 obtain ⟨h14,H⟩:=zad H
 refine AW2.reg [(1000,0,12)] (by kernel_rfl) (YW.fin [] [.s true (List.take ((wI ((j11.frames.length:Int) - 1)).toNat) j11.frames).length (fl eFrame (List.take ((wI ((j11.frames.length:Int) - 1)).toNat) j11.frames)),.s true (List.take ((wI ((j11.labels.length:Int) - 1)).toNat) j11.labels).length (fl (eI .u8) (List.take ((wI ((j11.labels.length:Int) - 1)).toNat) j11.labels))] [] [] [.k 1000,.k 1001,.sl 1002 (List.take ((wI ((j11.frames.length:Int) - 1)).toNat) j11.frames).length (fl eFrame (List.take ((wI ((j11.frames.length:Int) - 1)).toNat) j11.frames)),.sl 1003 (List.take ((wI ((j11.labels.length:Int) - 1)).toNat) j11.labels).length (fl (eI .u8) (List.take ((wI ((j11.labels.length:Int) - 1)).toNat) j11.labels))] ⟨[],zaa (Checker.mk j11.m j11.t j11.locals (List.take ((mnI ((x8.2.frames.getD ((wI ((x8.2.frames.length:Int) - 1)).toNat) default).height) (j11.stack.length:Int)).toNat) j11.stack) (List.take ((wI ((j11.frames.length:Int) - 1)).toNat) j11.frames) (List.take ((wI ((j11.labels.length:Int) - 1)).toNat) j11.labels) j11.most j11.bad)⟩ (a_ (a_ h13 (a_ (takeN h13) (a_ h14 (a_ (takeN h14) t_)))) (a_ (takeL j11.frames ((wI ((j11.frames.length:Int) - 1)).toNat)) (a_ (takeF eFrame j11.frames ((wI ((j11.frames.length:Int) - 1)).toNat)) (a_ (takeL j11.labels ((wI ((j11.labels.length:Int) - 1)).toNat)) (a_ (takeF (eI .u8) j11.labels ((wI ((j11.labels.length:Int) - 1)).toNat)) t_))))) (by kernel_rfl) ?_)
 have H:=Option.some.inj H
 subst H
 exact retS_mkn3 [] [.k 1000,.k 1001,.k 1002,.k 1003] t_ (by kernel_rfl) (by kernel_rfl)
theorem zhB (k:Nat) (IH_valid_checker_inner:∀ (p0:Checker) (p1:List Instr) (p2:Int) (p3:Int) (r:Checker),zah k p0 p1 p2 p3=some r→CM E 70 [.p 1000 0,.d (sVI p1),.d (.int .u8 p2),.d (.int .u8 p3)] (zaa p0) [] [1000] (fun a b => a=(.tup []:LV)∧b=zaa r)) (IH_valid_checker_control:∀ (p0:Checker) (p1:Instr) (r:Checker),zab k p0 p1=some r→CM E 55 [.p 1000 0,.agg (eD (eInstr p1))] (zaa p0) [] [1000] (fun a b => a=(.tup []:LV)∧b=zaa r)) (IH_valid_checker_list:∀ (p0:Checker) (p1:List Instr) (r:Checker),zal k p0 p1=some r→CM E 39 [.p 1000 0,.d (sVI p1)] (zaa p0) [] [1000] (fun a b => a=(.tup []:LV)∧b=zaa r)):∀ (p0:Checker) (p1:Instr) (r:Checker),zab (k+1) p0 p1=some r→CM E 55 [.p 1000 0,.agg (eD (eInstr p1))] (zaa p0) [] [1000] (fun a b => a=(.tup []:LV)∧b=zaa r):=by
 intro p0 p1 r H
 refine zkn (A:=zcm) zdS fun fr => ?_
 unfold zab at H
 refine AW2.seq ?_
 refine r_ [.k 3] [0,3] [] [.k 3,.k 1000,.k 1001,.k 1002,.k 1003] ⟨[(0,.p 1000 0),(3,.p 3 0)],[(3,.st false (eD (eInstr p1)))]++zaa p0⟩ (a_ t_ t_) ?_
 refine AW2.seq ?_
 refine r_ [] [0,3,7] [] [.k 3,.k 1000,.k 1001,.k 1002,.k 1003] ⟨[(0,.p 1000 0),(3,.p 3 0),(7,.d (.int .u8 p1.op))],[(3,.st false (eD (eInstr p1)))]++zaa p0⟩ (a_ t_ t_) ?_
 refine AW2.block ?_
 refine AW2.seq ?_
 refine r_ [] [0,3,7,11] [] [.k 3,.k 1000,.k 1001,.k 1002,.k 1003] ⟨[(0,.p 1000 0),(3,.p 3 0),(7,.d (.int .u8 p1.op)),(11,.d (.bool (p1.op==(0:Int))))],[(3,.st false (eD (eInstr p1)))]++zaa p0⟩ (a_ t_ t_) ?_
 refine AW2.cond (b:=(p1.op==(0:Int))) rfl (fun hc => ?_) (fun hc => ?_)
 ·replace H:=zaj H hc
  obtain ⟨x1,hx2,H⟩:=bind_some H
  refine r_ [.c [1000,1001,1002,1003] [] [1000] (.tup []) (zaa x1)] [] [] [.k 1000,.k 1001,.k 1002,.k 1003] ⟨[],zaa x1⟩ (a_ (a_ (zbU p0 x1 hx2) t_) t_) ?_
  have H:=Option.some.inj H
  subst H
  exact retS_mkn3 [] [.k 1000,.k 1001,.k 1002,.k 1003] t_ (by kernel_rfl) (by kernel_rfl)
 ·replace H:=zak H hc
  refine AW2.seq ?_
  refine r_ [] [0,3,7,15] [] [.k 3,.k 1000,.k 1001,.k 1002,.k 1003] ⟨[(0,.p 1000 0),(3,.p 3 0),(7,.d (.int .u8 p1.op)),(15,.d (.bool (p1.op==(1:Int))))],[(3,.st false (eD (eInstr p1)))]++zaa p0⟩ (a_ t_ t_) ?_
  refine AW2.cond (b:=(p1.op==(1:Int))) rfl (fun hc => ?_) (fun hc => ?_)
  ·replace H:=zaj H hc
   refine AW2.skip ?_
   have H:=Option.some.inj H
   subst H
   exact retS_mkn3 [] [.k 1000,.k 1001,.k 1002,.k 1003] t_ (by kernel_rfl) (by kernel_rfl)
  ·replace H:=zak H hc
   obtain ⟨j3,H66,H⟩:=bind_some H
   refine AW2.mid ⟨[(0,.p 1000 0),(3,.p 3 0),(7,.d (.int .u8 p1.op)),(17,.d (.bool j3))],[(3,.st false (eD (eInstr p1)))]++zaa p0⟩ ?_ ?_
   ·refine AW2.cond (b:=j3) rfl (fun hc => ?_) (fun hc => ?_)
    ·replace H:=zaj H hc
     refine AW2.seq ?_
     obtain ⟨j6,H15,H⟩:=bind_some H
     refine AW2.reg [] rfl (YW.to ⟨[(0,.p 1000 0),(3,.p 3 0)],[(3,.st false (eD (eInstr p1)))]++zaa j6⟩ ?qh16 ?h16)
     case h16 => 
      have H:=H15
      rcases bT p0.bad with hc1 | hc1
      ·replace H:=zaj H hc1
       have H:=Option.some.inj H
       subst H
       exact YW.fin [(25,true)] [] [0,3] [] [.k 3,.k 1000,.k 1001,.k 1002,.k 1003] _ (a_ (a_ hc1 (a_ hc1 (a_ hc1 (a_ hc1 (a_ hc1 t_))))) t_) (by kernel_rfl) rfl
      ·replace H:=zak H hc1
       obtain ⟨x4,hx5,H⟩:=bind_some H
       have H:=Option.some.inj H
       subst H
       exact YW.fin [(25,false)] [.r (.bool x4)] [0,3] [] [.k 3,.k 1000,.k 1001,.k 1002,.k 1003] _ (a_ (a_ hc1 (a_ hc1 (a_ hc1 (a_ (zdw p1.result x4 hx5) (a_ hc1 (a_ hc1 t_)))))) t_) (by kernel_rfl) rfl
     refine AW2.seq ?_
     refine r_ [] [0,3,4] [] [.k 3,.k 1000,.k 1001,.k 1002,.k 1003] ⟨[(0,.p 1000 0),(3,.p 3 0),(4,.d (.int .u8 p1.result))],[(3,.st false (eD (eInstr p1)))]++zaa j6⟩ (a_ t_ t_) ?_
     obtain ⟨j7,H13,H⟩:=bind_some H
     refine AW2.mid ⟨[(0,.p 1000 0),(3,.p 3 0),(4,.d (.int .u8 j7))],[(3,.st false (eD (eInstr p1)))]++zaa j6⟩ ?_ ?_
     ·refine AW2.seq ?_
      obtain ⟨x8,hx9,H⟩:=bind_some H
      refine r_ [.c [1000,1001,1002,1003] [] [1000] (.tup []) (zaa x8)] [0,3] [] [.k 3,.k 1000,.k 1001,.k 1002,.k 1003] ⟨[(0,.p 1000 0),(3,.p 3 0)],[(3,.st false (eD (eInstr p1)))]++zaa x8⟩ (a_ (a_ (IH_valid_checker_inner j6 p1.body p1.result j7 x8 hx9) t_) t_) ?_
      obtain ⟨x10,hx11,H⟩:=bind_some H
      refine r_ [.c [1000,1001,1002,1003] [] [1000] (.tup []) (zaa x10)] [] [] [.k 1000,.k 1001,.k 1002,.k 1003] ⟨[],zaa x10⟩ (a_ (a_ (zaP x8 p1.result x10 hx11) t_) t_) ?_
      have H:=Option.some.inj H
      subst H
      exact retS_mkn3 [] [.k 1000,.k 1001,.k 1002,.k 1003] t_ (by kernel_rfl) (by kernel_rfl)
     ·have H:=H13
      refine AW2.seq ?_
      refine r_ [] [0,3,4,37] [] [.k 3,.k 1000,.k 1001,.k 1002,.k 1003] ⟨[(0,.p 1000 0),(3,.p 3 0),(4,.d (.int .u8 p1.result)),(37,.d (.bool (p1.op==(3:Int))))],[(3,.st false (eD (eInstr p1)))]++zaa j6⟩ (a_ t_ t_) ?_
      refine AW2.cond (b:=(p1.op==(3:Int))) rfl (fun hc => ?_) (fun hc => ?_)
      ·replace H:=zaj H hc
       refine r_ [] [0,3,4] [] [.k 3,.k 1000,.k 1001,.k 1002,.k 1003] ⟨[(0,.p 1000 0),(3,.p 3 0),(4,.d (.int .u8 0))],[(3,.st false (eD (eInstr p1)))]++zaa j6⟩ (a_ t_ t_) ?_
       have H:=Option.some.inj H
       subst H
       exact zay [0,3,4] [] [.k 3,.k 1000,.k 1001,.k 1002,.k 1003] t_ (by kernel_rfl)
      ·replace H:=zak H hc
       refine AW2.skip ?_
       have H:=Option.some.inj H
       subst H
       exact zay [0,3,4] [] [.k 3,.k 1000,.k 1001,.k 1002,.k 1003] t_ (by kernel_rfl)
    ·replace H:=zak H hc
     refine AW2.seq ?_
     refine r_ [] [0,3,7,49] [] [.k 3,.k 1000,.k 1001,.k 1002,.k 1003] ⟨[(0,.p 1000 0),(3,.p 3 0),(7,.d (.int .u8 p1.op)),(49,.d (.bool (p1.op==(4:Int))))],[(3,.st false (eD (eInstr p1)))]++zaa p0⟩ (a_ t_ t_) ?_
     refine AW2.cond (b:=(p1.op==(4:Int))) rfl (fun hc => ?_) (fun hc => ?_)
     ·replace H:=zaj H hc
      refine AW2.seq ?_
      obtain ⟨j19,H29,H⟩:=bind_some H
      refine AW2.reg [] rfl (YW.to ⟨[(0,.p 1000 0),(3,.p 3 0)],[(3,.st false (eD (eInstr p1)))]++zaa j19⟩ ?qh30 ?h30)
      case h30 => 
       have H:=H29
       rcases bT p0.bad with hc1 | hc1
       ·replace H:=zaj H hc1
        have H:=Option.some.inj H
        subst H
        exact YW.fin [(56,true)] [] [0,3] [] [.k 3,.k 1000,.k 1001,.k 1002,.k 1003] _ (a_ (a_ hc1 (a_ hc1 (a_ hc1 (a_ hc1 (a_ hc1 t_))))) t_) (by kernel_rfl) rfl
       ·replace H:=zak H hc1
        obtain ⟨x17,hx18,H⟩:=bind_some H
        have H:=Option.some.inj H
        subst H
        exact YW.fin [(56,false)] [.r (.bool x17)] [0,3] [] [.k 3,.k 1000,.k 1001,.k 1002,.k 1003] _ (a_ (a_ hc1 (a_ hc1 (a_ hc1 (a_ (zdw p1.result x17 hx18) (a_ hc1 (a_ hc1 t_)))))) t_) (by kernel_rfl) rfl
      refine AW2.seq ?_
      obtain ⟨x20,hx21,H⟩:=bind_some H
      refine r_ [.c [1000,1001,1002,1003] [] [1000] (.d (.int .u8 x20.1)) (zaa x20.2)] [0,3] [] [.k 3,.k 1000,.k 1001,.k 1002,.k 1003] ⟨[(0,.p 1000 0),(3,.p 3 0)],[(3,.st false (eD (eInstr p1)))]++zaa x20.2⟩ (a_ (a_ (zai j19 127 x20 hx21) t_) t_) ?_
      refine AW2.seq ?_
      obtain ⟨x22,hx23,H⟩:=bind_some H
      refine r_ [.c [1000,1001,1002,1003] [] [1000] (.tup []) (zaa x22)] [0,3] [] [.k 3,.k 1000,.k 1001,.k 1002,.k 1003] ⟨[(0,.p 1000 0),(3,.p 3 0)],[(3,.st false (eD (eInstr p1)))]++zaa x22⟩ (a_ (a_ (IH_valid_checker_inner x20.2 p1.body p1.result p1.result x22 hx23) t_) t_) ?_
      refine AW2.seq ?_
      obtain ⟨x24,hx25,H⟩:=bind_some H
      refine r_ [.c [1000,1001,1002,1003] [] [1000] (.tup []) (zaa x24)] [0,3] [] [.k 3,.k 1000,.k 1001,.k 1002,.k 1003] ⟨[(0,.p 1000 0),(3,.p 3 0)],[(3,.st false (eD (eInstr p1)))]++zaa x24⟩ (a_ (a_ (IH_valid_checker_inner x22 p1.els p1.result p1.result x24 hx25) t_) t_) ?_
      obtain ⟨x26,hx27,H⟩:=bind_some H
      refine r_ [.c [1000,1001,1002,1003] [] [1000] (.tup []) (zaa x26)] [] [] [.k 1000,.k 1001,.k 1002,.k 1003] ⟨[],zaa x26⟩ (a_ (a_ (zaP x24 p1.result x26 hx27) t_) t_) ?_
      have H:=Option.some.inj H
      subst H
      exact retS_mkn3 [] [.k 1000,.k 1001,.k 1002,.k 1003] t_ (by kernel_rfl) (by kernel_rfl)
     ·replace H:=zak H hc
      refine AW2.seq ?_
      refine r_ [] [0,3,7,86] [] [.k 3,.k 1000,.k 1001,.k 1002,.k 1003] ⟨[(0,.p 1000 0),(3,.p 3 0),(7,.d (.int .u8 p1.op)),(86,.d (.bool (p1.op==(12:Int))))],[(3,.st false (eD (eInstr p1)))]++zaa p0⟩ (a_ t_ t_) ?_
      refine AW2.cond (b:=(p1.op==(12:Int))) rfl (fun hc => ?_) (fun hc => ?_)
      ·replace H:=zaj H hc
       refine AW2.seq ?_
       obtain ⟨x31,hx32,H⟩:=bind_some H
       obtain ⟨x33,hx34,H⟩:=bind_some H
       refine r_ [.c [1000,1001,1002,1003] [] [1000] (.d (.int .u8 x31.1)) (zaa x31.2),.c [1000,1001,1002,1003] [] [1000] (.d (.int .u8 x33.1)) (zaa x33.2)] [0] [] [.k 1000,.k 1001,.k 1002,.k 1003] ⟨[(0,.p 1000 0)],zaa x33.2⟩ (a_ (a_ (zbV p0 p1.n x31 hx32) (a_ (zai x31.2 x31.1 x33 hx34) t_)) t_) ?_
       obtain ⟨x35,hx36,H⟩:=bind_some H
       refine r_ [.c [1000,1001,1002,1003] [] [1000] (.tup []) (zaa x35)] [] [] [.k 1000,.k 1001,.k 1002,.k 1003] ⟨[],zaa x35⟩ (a_ (a_ (zbU x33.2 x35 hx36) t_) t_) ?_
       have H:=Option.some.inj H
       subst H
       exact retS_mkn3 [] [.k 1000,.k 1001,.k 1002,.k 1003] t_ (by kernel_rfl) (by kernel_rfl)
      ·replace H:=zak H hc
       refine AW2.seq ?_
       refine r_ [] [0,3,7,96] [] [.k 3,.k 1000,.k 1001,.k 1002,.k 1003] ⟨[(0,.p 1000 0),(3,.p 3 0),(7,.d (.int .u8 p1.op)),(96,.d (.bool (p1.op==(13:Int))))],[(3,.st false (eD (eInstr p1)))]++zaa p0⟩ (a_ t_ t_) ?_
       refine AW2.cond (b:=(p1.op==(13:Int))) rfl (fun hc => ?_) (fun hc => ?_)
       ·replace H:=zaj H hc
        refine AW2.seq ?_
        obtain ⟨x37,hx38,H⟩:=bind_some H
        refine r_ [.c [1000,1001,1002,1003] [] [1000] (.d (.int .u8 x37.1)) (zaa x37.2)] [0,3] [] [.k 3,.k 1000,.k 1001,.k 1002,.k 1003] ⟨[(0,.p 1000 0),(3,.p 3 0)],[(3,.st false (eD (eInstr p1)))]++zaa x37.2⟩ (a_ (a_ (zai p0 127 x37 hx38) t_) t_) ?_
        refine AW2.seq ?_
        obtain ⟨x39,hx40,H⟩:=bind_some H
        refine r_ [.c [1000,1001,1002,1003] [] [1000] (.d (.int .u8 x39.1)) (zaa x39.2)] [0,5] [] [.k 1000,.k 1001,.k 1002,.k 1003] ⟨[(0,.p 1000 0),(5,.d (.int .u8 x39.1))],zaa x39.2⟩ (a_ (a_ (zbV x37.2 p1.n x39 hx40) t_) t_) ?_
        refine AW2.seq ?_
        obtain ⟨x41,hx42,H⟩:=bind_some H
        refine r_ [.c [1000,1001,1002,1003] [] [1000] (.d (.int .u8 x41.1)) (zaa x41.2)] [0,5] [] [.k 1000,.k 1001,.k 1002,.k 1003] ⟨[(0,.p 1000 0),(5,.d (.int .u8 x39.1))],zaa x41.2⟩ (a_ (a_ (zai x39.2 x39.1 x41 hx42) t_) t_) ?_
        obtain ⟨x43,hx44,H⟩:=bind_some H
        refine r_ [.c [1000,1001,1002,1003] [] [1000] (.tup []) (zaa x43)] [] [] [.k 1000,.k 1001,.k 1002,.k 1003] ⟨[],zaa x43⟩ (a_ (a_ (zaP x41.2 x39.1 x43 hx44) t_) t_) ?_
        have H:=Option.some.inj H
        subst H
        exact retS_mkn3 [] [.k 1000,.k 1001,.k 1002,.k 1003] t_ (by kernel_rfl) (by kernel_rfl)
       ·replace H:=zak H hc
        refine AW2.seq ?_
        refine r_ [] [0,3,7,110] [] [.k 3,.k 1000,.k 1001,.k 1002,.k 1003] ⟨[(0,.p 1000 0),(3,.p 3 0),(7,.d (.int .u8 p1.op)),(110,.d (.bool (p1.op==(14:Int))))],[(3,.st false (eD (eInstr p1)))]++zaa p0⟩ (a_ t_ t_) ?_
        refine AW2.cond (b:=(p1.op==(14:Int))) rfl (fun hc => ?_) (fun hc => ?_)
        ·replace H:=zaj H hc
         obtain ⟨x45,hx46,H⟩:=bind_some H
         refine r_ [.c [1000,1001,1002,1003] [] [1000] (.tup []) (zaa x45)] [] [] [.k 1000,.k 1001,.k 1002,.k 1003] ⟨[],zaa x45⟩ (a_ (a_ (zjq k p0 p1 x45 hx46) t_) t_) ?_
         have H:=Option.some.inj H
         subst H
         exact retS_mkn3 [] [.k 1000,.k 1001,.k 1002,.k 1003] t_ (by kernel_rfl) (by kernel_rfl)
        ·replace H:=zak H hc
         refine AW2.seq ?_
         refine r_ [] [0,3,7,115] [] [.k 3,.k 1000,.k 1001,.k 1002,.k 1003] ⟨[(0,.p 1000 0),(3,.p 3 0),(7,.d (.int .u8 p1.op)),(115,.d (.bool (p1.op==(15:Int))))],[(3,.st false (eD (eInstr p1)))]++zaa p0⟩ (a_ t_ t_) ?_
         refine AW2.cond (b:=(p1.op==(15:Int))) rfl (fun hc => ?_) (fun hc => ?_)
         ·replace H:=zaj H hc
          refine AW2.seq ?_
          obtain ⟨x47,hx48,H⟩:=bind_some H
          refine r_ [.c [1000,1001,1002,1003] [] [1000] (.d (.int .u8 x47.1)) (zaa x47.2)] [0] [] [.k 1000,.k 1001,.k 1002,.k 1003] ⟨[(0,.p 1000 0)],zaa x47.2⟩ (a_ (a_ (zai p0 p0.t.result x47 hx48) t_) t_) ?_
          obtain ⟨x49,hx50,H⟩:=bind_some H
          refine r_ [.c [1000,1001,1002,1003] [] [1000] (.tup []) (zaa x49)] [] [] [.k 1000,.k 1001,.k 1002,.k 1003] ⟨[],zaa x49⟩ (a_ (a_ (zbU x47.2 x49 hx50) t_) t_) ?_
          have H:=Option.some.inj H
          subst H
          exact retS_mkn3 [] [.k 1000,.k 1001,.k 1002,.k 1003] t_ (by kernel_rfl) (by kernel_rfl)
         ·replace H:=zak H hc
          refine AW2.seq ?_
          refine r_ [] [0,3,7,126] [] [.k 3,.k 1000,.k 1001,.k 1002,.k 1003] ⟨[(0,.p 1000 0),(3,.p 3 0),(7,.d (.int .u8 p1.op)),(126,.d (.bool (p1.op==(16:Int))))],[(3,.st false (eD (eInstr p1)))]++zaa p0⟩ (a_ t_ t_) ?_
          refine AW2.cond (b:=(p1.op==(16:Int))) rfl (fun hc => ?_) (fun hc => ?_)
          ·replace H:=zaj H hc
           obtain ⟨x51,hx52,H⟩:=bind_some H
           obtain ⟨x53,hx54,H⟩:=bind_some H
           refine r_ [.c [1000,1001,1002,1003] [] [1000] (.agg (eD (eTyp x51.1))) (zaa x51.2),.c [1000,1001,1002,1003] [] [1000] (.tup []) (zaa x53)] [] [] [.k 1000,.k 1001,.k 1002,.k 1003] ⟨[],zaa x53⟩ (a_ (a_ (zgE p0 p1.n x51 hx52) (a_ (zdf x51.2 x51.1 x53 hx54) t_)) t_) ?_
           have H:=Option.some.inj H
           subst H
           exact retS_mkn3 [] [.k 1000,.k 1001,.k 1002,.k 1003] t_ (by kernel_rfl) (by kernel_rfl)
          ·replace H:=zak H hc
           refine AW2.seq ?_
           refine r_ [] [0,3,134] [] [.k 3,.k 1000,.k 1001,.k 1002,.k 1003] ⟨[(0,.p 1000 0),(3,.p 3 0),(134,.d (.bool (p1.op==(17:Int))))],[(3,.st false (eD (eInstr p1)))]++zaa p0⟩ (a_ t_ t_) ?_
           refine AW2.cond (b:=(p1.op==(17:Int))) rfl (fun hc => ?_) (fun hc => ?_)
           ·replace H:=zaj H hc
            refine AW2.seq ?_
            obtain ⟨j55,H63,H⟩:=bind_some H
            refine AW2.reg [] rfl (YW.to ⟨[(0,.p 1000 0),(3,.p 3 0)],[(3,.st false (eD (eInstr p1)))]++zaa j55⟩ ?qh64 ?h64)
            case h64 => 
             have H:=H63
             rcases bT p0.bad with hc1 | hc1
             ·replace H:=zaj H hc1
              have H:=Option.some.inj H
              subst H
              exact YW.fin [(141,true)] [] [0,3] [] [.k 3,.k 1000,.k 1001,.k 1002,.k 1003] _ (a_ (a_ hc1 (a_ hc1 (a_ hc1 (a_ hc1 (a_ hc1 (a_ hc1 (a_ hc1 (a_ hc1 t_)))))))) t_) (by kernel_rfl) rfl
             ·replace H:=zak H hc1
              have H:=Option.some.inj H
              subst H
              exact YW.fin [(141,false)] [] [0,3] [] [.k 3,.k 1000,.k 1001,.k 1002,.k 1003] _ (a_ (a_ hc1 (a_ hc1 (a_ hc1 (a_ hc1 (a_ hc1 (a_ hc1 (a_ hc1 (a_ hc1 t_)))))))) t_) (by kernel_rfl) rfl
            refine AW2.seq ?_
            obtain ⟨x56,hx57,H⟩:=bind_some H
            refine r_ [.c [1000,1001,1002,1003] [] [1000] (.d (.int .u8 x56.1)) (zaa x56.2)] [0,3] [] [.k 3,.k 1000,.k 1001,.k 1002,.k 1003] ⟨[(0,.p 1000 0),(3,.p 3 0)],[(3,.st false (eD (eInstr p1)))]++zaa x56.2⟩ (a_ (a_ (zai j55 127 x56 hx57) t_) t_) ?_
            obtain ⟨x58,hx59,H⟩:=bind_some H
            obtain ⟨x60,hx61,H⟩:=bind_some H
            refine r_ [.c [1000,1001,1002,1003] [] [1000] (.agg (eD (eTyp x58.1))) (zaa x58.2),.c [1000,1001,1002,1003] [] [1000] (.tup []) (zaa x60)] [] [] [.k 1000,.k 1001,.k 1002,.k 1003] ⟨[],zaa x60⟩ (a_ (a_ (zeK x56.2 p1.n x58 hx59) (a_ (zdf x58.2 x58.1 x60 hx61) t_)) t_) ?_
            have H:=Option.some.inj H
            subst H
            exact retS_mkn3 [] [.k 1000,.k 1001,.k 1002,.k 1003] t_ (by kernel_rfl) (by kernel_rfl)
           ·replace H:=zak H hc
            refine r_ [] [] [] [.k 1000,.k 1001,.k 1002,.k 1003] ⟨[],zaa (Checker.mk p0.m p0.t p0.locals p0.stack p0.frames p0.labels p0.most true)⟩ (a_ t_ t_) ?_
            have H:=Option.some.inj H
            subst H
            exact retS_mkn3 [] [.k 1000,.k 1001,.k 1002,.k 1003] t_ (by kernel_rfl) (by kernel_rfl)
   ·have H:=H66
    refine AW2.seq ?_
    refine r_ [] [0,3,7,17] [] [.k 3,.k 1000,.k 1001,.k 1002,.k 1003] ⟨[(0,.p 1000 0),(3,.p 3 0),(7,.d (.int .u8 p1.op)),(17,.d (.bool (p1.op==(2:Int))))],[(3,.st false (eD (eInstr p1)))]++zaa p0⟩ (a_ t_ t_) ?_
    refine AW2.cond (b:=(p1.op==(2:Int))) rfl (fun hc => ?_) (fun hc => ?_)
    ·replace H:=zaj H hc
     refine AW2.skip ?_
     have H:=Option.some.inj H
     subst H
     exact zay [0,3,7,17] [] [.k 3,.k 1000,.k 1001,.k 1002,.k 1003] t_ (by kernel_rfl)
    ·replace H:=zak H hc
     refine r_ [] [0,3,7,17] [] [.k 3,.k 1000,.k 1001,.k 1002,.k 1003] ⟨[(0,.p 1000 0),(3,.p 3 0),(7,.d (.int .u8 p1.op)),(17,.d (.bool (p1.op==(3:Int))))],[(3,.st false (eD (eInstr p1)))]++zaa p0⟩ (a_ t_ t_) ?_
     have H:=Option.some.inj H
     subst H
     exact zay [0,3,7,17] [] [.k 3,.k 1000,.k 1001,.k 1002,.k 1003] t_ (by kernel_rfl)
theorem zki (k:Nat) (IH_valid_checker_inner:∀ (p0:Checker) (p1:List Instr) (p2:Int) (p3:Int) (r:Checker),zah k p0 p1 p2 p3=some r→CM E 70 [.p 1000 0,.d (sVI p1),.d (.int .u8 p2),.d (.int .u8 p3)] (zaa p0) [] [1000] (fun a b => a=(.tup []:LV)∧b=zaa r)) (IH_valid_checker_control:∀ (p0:Checker) (p1:Instr) (r:Checker),zab k p0 p1=some r→CM E 55 [.p 1000 0,.agg (eD (eInstr p1))] (zaa p0) [] [1000] (fun a b => a=(.tup []:LV)∧b=zaa r)) (IH_valid_checker_list:∀ (p0:Checker) (p1:List Instr) (r:Checker),zal k p0 p1=some r→CM E 39 [.p 1000 0,.d (sVI p1)] (zaa p0) [] [1000] (fun a b => a=(.tup []:LV)∧b=zaa r)):∀ (p0:Checker) (p1:List Instr) (r:Checker),zal (k+1) p0 p1=some r→CM E 39 [.p 1000 0,.d (sVI p1)] (zaa p0) [] [1000] (fun a b => a=(.tup []:LV)∧b=zaa r):=by
 intro p0 p1 r H
 refine zkn (A:=zdi) zew fun fr => ?_
 unfold zal at H
 refine AW2.seq ?_
 refine r_ [] [0,6,7,8] [] [.k 1000,.k 1001,.k 1002,.k 1003] ⟨[(0,.p 1000 0),(6,.d (sVI p1)),(7,.d (.int .i64 (p1.length:Int))),(8,.d (.int .i64 0))],zaa p0⟩ (a_ t_ t_) ?_
 refine AW2.block ?_
 refine AW2.lpR (σ:=Checker×Int) (fun v => ⟨[(0,.p 1000 0),(6,.d (sVI p1)),(7,.d (.int .i64 (p1.length:Int))),(8,.d (.int .i64 v.2))],zaa v.1⟩) ?_ (v:=(p0,0)) H
 rintro rec5 ⟨a3,a4⟩ H
 dsimp only at H
 refine AW2.seq ?_
 refine r_ [] [0,6,7,8,9] [] [.k 1000,.k 1001,.k 1002,.k 1003] ⟨[(0,.p 1000 0),(6,.d (sVI p1)),(7,.d (.int .i64 (p1.length:Int))),(8,.d (.int .i64 a4)),(9,.d (.bool (decide (a4<(p1.length:Int)))))],zaa a3⟩ (a_ t_ t_) ?_
 refine AW2.seq ?_
 refine AW2.cond (b:=(decide (a4<(p1.length:Int)))) rfl (fun hc => ?_) (fun hc => ?_)
 ·replace H:=zaj H hc
  refine AW2.skip ?_
  refine AW2.seq ?_
  refine AW2.block ?_
  refine AW2.seq ?_
  obtain ⟨h6,H⟩:=zad H
  refine r_ [.e (eInstr (p1.getD a4.toNat default)),.k 5] [0,5,6,7,8] [] [.k 5,.k 1000,.k 1001,.k 1002,.k 1003] ⟨[(0,.p 1000 0),(5,.p 5 0),(6,.d (sVI p1)),(7,.d (.int .i64 (p1.length:Int))),(8,.d (.int .i64 a4))],[(5,.st false (eD (eInstr (p1.getD a4.toNat default))))]++zaa a3⟩ (a_ (a_ h6 (a_ (flI_ix h6) t_)) t_) ?_
  refine AW2.seq ?_
  refine AW2.seq ?_
  refine r_ [] [0,5,6,7,8,15] [] [.k 5,.k 1000,.k 1001,.k 1002,.k 1003] ⟨[(0,.p 1000 0),(5,.p 5 0),(6,.d (sVI p1)),(7,.d (.int .i64 (p1.length:Int))),(8,.d (.int .i64 a4)),(15,.d (.bool a3.bad))],[(5,.st false (eD (eInstr (p1.getD a4.toNat default))))]++zaa a3⟩ (a_ t_ t_) ?_
  refine AW2.cond (b:=a3.bad) rfl (fun hc => ?_) (fun hc => ?_)
  ·replace H:=zaj H hc
   refine AW2.ret ?_
   have H:=Option.some.inj H
   subst H
   exact retS_mk3 [] [.k 1000,.k 1001,.k 1002,.k 1003] t_ (by kernel_rfl) (by kernel_rfl)
  ·replace H:=zak H hc
   refine AW2.skip ?_
   refine AW2.seq ?_
   refine r_ [] [0,5,6,7,8,18] [] [.k 5,.k 1000,.k 1001,.k 1002,.k 1003] ⟨[(0,.p 1000 0),(5,.p 5 0),(6,.d (sVI p1)),(7,.d (.int .i64 (p1.length:Int))),(8,.d (.int .i64 a4)),(18,.d (.bool (decide (((p1.getD a4.toNat default).op)<(26:Int)))))],[(5,.st false (eD (eInstr (p1.getD a4.toNat default))))]++zaa a3⟩ (a_ t_ t_) ?_
   refine AW2.cond (b:=(decide (((p1.getD a4.toNat default).op)<(26:Int)))) rfl (fun hc => ?_) (fun hc => ?_)
   ·replace H:=zaj H hc
    obtain ⟨x7,hx8,H⟩:=bind_some H
    refine r_ [.c [1000,1001,1002,1003] [] [1000] (.tup []) (zaa x7)] [0,6,7,8] [] [.k 1000,.k 1001,.k 1002,.k 1003] ⟨[(0,.p 1000 0),(6,.d (sVI p1)),(7,.d (.int .i64 (p1.length:Int))),(8,.d (.int .i64 a4))],zaa x7⟩ (a_ (a_ (IH_valid_checker_control a3 (p1.getD a4.toNat default) x7 hx8) t_) t_) ?_
    refine r_ [] [0,6,7,8] [] [.k 1000,.k 1001,.k 1002,.k 1003] ⟨[(0,.p 1000 0),(6,.d (sVI p1)),(7,.d (.int .i64 (p1.length:Int))),(8,.d (.int .i64 (wI (a4+1))))],zaa x7⟩ (a_ t_ t_) ?_
    exact ⟨(x7,(wI (a4+1))),H,zay [0,6,7,8] [] [.k 1000,.k 1001,.k 1002,.k 1003] t_ (by kernel_rfl)⟩
   ·replace H:=zak H hc
    obtain ⟨x9,hx10,H⟩:=bind_some H
    refine r_ [.c [1000,1001,1002,1003] [] [1000] (.tup []) (zaa x9)] [0,6,7,8] [] [.k 1000,.k 1001,.k 1002,.k 1003] ⟨[(0,.p 1000 0),(6,.d (sVI p1)),(7,.d (.int .i64 (p1.length:Int))),(8,.d (.int .i64 a4))],zaa x9⟩ (a_ (a_ (zig a3 (p1.getD a4.toNat default) x9 hx10) t_) t_) ?_
    refine r_ [] [0,6,7,8] [] [.k 1000,.k 1001,.k 1002,.k 1003] ⟨[(0,.p 1000 0),(6,.d (sVI p1)),(7,.d (.int .i64 (p1.length:Int))),(8,.d (.int .i64 (wI (a4+1))))],zaa x9⟩ (a_ t_ t_) ?_
    exact ⟨(x9,(wI (a4+1))),H,zay [0,6,7,8] [] [.k 1000,.k 1001,.k 1002,.k 1003] t_ (by kernel_rfl)⟩
 ·replace H:=zak H hc
  refine AW2.exit ?_
  have H:=Option.some.inj H
  subst H
  exact retS_mkn3 [] [.k 1000,.k 1001,.k 1002,.k 1003] t_ (by kernel_rfl) (by kernel_rfl)
theorem zgd:∀ k,(∀ (p0:Checker) (p1:List Instr) (p2:Int) (p3:Int) (r:Checker),zah k p0 p1 p2 p3=some r→CM E 70 [.p 1000 0,.d (sVI p1),.d (.int .u8 p2),.d (.int .u8 p3)] (zaa p0) [] [1000] (fun a b => a=(.tup []:LV)∧b=zaa r))∧(∀ (p0:Checker) (p1:Instr) (r:Checker),zab k p0 p1=some r→CM E 55 [.p 1000 0,.agg (eD (eInstr p1))] (zaa p0) [] [1000] (fun a b => a=(.tup []:LV)∧b=zaa r))∧(∀ (p0:Checker) (p1:List Instr) (r:Checker),zal k p0 p1=some r→CM E 39 [.p 1000 0,.d (sVI p1)] (zaa p0) [] [1000] (fun a b => a=(.tup []:LV)∧b=zaa r)):=by
 intro k
 induction k with
 | zero => exact ⟨fun _ _ _ _ _ H => (by cases H),fun _ _ _ H => (by cases H),fun _ _ _ H => (by cases H)⟩
 | succ k ih => 
  obtain ⟨i0,i1,i2⟩:=ih
  exact ⟨zjh k i0 i1 i2,zhB k i0 i1 i2,zki k i0 i1 i2⟩
theorem zko (k:Nat):∀ (p0:Checker) (p1:List Instr) (r:Checker),zal k p0 p1=some r→CM E 39 [.p 1000 0,.d (sVI p1)] (zaa p0) [] [1000] (fun a b => a=(.tup []:LV)∧b=zaa r):=(zgd k).2.2
def zcZ (K:Nat) (p0:Mdl) (p1:Int):Option (Option Checker×Option Int):=(if (decide (p1<(0:Int)))=true then some true else (if (decide (p1≥(p0.funcs.length:Int)))=true then some true else gd (0≤p1∧p1<(p0.funcs.length:Int)) (if (decide (((p0.funcs.getD p1.toNat default).type_)≥(IntKind.wrap .u32 (p0.types.length:Int))))=true then some true else ((zeC K p0).bind fun x2 => some (!x2))))).bind (fun j4 => (if j4=true then some (none,(some 1)) else gd (0≤p1∧p1<(p0.funcs.length:Int)) (gd (0≤((p0.funcs.getD p1.toNat default).type_)∧((p0.funcs.getD p1.toNat default).type_)<(p0.types.length:Int)) (gd (0≤p1∧p1<(p0.funcs.length:Int)) ((zaI K ([(p0.types.getD ((p0.funcs.getD p1.toNat default).type_).toNat default).params,(p0.funcs.getD p1.toNat default).locals]:List (List Int))).bind fun x8 => gd (0≤p1∧p1<(p0.funcs.length:Int)) ((zal K (Checker.mk p0 (p0.types.getD ((p0.funcs.getD p1.toNat default).type_).toNat default) x8 ([]:List Int) ([(Frame.mk 0 false false)]:List Frame) ([(p0.types.getD ((p0.funcs.getD p1.toNat default).type_).toNat default).result]:List Int) 0 false) ((p0.funcs.getD p1.toNat default).body)).bind fun x11 => ((zac x11 ((p0.types.getD ((p0.funcs.getD p1.toNat default).type_).toNat default).result)).bind fun x13 => (if (x13.2.bad||(decide ((x13.2.stack.length:Int)>(0:Int))))=true then some (none,(some 7)) else some ((some x13.2),none)))))))))
theorem zlP (K:Nat) (p0:Mdl) (p1:Int) (r:Option Checker×Option Int) (H:zcZ K p0 p1=some r):CF E 24 [.agg (eMdl p0),.int .i64 p1] (.tup [.pt (r.1.map eChecker),.err 45 r.2]):=by
 refine zcG (A:=zhZ) zkY rfl fun fr => ?_
 unfold zcZ at H
 refine AW2.seq ?_
 refine r_ [.k 2] [1,2] [] [.k 2] ⟨[(1,.d (.int .i64 p1)),(2,.p 2 0)],[(2,.st false (eD (eMdl p0)))]⟩ (a_ t_ t_) ?_
 refine AW2.seq ?_
 refine AW2.seq ?_
 obtain ⟨j4,H17,H⟩:=bind_some H
 refine AW2.reg [] rfl (YW.to ⟨[(1,.d (.int .i64 p1)),(2,.p 2 0),(34,.d (.bool j4))],[(2,.st false (eD (eMdl p0)))]⟩ ?qh18 ?h18)
 case h18 => 
  have H:=H17
  rcases bT (decide (p1<(0:Int))) with hc1 | hc1
  ·replace H:=zaj H hc1
   have H:=Option.some.inj H
   subst H
   exact YW.fin [(10,true),(17,true),(30,true)] [] [1,2,34] [] [.k 2] _ (a_ (a_ hc1 (a_ hc1 (a_ hc1 (a_ hc1 (a_ hc1 (a_ hc1 (a_ (Eq.refl true) (a_ (Eq.refl true) (a_ (Eq.refl true) (a_ (Eq.refl true) (a_ (Eq.refl true) (a_ (Eq.refl true) (a_ (Eq.refl true) (a_ (Eq.refl true) (a_ (Eq.refl true) (a_ (Eq.refl true) (a_ (Eq.refl true) (a_ (Eq.refl true) (a_ (Eq.refl true) (a_ (Eq.refl true) (a_ (Eq.refl true) (a_ (Eq.refl true) t_)))))))))))))))))))))) t_) (by kernel_rfl) rfl
  ·replace H:=zak H hc1
   rcases bT (decide (p1≥(p0.funcs.length:Int))) with hc2 | hc2
   ·replace H:=zaj H hc2
    have H:=Option.some.inj H
    subst H
    exact YW.fin [(10,false),(17,true),(30,true)] [] [1,2,34] [] [.k 2] _ (a_ (a_ hc1 (a_ hc1 (a_ hc1 (a_ hc1 (a_ hc1 (a_ hc1 (a_ hc2 (a_ hc2 (a_ hc2 (a_ hc2 (a_ hc2 (a_ hc2 (a_ hc2 (a_ hc2 (a_ hc2 (a_ hc2 (a_ hc2 (a_ hc2 (a_ (Eq.refl true) (a_ (Eq.refl true) (a_ (Eq.refl true) (a_ (Eq.refl true) t_)))))))))))))))))))))) t_) (by kernel_rfl) rfl
   ·replace H:=zak H hc2
    obtain ⟨h1,H⟩:=zad H
    rcases bT (decide (((p0.funcs.getD p1.toNat default).type_)≥(IntKind.wrap .u32 (p0.types.length:Int)))) with hc3 | hc3
    ·replace H:=zaj H hc3
     have H:=Option.some.inj H
     subst H
     exact YW.fin [(10,false),(17,false),(30,true)] [] [1,2,34] [] [.k 2] _ (a_ (a_ hc1 (a_ hc1 (a_ hc1 (a_ hc1 (a_ hc1 (a_ hc1 (a_ hc2 (a_ hc2 (a_ hc2 (a_ hc2 (a_ h1 (a_ hc2 (a_ hc2 (a_ hc2 (a_ hc2 (a_ hc2 (a_ hc2 (a_ hc2 (a_ hc2 (a_ hc3 (a_ hc3 (a_ hc3 (a_ hc3 t_))))))))))))))))))))))) t_) (by kernel_rfl) rfl
    ·replace H:=zak H hc3
     obtain ⟨x2,hx3,H⟩:=bind_some H
     have H:=Option.some.inj H
     subst H
     exact YW.fin [(10,false),(17,false),(30,false)] [.r (.bool x2)] [1,2,34] [] [.k 2] _ (a_ (a_ hc1 (a_ hc1 (a_ hc1 (a_ hc1 (a_ hc1 (a_ hc1 (a_ hc2 (a_ hc2 (a_ hc2 (a_ hc2 (a_ h1 (a_ hc2 (a_ hc2 (a_ hc2 (a_ hc2 (a_ hc2 (a_ hc2 (a_ hc2 (a_ hc2 (a_ hc3 (a_ hc3 (a_ (zwW K p0 x2 hx3) (a_ hc3 (a_ hc3 t_)))))))))))))))))))))))) t_) (by kernel_rfl) rfl
 refine AW2.cond (b:=j4) rfl (fun hc => ?_) (fun hc => ?_)
 ·replace H:=zaj H hc
  refine AW2.seq ?_
  refine r_ [] [4,5] [] [] ⟨[(4,.d .nilp),(5,.d (.err 45 (some 1)))],[]⟩ (a_ t_ t_) ?_
  refine AW2.ret ?_
  have H:=Option.some.inj H
  subst H
  exact retP_mk2 t_ (by kernel_rfl)
 ·replace H:=zak H hc
  refine AW2.skip ?_
  refine AW2.seq ?_
  obtain ⟨h5,H⟩:=zad H
  obtain ⟨h6,H⟩:=zad H
  refine r_ [.k 6] [1,2,6] [] [.k 2,.k 6] ⟨[(1,.d (.int .i64 p1)),(2,.p 2 0),(6,.p 6 0)],[(2,.st false (eD (eMdl p0))),(6,.st false (eD (eTyp (p0.types.getD ((p0.funcs.getD p1.toNat default).type_).toNat default))))]⟩ (a_ (a_ h5 (a_ h6 t_)) t_) ?_
  refine AW2.seq ?_
  obtain ⟨h7,H⟩:=zad H
  obtain ⟨x8,hx9,H⟩:=bind_some H
  refine r_ [.sb ([(p0.types.getD ((p0.funcs.getD p1.toNat default).type_).toNat default).params,(p0.funcs.getD p1.toNat default).locals]:List (List Int)).length (fl (eL (eI .u8)) ([(p0.types.getD ((p0.funcs.getD p1.toNat default).type_).toNat default).params,(p0.funcs.getD p1.toNat default).locals]:List (List Int))),.r (sV (eI .u8) x8),.k 1000] [1,2,6,7] [] [.k 2,.k 6,.k 1000] ⟨[(1,.d (.int .i64 p1)),(2,.p 2 0),(6,.p 6 0),(7,.p 1000 0)],[(2,.st false (eD (eMdl p0))),(6,.st false (eD (eTyp (p0.types.getD ((p0.funcs.getD p1.toNat default).type_).toNat default)))),(1000,.st false [.d (sV eTyp p0.types),.d (sV eFnc p0.funcs),.d (sV eLim p0.tables),.d (sV eLim p0.memories),.d (sV eGlo p0.globals),.d (sV eXpo p0.exports),.d (sV eEle p0.elems),.d (sV eDat p0.datas),.d (sV (eI .u8) ((p0.types.getD ((p0.funcs.getD p1.toNat default).type_).toNat default).params)),.d (.int .u8 ((p0.types.getD ((p0.funcs.getD p1.toNat default).type_).toNat default).result)),.d (sV (eI .u8) x8),.d .nils,.d .nils,.d .nils,.d (.int .i64 0),.d (.bool false)])]⟩ (a_ (a_ h7 (a_ (litF (eL (eI .u8)) ([(p0.types.getD ((p0.funcs.getD p1.toNat default).type_).toNat default).params,(p0.funcs.getD p1.toNat default).locals]:List (List Int))) (a_ (zeg K ([(p0.types.getD ((p0.funcs.getD p1.toNat default).type_).toNat default).params,(p0.funcs.getD p1.toNat default).locals]:List (List Int)) x8 hx9) t_))) t_) ?_
  refine AW2.seq ?_
  refine AW2.reg [(1000,0,12)] (by kernel_rfl) (YW.fin [] [.ks true 1002 ([(Frame.mk 0 false false)]:List Frame).length (fl eFrame ([(Frame.mk 0 false false)]:List Frame)),.ks true 1003 ([(p0.types.getD ((p0.funcs.getD p1.toNat default).type_).toNat default).result]:List Int).length (fl (eI .u8) ([(p0.types.getD ((p0.funcs.getD p1.toNat default).type_).toNat default).result]:List Int))] [1,2,6,7] [] [.k 2,.k 6,.k 1000,.k 1002,.k 1003] ⟨[(1,.d (.int .i64 p1)),(2,.p 2 0),(6,.p 6 0),(7,.p 1000 0)],[(2,.st false (eD (eMdl p0))),(6,.st false (eD (eTyp (p0.types.getD ((p0.funcs.getD p1.toNat default).type_).toNat default)))),(1000,.st false [.d (sV eTyp p0.types),.d (sV eFnc p0.funcs),.d (sV eLim p0.tables),.d (sV eLim p0.memories),.d (sV eGlo p0.globals),.d (sV eXpo p0.exports),.d (sV eEle p0.elems),.d (sV eDat p0.datas),.d (sV (eI .u8) ((p0.types.getD ((p0.funcs.getD p1.toNat default).type_).toNat default).params)),.d (.int .u8 ((p0.types.getD ((p0.funcs.getD p1.toNat default).type_).toNat default).result)),.d (sV (eI .u8) x8),.d .nils,.ls 1002 0 ([(Frame.mk 0 false false)]:List Frame).length,.ls 1003 0 ([(p0.types.getD ((p0.funcs.getD p1.toNat default).type_).toNat default).result]:List Int).length,.d (.int .i64 0),.d (.bool false)]),(1002,.sl false 3 ([(Frame.mk 0 false false)]:List Frame).length (fl eFrame ([(Frame.mk 0 false false)]:List Frame))),(1003,.sl false 1 ([(p0.types.getD ((p0.funcs.getD p1.toNat default).type_).toNat default).result]:List Int).length (fl (eI .u8) ([(p0.types.getD ((p0.funcs.getD p1.toNat default).type_).toNat default).result]:List Int)))]⟩ (a_ (a_ (litK eFrame ([(Frame.mk 0 false false)]:List Frame) (fun _ => rfl)) (a_ (litK (eI .u8) ([(p0.types.getD ((p0.funcs.getD p1.toNat default).type_).toNat default).result]:List Int) (fun _ => rfl)) t_)) t_) (by kernel_rfl) ?_)
  refine AW2.seq ?_
  refine AW2.cv [.c 1000 11 1001 1 (fl (eI .u8) ([]:List Int))] [1,2,6,7] [] [.k 2,.k 6,.k 1000,.k 1001,.k 1002,.k 1003] ⟨[(1,.d (.int .i64 p1)),(2,.p 2 0),(6,.p 6 0),(7,.p 1000 0)],[(2,.st false (eD (eMdl p0))),(6,.st false (eD (eTyp (p0.types.getD ((p0.funcs.getD p1.toNat default).type_).toNat default))))]++zaa (Checker.mk p0 (p0.types.getD ((p0.funcs.getD p1.toNat default).type_).toNat default) x8 ([]:List Int) ([(Frame.mk 0 false false)]:List Frame) ([(p0.types.getD ((p0.funcs.getD p1.toNat default).type_).toNat default).result]:List Int) 0 false)⟩ t_ (by kernel_rfl) ?_
  obtain ⟨h10,H⟩:=zad H
  obtain ⟨x11,hx12,H⟩:=bind_some H
  refine r_ [.c [1000,1001,1002,1003] [] [1000] (.tup []) (zaa x11)] [6,7] [] [.k 6,.k 1000,.k 1001,.k 1002,.k 1003] ⟨[(6,.p 6 0),(7,.p 1000 0)],[(6,.st false (eD (eTyp (p0.types.getD ((p0.funcs.getD p1.toNat default).type_).toNat default))))]++zaa x11⟩ (a_ (a_ h10 (a_ (zko K (Checker.mk p0 (p0.types.getD ((p0.funcs.getD p1.toNat default).type_).toNat default) x8 ([]:List Int) ([(Frame.mk 0 false false)]:List Frame) ([(p0.types.getD ((p0.funcs.getD p1.toNat default).type_).toNat default).result]:List Int) 0 false) ((p0.funcs.getD p1.toNat default).body) x11 hx12) t_)) t_) ?_
  refine AW2.seq ?_
  obtain ⟨x13,hx14,H⟩:=bind_some H
  refine r_ [.c [1000,1001,1002,1003] [] [1000] (.d (.int .u8 x13.1)) (zaa x13.2)] [7] [] [.k 1000,.k 1001,.k 1002,.k 1003] ⟨[(7,.p 1000 0)],zaa x13.2⟩ (a_ (a_ (zai x11 ((p0.types.getD ((p0.funcs.getD p1.toNat default).type_).toNat default).result) x13 hx14) t_) t_) ?_
  refine AW2.seq ?_
  refine AW2.seq ?_
  refine AW2.reg [] rfl (YW.to ⟨[(7,.p 1000 0),(94,.d (.bool (x13.2.bad||(decide ((x13.2.stack.length:Int)>(0:Int))))))],zaa x13.2⟩ ?qh15 ?h15)
  case h15 => 
   rcases bT x13.2.bad with hc1 | hc1
   ·exact YW.fin [(87,true)] [] [7,94] [(94,.d (.bool (x13.2.bad||(decide ((x13.2.stack.length:Int)>(0:Int))))))] [.k 1000,.k 1001,.k 1002,.k 1003] _ (a_ (a_ hc1 (a_ hc1 (a_ hc1 (a_ hc1 (a_ hc1 (a_ hc1 (a_ hc1 t_))))))) (a_ (ovB (orT (b:=(decide ((x13.2.stack.length:Int)>(0:Int)))) hc1)) t_)) (by kernel_rfl) rfl
   ·exact YW.fin [(87,false)] [] [7,94] [(94,.d (.bool (x13.2.bad||(decide ((x13.2.stack.length:Int)>(0:Int))))))] [.k 1000,.k 1001,.k 1002,.k 1003] _ (a_ (a_ hc1 (a_ hc1 (a_ hc1 (a_ hc1 (a_ hc1 (a_ hc1 (a_ hc1 t_))))))) (a_ (ovB (Eq.trans (orF (b:=(decide ((x13.2.stack.length:Int)>(0:Int)))) hc1) (Eq.refl (decide ((x13.2.stack.length:Int)>(0:Int)))))) t_)) (by kernel_rfl) rfl
  refine AW2.cond (b:=(x13.2.bad||(decide ((x13.2.stack.length:Int)>(0:Int))))) rfl (fun hc => ?_) (fun hc => ?_)
  ·replace H:=zaj H hc
   refine AW2.seq ?_
   refine r_ [] [4,5] [] [] ⟨[(4,.d .nilp),(5,.d (.err 45 (some 7)))],[]⟩ (a_ t_ t_) ?_
   refine AW2.ret ?_
   have H:=Option.some.inj H
   subst H
   exact retP_mk2 t_ (by kernel_rfl)
  ·replace H:=zak H hc
   refine AW2.skip ?_
   refine AW2.seq ?_
   refine r_ [] [4,5] [] [.k 1000,.k 1001,.k 1002,.k 1003] ⟨[(4,.p 1000 0),(5,.d .nili)],zaa x13.2⟩ (a_ t_ t_) ?_
   refine AW2.ret ?_
   have H:=Option.some.inj H
   subst H
   exact retP_mk2 (a_ (Nat.le_refl x13.2.stack.length) (a_ (dfl (eI .u8) (zoF .u8) x13.2.stack) (a_ (Nat.le_refl x13.2.frames.length) (a_ (dfl eFrame zzF x13.2.frames) (a_ (Nat.le_refl x13.2.labels.length) (a_ (dfl (eI .u8) (zoF .u8) x13.2.labels) t_)))))) (by kernel_rfl)
def zeu (K:Nat) (p0:Mdl) (p1:Int):Option (Option Int):=((zcZ K p0 p1).bind fun x1 => some x1.2)
theorem zoG (K:Nat) (p0:Mdl) (p1:Int) (r:Option Int) (H:zeu K p0 p1=some r):CF E 6 [.agg (eMdl p0),.int .i64 p1] (.err 45 r):=by
 refine zcG (A:=zjw) zlK rfl fun fr => ?_
 unfold zeu at H
 refine AW2.seq ?_
 refine r_ [.k 2] [1,2] [] [.k 2] ⟨[(1,.d (.int .i64 p1)),(2,.p 2 0)],[(2,.st false (eD (eMdl p0)))]⟩ (a_ t_ t_) ?_
 refine AW2.seq ?_
 obtain ⟨x1,hx2,H⟩:=bind_some H
 refine r_ [.r (.tup [.pt (x1.1.map eChecker),.err 45 x1.2])] [6] [] [] ⟨[(6,.d (.err 45 x1.2))],[]⟩ (a_ (a_ (zlP K p0 p1 x1 hx2) t_) t_) ?_
 refine AW2.seq ?_
 refine r_ [] [4] [] [] ⟨[(4,.d (.err 45 x1.2))],[]⟩ (a_ t_ t_) ?_
 refine AW2.ret ?_
 have H:=Option.some.inj H
 subst H
 exact retP_mk2 t_ (by kernel_rfl)
def zaO (p0:Int) (p1:Bool):Option (Bool):=some ((p0==(127:Int))||((p0==(126:Int))||(p1&&(p0==(0:Int)))))
theorem zfY (p0:Int) (p1:Bool) (r:Bool) (H:zaO p0 p1=some r):CF E 41 [.int .u8 p0,.bool p1] (.bool r):=by
 refine zcG (A:=zoN) zwI rfl fun fr => ?_
 unfold zaO at H
 refine AW2.seq ?_
 refine r_ [] [0,1] [] [] ⟨[(0,.d (.int .u8 p0)),(1,.d (.bool p1))],[]⟩ (a_ t_ t_) ?_
 refine AW2.seq ?_
 refine AW2.reg [] rfl (YW.to ⟨[(4,.d (.bool ((p0==(127:Int))||((p0==(126:Int))||(p1&&(p0==(0:Int)))))))],[]⟩ ?qh1 ?h1)
 case h1 => 
  rcases bT (p0==(127:Int)) with hc1 | hc1
  ·exact YW.fin [(7,true),(11,true)] [] [4] [(4,.d (.bool ((p0==(127:Int))||((p0==(126:Int))||(p1&&(p0==(0:Int)))))))] [] _ (a_ (a_ hc1 (a_ hc1 (a_ hc1 (a_ (Eq.refl true) (a_ (Eq.refl true) (a_ (Eq.refl true) (a_ (Eq.refl true) t_))))))) (a_ (ovB (orT (b:=((p0==(126:Int))||(p1&&(p0==(0:Int))))) hc1)) t_)) (by kernel_rfl) rfl
  ·rcases bT (p0==(126:Int)) with hc2 | hc2
   ·exact YW.fin [(7,false),(11,true)] [] [4] [(4,.d (.bool ((p0==(127:Int))||((p0==(126:Int))||(p1&&(p0==(0:Int)))))))] [] _ (a_ (a_ hc1 (a_ hc1 (a_ hc1 (a_ hc2 (a_ hc2 (a_ hc2 (a_ hc2 t_))))))) (a_ (ovB (Eq.trans (orF (b:=((p0==(126:Int))||(p1&&(p0==(0:Int))))) hc1) (orT (b:=(p1&&(p0==(0:Int)))) hc2))) t_)) (by kernel_rfl) rfl
   ·rcases bT p1 with hc3 | hc3
    ·exact YW.fin [(7,false),(11,false),(13,true)] [] [4] [(4,.d (.bool ((p0==(127:Int))||((p0==(126:Int))||(p1&&(p0==(0:Int)))))))] [] _ (a_ (a_ hc1 (a_ hc1 (a_ hc1 (a_ hc2 (a_ hc2 (a_ hc3 (a_ hc3 (a_ hc2 (a_ hc3 (a_ hc2 t_)))))))))) (a_ (ovB (Eq.trans (orF (b:=((p0==(126:Int))||(p1&&(p0==(0:Int))))) hc1) (Eq.trans (orF (b:=(p1&&(p0==(0:Int)))) hc2) (Eq.trans (andT (b:=(p0==(0:Int))) hc3) (Eq.refl (p0==(0:Int))))))) t_)) (by kernel_rfl) rfl
    ·exact YW.fin [(7,false),(11,false),(13,false)] [] [4] [(4,.d (.bool ((p0==(127:Int))||((p0==(126:Int))||(p1&&(p0==(0:Int)))))))] [] _ (a_ (a_ hc1 (a_ hc1 (a_ hc1 (a_ hc2 (a_ hc2 (a_ hc3 (a_ hc3 (a_ hc2 (a_ hc3 (a_ hc2 t_)))))))))) (a_ (ovB (Eq.trans (orF (b:=((p0==(126:Int))||(p1&&(p0==(0:Int))))) hc1) (Eq.trans (orF (b:=(p1&&(p0==(0:Int)))) hc2) (andF (b:=(p0==(0:Int))) hc3)))) t_)) (by kernel_rfl) rfl
 refine AW2.ret ?_
 have H:=Option.some.inj H
 subst H
 exact retP_mk2 t_ (by kernel_rfl)
def zbP:Nat→Mdl→Bool→Int→Option (Bool)
 | 0,_,_,_ => none
 | k+1,p0,a6,a7 => (if (decide (a7<(p0.globals.length:Int)))=true then (if a6=true then gd (0≤a7∧a7<(p0.globals.length:Int)) ((zaO ((p0.globals.getD a7.toNat default).kind) false).bind fun x9 => some x9) else some false).bind (fun j11 => zbP k p0 j11 (wI (a7+1))) else some a6)
def zbN:Nat→Mdl→Int→Bool→Int→Option (Bool)
 | 0,_,_,_,_ => none
 | k+1,p0,a20,a24,a25 => gd (0≤a20∧a20<(p0.funcs.length:Int)) (if (decide (a25<(((p0.funcs.getD a20.toNat default).locals).length:Int)))=true then (if a24=true then gd (0≤a20∧a20<(p0.funcs.length:Int)) (gd (0≤a25∧a25<(((p0.funcs.getD a20.toNat default).locals).length:Int)) ((zaO (((p0.funcs.getD a20.toNat default).locals).getD a25.toNat default) false).bind fun x29 => some x29)) else some false).bind (fun j31 => zbN k p0 a20 j31 (wI (a25+1))) else some a24)
def zbO:Nat→Nat→Mdl→Bool→Int→Option (Bool)
 | 0,_,_,_,_ => none
 | k+1,K,p0,a19,a20 => (if (decide (a20<(p0.funcs.length:Int)))=true then (zbN K p0 a20 a19 0).bind (fun j21 => zbO k K p0 j21 (wI (a20+1))) else some a19)
def zbD:Nat→Mdl→Int→Bool→Int→Option (Bool)
 | 0,_,_,_,_ => none
 | k+1,p0,a42,a50,a51 => gd (0≤a42∧a42<(p0.types.length:Int)) (if (decide (a51<(((p0.types.getD a42.toNat default).params).length:Int)))=true then (if a50=true then gd (0≤a42∧a42<(p0.types.length:Int)) (gd (0≤a51∧a51<(((p0.types.getD a42.toNat default).params).length:Int)) ((zaO (((p0.types.getD a42.toNat default).params).getD a51.toNat default) false).bind fun x55 => some x55)) else some false).bind (fun j57 => zbD k p0 a42 j57 (wI (a51+1))) else some a50)
def zbM:Nat→Nat→Mdl→Bool→Int→Option (Bool)
 | 0,_,_,_,_ => none
 | k+1,K,p0,a41,a42 => (if (decide (a42<(p0.types.length:Int)))=true then ((if a41=true then gd (0≤a42∧a42<(p0.types.length:Int)) ((zaO ((p0.types.getD a42.toNat default).result) true).bind fun x45 => some x45) else some false).bind (fun j47 => zbD K p0 a42 j47 0)).bind (fun j43 => zbM k K p0 j43 (wI (a42+1))) else some a41)
def zeb (K:Nat) (p0:Mdl):Option (Bool):=(zbM K K p0 true 0).bind (fun j1 => (zbO K K p0 j1 0).bind (fun j2 => (zbP K p0 j2 0).bind (fun j3 => some j3)))
theorem zwZ (K:Nat) (p0:Mdl) (r:Bool) (H:zeb K p0=some r):CF E 25 [.agg (eMdl p0)] (.bool r):=by
 refine zcG (A:=zmi) zvn rfl fun fr => ?_
 unfold zeb at H
 refine AW2.seq ?_
 refine r_ [.k 1] [1] [] [.k 1] ⟨[(1,.p 1 0)],[(1,.st false (eD (eMdl p0)))]⟩ (a_ t_ t_) ?_
 refine AW2.seq ?_
 refine r_ [] [1,3] [] [.k 1] ⟨[(1,.p 1 0),(3,.d (.bool true))],[(1,.st false (eD (eMdl p0)))]⟩ (a_ t_ t_) ?_
 obtain ⟨j1,H67,H⟩:=bind_some H
 refine AW2.mid ⟨[(1,.p 1 0),(3,.d (.bool j1))],[(1,.st false (eD (eMdl p0)))]⟩ ?_ ?_
 ·obtain ⟨j2,H38,H⟩:=bind_some H
  refine AW2.mid ⟨[(1,.p 1 0),(3,.d (.bool j2))],[(1,.st false (eD (eMdl p0)))]⟩ ?_ ?_
  ·obtain ⟨j3,H16,H⟩:=bind_some H
   refine AW2.mid ⟨[(3,.d (.bool j3))],[]⟩ ?_ ?_
   ·refine AW2.seq ?_
    refine r_ [] [2] [] [] ⟨[(2,.d (.bool j3))],[]⟩ (a_ t_ t_) ?_
    refine AW2.ret ?_
    have H:=Option.some.inj H
    subst H
    exact retP_mk2 t_ (by kernel_rfl)
   ·have H:=H16
    refine AW2.seq ?_
    refine r_ [] [1,3,8] [] [.k 1] ⟨[(1,.p 1 0),(3,.d (.bool j2)),(8,.d (.int .i64 0))],[(1,.st false (eD (eMdl p0)))]⟩ (a_ t_ t_) ?_
    refine AW2.block ?_
    refine AW2.lp (σ:=Bool×Int) (fun v => ⟨[(1,.p 1 0),(3,.d (.bool v.1)),(8,.d (.int .i64 v.2))],[(1,.st false (eD (eMdl p0)))]⟩) (fun k v => zbP k p0 v.1 v.2=some j3) ?_ K (j2,0) H
    rintro k ⟨a6,a7⟩ H
    dsimp only at H
    cases k with
    | zero => cases H
    | succ k => 
    unfold zbP at H
    refine AW2.seq ?_
    refine AW2.seq ?_
    refine r_ [] [1,3,8,85] [] [.k 1] ⟨[(1,.p 1 0),(3,.d (.bool a6)),(8,.d (.int .i64 a7)),(85,.d (.bool (decide (a7<(p0.globals.length:Int)))))],[(1,.st false (eD (eMdl p0)))]⟩ (a_ t_ t_) ?_
    refine AW2.cond (b:=(decide (a7<(p0.globals.length:Int)))) rfl (fun hc => ?_) (fun hc => ?_)
    ·replace H:=zaj H hc
     refine AW2.skip ?_
     refine AW2.seq ?_
     refine AW2.block ?_
     obtain ⟨j11,H13,H⟩:=bind_some H
     refine AW2.reg [] rfl (YW.to ⟨[(1,.p 1 0),(3,.d (.bool j11)),(8,.d (.int .i64 a7))],[(1,.st false (eD (eMdl p0)))]⟩ ?qh14 ?h14)
     case h14 => 
      have H:=H13
      rcases bT a6 with hc1 | hc1
      ·replace H:=zaj H hc1
       obtain ⟨h8,H⟩:=zad H
       obtain ⟨x9,hx10,H⟩:=bind_some H
       have H:=Option.some.inj H
       subst H
       exact YW.fin [(89,true)] [.r (.bool x9)] [1,3,8] [] [.k 1] _ (a_ (a_ hc1 (a_ hc1 (a_ hc1 (a_ hc1 (a_ h8 (a_ hc1 (a_ hc1 (a_ hc1 (a_ (zfY ((p0.globals.getD a7.toNat default).kind) false x9 hx10) (a_ hc1 t_)))))))))) t_) (by kernel_rfl) rfl
      ·replace H:=zak H hc1
       have H:=Option.some.inj H
       subst H
       exact YW.fin [(89,false)] [] [1,3,8] [] [.k 1] _ (a_ (a_ hc1 (a_ hc1 (a_ hc1 (a_ hc1 (a_ hc1 (a_ hc1 (a_ hc1 (a_ hc1 t_)))))))) t_) (by kernel_rfl) rfl
     refine r_ [] [1,3,8] [] [.k 1] ⟨[(1,.p 1 0),(3,.d (.bool j11)),(8,.d (.int .i64 (wI (a7+1))))],[(1,.st false (eD (eMdl p0)))]⟩ (a_ t_ t_) ?_
     exact ⟨k,(j11,(wI (a7+1))),Nat.lt_succ_self k,H,zay [1,3,8] [] [.k 1] t_ (by kernel_rfl)⟩
    ·replace H:=zak H hc
     refine AW2.exit ?_
     have H:=Option.some.inj H
     subst H
     exact zay [3] [] [] t_ (by kernel_rfl)
  ·have H:=H38
   refine AW2.seq ?_
   refine r_ [] [1,3,6] [] [.k 1] ⟨[(1,.p 1 0),(3,.d (.bool j1)),(6,.d (.int .i64 0))],[(1,.st false (eD (eMdl p0)))]⟩ (a_ t_ t_) ?_
   refine AW2.block ?_
   refine AW2.lp (σ:=Bool×Int) (fun v => ⟨[(1,.p 1 0),(3,.d (.bool v.1)),(6,.d (.int .i64 v.2))],[(1,.st false (eD (eMdl p0)))]⟩) (fun k v => zbO k K p0 v.1 v.2=some j2) ?_ K (j1,0) H
   rintro k ⟨a19,a20⟩ H
   dsimp only at H
   cases k with
   | zero => cases H
   | succ k => 
   unfold zbO at H
   refine AW2.seq ?_
   refine AW2.seq ?_
   refine r_ [] [1,3,6,54] [] [.k 1] ⟨[(1,.p 1 0),(3,.d (.bool a19)),(6,.d (.int .i64 a20)),(54,.d (.bool (decide (a20<(p0.funcs.length:Int)))))],[(1,.st false (eD (eMdl p0)))]⟩ (a_ t_ t_) ?_
   refine AW2.cond (b:=(decide (a20<(p0.funcs.length:Int)))) rfl (fun hc => ?_) (fun hc => ?_)
   ·replace H:=zaj H hc
    refine AW2.skip ?_
    obtain ⟨j21,H36,H⟩:=bind_some H
    refine AW2.mid ⟨[(1,.p 1 0),(3,.d (.bool j21)),(6,.d (.int .i64 a20))],[(1,.st false (eD (eMdl p0)))]⟩ ?_ ?_
    ·refine r_ [] [1,3,6] [] [.k 1] ⟨[(1,.p 1 0),(3,.d (.bool j21)),(6,.d (.int .i64 (wI (a20+1))))],[(1,.st false (eD (eMdl p0)))]⟩ (a_ t_ t_) ?_
     exact ⟨k,(j21,(wI (a20+1))),Nat.lt_succ_self k,H,zay [1,3,6] [] [.k 1] t_ (by kernel_rfl)⟩
    ·have H:=H36
     refine AW2.block ?_
     refine AW2.seq ?_
     refine r_ [] [1,3,6,7] [] [.k 1] ⟨[(1,.p 1 0),(3,.d (.bool a19)),(6,.d (.int .i64 a20)),(7,.d (.int .i64 0))],[(1,.st false (eD (eMdl p0)))]⟩ (a_ t_ t_) ?_
     refine AW2.block ?_
     refine AW2.lp (σ:=Bool×Int) (fun v => ⟨[(1,.p 1 0),(3,.d (.bool v.1)),(6,.d (.int .i64 a20)),(7,.d (.int .i64 v.2))],[(1,.st false (eD (eMdl p0)))]⟩) (fun k v => zbN k p0 a20 v.1 v.2=some j21) ?_ K (a19,0) H
     rintro k ⟨a24,a25⟩ H
     dsimp only at H
     cases k with
     | zero => cases H
     | succ k => 
     unfold zbN at H
     refine AW2.seq ?_
     refine AW2.seq ?_
     obtain ⟨h26,H⟩:=zad H
     refine r_ [] [1,3,6,7,65] [] [.k 1] ⟨[(1,.p 1 0),(3,.d (.bool a24)),(6,.d (.int .i64 a20)),(7,.d (.int .i64 a25)),(65,.d (.bool (decide (a25<(((p0.funcs.getD a20.toNat default).locals).length:Int)))))],[(1,.st false (eD (eMdl p0)))]⟩ (a_ (a_ h26 t_) t_) ?_
     refine AW2.cond (b:=(decide (a25<(((p0.funcs.getD a20.toNat default).locals).length:Int)))) rfl (fun hc => ?_) (fun hc => ?_)
     ·replace H:=zaj H hc
      refine AW2.skip ?_
      refine AW2.seq ?_
      refine AW2.block ?_
      obtain ⟨j31,H33,H⟩:=bind_some H
      refine AW2.reg [] rfl (YW.to ⟨[(1,.p 1 0),(3,.d (.bool j31)),(6,.d (.int .i64 a20)),(7,.d (.int .i64 a25))],[(1,.st false (eD (eMdl p0)))]⟩ ?qh34 ?h34)
      case h34 => 
       have H:=H33
       rcases bT a24 with hc1 | hc1
       ·replace H:=zaj H hc1
        obtain ⟨h27,H⟩:=zad H
        obtain ⟨h28,H⟩:=zad H
        obtain ⟨x29,hx30,H⟩:=bind_some H
        have H:=Option.some.inj H
        subst H
        exact YW.fin [(69,true)] [.r (.bool x29)] [1,3,6,7] [] [.k 1] _ (a_ (a_ hc1 (a_ hc1 (a_ hc1 (a_ hc1 (a_ h27 (a_ hc1 (a_ hc1 (a_ hc1 (a_ hc1 (a_ h28 (a_ hc1 (a_ hc1 (a_ (zfY (((p0.funcs.getD a20.toNat default).locals).getD a25.toNat default) false x29 hx30) (a_ hc1 t_)))))))))))))) t_) (by kernel_rfl) rfl
       ·replace H:=zak H hc1
        have H:=Option.some.inj H
        subst H
        exact YW.fin [(69,false)] [] [1,3,6,7] [] [.k 1] _ (a_ (a_ hc1 (a_ hc1 (a_ hc1 (a_ hc1 (a_ hc1 (a_ hc1 (a_ hc1 (a_ hc1 (a_ hc1 (a_ hc1 (a_ hc1 t_))))))))))) t_) (by kernel_rfl) rfl
      refine r_ [] [1,3,6,7] [] [.k 1] ⟨[(1,.p 1 0),(3,.d (.bool j31)),(6,.d (.int .i64 a20)),(7,.d (.int .i64 (wI (a25+1))))],[(1,.st false (eD (eMdl p0)))]⟩ (a_ t_ t_) ?_
      exact ⟨k,(j31,(wI (a25+1))),Nat.lt_succ_self k,H,zay [1,3,6,7] [] [.k 1] t_ (by kernel_rfl)⟩
     ·replace H:=zak H hc
      refine AW2.exit ?_
      have H:=Option.some.inj H
      subst H
      exact zay [1,3,6] [] [.k 1] t_ (by kernel_rfl)
   ·replace H:=zak H hc
    refine AW2.exit ?_
    have H:=Option.some.inj H
    subst H
    exact zay [1,3] [] [.k 1] t_ (by kernel_rfl)
 ·have H:=H67
  refine AW2.seq ?_
  refine r_ [] [1,3,4] [] [.k 1] ⟨[(1,.p 1 0),(3,.d (.bool true)),(4,.d (.int .i64 0))],[(1,.st false (eD (eMdl p0)))]⟩ (a_ t_ t_) ?_
  refine AW2.block ?_
  refine AW2.lp (σ:=Bool×Int) (fun v => ⟨[(1,.p 1 0),(3,.d (.bool v.1)),(4,.d (.int .i64 v.2))],[(1,.st false (eD (eMdl p0)))]⟩) (fun k v => zbM k K p0 v.1 v.2=some j1) ?_ K (true,0) H
  rintro k ⟨a41,a42⟩ H
  dsimp only at H
  cases k with
  | zero => cases H
  | succ k => 
  unfold zbM at H
  refine AW2.seq ?_
  refine AW2.seq ?_
  refine r_ [] [1,3,4,13] [] [.k 1] ⟨[(1,.p 1 0),(3,.d (.bool a41)),(4,.d (.int .i64 a42)),(13,.d (.bool (decide (a42<(p0.types.length:Int)))))],[(1,.st false (eD (eMdl p0)))]⟩ (a_ t_ t_) ?_
  refine AW2.cond (b:=(decide (a42<(p0.types.length:Int)))) rfl (fun hc => ?_) (fun hc => ?_)
  ·replace H:=zaj H hc
   refine AW2.skip ?_
   obtain ⟨j43,H65,H⟩:=bind_some H
   refine AW2.mid ⟨[(1,.p 1 0),(3,.d (.bool j43)),(4,.d (.int .i64 a42))],[(1,.st false (eD (eMdl p0)))]⟩ ?_ ?_
   ·refine r_ [] [1,3,4] [] [.k 1] ⟨[(1,.p 1 0),(3,.d (.bool j43)),(4,.d (.int .i64 (wI (a42+1))))],[(1,.st false (eD (eMdl p0)))]⟩ (a_ t_ t_) ?_
    exact ⟨k,(j43,(wI (a42+1))),Nat.lt_succ_self k,H,zay [1,3,4] [] [.k 1] t_ (by kernel_rfl)⟩
   ·have H:=H65
    refine AW2.block ?_
    refine AW2.seq ?_
    obtain ⟨j47,H62,H⟩:=bind_some H
    refine AW2.reg [] rfl (YW.to ⟨[(1,.p 1 0),(3,.d (.bool j47)),(4,.d (.int .i64 a42))],[(1,.st false (eD (eMdl p0)))]⟩ ?qh63 ?h63)
    case h63 => 
     have H:=H62
     rcases bT a41 with hc1 | hc1
     ·replace H:=zaj H hc1
      obtain ⟨h44,H⟩:=zad H
      obtain ⟨x45,hx46,H⟩:=bind_some H
      have H:=Option.some.inj H
      subst H
      exact YW.fin [(17,true)] [.r (.bool x45)] [1,3,4] [] [.k 1] _ (a_ (a_ hc1 (a_ hc1 (a_ hc1 (a_ hc1 (a_ h44 (a_ hc1 (a_ hc1 (a_ hc1 (a_ (zfY ((p0.types.getD a42.toNat default).result) true x45 hx46) (a_ hc1 t_)))))))))) t_) (by kernel_rfl) rfl
     ·replace H:=zak H hc1
      have H:=Option.some.inj H
      subst H
      exact YW.fin [(17,false)] [] [1,3,4] [] [.k 1] _ (a_ (a_ hc1 (a_ hc1 (a_ hc1 (a_ hc1 (a_ hc1 (a_ hc1 (a_ hc1 (a_ hc1 t_)))))))) t_) (by kernel_rfl) rfl
    refine AW2.seq ?_
    refine r_ [] [1,3,4,5] [] [.k 1] ⟨[(1,.p 1 0),(3,.d (.bool j47)),(4,.d (.int .i64 a42)),(5,.d (.int .i64 0))],[(1,.st false (eD (eMdl p0)))]⟩ (a_ t_ t_) ?_
    refine AW2.block ?_
    refine AW2.lp (σ:=Bool×Int) (fun v => ⟨[(1,.p 1 0),(3,.d (.bool v.1)),(4,.d (.int .i64 a42)),(5,.d (.int .i64 v.2))],[(1,.st false (eD (eMdl p0)))]⟩) (fun k v => zbD k p0 a42 v.1 v.2=some j43) ?_ K (j47,0) H
    rintro k ⟨a50,a51⟩ H
    dsimp only at H
    cases k with
    | zero => cases H
    | succ k => 
    unfold zbD at H
    refine AW2.seq ?_
    refine AW2.seq ?_
    obtain ⟨h52,H⟩:=zad H
    refine r_ [] [1,3,4,5,34] [] [.k 1] ⟨[(1,.p 1 0),(3,.d (.bool a50)),(4,.d (.int .i64 a42)),(5,.d (.int .i64 a51)),(34,.d (.bool (decide (a51<(((p0.types.getD a42.toNat default).params).length:Int)))))],[(1,.st false (eD (eMdl p0)))]⟩ (a_ (a_ h52 t_) t_) ?_
    refine AW2.cond (b:=(decide (a51<(((p0.types.getD a42.toNat default).params).length:Int)))) rfl (fun hc => ?_) (fun hc => ?_)
    ·replace H:=zaj H hc
     refine AW2.skip ?_
     refine AW2.seq ?_
     refine AW2.block ?_
     obtain ⟨j57,H59,H⟩:=bind_some H
     refine AW2.reg [] rfl (YW.to ⟨[(1,.p 1 0),(3,.d (.bool j57)),(4,.d (.int .i64 a42)),(5,.d (.int .i64 a51))],[(1,.st false (eD (eMdl p0)))]⟩ ?qh60 ?h60)
     case h60 => 
      have H:=H59
      rcases bT a50 with hc1 | hc1
      ·replace H:=zaj H hc1
       obtain ⟨h53,H⟩:=zad H
       obtain ⟨h54,H⟩:=zad H
       obtain ⟨x55,hx56,H⟩:=bind_some H
       have H:=Option.some.inj H
       subst H
       exact YW.fin [(38,true)] [.r (.bool x55)] [1,3,4,5] [] [.k 1] _ (a_ (a_ hc1 (a_ hc1 (a_ hc1 (a_ hc1 (a_ h53 (a_ hc1 (a_ hc1 (a_ hc1 (a_ hc1 (a_ h54 (a_ hc1 (a_ hc1 (a_ (zfY (((p0.types.getD a42.toNat default).params).getD a51.toNat default) false x55 hx56) (a_ hc1 t_)))))))))))))) t_) (by kernel_rfl) rfl
      ·replace H:=zak H hc1
       have H:=Option.some.inj H
       subst H
       exact YW.fin [(38,false)] [] [1,3,4,5] [] [.k 1] _ (a_ (a_ hc1 (a_ hc1 (a_ hc1 (a_ hc1 (a_ hc1 (a_ hc1 (a_ hc1 (a_ hc1 (a_ hc1 (a_ hc1 (a_ hc1 t_))))))))))) t_) (by kernel_rfl) rfl
     refine r_ [] [1,3,4,5] [] [.k 1] ⟨[(1,.p 1 0),(3,.d (.bool j57)),(4,.d (.int .i64 a42)),(5,.d (.int .i64 (wI (a51+1))))],[(1,.st false (eD (eMdl p0)))]⟩ (a_ t_ t_) ?_
     exact ⟨k,(j57,(wI (a51+1))),Nat.lt_succ_self k,H,zay [1,3,4,5] [] [.k 1] t_ (by kernel_rfl)⟩
    ·replace H:=zak H hc
     refine AW2.exit ?_
     have H:=Option.some.inj H
     subst H
     exact zay [1,3,4] [] [.k 1] t_ (by kernel_rfl)
  ·replace H:=zak H hc
   refine AW2.exit ?_
   have H:=Option.some.inj H
   subst H
   exact zay [1,3] [] [.k 1] t_ (by kernel_rfl)
def zae (p0:St8) (p1:Int):Option (St8×Int):=(if (p1==(0:Int))=true then some (p0,0) else (if ((p0.l.length:Int)==(0:Int))=true then (if p0.ok=true then some p0.away else some false).bind (fun j1 => some ((St8.mk p0.l p0.under p0.away p0.dead p0.most j1),p1)) else gd (0≤(wI ((p0.l.length:Int) - 1))∧(wI ((p0.l.length:Int) - 1))<(p0.l.length:Int)) (gd (0≤(0:Int)∧(0:Int)≤(wI ((p0.l.length:Int) - 1))∧(wI ((p0.l.length:Int) - 1))≤(p0.l.length:Int)) (if ((p0.l.getD (wI ((p0.l.length:Int) - 1)).toNat default)==(255:Int))=true then some ((St8.mk (List.take ((wI ((p0.l.length:Int) - 1)).toNat) p0.l) p0.under p0.away p0.dead p0.most p0.ok),p1) else (if ((p1 != (255:Int))&&((p0.l.getD (wI ((p0.l.length:Int) - 1)).toNat default) != p1))=true then some false else some p0.ok).bind (fun j7 => some ((St8.mk (List.take ((wI ((p0.l.length:Int) - 1)).toNat) p0.l) p0.under p0.away p0.dead p0.most j7),(p0.l.getD (wI ((p0.l.length:Int) - 1)).toNat default)))))))
theorem zaS (p0:St8) (p1:Int) (r:St8×Int) (H:zae p0 p1=some r):CF E 27 [.agg (eSt8 p0),.int .u8 p1] (.tup [.agg (eSt8 r.1),.int .u8 r.2]):=by
 refine zcG (A:=zoL) zwG rfl fun fr => ?_
 unfold zae at H
 refine AW2.seq ?_
 refine r_ [.k 2,.k 4] [1,2,4] [] [.k 2,.k 4] ⟨[(1,.d (.int .u8 p1)),(2,.p 2 0),(4,.p 4 0)],[(2,.st false (eD (eSt8 p0))),(4,.st false [.d .nils,.d (.int .i64 0),.d (.bool false),.d (.bool false),.d (.int .i64 0),.d (.bool false)])]⟩ (a_ t_ t_) ?_
 refine AW2.seq ?_
 refine AW2.seq ?_
 refine r_ [] [1,2,4,8] [] [.k 2,.k 4] ⟨[(1,.d (.int .u8 p1)),(2,.p 2 0),(4,.p 4 0),(8,.d (.bool (p1==(0:Int))))],[(2,.st false (eD (eSt8 p0))),(4,.st false [.d .nils,.d (.int .i64 0),.d (.bool false),.d (.bool false),.d (.int .i64 0),.d (.bool false)])]⟩ (a_ t_ t_) ?_
 refine AW2.cond (b:=(p1==(0:Int))) rfl (fun hc => ?_) (fun hc => ?_)
 ·replace H:=zaj H hc
  refine AW2.seq ?_
  refine r_ [] [4,5] [] [.k 4] ⟨[(4,.p 4 0),(5,.d (.int .u8 0))],[(4,.st false (eD (eSt8 p0)))]⟩ (a_ t_ t_) ?_
  refine AW2.ret ?_
  have H:=Option.some.inj H
  subst H
  exact retP_mk2 t_ (by kernel_rfl)
 ·replace H:=zak H hc
  refine AW2.skip ?_
  refine AW2.seq ?_
  refine AW2.seq ?_
  refine r_ [] [1,2,4,13] [] [.k 2,.k 4] ⟨[(1,.d (.int .u8 p1)),(2,.p 2 0),(4,.p 4 0),(13,.d (.bool ((p0.l.length:Int)==(0:Int))))],[(2,.st false (eD (eSt8 p0))),(4,.st false [.d .nils,.d (.int .i64 0),.d (.bool false),.d (.bool false),.d (.int .i64 0),.d (.bool false)])]⟩ (a_ t_ t_) ?_
  refine AW2.cond (b:=((p0.l.length:Int)==(0:Int))) rfl (fun hc => ?_) (fun hc => ?_)
  ·replace H:=zaj H hc
   refine AW2.seq ?_
   obtain ⟨j1,H3,H⟩:=bind_some H
   refine AW2.reg [] rfl (YW.to ⟨[(1,.d (.int .u8 p1)),(2,.p 2 0),(4,.p 4 0)],[(2,.st false [.d (sV (eI .u8) p0.l),.d (.int .i64 p0.under),.d (.bool p0.away),.d (.bool p0.dead),.d (.int .i64 p0.most),.d (.bool j1)]),(4,.st false [.d .nils,.d (.int .i64 0),.d (.bool false),.d (.bool false),.d (.int .i64 0),.d (.bool false)])]⟩ ?qh4 ?h4)
   case h4 => 
    have H:=H3
    rcases bT p0.ok with hc1 | hc1
    ·replace H:=zaj H hc1
     have H:=Option.some.inj H
     subst H
     exact YW.fin [(16,true)] [] [1,2,4] [] [.k 2,.k 4] _ (a_ (a_ hc1 (a_ hc1 (a_ hc1 t_))) t_) (by kernel_rfl) rfl
    ·replace H:=zak H hc1
     have H:=Option.some.inj H
     subst H
     exact YW.fin [(16,false)] [] [1,2,4] [] [.k 2,.k 4] _ (a_ (a_ hc1 (a_ hc1 (a_ hc1 t_))) t_) (by kernel_rfl) rfl
   refine AW2.seq ?_
   refine r_ [] [4,5] [] [.k 4] ⟨[(4,.p 4 0),(5,.d (.int .u8 p1))],[(4,.st false [.d (sV (eI .u8) p0.l),.d (.int .i64 p0.under),.d (.bool p0.away),.d (.bool p0.dead),.d (.int .i64 p0.most),.d (.bool j1)])]⟩ (a_ t_ t_) ?_
   refine AW2.ret ?_
   have H:=Option.some.inj H
   subst H
   exact retP_mk2 t_ (by kernel_rfl)
  ·replace H:=zak H hc
   refine AW2.skip ?_
   refine AW2.seq ?_
   obtain ⟨h5,H⟩:=zad H
   refine r_ [] [1,2,4,6] [] [.k 2,.k 4] ⟨[(1,.d (.int .u8 p1)),(2,.p 2 0),(4,.p 4 0),(6,.d (.int .u8 (p0.l.getD (wI ((p0.l.length:Int) - 1)).toNat default)))],[(2,.st false (eD (eSt8 p0))),(4,.st false [.d .nils,.d (.int .i64 0),.d (.bool false),.d (.bool false),.d (.int .i64 0),.d (.bool false)])]⟩ (a_ (a_ h5 t_) t_) ?_
   refine AW2.seq ?_
   obtain ⟨h6,H⟩:=zad H
   refine r_ [.s true (List.take ((wI ((p0.l.length:Int) - 1)).toNat) p0.l).length (fl (eI .u8) (List.take ((wI ((p0.l.length:Int) - 1)).toNat) p0.l))] [1,2,4,6] [] [.k 2,.k 4] ⟨[(1,.d (.int .u8 p1)),(2,.p 2 0),(4,.p 4 0),(6,.d (.int .u8 (p0.l.getD (wI ((p0.l.length:Int) - 1)).toNat default)))],[(2,.st false [.d (sV (eI .u8) (List.take ((wI ((p0.l.length:Int) - 1)).toNat) p0.l)),.d (.int .i64 p0.under),.d (.bool p0.away),.d (.bool p0.dead),.d (.int .i64 p0.most),.d (.bool p0.ok)]),(4,.st false [.d .nils,.d (.int .i64 0),.d (.bool false),.d (.bool false),.d (.int .i64 0),.d (.bool false)])]⟩ (a_ (a_ h6 (a_ (takeD1  h6) (a_ (takeD2 (eI .u8) (zzC .u8) h6) (a_ (takeD3 (eI .u8) h6) t_)))) t_) ?_
   refine AW2.seq ?_
   refine AW2.seq ?_
   refine r_ [] [1,2,4,6,40] [] [.k 2,.k 4] ⟨[(1,.d (.int .u8 p1)),(2,.p 2 0),(4,.p 4 0),(6,.d (.int .u8 (p0.l.getD (wI ((p0.l.length:Int) - 1)).toNat default))),(40,.d (.bool ((p0.l.getD (wI ((p0.l.length:Int) - 1)).toNat default)==(255:Int))))],[(2,.st false [.d (sV (eI .u8) (List.take ((wI ((p0.l.length:Int) - 1)).toNat) p0.l)),.d (.int .i64 p0.under),.d (.bool p0.away),.d (.bool p0.dead),.d (.int .i64 p0.most),.d (.bool p0.ok)]),(4,.st false [.d .nils,.d (.int .i64 0),.d (.bool false),.d (.bool false),.d (.int .i64 0),.d (.bool false)])]⟩ (a_ t_ t_) ?_
   refine AW2.cond (b:=((p0.l.getD (wI ((p0.l.length:Int) - 1)).toNat default)==(255:Int))) rfl (fun hc => ?_) (fun hc => ?_)
   ·replace H:=zaj H hc
    refine AW2.seq ?_
    refine r_ [] [4,5] [] [.k 4] ⟨[(4,.p 4 0),(5,.d (.int .u8 p1))],[(4,.st false [.d (sV (eI .u8) (List.take ((wI ((p0.l.length:Int) - 1)).toNat) p0.l)),.d (.int .i64 p0.under),.d (.bool p0.away),.d (.bool p0.dead),.d (.int .i64 p0.most),.d (.bool p0.ok)])]⟩ (a_ t_ t_) ?_
    refine AW2.ret ?_
    have H:=Option.some.inj H
    subst H
    exact retP_mk2 t_ (by kernel_rfl)
   ·replace H:=zak H hc
    refine AW2.skip ?_
    obtain ⟨j7,H10,H⟩:=bind_some H
    refine AW2.mid ⟨[(2,.p 2 0),(4,.p 4 0),(6,.d (.int .u8 (p0.l.getD (wI ((p0.l.length:Int) - 1)).toNat default)))],[(2,.st false [.d (sV (eI .u8) (List.take ((wI ((p0.l.length:Int) - 1)).toNat) p0.l)),.d (.int .i64 p0.under),.d (.bool p0.away),.d (.bool p0.dead),.d (.int .i64 p0.most),.d (.bool j7)]),(4,.st false [.d .nils,.d (.int .i64 0),.d (.bool false),.d (.bool false),.d (.int .i64 0),.d (.bool false)])]⟩ ?_ ?_
    ·refine AW2.seq ?_
     refine r_ [] [4,5] [] [.k 4] ⟨[(4,.p 4 0),(5,.d (.int .u8 (p0.l.getD (wI ((p0.l.length:Int) - 1)).toNat default)))],[(4,.st false [.d (sV (eI .u8) (List.take ((wI ((p0.l.length:Int) - 1)).toNat) p0.l)),.d (.int .i64 p0.under),.d (.bool p0.away),.d (.bool p0.dead),.d (.int .i64 p0.most),.d (.bool j7)])]⟩ (a_ t_ t_) ?_
     refine AW2.ret ?_
     have H:=Option.some.inj H
     subst H
     exact retP_mk2 t_ (by kernel_rfl)
    ·have H:=H10
     refine AW2.seq ?_
     refine AW2.reg [] rfl (YW.to ⟨[(2,.p 2 0),(4,.p 4 0),(6,.d (.int .u8 (p0.l.getD (wI ((p0.l.length:Int) - 1)).toNat default))),(49,.d (.bool ((p1 != (255:Int))&&((p0.l.getD (wI ((p0.l.length:Int) - 1)).toNat default) != p1))))],[(2,.st false [.d (sV (eI .u8) (List.take ((wI ((p0.l.length:Int) - 1)).toNat) p0.l)),.d (.int .i64 p0.under),.d (.bool p0.away),.d (.bool p0.dead),.d (.int .i64 p0.most),.d (.bool p0.ok)]),(4,.st false [.d .nils,.d (.int .i64 0),.d (.bool false),.d (.bool false),.d (.int .i64 0),.d (.bool false)])]⟩ ?qh8 ?h8)
     case h8 => 
      rcases bT (p1 != (255:Int)) with hc1 | hc1
      ·exact YW.fin [(45,true)] [] [2,4,6,49] [(49,.d (.bool ((p1 != (255:Int))&&((p0.l.getD (wI ((p0.l.length:Int) - 1)).toNat default) != p1))))] [.k 2,.k 4] _ (a_ (a_ hc1 (a_ hc1 (a_ hc1 (a_ hc1 t_)))) (a_ (ovB (Eq.trans (andT (b:=((p0.l.getD (wI ((p0.l.length:Int) - 1)).toNat default) != p1)) hc1) (Eq.refl ((p0.l.getD (wI ((p0.l.length:Int) - 1)).toNat default) != p1)))) t_)) (by kernel_rfl) rfl
      ·exact YW.fin [(45,false)] [] [2,4,6,49] [(49,.d (.bool ((p1 != (255:Int))&&((p0.l.getD (wI ((p0.l.length:Int) - 1)).toNat default) != p1))))] [.k 2,.k 4] _ (a_ (a_ hc1 (a_ hc1 (a_ hc1 (a_ hc1 t_)))) (a_ (ovB (andF (b:=((p0.l.getD (wI ((p0.l.length:Int) - 1)).toNat default) != p1)) hc1)) t_)) (by kernel_rfl) rfl
     refine AW2.cond (b:=((p1 != (255:Int))&&((p0.l.getD (wI ((p0.l.length:Int) - 1)).toNat default) != p1))) rfl (fun hc => ?_) (fun hc => ?_)
     ·replace H:=zaj H hc
      refine r_ [] [2,4,6] [] [.k 2,.k 4] ⟨[(2,.p 2 0),(4,.p 4 0),(6,.d (.int .u8 (p0.l.getD (wI ((p0.l.length:Int) - 1)).toNat default)))],[(2,.st false [.d (sV (eI .u8) (List.take ((wI ((p0.l.length:Int) - 1)).toNat) p0.l)),.d (.int .i64 p0.under),.d (.bool p0.away),.d (.bool p0.dead),.d (.int .i64 p0.most),.d (.bool false)]),(4,.st false [.d .nils,.d (.int .i64 0),.d (.bool false),.d (.bool false),.d (.int .i64 0),.d (.bool false)])]⟩ (a_ t_ t_) ?_
      have H:=Option.some.inj H
      subst H
      exact zay [2,4,6] [] [.k 2,.k 4] t_ (by kernel_rfl)
     ·replace H:=zak H hc
      refine AW2.skip ?_
      have H:=Option.some.inj H
      subst H
      exact zay [2,4,6] [] [.k 2,.k 4] t_ (by kernel_rfl)
def zbw (p0:St8):Option (St8):=some (St8.mk ([]:List Int) p0.under true p0.dead p0.most p0.ok)
theorem zfZ (p0:St8) (r:St8) (H:zbw p0=some r):CF E 42 [.agg (eSt8 p0)] (.agg (eSt8 r)):=by
 refine zcG (A:=zoP) zwK rfl fun fr => ?_
 unfold zbw at H
 refine AW2.seq ?_
 refine r_ [.k 1,.k 2] [1,2] [] [.k 1,.k 2] ⟨[(1,.p 1 0),(2,.p 2 0)],[(1,.st false (eD (eSt8 p0))),(2,.st false [.d .nils,.d (.int .i64 0),.d (.bool false),.d (.bool false),.d (.int .i64 0),.d (.bool false)])]⟩ (a_ t_ t_) ?_
 refine AW2.seq ?_
 refine r_ [] [1,2] [] [.k 1,.k 2] ⟨[(1,.p 1 0),(2,.p 2 0)],[(1,.st false [.d .nils,.d (.int .i64 p0.under),.d (.bool true),.d (.bool p0.dead),.d (.int .i64 p0.most),.d (.bool p0.ok)]),(2,.st false [.d .nils,.d (.int .i64 0),.d (.bool false),.d (.bool false),.d (.int .i64 0),.d (.bool false)])]⟩ (a_ t_ t_) ?_
 refine AW2.seq ?_
 refine r_ [] [2] [] [.k 2] ⟨[(2,.p 2 0)],[(2,.st false [.d .nils,.d (.int .i64 p0.under),.d (.bool true),.d (.bool p0.dead),.d (.int .i64 p0.most),.d (.bool p0.ok)])]⟩ (a_ t_ t_) ?_
 refine AW2.ret ?_
 have H:=Option.some.inj H
 subst H
 exact retP_mk2 t_ (by kernel_rfl)
def zaH (p0:St8) (p1:Int):Option (St8):=(if (p1==(0:Int))=true then some p0 else gd (p0.l.length * 1≤140737488355328) (gd ((p0.l.length+1) * 1≤140737488355328) ((if ((!p0.away)&&(!p0.dead))=true then some (mxI p0.most (wI (p0.under+((p0.l++([p1]:List Int)).length:Int)))) else some p0.most).bind (fun j3 => some (St8.mk (p0.l++([p1]:List Int)) p0.under p0.away p0.dead j3 p0.ok)))))
theorem zes (p0:St8) (p1:Int) (r:St8) (H:zaH p0 p1=some r):CF E 46 [.agg (eSt8 p0),.int .u8 p1] (.agg (eSt8 r)):=by
 refine zcG (A:=ztF) zxT rfl fun fr => ?_
 unfold zaH at H
 refine AW2.seq ?_
 refine r_ [.k 2,.k 4] [1,2,4] [] [.k 2,.k 4] ⟨[(1,.d (.int .u8 p1)),(2,.p 2 0),(4,.p 4 0)],[(2,.st false (eD (eSt8 p0))),(4,.st false [.d .nils,.d (.int .i64 0),.d (.bool false),.d (.bool false),.d (.int .i64 0),.d (.bool false)])]⟩ (a_ t_ t_) ?_
 refine AW2.seq ?_
 refine AW2.seq ?_
 refine r_ [] [1,2,4,7] [] [.k 2,.k 4] ⟨[(1,.d (.int .u8 p1)),(2,.p 2 0),(4,.p 4 0),(7,.d (.bool (p1==(0:Int))))],[(2,.st false (eD (eSt8 p0))),(4,.st false [.d .nils,.d (.int .i64 0),.d (.bool false),.d (.bool false),.d (.int .i64 0),.d (.bool false)])]⟩ (a_ t_ t_) ?_
 refine AW2.cond (b:=(p1==(0:Int))) rfl (fun hc => ?_) (fun hc => ?_)
 ·replace H:=zaj H hc
  refine AW2.seq ?_
  refine r_ [] [4] [] [.k 4] ⟨[(4,.p 4 0)],[(4,.st false (eD (eSt8 p0)))]⟩ (a_ t_ t_) ?_
  refine AW2.ret ?_
  have H:=Option.some.inj H
  subst H
  exact retP_mk2 t_ (by kernel_rfl)
 ·replace H:=zak H hc
  refine AW2.skip ?_
  refine AW2.seq ?_
  refine r_ [] [1,2,4,5] [] [.k 2,.k 4] ⟨[(1,.d (.int .u8 p1)),(2,.p 2 0),(4,.p 4 0),(5,.d .nils)],[(2,.st false (eD (eSt8 p0))),(4,.st false [.d .nils,.d (.int .i64 0),.d (.bool false),.d (.bool false),.d (.int .i64 0),.d (.bool false)])]⟩ (a_ t_ t_) ?_
  refine AW2.seq ?_
  obtain ⟨h1,H⟩:=zad H
  obtain ⟨h2,H⟩:=zad H
  refine r_ [.ks false 12 p0.l.length (fl (eI .u8) p0.l),.sb ([p1]:List Int).length (fl (eI .u8) ([p1]:List Int)),.s true (p0.l++([p1]:List Int)).length (fl (eI .u8) (p0.l++([p1]:List Int)))] [2,4] [] [.k 2,.k 4,.k 12] ⟨[(2,.p 2 0),(4,.p 4 0)],[(2,.st false [.ls 12 0 (p0.l++([p1]:List Int)).length,.d (.int .i64 p0.under),.d (.bool p0.away),.d (.bool p0.dead),.d (.int .i64 p0.most),.d (.bool p0.ok)]),(4,.st false [.d .nils,.d (.int .i64 0),.d (.bool false),.d (.bool false),.d (.int .i64 0),.d (.bool false)]),(12,.sl false 1 (p0.l++([p1]:List Int)).length (fl (eI .u8) (p0.l++([p1]:List Int))))]⟩ (a_ (a_ (lcl (eI .u8) (zzC .u8) p0.l) (a_ h1 (a_ (a_ (Eq.refl p0.l.length) (fun i (_:i<p0.l.length) => Eq.refl (fl (eI .u8) p0.l i))) (a_ (litF (eI .u8) ([p1]:List Int)) (a_ (Nat.le_refl p0.l.length) (a_ h2 (a_ (app1 (eI .u8) p0.l p1 (fl (eI .u8) ([p1]:List Int)) rfl) t_))))))) t_) ?_
  obtain ⟨j3,H6,H⟩:=bind_some H
  refine AW2.mid ⟨[(2,.p 2 0),(4,.p 4 0)],[(2,.st false [.ls 12 0 (p0.l++([p1]:List Int)).length,.d (.int .i64 p0.under),.d (.bool p0.away),.d (.bool p0.dead),.d (.int .i64 j3),.d (.bool p0.ok)]),(4,.st false [.d .nils,.d (.int .i64 0),.d (.bool false),.d (.bool false),.d (.int .i64 0),.d (.bool false)]),(12,.sl false 1 (p0.l++([p1]:List Int)).length (fl (eI .u8) (p0.l++([p1]:List Int))))]⟩ ?_ ?_
  ·refine AW2.seq ?_
   refine r_ [] [4] [] [.k 4,.k 12] ⟨[(4,.p 4 0)],[(4,.st false [.ls 12 0 (p0.l++([p1]:List Int)).length,.d (.int .i64 p0.under),.d (.bool p0.away),.d (.bool p0.dead),.d (.int .i64 j3),.d (.bool p0.ok)]),(12,.sl false 1 (p0.l++([p1]:List Int)).length (fl (eI .u8) (p0.l++([p1]:List Int))))]⟩ (a_ t_ t_) ?_
   refine AW2.ret ?_
   have H:=Option.some.inj H
   subst H
   exact retP_mk2 (a_ (Nat.le_refl (p0.l++([p1]:List Int)).length) (a_ (dfl (eI .u8) (zoF .u8) (p0.l++([p1]:List Int))) t_)) (by kernel_rfl)
  ·have H:=H6
   refine AW2.seq ?_
   refine AW2.reg [] rfl (YW.to ⟨[(2,.p 2 0),(4,.p 4 0),(24,.d (.bool ((!p0.away)&&(!p0.dead))))],[(2,.st false [.ls 12 0 (p0.l++([p1]:List Int)).length,.d (.int .i64 p0.under),.d (.bool p0.away),.d (.bool p0.dead),.d (.int .i64 p0.most),.d (.bool p0.ok)]),(4,.st false [.d .nils,.d (.int .i64 0),.d (.bool false),.d (.bool false),.d (.int .i64 0),.d (.bool false)]),(12,.sl false 1 (p0.l++([p1]:List Int)).length (fl (eI .u8) (p0.l++([p1]:List Int))))]⟩ ?qh4 ?h4)
   case h4 => 
    rcases bT (!p0.away) with hc1 | hc1
    ·exact YW.fin [(20,true)] [] [2,4,24] [(24,.d (.bool ((!p0.away)&&(!p0.dead))))] [.k 2,.k 4,.k 12] _ (a_ (a_ hc1 (a_ hc1 (a_ hc1 (a_ hc1 t_)))) (a_ (ovB (Eq.trans (andT (b:=(!p0.dead)) hc1) (Eq.refl (!p0.dead)))) t_)) (by kernel_rfl) rfl
    ·exact YW.fin [(20,false)] [] [2,4,24] [(24,.d (.bool ((!p0.away)&&(!p0.dead))))] [.k 2,.k 4,.k 12] _ (a_ (a_ hc1 (a_ hc1 (a_ hc1 (a_ hc1 t_)))) (a_ (ovB (andF (b:=(!p0.dead)) hc1)) t_)) (by kernel_rfl) rfl
   refine AW2.cond (b:=((!p0.away)&&(!p0.dead))) rfl (fun hc => ?_) (fun hc => ?_)
   ·replace H:=zaj H hc
    refine r_ [] [2,4] [] [.k 2,.k 4,.k 12] ⟨[(2,.p 2 0),(4,.p 4 0)],[(2,.st false [.ls 12 0 (p0.l++([p1]:List Int)).length,.d (.int .i64 p0.under),.d (.bool p0.away),.d (.bool p0.dead),.d (.int .i64 (mxI p0.most (wI (p0.under+((p0.l++([p1]:List Int)).length:Int))))),.d (.bool p0.ok)]),(4,.st false [.d .nils,.d (.int .i64 0),.d (.bool false),.d (.bool false),.d (.int .i64 0),.d (.bool false)]),(12,.sl false 1 (p0.l++([p1]:List Int)).length (fl (eI .u8) (p0.l++([p1]:List Int))))]⟩ (a_ t_ t_) ?_
    have H:=Option.some.inj H
    subst H
    exact zay [2,4] [] [.k 2,.k 4,.k 12] t_ (by kernel_rfl)
   ·replace H:=zak H hc
    refine AW2.skip ?_
    have H:=Option.some.inj H
    subst H
    exact zay [2,4] [] [.k 2,.k 4,.k 12] t_ (by kernel_rfl)
def zbl (p0:Env8) (p1:Int):Option (Int×Bool):=(if ((decide (p1<(0:Int)))||(decide (p1≥(p0.labels.length:Int))))=true then some (0,false) else gd (0≤(wI ((wI ((p0.labels.length:Int) - 1)) - p1))∧(wI ((wI ((p0.labels.length:Int) - 1)) - p1))<(p0.labels.length:Int)) (some ((p0.labels.getD (wI ((wI ((p0.labels.length:Int) - 1)) - p1)).toNat default),true)))
theorem zeE (p0:Env8) (p1:Int) (r:Int×Bool) (H:zbl p0 p1=some r):CF E 58 [.agg (eEnv8 p0),.int .i64 p1] (.tup [.int .u8 r.1,.bool r.2]):=by
 refine zcG (A:=zmh) zvm rfl fun fr => ?_
 unfold zbl at H
 refine AW2.seq ?_
 refine r_ [.k 2] [1,2] [] [.k 2] ⟨[(1,.d (.int .i64 p1)),(2,.p 2 0)],[(2,.st false (eD (eEnv8 p0)))]⟩ (a_ t_ t_) ?_
 refine AW2.seq ?_
 refine AW2.seq ?_
 refine AW2.reg [] rfl (YW.to ⟨[(1,.d (.int .i64 p1)),(2,.p 2 0),(14,.d (.bool ((decide (p1<(0:Int)))||(decide (p1≥(p0.labels.length:Int))))))],[(2,.st false (eD (eEnv8 p0)))]⟩ ?qh2 ?h2)
 case h2 => 
  rcases bT (decide (p1<(0:Int))) with hc1 | hc1
  ·exact YW.fin [(8,true)] [] [1,2,14] [(14,.d (.bool ((decide (p1<(0:Int)))||(decide (p1≥(p0.labels.length:Int))))))] [.k 2] _ (a_ (a_ hc1 (a_ hc1 (a_ hc1 (a_ hc1 (a_ hc1 (a_ hc1 t_)))))) (a_ (ovB (orT (b:=(decide (p1≥(p0.labels.length:Int)))) hc1)) t_)) (by kernel_rfl) rfl
  ·exact YW.fin [(8,false)] [] [1,2,14] [(14,.d (.bool ((decide (p1<(0:Int)))||(decide (p1≥(p0.labels.length:Int))))))] [.k 2] _ (a_ (a_ hc1 (a_ hc1 (a_ hc1 (a_ hc1 (a_ hc1 (a_ hc1 t_)))))) (a_ (ovB (Eq.trans (orF (b:=(decide (p1≥(p0.labels.length:Int)))) hc1) (Eq.refl (decide (p1≥(p0.labels.length:Int)))))) t_)) (by kernel_rfl) rfl
 refine AW2.cond (b:=((decide (p1<(0:Int)))||(decide (p1≥(p0.labels.length:Int))))) rfl (fun hc => ?_) (fun hc => ?_)
 ·replace H:=zaj H hc
  refine AW2.seq ?_
  refine r_ [] [4,5] [] [] ⟨[(4,.d (.int .u8 0)),(5,.d (.bool false))],[]⟩ (a_ t_ t_) ?_
  refine AW2.ret ?_
  have H:=Option.some.inj H
  subst H
  exact retP_mk2 t_ (by kernel_rfl)
 ·replace H:=zak H hc
  refine AW2.skip ?_
  refine AW2.seq ?_
  obtain ⟨h1,H⟩:=zad H
  refine r_ [] [4,5] [] [] ⟨[(4,.d (.int .u8 (p0.labels.getD (wI ((wI ((p0.labels.length:Int) - 1)) - p1)).toNat default))),(5,.d (.bool true))],[]⟩ (a_ (a_ h1 t_) t_) ?_
  refine AW2.ret ?_
  have H:=Option.some.inj H
  subst H
  exact retP_mk2 t_ (by kernel_rfl)
def zaY:Nat→Env8→Instr→(Int×Bool)→Int→Bool→Option (Bool)
 | 0,_,_,_,_,_ => none
 | k+1,p0,p2,x3,a18,a19 => (if ((p2.op==(14:Int))&&(decide (a18<(p2.labels.length:Int))))=true then gd (0≤a18∧a18<(p2.labels.length:Int)) ((zbl p0 (wI (p2.labels.getD a18.toNat default))).bind fun x21 => zaY k p0 p2 x3 (wI (a18+1)) (a19&&(x21.2&&(x21.1==x3.1)))) else some a19)
def zaX:Nat→Env8→Instr→(Int×Bool)→Int→Bool→Option (Bool)
 | 0,_,_,_,_,_ => none
 | k+1,p0,p2,x28,a43,a44 => (if ((p2.op==(14:Int))&&(decide (a43<(p2.labels.length:Int))))=true then gd (0≤a43∧a43<(p2.labels.length:Int)) ((zbl p0 (wI (p2.labels.getD a43.toNat default))).bind fun x46 => zaX k p0 p2 x28 (wI (a43+1)) (a44&&(x46.2&&(x46.1==x28.1)))) else some a44)
def zbj (K:Nat) (p0:Env8) (p1:St8) (p2:Instr):Option (St8):=(if (p2.op != (12:Int))=true then ((zae p1 127).bind fun x52 => some x52.1) else some p1).bind (fun j1 => (if (p2.op==(14:Int))=true then (if (((p2.labels.length:Int)==(0:Int))||(decide ((p2.labels.length:Int)>(257:Int))))=true then some (St8.mk j1.l j1.under j1.away j1.dead j1.most false) else gd (0≤(wI ((p2.labels.length:Int) - 1))∧(wI ((p2.labels.length:Int) - 1))<(p2.labels.length:Int)) ((zbl p0 (wI (p2.labels.getD (wI ((p2.labels.length:Int) - 1)).toNat default))).bind fun x3 => (zaY K p0 p2 x3 0 x3.2).bind (fun j5 => (if j1.ok=true then some j5 else some false).bind (fun j6 => ((zae (St8.mk j1.l j1.under j1.away j1.dead j1.most j6) x3.1).bind fun x7 => (if (p2.op==(13:Int))=true then ((zaH x7.1 x3.1).bind fun x9 => some x9) else ((zbw x7.1).bind fun x11 => some x11))))))) else ((zbl p0 p2.n).bind fun x28 => (zaX K p0 p2 x28 0 x28.2).bind (fun j30 => (if j1.ok=true then some j30 else some false).bind (fun j31 => ((zae (St8.mk j1.l j1.under j1.away j1.dead j1.most j31) x28.1).bind fun x32 => (if (p2.op==(13:Int))=true then ((zaH x32.1 x28.1).bind fun x34 => some x34) else ((zbw x32.1).bind fun x36 => some x36))))))))
theorem zvw (K:Nat) (p0:Env8) (p1:St8) (p2:Instr) (r:St8) (H:zbj K p0 p1 p2=some r):CF E 44 [.agg (eEnv8 p0),.agg (eSt8 p1),.agg (eInstr p2)] (.agg (eSt8 r)):=by
 refine zcG (A:=zla) zta rfl fun fr => ?_
 unfold zbj at H
 refine AW2.seq ?_
 refine r_ [.k 3,.k 4,.k 5,.k 6] [3,4,5,6] [] [.k 3,.k 4,.k 5,.k 6] ⟨[(3,.p 3 0),(4,.p 4 0),(5,.p 5 0),(6,.p 6 0)],[(3,.st false (eD (eEnv8 p0))),(4,.st false (eD (eSt8 p1))),(5,.st false (eD (eInstr p2))),(6,.st false [.d .nils,.d (.int .i64 0),.d (.bool false),.d (.bool false),.d (.int .i64 0),.d (.bool false)])]⟩ (a_ t_ t_) ?_
 obtain ⟨j1,H55,H⟩:=bind_some H
 refine AW2.mid ⟨[(3,.p 3 0),(4,.p 4 0),(5,.p 5 0),(6,.p 6 0)],[(3,.st false (eD (eEnv8 p0))),(4,.st false (eD (eSt8 j1))),(5,.st false (eD (eInstr p2))),(6,.st false [.d .nils,.d (.int .i64 0),.d (.bool false),.d (.bool false),.d (.int .i64 0),.d (.bool false)])]⟩ ?_ ?_
 ·refine AW2.seq ?_
  refine r_ [] [3,4,5,6,7] [] [.k 3,.k 4,.k 5,.k 6] ⟨[(3,.p 3 0),(4,.p 4 0),(5,.p 5 0),(6,.p 6 0),(7,.d (.int .i64 p2.n))],[(3,.st false (eD (eEnv8 p0))),(4,.st false (eD (eSt8 j1))),(5,.st false (eD (eInstr p2))),(6,.st false [.d .nils,.d (.int .i64 0),.d (.bool false),.d (.bool false),.d (.int .i64 0),.d (.bool false)])]⟩ (a_ t_ t_) ?_
  refine AW2.seq ?_
  refine AW2.seq ?_
  refine r_ [] [3,4,5,6,7,25] [] [.k 3,.k 4,.k 5,.k 6] ⟨[(3,.p 3 0),(4,.p 4 0),(5,.p 5 0),(6,.p 6 0),(7,.d (.int .i64 p2.n)),(25,.d (.bool (p2.op==(14:Int))))],[(3,.st false (eD (eEnv8 p0))),(4,.st false (eD (eSt8 j1))),(5,.st false (eD (eInstr p2))),(6,.st false [.d .nils,.d (.int .i64 0),.d (.bool false),.d (.bool false),.d (.int .i64 0),.d (.bool false)])]⟩ (a_ t_ t_) ?_
  refine AW2.cond (b:=(p2.op==(14:Int))) rfl (fun hc => ?_) (fun hc => ?_)
  ·replace H:=zaj H hc
   refine AW2.seq ?_
   refine AW2.seq ?_
   refine AW2.reg [] rfl (YW.to ⟨[(3,.p 3 0),(4,.p 4 0),(5,.p 5 0),(6,.p 6 0),(35,.d (.bool (((p2.labels.length:Int)==(0:Int))||(decide ((p2.labels.length:Int)>(257:Int))))))],[(3,.st false (eD (eEnv8 p0))),(4,.st false (eD (eSt8 j1))),(5,.st false (eD (eInstr p2))),(6,.st false [.d .nils,.d (.int .i64 0),.d (.bool false),.d (.bool false),.d (.int .i64 0),.d (.bool false)])]⟩ ?qh27 ?h27)
   case h27 => 
    rcases bT ((p2.labels.length:Int)==(0:Int)) with hc1 | hc1
    ·exact YW.fin [(30,true)] [] [3,4,5,6,35] [(35,.d (.bool (((p2.labels.length:Int)==(0:Int))||(decide ((p2.labels.length:Int)>(257:Int))))))] [.k 3,.k 4,.k 5,.k 6] _ (a_ (a_ hc1 (a_ hc1 (a_ hc1 (a_ hc1 (a_ hc1 t_))))) (a_ (ovB (orT (b:=(decide ((p2.labels.length:Int)>(257:Int)))) hc1)) t_)) (by kernel_rfl) rfl
    ·exact YW.fin [(30,false)] [] [3,4,5,6,35] [(35,.d (.bool (((p2.labels.length:Int)==(0:Int))||(decide ((p2.labels.length:Int)>(257:Int))))))] [.k 3,.k 4,.k 5,.k 6] _ (a_ (a_ hc1 (a_ hc1 (a_ hc1 (a_ hc1 (a_ hc1 t_))))) (a_ (ovB (Eq.trans (orF (b:=(decide ((p2.labels.length:Int)>(257:Int)))) hc1) (Eq.refl (decide ((p2.labels.length:Int)>(257:Int)))))) t_)) (by kernel_rfl) rfl
   refine AW2.cond (b:=(((p2.labels.length:Int)==(0:Int))||(decide ((p2.labels.length:Int)>(257:Int))))) rfl (fun hc => ?_) (fun hc => ?_)
   ·replace H:=zaj H hc
    refine AW2.seq ?_
    refine r_ [] [4,6] [] [.k 4,.k 6] ⟨[(4,.p 4 0),(6,.p 6 0)],[(4,.st false [.d (sV (eI .u8) j1.l),.d (.int .i64 j1.under),.d (.bool j1.away),.d (.bool j1.dead),.d (.int .i64 j1.most),.d (.bool false)]),(6,.st false [.d .nils,.d (.int .i64 0),.d (.bool false),.d (.bool false),.d (.int .i64 0),.d (.bool false)])]⟩ (a_ t_ t_) ?_
    refine AW2.seq ?_
    refine r_ [] [6] [] [.k 6] ⟨[(6,.p 6 0)],[(6,.st false [.d (sV (eI .u8) j1.l),.d (.int .i64 j1.under),.d (.bool j1.away),.d (.bool j1.dead),.d (.int .i64 j1.most),.d (.bool false)])]⟩ (a_ t_ t_) ?_
    refine AW2.ret ?_
    have H:=Option.some.inj H
    subst H
    exact retP_mk2 t_ (by kernel_rfl)
   ·replace H:=zak H hc
    refine AW2.skip ?_
    obtain ⟨h2,H⟩:=zad H
    refine r_ [] [3,4,5,6,7] [] [.k 3,.k 4,.k 5,.k 6] ⟨[(3,.p 3 0),(4,.p 4 0),(5,.p 5 0),(6,.p 6 0),(7,.d (.int .i64 (wI (p2.labels.getD (wI ((p2.labels.length:Int) - 1)).toNat default))))],[(3,.st false (eD (eEnv8 p0))),(4,.st false (eD (eSt8 j1))),(5,.st false (eD (eInstr p2))),(6,.st false [.d .nils,.d (.int .i64 0),.d (.bool false),.d (.bool false),.d (.int .i64 0),.d (.bool false)])]⟩ (a_ (a_ h2 t_) t_) ?_
    refine AW2.seq ?_
    obtain ⟨x3,hx4,H⟩:=bind_some H
    refine r_ [.r (.tup [.int .u8 x3.1,.bool x3.2])] [3,4,5,6,8,9] [] [.k 3,.k 4,.k 5,.k 6] ⟨[(3,.p 3 0),(4,.p 4 0),(5,.p 5 0),(6,.p 6 0),(8,.d (.int .u8 x3.1)),(9,.d (.bool x3.2))],[(3,.st false (eD (eEnv8 p0))),(4,.st false (eD (eSt8 j1))),(5,.st false (eD (eInstr p2))),(6,.st false [.d .nils,.d (.int .i64 0),.d (.bool false),.d (.bool false),.d (.int .i64 0),.d (.bool false)])]⟩ (a_ (a_ (zeE p0 (wI (p2.labels.getD (wI ((p2.labels.length:Int) - 1)).toNat default)) x3 hx4) t_) t_) ?_
    obtain ⟨j5,H26,H⟩:=bind_some H
    refine AW2.mid ⟨[(4,.p 4 0),(5,.p 5 0),(6,.p 6 0),(8,.d (.int .u8 x3.1)),(9,.d (.bool j5))],[(4,.st false (eD (eSt8 j1))),(5,.st false (eD (eInstr p2))),(6,.st false [.d .nils,.d (.int .i64 0),.d (.bool false),.d (.bool false),.d (.int .i64 0),.d (.bool false)])]⟩ ?_ ?_
    ·refine AW2.seq ?_
     obtain ⟨j6,H14,H⟩:=bind_some H
     refine AW2.reg [] rfl (YW.to ⟨[(4,.p 4 0),(5,.p 5 0),(6,.p 6 0),(8,.d (.int .u8 x3.1))],[(4,.st false [.d (sV (eI .u8) j1.l),.d (.int .i64 j1.under),.d (.bool j1.away),.d (.bool j1.dead),.d (.int .i64 j1.most),.d (.bool j6)]),(5,.st false (eD (eInstr p2))),(6,.st false [.d .nils,.d (.int .i64 0),.d (.bool false),.d (.bool false),.d (.int .i64 0),.d (.bool false)])]⟩ ?qh15 ?h15)
     case h15 => 
      have H:=H14
      rcases bT j1.ok with hc1 | hc1
      ·replace H:=zaj H hc1
       have H:=Option.some.inj H
       subst H
       exact YW.fin [(87,true)] [] [4,5,6,8] [] [.k 4,.k 5,.k 6] _ (a_ (a_ hc1 (a_ hc1 t_)) t_) (by kernel_rfl) rfl
      ·replace H:=zak H hc1
       have H:=Option.some.inj H
       subst H
       exact YW.fin [(87,false)] [] [4,5,6,8] [] [.k 4,.k 5,.k 6] _ (a_ (a_ hc1 (a_ hc1 t_)) t_) (by kernel_rfl) rfl
     refine AW2.seq ?_
     obtain ⟨x7,hx8,H⟩:=bind_some H
     refine r_ [.r (.tup [.agg (eSt8 x7.1),.int .u8 x7.2])] [4,5,6,8] [] [.k 4,.k 5,.k 6] ⟨[(4,.p 4 0),(5,.p 5 0),(6,.p 6 0),(8,.d (.int .u8 x3.1))],[(4,.st false (eD (eSt8 x7.1))),(5,.st false (eD (eInstr p2))),(6,.st false [.d .nils,.d (.int .i64 0),.d (.bool false),.d (.bool false),.d (.int .i64 0),.d (.bool false)])]⟩ (a_ (a_ (zaS (St8.mk j1.l j1.under j1.away j1.dead j1.most j6) x3.1 x7 hx8) t_) t_) ?_
     refine AW2.seq ?_
     refine AW2.seq ?_
     refine r_ [] [4,6,8,99] [] [.k 4,.k 6] ⟨[(4,.p 4 0),(6,.p 6 0),(8,.d (.int .u8 x3.1)),(99,.d (.bool (p2.op==(13:Int))))],[(4,.st false (eD (eSt8 x7.1))),(6,.st false [.d .nils,.d (.int .i64 0),.d (.bool false),.d (.bool false),.d (.int .i64 0),.d (.bool false)])]⟩ (a_ t_ t_) ?_
     refine AW2.cond (b:=(p2.op==(13:Int))) rfl (fun hc => ?_) (fun hc => ?_)
     ·replace H:=zaj H hc
      refine AW2.seq ?_
      obtain ⟨x9,hx10,H⟩:=bind_some H
      refine r_ [.r (.agg (eSt8 x9))] [6] [] [.k 6] ⟨[(6,.p 6 0)],[(6,.st false (eD (eSt8 x9)))]⟩ (a_ (a_ (zes x7.1 x3.1 x9 hx10) t_) t_) ?_
      refine AW2.ret ?_
      have H:=Option.some.inj H
      subst H
      exact retP_mk2 t_ (by kernel_rfl)
     ·replace H:=zak H hc
      refine AW2.skip ?_
      refine AW2.seq ?_
      obtain ⟨x11,hx12,H⟩:=bind_some H
      refine r_ [.r (.agg (eSt8 x11))] [6] [] [.k 6] ⟨[(6,.p 6 0)],[(6,.st false (eD (eSt8 x11)))]⟩ (a_ (a_ (zfZ x7.1 x11 hx12) t_) t_) ?_
      refine AW2.ret ?_
      have H:=Option.some.inj H
      subst H
      exact retP_mk2 t_ (by kernel_rfl)
    ·have H:=H26
     refine AW2.seq ?_
     refine r_ [] [3,4,5,6,8,9,10] [] [.k 3,.k 4,.k 5,.k 6] ⟨[(3,.p 3 0),(4,.p 4 0),(5,.p 5 0),(6,.p 6 0),(8,.d (.int .u8 x3.1)),(9,.d (.bool x3.2)),(10,.d (.int .i64 0))],[(3,.st false (eD (eEnv8 p0))),(4,.st false (eD (eSt8 j1))),(5,.st false (eD (eInstr p2))),(6,.st false [.d .nils,.d (.int .i64 0),.d (.bool false),.d (.bool false),.d (.int .i64 0),.d (.bool false)])]⟩ (a_ t_ t_) ?_
     refine AW2.block ?_
     refine AW2.lp (σ:=Int×Bool) (fun v => ⟨[(3,.p 3 0),(4,.p 4 0),(5,.p 5 0),(6,.p 6 0),(8,.d (.int .u8 x3.1)),(9,.d (.bool v.2)),(10,.d (.int .i64 v.1))],[(3,.st false (eD (eEnv8 p0))),(4,.st false (eD (eSt8 j1))),(5,.st false (eD (eInstr p2))),(6,.st false [.d .nils,.d (.int .i64 0),.d (.bool false),.d (.bool false),.d (.int .i64 0),.d (.bool false)])]⟩) (fun k v => zaY k p0 p2 x3 v.1 v.2=some j5) ?_ K (0,x3.2) H
     rintro k ⟨a18,a19⟩ H
     dsimp only at H
     cases k with
     | zero => cases H
     | succ k => 
     unfold zaY at H
     refine AW2.seq ?_
     refine AW2.seq ?_
     refine AW2.reg [] rfl (YW.to ⟨[(3,.p 3 0),(4,.p 4 0),(5,.p 5 0),(6,.p 6 0),(8,.d (.int .u8 x3.1)),(9,.d (.bool a19)),(10,.d (.int .i64 a18)),(62,.d (.bool ((p2.op==(14:Int))&&(decide (a18<(p2.labels.length:Int))))))],[(3,.st false (eD (eEnv8 p0))),(4,.st false (eD (eSt8 j1))),(5,.st false (eD (eInstr p2))),(6,.st false [.d .nils,.d (.int .i64 0),.d (.bool false),.d (.bool false),.d (.int .i64 0),.d (.bool false)])]⟩ ?qh24 ?h24)
     case h24 => 
      rcases bT (p2.op==(14:Int)) with hc1 | hc1
      ·exact YW.fin [(56,true)] [] [3,4,5,6,8,9,10,62] [(62,.d (.bool ((p2.op==(14:Int))&&(decide (a18<(p2.labels.length:Int))))))] [.k 3,.k 4,.k 5,.k 6] _ (a_ (a_ hc1 (a_ hc1 (a_ hc1 (a_ hc1 (a_ hc1 (a_ hc1 t_)))))) (a_ (ovB (Eq.trans (andT (b:=(decide (a18<(p2.labels.length:Int)))) hc1) (Eq.refl (decide (a18<(p2.labels.length:Int)))))) t_)) (by kernel_rfl) rfl
      ·exact YW.fin [(56,false)] [] [3,4,5,6,8,9,10,62] [(62,.d (.bool ((p2.op==(14:Int))&&(decide (a18<(p2.labels.length:Int))))))] [.k 3,.k 4,.k 5,.k 6] _ (a_ (a_ hc1 (a_ hc1 (a_ hc1 (a_ hc1 (a_ hc1 (a_ hc1 t_)))))) (a_ (ovB (andF (b:=(decide (a18<(p2.labels.length:Int)))) hc1)) t_)) (by kernel_rfl) rfl
     refine AW2.cond (b:=((p2.op==(14:Int))&&(decide (a18<(p2.labels.length:Int))))) rfl (fun hc => ?_) (fun hc => ?_)
     ·replace H:=zaj H hc
      refine AW2.skip ?_
      refine AW2.seq ?_
      refine AW2.block ?_
      refine AW2.seq ?_
      obtain ⟨h20,H⟩:=zad H
      obtain ⟨x21,hx22,H⟩:=bind_some H
      refine r_ [.r (.tup [.int .u8 x21.1,.bool x21.2])] [3,4,5,6,8,9,10,11,12] [] [.k 3,.k 4,.k 5,.k 6] ⟨[(3,.p 3 0),(4,.p 4 0),(5,.p 5 0),(6,.p 6 0),(8,.d (.int .u8 x3.1)),(9,.d (.bool a19)),(10,.d (.int .i64 a18)),(11,.d (.int .u8 x21.1)),(12,.d (.bool x21.2))],[(3,.st false (eD (eEnv8 p0))),(4,.st false (eD (eSt8 j1))),(5,.st false (eD (eInstr p2))),(6,.st false [.d .nils,.d (.int .i64 0),.d (.bool false),.d (.bool false),.d (.int .i64 0),.d (.bool false)])]⟩ (a_ (a_ h20 (a_ (zeE p0 (wI (p2.labels.getD a18.toNat default)) x21 hx22) t_)) t_) ?_
      refine AW2.reg [] rfl (YW.to ⟨[(3,.p 3 0),(4,.p 4 0),(5,.p 5 0),(6,.p 6 0),(8,.d (.int .u8 x3.1)),(9,.d (.bool (a19&&(x21.2&&(x21.1==x3.1))))),(10,.d (.int .i64 a18))],[(3,.st false (eD (eEnv8 p0))),(4,.st false (eD (eSt8 j1))),(5,.st false (eD (eInstr p2))),(6,.st false [.d .nils,.d (.int .i64 0),.d (.bool false),.d (.bool false),.d (.int .i64 0),.d (.bool false)])]⟩ ?qh23 ?h23)
      case h23 => 
       rcases bT a19 with hc1 | hc1
       ·rcases bT x21.2 with hc2 | hc2
        ·exact YW.fin [(77,true),(80,true)] [] [3,4,5,6,8,9,10] [(9,.d (.bool (a19&&(x21.2&&(x21.1==x3.1)))))] [.k 3,.k 4,.k 5,.k 6] _ (a_ (a_ hc1 (a_ hc1 (a_ hc2 (a_ hc2 (a_ hc2 (a_ hc2 t_)))))) (a_ (ovB (Eq.trans (andT (b:=(x21.2&&(x21.1==x3.1))) hc1) (Eq.trans (andT (b:=(x21.1==x3.1)) hc2) (Eq.refl (x21.1==x3.1))))) t_)) (by kernel_rfl) rfl
        ·exact YW.fin [(77,true),(80,false)] [] [3,4,5,6,8,9,10] [(9,.d (.bool (a19&&(x21.2&&(x21.1==x3.1)))))] [.k 3,.k 4,.k 5,.k 6] _ (a_ (a_ hc1 (a_ hc1 (a_ hc2 (a_ hc2 (a_ hc2 (a_ hc2 t_)))))) (a_ (ovB (Eq.trans (andT (b:=(x21.2&&(x21.1==x3.1))) hc1) (andF (b:=(x21.1==x3.1)) hc2))) t_)) (by kernel_rfl) rfl
       ·exact YW.fin [(77,false),(80,false)] [] [3,4,5,6,8,9,10] [(9,.d (.bool (a19&&(x21.2&&(x21.1==x3.1)))))] [.k 3,.k 4,.k 5,.k 6] _ (a_ (a_ hc1 (a_ hc1 (a_ (Eq.refl false) (a_ (Eq.refl false) (a_ (Eq.refl false) (a_ (Eq.refl false) t_)))))) (a_ (ovB (andF (b:=(x21.2&&(x21.1==x3.1))) hc1)) t_)) (by kernel_rfl) rfl
      refine r_ [] [3,4,5,6,8,9,10] [] [.k 3,.k 4,.k 5,.k 6] ⟨[(3,.p 3 0),(4,.p 4 0),(5,.p 5 0),(6,.p 6 0),(8,.d (.int .u8 x3.1)),(9,.d (.bool (a19&&(x21.2&&(x21.1==x3.1))))),(10,.d (.int .i64 (wI (a18+1))))],[(3,.st false (eD (eEnv8 p0))),(4,.st false (eD (eSt8 j1))),(5,.st false (eD (eInstr p2))),(6,.st false [.d .nils,.d (.int .i64 0),.d (.bool false),.d (.bool false),.d (.int .i64 0),.d (.bool false)])]⟩ (a_ t_ t_) ?_
      exact ⟨k,((wI (a18+1)),(a19&&(x21.2&&(x21.1==x3.1)))),Nat.lt_succ_self k,H,zay [3,4,5,6,8,9,10] [] [.k 3,.k 4,.k 5,.k 6] t_ (by kernel_rfl)⟩
     ·replace H:=zak H hc
      refine AW2.exit ?_
      have H:=Option.some.inj H
      subst H
      exact zay [4,5,6,8,9] [] [.k 4,.k 5,.k 6] t_ (by kernel_rfl)
  ·replace H:=zak H hc
   refine AW2.skip ?_
   refine AW2.seq ?_
   obtain ⟨x28,hx29,H⟩:=bind_some H
   refine r_ [.r (.tup [.int .u8 x28.1,.bool x28.2])] [3,4,5,6,8,9] [] [.k 3,.k 4,.k 5,.k 6] ⟨[(3,.p 3 0),(4,.p 4 0),(5,.p 5 0),(6,.p 6 0),(8,.d (.int .u8 x28.1)),(9,.d (.bool x28.2))],[(3,.st false (eD (eEnv8 p0))),(4,.st false (eD (eSt8 j1))),(5,.st false (eD (eInstr p2))),(6,.st false [.d .nils,.d (.int .i64 0),.d (.bool false),.d (.bool false),.d (.int .i64 0),.d (.bool false)])]⟩ (a_ (a_ (zeE p0 p2.n x28 hx29) t_) t_) ?_
   obtain ⟨j30,H51,H⟩:=bind_some H
   refine AW2.mid ⟨[(4,.p 4 0),(5,.p 5 0),(6,.p 6 0),(8,.d (.int .u8 x28.1)),(9,.d (.bool j30))],[(4,.st false (eD (eSt8 j1))),(5,.st false (eD (eInstr p2))),(6,.st false [.d .nils,.d (.int .i64 0),.d (.bool false),.d (.bool false),.d (.int .i64 0),.d (.bool false)])]⟩ ?_ ?_
   ·refine AW2.seq ?_
    obtain ⟨j31,H39,H⟩:=bind_some H
    refine AW2.reg [] rfl (YW.to ⟨[(4,.p 4 0),(5,.p 5 0),(6,.p 6 0),(8,.d (.int .u8 x28.1))],[(4,.st false [.d (sV (eI .u8) j1.l),.d (.int .i64 j1.under),.d (.bool j1.away),.d (.bool j1.dead),.d (.int .i64 j1.most),.d (.bool j31)]),(5,.st false (eD (eInstr p2))),(6,.st false [.d .nils,.d (.int .i64 0),.d (.bool false),.d (.bool false),.d (.int .i64 0),.d (.bool false)])]⟩ ?qh40 ?h40)
    case h40 => 
     have H:=H39
     rcases bT j1.ok with hc1 | hc1
     ·replace H:=zaj H hc1
      have H:=Option.some.inj H
      subst H
      exact YW.fin [(87,true)] [] [4,5,6,8] [] [.k 4,.k 5,.k 6] _ (a_ (a_ hc1 (a_ hc1 t_)) t_) (by kernel_rfl) rfl
     ·replace H:=zak H hc1
      have H:=Option.some.inj H
      subst H
      exact YW.fin [(87,false)] [] [4,5,6,8] [] [.k 4,.k 5,.k 6] _ (a_ (a_ hc1 (a_ hc1 t_)) t_) (by kernel_rfl) rfl
    refine AW2.seq ?_
    obtain ⟨x32,hx33,H⟩:=bind_some H
    refine r_ [.r (.tup [.agg (eSt8 x32.1),.int .u8 x32.2])] [4,5,6,8] [] [.k 4,.k 5,.k 6] ⟨[(4,.p 4 0),(5,.p 5 0),(6,.p 6 0),(8,.d (.int .u8 x28.1))],[(4,.st false (eD (eSt8 x32.1))),(5,.st false (eD (eInstr p2))),(6,.st false [.d .nils,.d (.int .i64 0),.d (.bool false),.d (.bool false),.d (.int .i64 0),.d (.bool false)])]⟩ (a_ (a_ (zaS (St8.mk j1.l j1.under j1.away j1.dead j1.most j31) x28.1 x32 hx33) t_) t_) ?_
    refine AW2.seq ?_
    refine AW2.seq ?_
    refine r_ [] [4,6,8,99] [] [.k 4,.k 6] ⟨[(4,.p 4 0),(6,.p 6 0),(8,.d (.int .u8 x28.1)),(99,.d (.bool (p2.op==(13:Int))))],[(4,.st false (eD (eSt8 x32.1))),(6,.st false [.d .nils,.d (.int .i64 0),.d (.bool false),.d (.bool false),.d (.int .i64 0),.d (.bool false)])]⟩ (a_ t_ t_) ?_
    refine AW2.cond (b:=(p2.op==(13:Int))) rfl (fun hc => ?_) (fun hc => ?_)
    ·replace H:=zaj H hc
     refine AW2.seq ?_
     obtain ⟨x34,hx35,H⟩:=bind_some H
     refine r_ [.r (.agg (eSt8 x34))] [6] [] [.k 6] ⟨[(6,.p 6 0)],[(6,.st false (eD (eSt8 x34)))]⟩ (a_ (a_ (zes x32.1 x28.1 x34 hx35) t_) t_) ?_
     refine AW2.ret ?_
     have H:=Option.some.inj H
     subst H
     exact retP_mk2 t_ (by kernel_rfl)
    ·replace H:=zak H hc
     refine AW2.skip ?_
     refine AW2.seq ?_
     obtain ⟨x36,hx37,H⟩:=bind_some H
     refine r_ [.r (.agg (eSt8 x36))] [6] [] [.k 6] ⟨[(6,.p 6 0)],[(6,.st false (eD (eSt8 x36)))]⟩ (a_ (a_ (zfZ x32.1 x36 hx37) t_) t_) ?_
     refine AW2.ret ?_
     have H:=Option.some.inj H
     subst H
     exact retP_mk2 t_ (by kernel_rfl)
   ·have H:=H51
    refine AW2.seq ?_
    refine r_ [] [3,4,5,6,8,9,10] [] [.k 3,.k 4,.k 5,.k 6] ⟨[(3,.p 3 0),(4,.p 4 0),(5,.p 5 0),(6,.p 6 0),(8,.d (.int .u8 x28.1)),(9,.d (.bool x28.2)),(10,.d (.int .i64 0))],[(3,.st false (eD (eEnv8 p0))),(4,.st false (eD (eSt8 j1))),(5,.st false (eD (eInstr p2))),(6,.st false [.d .nils,.d (.int .i64 0),.d (.bool false),.d (.bool false),.d (.int .i64 0),.d (.bool false)])]⟩ (a_ t_ t_) ?_
    refine AW2.block ?_
    refine AW2.lp (σ:=Int×Bool) (fun v => ⟨[(3,.p 3 0),(4,.p 4 0),(5,.p 5 0),(6,.p 6 0),(8,.d (.int .u8 x28.1)),(9,.d (.bool v.2)),(10,.d (.int .i64 v.1))],[(3,.st false (eD (eEnv8 p0))),(4,.st false (eD (eSt8 j1))),(5,.st false (eD (eInstr p2))),(6,.st false [.d .nils,.d (.int .i64 0),.d (.bool false),.d (.bool false),.d (.int .i64 0),.d (.bool false)])]⟩) (fun k v => zaX k p0 p2 x28 v.1 v.2=some j30) ?_ K (0,x28.2) H
    rintro k ⟨a43,a44⟩ H
    dsimp only at H
    cases k with
    | zero => cases H
    | succ k => 
    unfold zaX at H
    refine AW2.seq ?_
    refine AW2.seq ?_
    refine AW2.reg [] rfl (YW.to ⟨[(3,.p 3 0),(4,.p 4 0),(5,.p 5 0),(6,.p 6 0),(8,.d (.int .u8 x28.1)),(9,.d (.bool a44)),(10,.d (.int .i64 a43)),(62,.d (.bool ((p2.op==(14:Int))&&(decide (a43<(p2.labels.length:Int))))))],[(3,.st false (eD (eEnv8 p0))),(4,.st false (eD (eSt8 j1))),(5,.st false (eD (eInstr p2))),(6,.st false [.d .nils,.d (.int .i64 0),.d (.bool false),.d (.bool false),.d (.int .i64 0),.d (.bool false)])]⟩ ?qh49 ?h49)
    case h49 => 
     rcases bT (p2.op==(14:Int)) with hc1 | hc1
     ·exact YW.fin [(56,true)] [] [3,4,5,6,8,9,10,62] [(62,.d (.bool ((p2.op==(14:Int))&&(decide (a43<(p2.labels.length:Int))))))] [.k 3,.k 4,.k 5,.k 6] _ (a_ (a_ hc1 (a_ hc1 (a_ hc1 (a_ hc1 (a_ hc1 (a_ hc1 t_)))))) (a_ (ovB (Eq.trans (andT (b:=(decide (a43<(p2.labels.length:Int)))) hc1) (Eq.refl (decide (a43<(p2.labels.length:Int)))))) t_)) (by kernel_rfl) rfl
     ·exact YW.fin [(56,false)] [] [3,4,5,6,8,9,10,62] [(62,.d (.bool ((p2.op==(14:Int))&&(decide (a43<(p2.labels.length:Int))))))] [.k 3,.k 4,.k 5,.k 6] _ (a_ (a_ hc1 (a_ hc1 (a_ hc1 (a_ hc1 (a_ hc1 (a_ hc1 t_)))))) (a_ (ovB (andF (b:=(decide (a43<(p2.labels.length:Int)))) hc1)) t_)) (by kernel_rfl) rfl
    refine AW2.cond (b:=((p2.op==(14:Int))&&(decide (a43<(p2.labels.length:Int))))) rfl (fun hc => ?_) (fun hc => ?_)
    ·replace H:=zaj H hc
     refine AW2.skip ?_
     refine AW2.seq ?_
     refine AW2.block ?_
     refine AW2.seq ?_
     obtain ⟨h45,H⟩:=zad H
     obtain ⟨x46,hx47,H⟩:=bind_some H
     refine r_ [.r (.tup [.int .u8 x46.1,.bool x46.2])] [3,4,5,6,8,9,10,11,12] [] [.k 3,.k 4,.k 5,.k 6] ⟨[(3,.p 3 0),(4,.p 4 0),(5,.p 5 0),(6,.p 6 0),(8,.d (.int .u8 x28.1)),(9,.d (.bool a44)),(10,.d (.int .i64 a43)),(11,.d (.int .u8 x46.1)),(12,.d (.bool x46.2))],[(3,.st false (eD (eEnv8 p0))),(4,.st false (eD (eSt8 j1))),(5,.st false (eD (eInstr p2))),(6,.st false [.d .nils,.d (.int .i64 0),.d (.bool false),.d (.bool false),.d (.int .i64 0),.d (.bool false)])]⟩ (a_ (a_ h45 (a_ (zeE p0 (wI (p2.labels.getD a43.toNat default)) x46 hx47) t_)) t_) ?_
     refine AW2.reg [] rfl (YW.to ⟨[(3,.p 3 0),(4,.p 4 0),(5,.p 5 0),(6,.p 6 0),(8,.d (.int .u8 x28.1)),(9,.d (.bool (a44&&(x46.2&&(x46.1==x28.1))))),(10,.d (.int .i64 a43))],[(3,.st false (eD (eEnv8 p0))),(4,.st false (eD (eSt8 j1))),(5,.st false (eD (eInstr p2))),(6,.st false [.d .nils,.d (.int .i64 0),.d (.bool false),.d (.bool false),.d (.int .i64 0),.d (.bool false)])]⟩ ?qh48 ?h48)
     case h48 => 
      rcases bT a44 with hc1 | hc1
      ·rcases bT x46.2 with hc2 | hc2
       ·exact YW.fin [(77,true),(80,true)] [] [3,4,5,6,8,9,10] [(9,.d (.bool (a44&&(x46.2&&(x46.1==x28.1)))))] [.k 3,.k 4,.k 5,.k 6] _ (a_ (a_ hc1 (a_ hc1 (a_ hc2 (a_ hc2 (a_ hc2 (a_ hc2 t_)))))) (a_ (ovB (Eq.trans (andT (b:=(x46.2&&(x46.1==x28.1))) hc1) (Eq.trans (andT (b:=(x46.1==x28.1)) hc2) (Eq.refl (x46.1==x28.1))))) t_)) (by kernel_rfl) rfl
       ·exact YW.fin [(77,true),(80,false)] [] [3,4,5,6,8,9,10] [(9,.d (.bool (a44&&(x46.2&&(x46.1==x28.1)))))] [.k 3,.k 4,.k 5,.k 6] _ (a_ (a_ hc1 (a_ hc1 (a_ hc2 (a_ hc2 (a_ hc2 (a_ hc2 t_)))))) (a_ (ovB (Eq.trans (andT (b:=(x46.2&&(x46.1==x28.1))) hc1) (andF (b:=(x46.1==x28.1)) hc2))) t_)) (by kernel_rfl) rfl
      ·exact YW.fin [(77,false),(80,false)] [] [3,4,5,6,8,9,10] [(9,.d (.bool (a44&&(x46.2&&(x46.1==x28.1)))))] [.k 3,.k 4,.k 5,.k 6] _ (a_ (a_ hc1 (a_ hc1 (a_ (Eq.refl false) (a_ (Eq.refl false) (a_ (Eq.refl false) (a_ (Eq.refl false) t_)))))) (a_ (ovB (andF (b:=(x46.2&&(x46.1==x28.1))) hc1)) t_)) (by kernel_rfl) rfl
     refine r_ [] [3,4,5,6,8,9,10] [] [.k 3,.k 4,.k 5,.k 6] ⟨[(3,.p 3 0),(4,.p 4 0),(5,.p 5 0),(6,.p 6 0),(8,.d (.int .u8 x28.1)),(9,.d (.bool (a44&&(x46.2&&(x46.1==x28.1))))),(10,.d (.int .i64 (wI (a43+1))))],[(3,.st false (eD (eEnv8 p0))),(4,.st false (eD (eSt8 j1))),(5,.st false (eD (eInstr p2))),(6,.st false [.d .nils,.d (.int .i64 0),.d (.bool false),.d (.bool false),.d (.int .i64 0),.d (.bool false)])]⟩ (a_ t_ t_) ?_
     exact ⟨k,((wI (a43+1)),(a44&&(x46.2&&(x46.1==x28.1)))),Nat.lt_succ_self k,H,zay [3,4,5,6,8,9,10] [] [.k 3,.k 4,.k 5,.k 6] t_ (by kernel_rfl)⟩
    ·replace H:=zak H hc
     refine AW2.exit ?_
     have H:=Option.some.inj H
     subst H
     exact zay [4,5,6,8,9] [] [.k 4,.k 5,.k 6] t_ (by kernel_rfl)
 ·have H:=H55
  refine AW2.seq ?_
  refine r_ [] [3,4,5,6,15] [] [.k 3,.k 4,.k 5,.k 6] ⟨[(3,.p 3 0),(4,.p 4 0),(5,.p 5 0),(6,.p 6 0),(15,.d (.bool (p2.op != (12:Int))))],[(3,.st false (eD (eEnv8 p0))),(4,.st false (eD (eSt8 p1))),(5,.st false (eD (eInstr p2))),(6,.st false [.d .nils,.d (.int .i64 0),.d (.bool false),.d (.bool false),.d (.int .i64 0),.d (.bool false)])]⟩ (a_ t_ t_) ?_
  refine AW2.cond (b:=(p2.op != (12:Int))) rfl (fun hc => ?_) (fun hc => ?_)
  ·replace H:=zaj H hc
   obtain ⟨x52,hx53,H⟩:=bind_some H
   refine r_ [.r (.tup [.agg (eSt8 x52.1),.int .u8 x52.2])] [3,4,5,6] [] [.k 3,.k 4,.k 5,.k 6] ⟨[(3,.p 3 0),(4,.p 4 0),(5,.p 5 0),(6,.p 6 0)],[(3,.st false (eD (eEnv8 p0))),(4,.st false (eD (eSt8 x52.1))),(5,.st false (eD (eInstr p2))),(6,.st false [.d .nils,.d (.int .i64 0),.d (.bool false),.d (.bool false),.d (.int .i64 0),.d (.bool false)])]⟩ (a_ (a_ (zaS p1 127 x52 hx53) t_) t_) ?_
   have H:=Option.some.inj H
   subst H
   exact zay [3,4,5,6] [] [.k 3,.k 4,.k 5,.k 6] t_ (by kernel_rfl)
  ·replace H:=zak H hc
   refine AW2.skip ?_
   have H:=Option.some.inj H
   subst H
   exact zay [3,4,5,6] [] [.k 3,.k 4,.k 5,.k 6] t_ (by kernel_rfl)
def zbp (p0:Int) (p1:Int):Option (Bool):=some ((decide (p0≥(0:Int)))&&(decide (p0<p1)))
theorem zkf (p0:Int) (p1:Int) (r:Bool) (H:zbp p0 p1=some r):CF E 59 [.int .i64 p0,.int .i64 p1] (.bool r):=by
 refine zcG (A:=zwq) zyE rfl fun fr => ?_
 unfold zbp at H
 refine AW2.seq ?_
 refine r_ [] [0,1] [] [] ⟨[(0,.d (.int .i64 p0)),(1,.d (.int .i64 p1))],[]⟩ (a_ t_ t_) ?_
 refine AW2.seq ?_
 refine AW2.reg [] rfl (YW.to ⟨[(4,.d (.bool ((decide (p0≥(0:Int)))&&(decide (p0<p1)))))],[]⟩ ?qh1 ?h1)
 case h1 => 
  rcases bT (decide (p0≥(0:Int))) with hc1 | hc1
  ·exact YW.fin [(7,true)] [] [4] [(4,.d (.bool ((decide (p0≥(0:Int)))&&(decide (p0<p1)))))] [] _ (a_ (a_ hc1 (a_ hc1 (a_ hc1 (a_ hc1 t_)))) (a_ (ovB (Eq.trans (andT (b:=(decide (p0<p1))) hc1) (Eq.refl (decide (p0<p1))))) t_)) (by kernel_rfl) rfl
  ·exact YW.fin [(7,false)] [] [4] [(4,.d (.bool ((decide (p0≥(0:Int)))&&(decide (p0<p1)))))] [] _ (a_ (a_ hc1 (a_ hc1 (a_ hc1 (a_ hc1 t_)))) (a_ (ovB (andF (b:=(decide (p0<p1))) hc1)) t_)) (by kernel_rfl) rfl
 refine AW2.ret ?_
 have H:=Option.some.inj H
 subst H
 exact retP_mk2 t_ (by kernel_rfl)
def zce:Nat→Typ→St8→Int→Option (St8)
 | 0,_,_,_ => none
 | k+1,p1,a6,a7 => (if (decide (a7≥(0:Int)))=true then gd (0≤a7∧a7<(p1.params.length:Int)) ((zae a6 (p1.params.getD a7.toNat default)).bind fun x9 => zce k p1 x9.1 (wI (a7 - 1))) else some a6)
def zbG (K:Nat) (p0:St8) (p1:Typ):Option (St8):=(zce K p1 p0 (wI ((p1.params.length:Int) - 1))).bind (fun j1 => ((zaH j1 p1.result).bind fun x2 => some x2))
theorem zjt (K:Nat) (p0:St8) (p1:Typ) (r:St8) (H:zbG K p0 p1=some r):CF E 60 [.agg (eSt8 p0),.agg (eTyp p1)] (.agg (eSt8 r)):=by
 refine zcG (A:=zoO) zwJ rfl fun fr => ?_
 unfold zbG at H
 refine AW2.seq ?_
 refine r_ [.k 2,.k 3,.k 4] [2,3,4] [] [.k 2,.k 3,.k 4] ⟨[(2,.p 2 0),(3,.p 3 0),(4,.p 4 0)],[(2,.st false (eD (eSt8 p0))),(3,.st false (eD (eTyp p1))),(4,.st false [.d .nils,.d (.int .i64 0),.d (.bool false),.d (.bool false),.d (.int .i64 0),.d (.bool false)])]⟩ (a_ t_ t_) ?_
 obtain ⟨j1,H12,H⟩:=bind_some H
 refine AW2.mid ⟨[(2,.p 2 0),(3,.p 3 0),(4,.p 4 0)],[(2,.st false (eD (eSt8 j1))),(3,.st false (eD (eTyp p1))),(4,.st false [.d .nils,.d (.int .i64 0),.d (.bool false),.d (.bool false),.d (.int .i64 0),.d (.bool false)])]⟩ ?_ ?_
 ·refine AW2.seq ?_
  obtain ⟨x2,hx3,H⟩:=bind_some H
  refine r_ [.r (.agg (eSt8 x2))] [4] [] [.k 4] ⟨[(4,.p 4 0)],[(4,.st false (eD (eSt8 x2)))]⟩ (a_ (a_ (zes j1 p1.result x2 hx3) t_) t_) ?_
  refine AW2.ret ?_
  have H:=Option.some.inj H
  subst H
  exact retP_mk2 t_ (by kernel_rfl)
 ·have H:=H12
  refine AW2.seq ?_
  refine r_ [] [2,3,4,5] [] [.k 2,.k 3,.k 4] ⟨[(2,.p 2 0),(3,.p 3 0),(4,.p 4 0),(5,.d (.int .i64 (wI ((p1.params.length:Int) - 1))))],[(2,.st false (eD (eSt8 p0))),(3,.st false (eD (eTyp p1))),(4,.st false [.d .nils,.d (.int .i64 0),.d (.bool false),.d (.bool false),.d (.int .i64 0),.d (.bool false)])]⟩ (a_ t_ t_) ?_
  refine AW2.block ?_
  refine AW2.lp (σ:=St8×Int) (fun v => ⟨[(2,.p 2 0),(3,.p 3 0),(4,.p 4 0),(5,.d (.int .i64 v.2))],[(2,.st false (eD (eSt8 v.1))),(3,.st false (eD (eTyp p1))),(4,.st false [.d .nils,.d (.int .i64 0),.d (.bool false),.d (.bool false),.d (.int .i64 0),.d (.bool false)])]⟩) (fun k v => zce k p1 v.1 v.2=some j1) ?_ K (p0,(wI ((p1.params.length:Int) - 1))) H
  rintro k ⟨a6,a7⟩ H
  dsimp only at H
  cases k with
  | zero => cases H
  | succ k => 
  unfold zce at H
  refine AW2.seq ?_
  refine AW2.seq ?_
  refine r_ [] [2,3,4,5,11] [] [.k 2,.k 3,.k 4] ⟨[(2,.p 2 0),(3,.p 3 0),(4,.p 4 0),(5,.d (.int .i64 a7)),(11,.d (.bool (decide (a7≥(0:Int)))))],[(2,.st false (eD (eSt8 a6))),(3,.st false (eD (eTyp p1))),(4,.st false [.d .nils,.d (.int .i64 0),.d (.bool false),.d (.bool false),.d (.int .i64 0),.d (.bool false)])]⟩ (a_ t_ t_) ?_
  refine AW2.cond (b:=(decide (a7≥(0:Int)))) rfl (fun hc => ?_) (fun hc => ?_)
  ·replace H:=zaj H hc
   refine AW2.skip ?_
   refine AW2.seq ?_
   refine AW2.block ?_
   obtain ⟨h8,H⟩:=zad H
   obtain ⟨x9,hx10,H⟩:=bind_some H
   refine r_ [.r (.tup [.agg (eSt8 x9.1),.int .u8 x9.2])] [2,3,4,5] [] [.k 2,.k 3,.k 4] ⟨[(2,.p 2 0),(3,.p 3 0),(4,.p 4 0),(5,.d (.int .i64 a7))],[(2,.st false (eD (eSt8 x9.1))),(3,.st false (eD (eTyp p1))),(4,.st false [.d .nils,.d (.int .i64 0),.d (.bool false),.d (.bool false),.d (.int .i64 0),.d (.bool false)])]⟩ (a_ (a_ h8 (a_ (zaS a6 (p1.params.getD a7.toNat default) x9 hx10) t_)) t_) ?_
   refine r_ [] [2,3,4,5] [] [.k 2,.k 3,.k 4] ⟨[(2,.p 2 0),(3,.p 3 0),(4,.p 4 0),(5,.d (.int .i64 (wI (a7 - 1))))],[(2,.st false (eD (eSt8 x9.1))),(3,.st false (eD (eTyp p1))),(4,.st false [.d .nils,.d (.int .i64 0),.d (.bool false),.d (.bool false),.d (.int .i64 0),.d (.bool false)])]⟩ (a_ t_ t_) ?_
   exact ⟨k,(x9.1,(wI (a7 - 1))),Nat.lt_succ_self k,H,zay [2,3,4,5] [] [.k 2,.k 3,.k 4] t_ (by kernel_rfl)⟩
  ·replace H:=zak H hc
   refine AW2.exit ?_
   have H:=Option.some.inj H
   subst H
   exact zay [2,3,4] [] [.k 2,.k 3,.k 4] t_ (by kernel_rfl)
def zbS (K:Nat) (p0:Env8) (p1:St8) (p2:Instr):Option (St8):=(if (p2.op==(16:Int))=true then ((zbp p2.n (p0.m.funcs.length:Int)).bind fun x1 => (if (!x1)=true then some (St8.mk p1.l p1.under p1.away p1.dead p1.most false) else gd (0≤p2.n∧p2.n<(p0.m.funcs.length:Int)) ((zbp (wI ((p0.m.funcs.getD p2.n.toNat default).type_)) (p0.m.types.length:Int)).bind fun x4 => (if (!x4)=true then some (St8.mk p1.l p1.under p1.away p1.dead p1.most false) else gd (0≤(wI ((p0.m.funcs.getD p2.n.toNat default).type_))∧(wI ((p0.m.funcs.getD p2.n.toNat default).type_))<(p0.m.types.length:Int)) ((zbG K p1 (p0.m.types.getD (wI ((p0.m.funcs.getD p2.n.toNat default).type_)).toNat default)).bind fun x7 => some x7))))) else (if p1.ok=true then some (decide ((p0.m.tables.length:Int)>(0:Int))) else some false).bind (fun j9 => ((zae (St8.mk p1.l p1.under p1.away p1.dead p1.most j9) 127).bind fun x10 => ((zbp p2.n (p0.m.types.length:Int)).bind fun x12 => (if (!x12)=true then some (St8.mk x10.1.l x10.1.under x10.1.away x10.1.dead x10.1.most false) else gd (0≤p2.n∧p2.n<(p0.m.types.length:Int)) ((zbG K x10.1 (p0.m.types.getD p2.n.toNat default)).bind fun x15 => some x15))))))
theorem zxa (K:Nat) (p0:Env8) (p1:St8) (p2:Instr) (r:St8) (H:zbS K p0 p1 p2=some r):CF E 45 [.agg (eEnv8 p0),.agg (eSt8 p1),.agg (eInstr p2)] (.agg (eSt8 r)):=by
 refine zcG (A:=zmk) zvp rfl fun fr => ?_
 unfold zbS at H
 refine AW2.seq ?_
 refine r_ [.k 3,.k 4,.k 5,.k 6] [3,4,5,6] [] [.k 3,.k 4,.k 5,.k 6] ⟨[(3,.p 3 0),(4,.p 4 0),(5,.p 5 0),(6,.p 6 0)],[(3,.st false (eD (eEnv8 p0))),(4,.st false (eD (eSt8 p1))),(5,.st false (eD (eInstr p2))),(6,.st false [.d .nils,.d (.int .i64 0),.d (.bool false),.d (.bool false),.d (.int .i64 0),.d (.bool false)])]⟩ (a_ t_ t_) ?_
 refine AW2.seq ?_
 refine r_ [] [3,4,5,6,7] [] [.k 3,.k 4,.k 5,.k 6] ⟨[(3,.p 3 0),(4,.p 4 0),(5,.p 5 0),(6,.p 6 0),(7,.d (.int .i64 p2.n))],[(3,.st false (eD (eEnv8 p0))),(4,.st false (eD (eSt8 p1))),(5,.st false (eD (eInstr p2))),(6,.st false [.d .nils,.d (.int .i64 0),.d (.bool false),.d (.bool false),.d (.int .i64 0),.d (.bool false)])]⟩ (a_ t_ t_) ?_
 refine AW2.seq ?_
 refine AW2.seq ?_
 refine r_ [] [3,4,6,7,12] [] [.k 3,.k 4,.k 6] ⟨[(3,.p 3 0),(4,.p 4 0),(6,.p 6 0),(7,.d (.int .i64 p2.n)),(12,.d (.bool (p2.op==(16:Int))))],[(3,.st false (eD (eEnv8 p0))),(4,.st false (eD (eSt8 p1))),(6,.st false [.d .nils,.d (.int .i64 0),.d (.bool false),.d (.bool false),.d (.int .i64 0),.d (.bool false)])]⟩ (a_ t_ t_) ?_
 refine AW2.cond (b:=(p2.op==(16:Int))) rfl (fun hc => ?_) (fun hc => ?_)
 ·replace H:=zaj H hc
  refine AW2.seq ?_
  refine AW2.seq ?_
  obtain ⟨x1,hx2,H⟩:=bind_some H
  refine r_ [.r (.bool x1)] [3,4,6,7,19] [] [.k 3,.k 4,.k 6] ⟨[(3,.p 3 0),(4,.p 4 0),(6,.p 6 0),(7,.d (.int .i64 p2.n)),(19,.d (.bool (!x1)))],[(3,.st false (eD (eEnv8 p0))),(4,.st false (eD (eSt8 p1))),(6,.st false [.d .nils,.d (.int .i64 0),.d (.bool false),.d (.bool false),.d (.int .i64 0),.d (.bool false)])]⟩ (a_ (a_ (zkf p2.n (p0.m.funcs.length:Int) x1 hx2) t_) t_) ?_
  refine AW2.cond (b:=(!x1)) rfl (fun hc => ?_) (fun hc => ?_)
  ·replace H:=zaj H hc
   refine AW2.seq ?_
   refine r_ [] [4,6] [] [.k 4,.k 6] ⟨[(4,.p 4 0),(6,.p 6 0)],[(4,.st false [.d (sV (eI .u8) p1.l),.d (.int .i64 p1.under),.d (.bool p1.away),.d (.bool p1.dead),.d (.int .i64 p1.most),.d (.bool false)]),(6,.st false [.d .nils,.d (.int .i64 0),.d (.bool false),.d (.bool false),.d (.int .i64 0),.d (.bool false)])]⟩ (a_ t_ t_) ?_
   refine AW2.seq ?_
   refine r_ [] [6] [] [.k 6] ⟨[(6,.p 6 0)],[(6,.st false [.d (sV (eI .u8) p1.l),.d (.int .i64 p1.under),.d (.bool p1.away),.d (.bool p1.dead),.d (.int .i64 p1.most),.d (.bool false)])]⟩ (a_ t_ t_) ?_
   refine AW2.ret ?_
   have H:=Option.some.inj H
   subst H
   exact retP_mk2 t_ (by kernel_rfl)
  ·replace H:=zak H hc
   refine AW2.skip ?_
   obtain ⟨h3,H⟩:=zad H
   refine r_ [] [3,4,6,7] [] [.k 3,.k 4,.k 6] ⟨[(3,.p 3 0),(4,.p 4 0),(6,.p 6 0),(7,.d (.int .i64 (wI ((p0.m.funcs.getD p2.n.toNat default).type_))))],[(3,.st false (eD (eEnv8 p0))),(4,.st false (eD (eSt8 p1))),(6,.st false [.d .nils,.d (.int .i64 0),.d (.bool false),.d (.bool false),.d (.int .i64 0),.d (.bool false)])]⟩ (a_ (a_ h3 t_) t_) ?_
   refine AW2.seq ?_
   refine AW2.seq ?_
   obtain ⟨x4,hx5,H⟩:=bind_some H
   refine r_ [.r (.bool x4)] [3,4,6,7,51] [] [.k 3,.k 4,.k 6] ⟨[(3,.p 3 0),(4,.p 4 0),(6,.p 6 0),(7,.d (.int .i64 (wI ((p0.m.funcs.getD p2.n.toNat default).type_)))),(51,.d (.bool (!x4)))],[(3,.st false (eD (eEnv8 p0))),(4,.st false (eD (eSt8 p1))),(6,.st false [.d .nils,.d (.int .i64 0),.d (.bool false),.d (.bool false),.d (.int .i64 0),.d (.bool false)])]⟩ (a_ (a_ (zkf (wI ((p0.m.funcs.getD p2.n.toNat default).type_)) (p0.m.types.length:Int) x4 hx5) t_) t_) ?_
   refine AW2.cond (b:=(!x4)) rfl (fun hc => ?_) (fun hc => ?_)
   ·replace H:=zaj H hc
    refine AW2.seq ?_
    refine r_ [] [4,6] [] [.k 4,.k 6] ⟨[(4,.p 4 0),(6,.p 6 0)],[(4,.st false [.d (sV (eI .u8) p1.l),.d (.int .i64 p1.under),.d (.bool p1.away),.d (.bool p1.dead),.d (.int .i64 p1.most),.d (.bool false)]),(6,.st false [.d .nils,.d (.int .i64 0),.d (.bool false),.d (.bool false),.d (.int .i64 0),.d (.bool false)])]⟩ (a_ t_ t_) ?_
    refine AW2.seq ?_
    refine r_ [] [6] [] [.k 6] ⟨[(6,.p 6 0)],[(6,.st false [.d (sV (eI .u8) p1.l),.d (.int .i64 p1.under),.d (.bool p1.away),.d (.bool p1.dead),.d (.int .i64 p1.most),.d (.bool false)])]⟩ (a_ t_ t_) ?_
    refine AW2.ret ?_
    have H:=Option.some.inj H
    subst H
    exact retP_mk2 t_ (by kernel_rfl)
   ·replace H:=zak H hc
    refine AW2.skip ?_
    refine AW2.seq ?_
    obtain ⟨h6,H⟩:=zad H
    obtain ⟨x7,hx8,H⟩:=bind_some H
    refine r_ [.r (.agg (eSt8 x7))] [6] [] [.k 6] ⟨[(6,.p 6 0)],[(6,.st false (eD (eSt8 x7)))]⟩ (a_ (a_ h6 (a_ (zjt K p1 (p0.m.types.getD (wI ((p0.m.funcs.getD p2.n.toNat default).type_)).toNat default) x7 hx8) t_)) t_) ?_
    refine AW2.ret ?_
    have H:=Option.some.inj H
    subst H
    exact retP_mk2 t_ (by kernel_rfl)
 ·replace H:=zak H hc
  refine AW2.seq ?_
  obtain ⟨j9,H18,H⟩:=bind_some H
  refine AW2.reg [] rfl (YW.to ⟨[(3,.p 3 0),(4,.p 4 0),(6,.p 6 0),(7,.d (.int .i64 p2.n))],[(3,.st false (eD (eEnv8 p0))),(4,.st false [.d (sV (eI .u8) p1.l),.d (.int .i64 p1.under),.d (.bool p1.away),.d (.bool p1.dead),.d (.int .i64 p1.most),.d (.bool j9)]),(6,.st false [.d .nils,.d (.int .i64 0),.d (.bool false),.d (.bool false),.d (.int .i64 0),.d (.bool false)])]⟩ ?qh19 ?h19)
  case h19 => 
   have H:=H18
   rcases bT p1.ok with hc1 | hc1
   ·replace H:=zaj H hc1
    have H:=Option.some.inj H
    subst H
    exact YW.fin [(32,true)] [] [3,4,6,7] [] [.k 3,.k 4,.k 6] _ (a_ (a_ hc1 (a_ hc1 (a_ hc1 (a_ hc1 (a_ hc1 (a_ hc1 t_)))))) t_) (by kernel_rfl) rfl
   ·replace H:=zak H hc1
    have H:=Option.some.inj H
    subst H
    exact YW.fin [(32,false)] [] [3,4,6,7] [] [.k 3,.k 4,.k 6] _ (a_ (a_ hc1 (a_ hc1 (a_ hc1 (a_ hc1 (a_ hc1 (a_ hc1 t_)))))) t_) (by kernel_rfl) rfl
  obtain ⟨x10,hx11,H⟩:=bind_some H
  refine r_ [.r (.tup [.agg (eSt8 x10.1),.int .u8 x10.2])] [3,4,6,7] [] [.k 3,.k 4,.k 6] ⟨[(3,.p 3 0),(4,.p 4 0),(6,.p 6 0),(7,.d (.int .i64 p2.n))],[(3,.st false (eD (eEnv8 p0))),(4,.st false (eD (eSt8 x10.1))),(6,.st false [.d .nils,.d (.int .i64 0),.d (.bool false),.d (.bool false),.d (.int .i64 0),.d (.bool false)])]⟩ (a_ (a_ (zaS (St8.mk p1.l p1.under p1.away p1.dead p1.most j9) 127 x10 hx11) t_) t_) ?_
  refine AW2.seq ?_
  refine AW2.seq ?_
  obtain ⟨x12,hx13,H⟩:=bind_some H
  refine r_ [.r (.bool x12)] [3,4,6,7,51] [] [.k 3,.k 4,.k 6] ⟨[(3,.p 3 0),(4,.p 4 0),(6,.p 6 0),(7,.d (.int .i64 p2.n)),(51,.d (.bool (!x12)))],[(3,.st false (eD (eEnv8 p0))),(4,.st false (eD (eSt8 x10.1))),(6,.st false [.d .nils,.d (.int .i64 0),.d (.bool false),.d (.bool false),.d (.int .i64 0),.d (.bool false)])]⟩ (a_ (a_ (zkf p2.n (p0.m.types.length:Int) x12 hx13) t_) t_) ?_
  refine AW2.cond (b:=(!x12)) rfl (fun hc => ?_) (fun hc => ?_)
  ·replace H:=zaj H hc
   refine AW2.seq ?_
   refine r_ [] [4,6] [] [.k 4,.k 6] ⟨[(4,.p 4 0),(6,.p 6 0)],[(4,.st false [.d (sV (eI .u8) x10.1.l),.d (.int .i64 x10.1.under),.d (.bool x10.1.away),.d (.bool x10.1.dead),.d (.int .i64 x10.1.most),.d (.bool false)]),(6,.st false [.d .nils,.d (.int .i64 0),.d (.bool false),.d (.bool false),.d (.int .i64 0),.d (.bool false)])]⟩ (a_ t_ t_) ?_
   refine AW2.seq ?_
   refine r_ [] [6] [] [.k 6] ⟨[(6,.p 6 0)],[(6,.st false [.d (sV (eI .u8) x10.1.l),.d (.int .i64 x10.1.under),.d (.bool x10.1.away),.d (.bool x10.1.dead),.d (.int .i64 x10.1.most),.d (.bool false)])]⟩ (a_ t_ t_) ?_
   refine AW2.ret ?_
   have H:=Option.some.inj H
   subst H
   exact retP_mk2 t_ (by kernel_rfl)
  ·replace H:=zak H hc
   refine AW2.skip ?_
   refine AW2.seq ?_
   obtain ⟨h14,H⟩:=zad H
   obtain ⟨x15,hx16,H⟩:=bind_some H
   refine r_ [.r (.agg (eSt8 x15))] [6] [] [.k 6] ⟨[(6,.p 6 0)],[(6,.st false (eD (eSt8 x15)))]⟩ (a_ (a_ h14 (a_ (zjt K x10.1 (p0.m.types.getD p2.n.toNat default) x15 hx16) t_)) t_) ?_
   refine AW2.ret ?_
   have H:=Option.some.inj H
   subst H
   exact retP_mk2 t_ (by kernel_rfl)
def zaA (p0:Env8) (p1:St8) (p2:Instr):Option (St8):=(if (decide (p2.op≥(35:Int)))=true then some (p0.m.globals.length:Int) else some (p0.locals.length:Int)).bind (fun j1 => ((zbp p2.n j1).bind fun x2 => (if (!x2)=true then some (St8.mk p1.l p1.under p1.away p1.dead p1.most false) else (if (decide (p2.op≥(35:Int)))=true then gd (0≤p2.n∧p2.n<(p0.m.globals.length:Int)) ((if p1.ok=true then (if (p2.op==(35:Int))=true then some true else gd (0≤p2.n∧p2.n<(p0.m.globals.length:Int)) (some ((p0.m.globals.getD p2.n.toNat default).mut_))) else some false).bind (fun j20 => some ((p0.m.globals.getD p2.n.toNat default).kind,j20))) else gd (0≤p2.n∧p2.n<(p0.locals.length:Int)) (some ((p0.locals.getD p2.n.toNat default),p1.ok))).bind (fun | (j4,j5) => (if ((p2.op==(33:Int))||((p2.op==(34:Int))||(p2.op==(36:Int))))=true then ((zae (St8.mk p1.l p1.under p1.away p1.dead p1.most j5) j4).bind fun x13 => some x13.1) else some (St8.mk p1.l p1.under p1.away p1.dead p1.most j5)).bind (fun j6 => (if ((p2.op==(32:Int))||((p2.op==(34:Int))||(p2.op==(35:Int))))=true then ((zaH j6 j4).bind fun x8 => some x8) else some j6).bind (fun j7 => some j7))))))
theorem zpc (p0:Env8) (p1:St8) (p2:Instr) (r:St8) (H:zaA p0 p1 p2=some r):CF E 47 [.agg (eEnv8 p0),.agg (eSt8 p1),.agg (eInstr p2)] (.agg (eSt8 r)):=by
 refine zcG (A:=zif) zmL rfl fun fr => ?_
 unfold zaA at H
 refine AW2.seq ?_
 refine r_ [.k 3,.k 4,.k 5,.k 6] [3,4,5,6] [] [.k 3,.k 4,.k 5,.k 6] ⟨[(3,.p 3 0),(4,.p 4 0),(5,.p 5 0),(6,.p 6 0)],[(3,.st false (eD (eEnv8 p0))),(4,.st false (eD (eSt8 p1))),(5,.st false (eD (eInstr p2))),(6,.st false [.d .nils,.d (.int .i64 0),.d (.bool false),.d (.bool false),.d (.int .i64 0),.d (.bool false)])]⟩ (a_ t_ t_) ?_
 refine AW2.seq ?_
 refine r_ [] [3,4,5,6,7] [] [.k 3,.k 4,.k 5,.k 6] ⟨[(3,.p 3 0),(4,.p 4 0),(5,.p 5 0),(6,.p 6 0),(7,.d (.int .i64 (p0.locals.length:Int)))],[(3,.st false (eD (eEnv8 p0))),(4,.st false (eD (eSt8 p1))),(5,.st false (eD (eInstr p2))),(6,.st false [.d .nils,.d (.int .i64 0),.d (.bool false),.d (.bool false),.d (.int .i64 0),.d (.bool false)])]⟩ (a_ t_ t_) ?_
 obtain ⟨j1,H28,H⟩:=bind_some H
 refine AW2.mid ⟨[(3,.p 3 0),(4,.p 4 0),(5,.p 5 0),(6,.p 6 0),(7,.d (.int .i64 j1))],[(3,.st false (eD (eEnv8 p0))),(4,.st false (eD (eSt8 p1))),(5,.st false (eD (eInstr p2))),(6,.st false [.d .nils,.d (.int .i64 0),.d (.bool false),.d (.bool false),.d (.int .i64 0),.d (.bool false)])]⟩ ?_ ?_
 ·refine AW2.seq ?_
  refine AW2.seq ?_
  obtain ⟨x2,hx3,H⟩:=bind_some H
  refine r_ [.r (.bool x2)] [3,4,5,6,23] [] [.k 3,.k 4,.k 5,.k 6] ⟨[(3,.p 3 0),(4,.p 4 0),(5,.p 5 0),(6,.p 6 0),(23,.d (.bool (!x2)))],[(3,.st false (eD (eEnv8 p0))),(4,.st false (eD (eSt8 p1))),(5,.st false (eD (eInstr p2))),(6,.st false [.d .nils,.d (.int .i64 0),.d (.bool false),.d (.bool false),.d (.int .i64 0),.d (.bool false)])]⟩ (a_ (a_ (zkf p2.n j1 x2 hx3) t_) t_) ?_
  refine AW2.cond (b:=(!x2)) rfl (fun hc => ?_) (fun hc => ?_)
  ·replace H:=zaj H hc
   refine AW2.seq ?_
   refine r_ [] [4,6] [] [.k 4,.k 6] ⟨[(4,.p 4 0),(6,.p 6 0)],[(4,.st false [.d (sV (eI .u8) p1.l),.d (.int .i64 p1.under),.d (.bool p1.away),.d (.bool p1.dead),.d (.int .i64 p1.most),.d (.bool false)]),(6,.st false [.d .nils,.d (.int .i64 0),.d (.bool false),.d (.bool false),.d (.int .i64 0),.d (.bool false)])]⟩ (a_ t_ t_) ?_
   refine AW2.seq ?_
   refine r_ [] [6] [] [.k 6] ⟨[(6,.p 6 0)],[(6,.st false [.d (sV (eI .u8) p1.l),.d (.int .i64 p1.under),.d (.bool p1.away),.d (.bool p1.dead),.d (.int .i64 p1.most),.d (.bool false)])]⟩ (a_ t_ t_) ?_
   refine AW2.ret ?_
   have H:=Option.some.inj H
   subst H
   exact retP_mk2 t_ (by kernel_rfl)
  ·replace H:=zak H hc
   refine AW2.skip ?_
   refine AW2.seq ?_
   refine r_ [] [3,4,5,6] [] [.k 3,.k 4,.k 5,.k 6] ⟨[(3,.p 3 0),(4,.p 4 0),(5,.p 5 0),(6,.p 6 0)],[(3,.st false (eD (eEnv8 p0))),(4,.st false (eD (eSt8 p1))),(5,.st false (eD (eInstr p2))),(6,.st false [.d .nils,.d (.int .i64 0),.d (.bool false),.d (.bool false),.d (.int .i64 0),.d (.bool false)])]⟩ (a_ t_ t_) ?_
   obtain ⟨v25,H26,H⟩:=bind_some H
   obtain ⟨j4,j5⟩:=v25
   dsimp only at H
   refine AW2.mid ⟨[(4,.p 4 0),(5,.p 5 0),(6,.p 6 0),(8,.d (.int .u8 j4))],[(4,.st false [.d (sV (eI .u8) p1.l),.d (.int .i64 p1.under),.d (.bool p1.away),.d (.bool p1.dead),.d (.int .i64 p1.most),.d (.bool j5)]),(5,.st false (eD (eInstr p2))),(6,.st false [.d .nils,.d (.int .i64 0),.d (.bool false),.d (.bool false),.d (.int .i64 0),.d (.bool false)])]⟩ ?_ ?_
   ·obtain ⟨j6,H17,H⟩:=bind_some H
    refine AW2.mid ⟨[(4,.p 4 0),(5,.p 5 0),(6,.p 6 0),(8,.d (.int .u8 j4))],[(4,.st false (eD (eSt8 j6))),(5,.st false (eD (eInstr p2))),(6,.st false [.d .nils,.d (.int .i64 0),.d (.bool false),.d (.bool false),.d (.int .i64 0),.d (.bool false)])]⟩ ?_ ?_
    ·obtain ⟨j7,H12,H⟩:=bind_some H
     refine AW2.mid ⟨[(4,.p 4 0),(6,.p 6 0)],[(4,.st false (eD (eSt8 j7))),(6,.st false [.d .nils,.d (.int .i64 0),.d (.bool false),.d (.bool false),.d (.int .i64 0),.d (.bool false)])]⟩ ?_ ?_
     ·refine AW2.seq ?_
      refine r_ [] [6] [] [.k 6] ⟨[(6,.p 6 0)],[(6,.st false (eD (eSt8 j7)))]⟩ (a_ t_ t_) ?_
      refine AW2.ret ?_
      have H:=Option.some.inj H
      subst H
      exact retP_mk2 t_ (by kernel_rfl)
     ·have H:=H12
      refine AW2.seq ?_
      refine AW2.reg [] rfl (YW.to ⟨[(4,.p 4 0),(6,.p 6 0),(8,.d (.int .u8 j4)),(92,.d (.bool ((p2.op==(32:Int))||((p2.op==(34:Int))||(p2.op==(35:Int))))))],[(4,.st false (eD (eSt8 j6))),(6,.st false [.d .nils,.d (.int .i64 0),.d (.bool false),.d (.bool false),.d (.int .i64 0),.d (.bool false)])]⟩ ?qh10 ?h10)
      case h10 => 
       rcases bT (p2.op==(32:Int)) with hc1 | hc1
       ·exact YW.fin [(83,true),(88,true)] [] [4,6,8,92] [(92,.d (.bool ((p2.op==(32:Int))||((p2.op==(34:Int))||(p2.op==(35:Int))))))] [.k 4,.k 6] _ (a_ (a_ hc1 (a_ hc1 (a_ hc1 (a_ hc1 (a_ (Eq.refl true) (a_ (Eq.refl true) (a_ (Eq.refl true) (a_ (Eq.refl true) t_)))))))) (a_ (ovB (orT (b:=((p2.op==(34:Int))||(p2.op==(35:Int)))) hc1)) t_)) (by kernel_rfl) rfl
       ·rcases bT (p2.op==(34:Int)) with hc2 | hc2
        ·exact YW.fin [(83,false),(88,true)] [] [4,6,8,92] [(92,.d (.bool ((p2.op==(32:Int))||((p2.op==(34:Int))||(p2.op==(35:Int))))))] [.k 4,.k 6] _ (a_ (a_ hc1 (a_ hc1 (a_ hc1 (a_ hc1 (a_ hc2 (a_ hc2 (a_ hc2 (a_ hc2 t_)))))))) (a_ (ovB (Eq.trans (orF (b:=((p2.op==(34:Int))||(p2.op==(35:Int)))) hc1) (orT (b:=(p2.op==(35:Int))) hc2))) t_)) (by kernel_rfl) rfl
        ·exact YW.fin [(83,false),(88,false)] [] [4,6,8,92] [(92,.d (.bool ((p2.op==(32:Int))||((p2.op==(34:Int))||(p2.op==(35:Int))))))] [.k 4,.k 6] _ (a_ (a_ hc1 (a_ hc1 (a_ hc1 (a_ hc1 (a_ hc2 (a_ hc2 (a_ hc2 (a_ hc2 t_)))))))) (a_ (ovB (Eq.trans (orF (b:=((p2.op==(34:Int))||(p2.op==(35:Int)))) hc1) (Eq.trans (orF (b:=(p2.op==(35:Int))) hc2) (Eq.refl (p2.op==(35:Int)))))) t_)) (by kernel_rfl) rfl
      refine AW2.cond (b:=((p2.op==(32:Int))||((p2.op==(34:Int))||(p2.op==(35:Int))))) rfl (fun hc => ?_) (fun hc => ?_)
      ·replace H:=zaj H hc
       obtain ⟨x8,hx9,H⟩:=bind_some H
       refine r_ [.r (.agg (eSt8 x8))] [4,6] [] [.k 4,.k 6] ⟨[(4,.p 4 0),(6,.p 6 0)],[(4,.st false (eD (eSt8 x8))),(6,.st false [.d .nils,.d (.int .i64 0),.d (.bool false),.d (.bool false),.d (.int .i64 0),.d (.bool false)])]⟩ (a_ (a_ (zes j6 j4 x8 hx9) t_) t_) ?_
       have H:=Option.some.inj H
       subst H
       exact zay [4,6] [] [.k 4,.k 6] t_ (by kernel_rfl)
      ·replace H:=zak H hc
       refine AW2.skip ?_
       have H:=Option.some.inj H
       subst H
       exact zay [4,6] [] [.k 4,.k 6] t_ (by kernel_rfl)
    ·have H:=H17
     refine AW2.seq ?_
     refine AW2.reg [] rfl (YW.to ⟨[(4,.p 4 0),(5,.p 5 0),(6,.p 6 0),(8,.d (.int .u8 j4)),(73,.d (.bool ((p2.op==(33:Int))||((p2.op==(34:Int))||(p2.op==(36:Int))))))],[(4,.st false [.d (sV (eI .u8) p1.l),.d (.int .i64 p1.under),.d (.bool p1.away),.d (.bool p1.dead),.d (.int .i64 p1.most),.d (.bool j5)]),(5,.st false (eD (eInstr p2))),(6,.st false [.d .nils,.d (.int .i64 0),.d (.bool false),.d (.bool false),.d (.int .i64 0),.d (.bool false)])]⟩ ?qh15 ?h15)
     case h15 => 
      rcases bT (p2.op==(33:Int)) with hc1 | hc1
      ·exact YW.fin [(64,true),(69,true)] [] [4,5,6,8,73] [(73,.d (.bool ((p2.op==(33:Int))||((p2.op==(34:Int))||(p2.op==(36:Int))))))] [.k 4,.k 5,.k 6] _ (a_ (a_ hc1 (a_ hc1 (a_ hc1 (a_ hc1 (a_ (Eq.refl true) (a_ (Eq.refl true) (a_ (Eq.refl true) (a_ (Eq.refl true) t_)))))))) (a_ (ovB (orT (b:=((p2.op==(34:Int))||(p2.op==(36:Int)))) hc1)) t_)) (by kernel_rfl) rfl
      ·rcases bT (p2.op==(34:Int)) with hc2 | hc2
       ·exact YW.fin [(64,false),(69,true)] [] [4,5,6,8,73] [(73,.d (.bool ((p2.op==(33:Int))||((p2.op==(34:Int))||(p2.op==(36:Int))))))] [.k 4,.k 5,.k 6] _ (a_ (a_ hc1 (a_ hc1 (a_ hc1 (a_ hc1 (a_ hc2 (a_ hc2 (a_ hc2 (a_ hc2 t_)))))))) (a_ (ovB (Eq.trans (orF (b:=((p2.op==(34:Int))||(p2.op==(36:Int)))) hc1) (orT (b:=(p2.op==(36:Int))) hc2))) t_)) (by kernel_rfl) rfl
       ·exact YW.fin [(64,false),(69,false)] [] [4,5,6,8,73] [(73,.d (.bool ((p2.op==(33:Int))||((p2.op==(34:Int))||(p2.op==(36:Int))))))] [.k 4,.k 5,.k 6] _ (a_ (a_ hc1 (a_ hc1 (a_ hc1 (a_ hc1 (a_ hc2 (a_ hc2 (a_ hc2 (a_ hc2 t_)))))))) (a_ (ovB (Eq.trans (orF (b:=((p2.op==(34:Int))||(p2.op==(36:Int)))) hc1) (Eq.trans (orF (b:=(p2.op==(36:Int))) hc2) (Eq.refl (p2.op==(36:Int)))))) t_)) (by kernel_rfl) rfl
     refine AW2.cond (b:=((p2.op==(33:Int))||((p2.op==(34:Int))||(p2.op==(36:Int))))) rfl (fun hc => ?_) (fun hc => ?_)
     ·replace H:=zaj H hc
      obtain ⟨x13,hx14,H⟩:=bind_some H
      refine r_ [.r (.tup [.agg (eSt8 x13.1),.int .u8 x13.2])] [4,5,6,8] [] [.k 4,.k 5,.k 6] ⟨[(4,.p 4 0),(5,.p 5 0),(6,.p 6 0),(8,.d (.int .u8 j4))],[(4,.st false (eD (eSt8 x13.1))),(5,.st false (eD (eInstr p2))),(6,.st false [.d .nils,.d (.int .i64 0),.d (.bool false),.d (.bool false),.d (.int .i64 0),.d (.bool false)])]⟩ (a_ (a_ (zaS (St8.mk p1.l p1.under p1.away p1.dead p1.most j5) j4 x13 hx14) t_) t_) ?_
      have H:=Option.some.inj H
      subst H
      exact zay [4,5,6,8] [] [.k 4,.k 5,.k 6] t_ (by kernel_rfl)
     ·replace H:=zak H hc
      refine AW2.skip ?_
      have H:=Option.some.inj H
      subst H
      exact zay [4,5,6,8] [] [.k 4,.k 5,.k 6] t_ (by kernel_rfl)
   ·have H:=H26
    refine AW2.seq ?_
    refine r_ [] [3,4,5,6,28] [] [.k 3,.k 4,.k 5,.k 6] ⟨[(3,.p 3 0),(4,.p 4 0),(5,.p 5 0),(6,.p 6 0),(28,.d (.bool (decide (p2.op≥(35:Int)))))],[(3,.st false (eD (eEnv8 p0))),(4,.st false (eD (eSt8 p1))),(5,.st false (eD (eInstr p2))),(6,.st false [.d .nils,.d (.int .i64 0),.d (.bool false),.d (.bool false),.d (.int .i64 0),.d (.bool false)])]⟩ (a_ t_ t_) ?_
    refine AW2.cond (b:=(decide (p2.op≥(35:Int)))) rfl (fun hc => ?_) (fun hc => ?_)
    ·replace H:=zaj H hc
     refine AW2.seq ?_
     obtain ⟨h18,H⟩:=zad H
     refine r_ [] [3,4,5,6,8] [] [.k 3,.k 4,.k 5,.k 6] ⟨[(3,.p 3 0),(4,.p 4 0),(5,.p 5 0),(6,.p 6 0),(8,.d (.int .u8 ((p0.m.globals.getD p2.n.toNat default).kind)))],[(3,.st false (eD (eEnv8 p0))),(4,.st false (eD (eSt8 p1))),(5,.st false (eD (eInstr p2))),(6,.st false [.d .nils,.d (.int .i64 0),.d (.bool false),.d (.bool false),.d (.int .i64 0),.d (.bool false)])]⟩ (a_ (a_ h18 t_) t_) ?_
     obtain ⟨j20,H22,H⟩:=bind_some H
     refine AW2.reg [] rfl (YW.to ⟨[(4,.p 4 0),(5,.p 5 0),(6,.p 6 0),(8,.d (.int .u8 ((p0.m.globals.getD p2.n.toNat default).kind)))],[(4,.st false [.d (sV (eI .u8) p1.l),.d (.int .i64 p1.under),.d (.bool p1.away),.d (.bool p1.dead),.d (.int .i64 p1.most),.d (.bool j20)]),(5,.st false (eD (eInstr p2))),(6,.st false [.d .nils,.d (.int .i64 0),.d (.bool false),.d (.bool false),.d (.int .i64 0),.d (.bool false)])]⟩ ?qh23 ?h23)
     case h23 => 
      have H:=H22
      rcases bT p1.ok with hc1 | hc1
      ·replace H:=zaj H hc1
       rcases bT (p2.op==(35:Int)) with hc2 | hc2
       ·replace H:=zaj H hc2
        have H:=Option.some.inj H
        subst H
        exact YW.fin [(39,true),(43,true)] [] [4,5,6,8] [] [.k 4,.k 5,.k 6] _ (a_ (a_ hc1 (a_ hc1 (a_ hc1 (a_ hc1 (a_ hc2 (a_ hc2 (a_ hc2 (a_ hc2 (a_ hc2 (a_ hc2 (a_ hc2 (a_ hc2 (a_ hc1 (a_ hc2 (a_ hc1 t_))))))))))))))) t_) (by kernel_rfl) rfl
       ·replace H:=zak H hc2
        obtain ⟨h19,H⟩:=zad H
        have H:=Option.some.inj H
        subst H
        exact YW.fin [(39,true),(43,false)] [] [4,5,6,8] [] [.k 4,.k 5,.k 6] _ (a_ (a_ hc1 (a_ hc1 (a_ hc1 (a_ hc1 (a_ hc2 (a_ hc2 (a_ hc2 (a_ hc2 (a_ hc2 (a_ hc2 (a_ h19 (a_ hc2 (a_ hc2 (a_ hc1 (a_ hc2 (a_ hc1 t_)))))))))))))))) t_) (by kernel_rfl) rfl
      ·replace H:=zak H hc1
       have H:=Option.some.inj H
       subst H
       exact YW.fin [(39,false)] [] [4,5,6,8] [] [.k 4,.k 5,.k 6] _ (a_ (a_ hc1 (a_ hc1 (a_ hc1 (a_ hc1 (a_ hc1 (a_ hc1 t_)))))) t_) (by kernel_rfl) rfl
     have H:=Option.some.inj H
     simp only [Prod.mk.injEq] at H
     obtain ⟨e0,e1⟩:=H
     subst e0
     subst e1
     exact zay [4,5,6,8] [] [.k 4,.k 5,.k 6] t_ (by kernel_rfl)
    ·replace H:=zak H hc
     obtain ⟨h24,H⟩:=zad H
     refine r_ [] [4,5,6,8] [] [.k 4,.k 5,.k 6] ⟨[(4,.p 4 0),(5,.p 5 0),(6,.p 6 0),(8,.d (.int .u8 (p0.locals.getD p2.n.toNat default)))],[(4,.st false (eD (eSt8 p1))),(5,.st false (eD (eInstr p2))),(6,.st false [.d .nils,.d (.int .i64 0),.d (.bool false),.d (.bool false),.d (.int .i64 0),.d (.bool false)])]⟩ (a_ (a_ h24 t_) t_) ?_
     have H:=Option.some.inj H
     simp only [Prod.mk.injEq] at H
     obtain ⟨e0,e1⟩:=H
     subst e0
     subst e1
     exact zay [4,5,6,8] [] [.k 4,.k 5,.k 6] t_ (by kernel_rfl)
 ·have H:=H28
  refine AW2.seq ?_
  refine r_ [] [3,4,5,6,7,14] [] [.k 3,.k 4,.k 5,.k 6] ⟨[(3,.p 3 0),(4,.p 4 0),(5,.p 5 0),(6,.p 6 0),(7,.d (.int .i64 (p0.locals.length:Int))),(14,.d (.bool (decide (p2.op≥(35:Int)))))],[(3,.st false (eD (eEnv8 p0))),(4,.st false (eD (eSt8 p1))),(5,.st false (eD (eInstr p2))),(6,.st false [.d .nils,.d (.int .i64 0),.d (.bool false),.d (.bool false),.d (.int .i64 0),.d (.bool false)])]⟩ (a_ t_ t_) ?_
  refine AW2.cond (b:=(decide (p2.op≥(35:Int)))) rfl (fun hc => ?_) (fun hc => ?_)
  ·replace H:=zaj H hc
   refine r_ [] [3,4,5,6,7] [] [.k 3,.k 4,.k 5,.k 6] ⟨[(3,.p 3 0),(4,.p 4 0),(5,.p 5 0),(6,.p 6 0),(7,.d (.int .i64 (p0.m.globals.length:Int)))],[(3,.st false (eD (eEnv8 p0))),(4,.st false (eD (eSt8 p1))),(5,.st false (eD (eInstr p2))),(6,.st false [.d .nils,.d (.int .i64 0),.d (.bool false),.d (.bool false),.d (.int .i64 0),.d (.bool false)])]⟩ (a_ t_ t_) ?_
   have H:=Option.some.inj H
   subst H
   exact zay [3,4,5,6,7] [] [.k 3,.k 4,.k 5,.k 6] t_ (by kernel_rfl)
  ·replace H:=zak H hc
   refine AW2.skip ?_
   have H:=Option.some.inj H
   subst H
   exact zay [3,4,5,6,7] [] [.k 3,.k 4,.k 5,.k 6] t_ (by kernel_rfl)
def zaM:Nat→Instr→Int→Int→Option (Int)
 | 0,_,_,_ => none
 | k+1,p2,a17,a18 => (if ((decide (a18<p2.align))&&(decide (a17≤(8:Int))))=true then zaM k p2 (wI (2 * a17)) (IntKind.wrap .u32 (a18+1)) else some a17)
def zci (K:Nat) (p0:Env8) (p1:St8) (p2:Instr):Option (St8):=((zfW p2.op).bind fun x1 => ((zfX p2.op).bind fun x3 => ((zeD p2.op).bind fun x5 => (if ((!x1.2.2)||(bif (x3.1==(4:Int)) then (((p0.m.memories.length:Int)==(0:Int))||((x3.1==(1:Int))&&((decide (p2.n<((-2147483648):Int)))||(decide (p2.n≥(2147483648:Int)))))) else (bif (x3.1==(5:Int)) then (((p0.m.memories.length:Int)==(0:Int))||((x3.1==(1:Int))&&((decide (p2.n<((-2147483648):Int)))||(decide (p2.n≥(2147483648:Int)))))) else ((x3.1==(1:Int))&&((decide (p2.n<((-2147483648):Int)))||(decide (p2.n≥(2147483648:Int))))))))=true then some (St8.mk p1.l p1.under p1.away p1.dead p1.most false) else (if x5.2.2=true then (zaM K p2 1 0).bind (fun j10 => (if p1.ok=true then some (decide (j10≤x5.1)) else some false).bind (fun j11 => some j11)) else some p1.ok).bind (fun j7 => ((zbG K (St8.mk p1.l p1.under p1.away p1.dead p1.most j7) (Typ.mk x1.1 x1.2.1)).bind fun x8 => some x8))))))
theorem zwY (K:Nat) (p0:Env8) (p1:St8) (p2:Instr) (r:St8) (H:zci K p0 p1 p2=some r):CF E 48 [.agg (eEnv8 p0),.agg (eSt8 p1),.agg (eInstr p2)] (.agg (eSt8 r)):=by
 refine zcG (A:=zmg) zvl rfl fun fr => ?_
 unfold zci at H
 refine AW2.seq ?_
 refine r_ [.k 3,.k 4,.k 5,.k 6] [3,4,5,6] [] [.k 3,.k 4,.k 5,.k 6] ⟨[(3,.p 3 0),(4,.p 4 0),(5,.p 5 0),(6,.p 6 0)],[(3,.st false (eD (eEnv8 p0))),(4,.st false (eD (eSt8 p1))),(5,.st false (eD (eInstr p2))),(6,.st false [.d .nils,.d (.int .i64 0),.d (.bool false),.d (.bool false),.d (.int .i64 0),.d (.bool false)])]⟩ (a_ t_ t_) ?_
 refine AW2.seq ?_
 obtain ⟨x1,hx2,H⟩:=bind_some H
 refine r_ [.r (.tup [sV (eI .u8) x1.1,.int .u8 x1.2.1,.bool x1.2.2])] [3,4,5,6,7,8,9] [] [.k 3,.k 4,.k 5,.k 6] ⟨[(3,.p 3 0),(4,.p 4 0),(5,.p 5 0),(6,.p 6 0),(7,.d (sV (eI .u8) x1.1)),(8,.d (.int .u8 x1.2.1)),(9,.d (.bool x1.2.2))],[(3,.st false (eD (eEnv8 p0))),(4,.st false (eD (eSt8 p1))),(5,.st false (eD (eInstr p2))),(6,.st false [.d .nils,.d (.int .i64 0),.d (.bool false),.d (.bool false),.d (.int .i64 0),.d (.bool false)])]⟩ (a_ (a_ (zyc p2.op x1 hx2) t_) t_) ?_
 refine AW2.seq ?_
 obtain ⟨x3,hx4,H⟩:=bind_some H
 refine r_ [.r (.tup [.int .i64 x3.1,.bool x3.2])] [3,4,5,6,7,8,9,10] [] [.k 3,.k 4,.k 5,.k 6] ⟨[(3,.p 3 0),(4,.p 4 0),(5,.p 5 0),(6,.p 6 0),(7,.d (sV (eI .u8) x1.1)),(8,.d (.int .u8 x1.2.1)),(9,.d (.bool x1.2.2)),(10,.d (.int .i64 x3.1))],[(3,.st false (eD (eEnv8 p0))),(4,.st false (eD (eSt8 p1))),(5,.st false (eD (eInstr p2))),(6,.st false [.d .nils,.d (.int .i64 0),.d (.bool false),.d (.bool false),.d (.int .i64 0),.d (.bool false)])]⟩ (a_ (a_ (zyd p2.op x3 hx4) t_) t_) ?_
 refine AW2.seq ?_
 obtain ⟨x5,hx6,H⟩:=bind_some H
 refine r_ [.r (.tup [.int .i64 x5.1,.bool x5.2.1,.bool x5.2.2])] [3,4,5,6,7,8,9,10,12,14] [] [.k 3,.k 4,.k 5,.k 6] ⟨[(3,.p 3 0),(4,.p 4 0),(5,.p 5 0),(6,.p 6 0),(7,.d (sV (eI .u8) x1.1)),(8,.d (.int .u8 x1.2.1)),(9,.d (.bool x1.2.2)),(10,.d (.int .i64 x3.1)),(12,.d (.int .i64 x5.1)),(14,.d (.bool x5.2.2))],[(3,.st false (eD (eEnv8 p0))),(4,.st false (eD (eSt8 p1))),(5,.st false (eD (eInstr p2))),(6,.st false [.d .nils,.d (.int .i64 0),.d (.bool false),.d (.bool false),.d (.int .i64 0),.d (.bool false)])]⟩ (a_ (a_ (zxb p2.op x5 hx6) t_) t_) ?_
 refine AW2.seq ?_
 refine AW2.seq ?_
 refine AW2.reg [] rfl (YW.to ⟨[(4,.p 4 0),(5,.p 5 0),(6,.p 6 0),(7,.d (sV (eI .u8) x1.1)),(8,.d (.int .u8 x1.2.1)),(12,.d (.int .i64 x5.1)),(14,.d (.bool x5.2.2)),(67,.d (.bool ((!x1.2.2)||(bif (x3.1==(4:Int)) then (((p0.m.memories.length:Int)==(0:Int))||((x3.1==(1:Int))&&((decide (p2.n<((-2147483648):Int)))||(decide (p2.n≥(2147483648:Int)))))) else (bif (x3.1==(5:Int)) then (((p0.m.memories.length:Int)==(0:Int))||((x3.1==(1:Int))&&((decide (p2.n<((-2147483648):Int)))||(decide (p2.n≥(2147483648:Int)))))) else ((x3.1==(1:Int))&&((decide (p2.n<((-2147483648):Int)))||(decide (p2.n≥(2147483648:Int))))))))))],[(4,.st false (eD (eSt8 p1))),(5,.st false (eD (eInstr p2))),(6,.st false [.d .nils,.d (.int .i64 0),.d (.bool false),.d (.bool false),.d (.int .i64 0),.d (.bool false)])]⟩ ?qh24 ?h24)
 case h24 => 
  rcases bT (!x1.2.2) with hc1 | hc1
  ·exact YW.fin [(39,true),(54,true)] [] [4,5,6,7,8,12,14,67] [(67,.d (.bool ((!x1.2.2)||(bif (x3.1==(4:Int)) then (((p0.m.memories.length:Int)==(0:Int))||((x3.1==(1:Int))&&((decide (p2.n<((-2147483648):Int)))||(decide (p2.n≥(2147483648:Int)))))) else (bif (x3.1==(5:Int)) then (((p0.m.memories.length:Int)==(0:Int))||((x3.1==(1:Int))&&((decide (p2.n<((-2147483648):Int)))||(decide (p2.n≥(2147483648:Int)))))) else ((x3.1==(1:Int))&&((decide (p2.n<((-2147483648):Int)))||(decide (p2.n≥(2147483648:Int))))))))))] [.k 4,.k 5,.k 6] _ (a_ (a_ hc1 (a_ hc1 (a_ hc1 (a_ hc1 (a_ hc1 (a_ hc1 (a_ hc1 (a_ (Eq.refl true) (a_ (Eq.refl true) (a_ (Eq.refl true) (a_ (Eq.refl true) (a_ (Eq.refl true) t_)))))))))))) (a_ (ovB (orT (b:=(bif (x3.1==(4:Int)) then (((p0.m.memories.length:Int)==(0:Int))||((x3.1==(1:Int))&&((decide (p2.n<((-2147483648):Int)))||(decide (p2.n≥(2147483648:Int)))))) else (bif (x3.1==(5:Int)) then (((p0.m.memories.length:Int)==(0:Int))||((x3.1==(1:Int))&&((decide (p2.n<((-2147483648):Int)))||(decide (p2.n≥(2147483648:Int)))))) else ((x3.1==(1:Int))&&((decide (p2.n<((-2147483648):Int)))||(decide (p2.n≥(2147483648:Int)))))))) hc1)) t_)) (by kernel_rfl) rfl
  ·rcases bT (x3.1==(4:Int)) with hc2 | hc2
   ·rcases bT ((p0.m.memories.length:Int)==(0:Int)) with hc3 | hc3
    ·exact YW.fin [(39,false),(42,true),(54,true),(46,true)] [] [4,5,6,7,8,12,14,67] [(67,.d (.bool ((!x1.2.2)||(bif (x3.1==(4:Int)) then (((p0.m.memories.length:Int)==(0:Int))||((x3.1==(1:Int))&&((decide (p2.n<((-2147483648):Int)))||(decide (p2.n≥(2147483648:Int)))))) else (bif (x3.1==(5:Int)) then (((p0.m.memories.length:Int)==(0:Int))||((x3.1==(1:Int))&&((decide (p2.n<((-2147483648):Int)))||(decide (p2.n≥(2147483648:Int)))))) else ((x3.1==(1:Int))&&((decide (p2.n<((-2147483648):Int)))||(decide (p2.n≥(2147483648:Int))))))))))] [.k 4,.k 5,.k 6] _ (a_ (a_ hc1 (a_ hc1 (a_ hc1 (a_ hc2 (a_ hc2 (a_ hc1 (a_ hc2 (a_ hc1 (a_ (Eq.refl true) (a_ (Eq.refl true) (a_ (Eq.refl true) (a_ (Eq.refl true) (a_ (Eq.refl true) (a_ hc1 (a_ (Eq.refl true) (a_ hc1 (a_ hc3 (a_ hc3 (a_ hc3 (a_ hc3 (a_ hc3 t_))))))))))))))))))))) (a_ (ovB (Eq.trans (orF (b:=(bif (x3.1==(4:Int)) then (((p0.m.memories.length:Int)==(0:Int))||((x3.1==(1:Int))&&((decide (p2.n<((-2147483648):Int)))||(decide (p2.n≥(2147483648:Int)))))) else (bif (x3.1==(5:Int)) then (((p0.m.memories.length:Int)==(0:Int))||((x3.1==(1:Int))&&((decide (p2.n<((-2147483648):Int)))||(decide (p2.n≥(2147483648:Int)))))) else ((x3.1==(1:Int))&&((decide (p2.n<((-2147483648):Int)))||(decide (p2.n≥(2147483648:Int)))))))) hc1) (Eq.trans (bifT (a:=(((p0.m.memories.length:Int)==(0:Int))||((x3.1==(1:Int))&&((decide (p2.n<((-2147483648):Int)))||(decide (p2.n≥(2147483648:Int))))))) (b:=(bif (x3.1==(5:Int)) then (((p0.m.memories.length:Int)==(0:Int))||((x3.1==(1:Int))&&((decide (p2.n<((-2147483648):Int)))||(decide (p2.n≥(2147483648:Int)))))) else ((x3.1==(1:Int))&&((decide (p2.n<((-2147483648):Int)))||(decide (p2.n≥(2147483648:Int))))))) hc2) (orT (b:=((x3.1==(1:Int))&&((decide (p2.n<((-2147483648):Int)))||(decide (p2.n≥(2147483648:Int)))))) hc3)))) t_)) (by kernel_rfl) rfl
    ·rcases bT (x3.1==(1:Int)) with hc4 | hc4
     ·rcases bT (decide (p2.n<((-2147483648):Int))) with hc5 | hc5
      ·exact YW.fin [(39,false),(42,true),(54,false),(57,true),(61,true),(46,true)] [] [4,5,6,7,8,12,14,67] [(67,.d (.bool ((!x1.2.2)||(bif (x3.1==(4:Int)) then (((p0.m.memories.length:Int)==(0:Int))||((x3.1==(1:Int))&&((decide (p2.n<((-2147483648):Int)))||(decide (p2.n≥(2147483648:Int)))))) else (bif (x3.1==(5:Int)) then (((p0.m.memories.length:Int)==(0:Int))||((x3.1==(1:Int))&&((decide (p2.n<((-2147483648):Int)))||(decide (p2.n≥(2147483648:Int)))))) else ((x3.1==(1:Int))&&((decide (p2.n<((-2147483648):Int)))||(decide (p2.n≥(2147483648:Int))))))))))] [.k 4,.k 5,.k 6] _ (a_ (a_ hc1 (a_ hc1 (a_ hc1 (a_ hc2 (a_ hc2 (a_ hc1 (a_ hc2 (a_ hc1 (a_ (Eq.refl true) (a_ (Eq.refl true) (a_ (Eq.refl true) (a_ (Eq.refl true) (a_ (Eq.refl true) (a_ hc1 (a_ (Eq.refl true) (a_ hc1 (a_ hc3 (a_ hc3 (a_ hc3 (a_ hc4 (a_ hc4 (a_ hc4 (a_ hc4 (a_ hc5 (a_ hc5 (a_ hc5 (a_ hc4 (a_ hc5 (a_ hc3 (a_ hc4 (a_ hc3 t_))))))))))))))))))))))))))))))) (a_ (ovB (Eq.trans (orF (b:=(bif (x3.1==(4:Int)) then (((p0.m.memories.length:Int)==(0:Int))||((x3.1==(1:Int))&&((decide (p2.n<((-2147483648):Int)))||(decide (p2.n≥(2147483648:Int)))))) else (bif (x3.1==(5:Int)) then (((p0.m.memories.length:Int)==(0:Int))||((x3.1==(1:Int))&&((decide (p2.n<((-2147483648):Int)))||(decide (p2.n≥(2147483648:Int)))))) else ((x3.1==(1:Int))&&((decide (p2.n<((-2147483648):Int)))||(decide (p2.n≥(2147483648:Int)))))))) hc1) (Eq.trans (bifT (a:=(((p0.m.memories.length:Int)==(0:Int))||((x3.1==(1:Int))&&((decide (p2.n<((-2147483648):Int)))||(decide (p2.n≥(2147483648:Int))))))) (b:=(bif (x3.1==(5:Int)) then (((p0.m.memories.length:Int)==(0:Int))||((x3.1==(1:Int))&&((decide (p2.n<((-2147483648):Int)))||(decide (p2.n≥(2147483648:Int)))))) else ((x3.1==(1:Int))&&((decide (p2.n<((-2147483648):Int)))||(decide (p2.n≥(2147483648:Int))))))) hc2) (Eq.trans (orF (b:=((x3.1==(1:Int))&&((decide (p2.n<((-2147483648):Int)))||(decide (p2.n≥(2147483648:Int)))))) hc3) (Eq.trans (andT (b:=((decide (p2.n<((-2147483648):Int)))||(decide (p2.n≥(2147483648:Int))))) hc4) (orT (b:=(decide (p2.n≥(2147483648:Int)))) hc5)))))) t_)) (by kernel_rfl) rfl
      ·exact YW.fin [(39,false),(42,true),(54,false),(57,true),(61,false),(46,true)] [] [4,5,6,7,8,12,14,67] [(67,.d (.bool ((!x1.2.2)||(bif (x3.1==(4:Int)) then (((p0.m.memories.length:Int)==(0:Int))||((x3.1==(1:Int))&&((decide (p2.n<((-2147483648):Int)))||(decide (p2.n≥(2147483648:Int)))))) else (bif (x3.1==(5:Int)) then (((p0.m.memories.length:Int)==(0:Int))||((x3.1==(1:Int))&&((decide (p2.n<((-2147483648):Int)))||(decide (p2.n≥(2147483648:Int)))))) else ((x3.1==(1:Int))&&((decide (p2.n<((-2147483648):Int)))||(decide (p2.n≥(2147483648:Int))))))))))] [.k 4,.k 5,.k 6] _ (a_ (a_ hc1 (a_ hc1 (a_ hc1 (a_ hc2 (a_ hc2 (a_ hc1 (a_ hc2 (a_ hc1 (a_ (Eq.refl true) (a_ (Eq.refl true) (a_ (Eq.refl true) (a_ (Eq.refl true) (a_ (Eq.refl true) (a_ hc1 (a_ (Eq.refl true) (a_ hc1 (a_ hc3 (a_ hc3 (a_ hc3 (a_ hc4 (a_ hc4 (a_ hc4 (a_ hc4 (a_ hc5 (a_ hc5 (a_ hc5 (a_ hc4 (a_ hc5 (a_ hc3 (a_ hc4 (a_ hc3 t_))))))))))))))))))))))))))))))) (a_ (ovB (Eq.trans (orF (b:=(bif (x3.1==(4:Int)) then (((p0.m.memories.length:Int)==(0:Int))||((x3.1==(1:Int))&&((decide (p2.n<((-2147483648):Int)))||(decide (p2.n≥(2147483648:Int)))))) else (bif (x3.1==(5:Int)) then (((p0.m.memories.length:Int)==(0:Int))||((x3.1==(1:Int))&&((decide (p2.n<((-2147483648):Int)))||(decide (p2.n≥(2147483648:Int)))))) else ((x3.1==(1:Int))&&((decide (p2.n<((-2147483648):Int)))||(decide (p2.n≥(2147483648:Int)))))))) hc1) (Eq.trans (bifT (a:=(((p0.m.memories.length:Int)==(0:Int))||((x3.1==(1:Int))&&((decide (p2.n<((-2147483648):Int)))||(decide (p2.n≥(2147483648:Int))))))) (b:=(bif (x3.1==(5:Int)) then (((p0.m.memories.length:Int)==(0:Int))||((x3.1==(1:Int))&&((decide (p2.n<((-2147483648):Int)))||(decide (p2.n≥(2147483648:Int)))))) else ((x3.1==(1:Int))&&((decide (p2.n<((-2147483648):Int)))||(decide (p2.n≥(2147483648:Int))))))) hc2) (Eq.trans (orF (b:=((x3.1==(1:Int))&&((decide (p2.n<((-2147483648):Int)))||(decide (p2.n≥(2147483648:Int)))))) hc3) (Eq.trans (andT (b:=((decide (p2.n<((-2147483648):Int)))||(decide (p2.n≥(2147483648:Int))))) hc4) (Eq.trans (orF (b:=(decide (p2.n≥(2147483648:Int)))) hc5) (Eq.refl (decide (p2.n≥(2147483648:Int)))))))))) t_)) (by kernel_rfl) rfl
     ·exact YW.fin [(39,false),(42,true),(54,false),(57,false),(46,true)] [] [4,5,6,7,8,12,14,67] [(67,.d (.bool ((!x1.2.2)||(bif (x3.1==(4:Int)) then (((p0.m.memories.length:Int)==(0:Int))||((x3.1==(1:Int))&&((decide (p2.n<((-2147483648):Int)))||(decide (p2.n≥(2147483648:Int)))))) else (bif (x3.1==(5:Int)) then (((p0.m.memories.length:Int)==(0:Int))||((x3.1==(1:Int))&&((decide (p2.n<((-2147483648):Int)))||(decide (p2.n≥(2147483648:Int)))))) else ((x3.1==(1:Int))&&((decide (p2.n<((-2147483648):Int)))||(decide (p2.n≥(2147483648:Int))))))))))] [.k 4,.k 5,.k 6] _ (a_ (a_ hc1 (a_ hc1 (a_ hc1 (a_ hc2 (a_ hc2 (a_ hc1 (a_ hc2 (a_ hc1 (a_ (Eq.refl true) (a_ (Eq.refl true) (a_ (Eq.refl true) (a_ (Eq.refl true) (a_ (Eq.refl true) (a_ hc1 (a_ (Eq.refl true) (a_ hc1 (a_ hc3 (a_ hc3 (a_ hc3 (a_ hc4 (a_ hc4 (a_ hc4 (a_ hc4 (a_ hc4 (a_ hc3 (a_ hc4 (a_ hc3 t_))))))))))))))))))))))))))) (a_ (ovB (Eq.trans (orF (b:=(bif (x3.1==(4:Int)) then (((p0.m.memories.length:Int)==(0:Int))||((x3.1==(1:Int))&&((decide (p2.n<((-2147483648):Int)))||(decide (p2.n≥(2147483648:Int)))))) else (bif (x3.1==(5:Int)) then (((p0.m.memories.length:Int)==(0:Int))||((x3.1==(1:Int))&&((decide (p2.n<((-2147483648):Int)))||(decide (p2.n≥(2147483648:Int)))))) else ((x3.1==(1:Int))&&((decide (p2.n<((-2147483648):Int)))||(decide (p2.n≥(2147483648:Int)))))))) hc1) (Eq.trans (bifT (a:=(((p0.m.memories.length:Int)==(0:Int))||((x3.1==(1:Int))&&((decide (p2.n<((-2147483648):Int)))||(decide (p2.n≥(2147483648:Int))))))) (b:=(bif (x3.1==(5:Int)) then (((p0.m.memories.length:Int)==(0:Int))||((x3.1==(1:Int))&&((decide (p2.n<((-2147483648):Int)))||(decide (p2.n≥(2147483648:Int)))))) else ((x3.1==(1:Int))&&((decide (p2.n<((-2147483648):Int)))||(decide (p2.n≥(2147483648:Int))))))) hc2) (Eq.trans (orF (b:=((x3.1==(1:Int))&&((decide (p2.n<((-2147483648):Int)))||(decide (p2.n≥(2147483648:Int)))))) hc3) (andF (b:=((decide (p2.n<((-2147483648):Int)))||(decide (p2.n≥(2147483648:Int))))) hc4))))) t_)) (by kernel_rfl) rfl
   ·rcases bT (x3.1==(5:Int)) with hc3 | hc3
    ·rcases bT ((p0.m.memories.length:Int)==(0:Int)) with hc4 | hc4
     ·exact YW.fin [(39,false),(42,false),(46,true),(54,true)] [] [4,5,6,7,8,12,14,67] [(67,.d (.bool ((!x1.2.2)||(bif (x3.1==(4:Int)) then (((p0.m.memories.length:Int)==(0:Int))||((x3.1==(1:Int))&&((decide (p2.n<((-2147483648):Int)))||(decide (p2.n≥(2147483648:Int)))))) else (bif (x3.1==(5:Int)) then (((p0.m.memories.length:Int)==(0:Int))||((x3.1==(1:Int))&&((decide (p2.n<((-2147483648):Int)))||(decide (p2.n≥(2147483648:Int)))))) else ((x3.1==(1:Int))&&((decide (p2.n<((-2147483648):Int)))||(decide (p2.n≥(2147483648:Int))))))))))] [.k 4,.k 5,.k 6] _ (a_ (a_ hc1 (a_ hc1 (a_ hc1 (a_ hc2 (a_ hc2 (a_ hc1 (a_ hc2 (a_ hc1 (a_ hc3 (a_ hc3 (a_ hc3 (a_ hc3 (a_ hc3 (a_ hc1 (a_ hc3 (a_ hc1 (a_ hc4 (a_ hc4 (a_ hc4 (a_ hc4 (a_ hc4 t_))))))))))))))))))))) (a_ (ovB (Eq.trans (orF (b:=(bif (x3.1==(4:Int)) then (((p0.m.memories.length:Int)==(0:Int))||((x3.1==(1:Int))&&((decide (p2.n<((-2147483648):Int)))||(decide (p2.n≥(2147483648:Int)))))) else (bif (x3.1==(5:Int)) then (((p0.m.memories.length:Int)==(0:Int))||((x3.1==(1:Int))&&((decide (p2.n<((-2147483648):Int)))||(decide (p2.n≥(2147483648:Int)))))) else ((x3.1==(1:Int))&&((decide (p2.n<((-2147483648):Int)))||(decide (p2.n≥(2147483648:Int)))))))) hc1) (Eq.trans (bifF (a:=(((p0.m.memories.length:Int)==(0:Int))||((x3.1==(1:Int))&&((decide (p2.n<((-2147483648):Int)))||(decide (p2.n≥(2147483648:Int))))))) (b:=(bif (x3.1==(5:Int)) then (((p0.m.memories.length:Int)==(0:Int))||((x3.1==(1:Int))&&((decide (p2.n<((-2147483648):Int)))||(decide (p2.n≥(2147483648:Int)))))) else ((x3.1==(1:Int))&&((decide (p2.n<((-2147483648):Int)))||(decide (p2.n≥(2147483648:Int))))))) hc2) (Eq.trans (bifT (a:=(((p0.m.memories.length:Int)==(0:Int))||((x3.1==(1:Int))&&((decide (p2.n<((-2147483648):Int)))||(decide (p2.n≥(2147483648:Int))))))) (b:=((x3.1==(1:Int))&&((decide (p2.n<((-2147483648):Int)))||(decide (p2.n≥(2147483648:Int)))))) hc3) (orT (b:=((x3.1==(1:Int))&&((decide (p2.n<((-2147483648):Int)))||(decide (p2.n≥(2147483648:Int)))))) hc4))))) t_)) (by kernel_rfl) rfl
     ·rcases bT (x3.1==(1:Int)) with hc5 | hc5
      ·rcases bT (decide (p2.n<((-2147483648):Int))) with hc6 | hc6
       ·exact YW.fin [(39,false),(42,false),(46,true),(54,false),(57,true),(61,true)] [] [4,5,6,7,8,12,14,67] [(67,.d (.bool ((!x1.2.2)||(bif (x3.1==(4:Int)) then (((p0.m.memories.length:Int)==(0:Int))||((x3.1==(1:Int))&&((decide (p2.n<((-2147483648):Int)))||(decide (p2.n≥(2147483648:Int)))))) else (bif (x3.1==(5:Int)) then (((p0.m.memories.length:Int)==(0:Int))||((x3.1==(1:Int))&&((decide (p2.n<((-2147483648):Int)))||(decide (p2.n≥(2147483648:Int)))))) else ((x3.1==(1:Int))&&((decide (p2.n<((-2147483648):Int)))||(decide (p2.n≥(2147483648:Int))))))))))] [.k 4,.k 5,.k 6] _ (a_ (a_ hc1 (a_ hc1 (a_ hc1 (a_ hc2 (a_ hc2 (a_ hc1 (a_ hc2 (a_ hc1 (a_ hc3 (a_ hc3 (a_ hc3 (a_ hc3 (a_ hc3 (a_ hc1 (a_ hc3 (a_ hc1 (a_ hc4 (a_ hc4 (a_ hc4 (a_ hc5 (a_ hc5 (a_ hc5 (a_ hc5 (a_ hc6 (a_ hc6 (a_ hc6 (a_ hc5 (a_ hc6 (a_ hc4 (a_ hc5 (a_ hc4 t_))))))))))))))))))))))))))))))) (a_ (ovB (Eq.trans (orF (b:=(bif (x3.1==(4:Int)) then (((p0.m.memories.length:Int)==(0:Int))||((x3.1==(1:Int))&&((decide (p2.n<((-2147483648):Int)))||(decide (p2.n≥(2147483648:Int)))))) else (bif (x3.1==(5:Int)) then (((p0.m.memories.length:Int)==(0:Int))||((x3.1==(1:Int))&&((decide (p2.n<((-2147483648):Int)))||(decide (p2.n≥(2147483648:Int)))))) else ((x3.1==(1:Int))&&((decide (p2.n<((-2147483648):Int)))||(decide (p2.n≥(2147483648:Int)))))))) hc1) (Eq.trans (bifF (a:=(((p0.m.memories.length:Int)==(0:Int))||((x3.1==(1:Int))&&((decide (p2.n<((-2147483648):Int)))||(decide (p2.n≥(2147483648:Int))))))) (b:=(bif (x3.1==(5:Int)) then (((p0.m.memories.length:Int)==(0:Int))||((x3.1==(1:Int))&&((decide (p2.n<((-2147483648):Int)))||(decide (p2.n≥(2147483648:Int)))))) else ((x3.1==(1:Int))&&((decide (p2.n<((-2147483648):Int)))||(decide (p2.n≥(2147483648:Int))))))) hc2) (Eq.trans (bifT (a:=(((p0.m.memories.length:Int)==(0:Int))||((x3.1==(1:Int))&&((decide (p2.n<((-2147483648):Int)))||(decide (p2.n≥(2147483648:Int))))))) (b:=((x3.1==(1:Int))&&((decide (p2.n<((-2147483648):Int)))||(decide (p2.n≥(2147483648:Int)))))) hc3) (Eq.trans (orF (b:=((x3.1==(1:Int))&&((decide (p2.n<((-2147483648):Int)))||(decide (p2.n≥(2147483648:Int)))))) hc4) (Eq.trans (andT (b:=((decide (p2.n<((-2147483648):Int)))||(decide (p2.n≥(2147483648:Int))))) hc5) (orT (b:=(decide (p2.n≥(2147483648:Int)))) hc6))))))) t_)) (by kernel_rfl) rfl
       ·exact YW.fin [(39,false),(42,false),(46,true),(54,false),(57,true),(61,false)] [] [4,5,6,7,8,12,14,67] [(67,.d (.bool ((!x1.2.2)||(bif (x3.1==(4:Int)) then (((p0.m.memories.length:Int)==(0:Int))||((x3.1==(1:Int))&&((decide (p2.n<((-2147483648):Int)))||(decide (p2.n≥(2147483648:Int)))))) else (bif (x3.1==(5:Int)) then (((p0.m.memories.length:Int)==(0:Int))||((x3.1==(1:Int))&&((decide (p2.n<((-2147483648):Int)))||(decide (p2.n≥(2147483648:Int)))))) else ((x3.1==(1:Int))&&((decide (p2.n<((-2147483648):Int)))||(decide (p2.n≥(2147483648:Int))))))))))] [.k 4,.k 5,.k 6] _ (a_ (a_ hc1 (a_ hc1 (a_ hc1 (a_ hc2 (a_ hc2 (a_ hc1 (a_ hc2 (a_ hc1 (a_ hc3 (a_ hc3 (a_ hc3 (a_ hc3 (a_ hc3 (a_ hc1 (a_ hc3 (a_ hc1 (a_ hc4 (a_ hc4 (a_ hc4 (a_ hc5 (a_ hc5 (a_ hc5 (a_ hc5 (a_ hc6 (a_ hc6 (a_ hc6 (a_ hc5 (a_ hc6 (a_ hc4 (a_ hc5 (a_ hc4 t_))))))))))))))))))))))))))))))) (a_ (ovB (Eq.trans (orF (b:=(bif (x3.1==(4:Int)) then (((p0.m.memories.length:Int)==(0:Int))||((x3.1==(1:Int))&&((decide (p2.n<((-2147483648):Int)))||(decide (p2.n≥(2147483648:Int)))))) else (bif (x3.1==(5:Int)) then (((p0.m.memories.length:Int)==(0:Int))||((x3.1==(1:Int))&&((decide (p2.n<((-2147483648):Int)))||(decide (p2.n≥(2147483648:Int)))))) else ((x3.1==(1:Int))&&((decide (p2.n<((-2147483648):Int)))||(decide (p2.n≥(2147483648:Int)))))))) hc1) (Eq.trans (bifF (a:=(((p0.m.memories.length:Int)==(0:Int))||((x3.1==(1:Int))&&((decide (p2.n<((-2147483648):Int)))||(decide (p2.n≥(2147483648:Int))))))) (b:=(bif (x3.1==(5:Int)) then (((p0.m.memories.length:Int)==(0:Int))||((x3.1==(1:Int))&&((decide (p2.n<((-2147483648):Int)))||(decide (p2.n≥(2147483648:Int)))))) else ((x3.1==(1:Int))&&((decide (p2.n<((-2147483648):Int)))||(decide (p2.n≥(2147483648:Int))))))) hc2) (Eq.trans (bifT (a:=(((p0.m.memories.length:Int)==(0:Int))||((x3.1==(1:Int))&&((decide (p2.n<((-2147483648):Int)))||(decide (p2.n≥(2147483648:Int))))))) (b:=((x3.1==(1:Int))&&((decide (p2.n<((-2147483648):Int)))||(decide (p2.n≥(2147483648:Int)))))) hc3) (Eq.trans (orF (b:=((x3.1==(1:Int))&&((decide (p2.n<((-2147483648):Int)))||(decide (p2.n≥(2147483648:Int)))))) hc4) (Eq.trans (andT (b:=((decide (p2.n<((-2147483648):Int)))||(decide (p2.n≥(2147483648:Int))))) hc5) (Eq.trans (orF (b:=(decide (p2.n≥(2147483648:Int)))) hc6) (Eq.refl (decide (p2.n≥(2147483648:Int))))))))))) t_)) (by kernel_rfl) rfl
      ·exact YW.fin [(39,false),(42,false),(46,true),(54,false),(57,false)] [] [4,5,6,7,8,12,14,67] [(67,.d (.bool ((!x1.2.2)||(bif (x3.1==(4:Int)) then (((p0.m.memories.length:Int)==(0:Int))||((x3.1==(1:Int))&&((decide (p2.n<((-2147483648):Int)))||(decide (p2.n≥(2147483648:Int)))))) else (bif (x3.1==(5:Int)) then (((p0.m.memories.length:Int)==(0:Int))||((x3.1==(1:Int))&&((decide (p2.n<((-2147483648):Int)))||(decide (p2.n≥(2147483648:Int)))))) else ((x3.1==(1:Int))&&((decide (p2.n<((-2147483648):Int)))||(decide (p2.n≥(2147483648:Int))))))))))] [.k 4,.k 5,.k 6] _ (a_ (a_ hc1 (a_ hc1 (a_ hc1 (a_ hc2 (a_ hc2 (a_ hc1 (a_ hc2 (a_ hc1 (a_ hc3 (a_ hc3 (a_ hc3 (a_ hc3 (a_ hc3 (a_ hc1 (a_ hc3 (a_ hc1 (a_ hc4 (a_ hc4 (a_ hc4 (a_ hc5 (a_ hc5 (a_ hc5 (a_ hc5 (a_ hc5 (a_ hc4 (a_ hc5 (a_ hc4 t_))))))))))))))))))))))))))) (a_ (ovB (Eq.trans (orF (b:=(bif (x3.1==(4:Int)) then (((p0.m.memories.length:Int)==(0:Int))||((x3.1==(1:Int))&&((decide (p2.n<((-2147483648):Int)))||(decide (p2.n≥(2147483648:Int)))))) else (bif (x3.1==(5:Int)) then (((p0.m.memories.length:Int)==(0:Int))||((x3.1==(1:Int))&&((decide (p2.n<((-2147483648):Int)))||(decide (p2.n≥(2147483648:Int)))))) else ((x3.1==(1:Int))&&((decide (p2.n<((-2147483648):Int)))||(decide (p2.n≥(2147483648:Int)))))))) hc1) (Eq.trans (bifF (a:=(((p0.m.memories.length:Int)==(0:Int))||((x3.1==(1:Int))&&((decide (p2.n<((-2147483648):Int)))||(decide (p2.n≥(2147483648:Int))))))) (b:=(bif (x3.1==(5:Int)) then (((p0.m.memories.length:Int)==(0:Int))||((x3.1==(1:Int))&&((decide (p2.n<((-2147483648):Int)))||(decide (p2.n≥(2147483648:Int)))))) else ((x3.1==(1:Int))&&((decide (p2.n<((-2147483648):Int)))||(decide (p2.n≥(2147483648:Int))))))) hc2) (Eq.trans (bifT (a:=(((p0.m.memories.length:Int)==(0:Int))||((x3.1==(1:Int))&&((decide (p2.n<((-2147483648):Int)))||(decide (p2.n≥(2147483648:Int))))))) (b:=((x3.1==(1:Int))&&((decide (p2.n<((-2147483648):Int)))||(decide (p2.n≥(2147483648:Int)))))) hc3) (Eq.trans (orF (b:=((x3.1==(1:Int))&&((decide (p2.n<((-2147483648):Int)))||(decide (p2.n≥(2147483648:Int)))))) hc4) (andF (b:=((decide (p2.n<((-2147483648):Int)))||(decide (p2.n≥(2147483648:Int))))) hc5)))))) t_)) (by kernel_rfl) rfl
    ·rcases bT (x3.1==(1:Int)) with hc4 | hc4
     ·rcases bT (decide (p2.n<((-2147483648):Int))) with hc5 | hc5
      ·exact YW.fin [(39,false),(42,false),(46,false),(57,true),(61,true),(54,false)] [] [4,5,6,7,8,12,14,67] [(67,.d (.bool ((!x1.2.2)||(bif (x3.1==(4:Int)) then (((p0.m.memories.length:Int)==(0:Int))||((x3.1==(1:Int))&&((decide (p2.n<((-2147483648):Int)))||(decide (p2.n≥(2147483648:Int)))))) else (bif (x3.1==(5:Int)) then (((p0.m.memories.length:Int)==(0:Int))||((x3.1==(1:Int))&&((decide (p2.n<((-2147483648):Int)))||(decide (p2.n≥(2147483648:Int)))))) else ((x3.1==(1:Int))&&((decide (p2.n<((-2147483648):Int)))||(decide (p2.n≥(2147483648:Int))))))))))] [.k 4,.k 5,.k 6] _ (a_ (a_ hc1 (a_ hc1 (a_ hc1 (a_ hc2 (a_ hc2 (a_ hc1 (a_ hc2 (a_ hc1 (a_ hc3 (a_ hc3 (a_ hc3 (a_ hc3 (a_ hc3 (a_ hc1 (a_ hc3 (a_ hc1 (a_ (Eq.refl false) (a_ (Eq.refl false) (a_ (Eq.refl false) (a_ hc4 (a_ hc4 (a_ hc4 (a_ hc4 (a_ hc5 (a_ hc5 (a_ hc5 (a_ hc4 (a_ hc5 (a_ (Eq.refl false) (a_ hc4 (a_ (Eq.refl false) t_))))))))))))))))))))))))))))))) (a_ (ovB (Eq.trans (orF (b:=(bif (x3.1==(4:Int)) then (((p0.m.memories.length:Int)==(0:Int))||((x3.1==(1:Int))&&((decide (p2.n<((-2147483648):Int)))||(decide (p2.n≥(2147483648:Int)))))) else (bif (x3.1==(5:Int)) then (((p0.m.memories.length:Int)==(0:Int))||((x3.1==(1:Int))&&((decide (p2.n<((-2147483648):Int)))||(decide (p2.n≥(2147483648:Int)))))) else ((x3.1==(1:Int))&&((decide (p2.n<((-2147483648):Int)))||(decide (p2.n≥(2147483648:Int)))))))) hc1) (Eq.trans (bifF (a:=(((p0.m.memories.length:Int)==(0:Int))||((x3.1==(1:Int))&&((decide (p2.n<((-2147483648):Int)))||(decide (p2.n≥(2147483648:Int))))))) (b:=(bif (x3.1==(5:Int)) then (((p0.m.memories.length:Int)==(0:Int))||((x3.1==(1:Int))&&((decide (p2.n<((-2147483648):Int)))||(decide (p2.n≥(2147483648:Int)))))) else ((x3.1==(1:Int))&&((decide (p2.n<((-2147483648):Int)))||(decide (p2.n≥(2147483648:Int))))))) hc2) (Eq.trans (bifF (a:=(((p0.m.memories.length:Int)==(0:Int))||((x3.1==(1:Int))&&((decide (p2.n<((-2147483648):Int)))||(decide (p2.n≥(2147483648:Int))))))) (b:=((x3.1==(1:Int))&&((decide (p2.n<((-2147483648):Int)))||(decide (p2.n≥(2147483648:Int)))))) hc3) (Eq.trans (andT (b:=((decide (p2.n<((-2147483648):Int)))||(decide (p2.n≥(2147483648:Int))))) hc4) (orT (b:=(decide (p2.n≥(2147483648:Int)))) hc5)))))) t_)) (by kernel_rfl) rfl
      ·exact YW.fin [(39,false),(42,false),(46,false),(57,true),(61,false),(54,false)] [] [4,5,6,7,8,12,14,67] [(67,.d (.bool ((!x1.2.2)||(bif (x3.1==(4:Int)) then (((p0.m.memories.length:Int)==(0:Int))||((x3.1==(1:Int))&&((decide (p2.n<((-2147483648):Int)))||(decide (p2.n≥(2147483648:Int)))))) else (bif (x3.1==(5:Int)) then (((p0.m.memories.length:Int)==(0:Int))||((x3.1==(1:Int))&&((decide (p2.n<((-2147483648):Int)))||(decide (p2.n≥(2147483648:Int)))))) else ((x3.1==(1:Int))&&((decide (p2.n<((-2147483648):Int)))||(decide (p2.n≥(2147483648:Int))))))))))] [.k 4,.k 5,.k 6] _ (a_ (a_ hc1 (a_ hc1 (a_ hc1 (a_ hc2 (a_ hc2 (a_ hc1 (a_ hc2 (a_ hc1 (a_ hc3 (a_ hc3 (a_ hc3 (a_ hc3 (a_ hc3 (a_ hc1 (a_ hc3 (a_ hc1 (a_ (Eq.refl false) (a_ (Eq.refl false) (a_ (Eq.refl false) (a_ hc4 (a_ hc4 (a_ hc4 (a_ hc4 (a_ hc5 (a_ hc5 (a_ hc5 (a_ hc4 (a_ hc5 (a_ (Eq.refl false) (a_ hc4 (a_ (Eq.refl false) t_))))))))))))))))))))))))))))))) (a_ (ovB (Eq.trans (orF (b:=(bif (x3.1==(4:Int)) then (((p0.m.memories.length:Int)==(0:Int))||((x3.1==(1:Int))&&((decide (p2.n<((-2147483648):Int)))||(decide (p2.n≥(2147483648:Int)))))) else (bif (x3.1==(5:Int)) then (((p0.m.memories.length:Int)==(0:Int))||((x3.1==(1:Int))&&((decide (p2.n<((-2147483648):Int)))||(decide (p2.n≥(2147483648:Int)))))) else ((x3.1==(1:Int))&&((decide (p2.n<((-2147483648):Int)))||(decide (p2.n≥(2147483648:Int)))))))) hc1) (Eq.trans (bifF (a:=(((p0.m.memories.length:Int)==(0:Int))||((x3.1==(1:Int))&&((decide (p2.n<((-2147483648):Int)))||(decide (p2.n≥(2147483648:Int))))))) (b:=(bif (x3.1==(5:Int)) then (((p0.m.memories.length:Int)==(0:Int))||((x3.1==(1:Int))&&((decide (p2.n<((-2147483648):Int)))||(decide (p2.n≥(2147483648:Int)))))) else ((x3.1==(1:Int))&&((decide (p2.n<((-2147483648):Int)))||(decide (p2.n≥(2147483648:Int))))))) hc2) (Eq.trans (bifF (a:=(((p0.m.memories.length:Int)==(0:Int))||((x3.1==(1:Int))&&((decide (p2.n<((-2147483648):Int)))||(decide (p2.n≥(2147483648:Int))))))) (b:=((x3.1==(1:Int))&&((decide (p2.n<((-2147483648):Int)))||(decide (p2.n≥(2147483648:Int)))))) hc3) (Eq.trans (andT (b:=((decide (p2.n<((-2147483648):Int)))||(decide (p2.n≥(2147483648:Int))))) hc4) (Eq.trans (orF (b:=(decide (p2.n≥(2147483648:Int)))) hc5) (Eq.refl (decide (p2.n≥(2147483648:Int)))))))))) t_)) (by kernel_rfl) rfl
     ·exact YW.fin [(39,false),(42,false),(46,false),(57,false),(54,false)] [] [4,5,6,7,8,12,14,67] [(67,.d (.bool ((!x1.2.2)||(bif (x3.1==(4:Int)) then (((p0.m.memories.length:Int)==(0:Int))||((x3.1==(1:Int))&&((decide (p2.n<((-2147483648):Int)))||(decide (p2.n≥(2147483648:Int)))))) else (bif (x3.1==(5:Int)) then (((p0.m.memories.length:Int)==(0:Int))||((x3.1==(1:Int))&&((decide (p2.n<((-2147483648):Int)))||(decide (p2.n≥(2147483648:Int)))))) else ((x3.1==(1:Int))&&((decide (p2.n<((-2147483648):Int)))||(decide (p2.n≥(2147483648:Int))))))))))] [.k 4,.k 5,.k 6] _ (a_ (a_ hc1 (a_ hc1 (a_ hc1 (a_ hc2 (a_ hc2 (a_ hc1 (a_ hc2 (a_ hc1 (a_ hc3 (a_ hc3 (a_ hc3 (a_ hc3 (a_ hc3 (a_ hc1 (a_ hc3 (a_ hc1 (a_ (Eq.refl false) (a_ (Eq.refl false) (a_ (Eq.refl false) (a_ hc4 (a_ hc4 (a_ hc4 (a_ hc4 (a_ hc4 (a_ (Eq.refl false) (a_ hc4 (a_ (Eq.refl false) t_))))))))))))))))))))))))))) (a_ (ovB (Eq.trans (orF (b:=(bif (x3.1==(4:Int)) then (((p0.m.memories.length:Int)==(0:Int))||((x3.1==(1:Int))&&((decide (p2.n<((-2147483648):Int)))||(decide (p2.n≥(2147483648:Int)))))) else (bif (x3.1==(5:Int)) then (((p0.m.memories.length:Int)==(0:Int))||((x3.1==(1:Int))&&((decide (p2.n<((-2147483648):Int)))||(decide (p2.n≥(2147483648:Int)))))) else ((x3.1==(1:Int))&&((decide (p2.n<((-2147483648):Int)))||(decide (p2.n≥(2147483648:Int)))))))) hc1) (Eq.trans (bifF (a:=(((p0.m.memories.length:Int)==(0:Int))||((x3.1==(1:Int))&&((decide (p2.n<((-2147483648):Int)))||(decide (p2.n≥(2147483648:Int))))))) (b:=(bif (x3.1==(5:Int)) then (((p0.m.memories.length:Int)==(0:Int))||((x3.1==(1:Int))&&((decide (p2.n<((-2147483648):Int)))||(decide (p2.n≥(2147483648:Int)))))) else ((x3.1==(1:Int))&&((decide (p2.n<((-2147483648):Int)))||(decide (p2.n≥(2147483648:Int))))))) hc2) (Eq.trans (bifF (a:=(((p0.m.memories.length:Int)==(0:Int))||((x3.1==(1:Int))&&((decide (p2.n<((-2147483648):Int)))||(decide (p2.n≥(2147483648:Int))))))) (b:=((x3.1==(1:Int))&&((decide (p2.n<((-2147483648):Int)))||(decide (p2.n≥(2147483648:Int)))))) hc3) (andF (b:=((decide (p2.n<((-2147483648):Int)))||(decide (p2.n≥(2147483648:Int))))) hc4))))) t_)) (by kernel_rfl) rfl
 refine AW2.cond (b:=((!x1.2.2)||(bif (x3.1==(4:Int)) then (((p0.m.memories.length:Int)==(0:Int))||((x3.1==(1:Int))&&((decide (p2.n<((-2147483648):Int)))||(decide (p2.n≥(2147483648:Int)))))) else (bif (x3.1==(5:Int)) then (((p0.m.memories.length:Int)==(0:Int))||((x3.1==(1:Int))&&((decide (p2.n<((-2147483648):Int)))||(decide (p2.n≥(2147483648:Int)))))) else ((x3.1==(1:Int))&&((decide (p2.n<((-2147483648):Int)))||(decide (p2.n≥(2147483648:Int))))))))) rfl (fun hc => ?_) (fun hc => ?_)
 ·replace H:=zaj H hc
  refine AW2.seq ?_
  refine r_ [] [4,6] [] [.k 4,.k 6] ⟨[(4,.p 4 0),(6,.p 6 0)],[(4,.st false [.d (sV (eI .u8) p1.l),.d (.int .i64 p1.under),.d (.bool p1.away),.d (.bool p1.dead),.d (.int .i64 p1.most),.d (.bool false)]),(6,.st false [.d .nils,.d (.int .i64 0),.d (.bool false),.d (.bool false),.d (.int .i64 0),.d (.bool false)])]⟩ (a_ t_ t_) ?_
  refine AW2.seq ?_
  refine r_ [] [6] [] [.k 6] ⟨[(6,.p 6 0)],[(6,.st false [.d (sV (eI .u8) p1.l),.d (.int .i64 p1.under),.d (.bool p1.away),.d (.bool p1.dead),.d (.int .i64 p1.most),.d (.bool false)])]⟩ (a_ t_ t_) ?_
  refine AW2.ret ?_
  have H:=Option.some.inj H
  subst H
  exact retP_mk2 t_ (by kernel_rfl)
 ·replace H:=zak H hc
  refine AW2.skip ?_
  obtain ⟨j7,H23,H⟩:=bind_some H
  refine AW2.mid ⟨[(4,.p 4 0),(6,.p 6 0),(7,.d (sV (eI .u8) x1.1)),(8,.d (.int .u8 x1.2.1))],[(4,.st false [.d (sV (eI .u8) p1.l),.d (.int .i64 p1.under),.d (.bool p1.away),.d (.bool p1.dead),.d (.int .i64 p1.most),.d (.bool j7)]),(6,.st false [.d .nils,.d (.int .i64 0),.d (.bool false),.d (.bool false),.d (.int .i64 0),.d (.bool false)])]⟩ ?_ ?_
  ·refine AW2.seq ?_
   obtain ⟨x8,hx9,H⟩:=bind_some H
   refine r_ [.r (.agg (eSt8 x8))] [6] [] [.k 6] ⟨[(6,.p 6 0)],[(6,.st false (eD (eSt8 x8)))]⟩ (a_ (a_ (zjt K (St8.mk p1.l p1.under p1.away p1.dead p1.most j7) (Typ.mk x1.1 x1.2.1) x8 hx9) t_) t_) ?_
   refine AW2.ret ?_
   have H:=Option.some.inj H
   subst H
   exact retP_mk2 t_ (by kernel_rfl)
  ·have H:=H23
   refine AW2.seq ?_
   refine r_ [] [4,5,6,7,8,12,70] [] [.k 4,.k 5,.k 6] ⟨[(4,.p 4 0),(5,.p 5 0),(6,.p 6 0),(7,.d (sV (eI .u8) x1.1)),(8,.d (.int .u8 x1.2.1)),(12,.d (.int .i64 x5.1)),(70,.d (.bool x5.2.2))],[(4,.st false (eD (eSt8 p1))),(5,.st false (eD (eInstr p2))),(6,.st false [.d .nils,.d (.int .i64 0),.d (.bool false),.d (.bool false),.d (.int .i64 0),.d (.bool false)])]⟩ (a_ t_ t_) ?_
   refine AW2.cond (b:=x5.2.2) rfl (fun hc => ?_) (fun hc => ?_)
   ·replace H:=zaj H hc
    refine AW2.seq ?_
    refine r_ [] [4,5,6,7,8,12,15] [] [.k 4,.k 5,.k 6] ⟨[(4,.p 4 0),(5,.p 5 0),(6,.p 6 0),(7,.d (sV (eI .u8) x1.1)),(8,.d (.int .u8 x1.2.1)),(12,.d (.int .i64 x5.1)),(15,.d (.int .i64 1))],[(4,.st false (eD (eSt8 p1))),(5,.st false (eD (eInstr p2))),(6,.st false [.d .nils,.d (.int .i64 0),.d (.bool false),.d (.bool false),.d (.int .i64 0),.d (.bool false)])]⟩ (a_ t_ t_) ?_
    obtain ⟨j10,H21,H⟩:=bind_some H
    refine AW2.mid ⟨[(4,.p 4 0),(6,.p 6 0),(7,.d (sV (eI .u8) x1.1)),(8,.d (.int .u8 x1.2.1)),(12,.d (.int .i64 x5.1)),(15,.d (.int .i64 j10))],[(4,.st false (eD (eSt8 p1))),(6,.st false [.d .nils,.d (.int .i64 0),.d (.bool false),.d (.bool false),.d (.int .i64 0),.d (.bool false)])]⟩ ?_ ?_
    ·obtain ⟨j11,H13,H⟩:=bind_some H
     refine AW2.reg [] rfl (YW.to ⟨[(4,.p 4 0),(6,.p 6 0),(7,.d (sV (eI .u8) x1.1)),(8,.d (.int .u8 x1.2.1))],[(4,.st false [.d (sV (eI .u8) p1.l),.d (.int .i64 p1.under),.d (.bool p1.away),.d (.bool p1.dead),.d (.int .i64 p1.most),.d (.bool j11)]),(6,.st false [.d .nils,.d (.int .i64 0),.d (.bool false),.d (.bool false),.d (.int .i64 0),.d (.bool false)])]⟩ ?qh14 ?h14)
     case h14 => 
      have H:=H13
      rcases bT p1.ok with hc1 | hc1
      ·replace H:=zaj H hc1
       have H:=Option.some.inj H
       subst H
       exact YW.fin [(85,true)] [] [4,6,7,8] [] [.k 4,.k 6] _ (a_ (a_ hc1 (a_ hc1 (a_ hc1 (a_ hc1 t_)))) t_) (by kernel_rfl) rfl
      ·replace H:=zak H hc1
       have H:=Option.some.inj H
       subst H
       exact YW.fin [(85,false)] [] [4,6,7,8] [] [.k 4,.k 6] _ (a_ (a_ hc1 (a_ hc1 (a_ hc1 (a_ hc1 t_)))) t_) (by kernel_rfl) rfl
     have H:=Option.some.inj H
     subst H
     exact zay [4,6,7,8] [] [.k 4,.k 6] t_ (by kernel_rfl)
    ·have H:=H21
     refine AW2.seq ?_
     refine r_ [] [4,5,6,7,8,12,15,16] [] [.k 4,.k 5,.k 6] ⟨[(4,.p 4 0),(5,.p 5 0),(6,.p 6 0),(7,.d (sV (eI .u8) x1.1)),(8,.d (.int .u8 x1.2.1)),(12,.d (.int .i64 x5.1)),(15,.d (.int .i64 1)),(16,.d (.int .u32 0))],[(4,.st false (eD (eSt8 p1))),(5,.st false (eD (eInstr p2))),(6,.st false [.d .nils,.d (.int .i64 0),.d (.bool false),.d (.bool false),.d (.int .i64 0),.d (.bool false)])]⟩ (a_ t_ t_) ?_
     refine AW2.block ?_
     refine AW2.lp (σ:=Int×Int) (fun v => ⟨[(4,.p 4 0),(5,.p 5 0),(6,.p 6 0),(7,.d (sV (eI .u8) x1.1)),(8,.d (.int .u8 x1.2.1)),(12,.d (.int .i64 x5.1)),(15,.d (.int .i64 v.1)),(16,.d (.int .u32 v.2))],[(4,.st false (eD (eSt8 p1))),(5,.st false (eD (eInstr p2))),(6,.st false [.d .nils,.d (.int .i64 0),.d (.bool false),.d (.bool false),.d (.int .i64 0),.d (.bool false)])]⟩) (fun k v => zaM k p2 v.1 v.2=some j10) ?_ K (1,0) H
     rintro k ⟨a17,a18⟩ H
     dsimp only at H
     cases k with
     | zero => cases H
     | succ k => 
     unfold zaM at H
     refine AW2.seq ?_
     refine AW2.seq ?_
     refine AW2.reg [] rfl (YW.to ⟨[(4,.p 4 0),(5,.p 5 0),(6,.p 6 0),(7,.d (sV (eI .u8) x1.1)),(8,.d (.int .u8 x1.2.1)),(12,.d (.int .i64 x5.1)),(15,.d (.int .i64 a17)),(16,.d (.int .u32 a18)),(78,.d (.bool ((decide (a18<p2.align))&&(decide (a17≤(8:Int))))))],[(4,.st false (eD (eSt8 p1))),(5,.st false (eD (eInstr p2))),(6,.st false [.d .nils,.d (.int .i64 0),.d (.bool false),.d (.bool false),.d (.int .i64 0),.d (.bool false)])]⟩ ?qh19 ?h19)
     case h19 => 
      rcases bT (decide (a18<p2.align)) with hc1 | hc1
      ·exact YW.fin [(75,true)] [] [4,5,6,7,8,12,15,16,78] [(78,.d (.bool ((decide (a18<p2.align))&&(decide (a17≤(8:Int))))))] [.k 4,.k 5,.k 6] _ (a_ (a_ hc1 (a_ hc1 (a_ hc1 t_))) (a_ (ovB (Eq.trans (andT (b:=(decide (a17≤(8:Int)))) hc1) (Eq.refl (decide (a17≤(8:Int)))))) t_)) (by kernel_rfl) rfl
      ·exact YW.fin [(75,false)] [] [4,5,6,7,8,12,15,16,78] [(78,.d (.bool ((decide (a18<p2.align))&&(decide (a17≤(8:Int))))))] [.k 4,.k 5,.k 6] _ (a_ (a_ hc1 (a_ hc1 (a_ hc1 t_))) (a_ (ovB (andF (b:=(decide (a17≤(8:Int)))) hc1)) t_)) (by kernel_rfl) rfl
     refine AW2.cond (b:=((decide (a18<p2.align))&&(decide (a17≤(8:Int))))) rfl (fun hc => ?_) (fun hc => ?_)
     ·replace H:=zaj H hc
      refine AW2.skip ?_
      refine AW2.seq ?_
      refine AW2.block ?_
      refine r_ [] [4,5,6,7,8,12,15,16] [] [.k 4,.k 5,.k 6] ⟨[(4,.p 4 0),(5,.p 5 0),(6,.p 6 0),(7,.d (sV (eI .u8) x1.1)),(8,.d (.int .u8 x1.2.1)),(12,.d (.int .i64 x5.1)),(15,.d (.int .i64 (wI (2 * a17)))),(16,.d (.int .u32 a18))],[(4,.st false (eD (eSt8 p1))),(5,.st false (eD (eInstr p2))),(6,.st false [.d .nils,.d (.int .i64 0),.d (.bool false),.d (.bool false),.d (.int .i64 0),.d (.bool false)])]⟩ (a_ t_ t_) ?_
      refine r_ [] [4,5,6,7,8,12,15,16] [] [.k 4,.k 5,.k 6] ⟨[(4,.p 4 0),(5,.p 5 0),(6,.p 6 0),(7,.d (sV (eI .u8) x1.1)),(8,.d (.int .u8 x1.2.1)),(12,.d (.int .i64 x5.1)),(15,.d (.int .i64 (wI (2 * a17)))),(16,.d (.int .u32 (IntKind.wrap .u32 (a18+1))))],[(4,.st false (eD (eSt8 p1))),(5,.st false (eD (eInstr p2))),(6,.st false [.d .nils,.d (.int .i64 0),.d (.bool false),.d (.bool false),.d (.int .i64 0),.d (.bool false)])]⟩ (a_ t_ t_) ?_
      exact ⟨k,((wI (2 * a17)),(IntKind.wrap .u32 (a18+1))),Nat.lt_succ_self k,H,zay [4,5,6,7,8,12,15,16] [] [.k 4,.k 5,.k 6] t_ (by kernel_rfl)⟩
     ·replace H:=zak H hc
      refine AW2.exit ?_
      have H:=Option.some.inj H
      subst H
      exact zay [4,6,7,8,12,15] [] [.k 4,.k 6] t_ (by kernel_rfl)
   ·replace H:=zak H hc
    refine AW2.skip ?_
    have H:=Option.some.inj H
    subst H
    exact zay [4,6,7,8] [] [.k 4,.k 6] t_ (by kernel_rfl)
mutual
def zaF:Nat→Env8→St8→(List Instr)→Int→Int→Option (St8)
 | 0,_,_,_,_,_ => none
 | k+1,p0,p1,p2,p3,p4 => gd (p0.labels.length * 1≤140737488355328) (gd ((p0.labels.length+1) * 1≤140737488355328) ((if p1.away=true then ((zaB k (Env8.mk p0.m p0.result p0.locals (p0.labels++([p4]:List Int))) (St8.mk ([]:List Int) (wI (p1.under+(p1.l.length:Int))) false true p1.most p1.ok) p2).bind fun x3 => some x3) else ((zaB k (Env8.mk p0.m p0.result p0.locals (p0.labels++([p4]:List Int))) (St8.mk ([]:List Int) (wI (p1.under+(p1.l.length:Int))) false p1.dead p1.most p1.ok) p2).bind fun x5 => some x5)).bind (fun j7 => ((zae j7 p3).bind fun x8 => (if x8.1.ok=true then some ((x8.1.l.length:Int)==(0:Int)) else some false).bind (fun j10 => some (St8.mk p1.l p1.under p1.away p1.dead x8.1.most j10))))))
def zbm:Nat→Env8→St8→Instr→Option (St8)
 | 0,_,_,_ => none
 | k+1,p0,p1,p2 => (if ((p2.result != (0:Int))&&((p2.result != (127:Int))&&(p2.result != (126:Int))))=true then some (St8.mk p1.l p1.under p1.away p1.dead p1.most false) else (if (p2.op==(2:Int))=true then ((zaF k p0 p1 p2.body p2.result p2.result).bind fun x4 => some x4) else (if (p2.op==(3:Int))=true then ((zaF k p0 p1 p2.body p2.result 0).bind fun x6 => some x6) else ((zae p1 127).bind fun x8 => ((zaF k p0 x8.1 p2.body p2.result p2.result).bind fun x10 => ((zaF k p0 x10 p2.els p2.result p2.result).bind fun x12 => some x12))))).bind (fun j1 => ((zaH j1 p2.result).bind fun x2 => some x2)))
def zaB:Nat→Env8→St8→(List Instr)→Option (St8)
 | 0,_,_,_ => none
 | k+1,p0,p1,p2 => (lpN k (fun (rec6:St8×Int→Option (St8)) v => match v with | (a4,a5) => (if ((decide (a5<(p2.length:Int)))&&a4.ok)=true then (gd (0≤a5∧a5<(p2.length:Int)) (if (((p2.getD a5.toNat default).op)==(0:Int))=true then ((zbw a4).bind fun x9 => some x9) else (if (((p2.getD a5.toNat default).op)==(1:Int))=true then some a4 else (if ((decide (((p2.getD a5.toNat default).op)≥(2:Int)))&&(decide (((p2.getD a5.toNat default).op)≤(4:Int))))=true then ((zbm k p0 a4 (p2.getD a5.toNat default)).bind fun x11 => some x11) else (if ((decide (((p2.getD a5.toNat default).op)≥(12:Int)))&&(decide (((p2.getD a5.toNat default).op)≤(14:Int))))=true then ((zbj k p0 a4 (p2.getD a5.toNat default)).bind fun x13 => some x13) else (if (((p2.getD a5.toNat default).op)==(15:Int))=true then ((zae a4 p0.result).bind fun x15 => ((zbw x15.1).bind fun x17 => some x17)) else (if ((((p2.getD a5.toNat default).op)==(16:Int))||(((p2.getD a5.toNat default).op)==(17:Int)))=true then ((zbS k p0 a4 (p2.getD a5.toNat default)).bind fun x19 => some x19) else (if (((p2.getD a5.toNat default).op)==(26:Int))=true then ((zae a4 255).bind fun x21 => some x21.1) else (if (((p2.getD a5.toNat default).op)==(27:Int))=true then ((zae a4 127).bind fun x23 => ((zae x23.1 255).bind fun x25 => ((zae x25.1 x25.2).bind fun x27 => ((zaH x27.1 x27.2).bind fun x29 => some x29)))) else (if ((decide (((p2.getD a5.toNat default).op)≥(32:Int)))&&(decide (((p2.getD a5.toNat default).op)≤(36:Int))))=true then ((zaA p0 a4 (p2.getD a5.toNat default)).bind fun x31 => some x31) else ((zci k p0 a4 (p2.getD a5.toNat default)).bind fun x33 => some x33))))))))))).bind (fun j7 => rec6 (j7,(wI (a5+1)))) else some a4)) (p1,0)).bind (fun j1 => some j1)
end
theorem zwv (k:Nat) (IH_ref08_inner:∀ (p0:Env8) (p1:St8) (p2:List Instr) (p3:Int) (p4:Int) (r:St8),zaF k p0 p1 p2 p3 p4=some r→CF E 57 [.agg (eEnv8 p0),.agg (eSt8 p1),sVI p2,.int .u8 p3,.int .u8 p4] (.agg (eSt8 r))) (IH_ref08_block:∀ (p0:Env8) (p1:St8) (p2:Instr) (r:St8),zbm k p0 p1 p2=some r→CF E 43 [.agg (eEnv8 p0),.agg (eSt8 p1),.agg (eInstr p2)] (.agg (eSt8 r))) (IH_ref08_list:∀ (p0:Env8) (p1:St8) (p2:List Instr) (r:St8),zaB k p0 p1 p2=some r→CF E 26 [.agg (eEnv8 p0),.agg (eSt8 p1),sVI p2] (.agg (eSt8 r))):∀ (p0:Env8) (p1:St8) (p2:List Instr) (p3:Int) (p4:Int) (r:St8),zaF (k+1) p0 p1 p2 p3 p4=some r→CF E 57 [.agg (eEnv8 p0),.agg (eSt8 p1),sVI p2,.int .u8 p3,.int .u8 p4] (.agg (eSt8 r)):=by
 intro p0 p1 p2 p3 p4 r H
 refine zcG (A:=zmj) zvo rfl fun fr => ?_
 unfold zaF at H
 refine AW2.seq ?_
 refine r_ [.k 5,.k 6,.k 10] [2,3,4,5,6,10] [] [.k 5,.k 6,.k 10] ⟨[(2,.d (sVI p2)),(3,.d (.int .u8 p3)),(4,.d (.int .u8 p4)),(5,.p 5 0),(6,.p 6 0),(10,.p 10 0)],[(5,.st false (eD (eEnv8 p0))),(6,.st false (eD (eSt8 p1))),(10,.st false [.d .nils,.d (.int .i64 0),.d (.bool false),.d (.bool false),.d (.int .i64 0),.d (.bool false)])]⟩ (a_ t_ t_) ?_
 refine AW2.seq ?_
 refine r_ [] [2,3,4,5,6,10,11] [] [.k 5,.k 6,.k 10] ⟨[(2,.d (sVI p2)),(3,.d (.int .u8 p3)),(4,.d (.int .u8 p4)),(5,.p 5 0),(6,.p 6 0),(10,.p 10 0),(11,.d .nils)],[(5,.st false (eD (eEnv8 p0))),(6,.st false (eD (eSt8 p1))),(10,.st false [.d .nils,.d (.int .i64 0),.d (.bool false),.d (.bool false),.d (.int .i64 0),.d (.bool false)])]⟩ (a_ t_ t_) ?_
 refine AW2.seq ?_
 obtain ⟨h1,H⟩:=zad H
 obtain ⟨h2,H⟩:=zad H
 refine r_ [.ks false 16 p0.labels.length (fl (eI .u8) p0.labels),.sb ([p4]:List Int).length (fl (eI .u8) ([p4]:List Int)),.s true (p0.labels++([p4]:List Int)).length (fl (eI .u8) (p0.labels++([p4]:List Int)))] [2,3,5,6,10] [] [.k 5,.k 6,.k 10,.k 16] ⟨[(2,.d (sVI p2)),(3,.d (.int .u8 p3)),(5,.p 5 0),(6,.p 6 0),(10,.p 10 0)],[(5,.st false [.d (sV eTyp p0.m.types),.d (sV eFnc p0.m.funcs),.d (sV eLim p0.m.tables),.d (sV eLim p0.m.memories),.d (sV eGlo p0.m.globals),.d (sV eXpo p0.m.exports),.d (sV eEle p0.m.elems),.d (sV eDat p0.m.datas),.d (.int .u8 p0.result),.d (sV (eI .u8) p0.locals),.ls 16 0 (p0.labels++([p4]:List Int)).length]),(6,.st false (eD (eSt8 p1))),(10,.st false [.d .nils,.d (.int .i64 0),.d (.bool false),.d (.bool false),.d (.int .i64 0),.d (.bool false)]),(16,.sl false 1 (p0.labels++([p4]:List Int)).length (fl (eI .u8) (p0.labels++([p4]:List Int))))]⟩ (a_ (a_ (lcl (eI .u8) (zzC .u8) p0.labels) (a_ h1 (a_ (a_ (Eq.refl p0.labels.length) (fun i (_:i<p0.labels.length) => Eq.refl (fl (eI .u8) p0.labels i))) (a_ (litF (eI .u8) ([p4]:List Int)) (a_ (Nat.le_refl p0.labels.length) (a_ h2 (a_ (app1 (eI .u8) p0.labels p4 (fl (eI .u8) ([p4]:List Int)) rfl) t_))))))) t_) ?_
 refine AW2.seq ?_
 obtain ⟨j7,H15,H⟩:=bind_some H
 refine AW2.reg [] rfl (YW.to ⟨[(3,.d (.int .u8 p3)),(6,.p 6 0),(10,.p 10 0),(12,.p 12 0)],[(6,.st false (eD (eSt8 p1))),(10,.st false [.d .nils,.d (.int .i64 0),.d (.bool false),.d (.bool false),.d (.int .i64 0),.d (.bool false)]),(12,.st false (eD (eSt8 j7)))]⟩ ?qh16 ?h16)
 case h16 => 
  have H:=H15
  rcases bT p1.away with hc1 | hc1
  ·replace H:=zaj H hc1
   obtain ⟨x3,hx4,H⟩:=bind_some H
   have H:=Option.some.inj H
   subst H
   exact YW.fin [(30,true)] [.r (.agg (eSt8 x3)),.k 12] [3,6,10,12] [] [.k 6,.k 10,.k 12] _ (a_ (a_ hc1 (a_ hc1 (a_ hc1 (a_ (Nat.le_refl (p0.labels++([p4]:List Int)).length) (a_ (dfl (eI .u8) (zoF .u8) (p0.labels++([p4]:List Int))) (a_ (IH_ref08_list (Env8.mk p0.m p0.result p0.locals (p0.labels++([p4]:List Int))) (St8.mk ([]:List Int) (wI (p1.under+(p1.l.length:Int))) false true p1.most p1.ok) p2 x3 hx4) t_)))))) t_) (by kernel_rfl) rfl
  ·replace H:=zak H hc1
   obtain ⟨x5,hx6,H⟩:=bind_some H
   have H:=Option.some.inj H
   subst H
   exact YW.fin [(30,false)] [.r (.agg (eSt8 x5)),.k 12] [3,6,10,12] [] [.k 6,.k 10,.k 12] _ (a_ (a_ hc1 (a_ hc1 (a_ hc1 (a_ (Nat.le_refl (p0.labels++([p4]:List Int)).length) (a_ (dfl (eI .u8) (zoF .u8) (p0.labels++([p4]:List Int))) (a_ (IH_ref08_list (Env8.mk p0.m p0.result p0.locals (p0.labels++([p4]:List Int))) (St8.mk ([]:List Int) (wI (p1.under+(p1.l.length:Int))) false p1.dead p1.most p1.ok) p2 x5 hx6) t_)))))) t_) (by kernel_rfl) rfl
 refine AW2.seq ?_
 obtain ⟨x8,hx9,H⟩:=bind_some H
 refine r_ [.r (.tup [.agg (eSt8 x8.1),.int .u8 x8.2])] [6,10,12] [] [.k 6,.k 10,.k 12] ⟨[(6,.p 6 0),(10,.p 10 0),(12,.p 12 0)],[(6,.st false (eD (eSt8 p1))),(10,.st false [.d .nils,.d (.int .i64 0),.d (.bool false),.d (.bool false),.d (.int .i64 0),.d (.bool false)]),(12,.st false (eD (eSt8 x8.1)))]⟩ (a_ (a_ (zaS j7 p3 x8 hx9) t_) t_) ?_
 refine AW2.seq ?_
 obtain ⟨j10,H12,H⟩:=bind_some H
 refine AW2.reg [(6,0,4)] (by kernel_rfl) (YW.to ⟨[(6,.p 6 0),(10,.p 10 0)],[(6,.st false [.d (sV (eI .u8) p1.l),.d (.int .i64 p1.under),.d (.bool p1.away),.d (.bool p1.dead),.d (.int .i64 x8.1.most),.d (.bool j10)]),(10,.st false [.d .nils,.d (.int .i64 0),.d (.bool false),.d (.bool false),.d (.int .i64 0),.d (.bool false)])]⟩ ?qh13 ?h13)
 case h13 => 
  have H:=H12
  rcases bT x8.1.ok with hc1 | hc1
  ·replace H:=zaj H hc1
   have H:=Option.some.inj H
   subst H
   exact YW.fin [(51,true)] [] [6,10] [] [.k 6,.k 10] _ (a_ (a_ hc1 (a_ hc1 (a_ hc1 (a_ hc1 (a_ hc1 t_))))) t_) (by kernel_rfl) rfl
  ·replace H:=zak H hc1
   have H:=Option.some.inj H
   subst H
   exact YW.fin [(51,false)] [] [6,10] [] [.k 6,.k 10] _ (a_ (a_ hc1 (a_ hc1 (a_ hc1 (a_ hc1 (a_ hc1 t_))))) t_) (by kernel_rfl) rfl
 refine AW2.seq ?_
 refine r_ [] [10] [] [.k 10] ⟨[(10,.p 10 0)],[(10,.st false [.d (sV (eI .u8) p1.l),.d (.int .i64 p1.under),.d (.bool p1.away),.d (.bool p1.dead),.d (.int .i64 x8.1.most),.d (.bool j10)])]⟩ (a_ t_ t_) ?_
 refine AW2.ret ?_
 have H:=Option.some.inj H
 subst H
 exact retP_mk2 t_ (by kernel_rfl)
theorem zww (k:Nat) (IH_ref08_inner:∀ (p0:Env8) (p1:St8) (p2:List Instr) (p3:Int) (p4:Int) (r:St8),zaF k p0 p1 p2 p3 p4=some r→CF E 57 [.agg (eEnv8 p0),.agg (eSt8 p1),sVI p2,.int .u8 p3,.int .u8 p4] (.agg (eSt8 r))) (IH_ref08_block:∀ (p0:Env8) (p1:St8) (p2:Instr) (r:St8),zbm k p0 p1 p2=some r→CF E 43 [.agg (eEnv8 p0),.agg (eSt8 p1),.agg (eInstr p2)] (.agg (eSt8 r))) (IH_ref08_list:∀ (p0:Env8) (p1:St8) (p2:List Instr) (r:St8),zaB k p0 p1 p2=some r→CF E 26 [.agg (eEnv8 p0),.agg (eSt8 p1),sVI p2] (.agg (eSt8 r))):∀ (p0:Env8) (p1:St8) (p2:Instr) (r:St8),zbm (k+1) p0 p1 p2=some r→CF E 43 [.agg (eEnv8 p0),.agg (eSt8 p1),.agg (eInstr p2)] (.agg (eSt8 r)):=by
 intro p0 p1 p2 r H
 refine zcG (A:=zmw) zvq rfl fun fr => ?_
 unfold zbm at H
 refine AW2.seq ?_
 refine r_ [.k 3,.k 4,.k 5,.k 6] [3,4,5,6] [] [.k 3,.k 4,.k 5,.k 6] ⟨[(3,.p 3 0),(4,.p 4 0),(5,.p 5 0),(6,.p 6 0)],[(3,.st false (eD (eEnv8 p0))),(4,.st false (eD (eSt8 p1))),(5,.st false (eD (eInstr p2))),(6,.st false [.d .nils,.d (.int .i64 0),.d (.bool false),.d (.bool false),.d (.int .i64 0),.d (.bool false)])]⟩ (a_ t_ t_) ?_
 refine AW2.seq ?_
 refine AW2.seq ?_
 refine AW2.reg [] rfl (YW.to ⟨[(3,.p 3 0),(4,.p 4 0),(5,.p 5 0),(6,.p 6 0),(19,.d (.bool ((p2.result != (0:Int))&&((p2.result != (127:Int))&&(p2.result != (126:Int))))))],[(3,.st false (eD (eEnv8 p0))),(4,.st false (eD (eSt8 p1))),(5,.st false (eD (eInstr p2))),(6,.st false [.d .nils,.d (.int .i64 0),.d (.bool false),.d (.bool false),.d (.int .i64 0),.d (.bool false)])]⟩ ?qh16 ?h16)
 case h16 => 
  rcases bT (p2.result != (0:Int)) with hc1 | hc1
  ·rcases bT (p2.result != (127:Int)) with hc2 | hc2
   ·exact YW.fin [(10,true),(15,true)] [] [3,4,5,6,19] [(19,.d (.bool ((p2.result != (0:Int))&&((p2.result != (127:Int))&&(p2.result != (126:Int))))))] [.k 3,.k 4,.k 5,.k 6] _ (a_ (a_ hc1 (a_ hc1 (a_ hc1 (a_ hc1 (a_ hc2 (a_ hc2 (a_ hc2 (a_ hc2 t_)))))))) (a_ (ovB (Eq.trans (andT (b:=((p2.result != (127:Int))&&(p2.result != (126:Int)))) hc1) (Eq.trans (andT (b:=(p2.result != (126:Int))) hc2) (Eq.refl (p2.result != (126:Int)))))) t_)) (by kernel_rfl) rfl
   ·exact YW.fin [(10,true),(15,false)] [] [3,4,5,6,19] [(19,.d (.bool ((p2.result != (0:Int))&&((p2.result != (127:Int))&&(p2.result != (126:Int))))))] [.k 3,.k 4,.k 5,.k 6] _ (a_ (a_ hc1 (a_ hc1 (a_ hc1 (a_ hc1 (a_ hc2 (a_ hc2 (a_ hc2 (a_ hc2 t_)))))))) (a_ (ovB (Eq.trans (andT (b:=((p2.result != (127:Int))&&(p2.result != (126:Int)))) hc1) (andF (b:=(p2.result != (126:Int))) hc2))) t_)) (by kernel_rfl) rfl
  ·exact YW.fin [(10,false),(15,false)] [] [3,4,5,6,19] [(19,.d (.bool ((p2.result != (0:Int))&&((p2.result != (127:Int))&&(p2.result != (126:Int))))))] [.k 3,.k 4,.k 5,.k 6] _ (a_ (a_ hc1 (a_ hc1 (a_ hc1 (a_ hc1 (a_ (Eq.refl false) (a_ (Eq.refl false) (a_ (Eq.refl false) (a_ (Eq.refl false) t_)))))))) (a_ (ovB (andF (b:=((p2.result != (127:Int))&&(p2.result != (126:Int)))) hc1)) t_)) (by kernel_rfl) rfl
 refine AW2.cond (b:=((p2.result != (0:Int))&&((p2.result != (127:Int))&&(p2.result != (126:Int))))) rfl (fun hc => ?_) (fun hc => ?_)
 ·replace H:=zaj H hc
  refine AW2.seq ?_
  refine r_ [] [4,6] [] [.k 4,.k 6] ⟨[(4,.p 4 0),(6,.p 6 0)],[(4,.st false [.d (sV (eI .u8) p1.l),.d (.int .i64 p1.under),.d (.bool p1.away),.d (.bool p1.dead),.d (.int .i64 p1.most),.d (.bool false)]),(6,.st false [.d .nils,.d (.int .i64 0),.d (.bool false),.d (.bool false),.d (.int .i64 0),.d (.bool false)])]⟩ (a_ t_ t_) ?_
  refine AW2.seq ?_
  refine r_ [] [6] [] [.k 6] ⟨[(6,.p 6 0)],[(6,.st false [.d (sV (eI .u8) p1.l),.d (.int .i64 p1.under),.d (.bool p1.away),.d (.bool p1.dead),.d (.int .i64 p1.most),.d (.bool false)])]⟩ (a_ t_ t_) ?_
  refine AW2.ret ?_
  have H:=Option.some.inj H
  subst H
  exact retP_mk2 t_ (by kernel_rfl)
 ·replace H:=zak H hc
  refine AW2.skip ?_
  obtain ⟨j1,H15,H⟩:=bind_some H
  refine AW2.mid ⟨[(4,.p 4 0),(5,.p 5 0),(6,.p 6 0)],[(4,.st false (eD (eSt8 j1))),(5,.st false (eD (eInstr p2))),(6,.st false [.d .nils,.d (.int .i64 0),.d (.bool false),.d (.bool false),.d (.int .i64 0),.d (.bool false)])]⟩ ?_ ?_
  ·refine AW2.seq ?_
   obtain ⟨x2,hx3,H⟩:=bind_some H
   refine r_ [.r (.agg (eSt8 x2))] [6] [] [.k 6] ⟨[(6,.p 6 0)],[(6,.st false (eD (eSt8 x2)))]⟩ (a_ (a_ (zes j1 p2.result x2 hx3) t_) t_) ?_
   refine AW2.ret ?_
   have H:=Option.some.inj H
   subst H
   exact retP_mk2 t_ (by kernel_rfl)
  ·have H:=H15
   refine AW2.seq ?_
   refine r_ [] [3,4,5,6,23] [] [.k 3,.k 4,.k 5,.k 6] ⟨[(3,.p 3 0),(4,.p 4 0),(5,.p 5 0),(6,.p 6 0),(23,.d (.int .u8 p2.op))],[(3,.st false (eD (eEnv8 p0))),(4,.st false (eD (eSt8 p1))),(5,.st false (eD (eInstr p2))),(6,.st false [.d .nils,.d (.int .i64 0),.d (.bool false),.d (.bool false),.d (.int .i64 0),.d (.bool false)])]⟩ (a_ t_ t_) ?_
   refine AW2.block ?_
   refine AW2.seq ?_
   refine r_ [] [3,4,5,6,23,46] [] [.k 3,.k 4,.k 5,.k 6] ⟨[(3,.p 3 0),(4,.p 4 0),(5,.p 5 0),(6,.p 6 0),(23,.d (.int .u8 p2.op)),(46,.d (.bool (p2.op==(2:Int))))],[(3,.st false (eD (eEnv8 p0))),(4,.st false (eD (eSt8 p1))),(5,.st false (eD (eInstr p2))),(6,.st false [.d .nils,.d (.int .i64 0),.d (.bool false),.d (.bool false),.d (.int .i64 0),.d (.bool false)])]⟩ (a_ t_ t_) ?_
   refine AW2.cond (b:=(p2.op==(2:Int))) rfl (fun hc => ?_) (fun hc => ?_)
   ·replace H:=zaj H hc
    obtain ⟨x4,hx5,H⟩:=bind_some H
    refine r_ [.r (.agg (eSt8 x4))] [4,5,6] [] [.k 4,.k 5,.k 6] ⟨[(4,.p 4 0),(5,.p 5 0),(6,.p 6 0)],[(4,.st false (eD (eSt8 x4))),(5,.st false (eD (eInstr p2))),(6,.st false [.d .nils,.d (.int .i64 0),.d (.bool false),.d (.bool false),.d (.int .i64 0),.d (.bool false)])]⟩ (a_ (a_ (IH_ref08_inner p0 p1 p2.body p2.result p2.result x4 hx5) t_) t_) ?_
    have H:=Option.some.inj H
    subst H
    exact zay [4,5,6] [] [.k 4,.k 5,.k 6] t_ (by kernel_rfl)
   ·replace H:=zak H hc
    refine AW2.seq ?_
    refine r_ [] [3,4,5,6,57] [] [.k 3,.k 4,.k 5,.k 6] ⟨[(3,.p 3 0),(4,.p 4 0),(5,.p 5 0),(6,.p 6 0),(57,.d (.bool (p2.op==(3:Int))))],[(3,.st false (eD (eEnv8 p0))),(4,.st false (eD (eSt8 p1))),(5,.st false (eD (eInstr p2))),(6,.st false [.d .nils,.d (.int .i64 0),.d (.bool false),.d (.bool false),.d (.int .i64 0),.d (.bool false)])]⟩ (a_ t_ t_) ?_
    refine AW2.cond (b:=(p2.op==(3:Int))) rfl (fun hc => ?_) (fun hc => ?_)
    ·replace H:=zaj H hc
     obtain ⟨x6,hx7,H⟩:=bind_some H
     refine r_ [.r (.agg (eSt8 x6))] [4,5,6] [] [.k 4,.k 5,.k 6] ⟨[(4,.p 4 0),(5,.p 5 0),(6,.p 6 0)],[(4,.st false (eD (eSt8 x6))),(5,.st false (eD (eInstr p2))),(6,.st false [.d .nils,.d (.int .i64 0),.d (.bool false),.d (.bool false),.d (.int .i64 0),.d (.bool false)])]⟩ (a_ (a_ (IH_ref08_inner p0 p1 p2.body p2.result 0 x6 hx7) t_) t_) ?_
     have H:=Option.some.inj H
     subst H
     exact zay [4,5,6] [] [.k 4,.k 5,.k 6] t_ (by kernel_rfl)
    ·replace H:=zak H hc
     refine AW2.seq ?_
     obtain ⟨x8,hx9,H⟩:=bind_some H
     refine r_ [.r (.tup [.agg (eSt8 x8.1),.int .u8 x8.2])] [3,4,5,6] [] [.k 3,.k 4,.k 5,.k 6] ⟨[(3,.p 3 0),(4,.p 4 0),(5,.p 5 0),(6,.p 6 0)],[(3,.st false (eD (eEnv8 p0))),(4,.st false (eD (eSt8 x8.1))),(5,.st false (eD (eInstr p2))),(6,.st false [.d .nils,.d (.int .i64 0),.d (.bool false),.d (.bool false),.d (.int .i64 0),.d (.bool false)])]⟩ (a_ (a_ (zaS p1 127 x8 hx9) t_) t_) ?_
     obtain ⟨x10,hx11,H⟩:=bind_some H
     obtain ⟨x12,hx13,H⟩:=bind_some H
     refine r_ [.r (.agg (eSt8 x10)),.r (.agg (eSt8 x12))] [4,5,6] [] [.k 4,.k 5,.k 6] ⟨[(4,.p 4 0),(5,.p 5 0),(6,.p 6 0)],[(4,.st false (eD (eSt8 x12))),(5,.st false (eD (eInstr p2))),(6,.st false [.d .nils,.d (.int .i64 0),.d (.bool false),.d (.bool false),.d (.int .i64 0),.d (.bool false)])]⟩ (a_ (a_ (IH_ref08_inner p0 x8.1 p2.body p2.result p2.result x10 hx11) (a_ (IH_ref08_inner p0 x10 p2.els p2.result p2.result x12 hx13) t_)) t_) ?_
     have H:=Option.some.inj H
     subst H
     exact zay [4,5,6] [] [.k 4,.k 5,.k 6] t_ (by kernel_rfl)
theorem zxF (k:Nat) (IH_ref08_inner:∀ (p0:Env8) (p1:St8) (p2:List Instr) (p3:Int) (p4:Int) (r:St8),zaF k p0 p1 p2 p3 p4=some r→CF E 57 [.agg (eEnv8 p0),.agg (eSt8 p1),sVI p2,.int .u8 p3,.int .u8 p4] (.agg (eSt8 r))) (IH_ref08_block:∀ (p0:Env8) (p1:St8) (p2:Instr) (r:St8),zbm k p0 p1 p2=some r→CF E 43 [.agg (eEnv8 p0),.agg (eSt8 p1),.agg (eInstr p2)] (.agg (eSt8 r))) (IH_ref08_list:∀ (p0:Env8) (p1:St8) (p2:List Instr) (r:St8),zaB k p0 p1 p2=some r→CF E 26 [.agg (eEnv8 p0),.agg (eSt8 p1),sVI p2] (.agg (eSt8 r))):∀ (p0:Env8) (p1:St8) (p2:List Instr) (r:St8),zaB (k+1) p0 p1 p2=some r→CF E 26 [.agg (eEnv8 p0),.agg (eSt8 p1),sVI p2] (.agg (eSt8 r)):=by
 intro p0 p1 p2 r H
 refine zcG (A:=zoM) zwH rfl fun fr => ?_
 unfold zaB at H
 refine AW2.seq ?_
 refine r_ [.k 3,.k 4,.k 6] [2,3,4,6] [] [.k 3,.k 4,.k 6] ⟨[(2,.d (sVI p2)),(3,.p 3 0),(4,.p 4 0),(6,.p 6 0)],[(3,.st false (eD (eEnv8 p0))),(4,.st false (eD (eSt8 p1))),(6,.st false [.d .nils,.d (.int .i64 0),.d (.bool false),.d (.bool false),.d (.int .i64 0),.d (.bool false)])]⟩ (a_ t_ t_) ?_
 obtain ⟨j1,H43,H⟩:=bind_some H
 refine AW2.mid ⟨[(4,.p 4 0),(6,.p 6 0)],[(4,.st false (eD (eSt8 j1))),(6,.st false [.d .nils,.d (.int .i64 0),.d (.bool false),.d (.bool false),.d (.int .i64 0),.d (.bool false)])]⟩ ?_ ?_
 ·refine AW2.seq ?_
  refine r_ [] [6] [] [.k 6] ⟨[(6,.p 6 0)],[(6,.st false (eD (eSt8 j1)))]⟩ (a_ t_ t_) ?_
  refine AW2.ret ?_
  have H:=Option.some.inj H
  subst H
  exact retP_mk2 t_ (by kernel_rfl)
 ·have H:=H43
  refine AW2.seq ?_
  refine r_ [] [2,3,4,6,7] [] [.k 3,.k 4,.k 6] ⟨[(2,.d (sVI p2)),(3,.p 3 0),(4,.p 4 0),(6,.p 6 0),(7,.d (.int .i64 0))],[(3,.st false (eD (eEnv8 p0))),(4,.st false (eD (eSt8 p1))),(6,.st false [.d .nils,.d (.int .i64 0),.d (.bool false),.d (.bool false),.d (.int .i64 0),.d (.bool false)])]⟩ (a_ t_ t_) ?_
  refine AW2.block ?_
  refine AW2.lpR (σ:=St8×Int) (fun v => ⟨[(2,.d (sVI p2)),(3,.p 3 0),(4,.p 4 0),(6,.p 6 0),(7,.d (.int .i64 v.2))],[(3,.st false (eD (eEnv8 p0))),(4,.st false (eD (eSt8 v.1))),(6,.st false [.d .nils,.d (.int .i64 0),.d (.bool false),.d (.bool false),.d (.int .i64 0),.d (.bool false)])]⟩) ?_ (v:=(p1,0)) H
  rintro rec6 ⟨a4,a5⟩ H
  dsimp only at H
  refine AW2.seq ?_
  refine AW2.seq ?_
  refine AW2.reg [] rfl (YW.to ⟨[(2,.d (sVI p2)),(3,.p 3 0),(4,.p 4 0),(6,.p 6 0),(7,.d (.int .i64 a5)),(22,.d (.bool ((decide (a5<(p2.length:Int)))&&a4.ok)))],[(3,.st false (eD (eEnv8 p0))),(4,.st false (eD (eSt8 a4))),(6,.st false [.d .nils,.d (.int .i64 0),.d (.bool false),.d (.bool false),.d (.int .i64 0),.d (.bool false)])]⟩ ?qh41 ?h41)
  case h41 => 
   rcases bT (decide (a5<(p2.length:Int))) with hc1 | hc1
   ·exact YW.fin [(19,true)] [] [2,3,4,6,7,22] [(22,.d (.bool ((decide (a5<(p2.length:Int)))&&a4.ok)))] [.k 3,.k 4,.k 6] _ (a_ (a_ hc1 (a_ hc1 (a_ hc1 t_))) (a_ (ovB (Eq.trans (andT (b:=a4.ok) hc1) (Eq.refl a4.ok))) t_)) (by kernel_rfl) rfl
   ·exact YW.fin [(19,false)] [] [2,3,4,6,7,22] [(22,.d (.bool ((decide (a5<(p2.length:Int)))&&a4.ok)))] [.k 3,.k 4,.k 6] _ (a_ (a_ hc1 (a_ hc1 (a_ hc1 t_))) (a_ (ovB (andF (b:=a4.ok) hc1)) t_)) (by kernel_rfl) rfl
  refine AW2.cond (b:=((decide (a5<(p2.length:Int)))&&a4.ok)) rfl (fun hc => ?_) (fun hc => ?_)
  ·replace H:=zaj H hc
   refine AW2.skip ?_
   obtain ⟨j7,H40,H⟩:=bind_some H
   refine AW2.mid ⟨[(2,.d (sVI p2)),(3,.p 3 0),(4,.p 4 0),(6,.p 6 0),(7,.d (.int .i64 a5))],[(3,.st false (eD (eEnv8 p0))),(4,.st false (eD (eSt8 j7))),(6,.st false [.d .nils,.d (.int .i64 0),.d (.bool false),.d (.bool false),.d (.int .i64 0),.d (.bool false)])]⟩ ?_ ?_
   ·refine r_ [] [2,3,4,6,7] [] [.k 3,.k 4,.k 6] ⟨[(2,.d (sVI p2)),(3,.p 3 0),(4,.p 4 0),(6,.p 6 0),(7,.d (.int .i64 (wI (a5+1))))],[(3,.st false (eD (eEnv8 p0))),(4,.st false (eD (eSt8 j7))),(6,.st false [.d .nils,.d (.int .i64 0),.d (.bool false),.d (.bool false),.d (.int .i64 0),.d (.bool false)])]⟩ (a_ t_ t_) ?_
    exact ⟨(j7,(wI (a5+1))),H,zay [2,3,4,6,7] [] [.k 3,.k 4,.k 6] t_ (by kernel_rfl)⟩
   ·have H:=H40
    refine AW2.block ?_
    refine AW2.seq ?_
    obtain ⟨h8,H⟩:=zad H
    refine r_ [.e (eInstr (p2.getD a5.toNat default)),.k 8] [2,3,4,6,7,8] [] [.k 3,.k 4,.k 6,.k 8] ⟨[(2,.d (sVI p2)),(3,.p 3 0),(4,.p 4 0),(6,.p 6 0),(7,.d (.int .i64 a5)),(8,.p 8 0)],[(3,.st false (eD (eEnv8 p0))),(4,.st false (eD (eSt8 a4))),(6,.st false [.d .nils,.d (.int .i64 0),.d (.bool false),.d (.bool false),.d (.int .i64 0),.d (.bool false)]),(8,.st false (eD (eInstr (p2.getD a5.toNat default))))]⟩ (a_ (a_ h8 (a_ (flI_ix h8) t_)) t_) ?_
    refine AW2.block ?_
    refine AW2.seq ?_
    refine r_ [] [2,3,4,6,7,8,33] [] [.k 3,.k 4,.k 6,.k 8] ⟨[(2,.d (sVI p2)),(3,.p 3 0),(4,.p 4 0),(6,.p 6 0),(7,.d (.int .i64 a5)),(8,.p 8 0),(33,.d (.bool (((p2.getD a5.toNat default).op)==(0:Int))))],[(3,.st false (eD (eEnv8 p0))),(4,.st false (eD (eSt8 a4))),(6,.st false [.d .nils,.d (.int .i64 0),.d (.bool false),.d (.bool false),.d (.int .i64 0),.d (.bool false)]),(8,.st false (eD (eInstr (p2.getD a5.toNat default))))]⟩ (a_ t_ t_) ?_
    refine AW2.cond (b:=(((p2.getD a5.toNat default).op)==(0:Int))) rfl (fun hc => ?_) (fun hc => ?_)
    ·replace H:=zaj H hc
     obtain ⟨x9,hx10,H⟩:=bind_some H
     refine r_ [.r (.agg (eSt8 x9))] [2,3,4,6,7] [] [.k 3,.k 4,.k 6] ⟨[(2,.d (sVI p2)),(3,.p 3 0),(4,.p 4 0),(6,.p 6 0),(7,.d (.int .i64 a5))],[(3,.st false (eD (eEnv8 p0))),(4,.st false (eD (eSt8 x9))),(6,.st false [.d .nils,.d (.int .i64 0),.d (.bool false),.d (.bool false),.d (.int .i64 0),.d (.bool false)])]⟩ (a_ (a_ (zfZ a4 x9 hx10) t_) t_) ?_
     have H:=Option.some.inj H
     subst H
     exact zay [2,3,4,6,7] [] [.k 3,.k 4,.k 6] t_ (by kernel_rfl)
    ·replace H:=zak H hc
     refine AW2.seq ?_
     refine r_ [] [2,3,4,6,7,8,39] [] [.k 3,.k 4,.k 6,.k 8] ⟨[(2,.d (sVI p2)),(3,.p 3 0),(4,.p 4 0),(6,.p 6 0),(7,.d (.int .i64 a5)),(8,.p 8 0),(39,.d (.bool (((p2.getD a5.toNat default).op)==(1:Int))))],[(3,.st false (eD (eEnv8 p0))),(4,.st false (eD (eSt8 a4))),(6,.st false [.d .nils,.d (.int .i64 0),.d (.bool false),.d (.bool false),.d (.int .i64 0),.d (.bool false)]),(8,.st false (eD (eInstr (p2.getD a5.toNat default))))]⟩ (a_ t_ t_) ?_
     refine AW2.cond (b:=(((p2.getD a5.toNat default).op)==(1:Int))) rfl (fun hc => ?_) (fun hc => ?_)
     ·replace H:=zaj H hc
      refine AW2.skip ?_
      have H:=Option.some.inj H
      subst H
      exact zay [2,3,4,6,7] [] [.k 3,.k 4,.k 6] t_ (by kernel_rfl)
     ·replace H:=zak H hc
      refine AW2.seq ?_
      refine AW2.reg [] rfl (YW.to ⟨[(2,.d (sVI p2)),(3,.p 3 0),(4,.p 4 0),(6,.p 6 0),(7,.d (.int .i64 a5)),(8,.p 8 0),(43,.d (.bool ((decide (((p2.getD a5.toNat default).op)≥(2:Int)))&&(decide (((p2.getD a5.toNat default).op)≤(4:Int))))))],[(3,.st false (eD (eEnv8 p0))),(4,.st false (eD (eSt8 a4))),(6,.st false [.d .nils,.d (.int .i64 0),.d (.bool false),.d (.bool false),.d (.int .i64 0),.d (.bool false)]),(8,.st false (eD (eInstr (p2.getD a5.toNat default))))]⟩ ?qh38 ?h38)
      case h38 => 
       rcases bT (decide (((p2.getD a5.toNat default).op)≥(2:Int))) with hc1 | hc1
       ·exact YW.fin [(47,true)] [] [2,3,4,6,7,8,43] [(43,.d (.bool ((decide (((p2.getD a5.toNat default).op)≥(2:Int)))&&(decide (((p2.getD a5.toNat default).op)≤(4:Int))))))] [.k 3,.k 4,.k 6,.k 8] _ (a_ (a_ hc1 (a_ hc1 (a_ hc1 (a_ hc1 t_)))) (a_ (ovB (Eq.trans (andT (b:=(decide (((p2.getD a5.toNat default).op)≤(4:Int)))) hc1) (Eq.refl (decide (((p2.getD a5.toNat default).op)≤(4:Int)))))) t_)) (by kernel_rfl) rfl
       ·exact YW.fin [(47,false)] [] [2,3,4,6,7,8,43] [(43,.d (.bool ((decide (((p2.getD a5.toNat default).op)≥(2:Int)))&&(decide (((p2.getD a5.toNat default).op)≤(4:Int))))))] [.k 3,.k 4,.k 6,.k 8] _ (a_ (a_ hc1 (a_ hc1 (a_ hc1 (a_ hc1 t_)))) (a_ (ovB (andF (b:=(decide (((p2.getD a5.toNat default).op)≤(4:Int)))) hc1)) t_)) (by kernel_rfl) rfl
      refine AW2.cond (b:=((decide (((p2.getD a5.toNat default).op)≥(2:Int)))&&(decide (((p2.getD a5.toNat default).op)≤(4:Int))))) rfl (fun hc => ?_) (fun hc => ?_)
      ·replace H:=zaj H hc
       obtain ⟨x11,hx12,H⟩:=bind_some H
       refine r_ [.r (.agg (eSt8 x11))] [2,3,4,6,7] [] [.k 3,.k 4,.k 6] ⟨[(2,.d (sVI p2)),(3,.p 3 0),(4,.p 4 0),(6,.p 6 0),(7,.d (.int .i64 a5))],[(3,.st false (eD (eEnv8 p0))),(4,.st false (eD (eSt8 x11))),(6,.st false [.d .nils,.d (.int .i64 0),.d (.bool false),.d (.bool false),.d (.int .i64 0),.d (.bool false)])]⟩ (a_ (a_ (IH_ref08_block p0 a4 (p2.getD a5.toNat default) x11 hx12) t_) t_) ?_
       have H:=Option.some.inj H
       subst H
       exact zay [2,3,4,6,7] [] [.k 3,.k 4,.k 6] t_ (by kernel_rfl)
      ·replace H:=zak H hc
       refine AW2.seq ?_
       refine AW2.reg [] rfl (YW.to ⟨[(2,.d (sVI p2)),(3,.p 3 0),(4,.p 4 0),(6,.p 6 0),(7,.d (.int .i64 a5)),(8,.p 8 0),(56,.d (.bool ((decide (((p2.getD a5.toNat default).op)≥(12:Int)))&&(decide (((p2.getD a5.toNat default).op)≤(14:Int))))))],[(3,.st false (eD (eEnv8 p0))),(4,.st false (eD (eSt8 a4))),(6,.st false [.d .nils,.d (.int .i64 0),.d (.bool false),.d (.bool false),.d (.int .i64 0),.d (.bool false)]),(8,.st false (eD (eInstr (p2.getD a5.toNat default))))]⟩ ?qh37 ?h37)
       case h37 => 
        rcases bT (decide (((p2.getD a5.toNat default).op)≥(12:Int))) with hc1 | hc1
        ·exact YW.fin [(60,true)] [] [2,3,4,6,7,8,56] [(56,.d (.bool ((decide (((p2.getD a5.toNat default).op)≥(12:Int)))&&(decide (((p2.getD a5.toNat default).op)≤(14:Int))))))] [.k 3,.k 4,.k 6,.k 8] _ (a_ (a_ hc1 (a_ hc1 (a_ hc1 (a_ hc1 t_)))) (a_ (ovB (Eq.trans (andT (b:=(decide (((p2.getD a5.toNat default).op)≤(14:Int)))) hc1) (Eq.refl (decide (((p2.getD a5.toNat default).op)≤(14:Int)))))) t_)) (by kernel_rfl) rfl
        ·exact YW.fin [(60,false)] [] [2,3,4,6,7,8,56] [(56,.d (.bool ((decide (((p2.getD a5.toNat default).op)≥(12:Int)))&&(decide (((p2.getD a5.toNat default).op)≤(14:Int))))))] [.k 3,.k 4,.k 6,.k 8] _ (a_ (a_ hc1 (a_ hc1 (a_ hc1 (a_ hc1 t_)))) (a_ (ovB (andF (b:=(decide (((p2.getD a5.toNat default).op)≤(14:Int)))) hc1)) t_)) (by kernel_rfl) rfl
       refine AW2.cond (b:=((decide (((p2.getD a5.toNat default).op)≥(12:Int)))&&(decide (((p2.getD a5.toNat default).op)≤(14:Int))))) rfl (fun hc => ?_) (fun hc => ?_)
       ·replace H:=zaj H hc
        obtain ⟨x13,hx14,H⟩:=bind_some H
        refine r_ [.r (.agg (eSt8 x13))] [2,3,4,6,7] [] [.k 3,.k 4,.k 6] ⟨[(2,.d (sVI p2)),(3,.p 3 0),(4,.p 4 0),(6,.p 6 0),(7,.d (.int .i64 a5))],[(3,.st false (eD (eEnv8 p0))),(4,.st false (eD (eSt8 x13))),(6,.st false [.d .nils,.d (.int .i64 0),.d (.bool false),.d (.bool false),.d (.int .i64 0),.d (.bool false)])]⟩ (a_ (a_ (zvw k p0 a4 (p2.getD a5.toNat default) x13 hx14) t_) t_) ?_
        have H:=Option.some.inj H
        subst H
        exact zay [2,3,4,6,7] [] [.k 3,.k 4,.k 6] t_ (by kernel_rfl)
       ·replace H:=zak H hc
        refine AW2.seq ?_
        refine r_ [] [2,3,4,6,7,8,69] [] [.k 3,.k 4,.k 6,.k 8] ⟨[(2,.d (sVI p2)),(3,.p 3 0),(4,.p 4 0),(6,.p 6 0),(7,.d (.int .i64 a5)),(8,.p 8 0),(69,.d (.bool (((p2.getD a5.toNat default).op)==(15:Int))))],[(3,.st false (eD (eEnv8 p0))),(4,.st false (eD (eSt8 a4))),(6,.st false [.d .nils,.d (.int .i64 0),.d (.bool false),.d (.bool false),.d (.int .i64 0),.d (.bool false)]),(8,.st false (eD (eInstr (p2.getD a5.toNat default))))]⟩ (a_ t_ t_) ?_
        refine AW2.cond (b:=(((p2.getD a5.toNat default).op)==(15:Int))) rfl (fun hc => ?_) (fun hc => ?_)
        ·replace H:=zaj H hc
         refine AW2.seq ?_
         obtain ⟨x15,hx16,H⟩:=bind_some H
         refine r_ [.r (.tup [.agg (eSt8 x15.1),.int .u8 x15.2])] [2,3,4,6,7] [] [.k 3,.k 4,.k 6] ⟨[(2,.d (sVI p2)),(3,.p 3 0),(4,.p 4 0),(6,.p 6 0),(7,.d (.int .i64 a5))],[(3,.st false (eD (eEnv8 p0))),(4,.st false (eD (eSt8 x15.1))),(6,.st false [.d .nils,.d (.int .i64 0),.d (.bool false),.d (.bool false),.d (.int .i64 0),.d (.bool false)])]⟩ (a_ (a_ (zaS a4 p0.result x15 hx16) t_) t_) ?_
         obtain ⟨x17,hx18,H⟩:=bind_some H
         refine r_ [.r (.agg (eSt8 x17))] [2,3,4,6,7] [] [.k 3,.k 4,.k 6] ⟨[(2,.d (sVI p2)),(3,.p 3 0),(4,.p 4 0),(6,.p 6 0),(7,.d (.int .i64 a5))],[(3,.st false (eD (eEnv8 p0))),(4,.st false (eD (eSt8 x17))),(6,.st false [.d .nils,.d (.int .i64 0),.d (.bool false),.d (.bool false),.d (.int .i64 0),.d (.bool false)])]⟩ (a_ (a_ (zfZ x15.1 x17 hx18) t_) t_) ?_
         have H:=Option.some.inj H
         subst H
         exact zay [2,3,4,6,7] [] [.k 3,.k 4,.k 6] t_ (by kernel_rfl)
        ·replace H:=zak H hc
         refine AW2.seq ?_
         refine AW2.reg [] rfl (YW.to ⟨[(2,.d (sVI p2)),(3,.p 3 0),(4,.p 4 0),(6,.p 6 0),(7,.d (.int .i64 a5)),(8,.p 8 0),(82,.d (.bool ((((p2.getD a5.toNat default).op)==(16:Int))||(((p2.getD a5.toNat default).op)==(17:Int)))))],[(3,.st false (eD (eEnv8 p0))),(4,.st false (eD (eSt8 a4))),(6,.st false [.d .nils,.d (.int .i64 0),.d (.bool false),.d (.bool false),.d (.int .i64 0),.d (.bool false)]),(8,.st false (eD (eInstr (p2.getD a5.toNat default))))]⟩ ?qh36 ?h36)
         case h36 => 
          rcases bT (((p2.getD a5.toNat default).op)==(16:Int)) with hc1 | hc1
          ·exact YW.fin [(86,true)] [] [2,3,4,6,7,8,82] [(82,.d (.bool ((((p2.getD a5.toNat default).op)==(16:Int))||(((p2.getD a5.toNat default).op)==(17:Int)))))] [.k 3,.k 4,.k 6,.k 8] _ (a_ (a_ hc1 (a_ hc1 (a_ hc1 (a_ hc1 t_)))) (a_ (ovB (orT (b:=(((p2.getD a5.toNat default).op)==(17:Int))) hc1)) t_)) (by kernel_rfl) rfl
          ·exact YW.fin [(86,false)] [] [2,3,4,6,7,8,82] [(82,.d (.bool ((((p2.getD a5.toNat default).op)==(16:Int))||(((p2.getD a5.toNat default).op)==(17:Int)))))] [.k 3,.k 4,.k 6,.k 8] _ (a_ (a_ hc1 (a_ hc1 (a_ hc1 (a_ hc1 t_)))) (a_ (ovB (Eq.trans (orF (b:=(((p2.getD a5.toNat default).op)==(17:Int))) hc1) (Eq.refl (((p2.getD a5.toNat default).op)==(17:Int))))) t_)) (by kernel_rfl) rfl
         refine AW2.cond (b:=((((p2.getD a5.toNat default).op)==(16:Int))||(((p2.getD a5.toNat default).op)==(17:Int)))) rfl (fun hc => ?_) (fun hc => ?_)
         ·replace H:=zaj H hc
          obtain ⟨x19,hx20,H⟩:=bind_some H
          refine r_ [.r (.agg (eSt8 x19))] [2,3,4,6,7] [] [.k 3,.k 4,.k 6] ⟨[(2,.d (sVI p2)),(3,.p 3 0),(4,.p 4 0),(6,.p 6 0),(7,.d (.int .i64 a5))],[(3,.st false (eD (eEnv8 p0))),(4,.st false (eD (eSt8 x19))),(6,.st false [.d .nils,.d (.int .i64 0),.d (.bool false),.d (.bool false),.d (.int .i64 0),.d (.bool false)])]⟩ (a_ (a_ (zxa k p0 a4 (p2.getD a5.toNat default) x19 hx20) t_) t_) ?_
          have H:=Option.some.inj H
          subst H
          exact zay [2,3,4,6,7] [] [.k 3,.k 4,.k 6] t_ (by kernel_rfl)
         ·replace H:=zak H hc
          refine AW2.seq ?_
          refine r_ [] [2,3,4,6,7,8,95] [] [.k 3,.k 4,.k 6,.k 8] ⟨[(2,.d (sVI p2)),(3,.p 3 0),(4,.p 4 0),(6,.p 6 0),(7,.d (.int .i64 a5)),(8,.p 8 0),(95,.d (.bool (((p2.getD a5.toNat default).op)==(26:Int))))],[(3,.st false (eD (eEnv8 p0))),(4,.st false (eD (eSt8 a4))),(6,.st false [.d .nils,.d (.int .i64 0),.d (.bool false),.d (.bool false),.d (.int .i64 0),.d (.bool false)]),(8,.st false (eD (eInstr (p2.getD a5.toNat default))))]⟩ (a_ t_ t_) ?_
          refine AW2.cond (b:=(((p2.getD a5.toNat default).op)==(26:Int))) rfl (fun hc => ?_) (fun hc => ?_)
          ·replace H:=zaj H hc
           obtain ⟨x21,hx22,H⟩:=bind_some H
           refine r_ [.r (.tup [.agg (eSt8 x21.1),.int .u8 x21.2])] [2,3,4,6,7] [] [.k 3,.k 4,.k 6] ⟨[(2,.d (sVI p2)),(3,.p 3 0),(4,.p 4 0),(6,.p 6 0),(7,.d (.int .i64 a5))],[(3,.st false (eD (eEnv8 p0))),(4,.st false (eD (eSt8 x21.1))),(6,.st false [.d .nils,.d (.int .i64 0),.d (.bool false),.d (.bool false),.d (.int .i64 0),.d (.bool false)])]⟩ (a_ (a_ (zaS a4 255 x21 hx22) t_) t_) ?_
           have H:=Option.some.inj H
           subst H
           exact zay [2,3,4,6,7] [] [.k 3,.k 4,.k 6] t_ (by kernel_rfl)
          ·replace H:=zak H hc
           refine AW2.seq ?_
           refine r_ [] [2,3,4,6,7,8,104] [] [.k 3,.k 4,.k 6,.k 8] ⟨[(2,.d (sVI p2)),(3,.p 3 0),(4,.p 4 0),(6,.p 6 0),(7,.d (.int .i64 a5)),(8,.p 8 0),(104,.d (.bool (((p2.getD a5.toNat default).op)==(27:Int))))],[(3,.st false (eD (eEnv8 p0))),(4,.st false (eD (eSt8 a4))),(6,.st false [.d .nils,.d (.int .i64 0),.d (.bool false),.d (.bool false),.d (.int .i64 0),.d (.bool false)]),(8,.st false (eD (eInstr (p2.getD a5.toNat default))))]⟩ (a_ t_ t_) ?_
           refine AW2.cond (b:=(((p2.getD a5.toNat default).op)==(27:Int))) rfl (fun hc => ?_) (fun hc => ?_)
           ·replace H:=zaj H hc
            refine AW2.seq ?_
            obtain ⟨x23,hx24,H⟩:=bind_some H
            refine r_ [.r (.tup [.agg (eSt8 x23.1),.int .u8 x23.2]),.k 9] [2,3,4,6,7,9] [] [.k 3,.k 4,.k 6,.k 9] ⟨[(2,.d (sVI p2)),(3,.p 3 0),(4,.p 4 0),(6,.p 6 0),(7,.d (.int .i64 a5)),(9,.p 9 0)],[(3,.st false (eD (eEnv8 p0))),(4,.st false (eD (eSt8 a4))),(6,.st false [.d .nils,.d (.int .i64 0),.d (.bool false),.d (.bool false),.d (.int .i64 0),.d (.bool false)]),(9,.st false (eD (eSt8 x23.1)))]⟩ (a_ (a_ (zaS a4 127 x23 hx24) t_) t_) ?_
            refine AW2.seq ?_
            obtain ⟨x25,hx26,H⟩:=bind_some H
            refine r_ [.r (.tup [.agg (eSt8 x25.1),.int .u8 x25.2]),.k 11] [2,3,4,6,7,11,12] [] [.k 3,.k 4,.k 6,.k 11] ⟨[(2,.d (sVI p2)),(3,.p 3 0),(4,.p 4 0),(6,.p 6 0),(7,.d (.int .i64 a5)),(11,.p 11 0),(12,.d (.int .u8 x25.2))],[(3,.st false (eD (eEnv8 p0))),(4,.st false (eD (eSt8 a4))),(6,.st false [.d .nils,.d (.int .i64 0),.d (.bool false),.d (.bool false),.d (.int .i64 0),.d (.bool false)]),(11,.st false (eD (eSt8 x25.1)))]⟩ (a_ (a_ (zaS x23.1 255 x25 hx26) t_) t_) ?_
            refine AW2.seq ?_
            obtain ⟨x27,hx28,H⟩:=bind_some H
            refine r_ [.r (.tup [.agg (eSt8 x27.1),.int .u8 x27.2]),.k 13] [2,3,4,6,7,13,14] [] [.k 3,.k 4,.k 6,.k 13] ⟨[(2,.d (sVI p2)),(3,.p 3 0),(4,.p 4 0),(6,.p 6 0),(7,.d (.int .i64 a5)),(13,.p 13 0),(14,.d (.int .u8 x27.2))],[(3,.st false (eD (eEnv8 p0))),(4,.st false (eD (eSt8 a4))),(6,.st false [.d .nils,.d (.int .i64 0),.d (.bool false),.d (.bool false),.d (.int .i64 0),.d (.bool false)]),(13,.st false (eD (eSt8 x27.1)))]⟩ (a_ (a_ (zaS x25.1 x25.2 x27 hx28) t_) t_) ?_
            obtain ⟨x29,hx30,H⟩:=bind_some H
            refine r_ [.r (.agg (eSt8 x29))] [2,3,4,6,7] [] [.k 3,.k 4,.k 6] ⟨[(2,.d (sVI p2)),(3,.p 3 0),(4,.p 4 0),(6,.p 6 0),(7,.d (.int .i64 a5))],[(3,.st false (eD (eEnv8 p0))),(4,.st false (eD (eSt8 x29))),(6,.st false [.d .nils,.d (.int .i64 0),.d (.bool false),.d (.bool false),.d (.int .i64 0),.d (.bool false)])]⟩ (a_ (a_ (zes x27.1 x27.2 x29 hx30) t_) t_) ?_
            have H:=Option.some.inj H
            subst H
            exact zay [2,3,4,6,7] [] [.k 3,.k 4,.k 6] t_ (by kernel_rfl)
           ·replace H:=zak H hc
            refine AW2.seq ?_
            refine AW2.reg [] rfl (YW.to ⟨[(2,.d (sVI p2)),(3,.p 3 0),(4,.p 4 0),(6,.p 6 0),(7,.d (.int .i64 a5)),(8,.p 8 0),(127,.d (.bool ((decide (((p2.getD a5.toNat default).op)≥(32:Int)))&&(decide (((p2.getD a5.toNat default).op)≤(36:Int))))))],[(3,.st false (eD (eEnv8 p0))),(4,.st false (eD (eSt8 a4))),(6,.st false [.d .nils,.d (.int .i64 0),.d (.bool false),.d (.bool false),.d (.int .i64 0),.d (.bool false)]),(8,.st false (eD (eInstr (p2.getD a5.toNat default))))]⟩ ?qh35 ?h35)
            case h35 => 
             rcases bT (decide (((p2.getD a5.toNat default).op)≥(32:Int))) with hc1 | hc1
             ·exact YW.fin [(131,true)] [] [2,3,4,6,7,8,127] [(127,.d (.bool ((decide (((p2.getD a5.toNat default).op)≥(32:Int)))&&(decide (((p2.getD a5.toNat default).op)≤(36:Int))))))] [.k 3,.k 4,.k 6,.k 8] _ (a_ (a_ hc1 (a_ hc1 (a_ hc1 (a_ hc1 t_)))) (a_ (ovB (Eq.trans (andT (b:=(decide (((p2.getD a5.toNat default).op)≤(36:Int)))) hc1) (Eq.refl (decide (((p2.getD a5.toNat default).op)≤(36:Int)))))) t_)) (by kernel_rfl) rfl
             ·exact YW.fin [(131,false)] [] [2,3,4,6,7,8,127] [(127,.d (.bool ((decide (((p2.getD a5.toNat default).op)≥(32:Int)))&&(decide (((p2.getD a5.toNat default).op)≤(36:Int))))))] [.k 3,.k 4,.k 6,.k 8] _ (a_ (a_ hc1 (a_ hc1 (a_ hc1 (a_ hc1 t_)))) (a_ (ovB (andF (b:=(decide (((p2.getD a5.toNat default).op)≤(36:Int)))) hc1)) t_)) (by kernel_rfl) rfl
            refine AW2.cond (b:=((decide (((p2.getD a5.toNat default).op)≥(32:Int)))&&(decide (((p2.getD a5.toNat default).op)≤(36:Int))))) rfl (fun hc => ?_) (fun hc => ?_)
            ·replace H:=zaj H hc
             obtain ⟨x31,hx32,H⟩:=bind_some H
             refine r_ [.r (.agg (eSt8 x31))] [2,3,4,6,7] [] [.k 3,.k 4,.k 6] ⟨[(2,.d (sVI p2)),(3,.p 3 0),(4,.p 4 0),(6,.p 6 0),(7,.d (.int .i64 a5))],[(3,.st false (eD (eEnv8 p0))),(4,.st false (eD (eSt8 x31))),(6,.st false [.d .nils,.d (.int .i64 0),.d (.bool false),.d (.bool false),.d (.int .i64 0),.d (.bool false)])]⟩ (a_ (a_ (zpc p0 a4 (p2.getD a5.toNat default) x31 hx32) t_) t_) ?_
             have H:=Option.some.inj H
             subst H
             exact zay [2,3,4,6,7] [] [.k 3,.k 4,.k 6] t_ (by kernel_rfl)
            ·replace H:=zak H hc
             obtain ⟨x33,hx34,H⟩:=bind_some H
             refine r_ [.r (.agg (eSt8 x33))] [2,3,4,6,7] [] [.k 3,.k 4,.k 6] ⟨[(2,.d (sVI p2)),(3,.p 3 0),(4,.p 4 0),(6,.p 6 0),(7,.d (.int .i64 a5))],[(3,.st false (eD (eEnv8 p0))),(4,.st false (eD (eSt8 x33))),(6,.st false [.d .nils,.d (.int .i64 0),.d (.bool false),.d (.bool false),.d (.int .i64 0),.d (.bool false)])]⟩ (a_ (a_ (zwY k p0 a4 (p2.getD a5.toNat default) x33 hx34) t_) t_) ?_
             have H:=Option.some.inj H
             subst H
             exact zay [2,3,4,6,7] [] [.k 3,.k 4,.k 6] t_ (by kernel_rfl)
  ·replace H:=zak H hc
   refine AW2.exit ?_
   have H:=Option.some.inj H
   subst H
   exact zay [4,6] [] [.k 4,.k 6] t_ (by kernel_rfl)
theorem zmO:∀ k,(∀ (p0:Env8) (p1:St8) (p2:List Instr) (p3:Int) (p4:Int) (r:St8),zaF k p0 p1 p2 p3 p4=some r→CF E 57 [.agg (eEnv8 p0),.agg (eSt8 p1),sVI p2,.int .u8 p3,.int .u8 p4] (.agg (eSt8 r)))∧(∀ (p0:Env8) (p1:St8) (p2:Instr) (r:St8),zbm k p0 p1 p2=some r→CF E 43 [.agg (eEnv8 p0),.agg (eSt8 p1),.agg (eInstr p2)] (.agg (eSt8 r)))∧(∀ (p0:Env8) (p1:St8) (p2:List Instr) (r:St8),zaB k p0 p1 p2=some r→CF E 26 [.agg (eEnv8 p0),.agg (eSt8 p1),sVI p2] (.agg (eSt8 r))):=by
 intro k
 induction k with
 | zero => exact ⟨fun _ _ _ _ _ _ H => (by cases H),fun _ _ _ _ H => (by cases H),fun _ _ _ _ H => (by cases H)⟩
 | succ k ih => 
  obtain ⟨i0,i1,i2⟩:=ih
  exact ⟨zwv k i0 i1 i2,zww k i0 i1 i2,zxF k i0 i1 i2⟩
theorem zya (k:Nat):∀ (p0:Env8) (p1:St8) (p2:List Instr) (r:St8),zaB k p0 p1 p2=some r→CF E 26 [.agg (eEnv8 p0),.agg (eSt8 p1),sVI p2] (.agg (eSt8 r)):=(zmO k).2.2
def zdR (K:Nat) (p0:Mdl) (p1:Int):Option (Int×Int):=(if (decide (p1<(0:Int)))=true then some true else (if (decide (p1≥(p0.funcs.length:Int)))=true then some true else gd (0≤p1∧p1<(p0.funcs.length:Int)) (if (decide (((p0.funcs.getD p1.toNat default).type_)≥(IntKind.wrap .u32 (p0.types.length:Int))))=true then some true else ((zeb K p0).bind fun x2 => some (!x2))))).bind (fun j4 => (if j4=true then some (1,0) else gd (0≤p1∧p1<(p0.funcs.length:Int)) (gd (0≤((p0.funcs.getD p1.toNat default).type_)∧((p0.funcs.getD p1.toNat default).type_)<(p0.types.length:Int)) (gd (((p0.types.getD ((p0.funcs.getD p1.toNat default).type_).toNat default).params).length * 1≤140737488355328) (gd (0≤p1∧p1<(p0.funcs.length:Int)) (gd ((((p0.types.getD ((p0.funcs.getD p1.toNat default).type_).toNat default).params).length+((p0.funcs.getD p1.toNat default).locals).length) * 1≤140737488355328) (gd (0≤p1∧p1<(p0.funcs.length:Int)) ((zaB K (Env8.mk p0 ((p0.types.getD ((p0.funcs.getD p1.toNat default).type_).toNat default).result) ((p0.types.getD ((p0.funcs.getD p1.toNat default).type_).toNat default).params++(p0.funcs.getD p1.toNat default).locals) ([(p0.types.getD ((p0.funcs.getD p1.toNat default).type_).toNat default).result]:List Int)) (St8.mk ([]:List Int) 0 false false 0 true) ((p0.funcs.getD p1.toNat default).body)).bind fun x11 => ((zae x11 ((p0.types.getD ((p0.funcs.getD p1.toNat default).type_).toNat default).result)).bind fun x13 => (if ((!x13.1.ok)||(decide ((x13.1.l.length:Int)>(0:Int))))=true then some (7,0) else some (0,x13.1.most)))))))))))
theorem zyb (K:Nat) (p0:Mdl) (p1:Int) (r:Int×Int) (H:zdR K p0 p1=some r):CF E 8 [.agg (eMdl p0),.int .i64 p1] (.tup [.int .i64 r.1,.int .i64 r.2]):=by
 refine zcG (A:=zoQ) zwL rfl fun fr => ?_
 unfold zdR at H
 refine AW2.seq ?_
 refine r_ [.k 2] [1,2] [] [.k 2] ⟨[(1,.d (.int .i64 p1)),(2,.p 2 0)],[(2,.st false (eD (eMdl p0)))]⟩ (a_ t_ t_) ?_
 refine AW2.seq ?_
 refine AW2.seq ?_
 obtain ⟨j4,H17,H⟩:=bind_some H
 refine AW2.reg [] rfl (YW.to ⟨[(1,.d (.int .i64 p1)),(2,.p 2 0),(35,.d (.bool j4))],[(2,.st false (eD (eMdl p0)))]⟩ ?qh18 ?h18)
 case h18 => 
  have H:=H17
  rcases bT (decide (p1<(0:Int))) with hc1 | hc1
  ·replace H:=zaj H hc1
   have H:=Option.some.inj H
   subst H
   exact YW.fin [(11,true),(18,true),(31,true)] [] [1,2,35] [] [.k 2] _ (a_ (a_ hc1 (a_ hc1 (a_ hc1 (a_ hc1 (a_ hc1 (a_ hc1 (a_ (Eq.refl true) (a_ (Eq.refl true) (a_ (Eq.refl true) (a_ (Eq.refl true) (a_ (Eq.refl true) (a_ (Eq.refl true) (a_ (Eq.refl true) (a_ (Eq.refl true) (a_ (Eq.refl true) (a_ (Eq.refl true) (a_ (Eq.refl true) (a_ (Eq.refl true) (a_ (Eq.refl true) (a_ (Eq.refl true) (a_ (Eq.refl true) (a_ (Eq.refl true) t_)))))))))))))))))))))) t_) (by kernel_rfl) rfl
  ·replace H:=zak H hc1
   rcases bT (decide (p1≥(p0.funcs.length:Int))) with hc2 | hc2
   ·replace H:=zaj H hc2
    have H:=Option.some.inj H
    subst H
    exact YW.fin [(11,false),(18,true),(31,true)] [] [1,2,35] [] [.k 2] _ (a_ (a_ hc1 (a_ hc1 (a_ hc1 (a_ hc1 (a_ hc1 (a_ hc1 (a_ hc2 (a_ hc2 (a_ hc2 (a_ hc2 (a_ hc2 (a_ hc2 (a_ hc2 (a_ hc2 (a_ hc2 (a_ hc2 (a_ hc2 (a_ hc2 (a_ (Eq.refl true) (a_ (Eq.refl true) (a_ (Eq.refl true) (a_ (Eq.refl true) t_)))))))))))))))))))))) t_) (by kernel_rfl) rfl
   ·replace H:=zak H hc2
    obtain ⟨h1,H⟩:=zad H
    rcases bT (decide (((p0.funcs.getD p1.toNat default).type_)≥(IntKind.wrap .u32 (p0.types.length:Int)))) with hc3 | hc3
    ·replace H:=zaj H hc3
     have H:=Option.some.inj H
     subst H
     exact YW.fin [(11,false),(18,false),(31,true)] [] [1,2,35] [] [.k 2] _ (a_ (a_ hc1 (a_ hc1 (a_ hc1 (a_ hc1 (a_ hc1 (a_ hc1 (a_ hc2 (a_ hc2 (a_ hc2 (a_ hc2 (a_ h1 (a_ hc2 (a_ hc2 (a_ hc2 (a_ hc2 (a_ hc2 (a_ hc2 (a_ hc2 (a_ hc2 (a_ hc3 (a_ hc3 (a_ hc3 (a_ hc3 t_))))))))))))))))))))))) t_) (by kernel_rfl) rfl
    ·replace H:=zak H hc3
     obtain ⟨x2,hx3,H⟩:=bind_some H
     have H:=Option.some.inj H
     subst H
     exact YW.fin [(11,false),(18,false),(31,false)] [.r (.bool x2)] [1,2,35] [] [.k 2] _ (a_ (a_ hc1 (a_ hc1 (a_ hc1 (a_ hc1 (a_ hc1 (a_ hc1 (a_ hc2 (a_ hc2 (a_ hc2 (a_ hc2 (a_ h1 (a_ hc2 (a_ hc2 (a_ hc2 (a_ hc2 (a_ hc2 (a_ hc2 (a_ hc2 (a_ hc2 (a_ hc3 (a_ hc3 (a_ (zwZ K p0 x2 hx3) (a_ hc3 (a_ hc3 t_)))))))))))))))))))))))) t_) (by kernel_rfl) rfl
 refine AW2.cond (b:=j4) rfl (fun hc => ?_) (fun hc => ?_)
 ·replace H:=zaj H hc
  refine AW2.seq ?_
  refine r_ [] [4,5] [] [] ⟨[(4,.d (.int .i64 1)),(5,.d (.int .i64 0))],[]⟩ (a_ t_ t_) ?_
  refine AW2.ret ?_
  have H:=Option.some.inj H
  subst H
  exact retP_mk2 t_ (by kernel_rfl)
 ·replace H:=zak H hc
  refine AW2.skip ?_
  refine AW2.seq ?_
  obtain ⟨h5,H⟩:=zad H
  obtain ⟨h6,H⟩:=zad H
  refine r_ [.k 6] [1,2,6] [] [.k 2,.k 6] ⟨[(1,.d (.int .i64 p1)),(2,.p 2 0),(6,.p 6 0)],[(2,.st false (eD (eMdl p0))),(6,.st false (eD (eTyp (p0.types.getD ((p0.funcs.getD p1.toNat default).type_).toNat default))))]⟩ (a_ (a_ h5 (a_ h6 t_)) t_) ?_
  refine AW2.seq ?_
  refine r_ [] [1,2,6,7] [] [.k 2,.k 6] ⟨[(1,.d (.int .i64 p1)),(2,.p 2 0),(6,.p 6 0),(7,.d .nils)],[(2,.st false (eD (eMdl p0))),(6,.st false (eD (eTyp (p0.types.getD ((p0.funcs.getD p1.toNat default).type_).toNat default))))]⟩ (a_ t_ t_) ?_
  refine AW2.seq ?_
  obtain ⟨h7,H⟩:=zad H
  obtain ⟨h8,H⟩:=zad H
  obtain ⟨h9,H⟩:=zad H
  refine r_ [.ks false 49 ((p0.types.getD ((p0.funcs.getD p1.toNat default).type_).toNat default).params).length (fl (eI .u8) ((p0.types.getD ((p0.funcs.getD p1.toNat default).type_).toNat default).params)),.s false ((p0.types.getD ((p0.funcs.getD p1.toNat default).type_).toNat default).params++(p0.funcs.getD p1.toNat default).locals).length (fl (eI .u8) ((p0.types.getD ((p0.funcs.getD p1.toNat default).type_).toNat default).params++(p0.funcs.getD p1.toNat default).locals))] [1,2,6,7] [] [.k 2,.k 6,.k 49] ⟨[(1,.d (.int .i64 p1)),(2,.p 2 0),(6,.p 6 0),(7,.ls 49 0 ((p0.types.getD ((p0.funcs.getD p1.toNat default).type_).toNat default).params++(p0.funcs.getD p1.toNat default).locals).length)],[(2,.st false (eD (eMdl p0))),(6,.st false (eD (eTyp (p0.types.getD ((p0.funcs.getD p1.toNat default).type_).toNat default)))),(49,.sl false 1 ((p0.types.getD ((p0.funcs.getD p1.toNat default).type_).toNat default).params++(p0.funcs.getD p1.toNat default).locals).length (fl (eI .u8) ((p0.types.getD ((p0.funcs.getD p1.toNat default).type_).toNat default).params++(p0.funcs.getD p1.toNat default).locals)))]⟩ (a_ (a_ (lcl (eI .u8) (zzC .u8) ((p0.types.getD ((p0.funcs.getD p1.toNat default).type_).toNat default).params)) (a_ h7 (a_ (a_ (Eq.refl ((p0.types.getD ((p0.funcs.getD p1.toNat default).type_).toNat default).params).length) (fun i (_:i<((p0.types.getD ((p0.funcs.getD p1.toNat default).type_).toNat default).params).length) => Eq.refl (fl (eI .u8) ((p0.types.getD ((p0.funcs.getD p1.toNat default).type_).toNat default).params) i))) (a_ h8 (a_ (lcl (eI .u8) (zzC .u8) ((p0.funcs.getD p1.toNat default).locals)) (a_ (Nat.le_refl ((p0.types.getD ((p0.funcs.getD p1.toNat default).type_).toNat default).params).length) (a_ h9 (a_ (appN (eI .u8) ((p0.types.getD ((p0.funcs.getD p1.toNat default).type_).toNat default).params) ((p0.funcs.getD p1.toNat default).locals)) t_)))))))) t_) ?_
  refine AW2.seq ?_
  refine AW2.fz [sV (eI .u8) ((p0.types.getD ((p0.funcs.getD p1.toNat default).type_).toNat default).params++(p0.funcs.getD p1.toNat default).locals)] (a_ (Nat.le_refl ((p0.types.getD ((p0.funcs.getD p1.toNat default).type_).toNat default).params++(p0.funcs.getD p1.toNat default).locals).length) (a_ (dfl (eI .u8) (zoF .u8) ((p0.types.getD ((p0.funcs.getD p1.toNat default).type_).toNat default).params++(p0.funcs.getD p1.toNat default).locals)) t_)) (by kernel_rfl) (by kernel_rfl) ?_
  refine AW2.wk (zay [1,2,6,7] [] [.k 2,.k 6] t_ (by kernel_rfl):Wk _ ⟨[(1,.d (.int .i64 p1)),(2,.p 2 0),(6,.p 6 0),(7,.d (sV (eI .u8) ((p0.types.getD ((p0.funcs.getD p1.toNat default).type_).toNat default).params++(p0.funcs.getD p1.toNat default).locals)))],[(2,.st false (eD (eMdl p0))),(6,.st false (eD (eTyp (p0.types.getD ((p0.funcs.getD p1.toNat default).type_).toNat default))))]⟩) ?_
  obtain ⟨h10,H⟩:=zad H
  obtain ⟨x11,hx12,H⟩:=bind_some H
  refine r_ [.sb ([(p0.types.getD ((p0.funcs.getD p1.toNat default).type_).toNat default).result]:List Int).length (fl (eI .u8) ([(p0.types.getD ((p0.funcs.getD p1.toNat default).type_).toNat default).result]:List Int)),.r (.agg (eSt8 x11)),.k 8] [6,8] [] [.k 6,.k 8] ⟨[(6,.p 6 0),(8,.p 8 0)],[(6,.st false (eD (eTyp (p0.types.getD ((p0.funcs.getD p1.toNat default).type_).toNat default)))),(8,.st false (eD (eSt8 x11)))]⟩ (a_ (a_ (litF (eI .u8) ([(p0.types.getD ((p0.funcs.getD p1.toNat default).type_).toNat default).result]:List Int)) (a_ h10 (a_ (zya K (Env8.mk p0 ((p0.types.getD ((p0.funcs.getD p1.toNat default).type_).toNat default).result) ((p0.types.getD ((p0.funcs.getD p1.toNat default).type_).toNat default).params++(p0.funcs.getD p1.toNat default).locals) ([(p0.types.getD ((p0.funcs.getD p1.toNat default).type_).toNat default).result]:List Int)) (St8.mk ([]:List Int) 0 false false 0 true) ((p0.funcs.getD p1.toNat default).body) x11 hx12) t_))) t_) ?_
  refine AW2.seq ?_
  obtain ⟨x13,hx14,H⟩:=bind_some H
  refine r_ [.r (.tup [.agg (eSt8 x13.1),.int .u8 x13.2])] [8] [] [.k 8] ⟨[(8,.p 8 0)],[(8,.st false (eD (eSt8 x13.1)))]⟩ (a_ (a_ (zaS x11 ((p0.types.getD ((p0.funcs.getD p1.toNat default).type_).toNat default).result) x13 hx14) t_) t_) ?_
  refine AW2.seq ?_
  refine AW2.seq ?_
  refine AW2.reg [] rfl (YW.to ⟨[(8,.p 8 0),(88,.d (.bool ((!x13.1.ok)||(decide ((x13.1.l.length:Int)>(0:Int))))))],[(8,.st false (eD (eSt8 x13.1)))]⟩ ?qh15 ?h15)
  case h15 => 
   rcases bT (!x13.1.ok) with hc1 | hc1
   ·exact YW.fin [(83,true)] [] [8,88] [(88,.d (.bool ((!x13.1.ok)||(decide ((x13.1.l.length:Int)>(0:Int))))))] [.k 8] _ (a_ (a_ hc1 (a_ hc1 (a_ hc1 (a_ hc1 (a_ hc1 t_))))) (a_ (ovB (orT (b:=(decide ((x13.1.l.length:Int)>(0:Int)))) hc1)) t_)) (by kernel_rfl) rfl
   ·exact YW.fin [(83,false)] [] [8,88] [(88,.d (.bool ((!x13.1.ok)||(decide ((x13.1.l.length:Int)>(0:Int))))))] [.k 8] _ (a_ (a_ hc1 (a_ hc1 (a_ hc1 (a_ hc1 (a_ hc1 t_))))) (a_ (ovB (Eq.trans (orF (b:=(decide ((x13.1.l.length:Int)>(0:Int)))) hc1) (Eq.refl (decide ((x13.1.l.length:Int)>(0:Int)))))) t_)) (by kernel_rfl) rfl
  refine AW2.cond (b:=((!x13.1.ok)||(decide ((x13.1.l.length:Int)>(0:Int))))) rfl (fun hc => ?_) (fun hc => ?_)
  ·replace H:=zaj H hc
   refine AW2.seq ?_
   refine r_ [] [4,5] [] [] ⟨[(4,.d (.int .i64 7)),(5,.d (.int .i64 0))],[]⟩ (a_ t_ t_) ?_
   refine AW2.ret ?_
   have H:=Option.some.inj H
   subst H
   exact retP_mk2 t_ (by kernel_rfl)
  ·replace H:=zak H hc
   refine AW2.skip ?_
   refine AW2.seq ?_
   refine r_ [] [4,5] [] [] ⟨[(4,.d (.int .i64 0)),(5,.d (.int .i64 x13.1.most))],[]⟩ (a_ t_ t_) ?_
   refine AW2.ret ?_
   have H:=Option.some.inj H
   subst H
   exact retP_mk2 t_ (by kernel_rfl)
def zdt (K:Nat) (p0:Mdl) (p1:Int):Option (Int×Option Int):=((zcZ K p0 p1).bind fun x1 => (if (!x1.2.isNone)=true then some (0,x1.2) else ((x1.1).bind fun x3 => some (x3.most,none))))
theorem zvu (K:Nat) (p0:Mdl) (p1:Int) (r:Int×Option Int) (H:zdt K p0 p1=some r):CF E 7 [.agg (eMdl p0),.int .i64 p1] (.tup [.int .i64 r.1,.err 45 r.2]):=by
 refine zcG (A:=zgA) zjn rfl fun fr => ?_
 unfold zdt at H
 refine AW2.seq ?_
 refine r_ [.k 2] [1,2] [] [.k 2] ⟨[(1,.d (.int .i64 p1)),(2,.p 2 0)],[(2,.st false (eD (eMdl p0)))]⟩ (a_ t_ t_) ?_
 refine AW2.seq ?_
 obtain ⟨x1,hx2,H⟩:=bind_some H
 refine r_ [.r (.tup [.pt (x1.1.map eChecker),.err 45 x1.2])] [6,7] [] [] ⟨[(6,.d (.pt (x1.1.map eChecker))),(7,.d (.err 45 x1.2))],[]⟩ (a_ (a_ (zlP K p0 p1 x1 hx2) t_) t_) ?_
 refine AW2.seq ?_
 refine AW2.seq ?_
 refine r_ [] [6,7,15] [] [] ⟨[(6,.d (.pt (x1.1.map eChecker))),(7,.d (.err 45 x1.2)),(15,.d (.bool (!x1.2.isNone)))],[]⟩ (a_ t_ t_) ?_
 refine AW2.cond (b:=(!x1.2.isNone)) rfl (fun hc => ?_) (fun hc => ?_)
 ·replace H:=zaj H hc
  refine AW2.seq ?_
  refine r_ [] [4,5] [] [] ⟨[(4,.d (.int .i64 0)),(5,.d (.err 45 x1.2))],[]⟩ (a_ t_ t_) ?_
  refine AW2.ret ?_
  have H:=Option.some.inj H
  subst H
  exact retP_mk2 t_ (by kernel_rfl)
 ·replace H:=zak H hc
  refine AW2.skip ?_
  refine AW2.seq ?_
  obtain ⟨x3,hx4,H⟩:=bind_some H
  refine r_ [.e (eChecker x3)] [4,5] [] [] ⟨[(4,.d (.int .i64 x3.most)),(5,.d .nili)],[]⟩ (a_ (a_ (optS eChecker hx4) t_) t_) ?_
  refine AW2.ret ?_
  have H:=Option.some.inj H
  subst H
  exact retP_mk2 t_ (by kernel_rfl)
def zec (p0:List Int) (p1:Int) (p2:List Instr):Option (Mdl):=some (Mdl.mk ([(Typ.mk p0 p1),(Typ.mk ([127]:List Int) 126),(Typ.mk ([]:List Int) 0)]:List Typ) ([(Fnc.mk 0 ([127,126]:List Int) p2),(Fnc.mk 1 ([]:List Int) ([(Instr.mk 66 0 0 0 0 ([]:List Instr) ([]:List Instr) ([]:List Int))]:List Instr)),(Fnc.mk 2 ([]:List Int) ([]:List Instr))]:List Fnc) ([(Lim.mk 4 false 0)]:List Lim) ([(Lim.mk 1 false 0)]:List Lim) ([(Glo.mk 127 true (Instr.mk 65 0 0 0 0 ([]:List Instr) ([]:List Instr) ([]:List Int))),(Glo.mk 126 false (Instr.mk 66 0 0 0 0 ([]:List Instr) ([]:List Instr) ([]:List Int)))]:List Glo) ([]:List Xpo) ([]:List Ele) ([]:List Dat))
theorem zxc (p0:List Int) (p1:Int) (p2:List Instr) (r:Mdl) (H:zec p0 p1 p2=some r):CF E 11 [sV (eI .u8) p0,.int .u8 p1,sVI p2] (.agg (eMdl r)):=by
 refine zcG (A:=zmz) zvs rfl fun fr => ?_
 unfold zec at H
 refine AW2.seq ?_
 refine r_ [.k 6] [0,1,2,6] [] [.k 6] ⟨[(0,.d (sV (eI .u8) p0)),(1,.d (.int .u8 p1)),(2,.d (sVI p2)),(6,.p 6 0)],[(6,.st false [.d .nils,.d .nils,.d .nils,.d .nils,.d .nils,.d .nils,.d .nils,.d .nils])]⟩ (a_ t_ t_) ?_
 refine AW2.seq ?_
 refine r_ [.k 7] [0,1,2,6,7] [] [.k 6,.k 7] ⟨[(0,.d (sV (eI .u8) p0)),(1,.d (.int .u8 p1)),(2,.d (sVI p2)),(6,.p 6 0),(7,.p 7 0)],[(6,.st false [.d .nils,.d .nils,.d .nils,.d .nils,.d .nils,.d .nils,.d .nils,.d .nils]),(7,.st false [.d (.int .u8 65),.d (.int .i64 0),.d (.int .u32 0),.d (.int .u32 0),.d (.int .u8 0),.d .nils,.d .nils,.d .nils])]⟩ (a_ t_ t_) ?_
 refine AW2.seq ?_
 refine r_ [.k 8] [0,1,2,6,7,8] [] [.k 6,.k 7,.k 8] ⟨[(0,.d (sV (eI .u8) p0)),(1,.d (.int .u8 p1)),(2,.d (sVI p2)),(6,.p 6 0),(7,.p 7 0),(8,.p 8 0)],[(6,.st false [.d .nils,.d .nils,.d .nils,.d .nils,.d .nils,.d .nils,.d .nils,.d .nils]),(7,.st false [.d (.int .u8 65),.d (.int .i64 0),.d (.int .u32 0),.d (.int .u32 0),.d (.int .u8 0),.d .nils,.d .nils,.d .nils]),(8,.st false [.d (.int .u8 66),.d (.int .i64 0),.d (.int .u32 0),.d (.int .u32 0),.d (.int .u8 0),.d .nils,.d .nils,.d .nils])]⟩ (a_ t_ t_) ?_
 refine AW2.seq ?_
 refine r_ [.sb ([127]:List Int).length (fl (eI .u8) ([127]:List Int)),.sb ([(Typ.mk p0 p1),(Typ.mk ([127]:List Int) 126),(Typ.mk ([]:List Int) 0)]:List Typ).length (fl eTyp ([(Typ.mk p0 p1),(Typ.mk ([127]:List Int) 126),(Typ.mk ([]:List Int) 0)]:List Typ)),.sb ([127,126]:List Int).length (fl (eI .u8) ([127,126]:List Int)),.sb ([(Instr.mk 66 0 0 0 0 ([]:List Instr) ([]:List Instr) ([]:List Int))]:List Instr).length (flI ([(Instr.mk 66 0 0 0 0 ([]:List Instr) ([]:List Instr) ([]:List Int))]:List Instr)),.sb ([(Fnc.mk 0 ([127,126]:List Int) p2),(Fnc.mk 1 ([]:List Int) ([(Instr.mk 66 0 0 0 0 ([]:List Instr) ([]:List Instr) ([]:List Int))]:List Instr)),(Fnc.mk 2 ([]:List Int) ([]:List Instr))]:List Fnc).length (fl eFnc ([(Fnc.mk 0 ([127,126]:List Int) p2),(Fnc.mk 1 ([]:List Int) ([(Instr.mk 66 0 0 0 0 ([]:List Instr) ([]:List Instr) ([]:List Int))]:List Instr)),(Fnc.mk 2 ([]:List Int) ([]:List Instr))]:List Fnc)),.sb ([(Lim.mk 4 false 0)]:List Lim).length (fl eLim ([(Lim.mk 4 false 0)]:List Lim)),.sb ([(Lim.mk 1 false 0)]:List Lim).length (fl eLim ([(Lim.mk 1 false 0)]:List Lim)),.sb ([(Glo.mk 127 true (Instr.mk 65 0 0 0 0 ([]:List Instr) ([]:List Instr) ([]:List Int))),(Glo.mk 126 false (Instr.mk 66 0 0 0 0 ([]:List Instr) ([]:List Instr) ([]:List Int)))]:List Glo).length (fl eGlo ([(Glo.mk 127 true (Instr.mk 65 0 0 0 0 ([]:List Instr) ([]:List Instr) ([]:List Int))),(Glo.mk 126 false (Instr.mk 66 0 0 0 0 ([]:List Instr) ([]:List Instr) ([]:List Int)))]:List Glo))] [6] [] [.k 6] ⟨[(6,.p 6 0)],[(6,.st false [.d (sV eTyp ([(Typ.mk p0 p1),(Typ.mk ([127]:List Int) 126),(Typ.mk ([]:List Int) 0)]:List Typ)),.d (sV eFnc ([(Fnc.mk 0 ([127,126]:List Int) p2),(Fnc.mk 1 ([]:List Int) ([(Instr.mk 66 0 0 0 0 ([]:List Instr) ([]:List Instr) ([]:List Int))]:List Instr)),(Fnc.mk 2 ([]:List Int) ([]:List Instr))]:List Fnc)),.d (sV eLim ([(Lim.mk 4 false 0)]:List Lim)),.d (sV eLim ([(Lim.mk 1 false 0)]:List Lim)),.d (sV eGlo ([(Glo.mk 127 true (Instr.mk 65 0 0 0 0 ([]:List Instr) ([]:List Instr) ([]:List Int))),(Glo.mk 126 false (Instr.mk 66 0 0 0 0 ([]:List Instr) ([]:List Instr) ([]:List Int)))]:List Glo)),.d .nils,.d .nils,.d .nils])]⟩ (a_ (a_ (litF (eI .u8) ([127]:List Int)) (a_ (litF eTyp ([(Typ.mk p0 p1),(Typ.mk ([127]:List Int) 126),(Typ.mk ([]:List Int) 0)]:List Typ)) (a_ (litF (eI .u8) ([127,126]:List Int)) (a_ (litI ([(Instr.mk 66 0 0 0 0 ([]:List Instr) ([]:List Instr) ([]:List Int))]:List Instr)) (a_ (litF eFnc ([(Fnc.mk 0 ([127,126]:List Int) p2),(Fnc.mk 1 ([]:List Int) ([(Instr.mk 66 0 0 0 0 ([]:List Instr) ([]:List Instr) ([]:List Int))]:List Instr)),(Fnc.mk 2 ([]:List Int) ([]:List Instr))]:List Fnc)) (a_ (litF eLim ([(Lim.mk 4 false 0)]:List Lim)) (a_ (litF eLim ([(Lim.mk 1 false 0)]:List Lim)) (a_ (litF eGlo ([(Glo.mk 127 true (Instr.mk 65 0 0 0 0 ([]:List Instr) ([]:List Instr) ([]:List Int))),(Glo.mk 126 false (Instr.mk 66 0 0 0 0 ([]:List Instr) ([]:List Instr) ([]:List Int)))]:List Glo)) t_)))))))) t_) ?_
 refine AW2.ret ?_
 have H:=Option.some.inj H
 subst H
 exact retP_mk2 t_ (by kernel_rfl)
def zcj (K:Nat) (p0:List Int) (p1:Int) (p2:List Instr):Option (Bool):=((zec p0 p1 p2).bind fun x1 => ((zcf K x1).bind fun x3 => (if x3=true then ((zjl).bind fun x5 => some x5) else ((zbT K x1).bind fun x7 => ((zdt K x7 0).bind fun x9 => ((zdR K x1 0).bind fun x11 => ((zhD x9.2).bind fun x13 => (if (x13==x11.1)=true then (if (x9.1==x11.2)=true then ((zeu K x7 0).bind fun x15 => ((zhD x15).bind fun x17 => (if (x17==x11.1)=true then ((zjl).bind fun x19 => some x19) else some false))) else some false) else some false).bind (fun j21 => some j21))))))))
theorem zli (K:Nat) (p0:List Int) (p1:Int) (p2:List Instr) (r:Bool) (H:zcj K p0 p1 p2=some r):CF E 10 [sV (eI .u8) p0,.int .u8 p1,sVI p2] (.bool r):=by
 refine zcG (A:=zfu) zkm rfl fun fr => ?_
 unfold zcj at H
 refine AW2.seq ?_
 refine r_ [] [0,1,2] [] [] ⟨[(0,.d (sV (eI .u8) p0)),(1,.d (.int .u8 p1)),(2,.d (sVI p2))],[]⟩ (a_ t_ t_) ?_
 refine AW2.seq ?_
 obtain ⟨x1,hx2,H⟩:=bind_some H
 refine r_ [.r (.agg (eMdl x1)),.k 7] [7] [] [.k 7] ⟨[(7,.p 7 0)],[(7,.st false (eD (eMdl x1)))]⟩ (a_ (a_ (zxc p0 p1 p2 x1 hx2) t_) t_) ?_
 refine AW2.seq ?_
 refine AW2.seq ?_
 obtain ⟨x3,hx4,H⟩:=bind_some H
 refine r_ [.r (.bool x3)] [7,18] [] [.k 7] ⟨[(7,.p 7 0),(18,.d (.bool x3))],[(7,.st false (eD (eMdl x1)))]⟩ (a_ (a_ (zmP K x1 x3 hx4) t_) t_) ?_
 refine AW2.cond (b:=x3) rfl (fun hc => ?_) (fun hc => ?_)
 ·replace H:=zaj H hc
  refine AW2.seq ?_
  obtain ⟨x5,hx6,H⟩:=bind_some H
  refine r_ [.r (.bool x5)] [6] [] [] ⟨[(6,.d (.bool x5))],[]⟩ (a_ (a_ (zoH x5 hx6) t_) t_) ?_
  refine AW2.ret ?_
  have H:=Option.some.inj H
  subst H
  exact retP_mk2 t_ (by kernel_rfl)
 ·replace H:=zak H hc
  refine AW2.skip ?_
  refine AW2.seq ?_
  obtain ⟨x7,hx8,H⟩:=bind_some H
  refine r_ [.r (.agg (eMdl x7)),.k 8] [7,8] [] [.k 7,.k 8] ⟨[(7,.p 7 0),(8,.p 8 0)],[(7,.st false (eD (eMdl x1))),(8,.st false (eD (eMdl x7)))]⟩ (a_ (a_ (zlR K x1 x7 hx8) t_) t_) ?_
  refine AW2.seq ?_
  obtain ⟨x9,hx10,H⟩:=bind_some H
  refine r_ [.r (.tup [.int .i64 x9.1,.err 45 x9.2])] [7,8,9,10] [] [.k 7,.k 8] ⟨[(7,.p 7 0),(8,.p 8 0),(9,.d (.int .i64 x9.1)),(10,.d (.err 45 x9.2))],[(7,.st false (eD (eMdl x1))),(8,.st false (eD (eMdl x7)))]⟩ (a_ (a_ (zvu K x7 0 x9 hx10) t_) t_) ?_
  refine AW2.seq ?_
  obtain ⟨x11,hx12,H⟩:=bind_some H
  refine r_ [.r (.tup [.int .i64 x11.1,.int .i64 x11.2])] [8,9,10,11,12] [] [.k 8] ⟨[(8,.p 8 0),(9,.d (.int .i64 x9.1)),(10,.d (.err 45 x9.2)),(11,.d (.int .i64 x11.1)),(12,.d (.int .i64 x11.2))],[(8,.st false (eD (eMdl x7)))]⟩ (a_ (a_ (zyb K x1 0 x11 hx12) t_) t_) ?_
  refine AW2.seq ?_
  obtain ⟨x13,hx14,H⟩:=bind_some H
  obtain ⟨j21,H23,H⟩:=bind_some H
  refine AW2.reg [] rfl (YW.to ⟨[(6,.d (.bool j21))],[]⟩ ?qh24 ?h24)
  case h24 => 
   have H:=H23
   rcases bT (x13==x11.1) with hc1 | hc1
   ·replace H:=zaj H hc1
    rcases bT (x9.1==x11.2) with hc2 | hc2
    ·replace H:=zaj H hc2
     obtain ⟨x15,hx16,H⟩:=bind_some H
     obtain ⟨x17,hx18,H⟩:=bind_some H
     rcases bT (x17==x11.1) with hc3 | hc3
     ·replace H:=zaj H hc3
      obtain ⟨x19,hx20,H⟩:=bind_some H
      have H:=Option.some.inj H
      subst H
      exact YW.fin [(36,true),(41,true),(48,true)] [.r (.int .i64 x13),.r (.err 45 x15),.r (.int .i64 x17),.r (.bool x19)] [6] [] [] _ (a_ (a_ (zet x9.2 x13 hx14) (a_ hc1 (a_ hc1 (a_ hc1 (a_ hc1 (a_ hc2 (a_ hc2 (a_ (zoG K x7 0 x15 hx16) (a_ hc2 (a_ (zet x15 x17 hx18) (a_ hc2 (a_ hc2 (a_ hc2 (a_ hc3 (a_ (zoH x19 hx20) (a_ hc3 t_)))))))))))))))) t_) (by kernel_rfl) rfl
     ·replace H:=zak H hc3
      have H:=Option.some.inj H
      subst H
      exact YW.fin [(36,true),(41,true),(48,false)] [.r (.int .i64 x13),.r (.err 45 x15),.r (.int .i64 x17)] [6] [] [] _ (a_ (a_ (zet x9.2 x13 hx14) (a_ hc1 (a_ hc1 (a_ hc1 (a_ hc1 (a_ hc2 (a_ hc2 (a_ (zoG K x7 0 x15 hx16) (a_ hc2 (a_ (zet x15 x17 hx18) (a_ hc2 (a_ hc2 (a_ hc2 (a_ hc3 (a_ hc3 t_))))))))))))))) t_) (by kernel_rfl) rfl
    ·replace H:=zak H hc2
     have H:=Option.some.inj H
     subst H
     exact YW.fin [(36,true),(41,false),(48,false)] [.r (.int .i64 x13)] [6] [] [] _ (a_ (a_ (zet x9.2 x13 hx14) (a_ hc1 (a_ hc1 (a_ hc1 (a_ hc1 (a_ hc2 (a_ hc2 (a_ hc2 (a_ hc2 (a_ hc2 (a_ hc2 (a_ (Eq.refl false) (a_ (Eq.refl false) t_))))))))))))) t_) (by kernel_rfl) rfl
   ·replace H:=zak H hc1
    have H:=Option.some.inj H
    subst H
    exact YW.fin [(36,false),(41,false),(48,false)] [.r (.int .i64 x13)] [6] [] [] _ (a_ (a_ (zet x9.2 x13 hx14) (a_ hc1 (a_ hc1 (a_ hc1 (a_ hc1 (a_ (Eq.refl false) (a_ (Eq.refl false) (a_ (Eq.refl false) (a_ (Eq.refl false) (a_ (Eq.refl false) (a_ (Eq.refl false) (a_ (Eq.refl false) (a_ (Eq.refl false) t_))))))))))))) t_) (by kernel_rfl) rfl
  refine AW2.ret ?_
  have H:=Option.some.inj H
  subst H
  exact retP_mk2 t_ (by kernel_rfl)
end Go.Proofs.YtablleokoifolaaGreatDoor
set_option linter.unusedVariables false
set_option linter.unusedSimpArgs false
set_option maxRecDepth 100000
namespace Go.Proofs.YtablleokoifolaaGreatDoor
open Go
theorem wI_nat (i:Nat) (h:i<140737488355328):wI ((i:Int)+1)=((i+1:Nat):Int):=by
 rw [wI_small (by omega) (by omega)]; omega
theorem takeS {α:Type} [Inhabited α] (l:List α) (i:Nat) (h:i<l.length):l.take i++[l.getD (i:Int).toNat default]=l.take (i+1):=by
 rw [Int.toNat_natCast,List.take_add_one]
 simp [List.getD_eq_getElem?_getD,h]
theorem takeL' {α:Type} (l:List α) (i:Nat) (h:i≤l.length) (h':¬ i<l.length):l.take i=l:=by
 have:i=l.length:=by omega
 subst this; exact List.take_length
theorem dltT {a b:Nat} (h:a<b):decide ((a:Int)<(b:Int))=true:=decide_eq_true (by omega)
theorem dltF {a b:Nat} (h:¬ a<b):¬ decide ((a:Int)<(b:Int))=true:=fun e => by have:=of_decide_eq_true e; omega
theorem getD_mem {α:Type} [Inhabited α] (l:List α) (i:Nat) (h:i<l.length):l.getD (i:Int).toNat default∈l:=by
 rw [Int.toNat_natCast,List.getD_eq_getElem?_getD,List.getElem?_eq_getElem h]
 exact List.getElem_mem h
theorem tlen {α:Type} (l:List α) (i:Nat):(l.take i).length≤i:=by simp; omega
theorem zyy (l:List Int) (hl:l.length<1000000000):∀ k (i:Nat),i≤l.length→l.length - i<k→zbQ k l (l.take i) (i:Int)=some l:=by
 intro k
 induction k with
 | zero => intro i _ h; omega
 | succ k ih => 
  intro i h1 h2
  have:=tlen l i
  simp only [zbQ]
  by_cases h:i<l.length
  ·rw [if_pos (dltT h),zaC (by omega),zaC (by omega),takeS l i h,wI_nat i (by omega)]
   exact ih (i+1) h (by omega)
  ·rw [if_neg (dltF h),takeL' l i h1 h]
theorem zzd (K:Nat) (l:List Int) (hl:l.length<1000000000) (hK:l.length<K):zda K l=some l:=by
 unfold zda
 have:=zyy l hl K 0 (Nat.zero_le _) (by omega)
 simp only [List.take_zero] at this
 rw [show (0:Int)=((0:Nat):Int) from rfl,this]; rfl
mutual
def wtI:Instr→Nat
 | .mk _ _ _ _ _ b e _ => 3+wtL b+wtL e
def wtL:List Instr→Nat
 | [] => 1
 | x :: l => wtI x+wtL l
end
theorem wtI_eq (x:Instr):wtI x=3+wtL x.body+wtL x.els:=by cases x; simp only [wtI,Instr.body,Instr.els]
theorem wtL_pos (l:List Instr):1≤wtL l∧l.length<wtL l:=by
 induction l with
 | nil => simp [wtL]
 | cons x l ih => simp only [wtL,List.length_cons,wtI_eq]; omega
theorem wtL_mem {l:List Instr} {x:Instr} (h:x∈l):wtI x+1≤wtL l:=by
 induction l with
 | nil => cases h
 | cons y l ih => 
  simp only [wtL]
  rcases List.mem_cons.1 h with rfl | h
  ·have:=(wtL_pos l).1; omega
  ·have:=ih h; omega
theorem zAq:∀ (K:Nat) (l:List Instr),wtL l<K→wtL l<1000000000→zbh K l=some l:=by
 intro K
 induction K with
 | zero => intro l h; omega
 | succ k ih => 
  intro l h hs
  have hw:=wtL_pos l
  simp only [zbh]
  have key:∀ (q i:Nat),i≤l.length→l.length - i<q→lpN q (fun (rec6:(List Instr)×Int→Option (List Instr)) v => match v with | (a4,a5) => (if (decide (a5<(l.length:Int)))=true then gd (0≤a5∧a5<(l.length:Int)) ((zbh k ((l.getD a5.toNat default).body)).bind fun x8 => ((zbh k ((l.getD a5.toNat default).els)).bind fun x10 => gd ((a4.length+1) * 104≤140737488355328) (rec6 ((a4++([(Instr.mk ((l.getD a5.toNat default).op) ((l.getD a5.toNat default).n) ((l.getD a5.toNat default).align) ((l.getD a5.toNat default).offset) ((l.getD a5.toNat default).result) x8 x10 ((l.getD a5.toNat default).labels))]:List Instr)),(wI (a5+1)))))) else some a4)) (l.take i,(i:Int))=some l:=by
   intro q
   induction q with
   | zero => intro i _ h; omega
   | succ q ihq => 
    intro i h1 h2
    have:=tlen l i
    simp only [lpN]
    by_cases h:i<l.length
    ·have hm:=getD_mem l i h
     have hx:=wtL_mem hm
     rw [wtI_eq] at hx
     rw [if_pos (dltT h),zaC (by omega),ih _ (by omega) (by omega),Option.bind_some,ih _ (by omega) (by omega),Option.bind_some,zaC (by omega),Instr.eta,takeS l i h,wI_nat i (by omega)]
     exact ihq (i+1) h (by omega)
    ·rw [if_neg (dltF h),takeL' l i h1 h]
  have:=key k 0 (Nat.zero_le _) (by omega)
  rw [List.take_zero] at this
  exact congrArg (fun o => o.bind (fun j1 => some j1)) this
theorem zAn (K:Nat) (x:Instr) (h:wtI x+1<K) (hs:wtI x+1<1000000000):zdG K x=some x:=by
 unfold zdG
 have hw:wtL [x]=wtI x+1:=by simp [wtL]
 rw [zAq K [x] (by omega) (by omega)]
 rfl
structure GvOk (K:Nat) (m:Mdl):Prop where
 K0:K<1000000000
 types:m.types.length<K
 typ:∀ t∈m.types,t.params.length<K
 funcs:m.funcs.length<K
 fnc:∀ f∈m.funcs,f.locals.length<K∧wtL f.body<K
 tables:m.tables.length<K
 memories:m.memories.length<K
 globals:m.globals.length<K
 glo:∀ g∈m.globals,wtI g.init_+1<K
 exports:m.exports.length<K
 elems:m.elems.length<K
 ele:∀ e∈m.elems,wtI e.offset+1<K
 datas:m.datas.length<K
 dat:∀ d∈m.datas,wtI d.offset+1<K
theorem zCg {K:Nat} {m:Mdl} (o:GvOk K m):∀ k (i:Nat),i≤m.types.length→m.types.length - i<k→zaZ k K m (m.types.take i) (i:Int)=some m.types:=by
 intro k
 induction k with
 | zero => intro i _ h; omega
 | succ k ih => 
  intro i h1 h2
  have:=tlen m.types i; have:=o.K0; have:=o.types
  simp only [zaZ]
  by_cases h:i<m.types.length
  ·have hm:=o.typ _ (getD_mem m.types i h)
   rw [if_pos (dltT h),zaC (by omega),zzd K _ (by omega) hm,Option.bind_some,zaC (by omega),zaC (by omega)]
   rw [show ∀ t:Typ,Typ.mk t.params t.result=t from fun _ => rfl,takeS _ i h,wI_nat i (by omega)]
   exact ih (i+1) h (by omega)
  ·rw [if_neg (dltF h),takeL' _ i h1 h]
theorem zCh {K:Nat} {m:Mdl} (o:GvOk K m):∀ k (i:Nat),i≤m.funcs.length→m.funcs.length - i<k→zba k K m (m.funcs.take i) (i:Int)=some m.funcs:=by
 intro k
 induction k with
 | zero => intro i _ h; omega
 | succ k ih => 
  intro i h1 h2
  have:=tlen m.funcs i; have:=o.K0; have:=o.funcs
  simp only [zba]
  by_cases h:i<m.funcs.length
  ·have hm:=o.fnc _ (getD_mem m.funcs i h)
   rw [if_pos (dltT h),zaC (by omega),zaC (by omega),zzd K _ (by omega) hm.1,Option.bind_some,zaC (by omega),zAq K _ hm.2 (by omega),Option.bind_some,zaC (by omega)]
   rw [show ∀ t:Fnc,Fnc.mk t.type_ t.locals t.body=t from fun _ => rfl,takeS _ i h,wI_nat i (by omega)]
   exact ih (i+1) h (by omega)
  ·rw [if_neg (dltF h),takeL' _ i h1 h]
theorem zCi {K:Nat} {m:Mdl} (o:GvOk K m):∀ k (i:Nat),i≤m.tables.length→m.tables.length - i<k→zbb k m (m.tables.take i) (i:Int)=some m.tables:=by
 intro k
 induction k with
 | zero => intro i _ h; omega
 | succ k ih => 
  intro i h1 h2
  have:=tlen m.tables i; have:=o.K0; have:=o.tables
  simp only [zbb]
  by_cases h:i<m.tables.length
  ·rw [if_pos (dltT h),zaC (by omega),zaC (by omega),takeS _ i h,wI_nat i (by omega)]
   exact ih (i+1) h (by omega)
  ·rw [if_neg (dltF h),takeL' _ i h1 h]
theorem zCj {K:Nat} {m:Mdl} (o:GvOk K m):∀ k (i:Nat),i≤m.memories.length→m.memories.length - i<k→zbc k m (m.memories.take i) (i:Int)=some m.memories:=by
 intro k
 induction k with
 | zero => intro i _ h; omega
 | succ k ih => 
  intro i h1 h2
  have:=tlen m.memories i; have:=o.K0; have:=o.memories
  simp only [zbc]
  by_cases h:i<m.memories.length
  ·rw [if_pos (dltT h),zaC (by omega),zaC (by omega),takeS _ i h,wI_nat i (by omega)]
   exact ih (i+1) h (by omega)
  ·rw [if_neg (dltF h),takeL' _ i h1 h]
theorem zCk {K:Nat} {m:Mdl} (o:GvOk K m):∀ k (i:Nat),i≤m.globals.length→m.globals.length - i<k→zbd k K m (m.globals.take i) (i:Int)=some m.globals:=by
 intro k
 induction k with
 | zero => intro i _ h; omega
 | succ k ih => 
  intro i h1 h2
  have:=tlen m.globals i; have:=o.K0; have:=o.globals
  simp only [zbd]
  by_cases h:i<m.globals.length
  ·have hm:=o.glo _ (getD_mem m.globals i h)
   rw [if_pos (dltT h),zaC (by omega),zaC (by omega),zaC (by omega),zAn K _ hm (by omega),Option.bind_some,zaC (by omega)]
   rw [show ∀ t:Glo,Glo.mk t.kind t.mut_ t.init_=t from fun _ => rfl,takeS _ i h,wI_nat i (by omega)]
   exact ih (i+1) h (by omega)
  ·rw [if_neg (dltF h),takeL' _ i h1 h]
theorem zCl {K:Nat} {m:Mdl} (o:GvOk K m):∀ k (i:Nat),i≤m.exports.length→m.exports.length - i<k→zbe k m (m.exports.take i) (i:Int)=some m.exports:=by
 intro k
 induction k with
 | zero => intro i _ h; omega
 | succ k ih => 
  intro i h1 h2
  have:=tlen m.exports i; have:=o.K0; have:=o.exports
  simp only [zbe]
  by_cases h:i<m.exports.length
  ·rw [if_pos (dltT h),zaC (by omega),zaC (by omega),takeS _ i h,wI_nat i (by omega)]
   exact ih (i+1) h (by omega)
  ·rw [if_neg (dltF h),takeL' _ i h1 h]
theorem zCm {K:Nat} {m:Mdl} (o:GvOk K m):∀ k (i:Nat),i≤m.elems.length→m.elems.length - i<k→zbf k K m (m.elems.take i) (i:Int)=some m.elems:=by
 intro k
 induction k with
 | zero => intro i _ h; omega
 | succ k ih => 
  intro i h1 h2
  have:=tlen m.elems i; have:=o.K0; have:=o.elems
  simp only [zbf]
  by_cases h:i<m.elems.length
  ·have hm:=o.ele _ (getD_mem m.elems i h)
   rw [if_pos (dltT h),zaC (by omega),zaC (by omega),zAn K _ hm (by omega),Option.bind_some,zaC (by omega),zaC (by omega)]
   rw [show ∀ t:Ele,Ele.mk t.table t.offset t.funcs=t from fun _ => rfl,takeS _ i h,wI_nat i (by omega)]
   exact ih (i+1) h (by omega)
  ·rw [if_neg (dltF h),takeL' _ i h1 h]
theorem zCn {K:Nat} {m:Mdl} (o:GvOk K m):∀ k (i:Nat),i≤m.datas.length→m.datas.length - i<k→zbg k K m (m.datas.take i) (i:Int)=some m.datas:=by
 intro k
 induction k with
 | zero => intro i _ h; omega
 | succ k ih => 
  intro i h1 h2
  have:=tlen m.datas i; have:=o.K0; have:=o.datas
  simp only [zbg]
  by_cases h:i<m.datas.length
  ·have hm:=o.dat _ (getD_mem m.datas i h)
   rw [if_pos (dltT h),zaC (by omega),zaC (by omega),zAn K _ hm (by omega),Option.bind_some,zaC (by omega),zaC (by omega)]
   rw [show ∀ t:Dat,Dat.mk t.memory t.offset t.bytes=t from fun _ => rfl,takeS _ i h,wI_nat i (by omega)]
   exact ih (i+1) h (by omega)
  ·rw [if_neg (dltF h),takeL' _ i h1 h]
theorem giveModule_id {K:Nat} {m:Mdl} (o:GvOk K m):zbT K m=some m:=by
 unfold zbT
 have h7:=zCg o K 0 (Nat.zero_le _) (by have:=o.types; omega)
 have h6:=zCh o K 0 (Nat.zero_le _) (by have:=o.funcs; omega)
 have h5:=zCi o K 0 (Nat.zero_le _) (by have:=o.tables; omega)
 have h4:=zCj o K 0 (Nat.zero_le _) (by have:=o.memories; omega)
 have h3:=zCk o K 0 (Nat.zero_le _) (by have:=o.globals; omega)
 have h2:=zCl o K 0 (Nat.zero_le _) (by have:=o.exports; omega)
 have h1:=zCm o K 0 (Nat.zero_le _) (by have:=o.elems; omega)
 have h0:=zCn o K 0 (Nat.zero_le _) (by have:=o.datas; omega)
 simp only [List.take_zero] at h0 h1 h2 h3 h4 h5 h6 h7
 simp only [show (0:Int)=((0:Nat):Int) from rfl]
 rw [h7,Option.bind_some,h6,Option.bind_some,h5,Option.bind_some,h4,Option.bind_some,h3,Option.bind_some,h2,Option.bind_some,h1,Option.bind_some,h0]
 rfl
def stepC (k:Nat) (c:Checker) (x:Instr):Option Checker:=
 if c.bad=true then some c else if decide (x.op<(26:Int))=true then zab k c x else zag c x
theorem zAT (k:Nat) (l:List Instr) {c:Checker} (h:c.bad=true):l.foldlM (stepC k) c=some c:=by
 induction l with
 | nil => rfl
 | cons x l ih => 
  rw [List.foldlM_cons]
  have:stepC k c x=some c:=by unfold stepC; rw [if_pos h]
  rw [this]; exact ih
theorem dropS {α:Type} [Inhabited α] (l:List α) (i:Nat) (h:i<l.length):l.drop i=l.getD (i:Int).toNat default :: l.drop (i+1):=by
 rw [Int.toNat_natCast,List.drop_eq_getElem_cons h]
 simp [List.getD_eq_getElem?_getD,h]
theorem zAo (k:Nat) (c:Checker) (l:List Instr) (hk:l.length<k) (hs:l.length<1000000000):zal (k+1) c l=l.foldlM (stepC k) c:=by
 simp only [zal]
 have key:∀ (q i:Nat) (c:Checker),i≤l.length→l.length - i<q→lpN q (fun (rec5:Checker×Int→Option (Checker)) v => match v with | (a3,a4) => (if (decide (a4<(l.length:Int)))=true then gd (0≤a4∧a4<(l.length:Int)) (if a3.bad=true then some a3 else (if (decide (((l.getD a4.toNat default).op)<(26:Int)))=true then ((zab k a3 (l.getD a4.toNat default)).bind fun x7 => rec5 (x7,(wI (a4+1)))) else ((zag a3 (l.getD a4.toNat default)).bind fun x9 => rec5 (x9,(wI (a4+1)))))) else some a3)) (c,(i:Int))=(l.drop i).foldlM (stepC k) c:=by
  intro q
  induction q with
  | zero => intro i c _ h; omega
  | succ q ih => 
   intro i c h1 h2
   simp only [lpN]
   by_cases h:i<l.length
   ·rw [if_pos (dltT h),zaC (by omega),dropS l i h,List.foldlM_cons]
    by_cases hb:c.bad=true
    ·rw [if_pos hb]
     have:stepC k c (l.getD (i:Int).toNat default)=some c:=by unfold stepC; rw [if_pos hb]
     rw [this]
     exact (zAT k _ hb).symm
    ·rw [if_neg hb]
     unfold stepC
     rw [if_neg hb,wI_nat i (by omega)]
     split
     ·cases zab k c (l.getD (i:Int).toNat default) with
      | none => rfl
      | some c' => exact ih (i+1) c' h (by omega)
     ·cases zag c (l.getD (i:Int).toNat default) with
      | none => rfl
      | some c' => exact ih (i+1) c' h (by omega)
   ·rw [if_neg (dltF h),List.drop_of_length_le (by omega)]
    rfl
 exact key k 0 c (Nat.zero_le _) (by omega)
theorem w1:wI (((1:Nat):Int) - 1)=0:=by decide
def c0 (m:Mdl) (t:Typ) (ls:List Int):Checker:=Checker.mk m t ls [] [Frame.mk 0 false false] [t.result] 0 false
def scM (ps:List Int) (r:Int) (b:List Instr):Mdl:=(zec ps r b).getD default
theorem scM_eq (ps:List Int) (r:Int) (b:List Instr):zec ps r b=some (scM ps r b):=rfl
def F0:Frame:=Frame.mk 0 false false
def cL (m:Mdl) (t:Typ) (ls:List Int) (n:Nat) (mo:Int) (b aw:Bool):Checker:=
 Checker.mk m t ls [] (List.replicate n F0++[Frame.mk 0 aw false]) (List.replicate (n+1) 0) mo b
def wr (os:List Int) (l:List Instr):List Instr:=os.foldl (fun l o => [Instr.mk o 0 0 0 0 l [] []]) l
structure Ctx where
 m:Mdl
 t:Typ
 ls:List Int
 un:List Int
 fr:List Frame
 lb:List Int
def CC (Γ:Ctx) (l:List Int) (aw dd:Bool) (mo:Int) (bd:Bool):Checker:=
 Checker.mk Γ.m Γ.t Γ.ls (Γ.un++l) (Γ.fr++[Frame.mk (Γ.un.length:Int) aw dd]) Γ.lb mo bd
def Ctx.env (Γ:Ctx):Env8:=Env8.mk Γ.m Γ.t.result Γ.ls Γ.lb
structure Gd (Γ:Ctx) (N:Nat):Prop where
 un:Γ.un.length+N<1000000000000
 fr:Γ.fr.length<1000000000
 lb:Γ.lb.length<1000000000
theorem Gd.mono {Γ:Ctx} {N M:Nat} (g:Gd Γ N) (h:M≤N):Gd Γ M:=⟨by have:=g.un; omega,g.fr,g.lb⟩
theorem CC_fl (Γ:Ctx) (l:List Int) (aw dd:Bool) (mo:Int) (bd:Bool):(((CC Γ l aw dd mo bd).frames.length:Nat):Int)=((Γ.fr.length+1:Nat):Int):=by simp [CC]
theorem CC_top (Γ:Ctx) (l:List Int) (aw dd:Bool) (mo:Int) (bd:Bool):(CC Γ l aw dd mo bd).frames.getD (Γ.fr.length:Int).toNat default=Frame.mk (Γ.un.length:Int) aw dd:=by
 rw [Int.toNat_natCast,List.getD_eq_getElem?_getD]; simp [CC]
theorem wB (n:Nat) (h:n<1000000000000):wI (((n+1:Nat):Int) - 1)=(n:Int):=by rw [wI_small (by omega) (by omega)]; omega
def tV (l:List Int) (k:Int):Int:=if k=0 then k else match l.getLast? with | none => k | some x => if x=1 then k else x
def tL (l:List Int) (k:Int):List Int:=if k=0 then l else l.dropLast
def tB (l:List Int) (aw bd:Bool) (k:Int):Bool:=if k=0 then bd else match l.getLast? with | none => bd||!aw | some x => bd||(x != k&&(x != 1&&k != 1))
theorem zwt (Γ:Ctx) (l:List Int) (aw dd:Bool) (mo:Int) (bd:Bool) (k:Int) (g:Gd Γ l.length) :
  zac (CC Γ l aw dd mo bd) k=some (tV l k,CC Γ (tL l k) aw dd mo (tB l aw bd k)):=by
 have hf:=g.fr; have hu:=g.un
 unfold zac
 rw [CC_fl,wB _ (by omega),zaC (by omega),CC_top]
 by_cases hk:k=0
 ·rw [if_pos (by simpa using hk)]
  simp [tV,tL,tB,hk]
 rw [if_neg (by simpa using hk)]
 rcases List.eq_nil_or_concat l with rfl | ⟨l,x,rfl⟩
 ·have e:(((CC Γ [] aw dd mo bd).stack.length:Nat):Int)=(Γ.un.length:Int):=by simp [CC]
  rw [e,if_pos (by simp)]
  simp only [tV,tL,tB,if_neg hk,List.getLast?_nil,List.dropLast_nil]
  cases bd <;> rfl
 ·simp only [List.concat_eq_append] at hu ⊢
  have e:(((CC Γ (l++[x]) aw dd mo bd).stack.length:Nat):Int)=((Γ.un.length+l.length+1:Nat):Int):=by simp [CC]; omega
  have e2:(CC Γ (l++[x]) aw dd mo bd).stack.getD ((Γ.un.length+l.length:Nat):Int).toNat default=x:=by
   rw [Int.toNat_natCast,List.getD_eq_getElem?_getD]
   simp only [CC,← List.append_assoc]
   rw [List.getElem?_append_right (by simp)]
   simp
  have e3:List.take ((Γ.un.length+l.length:Nat):Int).toNat (CC Γ (l++[x]) aw dd mo bd).stack=Γ.un++l:=by
   rw [Int.toNat_natCast]
   simp only [CC,← List.append_assoc]
   rw [List.take_append_of_le_length (by simp),← List.length_append,List.take_length]
  simp only [List.length_append,List.length_cons,List.length_nil] at hu
  rw [e,wB _ (by omega),if_neg (by simp; omega),zaC (by omega),zaC (by omega),e2,e3]
  simp only [tV,tL,tB,if_neg hk,List.getLast?_append,List.getLast?_singleton,List.dropLast_concat,Option.some_or]
  have e4:(if ((x != k)&&((x != (1:Int))&&(k != (1:Int))))=true then some (Checker.mk Γ.m Γ.t Γ.ls (Γ.un++l) (Γ.fr++[Frame.mk (Γ.un.length:Int) aw dd]) Γ.lb mo true) else some (Checker.mk Γ.m Γ.t Γ.ls (Γ.un++l) (Γ.fr++[Frame.mk (Γ.un.length:Int) aw dd]) Γ.lb mo bd))=some (CC Γ l aw dd mo (bd||(x != k&&(x != 1&&k != 1)))):=by
   cases (x != k&&(x != 1&&k != 1)) <;> cases bd <;> rfl
  refine (congrArg (fun o => Option.bind o _) e4).trans ?_
  rw [Option.bind_some]
  by_cases hx:x=1
  ·rw [if_pos (by simpa using hx),if_pos hx]
  ·rw [if_neg (by simpa using hx),if_neg hx]
theorem zBp (Γ:Ctx) (l:List Int) (aw dd:Bool) (mo:Int) (bd:Bool) (k:Int) (g:Gd Γ l.length) :
  zaf (CC Γ l aw dd mo bd) k=some (if k=0 then CC Γ l aw dd mo bd else CC Γ (l++[k]) aw dd (if (!aw&&!dd)=true then mxI mo ((Γ.un.length+l.length+1:Nat):Int) else mo) bd):=by
 have hf:=g.fr; have hu:=g.un
 unfold zaf
 by_cases hk:k=0
 ·rw [if_pos (by simpa using hk),if_pos hk]
 have hs:(CC Γ l aw dd mo bd).stack.length=Γ.un.length+l.length:=by simp [CC]
 have hs2:((CC Γ l aw dd mo bd).stack++[k]).length=Γ.un.length+l.length+1:=by simp [CC]; omega
 rw [if_neg (by simpa using hk),if_neg hk,zaC (by omega),CC_fl,wB _ (by omega),zaC (by omega),CC_top,hs2]
 have e:((CC Γ l aw dd mo bd).stack++[k])=Γ.un++(l++[k]):=by simp [CC]
 rw [e]
 cases (!aw&&!dd) <;> rfl
theorem zzb (Γ:Ctx) (l:List Int) (aw dd:Bool) (mo:Int) (bd:Bool) (g:Gd Γ l.length) :
  zao (CC Γ l aw dd mo bd)=some (CC Γ [] true dd mo bd):=by
 have hf:=g.fr; have hu:=g.un
 unfold zao
 have hs:(CC Γ l aw dd mo bd).stack.length=Γ.un.length+l.length:=by simp [CC]
 rw [CC_fl,wB _ (by omega),zaC (by omega),CC_top,zaC (by rw [hs]; exact ⟨Int.le_refl 0,by simp,by simp; omega⟩)]
 simp only [CC,Int.toNat_natCast,Option.some.injEq,Checker.mk.injEq,true_and,and_true]
 refine ⟨by rw [List.take_append_of_le_length (Nat.le_refl _),List.take_length,List.append_nil],?_⟩
 rw [List.set_append_right _ _ (by simp)]
 simp
def lbV (lb:List Int) (n:Int):Int:=if 0≤n∧n<lb.length then lb.getD ((lb.length:Int) - 1 - n).toNat default else 0
def lbB (lb:List Int) (n:Int):Bool:=decide (0≤n∧n<lb.length)
theorem zzc (Γ:Ctx) (l:List Int) (aw dd:Bool) (mo:Int) (bd:Bool) (n:Int) (g:Gd Γ l.length) :
  zau (CC Γ l aw dd mo bd) n=some (lbV Γ.lb n,CC Γ l aw dd mo (bd||!lbB Γ.lb n)):=by
 have hl:=g.lb
 unfold zau
 have e1:(CC Γ l aw dd mo bd).labels=Γ.lb:=rfl
 rw [e1]
 by_cases h:0≤n∧n<Γ.lb.length
 ·rw [if_neg (by simp; omega),wI_small (x:=(Γ.lb.length:Int) - 1) (by omega) (by omega),wI_small (by omega) (by omega),zaC (by omega)]
  unfold lbV lbB
  rw [if_pos h,decide_eq_true h]
  cases bd <;> rfl
 ·rw [if_pos (by simp; omega)]
  unfold lbV lbB
  rw [if_neg h,decide_eq_false h]
  cases bd <;> rfl
def rV (l:List Int) (k:Int):Int:=if k=0 then 0 else match l.getLast? with | none => k | some x => if x=255 then k else x
def rB (l:List Int) (aw ok:Bool) (k:Int):Bool:=if k=0 then ok else match l.getLast? with | none => ok&&aw | some x => if x=255 then ok else if (k != 255&&x != k)=true then false else ok
theorem zwz (l:List Int) (u:Int) (aw dd:Bool) (mo:Int) (ok:Bool) (k:Int) (h:l.length<1000000000000) :
  zae (St8.mk l u aw dd mo ok) k=some (St8.mk (tL l k) u aw dd mo (rB l aw ok k),rV l k):=by
 unfold zae
 by_cases hk:k=0
 ·rw [if_pos (by simpa using hk)]
  simp [rV,tL,rB,hk]
 rw [if_neg (by simpa using hk)]
 rcases List.eq_nil_or_concat l with rfl | ⟨l,x,rfl⟩
 ·rw [if_pos (by simp)]
  simp only [rV,tL,rB,if_neg hk,List.getLast?_nil,List.dropLast_nil]
  cases ok <;> rfl
 ·simp only [List.concat_eq_append] at h ⊢
  simp only [List.length_append,List.length_cons,List.length_nil] at h
  have e:(((l++[x]).length:Nat):Int)=((l.length+1:Nat):Int):=by simp
  have e2:(l++[x]).getD (l.length:Int).toNat default=x:=by
   rw [Int.toNat_natCast,List.getD_eq_getElem?_getD]; simp
  have e3:List.take (l.length:Int).toNat (l++[x])=l:=by
   rw [Int.toNat_natCast]; simp
  show (if (((l++[x]).length:Int)==(0:Int))=true then _ else gd (0≤(wI (((l++[x]).length:Int) - 1))∧(wI (((l++[x]).length:Int) - 1))<((l++[x]).length:Int)) _)=_
  rw [e,wB _ (by omega),if_neg (by simp; omega),zaC (by omega),zaC (by omega),e2,e3]
  simp only [rV,tL,rB,if_neg hk,List.getLast?_append,List.getLast?_singleton,List.dropLast_concat,Option.some_or]
  by_cases hx:x=255
  ·rw [if_pos (by simpa using hx),if_pos hx,if_pos hx]
  ·rw [if_neg (by simpa using hx),if_neg hx,if_neg hx]
   cases (k != 255&&x != k) <;> rfl
theorem zBw (l:List Int) (u:Nat) (aw dd:Bool) (mo:Int) (ok:Bool) (k:Int) (h:u+l.length<1000000000000) :
  zaH (St8.mk l u aw dd mo ok) k=some (if k=0 then St8.mk l u aw dd mo ok else St8.mk (l++[k]) u aw dd (if (!aw&&!dd)=true then mxI mo ((u+l.length+1:Nat):Int) else mo) ok):=by
 unfold zaH
 by_cases hk:k=0
 ·rw [if_pos (by simpa using hk),if_pos hk]
 have e:wI ((u:Int)+((l++[k]).length:Int))=((u+l.length+1:Nat):Int):=by
  rw [wI_small (by simp; omega) (by simp; omega)]; simp; omega
 rw [if_neg (by simpa using hk),if_neg hk,zaC (by show l.length * 1≤_; omega),zaC (by show (l.length+1) * 1≤_; omega)]
 show ((if (!aw&&!dd)=true then some (mxI mo (wI ((u:Int)+((l++[k]).length:Int)))) else some mo).bind fun j3 => some (St8.mk (l++[k]) u aw dd j3 ok))=_
 rw [e]
 cases (!aw&&!dd) <;> rfl
def Kd (x:Int):Prop:=x=126∨x=127∨x=255
def fk (x:Int):Int:=if x=255 then 1 else x
theorem fk0 {x:Int} (h:x=0∨Kd x):fk x=0↔x=0:=by
 rcases h with rfl | rfl | rfl | rfl <;> decide
def BadV (Γ:Ctx) (N:Nat) (c:Checker):Prop:=∃ l aw dd mo,l.length≤N∧c=CC Γ l aw dd mo true
def BadR (N:Nat) (s:St8):Prop:=s.ok=false∧s.l.length≤N
def OkS (Γ:Ctx) (N:Nat) (c:Checker) (s:St8):Prop:=
 ∃ l aw dd mo,(∀ x∈l,Kd x)∧l.length≤N∧c=CC Γ (l.map fk) aw dd mo false∧s=St8.mk l Γ.un.length aw dd mo true
def Sim (Γ:Ctx) (N:Nat) (c:Checker) (s:St8):Prop:=OkS Γ N c s∨(BadV Γ N c∧BadR N s)
theorem BadV.mono {Γ:Ctx} {N M:Nat} {c:Checker} (h:BadV Γ N c) (hm:N≤M):BadV Γ M c:=by
 obtain ⟨l,aw,dd,mo,h1,h2⟩:=h; exact ⟨l,aw,dd,mo,by omega,h2⟩
theorem BadR.mono {N M:Nat} {s:St8} (h:BadR N s) (hm:N≤M):BadR M s:=⟨h.1,by have:=h.2; omega⟩
theorem Sim.mono {Γ:Ctx} {N M:Nat} {c:Checker} {s:St8} (h:Sim Γ N c s) (hm:N≤M):Sim Γ M c s:=by
 rcases h with ⟨l,aw,dd,mo,h1,h2,h3⟩ | ⟨h1,h2⟩
 ·exact .inl ⟨l,aw,dd,mo,h1,by omega,h3⟩
 ·exact .inr ⟨h1.mono hm,h2.mono hm⟩
theorem Sim.bad {Γ:Ctx} {N:Nat} {c:Checker} {s:St8} (h:Sim Γ N c s):c.bad = !s.ok:=by
 rcases h with ⟨l,aw,dd,mo,h1,h2,rfl,rfl⟩ | ⟨⟨l,aw,dd,mo,h1,rfl⟩,h2,h3⟩
 ·rfl
 ·rw [h2]; rfl
def Vk (s:St8) (v v':Int):Prop:=s.ok=true→v=fk v'∧(v'=0∨Kd v')
theorem tL_len (l:List Int) (k:Int):(tL l k).length≤l.length:=by
 unfold tL; split
 ·exact Nat.le_refl _
 ·rw [List.length_dropLast]; omega
theorem lastK {l:List Int} (h:∀ x∈l,Kd x) {x:Int} (hx:l.getLast? = some x):Kd x:=h x (List.mem_of_getLast? hx)
theorem takeB {Γ:Ctx} {N:Nat} {c:Checker} (g:Gd Γ N) (h:BadV Γ N c) (k:Int):∃ v c',zac c k=some (v,c')∧BadV Γ N c':=by
 obtain ⟨l,aw,dd,mo,h1,rfl⟩:=h
 have ht:=tL_len l k
 refine ⟨_,_,zwt Γ l aw dd mo true k (g.mono h1),tL l k,aw,dd,mo,Nat.le_trans ht h1,?_⟩
 have:tB l aw true k=true:=by
  unfold tB; split
  ·rfl
  ·split <;> rfl
 rw [this]
theorem rtakeB {N:Nat} {s:St8} (hN:N<1000000000000) (h:BadR N s) (k:Int):∃ v s',zae s k=some (s',v)∧BadR N s':=by
 obtain ⟨l,u,aw,dd,mo,ok⟩:=s
 obtain ⟨h1,h2⟩:=h
 obtain rfl:ok=false:=h1
 have ht:=tL_len l k
 have h2':l.length≤N:=h2
 refine ⟨_,_,zwz l u aw dd mo false k (by omega),?_,Nat.le_trans ht h2⟩
 show rB l aw false k=false
 unfold rB; split
 ·rfl
 ·split
  ·rfl
  ·split
   ·rfl
   ·split <;> rfl
theorem zbI {Γ:Ctx} {N:Nat} {c:Checker} {s:St8} (g:Gd Γ N) (h:Sim Γ N c s) {k k':Int} (hk:Vk s k k') :
  ∃ v c' v' s',zac c k=some (v,c')∧zae s k'=some (s',v')∧Sim Γ N c' s'∧Vk s' v v':=by
 have hN:N<1000000000000:=by have:=g.un; omega
 rcases h with ⟨l,aw,dd,mo,h1,h2,rfl,rfl⟩ | ⟨h1,h2⟩
 ·obtain ⟨rfl,hk'⟩:=hk rfl
  refine ⟨_,_,_,_,zwt Γ (l.map fk) aw dd mo false (fk k') (g.mono (by simpa using h2)),zwz l _ aw dd mo true k' (by omega),?_⟩
  have e1:tL (l.map fk) (fk k')=(tL l k').map fk:=by
   unfold tL
   by_cases h0:k'=0
   ·rw [if_pos h0,if_pos ((fk0 hk').2 h0)]
   ·rw [if_neg h0,if_neg (fun h => h0 ((fk0 hk').1 h)),List.map_dropLast]
  have hs:∀ x∈tL l k',Kd x:=by
   unfold tL; split
   ·exact h1
   ·exact fun x hx => h1 x (List.dropLast_subset l hx)
  have e2:tB (l.map fk) aw false (fk k') = !rB l aw true k':=by
   unfold tB rB
   by_cases h0:k'=0
   ·rw [if_pos h0,if_pos ((fk0 hk').2 h0)]; rfl
   ·rw [if_neg h0,if_neg (fun h => h0 ((fk0 hk').1 h)),List.getLast?_map]
    cases hl:l.getLast? with
    | none => cases aw <;> rfl
    | some x => 
     have kx:=lastK h1 hl
     rcases hk' with h | h
     ·exact absurd h h0
     rcases kx with rfl | rfl | rfl <;> rcases h with rfl | rfl | rfl <;> rfl
  have e3:tV (l.map fk) (fk k')=fk (rV l k')∧(rV l k'=0∨Kd (rV l k')):=by
   unfold tV rV
   by_cases h0:k'=0
   ·rw [if_pos h0,if_pos ((fk0 hk').2 h0),h0]; exact ⟨rfl,.inl rfl⟩
   ·rw [if_neg h0,if_neg (fun h => h0 ((fk0 hk').1 h)),List.getLast?_map]
    cases hl:l.getLast? with
    | none => exact ⟨rfl,hk'⟩
    | some x => 
     have kx:=lastK h1 hl
     rcases hk' with h | h
     ·exact absurd h h0
     rcases kx with rfl | rfl | rfl
     ·exact ⟨rfl,.inr (.inl rfl)⟩
     ·exact ⟨rfl,.inr (.inr (.inl rfl))⟩
     ·exact ⟨rfl,.inr h⟩
  rw [e1,e2]
  have ht:=tL_len l k'
  refine ⟨?_,fun _ => e3⟩
  cases hr:rB l aw true k' with
  | true => exact .inl ⟨tL l k',aw,dd,mo,hs,by omega,rfl,rfl⟩
  | false => exact .inr ⟨⟨_,aw,dd,mo,by rw [List.length_map]; omega,rfl⟩,rfl,by show (tL l k').length≤N; omega⟩
 ·obtain ⟨v,c',e,hb⟩:=takeB g h1 k
  obtain ⟨v',s',e',hb'⟩:=rtakeB hN h2 k'
  exact ⟨v,c',v',s',e,e',.inr ⟨hb,hb'⟩,fun h => by rw [hb'.1] at h; cases h⟩
theorem layB {Γ:Ctx} {N:Nat} {c:Checker} (g:Gd Γ N) (h:BadV Γ N c) (k:Int):∃ c',zaf c k=some c'∧BadV Γ (N+1) c':=by
 obtain ⟨l,aw,dd,mo,h1,rfl⟩:=h
 refine ⟨_,zBp Γ l aw dd mo true k (g.mono h1),?_⟩
 split
 ·exact ⟨_,_,_,_,Nat.le_succ_of_le h1,rfl⟩
 ·exact ⟨_,_,_,_,by simp only [List.length_append,List.length_cons,List.length_nil]; omega,rfl⟩
theorem rlayB {N:Nat} {s:St8} (hN:N<1000000000000) (h:BadR N s) (k:Int):∃ s',zaH s k=some s'∧BadR (N+1) s':=by
 obtain ⟨l,u,aw,dd,mo,ok⟩:=s
 obtain ⟨h1,h2⟩:=h
 obtain rfl:ok=false:=h1
 have h2':l.length≤N:=h2
 unfold zaH
 split
 ·exact ⟨_,rfl,rfl,Nat.le_succ_of_le h2⟩
 ·rw [zaC (by show l.length * 1≤_; omega),zaC (by show (l.length+1) * 1≤_; omega)]
  split
  ·exact ⟨_,rfl,rfl,by show (l++[k]).length≤_; rw [List.length_append]; simp; omega⟩
  ·exact ⟨_,rfl,rfl,by show (l++[k]).length≤_; rw [List.length_append]; simp; omega⟩
theorem zld {Γ:Ctx} {N:Nat} {c:Checker} {s:St8} (g:Gd Γ N) (h:Sim Γ N c s) {k k':Int} (hk:Vk s k k') :
  ∃ c' s',zaf c k=some c'∧zaH s k'=some s'∧Sim Γ (N+1) c' s':=by
 have hN:N<1000000000000:=by have:=g.un; omega
 rcases h with ⟨l,aw,dd,mo,h1,h2,rfl,rfl⟩ | ⟨h1,h2⟩
 ·obtain ⟨rfl,hk'⟩:=hk rfl
  refine ⟨_,_,zBp Γ (l.map fk) aw dd mo false (fk k') (g.mono (by simpa using h2)),zBw l Γ.un.length aw dd mo true k' (by have:=g.un; omega),?_⟩
  by_cases h0:k'=0
  ·rw [if_pos h0,if_pos ((fk0 hk').2 h0)]
   exact .inl ⟨l,aw,dd,mo,h1,by omega,rfl,rfl⟩
  ·rw [if_neg h0,if_neg (fun h => h0 ((fk0 hk').1 h))]
   refine .inl ⟨l++[k'],aw,dd,_,fun x hx => ?_,by simp; omega,?_,rfl⟩
   ·rcases List.mem_append.1 hx with hx | hx
    ·exact h1 x hx
    ·obtain rfl:x=k':=by simpa using hx
     rcases hk' with h | h
     ·exact absurd h h0
     ·exact h
   ·rw [List.map_append,List.length_map]; rfl
 ·obtain ⟨c',e,hb⟩:=layB g h1 k
  obtain ⟨s',e',hb'⟩:=rlayB hN h2 k'
  exact ⟨c',s',e,e',.inr ⟨hb,hb'⟩⟩
theorem leaveB {Γ:Ctx} {N:Nat} {c:Checker} (g:Gd Γ N) (h:BadV Γ N c):∃ c',zao c=some c'∧BadV Γ N c':=by
 obtain ⟨l,aw,dd,mo,h1,rfl⟩:=h
 exact ⟨_,zzb Γ l aw dd mo true (g.mono h1),_,_,_,_,Nat.zero_le _,rfl⟩
theorem zlC {Γ:Ctx} {N:Nat} {c:Checker} {s:St8} (g:Gd Γ N) (h:Sim Γ N c s) :
  ∃ c' s',zao c=some c'∧zbw s=some s'∧Sim Γ N c' s':=by
 rcases h with ⟨l,aw,dd,mo,h1,h2,rfl,rfl⟩ | ⟨h1,h2⟩
 ·exact ⟨_,_,zzb Γ (l.map fk) aw dd mo false (g.mono (by simpa using h2)),rfl,.inl ⟨[],true,dd,mo,(fun x hx => by cases hx),Nat.zero_le _,rfl,rfl⟩⟩
 ·obtain ⟨c',e,hb⟩:=leaveB g h1
  exact ⟨c',_,e,rfl,.inr ⟨hb,h2.1,Nat.zero_le _⟩⟩
def setB (c:Checker) (b:Bool):Checker:=Checker.mk c.m c.t c.locals c.stack c.frames c.labels c.most (c.bad||b)
def setO (s:St8) (b:Bool):St8:=St8.mk s.l s.under s.away s.dead s.most (s.ok&&b)
theorem zjg {Γ:Ctx} {N:Nat} {c:Checker} {s:St8} (h:Sim Γ N c s) (b:Bool):Sim Γ N (setB c b) (setO s (!b)):=by
 rcases h with ⟨l,aw,dd,mo,h1,h2,rfl,rfl⟩ | ⟨⟨l,aw,dd,mo,h1,rfl⟩,h2,h3⟩
 ·cases b with
  | false => exact .inl ⟨l,aw,dd,mo,h1,h2,rfl,rfl⟩
  | true => exact .inr ⟨⟨l.map fk,aw,dd,mo,by simpa using h2,rfl⟩,rfl,h2⟩
 ·refine .inr ⟨⟨l,aw,dd,mo,h1,rfl⟩,?_,h3⟩
  show (s.ok&&!b)=false
  rw [h2]; rfl
theorem askB {Γ:Ctx} {N:Nat} {c:Checker} (h:BadV Γ N c) (b:Bool):BadV Γ N (setB c b):=by
 obtain ⟨l,aw,dd,mo,h1,rfl⟩:=h
 exact ⟨l,aw,dd,mo,h1,rfl⟩
theorem Sim.toBad {Γ:Ctx} {N:Nat} {c:Checker} {s:St8} (h:Sim Γ N c s):BadV Γ N (setB c true)∧BadR N (setO s false):=by
 rcases zjg h true with ⟨l,aw,dd,mo,h1,h2,h3,h4⟩ | h
 ·have:=congrArg St8.ok h4
  simp [setO] at this
 ·exact h
theorem zlD {Γ:Ctx} {N:Nat} {c:Checker} {s:St8} (g:Gd Γ N) (h:Sim Γ N c s) (hl:∀ x∈Γ.lb,x=0∨x=126∨x=127) (n:Int) :
  zau c n=some (lbV Γ.lb n,setB c (!lbB Γ.lb n))∧zbl Γ.env n=some (lbV Γ.lb n,lbB Γ.lb n)∧Vk s (lbV Γ.lb n) (lbV Γ.lb n):=by
 refine ⟨?_,?_,fun _ => ?_⟩
 ·rcases h with ⟨l,aw,dd,mo,h1,h2,rfl,rfl⟩ | ⟨⟨l,aw,dd,mo,h1,rfl⟩,h2,h3⟩
  ·exact zzc Γ _ aw dd mo false n (g.mono (by simpa using h2))
  ·exact zzc Γ _ aw dd mo true n (g.mono (by simpa using h1))
 ·have hl:=g.lb
  unfold zbl
  show (if ((decide (n<(0:Int)))||(decide (n≥(Γ.lb.length:Int))))=true then some (0,false) else gd (0≤(wI ((wI ((Γ.lb.length:Int) - 1)) - n))∧(wI ((wI ((Γ.lb.length:Int) - 1)) - n))<(Γ.lb.length:Int)) (some (Γ.lb.getD ((wI ((wI ((Γ.lb.length:Int) - 1)) - n)).toNat) default,true)))=_
  by_cases h:0≤n∧n<Γ.lb.length
  ·rw [if_neg (by simp; omega),wI_small (x:=(Γ.lb.length:Int) - 1) (by omega) (by omega),wI_small (by omega) (by omega),zaC (by omega)]
   unfold lbV lbB
   rw [if_pos h,decide_eq_true h]
  ·rw [if_pos (by simp; omega)]
   unfold lbV lbB
   rw [if_neg h,decide_eq_false h]
 ·have:lbV Γ.lb n=0∨lbV Γ.lb n=126∨lbV Γ.lb n=127:=by
   unfold lbV
   split
   ·rename_i h
    apply hl
    rw [List.getD_eq_getElem?_getD,List.getElem?_eq_getElem (by omega)]
    exact List.getElem_mem _
   ·exact .inl rfl
  rcases this with h | h | h <;> rw [h]
  ·exact ⟨rfl,.inl rfl⟩
  ·exact ⟨rfl,.inr (.inl rfl)⟩
  ·exact ⟨rfl,.inr (.inr (.inl rfl))⟩
end Go.Proofs.YtablleokoifolaaGreatDoor
