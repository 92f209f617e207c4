/- Part 6 of the proof that ValidBodiesUptoCardSaid: for every input that fits the row the law answers true and its arguments read as before, over the world as the row lays it. -/
import Derived.Test.YtablleokoifolaaGreatDoorZ5
set_option linter.unusedVariables false
set_option maxRecDepth 100000
set_option maxHeartbeats 4000000
namespace Go.Proofs.YtablleokoifolaaGreatDoor
open Go
mutual
def zaj:Nat→Checker→(List Instr)→Int→Int→Option (Checker)
 | 0,_,_,_,_ => none
 | k+1,p0,p1,p2,p3 => gd (0≤(wI ((p0.frames.length:Int) - 1))∧(wI ((p0.frames.length:Int) - 1))<(p0.frames.length:Int)) ((if (p0.frames.getD ((wI ((p0.frames.length:Int) - 1)).toNat) default).away=true then gd ((p0.frames.length+1) * 16≤140737488355328) (some (Checker.mk p0.m p0.t p0.locals p0.stack (p0.frames++([(Frame.mk (p0.stack.length:Int) false true)]:List Frame)) p0.labels p0.most p0.bad)) else gd ((p0.frames.length+1) * 16≤140737488355328) (some (Checker.mk p0.m p0.t p0.locals p0.stack (p0.frames++([(Frame.mk (p0.stack.length:Int) false ((p0.frames.getD ((wI ((p0.frames.length:Int) - 1)).toNat) default).dead))]:List Frame)) p0.labels p0.most p0.bad))).bind (fun j4 => gd ((j4.labels.length+1) * 1≤140737488355328) ((zal k (Checker.mk j4.m j4.t j4.locals j4.stack j4.frames (j4.labels++([p3]:List Int)) j4.most j4.bad) p1).bind fun x6 => ((zac x6 p2).bind fun x8 => gd (0≤(wI ((x8.2.frames.length:Int) - 1))∧(wI ((x8.2.frames.length:Int) - 1))<(x8.2.frames.length:Int)) ((if x8.2.bad=true then some (Checker.mk x8.2.m x8.2.t x8.2.locals x8.2.stack x8.2.frames x8.2.labels x8.2.most true) else some (Checker.mk x8.2.m x8.2.t x8.2.locals x8.2.stack x8.2.frames x8.2.labels x8.2.most ((x8.2.stack.length:Int)!=((x8.2.frames.getD ((wI ((x8.2.frames.length:Int) - 1)).toNat) default).height)))).bind (fun j11 => gd (0≤(0:Int)∧0≤(mnI ((x8.2.frames.getD ((wI ((x8.2.frames.length:Int) - 1)).toNat) default).height) (j11.stack.length:Int))∧(mnI ((x8.2.frames.getD ((wI ((x8.2.frames.length:Int) - 1)).toNat) default).height) (j11.stack.length:Int))≤(j11.stack.length:Int)) (gd (0≤(0:Int)∧0≤(wI ((j11.frames.length:Int) - 1))∧(wI ((j11.frames.length:Int) - 1))≤(j11.frames.length:Int)) (gd (0≤(0:Int)∧0≤(wI ((j11.labels.length:Int) - 1))∧(wI ((j11.labels.length:Int) - 1))≤(j11.labels.length:Int)) (some (Checker.mk j11.m j11.t j11.locals (List.take ((mnI ((x8.2.frames.getD ((wI ((x8.2.frames.length:Int) - 1)).toNat) default).height) (j11.stack.length:Int)).toNat) j11.stack) (List.take ((wI ((j11.frames.length:Int) - 1)).toNat) j11.frames) (List.take ((wI ((j11.labels.length:Int) - 1)).toNat) j11.labels) j11.most j11.bad))))))))))
def zab:Nat→Checker→Instr→Option (Checker)
 | 0,_,_ => none
 | k+1,p0,p1 => (if (p1.op==(0:Int))=true then ((zap p0).bind fun x1 => some x1) else (if (p1.op==(1:Int))=true then some p0 else (if (p1.op==(2:Int))=true then some (p1.op==(2:Int)) else some (p1.op==(3:Int))).bind (fun j3 => (if j3=true then (if p0.bad=true then some (Checker.mk p0.m p0.t p0.locals p0.stack p0.frames p0.labels p0.most true) else ((zaR p1.result).bind fun x4 => some (Checker.mk p0.m p0.t p0.locals p0.stack p0.frames p0.labels p0.most (!x4)))).bind (fun j6 => (if (p1.op==(3:Int))=true then some 0 else some p1.result).bind (fun j7 => ((zaj k j6 p1.body p1.result j7).bind fun x8 => ((zah x8 p1.result).bind fun x10 => some x10)))) else (if (p1.op==(4:Int))=true then (if p0.bad=true then some (Checker.mk p0.m p0.t p0.locals p0.stack p0.frames p0.labels p0.most true) else ((zaR p1.result).bind fun x17 => some (Checker.mk p0.m p0.t p0.locals p0.stack p0.frames p0.labels p0.most (!x17)))).bind (fun j19 => ((zac j19 127).bind fun x20 => ((zaj k x20.2 p1.body p1.result p1.result).bind fun x22 => ((zaj k x22 p1.els p1.result p1.result).bind fun x24 => ((zah x24 p1.result).bind fun x26 => some x26))))) else (if (p1.op==(12:Int))=true then ((zav p0 p1.n).bind fun x31 => ((zac x31.2 x31.1).bind fun x33 => ((zap x33.2).bind fun x35 => some x35))) else (if (p1.op==(13:Int))=true then ((zac p0 127).bind fun x37 => ((zav x37.2 p1.n).bind fun x39 => ((zac x39.2 x39.1).bind fun x41 => ((zah x41.2 x39.1).bind fun x43 => some x43)))) else (if (p1.op==(14:Int))=true then ((zbF k p0 p1).bind fun x45 => some x45) else (if (p1.op==(15:Int))=true then ((zac p0 p0.t.result).bind fun x47 => ((zap x47.2).bind fun x49 => some x49)) else (if (p1.op==(16:Int))=true then ((zaW p0 p1.n).bind fun x51 => ((zau x51.2 x51.1).bind fun x53 => some x53)) else (if (p1.op==(17:Int))=true then (if p0.bad=true then some (Checker.mk p0.m p0.t p0.locals p0.stack p0.frames p0.labels p0.most true) else some (Checker.mk p0.m p0.t p0.locals p0.stack p0.frames p0.labels p0.most ((p0.m.tables.length:Int)==(0:Int)))).bind (fun j55 => ((zac j55 127).bind fun x56 => ((zaU x56.2 p1.n).bind fun x58 => ((zau x58.2 x58.1).bind fun x60 => some x60)))) else some (Checker.mk p0.m p0.t p0.locals p0.stack p0.frames p0.labels p0.most true))))))))))))
def zal:Nat→Checker→(List Instr)→Option (Checker)
 | 0,_,_ => none
 | k+1,p0,p1 => lpN k (fun (rec5:Checker×Int→Option (Checker)) v => match v with | (a3,a4) => (if (decide (a4<(p1.length:Int)))=true then gd (0≤a4∧a4<(p1.length:Int)) (if a3.bad=true then some a3 else (if (decide (((p1.getD a4.toNat default).op)<(26:Int)))=true then ((zab k a3 (p1.getD a4.toNat default)).bind fun x7 => rec5 (x7,(wI (a4+1)))) else ((zai a3 (p1.getD a4.toNat default)).bind fun x9 => rec5 (x9,(wI (a4+1)))))) else some a3)) (p0,0)
end
theorem zjW (k:Nat) (IH_valid_checker_inner:∀ (p0:Checker) (p1:List Instr) (p2:Int) (p3:Int) (r:Checker),zaj k p0 p1 p2 p3=some r→CM E 70 [.p 1000 0,.d (sVI p1),.d (.int .u8 p2),.d (.int .u8 p3)] (zaa p0) [] [1000] (fun a b => a=(.tup []:LV)∧b=zaa r)) (IH_valid_checker_control:∀ (p0:Checker) (p1:Instr) (r:Checker),zab k p0 p1=some r→CM E 55 [.p 1000 0,.agg (eD (eInstr p1))] (zaa p0) [] [1000] (fun a b => a=(.tup []:LV)∧b=zaa r)) (IH_valid_checker_list:∀ (p0:Checker) (p1:List Instr) (r:Checker),zal k p0 p1=some r→CM E 39 [.p 1000 0,.d (sVI p1)] (zaa p0) [] [1000] (fun a b => a=(.tup []:LV)∧b=zaa r)):∀ (p0:Checker) (p1:List Instr) (p2:Int) (p3:Int) (r:Checker),zaj (k+1) p0 p1 p2 p3=some r→CM E 70 [.p 1000 0,.d (sVI p1),.d (.int .u8 p2),.d (.int .u8 p3)] (zaa p0) [] [1000] (fun a b => a=(.tup []:LV)∧b=zaa r):=by
 intro p0 p1 p2 p3 r H
 refine zkZ (A:=zdg) zeQ fun fr => ?_
 unfold zaj at H
 refine AW2.seq ?_
 obtain ⟨h1,H⟩:=zad H
 refine r_ [.k 8] [0,1,2,3,8] [] [.k 8,.k 1000,.k 1001,.k 1002,.k 1003] ⟨[(0,.p 1000 0),(1,.d (sVI p1)),(2,.d (.int .u8 p2)),(3,.d (.int .u8 p3)),(8,.p 8 0)],[(8,.st false (eD (eFrame (p0.frames.getD ((wI ((p0.frames.length:Int) - 1)).toNat) default))))]++zaa p0⟩ (a_ (a_ h1 (a_ (ixN h1) (a_ (ixN h1) t_))) t_) ?_
 refine AW2.seq ?_
 obtain ⟨j4,H19,H⟩:=bind_some H
 refine AW2.reg [] rfl (YW.to ⟨[(0,.p 1000 0),(1,.d (sVI p1)),(2,.d (.int .u8 p2)),(3,.d (.int .u8 p3))],zaa j4⟩ ?qh20 ?h20)
 case h20 => 
  have H:=H19
  rcases bT ((p0.frames.getD ((wI ((p0.frames.length:Int) - 1)).toNat) default).away) with hc1 | hc1
  ·replace H:=zae H hc1
   obtain ⟨h2,H⟩:=zad H
   have H:=Option.some.inj H
   subst H
   exact YW.fin [(34,true)] [.sb ([(Frame.mk (p0.stack.length:Int) false true)]:List Frame).length (fl eFrame ([(Frame.mk (p0.stack.length:Int) false true)]:List Frame)),.s true (p0.frames++([(Frame.mk (p0.stack.length:Int) false true)]:List Frame)).length (fl eFrame (p0.frames++([(Frame.mk (p0.stack.length:Int) false true)]:List Frame)))] [0,1,2,3] [] [.k 1000,.k 1001,.k 1002,.k 1003] _ (a_ (a_ hc1 (a_ hc1 (a_ hc1 (a_ (litF eFrame ([(Frame.mk (p0.stack.length:Int) false true)]:List Frame)) (a_ (Nat.le_refl p0.frames.length) (a_ h2 (a_ (app1 eFrame p0.frames (Frame.mk (p0.stack.length:Int) false true) (fl eFrame ([(Frame.mk (p0.stack.length:Int) false true)]:List Frame)) rfl) t_))))))) t_) (by kernel_rfl) rfl
  ·replace H:=zaf H hc1
   obtain ⟨h3,H⟩:=zad H
   have H:=Option.some.inj H
   subst H
   exact YW.fin [(34,false)] [.sb ([(Frame.mk (p0.stack.length:Int) false ((p0.frames.getD ((wI ((p0.frames.length:Int) - 1)).toNat) default).dead))]:List Frame).length (fl eFrame ([(Frame.mk (p0.stack.length:Int) false ((p0.frames.getD ((wI ((p0.frames.length:Int) - 1)).toNat) default).dead))]:List Frame)),.s true (p0.frames++([(Frame.mk (p0.stack.length:Int) false ((p0.frames.getD ((wI ((p0.frames.length:Int) - 1)).toNat) default).dead))]:List Frame)).length (fl eFrame (p0.frames++([(Frame.mk (p0.stack.length:Int) false ((p0.frames.getD ((wI ((p0.frames.length:Int) - 1)).toNat) default).dead))]:List Frame)))] [0,1,2,3] [] [.k 1000,.k 1001,.k 1002,.k 1003] _ (a_ (a_ hc1 (a_ hc1 (a_ hc1 (a_ (litF eFrame ([(Frame.mk (p0.stack.length:Int) false ((p0.frames.getD ((wI ((p0.frames.length:Int) - 1)).toNat) default).dead))]:List Frame)) (a_ (Nat.le_refl p0.frames.length) (a_ h3 (a_ (app1 eFrame p0.frames (Frame.mk (p0.stack.length:Int) false ((p0.frames.getD ((wI ((p0.frames.length:Int) - 1)).toNat) default).dead)) (fl eFrame ([(Frame.mk (p0.stack.length:Int) false ((p0.frames.getD ((wI ((p0.frames.length:Int) - 1)).toNat) default).dead))]:List Frame)) rfl) t_))))))) t_) (by kernel_rfl) rfl
 refine AW2.seq ?_
 obtain ⟨h5,H⟩:=zad H
 refine r_ [.sb ([p3]:List Int).length (fl (eI .u8) ([p3]:List Int)),.s true (j4.labels++([p3]:List Int)).length (fl (eI .u8) (j4.labels++([p3]:List Int)))] [0,1,2] [] [.k 1000,.k 1001,.k 1002,.k 1003] ⟨[(0,.p 1000 0),(1,.d (sVI p1)),(2,.d (.int .u8 p2))],zaa (Checker.mk j4.m j4.t j4.locals j4.stack j4.frames (j4.labels++([p3]:List Int)) j4.most j4.bad)⟩ (a_ (a_ (litF (eI .u8) ([p3]:List Int)) (a_ (Nat.le_refl j4.labels.length) (a_ h5 (a_ (app1 (eI .u8) j4.labels p3 (fl (eI .u8) ([p3]:List Int)) rfl) t_)))) t_) ?_
 refine AW2.seq ?_
 obtain ⟨x6,hx7,H⟩:=bind_some H
 refine r_ [.c [1000,1001,1002,1003] [] [1000] (.tup []) (zaa x6)] [0,2] [] [.k 1000,.k 1001,.k 1002,.k 1003] ⟨[(0,.p 1000 0),(2,.d (.int .u8 p2))],zaa x6⟩ (a_ (a_ (IH_valid_checker_list (Checker.mk j4.m j4.t j4.locals j4.stack j4.frames (j4.labels++([p3]:List Int)) j4.most j4.bad) p1 x6 hx7) t_) t_) ?_
 refine AW2.seq ?_
 obtain ⟨x8,hx9,H⟩:=bind_some H
 refine r_ [.c [1000,1001,1002,1003] [] [1000] (.d (.int .u8 x8.1)) (zaa x8.2)] [0] [] [.k 1000,.k 1001,.k 1002,.k 1003] ⟨[(0,.p 1000 0)],zaa x8.2⟩ (a_ (a_ (zak x6 p2 x8 hx9) t_) t_) ?_
 refine AW2.seq ?_
 obtain ⟨h10,H⟩:=zad H
 refine r_ [] [0,9] [] [.k 1000,.k 1001,.k 1002,.k 1003] ⟨[(0,.p 1000 0),(9,.d (.int .i64 ((x8.2.frames.getD ((wI ((x8.2.frames.length:Int) - 1)).toNat) default).height)))],zaa x8.2⟩ (a_ (a_ h10 (a_ (ixN h10) (a_ (ixN h10) t_))) t_) ?_
 refine AW2.seq ?_
 obtain ⟨j11,H16,H⟩:=bind_some H
 refine AW2.reg [] rfl (YW.to ⟨[(0,.p 1000 0),(9,.d (.int .i64 ((x8.2.frames.getD ((wI ((x8.2.frames.length:Int) - 1)).toNat) default).height)))],zaa j11⟩ ?qh17 ?h17)
 case h17 => 
  have H:=H16
  rcases bT x8.2.bad with hc1 | hc1
  ·replace H:=zae H hc1
   have H:=Option.some.inj H
   subst H
   exact YW.fin [(77,true)] [] [0,9] [] [.k 1000,.k 1001,.k 1002,.k 1003] _ (a_ (a_ hc1 (a_ hc1 (a_ hc1 (a_ hc1 (a_ hc1 (a_ hc1 (a_ hc1 (a_ hc1 t_)))))))) t_) (by kernel_rfl) rfl
  ·replace H:=zaf H hc1
   have H:=Option.some.inj H
   subst H
   exact YW.fin [(77,false)] [] [0,9] [] [.k 1000,.k 1001,.k 1002,.k 1003] _ (a_ (a_ hc1 (a_ hc1 (a_ hc1 (a_ hc1 (a_ hc1 (a_ hc1 (a_ hc1 (a_ hc1 t_)))))))) t_) (by kernel_rfl) rfl
 refine AW2.seq ?_
 obtain ⟨h12,H⟩:=zad H
 refine r_ [.s true (List.take ((mnI ((x8.2.frames.getD ((wI ((x8.2.frames.length:Int) - 1)).toNat) default).height) (j11.stack.length:Int)).toNat) j11.stack).length (fl (eI .u8) (List.take ((mnI ((x8.2.frames.getD ((wI ((x8.2.frames.length:Int) - 1)).toNat) default).height) (j11.stack.length:Int)).toNat) j11.stack))] [0] [] [.k 1000,.sl 1001 (List.take ((mnI ((x8.2.frames.getD ((wI ((x8.2.frames.length:Int) - 1)).toNat) default).height) (j11.stack.length:Int)).toNat) j11.stack).length (fl (eI .u8) (List.take ((mnI ((x8.2.frames.getD ((wI ((x8.2.frames.length:Int) - 1)).toNat) default).height) (j11.stack.length:Int)).toNat) j11.stack)),.k 1002,.k 1003] ⟨[(0,.p 1000 0)],zaa (Checker.mk j11.m j11.t j11.locals (List.take ((mnI ((x8.2.frames.getD ((wI ((x8.2.frames.length:Int) - 1)).toNat) default).height) (j11.stack.length:Int)).toNat) j11.stack) j11.frames j11.labels j11.most j11.bad)⟩ (a_ (a_ h12 (a_ (takeN h12) t_)) (a_ (takeL j11.stack ((mnI ((x8.2.frames.getD ((wI ((x8.2.frames.length:Int) - 1)).toNat) default).height) (j11.stack.length:Int)).toNat)) (a_ (takeF (eI .u8) j11.stack ((mnI ((x8.2.frames.getD ((wI ((x8.2.frames.length:Int) - 1)).toNat) default).height) (j11.stack.length:Int)).toNat)) t_))) ?_
 obtain ⟨h13,H⟩:=zad H
 obtain ⟨h14,H⟩:=zad H
 refine AW2.reg [(1000,0,12)] (by kernel_rfl) (YW.fin [] [.s true (List.take ((wI ((j11.frames.length:Int) - 1)).toNat) j11.frames).length (fl eFrame (List.take ((wI ((j11.frames.length:Int) - 1)).toNat) j11.frames)),.s true (List.take ((wI ((j11.labels.length:Int) - 1)).toNat) j11.labels).length (fl (eI .u8) (List.take ((wI ((j11.labels.length:Int) - 1)).toNat) j11.labels))] [] [] [.k 1000,.k 1001,.sl 1002 (List.take ((wI ((j11.frames.length:Int) - 1)).toNat) j11.frames).length (fl eFrame (List.take ((wI ((j11.frames.length:Int) - 1)).toNat) j11.frames)),.sl 1003 (List.take ((wI ((j11.labels.length:Int) - 1)).toNat) j11.labels).length (fl (eI .u8) (List.take ((wI ((j11.labels.length:Int) - 1)).toNat) j11.labels))] ⟨[],zaa (Checker.mk j11.m j11.t j11.locals (List.take ((mnI ((x8.2.frames.getD ((wI ((x8.2.frames.length:Int) - 1)).toNat) default).height) (j11.stack.length:Int)).toNat) j11.stack) (List.take ((wI ((j11.frames.length:Int) - 1)).toNat) j11.frames) (List.take ((wI ((j11.labels.length:Int) - 1)).toNat) j11.labels) j11.most j11.bad)⟩ (a_ (a_ h13 (a_ (takeN h13) (a_ h14 (a_ (takeN h14) t_)))) (a_ (takeL j11.frames ((wI ((j11.frames.length:Int) - 1)).toNat)) (a_ (takeF eFrame j11.frames ((wI ((j11.frames.length:Int) - 1)).toNat)) (a_ (takeL j11.labels ((wI ((j11.labels.length:Int) - 1)).toNat)) (a_ (takeF (eI .u8) j11.labels ((wI ((j11.labels.length:Int) - 1)).toNat)) t_))))) (by kernel_rfl) ?_)
 have H:=Option.some.inj H
 subst H
 exact retS_mkn3 [] [.k 1000,.k 1001,.k 1002,.k 1003] t_ (by kernel_rfl) (by kernel_rfl)
theorem zil (k:Nat) (IH_valid_checker_inner:∀ (p0:Checker) (p1:List Instr) (p2:Int) (p3:Int) (r:Checker),zaj k p0 p1 p2 p3=some r→CM E 70 [.p 1000 0,.d (sVI p1),.d (.int .u8 p2),.d (.int .u8 p3)] (zaa p0) [] [1000] (fun a b => a=(.tup []:LV)∧b=zaa r)) (IH_valid_checker_control:∀ (p0:Checker) (p1:Instr) (r:Checker),zab k p0 p1=some r→CM E 55 [.p 1000 0,.agg (eD (eInstr p1))] (zaa p0) [] [1000] (fun a b => a=(.tup []:LV)∧b=zaa r)) (IH_valid_checker_list:∀ (p0:Checker) (p1:List Instr) (r:Checker),zal k p0 p1=some r→CM E 39 [.p 1000 0,.d (sVI p1)] (zaa p0) [] [1000] (fun a b => a=(.tup []:LV)∧b=zaa r)):∀ (p0:Checker) (p1:Instr) (r:Checker),zab (k+1) p0 p1=some r→CM E 55 [.p 1000 0,.agg (eD (eInstr p1))] (zaa p0) [] [1000] (fun a b => a=(.tup []:LV)∧b=zaa r):=by
 intro p0 p1 r H
 refine zkZ (A:=zcx) zer fun fr => ?_
 unfold zab at H
 refine AW2.seq ?_
 refine r_ [.k 3] [0,3] [] [.k 3,.k 1000,.k 1001,.k 1002,.k 1003] ⟨[(0,.p 1000 0),(3,.p 3 0)],[(3,.st false (eD (eInstr p1)))]++zaa p0⟩ (a_ t_ t_) ?_
 refine AW2.seq ?_
 refine r_ [] [0,3,7] [] [.k 3,.k 1000,.k 1001,.k 1002,.k 1003] ⟨[(0,.p 1000 0),(3,.p 3 0),(7,.d (.int .u8 p1.op))],[(3,.st false (eD (eInstr p1)))]++zaa p0⟩ (a_ t_ t_) ?_
 refine AW2.block ?_
 refine AW2.seq ?_
 refine r_ [] [0,3,7,11] [] [.k 3,.k 1000,.k 1001,.k 1002,.k 1003] ⟨[(0,.p 1000 0),(3,.p 3 0),(7,.d (.int .u8 p1.op)),(11,.d (.bool (p1.op==(0:Int))))],[(3,.st false (eD (eInstr p1)))]++zaa p0⟩ (a_ t_ t_) ?_
 refine AW2.cond (b:=(p1.op==(0:Int))) rfl (fun hc => ?_) (fun hc => ?_)
 ·replace H:=zae H hc
  obtain ⟨x1,hx2,H⟩:=bind_some H
  refine r_ [.c [1000,1001,1002,1003] [] [1000] (.tup []) (zaa x1)] [] [] [.k 1000,.k 1001,.k 1002,.k 1003] ⟨[],zaa x1⟩ (a_ (a_ (zbZ p0 x1 hx2) t_) t_) ?_
  have H:=Option.some.inj H
  subst H
  exact retS_mkn3 [] [.k 1000,.k 1001,.k 1002,.k 1003] t_ (by kernel_rfl) (by kernel_rfl)
 ·replace H:=zaf H hc
  refine AW2.seq ?_
  refine r_ [] [0,3,7,15] [] [.k 3,.k 1000,.k 1001,.k 1002,.k 1003] ⟨[(0,.p 1000 0),(3,.p 3 0),(7,.d (.int .u8 p1.op)),(15,.d (.bool (p1.op==(1:Int))))],[(3,.st false (eD (eInstr p1)))]++zaa p0⟩ (a_ t_ t_) ?_
  refine AW2.cond (b:=(p1.op==(1:Int))) rfl (fun hc => ?_) (fun hc => ?_)
  ·replace H:=zae H hc
   refine AW2.skip ?_
   have H:=Option.some.inj H
   subst H
   exact retS_mkn3 [] [.k 1000,.k 1001,.k 1002,.k 1003] t_ (by kernel_rfl) (by kernel_rfl)
  ·replace H:=zaf H hc
   obtain ⟨j3,H66,H⟩:=bind_some H
   refine AW2.mid ⟨[(0,.p 1000 0),(3,.p 3 0),(7,.d (.int .u8 p1.op)),(17,.d (.bool j3))],[(3,.st false (eD (eInstr p1)))]++zaa p0⟩ ?_ ?_
   ·refine AW2.cond (b:=j3) rfl (fun hc => ?_) (fun hc => ?_)
    ·replace H:=zae H hc
     refine AW2.seq ?_
     obtain ⟨j6,H15,H⟩:=bind_some H
     refine AW2.reg [] rfl (YW.to ⟨[(0,.p 1000 0),(3,.p 3 0)],[(3,.st false (eD (eInstr p1)))]++zaa j6⟩ ?qh16 ?h16)
     case h16 => 
      have H:=H15
      rcases bT p0.bad with hc1 | hc1
      ·replace H:=zae H hc1
       have H:=Option.some.inj H
       subst H
       exact YW.fin [(25,true)] [] [0,3] [] [.k 3,.k 1000,.k 1001,.k 1002,.k 1003] _ (a_ (a_ hc1 (a_ hc1 (a_ hc1 (a_ hc1 (a_ hc1 t_))))) t_) (by kernel_rfl) rfl
      ·replace H:=zaf H hc1
       obtain ⟨x4,hx5,H⟩:=bind_some H
       have H:=Option.some.inj H
       subst H
       exact YW.fin [(25,false)] [.r (.bool x4)] [0,3] [] [.k 3,.k 1000,.k 1001,.k 1002,.k 1003] _ (a_ (a_ hc1 (a_ hc1 (a_ hc1 (a_ (zdP p1.result x4 hx5) (a_ hc1 (a_ hc1 t_)))))) t_) (by kernel_rfl) rfl
     refine AW2.seq ?_
     refine r_ [] [0,3,4] [] [.k 3,.k 1000,.k 1001,.k 1002,.k 1003] ⟨[(0,.p 1000 0),(3,.p 3 0),(4,.d (.int .u8 p1.result))],[(3,.st false (eD (eInstr p1)))]++zaa j6⟩ (a_ t_ t_) ?_
     obtain ⟨j7,H13,H⟩:=bind_some H
     refine AW2.mid ⟨[(0,.p 1000 0),(3,.p 3 0),(4,.d (.int .u8 j7))],[(3,.st false (eD (eInstr p1)))]++zaa j6⟩ ?_ ?_
     ·refine AW2.seq ?_
      obtain ⟨x8,hx9,H⟩:=bind_some H
      refine r_ [.c [1000,1001,1002,1003] [] [1000] (.tup []) (zaa x8)] [0,3] [] [.k 3,.k 1000,.k 1001,.k 1002,.k 1003] ⟨[(0,.p 1000 0),(3,.p 3 0)],[(3,.st false (eD (eInstr p1)))]++zaa x8⟩ (a_ (a_ (IH_valid_checker_inner j6 p1.body p1.result j7 x8 hx9) t_) t_) ?_
      obtain ⟨x10,hx11,H⟩:=bind_some H
      refine r_ [.c [1000,1001,1002,1003] [] [1000] (.tup []) (zaa x10)] [] [] [.k 1000,.k 1001,.k 1002,.k 1003] ⟨[],zaa x10⟩ (a_ (a_ (zaP x8 p1.result x10 hx11) t_) t_) ?_
      have H:=Option.some.inj H
      subst H
      exact retS_mkn3 [] [.k 1000,.k 1001,.k 1002,.k 1003] t_ (by kernel_rfl) (by kernel_rfl)
     ·have H:=H13
      refine AW2.seq ?_
      refine r_ [] [0,3,4,37] [] [.k 3,.k 1000,.k 1001,.k 1002,.k 1003] ⟨[(0,.p 1000 0),(3,.p 3 0),(4,.d (.int .u8 p1.result)),(37,.d (.bool (p1.op==(3:Int))))],[(3,.st false (eD (eInstr p1)))]++zaa j6⟩ (a_ t_ t_) ?_
      refine AW2.cond (b:=(p1.op==(3:Int))) rfl (fun hc => ?_) (fun hc => ?_)
      ·replace H:=zae H hc
       refine r_ [] [0,3,4] [] [.k 3,.k 1000,.k 1001,.k 1002,.k 1003] ⟨[(0,.p 1000 0),(3,.p 3 0),(4,.d (.int .u8 0))],[(3,.st false (eD (eInstr p1)))]++zaa j6⟩ (a_ t_ t_) ?_
       have H:=Option.some.inj H
       subst H
       exact zam [0,3,4] [] [.k 3,.k 1000,.k 1001,.k 1002,.k 1003] t_ (by kernel_rfl)
      ·replace H:=zaf H hc
       refine AW2.skip ?_
       have H:=Option.some.inj H
       subst H
       exact zam [0,3,4] [] [.k 3,.k 1000,.k 1001,.k 1002,.k 1003] t_ (by kernel_rfl)
    ·replace H:=zaf H hc
     refine AW2.seq ?_
     refine r_ [] [0,3,7,49] [] [.k 3,.k 1000,.k 1001,.k 1002,.k 1003] ⟨[(0,.p 1000 0),(3,.p 3 0),(7,.d (.int .u8 p1.op)),(49,.d (.bool (p1.op==(4:Int))))],[(3,.st false (eD (eInstr p1)))]++zaa p0⟩ (a_ t_ t_) ?_
     refine AW2.cond (b:=(p1.op==(4:Int))) rfl (fun hc => ?_) (fun hc => ?_)
     ·replace H:=zae H hc
      refine AW2.seq ?_
      obtain ⟨j19,H29,H⟩:=bind_some H
      refine AW2.reg [] rfl (YW.to ⟨[(0,.p 1000 0),(3,.p 3 0)],[(3,.st false (eD (eInstr p1)))]++zaa j19⟩ ?qh30 ?h30)
      case h30 => 
       have H:=H29
       rcases bT p0.bad with hc1 | hc1
       ·replace H:=zae H hc1
        have H:=Option.some.inj H
        subst H
        exact YW.fin [(56,true)] [] [0,3] [] [.k 3,.k 1000,.k 1001,.k 1002,.k 1003] _ (a_ (a_ hc1 (a_ hc1 (a_ hc1 (a_ hc1 (a_ hc1 t_))))) t_) (by kernel_rfl) rfl
       ·replace H:=zaf H hc1
        obtain ⟨x17,hx18,H⟩:=bind_some H
        have H:=Option.some.inj H
        subst H
        exact YW.fin [(56,false)] [.r (.bool x17)] [0,3] [] [.k 3,.k 1000,.k 1001,.k 1002,.k 1003] _ (a_ (a_ hc1 (a_ hc1 (a_ hc1 (a_ (zdP p1.result x17 hx18) (a_ hc1 (a_ hc1 t_)))))) t_) (by kernel_rfl) rfl
      refine AW2.seq ?_
      obtain ⟨x20,hx21,H⟩:=bind_some H
      refine r_ [.c [1000,1001,1002,1003] [] [1000] (.d (.int .u8 x20.1)) (zaa x20.2)] [0,3] [] [.k 3,.k 1000,.k 1001,.k 1002,.k 1003] ⟨[(0,.p 1000 0),(3,.p 3 0)],[(3,.st false (eD (eInstr p1)))]++zaa x20.2⟩ (a_ (a_ (zak j19 127 x20 hx21) t_) t_) ?_
      refine AW2.seq ?_
      obtain ⟨x22,hx23,H⟩:=bind_some H
      refine r_ [.c [1000,1001,1002,1003] [] [1000] (.tup []) (zaa x22)] [0,3] [] [.k 3,.k 1000,.k 1001,.k 1002,.k 1003] ⟨[(0,.p 1000 0),(3,.p 3 0)],[(3,.st false (eD (eInstr p1)))]++zaa x22⟩ (a_ (a_ (IH_valid_checker_inner x20.2 p1.body p1.result p1.result x22 hx23) t_) t_) ?_
      refine AW2.seq ?_
      obtain ⟨x24,hx25,H⟩:=bind_some H
      refine r_ [.c [1000,1001,1002,1003] [] [1000] (.tup []) (zaa x24)] [0,3] [] [.k 3,.k 1000,.k 1001,.k 1002,.k 1003] ⟨[(0,.p 1000 0),(3,.p 3 0)],[(3,.st false (eD (eInstr p1)))]++zaa x24⟩ (a_ (a_ (IH_valid_checker_inner x22 p1.els p1.result p1.result x24 hx25) t_) t_) ?_
      obtain ⟨x26,hx27,H⟩:=bind_some H
      refine r_ [.c [1000,1001,1002,1003] [] [1000] (.tup []) (zaa x26)] [] [] [.k 1000,.k 1001,.k 1002,.k 1003] ⟨[],zaa x26⟩ (a_ (a_ (zaP x24 p1.result x26 hx27) t_) t_) ?_
      have H:=Option.some.inj H
      subst H
      exact retS_mkn3 [] [.k 1000,.k 1001,.k 1002,.k 1003] t_ (by kernel_rfl) (by kernel_rfl)
     ·replace H:=zaf H hc
      refine AW2.seq ?_
      refine r_ [] [0,3,7,86] [] [.k 3,.k 1000,.k 1001,.k 1002,.k 1003] ⟨[(0,.p 1000 0),(3,.p 3 0),(7,.d (.int .u8 p1.op)),(86,.d (.bool (p1.op==(12:Int))))],[(3,.st false (eD (eInstr p1)))]++zaa p0⟩ (a_ t_ t_) ?_
      refine AW2.cond (b:=(p1.op==(12:Int))) rfl (fun hc => ?_) (fun hc => ?_)
      ·replace H:=zae H hc
       refine AW2.seq ?_
       obtain ⟨x31,hx32,H⟩:=bind_some H
       obtain ⟨x33,hx34,H⟩:=bind_some H
       refine r_ [.c [1000,1001,1002,1003] [] [1000] (.d (.int .u8 x31.1)) (zaa x31.2),.c [1000,1001,1002,1003] [] [1000] (.d (.int .u8 x33.1)) (zaa x33.2)] [0] [] [.k 1000,.k 1001,.k 1002,.k 1003] ⟨[(0,.p 1000 0)],zaa x33.2⟩ (a_ (a_ (zca p0 p1.n x31 hx32) (a_ (zak x31.2 x31.1 x33 hx34) t_)) t_) ?_
       obtain ⟨x35,hx36,H⟩:=bind_some H
       refine r_ [.c [1000,1001,1002,1003] [] [1000] (.tup []) (zaa x35)] [] [] [.k 1000,.k 1001,.k 1002,.k 1003] ⟨[],zaa x35⟩ (a_ (a_ (zbZ x33.2 x35 hx36) t_) t_) ?_
       have H:=Option.some.inj H
       subst H
       exact retS_mkn3 [] [.k 1000,.k 1001,.k 1002,.k 1003] t_ (by kernel_rfl) (by kernel_rfl)
      ·replace H:=zaf H hc
       refine AW2.seq ?_
       refine r_ [] [0,3,7,96] [] [.k 3,.k 1000,.k 1001,.k 1002,.k 1003] ⟨[(0,.p 1000 0),(3,.p 3 0),(7,.d (.int .u8 p1.op)),(96,.d (.bool (p1.op==(13:Int))))],[(3,.st false (eD (eInstr p1)))]++zaa p0⟩ (a_ t_ t_) ?_
       refine AW2.cond (b:=(p1.op==(13:Int))) rfl (fun hc => ?_) (fun hc => ?_)
       ·replace H:=zae H hc
        refine AW2.seq ?_
        obtain ⟨x37,hx38,H⟩:=bind_some H
        refine r_ [.c [1000,1001,1002,1003] [] [1000] (.d (.int .u8 x37.1)) (zaa x37.2)] [0,3] [] [.k 3,.k 1000,.k 1001,.k 1002,.k 1003] ⟨[(0,.p 1000 0),(3,.p 3 0)],[(3,.st false (eD (eInstr p1)))]++zaa x37.2⟩ (a_ (a_ (zak p0 127 x37 hx38) t_) t_) ?_
        refine AW2.seq ?_
        obtain ⟨x39,hx40,H⟩:=bind_some H
        refine r_ [.c [1000,1001,1002,1003] [] [1000] (.d (.int .u8 x39.1)) (zaa x39.2)] [0,5] [] [.k 1000,.k 1001,.k 1002,.k 1003] ⟨[(0,.p 1000 0),(5,.d (.int .u8 x39.1))],zaa x39.2⟩ (a_ (a_ (zca x37.2 p1.n x39 hx40) t_) t_) ?_
        refine AW2.seq ?_
        obtain ⟨x41,hx42,H⟩:=bind_some H
        refine r_ [.c [1000,1001,1002,1003] [] [1000] (.d (.int .u8 x41.1)) (zaa x41.2)] [0,5] [] [.k 1000,.k 1001,.k 1002,.k 1003] ⟨[(0,.p 1000 0),(5,.d (.int .u8 x39.1))],zaa x41.2⟩ (a_ (a_ (zak x39.2 x39.1 x41 hx42) t_) t_) ?_
        obtain ⟨x43,hx44,H⟩:=bind_some H
        refine r_ [.c [1000,1001,1002,1003] [] [1000] (.tup []) (zaa x43)] [] [] [.k 1000,.k 1001,.k 1002,.k 1003] ⟨[],zaa x43⟩ (a_ (a_ (zaP x41.2 x39.1 x43 hx44) t_) t_) ?_
        have H:=Option.some.inj H
        subst H
        exact retS_mkn3 [] [.k 1000,.k 1001,.k 1002,.k 1003] t_ (by kernel_rfl) (by kernel_rfl)
       ·replace H:=zaf H hc
        refine AW2.seq ?_
        refine r_ [] [0,3,7,110] [] [.k 3,.k 1000,.k 1001,.k 1002,.k 1003] ⟨[(0,.p 1000 0),(3,.p 3 0),(7,.d (.int .u8 p1.op)),(110,.d (.bool (p1.op==(14:Int))))],[(3,.st false (eD (eInstr p1)))]++zaa p0⟩ (a_ t_ t_) ?_
        refine AW2.cond (b:=(p1.op==(14:Int))) rfl (fun hc => ?_) (fun hc => ?_)
        ·replace H:=zae H hc
         obtain ⟨x45,hx46,H⟩:=bind_some H
         refine r_ [.c [1000,1001,1002,1003] [] [1000] (.tup []) (zaa x45)] [] [] [.k 1000,.k 1001,.k 1002,.k 1003] ⟨[],zaa x45⟩ (a_ (a_ (zkf k p0 p1 x45 hx46) t_) t_) ?_
         have H:=Option.some.inj H
         subst H
         exact retS_mkn3 [] [.k 1000,.k 1001,.k 1002,.k 1003] t_ (by kernel_rfl) (by kernel_rfl)
        ·replace H:=zaf H hc
         refine AW2.seq ?_
         refine r_ [] [0,3,7,115] [] [.k 3,.k 1000,.k 1001,.k 1002,.k 1003] ⟨[(0,.p 1000 0),(3,.p 3 0),(7,.d (.int .u8 p1.op)),(115,.d (.bool (p1.op==(15:Int))))],[(3,.st false (eD (eInstr p1)))]++zaa p0⟩ (a_ t_ t_) ?_
         refine AW2.cond (b:=(p1.op==(15:Int))) rfl (fun hc => ?_) (fun hc => ?_)
         ·replace H:=zae H hc
          refine AW2.seq ?_
          obtain ⟨x47,hx48,H⟩:=bind_some H
          refine r_ [.c [1000,1001,1002,1003] [] [1000] (.d (.int .u8 x47.1)) (zaa x47.2)] [0] [] [.k 1000,.k 1001,.k 1002,.k 1003] ⟨[(0,.p 1000 0)],zaa x47.2⟩ (a_ (a_ (zak p0 p0.t.result x47 hx48) t_) t_) ?_
          obtain ⟨x49,hx50,H⟩:=bind_some H
          refine r_ [.c [1000,1001,1002,1003] [] [1000] (.tup []) (zaa x49)] [] [] [.k 1000,.k 1001,.k 1002,.k 1003] ⟨[],zaa x49⟩ (a_ (a_ (zbZ x47.2 x49 hx50) t_) t_) ?_
          have H:=Option.some.inj H
          subst H
          exact retS_mkn3 [] [.k 1000,.k 1001,.k 1002,.k 1003] t_ (by kernel_rfl) (by kernel_rfl)
         ·replace H:=zaf H hc
          refine AW2.seq ?_
          refine r_ [] [0,3,7,126] [] [.k 3,.k 1000,.k 1001,.k 1002,.k 1003] ⟨[(0,.p 1000 0),(3,.p 3 0),(7,.d (.int .u8 p1.op)),(126,.d (.bool (p1.op==(16:Int))))],[(3,.st false (eD (eInstr p1)))]++zaa p0⟩ (a_ t_ t_) ?_
          refine AW2.cond (b:=(p1.op==(16:Int))) rfl (fun hc => ?_) (fun hc => ?_)
          ·replace H:=zae H hc
           obtain ⟨x51,hx52,H⟩:=bind_some H
           obtain ⟨x53,hx54,H⟩:=bind_some H
           refine r_ [.c [1000,1001,1002,1003] [] [1000] (.agg (eD (eTyp x51.1))) (zaa x51.2),.c [1000,1001,1002,1003] [] [1000] (.tup []) (zaa x53)] [] [] [.k 1000,.k 1001,.k 1002,.k 1003] ⟨[],zaa x53⟩ (a_ (a_ (zho p0 p1.n x51 hx52) (a_ (zdw x51.2 x51.1 x53 hx54) t_)) t_) ?_
           have H:=Option.some.inj H
           subst H
           exact retS_mkn3 [] [.k 1000,.k 1001,.k 1002,.k 1003] t_ (by kernel_rfl) (by kernel_rfl)
          ·replace H:=zaf H hc
           refine AW2.seq ?_
           refine r_ [] [0,3,134] [] [.k 3,.k 1000,.k 1001,.k 1002,.k 1003] ⟨[(0,.p 1000 0),(3,.p 3 0),(134,.d (.bool (p1.op==(17:Int))))],[(3,.st false (eD (eInstr p1)))]++zaa p0⟩ (a_ t_ t_) ?_
           refine AW2.cond (b:=(p1.op==(17:Int))) rfl (fun hc => ?_) (fun hc => ?_)
           ·replace H:=zae H hc
            refine AW2.seq ?_
            obtain ⟨j55,H63,H⟩:=bind_some H
            refine AW2.reg [] rfl (YW.to ⟨[(0,.p 1000 0),(3,.p 3 0)],[(3,.st false (eD (eInstr p1)))]++zaa j55⟩ ?qh64 ?h64)
            case h64 => 
             have H:=H63
             rcases bT p0.bad with hc1 | hc1
             ·replace H:=zae H hc1
              have H:=Option.some.inj H
              subst H
              exact YW.fin [(141,true)] [] [0,3] [] [.k 3,.k 1000,.k 1001,.k 1002,.k 1003] _ (a_ (a_ hc1 (a_ hc1 (a_ hc1 (a_ hc1 (a_ hc1 (a_ hc1 (a_ hc1 (a_ hc1 t_)))))))) t_) (by kernel_rfl) rfl
             ·replace H:=zaf H hc1
              have H:=Option.some.inj H
              subst H
              exact YW.fin [(141,false)] [] [0,3] [] [.k 3,.k 1000,.k 1001,.k 1002,.k 1003] _ (a_ (a_ hc1 (a_ hc1 (a_ hc1 (a_ hc1 (a_ hc1 (a_ hc1 (a_ hc1 (a_ hc1 t_)))))))) t_) (by kernel_rfl) rfl
            refine AW2.seq ?_
            obtain ⟨x56,hx57,H⟩:=bind_some H
            refine r_ [.c [1000,1001,1002,1003] [] [1000] (.d (.int .u8 x56.1)) (zaa x56.2)] [0,3] [] [.k 3,.k 1000,.k 1001,.k 1002,.k 1003] ⟨[(0,.p 1000 0),(3,.p 3 0)],[(3,.st false (eD (eInstr p1)))]++zaa x56.2⟩ (a_ (a_ (zak j55 127 x56 hx57) t_) t_) ?_
            obtain ⟨x58,hx59,H⟩:=bind_some H
            obtain ⟨x60,hx61,H⟩:=bind_some H
            refine r_ [.c [1000,1001,1002,1003] [] [1000] (.agg (eD (eTyp x58.1))) (zaa x58.2),.c [1000,1001,1002,1003] [] [1000] (.tup []) (zaa x60)] [] [] [.k 1000,.k 1001,.k 1002,.k 1003] ⟨[],zaa x60⟩ (a_ (a_ (zfu x56.2 p1.n x58 hx59) (a_ (zdw x58.2 x58.1 x60 hx61) t_)) t_) ?_
            have H:=Option.some.inj H
            subst H
            exact retS_mkn3 [] [.k 1000,.k 1001,.k 1002,.k 1003] t_ (by kernel_rfl) (by kernel_rfl)
           ·replace H:=zaf H hc
            refine r_ [] [] [] [.k 1000,.k 1001,.k 1002,.k 1003] ⟨[],zaa (Checker.mk p0.m p0.t p0.locals p0.stack p0.frames p0.labels p0.most true)⟩ (a_ t_ t_) ?_
            have H:=Option.some.inj H
            subst H
            exact retS_mkn3 [] [.k 1000,.k 1001,.k 1002,.k 1003] t_ (by kernel_rfl) (by kernel_rfl)
   ·have H:=H66
    refine AW2.seq ?_
    refine r_ [] [0,3,7,17] [] [.k 3,.k 1000,.k 1001,.k 1002,.k 1003] ⟨[(0,.p 1000 0),(3,.p 3 0),(7,.d (.int .u8 p1.op)),(17,.d (.bool (p1.op==(2:Int))))],[(3,.st false (eD (eInstr p1)))]++zaa p0⟩ (a_ t_ t_) ?_
    refine AW2.cond (b:=(p1.op==(2:Int))) rfl (fun hc => ?_) (fun hc => ?_)
    ·replace H:=zae H hc
     refine AW2.skip ?_
     have H:=Option.some.inj H
     subst H
     exact zam [0,3,7,17] [] [.k 3,.k 1000,.k 1001,.k 1002,.k 1003] t_ (by kernel_rfl)
    ·replace H:=zaf H hc
     refine r_ [] [0,3,7,17] [] [.k 3,.k 1000,.k 1001,.k 1002,.k 1003] ⟨[(0,.p 1000 0),(3,.p 3 0),(7,.d (.int .u8 p1.op)),(17,.d (.bool (p1.op==(3:Int))))],[(3,.st false (eD (eInstr p1)))]++zaa p0⟩ (a_ t_ t_) ?_
     have H:=Option.some.inj H
     subst H
     exact zam [0,3,7,17] [] [.k 3,.k 1000,.k 1001,.k 1002,.k 1003] t_ (by kernel_rfl)
theorem zkX (k:Nat) (IH_valid_checker_inner:∀ (p0:Checker) (p1:List Instr) (p2:Int) (p3:Int) (r:Checker),zaj k p0 p1 p2 p3=some r→CM E 70 [.p 1000 0,.d (sVI p1),.d (.int .u8 p2),.d (.int .u8 p3)] (zaa p0) [] [1000] (fun a b => a=(.tup []:LV)∧b=zaa r)) (IH_valid_checker_control:∀ (p0:Checker) (p1:Instr) (r:Checker),zab k p0 p1=some r→CM E 55 [.p 1000 0,.agg (eD (eInstr p1))] (zaa p0) [] [1000] (fun a b => a=(.tup []:LV)∧b=zaa r)) (IH_valid_checker_list:∀ (p0:Checker) (p1:List Instr) (r:Checker),zal k p0 p1=some r→CM E 39 [.p 1000 0,.d (sVI p1)] (zaa p0) [] [1000] (fun a b => a=(.tup []:LV)∧b=zaa r)):∀ (p0:Checker) (p1:List Instr) (r:Checker),zal (k+1) p0 p1=some r→CM E 39 [.p 1000 0,.d (sVI p1)] (zaa p0) [] [1000] (fun a b => a=(.tup []:LV)∧b=zaa r):=by
 intro p0 p1 r H
 refine zkZ (A:=zdz) zfa fun fr => ?_
 unfold zal at H
 refine AW2.seq ?_
 refine r_ [] [0,6,7,8] [] [.k 1000,.k 1001,.k 1002,.k 1003] ⟨[(0,.p 1000 0),(6,.d (sVI p1)),(7,.d (.int .i64 (p1.length:Int))),(8,.d (.int .i64 0))],zaa p0⟩ (a_ t_ t_) ?_
 refine AW2.block ?_
 refine AW2.lpR (σ:=Checker×Int) (fun v => ⟨[(0,.p 1000 0),(6,.d (sVI p1)),(7,.d (.int .i64 (p1.length:Int))),(8,.d (.int .i64 v.2))],zaa v.1⟩) ?_ (v:=(p0,0)) H
 rintro rec5 ⟨a3,a4⟩ H
 dsimp only at H
 refine AW2.seq ?_
 refine r_ [] [0,6,7,8,9] [] [.k 1000,.k 1001,.k 1002,.k 1003] ⟨[(0,.p 1000 0),(6,.d (sVI p1)),(7,.d (.int .i64 (p1.length:Int))),(8,.d (.int .i64 a4)),(9,.d (.bool (decide (a4<(p1.length:Int)))))],zaa a3⟩ (a_ t_ t_) ?_
 refine AW2.seq ?_
 refine AW2.cond (b:=(decide (a4<(p1.length:Int)))) rfl (fun hc => ?_) (fun hc => ?_)
 ·replace H:=zae H hc
  refine AW2.skip ?_
  refine AW2.seq ?_
  refine AW2.block ?_
  refine AW2.seq ?_
  obtain ⟨h6,H⟩:=zad H
  refine r_ [.e (eInstr (p1.getD a4.toNat default)),.k 5] [0,5,6,7,8] [] [.k 5,.k 1000,.k 1001,.k 1002,.k 1003] ⟨[(0,.p 1000 0),(5,.p 5 0),(6,.d (sVI p1)),(7,.d (.int .i64 (p1.length:Int))),(8,.d (.int .i64 a4))],[(5,.st false (eD (eInstr (p1.getD a4.toNat default))))]++zaa a3⟩ (a_ (a_ h6 (a_ (flI_ix h6) t_)) t_) ?_
  refine AW2.seq ?_
  refine AW2.seq ?_
  refine r_ [] [0,5,6,7,8,15] [] [.k 5,.k 1000,.k 1001,.k 1002,.k 1003] ⟨[(0,.p 1000 0),(5,.p 5 0),(6,.d (sVI p1)),(7,.d (.int .i64 (p1.length:Int))),(8,.d (.int .i64 a4)),(15,.d (.bool a3.bad))],[(5,.st false (eD (eInstr (p1.getD a4.toNat default))))]++zaa a3⟩ (a_ t_ t_) ?_
  refine AW2.cond (b:=a3.bad) rfl (fun hc => ?_) (fun hc => ?_)
  ·replace H:=zae H hc
   refine AW2.ret ?_
   have H:=Option.some.inj H
   subst H
   exact retS_mk3 [] [.k 1000,.k 1001,.k 1002,.k 1003] t_ (by kernel_rfl) (by kernel_rfl)
  ·replace H:=zaf H hc
   refine AW2.skip ?_
   refine AW2.seq ?_
   refine r_ [] [0,5,6,7,8,18] [] [.k 5,.k 1000,.k 1001,.k 1002,.k 1003] ⟨[(0,.p 1000 0),(5,.p 5 0),(6,.d (sVI p1)),(7,.d (.int .i64 (p1.length:Int))),(8,.d (.int .i64 a4)),(18,.d (.bool (decide (((p1.getD a4.toNat default).op)<(26:Int)))))],[(5,.st false (eD (eInstr (p1.getD a4.toNat default))))]++zaa a3⟩ (a_ t_ t_) ?_
   refine AW2.cond (b:=(decide (((p1.getD a4.toNat default).op)<(26:Int)))) rfl (fun hc => ?_) (fun hc => ?_)
   ·replace H:=zae H hc
    obtain ⟨x7,hx8,H⟩:=bind_some H
    refine r_ [.c [1000,1001,1002,1003] [] [1000] (.tup []) (zaa x7)] [0,6,7,8] [] [.k 1000,.k 1001,.k 1002,.k 1003] ⟨[(0,.p 1000 0),(6,.d (sVI p1)),(7,.d (.int .i64 (p1.length:Int))),(8,.d (.int .i64 a4))],zaa x7⟩ (a_ (a_ (IH_valid_checker_control a3 (p1.getD a4.toNat default) x7 hx8) t_) t_) ?_
    refine r_ [] [0,6,7,8] [] [.k 1000,.k 1001,.k 1002,.k 1003] ⟨[(0,.p 1000 0),(6,.d (sVI p1)),(7,.d (.int .i64 (p1.length:Int))),(8,.d (.int .i64 (wI (a4+1))))],zaa x7⟩ (a_ t_ t_) ?_
    exact ⟨(x7,(wI (a4+1))),H,zam [0,6,7,8] [] [.k 1000,.k 1001,.k 1002,.k 1003] t_ (by kernel_rfl)⟩
   ·replace H:=zaf H hc
    obtain ⟨x9,hx10,H⟩:=bind_some H
    refine r_ [.c [1000,1001,1002,1003] [] [1000] (.tup []) (zaa x9)] [0,6,7,8] [] [.k 1000,.k 1001,.k 1002,.k 1003] ⟨[(0,.p 1000 0),(6,.d (sVI p1)),(7,.d (.int .i64 (p1.length:Int))),(8,.d (.int .i64 a4))],zaa x9⟩ (a_ (a_ (ziW a3 (p1.getD a4.toNat default) x9 hx10) t_) t_) ?_
    refine r_ [] [0,6,7,8] [] [.k 1000,.k 1001,.k 1002,.k 1003] ⟨[(0,.p 1000 0),(6,.d (sVI p1)),(7,.d (.int .i64 (p1.length:Int))),(8,.d (.int .i64 (wI (a4+1))))],zaa x9⟩ (a_ t_ t_) ?_
    exact ⟨(x9,(wI (a4+1))),H,zam [0,6,7,8] [] [.k 1000,.k 1001,.k 1002,.k 1003] t_ (by kernel_rfl)⟩
 ·replace H:=zaf H hc
  refine AW2.exit ?_
  have H:=Option.some.inj H
  subst H
  exact retS_mkn3 [] [.k 1000,.k 1001,.k 1002,.k 1003] t_ (by kernel_rfl) (by kernel_rfl)
theorem zgN:∀ k,(∀ (p0:Checker) (p1:List Instr) (p2:Int) (p3:Int) (r:Checker),zaj k p0 p1 p2 p3=some r→CM E 70 [.p 1000 0,.d (sVI p1),.d (.int .u8 p2),.d (.int .u8 p3)] (zaa p0) [] [1000] (fun a b => a=(.tup []:LV)∧b=zaa r))∧(∀ (p0:Checker) (p1:Instr) (r:Checker),zab k p0 p1=some r→CM E 55 [.p 1000 0,.agg (eD (eInstr p1))] (zaa p0) [] [1000] (fun a b => a=(.tup []:LV)∧b=zaa r))∧(∀ (p0:Checker) (p1:List Instr) (r:Checker),zal k p0 p1=some r→CM E 39 [.p 1000 0,.d (sVI p1)] (zaa p0) [] [1000] (fun a b => a=(.tup []:LV)∧b=zaa r)):=by
 intro k
 induction k with
 | zero => exact ⟨fun _ _ _ _ _ H => (by cases H),fun _ _ _ H => (by cases H),fun _ _ _ H => (by cases H)⟩
 | succ k ih => 
  obtain ⟨i0,i1,i2⟩:=ih
  exact ⟨zjW k i0 i1 i2,zil k i0 i1 i2,zkX k i0 i1 i2⟩
theorem zla (k:Nat):∀ (p0:Checker) (p1:List Instr) (r:Checker),zal k p0 p1=some r→CM E 39 [.p 1000 0,.d (sVI p1)] (zaa p0) [] [1000] (fun a b => a=(.tup []:LV)∧b=zaa r):=(zgN k).2.2
def zdp (K:Nat) (p0:Mdl) (p1:Int):Option (Option Checker×Option Int):=(if (decide (p1<(0:Int)))=true then some true else (if (decide (p1≥(p0.funcs.length:Int)))=true then some true else gd (0≤p1∧p1<(p0.funcs.length:Int)) (if (decide (((p0.funcs.getD p1.toNat default).type_)≥(IntKind.wrap .u32 (p0.types.length:Int))))=true then some true else ((zfj K p0).bind fun x2 => some (!x2))))).bind (fun j4 => (if j4=true then some (none,(some 1)) else gd (0≤p1∧p1<(p0.funcs.length:Int)) (gd (0≤((p0.funcs.getD p1.toNat default).type_)∧((p0.funcs.getD p1.toNat default).type_)<(p0.types.length:Int)) (gd (0≤p1∧p1<(p0.funcs.length:Int)) ((zaI K ([(p0.types.getD ((p0.funcs.getD p1.toNat default).type_).toNat default).params,(p0.funcs.getD p1.toNat default).locals]:List (List Int))).bind fun x8 => gd (0≤p1∧p1<(p0.funcs.length:Int)) ((zal K (Checker.mk p0 (p0.types.getD ((p0.funcs.getD p1.toNat default).type_).toNat default) x8 ([]:List Int) ([(Frame.mk 0 false false)]:List Frame) ([(p0.types.getD ((p0.funcs.getD p1.toNat default).type_).toNat default).result]:List Int) 0 false) ((p0.funcs.getD p1.toNat default).body)).bind fun x11 => ((zac x11 ((p0.types.getD ((p0.funcs.getD p1.toNat default).type_).toNat default).result)).bind fun x13 => (if (x13.2.bad||(decide ((x13.2.stack.length:Int)>(0:Int))))=true then some (none,(some 7)) else some ((some x13.2),none)))))))))
theorem zmD (K:Nat) (p0:Mdl) (p1:Int) (r:Option Checker×Option Int) (H:zdp K p0 p1=some r):CF E 24 [.agg (eMdl p0),.int .i64 p1] (.tup [.pt (r.1.map eChecker),.err 45 r.2]):=by
 refine zbi (A:=ziN) zlL rfl fun fr => ?_
 unfold zdp at H
 refine AW2.seq ?_
 refine r_ [.k 2] [1,2] [] [.k 2] ⟨[(1,.d (.int .i64 p1)),(2,.p 2 0)],[(2,.st false (eD (eMdl p0)))]⟩ (a_ t_ t_) ?_
 refine AW2.seq ?_
 refine AW2.seq ?_
 obtain ⟨j4,H17,H⟩:=bind_some H
 refine AW2.reg [] rfl (YW.to ⟨[(1,.d (.int .i64 p1)),(2,.p 2 0),(34,.d (.bool j4))],[(2,.st false (eD (eMdl p0)))]⟩ ?qh18 ?h18)
 case h18 => 
  have H:=H17
  rcases bT (decide (p1<(0:Int))) with hc1 | hc1
  ·replace H:=zae H hc1
   have H:=Option.some.inj H
   subst H
   exact YW.fin [(10,true),(17,true),(30,true)] [] [1,2,34] [] [.k 2] _ (a_ (a_ hc1 (a_ hc1 (a_ hc1 (a_ hc1 (a_ hc1 (a_ hc1 (a_ (Eq.refl true) (a_ (Eq.refl true) (a_ (Eq.refl true) (a_ (Eq.refl true) (a_ (Eq.refl true) (a_ (Eq.refl true) (a_ (Eq.refl true) (a_ (Eq.refl true) (a_ (Eq.refl true) (a_ (Eq.refl true) (a_ (Eq.refl true) (a_ (Eq.refl true) (a_ (Eq.refl true) (a_ (Eq.refl true) (a_ (Eq.refl true) (a_ (Eq.refl true) t_)))))))))))))))))))))) t_) (by kernel_rfl) rfl
  ·replace H:=zaf H hc1
   rcases bT (decide (p1≥(p0.funcs.length:Int))) with hc2 | hc2
   ·replace H:=zae H hc2
    have H:=Option.some.inj H
    subst H
    exact YW.fin [(10,false),(17,true),(30,true)] [] [1,2,34] [] [.k 2] _ (a_ (a_ hc1 (a_ hc1 (a_ hc1 (a_ hc1 (a_ hc1 (a_ hc1 (a_ hc2 (a_ hc2 (a_ hc2 (a_ hc2 (a_ hc2 (a_ hc2 (a_ hc2 (a_ hc2 (a_ hc2 (a_ hc2 (a_ hc2 (a_ hc2 (a_ (Eq.refl true) (a_ (Eq.refl true) (a_ (Eq.refl true) (a_ (Eq.refl true) t_)))))))))))))))))))))) t_) (by kernel_rfl) rfl
   ·replace H:=zaf H hc2
    obtain ⟨h1,H⟩:=zad H
    rcases bT (decide (((p0.funcs.getD p1.toNat default).type_)≥(IntKind.wrap .u32 (p0.types.length:Int)))) with hc3 | hc3
    ·replace H:=zae H hc3
     have H:=Option.some.inj H
     subst H
     exact YW.fin [(10,false),(17,false),(30,true)] [] [1,2,34] [] [.k 2] _ (a_ (a_ hc1 (a_ hc1 (a_ hc1 (a_ hc1 (a_ hc1 (a_ hc1 (a_ hc2 (a_ hc2 (a_ hc2 (a_ hc2 (a_ h1 (a_ hc2 (a_ hc2 (a_ hc2 (a_ hc2 (a_ hc2 (a_ hc2 (a_ hc2 (a_ hc2 (a_ hc3 (a_ hc3 (a_ hc3 (a_ hc3 t_))))))))))))))))))))))) t_) (by kernel_rfl) rfl
    ·replace H:=zaf H hc3
     obtain ⟨x2,hx3,H⟩:=bind_some H
     have H:=Option.some.inj H
     subst H
     exact YW.fin [(10,false),(17,false),(30,false)] [.r (.bool x2)] [1,2,34] [] [.k 2] _ (a_ (a_ hc1 (a_ hc1 (a_ hc1 (a_ hc1 (a_ hc1 (a_ hc1 (a_ hc2 (a_ hc2 (a_ hc2 (a_ hc2 (a_ h1 (a_ hc2 (a_ hc2 (a_ hc2 (a_ hc2 (a_ hc2 (a_ hc2 (a_ hc2 (a_ hc2 (a_ hc3 (a_ hc3 (a_ (zxM K p0 x2 hx3) (a_ hc3 (a_ hc3 t_)))))))))))))))))))))))) t_) (by kernel_rfl) rfl
 refine AW2.cond (b:=j4) rfl (fun hc => ?_) (fun hc => ?_)
 ·replace H:=zae H hc
  refine AW2.seq ?_
  refine r_ [] [4,5] [] [] ⟨[(4,.d .nilp),(5,.d (.err 45 (some 1)))],[]⟩ (a_ t_ t_) ?_
  refine AW2.ret ?_
  have H:=Option.some.inj H
  subst H
  exact retP_mk2 t_ (by kernel_rfl)
 ·replace H:=zaf H hc
  refine AW2.skip ?_
  refine AW2.seq ?_
  obtain ⟨h5,H⟩:=zad H
  obtain ⟨h6,H⟩:=zad H
  refine r_ [.k 6] [1,2,6] [] [.k 2,.k 6] ⟨[(1,.d (.int .i64 p1)),(2,.p 2 0),(6,.p 6 0)],[(2,.st false (eD (eMdl p0))),(6,.st false (eD (eTyp (p0.types.getD ((p0.funcs.getD p1.toNat default).type_).toNat default))))]⟩ (a_ (a_ h5 (a_ h6 t_)) t_) ?_
  refine AW2.seq ?_
  obtain ⟨h7,H⟩:=zad H
  obtain ⟨x8,hx9,H⟩:=bind_some H
  refine r_ [.sb ([(p0.types.getD ((p0.funcs.getD p1.toNat default).type_).toNat default).params,(p0.funcs.getD p1.toNat default).locals]:List (List Int)).length (fl (eL (eI .u8)) ([(p0.types.getD ((p0.funcs.getD p1.toNat default).type_).toNat default).params,(p0.funcs.getD p1.toNat default).locals]:List (List Int))),.r (sV (eI .u8) x8),.k 1000] [1,2,6,7] [] [.k 2,.k 6,.k 1000] ⟨[(1,.d (.int .i64 p1)),(2,.p 2 0),(6,.p 6 0),(7,.p 1000 0)],[(2,.st false (eD (eMdl p0))),(6,.st false (eD (eTyp (p0.types.getD ((p0.funcs.getD p1.toNat default).type_).toNat default)))),(1000,.st false [.d (sV eTyp p0.types),.d (sV eFnc p0.funcs),.d (sV eLim p0.tables),.d (sV eLim p0.memories),.d (sV eGlo p0.globals),.d (sV eXpo p0.exports),.d (sV eEle p0.elems),.d (sV eDat p0.datas),.d (sV (eI .u8) ((p0.types.getD ((p0.funcs.getD p1.toNat default).type_).toNat default).params)),.d (.int .u8 ((p0.types.getD ((p0.funcs.getD p1.toNat default).type_).toNat default).result)),.d (sV (eI .u8) x8),.d .nils,.d .nils,.d .nils,.d (.int .i64 0),.d (.bool false)])]⟩ (a_ (a_ h7 (a_ (litF (eL (eI .u8)) ([(p0.types.getD ((p0.funcs.getD p1.toNat default).type_).toNat default).params,(p0.funcs.getD p1.toNat default).locals]:List (List Int))) (a_ (zeI K ([(p0.types.getD ((p0.funcs.getD p1.toNat default).type_).toNat default).params,(p0.funcs.getD p1.toNat default).locals]:List (List Int)) x8 hx9) t_))) t_) ?_
  refine AW2.seq ?_
  refine AW2.reg [(1000,0,12)] (by kernel_rfl) (YW.fin [] [.ks true 1002 ([(Frame.mk 0 false false)]:List Frame).length (fl eFrame ([(Frame.mk 0 false false)]:List Frame)),.ks true 1003 ([(p0.types.getD ((p0.funcs.getD p1.toNat default).type_).toNat default).result]:List Int).length (fl (eI .u8) ([(p0.types.getD ((p0.funcs.getD p1.toNat default).type_).toNat default).result]:List Int))] [1,2,6,7] [] [.k 2,.k 6,.k 1000,.k 1002,.k 1003] ⟨[(1,.d (.int .i64 p1)),(2,.p 2 0),(6,.p 6 0),(7,.p 1000 0)],[(2,.st false (eD (eMdl p0))),(6,.st false (eD (eTyp (p0.types.getD ((p0.funcs.getD p1.toNat default).type_).toNat default)))),(1000,.st false [.d (sV eTyp p0.types),.d (sV eFnc p0.funcs),.d (sV eLim p0.tables),.d (sV eLim p0.memories),.d (sV eGlo p0.globals),.d (sV eXpo p0.exports),.d (sV eEle p0.elems),.d (sV eDat p0.datas),.d (sV (eI .u8) ((p0.types.getD ((p0.funcs.getD p1.toNat default).type_).toNat default).params)),.d (.int .u8 ((p0.types.getD ((p0.funcs.getD p1.toNat default).type_).toNat default).result)),.d (sV (eI .u8) x8),.d .nils,.ls 1002 0 ([(Frame.mk 0 false false)]:List Frame).length,.ls 1003 0 ([(p0.types.getD ((p0.funcs.getD p1.toNat default).type_).toNat default).result]:List Int).length,.d (.int .i64 0),.d (.bool false)]),(1002,.sl false 3 ([(Frame.mk 0 false false)]:List Frame).length (fl eFrame ([(Frame.mk 0 false false)]:List Frame))),(1003,.sl false 1 ([(p0.types.getD ((p0.funcs.getD p1.toNat default).type_).toNat default).result]:List Int).length (fl (eI .u8) ([(p0.types.getD ((p0.funcs.getD p1.toNat default).type_).toNat default).result]:List Int)))]⟩ (a_ (a_ (litK eFrame ([(Frame.mk 0 false false)]:List Frame) (fun _ => rfl)) (a_ (litK (eI .u8) ([(p0.types.getD ((p0.funcs.getD p1.toNat default).type_).toNat default).result]:List Int) (fun _ => rfl)) t_)) t_) (by kernel_rfl) ?_)
  refine AW2.seq ?_
  refine AW2.cv [.c 1000 11 1001 1 (fl (eI .u8) ([]:List Int))] [1,2,6,7] [] [.k 2,.k 6,.k 1000,.k 1001,.k 1002,.k 1003] ⟨[(1,.d (.int .i64 p1)),(2,.p 2 0),(6,.p 6 0),(7,.p 1000 0)],[(2,.st false (eD (eMdl p0))),(6,.st false (eD (eTyp (p0.types.getD ((p0.funcs.getD p1.toNat default).type_).toNat default))))]++zaa (Checker.mk p0 (p0.types.getD ((p0.funcs.getD p1.toNat default).type_).toNat default) x8 ([]:List Int) ([(Frame.mk 0 false false)]:List Frame) ([(p0.types.getD ((p0.funcs.getD p1.toNat default).type_).toNat default).result]:List Int) 0 false)⟩ t_ (by kernel_rfl) ?_
  obtain ⟨h10,H⟩:=zad H
  obtain ⟨x11,hx12,H⟩:=bind_some H
  refine r_ [.c [1000,1001,1002,1003] [] [1000] (.tup []) (zaa x11)] [6,7] [] [.k 6,.k 1000,.k 1001,.k 1002,.k 1003] ⟨[(6,.p 6 0),(7,.p 1000 0)],[(6,.st false (eD (eTyp (p0.types.getD ((p0.funcs.getD p1.toNat default).type_).toNat default))))]++zaa x11⟩ (a_ (a_ h10 (a_ (zla K (Checker.mk p0 (p0.types.getD ((p0.funcs.getD p1.toNat default).type_).toNat default) x8 ([]:List Int) ([(Frame.mk 0 false false)]:List Frame) ([(p0.types.getD ((p0.funcs.getD p1.toNat default).type_).toNat default).result]:List Int) 0 false) ((p0.funcs.getD p1.toNat default).body) x11 hx12) t_)) t_) ?_
  refine AW2.seq ?_
  obtain ⟨x13,hx14,H⟩:=bind_some H
  refine r_ [.c [1000,1001,1002,1003] [] [1000] (.d (.int .u8 x13.1)) (zaa x13.2)] [7] [] [.k 1000,.k 1001,.k 1002,.k 1003] ⟨[(7,.p 1000 0)],zaa x13.2⟩ (a_ (a_ (zak x11 ((p0.types.getD ((p0.funcs.getD p1.toNat default).type_).toNat default).result) x13 hx14) t_) t_) ?_
  refine AW2.seq ?_
  refine AW2.seq ?_
  refine AW2.reg [] rfl (YW.to ⟨[(7,.p 1000 0),(94,.d (.bool (x13.2.bad||(decide ((x13.2.stack.length:Int)>(0:Int))))))],zaa x13.2⟩ ?qh15 ?h15)
  case h15 => 
   rcases bT x13.2.bad with hc1 | hc1
   ·exact YW.fin [(87,true)] [] [7,94] [(94,.d (.bool (x13.2.bad||(decide ((x13.2.stack.length:Int)>(0:Int))))))] [.k 1000,.k 1001,.k 1002,.k 1003] _ (a_ (a_ hc1 (a_ hc1 (a_ hc1 (a_ hc1 (a_ hc1 (a_ hc1 (a_ hc1 t_))))))) (a_ (ovB (orT (b:=(decide ((x13.2.stack.length:Int)>(0:Int)))) hc1)) t_)) (by kernel_rfl) rfl
   ·exact YW.fin [(87,false)] [] [7,94] [(94,.d (.bool (x13.2.bad||(decide ((x13.2.stack.length:Int)>(0:Int))))))] [.k 1000,.k 1001,.k 1002,.k 1003] _ (a_ (a_ hc1 (a_ hc1 (a_ hc1 (a_ hc1 (a_ hc1 (a_ hc1 (a_ hc1 t_))))))) (a_ (ovB (Eq.trans (orF (b:=(decide ((x13.2.stack.length:Int)>(0:Int)))) hc1) (Eq.refl (decide ((x13.2.stack.length:Int)>(0:Int)))))) t_)) (by kernel_rfl) rfl
  refine AW2.cond (b:=(x13.2.bad||(decide ((x13.2.stack.length:Int)>(0:Int))))) rfl (fun hc => ?_) (fun hc => ?_)
  ·replace H:=zae H hc
   refine AW2.seq ?_
   refine r_ [] [4,5] [] [] ⟨[(4,.d .nilp),(5,.d (.err 45 (some 7)))],[]⟩ (a_ t_ t_) ?_
   refine AW2.ret ?_
   have H:=Option.some.inj H
   subst H
   exact retP_mk2 t_ (by kernel_rfl)
  ·replace H:=zaf H hc
   refine AW2.skip ?_
   refine AW2.seq ?_
   refine r_ [] [4,5] [] [.k 1000,.k 1001,.k 1002,.k 1003] ⟨[(4,.p 1000 0),(5,.d .nili)],zaa x13.2⟩ (a_ t_ t_) ?_
   refine AW2.ret ?_
   have H:=Option.some.inj H
   subst H
   exact retP_mk2 (a_ (Nat.le_refl x13.2.stack.length) (a_ (dfl (eI .u8) (zcp .u8) x13.2.stack) (a_ (Nat.le_refl x13.2.frames.length) (a_ (dfl eFrame zAp x13.2.frames) (a_ (Nat.le_refl x13.2.labels.length) (a_ (dfl (eI .u8) (zcp .u8) x13.2.labels) t_)))))) (by kernel_rfl)
def zeW (K:Nat) (p0:Mdl) (p1:Int):Option (Option Int):=((zdp K p0 p1).bind fun x1 => some x1.2)
theorem zpu (K:Nat) (p0:Mdl) (p1:Int) (r:Option Int) (H:zeW K p0 p1=some r):CF E 6 [.agg (eMdl p0),.int .i64 p1] (.err 45 r):=by
 refine zbi (A:=zko) zmz rfl fun fr => ?_
 unfold zeW at H
 refine AW2.seq ?_
 refine r_ [.k 2] [1,2] [] [.k 2] ⟨[(1,.d (.int .i64 p1)),(2,.p 2 0)],[(2,.st false (eD (eMdl p0)))]⟩ (a_ t_ t_) ?_
 refine AW2.seq ?_
 obtain ⟨x1,hx2,H⟩:=bind_some H
 refine r_ [.r (.tup [.pt (x1.1.map eChecker),.err 45 x1.2])] [6] [] [] ⟨[(6,.d (.err 45 x1.2))],[]⟩ (a_ (a_ (zmD K p0 p1 x1 hx2) t_) t_) ?_
 refine AW2.seq ?_
 refine r_ [] [4] [] [] ⟨[(4,.d (.err 45 x1.2))],[]⟩ (a_ t_ t_) ?_
 refine AW2.ret ?_
 have H:=Option.some.inj H
 subst H
 exact retP_mk2 t_ (by kernel_rfl)
def zaO (p0:Int) (p1:Bool):Option (Bool):=some ((p0==(127:Int))||((p0==(126:Int))||(p1&&(p0==(0:Int)))))
theorem zgJ (p0:Int) (p1:Bool) (r:Bool) (H:zaO p0 p1=some r):CF E 41 [.int .u8 p0,.bool p1] (.bool r):=by
 refine zbi (A:=zpD) zxy rfl fun fr => ?_
 unfold zaO at H
 refine AW2.seq ?_
 refine r_ [] [0,1] [] [] ⟨[(0,.d (.int .u8 p0)),(1,.d (.bool p1))],[]⟩ (a_ t_ t_) ?_
 refine AW2.seq ?_
 refine AW2.reg [] rfl (YW.to ⟨[(4,.d (.bool ((p0==(127:Int))||((p0==(126:Int))||(p1&&(p0==(0:Int)))))))],[]⟩ ?qh1 ?h1)
 case h1 => 
  rcases bT (p0==(127:Int)) with hc1 | hc1
  ·exact YW.fin [(7,true),(11,true)] [] [4] [(4,.d (.bool ((p0==(127:Int))||((p0==(126:Int))||(p1&&(p0==(0:Int)))))))] [] _ (a_ (a_ hc1 (a_ hc1 (a_ hc1 (a_ (Eq.refl true) (a_ (Eq.refl true) (a_ (Eq.refl true) (a_ (Eq.refl true) t_))))))) (a_ (ovB (orT (b:=((p0==(126:Int))||(p1&&(p0==(0:Int))))) hc1)) t_)) (by kernel_rfl) rfl
  ·rcases bT (p0==(126:Int)) with hc2 | hc2
   ·exact YW.fin [(7,false),(11,true)] [] [4] [(4,.d (.bool ((p0==(127:Int))||((p0==(126:Int))||(p1&&(p0==(0:Int)))))))] [] _ (a_ (a_ hc1 (a_ hc1 (a_ hc1 (a_ hc2 (a_ hc2 (a_ hc2 (a_ hc2 t_))))))) (a_ (ovB (Eq.trans (orF (b:=((p0==(126:Int))||(p1&&(p0==(0:Int))))) hc1) (orT (b:=(p1&&(p0==(0:Int)))) hc2))) t_)) (by kernel_rfl) rfl
   ·rcases bT p1 with hc3 | hc3
    ·exact YW.fin [(7,false),(11,false),(13,true)] [] [4] [(4,.d (.bool ((p0==(127:Int))||((p0==(126:Int))||(p1&&(p0==(0:Int)))))))] [] _ (a_ (a_ hc1 (a_ hc1 (a_ hc1 (a_ hc2 (a_ hc2 (a_ hc3 (a_ hc3 (a_ hc2 (a_ hc3 (a_ hc2 t_)))))))))) (a_ (ovB (Eq.trans (orF (b:=((p0==(126:Int))||(p1&&(p0==(0:Int))))) hc1) (Eq.trans (orF (b:=(p1&&(p0==(0:Int)))) hc2) (Eq.trans (andT (b:=(p0==(0:Int))) hc3) (Eq.refl (p0==(0:Int))))))) t_)) (by kernel_rfl) rfl
    ·exact YW.fin [(7,false),(11,false),(13,false)] [] [4] [(4,.d (.bool ((p0==(127:Int))||((p0==(126:Int))||(p1&&(p0==(0:Int)))))))] [] _ (a_ (a_ hc1 (a_ hc1 (a_ hc1 (a_ hc2 (a_ hc2 (a_ hc3 (a_ hc3 (a_ hc2 (a_ hc3 (a_ hc2 t_)))))))))) (a_ (ovB (Eq.trans (orF (b:=((p0==(126:Int))||(p1&&(p0==(0:Int))))) hc1) (Eq.trans (orF (b:=(p1&&(p0==(0:Int)))) hc2) (andF (b:=(p0==(0:Int))) hc3)))) t_)) (by kernel_rfl) rfl
 refine AW2.ret ?_
 have H:=Option.some.inj H
 subst H
 exact retP_mk2 t_ (by kernel_rfl)
def zbU:Nat→Mdl→Bool→Int→Option (Bool)
 | 0,_,_,_ => none
 | k+1,p0,a6,a7 => (if (decide (a7<(p0.globals.length:Int)))=true then (if a6=true then gd (0≤a7∧a7<(p0.globals.length:Int)) ((zaO ((p0.globals.getD a7.toNat default).kind) false).bind fun x9 => some x9) else some false).bind (fun j11 => zbU k p0 j11 (wI (a7+1))) else some a6)
def zbS:Nat→Mdl→Int→Bool→Int→Option (Bool)
 | 0,_,_,_,_ => none
 | k+1,p0,a20,a24,a25 => gd (0≤a20∧a20<(p0.funcs.length:Int)) (if (decide (a25<(((p0.funcs.getD a20.toNat default).locals).length:Int)))=true then (if a24=true then gd (0≤a20∧a20<(p0.funcs.length:Int)) (gd (0≤a25∧a25<(((p0.funcs.getD a20.toNat default).locals).length:Int)) ((zaO (((p0.funcs.getD a20.toNat default).locals).getD a25.toNat default) false).bind fun x29 => some x29)) else some false).bind (fun j31 => zbS k p0 a20 j31 (wI (a25+1))) else some a24)
def zbT:Nat→Nat→Mdl→Bool→Int→Option (Bool)
 | 0,_,_,_,_ => none
 | k+1,K,p0,a19,a20 => (if (decide (a20<(p0.funcs.length:Int)))=true then (zbS K p0 a20 a19 0).bind (fun j21 => zbT k K p0 j21 (wI (a20+1))) else some a19)
def zbG:Nat→Mdl→Int→Bool→Int→Option (Bool)
 | 0,_,_,_,_ => none
 | k+1,p0,a42,a50,a51 => gd (0≤a42∧a42<(p0.types.length:Int)) (if (decide (a51<(((p0.types.getD a42.toNat default).params).length:Int)))=true then (if a50=true then gd (0≤a42∧a42<(p0.types.length:Int)) (gd (0≤a51∧a51<(((p0.types.getD a42.toNat default).params).length:Int)) ((zaO (((p0.types.getD a42.toNat default).params).getD a51.toNat default) false).bind fun x55 => some x55)) else some false).bind (fun j57 => zbG k p0 a42 j57 (wI (a51+1))) else some a50)
def zbR:Nat→Nat→Mdl→Bool→Int→Option (Bool)
 | 0,_,_,_,_ => none
 | k+1,K,p0,a41,a42 => (if (decide (a42<(p0.types.length:Int)))=true then ((if a41=true then gd (0≤a42∧a42<(p0.types.length:Int)) ((zaO ((p0.types.getD a42.toNat default).result) true).bind fun x45 => some x45) else some false).bind (fun j47 => zbG K p0 a42 j47 0)).bind (fun j43 => zbR k K p0 j43 (wI (a42+1))) else some a41)
def zeC (K:Nat) (p0:Mdl):Option (Bool):=(zbR K K p0 true 0).bind (fun j1 => (zbT K K p0 j1 0).bind (fun j2 => (zbU K p0 j2 0).bind (fun j3 => some j3)))
theorem zxQ (K:Nat) (p0:Mdl) (r:Bool) (H:zeC K p0=some r):CF E 25 [.agg (eMdl p0)] (.bool r):=by
 refine zbi (A:=zmV) zwc rfl fun fr => ?_
 unfold zeC at H
 refine AW2.seq ?_
 refine r_ [.k 1] [1] [] [.k 1] ⟨[(1,.p 1 0)],[(1,.st false (eD (eMdl p0)))]⟩ (a_ t_ t_) ?_
 refine AW2.seq ?_
 refine r_ [] [1,3] [] [.k 1] ⟨[(1,.p 1 0),(3,.d (.bool true))],[(1,.st false (eD (eMdl p0)))]⟩ (a_ t_ t_) ?_
 obtain ⟨j1,H67,H⟩:=bind_some H
 refine AW2.mid ⟨[(1,.p 1 0),(3,.d (.bool j1))],[(1,.st false (eD (eMdl p0)))]⟩ ?_ ?_
 ·obtain ⟨j2,H38,H⟩:=bind_some H
  refine AW2.mid ⟨[(1,.p 1 0),(3,.d (.bool j2))],[(1,.st false (eD (eMdl p0)))]⟩ ?_ ?_
  ·obtain ⟨j3,H16,H⟩:=bind_some H
   refine AW2.mid ⟨[(3,.d (.bool j3))],[]⟩ ?_ ?_
   ·refine AW2.seq ?_
    refine r_ [] [2] [] [] ⟨[(2,.d (.bool j3))],[]⟩ (a_ t_ t_) ?_
    refine AW2.ret ?_
    have H:=Option.some.inj H
    subst H
    exact retP_mk2 t_ (by kernel_rfl)
   ·have H:=H16
    refine AW2.seq ?_
    refine r_ [] [1,3,8] [] [.k 1] ⟨[(1,.p 1 0),(3,.d (.bool j2)),(8,.d (.int .i64 0))],[(1,.st false (eD (eMdl p0)))]⟩ (a_ t_ t_) ?_
    refine AW2.block ?_
    refine AW2.lp (σ:=Bool×Int) (fun v => ⟨[(1,.p 1 0),(3,.d (.bool v.1)),(8,.d (.int .i64 v.2))],[(1,.st false (eD (eMdl p0)))]⟩) (fun k v => zbU k p0 v.1 v.2=some j3) ?_ K (j2,0) H
    rintro k ⟨a6,a7⟩ H
    dsimp only at H
    cases k with
    | zero => cases H
    | succ k => 
    unfold zbU at H
    refine AW2.seq ?_
    refine AW2.seq ?_
    refine r_ [] [1,3,8,85] [] [.k 1] ⟨[(1,.p 1 0),(3,.d (.bool a6)),(8,.d (.int .i64 a7)),(85,.d (.bool (decide (a7<(p0.globals.length:Int)))))],[(1,.st false (eD (eMdl p0)))]⟩ (a_ t_ t_) ?_
    refine AW2.cond (b:=(decide (a7<(p0.globals.length:Int)))) rfl (fun hc => ?_) (fun hc => ?_)
    ·replace H:=zae H hc
     refine AW2.skip ?_
     refine AW2.seq ?_
     refine AW2.block ?_
     obtain ⟨j11,H13,H⟩:=bind_some H
     refine AW2.reg [] rfl (YW.to ⟨[(1,.p 1 0),(3,.d (.bool j11)),(8,.d (.int .i64 a7))],[(1,.st false (eD (eMdl p0)))]⟩ ?qh14 ?h14)
     case h14 => 
      have H:=H13
      rcases bT a6 with hc1 | hc1
      ·replace H:=zae H hc1
       obtain ⟨h8,H⟩:=zad H
       obtain ⟨x9,hx10,H⟩:=bind_some H
       have H:=Option.some.inj H
       subst H
       exact YW.fin [(89,true)] [.r (.bool x9)] [1,3,8] [] [.k 1] _ (a_ (a_ hc1 (a_ hc1 (a_ hc1 (a_ hc1 (a_ h8 (a_ hc1 (a_ hc1 (a_ hc1 (a_ (zgJ ((p0.globals.getD a7.toNat default).kind) false x9 hx10) (a_ hc1 t_)))))))))) t_) (by kernel_rfl) rfl
      ·replace H:=zaf H hc1
       have H:=Option.some.inj H
       subst H
       exact YW.fin [(89,false)] [] [1,3,8] [] [.k 1] _ (a_ (a_ hc1 (a_ hc1 (a_ hc1 (a_ hc1 (a_ hc1 (a_ hc1 (a_ hc1 (a_ hc1 t_)))))))) t_) (by kernel_rfl) rfl
     refine r_ [] [1,3,8] [] [.k 1] ⟨[(1,.p 1 0),(3,.d (.bool j11)),(8,.d (.int .i64 (wI (a7+1))))],[(1,.st false (eD (eMdl p0)))]⟩ (a_ t_ t_) ?_
     exact ⟨k,(j11,(wI (a7+1))),Nat.lt_succ_self k,H,zam [1,3,8] [] [.k 1] t_ (by kernel_rfl)⟩
    ·replace H:=zaf H hc
     refine AW2.exit ?_
     have H:=Option.some.inj H
     subst H
     exact zam [3] [] [] t_ (by kernel_rfl)
  ·have H:=H38
   refine AW2.seq ?_
   refine r_ [] [1,3,6] [] [.k 1] ⟨[(1,.p 1 0),(3,.d (.bool j1)),(6,.d (.int .i64 0))],[(1,.st false (eD (eMdl p0)))]⟩ (a_ t_ t_) ?_
   refine AW2.block ?_
   refine AW2.lp (σ:=Bool×Int) (fun v => ⟨[(1,.p 1 0),(3,.d (.bool v.1)),(6,.d (.int .i64 v.2))],[(1,.st false (eD (eMdl p0)))]⟩) (fun k v => zbT k K p0 v.1 v.2=some j2) ?_ K (j1,0) H
   rintro k ⟨a19,a20⟩ H
   dsimp only at H
   cases k with
   | zero => cases H
   | succ k => 
   unfold zbT at H
   refine AW2.seq ?_
   refine AW2.seq ?_
   refine r_ [] [1,3,6,54] [] [.k 1] ⟨[(1,.p 1 0),(3,.d (.bool a19)),(6,.d (.int .i64 a20)),(54,.d (.bool (decide (a20<(p0.funcs.length:Int)))))],[(1,.st false (eD (eMdl p0)))]⟩ (a_ t_ t_) ?_
   refine AW2.cond (b:=(decide (a20<(p0.funcs.length:Int)))) rfl (fun hc => ?_) (fun hc => ?_)
   ·replace H:=zae H hc
    refine AW2.skip ?_
    obtain ⟨j21,H36,H⟩:=bind_some H
    refine AW2.mid ⟨[(1,.p 1 0),(3,.d (.bool j21)),(6,.d (.int .i64 a20))],[(1,.st false (eD (eMdl p0)))]⟩ ?_ ?_
    ·refine r_ [] [1,3,6] [] [.k 1] ⟨[(1,.p 1 0),(3,.d (.bool j21)),(6,.d (.int .i64 (wI (a20+1))))],[(1,.st false (eD (eMdl p0)))]⟩ (a_ t_ t_) ?_
     exact ⟨k,(j21,(wI (a20+1))),Nat.lt_succ_self k,H,zam [1,3,6] [] [.k 1] t_ (by kernel_rfl)⟩
    ·have H:=H36
     refine AW2.block ?_
     refine AW2.seq ?_
     refine r_ [] [1,3,6,7] [] [.k 1] ⟨[(1,.p 1 0),(3,.d (.bool a19)),(6,.d (.int .i64 a20)),(7,.d (.int .i64 0))],[(1,.st false (eD (eMdl p0)))]⟩ (a_ t_ t_) ?_
     refine AW2.block ?_
     refine AW2.lp (σ:=Bool×Int) (fun v => ⟨[(1,.p 1 0),(3,.d (.bool v.1)),(6,.d (.int .i64 a20)),(7,.d (.int .i64 v.2))],[(1,.st false (eD (eMdl p0)))]⟩) (fun k v => zbS k p0 a20 v.1 v.2=some j21) ?_ K (a19,0) H
     rintro k ⟨a24,a25⟩ H
     dsimp only at H
     cases k with
     | zero => cases H
     | succ k => 
     unfold zbS at H
     refine AW2.seq ?_
     refine AW2.seq ?_
     obtain ⟨h26,H⟩:=zad H
     refine r_ [] [1,3,6,7,65] [] [.k 1] ⟨[(1,.p 1 0),(3,.d (.bool a24)),(6,.d (.int .i64 a20)),(7,.d (.int .i64 a25)),(65,.d (.bool (decide (a25<(((p0.funcs.getD a20.toNat default).locals).length:Int)))))],[(1,.st false (eD (eMdl p0)))]⟩ (a_ (a_ h26 t_) t_) ?_
     refine AW2.cond (b:=(decide (a25<(((p0.funcs.getD a20.toNat default).locals).length:Int)))) rfl (fun hc => ?_) (fun hc => ?_)
     ·replace H:=zae H hc
      refine AW2.skip ?_
      refine AW2.seq ?_
      refine AW2.block ?_
      obtain ⟨j31,H33,H⟩:=bind_some H
      refine AW2.reg [] rfl (YW.to ⟨[(1,.p 1 0),(3,.d (.bool j31)),(6,.d (.int .i64 a20)),(7,.d (.int .i64 a25))],[(1,.st false (eD (eMdl p0)))]⟩ ?qh34 ?h34)
      case h34 => 
       have H:=H33
       rcases bT a24 with hc1 | hc1
       ·replace H:=zae H hc1
        obtain ⟨h27,H⟩:=zad H
        obtain ⟨h28,H⟩:=zad H
        obtain ⟨x29,hx30,H⟩:=bind_some H
        have H:=Option.some.inj H
        subst H
        exact YW.fin [(69,true)] [.r (.bool x29)] [1,3,6,7] [] [.k 1] _ (a_ (a_ hc1 (a_ hc1 (a_ hc1 (a_ hc1 (a_ h27 (a_ hc1 (a_ hc1 (a_ hc1 (a_ hc1 (a_ h28 (a_ hc1 (a_ hc1 (a_ (zgJ (((p0.funcs.getD a20.toNat default).locals).getD a25.toNat default) false x29 hx30) (a_ hc1 t_)))))))))))))) t_) (by kernel_rfl) rfl
       ·replace H:=zaf H hc1
        have H:=Option.some.inj H
        subst H
        exact YW.fin [(69,false)] [] [1,3,6,7] [] [.k 1] _ (a_ (a_ hc1 (a_ hc1 (a_ hc1 (a_ hc1 (a_ hc1 (a_ hc1 (a_ hc1 (a_ hc1 (a_ hc1 (a_ hc1 (a_ hc1 t_))))))))))) t_) (by kernel_rfl) rfl
      refine r_ [] [1,3,6,7] [] [.k 1] ⟨[(1,.p 1 0),(3,.d (.bool j31)),(6,.d (.int .i64 a20)),(7,.d (.int .i64 (wI (a25+1))))],[(1,.st false (eD (eMdl p0)))]⟩ (a_ t_ t_) ?_
      exact ⟨k,(j31,(wI (a25+1))),Nat.lt_succ_self k,H,zam [1,3,6,7] [] [.k 1] t_ (by kernel_rfl)⟩
     ·replace H:=zaf H hc
      refine AW2.exit ?_
      have H:=Option.some.inj H
      subst H
      exact zam [1,3,6] [] [.k 1] t_ (by kernel_rfl)
   ·replace H:=zaf H hc
    refine AW2.exit ?_
    have H:=Option.some.inj H
    subst H
    exact zam [1,3] [] [.k 1] t_ (by kernel_rfl)
 ·have H:=H67
  refine AW2.seq ?_
  refine r_ [] [1,3,4] [] [.k 1] ⟨[(1,.p 1 0),(3,.d (.bool true)),(4,.d (.int .i64 0))],[(1,.st false (eD (eMdl p0)))]⟩ (a_ t_ t_) ?_
  refine AW2.block ?_
  refine AW2.lp (σ:=Bool×Int) (fun v => ⟨[(1,.p 1 0),(3,.d (.bool v.1)),(4,.d (.int .i64 v.2))],[(1,.st false (eD (eMdl p0)))]⟩) (fun k v => zbR k K p0 v.1 v.2=some j1) ?_ K (true,0) H
  rintro k ⟨a41,a42⟩ H
  dsimp only at H
  cases k with
  | zero => cases H
  | succ k => 
  unfold zbR at H
  refine AW2.seq ?_
  refine AW2.seq ?_
  refine r_ [] [1,3,4,13] [] [.k 1] ⟨[(1,.p 1 0),(3,.d (.bool a41)),(4,.d (.int .i64 a42)),(13,.d (.bool (decide (a42<(p0.types.length:Int)))))],[(1,.st false (eD (eMdl p0)))]⟩ (a_ t_ t_) ?_
  refine AW2.cond (b:=(decide (a42<(p0.types.length:Int)))) rfl (fun hc => ?_) (fun hc => ?_)
  ·replace H:=zae H hc
   refine AW2.skip ?_
   obtain ⟨j43,H65,H⟩:=bind_some H
   refine AW2.mid ⟨[(1,.p 1 0),(3,.d (.bool j43)),(4,.d (.int .i64 a42))],[(1,.st false (eD (eMdl p0)))]⟩ ?_ ?_
   ·refine r_ [] [1,3,4] [] [.k 1] ⟨[(1,.p 1 0),(3,.d (.bool j43)),(4,.d (.int .i64 (wI (a42+1))))],[(1,.st false (eD (eMdl p0)))]⟩ (a_ t_ t_) ?_
    exact ⟨k,(j43,(wI (a42+1))),Nat.lt_succ_self k,H,zam [1,3,4] [] [.k 1] t_ (by kernel_rfl)⟩
   ·have H:=H65
    refine AW2.block ?_
    refine AW2.seq ?_
    obtain ⟨j47,H62,H⟩:=bind_some H
    refine AW2.reg [] rfl (YW.to ⟨[(1,.p 1 0),(3,.d (.bool j47)),(4,.d (.int .i64 a42))],[(1,.st false (eD (eMdl p0)))]⟩ ?qh63 ?h63)
    case h63 => 
     have H:=H62
     rcases bT a41 with hc1 | hc1
     ·replace H:=zae H hc1
      obtain ⟨h44,H⟩:=zad H
      obtain ⟨x45,hx46,H⟩:=bind_some H
      have H:=Option.some.inj H
      subst H
      exact YW.fin [(17,true)] [.r (.bool x45)] [1,3,4] [] [.k 1] _ (a_ (a_ hc1 (a_ hc1 (a_ hc1 (a_ hc1 (a_ h44 (a_ hc1 (a_ hc1 (a_ hc1 (a_ (zgJ ((p0.types.getD a42.toNat default).result) true x45 hx46) (a_ hc1 t_)))))))))) t_) (by kernel_rfl) rfl
     ·replace H:=zaf H hc1
      have H:=Option.some.inj H
      subst H
      exact YW.fin [(17,false)] [] [1,3,4] [] [.k 1] _ (a_ (a_ hc1 (a_ hc1 (a_ hc1 (a_ hc1 (a_ hc1 (a_ hc1 (a_ hc1 (a_ hc1 t_)))))))) t_) (by kernel_rfl) rfl
    refine AW2.seq ?_
    refine r_ [] [1,3,4,5] [] [.k 1] ⟨[(1,.p 1 0),(3,.d (.bool j47)),(4,.d (.int .i64 a42)),(5,.d (.int .i64 0))],[(1,.st false (eD (eMdl p0)))]⟩ (a_ t_ t_) ?_
    refine AW2.block ?_
    refine AW2.lp (σ:=Bool×Int) (fun v => ⟨[(1,.p 1 0),(3,.d (.bool v.1)),(4,.d (.int .i64 a42)),(5,.d (.int .i64 v.2))],[(1,.st false (eD (eMdl p0)))]⟩) (fun k v => zbG k p0 a42 v.1 v.2=some j43) ?_ K (j47,0) H
    rintro k ⟨a50,a51⟩ H
    dsimp only at H
    cases k with
    | zero => cases H
    | succ k => 
    unfold zbG at H
    refine AW2.seq ?_
    refine AW2.seq ?_
    obtain ⟨h52,H⟩:=zad H
    refine r_ [] [1,3,4,5,34] [] [.k 1] ⟨[(1,.p 1 0),(3,.d (.bool a50)),(4,.d (.int .i64 a42)),(5,.d (.int .i64 a51)),(34,.d (.bool (decide (a51<(((p0.types.getD a42.toNat default).params).length:Int)))))],[(1,.st false (eD (eMdl p0)))]⟩ (a_ (a_ h52 t_) t_) ?_
    refine AW2.cond (b:=(decide (a51<(((p0.types.getD a42.toNat default).params).length:Int)))) rfl (fun hc => ?_) (fun hc => ?_)
    ·replace H:=zae H hc
     refine AW2.skip ?_
     refine AW2.seq ?_
     refine AW2.block ?_
     obtain ⟨j57,H59,H⟩:=bind_some H
     refine AW2.reg [] rfl (YW.to ⟨[(1,.p 1 0),(3,.d (.bool j57)),(4,.d (.int .i64 a42)),(5,.d (.int .i64 a51))],[(1,.st false (eD (eMdl p0)))]⟩ ?qh60 ?h60)
     case h60 => 
      have H:=H59
      rcases bT a50 with hc1 | hc1
      ·replace H:=zae H hc1
       obtain ⟨h53,H⟩:=zad H
       obtain ⟨h54,H⟩:=zad H
       obtain ⟨x55,hx56,H⟩:=bind_some H
       have H:=Option.some.inj H
       subst H
       exact YW.fin [(38,true)] [.r (.bool x55)] [1,3,4,5] [] [.k 1] _ (a_ (a_ hc1 (a_ hc1 (a_ hc1 (a_ hc1 (a_ h53 (a_ hc1 (a_ hc1 (a_ hc1 (a_ hc1 (a_ h54 (a_ hc1 (a_ hc1 (a_ (zgJ (((p0.types.getD a42.toNat default).params).getD a51.toNat default) false x55 hx56) (a_ hc1 t_)))))))))))))) t_) (by kernel_rfl) rfl
      ·replace H:=zaf H hc1
       have H:=Option.some.inj H
       subst H
       exact YW.fin [(38,false)] [] [1,3,4,5] [] [.k 1] _ (a_ (a_ hc1 (a_ hc1 (a_ hc1 (a_ hc1 (a_ hc1 (a_ hc1 (a_ hc1 (a_ hc1 (a_ hc1 (a_ hc1 (a_ hc1 t_))))))))))) t_) (by kernel_rfl) rfl
     refine r_ [] [1,3,4,5] [] [.k 1] ⟨[(1,.p 1 0),(3,.d (.bool j57)),(4,.d (.int .i64 a42)),(5,.d (.int .i64 (wI (a51+1))))],[(1,.st false (eD (eMdl p0)))]⟩ (a_ t_ t_) ?_
     exact ⟨k,(j57,(wI (a51+1))),Nat.lt_succ_self k,H,zam [1,3,4,5] [] [.k 1] t_ (by kernel_rfl)⟩
    ·replace H:=zaf H hc
     refine AW2.exit ?_
     have H:=Option.some.inj H
     subst H
     exact zam [1,3,4] [] [.k 1] t_ (by kernel_rfl)
  ·replace H:=zaf H hc
   refine AW2.exit ?_
   have H:=Option.some.inj H
   subst H
   exact zam [1,3] [] [.k 1] t_ (by kernel_rfl)
def zag (p0:St8) (p1:Int):Option (St8×Int):=(if (p1==(0:Int))=true then some (p0,0) else (if ((p0.l.length:Int)==(0:Int))=true then (if p0.ok=true then some p0.away else some false).bind (fun j1 => some ((St8.mk p0.l p0.under p0.away p0.dead p0.most j1),p1)) else gd (0≤(wI ((p0.l.length:Int) - 1))∧(wI ((p0.l.length:Int) - 1))<(p0.l.length:Int)) (gd (0≤(0:Int)∧(0:Int)≤(wI ((p0.l.length:Int) - 1))∧(wI ((p0.l.length:Int) - 1))≤(p0.l.length:Int)) (if ((p0.l.getD (wI ((p0.l.length:Int) - 1)).toNat default)==(255:Int))=true then some ((St8.mk (List.take ((wI ((p0.l.length:Int) - 1)).toNat) p0.l) p0.under p0.away p0.dead p0.most p0.ok),p1) else (if ((p1!=(255:Int))&&((p0.l.getD (wI ((p0.l.length:Int) - 1)).toNat default)!=p1))=true then some false else some p0.ok).bind (fun j7 => some ((St8.mk (List.take ((wI ((p0.l.length:Int) - 1)).toNat) p0.l) p0.under p0.away p0.dead p0.most j7),(p0.l.getD (wI ((p0.l.length:Int) - 1)).toNat default)))))))
theorem zaS (p0:St8) (p1:Int) (r:St8×Int) (H:zag p0 p1=some r):CF E 27 [.agg (eSt8 p0),.int .u8 p1] (.tup [.agg (eSt8 r.1),.int .u8 r.2]):=by
 refine zbi (A:=zpB) zxw rfl fun fr => ?_
 unfold zag at H
 refine AW2.seq ?_
 refine r_ [.k 2,.k 4] [1,2,4] [] [.k 2,.k 4] ⟨[(1,.d (.int .u8 p1)),(2,.p 2 0),(4,.p 4 0)],[(2,.st false (eD (eSt8 p0))),(4,.st false [.d .nils,.d (.int .i64 0),.d (.bool false),.d (.bool false),.d (.int .i64 0),.d (.bool false)])]⟩ (a_ t_ t_) ?_
 refine AW2.seq ?_
 refine AW2.seq ?_
 refine r_ [] [1,2,4,8] [] [.k 2,.k 4] ⟨[(1,.d (.int .u8 p1)),(2,.p 2 0),(4,.p 4 0),(8,.d (.bool (p1==(0:Int))))],[(2,.st false (eD (eSt8 p0))),(4,.st false [.d .nils,.d (.int .i64 0),.d (.bool false),.d (.bool false),.d (.int .i64 0),.d (.bool false)])]⟩ (a_ t_ t_) ?_
 refine AW2.cond (b:=(p1==(0:Int))) rfl (fun hc => ?_) (fun hc => ?_)
 ·replace H:=zae H hc
  refine AW2.seq ?_
  refine r_ [] [4,5] [] [.k 4] ⟨[(4,.p 4 0),(5,.d (.int .u8 0))],[(4,.st false (eD (eSt8 p0)))]⟩ (a_ t_ t_) ?_
  refine AW2.ret ?_
  have H:=Option.some.inj H
  subst H
  exact retP_mk2 t_ (by kernel_rfl)
 ·replace H:=zaf H hc
  refine AW2.skip ?_
  refine AW2.seq ?_
  refine AW2.seq ?_
  refine r_ [] [1,2,4,13] [] [.k 2,.k 4] ⟨[(1,.d (.int .u8 p1)),(2,.p 2 0),(4,.p 4 0),(13,.d (.bool ((p0.l.length:Int)==(0:Int))))],[(2,.st false (eD (eSt8 p0))),(4,.st false [.d .nils,.d (.int .i64 0),.d (.bool false),.d (.bool false),.d (.int .i64 0),.d (.bool false)])]⟩ (a_ t_ t_) ?_
  refine AW2.cond (b:=((p0.l.length:Int)==(0:Int))) rfl (fun hc => ?_) (fun hc => ?_)
  ·replace H:=zae H hc
   refine AW2.seq ?_
   obtain ⟨j1,H3,H⟩:=bind_some H
   refine AW2.reg [] rfl (YW.to ⟨[(1,.d (.int .u8 p1)),(2,.p 2 0),(4,.p 4 0)],[(2,.st false [.d (sV (eI .u8) p0.l),.d (.int .i64 p0.under),.d (.bool p0.away),.d (.bool p0.dead),.d (.int .i64 p0.most),.d (.bool j1)]),(4,.st false [.d .nils,.d (.int .i64 0),.d (.bool false),.d (.bool false),.d (.int .i64 0),.d (.bool false)])]⟩ ?qh4 ?h4)
   case h4 => 
    have H:=H3
    rcases bT p0.ok with hc1 | hc1
    ·replace H:=zae H hc1
     have H:=Option.some.inj H
     subst H
     exact YW.fin [(16,true)] [] [1,2,4] [] [.k 2,.k 4] _ (a_ (a_ hc1 (a_ hc1 (a_ hc1 t_))) t_) (by kernel_rfl) rfl
    ·replace H:=zaf H hc1
     have H:=Option.some.inj H
     subst H
     exact YW.fin [(16,false)] [] [1,2,4] [] [.k 2,.k 4] _ (a_ (a_ hc1 (a_ hc1 (a_ hc1 t_))) t_) (by kernel_rfl) rfl
   refine AW2.seq ?_
   refine r_ [] [4,5] [] [.k 4] ⟨[(4,.p 4 0),(5,.d (.int .u8 p1))],[(4,.st false [.d (sV (eI .u8) p0.l),.d (.int .i64 p0.under),.d (.bool p0.away),.d (.bool p0.dead),.d (.int .i64 p0.most),.d (.bool j1)])]⟩ (a_ t_ t_) ?_
   refine AW2.ret ?_
   have H:=Option.some.inj H
   subst H
   exact retP_mk2 t_ (by kernel_rfl)
  ·replace H:=zaf H hc
   refine AW2.skip ?_
   refine AW2.seq ?_
   obtain ⟨h5,H⟩:=zad H
   refine r_ [] [1,2,4,6] [] [.k 2,.k 4] ⟨[(1,.d (.int .u8 p1)),(2,.p 2 0),(4,.p 4 0),(6,.d (.int .u8 (p0.l.getD (wI ((p0.l.length:Int) - 1)).toNat default)))],[(2,.st false (eD (eSt8 p0))),(4,.st false [.d .nils,.d (.int .i64 0),.d (.bool false),.d (.bool false),.d (.int .i64 0),.d (.bool false)])]⟩ (a_ (a_ h5 t_) t_) ?_
   refine AW2.seq ?_
   obtain ⟨h6,H⟩:=zad H
   refine r_ [.s true (List.take ((wI ((p0.l.length:Int) - 1)).toNat) p0.l).length (fl (eI .u8) (List.take ((wI ((p0.l.length:Int) - 1)).toNat) p0.l))] [1,2,4,6] [] [.k 2,.k 4] ⟨[(1,.d (.int .u8 p1)),(2,.p 2 0),(4,.p 4 0),(6,.d (.int .u8 (p0.l.getD (wI ((p0.l.length:Int) - 1)).toNat default)))],[(2,.st false [.d (sV (eI .u8) (List.take ((wI ((p0.l.length:Int) - 1)).toNat) p0.l)),.d (.int .i64 p0.under),.d (.bool p0.away),.d (.bool p0.dead),.d (.int .i64 p0.most),.d (.bool p0.ok)]),(4,.st false [.d .nils,.d (.int .i64 0),.d (.bool false),.d (.bool false),.d (.int .i64 0),.d (.bool false)])]⟩ (a_ (a_ h6 (a_ (takeD1  h6) (a_ (takeD2 (eI .u8) (zAn .u8) h6) (a_ (takeD3 (eI .u8) h6) t_)))) t_) ?_
   refine AW2.seq ?_
   refine AW2.seq ?_
   refine r_ [] [1,2,4,6,40] [] [.k 2,.k 4] ⟨[(1,.d (.int .u8 p1)),(2,.p 2 0),(4,.p 4 0),(6,.d (.int .u8 (p0.l.getD (wI ((p0.l.length:Int) - 1)).toNat default))),(40,.d (.bool ((p0.l.getD (wI ((p0.l.length:Int) - 1)).toNat default)==(255:Int))))],[(2,.st false [.d (sV (eI .u8) (List.take ((wI ((p0.l.length:Int) - 1)).toNat) p0.l)),.d (.int .i64 p0.under),.d (.bool p0.away),.d (.bool p0.dead),.d (.int .i64 p0.most),.d (.bool p0.ok)]),(4,.st false [.d .nils,.d (.int .i64 0),.d (.bool false),.d (.bool false),.d (.int .i64 0),.d (.bool false)])]⟩ (a_ t_ t_) ?_
   refine AW2.cond (b:=((p0.l.getD (wI ((p0.l.length:Int) - 1)).toNat default)==(255:Int))) rfl (fun hc => ?_) (fun hc => ?_)
   ·replace H:=zae H hc
    refine AW2.seq ?_
    refine r_ [] [4,5] [] [.k 4] ⟨[(4,.p 4 0),(5,.d (.int .u8 p1))],[(4,.st false [.d (sV (eI .u8) (List.take ((wI ((p0.l.length:Int) - 1)).toNat) p0.l)),.d (.int .i64 p0.under),.d (.bool p0.away),.d (.bool p0.dead),.d (.int .i64 p0.most),.d (.bool p0.ok)])]⟩ (a_ t_ t_) ?_
    refine AW2.ret ?_
    have H:=Option.some.inj H
    subst H
    exact retP_mk2 t_ (by kernel_rfl)
   ·replace H:=zaf H hc
    refine AW2.skip ?_
    obtain ⟨j7,H10,H⟩:=bind_some H
    refine AW2.mid ⟨[(2,.p 2 0),(4,.p 4 0),(6,.d (.int .u8 (p0.l.getD (wI ((p0.l.length:Int) - 1)).toNat default)))],[(2,.st false [.d (sV (eI .u8) (List.take ((wI ((p0.l.length:Int) - 1)).toNat) p0.l)),.d (.int .i64 p0.under),.d (.bool p0.away),.d (.bool p0.dead),.d (.int .i64 p0.most),.d (.bool j7)]),(4,.st false [.d .nils,.d (.int .i64 0),.d (.bool false),.d (.bool false),.d (.int .i64 0),.d (.bool false)])]⟩ ?_ ?_
    ·refine AW2.seq ?_
     refine r_ [] [4,5] [] [.k 4] ⟨[(4,.p 4 0),(5,.d (.int .u8 (p0.l.getD (wI ((p0.l.length:Int) - 1)).toNat default)))],[(4,.st false [.d (sV (eI .u8) (List.take ((wI ((p0.l.length:Int) - 1)).toNat) p0.l)),.d (.int .i64 p0.under),.d (.bool p0.away),.d (.bool p0.dead),.d (.int .i64 p0.most),.d (.bool j7)])]⟩ (a_ t_ t_) ?_
     refine AW2.ret ?_
     have H:=Option.some.inj H
     subst H
     exact retP_mk2 t_ (by kernel_rfl)
    ·have H:=H10
     refine AW2.seq ?_
     refine AW2.reg [] rfl (YW.to ⟨[(2,.p 2 0),(4,.p 4 0),(6,.d (.int .u8 (p0.l.getD (wI ((p0.l.length:Int) - 1)).toNat default))),(49,.d (.bool ((p1!=(255:Int))&&((p0.l.getD (wI ((p0.l.length:Int) - 1)).toNat default)!=p1))))],[(2,.st false [.d (sV (eI .u8) (List.take ((wI ((p0.l.length:Int) - 1)).toNat) p0.l)),.d (.int .i64 p0.under),.d (.bool p0.away),.d (.bool p0.dead),.d (.int .i64 p0.most),.d (.bool p0.ok)]),(4,.st false [.d .nils,.d (.int .i64 0),.d (.bool false),.d (.bool false),.d (.int .i64 0),.d (.bool false)])]⟩ ?qh8 ?h8)
     case h8 => 
      rcases bT (p1!=(255:Int)) with hc1 | hc1
      ·exact YW.fin [(45,true)] [] [2,4,6,49] [(49,.d (.bool ((p1!=(255:Int))&&((p0.l.getD (wI ((p0.l.length:Int) - 1)).toNat default)!=p1))))] [.k 2,.k 4] _ (a_ (a_ hc1 (a_ hc1 (a_ hc1 (a_ hc1 t_)))) (a_ (ovB (Eq.trans (andT (b:=((p0.l.getD (wI ((p0.l.length:Int) - 1)).toNat default)!=p1)) hc1) (Eq.refl ((p0.l.getD (wI ((p0.l.length:Int) - 1)).toNat default)!=p1)))) t_)) (by kernel_rfl) rfl
      ·exact YW.fin [(45,false)] [] [2,4,6,49] [(49,.d (.bool ((p1!=(255:Int))&&((p0.l.getD (wI ((p0.l.length:Int) - 1)).toNat default)!=p1))))] [.k 2,.k 4] _ (a_ (a_ hc1 (a_ hc1 (a_ hc1 (a_ hc1 t_)))) (a_ (ovB (andF (b:=((p0.l.getD (wI ((p0.l.length:Int) - 1)).toNat default)!=p1)) hc1)) t_)) (by kernel_rfl) rfl
     refine AW2.cond (b:=((p1!=(255:Int))&&((p0.l.getD (wI ((p0.l.length:Int) - 1)).toNat default)!=p1))) rfl (fun hc => ?_) (fun hc => ?_)
     ·replace H:=zae H hc
      refine r_ [] [2,4,6] [] [.k 2,.k 4] ⟨[(2,.p 2 0),(4,.p 4 0),(6,.d (.int .u8 (p0.l.getD (wI ((p0.l.length:Int) - 1)).toNat default)))],[(2,.st false [.d (sV (eI .u8) (List.take ((wI ((p0.l.length:Int) - 1)).toNat) p0.l)),.d (.int .i64 p0.under),.d (.bool p0.away),.d (.bool p0.dead),.d (.int .i64 p0.most),.d (.bool false)]),(4,.st false [.d .nils,.d (.int .i64 0),.d (.bool false),.d (.bool false),.d (.int .i64 0),.d (.bool false)])]⟩ (a_ t_ t_) ?_
      have H:=Option.some.inj H
      subst H
      exact zam [2,4,6] [] [.k 2,.k 4] t_ (by kernel_rfl)
     ·replace H:=zaf H hc
      refine AW2.skip ?_
      have H:=Option.some.inj H
      subst H
      exact zam [2,4,6] [] [.k 2,.k 4] t_ (by kernel_rfl)
def zby (p0:St8):Option (St8):=some (St8.mk ([]:List Int) p0.under true p0.dead p0.most p0.ok)
theorem zgK (p0:St8) (r:St8) (H:zby p0=some r):CF E 42 [.agg (eSt8 p0)] (.agg (eSt8 r)):=by
 refine zbi (A:=zpF) zxA rfl fun fr => ?_
 unfold zby at H
 refine AW2.seq ?_
 refine r_ [.k 1,.k 2] [1,2] [] [.k 1,.k 2] ⟨[(1,.p 1 0),(2,.p 2 0)],[(1,.st false (eD (eSt8 p0))),(2,.st false [.d .nils,.d (.int .i64 0),.d (.bool false),.d (.bool false),.d (.int .i64 0),.d (.bool false)])]⟩ (a_ t_ t_) ?_
 refine AW2.seq ?_
 refine r_ [] [1,2] [] [.k 1,.k 2] ⟨[(1,.p 1 0),(2,.p 2 0)],[(1,.st false [.d .nils,.d (.int .i64 p0.under),.d (.bool true),.d (.bool p0.dead),.d (.int .i64 p0.most),.d (.bool p0.ok)]),(2,.st false [.d .nils,.d (.int .i64 0),.d (.bool false),.d (.bool false),.d (.int .i64 0),.d (.bool false)])]⟩ (a_ t_ t_) ?_
 refine AW2.seq ?_
 refine r_ [] [2] [] [.k 2] ⟨[(2,.p 2 0)],[(2,.st false [.d .nils,.d (.int .i64 p0.under),.d (.bool true),.d (.bool p0.dead),.d (.int .i64 p0.most),.d (.bool p0.ok)])]⟩ (a_ t_ t_) ?_
 refine AW2.ret ?_
 have H:=Option.some.inj H
 subst H
 exact retP_mk2 t_ (by kernel_rfl)
def zaH (p0:St8) (p1:Int):Option (St8):=(if (p1==(0:Int))=true then some p0 else gd (p0.l.length * 1≤140737488355328) (gd ((p0.l.length+1) * 1≤140737488355328) ((if ((!p0.away)&&(!p0.dead))=true then some (mxI p0.most (wI (p0.under+((p0.l++([p1]:List Int)).length:Int)))) else some p0.most).bind (fun j3 => some (St8.mk (p0.l++([p1]:List Int)) p0.under p0.away p0.dead j3 p0.ok)))))
theorem zeT (p0:St8) (p1:Int) (r:St8) (H:zaH p0 p1=some r):CF E 46 [.agg (eSt8 p0),.int .u8 p1] (.agg (eSt8 r)):=by
 refine zbi (A:=zuv) zyK rfl fun fr => ?_
 unfold zaH at H
 refine AW2.seq ?_
 refine r_ [.k 2,.k 4] [1,2,4] [] [.k 2,.k 4] ⟨[(1,.d (.int .u8 p1)),(2,.p 2 0),(4,.p 4 0)],[(2,.st false (eD (eSt8 p0))),(4,.st false [.d .nils,.d (.int .i64 0),.d (.bool false),.d (.bool false),.d (.int .i64 0),.d (.bool false)])]⟩ (a_ t_ t_) ?_
 refine AW2.seq ?_
 refine AW2.seq ?_
 refine r_ [] [1,2,4,7] [] [.k 2,.k 4] ⟨[(1,.d (.int .u8 p1)),(2,.p 2 0),(4,.p 4 0),(7,.d (.bool (p1==(0:Int))))],[(2,.st false (eD (eSt8 p0))),(4,.st false [.d .nils,.d (.int .i64 0),.d (.bool false),.d (.bool false),.d (.int .i64 0),.d (.bool false)])]⟩ (a_ t_ t_) ?_
 refine AW2.cond (b:=(p1==(0:Int))) rfl (fun hc => ?_) (fun hc => ?_)
 ·replace H:=zae H hc
  refine AW2.seq ?_
  refine r_ [] [4] [] [.k 4] ⟨[(4,.p 4 0)],[(4,.st false (eD (eSt8 p0)))]⟩ (a_ t_ t_) ?_
  refine AW2.ret ?_
  have H:=Option.some.inj H
  subst H
  exact retP_mk2 t_ (by kernel_rfl)
 ·replace H:=zaf H hc
  refine AW2.skip ?_
  refine AW2.seq ?_
  refine r_ [] [1,2,4,5] [] [.k 2,.k 4] ⟨[(1,.d (.int .u8 p1)),(2,.p 2 0),(4,.p 4 0),(5,.d .nils)],[(2,.st false (eD (eSt8 p0))),(4,.st false [.d .nils,.d (.int .i64 0),.d (.bool false),.d (.bool false),.d (.int .i64 0),.d (.bool false)])]⟩ (a_ t_ t_) ?_
  refine AW2.seq ?_
  obtain ⟨h1,H⟩:=zad H
  obtain ⟨h2,H⟩:=zad H
  refine r_ [.ks false 12 p0.l.length (fl (eI .u8) p0.l),.sb ([p1]:List Int).length (fl (eI .u8) ([p1]:List Int)),.s true (p0.l++([p1]:List Int)).length (fl (eI .u8) (p0.l++([p1]:List Int)))] [2,4] [] [.k 2,.k 4,.k 12] ⟨[(2,.p 2 0),(4,.p 4 0)],[(2,.st false [.ls 12 0 (p0.l++([p1]:List Int)).length,.d (.int .i64 p0.under),.d (.bool p0.away),.d (.bool p0.dead),.d (.int .i64 p0.most),.d (.bool p0.ok)]),(4,.st false [.d .nils,.d (.int .i64 0),.d (.bool false),.d (.bool false),.d (.int .i64 0),.d (.bool false)]),(12,.sl false 1 (p0.l++([p1]:List Int)).length (fl (eI .u8) (p0.l++([p1]:List Int))))]⟩ (a_ (a_ (lcl (eI .u8) (zAn .u8) p0.l) (a_ h1 (a_ (a_ (Eq.refl p0.l.length) (fun i (_:i<p0.l.length) => Eq.refl (fl (eI .u8) p0.l i))) (a_ (litF (eI .u8) ([p1]:List Int)) (a_ (Nat.le_refl p0.l.length) (a_ h2 (a_ (app1 (eI .u8) p0.l p1 (fl (eI .u8) ([p1]:List Int)) rfl) t_))))))) t_) ?_
  obtain ⟨j3,H6,H⟩:=bind_some H
  refine AW2.mid ⟨[(2,.p 2 0),(4,.p 4 0)],[(2,.st false [.ls 12 0 (p0.l++([p1]:List Int)).length,.d (.int .i64 p0.under),.d (.bool p0.away),.d (.bool p0.dead),.d (.int .i64 j3),.d (.bool p0.ok)]),(4,.st false [.d .nils,.d (.int .i64 0),.d (.bool false),.d (.bool false),.d (.int .i64 0),.d (.bool false)]),(12,.sl false 1 (p0.l++([p1]:List Int)).length (fl (eI .u8) (p0.l++([p1]:List Int))))]⟩ ?_ ?_
  ·refine AW2.seq ?_
   refine r_ [] [4] [] [.k 4,.k 12] ⟨[(4,.p 4 0)],[(4,.st false [.ls 12 0 (p0.l++([p1]:List Int)).length,.d (.int .i64 p0.under),.d (.bool p0.away),.d (.bool p0.dead),.d (.int .i64 j3),.d (.bool p0.ok)]),(12,.sl false 1 (p0.l++([p1]:List Int)).length (fl (eI .u8) (p0.l++([p1]:List Int))))]⟩ (a_ t_ t_) ?_
   refine AW2.ret ?_
   have H:=Option.some.inj H
   subst H
   exact retP_mk2 (a_ (Nat.le_refl (p0.l++([p1]:List Int)).length) (a_ (dfl (eI .u8) (zcp .u8) (p0.l++([p1]:List Int))) t_)) (by kernel_rfl)
  ·have H:=H6
   refine AW2.seq ?_
   refine AW2.reg [] rfl (YW.to ⟨[(2,.p 2 0),(4,.p 4 0),(24,.d (.bool ((!p0.away)&&(!p0.dead))))],[(2,.st false [.ls 12 0 (p0.l++([p1]:List Int)).length,.d (.int .i64 p0.under),.d (.bool p0.away),.d (.bool p0.dead),.d (.int .i64 p0.most),.d (.bool p0.ok)]),(4,.st false [.d .nils,.d (.int .i64 0),.d (.bool false),.d (.bool false),.d (.int .i64 0),.d (.bool false)]),(12,.sl false 1 (p0.l++([p1]:List Int)).length (fl (eI .u8) (p0.l++([p1]:List Int))))]⟩ ?qh4 ?h4)
   case h4 => 
    rcases bT (!p0.away) with hc1 | hc1
    ·exact YW.fin [(20,true)] [] [2,4,24] [(24,.d (.bool ((!p0.away)&&(!p0.dead))))] [.k 2,.k 4,.k 12] _ (a_ (a_ hc1 (a_ hc1 (a_ hc1 (a_ hc1 t_)))) (a_ (ovB (Eq.trans (andT (b:=(!p0.dead)) hc1) (Eq.refl (!p0.dead)))) t_)) (by kernel_rfl) rfl
    ·exact YW.fin [(20,false)] [] [2,4,24] [(24,.d (.bool ((!p0.away)&&(!p0.dead))))] [.k 2,.k 4,.k 12] _ (a_ (a_ hc1 (a_ hc1 (a_ hc1 (a_ hc1 t_)))) (a_ (ovB (andF (b:=(!p0.dead)) hc1)) t_)) (by kernel_rfl) rfl
   refine AW2.cond (b:=((!p0.away)&&(!p0.dead))) rfl (fun hc => ?_) (fun hc => ?_)
   ·replace H:=zae H hc
    refine r_ [] [2,4] [] [.k 2,.k 4,.k 12] ⟨[(2,.p 2 0),(4,.p 4 0)],[(2,.st false [.ls 12 0 (p0.l++([p1]:List Int)).length,.d (.int .i64 p0.under),.d (.bool p0.away),.d (.bool p0.dead),.d (.int .i64 (mxI p0.most (wI (p0.under+((p0.l++([p1]:List Int)).length:Int))))),.d (.bool p0.ok)]),(4,.st false [.d .nils,.d (.int .i64 0),.d (.bool false),.d (.bool false),.d (.int .i64 0),.d (.bool false)]),(12,.sl false 1 (p0.l++([p1]:List Int)).length (fl (eI .u8) (p0.l++([p1]:List Int))))]⟩ (a_ t_ t_) ?_
    have H:=Option.some.inj H
    subst H
    exact zam [2,4] [] [.k 2,.k 4,.k 12] t_ (by kernel_rfl)
   ·replace H:=zaf H hc
    refine AW2.skip ?_
    have H:=Option.some.inj H
    subst H
    exact zam [2,4] [] [.k 2,.k 4,.k 12] t_ (by kernel_rfl)
def zbn (p0:Env8) (p1:Int):Option (Int×Bool):=(if ((decide (p1<(0:Int)))||(decide (p1≥(p0.labels.length:Int))))=true then some (0,false) else gd (0≤(wI ((wI ((p0.labels.length:Int) - 1)) - p1))∧(wI ((wI ((p0.labels.length:Int) - 1)) - p1))<(p0.labels.length:Int)) (some ((p0.labels.getD (wI ((wI ((p0.labels.length:Int) - 1)) - p1)).toNat default),true)))
theorem zfk (p0:Env8) (p1:Int) (r:Int×Bool) (H:zbn p0 p1=some r):CF E 58 [.agg (eEnv8 p0),.int .i64 p1] (.tup [.int .u8 r.1,.bool r.2]):=by
 refine zbi (A:=zmU) zwb rfl fun fr => ?_
 unfold zbn at H
 refine AW2.seq ?_
 refine r_ [.k 2] [1,2] [] [.k 2] ⟨[(1,.d (.int .i64 p1)),(2,.p 2 0)],[(2,.st false (eD (eEnv8 p0)))]⟩ (a_ t_ t_) ?_
 refine AW2.seq ?_
 refine AW2.seq ?_
 refine AW2.reg [] rfl (YW.to ⟨[(1,.d (.int .i64 p1)),(2,.p 2 0),(14,.d (.bool ((decide (p1<(0:Int)))||(decide (p1≥(p0.labels.length:Int))))))],[(2,.st false (eD (eEnv8 p0)))]⟩ ?qh2 ?h2)
 case h2 => 
  rcases bT (decide (p1<(0:Int))) with hc1 | hc1
  ·exact YW.fin [(8,true)] [] [1,2,14] [(14,.d (.bool ((decide (p1<(0:Int)))||(decide (p1≥(p0.labels.length:Int))))))] [.k 2] _ (a_ (a_ hc1 (a_ hc1 (a_ hc1 (a_ hc1 (a_ hc1 (a_ hc1 t_)))))) (a_ (ovB (orT (b:=(decide (p1≥(p0.labels.length:Int)))) hc1)) t_)) (by kernel_rfl) rfl
  ·exact YW.fin [(8,false)] [] [1,2,14] [(14,.d (.bool ((decide (p1<(0:Int)))||(decide (p1≥(p0.labels.length:Int))))))] [.k 2] _ (a_ (a_ hc1 (a_ hc1 (a_ hc1 (a_ hc1 (a_ hc1 (a_ hc1 t_)))))) (a_ (ovB (Eq.trans (orF (b:=(decide (p1≥(p0.labels.length:Int)))) hc1) (Eq.refl (decide (p1≥(p0.labels.length:Int)))))) t_)) (by kernel_rfl) rfl
 refine AW2.cond (b:=((decide (p1<(0:Int)))||(decide (p1≥(p0.labels.length:Int))))) rfl (fun hc => ?_) (fun hc => ?_)
 ·replace H:=zae H hc
  refine AW2.seq ?_
  refine r_ [] [4,5] [] [] ⟨[(4,.d (.int .u8 0)),(5,.d (.bool false))],[]⟩ (a_ t_ t_) ?_
  refine AW2.ret ?_
  have H:=Option.some.inj H
  subst H
  exact retP_mk2 t_ (by kernel_rfl)
 ·replace H:=zaf H hc
  refine AW2.skip ?_
  refine AW2.seq ?_
  obtain ⟨h1,H⟩:=zad H
  refine r_ [] [4,5] [] [] ⟨[(4,.d (.int .u8 (p0.labels.getD (wI ((wI ((p0.labels.length:Int) - 1)) - p1)).toNat default))),(5,.d (.bool true))],[]⟩ (a_ (a_ h1 t_) t_) ?_
  refine AW2.ret ?_
  have H:=Option.some.inj H
  subst H
  exact retP_mk2 t_ (by kernel_rfl)
def zaY:Nat→Env8→Instr→(Int×Bool)→Int→Bool→Option (Bool)
 | 0,_,_,_,_,_ => none
 | k+1,p0,p2,x3,a18,a19 => (if ((p2.op==(14:Int))&&(decide (a18<(p2.labels.length:Int))))=true then gd (0≤a18∧a18<(p2.labels.length:Int)) ((zbn p0 (wI (p2.labels.getD a18.toNat default))).bind fun x21 => zaY k p0 p2 x3 (wI (a18+1)) (a19&&(x21.2&&(x21.1==x3.1)))) else some a19)
def zaX:Nat→Env8→Instr→(Int×Bool)→Int→Bool→Option (Bool)
 | 0,_,_,_,_,_ => none
 | k+1,p0,p2,x28,a43,a44 => (if ((p2.op==(14:Int))&&(decide (a43<(p2.labels.length:Int))))=true then gd (0≤a43∧a43<(p2.labels.length:Int)) ((zbn p0 (wI (p2.labels.getD a43.toNat default))).bind fun x46 => zaX k p0 p2 x28 (wI (a43+1)) (a44&&(x46.2&&(x46.1==x28.1)))) else some a44)
def zbk (K:Nat) (p0:Env8) (p1:St8) (p2:Instr):Option (St8):=(if (p2.op!=(12:Int))=true then ((zag p1 127).bind fun x52 => some x52.1) else some p1).bind (fun j1 => (if (p2.op==(14:Int))=true then (if (((p2.labels.length:Int)==(0:Int))||(decide ((p2.labels.length:Int)>(257:Int))))=true then some (St8.mk j1.l j1.under j1.away j1.dead j1.most false) else gd (0≤(wI ((p2.labels.length:Int) - 1))∧(wI ((p2.labels.length:Int) - 1))<(p2.labels.length:Int)) ((zbn p0 (wI (p2.labels.getD (wI ((p2.labels.length:Int) - 1)).toNat default))).bind fun x3 => (zaY K p0 p2 x3 0 x3.2).bind (fun j5 => (if j1.ok=true then some j5 else some false).bind (fun j6 => ((zag (St8.mk j1.l j1.under j1.away j1.dead j1.most j6) x3.1).bind fun x7 => (if (p2.op==(13:Int))=true then ((zaH x7.1 x3.1).bind fun x9 => some x9) else ((zby x7.1).bind fun x11 => some x11))))))) else ((zbn p0 p2.n).bind fun x28 => (zaX K p0 p2 x28 0 x28.2).bind (fun j30 => (if j1.ok=true then some j30 else some false).bind (fun j31 => ((zag (St8.mk j1.l j1.under j1.away j1.dead j1.most j31) x28.1).bind fun x32 => (if (p2.op==(13:Int))=true then ((zaH x32.1 x28.1).bind fun x34 => some x34) else ((zby x32.1).bind fun x36 => some x36))))))))
theorem zwl (K:Nat) (p0:Env8) (p1:St8) (p2:Instr) (r:St8) (H:zbk K p0 p1 p2=some r):CF E 44 [.agg (eEnv8 p0),.agg (eSt8 p1),.agg (eInstr p2)] (.agg (eSt8 r)):=by
 refine zbi (A:=zlO) ztP rfl fun fr => ?_
 unfold zbk at H
 refine AW2.seq ?_
 refine r_ [.k 3,.k 4,.k 5,.k 6] [3,4,5,6] [] [.k 3,.k 4,.k 5,.k 6] ⟨[(3,.p 3 0),(4,.p 4 0),(5,.p 5 0),(6,.p 6 0)],[(3,.st false (eD (eEnv8 p0))),(4,.st false (eD (eSt8 p1))),(5,.st false (eD (eInstr p2))),(6,.st false [.d .nils,.d (.int .i64 0),.d (.bool false),.d (.bool false),.d (.int .i64 0),.d (.bool false)])]⟩ (a_ t_ t_) ?_
 obtain ⟨j1,H55,H⟩:=bind_some H
 refine AW2.mid ⟨[(3,.p 3 0),(4,.p 4 0),(5,.p 5 0),(6,.p 6 0)],[(3,.st false (eD (eEnv8 p0))),(4,.st false (eD (eSt8 j1))),(5,.st false (eD (eInstr p2))),(6,.st false [.d .nils,.d (.int .i64 0),.d (.bool false),.d (.bool false),.d (.int .i64 0),.d (.bool false)])]⟩ ?_ ?_
 ·refine AW2.seq ?_
  refine r_ [] [3,4,5,6,7] [] [.k 3,.k 4,.k 5,.k 6] ⟨[(3,.p 3 0),(4,.p 4 0),(5,.p 5 0),(6,.p 6 0),(7,.d (.int .i64 p2.n))],[(3,.st false (eD (eEnv8 p0))),(4,.st false (eD (eSt8 j1))),(5,.st false (eD (eInstr p2))),(6,.st false [.d .nils,.d (.int .i64 0),.d (.bool false),.d (.bool false),.d (.int .i64 0),.d (.bool false)])]⟩ (a_ t_ t_) ?_
  refine AW2.seq ?_
  refine AW2.seq ?_
  refine r_ [] [3,4,5,6,7,25] [] [.k 3,.k 4,.k 5,.k 6] ⟨[(3,.p 3 0),(4,.p 4 0),(5,.p 5 0),(6,.p 6 0),(7,.d (.int .i64 p2.n)),(25,.d (.bool (p2.op==(14:Int))))],[(3,.st false (eD (eEnv8 p0))),(4,.st false (eD (eSt8 j1))),(5,.st false (eD (eInstr p2))),(6,.st false [.d .nils,.d (.int .i64 0),.d (.bool false),.d (.bool false),.d (.int .i64 0),.d (.bool false)])]⟩ (a_ t_ t_) ?_
  refine AW2.cond (b:=(p2.op==(14:Int))) rfl (fun hc => ?_) (fun hc => ?_)
  ·replace H:=zae H hc
   refine AW2.seq ?_
   refine AW2.seq ?_
   refine AW2.reg [] rfl (YW.to ⟨[(3,.p 3 0),(4,.p 4 0),(5,.p 5 0),(6,.p 6 0),(35,.d (.bool (((p2.labels.length:Int)==(0:Int))||(decide ((p2.labels.length:Int)>(257:Int))))))],[(3,.st false (eD (eEnv8 p0))),(4,.st false (eD (eSt8 j1))),(5,.st false (eD (eInstr p2))),(6,.st false [.d .nils,.d (.int .i64 0),.d (.bool false),.d (.bool false),.d (.int .i64 0),.d (.bool false)])]⟩ ?qh27 ?h27)
   case h27 => 
    rcases bT ((p2.labels.length:Int)==(0:Int)) with hc1 | hc1
    ·exact YW.fin [(30,true)] [] [3,4,5,6,35] [(35,.d (.bool (((p2.labels.length:Int)==(0:Int))||(decide ((p2.labels.length:Int)>(257:Int))))))] [.k 3,.k 4,.k 5,.k 6] _ (a_ (a_ hc1 (a_ hc1 (a_ hc1 (a_ hc1 (a_ hc1 t_))))) (a_ (ovB (orT (b:=(decide ((p2.labels.length:Int)>(257:Int)))) hc1)) t_)) (by kernel_rfl) rfl
    ·exact YW.fin [(30,false)] [] [3,4,5,6,35] [(35,.d (.bool (((p2.labels.length:Int)==(0:Int))||(decide ((p2.labels.length:Int)>(257:Int))))))] [.k 3,.k 4,.k 5,.k 6] _ (a_ (a_ hc1 (a_ hc1 (a_ hc1 (a_ hc1 (a_ hc1 t_))))) (a_ (ovB (Eq.trans (orF (b:=(decide ((p2.labels.length:Int)>(257:Int)))) hc1) (Eq.refl (decide ((p2.labels.length:Int)>(257:Int)))))) t_)) (by kernel_rfl) rfl
   refine AW2.cond (b:=(((p2.labels.length:Int)==(0:Int))||(decide ((p2.labels.length:Int)>(257:Int))))) rfl (fun hc => ?_) (fun hc => ?_)
   ·replace H:=zae H hc
    refine AW2.seq ?_
    refine r_ [] [4,6] [] [.k 4,.k 6] ⟨[(4,.p 4 0),(6,.p 6 0)],[(4,.st false [.d (sV (eI .u8) j1.l),.d (.int .i64 j1.under),.d (.bool j1.away),.d (.bool j1.dead),.d (.int .i64 j1.most),.d (.bool false)]),(6,.st false [.d .nils,.d (.int .i64 0),.d (.bool false),.d (.bool false),.d (.int .i64 0),.d (.bool false)])]⟩ (a_ t_ t_) ?_
    refine AW2.seq ?_
    refine r_ [] [6] [] [.k 6] ⟨[(6,.p 6 0)],[(6,.st false [.d (sV (eI .u8) j1.l),.d (.int .i64 j1.under),.d (.bool j1.away),.d (.bool j1.dead),.d (.int .i64 j1.most),.d (.bool false)])]⟩ (a_ t_ t_) ?_
    refine AW2.ret ?_
    have H:=Option.some.inj H
    subst H
    exact retP_mk2 t_ (by kernel_rfl)
   ·replace H:=zaf H hc
    refine AW2.skip ?_
    obtain ⟨h2,H⟩:=zad H
    refine r_ [] [3,4,5,6,7] [] [.k 3,.k 4,.k 5,.k 6] ⟨[(3,.p 3 0),(4,.p 4 0),(5,.p 5 0),(6,.p 6 0),(7,.d (.int .i64 (wI (p2.labels.getD (wI ((p2.labels.length:Int) - 1)).toNat default))))],[(3,.st false (eD (eEnv8 p0))),(4,.st false (eD (eSt8 j1))),(5,.st false (eD (eInstr p2))),(6,.st false [.d .nils,.d (.int .i64 0),.d (.bool false),.d (.bool false),.d (.int .i64 0),.d (.bool false)])]⟩ (a_ (a_ h2 t_) t_) ?_
    refine AW2.seq ?_
    obtain ⟨x3,hx4,H⟩:=bind_some H
    refine r_ [.r (.tup [.int .u8 x3.1,.bool x3.2])] [3,4,5,6,8,9] [] [.k 3,.k 4,.k 5,.k 6] ⟨[(3,.p 3 0),(4,.p 4 0),(5,.p 5 0),(6,.p 6 0),(8,.d (.int .u8 x3.1)),(9,.d (.bool x3.2))],[(3,.st false (eD (eEnv8 p0))),(4,.st false (eD (eSt8 j1))),(5,.st false (eD (eInstr p2))),(6,.st false [.d .nils,.d (.int .i64 0),.d (.bool false),.d (.bool false),.d (.int .i64 0),.d (.bool false)])]⟩ (a_ (a_ (zfk p0 (wI (p2.labels.getD (wI ((p2.labels.length:Int) - 1)).toNat default)) x3 hx4) t_) t_) ?_
    obtain ⟨j5,H26,H⟩:=bind_some H
    refine AW2.mid ⟨[(4,.p 4 0),(5,.p 5 0),(6,.p 6 0),(8,.d (.int .u8 x3.1)),(9,.d (.bool j5))],[(4,.st false (eD (eSt8 j1))),(5,.st false (eD (eInstr p2))),(6,.st false [.d .nils,.d (.int .i64 0),.d (.bool false),.d (.bool false),.d (.int .i64 0),.d (.bool false)])]⟩ ?_ ?_
    ·refine AW2.seq ?_
     obtain ⟨j6,H14,H⟩:=bind_some H
     refine AW2.reg [] rfl (YW.to ⟨[(4,.p 4 0),(5,.p 5 0),(6,.p 6 0),(8,.d (.int .u8 x3.1))],[(4,.st false [.d (sV (eI .u8) j1.l),.d (.int .i64 j1.under),.d (.bool j1.away),.d (.bool j1.dead),.d (.int .i64 j1.most),.d (.bool j6)]),(5,.st false (eD (eInstr p2))),(6,.st false [.d .nils,.d (.int .i64 0),.d (.bool false),.d (.bool false),.d (.int .i64 0),.d (.bool false)])]⟩ ?qh15 ?h15)
     case h15 => 
      have H:=H14
      rcases bT j1.ok with hc1 | hc1
      ·replace H:=zae H hc1
       have H:=Option.some.inj H
       subst H
       exact YW.fin [(87,true)] [] [4,5,6,8] [] [.k 4,.k 5,.k 6] _ (a_ (a_ hc1 (a_ hc1 t_)) t_) (by kernel_rfl) rfl
      ·replace H:=zaf H hc1
       have H:=Option.some.inj H
       subst H
       exact YW.fin [(87,false)] [] [4,5,6,8] [] [.k 4,.k 5,.k 6] _ (a_ (a_ hc1 (a_ hc1 t_)) t_) (by kernel_rfl) rfl
     refine AW2.seq ?_
     obtain ⟨x7,hx8,H⟩:=bind_some H
     refine r_ [.r (.tup [.agg (eSt8 x7.1),.int .u8 x7.2])] [4,5,6,8] [] [.k 4,.k 5,.k 6] ⟨[(4,.p 4 0),(5,.p 5 0),(6,.p 6 0),(8,.d (.int .u8 x3.1))],[(4,.st false (eD (eSt8 x7.1))),(5,.st false (eD (eInstr p2))),(6,.st false [.d .nils,.d (.int .i64 0),.d (.bool false),.d (.bool false),.d (.int .i64 0),.d (.bool false)])]⟩ (a_ (a_ (zaS (St8.mk j1.l j1.under j1.away j1.dead j1.most j6) x3.1 x7 hx8) t_) t_) ?_
     refine AW2.seq ?_
     refine AW2.seq ?_
     refine r_ [] [4,6,8,99] [] [.k 4,.k 6] ⟨[(4,.p 4 0),(6,.p 6 0),(8,.d (.int .u8 x3.1)),(99,.d (.bool (p2.op==(13:Int))))],[(4,.st false (eD (eSt8 x7.1))),(6,.st false [.d .nils,.d (.int .i64 0),.d (.bool false),.d (.bool false),.d (.int .i64 0),.d (.bool false)])]⟩ (a_ t_ t_) ?_
     refine AW2.cond (b:=(p2.op==(13:Int))) rfl (fun hc => ?_) (fun hc => ?_)
     ·replace H:=zae H hc
      refine AW2.seq ?_
      obtain ⟨x9,hx10,H⟩:=bind_some H
      refine r_ [.r (.agg (eSt8 x9))] [6] [] [.k 6] ⟨[(6,.p 6 0)],[(6,.st false (eD (eSt8 x9)))]⟩ (a_ (a_ (zeT x7.1 x3.1 x9 hx10) t_) t_) ?_
      refine AW2.ret ?_
      have H:=Option.some.inj H
      subst H
      exact retP_mk2 t_ (by kernel_rfl)
     ·replace H:=zaf H hc
      refine AW2.skip ?_
      refine AW2.seq ?_
      obtain ⟨x11,hx12,H⟩:=bind_some H
      refine r_ [.r (.agg (eSt8 x11))] [6] [] [.k 6] ⟨[(6,.p 6 0)],[(6,.st false (eD (eSt8 x11)))]⟩ (a_ (a_ (zgK x7.1 x11 hx12) t_) t_) ?_
      refine AW2.ret ?_
      have H:=Option.some.inj H
      subst H
      exact retP_mk2 t_ (by kernel_rfl)
    ·have H:=H26
     refine AW2.seq ?_
     refine r_ [] [3,4,5,6,8,9,10] [] [.k 3,.k 4,.k 5,.k 6] ⟨[(3,.p 3 0),(4,.p 4 0),(5,.p 5 0),(6,.p 6 0),(8,.d (.int .u8 x3.1)),(9,.d (.bool x3.2)),(10,.d (.int .i64 0))],[(3,.st false (eD (eEnv8 p0))),(4,.st false (eD (eSt8 j1))),(5,.st false (eD (eInstr p2))),(6,.st false [.d .nils,.d (.int .i64 0),.d (.bool false),.d (.bool false),.d (.int .i64 0),.d (.bool false)])]⟩ (a_ t_ t_) ?_
     refine AW2.block ?_
     refine AW2.lp (σ:=Int×Bool) (fun v => ⟨[(3,.p 3 0),(4,.p 4 0),(5,.p 5 0),(6,.p 6 0),(8,.d (.int .u8 x3.1)),(9,.d (.bool v.2)),(10,.d (.int .i64 v.1))],[(3,.st false (eD (eEnv8 p0))),(4,.st false (eD (eSt8 j1))),(5,.st false (eD (eInstr p2))),(6,.st false [.d .nils,.d (.int .i64 0),.d (.bool false),.d (.bool false),.d (.int .i64 0),.d (.bool false)])]⟩) (fun k v => zaY k p0 p2 x3 v.1 v.2=some j5) ?_ K (0,x3.2) H
     rintro k ⟨a18,a19⟩ H
     dsimp only at H
     cases k with
     | zero => cases H
     | succ k => 
     unfold zaY at H
     refine AW2.seq ?_
     refine AW2.seq ?_
     refine AW2.reg [] rfl (YW.to ⟨[(3,.p 3 0),(4,.p 4 0),(5,.p 5 0),(6,.p 6 0),(8,.d (.int .u8 x3.1)),(9,.d (.bool a19)),(10,.d (.int .i64 a18)),(62,.d (.bool ((p2.op==(14:Int))&&(decide (a18<(p2.labels.length:Int))))))],[(3,.st false (eD (eEnv8 p0))),(4,.st false (eD (eSt8 j1))),(5,.st false (eD (eInstr p2))),(6,.st false [.d .nils,.d (.int .i64 0),.d (.bool false),.d (.bool false),.d (.int .i64 0),.d (.bool false)])]⟩ ?qh24 ?h24)
     case h24 => 
      rcases bT (p2.op==(14:Int)) with hc1 | hc1
      ·exact YW.fin [(56,true)] [] [3,4,5,6,8,9,10,62] [(62,.d (.bool ((p2.op==(14:Int))&&(decide (a18<(p2.labels.length:Int))))))] [.k 3,.k 4,.k 5,.k 6] _ (a_ (a_ hc1 (a_ hc1 (a_ hc1 (a_ hc1 (a_ hc1 (a_ hc1 t_)))))) (a_ (ovB (Eq.trans (andT (b:=(decide (a18<(p2.labels.length:Int)))) hc1) (Eq.refl (decide (a18<(p2.labels.length:Int)))))) t_)) (by kernel_rfl) rfl
      ·exact YW.fin [(56,false)] [] [3,4,5,6,8,9,10,62] [(62,.d (.bool ((p2.op==(14:Int))&&(decide (a18<(p2.labels.length:Int))))))] [.k 3,.k 4,.k 5,.k 6] _ (a_ (a_ hc1 (a_ hc1 (a_ hc1 (a_ hc1 (a_ hc1 (a_ hc1 t_)))))) (a_ (ovB (andF (b:=(decide (a18<(p2.labels.length:Int)))) hc1)) t_)) (by kernel_rfl) rfl
     refine AW2.cond (b:=((p2.op==(14:Int))&&(decide (a18<(p2.labels.length:Int))))) rfl (fun hc => ?_) (fun hc => ?_)
     ·replace H:=zae H hc
      refine AW2.skip ?_
      refine AW2.seq ?_
      refine AW2.block ?_
      refine AW2.seq ?_
      obtain ⟨h20,H⟩:=zad H
      obtain ⟨x21,hx22,H⟩:=bind_some H
      refine r_ [.r (.tup [.int .u8 x21.1,.bool x21.2])] [3,4,5,6,8,9,10,11,12] [] [.k 3,.k 4,.k 5,.k 6] ⟨[(3,.p 3 0),(4,.p 4 0),(5,.p 5 0),(6,.p 6 0),(8,.d (.int .u8 x3.1)),(9,.d (.bool a19)),(10,.d (.int .i64 a18)),(11,.d (.int .u8 x21.1)),(12,.d (.bool x21.2))],[(3,.st false (eD (eEnv8 p0))),(4,.st false (eD (eSt8 j1))),(5,.st false (eD (eInstr p2))),(6,.st false [.d .nils,.d (.int .i64 0),.d (.bool false),.d (.bool false),.d (.int .i64 0),.d (.bool false)])]⟩ (a_ (a_ h20 (a_ (zfk p0 (wI (p2.labels.getD a18.toNat default)) x21 hx22) t_)) t_) ?_
      refine AW2.reg [] rfl (YW.to ⟨[(3,.p 3 0),(4,.p 4 0),(5,.p 5 0),(6,.p 6 0),(8,.d (.int .u8 x3.1)),(9,.d (.bool (a19&&(x21.2&&(x21.1==x3.1))))),(10,.d (.int .i64 a18))],[(3,.st false (eD (eEnv8 p0))),(4,.st false (eD (eSt8 j1))),(5,.st false (eD (eInstr p2))),(6,.st false [.d .nils,.d (.int .i64 0),.d (.bool false),.d (.bool false),.d (.int .i64 0),.d (.bool false)])]⟩ ?qh23 ?h23)
      case h23 => 
       rcases bT a19 with hc1 | hc1
       ·rcases bT x21.2 with hc2 | hc2
        ·exact YW.fin [(77,true),(80,true)] [] [3,4,5,6,8,9,10] [(9,.d (.bool (a19&&(x21.2&&(x21.1==x3.1)))))] [.k 3,.k 4,.k 5,.k 6] _ (a_ (a_ hc1 (a_ hc1 (a_ hc2 (a_ hc2 (a_ hc2 (a_ hc2 t_)))))) (a_ (ovB (Eq.trans (andT (b:=(x21.2&&(x21.1==x3.1))) hc1) (Eq.trans (andT (b:=(x21.1==x3.1)) hc2) (Eq.refl (x21.1==x3.1))))) t_)) (by kernel_rfl) rfl
        ·exact YW.fin [(77,true),(80,false)] [] [3,4,5,6,8,9,10] [(9,.d (.bool (a19&&(x21.2&&(x21.1==x3.1)))))] [.k 3,.k 4,.k 5,.k 6] _ (a_ (a_ hc1 (a_ hc1 (a_ hc2 (a_ hc2 (a_ hc2 (a_ hc2 t_)))))) (a_ (ovB (Eq.trans (andT (b:=(x21.2&&(x21.1==x3.1))) hc1) (andF (b:=(x21.1==x3.1)) hc2))) t_)) (by kernel_rfl) rfl
       ·exact YW.fin [(77,false),(80,false)] [] [3,4,5,6,8,9,10] [(9,.d (.bool (a19&&(x21.2&&(x21.1==x3.1)))))] [.k 3,.k 4,.k 5,.k 6] _ (a_ (a_ hc1 (a_ hc1 (a_ (Eq.refl false) (a_ (Eq.refl false) (a_ (Eq.refl false) (a_ (Eq.refl false) t_)))))) (a_ (ovB (andF (b:=(x21.2&&(x21.1==x3.1))) hc1)) t_)) (by kernel_rfl) rfl
      refine r_ [] [3,4,5,6,8,9,10] [] [.k 3,.k 4,.k 5,.k 6] ⟨[(3,.p 3 0),(4,.p 4 0),(5,.p 5 0),(6,.p 6 0),(8,.d (.int .u8 x3.1)),(9,.d (.bool (a19&&(x21.2&&(x21.1==x3.1))))),(10,.d (.int .i64 (wI (a18+1))))],[(3,.st false (eD (eEnv8 p0))),(4,.st false (eD (eSt8 j1))),(5,.st false (eD (eInstr p2))),(6,.st false [.d .nils,.d (.int .i64 0),.d (.bool false),.d (.bool false),.d (.int .i64 0),.d (.bool false)])]⟩ (a_ t_ t_) ?_
      exact ⟨k,((wI (a18+1)),(a19&&(x21.2&&(x21.1==x3.1)))),Nat.lt_succ_self k,H,zam [3,4,5,6,8,9,10] [] [.k 3,.k 4,.k 5,.k 6] t_ (by kernel_rfl)⟩
     ·replace H:=zaf H hc
      refine AW2.exit ?_
      have H:=Option.some.inj H
      subst H
      exact zam [4,5,6,8,9] [] [.k 4,.k 5,.k 6] t_ (by kernel_rfl)
  ·replace H:=zaf H hc
   refine AW2.skip ?_
   refine AW2.seq ?_
   obtain ⟨x28,hx29,H⟩:=bind_some H
   refine r_ [.r (.tup [.int .u8 x28.1,.bool x28.2])] [3,4,5,6,8,9] [] [.k 3,.k 4,.k 5,.k 6] ⟨[(3,.p 3 0),(4,.p 4 0),(5,.p 5 0),(6,.p 6 0),(8,.d (.int .u8 x28.1)),(9,.d (.bool x28.2))],[(3,.st false (eD (eEnv8 p0))),(4,.st false (eD (eSt8 j1))),(5,.st false (eD (eInstr p2))),(6,.st false [.d .nils,.d (.int .i64 0),.d (.bool false),.d (.bool false),.d (.int .i64 0),.d (.bool false)])]⟩ (a_ (a_ (zfk p0 p2.n x28 hx29) t_) t_) ?_
   obtain ⟨j30,H51,H⟩:=bind_some H
   refine AW2.mid ⟨[(4,.p 4 0),(5,.p 5 0),(6,.p 6 0),(8,.d (.int .u8 x28.1)),(9,.d (.bool j30))],[(4,.st false (eD (eSt8 j1))),(5,.st false (eD (eInstr p2))),(6,.st false [.d .nils,.d (.int .i64 0),.d (.bool false),.d (.bool false),.d (.int .i64 0),.d (.bool false)])]⟩ ?_ ?_
   ·refine AW2.seq ?_
    obtain ⟨j31,H39,H⟩:=bind_some H
    refine AW2.reg [] rfl (YW.to ⟨[(4,.p 4 0),(5,.p 5 0),(6,.p 6 0),(8,.d (.int .u8 x28.1))],[(4,.st false [.d (sV (eI .u8) j1.l),.d (.int .i64 j1.under),.d (.bool j1.away),.d (.bool j1.dead),.d (.int .i64 j1.most),.d (.bool j31)]),(5,.st false (eD (eInstr p2))),(6,.st false [.d .nils,.d (.int .i64 0),.d (.bool false),.d (.bool false),.d (.int .i64 0),.d (.bool false)])]⟩ ?qh40 ?h40)
    case h40 => 
     have H:=H39
     rcases bT j1.ok with hc1 | hc1
     ·replace H:=zae H hc1
      have H:=Option.some.inj H
      subst H
      exact YW.fin [(87,true)] [] [4,5,6,8] [] [.k 4,.k 5,.k 6] _ (a_ (a_ hc1 (a_ hc1 t_)) t_) (by kernel_rfl) rfl
     ·replace H:=zaf H hc1
      have H:=Option.some.inj H
      subst H
      exact YW.fin [(87,false)] [] [4,5,6,8] [] [.k 4,.k 5,.k 6] _ (a_ (a_ hc1 (a_ hc1 t_)) t_) (by kernel_rfl) rfl
    refine AW2.seq ?_
    obtain ⟨x32,hx33,H⟩:=bind_some H
    refine r_ [.r (.tup [.agg (eSt8 x32.1),.int .u8 x32.2])] [4,5,6,8] [] [.k 4,.k 5,.k 6] ⟨[(4,.p 4 0),(5,.p 5 0),(6,.p 6 0),(8,.d (.int .u8 x28.1))],[(4,.st false (eD (eSt8 x32.1))),(5,.st false (eD (eInstr p2))),(6,.st false [.d .nils,.d (.int .i64 0),.d (.bool false),.d (.bool false),.d (.int .i64 0),.d (.bool false)])]⟩ (a_ (a_ (zaS (St8.mk j1.l j1.under j1.away j1.dead j1.most j31) x28.1 x32 hx33) t_) t_) ?_
    refine AW2.seq ?_
    refine AW2.seq ?_
    refine r_ [] [4,6,8,99] [] [.k 4,.k 6] ⟨[(4,.p 4 0),(6,.p 6 0),(8,.d (.int .u8 x28.1)),(99,.d (.bool (p2.op==(13:Int))))],[(4,.st false (eD (eSt8 x32.1))),(6,.st false [.d .nils,.d (.int .i64 0),.d (.bool false),.d (.bool false),.d (.int .i64 0),.d (.bool false)])]⟩ (a_ t_ t_) ?_
    refine AW2.cond (b:=(p2.op==(13:Int))) rfl (fun hc => ?_) (fun hc => ?_)
    ·replace H:=zae H hc
     refine AW2.seq ?_
     obtain ⟨x34,hx35,H⟩:=bind_some H
     refine r_ [.r (.agg (eSt8 x34))] [6] [] [.k 6] ⟨[(6,.p 6 0)],[(6,.st false (eD (eSt8 x34)))]⟩ (a_ (a_ (zeT x32.1 x28.1 x34 hx35) t_) t_) ?_
     refine AW2.ret ?_
     have H:=Option.some.inj H
     subst H
     exact retP_mk2 t_ (by kernel_rfl)
    ·replace H:=zaf H hc
     refine AW2.skip ?_
     refine AW2.seq ?_
     obtain ⟨x36,hx37,H⟩:=bind_some H
     refine r_ [.r (.agg (eSt8 x36))] [6] [] [.k 6] ⟨[(6,.p 6 0)],[(6,.st false (eD (eSt8 x36)))]⟩ (a_ (a_ (zgK x32.1 x36 hx37) t_) t_) ?_
     refine AW2.ret ?_
     have H:=Option.some.inj H
     subst H
     exact retP_mk2 t_ (by kernel_rfl)
   ·have H:=H51
    refine AW2.seq ?_
    refine r_ [] [3,4,5,6,8,9,10] [] [.k 3,.k 4,.k 5,.k 6] ⟨[(3,.p 3 0),(4,.p 4 0),(5,.p 5 0),(6,.p 6 0),(8,.d (.int .u8 x28.1)),(9,.d (.bool x28.2)),(10,.d (.int .i64 0))],[(3,.st false (eD (eEnv8 p0))),(4,.st false (eD (eSt8 j1))),(5,.st false (eD (eInstr p2))),(6,.st false [.d .nils,.d (.int .i64 0),.d (.bool false),.d (.bool false),.d (.int .i64 0),.d (.bool false)])]⟩ (a_ t_ t_) ?_
    refine AW2.block ?_
    refine AW2.lp (σ:=Int×Bool) (fun v => ⟨[(3,.p 3 0),(4,.p 4 0),(5,.p 5 0),(6,.p 6 0),(8,.d (.int .u8 x28.1)),(9,.d (.bool v.2)),(10,.d (.int .i64 v.1))],[(3,.st false (eD (eEnv8 p0))),(4,.st false (eD (eSt8 j1))),(5,.st false (eD (eInstr p2))),(6,.st false [.d .nils,.d (.int .i64 0),.d (.bool false),.d (.bool false),.d (.int .i64 0),.d (.bool false)])]⟩) (fun k v => zaX k p0 p2 x28 v.1 v.2=some j30) ?_ K (0,x28.2) H
    rintro k ⟨a43,a44⟩ H
    dsimp only at H
    cases k with
    | zero => cases H
    | succ k => 
    unfold zaX at H
    refine AW2.seq ?_
    refine AW2.seq ?_
    refine AW2.reg [] rfl (YW.to ⟨[(3,.p 3 0),(4,.p 4 0),(5,.p 5 0),(6,.p 6 0),(8,.d (.int .u8 x28.1)),(9,.d (.bool a44)),(10,.d (.int .i64 a43)),(62,.d (.bool ((p2.op==(14:Int))&&(decide (a43<(p2.labels.length:Int))))))],[(3,.st false (eD (eEnv8 p0))),(4,.st false (eD (eSt8 j1))),(5,.st false (eD (eInstr p2))),(6,.st false [.d .nils,.d (.int .i64 0),.d (.bool false),.d (.bool false),.d (.int .i64 0),.d (.bool false)])]⟩ ?qh49 ?h49)
    case h49 => 
     rcases bT (p2.op==(14:Int)) with hc1 | hc1
     ·exact YW.fin [(56,true)] [] [3,4,5,6,8,9,10,62] [(62,.d (.bool ((p2.op==(14:Int))&&(decide (a43<(p2.labels.length:Int))))))] [.k 3,.k 4,.k 5,.k 6] _ (a_ (a_ hc1 (a_ hc1 (a_ hc1 (a_ hc1 (a_ hc1 (a_ hc1 t_)))))) (a_ (ovB (Eq.trans (andT (b:=(decide (a43<(p2.labels.length:Int)))) hc1) (Eq.refl (decide (a43<(p2.labels.length:Int)))))) t_)) (by kernel_rfl) rfl
     ·exact YW.fin [(56,false)] [] [3,4,5,6,8,9,10,62] [(62,.d (.bool ((p2.op==(14:Int))&&(decide (a43<(p2.labels.length:Int))))))] [.k 3,.k 4,.k 5,.k 6] _ (a_ (a_ hc1 (a_ hc1 (a_ hc1 (a_ hc1 (a_ hc1 (a_ hc1 t_)))))) (a_ (ovB (andF (b:=(decide (a43<(p2.labels.length:Int)))) hc1)) t_)) (by kernel_rfl) rfl
    refine AW2.cond (b:=((p2.op==(14:Int))&&(decide (a43<(p2.labels.length:Int))))) rfl (fun hc => ?_) (fun hc => ?_)
    ·replace H:=zae H hc
     refine AW2.skip ?_
     refine AW2.seq ?_
     refine AW2.block ?_
     refine AW2.seq ?_
     obtain ⟨h45,H⟩:=zad H
     obtain ⟨x46,hx47,H⟩:=bind_some H
     refine r_ [.r (.tup [.int .u8 x46.1,.bool x46.2])] [3,4,5,6,8,9,10,11,12] [] [.k 3,.k 4,.k 5,.k 6] ⟨[(3,.p 3 0),(4,.p 4 0),(5,.p 5 0),(6,.p 6 0),(8,.d (.int .u8 x28.1)),(9,.d (.bool a44)),(10,.d (.int .i64 a43)),(11,.d (.int .u8 x46.1)),(12,.d (.bool x46.2))],[(3,.st false (eD (eEnv8 p0))),(4,.st false (eD (eSt8 j1))),(5,.st false (eD (eInstr p2))),(6,.st false [.d .nils,.d (.int .i64 0),.d (.bool false),.d (.bool false),.d (.int .i64 0),.d (.bool false)])]⟩ (a_ (a_ h45 (a_ (zfk p0 (wI (p2.labels.getD a43.toNat default)) x46 hx47) t_)) t_) ?_
     refine AW2.reg [] rfl (YW.to ⟨[(3,.p 3 0),(4,.p 4 0),(5,.p 5 0),(6,.p 6 0),(8,.d (.int .u8 x28.1)),(9,.d (.bool (a44&&(x46.2&&(x46.1==x28.1))))),(10,.d (.int .i64 a43))],[(3,.st false (eD (eEnv8 p0))),(4,.st false (eD (eSt8 j1))),(5,.st false (eD (eInstr p2))),(6,.st false [.d .nils,.d (.int .i64 0),.d (.bool false),.d (.bool false),.d (.int .i64 0),.d (.bool false)])]⟩ ?qh48 ?h48)
     case h48 => 
      rcases bT a44 with hc1 | hc1
      ·rcases bT x46.2 with hc2 | hc2
       ·exact YW.fin [(77,true),(80,true)] [] [3,4,5,6,8,9,10] [(9,.d (.bool (a44&&(x46.2&&(x46.1==x28.1)))))] [.k 3,.k 4,.k 5,.k 6] _ (a_ (a_ hc1 (a_ hc1 (a_ hc2 (a_ hc2 (a_ hc2 (a_ hc2 t_)))))) (a_ (ovB (Eq.trans (andT (b:=(x46.2&&(x46.1==x28.1))) hc1) (Eq.trans (andT (b:=(x46.1==x28.1)) hc2) (Eq.refl (x46.1==x28.1))))) t_)) (by kernel_rfl) rfl
       ·exact YW.fin [(77,true),(80,false)] [] [3,4,5,6,8,9,10] [(9,.d (.bool (a44&&(x46.2&&(x46.1==x28.1)))))] [.k 3,.k 4,.k 5,.k 6] _ (a_ (a_ hc1 (a_ hc1 (a_ hc2 (a_ hc2 (a_ hc2 (a_ hc2 t_)))))) (a_ (ovB (Eq.trans (andT (b:=(x46.2&&(x46.1==x28.1))) hc1) (andF (b:=(x46.1==x28.1)) hc2))) t_)) (by kernel_rfl) rfl
      ·exact YW.fin [(77,false),(80,false)] [] [3,4,5,6,8,9,10] [(9,.d (.bool (a44&&(x46.2&&(x46.1==x28.1)))))] [.k 3,.k 4,.k 5,.k 6] _ (a_ (a_ hc1 (a_ hc1 (a_ (Eq.refl false) (a_ (Eq.refl false) (a_ (Eq.refl false) (a_ (Eq.refl false) t_)))))) (a_ (ovB (andF (b:=(x46.2&&(x46.1==x28.1))) hc1)) t_)) (by kernel_rfl) rfl
     refine r_ [] [3,4,5,6,8,9,10] [] [.k 3,.k 4,.k 5,.k 6] ⟨[(3,.p 3 0),(4,.p 4 0),(5,.p 5 0),(6,.p 6 0),(8,.d (.int .u8 x28.1)),(9,.d (.bool (a44&&(x46.2&&(x46.1==x28.1))))),(10,.d (.int .i64 (wI (a43+1))))],[(3,.st false (eD (eEnv8 p0))),(4,.st false (eD (eSt8 j1))),(5,.st false (eD (eInstr p2))),(6,.st false [.d .nils,.d (.int .i64 0),.d (.bool false),.d (.bool false),.d (.int .i64 0),.d (.bool false)])]⟩ (a_ t_ t_) ?_
     exact ⟨k,((wI (a43+1)),(a44&&(x46.2&&(x46.1==x28.1)))),Nat.lt_succ_self k,H,zam [3,4,5,6,8,9,10] [] [.k 3,.k 4,.k 5,.k 6] t_ (by kernel_rfl)⟩
    ·replace H:=zaf H hc
     refine AW2.exit ?_
     have H:=Option.some.inj H
     subst H
     exact zam [4,5,6,8,9] [] [.k 4,.k 5,.k 6] t_ (by kernel_rfl)
 ·have H:=H55
  refine AW2.seq ?_
  refine r_ [] [3,4,5,6,15] [] [.k 3,.k 4,.k 5,.k 6] ⟨[(3,.p 3 0),(4,.p 4 0),(5,.p 5 0),(6,.p 6 0),(15,.d (.bool (p2.op!=(12:Int))))],[(3,.st false (eD (eEnv8 p0))),(4,.st false (eD (eSt8 p1))),(5,.st false (eD (eInstr p2))),(6,.st false [.d .nils,.d (.int .i64 0),.d (.bool false),.d (.bool false),.d (.int .i64 0),.d (.bool false)])]⟩ (a_ t_ t_) ?_
  refine AW2.cond (b:=(p2.op!=(12:Int))) rfl (fun hc => ?_) (fun hc => ?_)
  ·replace H:=zae H hc
   obtain ⟨x52,hx53,H⟩:=bind_some H
   refine r_ [.r (.tup [.agg (eSt8 x52.1),.int .u8 x52.2])] [3,4,5,6] [] [.k 3,.k 4,.k 5,.k 6] ⟨[(3,.p 3 0),(4,.p 4 0),(5,.p 5 0),(6,.p 6 0)],[(3,.st false (eD (eEnv8 p0))),(4,.st false (eD (eSt8 x52.1))),(5,.st false (eD (eInstr p2))),(6,.st false [.d .nils,.d (.int .i64 0),.d (.bool false),.d (.bool false),.d (.int .i64 0),.d (.bool false)])]⟩ (a_ (a_ (zaS p1 127 x52 hx53) t_) t_) ?_
   have H:=Option.some.inj H
   subst H
   exact zam [3,4,5,6] [] [.k 3,.k 4,.k 5,.k 6] t_ (by kernel_rfl)
  ·replace H:=zaf H hc
   refine AW2.skip ?_
   have H:=Option.some.inj H
   subst H
   exact zam [3,4,5,6] [] [.k 3,.k 4,.k 5,.k 6] t_ (by kernel_rfl)
def zbr (p0:Int) (p1:Int):Option (Bool):=some ((decide (p0≥(0:Int)))&&(decide (p0<p1)))
theorem zkU (p0:Int) (p1:Int) (r:Bool) (H:zbr p0 p1=some r):CF E 59 [.int .i64 p0,.int .i64 p1] (.bool r):=by
 refine zbi (A:=zxi) zzs rfl fun fr => ?_
 unfold zbr at H
 refine AW2.seq ?_
 refine r_ [] [0,1] [] [] ⟨[(0,.d (.int .i64 p0)),(1,.d (.int .i64 p1))],[]⟩ (a_ t_ t_) ?_
 refine AW2.seq ?_
 refine AW2.reg [] rfl (YW.to ⟨[(4,.d (.bool ((decide (p0≥(0:Int)))&&(decide (p0<p1)))))],[]⟩ ?qh1 ?h1)
 case h1 => 
  rcases bT (decide (p0≥(0:Int))) with hc1 | hc1
  ·exact YW.fin [(7,true)] [] [4] [(4,.d (.bool ((decide (p0≥(0:Int)))&&(decide (p0<p1)))))] [] _ (a_ (a_ hc1 (a_ hc1 (a_ hc1 (a_ hc1 t_)))) (a_ (ovB (Eq.trans (andT (b:=(decide (p0<p1))) hc1) (Eq.refl (decide (p0<p1))))) t_)) (by kernel_rfl) rfl
  ·exact YW.fin [(7,false)] [] [4] [(4,.d (.bool ((decide (p0≥(0:Int)))&&(decide (p0<p1)))))] [] _ (a_ (a_ hc1 (a_ hc1 (a_ hc1 (a_ hc1 t_)))) (a_ (ovB (andF (b:=(decide (p0<p1))) hc1)) t_)) (by kernel_rfl) rfl
 refine AW2.ret ?_
 have H:=Option.some.inj H
 subst H
 exact retP_mk2 t_ (by kernel_rfl)
def zck:Nat→Typ→St8→Int→Option (St8)
 | 0,_,_,_ => none
 | k+1,p1,a6,a7 => (if (decide (a7≥(0:Int)))=true then gd (0≤a7∧a7<(p1.params.length:Int)) ((zag a6 (p1.params.getD a7.toNat default)).bind fun x9 => zck k p1 x9.1 (wI (a7 - 1))) else some a6)
def zbK (K:Nat) (p0:St8) (p1:Typ):Option (St8):=(zck K p1 p0 (wI ((p1.params.length:Int) - 1))).bind (fun j1 => ((zaH j1 p1.result).bind fun x2 => some x2))
theorem zki (K:Nat) (p0:St8) (p1:Typ) (r:St8) (H:zbK K p0 p1=some r):CF E 60 [.agg (eSt8 p0),.agg (eTyp p1)] (.agg (eSt8 r)):=by
 refine zbi (A:=zpE) zxz rfl fun fr => ?_
 unfold zbK at H
 refine AW2.seq ?_
 refine r_ [.k 2,.k 3,.k 4] [2,3,4] [] [.k 2,.k 3,.k 4] ⟨[(2,.p 2 0),(3,.p 3 0),(4,.p 4 0)],[(2,.st false (eD (eSt8 p0))),(3,.st false (eD (eTyp p1))),(4,.st false [.d .nils,.d (.int .i64 0),.d (.bool false),.d (.bool false),.d (.int .i64 0),.d (.bool false)])]⟩ (a_ t_ t_) ?_
 obtain ⟨j1,H12,H⟩:=bind_some H
 refine AW2.mid ⟨[(2,.p 2 0),(3,.p 3 0),(4,.p 4 0)],[(2,.st false (eD (eSt8 j1))),(3,.st false (eD (eTyp p1))),(4,.st false [.d .nils,.d (.int .i64 0),.d (.bool false),.d (.bool false),.d (.int .i64 0),.d (.bool false)])]⟩ ?_ ?_
 ·refine AW2.seq ?_
  obtain ⟨x2,hx3,H⟩:=bind_some H
  refine r_ [.r (.agg (eSt8 x2))] [4] [] [.k 4] ⟨[(4,.p 4 0)],[(4,.st false (eD (eSt8 x2)))]⟩ (a_ (a_ (zeT j1 p1.result x2 hx3) t_) t_) ?_
  refine AW2.ret ?_
  have H:=Option.some.inj H
  subst H
  exact retP_mk2 t_ (by kernel_rfl)
 ·have H:=H12
  refine AW2.seq ?_
  refine r_ [] [2,3,4,5] [] [.k 2,.k 3,.k 4] ⟨[(2,.p 2 0),(3,.p 3 0),(4,.p 4 0),(5,.d (.int .i64 (wI ((p1.params.length:Int) - 1))))],[(2,.st false (eD (eSt8 p0))),(3,.st false (eD (eTyp p1))),(4,.st false [.d .nils,.d (.int .i64 0),.d (.bool false),.d (.bool false),.d (.int .i64 0),.d (.bool false)])]⟩ (a_ t_ t_) ?_
  refine AW2.block ?_
  refine AW2.lp (σ:=St8×Int) (fun v => ⟨[(2,.p 2 0),(3,.p 3 0),(4,.p 4 0),(5,.d (.int .i64 v.2))],[(2,.st false (eD (eSt8 v.1))),(3,.st false (eD (eTyp p1))),(4,.st false [.d .nils,.d (.int .i64 0),.d (.bool false),.d (.bool false),.d (.int .i64 0),.d (.bool false)])]⟩) (fun k v => zck k p1 v.1 v.2=some j1) ?_ K (p0,(wI ((p1.params.length:Int) - 1))) H
  rintro k ⟨a6,a7⟩ H
  dsimp only at H
  cases k with
  | zero => cases H
  | succ k => 
  unfold zck at H
  refine AW2.seq ?_
  refine AW2.seq ?_
  refine r_ [] [2,3,4,5,11] [] [.k 2,.k 3,.k 4] ⟨[(2,.p 2 0),(3,.p 3 0),(4,.p 4 0),(5,.d (.int .i64 a7)),(11,.d (.bool (decide (a7≥(0:Int)))))],[(2,.st false (eD (eSt8 a6))),(3,.st false (eD (eTyp p1))),(4,.st false [.d .nils,.d (.int .i64 0),.d (.bool false),.d (.bool false),.d (.int .i64 0),.d (.bool false)])]⟩ (a_ t_ t_) ?_
  refine AW2.cond (b:=(decide (a7≥(0:Int)))) rfl (fun hc => ?_) (fun hc => ?_)
  ·replace H:=zae H hc
   refine AW2.skip ?_
   refine AW2.seq ?_
   refine AW2.block ?_
   obtain ⟨h8,H⟩:=zad H
   obtain ⟨x9,hx10,H⟩:=bind_some H
   refine r_ [.r (.tup [.agg (eSt8 x9.1),.int .u8 x9.2])] [2,3,4,5] [] [.k 2,.k 3,.k 4] ⟨[(2,.p 2 0),(3,.p 3 0),(4,.p 4 0),(5,.d (.int .i64 a7))],[(2,.st false (eD (eSt8 x9.1))),(3,.st false (eD (eTyp p1))),(4,.st false [.d .nils,.d (.int .i64 0),.d (.bool false),.d (.bool false),.d (.int .i64 0),.d (.bool false)])]⟩ (a_ (a_ h8 (a_ (zaS a6 (p1.params.getD a7.toNat default) x9 hx10) t_)) t_) ?_
   refine r_ [] [2,3,4,5] [] [.k 2,.k 3,.k 4] ⟨[(2,.p 2 0),(3,.p 3 0),(4,.p 4 0),(5,.d (.int .i64 (wI (a7 - 1))))],[(2,.st false (eD (eSt8 x9.1))),(3,.st false (eD (eTyp p1))),(4,.st false [.d .nils,.d (.int .i64 0),.d (.bool false),.d (.bool false),.d (.int .i64 0),.d (.bool false)])]⟩ (a_ t_ t_) ?_
   exact ⟨k,(x9.1,(wI (a7 - 1))),Nat.lt_succ_self k,H,zam [2,3,4,5] [] [.k 2,.k 3,.k 4] t_ (by kernel_rfl)⟩
  ·replace H:=zaf H hc
   refine AW2.exit ?_
   have H:=Option.some.inj H
   subst H
   exact zam [2,3,4] [] [.k 2,.k 3,.k 4] t_ (by kernel_rfl)
def zbX (K:Nat) (p0:Env8) (p1:St8) (p2:Instr):Option (St8):=(if (p2.op==(16:Int))=true then ((zbr p2.n (p0.m.funcs.length:Int)).bind fun x1 => (if (!x1)=true then some (St8.mk p1.l p1.under p1.away p1.dead p1.most false) else gd (0≤p2.n∧p2.n<(p0.m.funcs.length:Int)) ((zbr (wI ((p0.m.funcs.getD p2.n.toNat default).type_)) (p0.m.types.length:Int)).bind fun x4 => (if (!x4)=true then some (St8.mk p1.l p1.under p1.away p1.dead p1.most false) else gd (0≤(wI ((p0.m.funcs.getD p2.n.toNat default).type_))∧(wI ((p0.m.funcs.getD p2.n.toNat default).type_))<(p0.m.types.length:Int)) ((zbK K p1 (p0.m.types.getD (wI ((p0.m.funcs.getD p2.n.toNat default).type_)).toNat default)).bind fun x7 => some x7))))) else (if p1.ok=true then some (decide ((p0.m.tables.length:Int)>(0:Int))) else some false).bind (fun j9 => ((zag (St8.mk p1.l p1.under p1.away p1.dead p1.most j9) 127).bind fun x10 => ((zbr p2.n (p0.m.types.length:Int)).bind fun x12 => (if (!x12)=true then some (St8.mk x10.1.l x10.1.under x10.1.away x10.1.dead x10.1.most false) else gd (0≤p2.n∧p2.n<(p0.m.types.length:Int)) ((zbK K x10.1 (p0.m.types.getD p2.n.toNat default)).bind fun x15 => some x15))))))
theorem zxR (K:Nat) (p0:Env8) (p1:St8) (p2:Instr) (r:St8) (H:zbX K p0 p1 p2=some r):CF E 45 [.agg (eEnv8 p0),.agg (eSt8 p1),.agg (eInstr p2)] (.agg (eSt8 r)):=by
 refine zbi (A:=zmX) zwe rfl fun fr => ?_
 unfold zbX at H
 refine AW2.seq ?_
 refine r_ [.k 3,.k 4,.k 5,.k 6] [3,4,5,6] [] [.k 3,.k 4,.k 5,.k 6] ⟨[(3,.p 3 0),(4,.p 4 0),(5,.p 5 0),(6,.p 6 0)],[(3,.st false (eD (eEnv8 p0))),(4,.st false (eD (eSt8 p1))),(5,.st false (eD (eInstr p2))),(6,.st false [.d .nils,.d (.int .i64 0),.d (.bool false),.d (.bool false),.d (.int .i64 0),.d (.bool false)])]⟩ (a_ t_ t_) ?_
 refine AW2.seq ?_
 refine r_ [] [3,4,5,6,7] [] [.k 3,.k 4,.k 5,.k 6] ⟨[(3,.p 3 0),(4,.p 4 0),(5,.p 5 0),(6,.p 6 0),(7,.d (.int .i64 p2.n))],[(3,.st false (eD (eEnv8 p0))),(4,.st false (eD (eSt8 p1))),(5,.st false (eD (eInstr p2))),(6,.st false [.d .nils,.d (.int .i64 0),.d (.bool false),.d (.bool false),.d (.int .i64 0),.d (.bool false)])]⟩ (a_ t_ t_) ?_
 refine AW2.seq ?_
 refine AW2.seq ?_
 refine r_ [] [3,4,6,7,12] [] [.k 3,.k 4,.k 6] ⟨[(3,.p 3 0),(4,.p 4 0),(6,.p 6 0),(7,.d (.int .i64 p2.n)),(12,.d (.bool (p2.op==(16:Int))))],[(3,.st false (eD (eEnv8 p0))),(4,.st false (eD (eSt8 p1))),(6,.st false [.d .nils,.d (.int .i64 0),.d (.bool false),.d (.bool false),.d (.int .i64 0),.d (.bool false)])]⟩ (a_ t_ t_) ?_
 refine AW2.cond (b:=(p2.op==(16:Int))) rfl (fun hc => ?_) (fun hc => ?_)
 ·replace H:=zae H hc
  refine AW2.seq ?_
  refine AW2.seq ?_
  obtain ⟨x1,hx2,H⟩:=bind_some H
  refine r_ [.r (.bool x1)] [3,4,6,7,19] [] [.k 3,.k 4,.k 6] ⟨[(3,.p 3 0),(4,.p 4 0),(6,.p 6 0),(7,.d (.int .i64 p2.n)),(19,.d (.bool (!x1)))],[(3,.st false (eD (eEnv8 p0))),(4,.st false (eD (eSt8 p1))),(6,.st false [.d .nils,.d (.int .i64 0),.d (.bool false),.d (.bool false),.d (.int .i64 0),.d (.bool false)])]⟩ (a_ (a_ (zkU p2.n (p0.m.funcs.length:Int) x1 hx2) t_) t_) ?_
  refine AW2.cond (b:=(!x1)) rfl (fun hc => ?_) (fun hc => ?_)
  ·replace H:=zae H hc
   refine AW2.seq ?_
   refine r_ [] [4,6] [] [.k 4,.k 6] ⟨[(4,.p 4 0),(6,.p 6 0)],[(4,.st false [.d (sV (eI .u8) p1.l),.d (.int .i64 p1.under),.d (.bool p1.away),.d (.bool p1.dead),.d (.int .i64 p1.most),.d (.bool false)]),(6,.st false [.d .nils,.d (.int .i64 0),.d (.bool false),.d (.bool false),.d (.int .i64 0),.d (.bool false)])]⟩ (a_ t_ t_) ?_
   refine AW2.seq ?_
   refine r_ [] [6] [] [.k 6] ⟨[(6,.p 6 0)],[(6,.st false [.d (sV (eI .u8) p1.l),.d (.int .i64 p1.under),.d (.bool p1.away),.d (.bool p1.dead),.d (.int .i64 p1.most),.d (.bool false)])]⟩ (a_ t_ t_) ?_
   refine AW2.ret ?_
   have H:=Option.some.inj H
   subst H
   exact retP_mk2 t_ (by kernel_rfl)
  ·replace H:=zaf H hc
   refine AW2.skip ?_
   obtain ⟨h3,H⟩:=zad H
   refine r_ [] [3,4,6,7] [] [.k 3,.k 4,.k 6] ⟨[(3,.p 3 0),(4,.p 4 0),(6,.p 6 0),(7,.d (.int .i64 (wI ((p0.m.funcs.getD p2.n.toNat default).type_))))],[(3,.st false (eD (eEnv8 p0))),(4,.st false (eD (eSt8 p1))),(6,.st false [.d .nils,.d (.int .i64 0),.d (.bool false),.d (.bool false),.d (.int .i64 0),.d (.bool false)])]⟩ (a_ (a_ h3 t_) t_) ?_
   refine AW2.seq ?_
   refine AW2.seq ?_
   obtain ⟨x4,hx5,H⟩:=bind_some H
   refine r_ [.r (.bool x4)] [3,4,6,7,51] [] [.k 3,.k 4,.k 6] ⟨[(3,.p 3 0),(4,.p 4 0),(6,.p 6 0),(7,.d (.int .i64 (wI ((p0.m.funcs.getD p2.n.toNat default).type_)))),(51,.d (.bool (!x4)))],[(3,.st false (eD (eEnv8 p0))),(4,.st false (eD (eSt8 p1))),(6,.st false [.d .nils,.d (.int .i64 0),.d (.bool false),.d (.bool false),.d (.int .i64 0),.d (.bool false)])]⟩ (a_ (a_ (zkU (wI ((p0.m.funcs.getD p2.n.toNat default).type_)) (p0.m.types.length:Int) x4 hx5) t_) t_) ?_
   refine AW2.cond (b:=(!x4)) rfl (fun hc => ?_) (fun hc => ?_)
   ·replace H:=zae H hc
    refine AW2.seq ?_
    refine r_ [] [4,6] [] [.k 4,.k 6] ⟨[(4,.p 4 0),(6,.p 6 0)],[(4,.st false [.d (sV (eI .u8) p1.l),.d (.int .i64 p1.under),.d (.bool p1.away),.d (.bool p1.dead),.d (.int .i64 p1.most),.d (.bool false)]),(6,.st false [.d .nils,.d (.int .i64 0),.d (.bool false),.d (.bool false),.d (.int .i64 0),.d (.bool false)])]⟩ (a_ t_ t_) ?_
    refine AW2.seq ?_
    refine r_ [] [6] [] [.k 6] ⟨[(6,.p 6 0)],[(6,.st false [.d (sV (eI .u8) p1.l),.d (.int .i64 p1.under),.d (.bool p1.away),.d (.bool p1.dead),.d (.int .i64 p1.most),.d (.bool false)])]⟩ (a_ t_ t_) ?_
    refine AW2.ret ?_
    have H:=Option.some.inj H
    subst H
    exact retP_mk2 t_ (by kernel_rfl)
   ·replace H:=zaf H hc
    refine AW2.skip ?_
    refine AW2.seq ?_
    obtain ⟨h6,H⟩:=zad H
    obtain ⟨x7,hx8,H⟩:=bind_some H
    refine r_ [.r (.agg (eSt8 x7))] [6] [] [.k 6] ⟨[(6,.p 6 0)],[(6,.st false (eD (eSt8 x7)))]⟩ (a_ (a_ h6 (a_ (zki K p1 (p0.m.types.getD (wI ((p0.m.funcs.getD p2.n.toNat default).type_)).toNat default) x7 hx8) t_)) t_) ?_
    refine AW2.ret ?_
    have H:=Option.some.inj H
    subst H
    exact retP_mk2 t_ (by kernel_rfl)
 ·replace H:=zaf H hc
  refine AW2.seq ?_
  obtain ⟨j9,H18,H⟩:=bind_some H
  refine AW2.reg [] rfl (YW.to ⟨[(3,.p 3 0),(4,.p 4 0),(6,.p 6 0),(7,.d (.int .i64 p2.n))],[(3,.st false (eD (eEnv8 p0))),(4,.st false [.d (sV (eI .u8) p1.l),.d (.int .i64 p1.under),.d (.bool p1.away),.d (.bool p1.dead),.d (.int .i64 p1.most),.d (.bool j9)]),(6,.st false [.d .nils,.d (.int .i64 0),.d (.bool false),.d (.bool false),.d (.int .i64 0),.d (.bool false)])]⟩ ?qh19 ?h19)
  case h19 => 
   have H:=H18
   rcases bT p1.ok with hc1 | hc1
   ·replace H:=zae H hc1
    have H:=Option.some.inj H
    subst H
    exact YW.fin [(32,true)] [] [3,4,6,7] [] [.k 3,.k 4,.k 6] _ (a_ (a_ hc1 (a_ hc1 (a_ hc1 (a_ hc1 (a_ hc1 (a_ hc1 t_)))))) t_) (by kernel_rfl) rfl
   ·replace H:=zaf H hc1
    have H:=Option.some.inj H
    subst H
    exact YW.fin [(32,false)] [] [3,4,6,7] [] [.k 3,.k 4,.k 6] _ (a_ (a_ hc1 (a_ hc1 (a_ hc1 (a_ hc1 (a_ hc1 (a_ hc1 t_)))))) t_) (by kernel_rfl) rfl
  obtain ⟨x10,hx11,H⟩:=bind_some H
  refine r_ [.r (.tup [.agg (eSt8 x10.1),.int .u8 x10.2])] [3,4,6,7] [] [.k 3,.k 4,.k 6] ⟨[(3,.p 3 0),(4,.p 4 0),(6,.p 6 0),(7,.d (.int .i64 p2.n))],[(3,.st false (eD (eEnv8 p0))),(4,.st false (eD (eSt8 x10.1))),(6,.st false [.d .nils,.d (.int .i64 0),.d (.bool false),.d (.bool false),.d (.int .i64 0),.d (.bool false)])]⟩ (a_ (a_ (zaS (St8.mk p1.l p1.under p1.away p1.dead p1.most j9) 127 x10 hx11) t_) t_) ?_
  refine AW2.seq ?_
  refine AW2.seq ?_
  obtain ⟨x12,hx13,H⟩:=bind_some H
  refine r_ [.r (.bool x12)] [3,4,6,7,51] [] [.k 3,.k 4,.k 6] ⟨[(3,.p 3 0),(4,.p 4 0),(6,.p 6 0),(7,.d (.int .i64 p2.n)),(51,.d (.bool (!x12)))],[(3,.st false (eD (eEnv8 p0))),(4,.st false (eD (eSt8 x10.1))),(6,.st false [.d .nils,.d (.int .i64 0),.d (.bool false),.d (.bool false),.d (.int .i64 0),.d (.bool false)])]⟩ (a_ (a_ (zkU p2.n (p0.m.types.length:Int) x12 hx13) t_) t_) ?_
  refine AW2.cond (b:=(!x12)) rfl (fun hc => ?_) (fun hc => ?_)
  ·replace H:=zae H hc
   refine AW2.seq ?_
   refine r_ [] [4,6] [] [.k 4,.k 6] ⟨[(4,.p 4 0),(6,.p 6 0)],[(4,.st false [.d (sV (eI .u8) x10.1.l),.d (.int .i64 x10.1.under),.d (.bool x10.1.away),.d (.bool x10.1.dead),.d (.int .i64 x10.1.most),.d (.bool false)]),(6,.st false [.d .nils,.d (.int .i64 0),.d (.bool false),.d (.bool false),.d (.int .i64 0),.d (.bool false)])]⟩ (a_ t_ t_) ?_
   refine AW2.seq ?_
   refine r_ [] [6] [] [.k 6] ⟨[(6,.p 6 0)],[(6,.st false [.d (sV (eI .u8) x10.1.l),.d (.int .i64 x10.1.under),.d (.bool x10.1.away),.d (.bool x10.1.dead),.d (.int .i64 x10.1.most),.d (.bool false)])]⟩ (a_ t_ t_) ?_
   refine AW2.ret ?_
   have H:=Option.some.inj H
   subst H
   exact retP_mk2 t_ (by kernel_rfl)
  ·replace H:=zaf H hc
   refine AW2.skip ?_
   refine AW2.seq ?_
   obtain ⟨h14,H⟩:=zad H
   obtain ⟨x15,hx16,H⟩:=bind_some H
   refine r_ [.r (.agg (eSt8 x15))] [6] [] [.k 6] ⟨[(6,.p 6 0)],[(6,.st false (eD (eSt8 x15)))]⟩ (a_ (a_ h14 (a_ (zki K x10.1 (p0.m.types.getD p2.n.toNat default) x15 hx16) t_)) t_) ?_
   refine AW2.ret ?_
   have H:=Option.some.inj H
   subst H
   exact retP_mk2 t_ (by kernel_rfl)
def zaA (p0:Env8) (p1:St8) (p2:Instr):Option (St8):=(if (decide (p2.op≥(35:Int)))=true then some (p0.m.globals.length:Int) else some (p0.locals.length:Int)).bind (fun j1 => ((zbr p2.n j1).bind fun x2 => (if (!x2)=true then some (St8.mk p1.l p1.under p1.away p1.dead p1.most false) else (if (decide (p2.op≥(35:Int)))=true then gd (0≤p2.n∧p2.n<(p0.m.globals.length:Int)) ((if p1.ok=true then (if (p2.op==(35:Int))=true then some true else gd (0≤p2.n∧p2.n<(p0.m.globals.length:Int)) (some ((p0.m.globals.getD p2.n.toNat default).mut_))) else some false).bind (fun j20 => some ((p0.m.globals.getD p2.n.toNat default).kind,j20))) else gd (0≤p2.n∧p2.n<(p0.locals.length:Int)) (some ((p0.locals.getD p2.n.toNat default),p1.ok))).bind (fun | (j4,j5) => (if ((p2.op==(33:Int))||((p2.op==(34:Int))||(p2.op==(36:Int))))=true then ((zag (St8.mk p1.l p1.under p1.away p1.dead p1.most j5) j4).bind fun x13 => some x13.1) else some (St8.mk p1.l p1.under p1.away p1.dead p1.most j5)).bind (fun j6 => (if ((p2.op==(32:Int))||((p2.op==(34:Int))||(p2.op==(35:Int))))=true then ((zaH j6 j4).bind fun x8 => some x8) else some j6).bind (fun j7 => some j7))))))
theorem zpR (p0:Env8) (p1:St8) (p2:Instr) (r:St8) (H:zaA p0 p1 p2=some r):CF E 47 [.agg (eEnv8 p0),.agg (eSt8 p1),.agg (eInstr p2)] (.agg (eSt8 r)):=by
 refine zbi (A:=ziV) znw rfl fun fr => ?_
 unfold zaA at H
 refine AW2.seq ?_
 refine r_ [.k 3,.k 4,.k 5,.k 6] [3,4,5,6] [] [.k 3,.k 4,.k 5,.k 6] ⟨[(3,.p 3 0),(4,.p 4 0),(5,.p 5 0),(6,.p 6 0)],[(3,.st false (eD (eEnv8 p0))),(4,.st false (eD (eSt8 p1))),(5,.st false (eD (eInstr p2))),(6,.st false [.d .nils,.d (.int .i64 0),.d (.bool false),.d (.bool false),.d (.int .i64 0),.d (.bool false)])]⟩ (a_ t_ t_) ?_
 refine AW2.seq ?_
 refine r_ [] [3,4,5,6,7] [] [.k 3,.k 4,.k 5,.k 6] ⟨[(3,.p 3 0),(4,.p 4 0),(5,.p 5 0),(6,.p 6 0),(7,.d (.int .i64 (p0.locals.length:Int)))],[(3,.st false (eD (eEnv8 p0))),(4,.st false (eD (eSt8 p1))),(5,.st false (eD (eInstr p2))),(6,.st false [.d .nils,.d (.int .i64 0),.d (.bool false),.d (.bool false),.d (.int .i64 0),.d (.bool false)])]⟩ (a_ t_ t_) ?_
 obtain ⟨j1,H28,H⟩:=bind_some H
 refine AW2.mid ⟨[(3,.p 3 0),(4,.p 4 0),(5,.p 5 0),(6,.p 6 0),(7,.d (.int .i64 j1))],[(3,.st false (eD (eEnv8 p0))),(4,.st false (eD (eSt8 p1))),(5,.st false (eD (eInstr p2))),(6,.st false [.d .nils,.d (.int .i64 0),.d (.bool false),.d (.bool false),.d (.int .i64 0),.d (.bool false)])]⟩ ?_ ?_
 ·refine AW2.seq ?_
  refine AW2.seq ?_
  obtain ⟨x2,hx3,H⟩:=bind_some H
  refine r_ [.r (.bool x2)] [3,4,5,6,23] [] [.k 3,.k 4,.k 5,.k 6] ⟨[(3,.p 3 0),(4,.p 4 0),(5,.p 5 0),(6,.p 6 0),(23,.d (.bool (!x2)))],[(3,.st false (eD (eEnv8 p0))),(4,.st false (eD (eSt8 p1))),(5,.st false (eD (eInstr p2))),(6,.st false [.d .nils,.d (.int .i64 0),.d (.bool false),.d (.bool false),.d (.int .i64 0),.d (.bool false)])]⟩ (a_ (a_ (zkU p2.n j1 x2 hx3) t_) t_) ?_
  refine AW2.cond (b:=(!x2)) rfl (fun hc => ?_) (fun hc => ?_)
  ·replace H:=zae H hc
   refine AW2.seq ?_
   refine r_ [] [4,6] [] [.k 4,.k 6] ⟨[(4,.p 4 0),(6,.p 6 0)],[(4,.st false [.d (sV (eI .u8) p1.l),.d (.int .i64 p1.under),.d (.bool p1.away),.d (.bool p1.dead),.d (.int .i64 p1.most),.d (.bool false)]),(6,.st false [.d .nils,.d (.int .i64 0),.d (.bool false),.d (.bool false),.d (.int .i64 0),.d (.bool false)])]⟩ (a_ t_ t_) ?_
   refine AW2.seq ?_
   refine r_ [] [6] [] [.k 6] ⟨[(6,.p 6 0)],[(6,.st false [.d (sV (eI .u8) p1.l),.d (.int .i64 p1.under),.d (.bool p1.away),.d (.bool p1.dead),.d (.int .i64 p1.most),.d (.bool false)])]⟩ (a_ t_ t_) ?_
   refine AW2.ret ?_
   have H:=Option.some.inj H
   subst H
   exact retP_mk2 t_ (by kernel_rfl)
  ·replace H:=zaf H hc
   refine AW2.skip ?_
   refine AW2.seq ?_
   refine r_ [] [3,4,5,6] [] [.k 3,.k 4,.k 5,.k 6] ⟨[(3,.p 3 0),(4,.p 4 0),(5,.p 5 0),(6,.p 6 0)],[(3,.st false (eD (eEnv8 p0))),(4,.st false (eD (eSt8 p1))),(5,.st false (eD (eInstr p2))),(6,.st false [.d .nils,.d (.int .i64 0),.d (.bool false),.d (.bool false),.d (.int .i64 0),.d (.bool false)])]⟩ (a_ t_ t_) ?_
   obtain ⟨v25,H26,H⟩:=bind_some H
   obtain ⟨j4,j5⟩:=v25
   dsimp only at H
   refine AW2.mid ⟨[(4,.p 4 0),(5,.p 5 0),(6,.p 6 0),(8,.d (.int .u8 j4))],[(4,.st false [.d (sV (eI .u8) p1.l),.d (.int .i64 p1.under),.d (.bool p1.away),.d (.bool p1.dead),.d (.int .i64 p1.most),.d (.bool j5)]),(5,.st false (eD (eInstr p2))),(6,.st false [.d .nils,.d (.int .i64 0),.d (.bool false),.d (.bool false),.d (.int .i64 0),.d (.bool false)])]⟩ ?_ ?_
   ·obtain ⟨j6,H17,H⟩:=bind_some H
    refine AW2.mid ⟨[(4,.p 4 0),(5,.p 5 0),(6,.p 6 0),(8,.d (.int .u8 j4))],[(4,.st false (eD (eSt8 j6))),(5,.st false (eD (eInstr p2))),(6,.st false [.d .nils,.d (.int .i64 0),.d (.bool false),.d (.bool false),.d (.int .i64 0),.d (.bool false)])]⟩ ?_ ?_
    ·obtain ⟨j7,H12,H⟩:=bind_some H
     refine AW2.mid ⟨[(4,.p 4 0),(6,.p 6 0)],[(4,.st false (eD (eSt8 j7))),(6,.st false [.d .nils,.d (.int .i64 0),.d (.bool false),.d (.bool false),.d (.int .i64 0),.d (.bool false)])]⟩ ?_ ?_
     ·refine AW2.seq ?_
      refine r_ [] [6] [] [.k 6] ⟨[(6,.p 6 0)],[(6,.st false (eD (eSt8 j7)))]⟩ (a_ t_ t_) ?_
      refine AW2.ret ?_
      have H:=Option.some.inj H
      subst H
      exact retP_mk2 t_ (by kernel_rfl)
     ·have H:=H12
      refine AW2.seq ?_
      refine AW2.reg [] rfl (YW.to ⟨[(4,.p 4 0),(6,.p 6 0),(8,.d (.int .u8 j4)),(92,.d (.bool ((p2.op==(32:Int))||((p2.op==(34:Int))||(p2.op==(35:Int))))))],[(4,.st false (eD (eSt8 j6))),(6,.st false [.d .nils,.d (.int .i64 0),.d (.bool false),.d (.bool false),.d (.int .i64 0),.d (.bool false)])]⟩ ?qh10 ?h10)
      case h10 => 
       rcases bT (p2.op==(32:Int)) with hc1 | hc1
       ·exact YW.fin [(83,true),(88,true)] [] [4,6,8,92] [(92,.d (.bool ((p2.op==(32:Int))||((p2.op==(34:Int))||(p2.op==(35:Int))))))] [.k 4,.k 6] _ (a_ (a_ hc1 (a_ hc1 (a_ hc1 (a_ hc1 (a_ (Eq.refl true) (a_ (Eq.refl true) (a_ (Eq.refl true) (a_ (Eq.refl true) t_)))))))) (a_ (ovB (orT (b:=((p2.op==(34:Int))||(p2.op==(35:Int)))) hc1)) t_)) (by kernel_rfl) rfl
       ·rcases bT (p2.op==(34:Int)) with hc2 | hc2
        ·exact YW.fin [(83,false),(88,true)] [] [4,6,8,92] [(92,.d (.bool ((p2.op==(32:Int))||((p2.op==(34:Int))||(p2.op==(35:Int))))))] [.k 4,.k 6] _ (a_ (a_ hc1 (a_ hc1 (a_ hc1 (a_ hc1 (a_ hc2 (a_ hc2 (a_ hc2 (a_ hc2 t_)))))))) (a_ (ovB (Eq.trans (orF (b:=((p2.op==(34:Int))||(p2.op==(35:Int)))) hc1) (orT (b:=(p2.op==(35:Int))) hc2))) t_)) (by kernel_rfl) rfl
        ·exact YW.fin [(83,false),(88,false)] [] [4,6,8,92] [(92,.d (.bool ((p2.op==(32:Int))||((p2.op==(34:Int))||(p2.op==(35:Int))))))] [.k 4,.k 6] _ (a_ (a_ hc1 (a_ hc1 (a_ hc1 (a_ hc1 (a_ hc2 (a_ hc2 (a_ hc2 (a_ hc2 t_)))))))) (a_ (ovB (Eq.trans (orF (b:=((p2.op==(34:Int))||(p2.op==(35:Int)))) hc1) (Eq.trans (orF (b:=(p2.op==(35:Int))) hc2) (Eq.refl (p2.op==(35:Int)))))) t_)) (by kernel_rfl) rfl
      refine AW2.cond (b:=((p2.op==(32:Int))||((p2.op==(34:Int))||(p2.op==(35:Int))))) rfl (fun hc => ?_) (fun hc => ?_)
      ·replace H:=zae H hc
       obtain ⟨x8,hx9,H⟩:=bind_some H
       refine r_ [.r (.agg (eSt8 x8))] [4,6] [] [.k 4,.k 6] ⟨[(4,.p 4 0),(6,.p 6 0)],[(4,.st false (eD (eSt8 x8))),(6,.st false [.d .nils,.d (.int .i64 0),.d (.bool false),.d (.bool false),.d (.int .i64 0),.d (.bool false)])]⟩ (a_ (a_ (zeT j6 j4 x8 hx9) t_) t_) ?_
       have H:=Option.some.inj H
       subst H
       exact zam [4,6] [] [.k 4,.k 6] t_ (by kernel_rfl)
      ·replace H:=zaf H hc
       refine AW2.skip ?_
       have H:=Option.some.inj H
       subst H
       exact zam [4,6] [] [.k 4,.k 6] t_ (by kernel_rfl)
    ·have H:=H17
     refine AW2.seq ?_
     refine AW2.reg [] rfl (YW.to ⟨[(4,.p 4 0),(5,.p 5 0),(6,.p 6 0),(8,.d (.int .u8 j4)),(73,.d (.bool ((p2.op==(33:Int))||((p2.op==(34:Int))||(p2.op==(36:Int))))))],[(4,.st false [.d (sV (eI .u8) p1.l),.d (.int .i64 p1.under),.d (.bool p1.away),.d (.bool p1.dead),.d (.int .i64 p1.most),.d (.bool j5)]),(5,.st false (eD (eInstr p2))),(6,.st false [.d .nils,.d (.int .i64 0),.d (.bool false),.d (.bool false),.d (.int .i64 0),.d (.bool false)])]⟩ ?qh15 ?h15)
     case h15 => 
      rcases bT (p2.op==(33:Int)) with hc1 | hc1
      ·exact YW.fin [(64,true),(69,true)] [] [4,5,6,8,73] [(73,.d (.bool ((p2.op==(33:Int))||((p2.op==(34:Int))||(p2.op==(36:Int))))))] [.k 4,.k 5,.k 6] _ (a_ (a_ hc1 (a_ hc1 (a_ hc1 (a_ hc1 (a_ (Eq.refl true) (a_ (Eq.refl true) (a_ (Eq.refl true) (a_ (Eq.refl true) t_)))))))) (a_ (ovB (orT (b:=((p2.op==(34:Int))||(p2.op==(36:Int)))) hc1)) t_)) (by kernel_rfl) rfl
      ·rcases bT (p2.op==(34:Int)) with hc2 | hc2
       ·exact YW.fin [(64,false),(69,true)] [] [4,5,6,8,73] [(73,.d (.bool ((p2.op==(33:Int))||((p2.op==(34:Int))||(p2.op==(36:Int))))))] [.k 4,.k 5,.k 6] _ (a_ (a_ hc1 (a_ hc1 (a_ hc1 (a_ hc1 (a_ hc2 (a_ hc2 (a_ hc2 (a_ hc2 t_)))))))) (a_ (ovB (Eq.trans (orF (b:=((p2.op==(34:Int))||(p2.op==(36:Int)))) hc1) (orT (b:=(p2.op==(36:Int))) hc2))) t_)) (by kernel_rfl) rfl
       ·exact YW.fin [(64,false),(69,false)] [] [4,5,6,8,73] [(73,.d (.bool ((p2.op==(33:Int))||((p2.op==(34:Int))||(p2.op==(36:Int))))))] [.k 4,.k 5,.k 6] _ (a_ (a_ hc1 (a_ hc1 (a_ hc1 (a_ hc1 (a_ hc2 (a_ hc2 (a_ hc2 (a_ hc2 t_)))))))) (a_ (ovB (Eq.trans (orF (b:=((p2.op==(34:Int))||(p2.op==(36:Int)))) hc1) (Eq.trans (orF (b:=(p2.op==(36:Int))) hc2) (Eq.refl (p2.op==(36:Int)))))) t_)) (by kernel_rfl) rfl
     refine AW2.cond (b:=((p2.op==(33:Int))||((p2.op==(34:Int))||(p2.op==(36:Int))))) rfl (fun hc => ?_) (fun hc => ?_)
     ·replace H:=zae H hc
      obtain ⟨x13,hx14,H⟩:=bind_some H
      refine r_ [.r (.tup [.agg (eSt8 x13.1),.int .u8 x13.2])] [4,5,6,8] [] [.k 4,.k 5,.k 6] ⟨[(4,.p 4 0),(5,.p 5 0),(6,.p 6 0),(8,.d (.int .u8 j4))],[(4,.st false (eD (eSt8 x13.1))),(5,.st false (eD (eInstr p2))),(6,.st false [.d .nils,.d (.int .i64 0),.d (.bool false),.d (.bool false),.d (.int .i64 0),.d (.bool false)])]⟩ (a_ (a_ (zaS (St8.mk p1.l p1.under p1.away p1.dead p1.most j5) j4 x13 hx14) t_) t_) ?_
      have H:=Option.some.inj H
      subst H
      exact zam [4,5,6,8] [] [.k 4,.k 5,.k 6] t_ (by kernel_rfl)
     ·replace H:=zaf H hc
      refine AW2.skip ?_
      have H:=Option.some.inj H
      subst H
      exact zam [4,5,6,8] [] [.k 4,.k 5,.k 6] t_ (by kernel_rfl)
   ·have H:=H26
    refine AW2.seq ?_
    refine r_ [] [3,4,5,6,28] [] [.k 3,.k 4,.k 5,.k 6] ⟨[(3,.p 3 0),(4,.p 4 0),(5,.p 5 0),(6,.p 6 0),(28,.d (.bool (decide (p2.op≥(35:Int)))))],[(3,.st false (eD (eEnv8 p0))),(4,.st false (eD (eSt8 p1))),(5,.st false (eD (eInstr p2))),(6,.st false [.d .nils,.d (.int .i64 0),.d (.bool false),.d (.bool false),.d (.int .i64 0),.d (.bool false)])]⟩ (a_ t_ t_) ?_
    refine AW2.cond (b:=(decide (p2.op≥(35:Int)))) rfl (fun hc => ?_) (fun hc => ?_)
    ·replace H:=zae H hc
     refine AW2.seq ?_
     obtain ⟨h18,H⟩:=zad H
     refine r_ [] [3,4,5,6,8] [] [.k 3,.k 4,.k 5,.k 6] ⟨[(3,.p 3 0),(4,.p 4 0),(5,.p 5 0),(6,.p 6 0),(8,.d (.int .u8 ((p0.m.globals.getD p2.n.toNat default).kind)))],[(3,.st false (eD (eEnv8 p0))),(4,.st false (eD (eSt8 p1))),(5,.st false (eD (eInstr p2))),(6,.st false [.d .nils,.d (.int .i64 0),.d (.bool false),.d (.bool false),.d (.int .i64 0),.d (.bool false)])]⟩ (a_ (a_ h18 t_) t_) ?_
     obtain ⟨j20,H22,H⟩:=bind_some H
     refine AW2.reg [] rfl (YW.to ⟨[(4,.p 4 0),(5,.p 5 0),(6,.p 6 0),(8,.d (.int .u8 ((p0.m.globals.getD p2.n.toNat default).kind)))],[(4,.st false [.d (sV (eI .u8) p1.l),.d (.int .i64 p1.under),.d (.bool p1.away),.d (.bool p1.dead),.d (.int .i64 p1.most),.d (.bool j20)]),(5,.st false (eD (eInstr p2))),(6,.st false [.d .nils,.d (.int .i64 0),.d (.bool false),.d (.bool false),.d (.int .i64 0),.d (.bool false)])]⟩ ?qh23 ?h23)
     case h23 => 
      have H:=H22
      rcases bT p1.ok with hc1 | hc1
      ·replace H:=zae H hc1
       rcases bT (p2.op==(35:Int)) with hc2 | hc2
       ·replace H:=zae H hc2
        have H:=Option.some.inj H
        subst H
        exact YW.fin [(39,true),(43,true)] [] [4,5,6,8] [] [.k 4,.k 5,.k 6] _ (a_ (a_ hc1 (a_ hc1 (a_ hc1 (a_ hc1 (a_ hc2 (a_ hc2 (a_ hc2 (a_ hc2 (a_ hc2 (a_ hc2 (a_ hc2 (a_ hc2 (a_ hc1 (a_ hc2 (a_ hc1 t_))))))))))))))) t_) (by kernel_rfl) rfl
       ·replace H:=zaf H hc2
        obtain ⟨h19,H⟩:=zad H
        have H:=Option.some.inj H
        subst H
        exact YW.fin [(39,true),(43,false)] [] [4,5,6,8] [] [.k 4,.k 5,.k 6] _ (a_ (a_ hc1 (a_ hc1 (a_ hc1 (a_ hc1 (a_ hc2 (a_ hc2 (a_ hc2 (a_ hc2 (a_ hc2 (a_ hc2 (a_ h19 (a_ hc2 (a_ hc2 (a_ hc1 (a_ hc2 (a_ hc1 t_)))))))))))))))) t_) (by kernel_rfl) rfl
      ·replace H:=zaf H hc1
       have H:=Option.some.inj H
       subst H
       exact YW.fin [(39,false)] [] [4,5,6,8] [] [.k 4,.k 5,.k 6] _ (a_ (a_ hc1 (a_ hc1 (a_ hc1 (a_ hc1 (a_ hc1 (a_ hc1 t_)))))) t_) (by kernel_rfl) rfl
     have H:=Option.some.inj H
     simp only [Prod.mk.injEq] at H
     obtain ⟨e0,e1⟩:=H
     subst e0
     subst e1
     exact zam [4,5,6,8] [] [.k 4,.k 5,.k 6] t_ (by kernel_rfl)
    ·replace H:=zaf H hc
     obtain ⟨h24,H⟩:=zad H
     refine r_ [] [4,5,6,8] [] [.k 4,.k 5,.k 6] ⟨[(4,.p 4 0),(5,.p 5 0),(6,.p 6 0),(8,.d (.int .u8 (p0.locals.getD p2.n.toNat default)))],[(4,.st false (eD (eSt8 p1))),(5,.st false (eD (eInstr p2))),(6,.st false [.d .nils,.d (.int .i64 0),.d (.bool false),.d (.bool false),.d (.int .i64 0),.d (.bool false)])]⟩ (a_ (a_ h24 t_) t_) ?_
     have H:=Option.some.inj H
     simp only [Prod.mk.injEq] at H
     obtain ⟨e0,e1⟩:=H
     subst e0
     subst e1
     exact zam [4,5,6,8] [] [.k 4,.k 5,.k 6] t_ (by kernel_rfl)
 ·have H:=H28
  refine AW2.seq ?_
  refine r_ [] [3,4,5,6,7,14] [] [.k 3,.k 4,.k 5,.k 6] ⟨[(3,.p 3 0),(4,.p 4 0),(5,.p 5 0),(6,.p 6 0),(7,.d (.int .i64 (p0.locals.length:Int))),(14,.d (.bool (decide (p2.op≥(35:Int)))))],[(3,.st false (eD (eEnv8 p0))),(4,.st false (eD (eSt8 p1))),(5,.st false (eD (eInstr p2))),(6,.st false [.d .nils,.d (.int .i64 0),.d (.bool false),.d (.bool false),.d (.int .i64 0),.d (.bool false)])]⟩ (a_ t_ t_) ?_
  refine AW2.cond (b:=(decide (p2.op≥(35:Int)))) rfl (fun hc => ?_) (fun hc => ?_)
  ·replace H:=zae H hc
   refine r_ [] [3,4,5,6,7] [] [.k 3,.k 4,.k 5,.k 6] ⟨[(3,.p 3 0),(4,.p 4 0),(5,.p 5 0),(6,.p 6 0),(7,.d (.int .i64 (p0.m.globals.length:Int)))],[(3,.st false (eD (eEnv8 p0))),(4,.st false (eD (eSt8 p1))),(5,.st false (eD (eInstr p2))),(6,.st false [.d .nils,.d (.int .i64 0),.d (.bool false),.d (.bool false),.d (.int .i64 0),.d (.bool false)])]⟩ (a_ t_ t_) ?_
   have H:=Option.some.inj H
   subst H
   exact zam [3,4,5,6,7] [] [.k 3,.k 4,.k 5,.k 6] t_ (by kernel_rfl)
  ·replace H:=zaf H hc
   refine AW2.skip ?_
   have H:=Option.some.inj H
   subst H
   exact zam [3,4,5,6,7] [] [.k 3,.k 4,.k 5,.k 6] t_ (by kernel_rfl)
def zgG (p0:Int):Option (ByteArray×Int):=(if ((decide ((wI p0)≥(69:Int)))&&(decide ((wI p0)≤(79:Int))))=true then gd (0≤(wI ((wI p0) - 69))∧(wI ((wI p0) - 69))<([b59_,b70_,b69_,b54_,b53_,b52_,b51_,b50_,b49_,b48_,b58_].length:Int)) (some ([b59_,b70_,b69_,b54_,b53_,b52_,b51_,b50_,b49_,b48_,b58_].getD ((wI ((wI p0) - 69)).toNat) default,32)) else (if ((decide ((wI p0)≥(80:Int)))&&(decide ((wI p0)≤(90:Int))))=true then gd (0≤(wI ((wI p0) - 80))∧(wI ((wI p0) - 80))<([b59_,b70_,b69_,b54_,b53_,b52_,b51_,b50_,b49_,b48_,b58_].length:Int)) (some ([b59_,b70_,b69_,b54_,b53_,b52_,b51_,b50_,b49_,b48_,b58_].getD ((wI ((wI p0) - 80)).toNat) default,64)) else (if ((decide ((wI p0)≥(103:Int)))&&(decide ((wI p0)≤(105:Int))))=true then gd (0≤(wI ((wI p0) - 103))∧(wI ((wI p0) - 103))<(([b42_,b41_,b27_]:List ByteArray).length:Int)) (some (([b42_,b41_,b27_]:List ByteArray).getD ((wI ((wI p0) - 103)).toNat) default,32)) else (if ((decide ((wI p0)≥(106:Int)))&&(decide ((wI p0)≤(120:Int))))=true then gd (0≤(wI ((wI p0) - 106))∧(wI ((wI p0) - 106))<([b55_,b56_,b45_,b30_,b31_,b32_,b33_,b57_,b62_,b46_,b47_,b34_,b35_,b39_,b40_].length:Int)) (some ([b55_,b56_,b45_,b30_,b31_,b32_,b33_,b57_,b62_,b46_,b47_,b34_,b35_,b39_,b40_].getD ((wI ((wI p0) - 106)).toNat) default,32)) else (if ((decide ((wI p0)≥(121:Int)))&&(decide ((wI p0)≤(123:Int))))=true then gd (0≤(wI ((wI p0) - 121))∧(wI ((wI p0) - 121))<(([b42_,b41_,b27_]:List ByteArray).length:Int)) (some (([b42_,b41_,b27_]:List ByteArray).getD ((wI ((wI p0) - 121)).toNat) default,64)) else (if ((decide ((wI p0)≥(124:Int)))&&(decide ((wI p0)≤(138:Int))))=true then gd (0≤(wI ((wI p0) - 124))∧(wI ((wI p0) - 124))<([b55_,b56_,b45_,b30_,b31_,b32_,b33_,b57_,b62_,b46_,b47_,b34_,b35_,b39_,b40_].length:Int)) (some ([b55_,b56_,b45_,b30_,b31_,b32_,b33_,b57_,b62_,b46_,b47_,b34_,b35_,b39_,b40_].getD ((wI ((wI p0) - 124)).toNat) default,64)) else (if ((wI p0)==(167:Int))=true then some (b79_,64) else (if ((wI p0)==(172:Int))=true then some (b61_,32) else (if ((wI p0)==(173:Int))=true then some (b68_,32) else some (b155_,0))))))))))
theorem zpw (p0:Int) (r:ByteArray×Int) (H:zgG p0=some r):CF E 83 [.int .u8 p0] (.tup [.str r.1,.int .i64 r.2]):=by
 refine zbi (A:=zpL) zxG rfl fun fr => ?_
 unfold zgG at H
 refine AW2.seq ?_
 refine r_ [] [0] [] [] ⟨[(0,.d (.int .u8 p0))],[]⟩ (a_ t_ t_) ?_
 refine AW2.seq ?_
 refine r_ [.ks true 8 ([b42_,b41_,b27_]:List ByteArray).length (fl eS ([b42_,b41_,b27_]:List ByteArray))] [0,4] [] [.k 8] ⟨[(0,.d (.int .u8 p0)),(4,.ls 8 0 ([b42_,b41_,b27_]:List ByteArray).length)],[(8,.sl false 1 ([b42_,b41_,b27_]:List ByteArray).length (fl eS ([b42_,b41_,b27_]:List ByteArray)))]⟩ (a_ (a_ (litK eS ([b42_,b41_,b27_]:List ByteArray) (fun _ => rfl)) t_) t_) ?_
 refine AW2.seq ?_
 refine r_ [.ks true 9 [b55_,b56_,b45_,b30_,b31_,b32_,b33_,b57_,b62_,b46_,b47_,b34_,b35_,b39_,b40_].length (fl eS [b55_,b56_,b45_,b30_,b31_,b32_,b33_,b57_,b62_,b46_,b47_,b34_,b35_,b39_,b40_])] [0,4,5] [] [.k 8,.k 9] ⟨[(0,.d (.int .u8 p0)),(4,.ls 8 0 ([b42_,b41_,b27_]:List ByteArray).length),(5,.ls 9 0 [b55_,b56_,b45_,b30_,b31_,b32_,b33_,b57_,b62_,b46_,b47_,b34_,b35_,b39_,b40_].length)],[(8,.sl false 1 ([b42_,b41_,b27_]:List ByteArray).length (fl eS ([b42_,b41_,b27_]:List ByteArray))),(9,.sl false 1 [b55_,b56_,b45_,b30_,b31_,b32_,b33_,b57_,b62_,b46_,b47_,b34_,b35_,b39_,b40_].length (fl eS [b55_,b56_,b45_,b30_,b31_,b32_,b33_,b57_,b62_,b46_,b47_,b34_,b35_,b39_,b40_]))]⟩ (a_ (a_ (litK eS [b55_,b56_,b45_,b30_,b31_,b32_,b33_,b57_,b62_,b46_,b47_,b34_,b35_,b39_,b40_] (fun _ => rfl)) t_) t_) ?_
 refine AW2.seq ?_
 refine r_ [.ks true 10 [b59_,b70_,b69_,b54_,b53_,b52_,b51_,b50_,b49_,b48_,b58_].length (fl eS [b59_,b70_,b69_,b54_,b53_,b52_,b51_,b50_,b49_,b48_,b58_])] [0,4,5,6] [] [.k 8,.k 9,.k 10] ⟨[(0,.d (.int .u8 p0)),(4,.ls 8 0 ([b42_,b41_,b27_]:List ByteArray).length),(5,.ls 9 0 [b55_,b56_,b45_,b30_,b31_,b32_,b33_,b57_,b62_,b46_,b47_,b34_,b35_,b39_,b40_].length),(6,.ls 10 0 [b59_,b70_,b69_,b54_,b53_,b52_,b51_,b50_,b49_,b48_,b58_].length)],[(8,.sl false 1 ([b42_,b41_,b27_]:List ByteArray).length (fl eS ([b42_,b41_,b27_]:List ByteArray))),(9,.sl false 1 [b55_,b56_,b45_,b30_,b31_,b32_,b33_,b57_,b62_,b46_,b47_,b34_,b35_,b39_,b40_].length (fl eS [b55_,b56_,b45_,b30_,b31_,b32_,b33_,b57_,b62_,b46_,b47_,b34_,b35_,b39_,b40_])),(10,.sl false 1 [b59_,b70_,b69_,b54_,b53_,b52_,b51_,b50_,b49_,b48_,b58_].length (fl eS [b59_,b70_,b69_,b54_,b53_,b52_,b51_,b50_,b49_,b48_,b58_]))]⟩ (a_ (a_ (litK eS [b59_,b70_,b69_,b54_,b53_,b52_,b51_,b50_,b49_,b48_,b58_] (fun _ => rfl)) t_) t_) ?_
 refine AW2.seq ?_
 refine r_ [] [4,5,6,7] [] [.k 8,.k 9,.k 10] ⟨[(4,.ls 8 0 ([b42_,b41_,b27_]:List ByteArray).length),(5,.ls 9 0 [b55_,b56_,b45_,b30_,b31_,b32_,b33_,b57_,b62_,b46_,b47_,b34_,b35_,b39_,b40_].length),(6,.ls 10 0 [b59_,b70_,b69_,b54_,b53_,b52_,b51_,b50_,b49_,b48_,b58_].length),(7,.d (.int .i64 (wI p0)))],[(8,.sl false 1 ([b42_,b41_,b27_]:List ByteArray).length (fl eS ([b42_,b41_,b27_]:List ByteArray))),(9,.sl false 1 [b55_,b56_,b45_,b30_,b31_,b32_,b33_,b57_,b62_,b46_,b47_,b34_,b35_,b39_,b40_].length (fl eS [b55_,b56_,b45_,b30_,b31_,b32_,b33_,b57_,b62_,b46_,b47_,b34_,b35_,b39_,b40_])),(10,.sl false 1 [b59_,b70_,b69_,b54_,b53_,b52_,b51_,b50_,b49_,b48_,b58_].length (fl eS [b59_,b70_,b69_,b54_,b53_,b52_,b51_,b50_,b49_,b48_,b58_]))]⟩ (a_ t_ t_) ?_
 refine AW2.seq ?_
 refine AW2.block ?_
 refine AW2.seq ?_
 refine AW2.reg [] rfl (YW.to ⟨[(4,.ls 8 0 ([b42_,b41_,b27_]:List ByteArray).length),(5,.ls 9 0 [b55_,b56_,b45_,b30_,b31_,b32_,b33_,b57_,b62_,b46_,b47_,b34_,b35_,b39_,b40_].length),(6,.ls 10 0 [b59_,b70_,b69_,b54_,b53_,b52_,b51_,b50_,b49_,b48_,b58_].length),(7,.d (.int .i64 (wI p0))),(13,.d (.bool ((decide ((wI p0)≥(69:Int)))&&(decide ((wI p0)≤(79:Int))))))],[(8,.sl false 1 ([b42_,b41_,b27_]:List ByteArray).length (fl eS ([b42_,b41_,b27_]:List ByteArray))),(9,.sl false 1 [b55_,b56_,b45_,b30_,b31_,b32_,b33_,b57_,b62_,b46_,b47_,b34_,b35_,b39_,b40_].length (fl eS [b55_,b56_,b45_,b30_,b31_,b32_,b33_,b57_,b62_,b46_,b47_,b34_,b35_,b39_,b40_])),(10,.sl false 1 [b59_,b70_,b69_,b54_,b53_,b52_,b51_,b50_,b49_,b48_,b58_].length (fl eS [b59_,b70_,b69_,b54_,b53_,b52_,b51_,b50_,b49_,b48_,b58_]))]⟩ ?qh12 ?h12)
 case h12 => 
  rcases bT (decide ((wI p0)≥(69:Int))) with hc1 | hc1
  ·exact YW.fin [(16,true)] [] [4,5,6,7,13] [(13,.d (.bool ((decide ((wI p0)≥(69:Int)))&&(decide ((wI p0)≤(79:Int))))))] [.k 8,.k 9,.k 10] _ (a_ (a_ hc1 (a_ hc1 (a_ hc1 t_))) (a_ (ovB (Eq.trans (andT (b:=(decide ((wI p0)≤(79:Int)))) hc1) (Eq.refl (decide ((wI p0)≤(79:Int)))))) t_)) (by kernel_rfl) rfl
  ·exact YW.fin [(16,false)] [] [4,5,6,7,13] [(13,.d (.bool ((decide ((wI p0)≥(69:Int)))&&(decide ((wI p0)≤(79:Int))))))] [.k 8,.k 9,.k 10] _ (a_ (a_ hc1 (a_ hc1 (a_ hc1 t_))) (a_ (ovB (andF (b:=(decide ((wI p0)≤(79:Int)))) hc1)) t_)) (by kernel_rfl) rfl
 refine AW2.cond (b:=((decide ((wI p0)≥(69:Int)))&&(decide ((wI p0)≤(79:Int))))) rfl (fun hc => ?_) (fun hc => ?_)
 ·replace H:=zae H hc
  refine AW2.seq ?_
  obtain ⟨h1,H⟩:=zad H
  refine r_ [] [2,3] [] [] ⟨[(2,.d (.str ([b59_,b70_,b69_,b54_,b53_,b52_,b51_,b50_,b49_,b48_,b58_].getD ((wI ((wI p0) - 69)).toNat) default))),(3,.d (.int .i64 32))],[]⟩ (a_ (a_ h1 (a_ (ixN h1) (a_ (ixN h1) t_))) t_) ?_
  refine AW2.ret ?_
  have H:=Option.some.inj H
  subst H
  exact retP_mk2 t_ (by kernel_rfl)
 ·replace H:=zaf H hc
  refine AW2.seq ?_
  refine AW2.reg [] rfl (YW.to ⟨[(4,.ls 8 0 ([b42_,b41_,b27_]:List ByteArray).length),(5,.ls 9 0 [b55_,b56_,b45_,b30_,b31_,b32_,b33_,b57_,b62_,b46_,b47_,b34_,b35_,b39_,b40_].length),(6,.ls 10 0 [b59_,b70_,b69_,b54_,b53_,b52_,b51_,b50_,b49_,b48_,b58_].length),(7,.d (.int .i64 (wI p0))),(25,.d (.bool ((decide ((wI p0)≥(80:Int)))&&(decide ((wI p0)≤(90:Int))))))],[(8,.sl false 1 ([b42_,b41_,b27_]:List ByteArray).length (fl eS ([b42_,b41_,b27_]:List ByteArray))),(9,.sl false 1 [b55_,b56_,b45_,b30_,b31_,b32_,b33_,b57_,b62_,b46_,b47_,b34_,b35_,b39_,b40_].length (fl eS [b55_,b56_,b45_,b30_,b31_,b32_,b33_,b57_,b62_,b46_,b47_,b34_,b35_,b39_,b40_])),(10,.sl false 1 [b59_,b70_,b69_,b54_,b53_,b52_,b51_,b50_,b49_,b48_,b58_].length (fl eS [b59_,b70_,b69_,b54_,b53_,b52_,b51_,b50_,b49_,b48_,b58_]))]⟩ ?qh11 ?h11)
  case h11 => 
   rcases bT (decide ((wI p0)≥(80:Int))) with hc1 | hc1
   ·exact YW.fin [(28,true)] [] [4,5,6,7,25] [(25,.d (.bool ((decide ((wI p0)≥(80:Int)))&&(decide ((wI p0)≤(90:Int))))))] [.k 8,.k 9,.k 10] _ (a_ (a_ hc1 (a_ hc1 (a_ hc1 t_))) (a_ (ovB (Eq.trans (andT (b:=(decide ((wI p0)≤(90:Int)))) hc1) (Eq.refl (decide ((wI p0)≤(90:Int)))))) t_)) (by kernel_rfl) rfl
   ·exact YW.fin [(28,false)] [] [4,5,6,7,25] [(25,.d (.bool ((decide ((wI p0)≥(80:Int)))&&(decide ((wI p0)≤(90:Int))))))] [.k 8,.k 9,.k 10] _ (a_ (a_ hc1 (a_ hc1 (a_ hc1 t_))) (a_ (ovB (andF (b:=(decide ((wI p0)≤(90:Int)))) hc1)) t_)) (by kernel_rfl) rfl
  refine AW2.cond (b:=((decide ((wI p0)≥(80:Int)))&&(decide ((wI p0)≤(90:Int))))) rfl (fun hc => ?_) (fun hc => ?_)
  ·replace H:=zae H hc
   refine AW2.seq ?_
   obtain ⟨h2,H⟩:=zad H
   refine r_ [] [2,3] [] [] ⟨[(2,.d (.str ([b59_,b70_,b69_,b54_,b53_,b52_,b51_,b50_,b49_,b48_,b58_].getD ((wI ((wI p0) - 80)).toNat) default))),(3,.d (.int .i64 64))],[]⟩ (a_ (a_ h2 (a_ (ixN h2) (a_ (ixN h2) t_))) t_) ?_
   refine AW2.ret ?_
   have H:=Option.some.inj H
   subst H
   exact retP_mk2 t_ (by kernel_rfl)
  ·replace H:=zaf H hc
   refine AW2.seq ?_
   refine AW2.reg [] rfl (YW.to ⟨[(4,.ls 8 0 ([b42_,b41_,b27_]:List ByteArray).length),(5,.ls 9 0 [b55_,b56_,b45_,b30_,b31_,b32_,b33_,b57_,b62_,b46_,b47_,b34_,b35_,b39_,b40_].length),(7,.d (.int .i64 (wI p0))),(37,.d (.bool ((decide ((wI p0)≥(103:Int)))&&(decide ((wI p0)≤(105:Int))))))],[(8,.sl false 1 ([b42_,b41_,b27_]:List ByteArray).length (fl eS ([b42_,b41_,b27_]:List ByteArray))),(9,.sl false 1 [b55_,b56_,b45_,b30_,b31_,b32_,b33_,b57_,b62_,b46_,b47_,b34_,b35_,b39_,b40_].length (fl eS [b55_,b56_,b45_,b30_,b31_,b32_,b33_,b57_,b62_,b46_,b47_,b34_,b35_,b39_,b40_]))]⟩ ?qh10 ?h10)
   case h10 => 
    rcases bT (decide ((wI p0)≥(103:Int))) with hc1 | hc1
    ·exact YW.fin [(40,true)] [] [4,5,7,37] [(37,.d (.bool ((decide ((wI p0)≥(103:Int)))&&(decide ((wI p0)≤(105:Int))))))] [.k 8,.k 9] _ (a_ (a_ hc1 (a_ hc1 (a_ hc1 t_))) (a_ (ovB (Eq.trans (andT (b:=(decide ((wI p0)≤(105:Int)))) hc1) (Eq.refl (decide ((wI p0)≤(105:Int)))))) t_)) (by kernel_rfl) rfl
    ·exact YW.fin [(40,false)] [] [4,5,7,37] [(37,.d (.bool ((decide ((wI p0)≥(103:Int)))&&(decide ((wI p0)≤(105:Int))))))] [.k 8,.k 9] _ (a_ (a_ hc1 (a_ hc1 (a_ hc1 t_))) (a_ (ovB (andF (b:=(decide ((wI p0)≤(105:Int)))) hc1)) t_)) (by kernel_rfl) rfl
   refine AW2.cond (b:=((decide ((wI p0)≥(103:Int)))&&(decide ((wI p0)≤(105:Int))))) rfl (fun hc => ?_) (fun hc => ?_)
   ·replace H:=zae H hc
    refine AW2.seq ?_
    obtain ⟨h3,H⟩:=zad H
    refine r_ [] [2,3] [] [] ⟨[(2,.d (.str (([b42_,b41_,b27_]:List ByteArray).getD ((wI ((wI p0) - 103)).toNat) default))),(3,.d (.int .i64 32))],[]⟩ (a_ (a_ h3 (a_ (ixN h3) (a_ (ixN h3) t_))) t_) ?_
    refine AW2.ret ?_
    have H:=Option.some.inj H
    subst H
    exact retP_mk2 t_ (by kernel_rfl)
   ·replace H:=zaf H hc
    refine AW2.seq ?_
    refine AW2.reg [] rfl (YW.to ⟨[(4,.ls 8 0 ([b42_,b41_,b27_]:List ByteArray).length),(5,.ls 9 0 [b55_,b56_,b45_,b30_,b31_,b32_,b33_,b57_,b62_,b46_,b47_,b34_,b35_,b39_,b40_].length),(7,.d (.int .i64 (wI p0))),(49,.d (.bool ((decide ((wI p0)≥(106:Int)))&&(decide ((wI p0)≤(120:Int))))))],[(8,.sl false 1 ([b42_,b41_,b27_]:List ByteArray).length (fl eS ([b42_,b41_,b27_]:List ByteArray))),(9,.sl false 1 [b55_,b56_,b45_,b30_,b31_,b32_,b33_,b57_,b62_,b46_,b47_,b34_,b35_,b39_,b40_].length (fl eS [b55_,b56_,b45_,b30_,b31_,b32_,b33_,b57_,b62_,b46_,b47_,b34_,b35_,b39_,b40_]))]⟩ ?qh9 ?h9)
    case h9 => 
     rcases bT (decide ((wI p0)≥(106:Int))) with hc1 | hc1
     ·exact YW.fin [(52,true)] [] [4,5,7,49] [(49,.d (.bool ((decide ((wI p0)≥(106:Int)))&&(decide ((wI p0)≤(120:Int))))))] [.k 8,.k 9] _ (a_ (a_ hc1 (a_ hc1 (a_ hc1 t_))) (a_ (ovB (Eq.trans (andT (b:=(decide ((wI p0)≤(120:Int)))) hc1) (Eq.refl (decide ((wI p0)≤(120:Int)))))) t_)) (by kernel_rfl) rfl
     ·exact YW.fin [(52,false)] [] [4,5,7,49] [(49,.d (.bool ((decide ((wI p0)≥(106:Int)))&&(decide ((wI p0)≤(120:Int))))))] [.k 8,.k 9] _ (a_ (a_ hc1 (a_ hc1 (a_ hc1 t_))) (a_ (ovB (andF (b:=(decide ((wI p0)≤(120:Int)))) hc1)) t_)) (by kernel_rfl) rfl
    refine AW2.cond (b:=((decide ((wI p0)≥(106:Int)))&&(decide ((wI p0)≤(120:Int))))) rfl (fun hc => ?_) (fun hc => ?_)
    ·replace H:=zae H hc
     refine AW2.seq ?_
     obtain ⟨h4,H⟩:=zad H
     refine r_ [] [2,3] [] [] ⟨[(2,.d (.str ([b55_,b56_,b45_,b30_,b31_,b32_,b33_,b57_,b62_,b46_,b47_,b34_,b35_,b39_,b40_].getD ((wI ((wI p0) - 106)).toNat) default))),(3,.d (.int .i64 32))],[]⟩ (a_ (a_ h4 (a_ (ixN h4) (a_ (ixN h4) t_))) t_) ?_
     refine AW2.ret ?_
     have H:=Option.some.inj H
     subst H
     exact retP_mk2 t_ (by kernel_rfl)
    ·replace H:=zaf H hc
     refine AW2.seq ?_
     refine AW2.reg [] rfl (YW.to ⟨[(4,.ls 8 0 ([b42_,b41_,b27_]:List ByteArray).length),(5,.ls 9 0 [b55_,b56_,b45_,b30_,b31_,b32_,b33_,b57_,b62_,b46_,b47_,b34_,b35_,b39_,b40_].length),(7,.d (.int .i64 (wI p0))),(61,.d (.bool ((decide ((wI p0)≥(121:Int)))&&(decide ((wI p0)≤(123:Int))))))],[(8,.sl false 1 ([b42_,b41_,b27_]:List ByteArray).length (fl eS ([b42_,b41_,b27_]:List ByteArray))),(9,.sl false 1 [b55_,b56_,b45_,b30_,b31_,b32_,b33_,b57_,b62_,b46_,b47_,b34_,b35_,b39_,b40_].length (fl eS [b55_,b56_,b45_,b30_,b31_,b32_,b33_,b57_,b62_,b46_,b47_,b34_,b35_,b39_,b40_]))]⟩ ?qh8 ?h8)
     case h8 => 
      rcases bT (decide ((wI p0)≥(121:Int))) with hc1 | hc1
      ·exact YW.fin [(64,true)] [] [4,5,7,61] [(61,.d (.bool ((decide ((wI p0)≥(121:Int)))&&(decide ((wI p0)≤(123:Int))))))] [.k 8,.k 9] _ (a_ (a_ hc1 (a_ hc1 (a_ hc1 t_))) (a_ (ovB (Eq.trans (andT (b:=(decide ((wI p0)≤(123:Int)))) hc1) (Eq.refl (decide ((wI p0)≤(123:Int)))))) t_)) (by kernel_rfl) rfl
      ·exact YW.fin [(64,false)] [] [4,5,7,61] [(61,.d (.bool ((decide ((wI p0)≥(121:Int)))&&(decide ((wI p0)≤(123:Int))))))] [.k 8,.k 9] _ (a_ (a_ hc1 (a_ hc1 (a_ hc1 t_))) (a_ (ovB (andF (b:=(decide ((wI p0)≤(123:Int)))) hc1)) t_)) (by kernel_rfl) rfl
     refine AW2.cond (b:=((decide ((wI p0)≥(121:Int)))&&(decide ((wI p0)≤(123:Int))))) rfl (fun hc => ?_) (fun hc => ?_)
     ·replace H:=zae H hc
      refine AW2.seq ?_
      obtain ⟨h5,H⟩:=zad H
      refine r_ [] [2,3] [] [] ⟨[(2,.d (.str (([b42_,b41_,b27_]:List ByteArray).getD ((wI ((wI p0) - 121)).toNat) default))),(3,.d (.int .i64 64))],[]⟩ (a_ (a_ h5 (a_ (ixN h5) (a_ (ixN h5) t_))) t_) ?_
      refine AW2.ret ?_
      have H:=Option.some.inj H
      subst H
      exact retP_mk2 t_ (by kernel_rfl)
     ·replace H:=zaf H hc
      refine AW2.seq ?_
      refine AW2.reg [] rfl (YW.to ⟨[(5,.ls 9 0 [b55_,b56_,b45_,b30_,b31_,b32_,b33_,b57_,b62_,b46_,b47_,b34_,b35_,b39_,b40_].length),(7,.d (.int .i64 (wI p0))),(73,.d (.bool ((decide ((wI p0)≥(124:Int)))&&(decide ((wI p0)≤(138:Int))))))],[(9,.sl false 1 [b55_,b56_,b45_,b30_,b31_,b32_,b33_,b57_,b62_,b46_,b47_,b34_,b35_,b39_,b40_].length (fl eS [b55_,b56_,b45_,b30_,b31_,b32_,b33_,b57_,b62_,b46_,b47_,b34_,b35_,b39_,b40_]))]⟩ ?qh7 ?h7)
      case h7 => 
       rcases bT (decide ((wI p0)≥(124:Int))) with hc1 | hc1
       ·exact YW.fin [(76,true)] [] [5,7,73] [(73,.d (.bool ((decide ((wI p0)≥(124:Int)))&&(decide ((wI p0)≤(138:Int))))))] [.k 9] _ (a_ (a_ hc1 (a_ hc1 (a_ hc1 t_))) (a_ (ovB (Eq.trans (andT (b:=(decide ((wI p0)≤(138:Int)))) hc1) (Eq.refl (decide ((wI p0)≤(138:Int)))))) t_)) (by kernel_rfl) rfl
       ·exact YW.fin [(76,false)] [] [5,7,73] [(73,.d (.bool ((decide ((wI p0)≥(124:Int)))&&(decide ((wI p0)≤(138:Int))))))] [.k 9] _ (a_ (a_ hc1 (a_ hc1 (a_ hc1 t_))) (a_ (ovB (andF (b:=(decide ((wI p0)≤(138:Int)))) hc1)) t_)) (by kernel_rfl) rfl
      refine AW2.cond (b:=((decide ((wI p0)≥(124:Int)))&&(decide ((wI p0)≤(138:Int))))) rfl (fun hc => ?_) (fun hc => ?_)
      ·replace H:=zae H hc
       refine AW2.seq ?_
       obtain ⟨h6,H⟩:=zad H
       refine r_ [] [2,3] [] [] ⟨[(2,.d (.str ([b55_,b56_,b45_,b30_,b31_,b32_,b33_,b57_,b62_,b46_,b47_,b34_,b35_,b39_,b40_].getD ((wI ((wI p0) - 124)).toNat) default))),(3,.d (.int .i64 64))],[]⟩ (a_ (a_ h6 (a_ (ixN h6) (a_ (ixN h6) t_))) t_) ?_
       refine AW2.ret ?_
       have H:=Option.some.inj H
       subst H
       exact retP_mk2 t_ (by kernel_rfl)
      ·replace H:=zaf H hc
       refine AW2.seq ?_
       refine r_ [] [7,85] [] [] ⟨[(7,.d (.int .i64 (wI p0))),(85,.d (.bool ((wI p0)==(167:Int))))],[]⟩ (a_ t_ t_) ?_
       refine AW2.cond (b:=((wI p0)==(167:Int))) rfl (fun hc => ?_) (fun hc => ?_)
       ·replace H:=zae H hc
        refine AW2.seq ?_
        refine r_ [] [2,3] [] [] ⟨[(2,.d (.str b79_)),(3,.d (.int .i64 64))],[]⟩ (a_ t_ t_) ?_
        refine AW2.ret ?_
        have H:=Option.some.inj H
        subst H
        exact retP_mk2 t_ (by kernel_rfl)
       ·replace H:=zaf H hc
        refine AW2.seq ?_
        refine r_ [] [7,88] [] [] ⟨[(7,.d (.int .i64 (wI p0))),(88,.d (.bool ((wI p0)==(172:Int))))],[]⟩ (a_ t_ t_) ?_
        refine AW2.cond (b:=((wI p0)==(172:Int))) rfl (fun hc => ?_) (fun hc => ?_)
        ·replace H:=zae H hc
         refine AW2.seq ?_
         refine r_ [] [2,3] [] [] ⟨[(2,.d (.str b61_)),(3,.d (.int .i64 32))],[]⟩ (a_ t_ t_) ?_
         refine AW2.ret ?_
         have H:=Option.some.inj H
         subst H
         exact retP_mk2 t_ (by kernel_rfl)
        ·replace H:=zaf H hc
         refine AW2.seq ?_
         refine r_ [] [91] [] [] ⟨[(91,.d (.bool ((wI p0)==(173:Int))))],[]⟩ (a_ t_ t_) ?_
         refine AW2.cond (b:=((wI p0)==(173:Int))) rfl (fun hc => ?_) (fun hc => ?_)
         ·replace H:=zae H hc
          refine AW2.seq ?_
          refine r_ [] [2,3] [] [] ⟨[(2,.d (.str b68_)),(3,.d (.int .i64 32))],[]⟩ (a_ t_ t_) ?_
          refine AW2.ret ?_
          have H:=Option.some.inj H
          subst H
          exact retP_mk2 t_ (by kernel_rfl)
         ·replace H:=zaf H hc
          refine AW2.skip ?_
          refine AW2.seq ?_
          refine r_ [] [2,3] [] [] ⟨[(2,.d (.str b155_)),(3,.d (.int .i64 0))],[]⟩ (a_ t_ t_) ?_
          refine AW2.ret ?_
          have H:=Option.some.inj H
          subst H
          exact retP_mk2 t_ (by kernel_rfl)
def zeY (p0:Int):Option (ByteArray):=(if (decide ((wI p0)≤(4:Int)))=true then gd (0≤(wI p0)∧(wI p0)<(([b28_,b60_,b38_,b43_,b65_]:List ByteArray).length:Int)) (some (([b28_,b60_,b38_,b43_,b65_]:List ByteArray).getD ((wI p0).toNat) default)) else (if ((decide ((wI p0)≥(12:Int)))&&(decide ((wI p0)≤(17:Int))))=true then gd (0≤(wI ((wI p0) - 12))∧(wI ((wI p0) - 12))<(([b67_,b37_,b29_,b36_,b44_,b11_]:List ByteArray).length:Int)) (some (([b67_,b37_,b29_,b36_,b44_,b11_]:List ByteArray).getD ((wI ((wI p0) - 12)).toNat) default)) else (if ((wI p0)==(26:Int))=true then some b85_ else (if ((wI p0)==(27:Int))=true then some b80_ else (if ((decide ((wI p0)≥(32:Int)))&&(decide ((wI p0)≤(36:Int))))=true then gd (0≤(wI ((wI p0) - 32))∧(wI ((wI p0) - 32))<(([b26_,b25_,b24_,b18_,b21_]:List ByteArray).length:Int)) (some (([b26_,b25_,b24_,b18_,b21_]:List ByteArray).getD ((wI ((wI p0) - 32)).toNat) default)) else (if ((wI p0)==(40:Int))=true then some b78_ else (if ((wI p0)==(41:Int))=true then some b77_ else (if ((decide ((wI p0)≥(44:Int)))&&(decide ((wI p0)≤(55:Int))))=true then gd (0≤(wI ((wI p0) - 44))∧(wI ((wI p0) - 44))<([b12_,b13_,b2_,b3_,b14_,b15_,b4_,b5_,b6_,b7_,b22_,b23_].length:Int)) (some ([b12_,b13_,b2_,b3_,b14_,b15_,b4_,b5_,b6_,b7_,b22_,b23_].getD ((wI ((wI p0) - 44)).toNat) default)) else (if ((decide ((wI p0)≥(58:Int)))&&(decide ((wI p0)≤(66:Int))))=true then gd (0≤(wI ((wI p0) - 58))∧(wI ((wI p0) - 58))<([b16_,b8_,b17_,b9_,b10_,b0_,b1_,b20_,b19_].length:Int)) (some ([b16_,b8_,b17_,b9_,b10_,b0_,b1_,b20_,b19_].getD ((wI ((wI p0) - 58)).toNat) default)) else (if ((wI p0)==(167:Int))=true then some b71_ else (if ((wI p0)==(172:Int))=true then some b64_ else (if ((wI p0)==(173:Int))=true then some b63_ else ((zgG p0).bind fun x6 => (if (x6.1.toList==b155_.toList)=true then some b155_ else (if (x6.2==(32:Int))=true then gd (¬ ((b86_.size+x6.1.size:Nat):Int)>IntKind.i64.max) (some (b86_++x6.1)) else gd (¬ ((b74_.size+x6.1.size:Nat):Int)>IntKind.i64.max) (some (b74_++x6.1)))))))))))))))))
theorem zkj (p0:Int) (r:ByteArray) (H:zeY p0=some r):CF E 80 [.int .u8 p0] (.str r):=by
 refine zbi (A:=zpI) zxD rfl fun fr => ?_
 unfold zeY at H
 refine AW2.seq ?_
 refine r_ [] [0] [] [] ⟨[(0,.d (.int .u8 p0))],[]⟩ (a_ t_ t_) ?_
 refine AW2.seq ?_
 refine r_ [.ks true 11 ([b28_,b60_,b38_,b43_,b65_]:List ByteArray).length (fl eS ([b28_,b60_,b38_,b43_,b65_]:List ByteArray))] [0,3] [] [.k 11] ⟨[(0,.d (.int .u8 p0)),(3,.ls 11 0 ([b28_,b60_,b38_,b43_,b65_]:List ByteArray).length)],[(11,.sl false 1 ([b28_,b60_,b38_,b43_,b65_]:List ByteArray).length (fl eS ([b28_,b60_,b38_,b43_,b65_]:List ByteArray)))]⟩ (a_ (a_ (litK eS ([b28_,b60_,b38_,b43_,b65_]:List ByteArray) (fun _ => rfl)) t_) t_) ?_
 refine AW2.seq ?_
 refine r_ [.ks true 12 ([b67_,b37_,b29_,b36_,b44_,b11_]:List ByteArray).length (fl eS ([b67_,b37_,b29_,b36_,b44_,b11_]:List ByteArray))] [0,3,4] [] [.k 11,.k 12] ⟨[(0,.d (.int .u8 p0)),(3,.ls 11 0 ([b28_,b60_,b38_,b43_,b65_]:List ByteArray).length),(4,.ls 12 0 ([b67_,b37_,b29_,b36_,b44_,b11_]:List ByteArray).length)],[(11,.sl false 1 ([b28_,b60_,b38_,b43_,b65_]:List ByteArray).length (fl eS ([b28_,b60_,b38_,b43_,b65_]:List ByteArray))),(12,.sl false 1 ([b67_,b37_,b29_,b36_,b44_,b11_]:List ByteArray).length (fl eS ([b67_,b37_,b29_,b36_,b44_,b11_]:List ByteArray)))]⟩ (a_ (a_ (litK eS ([b67_,b37_,b29_,b36_,b44_,b11_]:List ByteArray) (fun _ => rfl)) t_) t_) ?_
 refine AW2.seq ?_
 refine r_ [.ks true 13 ([b26_,b25_,b24_,b18_,b21_]:List ByteArray).length (fl eS ([b26_,b25_,b24_,b18_,b21_]:List ByteArray))] [0,3,4,5] [] [.k 11,.k 12,.k 13] ⟨[(0,.d (.int .u8 p0)),(3,.ls 11 0 ([b28_,b60_,b38_,b43_,b65_]:List ByteArray).length),(4,.ls 12 0 ([b67_,b37_,b29_,b36_,b44_,b11_]:List ByteArray).length),(5,.ls 13 0 ([b26_,b25_,b24_,b18_,b21_]:List ByteArray).length)],[(11,.sl false 1 ([b28_,b60_,b38_,b43_,b65_]:List ByteArray).length (fl eS ([b28_,b60_,b38_,b43_,b65_]:List ByteArray))),(12,.sl false 1 ([b67_,b37_,b29_,b36_,b44_,b11_]:List ByteArray).length (fl eS ([b67_,b37_,b29_,b36_,b44_,b11_]:List ByteArray))),(13,.sl false 1 ([b26_,b25_,b24_,b18_,b21_]:List ByteArray).length (fl eS ([b26_,b25_,b24_,b18_,b21_]:List ByteArray)))]⟩ (a_ (a_ (litK eS ([b26_,b25_,b24_,b18_,b21_]:List ByteArray) (fun _ => rfl)) t_) t_) ?_
 refine AW2.seq ?_
 refine r_ [.ks true 14 [b12_,b13_,b2_,b3_,b14_,b15_,b4_,b5_,b6_,b7_,b22_,b23_].length (fl eS [b12_,b13_,b2_,b3_,b14_,b15_,b4_,b5_,b6_,b7_,b22_,b23_])] [0,3,4,5,6] [] [.k 11,.k 12,.k 13,.k 14] ⟨[(0,.d (.int .u8 p0)),(3,.ls 11 0 ([b28_,b60_,b38_,b43_,b65_]:List ByteArray).length),(4,.ls 12 0 ([b67_,b37_,b29_,b36_,b44_,b11_]:List ByteArray).length),(5,.ls 13 0 ([b26_,b25_,b24_,b18_,b21_]:List ByteArray).length),(6,.ls 14 0 [b12_,b13_,b2_,b3_,b14_,b15_,b4_,b5_,b6_,b7_,b22_,b23_].length)],[(11,.sl false 1 ([b28_,b60_,b38_,b43_,b65_]:List ByteArray).length (fl eS ([b28_,b60_,b38_,b43_,b65_]:List ByteArray))),(12,.sl false 1 ([b67_,b37_,b29_,b36_,b44_,b11_]:List ByteArray).length (fl eS ([b67_,b37_,b29_,b36_,b44_,b11_]:List ByteArray))),(13,.sl false 1 ([b26_,b25_,b24_,b18_,b21_]:List ByteArray).length (fl eS ([b26_,b25_,b24_,b18_,b21_]:List ByteArray))),(14,.sl false 1 [b12_,b13_,b2_,b3_,b14_,b15_,b4_,b5_,b6_,b7_,b22_,b23_].length (fl eS [b12_,b13_,b2_,b3_,b14_,b15_,b4_,b5_,b6_,b7_,b22_,b23_]))]⟩ (a_ (a_ (litK eS [b12_,b13_,b2_,b3_,b14_,b15_,b4_,b5_,b6_,b7_,b22_,b23_] (fun _ => rfl)) t_) t_) ?_
 refine AW2.seq ?_
 refine r_ [.ks true 15 [b16_,b8_,b17_,b9_,b10_,b0_,b1_,b20_,b19_].length (fl eS [b16_,b8_,b17_,b9_,b10_,b0_,b1_,b20_,b19_])] [0,3,4,5,6,7] [] [.k 11,.k 12,.k 13,.k 14,.k 15] ⟨[(0,.d (.int .u8 p0)),(3,.ls 11 0 ([b28_,b60_,b38_,b43_,b65_]:List ByteArray).length),(4,.ls 12 0 ([b67_,b37_,b29_,b36_,b44_,b11_]:List ByteArray).length),(5,.ls 13 0 ([b26_,b25_,b24_,b18_,b21_]:List ByteArray).length),(6,.ls 14 0 [b12_,b13_,b2_,b3_,b14_,b15_,b4_,b5_,b6_,b7_,b22_,b23_].length),(7,.ls 15 0 [b16_,b8_,b17_,b9_,b10_,b0_,b1_,b20_,b19_].length)],[(11,.sl false 1 ([b28_,b60_,b38_,b43_,b65_]:List ByteArray).length (fl eS ([b28_,b60_,b38_,b43_,b65_]:List ByteArray))),(12,.sl false 1 ([b67_,b37_,b29_,b36_,b44_,b11_]:List ByteArray).length (fl eS ([b67_,b37_,b29_,b36_,b44_,b11_]:List ByteArray))),(13,.sl false 1 ([b26_,b25_,b24_,b18_,b21_]:List ByteArray).length (fl eS ([b26_,b25_,b24_,b18_,b21_]:List ByteArray))),(14,.sl false 1 [b12_,b13_,b2_,b3_,b14_,b15_,b4_,b5_,b6_,b7_,b22_,b23_].length (fl eS [b12_,b13_,b2_,b3_,b14_,b15_,b4_,b5_,b6_,b7_,b22_,b23_])),(15,.sl false 1 [b16_,b8_,b17_,b9_,b10_,b0_,b1_,b20_,b19_].length (fl eS [b16_,b8_,b17_,b9_,b10_,b0_,b1_,b20_,b19_]))]⟩ (a_ (a_ (litK eS [b16_,b8_,b17_,b9_,b10_,b0_,b1_,b20_,b19_] (fun _ => rfl)) t_) t_) ?_
 refine AW2.seq ?_
 refine r_ [] [0,3,4,5,6,7,8] [] [.k 11,.k 12,.k 13,.k 14,.k 15] ⟨[(0,.d (.int .u8 p0)),(3,.ls 11 0 ([b28_,b60_,b38_,b43_,b65_]:List ByteArray).length),(4,.ls 12 0 ([b67_,b37_,b29_,b36_,b44_,b11_]:List ByteArray).length),(5,.ls 13 0 ([b26_,b25_,b24_,b18_,b21_]:List ByteArray).length),(6,.ls 14 0 [b12_,b13_,b2_,b3_,b14_,b15_,b4_,b5_,b6_,b7_,b22_,b23_].length),(7,.ls 15 0 [b16_,b8_,b17_,b9_,b10_,b0_,b1_,b20_,b19_].length),(8,.d (.int .i64 (wI p0)))],[(11,.sl false 1 ([b28_,b60_,b38_,b43_,b65_]:List ByteArray).length (fl eS ([b28_,b60_,b38_,b43_,b65_]:List ByteArray))),(12,.sl false 1 ([b67_,b37_,b29_,b36_,b44_,b11_]:List ByteArray).length (fl eS ([b67_,b37_,b29_,b36_,b44_,b11_]:List ByteArray))),(13,.sl false 1 ([b26_,b25_,b24_,b18_,b21_]:List ByteArray).length (fl eS ([b26_,b25_,b24_,b18_,b21_]:List ByteArray))),(14,.sl false 1 [b12_,b13_,b2_,b3_,b14_,b15_,b4_,b5_,b6_,b7_,b22_,b23_].length (fl eS [b12_,b13_,b2_,b3_,b14_,b15_,b4_,b5_,b6_,b7_,b22_,b23_])),(15,.sl false 1 [b16_,b8_,b17_,b9_,b10_,b0_,b1_,b20_,b19_].length (fl eS [b16_,b8_,b17_,b9_,b10_,b0_,b1_,b20_,b19_]))]⟩ (a_ t_ t_) ?_
 refine AW2.seq ?_
 refine AW2.block ?_
 refine AW2.seq ?_
 refine r_ [] [0,3,4,5,6,7,8,18] [] [.k 11,.k 12,.k 13,.k 14,.k 15] ⟨[(0,.d (.int .u8 p0)),(3,.ls 11 0 ([b28_,b60_,b38_,b43_,b65_]:List ByteArray).length),(4,.ls 12 0 ([b67_,b37_,b29_,b36_,b44_,b11_]:List ByteArray).length),(5,.ls 13 0 ([b26_,b25_,b24_,b18_,b21_]:List ByteArray).length),(6,.ls 14 0 [b12_,b13_,b2_,b3_,b14_,b15_,b4_,b5_,b6_,b7_,b22_,b23_].length),(7,.ls 15 0 [b16_,b8_,b17_,b9_,b10_,b0_,b1_,b20_,b19_].length),(8,.d (.int .i64 (wI p0))),(18,.d (.bool (decide ((wI p0)≤(4:Int)))))],[(11,.sl false 1 ([b28_,b60_,b38_,b43_,b65_]:List ByteArray).length (fl eS ([b28_,b60_,b38_,b43_,b65_]:List ByteArray))),(12,.sl false 1 ([b67_,b37_,b29_,b36_,b44_,b11_]:List ByteArray).length (fl eS ([b67_,b37_,b29_,b36_,b44_,b11_]:List ByteArray))),(13,.sl false 1 ([b26_,b25_,b24_,b18_,b21_]:List ByteArray).length (fl eS ([b26_,b25_,b24_,b18_,b21_]:List ByteArray))),(14,.sl false 1 [b12_,b13_,b2_,b3_,b14_,b15_,b4_,b5_,b6_,b7_,b22_,b23_].length (fl eS [b12_,b13_,b2_,b3_,b14_,b15_,b4_,b5_,b6_,b7_,b22_,b23_])),(15,.sl false 1 [b16_,b8_,b17_,b9_,b10_,b0_,b1_,b20_,b19_].length (fl eS [b16_,b8_,b17_,b9_,b10_,b0_,b1_,b20_,b19_]))]⟩ (a_ t_ t_) ?_
 refine AW2.cond (b:=(decide ((wI p0)≤(4:Int)))) rfl (fun hc => ?_) (fun hc => ?_)
 ·replace H:=zae H hc
  refine AW2.seq ?_
  obtain ⟨h1,H⟩:=zad H
  refine r_ [] [2] [] [] ⟨[(2,.d (.str (([b28_,b60_,b38_,b43_,b65_]:List ByteArray).getD ((wI p0).toNat) default)))],[]⟩ (a_ (a_ h1 (a_ (ixN h1) (a_ (ixN h1) t_))) t_) ?_
  refine AW2.ret ?_
  have H:=Option.some.inj H
  subst H
  exact retP_mk2 t_ (by kernel_rfl)
 ·replace H:=zaf H hc
  refine AW2.seq ?_
  refine AW2.reg [] rfl (YW.to ⟨[(0,.d (.int .u8 p0)),(4,.ls 12 0 ([b67_,b37_,b29_,b36_,b44_,b11_]:List ByteArray).length),(5,.ls 13 0 ([b26_,b25_,b24_,b18_,b21_]:List ByteArray).length),(6,.ls 14 0 [b12_,b13_,b2_,b3_,b14_,b15_,b4_,b5_,b6_,b7_,b22_,b23_].length),(7,.ls 15 0 [b16_,b8_,b17_,b9_,b10_,b0_,b1_,b20_,b19_].length),(8,.d (.int .i64 (wI p0))),(25,.d (.bool ((decide ((wI p0)≥(12:Int)))&&(decide ((wI p0)≤(17:Int))))))],[(12,.sl false 1 ([b67_,b37_,b29_,b36_,b44_,b11_]:List ByteArray).length (fl eS ([b67_,b37_,b29_,b36_,b44_,b11_]:List ByteArray))),(13,.sl false 1 ([b26_,b25_,b24_,b18_,b21_]:List ByteArray).length (fl eS ([b26_,b25_,b24_,b18_,b21_]:List ByteArray))),(14,.sl false 1 [b12_,b13_,b2_,b3_,b14_,b15_,b4_,b5_,b6_,b7_,b22_,b23_].length (fl eS [b12_,b13_,b2_,b3_,b14_,b15_,b4_,b5_,b6_,b7_,b22_,b23_])),(15,.sl false 1 [b16_,b8_,b17_,b9_,b10_,b0_,b1_,b20_,b19_].length (fl eS [b16_,b8_,b17_,b9_,b10_,b0_,b1_,b20_,b19_]))]⟩ ?qh13 ?h13)
  case h13 => 
   rcases bT (decide ((wI p0)≥(12:Int))) with hc1 | hc1
   ·exact YW.fin [(28,true)] [] [0,4,5,6,7,8,25] [(25,.d (.bool ((decide ((wI p0)≥(12:Int)))&&(decide ((wI p0)≤(17:Int))))))] [.k 12,.k 13,.k 14,.k 15] _ (a_ (a_ hc1 (a_ hc1 (a_ hc1 t_))) (a_ (ovB (Eq.trans (andT (b:=(decide ((wI p0)≤(17:Int)))) hc1) (Eq.refl (decide ((wI p0)≤(17:Int)))))) t_)) (by kernel_rfl) rfl
   ·exact YW.fin [(28,false)] [] [0,4,5,6,7,8,25] [(25,.d (.bool ((decide ((wI p0)≥(12:Int)))&&(decide ((wI p0)≤(17:Int))))))] [.k 12,.k 13,.k 14,.k 15] _ (a_ (a_ hc1 (a_ hc1 (a_ hc1 t_))) (a_ (ovB (andF (b:=(decide ((wI p0)≤(17:Int)))) hc1)) t_)) (by kernel_rfl) rfl
  refine AW2.cond (b:=((decide ((wI p0)≥(12:Int)))&&(decide ((wI p0)≤(17:Int))))) rfl (fun hc => ?_) (fun hc => ?_)
  ·replace H:=zae H hc
   refine AW2.seq ?_
   obtain ⟨h2,H⟩:=zad H
   refine r_ [] [2] [] [] ⟨[(2,.d (.str (([b67_,b37_,b29_,b36_,b44_,b11_]:List ByteArray).getD ((wI ((wI p0) - 12)).toNat) default)))],[]⟩ (a_ (a_ h2 (a_ (ixN h2) (a_ (ixN h2) t_))) t_) ?_
   refine AW2.ret ?_
   have H:=Option.some.inj H
   subst H
   exact retP_mk2 t_ (by kernel_rfl)
  ·replace H:=zaf H hc
   refine AW2.seq ?_
   refine r_ [] [0,5,6,7,8,37] [] [.k 13,.k 14,.k 15] ⟨[(0,.d (.int .u8 p0)),(5,.ls 13 0 ([b26_,b25_,b24_,b18_,b21_]:List ByteArray).length),(6,.ls 14 0 [b12_,b13_,b2_,b3_,b14_,b15_,b4_,b5_,b6_,b7_,b22_,b23_].length),(7,.ls 15 0 [b16_,b8_,b17_,b9_,b10_,b0_,b1_,b20_,b19_].length),(8,.d (.int .i64 (wI p0))),(37,.d (.bool ((wI p0)==(26:Int))))],[(13,.sl false 1 ([b26_,b25_,b24_,b18_,b21_]:List ByteArray).length (fl eS ([b26_,b25_,b24_,b18_,b21_]:List ByteArray))),(14,.sl false 1 [b12_,b13_,b2_,b3_,b14_,b15_,b4_,b5_,b6_,b7_,b22_,b23_].length (fl eS [b12_,b13_,b2_,b3_,b14_,b15_,b4_,b5_,b6_,b7_,b22_,b23_])),(15,.sl false 1 [b16_,b8_,b17_,b9_,b10_,b0_,b1_,b20_,b19_].length (fl eS [b16_,b8_,b17_,b9_,b10_,b0_,b1_,b20_,b19_]))]⟩ (a_ t_ t_) ?_
   refine AW2.cond (b:=((wI p0)==(26:Int))) rfl (fun hc => ?_) (fun hc => ?_)
   ·replace H:=zae H hc
    refine AW2.seq ?_
    refine r_ [] [2] [] [] ⟨[(2,.d (.str b85_))],[]⟩ (a_ t_ t_) ?_
    refine AW2.ret ?_
    have H:=Option.some.inj H
    subst H
    exact retP_mk2 t_ (by kernel_rfl)
   ·replace H:=zaf H hc
    refine AW2.seq ?_
    refine r_ [] [0,5,6,7,8,40] [] [.k 13,.k 14,.k 15] ⟨[(0,.d (.int .u8 p0)),(5,.ls 13 0 ([b26_,b25_,b24_,b18_,b21_]:List ByteArray).length),(6,.ls 14 0 [b12_,b13_,b2_,b3_,b14_,b15_,b4_,b5_,b6_,b7_,b22_,b23_].length),(7,.ls 15 0 [b16_,b8_,b17_,b9_,b10_,b0_,b1_,b20_,b19_].length),(8,.d (.int .i64 (wI p0))),(40,.d (.bool ((wI p0)==(27:Int))))],[(13,.sl false 1 ([b26_,b25_,b24_,b18_,b21_]:List ByteArray).length (fl eS ([b26_,b25_,b24_,b18_,b21_]:List ByteArray))),(14,.sl false 1 [b12_,b13_,b2_,b3_,b14_,b15_,b4_,b5_,b6_,b7_,b22_,b23_].length (fl eS [b12_,b13_,b2_,b3_,b14_,b15_,b4_,b5_,b6_,b7_,b22_,b23_])),(15,.sl false 1 [b16_,b8_,b17_,b9_,b10_,b0_,b1_,b20_,b19_].length (fl eS [b16_,b8_,b17_,b9_,b10_,b0_,b1_,b20_,b19_]))]⟩ (a_ t_ t_) ?_
    refine AW2.cond (b:=((wI p0)==(27:Int))) rfl (fun hc => ?_) (fun hc => ?_)
    ·replace H:=zae H hc
     refine AW2.seq ?_
     refine r_ [] [2] [] [] ⟨[(2,.d (.str b80_))],[]⟩ (a_ t_ t_) ?_
     refine AW2.ret ?_
     have H:=Option.some.inj H
     subst H
     exact retP_mk2 t_ (by kernel_rfl)
    ·replace H:=zaf H hc
     refine AW2.seq ?_
     refine AW2.reg [] rfl (YW.to ⟨[(0,.d (.int .u8 p0)),(5,.ls 13 0 ([b26_,b25_,b24_,b18_,b21_]:List ByteArray).length),(6,.ls 14 0 [b12_,b13_,b2_,b3_,b14_,b15_,b4_,b5_,b6_,b7_,b22_,b23_].length),(7,.ls 15 0 [b16_,b8_,b17_,b9_,b10_,b0_,b1_,b20_,b19_].length),(8,.d (.int .i64 (wI p0))),(43,.d (.bool ((decide ((wI p0)≥(32:Int)))&&(decide ((wI p0)≤(36:Int))))))],[(13,.sl false 1 ([b26_,b25_,b24_,b18_,b21_]:List ByteArray).length (fl eS ([b26_,b25_,b24_,b18_,b21_]:List ByteArray))),(14,.sl false 1 [b12_,b13_,b2_,b3_,b14_,b15_,b4_,b5_,b6_,b7_,b22_,b23_].length (fl eS [b12_,b13_,b2_,b3_,b14_,b15_,b4_,b5_,b6_,b7_,b22_,b23_])),(15,.sl false 1 [b16_,b8_,b17_,b9_,b10_,b0_,b1_,b20_,b19_].length (fl eS [b16_,b8_,b17_,b9_,b10_,b0_,b1_,b20_,b19_]))]⟩ ?qh12 ?h12)
     case h12 => 
      rcases bT (decide ((wI p0)≥(32:Int))) with hc1 | hc1
      ·exact YW.fin [(46,true)] [] [0,5,6,7,8,43] [(43,.d (.bool ((decide ((wI p0)≥(32:Int)))&&(decide ((wI p0)≤(36:Int))))))] [.k 13,.k 14,.k 15] _ (a_ (a_ hc1 (a_ hc1 (a_ hc1 t_))) (a_ (ovB (Eq.trans (andT (b:=(decide ((wI p0)≤(36:Int)))) hc1) (Eq.refl (decide ((wI p0)≤(36:Int)))))) t_)) (by kernel_rfl) rfl
      ·exact YW.fin [(46,false)] [] [0,5,6,7,8,43] [(43,.d (.bool ((decide ((wI p0)≥(32:Int)))&&(decide ((wI p0)≤(36:Int))))))] [.k 13,.k 14,.k 15] _ (a_ (a_ hc1 (a_ hc1 (a_ hc1 t_))) (a_ (ovB (andF (b:=(decide ((wI p0)≤(36:Int)))) hc1)) t_)) (by kernel_rfl) rfl
     refine AW2.cond (b:=((decide ((wI p0)≥(32:Int)))&&(decide ((wI p0)≤(36:Int))))) rfl (fun hc => ?_) (fun hc => ?_)
     ·replace H:=zae H hc
      refine AW2.seq ?_
      obtain ⟨h3,H⟩:=zad H
      refine r_ [] [2] [] [] ⟨[(2,.d (.str (([b26_,b25_,b24_,b18_,b21_]:List ByteArray).getD ((wI ((wI p0) - 32)).toNat) default)))],[]⟩ (a_ (a_ h3 (a_ (ixN h3) (a_ (ixN h3) t_))) t_) ?_
      refine AW2.ret ?_
      have H:=Option.some.inj H
      subst H
      exact retP_mk2 t_ (by kernel_rfl)
     ·replace H:=zaf H hc
      refine AW2.seq ?_
      refine r_ [] [0,6,7,8,55] [] [.k 14,.k 15] ⟨[(0,.d (.int .u8 p0)),(6,.ls 14 0 [b12_,b13_,b2_,b3_,b14_,b15_,b4_,b5_,b6_,b7_,b22_,b23_].length),(7,.ls 15 0 [b16_,b8_,b17_,b9_,b10_,b0_,b1_,b20_,b19_].length),(8,.d (.int .i64 (wI p0))),(55,.d (.bool ((wI p0)==(40:Int))))],[(14,.sl false 1 [b12_,b13_,b2_,b3_,b14_,b15_,b4_,b5_,b6_,b7_,b22_,b23_].length (fl eS [b12_,b13_,b2_,b3_,b14_,b15_,b4_,b5_,b6_,b7_,b22_,b23_])),(15,.sl false 1 [b16_,b8_,b17_,b9_,b10_,b0_,b1_,b20_,b19_].length (fl eS [b16_,b8_,b17_,b9_,b10_,b0_,b1_,b20_,b19_]))]⟩ (a_ t_ t_) ?_
      refine AW2.cond (b:=((wI p0)==(40:Int))) rfl (fun hc => ?_) (fun hc => ?_)
      ·replace H:=zae H hc
       refine AW2.seq ?_
       refine r_ [] [2] [] [] ⟨[(2,.d (.str b78_))],[]⟩ (a_ t_ t_) ?_
       refine AW2.ret ?_
       have H:=Option.some.inj H
       subst H
       exact retP_mk2 t_ (by kernel_rfl)
      ·replace H:=zaf H hc
       refine AW2.seq ?_
       refine r_ [] [0,6,7,8,58] [] [.k 14,.k 15] ⟨[(0,.d (.int .u8 p0)),(6,.ls 14 0 [b12_,b13_,b2_,b3_,b14_,b15_,b4_,b5_,b6_,b7_,b22_,b23_].length),(7,.ls 15 0 [b16_,b8_,b17_,b9_,b10_,b0_,b1_,b20_,b19_].length),(8,.d (.int .i64 (wI p0))),(58,.d (.bool ((wI p0)==(41:Int))))],[(14,.sl false 1 [b12_,b13_,b2_,b3_,b14_,b15_,b4_,b5_,b6_,b7_,b22_,b23_].length (fl eS [b12_,b13_,b2_,b3_,b14_,b15_,b4_,b5_,b6_,b7_,b22_,b23_])),(15,.sl false 1 [b16_,b8_,b17_,b9_,b10_,b0_,b1_,b20_,b19_].length (fl eS [b16_,b8_,b17_,b9_,b10_,b0_,b1_,b20_,b19_]))]⟩ (a_ t_ t_) ?_
       refine AW2.cond (b:=((wI p0)==(41:Int))) rfl (fun hc => ?_) (fun hc => ?_)
       ·replace H:=zae H hc
        refine AW2.seq ?_
        refine r_ [] [2] [] [] ⟨[(2,.d (.str b77_))],[]⟩ (a_ t_ t_) ?_
        refine AW2.ret ?_
        have H:=Option.some.inj H
        subst H
        exact retP_mk2 t_ (by kernel_rfl)
       ·replace H:=zaf H hc
        refine AW2.seq ?_
        refine AW2.reg [] rfl (YW.to ⟨[(0,.d (.int .u8 p0)),(6,.ls 14 0 [b12_,b13_,b2_,b3_,b14_,b15_,b4_,b5_,b6_,b7_,b22_,b23_].length),(7,.ls 15 0 [b16_,b8_,b17_,b9_,b10_,b0_,b1_,b20_,b19_].length),(8,.d (.int .i64 (wI p0))),(61,.d (.bool ((decide ((wI p0)≥(44:Int)))&&(decide ((wI p0)≤(55:Int))))))],[(14,.sl false 1 [b12_,b13_,b2_,b3_,b14_,b15_,b4_,b5_,b6_,b7_,b22_,b23_].length (fl eS [b12_,b13_,b2_,b3_,b14_,b15_,b4_,b5_,b6_,b7_,b22_,b23_])),(15,.sl false 1 [b16_,b8_,b17_,b9_,b10_,b0_,b1_,b20_,b19_].length (fl eS [b16_,b8_,b17_,b9_,b10_,b0_,b1_,b20_,b19_]))]⟩ ?qh11 ?h11)
        case h11 => 
         rcases bT (decide ((wI p0)≥(44:Int))) with hc1 | hc1
         ·exact YW.fin [(64,true)] [] [0,6,7,8,61] [(61,.d (.bool ((decide ((wI p0)≥(44:Int)))&&(decide ((wI p0)≤(55:Int))))))] [.k 14,.k 15] _ (a_ (a_ hc1 (a_ hc1 (a_ hc1 t_))) (a_ (ovB (Eq.trans (andT (b:=(decide ((wI p0)≤(55:Int)))) hc1) (Eq.refl (decide ((wI p0)≤(55:Int)))))) t_)) (by kernel_rfl) rfl
         ·exact YW.fin [(64,false)] [] [0,6,7,8,61] [(61,.d (.bool ((decide ((wI p0)≥(44:Int)))&&(decide ((wI p0)≤(55:Int))))))] [.k 14,.k 15] _ (a_ (a_ hc1 (a_ hc1 (a_ hc1 t_))) (a_ (ovB (andF (b:=(decide ((wI p0)≤(55:Int)))) hc1)) t_)) (by kernel_rfl) rfl
        refine AW2.cond (b:=((decide ((wI p0)≥(44:Int)))&&(decide ((wI p0)≤(55:Int))))) rfl (fun hc => ?_) (fun hc => ?_)
        ·replace H:=zae H hc
         refine AW2.seq ?_
         obtain ⟨h4,H⟩:=zad H
         refine r_ [] [2] [] [] ⟨[(2,.d (.str ([b12_,b13_,b2_,b3_,b14_,b15_,b4_,b5_,b6_,b7_,b22_,b23_].getD ((wI ((wI p0) - 44)).toNat) default)))],[]⟩ (a_ (a_ h4 (a_ (ixN h4) (a_ (ixN h4) t_))) t_) ?_
         refine AW2.ret ?_
         have H:=Option.some.inj H
         subst H
         exact retP_mk2 t_ (by kernel_rfl)
        ·replace H:=zaf H hc
         refine AW2.seq ?_
         refine AW2.reg [] rfl (YW.to ⟨[(0,.d (.int .u8 p0)),(7,.ls 15 0 [b16_,b8_,b17_,b9_,b10_,b0_,b1_,b20_,b19_].length),(8,.d (.int .i64 (wI p0))),(73,.d (.bool ((decide ((wI p0)≥(58:Int)))&&(decide ((wI p0)≤(66:Int))))))],[(15,.sl false 1 [b16_,b8_,b17_,b9_,b10_,b0_,b1_,b20_,b19_].length (fl eS [b16_,b8_,b17_,b9_,b10_,b0_,b1_,b20_,b19_]))]⟩ ?qh10 ?h10)
         case h10 => 
          rcases bT (decide ((wI p0)≥(58:Int))) with hc1 | hc1
          ·exact YW.fin [(76,true)] [] [0,7,8,73] [(73,.d (.bool ((decide ((wI p0)≥(58:Int)))&&(decide ((wI p0)≤(66:Int))))))] [.k 15] _ (a_ (a_ hc1 (a_ hc1 (a_ hc1 t_))) (a_ (ovB (Eq.trans (andT (b:=(decide ((wI p0)≤(66:Int)))) hc1) (Eq.refl (decide ((wI p0)≤(66:Int)))))) t_)) (by kernel_rfl) rfl
          ·exact YW.fin [(76,false)] [] [0,7,8,73] [(73,.d (.bool ((decide ((wI p0)≥(58:Int)))&&(decide ((wI p0)≤(66:Int))))))] [.k 15] _ (a_ (a_ hc1 (a_ hc1 (a_ hc1 t_))) (a_ (ovB (andF (b:=(decide ((wI p0)≤(66:Int)))) hc1)) t_)) (by kernel_rfl) rfl
         refine AW2.cond (b:=((decide ((wI p0)≥(58:Int)))&&(decide ((wI p0)≤(66:Int))))) rfl (fun hc => ?_) (fun hc => ?_)
         ·replace H:=zae H hc
          refine AW2.seq ?_
          obtain ⟨h5,H⟩:=zad H
          refine r_ [] [2] [] [] ⟨[(2,.d (.str ([b16_,b8_,b17_,b9_,b10_,b0_,b1_,b20_,b19_].getD ((wI ((wI p0) - 58)).toNat) default)))],[]⟩ (a_ (a_ h5 (a_ (ixN h5) (a_ (ixN h5) t_))) t_) ?_
          refine AW2.ret ?_
          have H:=Option.some.inj H
          subst H
          exact retP_mk2 t_ (by kernel_rfl)
         ·replace H:=zaf H hc
          refine AW2.seq ?_
          refine r_ [] [0,8,85] [] [] ⟨[(0,.d (.int .u8 p0)),(8,.d (.int .i64 (wI p0))),(85,.d (.bool ((wI p0)==(167:Int))))],[]⟩ (a_ t_ t_) ?_
          refine AW2.cond (b:=((wI p0)==(167:Int))) rfl (fun hc => ?_) (fun hc => ?_)
          ·replace H:=zae H hc
           refine AW2.seq ?_
           refine r_ [] [2] [] [] ⟨[(2,.d (.str b71_))],[]⟩ (a_ t_ t_) ?_
           refine AW2.ret ?_
           have H:=Option.some.inj H
           subst H
           exact retP_mk2 t_ (by kernel_rfl)
          ·replace H:=zaf H hc
           refine AW2.seq ?_
           refine r_ [] [0,8,88] [] [] ⟨[(0,.d (.int .u8 p0)),(8,.d (.int .i64 (wI p0))),(88,.d (.bool ((wI p0)==(172:Int))))],[]⟩ (a_ t_ t_) ?_
           refine AW2.cond (b:=((wI p0)==(172:Int))) rfl (fun hc => ?_) (fun hc => ?_)
           ·replace H:=zae H hc
            refine AW2.seq ?_
            refine r_ [] [2] [] [] ⟨[(2,.d (.str b64_))],[]⟩ (a_ t_ t_) ?_
            refine AW2.ret ?_
            have H:=Option.some.inj H
            subst H
            exact retP_mk2 t_ (by kernel_rfl)
           ·replace H:=zaf H hc
            refine AW2.seq ?_
            refine r_ [] [0,91] [] [] ⟨[(0,.d (.int .u8 p0)),(91,.d (.bool ((wI p0)==(173:Int))))],[]⟩ (a_ t_ t_) ?_
            refine AW2.cond (b:=((wI p0)==(173:Int))) rfl (fun hc => ?_) (fun hc => ?_)
            ·replace H:=zae H hc
             refine AW2.seq ?_
             refine r_ [] [2] [] [] ⟨[(2,.d (.str b63_))],[]⟩ (a_ t_ t_) ?_
             refine AW2.ret ?_
             have H:=Option.some.inj H
             subst H
             exact retP_mk2 t_ (by kernel_rfl)
            ·replace H:=zaf H hc
             refine AW2.skip ?_
             refine AW2.seq ?_
             obtain ⟨x6,hx7,H⟩:=bind_some H
             refine r_ [.r (.tup [.str x6.1,.int .i64 x6.2])] [9,10] [] [] ⟨[(9,.d (.str x6.1)),(10,.d (.int .i64 x6.2))],[]⟩ (a_ (a_ (zpw p0 x6 hx7) t_) t_) ?_
             refine AW2.seq ?_
             refine AW2.seq ?_
             refine r_ [] [9,10,100] [] [] ⟨[(9,.d (.str x6.1)),(10,.d (.int .i64 x6.2)),(100,.d (.bool (x6.1.toList==b155_.toList)))],[]⟩ (a_ t_ t_) ?_
             refine AW2.cond (b:=(x6.1.toList==b155_.toList)) rfl (fun hc => ?_) (fun hc => ?_)
             ·replace H:=zae H hc
              refine AW2.seq ?_
              refine r_ [] [2] [] [] ⟨[(2,.d (.str b155_))],[]⟩ (a_ t_ t_) ?_
              refine AW2.ret ?_
              have H:=Option.some.inj H
              subst H
              exact retP_mk2 t_ (by kernel_rfl)
             ·replace H:=zaf H hc
              refine AW2.skip ?_
              refine AW2.seq ?_
              refine AW2.seq ?_
              refine r_ [] [9,102] [] [] ⟨[(9,.d (.str x6.1)),(102,.d (.bool (x6.2==(32:Int))))],[]⟩ (a_ t_ t_) ?_
              refine AW2.cond (b:=(x6.2==(32:Int))) rfl (fun hc => ?_) (fun hc => ?_)
              ·replace H:=zae H hc
               refine AW2.seq ?_
               obtain ⟨h8,H⟩:=zad H
               refine r_ [] [2] [] [] ⟨[(2,.d (.str (b86_++x6.1)))],[]⟩ (a_ (a_ h8 t_) t_) ?_
               refine AW2.ret ?_
               have H:=Option.some.inj H
               subst H
               exact retP_mk2 t_ (by kernel_rfl)
              ·replace H:=zaf H hc
               refine AW2.skip ?_
               refine AW2.seq ?_
               obtain ⟨h9,H⟩:=zad H
               refine r_ [] [2] [] [] ⟨[(2,.d (.str (b74_++x6.1)))],[]⟩ (a_ (a_ h9 t_) t_) ?_
               refine AW2.ret ?_
               have H:=Option.some.inj H
               subst H
               exact retP_mk2 t_ (by kernel_rfl)
def zcX (p0:ByteArray) (p1:ByteArray):Option (Bool):=(if (decide ((p0.size:Int)≥(p1.size:Int)))=true then gd (0≤(0:Int)∧(0:Int)≤(p1.size:Int)∧(p1.size:Int)≤(p0.size:Int)) (some ((ByteArray.extract p0 (0:Int).toNat ((p1.size:Int):Int).toNat).toList==p1.toList)) else some false).bind (fun j2 => some j2)
theorem zbH (p0:ByteArray) (p1:ByteArray) (r:Bool) (H:zcX p0 p1=some r):CF E 82 [.str p0,.str p1] (.bool r):=by
 refine zbi (A:=zuQ) zyL rfl fun fr => ?_
 unfold zcX at H
 refine AW2.seq ?_
 refine r_ [] [0,1] [] [] ⟨[(0,.d (.str p0)),(1,.d (.str p1))],[]⟩ (a_ t_ t_) ?_
 refine AW2.seq ?_
 obtain ⟨j2,H4,H⟩:=bind_some H
 refine AW2.reg [] rfl (YW.to ⟨[(4,.d (.bool j2))],[]⟩ ?qh5 ?h5)
 case h5 => 
  have H:=H4
  rcases bT (decide ((p0.size:Int)≥(p1.size:Int))) with hc1 | hc1
  ·replace H:=zae H hc1
   obtain ⟨h1,H⟩:=zad H
   have H:=Option.some.inj H
   subst H
   exact YW.fin [(10,true)] [] [4] [] [] _ (a_ (a_ hc1 (a_ hc1 (a_ hc1 (a_ hc1 (a_ h1 (a_ hc1 (a_ hc1 (a_ hc1 t_)))))))) t_) (by kernel_rfl) rfl
  ·replace H:=zaf H hc1
   have H:=Option.some.inj H
   subst H
   exact YW.fin [(10,false)] [] [4] [] [] _ (a_ (a_ hc1 (a_ hc1 (a_ hc1 (a_ hc1 (a_ hc1 (a_ hc1 (a_ hc1 t_))))))) t_) (by kernel_rfl) rfl
 refine AW2.ret ?_
 have H:=Option.some.inj H
 subst H
 exact retP_mk2 t_ (by kernel_rfl)
def zcY (p0:Int):Option (Int×Bool):=((zeY p0).bind fun x1 => (if (x1.toList==b155_.toList)=true then some (0,false) else (if (x1.toList==b20_.toList)=true then some (1,true) else (if (x1.toList==b19_.toList)=true then some (2,true) else (if (x1.toList==b67_.toList)=true then some (x1.toList==b67_.toList) else (if (x1.toList==b37_.toList)=true then some (x1.toList==b37_.toList) else (if (x1.toList==b44_.toList)=true then some (x1.toList==b44_.toList) else (if (x1.toList==b26_.toList)=true then some (x1.toList==b26_.toList) else (if (x1.toList==b25_.toList)=true then some (x1.toList==b25_.toList) else (if (x1.toList==b24_.toList)=true then some (x1.toList==b24_.toList) else (if (x1.toList==b18_.toList)=true then some (x1.toList==b18_.toList) else some (x1.toList==b21_.toList)))))))).bind (fun j3 => (if j3=true then some (3,true) else (if (x1.toList==b0_.toList)=true then some (x1.toList==b0_.toList) else some (x1.toList==b1_.toList)).bind (fun j4 => (if j4=true then some (5,true) else (if (x1.toList==b38_.toList)=true then some (x1.toList==b38_.toList) else some (x1.toList==b43_.toList)).bind (fun j5 => (if j5=true then some (6,true) else (if (x1.toList==b65_.toList)=true then some (7,true) else (if (x1.toList==b29_.toList)=true then some (8,true) else (if (x1.toList==b11_.toList)=true then some (9,true) else gd (0≤(1:Int)∧(1:Int)≤(x1.size:Int)∧(x1.size:Int)≤(x1.size:Int)) ((zcX (ByteArray.extract x1 (1:Int).toNat ((x1.size:Int):Int).toNat) b73_).bind fun x7 => (if x7=true then some true else gd (0≤(1:Int)∧(1:Int)≤(x1.size:Int)∧(x1.size:Int)≤(x1.size:Int)) ((zcX (ByteArray.extract x1 (1:Int).toNat ((x1.size:Int):Int).toNat) b75_).bind fun x10 => (if x10=true then some true else gd (0≤(1:Int)∧(1:Int)≤(x1.size:Int)∧(x1.size:Int)≤(x1.size:Int)) ((zcX (ByteArray.extract x1 (1:Int).toNat ((x1.size:Int):Int).toNat) b76_).bind fun x13 => (if x13=true then some true else gd (0≤(1:Int)∧(1:Int)≤(x1.size:Int)∧(x1.size:Int)≤(x1.size:Int)) ((zcX (ByteArray.extract x1 (1:Int).toNat ((x1.size:Int):Int).toNat) b81_).bind fun x16 => some x16)))))).bind (fun j18 => (if j18=true then some (4,true) else some (0,true)))))))))))))))))
theorem zkk (p0:Int) (r:Int×Bool) (H:zcY p0=some r):CF E 62 [.int .u8 p0] (.tup [.int .i64 r.1,.bool r.2]):=by
 refine zbi (A:=zpK) zxF rfl fun fr => ?_
 unfold zcY at H
 refine AW2.seq ?_
 refine r_ [] [0] [] [] ⟨[(0,.d (.int .u8 p0))],[]⟩ (a_ t_ t_) ?_
 refine AW2.seq ?_
 obtain ⟨x1,hx2,H⟩:=bind_some H
 refine r_ [.r (.str x1)] [4] [] [] ⟨[(4,.d (.str x1))],[]⟩ (a_ (a_ (zkj p0 x1 hx2) t_) t_) ?_
 refine AW2.seq ?_
 refine AW2.seq ?_
 refine r_ [] [4,8] [] [] ⟨[(4,.d (.str x1)),(8,.d (.bool (x1.toList==b155_.toList)))],[]⟩ (a_ t_ t_) ?_
 refine AW2.cond (b:=(x1.toList==b155_.toList)) rfl (fun hc => ?_) (fun hc => ?_)
 ·replace H:=zae H hc
  refine AW2.seq ?_
  refine r_ [] [2,3] [] [] ⟨[(2,.d (.int .i64 0)),(3,.d (.bool false))],[]⟩ (a_ t_ t_) ?_
  refine AW2.ret ?_
  have H:=Option.some.inj H
  subst H
  exact retP_mk2 t_ (by kernel_rfl)
 ·replace H:=zaf H hc
  refine AW2.skip ?_
  refine AW2.seq ?_
  refine AW2.seq ?_
  refine r_ [] [4,9] [] [] ⟨[(4,.d (.str x1)),(9,.d (.str x1))],[]⟩ (a_ t_ t_) ?_
  refine AW2.block ?_
  refine AW2.seq ?_
  refine r_ [] [4,9,10] [] [] ⟨[(4,.d (.str x1)),(9,.d (.str x1)),(10,.d (.bool (x1.toList==b20_.toList)))],[]⟩ (a_ t_ t_) ?_
  refine AW2.cond (b:=(x1.toList==b20_.toList)) rfl (fun hc => ?_) (fun hc => ?_)
  ·replace H:=zae H hc
   refine AW2.seq ?_
   refine r_ [] [2,3] [] [] ⟨[(2,.d (.int .i64 1)),(3,.d (.bool true))],[]⟩ (a_ t_ t_) ?_
   refine AW2.ret ?_
   have H:=Option.some.inj H
   subst H
   exact retP_mk2 t_ (by kernel_rfl)
  ·replace H:=zaf H hc
   refine AW2.seq ?_
   refine r_ [] [4,9,12] [] [] ⟨[(4,.d (.str x1)),(9,.d (.str x1)),(12,.d (.bool (x1.toList==b19_.toList)))],[]⟩ (a_ t_ t_) ?_
   refine AW2.cond (b:=(x1.toList==b19_.toList)) rfl (fun hc => ?_) (fun hc => ?_)
   ·replace H:=zae H hc
    refine AW2.seq ?_
    refine r_ [] [2,3] [] [] ⟨[(2,.d (.int .i64 2)),(3,.d (.bool true))],[]⟩ (a_ t_ t_) ?_
    refine AW2.ret ?_
    have H:=Option.some.inj H
    subst H
    exact retP_mk2 t_ (by kernel_rfl)
   ·replace H:=zaf H hc
    obtain ⟨j3,H27,H⟩:=bind_some H
    refine AW2.mid ⟨[(4,.d (.str x1)),(9,.d (.str x1)),(14,.d (.bool j3))],[]⟩ ?_ ?_
    ·refine AW2.cond (b:=j3) rfl (fun hc => ?_) (fun hc => ?_)
     ·replace H:=zae H hc
      refine AW2.seq ?_
      refine r_ [] [2,3] [] [] ⟨[(2,.d (.int .i64 3)),(3,.d (.bool true))],[]⟩ (a_ t_ t_) ?_
      refine AW2.ret ?_
      have H:=Option.some.inj H
      subst H
      exact retP_mk2 t_ (by kernel_rfl)
     ·replace H:=zaf H hc
      obtain ⟨j4,H25,H⟩:=bind_some H
      refine AW2.mid ⟨[(4,.d (.str x1)),(9,.d (.str x1)),(23,.d (.bool j4))],[]⟩ ?_ ?_
      ·refine AW2.cond (b:=j4) rfl (fun hc => ?_) (fun hc => ?_)
       ·replace H:=zae H hc
        refine AW2.seq ?_
        refine r_ [] [2,3] [] [] ⟨[(2,.d (.int .i64 5)),(3,.d (.bool true))],[]⟩ (a_ t_ t_) ?_
        refine AW2.ret ?_
        have H:=Option.some.inj H
        subst H
        exact retP_mk2 t_ (by kernel_rfl)
       ·replace H:=zaf H hc
        obtain ⟨j5,H23,H⟩:=bind_some H
        refine AW2.mid ⟨[(4,.d (.str x1)),(9,.d (.str x1)),(26,.d (.bool j5))],[]⟩ ?_ ?_
        ·refine AW2.cond (b:=j5) rfl (fun hc => ?_) (fun hc => ?_)
         ·replace H:=zae H hc
          refine AW2.seq ?_
          refine r_ [] [2,3] [] [] ⟨[(2,.d (.int .i64 6)),(3,.d (.bool true))],[]⟩ (a_ t_ t_) ?_
          refine AW2.ret ?_
          have H:=Option.some.inj H
          subst H
          exact retP_mk2 t_ (by kernel_rfl)
         ·replace H:=zaf H hc
          refine AW2.seq ?_
          refine r_ [] [4,9,29] [] [] ⟨[(4,.d (.str x1)),(9,.d (.str x1)),(29,.d (.bool (x1.toList==b65_.toList)))],[]⟩ (a_ t_ t_) ?_
          refine AW2.cond (b:=(x1.toList==b65_.toList)) rfl (fun hc => ?_) (fun hc => ?_)
          ·replace H:=zae H hc
           refine AW2.seq ?_
           refine r_ [] [2,3] [] [] ⟨[(2,.d (.int .i64 7)),(3,.d (.bool true))],[]⟩ (a_ t_ t_) ?_
           refine AW2.ret ?_
           have H:=Option.some.inj H
           subst H
           exact retP_mk2 t_ (by kernel_rfl)
          ·replace H:=zaf H hc
           refine AW2.seq ?_
           refine r_ [] [4,9,31] [] [] ⟨[(4,.d (.str x1)),(9,.d (.str x1)),(31,.d (.bool (x1.toList==b29_.toList)))],[]⟩ (a_ t_ t_) ?_
           refine AW2.cond (b:=(x1.toList==b29_.toList)) rfl (fun hc => ?_) (fun hc => ?_)
           ·replace H:=zae H hc
            refine AW2.seq ?_
            refine r_ [] [2,3] [] [] ⟨[(2,.d (.int .i64 8)),(3,.d (.bool true))],[]⟩ (a_ t_ t_) ?_
            refine AW2.ret ?_
            have H:=Option.some.inj H
            subst H
            exact retP_mk2 t_ (by kernel_rfl)
           ·replace H:=zaf H hc
            refine AW2.seq ?_
            refine r_ [] [4,33] [] [] ⟨[(4,.d (.str x1)),(33,.d (.bool (x1.toList==b11_.toList)))],[]⟩ (a_ t_ t_) ?_
            refine AW2.cond (b:=(x1.toList==b11_.toList)) rfl (fun hc => ?_) (fun hc => ?_)
            ·replace H:=zae H hc
             refine AW2.seq ?_
             refine r_ [] [2,3] [] [] ⟨[(2,.d (.int .i64 9)),(3,.d (.bool true))],[]⟩ (a_ t_ t_) ?_
             refine AW2.ret ?_
             have H:=Option.some.inj H
             subst H
             exact retP_mk2 t_ (by kernel_rfl)
            ·replace H:=zaf H hc
             refine AW2.skip ?_
             refine AW2.seq ?_
             refine AW2.seq ?_
             obtain ⟨h6,H⟩:=zad H
             obtain ⟨x7,hx8,H⟩:=bind_some H
             obtain ⟨j18,H20,H⟩:=bind_some H
             refine AW2.reg [] rfl (YW.to ⟨[(52,.d (.bool j18))],[]⟩ ?qh21 ?h21)
             case h21 => 
              have H:=H20
              rcases bT x7 with hc1 | hc1
              ·replace H:=zae H hc1
               have H:=Option.some.inj H
               subst H
               exact YW.fin [(38,true),(43,true),(48,true)] [.r (.bool x7)] [52] [] [] _ (a_ (a_ h6 (a_ (zbH (ByteArray.extract x1 (1:Int).toNat ((x1.size:Int):Int).toNat) b73_ x7 hx8) (a_ hc1 (a_ hc1 (a_ hc1 (a_ hc1 (a_ (Eq.refl true) (a_ (Eq.refl true) (a_ (Eq.refl true) (a_ (Eq.refl true) (a_ (Eq.refl true) (a_ (Eq.refl true) (a_ (Eq.refl true) (a_ (Eq.refl true) t_)))))))))))))) t_) (by kernel_rfl) rfl
              ·replace H:=zaf H hc1
               obtain ⟨h9,H⟩:=zad H
               obtain ⟨x10,hx11,H⟩:=bind_some H
               rcases bT x10 with hc2 | hc2
               ·replace H:=zae H hc2
                have H:=Option.some.inj H
                subst H
                exact YW.fin [(38,false),(43,true),(48,true)] [.r (.bool x7),.r (.bool x10)] [52] [] [] _ (a_ (a_ h6 (a_ (zbH (ByteArray.extract x1 (1:Int).toNat ((x1.size:Int):Int).toNat) b73_ x7 hx8) (a_ hc1 (a_ hc1 (a_ h9 (a_ hc1 (a_ (zbH (ByteArray.extract x1 (1:Int).toNat ((x1.size:Int):Int).toNat) b75_ x10 hx11) (a_ hc1 (a_ hc2 (a_ hc2 (a_ hc2 (a_ hc2 (a_ (Eq.refl true) (a_ (Eq.refl true) (a_ (Eq.refl true) (a_ (Eq.refl true) t_)))))))))))))))) t_) (by kernel_rfl) rfl
               ·replace H:=zaf H hc2
                obtain ⟨h12,H⟩:=zad H
                obtain ⟨x13,hx14,H⟩:=bind_some H
                rcases bT x13 with hc3 | hc3
                ·replace H:=zae H hc3
                 have H:=Option.some.inj H
                 subst H
                 exact YW.fin [(38,false),(43,false),(48,true)] [.r (.bool x7),.r (.bool x10),.r (.bool x13)] [52] [] [] _ (a_ (a_ h6 (a_ (zbH (ByteArray.extract x1 (1:Int).toNat ((x1.size:Int):Int).toNat) b73_ x7 hx8) (a_ hc1 (a_ hc1 (a_ h9 (a_ hc1 (a_ (zbH (ByteArray.extract x1 (1:Int).toNat ((x1.size:Int):Int).toNat) b75_ x10 hx11) (a_ hc1 (a_ hc2 (a_ hc2 (a_ h12 (a_ hc2 (a_ (zbH (ByteArray.extract x1 (1:Int).toNat ((x1.size:Int):Int).toNat) b76_ x13 hx14) (a_ hc2 (a_ hc3 (a_ hc3 (a_ hc3 (a_ hc3 t_)))))))))))))))))) t_) (by kernel_rfl) rfl
                ·replace H:=zaf H hc3
                 obtain ⟨h15,H⟩:=zad H
                 obtain ⟨x16,hx17,H⟩:=bind_some H
                 have H:=Option.some.inj H
                 subst H
                 exact YW.fin [(38,false),(43,false),(48,false)] [.r (.bool x7),.r (.bool x10),.r (.bool x13),.r (.bool x16)] [52] [] [] _ (a_ (a_ h6 (a_ (zbH (ByteArray.extract x1 (1:Int).toNat ((x1.size:Int):Int).toNat) b73_ x7 hx8) (a_ hc1 (a_ hc1 (a_ h9 (a_ hc1 (a_ (zbH (ByteArray.extract x1 (1:Int).toNat ((x1.size:Int):Int).toNat) b75_ x10 hx11) (a_ hc1 (a_ hc2 (a_ hc2 (a_ h12 (a_ hc2 (a_ (zbH (ByteArray.extract x1 (1:Int).toNat ((x1.size:Int):Int).toNat) b76_ x13 hx14) (a_ hc2 (a_ hc3 (a_ hc3 (a_ h15 (a_ hc3 (a_ (zbH (ByteArray.extract x1 (1:Int).toNat ((x1.size:Int):Int).toNat) b81_ x16 hx17) (a_ hc3 t_)))))))))))))))))))) t_) (by kernel_rfl) rfl
             refine AW2.cond (b:=j18) rfl (fun hc => ?_) (fun hc => ?_)
             ·replace H:=zae H hc
              refine AW2.seq ?_
              refine r_ [] [2,3] [] [] ⟨[(2,.d (.int .i64 4)),(3,.d (.bool true))],[]⟩ (a_ t_ t_) ?_
              refine AW2.ret ?_
              have H:=Option.some.inj H
              subst H
              exact retP_mk2 t_ (by kernel_rfl)
             ·replace H:=zaf H hc
              refine AW2.skip ?_
              refine AW2.seq ?_
              refine r_ [] [2,3] [] [] ⟨[(2,.d (.int .i64 0)),(3,.d (.bool true))],[]⟩ (a_ t_ t_) ?_
              refine AW2.ret ?_
              have H:=Option.some.inj H
              subst H
              exact retP_mk2 t_ (by kernel_rfl)
        ·have H:=H23
         refine AW2.seq ?_
         refine r_ [] [4,9,26] [] [] ⟨[(4,.d (.str x1)),(9,.d (.str x1)),(26,.d (.bool (x1.toList==b38_.toList)))],[]⟩ (a_ t_ t_) ?_
         refine AW2.cond (b:=(x1.toList==b38_.toList)) rfl (fun hc => ?_) (fun hc => ?_)
         ·replace H:=zae H hc
          refine AW2.skip ?_
          have H:=Option.some.inj H
          subst H
          exact zam [4,9,26] [] [] t_ (by kernel_rfl)
         ·replace H:=zaf H hc
          refine r_ [] [4,9,26] [] [] ⟨[(4,.d (.str x1)),(9,.d (.str x1)),(26,.d (.bool (x1.toList==b43_.toList)))],[]⟩ (a_ t_ t_) ?_
          have H:=Option.some.inj H
          subst H
          exact zam [4,9,26] [] [] t_ (by kernel_rfl)
      ·have H:=H25
       refine AW2.seq ?_
       refine r_ [] [4,9,23] [] [] ⟨[(4,.d (.str x1)),(9,.d (.str x1)),(23,.d (.bool (x1.toList==b0_.toList)))],[]⟩ (a_ t_ t_) ?_
       refine AW2.cond (b:=(x1.toList==b0_.toList)) rfl (fun hc => ?_) (fun hc => ?_)
       ·replace H:=zae H hc
        refine AW2.skip ?_
        have H:=Option.some.inj H
        subst H
        exact zam [4,9,23] [] [] t_ (by kernel_rfl)
       ·replace H:=zaf H hc
        refine r_ [] [4,9,23] [] [] ⟨[(4,.d (.str x1)),(9,.d (.str x1)),(23,.d (.bool (x1.toList==b1_.toList)))],[]⟩ (a_ t_ t_) ?_
        have H:=Option.some.inj H
        subst H
        exact zam [4,9,23] [] [] t_ (by kernel_rfl)
    ·have H:=H27
     refine AW2.seq ?_
     refine r_ [] [4,9,14] [] [] ⟨[(4,.d (.str x1)),(9,.d (.str x1)),(14,.d (.bool (x1.toList==b67_.toList)))],[]⟩ (a_ t_ t_) ?_
     refine AW2.cond (b:=(x1.toList==b67_.toList)) rfl (fun hc => ?_) (fun hc => ?_)
     ·replace H:=zae H hc
      refine AW2.skip ?_
      have H:=Option.some.inj H
      subst H
      exact zam [4,9,14] [] [] t_ (by kernel_rfl)
     ·replace H:=zaf H hc
      refine AW2.seq ?_
      refine r_ [] [4,9,14] [] [] ⟨[(4,.d (.str x1)),(9,.d (.str x1)),(14,.d (.bool (x1.toList==b37_.toList)))],[]⟩ (a_ t_ t_) ?_
      refine AW2.cond (b:=(x1.toList==b37_.toList)) rfl (fun hc => ?_) (fun hc => ?_)
      ·replace H:=zae H hc
       refine AW2.skip ?_
       have H:=Option.some.inj H
       subst H
       exact zam [4,9,14] [] [] t_ (by kernel_rfl)
      ·replace H:=zaf H hc
       refine AW2.seq ?_
       refine r_ [] [4,9,14] [] [] ⟨[(4,.d (.str x1)),(9,.d (.str x1)),(14,.d (.bool (x1.toList==b44_.toList)))],[]⟩ (a_ t_ t_) ?_
       refine AW2.cond (b:=(x1.toList==b44_.toList)) rfl (fun hc => ?_) (fun hc => ?_)
       ·replace H:=zae H hc
        refine AW2.skip ?_
        have H:=Option.some.inj H
        subst H
        exact zam [4,9,14] [] [] t_ (by kernel_rfl)
       ·replace H:=zaf H hc
        refine AW2.seq ?_
        refine r_ [] [4,9,14] [] [] ⟨[(4,.d (.str x1)),(9,.d (.str x1)),(14,.d (.bool (x1.toList==b26_.toList)))],[]⟩ (a_ t_ t_) ?_
        refine AW2.cond (b:=(x1.toList==b26_.toList)) rfl (fun hc => ?_) (fun hc => ?_)
        ·replace H:=zae H hc
         refine AW2.skip ?_
         have H:=Option.some.inj H
         subst H
         exact zam [4,9,14] [] [] t_ (by kernel_rfl)
        ·replace H:=zaf H hc
         refine AW2.seq ?_
         refine r_ [] [4,9,14] [] [] ⟨[(4,.d (.str x1)),(9,.d (.str x1)),(14,.d (.bool (x1.toList==b25_.toList)))],[]⟩ (a_ t_ t_) ?_
         refine AW2.cond (b:=(x1.toList==b25_.toList)) rfl (fun hc => ?_) (fun hc => ?_)
         ·replace H:=zae H hc
          refine AW2.skip ?_
          have H:=Option.some.inj H
          subst H
          exact zam [4,9,14] [] [] t_ (by kernel_rfl)
         ·replace H:=zaf H hc
          refine AW2.seq ?_
          refine r_ [] [4,9,14] [] [] ⟨[(4,.d (.str x1)),(9,.d (.str x1)),(14,.d (.bool (x1.toList==b24_.toList)))],[]⟩ (a_ t_ t_) ?_
          refine AW2.cond (b:=(x1.toList==b24_.toList)) rfl (fun hc => ?_) (fun hc => ?_)
          ·replace H:=zae H hc
           refine AW2.skip ?_
           have H:=Option.some.inj H
           subst H
           exact zam [4,9,14] [] [] t_ (by kernel_rfl)
          ·replace H:=zaf H hc
           refine AW2.seq ?_
           refine r_ [] [4,9,14] [] [] ⟨[(4,.d (.str x1)),(9,.d (.str x1)),(14,.d (.bool (x1.toList==b18_.toList)))],[]⟩ (a_ t_ t_) ?_
           refine AW2.cond (b:=(x1.toList==b18_.toList)) rfl (fun hc => ?_) (fun hc => ?_)
           ·replace H:=zae H hc
            refine AW2.skip ?_
            have H:=Option.some.inj H
            subst H
            exact zam [4,9,14] [] [] t_ (by kernel_rfl)
           ·replace H:=zaf H hc
            refine r_ [] [4,9,14] [] [] ⟨[(4,.d (.str x1)),(9,.d (.str x1)),(14,.d (.bool (x1.toList==b21_.toList)))],[]⟩ (a_ t_ t_) ?_
            have H:=Option.some.inj H
            subst H
            exact zam [4,9,14] [] [] t_ (by kernel_rfl)
def zgF (p0:ByteArray):Option (Int):=((zcX p0 b74_).bind fun x1 => (if x1=true then some 126 else some 127))
theorem zpv (p0:ByteArray) (r:Int) (H:zgF p0=some r):CF E 81 [.str p0] (.int .u8 r):=by
 refine zbi (A:=zpJ) zxE rfl fun fr => ?_
 unfold zgF at H
 refine AW2.seq ?_
 refine r_ [] [0] [] [] ⟨[(0,.d (.str p0))],[]⟩ (a_ t_ t_) ?_
 refine AW2.seq ?_
 refine AW2.seq ?_
 obtain ⟨x1,hx2,H⟩:=bind_some H
 refine r_ [.r (.bool x1)] [4] [] [] ⟨[(4,.d (.bool x1))],[]⟩ (a_ (a_ (zbH p0 b74_ x1 hx2) t_) t_) ?_
 refine AW2.cond (b:=x1) rfl (fun hc => ?_) (fun hc => ?_)
 ·replace H:=zae H hc
  refine AW2.seq ?_
  refine r_ [] [2] [] [] ⟨[(2,.d (.int .u8 126))],[]⟩ (a_ t_ t_) ?_
  refine AW2.ret ?_
  have H:=Option.some.inj H
  subst H
  exact retP_mk2 t_ (by kernel_rfl)
 ·replace H:=zaf H hc
  refine AW2.skip ?_
  refine AW2.seq ?_
  refine r_ [] [2] [] [] ⟨[(2,.d (.int .u8 127))],[]⟩ (a_ t_ t_) ?_
  refine AW2.ret ?_
  have H:=Option.some.inj H
  subst H
  exact retP_mk2 t_ (by kernel_rfl)
def zeX (p0:Int):Option (List Int×Int×Bool):=((zeY p0).bind fun x1 => (if ((x1.toList==b155_.toList)||(decide (p0≤(36:Int))))=true then some (([]:List Int),0,false) else ((zgF x1).bind fun x3 => ((zcY p0).bind fun x5 => (if ((x5.1==(1:Int))||(x5.1==(2:Int)))=true then some (([]:List Int),x3,true) else (if (x1.toList==b0_.toList)=true then some (([]:List Int),127,true) else (if (x1.toList==b1_.toList)=true then some (([127]:List Int),127,true) else (if (x5.1==(4:Int))=true then gd (0≤(4:Int)∧(4:Int)≤(x1.size:Int)∧(x1.size:Int)≤(x1.size:Int)) ((zcX (ByteArray.extract x1 (4:Int).toNat ((x1.size:Int):Int).toNat) b87_).bind fun x8 => some x8) else some false).bind (fun j10 => (if j10=true then some (([127]:List Int),x3,true) else (if (x5.1==(4:Int))=true then some (([127,x3]:List Int),0,true) else ((zgG p0).bind fun x11 => (if (x11.2==(64:Int))=true then some 126 else some 127).bind (fun j13 => (if (x11.1.toList==b79_.toList)=true then some (([126]:List Int),127,true) else (if (x11.1.toList==b61_.toList)=true then some (x11.1.toList==b61_.toList) else some (x11.1.toList==b68_.toList)).bind (fun j14 => (if j14=true then some (([127]:List Int),126,true) else (if (x11.1.toList==b59_.toList)=true then some (([j13]:List Int),127,true) else (if (x11.1.toList==b42_.toList)=true then some (x11.1.toList==b42_.toList) else (if (x11.1.toList==b41_.toList)=true then some (x11.1.toList==b41_.toList) else some (x11.1.toList==b27_.toList))).bind (fun j15 => (if j15=true then some (([j13]:List Int),j13,true) else (if (x11.1.toList==b70_.toList)=true then some (x11.1.toList==b70_.toList) else (if (x11.1.toList==b69_.toList)=true then some (x11.1.toList==b69_.toList) else (if (x11.1.toList==b54_.toList)=true then some (x11.1.toList==b54_.toList) else (if (x11.1.toList==b53_.toList)=true then some (x11.1.toList==b53_.toList) else (if (x11.1.toList==b52_.toList)=true then some (x11.1.toList==b52_.toList) else (if (x11.1.toList==b51_.toList)=true then some (x11.1.toList==b51_.toList) else (if (x11.1.toList==b50_.toList)=true then some (x11.1.toList==b50_.toList) else (if (x11.1.toList==b49_.toList)=true then some (x11.1.toList==b49_.toList) else (if (x11.1.toList==b48_.toList)=true then some (x11.1.toList==b48_.toList) else some (x11.1.toList==b58_.toList)))))))))).bind (fun j16 => (if j16=true then some (([j13,j13]:List Int),127,true) else some (([j13,j13]:List Int),j13,true)))))))))))))))))))))
theorem zyS (p0:Int) (r:List Int×Int×Bool) (H:zeX p0=some r):CF E 61 [.int .u8 p0] (.tup [sV (eI .u8) r.1,.int .u8 r.2.1,.bool r.2.2]):=by
 refine zbi (A:=zpH) zxC rfl fun fr => ?_
 unfold zeX at H
 refine AW2.seq ?_
 refine r_ [] [0] [] [] ⟨[(0,.d (.int .u8 p0))],[]⟩ (a_ t_ t_) ?_
 refine AW2.seq ?_
 obtain ⟨x1,hx2,H⟩:=bind_some H
 refine r_ [.r (.str x1)] [0,5] [] [] ⟨[(0,.d (.int .u8 p0)),(5,.d (.str x1))],[]⟩ (a_ (a_ (zkj p0 x1 hx2) t_) t_) ?_
 refine AW2.seq ?_
 refine AW2.seq ?_
 refine AW2.reg [] rfl (YW.to ⟨[(0,.d (.int .u8 p0)),(5,.d (.str x1)),(19,.d (.bool ((x1.toList==b155_.toList)||(decide (p0≤(36:Int))))))],[]⟩ ?qh29 ?h29)
 case h29 => 
  rcases bT (x1.toList==b155_.toList) with hc1 | hc1
  ·exact YW.fin [(16,true)] [] [0,5,19] [(19,.d (.bool ((x1.toList==b155_.toList)||(decide (p0≤(36:Int))))))] [] _ (a_ (a_ hc1 (a_ hc1 (a_ hc1 t_))) (a_ (ovB (orT (b:=(decide (p0≤(36:Int)))) hc1)) t_)) (by kernel_rfl) rfl
  ·exact YW.fin [(16,false)] [] [0,5,19] [(19,.d (.bool ((x1.toList==b155_.toList)||(decide (p0≤(36:Int))))))] [] _ (a_ (a_ hc1 (a_ hc1 (a_ hc1 t_))) (a_ (ovB (Eq.trans (orF (b:=(decide (p0≤(36:Int)))) hc1) (Eq.refl (decide (p0≤(36:Int)))))) t_)) (by kernel_rfl) rfl
 refine AW2.cond (b:=((x1.toList==b155_.toList)||(decide (p0≤(36:Int))))) rfl (fun hc => ?_) (fun hc => ?_)
 ·replace H:=zae H hc
  refine AW2.seq ?_
  refine r_ [] [2,3,4] [] [] ⟨[(2,.d .nils),(3,.d (.int .u8 0)),(4,.d (.bool false))],[]⟩ (a_ t_ t_) ?_
  refine AW2.ret ?_
  have H:=Option.some.inj H
  subst H
  exact retP_mk2 t_ (by kernel_rfl)
 ·replace H:=zaf H hc
  refine AW2.skip ?_
  refine AW2.seq ?_
  obtain ⟨x3,hx4,H⟩:=bind_some H
  refine r_ [.r (.int .u8 x3)] [0,5,6] [] [] ⟨[(0,.d (.int .u8 p0)),(5,.d (.str x1)),(6,.d (.int .u8 x3))],[]⟩ (a_ (a_ (zpv x1 x3 hx4) t_) t_) ?_
  refine AW2.seq ?_
  obtain ⟨x5,hx6,H⟩:=bind_some H
  refine r_ [.r (.tup [.int .i64 x5.1,.bool x5.2])] [0,5,6,7] [] [] ⟨[(0,.d (.int .u8 p0)),(5,.d (.str x1)),(6,.d (.int .u8 x3)),(7,.d (.int .i64 x5.1))],[]⟩ (a_ (a_ (zkk p0 x5 hx6) t_) t_) ?_
  refine AW2.seq ?_
  refine AW2.block ?_
  refine AW2.seq ?_
  refine AW2.reg [] rfl (YW.to ⟨[(0,.d (.int .u8 p0)),(5,.d (.str x1)),(6,.d (.int .u8 x3)),(7,.d (.int .i64 x5.1)),(27,.d (.bool ((x5.1==(1:Int))||(x5.1==(2:Int)))))],[]⟩ ?qh28 ?h28)
  case h28 => 
   rcases bT (x5.1==(1:Int)) with hc1 | hc1
   ·exact YW.fin [(30,true)] [] [0,5,6,7,27] [(27,.d (.bool ((x5.1==(1:Int))||(x5.1==(2:Int)))))] [] _ (a_ (a_ hc1 (a_ hc1 (a_ hc1 t_))) (a_ (ovB (orT (b:=(x5.1==(2:Int))) hc1)) t_)) (by kernel_rfl) rfl
   ·exact YW.fin [(30,false)] [] [0,5,6,7,27] [(27,.d (.bool ((x5.1==(1:Int))||(x5.1==(2:Int)))))] [] _ (a_ (a_ hc1 (a_ hc1 (a_ hc1 t_))) (a_ (ovB (Eq.trans (orF (b:=(x5.1==(2:Int))) hc1) (Eq.refl (x5.1==(2:Int))))) t_)) (by kernel_rfl) rfl
  refine AW2.cond (b:=((x5.1==(1:Int))||(x5.1==(2:Int)))) rfl (fun hc => ?_) (fun hc => ?_)
  ·replace H:=zae H hc
   refine AW2.seq ?_
   refine r_ [] [2,3,4] [] [] ⟨[(2,.d .nils),(3,.d (.int .u8 x3)),(4,.d (.bool true))],[]⟩ (a_ t_ t_) ?_
   refine AW2.ret ?_
   have H:=Option.some.inj H
   subst H
   exact retP_mk2 t_ (by kernel_rfl)
  ·replace H:=zaf H hc
   refine AW2.seq ?_
   refine r_ [] [0,5,6,7,35] [] [] ⟨[(0,.d (.int .u8 p0)),(5,.d (.str x1)),(6,.d (.int .u8 x3)),(7,.d (.int .i64 x5.1)),(35,.d (.bool (x1.toList==b0_.toList)))],[]⟩ (a_ t_ t_) ?_
   refine AW2.cond (b:=(x1.toList==b0_.toList)) rfl (fun hc => ?_) (fun hc => ?_)
   ·replace H:=zae H hc
    refine AW2.seq ?_
    refine r_ [] [2,3,4] [] [] ⟨[(2,.d .nils),(3,.d (.int .u8 127)),(4,.d (.bool true))],[]⟩ (a_ t_ t_) ?_
    refine AW2.ret ?_
    have H:=Option.some.inj H
    subst H
    exact retP_mk2 t_ (by kernel_rfl)
   ·replace H:=zaf H hc
    refine AW2.seq ?_
    refine r_ [] [0,5,6,7,38] [] [] ⟨[(0,.d (.int .u8 p0)),(5,.d (.str x1)),(6,.d (.int .u8 x3)),(7,.d (.int .i64 x5.1)),(38,.d (.bool (x1.toList==b1_.toList)))],[]⟩ (a_ t_ t_) ?_
    refine AW2.cond (b:=(x1.toList==b1_.toList)) rfl (fun hc => ?_) (fun hc => ?_)
    ·replace H:=zae H hc
     refine AW2.seq ?_
     refine r_ [.ks true 41 ([127]:List Int).length (fl (eI .u8) ([127]:List Int))] [2,3,4] [] [.k 41] ⟨[(2,.ls 41 0 ([127]:List Int).length),(3,.d (.int .u8 127)),(4,.d (.bool true))],[(41,.sl false 1 ([127]:List Int).length (fl (eI .u8) ([127]:List Int)))]⟩ (a_ (a_ (litK (eI .u8) ([127]:List Int) (fun _ => rfl)) t_) t_) ?_
     refine AW2.ret ?_
     have H:=Option.some.inj H
     subst H
     exact retP_mk2 (a_ (Nat.le_refl ([127]:List Int).length) (a_ (dfl (eI .u8) (zcp .u8) ([127]:List Int)) t_)) (by kernel_rfl)
    ·replace H:=zaf H hc
     refine AW2.seq ?_
     obtain ⟨j10,H26,H⟩:=bind_some H
     refine AW2.reg [] rfl (YW.to ⟨[(0,.d (.int .u8 p0)),(6,.d (.int .u8 x3)),(7,.d (.int .i64 x5.1)),(42,.d (.bool j10))],[]⟩ ?qh27 ?h27)
     case h27 => 
      have H:=H26
      rcases bT (x5.1==(4:Int)) with hc1 | hc1
      ·replace H:=zae H hc1
       obtain ⟨h7,H⟩:=zad H
       obtain ⟨x8,hx9,H⟩:=bind_some H
       have H:=Option.some.inj H
       subst H
       exact YW.fin [(45,true)] [.r (.bool x8)] [0,6,7,42] [] [] _ (a_ (a_ hc1 (a_ hc1 (a_ h7 (a_ hc1 (a_ (zbH (ByteArray.extract x1 (4:Int).toNat ((x1.size:Int):Int).toNat) b87_ x8 hx9) (a_ hc1 t_)))))) t_) (by kernel_rfl) rfl
      ·replace H:=zaf H hc1
       have H:=Option.some.inj H
       subst H
       exact YW.fin [(45,false)] [] [0,6,7,42] [] [] _ (a_ (a_ hc1 (a_ hc1 (a_ hc1 (a_ hc1 t_)))) t_) (by kernel_rfl) rfl
     refine AW2.cond (b:=j10) rfl (fun hc => ?_) (fun hc => ?_)
     ·replace H:=zae H hc
      refine AW2.seq ?_
      refine r_ [.ks true 50 ([127]:List Int).length (fl (eI .u8) ([127]:List Int))] [2,3,4] [] [.k 50] ⟨[(2,.ls 50 0 ([127]:List Int).length),(3,.d (.int .u8 x3)),(4,.d (.bool true))],[(50,.sl false 1 ([127]:List Int).length (fl (eI .u8) ([127]:List Int)))]⟩ (a_ (a_ (litK (eI .u8) ([127]:List Int) (fun _ => rfl)) t_) t_) ?_
      refine AW2.ret ?_
      have H:=Option.some.inj H
      subst H
      exact retP_mk2 (a_ (Nat.le_refl ([127]:List Int).length) (a_ (dfl (eI .u8) (zcp .u8) ([127]:List Int)) t_)) (by kernel_rfl)
     ·replace H:=zaf H hc
      refine AW2.seq ?_
      refine r_ [] [0,6,52] [] [] ⟨[(0,.d (.int .u8 p0)),(6,.d (.int .u8 x3)),(52,.d (.bool (x5.1==(4:Int))))],[]⟩ (a_ t_ t_) ?_
      refine AW2.cond (b:=(x5.1==(4:Int))) rfl (fun hc => ?_) (fun hc => ?_)
      ·replace H:=zae H hc
       refine AW2.seq ?_
       refine r_ [.ks true 56 ([127,x3]:List Int).length (fl (eI .u8) ([127,x3]:List Int))] [2,3,4] [] [.k 56] ⟨[(2,.ls 56 0 ([127,x3]:List Int).length),(3,.d (.int .u8 0)),(4,.d (.bool true))],[(56,.sl false 1 ([127,x3]:List Int).length (fl (eI .u8) ([127,x3]:List Int)))]⟩ (a_ (a_ (litK (eI .u8) ([127,x3]:List Int) (fun _ => rfl)) t_) t_) ?_
       refine AW2.ret ?_
       have H:=Option.some.inj H
       subst H
       exact retP_mk2 (a_ (Nat.le_refl ([127,x3]:List Int).length) (a_ (dfl (eI .u8) (zcp .u8) ([127,x3]:List Int)) t_)) (by kernel_rfl)
      ·replace H:=zaf H hc
       refine AW2.skip ?_
       refine AW2.seq ?_
       obtain ⟨x11,hx12,H⟩:=bind_some H
       refine r_ [.r (.tup [.str x11.1,.int .i64 x11.2])] [9,10] [] [] ⟨[(9,.d (.str x11.1)),(10,.d (.int .i64 x11.2))],[]⟩ (a_ (a_ (zpw p0 x11 hx12) t_) t_) ?_
       refine AW2.seq ?_
       refine r_ [] [9,10,11] [] [] ⟨[(9,.d (.str x11.1)),(10,.d (.int .i64 x11.2)),(11,.d (.int .u8 127))],[]⟩ (a_ t_ t_) ?_
       obtain ⟨j13,H24,H⟩:=bind_some H
       refine AW2.mid ⟨[(9,.d (.str x11.1)),(11,.d (.int .u8 j13))],[]⟩ ?_ ?_
       ·refine AW2.seq ?_
        refine AW2.seq ?_
        refine r_ [] [11,64] [] [] ⟨[(11,.d (.int .u8 j13)),(64,.d (.str x11.1))],[]⟩ (a_ t_ t_) ?_
        refine AW2.block ?_
        refine AW2.seq ?_
        refine r_ [] [11,64,65] [] [] ⟨[(11,.d (.int .u8 j13)),(64,.d (.str x11.1)),(65,.d (.bool (x11.1.toList==b79_.toList)))],[]⟩ (a_ t_ t_) ?_
        refine AW2.cond (b:=(x11.1.toList==b79_.toList)) rfl (fun hc => ?_) (fun hc => ?_)
        ·replace H:=zae H hc
         refine AW2.seq ?_
         refine r_ [.ks true 67 ([126]:List Int).length (fl (eI .u8) ([126]:List Int))] [2,3,4] [] [.k 67] ⟨[(2,.ls 67 0 ([126]:List Int).length),(3,.d (.int .u8 127)),(4,.d (.bool true))],[(67,.sl false 1 ([126]:List Int).length (fl (eI .u8) ([126]:List Int)))]⟩ (a_ (a_ (litK (eI .u8) ([126]:List Int) (fun _ => rfl)) t_) t_) ?_
         refine AW2.ret ?_
         have H:=Option.some.inj H
         subst H
         exact retP_mk2 (a_ (Nat.le_refl ([126]:List Int).length) (a_ (dfl (eI .u8) (zcp .u8) ([126]:List Int)) t_)) (by kernel_rfl)
        ·replace H:=zaf H hc
         obtain ⟨j14,H22,H⟩:=bind_some H
         refine AW2.mid ⟨[(11,.d (.int .u8 j13)),(64,.d (.str x11.1)),(68,.d (.bool j14))],[]⟩ ?_ ?_
         ·refine AW2.cond (b:=j14) rfl (fun hc => ?_) (fun hc => ?_)
          ·replace H:=zae H hc
           refine AW2.seq ?_
           refine r_ [.ks true 71 ([127]:List Int).length (fl (eI .u8) ([127]:List Int))] [2,3,4] [] [.k 71] ⟨[(2,.ls 71 0 ([127]:List Int).length),(3,.d (.int .u8 126)),(4,.d (.bool true))],[(71,.sl false 1 ([127]:List Int).length (fl (eI .u8) ([127]:List Int)))]⟩ (a_ (a_ (litK (eI .u8) ([127]:List Int) (fun _ => rfl)) t_) t_) ?_
           refine AW2.ret ?_
           have H:=Option.some.inj H
           subst H
           exact retP_mk2 (a_ (Nat.le_refl ([127]:List Int).length) (a_ (dfl (eI .u8) (zcp .u8) ([127]:List Int)) t_)) (by kernel_rfl)
          ·replace H:=zaf H hc
           refine AW2.seq ?_
           refine r_ [] [11,64,72] [] [] ⟨[(11,.d (.int .u8 j13)),(64,.d (.str x11.1)),(72,.d (.bool (x11.1.toList==b59_.toList)))],[]⟩ (a_ t_ t_) ?_
           refine AW2.cond (b:=(x11.1.toList==b59_.toList)) rfl (fun hc => ?_) (fun hc => ?_)
           ·replace H:=zae H hc
            refine AW2.seq ?_
            refine r_ [.ks true 75 ([j13]:List Int).length (fl (eI .u8) ([j13]:List Int))] [2,3,4] [] [.k 75] ⟨[(2,.ls 75 0 ([j13]:List Int).length),(3,.d (.int .u8 127)),(4,.d (.bool true))],[(75,.sl false 1 ([j13]:List Int).length (fl (eI .u8) ([j13]:List Int)))]⟩ (a_ (a_ (litK (eI .u8) ([j13]:List Int) (fun _ => rfl)) t_) t_) ?_
            refine AW2.ret ?_
            have H:=Option.some.inj H
            subst H
            exact retP_mk2 (a_ (Nat.le_refl ([j13]:List Int).length) (a_ (dfl (eI .u8) (zcp .u8) ([j13]:List Int)) t_)) (by kernel_rfl)
           ·replace H:=zaf H hc
            obtain ⟨j15,H20,H⟩:=bind_some H
            refine AW2.mid ⟨[(11,.d (.int .u8 j13)),(64,.d (.str x11.1)),(76,.d (.bool j15))],[]⟩ ?_ ?_
            ·refine AW2.cond (b:=j15) rfl (fun hc => ?_) (fun hc => ?_)
             ·replace H:=zae H hc
              refine AW2.seq ?_
              refine r_ [.ks true 81 ([j13]:List Int).length (fl (eI .u8) ([j13]:List Int))] [2,3,4] [] [.k 81] ⟨[(2,.ls 81 0 ([j13]:List Int).length),(3,.d (.int .u8 j13)),(4,.d (.bool true))],[(81,.sl false 1 ([j13]:List Int).length (fl (eI .u8) ([j13]:List Int)))]⟩ (a_ (a_ (litK (eI .u8) ([j13]:List Int) (fun _ => rfl)) t_) t_) ?_
              refine AW2.ret ?_
              have H:=Option.some.inj H
              subst H
              exact retP_mk2 (a_ (Nat.le_refl ([j13]:List Int).length) (a_ (dfl (eI .u8) (zcp .u8) ([j13]:List Int)) t_)) (by kernel_rfl)
             ·replace H:=zaf H hc
              obtain ⟨j16,H18,H⟩:=bind_some H
              refine AW2.mid ⟨[(11,.d (.int .u8 j13)),(83,.d (.bool j16))],[]⟩ ?_ ?_
              ·refine AW2.cond (b:=j16) rfl (fun hc => ?_) (fun hc => ?_)
               ·replace H:=zae H hc
                refine AW2.seq ?_
                refine r_ [.ks true 96 ([j13,j13]:List Int).length (fl (eI .u8) ([j13,j13]:List Int))] [2,3,4] [] [.k 96] ⟨[(2,.ls 96 0 ([j13,j13]:List Int).length),(3,.d (.int .u8 127)),(4,.d (.bool true))],[(96,.sl false 1 ([j13,j13]:List Int).length (fl (eI .u8) ([j13,j13]:List Int)))]⟩ (a_ (a_ (litK (eI .u8) ([j13,j13]:List Int) (fun _ => rfl)) t_) t_) ?_
                refine AW2.ret ?_
                have H:=Option.some.inj H
                subst H
                exact retP_mk2 (a_ (Nat.le_refl ([j13,j13]:List Int).length) (a_ (dfl (eI .u8) (zcp .u8) ([j13,j13]:List Int)) t_)) (by kernel_rfl)
               ·replace H:=zaf H hc
                refine AW2.skip ?_
                refine AW2.seq ?_
                refine r_ [.ks true 99 ([j13,j13]:List Int).length (fl (eI .u8) ([j13,j13]:List Int))] [2,3,4] [] [.k 99] ⟨[(2,.ls 99 0 ([j13,j13]:List Int).length),(3,.d (.int .u8 j13)),(4,.d (.bool true))],[(99,.sl false 1 ([j13,j13]:List Int).length (fl (eI .u8) ([j13,j13]:List Int)))]⟩ (a_ (a_ (litK (eI .u8) ([j13,j13]:List Int) (fun _ => rfl)) t_) t_) ?_
                refine AW2.ret ?_
                have H:=Option.some.inj H
                subst H
                exact retP_mk2 (a_ (Nat.le_refl ([j13,j13]:List Int).length) (a_ (dfl (eI .u8) (zcp .u8) ([j13,j13]:List Int)) t_)) (by kernel_rfl)
              ·have H:=H18
               refine AW2.seq ?_
               refine r_ [] [11,64,83] [] [] ⟨[(11,.d (.int .u8 j13)),(64,.d (.str x11.1)),(83,.d (.bool (x11.1.toList==b70_.toList)))],[]⟩ (a_ t_ t_) ?_
               refine AW2.cond (b:=(x11.1.toList==b70_.toList)) rfl (fun hc => ?_) (fun hc => ?_)
               ·replace H:=zae H hc
                refine AW2.skip ?_
                have H:=Option.some.inj H
                subst H
                exact zam [11,83] [] [] t_ (by kernel_rfl)
               ·replace H:=zaf H hc
                refine AW2.seq ?_
                refine r_ [] [11,64,83] [] [] ⟨[(11,.d (.int .u8 j13)),(64,.d (.str x11.1)),(83,.d (.bool (x11.1.toList==b69_.toList)))],[]⟩ (a_ t_ t_) ?_
                refine AW2.cond (b:=(x11.1.toList==b69_.toList)) rfl (fun hc => ?_) (fun hc => ?_)
                ·replace H:=zae H hc
                 refine AW2.skip ?_
                 have H:=Option.some.inj H
                 subst H
                 exact zam [11,83] [] [] t_ (by kernel_rfl)
                ·replace H:=zaf H hc
                 refine AW2.seq ?_
                 refine r_ [] [11,64,83] [] [] ⟨[(11,.d (.int .u8 j13)),(64,.d (.str x11.1)),(83,.d (.bool (x11.1.toList==b54_.toList)))],[]⟩ (a_ t_ t_) ?_
                 refine AW2.cond (b:=(x11.1.toList==b54_.toList)) rfl (fun hc => ?_) (fun hc => ?_)
                 ·replace H:=zae H hc
                  refine AW2.skip ?_
                  have H:=Option.some.inj H
                  subst H
                  exact zam [11,83] [] [] t_ (by kernel_rfl)
                 ·replace H:=zaf H hc
                  refine AW2.seq ?_
                  refine r_ [] [11,64,83] [] [] ⟨[(11,.d (.int .u8 j13)),(64,.d (.str x11.1)),(83,.d (.bool (x11.1.toList==b53_.toList)))],[]⟩ (a_ t_ t_) ?_
                  refine AW2.cond (b:=(x11.1.toList==b53_.toList)) rfl (fun hc => ?_) (fun hc => ?_)
                  ·replace H:=zae H hc
                   refine AW2.skip ?_
                   have H:=Option.some.inj H
                   subst H
                   exact zam [11,83] [] [] t_ (by kernel_rfl)
                  ·replace H:=zaf H hc
                   refine AW2.seq ?_
                   refine r_ [] [11,64,83] [] [] ⟨[(11,.d (.int .u8 j13)),(64,.d (.str x11.1)),(83,.d (.bool (x11.1.toList==b52_.toList)))],[]⟩ (a_ t_ t_) ?_
                   refine AW2.cond (b:=(x11.1.toList==b52_.toList)) rfl (fun hc => ?_) (fun hc => ?_)
                   ·replace H:=zae H hc
                    refine AW2.skip ?_
                    have H:=Option.some.inj H
                    subst H
                    exact zam [11,83] [] [] t_ (by kernel_rfl)
                   ·replace H:=zaf H hc
                    refine AW2.seq ?_
                    refine r_ [] [11,64,83] [] [] ⟨[(11,.d (.int .u8 j13)),(64,.d (.str x11.1)),(83,.d (.bool (x11.1.toList==b51_.toList)))],[]⟩ (a_ t_ t_) ?_
                    refine AW2.cond (b:=(x11.1.toList==b51_.toList)) rfl (fun hc => ?_) (fun hc => ?_)
                    ·replace H:=zae H hc
                     refine AW2.skip ?_
                     have H:=Option.some.inj H
                     subst H
                     exact zam [11,83] [] [] t_ (by kernel_rfl)
                    ·replace H:=zaf H hc
                     refine AW2.seq ?_
                     refine r_ [] [11,64,83] [] [] ⟨[(11,.d (.int .u8 j13)),(64,.d (.str x11.1)),(83,.d (.bool (x11.1.toList==b50_.toList)))],[]⟩ (a_ t_ t_) ?_
                     refine AW2.cond (b:=(x11.1.toList==b50_.toList)) rfl (fun hc => ?_) (fun hc => ?_)
                     ·replace H:=zae H hc
                      refine AW2.skip ?_
                      have H:=Option.some.inj H
                      subst H
                      exact zam [11,83] [] [] t_ (by kernel_rfl)
                     ·replace H:=zaf H hc
                      refine AW2.seq ?_
                      refine r_ [] [11,64,83] [] [] ⟨[(11,.d (.int .u8 j13)),(64,.d (.str x11.1)),(83,.d (.bool (x11.1.toList==b49_.toList)))],[]⟩ (a_ t_ t_) ?_
                      refine AW2.cond (b:=(x11.1.toList==b49_.toList)) rfl (fun hc => ?_) (fun hc => ?_)
                      ·replace H:=zae H hc
                       refine AW2.skip ?_
                       have H:=Option.some.inj H
                       subst H
                       exact zam [11,83] [] [] t_ (by kernel_rfl)
                      ·replace H:=zaf H hc
                       refine AW2.seq ?_
                       refine r_ [] [11,64,83] [] [] ⟨[(11,.d (.int .u8 j13)),(64,.d (.str x11.1)),(83,.d (.bool (x11.1.toList==b48_.toList)))],[]⟩ (a_ t_ t_) ?_
                       refine AW2.cond (b:=(x11.1.toList==b48_.toList)) rfl (fun hc => ?_) (fun hc => ?_)
                       ·replace H:=zae H hc
                        refine AW2.skip ?_
                        have H:=Option.some.inj H
                        subst H
                        exact zam [11,83] [] [] t_ (by kernel_rfl)
                       ·replace H:=zaf H hc
                        refine r_ [] [11,83] [] [] ⟨[(11,.d (.int .u8 j13)),(83,.d (.bool (x11.1.toList==b58_.toList)))],[]⟩ (a_ t_ t_) ?_
                        have H:=Option.some.inj H
                        subst H
                        exact zam [11,83] [] [] t_ (by kernel_rfl)
            ·have H:=H20
             refine AW2.seq ?_
             refine r_ [] [11,64,76] [] [] ⟨[(11,.d (.int .u8 j13)),(64,.d (.str x11.1)),(76,.d (.bool (x11.1.toList==b42_.toList)))],[]⟩ (a_ t_ t_) ?_
             refine AW2.cond (b:=(x11.1.toList==b42_.toList)) rfl (fun hc => ?_) (fun hc => ?_)
             ·replace H:=zae H hc
              refine AW2.skip ?_
              have H:=Option.some.inj H
              subst H
              exact zam [11,64,76] [] [] t_ (by kernel_rfl)
             ·replace H:=zaf H hc
              refine AW2.seq ?_
              refine r_ [] [11,64,76] [] [] ⟨[(11,.d (.int .u8 j13)),(64,.d (.str x11.1)),(76,.d (.bool (x11.1.toList==b41_.toList)))],[]⟩ (a_ t_ t_) ?_
              refine AW2.cond (b:=(x11.1.toList==b41_.toList)) rfl (fun hc => ?_) (fun hc => ?_)
              ·replace H:=zae H hc
               refine AW2.skip ?_
               have H:=Option.some.inj H
               subst H
               exact zam [11,64,76] [] [] t_ (by kernel_rfl)
              ·replace H:=zaf H hc
               refine r_ [] [11,64,76] [] [] ⟨[(11,.d (.int .u8 j13)),(64,.d (.str x11.1)),(76,.d (.bool (x11.1.toList==b27_.toList)))],[]⟩ (a_ t_ t_) ?_
               have H:=Option.some.inj H
               subst H
               exact zam [11,64,76] [] [] t_ (by kernel_rfl)
         ·have H:=H22
          refine AW2.seq ?_
          refine r_ [] [11,64,68] [] [] ⟨[(11,.d (.int .u8 j13)),(64,.d (.str x11.1)),(68,.d (.bool (x11.1.toList==b61_.toList)))],[]⟩ (a_ t_ t_) ?_
          refine AW2.cond (b:=(x11.1.toList==b61_.toList)) rfl (fun hc => ?_) (fun hc => ?_)
          ·replace H:=zae H hc
           refine AW2.skip ?_
           have H:=Option.some.inj H
           subst H
           exact zam [11,64,68] [] [] t_ (by kernel_rfl)
          ·replace H:=zaf H hc
           refine r_ [] [11,64,68] [] [] ⟨[(11,.d (.int .u8 j13)),(64,.d (.str x11.1)),(68,.d (.bool (x11.1.toList==b68_.toList)))],[]⟩ (a_ t_ t_) ?_
           have H:=Option.some.inj H
           subst H
           exact zam [11,64,68] [] [] t_ (by kernel_rfl)
       ·have H:=H24
        refine AW2.seq ?_
        refine r_ [] [9,11,63] [] [] ⟨[(9,.d (.str x11.1)),(11,.d (.int .u8 127)),(63,.d (.bool (x11.2==(64:Int))))],[]⟩ (a_ t_ t_) ?_
        refine AW2.cond (b:=(x11.2==(64:Int))) rfl (fun hc => ?_) (fun hc => ?_)
        ·replace H:=zae H hc
         refine r_ [] [9,11] [] [] ⟨[(9,.d (.str x11.1)),(11,.d (.int .u8 126))],[]⟩ (a_ t_ t_) ?_
         have H:=Option.some.inj H
         subst H
         exact zam [9,11] [] [] t_ (by kernel_rfl)
        ·replace H:=zaf H hc
         refine AW2.skip ?_
         have H:=Option.some.inj H
         subst H
         exact zam [9,11] [] [] t_ (by kernel_rfl)
def zeD (p0:Int):Option (Int×Bool×Bool):=((zeY p0).bind fun x1 => ((zcY p0).bind fun x3 => (if ((x1.toList==b155_.toList)||(x3.1!=(4:Int)))=true then some (0,false,false) else gd (0≤((wI ((x1.size:Int) - 2)):Int)∧((wI ((x1.size:Int) - 2)):Int)≤(x1.size:Int)∧(x1.size:Int)≤(x1.size:Int)) (((if ((ByteArray.extract x1 ((wI ((x1.size:Int) - 2)):Int).toNat ((x1.size:Int):Int).toNat).toList==b72_.toList)=true then some true else gd (0≤((wI ((x1.size:Int) - 2)):Int)∧((wI ((x1.size:Int) - 2)):Int)≤(x1.size:Int)∧(x1.size:Int)≤(x1.size:Int)) (some ((ByteArray.extract x1 ((wI ((x1.size:Int) - 2)):Int).toNat ((x1.size:Int):Int).toNat).toList==b103_.toList))).bind (fun j11 => (if j11=true then gd (0≤(0:Int)∧(0:Int)≤(wI ((x1.size:Int) - 2))∧(wI ((x1.size:Int) - 2))≤(x1.size:Int)) (some (ByteArray.extract x1 (0:Int).toNat ((wI ((x1.size:Int) - 2)):Int).toNat)) else some x1))).bind (fun j6 => gd (0≤((wI ((j6.size:Int) - 1)):Int)∧((wI ((j6.size:Int) - 1)):Int)≤(j6.size:Int)∧(j6.size:Int)≤(j6.size:Int)) (if ((ByteArray.extract j6 ((wI ((j6.size:Int) - 1)):Int).toNat ((j6.size:Int):Int).toNat).toList==b151_.toList)=true then some (1,((ByteArray.extract x1 ((wI ((x1.size:Int) - 2)):Int).toNat ((x1.size:Int):Int).toNat).toList==b72_.toList),true) else (if ((ByteArray.extract j6 ((wI ((j6.size:Int) - 1)):Int).toNat ((j6.size:Int):Int).toNat).toList==b153_.toList)=true then some (2,((ByteArray.extract x1 ((wI ((x1.size:Int) - 2)):Int).toNat ((x1.size:Int):Int).toNat).toList==b72_.toList),true) else (if ((ByteArray.extract j6 ((wI ((j6.size:Int) - 1)):Int).toNat ((j6.size:Int):Int).toNat).toList==b152_.toList)=true then some (4,((ByteArray.extract x1 ((wI ((x1.size:Int) - 2)):Int).toNat ((x1.size:Int):Int).toNat).toList==b72_.toList),true) else ((zgF j6).bind fun x8 => (if (x8==(127:Int))=true then some (4,((ByteArray.extract x1 ((wI ((x1.size:Int) - 2)):Int).toNat ((x1.size:Int):Int).toNat).toList==b72_.toList),true) else some (8,((ByteArray.extract x1 ((wI ((x1.size:Int) - 2)):Int).toNat ((x1.size:Int):Int).toNat).toList==b72_.toList),true)))))))))))
theorem zxS (p0:Int) (r:Int×Bool×Bool) (H:zeD p0=some r):CF E 63 [.int .u8 p0] (.tup [.int .i64 r.1,.bool r.2.1,.bool r.2.2]):=by
 refine zbi (A:=znk) zwg rfl fun fr => ?_
 unfold zeD at H
 refine AW2.seq ?_
 refine r_ [] [0] [] [] ⟨[(0,.d (.int .u8 p0))],[]⟩ (a_ t_ t_) ?_
 refine AW2.seq ?_
 obtain ⟨x1,hx2,H⟩:=bind_some H
 refine r_ [.r (.str x1)] [0,5] [] [] ⟨[(0,.d (.int .u8 p0)),(5,.d (.str x1))],[]⟩ (a_ (a_ (zkj p0 x1 hx2) t_) t_) ?_
 refine AW2.seq ?_
 obtain ⟨x3,hx4,H⟩:=bind_some H
 refine r_ [.r (.tup [.int .i64 x3.1,.bool x3.2])] [5,6] [] [] ⟨[(5,.d (.str x1)),(6,.d (.int .i64 x3.1))],[]⟩ (a_ (a_ (zkk p0 x3 hx4) t_) t_) ?_
 refine AW2.seq ?_
 refine AW2.seq ?_
 refine AW2.reg [] rfl (YW.to ⟨[(5,.d (.str x1)),(21,.d (.bool ((x1.toList==b155_.toList)||(x3.1!=(4:Int)))))],[]⟩ ?qh18 ?h18)
 case h18 => 
  rcases bT (x1.toList==b155_.toList) with hc1 | hc1
  ·exact YW.fin [(18,true)] [] [5,21] [(21,.d (.bool ((x1.toList==b155_.toList)||(x3.1!=(4:Int)))))] [] _ (a_ (a_ hc1 (a_ hc1 (a_ hc1 t_))) (a_ (ovB (orT (b:=(x3.1!=(4:Int))) hc1)) t_)) (by kernel_rfl) rfl
  ·exact YW.fin [(18,false)] [] [5,21] [(21,.d (.bool ((x1.toList==b155_.toList)||(x3.1!=(4:Int)))))] [] _ (a_ (a_ hc1 (a_ hc1 (a_ hc1 t_))) (a_ (ovB (Eq.trans (orF (b:=(x3.1!=(4:Int))) hc1) (Eq.refl (x3.1!=(4:Int))))) t_)) (by kernel_rfl) rfl
 refine AW2.cond (b:=((x1.toList==b155_.toList)||(x3.1!=(4:Int)))) rfl (fun hc => ?_) (fun hc => ?_)
 ·replace H:=zae H hc
  refine AW2.seq ?_
  refine r_ [] [2,3,4] [] [] ⟨[(2,.d (.int .i64 0)),(3,.d (.bool false)),(4,.d (.bool false))],[]⟩ (a_ t_ t_) ?_
  refine AW2.ret ?_
  have H:=Option.some.inj H
  subst H
  exact retP_mk2 t_ (by kernel_rfl)
 ·replace H:=zaf H hc
  refine AW2.skip ?_
  refine AW2.seq ?_
  obtain ⟨h5,H⟩:=zad H
  refine r_ [] [5,8] [] [] ⟨[(5,.d (.str x1)),(8,.d (.bool ((ByteArray.extract x1 ((wI ((x1.size:Int) - 2)):Int).toNat ((x1.size:Int):Int).toNat).toList==b72_.toList)))],[]⟩ (a_ (a_ h5 t_) t_) ?_
  obtain ⟨j6,H17,H⟩:=bind_some H
  refine AW2.mid ⟨[(5,.d (.str j6)),(8,.d (.bool ((ByteArray.extract x1 ((wI ((x1.size:Int) - 2)):Int).toNat ((x1.size:Int):Int).toNat).toList==b72_.toList)))],[]⟩ ?_ ?_
  ·refine AW2.seq ?_
   refine AW2.seq ?_
   obtain ⟨h7,H⟩:=zad H
   refine r_ [] [5,8,46] [] [] ⟨[(5,.d (.str j6)),(8,.d (.bool ((ByteArray.extract x1 ((wI ((x1.size:Int) - 2)):Int).toNat ((x1.size:Int):Int).toNat).toList==b72_.toList))),(46,.d (.str (ByteArray.extract j6 ((wI ((j6.size:Int) - 1)):Int).toNat ((j6.size:Int):Int).toNat)))],[]⟩ (a_ (a_ h7 t_) t_) ?_
   refine AW2.block ?_
   refine AW2.seq ?_
   refine r_ [] [5,8,46,47] [] [] ⟨[(5,.d (.str j6)),(8,.d (.bool ((ByteArray.extract x1 ((wI ((x1.size:Int) - 2)):Int).toNat ((x1.size:Int):Int).toNat).toList==b72_.toList))),(46,.d (.str (ByteArray.extract j6 ((wI ((j6.size:Int) - 1)):Int).toNat ((j6.size:Int):Int).toNat))),(47,.d (.bool ((ByteArray.extract j6 ((wI ((j6.size:Int) - 1)):Int).toNat ((j6.size:Int):Int).toNat).toList==b151_.toList)))],[]⟩ (a_ t_ t_) ?_
   refine AW2.cond (b:=((ByteArray.extract j6 ((wI ((j6.size:Int) - 1)):Int).toNat ((j6.size:Int):Int).toNat).toList==b151_.toList)) rfl (fun hc => ?_) (fun hc => ?_)
   ·replace H:=zae H hc
    refine AW2.seq ?_
    refine r_ [] [2,3,4] [] [] ⟨[(2,.d (.int .i64 1)),(3,.d (.bool ((ByteArray.extract x1 ((wI ((x1.size:Int) - 2)):Int).toNat ((x1.size:Int):Int).toNat).toList==b72_.toList))),(4,.d (.bool true))],[]⟩ (a_ t_ t_) ?_
    refine AW2.ret ?_
    have H:=Option.some.inj H
    subst H
    exact retP_mk2 t_ (by kernel_rfl)
   ·replace H:=zaf H hc
    refine AW2.seq ?_
    refine r_ [] [5,8,46,50] [] [] ⟨[(5,.d (.str j6)),(8,.d (.bool ((ByteArray.extract x1 ((wI ((x1.size:Int) - 2)):Int).toNat ((x1.size:Int):Int).toNat).toList==b72_.toList))),(46,.d (.str (ByteArray.extract j6 ((wI ((j6.size:Int) - 1)):Int).toNat ((j6.size:Int):Int).toNat))),(50,.d (.bool ((ByteArray.extract j6 ((wI ((j6.size:Int) - 1)):Int).toNat ((j6.size:Int):Int).toNat).toList==b153_.toList)))],[]⟩ (a_ t_ t_) ?_
    refine AW2.cond (b:=((ByteArray.extract j6 ((wI ((j6.size:Int) - 1)):Int).toNat ((j6.size:Int):Int).toNat).toList==b153_.toList)) rfl (fun hc => ?_) (fun hc => ?_)
    ·replace H:=zae H hc
     refine AW2.seq ?_
     refine r_ [] [2,3,4] [] [] ⟨[(2,.d (.int .i64 2)),(3,.d (.bool ((ByteArray.extract x1 ((wI ((x1.size:Int) - 2)):Int).toNat ((x1.size:Int):Int).toNat).toList==b72_.toList))),(4,.d (.bool true))],[]⟩ (a_ t_ t_) ?_
     refine AW2.ret ?_
     have H:=Option.some.inj H
     subst H
     exact retP_mk2 t_ (by kernel_rfl)
    ·replace H:=zaf H hc
     refine AW2.seq ?_
     refine r_ [] [5,8,53] [] [] ⟨[(5,.d (.str j6)),(8,.d (.bool ((ByteArray.extract x1 ((wI ((x1.size:Int) - 2)):Int).toNat ((x1.size:Int):Int).toNat).toList==b72_.toList))),(53,.d (.bool ((ByteArray.extract j6 ((wI ((j6.size:Int) - 1)):Int).toNat ((j6.size:Int):Int).toNat).toList==b152_.toList)))],[]⟩ (a_ t_ t_) ?_
     refine AW2.cond (b:=((ByteArray.extract j6 ((wI ((j6.size:Int) - 1)):Int).toNat ((j6.size:Int):Int).toNat).toList==b152_.toList)) rfl (fun hc => ?_) (fun hc => ?_)
     ·replace H:=zae H hc
      refine AW2.seq ?_
      refine r_ [] [2,3,4] [] [] ⟨[(2,.d (.int .i64 4)),(3,.d (.bool ((ByteArray.extract x1 ((wI ((x1.size:Int) - 2)):Int).toNat ((x1.size:Int):Int).toNat).toList==b72_.toList))),(4,.d (.bool true))],[]⟩ (a_ t_ t_) ?_
      refine AW2.ret ?_
      have H:=Option.some.inj H
      subst H
      exact retP_mk2 t_ (by kernel_rfl)
     ·replace H:=zaf H hc
      refine AW2.skip ?_
      refine AW2.seq ?_
      refine AW2.seq ?_
      obtain ⟨x8,hx9,H⟩:=bind_some H
      refine r_ [.r (.int .u8 x8)] [8,58] [] [] ⟨[(8,.d (.bool ((ByteArray.extract x1 ((wI ((x1.size:Int) - 2)):Int).toNat ((x1.size:Int):Int).toNat).toList==b72_.toList))),(58,.d (.bool (x8==(127:Int))))],[]⟩ (a_ (a_ (zpv j6 x8 hx9) t_) t_) ?_
      refine AW2.cond (b:=(x8==(127:Int))) rfl (fun hc => ?_) (fun hc => ?_)
      ·replace H:=zae H hc
       refine AW2.seq ?_
       refine r_ [] [2,3,4] [] [] ⟨[(2,.d (.int .i64 4)),(3,.d (.bool ((ByteArray.extract x1 ((wI ((x1.size:Int) - 2)):Int).toNat ((x1.size:Int):Int).toNat).toList==b72_.toList))),(4,.d (.bool true))],[]⟩ (a_ t_ t_) ?_
       refine AW2.ret ?_
       have H:=Option.some.inj H
       subst H
       exact retP_mk2 t_ (by kernel_rfl)
      ·replace H:=zaf H hc
       refine AW2.skip ?_
       refine AW2.seq ?_
       refine r_ [] [2,3,4] [] [] ⟨[(2,.d (.int .i64 8)),(3,.d (.bool ((ByteArray.extract x1 ((wI ((x1.size:Int) - 2)):Int).toNat ((x1.size:Int):Int).toNat).toList==b72_.toList))),(4,.d (.bool true))],[]⟩ (a_ t_ t_) ?_
       refine AW2.ret ?_
       have H:=Option.some.inj H
       subst H
       exact retP_mk2 t_ (by kernel_rfl)
  ·have H:=H17
   refine AW2.seq ?_
   obtain ⟨j11,H14,H⟩:=bind_some H
   refine AW2.reg [] rfl (YW.to ⟨[(5,.d (.str x1)),(8,.d (.bool ((ByteArray.extract x1 ((wI ((x1.size:Int) - 2)):Int).toNat ((x1.size:Int):Int).toNat).toList==b72_.toList))),(36,.d (.bool j11))],[]⟩ ?qh15 ?h15)
   case h15 => 
    have H:=H14
    rcases bT ((ByteArray.extract x1 ((wI ((x1.size:Int) - 2)):Int).toNat ((x1.size:Int):Int).toNat).toList==b72_.toList) with hc1 | hc1
    ·replace H:=zae H hc1
     have H:=Option.some.inj H
     subst H
     exact YW.fin [(29,true)] [] [5,8,36] [] [] _ (a_ (a_ hc1 (a_ hc1 (a_ hc1 (a_ hc1 (a_ hc1 (a_ hc1 (a_ hc1 t_))))))) t_) (by kernel_rfl) rfl
    ·replace H:=zaf H hc1
     obtain ⟨h10,H⟩:=zad H
     have H:=Option.some.inj H
     subst H
     exact YW.fin [(29,false)] [] [5,8,36] [] [] _ (a_ (a_ hc1 (a_ hc1 (a_ hc1 (a_ hc1 (a_ hc1 (a_ h10 (a_ hc1 (a_ hc1 t_)))))))) t_) (by kernel_rfl) rfl
   refine AW2.cond (b:=j11) rfl (fun hc => ?_) (fun hc => ?_)
   ·replace H:=zae H hc
    obtain ⟨h12,H⟩:=zad H
    refine r_ [] [5,8] [] [] ⟨[(5,.d (.str (ByteArray.extract x1 (0:Int).toNat ((wI ((x1.size:Int) - 2)):Int).toNat))),(8,.d (.bool ((ByteArray.extract x1 ((wI ((x1.size:Int) - 2)):Int).toNat ((x1.size:Int):Int).toNat).toList==b72_.toList)))],[]⟩ (a_ (a_ h12 t_) t_) ?_
    have H:=Option.some.inj H
    subst H
    exact zam [5,8] [] [] t_ (by kernel_rfl)
   ·replace H:=zaf H hc
    refine AW2.skip ?_
    have H:=Option.some.inj H
    subst H
    exact zam [5,8] [] [] t_ (by kernel_rfl)
end Go.Proofs.YtablleokoifolaaGreatDoor
