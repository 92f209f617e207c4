/- Part 6 of the proof that ValidIdleUptoCardSaid: for every input that fits the row the law answers true and its arguments read as before, over the world as the row lays it. -/
import Derived.Test.YtablleokoifolaaGreatDoorZ5
set_option linter.unusedVariables false
set_option maxRecDepth 100000
set_option maxHeartbeats 4000000
namespace Go.Proofs.YtablleokoifolaaGreatDoor
open Go
def zcV (K:Nat) (p0:Mdl) (p1:Int):Option (Option Checker×Option Int):=(if (decide (p1<(0:Int)))=true then some true else (if (decide (p1≥(p0.funcs.length:Int)))=true then some true else gd (0≤p1∧p1<(p0.funcs.length:Int)) (if (decide (((p0.funcs.getD p1.toNat default).type_)≥(IntKind.wrap .u32 (p0.types.length:Int))))=true then some true else ((zeC K p0).bind fun x2 => some (!x2))))).bind (fun j4 => (if j4=true then some (none,(some 1)) else gd (0≤p1∧p1<(p0.funcs.length:Int)) (gd (0≤((p0.funcs.getD p1.toNat default).type_)∧((p0.funcs.getD p1.toNat default).type_)<(p0.types.length:Int)) (gd (0≤p1∧p1<(p0.funcs.length:Int)) ((zaI K ([(p0.types.getD ((p0.funcs.getD p1.toNat default).type_).toNat default).params,(p0.funcs.getD p1.toNat default).locals]:List (List Int))).bind fun x8 => gd (0≤p1∧p1<(p0.funcs.length:Int)) ((zaj K (Checker.mk p0 (p0.types.getD ((p0.funcs.getD p1.toNat default).type_).toNat default) x8 ([]:List Int) ([(Frame.mk 0 false false)]:List Frame) ([(p0.types.getD ((p0.funcs.getD p1.toNat default).type_).toNat default).result]:List Int) 0 false) ((p0.funcs.getD p1.toNat default).body)).bind fun x11 => ((zac x11 ((p0.types.getD ((p0.funcs.getD p1.toNat default).type_).toNat default).result)).bind fun x13 => (if (x13.2.bad||(decide ((x13.2.stack.length:Int)>(0:Int))))=true then some (none,(some 7)) else some ((some x13.2),none)))))))))
theorem zlT (K:Nat) (p0:Mdl) (p1:Int) (r:Option Checker×Option Int) (H:zcV K p0 p1=some r):CF E 24 [.agg (eMdl p0),.int .i64 p1] (.tup [.pt (r.1.map eChecker),.err 45 r.2]):=by
 refine zfZ (A:=zhZ) zlm rfl fun fr => ?_
 unfold zcV at H
 refine AW2.seq ?_
 refine r_ [.k 2] [1,2] [] [.k 2] ⟨[(1,.d (.int .i64 p1)),(2,.p 2 0)],[(2,.st false (eD (eMdl p0)))]⟩ (a_ t_ t_) ?_
 refine AW2.seq ?_
 refine AW2.seq ?_
 obtain ⟨j4,H17,H⟩:=bind_some H
 refine AW2.reg [] rfl (YW.to ⟨[(1,.d (.int .i64 p1)),(2,.p 2 0),(34,.d (.bool j4))],[(2,.st false (eD (eMdl p0)))]⟩ ?qh18 ?h18)
 case h18 => 
  have H:=H17
  rcases bT (decide (p1<(0:Int))) with hc1 | hc1
  ·replace H:=zaC H hc1
   have H:=Option.some.inj H
   subst H
   exact YW.fin [(10,true),(17,true),(30,true)] [] [1,2,34] [] [.k 2] _ (a_ (a_ hc1 (a_ hc1 (a_ hc1 (a_ hc1 (a_ hc1 (a_ hc1 (a_ (Eq.refl true) (a_ (Eq.refl true) (a_ (Eq.refl true) (a_ (Eq.refl true) (a_ (Eq.refl true) (a_ (Eq.refl true) (a_ (Eq.refl true) (a_ (Eq.refl true) (a_ (Eq.refl true) (a_ (Eq.refl true) (a_ (Eq.refl true) (a_ (Eq.refl true) (a_ (Eq.refl true) (a_ (Eq.refl true) (a_ (Eq.refl true) (a_ (Eq.refl true) t_)))))))))))))))))))))) t_) (by kernel_rfl) rfl
  ·replace H:=zaD H hc1
   rcases bT (decide (p1≥(p0.funcs.length:Int))) with hc2 | hc2
   ·replace H:=zaC H hc2
    have H:=Option.some.inj H
    subst H
    exact YW.fin [(10,false),(17,true),(30,true)] [] [1,2,34] [] [.k 2] _ (a_ (a_ hc1 (a_ hc1 (a_ hc1 (a_ hc1 (a_ hc1 (a_ hc1 (a_ hc2 (a_ hc2 (a_ hc2 (a_ hc2 (a_ hc2 (a_ hc2 (a_ hc2 (a_ hc2 (a_ hc2 (a_ hc2 (a_ hc2 (a_ hc2 (a_ (Eq.refl true) (a_ (Eq.refl true) (a_ (Eq.refl true) (a_ (Eq.refl true) t_)))))))))))))))))))))) t_) (by kernel_rfl) rfl
   ·replace H:=zaD H hc2
    obtain ⟨h1,H⟩:=zae H
    rcases bT (decide (((p0.funcs.getD p1.toNat default).type_)≥(IntKind.wrap .u32 (p0.types.length:Int)))) with hc3 | hc3
    ·replace H:=zaC H hc3
     have H:=Option.some.inj H
     subst H
     exact YW.fin [(10,false),(17,false),(30,true)] [] [1,2,34] [] [.k 2] _ (a_ (a_ hc1 (a_ hc1 (a_ hc1 (a_ hc1 (a_ hc1 (a_ hc1 (a_ hc2 (a_ hc2 (a_ hc2 (a_ hc2 (a_ h1 (a_ hc2 (a_ hc2 (a_ hc2 (a_ hc2 (a_ hc2 (a_ hc2 (a_ hc2 (a_ hc2 (a_ hc3 (a_ hc3 (a_ hc3 (a_ hc3 t_))))))))))))))))))))))) t_) (by kernel_rfl) rfl
    ·replace H:=zaD H hc3
     obtain ⟨x2,hx3,H⟩:=bind_some H
     have H:=Option.some.inj H
     subst H
     exact YW.fin [(10,false),(17,false),(30,false)] [.r (.bool x2)] [1,2,34] [] [.k 2] _ (a_ (a_ hc1 (a_ hc1 (a_ hc1 (a_ hc1 (a_ hc1 (a_ hc1 (a_ hc2 (a_ hc2 (a_ hc2 (a_ hc2 (a_ h1 (a_ hc2 (a_ hc2 (a_ hc2 (a_ hc2 (a_ hc2 (a_ hc2 (a_ hc2 (a_ hc2 (a_ hc3 (a_ hc3 (a_ (ztx K p0 x2 hx3) (a_ hc3 (a_ hc3 t_)))))))))))))))))))))))) t_) (by kernel_rfl) rfl
 refine AW2.cond (b:=j4) rfl (fun hc => ?_) (fun hc => ?_)
 ·replace H:=zaC H hc
  refine AW2.seq ?_
  refine r_ [] [4,5] [] [] ⟨[(4,.d .nilp),(5,.d (.err 45 (some 1)))],[]⟩ (a_ t_ t_) ?_
  refine AW2.ret ?_
  have H:=Option.some.inj H
  subst H
  exact retP_mk2 t_ (by kernel_rfl)
 ·replace H:=zaD H hc
  refine AW2.skip ?_
  refine AW2.seq ?_
  obtain ⟨h5,H⟩:=zae H
  obtain ⟨h6,H⟩:=zae H
  refine r_ [.k 6] [1,2,6] [] [.k 2,.k 6] ⟨[(1,.d (.int .i64 p1)),(2,.p 2 0),(6,.p 6 0)],[(2,.st false (eD (eMdl p0))),(6,.st false (eD (eTyp (p0.types.getD ((p0.funcs.getD p1.toNat default).type_).toNat default))))]⟩ (a_ (a_ h5 (a_ h6 t_)) t_) ?_
  refine AW2.seq ?_
  obtain ⟨h7,H⟩:=zae H
  obtain ⟨x8,hx9,H⟩:=bind_some H
  refine r_ [.sb ([(p0.types.getD ((p0.funcs.getD p1.toNat default).type_).toNat default).params,(p0.funcs.getD p1.toNat default).locals]:List (List Int)).length (fl (eL (eI .u8)) ([(p0.types.getD ((p0.funcs.getD p1.toNat default).type_).toNat default).params,(p0.funcs.getD p1.toNat default).locals]:List (List Int))),.r (sV (eI .u8) x8),.k 1000] [1,2,6,7] [] [.k 2,.k 6,.k 1000] ⟨[(1,.d (.int .i64 p1)),(2,.p 2 0),(6,.p 6 0),(7,.p 1000 0)],[(2,.st false (eD (eMdl p0))),(6,.st false (eD (eTyp (p0.types.getD ((p0.funcs.getD p1.toNat default).type_).toNat default)))),(1000,.st false [.d (sV eTyp p0.types),.d (sV eFnc p0.funcs),.d (sV eLim p0.tables),.d (sV eLim p0.memories),.d (sV eGlo p0.globals),.d (sV eXpo p0.exports),.d (sV eEle p0.elems),.d (sV eDat p0.datas),.d (sV (eI .u8) ((p0.types.getD ((p0.funcs.getD p1.toNat default).type_).toNat default).params)),.d (.int .u8 ((p0.types.getD ((p0.funcs.getD p1.toNat default).type_).toNat default).result)),.d (sV (eI .u8) x8),.d .nils,.d .nils,.d .nils,.d (.int .i64 0),.d (.bool false)])]⟩ (a_ (a_ h7 (a_ (litF (eL (eI .u8)) ([(p0.types.getD ((p0.funcs.getD p1.toNat default).type_).toNat default).params,(p0.funcs.getD p1.toNat default).locals]:List (List Int))) (a_ (zeg K ([(p0.types.getD ((p0.funcs.getD p1.toNat default).type_).toNat default).params,(p0.funcs.getD p1.toNat default).locals]:List (List Int)) x8 hx9) t_))) t_) ?_
  refine AW2.seq ?_
  refine AW2.reg [(1000,0,12)] (by kernel_rfl) (YW.fin [] [.ks true 1002 ([(Frame.mk 0 false false)]:List Frame).length (fl eFrame ([(Frame.mk 0 false false)]:List Frame)),.ks true 1003 ([(p0.types.getD ((p0.funcs.getD p1.toNat default).type_).toNat default).result]:List Int).length (fl (eI .u8) ([(p0.types.getD ((p0.funcs.getD p1.toNat default).type_).toNat default).result]:List Int))] [1,2,6,7] [] [.k 2,.k 6,.k 1000,.k 1002,.k 1003] ⟨[(1,.d (.int .i64 p1)),(2,.p 2 0),(6,.p 6 0),(7,.p 1000 0)],[(2,.st false (eD (eMdl p0))),(6,.st false (eD (eTyp (p0.types.getD ((p0.funcs.getD p1.toNat default).type_).toNat default)))),(1000,.st false [.d (sV eTyp p0.types),.d (sV eFnc p0.funcs),.d (sV eLim p0.tables),.d (sV eLim p0.memories),.d (sV eGlo p0.globals),.d (sV eXpo p0.exports),.d (sV eEle p0.elems),.d (sV eDat p0.datas),.d (sV (eI .u8) ((p0.types.getD ((p0.funcs.getD p1.toNat default).type_).toNat default).params)),.d (.int .u8 ((p0.types.getD ((p0.funcs.getD p1.toNat default).type_).toNat default).result)),.d (sV (eI .u8) x8),.d .nils,.ls 1002 0 ([(Frame.mk 0 false false)]:List Frame).length,.ls 1003 0 ([(p0.types.getD ((p0.funcs.getD p1.toNat default).type_).toNat default).result]:List Int).length,.d (.int .i64 0),.d (.bool false)]),(1002,.sl false 3 ([(Frame.mk 0 false false)]:List Frame).length (fl eFrame ([(Frame.mk 0 false false)]:List Frame))),(1003,.sl false 1 ([(p0.types.getD ((p0.funcs.getD p1.toNat default).type_).toNat default).result]:List Int).length (fl (eI .u8) ([(p0.types.getD ((p0.funcs.getD p1.toNat default).type_).toNat default).result]:List Int)))]⟩ (a_ (a_ (litK eFrame ([(Frame.mk 0 false false)]:List Frame) (fun _ => rfl)) (a_ (litK (eI .u8) ([(p0.types.getD ((p0.funcs.getD p1.toNat default).type_).toNat default).result]:List Int) (fun _ => rfl)) t_)) t_) (by kernel_rfl) ?_)
  refine AW2.seq ?_
  refine AW2.cv [.c 1000 11 1001 1 (fl (eI .u8) ([]:List Int))] [1,2,6,7] [] [.k 2,.k 6,.k 1000,.k 1001,.k 1002,.k 1003] ⟨[(1,.d (.int .i64 p1)),(2,.p 2 0),(6,.p 6 0),(7,.p 1000 0)],[(2,.st false (eD (eMdl p0))),(6,.st false (eD (eTyp (p0.types.getD ((p0.funcs.getD p1.toNat default).type_).toNat default))))]++zaa (Checker.mk p0 (p0.types.getD ((p0.funcs.getD p1.toNat default).type_).toNat default) x8 ([]:List Int) ([(Frame.mk 0 false false)]:List Frame) ([(p0.types.getD ((p0.funcs.getD p1.toNat default).type_).toNat default).result]:List Int) 0 false)⟩ t_ (by kernel_rfl) ?_
  obtain ⟨h10,H⟩:=zae H
  obtain ⟨x11,hx12,H⟩:=bind_some H
  refine r_ [.c [1000,1001,1002,1003] [] [1000] (.tup []) (zaa x11)] [6,7] [] [.k 6,.k 1000,.k 1001,.k 1002,.k 1003] ⟨[(6,.p 6 0),(7,.p 1000 0)],[(6,.st false (eD (eTyp (p0.types.getD ((p0.funcs.getD p1.toNat default).type_).toNat default))))]++zaa x11⟩ (a_ (a_ h10 (a_ (zkz K (Checker.mk p0 (p0.types.getD ((p0.funcs.getD p1.toNat default).type_).toNat default) x8 ([]:List Int) ([(Frame.mk 0 false false)]:List Frame) ([(p0.types.getD ((p0.funcs.getD p1.toNat default).type_).toNat default).result]:List Int) 0 false) ((p0.funcs.getD p1.toNat default).body) x11 hx12) t_)) t_) ?_
  refine AW2.seq ?_
  obtain ⟨x13,hx14,H⟩:=bind_some H
  refine r_ [.c [1000,1001,1002,1003] [] [1000] (.d (.int .u8 x13.1)) (zaa x13.2)] [7] [] [.k 1000,.k 1001,.k 1002,.k 1003] ⟨[(7,.p 1000 0)],zaa x13.2⟩ (a_ (a_ (zai x11 ((p0.types.getD ((p0.funcs.getD p1.toNat default).type_).toNat default).result) x13 hx14) t_) t_) ?_
  refine AW2.seq ?_
  refine AW2.seq ?_
  refine AW2.reg [] rfl (YW.to ⟨[(7,.p 1000 0),(94,.d (.bool (x13.2.bad||(decide ((x13.2.stack.length:Int)>(0:Int))))))],zaa x13.2⟩ ?qh15 ?h15)
  case h15 => 
   rcases bT x13.2.bad with hc1 | hc1
   ·exact YW.fin [(87,true)] [] [7,94] [(94,.d (.bool (x13.2.bad||(decide ((x13.2.stack.length:Int)>(0:Int))))))] [.k 1000,.k 1001,.k 1002,.k 1003] _ (a_ (a_ hc1 (a_ hc1 (a_ hc1 (a_ hc1 (a_ hc1 (a_ hc1 (a_ hc1 t_))))))) (a_ (ovB (orT (b:=(decide ((x13.2.stack.length:Int)>(0:Int)))) hc1)) t_)) (by kernel_rfl) rfl
   ·exact YW.fin [(87,false)] [] [7,94] [(94,.d (.bool (x13.2.bad||(decide ((x13.2.stack.length:Int)>(0:Int))))))] [.k 1000,.k 1001,.k 1002,.k 1003] _ (a_ (a_ hc1 (a_ hc1 (a_ hc1 (a_ hc1 (a_ hc1 (a_ hc1 (a_ hc1 t_))))))) (a_ (ovB (Eq.trans (orF (b:=(decide ((x13.2.stack.length:Int)>(0:Int)))) hc1) (Eq.refl (decide ((x13.2.stack.length:Int)>(0:Int)))))) t_)) (by kernel_rfl) rfl
  refine AW2.cond (b:=(x13.2.bad||(decide ((x13.2.stack.length:Int)>(0:Int))))) rfl (fun hc => ?_) (fun hc => ?_)
  ·replace H:=zaC H hc
   refine AW2.seq ?_
   refine r_ [] [4,5] [] [] ⟨[(4,.d .nilp),(5,.d (.err 45 (some 7)))],[]⟩ (a_ t_ t_) ?_
   refine AW2.ret ?_
   have H:=Option.some.inj H
   subst H
   exact retP_mk2 t_ (by kernel_rfl)
  ·replace H:=zaD H hc
   refine AW2.skip ?_
   refine AW2.seq ?_
   refine r_ [] [4,5] [] [.k 1000,.k 1001,.k 1002,.k 1003] ⟨[(4,.p 1000 0),(5,.d .nili)],zaa x13.2⟩ (a_ t_ t_) ?_
   refine AW2.ret ?_
   have H:=Option.some.inj H
   subst H
   exact retP_mk2 (a_ (Nat.le_refl x13.2.stack.length) (a_ (dfl (eI .u8) (zvF .u8) x13.2.stack) (a_ (Nat.le_refl x13.2.frames.length) (a_ (dfl eFrame zvZ x13.2.frames) (a_ (Nat.le_refl x13.2.labels.length) (a_ (dfl (eI .u8) (zvF .u8) x13.2.labels) t_)))))) (by kernel_rfl)
def zcE (K:Nat) (p0:Mdl) (p1:Int):Option (Option Int):=((zcV K p0 p1).bind fun x1 => some x1.2)
theorem znK (K:Nat) (p0:Mdl) (p1:Int) (r:Option Int) (H:zcE K p0 p1=some r):CF E 6 [.agg (eMdl p0),.int .i64 p1] (.err 45 r):=by
 refine zfZ (A:=zjq) zlN rfl fun fr => ?_
 unfold zcE at H
 refine AW2.seq ?_
 refine r_ [.k 2] [1,2] [] [.k 2] ⟨[(1,.d (.int .i64 p1)),(2,.p 2 0)],[(2,.st false (eD (eMdl p0)))]⟩ (a_ t_ t_) ?_
 refine AW2.seq ?_
 obtain ⟨x1,hx2,H⟩:=bind_some H
 refine r_ [.r (.tup [.pt (x1.1.map eChecker),.err 45 x1.2])] [6] [] [] ⟨[(6,.d (.err 45 x1.2))],[]⟩ (a_ (a_ (zlT K p0 p1 x1 hx2) t_) t_) ?_
 refine AW2.seq ?_
 refine r_ [] [4] [] [] ⟨[(4,.d (.err 45 x1.2))],[]⟩ (a_ t_ t_) ?_
 refine AW2.ret ?_
 have H:=Option.some.inj H
 subst H
 exact retP_mk2 t_ (by kernel_rfl)
def zbi (p0:Int) (p1:Bool):Option (Bool):=some ((p0==(127:Int))||((p0==(126:Int))||(p1&&(p0==(0:Int)))))
def zdE:Nat→Mdl→Bool→Int→Option (Bool)
 | 0,_,_,_ => none
 | k+1,p0,a6,a7 => (if (decide (a7<(p0.globals.length:Int)))=true then (if a6=true then gd (0≤a7∧a7<(p0.globals.length:Int)) ((zbi ((p0.globals.getD a7.toNat default).kind) false).bind fun x9 => some x9) else some false).bind (fun j11 => zdE k p0 j11 (wI (a7+1))) else some a6)
def zdC:Nat→Mdl→Int→Bool→Int→Option (Bool)
 | 0,_,_,_,_ => none
 | k+1,p0,a20,a24,a25 => gd (0≤a20∧a20<(p0.funcs.length:Int)) (if (decide (a25<(((p0.funcs.getD a20.toNat default).locals).length:Int)))=true then (if a24=true then gd (0≤a20∧a20<(p0.funcs.length:Int)) (gd (0≤a25∧a25<(((p0.funcs.getD a20.toNat default).locals).length:Int)) ((zbi (((p0.funcs.getD a20.toNat default).locals).getD a25.toNat default) false).bind fun x29 => some x29)) else some false).bind (fun j31 => zdC k p0 a20 j31 (wI (a25+1))) else some a24)
def zdD:Nat→Nat→Mdl→Bool→Int→Option (Bool)
 | 0,_,_,_,_ => none
 | k+1,K,p0,a19,a20 => (if (decide (a20<(p0.funcs.length:Int)))=true then (zdC K p0 a20 a19 0).bind (fun j21 => zdD k K p0 j21 (wI (a20+1))) else some a19)
def zcx:Nat→Mdl→Int→Bool→Int→Option (Bool)
 | 0,_,_,_,_ => none
 | k+1,p0,a42,a50,a51 => gd (0≤a42∧a42<(p0.types.length:Int)) (if (decide (a51<(((p0.types.getD a42.toNat default).params).length:Int)))=true then (if a50=true then gd (0≤a42∧a42<(p0.types.length:Int)) (gd (0≤a51∧a51<(((p0.types.getD a42.toNat default).params).length:Int)) ((zbi (((p0.types.getD a42.toNat default).params).getD a51.toNat default) false).bind fun x55 => some x55)) else some false).bind (fun j57 => zcx k p0 a42 j57 (wI (a51+1))) else some a50)
def zdB:Nat→Nat→Mdl→Bool→Int→Option (Bool)
 | 0,_,_,_,_ => none
 | k+1,K,p0,a41,a42 => (if (decide (a42<(p0.types.length:Int)))=true then ((if a41=true then gd (0≤a42∧a42<(p0.types.length:Int)) ((zbi ((p0.types.getD a42.toNat default).result) true).bind fun x45 => some x45) else some false).bind (fun j47 => zcx K p0 a42 j47 0)).bind (fun j43 => zdB k K p0 j43 (wI (a42+1))) else some a41)
def zeD (K:Nat) (p0:Mdl):Option (Bool):=(zdB K K p0 true 0).bind (fun j1 => (zdD K K p0 j1 0).bind (fun j2 => (zdE K p0 j2 0).bind (fun j3 => some j3)))
def zad (p0:St8) (p1:Int):Option (St8×Int):=(if (p1==(0:Int))=true then some (p0,0) else (if ((p0.l.length:Int)==(0:Int))=true then (if p0.ok=true then some p0.away else some false).bind (fun j1 => some ((St8.mk p0.l p0.under p0.away p0.dead p0.most j1),p1)) else gd (0≤(wI ((p0.l.length:Int) - 1))∧(wI ((p0.l.length:Int) - 1))<(p0.l.length:Int)) (gd (0≤(0:Int)∧(0:Int)≤(wI ((p0.l.length:Int) - 1))∧(wI ((p0.l.length:Int) - 1))≤(p0.l.length:Int)) (if ((p0.l.getD (wI ((p0.l.length:Int) - 1)).toNat default)==(255:Int))=true then some ((St8.mk (List.take ((wI ((p0.l.length:Int) - 1)).toNat) p0.l) p0.under p0.away p0.dead p0.most p0.ok),p1) else (if ((p1 != (255:Int))&&((p0.l.getD (wI ((p0.l.length:Int) - 1)).toNat default) != p1))=true then some false else some p0.ok).bind (fun j7 => some ((St8.mk (List.take ((wI ((p0.l.length:Int) - 1)).toNat) p0.l) p0.under p0.away p0.dead p0.most j7),(p0.l.getD (wI ((p0.l.length:Int) - 1)).toNat default)))))))
def zaW (p0:St8):Option (St8):=some (St8.mk ([]:List Int) p0.under true p0.dead p0.most p0.ok)
def zam (p0:St8) (p1:Int):Option (St8):=(if (p1==(0:Int))=true then some p0 else gd (p0.l.length * 1≤140737488355328) (gd ((p0.l.length+1) * 1≤140737488355328) ((if ((!p0.away)&&(!p0.dead))=true then some (mxI p0.most (wI (p0.under+((p0.l++([p1]:List Int)).length:Int)))) else some p0.most).bind (fun j3 => some (St8.mk (p0.l++([p1]:List Int)) p0.under p0.away p0.dead j3 p0.ok)))))
def zbb (p0:Env8) (p1:Int):Option (Int×Bool):=(if ((decide (p1<(0:Int)))||(decide (p1≥(p0.labels.length:Int))))=true then some (0,false) else gd (0≤(wI ((wI ((p0.labels.length:Int) - 1)) - p1))∧(wI ((wI ((p0.labels.length:Int) - 1)) - p1))<(p0.labels.length:Int)) (some ((p0.labels.getD (wI ((wI ((p0.labels.length:Int) - 1)) - p1)).toNat default),true)))
def zaK:Nat→Env8→Instr→(Int×Bool)→Int→Bool→Option (Bool)
 | 0,_,_,_,_,_ => none
 | k+1,p0,p2,x3,a18,a19 => (if ((p2.op==(14:Int))&&(decide (a18<(p2.labels.length:Int))))=true then gd (0≤a18∧a18<(p2.labels.length:Int)) ((zbb p0 (wI (p2.labels.getD a18.toNat default))).bind fun x21 => zaK k p0 p2 x3 (wI (a18+1)) (a19&&(x21.2&&(x21.1==x3.1)))) else some a19)
def zbj:Nat→Env8→Instr→(Int×Bool)→Int→Bool→Option (Bool)
 | 0,_,_,_,_,_ => none
 | k+1,p0,p2,x28,a43,a44 => (if ((p2.op==(14:Int))&&(decide (a43<(p2.labels.length:Int))))=true then gd (0≤a43∧a43<(p2.labels.length:Int)) ((zbb p0 (wI (p2.labels.getD a43.toNat default))).bind fun x46 => zbj k p0 p2 x28 (wI (a43+1)) (a44&&(x46.2&&(x46.1==x28.1)))) else some a44)
def zbc (K:Nat) (p0:Env8) (p1:St8) (p2:Instr):Option (St8):=(if (p2.op != (12:Int))=true then ((zad p1 127).bind fun x52 => some x52.1) else some p1).bind (fun j1 => (if (p2.op==(14:Int))=true then (if (((p2.labels.length:Int)==(0:Int))||(decide ((p2.labels.length:Int)>(257:Int))))=true then some (St8.mk j1.l j1.under j1.away j1.dead j1.most false) else gd (0≤(wI ((p2.labels.length:Int) - 1))∧(wI ((p2.labels.length:Int) - 1))<(p2.labels.length:Int)) ((zbb p0 (wI (p2.labels.getD (wI ((p2.labels.length:Int) - 1)).toNat default))).bind fun x3 => (zaK K p0 p2 x3 0 x3.2).bind (fun j5 => (if j1.ok=true then some j5 else some false).bind (fun j6 => ((zad (St8.mk j1.l j1.under j1.away j1.dead j1.most j6) x3.1).bind fun x7 => (if (p2.op==(13:Int))=true then ((zam x7.1 x3.1).bind fun x9 => some x9) else ((zaW x7.1).bind fun x11 => some x11))))))) else ((zbb p0 p2.n).bind fun x28 => (zbj K p0 p2 x28 0 x28.2).bind (fun j30 => (if j1.ok=true then some j30 else some false).bind (fun j31 => ((zad (St8.mk j1.l j1.under j1.away j1.dead j1.most j31) x28.1).bind fun x32 => (if (p2.op==(13:Int))=true then ((zam x32.1 x28.1).bind fun x34 => some x34) else ((zaW x32.1).bind fun x36 => some x36))))))))
def zbF (p0:Int) (p1:Int):Option (Bool):=some ((decide (p0≥(0:Int)))&&(decide (p0<p1)))
def zbD:Nat→Typ→St8→Int→Option (St8)
 | 0,_,_,_ => none
 | k+1,p1,a6,a7 => (if (decide (a7≥(0:Int)))=true then gd (0≤a7∧a7<(p1.params.length:Int)) ((zad a6 (p1.params.getD a7.toNat default)).bind fun x9 => zbD k p1 x9.1 (wI (a7 - 1))) else some a6)
def zbE (K:Nat) (p0:St8) (p1:Typ):Option (St8):=(zbD K p1 p0 (wI ((p1.params.length:Int) - 1))).bind (fun j1 => ((zam j1 p1.result).bind fun x2 => some x2))
def zbI (K:Nat) (p0:Env8) (p1:St8) (p2:Instr):Option (St8):=(if (p2.op==(16:Int))=true then ((zbF p2.n (p0.m.funcs.length:Int)).bind fun x1 => (if (!x1)=true then some (St8.mk p1.l p1.under p1.away p1.dead p1.most false) else gd (0≤p2.n∧p2.n<(p0.m.funcs.length:Int)) ((zbF (wI ((p0.m.funcs.getD p2.n.toNat default).type_)) (p0.m.types.length:Int)).bind fun x4 => (if (!x4)=true then some (St8.mk p1.l p1.under p1.away p1.dead p1.most false) else gd (0≤(wI ((p0.m.funcs.getD p2.n.toNat default).type_))∧(wI ((p0.m.funcs.getD p2.n.toNat default).type_))<(p0.m.types.length:Int)) ((zbE K p1 (p0.m.types.getD (wI ((p0.m.funcs.getD p2.n.toNat default).type_)).toNat default)).bind fun x7 => some x7))))) else (if p1.ok=true then some (decide ((p0.m.tables.length:Int)>(0:Int))) else some false).bind (fun j9 => ((zad (St8.mk p1.l p1.under p1.away p1.dead p1.most j9) 127).bind fun x10 => ((zbF p2.n (p0.m.types.length:Int)).bind fun x12 => (if (!x12)=true then some (St8.mk x10.1.l x10.1.under x10.1.away x10.1.dead x10.1.most false) else gd (0≤p2.n∧p2.n<(p0.m.types.length:Int)) ((zbE K x10.1 (p0.m.types.getD p2.n.toNat default)).bind fun x15 => some x15))))))
def zaA (p0:Env8) (p1:St8) (p2:Instr):Option (St8):=(if (decide (p2.op≥(35:Int)))=true then some (p0.m.globals.length:Int) else some (p0.locals.length:Int)).bind (fun j1 => ((zbF p2.n j1).bind fun x2 => (if (!x2)=true then some (St8.mk p1.l p1.under p1.away p1.dead p1.most false) else (if (decide (p2.op≥(35:Int)))=true then gd (0≤p2.n∧p2.n<(p0.m.globals.length:Int)) ((if p1.ok=true then (if (p2.op==(35:Int))=true then some true else gd (0≤p2.n∧p2.n<(p0.m.globals.length:Int)) (some ((p0.m.globals.getD p2.n.toNat default).mut_))) else some false).bind (fun j20 => some ((p0.m.globals.getD p2.n.toNat default).kind,j20))) else gd (0≤p2.n∧p2.n<(p0.locals.length:Int)) (some ((p0.locals.getD p2.n.toNat default),p1.ok))).bind (fun | (j4,j5) => (if ((p2.op==(33:Int))||((p2.op==(34:Int))||(p2.op==(36:Int))))=true then ((zad (St8.mk p1.l p1.under p1.away p1.dead p1.most j5) j4).bind fun x13 => some x13.1) else some (St8.mk p1.l p1.under p1.away p1.dead p1.most j5)).bind (fun j6 => (if ((p2.op==(32:Int))||((p2.op==(34:Int))||(p2.op==(35:Int))))=true then ((zam j6 j4).bind fun x8 => some x8) else some j6).bind (fun j7 => some j7))))))
def zbe:Nat→Instr→Int→Int→Option (Int)
 | 0,_,_,_ => none
 | k+1,p2,a17,a18 => (if ((decide (a18<p2.align))&&(decide (a17≤(8:Int))))=true then zbe k p2 (wI (2 * a17)) (IntKind.wrap .u32 (a18+1)) else some a17)
def zbQ (K:Nat) (p0:Env8) (p1:St8) (p2:Instr):Option (St8):=((zjc p2.op).bind fun x1 => ((zjd p2.op).bind fun x3 => ((zhB p2.op).bind fun x5 => (if ((!x1.2.2)||(bif (x3.1==(4:Int)) then (((p0.m.memories.length:Int)==(0:Int))||((x3.1==(1:Int))&&((decide (p2.n<((-2147483648):Int)))||(decide (p2.n≥(2147483648:Int)))))) else (bif (x3.1==(5:Int)) then (((p0.m.memories.length:Int)==(0:Int))||((x3.1==(1:Int))&&((decide (p2.n<((-2147483648):Int)))||(decide (p2.n≥(2147483648:Int)))))) else ((x3.1==(1:Int))&&((decide (p2.n<((-2147483648):Int)))||(decide (p2.n≥(2147483648:Int))))))))=true then some (St8.mk p1.l p1.under p1.away p1.dead p1.most false) else (if x5.2.2=true then (zbe K p2 1 0).bind (fun j10 => (if p1.ok=true then some (decide (j10≤x5.1)) else some false).bind (fun j11 => some j11)) else some p1.ok).bind (fun j7 => ((zbE K (St8.mk p1.l p1.under p1.away p1.dead p1.most j7) (Typ.mk x1.1 x1.2.1)).bind fun x8 => some x8))))))
mutual
def zao:Nat→Env8→St8→(List Instr)→Int→Int→Option (St8)
 | 0,_,_,_,_,_ => none
 | k+1,p0,p1,p2,p3,p4 => gd (p0.labels.length * 1≤140737488355328) (gd ((p0.labels.length+1) * 1≤140737488355328) ((if p1.away=true then ((zan k (Env8.mk p0.m p0.result p0.locals (p0.labels++([p4]:List Int))) (St8.mk ([]:List Int) (wI (p1.under+(p1.l.length:Int))) false true p1.most p1.ok) p2).bind fun x3 => some x3) else ((zan k (Env8.mk p0.m p0.result p0.locals (p0.labels++([p4]:List Int))) (St8.mk ([]:List Int) (wI (p1.under+(p1.l.length:Int))) false p1.dead p1.most p1.ok) p2).bind fun x5 => some x5)).bind (fun j7 => ((zad j7 p3).bind fun x8 => (if x8.1.ok=true then some ((x8.1.l.length:Int)==(0:Int)) else some false).bind (fun j10 => some (St8.mk p1.l p1.under p1.away p1.dead x8.1.most j10))))))
def zbB:Nat→Env8→St8→Instr→Option (St8)
 | 0,_,_,_ => none
 | k+1,p0,p1,p2 => (if ((p2.result != (0:Int))&&((p2.result != (127:Int))&&(p2.result != (126:Int))))=true then some (St8.mk p1.l p1.under p1.away p1.dead p1.most false) else (if (p2.op==(2:Int))=true then ((zao k p0 p1 p2.body p2.result p2.result).bind fun x4 => some x4) else (if (p2.op==(3:Int))=true then ((zao k p0 p1 p2.body p2.result 0).bind fun x6 => some x6) else ((zad p1 127).bind fun x8 => ((zao k p0 x8.1 p2.body p2.result p2.result).bind fun x10 => ((zao k p0 x10 p2.els p2.result p2.result).bind fun x12 => some x12))))).bind (fun j1 => ((zam j1 p2.result).bind fun x2 => some x2)))
def zan:Nat→Env8→St8→(List Instr)→Option (St8)
 | 0,_,_,_ => none
 | k+1,p0,p1,p2 => (lpN k (fun (rec6:St8×Int→Option (St8)) v => match v with | (a4,a5) => (if ((decide (a5<(p2.length:Int)))&&a4.ok)=true then (gd (0≤a5∧a5<(p2.length:Int)) (if (((p2.getD a5.toNat default).op)==(0:Int))=true then ((zaW a4).bind fun x9 => some x9) else (if (((p2.getD a5.toNat default).op)==(1:Int))=true then some a4 else (if ((decide (((p2.getD a5.toNat default).op)≥(2:Int)))&&(decide (((p2.getD a5.toNat default).op)≤(4:Int))))=true then ((zbB k p0 a4 (p2.getD a5.toNat default)).bind fun x11 => some x11) else (if ((decide (((p2.getD a5.toNat default).op)≥(12:Int)))&&(decide (((p2.getD a5.toNat default).op)≤(14:Int))))=true then ((zbc k p0 a4 (p2.getD a5.toNat default)).bind fun x13 => some x13) else (if (((p2.getD a5.toNat default).op)==(15:Int))=true then ((zad a4 p0.result).bind fun x15 => ((zaW x15.1).bind fun x17 => some x17)) else (if ((((p2.getD a5.toNat default).op)==(16:Int))||(((p2.getD a5.toNat default).op)==(17:Int)))=true then ((zbI k p0 a4 (p2.getD a5.toNat default)).bind fun x19 => some x19) else (if (((p2.getD a5.toNat default).op)==(26:Int))=true then ((zad a4 255).bind fun x21 => some x21.1) else (if (((p2.getD a5.toNat default).op)==(27:Int))=true then ((zad a4 127).bind fun x23 => ((zad x23.1 255).bind fun x25 => ((zad x25.1 x25.2).bind fun x27 => ((zam x27.1 x27.2).bind fun x29 => some x29)))) else (if ((decide (((p2.getD a5.toNat default).op)≥(32:Int)))&&(decide (((p2.getD a5.toNat default).op)≤(36:Int))))=true then ((zaA p0 a4 (p2.getD a5.toNat default)).bind fun x31 => some x31) else ((zbQ k p0 a4 (p2.getD a5.toNat default)).bind fun x33 => some x33))))))))))).bind (fun j7 => rec6 (j7,(wI (a5+1)))) else some a4)) (p1,0)).bind (fun j1 => some j1)
end
def zeu (K:Nat) (p0:Mdl) (p1:Int):Option (Int×Int):=(if (decide (p1<(0:Int)))=true then some true else (if (decide (p1≥(p0.funcs.length:Int)))=true then some true else gd (0≤p1∧p1<(p0.funcs.length:Int)) (if (decide (((p0.funcs.getD p1.toNat default).type_)≥(IntKind.wrap .u32 (p0.types.length:Int))))=true then some true else ((zeD K p0).bind fun x2 => some (!x2))))).bind (fun j4 => (if j4=true then some (1,0) else gd (0≤p1∧p1<(p0.funcs.length:Int)) (gd (0≤((p0.funcs.getD p1.toNat default).type_)∧((p0.funcs.getD p1.toNat default).type_)<(p0.types.length:Int)) (gd (((p0.types.getD ((p0.funcs.getD p1.toNat default).type_).toNat default).params).length * 1≤140737488355328) (gd (0≤p1∧p1<(p0.funcs.length:Int)) (gd ((((p0.types.getD ((p0.funcs.getD p1.toNat default).type_).toNat default).params).length+((p0.funcs.getD p1.toNat default).locals).length) * 1≤140737488355328) (gd (0≤p1∧p1<(p0.funcs.length:Int)) ((zan K (Env8.mk p0 ((p0.types.getD ((p0.funcs.getD p1.toNat default).type_).toNat default).result) ((p0.types.getD ((p0.funcs.getD p1.toNat default).type_).toNat default).params++(p0.funcs.getD p1.toNat default).locals) ([(p0.types.getD ((p0.funcs.getD p1.toNat default).type_).toNat default).result]:List Int)) (St8.mk ([]:List Int) 0 false false 0 true) ((p0.funcs.getD p1.toNat default).body)).bind fun x11 => ((zad x11 ((p0.types.getD ((p0.funcs.getD p1.toNat default).type_).toNat default).result)).bind fun x13 => (if ((!x13.1.ok)||(decide ((x13.1.l.length:Int)>(0:Int))))=true then some (7,0) else some (0,x13.1.most)))))))))))
def zbA (K:Nat) (p0:Mdl) (p1:Int):Option (Int×Option Int):=((zcV K p0 p1).bind fun x1 => (if (!x1.2.isNone)=true then some (0,x1.2) else ((x1.1).bind fun x3 => some (x3.most,none))))
theorem zga (K:Nat) (p0:Mdl) (p1:Int) (r:Int×Option Int) (H:zbA K p0 p1=some r):CF E 7 [.agg (eMdl p0),.int .i64 p1] (.tup [.int .i64 r.1,.err 45 r.2]):=by
 refine zfZ (A:=zgy) zjf rfl fun fr => ?_
 unfold zbA at H
 refine AW2.seq ?_
 refine r_ [.k 2] [1,2] [] [.k 2] ⟨[(1,.d (.int .i64 p1)),(2,.p 2 0)],[(2,.st false (eD (eMdl p0)))]⟩ (a_ t_ t_) ?_
 refine AW2.seq ?_
 obtain ⟨x1,hx2,H⟩:=bind_some H
 refine r_ [.r (.tup [.pt (x1.1.map eChecker),.err 45 x1.2])] [6,7] [] [] ⟨[(6,.d (.pt (x1.1.map eChecker))),(7,.d (.err 45 x1.2))],[]⟩ (a_ (a_ (zlT K p0 p1 x1 hx2) t_) t_) ?_
 refine AW2.seq ?_
 refine AW2.seq ?_
 refine r_ [] [6,7,15] [] [] ⟨[(6,.d (.pt (x1.1.map eChecker))),(7,.d (.err 45 x1.2)),(15,.d (.bool (!x1.2.isNone)))],[]⟩ (a_ t_ t_) ?_
 refine AW2.cond (b:=(!x1.2.isNone)) rfl (fun hc => ?_) (fun hc => ?_)
 ·replace H:=zaC H hc
  refine AW2.seq ?_
  refine r_ [] [4,5] [] [] ⟨[(4,.d (.int .i64 0)),(5,.d (.err 45 x1.2))],[]⟩ (a_ t_ t_) ?_
  refine AW2.ret ?_
  have H:=Option.some.inj H
  subst H
  exact retP_mk2 t_ (by kernel_rfl)
 ·replace H:=zaD H hc
  refine AW2.skip ?_
  refine AW2.seq ?_
  obtain ⟨x3,hx4,H⟩:=bind_some H
  refine r_ [.e (eChecker x3)] [4,5] [] [] ⟨[(4,.d (.int .i64 x3.most)),(5,.d .nili)],[]⟩ (a_ (a_ (optS eChecker hx4) t_) t_) ?_
  refine AW2.ret ?_
  have H:=Option.some.inj H
  subst H
  exact retP_mk2 t_ (by kernel_rfl)
def zec (p0:List Int) (p1:Int) (p2:List Instr):Option (Mdl):=some (Mdl.mk ([(Typ.mk p0 p1),(Typ.mk ([127]:List Int) 126),(Typ.mk ([]:List Int) 0)]:List Typ) ([(Fnc.mk 0 ([127,126]:List Int) p2),(Fnc.mk 1 ([]:List Int) ([(Instr.mk 66 0 0 0 0 ([]:List Instr) ([]:List Instr) ([]:List Int))]:List Instr)),(Fnc.mk 2 ([]:List Int) ([]:List Instr))]:List Fnc) ([(Lim.mk 4 false 0)]:List Lim) ([(Lim.mk 1 false 0)]:List Lim) ([(Glo.mk 127 true (Instr.mk 65 0 0 0 0 ([]:List Instr) ([]:List Instr) ([]:List Int))),(Glo.mk 126 false (Instr.mk 66 0 0 0 0 ([]:List Instr) ([]:List Instr) ([]:List Int)))]:List Glo) ([]:List Xpo) ([]:List Ele) ([]:List Dat))
theorem ztz (p0:List Int) (p1:Int) (p2:List Instr) (r:Mdl) (H:zec p0 p1 p2=some r):CF E 11 [sV (eI .u8) p0,.int .u8 p1,sVI p2] (.agg (eMdl r)):=by
 refine zfZ (A:=zml) zsk rfl fun fr => ?_
 unfold zec at H
 refine AW2.seq ?_
 refine r_ [.k 6] [0,1,2,6] [] [.k 6] ⟨[(0,.d (sV (eI .u8) p0)),(1,.d (.int .u8 p1)),(2,.d (sVI p2)),(6,.p 6 0)],[(6,.st false [.d .nils,.d .nils,.d .nils,.d .nils,.d .nils,.d .nils,.d .nils,.d .nils])]⟩ (a_ t_ t_) ?_
 refine AW2.seq ?_
 refine r_ [.k 7] [0,1,2,6,7] [] [.k 6,.k 7] ⟨[(0,.d (sV (eI .u8) p0)),(1,.d (.int .u8 p1)),(2,.d (sVI p2)),(6,.p 6 0),(7,.p 7 0)],[(6,.st false [.d .nils,.d .nils,.d .nils,.d .nils,.d .nils,.d .nils,.d .nils,.d .nils]),(7,.st false [.d (.int .u8 65),.d (.int .i64 0),.d (.int .u32 0),.d (.int .u32 0),.d (.int .u8 0),.d .nils,.d .nils,.d .nils])]⟩ (a_ t_ t_) ?_
 refine AW2.seq ?_
 refine r_ [.k 8] [0,1,2,6,7,8] [] [.k 6,.k 7,.k 8] ⟨[(0,.d (sV (eI .u8) p0)),(1,.d (.int .u8 p1)),(2,.d (sVI p2)),(6,.p 6 0),(7,.p 7 0),(8,.p 8 0)],[(6,.st false [.d .nils,.d .nils,.d .nils,.d .nils,.d .nils,.d .nils,.d .nils,.d .nils]),(7,.st false [.d (.int .u8 65),.d (.int .i64 0),.d (.int .u32 0),.d (.int .u32 0),.d (.int .u8 0),.d .nils,.d .nils,.d .nils]),(8,.st false [.d (.int .u8 66),.d (.int .i64 0),.d (.int .u32 0),.d (.int .u32 0),.d (.int .u8 0),.d .nils,.d .nils,.d .nils])]⟩ (a_ t_ t_) ?_
 refine AW2.seq ?_
 refine r_ [.sb ([127]:List Int).length (fl (eI .u8) ([127]:List Int)),.sb ([(Typ.mk p0 p1),(Typ.mk ([127]:List Int) 126),(Typ.mk ([]:List Int) 0)]:List Typ).length (fl eTyp ([(Typ.mk p0 p1),(Typ.mk ([127]:List Int) 126),(Typ.mk ([]:List Int) 0)]:List Typ)),.sb ([127,126]:List Int).length (fl (eI .u8) ([127,126]:List Int)),.sb ([(Instr.mk 66 0 0 0 0 ([]:List Instr) ([]:List Instr) ([]:List Int))]:List Instr).length (flI ([(Instr.mk 66 0 0 0 0 ([]:List Instr) ([]:List Instr) ([]:List Int))]:List Instr)),.sb ([(Fnc.mk 0 ([127,126]:List Int) p2),(Fnc.mk 1 ([]:List Int) ([(Instr.mk 66 0 0 0 0 ([]:List Instr) ([]:List Instr) ([]:List Int))]:List Instr)),(Fnc.mk 2 ([]:List Int) ([]:List Instr))]:List Fnc).length (fl eFnc ([(Fnc.mk 0 ([127,126]:List Int) p2),(Fnc.mk 1 ([]:List Int) ([(Instr.mk 66 0 0 0 0 ([]:List Instr) ([]:List Instr) ([]:List Int))]:List Instr)),(Fnc.mk 2 ([]:List Int) ([]:List Instr))]:List Fnc)),.sb ([(Lim.mk 4 false 0)]:List Lim).length (fl eLim ([(Lim.mk 4 false 0)]:List Lim)),.sb ([(Lim.mk 1 false 0)]:List Lim).length (fl eLim ([(Lim.mk 1 false 0)]:List Lim)),.sb ([(Glo.mk 127 true (Instr.mk 65 0 0 0 0 ([]:List Instr) ([]:List Instr) ([]:List Int))),(Glo.mk 126 false (Instr.mk 66 0 0 0 0 ([]:List Instr) ([]:List Instr) ([]:List Int)))]:List Glo).length (fl eGlo ([(Glo.mk 127 true (Instr.mk 65 0 0 0 0 ([]:List Instr) ([]:List Instr) ([]:List Int))),(Glo.mk 126 false (Instr.mk 66 0 0 0 0 ([]:List Instr) ([]:List Instr) ([]:List Int)))]:List Glo))] [6] [] [.k 6] ⟨[(6,.p 6 0)],[(6,.st false [.d (sV eTyp ([(Typ.mk p0 p1),(Typ.mk ([127]:List Int) 126),(Typ.mk ([]:List Int) 0)]:List Typ)),.d (sV eFnc ([(Fnc.mk 0 ([127,126]:List Int) p2),(Fnc.mk 1 ([]:List Int) ([(Instr.mk 66 0 0 0 0 ([]:List Instr) ([]:List Instr) ([]:List Int))]:List Instr)),(Fnc.mk 2 ([]:List Int) ([]:List Instr))]:List Fnc)),.d (sV eLim ([(Lim.mk 4 false 0)]:List Lim)),.d (sV eLim ([(Lim.mk 1 false 0)]:List Lim)),.d (sV eGlo ([(Glo.mk 127 true (Instr.mk 65 0 0 0 0 ([]:List Instr) ([]:List Instr) ([]:List Int))),(Glo.mk 126 false (Instr.mk 66 0 0 0 0 ([]:List Instr) ([]:List Instr) ([]:List Int)))]:List Glo)),.d .nils,.d .nils,.d .nils])]⟩ (a_ (a_ (litF (eI .u8) ([127]:List Int)) (a_ (litF eTyp ([(Typ.mk p0 p1),(Typ.mk ([127]:List Int) 126),(Typ.mk ([]:List Int) 0)]:List Typ)) (a_ (litF (eI .u8) ([127,126]:List Int)) (a_ (litI ([(Instr.mk 66 0 0 0 0 ([]:List Instr) ([]:List Instr) ([]:List Int))]:List Instr)) (a_ (litF eFnc ([(Fnc.mk 0 ([127,126]:List Int) p2),(Fnc.mk 1 ([]:List Int) ([(Instr.mk 66 0 0 0 0 ([]:List Instr) ([]:List Instr) ([]:List Int))]:List Instr)),(Fnc.mk 2 ([]:List Int) ([]:List Instr))]:List Fnc)) (a_ (litF eLim ([(Lim.mk 4 false 0)]:List Lim)) (a_ (litF eLim ([(Lim.mk 1 false 0)]:List Lim)) (a_ (litF eGlo ([(Glo.mk 127 true (Instr.mk 65 0 0 0 0 ([]:List Instr) ([]:List Instr) ([]:List Int))),(Glo.mk 126 false (Instr.mk 66 0 0 0 0 ([]:List Instr) ([]:List Instr) ([]:List Int)))]:List Glo)) t_)))))))) t_) ?_
 refine AW2.ret ?_
 have H:=Option.some.inj H
 subst H
 exact retP_mk2 t_ (by kernel_rfl)
end Go.Proofs.YtablleokoifolaaGreatDoor
set_option linter.unusedVariables false
set_option linter.unusedSimpArgs false
set_option maxRecDepth 100000
namespace Go.Proofs.YtablleokoifolaaGreatDoor
open Go
theorem wI_nat (i:Nat) (h:i<140737488355328):wI ((i:Int)+1)=((i+1:Nat):Int):=by
 rw [wI_small (by omega) (by omega)]; omega
theorem takeS {α:Type} [Inhabited α] (l:List α) (i:Nat) (h:i<l.length):l.take i++[l.getD (i:Int).toNat default]=l.take (i+1):=by
 rw [Int.toNat_natCast,List.take_add_one]
 simp [List.getD_eq_getElem?_getD,h]
theorem takeL' {α:Type} (l:List α) (i:Nat) (h:i≤l.length) (h':¬ i<l.length):l.take i=l:=by
 have:i=l.length:=by omega
 subst this; exact List.take_length
theorem dltT {a b:Nat} (h:a<b):decide ((a:Int)<(b:Int))=true:=decide_eq_true (by omega)
theorem dltF {a b:Nat} (h:¬ a<b):¬ decide ((a:Int)<(b:Int))=true:=fun e => by have:=of_decide_eq_true e; omega
theorem getD_mem {α:Type} [Inhabited α] (l:List α) (i:Nat) (h:i<l.length):l.getD (i:Int).toNat default∈l:=by
 rw [Int.toNat_natCast,List.getD_eq_getElem?_getD,List.getElem?_eq_getElem h]
 exact List.getElem_mem h
theorem tlen {α:Type} (l:List α) (i:Nat):(l.take i).length≤i:=by simp; omega
theorem zuT (l:List Int) (hl:l.length<1000000000):∀ k (i:Nat),i≤l.length→l.length - i<k→zbO k l (l.take i) (i:Int)=some l:=by
 intro k
 induction k with
 | zero => intro i _ h; omega
 | succ k ih => 
  intro i h1 h2
  have:=tlen l i
  simp only [zbO]
  by_cases h:i<l.length
  ·rw [if_pos (dltT h),zap (by omega),zap (by omega),takeS l i h,wI_nat i (by omega)]
   exact ih (i+1) h (by omega)
  ·rw [if_neg (dltF h),takeL' l i h1 h]
theorem zvz (K:Nat) (l:List Int) (hl:l.length<1000000000) (hK:l.length<K):zcW K l=some l:=by
 unfold zcW
 have:=zuT l hl K 0 (Nat.zero_le _) (by omega)
 simp only [List.take_zero] at this
 rw [show (0:Int)=((0:Nat):Int) from rfl,this]; rfl
mutual
def wtI:Instr→Nat
 | .mk _ _ _ _ _ b e _ => 3+wtL b+wtL e
def wtL:List Instr→Nat
 | [] => 1
 | x :: l => wtI x+wtL l
end
theorem wtI_eq (x:Instr):wtI x=3+wtL x.body+wtL x.els:=by cases x; simp only [wtI,Instr.body,Instr.els]
theorem wtL_pos (l:List Instr):1≤wtL l∧l.length<wtL l:=by
 induction l with
 | nil => simp [wtL]
 | cons x l ih => simp only [wtL,List.length_cons,wtI_eq]; omega
theorem wtL_mem {l:List Instr} {x:Instr} (h:x∈l):wtI x+1≤wtL l:=by
 induction l with
 | nil => cases h
 | cons y l ih => 
  simp only [wtL]
  rcases List.mem_cons.1 h with rfl | h
  ·have:=(wtL_pos l).1; omega
  ·have:=ih h; omega
theorem zwQ:∀ (K:Nat) (l:List Instr),wtL l<K→wtL l<1000000000→zbk K l=some l:=by
 intro K
 induction K with
 | zero => intro l h; omega
 | succ k ih => 
  intro l h hs
  have hw:=wtL_pos l
  simp only [zbk]
  have key:∀ (q i:Nat),i≤l.length→l.length - i<q→lpN q (fun (rec6:(List Instr)×Int→Option (List Instr)) v => match v with | (a4,a5) => (if (decide (a5<(l.length:Int)))=true then gd (0≤a5∧a5<(l.length:Int)) ((zbk k ((l.getD a5.toNat default).body)).bind fun x8 => ((zbk k ((l.getD a5.toNat default).els)).bind fun x10 => gd ((a4.length+1) * 104≤140737488355328) (rec6 ((a4++([(Instr.mk ((l.getD a5.toNat default).op) ((l.getD a5.toNat default).n) ((l.getD a5.toNat default).align) ((l.getD a5.toNat default).offset) ((l.getD a5.toNat default).result) x8 x10 ((l.getD a5.toNat default).labels))]:List Instr)),(wI (a5+1)))))) else some a4)) (l.take i,(i:Int))=some l:=by
   intro q
   induction q with
   | zero => intro i _ h; omega
   | succ q ihq => 
    intro i h1 h2
    have:=tlen l i
    simp only [lpN]
    by_cases h:i<l.length
    ·have hm:=getD_mem l i h
     have hx:=wtL_mem hm
     rw [wtI_eq] at hx
     rw [if_pos (dltT h),zap (by omega),ih _ (by omega) (by omega),Option.bind_some,ih _ (by omega) (by omega),Option.bind_some,zap (by omega),Instr.eta,takeS l i h,wI_nat i (by omega)]
     exact ihq (i+1) h (by omega)
    ·rw [if_neg (dltF h),takeL' l i h1 h]
  have:=key k 0 (Nat.zero_le _) (by omega)
  rw [List.take_zero] at this
  exact congrArg (fun o => o.bind (fun j1 => some j1)) this
theorem zwJ (K:Nat) (x:Instr) (h:wtI x+1<K) (hs:wtI x+1<1000000000):zdG K x=some x:=by
 unfold zdG
 have hw:wtL [x]=wtI x+1:=by simp [wtL]
 rw [zwQ K [x] (by omega) (by omega)]
 rfl
structure GvOk (K:Nat) (m:Mdl):Prop where
 K0:K<1000000000
 types:m.types.length<K
 typ:∀ t∈m.types,t.params.length<K
 funcs:m.funcs.length<K
 fnc:∀ f∈m.funcs,f.locals.length<K∧wtL f.body<K
 tables:m.tables.length<K
 memories:m.memories.length<K
 globals:m.globals.length<K
 glo:∀ g∈m.globals,wtI g.init_+1<K
 exports:m.exports.length<K
 elems:m.elems.length<K
 ele:∀ e∈m.elems,wtI e.offset+1<K
 datas:m.datas.length<K
 dat:∀ d∈m.datas,wtI d.offset+1<K
theorem zyE {K:Nat} {m:Mdl} (o:GvOk K m):∀ k (i:Nat),i≤m.types.length→m.types.length - i<k→zaM k K m (m.types.take i) (i:Int)=some m.types:=by
 intro k
 induction k with
 | zero => intro i _ h; omega
 | succ k ih => 
  intro i h1 h2
  have:=tlen m.types i; have:=o.K0; have:=o.types
  simp only [zaM]
  by_cases h:i<m.types.length
  ·have hm:=o.typ _ (getD_mem m.types i h)
   rw [if_pos (dltT h),zap (by omega),zvz K _ (by omega) hm,Option.bind_some,zap (by omega),zap (by omega)]
   rw [show ∀ t:Typ,Typ.mk t.params t.result=t from fun _ => rfl,takeS _ i h,wI_nat i (by omega)]
   exact ih (i+1) h (by omega)
  ·rw [if_neg (dltF h),takeL' _ i h1 h]
theorem zyF {K:Nat} {m:Mdl} (o:GvOk K m):∀ k (i:Nat),i≤m.funcs.length→m.funcs.length - i<k→zaN k K m (m.funcs.take i) (i:Int)=some m.funcs:=by
 intro k
 induction k with
 | zero => intro i _ h; omega
 | succ k ih => 
  intro i h1 h2
  have:=tlen m.funcs i; have:=o.K0; have:=o.funcs
  simp only [zaN]
  by_cases h:i<m.funcs.length
  ·have hm:=o.fnc _ (getD_mem m.funcs i h)
   rw [if_pos (dltT h),zap (by omega),zap (by omega),zvz K _ (by omega) hm.1,Option.bind_some,zap (by omega),zwQ K _ hm.2 (by omega),Option.bind_some,zap (by omega)]
   rw [show ∀ t:Fnc,Fnc.mk t.type_ t.locals t.body=t from fun _ => rfl,takeS _ i h,wI_nat i (by omega)]
   exact ih (i+1) h (by omega)
  ·rw [if_neg (dltF h),takeL' _ i h1 h]
theorem zyG {K:Nat} {m:Mdl} (o:GvOk K m):∀ k (i:Nat),i≤m.tables.length→m.tables.length - i<k→zaO k m (m.tables.take i) (i:Int)=some m.tables:=by
 intro k
 induction k with
 | zero => intro i _ h; omega
 | succ k ih => 
  intro i h1 h2
  have:=tlen m.tables i; have:=o.K0; have:=o.tables
  simp only [zaO]
  by_cases h:i<m.tables.length
  ·rw [if_pos (dltT h),zap (by omega),zap (by omega),takeS _ i h,wI_nat i (by omega)]
   exact ih (i+1) h (by omega)
  ·rw [if_neg (dltF h),takeL' _ i h1 h]
theorem zyH {K:Nat} {m:Mdl} (o:GvOk K m):∀ k (i:Nat),i≤m.memories.length→m.memories.length - i<k→zaP k m (m.memories.take i) (i:Int)=some m.memories:=by
 intro k
 induction k with
 | zero => intro i _ h; omega
 | succ k ih => 
  intro i h1 h2
  have:=tlen m.memories i; have:=o.K0; have:=o.memories
  simp only [zaP]
  by_cases h:i<m.memories.length
  ·rw [if_pos (dltT h),zap (by omega),zap (by omega),takeS _ i h,wI_nat i (by omega)]
   exact ih (i+1) h (by omega)
  ·rw [if_neg (dltF h),takeL' _ i h1 h]
theorem zyI {K:Nat} {m:Mdl} (o:GvOk K m):∀ k (i:Nat),i≤m.globals.length→m.globals.length - i<k→zaQ k K m (m.globals.take i) (i:Int)=some m.globals:=by
 intro k
 induction k with
 | zero => intro i _ h; omega
 | succ k ih => 
  intro i h1 h2
  have:=tlen m.globals i; have:=o.K0; have:=o.globals
  simp only [zaQ]
  by_cases h:i<m.globals.length
  ·have hm:=o.glo _ (getD_mem m.globals i h)
   rw [if_pos (dltT h),zap (by omega),zap (by omega),zap (by omega),zwJ K _ hm (by omega),Option.bind_some,zap (by omega)]
   rw [show ∀ t:Glo,Glo.mk t.kind t.mut_ t.init_=t from fun _ => rfl,takeS _ i h,wI_nat i (by omega)]
   exact ih (i+1) h (by omega)
  ·rw [if_neg (dltF h),takeL' _ i h1 h]
theorem zyJ {K:Nat} {m:Mdl} (o:GvOk K m):∀ k (i:Nat),i≤m.exports.length→m.exports.length - i<k→zaR k m (m.exports.take i) (i:Int)=some m.exports:=by
 intro k
 induction k with
 | zero => intro i _ h; omega
 | succ k ih => 
  intro i h1 h2
  have:=tlen m.exports i; have:=o.K0; have:=o.exports
  simp only [zaR]
  by_cases h:i<m.exports.length
  ·rw [if_pos (dltT h),zap (by omega),zap (by omega),takeS _ i h,wI_nat i (by omega)]
   exact ih (i+1) h (by omega)
  ·rw [if_neg (dltF h),takeL' _ i h1 h]
theorem zyK {K:Nat} {m:Mdl} (o:GvOk K m):∀ k (i:Nat),i≤m.elems.length→m.elems.length - i<k→zaS k K m (m.elems.take i) (i:Int)=some m.elems:=by
 intro k
 induction k with
 | zero => intro i _ h; omega
 | succ k ih => 
  intro i h1 h2
  have:=tlen m.elems i; have:=o.K0; have:=o.elems
  simp only [zaS]
  by_cases h:i<m.elems.length
  ·have hm:=o.ele _ (getD_mem m.elems i h)
   rw [if_pos (dltT h),zap (by omega),zap (by omega),zwJ K _ hm (by omega),Option.bind_some,zap (by omega),zap (by omega)]
   rw [show ∀ t:Ele,Ele.mk t.table t.offset t.funcs=t from fun _ => rfl,takeS _ i h,wI_nat i (by omega)]
   exact ih (i+1) h (by omega)
  ·rw [if_neg (dltF h),takeL' _ i h1 h]
theorem zyL {K:Nat} {m:Mdl} (o:GvOk K m):∀ k (i:Nat),i≤m.datas.length→m.datas.length - i<k→zaT k K m (m.datas.take i) (i:Int)=some m.datas:=by
 intro k
 induction k with
 | zero => intro i _ h; omega
 | succ k ih => 
  intro i h1 h2
  have:=tlen m.datas i; have:=o.K0; have:=o.datas
  simp only [zaT]
  by_cases h:i<m.datas.length
  ·have hm:=o.dat _ (getD_mem m.datas i h)
   rw [if_pos (dltT h),zap (by omega),zap (by omega),zwJ K _ hm (by omega),Option.bind_some,zap (by omega),zap (by omega)]
   rw [show ∀ t:Dat,Dat.mk t.memory t.offset t.bytes=t from fun _ => rfl,takeS _ i h,wI_nat i (by omega)]
   exact ih (i+1) h (by omega)
  ·rw [if_neg (dltF h),takeL' _ i h1 h]
theorem giveModule_id {K:Nat} {m:Mdl} (o:GvOk K m):zaF K m=some m:=by
 unfold zaF
 have h7:=zyE o K 0 (Nat.zero_le _) (by have:=o.types; omega)
 have h6:=zyF o K 0 (Nat.zero_le _) (by have:=o.funcs; omega)
 have h5:=zyG o K 0 (Nat.zero_le _) (by have:=o.tables; omega)
 have h4:=zyH o K 0 (Nat.zero_le _) (by have:=o.memories; omega)
 have h3:=zyI o K 0 (Nat.zero_le _) (by have:=o.globals; omega)
 have h2:=zyJ o K 0 (Nat.zero_le _) (by have:=o.exports; omega)
 have h1:=zyK o K 0 (Nat.zero_le _) (by have:=o.elems; omega)
 have h0:=zyL o K 0 (Nat.zero_le _) (by have:=o.datas; omega)
 simp only [List.take_zero] at h0 h1 h2 h3 h4 h5 h6 h7
 simp only [show (0:Int)=((0:Nat):Int) from rfl]
 rw [h7,Option.bind_some,h6,Option.bind_some,h5,Option.bind_some,h4,Option.bind_some,h3,Option.bind_some,h2,Option.bind_some,h1,Option.bind_some,h0]
 rfl
def stepC (k:Nat) (c:Checker) (x:Instr):Option Checker:=
 if c.bad=true then some c else if decide (x.op<(26:Int))=true then zab k c x else zag c x
theorem zxx (k:Nat) (l:List Instr) {c:Checker} (h:c.bad=true):l.foldlM (stepC k) c=some c:=by
 induction l with
 | nil => rfl
 | cons x l ih => 
  rw [List.foldlM_cons]
  have:stepC k c x=some c:=by unfold stepC; rw [if_pos h]
  rw [this]; exact ih
theorem dropS {α:Type} [Inhabited α] (l:List α) (i:Nat) (h:i<l.length):l.drop i=l.getD (i:Int).toNat default :: l.drop (i+1):=by
 rw [Int.toNat_natCast,List.drop_eq_getElem_cons h]
 simp [List.getD_eq_getElem?_getD,h]
theorem zwL (k:Nat) (c:Checker) (l:List Instr) (hk:l.length<k) (hs:l.length<1000000000):zaj (k+1) c l=l.foldlM (stepC k) c:=by
 simp only [zaj]
 have key:∀ (q i:Nat) (c:Checker),i≤l.length→l.length - i<q→lpN q (fun (rec5:Checker×Int→Option (Checker)) v => match v with | (a3,a4) => (if (decide (a4<(l.length:Int)))=true then gd (0≤a4∧a4<(l.length:Int)) (if a3.bad=true then some a3 else (if (decide (((l.getD a4.toNat default).op)<(26:Int)))=true then ((zab k a3 (l.getD a4.toNat default)).bind fun x7 => rec5 (x7,(wI (a4+1)))) else ((zag a3 (l.getD a4.toNat default)).bind fun x9 => rec5 (x9,(wI (a4+1)))))) else some a3)) (c,(i:Int))=(l.drop i).foldlM (stepC k) c:=by
  intro q
  induction q with
  | zero => intro i c _ h; omega
  | succ q ih => 
   intro i c h1 h2
   simp only [lpN]
   by_cases h:i<l.length
   ·rw [if_pos (dltT h),zap (by omega),dropS l i h,List.foldlM_cons]
    by_cases hb:c.bad=true
    ·rw [if_pos hb]
     have:stepC k c (l.getD (i:Int).toNat default)=some c:=by unfold stepC; rw [if_pos hb]
     rw [this]
     exact (zxx k _ hb).symm
    ·rw [if_neg hb]
     unfold stepC
     rw [if_neg hb,wI_nat i (by omega)]
     split
     ·cases zab k c (l.getD (i:Int).toNat default) with
      | none => rfl
      | some c' => exact ih (i+1) c' h (by omega)
     ·cases zag c (l.getD (i:Int).toNat default) with
      | none => rfl
      | some c' => exact ih (i+1) c' h (by omega)
   ·rw [if_neg (dltF h),List.drop_of_length_le (by omega)]
    rfl
 exact key k 0 c (Nat.zero_le _) (by omega)
theorem w1:wI (((1:Nat):Int) - 1)=0:=by decide
def c0 (m:Mdl) (t:Typ) (ls:List Int):Checker:=Checker.mk m t ls [] [Frame.mk 0 false false] [t.result] 0 false
def scM (ps:List Int) (r:Int) (b:List Instr):Mdl:=(zec ps r b).getD default
theorem scM_eq (ps:List Int) (r:Int) (b:List Instr):zec ps r b=some (scM ps r b):=rfl
def F0:Frame:=Frame.mk 0 false false
def cL (m:Mdl) (t:Typ) (ls:List Int) (n:Nat) (mo:Int) (b aw:Bool):Checker:=
 Checker.mk m t ls [] (List.replicate n F0++[Frame.mk 0 aw false]) (List.replicate (n+1) 0) mo b
def wr (os:List Int) (l:List Instr):List Instr:=os.foldl (fun l o => [Instr.mk o 0 0 0 0 l [] []]) l
structure Ctx where
 m:Mdl
 t:Typ
 ls:List Int
 un:List Int
 fr:List Frame
 lb:List Int
def CC (Γ:Ctx) (l:List Int) (aw dd:Bool) (mo:Int) (bd:Bool):Checker:=
 Checker.mk Γ.m Γ.t Γ.ls (Γ.un++l) (Γ.fr++[Frame.mk (Γ.un.length:Int) aw dd]) Γ.lb mo bd
def Ctx.env (Γ:Ctx):Env8:=Env8.mk Γ.m Γ.t.result Γ.ls Γ.lb
structure Gd (Γ:Ctx) (N:Nat):Prop where
 un:Γ.un.length+N<1000000000000
 fr:Γ.fr.length<1000000000
 lb:Γ.lb.length<1000000000
theorem Gd.mono {Γ:Ctx} {N M:Nat} (g:Gd Γ N) (h:M≤N):Gd Γ M:=⟨by have:=g.un; omega,g.fr,g.lb⟩
theorem CC_fl (Γ:Ctx) (l:List Int) (aw dd:Bool) (mo:Int) (bd:Bool):(((CC Γ l aw dd mo bd).frames.length:Nat):Int)=((Γ.fr.length+1:Nat):Int):=by simp [CC]
theorem CC_top (Γ:Ctx) (l:List Int) (aw dd:Bool) (mo:Int) (bd:Bool):(CC Γ l aw dd mo bd).frames.getD (Γ.fr.length:Int).toNat default=Frame.mk (Γ.un.length:Int) aw dd:=by
 rw [Int.toNat_natCast,List.getD_eq_getElem?_getD]; simp [CC]
theorem wB (n:Nat) (h:n<1000000000000):wI (((n+1:Nat):Int) - 1)=(n:Int):=by rw [wI_small (by omega) (by omega)]; omega
def tV (l:List Int) (k:Int):Int:=if k=0 then k else match l.getLast? with | none => k | some x => if x=1 then k else x
def tL (l:List Int) (k:Int):List Int:=if k=0 then l else l.dropLast
def tB (l:List Int) (aw bd:Bool) (k:Int):Bool:=if k=0 then bd else match l.getLast? with | none => bd||!aw | some x => bd||(x != k&&(x != 1&&k != 1))
theorem ztc (Γ:Ctx) (l:List Int) (aw dd:Bool) (mo:Int) (bd:Bool) (k:Int) (g:Gd Γ l.length) :
  zac (CC Γ l aw dd mo bd) k=some (tV l k,CC Γ (tL l k) aw dd mo (tB l aw bd k)):=by
 have hf:=g.fr; have hu:=g.un
 unfold zac
 rw [CC_fl,wB _ (by omega),zap (by omega),CC_top]
 by_cases hk:k=0
 ·rw [if_pos (by simpa using hk)]
  simp [tV,tL,tB,hk]
 rw [if_neg (by simpa using hk)]
 rcases List.eq_nil_or_concat l with rfl | ⟨l,x,rfl⟩
 ·have e:(((CC Γ [] aw dd mo bd).stack.length:Nat):Int)=(Γ.un.length:Int):=by simp [CC]
  rw [e,if_pos (by simp)]
  simp only [tV,tL,tB,if_neg hk,List.getLast?_nil,List.dropLast_nil]
  cases bd <;> rfl
 ·simp only [List.concat_eq_append] at hu ⊢
  have e:(((CC Γ (l++[x]) aw dd mo bd).stack.length:Nat):Int)=((Γ.un.length+l.length+1:Nat):Int):=by simp [CC]; omega
  have e2:(CC Γ (l++[x]) aw dd mo bd).stack.getD ((Γ.un.length+l.length:Nat):Int).toNat default=x:=by
   rw [Int.toNat_natCast,List.getD_eq_getElem?_getD]
   simp only [CC,← List.append_assoc]
   rw [List.getElem?_append_right (by simp)]
   simp
  have e3:List.take ((Γ.un.length+l.length:Nat):Int).toNat (CC Γ (l++[x]) aw dd mo bd).stack=Γ.un++l:=by
   rw [Int.toNat_natCast]
   simp only [CC,← List.append_assoc]
   rw [List.take_append_of_le_length (by simp),← List.length_append,List.take_length]
  simp only [List.length_append,List.length_cons,List.length_nil] at hu
  rw [e,wB _ (by omega),if_neg (by simp; omega),zap (by omega),zap (by omega),e2,e3]
  simp only [tV,tL,tB,if_neg hk,List.getLast?_append,List.getLast?_singleton,List.dropLast_concat,Option.some_or]
  have e4:(if ((x != k)&&((x != (1:Int))&&(k != (1:Int))))=true then some (Checker.mk Γ.m Γ.t Γ.ls (Γ.un++l) (Γ.fr++[Frame.mk (Γ.un.length:Int) aw dd]) Γ.lb mo true) else some (Checker.mk Γ.m Γ.t Γ.ls (Γ.un++l) (Γ.fr++[Frame.mk (Γ.un.length:Int) aw dd]) Γ.lb mo bd))=some (CC Γ l aw dd mo (bd||(x != k&&(x != 1&&k != 1)))):=by
   cases (x != k&&(x != 1&&k != 1)) <;> cases bd <;> rfl
  refine (congrArg (fun o => Option.bind o _) e4).trans ?_
  rw [Option.bind_some]
  by_cases hx:x=1
  ·rw [if_pos (by simpa using hx),if_pos hx]
  ·rw [if_neg (by simpa using hx),if_neg hx]
theorem zxN (Γ:Ctx) (l:List Int) (aw dd:Bool) (mo:Int) (bd:Bool) (k:Int) (g:Gd Γ l.length) :
  zaf (CC Γ l aw dd mo bd) k=some (if k=0 then CC Γ l aw dd mo bd else CC Γ (l++[k]) aw dd (if (!aw&&!dd)=true then mxI mo ((Γ.un.length+l.length+1:Nat):Int) else mo) bd):=by
 have hf:=g.fr; have hu:=g.un
 unfold zaf
 by_cases hk:k=0
 ·rw [if_pos (by simpa using hk),if_pos hk]
 have hs:(CC Γ l aw dd mo bd).stack.length=Γ.un.length+l.length:=by simp [CC]
 have hs2:((CC Γ l aw dd mo bd).stack++[k]).length=Γ.un.length+l.length+1:=by simp [CC]; omega
 rw [if_neg (by simpa using hk),if_neg hk,zap (by omega),CC_fl,wB _ (by omega),zap (by omega),CC_top,hs2]
 have e:((CC Γ l aw dd mo bd).stack++[k])=Γ.un++(l++[k]):=by simp [CC]
 rw [e]
 cases (!aw&&!dd) <;> rfl
theorem zvx (Γ:Ctx) (l:List Int) (aw dd:Bool) (mo:Int) (bd:Bool) (g:Gd Γ l.length) :
  zaq (CC Γ l aw dd mo bd)=some (CC Γ [] true dd mo bd):=by
 have hf:=g.fr; have hu:=g.un
 unfold zaq
 have hs:(CC Γ l aw dd mo bd).stack.length=Γ.un.length+l.length:=by simp [CC]
 rw [CC_fl,wB _ (by omega),zap (by omega),CC_top,zap (by rw [hs]; exact ⟨Int.le_refl 0,by simp,by simp; omega⟩)]
 simp only [CC,Int.toNat_natCast,Option.some.injEq,Checker.mk.injEq,true_and,and_true]
 refine ⟨by rw [List.take_append_of_le_length (Nat.le_refl _),List.take_length,List.append_nil],?_⟩
 rw [List.set_append_right _ _ (by simp)]
 simp
def lbV (lb:List Int) (n:Int):Int:=if 0≤n∧n<lb.length then lb.getD ((lb.length:Int) - 1 - n).toNat default else 0
def lbB (lb:List Int) (n:Int):Bool:=decide (0≤n∧n<lb.length)
theorem zvy (Γ:Ctx) (l:List Int) (aw dd:Bool) (mo:Int) (bd:Bool) (n:Int) (g:Gd Γ l.length) :
  zaw (CC Γ l aw dd mo bd) n=some (lbV Γ.lb n,CC Γ l aw dd mo (bd||!lbB Γ.lb n)):=by
 have hl:=g.lb
 unfold zaw
 have e1:(CC Γ l aw dd mo bd).labels=Γ.lb:=rfl
 rw [e1]
 by_cases h:0≤n∧n<Γ.lb.length
 ·rw [if_neg (by simp; omega),wI_small (x:=(Γ.lb.length:Int) - 1) (by omega) (by omega),wI_small (by omega) (by omega),zap (by omega)]
  unfold lbV lbB
  rw [if_pos h,decide_eq_true h]
  cases bd <;> rfl
 ·rw [if_pos (by simp; omega)]
  unfold lbV lbB
  rw [if_neg h,decide_eq_false h]
  cases bd <;> rfl
def rV (l:List Int) (k:Int):Int:=if k=0 then 0 else match l.getLast? with | none => k | some x => if x=255 then k else x
def rB (l:List Int) (aw ok:Bool) (k:Int):Bool:=if k=0 then ok else match l.getLast? with | none => ok&&aw | some x => if x=255 then ok else if (k != 255&&x != k)=true then false else ok
theorem zlI (l:List Int) (u:Int) (aw dd:Bool) (mo:Int) (ok:Bool) (k:Int) (h:l.length<1000000000000) :
  zad (St8.mk l u aw dd mo ok) k=some (St8.mk (tL l k) u aw dd mo (rB l aw ok k),rV l k):=by
 unfold zad
 by_cases hk:k=0
 ·rw [if_pos (by simpa using hk)]
  simp [rV,tL,rB,hk]
 rw [if_neg (by simpa using hk)]
 rcases List.eq_nil_or_concat l with rfl | ⟨l,x,rfl⟩
 ·rw [if_pos (by simp)]
  simp only [rV,tL,rB,if_neg hk,List.getLast?_nil,List.dropLast_nil]
  cases ok <;> rfl
 ·simp only [List.concat_eq_append] at h ⊢
  simp only [List.length_append,List.length_cons,List.length_nil] at h
  have e:(((l++[x]).length:Nat):Int)=((l.length+1:Nat):Int):=by simp
  have e2:(l++[x]).getD (l.length:Int).toNat default=x:=by
   rw [Int.toNat_natCast,List.getD_eq_getElem?_getD]; simp
  have e3:List.take (l.length:Int).toNat (l++[x])=l:=by
   rw [Int.toNat_natCast]; simp
  show (if (((l++[x]).length:Int)==(0:Int))=true then _ else gd (0≤(wI (((l++[x]).length:Int) - 1))∧(wI (((l++[x]).length:Int) - 1))<((l++[x]).length:Int)) _)=_
  rw [e,wB _ (by omega),if_neg (by simp; omega),zap (by omega),zap (by omega),e2,e3]
  simp only [rV,tL,rB,if_neg hk,List.getLast?_append,List.getLast?_singleton,List.dropLast_concat,Option.some_or]
  by_cases hx:x=255
  ·rw [if_pos (by simpa using hx),if_pos hx,if_pos hx]
  ·rw [if_neg (by simpa using hx),if_neg hx,if_neg hx]
   cases (k != 255&&x != k) <;> rfl
theorem zwx (l:List Int) (u:Nat) (aw dd:Bool) (mo:Int) (ok:Bool) (k:Int) (h:u+l.length<1000000000000) :
  zam (St8.mk l u aw dd mo ok) k=some (if k=0 then St8.mk l u aw dd mo ok else St8.mk (l++[k]) u aw dd (if (!aw&&!dd)=true then mxI mo ((u+l.length+1:Nat):Int) else mo) ok):=by
 unfold zam
 by_cases hk:k=0
 ·rw [if_pos (by simpa using hk),if_pos hk]
 have e:wI ((u:Int)+((l++[k]).length:Int))=((u+l.length+1:Nat):Int):=by
  rw [wI_small (by simp; omega) (by simp; omega)]; simp; omega
 rw [if_neg (by simpa using hk),if_neg hk,zap (by show l.length * 1≤_; omega),zap (by show (l.length+1) * 1≤_; omega)]
 show ((if (!aw&&!dd)=true then some (mxI mo (wI ((u:Int)+((l++[k]).length:Int)))) else some mo).bind fun j3 => some (St8.mk (l++[k]) u aw dd j3 ok))=_
 rw [e]
 cases (!aw&&!dd) <;> rfl
def Kd (x:Int):Prop:=x=126∨x=127∨x=255
def fk (x:Int):Int:=if x=255 then 1 else x
theorem fk0 {x:Int} (h:x=0∨Kd x):fk x=0↔x=0:=by
 rcases h with rfl | rfl | rfl | rfl <;> decide
def BadV (Γ:Ctx) (N:Nat) (c:Checker):Prop:=∃ l aw dd mo,l.length≤N∧c=CC Γ l aw dd mo true
def BadR (N:Nat) (s:St8):Prop:=s.ok=false∧s.l.length≤N
def OkS (Γ:Ctx) (N:Nat) (c:Checker) (s:St8):Prop:=
 ∃ l aw dd mo,(∀ x∈l,Kd x)∧l.length≤N∧c=CC Γ (l.map fk) aw dd mo false∧s=St8.mk l Γ.un.length aw dd mo true
def Sim (Γ:Ctx) (N:Nat) (c:Checker) (s:St8):Prop:=OkS Γ N c s∨(BadV Γ N c∧BadR N s)
theorem BadV.mono {Γ:Ctx} {N M:Nat} {c:Checker} (h:BadV Γ N c) (hm:N≤M):BadV Γ M c:=by
 obtain ⟨l,aw,dd,mo,h1,h2⟩:=h; exact ⟨l,aw,dd,mo,by omega,h2⟩
theorem BadR.mono {N M:Nat} {s:St8} (h:BadR N s) (hm:N≤M):BadR M s:=⟨h.1,by have:=h.2; omega⟩
theorem Sim.mono {Γ:Ctx} {N M:Nat} {c:Checker} {s:St8} (h:Sim Γ N c s) (hm:N≤M):Sim Γ M c s:=by
 rcases h with ⟨l,aw,dd,mo,h1,h2,h3⟩ | ⟨h1,h2⟩
 ·exact .inl ⟨l,aw,dd,mo,h1,by omega,h3⟩
 ·exact .inr ⟨h1.mono hm,h2.mono hm⟩
theorem Sim.bad {Γ:Ctx} {N:Nat} {c:Checker} {s:St8} (h:Sim Γ N c s):c.bad = !s.ok:=by
 rcases h with ⟨l,aw,dd,mo,h1,h2,rfl,rfl⟩ | ⟨⟨l,aw,dd,mo,h1,rfl⟩,h2,h3⟩
 ·rfl
 ·rw [h2]; rfl
def Vk (s:St8) (v v':Int):Prop:=s.ok=true→v=fk v'∧(v'=0∨Kd v')
theorem tL_len (l:List Int) (k:Int):(tL l k).length≤l.length:=by
 unfold tL; split
 ·exact Nat.le_refl _
 ·rw [List.length_dropLast]; omega
theorem lastK {l:List Int} (h:∀ x∈l,Kd x) {x:Int} (hx:l.getLast? = some x):Kd x:=h x (List.mem_of_getLast? hx)
theorem takeB {Γ:Ctx} {N:Nat} {c:Checker} (g:Gd Γ N) (h:BadV Γ N c) (k:Int):∃ v c',zac c k=some (v,c')∧BadV Γ N c':=by
 obtain ⟨l,aw,dd,mo,h1,rfl⟩:=h
 have ht:=tL_len l k
 refine ⟨_,_,ztc Γ l aw dd mo true k (g.mono h1),tL l k,aw,dd,mo,Nat.le_trans ht h1,?_⟩
 have:tB l aw true k=true:=by
  unfold tB; split
  ·rfl
  ·split <;> rfl
 rw [this]
theorem rtakeB {N:Nat} {s:St8} (hN:N<1000000000000) (h:BadR N s) (k:Int):∃ v s',zad s k=some (s',v)∧BadR N s':=by
 obtain ⟨l,u,aw,dd,mo,ok⟩:=s
 obtain ⟨h1,h2⟩:=h
 obtain rfl:ok=false:=h1
 have ht:=tL_len l k
 have h2':l.length≤N:=h2
 refine ⟨_,_,zlI l u aw dd mo false k (by omega),?_,Nat.le_trans ht h2⟩
 show rB l aw false k=false
 unfold rB; split
 ·rfl
 ·split
  ·rfl
  ·split
   ·rfl
   ·split <;> rfl
theorem zbK {Γ:Ctx} {N:Nat} {c:Checker} {s:St8} (g:Gd Γ N) (h:Sim Γ N c s) {k k':Int} (hk:Vk s k k') :
  ∃ v c' v' s',zac c k=some (v,c')∧zad s k'=some (s',v')∧Sim Γ N c' s'∧Vk s' v v':=by
 have hN:N<1000000000000:=by have:=g.un; omega
 rcases h with ⟨l,aw,dd,mo,h1,h2,rfl,rfl⟩ | ⟨h1,h2⟩
 ·obtain ⟨rfl,hk'⟩:=hk rfl
  refine ⟨_,_,_,_,ztc Γ (l.map fk) aw dd mo false (fk k') (g.mono (by simpa using h2)),zlI l _ aw dd mo true k' (by omega),?_⟩
  have e1:tL (l.map fk) (fk k')=(tL l k').map fk:=by
   unfold tL
   by_cases h0:k'=0
   ·rw [if_pos h0,if_pos ((fk0 hk').2 h0)]
   ·rw [if_neg h0,if_neg (fun h => h0 ((fk0 hk').1 h)),List.map_dropLast]
  have hs:∀ x∈tL l k',Kd x:=by
   unfold tL; split
   ·exact h1
   ·exact fun x hx => h1 x (List.dropLast_subset l hx)
  have e2:tB (l.map fk) aw false (fk k') = !rB l aw true k':=by
   unfold tB rB
   by_cases h0:k'=0
   ·rw [if_pos h0,if_pos ((fk0 hk').2 h0)]; rfl
   ·rw [if_neg h0,if_neg (fun h => h0 ((fk0 hk').1 h)),List.getLast?_map]
    cases hl:l.getLast? with
    | none => cases aw <;> rfl
    | some x => 
     have kx:=lastK h1 hl
     rcases hk' with h | h
     ·exact absurd h h0
     rcases kx with rfl | rfl | rfl <;> rcases h with rfl | rfl | rfl <;> rfl
  have e3:tV (l.map fk) (fk k')=fk (rV l k')∧(rV l k'=0∨Kd (rV l k')):=by
   unfold tV rV
   by_cases h0:k'=0
   ·rw [if_pos h0,if_pos ((fk0 hk').2 h0),h0]; exact ⟨rfl,.inl rfl⟩
   ·rw [if_neg h0,if_neg (fun h => h0 ((fk0 hk').1 h)),List.getLast?_map]
    cases hl:l.getLast? with
    | none => exact ⟨rfl,hk'⟩
    | some x => 
     have kx:=lastK h1 hl
     rcases hk' with h | h
     ·exact absurd h h0
     rcases kx with rfl | rfl | rfl
     ·exact ⟨rfl,.inr (.inl rfl)⟩
     ·exact ⟨rfl,.inr (.inr (.inl rfl))⟩
     ·exact ⟨rfl,.inr h⟩
  rw [e1,e2]
  have ht:=tL_len l k'
  refine ⟨?_,fun _ => e3⟩
  cases hr:rB l aw true k' with
  | true => exact .inl ⟨tL l k',aw,dd,mo,hs,by omega,rfl,rfl⟩
  | false => exact .inr ⟨⟨_,aw,dd,mo,by rw [List.length_map]; omega,rfl⟩,rfl,by show (tL l k').length≤N; omega⟩
 ·obtain ⟨v,c',e,hb⟩:=takeB g h1 k
  obtain ⟨v',s',e',hb'⟩:=rtakeB hN h2 k'
  exact ⟨v,c',v',s',e,e',.inr ⟨hb,hb'⟩,fun h => by rw [hb'.1] at h; cases h⟩
theorem layB {Γ:Ctx} {N:Nat} {c:Checker} (g:Gd Γ N) (h:BadV Γ N c) (k:Int):∃ c',zaf c k=some c'∧BadV Γ (N+1) c':=by
 obtain ⟨l,aw,dd,mo,h1,rfl⟩:=h
 refine ⟨_,zxN Γ l aw dd mo true k (g.mono h1),?_⟩
 split
 ·exact ⟨_,_,_,_,Nat.le_succ_of_le h1,rfl⟩
 ·exact ⟨_,_,_,_,by simp only [List.length_append,List.length_cons,List.length_nil]; omega,rfl⟩
theorem rlayB {N:Nat} {s:St8} (hN:N<1000000000000) (h:BadR N s) (k:Int):∃ s',zam s k=some s'∧BadR (N+1) s':=by
 obtain ⟨l,u,aw,dd,mo,ok⟩:=s
 obtain ⟨h1,h2⟩:=h
 obtain rfl:ok=false:=h1
 have h2':l.length≤N:=h2
 unfold zam
 split
 ·exact ⟨_,rfl,rfl,Nat.le_succ_of_le h2⟩
 ·rw [zap (by show l.length * 1≤_; omega),zap (by show (l.length+1) * 1≤_; omega)]
  split
  ·exact ⟨_,rfl,rfl,by show (l++[k]).length≤_; rw [List.length_append]; simp; omega⟩
  ·exact ⟨_,rfl,rfl,by show (l++[k]).length≤_; rw [List.length_append]; simp; omega⟩
theorem zlq {Γ:Ctx} {N:Nat} {c:Checker} {s:St8} (g:Gd Γ N) (h:Sim Γ N c s) {k k':Int} (hk:Vk s k k') :
  ∃ c' s',zaf c k=some c'∧zam s k'=some s'∧Sim Γ (N+1) c' s':=by
 have hN:N<1000000000000:=by have:=g.un; omega
 rcases h with ⟨l,aw,dd,mo,h1,h2,rfl,rfl⟩ | ⟨h1,h2⟩
 ·obtain ⟨rfl,hk'⟩:=hk rfl
  refine ⟨_,_,zxN Γ (l.map fk) aw dd mo false (fk k') (g.mono (by simpa using h2)),zwx l Γ.un.length aw dd mo true k' (by have:=g.un; omega),?_⟩
  by_cases h0:k'=0
  ·rw [if_pos h0,if_pos ((fk0 hk').2 h0)]
   exact .inl ⟨l,aw,dd,mo,h1,by omega,rfl,rfl⟩
  ·rw [if_neg h0,if_neg (fun h => h0 ((fk0 hk').1 h))]
   refine .inl ⟨l++[k'],aw,dd,_,fun x hx => ?_,by simp; omega,?_,rfl⟩
   ·rcases List.mem_append.1 hx with hx | hx
    ·exact h1 x hx
    ·obtain rfl:x=k':=by simpa using hx
     rcases hk' with h | h
     ·exact absurd h h0
     ·exact h
   ·rw [List.map_append,List.length_map]; rfl
 ·obtain ⟨c',e,hb⟩:=layB g h1 k
  obtain ⟨s',e',hb'⟩:=rlayB hN h2 k'
  exact ⟨c',s',e,e',.inr ⟨hb,hb'⟩⟩
theorem leaveB {Γ:Ctx} {N:Nat} {c:Checker} (g:Gd Γ N) (h:BadV Γ N c):∃ c',zaq c=some c'∧BadV Γ N c':=by
 obtain ⟨l,aw,dd,mo,h1,rfl⟩:=h
 exact ⟨_,zvx Γ l aw dd mo true (g.mono h1),_,_,_,_,Nat.zero_le _,rfl⟩
theorem zlD {Γ:Ctx} {N:Nat} {c:Checker} {s:St8} (g:Gd Γ N) (h:Sim Γ N c s) :
  ∃ c' s',zaq c=some c'∧zaW s=some s'∧Sim Γ N c' s':=by
 rcases h with ⟨l,aw,dd,mo,h1,h2,rfl,rfl⟩ | ⟨h1,h2⟩
 ·exact ⟨_,_,zvx Γ (l.map fk) aw dd mo false (g.mono (by simpa using h2)),rfl,.inl ⟨[],true,dd,mo,(fun x hx => by cases hx),Nat.zero_le _,rfl,rfl⟩⟩
 ·obtain ⟨c',e,hb⟩:=leaveB g h1
  exact ⟨c',_,e,rfl,.inr ⟨hb,h2.1,Nat.zero_le _⟩⟩
def setB (c:Checker) (b:Bool):Checker:=Checker.mk c.m c.t c.locals c.stack c.frames c.labels c.most (c.bad||b)
def setO (s:St8) (b:Bool):St8:=St8.mk s.l s.under s.away s.dead s.most (s.ok&&b)
theorem ziX {Γ:Ctx} {N:Nat} {c:Checker} {s:St8} (h:Sim Γ N c s) (b:Bool):Sim Γ N (setB c b) (setO s (!b)):=by
 rcases h with ⟨l,aw,dd,mo,h1,h2,rfl,rfl⟩ | ⟨⟨l,aw,dd,mo,h1,rfl⟩,h2,h3⟩
 ·cases b with
  | false => exact .inl ⟨l,aw,dd,mo,h1,h2,rfl,rfl⟩
  | true => exact .inr ⟨⟨l.map fk,aw,dd,mo,by simpa using h2,rfl⟩,rfl,h2⟩
 ·refine .inr ⟨⟨l,aw,dd,mo,h1,rfl⟩,?_,h3⟩
  show (s.ok&&!b)=false
  rw [h2]; rfl
theorem askB {Γ:Ctx} {N:Nat} {c:Checker} (h:BadV Γ N c) (b:Bool):BadV Γ N (setB c b):=by
 obtain ⟨l,aw,dd,mo,h1,rfl⟩:=h
 exact ⟨l,aw,dd,mo,h1,rfl⟩
theorem Sim.toBad {Γ:Ctx} {N:Nat} {c:Checker} {s:St8} (h:Sim Γ N c s):BadV Γ N (setB c true)∧BadR N (setO s false):=by
 rcases ziX h true with ⟨l,aw,dd,mo,h1,h2,h3,h4⟩ | h
 ·have:=congrArg St8.ok h4
  simp [setO] at this
 ·exact h
theorem zlE {Γ:Ctx} {N:Nat} {c:Checker} {s:St8} (g:Gd Γ N) (h:Sim Γ N c s) (hl:∀ x∈Γ.lb,x=0∨x=126∨x=127) (n:Int) :
  zaw c n=some (lbV Γ.lb n,setB c (!lbB Γ.lb n))∧zbb Γ.env n=some (lbV Γ.lb n,lbB Γ.lb n)∧Vk s (lbV Γ.lb n) (lbV Γ.lb n):=by
 refine ⟨?_,?_,fun _ => ?_⟩
 ·rcases h with ⟨l,aw,dd,mo,h1,h2,rfl,rfl⟩ | ⟨⟨l,aw,dd,mo,h1,rfl⟩,h2,h3⟩
  ·exact zvy Γ _ aw dd mo false n (g.mono (by simpa using h2))
  ·exact zvy Γ _ aw dd mo true n (g.mono (by simpa using h1))
 ·have hl:=g.lb
  unfold zbb
  show (if ((decide (n<(0:Int)))||(decide (n≥(Γ.lb.length:Int))))=true then some (0,false) else gd (0≤(wI ((wI ((Γ.lb.length:Int) - 1)) - n))∧(wI ((wI ((Γ.lb.length:Int) - 1)) - n))<(Γ.lb.length:Int)) (some (Γ.lb.getD ((wI ((wI ((Γ.lb.length:Int) - 1)) - n)).toNat) default,true)))=_
  by_cases h:0≤n∧n<Γ.lb.length
  ·rw [if_neg (by simp; omega),wI_small (x:=(Γ.lb.length:Int) - 1) (by omega) (by omega),wI_small (by omega) (by omega),zap (by omega)]
   unfold lbV lbB
   rw [if_pos h,decide_eq_true h]
  ·rw [if_pos (by simp; omega)]
   unfold lbV lbB
   rw [if_neg h,decide_eq_false h]
 ·have:lbV Γ.lb n=0∨lbV Γ.lb n=126∨lbV Γ.lb n=127:=by
   unfold lbV
   split
   ·rename_i h
    apply hl
    rw [List.getD_eq_getElem?_getD,List.getElem?_eq_getElem (by omega)]
    exact List.getElem_mem _
   ·exact .inl rfl
  rcases this with h | h | h <;> rw [h]
  ·exact ⟨rfl,.inl rfl⟩
  ·exact ⟨rfl,.inr (.inl rfl)⟩
  ·exact ⟨rfl,.inr (.inr (.inl rfl))⟩
def K2 (x:Int):Prop:=x=126∨x=127
def K3 (x:Int):Prop:=x=0∨x=126∨x=127
theorem Vk.of3 {s:St8} {x:Int} (h:K3 x):Vk s x x:=fun _ => by
 rcases h with rfl | rfl | rfl
 ·exact ⟨rfl,.inl rfl⟩
 ·exact ⟨rfl,.inr (.inl rfl)⟩
 ·exact ⟨rfl,.inr (.inr (.inl rfl))⟩
theorem Vk.of2 {s:St8} {x:Int} (h:K2 x):Vk s x x:=Vk.of3 (.inr h)
theorem Vk.any {s:St8}:Vk s 1 255:=fun _ => ⟨rfl,.inr (.inr (.inr rfl))⟩
theorem okT_CC {Γ:Ctx} {l:List Int} {aw dd:Bool} {mo:Int} {bd:Bool} (g:Gd Γ l.length):okT (CC Γ l aw dd mo bd):=by
 have hf:=g.fr; have hu:=g.un
 have e1:(CC Γ l aw dd mo bd).frames.length=Γ.fr.length+1:=by simp [CC]
 have e2:(CC Γ l aw dd mo bd).stack.length=Γ.un.length+l.length:=by simp [CC]
 have e3:(CC Γ l aw dd mo bd).frames.getD (Γ.fr.length+1 - 1) default=Frame.mk (Γ.un.length:Int) aw dd:=by
  have:=CC_top Γ l aw dd mo bd
  rw [Int.toNat_natCast] at this
  exact this
 unfold okT
 rw [e1,e2,e3]
 refine ⟨by omega,by omega,by omega,?_,?_⟩
 ·show (0:Int)≤(Γ.un.length:Int); omega
 ·show ((Γ.un.length:Nat):Int)≤_; omega
theorem BadV.ok {Γ:Ctx} {N:Nat} {c:Checker} (g:Gd Γ N) (h:BadV Γ N c):okT c:=by
 obtain ⟨l,aw,dd,mo,h1,rfl⟩:=h
 exact okT_CC (g.mono h1)
theorem Sim.okT {Γ:Ctx} {N:Nat} {c:Checker} {s:St8} (g:Gd Γ N) (h:Sim Γ N c s):okT c:=by
 rcases h with ⟨l,aw,dd,mo,h1,h2,rfl,rfl⟩ | ⟨h,_⟩
 ·exact okT_CC (g.mono (by simpa using h2))
 ·exact h.ok g
theorem takesB {Γ:Ctx} {N:Nat} (g:Gd Γ N) (ps:List Int):∀ {c:Checker},BadV Γ N c→BadV Γ N (ps.foldl takeT c):=by
 induction ps with
 | nil => intro c h; exact h
 | cons p ps ih => 
  intro c h
  obtain ⟨v,c',e,hb⟩:=takeB g h p
  have:takeT c p=c':=by unfold takeT; rw [e]; rfl
  rw [List.foldl_cons,this]
  exact ih hb
theorem callB {Γ:Ctx} {N:Nat} (g:Gd Γ N) {c:Checker} (h:BadV Γ N c) (t:Typ) (ht:t.params.length<4611686018427387904):∃ c',zav c t=some c'∧BadV Γ (N+1) c':=by
 unfold zav zbP
 rw [zap ⟨h.ok g,ht⟩,Option.bind_some]
 obtain ⟨c',e,hb⟩:=layB g (takesB g t.params.reverse h) t.result
 rw [e]
 exact ⟨c',rfl,hb⟩
theorem zuK {Γ:Ctx} {N:Nat} (g:Gd Γ N) (t:Typ) (ht:∀ p∈t.params,K2 p) (hs:t.params.length<1000000000):∀ (i k:Nat) (c:Checker) (s:St8),i≤t.params.length→i<k→Sim Γ N c s →
  ∃ s',zbD k t s ((i:Int) - 1)=some s'∧Sim Γ N ((t.params.take i).reverse.foldl takeT c) s':=by
 intro i
 induction i with
 | zero => 
  intro k c s _ hk h
  cases k with
  | zero => omega
  | succ k => exact ⟨s,rfl,h⟩
 | succ i ih => 
  intro k c s hi hk h
  cases k with
  | zero => omega
  | succ k => 
   simp only [zbD]
   have e0:(((i+1:Nat):Int) - 1)=(i:Int):=by omega
   have hm:K2 (t.params.getD (i:Int).toNat default):=ht _ (getD_mem t.params i (by omega))
   rw [e0,if_pos (by simp),zap (by omega)]
   obtain ⟨v,c',v',s',e1,e2,h',_⟩:=zbK g h (Vk.of2 hm)
   rw [e2,Option.bind_some]
   obtain ⟨s'',e3,h''⟩:=ih k c' s' (by omega) (by omega) h'
   rw [wI_small (by omega) (by omega)]
   refine ⟨s'',e3,?_⟩
   have e4:takeT c (t.params.getD (i:Int).toNat default)=c':=by unfold takeT; rw [e1]; rfl
   have e5:(t.params.take (i+1)).reverse=t.params.getD (i:Int).toNat default :: (t.params.take i).reverse:=by
    rw [← takeS t.params i (by omega),List.reverse_append]; rfl
   rw [e5,List.foldl_cons,e4]
   exact h''
def TOk (P:Nat) (t:Typ):Prop:=(∀ p∈t.params,K2 p)∧K3 t.result∧t.params.length<P
theorem ztd {Γ:Ctx} {N P K:Nat} {c:Checker} {s:St8} (g:Gd Γ N) (h:Sim Γ N c s) {t:Typ} (ht:TOk P t) (hP:P<1000000000) (hK:P<K) :
  ∃ c' s',zav c t=some c'∧zbE K s t=some s'∧Sim Γ (N+1) c' s':=by
 obtain ⟨h1,h2,h3⟩:=ht
 unfold zav zbP zbE
 rw [zap ⟨h.okT g,by omega⟩,Option.bind_some,wI_small (by omega) (by omega)]
 obtain ⟨s',e,h'⟩:=zuK g t h1 (by omega) t.params.length K c s (Nat.le_refl _) (by omega) h
 rw [e,Option.bind_some]
 rw [List.take_length] at h'
 obtain ⟨c2,s2,e1,e2,h''⟩:=zlq g h' (Vk.of3 h2)
 rw [e1,e2]
 exact ⟨c2,s2,rfl,rfl,h''⟩
theorem zxt {k:Nat} {c:Checker} (h:c.bad=true) (L:List Instr):zaj (k+2) c L=some c:=by
 simp only [zaj,lpN]
 split
 ·rename_i hl
  have hl':=of_decide_eq_true hl
  rw [zap ⟨Int.le_refl 0,hl'⟩]
 ·rfl
theorem zud {k:Nat} {e:Env8} {s:St8} (h:s.ok=false) (L:List Instr):zan (k+2) e s L=some s:=by
 simp only [zan,lpN]
 rw [h,Bool.and_false,if_neg (by decide)]
 rfl
def Ctx.sub (Γ:Ctx) (l:List Int) (aw dd:Bool) (lab:Int):Ctx:=⟨Γ.m,Γ.t,Γ.ls,Γ.un++l,Γ.fr++[Frame.mk (Γ.un.length:Int) aw dd],Γ.lb++[lab]⟩
def popC (x6:Checker) (p2:Int):Option Checker:=
 (zac x6 p2).bind fun x8 => gd (0≤(wI ((x8.2.frames.length:Int) - 1))∧(wI ((x8.2.frames.length:Int) - 1))<(x8.2.frames.length:Int)) ((if x8.2.bad=true then some (Checker.mk x8.2.m x8.2.t x8.2.locals x8.2.stack x8.2.frames x8.2.labels x8.2.most true) else some (Checker.mk x8.2.m x8.2.t x8.2.locals x8.2.stack x8.2.frames x8.2.labels x8.2.most ((x8.2.stack.length:Int) != ((x8.2.frames.getD ((wI ((x8.2.frames.length:Int) - 1)).toNat) default).height)))).bind (fun j11 => gd (0≤(0:Int)∧0≤(mnI ((x8.2.frames.getD ((wI ((x8.2.frames.length:Int) - 1)).toNat) default).height) (j11.stack.length:Int))∧(mnI ((x8.2.frames.getD ((wI ((x8.2.frames.length:Int) - 1)).toNat) default).height) (j11.stack.length:Int))≤(j11.stack.length:Int)) (gd (0≤(0:Int)∧0≤(wI ((j11.frames.length:Int) - 1))∧(wI ((j11.frames.length:Int) - 1))≤(j11.frames.length:Int)) (gd (0≤(0:Int)∧0≤(wI ((j11.labels.length:Int) - 1))∧(wI ((j11.labels.length:Int) - 1))≤(j11.labels.length:Int)) (some (Checker.mk j11.m j11.t j11.locals (List.take ((mnI ((x8.2.frames.getD ((wI ((x8.2.frames.length:Int) - 1)).toNat) default).height) (j11.stack.length:Int)).toNat) j11.stack) (List.take ((wI ((j11.frames.length:Int) - 1)).toNat) j11.frames) (List.take ((wI ((j11.labels.length:Int) - 1)).toNat) j11.labels) j11.most j11.bad))))))
theorem zvA {Γ:Ctx} {l:List Int} {aw dd:Bool} {mo:Int} {bd:Bool} (g:Gd Γ l.length) (k:Nat) (L:List Instr) (res lab:Int) :
  zah (k+1) (CC Γ l aw dd mo bd) L res lab=(zaj k (CC (Γ.sub l aw dd lab) [] false (aw||dd) mo bd) L).bind fun x6 => popC x6 res:=by
 have hf:=g.fr; have hu:=g.un; have hb:=g.lb
 simp only [zah]
 rw [CC_fl,wB _ (by omega),zap (by omega),CC_top]
 have e0:((CC Γ l aw dd mo bd).frames.length+1) * 16≤140737488355328:=by
  have:(CC Γ l aw dd mo bd).frames.length=Γ.fr.length+1:=by simp [CC]
  omega
 have e1:(if (Frame.mk (Γ.un.length:Int) aw dd).away=true then gd (((CC Γ l aw dd mo bd).frames.length+1) * 16≤140737488355328) (some (Checker.mk Γ.m Γ.t Γ.ls (CC Γ l aw dd mo bd).stack ((CC Γ l aw dd mo bd).frames++([(Frame.mk ((CC Γ l aw dd mo bd).stack.length:Int) false true)]:List Frame)) Γ.lb mo bd)) else gd (((CC Γ l aw dd mo bd).frames.length+1) * 16≤140737488355328) (some (Checker.mk Γ.m Γ.t Γ.ls (CC Γ l aw dd mo bd).stack ((CC Γ l aw dd mo bd).frames++([(Frame.mk ((CC Γ l aw dd mo bd).stack.length:Int) false (Frame.mk (Γ.un.length:Int) aw dd).dead)]:List Frame)) Γ.lb mo bd)))=some (Checker.mk Γ.m Γ.t Γ.ls (CC Γ l aw dd mo bd).stack ((CC Γ l aw dd mo bd).frames++([(Frame.mk ((CC Γ l aw dd mo bd).stack.length:Int) false (aw||dd))]:List Frame)) Γ.lb mo bd):=by
  rw [zap e0,zap e0]
  cases aw <;> rfl
 refine (congrArg (fun o => Option.bind o _) e1).trans ?_
 rw [Option.bind_some,zap (by show (Γ.lb.length+1) * 1≤_; omega)]
 have e2:CC (Γ.sub l aw dd lab) [] false (aw||dd) mo bd=Checker.mk Γ.m Γ.t Γ.ls (CC Γ l aw dd mo bd).stack ((CC Γ l aw dd mo bd).frames++([(Frame.mk ((CC Γ l aw dd mo bd).stack.length:Int) false (aw||dd))]:List Frame)) (Γ.lb++[lab]) mo bd:=by
  simp [CC,Ctx.sub]
 rw [e2]
 rfl
theorem zwI {Γ:Ctx} {l:List Int} {aw dd:Bool} {lab:Int} {l2:List Int} {aw2 dd2:Bool} {mo2:Int} {bd2:Bool} {N:Nat} (g:Gd Γ l.length) (g2:Gd (Γ.sub l aw dd lab) l2.length) (res:Int) :
  popC (CC (Γ.sub l aw dd lab) l2 aw2 dd2 mo2 bd2) res=some (CC Γ l aw dd mo2 (tB l2 aw2 bd2 res||decide ((tL l2 res).length≠0))):=by
 have hf:=g.fr; have hu:=g.un; have hb:=g.lb
 have hf2:=g2.fr; have hu2:=g2.un; have hb2:=g2.lb
 have ht:=tL_len l2 res
 unfold popC
 rw [ztc _ _ _ _ _ _ _ g2,Option.bind_some]
 show gd (0≤(wI (((CC (Γ.sub l aw dd lab) (tL l2 res) aw2 dd2 mo2 (tB l2 aw2 bd2 res)).frames.length:Int) - 1))∧(wI (((CC (Γ.sub l aw dd lab) (tL l2 res) aw2 dd2 mo2 (tB l2 aw2 bd2 res)).frames.length:Int) - 1))<((CC (Γ.sub l aw dd lab) (tL l2 res) aw2 dd2 mo2 (tB l2 aw2 bd2 res)).frames.length:Int)) _=_
 rw [CC_fl,wB _ (by omega),zap (by omega),CC_top]
 have hs:(CC (Γ.sub l aw dd lab) (tL l2 res) aw2 dd2 mo2 (tB l2 aw2 bd2 res)).stack.length=(Γ.sub l aw dd lab).un.length+(tL l2 res).length:=by simp [CC]
 rw [hs]
 have e1:((((Γ.sub l aw dd lab).un.length+(tL l2 res).length:Nat):Int) != (Frame.mk ((Γ.sub l aw dd lab).un.length:Int) aw2 dd2).height)=decide ((tL l2 res).length≠0):=by
  show ((((Γ.sub l aw dd lab).un.length+(tL l2 res).length:Nat):Int) != ((Γ.sub l aw dd lab).un.length:Int))=_
  by_cases h:(tL l2 res).length=0
  ·rw [h]; simp
  ·rw [decide_eq_true h]; simp; omega
 rw [e1]
 have e2:(if tB l2 aw2 bd2 res=true then some (Checker.mk Γ.m Γ.t Γ.ls (CC (Γ.sub l aw dd lab) (tL l2 res) aw2 dd2 mo2 (tB l2 aw2 bd2 res)).stack (CC (Γ.sub l aw dd lab) (tL l2 res) aw2 dd2 mo2 (tB l2 aw2 bd2 res)).frames (Γ.lb++[lab]) mo2 true) else some (Checker.mk Γ.m Γ.t Γ.ls (CC (Γ.sub l aw dd lab) (tL l2 res) aw2 dd2 mo2 (tB l2 aw2 bd2 res)).stack (CC (Γ.sub l aw dd lab) (tL l2 res) aw2 dd2 mo2 (tB l2 aw2 bd2 res)).frames (Γ.lb++[lab]) mo2 (decide ((tL l2 res).length≠0))))=some (CC (Γ.sub l aw dd lab) (tL l2 res) aw2 dd2 mo2 (tB l2 aw2 bd2 res||decide ((tL l2 res).length≠0))):=by
  cases tB l2 aw2 bd2 res <;> rfl
 refine (congrArg (fun o => Option.bind o _) e2).trans ?_
 have hs':(CC (Γ.sub l aw dd lab) (tL l2 res) aw2 dd2 mo2 (tB l2 aw2 bd2 res||decide ((tL l2 res).length≠0))).stack.length=(Γ.sub l aw dd lab).un.length+(tL l2 res).length:=by simp [CC]
 have em:mnI (Frame.mk ((Γ.sub l aw dd lab).un.length:Int) aw2 dd2).height (((Γ.sub l aw dd lab).un.length+(tL l2 res).length:Nat):Int)=((Γ.sub l aw dd lab).un.length:Int):=by
  show mnI ((Γ.sub l aw dd lab).un.length:Int) _=_
  unfold mnI; rw [if_neg (by omega)]
 have el:(CC (Γ.sub l aw dd lab) (tL l2 res) aw2 dd2 mo2 (tB l2 aw2 bd2 res||decide ((tL l2 res).length≠0))).labels=Γ.lb++[lab]:=rfl
 rw [Option.bind_some,hs',em,zap (by omega),CC_fl,wB _ (by omega),zap (by omega),el]
 have ell:(((Γ.lb++[lab]).length:Nat):Int)=((Γ.lb.length+1:Nat):Int):=by simp
 rw [ell,wB _ (by omega),zap (by omega)]
 simp only [CC,Ctx.sub,Int.toNat_natCast,Option.some.injEq,Checker.mk.injEq,true_and,and_true]
 refine ⟨?_,?_,?_⟩
 ·rw [List.take_append_of_le_length (Nat.le_refl _),List.take_length]
 ·rw [List.take_append_of_le_length (Nat.le_refl _),List.take_length]
 ·rw [List.take_append_of_le_length (Nat.le_refl _),List.take_length]
theorem Gd.sub {Γ:Ctx} {N:Nat} {l:List Int} {M:Nat} {aw dd:Bool} {lab:Int} (g:Gd Γ (l.length+M)) (h1:Γ.fr.length+1<1000000000) (h2:Γ.lb.length+1<1000000000):Gd (Γ.sub l aw dd lab) M:=
 ⟨by have:=g.un; simp only [Ctx.sub,List.length_append]; omega,by simp only [Ctx.sub,List.length_append,List.length_cons,List.length_nil]; omega,by simp only [Ctx.sub,List.length_append,List.length_cons,List.length_nil]; omega⟩
theorem innerB {Γ:Ctx} {N k:Nat} (g:Gd Γ N) (hf:Γ.fr.length+1<1000000000) (hl:Γ.lb.length+1<1000000000) {c:Checker} (h:BadV Γ N c) (L:List Instr) (res lab:Int):∃ c',zah (k+3) c L res lab=some c'∧BadV Γ N c':=by
 obtain ⟨l,aw,dd,mo,h1,rfl⟩:=h
 have g1:Gd Γ (l.length+0):=g.mono (by omega)
 rw [zvA (g.mono h1),zxt (by rfl),Option.bind_some,zwI (N:=0) (g.mono h1) (g1.sub (N:=0) hf hl)]
 refine ⟨_,rfl,l,aw,dd,mo,h1,?_⟩
 have:tB [] false true res=true:=by unfold tB; split <;> rfl
 rw [this,Bool.true_or]
theorem zue {Γ:Ctx} {l:List Int} {u:Int} {aw dd:Bool} {mo:Int} {ok:Bool} (hb:Γ.lb.length<1000000000) (k:Nat) (L:List Instr) (res lab:Int) :
  zao (k+1) Γ.env (St8.mk l u aw dd mo ok) L res lab=(zan k (Env8.mk Γ.m Γ.t.result Γ.ls (Γ.lb++[lab])) (St8.mk [] (wI (u+(l.length:Int))) false (aw||dd) mo ok) L).bind fun j7 => (zad j7 res).bind fun x8 => some (St8.mk l u aw dd x8.1.most (x8.1.ok&&decide (x8.1.l.length=0))):=by
 simp only [zao]
 rw [zap (by show Γ.lb.length * 1≤_; omega),zap (by show (Γ.lb.length+1) * 1≤_; omega)]
 have e:∀ j7:St8,((zad j7 res).bind fun x8 => (if x8.1.ok=true then some ((x8.1.l.length:Int)==(0:Int)) else some false).bind (fun j10 => some (St8.mk l u aw dd x8.1.most j10)))=(zad j7 res).bind fun x8 => some (St8.mk l u aw dd x8.1.most (x8.1.ok&&decide (x8.1.l.length=0))):=by
  intro j7
  congr 1
  funext x8
  have:((x8.1.l.length:Int)==(0:Int))=decide (x8.1.l.length=0):=by
   by_cases h:x8.1.l.length=0
   ·rw [h]; rfl
   ·rw [decide_eq_false h]; simp; simpa using h
  rw [this]
  cases x8.1.ok <;> rfl
 have e2:(fun j7:St8 => ((zad j7 res).bind fun x8 => (if x8.1.ok=true then some ((x8.1.l.length:Int)==(0:Int)) else some false).bind (fun j10 => some (St8.mk l u aw dd x8.1.most j10))))=fun j7 => (zad j7 res).bind fun x8 => some (St8.mk l u aw dd x8.1.most (x8.1.ok&&decide (x8.1.l.length=0))):=funext e
 show ((if aw=true then ((zan k (Env8.mk Γ.m Γ.t.result Γ.ls (Γ.lb++[lab])) (St8.mk [] (wI (u+(l.length:Int))) false true mo ok) L).bind fun x3 => some x3) else ((zan k (Env8.mk Γ.m Γ.t.result Γ.ls (Γ.lb++[lab])) (St8.mk [] (wI (u+(l.length:Int))) false dd mo ok) L).bind fun x3 => some x3)).bind fun j7:St8 => ((zad j7 res).bind fun x8 => (if x8.1.ok=true then some ((x8.1.l.length:Int)==(0:Int)) else some false).bind (fun j10 => some (St8.mk l u aw dd x8.1.most j10))))=_
 rw [e2]
 cases aw <;> simp only [Option.bind_fun_some] <;> rfl
theorem rinnerB {Γ:Ctx} {N k:Nat} (hb:Γ.lb.length<1000000000) {s:St8} (h:BadR N s) (L:List Instr) (res lab:Int):∃ s',zao (k+3) Γ.env s L res lab=some s'∧BadR N s':=by
 obtain ⟨l,u,aw,dd,mo,ok⟩:=s
 obtain ⟨h1,h2⟩:=h
 obtain rfl:ok=false:=h1
 rw [zue hb,zud (by rfl),Option.bind_some]
 obtain ⟨v,s',e,hb'⟩:=rtakeB (N:=0) (by decide) (s:=St8.mk [] (wI (u+(l.length:Int))) false (aw||dd) mo false) ⟨rfl,Nat.le_refl 0⟩ res
 rw [e,Option.bind_some]
 refine ⟨_,rfl,?_,h2⟩
 show (s'.ok&&decide (s'.l.length=0))=false
 rw [hb'.1]; rfl
theorem zlF {Γ:Ctx} {N k:Nat} {c:Checker} {s:St8} (L:List Instr) {res lab:Int} (hr:K3 res) (g:Gd Γ (N+L.length+1)) (hf:Γ.fr.length+1<1000000000) (hl:Γ.lb.length+1<1000000000)
  (ih:∀ (l:List Int) (aw dd:Bool) (c:Checker) (s:St8),l.length≤N→Sim (Γ.sub l aw dd lab) 0 c s→∃ c' s',zaj (k+2) c L=some c'∧zan (k+2) (Γ.sub l aw dd lab).env s L=some s'∧Sim (Γ.sub l aw dd lab) L.length c' s')
  (h:Sim Γ N c s):∃ c' s',zah (k+3) c L res lab=some c'∧zao (k+3) Γ.env s L res lab=some s'∧Sim Γ N c' s':=by
 rcases h with ⟨l,aw,dd,mo,h1,h2,rfl,rfl⟩ | ⟨h1,h2⟩
 ·have gl:Gd Γ (l.map fk).length:=g.mono (by rw [List.length_map]; omega)
  have gs:Gd (Γ.sub (l.map fk) aw dd lab) L.length:=by
   have:Gd Γ ((l.map fk).length+L.length):=g.mono (by rw [List.length_map]; omega)
   exact this.sub (N:=0) hf hl
  have hu:((Γ.sub (l.map fk) aw dd lab).un.length:Int)=(Γ.un.length:Int)+(l.length:Int):=by simp [Ctx.sub]
  have hw:wI ((Γ.un.length:Int)+(l.length:Int))=((Γ.sub (l.map fk) aw dd lab).un.length:Int):=by
   have:=g.un
   rw [hu,wI_small (by omega) (by omega)]
  rw [zvA gl,zue (by omega),hw]
  have s0:Sim (Γ.sub (l.map fk) aw dd lab) 0 (CC (Γ.sub (l.map fk) aw dd lab) [] false (aw||dd) mo false) (St8.mk [] ((Γ.sub (l.map fk) aw dd lab).un.length:Int) false (aw||dd) mo true):=
   .inl ⟨[],false,aw||dd,mo,(fun x hx => by cases hx),Nat.le_refl 0,rfl,rfl⟩
  obtain ⟨c1,s1,e1,e2,h3⟩:=ih (l.map fk) aw dd _ _ (by rw [List.length_map]; exact h2) s0
  have e2':zan (k+2) (Env8.mk Γ.m Γ.t.result Γ.ls (Γ.lb++[lab])) (St8.mk [] ((Γ.sub (l.map fk) aw dd lab).un.length:Int) false (aw||dd) mo true) L=some s1:=e2
  rw [e1,e2',Option.bind_some,Option.bind_some]
  obtain ⟨v,c2,v',s2,e3,e4,h4,_⟩:=zbK gs h3 (Vk.of3 hr)
  rw [e4,Option.bind_some]
  rcases h3 with ⟨l2,aw2,dd2,mo2,k1,k2,rfl,rfl⟩ | ⟨⟨l2,aw2,dd2,mo2,k1,rfl⟩,k2⟩
  ·have gl2:Gd (Γ.sub (l.map fk) aw dd lab) (l2.map fk).length:=gs.mono (by rw [List.length_map]; omega)
   rw [ztc _ _ _ _ _ _ _ gl2] at e3
   obtain ⟨_,rfl⟩:=Prod.mk.inj (Option.some.inj e3)
   rw [zlI _ _ _ _ _ _ _ (by have:=gs.un; omega)] at e4
   obtain ⟨rfl,_⟩:=Prod.mk.inj (Option.some.inj e4)
   rw [zwI (N:=0) gl gl2]
   refine ⟨_,_,rfl,rfl,?_⟩
   have hb:=h4.bad
   have hb':tB (l2.map fk) aw2 false res = !rB l2 aw2 true res:=hb
   have hlen:(tL (l2.map fk) res).length=(tL l2 res).length:=by
    unfold tL; split
    ·rw [List.length_map]
    ·rw [List.length_dropLast,List.length_dropLast,List.length_map]
   rw [hb',hlen]
   show Sim Γ N _ (St8.mk l (Γ.un.length:Int) aw dd mo2 (rB l2 aw2 true res&&decide ((tL l2 res).length=0)))
   cases hB:rB l2 aw2 true res with
   | false => exact .inr ⟨⟨l.map fk,aw,dd,mo2,by rw [List.length_map]; exact h2,rfl⟩,rfl,h2⟩
   | true => 
    by_cases h0:(tL l2 res).length=0
    ·rw [decide_eq_true h0,decide_eq_false (by simpa using h0)]
     exact .inl ⟨l,aw,dd,mo2,h1,h2,rfl,rfl⟩
    ·rw [decide_eq_false h0,decide_eq_true (by simpa using h0)]
     exact .inr ⟨⟨l.map fk,aw,dd,mo2,by rw [List.length_map]; exact h2,rfl⟩,rfl,h2⟩
  ·rw [zwI (N:=0) gl (gs.mono k1)]
   refine ⟨_,_,rfl,rfl,?_⟩
   have hT:tB l2 aw2 true res=true:=by
    unfold tB; split
    ·rfl
    ·split <;> rfl
   have hR:s2.ok=false:=by
    obtain ⟨v3,s3,e5,h5⟩:=rtakeB (by have:=gs.un; omega) k2 res
    rw [e5] at e4
    obtain ⟨rfl,_⟩:=Prod.mk.inj (Option.some.inj e4)
    exact h5.1
   rw [hT,Bool.true_or]
   refine .inr ⟨⟨l.map fk,aw,dd,mo2,by rw [List.length_map]; exact h2,rfl⟩,?_,h2⟩
   show (s2.ok&&_)=false
   rw [hR]; rfl
 ·obtain ⟨c',e,hb⟩:=innerB (k:=k) (g.mono (by omega)) hf hl h1 L res lab
  obtain ⟨s',e',hb'⟩:=rinnerB (Γ:=Γ) (k:=k) (by omega) h2 L res lab
  exact ⟨c',s',e,e',.inr ⟨hb,hb'⟩⟩
def opOk (i:Int):Bool:=
 match zkl i,zjc i,zkm i,zjd i,zhC i,zhB i with
 | some (t,e),some (p,r,is),some (f,fe),some (f',_),some (n,_,be),some (n',_,bs) => 
  (e.isNone==is)&&(!is||((t.params==p)&&(t.result==r)&&fe.isNone&&(f==f')&&(n==n')&&(be.isNone==bs)&&decide (0≤n∧n≤8)&&p.all (fun x => x==126||x==127)&&(r==0||r==126||r==127)&&decide (p.length<10)))&&(!(decide (i<26)&&decide (4<i)&&!(decide (12≤i)&&decide (i≤17)))||!is)
 | _,_,_,_,_,_ => false
theorem allOps:(List.range 256).all (fun i => opOk (i:Int))=true:=by kernel_rfl
theorem zyC (i:Int) (h0:0≤i) (h1:i<256):opOk i=true:=by
 have:=List.all_eq_true.1 allOps i.toNat (List.mem_range.2 (by omega))
 have e:((i.toNat:Nat):Int)=i:=by omega
 rw [e] at this
 exact this
structure OpS (i:Int) (t:Typ) (is:Bool) (f n:Int) (bs:Bool):Prop where
 sg:∃ e,zkl i=some (t,e)∧e.isNone=is
 rsg:∃ p r,zjc i=some (p,r,is)∧(is=true→p=t.params∧r=t.result)
 fo:∃ f' fe,zkm i=some (f',fe)∧(is=true→f'=f∧fe.isNone=true)
 rfo:∃ fe,zjd i=some (f,fe)
 by_:∃ n' sg be,zhC i=some (n',sg,be)∧(is=true→n'=n∧be.isNone=bs)
 rby:∃ sg,zhB i=some (n,sg,bs)
 tok:is=true→TOk 10 t∧0≤n∧n≤8
 low:i<26→4<i→¬ (12≤i∧i≤17)→is=false
theorem zuQ (i:Int) (h0:0≤i) (h1:i<256):∃ t is f n bs,OpS i t is f n bs:=by
 have h:=zyC i h0 h1
 unfold opOk at h
 split at h
 ·rename_i t e p r is f fe f' fe' n sg be n' sg' bs q1 q2 q3 q4 q5 q6
  simp only [Bool.and_eq_true,Bool.or_eq_true,beq_iff_eq,decide_eq_true_eq,Bool.not_eq_true',Bool.and_eq_false_iff,decide_eq_false_iff_not,List.all_eq_true,Bool.not_eq_false'] at h
  obtain ⟨⟨a1,a2⟩,a3⟩:=h
  refine ⟨t,is,f',n',bs,⟨e,q1,a1⟩,⟨p,r,q2,fun hi => ?_⟩,⟨f,fe,q3,fun hi => ?_⟩,⟨fe',q4⟩,⟨n,sg,be,q5,fun hi => ?_⟩,⟨sg',q6⟩,fun hi => ?_,fun i1 i2 i3 => ?_⟩
  ·rcases a2 with a2 | a2
   ·rw [hi] at a2; cases a2
   ·exact ⟨a2.1.1.1.1.1.1.1.1.1.symm,a2.1.1.1.1.1.1.1.1.2.symm⟩
  ·rcases a2 with a2 | a2
   ·rw [hi] at a2; cases a2
   ·exact ⟨a2.1.1.1.1.1.1.2,a2.1.1.1.1.1.1.1.2⟩
  ·rcases a2 with a2 | a2
   ·rw [hi] at a2; cases a2
   ·exact ⟨a2.1.1.1.1.1.2,a2.1.1.1.1.2⟩
  ·rcases a2 with a2 | a2
   ·rw [hi] at a2; cases a2
   ·obtain ⟨⟨⟨⟨⟨⟨⟨⟨⟨b1,b2⟩,b3⟩,b4⟩,b5⟩,b6⟩,b7⟩,b8⟩,b9⟩,b10⟩:=a2
    refine ⟨⟨fun x hx => ?_,?_,by rw [b1]; exact b10⟩,by omega,by omega⟩
    ·rw [b1] at hx; exact b8 x hx
    ·rw [b2]; rcases b9 with (h | h) | h
     ·exact .inl h
     ·exact .inr (.inl h)
     ·exact .inr (.inr h)
  ·rcases a3 with a3 | a3
   ·exfalso
    rcases a3 with (h | h) | h
    ·omega
    ·omega
    ·exact i3 h
   ·exact a3
 ·cases h
structure COk (Γ:Ctx) (P:Nat):Prop where
 typ:∀ t∈Γ.m.types,TOk P t
 glo:∀ g∈Γ.m.globals,K2 g.kind
 ls:∀ x∈Γ.ls,K2 x
 lb:∀ x∈Γ.lb,K3 x
 res:K3 Γ.t.result
 P0:P<1000000000
 P1:10≤P
theorem COk.sub {Γ:Ctx} {P:Nat} (h:COk Γ P) (l:List Int) (aw dd:Bool) {lab:Int} (hl:K3 lab):COk (Γ.sub l aw dd lab) P:=
 ⟨h.typ,h.glo,h.ls,fun x hx => by
  rcases List.mem_append.1 hx with hx | hx
  ·exact h.lb x hx
  ·obtain rfl:x=lab:=by simpa using hx
   exact hl,h.res,h.P0,h.P1⟩
theorem setB_false (c:Checker):setB c false=c:=by cases c; simp [setB]
theorem setB_setB (c:Checker) (a b:Bool):setB (setB c a) b=setB c (a||b):=by cases c; simp [setB,Bool.or_assoc]
theorem setB_true (c:Checker):setB c true=Checker.mk c.m c.t c.locals c.stack c.frames c.labels c.most true:=by cases c; simp [setB]
theorem zxa (c:Checker) (b:Bool):(if c.bad=true then some (Checker.mk c.m c.t c.locals c.stack c.frames c.labels c.most true) else some (Checker.mk c.m c.t c.locals c.stack c.frames c.labels c.most b))=some (setB c b):=by
 cases c with
 | mk a1 a2 a3 a4 a5 a6 a7 bd => cases bd <;> rfl
theorem zsX (s:St8) (b:Bool) (f:Bool→Option St8):(if s.ok=true then some b else some false).bind f=f (s.ok&&b):=by
 cases s.ok <;> rfl
def inb (n:Int) (k:Nat):Prop:=0≤n∧n<(k:Int)
instance (n:Int) (k:Nat):Decidable (inb n k):=by unfold inb; infer_instance
theorem gdI {α:Type} {n:Int} {k:Nat} {e:Option α} (h:inb n k):gd (0≤n∧n<(k:Int)) e=e:=zap h
theorem ztk (c:Checker) (n:Int):zaE c n=some (if inb n c.locals.length then c.locals.getD n.toNat default else 1,setB c (!decide (inb n c.locals.length))):=by
 unfold zaE
 by_cases h:inb n c.locals.length
 ·rw [if_pos h,decide_eq_true h,if_neg (by unfold inb at h; simp; omega),gdI h,Bool.not_true,setB_false]
 ·rw [if_neg h,decide_eq_false h,if_pos (by unfold inb at h; simp; omega),Bool.not_false,setB_true]
def gl0:Glo:=Glo.mk 1 true (Instr.mk 0 0 0 0 0 [] [] [])
theorem zup (c:Checker) (n:Int):zaG c n=some (if inb n c.m.globals.length then c.m.globals.getD n.toNat default else gl0,setB c (!decide (inb n c.m.globals.length))):=by
 unfold zaG
 by_cases h:inb n c.m.globals.length
 ·rw [if_pos h,decide_eq_true h,if_neg (by unfold inb at h; simp; omega),gdI h,Bool.not_true,setB_false]
 ·rw [if_neg h,decide_eq_false h,if_pos (by unfold inb at h; simp; omega),Bool.not_false,setB_true]; rfl
def ty0:Typ:=Typ.mk [] 0
theorem zxG (c:Checker) (n:Int):zbf c n=some (if inb n c.m.types.length then c.m.types.getD n.toNat default else ty0,setB c (!decide (inb n c.m.types.length))):=by
 unfold zbf
 by_cases h:inb n c.m.types.length
 ·rw [if_pos h,decide_eq_true h,if_neg (by unfold inb at h; simp; omega),gdI h,Bool.not_true,setB_false]
 ·rw [if_neg h,decide_eq_false h,if_pos (by unfold inb at h; simp; omega),Bool.not_false,setB_true]; rfl
theorem zqT (n:Int) (k:Nat):zbF n (k:Int)=some (decide (inb n k)):=by
 unfold zbF inb
 by_cases h1:0≤n <;> by_cases h2:n<(k:Int) <;> simp [h1,h2]
theorem getD_memI {α:Type} [Inhabited α] {l:List α} {n:Int} (h:inb n l.length):l.getD n.toNat default∈l:=by
 have:=getD_mem l n.toNat (by unfold inb at h; omega)
 have e:((n.toNat:Nat):Int)=n:=by unfold inb at h; omega
 rw [e] at this
 exact this
theorem lbK {lb:List Int} (h:∀ x∈lb,K3 x) (n:Int):K3 (lbV lb n):=by
 unfold lbV
 split
 ·rename_i hh
  exact h _ (getD_memI (by unfold inb; omega))
 ·exact .inl rfl
theorem Sim.rl {Γ:Ctx} {N:Nat} {c:Checker} {s:St8} (h:Sim Γ N c s):s.l.length≤N:=by
 rcases h with ⟨l,aw,dd,mo,h1,h2,rfl,rfl⟩ | ⟨_,h⟩
 ·exact h2
 ·exact h.2
theorem Sim.badR {Γ:Ctx} {N:Nat} {c:Checker} {s:St8} (h:Sim Γ N c s):BadR N (St8.mk s.l s.under s.away s.dead s.most false):=⟨rfl,h.rl⟩
theorem Sim.badV {Γ:Ctx} {N:Nat} {c:Checker} {s:St8} (h:Sim Γ N c s):BadV Γ N (setB c true):=h.toBad.1
theorem Sim.fld {Γ:Ctx} {N:Nat} {c:Checker} {s:St8} (h:Sim Γ N c s):c.m=Γ.m∧c.t=Γ.t∧c.locals=Γ.ls:=by
 rcases h with ⟨l,aw,dd,mo,h1,h2,rfl,rfl⟩ | ⟨⟨l,aw,dd,mo,h1,rfl⟩,_⟩ <;> exact ⟨rfl,rfl,rfl⟩
theorem BadV.fld {Γ:Ctx} {N:Nat} {c:Checker} (h:BadV Γ N c):c.m=Γ.m∧c.t=Γ.t∧c.locals=Γ.ls:=by
 obtain ⟨l,aw,dd,mo,h1,rfl⟩:=h; exact ⟨rfl,rfl,rfl⟩
def StB (Γ:Ctx) (N:Nat) (a:Option Checker) (b:Option St8):Prop:=∃ c' s',a=some c'∧b=some s'∧Sim Γ N c' s'
theorem StB.ofB {Γ:Ctx} {N:Nat} {a:Option Checker} {b:Option St8} (h1:∃ c',a=some c'∧BadV Γ N c') (h2:∃ s',b=some s'∧BadR N s'):StB Γ N a b:=by
 obtain ⟨c',e1,h1⟩:=h1
 obtain ⟨s',e2,h2⟩:=h2
 exact ⟨c',s',e1,e2,.inr ⟨h1,h2⟩⟩
theorem zuI {Γ:Ctx} {N P:Nat} {c:Checker} {s:St8} (g:Gd Γ N) (o:COk Γ P) (h:Sim Γ N c s) (hk:s.ok=true) (x:Instr) (h1:32≤x.op) (h2:x.op≤36) :
  StB Γ (N+1) (zag c x) (zaA Γ.env s x):=by
 obtain ⟨op,n,al,of_,res,body,els,labels⟩:=x
 have f:=h.fld
 have hop:op=32∨op=33∨op=34∨op=35∨op=36:=by simp only [Instr.op] at h1 h2; omega
 obtain ⟨sl,su,sa,sd,sm,so⟩:=s
 obtain rfl:so=true:=hk
 rcases hop with rfl | rfl | rfl | rfl | rfl
 ·have e1:zag c (Instr.mk 32 n al of_ res body els labels)=(zaE c n).bind fun x11 => (zaf x11.2 x11.1).bind fun x13 => some x13:=rfl
  have e2:zaA Γ.env (St8.mk sl su sa sd sm true) (Instr.mk 32 n al of_ res body els labels)=(zbF n (Γ.ls.length:Int)).bind fun x2 => if (!x2)=true then some (St8.mk sl su sa sd sm false) else (gd (0≤n∧n<(Γ.ls.length:Int)) (some (Γ.ls.getD n.toNat default,true))).bind fun | (j4,j5) => ((zam (St8.mk sl su sa sd sm j5) j4).bind fun x8 => some x8).bind fun j7 => some j7:=by
   unfold zaA
   simp only [Instr.op,Instr.n,Ctx.env]
   rfl
  rw [e1,e2,ztk,Option.bind_some,zqT,Option.bind_some,f.2.2]
  by_cases hi:inb n Γ.ls.length
  ·rw [if_pos hi,decide_eq_true hi,if_neg (by decide),gdI hi,Option.bind_some,Bool.not_true,setB_false]
   obtain ⟨c',s',e3,e4,h'⟩:=zlq g h (Vk.of2 (o.ls _ (getD_memI hi)))
   exact ⟨c',s',by rw [e3]; rfl,by show (((zam _ _).bind _).bind _)=_; rw [e4]; rfl,h'⟩
  ·rw [if_neg hi,decide_eq_false hi,if_pos (by decide),Bool.not_false]
   refine StB.ofB ?_ ⟨_,rfl,h.badR.mono (by omega)⟩
   obtain ⟨c',e,hb⟩:=layB g h.badV 1
   exact ⟨c',by rw [e]; rfl,hb⟩
 ·have e1:zag c (Instr.mk 33 n al of_ res body els labels)=(zaE c n).bind fun x11 => (zac x11.2 x11.1).bind fun x13 => some x13.2:=rfl
  have e2:zaA Γ.env (St8.mk sl su sa sd sm true) (Instr.mk 33 n al of_ res body els labels)=(zbF n (Γ.ls.length:Int)).bind fun x2 => if (!x2)=true then some (St8.mk sl su sa sd sm false) else (gd (0≤n∧n<(Γ.ls.length:Int)) (some (Γ.ls.getD n.toNat default,true))).bind fun | (j4,j5) => ((zad (St8.mk sl su sa sd sm j5) j4).bind fun x13 => some x13.1).bind fun j6 => some j6:=by
   unfold zaA
   simp only [Instr.op,Instr.n,Ctx.env]
   rfl
  rw [e1,e2,ztk,Option.bind_some,zqT,Option.bind_some,f.2.2]
  by_cases hi:inb n Γ.ls.length
  ·rw [if_pos hi,decide_eq_true hi,if_neg (by decide),gdI hi,Option.bind_some,Bool.not_true,setB_false]
   obtain ⟨v,c',v',s',e3,e4,h',_⟩:=zbK g h (Vk.of2 (o.ls _ (getD_memI hi)))
   exact ⟨c',s',by rw [e3]; rfl,by show (((zad _ _).bind _).bind _)=_; rw [e4]; rfl,h'.mono (by omega)⟩
  ·rw [if_neg hi,decide_eq_false hi,if_pos (by decide),Bool.not_false]
   refine StB.ofB ?_ ⟨_,rfl,h.badR.mono (by omega)⟩
   obtain ⟨v,c',e,hb⟩:=takeB g h.badV 1
   exact ⟨c',by rw [e]; rfl,hb.mono (by omega)⟩
 ·have e1:zag c (Instr.mk 34 n al of_ res body els labels)=(zaE c n).bind fun x19 => (zac x19.2 x19.1).bind fun x21 => (zaf x21.2 x19.1).bind fun x23 => some x23:=rfl
  have e2:zaA Γ.env (St8.mk sl su sa sd sm true) (Instr.mk 34 n al of_ res body els labels)=(zbF n (Γ.ls.length:Int)).bind fun x2 => if (!x2)=true then some (St8.mk sl su sa sd sm false) else (gd (0≤n∧n<(Γ.ls.length:Int)) (some (Γ.ls.getD n.toNat default,true))).bind fun | (j4,j5) => ((zad (St8.mk sl su sa sd sm j5) j4).bind fun x13 => some x13.1).bind fun j6 => ((zam j6 j4).bind fun x8 => some x8).bind fun j7 => some j7:=by
   unfold zaA
   simp only [Instr.op,Instr.n,Ctx.env]
   rfl
  rw [e1,e2,ztk,Option.bind_some,zqT,Option.bind_some,f.2.2]
  by_cases hi:inb n Γ.ls.length
  ·rw [if_pos hi,decide_eq_true hi,if_neg (by decide),gdI hi,Option.bind_some,Bool.not_true,setB_false]
   obtain ⟨v,c',v',s',e3,e4,h',_⟩:=zbK g h (Vk.of2 (o.ls _ (getD_memI hi)))
   obtain ⟨c2,s2,e5,e6,h2⟩:=zlq g h' (Vk.of2 (o.ls _ (getD_memI hi)))
   refine ⟨c2,s2,?_,?_,h2⟩
   ·rw [e3,Option.bind_some,e5]; rfl
   ·show (((zad _ _).bind _).bind _)=_
    rw [e4,Option.bind_some,Option.bind_some,e6]; rfl
  ·rw [if_neg hi,decide_eq_false hi,if_pos (by decide),Bool.not_false]
   refine StB.ofB ?_ ⟨_,rfl,h.badR.mono (by omega)⟩
   obtain ⟨v,c',e,hb⟩:=takeB g h.badV 1
   obtain ⟨c2,e',hb'⟩:=layB g hb 1
   exact ⟨c2,by rw [e,Option.bind_some,e']; rfl,hb'⟩
 ·have e1:zag c (Instr.mk 35 n al of_ res body els labels)=(zaG c n).bind fun x11 => (zaf x11.2 x11.1.kind).bind fun x13 => some x13:=rfl
  have e2:zaA Γ.env (St8.mk sl su sa sd sm true) (Instr.mk 35 n al of_ res body els labels)=(zbF n (Γ.m.globals.length:Int)).bind fun x2 => if (!x2)=true then some (St8.mk sl su sa sd sm false) else (gd (0≤n∧n<(Γ.m.globals.length:Int)) (some ((Γ.m.globals.getD n.toNat default).kind,true))).bind fun | (j4,j5) => ((zam (St8.mk sl su sa sd sm j5) j4).bind fun x8 => some x8).bind fun j7 => some j7:=by
   unfold zaA
   simp only [Instr.op,Instr.n,Ctx.env]
   rfl
  rw [e1,e2,zup,Option.bind_some,zqT,Option.bind_some,f.1]
  by_cases hi:inb n Γ.m.globals.length
  ·rw [if_pos hi,decide_eq_true hi,if_neg (by decide),gdI hi,Option.bind_some,Bool.not_true,setB_false]
   obtain ⟨c',s',e3,e4,h'⟩:=zlq g h (Vk.of2 (o.glo _ (getD_memI hi)))
   exact ⟨c',s',by rw [e3]; rfl,by show (((zam _ _).bind _).bind _)=_; rw [e4]; rfl,h'⟩
  ·rw [if_neg hi,decide_eq_false hi,if_pos (by decide),Bool.not_false]
   refine StB.ofB ?_ ⟨_,rfl,h.badR.mono (by omega)⟩
   obtain ⟨c',e,hb⟩:=layB g h.badV gl0.kind
   exact ⟨c',by rw [e]; rfl,hb⟩
 ·have e1:zag c (Instr.mk 36 n al of_ res body els labels)=(zaG c n).bind fun x29 => (zac (setB x29.2 (!x29.1.mut_)) x29.1.kind).bind fun x32 => some x32.2:=by
   show ((zaG c n).bind fun x29 => (if x29.2.bad=true then some (Checker.mk x29.2.m x29.2.t x29.2.locals x29.2.stack x29.2.frames x29.2.labels x29.2.most true) else some (Checker.mk x29.2.m x29.2.t x29.2.locals x29.2.stack x29.2.frames x29.2.labels x29.2.most (!x29.1.mut_))).bind (fun j31 => ((zac j31 x29.1.kind).bind fun x32 => some x32.2)))=_
   congr 1
   funext x29
   rw [zxa,Option.bind_some]
  have e2:zaA Γ.env (St8.mk sl su sa sd sm true) (Instr.mk 36 n al of_ res body els labels)=(zbF n (Γ.m.globals.length:Int)).bind fun x2 => if (!x2)=true then some (St8.mk sl su sa sd sm false) else (gd (0≤n∧n<(Γ.m.globals.length:Int)) ((gd (0≤n∧n<(Γ.m.globals.length:Int)) (some (Γ.m.globals.getD n.toNat default).mut_)).bind fun j20 => some ((Γ.m.globals.getD n.toNat default).kind,j20))).bind fun | (j4,j5) => ((zad (St8.mk sl su sa sd sm j5) j4).bind fun x13 => some x13.1).bind fun j6 => some j6:=by
   unfold zaA
   simp only [Instr.op,Instr.n,Ctx.env]
   rfl
  rw [e1,e2,zup,Option.bind_some,zqT,Option.bind_some,f.1]
  by_cases hi:inb n Γ.m.globals.length
  ·rw [if_pos hi,decide_eq_true hi,if_neg (by decide),gdI hi,gdI hi,Option.bind_some,Option.bind_some,Bool.not_true,setB_false]
   have ha:=ziX h (!(Γ.m.globals.getD n.toNat default).mut_)
   obtain ⟨v,c',v',s',e3,e4,h',_⟩:=zbK g ha (Vk.of2 (o.glo _ (getD_memI hi)))
   refine ⟨c',s',by rw [e3]; rfl,?_,h'.mono (by omega)⟩
   rw [Bool.not_not] at e4
   show (((zad (setO (St8.mk sl su sa sd sm true) (Γ.m.globals.getD n.toNat default).mut_) _).bind _).bind _)=_
   rw [e4]; rfl
  ·rw [if_neg hi,decide_eq_false hi,if_pos (by decide),Bool.not_false]
   refine StB.ofB ?_ ⟨_,rfl,h.badR.mono (by omega)⟩
   obtain ⟨v,c',e,hb⟩:=takeB g (askB h.badV (!gl0.mut_)) gl0.kind
   exact ⟨c',by rw [e]; rfl,hb.mono (by omega)⟩
theorem zvo {Γ:Ctx} {N P K:Nat} {c:Checker} {s:St8} (g:Gd Γ N) (o:COk Γ P) (h:Sim Γ N c s) (hk:s.ok=true) (hK:P<K) (x:Instr) (k:Nat) :
  (x.op=16→StB Γ (N+1) (zab (k+1) c x) (zbI K Γ.env s x))∧(x.op=17→StB Γ (N+1) (zab (k+1) c x) (zbI K Γ.env s x)):=by
 obtain ⟨op,n,al,of_,res,body,els,labels⟩:=x
 have f:=h.fld
 have hty0:TOk P ty0:=⟨(fun p hp => by cases hp),.inl rfl,by have:=o.P1; show 0<P; omega⟩
 refine ⟨fun ho => ?_,fun ho => ?_⟩
 ·obtain rfl:op=16:=ho
  have e1:zab (k+1) c (Instr.mk 16 n al of_ res body els labels)=(zbh c n).bind fun x51 => (zav x51.2 x51.1).bind fun x53 => some x53:=by
   simp only [zab]; rfl
  have e2:zbI K Γ.env s (Instr.mk 16 n al of_ res body els labels)=(zbF n (Γ.m.funcs.length:Int)).bind fun x1 => if (!x1)=true then some (St8.mk s.l s.under s.away s.dead s.most false) else gd (0≤n∧n<(Γ.m.funcs.length:Int)) ((zbF (wI (Γ.m.funcs.getD n.toNat default).type_) (Γ.m.types.length:Int)).bind fun x4 => if (!x4)=true then some (St8.mk s.l s.under s.away s.dead s.most false) else gd (0≤wI (Γ.m.funcs.getD n.toNat default).type_∧wI (Γ.m.funcs.getD n.toNat default).type_<(Γ.m.types.length:Int)) ((zbE K s (Γ.m.types.getD (wI (Γ.m.funcs.getD n.toNat default).type_).toNat default)).bind fun x7 => some x7)):=rfl
  rw [e1,e2,zqT,Option.bind_some]
  have hB:∀ c',BadV Γ N c'→∀ t,TOk P t→∃ c'',((zav c' t).bind fun x53 => some x53)=some c''∧BadV Γ (N+1) c'':=fun c' hb t ht => by
   obtain ⟨c'',e,hb'⟩:=callB g hb t (by have:=ht.2.2; have:=o.P0; omega)
   exact ⟨c'',by rw [e]; rfl,hb'⟩
  unfold zbh
  rw [f.1]
  by_cases hi:inb n Γ.m.funcs.length
  ·have hi':=hi
   unfold inb at hi'
   rw [decide_eq_true hi,if_neg (by simp; omega),if_neg (by decide),gdI hi,gdI hi,zxG,zqT,Option.bind_some,Option.bind_some,Option.bind_some,f.1]
   by_cases hj:inb (wI (Γ.m.funcs.getD n.toNat default).type_) Γ.m.types.length
   ·rw [if_pos hj,decide_eq_true hj,if_neg (by decide),gdI hj,Bool.not_true,setB_false]
    obtain ⟨c',s',e3,e4,h'⟩:=ztd g h (o.typ _ (getD_memI hj)) o.P0 hK
    exact ⟨c',s',by rw [e3]; rfl,by rw [e4]; rfl,h'⟩
   ·rw [if_neg hj,decide_eq_false hj,if_pos (by decide),Bool.not_false]
    exact StB.ofB (hB _ h.badV _ hty0) ⟨_,rfl,h.badR.mono (by omega)⟩
  ·have hi':¬ (0≤n∧n<(Γ.m.funcs.length:Int)):=hi
   rw [decide_eq_false hi,if_pos (by simp; omega),if_pos (by decide),Option.bind_some,← f.1]
   have:=hB _ h.badV _ hty0
   rw [setB_true] at this
   exact StB.ofB this ⟨_,rfl,h.badR.mono (by omega)⟩
 ·obtain rfl:op=17:=ho
  have e1:zab (k+1) c (Instr.mk 17 n al of_ res body els labels)=(if c.bad=true then some (Checker.mk c.m c.t c.locals c.stack c.frames c.labels c.most true) else some (Checker.mk c.m c.t c.locals c.stack c.frames c.labels c.most ((c.m.tables.length:Int)==(0:Int)))).bind (fun j55 => ((zac j55 127).bind fun x56 => ((zbf x56.2 n).bind fun x58 => ((zav x58.2 x58.1).bind fun x60 => some x60)))):=by
   simp only [zab]; rfl
  have e2:zbI K Γ.env s (Instr.mk 17 n al of_ res body els labels)=(if s.ok=true then some (decide ((Γ.m.tables.length:Int)>(0:Int))) else some false).bind (fun j9 => ((zad (St8.mk s.l s.under s.away s.dead s.most j9) 127).bind fun x10 => ((zbF n (Γ.m.types.length:Int)).bind fun x12 => (if (!x12)=true then some (St8.mk x10.1.l x10.1.under x10.1.away x10.1.dead x10.1.most false) else gd (0≤n∧n<(Γ.m.types.length:Int)) ((zbE K x10.1 (Γ.m.types.getD n.toNat default)).bind fun x15 => some x15))))):=rfl
  rw [e1,e2,zxa,zsX,Option.bind_some,f.1]
  have et:((Γ.m.tables.length:Int)==(0:Int)) = !decide ((Γ.m.tables.length:Int)>(0:Int)):=by
   by_cases h0:Γ.m.tables.length=0
   ·rw [h0]; rfl
   ·rw [decide_eq_true (by omega)]; simp; simpa using h0
  rw [et]
  have ha:=ziX h (!decide ((Γ.m.tables.length:Int)>(0:Int)))
  rw [Bool.not_not] at ha
  obtain ⟨v,c',v',s',e3,e4,h',_⟩:=zbK g ha (Vk.of2 (x:=127) (.inr rfl))
  have e4':zad (St8.mk s.l s.under s.away s.dead s.most (s.ok&&decide ((Γ.m.tables.length:Int)>(0:Int)))) 127=some (s',v'):=e4
  have f':=h'.fld
  rw [e3,e4',Option.bind_some,Option.bind_some,zxG,zqT,Option.bind_some,Option.bind_some]
  show StB Γ (N+1) ((zav (setB c' (!decide (inb n c'.m.types.length))) (if inb n c'.m.types.length then c'.m.types.getD n.toNat default else ty0)).bind fun x60 => some x60) _
  rw [f'.1]
  by_cases hj:inb n Γ.m.types.length
  ·rw [if_pos hj,decide_eq_true hj,if_neg (by decide),gdI hj,Bool.not_true,setB_false]
   obtain ⟨c2,s2,e5,e6,h2⟩:=ztd g h' (o.typ _ (getD_memI hj)) o.P0 hK
   exact ⟨c2,s2,by rw [e5]; rfl,by rw [e6]; rfl,h2⟩
  ·rw [if_neg hj,decide_eq_false hj,if_pos (by decide),Bool.not_false]
   obtain ⟨c'',e,hb'⟩:=callB g h'.badV ty0 (by decide)
   exact StB.ofB ⟨c'',by rw [e]; rfl,hb'⟩ ⟨_,rfl,h'.badR.mono (by omega)⟩
theorem zvu {k:Nat} {e:Env8} {x:Instr} (hx:(x.op==(14:Int))=false) (y:Int×Bool) (b:Bool):zbj (k+1) e x y 0 b=some b:=by
 simp only [zbj]
 rw [hx,Bool.false_and,if_neg (by decide)]
theorem zyz {Γ:Ctx} {N P K:Nat} {c:Checker} {s:St8} (g:Gd Γ N) (o:COk Γ P) (h:Sim Γ N c s) (x:Instr) (k:Nat) (hx:x.op=12) :
  StB Γ (N+1) (zab (k+1) c x) (zbc (K+1) Γ.env s x):=by
 obtain ⟨op,n,al,of_,res,body,els,labels⟩:=x
 obtain rfl:op=12:=hx
 have e1:zab (k+1) c (Instr.mk 12 n al of_ res body els labels)=(zaw c n).bind fun x31 => (zac x31.2 x31.1).bind fun x33 => (zaq x33.2).bind fun x35 => some x35:=by
  simp only [zab]; rfl
 have e2:zbc (K+1) Γ.env s (Instr.mk 12 n al of_ res body els labels)=(zbb Γ.env n).bind fun x28 => (zbj (K+1) Γ.env (Instr.mk 12 n al of_ res body els labels) x28 0 x28.2).bind (fun j30 => (if s.ok=true then some j30 else some false).bind (fun j31 => ((zad (St8.mk s.l s.under s.away s.dead s.most j31) x28.1).bind fun x32 => ((zaW x32.1).bind fun x36 => some x36)))):=rfl
 obtain ⟨l1,l2,l3⟩:=zlE g h o.lb n
 rw [e1,e2,l1,l2,Option.bind_some,Option.bind_some,zvu (by rfl),Option.bind_some,zsX]
 have ha:=ziX h (!lbB Γ.lb n)
 rw [Bool.not_not] at ha
 obtain ⟨v,c',v',s',e3,e4,h',_⟩:=zbK g ha (Vk.of3 (lbK o.lb n))
 have e4':zad (St8.mk s.l s.under s.away s.dead s.most (s.ok&&lbB Γ.lb n)) (lbV Γ.lb n)=some (s',v'):=e4
 rw [e3,e4',Option.bind_some,Option.bind_some]
 obtain ⟨c2,s2,e5,e6,h2⟩:=zlD g h'
 exact ⟨c2,s2,by rw [e5]; rfl,by rw [e6]; rfl,h2.mono (by omega)⟩
theorem zxR {Γ:Ctx} {N P K:Nat} {c:Checker} {s:St8} (g:Gd Γ N) (o:COk Γ P) (h:Sim Γ N c s) (x:Instr) (k:Nat) (hx:x.op=13) :
  StB Γ (N+1) (zab (k+1) c x) (zbc (K+1) Γ.env s x):=by
 obtain ⟨op,n,al,of_,res,body,els,labels⟩:=x
 obtain rfl:op=13:=hx
 have e1:zab (k+1) c (Instr.mk 13 n al of_ res body els labels)=(zac c 127).bind fun x37 => (zaw x37.2 n).bind fun x39 => (zac x39.2 x39.1).bind fun x41 => (zaf x41.2 x39.1).bind fun x43 => some x43:=by
  simp only [zab]; rfl
 have e2:zbc (K+1) Γ.env s (Instr.mk 13 n al of_ res body els labels)=((zad s 127).bind fun x52 => some x52.1).bind fun j1 => (zbb Γ.env n).bind fun x28 => (zbj (K+1) Γ.env (Instr.mk 13 n al of_ res body els labels) x28 0 x28.2).bind (fun j30 => (if j1.ok=true then some j30 else some false).bind (fun j31 => ((zad (St8.mk j1.l j1.under j1.away j1.dead j1.most j31) x28.1).bind fun x32 => ((zam x32.1 x28.1).bind fun x34 => some x34)))):=rfl
 obtain ⟨v,c1,v',s1,e3,e4,h1,_⟩:=zbK g h (Vk.of2 (x:=127) (.inr rfl))
 obtain ⟨l1,l2,l3⟩:=zlE g h1 o.lb n
 rw [e1,e2,e3,e4,Option.bind_some,Option.bind_some,Option.bind_some,l1,l2,Option.bind_some,Option.bind_some,zvu (by rfl),Option.bind_some,zsX]
 have ha:=ziX h1 (!lbB Γ.lb n)
 rw [Bool.not_not] at ha
 obtain ⟨v2,c2,v2',s2,e5,e6,h2,_⟩:=zbK g ha (Vk.of3 (lbK o.lb n))
 have e6':zad (St8.mk s1.l s1.under s1.away s1.dead s1.most (s1.ok&&lbB Γ.lb n)) (lbV Γ.lb n)=some (s2,v2'):=e6
 rw [e5,e6',Option.bind_some,Option.bind_some]
 obtain ⟨c3,s3,e7,e8,h3⟩:=zlq g h2 (Vk.of3 (lbK o.lb n))
 exact ⟨c3,s3,by rw [e7]; rfl,by rw [e8]; rfl,h3⟩
theorem zvP {Γ:Ctx} {N:Nat} {c:Checker} {s:St8} (g:Gd Γ N) (h:Sim Γ N c s) (hl:∀ x∈Γ.lb,K3 x) (x:Instr) (hx:x.op=14) (hs:x.labels.length<1000) (v:Int) (c0:Checker) (b0:Bool):∀ (k K i:Nat) (b:Bool),i≤x.labels.length→x.labels.length - i<k→x.labels.length - i<K →
  ∃ b',zaJ k x (v,c0) (setB c (!b)) (i:Int)=some (setB c (!b'))∧zaK K Γ.env x (v,b0) (i:Int) b=some b':=by
 intro k
 induction k with
 | zero => intro K i b _ h; omega
 | succ k ih => 
  intro K i b hi h1 h2
  cases K with
  | zero => omega
  | succ K => 
   simp only [zaJ,zaK]
   have ho:(x.op==(14:Int))=true:=by rw [hx]; rfl
   by_cases hlt:i<x.labels.length
   ·have ha:=ziX h (!b)
    obtain ⟨l1,l2,l3⟩:=zlE g ha hl (wI (x.labels.getD (i:Int).toNat default))
    rw [if_pos (dltT hlt),if_pos (by rw [ho,dltT hlt]; rfl),zap (by omega),zap (by omega),l1,l2,Option.bind_some,Option.bind_some,wI_nat i (by omega)]
    have e:(if (lbV Γ.lb (wI (x.labels.getD (i:Int).toNat default)) != v)=true then some (Checker.mk (setB (setB c (!b)) (!lbB Γ.lb (wI (x.labels.getD (i:Int).toNat default)))).m (setB (setB c (!b)) (!lbB Γ.lb (wI (x.labels.getD (i:Int).toNat default)))).t (setB (setB c (!b)) (!lbB Γ.lb (wI (x.labels.getD (i:Int).toNat default)))).locals (setB (setB c (!b)) (!lbB Γ.lb (wI (x.labels.getD (i:Int).toNat default)))).stack (setB (setB c (!b)) (!lbB Γ.lb (wI (x.labels.getD (i:Int).toNat default)))).frames (setB (setB c (!b)) (!lbB Γ.lb (wI (x.labels.getD (i:Int).toNat default)))).labels (setB (setB c (!b)) (!lbB Γ.lb (wI (x.labels.getD (i:Int).toNat default)))).most true) else some (setB (setB c (!b)) (!lbB Γ.lb (wI (x.labels.getD (i:Int).toNat default)))))=some (setB c (!(b&&(lbB Γ.lb (wI (x.labels.getD (i:Int).toNat default))&&(lbV Γ.lb (wI (x.labels.getD (i:Int).toNat default))==v))))):=by
     by_cases hv:lbV Γ.lb (wI (x.labels.getD (i:Int).toNat default))=v
     ·rw [if_neg (by simpa using hv),setB_setB]
      have:(lbV Γ.lb (wI (x.labels.getD (i:Int).toNat default))==v)=true:=by simpa using hv
      rw [this]
      cases b <;> cases lbB Γ.lb (wI (x.labels.getD (i:Int).toNat default)) <;> rfl
     ·rw [if_pos (by simpa using hv),← setB_true,setB_setB,setB_setB]
      have:(lbV Γ.lb (wI (x.labels.getD (i:Int).toNat default))==v)=false:=by simpa using hv
      rw [this]
      cases b <;> cases lbB Γ.lb (wI (x.labels.getD (i:Int).toNat default)) <;> rfl
    refine (ih K (i+1) _ (by omega) (by omega) (by omega)).imp fun b' hb => ⟨?_,hb.2⟩
    refine Eq.trans ?_ hb.1
    exact congrArg (fun o => Option.bind o _) e
   ·rw [if_neg (dltF hlt),if_neg (by rw [ho,Bool.true_and]; exact dltF hlt)]
    exact ⟨b,rfl,rfl⟩
theorem zxk {Γ:Ctx} {N P K:Nat} {c:Checker} {s:St8} (g:Gd Γ N) (o:COk Γ P) (h:Sim Γ N c s) (x:Instr) (k:Nat) (hx:x.op=14) (hk:300<k) (hK:300<K) :
  StB Γ (N+1) (zab (k+1) c x) (zbc K Γ.env s x):=by
 have e1:zab (k+1) c x=(zbC k c x).bind fun x45 => some x45:=by
  obtain ⟨op,n,al,of_,res,body,els,labels⟩:=x
  obtain rfl:op=14:=hx
  simp only [zab]; rfl
 have e2:zbc K Γ.env s x=((zad s 127).bind fun x52 => some x52.1).bind fun j1 => (if (((x.labels.length:Int)==(0:Int))||(decide ((x.labels.length:Int)>(257:Int))))=true then some (St8.mk j1.l j1.under j1.away j1.dead j1.most false) else gd (0≤(wI ((x.labels.length:Int) - 1))∧(wI ((x.labels.length:Int) - 1))<(x.labels.length:Int)) ((zbb Γ.env (wI (x.labels.getD (wI ((x.labels.length:Int) - 1)).toNat default))).bind fun x3 => (zaK K Γ.env x x3 0 x3.2).bind (fun j5 => (if j1.ok=true then some j5 else some false).bind (fun j6 => ((zad (St8.mk j1.l j1.under j1.away j1.dead j1.most j6) x3.1).bind fun x7 => ((zaW x7.1).bind fun x11 => some x11)))))):=by
  obtain ⟨op,n,al,of_,res,body,els,labels⟩:=x
  obtain rfl:op=14:=hx
  rfl
 obtain ⟨v,c1,v',s1,e3,e4,h1,_⟩:=zbK g h (Vk.of2 (x:=127) (.inr rfl))
 rw [e1,e2,e4,Option.bind_some,Option.bind_some]
 unfold zbC
 rw [e3,Option.bind_some]
 by_cases hn:(((x.labels.length:Int)==(0:Int))||(decide ((x.labels.length:Int)>(257:Int))))=true
 ·rw [if_pos hn,if_pos hn]
  have hb:=h1.badV
  rw [setB_true] at hb
  exact StB.ofB ⟨_,rfl,hb.mono (by omega)⟩ ⟨_,rfl,h1.badR.mono (by omega)⟩
 ·rw [if_neg hn,if_neg hn]
  rw [Bool.or_eq_true,not_or] at hn
  have hn0:¬ ((x.labels.length:Int)=0):=fun e => hn.1 (by rw [e]; rfl)
  have hn1:¬ ((x.labels.length:Int)>257):=fun e => hn.2 (decide_eq_true e)
  have hlen:0<x.labels.length∧x.labels.length≤257:=by constructor <;> omega
  have hw:wI ((x.labels.length:Int) - 1)=(x.labels.length:Int) - 1:=wI_small (by omega) (by omega)
  rw [hw,zap (by omega),zap (by omega)]
  obtain ⟨l1,l2,l3⟩:=zlE g h1 o.lb (wI (x.labels.getD ((x.labels.length:Int) - 1).toNat default))
  have l1':zaw (v,c1).2 (wI (x.labels.getD ((x.labels.length:Int) - 1).toNat default))=_:=l1
  rw [l1',l2,Option.bind_some,Option.bind_some]
  obtain ⟨b',t1,t2⟩:=zvP g h1 o.lb x hx (by omega) (lbV Γ.lb (wI (x.labels.getD ((x.labels.length:Int) - 1).toNat default))) (setB c1 (!lbB Γ.lb (wI (x.labels.getD ((x.labels.length:Int) - 1).toNat default)))) (lbB Γ.lb (wI (x.labels.getD ((x.labels.length:Int) - 1).toNat default))) k K 0 (lbB Γ.lb (wI (x.labels.getD ((x.labels.length:Int) - 1).toNat default))) (by omega) (by omega) (by omega)
  have t1':=t1
  rw [show ((0:Nat):Int)=0 from rfl] at t1' t2
  show StB Γ (N+1) (((zaJ k x (lbV Γ.lb (wI (x.labels.getD ((x.labels.length:Int) - 1).toNat default)),setB c1 (!lbB Γ.lb (wI (x.labels.getD ((x.labels.length:Int) - 1).toNat default)))) (setB c1 (!lbB Γ.lb (wI (x.labels.getD ((x.labels.length:Int) - 1).toNat default)))) 0).bind fun j6 => (zac j6 (lbV Γ.lb (wI (x.labels.getD ((x.labels.length:Int) - 1).toNat default)))).bind fun x7 => (zaq x7.2).bind fun x9 => some x9).bind fun x45 => some x45) ((zaK K Γ.env x (lbV Γ.lb (wI (x.labels.getD ((x.labels.length:Int) - 1).toNat default)),lbB Γ.lb (wI (x.labels.getD ((x.labels.length:Int) - 1).toNat default))) 0 (lbB Γ.lb (wI (x.labels.getD ((x.labels.length:Int) - 1).toNat default)))).bind fun j5 => (if s1.ok=true then some j5 else some false).bind (fun j6 => ((zad (St8.mk s1.l s1.under s1.away s1.dead s1.most j6) (lbV Γ.lb (wI (x.labels.getD ((x.labels.length:Int) - 1).toNat default)))).bind fun x7 => ((zaW x7.1).bind fun x11 => some x11))))
  rw [t1',t2,Option.bind_some,Option.bind_some,zsX]
  have ha:=ziX h1 (!b')
  rw [Bool.not_not] at ha
  obtain ⟨v2,c2,v2',s2,e5,e6,h2,_⟩:=zbK g ha (Vk.of3 (lbK o.lb (wI (x.labels.getD ((x.labels.length:Int) - 1).toNat default))))
  have e6':zad (St8.mk s1.l s1.under s1.away s1.dead s1.most (s1.ok&&b')) (lbV Γ.lb (wI (x.labels.getD ((x.labels.length:Int) - 1).toNat default)))=some (s2,v2'):=e6
  rw [e5,e6',Option.bind_some,Option.bind_some]
  obtain ⟨c3,s3,e7,e8,h3⟩:=zlD g h2
  exact ⟨c3,s3,by rw [e7]; rfl,by rw [e8]; rfl,h3.mono (by omega)⟩
theorem zuJ (x:Instr) (K:Nat) (hK:10<K) (ha:0≤x.align):zbe K x 1 0=some (if x.align≤3 then 2 ^ x.align.toNat else 16):=by
 obtain ⟨k,rfl⟩:∃ k,K=k+6:=⟨K - 6,by omega⟩
 have w1:wI (2 * 1)=2:=by decide
 have w2:wI (2 * 2)=4:=by decide
 have w3:wI (2 * 4)=8:=by decide
 have w4:wI (2 * 8)=16:=by decide
 have u0:IntKind.wrap .u32 (0+1)=1:=by decide
 have u1:IntKind.wrap .u32 (1+1)=2:=by decide
 have u2:IntKind.wrap .u32 (2+1)=3:=by decide
 have u3:IntKind.wrap .u32 (3+1)=4:=by decide
 have hc:x.align=0∨x.align=1∨x.align=2∨x.align=3∨4≤x.align:=by omega
 rcases hc with h | h | h | h | h
 ·simp only [zbe,h]; rfl
 ·simp only [zbe,h,w1,u0]; rfl
 ·simp only [zbe,h,w1,w2,u0,u1]; rfl
 ·simp only [zbe,h,w1,w2,w3,u0,u1,u2]; rfl
 ·have d0:decide (0<x.align)=true:=decide_eq_true (by omega)
  have d1:decide (1<x.align)=true:=decide_eq_true (by omega)
  have d2:decide (2<x.align)=true:=decide_eq_true (by omega)
  have d3:decide (3<x.align)=true:=decide_eq_true (by omega)
  simp only [zbe,w1,w2,w3,w4,u0,u1,u2,u3,d0,d1,d2,d3]
  rw [if_neg (by omega:¬ x.align≤3)]
  have d4:decide ((16:Int)≤8)=false:=by decide
  rw [d4,Bool.and_false]
  rfl
theorem zxE (x:Instr) (ha:0≤x.align) (n:Int) (hn:0≤n∧n≤8) :
  (if decide (x.align>(3:Int))=true then true else decide ((wI (1 * 2 ^ (min x.align.toNat (IntKind.bits .i64))))>n)) = !decide ((if x.align≤3 then (2:Int) ^ x.align.toNat else 16)≤n):=by
 by_cases h:x.align≤3
 ·rw [if_neg (by simp; omega),if_pos h]
  have hc:x.align=0∨x.align=1∨x.align=2∨x.align=3:=by omega
  have e:wI (1 * 2 ^ (min x.align.toNat (IntKind.bits .i64)))=(2:Int) ^ x.align.toNat:=by
   rcases hc with h | h | h | h <;> rw [h] <;> decide
  rw [e]
  by_cases h2:(2:Int) ^ x.align.toNat≤n
  ·rw [decide_eq_true h2,decide_eq_false (by omega)]; rfl
  ·rw [decide_eq_false h2,decide_eq_true (by omega)]; rfl
 ·rw [if_pos (by simp; omega),if_neg h,decide_eq_false (by omega)]; rfl
theorem n32 (n:Int):(n != wI (IntKind.wrap .i32 n))=((decide (n<((-2147483648):Int)))||(decide (n≥(2147483648:Int)))):=by
 rw [IntKind.wrap_i32,wI_small (by omega) (by omega)]
 by_cases h:n < -2147483648
 ·rw [decide_eq_true h,Bool.true_or]
  simp only [bne_iff_ne,ne_eq]
  omega
 ·by_cases h2:n≥2147483648
  ·rw [decide_eq_true h2,Bool.or_true]
   simp only [bne_iff_ne,ne_eq]
   omega
  ·rw [decide_eq_false h,decide_eq_false h2]
   have:n=(n+2147483648) % 4294967296 - 2147483648:=by omega
   rw [← this]; simp
theorem zxl {Γ:Ctx} {N P K:Nat} {c:Checker} {s:St8} (g:Gd Γ N) (o:COk Γ P) (h:Sim Γ N c s) (hk:s.ok=true) (x:Instr) (h0:0≤x.op) (h1:x.op<256) (ha:0≤x.align) (hK:P<K) :
  StB Γ (N+1) (zbg c x) (zbQ K Γ.env s x):=by
 obtain ⟨t,is,f,n,bs,S⟩:=zuQ x.op h0 h1
 obtain ⟨e,q1,a1⟩:=S.sg
 obtain ⟨p,r,q2,a2⟩:=S.rsg
 obtain ⟨f',fe,q3,a3⟩:=S.fo
 obtain ⟨fe',q4⟩:=S.rfo
 obtain ⟨n',sg,be,q5,a5⟩:=S.by_
 obtain ⟨sg',q6⟩:=S.rby
 have fl:=h.fld
 have hcb:c.bad=false:=by rw [h.bad,hk]; rfl
 unfold zbg zbQ
 rw [q1,q2,q4,q6,Option.bind_some,Option.bind_some,Option.bind_some,Option.bind_some]
 cases is with
 | false => 
  rw [if_pos (by rw [a1]; rfl),if_pos (by rfl)]
  have hb:=h.badV
  rw [setB_true] at hb
  exact StB.ofB ⟨_,rfl,hb.mono (by omega)⟩ ⟨_,rfl,h.badR.mono (by omega)⟩
 | true => 
  obtain ⟨rfl,rfl⟩:=a2 rfl
  obtain ⟨rfl,a3'⟩:=a3 rfl
  obtain ⟨rfl,a5'⟩:=a5 rfl
  obtain ⟨tok,hn⟩:=S.tok rfl
  have tok':TOk P t:=⟨tok.1,tok.2.1,by have:=tok.2.2; have:=o.P1; omega⟩
  rw [if_neg (by rw [a1]; decide),q5,Option.bind_some]
  have hal:∃ b:Bool,(if be.isNone=true then (if c.bad=true then some (Checker.mk c.m c.t c.locals c.stack c.frames c.labels c.most true) else (if (decide (x.align>(3:Int)))=true then some (Checker.mk c.m c.t c.locals c.stack c.frames c.labels c.most true) else gd (¬ x.align<0) (some (Checker.mk c.m c.t c.locals c.stack c.frames c.labels c.most (decide ((wI (1 * 2 ^ (min x.align.toNat (IntKind.bits .i64))))>n')))))).bind (fun j16 => some j16) else some c)=some (setB c (!b)) ∧
    (if bs=true then (zbe K x 1 0).bind (fun j10 => (if s.ok=true then some (decide (j10≤n')) else some false).bind (fun j11 => some j11)) else some s.ok)=some (s.ok&&b):=by
   rw [a5']
   cases bs with
   | false => exact ⟨true,by rw [if_neg (by decide),Bool.not_true,setB_false],by rw [if_neg (by decide),Bool.and_true]⟩
   | true => 
    refine ⟨decide ((if x.align≤3 then (2:Int) ^ x.align.toNat else 16)≤n'),?_,?_⟩
    ·rw [if_pos rfl,← zxE x ha n' hn,if_neg (by rw [hcb]; decide)]
     by_cases h3:decide (x.align>(3:Int))=true
     ·rw [if_pos h3,if_pos h3,setB_true]; rfl
     ·rw [if_neg h3,if_neg h3,zap (by omega)]
      unfold setB
      rw [hcb]; rfl
    ·rw [if_pos rfl,zuJ x K (by have:=o.P1; omega) ha,Option.bind_some,hk]
     rfl
  obtain ⟨b,b1,b2⟩:=hal
  have key:∀ (A:Option Checker) (B:Option Bool) (F:Checker→Option Checker) (G:Bool→Option St8),A=some (setB c (!b))→B=some (s.ok&&b)→StB Γ (N+1) (F (setB c (!b))) (G (s.ok&&b))→StB Γ (N+1) (A.bind F) (B.bind G):=by
   intro A B F G h1 h2 h3
   rw [h1,h2]; exact h3
  have ha2:=ziX h (!b)
  rw [Bool.not_not] at ha2
  have em:(bif ((f'==(4:Int))||(f'==(5:Int))) then ((((setB c (!b)).m.memories.length:Int)==(0:Int))||((f'==(1:Int))&&(x.n != (wI (IntKind.wrap .i32 x.n))))) else ((f'==(1:Int))&&(x.n != (wI (IntKind.wrap .i32 x.n)))))=(bif (f'==(4:Int)) then (((Γ.m.memories.length:Int)==(0:Int))||((f'==(1:Int))&&((decide (x.n<((-2147483648):Int)))||(decide (x.n≥(2147483648:Int)))))) else (bif (f'==(5:Int)) then (((Γ.m.memories.length:Int)==(0:Int))||((f'==(1:Int))&&((decide (x.n<((-2147483648):Int)))||(decide (x.n≥(2147483648:Int)))))) else ((f'==(1:Int))&&((decide (x.n<((-2147483648):Int)))||(decide (x.n≥(2147483648:Int))))))):=by
   rw [n32,show (setB c (!b)).m=Γ.m from fl.1]
   cases f'==(4:Int) <;> cases f'==(5:Int) <;> rfl
  by_cases hF:(bif (f'==(4:Int)) then (((Γ.m.memories.length:Int)==(0:Int))||((f'==(1:Int))&&((decide (x.n<((-2147483648):Int)))||(decide (x.n≥(2147483648:Int)))))) else (bif (f'==(5:Int)) then (((Γ.m.memories.length:Int)==(0:Int))||((f'==(1:Int))&&((decide (x.n<((-2147483648):Int)))||(decide (x.n≥(2147483648:Int)))))) else ((f'==(1:Int))&&((decide (x.n<((-2147483648):Int)))||(decide (x.n≥(2147483648:Int)))))))=true
  ·have hc0:((!(t.params,t.result,true).2.2)||(bif ((f',fe').1==(4:Int)) then (((Γ.env.m.memories.length:Int)==(0:Int))||(((f',fe').1==(1:Int))&&((decide (x.n<((-2147483648):Int)))||(decide (x.n≥(2147483648:Int)))))) else (bif ((f',fe').1==(5:Int)) then (((Γ.env.m.memories.length:Int)==(0:Int))||(((f',fe').1==(1:Int))&&((decide (x.n<((-2147483648):Int)))||(decide (x.n≥(2147483648:Int)))))) else (((f',fe').1==(1:Int))&&((decide (x.n<((-2147483648):Int)))||(decide (x.n≥(2147483648:Int))))))))=true:=hF
   rw [if_pos hc0]
   refine StB.ofB ?_ ⟨_,rfl,h.badR.mono (by omega)⟩
   obtain ⟨c',e5,hb⟩:=callB g ha2.badV t (by have:=tok.2.2; omega)
   refine ⟨c',?_,hb⟩
   refine (congrArg (fun o => Option.bind o _) b1).trans ?_
   rw [Option.bind_some,q3,Option.bind_some]
   have hc1:((!(f',fe).2.isNone)||(bif (((f',fe).1==(4:Int))||((f',fe).1==(5:Int))) then ((((setB c (!b)).m.memories.length:Int)==(0:Int))||(((f',fe).1==(1:Int))&&(x.n != (wI (IntKind.wrap .i32 x.n))))) else (((f',fe).1==(1:Int))&&(x.n != (wI (IntKind.wrap .i32 x.n))))))=true:=by
    show ((!fe.isNone)||_)=true
    rw [a3']
    exact em.trans hF
   rw [if_pos hc1,Option.bind_some,← setB_true,e5]
   rfl
  ·have hc0:¬ ((!(t.params,t.result,true).2.2)||(bif ((f',fe').1==(4:Int)) then (((Γ.env.m.memories.length:Int)==(0:Int))||(((f',fe').1==(1:Int))&&((decide (x.n<((-2147483648):Int)))||(decide (x.n≥(2147483648:Int)))))) else (bif ((f',fe').1==(5:Int)) then (((Γ.env.m.memories.length:Int)==(0:Int))||(((f',fe').1==(1:Int))&&((decide (x.n<((-2147483648):Int)))||(decide (x.n≥(2147483648:Int)))))) else (((f',fe').1==(1:Int))&&((decide (x.n<((-2147483648):Int)))||(decide (x.n≥(2147483648:Int))))))))=true:=hF
   rw [if_neg hc0]
   refine key _ _ _ _ b1 b2 ?_
   rw [q3,Option.bind_some]
   have hc1:¬ ((!(f',fe).2.isNone)||(bif (((f',fe).1==(4:Int))||((f',fe).1==(5:Int))) then ((((setB c (!b)).m.memories.length:Int)==(0:Int))||(((f',fe).1==(1:Int))&&(x.n != (wI (IntKind.wrap .i32 x.n))))) else (((f',fe).1==(1:Int))&&(x.n != (wI (IntKind.wrap .i32 x.n))))))=true:=by
    intro hh
    apply hF
    rw [← em]
    have hh':((!fe.isNone)||_)=true:=hh
    rw [a3'] at hh'
    exact hh'
   rw [if_neg hc1,Option.bind_some]
   obtain ⟨c',s',e5,e6,h'⟩:=ztd g ha2 tok' o.P0 hK
   refine ⟨c',s',by rw [e5]; rfl,?_,h'⟩
   show ((zbE K (setO s b) t).bind fun x8 => some x8)=_
   rw [e6]; rfl
instance (r:Int):Decidable (K3 r):=by unfold K3; infer_instance
theorem zwG (r:Int):zba r=some (decide (K3 r)):=by
 unfold zba
 by_cases h0:r=0
 ·subst h0; rfl
 by_cases h1:r=127
 ·subst h1; rfl
 by_cases h2:r=126
 ·subst h2; rfl
 have hn:¬ K3 r:=by unfold K3; omega
 rw [decide_eq_false hn]
 simp [h0,h1,h2]
theorem zwK (r:Int):((r != (0:Int))&&((r != (127:Int))&&(r != (126:Int)))) = !decide (K3 r):=by
 by_cases h0:r=0
 ·subst h0; rfl
 by_cases h1:r=127
 ·subst h1; rfl
 by_cases h2:r=126
 ·subst h2; rfl
 have hn:¬ K3 r:=by unfold K3; omega
 rw [decide_eq_false hn]
 simp [h0,h1,h2]
def IH (Γ:Ctx) (N k:Nat) (L:List Instr):Prop:=
 ∀ (lab:Int),K3 lab→∀ (l:List Int) (aw dd:Bool) (c:Checker) (s:St8),l.length≤N→Sim (Γ.sub l aw dd lab) 0 c s→∃ c' s',zaj (k+2) c L=some c'∧zan (k+2) (Γ.sub l aw dd lab).env s L=some s'∧Sim (Γ.sub l aw dd lab) L.length c' s'
theorem zvh (c:Checker) (r:Int):(if c.bad=true then some (Checker.mk c.m c.t c.locals c.stack c.frames c.labels c.most true) else (zba r).bind fun x4 => some (Checker.mk c.m c.t c.locals c.stack c.frames c.labels c.most (!x4)))=some (setB c (!decide (K3 r))):=by
 rw [zwG,Option.bind_some]
 exact zxa c _
theorem zxm {Γ:Ctx} {N P k:Nat} {c:Checker} {s:St8} (o:COk Γ P) (h:Sim Γ N c s) (x:Instr) (hx:x.op=2∨x.op=3∨x.op=4)
  (g:Gd Γ (N+x.body.length+x.els.length+1)) (hf:Γ.fr.length+1<1000000000) (hl:Γ.lb.length+1<1000000000) (i1:IH Γ N k x.body) (i2:IH Γ N k x.els) :
  StB Γ (N+1) (zab (k+4) c x) (zbB (k+4) Γ.env s x):=by
 obtain ⟨op,n,al,of_,res,body,els,labels⟩:=x
 have gN:Gd Γ N:=g.mono (by omega)
 have g1:Gd Γ (N+body.length+1):=g.mono (by show N+body.length+1≤N+body.length+els.length+1; omega)
 have g2:Gd Γ (N+els.length+1):=g.mono (by show N+els.length+1≤N+body.length+els.length+1; omega)
 have L0:∀ {c s},Sim Γ N c s→K3 res→∃ c' s',((zaf c res).bind fun x10 => some x10)=some c'∧((zam s res).bind fun x2 => some x2)=some s'∧Sim Γ (N+1) c' s':=fun h hr => by
  obtain ⟨c',s',e1,e2,h'⟩:=zlq gN h (Vk.of3 hr)
  exact ⟨c',s',by rw [e1]; rfl,by rw [e2]; rfl,h'⟩
 have LB:∀ {c},BadV Γ N c→∃ c',((zaf c res).bind fun x10 => some x10)=some c'∧BadV Γ (N+1) c':=fun h => by
  obtain ⟨c',e1,h'⟩:=layB gN h res
  exact ⟨c',by rw [e1]; rfl,h'⟩
 have eb:∀ op,zbB (k+4) Γ.env s (Instr.mk op n al of_ res body els labels)=if ((res != (0:Int))&&((res != (127:Int))&&(res != (126:Int))))=true then some (St8.mk s.l s.under s.away s.dead s.most false) else (if (op==(2:Int))=true then ((zao (k+3) Γ.env s body res res).bind fun x4 => some x4) else (if (op==(3:Int))=true then ((zao (k+3) Γ.env s body res 0).bind fun x6 => some x6) else ((zad s 127).bind fun x8 => ((zao (k+3) Γ.env x8.1 body res res).bind fun x10 => ((zao (k+3) Γ.env x10 els res res).bind fun x12 => some x12))))).bind (fun j1 => ((zam j1 res).bind fun x2 => some x2)):=fun op => by
  simp only [zbB]; rfl
 rw [eb,zwK]
 have hx':op=2∨op=3∨op=4:=hx
 rcases hx' with rfl | rfl | rfl
 ·have e1:zab (k+4) c (Instr.mk 2 n al of_ res body els labels)=(if c.bad=true then some (Checker.mk c.m c.t c.locals c.stack c.frames c.labels c.most true) else (zba res).bind fun x4 => some (Checker.mk c.m c.t c.locals c.stack c.frames c.labels c.most (!x4))).bind fun j6 => (zah (k+3) j6 body res res).bind fun x8 => (zaf x8 res).bind fun x10 => some x10:=by
   simp only [zab]; rfl
  rw [e1,zvh,Option.bind_some]
  by_cases hr:K3 res
  ·rw [decide_eq_true hr,if_neg (by decide),if_pos (by rfl),Bool.not_true,setB_false]
   obtain ⟨c',s',e3,e4,h'⟩:=zlF body hr g1 hf hl (i1 res hr) h
   rw [e3,e4]
   exact L0 h' hr
  ·rw [decide_eq_false hr,if_pos (by decide),Bool.not_false]
   obtain ⟨c',e3,hb⟩:=innerB (k:=k) gN hf hl h.badV body res res
   rw [e3]
   exact StB.ofB (LB hb) ⟨_,rfl,h.badR.mono (by omega)⟩
 ·have e1:zab (k+4) c (Instr.mk 3 n al of_ res body els labels)=(if c.bad=true then some (Checker.mk c.m c.t c.locals c.stack c.frames c.labels c.most true) else (zba res).bind fun x4 => some (Checker.mk c.m c.t c.locals c.stack c.frames c.labels c.most (!x4))).bind fun j6 => (zah (k+3) j6 body res 0).bind fun x8 => (zaf x8 res).bind fun x10 => some x10:=by
   simp only [zab]; rfl
  rw [e1,zvh,Option.bind_some]
  by_cases hr:K3 res
  ·rw [decide_eq_true hr,if_neg (by decide),if_neg (by decide),if_pos (by rfl),Bool.not_true,setB_false]
   obtain ⟨c',s',e3,e4,h'⟩:=zlF body hr g1 hf hl (i1 0 (.inl rfl)) h
   rw [e3,e4]
   exact L0 h' hr
  ·rw [decide_eq_false hr,if_pos (by decide),Bool.not_false]
   obtain ⟨c',e3,hb⟩:=innerB (k:=k) gN hf hl h.badV body res 0
   rw [e3]
   exact StB.ofB (LB hb) ⟨_,rfl,h.badR.mono (by omega)⟩
 ·have e1:zab (k+4) c (Instr.mk 4 n al of_ res body els labels)=(if c.bad=true then some (Checker.mk c.m c.t c.locals c.stack c.frames c.labels c.most true) else (zba res).bind fun x4 => some (Checker.mk c.m c.t c.locals c.stack c.frames c.labels c.most (!x4))).bind fun j19 => (zac j19 127).bind fun x20 => (zah (k+3) x20.2 body res res).bind fun x22 => (zah (k+3) x22 els res res).bind fun x24 => (zaf x24 res).bind fun x26 => some x26:=by
   simp only [zab]; rfl
  rw [e1,zvh,Option.bind_some]
  by_cases hr:K3 res
  ·rw [decide_eq_true hr,if_neg (by decide),if_neg (by decide),if_neg (by decide),Bool.not_true,setB_false]
   obtain ⟨v,c0,v',s0,e5,e6,h0,_⟩:=zbK gN h (Vk.of2 (x:=127) (.inr rfl))
   rw [e5,e6,Option.bind_some,Option.bind_some]
   obtain ⟨c1,s1,e3,e4,h1⟩:=zlF body hr g1 hf hl (i1 res hr) h0
   rw [e3,e4,Option.bind_some,Option.bind_some]
   obtain ⟨c2,s2,e7,e8,h2⟩:=zlF els hr g2 hf hl (i2 res hr) h1
   rw [e7,e8]
   exact L0 h2 hr
  ·rw [decide_eq_false hr,if_pos (by decide),Bool.not_false]
   obtain ⟨v,c0,e5,h0⟩:=takeB gN h.badV 127
   rw [e5,Option.bind_some]
   obtain ⟨c',e3,hb⟩:=innerB (k:=k) gN hf hl h0 body res res
   rw [e3,Option.bind_some]
   obtain ⟨c'',e4,hb'⟩:=innerB (k:=k) gN hf hl hb els res res
   rw [e4]
   exact StB.ofB (LB hb') ⟨_,rfl,h.badR.mono (by omega)⟩
def stepR (k:Nat) (p0:Env8) (a4:St8) (x:Instr):Option St8:=
 if ((x.op)==(0:Int))=true then ((zaW a4).bind fun x9 => some x9) else (if ((x.op)==(1:Int))=true then some a4 else (if ((decide ((x.op)≥(2:Int)))&&(decide ((x.op)≤(4:Int))))=true then ((zbB k p0 a4 x).bind fun x11 => some x11) else (if ((decide ((x.op)≥(12:Int)))&&(decide ((x.op)≤(14:Int))))=true then ((zbc k p0 a4 x).bind fun x13 => some x13) else (if ((x.op)==(15:Int))=true then ((zad a4 p0.result).bind fun x15 => ((zaW x15.1).bind fun x17 => some x17)) else (if (((x.op)==(16:Int))||((x.op)==(17:Int)))=true then ((zbI k p0 a4 x).bind fun x19 => some x19) else (if ((x.op)==(26:Int))=true then ((zad a4 255).bind fun x21 => some x21.1) else (if ((x.op)==(27:Int))=true then ((zad a4 127).bind fun x23 => ((zad x23.1 255).bind fun x25 => ((zad x25.1 x25.2).bind fun x27 => ((zam x27.1 x27.2).bind fun x29 => some x29)))) else (if ((decide ((x.op)≥(32:Int)))&&(decide ((x.op)≤(36:Int))))=true then ((zaA p0 a4 x).bind fun x31 => some x31) else ((zbQ k p0 a4 x).bind fun x33 => some x33)))))))))
def stepR' (k:Nat) (e:Env8) (s:St8) (x:Instr):Option St8:=if s.ok=true then stepR k e s x else some s
theorem zuf (k:Nat) (e:Env8) (l:List Instr) {s:St8} (h:s.ok=false):l.foldlM (stepR' k e) s=some s:=by
 induction l with
 | nil => rfl
 | cons x l ih => 
  rw [List.foldlM_cons]
  have:stepR' k e s x=some s:=by unfold stepR'; rw [h]; rfl
  rw [this]; exact ih
theorem zeG (k:Nat) (e:Env8) (s:St8) (l:List Instr) (hk:l.length<k) (hs:l.length<1000000000):zan (k+1) e s l=l.foldlM (stepR' k e) s:=by
 simp only [zan]
 rw [Option.bind_fun_some]
 have key:∀ (q i:Nat) (s:St8),i≤l.length→l.length - i<q→lpN q (fun (rec6:St8×Int→Option (St8)) v => match v with | (a4,a5) => (if ((decide (a5<(l.length:Int)))&&a4.ok)=true then (gd (0≤a5∧a5<(l.length:Int)) (stepR k e a4 (l.getD a5.toNat default))).bind (fun j7 => rec6 (j7,(wI (a5+1)))) else some a4)) (s,(i:Int))=(l.drop i).foldlM (stepR' k e) s:=by
  intro q
  induction q with
  | zero => intro i s _ h; omega
  | succ q ih => 
   intro i s h1 h2
   simp only [lpN]
   by_cases h:i<l.length
   ·rw [dropS l i h,List.foldlM_cons]
    by_cases hb:s.ok=true
    ·rw [if_pos (by rw [dltT h,hb]; rfl),zap (by omega)]
     unfold stepR'
     rw [if_pos hb,wI_nat i (by omega)]
     cases stepR k e s (l.getD (i:Int).toNat default) with
     | none => rfl
     | some c' => exact ih (i+1) c' h (by omega)
    ·have hb':s.ok=false:=by simpa using hb
     rw [if_neg (by rw [hb',Bool.and_false]; decide)]
     have:stepR' k e s (l.getD (i:Int).toNat default)=some s:=by unfold stepR'; rw [hb']; rfl
     rw [this]
     exact (zuf k e _ hb').symm
   ·rw [if_neg (by intro hh; rw [Bool.and_eq_true] at hh; exact dltF h hh.1),List.drop_of_length_le (by omega)]
    rfl
 exact key k 0 s (Nat.zero_le _) (by omega)
mutual
def IWI:Instr→Prop
 | .mk op _ al _ _ b e _ => (0≤op∧op<256)∧0≤al∧IWL b∧IWL e
def IWL:List Instr→Prop
 | [] => True
 | x :: l => IWI x∧IWL l
end
theorem zxn {Γ:Ctx} {N P k:Nat} {c:Checker} {s:St8} (o:COk Γ P) (h:Sim Γ N c s) (x:Instr) (hw:IWI x) (hk:P+400<k)
  (g:Gd Γ (N+x.body.length+x.els.length+1)) (hf:Γ.fr.length+1<1000000000) (hl:Γ.lb.length+1<1000000000) (i1:IH Γ N k x.body) (i2:IH Γ N k x.els) :
  StB Γ (N+1) (stepC (k+4) c x) (stepR' (k+4) Γ.env s x):=by
 have gN:Gd Γ N:=g.mono (by omega)
 unfold stepC stepR'
 by_cases hk':s.ok=true
 rotate_left
 ·have hb:s.ok=false:=by simpa using hk'
  rw [if_pos (by rw [h.bad,hb]; rfl),if_neg hk']
  exact ⟨c,s,rfl,rfl,h.mono (by omega)⟩
 rw [if_neg (by rw [h.bad,hk']; decide),if_pos hk']
 have hop:(0≤x.op∧x.op<256)∧0≤x.align:=by
  cases x; simp only [IWI] at hw; exact ⟨hw.1,hw.2.1⟩
 obtain ⟨⟨o1,o2⟩,o3⟩:=hop
 unfold stepR
 simp only [Option.bind_fun_some]
 by_cases q0:x.op=0
 ·rw [if_pos (by rw [q0]; decide),if_pos (by rw [q0]; decide)]
  simp only [zab]
  rw [if_pos (by rw [q0]; decide)]
  obtain ⟨c',s',e1,e2,h'⟩:=zlD gN h
  exact ⟨c',s',by rw [e1]; rfl,e2,h'.mono (by omega)⟩
 by_cases q1:x.op=1
 ·rw [if_pos (by rw [q1]; decide),if_neg (by rw [q1]; decide),if_pos (by rw [q1]; decide)]
  simp only [zab]
  rw [if_neg (by rw [q1]; decide),if_pos (by rw [q1]; decide)]
  exact ⟨c,s,rfl,rfl,h.mono (by omega)⟩
 rw [if_neg (c:=(x.op==(0:Int))=true) (by simpa using q0),if_neg (c:=(x.op==(1:Int))=true) (by simpa using q1)]
 by_cases q2:x.op=2∨x.op=3∨x.op=4
 ·rw [if_pos (by simp; omega),if_pos (by simp; omega)]
  exact zxm o h x q2 g hf hl i1 i2
 rw [if_neg (c:=(decide (x.op≥2)&&decide (x.op≤4))=true) (by simp; omega)]
 by_cases q3:x.op=12
 ·rw [if_pos (by simp; omega),if_pos (by simp; omega)]
  exact zyz gN o h x _ q3
 by_cases q4:x.op=13
 ·rw [if_pos (by simp; omega),if_pos (by simp; omega)]
  exact zxR gN o h x _ q4
 by_cases q5:x.op=14
 ·rw [if_pos (by simp; omega),if_pos (by simp; omega)]
  exact zxk gN o h x _ q5 (by omega) (by omega)
 rw [if_neg (c:=(decide (x.op≥12)&&decide (x.op≤14))=true) (by simp; omega)]
 by_cases q6:x.op=15
 ·rw [if_pos (by simp; omega),if_pos (by simp [q6])]
  have e1:zab (k+4) c x=(zac c c.t.result).bind fun x47 => (zaq x47.2).bind fun x49 => some x49:=by
   obtain ⟨op,n,al,of_,res,body,els,labels⟩:=x
   obtain rfl:op=15:=q6
   simp only [zab]; rfl
  rw [e1,h.fld.2.1]
  obtain ⟨v,c',v',s',e3,e4,h',_⟩:=zbK gN h (Vk.of3 o.res)
  have e4':zad s Γ.env.result=some (s',v'):=e4
  rw [e3,e4',Option.bind_some,Option.bind_some]
  obtain ⟨c2,s2,e5,e6,h2⟩:=zlD gN h'
  exact ⟨c2,s2,by rw [e5]; rfl,e6,h2.mono (by omega)⟩
 rw [if_neg (c:=(x.op==(15:Int))=true) (by simpa using q6)]
 by_cases q7:x.op=16
 ·rw [if_pos (by simp; omega),if_pos (by simp [q7])]
  exact (zvo gN o h hk' (by omega) x _).1 q7
 by_cases q8:x.op=17
 ·rw [if_pos (by simp; omega),if_pos (by simp [q8])]
  exact (zvo gN o h hk' (by omega) x _).2 q8
 rw [if_neg (c:=(x.op==(16:Int)||x.op==(17:Int))=true) (by simp [q7,q8])]
 by_cases q9:x.op=26
 ·rw [if_neg (by simp; omega),if_pos (by simp [q9])]
  have e1:zag c x=(zac c 1).bind fun x1 => some x1.2:=by
   unfold zag; rw [if_pos (by simp [q9])]
  rw [e1]
  obtain ⟨v,c',v',s',e3,e4,h',_⟩:=zbK gN h Vk.any
  exact ⟨c',s',by rw [e3]; rfl,by rw [e4]; rfl,h'.mono (by omega)⟩
 rw [if_neg (c:=(x.op==(26:Int))=true) (by simpa using q9)]
 by_cases q10:x.op=27
 ·rw [if_neg (by simp; omega),if_pos (by simp [q10])]
  have e1:zag c x=(zac c 127).bind fun x3 => (zac x3.2 1).bind fun x5 => (zac x5.2 x5.1).bind fun x7 => (zaf x7.2 x7.1).bind fun x9 => some x9:=by
   unfold zag; rw [if_neg (by simp [q10]),if_pos (by simp [q10])]
  rw [e1]
  obtain ⟨v,c',v',s',e3,e4,h',_⟩:=zbK gN h (Vk.of2 (x:=127) (.inr rfl))
  rw [e3,e4,Option.bind_some,Option.bind_some]
  obtain ⟨v2,c2,v2',s2,e5,e6,h2,k2⟩:=zbK gN h' Vk.any
  rw [e5,e6,Option.bind_some,Option.bind_some]
  obtain ⟨v3,c3,v3',s3,e7,e8,h3,k3⟩:=zbK gN h2 k2
  rw [e7,e8,Option.bind_some,Option.bind_some]
  obtain ⟨c4,s4,e9,e10,h4⟩:=zlq gN h3 k3
  exact ⟨c4,s4,by rw [e9]; rfl,e10,h4⟩
 rw [if_neg (c:=(x.op==(27:Int))=true) (by simpa using q10)]
 by_cases q11:32≤x.op∧x.op≤36
 ·rw [if_neg (by simp; omega),if_pos (by simp; omega)]
  exact zuI gN o h hk' x q11.1 q11.2
 rw [if_neg (c:=(decide (x.op≥32)&&decide (x.op≤36))=true) (by simp; omega)]
 by_cases q12:x.op<26
 ·rw [if_pos (by simpa using q12)]
  have hB:zab (k+4) c x=some (Checker.mk c.m c.t c.locals c.stack c.frames c.labels c.most true):=by
   simp only [zab]
   have r2:(if (x.op==(2:Int))=true then some (x.op==(2:Int)) else some (x.op==(3:Int)))=some false:=by
    rw [if_neg (by simp; omega)]
    congr 1
    simp; omega
   rw [if_neg (by simp; omega),if_neg (by simp; omega),r2,Option.bind_some,if_neg (by decide),if_neg (by simp; omega),if_neg (by simp; omega),if_neg (by simp; omega),if_neg (by simp; omega),if_neg (by simp; omega),if_neg (by simp; omega),if_neg (by simp; omega)]
  rw [hB]
  obtain ⟨t,is,f,n,bs,S⟩:=zuQ x.op o1 o2
  obtain ⟨p,r,r1,_⟩:=S.rsg
  obtain ⟨fe,r2⟩:=S.rfo
  obtain ⟨sg,r3⟩:=S.rby
  have his:is=false:=S.low q12 (by omega) (by omega)
  subst his
  unfold zbQ
  rw [r1,r2,r3,Option.bind_some,Option.bind_some,Option.bind_some,if_pos (by rfl)]
  have hb:=h.badV
  rw [setB_true] at hb
  exact StB.ofB ⟨_,rfl,hb.mono (by omega)⟩ ⟨_,rfl,h.badR.mono (by omega)⟩
 ·rw [if_neg (by simpa using q12)]
  have e1:zag c x=(zbg c x).bind fun x37 => some x37:=by
   unfold zag
   rw [if_neg (by simp; omega),if_neg (by simp; omega),if_neg (by simp; omega),if_neg (by simp; omega),if_neg (by simp; omega),if_neg (by simp; omega),if_neg (by simp; omega)]
  rw [e1,Option.bind_fun_some]
  exact zxl gN o h hk' x o1 o2 o3 (by omega)
theorem zxo:∀ (K:Nat) (Γ:Ctx) (N P:Nat) (c:Checker) (s:St8) (L:List Instr),COk Γ P→IWL L→wtL L+P+500≤K→wtL L<1000000000→Gd Γ (N+3 * wtL L)→Γ.fr.length+wtL L<1000000000→Γ.lb.length+wtL L<1000000000→Sim Γ N c s →
  ∃ c' s',zaj K c L=some c'∧zan K Γ.env s L=some s'∧Sim Γ (N+L.length) c' s':=by
 intro K
 induction K using Nat.strongRecOn with
 | _ K ihK => 
 intro Γ N P c s L o hw hK hW g hf hl h
 obtain ⟨k,rfl⟩:∃ k,K=k+4+1:=⟨K - 5,by omega⟩
 have hLn:=wtL_pos L
 rw [zwL (k+4) c L (by omega) (by omega),zeG (k+4) Γ.env s L (by omega) (by omega)]
 have key:∀ (M:List Instr) (N':Nat) (c:Checker) (s:St8),IWL M→wtL M≤wtL L→N'+3 * wtL M≤N+3 * wtL L→Sim Γ N' c s→∃ c' s',M.foldlM (stepC (k+4)) c=some c'∧M.foldlM (stepR' (k+4) Γ.env) s=some s'∧Sim Γ (N'+M.length) c' s':=by
  intro M
  induction M with
  | nil => intro N' c s _ _ _ h; exact ⟨c,s,rfl,rfl,h⟩
  | cons x M ihM => 
   intro N' c s hw hm hn h
   simp only [IWL] at hw
   simp only [wtL] at hm hn
   have hx:=wtI_eq x
   have hbp:=wtL_pos x.body
   have hep:=wtL_pos x.els
   have hMp:=wtL_pos M
   have hwb:IWL x.body∧IWL x.els:=by
    have:=hw.1
    cases x; simp only [IWI] at this; exact this.2.2
   have gun:=g.un
   have gI:∀ (B:List Instr),IWL B→wtL B+4≤wtI x+wtL M→IH Γ N' k B:=by
    intro B hB1 hB2 lab hlab l aw dd c s hll hs
    have:=ihK (k+2) (by omega) (Γ.sub l aw dd lab) 0 P c s B (o.sub l aw dd hlab) hB1 (by omega) (by omega)
     (by
      have g':Gd Γ (l.length+(0+3 * wtL B)):=g.mono (by omega)
      exact g'.sub (N:=0) (by omega) (by omega))
     (by simp only [Ctx.sub,List.length_append,List.length_cons,List.length_nil]; omega)
     (by simp only [Ctx.sub,List.length_append,List.length_cons,List.length_nil]; omega) hs
    rwa [Nat.zero_add] at this
   obtain ⟨c1,s1,e1,e2,h1⟩:=zxn (k:=k) o h x hw.1 (by omega) (g.mono (by omega)) (by omega) (by omega) (gI _ hwb.1 (by omega)) (gI _ hwb.2 (by omega))
   obtain ⟨c2,s2,e3,e4,h2⟩:=ihM (N'+1) c1 s1 hw.2 (by omega) (by omega) h1
   refine ⟨c2,s2,?_,?_,?_⟩
   ·rw [List.foldlM_cons,e1]; exact e3
   ·rw [List.foldlM_cons,e2]; exact e4
   ·rw [List.length_cons,show N'+(M.length+1)=N'+1+M.length by omega]; exact h2
 exact key L N c s hw (Nat.le_refl _) (Nat.le_refl _) h
instance (r:Int):Decidable (K2 r):=by unfold K2; infer_instance
theorem idxK {p:Int→Bool} {f:Int→Option Bool} (hf:∀ x,f x=some (p x)) (l:List Int) (hl:l.length<1000000000):∀ (k i:Nat),i≤l.length→l.length - i<k →
  ∃ j,zar k l f (i:Int)=some j∧decide (j≥0)=(l.drop i).any p:=by
 intro k
 induction k with
 | zero => intro i _ h; omega
 | succ k ih => 
  intro i h1 h2
  simp only [zar]
  by_cases h:i<l.length
  ·rw [if_pos (dltT h),zap (by omega),hf,Option.bind_some,dropS l i h,List.any_cons]
   cases p (l.getD (i:Int).toNat default) with
   | true => exact ⟨(i:Int),by rw [if_pos rfl],by rw [Bool.true_or]; exact decide_eq_true (by omega)⟩
   | false => 
    rw [if_neg (by decide),wI_nat i (by omega),Bool.false_or]
    exact ih (i+1) h (by omega)
  ·rw [if_neg (dltF h),List.drop_of_length_le (by omega)]
   exact ⟨-1,rfl,rfl⟩
theorem containsK {p:Int→Bool} {f:Int→Option Bool} (hf:∀ x,f x=some (p x)) (l:List Int) (hl:l.length<1000000000) (K:Nat) (hK:l.length<K):zas K l f=some (l.any p):=by
 unfold zas zaL
 obtain ⟨j,h1,h2⟩:=idxK hf l hl K 0 (Nat.zero_le _) (by omega)
 rw [show (0:Int)=((0:Nat):Int) from rfl,h1,Option.bind_some]
 exact congrArg some h2
theorem idxG {p:Glo→Bool} {f:Glo→Option Bool} (hf:∀ x,f x=some (p x)) (l:List Glo) (hl:l.length<1000000000):∀ (k i:Nat),i≤l.length→l.length - i<k →
  ∃ j,zal k l f (i:Int)=some j∧decide (j≥0)=(l.drop i).any p:=by
 intro k
 induction k with
 | zero => intro i _ h; omega
 | succ k ih => 
  intro i h1 h2
  simp only [zal]
  by_cases h:i<l.length
  ·rw [if_pos (dltT h),zap (by omega),hf,Option.bind_some,dropS l i h,List.any_cons]
   cases p (l.getD (i:Int).toNat default) with
   | true => exact ⟨(i:Int),by rw [if_pos rfl],by rw [Bool.true_or]; exact decide_eq_true (by omega)⟩
   | false => 
    rw [if_neg (by decide),wI_nat i (by omega),Bool.false_or]
    exact ih (i+1) h (by omega)
  ·rw [if_neg (dltF h),List.drop_of_length_le (by omega)]
   exact ⟨-1,rfl,rfl⟩
theorem containsG {p:Glo→Bool} {f:Glo→Option Bool} (hf:∀ x,f x=some (p x)) (l:List Glo) (hl:l.length<1000000000) (K:Nat) (hK:l.length<K):zau K l f=some (l.any p):=by
 unfold zau zaH
 obtain ⟨j,h1,h2⟩:=idxG hf l hl K 0 (Nat.zero_le _) (by omega)
 rw [show (0:Int)=((0:Nat):Int) from rfl,h1,Option.bind_some]
 exact congrArg some h2
theorem zuR (x:Int):zbm x=some (!decide (K2 x)):=by
 unfold zbm
 rw [Option.bind_fun_some,zwG,Option.bind_some]
 by_cases h0:x=0
 ·subst h0; rfl
 ·rw [if_neg (by simpa using h0)]
  have:K3 x↔K2 x:=by unfold K3 K2; omega
  by_cases h:K2 x
  ·rw [decide_eq_true h,decide_eq_true (this.2 h)]
  ·rw [decide_eq_false h,decide_eq_false (fun h' => h (this.1 h'))]
theorem none2_eq (x:Glo):zca x=some (!decide (K2 x.kind)):=by
 unfold zca
 rw [zuR,Option.bind_some]
theorem zuU (x:Int):zbi x false=some (decide (K2 x)):=by
 unfold zbi K2
 by_cases h1:x=127
 ·subst h1; rfl
 by_cases h2:x=126
 ·subst h2; rfl
 simp [h1,h2]
theorem kind3_eq (x:Int):zbi x true=some (decide (K3 x)):=by
 unfold zbi K3
 by_cases h1:x=127
 ·subst h1; rfl
 by_cases h2:x=126
 ·subst h2; rfl
 by_cases h3:x=0
 ·subst h3; rfl
 simp [h1,h2,h3]
def kT (t:Typ):Bool:=decide (K3 t.result)&&t.params.all fun x => decide (K2 x)
def kF (f:Fnc):Bool:=f.locals.all fun x => decide (K2 x)
def kG (g:Glo):Bool:=decide (K2 g.kind)
def kindsB (m:Mdl):Bool:=m.types.all kT&&(m.funcs.all kF&&m.globals.all kG)
structure MSz (S:Nat) (m:Mdl):Prop where
 S0:S<1000000000
 types:m.types.length<S
 typ:∀ t∈m.types,t.params.length<S
 funcs:m.funcs.length<S
 fnc:∀ f∈m.funcs,f.locals.length<S
 globals:m.globals.length<S
theorem zvk {α:Type} (p:α→Bool) (l:List α):(l.any fun x => !p x) = !l.all p:=by
 induction l with
 | nil => rfl
 | cons x l ih => rw [List.any_cons,List.all_cons,ih]; cases p x <;> rfl
theorem zwn {S K:Nat} {m:Mdl} (z:MSz S m) (hK:S≤K):∀ (k i:Nat),i≤m.funcs.length→m.funcs.length - i<k→zbM k K m (i:Int)=some ((m.funcs.drop i).all kF&&m.globals.all kG):=by
 intro k
 have s1:=z.S0; have s2:=z.funcs; have s3:=z.globals
 induction k with
 | zero => intro i _ h; omega
 | succ k ih => 
  intro i h1 h2
  simp only [zbM]
  by_cases h:i<m.funcs.length
  ·have s4:=z.fnc _ (getD_mem m.funcs i h)
   rw [if_pos (dltT h),zap (by omega),containsK zuR _ (by omega) K (by omega),Option.bind_some,dropS m.funcs i h,List.all_cons,zvk]
   show (if (!kF (m.funcs.getD (i:Int).toNat default))=true then _ else _)=_
   cases kF (m.funcs.getD (i:Int).toNat default) with
   | false => rfl
   | true => 
    rw [if_neg (by decide),wI_nat i (by omega),Bool.true_and]
    exact ih (i+1) h (by omega)
  ·rw [if_neg (dltF h),List.drop_of_length_le (by omega),containsG none2_eq _ (by omega) K (by omega),Option.bind_some]
   rw [show (m.globals.any fun x => !decide (K2 x.kind)) = !m.globals.all kG from zvk kG m.globals,Bool.not_not]
   rfl
theorem zwo {S K:Nat} {m:Mdl} (z:MSz S m) (hK:S≤K):∀ (k i:Nat),i≤m.types.length→m.types.length - i<k→zbN k K m (i:Int)=some ((m.types.drop i).all kT&&(m.funcs.all kF&&m.globals.all kG)):=by
 intro k
 have s1:=z.S0; have s2:=z.types; have s3:=z.funcs
 induction k with
 | zero => intro i _ h; omega
 | succ k ih => 
  intro i h1 h2
  simp only [zbN]
  by_cases h:i<m.types.length
  ·have s4:=z.typ _ (getD_mem m.types i h)
   rw [if_pos (dltT h),zap (by omega),zwG,Option.bind_some,containsK zuR _ (by omega) K (by omega),Option.bind_some,dropS m.types i h,List.all_cons,zvk]
   have e:(if (!decide (K3 (m.types.getD (i:Int).toNat default).result))=true then some true else some (!(m.types.getD (i:Int).toNat default).params.all fun x => decide (K2 x)))=some (!kT (m.types.getD (i:Int).toNat default)):=by
    unfold kT
    cases decide (K3 (m.types.getD (i:Int).toNat default).result) <;> rfl
   refine (congrArg (fun o => Option.bind o _) e).trans ?_
   rw [Option.bind_some]
   cases kT (m.types.getD (i:Int).toNat default) with
   | false => rfl
   | true => 
    rw [if_neg (by decide),wI_nat i (by omega),Bool.true_and]
    exact ih (i+1) h (by omega)
  ·rw [if_neg (dltF h),List.drop_of_length_le (by omega)]
   exact zwn z hK K 0 (Nat.zero_le _) (by omega)
theorem vkinds {S K:Nat} {m:Mdl} (z:MSz S m) (hK:S≤K):zeC K m=some (kindsB m):=by
 have:=z.types
 exact zwo z hK K 0 (Nat.zero_le _) (by omega)
theorem zwA {S:Nat} {m:Mdl} (z:MSz S m) (a:Nat) (ha:a<m.types.length):∀ (k i:Nat) (b:Bool),i≤(m.types.getD (a:Int).toNat default).params.length→(m.types.getD (a:Int).toNat default).params.length - i<k →
  zcx k m (a:Int) b (i:Int)=some (b&&((m.types.getD (a:Int).toNat default).params.drop i).all fun x => decide (K2 x)):=by
 intro k
 have s1:=z.S0; have s4:=z.typ _ (getD_mem m.types a ha)
 induction k with
 | zero => intro i b _ h; omega
 | succ k ih => 
  intro i b h1 h2
  simp only [zcx]
  rw [zap (by omega)]
  by_cases h:i<(m.types.getD (a:Int).toNat default).params.length
  ·rw [if_pos (dltT h),dropS _ i h,List.all_cons]
   have e:(if b=true then gd (0≤(a:Int)∧(a:Int)<(m.types.length:Int)) (gd (0≤(i:Int)∧(i:Int)<((m.types.getD (a:Int).toNat default).params.length:Int)) ((zbi ((m.types.getD (a:Int).toNat default).params.getD (i:Int).toNat default) false).bind fun x55 => some x55)) else some false)=some (b&&decide (K2 ((m.types.getD (a:Int).toNat default).params.getD (i:Int).toNat default))):=by
    rw [zap (by omega),zap (by omega),zuU]
    cases b <;> rfl
   refine (congrArg (fun o => Option.bind o _) e).trans ?_
   rw [Option.bind_some,wI_nat i (by omega),ih (i+1) _ h (by omega),Bool.and_assoc]
  ·rw [if_neg (dltF h),List.drop_of_length_le (by omega)]
   simp
theorem zwB {S K:Nat} {m:Mdl} (z:MSz S m) (hK:S≤K):∀ (k i:Nat) (b:Bool),i≤m.types.length→m.types.length - i<k→zdB k K m b (i:Int)=some (b&&(m.types.drop i).all kT):=by
 intro k
 have s1:=z.S0; have s2:=z.types
 induction k with
 | zero => intro i b _ h; omega
 | succ k ih => 
  intro i b h1 h2
  simp only [zdB]
  by_cases h:i<m.types.length
  ·have s4:=z.typ _ (getD_mem m.types i h)
   rw [if_pos (dltT h),dropS _ i h,List.all_cons]
   have e:(if b=true then gd (0≤(i:Int)∧(i:Int)<(m.types.length:Int)) ((zbi (m.types.getD (i:Int).toNat default).result true).bind fun x45 => some x45) else some false)=some (b&&decide (K3 (m.types.getD (i:Int).toNat default).result)):=by
    rw [zap (by omega),kind3_eq]
    cases b <;> rfl
   have e2:((if b=true then gd (0≤(i:Int)∧(i:Int)<(m.types.length:Int)) ((zbi (m.types.getD (i:Int).toNat default).result true).bind fun x45 => some x45) else some false).bind fun j47 => zcx K m (i:Int) j47 0)=some (b&&kT (m.types.getD (i:Int).toNat default)):=by
    rw [e,Option.bind_some]
    have:=zwA z i h K 0 (b&&decide (K3 (m.types.getD (i:Int).toNat default).result)) (Nat.zero_le _) (by omega)
    rw [show ((0:Nat):Int)=0 from rfl] at this
    rw [this,List.drop_zero,Bool.and_assoc]; rfl
   refine (congrArg (fun o => Option.bind o _) e2).trans ?_
   rw [Option.bind_some,wI_nat i (by omega),ih (i+1) _ h (by omega),Bool.and_assoc]
  ·rw [if_neg (dltF h),List.drop_of_length_le (by omega)]
   simp
theorem zwC {S:Nat} {m:Mdl} (z:MSz S m) (a:Nat) (ha:a<m.funcs.length):∀ (k i:Nat) (b:Bool),i≤(m.funcs.getD (a:Int).toNat default).locals.length→(m.funcs.getD (a:Int).toNat default).locals.length - i<k →
  zdC k m (a:Int) b (i:Int)=some (b&&((m.funcs.getD (a:Int).toNat default).locals.drop i).all fun x => decide (K2 x)):=by
 intro k
 have s1:=z.S0; have s4:=z.fnc _ (getD_mem m.funcs a ha)
 induction k with
 | zero => intro i b _ h; omega
 | succ k ih => 
  intro i b h1 h2
  simp only [zdC]
  rw [zap (by omega)]
  by_cases h:i<(m.funcs.getD (a:Int).toNat default).locals.length
  ·rw [if_pos (dltT h),dropS _ i h,List.all_cons]
   have e:(if b=true then gd (0≤(a:Int)∧(a:Int)<(m.funcs.length:Int)) (gd (0≤(i:Int)∧(i:Int)<((m.funcs.getD (a:Int).toNat default).locals.length:Int)) ((zbi ((m.funcs.getD (a:Int).toNat default).locals.getD (i:Int).toNat default) false).bind fun x55 => some x55)) else some false)=some (b&&decide (K2 ((m.funcs.getD (a:Int).toNat default).locals.getD (i:Int).toNat default))):=by
    rw [zap (by omega),zap (by omega),zuU]
    cases b <;> rfl
   refine (congrArg (fun o => Option.bind o _) e).trans ?_
   rw [Option.bind_some,wI_nat i (by omega),ih (i+1) _ h (by omega),Bool.and_assoc]
  ·rw [if_neg (dltF h),List.drop_of_length_le (by omega)]
   simp
theorem zwD {S K:Nat} {m:Mdl} (z:MSz S m) (hK:S≤K):∀ (k i:Nat) (b:Bool),i≤m.funcs.length→m.funcs.length - i<k→zdD k K m b (i:Int)=some (b&&(m.funcs.drop i).all kF):=by
 intro k
 have s1:=z.S0; have s2:=z.funcs
 induction k with
 | zero => intro i b _ h; omega
 | succ k ih => 
  intro i b h1 h2
  simp only [zdD]
  by_cases h:i<m.funcs.length
  ·have s4:=z.fnc _ (getD_mem m.funcs i h)
   have:=zwC z i h K 0 b (Nat.zero_le _) (by omega)
   rw [show ((0:Nat):Int)=0 from rfl] at this
   rw [if_pos (dltT h),dropS _ i h,List.all_cons,this,Option.bind_some,wI_nat i (by omega),ih (i+1) _ h (by omega),Bool.and_assoc,List.drop_zero]
   rfl
  ·rw [if_neg (dltF h),List.drop_of_length_le (by omega)]
   simp
theorem zwE {S:Nat} {m:Mdl} (z:MSz S m):∀ (k i:Nat) (b:Bool),i≤m.globals.length→m.globals.length - i<k→zdE k m b (i:Int)=some (b&&(m.globals.drop i).all kG):=by
 intro k
 have s1:=z.S0; have s2:=z.globals
 induction k with
 | zero => intro i b _ h; omega
 | succ k ih => 
  intro i b h1 h2
  simp only [zdE]
  by_cases h:i<m.globals.length
  ·rw [if_pos (dltT h),dropS _ i h,List.all_cons]
   have e:(if b=true then gd (0≤(i:Int)∧(i:Int)<(m.globals.length:Int)) ((zbi (m.globals.getD (i:Int).toNat default).kind false).bind fun x45 => some x45) else some false)=some (b&&kG (m.globals.getD (i:Int).toNat default)):=by
    rw [zap (by omega),zuU]
    cases b <;> rfl
   refine (congrArg (fun o => Option.bind o _) e).trans ?_
   rw [Option.bind_some,wI_nat i (by omega),ih (i+1) _ h (by omega),Bool.and_assoc]
  ·rw [if_neg (dltF h),List.drop_of_length_le (by omega)]
   simp
theorem rkinds {S K:Nat} {m:Mdl} (z:MSz S m) (hK:S≤K):zeD K m=some (kindsB m):=by
 have s2:=z.types; have s3:=z.funcs; have s4:=z.globals
 unfold zeD
 have e3:=zwB z hK K 0 true (Nat.zero_le _) (by omega)
 have e1:=zwD z hK K 0 (true&&(m.types.drop 0).all kT) (Nat.zero_le _) (by omega)
 have e0:=zwE z K 0 ((true&&(m.types.drop 0).all kT)&&(m.funcs.drop 0).all kF) (Nat.zero_le _) (by omega)
 rw [show ((0:Nat):Int)=0 from rfl] at e3 e1 e0
 rw [e3,Option.bind_some,e1,Option.bind_some,e0,Option.bind_some]
 simp only [List.drop_zero,Bool.true_and,kindsB,Bool.and_assoc]
theorem concat2 (K:Nat) (hK:3≤K) (a b:List Int) (ha:a.length<1000000000) (hb:b.length<1000000000):zaI K [a,b]=some (a++b):=by
 obtain ⟨k,rfl⟩:∃ k,K=k+3:=⟨K - 3,by omega⟩
 have w0:wI (0+1)=1:=by decide
 have w1:wI (1+1)=2:=by decide
 have q1:wI (0+(a.length:Int))=(a.length:Int):=by rw [wI_small (by omega) (by omega)]; omega
 have q2:wI ((a.length:Int)+(b.length:Int))=(a.length:Int)+(b.length:Int):=wI_small (by omega) (by omega)
 have l1:zax (k+3) [a,b] 0 0=some ((a.length:Int)+(b.length:Int)):=by
  simp only [zax]
  show (if decide ((0:Int)<2)=true then (gd (0≤(0:Int)∧(0:Int)<2) (if decide (wI (0+(a.length:Int))<0)=true then none else some ())).bind _ else _)=_
  rw [if_pos (by decide),zap (by decide),q1,if_neg (by simp <;> omega),Option.bind_some,w0]
  show (if decide ((1:Int)<2)=true then (gd (0≤(1:Int)∧(1:Int)<2) (if decide (wI (wI (0+(a.length:Int))+(b.length:Int))<0)=true then none else some ())).bind _ else _)=_
  rw [if_pos (by decide),zap (by decide),q1,q2,if_neg (by simp <;> omega),Option.bind_some,w1]
  show (if decide ((2:Int)<2)=true then _ else some (wI (wI (0+(a.length:Int))+(b.length:Int))))=_
  rw [if_neg (by decide),q1,q2]
 have l0:zay (k+3) [a,b] [] 0=some (a++b):=by
  simp only [zay]
  show (if decide ((0:Int)<2)=true then (gd (0≤(0:Int)∧(0:Int)<2) (gd ((0+a.length) * 1≤140737488355328) _)) else _)=_
  rw [if_pos (by decide),zap (by decide),zap (by omega),w0]
  show (if decide ((1:Int)<2)=true then (gd (0≤(1:Int)∧(1:Int)<2) (gd ((a.length+b.length) * 1≤140737488355328) _)) else _)=_
  rw [if_pos (by decide),zap (by decide),zap (by omega),w1]
  rfl
 unfold zaI
 rw [l1,Option.bind_some,zap (by omega),l0]
 rfl
theorem zqR {S K:Nat} {m:Mdl} (z:MSz S m) (f:Int) (hI:∀ fn∈m.funcs,IWL fn.body∧wtL fn.body+S+600≤K∧0≤fn.type_) (hK:S+600≤K) (hK2:K<1000000000) :
  ∃ e mo,zcE K m f=some e∧zbA K m f=some (mo,e)∧zeu K m f=some (e.getD 0,mo)∧(e=none∨e=some 1∨e=some 7):=by
 have s1:=z.S0; have s2:=z.types; have s3:=z.funcs
 have main:∃ (c:Option Checker) (e:Option Int) (mo:Int),zcV K m f=some (c,e)∧(((e=some 1∨e=some 7)∧mo=0)∨(e=none∧∃ c',c=some c'∧c'.most=mo))∧zeu K m f=some (e.getD 0,mo):=by
  unfold zcV zeu
  rw [vkinds z (by omega),rkinds z (by omega),Option.bind_some]
  by_cases hf:inb f m.funcs.length
  rotate_left
  ·have:(if (decide (f<(0:Int)))=true then some true else (if (decide (f≥(m.funcs.length:Int)))=true then some true else gd (0≤f∧f<(m.funcs.length:Int)) (if (decide (((m.funcs.getD f.toNat default).type_)≥(IntKind.wrap .u32 (m.types.length:Int))))=true then some true else some (!kindsB m))))=some true:=by
    by_cases h0:f<0
    ·rw [if_pos (by simpa using h0)]
    ·rw [if_neg (by simpa using h0),if_pos (by unfold inb at hf; simp; omega)]
   rw [this,Option.bind_some,Option.bind_some,if_pos rfl,if_pos rfl]
   exact ⟨none,some 1,0,rfl,.inl ⟨.inl rfl,rfl⟩,rfl⟩
  have hf':=hf
  unfold inb at hf'
  have hm:=getD_memI hf
  obtain ⟨hw,hwt,hty⟩:=hI _ hm
  have s5:=z.fnc _ hm
  have eu:IntKind.wrap .u32 (m.types.length:Int)=(m.types.length:Int):=by rw [IntKind.wrap_u32]; omega
  rw [if_neg (by simp; omega),if_neg (by simp; omega),gdI hf,eu]
  by_cases ht:(m.funcs.getD f.toNat default).type_≥(m.types.length:Int)
  ·rw [if_pos (by simpa using ht),Option.bind_some,Option.bind_some,if_pos rfl,if_pos rfl]
   exact ⟨none,some 1,0,rfl,.inl ⟨.inl rfl,rfl⟩,rfl⟩
  rw [if_neg (by simpa using ht),Option.bind_some,Option.bind_some]
  cases hk:kindsB m with
  | false => 
   rw [if_pos (by rfl),if_pos (by rfl)]
   exact ⟨none,some 1,0,rfl,.inl ⟨.inl rfl,rfl⟩,rfl⟩
  | true => 
  rw [if_neg (by decide),if_neg (by decide)]
  by_cases ht0:0≤(m.funcs.getD f.toNat default).type_
  rotate_left
  ·exact absurd hty ht0
  have hti:inb (m.funcs.getD f.toNat default).type_ m.types.length:=⟨ht0,by omega⟩
  have hmt:=getD_memI hti
  have s6:=z.typ _ hmt
  unfold kindsB at hk
  simp only [Bool.and_eq_true,List.all_eq_true] at hk
  obtain ⟨k1,k2,k3⟩:=hk
  have kt:∀ t∈m.types,TOk (S+10) t:=fun t h => by
   have:=k1 t h
   unfold kT at this
   simp only [Bool.and_eq_true,List.all_eq_true,decide_eq_true_eq] at this
   exact ⟨this.2,this.1,by have:=z.typ t h; omega⟩
  have o:COk (Ctx.mk m (m.types.getD (m.funcs.getD f.toNat default).type_.toNat default) ((m.types.getD (m.funcs.getD f.toNat default).type_.toNat default).params++(m.funcs.getD f.toNat default).locals) [] [] [(m.types.getD (m.funcs.getD f.toNat default).type_.toNat default).result]) (S+10):=
   ⟨kt,fun g h => by have:=k3 g h; unfold kG at this; exact of_decide_eq_true this,fun x hx => by
    rcases List.mem_append.1 hx with hx | hx
    ·exact (kt _ hmt).1 x hx
    ·have:=k2 _ hm
     unfold kF at this
     rw [List.all_eq_true] at this
     exact of_decide_eq_true (this x hx),fun x hx => by
    obtain rfl:x=(m.types.getD (m.funcs.getD f.toNat default).type_.toNat default).result:=by simpa using hx
    exact (kt _ hmt).2.1,(kt _ hmt).2.1,by omega,by omega⟩
  have hwl:=wtL_pos (m.funcs.getD f.toNat default).body
  have s0:Sim (Ctx.mk m (m.types.getD (m.funcs.getD f.toNat default).type_.toNat default) ((m.types.getD (m.funcs.getD f.toNat default).type_.toNat default).params++(m.funcs.getD f.toNat default).locals) [] [] [(m.types.getD (m.funcs.getD f.toNat default).type_.toNat default).result]) 0
    (Checker.mk m (m.types.getD (m.funcs.getD f.toNat default).type_.toNat default) ((m.types.getD (m.funcs.getD f.toNat default).type_.toNat default).params++(m.funcs.getD f.toNat default).locals) [] [Frame.mk 0 false false] [(m.types.getD (m.funcs.getD f.toNat default).type_.toNat default).result] 0 false) (St8.mk [] 0 false false 0 true):=
   .inl ⟨[],false,false,0,(fun x hx => by cases hx),Nat.le_refl 0,rfl,rfl⟩
  have gg:∀ N,N<999999999999→Gd (Ctx.mk m (m.types.getD (m.funcs.getD f.toNat default).type_.toNat default) ((m.types.getD (m.funcs.getD f.toNat default).type_.toNat default).params++(m.funcs.getD f.toNat default).locals) [] [] [(m.types.getD (m.funcs.getD f.toNat default).type_.toNat default).result]) N:=fun N h => 
   ⟨by show 0+N<_; omega,(by decide:0<1000000000),(by decide:1<1000000000)⟩
  obtain ⟨c1,r1,e1,e2,h1⟩:=zxo K _ 0 (S+10) _ _ (m.funcs.getD f.toNat default).body o hw (by omega) (by omega) (gg _ (by omega)) (by show 0+_<_; omega) (by show 1+_<_; omega) s0
  obtain ⟨v,c2,v',r2,e3,e4,h2,_⟩:=zbK (gg _ (by omega)) h1 (Vk.of3 (kt _ hmt).2.1)
  have e2':zan K (Env8.mk m (m.types.getD (m.funcs.getD f.toNat default).type_.toNat default).result ((m.types.getD (m.funcs.getD f.toNat default).type_.toNat default).params++(m.funcs.getD f.toNat default).locals) [(m.types.getD (m.funcs.getD f.toNat default).type_.toNat default).result]) (St8.mk [] 0 false false 0 true) (m.funcs.getD f.toNat default).body=some r1:=e2
  rw [gdI hf,gdI hti,gdI hf,concat2 K (by omega) _ _ (by omega) (by omega),Option.bind_some,gdI hf,e1,Option.bind_some,e3,Option.bind_some]
  rw [gdI hf,gdI hti,zap (by omega),gdI hf,zap (by omega),gdI hf,e2',Option.bind_some,e4,Option.bind_some]
  rcases h2 with ⟨l,aw,dd,mo,q1,q2,rfl,rfl⟩ | ⟨⟨l,aw,dd,mo,q1,rfl⟩,q2,q3⟩
  ·by_cases hl:l.length=0
   ·have:l=[]:=List.length_eq_zero_iff.1 hl
    subst this
    exact ⟨_,none,mo,rfl,.inr ⟨rfl,_,rfl,rfl⟩,rfl⟩
   ·refine ⟨none,some 7,0,?_,.inl ⟨.inr rfl,rfl⟩,?_⟩
    ·rw [if_pos ?_]
     show (false||decide ((([]++l.map fk:List Int).length:Int)>0))=true
     rw [Bool.false_or]
     exact decide_eq_true (by simp; omega)
    ·rw [if_pos ?_]; rfl
     show (false||decide ((l.length:Int)>0))=true
     rw [Bool.false_or]
     exact decide_eq_true (by omega)
  ·refine ⟨none,some 7,0,by rw [if_pos (by rfl)],.inl ⟨.inr rfl,rfl⟩,?_⟩
   rw [if_pos (by rw [q2]; rfl)]; rfl
 obtain ⟨c,e,mo,h1,h2,h3⟩:=main
 refine ⟨e,mo,?_,?_,h3,?_⟩
 ·unfold zcE
  rw [h1]; rfl
 ·unfold zbA
  rw [h1,Option.bind_some]
  rcases h2 with ⟨rfl | rfl,rfl⟩ | ⟨rfl,c',rfl,rfl⟩ <;> rfl
 ·rcases h2 with ⟨h,_⟩ | ⟨h,_⟩
  ·exact .inr h
  ·exact .inl h
theorem zvG:∀ (K:Nat) (l:List Instr) (p1 p2:Int),wtL l<K→wtL l<1000000000→∃ v,zaz K l p1 p2=some v:=by
 intro K
 induction K with
 | zero => intro l _ _ h; omega
 | succ k ih => 
  intro l p1 p2 h hs
  have hw:=wtL_pos l
  simp only [zaz]
  rw [Option.bind_fun_some]
  split
  ·exact ⟨_,rfl⟩
  have key:∀ (q i:Nat) (n:Int),i≤l.length→l.length - i<q→∃ v,lpN q (fun (rec6:Int×Int→Option (Int)) v => match v with | (a4,a5) => (if ((decide (a5<(l.length:Int)))&&(decide (a4<p1)))=true then gd (0≤a5∧a5<(l.length:Int)) (gd (0≤a5∧a5<(l.length:Int)) ((zaz k ((l.getD a5.toNat default).body) p1 (wI (p2+1))).bind fun x9 => gd (0≤a5∧a5<(l.length:Int)) ((zaz k ((l.getD a5.toNat default).els) p1 (wI (p2+1))).bind fun x12 => rec6 ((wI ((wI ((wI (a4+(mnI (((l.getD a5.toNat default).labels).length:Int) p1)))+x9))+x12)),(wI (a5+1)))))) else some a4)) (n,(i:Int))=some v:=by
   intro q
   induction q with
   | zero => intro i n _ h; omega
   | succ q ihq => 
    intro i n h1 h2
    simp only [lpN]
    by_cases h:i<l.length
    ·by_cases hn:n<p1
     ·have hm:=getD_mem l i h
      have hx:=wtL_mem hm
      rw [wtI_eq] at hx
      rw [if_pos (by rw [dltT h,decide_eq_true hn]; rfl),zap (by omega),zap (by omega)]
      obtain ⟨v1,e1⟩:=ih (l.getD (i:Int).toNat default).body p1 (wI (p2+1)) (by omega) (by omega)
      obtain ⟨v2,e2⟩:=ih (l.getD (i:Int).toNat default).els p1 (wI (p2+1)) (by omega) (by omega)
      rw [e1,Option.bind_some,zap (by omega),e2,Option.bind_some,wI_nat i (by omega)]
      exact ihq (i+1) _ h (by omega)
     ·rw [if_neg (by rw [decide_eq_false hn,Bool.and_false]; decide)]
      exact ⟨_,rfl⟩
    ·rw [if_neg (by rw [Bool.and_eq_true]; intro hh; exact dltF h hh.1)]
     exact ⟨_,rfl⟩
  exact key k 0 _ (Nat.zero_le _) (by omega)
theorem zyN {K:Nat} {m:Mdl} (o:GvOk K m):∀ k (i:Nat) (n:Int),i≤m.types.length→m.types.length - i<k→∃ v,zbp k m n (i:Int)=some v:=by
 intro k
 have:=o.K0; have:=o.types
 induction k with
 | zero => intro i _ _ h; omega
 | succ k ih => 
  intro i n h1 h2
  simp only [zbp]
  by_cases h:i<m.types.length
  ·rw [if_pos (dltT h),zap (by omega),wI_nat i (by omega)]
   exact ih (i+1) _ h (by omega)
  ·rw [if_neg (dltF h)]; exact ⟨_,rfl⟩
theorem zyO {K:Nat} {m:Mdl} (o:GvOk K m):∀ k (i:Nat) (n:Int),i≤m.funcs.length→m.funcs.length - i<k→∃ v,zbq k K m n (i:Int)=some v:=by
 intro k
 have:=o.K0; have:=o.funcs
 induction k with
 | zero => intro i _ _ h; omega
 | succ k ih => 
  intro i n h1 h2
  simp only [zbq]
  by_cases h:i<m.funcs.length
  ·have hf:=(o.fnc _ (getD_mem m.funcs i h)).2
   obtain ⟨v,e⟩:=zvG K (m.funcs.getD (i:Int).toNat default).body 3000 0 hf (by omega)
   rw [if_pos (dltT h),zap (by omega),zap (by omega),e,Option.bind_some,wI_nat i (by omega)]
   exact ih (i+1) _ h (by omega)
  ·rw [if_neg (dltF h)]; exact ⟨_,rfl⟩
theorem zyP {K:Nat} {m:Mdl} (o:GvOk K m):∀ k (i:Nat) (n:Int),i≤m.exports.length→m.exports.length - i<k→∃ v,zbr k m n (i:Int)=some v:=by
 intro k
 have:=o.K0; have:=o.exports
 induction k with
 | zero => intro i _ _ h; omega
 | succ k ih => 
  intro i n h1 h2
  simp only [zbr]
  by_cases h:i<m.exports.length
  ·rw [if_pos (dltT h),zap (by omega),wI_nat i (by omega)]
   exact ih (i+1) _ h (by omega)
  ·rw [if_neg (dltF h)]; exact ⟨_,rfl⟩
theorem wt1 (x:Instr):wtL [x]=wtI x+1:=by simp [wtL]
theorem zyQ {K:Nat} {m:Mdl} (o:GvOk K m):∀ k (i:Nat) (n:Int),i≤m.elems.length→m.elems.length - i<k→∃ v,zbs k K m n (i:Int)=some v:=by
 intro k
 have:=o.K0; have:=o.elems
 induction k with
 | zero => intro i _ _ h; omega
 | succ k ih => 
  intro i n h1 h2
  simp only [zbs]
  by_cases h:i<m.elems.length
  ·have hf:=o.ele _ (getD_mem m.elems i h)
   obtain ⟨v,e⟩:=zvG K [(m.elems.getD (i:Int).toNat default).offset] 3000 0 (by rw [wt1]; omega) (by rw [wt1]; omega)
   rw [if_pos (dltT h),zap (by omega),zap (by omega),e,Option.bind_some,wI_nat i (by omega)]
   exact ih (i+1) _ h (by omega)
  ·rw [if_neg (dltF h)]; exact ⟨_,rfl⟩
theorem zyR {K:Nat} {m:Mdl} (o:GvOk K m):∀ k (i:Nat) (n:Int),i≤m.datas.length→m.datas.length - i<k→∃ v,zbt k K m n (i:Int)=some v:=by
 intro k
 have:=o.K0; have:=o.datas
 induction k with
 | zero => intro i _ _ h; omega
 | succ k ih => 
  intro i n h1 h2
  simp only [zbt]
  by_cases h:i<m.datas.length
  ·have hf:=o.dat _ (getD_mem m.datas i h)
   obtain ⟨v,e⟩:=zvG K [(m.datas.getD (i:Int).toNat default).offset] 3000 0 (by rw [wt1]; omega) (by rw [wt1]; omega)
   rw [if_pos (dltT h),zap (by omega),zap (by omega),e,Option.bind_some,wI_nat i (by omega)]
   exact ih (i+1) _ h (by omega)
  ·rw [if_neg (dltF h)]; exact ⟨_,rfl⟩
theorem zyS {K:Nat} {m:Mdl} (o:GvOk K m):∀ k (i:Nat) (n:Int),i≤m.globals.length→m.globals.length - i<k→∃ v,zbu k K m n (i:Int)=some v:=by
 intro k
 have:=o.K0; have:=o.globals
 induction k with
 | zero => intro i _ _ h; omega
 | succ k ih => 
  intro i n h1 h2
  simp only [zbu]
  by_cases h:i<m.globals.length
  ·have hf:=o.glo _ (getD_mem m.globals i h)
   obtain ⟨v,e⟩:=zvG K [(m.globals.getD (i:Int).toNat default).init_] 3000 0 (by rw [wt1]; omega) (by rw [wt1]; omega)
   rw [if_pos (dltT h),zap (by omega),e,Option.bind_some,wI_nat i (by omega)]
   exact ih (i+1) _ h (by omega)
  ·rw [if_neg (dltF h)]; exact ⟨_,rfl⟩
theorem zyu {K:Nat} {m:Mdl} (o:GvOk K m):∃ b,zcb K m=some b:=by
 unfold zcb
 split
 ·exact ⟨_,rfl⟩
 obtain ⟨v5,e5⟩:=zyN o K 0 0 (Nat.zero_le _) (by have:=o.types; omega)
 obtain ⟨v4,e4⟩:=zyO o K 0 v5 (Nat.zero_le _) (by have:=o.funcs; omega)
 obtain ⟨v3,e3⟩:=zyP o K 0 v4 (Nat.zero_le _) (by have:=o.exports; omega)
 obtain ⟨v2,e2⟩:=zyQ o K 0 v3 (Nat.zero_le _) (by have:=o.elems; omega)
 obtain ⟨v1,e1⟩:=zyR o K 0 v2 (Nat.zero_le _) (by have:=o.datas; omega)
 obtain ⟨v0,e0⟩:=zyS o K 0 v1 (Nat.zero_le _) (by have:=o.globals; omega)
 rw [show ((0:Nat):Int)=0 from rfl] at e5 e4 e3 e2 e1 e0
 rw [e5,Option.bind_some,e4,Option.bind_some,e3,Option.bind_some,e2,Option.bind_some,e1,Option.bind_some,e0,Option.bind_some]
 exact ⟨_,rfl⟩
theorem scM_gvK {K:Nat} (hK:1000≤K) (hK2:K<1000000000) (ps:List Int) (r:Int) (b:List Instr) (hp:ps.length<K) (hb:wtL b<K):GvOk K (scM ps r b):=by
 refine ⟨hK2,by show 3<K; omega,?_,by show 3<K; omega,?_,by show 1<K; omega,by show 1<K; omega,by show 2<K; omega,?_,by show 0<K; omega,by show 0<K; omega,fun e h => (by cases h),by show 0<K; omega,fun e h => (by cases h)⟩
 ·intro t ht
  rcases List.mem_cons.1 ht with rfl | ht
  ·exact hp
  rcases List.mem_cons.1 ht with rfl | ht
  ·show 1<K; omega
  rcases List.mem_cons.1 ht with rfl | ht
  ·show 0<K; omega
  cases ht
 ·intro t ht
  rcases List.mem_cons.1 ht with rfl | ht
  ·exact ⟨by show 2<K; omega,hb⟩
  rcases List.mem_cons.1 ht with rfl | ht
  ·exact ⟨by show 0<K; omega,Nat.lt_of_lt_of_le (by decide:wtL [Instr.mk 66 0 0 0 0 [] [] []]<1000) hK⟩
  rcases List.mem_cons.1 ht with rfl | ht
  ·exact ⟨by show 0<K; omega,Nat.lt_of_lt_of_le (by decide:wtL []<1000) hK⟩
  cases ht
 ·intro t ht
  rcases List.mem_cons.1 ht with rfl | ht
  ·exact Nat.lt_of_lt_of_le (by decide:wtI (Instr.mk 65 0 0 0 0 [] [] [])+1<1000) hK
  rcases List.mem_cons.1 ht with rfl | ht
  ·exact Nat.lt_of_lt_of_le (by decide:wtI (Instr.mk 66 0 0 0 0 [] [] [])+1<1000) hK
  cases ht
theorem scM_sz {S:Nat} (hS:10≤S) (hS2:S<1000000000) (ps:List Int) (r:Int) (b:List Instr) (hp:ps.length<S):MSz S (scM ps r b):=by
 refine ⟨hS2,by show 3<S; omega,?_,by show 3<S; omega,?_,by show 2<S; omega⟩
 ·intro t ht
  rcases List.mem_cons.1 ht with rfl | ht
  ·exact hp
  rcases List.mem_cons.1 ht with rfl | ht
  ·show 1<S; omega
  rcases List.mem_cons.1 ht with rfl | ht
  ·show 0<S; omega
  cases ht
 ·intro t ht
  rcases List.mem_cons.1 ht with rfl | ht
  ·show 2<S; omega
  rcases List.mem_cons.1 ht with rfl | ht
  ·show 0<S; omega
  rcases List.mem_cons.1 ht with rfl | ht
  ·show 0<S; omega
  cases ht
theorem zxL (e:Option Int):zhD e=some (e.getD 0):=rfl
def phi (q:Int) (s:St8):St8:=St8.mk s.l s.under s.away s.dead (mxI s.most q) s.ok
theorem zxY (a b c:Int):mxI (mxI a b) c=mxI (mxI a c) b:=by unfold mxI; (repeat' split) <;> omega
theorem zvn (q:Int) (s:St8) (k:Int):zad (phi q s) k=(zad s k).map fun p => (phi q p.1,p.2):=by
 obtain ⟨l,u,aw,dd,mo,ok⟩:=s
 show zad (St8.mk l u aw dd (mxI mo q) ok) k=_
 unfold zad
 dsimp only
 by_cases h0:(k==(0:Int))=true
 ·rw [if_pos h0,if_pos h0]; rfl
 rw [if_neg h0,if_neg h0]
 by_cases h1:((l.length:Int)==(0:Int))=true
 ·rw [if_pos h1,if_pos h1]; cases ok <;> rfl
 rw [if_neg h1,if_neg h1]
 unfold gd
 split
 ·split
  ·split
   ·rfl
   ·split <;> rfl
  ·rfl
 ·rfl
theorem ztb {s s':St8} {k v:Int} (h:zad s k=some (s',v)) (hs:s.ok=false):s'.ok=false:=by
 obtain ⟨l,u,aw,dd,mo,ok⟩:=s
 obtain rfl:ok=false:=hs
 unfold zad at h
 split at h
 ·obtain ⟨rfl,_⟩:=Prod.mk.inj (Option.some.inj h); rfl
 split at h
 ·have h':some (St8.mk l u aw dd mo false,k)=some (s',v):=h
  obtain ⟨rfl,_⟩:=Prod.mk.inj (Option.some.inj h'); rfl
 obtain ⟨_,h⟩:=zae h
 obtain ⟨_,h⟩:=zae h
 split at h
 ·obtain ⟨rfl,_⟩:=Prod.mk.inj (Option.some.inj h); rfl
 ·split at h
  ·obtain ⟨rfl,_⟩:=Prod.mk.inj (Option.some.inj h); rfl
  ·obtain ⟨rfl,_⟩:=Prod.mk.inj (Option.some.inj h); rfl
theorem zwM (q:Int) (s:St8) (k:Int):zam (phi q s) k=(zam s k).map (phi q):=by
 obtain ⟨l,u,aw,dd,mo,ok⟩:=s
 show zam (St8.mk l u aw dd (mxI mo q) ok) k=_
 unfold zam
 dsimp only
 by_cases h0:(k==(0:Int))=true
 ·rw [if_pos h0,if_pos h0]; rfl
 rw [if_neg h0,if_neg h0]
 unfold gd
 split
 ·split
  ·split
   ·simp only [Option.bind_some,Option.map_some,phi,zxY]
   ·rfl
  ·rfl
 ·rfl
theorem zxM {s s':St8} {k:Int} (h:zam s k=some s'):s'.ok=s.ok:=by
 obtain ⟨l,u,aw,dd,mo,ok⟩:=s
 unfold zam at h
 split at h
 ·obtain rfl:=Option.some.inj h; rfl
 obtain ⟨_,h⟩:=zae h
 obtain ⟨_,h⟩:=zae h
 split at h
 ·obtain rfl:=Option.some.inj h; rfl
 ·obtain rfl:=Option.some.inj h; rfl
theorem zwW (q:Int) (t:Typ) (hs:t.params.length<1000000000):∀ (i k k':Nat) (s s1:St8),i≤t.params.length→i<k'→zbD k t s ((i:Int) - 1)=some s1→zbD k' t (phi q s) ((i:Int) - 1)=some (phi q s1):=by
 intro i
 induction i with
 | zero => 
  intro k k' s s1 _ hk h
  cases k with
  | zero => cases h
  | succ k => 
   cases k' with
   | zero => omega
   | succ k' => 
    have h':some s=some s1:=h
    obtain rfl:=Option.some.inj h'
    rfl
 | succ i ih => 
  intro k k' s s1 hi hk h
  cases k with
  | zero => cases h
  | succ k => 
   cases k' with
   | zero => omega
   | succ k' => 
    simp only [zbD] at h ⊢
    have e0:(((i+1:Nat):Int) - 1)=(i:Int):=by omega
    rw [e0,if_pos (by simp),zap (by omega)] at h
    rw [e0,if_pos (by simp),zap (by omega),zvn]
    obtain ⟨x,hx,h⟩:=bind_some h
    rw [hx]
    rw [wI_small (by omega) (by omega)] at h
    show zbD k' t (phi q x.1) (wI ((i:Int) - 1))=_
    rw [wI_small (by omega) (by omega)]
    exact ih k k' x.1 s1 (by omega) (by omega) h
theorem ztw {q:Int} {t:Typ} {P K K':Nat} (ht:t.params.length<P) (hP:P<1000000000) (hK':P<K') {s s1:St8} (h:zbE K s t=some s1):zbE K' (phi q s) t=some (phi q s1):=by
 unfold zbE at h ⊢
 rw [wI_small (by omega) (by omega)] at h ⊢
 obtain ⟨s2,h2,h⟩:=bind_some h
 rw [zwW q t (by omega) t.params.length K K' s s2 (Nat.le_refl _) (by omega) h2,Option.bind_some,zwM]
 rw [Option.bind_fun_some] at h ⊢
 rw [h]; rfl
structure ER (pre:List Int) (e e':Env8):Prop where
 types:e'.m.types=e.m.types
 flen:e'.m.funcs.length=e.m.funcs.length
 ftyp:∀ n,(e'.m.funcs.getD n default).type_=(e.m.funcs.getD n default).type_
 tlen:e'.m.tables.length=e.m.tables.length
 mlen:e'.m.memories.length=e.m.memories.length
 glo:e'.m.globals=e.m.globals
 res:e'.result=e.result
 loc:e'.locals=e.locals
 lab:e'.labels=pre++e.labels
def envL (e:Env8) (lab:Int):Env8:=Env8.mk e.m e.result e.locals (e.labels++[lab])
theorem ER.sub {pre:List Int} {e e':Env8} (r:ER pre e e') (lab:Int):ER pre (envL e lab) (envL e' lab):=
 ⟨r.types,r.flen,r.ftyp,r.tlen,r.mlen,r.glo,r.res,r.loc,by show e'.labels++[lab]=pre++(e.labels++[lab]); rw [r.lab,List.append_assoc]⟩
theorem zqF {pre:List Int} {e e':Env8} (r:ER pre e e') (hl:pre.length+e.labels.length<1000000000) {n:Int} {p:Int×Bool} (h:zbb e n=some p) (hp:pre=[]∨p.2=true):zbb e' n=some p:=by
 rcases hp with hp | hp
 ·unfold zbb at h ⊢
  have:e'.labels=e.labels:=by rw [r.lab,hp]; rfl
  rw [this]; exact h
 ·unfold zbb at h ⊢
  split at h
  ·obtain rfl:=Option.some.inj h; cases hp
  ·rename_i hn
   obtain ⟨hg,h⟩:=zae h
   have hb:0≤n∧n<(e.labels.length:Int):=by simp at hn; omega
   have hlen:(e'.labels.length:Int)=(pre.length:Int)+(e.labels.length:Int):=by rw [r.lab,List.length_append]; omega
   rw [hlen,if_neg (by simp; omega),wI_small (x:=(pre.length:Int)+(e.labels.length:Int) - 1) (by omega) (by omega),wI_small (by omega) (by omega),zap (by omega)]
   rw [wI_small (x:=(e.labels.length:Int) - 1) (by omega) (by omega),wI_small (by omega) (by omega)] at h
   rw [← h,r.lab]
   congr 2
   have e1:((pre.length:Int)+(e.labels.length:Int) - 1 - n).toNat=pre.length+((e.labels.length:Int) - 1 - n).toNat:=by omega
   rw [e1,List.getD_eq_getElem?_getD,List.getD_eq_getElem?_getD,List.getElem?_append_right (by omega),Nat.add_sub_cancel_left]
theorem brl1_phi {pre:List Int} {e e':Env8} {x:Instr} (hx:x.op≠14) {y:Int×Bool} {k k':Nat} (hk':0<k') {b r:Bool} (h:zbj k e x y 0 b=some r):r=b∧zbj k' e' x y 0 b=some b:=by
 have hx':(x.op==(14:Int))=false:=by simpa using hx
 cases k with
 | zero => cases h
 | succ k => 
  rw [zvu hx'] at h
  obtain ⟨k',rfl⟩:∃ j,k'=j+1:=⟨k' - 1,by omega⟩
  exact ⟨(Option.some.inj h).symm,zvu hx' y b⟩
theorem brl0_mono {e:Env8} {x:Instr} {y:Int×Bool}:∀ (k:Nat) (i:Int) (r:Bool),zaK k e x y i false=some r→r=false:=by
 intro k
 induction k with
 | zero => intro i r h; cases h
 | succ k ih => 
  intro i r h
  simp only [zaK] at h
  split at h
  ·obtain ⟨_,h⟩:=zae h
   obtain ⟨p,hp,h⟩:=bind_some h
   exact ih _ _ h
  ·exact (Option.some.inj h).symm
theorem brl0_phi {pre:List Int} {e e':Env8} (r:ER pre e e') (hl:pre.length+e.labels.length<1000000000) {x:Instr} (hs:x.labels.length<1000) {y:Int×Bool}:∀ (k k' i:Nat) (b b1:Bool),i≤x.labels.length→x.labels.length - i<k'→zaK k e x y (i:Int) b=some b1→(pre=[]∨b1=true)→zaK k' e' x y (i:Int) b=some b1:=by
 intro k
 induction k with
 | zero => intro k' i b b1 _ _ h; cases h
 | succ k ih => 
  intro k' i b b1 hi hk' h hp
  cases k' with
  | zero => omega
  | succ k' => 
   simp only [zaK] at h ⊢
   by_cases hc:((x.op==(14:Int))&&decide ((i:Int)<(x.labels.length:Int)))=true
   ·have hlt:i<x.labels.length:=by rw [Bool.and_eq_true] at hc; have:=of_decide_eq_true hc.2; omega
    rw [if_pos hc,zap (by omega)] at h
    rw [if_pos hc,zap (by omega)]
    obtain ⟨p,hq,h⟩:=bind_some h
    have hpp:pre=[]∨p.2=true:=by
     rcases hp with hp | hp
     ·exact .inl hp
     ·right
      cases hb2:p.2 with
      | true => rfl
      | false => 
       rw [hb2,Bool.false_and,Bool.and_false] at h
       have:=brl0_mono k _ _ h
       rw [this] at hp; cases hp
    rw [zqF r hl hq hpp,Option.bind_some]
    rw [wI_nat i (by omega)] at h ⊢
    exact ih k' (i+1) _ b1 hlt (by omega) h hp
   ·rw [if_neg hc] at h ⊢; exact h
theorem take_phi' {q:Int} {s s1:St8} {k v:Int} (h:zad s k=some (s1,v)):zad (phi q s) k=some (phi q s1,v):=by rw [zvn,h]; rfl
theorem lay_phi' {q:Int} {s s1:St8} {k:Int} (h:zam s k=some s1):zam (phi q s) k=some (phi q s1):=by rw [zwM,h]; rfl
theorem zwd {q:Int} {pre:List Int} {e e':Env8} (r:ER pre e e') (hl:pre.length+e.labels.length<1000000000) {x:Instr} {k k':Nat} (hk':300<k') {s s1:St8}
  (h:zbc k e s x=some s1) (hp:pre=[]∨s1.ok=true):zbc k' e' (phi q s) x=some (phi q s1):=by
 unfold zbc at h ⊢
 obtain ⟨j1,h1,h⟩:=bind_some h
 have h1':(if (x.op != (12:Int))=true then ((zad (phi q s) 127).bind fun x52 => some x52.1) else some (phi q s))=some (phi q j1):=by
  split at h1
  ·rename_i hc
   rw [if_pos hc]
   obtain ⟨p,hp1,h1⟩:=bind_some h1
   obtain rfl:=Option.some.inj h1
   rw [take_phi' (s1:=p.1) (v:=p.2) hp1]; rfl
  ·rename_i hc
   rw [if_neg hc]
   obtain rfl:=Option.some.inj h1; rfl
 rw [h1',Option.bind_some]
 have fin:∀ (p:Int×Bool) (b:Bool),((if j1.ok=true then some b else some false).bind (fun j6 => ((zad (St8.mk j1.l j1.under j1.away j1.dead j1.most j6) p.1).bind fun x7 => (if (x.op==(13:Int))=true then ((zam x7.1 p.1).bind fun x9 => some x9) else ((zaW x7.1).bind fun x11 => some x11)))))=some s1 →
   ((if (phi q j1).ok=true then some b else some false).bind (fun j6 => ((zad (St8.mk (phi q j1).l (phi q j1).under (phi q j1).away (phi q j1).dead (phi q j1).most j6) p.1).bind fun x7 => (if (x.op==(13:Int))=true then ((zam x7.1 p.1).bind fun x9 => some x9) else ((zaW x7.1).bind fun x11 => some x11)))))=some (phi q s1)∧(s1.ok=true→b=true):=by
  intro p b hh
  rw [zsX] at hh ⊢
  obtain ⟨x7,hx7,hh⟩:=bind_some hh
  have ok1:s1.ok=true→(j1.ok&&b)=true:=by
   intro hs1
   cases hjb:(j1.ok&&b) with
   | true => rfl
   | false => 
    have h7:=ztb (s':=x7.1) (v:=x7.2) hx7 (by rw [hjb])
    split at hh
    ·obtain ⟨x9,hx9,hh⟩:=bind_some hh
     obtain rfl:=Option.some.inj hh
     rw [zxM hx9,h7] at hs1; cases hs1
    ·obtain ⟨x9,hx9,hh⟩:=bind_some hh
     obtain rfl:=Option.some.inj hh
     unfold zaW at hx9
     obtain rfl:=Option.some.inj hx9
     have:x7.1.ok=true:=hs1
     rw [h7] at this; cases this
  refine ⟨?_,fun hs1 => by have:=ok1 hs1; rw [Bool.and_eq_true] at this; exact this.2⟩
  have hx7':=take_phi' (q:=q) (s1:=x7.1) (v:=x7.2) hx7
  show ((zad (phi q (St8.mk j1.l j1.under j1.away j1.dead j1.most (j1.ok&&b))) p.1).bind _)=_
  rw [hx7',Option.bind_some]
  split at hh
  ·rename_i hc
   obtain ⟨x9,hx9,hh⟩:=bind_some hh
   obtain rfl:=Option.some.inj hh
   rw [if_pos hc]
   show ((zam (phi q x7.1) p.1).bind _)=_
   rw [lay_phi' hx9]; rfl
  ·rename_i hc
   obtain ⟨x9,hx9,hh⟩:=bind_some hh
   obtain rfl:=Option.some.inj hh
   unfold zaW at hx9
   obtain rfl:=Option.some.inj hx9
   rw [if_neg hc]; rfl
 by_cases h14:(x.op==(14:Int))=true
 ·rw [if_pos h14] at h ⊢
  by_cases hn:(((x.labels.length:Int)==(0:Int))||(decide ((x.labels.length:Int)>(257:Int))))=true
  ·rw [if_pos hn] at h ⊢
   obtain rfl:=Option.some.inj h; rfl
  ·rw [if_neg hn] at h ⊢
   have hlen:x.labels.length≤257:=by
    rw [Bool.or_eq_true,not_or] at hn
    have:¬ ((x.labels.length:Int)>257):=fun e => hn.2 (decide_eq_true e)
    omega
   obtain ⟨hg,h⟩:=zae h
   rw [zap hg]
   obtain ⟨p,hp1,h⟩:=bind_some h
   obtain ⟨b,hb,h⟩:=bind_some h
   obtain ⟨f1,f2⟩:=fin p b h
   have hpb:pre=[]∨b=true:=hp.imp id f2
   have hpp:pre=[]∨p.2=true:=by
    rcases hpb with h' | h'
    ·exact .inl h'
    ·right
     cases hb2:p.2 with
     | true => rfl
     | false => 
      rw [hb2] at hb
      have:=brl0_mono k _ _ hb
      rw [this] at h'; cases h'
   rw [zqF r hl hp1 hpp,Option.bind_some]
   have:=brl0_phi r hl (x:=x) (y:=p) (by omega) k k' 0 p.2 b (Nat.zero_le _) (by omega) hb hpb
   rw [show ((0:Nat):Int)=0 from rfl] at this
   rw [this,Option.bind_some]
   exact f1
 ·rw [if_neg h14] at h ⊢
  obtain ⟨p,hp1,h⟩:=bind_some h
  obtain ⟨b,hb,h⟩:=bind_some h
  obtain ⟨f1,f2⟩:=fin p b h
  obtain ⟨e1,e2⟩:=brl1_phi (e':=e') (pre:=pre) (k':=k') (by simpa using h14) (by omega) hb
  have hpb:pre=[]∨p.2=true:=by rw [← e1]; exact hp.imp id f2
  rw [zqF r hl hp1 hpb,Option.bind_some,e2,Option.bind_some,← e1]
  exact f1
theorem zwV {q:Int} {pre:List Int} {e e':Env8} (r:ER pre e e') {P:Nat} (hP:P<1000000000) (ht:∀ t∈e.m.types,t.params.length<P) {x:Instr} {k k':Nat} (hk':P<k') {s s1:St8}
  (h:zbI k e s x=some s1):zbI k' e' (phi q s) x=some (phi q s1):=by
 unfold zbI at h ⊢
 rw [r.flen,r.tlen,r.types]
 by_cases hc:(x.op==(16:Int))=true
 ·rw [if_pos hc] at h ⊢
  rw [zqT,Option.bind_some] at h ⊢
  by_cases hi:inb x.n e.m.funcs.length
  ·rw [decide_eq_true hi,if_neg (by decide),gdI hi] at h ⊢
   rw [r.ftyp]
   rw [zqT,Option.bind_some] at h ⊢
   by_cases hj:inb (wI (e.m.funcs.getD x.n.toNat default).type_) e.m.types.length
   ·rw [decide_eq_true hj,if_neg (by decide),gdI hj] at h ⊢
    rw [Option.bind_fun_some] at h ⊢
    exact ztw (ht _ (getD_memI hj)) hP hk' h
   ·rw [decide_eq_false hj,if_pos (by decide)] at h ⊢
    obtain rfl:=Option.some.inj h; rfl
  ·rw [decide_eq_false hi,if_pos (by decide)] at h ⊢
   obtain rfl:=Option.some.inj h; rfl
 ·rw [if_neg hc] at h ⊢
  rw [zsX] at h ⊢
  obtain ⟨p,hp,h⟩:=bind_some h
  have hp':=take_phi' (q:=q) (s1:=p.1) (v:=p.2) hp
  show ((zad (phi q (St8.mk s.l s.under s.away s.dead s.most (s.ok&&decide ((e.m.tables.length:Int)>(0:Int))))) 127).bind _)=_
  rw [hp',Option.bind_some]
  rw [zqT,Option.bind_some] at h ⊢
  by_cases hj:inb x.n e.m.types.length
  ·rw [decide_eq_true hj,if_neg (by decide),gdI hj] at h ⊢
   rw [Option.bind_fun_some] at h ⊢
   exact ztw (ht _ (getD_memI hj)) hP hk' h
  ·rw [decide_eq_false hj,if_pos (by decide)] at h ⊢
   obtain rfl:=Option.some.inj h; rfl
theorem zua {q:Int} {pre:List Int} {e e':Env8} (r:ER pre e e') {x:Instr} {s s1:St8}
  (h:zaA e s x=some s1):zaA e' (phi q s) x=some (phi q s1):=by
 unfold zaA at h ⊢
 rw [r.glo,r.loc]
 obtain ⟨many,hm,h⟩:=bind_some h
 rw [hm,Option.bind_some]
 obtain ⟨b,hb,h⟩:=bind_some h
 rw [hb,Option.bind_some]
 split at h
 ·rename_i hc
  rw [if_pos hc]
  obtain rfl:=Option.some.inj h; rfl
 ·rename_i hc
  rw [if_neg hc]
  obtain ⟨⟨j4,j5⟩,h1,h⟩:=bind_some h
  have h1':(if (decide (x.op≥(35:Int)))=true then gd (0≤x.n∧x.n<(e.m.globals.length:Int)) ((if (phi q s).ok=true then (if (x.op==(35:Int))=true then some true else gd (0≤x.n∧x.n<(e.m.globals.length:Int)) (some ((e.m.globals.getD x.n.toNat default).mut_))) else some false).bind (fun j20 => some ((e.m.globals.getD x.n.toNat default).kind,j20))) else gd (0≤x.n∧x.n<(e.locals.length:Int)) (some ((e.locals.getD x.n.toNat default),(phi q s).ok)))=some (j4,j5):=h1
  rw [h1',Option.bind_some]
  obtain ⟨j6,h2,h⟩:=bind_some h
  have h2':(if ((x.op==(33:Int))||((x.op==(34:Int))||(x.op==(36:Int))))=true then ((zad (phi q (St8.mk s.l s.under s.away s.dead s.most j5)) j4).bind fun x13 => some x13.1) else some (phi q (St8.mk s.l s.under s.away s.dead s.most j5)))=some (phi q j6):=by
   split at h2
   ·rename_i hc
    rw [if_pos hc]
    obtain ⟨p,hp1,h2⟩:=bind_some h2
    obtain rfl:=Option.some.inj h2
    rw [take_phi' (s1:=p.1) (v:=p.2) hp1]; rfl
   ·rename_i hc
    rw [if_neg hc]
    obtain rfl:=Option.some.inj h2; rfl
  refine (congrArg (fun o => Option.bind o _) h2').trans ?_
  rw [Option.bind_some]
  rw [Option.bind_fun_some] at h ⊢
  split at h
  ·rename_i hc
   rw [if_pos hc]
   rw [Option.bind_fun_some] at h ⊢
   exact lay_phi' h
  ·rename_i hc
   rw [if_neg hc]
   obtain rfl:=Option.some.inj h; rfl
theorem zwp {q:Int} {pre:List Int} {e e':Env8} (r:ER pre e e') {P:Nat} (hP:P<1000000000) (hP1:10≤P) {x:Instr} (hop:0≤x.op∧x.op<256) (ha:0≤x.align) {k k':Nat} (hk:P<k) (hk':P<k') {s s1:St8}
  (h:zbQ k e s x=some s1):zbQ k' e' (phi q s) x=some (phi q s1):=by
 obtain ⟨t,is,f,n,bs,S⟩:=zuQ x.op hop.1 hop.2
 obtain ⟨p,r',q2,a2⟩:=S.rsg
 obtain ⟨fe',q4⟩:=S.rfo
 obtain ⟨sg',q6⟩:=S.rby
 unfold zbQ at h ⊢
 rw [q2,q4,q6,Option.bind_some,Option.bind_some,Option.bind_some] at h ⊢
 rw [r.mlen]
 split at h
 ·rename_i hc
  rw [if_pos hc]
  obtain rfl:=Option.some.inj h; rfl
 ·rename_i hc
  rw [if_neg hc]
  have his:is=true:=by
   cases is with
   | true => rfl
   | false => exact absurd (by rfl) hc
  obtain ⟨rfl,rfl⟩:=a2 his
  obtain ⟨j7,h1,h⟩:=bind_some h
  rw [zuJ x k (by omega) ha] at h1
  rw [zuJ x k' (by omega) ha]
  refine (congrArg (fun o => Option.bind o _) h1).trans ?_
  rw [Option.bind_some]
  rw [Option.bind_fun_some] at h ⊢
  exact ztw (t:=Typ.mk t.params t.result) (by have:=(S.tok his).1.2.2; show t.params.length<P; omega) hP hk' h
def IHp (q:Int) (pre:List Int) (e e':Env8) (L:List Instr) (k k':Nat):Prop:=
 ∀ (lab:Int) (s s1:St8),zan k (envL e lab) s L=some s1→(pre=[]∨s1.ok=true)→zan k' (envL e' lab) (phi q s) L=some (phi q s1)
theorem zuc {k:Nat} {e:Env8} {s s1:St8} {L:List Instr} (h:zan k e s L=some s1) (hs:s.ok=false):s1.ok=false:=by
 match k,h with
 | 0,h => cases h
 | 1,h => simp only [zan,lpN] at h; cases h
 | k+2,h => 
  rw [zud hs] at h
  obtain rfl:=Option.some.inj h; exact hs
theorem zxu {k:Nat} {e:Env8} {s s1:St8} {L:List Instr} {res lab:Int} (h:zao k e s L res lab=some s1) (hs:s.ok=false):s1.ok=false:=by
 cases k with
 | zero => cases h
 | succ k => 
  simp only [zao] at h
  obtain ⟨_,h⟩:=zae h
  obtain ⟨_,h⟩:=zae h
  obtain ⟨j7,h1,h⟩:=bind_some h
  have h7:j7.ok=false:=by
   split at h1
   ·rw [Option.bind_fun_some] at h1; exact zuc h1 hs
   ·rw [Option.bind_fun_some] at h1; exact zuc h1 hs
  obtain ⟨p,hp,h⟩:=bind_some h
  have h8:=ztb (s':=p.1) (v:=p.2) hp h7
  rw [h8] at h
  have h':some (St8.mk s.l s.under s.away s.dead p.1.most false)=some s1:=h
  obtain rfl:=Option.some.inj h'
  rfl
theorem zlK {q:Int} {pre:List Int} {e e':Env8} (r:ER pre e e') (hl:pre.length+e.labels.length<1000000000) {L:List Instr} {res lab:Int} {k k':Nat} (ih:IHp q pre e e' L k k') {s s1:St8}
  (h:zao (k+1) e s L res lab=some s1) (hp:pre=[]∨s1.ok=true):zao (k'+1) e' (phi q s) L res lab=some (phi q s1):=by
 have hl':e'.labels.length<1000000000:=by rw [r.lab,List.length_append]; exact hl
 simp only [zao] at h ⊢
 obtain ⟨_,h⟩:=zae h
 obtain ⟨_,h⟩:=zae h
 rw [zap (by omega),zap (by omega)]
 obtain ⟨j7,h1,h⟩:=bind_some h
 obtain ⟨p,hp1,h⟩:=bind_some h
 obtain ⟨j10,h2,h⟩:=bind_some h
 obtain rfl:=Option.some.inj h
 have h10:j10=true→j7.ok=true:=by
  intro hj
  subst hj
  cases h7:j7.ok with
  | true => rfl
  | false => 
   have:=ztb (s':=p.1) (v:=p.2) hp1 h7
   rw [this] at h2
   cases h2
 have h1':(if (phi q s).away=true then ((zan k' (Env8.mk e'.m e'.result e'.locals (e'.labels++([lab]:List Int))) (St8.mk ([]:List Int) (wI ((phi q s).under+((phi q s).l.length:Int))) false true (phi q s).most (phi q s).ok) L).bind fun x3 => some x3) else ((zan k' (Env8.mk e'.m e'.result e'.locals (e'.labels++([lab]:List Int))) (St8.mk ([]:List Int) (wI ((phi q s).under+((phi q s).l.length:Int))) false (phi q s).dead (phi q s).most (phi q s).ok) L).bind fun x5 => some x5))=some (phi q j7):=by
  split at h1
  ·rename_i hc
   rw [if_pos (show (phi q s).away=true from hc)]
   rw [Option.bind_fun_some] at h1 ⊢
   exact ih lab _ _ h1 (hp.imp id h10)
  ·rename_i hc
   rw [if_neg (show ¬ (phi q s).away=true from hc)]
   rw [Option.bind_fun_some] at h1 ⊢
   exact ih lab _ _ h1 (hp.imp id h10)
 refine (congrArg (fun o => Option.bind o _) h1').trans ?_
 rw [Option.bind_some,take_phi' (s1:=p.1) (v:=p.2) hp1,Option.bind_some]
 have h2':(if (phi q p.1).ok=true then some (((phi q p.1).l.length:Int)==(0:Int)) else some false)=some j10:=h2
 refine (congrArg (fun o => Option.bind o _) h2').trans ?_
 rfl
theorem zwY {q:Int} {pre:List Int} {e e':Env8} (r:ER pre e e') (hl:pre.length+e.labels.length<1000000000) {x:Instr} {k k':Nat} (i1:IHp q pre e e' x.body k k') (i2:IHp q pre e e' x.els k k') {s s1:St8}
  (h:zbB (k+2) e s x=some s1) (hp:pre=[]∨s1.ok=true):zbB (k'+2) e' (phi q s) x=some (phi q s1):=by
 simp only [zbB] at h ⊢
 split at h
 ·rename_i hc
  rw [if_pos hc]
  obtain rfl:=Option.some.inj h; rfl
 ·rename_i hc
  rw [if_neg hc]
  obtain ⟨j1,h1,h⟩:=bind_some h
  rw [Option.bind_fun_some] at h
  have hj:s1.ok=true→j1.ok=true:=fun hs => by rw [← zxM h]; exact hs
  have hp1:=hp.imp id hj
  have h1':(if (x.op==(2:Int))=true then ((zao (k'+1) e' (phi q s) x.body x.result x.result).bind fun x4 => some x4) else (if (x.op==(3:Int))=true then ((zao (k'+1) e' (phi q s) x.body x.result 0).bind fun x6 => some x6) else ((zad (phi q s) 127).bind fun x8 => ((zao (k'+1) e' x8.1 x.body x.result x.result).bind fun x10 => ((zao (k'+1) e' x10 x.els x.result x.result).bind fun x12 => some x12)))))=some (phi q j1):=by
   split at h1
   ·rename_i hc
    rw [if_pos hc]
    rw [Option.bind_fun_some] at h1 ⊢
    exact zlK r hl i1 h1 hp1
   ·rename_i hc
    rw [if_neg hc]
    split at h1
    ·rename_i hc
     rw [if_pos hc]
     rw [Option.bind_fun_some] at h1 ⊢
     exact zlK r hl i1 h1 hp1
    ·rename_i hc
     rw [if_neg hc]
     obtain ⟨p,hp2,h1⟩:=bind_some h1
     obtain ⟨s2,h2,h1⟩:=bind_some h1
     rw [Option.bind_fun_some] at h1
     have hs2:j1.ok=true→s2.ok=true:=fun hh => by
      cases h2':s2.ok with
      | true => rfl
      | false => rw [zxu h1 h2'] at hh; cases hh
     rw [take_phi' (s1:=p.1) (v:=p.2) hp2,Option.bind_some]
     show ((zao (k'+1) e' (phi q p.1) x.body x.result x.result).bind _)=_
     rw [zlK r hl i1 h2 (hp1.imp id hs2),Option.bind_some,Option.bind_fun_some]
     exact zlK r hl i2 h1 hp1
  refine (congrArg (fun o => Option.bind o _) h1').trans ?_
  rw [Option.bind_some,Option.bind_fun_some]
  exact lay_phi' h
theorem zxj {q:Int} {pre:List Int} {e e':Env8} (r:ER pre e e') {P:Nat} (hP:P<1000000000) (hP1:10≤P) (ht:∀ t∈e.m.types,t.params.length<P) (hl:pre.length+e.labels.length<1000000000) {x:Instr} (hw:IWI x) {k k':Nat} (hk:P+400<k) (hk':P+400<k')
  (i1:IHp q pre e e' x.body k k') (i2:IHp q pre e e' x.els k k') {s s1:St8} (h:stepR' (k+2) e s x=some s1) (hp:pre=[]∨s1.ok=true):stepR' (k'+2) e' (phi q s) x=some (phi q s1):=by
 have hop:(0≤x.op∧x.op<256)∧0≤x.align:=by
  cases x; simp only [IWI] at hw; exact ⟨hw.1,hw.2.1⟩
 unfold stepR' at h ⊢
 show (if s.ok=true then _ else _)=_
 split at h
 rotate_left
 ·rename_i hs
  rw [if_neg hs]
  obtain rfl:=Option.some.inj h; rfl
 rename_i hs
 rw [if_pos hs]
 unfold stepR at h ⊢
 simp only [Option.bind_fun_some] at h ⊢
 split at h
 ·rename_i hc
  rw [if_pos hc]
  unfold zaW at h ⊢
  obtain rfl:=Option.some.inj h; rfl
 rename_i hc; rw [if_neg hc]
 split at h
 ·rename_i hc
  rw [if_pos hc]
  obtain rfl:=Option.some.inj h; rfl
 rename_i hc; rw [if_neg hc]
 split at h
 ·rename_i hc
  rw [if_pos hc]
  exact zwY r hl i1 i2 h hp
 rename_i hc; rw [if_neg hc]
 split at h
 ·rename_i hc
  rw [if_pos hc]
  exact zwd r hl (by omega) h hp
 rename_i hc; rw [if_neg hc]
 split at h
 ·rename_i hc
  rw [if_pos hc,r.res]
  obtain ⟨p,hp1,h⟩:=bind_some h
  rw [take_phi' (s1:=p.1) (v:=p.2) hp1,Option.bind_some]
  unfold zaW at h ⊢
  obtain rfl:=Option.some.inj h; rfl
 rename_i hc; rw [if_neg hc]
 split at h
 ·rename_i hc
  rw [if_pos hc]
  exact zwV r hP ht (by omega) h
 rename_i hc; rw [if_neg hc]
 split at h
 ·rename_i hc
  rw [if_pos hc]
  obtain ⟨p,hp1,h⟩:=bind_some h
  obtain rfl:=Option.some.inj h
  rw [take_phi' (s1:=p.1) (v:=p.2) hp1]; rfl
 rename_i hc; rw [if_neg hc]
 split at h
 ·rename_i hc
  rw [if_pos hc]
  obtain ⟨p,hp1,h⟩:=bind_some h
  obtain ⟨p2,hp2,h⟩:=bind_some h
  obtain ⟨p3,hp3,h⟩:=bind_some h
  rw [take_phi' (s1:=p.1) (v:=p.2) hp1,Option.bind_some]
  show ((zad (phi q p.1) 255).bind _)=_
  rw [take_phi' (s1:=p2.1) (v:=p2.2) hp2,Option.bind_some]
  show ((zad (phi q p2.1) p2.2).bind _)=_
  rw [take_phi' (s1:=p3.1) (v:=p3.2) hp3,Option.bind_some]
  exact lay_phi' h
 rename_i hc; rw [if_neg hc]
 split at h
 ·rename_i hc
  rw [if_pos hc]
  exact zua r h
 rename_i hc; rw [if_neg hc]
 exact zwp r hP hP1 hop.1 hop.2 (by omega) (by omega) h
theorem zwF {k:Nat} {e:Env8} {M:List Instr} {s s1:St8} (h:M.foldlM (stepR' k e) s=some s1) (hs:s.ok=false):s1.ok=false:=by
 rw [zuf k e M hs] at h
 obtain rfl:=Option.some.inj h; exact hs
theorem zvw (q:Int) (pre:List Int) (P:Nat) (hP:P<1000000000) (hP1:10≤P):∀ (w:Nat) (e e':Env8) (L:List Instr) (k k':Nat),wtL L≤w→ER pre e e'→(∀ t∈e.m.types,t.params.length<P)→pre.length+e.labels.length+wtL L<1000000000→IWL L →
  wtL L+P+500≤k→wtL L+P+500≤k'→∀ (s s1:St8),zan k e s L=some s1→(pre=[]∨s1.ok=true)→zan k' e' (phi q s) L=some (phi q s1):=by
 intro w
 induction w with
 | zero => intro e e' L k k' h; have:=(wtL_pos L).1; omega
 | succ w ih => 
  intro e e' L k k' hwL r ht hl hw hk hk' s s1 h hp
  have hLn:=wtL_pos L
  obtain ⟨k,rfl⟩:∃ j,k=j+2+1:=⟨k - 3,by omega⟩
  obtain ⟨k',rfl⟩:∃ j,k'=j+2+1:=⟨k' - 3,by omega⟩
  rw [zeG (k+2) e s L (by omega) (by omega)] at h
  rw [zeG (k'+2) e' (phi q s) L (by omega) (by omega)]
  have key:∀ (M:List Instr) (s:St8),IWL M→wtL M≤wtL L→M.foldlM (stepR' (k+2) e) s=some s1→M.foldlM (stepR' (k'+2) e') (phi q s)=some (phi q s1):=by
   intro M
   induction M with
   | nil => 
    intro s _ _ h
    have h':some s=some s1:=h
    obtain rfl:=Option.some.inj h'; rfl
   | cons x M ihM => 
    intro s hw hm h
    simp only [IWL] at hw
    simp only [wtL] at hm
    have hx:=wtI_eq x
    have hMp:=wtL_pos M
    have hbp:=wtL_pos x.body
    have hep:=wtL_pos x.els
    have hwb:IWL x.body∧IWL x.els:=by
     have:=hw.1
     cases x; simp only [IWI] at this; exact this.2.2
    rw [List.foldlM_cons] at h ⊢
    obtain ⟨s2,h2,h⟩:=bind_some h
    have hp2:pre=[]∨s2.ok=true:=hp.imp id fun hs => by
     cases h3:s2.ok with
     | true => rfl
     | false => rw [zwF h h3] at hs; cases hs
    have gI:∀ (B:List Instr),IWL B→wtL B+4≤wtI x+wtL M→IHp q pre e e' B k k':=by
     intro B hB1 hB2 lab s s1 hh hpp
     exact ih (envL e lab) (envL e' lab) B k k' (by omega) (r.sub lab) ht (by show pre.length+(e.labels++[lab]).length+wtL B<_; rw [List.length_append]; show pre.length+(e.labels.length+1)+wtL B<_; omega) hB1 (by omega) (by omega) s s1 hh hpp
    have e1:=zxj r hP hP1 ht (by omega) hw.1 (by omega) (by omega) (gI _ hwb.1 (by omega)) (gI _ hwb.2 (by omega)) h2 hp2
    show ((stepR' (k'+2) e' (phi q s) x).bind fun s' => M.foldlM (stepR' (k'+2) e') s')=_
    rw [e1]
    exact ihM s2 hw.2 (by omega) h
  exact key L s hw (Nat.le_refl _) h
end Go.Proofs.YtablleokoifolaaGreatDoor
set_option linter.unusedVariables false
set_option maxRecDepth 100000
set_option maxHeartbeats 4000000
namespace Go.Proofs.YtablleokoifolaaGreatDoor
open Go
theorem zkA (K:Nat) (p0:Mdl) (r:Mdl) (H:zaF K p0=some r):CM E 3 [.agg (eD (eMdl p0))] [] [36,69,86,103,135,152,184,216] [] (fun a b => a=.agg [.ls 36 0 r.types.length,.ls 69 0 r.funcs.length,.ls 86 0 r.tables.length,.ls 103 0 r.memories.length,.ls 135 0 r.globals.length,.ls 152 0 r.exports.length,.ls 184 0 r.elems.length,.ls 216 0 r.datas.length]∧b=[(36,.sl false 2 r.types.length (fl eTyp r.types)),(69,.sl false 3 r.funcs.length (fl eFnc r.funcs)),(86,.sl false 3 r.tables.length (fl eLim r.tables)),(103,.sl false 3 r.memories.length (fl eLim r.memories)),(135,.sl false 10 r.globals.length (fl eGlo r.globals)),(152,.sl false 3 r.exports.length (fl eXpo r.exports)),(184,.sl false 10 r.elems.length (fl eEle r.elems)),(216,.sl false 10 r.datas.length (fl eDat r.datas))]):=by
 refine zjh (A:=zel) zeK fun fr => ?_
 unfold zaF at H
 refine AW2.seq ?_
 refine AW2.rg [.k 1,.k 2] [1,2] [] [.k 1,.k 2] ⟨[(1,.p 1 0),(2,.p 2 0)],[(1,.st false (eD (eMdl p0))),(2,.st false [.d .nils,.d .nils,.d .nils,.d .nils,.d .nils,.d .nils,.d .nils,.d .nils])]⟩ (And.intro True.intro True.intro) (by kernel_rfl) ?_
 refine AW2.seq ?_
 refine AW2.rg [.k 3] [1,2,3] [] [.k 1,.k 2,.k 3] ⟨[(1,.p 1 0),(2,.p 2 0),(3,.p 3 0)],[(1,.st false (eD (eMdl p0))),(2,.st false [.d .nils,.d .nils,.d .nils,.d .nils,.d .nils,.d .nils,.d .nils,.d .nils]),(3,.st false [.d .nils,.d .nils,.d .nils,.d .nils,.d .nils,.d .nils,.d .nils,.d .nils])]⟩ (And.intro True.intro True.intro) (by kernel_rfl) ?_
 obtain ⟨j1,H93,H⟩:=bind_some H
 refine AW2.mid ⟨[(1,.p 1 0),(2,.p 2 0),(3,.p 3 0)],[(1,.st false (eD (eMdl p0))),(2,.st false [.d .nils,.d .nils,.d .nils,.d .nils,.d .nils,.d .nils,.d .nils,.d .nils]),(3,.st false [.ls 36 0 j1.length,.d .nils,.d .nils,.d .nils,.d .nils,.d .nils,.d .nils,.d .nils]),(36,.sl false 2 j1.length (fl eTyp j1))]⟩ ?_ ?_
 ·obtain ⟨j2,H82,H⟩:=bind_some H
  refine AW2.mid ⟨[(1,.p 1 0),(2,.p 2 0),(3,.p 3 0)],[(1,.st false (eD (eMdl p0))),(2,.st false [.d .nils,.d .nils,.d .nils,.d .nils,.d .nils,.d .nils,.d .nils,.d .nils]),(3,.st false [.ls 36 0 j1.length,.ls 69 0 j2.length,.d .nils,.d .nils,.d .nils,.d .nils,.d .nils,.d .nils]),(36,.sl false 2 j1.length (fl eTyp j1)),(69,.sl false 3 j2.length (fl eFnc j2))]⟩ ?_ ?_
  ·obtain ⟨j3,H68,H⟩:=bind_some H
   refine AW2.mid ⟨[(1,.p 1 0),(2,.p 2 0),(3,.p 3 0)],[(1,.st false (eD (eMdl p0))),(2,.st false [.d .nils,.d .nils,.d .nils,.d .nils,.d .nils,.d .nils,.d .nils,.d .nils]),(3,.st false [.ls 36 0 j1.length,.ls 69 0 j2.length,.ls 86 0 j3.length,.d .nils,.d .nils,.d .nils,.d .nils,.d .nils]),(36,.sl false 2 j1.length (fl eTyp j1)),(69,.sl false 3 j2.length (fl eFnc j2)),(86,.sl false 3 j3.length (fl eLim j3))]⟩ ?_ ?_
   ·obtain ⟨j4,H60,H⟩:=bind_some H
    refine AW2.mid ⟨[(1,.p 1 0),(2,.p 2 0),(3,.p 3 0)],[(1,.st false (eD (eMdl p0))),(2,.st false [.d .nils,.d .nils,.d .nils,.d .nils,.d .nils,.d .nils,.d .nils,.d .nils]),(3,.st false [.ls 36 0 j1.length,.ls 69 0 j2.length,.ls 86 0 j3.length,.ls 103 0 j4.length,.d .nils,.d .nils,.d .nils,.d .nils]),(36,.sl false 2 j1.length (fl eTyp j1)),(69,.sl false 3 j2.length (fl eFnc j2)),(86,.sl false 3 j3.length (fl eLim j3)),(103,.sl false 3 j4.length (fl eLim j4))]⟩ ?_ ?_
    ·obtain ⟨j5,H52,H⟩:=bind_some H
     refine AW2.mid ⟨[(1,.p 1 0),(2,.p 2 0),(3,.p 3 0)],[(1,.st false (eD (eMdl p0))),(2,.st false [.d .nils,.d .nils,.d .nils,.d .nils,.d .nils,.d .nils,.d .nils,.d .nils]),(3,.st false [.ls 36 0 j1.length,.ls 69 0 j2.length,.ls 86 0 j3.length,.ls 103 0 j4.length,.ls 135 0 j5.length,.d .nils,.d .nils,.d .nils]),(36,.sl false 2 j1.length (fl eTyp j1)),(69,.sl false 3 j2.length (fl eFnc j2)),(86,.sl false 3 j3.length (fl eLim j3)),(103,.sl false 3 j4.length (fl eLim j4)),(135,.sl false 10 j5.length (fl eGlo j5))]⟩ ?_ ?_
     ·obtain ⟨j6,H40,H⟩:=bind_some H
      refine AW2.mid ⟨[(1,.p 1 0),(2,.p 2 0),(3,.p 3 0)],[(1,.st false (eD (eMdl p0))),(2,.st false [.d .nils,.d .nils,.d .nils,.d .nils,.d .nils,.d .nils,.d .nils,.d .nils]),(3,.st false [.ls 36 0 j1.length,.ls 69 0 j2.length,.ls 86 0 j3.length,.ls 103 0 j4.length,.ls 135 0 j5.length,.ls 152 0 j6.length,.d .nils,.d .nils]),(36,.sl false 2 j1.length (fl eTyp j1)),(69,.sl false 3 j2.length (fl eFnc j2)),(86,.sl false 3 j3.length (fl eLim j3)),(103,.sl false 3 j4.length (fl eLim j4)),(135,.sl false 10 j5.length (fl eGlo j5)),(152,.sl false 3 j6.length (fl eXpo j6))]⟩ ?_ ?_
      ·obtain ⟨j7,H32,H⟩:=bind_some H
       refine AW2.mid ⟨[(1,.p 1 0),(2,.p 2 0),(3,.p 3 0)],[(1,.st false (eD (eMdl p0))),(2,.st false [.d .nils,.d .nils,.d .nils,.d .nils,.d .nils,.d .nils,.d .nils,.d .nils]),(3,.st false [.ls 36 0 j1.length,.ls 69 0 j2.length,.ls 86 0 j3.length,.ls 103 0 j4.length,.ls 135 0 j5.length,.ls 152 0 j6.length,.ls 184 0 j7.length,.d .nils]),(36,.sl false 2 j1.length (fl eTyp j1)),(69,.sl false 3 j2.length (fl eFnc j2)),(86,.sl false 3 j3.length (fl eLim j3)),(103,.sl false 3 j4.length (fl eLim j4)),(135,.sl false 10 j5.length (fl eGlo j5)),(152,.sl false 3 j6.length (fl eXpo j6)),(184,.sl false 10 j7.length (fl eEle j7))]⟩ ?_ ?_
       ·obtain ⟨j8,H20,H⟩:=bind_some H
        refine AW2.mid ⟨[(2,.p 2 0),(3,.p 3 0)],[(2,.st false [.d .nils,.d .nils,.d .nils,.d .nils,.d .nils,.d .nils,.d .nils,.d .nils]),(3,.st false [.ls 36 0 j1.length,.ls 69 0 j2.length,.ls 86 0 j3.length,.ls 103 0 j4.length,.ls 135 0 j5.length,.ls 152 0 j6.length,.ls 184 0 j7.length,.ls 216 0 j8.length]),(36,.sl false 2 j1.length (fl eTyp j1)),(69,.sl false 3 j2.length (fl eFnc j2)),(86,.sl false 3 j3.length (fl eLim j3)),(103,.sl false 3 j4.length (fl eLim j4)),(135,.sl false 10 j5.length (fl eGlo j5)),(152,.sl false 3 j6.length (fl eXpo j6)),(184,.sl false 10 j7.length (fl eEle j7)),(216,.sl false 10 j8.length (fl eDat j8))]⟩ ?_ ?_
        ·refine AW2.seq ?_
         refine AW2.rg [] [2] [] [.k 2,.k 36,.k 69,.k 86,.k 103,.k 135,.k 152,.k 184,.k 216] ⟨[(2,.p 2 0)],[(2,.st false [.ls 36 0 j1.length,.ls 69 0 j2.length,.ls 86 0 j3.length,.ls 103 0 j4.length,.ls 135 0 j5.length,.ls 152 0 j6.length,.ls 184 0 j7.length,.ls 216 0 j8.length]),(36,.sl false 2 j1.length (fl eTyp j1)),(69,.sl false 3 j2.length (fl eFnc j2)),(86,.sl false 3 j3.length (fl eLim j3)),(103,.sl false 3 j4.length (fl eLim j4)),(135,.sl false 10 j5.length (fl eGlo j5)),(152,.sl false 3 j6.length (fl eXpo j6)),(184,.sl false 10 j7.length (fl eEle j7)),(216,.sl false 10 j8.length (fl eDat j8))]⟩ (And.intro True.intro True.intro) (by kernel_rfl) ?_
         refine AW2.ret ?_
         have H:=Option.some.inj H
         subst H
         exact retS_mk3 [] [.k 36,.k 69,.k 86,.k 103,.k 135,.k 152,.k 184,.k 216] True.intro (by kernel_rfl) (by kernel_rfl)
        ·have H:=H20
         refine AW2.seq ?_
         refine AW2.rg [] [1,2,3,11] [] [.k 1,.k 2,.k 3,.k 36,.k 69,.k 86,.k 103,.k 135,.k 152,.k 184] ⟨[(1,.p 1 0),(2,.p 2 0),(3,.p 3 0),(11,.d (.int .i64 0))],[(1,.st false (eD (eMdl p0))),(2,.st false [.d .nils,.d .nils,.d .nils,.d .nils,.d .nils,.d .nils,.d .nils,.d .nils]),(3,.st false [.ls 36 0 j1.length,.ls 69 0 j2.length,.ls 86 0 j3.length,.ls 103 0 j4.length,.ls 135 0 j5.length,.ls 152 0 j6.length,.ls 184 0 j7.length,.d .nils]),(36,.sl false 2 j1.length (fl eTyp j1)),(69,.sl false 3 j2.length (fl eFnc j2)),(86,.sl false 3 j3.length (fl eLim j3)),(103,.sl false 3 j4.length (fl eLim j4)),(135,.sl false 10 j5.length (fl eGlo j5)),(152,.sl false 3 j6.length (fl eXpo j6)),(184,.sl false 10 j7.length (fl eEle j7))]⟩ (And.intro True.intro True.intro) (by kernel_rfl) ?_
         refine AW2.block ?_
         refine AW2.cv [.c 3 7 216 10 (fl eDat ([]:List Dat))] [1,2,3,11] [] [.k 1,.k 2,.k 3,.k 36,.k 69,.k 86,.k 103,.k 135,.k 152,.k 184,.k 216] ⟨[(1,.p 1 0),(2,.p 2 0),(3,.p 3 0),(11,.d (.int .i64 0))],[(1,.st false (eD (eMdl p0))),(2,.st false [.d .nils,.d .nils,.d .nils,.d .nils,.d .nils,.d .nils,.d .nils,.d .nils]),(3,.st false [.ls 36 0 j1.length,.ls 69 0 j2.length,.ls 86 0 j3.length,.ls 103 0 j4.length,.ls 135 0 j5.length,.ls 152 0 j6.length,.ls 184 0 j7.length,.ls 216 0 ([]:List Dat).length]),(36,.sl false 2 j1.length (fl eTyp j1)),(69,.sl false 3 j2.length (fl eFnc j2)),(86,.sl false 3 j3.length (fl eLim j3)),(103,.sl false 3 j4.length (fl eLim j4)),(135,.sl false 10 j5.length (fl eGlo j5)),(152,.sl false 3 j6.length (fl eXpo j6)),(184,.sl false 10 j7.length (fl eEle j7)),(216,.sl false 10 ([]:List Dat).length (fl eDat ([]:List Dat)))]⟩ True.intro (by kernel_rfl) ?_
         refine AW2.lp (σ:=(List Dat)×Int) (fun v => ⟨[(1,.p 1 0),(2,.p 2 0),(3,.p 3 0),(11,.d (.int .i64 v.2))],[(1,.st false (eD (eMdl p0))),(2,.st false [.d .nils,.d .nils,.d .nils,.d .nils,.d .nils,.d .nils,.d .nils,.d .nils]),(3,.st false [.ls 36 0 j1.length,.ls 69 0 j2.length,.ls 86 0 j3.length,.ls 103 0 j4.length,.ls 135 0 j5.length,.ls 152 0 j6.length,.ls 184 0 j7.length,.ls 216 0 v.1.length]),(36,.sl false 2 j1.length (fl eTyp j1)),(69,.sl false 3 j2.length (fl eFnc j2)),(86,.sl false 3 j3.length (fl eLim j3)),(103,.sl false 3 j4.length (fl eLim j4)),(135,.sl false 10 j5.length (fl eGlo j5)),(152,.sl false 3 j6.length (fl eXpo j6)),(184,.sl false 10 j7.length (fl eEle j7)),(216,.sl false 10 v.1.length (fl eDat v.1))]⟩) (fun k v => zaT k K p0 v.1 v.2=some j8) ?_ K (([]:List Dat),0) H
         rintro k ⟨a11,a12⟩ H
         dsimp only at H
         cases k with
         | zero => cases H
         | succ k => 
         unfold zaT at H
         refine AW2.seq ?_
         refine AW2.seq ?_
         refine AW2.rg [] [1,2,3,11,190] [] [.k 1,.k 2,.k 3,.k 36,.k 69,.k 86,.k 103,.k 135,.k 152,.k 184,.k 216] ⟨[(1,.p 1 0),(2,.p 2 0),(3,.p 3 0),(11,.d (.int .i64 a12)),(190,.d (.bool (decide (a12<(p0.datas.length:Int)))))],[(1,.st false (eD (eMdl p0))),(2,.st false [.d .nils,.d .nils,.d .nils,.d .nils,.d .nils,.d .nils,.d .nils,.d .nils]),(3,.st false [.ls 36 0 j1.length,.ls 69 0 j2.length,.ls 86 0 j3.length,.ls 103 0 j4.length,.ls 135 0 j5.length,.ls 152 0 j6.length,.ls 184 0 j7.length,.ls 216 0 a11.length]),(36,.sl false 2 j1.length (fl eTyp j1)),(69,.sl false 3 j2.length (fl eFnc j2)),(86,.sl false 3 j3.length (fl eLim j3)),(103,.sl false 3 j4.length (fl eLim j4)),(135,.sl false 10 j5.length (fl eGlo j5)),(152,.sl false 3 j6.length (fl eXpo j6)),(184,.sl false 10 j7.length (fl eEle j7)),(216,.sl false 10 a11.length (fl eDat a11))]⟩ (And.intro True.intro True.intro) (by kernel_rfl) ?_
         refine AW2.cond (b:=(decide (a12<(p0.datas.length:Int)))) rfl (fun hc => ?_) (fun hc => ?_)
         ·replace H:=zaC H hc
          refine AW2.skip ?_
          refine AW2.seq ?_
          refine AW2.block ?_
          obtain ⟨h13,H⟩:=zae H
          obtain ⟨h14,H⟩:=zae H
          obtain ⟨x15,hx16,H⟩:=bind_some H
          obtain ⟨h17,H⟩:=zae H
          obtain ⟨h18,H⟩:=zae H
          refine AW2.rg [.r (.agg (eInstr x15)),.sb ([(Dat.mk ((p0.datas.getD a12.toNat default).memory) x15 ((p0.datas.getD a12.toNat default).bytes))]:List Dat).length (fl eDat ([(Dat.mk ((p0.datas.getD a12.toNat default).memory) x15 ((p0.datas.getD a12.toNat default).bytes))]:List Dat)),.s true (a11++([(Dat.mk ((p0.datas.getD a12.toNat default).memory) x15 ((p0.datas.getD a12.toNat default).bytes))]:List Dat)).length (fl eDat (a11++([(Dat.mk ((p0.datas.getD a12.toNat default).memory) x15 ((p0.datas.getD a12.toNat default).bytes))]:List Dat)))] [1,2,3,11] [] [.k 1,.k 2,.k 3,.k 36,.k 69,.k 86,.k 103,.k 135,.k 152,.k 184,.k 216] ⟨[(1,.p 1 0),(2,.p 2 0),(3,.p 3 0),(11,.d (.int .i64 a12))],[(1,.st false (eD (eMdl p0))),(2,.st false [.d .nils,.d .nils,.d .nils,.d .nils,.d .nils,.d .nils,.d .nils,.d .nils]),(3,.st false [.ls 36 0 j1.length,.ls 69 0 j2.length,.ls 86 0 j3.length,.ls 103 0 j4.length,.ls 135 0 j5.length,.ls 152 0 j6.length,.ls 184 0 j7.length,.ls 216 0 (a11++([(Dat.mk ((p0.datas.getD a12.toNat default).memory) x15 ((p0.datas.getD a12.toNat default).bytes))]:List Dat)).length]),(36,.sl false 2 j1.length (fl eTyp j1)),(69,.sl false 3 j2.length (fl eFnc j2)),(86,.sl false 3 j3.length (fl eLim j3)),(103,.sl false 3 j4.length (fl eLim j4)),(135,.sl false 10 j5.length (fl eGlo j5)),(152,.sl false 3 j6.length (fl eXpo j6)),(184,.sl false 10 j7.length (fl eEle j7)),(216,.sl false 10 (a11++([(Dat.mk ((p0.datas.getD a12.toNat default).memory) x15 ((p0.datas.getD a12.toNat default).bytes))]:List Dat)).length (fl eDat (a11++([(Dat.mk ((p0.datas.getD a12.toNat default).memory) x15 ((p0.datas.getD a12.toNat default).bytes))]:List Dat))))]⟩ (And.intro (And.intro h13 (And.intro h14 (And.intro (zet K ((p0.datas.getD a12.toNat default).offset) x15 hx16) (And.intro h17 (And.intro (litF eDat ([(Dat.mk ((p0.datas.getD a12.toNat default).memory) x15 ((p0.datas.getD a12.toNat default).bytes))]:List Dat)) (And.intro (Nat.le_refl a11.length) (And.intro h18 (And.intro (app1 eDat a11 (Dat.mk ((p0.datas.getD a12.toNat default).memory) x15 ((p0.datas.getD a12.toNat default).bytes)) (fl eDat ([(Dat.mk ((p0.datas.getD a12.toNat default).memory) x15 ((p0.datas.getD a12.toNat default).bytes))]:List Dat)) rfl) True.intro)))))))) True.intro) (by kernel_rfl) ?_
          refine AW2.rg [] [1,2,3,11] [] [.k 1,.k 2,.k 3,.k 36,.k 69,.k 86,.k 103,.k 135,.k 152,.k 184,.k 216] ⟨[(1,.p 1 0),(2,.p 2 0),(3,.p 3 0),(11,.d (.int .i64 (wI (a12+1))))],[(1,.st false (eD (eMdl p0))),(2,.st false [.d .nils,.d .nils,.d .nils,.d .nils,.d .nils,.d .nils,.d .nils,.d .nils]),(3,.st false [.ls 36 0 j1.length,.ls 69 0 j2.length,.ls 86 0 j3.length,.ls 103 0 j4.length,.ls 135 0 j5.length,.ls 152 0 j6.length,.ls 184 0 j7.length,.ls 216 0 (a11++([(Dat.mk ((p0.datas.getD a12.toNat default).memory) x15 ((p0.datas.getD a12.toNat default).bytes))]:List Dat)).length]),(36,.sl false 2 j1.length (fl eTyp j1)),(69,.sl false 3 j2.length (fl eFnc j2)),(86,.sl false 3 j3.length (fl eLim j3)),(103,.sl false 3 j4.length (fl eLim j4)),(135,.sl false 10 j5.length (fl eGlo j5)),(152,.sl false 3 j6.length (fl eXpo j6)),(184,.sl false 10 j7.length (fl eEle j7)),(216,.sl false 10 (a11++([(Dat.mk ((p0.datas.getD a12.toNat default).memory) x15 ((p0.datas.getD a12.toNat default).bytes))]:List Dat)).length (fl eDat (a11++([(Dat.mk ((p0.datas.getD a12.toNat default).memory) x15 ((p0.datas.getD a12.toNat default).bytes))]:List Dat))))]⟩ (And.intro True.intro True.intro) (by kernel_rfl) ?_
          exact ⟨k,((a11++([(Dat.mk ((p0.datas.getD a12.toNat default).memory) x15 ((p0.datas.getD a12.toNat default).bytes))]:List Dat)),(wI (a12+1))),Nat.lt_succ_self k,H,zaV [1,2,3,11] [] [.k 1,.k 2,.k 3,.k 36,.k 69,.k 86,.k 103,.k 135,.k 152,.k 184,.k 216] True.intro (by kernel_rfl)⟩
         ·replace H:=zaD H hc
          refine AW2.exit ?_
          have H:=Option.some.inj H
          subst H
          exact zaV [2,3] [] [.k 2,.k 3,.k 36,.k 69,.k 86,.k 103,.k 135,.k 152,.k 184,.k 216] True.intro (by kernel_rfl)
       ·have H:=H32
        refine AW2.seq ?_
        refine AW2.rg [] [1,2,3,10] [] [.k 1,.k 2,.k 3,.k 36,.k 69,.k 86,.k 103,.k 135,.k 152] ⟨[(1,.p 1 0),(2,.p 2 0),(3,.p 3 0),(10,.d (.int .i64 0))],[(1,.st false (eD (eMdl p0))),(2,.st false [.d .nils,.d .nils,.d .nils,.d .nils,.d .nils,.d .nils,.d .nils,.d .nils]),(3,.st false [.ls 36 0 j1.length,.ls 69 0 j2.length,.ls 86 0 j3.length,.ls 103 0 j4.length,.ls 135 0 j5.length,.ls 152 0 j6.length,.d .nils,.d .nils]),(36,.sl false 2 j1.length (fl eTyp j1)),(69,.sl false 3 j2.length (fl eFnc j2)),(86,.sl false 3 j3.length (fl eLim j3)),(103,.sl false 3 j4.length (fl eLim j4)),(135,.sl false 10 j5.length (fl eGlo j5)),(152,.sl false 3 j6.length (fl eXpo j6))]⟩ (And.intro True.intro True.intro) (by kernel_rfl) ?_
        refine AW2.block ?_
        refine AW2.cv [.c 3 6 184 10 (fl eEle ([]:List Ele))] [1,2,3,10] [] [.k 1,.k 2,.k 3,.k 36,.k 69,.k 86,.k 103,.k 135,.k 152,.k 184] ⟨[(1,.p 1 0),(2,.p 2 0),(3,.p 3 0),(10,.d (.int .i64 0))],[(1,.st false (eD (eMdl p0))),(2,.st false [.d .nils,.d .nils,.d .nils,.d .nils,.d .nils,.d .nils,.d .nils,.d .nils]),(3,.st false [.ls 36 0 j1.length,.ls 69 0 j2.length,.ls 86 0 j3.length,.ls 103 0 j4.length,.ls 135 0 j5.length,.ls 152 0 j6.length,.ls 184 0 ([]:List Ele).length,.d .nils]),(36,.sl false 2 j1.length (fl eTyp j1)),(69,.sl false 3 j2.length (fl eFnc j2)),(86,.sl false 3 j3.length (fl eLim j3)),(103,.sl false 3 j4.length (fl eLim j4)),(135,.sl false 10 j5.length (fl eGlo j5)),(152,.sl false 3 j6.length (fl eXpo j6)),(184,.sl false 10 ([]:List Ele).length (fl eEle ([]:List Ele)))]⟩ True.intro (by kernel_rfl) ?_
        refine AW2.lp (σ:=(List Ele)×Int) (fun v => ⟨[(1,.p 1 0),(2,.p 2 0),(3,.p 3 0),(10,.d (.int .i64 v.2))],[(1,.st false (eD (eMdl p0))),(2,.st false [.d .nils,.d .nils,.d .nils,.d .nils,.d .nils,.d .nils,.d .nils,.d .nils]),(3,.st false [.ls 36 0 j1.length,.ls 69 0 j2.length,.ls 86 0 j3.length,.ls 103 0 j4.length,.ls 135 0 j5.length,.ls 152 0 j6.length,.ls 184 0 v.1.length,.d .nils]),(36,.sl false 2 j1.length (fl eTyp j1)),(69,.sl false 3 j2.length (fl eFnc j2)),(86,.sl false 3 j3.length (fl eLim j3)),(103,.sl false 3 j4.length (fl eLim j4)),(135,.sl false 10 j5.length (fl eGlo j5)),(152,.sl false 3 j6.length (fl eXpo j6)),(184,.sl false 10 v.1.length (fl eEle v.1))]⟩) (fun k v => zaS k K p0 v.1 v.2=some j7) ?_ K (([]:List Ele),0) H
        rintro k ⟨a23,a24⟩ H
        dsimp only at H
        cases k with
        | zero => cases H
        | succ k => 
        unfold zaS at H
        refine AW2.seq ?_
        refine AW2.seq ?_
        refine AW2.rg [] [1,2,3,10,158] [] [.k 1,.k 2,.k 3,.k 36,.k 69,.k 86,.k 103,.k 135,.k 152,.k 184] ⟨[(1,.p 1 0),(2,.p 2 0),(3,.p 3 0),(10,.d (.int .i64 a24)),(158,.d (.bool (decide (a24<(p0.elems.length:Int)))))],[(1,.st false (eD (eMdl p0))),(2,.st false [.d .nils,.d .nils,.d .nils,.d .nils,.d .nils,.d .nils,.d .nils,.d .nils]),(3,.st false [.ls 36 0 j1.length,.ls 69 0 j2.length,.ls 86 0 j3.length,.ls 103 0 j4.length,.ls 135 0 j5.length,.ls 152 0 j6.length,.ls 184 0 a23.length,.d .nils]),(36,.sl false 2 j1.length (fl eTyp j1)),(69,.sl false 3 j2.length (fl eFnc j2)),(86,.sl false 3 j3.length (fl eLim j3)),(103,.sl false 3 j4.length (fl eLim j4)),(135,.sl false 10 j5.length (fl eGlo j5)),(152,.sl false 3 j6.length (fl eXpo j6)),(184,.sl false 10 a23.length (fl eEle a23))]⟩ (And.intro True.intro True.intro) (by kernel_rfl) ?_
        refine AW2.cond (b:=(decide (a24<(p0.elems.length:Int)))) rfl (fun hc => ?_) (fun hc => ?_)
        ·replace H:=zaC H hc
         refine AW2.skip ?_
         refine AW2.seq ?_
         refine AW2.block ?_
         obtain ⟨h25,H⟩:=zae H
         obtain ⟨h26,H⟩:=zae H
         obtain ⟨x27,hx28,H⟩:=bind_some H
         obtain ⟨h29,H⟩:=zae H
         obtain ⟨h30,H⟩:=zae H
         refine AW2.rg [.r (.agg (eInstr x27)),.sb ([(Ele.mk ((p0.elems.getD a24.toNat default).table) x27 ((p0.elems.getD a24.toNat default).funcs))]:List Ele).length (fl eEle ([(Ele.mk ((p0.elems.getD a24.toNat default).table) x27 ((p0.elems.getD a24.toNat default).funcs))]:List Ele)),.s true (a23++([(Ele.mk ((p0.elems.getD a24.toNat default).table) x27 ((p0.elems.getD a24.toNat default).funcs))]:List Ele)).length (fl eEle (a23++([(Ele.mk ((p0.elems.getD a24.toNat default).table) x27 ((p0.elems.getD a24.toNat default).funcs))]:List Ele)))] [1,2,3,10] [] [.k 1,.k 2,.k 3,.k 36,.k 69,.k 86,.k 103,.k 135,.k 152,.k 184] ⟨[(1,.p 1 0),(2,.p 2 0),(3,.p 3 0),(10,.d (.int .i64 a24))],[(1,.st false (eD (eMdl p0))),(2,.st false [.d .nils,.d .nils,.d .nils,.d .nils,.d .nils,.d .nils,.d .nils,.d .nils]),(3,.st false [.ls 36 0 j1.length,.ls 69 0 j2.length,.ls 86 0 j3.length,.ls 103 0 j4.length,.ls 135 0 j5.length,.ls 152 0 j6.length,.ls 184 0 (a23++([(Ele.mk ((p0.elems.getD a24.toNat default).table) x27 ((p0.elems.getD a24.toNat default).funcs))]:List Ele)).length,.d .nils]),(36,.sl false 2 j1.length (fl eTyp j1)),(69,.sl false 3 j2.length (fl eFnc j2)),(86,.sl false 3 j3.length (fl eLim j3)),(103,.sl false 3 j4.length (fl eLim j4)),(135,.sl false 10 j5.length (fl eGlo j5)),(152,.sl false 3 j6.length (fl eXpo j6)),(184,.sl false 10 (a23++([(Ele.mk ((p0.elems.getD a24.toNat default).table) x27 ((p0.elems.getD a24.toNat default).funcs))]:List Ele)).length (fl eEle (a23++([(Ele.mk ((p0.elems.getD a24.toNat default).table) x27 ((p0.elems.getD a24.toNat default).funcs))]:List Ele))))]⟩ (And.intro (And.intro h25 (And.intro h26 (And.intro (zet K ((p0.elems.getD a24.toNat default).offset) x27 hx28) (And.intro h29 (And.intro (litF eEle ([(Ele.mk ((p0.elems.getD a24.toNat default).table) x27 ((p0.elems.getD a24.toNat default).funcs))]:List Ele)) (And.intro (Nat.le_refl a23.length) (And.intro h30 (And.intro (app1 eEle a23 (Ele.mk ((p0.elems.getD a24.toNat default).table) x27 ((p0.elems.getD a24.toNat default).funcs)) (fl eEle ([(Ele.mk ((p0.elems.getD a24.toNat default).table) x27 ((p0.elems.getD a24.toNat default).funcs))]:List Ele)) rfl) True.intro)))))))) True.intro) (by kernel_rfl) ?_
         refine AW2.rg [] [1,2,3,10] [] [.k 1,.k 2,.k 3,.k 36,.k 69,.k 86,.k 103,.k 135,.k 152,.k 184] ⟨[(1,.p 1 0),(2,.p 2 0),(3,.p 3 0),(10,.d (.int .i64 (wI (a24+1))))],[(1,.st false (eD (eMdl p0))),(2,.st false [.d .nils,.d .nils,.d .nils,.d .nils,.d .nils,.d .nils,.d .nils,.d .nils]),(3,.st false [.ls 36 0 j1.length,.ls 69 0 j2.length,.ls 86 0 j3.length,.ls 103 0 j4.length,.ls 135 0 j5.length,.ls 152 0 j6.length,.ls 184 0 (a23++([(Ele.mk ((p0.elems.getD a24.toNat default).table) x27 ((p0.elems.getD a24.toNat default).funcs))]:List Ele)).length,.d .nils]),(36,.sl false 2 j1.length (fl eTyp j1)),(69,.sl false 3 j2.length (fl eFnc j2)),(86,.sl false 3 j3.length (fl eLim j3)),(103,.sl false 3 j4.length (fl eLim j4)),(135,.sl false 10 j5.length (fl eGlo j5)),(152,.sl false 3 j6.length (fl eXpo j6)),(184,.sl false 10 (a23++([(Ele.mk ((p0.elems.getD a24.toNat default).table) x27 ((p0.elems.getD a24.toNat default).funcs))]:List Ele)).length (fl eEle (a23++([(Ele.mk ((p0.elems.getD a24.toNat default).table) x27 ((p0.elems.getD a24.toNat default).funcs))]:List Ele))))]⟩ (And.intro True.intro True.intro) (by kernel_rfl) ?_
         exact ⟨k,((a23++([(Ele.mk ((p0.elems.getD a24.toNat default).table) x27 ((p0.elems.getD a24.toNat default).funcs))]:List Ele)),(wI (a24+1))),Nat.lt_succ_self k,H,zaV [1,2,3,10] [] [.k 1,.k 2,.k 3,.k 36,.k 69,.k 86,.k 103,.k 135,.k 152,.k 184] True.intro (by kernel_rfl)⟩
        ·replace H:=zaD H hc
         refine AW2.exit ?_
         have H:=Option.some.inj H
         subst H
         exact zaV [1,2,3] [] [.k 1,.k 2,.k 3,.k 36,.k 69,.k 86,.k 103,.k 135,.k 152,.k 184] True.intro (by kernel_rfl)
      ·have H:=H40
       refine AW2.seq ?_
       refine AW2.rg [] [1,2,3,9] [] [.k 1,.k 2,.k 3,.k 36,.k 69,.k 86,.k 103,.k 135] ⟨[(1,.p 1 0),(2,.p 2 0),(3,.p 3 0),(9,.d (.int .i64 0))],[(1,.st false (eD (eMdl p0))),(2,.st false [.d .nils,.d .nils,.d .nils,.d .nils,.d .nils,.d .nils,.d .nils,.d .nils]),(3,.st false [.ls 36 0 j1.length,.ls 69 0 j2.length,.ls 86 0 j3.length,.ls 103 0 j4.length,.ls 135 0 j5.length,.d .nils,.d .nils,.d .nils]),(36,.sl false 2 j1.length (fl eTyp j1)),(69,.sl false 3 j2.length (fl eFnc j2)),(86,.sl false 3 j3.length (fl eLim j3)),(103,.sl false 3 j4.length (fl eLim j4)),(135,.sl false 10 j5.length (fl eGlo j5))]⟩ (And.intro True.intro True.intro) (by kernel_rfl) ?_
       refine AW2.block ?_
       refine AW2.cv [.c 3 5 152 3 (fl eXpo ([]:List Xpo))] [1,2,3,9] [] [.k 1,.k 2,.k 3,.k 36,.k 69,.k 86,.k 103,.k 135,.k 152] ⟨[(1,.p 1 0),(2,.p 2 0),(3,.p 3 0),(9,.d (.int .i64 0))],[(1,.st false (eD (eMdl p0))),(2,.st false [.d .nils,.d .nils,.d .nils,.d .nils,.d .nils,.d .nils,.d .nils,.d .nils]),(3,.st false [.ls 36 0 j1.length,.ls 69 0 j2.length,.ls 86 0 j3.length,.ls 103 0 j4.length,.ls 135 0 j5.length,.ls 152 0 ([]:List Xpo).length,.d .nils,.d .nils]),(36,.sl false 2 j1.length (fl eTyp j1)),(69,.sl false 3 j2.length (fl eFnc j2)),(86,.sl false 3 j3.length (fl eLim j3)),(103,.sl false 3 j4.length (fl eLim j4)),(135,.sl false 10 j5.length (fl eGlo j5)),(152,.sl false 3 ([]:List Xpo).length (fl eXpo ([]:List Xpo)))]⟩ True.intro (by kernel_rfl) ?_
       refine AW2.lp (σ:=(List Xpo)×Int) (fun v => ⟨[(1,.p 1 0),(2,.p 2 0),(3,.p 3 0),(9,.d (.int .i64 v.2))],[(1,.st false (eD (eMdl p0))),(2,.st false [.d .nils,.d .nils,.d .nils,.d .nils,.d .nils,.d .nils,.d .nils,.d .nils]),(3,.st false [.ls 36 0 j1.length,.ls 69 0 j2.length,.ls 86 0 j3.length,.ls 103 0 j4.length,.ls 135 0 j5.length,.ls 152 0 v.1.length,.d .nils,.d .nils]),(36,.sl false 2 j1.length (fl eTyp j1)),(69,.sl false 3 j2.length (fl eFnc j2)),(86,.sl false 3 j3.length (fl eLim j3)),(103,.sl false 3 j4.length (fl eLim j4)),(135,.sl false 10 j5.length (fl eGlo j5)),(152,.sl false 3 v.1.length (fl eXpo v.1))]⟩) (fun k v => zaR k p0 v.1 v.2=some j6) ?_ K (([]:List Xpo),0) H
       rintro k ⟨a35,a36⟩ H
       dsimp only at H
       cases k with
       | zero => cases H
       | succ k => 
       unfold zaR at H
       refine AW2.seq ?_
       refine AW2.seq ?_
       refine AW2.rg [] [1,2,3,9,141] [] [.k 1,.k 2,.k 3,.k 36,.k 69,.k 86,.k 103,.k 135,.k 152] ⟨[(1,.p 1 0),(2,.p 2 0),(3,.p 3 0),(9,.d (.int .i64 a36)),(141,.d (.bool (decide (a36<(p0.exports.length:Int)))))],[(1,.st false (eD (eMdl p0))),(2,.st false [.d .nils,.d .nils,.d .nils,.d .nils,.d .nils,.d .nils,.d .nils,.d .nils]),(3,.st false [.ls 36 0 j1.length,.ls 69 0 j2.length,.ls 86 0 j3.length,.ls 103 0 j4.length,.ls 135 0 j5.length,.ls 152 0 a35.length,.d .nils,.d .nils]),(36,.sl false 2 j1.length (fl eTyp j1)),(69,.sl false 3 j2.length (fl eFnc j2)),(86,.sl false 3 j3.length (fl eLim j3)),(103,.sl false 3 j4.length (fl eLim j4)),(135,.sl false 10 j5.length (fl eGlo j5)),(152,.sl false 3 a35.length (fl eXpo a35))]⟩ (And.intro True.intro True.intro) (by kernel_rfl) ?_
       refine AW2.cond (b:=(decide (a36<(p0.exports.length:Int)))) rfl (fun hc => ?_) (fun hc => ?_)
       ·replace H:=zaC H hc
        refine AW2.skip ?_
        refine AW2.seq ?_
        refine AW2.block ?_
        obtain ⟨h37,H⟩:=zae H
        obtain ⟨h38,H⟩:=zae H
        refine AW2.rg [.sb ([(p0.exports.getD a36.toNat default)]:List Xpo).length (fl eXpo ([(p0.exports.getD a36.toNat default)]:List Xpo)),.s true (a35++([(p0.exports.getD a36.toNat default)]:List Xpo)).length (fl eXpo (a35++([(p0.exports.getD a36.toNat default)]:List Xpo)))] [1,2,3,9] [] [.k 1,.k 2,.k 3,.k 36,.k 69,.k 86,.k 103,.k 135,.k 152] ⟨[(1,.p 1 0),(2,.p 2 0),(3,.p 3 0),(9,.d (.int .i64 a36))],[(1,.st false (eD (eMdl p0))),(2,.st false [.d .nils,.d .nils,.d .nils,.d .nils,.d .nils,.d .nils,.d .nils,.d .nils]),(3,.st false [.ls 36 0 j1.length,.ls 69 0 j2.length,.ls 86 0 j3.length,.ls 103 0 j4.length,.ls 135 0 j5.length,.ls 152 0 (a35++([(p0.exports.getD a36.toNat default)]:List Xpo)).length,.d .nils,.d .nils]),(36,.sl false 2 j1.length (fl eTyp j1)),(69,.sl false 3 j2.length (fl eFnc j2)),(86,.sl false 3 j3.length (fl eLim j3)),(103,.sl false 3 j4.length (fl eLim j4)),(135,.sl false 10 j5.length (fl eGlo j5)),(152,.sl false 3 (a35++([(p0.exports.getD a36.toNat default)]:List Xpo)).length (fl eXpo (a35++([(p0.exports.getD a36.toNat default)]:List Xpo))))]⟩ (And.intro (And.intro h37 (And.intro (litF eXpo ([(p0.exports.getD a36.toNat default)]:List Xpo)) (And.intro (Nat.le_refl a35.length) (And.intro h38 (And.intro (app1 eXpo a35 (p0.exports.getD a36.toNat default) (fl eXpo ([(p0.exports.getD a36.toNat default)]:List Xpo)) rfl) True.intro))))) True.intro) (by kernel_rfl) ?_
        refine AW2.rg [] [1,2,3,9] [] [.k 1,.k 2,.k 3,.k 36,.k 69,.k 86,.k 103,.k 135,.k 152] ⟨[(1,.p 1 0),(2,.p 2 0),(3,.p 3 0),(9,.d (.int .i64 (wI (a36+1))))],[(1,.st false (eD (eMdl p0))),(2,.st false [.d .nils,.d .nils,.d .nils,.d .nils,.d .nils,.d .nils,.d .nils,.d .nils]),(3,.st false [.ls 36 0 j1.length,.ls 69 0 j2.length,.ls 86 0 j3.length,.ls 103 0 j4.length,.ls 135 0 j5.length,.ls 152 0 (a35++([(p0.exports.getD a36.toNat default)]:List Xpo)).length,.d .nils,.d .nils]),(36,.sl false 2 j1.length (fl eTyp j1)),(69,.sl false 3 j2.length (fl eFnc j2)),(86,.sl false 3 j3.length (fl eLim j3)),(103,.sl false 3 j4.length (fl eLim j4)),(135,.sl false 10 j5.length (fl eGlo j5)),(152,.sl false 3 (a35++([(p0.exports.getD a36.toNat default)]:List Xpo)).length (fl eXpo (a35++([(p0.exports.getD a36.toNat default)]:List Xpo))))]⟩ (And.intro True.intro True.intro) (by kernel_rfl) ?_
        exact ⟨k,((a35++([(p0.exports.getD a36.toNat default)]:List Xpo)),(wI (a36+1))),Nat.lt_succ_self k,H,zaV [1,2,3,9] [] [.k 1,.k 2,.k 3,.k 36,.k 69,.k 86,.k 103,.k 135,.k 152] True.intro (by kernel_rfl)⟩
       ·replace H:=zaD H hc
        refine AW2.exit ?_
        have H:=Option.some.inj H
        subst H
        exact zaV [1,2,3] [] [.k 1,.k 2,.k 3,.k 36,.k 69,.k 86,.k 103,.k 135,.k 152] True.intro (by kernel_rfl)
     ·have H:=H52
      refine AW2.seq ?_
      refine AW2.rg [] [1,2,3,8] [] [.k 1,.k 2,.k 3,.k 36,.k 69,.k 86,.k 103] ⟨[(1,.p 1 0),(2,.p 2 0),(3,.p 3 0),(8,.d (.int .i64 0))],[(1,.st false (eD (eMdl p0))),(2,.st false [.d .nils,.d .nils,.d .nils,.d .nils,.d .nils,.d .nils,.d .nils,.d .nils]),(3,.st false [.ls 36 0 j1.length,.ls 69 0 j2.length,.ls 86 0 j3.length,.ls 103 0 j4.length,.d .nils,.d .nils,.d .nils,.d .nils]),(36,.sl false 2 j1.length (fl eTyp j1)),(69,.sl false 3 j2.length (fl eFnc j2)),(86,.sl false 3 j3.length (fl eLim j3)),(103,.sl false 3 j4.length (fl eLim j4))]⟩ (And.intro True.intro True.intro) (by kernel_rfl) ?_
      refine AW2.block ?_
      refine AW2.cv [.c 3 4 135 10 (fl eGlo ([]:List Glo))] [1,2,3,8] [] [.k 1,.k 2,.k 3,.k 36,.k 69,.k 86,.k 103,.k 135] ⟨[(1,.p 1 0),(2,.p 2 0),(3,.p 3 0),(8,.d (.int .i64 0))],[(1,.st false (eD (eMdl p0))),(2,.st false [.d .nils,.d .nils,.d .nils,.d .nils,.d .nils,.d .nils,.d .nils,.d .nils]),(3,.st false [.ls 36 0 j1.length,.ls 69 0 j2.length,.ls 86 0 j3.length,.ls 103 0 j4.length,.ls 135 0 ([]:List Glo).length,.d .nils,.d .nils,.d .nils]),(36,.sl false 2 j1.length (fl eTyp j1)),(69,.sl false 3 j2.length (fl eFnc j2)),(86,.sl false 3 j3.length (fl eLim j3)),(103,.sl false 3 j4.length (fl eLim j4)),(135,.sl false 10 ([]:List Glo).length (fl eGlo ([]:List Glo)))]⟩ True.intro (by kernel_rfl) ?_
      refine AW2.lp (σ:=(List Glo)×Int) (fun v => ⟨[(1,.p 1 0),(2,.p 2 0),(3,.p 3 0),(8,.d (.int .i64 v.2))],[(1,.st false (eD (eMdl p0))),(2,.st false [.d .nils,.d .nils,.d .nils,.d .nils,.d .nils,.d .nils,.d .nils,.d .nils]),(3,.st false [.ls 36 0 j1.length,.ls 69 0 j2.length,.ls 86 0 j3.length,.ls 103 0 j4.length,.ls 135 0 v.1.length,.d .nils,.d .nils,.d .nils]),(36,.sl false 2 j1.length (fl eTyp j1)),(69,.sl false 3 j2.length (fl eFnc j2)),(86,.sl false 3 j3.length (fl eLim j3)),(103,.sl false 3 j4.length (fl eLim j4)),(135,.sl false 10 v.1.length (fl eGlo v.1))]⟩) (fun k v => zaQ k K p0 v.1 v.2=some j5) ?_ K (([]:List Glo),0) H
      rintro k ⟨a43,a44⟩ H
      dsimp only at H
      cases k with
      | zero => cases H
      | succ k => 
      unfold zaQ at H
      refine AW2.seq ?_
      refine AW2.seq ?_
      refine AW2.rg [] [1,2,3,8,109] [] [.k 1,.k 2,.k 3,.k 36,.k 69,.k 86,.k 103,.k 135] ⟨[(1,.p 1 0),(2,.p 2 0),(3,.p 3 0),(8,.d (.int .i64 a44)),(109,.d (.bool (decide (a44<(p0.globals.length:Int)))))],[(1,.st false (eD (eMdl p0))),(2,.st false [.d .nils,.d .nils,.d .nils,.d .nils,.d .nils,.d .nils,.d .nils,.d .nils]),(3,.st false [.ls 36 0 j1.length,.ls 69 0 j2.length,.ls 86 0 j3.length,.ls 103 0 j4.length,.ls 135 0 a43.length,.d .nils,.d .nils,.d .nils]),(36,.sl false 2 j1.length (fl eTyp j1)),(69,.sl false 3 j2.length (fl eFnc j2)),(86,.sl false 3 j3.length (fl eLim j3)),(103,.sl false 3 j4.length (fl eLim j4)),(135,.sl false 10 a43.length (fl eGlo a43))]⟩ (And.intro True.intro True.intro) (by kernel_rfl) ?_
      refine AW2.cond (b:=(decide (a44<(p0.globals.length:Int)))) rfl (fun hc => ?_) (fun hc => ?_)
      ·replace H:=zaC H hc
       refine AW2.skip ?_
       refine AW2.seq ?_
       refine AW2.block ?_
       obtain ⟨h45,H⟩:=zae H
       obtain ⟨h46,H⟩:=zae H
       obtain ⟨h47,H⟩:=zae H
       obtain ⟨x48,hx49,H⟩:=bind_some H
       obtain ⟨h50,H⟩:=zae H
       refine AW2.rg [.r (.agg (eInstr x48)),.sb ([(Glo.mk ((p0.globals.getD a44.toNat default).kind) ((p0.globals.getD a44.toNat default).mut_) x48)]:List Glo).length (fl eGlo ([(Glo.mk ((p0.globals.getD a44.toNat default).kind) ((p0.globals.getD a44.toNat default).mut_) x48)]:List Glo)),.s true (a43++([(Glo.mk ((p0.globals.getD a44.toNat default).kind) ((p0.globals.getD a44.toNat default).mut_) x48)]:List Glo)).length (fl eGlo (a43++([(Glo.mk ((p0.globals.getD a44.toNat default).kind) ((p0.globals.getD a44.toNat default).mut_) x48)]:List Glo)))] [1,2,3,8] [] [.k 1,.k 2,.k 3,.k 36,.k 69,.k 86,.k 103,.k 135] ⟨[(1,.p 1 0),(2,.p 2 0),(3,.p 3 0),(8,.d (.int .i64 a44))],[(1,.st false (eD (eMdl p0))),(2,.st false [.d .nils,.d .nils,.d .nils,.d .nils,.d .nils,.d .nils,.d .nils,.d .nils]),(3,.st false [.ls 36 0 j1.length,.ls 69 0 j2.length,.ls 86 0 j3.length,.ls 103 0 j4.length,.ls 135 0 (a43++([(Glo.mk ((p0.globals.getD a44.toNat default).kind) ((p0.globals.getD a44.toNat default).mut_) x48)]:List Glo)).length,.d .nils,.d .nils,.d .nils]),(36,.sl false 2 j1.length (fl eTyp j1)),(69,.sl false 3 j2.length (fl eFnc j2)),(86,.sl false 3 j3.length (fl eLim j3)),(103,.sl false 3 j4.length (fl eLim j4)),(135,.sl false 10 (a43++([(Glo.mk ((p0.globals.getD a44.toNat default).kind) ((p0.globals.getD a44.toNat default).mut_) x48)]:List Glo)).length (fl eGlo (a43++([(Glo.mk ((p0.globals.getD a44.toNat default).kind) ((p0.globals.getD a44.toNat default).mut_) x48)]:List Glo))))]⟩ (And.intro (And.intro h45 (And.intro h46 (And.intro h47 (And.intro (zet K ((p0.globals.getD a44.toNat default).init_) x48 hx49) (And.intro (litF eGlo ([(Glo.mk ((p0.globals.getD a44.toNat default).kind) ((p0.globals.getD a44.toNat default).mut_) x48)]:List Glo)) (And.intro (Nat.le_refl a43.length) (And.intro h50 (And.intro (app1 eGlo a43 (Glo.mk ((p0.globals.getD a44.toNat default).kind) ((p0.globals.getD a44.toNat default).mut_) x48) (fl eGlo ([(Glo.mk ((p0.globals.getD a44.toNat default).kind) ((p0.globals.getD a44.toNat default).mut_) x48)]:List Glo)) rfl) True.intro)))))))) True.intro) (by kernel_rfl) ?_
       refine AW2.rg [] [1,2,3,8] [] [.k 1,.k 2,.k 3,.k 36,.k 69,.k 86,.k 103,.k 135] ⟨[(1,.p 1 0),(2,.p 2 0),(3,.p 3 0),(8,.d (.int .i64 (wI (a44+1))))],[(1,.st false (eD (eMdl p0))),(2,.st false [.d .nils,.d .nils,.d .nils,.d .nils,.d .nils,.d .nils,.d .nils,.d .nils]),(3,.st false [.ls 36 0 j1.length,.ls 69 0 j2.length,.ls 86 0 j3.length,.ls 103 0 j4.length,.ls 135 0 (a43++([(Glo.mk ((p0.globals.getD a44.toNat default).kind) ((p0.globals.getD a44.toNat default).mut_) x48)]:List Glo)).length,.d .nils,.d .nils,.d .nils]),(36,.sl false 2 j1.length (fl eTyp j1)),(69,.sl false 3 j2.length (fl eFnc j2)),(86,.sl false 3 j3.length (fl eLim j3)),(103,.sl false 3 j4.length (fl eLim j4)),(135,.sl false 10 (a43++([(Glo.mk ((p0.globals.getD a44.toNat default).kind) ((p0.globals.getD a44.toNat default).mut_) x48)]:List Glo)).length (fl eGlo (a43++([(Glo.mk ((p0.globals.getD a44.toNat default).kind) ((p0.globals.getD a44.toNat default).mut_) x48)]:List Glo))))]⟩ (And.intro True.intro True.intro) (by kernel_rfl) ?_
       exact ⟨k,((a43++([(Glo.mk ((p0.globals.getD a44.toNat default).kind) ((p0.globals.getD a44.toNat default).mut_) x48)]:List Glo)),(wI (a44+1))),Nat.lt_succ_self k,H,zaV [1,2,3,8] [] [.k 1,.k 2,.k 3,.k 36,.k 69,.k 86,.k 103,.k 135] True.intro (by kernel_rfl)⟩
      ·replace H:=zaD H hc
       refine AW2.exit ?_
       have H:=Option.some.inj H
       subst H
       exact zaV [1,2,3] [] [.k 1,.k 2,.k 3,.k 36,.k 69,.k 86,.k 103,.k 135] True.intro (by kernel_rfl)
    ·have H:=H60
     refine AW2.seq ?_
     refine AW2.rg [] [1,2,3,7] [] [.k 1,.k 2,.k 3,.k 36,.k 69,.k 86] ⟨[(1,.p 1 0),(2,.p 2 0),(3,.p 3 0),(7,.d (.int .i64 0))],[(1,.st false (eD (eMdl p0))),(2,.st false [.d .nils,.d .nils,.d .nils,.d .nils,.d .nils,.d .nils,.d .nils,.d .nils]),(3,.st false [.ls 36 0 j1.length,.ls 69 0 j2.length,.ls 86 0 j3.length,.d .nils,.d .nils,.d .nils,.d .nils,.d .nils]),(36,.sl false 2 j1.length (fl eTyp j1)),(69,.sl false 3 j2.length (fl eFnc j2)),(86,.sl false 3 j3.length (fl eLim j3))]⟩ (And.intro True.intro True.intro) (by kernel_rfl) ?_
     refine AW2.block ?_
     refine AW2.cv [.c 3 3 103 3 (fl eLim ([]:List Lim))] [1,2,3,7] [] [.k 1,.k 2,.k 3,.k 36,.k 69,.k 86,.k 103] ⟨[(1,.p 1 0),(2,.p 2 0),(3,.p 3 0),(7,.d (.int .i64 0))],[(1,.st false (eD (eMdl p0))),(2,.st false [.d .nils,.d .nils,.d .nils,.d .nils,.d .nils,.d .nils,.d .nils,.d .nils]),(3,.st false [.ls 36 0 j1.length,.ls 69 0 j2.length,.ls 86 0 j3.length,.ls 103 0 ([]:List Lim).length,.d .nils,.d .nils,.d .nils,.d .nils]),(36,.sl false 2 j1.length (fl eTyp j1)),(69,.sl false 3 j2.length (fl eFnc j2)),(86,.sl false 3 j3.length (fl eLim j3)),(103,.sl false 3 ([]:List Lim).length (fl eLim ([]:List Lim)))]⟩ True.intro (by kernel_rfl) ?_
     refine AW2.lp (σ:=(List Lim)×Int) (fun v => ⟨[(1,.p 1 0),(2,.p 2 0),(3,.p 3 0),(7,.d (.int .i64 v.2))],[(1,.st false (eD (eMdl p0))),(2,.st false [.d .nils,.d .nils,.d .nils,.d .nils,.d .nils,.d .nils,.d .nils,.d .nils]),(3,.st false [.ls 36 0 j1.length,.ls 69 0 j2.length,.ls 86 0 j3.length,.ls 103 0 v.1.length,.d .nils,.d .nils,.d .nils,.d .nils]),(36,.sl false 2 j1.length (fl eTyp j1)),(69,.sl false 3 j2.length (fl eFnc j2)),(86,.sl false 3 j3.length (fl eLim j3)),(103,.sl false 3 v.1.length (fl eLim v.1))]⟩) (fun k v => zaP k p0 v.1 v.2=some j4) ?_ K (([]:List Lim),0) H
     rintro k ⟨a55,a56⟩ H
     dsimp only at H
     cases k with
     | zero => cases H
     | succ k => 
     unfold zaP at H
     refine AW2.seq ?_
     refine AW2.seq ?_
     refine AW2.rg [] [1,2,3,7,92] [] [.k 1,.k 2,.k 3,.k 36,.k 69,.k 86,.k 103] ⟨[(1,.p 1 0),(2,.p 2 0),(3,.p 3 0),(7,.d (.int .i64 a56)),(92,.d (.bool (decide (a56<(p0.memories.length:Int)))))],[(1,.st false (eD (eMdl p0))),(2,.st false [.d .nils,.d .nils,.d .nils,.d .nils,.d .nils,.d .nils,.d .nils,.d .nils]),(3,.st false [.ls 36 0 j1.length,.ls 69 0 j2.length,.ls 86 0 j3.length,.ls 103 0 a55.length,.d .nils,.d .nils,.d .nils,.d .nils]),(36,.sl false 2 j1.length (fl eTyp j1)),(69,.sl false 3 j2.length (fl eFnc j2)),(86,.sl false 3 j3.length (fl eLim j3)),(103,.sl false 3 a55.length (fl eLim a55))]⟩ (And.intro True.intro True.intro) (by kernel_rfl) ?_
     refine AW2.cond (b:=(decide (a56<(p0.memories.length:Int)))) rfl (fun hc => ?_) (fun hc => ?_)
     ·replace H:=zaC H hc
      refine AW2.skip ?_
      refine AW2.seq ?_
      refine AW2.block ?_
      obtain ⟨h57,H⟩:=zae H
      obtain ⟨h58,H⟩:=zae H
      refine AW2.rg [.sb ([(p0.memories.getD a56.toNat default)]:List Lim).length (fl eLim ([(p0.memories.getD a56.toNat default)]:List Lim)),.s true (a55++([(p0.memories.getD a56.toNat default)]:List Lim)).length (fl eLim (a55++([(p0.memories.getD a56.toNat default)]:List Lim)))] [1,2,3,7] [] [.k 1,.k 2,.k 3,.k 36,.k 69,.k 86,.k 103] ⟨[(1,.p 1 0),(2,.p 2 0),(3,.p 3 0),(7,.d (.int .i64 a56))],[(1,.st false (eD (eMdl p0))),(2,.st false [.d .nils,.d .nils,.d .nils,.d .nils,.d .nils,.d .nils,.d .nils,.d .nils]),(3,.st false [.ls 36 0 j1.length,.ls 69 0 j2.length,.ls 86 0 j3.length,.ls 103 0 (a55++([(p0.memories.getD a56.toNat default)]:List Lim)).length,.d .nils,.d .nils,.d .nils,.d .nils]),(36,.sl false 2 j1.length (fl eTyp j1)),(69,.sl false 3 j2.length (fl eFnc j2)),(86,.sl false 3 j3.length (fl eLim j3)),(103,.sl false 3 (a55++([(p0.memories.getD a56.toNat default)]:List Lim)).length (fl eLim (a55++([(p0.memories.getD a56.toNat default)]:List Lim))))]⟩ (And.intro (And.intro h57 (And.intro (litF eLim ([(p0.memories.getD a56.toNat default)]:List Lim)) (And.intro (Nat.le_refl a55.length) (And.intro h58 (And.intro (app1 eLim a55 (p0.memories.getD a56.toNat default) (fl eLim ([(p0.memories.getD a56.toNat default)]:List Lim)) rfl) True.intro))))) True.intro) (by kernel_rfl) ?_
      refine AW2.rg [] [1,2,3,7] [] [.k 1,.k 2,.k 3,.k 36,.k 69,.k 86,.k 103] ⟨[(1,.p 1 0),(2,.p 2 0),(3,.p 3 0),(7,.d (.int .i64 (wI (a56+1))))],[(1,.st false (eD (eMdl p0))),(2,.st false [.d .nils,.d .nils,.d .nils,.d .nils,.d .nils,.d .nils,.d .nils,.d .nils]),(3,.st false [.ls 36 0 j1.length,.ls 69 0 j2.length,.ls 86 0 j3.length,.ls 103 0 (a55++([(p0.memories.getD a56.toNat default)]:List Lim)).length,.d .nils,.d .nils,.d .nils,.d .nils]),(36,.sl false 2 j1.length (fl eTyp j1)),(69,.sl false 3 j2.length (fl eFnc j2)),(86,.sl false 3 j3.length (fl eLim j3)),(103,.sl false 3 (a55++([(p0.memories.getD a56.toNat default)]:List Lim)).length (fl eLim (a55++([(p0.memories.getD a56.toNat default)]:List Lim))))]⟩ (And.intro True.intro True.intro) (by kernel_rfl) ?_
      exact ⟨k,((a55++([(p0.memories.getD a56.toNat default)]:List Lim)),(wI (a56+1))),Nat.lt_succ_self k,H,zaV [1,2,3,7] [] [.k 1,.k 2,.k 3,.k 36,.k 69,.k 86,.k 103] True.intro (by kernel_rfl)⟩
     ·replace H:=zaD H hc
      refine AW2.exit ?_
      have H:=Option.some.inj H
      subst H
      exact zaV [1,2,3] [] [.k 1,.k 2,.k 3,.k 36,.k 69,.k 86,.k 103] True.intro (by kernel_rfl)
   ·have H:=H68
    refine AW2.seq ?_
    refine AW2.rg [] [1,2,3,6] [] [.k 1,.k 2,.k 3,.k 36,.k 69] ⟨[(1,.p 1 0),(2,.p 2 0),(3,.p 3 0),(6,.d (.int .i64 0))],[(1,.st false (eD (eMdl p0))),(2,.st false [.d .nils,.d .nils,.d .nils,.d .nils,.d .nils,.d .nils,.d .nils,.d .nils]),(3,.st false [.ls 36 0 j1.length,.ls 69 0 j2.length,.d .nils,.d .nils,.d .nils,.d .nils,.d .nils,.d .nils]),(36,.sl false 2 j1.length (fl eTyp j1)),(69,.sl false 3 j2.length (fl eFnc j2))]⟩ (And.intro True.intro True.intro) (by kernel_rfl) ?_
    refine AW2.block ?_
    refine AW2.cv [.c 3 2 86 3 (fl eLim ([]:List Lim))] [1,2,3,6] [] [.k 1,.k 2,.k 3,.k 36,.k 69,.k 86] ⟨[(1,.p 1 0),(2,.p 2 0),(3,.p 3 0),(6,.d (.int .i64 0))],[(1,.st false (eD (eMdl p0))),(2,.st false [.d .nils,.d .nils,.d .nils,.d .nils,.d .nils,.d .nils,.d .nils,.d .nils]),(3,.st false [.ls 36 0 j1.length,.ls 69 0 j2.length,.ls 86 0 ([]:List Lim).length,.d .nils,.d .nils,.d .nils,.d .nils,.d .nils]),(36,.sl false 2 j1.length (fl eTyp j1)),(69,.sl false 3 j2.length (fl eFnc j2)),(86,.sl false 3 ([]:List Lim).length (fl eLim ([]:List Lim)))]⟩ True.intro (by kernel_rfl) ?_
    refine AW2.lp (σ:=(List Lim)×Int) (fun v => ⟨[(1,.p 1 0),(2,.p 2 0),(3,.p 3 0),(6,.d (.int .i64 v.2))],[(1,.st false (eD (eMdl p0))),(2,.st false [.d .nils,.d .nils,.d .nils,.d .nils,.d .nils,.d .nils,.d .nils,.d .nils]),(3,.st false [.ls 36 0 j1.length,.ls 69 0 j2.length,.ls 86 0 v.1.length,.d .nils,.d .nils,.d .nils,.d .nils,.d .nils]),(36,.sl false 2 j1.length (fl eTyp j1)),(69,.sl false 3 j2.length (fl eFnc j2)),(86,.sl false 3 v.1.length (fl eLim v.1))]⟩) (fun k v => zaO k p0 v.1 v.2=some j3) ?_ K (([]:List Lim),0) H
    rintro k ⟨a63,a64⟩ H
    dsimp only at H
    cases k with
    | zero => cases H
    | succ k => 
    unfold zaO at H
    refine AW2.seq ?_
    refine AW2.seq ?_
    refine AW2.rg [] [1,2,3,6,75] [] [.k 1,.k 2,.k 3,.k 36,.k 69,.k 86] ⟨[(1,.p 1 0),(2,.p 2 0),(3,.p 3 0),(6,.d (.int .i64 a64)),(75,.d (.bool (decide (a64<(p0.tables.length:Int)))))],[(1,.st false (eD (eMdl p0))),(2,.st false [.d .nils,.d .nils,.d .nils,.d .nils,.d .nils,.d .nils,.d .nils,.d .nils]),(3,.st false [.ls 36 0 j1.length,.ls 69 0 j2.length,.ls 86 0 a63.length,.d .nils,.d .nils,.d .nils,.d .nils,.d .nils]),(36,.sl false 2 j1.length (fl eTyp j1)),(69,.sl false 3 j2.length (fl eFnc j2)),(86,.sl false 3 a63.length (fl eLim a63))]⟩ (And.intro True.intro True.intro) (by kernel_rfl) ?_
    refine AW2.cond (b:=(decide (a64<(p0.tables.length:Int)))) rfl (fun hc => ?_) (fun hc => ?_)
    ·replace H:=zaC H hc
     refine AW2.skip ?_
     refine AW2.seq ?_
     refine AW2.block ?_
     obtain ⟨h65,H⟩:=zae H
     obtain ⟨h66,H⟩:=zae H
     refine AW2.rg [.sb ([(p0.tables.getD a64.toNat default)]:List Lim).length (fl eLim ([(p0.tables.getD a64.toNat default)]:List Lim)),.s true (a63++([(p0.tables.getD a64.toNat default)]:List Lim)).length (fl eLim (a63++([(p0.tables.getD a64.toNat default)]:List Lim)))] [1,2,3,6] [] [.k 1,.k 2,.k 3,.k 36,.k 69,.k 86] ⟨[(1,.p 1 0),(2,.p 2 0),(3,.p 3 0),(6,.d (.int .i64 a64))],[(1,.st false (eD (eMdl p0))),(2,.st false [.d .nils,.d .nils,.d .nils,.d .nils,.d .nils,.d .nils,.d .nils,.d .nils]),(3,.st false [.ls 36 0 j1.length,.ls 69 0 j2.length,.ls 86 0 (a63++([(p0.tables.getD a64.toNat default)]:List Lim)).length,.d .nils,.d .nils,.d .nils,.d .nils,.d .nils]),(36,.sl false 2 j1.length (fl eTyp j1)),(69,.sl false 3 j2.length (fl eFnc j2)),(86,.sl false 3 (a63++([(p0.tables.getD a64.toNat default)]:List Lim)).length (fl eLim (a63++([(p0.tables.getD a64.toNat default)]:List Lim))))]⟩ (And.intro (And.intro h65 (And.intro (litF eLim ([(p0.tables.getD a64.toNat default)]:List Lim)) (And.intro (Nat.le_refl a63.length) (And.intro h66 (And.intro (app1 eLim a63 (p0.tables.getD a64.toNat default) (fl eLim ([(p0.tables.getD a64.toNat default)]:List Lim)) rfl) True.intro))))) True.intro) (by kernel_rfl) ?_
     refine AW2.rg [] [1,2,3,6] [] [.k 1,.k 2,.k 3,.k 36,.k 69,.k 86] ⟨[(1,.p 1 0),(2,.p 2 0),(3,.p 3 0),(6,.d (.int .i64 (wI (a64+1))))],[(1,.st false (eD (eMdl p0))),(2,.st false [.d .nils,.d .nils,.d .nils,.d .nils,.d .nils,.d .nils,.d .nils,.d .nils]),(3,.st false [.ls 36 0 j1.length,.ls 69 0 j2.length,.ls 86 0 (a63++([(p0.tables.getD a64.toNat default)]:List Lim)).length,.d .nils,.d .nils,.d .nils,.d .nils,.d .nils]),(36,.sl false 2 j1.length (fl eTyp j1)),(69,.sl false 3 j2.length (fl eFnc j2)),(86,.sl false 3 (a63++([(p0.tables.getD a64.toNat default)]:List Lim)).length (fl eLim (a63++([(p0.tables.getD a64.toNat default)]:List Lim))))]⟩ (And.intro True.intro True.intro) (by kernel_rfl) ?_
     exact ⟨k,((a63++([(p0.tables.getD a64.toNat default)]:List Lim)),(wI (a64+1))),Nat.lt_succ_self k,H,zaV [1,2,3,6] [] [.k 1,.k 2,.k 3,.k 36,.k 69,.k 86] True.intro (by kernel_rfl)⟩
    ·replace H:=zaD H hc
     refine AW2.exit ?_
     have H:=Option.some.inj H
     subst H
     exact zaV [1,2,3] [] [.k 1,.k 2,.k 3,.k 36,.k 69,.k 86] True.intro (by kernel_rfl)
  ·have H:=H82
   refine AW2.seq ?_
   refine AW2.rg [] [1,2,3,5] [] [.k 1,.k 2,.k 3,.k 36] ⟨[(1,.p 1 0),(2,.p 2 0),(3,.p 3 0),(5,.d (.int .i64 0))],[(1,.st false (eD (eMdl p0))),(2,.st false [.d .nils,.d .nils,.d .nils,.d .nils,.d .nils,.d .nils,.d .nils,.d .nils]),(3,.st false [.ls 36 0 j1.length,.d .nils,.d .nils,.d .nils,.d .nils,.d .nils,.d .nils,.d .nils]),(36,.sl false 2 j1.length (fl eTyp j1))]⟩ (And.intro True.intro True.intro) (by kernel_rfl) ?_
   refine AW2.block ?_
   refine AW2.cv [.c 3 1 69 3 (fl eFnc ([]:List Fnc))] [1,2,3,5] [] [.k 1,.k 2,.k 3,.k 36,.k 69] ⟨[(1,.p 1 0),(2,.p 2 0),(3,.p 3 0),(5,.d (.int .i64 0))],[(1,.st false (eD (eMdl p0))),(2,.st false [.d .nils,.d .nils,.d .nils,.d .nils,.d .nils,.d .nils,.d .nils,.d .nils]),(3,.st false [.ls 36 0 j1.length,.ls 69 0 ([]:List Fnc).length,.d .nils,.d .nils,.d .nils,.d .nils,.d .nils,.d .nils]),(36,.sl false 2 j1.length (fl eTyp j1)),(69,.sl false 3 ([]:List Fnc).length (fl eFnc ([]:List Fnc)))]⟩ True.intro (by kernel_rfl) ?_
   refine AW2.lp (σ:=(List Fnc)×Int) (fun v => ⟨[(1,.p 1 0),(2,.p 2 0),(3,.p 3 0),(5,.d (.int .i64 v.2))],[(1,.st false (eD (eMdl p0))),(2,.st false [.d .nils,.d .nils,.d .nils,.d .nils,.d .nils,.d .nils,.d .nils,.d .nils]),(3,.st false [.ls 36 0 j1.length,.ls 69 0 v.1.length,.d .nils,.d .nils,.d .nils,.d .nils,.d .nils,.d .nils]),(36,.sl false 2 j1.length (fl eTyp j1)),(69,.sl false 3 v.1.length (fl eFnc v.1))]⟩) (fun k v => zaN k K p0 v.1 v.2=some j2) ?_ K (([]:List Fnc),0) H
   rintro k ⟨a71,a72⟩ H
   dsimp only at H
   cases k with
   | zero => cases H
   | succ k => 
   unfold zaN at H
   refine AW2.seq ?_
   refine AW2.seq ?_
   refine AW2.rg [] [1,2,3,5,42] [] [.k 1,.k 2,.k 3,.k 36,.k 69] ⟨[(1,.p 1 0),(2,.p 2 0),(3,.p 3 0),(5,.d (.int .i64 a72)),(42,.d (.bool (decide (a72<(p0.funcs.length:Int)))))],[(1,.st false (eD (eMdl p0))),(2,.st false [.d .nils,.d .nils,.d .nils,.d .nils,.d .nils,.d .nils,.d .nils,.d .nils]),(3,.st false [.ls 36 0 j1.length,.ls 69 0 a71.length,.d .nils,.d .nils,.d .nils,.d .nils,.d .nils,.d .nils]),(36,.sl false 2 j1.length (fl eTyp j1)),(69,.sl false 3 a71.length (fl eFnc a71))]⟩ (And.intro True.intro True.intro) (by kernel_rfl) ?_
   refine AW2.cond (b:=(decide (a72<(p0.funcs.length:Int)))) rfl (fun hc => ?_) (fun hc => ?_)
   ·replace H:=zaC H hc
    refine AW2.skip ?_
    refine AW2.seq ?_
    refine AW2.block ?_
    obtain ⟨h73,H⟩:=zae H
    obtain ⟨h74,H⟩:=zae H
    obtain ⟨x75,hx76,H⟩:=bind_some H
    obtain ⟨h77,H⟩:=zae H
    obtain ⟨x78,hx79,H⟩:=bind_some H
    obtain ⟨h80,H⟩:=zae H
    refine AW2.rg [.r (sV (eI .u8) x75),.r (sVI x78),.sb ([(Fnc.mk ((p0.funcs.getD a72.toNat default).type_) x75 x78)]:List Fnc).length (fl eFnc ([(Fnc.mk ((p0.funcs.getD a72.toNat default).type_) x75 x78)]:List Fnc)),.s true (a71++([(Fnc.mk ((p0.funcs.getD a72.toNat default).type_) x75 x78)]:List Fnc)).length (fl eFnc (a71++([(Fnc.mk ((p0.funcs.getD a72.toNat default).type_) x75 x78)]:List Fnc)))] [1,2,3,5] [] [.k 1,.k 2,.k 3,.k 36,.k 69] ⟨[(1,.p 1 0),(2,.p 2 0),(3,.p 3 0),(5,.d (.int .i64 a72))],[(1,.st false (eD (eMdl p0))),(2,.st false [.d .nils,.d .nils,.d .nils,.d .nils,.d .nils,.d .nils,.d .nils,.d .nils]),(3,.st false [.ls 36 0 j1.length,.ls 69 0 (a71++([(Fnc.mk ((p0.funcs.getD a72.toNat default).type_) x75 x78)]:List Fnc)).length,.d .nils,.d .nils,.d .nils,.d .nils,.d .nils,.d .nils]),(36,.sl false 2 j1.length (fl eTyp j1)),(69,.sl false 3 (a71++([(Fnc.mk ((p0.funcs.getD a72.toNat default).type_) x75 x78)]:List Fnc)).length (fl eFnc (a71++([(Fnc.mk ((p0.funcs.getD a72.toNat default).type_) x75 x78)]:List Fnc))))]⟩ (And.intro (And.intro h73 (And.intro h74 (And.intro (zeE K ((p0.funcs.getD a72.toNat default).locals) x75 hx76) (And.intro h77 (And.intro (zjn K ((p0.funcs.getD a72.toNat default).body) x78 hx79) (And.intro (litF eFnc ([(Fnc.mk ((p0.funcs.getD a72.toNat default).type_) x75 x78)]:List Fnc)) (And.intro (Nat.le_refl a71.length) (And.intro h80 (And.intro (app1 eFnc a71 (Fnc.mk ((p0.funcs.getD a72.toNat default).type_) x75 x78) (fl eFnc ([(Fnc.mk ((p0.funcs.getD a72.toNat default).type_) x75 x78)]:List Fnc)) rfl) True.intro))))))))) True.intro) (by kernel_rfl) ?_
    refine AW2.rg [] [1,2,3,5] [] [.k 1,.k 2,.k 3,.k 36,.k 69] ⟨[(1,.p 1 0),(2,.p 2 0),(3,.p 3 0),(5,.d (.int .i64 (wI (a72+1))))],[(1,.st false (eD (eMdl p0))),(2,.st false [.d .nils,.d .nils,.d .nils,.d .nils,.d .nils,.d .nils,.d .nils,.d .nils]),(3,.st false [.ls 36 0 j1.length,.ls 69 0 (a71++([(Fnc.mk ((p0.funcs.getD a72.toNat default).type_) x75 x78)]:List Fnc)).length,.d .nils,.d .nils,.d .nils,.d .nils,.d .nils,.d .nils]),(36,.sl false 2 j1.length (fl eTyp j1)),(69,.sl false 3 (a71++([(Fnc.mk ((p0.funcs.getD a72.toNat default).type_) x75 x78)]:List Fnc)).length (fl eFnc (a71++([(Fnc.mk ((p0.funcs.getD a72.toNat default).type_) x75 x78)]:List Fnc))))]⟩ (And.intro True.intro True.intro) (by kernel_rfl) ?_
    exact ⟨k,((a71++([(Fnc.mk ((p0.funcs.getD a72.toNat default).type_) x75 x78)]:List Fnc)),(wI (a72+1))),Nat.lt_succ_self k,H,zaV [1,2,3,5] [] [.k 1,.k 2,.k 3,.k 36,.k 69] True.intro (by kernel_rfl)⟩
   ·replace H:=zaD H hc
    refine AW2.exit ?_
    have H:=Option.some.inj H
    subst H
    exact zaV [1,2,3] [] [.k 1,.k 2,.k 3,.k 36,.k 69] True.intro (by kernel_rfl)
 ·have H:=H93
  refine AW2.seq ?_
  refine AW2.rg [] [1,2,3,4] [] [.k 1,.k 2,.k 3] ⟨[(1,.p 1 0),(2,.p 2 0),(3,.p 3 0),(4,.d (.int .i64 0))],[(1,.st false (eD (eMdl p0))),(2,.st false [.d .nils,.d .nils,.d .nils,.d .nils,.d .nils,.d .nils,.d .nils,.d .nils]),(3,.st false [.d .nils,.d .nils,.d .nils,.d .nils,.d .nils,.d .nils,.d .nils,.d .nils])]⟩ (And.intro True.intro True.intro) (by kernel_rfl) ?_
  refine AW2.block ?_
  refine AW2.cv [.c 3 0 36 2 (fl eTyp ([]:List Typ))] [1,2,3,4] [] [.k 1,.k 2,.k 3,.k 36] ⟨[(1,.p 1 0),(2,.p 2 0),(3,.p 3 0),(4,.d (.int .i64 0))],[(1,.st false (eD (eMdl p0))),(2,.st false [.d .nils,.d .nils,.d .nils,.d .nils,.d .nils,.d .nils,.d .nils,.d .nils]),(3,.st false [.ls 36 0 ([]:List Typ).length,.d .nils,.d .nils,.d .nils,.d .nils,.d .nils,.d .nils,.d .nils]),(36,.sl false 2 ([]:List Typ).length (fl eTyp ([]:List Typ)))]⟩ True.intro (by kernel_rfl) ?_
  refine AW2.lp (σ:=(List Typ)×Int) (fun v => ⟨[(1,.p 1 0),(2,.p 2 0),(3,.p 3 0),(4,.d (.int .i64 v.2))],[(1,.st false (eD (eMdl p0))),(2,.st false [.d .nils,.d .nils,.d .nils,.d .nils,.d .nils,.d .nils,.d .nils,.d .nils]),(3,.st false [.ls 36 0 v.1.length,.d .nils,.d .nils,.d .nils,.d .nils,.d .nils,.d .nils,.d .nils]),(36,.sl false 2 v.1.length (fl eTyp v.1))]⟩) (fun k v => zaM k K p0 v.1 v.2=some j1) ?_ K (([]:List Typ),0) H
  rintro k ⟨a85,a86⟩ H
  dsimp only at H
  cases k with
  | zero => cases H
  | succ k => 
  unfold zaM at H
  refine AW2.seq ?_
  refine AW2.seq ?_
  refine AW2.rg [] [1,2,3,4,16] [] [.k 1,.k 2,.k 3,.k 36] ⟨[(1,.p 1 0),(2,.p 2 0),(3,.p 3 0),(4,.d (.int .i64 a86)),(16,.d (.bool (decide (a86<(p0.types.length:Int)))))],[(1,.st false (eD (eMdl p0))),(2,.st false [.d .nils,.d .nils,.d .nils,.d .nils,.d .nils,.d .nils,.d .nils,.d .nils]),(3,.st false [.ls 36 0 a85.length,.d .nils,.d .nils,.d .nils,.d .nils,.d .nils,.d .nils,.d .nils]),(36,.sl false 2 a85.length (fl eTyp a85))]⟩ (And.intro True.intro True.intro) (by kernel_rfl) ?_
  refine AW2.cond (b:=(decide (a86<(p0.types.length:Int)))) rfl (fun hc => ?_) (fun hc => ?_)
  ·replace H:=zaC H hc
   refine AW2.skip ?_
   refine AW2.seq ?_
   refine AW2.block ?_
   obtain ⟨h87,H⟩:=zae H
   obtain ⟨x88,hx89,H⟩:=bind_some H
   obtain ⟨h90,H⟩:=zae H
   obtain ⟨h91,H⟩:=zae H
   refine AW2.rg [.r (sV (eI .u8) x88),.sb ([(Typ.mk x88 ((p0.types.getD a86.toNat default).result))]:List Typ).length (fl eTyp ([(Typ.mk x88 ((p0.types.getD a86.toNat default).result))]:List Typ)),.s true (a85++([(Typ.mk x88 ((p0.types.getD a86.toNat default).result))]:List Typ)).length (fl eTyp (a85++([(Typ.mk x88 ((p0.types.getD a86.toNat default).result))]:List Typ)))] [1,2,3,4] [] [.k 1,.k 2,.k 3,.k 36] ⟨[(1,.p 1 0),(2,.p 2 0),(3,.p 3 0),(4,.d (.int .i64 a86))],[(1,.st false (eD (eMdl p0))),(2,.st false [.d .nils,.d .nils,.d .nils,.d .nils,.d .nils,.d .nils,.d .nils,.d .nils]),(3,.st false [.ls 36 0 (a85++([(Typ.mk x88 ((p0.types.getD a86.toNat default).result))]:List Typ)).length,.d .nils,.d .nils,.d .nils,.d .nils,.d .nils,.d .nils,.d .nils]),(36,.sl false 2 (a85++([(Typ.mk x88 ((p0.types.getD a86.toNat default).result))]:List Typ)).length (fl eTyp (a85++([(Typ.mk x88 ((p0.types.getD a86.toNat default).result))]:List Typ))))]⟩ (And.intro (And.intro h87 (And.intro (zeE K ((p0.types.getD a86.toNat default).params) x88 hx89) (And.intro h90 (And.intro (litF eTyp ([(Typ.mk x88 ((p0.types.getD a86.toNat default).result))]:List Typ)) (And.intro (Nat.le_refl a85.length) (And.intro h91 (And.intro (app1 eTyp a85 (Typ.mk x88 ((p0.types.getD a86.toNat default).result)) (fl eTyp ([(Typ.mk x88 ((p0.types.getD a86.toNat default).result))]:List Typ)) rfl) True.intro))))))) True.intro) (by kernel_rfl) ?_
   refine AW2.rg [] [1,2,3,4] [] [.k 1,.k 2,.k 3,.k 36] ⟨[(1,.p 1 0),(2,.p 2 0),(3,.p 3 0),(4,.d (.int .i64 (wI (a86+1))))],[(1,.st false (eD (eMdl p0))),(2,.st false [.d .nils,.d .nils,.d .nils,.d .nils,.d .nils,.d .nils,.d .nils,.d .nils]),(3,.st false [.ls 36 0 (a85++([(Typ.mk x88 ((p0.types.getD a86.toNat default).result))]:List Typ)).length,.d .nils,.d .nils,.d .nils,.d .nils,.d .nils,.d .nils,.d .nils]),(36,.sl false 2 (a85++([(Typ.mk x88 ((p0.types.getD a86.toNat default).result))]:List Typ)).length (fl eTyp (a85++([(Typ.mk x88 ((p0.types.getD a86.toNat default).result))]:List Typ))))]⟩ (And.intro True.intro True.intro) (by kernel_rfl) ?_
   exact ⟨k,((a85++([(Typ.mk x88 ((p0.types.getD a86.toNat default).result))]:List Typ)),(wI (a86+1))),Nat.lt_succ_self k,H,zaV [1,2,3,4] [] [.k 1,.k 2,.k 3,.k 36] True.intro (by kernel_rfl)⟩
  ·replace H:=zaD H hc
   refine AW2.exit ?_
   have H:=Option.some.inj H
   subst H
   exact zaV [1,2,3] [] [.k 1,.k 2,.k 3,.k 36] True.intro (by kernel_rfl)
theorem znJ {ρ ρ':Rho} {k k' lo n:Nat} {v:AV} (e:ρ' k'=ρ k) (h:RL ρ (.ls k lo n) v):RL ρ' (.ls k' lo n) v:=by
 cases h with
 | ls _ _ _ κ h => exact .ls _ _ _ κ (by rw [e]; exact h)
 | ls0 _ _ h => exact .ls0 _ _ (by rw [e]; exact h)
theorem zyA {ρ ρ':Rho} {h:Hp} {k k':Nat} {ro:Bool} {esz n:Nat} {f:Nat→List FV} (e:ρ' k'=ρ k) (r:RO ρ h k (.sl ro esz n f)):RO ρ' h k' (.sl ro esz n f):=by
 rcases r with ⟨κ,es,h1,h2⟩ | ⟨h1,h2⟩
 ·exact .inl ⟨κ,es,by rw [e]; exact h1,h2⟩
 ·exact .inr ⟨by rw [e]; exact h1,h2⟩
theorem lkO_mem:∀ {l:List (Nat×Ob)} {k:Nat} {o:Ob},lkO l k=some o→∃ q,(q,o)∈l
 | [],k,o,h => by cases h
 | (q,p) :: l,k,o,h => by
  simp only [lkO] at h
  cases e:Nat.beq k q with
  | true => 
   rw [e,cond_true] at h
   obtain rfl:=Option.some.inj h
   exact ⟨q,List.mem_cons_self⟩
  | false => 
   rw [e,cond_false] at h
   obtain ⟨q',h'⟩:=lkO_mem h
   exact ⟨q',List.mem_cons_of_mem _ h'⟩
def shH (c:Nat) (l:List (Nat×Ob)):List (Nat×Ob):=l.map fun p => (c+p.1,p.2)
theorem shH_lk (c:Nat):∀ (l:List (Nat×Ob)) (k:Nat) (o:Ob),lkO (shH c l) k=some o→c≤k∧lkO l (k - c)=some o
 | [],k,o,h => by cases h
 | (q,p) :: l,k,o,h => by
  simp only [shH,List.map_cons,lkO] at h
  cases e:Nat.beq k (c+q) with
  | true => 
   rw [e,cond_true] at h
   have e':=Nat.eq_of_beq_eq_true e
   subst e'
   refine ⟨Nat.le_add_right _ _,?_⟩
   rw [Nat.add_sub_cancel_left]
   simp only [lkO,beqT,cond_true]; exact h
  | false => 
   rw [e,cond_false] at h
   obtain ⟨h1,h2⟩:=shH_lk c l k o h
   refine ⟨h1,?_⟩
   simp only [lkO]
   have:Nat.beq (k - c) q=false:=by
    cases e2:Nat.beq (k - c) q with
    | false => rfl
    | true => 
     have:=Nat.eq_of_beq_eq_true e2
     have:k=c+q:=by omega
     rw [this,beqT] at e; cases e
   rw [this,cond_false]; exact h2
theorem zdH (c K:Nat) (p0:Mdl) (r:Mdl) (H:zaF K p0=some r):CM E 3 [.agg (eD (eMdl p0))] [] [c+36,c+69,c+86,c+103,c+135,c+152,c+184,c+216] [] (fun a b => a=.agg [.ls (c+36) 0 r.types.length,.ls (c+69) 0 r.funcs.length,.ls (c+86) 0 r.tables.length,.ls (c+103) 0 r.memories.length,.ls (c+135) 0 r.globals.length,.ls (c+152) 0 r.exports.length,.ls (c+184) 0 r.elems.length,.ls (c+216) 0 r.datas.length]∧b=[(c+36,.sl false 2 r.types.length (fl eTyp r.types)),(c+69,.sl false 3 r.funcs.length (fl eFnc r.funcs)),(c+86,.sl false 3 r.tables.length (fl eLim r.tables)),(c+103,.sl false 3 r.memories.length (fl eLim r.memories)),(c+135,.sl false 10 r.globals.length (fl eGlo r.globals)),(c+152,.sl false 3 r.exports.length (fl eXpo r.exports)),(c+184,.sl false 10 r.elems.length (fl eEle r.elems)),(c+216,.sl false 10 r.datas.length (fl eDat r.datas))]):=by
 intro ρ h0 n0 al hO hinj hlt hr hrows
 refine (zkA K p0 r H ρ h0 n0 al hO hinj hlt hr hrows).mono ?_
 rintro rv h2 n2 ⟨⟨lv,H',ρ2,⟨rfl,rfl⟩,q1,q2,q3,q4,q5,q6,q7,q8⟩,q9,q10,q11⟩
 refine ⟨⟨_,_,fun k => ρ2 (k - c),⟨rfl,rfl⟩,?_,?_,?_,fun k o ho => ?_,fun k k' κ a b ea eb => ?_,fun k κ a ea => ?_,fun k κ a ea => ?_,fun k hk => by cases hk⟩,q9,q10,q11⟩
 ·simp [inK,inKL]
 ·simp [inKH]
 ·cases q3 with
  | agg cs cs' hl hc => 
   refine .agg _ _ hl fun i hi => ?_
   have hi':i<8:=hi
   have:=hc i hi
   match i,hi' with
   | 0,_ => exact znJ (k:=36) (by show ρ2 (c+36 - c)=_; rw [Nat.add_sub_cancel_left]) this
   | 1,_ => exact znJ (k:=69) (by show ρ2 (c+69 - c)=_; rw [Nat.add_sub_cancel_left]) this
   | 2,_ => exact znJ (k:=86) (by show ρ2 (c+86 - c)=_; rw [Nat.add_sub_cancel_left]) this
   | 3,_ => exact znJ (k:=103) (by show ρ2 (c+103 - c)=_; rw [Nat.add_sub_cancel_left]) this
   | 4,_ => exact znJ (k:=135) (by show ρ2 (c+135 - c)=_; rw [Nat.add_sub_cancel_left]) this
   | 5,_ => exact znJ (k:=152) (by show ρ2 (c+152 - c)=_; rw [Nat.add_sub_cancel_left]) this
   | 6,_ => exact znJ (k:=184) (by show ρ2 (c+184 - c)=_; rw [Nat.add_sub_cancel_left]) this
   | 7,_ => exact znJ (k:=216) (by show ρ2 (c+216 - c)=_; rw [Nat.add_sub_cancel_left]) this
 ·obtain ⟨h1,h3⟩:=shH_lk c [(36,.sl false 2 r.types.length (fl eTyp r.types)),(69,.sl false 3 r.funcs.length (fl eFnc r.funcs)),(86,.sl false 3 r.tables.length (fl eLim r.tables)),(103,.sl false 3 r.memories.length (fl eLim r.memories)),(135,.sl false 10 r.globals.length (fl eGlo r.globals)),(152,.sl false 3 r.exports.length (fl eXpo r.exports)),(184,.sl false 10 r.elems.length (fl eEle r.elems)),(216,.sl false 10 r.datas.length (fl eDat r.datas))] k o ho
  have h4:=q4 _ _ h3
  cases o with
  | sl ro esz n f => exact zyA rfl h4
  | st ro cs => 
   obtain ⟨q,hq⟩:=lkO_mem h3
   simp at hq
 ·obtain ⟨o,ho⟩:=Option.isSome_iff_exists.1 a
  obtain ⟨o',ho'⟩:=Option.isSome_iff_exists.1 b
  obtain ⟨h1,h3⟩:=shH_lk c [(36,.sl false 2 r.types.length (fl eTyp r.types)),(69,.sl false 3 r.funcs.length (fl eFnc r.funcs)),(86,.sl false 3 r.tables.length (fl eLim r.tables)),(103,.sl false 3 r.memories.length (fl eLim r.memories)),(135,.sl false 10 r.globals.length (fl eGlo r.globals)),(152,.sl false 3 r.exports.length (fl eXpo r.exports)),(184,.sl false 10 r.elems.length (fl eEle r.elems)),(216,.sl false 10 r.datas.length (fl eDat r.datas))] k o ho
  obtain ⟨h1',h3'⟩:=shH_lk c [(36,.sl false 2 r.types.length (fl eTyp r.types)),(69,.sl false 3 r.funcs.length (fl eFnc r.funcs)),(86,.sl false 3 r.tables.length (fl eLim r.tables)),(103,.sl false 3 r.memories.length (fl eLim r.memories)),(135,.sl false 10 r.globals.length (fl eGlo r.globals)),(152,.sl false 3 r.exports.length (fl eXpo r.exports)),(184,.sl false 10 r.elems.length (fl eEle r.elems)),(216,.sl false 10 r.datas.length (fl eDat r.datas))] k' o' ho'
  have:=q5 (k - c) (k' - c) κ (by rw [h3]; rfl) (by rw [h3']; rfl) ea eb
  omega
 ·obtain ⟨o,ho⟩:=Option.isSome_iff_exists.1 a
  obtain ⟨h1,h3⟩:=shH_lk c [(36,.sl false 2 r.types.length (fl eTyp r.types)),(69,.sl false 3 r.funcs.length (fl eFnc r.funcs)),(86,.sl false 3 r.tables.length (fl eLim r.tables)),(103,.sl false 3 r.memories.length (fl eLim r.memories)),(135,.sl false 10 r.globals.length (fl eGlo r.globals)),(152,.sl false 3 r.exports.length (fl eXpo r.exports)),(184,.sl false 10 r.elems.length (fl eEle r.elems)),(216,.sl false 10 r.datas.length (fl eDat r.datas))] k o ho
  exact q6 (k - c) κ (by rw [h3]; rfl) ea
 ·obtain ⟨o,ho⟩:=Option.isSome_iff_exists.1 a
  obtain ⟨h1,h3⟩:=shH_lk c [(36,.sl false 2 r.types.length (fl eTyp r.types)),(69,.sl false 3 r.funcs.length (fl eFnc r.funcs)),(86,.sl false 3 r.tables.length (fl eLim r.tables)),(103,.sl false 3 r.memories.length (fl eLim r.memories)),(135,.sl false 10 r.globals.length (fl eGlo r.globals)),(152,.sl false 3 r.exports.length (fl eXpo r.exports)),(184,.sl false 10 r.elems.length (fl eEle r.elems)),(216,.sl false 10 r.datas.length (fl eDat r.datas))] k o ho
  exact q7 (k - c) κ (by rw [h3]; rfl) ea
end Go.Proofs.YtablleokoifolaaGreatDoor
