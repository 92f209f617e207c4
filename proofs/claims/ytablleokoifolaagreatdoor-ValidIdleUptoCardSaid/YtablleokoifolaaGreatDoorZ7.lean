/- Part 7 of the proof that ValidIdleUptoCardSaid: for every input that fits the row the law answers true and its arguments read as before, over the world as the row lays it. -/
import Derived.Test.YtablleokoifolaaGreatDoorZ6
import Derived.Deep.Slices
import Derived.ChangeShapes
import Derived.RowKit
import Derived.ChangeSame
import Derived.Test.YtablleokoifolaaGreatDoorCards
import Derived.Test.YtablleokoifolaaGreatDoorTie
import Derived.WideShapes
import Derived.LaidLaws
import Derived.LaidHandle
import Derived.OpenShut
import Derived.Deep.DeepHandedRow
import Derived.FnData
import Derived.Test.YtablleokoifolaaGreatDoorRows
set_option linter.unusedVariables false
set_option maxRecDepth 100000
set_option maxHeartbeats 4000000
namespace Go.Proofs.YtablleokoifolaaGreatDoor
open Go
def zcX (K:Nat) (p0:List Int) (p1:Int) (p2:List Instr):Option (Bool):=((zec p0 p1 p2).bind fun x1 => ((zcb K x1).bind fun x3 => (if x3=true then ((zdS).bind fun x5 => some x5) else ((zaF K x1).bind fun x7 => ((zcE K x7 0).bind fun x9 => ((zhD x9).bind fun x11 => gd (([(Instr.mk 1 0 0 0 0 ([]:List Instr) ([]:List Instr) ([]:List Int)),(Instr.mk 66 5 0 0 0 ([]:List Instr) ([]:List Instr) ([]:List Int)),(Instr.mk 26 0 0 0 0 ([]:List Instr) ([]:List Instr) ([]:List Int))]:List Instr).length * 104≤140737488355328) (gd (0≤(0:Int)∧(0:Int)<(x7.funcs.length:Int)) (gd ((([(Instr.mk 1 0 0 0 0 ([]:List Instr) ([]:List Instr) ([]:List Int)),(Instr.mk 66 5 0 0 0 ([]:List Instr) ([]:List Instr) ([]:List Int)),(Instr.mk 26 0 0 0 0 ([]:List Instr) ([]:List Instr) ([]:List Int))]:List Instr).length+((x7.funcs.getD ((0:Int).toNat) default).body).length) * 104≤140737488355328) ((zaF K x1).bind fun x16 => gd (0≤(0:Int)∧(0:Int)<(x16.funcs.length:Int)) ((zcE K (Mdl.mk x16.types (List.set x16.funcs ((0:Int).toNat) (Fnc.mk ((x16.funcs.getD ((0:Int).toNat) default).type_) ((x16.funcs.getD ((0:Int).toNat) default).locals) (([(Instr.mk 1 0 0 0 0 ([]:List Instr) ([]:List Instr) ([]:List Int)),(Instr.mk 66 5 0 0 0 ([]:List Instr) ([]:List Instr) ([]:List Int)),(Instr.mk 26 0 0 0 0 ([]:List Instr) ([]:List Instr) ([]:List Int))]:List Instr)++(x7.funcs.getD ((0:Int).toNat) default).body))) x16.tables x16.memories x16.globals x16.exports x16.elems x16.datas) 0).bind fun x19 => ((zhD x19).bind fun x21 => (if (x21 != x11)=true then some false else (if (x11 != (0:Int))=true then ((zdS).bind fun x23 => some x23) else ((zaF K x1).bind fun x25 => ((zaF K x1).bind fun x27 => gd (0≤(0:Int)∧(0:Int)<(x27.funcs.length:Int)) (gd (0≤(0:Int)∧(0:Int)<(x25.funcs.length:Int)) ((zbA K x7 0).bind fun x31 => ((zbA K (Mdl.mk x25.types (List.set x25.funcs ((0:Int).toNat) (Fnc.mk ((x25.funcs.getD ((0:Int).toNat) default).type_) ((x25.funcs.getD ((0:Int).toNat) default).locals) ([(Instr.mk 2 0 0 0 p1 ((x27.funcs.getD (0:Int).toNat default).body) ([]:List Instr) ([]:List Int))]:List Instr))) x25.tables x25.memories x25.globals x25.exports x25.elems x25.datas) 0).bind fun x33 => ((zbA K (Mdl.mk x16.types (List.set x16.funcs ((0:Int).toNat) (Fnc.mk ((x16.funcs.getD ((0:Int).toNat) default).type_) ((x16.funcs.getD ((0:Int).toNat) default).locals) (([(Instr.mk 1 0 0 0 0 ([]:List Instr) ([]:List Instr) ([]:List Int)),(Instr.mk 66 5 0 0 0 ([]:List Instr) ([]:List Instr) ([]:List Int)),(Instr.mk 26 0 0 0 0 ([]:List Instr) ([]:List Instr) ([]:List Int))]:List Instr)++(x7.funcs.getD ((0:Int).toNat) default).body))) x16.tables x16.memories x16.globals x16.exports x16.elems x16.datas) 0).bind fun x35 => (if (p1 != (0:Int))=true then some 1 else some 0).bind (fun j37 => (if x31.2.isNone=true then (if x33.2.isNone=true then (if x35.2.isNone=true then (if (x33.1==(mxI x31.1 j37))=true then (if (x35.1==(mxI x31.1 1))=true then ((zdS).bind fun x38 => some x38) else some false) else some false) else some false) else some false) else some false).bind (fun j40 => some j40)))))))))))))))))))))
theorem zmz (K:Nat) (p0:List Int) (p1:Int) (p2:List Instr) (r:Bool) (H:zcX K p0 p1 p2=some r):CF E 12 [sV (eI .u8) p0,.int .u8 p1,sVI p2] (.bool r):=by
 refine zfZ (A:=zhz) zlR rfl fun fr => ?_
 unfold zcX at H
 refine AW2.seq ?_
 refine r_ [] [0,1,2] [] [] ⟨[(0,.d (sV (eI .u8) p0)),(1,.d (.int .u8 p1)),(2,.d (sVI p2))],[]⟩ (a_ t_ t_) ?_
 refine AW2.seq ?_
 obtain ⟨x1,hx2,H⟩:=bind_some H
 refine r_ [.r (.agg (eMdl x1)),.k 7] [1,7] [] [.k 7] ⟨[(1,.d (.int .u8 p1)),(7,.p 7 0)],[(7,.st false (eD (eMdl x1)))]⟩ (a_ (a_ (ztz p0 p1 p2 x1 hx2) t_) t_) ?_
 refine AW2.seq ?_
 refine AW2.seq ?_
 obtain ⟨x3,hx4,H⟩:=bind_some H
 refine r_ [.r (.bool x3)] [1,7,25] [] [.k 7] ⟨[(1,.d (.int .u8 p1)),(7,.p 7 0),(25,.d (.bool x3))],[(7,.st false (eD (eMdl x1)))]⟩ (a_ (a_ (zmy K x1 x3 hx4) t_) t_) ?_
 refine AW2.cond (b:=x3) rfl (fun hc => ?_) (fun hc => ?_)
 ·replace H:=zaC H hc
  refine AW2.seq ?_
  obtain ⟨x5,hx6,H⟩:=bind_some H
  refine r_ [.r (.bool x5)] [6] [] [] ⟨[(6,.d (.bool x5))],[]⟩ (a_ (a_ (zjm x5 hx6) t_) t_) ?_
  refine AW2.ret ?_
  have H:=Option.some.inj H
  subst H
  exact retP_mk2 t_ (by kernel_rfl)
 ·replace H:=zaD H hc
  refine AW2.skip ?_
  refine AW2.seq ?_
  obtain ⟨x7,hx8,H⟩:=bind_some H
  refine r_ [.c [] [1036,1069,1086,1103,1135,1152,1184,1216] [] (.agg [.ls 1036 0 x7.types.length,.ls 1069 0 x7.funcs.length,.ls 1086 0 x7.tables.length,.ls 1103 0 x7.memories.length,.ls 1135 0 x7.globals.length,.ls 1152 0 x7.exports.length,.ls 1184 0 x7.elems.length,.ls 1216 0 x7.datas.length]) [(1036,.sl false 2 x7.types.length (fl eTyp x7.types)),(1069,.sl false 3 x7.funcs.length (fl eFnc x7.funcs)),(1086,.sl false 3 x7.tables.length (fl eLim x7.tables)),(1103,.sl false 3 x7.memories.length (fl eLim x7.memories)),(1135,.sl false 10 x7.globals.length (fl eGlo x7.globals)),(1152,.sl false 3 x7.exports.length (fl eXpo x7.exports)),(1184,.sl false 10 x7.elems.length (fl eEle x7.elems)),(1216,.sl false 10 x7.datas.length (fl eDat x7.datas))],.k 8] [1,7,8] [] [.k 7,.k 8,.k 1036,.k 1069,.k 1086,.k 1103,.k 1135,.k 1152,.k 1184,.k 1216] ⟨[(1,.d (.int .u8 p1)),(7,.p 7 0),(8,.p 8 0)],[(7,.st false (eD (eMdl x1))),(8,.st false [.ls 1036 0 x7.types.length,.ls 1069 0 x7.funcs.length,.ls 1086 0 x7.tables.length,.ls 1103 0 x7.memories.length,.ls 1135 0 x7.globals.length,.ls 1152 0 x7.exports.length,.ls 1184 0 x7.elems.length,.ls 1216 0 x7.datas.length]),(1036,.sl false 2 x7.types.length (fl eTyp x7.types)),(1069,.sl false 3 x7.funcs.length (fl eFnc x7.funcs)),(1086,.sl false 3 x7.tables.length (fl eLim x7.tables)),(1103,.sl false 3 x7.memories.length (fl eLim x7.memories)),(1135,.sl false 10 x7.globals.length (fl eGlo x7.globals)),(1152,.sl false 3 x7.exports.length (fl eXpo x7.exports)),(1184,.sl false 10 x7.elems.length (fl eEle x7.elems)),(1216,.sl false 10 x7.datas.length (fl eDat x7.datas))]⟩ (a_ (a_ (zdH 1000 K x1 x7 hx8) t_) t_) ?_
  refine AW2.seq ?_
  obtain ⟨x9,hx10,H⟩:=bind_some H
  obtain ⟨x11,hx12,H⟩:=bind_some H
  refine r_ [.r (.err 45 x9),.r (.int .i64 x11)] [1,7,8,9] [] [.k 7,.k 8,.k 1036,.k 1069,.k 1086,.k 1103,.k 1135,.k 1152,.k 1184,.k 1216] ⟨[(1,.d (.int .u8 p1)),(7,.p 7 0),(8,.p 8 0),(9,.d (.int .i64 x11))],[(7,.st false (eD (eMdl x1))),(8,.st false [.ls 1036 0 x7.types.length,.ls 1069 0 x7.funcs.length,.ls 1086 0 x7.tables.length,.ls 1103 0 x7.memories.length,.ls 1135 0 x7.globals.length,.ls 1152 0 x7.exports.length,.ls 1184 0 x7.elems.length,.ls 1216 0 x7.datas.length]),(1036,.sl true 2 x7.types.length (fl eTyp x7.types)),(1069,.sl true 3 x7.funcs.length (fl eFnc x7.funcs)),(1086,.sl true 3 x7.tables.length (fl eLim x7.tables)),(1103,.sl true 3 x7.memories.length (fl eLim x7.memories)),(1135,.sl true 10 x7.globals.length (fl eGlo x7.globals)),(1152,.sl true 3 x7.exports.length (fl eXpo x7.exports)),(1184,.sl true 10 x7.elems.length (fl eEle x7.elems)),(1216,.sl true 10 x7.datas.length (fl eDat x7.datas))]⟩ (a_ (a_ (Nat.le_refl x7.types.length) (a_ (dfl eTyp zko x7.types) (a_ (Nat.le_refl x7.funcs.length) (a_ (dfl eFnc zkq x7.funcs) (a_ (Nat.le_refl x7.tables.length) (a_ (dfl eLim zdF x7.tables) (a_ (Nat.le_refl x7.memories.length) (a_ (dfl eLim zdF x7.memories) (a_ (Nat.le_refl x7.globals.length) (a_ (dfl eGlo zkp x7.globals) (a_ (Nat.le_refl x7.exports.length) (a_ (dfl eXpo zkn x7.exports) (a_ (Nat.le_refl x7.elems.length) (a_ (dfl eEle zkr x7.elems) (a_ (Nat.le_refl x7.datas.length) (a_ (dfl eDat zks x7.datas) (a_ (znK K x7 0 x9 hx10) (a_ (zqQ x9 x11 hx12) t_)))))))))))))))))) t_) ?_
  refine AW2.seq ?_
  refine r_ [] [1,7,8,9,10] [] [.k 7,.k 8,.k 1036,.k 1069,.k 1086,.k 1103,.k 1135,.k 1152,.k 1184,.k 1216] ⟨[(1,.d (.int .u8 p1)),(7,.p 7 0),(8,.p 8 0),(9,.d (.int .i64 x11)),(10,.d .nils)],[(7,.st false (eD (eMdl x1))),(8,.st false [.ls 1036 0 x7.types.length,.ls 1069 0 x7.funcs.length,.ls 1086 0 x7.tables.length,.ls 1103 0 x7.memories.length,.ls 1135 0 x7.globals.length,.ls 1152 0 x7.exports.length,.ls 1184 0 x7.elems.length,.ls 1216 0 x7.datas.length]),(1036,.sl true 2 x7.types.length (fl eTyp x7.types)),(1069,.sl true 3 x7.funcs.length (fl eFnc x7.funcs)),(1086,.sl true 3 x7.tables.length (fl eLim x7.tables)),(1103,.sl true 3 x7.memories.length (fl eLim x7.memories)),(1135,.sl true 10 x7.globals.length (fl eGlo x7.globals)),(1152,.sl true 3 x7.exports.length (fl eXpo x7.exports)),(1184,.sl true 10 x7.elems.length (fl eEle x7.elems)),(1216,.sl true 10 x7.datas.length (fl eDat x7.datas))]⟩ (a_ t_ t_) ?_
  refine AW2.seq ?_
  obtain ⟨h13,H⟩:=zae H
  obtain ⟨h14,H⟩:=zae H
  obtain ⟨h15,H⟩:=zae H
  refine r_ [.sb ([(Instr.mk 1 0 0 0 0 ([]:List Instr) ([]:List Instr) ([]:List Int)),(Instr.mk 66 5 0 0 0 ([]:List Instr) ([]:List Instr) ([]:List Int)),(Instr.mk 26 0 0 0 0 ([]:List Instr) ([]:List Instr) ([]:List Int))]:List Instr).length (flI ([(Instr.mk 1 0 0 0 0 ([]:List Instr) ([]:List Instr) ([]:List Int)),(Instr.mk 66 5 0 0 0 ([]:List Instr) ([]:List Instr) ([]:List Int)),(Instr.mk 26 0 0 0 0 ([]:List Instr) ([]:List Instr) ([]:List Int))]:List Instr)),.ks false 37 ([(Instr.mk 1 0 0 0 0 ([]:List Instr) ([]:List Instr) ([]:List Int)),(Instr.mk 66 5 0 0 0 ([]:List Instr) ([]:List Instr) ([]:List Int)),(Instr.mk 26 0 0 0 0 ([]:List Instr) ([]:List Instr) ([]:List Int))]:List Instr).length (flI ([(Instr.mk 1 0 0 0 0 ([]:List Instr) ([]:List Instr) ([]:List Int)),(Instr.mk 66 5 0 0 0 ([]:List Instr) ([]:List Instr) ([]:List Int)),(Instr.mk 26 0 0 0 0 ([]:List Instr) ([]:List Instr) ([]:List Int))]:List Instr)),.s false (([(Instr.mk 1 0 0 0 0 ([]:List Instr) ([]:List Instr) ([]:List Int)),(Instr.mk 66 5 0 0 0 ([]:List Instr) ([]:List Instr) ([]:List Int)),(Instr.mk 26 0 0 0 0 ([]:List Instr) ([]:List Instr) ([]:List Int))]:List Instr)++(x7.funcs.getD ((0:Int).toNat) default).body).length (flI (([(Instr.mk 1 0 0 0 0 ([]:List Instr) ([]:List Instr) ([]:List Int)),(Instr.mk 66 5 0 0 0 ([]:List Instr) ([]:List Instr) ([]:List Int)),(Instr.mk 26 0 0 0 0 ([]:List Instr) ([]:List Instr) ([]:List Int))]:List Instr)++(x7.funcs.getD ((0:Int).toNat) default).body))] [1,7,8,9,10] [] [.k 7,.k 8,.k 37,.k 1036,.k 1069,.k 1086,.k 1103,.k 1135,.k 1152,.k 1184,.k 1216] ⟨[(1,.d (.int .u8 p1)),(7,.p 7 0),(8,.p 8 0),(9,.d (.int .i64 x11)),(10,.ls 37 0 (([(Instr.mk 1 0 0 0 0 ([]:List Instr) ([]:List Instr) ([]:List Int)),(Instr.mk 66 5 0 0 0 ([]:List Instr) ([]:List Instr) ([]:List Int)),(Instr.mk 26 0 0 0 0 ([]:List Instr) ([]:List Instr) ([]:List Int))]:List Instr)++(x7.funcs.getD ((0:Int).toNat) default).body).length)],[(7,.st false (eD (eMdl x1))),(8,.st false [.ls 1036 0 x7.types.length,.ls 1069 0 x7.funcs.length,.ls 1086 0 x7.tables.length,.ls 1103 0 x7.memories.length,.ls 1135 0 x7.globals.length,.ls 1152 0 x7.exports.length,.ls 1184 0 x7.elems.length,.ls 1216 0 x7.datas.length]),(37,.sl false 8 (([(Instr.mk 1 0 0 0 0 ([]:List Instr) ([]:List Instr) ([]:List Int)),(Instr.mk 66 5 0 0 0 ([]:List Instr) ([]:List Instr) ([]:List Int)),(Instr.mk 26 0 0 0 0 ([]:List Instr) ([]:List Instr) ([]:List Int))]:List Instr)++(x7.funcs.getD ((0:Int).toNat) default).body).length (flI (([(Instr.mk 1 0 0 0 0 ([]:List Instr) ([]:List Instr) ([]:List Int)),(Instr.mk 66 5 0 0 0 ([]:List Instr) ([]:List Instr) ([]:List Int)),(Instr.mk 26 0 0 0 0 ([]:List Instr) ([]:List Instr) ([]:List Int))]:List Instr)++(x7.funcs.getD ((0:Int).toNat) default).body))),(1036,.sl true 2 x7.types.length (fl eTyp x7.types)),(1069,.sl true 3 x7.funcs.length (fl eFnc x7.funcs)),(1086,.sl true 3 x7.tables.length (fl eLim x7.tables)),(1103,.sl true 3 x7.memories.length (fl eLim x7.memories)),(1135,.sl true 10 x7.globals.length (fl eGlo x7.globals)),(1152,.sl true 3 x7.exports.length (fl eXpo x7.exports)),(1184,.sl true 10 x7.elems.length (fl eEle x7.elems)),(1216,.sl true 10 x7.datas.length (fl eDat x7.datas))]⟩ (a_ (a_ (litI ([(Instr.mk 1 0 0 0 0 ([]:List Instr) ([]:List Instr) ([]:List Int)),(Instr.mk 66 5 0 0 0 ([]:List Instr) ([]:List Instr) ([]:List Int)),(Instr.mk 26 0 0 0 0 ([]:List Instr) ([]:List Instr) ([]:List Int))]:List Instr)) (a_ (lclI ([(Instr.mk 1 0 0 0 0 ([]:List Instr) ([]:List Instr) ([]:List Int)),(Instr.mk 66 5 0 0 0 ([]:List Instr) ([]:List Instr) ([]:List Int)),(Instr.mk 26 0 0 0 0 ([]:List Instr) ([]:List Instr) ([]:List Int))]:List Instr)) (a_ h13 (a_ (a_ (Eq.refl ([(Instr.mk 1 0 0 0 0 ([]:List Instr) ([]:List Instr) ([]:List Int)),(Instr.mk 66 5 0 0 0 ([]:List Instr) ([]:List Instr) ([]:List Int)),(Instr.mk 26 0 0 0 0 ([]:List Instr) ([]:List Instr) ([]:List Int))]:List Instr).length) (fun i (_:i<([(Instr.mk 1 0 0 0 0 ([]:List Instr) ([]:List Instr) ([]:List Int)),(Instr.mk 66 5 0 0 0 ([]:List Instr) ([]:List Instr) ([]:List Int)),(Instr.mk 26 0 0 0 0 ([]:List Instr) ([]:List Instr) ([]:List Int))]:List Instr).length) => Eq.refl (flI ([(Instr.mk 1 0 0 0 0 ([]:List Instr) ([]:List Instr) ([]:List Int)),(Instr.mk 66 5 0 0 0 ([]:List Instr) ([]:List Instr) ([]:List Int)),(Instr.mk 26 0 0 0 0 ([]:List Instr) ([]:List Instr) ([]:List Int))]:List Instr) i))) (a_ h14 (a_ (ixN h14) (a_ (ixN h14) (a_ (lclI ((x7.funcs.getD ((0:Int).toNat) default).body)) (a_ (Nat.le_refl ([(Instr.mk 1 0 0 0 0 ([]:List Instr) ([]:List Instr) ([]:List Int)),(Instr.mk 66 5 0 0 0 ([]:List Instr) ([]:List Instr) ([]:List Int)),(Instr.mk 26 0 0 0 0 ([]:List Instr) ([]:List Instr) ([]:List Int))]:List Instr).length) (a_ h15 (a_ (appNI ([(Instr.mk 1 0 0 0 0 ([]:List Instr) ([]:List Instr) ([]:List Int)),(Instr.mk 66 5 0 0 0 ([]:List Instr) ([]:List Instr) ([]:List Int)),(Instr.mk 26 0 0 0 0 ([]:List Instr) ([]:List Instr) ([]:List Int))]:List Instr) ((x7.funcs.getD ((0:Int).toNat) default).body)) t_))))))))))) t_) ?_
  refine AW2.seq ?_
  obtain ⟨x16,hx17,H⟩:=bind_some H
  refine r_ [.c [] [2036,2069,2086,2103,2135,2152,2184,2216] [] (.agg [.ls 2036 0 x16.types.length,.ls 2069 0 x16.funcs.length,.ls 2086 0 x16.tables.length,.ls 2103 0 x16.memories.length,.ls 2135 0 x16.globals.length,.ls 2152 0 x16.exports.length,.ls 2184 0 x16.elems.length,.ls 2216 0 x16.datas.length]) [(2036,.sl false 2 x16.types.length (fl eTyp x16.types)),(2069,.sl false 3 x16.funcs.length (fl eFnc x16.funcs)),(2086,.sl false 3 x16.tables.length (fl eLim x16.tables)),(2103,.sl false 3 x16.memories.length (fl eLim x16.memories)),(2135,.sl false 10 x16.globals.length (fl eGlo x16.globals)),(2152,.sl false 3 x16.exports.length (fl eXpo x16.exports)),(2184,.sl false 10 x16.elems.length (fl eEle x16.elems)),(2216,.sl false 10 x16.datas.length (fl eDat x16.datas))],.k 11] [1,7,8,9,10,11] [] [.k 7,.k 8,.k 11,.k 37,.k 1036,.k 1069,.k 1086,.k 1103,.k 1135,.k 1152,.k 1184,.k 1216,.k 2036,.k 2069,.k 2086,.k 2103,.k 2135,.k 2152,.k 2184,.k 2216] ⟨[(1,.d (.int .u8 p1)),(7,.p 7 0),(8,.p 8 0),(9,.d (.int .i64 x11)),(10,.ls 37 0 (([(Instr.mk 1 0 0 0 0 ([]:List Instr) ([]:List Instr) ([]:List Int)),(Instr.mk 66 5 0 0 0 ([]:List Instr) ([]:List Instr) ([]:List Int)),(Instr.mk 26 0 0 0 0 ([]:List Instr) ([]:List Instr) ([]:List Int))]:List Instr)++(x7.funcs.getD ((0:Int).toNat) default).body).length),(11,.p 11 0)],[(7,.st false (eD (eMdl x1))),(8,.st false [.ls 1036 0 x7.types.length,.ls 1069 0 x7.funcs.length,.ls 1086 0 x7.tables.length,.ls 1103 0 x7.memories.length,.ls 1135 0 x7.globals.length,.ls 1152 0 x7.exports.length,.ls 1184 0 x7.elems.length,.ls 1216 0 x7.datas.length]),(11,.st false [.ls 2036 0 x16.types.length,.ls 2069 0 x16.funcs.length,.ls 2086 0 x16.tables.length,.ls 2103 0 x16.memories.length,.ls 2135 0 x16.globals.length,.ls 2152 0 x16.exports.length,.ls 2184 0 x16.elems.length,.ls 2216 0 x16.datas.length]),(37,.sl false 8 (([(Instr.mk 1 0 0 0 0 ([]:List Instr) ([]:List Instr) ([]:List Int)),(Instr.mk 66 5 0 0 0 ([]:List Instr) ([]:List Instr) ([]:List Int)),(Instr.mk 26 0 0 0 0 ([]:List Instr) ([]:List Instr) ([]:List Int))]:List Instr)++(x7.funcs.getD ((0:Int).toNat) default).body).length (flI (([(Instr.mk 1 0 0 0 0 ([]:List Instr) ([]:List Instr) ([]:List Int)),(Instr.mk 66 5 0 0 0 ([]:List Instr) ([]:List Instr) ([]:List Int)),(Instr.mk 26 0 0 0 0 ([]:List Instr) ([]:List Instr) ([]:List Int))]:List Instr)++(x7.funcs.getD ((0:Int).toNat) default).body))),(1036,.sl true 2 x7.types.length (fl eTyp x7.types)),(1069,.sl true 3 x7.funcs.length (fl eFnc x7.funcs)),(1086,.sl true 3 x7.tables.length (fl eLim x7.tables)),(1103,.sl true 3 x7.memories.length (fl eLim x7.memories)),(1135,.sl true 10 x7.globals.length (fl eGlo x7.globals)),(1152,.sl true 3 x7.exports.length (fl eXpo x7.exports)),(1184,.sl true 10 x7.elems.length (fl eEle x7.elems)),(1216,.sl true 10 x7.datas.length (fl eDat x7.datas)),(2036,.sl false 2 x16.types.length (fl eTyp x16.types)),(2069,.sl false 3 x16.funcs.length (fl eFnc x16.funcs)),(2086,.sl false 3 x16.tables.length (fl eLim x16.tables)),(2103,.sl false 3 x16.memories.length (fl eLim x16.memories)),(2135,.sl false 10 x16.globals.length (fl eGlo x16.globals)),(2152,.sl false 3 x16.exports.length (fl eXpo x16.exports)),(2184,.sl false 10 x16.elems.length (fl eEle x16.elems)),(2216,.sl false 10 x16.datas.length (fl eDat x16.datas))]⟩ (a_ (a_ (zdH 2000 K x1 x16 hx17) t_) t_) ?_
  refine AW2.seq ?_
  refine AW2.fz [sVI (([(Instr.mk 1 0 0 0 0 ([]:List Instr) ([]:List Instr) ([]:List Int)),(Instr.mk 66 5 0 0 0 ([]:List Instr) ([]:List Instr) ([]:List Int)),(Instr.mk 26 0 0 0 0 ([]:List Instr) ([]:List Instr) ([]:List Int))]:List Instr)++(x7.funcs.getD ((0:Int).toNat) default).body)] (a_ (Nat.le_refl (([(Instr.mk 1 0 0 0 0 ([]:List Instr) ([]:List Instr) ([]:List Int)),(Instr.mk 66 5 0 0 0 ([]:List Instr) ([]:List Instr) ([]:List Int)),(Instr.mk 26 0 0 0 0 ([]:List Instr) ([]:List Instr) ([]:List Int))]:List Instr)++(x7.funcs.getD ((0:Int).toNat) default).body).length) (a_ (dflI (([(Instr.mk 1 0 0 0 0 ([]:List Instr) ([]:List Instr) ([]:List Int)),(Instr.mk 66 5 0 0 0 ([]:List Instr) ([]:List Instr) ([]:List Int)),(Instr.mk 26 0 0 0 0 ([]:List Instr) ([]:List Instr) ([]:List Int))]:List Instr)++(x7.funcs.getD ((0:Int).toNat) default).body)) t_)) (by kernel_rfl) (by kernel_rfl) ?_
  refine AW2.wk (zaV [1,7,8,9,10,11] [] [.k 7,.k 8,.k 11,.k 1036,.k 1069,.k 1086,.k 1103,.k 1135,.k 1152,.k 1184,.k 1216,.k 2036,.k 2069,.k 2086,.k 2103,.k 2135,.k 2152,.k 2184,.k 2216] t_ (by kernel_rfl):Wk _ ⟨[(1,.d (.int .u8 p1)),(7,.p 7 0),(8,.p 8 0),(9,.d (.int .i64 x11)),(10,.d (sVI (([(Instr.mk 1 0 0 0 0 ([]:List Instr) ([]:List Instr) ([]:List Int)),(Instr.mk 66 5 0 0 0 ([]:List Instr) ([]:List Instr) ([]:List Int)),(Instr.mk 26 0 0 0 0 ([]:List Instr) ([]:List Instr) ([]:List Int))]:List Instr)++(x7.funcs.getD ((0:Int).toNat) default).body))),(11,.p 11 0)],[(7,.st false (eD (eMdl x1))),(8,.st false [.ls 1036 0 x7.types.length,.ls 1069 0 x7.funcs.length,.ls 1086 0 x7.tables.length,.ls 1103 0 x7.memories.length,.ls 1135 0 x7.globals.length,.ls 1152 0 x7.exports.length,.ls 1184 0 x7.elems.length,.ls 1216 0 x7.datas.length]),(11,.st false [.ls 2036 0 x16.types.length,.ls 2069 0 x16.funcs.length,.ls 2086 0 x16.tables.length,.ls 2103 0 x16.memories.length,.ls 2135 0 x16.globals.length,.ls 2152 0 x16.exports.length,.ls 2184 0 x16.elems.length,.ls 2216 0 x16.datas.length]),(1036,.sl true 2 x7.types.length (fl eTyp x7.types)),(1069,.sl true 3 x7.funcs.length (fl eFnc x7.funcs)),(1086,.sl true 3 x7.tables.length (fl eLim x7.tables)),(1103,.sl true 3 x7.memories.length (fl eLim x7.memories)),(1135,.sl true 10 x7.globals.length (fl eGlo x7.globals)),(1152,.sl true 3 x7.exports.length (fl eXpo x7.exports)),(1184,.sl true 10 x7.elems.length (fl eEle x7.elems)),(1216,.sl true 10 x7.datas.length (fl eDat x7.datas)),(2036,.sl false 2 x16.types.length (fl eTyp x16.types)),(2069,.sl false 3 x16.funcs.length (fl eFnc x16.funcs)),(2086,.sl false 3 x16.tables.length (fl eLim x16.tables)),(2103,.sl false 3 x16.memories.length (fl eLim x16.memories)),(2135,.sl false 10 x16.globals.length (fl eGlo x16.globals)),(2152,.sl false 3 x16.exports.length (fl eXpo x16.exports)),(2184,.sl false 10 x16.elems.length (fl eEle x16.elems)),(2216,.sl false 10 x16.datas.length (fl eDat x16.datas))]⟩) ?_
  obtain ⟨h18,H⟩:=zae H
  refine r_ [.s true 0 (fl eFnc (List.set x16.funcs ((0:Int).toNat) (Fnc.mk ((x16.funcs.getD ((0:Int).toNat) default).type_) ((x16.funcs.getD ((0:Int).toNat) default).locals) (([(Instr.mk 1 0 0 0 0 ([]:List Instr) ([]:List Instr) ([]:List Int)),(Instr.mk 66 5 0 0 0 ([]:List Instr) ([]:List Instr) ([]:List Int)),(Instr.mk 26 0 0 0 0 ([]:List Instr) ([]:List Instr) ([]:List Int))]:List Instr)++(x7.funcs.getD ((0:Int).toNat) default).body))))] [1,7,8,9,11] [] [.k 7,.k 8,.st 11 [(1,.ls 2069 0 (List.set x16.funcs ((0:Int).toNat) (Fnc.mk ((x16.funcs.getD ((0:Int).toNat) default).type_) ((x16.funcs.getD ((0:Int).toNat) default).locals) (([(Instr.mk 1 0 0 0 0 ([]:List Instr) ([]:List Instr) ([]:List Int)),(Instr.mk 66 5 0 0 0 ([]:List Instr) ([]:List Instr) ([]:List Int)),(Instr.mk 26 0 0 0 0 ([]:List Instr) ([]:List Instr) ([]:List Int))]:List Instr)++(x7.funcs.getD ((0:Int).toNat) default).body))).length)],.k 1036,.k 1069,.k 1086,.k 1103,.k 1135,.k 1152,.k 1184,.k 1216,.k 2036,.sl 2069 (List.set x16.funcs ((0:Int).toNat) (Fnc.mk ((x16.funcs.getD ((0:Int).toNat) default).type_) ((x16.funcs.getD ((0:Int).toNat) default).locals) (([(Instr.mk 1 0 0 0 0 ([]:List Instr) ([]:List Instr) ([]:List Int)),(Instr.mk 66 5 0 0 0 ([]:List Instr) ([]:List Instr) ([]:List Int)),(Instr.mk 26 0 0 0 0 ([]:List Instr) ([]:List Instr) ([]:List Int))]:List Instr)++(x7.funcs.getD ((0:Int).toNat) default).body))).length (fl eFnc (List.set x16.funcs ((0:Int).toNat) (Fnc.mk ((x16.funcs.getD ((0:Int).toNat) default).type_) ((x16.funcs.getD ((0:Int).toNat) default).locals) (([(Instr.mk 1 0 0 0 0 ([]:List Instr) ([]:List Instr) ([]:List Int)),(Instr.mk 66 5 0 0 0 ([]:List Instr) ([]:List Instr) ([]:List Int)),(Instr.mk 26 0 0 0 0 ([]:List Instr) ([]:List Instr) ([]:List Int))]:List Instr)++(x7.funcs.getD ((0:Int).toNat) default).body)))),.k 2086,.k 2103,.k 2135,.k 2152,.k 2184,.k 2216] ⟨[(1,.d (.int .u8 p1)),(7,.p 7 0),(8,.p 8 0),(9,.d (.int .i64 x11)),(11,.p 11 0)],[(7,.st false (eD (eMdl x1))),(8,.st false [.ls 1036 0 x7.types.length,.ls 1069 0 x7.funcs.length,.ls 1086 0 x7.tables.length,.ls 1103 0 x7.memories.length,.ls 1135 0 x7.globals.length,.ls 1152 0 x7.exports.length,.ls 1184 0 x7.elems.length,.ls 1216 0 x7.datas.length]),(11,.st false [.ls 2036 0 x16.types.length,.ls 2069 0 (List.set x16.funcs ((0:Int).toNat) (Fnc.mk ((x16.funcs.getD ((0:Int).toNat) default).type_) ((x16.funcs.getD ((0:Int).toNat) default).locals) (([(Instr.mk 1 0 0 0 0 ([]:List Instr) ([]:List Instr) ([]:List Int)),(Instr.mk 66 5 0 0 0 ([]:List Instr) ([]:List Instr) ([]:List Int)),(Instr.mk 26 0 0 0 0 ([]:List Instr) ([]:List Instr) ([]:List Int))]:List Instr)++(x7.funcs.getD ((0:Int).toNat) default).body))).length,.ls 2086 0 x16.tables.length,.ls 2103 0 x16.memories.length,.ls 2135 0 x16.globals.length,.ls 2152 0 x16.exports.length,.ls 2184 0 x16.elems.length,.ls 2216 0 x16.datas.length]),(1036,.sl true 2 x7.types.length (fl eTyp x7.types)),(1069,.sl true 3 x7.funcs.length (fl eFnc x7.funcs)),(1086,.sl true 3 x7.tables.length (fl eLim x7.tables)),(1103,.sl true 3 x7.memories.length (fl eLim x7.memories)),(1135,.sl true 10 x7.globals.length (fl eGlo x7.globals)),(1152,.sl true 3 x7.exports.length (fl eXpo x7.exports)),(1184,.sl true 10 x7.elems.length (fl eEle x7.elems)),(1216,.sl true 10 x7.datas.length (fl eDat x7.datas)),(2036,.sl false 2 x16.types.length (fl eTyp x16.types)),(2069,.sl false 3 (List.set x16.funcs ((0:Int).toNat) (Fnc.mk ((x16.funcs.getD ((0:Int).toNat) default).type_) ((x16.funcs.getD ((0:Int).toNat) default).locals) (([(Instr.mk 1 0 0 0 0 ([]:List Instr) ([]:List Instr) ([]:List Int)),(Instr.mk 66 5 0 0 0 ([]:List Instr) ([]:List Instr) ([]:List Int)),(Instr.mk 26 0 0 0 0 ([]:List Instr) ([]:List Instr) ([]:List Int))]:List Instr)++(x7.funcs.getD ((0:Int).toNat) default).body))).length (fl eFnc (List.set x16.funcs ((0:Int).toNat) (Fnc.mk ((x16.funcs.getD ((0:Int).toNat) default).type_) ((x16.funcs.getD ((0:Int).toNat) default).locals) (([(Instr.mk 1 0 0 0 0 ([]:List Instr) ([]:List Instr) ([]:List Int)),(Instr.mk 66 5 0 0 0 ([]:List Instr) ([]:List Instr) ([]:List Int)),(Instr.mk 26 0 0 0 0 ([]:List Instr) ([]:List Instr) ([]:List Int))]:List Instr)++(x7.funcs.getD ((0:Int).toNat) default).body))))),(2086,.sl false 3 x16.tables.length (fl eLim x16.tables)),(2103,.sl false 3 x16.memories.length (fl eLim x16.memories)),(2135,.sl false 10 x16.globals.length (fl eGlo x16.globals)),(2152,.sl false 3 x16.exports.length (fl eXpo x16.exports)),(2184,.sl false 10 x16.elems.length (fl eEle x16.elems)),(2216,.sl false 10 x16.datas.length (fl eDat x16.datas))]⟩ (a_ (a_ h18 (a_ (ixN h18) (a_ (ixN h18) (a_ (setF eFnc x16.funcs ((0:Int).toNat) (Fnc.mk ((x16.funcs.getD ((0:Int).toNat) default).type_) ((x16.funcs.getD ((0:Int).toNat) default).locals) (([(Instr.mk 1 0 0 0 0 ([]:List Instr) ([]:List Instr) ([]:List Int)),(Instr.mk 66 5 0 0 0 ([]:List Instr) ([]:List Instr) ([]:List Int)),(Instr.mk 26 0 0 0 0 ([]:List Instr) ([]:List Instr) ([]:List Int))]:List Instr)++(x7.funcs.getD ((0:Int).toNat) default).body)) _ rfl) t_)))) (a_ (setEq x16.funcs ((0:Int).toNat) (Fnc.mk ((x16.funcs.getD ((0:Int).toNat) default).type_) ((x16.funcs.getD ((0:Int).toNat) default).locals) (([(Instr.mk 1 0 0 0 0 ([]:List Instr) ([]:List Instr) ([]:List Int)),(Instr.mk 66 5 0 0 0 ([]:List Instr) ([]:List Instr) ([]:List Int)),(Instr.mk 26 0 0 0 0 ([]:List Instr) ([]:List Instr) ([]:List Int))]:List Instr)++(x7.funcs.getD ((0:Int).toNat) default).body))) (a_ (setLe x16.funcs ((0:Int).toNat) (Fnc.mk ((x16.funcs.getD ((0:Int).toNat) default).type_) ((x16.funcs.getD ((0:Int).toNat) default).locals) (([(Instr.mk 1 0 0 0 0 ([]:List Instr) ([]:List Instr) ([]:List Int)),(Instr.mk 66 5 0 0 0 ([]:List Instr) ([]:List Instr) ([]:List Int)),(Instr.mk 26 0 0 0 0 ([]:List Instr) ([]:List Instr) ([]:List Int))]:List Instr)++(x7.funcs.getD ((0:Int).toNat) default).body))) (a_ (refF (fl eFnc (List.set x16.funcs ((0:Int).toNat) (Fnc.mk ((x16.funcs.getD ((0:Int).toNat) default).type_) ((x16.funcs.getD ((0:Int).toNat) default).locals) (([(Instr.mk 1 0 0 0 0 ([]:List Instr) ([]:List Instr) ([]:List Int)),(Instr.mk 66 5 0 0 0 ([]:List Instr) ([]:List Instr) ([]:List Int)),(Instr.mk 26 0 0 0 0 ([]:List Instr) ([]:List Instr) ([]:List Int))]:List Instr)++(x7.funcs.getD ((0:Int).toNat) default).body)))) (List.set x16.funcs ((0:Int).toNat) (Fnc.mk ((x16.funcs.getD ((0:Int).toNat) default).type_) ((x16.funcs.getD ((0:Int).toNat) default).locals) (([(Instr.mk 1 0 0 0 0 ([]:List Instr) ([]:List Instr) ([]:List Int)),(Instr.mk 66 5 0 0 0 ([]:List Instr) ([]:List Instr) ([]:List Int)),(Instr.mk 26 0 0 0 0 ([]:List Instr) ([]:List Instr) ([]:List Int))]:List Instr)++(x7.funcs.getD ((0:Int).toNat) default).body))).length) t_)))) ?_
  refine AW2.seq ?_
  refine AW2.seq ?_
  obtain ⟨x19,hx20,H⟩:=bind_some H
  obtain ⟨x21,hx22,H⟩:=bind_some H
  refine r_ [.r (.err 45 x19),.r (.int .i64 x21)] [1,7,8,9,11,55] [] [.k 7,.k 8,.k 11,.k 1036,.k 1069,.k 1086,.k 1103,.k 1135,.k 1152,.k 1184,.k 1216,.k 2036,.k 2069,.k 2086,.k 2103,.k 2135,.k 2152,.k 2184,.k 2216] ⟨[(1,.d (.int .u8 p1)),(7,.p 7 0),(8,.p 8 0),(9,.d (.int .i64 x11)),(11,.p 11 0),(55,.d (.bool (x21 != x11)))],[(7,.st false (eD (eMdl x1))),(8,.st false [.ls 1036 0 x7.types.length,.ls 1069 0 x7.funcs.length,.ls 1086 0 x7.tables.length,.ls 1103 0 x7.memories.length,.ls 1135 0 x7.globals.length,.ls 1152 0 x7.exports.length,.ls 1184 0 x7.elems.length,.ls 1216 0 x7.datas.length]),(11,.st false [.ls 2036 0 x16.types.length,.ls 2069 0 (List.set x16.funcs ((0:Int).toNat) (Fnc.mk ((x16.funcs.getD ((0:Int).toNat) default).type_) ((x16.funcs.getD ((0:Int).toNat) default).locals) (([(Instr.mk 1 0 0 0 0 ([]:List Instr) ([]:List Instr) ([]:List Int)),(Instr.mk 66 5 0 0 0 ([]:List Instr) ([]:List Instr) ([]:List Int)),(Instr.mk 26 0 0 0 0 ([]:List Instr) ([]:List Instr) ([]:List Int))]:List Instr)++(x7.funcs.getD ((0:Int).toNat) default).body))).length,.ls 2086 0 x16.tables.length,.ls 2103 0 x16.memories.length,.ls 2135 0 x16.globals.length,.ls 2152 0 x16.exports.length,.ls 2184 0 x16.elems.length,.ls 2216 0 x16.datas.length]),(1036,.sl true 2 x7.types.length (fl eTyp x7.types)),(1069,.sl true 3 x7.funcs.length (fl eFnc x7.funcs)),(1086,.sl true 3 x7.tables.length (fl eLim x7.tables)),(1103,.sl true 3 x7.memories.length (fl eLim x7.memories)),(1135,.sl true 10 x7.globals.length (fl eGlo x7.globals)),(1152,.sl true 3 x7.exports.length (fl eXpo x7.exports)),(1184,.sl true 10 x7.elems.length (fl eEle x7.elems)),(1216,.sl true 10 x7.datas.length (fl eDat x7.datas)),(2036,.sl true 2 x16.types.length (fl eTyp x16.types)),(2069,.sl true 3 (List.set x16.funcs ((0:Int).toNat) (Fnc.mk ((x16.funcs.getD ((0:Int).toNat) default).type_) ((x16.funcs.getD ((0:Int).toNat) default).locals) (([(Instr.mk 1 0 0 0 0 ([]:List Instr) ([]:List Instr) ([]:List Int)),(Instr.mk 66 5 0 0 0 ([]:List Instr) ([]:List Instr) ([]:List Int)),(Instr.mk 26 0 0 0 0 ([]:List Instr) ([]:List Instr) ([]:List Int))]:List Instr)++(x7.funcs.getD ((0:Int).toNat) default).body))).length (fl eFnc (List.set x16.funcs ((0:Int).toNat) (Fnc.mk ((x16.funcs.getD ((0:Int).toNat) default).type_) ((x16.funcs.getD ((0:Int).toNat) default).locals) (([(Instr.mk 1 0 0 0 0 ([]:List Instr) ([]:List Instr) ([]:List Int)),(Instr.mk 66 5 0 0 0 ([]:List Instr) ([]:List Instr) ([]:List Int)),(Instr.mk 26 0 0 0 0 ([]:List Instr) ([]:List Instr) ([]:List Int))]:List Instr)++(x7.funcs.getD ((0:Int).toNat) default).body))))),(2086,.sl true 3 x16.tables.length (fl eLim x16.tables)),(2103,.sl true 3 x16.memories.length (fl eLim x16.memories)),(2135,.sl true 10 x16.globals.length (fl eGlo x16.globals)),(2152,.sl true 3 x16.exports.length (fl eXpo x16.exports)),(2184,.sl true 10 x16.elems.length (fl eEle x16.elems)),(2216,.sl true 10 x16.datas.length (fl eDat x16.datas))]⟩ (a_ (a_ (Nat.le_refl x16.types.length) (a_ (dfl eTyp zko x16.types) (a_ (Nat.le_refl (List.set x16.funcs ((0:Int).toNat) (Fnc.mk ((x16.funcs.getD ((0:Int).toNat) default).type_) ((x16.funcs.getD ((0:Int).toNat) default).locals) (([(Instr.mk 1 0 0 0 0 ([]:List Instr) ([]:List Instr) ([]:List Int)),(Instr.mk 66 5 0 0 0 ([]:List Instr) ([]:List Instr) ([]:List Int)),(Instr.mk 26 0 0 0 0 ([]:List Instr) ([]:List Instr) ([]:List Int))]:List Instr)++(x7.funcs.getD ((0:Int).toNat) default).body))).length) (a_ (dfl eFnc zkq (List.set x16.funcs ((0:Int).toNat) (Fnc.mk ((x16.funcs.getD ((0:Int).toNat) default).type_) ((x16.funcs.getD ((0:Int).toNat) default).locals) (([(Instr.mk 1 0 0 0 0 ([]:List Instr) ([]:List Instr) ([]:List Int)),(Instr.mk 66 5 0 0 0 ([]:List Instr) ([]:List Instr) ([]:List Int)),(Instr.mk 26 0 0 0 0 ([]:List Instr) ([]:List Instr) ([]:List Int))]:List Instr)++(x7.funcs.getD ((0:Int).toNat) default).body)))) (a_ (Nat.le_refl x16.tables.length) (a_ (dfl eLim zdF x16.tables) (a_ (Nat.le_refl x16.memories.length) (a_ (dfl eLim zdF x16.memories) (a_ (Nat.le_refl x16.globals.length) (a_ (dfl eGlo zkp x16.globals) (a_ (Nat.le_refl x16.exports.length) (a_ (dfl eXpo zkn x16.exports) (a_ (Nat.le_refl x16.elems.length) (a_ (dfl eEle zkr x16.elems) (a_ (Nat.le_refl x16.datas.length) (a_ (dfl eDat zks x16.datas) (a_ (znK K (Mdl.mk x16.types (List.set x16.funcs ((0:Int).toNat) (Fnc.mk ((x16.funcs.getD ((0:Int).toNat) default).type_) ((x16.funcs.getD ((0:Int).toNat) default).locals) (([(Instr.mk 1 0 0 0 0 ([]:List Instr) ([]:List Instr) ([]:List Int)),(Instr.mk 66 5 0 0 0 ([]:List Instr) ([]:List Instr) ([]:List Int)),(Instr.mk 26 0 0 0 0 ([]:List Instr) ([]:List Instr) ([]:List Int))]:List Instr)++(x7.funcs.getD ((0:Int).toNat) default).body))) x16.tables x16.memories x16.globals x16.exports x16.elems x16.datas) 0 x19 hx20) (a_ (zqQ x19 x21 hx22) t_)))))))))))))))))) t_) ?_
  refine AW2.cond (b:=(x21 != x11)) rfl (fun hc => ?_) (fun hc => ?_)
  ·replace H:=zaC H hc
   refine AW2.seq ?_
   refine r_ [] [6] [] [] ⟨[(6,.d (.bool false))],[]⟩ (a_ t_ t_) ?_
   refine AW2.ret ?_
   have H:=Option.some.inj H
   subst H
   exact retP_mk2 t_ (by kernel_rfl)
  ·replace H:=zaD H hc
   refine AW2.skip ?_
   refine AW2.seq ?_
   refine AW2.seq ?_
   refine r_ [] [1,7,8,11,57] [] [.k 7,.k 8,.k 11,.k 1036,.k 1069,.k 1086,.k 1103,.k 1135,.k 1152,.k 1184,.k 1216,.k 2036,.k 2069,.k 2086,.k 2103,.k 2135,.k 2152,.k 2184,.k 2216] ⟨[(1,.d (.int .u8 p1)),(7,.p 7 0),(8,.p 8 0),(11,.p 11 0),(57,.d (.bool (x11 != (0:Int))))],[(7,.st false (eD (eMdl x1))),(8,.st false [.ls 1036 0 x7.types.length,.ls 1069 0 x7.funcs.length,.ls 1086 0 x7.tables.length,.ls 1103 0 x7.memories.length,.ls 1135 0 x7.globals.length,.ls 1152 0 x7.exports.length,.ls 1184 0 x7.elems.length,.ls 1216 0 x7.datas.length]),(11,.st false [.ls 2036 0 x16.types.length,.ls 2069 0 (List.set x16.funcs ((0:Int).toNat) (Fnc.mk ((x16.funcs.getD ((0:Int).toNat) default).type_) ((x16.funcs.getD ((0:Int).toNat) default).locals) (([(Instr.mk 1 0 0 0 0 ([]:List Instr) ([]:List Instr) ([]:List Int)),(Instr.mk 66 5 0 0 0 ([]:List Instr) ([]:List Instr) ([]:List Int)),(Instr.mk 26 0 0 0 0 ([]:List Instr) ([]:List Instr) ([]:List Int))]:List Instr)++(x7.funcs.getD ((0:Int).toNat) default).body))).length,.ls 2086 0 x16.tables.length,.ls 2103 0 x16.memories.length,.ls 2135 0 x16.globals.length,.ls 2152 0 x16.exports.length,.ls 2184 0 x16.elems.length,.ls 2216 0 x16.datas.length]),(1036,.sl true 2 x7.types.length (fl eTyp x7.types)),(1069,.sl true 3 x7.funcs.length (fl eFnc x7.funcs)),(1086,.sl true 3 x7.tables.length (fl eLim x7.tables)),(1103,.sl true 3 x7.memories.length (fl eLim x7.memories)),(1135,.sl true 10 x7.globals.length (fl eGlo x7.globals)),(1152,.sl true 3 x7.exports.length (fl eXpo x7.exports)),(1184,.sl true 10 x7.elems.length (fl eEle x7.elems)),(1216,.sl true 10 x7.datas.length (fl eDat x7.datas)),(2036,.sl true 2 x16.types.length (fl eTyp x16.types)),(2069,.sl true 3 (List.set x16.funcs ((0:Int).toNat) (Fnc.mk ((x16.funcs.getD ((0:Int).toNat) default).type_) ((x16.funcs.getD ((0:Int).toNat) default).locals) (([(Instr.mk 1 0 0 0 0 ([]:List Instr) ([]:List Instr) ([]:List Int)),(Instr.mk 66 5 0 0 0 ([]:List Instr) ([]:List Instr) ([]:List Int)),(Instr.mk 26 0 0 0 0 ([]:List Instr) ([]:List Instr) ([]:List Int))]:List Instr)++(x7.funcs.getD ((0:Int).toNat) default).body))).length (fl eFnc (List.set x16.funcs ((0:Int).toNat) (Fnc.mk ((x16.funcs.getD ((0:Int).toNat) default).type_) ((x16.funcs.getD ((0:Int).toNat) default).locals) (([(Instr.mk 1 0 0 0 0 ([]:List Instr) ([]:List Instr) ([]:List Int)),(Instr.mk 66 5 0 0 0 ([]:List Instr) ([]:List Instr) ([]:List Int)),(Instr.mk 26 0 0 0 0 ([]:List Instr) ([]:List Instr) ([]:List Int))]:List Instr)++(x7.funcs.getD ((0:Int).toNat) default).body))))),(2086,.sl true 3 x16.tables.length (fl eLim x16.tables)),(2103,.sl true 3 x16.memories.length (fl eLim x16.memories)),(2135,.sl true 10 x16.globals.length (fl eGlo x16.globals)),(2152,.sl true 3 x16.exports.length (fl eXpo x16.exports)),(2184,.sl true 10 x16.elems.length (fl eEle x16.elems)),(2216,.sl true 10 x16.datas.length (fl eDat x16.datas))]⟩ (a_ t_ t_) ?_
   refine AW2.cond (b:=(x11 != (0:Int))) rfl (fun hc => ?_) (fun hc => ?_)
   ·replace H:=zaC H hc
    refine AW2.seq ?_
    obtain ⟨x23,hx24,H⟩:=bind_some H
    refine r_ [.r (.bool x23)] [6] [] [] ⟨[(6,.d (.bool x23))],[]⟩ (a_ (a_ (zjm x23 hx24) t_) t_) ?_
    refine AW2.ret ?_
    have H:=Option.some.inj H
    subst H
    exact retP_mk2 t_ (by kernel_rfl)
   ·replace H:=zaD H hc
    refine AW2.skip ?_
    refine AW2.seq ?_
    obtain ⟨x25,hx26,H⟩:=bind_some H
    refine r_ [.c [] [3036,3069,3086,3103,3135,3152,3184,3216] [] (.agg [.ls 3036 0 x25.types.length,.ls 3069 0 x25.funcs.length,.ls 3086 0 x25.tables.length,.ls 3103 0 x25.memories.length,.ls 3135 0 x25.globals.length,.ls 3152 0 x25.exports.length,.ls 3184 0 x25.elems.length,.ls 3216 0 x25.datas.length]) [(3036,.sl false 2 x25.types.length (fl eTyp x25.types)),(3069,.sl false 3 x25.funcs.length (fl eFnc x25.funcs)),(3086,.sl false 3 x25.tables.length (fl eLim x25.tables)),(3103,.sl false 3 x25.memories.length (fl eLim x25.memories)),(3135,.sl false 10 x25.globals.length (fl eGlo x25.globals)),(3152,.sl false 3 x25.exports.length (fl eXpo x25.exports)),(3184,.sl false 10 x25.elems.length (fl eEle x25.elems)),(3216,.sl false 10 x25.datas.length (fl eDat x25.datas))],.k 12] [1,7,8,11,12] [] [.k 7,.k 8,.k 11,.k 12,.k 1036,.k 1069,.k 1086,.k 1103,.k 1135,.k 1152,.k 1184,.k 1216,.k 2036,.k 2069,.k 2086,.k 2103,.k 2135,.k 2152,.k 2184,.k 2216,.k 3036,.k 3069,.k 3086,.k 3103,.k 3135,.k 3152,.k 3184,.k 3216] ⟨[(1,.d (.int .u8 p1)),(7,.p 7 0),(8,.p 8 0),(11,.p 11 0),(12,.p 12 0)],[(7,.st false (eD (eMdl x1))),(8,.st false [.ls 1036 0 x7.types.length,.ls 1069 0 x7.funcs.length,.ls 1086 0 x7.tables.length,.ls 1103 0 x7.memories.length,.ls 1135 0 x7.globals.length,.ls 1152 0 x7.exports.length,.ls 1184 0 x7.elems.length,.ls 1216 0 x7.datas.length]),(11,.st false [.ls 2036 0 x16.types.length,.ls 2069 0 (List.set x16.funcs ((0:Int).toNat) (Fnc.mk ((x16.funcs.getD ((0:Int).toNat) default).type_) ((x16.funcs.getD ((0:Int).toNat) default).locals) (([(Instr.mk 1 0 0 0 0 ([]:List Instr) ([]:List Instr) ([]:List Int)),(Instr.mk 66 5 0 0 0 ([]:List Instr) ([]:List Instr) ([]:List Int)),(Instr.mk 26 0 0 0 0 ([]:List Instr) ([]:List Instr) ([]:List Int))]:List Instr)++(x7.funcs.getD ((0:Int).toNat) default).body))).length,.ls 2086 0 x16.tables.length,.ls 2103 0 x16.memories.length,.ls 2135 0 x16.globals.length,.ls 2152 0 x16.exports.length,.ls 2184 0 x16.elems.length,.ls 2216 0 x16.datas.length]),(12,.st false [.ls 3036 0 x25.types.length,.ls 3069 0 x25.funcs.length,.ls 3086 0 x25.tables.length,.ls 3103 0 x25.memories.length,.ls 3135 0 x25.globals.length,.ls 3152 0 x25.exports.length,.ls 3184 0 x25.elems.length,.ls 3216 0 x25.datas.length]),(1036,.sl true 2 x7.types.length (fl eTyp x7.types)),(1069,.sl true 3 x7.funcs.length (fl eFnc x7.funcs)),(1086,.sl true 3 x7.tables.length (fl eLim x7.tables)),(1103,.sl true 3 x7.memories.length (fl eLim x7.memories)),(1135,.sl true 10 x7.globals.length (fl eGlo x7.globals)),(1152,.sl true 3 x7.exports.length (fl eXpo x7.exports)),(1184,.sl true 10 x7.elems.length (fl eEle x7.elems)),(1216,.sl true 10 x7.datas.length (fl eDat x7.datas)),(2036,.sl true 2 x16.types.length (fl eTyp x16.types)),(2069,.sl true 3 (List.set x16.funcs ((0:Int).toNat) (Fnc.mk ((x16.funcs.getD ((0:Int).toNat) default).type_) ((x16.funcs.getD ((0:Int).toNat) default).locals) (([(Instr.mk 1 0 0 0 0 ([]:List Instr) ([]:List Instr) ([]:List Int)),(Instr.mk 66 5 0 0 0 ([]:List Instr) ([]:List Instr) ([]:List Int)),(Instr.mk 26 0 0 0 0 ([]:List Instr) ([]:List Instr) ([]:List Int))]:List Instr)++(x7.funcs.getD ((0:Int).toNat) default).body))).length (fl eFnc (List.set x16.funcs ((0:Int).toNat) (Fnc.mk ((x16.funcs.getD ((0:Int).toNat) default).type_) ((x16.funcs.getD ((0:Int).toNat) default).locals) (([(Instr.mk 1 0 0 0 0 ([]:List Instr) ([]:List Instr) ([]:List Int)),(Instr.mk 66 5 0 0 0 ([]:List Instr) ([]:List Instr) ([]:List Int)),(Instr.mk 26 0 0 0 0 ([]:List Instr) ([]:List Instr) ([]:List Int))]:List Instr)++(x7.funcs.getD ((0:Int).toNat) default).body))))),(2086,.sl true 3 x16.tables.length (fl eLim x16.tables)),(2103,.sl true 3 x16.memories.length (fl eLim x16.memories)),(2135,.sl true 10 x16.globals.length (fl eGlo x16.globals)),(2152,.sl true 3 x16.exports.length (fl eXpo x16.exports)),(2184,.sl true 10 x16.elems.length (fl eEle x16.elems)),(2216,.sl true 10 x16.datas.length (fl eDat x16.datas)),(3036,.sl false 2 x25.types.length (fl eTyp x25.types)),(3069,.sl false 3 x25.funcs.length (fl eFnc x25.funcs)),(3086,.sl false 3 x25.tables.length (fl eLim x25.tables)),(3103,.sl false 3 x25.memories.length (fl eLim x25.memories)),(3135,.sl false 10 x25.globals.length (fl eGlo x25.globals)),(3152,.sl false 3 x25.exports.length (fl eXpo x25.exports)),(3184,.sl false 10 x25.elems.length (fl eEle x25.elems)),(3216,.sl false 10 x25.datas.length (fl eDat x25.datas))]⟩ (a_ (a_ (zdH 3000 K x1 x25 hx26) t_) t_) ?_
    refine AW2.seq ?_
    obtain ⟨x27,hx28,H⟩:=bind_some H
    obtain ⟨h29,H⟩:=zae H
    obtain ⟨h30,H⟩:=zae H
    refine r_ [.r (.agg (eMdl x27)),.sb ([(Instr.mk 2 0 0 0 p1 ((x27.funcs.getD (0:Int).toNat default).body) ([]:List Instr) ([]:List Int))]:List Instr).length (flI ([(Instr.mk 2 0 0 0 p1 ((x27.funcs.getD (0:Int).toNat default).body) ([]:List Instr) ([]:List Int))]:List Instr)),.s true 0 (fl eFnc (List.set x25.funcs ((0:Int).toNat) (Fnc.mk ((x25.funcs.getD ((0:Int).toNat) default).type_) ((x25.funcs.getD ((0:Int).toNat) default).locals) ([(Instr.mk 2 0 0 0 p1 ((x27.funcs.getD (0:Int).toNat default).body) ([]:List Instr) ([]:List Int))]:List Instr))))] [1,8,11,12] [] [.k 8,.k 11,.st 12 [(1,.ls 3069 0 (List.set x25.funcs ((0:Int).toNat) (Fnc.mk ((x25.funcs.getD ((0:Int).toNat) default).type_) ((x25.funcs.getD ((0:Int).toNat) default).locals) ([(Instr.mk 2 0 0 0 p1 ((x27.funcs.getD (0:Int).toNat default).body) ([]:List Instr) ([]:List Int))]:List Instr))).length)],.k 1036,.k 1069,.k 1086,.k 1103,.k 1135,.k 1152,.k 1184,.k 1216,.k 2036,.k 2069,.k 2086,.k 2103,.k 2135,.k 2152,.k 2184,.k 2216,.k 3036,.sl 3069 (List.set x25.funcs ((0:Int).toNat) (Fnc.mk ((x25.funcs.getD ((0:Int).toNat) default).type_) ((x25.funcs.getD ((0:Int).toNat) default).locals) ([(Instr.mk 2 0 0 0 p1 ((x27.funcs.getD (0:Int).toNat default).body) ([]:List Instr) ([]:List Int))]:List Instr))).length (fl eFnc (List.set x25.funcs ((0:Int).toNat) (Fnc.mk ((x25.funcs.getD ((0:Int).toNat) default).type_) ((x25.funcs.getD ((0:Int).toNat) default).locals) ([(Instr.mk 2 0 0 0 p1 ((x27.funcs.getD (0:Int).toNat default).body) ([]:List Instr) ([]:List Int))]:List Instr)))),.k 3086,.k 3103,.k 3135,.k 3152,.k 3184,.k 3216] ⟨[(1,.d (.int .u8 p1)),(8,.p 8 0),(11,.p 11 0),(12,.p 12 0)],[(8,.st false [.ls 1036 0 x7.types.length,.ls 1069 0 x7.funcs.length,.ls 1086 0 x7.tables.length,.ls 1103 0 x7.memories.length,.ls 1135 0 x7.globals.length,.ls 1152 0 x7.exports.length,.ls 1184 0 x7.elems.length,.ls 1216 0 x7.datas.length]),(11,.st false [.ls 2036 0 x16.types.length,.ls 2069 0 (List.set x16.funcs ((0:Int).toNat) (Fnc.mk ((x16.funcs.getD ((0:Int).toNat) default).type_) ((x16.funcs.getD ((0:Int).toNat) default).locals) (([(Instr.mk 1 0 0 0 0 ([]:List Instr) ([]:List Instr) ([]:List Int)),(Instr.mk 66 5 0 0 0 ([]:List Instr) ([]:List Instr) ([]:List Int)),(Instr.mk 26 0 0 0 0 ([]:List Instr) ([]:List Instr) ([]:List Int))]:List Instr)++(x7.funcs.getD ((0:Int).toNat) default).body))).length,.ls 2086 0 x16.tables.length,.ls 2103 0 x16.memories.length,.ls 2135 0 x16.globals.length,.ls 2152 0 x16.exports.length,.ls 2184 0 x16.elems.length,.ls 2216 0 x16.datas.length]),(12,.st false [.ls 3036 0 x25.types.length,.ls 3069 0 (List.set x25.funcs ((0:Int).toNat) (Fnc.mk ((x25.funcs.getD ((0:Int).toNat) default).type_) ((x25.funcs.getD ((0:Int).toNat) default).locals) ([(Instr.mk 2 0 0 0 p1 ((x27.funcs.getD (0:Int).toNat default).body) ([]:List Instr) ([]:List Int))]:List Instr))).length,.ls 3086 0 x25.tables.length,.ls 3103 0 x25.memories.length,.ls 3135 0 x25.globals.length,.ls 3152 0 x25.exports.length,.ls 3184 0 x25.elems.length,.ls 3216 0 x25.datas.length]),(1036,.sl true 2 x7.types.length (fl eTyp x7.types)),(1069,.sl true 3 x7.funcs.length (fl eFnc x7.funcs)),(1086,.sl true 3 x7.tables.length (fl eLim x7.tables)),(1103,.sl true 3 x7.memories.length (fl eLim x7.memories)),(1135,.sl true 10 x7.globals.length (fl eGlo x7.globals)),(1152,.sl true 3 x7.exports.length (fl eXpo x7.exports)),(1184,.sl true 10 x7.elems.length (fl eEle x7.elems)),(1216,.sl true 10 x7.datas.length (fl eDat x7.datas)),(2036,.sl true 2 x16.types.length (fl eTyp x16.types)),(2069,.sl true 3 (List.set x16.funcs ((0:Int).toNat) (Fnc.mk ((x16.funcs.getD ((0:Int).toNat) default).type_) ((x16.funcs.getD ((0:Int).toNat) default).locals) (([(Instr.mk 1 0 0 0 0 ([]:List Instr) ([]:List Instr) ([]:List Int)),(Instr.mk 66 5 0 0 0 ([]:List Instr) ([]:List Instr) ([]:List Int)),(Instr.mk 26 0 0 0 0 ([]:List Instr) ([]:List Instr) ([]:List Int))]:List Instr)++(x7.funcs.getD ((0:Int).toNat) default).body))).length (fl eFnc (List.set x16.funcs ((0:Int).toNat) (Fnc.mk ((x16.funcs.getD ((0:Int).toNat) default).type_) ((x16.funcs.getD ((0:Int).toNat) default).locals) (([(Instr.mk 1 0 0 0 0 ([]:List Instr) ([]:List Instr) ([]:List Int)),(Instr.mk 66 5 0 0 0 ([]:List Instr) ([]:List Instr) ([]:List Int)),(Instr.mk 26 0 0 0 0 ([]:List Instr) ([]:List Instr) ([]:List Int))]:List Instr)++(x7.funcs.getD ((0:Int).toNat) default).body))))),(2086,.sl true 3 x16.tables.length (fl eLim x16.tables)),(2103,.sl true 3 x16.memories.length (fl eLim x16.memories)),(2135,.sl true 10 x16.globals.length (fl eGlo x16.globals)),(2152,.sl true 3 x16.exports.length (fl eXpo x16.exports)),(2184,.sl true 10 x16.elems.length (fl eEle x16.elems)),(2216,.sl true 10 x16.datas.length (fl eDat x16.datas)),(3036,.sl false 2 x25.types.length (fl eTyp x25.types)),(3069,.sl false 3 (List.set x25.funcs ((0:Int).toNat) (Fnc.mk ((x25.funcs.getD ((0:Int).toNat) default).type_) ((x25.funcs.getD ((0:Int).toNat) default).locals) ([(Instr.mk 2 0 0 0 p1 ((x27.funcs.getD (0:Int).toNat default).body) ([]:List Instr) ([]:List Int))]:List Instr))).length (fl eFnc (List.set x25.funcs ((0:Int).toNat) (Fnc.mk ((x25.funcs.getD ((0:Int).toNat) default).type_) ((x25.funcs.getD ((0:Int).toNat) default).locals) ([(Instr.mk 2 0 0 0 p1 ((x27.funcs.getD (0:Int).toNat default).body) ([]:List Instr) ([]:List Int))]:List Instr))))),(3086,.sl false 3 x25.tables.length (fl eLim x25.tables)),(3103,.sl false 3 x25.memories.length (fl eLim x25.memories)),(3135,.sl false 10 x25.globals.length (fl eGlo x25.globals)),(3152,.sl false 3 x25.exports.length (fl eXpo x25.exports)),(3184,.sl false 10 x25.elems.length (fl eEle x25.elems)),(3216,.sl false 10 x25.datas.length (fl eDat x25.datas))]⟩ (a_ (a_ (zlU K x1 x27 hx28) (a_ h29 (a_ (litI ([(Instr.mk 2 0 0 0 p1 ((x27.funcs.getD (0:Int).toNat default).body) ([]:List Instr) ([]:List Int))]:List Instr)) (a_ h30 (a_ (ixN h30) (a_ (ixN h30) (a_ (setF eFnc x25.funcs ((0:Int).toNat) (Fnc.mk ((x25.funcs.getD ((0:Int).toNat) default).type_) ((x25.funcs.getD ((0:Int).toNat) default).locals) ([(Instr.mk 2 0 0 0 p1 ((x27.funcs.getD (0:Int).toNat default).body) ([]:List Instr) ([]:List Int))]:List Instr)) _ rfl) t_))))))) (a_ (setEq x25.funcs ((0:Int).toNat) (Fnc.mk ((x25.funcs.getD ((0:Int).toNat) default).type_) ((x25.funcs.getD ((0:Int).toNat) default).locals) ([(Instr.mk 2 0 0 0 p1 ((x27.funcs.getD (0:Int).toNat default).body) ([]:List Instr) ([]:List Int))]:List Instr))) (a_ (setLe x25.funcs ((0:Int).toNat) (Fnc.mk ((x25.funcs.getD ((0:Int).toNat) default).type_) ((x25.funcs.getD ((0:Int).toNat) default).locals) ([(Instr.mk 2 0 0 0 p1 ((x27.funcs.getD (0:Int).toNat default).body) ([]:List Instr) ([]:List Int))]:List Instr))) (a_ (refF (fl eFnc (List.set x25.funcs ((0:Int).toNat) (Fnc.mk ((x25.funcs.getD ((0:Int).toNat) default).type_) ((x25.funcs.getD ((0:Int).toNat) default).locals) ([(Instr.mk 2 0 0 0 p1 ((x27.funcs.getD (0:Int).toNat default).body) ([]:List Instr) ([]:List Int))]:List Instr)))) (List.set x25.funcs ((0:Int).toNat) (Fnc.mk ((x25.funcs.getD ((0:Int).toNat) default).type_) ((x25.funcs.getD ((0:Int).toNat) default).locals) ([(Instr.mk 2 0 0 0 p1 ((x27.funcs.getD (0:Int).toNat default).body) ([]:List Instr) ([]:List Int))]:List Instr))).length) t_)))) ?_
    refine AW2.seq ?_
    obtain ⟨x31,hx32,H⟩:=bind_some H
    refine r_ [.r (.tup [.int .i64 x31.1,.err 45 x31.2])] [1,11,12,13,14] [] [.k 11,.k 12,.k 2036,.k 2069,.k 2086,.k 2103,.k 2135,.k 2152,.k 2184,.k 2216,.k 3036,.k 3069,.k 3086,.k 3103,.k 3135,.k 3152,.k 3184,.k 3216] ⟨[(1,.d (.int .u8 p1)),(11,.p 11 0),(12,.p 12 0),(13,.d (.int .i64 x31.1)),(14,.d (.err 45 x31.2))],[(11,.st false [.ls 2036 0 x16.types.length,.ls 2069 0 (List.set x16.funcs ((0:Int).toNat) (Fnc.mk ((x16.funcs.getD ((0:Int).toNat) default).type_) ((x16.funcs.getD ((0:Int).toNat) default).locals) (([(Instr.mk 1 0 0 0 0 ([]:List Instr) ([]:List Instr) ([]:List Int)),(Instr.mk 66 5 0 0 0 ([]:List Instr) ([]:List Instr) ([]:List Int)),(Instr.mk 26 0 0 0 0 ([]:List Instr) ([]:List Instr) ([]:List Int))]:List Instr)++(x7.funcs.getD ((0:Int).toNat) default).body))).length,.ls 2086 0 x16.tables.length,.ls 2103 0 x16.memories.length,.ls 2135 0 x16.globals.length,.ls 2152 0 x16.exports.length,.ls 2184 0 x16.elems.length,.ls 2216 0 x16.datas.length]),(12,.st false [.ls 3036 0 x25.types.length,.ls 3069 0 (List.set x25.funcs ((0:Int).toNat) (Fnc.mk ((x25.funcs.getD ((0:Int).toNat) default).type_) ((x25.funcs.getD ((0:Int).toNat) default).locals) ([(Instr.mk 2 0 0 0 p1 ((x27.funcs.getD (0:Int).toNat default).body) ([]:List Instr) ([]:List Int))]:List Instr))).length,.ls 3086 0 x25.tables.length,.ls 3103 0 x25.memories.length,.ls 3135 0 x25.globals.length,.ls 3152 0 x25.exports.length,.ls 3184 0 x25.elems.length,.ls 3216 0 x25.datas.length]),(2036,.sl true 2 x16.types.length (fl eTyp x16.types)),(2069,.sl true 3 (List.set x16.funcs ((0:Int).toNat) (Fnc.mk ((x16.funcs.getD ((0:Int).toNat) default).type_) ((x16.funcs.getD ((0:Int).toNat) default).locals) (([(Instr.mk 1 0 0 0 0 ([]:List Instr) ([]:List Instr) ([]:List Int)),(Instr.mk 66 5 0 0 0 ([]:List Instr) ([]:List Instr) ([]:List Int)),(Instr.mk 26 0 0 0 0 ([]:List Instr) ([]:List Instr) ([]:List Int))]:List Instr)++(x7.funcs.getD ((0:Int).toNat) default).body))).length (fl eFnc (List.set x16.funcs ((0:Int).toNat) (Fnc.mk ((x16.funcs.getD ((0:Int).toNat) default).type_) ((x16.funcs.getD ((0:Int).toNat) default).locals) (([(Instr.mk 1 0 0 0 0 ([]:List Instr) ([]:List Instr) ([]:List Int)),(Instr.mk 66 5 0 0 0 ([]:List Instr) ([]:List Instr) ([]:List Int)),(Instr.mk 26 0 0 0 0 ([]:List Instr) ([]:List Instr) ([]:List Int))]:List Instr)++(x7.funcs.getD ((0:Int).toNat) default).body))))),(2086,.sl true 3 x16.tables.length (fl eLim x16.tables)),(2103,.sl true 3 x16.memories.length (fl eLim x16.memories)),(2135,.sl true 10 x16.globals.length (fl eGlo x16.globals)),(2152,.sl true 3 x16.exports.length (fl eXpo x16.exports)),(2184,.sl true 10 x16.elems.length (fl eEle x16.elems)),(2216,.sl true 10 x16.datas.length (fl eDat x16.datas)),(3036,.sl false 2 x25.types.length (fl eTyp x25.types)),(3069,.sl false 3 (List.set x25.funcs ((0:Int).toNat) (Fnc.mk ((x25.funcs.getD ((0:Int).toNat) default).type_) ((x25.funcs.getD ((0:Int).toNat) default).locals) ([(Instr.mk 2 0 0 0 p1 ((x27.funcs.getD (0:Int).toNat default).body) ([]:List Instr) ([]:List Int))]:List Instr))).length (fl eFnc (List.set x25.funcs ((0:Int).toNat) (Fnc.mk ((x25.funcs.getD ((0:Int).toNat) default).type_) ((x25.funcs.getD ((0:Int).toNat) default).locals) ([(Instr.mk 2 0 0 0 p1 ((x27.funcs.getD (0:Int).toNat default).body) ([]:List Instr) ([]:List Int))]:List Instr))))),(3086,.sl false 3 x25.tables.length (fl eLim x25.tables)),(3103,.sl false 3 x25.memories.length (fl eLim x25.memories)),(3135,.sl false 10 x25.globals.length (fl eGlo x25.globals)),(3152,.sl false 3 x25.exports.length (fl eXpo x25.exports)),(3184,.sl false 10 x25.elems.length (fl eEle x25.elems)),(3216,.sl false 10 x25.datas.length (fl eDat x25.datas))]⟩ (a_ (a_ (Nat.le_refl x7.types.length) (a_ (dfl eTyp zko x7.types) (a_ (Nat.le_refl x7.funcs.length) (a_ (dfl eFnc zkq x7.funcs) (a_ (Nat.le_refl x7.tables.length) (a_ (dfl eLim zdF x7.tables) (a_ (Nat.le_refl x7.memories.length) (a_ (dfl eLim zdF x7.memories) (a_ (Nat.le_refl x7.globals.length) (a_ (dfl eGlo zkp x7.globals) (a_ (Nat.le_refl x7.exports.length) (a_ (dfl eXpo zkn x7.exports) (a_ (Nat.le_refl x7.elems.length) (a_ (dfl eEle zkr x7.elems) (a_ (Nat.le_refl x7.datas.length) (a_ (dfl eDat zks x7.datas) (a_ (zga K x7 0 x31 hx32) t_))))))))))))))))) t_) ?_
    refine AW2.seq ?_
    obtain ⟨x33,hx34,H⟩:=bind_some H
    refine r_ [.r (.tup [.int .i64 x33.1,.err 45 x33.2])] [1,11,13,14,15,16] [] [.k 11,.k 2036,.k 2069,.k 2086,.k 2103,.k 2135,.k 2152,.k 2184,.k 2216] ⟨[(1,.d (.int .u8 p1)),(11,.p 11 0),(13,.d (.int .i64 x31.1)),(14,.d (.err 45 x31.2)),(15,.d (.int .i64 x33.1)),(16,.d (.err 45 x33.2))],[(11,.st false [.ls 2036 0 x16.types.length,.ls 2069 0 (List.set x16.funcs ((0:Int).toNat) (Fnc.mk ((x16.funcs.getD ((0:Int).toNat) default).type_) ((x16.funcs.getD ((0:Int).toNat) default).locals) (([(Instr.mk 1 0 0 0 0 ([]:List Instr) ([]:List Instr) ([]:List Int)),(Instr.mk 66 5 0 0 0 ([]:List Instr) ([]:List Instr) ([]:List Int)),(Instr.mk 26 0 0 0 0 ([]:List Instr) ([]:List Instr) ([]:List Int))]:List Instr)++(x7.funcs.getD ((0:Int).toNat) default).body))).length,.ls 2086 0 x16.tables.length,.ls 2103 0 x16.memories.length,.ls 2135 0 x16.globals.length,.ls 2152 0 x16.exports.length,.ls 2184 0 x16.elems.length,.ls 2216 0 x16.datas.length]),(2036,.sl true 2 x16.types.length (fl eTyp x16.types)),(2069,.sl true 3 (List.set x16.funcs ((0:Int).toNat) (Fnc.mk ((x16.funcs.getD ((0:Int).toNat) default).type_) ((x16.funcs.getD ((0:Int).toNat) default).locals) (([(Instr.mk 1 0 0 0 0 ([]:List Instr) ([]:List Instr) ([]:List Int)),(Instr.mk 66 5 0 0 0 ([]:List Instr) ([]:List Instr) ([]:List Int)),(Instr.mk 26 0 0 0 0 ([]:List Instr) ([]:List Instr) ([]:List Int))]:List Instr)++(x7.funcs.getD ((0:Int).toNat) default).body))).length (fl eFnc (List.set x16.funcs ((0:Int).toNat) (Fnc.mk ((x16.funcs.getD ((0:Int).toNat) default).type_) ((x16.funcs.getD ((0:Int).toNat) default).locals) (([(Instr.mk 1 0 0 0 0 ([]:List Instr) ([]:List Instr) ([]:List Int)),(Instr.mk 66 5 0 0 0 ([]:List Instr) ([]:List Instr) ([]:List Int)),(Instr.mk 26 0 0 0 0 ([]:List Instr) ([]:List Instr) ([]:List Int))]:List Instr)++(x7.funcs.getD ((0:Int).toNat) default).body))))),(2086,.sl true 3 x16.tables.length (fl eLim x16.tables)),(2103,.sl true 3 x16.memories.length (fl eLim x16.memories)),(2135,.sl true 10 x16.globals.length (fl eGlo x16.globals)),(2152,.sl true 3 x16.exports.length (fl eXpo x16.exports)),(2184,.sl true 10 x16.elems.length (fl eEle x16.elems)),(2216,.sl true 10 x16.datas.length (fl eDat x16.datas))]⟩ (a_ (a_ (Nat.le_refl x25.types.length) (a_ (dfl eTyp zko x25.types) (a_ (Nat.le_refl (List.set x25.funcs ((0:Int).toNat) (Fnc.mk ((x25.funcs.getD ((0:Int).toNat) default).type_) ((x25.funcs.getD ((0:Int).toNat) default).locals) ([(Instr.mk 2 0 0 0 p1 ((x27.funcs.getD (0:Int).toNat default).body) ([]:List Instr) ([]:List Int))]:List Instr))).length) (a_ (dfl eFnc zkq (List.set x25.funcs ((0:Int).toNat) (Fnc.mk ((x25.funcs.getD ((0:Int).toNat) default).type_) ((x25.funcs.getD ((0:Int).toNat) default).locals) ([(Instr.mk 2 0 0 0 p1 ((x27.funcs.getD (0:Int).toNat default).body) ([]:List Instr) ([]:List Int))]:List Instr)))) (a_ (Nat.le_refl x25.tables.length) (a_ (dfl eLim zdF x25.tables) (a_ (Nat.le_refl x25.memories.length) (a_ (dfl eLim zdF x25.memories) (a_ (Nat.le_refl x25.globals.length) (a_ (dfl eGlo zkp x25.globals) (a_ (Nat.le_refl x25.exports.length) (a_ (dfl eXpo zkn x25.exports) (a_ (Nat.le_refl x25.elems.length) (a_ (dfl eEle zkr x25.elems) (a_ (Nat.le_refl x25.datas.length) (a_ (dfl eDat zks x25.datas) (a_ (zga K (Mdl.mk x25.types (List.set x25.funcs ((0:Int).toNat) (Fnc.mk ((x25.funcs.getD ((0:Int).toNat) default).type_) ((x25.funcs.getD ((0:Int).toNat) default).locals) ([(Instr.mk 2 0 0 0 p1 ((x27.funcs.getD (0:Int).toNat default).body) ([]:List Instr) ([]:List Int))]:List Instr))) x25.tables x25.memories x25.globals x25.exports x25.elems x25.datas) 0 x33 hx34) t_))))))))))))))))) t_) ?_
    refine AW2.seq ?_
    obtain ⟨x35,hx36,H⟩:=bind_some H
    refine r_ [.r (.tup [.int .i64 x35.1,.err 45 x35.2])] [1,13,14,15,16,17,18] [] [] ⟨[(1,.d (.int .u8 p1)),(13,.d (.int .i64 x31.1)),(14,.d (.err 45 x31.2)),(15,.d (.int .i64 x33.1)),(16,.d (.err 45 x33.2)),(17,.d (.int .i64 x35.1)),(18,.d (.err 45 x35.2))],[]⟩ (a_ (a_ (Nat.le_refl x16.types.length) (a_ (dfl eTyp zko x16.types) (a_ (Nat.le_refl (List.set x16.funcs ((0:Int).toNat) (Fnc.mk ((x16.funcs.getD ((0:Int).toNat) default).type_) ((x16.funcs.getD ((0:Int).toNat) default).locals) (([(Instr.mk 1 0 0 0 0 ([]:List Instr) ([]:List Instr) ([]:List Int)),(Instr.mk 66 5 0 0 0 ([]:List Instr) ([]:List Instr) ([]:List Int)),(Instr.mk 26 0 0 0 0 ([]:List Instr) ([]:List Instr) ([]:List Int))]:List Instr)++(x7.funcs.getD ((0:Int).toNat) default).body))).length) (a_ (dfl eFnc zkq (List.set x16.funcs ((0:Int).toNat) (Fnc.mk ((x16.funcs.getD ((0:Int).toNat) default).type_) ((x16.funcs.getD ((0:Int).toNat) default).locals) (([(Instr.mk 1 0 0 0 0 ([]:List Instr) ([]:List Instr) ([]:List Int)),(Instr.mk 66 5 0 0 0 ([]:List Instr) ([]:List Instr) ([]:List Int)),(Instr.mk 26 0 0 0 0 ([]:List Instr) ([]:List Instr) ([]:List Int))]:List Instr)++(x7.funcs.getD ((0:Int).toNat) default).body)))) (a_ (Nat.le_refl x16.tables.length) (a_ (dfl eLim zdF x16.tables) (a_ (Nat.le_refl x16.memories.length) (a_ (dfl eLim zdF x16.memories) (a_ (Nat.le_refl x16.globals.length) (a_ (dfl eGlo zkp x16.globals) (a_ (Nat.le_refl x16.exports.length) (a_ (dfl eXpo zkn x16.exports) (a_ (Nat.le_refl x16.elems.length) (a_ (dfl eEle zkr x16.elems) (a_ (Nat.le_refl x16.datas.length) (a_ (dfl eDat zks x16.datas) (a_ (zga K (Mdl.mk x16.types (List.set x16.funcs ((0:Int).toNat) (Fnc.mk ((x16.funcs.getD ((0:Int).toNat) default).type_) ((x16.funcs.getD ((0:Int).toNat) default).locals) (([(Instr.mk 1 0 0 0 0 ([]:List Instr) ([]:List Instr) ([]:List Int)),(Instr.mk 66 5 0 0 0 ([]:List Instr) ([]:List Instr) ([]:List Int)),(Instr.mk 26 0 0 0 0 ([]:List Instr) ([]:List Instr) ([]:List Int))]:List Instr)++(x7.funcs.getD ((0:Int).toNat) default).body))) x16.tables x16.memories x16.globals x16.exports x16.elems x16.datas) 0 x35 hx36) t_))))))))))))))))) t_) ?_
    refine AW2.seq ?_
    refine r_ [] [1,13,14,15,16,17,18,19] [] [] ⟨[(1,.d (.int .u8 p1)),(13,.d (.int .i64 x31.1)),(14,.d (.err 45 x31.2)),(15,.d (.int .i64 x33.1)),(16,.d (.err 45 x33.2)),(17,.d (.int .i64 x35.1)),(18,.d (.err 45 x35.2)),(19,.d (.int .i64 0))],[]⟩ (a_ t_ t_) ?_
    obtain ⟨j37,H45,H⟩:=bind_some H
    refine AW2.mid ⟨[(13,.d (.int .i64 x31.1)),(14,.d (.err 45 x31.2)),(15,.d (.int .i64 x33.1)),(16,.d (.err 45 x33.2)),(17,.d (.int .i64 x35.1)),(18,.d (.err 45 x35.2)),(19,.d (.int .i64 j37))],[]⟩ ?_ ?_
    ·refine AW2.seq ?_
     obtain ⟨j40,H42,H⟩:=bind_some H
     refine AW2.reg [] rfl (YW.to ⟨[(6,.d (.bool j40))],[]⟩ ?qh43 ?h43)
     case h43 => 
      have H:=H42
      rcases bT x31.2.isNone with hc1 | hc1
      ·replace H:=zaC H hc1
       rcases bT x33.2.isNone with hc2 | hc2
       ·replace H:=zaC H hc2
        rcases bT x35.2.isNone with hc3 | hc3
        ·replace H:=zaC H hc3
         rcases bT (x33.1==(mxI x31.1 j37)) with hc4 | hc4
         ·replace H:=zaC H hc4
          rcases bT (x35.1==(mxI x31.1 1)) with hc5 | hc5
          ·replace H:=zaC H hc5
           obtain ⟨x38,hx39,H⟩:=bind_some H
           have H:=Option.some.inj H
           subst H
           exact YW.fin [(93,true),(97,true),(101,true),(108,true),(114,true)] [.r (.bool x38)] [6] [] [] _ (a_ (a_ hc1 (a_ hc1 (a_ hc1 (a_ hc2 (a_ hc2 (a_ hc2 (a_ hc3 (a_ hc3 (a_ hc3 (a_ hc3 (a_ hc3 (a_ hc3 (a_ hc4 (a_ hc4 (a_ hc4 (a_ hc4 (a_ hc4 (a_ hc5 (a_ (zjm x38 hx39) (a_ hc5 t_)))))))))))))))))))) t_) (by kernel_rfl) rfl
          ·replace H:=zaD H hc5
           have H:=Option.some.inj H
           subst H
           exact YW.fin [(93,true),(97,true),(101,true),(108,true),(114,false)] [] [6] [] [] _ (a_ (a_ hc1 (a_ hc1 (a_ hc1 (a_ hc2 (a_ hc2 (a_ hc2 (a_ hc3 (a_ hc3 (a_ hc3 (a_ hc3 (a_ hc3 (a_ hc3 (a_ hc4 (a_ hc4 (a_ hc4 (a_ hc4 (a_ hc4 (a_ hc5 (a_ hc5 t_))))))))))))))))))) t_) (by kernel_rfl) rfl
         ·replace H:=zaD H hc4
          have H:=Option.some.inj H
          subst H
          exact YW.fin [(93,true),(97,true),(101,true),(108,false),(114,false)] [] [6] [] [] _ (a_ (a_ hc1 (a_ hc1 (a_ hc1 (a_ hc2 (a_ hc2 (a_ hc2 (a_ hc3 (a_ hc3 (a_ hc3 (a_ hc3 (a_ hc3 (a_ hc3 (a_ hc4 (a_ hc4 (a_ hc4 (a_ hc4 (a_ hc4 (a_ (Eq.refl false) (a_ (Eq.refl false) t_))))))))))))))))))) t_) (by kernel_rfl) rfl
        ·replace H:=zaD H hc3
         have H:=Option.some.inj H
         subst H
         exact YW.fin [(93,true),(97,true),(101,false),(108,false),(114,false)] [] [6] [] [] _ (a_ (a_ hc1 (a_ hc1 (a_ hc1 (a_ hc2 (a_ hc2 (a_ hc2 (a_ hc3 (a_ hc3 (a_ hc3 (a_ hc3 (a_ hc3 (a_ hc3 (a_ (Eq.refl false) (a_ (Eq.refl false) (a_ (Eq.refl false) (a_ (Eq.refl false) (a_ (Eq.refl false) (a_ (Eq.refl false) (a_ (Eq.refl false) t_))))))))))))))))))) t_) (by kernel_rfl) rfl
       ·replace H:=zaD H hc2
        have H:=Option.some.inj H
        subst H
        exact YW.fin [(93,true),(97,false),(101,false),(108,false),(114,false)] [] [6] [] [] _ (a_ (a_ hc1 (a_ hc1 (a_ hc1 (a_ hc2 (a_ hc2 (a_ hc2 (a_ (Eq.refl false) (a_ (Eq.refl false) (a_ (Eq.refl false) (a_ (Eq.refl false) (a_ (Eq.refl false) (a_ (Eq.refl false) (a_ (Eq.refl false) (a_ (Eq.refl false) (a_ (Eq.refl false) (a_ (Eq.refl false) (a_ (Eq.refl false) (a_ (Eq.refl false) (a_ (Eq.refl false) t_))))))))))))))))))) t_) (by kernel_rfl) rfl
      ·replace H:=zaD H hc1
       have H:=Option.some.inj H
       subst H
       exact YW.fin [(93,false),(97,false),(101,false),(108,false),(114,false)] [] [6] [] [] _ (a_ (a_ hc1 (a_ hc1 (a_ hc1 (a_ (Eq.refl false) (a_ (Eq.refl false) (a_ (Eq.refl false) (a_ (Eq.refl false) (a_ (Eq.refl false) (a_ (Eq.refl false) (a_ (Eq.refl false) (a_ (Eq.refl false) (a_ (Eq.refl false) (a_ (Eq.refl false) (a_ (Eq.refl false) (a_ (Eq.refl false) (a_ (Eq.refl false) (a_ (Eq.refl false) (a_ (Eq.refl false) (a_ (Eq.refl false) t_))))))))))))))))))) t_) (by kernel_rfl) rfl
     refine AW2.ret ?_
     have H:=Option.some.inj H
     subst H
     exact retP_mk2 t_ (by kernel_rfl)
    ·have H:=H45
     refine AW2.seq ?_
     refine r_ [] [13,14,15,16,17,18,19,90] [] [] ⟨[(13,.d (.int .i64 x31.1)),(14,.d (.err 45 x31.2)),(15,.d (.int .i64 x33.1)),(16,.d (.err 45 x33.2)),(17,.d (.int .i64 x35.1)),(18,.d (.err 45 x35.2)),(19,.d (.int .i64 0)),(90,.d (.bool (p1 != (0:Int))))],[]⟩ (a_ t_ t_) ?_
     refine AW2.cond (b:=(p1 != (0:Int))) rfl (fun hc => ?_) (fun hc => ?_)
     ·replace H:=zaC H hc
      refine r_ [] [13,14,15,16,17,18,19] [] [] ⟨[(13,.d (.int .i64 x31.1)),(14,.d (.err 45 x31.2)),(15,.d (.int .i64 x33.1)),(16,.d (.err 45 x33.2)),(17,.d (.int .i64 x35.1)),(18,.d (.err 45 x35.2)),(19,.d (.int .i64 1))],[]⟩ (a_ t_ t_) ?_
      have H:=Option.some.inj H
      subst H
      exact zaV [13,14,15,16,17,18,19] [] [] t_ (by kernel_rfl)
     ·replace H:=zaD H hc
      refine AW2.skip ?_
      have H:=Option.some.inj H
      subst H
      exact zaV [13,14,15,16,17,18,19] [] [] t_ (by kernel_rfl)
end Go.Proofs.YtablleokoifolaaGreatDoor
set_option linter.unusedVariables false
set_option linter.unusedSimpArgs false
set_option maxRecDepth 100000
namespace Go.Proofs.YtablleokoifolaaGreatDoor
open Go
def s80:St8:=St8.mk [] 0 false false 0 true
def envS (ps:List Int) (r:Int) (b:List Instr):Env8:=Env8.mk (scM ps r b) r (ps++[127,126]) [r]
def endR (s:St8) (r:Int):Option (Int×Int):=
 (zad s r).bind fun x13 => if ((!x13.1.ok)||(decide ((x13.1.l.length:Int)>(0:Int))))=true then some (7,0) else some (0,x13.1.most)
theorem rB_sc (K S:Nat) (ps:List Int) (r:Int) (b:List Instr) (hp:ps.length<S) (hS:100≤S) (hS2:S<1000000000) (hK:S≤K):zeu K (scM ps r b) 0=if kindsB (scM ps r [])=true then (zan K (envS ps r b) s80 b).bind fun x11 => endR x11 r else some (1,0):=by
 unfold zeu
 have ek:zeD K (scM ps r b)=some (kindsB (scM ps r [])):=rkinds (scM_sz (by omega) hS2 ps r b hp) hK
 rw [ek,Option.bind_some]
 have e1:((scM ps r b).funcs.length:Int)=3:=rfl
 have e2:((scM ps r b).types.length:Int)=3:=rfl
 have e3:(scM ps r b).funcs.getD (0:Int).toNat default=Fnc.mk 0 [127,126] b:=rfl
 have e4:(scM ps r b).types.getD (Fnc.mk 0 [127,126] b).type_.toNat default=Typ.mk ps r:=rfl
 rw [e1,e2,e3,e4]
 rw [if_neg (by decide),if_neg (by decide),zap (by decide)]
 rw [if_neg (show ¬ decide ((Fnc.mk 0 [127,126] b).type_≥IntKind.wrap .u32 3)=true from (by decide:¬ decide ((0:Int)≥IntKind.wrap .u32 3)=true)),Option.bind_some]
 cases kindsB (scM ps r []) with
 | false => rfl
 | true => 
  rw [if_neg (by decide),if_pos rfl,zap (by decide)]
  rw [zap (show 0≤(Fnc.mk 0 [127,126] b).type_∧(Fnc.mk 0 [127,126] b).type_<3 from (by decide:(0:Int)≤0∧(0:Int)<3))]
  rw [zap (show ps.length * 1≤140737488355328 by omega),zap (by decide),zap (show (ps.length+([127,126]:List Int).length) * 1≤140737488355328 by show (ps.length+2) * 1≤_; omega),zap (by decide)]
  rfl
theorem zyM (ps:List Int) (r:Int) (b b':List Instr):ER [] (envS ps r b) (envS ps r b'):=
 ⟨rfl,rfl,fun n => (by match n with | 0 => rfl | 1 => rfl | 2 => rfl | n+3 => rfl),rfl,rfl,rfl,rfl,rfl,rfl⟩
theorem zyq (ps:List Int) (r:Int) (b b':List Instr):ER [r] (envS ps r b) (envL (envS ps r b') r):=
 ⟨rfl,rfl,fun n => (by match n with | 0 => rfl | 1 => rfl | 2 => rfl | n+3 => rfl),rfl,rfl,rfl,rfl,rfl,rfl⟩
theorem zyf (ps:List Int) (r:Int) (b:List Instr) {S:Nat} (hp:ps.length<S) (hS:100≤S):∀ t∈(envS ps r b).m.types,t.params.length<S:=by
 intro t ht
 rcases List.mem_cons.1 ht with rfl | ht
 ·exact hp
 rcases List.mem_cons.1 ht with rfl | ht
 ·show 1<S; omega
 rcases List.mem_cons.1 ht with rfl | ht
 ·show 0<S; omega
 cases ht
def pre3:List Instr:=[Instr.mk 1 0 0 0 0 [] [] [],Instr.mk 66 5 0 0 0 [] [] [],Instr.mk 26 0 0 0 0 [] [] []]
theorem pre3_run (k:Nat) (e:Env8):pre3.foldlM (stepR' (k+5) e) s80=some (phi 1 s80):=by kernel_rfl
theorem zwO {ps:List Int} {r:Int} {b:List Instr} {S K:Nat} (hw:IWL b) (hp:ps.length<S) (hS:100≤S) (hb:wtL b+S+1000≤K) (hK:K<1000000000) {s1:St8} (h:zan K (envS ps r b) s80 b=some s1) :
  zan K (envS ps r (pre3++b)) s80 (pre3++b)=some (phi 1 s1):=by
 have hl:=wtL_pos b
 have h2:=zvw 1 [] S (by omega) (by omega) (wtL b) (envS ps r b) (envS ps r (pre3++b)) b K K (Nat.le_refl _) (zyM ps r b _) (zyf ps r b hp hS) (by show 0+1+wtL b<_; omega) hw (by omega) (by omega) s80 s1 h (.inl rfl)
 obtain ⟨k,rfl⟩:∃ k,K=k+5+1:=⟨K - 6,by omega⟩
 rw [zeG (k+5) _ _ _ (by rw [List.length_append]; show 3+b.length<_; omega) (by rw [List.length_append]; show 3+b.length<_; omega),List.foldlM_append,pre3_run]
 rw [zeG (k+5) _ _ _ (by omega) (by omega)] at h2
 exact h2
theorem phi0:phi 0 s80=s80:=rfl
theorem zwm {ps:List Int} {r:Int} {b:List Instr} {S K:Nat} (hw:IWL b) (hp:ps.length<S) (hS:100≤S) (hb:wtL b+S+1000≤K) (hK:K<1000000000) (hr:K3 r) {s1 s2:St8} {v:Int} (h:zan K (envS ps r b) s80 b=some s1) (ht:zad s1 r=some (s2,v)) (ho:s2.ok=true) (hl0:s2.l.length=0) :
  ∃ s3,zan K (envS ps r [Instr.mk 2 0 0 0 r b [] []]) s80 [Instr.mk 2 0 0 0 r b [] []]=some s3∧endR s3 r=some (0,if r=0 then mxI s2.most 0 else mxI (mxI s2.most 0) 1):=by
 have hl:=wtL_pos b
 have hs1:s1.ok=true:=by
  cases h1:s1.ok with
  | true => rfl
  | false => rw [ztb ht h1] at ho; cases ho
 obtain ⟨k,rfl⟩:∃ k,K=k+2+1+1:=⟨K - 4,by omega⟩
 have h2:=zvw 0 [r] S (by omega) (by omega) (wtL b) (envS ps r b) (envL (envS ps r [Instr.mk 2 0 0 0 r b [] []]) r) b (k+2+1+1) (k+1) (Nat.le_refl _) (zyq ps r b _) (zyf ps r b hp hS) (by show 1+1+wtL b<_; omega) hw (by omega) (by omega) s80 s1 h (.inr hs1)
 rw [phi0] at h2
 rw [zeG (k+2+1) _ _ _ (by show 1<_; omega) (by show 1<_; omega),List.foldlM_cons]
 have hi:zao (k+2) (envS ps r [Instr.mk 2 0 0 0 r b [] []]) s80 b r r=some (St8.mk [] 0 false false (mxI s2.most 0) true):=by
  simp only [zao]
  have hll:(envS ps r [Instr.mk 2 0 0 0 r b [] []]).labels.length=1:=rfl
  rw [hll,zap (by decide),zap (by decide)]
  have h2':(if s80.away=true then ((zan (k+1) (Env8.mk (envS ps r [Instr.mk 2 0 0 0 r b [] []]).m (envS ps r [Instr.mk 2 0 0 0 r b [] []]).result (envS ps r [Instr.mk 2 0 0 0 r b [] []]).locals ((envS ps r [Instr.mk 2 0 0 0 r b [] []]).labels++([r]:List Int))) (St8.mk ([]:List Int) (wI (s80.under+(s80.l.length:Int))) false true s80.most s80.ok) b).bind fun x3 => some x3) else ((zan (k+1) (Env8.mk (envS ps r [Instr.mk 2 0 0 0 r b [] []]).m (envS ps r [Instr.mk 2 0 0 0 r b [] []]).result (envS ps r [Instr.mk 2 0 0 0 r b [] []]).locals ((envS ps r [Instr.mk 2 0 0 0 r b [] []]).labels++([r]:List Int))) (St8.mk ([]:List Int) (wI (s80.under+(s80.l.length:Int))) false s80.dead s80.most s80.ok) b).bind fun x5 => some x5))=some (phi 0 s1):=by
   rw [if_neg (by decide),Option.bind_fun_some]
   exact h2
  refine (congrArg (fun o => Option.bind o _) h2').trans ?_
  rw [Option.bind_some,take_phi' ht,Option.bind_some]
  show ((if s2.ok=true then some ((s2.l.length:Int)==(0:Int)) else some false).bind fun j10 => some (St8.mk [] 0 false false (mxI s2.most 0) j10))=_
  rw [if_pos ho,hl0]; rfl
 have hst:stepR' (k+2+1) (envS ps r [Instr.mk 2 0 0 0 r b [] []]) s80 (Instr.mk 2 0 0 0 r b [] [])=zam (St8.mk [] 0 false false (mxI s2.most 0) true) r:=by
  have e1:stepR' (k+2+1) (envS ps r [Instr.mk 2 0 0 0 r b [] []]) s80 (Instr.mk 2 0 0 0 r b [] [])=(zbB (k+2+1) (envS ps r [Instr.mk 2 0 0 0 r b [] []]) s80 (Instr.mk 2 0 0 0 r b [] [])).bind fun x11 => some x11:=rfl
  rw [e1,Option.bind_fun_some]
  simp only [zbB]
  show (if ((r != (0:Int))&&((r != (127:Int))&&(r != (126:Int))))=true then _ else _)=_
  rw [zwK,decide_eq_true hr,if_neg (by decide)]
  show (((zao (k+2) (envS ps r [Instr.mk 2 0 0 0 r b [] []]) s80 b r r).bind fun x4 => some x4).bind fun j1 => (zam j1 r).bind fun x2 => some x2)=_
  rw [hi,Option.bind_some,Option.bind_some,Option.bind_fun_some]
 rw [hst]
 have hlay:=zwx [] 0 false false (mxI s2.most 0) true r (by decide)
 have hlay':zam (St8.mk [] 0 false false (mxI s2.most 0) true) r=some (if r=0 then St8.mk [] 0 false false (mxI s2.most 0) true else St8.mk ([]++[r]) 0 false false (mxI (mxI s2.most 0) 1) true):=hlay
 rw [hlay']
 refine ⟨_,rfl,?_⟩
 unfold endR
 rcases hr with rfl | rfl | rfl
 ·rfl
 ·rw [if_neg (by decide)]
  rw [zlI _ _ _ _ _ _ _ (by decide)]
  rfl
 ·rw [if_neg (by decide)]
  rw [zlI _ _ _ _ _ _ _ (by decide)]
  rfl
theorem IWL_append:∀ (a b:List Instr),IWL a→IWL b→IWL (a++b)
 | [],b,_,hb => hb
 | x :: a,b,ha,hb => by
  simp only [IWL] at ha
  simp only [List.cons_append,IWL]
  exact ⟨ha.1,IWL_append a b ha.2 hb⟩
theorem wtL_append:∀ (a b:List Instr),wtL (a++b)+1=wtL a+wtL b
 | [],b => by simp only [List.nil_append,wtL]; omega
 | x :: a,b => by
  have:=wtL_append a b
  simp only [List.cons_append,wtL]; omega
theorem zxS {ps:List Int} {r:Int} {b:List Instr} {S K:Nat} (hw:IWL b) (hS:100≤S) (hb:wtL b+S+1000≤K):∀ fn∈(scM ps r b).funcs,IWL fn.body∧wtL fn.body+S+600≤K∧0≤fn.type_:=by
 have hl:=wtL_pos b
 intro t ht
 rcases List.mem_cons.1 ht with rfl | ht
 ·exact ⟨hw,by show wtL b+S+600≤K; omega,Int.le_refl 0⟩
 rcases List.mem_cons.1 ht with rfl | ht
 ·refine ⟨by simp [IWL,IWI],?_,by show (0:Int)≤1; decide⟩
  have:wtL [Instr.mk 66 0 0 0 0 [] [] []]=6:=by decide
  show wtL [Instr.mk 66 0 0 0 0 [] [] []]+S+600≤K
  omega
 rcases List.mem_cons.1 ht with rfl | ht
 ·refine ⟨by simp [IWL],?_,by show (0:Int)≤2; decide⟩
  have:wtL []=1:=by decide
  show wtL []+S+600≤K
  omega
 cases ht
theorem zwN (ps:List Int) (r:Int) (b:List Instr) (S K:Nat) (hr:0≤r∧r<256) (hw:IWL b) (hp:ps.length<S) (hS:100≤S) (hb:wtL b+S+2000≤K) (hK:K<100000000):zcX K ps r b=some true:=by
 have hl:=wtL_pos b
 have gv:GvOk K (scM ps r b):=scM_gvK (by omega) (by omega) ps r b (by omega) (by omega)
 have wp:wtL pre3=16:=by decide
 have wpb:=wtL_append pre3 b
 have wc:wtL [Instr.mk 2 0 0 0 r b [] []]=wtL b+5:=by simp only [wtL,wtI]; omega
 have ip:IWL (pre3++b):=IWL_append pre3 b (by simp [pre3,IWL,IWI]) hw
 have ic:IWL [Instr.mk 2 0 0 0 r b [] []]:=by simp [IWL,IWI,hw]
 obtain ⟨ea,ma,a1,a2,a3,a4⟩:=zqR (scM_sz (by omega) (by omega) ps r b hp) 0 (zxS hw hS (by omega:wtL b+S+1000≤K)) (by omega) (by omega)
 obtain ⟨eb,mb,b1,b2,b3,b4⟩:=zqR (scM_sz (by omega) (by omega) ps r (pre3++b) hp) 0 (zxS ip hS (by omega:wtL (pre3++b)+S+1000≤K)) (by omega) (by omega)
 obtain ⟨ec,mc,c1,c2,c3,c4⟩:=zqR (scM_sz (by omega) (by omega) ps r [Instr.mk 2 0 0 0 r b [] []] hp) 0 (zxS ic hS (by omega:wtL [Instr.mk 2 0 0 0 r b [] []]+S+1000≤K)) (by omega) (by omega)
 have key:eb.getD 0=ea.getD 0∧(ea.getD 0=0→ec.getD 0=0∧mb=mxI ma 1∧mc=mxI ma (if r=0 then 0 else 1)):=by
  rw [rB_sc K S ps r b hp hS (by omega) (by omega)] at a3
  rw [rB_sc K S ps r (pre3++b) hp hS (by omega) (by omega)] at b3
  rw [rB_sc K S ps r [Instr.mk 2 0 0 0 r b [] []] hp hS (by omega) (by omega)] at c3
  cases hk:kindsB (scM ps r []) with
  | false => 
   rw [hk] at a3 b3 c3
   obtain ⟨x1,y1⟩:=Prod.mk.inj (Option.some.inj a3)
   obtain ⟨x2,y2⟩:=Prod.mk.inj (Option.some.inj b3)
   refine ⟨by rw [← x1,← x2],fun h => ?_⟩
   rw [← x1] at h; cases h
  | true => 
   rw [hk,if_pos rfl] at a3 b3 c3
   have hr3:K3 r:=by
    have:=hk
    unfold kindsB at this
    simp only [Bool.and_eq_true,List.all_eq_true] at this
    have h1:=this.1 (Typ.mk ps r) List.mem_cons_self
    unfold kT at h1
    simp only [Bool.and_eq_true] at h1
    exact of_decide_eq_true h1.1
   obtain ⟨s1,hs1,a3⟩:=bind_some a3
   unfold endR at a3
   obtain ⟨p,hp1,a3⟩:=bind_some a3
   rw [zwO hw hp hS (by omega) (by omega) hs1,Option.bind_some] at b3
   unfold endR at b3
   rw [take_phi' (s1:=p.1) (v:=p.2) hp1,Option.bind_some] at b3
   have b3':(if ((!p.1.ok)||(decide ((p.1.l.length:Int)>(0:Int))))=true then some (7,0) else some (0,mxI p.1.most 1))=some (eb.getD 0,mb):=b3
   by_cases hbad:((!p.1.ok)||(decide ((p.1.l.length:Int)>(0:Int))))=true
   ·rw [if_pos hbad] at a3 b3'
    obtain ⟨x1,y1⟩:=Prod.mk.inj (Option.some.inj a3)
    obtain ⟨x2,y2⟩:=Prod.mk.inj (Option.some.inj b3')
    refine ⟨by rw [← x1,← x2],fun h => ?_⟩
    rw [← x1] at h; cases h
   ·rw [if_neg hbad] at a3 b3'
    obtain ⟨x1,y1⟩:=Prod.mk.inj (Option.some.inj a3)
    obtain ⟨x2,y2⟩:=Prod.mk.inj (Option.some.inj b3')
    refine ⟨by rw [← x1,← x2],fun _ => ?_⟩
    rw [Bool.or_eq_true,not_or] at hbad
    have ho:p.1.ok=true:=by simpa using hbad.1
    have hl0:p.1.l.length=0:=by
     have:¬ ((p.1.l.length:Int)>0):=fun e => hbad.2 (decide_eq_true e)
     omega
    obtain ⟨s3,w1,w2⟩:=zwm hw hp hS (by omega) (by omega) hr3 hs1 (s2:=p.1) (v:=p.2) hp1 ho hl0
    rw [w1,Option.bind_some,w2] at c3
    obtain ⟨x3,y3⟩:=Prod.mk.inj (Option.some.inj c3)
    refine ⟨x3.symm,by rw [← y2,← y1],?_⟩
    rw [← y3,← y1]
    by_cases h0:r=0
    ·rw [if_pos h0,if_pos h0]
    ·rw [if_neg h0,if_neg h0]; unfold mxI; (repeat' split) <;> omega
 obtain ⟨k1,k2⟩:=key
 unfold zcX
 obtain ⟨bg,e1⟩:=zyu gv
 rw [scM_eq,Option.bind_some,e1,Option.bind_some]
 cases bg with
 | true => rfl
 | false => 
  have g1:zaF K (scM ps r b)=some (scM ps r b):=giveModule_id gv
  rw [if_neg (by decide),g1,Option.bind_some,a1,Option.bind_some,zxL,Option.bind_some]
  rw [zap (by decide),zap (show (0:Int)≤0∧(0:Int)<((scM ps r b).funcs.length:Int) from (by decide:(0:Int)≤0∧(0:Int)<3))]
  refine (zap (show (3+b.length) * 104≤140737488355328 by omega)).trans ?_
  rw [Option.bind_some]
  rw [zap (show (0:Int)≤0∧(0:Int)<((scM ps r b).funcs.length:Int) from (by decide:(0:Int)≤0∧(0:Int)<3))]
  show ((zcE K (scM ps r (pre3++b)) 0).bind _)=_
  rw [b1,Option.bind_some,zxL,Option.bind_some,k1]
  rw [if_neg (by simp)]
  by_cases hz:ea.getD 0=0
  rotate_left
  ·rw [if_pos (by simpa using hz)]; rfl
  rw [if_neg (by simpa using hz)]
  obtain ⟨z1,z2,z3⟩:=k2 hz
  have na:ea=none:=by
   rcases a4 with h | h | h
   ·exact h
   ·rw [h] at hz; cases hz
   ·rw [h] at hz; cases hz
  have nb:eb=none:=by
   rcases b4 with h | h | h
   ·exact h
   ·rw [h,hz] at k1; cases k1
   ·rw [h,hz] at k1; cases k1
  have nc:ec=none:=by
   rcases c4 with h | h | h
   ·exact h
   ·rw [h] at z1; cases z1
   ·rw [h] at z1; cases z1
  subst na nb nc
  rw [Option.bind_some,Option.bind_some]
  rw [zap (show (0:Int)≤0∧(0:Int)<((scM ps r b).funcs.length:Int) from (by decide:(0:Int)≤0∧(0:Int)<3)),zap (show (0:Int)≤0∧(0:Int)<((scM ps r b).funcs.length:Int) from (by decide:(0:Int)≤0∧(0:Int)<3)),a2,Option.bind_some]
  show ((zbA K (scM ps r [Instr.mk 2 0 0 0 r b [] []]) 0).bind fun x33 => (zbA K (scM ps r (pre3++b)) 0).bind _)=_
  rw [c2,Option.bind_some,b2,Option.bind_some,z2,z3]
  by_cases h0:r=0
  ·subst h0
   rw [if_neg (by decide),Option.bind_some]
   simp [zdS]
  ·rw [if_pos (by simpa using h0),Option.bind_some,if_neg h0]
   simp [zdS]
end Go.Proofs.YtablleokoifolaaGreatDoor
set_option linter.unusedVariables false
set_option linter.unusedSimpArgs false
namespace Go.Proofs.YtablleokoifolaaGreatDoor
open Go Go.ChangeShapes Go.RowKit Go.Deep
section
variable {H:Type} {enc:TypeId×Value→H} {E:Env} {W:World}
def old (W:World) (b:Nat):Prop:=b<W.heap.size
def Rd (enc:TypeId×Value→H) (E:Env) (W:World) {α:Type} (t:TypeId) (en:α→List FV) (wf:α→Prop) (n:Nat):Prop:=
 ∀ (base:Nat) (sp:Nat→Bool) (hd:Bool) (cs:List Value) (x:DataW H×List MemPlace),DataW.trod enc E.P W base sp hd n t cs=some x →
  ∃ a,wf a∧cs.length=(en a).length∧∀ j,j<cs.length→RVF E W.heap (old W) (toA ((en a).getD j .undef)) (cs.getD j Go.undef)
theorem zxV {t:TypeId} {k:IntKind} (ht:E.P.underlying t=some (.int k)) (n:Nat):Rd enc E W t (eI k) (fun x => (Lit.int k x).wf=true) n:=by
 intro base sp hd cs x h
 obtain ⟨b,rfl,_,hw⟩:=DataW.trod_int ht h
 refine ⟨b,hw,rfl,fun j hj => ?_⟩
 obtain rfl:j=0:=by simp at hj; omega
 exact .int k b
theorem toA_sV {α:Type} [Inhabited α] (en:α→List FV) (l:List α):toA (sV en l)=.slv ((List.range l.length).map fun i => (en (l.getD i default)).map toA):=by
 simp only [sV,toA,fl,toAL_map]
end
theorem mapM_ext {α β:Type} {f g:α→Option β}:∀ {l:List α} {ys:List β},l.mapM f=some ys→(∀ a,a∈l→∀ y,f a=some y→y∈ys→g a=some y)→l.mapM g=some ys
 | [],ys,h,_ => by simpa using h
 | a :: l,ys,h,hg => by
  rw [List.mapM_cons] at h ⊢
  cases hfa:f a with
  | none => rw [hfa] at h; cases h
  | some y => 
   rw [hfa] at h
   cases hl:l.mapM f with
   | none => rw [hl] at h; cases h
   | some zs => 
    rw [hl] at h
    obtain rfl:y :: zs=ys:=Option.some.inj h
    rw [hg a (by simp) y hfa (by simp),mapM_ext hl fun b hb z hz hm => hg b (by simp [hb]) z hz (by simp [hm])]
    rfl
def TyOk (P:Program) (T:TypeId→Prop):Prop:=
 ∀ t,T t→P.underlying t=some .bool∨(∃ k,P.underlying t=some (.int k))∨P.underlying t=some .string∨(∃ e,P.underlying t=some (.slice e)∧T e∧0<P.cellsOf e)∨∃ fs,P.underlying t=some (.struct fs)∧∀ f∈fs.toList,T f.type
section
variable {H:Type} {enc:TypeId×Value→H} {P:Program} {W W':World}
theorem zwU (hs:∀ b,b<W.heap.size→W'.heap[b]? = W.heap[b]?) {base:Nat} {a:Addr} {n:Nat} {cs:List Value} (h:W.cells? base a n=some cs):W'.cells? base a n=some cs:=by
 unfold World.cells? at h ⊢
 split
 ·rename_i hb
  rw [if_pos hb] at h
  refine mapM_ext h fun i _ y hy _ => ?_
  unfold World.cell? at hy ⊢
  split at hy
  ·rename_i C T fr hh
   rw [hs _ (Array.getElem?_eq_some_iff.1 hh).1,hh]
   exact hy
  ·cases hy
 ·rename_i hb; rw [if_neg hb] at h; exact h
theorem zxf {T:TypeId→Prop} (hT:TyOk P T) (hs:∀ b,b<W.heap.size→W'.heap[b]? = W.heap[b]?) {base:Nat} {hd:Bool} {sp:Nat→Bool}:∀ (n:Nat) (t:TypeId) (cs:List Value) (x:DataW H×List MemPlace),T t →
  DataW.trod enc P W base (fun _ => true) hd n t cs=some x→(∀ p∈x.2,sp p.block=true)→DataW.trod enc P W' base sp hd n t cs=some x:=by
 intro n
 induction n with
 | zero => intro t cs x _ h; cases h
 | succ n ih => 
  intro t cs x ht h hp
  have sub:∀ e,T e→∀ (a:Addr) (m:Nat) (y:DataW H×List MemPlace),(W.cells? base a m).bind (DataW.trod enc P W base (fun _ => true) hd n e)=some y→(∀ p∈y.2,sp p.block=true) →
    (W'.cells? base a m).bind (DataW.trod enc P W' base sp hd n e)=some y:=by
   intro e he a m y hy hyp
   obtain ⟨cs',h1,h2⟩:=Option.bind_eq_some_iff.1 hy
   rw [zwU hs h1]
   exact ih e cs' y he h2 hyp
  rcases hT t ht with hu | ⟨k,hu⟩ | hu | ⟨e,hu,he,hpos⟩ | ⟨fs,hu,hfs⟩
  ·obtain ⟨b,rfl,rfl⟩:=DataW.trod_bool hu h
   simp [DataW.trod,hu]
  ·obtain ⟨z,rfl,rfl,hw⟩:=DataW.trod_int hu h
   simp [DataW.trod,hu,hw]
  ·obtain ⟨z,rfl,rfl,hw⟩:=DataW.trod_string hu h
   simp [DataW.trod,hu,hw]
  ·have h0:=h
   unfold DataW.trod at h ⊢
   rw [hu] at h ⊢
   rcases DataW.trod_slice hu h0 with ⟨rfl,rfl⟩ | ⟨a,len,cap,el0,re0,n',hn,rfl,hx,hb,hl,hm,hlen,-,hsp,-⟩
   ·rfl
   ·simp only at h ⊢
    rw [if_pos ⟨hb,hl,hm⟩] at h ⊢
    simp only [Option.bind_eq_some_iff,Option.map_eq_some_iff,if_true] at h
    obtain ⟨elems,h1,rest,h2,h3⟩:=h
    have hsa:cap - len≠0∨cap - len=0:=by omega
    have hpe:∀ y∈elems++rest,∀ p∈y.2,sp p.block=true:=by
     intro y hy p hpy
     refine hp p ?_
     rw [← h3]
     exact List.mem_append_right _ (List.mem_flatMap.2 ⟨y,hy,hpy⟩)
    have e1:=mapM_ext (g:=fun i => (W'.cells? base (a.add (i * P.cellsOf e)) (P.cellsOf e)).bind (DataW.trod enc P W' base sp hd n e)) h1 fun i _ y hy hm => sub e he _ _ y hy (hpe y (List.mem_append_left _ hm))
    rw [e1,Option.bind_some]
    have e2:(if sp a.block=true then (List.range (cap - len)).mapM fun j => (W'.cells? base (a.add ((len+j) * P.cellsOf e)) (P.cellsOf e)).bind (DataW.trod enc P W' base sp hd n e) else some [])=some rest:=by
     by_cases hz:cap - len=0
     ·rw [hz] at h2 ⊢
      simp only [List.range_zero,List.mapM_nil] at h2 ⊢
      split
      ·exact h2
      ·exact h2
     ·have hr:=mapM_some_length h2
      have:sp a.block=true:=by
       refine hp (.cell a.block (a.off+0)) ?_
       rw [← h3]
       refine List.mem_append_left _ (List.mem_map.2 ⟨0,List.mem_range.2 ?_,rfl⟩)
       simp only [List.length_range] at hr
       exact Nat.mul_pos (by omega) hpos
      rw [if_pos this]
      exact mapM_ext h2 fun i _ y hy hm => sub e he _ _ y hy (hpe y (List.mem_append_right _ hm))
    rw [e2,← h3]
    rfl
  ·unfold DataW.trod at h ⊢
   rw [hu] at h ⊢
   simp only at h ⊢
   split
   ·rename_i hl
    rw [if_pos hl] at h
    obtain ⟨xs,h1,h2⟩:=Option.map_eq_some_iff.1 h
    have hpe:∀ y∈xs,∀ p∈y.2,sp p.block=true:=by
     intro y hy p hpy
     refine hp p ?_
     rw [← h2]
     exact List.mem_flatMap.2 ⟨y,hy,hpy⟩
    have e1:=mapM_ext (g:=fun f:Field => DataW.trod enc P W' base sp hd n f.type ((cs.drop f.offset).take (P.cellsOf f.type))) h1 fun f hf y hy hm => ih f.type _ y (hfs f hf) hy (hpe y hm)
    rw [e1,← h2]
    rfl
   ·rename_i hl
    rw [if_neg hl] at h
    cases h
theorem trodAll_ext {T:TypeId→Prop} (hT:TyOk P T) (hs:∀ b,b<W.heap.size→W'.heap[b]? = W.heap[b]?) {base:Nat} {hd:Bool} {sp:Nat→Bool}:∀ (ts:List TypeId) (vs:List Value) (ds:List (DataW H)) (ps:List MemPlace),(∀ t∈ts,T t) →
  DataW.TrodAll enc P W base (fun _ => true) hd ts vs ds ps→(∀ p∈ps,sp p.block=true)→DataW.TrodAll enc P W' base sp hd ts vs ds ps
 | [],vs,ds,ps,_,h,_ => by
  obtain ⟨rfl,rfl,rfl⟩:=trodAll_nil h
  rfl
 | t :: ts,vs,ds,ps,ht,h,hp => by
  obtain ⟨v,vs1,d,ds1,a,c,rfl,rfl,rfl,⟨n,h1⟩,h2⟩:=trodAll_cons h
  exact ⟨a,c,⟨n,zxf hT hs n t _ _ (ht t (by simp)) h1 fun p hpp => hp p (by simp [hpp])⟩,trodAll_ext hT hs ts vs1 ds1 c (fun t h => ht t (by simp [h])) h2 fun p hpp => hp p (by simp [hpp]),rfl⟩
theorem zuk (hs:∀ b,b<W.heap.size→W'.heap[b]? = W.heap[b]?) (ho:W'.os=W.os) (hp:W'.output=W.output) (may:MemPlace→Prop):W.keptBut W' may:=by
 refine ⟨ho,hp,fun i hi => ?_⟩
 rw [hs i hi]
 split
 ·rename_i c t fr c' t' fr' h1 h2
  rw [h1] at h2
  cases h2
  exact ⟨rfl,rfl,rfl,fun _ _ => rfl⟩
 ·rename_i es cl es' cl' h1 h2
  rw [h1] at h2
  cases h2
  exact .inr ⟨rfl,rfl⟩
 ·rfl
end
end Go.Proofs.YtablleokoifolaaGreatDoor
set_option linter.unusedVariables false
set_option linter.unusedSimpArgs false
namespace Go.Proofs.YtablleokoifolaaGreatDoor
open Go Go.ChangeShapes Go.WideShapes Go.RowKit
theorem own:ownKnob Tryz.prog.godebug=none:=by kernel_rfl
theorem etN:Tryz.prog.globalNamed "errors.errorType" = some 0:=by kernel_rfl
theorem rtN:(Tryz.prog.cutTypes.find? (·.1 == "internal/reflectlite.rtype")).map (·.2)=some 170:=by kernel_rfl
theorem oneRow:((List.range 251).filter fun t => Tryz.prog.rowNamed t [101,114,114,111,114])=[44]:=by kernel_rfl
theorem tsize:Tryz.prog.types.size=251:=by kernel_rfl
theorem gsize:Tryz.prog.globals.size=2:=by kernel_rfl
theorem row1:((begin Tryz.prog (fun _ _ => 0) default).world.heap[1]?).bind Obj.row? = some (#[.int .i64 0],3):=by kernel_rfl
theorem ct3:Tryz.prog.cellTypes Tryz.prog.depth 3=some [3]:=by kernel_rfl
theorem b3:Tryz.prog.buildable 3=true:=by kernel_rfl
abbrev laidE:List (String×DataW Unit):=[("errors.errorType",Rows.laid_errors_errorType)]
theorem zse {W:World} (h:laidMetH Tryz.prog laidE W):W.cell? ⟨0,0,none⟩=some errV:=by
 have h':laidMet Tryz.prog [] W∧handlesMet Tryz.prog laidE W:=h
 obtain ⟨name,u,ty,e1,e2,e3,e4,e5⟩:=h'.2 _ (List.mem_singleton.2 rfl)
 have en:name=[101,114,114,111,114]:=(Option.some.inj e1).symm
 subst en
 obtain rfl:=Option.some.inj (rtN.symm.trans e2)
 have hm:ty∈(List.range 251).filter fun t => Tryz.prog.rowNamed t [101,114,114,111,114]:=List.mem_filter.2 ⟨List.mem_range.2 (by rw [← tsize]; exact e3),e4⟩
 rw [oneRow] at hm
 obtain rfl:=List.mem_singleton.1 hm
 have hh:typeHandle Tryz.prog 44=.pointer (some ⟨2,44,none⟩):=by kernel_rfl
 rw [hh] at e5
 simpa [errV] using World.var?_cell etN e5 0
theorem zum {P:Program} {w:World} {g:Nat} {t:TypeId} {k:IntKind} {zero:Array Value} (h:w.ShapedOpen P) (hg:g<P.globals.size)
  (h0:((begin P (fun _ _ => 0) default).world.heap[g]?).bind Obj.row? = some (zero,t)) (hz:zero.size=1)
  (hb:P.buildable t=true) (hc:P.cellTypes P.depth t=some [t]) (hu:P.underlying t=some (.int k)):∃ n,w.cell? ⟨g,0,none⟩=some (.int k n):=by
 obtain ⟨cs,hh,hs,hr⟩:=h.1 g zero t hg h0
 obtain ⟨ts,hts,_,hall⟩:=hr hb
 rw [hc] at hts
 cases hts
 have h1:0<cs.size:=by omega
 obtain ⟨u,hu',hok⟩:=hall 0 cs[0] (by simp [h1])
 have:u=t:=by simpa using hu'.symm
 subst this
 have hcell:w.cell? ⟨g,0,none⟩=some cs[0]:=by simp [World.cell?,hh,h1]
 rw [hcell]
 unfold Cell.ok at hok
 rw [hu] at hok
 cases hv:cs[0] with
 | int k' n => rw [hv] at hok; obtain ⟨rfl,_⟩:=hok; exact ⟨n,rfl⟩
 | _ => rw [hv] at hok; simp at hok
set_option maxRecDepth 100000 in
theorem maxLen_of_shape {W:World} (h:W.ShapedOpen Tryz.prog):∃ n,W.cell? ⟨1,0,none⟩=some (.int .i64 n):=
 zum h (gsize ▸ by decide) row1 rfl b3 ct3 Tryz.underlying3
theorem cellH_of {W:World} {b:Nat} {v:Value} (h:W.cell? ⟨b,0,none⟩=some v):cellH W.heap b=some v:=by
 unfold World.cell? at h
 unfold cellH
 split at h
 ·rename_i C T fr hb
  simp only at hb
  rw [hb]
  simpa using h
 ·cases h
theorem zyp {W:World} (hl:laidMetH Tryz.prog laidE W) (hs:W.ShapedOpen Tryz.prog):E.gok W.heap∧E.gb≤W.heap.size:=by
 obtain ⟨n,hn⟩:=maxLen_of_shape hs
 refine ⟨⟨cellH_of (zse hl),n,cellH_of hn⟩,?_⟩
 have:=cellH_of hn
 unfold cellH at this
 split at this
 ·rename_i hb
  have:=(Array.getElem?_eq_some_iff.1 hb).1
  show 2≤W.heap.size
  omega
 ·cases this
noncomputable def laidWorld (os:Os):World:=
  { World.holding Tryz.prog os ⟨#[],#[],[]⟩ with heap:=(World.holding Tryz.prog os ⟨#[],#[],[]⟩).heap.modify 0 fun
      | .cells _ t frozen => .cells #[errV] t frozen
      | o => o }
theorem laidWorld_met (os:Os) (args:Array Value):laidMetH Tryz.prog laidE ((laidWorld os).forCall (fun _ _ => 0) ⟨#[],args,[]⟩).memory:=
 laidMetH_of_parts (laidMet_nil _ _) (by kernel_rfl)
theorem zxp {H:Array Obj} {F:Nat→Prop} {b:Bool} {v:Value} (h:RVF E H F (.bool b) v):v=.bool b:=by cases h; rfl
end Go.Proofs.YtablleokoifolaaGreatDoor
set_option linter.unusedVariables false
set_option linter.unusedSimpArgs false
namespace Go.Proofs.YtablleokoifolaaGreatDoor
open Go Go.ChangeShapes Go.RowKit Go.Deep
section
variable {H:Type} {enc:TypeId×Value→H} {E:Env} {W:World}
def Rd2 (enc:TypeId×Value→H) (E:Env) (W:World) {α:Type} (t:TypeId) (en:α→List FV) (wf:α→DataW H→Prop) (n:Nat):Prop:=
 ∀ (base:Nat) (sp:Nat→Bool) (hd:Bool) (cs:List Value) (x:DataW H×List MemPlace),DataW.trod enc E.P W base sp hd n t cs=some x →
  ∃ a,wf a x.1∧cs.length=(en a).length∧∀ j,j<cs.length→RVF E W.heap (old W) (toA ((en a).getD j .undef)) (cs.getD j Go.undef)
theorem Rd2.zero {α:Type} {t:TypeId} {en:α→List FV} {wf:α→DataW H→Prop}:Rd2 enc E W t en wf 0:=fun base sp hd cs x h => by cases h
theorem rd2_int {t:TypeId} {k:IntKind} (ht:E.P.underlying t=some (.int k)) (n:Nat):Rd2 enc E W t (eI k) (fun x d => (Lit.int k x).wf=true) n:=by
 intro base sp hd cs x h
 obtain ⟨b,h1,h2,h3⟩:=zxV (enc:=enc) (E:=E) (W:=W) ht n base sp hd cs x h
 exact ⟨b,h1,h2,h3⟩
def wfS {α:Type} [Inhabited α] (wf:α→DataW H→Prop) (l:List α) (d:DataW H):Prop:=
 l.length≤maxLen∧((d=.nil∧l=[])∨∃ ds rest,d=.slice ds rest∧ds.length=l.length∧∀ i,i<l.length→wf (l.getD i default) (ds.getD i .nil))
theorem rd2_slice {α:Type} [Inhabited α] {t e:TypeId} {en:α→List FV} {wf:α→DataW H→Prop} (ht:E.P.underlying t=some (.slice e)) (hs:0<E.P.cellsOf e)
  (hsz:∀ a,(en a).length=E.P.cellsOf e) (hk:∀ a,∀ v∈en a,cellOk (toA v)=true) (n':Nat) (h:Rd2 enc E W e en wf n') :
  Rd2 enc E W t (fun l:List α => [sV en l]) (wfS wf) (n'+1):=by
 intro base sp hd cs x hx
 rcases DataW.trod_slice ht hx with ⟨rfl,rfl⟩ | ⟨a,len,cap,elems,rest,n2,hn2,rfl,rfl,hb,hl,hm,hlen0,hel,_,_⟩
 ·refine ⟨[],⟨Nat.zero_le _,.inl ⟨rfl,rfl⟩⟩,rfl,fun j hj => ?_⟩
  obtain rfl:j=0:=by simp at hj; omega
  exact .slv0 none 0
 obtain rfl:n2=n':=by omega
 let D:Nat→DataW H:=fun i => (elems.map (·.1)).getD i .nil
 have hel2:∀ i,i<len→∃ cs' y,W.cells? base (a.add (i * E.P.cellsOf e)) (E.P.cellsOf e)=some cs'∧DataW.trod enc E.P W base sp hd n2 e cs'=some y∧y.1=D i:=by
  intro i hi
  have h1:=hel i hi
  rw [List.getElem?_eq_getElem (by omega)] at h1
  obtain ⟨cs',h2,h3⟩:=Option.bind_eq_some_iff.1 h1
  refine ⟨cs',_,h2,h3,?_⟩
  show _=(elems.map (·.1)).getD i .nil
  rw [List.getD_eq_getElem?_getD,List.getElem?_map,List.getElem?_eq_getElem (by omega)]; rfl
 have key:∀ i,i<len→∃ (b:α) (cs':List Value),wf b (D i)∧E.P.cellsOf e=cs'.length∧cs'.length=(en b).length∧(∀ j,j<cs'.length→W.cell? ((a.add (i * E.P.cellsOf e)).add j)=some (cs'.getD j Go.undef)) ∧
   ∀ j,j<cs'.length→RVF E W.heap (old W) (toA ((en b).getD j .undef)) (cs'.getD j Go.undef):=by
  intro i hi
  obtain ⟨cs',y,h1,h2,h2'⟩:=hel2 i (by omega)
  obtain ⟨_,hlen,hc⟩:=World.cells?_some h1
  obtain ⟨b,w1,w2,w3⟩:=h base sp hd cs' _ h2
  rw [h2'] at w1
  refine ⟨b,cs',w1,hlen.symm,w2,fun j hj => ?_,w3⟩
  have:=hc j (by omega)
  simpa [List.getD_eq_getElem?_getD,hj] using this
 obtain ⟨B,hB⟩:=choose_lt (α:=α) (p:=fun i b => ∃ cs':List Value,wf b (D i)∧E.P.cellsOf e=cs'.length∧cs'.length=(en b).length∧(∀ j,j<cs'.length→W.cell? ((a.add (i * E.P.cellsOf e)).add j)=some (cs'.getD j Go.undef)) ∧
   ∀ j,j<cs'.length→RVF E W.heap (old W) (toA ((en b).getD j .undef)) (cs'.getD j Go.undef)) key
 have hll:((List.range len).map B).length=len:=by simp
 refine ⟨(List.range len).map B,⟨by rw [hll]; omega,.inr ⟨_,_,rfl,by rw [hll,List.length_map,hlen0],fun i hi => ?_⟩⟩,rfl,fun j hj => ?_⟩
 ·rw [hll] at hi
  have e1:((List.range len).map B).getD i default=B i:=by simp [List.getD_eq_getElem?_getD,hi]
  rw [e1,show (elems.map (·.1)).getD i .nil=D i from rfl]
  exact (hB i hi).choose_spec.1
 ·obtain rfl:j=0:=by simp at hj; omega
  show RVF E W.heap (old W) (toA (sV en ((List.range len).map B))) (.slice (some a) len cap)
  rw [toA_sV,hll]
  by_cases h0:len=0
  ·subst h0
   exact .slv0 (some a) cap
  ·have hB0:=hB 0 (by omega)
   have first:∃ C T fr,W.heap[a.block]? = some (.cells C T fr)∧a.spot=none:=by
    obtain ⟨cs',_,hc,_,hcell,_⟩:=hB0
    have:=hcell 0 (by omega)
    rw [Nat.zero_mul] at this
    have ea:(a.add 0).add 0=a:=rfl
    rw [ea] at this
    unfold World.cell? at this
    split at this
    ·rename_i C T fr hh
     refine ⟨C,T,fr,hh,?_⟩
     split at this
     ·cases this
     ·rename_i hsn
      cases hsp:a.spot with
      | none => rfl
      | some q => rw [hsp] at hsn; exact absurd rfl hsn
    ·cases this
   obtain ⟨C,T,fr,hC,hspot⟩:=first
   obtain ⟨blk,off,spot⟩:=a
   simp only at hspot hC
   subst hspot
   have cellC:∀ i j,i<len→j<E.P.cellsOf e→∃ (b:α) (cs':List Value),B i=b∧cs'.length=(en b).length∧E.P.cellsOf e=cs'.length∧off+i * E.P.cellsOf e+j<C.size∧C.getD (off+i * E.P.cellsOf e+j) Go.undef=cs'.getD j Go.undef ∧
     RVF E W.heap (old W) (toA ((en b).getD j .undef)) (cs'.getD j Go.undef):=by
    intro i j hi hj
    obtain ⟨cs',_,hc,hc2,hcell,hr⟩:=hB i hi
    have h1:=hcell j (by omega)
    rw [add_add] at h1
    have h2:(Addr.add ⟨blk,off,none⟩ (i * E.P.cellsOf e+j))=⟨blk,off+(i * E.P.cellsOf e+j),none⟩:=by
     unfold Addr.add
     split
     ·rename_i hz; simp [hz]
     ·rfl
    rw [h2] at h1
    unfold World.cell? at h1
    simp only [hC,Option.isSome_none,Bool.false_eq_true,if_false] at h1
    have hlt:off+(i * E.P.cellsOf e+j)<C.size:=(Array.getElem?_eq_some_iff.1 h1).1
    refine ⟨B i,cs',rfl,hc2,hc,by omega,?_,hr j (by omega)⟩
    have:C.getD (off+i * E.P.cellsOf e+j) Go.undef=C.getD (off+(i * E.P.cellsOf e+j)) Go.undef:=by rw [Nat.add_assoc]
    rw [this,Array.getD_eq_getD_getElem?,h1]; rfl
   have hlen2:((List.range len).map fun i => (en (((List.range len).map B).getD i default)).map toA).length=len:=by simp
   have hget:∀ i,i<len→((List.range len).map fun i => (en (((List.range len).map B).getD i default)).map toA).getD i []=(en (B i)).map toA:=by
    intro i hi
    simp [List.getD_eq_getElem?_getD,hi]
   have hr:=RVF.slv (E:=E) (H:=W.heap) (F:=old W) ((List.range len).map fun i => (en (((List.range len).map B).getD i default)).map toA) blk off cap (E.P.cellsOf e) C T fr (Array.getElem?_eq_some_iff.1 hC).1 hC
    (by
     rw [hlen2]
     have:=cellC (len - 1) (E.P.cellsOf e - 1) (by omega) (by omega)
     obtain ⟨_,_,_,_,_,hlt,_⟩:=this
     have e1:len * E.P.cellsOf e=(len - 1) * E.P.cellsOf e+E.P.cellsOf e:=by
      have:len=(len - 1)+1:=by omega
      conv => lhs; rw [this,Nat.add_mul,Nat.one_mul]
     omega)
    (by rw [hlen2]; exact hl)
    (by
     rw [hlen2]
     intro i hi
     rw [hget i hi]; simp [hsz])
    (by
     rw [hlen2]
     intro i j hi hj
     rw [hget i hi]
     have hjl:j<(en (B i)).length:=by rw [hsz]; exact hj
     rw [List.getD_eq_getElem?_getD,List.getElem?_map,List.getElem?_eq_getElem hjl]
     exact hk _ _ (List.getElem_mem hjl))
    (by
     rw [hlen2]
     intro i j hi hj
     rw [hget i hi]
     obtain ⟨b,cs',rfl,_,_,_,hcv,hrv⟩:=cellC i j hi hj
     rw [hcv]
     have hjl:j<(en (B i)).length:=by rw [hsz]; exact hj
     rw [List.getD_eq_getElem?_getD,List.getElem?_eq_getElem hjl] at hrv
     rw [List.getD_eq_getElem?_getD,List.getElem?_map,List.getElem?_eq_getElem hjl]
     exact hrv)
   rw [hlen2] at hr
   exact hr
theorem zxA:∀ d:DataW H,1≤Rows.uptoBulk d:=fun d => by
 cases d with
 | lit l => cases l <;> simp [Rows.uptoBulk]
 | _ => simp [Rows.uptoBulk]
theorem bulkAll_get:∀ (ds:List (DataW H)),ds.length≤Rows.uptoBulkAll ds∧∀ i,i<ds.length→Rows.uptoBulk (ds.getD i .nil)≤Rows.uptoBulkAll ds
 | [] => ⟨Nat.le_refl _,fun i h => by simp at h⟩
 | d :: ds => by
  obtain ⟨h1,h2⟩:=bulkAll_get ds
  have hp:=zxA d
  refine ⟨by simp only [List.length_cons,Rows.uptoBulkAll]; omega,fun i hi => ?_⟩
  cases i with
  | zero => simp only [List.getD_cons_zero,Rows.uptoBulkAll]; omega
  | succ i => 
   have:=h2 i (by simpa using hi)
   simp only [List.getD_cons_succ,Rows.uptoBulkAll]; omega
theorem wfS_len {α:Type} [Inhabited α] {wf:α→DataW H→Prop} {l:List α} {d:DataW H} (h:wfS wf l d):l.length≤Rows.uptoBulk d:=by
 rcases h.2 with ⟨rfl,rfl⟩ | ⟨ds,rest,rfl,h1,_⟩
 ·simp
 ·have:=(bulkAll_get ds).1
  simp only [Rows.uptoBulk]; omega
theorem wfS_mem {α:Type} [Inhabited α] {wf:α→DataW H→Prop} {l:List α} {d:DataW H} (h:wfS wf l d) {a:α} (ha:a∈l):∃ d',wf a d'∧Rows.uptoBulk d'≤Rows.uptoBulk d:=by
 rcases h.2 with ⟨rfl,rfl⟩ | ⟨ds,rest,rfl,h1,h2⟩
 ·cases ha
 ·obtain ⟨i,hi,rfl⟩:=List.getElem_of_mem ha
  have:=h2 i hi
  rw [List.getD_eq_getElem?_getD,List.getElem?_eq_getElem hi] at this
  refine ⟨_,this,?_⟩
  have:=(bulkAll_get ds).2 i (by omega)
  simp only [Rows.uptoBulk]; omega
theorem wfS_wt {wf:Instr→DataW H→Prop} (hw:∀ x d,wf x d→wtI x≤6 * Rows.uptoBulk d) {l:List Instr} {d:DataW H} (h:wfS wf l d):wtL l≤6 * Rows.uptoBulk d:=by
 rcases h.2 with ⟨rfl,rfl⟩ | ⟨ds,rest,rfl,h1,h2⟩
 ·simp [wtL,Rows.uptoBulk]
 ·have key:∀ (l:List Instr) (ds:List (DataW H)),ds.length=l.length→(∀ i,i<l.length→wf (l.getD i default) (ds.getD i .nil))→wtL l≤1+6 * Rows.uptoBulkAll ds:=by
   intro l
   induction l with
   | nil => intro ds _ _; simp only [wtL]; omega
   | cons x l ih => 
    intro ds hl hh
    cases ds with
    | nil => simp at hl
    | cons d ds => 
     have h0:=hw _ _ (hh 0 (by simp))
     have h3:=ih ds (by simpa using hl) (fun i hi => by simpa using hh (i+1) (by simpa using hi))
     simp only [List.getD_cons_zero] at h0
     simp only [wtL,Rows.uptoBulkAll]; omega
  have:=key l ds h1 h2
  simp only [Rows.uptoBulk]; omega
theorem wfS_IWL {wf:Instr→DataW H→Prop} (hw:∀ x d,wf x d→IWI x) {l:List Instr} {d:DataW H} (h:wfS wf l d):IWL l:=by
 have key:∀ (l:List Instr),(∀ x∈l,IWI x)→IWL l:=by
  intro l
  induction l with
  | nil => intro _; simp only [IWL]
  | cons x l ih => intro hh; simp only [IWL]; exact ⟨hh x List.mem_cons_self,ih fun y hy => hh y (List.mem_cons_of_mem _ hy)⟩
 exact key l fun x hx => by
  obtain ⟨d',h1,_⟩:=wfS_mem h hx
  exact hw x d' h1
theorem toA_sVI (L:List Instr):toA (sVI L)=toA (sV eInstr L):=by
 simp only [sVI,sV,toA]
 congr 1
 refine List.map_congr_left fun i hi => ?_
 rw [flI_eq (List.mem_range.1 hi)]
 rfl
def wfI (x:Instr) (d:DataW H):Prop:=IWI x∧wtI x≤6 * Rows.uptoBulk d
theorem rd2_instr {tI tL tB tN tU tLb:TypeId} {fs:Array Field} (hI:E.P.underlying tI=some (.struct fs)) (hL:E.P.underlying tL=some (.slice tI))
  (hfs:fs.toList.map (fun f => (f.type,f.offset))=[(tB,0),(tN,1),(tU,2),(tU,3),(tB,4),(tL,5),(tL,6),(tLb,7)])
  (hB:E.P.underlying tB=some (.int .u8)) (hN:E.P.underlying tN=some (.int .i64)) (hU:E.P.underlying tU=some (.int .u32)) (hLb:E.P.underlying tLb=some (.slice tU))
  (cB:E.P.cellsOf tB=1) (cN:E.P.cellsOf tN=1) (cU:E.P.cellsOf tU=1) (cL:E.P.cellsOf tL=1) (cLb:E.P.cellsOf tLb=1) (cI:E.P.cellsOf tI=8) :
  ∀ n,Rd2 enc E W tI eInstr wfI n:=by
 intro n
 induction n using Nat.strongRecOn with
 | _ n ih => 
 intro base sp hd cs x hx
 obtain ⟨xs,m,rfl,rfl,hlen,hsz,hf⟩:=DataW.trod_struct hI hx
 have hfl:fs.size=8:=by have:=congrArg List.length hfs; simpa using this
 have fget:∀ (i:Nat) (t:TypeId) (o:Nat),[(tB,0),(tN,1),(tU,2),(tU,3),(tB,4),(tL,5),(tL,6),(tLb,7)][i]? = some (t,o)→DataW.trod enc E.P W base sp hd m t ((cs.drop o).take (E.P.cellsOf t))=xs[i]?:=by
  intro i t o h
  rw [← hfs,List.getElem?_map] at h
  cases hfi:fs.toList[i]? with
  | none => rw [hfi] at h; cases h
  | some f => 
   rw [hfi] at h
   obtain ⟨rfl,rfl⟩:=Prod.mk.inj (Option.some.inj h)
   exact hf i f (by rw [← Array.getElem?_toList]; exact hfi)
 obtain ⟨x0,x1,x2,x3,x4,x5,x6,x7,rfl⟩:∃ x0 x1 x2 x3 x4 x5 x6 x7,xs=[x0,x1,x2,x3,x4,x5,x6,x7]:=by
  have:xs.length=8:=by omega
  match xs,this with
  | [x0,x1,x2,x3,x4,x5,x6,x7],_ => exact ⟨x0,x1,x2,x3,x4,x5,x6,x7,rfl⟩
 obtain ⟨v0,v1,v2,v3,v4,v5,v6,v7,rfl⟩:∃ v0 v1 v2 v3 v4 v5 v6 v7,cs=[v0,v1,v2,v3,v4,v5,v6,v7]:=by
  have:cs.length=8:=by omega
  match cs,this with
  | [v0,v1,v2,v3,v4,v5,v6,v7],_ => exact ⟨v0,v1,v2,v3,v4,v5,v6,v7,rfl⟩
 have g0:=fget 0 tB 0 rfl
 have g1:=fget 1 tN 1 rfl
 have g2:=fget 2 tU 2 rfl
 have g3:=fget 3 tU 3 rfl
 have g4:=fget 4 tB 4 rfl
 have g5:=fget 5 tL 5 rfl
 have g6:=fget 6 tL 6 rfl
 have g7:=fget 7 tLb 7 rfl
 rw [cB] at g0 g4
 rw [cN] at g1
 rw [cU] at g2 g3
 rw [cL] at g5 g6
 rw [cLb] at g7
 have rL:Rd2 enc E W tL (fun l:List Instr => [sV eInstr l]) (wfS wfI) m:=by
  cases m with
  | zero => exact Rd2.zero
  | succ q => exact rd2_slice hL (by rw [cI]; decide) (fun a => by rw [cI]; rfl) (fun a v hv => by
    simp only [eInstr,List.mem_cons,List.not_mem_nil,or_false] at hv
    rcases hv with rfl | rfl | rfl | rfl | rfl | rfl | rfl | rfl <;> rfl) q (ih q (by omega))
 have rLb:Rd2 enc E W tLb (fun l:List Int => [sV (eI .u32) l]) (wfS fun x d => (Lit.int .u32 x).wf=true) m:=by
  cases m with
  | zero => exact Rd2.zero
  | succ q => 
   exact rd2_slice (en:=eI .u32) (wf:=fun x d => (Lit.int .u32 x).wf=true) hLb (by rw [cU]; decide) (fun a => by rw [cU]; rfl) (fun a v hv => by
    obtain rfl:v=.int .u32 a:=by simpa [eI] using hv
    rfl) q (rd2_int hU q)
 obtain ⟨a0,w0,_,r0⟩:=rd2_int (enc:=enc) (W:=W) hB m base sp hd _ _ g0
 obtain ⟨a1,w1,_,r1⟩:=rd2_int (enc:=enc) (W:=W) hN m base sp hd _ _ g1
 obtain ⟨a2,w2,_,r2⟩:=rd2_int (enc:=enc) (W:=W) hU m base sp hd _ _ g2
 obtain ⟨a3,w3,_,r3⟩:=rd2_int (enc:=enc) (W:=W) hU m base sp hd _ _ g3
 obtain ⟨a4,w4,_,r4⟩:=rd2_int (enc:=enc) (W:=W) hB m base sp hd _ _ g4
 obtain ⟨a5,w5,_,r5⟩:=rL base sp hd _ _ g5
 obtain ⟨a6,w6,_,r6⟩:=rL base sp hd _ _ g6
 obtain ⟨a7,w7,_,r7⟩:=rLb base sp hd _ _ g7
 have b5:=wfS_wt (fun x d h => h.2) w5
 have b6:=wfS_wt (fun x d h => h.2) w6
 have i5:=wfS_IWL (fun x d h => h.1) w5
 have i6:=wfS_IWL (fun x d h => h.1) w6
 refine ⟨Instr.mk a0 a1 a2 a3 a4 a5 a6 a7,⟨?_,?_⟩,rfl,fun j hj => ?_⟩
 ·have q0:0≤a0∧a0<256:=by
   have h:IntKind.u8.min≤a0∧a0≤IntKind.u8.max:=by simpa [Lit.wf] using w0
   have e1:IntKind.u8.min=0:=by decide
   have e2:IntKind.u8.max=255:=by decide
   omega
  have q2:0≤a2:=by
   have h:IntKind.u32.min≤a2∧a2≤IntKind.u32.max:=by simpa [Lit.wf] using w2
   have e1:IntKind.u32.min=0:=by decide
   omega
  simp only [IWI]
  exact ⟨q0,q2,i5,i6⟩
 ·simp only [wtI,List.map_cons,List.map_nil,Rows.uptoBulk,Rows.uptoBulkAll]
  omega
 ·have hj':j<8:=hj
  have r5':=r5 0 Nat.zero_lt_one
  have r6':=r6 0 Nat.zero_lt_one
  match j,hj' with
  | 0,_ => exact r0 0 Nat.zero_lt_one
  | 1,_ => exact r1 0 Nat.zero_lt_one
  | 2,_ => exact r2 0 Nat.zero_lt_one
  | 3,_ => exact r3 0 Nat.zero_lt_one
  | 4,_ => exact r4 0 Nat.zero_lt_one
  | 5,_ => 
   show RVF E W.heap (old W) (toA (sVI a5)) _
   rw [toA_sVI]; exact r5'
  | 6,_ => 
   show RVF E W.heap (old W) (toA (sVI a6)) _
   rw [toA_sVI]; exact r6'
  | 7,_ => exact r7 0 Nat.zero_lt_one
end
end Go.Proofs.YtablleokoifolaaGreatDoor
set_option linter.unusedVariables false
set_option linter.unusedSimpArgs false
namespace Go.Proofs.YtablleokoifolaaGreatDoor.validIdle
open Go Go.ChangeShapes Go.WideShapes Go.RowKit
theorem c5:Tryz.prog.cellsOf 5=1:=by kernel_rfl
theorem c2:Tryz.prog.cellsOf 2=1:=by kernel_rfl
theorem c59:Tryz.prog.cellsOf 59=1:=by kernel_rfl
theorem c55:Tryz.prog.cellsOf 55=1:=by kernel_rfl
theorem c61:Tryz.prog.cellsOf 61=1:=by kernel_rfl
theorem c69:Tryz.prog.cellsOf 69=8:=by kernel_rfl
def T (t:TypeId):Prop:=t=54∨t=5∨t=55∨t=69∨t=2∨t=59∨t=61
theorem tyOk:TyOk Tryz.prog T:=by
 intro t ht
 rcases ht with rfl | rfl | rfl | rfl | rfl | rfl | rfl
 ·exact .inr (.inr (.inr (.inl ⟨5,Tryz.underlying54,.inr (.inl rfl),by rw [c5]; decide⟩)))
 ·exact .inr (.inl ⟨_,Tryz.underlying5⟩)
 ·exact .inr (.inr (.inr (.inl ⟨69,Tryz.underlying55,.inr (.inr (.inr (.inl rfl))),by rw [c69]; decide⟩)))
 ·refine .inr (.inr (.inr (.inr ⟨_,Tryz.underlying69,fun f hf => ?_⟩)))
  simp only [List.mem_cons,List.not_mem_nil,or_false] at hf
  rcases hf with rfl | rfl | rfl | rfl | rfl | rfl | rfl | rfl <;> simp [T]
 ·exact .inr (.inl ⟨_,Tryz.underlying2⟩)
 ·exact .inr (.inl ⟨_,Tryz.underlying59⟩)
 ·exact .inr (.inr (.inr (.inl ⟨59,Tryz.underlying61,.inr (.inr (.inr (.inr (.inr (.inl rfl))))),by rw [c59]; decide⟩)))
theorem rdI {H:Type} (enc:TypeId×Value→H) (W:World):∀ n,Rd2 enc E W 55 (fun l:List Instr => [sV eInstr l]) (wfS wfI) n
 | 0 => Rd2.zero
 | n+1 => rd2_slice (E:=E) (en:=eInstr) (wf:=wfI) Tryz.underlying55 (by show 0<Tryz.prog.cellsOf 69; rw [c69]; decide) (fun a => by show 8=Tryz.prog.cellsOf 69; rw [c69]) (fun a v hv => by
   simp only [eInstr,List.mem_cons,List.not_mem_nil,or_false] at hv
   rcases hv with rfl | rfl | rfl | rfl | rfl | rfl | rfl | rfl <;> rfl) n
   (rd2_instr (E:=E) Tryz.underlying69 Tryz.underlying55 rfl Tryz.underlying5 Tryz.underlying2 Tryz.underlying59 Tryz.underlying61 c5 c2 c59 c55 c61 c69 n)
theorem rdB {H:Type} (enc:TypeId×Value→H) (W:World):∀ n,Rd2 enc E W 54 (fun l:List Int => [sV (eI .u8) l]) (wfS fun x d => (Lit.int .u8 x).wf=true) n
 | 0 => Rd2.zero
 | n+1 => rd2_slice (E:=E) (en:=eI .u8) (wf:=fun x d => (Lit.int .u8 x).wf=true) Tryz.underlying54 (by show 0<Tryz.prog.cellsOf 5; rw [c5]; decide) (fun a => by show 1=Tryz.prog.cellsOf 5; rw [c5]) (fun a v hv => by
   obtain rfl:v=.int .u8 a:=by simpa [eI] using hv
   rfl) n (rd2_int (E:=E) Tryz.underlying5 n)
set_option maxRecDepth 100000 in
theorem contract (H:Type) (enc:TypeId×Value→H) (W:World) (base:Nat) (args:Array Value) (ds gs:List (DataW H)) (before:List MemPlace)
  (hval:∀ (j:Nat) t v,Tryz.f5.params[j]? = some t→args[j]? = some v→Value.okWide Tryz.prog W .any base t v)
  (hW:DataW.Whole enc Tryz.prog Tryz.f5.params.toList Rows.validIdleSpec.vars false W args.toList ds gs before) (hcond:Rows.uptoSmall H (ds++gs)=true) (hL:laidMetH Tryz.prog laidE W) (hS:W.ShapedOpen Tryz.prog) :
  Calls Tryz.prog 5 args W fun e W' => ∃ v,e=.returned v∧Rows.validIdleSpec.post enc Tryz.prog Tryz.f5 false true false false W args v W':=by
 have hW':=hW
 obtain ⟨p,q,hA0,hV,rfl,hfz,hnd⟩:=hW
 have hA:DataW.TrodAll enc Tryz.prog W 0 (fun _ => true) true Tryz.f5.params.toList args.toList ds p:=hA0
 rw [Tryz.params5] at hA hval
 obtain ⟨v0,vs0,d0,ds0,p0,q0,hargs,rfl,rfl,⟨n0,h0⟩,r0⟩:=trodAll_cons hA
 obtain ⟨v1,vs1,d1,ds1,p1,q1,rfl,rfl,rfl,h1,r1⟩:=trodAll_cons r0
 obtain ⟨v2,vs2,d2,ds2,p2,q2,rfl,rfl,rfl,⟨n2,h2⟩,r2⟩:=trodAll_cons r1
 obtain ⟨rfl,rfl,rfl⟩:=trodAll_nil r2
 obtain rfl:args = #[v0,v1,v2]:=by cases args; simp_all
 obtain ⟨rfl,rfl⟩:=trodVars_none hV
 obtain ⟨x1,rfl,rfl,rfl,w1⟩:=open_int Tryz.underlying5 (hval 1 5 v1 rfl rfl) h1
 obtain ⟨a0,len0,cap0,rfl⟩:=okWide_slice Tryz.underlying54 (hval 0 54 v0 rfl rfl)
 obtain ⟨a2,len2,cap2,rfl⟩:=okWide_slice Tryz.underlying55 (hval 2 55 v2 rfl rfl)
 obtain ⟨ps,f0,_,l0⟩:=rdB enc W n0 0 _ _ _ _ h0
 obtain ⟨b,f2,_,l2⟩:=rdI enc W n2 0 _ _ _ _ h2
 have l0':=l0 0 Nat.zero_lt_one
 have l2':RVF E W.heap (old W) (toA (sVI b)) (.slice a2 len2 cap2):=by
  rw [toA_sVI]
  exact l2 0 Nat.zero_lt_one
 have g0:=wfS_len f0
 have g2:=wfS_wt (fun x d h => h.2) f2
 have gw:=wfS_IWL (fun x d h => h.1) f2
 have hb:Rows.uptoBulkAll [d0,.lit (.int .u8 x1),d2]≤1048576:=of_decide_eq_true hcond
 simp only [Rows.uptoBulkAll,Rows.uptoBulk] at hb
 have g0':ps.length≤Rows.uptoBulk d0:=g0
 have g2':wtL b≤6 * Rows.uptoBulk d2:=g2
 have hr:0≤x1∧x1<256:=by
  have h:IntKind.u8.min≤x1∧x1≤IntKind.u8.max:=by simpa [Lit.wf] using w1
  have e1:IntKind.u8.min=0:=by decide
  have e2:IntKind.u8.max=255:=by decide
  omega
 have ht:=zwN ps x1 b 1048700 10000000 hr gw (by omega) (by omega) (by omega) (by omega)
 obtain ⟨g1,g3⟩:=zyp hL hS
 have hc:=zmz 10000000 ps x1 b true ht
 refine (hc.2 W (old W) #[.slice a0 len0 cap0,.int .u8 x1,.slice a2 len2 cap2] g3 g1 (fun b hb => hb) rfl (fun i hi => ?_)).mono ?_
 ·match i with
  | 0 => exact l0'
  | 1 => exact .int .u8 x1
  | 2 => exact l2'
 rintro e W' ⟨v,F',rfl,k⟩
 obtain rfl:=zxp k.rv
 refine ⟨_,rfl,_,_,_,[],p0++([]++(p2++[])),[],hW',trodAll_cons_mk (shut_bool Tryz.underlying4 _) trodAll_mk0,?_,rfl,zuk k.same k.wx.os k.wx.output _,fun h => by cases h⟩
 refine trodAll_ext tyOk k.same _ _ _ _ (fun t ht => ?_) hA0 fun p hp => ?_
 ·rw [Tryz.params5] at ht
  have:t=54∨t=5∨t=55:=by simpa using ht
  rcases this with h | h | h
  ·exact .inl h
  ·exact .inr (.inl h)
  ·exact .inr (.inr (.inl h))
 ·have:=hW'.lt p (by simpa using hp)
  simpa using this
theorem reads (os:Os) {H:Type} (enc:TypeId×Value→H):∃ places,DataW.whole enc Tryz.prog ((laidWorld os).forCall (fun _ _ => 0) ⟨#[],#[.slice none 0 0,.int .u8 0,.slice none 0 0],[]⟩).memory Tryz.f5.params.toList Rows.validIdleSpec.vars false #[Value.slice none 0 0,Value.int .u8 0,Value.slice none 0 0].toList 8=some ([.nil,.lit (.int .u8 0),.nil],[],places):=
 ⟨[],by kernel_rfl⟩
set_option maxRecDepth 100000 in
theorem lifted (os:Os) (started:os.Started) (H:Type) (enc:TypeId×Value→H) (F:Stop.Interp) :
  ReturnsInHanded {} Tryz.checked os 5 .any ((Rows.OpenSpec.upto Rows.validIdleSpec).preRow enc Tryz.prog Tryz.f5 Rows.validIdleUptoRow.domain false Rows.validIdleUptoRow.laid) (((Rows.OpenSpec.upto Rows.validIdleSpec).at F).post enc Tryz.prog Tryz.f5 false true false false):=by
 obtain ⟨places,hx⟩:=reads os enc
 refine returnsInHanded_of_row (C:=Tryz.checked) (s:=Rows.OpenSpec.upto Rows.validIdleSpec) own started (by kernel_rfl) Tryz.func5
  (witness_row_at (enc:=enc) (C:=Tryz.checked) false (laidWorld os) #[.slice none 0 0,.int .u8 0,.slice none 0 0] rfl (by kernel_rfl) (by kernel_rfl) (by kernel_rfl)
   (OpenSpec.preRow_of_cond 8 hx (by kernel_rfl) (fun k hk => by cases hk; kernel_rfl) (by kernel_rfl) (laidWorld_met os _))) ?_
 intro W base args ds gs before hval hW _ hcond _ hL hS _
 exact contract H enc W base args ds gs before hval hW (hcond _ rfl) hL hS
theorem said:Rows.ValidIdleUptoSaid:=
 OpenClaim.holds_of_cond 5 Tryz.f5 rfl rfl rfl rfl rfl rfl rfl ⟨rfl,rfl,rfl,rfl,rfl⟩ rfl rfl rfl rfl rfl (by kernel_rfl) Tryz.func5 (by kernel_rfl)
  (of_decide_eq_true (by kernel_rfl)) (by unfold Func.isWrapper; first | (rw [if_pos (by decide +kernel)]; kernel_rfl) | (rw [if_neg (by decide +kernel)]; exact ⟨rfl,rfl⟩))
  (fun os started H enc _ F => by rw [OpenClaim.pre_eq_preRow]; exact lifted os started H enc F)
theorem plain (f:FuncId) (fn:Func) (hf:Tryz.pinned.checked.prog.funcNamed "mandrel/mandrellaw08.ValidIdle" = some f) (hfn:Tryz.pinned.checked.prog.funcs[f]? = some fn) :
  true=Tryz.pinned.checked.prog.looks []∧∀ (j:Nat) t,fn.params[j]? = some t→Tryz.pinned.checked.prog.wantsStandIn t=false:=by
 obtain rfl:f=5:=Option.some.inj ((show Tryz.prog.funcNamed "mandrel/mandrellaw08.ValidIdle" = some 5 by kernel_rfl).symm.trans hf) |>.symm
 obtain rfl:fn=Tryz.f5:=(Option.some.inj (Tryz.func5.symm.trans hfn)).symm
 refine ⟨by kernel_rfl,fun j t ht => ?_⟩
 rw [Tryz.params5] at ht
 have:t=54∨t=5∨t=55:=by simpa using Array.mem_of_getElem? ht
 rcases this with rfl | rfl | rfl
 ·exact (show Tryz.prog.wantsStandIn 54=false by kernel_rfl)
 ·exact (show Tryz.prog.wantsStandIn 5=false by kernel_rfl)
 ·exact (show Tryz.prog.wantsStandIn 55=false by kernel_rfl)
theorem card:Rows.ValidIdleUptoCardSaid:=
 Claim7.holds_tied_plain_at .later [] [.handle] true _ true said (fun _ h => by cases h) (by kernel_rfl) (fun _ h => by cases h) validIdleUpto_row_tie rfl ⟨rfl,rfl⟩ (by kernel_rfl) rfl plain (by kernel_rfl)
end Go.Proofs.YtablleokoifolaaGreatDoor.validIdle
