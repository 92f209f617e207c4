/- Part 7 of the proof that ValidOuterUptoCardSaid: for every input that fits the row the law answers true and its arguments read as before, over the world as the row lays it. -/
import Derived.Test.YtablleokoifolaaGreatDoorZ6
import Derived.Deep.Slices
import Derived.ChangeShapes
import Derived.RowKit
import Derived.ChangeSame
import Derived.Test.YtablleokoifolaaGreatDoorRows
import Derived.Test.YtablleokoifolaaGreatDoorCards
import Derived.Test.YtablleokoifolaaGreatDoorTie
import Derived.WideShapes
import Derived.LaidLaws
import Derived.LaidHandle
import Derived.OpenShut
import Derived.Deep.DeepHandedRow
import Derived.FnData
set_option linter.unusedVariables false
set_option maxRecDepth 100000
set_option maxHeartbeats 4000000
namespace Go.Proofs.YtablleokoifolaaGreatDoor
open Go
def zdb (K:Nat) (p0:Mdl) (p1:Int):Option (Bool):=((zcw K p0).bind fun x1 => (if x1=true then ((zbM).bind fun x3 => some x3) else ((zbw K p0).bind fun x5 => ((zaU K x5).bind fun x7 => (if (!x7.2.isNone)=true then ((zbM).bind fun x9 => some x9) else ((zbw K p0).bind fun x11 => gd ((7:Int)≠0) (if ((wI ((IntKind.wrap .u64 p1).tmod 7))==(0:Int))=true then gd ((x11.exports.length+1) * 24≤140737488355328) ((zaU K (Mdl.mk x11.types x11.funcs x11.tables x11.memories x11.globals (x11.exports++([(Xpo.mk b7_ 0 (IntKind.wrap .u32 (x11.funcs.length:Int)))]:List Xpo)) x11.elems x11.datas)).bind fun x15 => (if (x15.1==((-1):Int))=true then ((zcz x15.2).bind fun x17 => (if (x17==(7:Int))=true then ((zbM).bind fun x19 => some x19) else some false)) else some false).bind (fun j21 => some j21)) else (if ((wI ((IntKind.wrap .u64 p1).tmod 7))==(1:Int))=true then gd ((x11.funcs.length+1) * 56≤140737488355328) ((zaU K (Mdl.mk x11.types (x11.funcs++([(Fnc.mk (IntKind.wrap .u32 (x11.types.length:Int)) ([]:List Int) ([]:List Instr))]:List Fnc)) x11.tables x11.memories x11.globals x11.exports x11.elems x11.datas)).bind fun x26 => (if (x26.1==((-1):Int))=true then ((zcz x26.2).bind fun x28 => (if (x28==(7:Int))=true then ((zbM).bind fun x30 => some x30) else some false)) else some false).bind (fun j32 => some j32)) else (if ((wI ((IntKind.wrap .u64 p1).tmod 7))==(2:Int))=true then gd ((x11.tables.length+1) * 12≤140737488355328) ((zaU K (Mdl.mk x11.types x11.funcs (x11.tables++([(Lim.mk 3 true 2)]:List Lim)) x11.memories x11.globals x11.exports x11.elems x11.datas)).bind fun x37 => (if (x37.1==((-1):Int))=true then ((zcz x37.2).bind fun x39 => (if (x39==(7:Int))=true then ((zbM).bind fun x41 => some x41) else some false)) else some false).bind (fun j43 => some j43)) else (if ((wI ((IntKind.wrap .u64 p1).tmod 7))==(3:Int))=true then ((zaU K (Mdl.mk x11.types x11.funcs x11.tables ([(Lim.mk 0 false 0),(Lim.mk 0 false 0)]:List Lim) x11.globals x11.exports x11.elems x11.datas)).bind fun x47 => (if (x47.1==((-1):Int))=true then ((zcz x47.2).bind fun x49 => (if (x49==(7:Int))=true then ((zbM).bind fun x51 => some x51) else some false)) else some false).bind (fun j53 => some j53)) else (if ((wI ((IntKind.wrap .u64 p1).tmod 7))==(4:Int))=true then gd ((x11.globals.length+1) * 112≤140737488355328) ((zaU K (Mdl.mk x11.types x11.funcs x11.tables x11.memories (x11.globals++([(Glo.mk 126 false (Instr.mk 65 0 0 0 0 ([]:List Instr) ([]:List Instr) ([]:List Int)))]:List Glo)) x11.exports x11.elems x11.datas)).bind fun x58 => (if (x58.1==((-1):Int))=true then ((zcz x58.2).bind fun x60 => (if (x60==(7:Int))=true then ((zbM).bind fun x62 => some x62) else some false)) else some false).bind (fun j64 => some j64)) else (if ((wI ((IntKind.wrap .u64 p1).tmod 7))==(5:Int))=true then gd ((x11.elems.length+1) * 136≤140737488355328) ((zaU K (Mdl.mk x11.types x11.funcs x11.tables x11.memories x11.globals x11.exports (x11.elems++([(Ele.mk 0 (Instr.mk 65 0 0 0 0 ([]:List Instr) ([]:List Instr) ([]:List Int)) ([(IntKind.wrap .u32 (x11.funcs.length:Int))]:List Int))]:List Ele)) x11.datas)).bind fun x69 => (if (x69.1==((-1):Int))=true then ((zcz x69.2).bind fun x71 => (if (x71==(7:Int))=true then ((zbM).bind fun x73 => some x73) else some false)) else some false).bind (fun j75 => some j75)) else gd ((x11.datas.length+1) * 136≤140737488355328) ((zaU K (Mdl.mk x11.types x11.funcs x11.tables x11.memories x11.globals x11.exports x11.elems (x11.datas++([(Dat.mk 1 (Instr.mk 65 0 0 0 0 ([]:List Instr) ([]:List Instr) ([]:List Int)) ([]:List Int))]:List Dat)))).bind fun x80 => (if (x80.1==((-1):Int))=true then ((zcz x80.2).bind fun x82 => (if (x82==(7:Int))=true then ((zbM).bind fun x84 => some x84) else some false)) else some false).bind (fun j86 => some j86))))))))))))))
theorem zmz (K:Nat) (p0:Mdl) (p1:Int) (r:Bool) (H:zdb K p0 p1=some r):CF E 14 [.agg (eMdl p0),.int .i64 p1] (.bool r):=by
 refine zeg (A:=zgU) zmj rfl fun fr => ?_
 unfold zdb at H
 refine AW2.seq ?_
 refine r_ [.k 2] [1,2] [] [.k 2] ⟨[(1,.d (.int .i64 p1)),(2,.p 2 0)],[(2,.st false (eD (eMdl p0)))]⟩ (a_ t_ t_) ?_
 refine AW2.seq ?_
 refine AW2.seq ?_
 obtain ⟨x1,hx2,H⟩:=bind_some H
 refine r_ [.r (.bool x1)] [1,2,13] [] [.k 2] ⟨[(1,.d (.int .i64 p1)),(2,.p 2 0),(13,.d (.bool x1))],[(2,.st false (eD (eMdl p0)))]⟩ (a_ (a_ (zmY K p0 x1 hx2) t_) t_) ?_
 refine AW2.cond (b:=x1) rfl (fun hc => ?_) (fun hc => ?_)
 ·replace H:=zao H hc
  refine AW2.seq ?_
  obtain ⟨x3,hx4,H⟩:=bind_some H
  refine r_ [.r (.bool x3)] [4] [] [] ⟨[(4,.d (.bool x3))],[]⟩ (a_ (a_ (zcm x3 hx4) t_) t_) ?_
  refine AW2.ret ?_
  have H:=Option.some.inj H
  subst H
  exact retP_mk2 t_ (by kernel_rfl)
 ·replace H:=zap H hc
  refine AW2.skip ?_
  refine AW2.seq ?_
  obtain ⟨x5,hx6,H⟩:=bind_some H
  refine r_ [.c [] [1036,1069,1086,1103,1135,1152,1184,1216] [] (.agg [.ls 1036 0 x5.types.length,.ls 1069 0 x5.funcs.length,.ls 1086 0 x5.tables.length,.ls 1103 0 x5.memories.length,.ls 1135 0 x5.globals.length,.ls 1152 0 x5.exports.length,.ls 1184 0 x5.elems.length,.ls 1216 0 x5.datas.length]) [(1036,.sl false 2 x5.types.length (fl eTyp x5.types)),(1069,.sl false 3 x5.funcs.length (fl eFnc x5.funcs)),(1086,.sl false 3 x5.tables.length (fl eLim x5.tables)),(1103,.sl false 3 x5.memories.length (fl eLim x5.memories)),(1135,.sl false 10 x5.globals.length (fl eGlo x5.globals)),(1152,.sl false 3 x5.exports.length (fl eXpo x5.exports)),(1184,.sl false 10 x5.elems.length (fl eEle x5.elems)),(1216,.sl false 10 x5.datas.length (fl eDat x5.datas))],.k 5] [1,2,5] [] [.k 2,.k 5,.k 1036,.k 1069,.k 1086,.k 1103,.k 1135,.k 1152,.k 1184,.k 1216] ⟨[(1,.d (.int .i64 p1)),(2,.p 2 0),(5,.p 5 0)],[(2,.st false (eD (eMdl p0))),(5,.st false [.ls 1036 0 x5.types.length,.ls 1069 0 x5.funcs.length,.ls 1086 0 x5.tables.length,.ls 1103 0 x5.memories.length,.ls 1135 0 x5.globals.length,.ls 1152 0 x5.exports.length,.ls 1184 0 x5.elems.length,.ls 1216 0 x5.datas.length]),(1036,.sl false 2 x5.types.length (fl eTyp x5.types)),(1069,.sl false 3 x5.funcs.length (fl eFnc x5.funcs)),(1086,.sl false 3 x5.tables.length (fl eLim x5.tables)),(1103,.sl false 3 x5.memories.length (fl eLim x5.memories)),(1135,.sl false 10 x5.globals.length (fl eGlo x5.globals)),(1152,.sl false 3 x5.exports.length (fl eXpo x5.exports)),(1184,.sl false 10 x5.elems.length (fl eEle x5.elems)),(1216,.sl false 10 x5.datas.length (fl eDat x5.datas))]⟩ (a_ (a_ (zfr 1000 K p0 x5 hx6) t_) t_) ?_
  refine AW2.seq ?_
  obtain ⟨x7,hx8,H⟩:=bind_some H
  refine r_ [.r (.tup [.int .i64 x7.1,.err 45 x7.2])] [1,2,7] [] [.k 2] ⟨[(1,.d (.int .i64 p1)),(2,.p 2 0),(7,.d (.err 45 x7.2))],[(2,.st false (eD (eMdl p0)))]⟩ (a_ (a_ (Nat.le_refl x5.types.length) (a_ (dfl eTyp zgN x5.types) (a_ (Nat.le_refl x5.funcs.length) (a_ (dfl eFnc zgP x5.funcs) (a_ (Nat.le_refl x5.tables.length) (a_ (dfl eLim zcA x5.tables) (a_ (Nat.le_refl x5.memories.length) (a_ (dfl eLim zcA x5.memories) (a_ (Nat.le_refl x5.globals.length) (a_ (dfl eGlo zgO x5.globals) (a_ (Nat.le_refl x5.exports.length) (a_ (dfl eXpo zgM x5.exports) (a_ (Nat.le_refl x5.elems.length) (a_ (dfl eEle zgQ x5.elems) (a_ (Nat.le_refl x5.datas.length) (a_ (dfl eDat zgR x5.datas) (a_ (zcl K x5 x7 hx8) t_))))))))))))))))) t_) ?_
  refine AW2.seq ?_
  refine AW2.seq ?_
  refine r_ [] [1,2,23] [] [.k 2] ⟨[(1,.d (.int .i64 p1)),(2,.p 2 0),(23,.d (.bool (!x7.2.isNone)))],[(2,.st false (eD (eMdl p0)))]⟩ (a_ t_ t_) ?_
  refine AW2.cond (b:=(!x7.2.isNone)) rfl (fun hc => ?_) (fun hc => ?_)
  ·replace H:=zao H hc
   refine AW2.seq ?_
   obtain ⟨x9,hx10,H⟩:=bind_some H
   refine r_ [.r (.bool x9)] [4] [] [] ⟨[(4,.d (.bool x9))],[]⟩ (a_ (a_ (zcm x9 hx10) t_) t_) ?_
   refine AW2.ret ?_
   have H:=Option.some.inj H
   subst H
   exact retP_mk2 t_ (by kernel_rfl)
  ·replace H:=zap H hc
   refine AW2.skip ?_
   refine AW2.seq ?_
   obtain ⟨x11,hx12,H⟩:=bind_some H
   refine r_ [.c [] [2036,2069,2086,2103,2135,2152,2184,2216] [] (.agg [.ls 2036 0 x11.types.length,.ls 2069 0 x11.funcs.length,.ls 2086 0 x11.tables.length,.ls 2103 0 x11.memories.length,.ls 2135 0 x11.globals.length,.ls 2152 0 x11.exports.length,.ls 2184 0 x11.elems.length,.ls 2216 0 x11.datas.length]) [(2036,.sl false 2 x11.types.length (fl eTyp x11.types)),(2069,.sl false 3 x11.funcs.length (fl eFnc x11.funcs)),(2086,.sl false 3 x11.tables.length (fl eLim x11.tables)),(2103,.sl false 3 x11.memories.length (fl eLim x11.memories)),(2135,.sl false 10 x11.globals.length (fl eGlo x11.globals)),(2152,.sl false 3 x11.exports.length (fl eXpo x11.exports)),(2184,.sl false 10 x11.elems.length (fl eEle x11.elems)),(2216,.sl false 10 x11.datas.length (fl eDat x11.datas))],.k 8] [1,8] [] [.k 8,.k 2036,.k 2069,.k 2086,.k 2103,.k 2135,.k 2152,.k 2184,.k 2216] ⟨[(1,.d (.int .i64 p1)),(8,.p 8 0)],[(8,.st false [.ls 2036 0 x11.types.length,.ls 2069 0 x11.funcs.length,.ls 2086 0 x11.tables.length,.ls 2103 0 x11.memories.length,.ls 2135 0 x11.globals.length,.ls 2152 0 x11.exports.length,.ls 2184 0 x11.elems.length,.ls 2216 0 x11.datas.length]),(2036,.sl false 2 x11.types.length (fl eTyp x11.types)),(2069,.sl false 3 x11.funcs.length (fl eFnc x11.funcs)),(2086,.sl false 3 x11.tables.length (fl eLim x11.tables)),(2103,.sl false 3 x11.memories.length (fl eLim x11.memories)),(2135,.sl false 10 x11.globals.length (fl eGlo x11.globals)),(2152,.sl false 3 x11.exports.length (fl eXpo x11.exports)),(2184,.sl false 10 x11.elems.length (fl eEle x11.elems)),(2216,.sl false 10 x11.datas.length (fl eDat x11.datas))]⟩ (a_ (a_ (zfr 2000 K p0 x11 hx12) t_) t_) ?_
   refine AW2.seq ?_
   refine r_ [] [1,8,9] [] [.k 8,.k 2036,.k 2069,.k 2086,.k 2103,.k 2135,.k 2152,.k 2184,.k 2216] ⟨[(1,.d (.int .i64 p1)),(8,.p 8 0),(9,.d (.int .u32 (IntKind.wrap .u32 (x11.funcs.length:Int))))],[(8,.st false [.ls 2036 0 x11.types.length,.ls 2069 0 x11.funcs.length,.ls 2086 0 x11.tables.length,.ls 2103 0 x11.memories.length,.ls 2135 0 x11.globals.length,.ls 2152 0 x11.exports.length,.ls 2184 0 x11.elems.length,.ls 2216 0 x11.datas.length]),(2036,.sl false 2 x11.types.length (fl eTyp x11.types)),(2069,.sl false 3 x11.funcs.length (fl eFnc x11.funcs)),(2086,.sl false 3 x11.tables.length (fl eLim x11.tables)),(2103,.sl false 3 x11.memories.length (fl eLim x11.memories)),(2135,.sl false 10 x11.globals.length (fl eGlo x11.globals)),(2152,.sl false 3 x11.exports.length (fl eXpo x11.exports)),(2184,.sl false 10 x11.elems.length (fl eEle x11.elems)),(2216,.sl false 10 x11.datas.length (fl eDat x11.datas))]⟩ (a_ t_ t_) ?_
   refine AW2.seq ?_
   refine AW2.seq ?_
   obtain ⟨h13,H⟩:=zaf H
   refine r_ [] [8,9,34] [] [.k 8,.k 2036,.k 2069,.k 2086,.k 2103,.k 2135,.k 2152,.k 2184,.k 2216] ⟨[(8,.p 8 0),(9,.d (.int .u32 (IntKind.wrap .u32 (x11.funcs.length:Int)))),(34,.d (.int .i64 (wI ((IntKind.wrap .u64 p1).tmod 7))))],[(8,.st false [.ls 2036 0 x11.types.length,.ls 2069 0 x11.funcs.length,.ls 2086 0 x11.tables.length,.ls 2103 0 x11.memories.length,.ls 2135 0 x11.globals.length,.ls 2152 0 x11.exports.length,.ls 2184 0 x11.elems.length,.ls 2216 0 x11.datas.length]),(2036,.sl false 2 x11.types.length (fl eTyp x11.types)),(2069,.sl false 3 x11.funcs.length (fl eFnc x11.funcs)),(2086,.sl false 3 x11.tables.length (fl eLim x11.tables)),(2103,.sl false 3 x11.memories.length (fl eLim x11.memories)),(2135,.sl false 10 x11.globals.length (fl eGlo x11.globals)),(2152,.sl false 3 x11.exports.length (fl eXpo x11.exports)),(2184,.sl false 10 x11.elems.length (fl eEle x11.elems)),(2216,.sl false 10 x11.datas.length (fl eDat x11.datas))]⟩ (a_ (a_ h13 t_) t_) ?_
   refine AW2.block ?_
   refine AW2.seq ?_
   refine r_ [] [8,9,34,42] [] [.k 8,.k 2036,.k 2069,.k 2086,.k 2103,.k 2135,.k 2152,.k 2184,.k 2216] ⟨[(8,.p 8 0),(9,.d (.int .u32 (IntKind.wrap .u32 (x11.funcs.length:Int)))),(34,.d (.int .i64 (wI ((IntKind.wrap .u64 p1).tmod 7)))),(42,.d (.bool ((wI ((IntKind.wrap .u64 p1).tmod 7))==(0:Int))))],[(8,.st false [.ls 2036 0 x11.types.length,.ls 2069 0 x11.funcs.length,.ls 2086 0 x11.tables.length,.ls 2103 0 x11.memories.length,.ls 2135 0 x11.globals.length,.ls 2152 0 x11.exports.length,.ls 2184 0 x11.elems.length,.ls 2216 0 x11.datas.length]),(2036,.sl false 2 x11.types.length (fl eTyp x11.types)),(2069,.sl false 3 x11.funcs.length (fl eFnc x11.funcs)),(2086,.sl false 3 x11.tables.length (fl eLim x11.tables)),(2103,.sl false 3 x11.memories.length (fl eLim x11.memories)),(2135,.sl false 10 x11.globals.length (fl eGlo x11.globals)),(2152,.sl false 3 x11.exports.length (fl eXpo x11.exports)),(2184,.sl false 10 x11.elems.length (fl eEle x11.elems)),(2216,.sl false 10 x11.datas.length (fl eDat x11.datas))]⟩ (a_ t_ t_) ?_
   refine AW2.cond (b:=((wI ((IntKind.wrap .u64 p1).tmod 7))==(0:Int))) rfl (fun hc => ?_) (fun hc => ?_)
   ·replace H:=zao H hc
    obtain ⟨h14,H⟩:=zaf H
    refine r_ [.sb ([(Xpo.mk b7_ 0 (IntKind.wrap .u32 (x11.funcs.length:Int)))]:List Xpo).length (fl eXpo ([(Xpo.mk b7_ 0 (IntKind.wrap .u32 (x11.funcs.length:Int)))]:List Xpo)),.s true (x11.exports++([(Xpo.mk b7_ 0 (IntKind.wrap .u32 (x11.funcs.length:Int)))]:List Xpo)).length (fl eXpo (x11.exports++([(Xpo.mk b7_ 0 (IntKind.wrap .u32 (x11.funcs.length:Int)))]:List Xpo)))] [8] [] [.k 8,.k 2036,.k 2069,.k 2086,.k 2103,.k 2135,.k 2152,.k 2184,.k 2216] ⟨[(8,.p 8 0)],[(8,.st false [.ls 2036 0 x11.types.length,.ls 2069 0 x11.funcs.length,.ls 2086 0 x11.tables.length,.ls 2103 0 x11.memories.length,.ls 2135 0 x11.globals.length,.ls 2152 0 (x11.exports++([(Xpo.mk b7_ 0 (IntKind.wrap .u32 (x11.funcs.length:Int)))]:List Xpo)).length,.ls 2184 0 x11.elems.length,.ls 2216 0 x11.datas.length]),(2036,.sl false 2 x11.types.length (fl eTyp x11.types)),(2069,.sl false 3 x11.funcs.length (fl eFnc x11.funcs)),(2086,.sl false 3 x11.tables.length (fl eLim x11.tables)),(2103,.sl false 3 x11.memories.length (fl eLim x11.memories)),(2135,.sl false 10 x11.globals.length (fl eGlo x11.globals)),(2152,.sl false 3 (x11.exports++([(Xpo.mk b7_ 0 (IntKind.wrap .u32 (x11.funcs.length:Int)))]:List Xpo)).length (fl eXpo (x11.exports++([(Xpo.mk b7_ 0 (IntKind.wrap .u32 (x11.funcs.length:Int)))]:List Xpo)))),(2184,.sl false 10 x11.elems.length (fl eEle x11.elems)),(2216,.sl false 10 x11.datas.length (fl eDat x11.datas))]⟩ (a_ (a_ (litF eXpo ([(Xpo.mk b7_ 0 (IntKind.wrap .u32 (x11.funcs.length:Int)))]:List Xpo)) (a_ (Nat.le_refl x11.exports.length) (a_ h14 (a_ (app1 eXpo x11.exports (Xpo.mk b7_ 0 (IntKind.wrap .u32 (x11.funcs.length:Int))) (fl eXpo ([(Xpo.mk b7_ 0 (IntKind.wrap .u32 (x11.funcs.length:Int)))]:List Xpo)) rfl) t_)))) t_) ?_
    refine AW2.seq ?_
    obtain ⟨x15,hx16,H⟩:=bind_some H
    refine r_ [.r (.tup [.int .i64 x15.1,.err 45 x15.2])] [10,11] [] [] ⟨[(10,.d (.int .i64 x15.1)),(11,.d (.err 45 x15.2))],[]⟩ (a_ (a_ (Nat.le_refl x11.types.length) (a_ (dfl eTyp zgN x11.types) (a_ (Nat.le_refl x11.funcs.length) (a_ (dfl eFnc zgP x11.funcs) (a_ (Nat.le_refl x11.tables.length) (a_ (dfl eLim zcA x11.tables) (a_ (Nat.le_refl x11.memories.length) (a_ (dfl eLim zcA x11.memories) (a_ (Nat.le_refl x11.globals.length) (a_ (dfl eGlo zgO x11.globals) (a_ (Nat.le_refl (x11.exports++([(Xpo.mk b7_ 0 (IntKind.wrap .u32 (x11.funcs.length:Int)))]:List Xpo)).length) (a_ (dfl eXpo zgM (x11.exports++([(Xpo.mk b7_ 0 (IntKind.wrap .u32 (x11.funcs.length:Int)))]:List Xpo))) (a_ (Nat.le_refl x11.elems.length) (a_ (dfl eEle zgQ x11.elems) (a_ (Nat.le_refl x11.datas.length) (a_ (dfl eDat zgR x11.datas) (a_ (zcl K (Mdl.mk x11.types x11.funcs x11.tables x11.memories x11.globals (x11.exports++([(Xpo.mk b7_ 0 (IntKind.wrap .u32 (x11.funcs.length:Int)))]:List Xpo)) x11.elems x11.datas) x15 hx16) t_))))))))))))))))) t_) ?_
    refine AW2.seq ?_
    obtain ⟨j21,H23,H⟩:=bind_some H
    refine AW2.reg [] rfl (YW.to ⟨[(4,.d (.bool j21))],[]⟩ ?qh24 ?h24)
    case h24 => 
     have H:=H23
     rcases bT (x15.1==((-1):Int)) with hc1 | hc1
     ·replace H:=zao H hc1
      obtain ⟨x17,hx18,H⟩:=bind_some H
      rcases bT (x17==(7:Int)) with hc2 | hc2
      ·replace H:=zao H hc2
       obtain ⟨x19,hx20,H⟩:=bind_some H
       have H:=Option.some.inj H
       subst H
       exact YW.fin [(104,true),(109,true)] [.r (.int .i64 x17),.r (.bool x19)] [4] [] [] _ (a_ (a_ hc1 (a_ hc1 (a_ (zbx x15.2 x17 hx18) (a_ hc1 (a_ hc1 (a_ hc2 (a_ (zcm x19 hx20) (a_ hc2 t_)))))))) t_) (by kernel_rfl) rfl
      ·replace H:=zap H hc2
       have H:=Option.some.inj H
       subst H
       exact YW.fin [(104,true),(109,false)] [.r (.int .i64 x17)] [4] [] [] _ (a_ (a_ hc1 (a_ hc1 (a_ (zbx x15.2 x17 hx18) (a_ hc1 (a_ hc1 (a_ hc2 (a_ hc2 t_))))))) t_) (by kernel_rfl) rfl
     ·replace H:=zap H hc1
      have H:=Option.some.inj H
      subst H
      exact YW.fin [(104,false),(109,false)] [] [4] [] [] _ (a_ (a_ hc1 (a_ hc1 (a_ hc1 (a_ hc1 (a_ (Eq.refl false) (a_ (Eq.refl false) t_)))))) t_) (by kernel_rfl) rfl
    refine AW2.ret ?_
    have H:=Option.some.inj H
    subst H
    exact retP_mk2 t_ (by kernel_rfl)
   ·replace H:=zap H hc
    refine AW2.seq ?_
    refine r_ [] [8,9,34,51] [] [.k 8,.k 2036,.k 2069,.k 2086,.k 2103,.k 2135,.k 2152,.k 2184,.k 2216] ⟨[(8,.p 8 0),(9,.d (.int .u32 (IntKind.wrap .u32 (x11.funcs.length:Int)))),(34,.d (.int .i64 (wI ((IntKind.wrap .u64 p1).tmod 7)))),(51,.d (.bool ((wI ((IntKind.wrap .u64 p1).tmod 7))==(1:Int))))],[(8,.st false [.ls 2036 0 x11.types.length,.ls 2069 0 x11.funcs.length,.ls 2086 0 x11.tables.length,.ls 2103 0 x11.memories.length,.ls 2135 0 x11.globals.length,.ls 2152 0 x11.exports.length,.ls 2184 0 x11.elems.length,.ls 2216 0 x11.datas.length]),(2036,.sl false 2 x11.types.length (fl eTyp x11.types)),(2069,.sl false 3 x11.funcs.length (fl eFnc x11.funcs)),(2086,.sl false 3 x11.tables.length (fl eLim x11.tables)),(2103,.sl false 3 x11.memories.length (fl eLim x11.memories)),(2135,.sl false 10 x11.globals.length (fl eGlo x11.globals)),(2152,.sl false 3 x11.exports.length (fl eXpo x11.exports)),(2184,.sl false 10 x11.elems.length (fl eEle x11.elems)),(2216,.sl false 10 x11.datas.length (fl eDat x11.datas))]⟩ (a_ t_ t_) ?_
    refine AW2.cond (b:=((wI ((IntKind.wrap .u64 p1).tmod 7))==(1:Int))) rfl (fun hc => ?_) (fun hc => ?_)
    ·replace H:=zao H hc
     obtain ⟨h25,H⟩:=zaf H
     refine r_ [.sb ([(Fnc.mk (IntKind.wrap .u32 (x11.types.length:Int)) ([]:List Int) ([]:List Instr))]:List Fnc).length (fl eFnc ([(Fnc.mk (IntKind.wrap .u32 (x11.types.length:Int)) ([]:List Int) ([]:List Instr))]:List Fnc)),.s true (x11.funcs++([(Fnc.mk (IntKind.wrap .u32 (x11.types.length:Int)) ([]:List Int) ([]:List Instr))]:List Fnc)).length (fl eFnc (x11.funcs++([(Fnc.mk (IntKind.wrap .u32 (x11.types.length:Int)) ([]:List Int) ([]:List Instr))]:List Fnc)))] [8] [] [.k 8,.k 2036,.k 2069,.k 2086,.k 2103,.k 2135,.k 2152,.k 2184,.k 2216] ⟨[(8,.p 8 0)],[(8,.st false [.ls 2036 0 x11.types.length,.ls 2069 0 (x11.funcs++([(Fnc.mk (IntKind.wrap .u32 (x11.types.length:Int)) ([]:List Int) ([]:List Instr))]:List Fnc)).length,.ls 2086 0 x11.tables.length,.ls 2103 0 x11.memories.length,.ls 2135 0 x11.globals.length,.ls 2152 0 x11.exports.length,.ls 2184 0 x11.elems.length,.ls 2216 0 x11.datas.length]),(2036,.sl false 2 x11.types.length (fl eTyp x11.types)),(2069,.sl false 3 (x11.funcs++([(Fnc.mk (IntKind.wrap .u32 (x11.types.length:Int)) ([]:List Int) ([]:List Instr))]:List Fnc)).length (fl eFnc (x11.funcs++([(Fnc.mk (IntKind.wrap .u32 (x11.types.length:Int)) ([]:List Int) ([]:List Instr))]:List Fnc)))),(2086,.sl false 3 x11.tables.length (fl eLim x11.tables)),(2103,.sl false 3 x11.memories.length (fl eLim x11.memories)),(2135,.sl false 10 x11.globals.length (fl eGlo x11.globals)),(2152,.sl false 3 x11.exports.length (fl eXpo x11.exports)),(2184,.sl false 10 x11.elems.length (fl eEle x11.elems)),(2216,.sl false 10 x11.datas.length (fl eDat x11.datas))]⟩ (a_ (a_ (litF eFnc ([(Fnc.mk (IntKind.wrap .u32 (x11.types.length:Int)) ([]:List Int) ([]:List Instr))]:List Fnc)) (a_ (Nat.le_refl x11.funcs.length) (a_ h25 (a_ (app1 eFnc x11.funcs (Fnc.mk (IntKind.wrap .u32 (x11.types.length:Int)) ([]:List Int) ([]:List Instr)) (fl eFnc ([(Fnc.mk (IntKind.wrap .u32 (x11.types.length:Int)) ([]:List Int) ([]:List Instr))]:List Fnc)) rfl) t_)))) t_) ?_
     refine AW2.seq ?_
     obtain ⟨x26,hx27,H⟩:=bind_some H
     refine r_ [.r (.tup [.int .i64 x26.1,.err 45 x26.2])] [10,11] [] [] ⟨[(10,.d (.int .i64 x26.1)),(11,.d (.err 45 x26.2))],[]⟩ (a_ (a_ (Nat.le_refl x11.types.length) (a_ (dfl eTyp zgN x11.types) (a_ (Nat.le_refl (x11.funcs++([(Fnc.mk (IntKind.wrap .u32 (x11.types.length:Int)) ([]:List Int) ([]:List Instr))]:List Fnc)).length) (a_ (dfl eFnc zgP (x11.funcs++([(Fnc.mk (IntKind.wrap .u32 (x11.types.length:Int)) ([]:List Int) ([]:List Instr))]:List Fnc))) (a_ (Nat.le_refl x11.tables.length) (a_ (dfl eLim zcA x11.tables) (a_ (Nat.le_refl x11.memories.length) (a_ (dfl eLim zcA x11.memories) (a_ (Nat.le_refl x11.globals.length) (a_ (dfl eGlo zgO x11.globals) (a_ (Nat.le_refl x11.exports.length) (a_ (dfl eXpo zgM x11.exports) (a_ (Nat.le_refl x11.elems.length) (a_ (dfl eEle zgQ x11.elems) (a_ (Nat.le_refl x11.datas.length) (a_ (dfl eDat zgR x11.datas) (a_ (zcl K (Mdl.mk x11.types (x11.funcs++([(Fnc.mk (IntKind.wrap .u32 (x11.types.length:Int)) ([]:List Int) ([]:List Instr))]:List Fnc)) x11.tables x11.memories x11.globals x11.exports x11.elems x11.datas) x26 hx27) t_))))))))))))))))) t_) ?_
     refine AW2.seq ?_
     obtain ⟨j32,H34,H⟩:=bind_some H
     refine AW2.reg [] rfl (YW.to ⟨[(4,.d (.bool j32))],[]⟩ ?qh35 ?h35)
     case h35 => 
      have H:=H34
      rcases bT (x26.1==((-1):Int)) with hc1 | hc1
      ·replace H:=zao H hc1
       obtain ⟨x28,hx29,H⟩:=bind_some H
       rcases bT (x28==(7:Int)) with hc2 | hc2
       ·replace H:=zao H hc2
        obtain ⟨x30,hx31,H⟩:=bind_some H
        have H:=Option.some.inj H
        subst H
        exact YW.fin [(104,true),(109,true)] [.r (.int .i64 x28),.r (.bool x30)] [4] [] [] _ (a_ (a_ hc1 (a_ hc1 (a_ (zbx x26.2 x28 hx29) (a_ hc1 (a_ hc1 (a_ hc2 (a_ (zcm x30 hx31) (a_ hc2 t_)))))))) t_) (by kernel_rfl) rfl
       ·replace H:=zap H hc2
        have H:=Option.some.inj H
        subst H
        exact YW.fin [(104,true),(109,false)] [.r (.int .i64 x28)] [4] [] [] _ (a_ (a_ hc1 (a_ hc1 (a_ (zbx x26.2 x28 hx29) (a_ hc1 (a_ hc1 (a_ hc2 (a_ hc2 t_))))))) t_) (by kernel_rfl) rfl
      ·replace H:=zap H hc1
       have H:=Option.some.inj H
       subst H
       exact YW.fin [(104,false),(109,false)] [] [4] [] [] _ (a_ (a_ hc1 (a_ hc1 (a_ hc1 (a_ hc1 (a_ (Eq.refl false) (a_ (Eq.refl false) t_)))))) t_) (by kernel_rfl) rfl
     refine AW2.ret ?_
     have H:=Option.some.inj H
     subst H
     exact retP_mk2 t_ (by kernel_rfl)
    ·replace H:=zap H hc
     refine AW2.seq ?_
     refine r_ [] [8,9,34,63] [] [.k 8,.k 2036,.k 2069,.k 2086,.k 2103,.k 2135,.k 2152,.k 2184,.k 2216] ⟨[(8,.p 8 0),(9,.d (.int .u32 (IntKind.wrap .u32 (x11.funcs.length:Int)))),(34,.d (.int .i64 (wI ((IntKind.wrap .u64 p1).tmod 7)))),(63,.d (.bool ((wI ((IntKind.wrap .u64 p1).tmod 7))==(2:Int))))],[(8,.st false [.ls 2036 0 x11.types.length,.ls 2069 0 x11.funcs.length,.ls 2086 0 x11.tables.length,.ls 2103 0 x11.memories.length,.ls 2135 0 x11.globals.length,.ls 2152 0 x11.exports.length,.ls 2184 0 x11.elems.length,.ls 2216 0 x11.datas.length]),(2036,.sl false 2 x11.types.length (fl eTyp x11.types)),(2069,.sl false 3 x11.funcs.length (fl eFnc x11.funcs)),(2086,.sl false 3 x11.tables.length (fl eLim x11.tables)),(2103,.sl false 3 x11.memories.length (fl eLim x11.memories)),(2135,.sl false 10 x11.globals.length (fl eGlo x11.globals)),(2152,.sl false 3 x11.exports.length (fl eXpo x11.exports)),(2184,.sl false 10 x11.elems.length (fl eEle x11.elems)),(2216,.sl false 10 x11.datas.length (fl eDat x11.datas))]⟩ (a_ t_ t_) ?_
     refine AW2.cond (b:=((wI ((IntKind.wrap .u64 p1).tmod 7))==(2:Int))) rfl (fun hc => ?_) (fun hc => ?_)
     ·replace H:=zao H hc
      obtain ⟨h36,H⟩:=zaf H
      refine r_ [.sb ([(Lim.mk 3 true 2)]:List Lim).length (fl eLim ([(Lim.mk 3 true 2)]:List Lim)),.s true (x11.tables++([(Lim.mk 3 true 2)]:List Lim)).length (fl eLim (x11.tables++([(Lim.mk 3 true 2)]:List Lim)))] [8] [] [.k 8,.k 2036,.k 2069,.k 2086,.k 2103,.k 2135,.k 2152,.k 2184,.k 2216] ⟨[(8,.p 8 0)],[(8,.st false [.ls 2036 0 x11.types.length,.ls 2069 0 x11.funcs.length,.ls 2086 0 (x11.tables++([(Lim.mk 3 true 2)]:List Lim)).length,.ls 2103 0 x11.memories.length,.ls 2135 0 x11.globals.length,.ls 2152 0 x11.exports.length,.ls 2184 0 x11.elems.length,.ls 2216 0 x11.datas.length]),(2036,.sl false 2 x11.types.length (fl eTyp x11.types)),(2069,.sl false 3 x11.funcs.length (fl eFnc x11.funcs)),(2086,.sl false 3 (x11.tables++([(Lim.mk 3 true 2)]:List Lim)).length (fl eLim (x11.tables++([(Lim.mk 3 true 2)]:List Lim)))),(2103,.sl false 3 x11.memories.length (fl eLim x11.memories)),(2135,.sl false 10 x11.globals.length (fl eGlo x11.globals)),(2152,.sl false 3 x11.exports.length (fl eXpo x11.exports)),(2184,.sl false 10 x11.elems.length (fl eEle x11.elems)),(2216,.sl false 10 x11.datas.length (fl eDat x11.datas))]⟩ (a_ (a_ (litF eLim ([(Lim.mk 3 true 2)]:List Lim)) (a_ (Nat.le_refl x11.tables.length) (a_ h36 (a_ (app1 eLim x11.tables (Lim.mk 3 true 2) (fl eLim ([(Lim.mk 3 true 2)]:List Lim)) rfl) t_)))) t_) ?_
      refine AW2.seq ?_
      obtain ⟨x37,hx38,H⟩:=bind_some H
      refine r_ [.r (.tup [.int .i64 x37.1,.err 45 x37.2])] [10,11] [] [] ⟨[(10,.d (.int .i64 x37.1)),(11,.d (.err 45 x37.2))],[]⟩ (a_ (a_ (Nat.le_refl x11.types.length) (a_ (dfl eTyp zgN x11.types) (a_ (Nat.le_refl x11.funcs.length) (a_ (dfl eFnc zgP x11.funcs) (a_ (Nat.le_refl (x11.tables++([(Lim.mk 3 true 2)]:List Lim)).length) (a_ (dfl eLim zcA (x11.tables++([(Lim.mk 3 true 2)]:List Lim))) (a_ (Nat.le_refl x11.memories.length) (a_ (dfl eLim zcA x11.memories) (a_ (Nat.le_refl x11.globals.length) (a_ (dfl eGlo zgO x11.globals) (a_ (Nat.le_refl x11.exports.length) (a_ (dfl eXpo zgM x11.exports) (a_ (Nat.le_refl x11.elems.length) (a_ (dfl eEle zgQ x11.elems) (a_ (Nat.le_refl x11.datas.length) (a_ (dfl eDat zgR x11.datas) (a_ (zcl K (Mdl.mk x11.types x11.funcs (x11.tables++([(Lim.mk 3 true 2)]:List Lim)) x11.memories x11.globals x11.exports x11.elems x11.datas) x37 hx38) t_))))))))))))))))) t_) ?_
      refine AW2.seq ?_
      obtain ⟨j43,H45,H⟩:=bind_some H
      refine AW2.reg [] rfl (YW.to ⟨[(4,.d (.bool j43))],[]⟩ ?qh46 ?h46)
      case h46 => 
       have H:=H45
       rcases bT (x37.1==((-1):Int)) with hc1 | hc1
       ·replace H:=zao H hc1
        obtain ⟨x39,hx40,H⟩:=bind_some H
        rcases bT (x39==(7:Int)) with hc2 | hc2
        ·replace H:=zao H hc2
         obtain ⟨x41,hx42,H⟩:=bind_some H
         have H:=Option.some.inj H
         subst H
         exact YW.fin [(104,true),(109,true)] [.r (.int .i64 x39),.r (.bool x41)] [4] [] [] _ (a_ (a_ hc1 (a_ hc1 (a_ (zbx x37.2 x39 hx40) (a_ hc1 (a_ hc1 (a_ hc2 (a_ (zcm x41 hx42) (a_ hc2 t_)))))))) t_) (by kernel_rfl) rfl
        ·replace H:=zap H hc2
         have H:=Option.some.inj H
         subst H
         exact YW.fin [(104,true),(109,false)] [.r (.int .i64 x39)] [4] [] [] _ (a_ (a_ hc1 (a_ hc1 (a_ (zbx x37.2 x39 hx40) (a_ hc1 (a_ hc1 (a_ hc2 (a_ hc2 t_))))))) t_) (by kernel_rfl) rfl
       ·replace H:=zap H hc1
        have H:=Option.some.inj H
        subst H
        exact YW.fin [(104,false),(109,false)] [] [4] [] [] _ (a_ (a_ hc1 (a_ hc1 (a_ hc1 (a_ hc1 (a_ (Eq.refl false) (a_ (Eq.refl false) t_)))))) t_) (by kernel_rfl) rfl
      refine AW2.ret ?_
      have H:=Option.some.inj H
      subst H
      exact retP_mk2 t_ (by kernel_rfl)
     ·replace H:=zap H hc
      refine AW2.seq ?_
      refine r_ [] [8,9,34,71] [] [.k 8,.k 2036,.k 2069,.k 2086,.k 2103,.k 2135,.k 2152,.k 2184,.k 2216] ⟨[(8,.p 8 0),(9,.d (.int .u32 (IntKind.wrap .u32 (x11.funcs.length:Int)))),(34,.d (.int .i64 (wI ((IntKind.wrap .u64 p1).tmod 7)))),(71,.d (.bool ((wI ((IntKind.wrap .u64 p1).tmod 7))==(3:Int))))],[(8,.st false [.ls 2036 0 x11.types.length,.ls 2069 0 x11.funcs.length,.ls 2086 0 x11.tables.length,.ls 2103 0 x11.memories.length,.ls 2135 0 x11.globals.length,.ls 2152 0 x11.exports.length,.ls 2184 0 x11.elems.length,.ls 2216 0 x11.datas.length]),(2036,.sl false 2 x11.types.length (fl eTyp x11.types)),(2069,.sl false 3 x11.funcs.length (fl eFnc x11.funcs)),(2086,.sl false 3 x11.tables.length (fl eLim x11.tables)),(2103,.sl false 3 x11.memories.length (fl eLim x11.memories)),(2135,.sl false 10 x11.globals.length (fl eGlo x11.globals)),(2152,.sl false 3 x11.exports.length (fl eXpo x11.exports)),(2184,.sl false 10 x11.elems.length (fl eEle x11.elems)),(2216,.sl false 10 x11.datas.length (fl eDat x11.datas))]⟩ (a_ t_ t_) ?_
      refine AW2.cond (b:=((wI ((IntKind.wrap .u64 p1).tmod 7))==(3:Int))) rfl (fun hc => ?_) (fun hc => ?_)
      ·replace H:=zao H hc
       refine r_ [.sb ([(Lim.mk 0 false 0),(Lim.mk 0 false 0)]:List Lim).length (fl eLim ([(Lim.mk 0 false 0),(Lim.mk 0 false 0)]:List Lim))] [8] [] [.k 8,.k 2036,.k 2069,.k 2086,.k 2135,.k 2152,.k 2184,.k 2216] ⟨[(8,.p 8 0)],[(8,.st false [.ls 2036 0 x11.types.length,.ls 2069 0 x11.funcs.length,.ls 2086 0 x11.tables.length,.d (sV eLim ([(Lim.mk 0 false 0),(Lim.mk 0 false 0)]:List Lim)),.ls 2135 0 x11.globals.length,.ls 2152 0 x11.exports.length,.ls 2184 0 x11.elems.length,.ls 2216 0 x11.datas.length]),(2036,.sl false 2 x11.types.length (fl eTyp x11.types)),(2069,.sl false 3 x11.funcs.length (fl eFnc x11.funcs)),(2086,.sl false 3 x11.tables.length (fl eLim x11.tables)),(2135,.sl false 10 x11.globals.length (fl eGlo x11.globals)),(2152,.sl false 3 x11.exports.length (fl eXpo x11.exports)),(2184,.sl false 10 x11.elems.length (fl eEle x11.elems)),(2216,.sl false 10 x11.datas.length (fl eDat x11.datas))]⟩ (a_ (a_ (litF eLim ([(Lim.mk 0 false 0),(Lim.mk 0 false 0)]:List Lim)) t_) t_) ?_
       refine AW2.seq ?_
       obtain ⟨x47,hx48,H⟩:=bind_some H
       refine r_ [.r (.tup [.int .i64 x47.1,.err 45 x47.2])] [10,11] [] [] ⟨[(10,.d (.int .i64 x47.1)),(11,.d (.err 45 x47.2))],[]⟩ (a_ (a_ (Nat.le_refl x11.types.length) (a_ (dfl eTyp zgN x11.types) (a_ (Nat.le_refl x11.funcs.length) (a_ (dfl eFnc zgP x11.funcs) (a_ (Nat.le_refl x11.tables.length) (a_ (dfl eLim zcA x11.tables) (a_ (Nat.le_refl x11.globals.length) (a_ (dfl eGlo zgO x11.globals) (a_ (Nat.le_refl x11.exports.length) (a_ (dfl eXpo zgM x11.exports) (a_ (Nat.le_refl x11.elems.length) (a_ (dfl eEle zgQ x11.elems) (a_ (Nat.le_refl x11.datas.length) (a_ (dfl eDat zgR x11.datas) (a_ (zcl K (Mdl.mk x11.types x11.funcs x11.tables ([(Lim.mk 0 false 0),(Lim.mk 0 false 0)]:List Lim) x11.globals x11.exports x11.elems x11.datas) x47 hx48) t_))))))))))))))) t_) ?_
       refine AW2.seq ?_
       obtain ⟨j53,H55,H⟩:=bind_some H
       refine AW2.reg [] rfl (YW.to ⟨[(4,.d (.bool j53))],[]⟩ ?qh56 ?h56)
       case h56 => 
        have H:=H55
        rcases bT (x47.1==((-1):Int)) with hc1 | hc1
        ·replace H:=zao H hc1
         obtain ⟨x49,hx50,H⟩:=bind_some H
         rcases bT (x49==(7:Int)) with hc2 | hc2
         ·replace H:=zao H hc2
          obtain ⟨x51,hx52,H⟩:=bind_some H
          have H:=Option.some.inj H
          subst H
          exact YW.fin [(104,true),(109,true)] [.r (.int .i64 x49),.r (.bool x51)] [4] [] [] _ (a_ (a_ hc1 (a_ hc1 (a_ (zbx x47.2 x49 hx50) (a_ hc1 (a_ hc1 (a_ hc2 (a_ (zcm x51 hx52) (a_ hc2 t_)))))))) t_) (by kernel_rfl) rfl
         ·replace H:=zap H hc2
          have H:=Option.some.inj H
          subst H
          exact YW.fin [(104,true),(109,false)] [.r (.int .i64 x49)] [4] [] [] _ (a_ (a_ hc1 (a_ hc1 (a_ (zbx x47.2 x49 hx50) (a_ hc1 (a_ hc1 (a_ hc2 (a_ hc2 t_))))))) t_) (by kernel_rfl) rfl
        ·replace H:=zap H hc1
         have H:=Option.some.inj H
         subst H
         exact YW.fin [(104,false),(109,false)] [] [4] [] [] _ (a_ (a_ hc1 (a_ hc1 (a_ hc1 (a_ hc1 (a_ (Eq.refl false) (a_ (Eq.refl false) t_)))))) t_) (by kernel_rfl) rfl
       refine AW2.ret ?_
       have H:=Option.some.inj H
       subst H
       exact retP_mk2 t_ (by kernel_rfl)
      ·replace H:=zap H hc
       refine AW2.seq ?_
       refine r_ [] [8,9,34,77] [] [.k 8,.k 2036,.k 2069,.k 2086,.k 2103,.k 2135,.k 2152,.k 2184,.k 2216] ⟨[(8,.p 8 0),(9,.d (.int .u32 (IntKind.wrap .u32 (x11.funcs.length:Int)))),(34,.d (.int .i64 (wI ((IntKind.wrap .u64 p1).tmod 7)))),(77,.d (.bool ((wI ((IntKind.wrap .u64 p1).tmod 7))==(4:Int))))],[(8,.st false [.ls 2036 0 x11.types.length,.ls 2069 0 x11.funcs.length,.ls 2086 0 x11.tables.length,.ls 2103 0 x11.memories.length,.ls 2135 0 x11.globals.length,.ls 2152 0 x11.exports.length,.ls 2184 0 x11.elems.length,.ls 2216 0 x11.datas.length]),(2036,.sl false 2 x11.types.length (fl eTyp x11.types)),(2069,.sl false 3 x11.funcs.length (fl eFnc x11.funcs)),(2086,.sl false 3 x11.tables.length (fl eLim x11.tables)),(2103,.sl false 3 x11.memories.length (fl eLim x11.memories)),(2135,.sl false 10 x11.globals.length (fl eGlo x11.globals)),(2152,.sl false 3 x11.exports.length (fl eXpo x11.exports)),(2184,.sl false 10 x11.elems.length (fl eEle x11.elems)),(2216,.sl false 10 x11.datas.length (fl eDat x11.datas))]⟩ (a_ t_ t_) ?_
       refine AW2.cond (b:=((wI ((IntKind.wrap .u64 p1).tmod 7))==(4:Int))) rfl (fun hc => ?_) (fun hc => ?_)
       ·replace H:=zao H hc
        obtain ⟨h57,H⟩:=zaf H
        refine r_ [.sb ([(Glo.mk 126 false (Instr.mk 65 0 0 0 0 ([]:List Instr) ([]:List Instr) ([]:List Int)))]:List Glo).length (fl eGlo ([(Glo.mk 126 false (Instr.mk 65 0 0 0 0 ([]:List Instr) ([]:List Instr) ([]:List Int)))]:List Glo)),.s true (x11.globals++([(Glo.mk 126 false (Instr.mk 65 0 0 0 0 ([]:List Instr) ([]:List Instr) ([]:List Int)))]:List Glo)).length (fl eGlo (x11.globals++([(Glo.mk 126 false (Instr.mk 65 0 0 0 0 ([]:List Instr) ([]:List Instr) ([]:List Int)))]:List Glo)))] [8] [] [.k 8,.k 2036,.k 2069,.k 2086,.k 2103,.k 2135,.k 2152,.k 2184,.k 2216] ⟨[(8,.p 8 0)],[(8,.st false [.ls 2036 0 x11.types.length,.ls 2069 0 x11.funcs.length,.ls 2086 0 x11.tables.length,.ls 2103 0 x11.memories.length,.ls 2135 0 (x11.globals++([(Glo.mk 126 false (Instr.mk 65 0 0 0 0 ([]:List Instr) ([]:List Instr) ([]:List Int)))]:List Glo)).length,.ls 2152 0 x11.exports.length,.ls 2184 0 x11.elems.length,.ls 2216 0 x11.datas.length]),(2036,.sl false 2 x11.types.length (fl eTyp x11.types)),(2069,.sl false 3 x11.funcs.length (fl eFnc x11.funcs)),(2086,.sl false 3 x11.tables.length (fl eLim x11.tables)),(2103,.sl false 3 x11.memories.length (fl eLim x11.memories)),(2135,.sl false 10 (x11.globals++([(Glo.mk 126 false (Instr.mk 65 0 0 0 0 ([]:List Instr) ([]:List Instr) ([]:List Int)))]:List Glo)).length (fl eGlo (x11.globals++([(Glo.mk 126 false (Instr.mk 65 0 0 0 0 ([]:List Instr) ([]:List Instr) ([]:List Int)))]:List Glo)))),(2152,.sl false 3 x11.exports.length (fl eXpo x11.exports)),(2184,.sl false 10 x11.elems.length (fl eEle x11.elems)),(2216,.sl false 10 x11.datas.length (fl eDat x11.datas))]⟩ (a_ (a_ (litF eGlo ([(Glo.mk 126 false (Instr.mk 65 0 0 0 0 ([]:List Instr) ([]:List Instr) ([]:List Int)))]:List Glo)) (a_ (Nat.le_refl x11.globals.length) (a_ h57 (a_ (app1 eGlo x11.globals (Glo.mk 126 false (Instr.mk 65 0 0 0 0 ([]:List Instr) ([]:List Instr) ([]:List Int))) (fl eGlo ([(Glo.mk 126 false (Instr.mk 65 0 0 0 0 ([]:List Instr) ([]:List Instr) ([]:List Int)))]:List Glo)) rfl) t_)))) t_) ?_
        refine AW2.seq ?_
        obtain ⟨x58,hx59,H⟩:=bind_some H
        refine r_ [.r (.tup [.int .i64 x58.1,.err 45 x58.2])] [10,11] [] [] ⟨[(10,.d (.int .i64 x58.1)),(11,.d (.err 45 x58.2))],[]⟩ (a_ (a_ (Nat.le_refl x11.types.length) (a_ (dfl eTyp zgN x11.types) (a_ (Nat.le_refl x11.funcs.length) (a_ (dfl eFnc zgP x11.funcs) (a_ (Nat.le_refl x11.tables.length) (a_ (dfl eLim zcA x11.tables) (a_ (Nat.le_refl x11.memories.length) (a_ (dfl eLim zcA x11.memories) (a_ (Nat.le_refl (x11.globals++([(Glo.mk 126 false (Instr.mk 65 0 0 0 0 ([]:List Instr) ([]:List Instr) ([]:List Int)))]:List Glo)).length) (a_ (dfl eGlo zgO (x11.globals++([(Glo.mk 126 false (Instr.mk 65 0 0 0 0 ([]:List Instr) ([]:List Instr) ([]:List Int)))]:List Glo))) (a_ (Nat.le_refl x11.exports.length) (a_ (dfl eXpo zgM x11.exports) (a_ (Nat.le_refl x11.elems.length) (a_ (dfl eEle zgQ x11.elems) (a_ (Nat.le_refl x11.datas.length) (a_ (dfl eDat zgR x11.datas) (a_ (zcl K (Mdl.mk x11.types x11.funcs x11.tables x11.memories (x11.globals++([(Glo.mk 126 false (Instr.mk 65 0 0 0 0 ([]:List Instr) ([]:List Instr) ([]:List Int)))]:List Glo)) x11.exports x11.elems x11.datas) x58 hx59) t_))))))))))))))))) t_) ?_
        refine AW2.seq ?_
        obtain ⟨j64,H66,H⟩:=bind_some H
        refine AW2.reg [] rfl (YW.to ⟨[(4,.d (.bool j64))],[]⟩ ?qh67 ?h67)
        case h67 => 
         have H:=H66
         rcases bT (x58.1==((-1):Int)) with hc1 | hc1
         ·replace H:=zao H hc1
          obtain ⟨x60,hx61,H⟩:=bind_some H
          rcases bT (x60==(7:Int)) with hc2 | hc2
          ·replace H:=zao H hc2
           obtain ⟨x62,hx63,H⟩:=bind_some H
           have H:=Option.some.inj H
           subst H
           exact YW.fin [(104,true),(109,true)] [.r (.int .i64 x60),.r (.bool x62)] [4] [] [] _ (a_ (a_ hc1 (a_ hc1 (a_ (zbx x58.2 x60 hx61) (a_ hc1 (a_ hc1 (a_ hc2 (a_ (zcm x62 hx63) (a_ hc2 t_)))))))) t_) (by kernel_rfl) rfl
          ·replace H:=zap H hc2
           have H:=Option.some.inj H
           subst H
           exact YW.fin [(104,true),(109,false)] [.r (.int .i64 x60)] [4] [] [] _ (a_ (a_ hc1 (a_ hc1 (a_ (zbx x58.2 x60 hx61) (a_ hc1 (a_ hc1 (a_ hc2 (a_ hc2 t_))))))) t_) (by kernel_rfl) rfl
         ·replace H:=zap H hc1
          have H:=Option.some.inj H
          subst H
          exact YW.fin [(104,false),(109,false)] [] [4] [] [] _ (a_ (a_ hc1 (a_ hc1 (a_ hc1 (a_ hc1 (a_ (Eq.refl false) (a_ (Eq.refl false) t_)))))) t_) (by kernel_rfl) rfl
        refine AW2.ret ?_
        have H:=Option.some.inj H
        subst H
        exact retP_mk2 t_ (by kernel_rfl)
       ·replace H:=zap H hc
        refine AW2.seq ?_
        refine r_ [] [8,9,86] [] [.k 8,.k 2036,.k 2069,.k 2086,.k 2103,.k 2135,.k 2152,.k 2184,.k 2216] ⟨[(8,.p 8 0),(9,.d (.int .u32 (IntKind.wrap .u32 (x11.funcs.length:Int)))),(86,.d (.bool ((wI ((IntKind.wrap .u64 p1).tmod 7))==(5:Int))))],[(8,.st false [.ls 2036 0 x11.types.length,.ls 2069 0 x11.funcs.length,.ls 2086 0 x11.tables.length,.ls 2103 0 x11.memories.length,.ls 2135 0 x11.globals.length,.ls 2152 0 x11.exports.length,.ls 2184 0 x11.elems.length,.ls 2216 0 x11.datas.length]),(2036,.sl false 2 x11.types.length (fl eTyp x11.types)),(2069,.sl false 3 x11.funcs.length (fl eFnc x11.funcs)),(2086,.sl false 3 x11.tables.length (fl eLim x11.tables)),(2103,.sl false 3 x11.memories.length (fl eLim x11.memories)),(2135,.sl false 10 x11.globals.length (fl eGlo x11.globals)),(2152,.sl false 3 x11.exports.length (fl eXpo x11.exports)),(2184,.sl false 10 x11.elems.length (fl eEle x11.elems)),(2216,.sl false 10 x11.datas.length (fl eDat x11.datas))]⟩ (a_ t_ t_) ?_
        refine AW2.cond (b:=((wI ((IntKind.wrap .u64 p1).tmod 7))==(5:Int))) rfl (fun hc => ?_) (fun hc => ?_)
        ·replace H:=zao H hc
         obtain ⟨h68,H⟩:=zaf H
         refine r_ [.sb ([(IntKind.wrap .u32 (x11.funcs.length:Int))]:List Int).length (fl (eI .u32) ([(IntKind.wrap .u32 (x11.funcs.length:Int))]:List Int)),.sb ([(Ele.mk 0 (Instr.mk 65 0 0 0 0 ([]:List Instr) ([]:List Instr) ([]:List Int)) ([(IntKind.wrap .u32 (x11.funcs.length:Int))]:List Int))]:List Ele).length (fl eEle ([(Ele.mk 0 (Instr.mk 65 0 0 0 0 ([]:List Instr) ([]:List Instr) ([]:List Int)) ([(IntKind.wrap .u32 (x11.funcs.length:Int))]:List Int))]:List Ele)),.s true (x11.elems++([(Ele.mk 0 (Instr.mk 65 0 0 0 0 ([]:List Instr) ([]:List Instr) ([]:List Int)) ([(IntKind.wrap .u32 (x11.funcs.length:Int))]:List Int))]:List Ele)).length (fl eEle (x11.elems++([(Ele.mk 0 (Instr.mk 65 0 0 0 0 ([]:List Instr) ([]:List Instr) ([]:List Int)) ([(IntKind.wrap .u32 (x11.funcs.length:Int))]:List Int))]:List Ele)))] [8] [] [.k 8,.k 2036,.k 2069,.k 2086,.k 2103,.k 2135,.k 2152,.k 2184,.k 2216] ⟨[(8,.p 8 0)],[(8,.st false [.ls 2036 0 x11.types.length,.ls 2069 0 x11.funcs.length,.ls 2086 0 x11.tables.length,.ls 2103 0 x11.memories.length,.ls 2135 0 x11.globals.length,.ls 2152 0 x11.exports.length,.ls 2184 0 (x11.elems++([(Ele.mk 0 (Instr.mk 65 0 0 0 0 ([]:List Instr) ([]:List Instr) ([]:List Int)) ([(IntKind.wrap .u32 (x11.funcs.length:Int))]:List Int))]:List Ele)).length,.ls 2216 0 x11.datas.length]),(2036,.sl false 2 x11.types.length (fl eTyp x11.types)),(2069,.sl false 3 x11.funcs.length (fl eFnc x11.funcs)),(2086,.sl false 3 x11.tables.length (fl eLim x11.tables)),(2103,.sl false 3 x11.memories.length (fl eLim x11.memories)),(2135,.sl false 10 x11.globals.length (fl eGlo x11.globals)),(2152,.sl false 3 x11.exports.length (fl eXpo x11.exports)),(2184,.sl false 10 (x11.elems++([(Ele.mk 0 (Instr.mk 65 0 0 0 0 ([]:List Instr) ([]:List Instr) ([]:List Int)) ([(IntKind.wrap .u32 (x11.funcs.length:Int))]:List Int))]:List Ele)).length (fl eEle (x11.elems++([(Ele.mk 0 (Instr.mk 65 0 0 0 0 ([]:List Instr) ([]:List Instr) ([]:List Int)) ([(IntKind.wrap .u32 (x11.funcs.length:Int))]:List Int))]:List Ele)))),(2216,.sl false 10 x11.datas.length (fl eDat x11.datas))]⟩ (a_ (a_ (litF (eI .u32) ([(IntKind.wrap .u32 (x11.funcs.length:Int))]:List Int)) (a_ (litF eEle ([(Ele.mk 0 (Instr.mk 65 0 0 0 0 ([]:List Instr) ([]:List Instr) ([]:List Int)) ([(IntKind.wrap .u32 (x11.funcs.length:Int))]:List Int))]:List Ele)) (a_ (Nat.le_refl x11.elems.length) (a_ h68 (a_ (app1 eEle x11.elems (Ele.mk 0 (Instr.mk 65 0 0 0 0 ([]:List Instr) ([]:List Instr) ([]:List Int)) ([(IntKind.wrap .u32 (x11.funcs.length:Int))]:List Int)) (fl eEle ([(Ele.mk 0 (Instr.mk 65 0 0 0 0 ([]:List Instr) ([]:List Instr) ([]:List Int)) ([(IntKind.wrap .u32 (x11.funcs.length:Int))]:List Int))]:List Ele)) rfl) t_))))) t_) ?_
         refine AW2.seq ?_
         obtain ⟨x69,hx70,H⟩:=bind_some H
         refine r_ [.r (.tup [.int .i64 x69.1,.err 45 x69.2])] [10,11] [] [] ⟨[(10,.d (.int .i64 x69.1)),(11,.d (.err 45 x69.2))],[]⟩ (a_ (a_ (Nat.le_refl x11.types.length) (a_ (dfl eTyp zgN x11.types) (a_ (Nat.le_refl x11.funcs.length) (a_ (dfl eFnc zgP x11.funcs) (a_ (Nat.le_refl x11.tables.length) (a_ (dfl eLim zcA x11.tables) (a_ (Nat.le_refl x11.memories.length) (a_ (dfl eLim zcA x11.memories) (a_ (Nat.le_refl x11.globals.length) (a_ (dfl eGlo zgO x11.globals) (a_ (Nat.le_refl x11.exports.length) (a_ (dfl eXpo zgM x11.exports) (a_ (Nat.le_refl (x11.elems++([(Ele.mk 0 (Instr.mk 65 0 0 0 0 ([]:List Instr) ([]:List Instr) ([]:List Int)) ([(IntKind.wrap .u32 (x11.funcs.length:Int))]:List Int))]:List Ele)).length) (a_ (dfl eEle zgQ (x11.elems++([(Ele.mk 0 (Instr.mk 65 0 0 0 0 ([]:List Instr) ([]:List Instr) ([]:List Int)) ([(IntKind.wrap .u32 (x11.funcs.length:Int))]:List Int))]:List Ele))) (a_ (Nat.le_refl x11.datas.length) (a_ (dfl eDat zgR x11.datas) (a_ (zcl K (Mdl.mk x11.types x11.funcs x11.tables x11.memories x11.globals x11.exports (x11.elems++([(Ele.mk 0 (Instr.mk 65 0 0 0 0 ([]:List Instr) ([]:List Instr) ([]:List Int)) ([(IntKind.wrap .u32 (x11.funcs.length:Int))]:List Int))]:List Ele)) x11.datas) x69 hx70) t_))))))))))))))))) t_) ?_
         refine AW2.seq ?_
         obtain ⟨j75,H77,H⟩:=bind_some H
         refine AW2.reg [] rfl (YW.to ⟨[(4,.d (.bool j75))],[]⟩ ?qh78 ?h78)
         case h78 => 
          have H:=H77
          rcases bT (x69.1==((-1):Int)) with hc1 | hc1
          ·replace H:=zao H hc1
           obtain ⟨x71,hx72,H⟩:=bind_some H
           rcases bT (x71==(7:Int)) with hc2 | hc2
           ·replace H:=zao H hc2
            obtain ⟨x73,hx74,H⟩:=bind_some H
            have H:=Option.some.inj H
            subst H
            exact YW.fin [(104,true),(109,true)] [.r (.int .i64 x71),.r (.bool x73)] [4] [] [] _ (a_ (a_ hc1 (a_ hc1 (a_ (zbx x69.2 x71 hx72) (a_ hc1 (a_ hc1 (a_ hc2 (a_ (zcm x73 hx74) (a_ hc2 t_)))))))) t_) (by kernel_rfl) rfl
           ·replace H:=zap H hc2
            have H:=Option.some.inj H
            subst H
            exact YW.fin [(104,true),(109,false)] [.r (.int .i64 x71)] [4] [] [] _ (a_ (a_ hc1 (a_ hc1 (a_ (zbx x69.2 x71 hx72) (a_ hc1 (a_ hc1 (a_ hc2 (a_ hc2 t_))))))) t_) (by kernel_rfl) rfl
          ·replace H:=zap H hc1
           have H:=Option.some.inj H
           subst H
           exact YW.fin [(104,false),(109,false)] [] [4] [] [] _ (a_ (a_ hc1 (a_ hc1 (a_ hc1 (a_ hc1 (a_ (Eq.refl false) (a_ (Eq.refl false) t_)))))) t_) (by kernel_rfl) rfl
         refine AW2.ret ?_
         have H:=Option.some.inj H
         subst H
         exact retP_mk2 t_ (by kernel_rfl)
        ·replace H:=zap H hc
         obtain ⟨h79,H⟩:=zaf H
         refine r_ [.sb ([(Dat.mk 1 (Instr.mk 65 0 0 0 0 ([]:List Instr) ([]:List Instr) ([]:List Int)) ([]:List Int))]:List Dat).length (fl eDat ([(Dat.mk 1 (Instr.mk 65 0 0 0 0 ([]:List Instr) ([]:List Instr) ([]:List Int)) ([]:List Int))]:List Dat)),.s true (x11.datas++([(Dat.mk 1 (Instr.mk 65 0 0 0 0 ([]:List Instr) ([]:List Instr) ([]:List Int)) ([]:List Int))]:List Dat)).length (fl eDat (x11.datas++([(Dat.mk 1 (Instr.mk 65 0 0 0 0 ([]:List Instr) ([]:List Instr) ([]:List Int)) ([]:List Int))]:List Dat)))] [8] [] [.k 8,.k 2036,.k 2069,.k 2086,.k 2103,.k 2135,.k 2152,.k 2184,.k 2216] ⟨[(8,.p 8 0)],[(8,.st false [.ls 2036 0 x11.types.length,.ls 2069 0 x11.funcs.length,.ls 2086 0 x11.tables.length,.ls 2103 0 x11.memories.length,.ls 2135 0 x11.globals.length,.ls 2152 0 x11.exports.length,.ls 2184 0 x11.elems.length,.ls 2216 0 (x11.datas++([(Dat.mk 1 (Instr.mk 65 0 0 0 0 ([]:List Instr) ([]:List Instr) ([]:List Int)) ([]:List Int))]:List Dat)).length]),(2036,.sl false 2 x11.types.length (fl eTyp x11.types)),(2069,.sl false 3 x11.funcs.length (fl eFnc x11.funcs)),(2086,.sl false 3 x11.tables.length (fl eLim x11.tables)),(2103,.sl false 3 x11.memories.length (fl eLim x11.memories)),(2135,.sl false 10 x11.globals.length (fl eGlo x11.globals)),(2152,.sl false 3 x11.exports.length (fl eXpo x11.exports)),(2184,.sl false 10 x11.elems.length (fl eEle x11.elems)),(2216,.sl false 10 (x11.datas++([(Dat.mk 1 (Instr.mk 65 0 0 0 0 ([]:List Instr) ([]:List Instr) ([]:List Int)) ([]:List Int))]:List Dat)).length (fl eDat (x11.datas++([(Dat.mk 1 (Instr.mk 65 0 0 0 0 ([]:List Instr) ([]:List Instr) ([]:List Int)) ([]:List Int))]:List Dat))))]⟩ (a_ (a_ (litF eDat ([(Dat.mk 1 (Instr.mk 65 0 0 0 0 ([]:List Instr) ([]:List Instr) ([]:List Int)) ([]:List Int))]:List Dat)) (a_ (Nat.le_refl x11.datas.length) (a_ h79 (a_ (app1 eDat x11.datas (Dat.mk 1 (Instr.mk 65 0 0 0 0 ([]:List Instr) ([]:List Instr) ([]:List Int)) ([]:List Int)) (fl eDat ([(Dat.mk 1 (Instr.mk 65 0 0 0 0 ([]:List Instr) ([]:List Instr) ([]:List Int)) ([]:List Int))]:List Dat)) rfl) t_)))) t_) ?_
         refine AW2.seq ?_
         obtain ⟨x80,hx81,H⟩:=bind_some H
         refine r_ [.r (.tup [.int .i64 x80.1,.err 45 x80.2])] [10,11] [] [] ⟨[(10,.d (.int .i64 x80.1)),(11,.d (.err 45 x80.2))],[]⟩ (a_ (a_ (Nat.le_refl x11.types.length) (a_ (dfl eTyp zgN x11.types) (a_ (Nat.le_refl x11.funcs.length) (a_ (dfl eFnc zgP x11.funcs) (a_ (Nat.le_refl x11.tables.length) (a_ (dfl eLim zcA x11.tables) (a_ (Nat.le_refl x11.memories.length) (a_ (dfl eLim zcA x11.memories) (a_ (Nat.le_refl x11.globals.length) (a_ (dfl eGlo zgO x11.globals) (a_ (Nat.le_refl x11.exports.length) (a_ (dfl eXpo zgM x11.exports) (a_ (Nat.le_refl x11.elems.length) (a_ (dfl eEle zgQ x11.elems) (a_ (Nat.le_refl (x11.datas++([(Dat.mk 1 (Instr.mk 65 0 0 0 0 ([]:List Instr) ([]:List Instr) ([]:List Int)) ([]:List Int))]:List Dat)).length) (a_ (dfl eDat zgR (x11.datas++([(Dat.mk 1 (Instr.mk 65 0 0 0 0 ([]:List Instr) ([]:List Instr) ([]:List Int)) ([]:List Int))]:List Dat))) (a_ (zcl K (Mdl.mk x11.types x11.funcs x11.tables x11.memories x11.globals x11.exports x11.elems (x11.datas++([(Dat.mk 1 (Instr.mk 65 0 0 0 0 ([]:List Instr) ([]:List Instr) ([]:List Int)) ([]:List Int))]:List Dat))) x80 hx81) t_))))))))))))))))) t_) ?_
         refine AW2.seq ?_
         obtain ⟨j86,H88,H⟩:=bind_some H
         refine AW2.reg [] rfl (YW.to ⟨[(4,.d (.bool j86))],[]⟩ ?qh89 ?h89)
         case h89 => 
          have H:=H88
          rcases bT (x80.1==((-1):Int)) with hc1 | hc1
          ·replace H:=zao H hc1
           obtain ⟨x82,hx83,H⟩:=bind_some H
           rcases bT (x82==(7:Int)) with hc2 | hc2
           ·replace H:=zao H hc2
            obtain ⟨x84,hx85,H⟩:=bind_some H
            have H:=Option.some.inj H
            subst H
            exact YW.fin [(104,true),(109,true)] [.r (.int .i64 x82),.r (.bool x84)] [4] [] [] _ (a_ (a_ hc1 (a_ hc1 (a_ (zbx x80.2 x82 hx83) (a_ hc1 (a_ hc1 (a_ hc2 (a_ (zcm x84 hx85) (a_ hc2 t_)))))))) t_) (by kernel_rfl) rfl
           ·replace H:=zap H hc2
            have H:=Option.some.inj H
            subst H
            exact YW.fin [(104,true),(109,false)] [.r (.int .i64 x82)] [4] [] [] _ (a_ (a_ hc1 (a_ hc1 (a_ (zbx x80.2 x82 hx83) (a_ hc1 (a_ hc1 (a_ hc2 (a_ hc2 t_))))))) t_) (by kernel_rfl) rfl
          ·replace H:=zap H hc1
           have H:=Option.some.inj H
           subst H
           exact YW.fin [(104,false),(109,false)] [] [4] [] [] _ (a_ (a_ hc1 (a_ hc1 (a_ hc1 (a_ hc1 (a_ (Eq.refl false) (a_ (Eq.refl false) t_)))))) t_) (by kernel_rfl) rfl
         refine AW2.ret ?_
         have H:=Option.some.inj H
         subst H
         exact retP_mk2 t_ (by kernel_rfl)
end Go.Proofs.YtablleokoifolaaGreatDoor
set_option linter.unusedVariables false
set_option linter.unusedSimpArgs false
set_option maxRecDepth 100000
namespace Go.Proofs.YtablleokoifolaaGreatDoor
open Go
theorem xpAll_app (q:List Int) (e:Xpo):∀ (l:List Xpo) (seen:List ByteArray),xpAll q seen (l++[e])=(xpAll q seen l&&xpOk q (seen++l.map (·.name)) e)
 | [],seen => by simp [xpAll]
 | x :: l,seen => by
  simp only [List.cons_append,xpAll,List.map_cons]
  rw [xpAll_app q e l (seen++[x.name]),List.append_assoc,Bool.and_assoc]
  rfl
theorem MSx.up {S:Nat} {m:Mdl} (z:MSx S m) (h:S+1<1000000000):MSx (S+1) m:=
 ⟨⟨h,by have:=z.types; omega,fun t ht => by have:=z.typ t ht; omega,by have:=z.funcs; omega,fun t ht => by have:=z.fnc t ht; omega,by have:=z.globals; omega⟩,by have:=z.tables; omega,by have:=z.memories; omega,by have:=z.elems; omega,fun t ht => by have:=z.ele t ht; omega,by have:=z.datas; omega,by have:=z.exports; omega,z.xpo⟩
theorem refuse {S K:Nat} {m:Mdl} (z:MSx S m) (hK:S≤K) (hl:lim2 m=false) (ho:outerB m=false):zaU K m=some (-1,some 7):=by
 rw [zvP z hK,hl,ho]; rfl
theorem zxJ {a b c d e f g h i j:Bool} (hh:(a&&(b&&(c&&(d&&(e&&(f&&(g&&(h&&(i&&j)))))))))=true):a=true∧b=true∧c=true∧d=true∧e=true∧f=true∧g=true∧h=true∧i=true∧j=true:=by
 revert hh; cases a <;> cases b <;> cases c <;> cases d <;> cases e <;> cases f <;> cases g <;> cases h <;> cases i <;> cases j <;> decide
theorem zfn {m:Mdl} (h:outerB m=true):kindsB m=true∧(!decide ((m.tables.length:Int)>1))=true∧(!decide ((m.memories.length:Int)>1))=true∧(!m.tables.any bndB)=true∧(!m.memories.any bndB)=true∧m.funcs.all (fuB m)=true∧m.globals.all glB=true∧m.elems.all (elB m)=true∧m.datas.all (daB m)=true∧exB m=true:=zxJ h
theorem notT {b:Bool} (h:b=true→False):b=false:=by
 cases b with
 | false => rfl
 | true => exact (h rfl).elim
theorem zwh (m:Mdl) (w:Int) (S K:Nat) (z:MSx S m) (hI:BOk S K m) (gv:GvOk K m) (hS:100≤S) (hK:S+1000≤K) (hK2:K<100000000):zdb K m w=some true:=by
 have s1:=z.types; have s2:=z.funcs; have s3:=z.tables; have s4:=z.memories; have s5:=z.globals; have s6:=z.exports; have s7:=z.elems; have s8:=z.datas
 have z1:=z.up (by omega)
 unfold zdb
 obtain ⟨bg,e1⟩:=zyD gv
 rw [e1,Option.bind_some]
 cases bg with
 | true => rfl
 | false => 
  rw [if_neg (by decide),giveModule_id gv,Option.bind_some,zvP z (by omega)]
  by_cases hl:lim2 m=true
  ·rw [if_pos hl]; rfl
  have hl0:lim2 m=false:=by simpa using hl
  rw [if_neg hl]
  by_cases ho:outerB m=true
  rotate_left
  ·rw [if_neg ho]; rfl
  rw [if_pos ho]
  obtain ⟨at_,e,h0⟩:=zxE z hI (by omega) (by omega) K 0 (Nat.zero_le _) (by omega)
  rw [show ((0:Nat):Int)=0 from rfl] at h0
  rw [h0,Option.bind_some]
  by_cases he:(!e.isNone)=true
  ·rw [if_pos he]; rfl
  rw [if_neg he,Option.bind_some,zax (by decide)]
  have lt:(m.tables.any fun l => decide (l.min_>256))=false∧(m.memories.any fun l => decide (l.min_>16))=false:=by
   unfold lim2 at hl0
   rw [Bool.or_eq_false_iff] at hl0
   exact hl0
  have fin:∀ {m':Mdl} {S':Nat},MSx S' m'→S'≤K→lim2 m'=false→(outerB m'=true→False)→((zaU K m').bind fun x15 => (if (x15.1==((-1):Int))=true then ((zcz x15.2).bind fun x17 => (if (x17==(7:Int))=true then ((zbM).bind fun x19 => some x19) else some false)) else some false).bind (fun j21 => some j21))=some true:=by
   intro m' S' z' hk hl' ho'
   rw [refuse z' hk hl' (notT ho')]; rfl
  split
  ·rw [zax (by omega)]
   refine fin (S':=S+1) ⟨⟨z1.S0,z1.types,z1.typ,z1.funcs,z1.fnc,z1.globals⟩,z1.tables,z1.memories,z1.elems,z1.ele,z1.datas,by simp; omega,fun e he => ?_⟩ (by omega) hl0 fun h => ?_
   ·rcases List.mem_append.1 he with he | he
    ·exact z.xpo e he
    ·obtain rfl:=List.mem_singleton.1 he; exact Int.le_refl 0
   ·obtain ⟨_,_,_,_,_,_,_,_,_,h⟩:=zfn h
    have h':xpAll (many4 m.funcs.length m.tables.length m.memories.length m.globals.length) [] (m.exports++[Xpo.mk (ByteArray.mk #[122,122]) 0 (IntKind.wrap .u32 (m.funcs.length:Int))])=true:=h
    rw [xpAll_app,Bool.and_eq_true] at h'
    have h2:=h'.2
    unfold xpOk at h2
    have e:decide (IntKind.wrap .i64 (IntKind.wrap .u32 (m.funcs.length:Int))≥(many4 m.funcs.length m.tables.length m.memories.length m.globals.length).getD (0:Int).toNat 0)=true:=by
     apply decide_eq_true
     show IntKind.wrap .i64 (IntKind.wrap .u32 (m.funcs.length:Int))≥(m.funcs.length:Int)
     rw [IntKind.wrap_u32,IntKind.wrap_i64]; omega
    rw [e] at h2
    simp at h2
  split
  ·rw [zax (by omega)]
   refine fin (S':=S+1) ⟨⟨z1.S0,z1.types,z1.typ,by simp; omega,fun e he => ?_,z1.globals⟩,z1.tables,z1.memories,z1.elems,z1.ele,z1.datas,z1.exports,z1.xpo⟩ (by omega) hl0 fun h => ?_
   ·rcases List.mem_append.1 he with he | he
    ·exact z1.fnc e he
    ·obtain rfl:=List.mem_singleton.1 he; show 0<S+1; omega
   ·obtain ⟨_,_,_,_,_,h,_⟩:=zfn h
    have h':=List.all_eq_true.1 h (Fnc.mk (IntKind.wrap .u32 (m.types.length:Int)) [] []) (List.mem_append.2 (.inr List.mem_cons_self))
    unfold fuB at h'
    have e:decide ((Fnc.mk (IntKind.wrap .u32 (m.types.length:Int)) [] []).type_≥IntKind.wrap .u32 (m.types.length:Int))=true:=decide_eq_true (Int.le_refl _)
    rw [e] at h'; cases h'
  split
  ·rw [zax (by omega)]
   refine fin (S':=S+1) ⟨⟨z1.S0,z1.types,z1.typ,z1.funcs,z1.fnc,z1.globals⟩,by simp; omega,z1.memories,z1.elems,z1.ele,z1.datas,z1.exports,z1.xpo⟩ (by omega) ?_ fun h => ?_
   ·unfold lim2
    show ((m.tables++[Lim.mk 3 true 2]).any (fun l => decide (l.min_>256))||m.memories.any fun l => decide (l.min_>16))=false
    rw [List.any_append,lt.1,lt.2]; rfl
   ·obtain ⟨_,_,_,h,_⟩:=zfn h
    have h':(!(m.tables++[Lim.mk 3 true 2]).any bndB)=true:=h
    rw [List.any_append] at h'
    have e:([Lim.mk 3 true 2]:List Lim).any bndB=true:=by decide
    rw [e,Bool.or_true] at h'; cases h'
  split
  ·refine fin (S':=S+1) ⟨⟨z1.S0,z1.types,z1.typ,z1.funcs,z1.fnc,z1.globals⟩,z1.tables,by show 2<S+1; omega,z1.elems,z1.ele,z1.datas,z1.exports,z1.xpo⟩ (by omega) ?_ fun h => ?_
   ·unfold lim2
    show (m.tables.any (fun l => decide (l.min_>256))||([Lim.mk 0 false 0,Lim.mk 0 false 0]:List Lim).any fun l => decide (l.min_>16))=false
    rw [lt.1]; rfl
   ·obtain ⟨_,_,h,_⟩:=zfn h
    have h':(!decide ((2:Int)>1))=true:=h
    revert h'; decide
  split
  ·rw [zax (by omega)]
   refine fin (S':=S+1) ⟨⟨z1.S0,z1.types,z1.typ,z1.funcs,z1.fnc,by simp; omega⟩,z1.tables,z1.memories,z1.elems,z1.ele,z1.datas,z1.exports,z1.xpo⟩ (by omega) hl0 fun h => ?_
   obtain ⟨_,_,_,_,_,_,h,_⟩:=zfn h
   have h':=List.all_eq_true.1 h (Glo.mk 126 false (Instr.mk 65 0 0 0 0 [] [] [])) (List.mem_append.2 (.inr List.mem_cons_self))
   have e:glB (Glo.mk 126 false (Instr.mk 65 0 0 0 0 [] [] []))=false:=rfl
   rw [e] at h'; cases h'
  split
  ·rw [zax (by omega)]
   refine fin (S':=S+1) ⟨⟨z1.S0,z1.types,z1.typ,z1.funcs,z1.fnc,z1.globals⟩,z1.tables,z1.memories,by simp; omega,fun e he => ?_,z1.datas,z1.exports,z1.xpo⟩ (by omega) hl0 fun h => ?_
   ·rcases List.mem_append.1 he with he | he
    ·exact z1.ele e he
    ·obtain rfl:=List.mem_singleton.1 he; show 1<S+1; omega
   ·obtain ⟨_,_,_,_,_,_,_,h,_⟩:=zfn h
    have h':=List.all_eq_true.1 h (Ele.mk 0 (Instr.mk 65 0 0 0 0 [] [] []) [IntKind.wrap .u32 (m.funcs.length:Int)]) (List.mem_append.2 (.inr List.mem_cons_self))
    unfold elB at h'
    have e:([IntKind.wrap .u32 (m.funcs.length:Int)]:List Int).any (fun x => decide (x≥IntKind.wrap .u32 (m.funcs.length:Int)))=true:=by
     rw [List.any_cons,decide_eq_true (Int.le_refl _)]; rfl
    have h2:(!((0:Int) != 0||(((m.tables.length:Int)==0)||(!valB (Instr.mk 65 0 0 0 0 [] [] []) 127||([IntKind.wrap .u32 (m.funcs.length:Int)]:List Int).any fun x => decide (x≥IntKind.wrap .u32 (m.funcs.length:Int))))))=true:=h'
    rw [e] at h2
    simp at h2
  ·rw [zax (by omega)]
   refine fin (S':=S+1) ⟨⟨z1.S0,z1.types,z1.typ,z1.funcs,z1.fnc,z1.globals⟩,z1.tables,z1.memories,z1.elems,z1.ele,by simp; omega,z1.exports,z1.xpo⟩ (by omega) hl0 fun h => ?_
   obtain ⟨_,_,_,_,_,_,_,_,h,_⟩:=zfn h
   have h':=List.all_eq_true.1 h (Dat.mk 1 (Instr.mk 65 0 0 0 0 [] [] []) []) (List.mem_append.2 (.inr List.mem_cons_self))
   have e:∀ m',daB m' (Dat.mk 1 (Instr.mk 65 0 0 0 0 [] [] []) [])=false:=fun m' => rfl
   rw [e] at h'; cases h'
end Go.Proofs.YtablleokoifolaaGreatDoor
set_option linter.unusedVariables false
set_option linter.unusedSimpArgs false
namespace Go.Proofs.YtablleokoifolaaGreatDoor
open Go Go.ChangeShapes Go.RowKit Go.Deep
section
variable {H:Type} {enc:TypeId×Value→H} {E:Env} {W:World}
def old (W:World) (b:Nat):Prop:=b<W.heap.size
def Rd (enc:TypeId×Value→H) (E:Env) (W:World) {α:Type} (t:TypeId) (en:α→List FV) (wf:α→Prop) (n:Nat):Prop:=
 ∀ (base:Nat) (sp:Nat→Bool) (hd:Bool) (cs:List Value) (x:DataW H×List MemPlace),DataW.trod enc E.P W base sp hd n t cs=some x →
  ∃ a,wf a∧cs.length=(en a).length∧∀ j,j<cs.length→RVF E W.heap (old W) (toA ((en a).getD j .undef)) (cs.getD j Go.undef)
theorem zxv {t:TypeId} (ht:E.P.underlying t=some .bool) (n:Nat):Rd enc E W t (fun b:Bool => [.bool b]) (fun _ => True) n:=by
 intro base sp hd cs x h
 obtain ⟨b,rfl,_⟩:=DataW.trod_bool ht h
 refine ⟨b,trivial,rfl,fun j hj => ?_⟩
 obtain rfl:j=0:=by simp at hj; omega
 exact .bool b
theorem zyb {t:TypeId} {k:IntKind} (ht:E.P.underlying t=some (.int k)) (n:Nat):Rd enc E W t (eI k) (fun x => (Lit.int k x).wf=true) n:=by
 intro base sp hd cs x h
 obtain ⟨b,rfl,_,hw⟩:=DataW.trod_int ht h
 refine ⟨b,hw,rfl,fun j hj => ?_⟩
 obtain rfl:j=0:=by simp at hj; omega
 exact .int k b
theorem toA_sV {α:Type} [Inhabited α] (en:α→List FV) (l:List α):toA (sV en l)=.slv ((List.range l.length).map fun i => (en (l.getD i default)).map toA):=by
 simp only [sV,toA,fl,toAL_map]
end
theorem mapM_ext {α β:Type} {f g:α→Option β}:∀ {l:List α} {ys:List β},l.mapM f=some ys→(∀ a,a∈l→∀ y,f a=some y→y∈ys→g a=some y)→l.mapM g=some ys
 | [],ys,h,_ => by simpa using h
 | a :: l,ys,h,hg => by
  rw [List.mapM_cons] at h ⊢
  cases hfa:f a with
  | none => rw [hfa] at h; cases h
  | some y => 
   rw [hfa] at h
   cases hl:l.mapM f with
   | none => rw [hl] at h; cases h
   | some zs => 
    rw [hl] at h
    obtain rfl:y :: zs=ys:=Option.some.inj h
    rw [hg a (by simp) y hfa (by simp),mapM_ext hl fun b hb z hz hm => hg b (by simp [hb]) z hz (by simp [hm])]
    rfl
def TyOk (P:Program) (T:TypeId→Prop):Prop:=
 ∀ t,T t→P.underlying t=some .bool∨(∃ k,P.underlying t=some (.int k))∨P.underlying t=some .string∨(∃ e,P.underlying t=some (.slice e)∧T e∧0<P.cellsOf e)∨∃ fs,P.underlying t=some (.struct fs)∧∀ f∈fs.toList,T f.type
section
variable {H:Type} {enc:TypeId×Value→H} {P:Program} {W W':World}
theorem zxb (hs:∀ b,b<W.heap.size→W'.heap[b]? = W.heap[b]?) {base:Nat} {a:Addr} {n:Nat} {cs:List Value} (h:W.cells? base a n=some cs):W'.cells? base a n=some cs:=by
 unfold World.cells? at h ⊢
 split
 ·rename_i hb
  rw [if_pos hb] at h
  refine mapM_ext h fun i _ y hy _ => ?_
  unfold World.cell? at hy ⊢
  split at hy
  ·rename_i C T fr hh
   rw [hs _ (Array.getElem?_eq_some_iff.1 hh).1,hh]
   exact hy
  ·cases hy
 ·rename_i hb; rw [if_neg hb] at h; exact h
theorem zxk {T:TypeId→Prop} (hT:TyOk P T) (hs:∀ b,b<W.heap.size→W'.heap[b]? = W.heap[b]?) {base:Nat} {hd:Bool} {sp:Nat→Bool}:∀ (n:Nat) (t:TypeId) (cs:List Value) (x:DataW H×List MemPlace),T t →
  DataW.trod enc P W base (fun _ => true) hd n t cs=some x→(∀ p∈x.2,sp p.block=true)→DataW.trod enc P W' base sp hd n t cs=some x:=by
 intro n
 induction n with
 | zero => intro t cs x _ h; cases h
 | succ n ih => 
  intro t cs x ht h hp
  have sub:∀ e,T e→∀ (a:Addr) (m:Nat) (y:DataW H×List MemPlace),(W.cells? base a m).bind (DataW.trod enc P W base (fun _ => true) hd n e)=some y→(∀ p∈y.2,sp p.block=true) →
    (W'.cells? base a m).bind (DataW.trod enc P W' base sp hd n e)=some y:=by
   intro e he a m y hy hyp
   obtain ⟨cs',h1,h2⟩:=Option.bind_eq_some_iff.1 hy
   rw [zxb hs h1]
   exact ih e cs' y he h2 hyp
  rcases hT t ht with hu | ⟨k,hu⟩ | hu | ⟨e,hu,he,hpos⟩ | ⟨fs,hu,hfs⟩
  ·obtain ⟨b,rfl,rfl⟩:=DataW.trod_bool hu h
   simp [DataW.trod,hu]
  ·obtain ⟨z,rfl,rfl,hw⟩:=DataW.trod_int hu h
   simp [DataW.trod,hu,hw]
  ·obtain ⟨z,rfl,rfl,hw⟩:=DataW.trod_string hu h
   simp [DataW.trod,hu,hw]
  ·have h0:=h
   unfold DataW.trod at h ⊢
   rw [hu] at h ⊢
   rcases DataW.trod_slice hu h0 with ⟨rfl,rfl⟩ | ⟨a,len,cap,el0,re0,n',hn,rfl,hx,hb,hl,hm,hlen,-,hsp,-⟩
   ·rfl
   ·simp only at h ⊢
    rw [if_pos ⟨hb,hl,hm⟩] at h ⊢
    simp only [Option.bind_eq_some_iff,Option.map_eq_some_iff,if_true] at h
    obtain ⟨elems,h1,rest,h2,h3⟩:=h
    have hsa:cap - len≠0∨cap - len=0:=by omega
    have hpe:∀ y∈elems++rest,∀ p∈y.2,sp p.block=true:=by
     intro y hy p hpy
     refine hp p ?_
     rw [← h3]
     exact List.mem_append_right _ (List.mem_flatMap.2 ⟨y,hy,hpy⟩)
    have e1:=mapM_ext (g:=fun i => (W'.cells? base (a.add (i * P.cellsOf e)) (P.cellsOf e)).bind (DataW.trod enc P W' base sp hd n e)) h1 fun i _ y hy hm => sub e he _ _ y hy (hpe y (List.mem_append_left _ hm))
    rw [e1,Option.bind_some]
    have e2:(if sp a.block=true then (List.range (cap - len)).mapM fun j => (W'.cells? base (a.add ((len+j) * P.cellsOf e)) (P.cellsOf e)).bind (DataW.trod enc P W' base sp hd n e) else some [])=some rest:=by
     by_cases hz:cap - len=0
     ·rw [hz] at h2 ⊢
      simp only [List.range_zero,List.mapM_nil] at h2 ⊢
      split
      ·exact h2
      ·exact h2
     ·have hr:=mapM_some_length h2
      have:sp a.block=true:=by
       refine hp (.cell a.block (a.off+0)) ?_
       rw [← h3]
       refine List.mem_append_left _ (List.mem_map.2 ⟨0,List.mem_range.2 ?_,rfl⟩)
       simp only [List.length_range] at hr
       exact Nat.mul_pos (by omega) hpos
      rw [if_pos this]
      exact mapM_ext h2 fun i _ y hy hm => sub e he _ _ y hy (hpe y (List.mem_append_right _ hm))
    rw [e2,← h3]
    rfl
  ·unfold DataW.trod at h ⊢
   rw [hu] at h ⊢
   simp only at h ⊢
   split
   ·rename_i hl
    rw [if_pos hl] at h
    obtain ⟨xs,h1,h2⟩:=Option.map_eq_some_iff.1 h
    have hpe:∀ y∈xs,∀ p∈y.2,sp p.block=true:=by
     intro y hy p hpy
     refine hp p ?_
     rw [← h2]
     exact List.mem_flatMap.2 ⟨y,hy,hpy⟩
    have e1:=mapM_ext (g:=fun f:Field => DataW.trod enc P W' base sp hd n f.type ((cs.drop f.offset).take (P.cellsOf f.type))) h1 fun f hf y hy hm => ih f.type _ y (hfs f hf) hy (hpe y hm)
    rw [e1,← h2]
    rfl
   ·rename_i hl
    rw [if_neg hl] at h
    cases h
theorem trodAll_ext {T:TypeId→Prop} (hT:TyOk P T) (hs:∀ b,b<W.heap.size→W'.heap[b]? = W.heap[b]?) {base:Nat} {hd:Bool} {sp:Nat→Bool}:∀ (ts:List TypeId) (vs:List Value) (ds:List (DataW H)) (ps:List MemPlace),(∀ t∈ts,T t) →
  DataW.TrodAll enc P W base (fun _ => true) hd ts vs ds ps→(∀ p∈ps,sp p.block=true)→DataW.TrodAll enc P W' base sp hd ts vs ds ps
 | [],vs,ds,ps,_,h,_ => by
  obtain ⟨rfl,rfl,rfl⟩:=trodAll_nil h
  rfl
 | t :: ts,vs,ds,ps,ht,h,hp => by
  obtain ⟨v,vs1,d,ds1,a,c,rfl,rfl,rfl,⟨n,h1⟩,h2⟩:=trodAll_cons h
  exact ⟨a,c,⟨n,zxk hT hs n t _ _ (ht t (by simp)) h1 fun p hpp => hp p (by simp [hpp])⟩,trodAll_ext hT hs ts vs1 ds1 c (fun t h => ht t (by simp [h])) h2 fun p hpp => hp p (by simp [hpp]),rfl⟩
theorem zuv (hs:∀ b,b<W.heap.size→W'.heap[b]? = W.heap[b]?) (ho:W'.os=W.os) (hp:W'.output=W.output) (may:MemPlace→Prop):W.keptBut W' may:=by
 refine ⟨ho,hp,fun i hi => ?_⟩
 rw [hs i hi]
 split
 ·rename_i c t fr c' t' fr' h1 h2
  rw [h1] at h2
  cases h2
  exact ⟨rfl,rfl,rfl,fun _ _ => rfl⟩
 ·rename_i es cl es' cl' h1 h2
  rw [h1] at h2
  cases h2
  exact .inr ⟨rfl,rfl⟩
 ·rfl
end
section
variable {H:Type} {enc:TypeId×Value→H} {E:Env} {W:World}
def Rd2 (enc:TypeId×Value→H) (E:Env) (W:World) {α:Type} (t:TypeId) (en:α→List FV) (wf:α→DataW H→Prop) (n:Nat):Prop:=
 ∀ (base:Nat) (sp:Nat→Bool) (hd:Bool) (cs:List Value) (x:DataW H×List MemPlace),DataW.trod enc E.P W base sp hd n t cs=some x →
  ∃ a,wf a x.1∧cs.length=(en a).length∧∀ j,j<cs.length→RVF E W.heap (old W) (toA ((en a).getD j .undef)) (cs.getD j Go.undef)
theorem Rd2.zero {α:Type} {t:TypeId} {en:α→List FV} {wf:α→DataW H→Prop}:Rd2 enc E W t en wf 0:=fun base sp hd cs x h => by cases h
theorem rd2_int {t:TypeId} {k:IntKind} (ht:E.P.underlying t=some (.int k)) (n:Nat):Rd2 enc E W t (eI k) (fun x d => (Lit.int k x).wf=true) n:=by
 intro base sp hd cs x h
 obtain ⟨b,h1,h2,h3⟩:=zyb (enc:=enc) (E:=E) (W:=W) ht n base sp hd cs x h
 exact ⟨b,h1,h2,h3⟩
theorem rd2_bool {t:TypeId} (ht:E.P.underlying t=some .bool) (n:Nat):Rd2 enc E W t (fun b:Bool => [.bool b]) (fun x d => True) n:=by
 intro base sp hd cs x h
 obtain ⟨b,h1,h2,h3⟩:=zxv (enc:=enc) (E:=E) (W:=W) ht n base sp hd cs x h
 exact ⟨b,h1,h2,h3⟩
def wfS {α:Type} [Inhabited α] (wf:α→DataW H→Prop) (l:List α) (d:DataW H):Prop:=
 l.length≤maxLen∧((d=.nil∧l=[])∨∃ ds rest,d=.slice ds rest∧ds.length=l.length∧∀ i,i<l.length→wf (l.getD i default) (ds.getD i .nil))
theorem rd2_slice {α:Type} [Inhabited α] {t e:TypeId} {en:α→List FV} {wf:α→DataW H→Prop} (ht:E.P.underlying t=some (.slice e)) (hs:0<E.P.cellsOf e)
  (hsz:∀ a,(en a).length=E.P.cellsOf e) (hk:∀ a,∀ v∈en a,cellOk (toA v)=true) (n':Nat) (h:Rd2 enc E W e en wf n') :
  Rd2 enc E W t (fun l:List α => [sV en l]) (wfS wf) (n'+1):=by
 intro base sp hd cs x hx
 rcases DataW.trod_slice ht hx with ⟨rfl,rfl⟩ | ⟨a,len,cap,elems,rest,n2,hn2,rfl,rfl,hb,hl,hm,hlen0,hel,_,_⟩
 ·refine ⟨[],⟨Nat.zero_le _,.inl ⟨rfl,rfl⟩⟩,rfl,fun j hj => ?_⟩
  obtain rfl:j=0:=by simp at hj; omega
  exact .slv0 none 0
 obtain rfl:n2=n':=by omega
 let D:Nat→DataW H:=fun i => (elems.map (·.1)).getD i .nil
 have hel2:∀ i,i<len→∃ cs' y,W.cells? base (a.add (i * E.P.cellsOf e)) (E.P.cellsOf e)=some cs'∧DataW.trod enc E.P W base sp hd n2 e cs'=some y∧y.1=D i:=by
  intro i hi
  have h1:=hel i hi
  rw [List.getElem?_eq_getElem (by omega)] at h1
  obtain ⟨cs',h2,h3⟩:=Option.bind_eq_some_iff.1 h1
  refine ⟨cs',_,h2,h3,?_⟩
  show _=(elems.map (·.1)).getD i .nil
  rw [List.getD_eq_getElem?_getD,List.getElem?_map,List.getElem?_eq_getElem (by omega)]; rfl
 have key:∀ i,i<len→∃ (b:α) (cs':List Value),wf b (D i)∧E.P.cellsOf e=cs'.length∧cs'.length=(en b).length∧(∀ j,j<cs'.length→W.cell? ((a.add (i * E.P.cellsOf e)).add j)=some (cs'.getD j Go.undef)) ∧
   ∀ j,j<cs'.length→RVF E W.heap (old W) (toA ((en b).getD j .undef)) (cs'.getD j Go.undef):=by
  intro i hi
  obtain ⟨cs',y,h1,h2,h2'⟩:=hel2 i (by omega)
  obtain ⟨_,hlen,hc⟩:=World.cells?_some h1
  obtain ⟨b,w1,w2,w3⟩:=h base sp hd cs' _ h2
  rw [h2'] at w1
  refine ⟨b,cs',w1,hlen.symm,w2,fun j hj => ?_,w3⟩
  have:=hc j (by omega)
  simpa [List.getD_eq_getElem?_getD,hj] using this
 obtain ⟨B,hB⟩:=choose_lt (α:=α) (p:=fun i b => ∃ cs':List Value,wf b (D i)∧E.P.cellsOf e=cs'.length∧cs'.length=(en b).length∧(∀ j,j<cs'.length→W.cell? ((a.add (i * E.P.cellsOf e)).add j)=some (cs'.getD j Go.undef)) ∧
   ∀ j,j<cs'.length→RVF E W.heap (old W) (toA ((en b).getD j .undef)) (cs'.getD j Go.undef)) key
 have hll:((List.range len).map B).length=len:=by simp
 refine ⟨(List.range len).map B,⟨by rw [hll]; omega,.inr ⟨_,_,rfl,by rw [hll,List.length_map,hlen0],fun i hi => ?_⟩⟩,rfl,fun j hj => ?_⟩
 ·rw [hll] at hi
  have e1:((List.range len).map B).getD i default=B i:=by simp [List.getD_eq_getElem?_getD,hi]
  rw [e1,show (elems.map (·.1)).getD i .nil=D i from rfl]
  exact (hB i hi).choose_spec.1
 ·obtain rfl:j=0:=by simp at hj; omega
  show RVF E W.heap (old W) (toA (sV en ((List.range len).map B))) (.slice (some a) len cap)
  rw [toA_sV,hll]
  by_cases h0:len=0
  ·subst h0
   exact .slv0 (some a) cap
  ·have hB0:=hB 0 (by omega)
   have first:∃ C T fr,W.heap[a.block]? = some (.cells C T fr)∧a.spot=none:=by
    obtain ⟨cs',_,hc,_,hcell,_⟩:=hB0
    have:=hcell 0 (by omega)
    rw [Nat.zero_mul] at this
    have ea:(a.add 0).add 0=a:=rfl
    rw [ea] at this
    unfold World.cell? at this
    split at this
    ·rename_i C T fr hh
     refine ⟨C,T,fr,hh,?_⟩
     split at this
     ·cases this
     ·rename_i hsn
      cases hsp:a.spot with
      | none => rfl
      | some q => rw [hsp] at hsn; exact absurd rfl hsn
    ·cases this
   obtain ⟨C,T,fr,hC,hspot⟩:=first
   obtain ⟨blk,off,spot⟩:=a
   simp only at hspot hC
   subst hspot
   have cellC:∀ i j,i<len→j<E.P.cellsOf e→∃ (b:α) (cs':List Value),B i=b∧cs'.length=(en b).length∧E.P.cellsOf e=cs'.length∧off+i * E.P.cellsOf e+j<C.size∧C.getD (off+i * E.P.cellsOf e+j) Go.undef=cs'.getD j Go.undef ∧
     RVF E W.heap (old W) (toA ((en b).getD j .undef)) (cs'.getD j Go.undef):=by
    intro i j hi hj
    obtain ⟨cs',_,hc,hc2,hcell,hr⟩:=hB i hi
    have h1:=hcell j (by omega)
    rw [add_add] at h1
    have h2:(Addr.add ⟨blk,off,none⟩ (i * E.P.cellsOf e+j))=⟨blk,off+(i * E.P.cellsOf e+j),none⟩:=by
     unfold Addr.add
     split
     ·rename_i hz; simp [hz]
     ·rfl
    rw [h2] at h1
    unfold World.cell? at h1
    simp only [hC,Option.isSome_none,Bool.false_eq_true,if_false] at h1
    have hlt:off+(i * E.P.cellsOf e+j)<C.size:=(Array.getElem?_eq_some_iff.1 h1).1
    refine ⟨B i,cs',rfl,hc2,hc,by omega,?_,hr j (by omega)⟩
    have:C.getD (off+i * E.P.cellsOf e+j) Go.undef=C.getD (off+(i * E.P.cellsOf e+j)) Go.undef:=by rw [Nat.add_assoc]
    rw [this,Array.getD_eq_getD_getElem?,h1]; rfl
   have hlen2:((List.range len).map fun i => (en (((List.range len).map B).getD i default)).map toA).length=len:=by simp
   have hget:∀ i,i<len→((List.range len).map fun i => (en (((List.range len).map B).getD i default)).map toA).getD i []=(en (B i)).map toA:=by
    intro i hi
    simp [List.getD_eq_getElem?_getD,hi]
   have hr:=RVF.slv (E:=E) (H:=W.heap) (F:=old W) ((List.range len).map fun i => (en (((List.range len).map B).getD i default)).map toA) blk off cap (E.P.cellsOf e) C T fr (Array.getElem?_eq_some_iff.1 hC).1 hC
    (by
     rw [hlen2]
     have:=cellC (len - 1) (E.P.cellsOf e - 1) (by omega) (by omega)
     obtain ⟨_,_,_,_,_,hlt,_⟩:=this
     have e1:len * E.P.cellsOf e=(len - 1) * E.P.cellsOf e+E.P.cellsOf e:=by
      have:len=(len - 1)+1:=by omega
      conv => lhs; rw [this,Nat.add_mul,Nat.one_mul]
     omega)
    (by rw [hlen2]; exact hl)
    (by
     rw [hlen2]
     intro i hi
     rw [hget i hi]; simp [hsz])
    (by
     rw [hlen2]
     intro i j hi hj
     rw [hget i hi]
     have hjl:j<(en (B i)).length:=by rw [hsz]; exact hj
     rw [List.getD_eq_getElem?_getD,List.getElem?_map,List.getElem?_eq_getElem hjl]
     exact hk _ _ (List.getElem_mem hjl))
    (by
     rw [hlen2]
     intro i j hi hj
     rw [hget i hi]
     obtain ⟨b,cs',rfl,_,_,_,hcv,hrv⟩:=cellC i j hi hj
     rw [hcv]
     have hjl:j<(en (B i)).length:=by rw [hsz]; exact hj
     rw [List.getD_eq_getElem?_getD,List.getElem?_eq_getElem hjl] at hrv
     rw [List.getD_eq_getElem?_getD,List.getElem?_map,List.getElem?_eq_getElem hjl]
     exact hrv)
   rw [hlen2] at hr
   exact hr
theorem zxF:∀ d:DataW H,1≤Rows.uptoBulk d:=fun d => by
 cases d with
 | lit l => cases l <;> simp [Rows.uptoBulk]
 | _ => simp [Rows.uptoBulk]
theorem bulkAll_get:∀ (ds:List (DataW H)),ds.length≤Rows.uptoBulkAll ds∧∀ i,i<ds.length→Rows.uptoBulk (ds.getD i .nil)≤Rows.uptoBulkAll ds
 | [] => ⟨Nat.le_refl _,fun i h => by simp at h⟩
 | d :: ds => by
  obtain ⟨h1,h2⟩:=bulkAll_get ds
  have hp:=zxF d
  refine ⟨by simp only [List.length_cons,Rows.uptoBulkAll]; omega,fun i hi => ?_⟩
  cases i with
  | zero => simp only [List.getD_cons_zero,Rows.uptoBulkAll]; omega
  | succ i => 
   have:=h2 i (by simpa using hi)
   simp only [List.getD_cons_succ,Rows.uptoBulkAll]; omega
theorem wfS_len {α:Type} [Inhabited α] {wf:α→DataW H→Prop} {l:List α} {d:DataW H} (h:wfS wf l d):l.length≤Rows.uptoBulk d:=by
 rcases h.2 with ⟨rfl,rfl⟩ | ⟨ds,rest,rfl,h1,_⟩
 ·simp
 ·have:=(bulkAll_get ds).1
  simp only [Rows.uptoBulk]; omega
theorem wfS_mem {α:Type} [Inhabited α] {wf:α→DataW H→Prop} {l:List α} {d:DataW H} (h:wfS wf l d) {a:α} (ha:a∈l):∃ d',wf a d'∧Rows.uptoBulk d'≤Rows.uptoBulk d:=by
 rcases h.2 with ⟨rfl,rfl⟩ | ⟨ds,rest,rfl,h1,h2⟩
 ·cases ha
 ·obtain ⟨i,hi,rfl⟩:=List.getElem_of_mem ha
  have:=h2 i hi
  rw [List.getD_eq_getElem?_getD,List.getElem?_eq_getElem hi] at this
  refine ⟨_,this,?_⟩
  have:=(bulkAll_get ds).2 i (by omega)
  simp only [Rows.uptoBulk]; omega
theorem wfS_wt {wf:Instr→DataW H→Prop} (hw:∀ x d,wf x d→wtI x≤6 * Rows.uptoBulk d) {l:List Instr} {d:DataW H} (h:wfS wf l d):wtL l≤6 * Rows.uptoBulk d:=by
 rcases h.2 with ⟨rfl,rfl⟩ | ⟨ds,rest,rfl,h1,h2⟩
 ·simp [wtL,Rows.uptoBulk]
 ·have key:∀ (l:List Instr) (ds:List (DataW H)),ds.length=l.length→(∀ i,i<l.length→wf (l.getD i default) (ds.getD i .nil))→wtL l≤1+6 * Rows.uptoBulkAll ds:=by
   intro l
   induction l with
   | nil => intro ds _ _; simp only [wtL]; omega
   | cons x l ih => 
    intro ds hl hh
    cases ds with
    | nil => simp at hl
    | cons d ds => 
     have h0:=hw _ _ (hh 0 (by simp))
     have h3:=ih ds (by simpa using hl) (fun i hi => by simpa using hh (i+1) (by simpa using hi))
     simp only [List.getD_cons_zero] at h0
     simp only [wtL,Rows.uptoBulkAll]; omega
  have:=key l ds h1 h2
  simp only [Rows.uptoBulk]; omega
theorem wfS_IWL {wf:Instr→DataW H→Prop} (hw:∀ x d,wf x d→IWI x) {l:List Instr} {d:DataW H} (h:wfS wf l d):IWL l:=by
 have key:∀ (l:List Instr),(∀ x∈l,IWI x)→IWL l:=by
  intro l
  induction l with
  | nil => intro _; simp only [IWL]
  | cons x l ih => intro hh; simp only [IWL]; exact ⟨hh x List.mem_cons_self,ih fun y hy => hh y (List.mem_cons_of_mem _ hy)⟩
 exact key l fun x hx => by
  obtain ⟨d',h1,_⟩:=wfS_mem h hx
  exact hw x d' h1
theorem toA_sVI (L:List Instr):toA (sVI L)=toA (sV eInstr L):=by
 simp only [sVI,sV,toA]
 congr 1
 refine List.map_congr_left fun i hi => ?_
 rw [flI_eq (List.mem_range.1 hi)]
 rfl
def wfI (x:Instr) (d:DataW H):Prop:=IWI x∧wtI x≤6 * Rows.uptoBulk d
theorem rd2_instr {tI tL tB tN tU tLb:TypeId} {fs:Array Field} (hI:E.P.underlying tI=some (.struct fs)) (hL:E.P.underlying tL=some (.slice tI))
  (hfs:fs.toList.map (fun f => (f.type,f.offset))=[(tB,0),(tN,1),(tU,2),(tU,3),(tB,4),(tL,5),(tL,6),(tLb,7)])
  (hB:E.P.underlying tB=some (.int .u8)) (hN:E.P.underlying tN=some (.int .i64)) (hU:E.P.underlying tU=some (.int .u32)) (hLb:E.P.underlying tLb=some (.slice tU))
  (cB:E.P.cellsOf tB=1) (cN:E.P.cellsOf tN=1) (cU:E.P.cellsOf tU=1) (cL:E.P.cellsOf tL=1) (cLb:E.P.cellsOf tLb=1) (cI:E.P.cellsOf tI=8) :
  ∀ n,Rd2 enc E W tI eInstr wfI n:=by
 intro n
 induction n using Nat.strongRecOn with
 | _ n ih => 
 intro base sp hd cs x hx
 obtain ⟨xs,m,rfl,rfl,hlen,hsz,hf⟩:=DataW.trod_struct hI hx
 have hfl:fs.size=8:=by have:=congrArg List.length hfs; simpa using this
 have fget:∀ (i:Nat) (t:TypeId) (o:Nat),[(tB,0),(tN,1),(tU,2),(tU,3),(tB,4),(tL,5),(tL,6),(tLb,7)][i]? = some (t,o)→DataW.trod enc E.P W base sp hd m t ((cs.drop o).take (E.P.cellsOf t))=xs[i]?:=by
  intro i t o h
  rw [← hfs,List.getElem?_map] at h
  cases hfi:fs.toList[i]? with
  | none => rw [hfi] at h; cases h
  | some f => 
   rw [hfi] at h
   obtain ⟨rfl,rfl⟩:=Prod.mk.inj (Option.some.inj h)
   exact hf i f (by rw [← Array.getElem?_toList]; exact hfi)
 obtain ⟨x0,x1,x2,x3,x4,x5,x6,x7,rfl⟩:∃ x0 x1 x2 x3 x4 x5 x6 x7,xs=[x0,x1,x2,x3,x4,x5,x6,x7]:=by
  have:xs.length=8:=by omega
  match xs,this with
  | [x0,x1,x2,x3,x4,x5,x6,x7],_ => exact ⟨x0,x1,x2,x3,x4,x5,x6,x7,rfl⟩
 obtain ⟨v0,v1,v2,v3,v4,v5,v6,v7,rfl⟩:∃ v0 v1 v2 v3 v4 v5 v6 v7,cs=[v0,v1,v2,v3,v4,v5,v6,v7]:=by
  have:cs.length=8:=by omega
  match cs,this with
  | [v0,v1,v2,v3,v4,v5,v6,v7],_ => exact ⟨v0,v1,v2,v3,v4,v5,v6,v7,rfl⟩
 have g0:=fget 0 tB 0 rfl
 have g1:=fget 1 tN 1 rfl
 have g2:=fget 2 tU 2 rfl
 have g3:=fget 3 tU 3 rfl
 have g4:=fget 4 tB 4 rfl
 have g5:=fget 5 tL 5 rfl
 have g6:=fget 6 tL 6 rfl
 have g7:=fget 7 tLb 7 rfl
 rw [cB] at g0 g4
 rw [cN] at g1
 rw [cU] at g2 g3
 rw [cL] at g5 g6
 rw [cLb] at g7
 have rL:Rd2 enc E W tL (fun l:List Instr => [sV eInstr l]) (wfS wfI) m:=by
  cases m with
  | zero => exact Rd2.zero
  | succ q => exact rd2_slice hL (by rw [cI]; decide) (fun a => by rw [cI]; rfl) (fun a v hv => by
    simp only [eInstr,List.mem_cons,List.not_mem_nil,or_false] at hv
    rcases hv with rfl | rfl | rfl | rfl | rfl | rfl | rfl | rfl <;> rfl) q (ih q (by omega))
 have rLb:Rd2 enc E W tLb (fun l:List Int => [sV (eI .u32) l]) (wfS fun x d => (Lit.int .u32 x).wf=true) m:=by
  cases m with
  | zero => exact Rd2.zero
  | succ q => 
   exact rd2_slice (en:=eI .u32) (wf:=fun x d => (Lit.int .u32 x).wf=true) hLb (by rw [cU]; decide) (fun a => by rw [cU]; rfl) (fun a v hv => by
    obtain rfl:v=.int .u32 a:=by simpa [eI] using hv
    rfl) q (rd2_int hU q)
 obtain ⟨a0,w0,_,r0⟩:=rd2_int (enc:=enc) (W:=W) hB m base sp hd _ _ g0
 obtain ⟨a1,w1,_,r1⟩:=rd2_int (enc:=enc) (W:=W) hN m base sp hd _ _ g1
 obtain ⟨a2,w2,_,r2⟩:=rd2_int (enc:=enc) (W:=W) hU m base sp hd _ _ g2
 obtain ⟨a3,w3,_,r3⟩:=rd2_int (enc:=enc) (W:=W) hU m base sp hd _ _ g3
 obtain ⟨a4,w4,_,r4⟩:=rd2_int (enc:=enc) (W:=W) hB m base sp hd _ _ g4
 obtain ⟨a5,w5,_,r5⟩:=rL base sp hd _ _ g5
 obtain ⟨a6,w6,_,r6⟩:=rL base sp hd _ _ g6
 obtain ⟨a7,w7,_,r7⟩:=rLb base sp hd _ _ g7
 have b5:=wfS_wt (fun x d h => h.2) w5
 have b6:=wfS_wt (fun x d h => h.2) w6
 have i5:=wfS_IWL (fun x d h => h.1) w5
 have i6:=wfS_IWL (fun x d h => h.1) w6
 refine ⟨Instr.mk a0 a1 a2 a3 a4 a5 a6 a7,⟨?_,?_⟩,rfl,fun j hj => ?_⟩
 ·have q0:0≤a0∧a0<256:=by
   have h:IntKind.u8.min≤a0∧a0≤IntKind.u8.max:=by simpa [Lit.wf] using w0
   have e1:IntKind.u8.min=0:=by decide
   have e2:IntKind.u8.max=255:=by decide
   omega
  have q2:0≤a2:=by
   have h:IntKind.u32.min≤a2∧a2≤IntKind.u32.max:=by simpa [Lit.wf] using w2
   have e1:IntKind.u32.min=0:=by decide
   omega
  simp only [IWI]
  exact ⟨q0,q2,i5,i6⟩
 ·simp only [wtI,List.map_cons,List.map_nil,Rows.uptoBulk,Rows.uptoBulkAll]
  omega
 ·have hj':j<8:=hj
  have r5':=r5 0 Nat.zero_lt_one
  have r6':=r6 0 Nat.zero_lt_one
  match j,hj' with
  | 0,_ => exact r0 0 Nat.zero_lt_one
  | 1,_ => exact r1 0 Nat.zero_lt_one
  | 2,_ => exact r2 0 Nat.zero_lt_one
  | 3,_ => exact r3 0 Nat.zero_lt_one
  | 4,_ => exact r4 0 Nat.zero_lt_one
  | 5,_ => 
   show RVF E W.heap (old W) (toA (sVI a5)) _
   rw [toA_sVI]; exact r5'
  | 6,_ => 
   show RVF E W.heap (old W) (toA (sVI a6)) _
   rw [toA_sVI]; exact r6'
  | 7,_ => exact r7 0 Nat.zero_lt_one
end
section
variable {H:Type} {enc:TypeId×Value→H} {E:Env} {W:World}
theorem Rd2.mono {α:Type} {t:TypeId} {en:α→List FV} {wf wf':α→DataW H→Prop} {n:Nat} (h:Rd2 enc E W t en wf n) (hw:∀ a d,wf a d→wf' a d):Rd2 enc E W t en wf' n:=fun base sp hd cs x hx => by
 obtain ⟨a,h1,h2,h3⟩:=h base sp hd cs x hx
 exact ⟨a,hw _ _ h1,h2,h3⟩
theorem Rd2.congr {α:Type} {t:TypeId} {en en':α→List FV} {wf:α→DataW H→Prop} {n:Nat} (h:Rd2 enc E W t en wf n) (he:∀ a,(en' a).map toA=(en a).map toA):Rd2 enc E W t en' wf n:=fun base sp hd cs x hx => by
 obtain ⟨a,h1,h2,h3⟩:=h base sp hd cs x hx
 have hl:(en' a).length=(en a).length:=by simpa using congrArg List.length (he a)
 refine ⟨a,h1,by rw [hl]; exact h2,fun j hj => ?_⟩
 have e:toA ((en' a).getD j .undef)=toA ((en a).getD j .undef):=by
  have:=congrArg (fun l => l[j]?) (he a)
  simp only [List.getElem?_map] at this
  rw [List.getD_eq_getElem?_getD,List.getD_eq_getElem?_getD]
  rw [List.getElem?_eq_getElem (by omega),List.getElem?_eq_getElem (by omega)] at this ⊢
  exact Option.some.inj this
 rw [e]; exact h3 j hj
theorem rd2_string {t:TypeId} (ht:E.P.underlying t=some .string) (n:Nat):Rd2 enc E W t (fun s:ByteArray => [.str s]) (fun x d => True) n:=by
 intro base sp hd cs x h
 obtain ⟨s,rfl,_⟩:=DataW.trod_string ht h
 refine ⟨s,trivial,rfl,fun j hj => ?_⟩
 obtain rfl:j=0:=by simp at hj; omega
 exact .str s
def RdFs (enc:TypeId×Value→H) (E:Env) (W:World) {α:Type} (fs:List (TypeId×Nat)) (o T:Nat) (en:α→List FV) (wf:α→List (DataW H)→Prop) (m:Nat):Prop:=
 ∀ (base:Nat) (sp:Nat→Bool) (hd:Bool) (cs:List Value) (xs:List (DataW H×List MemPlace)),cs.length=o+T→xs.length=fs.length →
  (∀ (i:Nat) (t:TypeId) (o':Nat),fs[i]? = some (t,o')→DataW.trod enc E.P W base sp hd m t ((cs.drop o').take (E.P.cellsOf t))=xs[i]?) →
  ∃ a,wf a (xs.map (·.1))∧(en a).length=T∧∀ j,j<T→RVF E W.heap (old W) (toA ((en a).getD j .undef)) (cs.getD (o+j) Go.undef)
theorem RdFs.nil {o m:Nat}:RdFs enc E W [] o 0 (fun _:Unit => []) (fun _ l => l=[]) m:=fun base sp hd cs xs _ hx _ => by
 obtain rfl:=List.length_eq_zero_iff.1 hx
 exact ⟨(),rfl,rfl,fun j hj => absurd hj (Nat.not_lt_zero j)⟩
theorem RdFs.cons {α β:Type} {t:TypeId} {fs:List (TypeId×Nat)} {o k T m:Nat} {e1:α→List FV} {e2:β→List FV} {w1:α→DataW H→Prop} {w2:β→List (DataW H)→Prop}
  (hc:E.P.cellsOf t=k) (h1:Rd2 enc E W t e1 w1 m) (h2:RdFs enc E W fs (o+k) T e2 w2 m) :
  RdFs enc E W ((t,o) :: fs) o (k+T) (fun p:α×β => e1 p.1++e2 p.2) (fun p l => ∃ d l',l=d :: l'∧w1 p.1 d∧w2 p.2 l') m:=by
 intro base sp hd cs xs hl hx hf
 cases xs with
 | nil => simp at hx
 | cons x xs => 
  have f0:=hf 0 t o rfl
  rw [hc] at f0
  obtain ⟨a,v1,v2,v3⟩:=h1 base sp hd _ x f0
  obtain ⟨b,u1,u2,u3⟩:=h2 base sp hd cs xs (by omega) (by simpa using hx) fun i t' o' h => hf (i+1) t' o' h
  have hk:((cs.drop o).take k).length=k:=by simp; omega
  refine ⟨(a,b),⟨x.1,xs.map (·.1),rfl,v1,u1⟩,by show (e1 a++e2 b).length=k+T; rw [List.length_append,u2]; omega,fun j hj => ?_⟩
  show RVF E W.heap (old W) (toA ((e1 a++e2 b).getD j .undef)) (cs.getD (o+j) Go.undef)
  by_cases h:j<k
  ·have e:cs.getD (o+j) Go.undef=((cs.drop o).take k).getD j Go.undef:=by
    simp [List.getD_eq_getElem?_getD,List.getElem?_take,h]
   rw [e,List.getD_eq_getElem?_getD,List.getElem?_append_left (by omega),← List.getD_eq_getElem?_getD]
   exact v3 j (by omega)
  ·have:=u3 (j - k) (by omega)
   rw [show o+k+(j - k)=o+j from by omega] at this
   rw [List.getD_eq_getElem?_getD,List.getElem?_append_right (by omega),← List.getD_eq_getElem?_getD,show j - (e1 a).length=j - k from by omega]
   exact this
theorem rd2_struct {α δ:Type} {t:TypeId} {fs:Array Field} {L:List (TypeId×Nat)} {T:Nat} {en:α→List FV} {wf:α→List (DataW H)→Prop} {en':δ→List FV}
  (ht:E.P.underlying t=some (.struct fs)) (hfs:fs.toList.map (fun f => (f.type,f.offset))=L) (hT:E.P.cellsOf t=T) (mk:α→δ) (hmk:∀ a,en' (mk a)=en a)
  (h:∀ m,RdFs enc E W L 0 T en wf m) (n:Nat):Rd2 enc E W t en' (fun x d => ∃ a l,x=mk a∧d=.agg l∧wf a l) n:=by
 intro base sp hd cs x hx
 obtain ⟨xs,m,rfl,rfl,hlen,hsz,hf⟩:=DataW.trod_struct ht hx
 have hL:L.length=fs.size:=by rw [← hfs]; simp
 obtain ⟨a,h1,h2,h3⟩:=h m base sp hd cs xs (by omega) (by omega) fun i t' o' hi => by
  rw [← hfs,List.getElem?_map] at hi
  cases hfi:fs.toList[i]? with
  | none => rw [hfi] at hi; cases hi
  | some f => 
   rw [hfi] at hi
   obtain ⟨rfl,rfl⟩:=Prod.mk.inj (Option.some.inj hi)
   exact hf i f (by rw [← Array.getElem?_toList]; exact hfi)
 refine ⟨mk a,⟨a,_,rfl,rfl,h1⟩,by rw [hmk]; omega,fun j hj => ?_⟩
 have:=h3 j (by omega)
 rw [Nat.zero_add] at this
 rw [hmk]; exact this
theorem rd2_sl {α:Type} [Inhabited α] {t e:TypeId} {en:α→List FV} {wf:α→DataW H→Prop} (ht:E.P.underlying t=some (.slice e)) (hs:0<E.P.cellsOf e)
  (hsz:∀ a,(en a).length=E.P.cellsOf e) (hk:∀ a,∀ v∈en a,cellOk (toA v)=true) (h:∀ n,Rd2 enc E W e en wf n):∀ n,Rd2 enc E W t (fun l:List α => [sV en l]) (wfS wf) n
 | 0 => Rd2.zero
 | n+1 => rd2_slice ht hs hsz hk n (h n)
end
end Go.Proofs.YtablleokoifolaaGreatDoor
set_option linter.unusedVariables false
set_option linter.unusedSimpArgs false
namespace Go.Proofs.YtablleokoifolaaGreatDoor
open Go Go.ChangeShapes Go.WideShapes Go.RowKit
theorem own:ownKnob Tryz.prog.godebug=none:=by kernel_rfl
theorem etN:Tryz.prog.globalNamed "errors.errorType" = some 0:=by kernel_rfl
theorem rtN:(Tryz.prog.cutTypes.find? (·.1 == "internal/reflectlite.rtype")).map (·.2)=some 170:=by kernel_rfl
theorem oneRow:((List.range 251).filter fun t => Tryz.prog.rowNamed t [101,114,114,111,114])=[44]:=by kernel_rfl
theorem tsize:Tryz.prog.types.size=251:=by kernel_rfl
theorem gsize:Tryz.prog.globals.size=2:=by kernel_rfl
theorem row1:((begin Tryz.prog (fun _ _ => 0) default).world.heap[1]?).bind Obj.row? = some (#[.int .i64 0],3):=by kernel_rfl
theorem ct3:Tryz.prog.cellTypes Tryz.prog.depth 3=some [3]:=by kernel_rfl
theorem b3:Tryz.prog.buildable 3=true:=by kernel_rfl
abbrev laidE:List (String×DataW Unit):=[("errors.errorType",Rows.laid_errors_errorType)]
theorem zsv {W:World} (h:laidMetH Tryz.prog laidE W):W.cell? ⟨0,0,none⟩=some errV:=by
 have h':laidMet Tryz.prog [] W∧handlesMet Tryz.prog laidE W:=h
 obtain ⟨name,u,ty,e1,e2,e3,e4,e5⟩:=h'.2 _ (List.mem_singleton.2 rfl)
 have en:name=[101,114,114,111,114]:=(Option.some.inj e1).symm
 subst en
 obtain rfl:=Option.some.inj (rtN.symm.trans e2)
 have hm:ty∈(List.range 251).filter fun t => Tryz.prog.rowNamed t [101,114,114,111,114]:=List.mem_filter.2 ⟨List.mem_range.2 (by rw [← tsize]; exact e3),e4⟩
 rw [oneRow] at hm
 obtain rfl:=List.mem_singleton.1 hm
 have hh:typeHandle Tryz.prog 44=.pointer (some ⟨2,44,none⟩):=by kernel_rfl
 rw [hh] at e5
 simpa [errV] using World.var?_cell etN e5 0
theorem zux {P:Program} {w:World} {g:Nat} {t:TypeId} {k:IntKind} {zero:Array Value} (h:w.ShapedOpen P) (hg:g<P.globals.size)
  (h0:((begin P (fun _ _ => 0) default).world.heap[g]?).bind Obj.row? = some (zero,t)) (hz:zero.size=1)
  (hb:P.buildable t=true) (hc:P.cellTypes P.depth t=some [t]) (hu:P.underlying t=some (.int k)):∃ n,w.cell? ⟨g,0,none⟩=some (.int k n):=by
 obtain ⟨cs,hh,hs,hr⟩:=h.1 g zero t hg h0
 obtain ⟨ts,hts,_,hall⟩:=hr hb
 rw [hc] at hts
 cases hts
 have h1:0<cs.size:=by omega
 obtain ⟨u,hu',hok⟩:=hall 0 cs[0] (by simp [h1])
 have:u=t:=by simpa using hu'.symm
 subst this
 have hcell:w.cell? ⟨g,0,none⟩=some cs[0]:=by simp [World.cell?,hh,h1]
 rw [hcell]
 unfold Cell.ok at hok
 rw [hu] at hok
 cases hv:cs[0] with
 | int k' n => rw [hv] at hok; obtain ⟨rfl,_⟩:=hok; exact ⟨n,rfl⟩
 | _ => rw [hv] at hok; simp at hok
set_option maxRecDepth 100000 in
theorem maxLen_of_shape {W:World} (h:W.ShapedOpen Tryz.prog):∃ n,W.cell? ⟨1,0,none⟩=some (.int .i64 n):=
 zux h (gsize ▸ by decide) row1 rfl b3 ct3 Tryz.underlying3
theorem cellH_of {W:World} {b:Nat} {v:Value} (h:W.cell? ⟨b,0,none⟩=some v):cellH W.heap b=some v:=by
 unfold World.cell? at h
 unfold cellH
 split at h
 ·rename_i C T fr hb
  simp only at hb
  rw [hb]
  simpa using h
 ·cases h
theorem zyz {W:World} (hl:laidMetH Tryz.prog laidE W) (hs:W.ShapedOpen Tryz.prog):E.gok W.heap∧E.gb≤W.heap.size:=by
 obtain ⟨n,hn⟩:=maxLen_of_shape hs
 refine ⟨⟨cellH_of (zsv hl),n,cellH_of hn⟩,?_⟩
 have:=cellH_of hn
 unfold cellH at this
 split at this
 ·rename_i hb
  have:=(Array.getElem?_eq_some_iff.1 hb).1
  show 2≤W.heap.size
  omega
 ·cases this
noncomputable def laidWorld (os:Os):World:=
  { World.holding Tryz.prog os ⟨#[],#[],[]⟩ with heap:=(World.holding Tryz.prog os ⟨#[],#[],[]⟩).heap.modify 0 fun
      | .cells _ t frozen => .cells #[errV] t frozen
      | o => o }
theorem laidWorld_met (os:Os) (args:Array Value):laidMetH Tryz.prog laidE ((laidWorld os).forCall (fun _ _ => 0) ⟨#[],args,[]⟩).memory:=
 laidMetH_of_parts (laidMet_nil _ _) (by kernel_rfl)
theorem zxt {H:Array Obj} {F:Nat→Prop} {b:Bool} {v:Value} (h:RVF E H F (.bool b) v):v=.bool b:=by cases h; rfl
end Go.Proofs.YtablleokoifolaaGreatDoor
set_option linter.unusedVariables false
set_option linter.unusedSimpArgs false
set_option maxRecDepth 100000
namespace Go.Proofs.YtablleokoifolaaGreatDoor
open Go Go.ChangeShapes Go.RowKit Go.Deep
namespace Mo
theorem c2:Tryz.prog.cellsOf 2=1:=by kernel_rfl
theorem c4:Tryz.prog.cellsOf 4=1:=by kernel_rfl
theorem c5:Tryz.prog.cellsOf 5=1:=by kernel_rfl
theorem c9:Tryz.prog.cellsOf 9=1:=by kernel_rfl
theorem c22:Tryz.prog.cellsOf 22=1:=by kernel_rfl
theorem c23:Tryz.prog.cellsOf 23=1:=by kernel_rfl
theorem c24:Tryz.prog.cellsOf 24=1:=by kernel_rfl
theorem c25:Tryz.prog.cellsOf 25=1:=by kernel_rfl
theorem c26:Tryz.prog.cellsOf 26=1:=by kernel_rfl
theorem c27:Tryz.prog.cellsOf 27=1:=by kernel_rfl
theorem c28:Tryz.prog.cellsOf 28=1:=by kernel_rfl
theorem c30:Tryz.prog.cellsOf 30=8:=by kernel_rfl
theorem c54:Tryz.prog.cellsOf 54=1:=by kernel_rfl
theorem c55:Tryz.prog.cellsOf 55=1:=by kernel_rfl
theorem c59:Tryz.prog.cellsOf 59=1:=by kernel_rfl
theorem c61:Tryz.prog.cellsOf 61=1:=by kernel_rfl
theorem c69:Tryz.prog.cellsOf 69=8:=by kernel_rfl
theorem c84:Tryz.prog.cellsOf 84=2:=by kernel_rfl
theorem c86:Tryz.prog.cellsOf 86=3:=by kernel_rfl
theorem c88:Tryz.prog.cellsOf 88=3:=by kernel_rfl
theorem c90:Tryz.prog.cellsOf 90=10:=by kernel_rfl
theorem c92:Tryz.prog.cellsOf 92=10:=by kernel_rfl
theorem c94:Tryz.prog.cellsOf 94=10:=by kernel_rfl
theorem c99:Tryz.prog.cellsOf 99=3:=by kernel_rfl
def T (t:TypeId):Prop:=t∈[30,3,22,23,24,25,26,27,28,84,86,99,94,88,90,92,54,5,55,69,2,59,61,9,4]
theorem tyOk:TyOk Tryz.prog T:=by
 intro t ht
 have sl:∀ {t e:TypeId},Tryz.prog.underlying t=some (.slice e)→e∈[30,3,22,23,24,25,26,27,28,84,86,99,94,88,90,92,54,5,55,69,2,59,61,9,4]→0<Tryz.prog.cellsOf e →
   Tryz.prog.underlying t=some .bool∨(∃ k,Tryz.prog.underlying t=some (.int k))∨Tryz.prog.underlying t=some .string∨(∃ e,Tryz.prog.underlying t=some (.slice e)∧T e∧0<Tryz.prog.cellsOf e)∨∃ fs,Tryz.prog.underlying t=some (.struct fs)∧∀ f∈fs.toList,T f.type:=
  fun h1 h2 h3 => .inr (.inr (.inr (.inl ⟨_,h1,h2,h3⟩)))
 have st:∀ {t:TypeId} {fs:Array Field},Tryz.prog.underlying t=some (.struct fs)→(fs.toList.all fun f => decide (f.type∈[30,3,22,23,24,25,26,27,28,84,86,99,94,88,90,92,54,5,55,69,2,59,61,9,4]))=true →
   Tryz.prog.underlying t=some .bool∨(∃ k,Tryz.prog.underlying t=some (.int k))∨Tryz.prog.underlying t=some .string∨(∃ e,Tryz.prog.underlying t=some (.slice e)∧T e∧0<Tryz.prog.cellsOf e)∨∃ fs,Tryz.prog.underlying t=some (.struct fs)∧∀ f∈fs.toList,T f.type:=
  fun h1 h2 => .inr (.inr (.inr (.inr ⟨_,h1,fun f hf => (of_decide_eq_true (List.all_eq_true.1 h2 f hf):f.type∈_)⟩)))
 have i {t:TypeId} {k} (h:Tryz.prog.underlying t=some (.int k)):Tryz.prog.underlying t=some .bool∨(∃ k,Tryz.prog.underlying t=some (.int k))∨Tryz.prog.underlying t=some .string∨(∃ e,Tryz.prog.underlying t=some (.slice e)∧T e∧0<Tryz.prog.cellsOf e)∨∃ fs,Tryz.prog.underlying t=some (.struct fs)∧∀ f∈fs.toList,T f.type:=
  .inr (.inl ⟨_,h⟩)
 unfold T at ht
 simp only [List.mem_cons,List.not_mem_nil,or_false] at ht
 rcases ht with rfl | rfl | rfl | rfl | rfl | rfl | rfl | rfl | rfl | rfl | rfl | rfl | rfl | rfl | rfl | rfl | rfl | rfl | rfl | rfl | rfl | rfl | rfl | rfl | rfl
 ·exact st Tryz.underlying30 (by decide)
 ·exact i Tryz.underlying3
 ·exact sl Tryz.underlying22 (by decide) (by rw [c84]; decide)
 ·exact sl Tryz.underlying23 (by decide) (by rw [c86]; decide)
 ·exact sl Tryz.underlying24 (by decide) (by rw [c99]; decide)
 ·exact sl Tryz.underlying25 (by decide) (by rw [c94]; decide)
 ·exact sl Tryz.underlying26 (by decide) (by rw [c88]; decide)
 ·exact sl Tryz.underlying27 (by decide) (by rw [c90]; decide)
 ·exact sl Tryz.underlying28 (by decide) (by rw [c92]; decide)
 ·exact st Tryz.underlying84 (by decide)
 ·exact st Tryz.underlying86 (by decide)
 ·exact st Tryz.underlying99 (by decide)
 ·exact st Tryz.underlying94 (by decide)
 ·exact st Tryz.underlying88 (by decide)
 ·exact st Tryz.underlying90 (by decide)
 ·exact st Tryz.underlying92 (by decide)
 ·exact sl Tryz.underlying54 (by decide) (by rw [c5]; decide)
 ·exact i Tryz.underlying5
 ·exact sl Tryz.underlying55 (by decide) (by rw [c69]; decide)
 ·exact st Tryz.underlying69 (by decide)
 ·exact i Tryz.underlying2
 ·exact i Tryz.underlying59
 ·exact sl Tryz.underlying61 (by decide) (by rw [c59]; decide)
 ·exact .inr (.inr (.inl Tryz.underlying9))
 ·exact .inl Tryz.underlying4
section
variable {H:Type} (enc:TypeId×Value→H) (W:World)
abbrev wInt (k:IntKind):Int→DataW H→Prop:=fun x d => (Lit.int k x).wf=true
theorem r5 (n):Rd2 enc E W 5 (eI .u8) (wInt .u8) n:=rd2_int (E:=E) Tryz.underlying5 n
theorem r59 (n):Rd2 enc E W 59 (eI .u32) (wInt .u32) n:=rd2_int (E:=E) Tryz.underlying59 n
theorem r4 (n):Rd2 enc E W 4 (fun b:Bool => [.bool b]) (fun x d => True) n:=rd2_bool (E:=E) Tryz.underlying4 n
theorem r9 (n):Rd2 enc E W 9 (fun s:ByteArray => [.str s]) (fun x d => True) n:=rd2_string (E:=E) Tryz.underlying9 n
theorem r54:∀ n,Rd2 enc E W 54 (fun l:List Int => [sV (eI .u8) l]) (wfS (wInt .u8)) n:=
 rd2_sl (E:=E) (en:=eI .u8) Tryz.underlying54 (by show 0<Tryz.prog.cellsOf 5; rw [c5]; decide) (fun a => by show 1=Tryz.prog.cellsOf 5; rw [c5]) (fun a v hv => by
  obtain rfl:v=.int .u8 a:=by simpa [eI] using hv
  rfl) (r5 enc W)
theorem r61:∀ n,Rd2 enc E W 61 (fun l:List Int => [sV (eI .u32) l]) (wfS (wInt .u32)) n:=
 rd2_sl (E:=E) (en:=eI .u32) Tryz.underlying61 (by show 0<Tryz.prog.cellsOf 59; rw [c59]; decide) (fun a => by show 1=Tryz.prog.cellsOf 59; rw [c59]) (fun a v hv => by
  obtain rfl:v=.int .u32 a:=by simpa [eI] using hv
  rfl) (r59 enc W)
theorem r69 (n):Rd2 enc E W 69 eInstr wfI n:=
 rd2_instr (E:=E) Tryz.underlying69 Tryz.underlying55 rfl Tryz.underlying5 Tryz.underlying2 Tryz.underlying59 Tryz.underlying61 c5 c2 c59 c55 c61 c69 n
theorem r55 (n):Rd2 enc E W 55 (fun l:List Instr => [sVI l]) (wfS wfI) n:=
 Rd2.congr (rd2_sl (E:=E) (en:=eInstr) Tryz.underlying55 (by show 0<Tryz.prog.cellsOf 69; rw [c69]; decide) (fun a => by show 8=Tryz.prog.cellsOf 69; rw [c69]) (fun a v hv => by
  simp only [eInstr,List.mem_cons,List.not_mem_nil,or_false] at hv
  rcases hv with rfl | rfl | rfl | rfl | rfl | rfl | rfl | rfl <;> rfl) (r69 enc W) n) fun a => by
  show [toA (sVI a)]=[toA (sV eInstr a)]
  rw [toA_sVI]
def wTyp (x:Typ) (d:DataW H):Prop:=x.params.length≤Rows.uptoBulk d
def wFnc (x:Fnc) (d:DataW H):Prop:=x.locals.length≤Rows.uptoBulk d∧IWL x.body∧wtL x.body≤6 * Rows.uptoBulk d∧0≤x.type_
def wGlo (x:Glo) (d:DataW H):Prop:=wtI x.init_≤6 * Rows.uptoBulk d
def wXpo (x:Xpo) (d:DataW H):Prop:=0≤x.what
def wEle (x:Ele) (d:DataW H):Prop:=wtI x.offset≤6 * Rows.uptoBulk d∧x.funcs.length≤Rows.uptoBulk d
def wDat (x:Dat) (d:DataW H):Prop:=wtI x.offset≤6 * Rows.uptoBulk d
theorem r84 (n):Rd2 enc E W 84 eTyp wTyp n:=
 (rd2_struct (E:=E) Tryz.underlying84 rfl c84 (fun p:List Int×Int×Unit => Typ.mk p.1 p.2.1) (fun _ => rfl) (fun m => .cons (k:=1) (T:=1) c54 (r54 enc W m) (.cons (k:=1) (T:=0) c5 (r5 enc W m) .nil)) n).mono fun x d h => by
  obtain ⟨p,l,rfl,rfl,d1,l1,rfl,w1,d2,l2,rfl,w2,rfl⟩:=h
  have:=wfS_len w1
  simp only [wTyp,Rows.uptoBulk,Rows.uptoBulkAll]; omega
theorem r86 (n):Rd2 enc E W 86 eFnc wFnc n:=
 (rd2_struct (E:=E) Tryz.underlying86 rfl c86 (fun p:Int×List Int×List Instr×Unit => Fnc.mk p.1 p.2.1 p.2.2.1) (fun _ => rfl) (fun m => .cons (k:=1) (T:=2) c59 (r59 enc W m) (.cons (k:=1) (T:=1) c54 (r54 enc W m) (.cons (k:=1) (T:=0) c55 (r55 enc W m) .nil))) n).mono fun x d h => by
  obtain ⟨p,l,rfl,rfl,d1,l1,rfl,w1,d2,l2,rfl,w2,d3,l3,rfl,w3,rfl⟩:=h
  have q2:=wfS_len w2
  have q3:=wfS_wt (fun x d h => h.2) w3
  refine ⟨?_,wfS_IWL (fun x d h => h.1) w3,?_,?_⟩
  ·simp only [Rows.uptoBulk,Rows.uptoBulkAll]; omega
  ·simp only [Rows.uptoBulk,Rows.uptoBulkAll]; omega
  ·have h:IntKind.u32.min≤p.1∧p.1≤IntKind.u32.max:=by simpa [wInt,Lit.wf] using w1
   have e1:IntKind.u32.min=0:=by decide
   show 0≤p.1
   omega
theorem r99 (n):Rd2 enc E W 99 eLim (fun x d => True) n:=
 (rd2_struct (E:=E) Tryz.underlying99 rfl c99 (fun p:Int×Bool×Int×Unit => Lim.mk p.1 p.2.1 p.2.2.1) (fun _ => rfl) (fun m => .cons (k:=1) (T:=2) c59 (r59 enc W m) (.cons (k:=1) (T:=1) c4 (r4 enc W m) (.cons (k:=1) (T:=0) c59 (r59 enc W m) .nil))) n).mono fun x d h => trivial
theorem r94 (n):Rd2 enc E W 94 eGlo wGlo n:=
 (rd2_struct (E:=E) Tryz.underlying94 rfl c94 (fun p:Int×Bool×Instr×Unit => Glo.mk p.1 p.2.1 p.2.2.1) (fun _ => rfl) (fun m => .cons (k:=1) (T:=9) c5 (r5 enc W m) (.cons (k:=1) (T:=8) c4 (r4 enc W m) (.cons (k:=8) (T:=0) c69 (r69 enc W m) .nil))) n).mono fun x d h => by
  obtain ⟨p,l,rfl,rfl,d1,l1,rfl,w1,d2,l2,rfl,w2,d3,l3,rfl,w3,rfl⟩:=h
  have q3:=w3.2
  simp only [wGlo,Rows.uptoBulk,Rows.uptoBulkAll]; omega
theorem r88 (n):Rd2 enc E W 88 eXpo wXpo n:=
 (rd2_struct (E:=E) Tryz.underlying88 rfl c88 (fun p:ByteArray×Int×Int×Unit => Xpo.mk p.1 p.2.1 p.2.2.1) (fun _ => rfl) (fun m => .cons (k:=1) (T:=2) c9 (r9 enc W m) (.cons (k:=1) (T:=1) c5 (r5 enc W m) (.cons (k:=1) (T:=0) c59 (r59 enc W m) .nil))) n).mono fun x d h => by
  obtain ⟨p,l,rfl,rfl,d1,l1,rfl,w1,d2,l2,rfl,w2,d3,l3,rfl,w3,rfl⟩:=h
  have h:IntKind.u8.min≤p.2.1∧p.2.1≤IntKind.u8.max:=by simpa [wInt,Lit.wf] using w2
  have e1:IntKind.u8.min=0:=by decide
  show 0≤p.2.1
  omega
theorem r90 (n):Rd2 enc E W 90 eEle wEle n:=
 (rd2_struct (E:=E) Tryz.underlying90 rfl c90 (fun p:Int×Instr×List Int×Unit => Ele.mk p.1 p.2.1 p.2.2.1) (fun _ => rfl) (fun m => .cons (k:=1) (T:=9) c59 (r59 enc W m) (.cons (k:=8) (T:=1) c69 (r69 enc W m) (.cons (k:=1) (T:=0) c61 (r61 enc W m) .nil))) n).mono fun x d h => by
  obtain ⟨p,l,rfl,rfl,d1,l1,rfl,w1,d2,l2,rfl,w2,d3,l3,rfl,w3,rfl⟩:=h
  have q2:=w2.2
  have q3:=wfS_len w3
  simp only [wEle,Rows.uptoBulk,Rows.uptoBulkAll]; omega
theorem r92 (n):Rd2 enc E W 92 eDat wDat n:=
 (rd2_struct (E:=E) Tryz.underlying92 rfl c92 (fun p:Int×Instr×List Int×Unit => Dat.mk p.1 p.2.1 p.2.2.1) (fun _ => rfl) (fun m => .cons (k:=1) (T:=9) c59 (r59 enc W m) (.cons (k:=8) (T:=1) c69 (r69 enc W m) (.cons (k:=1) (T:=0) c54 (r54 enc W m) .nil))) n).mono fun x d h => by
  obtain ⟨p,l,rfl,rfl,d1,l1,rfl,w1,d2,l2,rfl,w2,d3,l3,rfl,w3,rfl⟩:=h
  have q2:=w2.2
  simp only [wDat,Rows.uptoBulk,Rows.uptoBulkAll]; omega
theorem r22:∀ n,Rd2 enc E W 22 (fun l:List Typ => [sV eTyp l]) (wfS wTyp) n:=
 rd2_sl (E:=E) (en:=eTyp) Tryz.underlying22 (by show 0<Tryz.prog.cellsOf 84; rw [c84]; decide) (fun a => by show 2=Tryz.prog.cellsOf 84; rw [c84]) (fun a v hv => by
  simp only [eTyp,List.mem_cons,List.not_mem_nil,or_false] at hv
  rcases hv with rfl | rfl <;> rfl) (r84 enc W)
theorem r23:∀ n,Rd2 enc E W 23 (fun l:List Fnc => [sV eFnc l]) (wfS wFnc) n:=
 rd2_sl (E:=E) (en:=eFnc) Tryz.underlying23 (by show 0<Tryz.prog.cellsOf 86; rw [c86]; decide) (fun a => by show 3=Tryz.prog.cellsOf 86; rw [c86]) (fun a v hv => by
  simp only [eFnc,List.mem_cons,List.not_mem_nil,or_false] at hv
  rcases hv with rfl | rfl | rfl <;> rfl) (r86 enc W)
theorem r24:∀ n,Rd2 enc E W 24 (fun l:List Lim => [sV eLim l]) (wfS fun x d => True) n:=
 rd2_sl (E:=E) (en:=eLim) Tryz.underlying24 (by show 0<Tryz.prog.cellsOf 99; rw [c99]; decide) (fun a => by show 3=Tryz.prog.cellsOf 99; rw [c99]) (fun a v hv => by
  simp only [eLim,List.mem_cons,List.not_mem_nil,or_false] at hv
  rcases hv with rfl | rfl | rfl <;> rfl) (r99 enc W)
theorem r25:∀ n,Rd2 enc E W 25 (fun l:List Glo => [sV eGlo l]) (wfS wGlo) n:=
 rd2_sl (E:=E) (en:=eGlo) Tryz.underlying25 (by show 0<Tryz.prog.cellsOf 94; rw [c94]; decide) (fun a => by show 10=Tryz.prog.cellsOf 94; rw [c94]) (fun a v hv => by
  simp only [eGlo,List.mem_cons,List.not_mem_nil,or_false] at hv
  rcases hv with rfl | rfl | rfl | rfl | rfl | rfl | rfl | rfl | rfl | rfl <;> rfl) (r94 enc W)
theorem r26:∀ n,Rd2 enc E W 26 (fun l:List Xpo => [sV eXpo l]) (wfS wXpo) n:=
 rd2_sl (E:=E) (en:=eXpo) Tryz.underlying26 (by show 0<Tryz.prog.cellsOf 88; rw [c88]; decide) (fun a => by show 3=Tryz.prog.cellsOf 88; rw [c88]) (fun a v hv => by
  simp only [eXpo,List.mem_cons,List.not_mem_nil,or_false] at hv
  rcases hv with rfl | rfl | rfl <;> rfl) (r88 enc W)
theorem r27:∀ n,Rd2 enc E W 27 (fun l:List Ele => [sV eEle l]) (wfS wEle) n:=
 rd2_sl (E:=E) (en:=eEle) Tryz.underlying27 (by show 0<Tryz.prog.cellsOf 90; rw [c90]; decide) (fun a => by show 10=Tryz.prog.cellsOf 90; rw [c90]) (fun a v hv => by
  simp only [eEle,List.mem_cons,List.not_mem_nil,or_false] at hv
  rcases hv with rfl | rfl | rfl | rfl | rfl | rfl | rfl | rfl | rfl | rfl <;> rfl) (r90 enc W)
theorem r28:∀ n,Rd2 enc E W 28 (fun l:List Dat => [sV eDat l]) (wfS wDat) n:=
 rd2_sl (E:=E) (en:=eDat) Tryz.underlying28 (by show 0<Tryz.prog.cellsOf 92; rw [c92]; decide) (fun a => by show 10=Tryz.prog.cellsOf 92; rw [c92]) (fun a v hv => by
  simp only [eDat,List.mem_cons,List.not_mem_nil,or_false] at hv
  rcases hv with rfl | rfl | rfl | rfl | rfl | rfl | rfl | rfl | rfl | rfl <;> rfl) (r92 enc W)
def wMdl (m:Mdl) (d:DataW H):Prop:=Rows.uptoBulk d≤1048576→MSx 1048700 m∧BOk 1048700 10000000 m∧GvOk 10000000 m
theorem r30 (n):Rd2 enc E W 30 eMdl wMdl n:=
  (rd2_struct (E:=E) Tryz.underlying30 rfl c30 (fun p:List Typ×List Fnc×List Lim×List Lim×List Glo×List Xpo×List Ele×List Dat×Unit => Mdl.mk p.1 p.2.1 p.2.2.1 p.2.2.2.1 p.2.2.2.2.1 p.2.2.2.2.2.1 p.2.2.2.2.2.2.1 p.2.2.2.2.2.2.2.1) (fun _ => rfl)
    (fun m => .cons (k:=1) (T:=7) c22 (r22 enc W m) (.cons (k:=1) (T:=6) c23 (r23 enc W m) (.cons (k:=1) (T:=5) c24 (r24 enc W m) (.cons (k:=1) (T:=4) c24 (r24 enc W m)
      (.cons (k:=1) (T:=3) c25 (r25 enc W m) (.cons (k:=1) (T:=2) c26 (r26 enc W m) (.cons (k:=1) (T:=1) c27 (r27 enc W m) (.cons (k:=1) (T:=0) c28 (r28 enc W m) .nil)))))))) n).mono fun x d h hB => by
    obtain ⟨⟨ty,fn,ta,me,gl,xp,el,da,_⟩,l,rfl,rfl,d1,l1,rfl,w1,d2,l2,rfl,w2,d3,l3,rfl,w3,d4,l4,rfl,w4,d5,l5,rfl,w5,d6,l6,rfl,w6,d7,l7,rfl,w7,d8,l8,rfl,w8,rfl⟩:=h
    simp only [Rows.uptoBulk,Rows.uptoBulkAll] at hB
    have q1:=wfS_len w1; have q2:=wfS_len w2; have q3:=wfS_len w3; have q4:=wfS_len w4; have q5:=wfS_len w5; have q6:=wfS_len w6; have q7:=wfS_len w7; have q8:=wfS_len w8
    simp only at q1 q2 q3 q4 q5 q6 q7 q8
    have m1:∀ t∈ty,t.params.length≤1048576:=fun t ht => by
      obtain ⟨d',u1,u2⟩:=wfS_mem w1 ht
      have u3:t.params.length≤Rows.uptoBulk d':=u1
      omega
    have m2:∀ f∈fn,f.locals.length≤1048576∧IWL f.body∧wtL f.body≤6291456∧0≤f.type_:=fun f hf => by
      obtain ⟨d',⟨u1,u2,u3,u4⟩,u5⟩:=wfS_mem w2 hf
      exact ⟨by omega,u2,by omega,u4⟩
    have m5:∀ g∈gl,wtI g.init_≤6291456:=fun g hg => by
      obtain ⟨d',u1,u2⟩:=wfS_mem w5 hg
      have u3:wtI g.init_≤6 * Rows.uptoBulk d':=u1
      omega
    have m6:∀ e∈xp,0≤e.what:=fun e he => by
      obtain ⟨d',u1,u2⟩:=wfS_mem w6 he
      exact u1
    have m7:∀ e∈el,wtI e.offset≤6291456∧e.funcs.length≤1048576:=fun e he => by
      obtain ⟨d',⟨u1,u3⟩,u2⟩:=wfS_mem w7 he
      exact ⟨by omega,by omega⟩
    have m8:∀ e∈da,wtI e.offset≤6291456:=fun e he => by
      obtain ⟨d',u1,u2⟩:=wfS_mem w8 he
      have u3:wtI e.offset≤6 * Rows.uptoBulk d':=u1
      omega
    refine ⟨{ S0:=by omega,types:=?_,typ:=?_,funcs:=?_,fnc:=?_,globals:=?_,tables:=?_,memories:=?_,elems:=?_,ele:=?_,datas:=?_,exports:=?_,xpo:=?_ },?_,
      { K0:=by omega,types:=?_,typ:=?_,funcs:=?_,fnc:=?_,tables:=?_,memories:=?_,globals:=?_,glo:=?_,exports:=?_,elems:=?_,ele:=?_,datas:=?_,dat:=?_ }⟩
    · show ty.length<_; omega
    · intro t ht; have:=m1 t ht; omega
    · show fn.length<_; omega
    · intro t ht; have:=(m2 t ht).1; omega
    · show gl.length<_; omega
    · show ta.length<_; omega
    · show me.length<_; omega
    · show el.length<_; omega
    · intro t ht; have:=(m7 t ht).2; omega
    · show da.length<_; omega
    · show xp.length<_; omega
    · exact m6
    · intro f hf
      obtain ⟨u1,u2,u3,u4⟩:=m2 f hf
      exact ⟨u2,by omega,u4⟩
    · show ty.length<_; omega
    · intro t ht; have:=m1 t ht; omega
    · show fn.length<_; omega
    · intro f hf
      obtain ⟨u1,u2,u3,u4⟩:=m2 f hf
      exact ⟨by omega,by omega⟩
    · show ta.length<_; omega
    · show me.length<_; omega
    · show gl.length<_; omega
    · intro g hg; have:=m5 g hg; omega
    · show xp.length<_; omega
    · show el.length<_; omega
    · intro g hg; have:=(m7 g hg).1; omega
    · show da.length<_; omega
    · intro g hg; have:=m8 g hg; omega
end
end Mo
end Go.Proofs.YtablleokoifolaaGreatDoor
set_option linter.unusedVariables false
set_option linter.unusedSimpArgs false
namespace Go.Proofs.YtablleokoifolaaGreatDoor.validOuter
open Go Go.ChangeShapes Go.WideShapes Go.RowKit
set_option maxRecDepth 100000 in
theorem contract (H:Type) (enc:TypeId×Value→H) (W:World) (base:Nat) (args:Array Value) (ds gs:List (DataW H)) (before:List MemPlace)
  (hval:∀ (j:Nat) t v,Tryz.f7.params[j]? = some t→args[j]? = some v→Value.okWide Tryz.prog W .any base t v)
  (hW:DataW.Whole enc Tryz.prog Tryz.f7.params.toList Rows.validOuterSpec.vars false W args.toList ds gs before) (hcond:Rows.uptoSmall H (ds++gs)=true) (hL:laidMetH Tryz.prog laidE W) (hS:W.ShapedOpen Tryz.prog) :
  Calls Tryz.prog 7 args W fun e W' => ∃ v,e=.returned v∧Rows.validOuterSpec.post enc Tryz.prog Tryz.f7 false true false false W args v W':=by
 have hW':=hW
 obtain ⟨p,q,hA0,hV,rfl,hfz,hnd⟩:=hW
 have hA:DataW.TrodAll enc Tryz.prog W 0 (fun _ => true) true Tryz.f7.params.toList args.toList ds p:=hA0
 rw [Tryz.params7] at hA hval
 obtain ⟨v0,vs0,d0,ds0,p0,q0,hargs,rfl,rfl,⟨n0,h0⟩,r0⟩:=trodAll_cons hA
 obtain ⟨v1,vs1,d1,ds1,p1,q1,rfl,rfl,rfl,h1,r1⟩:=trodAll_cons r0
 obtain ⟨rfl,rfl,rfl⟩:=trodAll_nil r1
 obtain rfl:args = #[v0,v1]:=by cases args; simp_all
 obtain ⟨rfl,rfl⟩:=trodVars_none hV
 obtain ⟨x1,rfl,rfl,rfl,w1⟩:=open_int Tryz.underlying3 (hval 1 3 v1 rfl rfl) h1
 obtain ⟨cs,rfl,hsz⟩:=okWide_struct Tryz.underlying30 (hval 0 30 v0 rfl rfl)
 obtain ⟨m,f0,len0,l0⟩:=Mo.r30 enc W n0 0 _ _ _ _ h0
 have hb:Rows.uptoBulkAll [d0,.lit (.int .i64 x1)]≤1048576:=of_decide_eq_true hcond
 simp only [Rows.uptoBulkAll,Rows.uptoBulk] at hb
 obtain ⟨z,hI,gv⟩:=f0 (by show Rows.uptoBulk d0≤_; omega)
 have ht:=zwh m x1 1048700 10000000 z hI gv (by omega) (by omega) (by omega)
 obtain ⟨g1,g3⟩:=zyz hL hS
 have hc:=zmz 10000000 m x1 true ht
 refine (hc.2 W (old W) #[.agg cs,.int .i64 x1] g3 g1 (fun b hb => hb) rfl (fun i hi => ?_)).mono ?_
 ·match i with
  | 0 => 
   have l:cs.size=8:=by rw [hsz]; exact Mo.c30
   have e:∀ j,cs.getD j Go.undef=cs.toList.getD j Go.undef:=fun j => by
    rw [Array.getD_eq_getD_getElem?,List.getD_eq_getElem?_getD,Array.getElem?_toList]
   refine RVF.agg _ cs (by rw [l]; rfl) (fun j hj => ?_) (fun j hj => ?_)
   ·have hj':j<8:=hj
    match j,hj' with
    | 0,_ => rfl
    | 1,_ => rfl
    | 2,_ => rfl
    | 3,_ => rfl
    | 4,_ => rfl
    | 5,_ => rfl
    | 6,_ => rfl
    | 7,_ => rfl
   ·have hj':j<8:=hj
    have:=l0 j (by show j<cs.toList.length; rw [Array.length_toList]; omega)
    rw [e]
    match j,hj' with
    | 0,_ => exact this
    | 1,_ => exact this
    | 2,_ => exact this
    | 3,_ => exact this
    | 4,_ => exact this
    | 5,_ => exact this
    | 6,_ => exact this
    | 7,_ => exact this
  | 1 => exact .int .i64 x1
 rintro e W' ⟨v,F',rfl,k⟩
 obtain rfl:=zxt k.rv
 refine ⟨_,rfl,_,_,_,[],p0++([]++[]),[],hW',trodAll_cons_mk (shut_bool Tryz.underlying4 _) trodAll_mk0,?_,rfl,zuv k.same k.wx.os k.wx.output _,fun h => by cases h⟩
 refine trodAll_ext Mo.tyOk k.same _ _ _ _ (fun t ht => ?_) hA0 fun p hp => ?_
 ·rw [Tryz.params7] at ht
  have:t=30∨t=3:=by simpa using ht
  rcases this with rfl | rfl
  ·show Mo.T 30; unfold Mo.T; decide
  ·show Mo.T 3; unfold Mo.T; decide
 ·have:=hW'.lt p (by simpa using hp)
  simpa using this
theorem reads (os:Os) {H:Type} (enc:TypeId×Value→H):∃ places,DataW.whole enc Tryz.prog ((laidWorld os).forCall (fun _ _ => 0) ⟨#[],#[.agg #[.slice none 0 0,.slice none 0 0,.slice none 0 0,.slice none 0 0,.slice none 0 0,.slice none 0 0,.slice none 0 0,.slice none 0 0],.int .i64 0],[]⟩).memory Tryz.f7.params.toList Rows.validOuterSpec.vars false #[Value.agg #[.slice none 0 0,.slice none 0 0,.slice none 0 0,.slice none 0 0,.slice none 0 0,.slice none 0 0,.slice none 0 0,.slice none 0 0],Value.int .i64 0].toList 8=some ([.agg [.nil,.nil,.nil,.nil,.nil,.nil,.nil,.nil],.lit (.int .i64 0)],[],places):=
 ⟨[],by kernel_rfl⟩
set_option maxRecDepth 100000 in
theorem lifted (os:Os) (started:os.Started) (H:Type) (enc:TypeId×Value→H) (F:Stop.Interp) :
  ReturnsInHanded {} Tryz.checked os 7 .any ((Rows.OpenSpec.upto Rows.validOuterSpec).preRow enc Tryz.prog Tryz.f7 Rows.validOuterUptoRow.domain false Rows.validOuterUptoRow.laid) (((Rows.OpenSpec.upto Rows.validOuterSpec).at F).post enc Tryz.prog Tryz.f7 false true false false):=by
 obtain ⟨places,hx⟩:=reads os enc
 refine returnsInHanded_of_row (C:=Tryz.checked) (s:=Rows.OpenSpec.upto Rows.validOuterSpec) own started (by kernel_rfl) Tryz.func7
  (witness_row_at (enc:=enc) (C:=Tryz.checked) false (laidWorld os) #[.agg #[.slice none 0 0,.slice none 0 0,.slice none 0 0,.slice none 0 0,.slice none 0 0,.slice none 0 0,.slice none 0 0,.slice none 0 0],.int .i64 0] rfl (by kernel_rfl) (by kernel_rfl) (by kernel_rfl)
   (OpenSpec.preRow_of_cond 8 hx (by kernel_rfl) (fun k hk => by cases hk; kernel_rfl) (by kernel_rfl) (laidWorld_met os _))) ?_
 intro W base args ds gs before hval hW _ hcond _ hL hS _
 exact contract H enc W base args ds gs before hval hW (hcond _ rfl) hL hS
theorem said:Rows.ValidOuterUptoSaid:=
 OpenClaim.holds_of_cond 7 Tryz.f7 rfl rfl rfl rfl rfl rfl rfl ⟨rfl,rfl,rfl,rfl,rfl⟩ rfl rfl rfl rfl rfl (by kernel_rfl) Tryz.func7 (by kernel_rfl)
  (of_decide_eq_true (by kernel_rfl)) (by unfold Func.isWrapper; first | (rw [if_pos (by decide +kernel)]; kernel_rfl) | (rw [if_neg (by decide +kernel)]; exact ⟨rfl,rfl⟩))
  (fun os started H enc _ F => by rw [OpenClaim.pre_eq_preRow]; exact lifted os started H enc F)
theorem plain (f:FuncId) (fn:Func) (hf:Tryz.pinned.checked.prog.funcNamed "mandrel/mandrellaw08.ValidOuter" = some f) (hfn:Tryz.pinned.checked.prog.funcs[f]? = some fn) :
  true=Tryz.pinned.checked.prog.looks []∧∀ (j:Nat) t,fn.params[j]? = some t→Tryz.pinned.checked.prog.wantsStandIn t=false:=by
 obtain rfl:f=7:=Option.some.inj ((show Tryz.prog.funcNamed "mandrel/mandrellaw08.ValidOuter" = some 7 by kernel_rfl).symm.trans hf) |>.symm
 obtain rfl:fn=Tryz.f7:=(Option.some.inj (Tryz.func7.symm.trans hfn)).symm
 refine ⟨by kernel_rfl,fun j t ht => ?_⟩
 rw [Tryz.params7] at ht
 have:t=30∨t=3:=by simpa using Array.mem_of_getElem? ht
 rcases this with rfl | rfl
 ·exact (show Tryz.prog.wantsStandIn 30=false by kernel_rfl)
 ·exact (show Tryz.prog.wantsStandIn 3=false by kernel_rfl)
theorem card:Rows.ValidOuterUptoCardSaid:=
 Claim7.holds_tied_plain_at .later [] [.handle] true _ true said (fun _ h => by cases h) (by kernel_rfl) (fun _ h => by cases h) validOuterUpto_row_tie rfl ⟨rfl,rfl⟩ (by kernel_rfl) rfl plain (by kernel_rfl)
end Go.Proofs.YtablleokoifolaaGreatDoor.validOuter
