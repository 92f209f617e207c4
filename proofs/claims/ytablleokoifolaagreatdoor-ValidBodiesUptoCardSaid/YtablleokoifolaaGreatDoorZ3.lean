/- Part 3 of the proof that ValidBodiesUptoCardSaid: for every input that fits the row the law answers true and its arguments read as before, over the world as the row lays it. -/
import Derived.Test.YtablleokoifolaaGreatDoorZ2
import Derived.Test.YtablleokoifolaaGreatDoorProg
import Derived.WalkKit
import Derived.LaidEql
import Derived.Stop.Asserts
import Derived.RowKitTokens
import Derived.Shelf.Strings.Search2
set_option linter.unusedVariables false
set_option maxRecDepth 100000
namespace Go.Proofs.YtablleokoifolaaGreatDoor
open Go
def zmf:ACode:=.cond (.t 52) (.seq (.reg 0 [o_ 2 (.asg (.c (.bool false)))] false [2]) (.ret)) (.skip)
def zme:ACode:=.seq (.reg 0 [o_ 33 (.faddr 16 1 1 (.t 6)),o_ 34 (.load 7 false 1 (.t 33)),o_ 35 (.bin .gtr .other 7 (.t 34) (.c (.int .u8 3))),o_ 36 (.mov (.t 35)),p_ 37 (.faddr 16 2 2 (.t 6)) 3 36 false,p_ 38 (.load 13 false 1 (.t 37)) 3 36 false,p_ 39 (.convi .i64 13 2 (.t 38)) 3 36 false,p_ 40 (.faddr 16 1 1 (.t 6)) 3 36 false,p_ 41 (.load 7 false 1 (.t 40)) 3 36 false,p_ 42 (.iaddrA 59 4 1 (.t 3) (.t 41)) 3 36 false,p_ 43 (.load 2 false 1 (.t 42)) 3 36 false,p_ 44 (.bin .geq .other 2 (.t 39) (.t 43)) 3 36 false,o_ 45 (.pick (.t 36) (.c (.bool true)) (.t 44)),o_ 46 (.mov (.t 45)),p_ 47 (.mov (.t 4)) 13 46 false,p_ 48 (.faddr 16 0 0 (.t 6)) 13 46 false,p_ 49 (.load 39 false 1 (.t 48)) 13 46 false,p_ 50 (.x (.mlook 63 (.int .i64 0) (.t 47) (.t 49))) 13 46 false,p_ 51 (.bin .gtr .other 2 (.t 50) (.c (.int .i64 1))) 13 46 false,o_ 52 (.pick (.t 46) (.c (.bool true)) (.t 51))] true [3,4,22,23,24,52]) (zmf)
def zmd:ACode:=.seq (.reg 0 [o_ 28 (.mov (.t 4)),o_ 29 (.faddr 16 0 0 (.t 6)),o_ 30 (.load 39 false 1 (.t 29)),o_ 31 (.x (.mlook 63 (.int .i64 0) (.t 28) (.t 30))),o_ 32 (.bin .add .other 2 (.t 31) (.c (.int .i64 1))),⟨none,.x (.mset 63 (.t 28) (.t 30) (.t 32)),none⟩] false [3,4,6,22,23,24]) (zme)
def zmc:ACode:=.reg 0 [o_ 53 (.bin .add .other 2 (.t 24) (.c (.int .i64 1))),o_ 24 (.mov (.t 53))] false [3,4,22,23,24]
def zmb:ACode:=.seq (.block 1 (.seq (.reg 1 [o_ 26 (.iaddr 15 3 (.t 22) (.t 24)),o_ 27 (.load 16 true 3 (.t 26)),o_ 6 (.alloc 0 16 [.str b155_,.int .u8 0,.int .u32 0]),⟨none,.store 16 3 (.t 6) (.t 27),none⟩] false [3,4,6,22,23,24]) (zmd))) (zmc)
def zma:ACode:=.seq (.reg 0 [o_ 25 (.bin .lss .other 2 (.t 24) (.t 23))] false [3,4,22,23,24,25]) (.seq (.cond (.t 25) (.skip) (.exit 0)) (zmb))
def zlZ:ACode:=.seq (.seq (.reg 0 [o_ 21 (.faddr 1 5 5 (.t 1)),o_ 22 (.load 15 false 1 (.t 21)),o_ 23 (.len 15 (.t 22)),o_ 24 (.mov (.c (.int .i64 0)))] false [3,4,22,23,24]) (.block 0 (.loop (zma)))) (.seq (.reg 0 [o_ 2 (.asg (.c (.bool true)))] false [2]) (.ret))
def zlY:ACode:=.seq (.reg 1 [o_ 20 (.x (.mkmap 0 63)),o_ 4 (.asg (.t 20))] false [1,3,4]) (zlZ)
def zlX:ACode:=.seq (.reg 1 [o_ 7 (.faddr 1 1 1 (.t 1)),o_ 8 (.load 5 false 1 (.t 7)),o_ 9 (.len 5 (.t 8)),o_ 10 (.faddr 1 2 2 (.t 1)),o_ 11 (.load 18 false 1 (.t 10)),o_ 12 (.len 18 (.t 11)),o_ 13 (.faddr 1 3 3 (.t 1)),o_ 14 (.load 18 false 1 (.t 13)),o_ 15 (.len 18 (.t 14)),o_ 16 (.faddr 1 4 4 (.t 1)),o_ 17 (.load 20 false 1 (.t 16)),o_ 18 (.len 20 (.t 17)),o_ 19 (.build 59 [.int .i64 0,.int .i64 0,.int .i64 0,.int .i64 0] [(0,0,1,.t 9),(1,1,1,.t 12),(2,2,1,.t 15),(3,3,1,.t 18)]),o_ 3 (.alloc 0 59 [.int .i64 0,.int .i64 0,.int .i64 0,.int .i64 0]),⟨none,.store 59 4 (.t 3) (.t 19),none⟩] false [1,3]) (zlY)
def zlc:ACode:=.seq (.reg 1 [o_ 1 (.box 0 1 (.t 0)),o_ 2 (.asg (.c (.bool false)))] false [1]) (zlX)
def ziU:AFun:={ nt:=54,res:=[.t 2],code:=(zlc) }
def zdY:ACode:=.cond (.t 20) (.reg 0 [o_ 21 (.mkif 39 (.c (.str ⟨#[108,101,110,32,111,117,116,32,111,102,32,114,97,110,103,101]⟩))),⟨none,.x (.pan (.t 21)),none⟩] false [0,3,9,10,11]) (.skip)
def zdX:ACode:=.seq (.reg 0 [o_ 19 (.mov (.t 3)),o_ 20 (.bin .lss .other 2 (.t 19) (.c (.int .i64 0)))] false [0,3,9,10,11,20]) (zdY)
def zdW:ACode:=.seq (.reg 0 [o_ 15 (.mov (.t 3)),o_ 16 (.mov (.t 5)),o_ 17 (.len 50 (.t 16)),o_ 18 (.bin .add .other 2 (.t 15) (.t 17)),o_ 3 (.asg (.t 18))] false [0,3,9,10,11]) (zdX)
def zdV:ACode:=.reg 0 [o_ 22 (.bin .add .other 2 (.t 11) (.c (.int .i64 1))),o_ 11 (.mov (.t 22))] false [0,3,9,10,11]
def zdU:ACode:=.seq (.block 1 (.seq (.reg 0 [o_ 13 (.iaddr 53 1 (.t 9) (.t 11)),o_ 14 (.load 50 false 1 (.t 13)),o_ 5 (.asg (.t 14))] false [0,3,5,9,10,11]) (zdW))) (zdV)
def zdT:ACode:=.seq (.cond (.t 12) (.skip) (.exit 0)) (zdU)
def zdS:ACode:=.seq (.reg 0 [o_ 12 (.bin .lss .other 2 (.t 11) (.t 10))] false [0,3,9,10,11,12]) (zdT)
def zdR:ACode:=.reg 1 [o_ 31 (.mov (.t 6)),o_ 32 (.mov (.t 8)),o_ 33 (.app 0 50 1 1 (.t 31) (.t 32)),o_ 6 (.asg (.t 33))] false [6,25,26,27]
def zdQ:ACode:=.reg 0 [o_ 34 (.bin .add .other 2 (.t 27) (.c (.int .i64 1))),o_ 27 (.mov (.t 34))] false [6,25,26,27]
def zdK:ACode:=.seq (.block 3 (.seq (.reg 0 [o_ 29 (.iaddr 53 1 (.t 25) (.t 27)),o_ 30 (.load 50 false 1 (.t 29)),o_ 8 (.asg (.t 30))] false [6,8,25,26,27]) (zdR))) (zdQ)
def zdJ:ACode:=.seq (.cond (.t 28) (.skip) (.exit 2)) (zdK)
def zdI:ACode:=.seq (.reg 0 [o_ 28 (.bin .lss .other 2 (.t 27) (.t 26))] false [6,25,26,27,28]) (zdJ)
def zdH:ACode:=.seq (.reg 0 [o_ 35 (.mov (.t 6)),o_ 2 (.asg (.t 35))] false [2]) (.ret)
def zdG:ACode:=.seq (.seq (.reg 0 [o_ 25 (.mov (.t 0)),o_ 26 (.len 53 (.t 25)),o_ 27 (.mov (.c (.int .i64 0)))] false [6,25,26,27]) (.block 2 (.loop (zdI)))) (zdH)
def zdF:ACode:=.seq (.reg 0 [o_ 23 (.mov (.t 3)),o_ 24 (.calls 68 [.c .nils,.t 23]),o_ 6 (.asg (.t 24))] false [0,6]) (zdG)
def zdE:ACode:=.seq (.seq (.reg 0 [o_ 9 (.mov (.t 0)),o_ 10 (.len 53 (.t 9)),o_ 11 (.mov (.c (.int .i64 0)))] false [0,3,9,10,11]) (.block 0 (.loop (zdS)))) (zdF)
def zdD:ACode:=.seq (.reg 0 [o_ 3 (.asg (.c (.int .i64 0)))] false [0,3]) (zdE)
def zdC:ACode:=.seq (.reg 0 [o_ 2 (.asg (.c .nils))] false [0]) (zdD)
def zbq:AFun:={ nt:=36,res:=[.t 2],code:=(zdC) }
def ziJ:ACode:=.cond (.t 18) (.reg 0 [o_ 19 (.mov (.t 0)),o_ 20 (.load 3 true 8 (.t 5)),o_ 21 (.calls 55 [.t 19,.t 20])] false [0,6,7,8]) (.reg 0 [o_ 22 (.mov (.t 0)),o_ 23 (.load 3 true 8 (.t 5)),o_ 24 (.calls 56 [.t 22,.t 23])] false [0,6,7,8])
def ziI:ACode:=.seq (.reg 0 [o_ 16 (.faddr 3 0 0 (.t 5)),o_ 17 (.load 7 false 1 (.t 16)),o_ 18 (.bin .lss .other 7 (.t 17) (.c (.int .u8 26)))] false [0,5,6,7,8,18]) (ziJ)
def ziH:ACode:=.seq (.seq (.reg 0 [o_ 12 (.mov (.t 0)),o_ 13 (.nilchk (.t 12)),o_ 14 (.faddr 46 7 15 (.t 13)),o_ 15 (.load 12 false 1 (.t 14))] false [0,5,6,7,8,15]) (.cond (.t 15) (.ret) (.skip))) (ziI)
def ziG:ACode:=.reg 0 [o_ 25 (.bin .add .other 2 (.t 8) (.c (.int .i64 1))),o_ 8 (.mov (.t 25))] false [0,6,7,8]
def ziF:ACode:=.seq (.block 1 (.seq (.reg 1 [o_ 10 (.iaddr 4 8 (.t 6) (.t 8)),o_ 11 (.load 3 true 8 (.t 10)),o_ 5 (.alloc 0 3 [.int .u8 0,.int .i64 0,.int .u32 0,.int .u32 0,.int .u8 0,.nils,.nils,.nils]),⟨none,.store 3 8 (.t 5) (.t 11),none⟩] false [0,5,6,7,8]) (ziH))) (ziG)
def ziE:ACode:=.seq (.reg 0 [o_ 9 (.bin .lss .other 2 (.t 8) (.t 7))] false [0,6,7,8,9]) (.seq (.cond (.t 9) (.skip) (.exit 0)) (ziF))
def ziD:ACode:=.seq (.reg 0 [o_ 6 (.mov (.t 1)),o_ 7 (.len 4 (.t 6)),o_ 8 (.mov (.c (.int .i64 0)))] false [0,6,7,8]) (.block 0 (.loop (ziE)))
def zdz:AFun:={ nt:=26,res:=[],code:=(ziD) }
def ziC:ACode:=.cond (.t 21) (.seq (.reg 0 [o_ 22 (.mov (.t 1)),o_ 4 (.asg (.t 22))] false [4]) (.ret)) (.skip)
def ziB:ACode:=.seq (.reg 0 [o_ 44 (.mov (.t 1)),o_ 4 (.asg (.t 44))] false [4]) (.ret)
def ziA:ACode:=.cond (.t 31) (.seq (.reg 0 [o_ 32 (.mov (.t 0)),o_ 33 (.mov (.t 0)),o_ 34 (.nilchk (.t 33)),o_ 35 (.faddr 46 7 15 (.t 34)),o_ 36 (.load 12 false 1 (.t 35)),o_ 37 (.mov (.t 36)),p_ 38 (.faddr 54 1 1 (.t 5)) 5 37 false,p_ 39 (.load 12 false 1 (.t 38)) 5 37 false,p_ 40 (.un .not (.t 39)) 5 37 false,o_ 41 (.pick (.t 37) (.c (.bool true)) (.t 40)),o_ 42 (.nilchk (.t 32)),o_ 43 (.faddr 46 7 15 (.t 42)),⟨none,.store 12 1 (.t 43) (.t 41),none⟩] false [1]) (ziB)) (.skip)
def ziz:ACode:=.cond (.t 73) (.reg 0 [o_ 74 (.mov (.t 0)),o_ 75 (.nilchk (.t 74)),o_ 76 (.faddr 46 7 15 (.t 75)),⟨none,.store 12 1 (.t 76) (.c (.bool true)),none⟩] false [1,7]) (.skip)
def ziy:ACode:=.cond (.t 78) (.seq (.reg 0 [o_ 79 (.mov (.t 1)),o_ 4 (.asg (.t 79))] false [4]) (.ret)) (.skip)
def zix:ACode:=.seq (.reg 0 [o_ 80 (.mov (.t 7)),o_ 4 (.asg (.t 80))] false [4]) (.ret)
def ziw:ACode:=.seq (.seq (.reg 0 [o_ 77 (.mov (.t 7)),o_ 78 (.bin .eql .other 51 (.t 77) (.c (.int .u8 1)))] false [1,7,78]) (ziy)) (zix)
def ziv:ACode:=.seq (.seq (.reg 0 [o_ 63 (.mov (.t 7)),o_ 64 (.mov (.t 1)),o_ 65 (.bin .neq .other 51 (.t 63) (.t 64)),o_ 66 (.mov (.t 65)),p_ 67 (.mov (.t 7)) 3 66 true,p_ 68 (.bin .neq .other 51 (.t 67) (.c (.int .u8 1))) 3 66 true,o_ 69 (.pick (.t 66) (.t 68) (.c (.bool false))),o_ 70 (.mov (.t 69)),p_ 71 (.mov (.t 1)) 7 70 true,p_ 72 (.bin .neq .other 51 (.t 71) (.c (.int .u8 1))) 7 70 true,o_ 73 (.pick (.t 70) (.t 72) (.c (.bool false)))] false [0,1,7,73]) (ziz)) (ziw)
def ziu:ACode:=.seq (.reg 0 [o_ 53 (.mov (.t 0)),o_ 54 (.mov (.t 0)),o_ 55 (.nilchk (.t 54)),o_ 56 (.faddr 46 3 11 (.t 55)),o_ 57 (.load 50 false 1 (.t 56)),o_ 58 (.mov (.t 6)),o_ 59 (.bin .sub .other 2 (.t 58) (.c (.int .i64 1))),o_ 60 (.slc 50 1 (.t 57) none (some (.t 59))),o_ 61 (.nilchk (.t 53)),o_ 62 (.faddr 46 3 11 (.t 61)),⟨none,.store 50 1 (.t 62) (.t 60),none⟩] false [0,1,7]) (ziv)
def zhv:ACode:=.seq (.reg 0 [o_ 45 (.mov (.t 0)),o_ 46 (.nilchk (.t 45)),o_ 47 (.faddr 46 3 11 (.t 46)),o_ 48 (.load 50 false 1 (.t 47)),o_ 49 (.mov (.t 6)),o_ 50 (.bin .sub .other 2 (.t 49) (.c (.int .i64 1))),o_ 51 (.iaddr 50 1 (.t 48) (.t 50)),o_ 52 (.load 51 false 1 (.t 51)),o_ 7 (.asg (.t 52))] false [0,1,6,7]) (ziu)
def zhu:ACode:=.seq (.seq (.reg 0 [o_ 28 (.mov (.t 6)),o_ 29 (.faddr 54 0 0 (.t 5)),o_ 30 (.load 2 false 1 (.t 29)),o_ 31 (.bin .eql .other 2 (.t 28) (.t 30))] false [0,1,5,6,31]) (ziA)) (zhv)
def zht:ACode:=.seq (.reg 0 [o_ 23 (.mov (.t 0)),o_ 24 (.nilchk (.t 23)),o_ 25 (.faddr 46 3 11 (.t 24)),o_ 26 (.load 50 false 1 (.t 25)),o_ 27 (.len 50 (.t 26)),o_ 6 (.asg (.t 27))] false [0,1,5,6]) (zhu)
def zhs:ACode:=.seq (.seq (.reg 0 [o_ 20 (.mov (.t 1)),o_ 21 (.bin .eql .other 51 (.t 20) (.c (.int .u8 0)))] false [0,1,5,21]) (ziC)) (zht)
def zhr:ACode:=.seq (.reg 1 [o_ 8 (.mov (.t 0)),o_ 9 (.nilchk (.t 8)),o_ 10 (.faddr 46 4 12 (.t 9)),o_ 11 (.load 55 false 1 (.t 10)),o_ 12 (.mov (.t 0)),o_ 13 (.nilchk (.t 12)),o_ 14 (.faddr 46 4 12 (.t 13)),o_ 15 (.load 55 false 1 (.t 14)),o_ 16 (.len 55 (.t 15)),o_ 17 (.bin .sub .other 2 (.t 16) (.c (.int .i64 1))),o_ 18 (.iaddr 55 3 (.t 11) (.t 17)),o_ 19 (.load 54 true 3 (.t 18)),o_ 5 (.alloc 0 54 [.int .i64 0,.bool false,.bool false]),⟨none,.store 54 3 (.t 5) (.t 19),none⟩] true [0,1,5]) (zhs)
def zhq:ACode:=.seq (.reg 0 [o_ 4 (.asg (.c (.int .u8 0)))] false [0,1]) (zhr)
def zdy:AFun:={ nt:=81,res:=[.t 4],code:=(zhq) }
def zux:ACode:=.seq (.reg 0 [o_ 5 (.mov (.t 0)),o_ 6 (.bin .eql .other 7 (.t 5) (.c (.int .u8 127))),o_ 7 (.mov (.t 6)),p_ 8 (.mov (.t 0)) 2 7 false,p_ 9 (.bin .eql .other 7 (.t 8) (.c (.int .u8 126))) 2 7 false,o_ 10 (.pick (.t 7) (.c (.bool true)) (.t 9)),o_ 11 (.mov (.t 10)),p_ 12 (.mov (.t 1)) 6 11 false,p_ 13 (.mov (.t 12)) 6 11 false,p_ 14 (.mov (.t 0)) 8 13 true,p_ 15 (.bin .eql .other 7 (.t 14) (.c (.int .u8 0))) 8 13 true,p_ 16 (.pick (.t 13) (.t 15) (.c (.bool false))) 6 11 false,o_ 17 (.pick (.t 11) (.c (.bool true)) (.t 16)),o_ 4 (.asg (.t 17))] false [4]) (.ret)
def zuw:ACode:=.seq (.reg 0 [o_ 4 (.asg (.c (.bool false)))] false [0,1]) (zux)
def zpD:AFun:={ nt:=18,res:=[.t 4],code:=(zuw) }
def zuG:ACode:=.seq (.reg 0 [o_ 5 (.load 48 true 6 (.t 1)),⟨none,.store 48 6 (.t 2) (.t 5),none⟩] false [2]) (.ret)
def zuF:ACode:=.seq (.reg 0 [o_ 3 (.faddr 48 0 0 (.t 1)),⟨none,.store 36 1 (.t 3) (.c .nils),none⟩,o_ 4 (.faddr 48 2 2 (.t 1)),⟨none,.store 12 1 (.t 4) (.c (.bool true)),none⟩] false [1,2]) (zuG)
def zuE:ACode:=.seq (.reg 2 [o_ 1 (.box 0 48 (.t 0)),o_ 2 (.alloc 1 48 [.nils,.int .i64 0,.bool false,.bool false,.int .i64 0,.bool false])] false [1,2]) (zuF)
def zpF:AFun:={ nt:=6,res:=[.cell 2 48 true 6],code:=(zuE) }
def zrP:ACode:=.seq (.reg 0 [o_ 21 (.load 48 true 6 (.t 4)),⟨none,.store 48 6 (.t 6) (.t 21),none⟩] false [6]) (.ret)
def zrO:ACode:=.cond (.t 19) (.seq (.reg 0 [o_ 20 (.faddr 48 5 5 (.t 4)),⟨none,.store 12 1 (.t 20) (.c (.bool false)),none⟩] false [4,6]) (zrP)) (.skip)
def zrN:ACode:=.reg 0 [o_ 29 (.load 47 true 11 (.t 3)),o_ 30 (.load 47 true 11 (.t 3)),o_ 31 (.load 48 true 6 (.t 4)),o_ 32 (.faddr 9 5 5 (.t 5)),o_ 33 (.load 10 false 1 (.t 32)),o_ 34 (.faddr 9 4 4 (.t 5)),o_ 35 (.load 7 false 1 (.t 34)),o_ 36 (.faddr 9 4 4 (.t 5)),o_ 37 (.load 7 false 1 (.t 36)),o_ 38 (.callp 57 [.t 30,.t 31,.t 33,.t 35,.t 37]),o_ 39 (.faddr 9 6 6 (.t 5)),o_ 40 (.load 10 false 1 (.t 39)),o_ 41 (.faddr 9 4 4 (.t 5)),o_ 42 (.load 7 false 1 (.t 41)),o_ 43 (.faddr 9 4 4 (.t 5)),o_ 44 (.load 7 false 1 (.t 43)),o_ 45 (.callp 57 [.t 29,.t 38,.t 40,.t 42,.t 44]),⟨none,.store 48 6 (.t 4) (.t 45),none⟩] true [4,5,6]
def zrM:ACode:=.cond (.t 57) (.reg 0 [o_ 59 (.load 47 true 11 (.t 3)),o_ 60 (.load 48 true 6 (.t 4)),o_ 61 (.faddr 9 5 5 (.t 5)),o_ 62 (.load 10 false 1 (.t 61)),o_ 63 (.faddr 9 4 4 (.t 5)),o_ 64 (.load 7 false 1 (.t 63)),o_ 65 (.callp 57 [.t 59,.t 60,.t 62,.t 64,.c (.int .u8 0)]),⟨none,.store 48 6 (.t 4) (.t 65),none⟩] false [4,5,6]) (.seq (.reg 0 [o_ 25 (.load 48 true 6 (.t 4)),o_ 26 (.callp 27 [.t 25,.c (.int .u8 127)]),o_ 24 (.mov (.t 26)),o_ 27 (.ext (.t 24) 0),o_ 28 (.ext (.t 24) 1),⟨none,.store 48 6 (.t 4) (.t 27),none⟩] false [3,4,5,6]) (zrN))
def zrL:ACode:=.cond (.t 46) (.reg 0 [o_ 48 (.load 47 true 11 (.t 3)),o_ 49 (.load 48 true 6 (.t 4)),o_ 50 (.faddr 9 5 5 (.t 5)),o_ 51 (.load 10 false 1 (.t 50)),o_ 52 (.faddr 9 4 4 (.t 5)),o_ 53 (.load 7 false 1 (.t 52)),o_ 54 (.faddr 9 4 4 (.t 5)),o_ 55 (.load 7 false 1 (.t 54)),o_ 56 (.callp 57 [.t 48,.t 49,.t 51,.t 53,.t 55]),⟨none,.store 48 6 (.t 4) (.t 56),none⟩] false [4,5,6]) (.seq (.reg 0 [o_ 58 (.bin .eql .other 7 (.t 23) (.c (.int .u8 3))),o_ 57 (.asg (.t 58))] false [3,4,5,6,57]) (zrM))
def zrK:ACode:=.block 0 (.seq (.reg 0 [o_ 47 (.bin .eql .other 7 (.t 23) (.c (.int .u8 2))),o_ 46 (.asg (.t 47))] false [3,4,5,6,23,46]) (zrL))
def zrJ:ACode:=.seq (.reg 0 [o_ 66 (.load 48 true 6 (.t 4)),o_ 67 (.faddr 9 4 4 (.t 5)),o_ 68 (.load 7 false 1 (.t 67)),o_ 69 (.callp 46 [.t 66,.t 68]),⟨none,.store 48 6 (.t 6) (.t 69),none⟩] false [6]) (.ret)
def zrI:ACode:=.seq (.seq (.reg 0 [o_ 22 (.faddr 9 0 0 (.t 5)),o_ 23 (.load 7 false 1 (.t 22))] false [3,4,5,6,23]) (zrK)) (zrJ)
def zrH:ACode:=.seq (.seq (.reg 0 [o_ 7 (.faddr 9 4 4 (.t 5)),o_ 8 (.load 7 false 1 (.t 7)),o_ 9 (.bin .neq .other 7 (.t 8) (.c (.int .u8 0))),o_ 10 (.mov (.t 9)),p_ 11 (.faddr 9 4 4 (.t 5)) 3 10 true,p_ 12 (.load 7 false 1 (.t 11)) 3 10 true,p_ 13 (.bin .neq .other 7 (.t 12) (.c (.int .u8 127))) 3 10 true,o_ 14 (.pick (.t 10) (.t 13) (.c (.bool false))),o_ 15 (.mov (.t 14)),p_ 16 (.faddr 9 4 4 (.t 5)) 8 15 true,p_ 17 (.load 7 false 1 (.t 16)) 8 15 true,p_ 18 (.bin .neq .other 7 (.t 17) (.c (.int .u8 126))) 8 15 true,o_ 19 (.pick (.t 15) (.t 18) (.c (.bool false)))] false [3,4,5,6,19]) (zrO)) (zrI)
def zoW:ACode:=.seq (.reg 4 [o_ 3 (.box 0 47 (.t 0)),o_ 4 (.box 1 48 (.t 1)),o_ 5 (.box 2 9 (.t 2)),o_ 6 (.alloc 3 48 [.nils,.int .i64 0,.bool false,.bool false,.int .i64 0,.bool false])] false [3,4,5,6]) (zrH)
def znj:AFun:={ nt:=70,res:=[.cell 6 48 true 6],code:=(zoW) }
def zoV:ACode:=.cond (.t 15) (.reg 0 [o_ 17 (.load 48 true 6 (.t 4)),o_ 18 (.callp 27 [.t 17,.c (.int .u8 127)]),o_ 16 (.mov (.t 18)),o_ 19 (.ext (.t 16) 0),o_ 20 (.ext (.t 16) 1),⟨none,.store 48 6 (.t 4) (.t 19),none⟩] false [3,4,5,6]) (.skip)
def zoU:ACode:=.seq (.reg 0 [o_ 37 (.load 48 true 6 (.t 4)),⟨none,.store 48 6 (.t 6) (.t 37),none⟩] false [6]) (.ret)
def zoT:ACode:=.cond (.t 35) (.seq (.reg 0 [o_ 36 (.faddr 48 5 5 (.t 4)),⟨none,.store 12 1 (.t 36) (.c (.bool false)),none⟩] false [4,6]) (zoU)) (.skip)
def zoS:ACode:=.reg 0 [o_ 38 (.faddr 9 7 7 (.t 5)),o_ 39 (.load 23 false 1 (.t 38)),o_ 40 (.faddr 9 7 7 (.t 5)),o_ 41 (.load 23 false 1 (.t 40)),o_ 42 (.len 23 (.t 41)),o_ 43 (.bin .sub .other 2 (.t 42) (.c (.int .i64 1))),o_ 44 (.iaddr 23 1 (.t 39) (.t 43)),o_ 45 (.load 13 false 1 (.t 44)),o_ 46 (.convi .i64 13 27 (.t 45)),o_ 7 (.asg (.t 46))] false [3,4,5,6,7]
def zoR:ACode:=.cond (.t 25) (.seq (.seq (.reg 0 [o_ 26 (.faddr 9 7 7 (.t 5)),o_ 27 (.load 23 false 1 (.t 26)),o_ 28 (.len 23 (.t 27)),o_ 29 (.bin .eql .other 2 (.t 28) (.c (.int .i64 0))),o_ 30 (.mov (.t 29)),p_ 31 (.faddr 9 7 7 (.t 5)) 4 30 false,p_ 32 (.load 23 false 1 (.t 31)) 4 30 false,p_ 33 (.len 23 (.t 32)) 4 30 false,p_ 34 (.bin .gtr .other 2 (.t 33) (.c (.int .i64 257))) 4 30 false,o_ 35 (.pick (.t 30) (.c (.bool true)) (.t 34))] false [3,4,5,6,35]) (zoT)) (zoS)) (.skip)
def zoQ:ACode:=.reg 0 [o_ 76 (.mov (.t 9)),o_ 77 (.mov (.t 76)),p_ 78 (.mov (.t 12)) 1 77 true,o_ 79 (.pick (.t 77) (.t 78) (.c (.bool false))),o_ 80 (.mov (.t 79)),p_ 81 (.mov (.t 11)) 4 80 true,p_ 82 (.mov (.t 8)) 4 80 true,p_ 83 (.bin .eql .other 7 (.t 81) (.t 82)) 4 80 true,o_ 84 (.pick (.t 80) (.t 83) (.c (.bool false))),o_ 9 (.asg (.t 84))] false [3,4,5,6,8,9,10]
def zoP:ACode:=.reg 0 [o_ 63 (.mov (.t 10)),o_ 64 (.bin .add .other 2 (.t 63) (.c (.int .i64 1))),o_ 10 (.asg (.t 64))] false [3,4,5,6,8,9,10]
def zoO:ACode:=.seq (.block 1 (.seq (.reg 0 [o_ 66 (.load 47 true 11 (.t 3)),o_ 67 (.faddr 9 7 7 (.t 5)),o_ 68 (.load 23 false 1 (.t 67)),o_ 69 (.mov (.t 10)),o_ 70 (.iaddr 23 1 (.t 68) (.t 69)),o_ 71 (.load 13 false 1 (.t 70)),o_ 72 (.convi .i64 13 27 (.t 71)),o_ 73 (.callp 58 [.t 66,.t 72]),o_ 65 (.mov (.t 73)),o_ 74 (.ext (.t 65) 0),o_ 75 (.ext (.t 65) 1),o_ 11 (.asg (.t 74)),o_ 12 (.asg (.t 75))] true [3,4,5,6,8,9,10,11,12]) (zoQ))) (zoP)
def zoN:ACode:=.seq (.seq (.reg 0 [o_ 53 (.faddr 9 0 0 (.t 5)),o_ 54 (.load 7 false 1 (.t 53)),o_ 55 (.bin .eql .other 7 (.t 54) (.c (.int .u8 14))),o_ 56 (.mov (.t 55)),p_ 57 (.mov (.t 10)) 3 56 true,p_ 58 (.faddr 9 7 7 (.t 5)) 3 56 true,p_ 59 (.load 23 false 1 (.t 58)) 3 56 true,p_ 60 (.len 23 (.t 59)) 3 56 true,p_ 61 (.bin .lss .other 2 (.t 57) (.t 60)) 3 56 true,o_ 62 (.pick (.t 56) (.t 61) (.c (.bool false)))] false [3,4,5,6,8,9,10,62]) (.cond (.t 62) (.skip) (.exit 0))) (zoO)
def zni:ACode:=.cond (.t 99) (.seq (.reg 0 [o_ 100 (.load 48 true 6 (.t 4)),o_ 101 (.mov (.t 8)),o_ 102 (.callp 46 [.t 100,.t 101]),⟨none,.store 48 6 (.t 6) (.t 102),none⟩] false [6]) (.ret)) (.skip)
def znh:ACode:=.seq (.reg 0 [o_ 103 (.load 48 true 6 (.t 4)),o_ 104 (.callp 42 [.t 103]),⟨none,.store 48 6 (.t 6) (.t 104),none⟩] false [6]) (.ret)
def zng:ACode:=.seq (.seq (.reg 0 [o_ 97 (.faddr 9 0 0 (.t 5)),o_ 98 (.load 7 false 1 (.t 97)),o_ 99 (.bin .eql .other 7 (.t 98) (.c (.int .u8 13)))] false [4,6,8,99]) (zni)) (znh)
def znf:ACode:=.seq (.reg 0 [o_ 92 (.load 48 true 6 (.t 4)),o_ 93 (.mov (.t 8)),o_ 94 (.callp 27 [.t 92,.t 93]),o_ 91 (.mov (.t 94)),o_ 95 (.ext (.t 91) 0),o_ 96 (.ext (.t 91) 1),⟨none,.store 48 6 (.t 4) (.t 95),none⟩] false [4,5,6,8]) (zng)
def zne:ACode:=.seq (.reg 0 [o_ 85 (.faddr 48 5 5 (.t 4)),o_ 86 (.load 12 false 1 (.t 85)),o_ 87 (.mov (.t 86)),p_ 88 (.mov (.t 9)) 2 87 true,o_ 89 (.pick (.t 87) (.t 88) (.c (.bool false))),o_ 90 (.faddr 48 5 5 (.t 4)),⟨none,.store 12 1 (.t 90) (.t 89),none⟩] false [4,5,6,8]) (znf)
def znd:ACode:=.seq (.seq (.reg 0 [o_ 10 (.asg (.c (.int .i64 0)))] false [3,4,5,6,8,9,10]) (.block 0 (.loop (zoN)))) (zne)
def znc:ACode:=.seq (.reg 0 [o_ 48 (.load 47 true 11 (.t 3)),o_ 49 (.mov (.t 7)),o_ 50 (.callp 58 [.t 48,.t 49]),o_ 47 (.mov (.t 50)),o_ 51 (.ext (.t 47) 0),o_ 52 (.ext (.t 47) 1),o_ 8 (.asg (.t 51)),o_ 9 (.asg (.t 52))] false [3,4,5,6,8,9]) (znd)
def znb:ACode:=.seq (.seq (.reg 0 [o_ 23 (.faddr 9 0 0 (.t 5)),o_ 24 (.load 7 false 1 (.t 23)),o_ 25 (.bin .eql .other 7 (.t 24) (.c (.int .u8 14)))] false [3,4,5,6,7,25]) (zoR)) (znc)
def zna:ACode:=.seq (.reg 0 [o_ 21 (.faddr 9 1 1 (.t 5)),o_ 22 (.load 27 false 1 (.t 21)),o_ 7 (.asg (.t 22))] false [3,4,5,6,7]) (znb)
def zmZ:ACode:=.seq (.seq (.reg 0 [o_ 13 (.faddr 9 0 0 (.t 5)),o_ 14 (.load 7 false 1 (.t 13)),o_ 15 (.bin .neq .other 7 (.t 14) (.c (.int .u8 12)))] false [3,4,5,6,15]) (zoV)) (zna)
def zmY:ACode:=.seq (.reg 4 [o_ 3 (.box 0 47 (.t 0)),o_ 4 (.box 1 48 (.t 1)),o_ 5 (.box 2 9 (.t 2)),o_ 6 (.alloc 3 48 [.nils,.int .i64 0,.bool false,.bool false,.int .i64 0,.bool false])] false [3,4,5,6]) (zmZ)
def zlO:AFun:={ nt:=105,res:=[.cell 6 48 true 6],code:=(zmY) }
def zrG:ACode:=.seq (.reg 0 [o_ 21 (.load 48 true 6 (.t 4)),⟨none,.store 48 6 (.t 6) (.t 21),none⟩] false [6]) (.ret)
def zrF:ACode:=.cond (.t 19) (.seq (.reg 0 [o_ 20 (.faddr 48 5 5 (.t 4)),⟨none,.store 12 1 (.t 20) (.c (.bool false)),none⟩] false [4,6]) (zrG)) (.skip)
def zrE:ACode:=.reg 0 [o_ 22 (.faddr 47 0 0 (.t 3)),o_ 23 (.faddr 0 1 1 (.t 22)),o_ 24 (.load 29 false 1 (.t 23)),o_ 25 (.mov (.t 7)),o_ 26 (.iaddr 29 3 (.t 24) (.t 25)),o_ 27 (.faddr 37 0 0 (.t 26)),o_ 28 (.load 13 false 1 (.t 27)),o_ 29 (.convi .i64 13 27 (.t 28)),o_ 7 (.asg (.t 29))] false [3,4,6,7]
def zrD:ACode:=.reg 0 [o_ 41 (.load 48 true 6 (.t 4)),o_ 42 (.callp 27 [.t 41,.c (.int .u8 127)]),o_ 40 (.mov (.t 42)),o_ 43 (.ext (.t 40) 0),o_ 44 (.ext (.t 40) 1),⟨none,.store 48 6 (.t 4) (.t 43),none⟩] false [3,4,6,7]
def zrC:ACode:=.cond (.t 12) (.seq (.seq (.reg 0 [o_ 13 (.mov (.t 7)),o_ 14 (.faddr 47 0 0 (.t 3)),o_ 15 (.faddr 0 1 1 (.t 14)),o_ 16 (.load 29 false 1 (.t 15)),o_ 17 (.len 29 (.t 16)),o_ 18 (.callp 59 [.t 13,.t 17]),o_ 19 (.un .not (.t 18))] false [3,4,6,7,19]) (zrF)) (zrE)) (.seq (.reg 0 [o_ 30 (.faddr 48 5 5 (.t 4)),o_ 31 (.load 12 false 1 (.t 30)),o_ 32 (.mov (.t 31)),p_ 33 (.faddr 47 0 0 (.t 3)) 2 32 true,p_ 34 (.faddr 0 2 2 (.t 33)) 2 32 true,p_ 35 (.load 30 false 1 (.t 34)) 2 32 true,p_ 36 (.len 30 (.t 35)) 2 32 true,p_ 37 (.bin .gtr .other 2 (.t 36) (.c (.int .i64 0))) 2 32 true,o_ 38 (.pick (.t 32) (.t 37) (.c (.bool false))),o_ 39 (.faddr 48 5 5 (.t 4)),⟨none,.store 12 1 (.t 39) (.t 38),none⟩] false [3,4,6,7]) (zrD))
def zrB:ACode:=.seq (.reg 0 [o_ 53 (.load 48 true 6 (.t 4)),⟨none,.store 48 6 (.t 6) (.t 53),none⟩] false [6]) (.ret)
def zrA:ACode:=.cond (.t 51) (.seq (.reg 0 [o_ 52 (.faddr 48 5 5 (.t 4)),⟨none,.store 12 1 (.t 52) (.c (.bool false)),none⟩] false [4,6]) (zrB)) (.skip)
def zrz:ACode:=.seq (.reg 0 [o_ 54 (.load 48 true 6 (.t 4)),o_ 55 (.faddr 47 0 0 (.t 3)),o_ 56 (.faddr 0 0 0 (.t 55)),o_ 57 (.load 28 false 1 (.t 56)),o_ 58 (.mov (.t 7)),o_ 59 (.iaddr 28 2 (.t 57) (.t 58)),o_ 60 (.load 35 true 2 (.t 59)),o_ 61 (.callp 60 [.t 54,.t 60]),⟨none,.store 48 6 (.t 6) (.t 61),none⟩] true [6]) (.ret)
def zry:ACode:=.seq (.seq (.reg 0 [o_ 45 (.mov (.t 7)),o_ 46 (.faddr 47 0 0 (.t 3)),o_ 47 (.faddr 0 0 0 (.t 46)),o_ 48 (.load 28 false 1 (.t 47)),o_ 49 (.len 28 (.t 48)),o_ 50 (.callp 59 [.t 45,.t 49]),o_ 51 (.un .not (.t 50))] false [3,4,6,7,51]) (zrA)) (zrz)
def zoM:ACode:=.seq (.seq (.reg 0 [o_ 10 (.faddr 9 0 0 (.t 5)),o_ 11 (.load 7 false 1 (.t 10)),o_ 12 (.bin .eql .other 7 (.t 11) (.c (.int .u8 16)))] false [3,4,6,7,12]) (zrC)) (zry)
def zoL:ACode:=.seq (.reg 0 [o_ 8 (.faddr 9 1 1 (.t 5)),o_ 9 (.load 27 false 1 (.t 8)),o_ 7 (.asg (.t 9))] false [3,4,5,6,7]) (zoM)
def zoK:ACode:=.seq (.reg 4 [o_ 3 (.box 0 47 (.t 0)),o_ 4 (.box 1 48 (.t 1)),o_ 5 (.box 2 9 (.t 2)),o_ 6 (.alloc 3 48 [.nils,.int .i64 0,.bool false,.bool false,.int .i64 0,.bool false])] false [3,4,5,6]) (zoL)
def zmX:AFun:={ nt:=62,res:=[.cell 6 48 true 6],code:=(zoK) }
def zwu:ACode:=.cond (.t 7) (.seq (.reg 0 [o_ 8 (.load 48 true 6 (.t 2)),⟨none,.store 48 6 (.t 4) (.t 8),none⟩] false [4]) (.ret)) (.skip)
def zwt:ACode:=.cond (.t 24) (.reg 0 [o_ 25 (.faddr 48 4 4 (.t 2)),o_ 26 (.load 2 false 1 (.t 25)),o_ 27 (.faddr 48 1 1 (.t 2)),o_ 28 (.load 2 false 1 (.t 27)),o_ 29 (.faddr 48 0 0 (.t 2)),o_ 30 (.load 36 false 1 (.t 29)),o_ 31 (.len 36 (.t 30)),o_ 32 (.bin .add .other 2 (.t 28) (.t 31)),o_ 33 (.mm true 2 2 (.t 26) (.t 32)),o_ 34 (.faddr 48 4 4 (.t 2)),⟨none,.store 2 1 (.t 34) (.t 33),none⟩] false [2,4]) (.skip)
def zws:ACode:=.seq (.reg 0 [o_ 35 (.load 48 true 6 (.t 2)),⟨none,.store 48 6 (.t 4) (.t 35),none⟩] false [4]) (.ret)
def zwr:ACode:=.seq (.seq (.reg 0 [o_ 17 (.faddr 48 2 2 (.t 2)),o_ 18 (.load 12 false 1 (.t 17)),o_ 19 (.un .not (.t 18)),o_ 20 (.mov (.t 19)),p_ 21 (.faddr 48 3 3 (.t 2)) 3 20 true,p_ 22 (.load 12 false 1 (.t 21)) 3 20 true,p_ 23 (.un .not (.t 22)) 3 20 true,o_ 24 (.pick (.t 20) (.t 23) (.c (.bool false)))] false [2,4,24]) (zwt)) (zws)
def zwq:ACode:=.seq (.reg 3 [o_ 9 (.mov (.t 5)),o_ 10 (.faddr 48 0 0 (.t 2)),o_ 11 (.load 36 false 1 (.t 10)),o_ 12 (.app 0 36 1 1 (.t 9) (.t 11)),o_ 13 (.mov (.t 1)),o_ 14 (.bslv 1 36 [.int .u8 0] 1 [(0,.t 13)]),o_ 15 (.app 2 36 1 1 (.t 12) (.t 14)),o_ 16 (.faddr 48 0 0 (.t 2)),⟨none,.store 36 1 (.t 16) (.t 15),none⟩] false [2,4]) (zwr)
def zwp:ACode:=.seq (.reg 0 [o_ 5 (.asg (.c .nils))] false [1,2,4,5]) (zwq)
def zwo:ACode:=.seq (.seq (.reg 0 [o_ 6 (.mov (.t 1)),o_ 7 (.bin .eql .other 7 (.t 6) (.c (.int .u8 0)))] false [1,2,4,7]) (zwu)) (zwp)
def zwn:ACode:=.seq (.reg 2 [o_ 2 (.box 0 48 (.t 0)),o_ 4 (.alloc 1 48 [.nils,.int .i64 0,.bool false,.bool false,.int .i64 0,.bool false])] false [1,2,4]) (zwo)
def zuv:AFun:={ nt:=36,res:=[.cell 4 48 true 6],code:=(zwn) }
def zmo:ACode:=.cond (.t 14) (.reg 0 [o_ 15 (.faddr 47 0 0 (.t 3)),o_ 16 (.faddr 0 4 4 (.t 15)),o_ 17 (.load 31 false 1 (.t 16)),o_ 18 (.len 31 (.t 17)),o_ 7 (.asg (.t 18))] false [3,4,5,6,7]) (.skip)
def zmn:ACode:=.seq (.reg 0 [o_ 25 (.load 48 true 6 (.t 4)),⟨none,.store 48 6 (.t 6) (.t 25),none⟩] false [6]) (.ret)
def zmm:ACode:=.cond (.t 23) (.seq (.reg 0 [o_ 24 (.faddr 48 5 5 (.t 4)),⟨none,.store 12 1 (.t 24) (.c (.bool false)),none⟩] false [4,6]) (zmn)) (.skip)
def zml:ACode:=.reg 0 [o_ 37 (.faddr 48 5 5 (.t 4)),o_ 38 (.load 12 false 1 (.t 37)),o_ 39 (.mov (.t 38)),p_ 40 (.faddr 9 0 0 (.t 5)) 2 39 true,p_ 41 (.load 7 false 1 (.t 40)) 2 39 true,p_ 42 (.bin .eql .other 7 (.t 41) (.c (.int .u8 35))) 2 39 true,p_ 43 (.mov (.t 42)) 2 39 true,p_ 44 (.faddr 47 0 0 (.t 3)) 6 43 false,p_ 45 (.faddr 0 4 4 (.t 44)) 6 43 false,p_ 46 (.load 31 false 1 (.t 45)) 6 43 false,p_ 47 (.faddr 9 1 1 (.t 5)) 6 43 false,p_ 48 (.load 27 false 1 (.t 47)) 6 43 false,p_ 49 (.iaddr 31 10 (.t 46) (.t 48)) 6 43 false,p_ 50 (.faddr 42 1 1 (.t 49)) 6 43 false,p_ 51 (.load 12 false 1 (.t 50)) 6 43 false,p_ 52 (.pick (.t 43) (.c (.bool true)) (.t 51)) 2 39 true,o_ 53 (.pick (.t 39) (.t 52) (.c (.bool false))),o_ 54 (.faddr 48 5 5 (.t 4)),⟨none,.store 12 1 (.t 54) (.t 53),none⟩] false [4,5,6,8]
def zmk:ACode:=.cond (.t 28) (.seq (.reg 0 [o_ 29 (.faddr 47 0 0 (.t 3)),o_ 30 (.faddr 0 4 4 (.t 29)),o_ 31 (.load 31 false 1 (.t 30)),o_ 32 (.faddr 9 1 1 (.t 5)),o_ 33 (.load 27 false 1 (.t 32)),o_ 34 (.iaddr 31 10 (.t 31) (.t 33)),o_ 35 (.faddr 42 0 0 (.t 34)),o_ 36 (.load 7 false 1 (.t 35)),o_ 8 (.asg (.t 36))] false [3,4,5,6,8]) (zml)) (.reg 0 [o_ 55 (.faddr 47 2 9 (.t 3)),o_ 56 (.load 36 false 1 (.t 55)),o_ 57 (.faddr 9 1 1 (.t 5)),o_ 58 (.load 27 false 1 (.t 57)),o_ 59 (.iaddr 36 1 (.t 56) (.t 58)),o_ 60 (.load 7 false 1 (.t 59)),o_ 8 (.asg (.t 60))] false [4,5,6,8])
def zmj:ACode:=.cond (.t 73) (.reg 0 [o_ 75 (.load 48 true 6 (.t 4)),o_ 76 (.mov (.t 8)),o_ 77 (.callp 27 [.t 75,.t 76]),o_ 74 (.mov (.t 77)),o_ 78 (.ext (.t 74) 0),o_ 79 (.ext (.t 74) 1),⟨none,.store 48 6 (.t 4) (.t 78),none⟩] false [4,5,6,8]) (.skip)
def zmi:ACode:=.cond (.t 92) (.reg 0 [o_ 93 (.load 48 true 6 (.t 4)),o_ 94 (.mov (.t 8)),o_ 95 (.callp 46 [.t 93,.t 94]),⟨none,.store 48 6 (.t 4) (.t 95),none⟩] false [4,6]) (.skip)
def zmh:ACode:=.seq (.reg 0 [o_ 96 (.load 48 true 6 (.t 4)),⟨none,.store 48 6 (.t 6) (.t 96),none⟩] false [6]) (.ret)
def zmg:ACode:=.seq (.seq (.reg 0 [o_ 80 (.faddr 9 0 0 (.t 5)),o_ 81 (.load 7 false 1 (.t 80)),o_ 82 (.bin .eql .other 7 (.t 81) (.c (.int .u8 32))),o_ 83 (.mov (.t 82)),p_ 84 (.faddr 9 0 0 (.t 5)) 3 83 false,p_ 85 (.load 7 false 1 (.t 84)) 3 83 false,p_ 86 (.bin .eql .other 7 (.t 85) (.c (.int .u8 34))) 3 83 false,o_ 87 (.pick (.t 83) (.c (.bool true)) (.t 86)),o_ 88 (.mov (.t 87)),p_ 89 (.faddr 9 0 0 (.t 5)) 8 88 false,p_ 90 (.load 7 false 1 (.t 89)) 8 88 false,p_ 91 (.bin .eql .other 7 (.t 90) (.c (.int .u8 35))) 8 88 false,o_ 92 (.pick (.t 88) (.c (.bool true)) (.t 91))] false [4,6,8,92]) (zmi)) (zmh)
def zlq:ACode:=.seq (.seq (.reg 0 [o_ 61 (.faddr 9 0 0 (.t 5)),o_ 62 (.load 7 false 1 (.t 61)),o_ 63 (.bin .eql .other 7 (.t 62) (.c (.int .u8 33))),o_ 64 (.mov (.t 63)),p_ 65 (.faddr 9 0 0 (.t 5)) 3 64 false,p_ 66 (.load 7 false 1 (.t 65)) 3 64 false,p_ 67 (.bin .eql .other 7 (.t 66) (.c (.int .u8 34))) 3 64 false,o_ 68 (.pick (.t 64) (.c (.bool true)) (.t 67)),o_ 69 (.mov (.t 68)),p_ 70 (.faddr 9 0 0 (.t 5)) 8 69 false,p_ 71 (.load 7 false 1 (.t 70)) 8 69 false,p_ 72 (.bin .eql .other 7 (.t 71) (.c (.int .u8 36))) 8 69 false,o_ 73 (.pick (.t 69) (.c (.bool true)) (.t 72))] false [4,5,6,8,73]) (zmj)) (zmg)
def zlp:ACode:=.seq (.seq (.reg 0 [o_ 26 (.faddr 9 0 0 (.t 5)),o_ 27 (.load 7 false 1 (.t 26)),o_ 28 (.bin .geq .other 7 (.t 27) (.c (.int .u8 35)))] false [3,4,5,6,28]) (zmk)) (zlq)
def zlo:ACode:=.seq (.reg 0 [o_ 8 (.asg (.c (.int .u8 0)))] false [3,4,5,6]) (zlp)
def zln:ACode:=.seq (.seq (.reg 0 [o_ 19 (.faddr 9 1 1 (.t 5)),o_ 20 (.load 27 false 1 (.t 19)),o_ 21 (.mov (.t 7)),o_ 22 (.callp 59 [.t 20,.t 21]),o_ 23 (.un .not (.t 22))] false [3,4,5,6,23]) (zmm)) (zlo)
def zlm:ACode:=.seq (.seq (.reg 0 [o_ 12 (.faddr 9 0 0 (.t 5)),o_ 13 (.load 7 false 1 (.t 12)),o_ 14 (.bin .geq .other 7 (.t 13) (.c (.int .u8 35)))] false [3,4,5,6,7,14]) (zmo)) (zln)
def zll:ACode:=.seq (.reg 0 [o_ 9 (.faddr 47 2 9 (.t 3)),o_ 10 (.load 36 false 1 (.t 9)),o_ 11 (.len 36 (.t 10)),o_ 7 (.asg (.t 11))] false [3,4,5,6,7]) (zlm)
def zlk:ACode:=.seq (.reg 4 [o_ 3 (.box 0 47 (.t 0)),o_ 4 (.box 1 48 (.t 1)),o_ 5 (.box 2 9 (.t 2)),o_ 6 (.alloc 3 48 [.nils,.int .i64 0,.bool false,.bool false,.int .i64 0,.bool false])] false [3,4,5,6]) (zll)
def ziV:AFun:={ nt:=97,res:=[.cell 6 48 true 6],code:=(zlk) }
def zqO:ACode:=.seq (.reg 0 [o_ 69 (.load 48 true 6 (.t 4)),⟨none,.store 48 6 (.t 6) (.t 69),none⟩] false [6]) (.ret)
def zqN:ACode:=.cond (.t 67) (.seq (.reg 0 [o_ 68 (.faddr 48 5 5 (.t 4)),⟨none,.store 12 1 (.t 68) (.c (.bool false)),none⟩] false [4,6]) (zqO)) (.skip)
def zqM:ACode:=.reg 0 [o_ 79 (.mov (.t 16)),o_ 80 (.bin .add .other 13 (.t 79) (.c (.int .u32 1))),o_ 16 (.asg (.t 80))] false [4,5,6,7,8,12,15,16]
def zqL:ACode:=.seq (.block 1 (.reg 0 [o_ 81 (.mov (.t 15)),o_ 82 (.bin .mul .other 2 (.c (.int .i64 2)) (.t 81)),o_ 15 (.asg (.t 82))] false [4,5,6,7,8,12,15,16])) (zqM)
def zqK:ACode:=.seq (.seq (.reg 0 [o_ 71 (.mov (.t 16)),o_ 72 (.faddr 9 2 2 (.t 5)),o_ 73 (.load 13 false 1 (.t 72)),o_ 74 (.bin .lss .other 13 (.t 71) (.t 73)),o_ 75 (.mov (.t 74)),p_ 76 (.mov (.t 15)) 4 75 true,p_ 77 (.bin .leq .other 2 (.t 76) (.c (.int .i64 8))) 4 75 true,o_ 78 (.pick (.t 75) (.t 77) (.c (.bool false)))] false [4,5,6,7,8,12,15,16,78]) (.cond (.t 78) (.skip) (.exit 0))) (zqL)
def zqJ:ACode:=.reg 0 [o_ 83 (.faddr 48 5 5 (.t 4)),o_ 84 (.load 12 false 1 (.t 83)),o_ 85 (.mov (.t 84)),p_ 86 (.mov (.t 15)) 2 85 true,p_ 87 (.mov (.t 12)) 2 85 true,p_ 88 (.bin .leq .other 2 (.t 86) (.t 87)) 2 85 true,o_ 89 (.pick (.t 85) (.t 88) (.c (.bool false))),o_ 90 (.faddr 48 5 5 (.t 4)),⟨none,.store 12 1 (.t 90) (.t 89),none⟩] false [4,6,7,8]
def zqI:ACode:=.seq (.seq (.reg 0 [o_ 16 (.asg (.c (.int .u32 0)))] false [4,5,6,7,8,12,15,16]) (.block 0 (.loop (zqK)))) (zqJ)
def zqH:ACode:=.cond (.t 70) (.seq (.reg 0 [o_ 15 (.asg (.c (.int .i64 1)))] false [4,5,6,7,8,12,15]) (zqI)) (.skip)
def zqG:ACode:=.seq (.reg 0 [o_ 91 (.load 48 true 6 (.t 4)),o_ 92 (.mov (.t 7)),o_ 93 (.mov (.t 8)),o_ 94 (.build 35 [.nils,.int .u8 0] [(0,0,1,.t 92),(1,1,1,.t 93)]),o_ 95 (.callp 60 [.t 91,.t 94]),⟨none,.store 48 6 (.t 6) (.t 95),none⟩] false [6]) (.ret)
def zow:ACode:=.seq (.seq (.reg 0 [o_ 70 (.mov (.t 14))] false [4,5,6,7,8,12,70]) (zqH)) (zqG)
def zov:ACode:=.seq (.seq (.reg 0 [o_ 37 (.mov (.t 9)),o_ 38 (.un .not (.t 37)),o_ 39 (.mov (.t 38)),p_ 40 (.mov (.t 10)) 2 39 false,p_ 41 (.bin .eql .other 2 (.t 40) (.c (.int .i64 4))) 2 39 false,p_ 42 (.mov (.t 41)) 2 39 false,p_ 43 (.mov (.t 10)) 5 42 false,p_ 44 (.bin .eql .other 2 (.t 43) (.c (.int .i64 5))) 5 42 false,p_ 45 (.pick (.t 42) (.c (.bool true)) (.t 44)) 2 39 false,p_ 46 (.mov (.t 45)) 2 39 false,p_ 47 (.faddr 47 0 0 (.t 3)) 9 46 true,p_ 48 (.faddr 0 3 3 (.t 47)) 9 46 true,p_ 49 (.load 30 false 1 (.t 48)) 9 46 true,p_ 50 (.len 30 (.t 49)) 9 46 true,p_ 51 (.bin .eql .other 2 (.t 50) (.c (.int .i64 0))) 9 46 true,p_ 52 (.pick (.t 46) (.t 51) (.c (.bool false))) 2 39 false,o_ 53 (.pick (.t 39) (.c (.bool true)) (.t 52)),o_ 54 (.mov (.t 53)),p_ 55 (.mov (.t 10)) 17 54 false,p_ 56 (.bin .eql .other 2 (.t 55) (.c (.int .i64 1))) 17 54 false,p_ 57 (.mov (.t 56)) 17 54 false,p_ 58 (.faddr 9 1 1 (.t 5)) 20 57 true,p_ 59 (.load 27 false 1 (.t 58)) 20 57 true,p_ 60 (.bin .lss .other 27 (.t 59) (.c (.int .i64 (-2147483648)))) 20 57 true,p_ 61 (.mov (.t 60)) 20 57 true,p_ 62 (.faddr 9 1 1 (.t 5)) 24 61 false,p_ 63 (.load 27 false 1 (.t 62)) 24 61 false,p_ 64 (.bin .geq .other 27 (.t 63) (.c (.int .i64 2147483648))) 24 61 false,p_ 65 (.pick (.t 61) (.c (.bool true)) (.t 64)) 20 57 true,p_ 66 (.pick (.t 57) (.t 65) (.c (.bool false))) 17 54 false,o_ 67 (.pick (.t 54) (.c (.bool true)) (.t 66))] false [4,5,6,7,8,12,14,67]) (zqN)) (zow)
def zou:ACode:=.seq (.reg 0 [o_ 31 (.faddr 9 0 0 (.t 5)),o_ 32 (.load 7 false 1 (.t 31)),o_ 33 (.callp 63 [.t 32]),o_ 30 (.mov (.t 33)),o_ 34 (.ext (.t 30) 0),o_ 35 (.ext (.t 30) 1),o_ 36 (.ext (.t 30) 2),o_ 12 (.asg (.t 34)),o_ 13 (.asg (.t 35)),o_ 14 (.asg (.t 36))] false [3,4,5,6,7,8,9,10,12,14]) (zov)
def zot:ACode:=.seq (.reg 0 [o_ 25 (.faddr 9 0 0 (.t 5)),o_ 26 (.load 7 false 1 (.t 25)),o_ 27 (.callp 62 [.t 26]),o_ 24 (.mov (.t 27)),o_ 28 (.ext (.t 24) 0),o_ 29 (.ext (.t 24) 1),o_ 10 (.asg (.t 28)),o_ 11 (.asg (.t 29))] false [3,4,5,6,7,8,9,10]) (zou)
def zos:ACode:=.seq (.reg 0 [o_ 18 (.faddr 9 0 0 (.t 5)),o_ 19 (.load 7 false 1 (.t 18)),o_ 20 (.callp 61 [.t 19]),o_ 17 (.mov (.t 20)),o_ 21 (.ext (.t 17) 0),o_ 22 (.ext (.t 17) 1),o_ 23 (.ext (.t 17) 2),o_ 7 (.asg (.t 21)),o_ 8 (.asg (.t 22)),o_ 9 (.asg (.t 23))] false [3,4,5,6,7,8,9]) (zot)
def zor:ACode:=.seq (.reg 4 [o_ 3 (.box 0 47 (.t 0)),o_ 4 (.box 1 48 (.t 1)),o_ 5 (.box 2 9 (.t 2)),o_ 6 (.alloc 3 48 [.nils,.int .i64 0,.bool false,.bool false,.int .i64 0,.bool false])] false [3,4,5,6]) (zos)
def zmT:AFun:={ nt:=96,res:=[.cell 6 48 true 6],code:=(zor) }
def zmN:ACode:=.seq (.reg 0 [o_ 3 (.mov (.t 0)),o_ 4 (.bin .eql .other 51 (.t 3) (.c (.int .u8 0))),o_ 5 (.mov (.t 4)),p_ 6 (.mov (.t 0)) 2 5 false,p_ 7 (.callp 50 [.t 6]) 2 5 false,p_ 8 (.un .not (.t 7)) 2 5 false,o_ 9 (.pick (.t 5) (.c (.bool true)) (.t 8)),o_ 2 (.asg (.t 9))] false [2]) (.ret)
def zmM:ACode:=.seq (.reg 0 [o_ 2 (.asg (.c (.bool false)))] false [0]) (zmN)
def zfx:AFun:={ nt:=10,res:=[.t 2],code:=(zmM) }
def znE:ACode:=.seq (.reg 0 [o_ 3 (.mov (.t 0)),o_ 4 (.bin .eql .other 51 (.t 3) (.c (.int .u8 0))),o_ 5 (.mov (.t 4)),p_ 6 (.mov (.t 0)) 2 5 false,p_ 7 (.bin .eql .other 51 (.t 6) (.c (.int .u8 127))) 2 5 false,o_ 8 (.pick (.t 5) (.c (.bool true)) (.t 7)),o_ 9 (.mov (.t 8)),p_ 10 (.mov (.t 0)) 6 9 false,p_ 11 (.bin .eql .other 51 (.t 10) (.c (.int .u8 126))) 6 9 false,o_ 12 (.pick (.t 9) (.c (.bool true)) (.t 11)),o_ 2 (.asg (.t 12))] false [2]) (.ret)
def znD:ACode:=.seq (.reg 0 [o_ 2 (.asg (.c (.bool false)))] false [0]) (znE)
def zgO:AFun:={ nt:=13,res:=[.t 2],code:=(znD) }
def zcS:ACode:=.seq (.reg 0 [o_ 5 (.mov (.t 0)),o_ 6 (.mov (.t 1)),o_ 7 (.callp 66 [.t 5,.t 6]),o_ 8 (.bin .geq .other 2 (.t 7) (.c (.int .i64 0))),o_ 4 (.asg (.t 8))] false [4]) (.ret)
def zcR:ACode:=.seq (.reg 0 [o_ 4 (.asg (.c (.bool false)))] false [0,1]) (zcS)
def zaQ:AFun:={ nt:=9,res:=[.t 4],code:=(zcR) }
def zch:ACode:=.seq (.reg 0 [o_ 5 (.mov (.t 0)),o_ 6 (.mov (.t 1)),o_ 7 (.callp 67 [.t 5,.t 6]),o_ 8 (.bin .geq .other 2 (.t 7) (.c (.int .i64 0))),o_ 4 (.asg (.t 8))] false [4]) (.ret)
def zcg:ACode:=.seq (.reg 0 [o_ 4 (.asg (.c (.bool false)))] false [0,1]) (zch)
def zaL:AFun:={ nt:=9,res:=[.t 4],code:=(zcg) }
def zmL:ACode:=.seq (.reg 0 [o_ 4 (.load 57 false 1 (.t 1)),o_ 5 (.faddr 21 0 0 (.t 2)),o_ 6 (.load 51 false 1 (.t 5)),o_ 7 (.callv (.t 4) [.t 6]),o_ 3 (.asg (.t 7))] false [3]) (.ret)
def zmK:ACode:=.seq (.reg 1 [o_ 2 (.box 0 21 (.t 0)),o_ 3 (.asg (.c (.bool false)))] false [1,2]) (zmL)
def zfw:AFun:={ nt:=8,res:=[.t 3],code:=(zmK) }
def zep:ACode:=.cond (.t 16) (.seq (.reg 0 [o_ 17 (.mov (.t 5)),o_ 4 (.asg (.t 17))] false [4]) (.ret)) (.skip)
def zeo:ACode:=.seq (.reg 0 [o_ 11 (.mov (.t 1)),o_ 12 (.mov (.t 0)),o_ 13 (.mov (.t 5)),o_ 14 (.iaddr 23 1 (.t 12) (.t 13)),o_ 15 (.load 13 false 1 (.t 14)),o_ 16 (.callv (.t 11) [.t 15])] false [0,1,5,7,8,16]) (zep)
def zen:ACode:=.reg 0 [o_ 18 (.bin .add .other 2 (.t 8) (.c (.int .i64 1))),o_ 8 (.mov (.t 18))] false [0,1,7,8]
def zem:ACode:=.seq (.block 1 (.seq (.reg 0 [o_ 10 (.mov (.t 8)),o_ 5 (.asg (.t 10))] false [0,1,5,7,8]) (zeo))) (zen)
def zel:ACode:=.seq (.cond (.t 9) (.skip) (.exit 0)) (zem)
def zek:ACode:=.seq (.reg 0 [o_ 9 (.bin .lss .other 2 (.t 8) (.t 7))] false [0,1,7,8,9]) (zel)
def zej:ACode:=.seq (.seq (.reg 0 [o_ 6 (.mov (.t 0)),o_ 7 (.len 23 (.t 6)),o_ 8 (.mov (.c (.int .i64 0)))] false [0,1,7,8]) (.block 0 (.loop (zek)))) (.seq (.reg 0 [o_ 4 (.asg (.c (.int .i64 (-1))))] false [4]) (.ret))
def zei:ACode:=.seq (.reg 0 [o_ 4 (.asg (.c (.int .i64 0)))] false [0,1]) (zej)
def zcc:AFun:={ nt:=19,res:=[.t 4],code:=(zei) }
def zeB:ACode:=.cond (.t 6) (.reg 0 [o_ 7 (.mkif 39 (.c (.str ⟨#[99,97,110,110,111,116,32,98,101,32,110,101,103,97,116,105,118,101]⟩))),⟨none,.x (.pan (.t 7)),none⟩] false [0,1]) (.skip)
def zeA:ACode:=.cond (.t 16) (.reg 1 [o_ 17 (.mov (.t 0)),o_ 18 (.mov (.t 0)),o_ 19 (.x (.cap 50 (.t 18))),o_ 20 (.slc 50 1 (.t 17) none (some (.t 19))),o_ 21 (.mov (.t 1)),o_ 22 (.x (.appZ 0 50 2 1 [.int .u8 0] (.t 20) (.t 21))),o_ 23 (.mov (.t 0)),o_ 24 (.len 50 (.t 23)),o_ 25 (.slc 50 1 (.t 22) none (some (.t 24))),o_ 0 (.asg (.t 25))] false [0]) (.skip)
def zez:ACode:=.seq (.reg 0 [o_ 15 (.mov (.t 1)),o_ 16 (.bin .gtr .other 2 (.t 15) (.c (.int .i64 0)))] false [0,1,16]) (zeA)
def zey:ACode:=.seq (.reg 0 [o_ 26 (.mov (.t 0)),o_ 4 (.asg (.t 26))] false [4]) (.ret)
def zex:ACode:=.seq (.seq (.reg 0 [o_ 8 (.mov (.t 1)),o_ 9 (.mov (.t 0)),o_ 10 (.x (.cap 50 (.t 9))),o_ 11 (.mov (.t 0)),o_ 12 (.len 50 (.t 11)),o_ 13 (.bin .sub .other 2 (.t 10) (.t 12)),o_ 14 (.bin .sub .other 2 (.t 8) (.t 13)),o_ 1 (.asg (.t 14))] false [0,1]) (zez)) (zey)
def zew:ACode:=.seq (.seq (.reg 0 [o_ 5 (.mov (.t 1)),o_ 6 (.bin .lss .other 2 (.t 5) (.c (.int .i64 0)))] false [0,1,6]) (zeB)) (zex)
def zev:ACode:=.seq (.reg 0 [o_ 4 (.asg (.c .nils))] false [0,1]) (zew)
def zbC:AFun:={ nt:=27,res:=[.t 4],code:=(zev) }
def zgu:ACode:=.cond (.t 17) (.skip) (.reg 0 [o_ 19 (.bin .eql .other 7 (.t 7) (.c (.int .u8 3))),o_ 17 (.asg (.t 19))] false [0,3,7,17])
def zgt:ACode:=.cond (.t 37) (.reg 0 [o_ 4 (.asg (.c (.int .u8 0)))] false [0,3,4]) (.skip)
def zgs:ACode:=.reg 0 [o_ 45 (.mov (.t 0)),o_ 46 (.faddr 3 4 4 (.t 3)),o_ 47 (.load 51 false 1 (.t 46)),o_ 48 (.calls 71 [.t 45,.t 47])] false []
def zgr:ACode:=.seq (.reg 0 [o_ 38 (.mov (.t 0)),o_ 39 (.faddr 3 5 5 (.t 3)),o_ 40 (.load 4 false 1 (.t 39)),o_ 41 (.faddr 3 4 4 (.t 3)),o_ 42 (.load 51 false 1 (.t 41)),o_ 43 (.mov (.t 4)),o_ 44 (.calls 70 [.t 38,.t 40,.t 42,.t 43])] false [0,3]) (zgs)
def zgq:ACode:=.seq (.seq (.reg 0 [o_ 35 (.faddr 3 0 0 (.t 3)),o_ 36 (.load 7 false 1 (.t 35)),o_ 37 (.bin .eql .other 7 (.t 36) (.c (.int .u8 3)))] false [0,3,4,37]) (zgt)) (zgr)
def zgp:ACode:=.seq (.reg 0 [o_ 33 (.faddr 3 4 4 (.t 3)),o_ 34 (.load 51 false 1 (.t 33)),o_ 4 (.asg (.t 34))] false [0,3,4]) (zgq)
def zgo:ACode:=.reg 0 [o_ 82 (.mov (.t 0)),o_ 83 (.faddr 3 4 4 (.t 3)),o_ 84 (.load 51 false 1 (.t 83)),o_ 85 (.calls 71 [.t 82,.t 84])] false []
def zgn:ACode:=.seq (.reg 0 [o_ 74 (.mov (.t 0)),o_ 75 (.faddr 3 6 6 (.t 3)),o_ 76 (.load 4 false 1 (.t 75)),o_ 77 (.faddr 3 4 4 (.t 3)),o_ 78 (.load 51 false 1 (.t 77)),o_ 79 (.faddr 3 4 4 (.t 3)),o_ 80 (.load 51 false 1 (.t 79)),o_ 81 (.calls 70 [.t 74,.t 76,.t 78,.t 80])] false [0,3]) (zgo)
def zgm:ACode:=.seq (.reg 0 [o_ 66 (.mov (.t 0)),o_ 67 (.faddr 3 5 5 (.t 3)),o_ 68 (.load 4 false 1 (.t 67)),o_ 69 (.faddr 3 4 4 (.t 3)),o_ 70 (.load 51 false 1 (.t 69)),o_ 71 (.faddr 3 4 4 (.t 3)),o_ 72 (.load 51 false 1 (.t 71)),o_ 73 (.calls 70 [.t 66,.t 68,.t 70,.t 72])] false [0,3]) (zgn)
def zfX:ACode:=.seq (.reg 0 [o_ 64 (.mov (.t 0)),o_ 65 (.calls 40 [.t 64,.c (.int .u8 127)])] false [0,3]) (zgm)
def zfW:ACode:=.reg 0 [o_ 94 (.mov (.t 0)),o_ 95 (.calls 69 [.t 94])] false []
def zfV:ACode:=.reg 0 [o_ 107 (.mov (.t 0)),o_ 108 (.mov (.t 5)),o_ 109 (.calls 71 [.t 107,.t 108])] false []
def zfU:ACode:=.seq (.reg 0 [o_ 104 (.mov (.t 0)),o_ 105 (.mov (.t 5)),o_ 106 (.calls 40 [.t 104,.t 105])] false [0,5]) (zfV)
def zfT:ACode:=.seq (.reg 0 [o_ 100 (.mov (.t 0)),o_ 101 (.faddr 3 1 1 (.t 3)),o_ 102 (.load 27 false 1 (.t 101)),o_ 103 (.calls 72 [.t 100,.t 102]),o_ 5 (.asg (.t 103))] false [0,5]) (zfU)
def zfS:ACode:=.reg 0 [o_ 124 (.mov (.t 0)),o_ 125 (.calls 69 [.t 124])] false []
def zfR:ACode:=.reg 0 [o_ 154 (.mov (.t 0)),o_ 155 (.mov (.t 0)),o_ 156 (.faddr 3 1 1 (.t 3)),o_ 157 (.load 27 false 1 (.t 156)),o_ 158 (.calls 76 [.t 155,.t 157]),o_ 159 (.calls 75 [.t 154,.t 158])] false []
def zfQ:ACode:=.seq (.reg 0 [o_ 152 (.mov (.t 0)),o_ 153 (.calls 40 [.t 152,.c (.int .u8 127)])] false [0,3]) (zfR)
def zfP:ACode:=.cond (.t 134) (.seq (.reg 0 [o_ 136 (.mov (.t 0)),o_ 137 (.mov (.t 0)),o_ 138 (.nilchk (.t 137)),o_ 139 (.faddr 46 7 15 (.t 138)),o_ 140 (.load 12 false 1 (.t 139)),o_ 141 (.mov (.t 140)),p_ 142 (.mov (.t 0)) 5 141 false,p_ 143 (.nilchk (.t 142)) 5 141 false,p_ 144 (.faddr 46 0 0 (.t 143)) 5 141 false,p_ 145 (.faddr 1 2 2 (.t 144)) 5 141 false,p_ 146 (.load 18 false 1 (.t 145)) 5 141 false,p_ 147 (.len 18 (.t 146)) 5 141 false,p_ 148 (.bin .eql .other 2 (.t 147) (.c (.int .i64 0))) 5 141 false,o_ 149 (.pick (.t 141) (.c (.bool true)) (.t 148)),o_ 150 (.nilchk (.t 136)),o_ 151 (.faddr 46 7 15 (.t 150)),⟨none,.store 12 1 (.t 151) (.t 149),none⟩] false [0,3]) (zfQ)) (.reg 0 [o_ 8 (.mov (.t 0)),o_ 9 (.nilchk (.t 8)),o_ 10 (.faddr 46 7 15 (.t 9)),⟨none,.store 12 1 (.t 10) (.c (.bool true)),none⟩] false [])
def zfO:ACode:=.cond (.t 126) (.reg 0 [o_ 128 (.mov (.t 0)),o_ 129 (.mov (.t 0)),o_ 130 (.faddr 3 1 1 (.t 3)),o_ 131 (.load 27 false 1 (.t 130)),o_ 132 (.calls 74 [.t 129,.t 131]),o_ 133 (.calls 75 [.t 128,.t 132])] false []) (.seq (.reg 0 [o_ 135 (.bin .eql .other 7 (.t 7) (.c (.int .u8 17))),o_ 134 (.asg (.t 135))] false [0,3,134]) (zfP))
def zfN:ACode:=.cond (.t 115) (.seq (.reg 0 [o_ 117 (.mov (.t 0)),o_ 118 (.mov (.t 0)),o_ 119 (.nilchk (.t 118)),o_ 120 (.faddr 46 1 8 (.t 119)),o_ 121 (.faddr 43 1 1 (.t 120)),o_ 122 (.load 51 false 1 (.t 121)),o_ 123 (.calls 40 [.t 117,.t 122])] false [0]) (zfS)) (.seq (.reg 0 [o_ 127 (.bin .eql .other 7 (.t 7) (.c (.int .u8 16))),o_ 126 (.asg (.t 127))] false [0,3,7,126]) (zfO))
def zfM:ACode:=.cond (.t 110) (.reg 0 [o_ 112 (.mov (.t 0)),o_ 113 (.load 3 true 8 (.t 3)),o_ 114 (.calls 73 [.t 112,.t 113])] false []) (.seq (.reg 0 [o_ 116 (.bin .eql .other 7 (.t 7) (.c (.int .u8 15))),o_ 115 (.asg (.t 116))] false [0,3,7,115]) (zfN))
def zfL:ACode:=.cond (.t 96) (.seq (.reg 0 [o_ 98 (.mov (.t 0)),o_ 99 (.calls 40 [.t 98,.c (.int .u8 127)])] false [0,3]) (zfT)) (.seq (.reg 0 [o_ 111 (.bin .eql .other 7 (.t 7) (.c (.int .u8 14))),o_ 110 (.asg (.t 111))] false [0,3,7,110]) (zfM))
def zfK:ACode:=.cond (.t 86) (.seq (.reg 0 [o_ 88 (.mov (.t 0)),o_ 89 (.mov (.t 0)),o_ 90 (.faddr 3 1 1 (.t 3)),o_ 91 (.load 27 false 1 (.t 90)),o_ 92 (.calls 72 [.t 89,.t 91]),o_ 93 (.calls 40 [.t 88,.t 92])] false [0]) (zfW)) (.seq (.reg 0 [o_ 97 (.bin .eql .other 7 (.t 7) (.c (.int .u8 13))),o_ 96 (.asg (.t 97))] false [0,3,7,96]) (zfL))
def zfJ:ACode:=.cond (.t 49) (.seq (.reg 0 [o_ 51 (.mov (.t 0)),o_ 52 (.mov (.t 0)),o_ 53 (.nilchk (.t 52)),o_ 54 (.faddr 46 7 15 (.t 53)),o_ 55 (.load 12 false 1 (.t 54)),o_ 56 (.mov (.t 55)),p_ 57 (.faddr 3 4 4 (.t 3)) 5 56 false,p_ 58 (.load 51 false 1 (.t 57)) 5 56 false,p_ 59 (.callp 50 [.t 58]) 5 56 false,p_ 60 (.un .not (.t 59)) 5 56 false,o_ 61 (.pick (.t 56) (.c (.bool true)) (.t 60)),o_ 62 (.nilchk (.t 51)),o_ 63 (.faddr 46 7 15 (.t 62)),⟨none,.store 12 1 (.t 63) (.t 61),none⟩] false [0,3]) (zfX)) (.seq (.reg 0 [o_ 87 (.bin .eql .other 7 (.t 7) (.c (.int .u8 12))),o_ 86 (.asg (.t 87))] false [0,3,7,86]) (zfK))
def zfI:ACode:=.cond (.t 17) (.seq (.reg 0 [o_ 20 (.mov (.t 0)),o_ 21 (.mov (.t 0)),o_ 22 (.nilchk (.t 21)),o_ 23 (.faddr 46 7 15 (.t 22)),o_ 24 (.load 12 false 1 (.t 23)),o_ 25 (.mov (.t 24)),p_ 26 (.faddr 3 4 4 (.t 3)) 5 25 false,p_ 27 (.load 51 false 1 (.t 26)) 5 25 false,p_ 28 (.callp 50 [.t 27]) 5 25 false,p_ 29 (.un .not (.t 28)) 5 25 false,o_ 30 (.pick (.t 25) (.c (.bool true)) (.t 29)),o_ 31 (.nilchk (.t 20)),o_ 32 (.faddr 46 7 15 (.t 31)),⟨none,.store 12 1 (.t 32) (.t 30),none⟩] false [0,3]) (zgp)) (.seq (.reg 0 [o_ 50 (.bin .eql .other 7 (.t 7) (.c (.int .u8 4))),o_ 49 (.asg (.t 50))] false [0,3,7,49]) (zfJ))
def zfH:ACode:=.cond (.t 15) (.skip) (.seq (.seq (.reg 0 [o_ 18 (.bin .eql .other 7 (.t 7) (.c (.int .u8 2))),o_ 17 (.asg (.t 18))] false [0,3,7,17]) (zgu)) (zfI))
def zfG:ACode:=.cond (.t 11) (.reg 0 [o_ 13 (.mov (.t 0)),o_ 14 (.calls 69 [.t 13])] false []) (.seq (.reg 0 [o_ 16 (.bin .eql .other 7 (.t 7) (.c (.int .u8 1))),o_ 15 (.asg (.t 16))] false [0,3,7,15]) (zfH))
def zfF:ACode:=.block 0 (.seq (.reg 0 [o_ 12 (.bin .eql .other 7 (.t 7) (.c (.int .u8 0))),o_ 11 (.asg (.t 12))] false [0,3,7,11]) (zfG))
def zfE:ACode:=.seq (.reg 0 [o_ 6 (.faddr 3 0 0 (.t 3)),o_ 7 (.load 7 false 1 (.t 6))] false [0,3,7]) (zfF)
def zfD:ACode:=.seq (.reg 1 [o_ 3 (.box 0 3 (.t 1))] false [0,3]) (zfE)
def zcx:AFun:={ nt:=160,res:=[],code:=(zfD) }
def zhb:ACode:=.reg 0 [o_ 22 (.mov (.t 0)),o_ 23 (.mov (.t 0)),o_ 24 (.mov (.t 4)),o_ 25 (.calls 40 [.t 23,.t 24]),o_ 26 (.calls 71 [.t 22,.t 25])] false []
def zha:ACode:=.seq (.reg 0 [o_ 20 (.mov (.t 0)),o_ 21 (.calls 40 [.t 20,.c (.int .u8 1)]),o_ 4 (.asg (.t 21))] false [0,4]) (zhb)
def zgZ:ACode:=.reg 0 [o_ 52 (.mov (.t 0)),o_ 53 (.mov (.t 5)),o_ 54 (.calls 71 [.t 52,.t 53])] false []
def zgY:ACode:=.seq (.reg 0 [o_ 49 (.mov (.t 0)),o_ 50 (.mov (.t 5)),o_ 51 (.calls 40 [.t 49,.t 50])] false [0,5]) (zgZ)
def zgX:ACode:=.reg 0 [o_ 82 (.mov (.t 0)),o_ 83 (.faddr 21 0 0 (.t 6)),o_ 84 (.load 51 false 1 (.t 83)),o_ 85 (.calls 40 [.t 82,.t 84])] false []
def zgW:ACode:=.seq (.reg 0 [o_ 70 (.mov (.t 0)),o_ 71 (.mov (.t 0)),o_ 72 (.nilchk (.t 71)),o_ 73 (.faddr 46 7 15 (.t 72)),o_ 74 (.load 12 false 1 (.t 73)),o_ 75 (.mov (.t 74)),p_ 76 (.faddr 21 1 1 (.t 6)) 5 75 false,p_ 77 (.load 12 false 1 (.t 76)) 5 75 false,p_ 78 (.un .not (.t 77)) 5 75 false,o_ 79 (.pick (.t 75) (.c (.bool true)) (.t 78)),o_ 80 (.nilchk (.t 70)),o_ 81 (.faddr 46 7 15 (.t 80)),⟨none,.store 12 1 (.t 81) (.t 79),none⟩] false [0,6]) (zgX)
def zgV:ACode:=.cond (.t 64) (.seq (.reg 1 [o_ 66 (.mov (.t 0)),o_ 67 (.faddr 3 1 1 (.t 3)),o_ 68 (.load 27 false 1 (.t 67)),o_ 69 (.calls 78 [.t 66,.t 68]),o_ 6 (.alloc 0 21 [.int .u8 0,.bool false,.int .u8 0,.int .i64 0,.int .u32 0,.int .u32 0,.int .u8 0,.nils,.nils,.nils]),⟨none,.store 21 10 (.t 6) (.t 69),none⟩] false [0,6]) (zgW)) (.reg 0 [o_ 9 (.mov (.t 0)),o_ 10 (.load 3 true 8 (.t 3)),o_ 11 (.calls 79 [.t 9,.t 10])] false [])
def zgU:ACode:=.cond (.t 55) (.reg 0 [o_ 57 (.mov (.t 0)),o_ 58 (.mov (.t 0)),o_ 59 (.faddr 3 1 1 (.t 3)),o_ 60 (.load 27 false 1 (.t 59)),o_ 61 (.calls 78 [.t 58,.t 60]),o_ 62 (.fld 21 0 0 false 1 (.t 61)),o_ 63 (.calls 71 [.t 57,.t 62])] false []) (.seq (.reg 0 [o_ 65 (.bin .eql .other 7 (.t 8) (.c (.int .u8 36))),o_ 64 (.asg (.t 65))] false [0,3,64]) (zgV))
def zgT:ACode:=.cond (.t 43) (.seq (.reg 0 [o_ 45 (.mov (.t 0)),o_ 46 (.faddr 3 1 1 (.t 3)),o_ 47 (.load 27 false 1 (.t 46)),o_ 48 (.calls 77 [.t 45,.t 47]),o_ 5 (.asg (.t 48))] false [0,5]) (zgY)) (.seq (.reg 0 [o_ 56 (.bin .eql .other 7 (.t 8) (.c (.int .u8 35))),o_ 55 (.asg (.t 56))] false [0,3,8,55]) (zgU))
def zgl:ACode:=.cond (.t 35) (.reg 0 [o_ 37 (.mov (.t 0)),o_ 38 (.mov (.t 0)),o_ 39 (.faddr 3 1 1 (.t 3)),o_ 40 (.load 27 false 1 (.t 39)),o_ 41 (.calls 77 [.t 38,.t 40]),o_ 42 (.calls 40 [.t 37,.t 41])] false []) (.seq (.reg 0 [o_ 44 (.bin .eql .other 7 (.t 8) (.c (.int .u8 34))),o_ 43 (.asg (.t 44))] false [0,3,8,43]) (zgT))
def zgk:ACode:=.cond (.t 27) (.reg 0 [o_ 29 (.mov (.t 0)),o_ 30 (.mov (.t 0)),o_ 31 (.faddr 3 1 1 (.t 3)),o_ 32 (.load 27 false 1 (.t 31)),o_ 33 (.calls 77 [.t 30,.t 32]),o_ 34 (.calls 71 [.t 29,.t 33])] false []) (.seq (.reg 0 [o_ 36 (.bin .eql .other 7 (.t 8) (.c (.int .u8 33))),o_ 35 (.asg (.t 36))] false [0,3,8,35]) (zgl))
def zgj:ACode:=.cond (.t 16) (.seq (.reg 0 [o_ 18 (.mov (.t 0)),o_ 19 (.calls 40 [.t 18,.c (.int .u8 127)])] false [0]) (zha)) (.seq (.reg 0 [o_ 28 (.bin .eql .other 7 (.t 8) (.c (.int .u8 32))),o_ 27 (.asg (.t 28))] false [0,3,8,27]) (zgk))
def zgi:ACode:=.cond (.t 12) (.reg 0 [o_ 14 (.mov (.t 0)),o_ 15 (.calls 40 [.t 14,.c (.int .u8 1)])] false []) (.seq (.reg 0 [o_ 17 (.bin .eql .other 7 (.t 8) (.c (.int .u8 27))),o_ 16 (.asg (.t 17))] false [0,3,8,16]) (zgj))
def zgh:ACode:=.block 0 (.seq (.reg 0 [o_ 13 (.bin .eql .other 7 (.t 8) (.c (.int .u8 26))),o_ 12 (.asg (.t 13))] false [0,3,8,12]) (zgi))
def zgg:ACode:=.seq (.reg 0 [o_ 7 (.faddr 3 0 0 (.t 3)),o_ 8 (.load 7 false 1 (.t 7))] false [0,3,8]) (zgh)
def zgf:ACode:=.seq (.reg 1 [o_ 3 (.box 0 3 (.t 1))] false [0,3]) (zgg)
def zcU:AFun:={ nt:=86,res:=[],code:=(zgf) }
def zrx:ACode:=.seq (.reg 0 [o_ 59 (.load 48 true 6 (.t 6)),⟨none,.store 48 6 (.t 10) (.t 59),none⟩] false [10]) (.ret)
def zrw:ACode:=.seq (.reg 0 [o_ 47 (.faddr 48 4 4 (.t 12)),o_ 48 (.load 2 false 1 (.t 47)),o_ 49 (.faddr 48 5 5 (.t 12)),o_ 50 (.load 12 false 1 (.t 49)),o_ 51 (.mov (.t 50)),p_ 52 (.faddr 48 0 0 (.t 12)) 4 51 true,p_ 53 (.load 100036 false 1 (.t 52)) 4 51 true,p_ 54 (.len 36 (.t 53)) 4 51 true,p_ 55 (.bin .eql .other 2 (.t 54) (.c (.int .i64 0))) 4 51 true,o_ 56 (.pick (.t 51) (.t 55) (.c (.bool false))),o_ 57 (.faddr 48 4 4 (.t 6)),⟨none,.store 100002 1 (.t 57) (.t 48),none⟩,o_ 58 (.faddr 48 5 5 (.t 6)),⟨none,.store 12 1 (.t 58) (.t 56),none⟩] true [6,10]) (zrx)
def zrv:ACode:=.seq (.reg 0 [o_ 42 (.load 48 true 6 (.t 12)),o_ 43 (.mov (.t 3)),o_ 44 (.callp 27 [.t 42,.t 43]),o_ 41 (.mov (.t 44)),o_ 45 (.ext (.t 41) 0),o_ 46 (.ext (.t 41) 1),⟨none,.store 48 6 (.t 12) (.t 45),none⟩] false [6,10,12]) (zrw)
def zru:ACode:=.seq (.reg 1 [o_ 21 (.load 47 true 11 (.t 5)),o_ 22 (.faddr 48 1 1 (.t 6)),o_ 23 (.load 2 false 1 (.t 22)),o_ 24 (.faddr 48 0 0 (.t 6)),o_ 25 (.load 36 false 1 (.t 24)),o_ 26 (.len 36 (.t 25)),o_ 27 (.bin .add .other 2 (.t 23) (.t 26)),o_ 28 (.faddr 48 2 2 (.t 6)),o_ 29 (.load 12 false 1 (.t 28)),o_ 30 (.mov (.t 29)),p_ 31 (.faddr 48 3 3 (.t 6)) 9 30 false,p_ 32 (.load 12 false 1 (.t 31)) 9 30 false,o_ 33 (.pick (.t 30) (.c (.bool true)) (.t 32)),o_ 34 (.faddr 48 4 4 (.t 6)),o_ 35 (.load 2 false 1 (.t 34)),o_ 36 (.faddr 48 5 5 (.t 6)),o_ 37 (.load 12 false 1 (.t 36)),o_ 38 (.build 48 [.nils,.int .i64 0,.bool false,.bool false,.int .i64 0,.bool false] [(1,1,1,.t 27),(3,3,1,.t 33),(4,4,1,.t 35),(5,5,1,.t 37)]),o_ 39 (.mov (.t 2)),o_ 40 (.callp 26 [.t 21,.t 38,.t 39]),o_ 12 (.alloc 0 48 [.nils,.int .i64 0,.bool false,.bool false,.int .i64 0,.bool false]),⟨none,.store 48 6 (.t 12) (.t 40),none⟩] false [3,6,10,12]) (zrv)
def zrt:ACode:=.seq (.reg 3 [o_ 13 (.mov (.t 11)),o_ 14 (.faddr 47 3 10 (.t 5)),o_ 15 (.load 36 false 1 (.t 14)),o_ 16 (.app 0 36 1 1 (.t 13) (.t 15)),o_ 17 (.mov (.t 4)),o_ 18 (.bslv 1 36 [.int .u8 0] 1 [(0,.t 17)]),o_ 19 (.app 2 36 1 1 (.t 16) (.t 18)),o_ 20 (.faddr 47 3 10 (.t 5)),⟨none,.store 36 1 (.t 20) (.t 19),none⟩] false [2,3,5,6,10]) (zru)
def zrs:ACode:=.seq (.reg 0 [o_ 11 (.asg (.c .nils))] false [2,3,4,5,6,10,11]) (zrt)
def zrr:ACode:=.seq (.reg 3 [o_ 5 (.box 0 47 (.t 0)),o_ 6 (.box 1 48 (.t 1)),o_ 10 (.alloc 2 48 [.nils,.int .i64 0,.bool false,.bool false,.int .i64 0,.bool false])] false [2,3,4,5,6,10]) (zrs)
def zmW:AFun:={ nt:=60,res:=[.cell 10 48 true 6],code:=(zrr) }
def zrh:ACode:=.cond (.t 14) (.seq (.reg 0 [o_ 4 (.asg (.c (.int .u8 0))),o_ 5 (.asg (.c (.bool false)))] false [4,5]) (.ret)) (.skip)
def zrg:ACode:=.seq (.reg 0 [o_ 15 (.faddr 47 3 10 (.t 2)),o_ 16 (.load 36 false 1 (.t 15)),o_ 17 (.faddr 47 3 10 (.t 2)),o_ 18 (.load 36 false 1 (.t 17)),o_ 19 (.len 36 (.t 18)),o_ 20 (.bin .sub .other 2 (.t 19) (.c (.int .i64 1))),o_ 21 (.mov (.t 1)),o_ 22 (.bin .sub .other 2 (.t 20) (.t 21)),o_ 23 (.iaddr 36 1 (.t 16) (.t 22)),o_ 24 (.load 7 false 1 (.t 23)),o_ 4 (.asg (.t 24)),o_ 5 (.asg (.c (.bool true)))] false [4,5]) (.ret)
def zrf:ACode:=.seq (.seq (.reg 0 [o_ 6 (.mov (.t 1)),o_ 7 (.bin .lss .other 27 (.t 6) (.c (.int .i64 0))),o_ 8 (.mov (.t 7)),p_ 9 (.mov (.t 1)) 2 8 false,p_ 10 (.faddr 47 3 10 (.t 2)) 2 8 false,p_ 11 (.load 36 false 1 (.t 10)) 2 8 false,p_ 12 (.len 36 (.t 11)) 2 8 false,p_ 13 (.bin .geq .other 27 (.t 9) (.t 12)) 2 8 false,o_ 14 (.pick (.t 8) (.c (.bool true)) (.t 13))] false [1,2,14]) (zrh)) (zrg)
def zre:ACode:=.seq (.reg 1 [o_ 2 (.box 0 47 (.t 0)),o_ 4 (.asg (.c (.int .u8 0))),o_ 5 (.asg (.c (.bool false)))] false [1,2]) (zrf)
def zmU:AFun:={ nt:=25,res:=[.t 4,.t 5],code:=(zre) }
def zxV:ACode:=.seq (.reg 0 [o_ 5 (.mov (.t 0)),o_ 6 (.bin .geq .other 27 (.t 5) (.c (.int .i64 0))),o_ 7 (.mov (.t 6)),p_ 8 (.mov (.t 0)) 2 7 true,p_ 9 (.mov (.t 1)) 2 7 true,p_ 10 (.bin .lss .other 27 (.t 8) (.t 9)) 2 7 true,o_ 11 (.pick (.t 7) (.t 10) (.c (.bool false))),o_ 4 (.asg (.t 11))] false [4]) (.ret)
def zxU:ACode:=.seq (.reg 0 [o_ 4 (.asg (.c (.bool false)))] false [0,1]) (zxV)
def zxi:AFun:={ nt:=12,res:=[.t 4],code:=(zxU) }
def zuD:ACode:=.reg 0 [o_ 12 (.mov (.t 5)),o_ 13 (.bin .sub .other 2 (.t 12) (.c (.int .i64 1))),o_ 5 (.asg (.t 13))] false [2,3,4,5]
def zuC:ACode:=.seq (.block 1 (.reg 0 [o_ 15 (.load 48 true 6 (.t 2)),o_ 16 (.faddr 35 0 0 (.t 3)),o_ 17 (.load 36 false 1 (.t 16)),o_ 18 (.mov (.t 5)),o_ 19 (.iaddr 36 1 (.t 17) (.t 18)),o_ 20 (.load 7 false 1 (.t 19)),o_ 21 (.callp 27 [.t 15,.t 20]),o_ 14 (.mov (.t 21)),o_ 22 (.ext (.t 14) 0),o_ 23 (.ext (.t 14) 1),⟨none,.store 48 6 (.t 2) (.t 22),none⟩] true [2,3,4,5])) (zuD)
def zuB:ACode:=.seq (.seq (.reg 0 [o_ 10 (.mov (.t 5)),o_ 11 (.bin .geq .other 2 (.t 10) (.c (.int .i64 0)))] false [2,3,4,5,11]) (.cond (.t 11) (.skip) (.exit 0))) (zuC)
def zuA:ACode:=.seq (.reg 0 [o_ 24 (.load 48 true 6 (.t 2)),o_ 25 (.faddr 35 1 1 (.t 3)),o_ 26 (.load 7 false 1 (.t 25)),o_ 27 (.callp 46 [.t 24,.t 26]),⟨none,.store 48 6 (.t 4) (.t 27),none⟩] false [4]) (.ret)
def zuz:ACode:=.seq (.seq (.reg 0 [o_ 6 (.faddr 35 0 0 (.t 3)),o_ 7 (.load 36 false 1 (.t 6)),o_ 8 (.len 36 (.t 7)),o_ 9 (.bin .sub .other 2 (.t 8) (.c (.int .i64 1))),o_ 5 (.asg (.t 9))] false [2,3,4,5]) (.block 0 (.loop (zuB)))) (zuA)
def zuy:ACode:=.seq (.reg 3 [o_ 2 (.box 0 48 (.t 0)),o_ 3 (.box 1 35 (.t 1)),o_ 4 (.alloc 2 48 [.nils,.int .i64 0,.bool false,.bool false,.int .i64 0,.bool false])] false [2,3,4]) (zuz)
def zpE:AFun:={ nt:=28,res:=[.cell 4 48 true 6],code:=(zuy) }
def zuZ:ACode:=.cond (.t 19) (.seq (.reg 0 [o_ 2 (.asg (.c .nils)),o_ 3 (.asg (.c (.int .u8 0))),o_ 4 (.asg (.c (.bool false)))] false [2,3,4]) (.ret)) (.skip)
def zuY:ACode:=.cond (.t 52) (.seq (.reg 1 [o_ 55 (.mov (.t 6)),o_ 56 (.bslice 0 36 [.int .u8 0] 2 [(0,.c (.int .u8 127)),(1,.t 55)]),o_ 2 (.asg (.t 56)),o_ 3 (.asg (.c (.int .u8 0))),o_ 4 (.asg (.c (.bool true)))] false [2,3,4]) (.ret)) (.skip)
def zuX:ACode:=.cond (.t 42) (.seq (.reg 1 [o_ 50 (.bslice 0 36 [.int .u8 0] 1 [(0,.c (.int .u8 127))]),o_ 51 (.mov (.t 6)),o_ 2 (.asg (.t 50)),o_ 3 (.asg (.t 51)),o_ 4 (.asg (.c (.bool true)))] false [2,3,4]) (.ret)) (.seq (.reg 0 [o_ 53 (.mov (.t 7)),o_ 54 (.bin .eql .other 2 (.t 53) (.c (.int .i64 4))),o_ 52 (.asg (.t 54))] false [0,6,52]) (zuY))
def zuW:ACode:=.cond (.t 38) (.seq (.reg 1 [o_ 41 (.bslice 0 36 [.int .u8 0] 1 [(0,.c (.int .u8 127))]),o_ 2 (.asg (.t 41)),o_ 3 (.asg (.c (.int .u8 127))),o_ 4 (.asg (.c (.bool true)))] false [2,3,4]) (.ret)) (.seq (.reg 0 [o_ 43 (.mov (.t 7)),o_ 44 (.bin .eql .other 2 (.t 43) (.c (.int .i64 4))),o_ 45 (.mov (.t 44)),p_ 46 (.mov (.t 5)) 2 45 true,p_ 47 (.slcS 39 (.t 46) (some (.c (.int .i64 4))) none) 2 45 true,p_ 48 (.callp 82 [.t 47,.c (.str b87_)]) 2 45 true,o_ 49 (.pick (.t 45) (.t 48) (.c (.bool false))),o_ 42 (.asg (.t 49))] false [0,6,7,42]) (zuX))
def zuV:ACode:=.cond (.t 35) (.seq (.reg 0 [o_ 2 (.asg (.c .nils)),o_ 3 (.asg (.c (.int .u8 127))),o_ 4 (.asg (.c (.bool true)))] false [2,3,4]) (.ret)) (.seq (.reg 0 [o_ 39 (.mov (.t 5)),o_ 40 (.bin .eql .other 39 (.t 39) (.c (.str b1_))),o_ 38 (.asg (.t 40))] false [0,5,6,7,38]) (zuW))
def zuU:ACode:=.cond (.t 27) (.seq (.reg 0 [o_ 34 (.mov (.t 6)),o_ 2 (.asg (.c .nils)),o_ 3 (.asg (.t 34)),o_ 4 (.asg (.c (.bool true)))] false [2,3,4]) (.ret)) (.seq (.reg 0 [o_ 36 (.mov (.t 5)),o_ 37 (.bin .eql .other 39 (.t 36) (.c (.str b0_))),o_ 35 (.asg (.t 37))] false [0,5,6,7,35]) (zuV))
def zuT:ACode:=.cond (.t 63) (.reg 0 [o_ 11 (.asg (.c (.int .u8 126)))] false [9,11]) (.skip)
def zuS:ACode:=.cond (.t 68) (.skip) (.reg 0 [o_ 70 (.bin .eql .other 39 (.t 64) (.c (.str b68_))),o_ 68 (.asg (.t 70))] false [11,64,68])
def zuR:ACode:=.cond (.t 76) (.skip) (.reg 0 [o_ 79 (.bin .eql .other 39 (.t 64) (.c (.str b27_))),o_ 76 (.asg (.t 79))] false [11,64,76])
def zss:ACode:=.cond (.t 76) (.skip) (.seq (.reg 0 [o_ 78 (.bin .eql .other 39 (.t 64) (.c (.str b41_))),o_ 76 (.asg (.t 78))] false [11,64,76]) (zuR))
def zsr:ACode:=.cond (.t 83) (.skip) (.reg 0 [o_ 93 (.bin .eql .other 39 (.t 64) (.c (.str b58_))),o_ 83 (.asg (.t 93))] false [11,83])
def zsq:ACode:=.cond (.t 83) (.skip) (.seq (.reg 0 [o_ 92 (.bin .eql .other 39 (.t 64) (.c (.str b48_))),o_ 83 (.asg (.t 92))] false [11,64,83]) (zsr))
def zsp:ACode:=.cond (.t 83) (.skip) (.seq (.reg 0 [o_ 91 (.bin .eql .other 39 (.t 64) (.c (.str b49_))),o_ 83 (.asg (.t 91))] false [11,64,83]) (zsq))
def zso:ACode:=.cond (.t 83) (.skip) (.seq (.reg 0 [o_ 90 (.bin .eql .other 39 (.t 64) (.c (.str b50_))),o_ 83 (.asg (.t 90))] false [11,64,83]) (zsp))
def zsn:ACode:=.cond (.t 83) (.skip) (.seq (.reg 0 [o_ 89 (.bin .eql .other 39 (.t 64) (.c (.str b51_))),o_ 83 (.asg (.t 89))] false [11,64,83]) (zso))
def zsm:ACode:=.cond (.t 83) (.skip) (.seq (.reg 0 [o_ 88 (.bin .eql .other 39 (.t 64) (.c (.str b52_))),o_ 83 (.asg (.t 88))] false [11,64,83]) (zsn))
def zsl:ACode:=.cond (.t 83) (.skip) (.seq (.reg 0 [o_ 87 (.bin .eql .other 39 (.t 64) (.c (.str b53_))),o_ 83 (.asg (.t 87))] false [11,64,83]) (zsm))
def zsk:ACode:=.cond (.t 83) (.skip) (.seq (.reg 0 [o_ 86 (.bin .eql .other 39 (.t 64) (.c (.str b54_))),o_ 83 (.asg (.t 86))] false [11,64,83]) (zsl))
def zsj:ACode:=.cond (.t 83) (.skip) (.seq (.reg 0 [o_ 85 (.bin .eql .other 39 (.t 64) (.c (.str b69_))),o_ 83 (.asg (.t 85))] false [11,64,83]) (zsk))
def zsi:ACode:=.cond (.t 83) (.seq (.reg 1 [o_ 94 (.mov (.t 11)),o_ 95 (.mov (.t 11)),o_ 96 (.bslice 0 36 [.int .u8 0] 2 [(0,.t 94),(1,.t 95)]),o_ 2 (.asg (.t 96)),o_ 3 (.asg (.c (.int .u8 127))),o_ 4 (.asg (.c (.bool true)))] false [2,3,4]) (.ret)) (.skip)
def zsh:ACode:=.cond (.t 76) (.seq (.reg 1 [o_ 80 (.mov (.t 11)),o_ 81 (.bslice 0 36 [.int .u8 0] 1 [(0,.t 80)]),o_ 82 (.mov (.t 11)),o_ 2 (.asg (.t 81)),o_ 3 (.asg (.t 82)),o_ 4 (.asg (.c (.bool true)))] false [2,3,4]) (.ret)) (.seq (.seq (.reg 0 [o_ 84 (.bin .eql .other 39 (.t 64) (.c (.str b70_))),o_ 83 (.asg (.t 84))] false [11,64,83]) (zsj)) (zsi))
def zsg:ACode:=.cond (.t 72) (.seq (.reg 1 [o_ 74 (.mov (.t 11)),o_ 75 (.bslice 0 36 [.int .u8 0] 1 [(0,.t 74)]),o_ 2 (.asg (.t 75)),o_ 3 (.asg (.c (.int .u8 127))),o_ 4 (.asg (.c (.bool true)))] false [2,3,4]) (.ret)) (.seq (.seq (.reg 0 [o_ 77 (.bin .eql .other 39 (.t 64) (.c (.str b42_))),o_ 76 (.asg (.t 77))] false [11,64,76]) (zss)) (zsh))
def zsf:ACode:=.cond (.t 68) (.seq (.reg 1 [o_ 71 (.bslice 0 36 [.int .u8 0] 1 [(0,.c (.int .u8 127))]),o_ 2 (.asg (.t 71)),o_ 3 (.asg (.c (.int .u8 126))),o_ 4 (.asg (.c (.bool true)))] false [2,3,4]) (.ret)) (.seq (.reg 0 [o_ 73 (.bin .eql .other 39 (.t 64) (.c (.str b59_))),o_ 72 (.asg (.t 73))] false [11,64,72]) (zsg))
def zse:ACode:=.cond (.t 65) (.seq (.reg 1 [o_ 67 (.bslice 0 36 [.int .u8 0] 1 [(0,.c (.int .u8 126))]),o_ 2 (.asg (.t 67)),o_ 3 (.asg (.c (.int .u8 127))),o_ 4 (.asg (.c (.bool true)))] false [2,3,4]) (.ret)) (.seq (.seq (.reg 0 [o_ 69 (.bin .eql .other 39 (.t 64) (.c (.str b61_))),o_ 68 (.asg (.t 69))] false [11,64,68]) (zuS)) (zsf))
def zsd:ACode:=.block 1 (.seq (.reg 0 [o_ 66 (.bin .eql .other 39 (.t 64) (.c (.str b79_))),o_ 65 (.asg (.t 66))] false [11,64,65]) (zse))
def zsc:ACode:=.seq (.reg 1 [o_ 97 (.mov (.t 11)),o_ 98 (.mov (.t 11)),o_ 99 (.bslice 0 36 [.int .u8 0] 2 [(0,.t 97),(1,.t 98)]),o_ 100 (.mov (.t 11)),o_ 2 (.asg (.t 99)),o_ 3 (.asg (.t 100)),o_ 4 (.asg (.c (.bool true)))] false [2,3,4]) (.ret)
def zsb:ACode:=.seq (.seq (.reg 0 [o_ 64 (.mov (.t 9))] false [11,64]) (zsd)) (zsc)
def zsa:ACode:=.seq (.seq (.reg 0 [o_ 62 (.mov (.t 10)),o_ 63 (.bin .eql .other 2 (.t 62) (.c (.int .i64 64)))] false [9,11,63]) (zuT)) (zsb)
def zrZ:ACode:=.seq (.reg 0 [o_ 11 (.asg (.c (.int .u8 127)))] false [9,10,11]) (zsa)
def zrY:ACode:=.seq (.reg 0 [o_ 58 (.mov (.t 0)),o_ 59 (.callp 83 [.t 58]),o_ 57 (.mov (.t 59)),o_ 60 (.ext (.t 57) 0),o_ 61 (.ext (.t 57) 1),o_ 9 (.asg (.t 60)),o_ 10 (.asg (.t 61))] false [9,10]) (zrZ)
def zrX:ACode:=.seq (.block 0 (.seq (.reg 0 [o_ 28 (.mov (.t 7)),o_ 29 (.bin .eql .other 2 (.t 28) (.c (.int .i64 1))),o_ 30 (.mov (.t 29)),p_ 31 (.mov (.t 7)) 2 30 false,p_ 32 (.bin .eql .other 2 (.t 31) (.c (.int .i64 2))) 2 30 false,o_ 33 (.pick (.t 30) (.c (.bool true)) (.t 32)),o_ 27 (.asg (.t 33))] false [0,5,6,7,27]) (zuU))) (zrY)
def zrW:ACode:=.seq (.reg 0 [o_ 23 (.mov (.t 0)),o_ 24 (.callp 62 [.t 23]),o_ 22 (.mov (.t 24)),o_ 25 (.ext (.t 22) 0),o_ 26 (.ext (.t 22) 1),o_ 7 (.asg (.t 25)),o_ 8 (.asg (.t 26))] false [0,5,6,7]) (zrX)
def zrV:ACode:=.seq (.reg 0 [o_ 20 (.mov (.t 5)),o_ 21 (.callp 81 [.t 20]),o_ 6 (.asg (.t 21))] false [0,5,6]) (zrW)
def zrU:ACode:=.seq (.seq (.reg 0 [o_ 14 (.mov (.t 5)),o_ 15 (.bin .eql .other 39 (.t 14) (.c (.str b155_))),o_ 16 (.mov (.t 15)),p_ 17 (.mov (.t 0)) 2 16 false,p_ 18 (.bin .leq .other 7 (.t 17) (.c (.int .u8 36))) 2 16 false,o_ 19 (.pick (.t 16) (.c (.bool true)) (.t 18))] false [0,5,19]) (zuZ)) (zrV)
def zrT:ACode:=.seq (.reg 0 [o_ 12 (.mov (.t 0)),o_ 13 (.callp 80 [.t 12]),o_ 5 (.asg (.t 13))] false [0,5]) (zrU)
def zrS:ACode:=.seq (.reg 0 [o_ 2 (.asg (.c .nils)),o_ 3 (.asg (.c (.int .u8 0))),o_ 4 (.asg (.c (.bool false)))] false [0]) (zrT)
def zpH:AFun:={ nt:=101,res:=[.t 2,.t 3,.t 4],code:=(zrS) }
def zvu:ACode:=.cond (.t 8) (.seq (.reg 0 [o_ 2 (.asg (.c (.int .i64 0))),o_ 3 (.asg (.c (.bool false)))] false [2,3]) (.ret)) (.skip)
def zvt:ACode:=.cond (.t 14) (.skip) (.reg 0 [o_ 22 (.bin .eql .other 39 (.t 9) (.c (.str b21_))),o_ 14 (.asg (.t 22))] false [4,9,14])
def zvs:ACode:=.cond (.t 14) (.skip) (.seq (.reg 0 [o_ 21 (.bin .eql .other 39 (.t 9) (.c (.str b18_))),o_ 14 (.asg (.t 21))] false [4,9,14]) (zvt))
def zvr:ACode:=.cond (.t 14) (.skip) (.seq (.reg 0 [o_ 20 (.bin .eql .other 39 (.t 9) (.c (.str b24_))),o_ 14 (.asg (.t 20))] false [4,9,14]) (zvs))
def zvq:ACode:=.cond (.t 14) (.skip) (.seq (.reg 0 [o_ 19 (.bin .eql .other 39 (.t 9) (.c (.str b25_))),o_ 14 (.asg (.t 19))] false [4,9,14]) (zvr))
def zvp:ACode:=.cond (.t 14) (.skip) (.seq (.reg 0 [o_ 18 (.bin .eql .other 39 (.t 9) (.c (.str b26_))),o_ 14 (.asg (.t 18))] false [4,9,14]) (zvq))
def zvo:ACode:=.cond (.t 14) (.skip) (.seq (.reg 0 [o_ 17 (.bin .eql .other 39 (.t 9) (.c (.str b44_))),o_ 14 (.asg (.t 17))] false [4,9,14]) (zvp))
def zvn:ACode:=.cond (.t 14) (.skip) (.seq (.reg 0 [o_ 16 (.bin .eql .other 39 (.t 9) (.c (.str b37_))),o_ 14 (.asg (.t 16))] false [4,9,14]) (zvo))
def zvm:ACode:=.cond (.t 23) (.skip) (.reg 0 [o_ 25 (.bin .eql .other 39 (.t 9) (.c (.str b1_))),o_ 23 (.asg (.t 25))] false [4,9,23])
def zta:ACode:=.cond (.t 26) (.skip) (.reg 0 [o_ 28 (.bin .eql .other 39 (.t 9) (.c (.str b43_))),o_ 26 (.asg (.t 28))] false [4,9,26])
def zsZ:ACode:=.cond (.t 33) (.seq (.reg 0 [o_ 2 (.asg (.c (.int .i64 9))),o_ 3 (.asg (.c (.bool true)))] false [2,3]) (.ret)) (.skip)
def zsY:ACode:=.cond (.t 31) (.seq (.reg 0 [o_ 2 (.asg (.c (.int .i64 8))),o_ 3 (.asg (.c (.bool true)))] false [2,3]) (.ret)) (.seq (.reg 0 [o_ 34 (.bin .eql .other 39 (.t 9) (.c (.str b11_))),o_ 33 (.asg (.t 34))] false [4,33]) (zsZ))
def zsX:ACode:=.cond (.t 29) (.seq (.reg 0 [o_ 2 (.asg (.c (.int .i64 7))),o_ 3 (.asg (.c (.bool true)))] false [2,3]) (.ret)) (.seq (.reg 0 [o_ 32 (.bin .eql .other 39 (.t 9) (.c (.str b29_))),o_ 31 (.asg (.t 32))] false [4,9,31]) (zsY))
def zsW:ACode:=.cond (.t 26) (.seq (.reg 0 [o_ 2 (.asg (.c (.int .i64 6))),o_ 3 (.asg (.c (.bool true)))] false [2,3]) (.ret)) (.seq (.reg 0 [o_ 30 (.bin .eql .other 39 (.t 9) (.c (.str b65_))),o_ 29 (.asg (.t 30))] false [4,9,29]) (zsX))
def zsV:ACode:=.cond (.t 23) (.seq (.reg 0 [o_ 2 (.asg (.c (.int .i64 5))),o_ 3 (.asg (.c (.bool true)))] false [2,3]) (.ret)) (.seq (.seq (.reg 0 [o_ 27 (.bin .eql .other 39 (.t 9) (.c (.str b38_))),o_ 26 (.asg (.t 27))] false [4,9,26]) (zta)) (zsW))
def zsU:ACode:=.cond (.t 14) (.seq (.reg 0 [o_ 2 (.asg (.c (.int .i64 3))),o_ 3 (.asg (.c (.bool true)))] false [2,3]) (.ret)) (.seq (.seq (.reg 0 [o_ 24 (.bin .eql .other 39 (.t 9) (.c (.str b0_))),o_ 23 (.asg (.t 24))] false [4,9,23]) (zvm)) (zsV))
def zsT:ACode:=.cond (.t 12) (.seq (.reg 0 [o_ 2 (.asg (.c (.int .i64 2))),o_ 3 (.asg (.c (.bool true)))] false [2,3]) (.ret)) (.seq (.seq (.reg 0 [o_ 15 (.bin .eql .other 39 (.t 9) (.c (.str b67_))),o_ 14 (.asg (.t 15))] false [4,9,14]) (zvn)) (zsU))
def zsS:ACode:=.cond (.t 10) (.seq (.reg 0 [o_ 2 (.asg (.c (.int .i64 1))),o_ 3 (.asg (.c (.bool true)))] false [2,3]) (.ret)) (.seq (.reg 0 [o_ 13 (.bin .eql .other 39 (.t 9) (.c (.str b19_))),o_ 12 (.asg (.t 13))] false [4,9,12]) (zsT))
def zsR:ACode:=.block 0 (.seq (.reg 0 [o_ 11 (.bin .eql .other 39 (.t 9) (.c (.str b20_))),o_ 10 (.asg (.t 11))] false [4,9,10]) (zsS))
def zsQ:ACode:=.cond (.t 52) (.seq (.reg 0 [o_ 2 (.asg (.c (.int .i64 4))),o_ 3 (.asg (.c (.bool true)))] false [2,3]) (.ret)) (.skip)
def zsP:ACode:=.seq (.reg 0 [o_ 2 (.asg (.c (.int .i64 0))),o_ 3 (.asg (.c (.bool true)))] false [2,3]) (.ret)
def zsO:ACode:=.seq (.seq (.reg 0 [o_ 35 (.mov (.t 4)),o_ 36 (.slcS 39 (.t 35) (some (.c (.int .i64 1))) none),o_ 37 (.callp 82 [.t 36,.c (.str b73_)]),o_ 38 (.mov (.t 37)),p_ 39 (.mov (.t 4)) 3 38 false,p_ 40 (.slcS 39 (.t 39) (some (.c (.int .i64 1))) none) 3 38 false,p_ 41 (.callp 82 [.t 40,.c (.str b75_)]) 3 38 false,o_ 42 (.pick (.t 38) (.c (.bool true)) (.t 41)),o_ 43 (.mov (.t 42)),p_ 44 (.mov (.t 4)) 8 43 false,p_ 45 (.slcS 39 (.t 44) (some (.c (.int .i64 1))) none) 8 43 false,p_ 46 (.callp 82 [.t 45,.c (.str b76_)]) 8 43 false,o_ 47 (.pick (.t 43) (.c (.bool true)) (.t 46)),o_ 48 (.mov (.t 47)),p_ 49 (.mov (.t 4)) 13 48 false,p_ 50 (.slcS 39 (.t 49) (some (.c (.int .i64 1))) none) 13 48 false,p_ 51 (.callp 82 [.t 50,.c (.str b81_)]) 13 48 false,o_ 52 (.pick (.t 48) (.c (.bool true)) (.t 51))] false [52]) (zsQ)) (zsP)
def zsN:ACode:=.seq (.seq (.reg 0 [o_ 9 (.mov (.t 4))] false [4,9]) (zsR)) (zsO)
def zsM:ACode:=.seq (.seq (.reg 0 [o_ 7 (.mov (.t 4)),o_ 8 (.bin .eql .other 39 (.t 7) (.c (.str b155_)))] false [4,8]) (zvu)) (zsN)
def zsL:ACode:=.seq (.reg 0 [o_ 5 (.mov (.t 0)),o_ 6 (.callp 80 [.t 5]),o_ 4 (.asg (.t 6))] false [4]) (zsM)
def zsK:ACode:=.seq (.reg 0 [o_ 2 (.asg (.c (.int .i64 0))),o_ 3 (.asg (.c (.bool false)))] false [0]) (zsL)
def zpK:AFun:={ nt:=53,res:=[.t 2,.t 3],code:=(zsK) }
def ztj:ACode:=.cond (.t 21) (.seq (.reg 0 [o_ 2 (.asg (.c (.int .i64 0))),o_ 3 (.asg (.c (.bool false))),o_ 4 (.asg (.c (.bool false)))] false [2,3,4]) (.ret)) (.skip)
def zti:ACode:=.cond (.t 36) (.reg 0 [o_ 37 (.mov (.t 5)),o_ 38 (.mov (.t 5)),o_ 39 (.lenS 39 (.t 38)),o_ 40 (.bin .sub .other 2 (.t 39) (.c (.int .i64 2))),o_ 41 (.slcS 39 (.t 37) none (some (.t 40))),o_ 5 (.asg (.t 41))] false [5,8]) (.skip)
def zth:ACode:=.cond (.t 53) (.seq (.reg 0 [o_ 55 (.mov (.t 8)),o_ 2 (.asg (.c (.int .i64 4))),o_ 3 (.asg (.t 55)),o_ 4 (.asg (.c (.bool true)))] false [2,3,4]) (.ret)) (.skip)
def ztg:ACode:=.cond (.t 50) (.seq (.reg 0 [o_ 52 (.mov (.t 8)),o_ 2 (.asg (.c (.int .i64 2))),o_ 3 (.asg (.t 52)),o_ 4 (.asg (.c (.bool true)))] false [2,3,4]) (.ret)) (.seq (.reg 0 [o_ 54 (.bin .eql .other 39 (.t 46) (.c (.str b152_))),o_ 53 (.asg (.t 54))] false [5,8,53]) (zth))
def ztf:ACode:=.cond (.t 47) (.seq (.reg 0 [o_ 49 (.mov (.t 8)),o_ 2 (.asg (.c (.int .i64 1))),o_ 3 (.asg (.t 49)),o_ 4 (.asg (.c (.bool true)))] false [2,3,4]) (.ret)) (.seq (.reg 0 [o_ 51 (.bin .eql .other 39 (.t 46) (.c (.str b153_))),o_ 50 (.asg (.t 51))] false [5,8,46,50]) (ztg))
def zte:ACode:=.block 0 (.seq (.reg 0 [o_ 48 (.bin .eql .other 39 (.t 46) (.c (.str b151_))),o_ 47 (.asg (.t 48))] false [5,8,46,47]) (ztf))
def ztd:ACode:=.cond (.t 58) (.seq (.reg 0 [o_ 59 (.mov (.t 8)),o_ 2 (.asg (.c (.int .i64 4))),o_ 3 (.asg (.t 59)),o_ 4 (.asg (.c (.bool true)))] false [2,3,4]) (.ret)) (.skip)
def ztc:ACode:=.seq (.reg 0 [o_ 60 (.mov (.t 8)),o_ 2 (.asg (.c (.int .i64 8))),o_ 3 (.asg (.t 60)),o_ 4 (.asg (.c (.bool true)))] false [2,3,4]) (.ret)
def ztb:ACode:=.seq (.seq (.reg 0 [o_ 56 (.mov (.t 5)),o_ 57 (.callp 81 [.t 56]),o_ 58 (.bin .eql .other 7 (.t 57) (.c (.int .u8 127)))] false [8,58]) (ztd)) (ztc)
def zpd:ACode:=.seq (.seq (.reg 0 [o_ 42 (.mov (.t 5)),o_ 43 (.mov (.t 5)),o_ 44 (.lenS 39 (.t 43)),o_ 45 (.bin .sub .other 2 (.t 44) (.c (.int .i64 1))),o_ 46 (.slcS 39 (.t 42) (some (.t 45)) none)] false [5,8,46]) (zte)) (ztb)
def zpc:ACode:=.seq (.seq (.reg 0 [o_ 28 (.mov (.t 8)),o_ 29 (.mov (.t 28)),p_ 30 (.mov (.t 5)) 1 29 false,p_ 31 (.mov (.t 5)) 1 29 false,p_ 32 (.lenS 39 (.t 31)) 1 29 false,p_ 33 (.bin .sub .other 2 (.t 32) (.c (.int .i64 2))) 1 29 false,p_ 34 (.slcS 39 (.t 30) (some (.t 33)) none) 1 29 false,p_ 35 (.bin .eql .other 39 (.t 34) (.c (.str b103_))) 1 29 false,o_ 36 (.pick (.t 29) (.c (.bool true)) (.t 35))] false [5,8,36]) (zti)) (zpd)
def zpb:ACode:=.seq (.reg 0 [o_ 22 (.mov (.t 5)),o_ 23 (.mov (.t 5)),o_ 24 (.lenS 39 (.t 23)),o_ 25 (.bin .sub .other 2 (.t 24) (.c (.int .i64 2))),o_ 26 (.slcS 39 (.t 22) (some (.t 25)) none),o_ 27 (.bin .eql .other 39 (.t 26) (.c (.str b72_))),o_ 8 (.asg (.t 27))] false [5,8]) (zpc)
def zpa:ACode:=.seq (.seq (.reg 0 [o_ 16 (.mov (.t 5)),o_ 17 (.bin .eql .other 39 (.t 16) (.c (.str b155_))),o_ 18 (.mov (.t 17)),p_ 19 (.mov (.t 6)) 2 18 false,p_ 20 (.bin .neq .other 2 (.t 19) (.c (.int .i64 4))) 2 18 false,o_ 21 (.pick (.t 18) (.c (.bool true)) (.t 20))] false [5,21]) (ztj)) (zpb)
def zoZ:ACode:=.seq (.reg 0 [o_ 12 (.mov (.t 0)),o_ 13 (.callp 62 [.t 12]),o_ 11 (.mov (.t 13)),o_ 14 (.ext (.t 11) 0),o_ 15 (.ext (.t 11) 1),o_ 6 (.asg (.t 14)),o_ 7 (.asg (.t 15))] false [5,6]) (zpa)
def zoY:ACode:=.seq (.reg 0 [o_ 9 (.mov (.t 0)),o_ 10 (.callp 80 [.t 9]),o_ 5 (.asg (.t 10))] false [0,5]) (zoZ)
def zoX:ACode:=.seq (.reg 0 [o_ 2 (.asg (.c (.int .i64 0))),o_ 3 (.asg (.c (.bool false))),o_ 4 (.asg (.c (.bool false)))] false [0]) (zoY)
def znk:AFun:={ nt:=61,res:=[.t 2,.t 3,.t 4],code:=(zoX) }
def zdo:ACode:=.cond (.t 16) (.seq (.reg 0 [o_ 17 (.mov (.t 5)),o_ 4 (.asg (.t 17))] false [4]) (.ret)) (.skip)
def zdn:ACode:=.seq (.reg 0 [o_ 11 (.mov (.t 1)),o_ 12 (.mov (.t 0)),o_ 13 (.mov (.t 5)),o_ 14 (.iaddr 50 1 (.t 12) (.t 13)),o_ 15 (.load 51 false 1 (.t 14)),o_ 16 (.callv (.t 11) [.t 15])] false [0,1,5,7,8,16]) (zdo)
def zdm:ACode:=.reg 0 [o_ 18 (.bin .add .other 2 (.t 8) (.c (.int .i64 1))),o_ 8 (.mov (.t 18))] false [0,1,7,8]
def zdl:ACode:=.seq (.block 1 (.seq (.reg 0 [o_ 10 (.mov (.t 8)),o_ 5 (.asg (.t 10))] false [0,1,5,7,8]) (zdn))) (zdm)
def zdk:ACode:=.seq (.cond (.t 9) (.skip) (.exit 0)) (zdl)
def zdj:ACode:=.seq (.reg 0 [o_ 9 (.bin .lss .other 2 (.t 8) (.t 7))] false [0,1,7,8,9]) (zdk)
def zdi:ACode:=.seq (.seq (.reg 0 [o_ 6 (.mov (.t 0)),o_ 7 (.len 50 (.t 6)),o_ 8 (.mov (.c (.int .i64 0)))] false [0,1,7,8]) (.block 0 (.loop (zdj)))) (.seq (.reg 0 [o_ 4 (.asg (.c (.int .i64 (-1))))] false [4]) (.ret))
def zdh:ACode:=.seq (.reg 0 [o_ 4 (.asg (.c (.int .i64 0)))] false [0,1]) (zdi)
def zaT:AFun:={ nt:=19,res:=[.t 4],code:=(zdh) }
def zcQ:ACode:=.cond (.t 16) (.seq (.reg 0 [o_ 17 (.mov (.t 5)),o_ 4 (.asg (.t 17))] false [4]) (.ret)) (.skip)
def zcP:ACode:=.seq (.reg 0 [o_ 11 (.mov (.t 1)),o_ 12 (.mov (.t 0)),o_ 13 (.mov (.t 5)),o_ 14 (.iaddr 20 10 (.t 12) (.t 13)),o_ 15 (.load 21 true 10 (.t 14)),o_ 16 (.callv (.t 11) [.t 15])] false [0,1,5,7,8,16]) (zcQ)
def zcO:ACode:=.reg 0 [o_ 18 (.bin .add .other 2 (.t 8) (.c (.int .i64 1))),o_ 8 (.mov (.t 18))] false [0,1,7,8]
def zcN:ACode:=.seq (.block 1 (.seq (.reg 0 [o_ 10 (.mov (.t 8)),o_ 5 (.asg (.t 10))] false [0,1,5,7,8]) (zcP))) (zcO)
def zcM:ACode:=.seq (.cond (.t 9) (.skip) (.exit 0)) (zcN)
def zcL:ACode:=.seq (.reg 0 [o_ 9 (.bin .lss .other 2 (.t 8) (.t 7))] false [0,1,7,8,9]) (zcM)
def zcK:ACode:=.seq (.seq (.reg 0 [o_ 6 (.mov (.t 0)),o_ 7 (.len 20 (.t 6)),o_ 8 (.mov (.c (.int .i64 0)))] false [0,1,7,8]) (.block 0 (.loop (zcL)))) (.seq (.reg 0 [o_ 4 (.asg (.c (.int .i64 (-1))))] false [4]) (.ret))
def zcJ:ACode:=.seq (.reg 0 [o_ 4 (.asg (.c (.int .i64 0)))] false [0,1]) (zcK)
def zaN:AFun:={ nt:=19,res:=[.t 4],code:=(zcJ) }
def zhU:ACode:=.reg 0 [o_ 26 (.mov (.t 2)),o_ 27 (.nilchk (.t 26)),o_ 28 (.faddr 54 1 1 (.t 27)),⟨none,.store 12 1 (.t 28) (.c (.bool true)),none⟩] false []
def zhT:ACode:=.seq (.reg 0 [o_ 14 (.mov (.t 0)),o_ 15 (.mov (.t 0)),o_ 16 (.nilchk (.t 15)),o_ 17 (.faddr 46 3 11 (.t 16)),o_ 18 (.load 50 false 1 (.t 17)),o_ 19 (.mov (.t 2)),o_ 20 (.nilchk (.t 19)),o_ 21 (.faddr 54 0 0 (.t 20)),o_ 22 (.load 2 false 1 (.t 21)),o_ 23 (.slc 50 1 (.t 18) none (some (.t 22))),o_ 24 (.nilchk (.t 14)),o_ 25 (.faddr 46 3 11 (.t 24)),⟨none,.store 50 1 (.t 25) (.t 23),none⟩] true [2]) (zhU)
def zhS:ACode:=.seq (.reg 0 [o_ 3 (.mov (.t 0)),o_ 4 (.nilchk (.t 3)),o_ 5 (.faddr 46 4 12 (.t 4)),o_ 6 (.load 55 false 1 (.t 5)),o_ 7 (.mov (.t 0)),o_ 8 (.nilchk (.t 7)),o_ 9 (.faddr 46 4 12 (.t 8)),o_ 10 (.load 55 false 1 (.t 9)),o_ 11 (.len 55 (.t 10)),o_ 12 (.bin .sub .other 2 (.t 11) (.c (.int .i64 1))),o_ 13 (.iaddr 55 3 (.t 6) (.t 12)),o_ 2 (.asg (.t 13))] true [0,2]) (zhT)
def zde:AFun:={ nt:=29,res:=[],code:=(zhS) }
def zih:ACode:=.reg 0 [o_ 103 (.mov (.t 0)),o_ 104 (.mov (.t 0)),o_ 105 (.mov (.t 0)),o_ 106 (.nilchk (.t 105)),o_ 107 (.faddr 46 4 12 (.t 106)),o_ 108 (.load 55 false 1 (.t 107)),o_ 109 (.mov (.t 0)),o_ 110 (.nilchk (.t 109)),o_ 111 (.faddr 46 4 12 (.t 110)),o_ 112 (.load 55 false 1 (.t 111)),o_ 113 (.len 55 (.t 112)),o_ 114 (.bin .sub .other 2 (.t 113) (.c (.int .i64 1))),o_ 115 (.slc 55 3 (.t 108) none (some (.t 114))),o_ 116 (.mov (.t 0)),o_ 117 (.nilchk (.t 116)),o_ 118 (.faddr 46 5 13 (.t 117)),o_ 119 (.load 50 false 1 (.t 118)),o_ 120 (.mov (.t 0)),o_ 121 (.nilchk (.t 120)),o_ 122 (.faddr 46 5 13 (.t 121)),o_ 123 (.load 50 false 1 (.t 122)),o_ 124 (.len 50 (.t 123)),o_ 125 (.bin .sub .other 2 (.t 124) (.c (.int .i64 1))),o_ 126 (.slc 50 1 (.t 119) none (some (.t 125))),o_ 127 (.nilchk (.t 103)),o_ 128 (.faddr 46 4 12 (.t 127)),⟨none,.store 100055 1 (.t 128) (.t 115),none⟩,o_ 129 (.nilchk (.t 104)),o_ 130 (.faddr 46 5 13 (.t 129)),⟨none,.store 50 1 (.t 130) (.t 126),none⟩] true []
def zig:ACode:=.seq (.reg 0 [o_ 88 (.mov (.t 0)),o_ 89 (.mov (.t 0)),o_ 90 (.nilchk (.t 89)),o_ 91 (.faddr 46 3 11 (.t 90)),o_ 92 (.load 50 false 1 (.t 91)),o_ 93 (.mov (.t 9)),o_ 94 (.mov (.t 0)),o_ 95 (.nilchk (.t 94)),o_ 96 (.faddr 46 3 11 (.t 95)),o_ 97 (.load 50 false 1 (.t 96)),o_ 98 (.len 50 (.t 97)),o_ 99 (.mm false 2 2 (.t 93) (.t 98)),o_ 100 (.slc 50 1 (.t 92) none (some (.t 99))),o_ 101 (.nilchk (.t 88)),o_ 102 (.faddr 46 3 11 (.t 101)),⟨none,.store 50 1 (.t 102) (.t 100),none⟩] true [0]) (zih)
def zif:ACode:=.seq (.reg 0 [o_ 72 (.mov (.t 0)),o_ 73 (.mov (.t 0)),o_ 74 (.nilchk (.t 73)),o_ 75 (.faddr 46 7 15 (.t 74)),o_ 76 (.load 12 false 1 (.t 75)),o_ 77 (.mov (.t 76)),p_ 78 (.mov (.t 0)) 5 77 false,p_ 79 (.nilchk (.t 78)) 5 77 false,p_ 80 (.faddr 46 3 11 (.t 79)) 5 77 false,p_ 81 (.load 50 false 1 (.t 80)) 5 77 false,p_ 82 (.len 50 (.t 81)) 5 77 false,p_ 83 (.mov (.t 9)) 5 77 false,p_ 84 (.bin .neq .other 2 (.t 82) (.t 83)) 5 77 false,o_ 85 (.pick (.t 77) (.c (.bool true)) (.t 84)),o_ 86 (.nilchk (.t 72)),o_ 87 (.faddr 46 7 15 (.t 86)),⟨none,.store 12 1 (.t 87) (.t 85),none⟩] false [0,9]) (zig)
def zie:ACode:=.seq (.reg 0 [o_ 59 (.mov (.t 0)),o_ 60 (.nilchk (.t 59)),o_ 61 (.faddr 46 4 12 (.t 60)),o_ 62 (.load 55 false 1 (.t 61)),o_ 63 (.mov (.t 0)),o_ 64 (.nilchk (.t 63)),o_ 65 (.faddr 46 4 12 (.t 64)),o_ 66 (.load 55 false 1 (.t 65)),o_ 67 (.len 55 (.t 66)),o_ 68 (.bin .sub .other 2 (.t 67) (.c (.int .i64 1))),o_ 69 (.iaddr 55 3 (.t 62) (.t 68)),o_ 70 (.faddr 54 0 0 (.t 69)),o_ 71 (.load 2 false 1 (.t 70)),o_ 9 (.asg (.t 71))] true [0,9]) (zif)
def zid:ACode:=.seq (.reg 0 [o_ 56 (.mov (.t 0)),o_ 57 (.mov (.t 2)),o_ 58 (.calls 40 [.t 56,.t 57])] false [0]) (zie)
def zic:ACode:=.seq (.reg 0 [o_ 53 (.mov (.t 0)),o_ 54 (.mov (.t 1)),o_ 55 (.calls 39 [.t 53,.t 54])] false [0,2]) (zid)
def zib:ACode:=.seq (.reg 2 [o_ 43 (.mov (.t 0)),o_ 44 (.mov (.t 0)),o_ 45 (.nilchk (.t 44)),o_ 46 (.faddr 46 5 13 (.t 45)),o_ 47 (.load 50 false 1 (.t 46)),o_ 48 (.mov (.t 3)),o_ 49 (.bslv 0 50 [.int .u8 0] 1 [(0,.t 48)]),o_ 50 (.app 1 50 1 1 (.t 47) (.t 49)),o_ 51 (.nilchk (.t 43)),o_ 52 (.faddr 46 5 13 (.t 51)),⟨none,.store 50 1 (.t 52) (.t 50),none⟩] false [0,1,2]) (zic)
def zia:ACode:=.seq (.reg 2 [o_ 22 (.mov (.t 0)),o_ 23 (.mov (.t 0)),o_ 24 (.nilchk (.t 23)),o_ 25 (.faddr 46 4 12 (.t 24)),o_ 26 (.load 55 false 1 (.t 25)),o_ 27 (.mov (.t 0)),o_ 28 (.nilchk (.t 27)),o_ 29 (.faddr 46 3 11 (.t 28)),o_ 30 (.load 50 false 1 (.t 29)),o_ 31 (.len 50 (.t 30)),o_ 32 (.faddr 54 1 1 (.t 8)),o_ 33 (.load 12 false 1 (.t 32)),o_ 34 (.mov (.t 33)),p_ 35 (.faddr 54 2 2 (.t 8)) 12 34 false,p_ 36 (.load 12 false 1 (.t 35)) 12 34 false,o_ 37 (.pick (.t 34) (.c (.bool true)) (.t 36)),o_ 38 (.build 54 [.int .i64 0,.bool false,.bool false] [(0,0,1,.t 31),(2,2,1,.t 37)]),o_ 39 (.bslv 0 55 [.int .i64 0,.bool false,.bool false] 1 [(0,.t 38)]),o_ 40 (.app 1 55 3 16 (.t 26) (.t 39)),o_ 41 (.nilchk (.t 22)),o_ 42 (.faddr 46 4 12 (.t 41)),⟨none,.store 55 1 (.t 42) (.t 40),none⟩] true [0,1,2,3]) (zib)
def zhZ:ACode:=.seq (.reg 1 [o_ 10 (.mov (.t 0)),o_ 11 (.nilchk (.t 10)),o_ 12 (.faddr 46 4 12 (.t 11)),o_ 13 (.load 55 false 1 (.t 12)),o_ 14 (.mov (.t 0)),o_ 15 (.nilchk (.t 14)),o_ 16 (.faddr 46 4 12 (.t 15)),o_ 17 (.load 55 false 1 (.t 16)),o_ 18 (.len 55 (.t 17)),o_ 19 (.bin .sub .other 2 (.t 18) (.c (.int .i64 1))),o_ 20 (.iaddr 55 3 (.t 13) (.t 19)),o_ 21 (.load 54 true 3 (.t 20)),o_ 8 (.alloc 0 54 [.int .i64 0,.bool false,.bool false]),⟨none,.store 54 3 (.t 8) (.t 21),none⟩] true [0,1,2,3,8]) (zia)
def zdg:AFun:={ nt:=131,res:=[],code:=(zhZ) }
def zjg:ACode:=.cond (.t 36) (.reg 0 [o_ 37 (.mov (.t 0)),o_ 38 (.mov (.t 0)),o_ 39 (.nilchk (.t 38)),o_ 40 (.faddr 46 6 14 (.t 39)),o_ 41 (.load 2 false 1 (.t 40)),o_ 42 (.mov (.t 0)),o_ 43 (.nilchk (.t 42)),o_ 44 (.faddr 46 3 11 (.t 43)),o_ 45 (.load 50 false 1 (.t 44)),o_ 46 (.len 50 (.t 45)),o_ 47 (.mm true 2 2 (.t 41) (.t 46)),o_ 48 (.nilchk (.t 37)),o_ 49 (.faddr 46 6 14 (.t 48)),⟨none,.store 2 1 (.t 49) (.t 47),none⟩] true []) (.skip)
def zjf:ACode:=.seq (.reg 0 [o_ 29 (.faddr 54 1 1 (.t 4)),o_ 30 (.load 12 false 1 (.t 29)),o_ 31 (.un .not (.t 30)),o_ 32 (.mov (.t 31)),p_ 33 (.faddr 54 2 2 (.t 4)) 3 32 true,p_ 34 (.load 12 false 1 (.t 33)) 3 32 true,p_ 35 (.un .not (.t 34)) 3 32 true,o_ 36 (.pick (.t 32) (.t 35) (.c (.bool false)))] false [0,36]) (zjg)
def zje:ACode:=.seq (.reg 1 [o_ 17 (.mov (.t 0)),o_ 18 (.nilchk (.t 17)),o_ 19 (.faddr 46 4 12 (.t 18)),o_ 20 (.load 55 false 1 (.t 19)),o_ 21 (.mov (.t 0)),o_ 22 (.nilchk (.t 21)),o_ 23 (.faddr 46 4 12 (.t 22)),o_ 24 (.load 55 false 1 (.t 23)),o_ 25 (.len 55 (.t 24)),o_ 26 (.bin .sub .other 2 (.t 25) (.c (.int .i64 1))),o_ 27 (.iaddr 55 3 (.t 20) (.t 26)),o_ 28 (.load 54 true 3 (.t 27)),o_ 4 (.alloc 0 54 [.int .i64 0,.bool false,.bool false]),⟨none,.store 54 3 (.t 4) (.t 28),none⟩] true [0,4]) (zjf)
def zjd:ACode:=.seq (.reg 2 [o_ 7 (.mov (.t 0)),o_ 8 (.mov (.t 0)),o_ 9 (.nilchk (.t 8)),o_ 10 (.faddr 46 3 11 (.t 9)),o_ 11 (.load 50 false 1 (.t 10)),o_ 12 (.mov (.t 1)),o_ 13 (.bslv 0 50 [.int .u8 0] 1 [(0,.t 12)]),o_ 14 (.app 1 50 1 1 (.t 11) (.t 13)),o_ 15 (.nilchk (.t 7)),o_ 16 (.faddr 46 3 11 (.t 15)),⟨none,.store 50 1 (.t 16) (.t 14),none⟩] false [0]) (zje)
def zjc:ACode:=.seq (.seq (.reg 0 [o_ 5 (.mov (.t 1)),o_ 6 (.bin .eql .other 51 (.t 5) (.c (.int .u8 0)))] false [0,1,6]) (.cond (.t 6) (.ret) (.skip))) (zjd)
def zee:AFun:={ nt:=50,res:=[],code:=(zjc) }
def zhY:ACode:=.cond (.t 15) (.seq (.reg 0 [o_ 16 (.mov (.t 0)),o_ 17 (.nilchk (.t 16)),o_ 18 (.faddr 46 7 15 (.t 17)),⟨none,.store 12 1 (.t 18) (.c (.bool true)),none⟩] false []) (.seq (.reg 0 [o_ 4 (.asg (.c (.int .u8 0)))] false [4]) (.ret))) (.skip)
def zhX:ACode:=.seq (.reg 0 [o_ 19 (.mov (.t 0)),o_ 20 (.nilchk (.t 19)),o_ 21 (.faddr 46 5 13 (.t 20)),o_ 22 (.load 50 false 1 (.t 21)),o_ 23 (.mov (.t 0)),o_ 24 (.nilchk (.t 23)),o_ 25 (.faddr 46 5 13 (.t 24)),o_ 26 (.load 50 false 1 (.t 25)),o_ 27 (.len 50 (.t 26)),o_ 28 (.bin .sub .other 27 (.t 27) (.c (.int .i64 1))),o_ 29 (.mov (.t 1)),o_ 30 (.bin .sub .other 27 (.t 28) (.t 29)),o_ 31 (.iaddr 50 1 (.t 22) (.t 30)),o_ 32 (.load 51 false 1 (.t 31)),o_ 4 (.asg (.t 32))] true [4]) (.ret)
def zhW:ACode:=.seq (.seq (.reg 0 [o_ 5 (.mov (.t 1)),o_ 6 (.bin .lss .other 27 (.t 5) (.c (.int .i64 0))),o_ 7 (.mov (.t 6)),p_ 8 (.mov (.t 1)) 2 7 false,p_ 9 (.mov (.t 0)) 2 7 false,p_ 10 (.nilchk (.t 9)) 2 7 false,p_ 11 (.faddr 46 5 13 (.t 10)) 2 7 false,p_ 12 (.load 50 false 1 (.t 11)) 2 7 false,p_ 13 (.len 50 (.t 12)) 2 7 false,p_ 14 (.bin .geq .other 27 (.t 8) (.t 13)) 2 7 false,o_ 15 (.pick (.t 7) (.c (.bool true)) (.t 14))] false [0,1,15]) (zhY)) (zhX)
def zhV:ACode:=.seq (.reg 0 [o_ 4 (.asg (.c (.int .u8 0)))] false [0,1]) (zhW)
def zdf:AFun:={ nt:=33,res:=[.t 4],code:=(zhV) }
def zhE:ACode:=.cond (.t 18) (.seq (.reg 0 [o_ 19 (.mov (.t 0)),o_ 20 (.nilchk (.t 19)),o_ 21 (.faddr 46 7 15 (.t 20)),⟨none,.store 12 1 (.t 21) (.c (.bool true)),none⟩] false []) (.ret)) (.skip)
def zhD:ACode:=.cond (.t 45) (.reg 0 [o_ 46 (.mov (.t 0)),o_ 47 (.nilchk (.t 46)),o_ 48 (.faddr 46 7 15 (.t 47)),⟨none,.store 12 1 (.t 48) (.c (.bool true)),none⟩] false [0,4,34,35,36]) (.skip)
def zhC:ACode:=.seq (.reg 0 [o_ 40 (.mov (.t 0)),o_ 41 (.mov (.t 6)),o_ 42 (.convi .i64 13 27 (.t 41)),o_ 43 (.calls 72 [.t 40,.t 42]),o_ 44 (.mov (.t 4)),o_ 45 (.bin .neq .other 51 (.t 43) (.t 44))] false [0,4,34,35,36,45]) (zhD)
def zhB:ACode:=.reg 0 [o_ 49 (.bin .add .other 2 (.t 36) (.c (.int .i64 1))),o_ 36 (.mov (.t 49))] false [0,4,34,35,36]
def zhA:ACode:=.seq (.block 1 (.seq (.reg 0 [o_ 38 (.iaddr 23 1 (.t 34) (.t 36)),o_ 39 (.load 13 false 1 (.t 38)),o_ 6 (.asg (.t 39))] false [0,4,6,34,35,36]) (zhC))) (zhB)
def zhz:ACode:=.seq (.reg 0 [o_ 37 (.bin .lss .other 2 (.t 36) (.t 35))] false [0,4,34,35,36,37]) (.seq (.cond (.t 37) (.skip) (.exit 0)) (zhA))
def zhy:ACode:=.reg 0 [o_ 53 (.mov (.t 0)),o_ 54 (.calls 69 [.t 53])] false []
def zhx:ACode:=.seq (.reg 0 [o_ 50 (.mov (.t 0)),o_ 51 (.mov (.t 4)),o_ 52 (.calls 40 [.t 50,.t 51])] false [0]) (zhy)
def zhw:ACode:=.seq (.seq (.reg 0 [o_ 33 (.faddr 3 7 7 (.t 3)),o_ 34 (.load 23 false 1 (.t 33)),o_ 35 (.len 23 (.t 34)),o_ 36 (.mov (.c (.int .i64 0)))] false [0,4,34,35,36]) (.block 0 (.loop (zhz)))) (zhx)
def zgS:ACode:=.seq (.reg 0 [o_ 22 (.mov (.t 0)),o_ 23 (.faddr 3 7 7 (.t 3)),o_ 24 (.load 23 false 1 (.t 23)),o_ 25 (.faddr 3 7 7 (.t 3)),o_ 26 (.load 23 false 1 (.t 25)),o_ 27 (.len 23 (.t 26)),o_ 28 (.bin .sub .other 2 (.t 27) (.c (.int .i64 1))),o_ 29 (.iaddr 23 1 (.t 24) (.t 28)),o_ 30 (.load 13 false 1 (.t 29)),o_ 31 (.convi .i64 13 27 (.t 30)),o_ 32 (.calls 72 [.t 22,.t 31]),o_ 4 (.asg (.t 32))] false [0,3,4]) (zhw)
def zgR:ACode:=.seq (.seq (.reg 0 [o_ 9 (.faddr 3 7 7 (.t 3)),o_ 10 (.load 23 false 1 (.t 9)),o_ 11 (.len 23 (.t 10)),o_ 12 (.bin .eql .other 2 (.t 11) (.c (.int .i64 0))),o_ 13 (.mov (.t 12)),p_ 14 (.faddr 3 7 7 (.t 3)) 4 13 false,p_ 15 (.load 23 false 1 (.t 14)) 4 13 false,p_ 16 (.len 23 (.t 15)) 4 13 false,p_ 17 (.bin .gtr .other 2 (.t 16) (.c (.int .i64 257))) 4 13 false,o_ 18 (.pick (.t 13) (.c (.bool true)) (.t 17))] false [0,3,18]) (zhE)) (zgS)
def zgQ:ACode:=.seq (.reg 0 [o_ 7 (.mov (.t 0)),o_ 8 (.calls 40 [.t 7,.c (.int .u8 127)])] false [0,3]) (zgR)
def zgP:ACode:=.seq (.reg 1 [o_ 3 (.box 0 3 (.t 1))] false [0,3]) (zgQ)
def zdb:AFun:={ nt:=55,res:=[],code:=(zgP) }
def ziM:ACode:=.reg 0 [o_ 8 (.mov (.t 0)),o_ 9 (.faddr 43 1 1 (.t 3)),o_ 10 (.load 51 false 1 (.t 9)),o_ 11 (.calls 71 [.t 8,.t 10])] false []
def ziL:ACode:=.seq (.reg 0 [o_ 4 (.mov (.t 0)),o_ 5 (.faddr 43 0 0 (.t 3)),o_ 6 (.load 50 false 1 (.t 5)),o_ 7 (.calls 84 [.t 4,.t 6])] false [0,3]) (ziM)
def ziK:ACode:=.seq (.reg 1 [o_ 3 (.box 0 43 (.t 1))] false [0,3]) (ziL)
def zdA:AFun:={ nt:=12,res:=[],code:=(ziK) }
def zfC:ACode:=.seq (.reg 0 [o_ 20 (.build 43 [.nils,.int .u8 0] []),⟨none,.store 43 2 (.t 4) (.t 20),none⟩] false [4]) (.ret)
def zfB:ACode:=.cond (.t 16) (.seq (.reg 0 [o_ 17 (.mov (.t 0)),o_ 18 (.nilchk (.t 17)),o_ 19 (.faddr 46 7 15 (.t 18)),⟨none,.store 12 1 (.t 19) (.c (.bool true)),none⟩] false [4]) (zfC)) (.skip)
def zfA:ACode:=.seq (.reg 0 [o_ 21 (.mov (.t 0)),o_ 22 (.mov (.t 0)),o_ 23 (.nilchk (.t 22)),o_ 24 (.faddr 46 0 0 (.t 23)),o_ 25 (.faddr 1 1 1 (.t 24)),o_ 26 (.load 5 false 1 (.t 25)),o_ 27 (.mov (.t 1)),o_ 28 (.iaddr 5 3 (.t 26) (.t 27)),o_ 29 (.faddr 6 0 0 (.t 28)),o_ 30 (.load 13 false 1 (.t 29)),o_ 31 (.convi .i64 13 27 (.t 30)),o_ 32 (.calls 76 [.t 21,.t 31]),⟨none,.store 43 2 (.t 4) (.t 32),none⟩] false [4]) (.ret)
def zfz:ACode:=.seq (.seq (.reg 0 [o_ 5 (.mov (.t 1)),o_ 6 (.bin .lss .other 27 (.t 5) (.c (.int .i64 0))),o_ 7 (.mov (.t 6)),p_ 8 (.mov (.t 1)) 2 7 false,p_ 9 (.mov (.t 0)) 2 7 false,p_ 10 (.nilchk (.t 9)) 2 7 false,p_ 11 (.faddr 46 0 0 (.t 10)) 2 7 false,p_ 12 (.faddr 1 1 1 (.t 11)) 2 7 false,p_ 13 (.load 5 false 1 (.t 12)) 2 7 false,p_ 14 (.len 5 (.t 13)) 2 7 false,p_ 15 (.bin .geq .other 27 (.t 8) (.t 14)) 2 7 false,o_ 16 (.pick (.t 7) (.c (.bool true)) (.t 15))] false [0,1,4,16]) (zfB)) (zfA)
def zfy:ACode:=.seq (.reg 1 [o_ 4 (.alloc 0 43 [.nils,.int .u8 0])] false [0,1,4]) (zfz)
def zcm:AFun:={ nt:=33,res:=[.cell 4 43 true 2],code:=(zfy) }
def zjb:ACode:=.seq (.reg 0 [o_ 20 (.build 43 [.nils,.int .u8 0] []),⟨none,.store 43 2 (.t 4) (.t 20),none⟩] false [4]) (.ret)
def zja:ACode:=.cond (.t 16) (.seq (.reg 0 [o_ 17 (.mov (.t 0)),o_ 18 (.nilchk (.t 17)),o_ 19 (.faddr 46 7 15 (.t 18)),⟨none,.store 12 1 (.t 19) (.c (.bool true)),none⟩] false [4]) (zjb)) (.skip)
def ziZ:ACode:=.seq (.reg 0 [o_ 21 (.mov (.t 0)),o_ 22 (.nilchk (.t 21)),o_ 23 (.faddr 46 0 0 (.t 22)),o_ 24 (.faddr 1 0 0 (.t 23)),o_ 25 (.load 17 false 1 (.t 24)),o_ 26 (.mov (.t 1)),o_ 27 (.iaddr 17 2 (.t 25) (.t 26)),o_ 28 (.load 43 true 2 (.t 27)),⟨none,.store 43 2 (.t 4) (.t 28),none⟩] false [4]) (.ret)
def ziY:ACode:=.seq (.seq (.reg 0 [o_ 5 (.mov (.t 1)),o_ 6 (.bin .lss .other 27 (.t 5) (.c (.int .i64 0))),o_ 7 (.mov (.t 6)),p_ 8 (.mov (.t 1)) 2 7 false,p_ 9 (.mov (.t 0)) 2 7 false,p_ 10 (.nilchk (.t 9)) 2 7 false,p_ 11 (.faddr 46 0 0 (.t 10)) 2 7 false,p_ 12 (.faddr 1 0 0 (.t 11)) 2 7 false,p_ 13 (.load 17 false 1 (.t 12)) 2 7 false,p_ 14 (.len 17 (.t 13)) 2 7 false,p_ 15 (.bin .geq .other 27 (.t 8) (.t 14)) 2 7 false,o_ 16 (.pick (.t 7) (.c (.bool true)) (.t 15))] false [0,1,4,16]) (zja)) (ziZ)
def ziX:ACode:=.seq (.reg 1 [o_ 4 (.alloc 0 43 [.nils,.int .u8 0])] false [0,1,4]) (ziY)
def zed:AFun:={ nt:=29,res:=[.cell 4 43 true 2],code:=(ziX) }
def zhR:ACode:=.cond (.t 15) (.seq (.reg 0 [o_ 16 (.mov (.t 0)),o_ 17 (.nilchk (.t 16)),o_ 18 (.faddr 46 7 15 (.t 17)),⟨none,.store 12 1 (.t 18) (.c (.bool true)),none⟩] false []) (.seq (.reg 0 [o_ 4 (.asg (.c (.int .u8 1)))] false [4]) (.ret))) (.skip)
def zhQ:ACode:=.seq (.reg 0 [o_ 19 (.mov (.t 0)),o_ 20 (.nilchk (.t 19)),o_ 21 (.faddr 46 2 10 (.t 20)),o_ 22 (.load 50 false 1 (.t 21)),o_ 23 (.mov (.t 1)),o_ 24 (.iaddr 50 1 (.t 22) (.t 23)),o_ 25 (.load 51 false 1 (.t 24)),o_ 4 (.asg (.t 25))] false [4]) (.ret)
def zhP:ACode:=.seq (.seq (.reg 0 [o_ 5 (.mov (.t 1)),o_ 6 (.bin .lss .other 27 (.t 5) (.c (.int .i64 0))),o_ 7 (.mov (.t 6)),p_ 8 (.mov (.t 1)) 2 7 false,p_ 9 (.mov (.t 0)) 2 7 false,p_ 10 (.nilchk (.t 9)) 2 7 false,p_ 11 (.faddr 46 2 10 (.t 10)) 2 7 false,p_ 12 (.load 50 false 1 (.t 11)) 2 7 false,p_ 13 (.len 50 (.t 12)) 2 7 false,p_ 14 (.bin .geq .other 27 (.t 8) (.t 13)) 2 7 false,o_ 15 (.pick (.t 7) (.c (.bool true)) (.t 14))] false [0,1,15]) (zhR)) (zhQ)
def zhO:ACode:=.seq (.reg 0 [o_ 4 (.asg (.c (.int .u8 0)))] false [0,1]) (zhP)
def zdd:AFun:={ nt:=26,res:=[.t 4],code:=(zhO) }
def zhj:ACode:=.seq (.reg 0 [o_ 20 (.build 21 [.int .u8 0,.bool false,.int .u8 0,.int .i64 0,.int .u32 0,.int .u32 0,.int .u8 0,.nils,.nils,.nils] [(0,0,1,.c (.int .u8 1)),(1,1,1,.c (.bool true))]),⟨none,.store 21 10 (.t 4) (.t 20),none⟩] false [4]) (.ret)
def zhi:ACode:=.cond (.t 16) (.seq (.reg 0 [o_ 17 (.mov (.t 0)),o_ 18 (.nilchk (.t 17)),o_ 19 (.faddr 46 7 15 (.t 18)),⟨none,.store 12 1 (.t 19) (.c (.bool true)),none⟩] false [4]) (zhj)) (.skip)
def zhh:ACode:=.seq (.reg 0 [o_ 21 (.mov (.t 0)),o_ 22 (.nilchk (.t 21)),o_ 23 (.faddr 46 0 0 (.t 22)),o_ 24 (.faddr 1 4 4 (.t 23)),o_ 25 (.load 20 false 1 (.t 24)),o_ 26 (.mov (.t 1)),o_ 27 (.iaddr 20 10 (.t 25) (.t 26)),o_ 28 (.load 21 true 10 (.t 27)),⟨none,.store 21 10 (.t 4) (.t 28),none⟩] false [4]) (.ret)
def zhg:ACode:=.seq (.seq (.reg 0 [o_ 5 (.mov (.t 1)),o_ 6 (.bin .lss .other 27 (.t 5) (.c (.int .i64 0))),o_ 7 (.mov (.t 6)),p_ 8 (.mov (.t 1)) 2 7 false,p_ 9 (.mov (.t 0)) 2 7 false,p_ 10 (.nilchk (.t 9)) 2 7 false,p_ 11 (.faddr 46 0 0 (.t 10)) 2 7 false,p_ 12 (.faddr 1 4 4 (.t 11)) 2 7 false,p_ 13 (.load 20 false 1 (.t 12)) 2 7 false,p_ 14 (.len 20 (.t 13)) 2 7 false,p_ 15 (.bin .geq .other 27 (.t 8) (.t 14)) 2 7 false,o_ 16 (.pick (.t 7) (.c (.bool true)) (.t 15))] false [0,1,4,16]) (zhi)) (zhh)
def zhf:ACode:=.seq (.reg 1 [o_ 4 (.alloc 0 21 [.int .u8 0,.bool false,.int .u8 0,.int .i64 0,.int .u32 0,.int .u32 0,.int .u8 0,.nils,.nils,.nils])] false [0,1,4]) (zhg)
def zcV:AFun:={ nt:=29,res:=[.cell 4 21 true 10],code:=(zhf) }
def zhN:ACode:=.cond (.t 18) (.seq (.reg 0 [o_ 19 (.mov (.t 0)),o_ 20 (.nilchk (.t 19)),o_ 21 (.faddr 46 7 15 (.t 20)),⟨none,.store 12 1 (.t 21) (.c (.bool true)),none⟩] false []) (.ret)) (.skip)
def zhM:ACode:=.cond (.t 30) (.reg 0 [o_ 31 (.mov (.t 0)),o_ 32 (.mov (.t 0)),o_ 33 (.nilchk (.t 32)),o_ 34 (.faddr 46 7 15 (.t 33)),o_ 35 (.load 12 false 1 (.t 34)),o_ 36 (.mov (.t 35)),p_ 37 (.faddr 3 2 2 (.t 3)) 5 36 false,p_ 38 (.load 13 false 1 (.t 37)) 5 36 false,p_ 39 (.bin .gtr .other 13 (.t 38) (.c (.int .u32 3))) 5 36 false,o_ 40 (.pick (.t 36) (.c (.bool true)) (.t 39)),o_ 41 (.mov (.t 40)),p_ 42 (.faddr 3 2 2 (.t 3)) 10 41 false,p_ 43 (.load 13 false 1 (.t 42)) 10 41 false,p_ 44 (.bin .shl .other 2 (.c (.int .i64 1)) (.t 43)) 10 41 false,p_ 45 (.mov (.t 6)) 10 41 false,p_ 46 (.bin .gtr .other 2 (.t 44) (.t 45)) 10 41 false,o_ 47 (.pick (.t 41) (.c (.bool true)) (.t 46)),o_ 48 (.nilchk (.t 31)),o_ 49 (.faddr 46 7 15 (.t 48)),⟨none,.store 12 1 (.t 49) (.t 47),none⟩] false [0,3,4]) (.skip)
def zhL:ACode:=.seq (.reg 0 [o_ 29 (.mov (.t 8)),o_ 30 (.bin .eql .iface 8 (.t 29) (.c .nili))] false [0,3,4,6,30]) (zhM)
def zhK:ACode:=.cond (.t 88) (.reg 0 [o_ 89 (.mov (.t 0)),o_ 90 (.nilchk (.t 89)),o_ 91 (.faddr 46 7 15 (.t 90)),⟨none,.store 12 1 (.t 91) (.c (.bool true)),none⟩] false [0,4]) (.skip)
def zhJ:ACode:=.reg 0 [o_ 92 (.mov (.t 0)),o_ 93 (.load 43 true 2 (.t 4)),o_ 94 (.calls 75 [.t 92,.t 93])] false []
def zhI:ACode:=.seq (.seq (.reg 0 [o_ 62 (.mov (.t 5)),o_ 63 (.bin .neq .iface 8 (.t 62) (.c .nili)),o_ 64 (.mov (.t 63)),p_ 65 (.mov (.t 10)) 2 64 false,p_ 66 (.mov (.t 65)) 2 64 false,p_ 67 (.mov (.t 0)) 4 66 true,p_ 68 (.nilchk (.t 67)) 4 66 true,p_ 69 (.faddr 46 0 0 (.t 68)) 4 66 true,p_ 70 (.faddr 1 3 3 (.t 69)) 4 66 true,p_ 71 (.load 18 false 1 (.t 70)) 4 66 true,p_ 72 (.len 18 (.t 71)) 4 66 true,p_ 73 (.bin .eql .other 2 (.t 72) (.c (.int .i64 0))) 4 66 true,p_ 74 (.pick (.t 66) (.t 73) (.c (.bool false))) 2 64 false,o_ 75 (.pick (.t 64) (.c (.bool true)) (.t 74)),o_ 76 (.mov (.t 75)),p_ 77 (.mov (.t 9)) 14 76 false,p_ 78 (.bin .eql .other 2 (.t 77) (.c (.int .i64 1))) 14 76 false,p_ 79 (.mov (.t 78)) 14 76 false,p_ 80 (.faddr 3 1 1 (.t 3)) 17 79 true,p_ 81 (.load 27 false 1 (.t 80)) 17 79 true,p_ 82 (.faddr 3 1 1 (.t 3)) 17 79 true,p_ 83 (.load 27 false 1 (.t 82)) 17 79 true,p_ 84 (.convi .i32 27 58 (.t 83)) 17 79 true,p_ 85 (.convi .i64 58 27 (.t 84)) 17 79 true,p_ 86 (.bin .neq .other 27 (.t 81) (.t 85)) 17 79 true,p_ 87 (.pick (.t 79) (.t 86) (.c (.bool false))) 14 76 false,o_ 88 (.pick (.t 76) (.c (.bool true)) (.t 87))] false [0,4,88]) (zhK)) (zhJ)
def zhH:ACode:=.seq (.reg 0 [o_ 56 (.mov (.t 9)),o_ 57 (.bin .eql .other 2 (.t 56) (.c (.int .i64 4))),o_ 58 (.mov (.t 57)),p_ 59 (.mov (.t 9)) 2 58 false,p_ 60 (.bin .eql .other 2 (.t 59) (.c (.int .i64 5))) 2 58 false,o_ 61 (.pick (.t 58) (.c (.bool true)) (.t 60)),o_ 10 (.asg (.t 61))] false [0,3,4,5,9,10]) (zhI)
def zhG:ACode:=.seq (.reg 0 [o_ 51 (.faddr 3 0 0 (.t 3)),o_ 52 (.load 7 false 1 (.t 51)),o_ 53 (.callp 87 [.t 52]),o_ 50 (.mov (.t 53)),o_ 54 (.ext (.t 50) 0),o_ 55 (.ext (.t 50) 1),o_ 9 (.asg (.t 54)),o_ 5 (.asg (.t 55))] false [0,3,4,5,9]) (zhH)
def zhF:ACode:=.seq (.seq (.reg 0 [o_ 23 (.faddr 3 0 0 (.t 3)),o_ 24 (.load 7 false 1 (.t 23)),o_ 25 (.callp 86 [.t 24]),o_ 22 (.mov (.t 25)),o_ 26 (.ext (.t 22) 0),o_ 27 (.ext (.t 22) 1),o_ 28 (.ext (.t 22) 2),o_ 6 (.asg (.t 26)),o_ 7 (.asg (.t 27)),o_ 8 (.asg (.t 28))] false [0,3,4,6,8]) (zhL)) (zhG)
def zhe:ACode:=.seq (.seq (.reg 0 [o_ 17 (.mov (.t 5)),o_ 18 (.bin .neq .iface 8 (.t 17) (.c .nili))] false [0,3,4,18]) (zhN)) (zhF)
def zhd:ACode:=.seq (.reg 1 [o_ 12 (.faddr 3 0 0 (.t 3)),o_ 13 (.load 7 false 1 (.t 12)),o_ 14 (.callp 85 [.t 13]),o_ 11 (.mov (.t 14)),o_ 15 (.ext (.t 11) 0),o_ 16 (.ext (.t 11) 1),o_ 4 (.alloc 0 43 [.nils,.int .u8 0]),⟨none,.store 43 2 (.t 4) (.t 15),none⟩,o_ 5 (.asg (.t 16))] false [0,3,4,5]) (zhe)
def zhc:ACode:=.seq (.reg 1 [o_ 3 (.box 0 3 (.t 1))] false [0,3]) (zhd)
def zdc:AFun:={ nt:=95,res:=[],code:=(zhc) }
def zvi:ACode:=.cond (.t 91) (.seq (.reg 0 [o_ 2 (.asg (.c (.str b63_)))] false [2]) (.ret)) (.skip)
def zvh:ACode:=.cond (.t 88) (.seq (.reg 0 [o_ 2 (.asg (.c (.str b64_)))] false [2]) (.ret)) (.seq (.reg 0 [o_ 92 (.mov (.t 8)),o_ 93 (.bin .eql .other 2 (.t 92) (.c (.int .i64 173))),o_ 91 (.asg (.t 93))] false [0,91]) (zvi))
def zvg:ACode:=.cond (.t 85) (.seq (.reg 0 [o_ 2 (.asg (.c (.str b71_)))] false [2]) (.ret)) (.seq (.reg 0 [o_ 89 (.mov (.t 8)),o_ 90 (.bin .eql .other 2 (.t 89) (.c (.int .i64 172))),o_ 88 (.asg (.t 90))] false [0,8,88]) (zvh))
def zvf:ACode:=.cond (.t 73) (.seq (.reg 0 [o_ 80 (.mov (.t 7)),o_ 81 (.mov (.t 8)),o_ 82 (.bin .sub .other 2 (.t 81) (.c (.int .i64 58))),o_ 83 (.iaddr 61 1 (.t 80) (.t 82)),o_ 84 (.load 39 false 1 (.t 83)),o_ 2 (.asg (.t 84))] false [2]) (.ret)) (.seq (.reg 0 [o_ 86 (.mov (.t 8)),o_ 87 (.bin .eql .other 2 (.t 86) (.c (.int .i64 167))),o_ 85 (.asg (.t 87))] false [0,8,85]) (zvg))
def zve:ACode:=.cond (.t 61) (.seq (.reg 0 [o_ 68 (.mov (.t 6)),o_ 69 (.mov (.t 8)),o_ 70 (.bin .sub .other 2 (.t 69) (.c (.int .i64 44))),o_ 71 (.iaddr 61 1 (.t 68) (.t 70)),o_ 72 (.load 39 false 1 (.t 71)),o_ 2 (.asg (.t 72))] false [2]) (.ret)) (.seq (.reg 0 [o_ 74 (.mov (.t 8)),o_ 75 (.bin .geq .other 2 (.t 74) (.c (.int .i64 58))),o_ 76 (.mov (.t 75)),p_ 77 (.mov (.t 8)) 2 76 true,p_ 78 (.bin .leq .other 2 (.t 77) (.c (.int .i64 66))) 2 76 true,o_ 79 (.pick (.t 76) (.t 78) (.c (.bool false))),o_ 73 (.asg (.t 79))] false [0,7,8,73]) (zvf))
def zvd:ACode:=.cond (.t 58) (.seq (.reg 0 [o_ 2 (.asg (.c (.str b77_)))] false [2]) (.ret)) (.seq (.reg 0 [o_ 62 (.mov (.t 8)),o_ 63 (.bin .geq .other 2 (.t 62) (.c (.int .i64 44))),o_ 64 (.mov (.t 63)),p_ 65 (.mov (.t 8)) 2 64 true,p_ 66 (.bin .leq .other 2 (.t 65) (.c (.int .i64 55))) 2 64 true,o_ 67 (.pick (.t 64) (.t 66) (.c (.bool false))),o_ 61 (.asg (.t 67))] false [0,6,7,8,61]) (zve))
def zvc:ACode:=.cond (.t 55) (.seq (.reg 0 [o_ 2 (.asg (.c (.str b78_)))] false [2]) (.ret)) (.seq (.reg 0 [o_ 59 (.mov (.t 8)),o_ 60 (.bin .eql .other 2 (.t 59) (.c (.int .i64 41))),o_ 58 (.asg (.t 60))] false [0,6,7,8,58]) (zvd))
def zvb:ACode:=.cond (.t 43) (.seq (.reg 0 [o_ 50 (.mov (.t 5)),o_ 51 (.mov (.t 8)),o_ 52 (.bin .sub .other 2 (.t 51) (.c (.int .i64 32))),o_ 53 (.iaddr 61 1 (.t 50) (.t 52)),o_ 54 (.load 39 false 1 (.t 53)),o_ 2 (.asg (.t 54))] false [2]) (.ret)) (.seq (.reg 0 [o_ 56 (.mov (.t 8)),o_ 57 (.bin .eql .other 2 (.t 56) (.c (.int .i64 40))),o_ 55 (.asg (.t 57))] false [0,6,7,8,55]) (zvc))
def zva:ACode:=.cond (.t 40) (.seq (.reg 0 [o_ 2 (.asg (.c (.str b80_)))] false [2]) (.ret)) (.seq (.reg 0 [o_ 44 (.mov (.t 8)),o_ 45 (.bin .geq .other 2 (.t 44) (.c (.int .i64 32))),o_ 46 (.mov (.t 45)),p_ 47 (.mov (.t 8)) 2 46 true,p_ 48 (.bin .leq .other 2 (.t 47) (.c (.int .i64 36))) 2 46 true,o_ 49 (.pick (.t 46) (.t 48) (.c (.bool false))),o_ 43 (.asg (.t 49))] false [0,5,6,7,8,43]) (zvb))
def zsJ:ACode:=.cond (.t 37) (.seq (.reg 0 [o_ 2 (.asg (.c (.str b85_)))] false [2]) (.ret)) (.seq (.reg 0 [o_ 41 (.mov (.t 8)),o_ 42 (.bin .eql .other 2 (.t 41) (.c (.int .i64 27))),o_ 40 (.asg (.t 42))] false [0,5,6,7,8,40]) (zva))
def zsI:ACode:=.cond (.t 25) (.seq (.reg 0 [o_ 32 (.mov (.t 4)),o_ 33 (.mov (.t 8)),o_ 34 (.bin .sub .other 2 (.t 33) (.c (.int .i64 12))),o_ 35 (.iaddr 61 1 (.t 32) (.t 34)),o_ 36 (.load 39 false 1 (.t 35)),o_ 2 (.asg (.t 36))] false [2]) (.ret)) (.seq (.reg 0 [o_ 38 (.mov (.t 8)),o_ 39 (.bin .eql .other 2 (.t 38) (.c (.int .i64 26))),o_ 37 (.asg (.t 39))] false [0,5,6,7,8,37]) (zsJ))
def zsH:ACode:=.cond (.t 18) (.seq (.reg 0 [o_ 21 (.mov (.t 3)),o_ 22 (.mov (.t 8)),o_ 23 (.iaddr 61 1 (.t 21) (.t 22)),o_ 24 (.load 39 false 1 (.t 23)),o_ 2 (.asg (.t 24))] false [2]) (.ret)) (.seq (.reg 0 [o_ 26 (.mov (.t 8)),o_ 27 (.bin .geq .other 2 (.t 26) (.c (.int .i64 12))),o_ 28 (.mov (.t 27)),p_ 29 (.mov (.t 8)) 2 28 true,p_ 30 (.bin .leq .other 2 (.t 29) (.c (.int .i64 17))) 2 28 true,o_ 31 (.pick (.t 28) (.t 30) (.c (.bool false))),o_ 25 (.asg (.t 31))] false [0,4,5,6,7,8,25]) (zsI))
def zsG:ACode:=.cond (.t 100) (.seq (.reg 0 [o_ 2 (.asg (.c (.str b155_)))] false [2]) (.ret)) (.skip)
def zsF:ACode:=.cond (.t 102) (.seq (.reg 0 [o_ 103 (.mov (.t 9)),o_ 104 (.bin .add .other 39 (.c (.str b86_)) (.t 103)),o_ 2 (.asg (.t 104))] false [2]) (.ret)) (.skip)
def zsE:ACode:=.seq (.reg 0 [o_ 105 (.mov (.t 9)),o_ 106 (.bin .add .other 39 (.c (.str b74_)) (.t 105)),o_ 2 (.asg (.t 106))] false [2]) (.ret)
def zsD:ACode:=.seq (.seq (.reg 0 [o_ 101 (.mov (.t 10)),o_ 102 (.bin .eql .other 2 (.t 101) (.c (.int .i64 32)))] false [9,102]) (zsF)) (zsE)
def zsC:ACode:=.seq (.seq (.reg 0 [o_ 99 (.mov (.t 9)),o_ 100 (.bin .eql .other 39 (.t 99) (.c (.str b155_)))] false [9,10,100]) (zsG)) (zsD)
def zsB:ACode:=.seq (.reg 0 [o_ 95 (.mov (.t 0)),o_ 96 (.callp 83 [.t 95]),o_ 94 (.mov (.t 96)),o_ 97 (.ext (.t 94) 0),o_ 98 (.ext (.t 94) 1),o_ 9 (.asg (.t 97)),o_ 10 (.asg (.t 98))] false [9,10]) (zsC)
def zsA:ACode:=.seq (.block 0 (.seq (.reg 0 [o_ 19 (.mov (.t 8)),o_ 20 (.bin .leq .other 2 (.t 19) (.c (.int .i64 4))),o_ 18 (.asg (.t 20))] false [0,3,4,5,6,7,8,18]) (zsH))) (zsB)
def zsz:ACode:=.seq (.reg 0 [o_ 16 (.mov (.t 0)),o_ 17 (.convi .i64 7 2 (.t 16)),o_ 8 (.asg (.t 17))] false [0,3,4,5,6,7,8]) (zsA)
def zsy:ACode:=.seq (.reg 1 [o_ 15 (.bslice 0 61 [.str b155_] 9 [(0,.c (.str b16_)),(1,.c (.str b8_)),(2,.c (.str b17_)),(3,.c (.str b9_)),(4,.c (.str b10_)),(5,.c (.str b0_)),(6,.c (.str b1_)),(7,.c (.str b20_)),(8,.c (.str b19_))]),o_ 7 (.asg (.t 15))] false [0,3,4,5,6,7]) (zsz)
def zsx:ACode:=.seq (.reg 1 [o_ 14 (.bslice 0 61 [.str b155_] 12 [(0,.c (.str b12_)),(1,.c (.str b13_)),(2,.c (.str b2_)),(3,.c (.str b3_)),(4,.c (.str b14_)),(5,.c (.str b15_)),(6,.c (.str b4_)),(7,.c (.str b5_)),(8,.c (.str b6_)),(9,.c (.str b7_)),(10,.c (.str b22_)),(11,.c (.str b23_))]),o_ 6 (.asg (.t 14))] false [0,3,4,5,6]) (zsy)
def zsw:ACode:=.seq (.reg 1 [o_ 13 (.bslice 0 61 [.str b155_] 5 [(0,.c (.str b26_)),(1,.c (.str b25_)),(2,.c (.str b24_)),(3,.c (.str b18_)),(4,.c (.str b21_))]),o_ 5 (.asg (.t 13))] false [0,3,4,5]) (zsx)
def zsv:ACode:=.seq (.reg 1 [o_ 12 (.bslice 0 61 [.str b155_] 6 [(0,.c (.str b67_)),(1,.c (.str b37_)),(2,.c (.str b29_)),(3,.c (.str b36_)),(4,.c (.str b44_)),(5,.c (.str b11_))]),o_ 4 (.asg (.t 12))] false [0,3,4]) (zsw)
def zsu:ACode:=.seq (.reg 1 [o_ 11 (.bslice 0 61 [.str b155_] 5 [(0,.c (.str b28_)),(1,.c (.str b60_)),(2,.c (.str b38_)),(3,.c (.str b43_)),(4,.c (.str b65_))]),o_ 3 (.asg (.t 11))] false [0,3]) (zsv)
def zst:ACode:=.seq (.reg 0 [o_ 2 (.asg (.c (.str b155_)))] false [0]) (zsu)
def zpI:AFun:={ nt:=107,res:=[.t 2],code:=(zst) }
def zvl:ACode:=.cond (.t 4) (.seq (.reg 0 [o_ 2 (.asg (.c (.int .u8 126)))] false [2]) (.ret)) (.skip)
def zvk:ACode:=.seq (.seq (.reg 0 [o_ 3 (.mov (.t 0)),o_ 4 (.callp 82 [.t 3,.c (.str b74_)])] false [4]) (zvl)) (.seq (.reg 0 [o_ 2 (.asg (.c (.int .u8 127)))] false [2]) (.ret))
def zvj:ACode:=.seq (.reg 0 [o_ 2 (.asg (.c (.int .u8 0)))] false [0]) (zvk)
def zpJ:AFun:={ nt:=5,res:=[.t 2],code:=(zvj) }
def zww:ACode:=.seq (.reg 0 [o_ 5 (.mov (.t 0)),o_ 6 (.lenS 39 (.t 5)),o_ 7 (.mov (.t 1)),o_ 8 (.lenS 39 (.t 7)),o_ 9 (.bin .geq .other 2 (.t 6) (.t 8)),o_ 10 (.mov (.t 9)),p_ 11 (.mov (.t 0)) 5 10 true,p_ 12 (.mov (.t 1)) 5 10 true,p_ 13 (.lenS 39 (.t 12)) 5 10 true,p_ 14 (.slcS 39 (.t 11) none (some (.t 13))) 5 10 true,p_ 15 (.mov (.t 1)) 5 10 true,p_ 16 (.bin .eql .other 39 (.t 14) (.t 15)) 5 10 true,o_ 17 (.pick (.t 10) (.t 16) (.c (.bool false))),o_ 4 (.asg (.t 17))] false [4]) (.ret)
def zwv:ACode:=.seq (.reg 0 [o_ 4 (.asg (.c (.bool false)))] false [0,1]) (zww)
def zuQ:AFun:={ nt:=18,res:=[.t 4],code:=(zwv) }
def zvD:ACode:=.cond (.t 91) (.seq (.reg 0 [o_ 2 (.asg (.c (.str b68_))),o_ 3 (.asg (.c (.int .i64 32)))] false [2,3]) (.ret)) (.skip)
def zvC:ACode:=.cond (.t 88) (.seq (.reg 0 [o_ 2 (.asg (.c (.str b61_))),o_ 3 (.asg (.c (.int .i64 32)))] false [2,3]) (.ret)) (.seq (.reg 0 [o_ 92 (.mov (.t 7)),o_ 93 (.bin .eql .other 2 (.t 92) (.c (.int .i64 173))),o_ 91 (.asg (.t 93))] false [91]) (zvD))
def zvB:ACode:=.cond (.t 85) (.seq (.reg 0 [o_ 2 (.asg (.c (.str b79_))),o_ 3 (.asg (.c (.int .i64 64)))] false [2,3]) (.ret)) (.seq (.reg 0 [o_ 89 (.mov (.t 7)),o_ 90 (.bin .eql .other 2 (.t 89) (.c (.int .i64 172))),o_ 88 (.asg (.t 90))] false [7,88]) (zvC))
def zvA:ACode:=.cond (.t 73) (.seq (.reg 0 [o_ 80 (.mov (.t 5)),o_ 81 (.mov (.t 7)),o_ 82 (.bin .sub .other 2 (.t 81) (.c (.int .i64 124))),o_ 83 (.iaddr 61 1 (.t 80) (.t 82)),o_ 84 (.load 39 false 1 (.t 83)),o_ 2 (.asg (.t 84)),o_ 3 (.asg (.c (.int .i64 64)))] false [2,3]) (.ret)) (.seq (.reg 0 [o_ 86 (.mov (.t 7)),o_ 87 (.bin .eql .other 2 (.t 86) (.c (.int .i64 167))),o_ 85 (.asg (.t 87))] false [7,85]) (zvB))
def zvz:ACode:=.cond (.t 61) (.seq (.reg 0 [o_ 68 (.mov (.t 4)),o_ 69 (.mov (.t 7)),o_ 70 (.bin .sub .other 2 (.t 69) (.c (.int .i64 121))),o_ 71 (.iaddr 61 1 (.t 68) (.t 70)),o_ 72 (.load 39 false 1 (.t 71)),o_ 2 (.asg (.t 72)),o_ 3 (.asg (.c (.int .i64 64)))] false [2,3]) (.ret)) (.seq (.reg 0 [o_ 74 (.mov (.t 7)),o_ 75 (.bin .geq .other 2 (.t 74) (.c (.int .i64 124))),o_ 76 (.mov (.t 75)),p_ 77 (.mov (.t 7)) 2 76 true,p_ 78 (.bin .leq .other 2 (.t 77) (.c (.int .i64 138))) 2 76 true,o_ 79 (.pick (.t 76) (.t 78) (.c (.bool false))),o_ 73 (.asg (.t 79))] false [5,7,73]) (zvA))
def zvy:ACode:=.cond (.t 49) (.seq (.reg 0 [o_ 56 (.mov (.t 5)),o_ 57 (.mov (.t 7)),o_ 58 (.bin .sub .other 2 (.t 57) (.c (.int .i64 106))),o_ 59 (.iaddr 61 1 (.t 56) (.t 58)),o_ 60 (.load 39 false 1 (.t 59)),o_ 2 (.asg (.t 60)),o_ 3 (.asg (.c (.int .i64 32)))] false [2,3]) (.ret)) (.seq (.reg 0 [o_ 62 (.mov (.t 7)),o_ 63 (.bin .geq .other 2 (.t 62) (.c (.int .i64 121))),o_ 64 (.mov (.t 63)),p_ 65 (.mov (.t 7)) 2 64 true,p_ 66 (.bin .leq .other 2 (.t 65) (.c (.int .i64 123))) 2 64 true,o_ 67 (.pick (.t 64) (.t 66) (.c (.bool false))),o_ 61 (.asg (.t 67))] false [4,5,7,61]) (zvz))
def zvx:ACode:=.cond (.t 37) (.seq (.reg 0 [o_ 44 (.mov (.t 4)),o_ 45 (.mov (.t 7)),o_ 46 (.bin .sub .other 2 (.t 45) (.c (.int .i64 103))),o_ 47 (.iaddr 61 1 (.t 44) (.t 46)),o_ 48 (.load 39 false 1 (.t 47)),o_ 2 (.asg (.t 48)),o_ 3 (.asg (.c (.int .i64 32)))] false [2,3]) (.ret)) (.seq (.reg 0 [o_ 50 (.mov (.t 7)),o_ 51 (.bin .geq .other 2 (.t 50) (.c (.int .i64 106))),o_ 52 (.mov (.t 51)),p_ 53 (.mov (.t 7)) 2 52 true,p_ 54 (.bin .leq .other 2 (.t 53) (.c (.int .i64 120))) 2 52 true,o_ 55 (.pick (.t 52) (.t 54) (.c (.bool false))),o_ 49 (.asg (.t 55))] false [4,5,7,49]) (zvy))
def zvw:ACode:=.cond (.t 25) (.seq (.reg 0 [o_ 32 (.mov (.t 6)),o_ 33 (.mov (.t 7)),o_ 34 (.bin .sub .other 2 (.t 33) (.c (.int .i64 80))),o_ 35 (.iaddr 61 1 (.t 32) (.t 34)),o_ 36 (.load 39 false 1 (.t 35)),o_ 2 (.asg (.t 36)),o_ 3 (.asg (.c (.int .i64 64)))] false [2,3]) (.ret)) (.seq (.reg 0 [o_ 38 (.mov (.t 7)),o_ 39 (.bin .geq .other 2 (.t 38) (.c (.int .i64 103))),o_ 40 (.mov (.t 39)),p_ 41 (.mov (.t 7)) 2 40 true,p_ 42 (.bin .leq .other 2 (.t 41) (.c (.int .i64 105))) 2 40 true,o_ 43 (.pick (.t 40) (.t 42) (.c (.bool false))),o_ 37 (.asg (.t 43))] false [4,5,7,37]) (zvx))
def zvv:ACode:=.cond (.t 13) (.seq (.reg 0 [o_ 20 (.mov (.t 6)),o_ 21 (.mov (.t 7)),o_ 22 (.bin .sub .other 2 (.t 21) (.c (.int .i64 69))),o_ 23 (.iaddr 61 1 (.t 20) (.t 22)),o_ 24 (.load 39 false 1 (.t 23)),o_ 2 (.asg (.t 24)),o_ 3 (.asg (.c (.int .i64 32)))] false [2,3]) (.ret)) (.seq (.reg 0 [o_ 26 (.mov (.t 7)),o_ 27 (.bin .geq .other 2 (.t 26) (.c (.int .i64 80))),o_ 28 (.mov (.t 27)),p_ 29 (.mov (.t 7)) 2 28 true,p_ 30 (.bin .leq .other 2 (.t 29) (.c (.int .i64 90))) 2 28 true,o_ 31 (.pick (.t 28) (.t 30) (.c (.bool false))),o_ 25 (.asg (.t 31))] false [4,5,6,7,25]) (zvw))
def ztq:ACode:=.seq (.reg 0 [o_ 2 (.asg (.c (.str b155_))),o_ 3 (.asg (.c (.int .i64 0)))] false [2,3]) (.ret)
def ztp:ACode:=.seq (.block 0 (.seq (.reg 0 [o_ 14 (.mov (.t 7)),o_ 15 (.bin .geq .other 2 (.t 14) (.c (.int .i64 69))),o_ 16 (.mov (.t 15)),p_ 17 (.mov (.t 7)) 2 16 true,p_ 18 (.bin .leq .other 2 (.t 17) (.c (.int .i64 79))) 2 16 true,o_ 19 (.pick (.t 16) (.t 18) (.c (.bool false))),o_ 13 (.asg (.t 19))] false [4,5,6,7,13]) (zvv))) (ztq)
def zto:ACode:=.seq (.reg 0 [o_ 11 (.mov (.t 0)),o_ 12 (.convi .i64 7 2 (.t 11)),o_ 7 (.asg (.t 12))] false [4,5,6,7]) (ztp)
def ztn:ACode:=.seq (.reg 1 [o_ 10 (.bslice 0 61 [.str b155_] 11 [(0,.c (.str b59_)),(1,.c (.str b70_)),(2,.c (.str b69_)),(3,.c (.str b54_)),(4,.c (.str b53_)),(5,.c (.str b52_)),(6,.c (.str b51_)),(7,.c (.str b50_)),(8,.c (.str b49_)),(9,.c (.str b48_)),(10,.c (.str b58_))]),o_ 6 (.asg (.t 10))] false [0,4,5,6]) (zto)
def ztm:ACode:=.seq (.reg 1 [o_ 9 (.bslice 0 61 [.str b155_] 15 [(0,.c (.str b55_)),(1,.c (.str b56_)),(2,.c (.str b45_)),(3,.c (.str b30_)),(4,.c (.str b31_)),(5,.c (.str b32_)),(6,.c (.str b33_)),(7,.c (.str b57_)),(8,.c (.str b62_)),(9,.c (.str b46_)),(10,.c (.str b47_)),(11,.c (.str b34_)),(12,.c (.str b35_)),(13,.c (.str b39_)),(14,.c (.str b40_))]),o_ 5 (.asg (.t 9))] false [0,4,5]) (ztn)
def ztl:ACode:=.seq (.reg 1 [o_ 8 (.bslice 0 61 [.str b155_] 3 [(0,.c (.str b42_)),(1,.c (.str b41_)),(2,.c (.str b27_))]),o_ 4 (.asg (.t 8))] false [0,4]) (ztm)
def ztk:ACode:=.seq (.reg 0 [o_ 2 (.asg (.c (.str b155_))),o_ 3 (.asg (.c (.int .i64 0)))] false [0]) (ztl)
def zpL:AFun:={ nt:=94,res:=[.t 2,.t 3],code:=(ztk) }
def zye:ACode:=.cond (.t 39) (.seq (.reg 0 [o_ 42 (.mov (.t 4)),o_ 43 (.callp 89 [.t 42]),o_ 44 (.build 43 [.nils,.int .u8 0] [(1,1,1,.t 43)]),⟨none,.store 43 2 (.t 2) (.t 44),none⟩,o_ 3 (.asg (.c .nili))] false [2,3]) (.ret)) (.skip)
def zyd:ACode:=.cond (.t 34) (.seq (.reg 1 [o_ 37 (.bslice 0 50 [.int .u8 0] 1 [(0,.c (.int .u8 127))]),o_ 38 (.build 43 [.nils,.int .u8 0] [(0,0,1,.t 37),(1,1,1,.c (.int .u8 127))]),⟨none,.store 43 2 (.t 2) (.t 38),none⟩,o_ 3 (.asg (.c .nili))] false [2,3]) (.ret)) (.seq (.reg 0 [o_ 40 (.mov (.t 0)),o_ 41 (.bin .leq .other 7 (.t 40) (.c (.int .u8 66))),o_ 39 (.asg (.t 41))] false [2,4,39]) (zye))
def zyc:ACode:=.cond (.t 30) (.seq (.reg 0 [o_ 33 (.build 43 [.nils,.int .u8 0] [(1,1,1,.c (.int .u8 127))]),⟨none,.store 43 2 (.t 2) (.t 33),none⟩,o_ 3 (.asg (.c .nili))] false [2,3]) (.ret)) (.seq (.reg 0 [o_ 35 (.mov (.t 0)),o_ 36 (.bin .eql .other 7 (.t 35) (.c (.int .u8 64))),o_ 34 (.asg (.t 36))] false [0,2,4,34]) (zyd))
def zyb:ACode:=.cond (.t 23) (.seq (.reg 1 [o_ 26 (.mov (.t 4)),o_ 27 (.callp 89 [.t 26]),o_ 28 (.bslice 0 50 [.int .u8 0] 2 [(0,.c (.int .u8 127)),(1,.t 27)]),o_ 29 (.build 43 [.nils,.int .u8 0] [(0,0,1,.t 28)]),⟨none,.store 43 2 (.t 2) (.t 29),none⟩,o_ 3 (.asg (.c .nili))] false [2,3]) (.ret)) (.seq (.reg 0 [o_ 31 (.mov (.t 0)),o_ 32 (.bin .eql .other 7 (.t 31) (.c (.int .u8 63))),o_ 30 (.asg (.t 32))] false [0,2,4,30]) (zyc))
def zya:ACode:=.cond (.t 16) (.seq (.reg 1 [o_ 19 (.bslice 0 50 [.int .u8 0] 1 [(0,.c (.int .u8 127))]),o_ 20 (.mov (.t 4)),o_ 21 (.callp 89 [.t 20]),o_ 22 (.build 43 [.nils,.int .u8 0] [(0,0,1,.t 19),(1,1,1,.t 21)]),⟨none,.store 43 2 (.t 2) (.t 22),none⟩,o_ 3 (.asg (.c .nili))] false [2,3]) (.ret)) (.seq (.reg 0 [o_ 24 (.mov (.t 0)),o_ 25 (.bin .leq .other 7 (.t 24) (.c (.int .u8 62))),o_ 23 (.asg (.t 25))] false [0,2,4,23]) (zyb))
def zxZ:ACode:=.cond (.t 7) (.seq (.reg 0 [o_ 14 (.build 43 [.nils,.int .u8 0] []),o_ 15 (.mkif 45 (.c (.int .i64 1))),⟨none,.store 43 2 (.t 2) (.t 14),none⟩,o_ 3 (.asg (.t 15))] false [2,3]) (.ret)) (.seq (.reg 0 [o_ 17 (.mov (.t 0)),o_ 18 (.bin .leq .other 7 (.t 17) (.c (.int .u8 53))),o_ 16 (.asg (.t 18))] false [0,2,4,16]) (zya))
def zxY:ACode:=.seq (.reg 0 [o_ 45 (.mov (.t 4)),o_ 46 (.callp 90 [.t 45]),⟨none,.store 43 2 (.t 2) (.t 46),none⟩,o_ 3 (.asg (.c .nili))] false [2,3]) (.ret)
def zxX:ACode:=.seq (.block 0 (.seq (.reg 0 [o_ 8 (.mov (.t 4)),o_ 9 (.bin .eql .other 39 (.t 8) (.c (.str b155_))),o_ 10 (.mov (.t 9)),p_ 11 (.mov (.t 0)) 2 10 false,p_ 12 (.bin .lss .other 7 (.t 11) (.c (.int .u8 40))) 2 10 false,o_ 13 (.pick (.t 10) (.c (.bool true)) (.t 12)),o_ 7 (.asg (.t 13))] false [0,2,4,7]) (zxZ))) (zxY)
def zxW:ACode:=.seq (.reg 0 [o_ 5 (.mov (.t 0)),o_ 6 (.callp 88 [.t 5]),o_ 4 (.asg (.t 6))] false [0,2,4]) (zxX)
def zwz:ACode:=.seq (.reg 1 [o_ 2 (.alloc 0 43 [.nils,.int .u8 0]),o_ 3 (.asg (.c .nili))] false [0,2]) (zxW)
def zpn:AFun:={ nt:=47,res:=[.cell 2 43 true 2,.t 3],code:=(zwz) }
def zwM:ACode:=.cond (.t 19) (.seq (.reg 0 [o_ 20 (.mkif 45 (.c (.int .i64 1))),o_ 2 (.asg (.c (.int .i64 0))),o_ 3 (.asg (.c (.bool false))),o_ 4 (.asg (.t 20))] false [2,3,4]) (.ret)) (.skip)
def zwL:ACode:=.cond (.t 36) (.seq (.reg 0 [o_ 44 (.mov (.t 7)),o_ 2 (.asg (.c (.int .i64 4))),o_ 3 (.asg (.t 44)),o_ 4 (.asg (.c .nili))] false [2,3,4]) (.ret)) (.skip)
def zwK:ACode:=.cond (.t 32) (.seq (.reg 0 [o_ 35 (.mov (.t 7)),o_ 2 (.asg (.c (.int .i64 2))),o_ 3 (.asg (.t 35)),o_ 4 (.asg (.c .nili))] false [2,3,4]) (.ret)) (.seq (.reg 0 [o_ 37 (.mov (.t 6)),o_ 38 (.callp 93 [.t 37,.c (.str b148_)]),o_ 39 (.mov (.t 38)),p_ 40 (.mov (.t 5)) 2 39 false,p_ 41 (.callp 89 [.t 40]) 2 39 false,p_ 42 (.bin .eql .other 51 (.t 41) (.c (.int .u8 127))) 2 39 false,o_ 43 (.pick (.t 39) (.c (.bool true)) (.t 42)),o_ 36 (.asg (.t 43))] false [7,36]) (zwL))
def zwJ:ACode:=.cond (.t 28) (.seq (.reg 0 [o_ 31 (.mov (.t 7)),o_ 2 (.asg (.c (.int .i64 1))),o_ 3 (.asg (.t 31)),o_ 4 (.asg (.c .nili))] false [2,3,4]) (.ret)) (.seq (.reg 0 [o_ 33 (.mov (.t 6)),o_ 34 (.callp 93 [.t 33,.c (.str b149_)]),o_ 32 (.asg (.t 34))] false [5,6,7,32]) (zwK))
def zwI:ACode:=.seq (.reg 0 [o_ 45 (.mov (.t 7)),o_ 2 (.asg (.c (.int .i64 8))),o_ 3 (.asg (.t 45)),o_ 4 (.asg (.c .nili))] false [2,3,4]) (.ret)
def zwH:ACode:=.seq (.block 0 (.seq (.reg 0 [o_ 29 (.mov (.t 6)),o_ 30 (.callp 93 [.t 29,.c (.str b151_)]),o_ 28 (.asg (.t 30))] false [5,6,7,28]) (zwJ))) (zwI)
def zwG:ACode:=.seq (.reg 0 [o_ 26 (.mov (.t 6)),o_ 27 (.callp 92 [.t 26,.c (.str b103_)]),o_ 6 (.asg (.t 27))] false [5,6,7]) (zwH)
def zwF:ACode:=.seq (.reg 0 [o_ 22 (.mov (.t 5)),o_ 23 (.callp 91 [.t 22,.c (.str b72_)]),o_ 21 (.mov (.t 23)),o_ 24 (.ext (.t 21) 0),o_ 25 (.ext (.t 21) 1),o_ 6 (.asg (.t 24)),o_ 7 (.asg (.t 25))] false [5,6,7]) (zwG)
def zwE:ACode:=.seq (.seq (.reg 0 [o_ 10 (.mov (.t 5)),o_ 11 (.bin .eql .other 39 (.t 10) (.c (.str b155_))),o_ 12 (.mov (.t 11)),p_ 13 (.mov (.t 0)) 2 12 false,p_ 14 (.bin .lss .other 7 (.t 13) (.c (.int .u8 40))) 2 12 false,o_ 15 (.pick (.t 12) (.c (.bool true)) (.t 14)),o_ 16 (.mov (.t 15)),p_ 17 (.mov (.t 0)) 6 16 false,p_ 18 (.bin .gtr .other 7 (.t 17) (.c (.int .u8 62))) 6 16 false,o_ 19 (.pick (.t 16) (.c (.bool true)) (.t 18))] false [5,19]) (zwM)) (zwF)
def zvH:ACode:=.seq (.reg 0 [o_ 8 (.mov (.t 0)),o_ 9 (.callp 88 [.t 8]),o_ 5 (.asg (.t 9))] false [0,5]) (zwE)
def zvG:ACode:=.seq (.reg 0 [o_ 2 (.asg (.c (.int .i64 0))),o_ 3 (.asg (.c (.bool false))),o_ 4 (.asg (.c .nili))] false [0]) (zvH)
def zmp:AFun:={ nt:=46,res:=[.t 2,.t 3,.t 4],code:=(zvG) }
def zyr:ACode:=.cond (.t 61) (.seq (.reg 0 [o_ 2 (.asg (.c (.int .i64 2))),o_ 3 (.asg (.c .nili))] false [2,3]) (.ret)) (.skip)
def zyq:ACode:=.cond (.t 58) (.seq (.reg 0 [o_ 2 (.asg (.c (.int .i64 1))),o_ 3 (.asg (.c .nili))] false [2,3]) (.ret)) (.seq (.reg 0 [o_ 62 (.mov (.t 0)),o_ 63 (.bin .eql .other 7 (.t 62) (.c (.int .u8 66))),o_ 61 (.asg (.t 63))] false [61]) (zyr))
def zyp:ACode:=.cond (.t 51) (.seq (.reg 0 [o_ 2 (.asg (.c (.int .i64 5))),o_ 3 (.asg (.c .nili))] false [2,3]) (.ret)) (.seq (.reg 0 [o_ 59 (.mov (.t 0)),o_ 60 (.bin .eql .other 7 (.t 59) (.c (.int .u8 65))),o_ 58 (.asg (.t 60))] false [0,58]) (zyq))
def zyo:ACode:=.cond (.t 44) (.seq (.reg 0 [o_ 2 (.asg (.c (.int .i64 4))),o_ 3 (.asg (.c .nili))] false [2,3]) (.ret)) (.seq (.reg 0 [o_ 52 (.mov (.t 0)),o_ 53 (.bin .eql .other 7 (.t 52) (.c (.int .u8 63))),o_ 54 (.mov (.t 53)),p_ 55 (.mov (.t 0)) 2 54 false,p_ 56 (.bin .eql .other 7 (.t 55) (.c (.int .u8 64))) 2 54 false,o_ 57 (.pick (.t 54) (.c (.bool true)) (.t 56)),o_ 51 (.asg (.t 57))] false [0,51]) (zyp))
def zyn:ACode:=.cond (.t 25) (.seq (.reg 0 [o_ 2 (.asg (.c (.int .i64 3))),o_ 3 (.asg (.c .nili))] false [2,3]) (.ret)) (.seq (.reg 0 [o_ 45 (.mov (.t 0)),o_ 46 (.bin .geq .other 7 (.t 45) (.c (.int .u8 40))),o_ 47 (.mov (.t 46)),p_ 48 (.mov (.t 0)) 2 47 true,p_ 49 (.bin .leq .other 7 (.t 48) (.c (.int .u8 62))) 2 47 true,o_ 50 (.pick (.t 47) (.t 49) (.c (.bool false))),o_ 44 (.asg (.t 50))] false [0,44]) (zyo))
def zym:ACode:=.cond (.t 22) (.seq (.reg 0 [o_ 2 (.asg (.c (.int .i64 9))),o_ 3 (.asg (.c .nili))] false [2,3]) (.ret)) (.seq (.reg 0 [o_ 26 (.mov (.t 0)),o_ 27 (.bin .eql .other 7 (.t 26) (.c (.int .u8 12))),o_ 28 (.mov (.t 27)),p_ 29 (.mov (.t 0)) 2 28 false,p_ 30 (.bin .eql .other 7 (.t 29) (.c (.int .u8 13))) 2 28 false,o_ 31 (.pick (.t 28) (.c (.bool true)) (.t 30)),o_ 32 (.mov (.t 31)),p_ 33 (.mov (.t 0)) 6 32 false,p_ 34 (.bin .eql .other 7 (.t 33) (.c (.int .u8 16))) 6 32 false,o_ 35 (.pick (.t 32) (.c (.bool true)) (.t 34)),o_ 36 (.mov (.t 35)),p_ 37 (.mov (.t 0)) 10 36 false,p_ 38 (.bin .geq .other 7 (.t 37) (.c (.int .u8 32))) 10 36 false,p_ 39 (.mov (.t 38)) 10 36 false,p_ 40 (.mov (.t 0)) 13 39 true,p_ 41 (.bin .leq .other 7 (.t 40) (.c (.int .u8 36))) 13 39 true,p_ 42 (.pick (.t 39) (.t 41) (.c (.bool false))) 10 36 false,o_ 43 (.pick (.t 36) (.c (.bool true)) (.t 42)),o_ 25 (.asg (.t 43))] false [0,25]) (zyn))
def zyl:ACode:=.cond (.t 19) (.seq (.reg 0 [o_ 2 (.asg (.c (.int .i64 8))),o_ 3 (.asg (.c .nili))] false [2,3]) (.ret)) (.seq (.reg 0 [o_ 23 (.mov (.t 0)),o_ 24 (.bin .eql .other 7 (.t 23) (.c (.int .u8 17))),o_ 22 (.asg (.t 24))] false [0,22]) (zym))
def zyk:ACode:=.cond (.t 16) (.seq (.reg 0 [o_ 2 (.asg (.c (.int .i64 7))),o_ 3 (.asg (.c .nili))] false [2,3]) (.ret)) (.seq (.reg 0 [o_ 20 (.mov (.t 0)),o_ 21 (.bin .eql .other 7 (.t 20) (.c (.int .u8 14))),o_ 19 (.asg (.t 21))] false [0,19]) (zyl))
def zyj:ACode:=.cond (.t 9) (.seq (.reg 0 [o_ 2 (.asg (.c (.int .i64 6))),o_ 3 (.asg (.c .nili))] false [2,3]) (.ret)) (.seq (.reg 0 [o_ 17 (.mov (.t 0)),o_ 18 (.bin .eql .other 7 (.t 17) (.c (.int .u8 4))),o_ 16 (.asg (.t 18))] false [0,16]) (zyk))
def zwD:ACode:=.cond (.t 4) (.seq (.reg 0 [o_ 8 (.mkif 45 (.c (.int .i64 1))),o_ 2 (.asg (.c (.int .i64 0))),o_ 3 (.asg (.t 8))] false [2,3]) (.ret)) (.seq (.reg 0 [o_ 10 (.mov (.t 0)),o_ 11 (.bin .eql .other 7 (.t 10) (.c (.int .u8 2))),o_ 12 (.mov (.t 11)),p_ 13 (.mov (.t 0)) 2 12 false,p_ 14 (.bin .eql .other 7 (.t 13) (.c (.int .u8 3))) 2 12 false,o_ 15 (.pick (.t 12) (.c (.bool true)) (.t 14)),o_ 9 (.asg (.t 15))] false [0,9]) (zyj))
def zwC:ACode:=.seq (.reg 0 [o_ 2 (.asg (.c (.int .i64 0))),o_ 3 (.asg (.c .nili))] false [2,3]) (.ret)
def zwB:ACode:=.seq (.block 0 (.seq (.reg 0 [o_ 5 (.mov (.t 0)),o_ 6 (.callp 88 [.t 5]),o_ 7 (.bin .eql .other 39 (.t 6) (.c (.str b155_))),o_ 4 (.asg (.t 7))] false [0,4]) (zwD))) (zwC)
def zwA:ACode:=.seq (.reg 0 [o_ 2 (.asg (.c (.int .i64 0))),o_ 3 (.asg (.c .nili))] false [0]) (zwB)
def zpp:AFun:={ nt:=64,res:=[.t 2,.t 3],code:=(zwA) }
def zyi:ACode:=.cond (.t 7) (.seq (.reg 0 [o_ 2 (.asg (.c (.str b155_)))] false [2]) (.ret)) (.skip)
def zyh:ACode:=.seq (.reg 0 [o_ 8 (.callp 96 []),o_ 9 (.mov (.t 0)),o_ 10 (.idxA 62 174 false 1 (.t 8) (.t 9)),o_ 2 (.asg (.t 10))] false [2]) (.ret)
def zyg:ACode:=.seq (.seq (.reg 0 [o_ 3 (.mov (.t 0)),o_ 4 (.convi .i64 7 2 (.t 3)),o_ 5 (.callp 96 []),o_ 6 (.mov (.c (.int .i64 174))),o_ 7 (.bin .geq .other 2 (.t 4) (.t 6))] false [0,7]) (zyi)) (zyh)
def zyf:ACode:=.seq (.reg 0 [o_ 2 (.asg (.c (.str b155_)))] false [0]) (zyg)
def zpo:AFun:={ nt:=11,res:=[.t 2],code:=(zyf) }
def zyZ:ACode:=.cond (.t 4) (.seq (.reg 0 [o_ 2 (.asg (.c (.int .u8 126)))] false [2]) (.ret)) (.skip)
def zyY:ACode:=.seq (.seq (.reg 0 [o_ 3 (.mov (.t 0)),o_ 4 (.callp 97 [.t 3,.c (.str b74_)])] false [4]) (zyZ)) (.seq (.reg 0 [o_ 2 (.asg (.c (.int .u8 127)))] false [2]) (.ret))
def zyX:ACode:=.seq (.reg 0 [o_ 2 (.asg (.c (.int .u8 0)))] false [0]) (zyY)
def zvE:AFun:={ nt:=5,res:=[.t 2],code:=(zyX) }
def zpm:ACode:=.cond (.t 48) (.seq (.reg 1 [o_ 54 (.mov (.t 3)),o_ 55 (.mov (.t 3)),o_ 56 (.bslice 0 50 [.int .u8 0] 2 [(0,.t 54),(1,.t 55)]),o_ 57 (.build 43 [.nils,.int .u8 0] [(0,0,1,.t 56),(1,1,1,.c (.int .u8 127))]),⟨none,.store 43 2 (.t 2) (.t 57),none⟩] false [2]) (.ret)) (.skip)
def zpl:ACode:=.cond (.t 33) (.seq (.reg 1 [o_ 44 (.mov (.t 3)),o_ 45 (.bslice 0 50 [.int .u8 0] 1 [(0,.t 44)]),o_ 46 (.mov (.t 3)),o_ 47 (.build 43 [.nils,.int .u8 0] [(0,0,1,.t 45),(1,1,1,.t 46)]),⟨none,.store 43 2 (.t 2) (.t 47),none⟩] false [2]) (.ret)) (.seq (.reg 0 [o_ 49 (.mov (.t 5)),o_ 50 (.slcS 39 (.t 49) none (some (.c (.int .i64 2)))),o_ 51 (.bin .add .other 39 (.c (.str b150_)) (.t 50)),o_ 52 (.bin .add .other 39 (.t 51) (.c (.str b150_))),o_ 53 (.callp 99 [.c (.str b66_),.t 52]),o_ 48 (.asg (.t 53))] false [2,3,48]) (zpm))
def zpk:ACode:=.cond (.t 27) (.seq (.reg 1 [o_ 30 (.mov (.t 3)),o_ 31 (.bslice 0 50 [.int .u8 0] 1 [(0,.t 30)]),o_ 32 (.build 43 [.nils,.int .u8 0] [(0,0,1,.t 31),(1,1,1,.c (.int .u8 127))]),⟨none,.store 43 2 (.t 2) (.t 32),none⟩] false [2]) (.ret)) (.seq (.reg 0 [o_ 34 (.mov (.t 5)),o_ 35 (.bin .eql .other 39 (.t 34) (.c (.str b42_))),o_ 36 (.mov (.t 35)),p_ 37 (.mov (.t 5)) 2 36 false,p_ 38 (.bin .eql .other 39 (.t 37) (.c (.str b41_))) 2 36 false,o_ 39 (.pick (.t 36) (.c (.bool true)) (.t 38)),o_ 40 (.mov (.t 39)),p_ 41 (.mov (.t 5)) 6 40 false,p_ 42 (.bin .eql .other 39 (.t 41) (.c (.str b27_))) 6 40 false,o_ 43 (.pick (.t 40) (.c (.bool true)) (.t 42)),o_ 33 (.asg (.t 43))] false [2,3,5,33]) (zpl))
def zpj:ACode:=.cond (.t 21) (.seq (.reg 1 [o_ 24 (.bslice 0 50 [.int .u8 0] 1 [(0,.c (.int .u8 127))]),o_ 25 (.mov (.t 3)),o_ 26 (.build 43 [.nils,.int .u8 0] [(0,0,1,.t 24),(1,1,1,.t 25)]),⟨none,.store 43 2 (.t 2) (.t 26),none⟩] false [2]) (.ret)) (.seq (.reg 0 [o_ 28 (.mov (.t 5)),o_ 29 (.bin .eql .other 39 (.t 28) (.c (.str b59_))),o_ 27 (.asg (.t 29))] false [2,3,5,27]) (zpk))
def zpi:ACode:=.cond (.t 15) (.seq (.reg 1 [o_ 18 (.bslice 0 50 [.int .u8 0] 1 [(0,.c (.int .u8 126))]),o_ 19 (.mov (.t 3)),o_ 20 (.build 43 [.nils,.int .u8 0] [(0,0,1,.t 18),(1,1,1,.t 19)]),⟨none,.store 43 2 (.t 2) (.t 20),none⟩] false [2]) (.ret)) (.seq (.reg 0 [o_ 22 (.mov (.t 5)),o_ 23 (.callp 99 [.t 22,.c (.str b82_)]),o_ 21 (.asg (.t 23))] false [2,3,5,21]) (zpj))
def zph:ACode:=.seq (.reg 1 [o_ 58 (.mov (.t 3)),o_ 59 (.mov (.t 3)),o_ 60 (.bslice 0 50 [.int .u8 0] 2 [(0,.t 58),(1,.t 59)]),o_ 61 (.mov (.t 3)),o_ 62 (.build 43 [.nils,.int .u8 0] [(0,0,1,.t 60),(1,1,1,.t 61)]),⟨none,.store 43 2 (.t 2) (.t 62),none⟩] false [2]) (.ret)
def zpg:ACode:=.seq (.block 0 (.seq (.reg 0 [o_ 16 (.mov (.t 0)),o_ 17 (.callp 93 [.t 16,.c (.str b88_)]),o_ 15 (.asg (.t 17))] false [2,3,5,15]) (zpi))) (zph)
def zpf:ACode:=.seq (.reg 0 [o_ 10 (.mov (.t 0)),o_ 11 (.callp 98 [.t 10,.c (.str b154_)]),o_ 9 (.mov (.t 11)),o_ 12 (.ext (.t 9) 0),o_ 13 (.ext (.t 9) 1),o_ 14 (.ext (.t 9) 2),o_ 4 (.asg (.t 12)),o_ 5 (.asg (.t 13)),o_ 6 (.asg (.t 14))] false [0,2,3,5]) (zpg)
def zpe:ACode:=.seq (.reg 0 [o_ 7 (.mov (.t 0)),o_ 8 (.callp 89 [.t 7]),o_ 3 (.asg (.t 8))] false [0,2,3]) (zpf)
def znl:ACode:=.seq (.reg 1 [o_ 2 (.alloc 0 43 [.nils,.int .u8 0])] false [0,2]) (zpe)
def zhl:AFun:={ nt:=63,res:=[.cell 2 43 true 2],code:=(znl) }
def zjm:ACode:=.seq (.reg 0 [o_ 6 (.mov (.t 0)),o_ 7 (.mov (.t 1)),o_ 8 (.callp 100 [.t 6,.t 7]),o_ 9 (.ext (.t 8) 0),o_ 10 (.ext (.t 8) 1),o_ 4 (.asg (.t 9)),o_ 5 (.asg (.t 10))] false [4,5]) (.ret)
def zjl:ACode:=.seq (.reg 0 [o_ 4 (.asg (.c (.str b155_))),o_ 5 (.asg (.c (.bool false)))] false [0,1]) (zjm)
def zeh:AFun:={ nt:=11,res:=[.t 4,.t 5],code:=(zjl) }
def ziP:ACode:=.seq (.reg 0 [o_ 5 (.mov (.t 0)),o_ 6 (.mov (.t 1)),o_ 7 (.callp 101 [.t 5,.t 6]),o_ 4 (.asg (.t 7))] false [4]) (.ret)
def ziO:ACode:=.seq (.reg 0 [o_ 4 (.asg (.c (.str b155_)))] false [0,1]) (ziP)
def zdB:AFun:={ nt:=8,res:=[.t 4],code:=(ziO) }
def zji:ACode:=.seq (.reg 0 [o_ 5 (.mov (.t 0)),o_ 6 (.mov (.t 1)),o_ 7 (.callp 102 [.t 5,.t 6]),o_ 4 (.asg (.t 7))] false [4]) (.ret)
def zjh:ACode:=.seq (.reg 0 [o_ 4 (.asg (.c (.bool false)))] false [0,1]) (zji)
def zef:AFun:={ nt:=8,res:=[.t 4],code:=(zjh) }
def zwy:ACode:=.seq (.reg 0 [o_ 1 (.build 62 [.str b155_,.str b155_,.str b155_,.str b155_,.str b155_,.str b155_,.str b155_,.str b155_,.str b155_,.str b155_,.str b155_,.str b155_,.str b155_,.str b155_,.str b155_,.str b155_,.str b155_,.str b155_,.str b155_,.str b155_,.str b155_,.str b155_,.str b155_,.str b155_,.str b155_,.str b155_,.str b155_,.str b155_,.str b155_,.str b155_,.str b155_,.str b155_,.str b155_,.str b155_,.str b155_,.str b155_,.str b155_,.str b155_,.str b155_,.str b155_,.str b155_,.str b155_,.str b155_,.str b155_,.str b155_,.str b155_,.str b155_,.str b155_,.str b155_,.str b155_,.str b155_,.str b155_,.str b155_,.str b155_,.str b155_,.str b155_,.str b155_,.str b155_,.str b155_,.str b155_,.str b155_,.str b155_,.str b155_,.str b155_,.str b155_,.str b155_,.str b155_,.str b155_,.str b155_,.str b155_,.str b155_,.str b155_,.str b155_,.str b155_,.str b155_,.str b155_,.str b155_,.str b155_,.str b155_,.str b155_,.str b155_,.str b155_,.str b155_,.str b155_,.str b155_,.str b155_,.str b155_,.str b155_,.str b155_,.str b155_,.str b155_,.str b155_,.str b155_,.str b155_,.str b155_,.str b155_,.str b155_,.str b155_,.str b155_,.str b155_,.str b155_,.str b155_,.str b155_,.str b155_,.str b155_,.str b155_,.str b155_,.str b155_,.str b155_,.str b155_,.str b155_,.str b155_,.str b155_,.str b155_,.str b155_,.str b155_,.str b155_,.str b155_,.str b155_,.str b155_,.str b155_,.str b155_,.str b155_,.str b155_,.str b155_,.str b155_,.str b155_,.str b155_,.str b155_,.str b155_,.str b155_,.str b155_,.str b155_,.str b155_,.str b155_,.str b155_,.str b155_,.str b155_,.str b155_,.str b155_,.str b155_,.str b155_,.str b155_,.str b155_,.str b155_,.str b155_,.str b155_,.str b155_,.str b155_,.str b155_,.str b155_,.str b155_,.str b155_,.str b155_,.str b155_,.str b155_,.str b155_,.str b155_,.str b155_,.str b155_,.str b155_,.str b155_,.str b155_,.str b155_,.str b155_,.str b155_,.str b155_,.str b155_,.str b155_,.str b155_,.str b155_,.str b155_,.str b155_,.str b155_] [(0,0,1,.c (.str b28_)),(1,1,1,.c (.str b60_)),(2,2,1,.c (.str b38_)),(3,3,1,.c (.str b43_)),(4,4,1,.c (.str b65_)),(12,12,1,.c (.str b67_)),(13,13,1,.c (.str b37_)),(14,14,1,.c (.str b29_)),(15,15,1,.c (.str b36_)),(16,16,1,.c (.str b44_)),(17,17,1,.c (.str b11_)),(26,26,1,.c (.str b85_)),(27,27,1,.c (.str b80_)),(32,32,1,.c (.str b26_)),(33,33,1,.c (.str b25_)),(34,34,1,.c (.str b24_)),(35,35,1,.c (.str b18_)),(36,36,1,.c (.str b21_)),(40,40,1,.c (.str b78_)),(41,41,1,.c (.str b77_)),(44,44,1,.c (.str b12_)),(45,45,1,.c (.str b13_)),(46,46,1,.c (.str b2_)),(47,47,1,.c (.str b3_)),(48,48,1,.c (.str b14_)),(49,49,1,.c (.str b15_)),(50,50,1,.c (.str b4_)),(51,51,1,.c (.str b5_)),(52,52,1,.c (.str b6_)),(53,53,1,.c (.str b7_)),(54,54,1,.c (.str b22_)),(55,55,1,.c (.str b23_)),(58,58,1,.c (.str b16_)),(59,59,1,.c (.str b8_)),(60,60,1,.c (.str b17_)),(61,61,1,.c (.str b9_)),(62,62,1,.c (.str b10_)),(63,63,1,.c (.str b0_)),(64,64,1,.c (.str b1_)),(65,65,1,.c (.str b20_)),(66,66,1,.c (.str b19_)),(69,69,1,.c (.str ⟨#[105,51,50,46,101,113,122]⟩)),(70,70,1,.c (.str ⟨#[105,51,50,46,101,113]⟩)),(71,71,1,.c (.str ⟨#[105,51,50,46,110,101]⟩)),(72,72,1,.c (.str ⟨#[105,51,50,46,108,116,95,115]⟩)),(73,73,1,.c (.str ⟨#[105,51,50,46,108,116,95,117]⟩)),(74,74,1,.c (.str ⟨#[105,51,50,46,103,116,95,115]⟩)),(75,75,1,.c (.str ⟨#[105,51,50,46,103,116,95,117]⟩)),(76,76,1,.c (.str ⟨#[105,51,50,46,108,101,95,115]⟩)),(77,77,1,.c (.str ⟨#[105,51,50,46,108,101,95,117]⟩)),(78,78,1,.c (.str ⟨#[105,51,50,46,103,101,95,115]⟩)),(79,79,1,.c (.str ⟨#[105,51,50,46,103,101,95,117]⟩)),(80,80,1,.c (.str ⟨#[105,54,52,46,101,113,122]⟩)),(81,81,1,.c (.str ⟨#[105,54,52,46,101,113]⟩)),(82,82,1,.c (.str ⟨#[105,54,52,46,110,101]⟩)),(83,83,1,.c (.str ⟨#[105,54,52,46,108,116,95,115]⟩)),(84,84,1,.c (.str ⟨#[105,54,52,46,108,116,95,117]⟩)),(85,85,1,.c (.str ⟨#[105,54,52,46,103,116,95,115]⟩)),(86,86,1,.c (.str ⟨#[105,54,52,46,103,116,95,117]⟩)),(87,87,1,.c (.str ⟨#[105,54,52,46,108,101,95,115]⟩)),(88,88,1,.c (.str ⟨#[105,54,52,46,108,101,95,117]⟩)),(89,89,1,.c (.str ⟨#[105,54,52,46,103,101,95,115]⟩)),(90,90,1,.c (.str ⟨#[105,54,52,46,103,101,95,117]⟩)),(103,103,1,.c (.str ⟨#[105,51,50,46,99,108,122]⟩)),(104,104,1,.c (.str ⟨#[105,51,50,46,99,116,122]⟩)),(105,105,1,.c (.str ⟨#[105,51,50,46,112,111,112,99,110,116]⟩)),(106,106,1,.c (.str ⟨#[105,51,50,46,97,100,100]⟩)),(107,107,1,.c (.str ⟨#[105,51,50,46,115,117,98]⟩)),(108,108,1,.c (.str ⟨#[105,51,50,46,109,117,108]⟩)),(109,109,1,.c (.str ⟨#[105,51,50,46,100,105,118,95,115]⟩)),(110,110,1,.c (.str ⟨#[105,51,50,46,100,105,118,95,117]⟩)),(111,111,1,.c (.str ⟨#[105,51,50,46,114,101,109,95,115]⟩)),(112,112,1,.c (.str ⟨#[105,51,50,46,114,101,109,95,117]⟩)),(113,113,1,.c (.str ⟨#[105,51,50,46,97,110,100]⟩)),(114,114,1,.c (.str ⟨#[105,51,50,46,111,114]⟩)),(115,115,1,.c (.str ⟨#[105,51,50,46,120,111,114]⟩)),(116,116,1,.c (.str ⟨#[105,51,50,46,115,104,108]⟩)),(117,117,1,.c (.str ⟨#[105,51,50,46,115,104,114,95,115]⟩)),(118,118,1,.c (.str ⟨#[105,51,50,46,115,104,114,95,117]⟩)),(119,119,1,.c (.str ⟨#[105,51,50,46,114,111,116,108]⟩)),(120,120,1,.c (.str ⟨#[105,51,50,46,114,111,116,114]⟩)),(121,121,1,.c (.str ⟨#[105,54,52,46,99,108,122]⟩)),(122,122,1,.c (.str ⟨#[105,54,52,46,99,116,122]⟩)),(123,123,1,.c (.str ⟨#[105,54,52,46,112,111,112,99,110,116]⟩)),(124,124,1,.c (.str ⟨#[105,54,52,46,97,100,100]⟩)),(125,125,1,.c (.str ⟨#[105,54,52,46,115,117,98]⟩)),(126,126,1,.c (.str ⟨#[105,54,52,46,109,117,108]⟩)),(127,127,1,.c (.str ⟨#[105,54,52,46,100,105,118,95,115]⟩)),(128,128,1,.c (.str ⟨#[105,54,52,46,100,105,118,95,117]⟩)),(129,129,1,.c (.str ⟨#[105,54,52,46,114,101,109,95,115]⟩)),(130,130,1,.c (.str ⟨#[105,54,52,46,114,101,109,95,117]⟩)),(131,131,1,.c (.str ⟨#[105,54,52,46,97,110,100]⟩)),(132,132,1,.c (.str ⟨#[105,54,52,46,111,114]⟩)),(133,133,1,.c (.str ⟨#[105,54,52,46,120,111,114]⟩)),(134,134,1,.c (.str ⟨#[105,54,52,46,115,104,108]⟩)),(135,135,1,.c (.str ⟨#[105,54,52,46,115,104,114,95,115]⟩)),(136,136,1,.c (.str ⟨#[105,54,52,46,115,104,114,95,117]⟩)),(137,137,1,.c (.str ⟨#[105,54,52,46,114,111,116,108]⟩)),(138,138,1,.c (.str ⟨#[105,54,52,46,114,111,116,114]⟩)),(167,167,1,.c (.str b71_)),(172,172,1,.c (.str b64_)),(173,173,1,.c (.str b63_))]),⟨none,.store 62 174 (.t 0) (.t 1),none⟩] false [0]) (.ret)
def zwx:ACode:=.seq (.reg 1 [o_ 0 (.alloc 0 62 [.str b155_,.str b155_,.str b155_,.str b155_,.str b155_,.str b155_,.str b155_,.str b155_,.str b155_,.str b155_,.str b155_,.str b155_,.str b155_,.str b155_,.str b155_,.str b155_,.str b155_,.str b155_,.str b155_,.str b155_,.str b155_,.str b155_,.str b155_,.str b155_,.str b155_,.str b155_,.str b155_,.str b155_,.str b155_,.str b155_,.str b155_,.str b155_,.str b155_,.str b155_,.str b155_,.str b155_,.str b155_,.str b155_,.str b155_,.str b155_,.str b155_,.str b155_,.str b155_,.str b155_,.str b155_,.str b155_,.str b155_,.str b155_,.str b155_,.str b155_,.str b155_,.str b155_,.str b155_,.str b155_,.str b155_,.str b155_,.str b155_,.str b155_,.str b155_,.str b155_,.str b155_,.str b155_,.str b155_,.str b155_,.str b155_,.str b155_,.str b155_,.str b155_,.str b155_,.str b155_,.str b155_,.str b155_,.str b155_,.str b155_,.str b155_,.str b155_,.str b155_,.str b155_,.str b155_,.str b155_,.str b155_,.str b155_,.str b155_,.str b155_,.str b155_,.str b155_,.str b155_,.str b155_,.str b155_,.str b155_,.str b155_,.str b155_,.str b155_,.str b155_,.str b155_,.str b155_,.str b155_,.str b155_,.str b155_,.str b155_,.str b155_,.str b155_,.str b155_,.str b155_,.str b155_,.str b155_,.str b155_,.str b155_,.str b155_,.str b155_,.str b155_,.str b155_,.str b155_,.str b155_,.str b155_,.str b155_,.str b155_,.str b155_,.str b155_,.str b155_,.str b155_,.str b155_,.str b155_,.str b155_,.str b155_,.str b155_,.str b155_,.str b155_,.str b155_,.str b155_,.str b155_,.str b155_,.str b155_,.str b155_,.str b155_,.str b155_,.str b155_,.str b155_,.str b155_,.str b155_,.str b155_,.str b155_,.str b155_,.str b155_,.str b155_,.str b155_,.str b155_,.str b155_,.str b155_,.str b155_,.str b155_,.str b155_,.str b155_,.str b155_,.str b155_,.str b155_,.str b155_,.str b155_,.str b155_,.str b155_,.str b155_,.str b155_,.str b155_,.str b155_,.str b155_,.str b155_,.str b155_,.str b155_,.str b155_,.str b155_,.str b155_,.str b155_,.str b155_,.str b155_])] false [0]) (zwy)
def zvF:AFun:={ nt:=2,res:=[.cell 0 62 true 174],code:=(zwx) }
def zjk:ACode:=.seq (.reg 0 [o_ 5 (.mov (.t 0)),o_ 6 (.mov (.t 1)),o_ 7 (.callp 103 [.t 5,.t 6]),o_ 4 (.asg (.t 7))] false [4]) (.ret)
def zjj:ACode:=.seq (.reg 0 [o_ 4 (.asg (.c (.bool false)))] false [0,1]) (zjk)
def zeg:AFun:={ nt:=8,res:=[.t 4],code:=(zjj) }
def zqF:ACode:=.seq (.reg 0 [o_ 7 (.mov (.t 0)),o_ 8 (.mov (.t 1)),o_ 9 (.callp 104 [.t 7,.t 8]),o_ 10 (.ext (.t 9) 0),o_ 11 (.ext (.t 9) 1),o_ 12 (.ext (.t 9) 2),o_ 4 (.asg (.t 10)),o_ 5 (.asg (.t 11)),o_ 6 (.asg (.t 12))] false [4,5,6]) (.ret)
def zqE:ACode:=.seq (.reg 0 [o_ 4 (.asg (.c (.str b155_))),o_ 5 (.asg (.c (.str b155_))),o_ 6 (.asg (.c (.bool false)))] false [0,1]) (zqF)
def ziQ:AFun:={ nt:=13,res:=[.t 4,.t 5,.t 6],code:=(zqE) }
def zkq:ACode:=.seq (.reg 0 [o_ 5 (.mov (.t 0)),o_ 6 (.mov (.t 1)),o_ 7 (.callp 105 [.t 5,.t 6]),o_ 8 (.bin .geq .other 2 (.t 7) (.c (.int .i64 0))),o_ 4 (.asg (.t 8))] false [4]) (.ret)
def zkp:ACode:=.seq (.reg 0 [o_ 4 (.asg (.c (.bool false)))] false [0,1]) (zkq)
def zeK:AFun:={ nt:=9,res:=[.t 4],code:=(zkp) }
def zgC:ACode:=.cond (.t 9) (.seq (.reg 0 [o_ 10 (.mov (.t 0)),o_ 4 (.asg (.t 10)),o_ 5 (.asg (.c (.bool false)))] false [4,5]) (.ret)) (.skip)
def zgB:ACode:=.seq (.reg 0 [o_ 11 (.mov (.t 0)),o_ 12 (.mov (.t 0)),o_ 13 (.lenS 39 (.t 12)),o_ 14 (.mov (.t 1)),o_ 15 (.lenS 39 (.t 14)),o_ 16 (.bin .sub .other 2 (.t 13) (.t 15)),o_ 17 (.slcS 39 (.t 11) none (some (.t 16))),o_ 4 (.asg (.t 17)),o_ 5 (.asg (.c (.bool true)))] false [4,5]) (.ret)
def zgA:ACode:=.seq (.seq (.reg 0 [o_ 6 (.mov (.t 0)),o_ 7 (.mov (.t 1)),o_ 8 (.callp 102 [.t 6,.t 7]),o_ 9 (.un .not (.t 8))] false [0,1,9]) (zgC)) (zgB)
def zgz:ACode:=.seq (.reg 0 [o_ 4 (.asg (.c (.str b155_))),o_ 5 (.asg (.c (.bool false)))] false [0,1]) (zgA)
def zcA:AFun:={ nt:=18,res:=[.t 4,.t 5],code:=(zgz) }
def zgb:ACode:=.cond (.t 7) (.seq (.reg 0 [o_ 8 (.mov (.t 0)),o_ 9 (.mov (.t 0)),o_ 10 (.lenS 39 (.t 9)),o_ 11 (.mov (.t 1)),o_ 12 (.lenS 39 (.t 11)),o_ 13 (.bin .sub .other 2 (.t 10) (.t 12)),o_ 14 (.slcS 39 (.t 8) none (some (.t 13))),o_ 4 (.asg (.t 14))] false [4]) (.ret)) (.skip)
def zga:ACode:=.seq (.reg 0 [o_ 15 (.mov (.t 0)),o_ 4 (.asg (.t 15))] false [4]) (.ret)
def zfZ:ACode:=.seq (.seq (.reg 0 [o_ 5 (.mov (.t 0)),o_ 6 (.mov (.t 1)),o_ 7 (.callp 102 [.t 5,.t 6])] false [0,1,7]) (zgb)) (zga)
def zfY:ACode:=.seq (.reg 0 [o_ 4 (.asg (.c (.str b155_)))] false [0,1]) (zfZ)
def zcn:AFun:={ nt:=16,res:=[.t 4],code:=(zfY) }
def zgw:ACode:=.seq (.reg 0 [o_ 5 (.mov (.t 0)),o_ 6 (.lenS 39 (.t 5)),o_ 7 (.mov (.t 1)),o_ 8 (.lenS 39 (.t 7)),o_ 9 (.bin .geq .other 2 (.t 6) (.t 8)),o_ 10 (.mov (.t 9)),p_ 11 (.mov (.t 0)) 5 10 true,p_ 12 (.mov (.t 0)) 5 10 true,p_ 13 (.lenS 39 (.t 12)) 5 10 true,p_ 14 (.mov (.t 1)) 5 10 true,p_ 15 (.lenS 39 (.t 14)) 5 10 true,p_ 16 (.bin .sub .other 2 (.t 13) (.t 15)) 5 10 true,p_ 17 (.slcS 39 (.t 11) (some (.t 16)) none) 5 10 true,p_ 18 (.mov (.t 1)) 5 10 true,p_ 19 (.bin .eql .other 39 (.t 17) (.t 18)) 5 10 true,o_ 20 (.pick (.t 10) (.t 19) (.c (.bool false))),o_ 4 (.asg (.t 20))] false [4]) (.ret)
def zgv:ACode:=.seq (.reg 0 [o_ 4 (.asg (.c (.bool false)))] false [0,1]) (zgw)
def zcy:AFun:={ nt:=21,res:=[.t 4],code:=(zgv) }
def zgy:ACode:=.seq (.reg 0 [o_ 5 (.mov (.t 0)),o_ 6 (.lenS 39 (.t 5)),o_ 7 (.mov (.t 1)),o_ 8 (.lenS 39 (.t 7)),o_ 9 (.bin .geq .other 2 (.t 6) (.t 8)),o_ 10 (.mov (.t 9)),p_ 11 (.mov (.t 0)) 5 10 true,p_ 12 (.mov (.t 1)) 5 10 true,p_ 13 (.lenS 39 (.t 12)) 5 10 true,p_ 14 (.slcS 39 (.t 11) none (some (.t 13))) 5 10 true,p_ 15 (.mov (.t 1)) 5 10 true,p_ 16 (.bin .eql .other 39 (.t 14) (.t 15)) 5 10 true,o_ 17 (.pick (.t 10) (.t 16) (.c (.bool false))),o_ 4 (.asg (.t 17))] false [4]) (.ret)
def zgx:ACode:=.seq (.reg 0 [o_ 4 (.asg (.c (.bool false)))] false [0,1]) (zgy)
def zcz:AFun:={ nt:=18,res:=[.t 4],code:=(zgx) }
def zlj:ACode:=.cond (.t 12) (.seq (.reg 0 [o_ 13 (.mov (.t 0)),o_ 14 (.mov (.t 7)),o_ 15 (.slcS 39 (.t 13) none (some (.t 14))),o_ 16 (.mov (.t 0)),o_ 17 (.mov (.t 7)),o_ 18 (.mov (.t 1)),o_ 19 (.lenS 39 (.t 18)),o_ 20 (.bin .add .other 2 (.t 17) (.t 19)),o_ 21 (.slcS 39 (.t 16) (some (.t 20)) none),o_ 4 (.asg (.t 15)),o_ 5 (.asg (.t 21)),o_ 6 (.asg (.c (.bool true)))] true [4,5,6]) (.ret)) (.skip)
def zli:ACode:=.seq (.reg 0 [o_ 11 (.mov (.t 7)),o_ 12 (.bin .geq .other 2 (.t 11) (.c (.int .i64 0)))] false [0,1,7,12]) (zlj)
def zlh:ACode:=.seq (.reg 0 [o_ 22 (.mov (.t 0)),o_ 4 (.asg (.t 22)),o_ 5 (.asg (.c (.str b155_))),o_ 6 (.asg (.c (.bool false)))] false [4,5,6]) (.ret)
def zlg:ACode:=.seq (.seq (.reg 0 [o_ 8 (.mov (.t 0)),o_ 9 (.mov (.t 1)),o_ 10 (.callp 106 [.t 8,.t 9]),o_ 7 (.asg (.t 10))] false [0,1,7]) (zli)) (zlh)
def zlf:ACode:=.seq (.reg 0 [o_ 4 (.asg (.c (.str b155_))),o_ 5 (.asg (.c (.str b155_))),o_ 6 (.asg (.c (.bool false)))] false [0,1]) (zlg)
def zeV:AFun:={ nt:=23,res:=[.t 4,.t 5,.t 6],code:=(zlf) }
def zmS:ACode:=.seq (.reg 0 [o_ 5 (.mov (.t 0)),o_ 6 (.mov (.t 1)),o_ 7 (.callp 106 [.t 5,.t 6]),o_ 4 (.asg (.t 7))] false [4]) (.ret)
def zmR:ACode:=.seq (.reg 0 [o_ 4 (.asg (.c (.int .i64 0)))] false [0,1]) (zmS)
def zgc:AFun:={ nt:=8,res:=[.t 4],code:=(zmR) }
end Go.Proofs.YtablleokoifolaaGreatDoor
set_option maxRecDepth 100000
namespace Go.Proofs.YtablleokoifolaaGreatDoor
open Go
def tyL:List Nat:=[30,41,3,63,58,34,66,5,44,69,55,67,4,59,71,37,73,33,35,75,36,77,38,61,79,39,81,2,22,23,24,25,26,27,28,84,54,86,88,9,90,92,94,96,99,104,111,116,113,120,64,60,126,155,129,109,20,148,21,153,139,203,213,154]
def fnL:List Nat:=[3,9,10,11,12,13,14,15,16,17,4,18,5,6,7,8,19,20,21,22,23,25,26,27,28,29,30,31,32,24,33,34,35,36,38,37,39,40,41,42,43,44,45,46,47,48,49,50,51,56,57,58,60,59,61,63,64,65,66,67,68,69,70,71,55,72,75,76,62,77,78,79,80,81,83,82,84,85,86,87,88,89,90,91,92,93,94,95,97,98,99,100,101,102,96,103,104,105,106,107,108,109,110,111,112,113,114,115,119,117,118,120,52,53]
def errV:Value:=.iface 170 (.agg #[.pointer (some ⟨2,44,none⟩)])
noncomputable def E:Env:={ P:=Tryz.prog,ty:=fun i => tyL.getD (i % 100000) 0,fn:=fun i => fnL.getD i 0,gb:=2,gok:=gokE errV,gkeep:=gokE_keep errV }
def bodyOf (f:Func):Code:=match f.body with | some c => c | none => .skip
theorem mixed:E.P.follows .mixedOrders=true:=by kernel_rfl
theorem zkY:Fn E 10 zgd 3:=⟨Tryz.f4,bodyOf Tryz.f4,Tryz.func4,by kernel_rfl,by kernel_rfl,by kernel_rfl,by decide,by kernel_rfl,by kernel_rfl,⟨by kernel_rfl,by kernel_rfl,mixed⟩⟩
theorem zmB:Fn E 1 zik 1:=⟨Tryz.f9,bodyOf Tryz.f9,Tryz.func9,by kernel_rfl,by kernel_rfl,by kernel_rfl,by decide,by kernel_rfl,by kernel_rfl,⟨by kernel_rfl,by kernel_rfl,mixed⟩⟩
theorem zxH:Fn E 2 zpM 0:=⟨Tryz.f10,bodyOf Tryz.f10,Tryz.func10,by kernel_rfl,by kernel_rfl,by kernel_rfl,by decide,by kernel_rfl,by kernel_rfl,⟨by kernel_rfl,by kernel_rfl,mixed⟩⟩
theorem zlR:Fn E 3 zgL 1:=⟨Tryz.f11,bodyOf Tryz.f11,Tryz.func11,by kernel_rfl,by kernel_rfl,by kernel_rfl,by decide,by kernel_rfl,by kernel_rfl,⟨by kernel_rfl,by kernel_rfl,mixed⟩⟩
theorem zvZ:Fn E 4 zmQ 1:=⟨Tryz.f12,bodyOf Tryz.f12,Tryz.func12,by kernel_rfl,by kernel_rfl,by kernel_rfl,by decide,by kernel_rfl,by kernel_rfl,⟨by kernel_rfl,by kernel_rfl,mixed⟩⟩
theorem zmz:Fn E 6 zko 2:=⟨Tryz.f14,bodyOf Tryz.f14,Tryz.func14,by kernel_rfl,by kernel_rfl,by kernel_rfl,by decide,by kernel_rfl,by kernel_rfl,⟨by kernel_rfl,by kernel_rfl,mixed⟩⟩
theorem zkc:Fn E 7 zhk 2:=⟨Tryz.f15,bodyOf Tryz.f15,Tryz.func15,by kernel_rfl,by kernel_rfl,by kernel_rfl,by decide,by kernel_rfl,by kernel_rfl,⟨by kernel_rfl,by kernel_rfl,mixed⟩⟩
theorem zxB:Fn E 8 zpG 2:=⟨Tryz.f16,bodyOf Tryz.f16,Tryz.func16,by kernel_rfl,by kernel_rfl,by kernel_rfl,by decide,by kernel_rfl,by kernel_rfl,⟨by kernel_rfl,by kernel_rfl,mixed⟩⟩
theorem zyO:Fn E 9 zvO 1:=⟨Tryz.f17,bodyOf Tryz.f17,Tryz.func17,by kernel_rfl,by kernel_rfl,by kernel_rfl,by decide,by kernel_rfl,by kernel_rfl,⟨by kernel_rfl,by kernel_rfl,mixed⟩⟩
theorem zwh:Fn E 11 znm 3:=⟨Tryz.f18,bodyOf Tryz.f18,Tryz.func18,by kernel_rfl,by kernel_rfl,by kernel_rfl,by decide,by kernel_rfl,by kernel_rfl,⟨by kernel_rfl,by kernel_rfl,mixed⟩⟩
theorem zmA:Fn E 16 zij 3:=⟨Tryz.f19,bodyOf Tryz.f19,Tryz.func19,by kernel_rfl,by kernel_rfl,by kernel_rfl,by decide,by kernel_rfl,by kernel_rfl,⟨by kernel_rfl,by kernel_rfl,mixed⟩⟩
theorem zwi:Fn E 17 znn 1:=⟨Tryz.f20,bodyOf Tryz.f20,Tryz.func20,by kernel_rfl,by kernel_rfl,by kernel_rfl,by decide,by kernel_rfl,by kernel_rfl,⟨by kernel_rfl,by kernel_rfl,mixed⟩⟩
theorem zxI:Fn E 18 zpN 1:=⟨Tryz.f21,bodyOf Tryz.f21,Tryz.func21,by kernel_rfl,by kernel_rfl,by kernel_rfl,by decide,by kernel_rfl,by kernel_rfl,⟨by kernel_rfl,by kernel_rfl,mixed⟩⟩
theorem zyN:Fn E 19 zvN 1:=⟨Tryz.f22,bodyOf Tryz.f22,Tryz.func22,by kernel_rfl,by kernel_rfl,by kernel_rfl,by decide,by kernel_rfl,by kernel_rfl,⟨by kernel_rfl,by kernel_rfl,mixed⟩⟩
theorem zpP:Fn E 20 zkn 1:=⟨Tryz.f23,bodyOf Tryz.f23,Tryz.func23,by kernel_rfl,by kernel_rfl,by kernel_rfl,by decide,by kernel_rfl,by kernel_rfl,⟨by kernel_rfl,by kernel_rfl,mixed⟩⟩
theorem zmy:Fn E 29 zii 2:=⟨Tryz.f24,bodyOf Tryz.f24,Tryz.func24,by kernel_rfl,by kernel_rfl,by kernel_rfl,by decide,by kernel_rfl,by kernel_rfl,⟨by kernel_rfl,by kernel_rfl,mixed⟩⟩
theorem zco:Fn E 21 zbp 2:=⟨Tryz.f25,bodyOf Tryz.f25,Tryz.func25,by kernel_rfl,by kernel_rfl,by kernel_rfl,by decide,by kernel_rfl,by kernel_rfl,⟨by kernel_rfl,by kernel_rfl,mixed⟩⟩
theorem zvY:Fn E 22 zmJ 1:=⟨Tryz.f26,bodyOf Tryz.f26,Tryz.func26,by kernel_rfl,by kernel_rfl,by kernel_rfl,by decide,by kernel_rfl,by kernel_rfl,⟨by kernel_rfl,by kernel_rfl,mixed⟩⟩
theorem zlL:Fn E 24 ziN 2:=⟨Tryz.f28,bodyOf Tryz.f28,Tryz.func28,by kernel_rfl,by kernel_rfl,by kernel_rfl,by decide,by kernel_rfl,by kernel_rfl,⟨by kernel_rfl,by kernel_rfl,mixed⟩⟩
theorem zwc:Fn E 25 zmV 1:=⟨Tryz.f29,bodyOf Tryz.f29,Tryz.func29,by kernel_rfl,by kernel_rfl,by kernel_rfl,by decide,by kernel_rfl,by kernel_rfl,⟨by kernel_rfl,by kernel_rfl,mixed⟩⟩
theorem zxx:Fn E 26 zpC 3:=⟨Tryz.f30,bodyOf Tryz.f30,Tryz.func30,by kernel_rfl,by kernel_rfl,by kernel_rfl,by decide,by kernel_rfl,by kernel_rfl,⟨by kernel_rfl,by kernel_rfl,mixed⟩⟩
theorem zxw:Fn E 27 zpB 2:=⟨Tryz.f31,bodyOf Tryz.f31,Tryz.func31,by kernel_rfl,by kernel_rfl,by kernel_rfl,by decide,by kernel_rfl,by kernel_rfl,⟨by kernel_rfl,by kernel_rfl,mixed⟩⟩
theorem zcT:Fn E 30 zbE 2:=⟨Tryz.f33,bodyOf Tryz.f33,Tryz.func33,by kernel_rfl,by kernel_rfl,by kernel_rfl,by decide,by kernel_rfl,by kernel_rfl,⟨by kernel_rfl,by kernel_rfl,mixed⟩⟩
theorem zlK:Fn E 31 zit 1:=⟨Tryz.f34,bodyOf Tryz.f34,Tryz.func34,by kernel_rfl,by kernel_rfl,by kernel_rfl,by decide,by kernel_rfl,by kernel_rfl,⟨by kernel_rfl,by kernel_rfl,mixed⟩⟩
theorem ztO:Fn E 32 zlN 1:=⟨Tryz.f35,bodyOf Tryz.f35,Tryz.func35,by kernel_rfl,by kernel_rfl,by kernel_rfl,by decide,by kernel_rfl,by kernel_rfl,⟨by kernel_rfl,by kernel_rfl,mixed⟩⟩
theorem zvX:Fn E 33 zmG 2:=⟨Tryz.f36,bodyOf Tryz.f36,Tryz.func36,by kernel_rfl,by kernel_rfl,by kernel_rfl,by decide,by kernel_rfl,by kernel_rfl,⟨by kernel_rfl,by kernel_rfl,mixed⟩⟩
theorem zdO:Fn E 35 zbM 2:=⟨Tryz.f37,bodyOf Tryz.f37,Tryz.func37,by kernel_rfl,by kernel_rfl,by kernel_rfl,by decide,by kernel_rfl,by kernel_rfl,⟨by kernel_rfl,by kernel_rfl,mixed⟩⟩
theorem zpO:Fn E 34 zkm 2:=⟨Tryz.f38,bodyOf Tryz.f38,Tryz.func38,by kernel_rfl,by kernel_rfl,by kernel_rfl,by decide,by kernel_rfl,by kernel_rfl,⟨by kernel_rfl,by kernel_rfl,mixed⟩⟩
theorem znv:Fn E 36 ziU 1:=⟨Tryz.f39,bodyOf Tryz.f39,Tryz.func39,by kernel_rfl,by kernel_rfl,by kernel_rfl,by decide,by kernel_rfl,by kernel_rfl,⟨by kernel_rfl,by kernel_rfl,mixed⟩⟩
theorem zbO:Fn E 38 zbq 1:=⟨Tryz.f41,bodyOf Tryz.f41,Tryz.func41,by kernel_rfl,by kernel_rfl,by kernel_rfl,by decide,by kernel_rfl,by kernel_rfl,⟨by kernel_rfl,by kernel_rfl,mixed⟩⟩
theorem zfa:Fn E 39 zdz 2:=⟨Tryz.f42,bodyOf Tryz.f42,Tryz.func42,by kernel_rfl,by kernel_rfl,by kernel_rfl,by decide,by kernel_rfl,by kernel_rfl,⟨by kernel_rfl,by kernel_rfl,mixed⟩⟩
theorem zeZ:Fn E 40 zdy 2:=⟨Tryz.f43,bodyOf Tryz.f43,Tryz.func43,by kernel_rfl,by kernel_rfl,by kernel_rfl,by decide,by kernel_rfl,by kernel_rfl,⟨by kernel_rfl,by kernel_rfl,mixed⟩⟩
theorem zxy:Fn E 41 zpD 2:=⟨Tryz.f44,bodyOf Tryz.f44,Tryz.func44,by kernel_rfl,by kernel_rfl,by kernel_rfl,by decide,by kernel_rfl,by kernel_rfl,⟨by kernel_rfl,by kernel_rfl,mixed⟩⟩
theorem zxA:Fn E 42 zpF 1:=⟨Tryz.f45,bodyOf Tryz.f45,Tryz.func45,by kernel_rfl,by kernel_rfl,by kernel_rfl,by decide,by kernel_rfl,by kernel_rfl,⟨by kernel_rfl,by kernel_rfl,mixed⟩⟩
theorem zwf:Fn E 43 znj 3:=⟨Tryz.f46,bodyOf Tryz.f46,Tryz.func46,by kernel_rfl,by kernel_rfl,by kernel_rfl,by decide,by kernel_rfl,by kernel_rfl,⟨by kernel_rfl,by kernel_rfl,mixed⟩⟩
theorem ztP:Fn E 44 zlO 3:=⟨Tryz.f47,bodyOf Tryz.f47,Tryz.func47,by kernel_rfl,by kernel_rfl,by kernel_rfl,by decide,by kernel_rfl,by kernel_rfl,⟨by kernel_rfl,by kernel_rfl,mixed⟩⟩
theorem zwe:Fn E 45 zmX 3:=⟨Tryz.f48,bodyOf Tryz.f48,Tryz.func48,by kernel_rfl,by kernel_rfl,by kernel_rfl,by decide,by kernel_rfl,by kernel_rfl,⟨by kernel_rfl,by kernel_rfl,mixed⟩⟩
theorem zyK:Fn E 46 zuv 2:=⟨Tryz.f49,bodyOf Tryz.f49,Tryz.func49,by kernel_rfl,by kernel_rfl,by kernel_rfl,by decide,by kernel_rfl,by kernel_rfl,⟨by kernel_rfl,by kernel_rfl,mixed⟩⟩
theorem znw:Fn E 47 ziV 3:=⟨Tryz.f50,bodyOf Tryz.f50,Tryz.func50,by kernel_rfl,by kernel_rfl,by kernel_rfl,by decide,by kernel_rfl,by kernel_rfl,⟨by kernel_rfl,by kernel_rfl,mixed⟩⟩
theorem zwa:Fn E 48 zmT 3:=⟨Tryz.f51,bodyOf Tryz.f51,Tryz.func51,by kernel_rfl,by kernel_rfl,by kernel_rfl,by decide,by kernel_rfl,by kernel_rfl,⟨by kernel_rfl,by kernel_rfl,mixed⟩⟩
theorem ziS:Fn E 49 zfx 1:=⟨Tryz.f56,bodyOf Tryz.f56,Tryz.func56,by kernel_rfl,by kernel_rfl,by kernel_rfl,by decide,by kernel_rfl,by kernel_rfl,⟨by kernel_rfl,by kernel_rfl,mixed⟩⟩
theorem zkb:Fn E 50 zgO 1:=⟨Tryz.f57,bodyOf Tryz.f57,Tryz.func57,by kernel_rfl,by kernel_rfl,by kernel_rfl,by decide,by kernel_rfl,by kernel_rfl,⟨by kernel_rfl,by kernel_rfl,mixed⟩⟩
theorem zbD:Fn E 51 zaQ 2:=⟨Tryz.f58,bodyOf Tryz.f58,Tryz.func58,by kernel_rfl,by kernel_rfl,by kernel_rfl,by decide,by kernel_rfl,by kernel_rfl,⟨by kernel_rfl,by kernel_rfl,mixed⟩⟩
theorem zbj:Fn E 53 zaL 2:=⟨Tryz.f59,bodyOf Tryz.f59,Tryz.func59,by kernel_rfl,by kernel_rfl,by kernel_rfl,by decide,by kernel_rfl,by kernel_rfl,⟨by kernel_rfl,by kernel_rfl,mixed⟩⟩
theorem ziR:Fn E 52 zfw 2:=⟨Tryz.f60,bodyOf Tryz.f60,Tryz.func60,by kernel_rfl,by kernel_rfl,by kernel_rfl,by decide,by kernel_rfl,by kernel_rfl,⟨by kernel_rfl,by kernel_rfl,mixed⟩⟩
theorem zeH:Fn E 54 zcc 2:=⟨Tryz.f61,bodyOf Tryz.f61,Tryz.func61,by kernel_rfl,by kernel_rfl,by kernel_rfl,by decide,by kernel_rfl,by kernel_rfl,⟨by kernel_rfl,by kernel_rfl,mixed⟩⟩
theorem zcb:Fn E 68 zbC 2:=⟨Tryz.f62,bodyOf Tryz.f62,Tryz.func62,by kernel_rfl,by kernel_rfl,by kernel_rfl,by decide,by kernel_rfl,by kernel_rfl,⟨by kernel_rfl,by kernel_rfl,mixed⟩⟩
theorem zer:Fn E 55 zcx 2:=⟨Tryz.f63,bodyOf Tryz.f63,Tryz.func63,by kernel_rfl,by kernel_rfl,by kernel_rfl,by decide,by kernel_rfl,by kernel_rfl,⟨by kernel_rfl,by kernel_rfl,mixed⟩⟩
theorem zeF:Fn E 56 zcU 2:=⟨Tryz.f64,bodyOf Tryz.f64,Tryz.func64,by kernel_rfl,by kernel_rfl,by kernel_rfl,by decide,by kernel_rfl,by kernel_rfl,⟨by kernel_rfl,by kernel_rfl,mixed⟩⟩
theorem zwd:Fn E 57 zmW 5:=⟨Tryz.f65,bodyOf Tryz.f65,Tryz.func65,by kernel_rfl,by kernel_rfl,by kernel_rfl,by decide,by kernel_rfl,by kernel_rfl,⟨by kernel_rfl,by kernel_rfl,mixed⟩⟩
theorem zwb:Fn E 58 zmU 2:=⟨Tryz.f66,bodyOf Tryz.f66,Tryz.func66,by kernel_rfl,by kernel_rfl,by kernel_rfl,by decide,by kernel_rfl,by kernel_rfl,⟨by kernel_rfl,by kernel_rfl,mixed⟩⟩
theorem zzs:Fn E 59 zxi 2:=⟨Tryz.f67,bodyOf Tryz.f67,Tryz.func67,by kernel_rfl,by kernel_rfl,by kernel_rfl,by decide,by kernel_rfl,by kernel_rfl,⟨by kernel_rfl,by kernel_rfl,mixed⟩⟩
theorem zxz:Fn E 60 zpE 2:=⟨Tryz.f68,bodyOf Tryz.f68,Tryz.func68,by kernel_rfl,by kernel_rfl,by kernel_rfl,by decide,by kernel_rfl,by kernel_rfl,⟨by kernel_rfl,by kernel_rfl,mixed⟩⟩
theorem zxC:Fn E 61 zpH 1:=⟨Tryz.f69,bodyOf Tryz.f69,Tryz.func69,by kernel_rfl,by kernel_rfl,by kernel_rfl,by decide,by kernel_rfl,by kernel_rfl,⟨by kernel_rfl,by kernel_rfl,mixed⟩⟩
theorem zxF:Fn E 62 zpK 1:=⟨Tryz.f70,bodyOf Tryz.f70,Tryz.func70,by kernel_rfl,by kernel_rfl,by kernel_rfl,by decide,by kernel_rfl,by kernel_rfl,⟨by kernel_rfl,by kernel_rfl,mixed⟩⟩
theorem zwg:Fn E 63 znk 1:=⟨Tryz.f71,bodyOf Tryz.f71,Tryz.func71,by kernel_rfl,by kernel_rfl,by kernel_rfl,by decide,by kernel_rfl,by kernel_rfl,⟨by kernel_rfl,by kernel_rfl,mixed⟩⟩
theorem zbI:Fn E 66 zaT 2:=⟨Tryz.f75,bodyOf Tryz.f75,Tryz.func75,by kernel_rfl,by kernel_rfl,by kernel_rfl,by decide,by kernel_rfl,by kernel_rfl,⟨by kernel_rfl,by kernel_rfl,mixed⟩⟩
theorem zbA:Fn E 67 zaN 2:=⟨Tryz.f76,bodyOf Tryz.f76,Tryz.func76,by kernel_rfl,by kernel_rfl,by kernel_rfl,by decide,by kernel_rfl,by kernel_rfl,⟨by kernel_rfl,by kernel_rfl,mixed⟩⟩
theorem zeO:Fn E 69 zde 1:=⟨Tryz.f77,bodyOf Tryz.f77,Tryz.func77,by kernel_rfl,by kernel_rfl,by kernel_rfl,by decide,by kernel_rfl,by kernel_rfl,⟨by kernel_rfl,by kernel_rfl,mixed⟩⟩
theorem zeQ:Fn E 70 zdg 4:=⟨Tryz.f78,bodyOf Tryz.f78,Tryz.func78,by kernel_rfl,by kernel_rfl,by kernel_rfl,by decide,by kernel_rfl,by kernel_rfl,⟨by kernel_rfl,by kernel_rfl,mixed⟩⟩
theorem zff:Fn E 71 zee 2:=⟨Tryz.f79,bodyOf Tryz.f79,Tryz.func79,by kernel_rfl,by kernel_rfl,by kernel_rfl,by decide,by kernel_rfl,by kernel_rfl,⟨by kernel_rfl,by kernel_rfl,mixed⟩⟩
theorem zeP:Fn E 72 zdf 2:=⟨Tryz.f80,bodyOf Tryz.f80,Tryz.func80,by kernel_rfl,by kernel_rfl,by kernel_rfl,by decide,by kernel_rfl,by kernel_rfl,⟨by kernel_rfl,by kernel_rfl,mixed⟩⟩
theorem zeL:Fn E 73 zdb 2:=⟨Tryz.f81,bodyOf Tryz.f81,Tryz.func81,by kernel_rfl,by kernel_rfl,by kernel_rfl,by decide,by kernel_rfl,by kernel_rfl,⟨by kernel_rfl,by kernel_rfl,mixed⟩⟩
theorem zfb:Fn E 75 zdA 2:=⟨Tryz.f82,bodyOf Tryz.f82,Tryz.func82,by kernel_rfl,by kernel_rfl,by kernel_rfl,by decide,by kernel_rfl,by kernel_rfl,⟨by kernel_rfl,by kernel_rfl,mixed⟩⟩
theorem zdM:Fn E 74 zcm 2:=⟨Tryz.f83,bodyOf Tryz.f83,Tryz.func83,by kernel_rfl,by kernel_rfl,by kernel_rfl,by decide,by kernel_rfl,by kernel_rfl,⟨by kernel_rfl,by kernel_rfl,mixed⟩⟩
theorem zfe:Fn E 76 zed 2:=⟨Tryz.f84,bodyOf Tryz.f84,Tryz.func84,by kernel_rfl,by kernel_rfl,by kernel_rfl,by decide,by kernel_rfl,by kernel_rfl,⟨by kernel_rfl,by kernel_rfl,mixed⟩⟩
theorem zeN:Fn E 77 zdd 2:=⟨Tryz.f85,bodyOf Tryz.f85,Tryz.func85,by kernel_rfl,by kernel_rfl,by kernel_rfl,by decide,by kernel_rfl,by kernel_rfl,⟨by kernel_rfl,by kernel_rfl,mixed⟩⟩
theorem zeG:Fn E 78 zcV 2:=⟨Tryz.f86,bodyOf Tryz.f86,Tryz.func86,by kernel_rfl,by kernel_rfl,by kernel_rfl,by decide,by kernel_rfl,by kernel_rfl,⟨by kernel_rfl,by kernel_rfl,mixed⟩⟩
theorem zeM:Fn E 79 zdc 2:=⟨Tryz.f87,bodyOf Tryz.f87,Tryz.func87,by kernel_rfl,by kernel_rfl,by kernel_rfl,by decide,by kernel_rfl,by kernel_rfl,⟨by kernel_rfl,by kernel_rfl,mixed⟩⟩
theorem zxD:Fn E 80 zpI 1:=⟨Tryz.f88,bodyOf Tryz.f88,Tryz.func88,by kernel_rfl,by kernel_rfl,by kernel_rfl,by decide,by kernel_rfl,by kernel_rfl,⟨by kernel_rfl,by kernel_rfl,mixed⟩⟩
theorem zxE:Fn E 81 zpJ 1:=⟨Tryz.f89,bodyOf Tryz.f89,Tryz.func89,by kernel_rfl,by kernel_rfl,by kernel_rfl,by decide,by kernel_rfl,by kernel_rfl,⟨by kernel_rfl,by kernel_rfl,mixed⟩⟩
theorem zyL:Fn E 82 zuQ 2:=⟨Tryz.f90,bodyOf Tryz.f90,Tryz.func90,by kernel_rfl,by kernel_rfl,by kernel_rfl,by decide,by kernel_rfl,by kernel_rfl,⟨by kernel_rfl,by kernel_rfl,mixed⟩⟩
theorem zxG:Fn E 83 zpL 1:=⟨Tryz.f91,bodyOf Tryz.f91,Tryz.func91,by kernel_rfl,by kernel_rfl,by kernel_rfl,by decide,by kernel_rfl,by kernel_rfl,⟨by kernel_rfl,by kernel_rfl,mixed⟩⟩
theorem ztQ:Fn E 85 zpn 1:=⟨Tryz.f93,bodyOf Tryz.f93,Tryz.func93,by kernel_rfl,by kernel_rfl,by kernel_rfl,by decide,by kernel_rfl,by kernel_rfl,⟨by kernel_rfl,by kernel_rfl,mixed⟩⟩
theorem zpt:Fn E 86 zmp 1:=⟨Tryz.f94,bodyOf Tryz.f94,Tryz.func94,by kernel_rfl,by kernel_rfl,by kernel_rfl,by decide,by kernel_rfl,by kernel_rfl,⟨by kernel_rfl,by kernel_rfl,mixed⟩⟩
theorem ztS:Fn E 87 zpp 1:=⟨Tryz.f95,bodyOf Tryz.f95,Tryz.func95,by kernel_rfl,by kernel_rfl,by kernel_rfl,by decide,by kernel_rfl,by kernel_rfl,⟨by kernel_rfl,by kernel_rfl,mixed⟩⟩
theorem ztR:Fn E 88 zpo 1:=⟨Tryz.f97,bodyOf Tryz.f97,Tryz.func97,by kernel_rfl,by kernel_rfl,by kernel_rfl,by decide,by kernel_rfl,by kernel_rfl,⟨by kernel_rfl,by kernel_rfl,mixed⟩⟩
theorem zxf:Fn E 89 zvE 1:=⟨Tryz.f98,bodyOf Tryz.f98,Tryz.func98,by kernel_rfl,by kernel_rfl,by kernel_rfl,by decide,by kernel_rfl,by kernel_rfl,⟨by kernel_rfl,by kernel_rfl,mixed⟩⟩
theorem zkd:Fn E 90 zhl 1:=⟨Tryz.f99,bodyOf Tryz.f99,Tryz.func99,by kernel_rfl,by kernel_rfl,by kernel_rfl,by decide,by kernel_rfl,by kernel_rfl,⟨by kernel_rfl,by kernel_rfl,mixed⟩⟩
theorem zfi:Fn E 91 zeh 2:=⟨Tryz.f100,bodyOf Tryz.f100,Tryz.func100,by kernel_rfl,by kernel_rfl,by kernel_rfl,by decide,by kernel_rfl,by kernel_rfl,⟨by kernel_rfl,by kernel_rfl,mixed⟩⟩
theorem zfc:Fn E 92 zdB 2:=⟨Tryz.f101,bodyOf Tryz.f101,Tryz.func101,by kernel_rfl,by kernel_rfl,by kernel_rfl,by decide,by kernel_rfl,by kernel_rfl,⟨by kernel_rfl,by kernel_rfl,mixed⟩⟩
theorem zfg:Fn E 93 zef 2:=⟨Tryz.f102,bodyOf Tryz.f102,Tryz.func102,by kernel_rfl,by kernel_rfl,by kernel_rfl,by decide,by kernel_rfl,by kernel_rfl,⟨by kernel_rfl,by kernel_rfl,mixed⟩⟩
theorem zyM:Fn E 96 zvF 0:=⟨Tryz.f104,bodyOf Tryz.f104,Tryz.func104,by kernel_rfl,by kernel_rfl,by kernel_rfl,by decide,by kernel_rfl,by kernel_rfl,⟨by kernel_rfl,by kernel_rfl,mixed⟩⟩
theorem zfh:Fn E 97 zeg 2:=⟨Tryz.f105,bodyOf Tryz.f105,Tryz.func105,by kernel_rfl,by kernel_rfl,by kernel_rfl,by decide,by kernel_rfl,by kernel_rfl,⟨by kernel_rfl,by kernel_rfl,mixed⟩⟩
theorem zlM:Fn E 98 ziQ 2:=⟨Tryz.f106,bodyOf Tryz.f106,Tryz.func106,by kernel_rfl,by kernel_rfl,by kernel_rfl,by decide,by kernel_rfl,by kernel_rfl,⟨by kernel_rfl,by kernel_rfl,mixed⟩⟩
theorem zfs:Fn E 99 zeK 2:=⟨Tryz.f107,bodyOf Tryz.f107,Tryz.func107,by kernel_rfl,by kernel_rfl,by kernel_rfl,by decide,by kernel_rfl,by kernel_rfl,⟨by kernel_rfl,by kernel_rfl,mixed⟩⟩
theorem zeu:Fn E 100 zcA 2:=⟨Tryz.f108,bodyOf Tryz.f108,Tryz.func108,by kernel_rfl,by kernel_rfl,by kernel_rfl,by decide,by kernel_rfl,by kernel_rfl,⟨by kernel_rfl,by kernel_rfl,mixed⟩⟩
theorem zdN:Fn E 101 zcn 2:=⟨Tryz.f109,bodyOf Tryz.f109,Tryz.func109,by kernel_rfl,by kernel_rfl,by kernel_rfl,by decide,by kernel_rfl,by kernel_rfl,⟨by kernel_rfl,by kernel_rfl,mixed⟩⟩
theorem zes:Fn E 102 zcy 2:=⟨Tryz.f110,bodyOf Tryz.f110,Tryz.func110,by kernel_rfl,by kernel_rfl,by kernel_rfl,by decide,by kernel_rfl,by kernel_rfl,⟨by kernel_rfl,by kernel_rfl,mixed⟩⟩
theorem zet:Fn E 103 zcz 2:=⟨Tryz.f111,bodyOf Tryz.f111,Tryz.func111,by kernel_rfl,by kernel_rfl,by kernel_rfl,by decide,by kernel_rfl,by kernel_rfl,⟨by kernel_rfl,by kernel_rfl,mixed⟩⟩
theorem zgH:Fn E 104 zeV 2:=⟨Tryz.f112,bodyOf Tryz.f112,Tryz.func112,by kernel_rfl,by kernel_rfl,by kernel_rfl,by decide,by kernel_rfl,by kernel_rfl,⟨by kernel_rfl,by kernel_rfl,mixed⟩⟩
theorem ziT:Fn E 105 zgc 2:=⟨Tryz.f113,bodyOf Tryz.f113,Tryz.func113,by kernel_rfl,by kernel_rfl,by kernel_rfl,by decide,by kernel_rfl,by kernel_rfl,⟨by kernel_rfl,by kernel_rfl,mixed⟩⟩
end Go.Proofs.YtablleokoifolaaGreatDoor
set_option linter.unusedVariables false
set_option linter.unusedSimpArgs false
namespace Go.Proofs.YtablleokoifolaaGreatDoor
open Go
variable {E:Env} {nt:Nat}
abbrev HL:=List (Nat×Option AObj)
abbrev CP:=Nat→List AV→Option AV
abbrev CS:=Nat→List AV→HL→Nat→Option (AV×HL×Nat)
def hm:HL→Hp
 | [],_ => none
 | (k,o) :: l,i => if i=k then o else hm l i
structure Sx where
 t:List (Nat×AV)
 h:HL
 n:Nat
def Sx.st (s:Sx):St:=⟨tm s.t,hm s.h,s.n⟩
def putL (d:Option Nat) (t:List (Nat×AV)) (v:AV):List (Nat×AV):=match d with
 | some d => (d,v) :: t
 | none => t
theorem putL_eq (d:Option Nat) (t:List (Nat×AV)) (v:AV):putT d (tm t) v=tm (putL d t v):=by
 cases d with
 | none => rfl
 | some d => funext i; simp [putT,putL,upd,tm]
def xtkeys (base:Nat) (t:Nat→AV):XOp→List Nat
 | .appZ k .. => [base+k]
 | .mkmap k _ => [base+k]
 | .mset _ m _ _ => match evX t m with
  | .map κ => [κ]
  | _ => []
 | _ => []
def tkeys (base:Nat) (t:Nat→AV):AOp→List Nat
 | .x o => xtkeys base t o
 | .alloc k _ _ => [base+k]
 | .box k _ _ => [base+k]
 | .bslice k _ _ _ _ => [base+k]
 | .appN k _ _ _ _ _ => [base+k]
 | .store _ _ a _ => match evX t a with
  | .ptr κ _ _ => [κ]
  | _ => []
 | .app k _ _ _ s _ => match evX t s with
  | .sl κ _ _ => [base+k,κ]
  | _ => [base+k]
 | _ => []
def hnext (ks:List Nat) (h':Hp) (hl:HL):HL:=ks.map (fun k => (k,h' k))++hl
theorem zBA {ks:List Nat} {h':Hp} {hl:HL} (hf:∀ κ,κ ∉ ks→h' κ=hm hl κ):hm (hnext ks h' hl)=h':=by
 funext κ
 unfold hnext
 have key:∀ l:List Nat,(∀ κ',κ' ∉ ks→h' κ'=hm hl κ')→(κ∈l∨κ ∉ ks)→hm (l.map (fun k => (k,h' k))++hl) κ=h' κ:=by
  intro l hf
  induction l with
  | nil => intro h; rcases h with h | h; (cases h); exact (hf κ h).symm
  | cons a l ih => 
   intro h
   simp only [List.map_cons,List.cons_append,hm]
   split
   ·rename_i e; rw [e]
   ·rename_i e
    refine ih ?_
    rcases h with h | h
    ·rcases List.mem_cons.1 h with h | h
     ·exact absurd h e
     ·exact .inl h
    ·exact .inr h
 by_cases h:κ∈ks
 ·exact key ks hf (.inl h)
 ·exact key ks hf (.inr h)
theorem upd_ne' {α:Type} {f:Nat→α} {k κ:Nat} {x:α} (h:κ≠k):upd f k x κ=f κ:=by simp [upd,h]
theorem zAA {base:Nat} {t:Nat→AV} {h h':Hp} {op:XOp} {av:AV} (hv:xval base t h op=some (av,h')) {κ:Nat} (hk:κ ∉ xtkeys base t op):h' κ=h κ:=by
 cases op <;> simp only [xval,xtkeys] at hv hk
 ·split at hv <;> first | (cases hv; done) | (simp only [Option.some.injEq,Prod.mk.injEq] at hv; obtain ⟨_,rfl⟩:=hv; rfl)
 ·split at hv
  ·split at hv
   ·split at hv
    ·simp only [Option.some.injEq,Prod.mk.injEq] at hv; obtain ⟨_,rfl⟩:=hv; rfl
    ·simp only [Option.some.injEq,Prod.mk.injEq] at hv; obtain ⟨_,rfl⟩:=hv; exact upd_ne' (by simpa using hk)
   ·cases hv
  ·cases hv
 ·simp only [Option.some.injEq,Prod.mk.injEq] at hv; obtain ⟨_,rfl⟩:=hv; exact upd_ne' (by simpa using hk)
 ·(repeat' split at hv) <;> first | (cases hv; done) | (simp only [Option.some.injEq,Prod.mk.injEq] at hv; obtain ⟨_,rfl⟩:=hv; rfl)
 ·split at hv
  ·rename_i κ' s hm hs
   rw [hm] at hk
   (repeat' split at hv) <;> first | (cases hv; done) | (simp only [Option.some.injEq,Prod.mk.injEq] at hv; obtain ⟨_,rfl⟩:=hv; exact upd_ne' (by simpa using hk))
  ·cases hv
 ·cases hv
theorem zBf {base:Nat} {t:Nat→AV} {h h':Hp} {op:AOp} {av:AV} (hv:aval base t h op=some (av,h')) {κ:Nat} (hk:κ ∉ tkeys base t op):h' κ=h κ:=by
 cases op <;> simp only [aval,tkeys] at hv hk
 case x o => exact zAA hv hk
 case alloc => simp only [Option.some.injEq,Prod.mk.injEq] at hv; obtain ⟨_,rfl⟩:=hv; exact upd_ne' (by simpa using hk)
 case bslice => obtain ⟨v,_,hv⟩:=Option.map_eq_some_iff.1 hv; simp only [Prod.mk.injEq] at hv; obtain ⟨_,rfl⟩:=hv; exact upd_ne' (by simpa using hk)
 case box k c x => 
  unfold bval at hv
  split at hv
  ·simp only [Option.some.injEq,Prod.mk.injEq] at hv; obtain ⟨_,rfl⟩:=hv; exact upd_ne' (by simpa using hk)
  ·cases hv
 case store c n a x => 
  obtain ⟨v,hv',e⟩:=Option.map_eq_some_iff.1 hv
  simp only [Prod.mk.injEq] at e
  obtain ⟨_,rfl⟩:=e
  clear hv
  rename astore h n (evX t a) (evX t x)=some v => hv
  unfold astore at hv
  split at hv
  ·rename_i κ' i o hp
   rw [hp] at hk
   split at hv
   ·split at hv
    ·obtain rfl:=Option.some.inj hv; exact upd_ne' (by simpa using hk)
    ·cases hv
   ·cases hv
  ·cases hv
 case app k c esz bytes s x => 
  unfold aapp at hv
  split at hv
  ·cases hv
  ·split at hv
   ·rename_i hs; rw [hs] at hk
    split at hv
    ·split at hv
     ·simp only [Option.some.injEq,Prod.mk.injEq] at hv; obtain ⟨_,rfl⟩:=hv; rfl
     ·simp only [Option.some.injEq,Prod.mk.injEq] at hv; obtain ⟨_,rfl⟩:=hv; exact upd_ne' (by simpa using hk)
    ·cases hv
   ·rename_i hs; rw [hs] at hk
    split at hv
    ·split at hv
     ·simp only [Option.some.injEq,Prod.mk.injEq] at hv; obtain ⟨_,rfl⟩:=hv
      simp only [List.mem_cons,List.not_mem_nil,or_false,not_or] at hk
      rw [upd_ne' hk.1,upd_ne' hk.2]
     ·cases hv
    ·cases hv
   ·cases hv
 case appN k c esz bytes s x => 
  split at hv
  ·unfold aapp at hv
   split at hv
   ·cases hv
   ·simp only at hv
    split at hv
    ·split at hv
     ·simp only [Option.some.injEq,Prod.mk.injEq] at hv; obtain ⟨_,rfl⟩:=hv; rfl
     ·simp only [Option.some.injEq,Prod.mk.injEq] at hv; obtain ⟨_,rfl⟩:=hv; exact upd_ne' (by simpa using hk)
    ·cases hv
  ·cases hv
 all_goals first
  | (cases hv; done)
  | (simp only [Option.some.injEq,Prod.mk.injEq] at hv; obtain ⟨_,rfl⟩:=hv; rfl)
  | (obtain ⟨v,_,hv⟩:=Option.map_eq_some_iff.1 hv; simp only [Prod.mk.injEq] at hv; obtain ⟨_,rfl⟩:=hv; rfl)
  | ((repeat' split at hv) <;> first | (cases hv; done) | (simp only [Option.some.injEq,Prod.mk.injEq] at hv; obtain ⟨_,rfl⟩:=hv; rfl) | (obtain ⟨v,_,hv⟩:=Option.map_eq_some_iff.1 hv; simp only [Prod.mk.injEq] at hv; obtain ⟨_,rfl⟩:=hv; rfl))
def roL (ks:List Nat) (h:HL):HL:=if ks.isEmpty then h else h.map fun p => (p.1,if p.1∈ks then p.2.map setRo else p.2)
theorem roL_eq (ks:List Nat) (h:HL):hm (roL ks h)=roAll ks (hm h):=by
 funext κ
 unfold roL
 split
 ·rename_i he
  have:ks=[]:=by simpa using he
  subst this; simp [roAll]
 ·induction h with
  | nil => simp [hm,roAll]
  | cons p l ih => 
   obtain ⟨k,o⟩:=p
   simp only [List.map_cons,hm,roAll]
   split
   ·rename_i e; subst e; rfl
   ·rw [ih]; rfl
def pruneL (live:List Nat) (t:List (Nat×AV)):List (Nat×AV):=live.map fun i => (i,tm t i)
theorem pruneL_eq (live:List Nat) (t:List (Nat×AV)):tm (pruneL live t)=prune live (tm t):=rfl
def dedup (seen:List Nat):HL→HL
 | [] => []
 | (k,o) :: l => if seen.contains k then dedup seen l else match o with
  | none => dedup (k :: seen) l
  | some o => (k,some o) :: dedup (k :: seen) l
theorem ztF {κ:Nat}:∀ (l:HL) (seen:List Nat),hm (dedup seen l) κ=if κ∈seen then none else hm l κ
 | [],seen => by simp [dedup,hm]
 | (k,o) :: l,seen => by
  simp only [dedup,hm]
  by_cases hs:seen.contains k=true
  ·rw [if_pos hs,ztF l seen]
   have:k∈seen:=by simpa using hs
   by_cases hk:κ=k
   ·subst hk; simp [this]
   ·simp [hk]
  ·rw [if_neg hs]
   have hs':k ∉ seen:=by simpa using hs
   cases o with
   | none => 
    simp only
    rw [ztF l (k :: seen)]
    by_cases hk:κ=k
    ·subst hk; simp
    ·simp [hk]
   | some o => 
    simp only [hm]
    rw [ztF l (k :: seen)]
    by_cases hk:κ=k
    ·subst hk; simp [hs']
    ·simp [hk]
theorem dedup0 (l:HL):hm (dedup [] l)=hm l:=by funext κ; rw [ztF]; simp
def kltB (base:Nat):AV→Bool
 | .ptr κ _ _ => decide (κ<base)
 | .sl κ _ _ => decide (κ<base)
 | _ => true
abbrev WL:=List (Nat×Nat×Nat)
def WL.p (l:WL) (κ i q:Nat):Prop:=(κ,i,q)∈l
def outB (l:WL) (n:Nat):AV→Bool
 | .ptr κ i o => l.all fun c => !(c.1==κ&&(c.2.1==i&&(decide (o≤c.2.2)&&decide (c.2.2<o+n))))
 | _ => true
def inB (base:Nat) (l:WL) (n:Nat):AV→Bool
 | .ptr κ i o => decide (κ<base)&&(List.range n).all fun d => l.contains (κ,i,o+d)
 | _ => false
theorem outB_ok {l:WL} {n:Nat} {v:AV} (h:outB l n v=true):cellsOut l.p n v:=by
 cases v <;> simp only [cellsOut] <;> try trivial
 intro q h1 h2 h3
 have:=List.all_eq_true.1 h _ h3
 simp [h1,h2] at this
theorem inB_ok {base:Nat} {l:WL} {n:Nat} {v:AV} (h:inB base l n v=true):cellsIn base l.p n v:=by
 cases v <;> simp only [inB,Bool.false_eq_true] at h
 rename_i κ i o
 simp only [Bool.and_eq_true,decide_eq_true_eq] at h
 refine ⟨h.1,fun q h1 h2 => ?_⟩
 have:=List.all_eq_true.1 h.2 (q - o) (List.mem_range.2 (by omega))
 rw [show o+(q - o)=q by omega] at this
 simpa [WL.p] using this
def rdB (base:Nat) (l:WL) (t:Nat→AV):AOp→Bool
 | .load c _ n a => kltB base (evX t a)&&(!far c||outB l n (evX t a))
 | .store c n a _ => !far c||inB base l n (evX t a)
 | .iaddr _ _ s _ => kltB base (evX t s)
 | .slc _ _ x _ _ => kltB base (evX t x)
 | .appN _ _ _ _ _ x => kltB base (evX t x)
 | _ => true
theorem kltB_ok {base:Nat} {v:AV} (h:kltB base v=true):klt base v:=by
 cases v <;> simp_all [kltB,klt]
theorem rdB_ok {base:Nat} {l:WL} {t:Nat→AV} {op:AOp} (h:rdB base l t op=true):rdOk base l.p t op:=by
 cases op <;> simp only [rdB,rdOk] at h ⊢ <;> first | exact kltB_ok h | trivial | skip
 ·simp only [Bool.and_eq_true,Bool.or_eq_true,Bool.not_eq_true'] at h
  refine ⟨kltB_ok h.1,fun hf => ?_⟩
  rcases h.2 with h | h
  ·rw [hf] at h; cases h
  ·exact outB_ok h
 ·simp only [Bool.or_eq_true,Bool.not_eq_true'] at h
  intro hf
  rcases h with h | h
  ·rw [hf] at h; cases h
  ·exact inB_ok h
def x1 (cp:CP) (cs:CS) (dr:Bool) (base:Nat) (l:WL) (o:AOper) (s:Sx):Option Sx:=
 match wantA o.guard (tm s.t) with
 | none => none
 | some false => some ⟨putL o.dst s.t .hole,s.h,s.n⟩
 | some true => 
  match o.op with
  | .callp f args => 
   match frzL (hm s.h) (args.map (evX (tm s.t))) with
   | none => none
   | some asx => match cp f asx with
    | none => none
    | some r => if dr&&!(frzKL (hm s.h) (args.map (evX (tm s.t)))).isEmpty then none else
      some ⟨putL o.dst s.t r,roL (frzKL (hm s.h) (args.map (evX (tm s.t)))) s.h,s.n⟩
  | .callv g args => 
   match evX (tm s.t) g with
   | .func f caps => 
    match frzL (hm s.h) (args.map (evX (tm s.t))++caps) with
    | none => none
    | some asx => match cp f asx with
     | none => none
     | some r => if dr&&!(frzKL (hm s.h) (args.map (evX (tm s.t))++caps)).isEmpty then none else
       some ⟨putL o.dst s.t r,roL (frzKL (hm s.h) (args.map (evX (tm s.t))++caps)) s.h,s.n⟩
   | _ => none
  | .calls f args => 
   if dr then none else
   match cs f (args.map (evX (tm s.t))) s.h s.n with
   | none => none
   | some (r,h',n') => some ⟨putL o.dst s.t r,h',n'⟩
  | .bslv _ _ zs n ps => 
   match afillE zs.length (List.replicate n zs) (ps.map fun p => (p.1,evX (tm s.t) p.2)) with
   | none => none
   | some es => if es.all (fun c => c.all kf0) then some ⟨putL o.dst s.t (.slv (es.map fun c => c.map nz)),s.h,s.n⟩ else none
  | op => 
   match aval base (tm s.t) (hm s.h) op with
   | none => none
   | some (av,h') => if dr&&!rdB base l (tm s.t) op then none else some ⟨putL o.dst s.t av,hnext (tkeys base (tm s.t) op) h' s.h,s.n⟩
def xL (cp:CP) (cs:CS) (dr:Bool) (base:Nat) (l:WL):List AOper→Sx→Option Sx
 | [],s => some s
 | o :: r,s => match x1 cp cs dr base l o s with
  | none => none
  | some s' => xL cp cs dr base l r s'
def xW (cp:CP) (cs:CS) (base:Nat):List AOper→Sx→WL
 | [],s => []
 | o :: r,s => match x1 cp cs false base [] o s with
  | none => []
  | some s' => (match o.op with
   | .store c n a _ => if far c then (match evX (tm s.t) a with
    | .ptr κ i o => (List.range n).map fun d => (κ,i,o+d)
    | _ => []) else []
   | _ => [])++xW cp cs base r s'
def regW (cp:CP) (cs:CS) (dr:Bool) (base:Nat) (ops:List AOper) (s:Sx):WL:=
 if dr&&ops.any (fun o => farStore o.op) then xW cp cs base ops s else []
def xC (cp:CP) (cs:CS):Nat→ACode→Sx→Option (AExit×Sx)
 | 0,_,_ => none
 | m+1,c,s => match c with
  | .skip => some (.normal,s)
  | .ret => some (.ret,s)
  | .exit i => some (.exit i,s)
  | .reg res ops dr live => match xL cp cs dr s.n (regW cp cs dr s.n ops ⟨s.t,s.h,s.n+res⟩) ops ⟨s.t,s.h,s.n+res⟩ with
   | none => none
   | some s' => some (.normal,⟨pruneL live s'.t,dedup [] s'.h,s'.n⟩)
  | .seq a b => match xC cp cs m a s with
   | none => none
   | some (.normal,s') => xC cp cs m b s'
   | some (.ret,s') => some (.ret,s')
   | some (.exit i,s') => some (.exit i,s')
  | .cond x a b => match evX (tm s.t) x with
   | .bool true => xC cp cs m a s
   | .bool false => xC cp cs m b s
   | _ => none
  | .block i a => match xC cp cs m a s with
   | none => none
   | some (.normal,s') => some (.normal,s')
   | some (.ret,s') => some (.ret,s')
   | some (.exit j,s') => if j=i then some (.normal,s') else some (.exit j,s')
  | .fz sl a => if sl.all (fun i => (frz (hm s.h) FZ (tm s.t i)).isSome) then
    xC cp cs m a ⟨(sl.map fun i => (i,(frz (hm s.h) FZ (tm s.t i)).getD .undef))++s.t,roL (frzKL (hm s.h) (sl.map (tm s.t))) s.h,s.n⟩ else none
  | .loop a => match xC cp cs m a s with
   | none => none
   | some (.normal,s') => xC cp cs m (.loop a) s'
   | some (.ret,s') => some (.ret,s')
   | some (.exit i,s') => some (.exit i,s')
def argL (args:List AV):List (Nat×AV):=(List.range args.length).map fun i => (i,args.getD i .undef)
structure Tab where
 fn:Nat→Option (AFun×Nat)
 orc:CP
 orcS:CP→CS→CS
def xF (T:Tab) (fuel:Nat):Nat→CP×CS
  | 0 => (fun _ _ => none,fun _ _ _ _ => none)
  | d+1 => 
    (fun f args => match T.orc f args with
      | some r => some r
      | none => match T.fn f with
        | none => none
        | some (A,np) => if np=args.length then
            match xC (xF T fuel d).1 (xF T fuel d).2 fuel A.code ⟨argL args,[],0⟩ with
            | none => none
            | some (.exit _,_) => none
            | some (_,s) => match resL (hm s.h) (tm s.t) A.res with
              | none => none
              | some v => frz (hm s.h) FZ v
          else none,
     fun f args h n => match T.orcS (xF T fuel d).1 (xF T fuel d).2 f args h n with
      | some r => some r
      | none => match T.fn f with
      | none => none
      | some (A,np) => if np=args.length then
          match xC (xF T fuel d).1 (xF T fuel d).2 fuel A.code ⟨argL args,h,n⟩ with
          | none => none
          | some (.exit _,_) => none
          | some (_,s) => match resL (hm s.h) (tm s.t) A.res with
            | none => none
            | some v => some (v,s.h,s.n)
        else none)
def CPok (E:Env) (cp:CP):Prop:=∀ f asx r,cp f asx=some r→ACallP E f asx r
def CSok (E:Env) (cs:CS):Prop:=∀ f asx h n r h' n',cs f asx h n=some (r,h',n')→ACallS E f asx (hm h) n (fun a b c => a=r∧b=hm h'∧c=n')
theorem x1_sound {cp:CP} {cs:CS} (hp:CPok E cp) (hs:CSok E cs) {dr:Bool} {base:Nat} {l:WL} {o:AOper} {s s':Sx} {K:St→Prop} (hx:x1 cp cs dr base l o s=some s') (k:K s'.st):AW1 E dr base l.p o K s.st:=by
 unfold x1 at hx
 unfold AW1
 simp only [Sx.st] at k ⊢
 cases hw:wantA o.guard (tm s.t) with
 | none => rw [hw] at hx; cases hx
 | some b => 
  rw [hw] at hx
  cases b with
  | false => simp only at hx ⊢; obtain rfl:=Option.some.inj hx; rw [putL_eq]; exact k
  | true => 
   simp only at hx ⊢
   cases ho:o.op with
   | callp f args => 
    simp only [ho] at hx ⊢
    split at hx
    ·cases hx
    ·rename_i asx has
     split at hx
     ·cases hx
     ·rename_i r hr
      split at hx
      ·cases hx
      ·rename_i hd
       obtain rfl:=Option.some.inj hx
       simp only [roL_eq,← putL_eq] at k
       exact ⟨asx,r,has,hp _ _ _ hr,fun e => by subst e; simpa using hd,k⟩
   | callv g args => 
    simp only [ho] at hx ⊢
    split at hx
    ·rename_i f caps hg
     split at hx
     ·cases hx
     ·rename_i asx has
      split at hx
      ·cases hx
      ·rename_i r hr
       split at hx
       ·cases hx
       ·rename_i hd
        obtain rfl:=Option.some.inj hx
        simp only [roL_eq,← putL_eq] at k
        exact ⟨f,caps,asx,r,hg,has,hp _ _ _ hr,fun e => by subst e; simpa using hd,k⟩
    ·cases hx
   | calls f args => 
    simp only [ho] at hx ⊢
    split at hx
    ·cases hx
    ·rename_i hd
     split at hx
     ·cases hx
     ·rename_i r h' n' hr
      obtain rfl:=Option.some.inj hx
      simp only [← putL_eq] at k
      exact ⟨by simpa using hd,_,hs _ _ _ _ _ _ _ hr,fun a b c ⟨e1,e2,e3⟩ => by subst e1 e2 e3; exact k⟩
   | bslv q c zs m ps => 
    simp only [ho] at hx ⊢
    split at hx
    ·cases hx
    ·rename_i es hes
     split at hx
     ·rename_i hk
      obtain rfl:=Option.some.inj hx
      simp only [← putL_eq] at k
      exact ⟨es,hes,hk,k⟩
     ·cases hx
   | _ => 
    simp only [ho] at hx ⊢
    split at hx
    ·cases hx
    ·rename_i av h' hav
     split at hx
     ·cases hx
     ·rename_i hd
      obtain rfl:=Option.some.inj hx
      simp only [← putL_eq,zBA (fun κ hk => zBf hav hk)] at k
      exact ⟨av,h',hav,fun e => rdB_ok (by subst e; simpa using hd),k⟩
theorem xL_sound {cp:CP} {cs:CS} (hp:CPok E cp) (hs:CSok E cs) {dr:Bool} {base:Nat} {l:WL} {K:St→Prop}:∀ (ops:List AOper) (s s':Sx),xL cp cs dr base l ops s=some s'→K s'.st→AWL E dr base l.p ops K s.st
 | [],s,s',hx,k => by obtain rfl:=Option.some.inj hx; exact k
 | o :: r,s,s',hx,k => by
  simp only [xL] at hx
  split at hx
  ·cases hx
  ·rename_i s1 h1
   exact x1_sound hp hs h1 (xL_sound hp hs r s1 s' hx k)
theorem xC_sound {cp:CP} {cs:CS} (hp:CPok E cp) (hs:CSok E cs):∀ (m:Nat) (c:ACode) (Q:AExit→St→Prop) (s:Sx) (e:AExit) (s':Sx),xC cp cs m c s=some (e,s')→Q e s'.st→AW E nt c Q s.st:=by
 intro m
 induction m using Nat.strongRecOn with
 | _ m ihs => 
  intro c Q s e s' hx k
  cases m with
  | zero => cases hx
  | succ m => 
  have ih:=ihs m (Nat.lt_succ_self m)
  cases c with
  | skip => simp only [xC,Option.some.injEq,Prod.mk.injEq] at hx; obtain ⟨rfl,rfl⟩:=hx; exact .skip k
  | ret => simp only [xC,Option.some.injEq,Prod.mk.injEq] at hx; obtain ⟨rfl,rfl⟩:=hx; exact .ret k
  | exit i => simp only [xC,Option.some.injEq,Prod.mk.injEq] at hx; obtain ⟨rfl,rfl⟩:=hx; exact .exit k
  | reg res ops dr live => 
   simp only [xC] at hx
   split at hx
   ·cases hx
   ·rename_i s1 h1
    simp only [Option.some.injEq,Prod.mk.injEq] at hx
    obtain ⟨rfl,rfl⟩:=hx
    refine .reg _ (xL_sound hp hs ops ⟨s.t,s.h,s.n+res⟩ s1 h1 ?_)
    simp only [Sx.st,pruneL_eq,dedup0] at k ⊢
    exact k
  | seq a b => 
   simp only [xC] at hx
   split at hx
   ·cases hx
   ·rename_i s1 h1; exact .seq (ih _ _ _ _ _ h1 (ih _ _ _ _ _ hx k))
   ·rename_i s1 h1; simp only [Option.some.injEq,Prod.mk.injEq] at hx; obtain ⟨rfl,rfl⟩:=hx; exact .seq (ih _ _ _ _ _ h1 k)
   ·rename_i i s1 h1; simp only [Option.some.injEq,Prod.mk.injEq] at hx; obtain ⟨rfl,rfl⟩:=hx; exact .seq (ih _ _ _ _ _ h1 k)
  | cond x a b => 
   simp only [xC] at hx
   split at hx
   ·rename_i hb; exact .cond hb (fun _ => ih _ _ _ _ _ hx k) (fun h => by cases h)
   ·rename_i hb; exact .cond hb (fun h => by cases h) (fun _ => ih _ _ _ _ _ hx k)
   ·cases hx
  | block i a => 
   simp only [xC] at hx
   split at hx
   ·cases hx
   ·rename_i s1 h1; simp only [Option.some.injEq,Prod.mk.injEq] at hx; obtain ⟨rfl,rfl⟩:=hx; exact .block (ih _ _ _ _ _ h1 k)
   ·rename_i s1 h1; simp only [Option.some.injEq,Prod.mk.injEq] at hx; obtain ⟨rfl,rfl⟩:=hx; exact .block (ih _ _ _ _ _ h1 k)
   ·rename_i j s1 h1
    refine .block (ih _ _ _ _ _ h1 ?_)
    simp only [blockQ]
    split at hx
    ·rename_i hj; simp only [Option.some.injEq,Prod.mk.injEq] at hx; obtain ⟨rfl,rfl⟩:=hx; rw [if_pos hj]; exact k
    ·rename_i hj; simp only [Option.some.injEq,Prod.mk.injEq] at hx; obtain ⟨rfl,rfl⟩:=hx; rw [if_neg hj]; exact k
  | fz sl a => 
   simp only [xC] at hx
   split at hx
   ·rename_i hall
    refine AW.fz (fun i hi => List.all_eq_true.1 hall i hi) ?_
    have e0:(⟨frzT (hm s.h) sl (tm s.t),roAll (frzKL (hm s.h) (sl.map (tm s.t))) (hm s.h),s.n⟩:St) =
      Sx.st ⟨(sl.map fun i => (i,(frz (hm s.h) FZ (tm s.t i)).getD .undef))++s.t,roL (frzKL (hm s.h) (sl.map (tm s.t))) s.h,s.n⟩:=by
     simp only [Sx.st,roL_eq,St.mk.injEq,true_and,and_true]
     funext i
     have key:∀ l:List Nat,tm ((l.map fun i => (i,(frz (hm s.h) FZ (tm s.t i)).getD .undef))++s.t) i=if i∈l then (frz (hm s.h) FZ (tm s.t i)).getD .undef else tm s.t i:=by
      intro l
      induction l with
      | nil => simp
      | cons b l ih => 
       simp only [List.map_cons,List.cons_append,tm,ih,List.mem_cons]
       by_cases hb:i=b
       ·subst hb; simp
       ·simp [hb]
     rw [key]; rfl
    have:=ih _ _ _ _ _ hx k
    rw [← e0] at this
    exact this
   ·cases hx
  | loop a => 
   refine AW.loop (fun q s1 => ∃ s,s1=s.st∧q≤m+1∧xC cp cs q (.loop a) s=some (e,s')) (fun q s1 ⟨s,hs1,hq,h⟩ => ?_) (m+1) s.st ⟨s,rfl,Nat.le_refl _,hx⟩
   subst hs1
   cases q with
   | zero => cases h
   | succ q => 
    simp only [xC] at h
    have ih':=ihs q (by omega) a
    split at h
    ·cases h
    ·rename_i s1 h1; exact ih' _ _ _ _ h1 ⟨q,by omega,s1,rfl,by omega,h⟩
    ·rename_i s1 h1; simp only [Option.some.injEq,Prod.mk.injEq] at h; obtain ⟨rfl,rfl⟩:=h; exact ih' _ _ _ _ h1 k
    ·rename_i i s1 h1; simp only [Option.some.injEq,Prod.mk.injEq] at h; obtain ⟨rfl,rfl⟩:=h; exact ih' _ _ _ _ h1 k
theorem argL_eq (asx:List AV):tm (argL asx)=argT asx:=by
 funext i
 have key:∀ l:List Nat,tm (l.map fun i => (i,asx.getD i .undef)) i=if i∈l then asx.getD i .undef else .undef:=by
  intro l
  induction l with
  | nil => rfl
  | cons a l ih => 
   simp only [List.map_cons,tm,ih,List.mem_cons]
   by_cases h:i=a
   ·subst h; simp
   ·simp [h]
 rw [argL,key,argT]
 split
 ·rfl
 ·rename_i h
  have:¬ i<asx.length:=by simpa using h
  simp [List.getD_eq_getElem?_getD,List.getElem?_eq_none (Nat.le_of_not_lt this)]
def TabOk (E:Env) (T:Tab):Prop:=(∀ f A np,T.fn f=some (A,np)→Fn E f A np)∧CPok E T.orc∧∀ cp cs,CPok E cp→CSok E cs→CSok E (T.orcS cp cs)
theorem xF_sound {T:Tab} (hT:TabOk E T) (fuel:Nat):∀ d,CPok E (xF T fuel d).1∧CSok E (xF T fuel d).2:=by
 intro d
 induction d with
 | zero => exact ⟨fun f asx r h => (by cases h),fun f asx h n r h' n' hx => (by cases hx)⟩
 | succ d ih => 
  constructor
  ·intro f asx r hx
   simp only [xF] at hx
   split at hx
   ·rename_i r' hr; obtain rfl:=Option.some.inj hx; exact hT.2.1 _ _ _ hr
   ·split at hx
    ·cases hx
    ·rename_i A np hA
     split at hx
     ·rename_i hn
      subst hn
      refine zzW (hT.1 _ _ _ hA) ?_
      have e0:(⟨argT asx,fun _ => none,0⟩:St)=Sx.st ⟨argL asx,[],0⟩:=by rw [Sx.st,argL_eq]; rfl
      rw [e0]
      split at hx
      ·cases hx
      ·cases hx
      ·rename_i e s hne h1
       split at hx
       ·cases hx
       ·rename_i v hv
        refine xC_sound ih.1 ih.2 _ _ _ _ _ _ h1 ?_
        cases e with
        | exit i => exact absurd rfl (hne i)
        | normal => exact ⟨v,hv,hx⟩
        | ret => exact ⟨v,hv,hx⟩
     ·cases hx
  ·intro f asx h n r h' n' hx
   simp only [xF] at hx
   split at hx
   ·rename_i r0 hr
    obtain rfl:=Option.some.inj hx
    exact hT.2.2 _ _ ih.1 ih.2 _ _ _ _ _ _ _ hr
   ·split at hx
    ·cases hx
    rename_i A np hA
    split at hx
    ·rename_i hn
     subst hn
     refine zxL (hT.1 _ _ _ hA) ?_
     have e0:(⟨argT asx,hm h,n⟩:St)=Sx.st ⟨argL asx,h,n⟩:=by rw [Sx.st,argL_eq]
     rw [e0]
     split at hx
     ·cases hx
     ·cases hx
     ·rename_i e s hne h1
      split at hx
      ·cases hx
      ·rename_i v hv
       simp only [Option.some.injEq,Prod.mk.injEq] at hx
       obtain ⟨rfl,rfl,rfl⟩:=hx
       refine xC_sound ih.1 ih.2 _ _ _ _ _ _ h1 ?_
       cases e with
       | exit i => exact absurd rfl (hne i)
       | normal => exact ⟨v,hv,rfl,rfl,rfl⟩
       | ret => exact ⟨v,hv,rfl,rfl,rfl⟩
    ·cases hx
end Go.Proofs.YtablleokoifolaaGreatDoor
set_option linter.unusedVariables false
set_option linter.unusedSimpArgs false
namespace Go.Proofs.YtablleokoifolaaGreatDoor
open Go.RowKit Go.Extern.Stop Go.Stop Go.Extern
theorem zCF (t:Value) (w:World) :
  Calls Tryz.prog 32 #[.nilIface,t] w fun e w' => e=.returned (.bool false)∧w'=w:=by
 go_enter Tryz.func32,Tryz.ntmps32
 go_wp2
 go_ret
 exact ⟨rfl,rfl⟩
theorem zys (t:Addr) (w:World):(ReflectliteValue.unpack (.iface 120 (.pointer (some t)))).run Tryz.prog w
  = .ok (.agg #[.pointer (some ⟨2,120,none⟩),.pointer (some ⟨w.heap.size,0,none⟩),.int .u64 150]) (w.alloc (.cells #[.pointer (some t)] 120)):=by kernel_rfl
theorem zAw (a:Addr) (w:World):(ReflectliteValue.methodAny (ReflectliteValue.valueError "reflectlite.Value.Type" 0) (fun t _ _ _ => ReflectliteType.toType t) #[.agg #[.pointer (some ⟨2,120,none⟩),.pointer (some a),.int .u64 150]]).run Tryz.prog w
  = .ok (.iface 170 (.agg #[.pointer (some ⟨2,120,none⟩)])) w:=by kernel_rfl
theorem zyu (h:Value) (w:World):(Go.method 351 170 (.agg #[h]) "Kind").run Tryz.prog w=.ok (135,h) w:=by kernel_rfl
theorem zAx (w:World):((ReflectliteType.abiMethod fun t => (fun a:Nat => Value.int IntKind.u8 (a:Int)) <$> Rtype.kind t) #[.pointer (some ⟨2,120,none⟩)]).run Tryz.prog w=.ok (.int .u8 22) w:=by kernel_rfl
theorem zAy (w:World):((ReflectliteType.abiMethod fun t => (fun a:Nat => Value.int IntKind.u8 (a:Int)) <$> Rtype.kind t) #[.pointer (some ⟨2,104,none⟩)]).run Tryz.prog w=.ok (.int .u8 2) w:=by kernel_rfl
theorem zCp (z:Sem Value) (f:TypeId→Addr→Nat→Nat→Sem Value) (v:Value) :
  ReflectliteValue.method z f #[v]=(do match ← ReflectliteValue.parts v with | none => z | some (t,a,fl) => f t a fl (fl % 32)):=rfl
theorem zwW (a:Addr) (w:World):(ReflectliteValue.parts (.agg #[.pointer (some ⟨2,120,none⟩),.pointer (some a),.int .u64 150])).run Tryz.prog w=.ok (some (120,a,150)) w:=by kernel_rfl
theorem zAa (a p:Addr) (W:World) (ha:W.cell? a=some (.pointer (some p))) :
  (ReflectliteValue.method (ReflectliteValue.valueError "reflectlite.Value.IsNil" 0) ReflectliteValue.isNil #[.agg #[.pointer (some ⟨2,120,none⟩),.pointer (some a),.int .u64 150]]).run Tryz.prog W=.ok (.bool false) W:=by
 rw [zCp]
 simp only [Sem.run_bind,zwW,Result.andThen]
 simp [ReflectliteValue.isNil,loadVar,isAgg,underlying,Tryz.underlying120,ha,Result.andThen]
theorem zyv (h:Value) (w:World):(Go.method 351 170 (.agg #[h]) "Elem").run Tryz.prog w=.ok (145,.agg #[h]) w:=by kernel_rfl
theorem zmq (h:Value) (w:World):(Go.method 351 170 (.agg #[h]) "Implements").run Tryz.prog w=.ok (146,.agg #[h]) w:=by kernel_rfl
theorem zkW (h:Value) (w:World):(Go.method 351 170 (.agg #[h]) "AssignableTo").run Tryz.prog w=.ok (143,.agg #[h]) w:=by kernel_rfl
theorem zAz (w:World):(ReflectliteType.method ReflectliteType.elem #[.agg #[.pointer (some ⟨2,120,none⟩)]]).run Tryz.prog w=.ok (.iface 170 (.agg #[.pointer (some ⟨2,104,none⟩)])) w:=by kernel_rfl
theorem ztG (w:World):(ReflectliteType.relation "Implements" ReflectliteType.implements_ #[.agg #[.pointer (some ⟨2,104,none⟩)],.iface 170 (.agg #[.pointer (some ⟨2,44,none⟩)])]).run Tryz.prog w=.ok (.bool true) w:=by kernel_rfl
theorem zza (v:Value) (w:World):(ReflectliteType.typeOf #[.iface 104 v]).run Tryz.prog w=.ok (.iface 170 (.agg #[.pointer (some ⟨2,104,none⟩)])) w:=by kernel_rfl
theorem ztH (w:World):(ReflectliteType.relation "AssignableTo" ReflectliteType.assignableTo #[.agg #[.pointer (some ⟨2,104,none⟩)],.iface 170 (.agg #[.pointer (some ⟨2,104,none⟩)])]).run Tryz.prog w=.ok (.bool true) w:=by kernel_rfl
theorem zyt (n:Int) (w:World):(ReflectliteValue.unpack (.iface 104 (.int .i64 n))).run Tryz.prog w
  = .ok (.agg #[.pointer (some ⟨2,104,none⟩),.pointer (some ⟨w.heap.size,0,none⟩),.int .u64 130]) (w.alloc (.cells #[.int .i64 n] 104)):=by kernel_rfl
theorem zzc (w:World):(Rtype.elem? 120).run Tryz.prog w=.ok (some 104) w:=by kernel_rfl
theorem zCa (p:Addr) (w:World):(ReflectliteValue.mk 104 p ReflectliteValue.flagAddr).run Tryz.prog w=.ok (.agg #[.pointer (some ⟨2,104,none⟩),.pointer (some p),.int .u64 386]) w:=by kernel_rfl
theorem zAb (a p:Addr) (W:World) (ha:W.cell? a=some (.pointer (some p))) :
  (ReflectliteValue.method (ReflectliteValue.valueError "reflectlite.Value.Elem" 0) ReflectliteValue.elem #[.agg #[.pointer (some ⟨2,120,none⟩),.pointer (some a),.int .u64 150]]).run Tryz.prog W
   = .ok (.agg #[.pointer (some ⟨2,104,none⟩),.pointer (some p),.int .u64 386]) W:=by
 rw [zCp]
 simp only [Sem.run_bind,zwW,Result.andThen]
 simp [ReflectliteValue.elem,loadVar,isAgg,underlying,Tryz.underlying120,ha,Result.andThen,zzc,zCa]
theorem zCH (v x:Value):ReflectliteValue.set #[v,x]=(do
  let (some (dst,a,fl),some (src,b,_)):=(← ReflectliteValue.parts v,← ReflectliteValue.parts x)
   | unsupported (.noEntry "extern/(internal/reflectlite.Value).Set.zeroValue")
  if fl / ReflectliteValue.flagAddr % 2==0 then unsupported (.noEntry "extern/(internal/reflectlite.Value).Set.unaddressable")
  let val ← loadVar src b
  if ← Rtype.directlyAssignable dst src then storeVar dst a val
  else if ← Rtype.implements dst src then
   if (← Rtype.kind src)==20 then
    match val with
    | .nilIface => unsupported (.noEntry "extern/reflectlite: a nil value of one interface type handed on as a value of another")
    | _ => storeVar dst a val
   else storeVar dst a (.iface src val)
  else panicString ("reflectlite.Set: value of type " ++ (← Rtype.spelt src) ++ " is not assignable to type " ++ (← Rtype.spelt dst))
  pure (.tuple #[])):=rfl
theorem zzb (a:Addr) (w:World):(ReflectliteValue.parts (.agg #[.pointer (some ⟨2,104,none⟩),.pointer (some a),.int .u64 386])).run Tryz.prog w=.ok (some (104,a,386)) w:=by kernel_rfl
theorem zzZ (a:Addr) (w:World):(ReflectliteValue.parts (.agg #[.pointer (some ⟨2,104,none⟩),.pointer (some a),.int .u64 130])).run Tryz.prog w=.ok (some (104,a,130)) w:=by kernel_rfl
theorem zzd (w:World):(Rtype.directlyAssignable 104 104).run Tryz.prog w=.ok true w:=by kernel_rfl
theorem zBk (ta b:Addr) (n:Int) (old:Value) (W:World) (hb:W.cell? b=some (.int .i64 n)) (ht:W.cell? ta=some old) (hf:W.frozen? ta=false) :
  (ReflectliteValue.set #[.agg #[.pointer (some ⟨2,104,none⟩),.pointer (some ta),.int .u64 386],.agg #[.pointer (some ⟨2,104,none⟩),.pointer (some b),.int .u64 130]]).run Tryz.prog W
   = .ok (.tuple #[]) (W.setCell ta (.int .i64 n)):=by
 rw [zCH]
 simp only [Sem.run_bind,zzb,zzZ,Result.andThen]
 simp [ReflectliteValue.flagAddr,loadVar,isAgg,underlying,Tryz.underlying104,hb,Result.andThen,zzd,storeVar,Value.cells,storeCells,Addr.add]
 rw [run_store Tryz.prog W ta _ _ (by rfl)]
 simp [ht,hf]
set_option maxRecDepth 100000 in
set_option maxHeartbeats 4000000 in
theorem zCG (n:Int) (t:Addr) (old:Value) (w:World) (hg:w.cell? ⟨0,0,none⟩=some (.iface 170 (.agg #[.pointer (some ⟨2,44,none⟩)]))) (ht0:w.cell? t=some old) (hf0:w.frozen? t=false) :
  Calls Tryz.prog 32 #[.iface 104 (.int .i64 n),.iface 120 (.pointer (some t))] w fun ev w' => ev=.returned (.bool true)∧w'=((((w.alloc (.cells #[.pointer (some t)] 120)).alloc (.cells #[.pointer (some ⟨2,120,none⟩),.pointer (some ⟨w.heap.size,0,none⟩),.int .u64 150] 139)).alloc (.cells #[.pointer (some ⟨2,120,none⟩),.pointer (some ⟨w.heap.size,0,none⟩),.int .u64 150] 139)).alloc (.cells #[.int .i64 n] 104)).setCell t (.int .i64 n):=by
 have h6:=@run_callFunc_extern Tryz.prog 52 _ (fun args => ReflectliteValue.unpack (args.getD 0 (.tuple #[]))) Tryz.func52 (by kernel_rfl) (by kernel_rfl) (by kernel_rfl) (by kernel_rfl)
 have h7:=@run_callFunc_extern Tryz.prog 53 _ (ReflectliteValue.methodAny (ReflectliteValue.valueError "reflectlite.Value.Type" 0) (fun t _ _ _ => ReflectliteType.toType t)) Tryz.func53 (by kernel_rfl) (by kernel_rfl) (by kernel_rfl) (by kernel_rfl)
 have h8:=@run_callFunc_extern Tryz.prog 54 _ (ReflectliteValue.method (ReflectliteValue.valueError "reflectlite.Value.IsNil" 0) ReflectliteValue.isNil) Tryz.func54 (by kernel_rfl) (by kernel_rfl) (by kernel_rfl) (by kernel_rfl)
 have h27:=@run_callFunc_extern Tryz.prog 135 _ (ReflectliteType.abiMethod fun t => do pure (.int .u8 (← Rtype.kind t))) Tryz.func135 (by kernel_rfl) (by kernel_rfl) (by kernel_rfl) (by kernel_rfl)
 have h37:=@run_callFunc_extern Tryz.prog 145 _ (ReflectliteType.method ReflectliteType.elem) Tryz.func145 (by kernel_rfl) (by kernel_rfl) (by kernel_rfl) (by kernel_rfl)
 have h38:=@run_callFunc_extern Tryz.prog 146 _ (ReflectliteType.relation "Implements" ReflectliteType.implements_) Tryz.func146 (by kernel_rfl) (by kernel_rfl) (by kernel_rfl) (by kernel_rfl)
 have h10:=@run_callFunc_extern Tryz.prog 72 _ ReflectliteType.typeOf Tryz.func72 (by kernel_rfl) (by kernel_rfl) (by kernel_rfl) (by kernel_rfl)
 have h35:=@run_callFunc_extern Tryz.prog 143 _ (ReflectliteType.relation "AssignableTo" ReflectliteType.assignableTo) Tryz.func143 (by kernel_rfl) (by kernel_rfl) (by kernel_rfl) (by kernel_rfl)
 have h11:=@run_callFunc_extern Tryz.prog 73 _ (ReflectliteValue.method (ReflectliteValue.valueError "reflectlite.Value.Elem" 0) ReflectliteValue.elem) Tryz.func73 (by kernel_rfl) (by kernel_rfl) (by kernel_rfl) (by kernel_rfl)
 have h12:=@run_callFunc_extern Tryz.prog 74 _ ReflectliteValue.set Tryz.func74 (by kernel_rfl) (by kernel_rfl) (by kernel_rfl) (by kernel_rfl)
 have tO:=zza
 have mA:=zkW
 have a25:=ztH
 have v25:=zyt
 have f6:=zys
 have f7:=zAw
 have mK:=zyu
 have mE:=zyv
 have mI:=zmq
 have k27:=zAx
 have k25:=zAy
 have e27:=zAz
 have i25:=ztG
 have n8:=zAa ⟨w.heap.size,0,none⟩ t ((w.alloc (.cells #[.pointer (some t)] 120)).alloc (.cells #[.pointer (some ⟨2,120,none⟩),.pointer (some ⟨w.heap.size,0,none⟩),.int .u64 150] 139)) (by simp)
 have hlt:0<w.heap.size:=by
  rcases Nat.eq_zero_or_pos w.heap.size with h0 | h
  ·simp [World.cell?,h0] at hg
  ·exact h
 have hg2:((w.alloc (.cells #[.pointer (some t)] 120)).alloc (.cells #[.pointer (some ⟨2,120,none⟩),.pointer (some ⟨w.heap.size,0,none⟩),.int .u64 150] 139)).cell? ⟨0,0,none⟩=some (.iface 170 (.agg #[.pointer (some ⟨2,44,none⟩)])):=by
  rw [World.cell?_alloc_lt _ _ ⟨0,0,none⟩ (by simp),World.cell?_alloc_lt _ _ ⟨0,0,none⟩ hlt]; exact hg
 have htl:t.block<w.heap.size:=by
  rcases Nat.lt_or_ge t.block w.heap.size with h | h
  ·exact h
  ·simp [World.cell?,Array.getElem?_eq_none h] at ht0
 have el:=zAb ⟨w.heap.size,0,none⟩ t (((w.alloc (.cells #[.pointer (some t)] 120)).alloc (.cells #[.pointer (some ⟨2,120,none⟩),.pointer (some ⟨w.heap.size,0,none⟩),.int .u64 150] 139)).alloc (.cells #[.pointer (some ⟨2,120,none⟩),.pointer (some ⟨w.heap.size,0,none⟩),.int .u64 150] 139)) (by rw [World.cell?_alloc_lt _ _ ⟨w.heap.size,0,none⟩ (by simp; omega)]; simp)
 have st:=zBk t ⟨w.heap.size+1+1+1,0,none⟩ n old ((((w.alloc (.cells #[.pointer (some t)] 120)).alloc (.cells #[.pointer (some ⟨2,120,none⟩),.pointer (some ⟨w.heap.size,0,none⟩),.int .u64 150] 139)).alloc (.cells #[.pointer (some ⟨2,120,none⟩),.pointer (some ⟨w.heap.size,0,none⟩),.int .u64 150] 139)).alloc (.cells #[.int .i64 n] 104))
  (by rw [World.cell?_alloc_at _ _ _ _ (by simp)]; rfl)
  (by rw [World.cell?_alloc_lt _ _ t (by simp; omega),World.cell?_alloc_lt _ _ t (by simp; omega),World.cell?_alloc_lt _ _ t (by simp; omega),World.cell?_alloc_lt _ _ t htl]; exact ht0)
  (by rw [World.frozen?_alloc_old _ _ t (by simp; omega),World.frozen?_alloc_old _ _ t (by simp; omega),World.frozen?_alloc_old _ _ t (by simp; omega),World.frozen?_alloc_old _ _ t (Nat.ne_of_lt htl)]; exact hf0)
 go_enter Tryz.func32,Tryz.ntmps32
 go_wp2
 refine wp_loop_rounds 1 ?_
 rw [rounds_succ]
 go_wp2
 go_ret
 exact ⟨rfl,rfl⟩
set_option maxHeartbeats 4000000 in
theorem zCi (w:World):Calls Tryz.prog 17 #[.nilIface] w fun e w' => e=.returned (.int .i64 0)∧w'=w.alloc (.cells #[.int .i64 0] 104):=by
 go_enter Tryz.func17,Tryz.ntmps17
 go_wp2_with (first | (go_at_call 32; refine (zCF _ _).mono ?_; rintro e w' ⟨rfl,rfl⟩))
 go_ret
 exact ⟨rfl,rfl⟩
set_option maxRecDepth 100000 in
set_option maxHeartbeats 4000000 in
theorem zCj (n:Int) (w:World) (hg:w.cell? ⟨0,0,none⟩=some (.iface 170 (.agg #[.pointer (some ⟨2,44,none⟩)]))) :
  Calls Tryz.prog 17 #[.iface 104 (.int .i64 n)] w fun e w' => e=.returned (.int .i64 n)∧∃ o0 o1 o2 o3 o4,w'=((((w.alloc o0).alloc o1).alloc o2).alloc o3).alloc o4:=by
 have hlt:0<w.heap.size:=by
  rcases Nat.eq_zero_or_pos w.heap.size with h0 | h
  ·simp [World.cell?,h0] at hg
  ·exact h
 have hgA:(w.alloc (.cells #[.int .i64 0] 104)).cell? ⟨0,0,none⟩=some (.iface 170 (.agg #[.pointer (some ⟨2,44,none⟩)])):=by
  rw [World.cell?_alloc_lt _ _ ⟨0,0,none⟩ hlt]; exact hg
 have htA:(w.alloc (.cells #[.int .i64 0] 104)).cell? ⟨w.heap.size,0,none⟩=some (.int .i64 0):=by simp
 have hfA:(w.alloc (.cells #[.int .i64 0] 104)).frozen? ⟨w.heap.size,0,none⟩=false:=by simp
 go_enter Tryz.func17,Tryz.ntmps17
 go_wp2_with (first | (go_at_call 32; refine (zCG n _ (.int .i64 0) _ hgA htA hfA).mono ?_; rintro e w' ⟨rfl,rfl⟩))
 go_ret
 exact ⟨rfl,_,_,_,_,_,rfl⟩
theorem fnOk_num:FnOk E 9:=⟨Tryz.f17,Tryz.func17,by kernel_rfl,by kernel_rfl⟩
theorem zfm {w w1:World} {F:Nat→Prop} {r:AV} {v:Value} (p:PureEnd E w F r v w1 F) (hr:∀ H,RVF E H F r v) (o:Obj):PureEnd E w F r v (w1.alloc o) F where
 rv:=hr _
 fmono:=p.fmono
 fnew:=p.fnew
 fsz b hb:=by have:=p.fsz b hb; rw [World.size_alloc]; omega
 size:=by have:=p.size; rw [World.size_alloc]; omega
 same b hb:=by
  have:=p.size
  have e:(w1.alloc o).heap[b]? = w1.heap[b]?:=getElem?_push_lt' (by omega)
  rw [e]; exact p.same b hb
 wx:=p.wx.trans ⟨rfl,rfl,rfl⟩
theorem ztJ {w:World} {F:Nat→Prop} {r:AV} {v:Value} (hF:∀ b,F b→b<w.heap.size) (hr:RVF E w.heap F r v):PureEnd E w F r v w F:=
 ⟨hr,fun _ h => h,fun _ h => .inl h,hF,Nat.le_refl _,fun _ _ => rfl,WX.refl w⟩
theorem cellH_cell {w:World} {b:Nat} {v:Value} (h:cellH w.heap b=some v):w.cell? ⟨b,0,none⟩=some v:=by
 unfold cellH at h
 unfold World.cell?
 cases hb:w.heap[b]? with
 | none => simp [hb] at h
 | some o => cases o <;> simp_all
theorem zyT:ACallP E 9 [.nili] (.int .i64 0):=by
 refine ⟨fnOk_num,fun w F vs hgb hgo hF hl hrv => ?_⟩
 have h0:=hrv 0 (by simp)
 obtain ⟨v,rfl⟩:∃ v,vs = #[v]:=by
  match vs,hl with
  | ⟨[v]⟩,_ => exact ⟨v,rfl⟩
 simp only [List.getD_cons_zero] at h0
 have hv:v=.nilIface:=by
  have:(#[v]:Array Value).getD 0 Go.undef=v:=rfl
  rw [this] at h0
  cases h0; rfl
 subst hv
 refine (zCi w).mono ?_
 rintro e w' ⟨rfl,rfl⟩
 exact ⟨_,F,rfl,zfm (ztJ hF (.int _ _)) (fun _ => .int _ _) _⟩
theorem zCC (n:Int):ACallP E 9 [.iface 45 (.int .i64 n)] (.int .i64 n):=by
 refine ⟨fnOk_num,fun w F vs hgb hgo hF hl hrv => ?_⟩
 have h0:=hrv 0 (by simp)
 obtain ⟨v,rfl⟩:∃ v,vs = #[v]:=by
  match vs,hl with
  | ⟨[v]⟩,_ => exact ⟨v,rfl⟩
 have hv:v=.iface 104 (.int .i64 n):=by
  have:(#[v]:Array Value).getD 0 Go.undef=v:=rfl
  rw [this] at h0
  simp only [List.getD_cons_zero] at h0
  cases h0 with
  | iface _ _ u hu => cases hu; rfl
 subst hv
 refine (zCj n w (cellH_cell hgo.1)).mono ?_
 rintro e w' ⟨rfl,o0,o1,o2,o3,o4,rfl⟩
 exact ⟨_,F,rfl,zfm (zfm (zfm (zfm (zfm (ztJ hF (.int _ _)) (fun _ => .int _ _) _) (fun _ => .int _ _) _) (fun _ => .int _ _) _) (fun _ => .int _ _) _) (fun _ => .int _ _) _⟩
end Go.Proofs.YtablleokoifolaaGreatDoor
set_option linter.unusedVariables false
namespace Go.Proofs.YtablleokoifolaaGreatDoor
open Go.Shelf
def renS:Ren:=
 { f:=fun x => match x with
   | 219 => 114 | 217 => 115 | 225 => 116 | 224 => 117 | 267 => 118 | 266 => 119 | 314 => 120
   | n => n
  t:=fun x => match x with
   | 9 => 9 | 3 => 3 | 4 => 4 | 5 => 5 | 46 => 71 | 146 => 220 | 51 => 59
   | n => n
  g:=fun x => match x with
   | 1 => 1
   | n => n }
theorem lays219:Lays.n219 Tryz.prog renS:=
 { mixed:=Eq.refl true,
  f217:=Tryz.func115.trans (congrArg some (Eq.refl (Body.n217 renS))),f219:=Tryz.func114.trans (congrArg some (Eq.refl (Body.n219 renS))),f224:=Tryz.func117.trans (congrArg some (Eq.refl (Body.n224 renS))),
  f225:=Tryz.func116.trans (congrArg some (Eq.refl (Body.n225 renS))),f266:=Tryz.func119.trans (congrArg some (Eq.refl (Body.n266 renS))),f267:=Tryz.func118.trans (congrArg some (Eq.refl (Body.n267 renS))),
  f314:=Tryz.func120.trans (congrArg some (Eq.refl (Body.n314 renS))),
  t3:=Tryz.underlying3,a3:=Tryz.isAgg3,z3:=Tryz.sizeOf3,v3:=Tryz.zeroValue3,t4:=Tryz.underlying4,a4:=Tryz.isAgg4,z4:=Tryz.sizeOf4,v4:=Tryz.zeroValue4,
  t5:=Tryz.underlying5,a5:=Tryz.isAgg5,z5:=Tryz.sizeOf5,v5:=Tryz.zeroValue5,t9:=Tryz.underlying9,a9:=Tryz.isAgg9,z9:=Tryz.sizeOf9,v9:=Tryz.zeroValue9,
  t46:=Tryz.underlying71,a46:=Tryz.isAgg71,z46:=Tryz.sizeOf71,v46:=Tryz.zeroValue71,t51:=Tryz.underlying59,a51:=Tryz.isAgg59,z51:=Tryz.sizeOf59,v51:=Tryz.zeroValue59,
  t146:=Tryz.underlying220,a146:=Tryz.isAgg220,z146:=Tryz.sizeOf220,v146:=Tryz.zeroValue220,g1:=by kernel_rfl }
open Go.RowKit Go.Lib in
theorem zzo (s sub:ByteArray) (m:Int) (w:World) (hs:s.size<4294967281) (hm:w.cell? ⟨1,0,none⟩=some (.int .i64 m)) :
  Calls Tryz.prog 114 #[.string s,.string sub] w fun e w' => e=.returned (.int .i64 (Lib.index s.data.toList sub.data.toList))∧w'=w:=Any.stringslite_Index lays219 s sub m w hs hm
theorem fnOk_index:FnOk E 106:=⟨Tryz.f114,Tryz.func114,by kernel_rfl,by kernel_rfl⟩
theorem zBc (s sub:ByteArray) (hs:s.size<4294967281):ACallP E 106 [.str s,.str sub] (.int .i64 (Lib.index s.data.toList sub.data.toList)):=by
 refine ⟨fnOk_index,fun w F vs hgb hgo hF hl hrv => ?_⟩
 have h0:=hrv 0 (by simp)
 have h1:=hrv 1 (by simp)
 obtain ⟨v,u,rfl⟩:∃ v u,vs = #[v,u]:=by
  match vs,hl with
  | ⟨[v,u]⟩,_ => exact ⟨v,u,rfl⟩
 have e0:(#[v,u]:Array Value).getD 0 Go.undef=v:=rfl
 have e1:(#[v,u]:Array Value).getD 1 Go.undef=u:=rfl
 rw [e0] at h0
 rw [e1] at h1
 simp only [List.getD_cons_zero,List.getD_cons_succ] at h0 h1
 cases h0
 cases h1
 obtain ⟨m,hm⟩:=hgo.2
 refine (zzo s sub m w hs (cellH_cell hm)).mono ?_
 rintro e w' ⟨rfl,rfl⟩
 exact ⟨_,F,rfl,ztJ hF (.int _ _)⟩
end Go.Proofs.YtablleokoifolaaGreatDoor
set_option linter.unusedVariables false
set_option maxRecDepth 100000
namespace Go.Proofs.YtablleokoifolaaGreatDoor
open Go
def TL:List (Nat×AFun×Nat):=[
 (2,zpM,0),
 (4,zmQ,1),
 (6,zko,2),
 (7,zhk,2),
 (9,zvO,1),
 (20,zkn,1),
 (29,zii,2),
 (21,zbp,2),
 (22,zmJ,1),
 (24,ziN,2),
 (30,zbE,2),
 (31,zit,1),
 (32,zlN,1),
 (33,zmG,2),
 (35,zbM,2),
 (34,zkm,2),
 (36,ziU,1),
 (38,zbq,1),
 (39,zdz,2),
 (40,zdy,2),
 (49,zfx,1),
 (50,zgO,1),
 (51,zaQ,2),
 (53,zaL,2),
 (52,zfw,2),
 (54,zcc,2),
 (68,zbC,2),
 (55,zcx,2),
 (56,zcU,2),
 (66,zaT,2),
 (67,zaN,2),
 (69,zde,1),
 (70,zdg,4),
 (71,zee,2),
 (72,zdf,2),
 (73,zdb,2),
 (75,zdA,2),
 (74,zcm,2),
 (76,zed,2),
 (77,zdd,2),
 (78,zcV,2),
 (79,zdc,2),
 (85,zpn,1),
 (86,zmp,1),
 (87,zpp,1),
 (88,zpo,1),
 (89,zvE,1),
 (90,zhl,1),
 (91,zeh,2),
 (92,zdB,2),
 (93,zef,2),
 (96,zvF,0),
 (97,zeg,2),
 (98,ziQ,2),
 (99,zeK,2),
 (100,zcA,2),
 (101,zcn,2),
 (102,zcy,2),
 (103,zcz,2),
 (104,zeV,2),
 (105,zgc,2)]
theorem TL_ok:∀ e∈TL,Fn E e.1 e.2.1 e.2.2:=by
 unfold TL
 simp only [List.forall_mem_cons]
 exact ⟨zxH,zvZ,zmz,zkc,zyO,zpP,zmy,zco,zvY,zlL,zcT,zlK,ztO,zvX,zdO,zpO,znv,zbO,zfa,zeZ,ziS,zkb,zbD,zbj,ziR,zeH,zcb,zer,zeF,zbI,zbA,zeO,zeQ,zff,zeP,zeL,zfb,zdM,zfe,zeN,zeG,zeM,ztQ,zpt,ztS,ztR,zxf,zkd,zfi,zfc,zfg,zyM,zfh,zlM,zfs,zeu,zdN,zes,zet,zgH,ziT,fun _ h => by cases h⟩
def Tfn (f:Nat):Option (AFun×Nat):=(TL.find? fun e => e.1==f).map (·.2)
def torc:CP
 | 9,[.nili] => some (.int .i64 0)
 | 9,[.iface 45 (.int .i64 n)] => some (.int .i64 n)
 | 106,[.str a,.str b] => if a.size<4294967281 then some (.int .i64 (Lib.index a.data.toList b.data.toList)) else none
 | _,_ => none
def TT:Tab:=⟨Tfn,torc,fun _ _ _ _ _ _ => none⟩
theorem TT_ok:TabOk E TT:=by
 refine ⟨fun f A np h => ?_,fun f ar r h => ?_,fun _ _ _ _ f ar h n r h' n' hx => by cases hx⟩
 ·simp only [TT,Tfn] at h
  obtain ⟨e,he,h⟩:=Option.map_eq_some_iff.1 h
  have h1:=List.find?_some he
  have h2:=List.mem_of_find?_eq_some he
  have:=TL_ok e h2
  simp only [beq_iff_eq] at h1
  rw [h1,h] at this
  exact this
 ·simp only [TT] at h
  unfold torc at h
  split at h
  ·obtain rfl:=Option.some.inj h; exact zyT
  ·obtain rfl:=Option.some.inj h; exact zCC _
  ·split at h
   ·rename_i hs; obtain rfl:=Option.some.inj h; exact zBc _ _ hs
   ·cases h
  ·cases h
theorem zBT {f:Nat} {ar:List AV} {r:AV} (d:Nat) (h:(xF TT 3000 d).1 f ar=some r):ACallP E f ar r:=(xF_sound TT_ok 3000 d).1 f ar r h
theorem zCB:ACallP E 2 [] (.bool true):=zBT 60 (by kernel_rfl)
end Go.Proofs.YtablleokoifolaaGreatDoor
set_option linter.unusedVariables false
set_option linter.unusedSimpArgs false
namespace Go.Proofs.YtablleokoifolaaGreatDoor
open Go
variable {E:Env} {nt:Nat}
theorem AW.rs (W:Nat→Nat→Nat→Prop) {res:Nat} {ops:List AOper} {dr:Bool} {live:List Nat} {b:ACode} {Q:AExit→St→Prop} {s:St}
  (h:∀ K:St→Prop,(∀ s',AW E nt b Q s'→K s')→AWL E dr s.n W ops (fun s' => K ⟨prune live s'.t,s'.h,s'.n⟩) ⟨s.t,s.h,s.n+res⟩):AW E nt (.seq (.reg res ops dr live) b) Q s:=
 AW.seq (AW.reg W (h (fun s' => AW E nt b Q s') (fun _ h => h)))
theorem AW.r1 (W:Nat→Nat→Nat→Prop) {res:Nat} {ops:List AOper} {dr:Bool} {live:List Nat} {Q:AExit→St→Prop} {s:St}
  (h:∀ K:St→Prop,(∀ s',Q .normal s'→K s')→AWL E dr s.n W ops (fun s' => K ⟨prune live s'.t,s'.h,s'.n⟩) ⟨s.t,s.h,s.n+res⟩):AW E nt (.reg res ops dr live) Q s:=
 AW.reg W (h (fun s' => Q .normal s') (fun _ h => h))
section
variable {W:Nat→Nat→Nat→Prop} {dr:Bool} {base:Nat} {r:List AOper} {K:St→Prop} {t:Nat→AV} {h:Hp} {n:Nat} {d:Option Nat}
def notNil:AV→Bool
 | .ptr _ _ _ | .fptr _ | .func _ _ | .iface _ _ => true
 | _ => false
end
inductive FV where
 | undef | hole
 | bool (b:Bool) | int (k:IntKind) (n:Int) | str (s:ByteArray)
 | nilp | nils | nilf | nili | nilm
 | sv (n:Nat) (f:Nat→List FV)
 | fp (cs:List FV)
 | err (c:Nat) (e:Option Int)
 | pt (o:Option (List FV))
 | func (f:Nat) (caps:List FV)
 | iface (c:Nat) (v:FV)
 | agg (cs:List FV) | tup (vs:List FV)
instance:Inhabited FV:=⟨.undef⟩
mutual
def toA:FV→AV
 | .undef => .undef | .hole => .hole
 | .bool b => .bool b | .int k n => .int k n | .str s => .str s
 | .nilp => .nilp | .nils => .slv [] | .nilf => .nilf | .nili => .nili | .nilm => .nilm
 | .sv n f => .slv ((List.range n).map fun i => toAL (f i))
 | .fp cs => .fptr (toAL cs)
 | .pt none => .nilp
 | .pt (some cs) => .fptr (toAL cs)
 | .err _ none => .nili
 | .err c (some n) => .iface c (.int .i64 n)
 | .func f cs => .func f (toAL cs)
 | .iface c v => .iface c (toA v)
 | .agg cs => .agg (toAL cs)
 | .tup cs => .tup (toAL cs)
def toAL:List FV→List AV
 | [] => []
 | v :: l => toA v :: toAL l
end
theorem toAL_map (l:List FV):toAL l=l.map toA:=by
 induction l with
 | nil => rfl
 | cons v l ih => simp [toAL,ih]
def isH:FV→Bool
 | .bool _ | .int _ _ | .str _ | .nilp | .nilf | .nili | .nilm | .sv _ _ | .fp _ | .err _ _ | .pt _ => true
 | _ => false
inductive RD:FV→AV→Prop
 | c (v) (h:isH v=true):RD v (toA v)
 | sv0 (f):RD (.sv 0 f) .nils
 | nils:RD .nils .nils
 | func (f) (cs:List FV) (cs':List AV) (hl:cs'.length=cs.length) (hc:∀ i,i<cs.length→RD (cs.getD i .undef) (cs'.getD i .undef)):RD (.func f cs) (.func f cs')
 | iface (c v a) (h:RD v a):RD (.iface c v) (.iface c a)
 | agg (cs:List FV) (cs':List AV) (hl:cs'.length=cs.length) (hc:∀ i,i<cs.length→RD (cs.getD i .undef) (cs'.getD i .undef)):RD (.agg cs) (.agg cs')
 | tup (cs:List FV) (cs':List AV) (hl:cs'.length=cs.length) (hc:∀ i,i<cs.length→RD (cs.getD i .undef) (cs'.getD i .undef)):RD (.tup cs) (.tup cs')
inductive LV where
 | undef | hole
 | d (v:FV)
 | p (k o:Nat)
 | ep (k i o:Nat)
 | ls (k lo n:Nat)
 | agg (cs:List LV) | tup (vs:List LV)
 | func (f:Nat) (caps:List LV)
 | mapk (k:Nat)
instance:Inhabited LV:=⟨.undef⟩
inductive Ob where
 | st (ro:Bool) (cs:List LV)
 | sl (ro:Bool) (esz n:Nat) (f:Nat→List FV)
abbrev Rho:=Nat→Option Nat
inductive RL (ρ:Rho):LV→AV→Prop
 | undef (a):RL ρ .undef a
 | hole:RL ρ .hole .hole
 | d (v a) (h:RD v a):RL ρ (.d v) a
 | p (k o κ) (h:ρ k=some κ):RL ρ (.p k o) (.ptr κ 0 o)
 | ep (k i o κ) (h:ρ k=some κ):RL ρ (.ep k i o) (.ptr κ i o)
 | ls (k lo n κ) (h:ρ k=some κ):RL ρ (.ls k lo n) (.sl κ lo n)
 | ls0 (k lo) (h:ρ k=none):RL ρ (.ls k lo 0) .nils
 | agg (cs:List LV) (cs':List AV) (hl:cs'.length=cs.length) (hc:∀ i,i<cs.length→RL ρ (cs.getD i .undef) (cs'.getD i .undef)):RL ρ (.agg cs) (.agg cs')
 | tup (cs:List LV) (cs':List AV) (hl:cs'.length=cs.length) (hc:∀ i,i<cs.length→RL ρ (cs.getD i .undef) (cs'.getD i .undef)):RL ρ (.tup cs) (.tup cs')
 | func (f) (cs:List LV) (cs':List AV) (hl:cs'.length=cs.length) (hc:∀ i,i<cs.length→RL ρ (cs.getD i .undef) (cs'.getD i .undef)):RL ρ (.func f cs) (.func f cs')
 | mapk (k κ) (h:ρ k=some κ):RL ρ (.mapk k) (.map κ)
def PW {α γ:Type} (R:α→γ→Prop) (d:α) (e:γ) (cs:List α) (cs':List γ):Prop:=cs'.length=cs.length∧∀ i,i<cs.length→R (cs.getD i d) (cs'.getD i e)
abbrev RDs (cs:List FV) (cs':List AV):Prop:=PW RD .undef .undef cs cs'
abbrev RLs (ρ:Rho) (cs:List LV) (cs':List AV):Prop:=PW (RL ρ) .undef .undef cs cs'
def RO (ρ:Rho) (h:Hp) (k:Nat):Ob→Prop
 | .st ro cs => ∃ κ cs',ρ k=some κ∧h κ=some (.row ro cs.length [cs'])∧RLs ρ cs cs'
 | .sl ro esz n f => (∃ κ es,ρ k=some κ∧h κ=some (.row ro esz es)∧n≤es.length∧∀ i,i<n→RDs (f i) (es.getD i []))∨(ρ k=none∧n=0)
def lk {α:Type} (d:α):List (Nat×α)→Nat→α
 | [],_ => d
 | (k,v) :: l,i => bif Nat.beq i k then v else lk d l i
abbrev lkT (t:List (Nat×LV)) (i:Nat):LV:=lk .undef t i
def lkO:List (Nat×Ob)→Nat→Option Ob
 | [],_ => none
 | (k,o) :: l,i => bif Nat.beq i k then some o else lkO l i
structure S2 where
 t:List (Nat×LV)
 h:List (Nat×Ob)
structure Frm where
 D:Nat→Prop
 h0:Hp
 n0:Nat
 ρ0:Rho
def AllR (h:Hp):Prop:=∀ κ es,h κ≠some (.mp es)
theorem AllR.upd {h:Hp} (r:AllR h) (κ:Nat) (ro:Bool) (e:Nat) (es:List (List AV)):AllR (upd h κ (some (.row ro e es))):=by
 intro κ' q hq
 simp only [Go.Proofs.YtablleokoifolaaGreatDoor.upd] at hq
 split at hq
 ·cases hq
 ·exact r κ' q hq
theorem AllR.none {h:Hp} (r:AllR h) (κ:Nat):AllR (Go.Proofs.YtablleokoifolaaGreatDoor.upd h κ none):=by
 intro κ' q hq
 simp only [Go.Proofs.YtablleokoifolaaGreatDoor.upd] at hq
 split at hq
 ·cases hq
 ·exact r κ' q hq
theorem AllR.ro {h:Hp} (r:AllR h) (L:List Nat):AllR (roAll L h):=by
 intro κ' q hq
 simp only [roAll] at hq
 split at hq
 ·obtain ⟨o,ho,e⟩:=Option.map_eq_some_iff.1 hq
  cases o with
  | row => cases e
  | mp es => exact r κ' es ho
 ·exact r κ' q hq
structure Rep (K0:List Nat) (fr:Frm) (ρ:Rho) (t:List (Nat×LV)) (h:List (Nat×Ob)) (s:St):Prop where
 t:∀ i,RL ρ (lkT t i) (s.t i)
 o:∀ k o,lkO h k=some o→RO ρ s.h k o
 inj:∀ k k' κ,(lkO h k).isSome=true→(lkO h k').isSome=true→ρ k=some κ→ρ k'=some κ→k=k'
 lt:∀ k κ,(lkO h k).isSome=true→ρ k=some κ→κ<s.n
 fm:∀ κ,fr.D κ→κ<fr.n0∧s.h κ=fr.h0 κ
 dis:∀ k κ,(lkO h k).isSome=true→ρ k=some κ→¬ fr.D κ
 n0:fr.n0≤s.n
 an:∀ k∈K0,ρ k=fr.ρ0 k
 rows:AllR s.h
structure AW2 (E:Env) (nt:Nat) (K0:List Nat) (fr:Frm) (c:ACode) (Q:AExit→S2→Prop) (s2:S2):Prop where
 go:∀ s ρ,Rep K0 fr ρ s2.t s2.h s→AW E nt c (fun e s' => ∃ s2' ρ',Q e s2'∧Rep K0 fr ρ' s2'.t s2'.h s') s
theorem AW2.skip {E:Env} {nt:Nat} {K0:List Nat} {fr:Frm} {Q:AExit→S2→Prop} {s:S2} (h:Q .normal s):AW2 E nt K0 fr .skip Q s:=
 ⟨fun s' ρ r => AW.skip ⟨s,ρ,h,r⟩⟩
theorem AW2.ret {E:Env} {nt:Nat} {K0:List Nat} {fr:Frm} {Q:AExit→S2→Prop} {s:S2} (h:Q .ret s):AW2 E nt K0 fr .ret Q s:=
 ⟨fun s' ρ r => AW.ret ⟨s,ρ,h,r⟩⟩
theorem AW2.exit {E:Env} {nt:Nat} {K0:List Nat} {fr:Frm} {i:Nat} {Q:AExit→S2→Prop} {s:S2} (h:Q (.exit i) s):AW2 E nt K0 fr (.exit i) Q s:=
 ⟨fun s' ρ r => AW.exit ⟨s,ρ,h,r⟩⟩
def seqQ2 (E:Env) (nt:Nat) (K0:List Nat) (fr:Frm) (b:ACode) (Q:AExit→S2→Prop):AExit→S2→Prop
 | .normal,s => AW2 E nt K0 fr b Q s
 | .ret,s => Q .ret s
 | .exit i,s => Q (.exit i) s
theorem AW2.mono {E:Env} {nt:Nat} {K0:List Nat} {fr:Frm} {c:ACode} {Q Q':AExit→S2→Prop} {s:S2} (h:AW2 E nt K0 fr c Q s) (hq:∀ e s,Q e s→Q' e s):AW2 E nt K0 fr c Q' s:=
 ⟨fun s' ρ r => (h.go s' ρ r).mono fun e s'' ⟨s2',ρ',k1,k2⟩ => ⟨s2',ρ',hq _ _ k1,k2⟩⟩
theorem AW2.seq {E:Env} {nt:Nat} {K0:List Nat} {fr:Frm} {x y:ACode} {Q:AExit→S2→Prop} {s:S2} (h:AW2 E nt K0 fr x (seqQ2 E nt K0 fr y Q) s):AW2 E nt K0 fr (.seq x y) Q s:=
 ⟨fun s' ρ r => AW.seq ((h.go s' ρ r).mono fun e s'' ⟨s2',ρ',k1,k2⟩ => by
  cases e with
  | normal => exact k1.go s'' ρ' k2
  | ret => exact ⟨s2',ρ',k1,k2⟩
  | exit i => exact ⟨s2',ρ',k1,k2⟩)⟩
def blockQ2 (i:Nat) (Q:AExit→S2→Prop):AExit→S2→Prop
 | .exit j,s => if j=i then Q .normal s else Q (.exit j) s
 | .normal,s => Q .normal s
 | .ret,s => Q .ret s
theorem AW2.block {E:Env} {nt:Nat} {K0:List Nat} {fr:Frm} {i:Nat} {x:ACode} {Q:AExit→S2→Prop} {s:S2} (h:AW2 E nt K0 fr x (blockQ2 i Q) s):AW2 E nt K0 fr (.block i x) Q s:=
 ⟨fun s' ρ r => AW.block ((h.go s' ρ r).mono fun e s'' ⟨s2',ρ',k1,k2⟩ => by
  cases e with
  | normal => exact ⟨s2',ρ',k1,k2⟩
  | ret => exact ⟨s2',ρ',k1,k2⟩
  | exit j => 
   simp only [blockQ,blockQ2] at k1 ⊢
   split at k1
   ·rename_i hj; rw [if_pos hj]; exact ⟨s2',ρ',k1,k2⟩
   ·rename_i hj; rw [if_neg hj]; exact ⟨s2',ρ',k1,k2⟩)⟩
theorem AW2.loop {E:Env} {nt:Nat} {K0:List Nat} {fr:Frm} {x:ACode} {Q:AExit→S2→Prop} {σ:Type} (J:σ→S2) (P:Nat→σ→Prop)
  (round:∀ k v,P k v→AW2 E nt K0 fr x (fun e s' => match e with | .normal => ∃ k' v',k'<k∧P k' v'∧s'=J v' | .ret => Q .ret s' | .exit i => Q (.exit i) s') (J v))
  (k:Nat) (v:σ) (h:P k v):AW2 E nt K0 fr (.loop x) Q (J v):=
 ⟨fun s ρ r => AW.loop (fun k s => ∃ v ρ,P k v∧Rep K0 fr ρ (J v).t (J v).h s) (fun k s ⟨v,ρ,hp,hr⟩ => ((round k v hp).go s ρ hr).mono fun e s' ⟨s2',ρ',k1,k2⟩ => by
  cases e with
  | normal => 
   obtain ⟨k',v',g1,g2,rfl⟩:=k1
   exact ⟨k',g1,v',ρ',g2,k2⟩
  | ret => exact ⟨s2',ρ',k1,k2⟩
  | exit i => exact ⟨s2',ρ',k1,k2⟩) k s ⟨v,ρ,h,r⟩⟩
def cFV:AV→FV
 | .bool b => .bool b | .int k n => .int k n | .str s => .str s
 | .nilp => .nilp | .nils => .nils | .nili => .nili | .nilf => .nilf | .nilm => .nilm
 | _ => .undef
def evL (t:List (Nat×LV)):AX→LV
 | .t i => lkT t i
 | .c v => if constOk v then .d (cFV v) else .undef
 | .f f => .d (.func f [])
theorem RL.cst {ρ:Rho} {v:AV} (h:constOk v=true):RL ρ (.d (cFV v)) v:=by
 cases v <;> first | (simp [constOk] at h; done) | skip
 all_goals first | exact .d _ _ .nils | exact .d _ _ (.c _ rfl)
theorem evL_sound {ρ:Rho} {t:List (Nat×LV)} {u:Nat→AV} (ht:∀ i,RL ρ (lkT t i) (u i)) (x:AX):RL ρ (evL t x) (evX u x):=by
 cases x with
 | t i => exact ht i
 | c v => 
  simp only [evL,evX]
  split
  ·rename_i h; exact RL.cst h
  ·exact .undef _
 | f f => exact .d _ _ (.func f [] [] rfl (fun i hi => by simp at hi))
theorem zgD {k:IntKind} {n:Int} {a:AV} (h:RD (.int k n) a):a=.int k n:=by cases h; rfl
theorem zjZ {b:Bool} {a:AV} (h:RD (.bool b) a):a=.bool b:=by cases h; rfl
theorem zyA {s:ByteArray} {a:AV} (h:RD (.str s) a):a=.str s:=by cases h; rfl
theorem rl_d {ρ:Rho} {v:FV} {a:AV} (h:RL ρ (.d v) a):RD v a:=by cases h; assumption
theorem rl_p {ρ:Rho} {k o:Nat} {a:AV} (h:RL ρ (.p k o) a):∃ κ,ρ k=some κ∧a=.ptr κ 0 o:=by cases h; exact ⟨_,‹_›,rfl⟩
theorem zAi {ρ:Rho} {k i o:Nat} {a:AV} (h:RL ρ (.ep k i o) a):∃ κ,ρ k=some κ∧a=.ptr κ i o:=by cases h; exact ⟨_,‹_›,rfl⟩
theorem zAh {ρ:Rho} {k lo n:Nat} {a:AV} (h:RL ρ (.ls k lo n) a):(∃ κ,ρ k=some κ∧a=.sl κ lo n)∨(ρ k=none∧n=0∧a=.nils):=by
 cases h
 ·exact .inl ⟨_,‹_›,rfl⟩
 ·exact .inr ⟨‹_›,rfl,rfl⟩
theorem zCg {ρ:Rho} {a:AV} (h:RL ρ .hole a):a=.hole:=by cases h; rfl
theorem zAK {ρ:Rho} {cs:List LV} {a:AV} (h:RL ρ (.agg cs) a):∃ cs',a=.agg cs'∧RLs ρ cs cs':=by cases h; exact ⟨_,rfl,‹_›,‹_›⟩
theorem zBU {ρ:Rho} {cs:List LV} {a:AV} (h:RL ρ (.tup cs) a):∃ cs',a=.tup cs'∧RLs ρ cs cs':=by cases h; exact ⟨_,rfl,‹_›,‹_›⟩
theorem zzg {ρ:Rho} {f:Nat} {cs:List LV} {a:AV} (h:RL ρ (.func f cs) a):∃ cs',a=.func f cs'∧RLs ρ cs cs':=by cases h; exact ⟨_,rfl,‹_›,‹_›⟩
theorem zzK {cs:List FV} {a:AV} (h:RD (.agg cs) a):∃ cs',a=.agg cs'∧RDs cs cs':=by
 cases h with
 | c h => cases ‹isH (.agg cs)=true›
 | agg => exact ⟨_,rfl,‹_›,‹_›⟩
theorem zCv {cs:List FV} {a:AV} (h:RD (.tup cs) a):∃ cs',a=.tup cs'∧RDs cs cs':=by
 cases h with
 | c h => cases ‹isH (.tup cs)=true›
 | tup => exact ⟨_,rfl,‹_›,‹_›⟩
theorem zxr {f:Nat} {cs:List FV} {a:AV} (h:RD (.func f cs) a):∃ cs',a=.func f cs'∧RDs cs cs':=by
 cases h with
 | c h => cases ‹isH (.func f cs)=true›
 | func => exact ⟨_,rfl,‹_›,‹_›⟩
theorem zmw {c:Nat} {v:FV} {a:AV} (h:RD (.iface c v) a):∃ b,a=.iface c b∧RD v b:=by
 cases h with
 | c h => cases ‹isH (.iface c v)=true›
 | iface => exact ⟨_,rfl,‹_›⟩
theorem zBw {cs:List FV} {a:AV} (h:RD (.fp cs) a):a=.fptr (cs.map toA):=by
 cases h
 simp [toA,toAL_map]
theorem zzi {n:Nat} {f:Nat→List FV} {a:AV} (h:RD (.sv n f) a):a=.slv ((List.range n).map fun i => (f i).map toA)∨(n=0∧a=.nils):=by
 cases h
 ·left; simp [toA,toAL_map]
 ·exact .inr ⟨rfl,rfl⟩
theorem zfd {a:AV} (h:RD .nils a):a=.nils:=by
 cases h with
 | c h => cases ‹isH .nils=true›
 | nils => rfl
theorem PW.nil {α γ:Type} {R:α→γ→Prop} {d:α} {e:γ}:PW R d e [] []:=⟨rfl,fun i hi => by simp at hi⟩
theorem PW.cons {α γ:Type} {R:α→γ→Prop} {d:α} {e:γ} {a:α} {b:γ} {l:List α} {m:List γ} (h:R a b) (t:PW R d e l m):PW R d e (a :: l) (b :: m):=
 ⟨by simp [t.1],fun i hi => by
  cases i with
  | zero => exact h
  | succ i => exact t.2 i (by simpa using hi)⟩
theorem PW.one {α γ:Type} {R:α→γ→Prop} {d:α} {e:γ} {a:α} {b:γ} (h:R a b):PW R d e [a] [b]:=.cons h .nil
theorem PW.uncons {α γ:Type} {R:α→γ→Prop} {d:α} {e:γ} {a:α} {l:List α} {m:List γ} (t:PW R d e (a :: l) m):∃ b m',m=b :: m'∧R a b∧PW R d e l m':=by
 cases m with
 | nil => have:=t.1; simp at this
 | cons b m => 
  refine ⟨b,m,rfl,t.2 0 (by simp),by have:=t.1; simpa using this,fun i hi => ?_⟩
  have:=t.2 (i+1) (by simpa using hi)
  simpa using this
theorem PW.drop {α γ:Type} {R:α→γ→Prop} {d:α} {e:γ} {l:List α} {m:List γ} (t:PW R d e l m) (k:Nat):PW R d e (l.drop k) (m.drop k):=
 ⟨by simp [t.1],fun i hi => by
  have:=t.2 (k+i) (by simp at hi; omega)
  simpa [List.getD_eq_getElem?_getD] using this⟩
theorem PW.take {α γ:Type} {R:α→γ→Prop} {d:α} {e:γ} {l:List α} {m:List γ} (t:PW R d e l m) (k:Nat):PW R d e (l.take k) (m.take k):=
 ⟨by simp [t.1],fun i hi => by
  have hi':i<k∧i<l.length:=by simp at hi; omega
  have:=t.2 i hi'.2
  simpa [List.getD_eq_getElem?_getD,List.getElem?_take,hi'.1] using this⟩
theorem PW.append {α γ:Type} {R:α→γ→Prop} {d:α} {e:γ} {l l':List α} {m m':List γ} (t:PW R d e l m) (u:PW R d e l' m'):PW R d e (l++l') (m++m'):=by
 refine ⟨by simp [t.1,u.1],fun i hi => ?_⟩
 by_cases h:i<l.length
 ·have:=t.2 i h
  simpa [List.getD_eq_getElem?_getD,List.getElem?_append,h,t.1] using this
 ·have:=u.2 (i - l.length) (by simp at hi; omega)
  simpa [List.getD_eq_getElem?_getD,List.getElem?_append,h,t.1] using this
theorem PW.map {α γ α' γ':Type} {R:α→γ→Prop} {R':α'→γ'→Prop} {d:α} {e:γ} {d':α'} {e':γ'} {l:List α} {m:List γ} (f:α→α') (g:γ→γ') (t:PW R d e l m) (h:∀ a b,R a b→R' (f a) (g b)):PW R' d' e' (l.map f) (m.map g):=
 ⟨by simp [t.1],fun i hi => by
  have hi':i<l.length:=by simpa using hi
  have:=h _ _ (t.2 i hi')
  have hm:i<m.length:=by rw [t.1]; exact hi'
  simpa [List.getD_eq_getElem?_getD,hi',hm] using this⟩
theorem PW.mapl {α γ α':Type} {R:α→γ→Prop} {R':α'→γ→Prop} {d:α} {e:γ} {d':α'} {l:List α} {m:List γ} (f:α→α') (t:PW R d e l m) (h:∀ a b,R a b→R' (f a) b):PW R' d' e (l.map f) m:=by
 have:=PW.map (R':=R') (d':=d') (e':=e) f id t h
 simpa using this
theorem PW.spl {R:LV→AV→Prop} {cs:List LV} {cs':List AV} {new:List LV} {new':List AV} (t:PW R .undef .undef cs cs') (u:PW R .undef .undef new new') (o:Nat) :
  PW R .undef .undef (cs.take o++(new++cs.drop (o+new.length))) (splice cs' o new'):=by
 unfold splice
 rw [u.1]
 exact (t.take o).append (u.append (t.drop _))
theorem PW.splF {R:FV→AV→Prop} {cs:List FV} {cs':List AV} {new:List FV} {new':List AV} (t:PW R .undef .undef cs cs') (u:PW R .undef .undef new new') (o:Nat) :
  PW R .undef .undef (cs.take o++(new++cs.drop (o+new.length))) (splice cs' o new'):=by
 unfold splice
 rw [u.1]
 exact (t.take o).append (u.append (t.drop _))
def spl {α:Type} (cs:List α) (o:Nat) (new:List α):List α:=cs.take o++(new++cs.drop (o+new.length))
def cellsV:LV→List LV
 | .agg cs => cs
 | .d (.agg cs) => cs.map .d
 | v => [v]
def stoV:LV→Bool
 | .agg _ => true
 | .d .undef | .d .hole | .d (.tup _) => false
 | .d _ => true
 | .p _ _ | .ep _ _ _ | .ls _ _ _ | .mapk _ | .func _ _ => true
 | _ => false
theorem cellsV_sound {ρ:Rho} {v:LV} {a:AV} (r:RL ρ v a) (h:stoV v=true):RLs ρ (cellsV v) (cellsL a)∧sto a=true:=by
 cases r with
 | undef => cases h
 | hole => cases h
 | d v a r => 
  cases v with
  | undef => cases h
  | hole => cases h
  | tup => cases h
  | agg cs => 
   obtain ⟨cs',rfl,k⟩:=zzK r
   exact ⟨PW.mapl LV.d k (fun a b h => .d _ _ h),rfl⟩
  | nils => obtain rfl:=zfd r; exact ⟨PW.one (.d _ _ r),rfl⟩
  | sv n f => rcases zzi r with rfl | ⟨rfl,rfl⟩ <;> exact ⟨PW.one (.d _ _ r),rfl⟩
  | func f cs => obtain ⟨cs',rfl,k⟩:=zxr r; exact ⟨PW.one (.d _ _ r),rfl⟩
  | iface c v => obtain ⟨b,rfl,k⟩:=zmw r; exact ⟨PW.one (.d _ _ r),rfl⟩
  | fp cs => obtain rfl:=zBw r; exact ⟨PW.one (.d _ _ r),rfl⟩
  | err c e => cases r; cases e <;> exact ⟨PW.one (.d _ _ (.c _ rfl)),rfl⟩
  | pt o => cases r; cases o <;> exact ⟨PW.one (.d _ _ (.c _ rfl)),rfl⟩
  | _ => cases r; exact ⟨PW.one (.d _ _ (.c _ rfl)),rfl⟩
 | p k o κ h' => exact ⟨PW.one (.p _ _ _ h'),rfl⟩
 | ep k i o κ h' => exact ⟨PW.one (.ep _ _ _ _ h'),rfl⟩
 | ls k lo n κ h' => exact ⟨PW.one (.ls _ _ _ _ h'),rfl⟩
 | ls0 k lo h' => exact ⟨PW.one (.ls0 _ _ h'),rfl⟩
 | agg cs cs' hl hc => exact ⟨⟨hl,hc⟩,rfl⟩
 | tup => cases h
 | func f cs cs' hl hc => exact ⟨PW.one (.func _ _ _ hl hc),rfl⟩
 | mapk k κ h' => exact ⟨PW.one (.mapk _ _ h'),rfl⟩
mutual
def scr (k:Nat):LV→LV
 | .p k' o => bif Nat.beq k k' then .undef else .p k' o
 | .ep k' i o => bif Nat.beq k k' then .undef else .ep k' i o
 | .ls k' lo n => bif Nat.beq k k' then .undef else .ls k' lo n
 | .mapk k' => bif Nat.beq k k' then .undef else .mapk k'
 | .agg cs => .agg (scrL k cs)
 | .tup cs => .tup (scrL k cs)
 | .func f cs => .func f (scrL k cs)
 | .undef => .undef | .hole => .hole
 | .d v => .d v
def scrL (k:Nat):List LV→List LV
 | [] => []
 | v :: l => scr k v :: scrL k l
end
theorem scrL_map (k:Nat) (l:List LV):scrL k l=l.map (scr k):=by
 induction l with
 | nil => rfl
 | cons v l ih => simp [scrL,ih]
theorem scrL_getD (k:Nat) (l:List LV) (i:Nat):(scrL k l).getD i .undef=scr k (l.getD i .undef):=by
 rw [scrL_map]
 simp only [List.getD_eq_getElem?_getD,List.getElem?_map]
 cases l[i]? <;> rfl
def updR (ρ:Rho) (k:Nat) (x:Option Nat):Rho:=fun i => if i=k then x else ρ i
theorem updR_same (ρ:Rho) (k:Nat) (x:Option Nat):updR ρ k x k=x:=by simp [updR]
theorem updR_ne (ρ:Rho) {k i:Nat} (x:Option Nat) (h:i≠k):updR ρ k x i=ρ i:=by simp [updR,h]
theorem beqF {a b:Nat} (h:a≠b):Nat.beq a b=false:=by
 cases e:Nat.beq a b with
 | false => rfl
 | true => exact absurd (Nat.eq_of_beq_eq_true e) h
theorem beqT (a:Nat):Nat.beq a a=true:=by simp
theorem zmu {ρ:Rho} {k:Nat} {x:Option Nat} {v:LV} {a:AV} (r:RL ρ v a):RL (updR ρ k x) (scr k v) a:=by
 induction r with
 | undef a => exact .undef _
 | hole => exact .hole
 | d v a h => exact .d _ _ h
 | p k' o κ h => 
  simp only [scr]
  by_cases e:k=k'
  ·subst e; rw [beqT]; exact .undef _
  ·rw [beqF e]; exact .p _ _ _ (by rw [updR_ne _ _ (Ne.symm e)]; exact h)
 | ep k' i o κ h => 
  simp only [scr]
  by_cases e:k=k'
  ·subst e; rw [beqT]; exact .undef _
  ·rw [beqF e]; exact .ep _ _ _ _ (by rw [updR_ne _ _ (Ne.symm e)]; exact h)
 | ls k' lo n κ h => 
  simp only [scr]
  by_cases e:k=k'
  ·subst e; rw [beqT]; exact .undef _
  ·rw [beqF e]; exact .ls _ _ _ _ (by rw [updR_ne _ _ (Ne.symm e)]; exact h)
 | ls0 k' lo h => 
  simp only [scr]
  by_cases e:k=k'
  ·subst e; rw [beqT]; exact .undef _
  ·rw [beqF e]; exact .ls0 _ _ (by rw [updR_ne _ _ (Ne.symm e)]; exact h)
 | mapk k' κ h => 
  simp only [scr]
  by_cases e:k=k'
  ·subst e; rw [beqT]; exact .undef _
  ·rw [beqF e]; exact .mapk _ _ (by rw [updR_ne _ _ (Ne.symm e)]; exact h)
 | agg cs cs' hl hc ih => exact .agg _ _ (by rw [scrL_map]; simpa using hl) (fun i hi => by rw [scrL_getD]; exact ih i (by rw [scrL_map] at hi; simpa using hi))
 | tup cs cs' hl hc ih => exact .tup _ _ (by rw [scrL_map]; simpa using hl) (fun i hi => by rw [scrL_getD]; exact ih i (by rw [scrL_map] at hi; simpa using hi))
 | func f cs cs' hl hc ih => exact .func _ _ _ (by rw [scrL_map]; simpa using hl) (fun i hi => by rw [scrL_getD]; exact ih i (by rw [scrL_map] at hi; simpa using hi))
theorem scrL_sound {ρ:Rho} {k:Nat} {x:Option Nat} {cs:List LV} {cs':List AV} (r:RLs ρ cs cs'):RLs (updR ρ k x) (scrL k cs) cs':=
 ⟨by rw [scrL_map]; simpa using r.1,fun i hi => by rw [scrL_getD]; exact zmu (r.2 i (by rw [scrL_map] at hi; simpa using hi))⟩
def scrT (k:Nat):List (Nat×LV)→List (Nat×LV)
 | [] => []
 | (i,v) :: l => (i,scr k v) :: scrT k l
theorem scrT_lk (k:Nat) (t:List (Nat×LV)) (i:Nat):lkT (scrT k t) i=scr k (lkT t i):=by
 induction t with
 | nil => rfl
 | cons p l ih => 
  obtain ⟨j,v⟩:=p
  simp only [scrT,lkT,lk]
  cases Nat.beq i j
  ·exact ih
  ·rfl
def scrO (k:Nat):Ob→Ob
 | .st ro cs => .st ro (scrL k cs)
 | .sl ro esz n f => .sl ro esz n f
def scrH (k:Nat):List (Nat×Ob)→List (Nat×Ob)
 | [] => []
 | (i,o) :: l => bif Nat.beq i k then scrH k l else (i,scrO k o) :: scrH k l
theorem scrH_lk (k:Nat) (h:List (Nat×Ob)) (i:Nat):lkO (scrH k h) i=if i=k then none else (lkO h i).map (scrO k):=by
 induction h with
 | nil => simp [scrH,lkO]
 | cons p l ih => 
  obtain ⟨j,o⟩:=p
  simp only [scrH,lkO]
  by_cases hj:j=k
  ·subst hj
   rw [beqT,cond_true,ih]
   by_cases hi:i=j
   ·simp [hi]
   ·rw [beqF hi]; simp [hi]
  ·rw [beqF hj,cond_false]
   simp only [lkO]
   by_cases hi:i=j
   ·subst hi; rw [beqT]; simp [hj]
   ·rw [beqF hi]; simpa using ih
theorem RO.other {ρ:Rho} {h h':Hp} {k k':Nat} {x:Option Nat} {o:Ob} (r:RO ρ h k' o) (hne:k'≠k) (hh:∀ κ,ρ k'=some κ→h' κ=h κ):RO (updR ρ k x) h' k' (scrO k o):=by
 cases o with
 | st ro cs => 
  obtain ⟨κ,cs',h1,h2,h3⟩:=r
  refine ⟨κ,cs',by rw [updR_ne _ _ hne]; exact h1,?_,scrL_sound h3⟩
  rw [hh κ h1,h2,scrL_map]; simp
 | sl ro esz n f => 
  rcases r with ⟨κ,es,h1,h2,h3⟩ | ⟨h1,h2⟩
  ·exact .inl ⟨κ,es,by rw [updR_ne _ _ hne]; exact h1,by rw [hh κ h1]; exact h2,h3⟩
  ·exact .inr ⟨by rw [updR_ne _ _ hne]; exact h1,h2⟩
theorem Rep.new {K0:List Nat} {fr:Frm} {ρ:Rho} {t:List (Nat×LV)} {h:List (Nat×Ob)} {s:St} (r:Rep K0 fr ρ t h s) {k:Nat} (hk:K0.contains k=false) {o:Ob} {x:Option Nat} {κ':Nat} {h':Hp}
  (hx:x=none∨x=some κ') (hfresh:∀ k',(lkO h k').isSome=true→k'≠k→ρ k'≠some κ') (hD:¬ fr.D κ') (hlt:κ'<s.n)
  (hh:∀ κ,κ≠κ'→((lkO h k).isSome=true→ρ k≠some κ)→h' κ=s.h κ) (ho:RO (updR ρ k x) h' k o) (hrw:AllR h') :
  Rep K0 fr (updR ρ k x) (scrT k t) ((k,o) :: scrH k h) ⟨s.t,h',s.n⟩:=by
 have old:∀ k',k'≠k→(lkO ((k,o) :: scrH k h) k')=(lkO h k').map (scrO k):=by
  intro k' hne
  simp only [lkO,beqF hne,cond_false,scrH_lk,if_neg hne]
 have oldS:∀ k',k'≠k→(lkO ((k,o) :: scrH k h) k').isSome=true→(lkO h k').isSome=true:=by
  intro k' hne hs
  rw [old k' hne] at hs; simpa using hs
 refine ⟨fun i => by rw [scrT_lk]; exact zmu (r.t i),fun k' o' ho' => ?_,fun k1 k2 κ h1 h2 e1 e2 => ?_,fun k' κ hs e => ?_,fun κ hd => ?_,fun k' κ hs e => ?_,r.n0,fun k' hk' => ?_,hrw⟩
 ·by_cases hne:k'=k
  ·subst hne
   simp only [lkO,beqT,cond_true,Option.some.injEq] at ho'
   subst ho'; exact ho
  ·rw [old k' hne] at ho'
   obtain ⟨o1,ho1,rfl⟩:=Option.map_eq_some_iff.1 ho'
   refine (r.o k' o1 ho1).other hne (fun κ hκ => hh κ ?_ ?_)
   ·rintro rfl; exact hfresh k' (by rw [ho1]; rfl) hne hκ
   ·intro hs e
    exact hne (r.inj k' k κ (by rw [ho1]; rfl) hs hκ e)
 ·by_cases n1:k1=k
  ·by_cases n2:k2=k
   ·rw [n1,n2]
   ·subst n1
    rw [updR_same] at e1
    rw [updR_ne _ _ n2] at e2
    rcases hx with rfl | rfl
    ·cases e1
    ·cases e1; exact absurd e2 (hfresh k2 (oldS k2 n2 h2) n2)
  ·by_cases n2:k2=k
   ·subst n2
    rw [updR_same] at e2
    rw [updR_ne _ _ n1] at e1
    rcases hx with rfl | rfl
    ·cases e2
    ·cases e2; exact absurd e1 (hfresh k1 (oldS k1 n1 h1) n1)
   ·rw [updR_ne _ _ n1] at e1
    rw [updR_ne _ _ n2] at e2
    exact r.inj k1 k2 κ (oldS k1 n1 h1) (oldS k2 n2 h2) e1 e2
 ·by_cases n1:k'=k
  ·subst n1
   rw [updR_same] at e
   rcases hx with rfl | rfl
   ·cases e
   ·cases e; exact hlt
  ·rw [updR_ne _ _ n1] at e
   exact r.lt k' κ (oldS k' n1 hs) e
 ·obtain ⟨q1,q2⟩:=r.fm κ hd
  refine ⟨q1,?_⟩
  have:=hh κ (fun e => hD (e ▸ hd)) (fun hs e => r.dis k κ hs e hd)
  exact this.trans q2
 ·by_cases n1:k'=k
  ·subst n1
   rw [updR_same] at e
   rcases hx with rfl | rfl
   ·cases e
   ·cases e; exact hD
  ·rw [updR_ne _ _ n1] at e
   exact r.dis k' κ (oldS k' n1 hs) e
 ·have hne:k'≠k:=by
   rintro rfl
   rw [List.contains_eq_mem] at hk
   simp [hk'] at hk
  rw [updR_ne _ _ hne]; exact r.an k' hk'
structure Y where
 t:List (Nat×LV)
 h:List (Nat×Ob)
 nw:List Nat
 us:List Nat
abbrev W2L:=List (Nat×Nat×Nat)
def Wof (W2:W2L) (ρ0:Rho):Nat→Nat→Nat→Prop:=fun κ i q => ∃ k,(k,i,q)∈W2∧ρ0 k=some κ
structure RY (K0:List Nat) (fr:Frm) (ρ0:Rho) (W2:W2L) (base res:Nat) (ρ:Rho) (y:Y) (s:St):Prop where
 r:Rep K0 fr ρ y.t y.h s
 bn:fr.n0≤base
 sn:base+res≤s.n
 us:∀ k κ,(lkO y.h k).isSome=true→ρ k=some κ→κ<base∨base+res≤κ∨∃ j∈y.us,κ=base+j
 nw:∀ k κ,(lkO y.h k).isSome=true→y.nw.contains k=false→ρ k=some κ→κ<base
 wk:∀ c∈W2,(lkO y.h c.1).isSome=true∧ρ c.1=ρ0 c.1
def AllP:List Prop→Prop
 | [] => True
 | p :: l => p∧AllP l
theorem allP_append {a b:List Prop}:AllP (a++b)↔AllP a∧AllP b:=by
 induction a with
 | nil => simp [AllP]
 | cons p a ih => simp [AllP,ih,and_assoc]
def mkL (ag:Bool) (cs:List LV):Option LV:=
 match ag,cs with
 | true,cs => some (.agg cs)
 | false,[v] => some v
 | false,_ => none
theorem mkL_sound {ρ:Rho} {ag:Bool} {cs:List LV} {cs':List AV} (r:RLs ρ cs cs') {v:LV} (h:mkL ag cs=some v):∃ a,mkV ag cs'=some a∧RL ρ v a:=by
 cases ag with
 | true => obtain rfl:=Option.some.inj h; exact ⟨_,rfl,.agg _ _ r.1 r.2⟩
 | false => 
  match cs,h with
  | [w],h => 
   obtain rfl:=Option.some.inj h
   obtain ⟨b,m',rfl,h1,h2⟩:=r.uncons
   have:m'=[]:=List.eq_nil_of_length_eq_zero (by simpa using h2.1)
   subst this
   exact ⟨b,rfl,h1⟩
  | [],h => simp [mkL] at h
  | _ :: _ :: _,h => simp [mkL] at h
def nOk (dr:Bool) (nw:List Nat) (k:Nat):Bool:=!dr||!nw.contains k
def farOkB (far:Bool) (W2:W2L) (k o n:Nat):Bool:=!far||W2.all fun c => !(Nat.beq c.1 k&&(Nat.beq c.2.1 0&&(Nat.ble o c.2.2&&Nat.blt c.2.2 (o+n))))
def farNot (far:Bool) (W2:W2L) (k:Nat):Bool:=!far||W2.all fun c => !Nat.beq c.1 k
def farIn (far:Bool) (W2:W2L) (k o n:Nat):Bool:=!far||(List.range n).all fun d => W2.any fun c => Nat.beq c.1 k&&(Nat.beq c.2.1 0&&Nat.beq c.2.2 (o+d))
theorem zxb {K0:List Nat} {fr:Frm} {ρ0:Rho} {W2:W2L} {base res:Nat} {ρ:Rho} {y:Y} {s:St} (hR:RY K0 fr ρ0 W2 base res ρ y s) {dr:Bool} {k κ:Nat} (hn:nOk dr y.nw k=true) (hd:dr=true)
  (hs:(lkO y.h k).isSome=true) (e:ρ k=some κ):κ<base:=by
 subst hd
 exact hR.nw k κ hs (by simpa [nOk] using hn) e
mutual
def cl:FV→Bool
 | .func _ cs => clL cs
 | .iface _ v => cl v
 | .agg cs => clL cs
 | .tup cs => clL cs
 | .undef => false | .hole => false | .nils => false
 | .bool _ => true | .int _ _ => true | .str _ => true | .nilp => true | .nilf => true | .nili => true | .nilm => true | .sv _ _ => true | .fp _ => true | .err _ _ => true | .pt _ => true
def clL:List FV→Bool
 | [] => true
 | v :: l => cl v&&clL l
end
mutual
theorem zmC:∀ v:FV,cl v=true→RD v (toA v)
 | .func f cs,h => by
  have:=clL_sound cs h
  simp only [toA]; exact .func f cs _ this.1 this.2
 | .iface c v,h => .iface c v _ (zmC v h)
 | .agg cs,h => by
  have:=clL_sound cs h
  simp only [toA]; exact .agg cs _ this.1 this.2
 | .tup cs,h => by
  have:=clL_sound cs h
  simp only [toA]; exact .tup cs _ this.1 this.2
 | .undef,h => by cases h
 | .hole,h => by cases h
 | .nils,h => by cases h
 | .bool _,_ => .c _ rfl
 | .int _ _,_ => .c _ rfl
 | .str _,_ => .c _ rfl
 | .nilp,_ => .c _ rfl
 | .nilf,_ => .c _ rfl
 | .nili,_ => .c _ rfl
 | .nilm,_ => .c _ rfl
 | .sv _ _,_ => .c _ rfl
 | .fp _,_ => .c _ rfl
 | .err _ _,_ => .c _ rfl
 | .pt _,_ => .c _ rfl
theorem clL_sound:∀ l:List FV,clL l=true→RDs l (toAL l)
 | [],_ => .nil
 | v :: l,h => by
  simp only [clL,Bool.and_eq_true] at h
  exact .cons (zmC v h.1) (clL_sound l h.2)
end
def ldL (dr:Bool) (W2:W2L) (far:Bool) (ag:Bool) (n:Nat) (y:Y):LV→Option (LV×List Prop)
 | .p k o => match lkO y.h k with
  | some (.st _ cs) => bif Nat.ble n (cs.drop o).length&&(nOk dr y.nw k&&(!dr||farOkB far W2 k o n)) then (mkL ag ((cs.drop o).take n)).map fun v => (v,[]) else none
  | _ => none
 | .ep k i o => match lkO y.h k with
  | some (.sl _ _ n' f) => bif Nat.ble n ((f i).drop o).length&&(nOk dr y.nw k&&(!dr||farNot far W2 k)) then (mkL ag ((((f i).drop o).take n).map .d)).map fun v => (v,[i<n']) else none
  | _ => none
 | .d (.fp cs) => bif Nat.ble n cs.length&&clL (cs.take n) then (mkL ag ((cs.take n).map .d)).map fun v => (v,[]) else none
 | _ => none
section
variable {K0:List Nat} {fr:Frm} {ρ0:Rho} {W2:W2L} {base res:Nat} {ρ:Rho} {y:Y} {s:St}
theorem zCw {k:Nat} {ro:Bool} {cs:List LV} (hR:RY K0 fr ρ0 W2 base res ρ y s) (h:lkO y.h k=some (.st ro cs)):∃ κ cs',ρ k=some κ∧s.h κ=some (.row ro cs.length [cs'])∧RLs ρ cs cs':=hR.r.o k _ h
theorem zdx {a b:Nat}:Nat.blt a b=true↔a<b:=by
 unfold Nat.blt; rw [Nat.ble_eq]; exact Iff.rfl
theorem ldL_sound (hR:RY K0 fr ρ0 W2 base res ρ y s) {dr ag:Bool} {c n:Nat} {v:LV} {a:AV} (ra:RL ρ v a) {lv:LV} {cs:List Prop} (hl:ldL dr W2 (far c) ag n y v=some (lv,cs)) (hc:AllP cs) :
  ∃ av,aload s.h ag n a=some av∧RL ρ lv av∧(dr=true→klt base a∧(far c=true→cellsOut (Wof W2 ρ0) n a)):=by
 cases v with
 | p k o => 
  simp only [ldL] at hl
  split at hl
  ·rename_i ro cells ho
   rw [Bool.cond_eq_ite] at hl
   split at hl
   ·rename_i hb
    simp only [Bool.and_eq_true,Bool.or_eq_true,Bool.not_eq_true',Nat.ble_eq] at hb
    obtain ⟨h1,h2,h3⟩:=hb
    obtain ⟨v',hv',e⟩:=Option.map_eq_some_iff.1 hl
    simp only [Prod.mk.injEq] at e
    obtain ⟨rfl,rfl⟩:=e
    obtain ⟨κ,hρ,rfl⟩:=rl_p ra
    obtain ⟨κ',cs',g1,g2,g3⟩:=zCw hR ho
    obtain rfl:κ'=κ:=by rw [hρ] at g1; exact (Option.some.inj g1).symm
    obtain ⟨av,q1,q2⟩:=mkL_sound ((g3.drop o).take n) hv'
    refine ⟨av,?_,q2,fun hd => ⟨zxb hR h2 hd (by rw [ho]; rfl) hρ,fun hf => ?_⟩⟩
    ·have hlen:n≤(cs'.drop o).length:=by rw [(g3.drop o).1]; exact h1
     simp only [aload,pcells,g2,List.length_singleton,Nat.zero_lt_one,if_true,List.getD_cons_zero]
     rw [if_pos hlen,q1]
    ·intro q hq1 hq2
     rintro ⟨k',hm,hk'⟩
     subst hd
     simp only [Bool.true_eq_false,false_or] at h3
     have hkk:k'=k:=by
      have w1:=hR.wk _ hm
      exact hR.r.inj k' k κ' w1.1 (by rw [ho]; rfl) (by rw [w1.2]; exact hk') hρ
     subst hkk
     simp only [farOkB,hf,Bool.not_true,Bool.false_or,List.all_eq_true] at h3
     have:=h3 _ hm
     simp only [beqT,Bool.true_and,Bool.not_eq_true',Bool.and_eq_false_iff] at this
     rcases this with h | h
     ·have:Nat.ble o q=true:=by rw [Nat.ble_eq]; exact hq1
      rw [this] at h; cases h
     ·have:Nat.blt q (o+n)=true:=zdx.2 hq2
      rw [this] at h; cases h
   ·cases hl
  ·cases hl
 | ep k i o => 
  simp only [ldL] at hl
  split at hl
  ·rename_i ro esz n' f ho
   rw [Bool.cond_eq_ite] at hl
   split at hl
   ·rename_i hb
    simp only [Bool.and_eq_true,Bool.or_eq_true,Bool.not_eq_true',Nat.ble_eq] at hb
    obtain ⟨h1,h2,h3⟩:=hb
    obtain ⟨v',hv',e⟩:=Option.map_eq_some_iff.1 hl
    simp only [Prod.mk.injEq] at e
    obtain ⟨rfl,rfl⟩:=e
    obtain ⟨hi,_⟩:=hc
    obtain ⟨κ,hρ,rfl⟩:=zAi ra
    rcases hR.r.o k _ ho with ⟨κ',es,g1,g2,g3,g4⟩ | ⟨g1,_⟩
    ·obtain rfl:κ'=κ:=by rw [hρ] at g1; exact (Option.some.inj g1).symm
     have g5:=g4 i hi
     have g6:RLs ρ ((((f i).drop o).take n).map .d) (((es.getD i []).drop o).take n):=PW.mapl LV.d ((g5.drop o).take n) (fun a b h => .d _ _ h)
     obtain ⟨av,q1,q2⟩:=mkL_sound g6 hv'
     refine ⟨av,?_,q2,fun hd => ⟨zxb hR h2 hd (by rw [ho]; rfl) hρ,fun hf => ?_⟩⟩
     ·have hlen:n≤((es.getD i []).drop o).length:=by rw [(g5.drop o).1]; exact h1
      simp only [aload,pcells,g2]
      rw [if_pos (by omega)]
      simp only
      rw [if_pos hlen,q1]
     ·intro q hq1 hq2
      rintro ⟨k',hm,hk'⟩
      subst hd
      simp only [Bool.true_eq_false,false_or] at h3
      have hkk:k'=k:=by
       have w1:=hR.wk _ hm
       exact hR.r.inj k' k κ' w1.1 (by rw [ho]; rfl) (by rw [w1.2]; exact hk') hρ
      subst hkk
      simp only [farNot,hf,Bool.not_true,Bool.false_or,List.all_eq_true] at h3
      have:=h3 _ hm
      simp [beqT] at this
    ·rw [hρ] at g1; cases g1
   ·cases hl
  ·cases hl
 | d v => 
  cases v with
  | fp cells => 
   simp only [ldL] at hl
   rw [Bool.cond_eq_ite] at hl
   split at hl
   ·rename_i hb
    simp only [Bool.and_eq_true,Nat.ble_eq] at hb
    obtain ⟨v',hv',e⟩:=Option.map_eq_some_iff.1 hl
    simp only [Prod.mk.injEq] at e
    obtain ⟨rfl,rfl⟩:=e
    obtain rfl:=zBw (rl_d ra)
    have g5:=clL_sound _ hb.2
    rw [toAL_map] at g5
    obtain ⟨av,q1,q2⟩:=mkL_sound (PW.mapl (R':=RL ρ) (d':=.undef) LV.d g5 (fun a b h => .d _ _ h)) hv'
    refine ⟨av,?_,q2,fun hd => ⟨trivial,fun _ => trivial⟩⟩
    simp only [aload,pcells,List.length_map]
    rw [if_pos hb.1,← q1,List.map_take]
   ·cases hl
  | _ => simp [ldL] at hl
 | _ => simp [ldL] at hl
end
end Go.Proofs.YtablleokoifolaaGreatDoor
