/- Part 3 of the proof that ValidLabelsCardSaid: for every input that fits the row the law answers true and its arguments read as before, over the world as the row lays it. -/
import Derived.Test.YtablleokoifolaaGreatDoorZ2
import Derived.Test.YtablleokoifolaaGreatDoorProg
import Derived.WalkKit
import Derived.LaidEql
import Derived.Stop.Asserts
import Derived.RowKitTokens
import Derived.Shelf.Strings.Search2
/- Abstract code of functions, written by a program of this claim set (gen.py) out of the program's own print. -/
set_option linter.unusedVariables false
set_option maxRecDepth 100000
namespace Go.Proofs.YtablleokoifolaaGreatDoor
open Go

/-- mandrel/valid.exported -/
def F_valid_exported_p1 : ACode :=
  .cond (.t 52) (.seq (.reg 0 [⟨some 2, .asg (.c (.bool false)), none⟩] false [2])
                 (.ret)) (.skip)
def F_valid_exported_p2 : ACode :=
  .seq (.reg 0 [⟨some 33, .faddr 16 1 1 (.t 6), none⟩, ⟨some 34, .load 7 false 1 (.t 33), none⟩, ⟨some 35, .bin .gtr .other 7 (.t 34) (.c (.int .u8 3)), none⟩, ⟨some 36, .mov (.t 35), none⟩, ⟨some 37, .faddr 16 2 2 (.t 6), some (3, 36, false)⟩, ⟨some 38, .load 13 false 1 (.t 37), some (3, 36, false)⟩, ⟨some 39, .convi .i64 13 2 (.t 38), some (3, 36, false)⟩, ⟨some 40, .faddr 16 1 1 (.t 6), some (3, 36, false)⟩, ⟨some 41, .load 7 false 1 (.t 40), some (3, 36, false)⟩, ⟨some 42, .iaddrA 59 4 1 (.t 3) (.t 41), some (3, 36, false)⟩, ⟨some 43, .load 2 false 1 (.t 42), some (3, 36, false)⟩, ⟨some 44, .bin .geq .other 2 (.t 39) (.t 43), some (3, 36, false)⟩, ⟨some 45, .pick (.t 36) (.c (.bool true)) (.t 44), none⟩, ⟨some 46, .mov (.t 45), none⟩, ⟨some 47, .mov (.t 4), some (13, 46, false)⟩, ⟨some 48, .faddr 16 0 0 (.t 6), some (13, 46, false)⟩, ⟨some 49, .load 39 false 1 (.t 48), some (13, 46, false)⟩, ⟨some 50, .x (.mlook 63 (.int .i64 0) (.t 47) (.t 49)), some (13, 46, false)⟩, ⟨some 51, .bin .gtr .other 2 (.t 50) (.c (.int .i64 1)), some (13, 46, false)⟩, ⟨some 52, .pick (.t 46) (.c (.bool true)) (.t 51), none⟩] true [3, 4, 22, 23, 24, 52])
               (F_valid_exported_p1)
def F_valid_exported_p3 : ACode :=
  .seq (.reg 0 [⟨some 28, .mov (.t 4), none⟩, ⟨some 29, .faddr 16 0 0 (.t 6), none⟩, ⟨some 30, .load 39 false 1 (.t 29), none⟩, ⟨some 31, .x (.mlook 63 (.int .i64 0) (.t 28) (.t 30)), none⟩, ⟨some 32, .bin .add .other 2 (.t 31) (.c (.int .i64 1)), none⟩, ⟨none, .x (.mset 63 (.t 28) (.t 30) (.t 32)), none⟩] false [3, 4, 6, 22, 23, 24])
              (F_valid_exported_p2)
def F_valid_exported_p4 : ACode :=
  .reg 0 [⟨some 53, .bin .add .other 2 (.t 24) (.c (.int .i64 1)), none⟩, ⟨some 24, .mov (.t 53), none⟩] false [3, 4, 22, 23, 24]
def F_valid_exported_p5 : ACode :=
  .seq (.block 1 (.seq (.reg 1 [⟨some 26, .iaddr 15 3 (.t 22) (.t 24), none⟩, ⟨some 27, .load 16 true 3 (.t 26), none⟩, ⟨some 6, .alloc 0 16 [.str ⟨#[]⟩, .int .u8 0, .int .u32 0], none⟩, ⟨none, .store 16 3 (.t 6) (.t 27), none⟩] false [3, 4, 6, 22, 23, 24])
             (F_valid_exported_p3)))
           (F_valid_exported_p4)
def F_valid_exported_p6 : ACode :=
  .seq (.reg 0 [⟨some 25, .bin .lss .other 2 (.t 24) (.t 23), none⟩] false [3, 4, 22, 23, 24, 25])
         (.seq (.cond (.t 25) (.skip) (.exit 0))
          (F_valid_exported_p5))
def F_valid_exported_p7 : ACode :=
  .seq (.seq (.reg 0 [⟨some 21, .faddr 1 5 5 (.t 1), none⟩, ⟨some 22, .load 15 false 1 (.t 21), none⟩, ⟨some 23, .len 15 (.t 22), none⟩, ⟨some 24, .mov (.c (.int .i64 0)), none⟩] false [3, 4, 22, 23, 24])
      (.block 0 (.loop (F_valid_exported_p6))))
     (.seq (.reg 0 [⟨some 2, .asg (.c (.bool true)), none⟩] false [2])
      (.ret))
def F_valid_exported_p8 : ACode :=
  .seq (.reg 1 [⟨some 20, .x (.mkmap 0 63), none⟩, ⟨some 4, .asg (.t 20), none⟩] false [1, 3, 4])
    (F_valid_exported_p7)
def F_valid_exported_p9 : ACode :=
  .seq (.reg 1 [⟨some 7, .faddr 1 1 1 (.t 1), none⟩, ⟨some 8, .load 5 false 1 (.t 7), none⟩, ⟨some 9, .len 5 (.t 8), none⟩, ⟨some 10, .faddr 1 2 2 (.t 1), none⟩, ⟨some 11, .load 18 false 1 (.t 10), none⟩, ⟨some 12, .len 18 (.t 11), none⟩, ⟨some 13, .faddr 1 3 3 (.t 1), none⟩, ⟨some 14, .load 18 false 1 (.t 13), none⟩, ⟨some 15, .len 18 (.t 14), none⟩, ⟨some 16, .faddr 1 4 4 (.t 1), none⟩, ⟨some 17, .load 20 false 1 (.t 16), none⟩, ⟨some 18, .len 20 (.t 17), none⟩, ⟨some 19, .build 59 [.int .i64 0, .int .i64 0, .int .i64 0, .int .i64 0] [(0, 0, 1, .t 9), (1, 1, 1, .t 12), (2, 2, 1, .t 15), (3, 3, 1, .t 18)], none⟩, ⟨some 3, .alloc 0 59 [.int .i64 0, .int .i64 0, .int .i64 0, .int .i64 0], none⟩, ⟨none, .store 59 4 (.t 3) (.t 19), none⟩] false [1, 3])
   (F_valid_exported_p8)
def F_valid_exported_p10 : ACode :=
  .seq (.reg 1 [⟨some 1, .box 0 1 (.t 0), none⟩, ⟨some 2, .asg (.c (.bool false)), none⟩] false [1])
  (F_valid_exported_p9)
def F_valid_exported : AFun := { nt := 54, res := [.t 2], code := (F_valid_exported_p10) }

/-- slices.Concat[[]mandrel/api.Kind,mandrel/api.Kind] -/
def F_slices_Concat_api_Kind_api_Kind_p1 : ACode :=
  .cond (.t 20) (.reg 0 [⟨some 21, .mkif 39 (.c (.str ⟨#[108, 101, 110, 32, 111, 117, 116, 32, 111, 102, 32, 114, 97, 110, 103, 101]⟩)), none⟩, ⟨none, .x (.pan (.t 21)), none⟩] false [0, 3, 9, 10, 11]) (.skip)
def F_slices_Concat_api_Kind_api_Kind_p2 : ACode :=
  .seq (.reg 0 [⟨some 19, .mov (.t 3), none⟩, ⟨some 20, .bin .lss .other 2 (.t 19) (.c (.int .i64 0)), none⟩] false [0, 3, 9, 10, 11, 20])
              (F_slices_Concat_api_Kind_api_Kind_p1)
def F_slices_Concat_api_Kind_api_Kind_p3 : ACode :=
  .seq (.reg 0 [⟨some 15, .mov (.t 3), none⟩, ⟨some 16, .mov (.t 5), none⟩, ⟨some 17, .len 50 (.t 16), none⟩, ⟨some 18, .bin .add .other 2 (.t 15) (.t 17), none⟩, ⟨some 3, .asg (.t 18), none⟩] false [0, 3, 9, 10, 11])
             (F_slices_Concat_api_Kind_api_Kind_p2)
def F_slices_Concat_api_Kind_api_Kind_p4 : ACode :=
  .reg 0 [⟨some 22, .bin .add .other 2 (.t 11) (.c (.int .i64 1)), none⟩, ⟨some 11, .mov (.t 22), none⟩] false [0, 3, 9, 10, 11]
def F_slices_Concat_api_Kind_api_Kind_p5 : ACode :=
  .seq (.block 1 (.seq (.reg 0 [⟨some 13, .iaddr 53 1 (.t 9) (.t 11), none⟩, ⟨some 14, .load 50 false 1 (.t 13), none⟩, ⟨some 5, .asg (.t 14), none⟩] false [0, 3, 5, 9, 10, 11])
            (F_slices_Concat_api_Kind_api_Kind_p3)))
          (F_slices_Concat_api_Kind_api_Kind_p4)
def F_slices_Concat_api_Kind_api_Kind_p6 : ACode :=
  .seq (.cond (.t 12) (.skip) (.exit 0))
         (F_slices_Concat_api_Kind_api_Kind_p5)
def F_slices_Concat_api_Kind_api_Kind_p7 : ACode :=
  .seq (.reg 0 [⟨some 12, .bin .lss .other 2 (.t 11) (.t 10), none⟩] false [0, 3, 9, 10, 11, 12])
        (F_slices_Concat_api_Kind_api_Kind_p6)
def F_slices_Concat_api_Kind_api_Kind_p8 : ACode :=
  .reg 1 [⟨some 31, .mov (.t 6), none⟩, ⟨some 32, .mov (.t 8), none⟩, ⟨some 33, .app 0 50 1 1 (.t 31) (.t 32), none⟩, ⟨some 6, .asg (.t 33), none⟩] false [6, 25, 26, 27]
def F_slices_Concat_api_Kind_api_Kind_p9 : ACode :=
  .reg 0 [⟨some 34, .bin .add .other 2 (.t 27) (.c (.int .i64 1)), none⟩, ⟨some 27, .mov (.t 34), none⟩] false [6, 25, 26, 27]
def F_slices_Concat_api_Kind_api_Kind_p10 : ACode :=
  .seq (.block 3 (.seq (.reg 0 [⟨some 29, .iaddr 53 1 (.t 25) (.t 27), none⟩, ⟨some 30, .load 50 false 1 (.t 29), none⟩, ⟨some 8, .asg (.t 30), none⟩] false [6, 8, 25, 26, 27])
              (F_slices_Concat_api_Kind_api_Kind_p8)))
            (F_slices_Concat_api_Kind_api_Kind_p9)
def F_slices_Concat_api_Kind_api_Kind_p11 : ACode :=
  .seq (.cond (.t 28) (.skip) (.exit 2))
           (F_slices_Concat_api_Kind_api_Kind_p10)
def F_slices_Concat_api_Kind_api_Kind_p12 : ACode :=
  .seq (.reg 0 [⟨some 28, .bin .lss .other 2 (.t 27) (.t 26), none⟩] false [6, 25, 26, 27, 28])
          (F_slices_Concat_api_Kind_api_Kind_p11)
def F_slices_Concat_api_Kind_api_Kind_p13 : ACode :=
  .seq (.reg 0 [⟨some 35, .mov (.t 6), none⟩, ⟨some 2, .asg (.t 35), none⟩] false [2])
       (.ret)
def F_slices_Concat_api_Kind_api_Kind_p14 : ACode :=
  .seq (.seq (.reg 0 [⟨some 25, .mov (.t 0), none⟩, ⟨some 26, .len 53 (.t 25), none⟩, ⟨some 27, .mov (.c (.int .i64 0)), none⟩] false [6, 25, 26, 27])
       (.block 2 (.loop (F_slices_Concat_api_Kind_api_Kind_p12))))
      (F_slices_Concat_api_Kind_api_Kind_p13)
def F_slices_Concat_api_Kind_api_Kind_p15 : ACode :=
  .seq (.reg 0 [⟨some 23, .mov (.t 3), none⟩, ⟨some 24, .calls 68 [.c .nils, .t 23], none⟩, ⟨some 6, .asg (.t 24), none⟩] false [0, 6])
     (F_slices_Concat_api_Kind_api_Kind_p14)
def F_slices_Concat_api_Kind_api_Kind_p16 : ACode :=
  .seq (.seq (.reg 0 [⟨some 9, .mov (.t 0), none⟩, ⟨some 10, .len 53 (.t 9), none⟩, ⟨some 11, .mov (.c (.int .i64 0)), none⟩] false [0, 3, 9, 10, 11])
     (.block 0 (.loop (F_slices_Concat_api_Kind_api_Kind_p7))))
    (F_slices_Concat_api_Kind_api_Kind_p15)
def F_slices_Concat_api_Kind_api_Kind_p17 : ACode :=
  .seq (.reg 0 [⟨some 3, .asg (.c (.int .i64 0)), none⟩] false [0, 3])
   (F_slices_Concat_api_Kind_api_Kind_p16)
def F_slices_Concat_api_Kind_api_Kind_p18 : ACode :=
  .seq (.reg 0 [⟨some 2, .asg (.c .nils), none⟩] false [0])
  (F_slices_Concat_api_Kind_api_Kind_p17)
def F_slices_Concat_api_Kind_api_Kind : AFun := { nt := 36, res := [.t 2], code := (F_slices_Concat_api_Kind_api_Kind_p18) }

/-- (*mandrel/valid.checker).list -/
def F_valid_checker_list_p1 : ACode :=
  .cond (.t 18) (.reg 0 [⟨some 19, .mov (.t 0), none⟩, ⟨some 20, .load 3 true 8 (.t 5), none⟩, ⟨some 21, .calls 55 [.t 19, .t 20], none⟩] false [0, 6, 7, 8]) (.reg 0 [⟨some 22, .mov (.t 0), none⟩, ⟨some 23, .load 3 true 8 (.t 5), none⟩, ⟨some 24, .calls 56 [.t 22, .t 23], none⟩] false [0, 6, 7, 8])
def F_valid_checker_list_p2 : ACode :=
  .seq (.reg 0 [⟨some 16, .faddr 3 0 0 (.t 5), none⟩, ⟨some 17, .load 7 false 1 (.t 16), none⟩, ⟨some 18, .bin .lss .other 7 (.t 17) (.c (.int .u8 26)), none⟩] false [0, 5, 6, 7, 8, 18])
           (F_valid_checker_list_p1)
def F_valid_checker_list_p3 : ACode :=
  .seq (.seq (.reg 0 [⟨some 12, .mov (.t 0), none⟩, ⟨some 13, .nilchk (.t 12), none⟩, ⟨some 14, .faddr 46 7 15 (.t 13), none⟩, ⟨some 15, .load 12 false 1 (.t 14), none⟩] false [0, 5, 6, 7, 8, 15])
           (.cond (.t 15) (.ret) (.skip)))
          (F_valid_checker_list_p2)
def F_valid_checker_list_p4 : ACode :=
  .reg 0 [⟨some 25, .bin .add .other 2 (.t 8) (.c (.int .i64 1)), none⟩, ⟨some 8, .mov (.t 25), none⟩] false [0, 6, 7, 8]
def F_valid_checker_list_p5 : ACode :=
  .seq (.block 1 (.seq (.reg 1 [⟨some 10, .iaddr 4 8 (.t 6) (.t 8), none⟩, ⟨some 11, .load 3 true 8 (.t 10), none⟩, ⟨some 5, .alloc 0 3 [.int .u8 0, .int .i64 0, .int .u32 0, .int .u32 0, .int .u8 0, .nils, .nils, .nils], none⟩, ⟨none, .store 3 8 (.t 5) (.t 11), none⟩] false [0, 5, 6, 7, 8])
         (F_valid_checker_list_p3)))
       (F_valid_checker_list_p4)
def F_valid_checker_list_p6 : ACode :=
  .seq (.reg 0 [⟨some 9, .bin .lss .other 2 (.t 8) (.t 7), none⟩] false [0, 6, 7, 8, 9])
     (.seq (.cond (.t 9) (.skip) (.exit 0))
      (F_valid_checker_list_p5))
def F_valid_checker_list_p7 : ACode :=
  .seq (.reg 0 [⟨some 6, .mov (.t 1), none⟩, ⟨some 7, .len 4 (.t 6), none⟩, ⟨some 8, .mov (.c (.int .i64 0)), none⟩] false [0, 6, 7, 8])
  (.block 0 (.loop (F_valid_checker_list_p6)))
def F_valid_checker_list : AFun := { nt := 26, res := [], code := (F_valid_checker_list_p7) }

/-- (*mandrel/valid.checker).take -/
def F_valid_checker_take_p1 : ACode :=
  .cond (.t 21) (.seq (.reg 0 [⟨some 22, .mov (.t 1), none⟩, ⟨some 4, .asg (.t 22), none⟩] false [4])
       (.ret)) (.skip)
def F_valid_checker_take_p2 : ACode :=
  .seq (.reg 0 [⟨some 44, .mov (.t 1), none⟩, ⟨some 4, .asg (.t 44), none⟩] false [4])
          (.ret)
def F_valid_checker_take_p3 : ACode :=
  .cond (.t 31) (.seq (.reg 0 [⟨some 32, .mov (.t 0), none⟩, ⟨some 33, .mov (.t 0), none⟩, ⟨some 34, .nilchk (.t 33), none⟩, ⟨some 35, .faddr 46 7 15 (.t 34), none⟩, ⟨some 36, .load 12 false 1 (.t 35), none⟩, ⟨some 37, .mov (.t 36), none⟩, ⟨some 38, .faddr 54 1 1 (.t 5), some (5, 37, false)⟩, ⟨some 39, .load 12 false 1 (.t 38), some (5, 37, false)⟩, ⟨some 40, .un .not (.t 39), some (5, 37, false)⟩, ⟨some 41, .pick (.t 37) (.c (.bool true)) (.t 40), none⟩, ⟨some 42, .nilchk (.t 32), none⟩, ⟨some 43, .faddr 46 7 15 (.t 42), none⟩, ⟨none, .store 12 1 (.t 43) (.t 41), none⟩] false [1])
         (F_valid_checker_take_p2)) (.skip)
def F_valid_checker_take_p4 : ACode :=
  .cond (.t 73) (.reg 0 [⟨some 74, .mov (.t 0), none⟩, ⟨some 75, .nilchk (.t 74), none⟩, ⟨some 76, .faddr 46 7 15 (.t 75), none⟩, ⟨none, .store 12 1 (.t 76) (.c (.bool true)), none⟩] false [1, 7]) (.skip)
def F_valid_checker_take_p5 : ACode :=
  .cond (.t 78) (.seq (.reg 0 [⟨some 79, .mov (.t 1), none⟩, ⟨some 4, .asg (.t 79), none⟩] false [4])
             (.ret)) (.skip)
def F_valid_checker_take_p6 : ACode :=
  .seq (.reg 0 [⟨some 80, .mov (.t 7), none⟩, ⟨some 4, .asg (.t 80), none⟩] false [4])
           (.ret)
def F_valid_checker_take_p7 : ACode :=
  .seq (.seq (.reg 0 [⟨some 77, .mov (.t 7), none⟩, ⟨some 78, .bin .eql .other 51 (.t 77) (.c (.int .u8 1)), none⟩] false [1, 7, 78])
           (F_valid_checker_take_p5))
          (F_valid_checker_take_p6)
def F_valid_checker_take_p8 : ACode :=
  .seq (.seq (.reg 0 [⟨some 63, .mov (.t 7), none⟩, ⟨some 64, .mov (.t 1), none⟩, ⟨some 65, .bin .neq .other 51 (.t 63) (.t 64), none⟩, ⟨some 66, .mov (.t 65), none⟩, ⟨some 67, .mov (.t 7), some (3, 66, true)⟩, ⟨some 68, .bin .neq .other 51 (.t 67) (.c (.int .u8 1)), some (3, 66, true)⟩, ⟨some 69, .pick (.t 66) (.t 68) (.c (.bool false)), none⟩, ⟨some 70, .mov (.t 69), none⟩, ⟨some 71, .mov (.t 1), some (7, 70, true)⟩, ⟨some 72, .bin .neq .other 51 (.t 71) (.c (.int .u8 1)), some (7, 70, true)⟩, ⟨some 73, .pick (.t 70) (.t 72) (.c (.bool false)), none⟩] false [0, 1, 7, 73])
          (F_valid_checker_take_p4))
         (F_valid_checker_take_p7)
def F_valid_checker_take_p9 : ACode :=
  .seq (.reg 0 [⟨some 53, .mov (.t 0), none⟩, ⟨some 54, .mov (.t 0), none⟩, ⟨some 55, .nilchk (.t 54), none⟩, ⟨some 56, .faddr 46 3 11 (.t 55), none⟩, ⟨some 57, .load 50 false 1 (.t 56), none⟩, ⟨some 58, .mov (.t 6), none⟩, ⟨some 59, .bin .sub .other 2 (.t 58) (.c (.int .i64 1)), none⟩, ⟨some 60, .slc 50 1 (.t 57) none (some (.t 59)), none⟩, ⟨some 61, .nilchk (.t 53), none⟩, ⟨some 62, .faddr 46 3 11 (.t 61), none⟩, ⟨none, .store 50 1 (.t 62) (.t 60), none⟩] false [0, 1, 7])
        (F_valid_checker_take_p8)
def F_valid_checker_take_p10 : ACode :=
  .seq (.reg 0 [⟨some 45, .mov (.t 0), none⟩, ⟨some 46, .nilchk (.t 45), none⟩, ⟨some 47, .faddr 46 3 11 (.t 46), none⟩, ⟨some 48, .load 50 false 1 (.t 47), none⟩, ⟨some 49, .mov (.t 6), none⟩, ⟨some 50, .bin .sub .other 2 (.t 49) (.c (.int .i64 1)), none⟩, ⟨some 51, .iaddr 50 1 (.t 48) (.t 50), none⟩, ⟨some 52, .load 51 false 1 (.t 51), none⟩, ⟨some 7, .asg (.t 52), none⟩] false [0, 1, 6, 7])
       (F_valid_checker_take_p9)
def F_valid_checker_take_p11 : ACode :=
  .seq (.seq (.reg 0 [⟨some 28, .mov (.t 6), none⟩, ⟨some 29, .faddr 54 0 0 (.t 5), none⟩, ⟨some 30, .load 2 false 1 (.t 29), none⟩, ⟨some 31, .bin .eql .other 2 (.t 28) (.t 30), none⟩] false [0, 1, 5, 6, 31])
       (F_valid_checker_take_p3))
      (F_valid_checker_take_p10)
def F_valid_checker_take_p12 : ACode :=
  .seq (.reg 0 [⟨some 23, .mov (.t 0), none⟩, ⟨some 24, .nilchk (.t 23), none⟩, ⟨some 25, .faddr 46 3 11 (.t 24), none⟩, ⟨some 26, .load 50 false 1 (.t 25), none⟩, ⟨some 27, .len 50 (.t 26), none⟩, ⟨some 6, .asg (.t 27), none⟩] false [0, 1, 5, 6])
     (F_valid_checker_take_p11)
def F_valid_checker_take_p13 : ACode :=
  .seq (.seq (.reg 0 [⟨some 20, .mov (.t 1), none⟩, ⟨some 21, .bin .eql .other 51 (.t 20) (.c (.int .u8 0)), none⟩] false [0, 1, 5, 21])
     (F_valid_checker_take_p1))
    (F_valid_checker_take_p12)
def F_valid_checker_take_p14 : ACode :=
  .seq (.reg 1 [⟨some 8, .mov (.t 0), none⟩, ⟨some 9, .nilchk (.t 8), none⟩, ⟨some 10, .faddr 46 4 12 (.t 9), none⟩, ⟨some 11, .load 55 false 1 (.t 10), none⟩, ⟨some 12, .mov (.t 0), none⟩, ⟨some 13, .nilchk (.t 12), none⟩, ⟨some 14, .faddr 46 4 12 (.t 13), none⟩, ⟨some 15, .load 55 false 1 (.t 14), none⟩, ⟨some 16, .len 55 (.t 15), none⟩, ⟨some 17, .bin .sub .other 2 (.t 16) (.c (.int .i64 1)), none⟩, ⟨some 18, .iaddr 55 3 (.t 11) (.t 17), none⟩, ⟨some 19, .load 54 true 3 (.t 18), none⟩, ⟨some 5, .alloc 0 54 [.int .i64 0, .bool false, .bool false], none⟩, ⟨none, .store 54 3 (.t 5) (.t 19), none⟩] true [0, 1, 5])
   (F_valid_checker_take_p13)
def F_valid_checker_take_p15 : ACode :=
  .seq (.reg 0 [⟨some 4, .asg (.c (.int .u8 0)), none⟩] false [0, 1])
  (F_valid_checker_take_p14)
def F_valid_checker_take : AFun := { nt := 81, res := [.t 4], code := (F_valid_checker_take_p15) }

/-- mandrel/valid.kinds$1 -/
def F_valid_kinds_1_p1 : ACode :=
  .seq (.reg 0 [⟨some 3, .mov (.t 0), none⟩, ⟨some 4, .bin .eql .other 51 (.t 3) (.c (.int .u8 0)), none⟩, ⟨some 5, .mov (.t 4), none⟩, ⟨some 6, .mov (.t 0), some (2, 5, false)⟩, ⟨some 7, .callp 50 [.t 6], some (2, 5, false)⟩, ⟨some 8, .un .not (.t 7), some (2, 5, false)⟩, ⟨some 9, .pick (.t 5) (.c (.bool true)) (.t 8), none⟩, ⟨some 2, .asg (.t 9), none⟩] false [2])
   (.ret)
def F_valid_kinds_1_p2 : ACode :=
  .seq (.reg 0 [⟨some 2, .asg (.c (.bool false)), none⟩] false [0])
  (F_valid_kinds_1_p1)
def F_valid_kinds_1 : AFun := { nt := 10, res := [.t 2], code := (F_valid_kinds_1_p2) }

/-- mandrel/valid.result -/
def F_valid_result_p1 : ACode :=
  .seq (.reg 0 [⟨some 3, .mov (.t 0), none⟩, ⟨some 4, .bin .eql .other 51 (.t 3) (.c (.int .u8 0)), none⟩, ⟨some 5, .mov (.t 4), none⟩, ⟨some 6, .mov (.t 0), some (2, 5, false)⟩, ⟨some 7, .bin .eql .other 51 (.t 6) (.c (.int .u8 127)), some (2, 5, false)⟩, ⟨some 8, .pick (.t 5) (.c (.bool true)) (.t 7), none⟩, ⟨some 9, .mov (.t 8), none⟩, ⟨some 10, .mov (.t 0), some (6, 9, false)⟩, ⟨some 11, .bin .eql .other 51 (.t 10) (.c (.int .u8 126)), some (6, 9, false)⟩, ⟨some 12, .pick (.t 9) (.c (.bool true)) (.t 11), none⟩, ⟨some 2, .asg (.t 12), none⟩] false [2])
   (.ret)
def F_valid_result_p2 : ACode :=
  .seq (.reg 0 [⟨some 2, .asg (.c (.bool false)), none⟩] false [0])
  (F_valid_result_p1)
def F_valid_result : AFun := { nt := 13, res := [.t 2], code := (F_valid_result_p2) }

/-- slices.ContainsFunc[[]mandrel/api.Kind,mandrel/api.Kind] -/
def F_slices_ContainsFunc_api_Kind_api_Kind_p1 : ACode :=
  .seq (.reg 0 [⟨some 5, .mov (.t 0), none⟩, ⟨some 6, .mov (.t 1), none⟩, ⟨some 7, .callp 66 [.t 5, .t 6], none⟩, ⟨some 8, .bin .geq .other 2 (.t 7) (.c (.int .i64 0)), none⟩, ⟨some 4, .asg (.t 8), none⟩] false [4])
   (.ret)
def F_slices_ContainsFunc_api_Kind_api_Kind_p2 : ACode :=
  .seq (.reg 0 [⟨some 4, .asg (.c (.bool false)), none⟩] false [0, 1])
  (F_slices_ContainsFunc_api_Kind_api_Kind_p1)
def F_slices_ContainsFunc_api_Kind_api_Kind : AFun := { nt := 9, res := [.t 4], code := (F_slices_ContainsFunc_api_Kind_api_Kind_p2) }

/-- slices.ContainsFunc[[]mandrel/api.Global,mandrel/api.Global] -/
def F_slices_ContainsFunc_api_Global_api_Global_p1 : ACode :=
  .seq (.reg 0 [⟨some 5, .mov (.t 0), none⟩, ⟨some 6, .mov (.t 1), none⟩, ⟨some 7, .callp 67 [.t 5, .t 6], none⟩, ⟨some 8, .bin .geq .other 2 (.t 7) (.c (.int .i64 0)), none⟩, ⟨some 4, .asg (.t 8), none⟩] false [4])
   (.ret)
def F_slices_ContainsFunc_api_Global_api_Global_p2 : ACode :=
  .seq (.reg 0 [⟨some 4, .asg (.c (.bool false)), none⟩] false [0, 1])
  (F_slices_ContainsFunc_api_Global_api_Global_p1)
def F_slices_ContainsFunc_api_Global_api_Global : AFun := { nt := 9, res := [.t 4], code := (F_slices_ContainsFunc_api_Global_api_Global_p2) }

/-- mandrel/valid.kinds$2 -/
def F_valid_kinds_2_p1 : ACode :=
  .seq (.reg 0 [⟨some 4, .load 57 false 1 (.t 1), none⟩, ⟨some 5, .faddr 21 0 0 (.t 2), none⟩, ⟨some 6, .load 51 false 1 (.t 5), none⟩, ⟨some 7, .callv (.t 4) [.t 6], none⟩, ⟨some 3, .asg (.t 7), none⟩] false [3])
   (.ret)
def F_valid_kinds_2_p2 : ACode :=
  .seq (.reg 1 [⟨some 2, .box 0 21 (.t 0), none⟩, ⟨some 3, .asg (.c (.bool false)), none⟩] false [1, 2])
  (F_valid_kinds_2_p1)
def F_valid_kinds_2 : AFun := { nt := 8, res := [.t 3], code := (F_valid_kinds_2_p2) }

/-- slices.IndexFunc[[]uint32,uint32] -/
def F_slices_IndexFunc_uint32_uint32_p1 : ACode :=
  .cond (.t 16) (.seq (.reg 0 [⟨some 17, .mov (.t 5), none⟩, ⟨some 4, .asg (.t 17), none⟩] false [4])
              (.ret)) (.skip)
def F_slices_IndexFunc_uint32_uint32_p2 : ACode :=
  .seq (.reg 0 [⟨some 11, .mov (.t 1), none⟩, ⟨some 12, .mov (.t 0), none⟩, ⟨some 13, .mov (.t 5), none⟩, ⟨some 14, .iaddr 23 1 (.t 12) (.t 13), none⟩, ⟨some 15, .load 13 false 1 (.t 14), none⟩, ⟨some 16, .callv (.t 11) [.t 15], none⟩] false [0, 1, 5, 7, 8, 16])
            (F_slices_IndexFunc_uint32_uint32_p1)
def F_slices_IndexFunc_uint32_uint32_p3 : ACode :=
  .reg 0 [⟨some 18, .bin .add .other 2 (.t 8) (.c (.int .i64 1)), none⟩, ⟨some 8, .mov (.t 18), none⟩] false [0, 1, 7, 8]
def F_slices_IndexFunc_uint32_uint32_p4 : ACode :=
  .seq (.block 1 (.seq (.reg 0 [⟨some 10, .mov (.t 8), none⟩, ⟨some 5, .asg (.t 10), none⟩] false [0, 1, 5, 7, 8])
           (F_slices_IndexFunc_uint32_uint32_p2)))
         (F_slices_IndexFunc_uint32_uint32_p3)
def F_slices_IndexFunc_uint32_uint32_p5 : ACode :=
  .seq (.cond (.t 9) (.skip) (.exit 0))
        (F_slices_IndexFunc_uint32_uint32_p4)
def F_slices_IndexFunc_uint32_uint32_p6 : ACode :=
  .seq (.reg 0 [⟨some 9, .bin .lss .other 2 (.t 8) (.t 7), none⟩] false [0, 1, 7, 8, 9])
       (F_slices_IndexFunc_uint32_uint32_p5)
def F_slices_IndexFunc_uint32_uint32_p7 : ACode :=
  .seq (.seq (.reg 0 [⟨some 6, .mov (.t 0), none⟩, ⟨some 7, .len 23 (.t 6), none⟩, ⟨some 8, .mov (.c (.int .i64 0)), none⟩] false [0, 1, 7, 8])
    (.block 0 (.loop (F_slices_IndexFunc_uint32_uint32_p6))))
   (.seq (.reg 0 [⟨some 4, .asg (.c (.int .i64 (-1))), none⟩] false [4])
    (.ret))
def F_slices_IndexFunc_uint32_uint32_p8 : ACode :=
  .seq (.reg 0 [⟨some 4, .asg (.c (.int .i64 0)), none⟩] false [0, 1])
  (F_slices_IndexFunc_uint32_uint32_p7)
def F_slices_IndexFunc_uint32_uint32 : AFun := { nt := 19, res := [.t 4], code := (F_slices_IndexFunc_uint32_uint32_p8) }

/-- slices.Grow[[]mandrel/api.Kind,mandrel/api.Kind] -/
def F_slices_Grow_api_Kind_api_Kind_p1 : ACode :=
  .cond (.t 6) (.reg 0 [⟨some 7, .mkif 39 (.c (.str ⟨#[99, 97, 110, 110, 111, 116, 32, 98, 101, 32, 110, 101, 103, 97, 116, 105, 118, 101]⟩)), none⟩, ⟨none, .x (.pan (.t 7)), none⟩] false [0, 1]) (.skip)
def F_slices_Grow_api_Kind_api_Kind_p2 : ACode :=
  .cond (.t 16) (.reg 1 [⟨some 17, .mov (.t 0), none⟩, ⟨some 18, .mov (.t 0), none⟩, ⟨some 19, .x (.cap 50 (.t 18)), none⟩, ⟨some 20, .slc 50 1 (.t 17) none (some (.t 19)), none⟩, ⟨some 21, .mov (.t 1), none⟩, ⟨some 22, .x (.appZ 0 50 2 1 [.int .u8 0] (.t 20) (.t 21)), none⟩, ⟨some 23, .mov (.t 0), none⟩, ⟨some 24, .len 50 (.t 23), none⟩, ⟨some 25, .slc 50 1 (.t 22) none (some (.t 24)), none⟩, ⟨some 0, .asg (.t 25), none⟩] false [0]) (.skip)
def F_slices_Grow_api_Kind_api_Kind_p3 : ACode :=
  .seq (.reg 0 [⟨some 15, .mov (.t 1), none⟩, ⟨some 16, .bin .gtr .other 2 (.t 15) (.c (.int .i64 0)), none⟩] false [0, 1, 16])
      (F_slices_Grow_api_Kind_api_Kind_p2)
def F_slices_Grow_api_Kind_api_Kind_p4 : ACode :=
  .seq (.reg 0 [⟨some 26, .mov (.t 0), none⟩, ⟨some 4, .asg (.t 26), none⟩] false [4])
     (.ret)
def F_slices_Grow_api_Kind_api_Kind_p5 : ACode :=
  .seq (.seq (.reg 0 [⟨some 8, .mov (.t 1), none⟩, ⟨some 9, .mov (.t 0), none⟩, ⟨some 10, .x (.cap 50 (.t 9)), none⟩, ⟨some 11, .mov (.t 0), none⟩, ⟨some 12, .len 50 (.t 11), none⟩, ⟨some 13, .bin .sub .other 2 (.t 10) (.t 12), none⟩, ⟨some 14, .bin .sub .other 2 (.t 8) (.t 13), none⟩, ⟨some 1, .asg (.t 14), none⟩] false [0, 1])
     (F_slices_Grow_api_Kind_api_Kind_p3))
    (F_slices_Grow_api_Kind_api_Kind_p4)
def F_slices_Grow_api_Kind_api_Kind_p6 : ACode :=
  .seq (.seq (.reg 0 [⟨some 5, .mov (.t 1), none⟩, ⟨some 6, .bin .lss .other 2 (.t 5) (.c (.int .i64 0)), none⟩] false [0, 1, 6])
    (F_slices_Grow_api_Kind_api_Kind_p1))
   (F_slices_Grow_api_Kind_api_Kind_p5)
def F_slices_Grow_api_Kind_api_Kind_p7 : ACode :=
  .seq (.reg 0 [⟨some 4, .asg (.c .nils), none⟩] false [0, 1])
  (F_slices_Grow_api_Kind_api_Kind_p6)
def F_slices_Grow_api_Kind_api_Kind : AFun := { nt := 27, res := [.t 4], code := (F_slices_Grow_api_Kind_api_Kind_p7) }

/-- (*mandrel/valid.checker).control -/
def F_valid_checker_control_p1 : ACode :=
  .cond (.t 17) (.skip) (.reg 0 [⟨some 19, .bin .eql .other 7 (.t 7) (.c (.int .u8 3)), none⟩, ⟨some 17, .asg (.t 19), none⟩] false [0, 3, 7, 17])
def F_valid_checker_control_p2 : ACode :=
  .cond (.t 37) (.reg 0 [⟨some 4, .asg (.c (.int .u8 0)), none⟩] false [0, 3, 4]) (.skip)
def F_valid_checker_control_p3 : ACode :=
  .reg 0 [⟨some 45, .mov (.t 0), none⟩, ⟨some 46, .faddr 3 4 4 (.t 3), none⟩, ⟨some 47, .load 51 false 1 (.t 46), none⟩, ⟨some 48, .calls 71 [.t 45, .t 47], none⟩] false []
def F_valid_checker_control_p4 : ACode :=
  .seq (.reg 0 [⟨some 38, .mov (.t 0), none⟩, ⟨some 39, .faddr 3 5 5 (.t 3), none⟩, ⟨some 40, .load 4 false 1 (.t 39), none⟩, ⟨some 41, .faddr 3 4 4 (.t 3), none⟩, ⟨some 42, .load 51 false 1 (.t 41), none⟩, ⟨some 43, .mov (.t 4), none⟩, ⟨some 44, .calls 70 [.t 38, .t 40, .t 42, .t 43], none⟩] false [0, 3])
              (F_valid_checker_control_p3)
def F_valid_checker_control_p5 : ACode :=
  .seq (.seq (.reg 0 [⟨some 35, .faddr 3 0 0 (.t 3), none⟩, ⟨some 36, .load 7 false 1 (.t 35), none⟩, ⟨some 37, .bin .eql .other 7 (.t 36) (.c (.int .u8 3)), none⟩] false [0, 3, 4, 37])
              (F_valid_checker_control_p2))
             (F_valid_checker_control_p4)
def F_valid_checker_control_p6 : ACode :=
  .seq (.reg 0 [⟨some 33, .faddr 3 4 4 (.t 3), none⟩, ⟨some 34, .load 51 false 1 (.t 33), none⟩, ⟨some 4, .asg (.t 34), none⟩] false [0, 3, 4])
            (F_valid_checker_control_p5)
def F_valid_checker_control_p7 : ACode :=
  .reg 0 [⟨some 82, .mov (.t 0), none⟩, ⟨some 83, .faddr 3 4 4 (.t 3), none⟩, ⟨some 84, .load 51 false 1 (.t 83), none⟩, ⟨some 85, .calls 71 [.t 82, .t 84], none⟩] false []
def F_valid_checker_control_p8 : ACode :=
  .seq (.reg 0 [⟨some 74, .mov (.t 0), none⟩, ⟨some 75, .faddr 3 6 6 (.t 3), none⟩, ⟨some 76, .load 4 false 1 (.t 75), none⟩, ⟨some 77, .faddr 3 4 4 (.t 3), none⟩, ⟨some 78, .load 51 false 1 (.t 77), none⟩, ⟨some 79, .faddr 3 4 4 (.t 3), none⟩, ⟨some 80, .load 51 false 1 (.t 79), none⟩, ⟨some 81, .calls 70 [.t 74, .t 76, .t 78, .t 80], none⟩] false [0, 3])
                (F_valid_checker_control_p7)
def F_valid_checker_control_p9 : ACode :=
  .seq (.reg 0 [⟨some 66, .mov (.t 0), none⟩, ⟨some 67, .faddr 3 5 5 (.t 3), none⟩, ⟨some 68, .load 4 false 1 (.t 67), none⟩, ⟨some 69, .faddr 3 4 4 (.t 3), none⟩, ⟨some 70, .load 51 false 1 (.t 69), none⟩, ⟨some 71, .faddr 3 4 4 (.t 3), none⟩, ⟨some 72, .load 51 false 1 (.t 71), none⟩, ⟨some 73, .calls 70 [.t 66, .t 68, .t 70, .t 72], none⟩] false [0, 3])
               (F_valid_checker_control_p8)
def F_valid_checker_control_p10 : ACode :=
  .seq (.reg 0 [⟨some 64, .mov (.t 0), none⟩, ⟨some 65, .calls 40 [.t 64, .c (.int .u8 127)], none⟩] false [0, 3])
              (F_valid_checker_control_p9)
def F_valid_checker_control_p11 : ACode :=
  .reg 0 [⟨some 94, .mov (.t 0), none⟩, ⟨some 95, .calls 69 [.t 94], none⟩] false []
def F_valid_checker_control_p12 : ACode :=
  .reg 0 [⟨some 107, .mov (.t 0), none⟩, ⟨some 108, .mov (.t 5), none⟩, ⟨some 109, .calls 71 [.t 107, .t 108], none⟩] false []
def F_valid_checker_control_p13 : ACode :=
  .seq (.reg 0 [⟨some 104, .mov (.t 0), none⟩, ⟨some 105, .mov (.t 5), none⟩, ⟨some 106, .calls 40 [.t 104, .t 105], none⟩] false [0, 5])
                   (F_valid_checker_control_p12)
def F_valid_checker_control_p14 : ACode :=
  .seq (.reg 0 [⟨some 100, .mov (.t 0), none⟩, ⟨some 101, .faddr 3 1 1 (.t 3), none⟩, ⟨some 102, .load 27 false 1 (.t 101), none⟩, ⟨some 103, .calls 72 [.t 100, .t 102], none⟩, ⟨some 5, .asg (.t 103), none⟩] false [0, 5])
                  (F_valid_checker_control_p13)
def F_valid_checker_control_p15 : ACode :=
  .reg 0 [⟨some 124, .mov (.t 0), none⟩, ⟨some 125, .calls 69 [.t 124], none⟩] false []
def F_valid_checker_control_p16 : ACode :=
  .reg 0 [⟨some 154, .mov (.t 0), none⟩, ⟨some 155, .mov (.t 0), none⟩, ⟨some 156, .faddr 3 1 1 (.t 3), none⟩, ⟨some 157, .load 27 false 1 (.t 156), none⟩, ⟨some 158, .calls 76 [.t 155, .t 157], none⟩, ⟨some 159, .calls 75 [.t 154, .t 158], none⟩] false []
def F_valid_checker_control_p17 : ACode :=
  .seq (.reg 0 [⟨some 152, .mov (.t 0), none⟩, ⟨some 153, .calls 40 [.t 152, .c (.int .u8 127)], none⟩] false [0, 3])
                          (F_valid_checker_control_p16)
def F_valid_checker_control_p18 : ACode :=
  .cond (.t 134) (.seq (.reg 0 [⟨some 136, .mov (.t 0), none⟩, ⟨some 137, .mov (.t 0), none⟩, ⟨some 138, .nilchk (.t 137), none⟩, ⟨some 139, .faddr 46 7 15 (.t 138), none⟩, ⟨some 140, .load 12 false 1 (.t 139), none⟩, ⟨some 141, .mov (.t 140), none⟩, ⟨some 142, .mov (.t 0), some (5, 141, false)⟩, ⟨some 143, .nilchk (.t 142), some (5, 141, false)⟩, ⟨some 144, .faddr 46 0 0 (.t 143), some (5, 141, false)⟩, ⟨some 145, .faddr 1 2 2 (.t 144), some (5, 141, false)⟩, ⟨some 146, .load 18 false 1 (.t 145), some (5, 141, false)⟩, ⟨some 147, .len 18 (.t 146), some (5, 141, false)⟩, ⟨some 148, .bin .eql .other 2 (.t 147) (.c (.int .i64 0)), some (5, 141, false)⟩, ⟨some 149, .pick (.t 141) (.c (.bool true)) (.t 148), none⟩, ⟨some 150, .nilchk (.t 136), none⟩, ⟨some 151, .faddr 46 7 15 (.t 150), none⟩, ⟨none, .store 12 1 (.t 151) (.t 149), none⟩] false [0, 3])
                         (F_valid_checker_control_p17)) (.reg 0 [⟨some 8, .mov (.t 0), none⟩, ⟨some 9, .nilchk (.t 8), none⟩, ⟨some 10, .faddr 46 7 15 (.t 9), none⟩, ⟨none, .store 12 1 (.t 10) (.c (.bool true)), none⟩] false [])
def F_valid_checker_control_p19 : ACode :=
  .cond (.t 126) (.reg 0 [⟨some 128, .mov (.t 0), none⟩, ⟨some 129, .mov (.t 0), none⟩, ⟨some 130, .faddr 3 1 1 (.t 3), none⟩, ⟨some 131, .load 27 false 1 (.t 130), none⟩, ⟨some 132, .calls 74 [.t 129, .t 131], none⟩, ⟨some 133, .calls 75 [.t 128, .t 132], none⟩] false []) (.seq (.reg 0 [⟨some 135, .bin .eql .other 7 (.t 7) (.c (.int .u8 17)), none⟩, ⟨some 134, .asg (.t 135), none⟩] false [0, 3, 134])
                       (F_valid_checker_control_p18))
def F_valid_checker_control_p20 : ACode :=
  .cond (.t 115) (.seq (.reg 0 [⟨some 117, .mov (.t 0), none⟩, ⟨some 118, .mov (.t 0), none⟩, ⟨some 119, .nilchk (.t 118), none⟩, ⟨some 120, .faddr 46 1 8 (.t 119), none⟩, ⟨some 121, .faddr 43 1 1 (.t 120), none⟩, ⟨some 122, .load 51 false 1 (.t 121), none⟩, ⟨some 123, .calls 40 [.t 117, .t 122], none⟩] false [0])
                     (F_valid_checker_control_p15)) (.seq (.reg 0 [⟨some 127, .bin .eql .other 7 (.t 7) (.c (.int .u8 16)), none⟩, ⟨some 126, .asg (.t 127), none⟩] false [0, 3, 7, 126])
                     (F_valid_checker_control_p19))
def F_valid_checker_control_p21 : ACode :=
  .cond (.t 110) (.reg 0 [⟨some 112, .mov (.t 0), none⟩, ⟨some 113, .load 3 true 8 (.t 3), none⟩, ⟨some 114, .calls 73 [.t 112, .t 113], none⟩] false []) (.seq (.reg 0 [⟨some 116, .bin .eql .other 7 (.t 7) (.c (.int .u8 15)), none⟩, ⟨some 115, .asg (.t 116), none⟩] false [0, 3, 7, 115])
                   (F_valid_checker_control_p20))
def F_valid_checker_control_p22 : ACode :=
  .cond (.t 96) (.seq (.reg 0 [⟨some 98, .mov (.t 0), none⟩, ⟨some 99, .calls 40 [.t 98, .c (.int .u8 127)], none⟩] false [0, 3])
                 (F_valid_checker_control_p14)) (.seq (.reg 0 [⟨some 111, .bin .eql .other 7 (.t 7) (.c (.int .u8 14)), none⟩, ⟨some 110, .asg (.t 111), none⟩] false [0, 3, 7, 110])
                 (F_valid_checker_control_p21))
def F_valid_checker_control_p23 : ACode :=
  .cond (.t 86) (.seq (.reg 0 [⟨some 88, .mov (.t 0), none⟩, ⟨some 89, .mov (.t 0), none⟩, ⟨some 90, .faddr 3 1 1 (.t 3), none⟩, ⟨some 91, .load 27 false 1 (.t 90), none⟩, ⟨some 92, .calls 72 [.t 89, .t 91], none⟩, ⟨some 93, .calls 40 [.t 88, .t 92], none⟩] false [0])
               (F_valid_checker_control_p11)) (.seq (.reg 0 [⟨some 97, .bin .eql .other 7 (.t 7) (.c (.int .u8 13)), none⟩, ⟨some 96, .asg (.t 97), none⟩] false [0, 3, 7, 96])
               (F_valid_checker_control_p22))
def F_valid_checker_control_p24 : ACode :=
  .cond (.t 49) (.seq (.reg 0 [⟨some 51, .mov (.t 0), none⟩, ⟨some 52, .mov (.t 0), none⟩, ⟨some 53, .nilchk (.t 52), none⟩, ⟨some 54, .faddr 46 7 15 (.t 53), none⟩, ⟨some 55, .load 12 false 1 (.t 54), none⟩, ⟨some 56, .mov (.t 55), none⟩, ⟨some 57, .faddr 3 4 4 (.t 3), some (5, 56, false)⟩, ⟨some 58, .load 51 false 1 (.t 57), some (5, 56, false)⟩, ⟨some 59, .callp 50 [.t 58], some (5, 56, false)⟩, ⟨some 60, .un .not (.t 59), some (5, 56, false)⟩, ⟨some 61, .pick (.t 56) (.c (.bool true)) (.t 60), none⟩, ⟨some 62, .nilchk (.t 51), none⟩, ⟨some 63, .faddr 46 7 15 (.t 62), none⟩, ⟨none, .store 12 1 (.t 63) (.t 61), none⟩] false [0, 3])
             (F_valid_checker_control_p10)) (.seq (.reg 0 [⟨some 87, .bin .eql .other 7 (.t 7) (.c (.int .u8 12)), none⟩, ⟨some 86, .asg (.t 87), none⟩] false [0, 3, 7, 86])
             (F_valid_checker_control_p23))
def F_valid_checker_control_p25 : ACode :=
  .cond (.t 17) (.seq (.reg 0 [⟨some 20, .mov (.t 0), none⟩, ⟨some 21, .mov (.t 0), none⟩, ⟨some 22, .nilchk (.t 21), none⟩, ⟨some 23, .faddr 46 7 15 (.t 22), none⟩, ⟨some 24, .load 12 false 1 (.t 23), none⟩, ⟨some 25, .mov (.t 24), none⟩, ⟨some 26, .faddr 3 4 4 (.t 3), some (5, 25, false)⟩, ⟨some 27, .load 51 false 1 (.t 26), some (5, 25, false)⟩, ⟨some 28, .callp 50 [.t 27], some (5, 25, false)⟩, ⟨some 29, .un .not (.t 28), some (5, 25, false)⟩, ⟨some 30, .pick (.t 25) (.c (.bool true)) (.t 29), none⟩, ⟨some 31, .nilchk (.t 20), none⟩, ⟨some 32, .faddr 46 7 15 (.t 31), none⟩, ⟨none, .store 12 1 (.t 32) (.t 30), none⟩] false [0, 3])
           (F_valid_checker_control_p6)) (.seq (.reg 0 [⟨some 50, .bin .eql .other 7 (.t 7) (.c (.int .u8 4)), none⟩, ⟨some 49, .asg (.t 50), none⟩] false [0, 3, 7, 49])
           (F_valid_checker_control_p24))
def F_valid_checker_control_p26 : ACode :=
  .cond (.t 15) (.skip) (.seq (.seq (.reg 0 [⟨some 18, .bin .eql .other 7 (.t 7) (.c (.int .u8 2)), none⟩, ⟨some 17, .asg (.t 18), none⟩] false [0, 3, 7, 17])
          (F_valid_checker_control_p1))
         (F_valid_checker_control_p25))
def F_valid_checker_control_p27 : ACode :=
  .cond (.t 11) (.reg 0 [⟨some 13, .mov (.t 0), none⟩, ⟨some 14, .calls 69 [.t 13], none⟩] false []) (.seq (.reg 0 [⟨some 16, .bin .eql .other 7 (.t 7) (.c (.int .u8 1)), none⟩, ⟨some 15, .asg (.t 16), none⟩] false [0, 3, 7, 15])
       (F_valid_checker_control_p26))
def F_valid_checker_control_p28 : ACode :=
  .block 0 (.seq (.reg 0 [⟨some 12, .bin .eql .other 7 (.t 7) (.c (.int .u8 0)), none⟩, ⟨some 11, .asg (.t 12), none⟩] false [0, 3, 7, 11])
     (F_valid_checker_control_p27))
def F_valid_checker_control_p29 : ACode :=
  .seq (.reg 0 [⟨some 6, .faddr 3 0 0 (.t 3), none⟩, ⟨some 7, .load 7 false 1 (.t 6), none⟩] false [0, 3, 7])
   (F_valid_checker_control_p28)
def F_valid_checker_control_p30 : ACode :=
  .seq (.reg 1 [⟨some 3, .box 0 3 (.t 1), none⟩] false [0, 3])
  (F_valid_checker_control_p29)
def F_valid_checker_control : AFun := { nt := 160, res := [], code := (F_valid_checker_control_p30) }

/-- (*mandrel/valid.checker).simple -/
def F_valid_checker_simple_p1 : ACode :=
  .reg 0 [⟨some 22, .mov (.t 0), none⟩, ⟨some 23, .mov (.t 0), none⟩, ⟨some 24, .mov (.t 4), none⟩, ⟨some 25, .calls 40 [.t 23, .t 24], none⟩, ⟨some 26, .calls 71 [.t 22, .t 25], none⟩] false []
def F_valid_checker_simple_p2 : ACode :=
  .seq (.reg 0 [⟨some 20, .mov (.t 0), none⟩, ⟨some 21, .calls 40 [.t 20, .c (.int .u8 1)], none⟩, ⟨some 4, .asg (.t 21), none⟩] false [0, 4])
          (F_valid_checker_simple_p1)
def F_valid_checker_simple_p3 : ACode :=
  .reg 0 [⟨some 52, .mov (.t 0), none⟩, ⟨some 53, .mov (.t 5), none⟩, ⟨some 54, .calls 71 [.t 52, .t 53], none⟩] false []
def F_valid_checker_simple_p4 : ACode :=
  .seq (.reg 0 [⟨some 49, .mov (.t 0), none⟩, ⟨some 50, .mov (.t 5), none⟩, ⟨some 51, .calls 40 [.t 49, .t 50], none⟩] false [0, 5])
                (F_valid_checker_simple_p3)
def F_valid_checker_simple_p5 : ACode :=
  .reg 0 [⟨some 82, .mov (.t 0), none⟩, ⟨some 83, .faddr 21 0 0 (.t 6), none⟩, ⟨some 84, .load 51 false 1 (.t 83), none⟩, ⟨some 85, .calls 40 [.t 82, .t 84], none⟩] false []
def F_valid_checker_simple_p6 : ACode :=
  .seq (.reg 0 [⟨some 70, .mov (.t 0), none⟩, ⟨some 71, .mov (.t 0), none⟩, ⟨some 72, .nilchk (.t 71), none⟩, ⟨some 73, .faddr 46 7 15 (.t 72), none⟩, ⟨some 74, .load 12 false 1 (.t 73), none⟩, ⟨some 75, .mov (.t 74), none⟩, ⟨some 76, .faddr 21 1 1 (.t 6), some (5, 75, false)⟩, ⟨some 77, .load 12 false 1 (.t 76), some (5, 75, false)⟩, ⟨some 78, .un .not (.t 77), some (5, 75, false)⟩, ⟨some 79, .pick (.t 75) (.c (.bool true)) (.t 78), none⟩, ⟨some 80, .nilchk (.t 70), none⟩, ⟨some 81, .faddr 46 7 15 (.t 80), none⟩, ⟨none, .store 12 1 (.t 81) (.t 79), none⟩] false [0, 6])
                    (F_valid_checker_simple_p5)
def F_valid_checker_simple_p7 : ACode :=
  .cond (.t 64) (.seq (.reg 1 [⟨some 66, .mov (.t 0), none⟩, ⟨some 67, .faddr 3 1 1 (.t 3), none⟩, ⟨some 68, .load 27 false 1 (.t 67), none⟩, ⟨some 69, .calls 78 [.t 66, .t 68], none⟩, ⟨some 6, .alloc 0 21 [.int .u8 0, .bool false, .int .u8 0, .int .i64 0, .int .u32 0, .int .u32 0, .int .u8 0, .nils, .nils, .nils], none⟩, ⟨none, .store 21 10 (.t 6) (.t 69), none⟩] false [0, 6])
                   (F_valid_checker_simple_p6)) (.reg 0 [⟨some 9, .mov (.t 0), none⟩, ⟨some 10, .load 3 true 8 (.t 3), none⟩, ⟨some 11, .calls 79 [.t 9, .t 10], none⟩] false [])
def F_valid_checker_simple_p8 : ACode :=
  .cond (.t 55) (.reg 0 [⟨some 57, .mov (.t 0), none⟩, ⟨some 58, .mov (.t 0), none⟩, ⟨some 59, .faddr 3 1 1 (.t 3), none⟩, ⟨some 60, .load 27 false 1 (.t 59), none⟩, ⟨some 61, .calls 78 [.t 58, .t 60], none⟩, ⟨some 62, .fld 21 0 0 false 1 (.t 61), none⟩, ⟨some 63, .calls 71 [.t 57, .t 62], none⟩] false []) (.seq (.reg 0 [⟨some 65, .bin .eql .other 7 (.t 8) (.c (.int .u8 36)), none⟩, ⟨some 64, .asg (.t 65), none⟩] false [0, 3, 64])
                 (F_valid_checker_simple_p7))
def F_valid_checker_simple_p9 : ACode :=
  .cond (.t 43) (.seq (.reg 0 [⟨some 45, .mov (.t 0), none⟩, ⟨some 46, .faddr 3 1 1 (.t 3), none⟩, ⟨some 47, .load 27 false 1 (.t 46), none⟩, ⟨some 48, .calls 77 [.t 45, .t 47], none⟩, ⟨some 5, .asg (.t 48), none⟩] false [0, 5])
               (F_valid_checker_simple_p4)) (.seq (.reg 0 [⟨some 56, .bin .eql .other 7 (.t 8) (.c (.int .u8 35)), none⟩, ⟨some 55, .asg (.t 56), none⟩] false [0, 3, 8, 55])
               (F_valid_checker_simple_p8))
def F_valid_checker_simple_p10 : ACode :=
  .cond (.t 35) (.reg 0 [⟨some 37, .mov (.t 0), none⟩, ⟨some 38, .mov (.t 0), none⟩, ⟨some 39, .faddr 3 1 1 (.t 3), none⟩, ⟨some 40, .load 27 false 1 (.t 39), none⟩, ⟨some 41, .calls 77 [.t 38, .t 40], none⟩, ⟨some 42, .calls 40 [.t 37, .t 41], none⟩] false []) (.seq (.reg 0 [⟨some 44, .bin .eql .other 7 (.t 8) (.c (.int .u8 34)), none⟩, ⟨some 43, .asg (.t 44), none⟩] false [0, 3, 8, 43])
             (F_valid_checker_simple_p9))
def F_valid_checker_simple_p11 : ACode :=
  .cond (.t 27) (.reg 0 [⟨some 29, .mov (.t 0), none⟩, ⟨some 30, .mov (.t 0), none⟩, ⟨some 31, .faddr 3 1 1 (.t 3), none⟩, ⟨some 32, .load 27 false 1 (.t 31), none⟩, ⟨some 33, .calls 77 [.t 30, .t 32], none⟩, ⟨some 34, .calls 71 [.t 29, .t 33], none⟩] false []) (.seq (.reg 0 [⟨some 36, .bin .eql .other 7 (.t 8) (.c (.int .u8 33)), none⟩, ⟨some 35, .asg (.t 36), none⟩] false [0, 3, 8, 35])
           (F_valid_checker_simple_p10))
def F_valid_checker_simple_p12 : ACode :=
  .cond (.t 16) (.seq (.reg 0 [⟨some 18, .mov (.t 0), none⟩, ⟨some 19, .calls 40 [.t 18, .c (.int .u8 127)], none⟩] false [0])
         (F_valid_checker_simple_p2)) (.seq (.reg 0 [⟨some 28, .bin .eql .other 7 (.t 8) (.c (.int .u8 32)), none⟩, ⟨some 27, .asg (.t 28), none⟩] false [0, 3, 8, 27])
         (F_valid_checker_simple_p11))
def F_valid_checker_simple_p13 : ACode :=
  .cond (.t 12) (.reg 0 [⟨some 14, .mov (.t 0), none⟩, ⟨some 15, .calls 40 [.t 14, .c (.int .u8 1)], none⟩] false []) (.seq (.reg 0 [⟨some 17, .bin .eql .other 7 (.t 8) (.c (.int .u8 27)), none⟩, ⟨some 16, .asg (.t 17), none⟩] false [0, 3, 8, 16])
       (F_valid_checker_simple_p12))
def F_valid_checker_simple_p14 : ACode :=
  .block 0 (.seq (.reg 0 [⟨some 13, .bin .eql .other 7 (.t 8) (.c (.int .u8 26)), none⟩, ⟨some 12, .asg (.t 13), none⟩] false [0, 3, 8, 12])
     (F_valid_checker_simple_p13))
def F_valid_checker_simple_p15 : ACode :=
  .seq (.reg 0 [⟨some 7, .faddr 3 0 0 (.t 3), none⟩, ⟨some 8, .load 7 false 1 (.t 7), none⟩] false [0, 3, 8])
   (F_valid_checker_simple_p14)
def F_valid_checker_simple_p16 : ACode :=
  .seq (.reg 1 [⟨some 3, .box 0 3 (.t 1), none⟩] false [0, 3])
  (F_valid_checker_simple_p15)
def F_valid_checker_simple : AFun := { nt := 86, res := [], code := (F_valid_checker_simple_p16) }

/-- slices.IndexFunc[[]mandrel/api.Kind,mandrel/api.Kind] -/
def F_slices_IndexFunc_api_Kind_api_Kind_p1 : ACode :=
  .cond (.t 16) (.seq (.reg 0 [⟨some 17, .mov (.t 5), none⟩, ⟨some 4, .asg (.t 17), none⟩] false [4])
              (.ret)) (.skip)
def F_slices_IndexFunc_api_Kind_api_Kind_p2 : ACode :=
  .seq (.reg 0 [⟨some 11, .mov (.t 1), none⟩, ⟨some 12, .mov (.t 0), none⟩, ⟨some 13, .mov (.t 5), none⟩, ⟨some 14, .iaddr 50 1 (.t 12) (.t 13), none⟩, ⟨some 15, .load 51 false 1 (.t 14), none⟩, ⟨some 16, .callv (.t 11) [.t 15], none⟩] false [0, 1, 5, 7, 8, 16])
            (F_slices_IndexFunc_api_Kind_api_Kind_p1)
def F_slices_IndexFunc_api_Kind_api_Kind_p3 : ACode :=
  .reg 0 [⟨some 18, .bin .add .other 2 (.t 8) (.c (.int .i64 1)), none⟩, ⟨some 8, .mov (.t 18), none⟩] false [0, 1, 7, 8]
def F_slices_IndexFunc_api_Kind_api_Kind_p4 : ACode :=
  .seq (.block 1 (.seq (.reg 0 [⟨some 10, .mov (.t 8), none⟩, ⟨some 5, .asg (.t 10), none⟩] false [0, 1, 5, 7, 8])
           (F_slices_IndexFunc_api_Kind_api_Kind_p2)))
         (F_slices_IndexFunc_api_Kind_api_Kind_p3)
def F_slices_IndexFunc_api_Kind_api_Kind_p5 : ACode :=
  .seq (.cond (.t 9) (.skip) (.exit 0))
        (F_slices_IndexFunc_api_Kind_api_Kind_p4)
def F_slices_IndexFunc_api_Kind_api_Kind_p6 : ACode :=
  .seq (.reg 0 [⟨some 9, .bin .lss .other 2 (.t 8) (.t 7), none⟩] false [0, 1, 7, 8, 9])
       (F_slices_IndexFunc_api_Kind_api_Kind_p5)
def F_slices_IndexFunc_api_Kind_api_Kind_p7 : ACode :=
  .seq (.seq (.reg 0 [⟨some 6, .mov (.t 0), none⟩, ⟨some 7, .len 50 (.t 6), none⟩, ⟨some 8, .mov (.c (.int .i64 0)), none⟩] false [0, 1, 7, 8])
    (.block 0 (.loop (F_slices_IndexFunc_api_Kind_api_Kind_p6))))
   (.seq (.reg 0 [⟨some 4, .asg (.c (.int .i64 (-1))), none⟩] false [4])
    (.ret))
def F_slices_IndexFunc_api_Kind_api_Kind_p8 : ACode :=
  .seq (.reg 0 [⟨some 4, .asg (.c (.int .i64 0)), none⟩] false [0, 1])
  (F_slices_IndexFunc_api_Kind_api_Kind_p7)
def F_slices_IndexFunc_api_Kind_api_Kind : AFun := { nt := 19, res := [.t 4], code := (F_slices_IndexFunc_api_Kind_api_Kind_p8) }

/-- slices.IndexFunc[[]mandrel/api.Global,mandrel/api.Global] -/
def F_slices_IndexFunc_api_Global_api_Global_p1 : ACode :=
  .cond (.t 16) (.seq (.reg 0 [⟨some 17, .mov (.t 5), none⟩, ⟨some 4, .asg (.t 17), none⟩] false [4])
              (.ret)) (.skip)
def F_slices_IndexFunc_api_Global_api_Global_p2 : ACode :=
  .seq (.reg 0 [⟨some 11, .mov (.t 1), none⟩, ⟨some 12, .mov (.t 0), none⟩, ⟨some 13, .mov (.t 5), none⟩, ⟨some 14, .iaddr 20 10 (.t 12) (.t 13), none⟩, ⟨some 15, .load 21 true 10 (.t 14), none⟩, ⟨some 16, .callv (.t 11) [.t 15], none⟩] false [0, 1, 5, 7, 8, 16])
            (F_slices_IndexFunc_api_Global_api_Global_p1)
def F_slices_IndexFunc_api_Global_api_Global_p3 : ACode :=
  .reg 0 [⟨some 18, .bin .add .other 2 (.t 8) (.c (.int .i64 1)), none⟩, ⟨some 8, .mov (.t 18), none⟩] false [0, 1, 7, 8]
def F_slices_IndexFunc_api_Global_api_Global_p4 : ACode :=
  .seq (.block 1 (.seq (.reg 0 [⟨some 10, .mov (.t 8), none⟩, ⟨some 5, .asg (.t 10), none⟩] false [0, 1, 5, 7, 8])
           (F_slices_IndexFunc_api_Global_api_Global_p2)))
         (F_slices_IndexFunc_api_Global_api_Global_p3)
def F_slices_IndexFunc_api_Global_api_Global_p5 : ACode :=
  .seq (.cond (.t 9) (.skip) (.exit 0))
        (F_slices_IndexFunc_api_Global_api_Global_p4)
def F_slices_IndexFunc_api_Global_api_Global_p6 : ACode :=
  .seq (.reg 0 [⟨some 9, .bin .lss .other 2 (.t 8) (.t 7), none⟩] false [0, 1, 7, 8, 9])
       (F_slices_IndexFunc_api_Global_api_Global_p5)
def F_slices_IndexFunc_api_Global_api_Global_p7 : ACode :=
  .seq (.seq (.reg 0 [⟨some 6, .mov (.t 0), none⟩, ⟨some 7, .len 20 (.t 6), none⟩, ⟨some 8, .mov (.c (.int .i64 0)), none⟩] false [0, 1, 7, 8])
    (.block 0 (.loop (F_slices_IndexFunc_api_Global_api_Global_p6))))
   (.seq (.reg 0 [⟨some 4, .asg (.c (.int .i64 (-1))), none⟩] false [4])
    (.ret))
def F_slices_IndexFunc_api_Global_api_Global_p8 : ACode :=
  .seq (.reg 0 [⟨some 4, .asg (.c (.int .i64 0)), none⟩] false [0, 1])
  (F_slices_IndexFunc_api_Global_api_Global_p7)
def F_slices_IndexFunc_api_Global_api_Global : AFun := { nt := 19, res := [.t 4], code := (F_slices_IndexFunc_api_Global_api_Global_p8) }

/-- (*mandrel/valid.checker).leave -/
def F_valid_checker_leave_p1 : ACode :=
  .reg 0 [⟨some 26, .mov (.t 2), none⟩, ⟨some 27, .nilchk (.t 26), none⟩, ⟨some 28, .faddr 54 1 1 (.t 27), none⟩, ⟨none, .store 12 1 (.t 28) (.c (.bool true)), none⟩] false []
def F_valid_checker_leave_p2 : ACode :=
  .seq (.reg 0 [⟨some 14, .mov (.t 0), none⟩, ⟨some 15, .mov (.t 0), none⟩, ⟨some 16, .nilchk (.t 15), none⟩, ⟨some 17, .faddr 46 3 11 (.t 16), none⟩, ⟨some 18, .load 50 false 1 (.t 17), none⟩, ⟨some 19, .mov (.t 2), none⟩, ⟨some 20, .nilchk (.t 19), none⟩, ⟨some 21, .faddr 54 0 0 (.t 20), none⟩, ⟨some 22, .load 2 false 1 (.t 21), none⟩, ⟨some 23, .slc 50 1 (.t 18) none (some (.t 22)), none⟩, ⟨some 24, .nilchk (.t 14), none⟩, ⟨some 25, .faddr 46 3 11 (.t 24), none⟩, ⟨none, .store 50 1 (.t 25) (.t 23), none⟩] true [2])
   (F_valid_checker_leave_p1)
def F_valid_checker_leave_p3 : ACode :=
  .seq (.reg 0 [⟨some 3, .mov (.t 0), none⟩, ⟨some 4, .nilchk (.t 3), none⟩, ⟨some 5, .faddr 46 4 12 (.t 4), none⟩, ⟨some 6, .load 55 false 1 (.t 5), none⟩, ⟨some 7, .mov (.t 0), none⟩, ⟨some 8, .nilchk (.t 7), none⟩, ⟨some 9, .faddr 46 4 12 (.t 8), none⟩, ⟨some 10, .load 55 false 1 (.t 9), none⟩, ⟨some 11, .len 55 (.t 10), none⟩, ⟨some 12, .bin .sub .other 2 (.t 11) (.c (.int .i64 1)), none⟩, ⟨some 13, .iaddr 55 3 (.t 6) (.t 12), none⟩, ⟨some 2, .asg (.t 13), none⟩] true [0, 2])
  (F_valid_checker_leave_p2)
def F_valid_checker_leave : AFun := { nt := 29, res := [], code := (F_valid_checker_leave_p3) }

/-- (*mandrel/valid.checker).inner -/
def F_valid_checker_inner_p1 : ACode :=
  .reg 0 [⟨some 103, .mov (.t 0), none⟩, ⟨some 104, .mov (.t 0), none⟩, ⟨some 105, .mov (.t 0), none⟩, ⟨some 106, .nilchk (.t 105), none⟩, ⟨some 107, .faddr 46 4 12 (.t 106), none⟩, ⟨some 108, .load 55 false 1 (.t 107), none⟩, ⟨some 109, .mov (.t 0), none⟩, ⟨some 110, .nilchk (.t 109), none⟩, ⟨some 111, .faddr 46 4 12 (.t 110), none⟩, ⟨some 112, .load 55 false 1 (.t 111), none⟩, ⟨some 113, .len 55 (.t 112), none⟩, ⟨some 114, .bin .sub .other 2 (.t 113) (.c (.int .i64 1)), none⟩, ⟨some 115, .slc 55 3 (.t 108) none (some (.t 114)), none⟩, ⟨some 116, .mov (.t 0), none⟩, ⟨some 117, .nilchk (.t 116), none⟩, ⟨some 118, .faddr 46 5 13 (.t 117), none⟩, ⟨some 119, .load 50 false 1 (.t 118), none⟩, ⟨some 120, .mov (.t 0), none⟩, ⟨some 121, .nilchk (.t 120), none⟩, ⟨some 122, .faddr 46 5 13 (.t 121), none⟩, ⟨some 123, .load 50 false 1 (.t 122), none⟩, ⟨some 124, .len 50 (.t 123), none⟩, ⟨some 125, .bin .sub .other 2 (.t 124) (.c (.int .i64 1)), none⟩, ⟨some 126, .slc 50 1 (.t 119) none (some (.t 125)), none⟩, ⟨some 127, .nilchk (.t 103), none⟩, ⟨some 128, .faddr 46 4 12 (.t 127), none⟩, ⟨none, .store 100055 1 (.t 128) (.t 115), none⟩, ⟨some 129, .nilchk (.t 104), none⟩, ⟨some 130, .faddr 46 5 13 (.t 129), none⟩, ⟨none, .store 50 1 (.t 130) (.t 126), none⟩] true []
def F_valid_checker_inner_p2 : ACode :=
  .seq (.reg 0 [⟨some 88, .mov (.t 0), none⟩, ⟨some 89, .mov (.t 0), none⟩, ⟨some 90, .nilchk (.t 89), none⟩, ⟨some 91, .faddr 46 3 11 (.t 90), none⟩, ⟨some 92, .load 50 false 1 (.t 91), none⟩, ⟨some 93, .mov (.t 9), none⟩, ⟨some 94, .mov (.t 0), none⟩, ⟨some 95, .nilchk (.t 94), none⟩, ⟨some 96, .faddr 46 3 11 (.t 95), none⟩, ⟨some 97, .load 50 false 1 (.t 96), none⟩, ⟨some 98, .len 50 (.t 97), none⟩, ⟨some 99, .mm false 2 2 (.t 93) (.t 98), none⟩, ⟨some 100, .slc 50 1 (.t 92) none (some (.t 99)), none⟩, ⟨some 101, .nilchk (.t 88), none⟩, ⟨some 102, .faddr 46 3 11 (.t 101), none⟩, ⟨none, .store 50 1 (.t 102) (.t 100), none⟩] true [0])
         (F_valid_checker_inner_p1)
def F_valid_checker_inner_p3 : ACode :=
  .seq (.reg 0 [⟨some 72, .mov (.t 0), none⟩, ⟨some 73, .mov (.t 0), none⟩, ⟨some 74, .nilchk (.t 73), none⟩, ⟨some 75, .faddr 46 7 15 (.t 74), none⟩, ⟨some 76, .load 12 false 1 (.t 75), none⟩, ⟨some 77, .mov (.t 76), none⟩, ⟨some 78, .mov (.t 0), some (5, 77, false)⟩, ⟨some 79, .nilchk (.t 78), some (5, 77, false)⟩, ⟨some 80, .faddr 46 3 11 (.t 79), some (5, 77, false)⟩, ⟨some 81, .load 50 false 1 (.t 80), some (5, 77, false)⟩, ⟨some 82, .len 50 (.t 81), some (5, 77, false)⟩, ⟨some 83, .mov (.t 9), some (5, 77, false)⟩, ⟨some 84, .bin .neq .other 2 (.t 82) (.t 83), some (5, 77, false)⟩, ⟨some 85, .pick (.t 77) (.c (.bool true)) (.t 84), none⟩, ⟨some 86, .nilchk (.t 72), none⟩, ⟨some 87, .faddr 46 7 15 (.t 86), none⟩, ⟨none, .store 12 1 (.t 87) (.t 85), none⟩] false [0, 9])
        (F_valid_checker_inner_p2)
def F_valid_checker_inner_p4 : ACode :=
  .seq (.reg 0 [⟨some 59, .mov (.t 0), none⟩, ⟨some 60, .nilchk (.t 59), none⟩, ⟨some 61, .faddr 46 4 12 (.t 60), none⟩, ⟨some 62, .load 55 false 1 (.t 61), none⟩, ⟨some 63, .mov (.t 0), none⟩, ⟨some 64, .nilchk (.t 63), none⟩, ⟨some 65, .faddr 46 4 12 (.t 64), none⟩, ⟨some 66, .load 55 false 1 (.t 65), none⟩, ⟨some 67, .len 55 (.t 66), none⟩, ⟨some 68, .bin .sub .other 2 (.t 67) (.c (.int .i64 1)), none⟩, ⟨some 69, .iaddr 55 3 (.t 62) (.t 68), none⟩, ⟨some 70, .faddr 54 0 0 (.t 69), none⟩, ⟨some 71, .load 2 false 1 (.t 70), none⟩, ⟨some 9, .asg (.t 71), none⟩] true [0, 9])
       (F_valid_checker_inner_p3)
def F_valid_checker_inner_p5 : ACode :=
  .seq (.reg 0 [⟨some 56, .mov (.t 0), none⟩, ⟨some 57, .mov (.t 2), none⟩, ⟨some 58, .calls 40 [.t 56, .t 57], none⟩] false [0])
      (F_valid_checker_inner_p4)
def F_valid_checker_inner_p6 : ACode :=
  .seq (.reg 0 [⟨some 53, .mov (.t 0), none⟩, ⟨some 54, .mov (.t 1), none⟩, ⟨some 55, .calls 39 [.t 53, .t 54], none⟩] false [0, 2])
     (F_valid_checker_inner_p5)
def F_valid_checker_inner_p7 : ACode :=
  .seq (.reg 2 [⟨some 43, .mov (.t 0), none⟩, ⟨some 44, .mov (.t 0), none⟩, ⟨some 45, .nilchk (.t 44), none⟩, ⟨some 46, .faddr 46 5 13 (.t 45), none⟩, ⟨some 47, .load 50 false 1 (.t 46), none⟩, ⟨some 48, .mov (.t 3), none⟩, ⟨some 49, .bslv 0 50 [.int .u8 0] 1 [(0, .t 48)], none⟩, ⟨some 50, .app 1 50 1 1 (.t 47) (.t 49), none⟩, ⟨some 51, .nilchk (.t 43), none⟩, ⟨some 52, .faddr 46 5 13 (.t 51), none⟩, ⟨none, .store 50 1 (.t 52) (.t 50), none⟩] false [0, 1, 2])
    (F_valid_checker_inner_p6)
def F_valid_checker_inner_p8 : ACode :=
  .seq (.reg 2 [⟨some 22, .mov (.t 0), none⟩, ⟨some 23, .mov (.t 0), none⟩, ⟨some 24, .nilchk (.t 23), none⟩, ⟨some 25, .faddr 46 4 12 (.t 24), none⟩, ⟨some 26, .load 55 false 1 (.t 25), none⟩, ⟨some 27, .mov (.t 0), none⟩, ⟨some 28, .nilchk (.t 27), none⟩, ⟨some 29, .faddr 46 3 11 (.t 28), none⟩, ⟨some 30, .load 50 false 1 (.t 29), none⟩, ⟨some 31, .len 50 (.t 30), none⟩, ⟨some 32, .faddr 54 1 1 (.t 8), none⟩, ⟨some 33, .load 12 false 1 (.t 32), none⟩, ⟨some 34, .mov (.t 33), none⟩, ⟨some 35, .faddr 54 2 2 (.t 8), some (12, 34, false)⟩, ⟨some 36, .load 12 false 1 (.t 35), some (12, 34, false)⟩, ⟨some 37, .pick (.t 34) (.c (.bool true)) (.t 36), none⟩, ⟨some 38, .build 54 [.int .i64 0, .bool false, .bool false] [(0, 0, 1, .t 31), (2, 2, 1, .t 37)], none⟩, ⟨some 39, .bslv 0 55 [.int .i64 0, .bool false, .bool false] 1 [(0, .t 38)], none⟩, ⟨some 40, .app 1 55 3 16 (.t 26) (.t 39), none⟩, ⟨some 41, .nilchk (.t 22), none⟩, ⟨some 42, .faddr 46 4 12 (.t 41), none⟩, ⟨none, .store 55 1 (.t 42) (.t 40), none⟩] true [0, 1, 2, 3])
   (F_valid_checker_inner_p7)
def F_valid_checker_inner_p9 : ACode :=
  .seq (.reg 1 [⟨some 10, .mov (.t 0), none⟩, ⟨some 11, .nilchk (.t 10), none⟩, ⟨some 12, .faddr 46 4 12 (.t 11), none⟩, ⟨some 13, .load 55 false 1 (.t 12), none⟩, ⟨some 14, .mov (.t 0), none⟩, ⟨some 15, .nilchk (.t 14), none⟩, ⟨some 16, .faddr 46 4 12 (.t 15), none⟩, ⟨some 17, .load 55 false 1 (.t 16), none⟩, ⟨some 18, .len 55 (.t 17), none⟩, ⟨some 19, .bin .sub .other 2 (.t 18) (.c (.int .i64 1)), none⟩, ⟨some 20, .iaddr 55 3 (.t 13) (.t 19), none⟩, ⟨some 21, .load 54 true 3 (.t 20), none⟩, ⟨some 8, .alloc 0 54 [.int .i64 0, .bool false, .bool false], none⟩, ⟨none, .store 54 3 (.t 8) (.t 21), none⟩] true [0, 1, 2, 3, 8])
  (F_valid_checker_inner_p8)
def F_valid_checker_inner : AFun := { nt := 131, res := [], code := (F_valid_checker_inner_p9) }

/-- (*mandrel/valid.checker).lay -/
def F_valid_checker_lay_p1 : ACode :=
  .cond (.t 36) (.reg 0 [⟨some 37, .mov (.t 0), none⟩, ⟨some 38, .mov (.t 0), none⟩, ⟨some 39, .nilchk (.t 38), none⟩, ⟨some 40, .faddr 46 6 14 (.t 39), none⟩, ⟨some 41, .load 2 false 1 (.t 40), none⟩, ⟨some 42, .mov (.t 0), none⟩, ⟨some 43, .nilchk (.t 42), none⟩, ⟨some 44, .faddr 46 3 11 (.t 43), none⟩, ⟨some 45, .load 50 false 1 (.t 44), none⟩, ⟨some 46, .len 50 (.t 45), none⟩, ⟨some 47, .mm true 2 2 (.t 41) (.t 46), none⟩, ⟨some 48, .nilchk (.t 37), none⟩, ⟨some 49, .faddr 46 6 14 (.t 48), none⟩, ⟨none, .store 2 1 (.t 49) (.t 47), none⟩] true []) (.skip)
def F_valid_checker_lay_p2 : ACode :=
  .seq (.reg 0 [⟨some 29, .faddr 54 1 1 (.t 4), none⟩, ⟨some 30, .load 12 false 1 (.t 29), none⟩, ⟨some 31, .un .not (.t 30), none⟩, ⟨some 32, .mov (.t 31), none⟩, ⟨some 33, .faddr 54 2 2 (.t 4), some (3, 32, true)⟩, ⟨some 34, .load 12 false 1 (.t 33), some (3, 32, true)⟩, ⟨some 35, .un .not (.t 34), some (3, 32, true)⟩, ⟨some 36, .pick (.t 32) (.t 35) (.c (.bool false)), none⟩] false [0, 36])
     (F_valid_checker_lay_p1)
def F_valid_checker_lay_p3 : ACode :=
  .seq (.reg 1 [⟨some 17, .mov (.t 0), none⟩, ⟨some 18, .nilchk (.t 17), none⟩, ⟨some 19, .faddr 46 4 12 (.t 18), none⟩, ⟨some 20, .load 55 false 1 (.t 19), none⟩, ⟨some 21, .mov (.t 0), none⟩, ⟨some 22, .nilchk (.t 21), none⟩, ⟨some 23, .faddr 46 4 12 (.t 22), none⟩, ⟨some 24, .load 55 false 1 (.t 23), none⟩, ⟨some 25, .len 55 (.t 24), none⟩, ⟨some 26, .bin .sub .other 2 (.t 25) (.c (.int .i64 1)), none⟩, ⟨some 27, .iaddr 55 3 (.t 20) (.t 26), none⟩, ⟨some 28, .load 54 true 3 (.t 27), none⟩, ⟨some 4, .alloc 0 54 [.int .i64 0, .bool false, .bool false], none⟩, ⟨none, .store 54 3 (.t 4) (.t 28), none⟩] true [0, 4])
    (F_valid_checker_lay_p2)
def F_valid_checker_lay_p4 : ACode :=
  .seq (.reg 2 [⟨some 7, .mov (.t 0), none⟩, ⟨some 8, .mov (.t 0), none⟩, ⟨some 9, .nilchk (.t 8), none⟩, ⟨some 10, .faddr 46 3 11 (.t 9), none⟩, ⟨some 11, .load 50 false 1 (.t 10), none⟩, ⟨some 12, .mov (.t 1), none⟩, ⟨some 13, .bslv 0 50 [.int .u8 0] 1 [(0, .t 12)], none⟩, ⟨some 14, .app 1 50 1 1 (.t 11) (.t 13), none⟩, ⟨some 15, .nilchk (.t 7), none⟩, ⟨some 16, .faddr 46 3 11 (.t 15), none⟩, ⟨none, .store 50 1 (.t 16) (.t 14), none⟩] false [0])
   (F_valid_checker_lay_p3)
def F_valid_checker_lay_p5 : ACode :=
  .seq (.seq (.reg 0 [⟨some 5, .mov (.t 1), none⟩, ⟨some 6, .bin .eql .other 51 (.t 5) (.c (.int .u8 0)), none⟩] false [0, 1, 6])
   (.cond (.t 6) (.ret) (.skip)))
  (F_valid_checker_lay_p4)
def F_valid_checker_lay : AFun := { nt := 50, res := [], code := (F_valid_checker_lay_p5) }

/-- (*mandrel/valid.checker).label -/
def F_valid_checker_label_p1 : ACode :=
  .cond (.t 15) (.seq (.reg 0 [⟨some 16, .mov (.t 0), none⟩, ⟨some 17, .nilchk (.t 16), none⟩, ⟨some 18, .faddr 46 7 15 (.t 17), none⟩, ⟨none, .store 12 1 (.t 18) (.c (.bool true)), none⟩] false [])
      (.seq (.reg 0 [⟨some 4, .asg (.c (.int .u8 0)), none⟩] false [4])
       (.ret))) (.skip)
def F_valid_checker_label_p2 : ACode :=
  .seq (.reg 0 [⟨some 19, .mov (.t 0), none⟩, ⟨some 20, .nilchk (.t 19), none⟩, ⟨some 21, .faddr 46 5 13 (.t 20), none⟩, ⟨some 22, .load 50 false 1 (.t 21), none⟩, ⟨some 23, .mov (.t 0), none⟩, ⟨some 24, .nilchk (.t 23), none⟩, ⟨some 25, .faddr 46 5 13 (.t 24), none⟩, ⟨some 26, .load 50 false 1 (.t 25), none⟩, ⟨some 27, .len 50 (.t 26), none⟩, ⟨some 28, .bin .sub .other 27 (.t 27) (.c (.int .i64 1)), none⟩, ⟨some 29, .mov (.t 1), none⟩, ⟨some 30, .bin .sub .other 27 (.t 28) (.t 29), none⟩, ⟨some 31, .iaddr 50 1 (.t 22) (.t 30), none⟩, ⟨some 32, .load 51 false 1 (.t 31), none⟩, ⟨some 4, .asg (.t 32), none⟩] true [4])
    (.ret)
def F_valid_checker_label_p3 : ACode :=
  .seq (.seq (.reg 0 [⟨some 5, .mov (.t 1), none⟩, ⟨some 6, .bin .lss .other 27 (.t 5) (.c (.int .i64 0)), none⟩, ⟨some 7, .mov (.t 6), none⟩, ⟨some 8, .mov (.t 1), some (2, 7, false)⟩, ⟨some 9, .mov (.t 0), some (2, 7, false)⟩, ⟨some 10, .nilchk (.t 9), some (2, 7, false)⟩, ⟨some 11, .faddr 46 5 13 (.t 10), some (2, 7, false)⟩, ⟨some 12, .load 50 false 1 (.t 11), some (2, 7, false)⟩, ⟨some 13, .len 50 (.t 12), some (2, 7, false)⟩, ⟨some 14, .bin .geq .other 27 (.t 8) (.t 13), some (2, 7, false)⟩, ⟨some 15, .pick (.t 7) (.c (.bool true)) (.t 14), none⟩] false [0, 1, 15])
    (F_valid_checker_label_p1))
   (F_valid_checker_label_p2)
def F_valid_checker_label_p4 : ACode :=
  .seq (.reg 0 [⟨some 4, .asg (.c (.int .u8 0)), none⟩] false [0, 1])
  (F_valid_checker_label_p3)
def F_valid_checker_label : AFun := { nt := 33, res := [.t 4], code := (F_valid_checker_label_p4) }

/-- (*mandrel/valid.checker).table -/
def F_valid_checker_table_p1 : ACode :=
  .cond (.t 18) (.seq (.reg 0 [⟨some 19, .mov (.t 0), none⟩, ⟨some 20, .nilchk (.t 19), none⟩, ⟨some 21, .faddr 46 7 15 (.t 20), none⟩, ⟨none, .store 12 1 (.t 21) (.c (.bool true)), none⟩] false [])
       (.ret)) (.skip)
def F_valid_checker_table_p2 : ACode :=
  .cond (.t 45) (.reg 0 [⟨some 46, .mov (.t 0), none⟩, ⟨some 47, .nilchk (.t 46), none⟩, ⟨some 48, .faddr 46 7 15 (.t 47), none⟩, ⟨none, .store 12 1 (.t 48) (.c (.bool true)), none⟩] false [0, 4, 34, 35, 36]) (.skip)
def F_valid_checker_table_p3 : ACode :=
  .seq (.reg 0 [⟨some 40, .mov (.t 0), none⟩, ⟨some 41, .mov (.t 6), none⟩, ⟨some 42, .convi .i64 13 27 (.t 41), none⟩, ⟨some 43, .calls 72 [.t 40, .t 42], none⟩, ⟨some 44, .mov (.t 4), none⟩, ⟨some 45, .bin .neq .other 51 (.t 43) (.t 44), none⟩] false [0, 4, 34, 35, 36, 45])
               (F_valid_checker_table_p2)
def F_valid_checker_table_p4 : ACode :=
  .reg 0 [⟨some 49, .bin .add .other 2 (.t 36) (.c (.int .i64 1)), none⟩, ⟨some 36, .mov (.t 49), none⟩] false [0, 4, 34, 35, 36]
def F_valid_checker_table_p5 : ACode :=
  .seq (.block 1 (.seq (.reg 0 [⟨some 38, .iaddr 23 1 (.t 34) (.t 36), none⟩, ⟨some 39, .load 13 false 1 (.t 38), none⟩, ⟨some 6, .asg (.t 39), none⟩] false [0, 4, 6, 34, 35, 36])
              (F_valid_checker_table_p3)))
            (F_valid_checker_table_p4)
def F_valid_checker_table_p6 : ACode :=
  .seq (.reg 0 [⟨some 37, .bin .lss .other 2 (.t 36) (.t 35), none⟩] false [0, 4, 34, 35, 36, 37])
          (.seq (.cond (.t 37) (.skip) (.exit 0))
           (F_valid_checker_table_p5))
def F_valid_checker_table_p7 : ACode :=
  .reg 0 [⟨some 53, .mov (.t 0), none⟩, ⟨some 54, .calls 69 [.t 53], none⟩] false []
def F_valid_checker_table_p8 : ACode :=
  .seq (.reg 0 [⟨some 50, .mov (.t 0), none⟩, ⟨some 51, .mov (.t 4), none⟩, ⟨some 52, .calls 40 [.t 50, .t 51], none⟩] false [0])
       (F_valid_checker_table_p7)
def F_valid_checker_table_p9 : ACode :=
  .seq (.seq (.reg 0 [⟨some 33, .faddr 3 7 7 (.t 3), none⟩, ⟨some 34, .load 23 false 1 (.t 33), none⟩, ⟨some 35, .len 23 (.t 34), none⟩, ⟨some 36, .mov (.c (.int .i64 0)), none⟩] false [0, 4, 34, 35, 36])
       (.block 0 (.loop (F_valid_checker_table_p6))))
      (F_valid_checker_table_p8)
def F_valid_checker_table_p10 : ACode :=
  .seq (.reg 0 [⟨some 22, .mov (.t 0), none⟩, ⟨some 23, .faddr 3 7 7 (.t 3), none⟩, ⟨some 24, .load 23 false 1 (.t 23), none⟩, ⟨some 25, .faddr 3 7 7 (.t 3), none⟩, ⟨some 26, .load 23 false 1 (.t 25), none⟩, ⟨some 27, .len 23 (.t 26), none⟩, ⟨some 28, .bin .sub .other 2 (.t 27) (.c (.int .i64 1)), none⟩, ⟨some 29, .iaddr 23 1 (.t 24) (.t 28), none⟩, ⟨some 30, .load 13 false 1 (.t 29), none⟩, ⟨some 31, .convi .i64 13 27 (.t 30), none⟩, ⟨some 32, .calls 72 [.t 22, .t 31], none⟩, ⟨some 4, .asg (.t 32), none⟩] false [0, 3, 4])
     (F_valid_checker_table_p9)
def F_valid_checker_table_p11 : ACode :=
  .seq (.seq (.reg 0 [⟨some 9, .faddr 3 7 7 (.t 3), none⟩, ⟨some 10, .load 23 false 1 (.t 9), none⟩, ⟨some 11, .len 23 (.t 10), none⟩, ⟨some 12, .bin .eql .other 2 (.t 11) (.c (.int .i64 0)), none⟩, ⟨some 13, .mov (.t 12), none⟩, ⟨some 14, .faddr 3 7 7 (.t 3), some (4, 13, false)⟩, ⟨some 15, .load 23 false 1 (.t 14), some (4, 13, false)⟩, ⟨some 16, .len 23 (.t 15), some (4, 13, false)⟩, ⟨some 17, .bin .gtr .other 2 (.t 16) (.c (.int .i64 257)), some (4, 13, false)⟩, ⟨some 18, .pick (.t 13) (.c (.bool true)) (.t 17), none⟩] false [0, 3, 18])
     (F_valid_checker_table_p1))
    (F_valid_checker_table_p10)
def F_valid_checker_table_p12 : ACode :=
  .seq (.reg 0 [⟨some 7, .mov (.t 0), none⟩, ⟨some 8, .calls 40 [.t 7, .c (.int .u8 127)], none⟩] false [0, 3])
   (F_valid_checker_table_p11)
def F_valid_checker_table_p13 : ACode :=
  .seq (.reg 1 [⟨some 3, .box 0 3 (.t 1), none⟩] false [0, 3])
  (F_valid_checker_table_p12)
def F_valid_checker_table : AFun := { nt := 55, res := [], code := (F_valid_checker_table_p13) }

/-- (*mandrel/valid.checker).call -/
def F_valid_checker_call_p1 : ACode :=
  .reg 0 [⟨some 8, .mov (.t 0), none⟩, ⟨some 9, .faddr 43 1 1 (.t 3), none⟩, ⟨some 10, .load 51 false 1 (.t 9), none⟩, ⟨some 11, .calls 71 [.t 8, .t 10], none⟩] false []
def F_valid_checker_call_p2 : ACode :=
  .seq (.reg 0 [⟨some 4, .mov (.t 0), none⟩, ⟨some 5, .faddr 43 0 0 (.t 3), none⟩, ⟨some 6, .load 50 false 1 (.t 5), none⟩, ⟨some 7, .calls 84 [.t 4, .t 6], none⟩] false [0, 3])
   (F_valid_checker_call_p1)
def F_valid_checker_call_p3 : ACode :=
  .seq (.reg 1 [⟨some 3, .box 0 43 (.t 1), none⟩] false [0, 3])
  (F_valid_checker_call_p2)
def F_valid_checker_call : AFun := { nt := 12, res := [], code := (F_valid_checker_call_p3) }

/-- (*mandrel/valid.checker).function -/
def F_valid_checker_function_p1 : ACode :=
  .seq (.reg 0 [⟨some 20, .build 43 [.nils, .int .u8 0] [], none⟩, ⟨none, .store 43 2 (.t 4) (.t 20), none⟩] false [4])
       (.ret)
def F_valid_checker_function_p2 : ACode :=
  .cond (.t 16) (.seq (.reg 0 [⟨some 17, .mov (.t 0), none⟩, ⟨some 18, .nilchk (.t 17), none⟩, ⟨some 19, .faddr 46 7 15 (.t 18), none⟩, ⟨none, .store 12 1 (.t 19) (.c (.bool true)), none⟩] false [4])
      (F_valid_checker_function_p1)) (.skip)
def F_valid_checker_function_p3 : ACode :=
  .seq (.reg 0 [⟨some 21, .mov (.t 0), none⟩, ⟨some 22, .mov (.t 0), none⟩, ⟨some 23, .nilchk (.t 22), none⟩, ⟨some 24, .faddr 46 0 0 (.t 23), none⟩, ⟨some 25, .faddr 1 1 1 (.t 24), none⟩, ⟨some 26, .load 5 false 1 (.t 25), none⟩, ⟨some 27, .mov (.t 1), none⟩, ⟨some 28, .iaddr 5 3 (.t 26) (.t 27), none⟩, ⟨some 29, .faddr 6 0 0 (.t 28), none⟩, ⟨some 30, .load 13 false 1 (.t 29), none⟩, ⟨some 31, .convi .i64 13 27 (.t 30), none⟩, ⟨some 32, .calls 76 [.t 21, .t 31], none⟩, ⟨none, .store 43 2 (.t 4) (.t 32), none⟩] false [4])
    (.ret)
def F_valid_checker_function_p4 : ACode :=
  .seq (.seq (.reg 0 [⟨some 5, .mov (.t 1), none⟩, ⟨some 6, .bin .lss .other 27 (.t 5) (.c (.int .i64 0)), none⟩, ⟨some 7, .mov (.t 6), none⟩, ⟨some 8, .mov (.t 1), some (2, 7, false)⟩, ⟨some 9, .mov (.t 0), some (2, 7, false)⟩, ⟨some 10, .nilchk (.t 9), some (2, 7, false)⟩, ⟨some 11, .faddr 46 0 0 (.t 10), some (2, 7, false)⟩, ⟨some 12, .faddr 1 1 1 (.t 11), some (2, 7, false)⟩, ⟨some 13, .load 5 false 1 (.t 12), some (2, 7, false)⟩, ⟨some 14, .len 5 (.t 13), some (2, 7, false)⟩, ⟨some 15, .bin .geq .other 27 (.t 8) (.t 14), some (2, 7, false)⟩, ⟨some 16, .pick (.t 7) (.c (.bool true)) (.t 15), none⟩] false [0, 1, 4, 16])
    (F_valid_checker_function_p2))
   (F_valid_checker_function_p3)
def F_valid_checker_function_p5 : ACode :=
  .seq (.reg 1 [⟨some 4, .alloc 0 43 [.nils, .int .u8 0], none⟩] false [0, 1, 4])
  (F_valid_checker_function_p4)
def F_valid_checker_function : AFun := { nt := 33, res := [.cell 4 43 true 2], code := (F_valid_checker_function_p5) }

/-- (*mandrel/valid.checker).typ -/
def F_valid_checker_typ_p1 : ACode :=
  .seq (.reg 0 [⟨some 20, .build 43 [.nils, .int .u8 0] [], none⟩, ⟨none, .store 43 2 (.t 4) (.t 20), none⟩] false [4])
       (.ret)
def F_valid_checker_typ_p2 : ACode :=
  .cond (.t 16) (.seq (.reg 0 [⟨some 17, .mov (.t 0), none⟩, ⟨some 18, .nilchk (.t 17), none⟩, ⟨some 19, .faddr 46 7 15 (.t 18), none⟩, ⟨none, .store 12 1 (.t 19) (.c (.bool true)), none⟩] false [4])
      (F_valid_checker_typ_p1)) (.skip)
def F_valid_checker_typ_p3 : ACode :=
  .seq (.reg 0 [⟨some 21, .mov (.t 0), none⟩, ⟨some 22, .nilchk (.t 21), none⟩, ⟨some 23, .faddr 46 0 0 (.t 22), none⟩, ⟨some 24, .faddr 1 0 0 (.t 23), none⟩, ⟨some 25, .load 17 false 1 (.t 24), none⟩, ⟨some 26, .mov (.t 1), none⟩, ⟨some 27, .iaddr 17 2 (.t 25) (.t 26), none⟩, ⟨some 28, .load 43 true 2 (.t 27), none⟩, ⟨none, .store 43 2 (.t 4) (.t 28), none⟩] false [4])
    (.ret)
def F_valid_checker_typ_p4 : ACode :=
  .seq (.seq (.reg 0 [⟨some 5, .mov (.t 1), none⟩, ⟨some 6, .bin .lss .other 27 (.t 5) (.c (.int .i64 0)), none⟩, ⟨some 7, .mov (.t 6), none⟩, ⟨some 8, .mov (.t 1), some (2, 7, false)⟩, ⟨some 9, .mov (.t 0), some (2, 7, false)⟩, ⟨some 10, .nilchk (.t 9), some (2, 7, false)⟩, ⟨some 11, .faddr 46 0 0 (.t 10), some (2, 7, false)⟩, ⟨some 12, .faddr 1 0 0 (.t 11), some (2, 7, false)⟩, ⟨some 13, .load 17 false 1 (.t 12), some (2, 7, false)⟩, ⟨some 14, .len 17 (.t 13), some (2, 7, false)⟩, ⟨some 15, .bin .geq .other 27 (.t 8) (.t 14), some (2, 7, false)⟩, ⟨some 16, .pick (.t 7) (.c (.bool true)) (.t 15), none⟩] false [0, 1, 4, 16])
    (F_valid_checker_typ_p2))
   (F_valid_checker_typ_p3)
def F_valid_checker_typ_p5 : ACode :=
  .seq (.reg 1 [⟨some 4, .alloc 0 43 [.nils, .int .u8 0], none⟩] false [0, 1, 4])
  (F_valid_checker_typ_p4)
def F_valid_checker_typ : AFun := { nt := 29, res := [.cell 4 43 true 2], code := (F_valid_checker_typ_p5) }

/-- (*mandrel/valid.checker).local -/
def F_valid_checker_local_p1 : ACode :=
  .cond (.t 15) (.seq (.reg 0 [⟨some 16, .mov (.t 0), none⟩, ⟨some 17, .nilchk (.t 16), none⟩, ⟨some 18, .faddr 46 7 15 (.t 17), none⟩, ⟨none, .store 12 1 (.t 18) (.c (.bool true)), none⟩] false [])
      (.seq (.reg 0 [⟨some 4, .asg (.c (.int .u8 1)), none⟩] false [4])
       (.ret))) (.skip)
def F_valid_checker_local_p2 : ACode :=
  .seq (.reg 0 [⟨some 19, .mov (.t 0), none⟩, ⟨some 20, .nilchk (.t 19), none⟩, ⟨some 21, .faddr 46 2 10 (.t 20), none⟩, ⟨some 22, .load 50 false 1 (.t 21), none⟩, ⟨some 23, .mov (.t 1), none⟩, ⟨some 24, .iaddr 50 1 (.t 22) (.t 23), none⟩, ⟨some 25, .load 51 false 1 (.t 24), none⟩, ⟨some 4, .asg (.t 25), none⟩] false [4])
    (.ret)
def F_valid_checker_local_p3 : ACode :=
  .seq (.seq (.reg 0 [⟨some 5, .mov (.t 1), none⟩, ⟨some 6, .bin .lss .other 27 (.t 5) (.c (.int .i64 0)), none⟩, ⟨some 7, .mov (.t 6), none⟩, ⟨some 8, .mov (.t 1), some (2, 7, false)⟩, ⟨some 9, .mov (.t 0), some (2, 7, false)⟩, ⟨some 10, .nilchk (.t 9), some (2, 7, false)⟩, ⟨some 11, .faddr 46 2 10 (.t 10), some (2, 7, false)⟩, ⟨some 12, .load 50 false 1 (.t 11), some (2, 7, false)⟩, ⟨some 13, .len 50 (.t 12), some (2, 7, false)⟩, ⟨some 14, .bin .geq .other 27 (.t 8) (.t 13), some (2, 7, false)⟩, ⟨some 15, .pick (.t 7) (.c (.bool true)) (.t 14), none⟩] false [0, 1, 15])
    (F_valid_checker_local_p1))
   (F_valid_checker_local_p2)
def F_valid_checker_local_p4 : ACode :=
  .seq (.reg 0 [⟨some 4, .asg (.c (.int .u8 0)), none⟩] false [0, 1])
  (F_valid_checker_local_p3)
def F_valid_checker_local : AFun := { nt := 26, res := [.t 4], code := (F_valid_checker_local_p4) }

/-- (*mandrel/valid.checker).global -/
def F_valid_checker_global_p1 : ACode :=
  .seq (.reg 0 [⟨some 20, .build 21 [.int .u8 0, .bool false, .int .u8 0, .int .i64 0, .int .u32 0, .int .u32 0, .int .u8 0, .nils, .nils, .nils] [(0, 0, 1, .c (.int .u8 1)), (1, 1, 1, .c (.bool true))], none⟩, ⟨none, .store 21 10 (.t 4) (.t 20), none⟩] false [4])
       (.ret)
def F_valid_checker_global_p2 : ACode :=
  .cond (.t 16) (.seq (.reg 0 [⟨some 17, .mov (.t 0), none⟩, ⟨some 18, .nilchk (.t 17), none⟩, ⟨some 19, .faddr 46 7 15 (.t 18), none⟩, ⟨none, .store 12 1 (.t 19) (.c (.bool true)), none⟩] false [4])
      (F_valid_checker_global_p1)) (.skip)
def F_valid_checker_global_p3 : ACode :=
  .seq (.reg 0 [⟨some 21, .mov (.t 0), none⟩, ⟨some 22, .nilchk (.t 21), none⟩, ⟨some 23, .faddr 46 0 0 (.t 22), none⟩, ⟨some 24, .faddr 1 4 4 (.t 23), none⟩, ⟨some 25, .load 20 false 1 (.t 24), none⟩, ⟨some 26, .mov (.t 1), none⟩, ⟨some 27, .iaddr 20 10 (.t 25) (.t 26), none⟩, ⟨some 28, .load 21 true 10 (.t 27), none⟩, ⟨none, .store 21 10 (.t 4) (.t 28), none⟩] false [4])
    (.ret)
def F_valid_checker_global_p4 : ACode :=
  .seq (.seq (.reg 0 [⟨some 5, .mov (.t 1), none⟩, ⟨some 6, .bin .lss .other 27 (.t 5) (.c (.int .i64 0)), none⟩, ⟨some 7, .mov (.t 6), none⟩, ⟨some 8, .mov (.t 1), some (2, 7, false)⟩, ⟨some 9, .mov (.t 0), some (2, 7, false)⟩, ⟨some 10, .nilchk (.t 9), some (2, 7, false)⟩, ⟨some 11, .faddr 46 0 0 (.t 10), some (2, 7, false)⟩, ⟨some 12, .faddr 1 4 4 (.t 11), some (2, 7, false)⟩, ⟨some 13, .load 20 false 1 (.t 12), some (2, 7, false)⟩, ⟨some 14, .len 20 (.t 13), some (2, 7, false)⟩, ⟨some 15, .bin .geq .other 27 (.t 8) (.t 14), some (2, 7, false)⟩, ⟨some 16, .pick (.t 7) (.c (.bool true)) (.t 15), none⟩] false [0, 1, 4, 16])
    (F_valid_checker_global_p2))
   (F_valid_checker_global_p3)
def F_valid_checker_global_p5 : ACode :=
  .seq (.reg 1 [⟨some 4, .alloc 0 21 [.int .u8 0, .bool false, .int .u8 0, .int .i64 0, .int .u32 0, .int .u32 0, .int .u8 0, .nils, .nils, .nils], none⟩] false [0, 1, 4])
  (F_valid_checker_global_p4)
def F_valid_checker_global : AFun := { nt := 29, res := [.cell 4 21 true 10], code := (F_valid_checker_global_p5) }

/-- (*mandrel/valid.checker).plain -/
def F_valid_checker_plain_p1 : ACode :=
  .cond (.t 18) (.seq (.reg 0 [⟨some 19, .mov (.t 0), none⟩, ⟨some 20, .nilchk (.t 19), none⟩, ⟨some 21, .faddr 46 7 15 (.t 20), none⟩, ⟨none, .store 12 1 (.t 21) (.c (.bool true)), none⟩] false [])
       (.ret)) (.skip)
def F_valid_checker_plain_p2 : ACode :=
  .cond (.t 30) (.reg 0 [⟨some 31, .mov (.t 0), none⟩, ⟨some 32, .mov (.t 0), none⟩, ⟨some 33, .nilchk (.t 32), none⟩, ⟨some 34, .faddr 46 7 15 (.t 33), none⟩, ⟨some 35, .load 12 false 1 (.t 34), none⟩, ⟨some 36, .mov (.t 35), none⟩, ⟨some 37, .faddr 3 2 2 (.t 3), some (5, 36, false)⟩, ⟨some 38, .load 13 false 1 (.t 37), some (5, 36, false)⟩, ⟨some 39, .bin .gtr .other 13 (.t 38) (.c (.int .u32 3)), some (5, 36, false)⟩, ⟨some 40, .pick (.t 36) (.c (.bool true)) (.t 39), none⟩, ⟨some 41, .mov (.t 40), none⟩, ⟨some 42, .faddr 3 2 2 (.t 3), some (10, 41, false)⟩, ⟨some 43, .load 13 false 1 (.t 42), some (10, 41, false)⟩, ⟨some 44, .bin .shl .other 2 (.c (.int .i64 1)) (.t 43), some (10, 41, false)⟩, ⟨some 45, .mov (.t 6), some (10, 41, false)⟩, ⟨some 46, .bin .gtr .other 2 (.t 44) (.t 45), some (10, 41, false)⟩, ⟨some 47, .pick (.t 41) (.c (.bool true)) (.t 46), none⟩, ⟨some 48, .nilchk (.t 31), none⟩, ⟨some 49, .faddr 46 7 15 (.t 48), none⟩, ⟨none, .store 12 1 (.t 49) (.t 47), none⟩] false [0, 3, 4]) (.skip)
def F_valid_checker_plain_p3 : ACode :=
  .seq (.reg 0 [⟨some 29, .mov (.t 8), none⟩, ⟨some 30, .bin .eql .iface 8 (.t 29) (.c .nili), none⟩] false [0, 3, 4, 6, 30])
       (F_valid_checker_plain_p2)
def F_valid_checker_plain_p4 : ACode :=
  .cond (.t 88) (.reg 0 [⟨some 89, .mov (.t 0), none⟩, ⟨some 90, .nilchk (.t 89), none⟩, ⟨some 91, .faddr 46 7 15 (.t 90), none⟩, ⟨none, .store 12 1 (.t 91) (.c (.bool true)), none⟩] false [0, 4]) (.skip)
def F_valid_checker_plain_p5 : ACode :=
  .reg 0 [⟨some 92, .mov (.t 0), none⟩, ⟨some 93, .load 43 true 2 (.t 4), none⟩, ⟨some 94, .calls 75 [.t 92, .t 93], none⟩] false []
def F_valid_checker_plain_p6 : ACode :=
  .seq (.seq (.reg 0 [⟨some 62, .mov (.t 5), none⟩, ⟨some 63, .bin .neq .iface 8 (.t 62) (.c .nili), none⟩, ⟨some 64, .mov (.t 63), none⟩, ⟨some 65, .mov (.t 10), some (2, 64, false)⟩, ⟨some 66, .mov (.t 65), some (2, 64, false)⟩, ⟨some 67, .mov (.t 0), some (4, 66, true)⟩, ⟨some 68, .nilchk (.t 67), some (4, 66, true)⟩, ⟨some 69, .faddr 46 0 0 (.t 68), some (4, 66, true)⟩, ⟨some 70, .faddr 1 3 3 (.t 69), some (4, 66, true)⟩, ⟨some 71, .load 18 false 1 (.t 70), some (4, 66, true)⟩, ⟨some 72, .len 18 (.t 71), some (4, 66, true)⟩, ⟨some 73, .bin .eql .other 2 (.t 72) (.c (.int .i64 0)), some (4, 66, true)⟩, ⟨some 74, .pick (.t 66) (.t 73) (.c (.bool false)), some (2, 64, false)⟩, ⟨some 75, .pick (.t 64) (.c (.bool true)) (.t 74), none⟩, ⟨some 76, .mov (.t 75), none⟩, ⟨some 77, .mov (.t 9), some (14, 76, false)⟩, ⟨some 78, .bin .eql .other 2 (.t 77) (.c (.int .i64 1)), some (14, 76, false)⟩, ⟨some 79, .mov (.t 78), some (14, 76, false)⟩, ⟨some 80, .faddr 3 1 1 (.t 3), some (17, 79, true)⟩, ⟨some 81, .load 27 false 1 (.t 80), some (17, 79, true)⟩, ⟨some 82, .faddr 3 1 1 (.t 3), some (17, 79, true)⟩, ⟨some 83, .load 27 false 1 (.t 82), some (17, 79, true)⟩, ⟨some 84, .convi .i32 27 58 (.t 83), some (17, 79, true)⟩, ⟨some 85, .convi .i64 58 27 (.t 84), some (17, 79, true)⟩, ⟨some 86, .bin .neq .other 27 (.t 81) (.t 85), some (17, 79, true)⟩, ⟨some 87, .pick (.t 79) (.t 86) (.c (.bool false)), some (14, 76, false)⟩, ⟨some 88, .pick (.t 76) (.c (.bool true)) (.t 87), none⟩] false [0, 4, 88])
         (F_valid_checker_plain_p4))
        (F_valid_checker_plain_p5)
def F_valid_checker_plain_p7 : ACode :=
  .seq (.reg 0 [⟨some 56, .mov (.t 9), none⟩, ⟨some 57, .bin .eql .other 2 (.t 56) (.c (.int .i64 4)), none⟩, ⟨some 58, .mov (.t 57), none⟩, ⟨some 59, .mov (.t 9), some (2, 58, false)⟩, ⟨some 60, .bin .eql .other 2 (.t 59) (.c (.int .i64 5)), some (2, 58, false)⟩, ⟨some 61, .pick (.t 58) (.c (.bool true)) (.t 60), none⟩, ⟨some 10, .asg (.t 61), none⟩] false [0, 3, 4, 5, 9, 10])
       (F_valid_checker_plain_p6)
def F_valid_checker_plain_p8 : ACode :=
  .seq (.reg 0 [⟨some 51, .faddr 3 0 0 (.t 3), none⟩, ⟨some 52, .load 7 false 1 (.t 51), none⟩, ⟨some 53, .callp 87 [.t 52], none⟩, ⟨some 50, .mov (.t 53), none⟩, ⟨some 54, .ext (.t 50) 0, none⟩, ⟨some 55, .ext (.t 50) 1, none⟩, ⟨some 9, .asg (.t 54), none⟩, ⟨some 5, .asg (.t 55), none⟩] false [0, 3, 4, 5, 9])
      (F_valid_checker_plain_p7)
def F_valid_checker_plain_p9 : ACode :=
  .seq (.seq (.reg 0 [⟨some 23, .faddr 3 0 0 (.t 3), none⟩, ⟨some 24, .load 7 false 1 (.t 23), none⟩, ⟨some 25, .callp 86 [.t 24], none⟩, ⟨some 22, .mov (.t 25), none⟩, ⟨some 26, .ext (.t 22) 0, none⟩, ⟨some 27, .ext (.t 22) 1, none⟩, ⟨some 28, .ext (.t 22) 2, none⟩, ⟨some 6, .asg (.t 26), none⟩, ⟨some 7, .asg (.t 27), none⟩, ⟨some 8, .asg (.t 28), none⟩] false [0, 3, 4, 6, 8])
      (F_valid_checker_plain_p3))
     (F_valid_checker_plain_p8)
def F_valid_checker_plain_p10 : ACode :=
  .seq (.seq (.reg 0 [⟨some 17, .mov (.t 5), none⟩, ⟨some 18, .bin .neq .iface 8 (.t 17) (.c .nili), none⟩] false [0, 3, 4, 18])
     (F_valid_checker_plain_p1))
    (F_valid_checker_plain_p9)
def F_valid_checker_plain_p11 : ACode :=
  .seq (.reg 1 [⟨some 12, .faddr 3 0 0 (.t 3), none⟩, ⟨some 13, .load 7 false 1 (.t 12), none⟩, ⟨some 14, .callp 85 [.t 13], none⟩, ⟨some 11, .mov (.t 14), none⟩, ⟨some 15, .ext (.t 11) 0, none⟩, ⟨some 16, .ext (.t 11) 1, none⟩, ⟨some 4, .alloc 0 43 [.nils, .int .u8 0], none⟩, ⟨none, .store 43 2 (.t 4) (.t 15), none⟩, ⟨some 5, .asg (.t 16), none⟩] false [0, 3, 4, 5])
   (F_valid_checker_plain_p10)
def F_valid_checker_plain_p12 : ACode :=
  .seq (.reg 1 [⟨some 3, .box 0 3 (.t 1), none⟩] false [0, 3])
  (F_valid_checker_plain_p11)
def F_valid_checker_plain : AFun := { nt := 95, res := [], code := (F_valid_checker_plain_p12) }

/-- mandrel/ops.Sign -/
def F_ops_Sign_p1 : ACode :=
  .cond (.t 39) (.seq (.reg 0 [⟨some 42, .mov (.t 4), none⟩, ⟨some 43, .callp 89 [.t 42], none⟩, ⟨some 44, .build 43 [.nils, .int .u8 0] [(1, 1, 1, .t 43)], none⟩, ⟨none, .store 43 2 (.t 2) (.t 44), none⟩, ⟨some 3, .asg (.c .nili), none⟩] false [2, 3])
                  (.ret)) (.skip)
def F_ops_Sign_p2 : ACode :=
  .cond (.t 34) (.seq (.reg 1 [⟨some 37, .bslice 0 50 [.int .u8 0] 1 [(0, .c (.int .u8 127))], none⟩, ⟨some 38, .build 43 [.nils, .int .u8 0] [(0, 0, 1, .t 37), (1, 1, 1, .c (.int .u8 127))], none⟩, ⟨none, .store 43 2 (.t 2) (.t 38), none⟩, ⟨some 3, .asg (.c .nili), none⟩] false [2, 3])
                (.ret)) (.seq (.reg 0 [⟨some 40, .mov (.t 0), none⟩, ⟨some 41, .bin .leq .other 7 (.t 40) (.c (.int .u8 66)), none⟩, ⟨some 39, .asg (.t 41), none⟩] false [2, 4, 39])
                (F_ops_Sign_p1))
def F_ops_Sign_p3 : ACode :=
  .cond (.t 30) (.seq (.reg 0 [⟨some 33, .build 43 [.nils, .int .u8 0] [(1, 1, 1, .c (.int .u8 127))], none⟩, ⟨none, .store 43 2 (.t 2) (.t 33), none⟩, ⟨some 3, .asg (.c .nili), none⟩] false [2, 3])
              (.ret)) (.seq (.reg 0 [⟨some 35, .mov (.t 0), none⟩, ⟨some 36, .bin .eql .other 7 (.t 35) (.c (.int .u8 64)), none⟩, ⟨some 34, .asg (.t 36), none⟩] false [0, 2, 4, 34])
              (F_ops_Sign_p2))
def F_ops_Sign_p4 : ACode :=
  .cond (.t 23) (.seq (.reg 1 [⟨some 26, .mov (.t 4), none⟩, ⟨some 27, .callp 89 [.t 26], none⟩, ⟨some 28, .bslice 0 50 [.int .u8 0] 2 [(0, .c (.int .u8 127)), (1, .t 27)], none⟩, ⟨some 29, .build 43 [.nils, .int .u8 0] [(0, 0, 1, .t 28)], none⟩, ⟨none, .store 43 2 (.t 2) (.t 29), none⟩, ⟨some 3, .asg (.c .nili), none⟩] false [2, 3])
            (.ret)) (.seq (.reg 0 [⟨some 31, .mov (.t 0), none⟩, ⟨some 32, .bin .eql .other 7 (.t 31) (.c (.int .u8 63)), none⟩, ⟨some 30, .asg (.t 32), none⟩] false [0, 2, 4, 30])
            (F_ops_Sign_p3))
def F_ops_Sign_p5 : ACode :=
  .cond (.t 16) (.seq (.reg 1 [⟨some 19, .bslice 0 50 [.int .u8 0] 1 [(0, .c (.int .u8 127))], none⟩, ⟨some 20, .mov (.t 4), none⟩, ⟨some 21, .callp 89 [.t 20], none⟩, ⟨some 22, .build 43 [.nils, .int .u8 0] [(0, 0, 1, .t 19), (1, 1, 1, .t 21)], none⟩, ⟨none, .store 43 2 (.t 2) (.t 22), none⟩, ⟨some 3, .asg (.c .nili), none⟩] false [2, 3])
          (.ret)) (.seq (.reg 0 [⟨some 24, .mov (.t 0), none⟩, ⟨some 25, .bin .leq .other 7 (.t 24) (.c (.int .u8 62)), none⟩, ⟨some 23, .asg (.t 25), none⟩] false [0, 2, 4, 23])
          (F_ops_Sign_p4))
def F_ops_Sign_p6 : ACode :=
  .cond (.t 7) (.seq (.reg 0 [⟨some 14, .build 43 [.nils, .int .u8 0] [], none⟩, ⟨some 15, .mkif 45 (.c (.int .i64 1)), none⟩, ⟨none, .store 43 2 (.t 2) (.t 14), none⟩, ⟨some 3, .asg (.t 15), none⟩] false [2, 3])
        (.ret)) (.seq (.reg 0 [⟨some 17, .mov (.t 0), none⟩, ⟨some 18, .bin .leq .other 7 (.t 17) (.c (.int .u8 53)), none⟩, ⟨some 16, .asg (.t 18), none⟩] false [0, 2, 4, 16])
        (F_ops_Sign_p5))
def F_ops_Sign_p7 : ACode :=
  .seq (.reg 0 [⟨some 45, .mov (.t 4), none⟩, ⟨some 46, .callp 90 [.t 45], none⟩, ⟨none, .store 43 2 (.t 2) (.t 46), none⟩, ⟨some 3, .asg (.c .nili), none⟩] false [2, 3])
     (.ret)
def F_ops_Sign_p8 : ACode :=
  .seq (.block 0 (.seq (.reg 0 [⟨some 8, .mov (.t 4), none⟩, ⟨some 9, .bin .eql .other 39 (.t 8) (.c (.str ⟨#[]⟩)), none⟩, ⟨some 10, .mov (.t 9), none⟩, ⟨some 11, .mov (.t 0), some (2, 10, false)⟩, ⟨some 12, .bin .lss .other 7 (.t 11) (.c (.int .u8 40)), some (2, 10, false)⟩, ⟨some 13, .pick (.t 10) (.c (.bool true)) (.t 12), none⟩, ⟨some 7, .asg (.t 13), none⟩] false [0, 2, 4, 7])
      (F_ops_Sign_p6)))
    (F_ops_Sign_p7)
def F_ops_Sign_p9 : ACode :=
  .seq (.reg 0 [⟨some 5, .mov (.t 0), none⟩, ⟨some 6, .callp 88 [.t 5], none⟩, ⟨some 4, .asg (.t 6), none⟩] false [0, 2, 4])
   (F_ops_Sign_p8)
def F_ops_Sign_p10 : ACode :=
  .seq (.reg 1 [⟨some 2, .alloc 0 43 [.nils, .int .u8 0], none⟩, ⟨some 3, .asg (.c .nili), none⟩] false [0, 2])
  (F_ops_Sign_p9)
def F_ops_Sign : AFun := { nt := 47, res := [.cell 2 43 true 2, .t 3], code := (F_ops_Sign_p10) }

end Go.Proofs.YtablleokoifolaaGreatDoor

/- Abstract code of functions, written by a program of this claim set (gen.py) out of the program's own print. -/
set_option linter.unusedVariables false
set_option maxRecDepth 100000
namespace Go.Proofs.YtablleokoifolaaGreatDoor
open Go

/-- mandrel/ops.Bytes -/
def F_ops_Bytes_p1 : ACode :=
  .cond (.t 19) (.seq (.reg 0 [⟨some 20, .mkif 45 (.c (.int .i64 1)), none⟩, ⟨some 2, .asg (.c (.int .i64 0)), none⟩, ⟨some 3, .asg (.c (.bool false)), none⟩, ⟨some 4, .asg (.t 20), none⟩] false [2, 3, 4])
       (.ret)) (.skip)
def F_ops_Bytes_p2 : ACode :=
  .cond (.t 36) (.seq (.reg 0 [⟨some 44, .mov (.t 7), none⟩, ⟨some 2, .asg (.c (.int .i64 4)), none⟩, ⟨some 3, .asg (.t 44), none⟩, ⟨some 4, .asg (.c .nili), none⟩] false [2, 3, 4])
               (.ret)) (.skip)
def F_ops_Bytes_p3 : ACode :=
  .cond (.t 32) (.seq (.reg 0 [⟨some 35, .mov (.t 7), none⟩, ⟨some 2, .asg (.c (.int .i64 2)), none⟩, ⟨some 3, .asg (.t 35), none⟩, ⟨some 4, .asg (.c .nili), none⟩] false [2, 3, 4])
             (.ret)) (.seq (.reg 0 [⟨some 37, .mov (.t 6), none⟩, ⟨some 38, .callp 93 [.t 37, .c (.str ⟨#[51, 50]⟩)], none⟩, ⟨some 39, .mov (.t 38), none⟩, ⟨some 40, .mov (.t 5), some (2, 39, false)⟩, ⟨some 41, .callp 89 [.t 40], some (2, 39, false)⟩, ⟨some 42, .bin .eql .other 51 (.t 41) (.c (.int .u8 127)), some (2, 39, false)⟩, ⟨some 43, .pick (.t 39) (.c (.bool true)) (.t 42), none⟩, ⟨some 36, .asg (.t 43), none⟩] false [7, 36])
             (F_ops_Bytes_p2))
def F_ops_Bytes_p4 : ACode :=
  .cond (.t 28) (.seq (.reg 0 [⟨some 31, .mov (.t 7), none⟩, ⟨some 2, .asg (.c (.int .i64 1)), none⟩, ⟨some 3, .asg (.t 31), none⟩, ⟨some 4, .asg (.c .nili), none⟩] false [2, 3, 4])
           (.ret)) (.seq (.reg 0 [⟨some 33, .mov (.t 6), none⟩, ⟨some 34, .callp 93 [.t 33, .c (.str ⟨#[49, 54]⟩)], none⟩, ⟨some 32, .asg (.t 34), none⟩] false [5, 6, 7, 32])
           (F_ops_Bytes_p3))
def F_ops_Bytes_p5 : ACode :=
  .seq (.reg 0 [⟨some 45, .mov (.t 7), none⟩, ⟨some 2, .asg (.c (.int .i64 8)), none⟩, ⟨some 3, .asg (.t 45), none⟩, ⟨some 4, .asg (.c .nili), none⟩] false [2, 3, 4])
        (.ret)
def F_ops_Bytes_p6 : ACode :=
  .seq (.block 0 (.seq (.reg 0 [⟨some 29, .mov (.t 6), none⟩, ⟨some 30, .callp 93 [.t 29, .c (.str ⟨#[56]⟩)], none⟩, ⟨some 28, .asg (.t 30), none⟩] false [5, 6, 7, 28])
         (F_ops_Bytes_p4)))
       (F_ops_Bytes_p5)
def F_ops_Bytes_p7 : ACode :=
  .seq (.reg 0 [⟨some 26, .mov (.t 6), none⟩, ⟨some 27, .callp 92 [.t 26, .c (.str ⟨#[95, 117]⟩)], none⟩, ⟨some 6, .asg (.t 27), none⟩] false [5, 6, 7])
      (F_ops_Bytes_p6)
def F_ops_Bytes_p8 : ACode :=
  .seq (.reg 0 [⟨some 22, .mov (.t 5), none⟩, ⟨some 23, .callp 91 [.t 22, .c (.str ⟨#[95, 115]⟩)], none⟩, ⟨some 21, .mov (.t 23), none⟩, ⟨some 24, .ext (.t 21) 0, none⟩, ⟨some 25, .ext (.t 21) 1, none⟩, ⟨some 6, .asg (.t 24), none⟩, ⟨some 7, .asg (.t 25), none⟩] false [5, 6, 7])
     (F_ops_Bytes_p7)
def F_ops_Bytes_p9 : ACode :=
  .seq (.seq (.reg 0 [⟨some 10, .mov (.t 5), none⟩, ⟨some 11, .bin .eql .other 39 (.t 10) (.c (.str ⟨#[]⟩)), none⟩, ⟨some 12, .mov (.t 11), none⟩, ⟨some 13, .mov (.t 0), some (2, 12, false)⟩, ⟨some 14, .bin .lss .other 7 (.t 13) (.c (.int .u8 40)), some (2, 12, false)⟩, ⟨some 15, .pick (.t 12) (.c (.bool true)) (.t 14), none⟩, ⟨some 16, .mov (.t 15), none⟩, ⟨some 17, .mov (.t 0), some (6, 16, false)⟩, ⟨some 18, .bin .gtr .other 7 (.t 17) (.c (.int .u8 62)), some (6, 16, false)⟩, ⟨some 19, .pick (.t 16) (.c (.bool true)) (.t 18), none⟩] false [5, 19])
     (F_ops_Bytes_p1))
    (F_ops_Bytes_p8)
def F_ops_Bytes_p10 : ACode :=
  .seq (.reg 0 [⟨some 8, .mov (.t 0), none⟩, ⟨some 9, .callp 88 [.t 8], none⟩, ⟨some 5, .asg (.t 9), none⟩] false [0, 5])
   (F_ops_Bytes_p9)
def F_ops_Bytes_p11 : ACode :=
  .seq (.reg 0 [⟨some 2, .asg (.c (.int .i64 0)), none⟩, ⟨some 3, .asg (.c (.bool false)), none⟩, ⟨some 4, .asg (.c .nili), none⟩] false [0])
  (F_ops_Bytes_p10)
def F_ops_Bytes : AFun := { nt := 46, res := [.t 2, .t 3, .t 4], code := (F_ops_Bytes_p11) }

/-- mandrel/ops.Form -/
def F_ops_Form_p1 : ACode :=
  .cond (.t 61) (.seq (.reg 0 [⟨some 2, .asg (.c (.int .i64 2)), none⟩, ⟨some 3, .asg (.c .nili), none⟩] false [2, 3])
                         (.ret)) (.skip)
def F_ops_Form_p2 : ACode :=
  .cond (.t 58) (.seq (.reg 0 [⟨some 2, .asg (.c (.int .i64 1)), none⟩, ⟨some 3, .asg (.c .nili), none⟩] false [2, 3])
                       (.ret)) (.seq (.reg 0 [⟨some 62, .mov (.t 0), none⟩, ⟨some 63, .bin .eql .other 7 (.t 62) (.c (.int .u8 66)), none⟩, ⟨some 61, .asg (.t 63), none⟩] false [61])
                       (F_ops_Form_p1))
def F_ops_Form_p3 : ACode :=
  .cond (.t 51) (.seq (.reg 0 [⟨some 2, .asg (.c (.int .i64 5)), none⟩, ⟨some 3, .asg (.c .nili), none⟩] false [2, 3])
                     (.ret)) (.seq (.reg 0 [⟨some 59, .mov (.t 0), none⟩, ⟨some 60, .bin .eql .other 7 (.t 59) (.c (.int .u8 65)), none⟩, ⟨some 58, .asg (.t 60), none⟩] false [0, 58])
                     (F_ops_Form_p2))
def F_ops_Form_p4 : ACode :=
  .cond (.t 44) (.seq (.reg 0 [⟨some 2, .asg (.c (.int .i64 4)), none⟩, ⟨some 3, .asg (.c .nili), none⟩] false [2, 3])
                   (.ret)) (.seq (.reg 0 [⟨some 52, .mov (.t 0), none⟩, ⟨some 53, .bin .eql .other 7 (.t 52) (.c (.int .u8 63)), none⟩, ⟨some 54, .mov (.t 53), none⟩, ⟨some 55, .mov (.t 0), some (2, 54, false)⟩, ⟨some 56, .bin .eql .other 7 (.t 55) (.c (.int .u8 64)), some (2, 54, false)⟩, ⟨some 57, .pick (.t 54) (.c (.bool true)) (.t 56), none⟩, ⟨some 51, .asg (.t 57), none⟩] false [0, 51])
                   (F_ops_Form_p3))
def F_ops_Form_p5 : ACode :=
  .cond (.t 25) (.seq (.reg 0 [⟨some 2, .asg (.c (.int .i64 3)), none⟩, ⟨some 3, .asg (.c .nili), none⟩] false [2, 3])
                 (.ret)) (.seq (.reg 0 [⟨some 45, .mov (.t 0), none⟩, ⟨some 46, .bin .geq .other 7 (.t 45) (.c (.int .u8 40)), none⟩, ⟨some 47, .mov (.t 46), none⟩, ⟨some 48, .mov (.t 0), some (2, 47, true)⟩, ⟨some 49, .bin .leq .other 7 (.t 48) (.c (.int .u8 62)), some (2, 47, true)⟩, ⟨some 50, .pick (.t 47) (.t 49) (.c (.bool false)), none⟩, ⟨some 44, .asg (.t 50), none⟩] false [0, 44])
                 (F_ops_Form_p4))
def F_ops_Form_p6 : ACode :=
  .cond (.t 22) (.seq (.reg 0 [⟨some 2, .asg (.c (.int .i64 9)), none⟩, ⟨some 3, .asg (.c .nili), none⟩] false [2, 3])
               (.ret)) (.seq (.reg 0 [⟨some 26, .mov (.t 0), none⟩, ⟨some 27, .bin .eql .other 7 (.t 26) (.c (.int .u8 12)), none⟩, ⟨some 28, .mov (.t 27), none⟩, ⟨some 29, .mov (.t 0), some (2, 28, false)⟩, ⟨some 30, .bin .eql .other 7 (.t 29) (.c (.int .u8 13)), some (2, 28, false)⟩, ⟨some 31, .pick (.t 28) (.c (.bool true)) (.t 30), none⟩, ⟨some 32, .mov (.t 31), none⟩, ⟨some 33, .mov (.t 0), some (6, 32, false)⟩, ⟨some 34, .bin .eql .other 7 (.t 33) (.c (.int .u8 16)), some (6, 32, false)⟩, ⟨some 35, .pick (.t 32) (.c (.bool true)) (.t 34), none⟩, ⟨some 36, .mov (.t 35), none⟩, ⟨some 37, .mov (.t 0), some (10, 36, false)⟩, ⟨some 38, .bin .geq .other 7 (.t 37) (.c (.int .u8 32)), some (10, 36, false)⟩, ⟨some 39, .mov (.t 38), some (10, 36, false)⟩, ⟨some 40, .mov (.t 0), some (13, 39, true)⟩, ⟨some 41, .bin .leq .other 7 (.t 40) (.c (.int .u8 36)), some (13, 39, true)⟩, ⟨some 42, .pick (.t 39) (.t 41) (.c (.bool false)), some (10, 36, false)⟩, ⟨some 43, .pick (.t 36) (.c (.bool true)) (.t 42), none⟩, ⟨some 25, .asg (.t 43), none⟩] false [0, 25])
               (F_ops_Form_p5))
def F_ops_Form_p7 : ACode :=
  .cond (.t 19) (.seq (.reg 0 [⟨some 2, .asg (.c (.int .i64 8)), none⟩, ⟨some 3, .asg (.c .nili), none⟩] false [2, 3])
             (.ret)) (.seq (.reg 0 [⟨some 23, .mov (.t 0), none⟩, ⟨some 24, .bin .eql .other 7 (.t 23) (.c (.int .u8 17)), none⟩, ⟨some 22, .asg (.t 24), none⟩] false [0, 22])
             (F_ops_Form_p6))
def F_ops_Form_p8 : ACode :=
  .cond (.t 16) (.seq (.reg 0 [⟨some 2, .asg (.c (.int .i64 7)), none⟩, ⟨some 3, .asg (.c .nili), none⟩] false [2, 3])
           (.ret)) (.seq (.reg 0 [⟨some 20, .mov (.t 0), none⟩, ⟨some 21, .bin .eql .other 7 (.t 20) (.c (.int .u8 14)), none⟩, ⟨some 19, .asg (.t 21), none⟩] false [0, 19])
           (F_ops_Form_p7))
def F_ops_Form_p9 : ACode :=
  .cond (.t 9) (.seq (.reg 0 [⟨some 2, .asg (.c (.int .i64 6)), none⟩, ⟨some 3, .asg (.c .nili), none⟩] false [2, 3])
         (.ret)) (.seq (.reg 0 [⟨some 17, .mov (.t 0), none⟩, ⟨some 18, .bin .eql .other 7 (.t 17) (.c (.int .u8 4)), none⟩, ⟨some 16, .asg (.t 18), none⟩] false [0, 16])
         (F_ops_Form_p8))
def F_ops_Form_p10 : ACode :=
  .cond (.t 4) (.seq (.reg 0 [⟨some 8, .mkif 45 (.c (.int .i64 1)), none⟩, ⟨some 2, .asg (.c (.int .i64 0)), none⟩, ⟨some 3, .asg (.t 8), none⟩] false [2, 3])
       (.ret)) (.seq (.reg 0 [⟨some 10, .mov (.t 0), none⟩, ⟨some 11, .bin .eql .other 7 (.t 10) (.c (.int .u8 2)), none⟩, ⟨some 12, .mov (.t 11), none⟩, ⟨some 13, .mov (.t 0), some (2, 12, false)⟩, ⟨some 14, .bin .eql .other 7 (.t 13) (.c (.int .u8 3)), some (2, 12, false)⟩, ⟨some 15, .pick (.t 12) (.c (.bool true)) (.t 14), none⟩, ⟨some 9, .asg (.t 15), none⟩] false [0, 9])
       (F_ops_Form_p9))
def F_ops_Form_p11 : ACode :=
  .seq (.reg 0 [⟨some 2, .asg (.c (.int .i64 0)), none⟩, ⟨some 3, .asg (.c .nili), none⟩] false [2, 3])
    (.ret)
def F_ops_Form_p12 : ACode :=
  .seq (.block 0 (.seq (.reg 0 [⟨some 5, .mov (.t 0), none⟩, ⟨some 6, .callp 88 [.t 5], none⟩, ⟨some 7, .bin .eql .other 39 (.t 6) (.c (.str ⟨#[]⟩)), none⟩, ⟨some 4, .asg (.t 7), none⟩] false [0, 4])
     (F_ops_Form_p10)))
   (F_ops_Form_p11)
def F_ops_Form_p13 : ACode :=
  .seq (.reg 0 [⟨some 2, .asg (.c (.int .i64 0)), none⟩, ⟨some 3, .asg (.c .nili), none⟩] false [0])
  (F_ops_Form_p12)
def F_ops_Form : AFun := { nt := 64, res := [.t 2, .t 3], code := (F_ops_Form_p13) }

/-- mandrel/ops.Name -/
def F_ops_Name_p1 : ACode :=
  .cond (.t 7) (.seq (.reg 0 [⟨some 2, .asg (.c (.str ⟨#[]⟩)), none⟩] false [2])
      (.ret)) (.skip)
def F_ops_Name_p2 : ACode :=
  .seq (.reg 0 [⟨some 8, .callp 96 [], none⟩, ⟨some 9, .mov (.t 0), none⟩, ⟨some 10, .idxA 62 174 false 1 (.t 8) (.t 9), none⟩, ⟨some 2, .asg (.t 10), none⟩] false [2])
    (.ret)
def F_ops_Name_p3 : ACode :=
  .seq (.seq (.reg 0 [⟨some 3, .mov (.t 0), none⟩, ⟨some 4, .convi .i64 7 2 (.t 3), none⟩, ⟨some 5, .callp 96 [], none⟩, ⟨some 6, .mov (.c (.int .i64 174)), none⟩, ⟨some 7, .bin .geq .other 2 (.t 4) (.t 6), none⟩] false [0, 7])
    (F_ops_Name_p1))
   (F_ops_Name_p2)
def F_ops_Name_p4 : ACode :=
  .seq (.reg 0 [⟨some 2, .asg (.c (.str ⟨#[]⟩)), none⟩] false [0])
  (F_ops_Name_p3)
def F_ops_Name : AFun := { nt := 11, res := [.t 2], code := (F_ops_Name_p4) }

/-- mandrel/ops.own -/
def F_ops_own_p1 : ACode :=
  .cond (.t 4) (.seq (.reg 0 [⟨some 2, .asg (.c (.int .u8 126)), none⟩] false [2])
      (.ret)) (.skip)
def F_ops_own_p2 : ACode :=
  .seq (.seq (.reg 0 [⟨some 3, .mov (.t 0), none⟩, ⟨some 4, .callp 97 [.t 3, .c (.str ⟨#[105, 54, 52, 46]⟩)], none⟩] false [4])
    (F_ops_own_p1))
   (.seq (.reg 0 [⟨some 2, .asg (.c (.int .u8 127)), none⟩] false [2])
    (.ret))
def F_ops_own_p3 : ACode :=
  .seq (.reg 0 [⟨some 2, .asg (.c (.int .u8 0)), none⟩] false [0])
  (F_ops_own_p2)
def F_ops_own : AFun := { nt := 5, res := [.t 2], code := (F_ops_own_p3) }

/-- mandrel/ops.reckoned -/
def F_ops_reckoned_p1 : ACode :=
  .cond (.t 48) (.seq (.reg 1 [⟨some 54, .mov (.t 3), none⟩, ⟨some 55, .mov (.t 3), none⟩, ⟨some 56, .bslice 0 50 [.int .u8 0] 2 [(0, .t 54), (1, .t 55)], none⟩, ⟨some 57, .build 43 [.nils, .int .u8 0] [(0, 0, 1, .t 56), (1, 1, 1, .c (.int .u8 127))], none⟩, ⟨none, .store 43 2 (.t 2) (.t 57), none⟩] false [2])
                 (.ret)) (.skip)
def F_ops_reckoned_p2 : ACode :=
  .cond (.t 33) (.seq (.reg 1 [⟨some 44, .mov (.t 3), none⟩, ⟨some 45, .bslice 0 50 [.int .u8 0] 1 [(0, .t 44)], none⟩, ⟨some 46, .mov (.t 3), none⟩, ⟨some 47, .build 43 [.nils, .int .u8 0] [(0, 0, 1, .t 45), (1, 1, 1, .t 46)], none⟩, ⟨none, .store 43 2 (.t 2) (.t 47), none⟩] false [2])
               (.ret)) (.seq (.reg 0 [⟨some 49, .mov (.t 5), none⟩, ⟨some 50, .slcS 39 (.t 49) none (some (.c (.int .i64 2))), none⟩, ⟨some 51, .bin .add .other 39 (.c (.str ⟨#[32]⟩)) (.t 50), none⟩, ⟨some 52, .bin .add .other 39 (.t 51) (.c (.str ⟨#[32]⟩)), none⟩, ⟨some 53, .callp 99 [.c (.str ⟨#[32, 101, 113, 32, 110, 101, 32, 108, 116, 32, 103, 116, 32, 108, 101, 32, 103, 101, 32]⟩), .t 52], none⟩, ⟨some 48, .asg (.t 53), none⟩] false [2, 3, 48])
               (F_ops_reckoned_p1))
def F_ops_reckoned_p3 : ACode :=
  .cond (.t 27) (.seq (.reg 1 [⟨some 30, .mov (.t 3), none⟩, ⟨some 31, .bslice 0 50 [.int .u8 0] 1 [(0, .t 30)], none⟩, ⟨some 32, .build 43 [.nils, .int .u8 0] [(0, 0, 1, .t 31), (1, 1, 1, .c (.int .u8 127))], none⟩, ⟨none, .store 43 2 (.t 2) (.t 32), none⟩] false [2])
             (.ret)) (.seq (.reg 0 [⟨some 34, .mov (.t 5), none⟩, ⟨some 35, .bin .eql .other 39 (.t 34) (.c (.str ⟨#[99, 108, 122]⟩)), none⟩, ⟨some 36, .mov (.t 35), none⟩, ⟨some 37, .mov (.t 5), some (2, 36, false)⟩, ⟨some 38, .bin .eql .other 39 (.t 37) (.c (.str ⟨#[99, 116, 122]⟩)), some (2, 36, false)⟩, ⟨some 39, .pick (.t 36) (.c (.bool true)) (.t 38), none⟩, ⟨some 40, .mov (.t 39), none⟩, ⟨some 41, .mov (.t 5), some (6, 40, false)⟩, ⟨some 42, .bin .eql .other 39 (.t 41) (.c (.str ⟨#[112, 111, 112, 99, 110, 116]⟩)), some (6, 40, false)⟩, ⟨some 43, .pick (.t 40) (.c (.bool true)) (.t 42), none⟩, ⟨some 33, .asg (.t 43), none⟩] false [2, 3, 5, 33])
             (F_ops_reckoned_p2))
def F_ops_reckoned_p4 : ACode :=
  .cond (.t 21) (.seq (.reg 1 [⟨some 24, .bslice 0 50 [.int .u8 0] 1 [(0, .c (.int .u8 127))], none⟩, ⟨some 25, .mov (.t 3), none⟩, ⟨some 26, .build 43 [.nils, .int .u8 0] [(0, 0, 1, .t 24), (1, 1, 1, .t 25)], none⟩, ⟨none, .store 43 2 (.t 2) (.t 26), none⟩] false [2])
           (.ret)) (.seq (.reg 0 [⟨some 28, .mov (.t 5), none⟩, ⟨some 29, .bin .eql .other 39 (.t 28) (.c (.str ⟨#[101, 113, 122]⟩)), none⟩, ⟨some 27, .asg (.t 29), none⟩] false [2, 3, 5, 27])
           (F_ops_reckoned_p3))
def F_ops_reckoned_p5 : ACode :=
  .cond (.t 15) (.seq (.reg 1 [⟨some 18, .bslice 0 50 [.int .u8 0] 1 [(0, .c (.int .u8 126))], none⟩, ⟨some 19, .mov (.t 3), none⟩, ⟨some 20, .build 43 [.nils, .int .u8 0] [(0, 0, 1, .t 18), (1, 1, 1, .t 19)], none⟩, ⟨none, .store 43 2 (.t 2) (.t 20), none⟩] false [2])
         (.ret)) (.seq (.reg 0 [⟨some 22, .mov (.t 5), none⟩, ⟨some 23, .callp 99 [.t 22, .c (.str ⟨#[101, 120, 116, 101, 110, 100]⟩)], none⟩, ⟨some 21, .asg (.t 23), none⟩] false [2, 3, 5, 21])
         (F_ops_reckoned_p4))
def F_ops_reckoned_p6 : ACode :=
  .seq (.reg 1 [⟨some 58, .mov (.t 3), none⟩, ⟨some 59, .mov (.t 3), none⟩, ⟨some 60, .bslice 0 50 [.int .u8 0] 2 [(0, .t 58), (1, .t 59)], none⟩, ⟨some 61, .mov (.t 3), none⟩, ⟨some 62, .build 43 [.nils, .int .u8 0] [(0, 0, 1, .t 60), (1, 1, 1, .t 61)], none⟩, ⟨none, .store 43 2 (.t 2) (.t 62), none⟩] false [2])
      (.ret)
def F_ops_reckoned_p7 : ACode :=
  .seq (.block 0 (.seq (.reg 0 [⟨some 16, .mov (.t 0), none⟩, ⟨some 17, .callp 93 [.t 16, .c (.str ⟨#[95, 105, 54, 52]⟩)], none⟩, ⟨some 15, .asg (.t 17), none⟩] false [2, 3, 5, 15])
       (F_ops_reckoned_p5)))
     (F_ops_reckoned_p6)
def F_ops_reckoned_p8 : ACode :=
  .seq (.reg 0 [⟨some 10, .mov (.t 0), none⟩, ⟨some 11, .callp 98 [.t 10, .c (.str ⟨#[46]⟩)], none⟩, ⟨some 9, .mov (.t 11), none⟩, ⟨some 12, .ext (.t 9) 0, none⟩, ⟨some 13, .ext (.t 9) 1, none⟩, ⟨some 14, .ext (.t 9) 2, none⟩, ⟨some 4, .asg (.t 12), none⟩, ⟨some 5, .asg (.t 13), none⟩, ⟨some 6, .asg (.t 14), none⟩] false [0, 2, 3, 5])
    (F_ops_reckoned_p7)
def F_ops_reckoned_p9 : ACode :=
  .seq (.reg 0 [⟨some 7, .mov (.t 0), none⟩, ⟨some 8, .callp 89 [.t 7], none⟩, ⟨some 3, .asg (.t 8), none⟩] false [0, 2, 3])
   (F_ops_reckoned_p8)
def F_ops_reckoned_p10 : ACode :=
  .seq (.reg 1 [⟨some 2, .alloc 0 43 [.nils, .int .u8 0], none⟩] false [0, 2])
  (F_ops_reckoned_p9)
def F_ops_reckoned : AFun := { nt := 63, res := [.cell 2 43 true 2], code := (F_ops_reckoned_p10) }

/-- strings.CutSuffix -/
def F_strings_CutSuffix_p1 : ACode :=
  .seq (.reg 0 [⟨some 6, .mov (.t 0), none⟩, ⟨some 7, .mov (.t 1), none⟩, ⟨some 8, .callp 100 [.t 6, .t 7], none⟩, ⟨some 9, .ext (.t 8) 0, none⟩, ⟨some 10, .ext (.t 8) 1, none⟩, ⟨some 4, .asg (.t 9), none⟩, ⟨some 5, .asg (.t 10), none⟩] false [4, 5])
   (.ret)
def F_strings_CutSuffix_p2 : ACode :=
  .seq (.reg 0 [⟨some 4, .asg (.c (.str ⟨#[]⟩)), none⟩, ⟨some 5, .asg (.c (.bool false)), none⟩] false [0, 1])
  (F_strings_CutSuffix_p1)
def F_strings_CutSuffix : AFun := { nt := 11, res := [.t 4, .t 5], code := (F_strings_CutSuffix_p2) }

/-- strings.TrimSuffix -/
def F_strings_TrimSuffix_p1 : ACode :=
  .seq (.reg 0 [⟨some 5, .mov (.t 0), none⟩, ⟨some 6, .mov (.t 1), none⟩, ⟨some 7, .callp 101 [.t 5, .t 6], none⟩, ⟨some 4, .asg (.t 7), none⟩] false [4])
   (.ret)
def F_strings_TrimSuffix_p2 : ACode :=
  .seq (.reg 0 [⟨some 4, .asg (.c (.str ⟨#[]⟩)), none⟩] false [0, 1])
  (F_strings_TrimSuffix_p1)
def F_strings_TrimSuffix : AFun := { nt := 8, res := [.t 4], code := (F_strings_TrimSuffix_p2) }

/-- strings.HasSuffix -/
def F_strings_HasSuffix_p1 : ACode :=
  .seq (.reg 0 [⟨some 5, .mov (.t 0), none⟩, ⟨some 6, .mov (.t 1), none⟩, ⟨some 7, .callp 102 [.t 5, .t 6], none⟩, ⟨some 4, .asg (.t 7), none⟩] false [4])
   (.ret)
def F_strings_HasSuffix_p2 : ACode :=
  .seq (.reg 0 [⟨some 4, .asg (.c (.bool false)), none⟩] false [0, 1])
  (F_strings_HasSuffix_p1)
def F_strings_HasSuffix : AFun := { nt := 8, res := [.t 4], code := (F_strings_HasSuffix_p2) }

/-- mandrel/ops.names -/
def F_ops_names_p1 : ACode :=
  .seq (.reg 0 [⟨some 1, .build 62 [.str ⟨#[]⟩, .str ⟨#[]⟩, .str ⟨#[]⟩, .str ⟨#[]⟩, .str ⟨#[]⟩, .str ⟨#[]⟩, .str ⟨#[]⟩, .str ⟨#[]⟩, .str ⟨#[]⟩, .str ⟨#[]⟩, .str ⟨#[]⟩, .str ⟨#[]⟩, .str ⟨#[]⟩, .str ⟨#[]⟩, .str ⟨#[]⟩, .str ⟨#[]⟩, .str ⟨#[]⟩, .str ⟨#[]⟩, .str ⟨#[]⟩, .str ⟨#[]⟩, .str ⟨#[]⟩, .str ⟨#[]⟩, .str ⟨#[]⟩, .str ⟨#[]⟩, .str ⟨#[]⟩, .str ⟨#[]⟩, .str ⟨#[]⟩, .str ⟨#[]⟩, .str ⟨#[]⟩, .str ⟨#[]⟩, .str ⟨#[]⟩, .str ⟨#[]⟩, .str ⟨#[]⟩, .str ⟨#[]⟩, .str ⟨#[]⟩, .str ⟨#[]⟩, .str ⟨#[]⟩, .str ⟨#[]⟩, .str ⟨#[]⟩, .str ⟨#[]⟩, .str ⟨#[]⟩, .str ⟨#[]⟩, .str ⟨#[]⟩, .str ⟨#[]⟩, .str ⟨#[]⟩, .str ⟨#[]⟩, .str ⟨#[]⟩, .str ⟨#[]⟩, .str ⟨#[]⟩, .str ⟨#[]⟩, .str ⟨#[]⟩, .str ⟨#[]⟩, .str ⟨#[]⟩, .str ⟨#[]⟩, .str ⟨#[]⟩, .str ⟨#[]⟩, .str ⟨#[]⟩, .str ⟨#[]⟩, .str ⟨#[]⟩, .str ⟨#[]⟩, .str ⟨#[]⟩, .str ⟨#[]⟩, .str ⟨#[]⟩, .str ⟨#[]⟩, .str ⟨#[]⟩, .str ⟨#[]⟩, .str ⟨#[]⟩, .str ⟨#[]⟩, .str ⟨#[]⟩, .str ⟨#[]⟩, .str ⟨#[]⟩, .str ⟨#[]⟩, .str ⟨#[]⟩, .str ⟨#[]⟩, .str ⟨#[]⟩, .str ⟨#[]⟩, .str ⟨#[]⟩, .str ⟨#[]⟩, .str ⟨#[]⟩, .str ⟨#[]⟩, .str ⟨#[]⟩, .str ⟨#[]⟩, .str ⟨#[]⟩, .str ⟨#[]⟩, .str ⟨#[]⟩, .str ⟨#[]⟩, .str ⟨#[]⟩, .str ⟨#[]⟩, .str ⟨#[]⟩, .str ⟨#[]⟩, .str ⟨#[]⟩, .str ⟨#[]⟩, .str ⟨#[]⟩, .str ⟨#[]⟩, .str ⟨#[]⟩, .str ⟨#[]⟩, .str ⟨#[]⟩, .str ⟨#[]⟩, .str ⟨#[]⟩, .str ⟨#[]⟩, .str ⟨#[]⟩, .str ⟨#[]⟩, .str ⟨#[]⟩, .str ⟨#[]⟩, .str ⟨#[]⟩, .str ⟨#[]⟩, .str ⟨#[]⟩, .str ⟨#[]⟩, .str ⟨#[]⟩, .str ⟨#[]⟩, .str ⟨#[]⟩, .str ⟨#[]⟩, .str ⟨#[]⟩, .str ⟨#[]⟩, .str ⟨#[]⟩, .str ⟨#[]⟩, .str ⟨#[]⟩, .str ⟨#[]⟩, .str ⟨#[]⟩, .str ⟨#[]⟩, .str ⟨#[]⟩, .str ⟨#[]⟩, .str ⟨#[]⟩, .str ⟨#[]⟩, .str ⟨#[]⟩, .str ⟨#[]⟩, .str ⟨#[]⟩, .str ⟨#[]⟩, .str ⟨#[]⟩, .str ⟨#[]⟩, .str ⟨#[]⟩, .str ⟨#[]⟩, .str ⟨#[]⟩, .str ⟨#[]⟩, .str ⟨#[]⟩, .str ⟨#[]⟩, .str ⟨#[]⟩, .str ⟨#[]⟩, .str ⟨#[]⟩, .str ⟨#[]⟩, .str ⟨#[]⟩, .str ⟨#[]⟩, .str ⟨#[]⟩, .str ⟨#[]⟩, .str ⟨#[]⟩, .str ⟨#[]⟩, .str ⟨#[]⟩, .str ⟨#[]⟩, .str ⟨#[]⟩, .str ⟨#[]⟩, .str ⟨#[]⟩, .str ⟨#[]⟩, .str ⟨#[]⟩, .str ⟨#[]⟩, .str ⟨#[]⟩, .str ⟨#[]⟩, .str ⟨#[]⟩, .str ⟨#[]⟩, .str ⟨#[]⟩, .str ⟨#[]⟩, .str ⟨#[]⟩, .str ⟨#[]⟩, .str ⟨#[]⟩, .str ⟨#[]⟩, .str ⟨#[]⟩, .str ⟨#[]⟩, .str ⟨#[]⟩, .str ⟨#[]⟩, .str ⟨#[]⟩, .str ⟨#[]⟩, .str ⟨#[]⟩, .str ⟨#[]⟩, .str ⟨#[]⟩, .str ⟨#[]⟩] [(0, 0, 1, .c (.str ⟨#[117, 110, 114, 101, 97, 99, 104, 97, 98, 108, 101]⟩)), (1, 1, 1, .c (.str ⟨#[110, 111, 112]⟩)), (2, 2, 1, .c (.str ⟨#[98, 108, 111, 99, 107]⟩)), (3, 3, 1, .c (.str ⟨#[108, 111, 111, 112]⟩)), (4, 4, 1, .c (.str ⟨#[105, 102]⟩)), (12, 12, 1, .c (.str ⟨#[98, 114]⟩)), (13, 13, 1, .c (.str ⟨#[98, 114, 95, 105, 102]⟩)), (14, 14, 1, .c (.str ⟨#[98, 114, 95, 116, 97, 98, 108, 101]⟩)), (15, 15, 1, .c (.str ⟨#[114, 101, 116, 117, 114, 110]⟩)), (16, 16, 1, .c (.str ⟨#[99, 97, 108, 108]⟩)), (17, 17, 1, .c (.str ⟨#[99, 97, 108, 108, 95, 105, 110, 100, 105, 114, 101, 99, 116]⟩)), (26, 26, 1, .c (.str ⟨#[100, 114, 111, 112]⟩)), (27, 27, 1, .c (.str ⟨#[115, 101, 108, 101, 99, 116]⟩)), (32, 32, 1, .c (.str ⟨#[108, 111, 99, 97, 108, 46, 103, 101, 116]⟩)), (33, 33, 1, .c (.str ⟨#[108, 111, 99, 97, 108, 46, 115, 101, 116]⟩)), (34, 34, 1, .c (.str ⟨#[108, 111, 99, 97, 108, 46, 116, 101, 101]⟩)), (35, 35, 1, .c (.str ⟨#[103, 108, 111, 98, 97, 108, 46, 103, 101, 116]⟩)), (36, 36, 1, .c (.str ⟨#[103, 108, 111, 98, 97, 108, 46, 115, 101, 116]⟩)), (40, 40, 1, .c (.str ⟨#[105, 51, 50, 46, 108, 111, 97, 100]⟩)), (41, 41, 1, .c (.str ⟨#[105, 54, 52, 46, 108, 111, 97, 100]⟩)), (44, 44, 1, .c (.str ⟨#[105, 51, 50, 46, 108, 111, 97, 100, 56, 95, 115]⟩)), (45, 45, 1, .c (.str ⟨#[105, 51, 50, 46, 108, 111, 97, 100, 56, 95, 117]⟩)), (46, 46, 1, .c (.str ⟨#[105, 51, 50, 46, 108, 111, 97, 100, 49, 54, 95, 115]⟩)), (47, 47, 1, .c (.str ⟨#[105, 51, 50, 46, 108, 111, 97, 100, 49, 54, 95, 117]⟩)), (48, 48, 1, .c (.str ⟨#[105, 54, 52, 46, 108, 111, 97, 100, 56, 95, 115]⟩)), (49, 49, 1, .c (.str ⟨#[105, 54, 52, 46, 108, 111, 97, 100, 56, 95, 117]⟩)), (50, 50, 1, .c (.str ⟨#[105, 54, 52, 46, 108, 111, 97, 100, 49, 54, 95, 115]⟩)), (51, 51, 1, .c (.str ⟨#[105, 54, 52, 46, 108, 111, 97, 100, 49, 54, 95, 117]⟩)), (52, 52, 1, .c (.str ⟨#[105, 54, 52, 46, 108, 111, 97, 100, 51, 50, 95, 115]⟩)), (53, 53, 1, .c (.str ⟨#[105, 54, 52, 46, 108, 111, 97, 100, 51, 50, 95, 117]⟩)), (54, 54, 1, .c (.str ⟨#[105, 51, 50, 46, 115, 116, 111, 114, 101]⟩)), (55, 55, 1, .c (.str ⟨#[105, 54, 52, 46, 115, 116, 111, 114, 101]⟩)), (58, 58, 1, .c (.str ⟨#[105, 51, 50, 46, 115, 116, 111, 114, 101, 56]⟩)), (59, 59, 1, .c (.str ⟨#[105, 51, 50, 46, 115, 116, 111, 114, 101, 49, 54]⟩)), (60, 60, 1, .c (.str ⟨#[105, 54, 52, 46, 115, 116, 111, 114, 101, 56]⟩)), (61, 61, 1, .c (.str ⟨#[105, 54, 52, 46, 115, 116, 111, 114, 101, 49, 54]⟩)), (62, 62, 1, .c (.str ⟨#[105, 54, 52, 46, 115, 116, 111, 114, 101, 51, 50]⟩)), (63, 63, 1, .c (.str ⟨#[109, 101, 109, 111, 114, 121, 46, 115, 105, 122, 101]⟩)), (64, 64, 1, .c (.str ⟨#[109, 101, 109, 111, 114, 121, 46, 103, 114, 111, 119]⟩)), (65, 65, 1, .c (.str ⟨#[105, 51, 50, 46, 99, 111, 110, 115, 116]⟩)), (66, 66, 1, .c (.str ⟨#[105, 54, 52, 46, 99, 111, 110, 115, 116]⟩)), (69, 69, 1, .c (.str ⟨#[105, 51, 50, 46, 101, 113, 122]⟩)), (70, 70, 1, .c (.str ⟨#[105, 51, 50, 46, 101, 113]⟩)), (71, 71, 1, .c (.str ⟨#[105, 51, 50, 46, 110, 101]⟩)), (72, 72, 1, .c (.str ⟨#[105, 51, 50, 46, 108, 116, 95, 115]⟩)), (73, 73, 1, .c (.str ⟨#[105, 51, 50, 46, 108, 116, 95, 117]⟩)), (74, 74, 1, .c (.str ⟨#[105, 51, 50, 46, 103, 116, 95, 115]⟩)), (75, 75, 1, .c (.str ⟨#[105, 51, 50, 46, 103, 116, 95, 117]⟩)), (76, 76, 1, .c (.str ⟨#[105, 51, 50, 46, 108, 101, 95, 115]⟩)), (77, 77, 1, .c (.str ⟨#[105, 51, 50, 46, 108, 101, 95, 117]⟩)), (78, 78, 1, .c (.str ⟨#[105, 51, 50, 46, 103, 101, 95, 115]⟩)), (79, 79, 1, .c (.str ⟨#[105, 51, 50, 46, 103, 101, 95, 117]⟩)), (80, 80, 1, .c (.str ⟨#[105, 54, 52, 46, 101, 113, 122]⟩)), (81, 81, 1, .c (.str ⟨#[105, 54, 52, 46, 101, 113]⟩)), (82, 82, 1, .c (.str ⟨#[105, 54, 52, 46, 110, 101]⟩)), (83, 83, 1, .c (.str ⟨#[105, 54, 52, 46, 108, 116, 95, 115]⟩)), (84, 84, 1, .c (.str ⟨#[105, 54, 52, 46, 108, 116, 95, 117]⟩)), (85, 85, 1, .c (.str ⟨#[105, 54, 52, 46, 103, 116, 95, 115]⟩)), (86, 86, 1, .c (.str ⟨#[105, 54, 52, 46, 103, 116, 95, 117]⟩)), (87, 87, 1, .c (.str ⟨#[105, 54, 52, 46, 108, 101, 95, 115]⟩)), (88, 88, 1, .c (.str ⟨#[105, 54, 52, 46, 108, 101, 95, 117]⟩)), (89, 89, 1, .c (.str ⟨#[105, 54, 52, 46, 103, 101, 95, 115]⟩)), (90, 90, 1, .c (.str ⟨#[105, 54, 52, 46, 103, 101, 95, 117]⟩)), (103, 103, 1, .c (.str ⟨#[105, 51, 50, 46, 99, 108, 122]⟩)), (104, 104, 1, .c (.str ⟨#[105, 51, 50, 46, 99, 116, 122]⟩)), (105, 105, 1, .c (.str ⟨#[105, 51, 50, 46, 112, 111, 112, 99, 110, 116]⟩)), (106, 106, 1, .c (.str ⟨#[105, 51, 50, 46, 97, 100, 100]⟩)), (107, 107, 1, .c (.str ⟨#[105, 51, 50, 46, 115, 117, 98]⟩)), (108, 108, 1, .c (.str ⟨#[105, 51, 50, 46, 109, 117, 108]⟩)), (109, 109, 1, .c (.str ⟨#[105, 51, 50, 46, 100, 105, 118, 95, 115]⟩)), (110, 110, 1, .c (.str ⟨#[105, 51, 50, 46, 100, 105, 118, 95, 117]⟩)), (111, 111, 1, .c (.str ⟨#[105, 51, 50, 46, 114, 101, 109, 95, 115]⟩)), (112, 112, 1, .c (.str ⟨#[105, 51, 50, 46, 114, 101, 109, 95, 117]⟩)), (113, 113, 1, .c (.str ⟨#[105, 51, 50, 46, 97, 110, 100]⟩)), (114, 114, 1, .c (.str ⟨#[105, 51, 50, 46, 111, 114]⟩)), (115, 115, 1, .c (.str ⟨#[105, 51, 50, 46, 120, 111, 114]⟩)), (116, 116, 1, .c (.str ⟨#[105, 51, 50, 46, 115, 104, 108]⟩)), (117, 117, 1, .c (.str ⟨#[105, 51, 50, 46, 115, 104, 114, 95, 115]⟩)), (118, 118, 1, .c (.str ⟨#[105, 51, 50, 46, 115, 104, 114, 95, 117]⟩)), (119, 119, 1, .c (.str ⟨#[105, 51, 50, 46, 114, 111, 116, 108]⟩)), (120, 120, 1, .c (.str ⟨#[105, 51, 50, 46, 114, 111, 116, 114]⟩)), (121, 121, 1, .c (.str ⟨#[105, 54, 52, 46, 99, 108, 122]⟩)), (122, 122, 1, .c (.str ⟨#[105, 54, 52, 46, 99, 116, 122]⟩)), (123, 123, 1, .c (.str ⟨#[105, 54, 52, 46, 112, 111, 112, 99, 110, 116]⟩)), (124, 124, 1, .c (.str ⟨#[105, 54, 52, 46, 97, 100, 100]⟩)), (125, 125, 1, .c (.str ⟨#[105, 54, 52, 46, 115, 117, 98]⟩)), (126, 126, 1, .c (.str ⟨#[105, 54, 52, 46, 109, 117, 108]⟩)), (127, 127, 1, .c (.str ⟨#[105, 54, 52, 46, 100, 105, 118, 95, 115]⟩)), (128, 128, 1, .c (.str ⟨#[105, 54, 52, 46, 100, 105, 118, 95, 117]⟩)), (129, 129, 1, .c (.str ⟨#[105, 54, 52, 46, 114, 101, 109, 95, 115]⟩)), (130, 130, 1, .c (.str ⟨#[105, 54, 52, 46, 114, 101, 109, 95, 117]⟩)), (131, 131, 1, .c (.str ⟨#[105, 54, 52, 46, 97, 110, 100]⟩)), (132, 132, 1, .c (.str ⟨#[105, 54, 52, 46, 111, 114]⟩)), (133, 133, 1, .c (.str ⟨#[105, 54, 52, 46, 120, 111, 114]⟩)), (134, 134, 1, .c (.str ⟨#[105, 54, 52, 46, 115, 104, 108]⟩)), (135, 135, 1, .c (.str ⟨#[105, 54, 52, 46, 115, 104, 114, 95, 115]⟩)), (136, 136, 1, .c (.str ⟨#[105, 54, 52, 46, 115, 104, 114, 95, 117]⟩)), (137, 137, 1, .c (.str ⟨#[105, 54, 52, 46, 114, 111, 116, 108]⟩)), (138, 138, 1, .c (.str ⟨#[105, 54, 52, 46, 114, 111, 116, 114]⟩)), (167, 167, 1, .c (.str ⟨#[105, 51, 50, 46, 119, 114, 97, 112, 95, 105, 54, 52]⟩)), (172, 172, 1, .c (.str ⟨#[105, 54, 52, 46, 101, 120, 116, 101, 110, 100, 95, 105, 51, 50, 95, 115]⟩)), (173, 173, 1, .c (.str ⟨#[105, 54, 52, 46, 101, 120, 116, 101, 110, 100, 95, 105, 51, 50, 95, 117]⟩))], none⟩, ⟨none, .store 62 174 (.t 0) (.t 1), none⟩] false [0])
   (.ret)
def F_ops_names_p2 : ACode :=
  .seq (.reg 1 [⟨some 0, .alloc 0 62 [.str ⟨#[]⟩, .str ⟨#[]⟩, .str ⟨#[]⟩, .str ⟨#[]⟩, .str ⟨#[]⟩, .str ⟨#[]⟩, .str ⟨#[]⟩, .str ⟨#[]⟩, .str ⟨#[]⟩, .str ⟨#[]⟩, .str ⟨#[]⟩, .str ⟨#[]⟩, .str ⟨#[]⟩, .str ⟨#[]⟩, .str ⟨#[]⟩, .str ⟨#[]⟩, .str ⟨#[]⟩, .str ⟨#[]⟩, .str ⟨#[]⟩, .str ⟨#[]⟩, .str ⟨#[]⟩, .str ⟨#[]⟩, .str ⟨#[]⟩, .str ⟨#[]⟩, .str ⟨#[]⟩, .str ⟨#[]⟩, .str ⟨#[]⟩, .str ⟨#[]⟩, .str ⟨#[]⟩, .str ⟨#[]⟩, .str ⟨#[]⟩, .str ⟨#[]⟩, .str ⟨#[]⟩, .str ⟨#[]⟩, .str ⟨#[]⟩, .str ⟨#[]⟩, .str ⟨#[]⟩, .str ⟨#[]⟩, .str ⟨#[]⟩, .str ⟨#[]⟩, .str ⟨#[]⟩, .str ⟨#[]⟩, .str ⟨#[]⟩, .str ⟨#[]⟩, .str ⟨#[]⟩, .str ⟨#[]⟩, .str ⟨#[]⟩, .str ⟨#[]⟩, .str ⟨#[]⟩, .str ⟨#[]⟩, .str ⟨#[]⟩, .str ⟨#[]⟩, .str ⟨#[]⟩, .str ⟨#[]⟩, .str ⟨#[]⟩, .str ⟨#[]⟩, .str ⟨#[]⟩, .str ⟨#[]⟩, .str ⟨#[]⟩, .str ⟨#[]⟩, .str ⟨#[]⟩, .str ⟨#[]⟩, .str ⟨#[]⟩, .str ⟨#[]⟩, .str ⟨#[]⟩, .str ⟨#[]⟩, .str ⟨#[]⟩, .str ⟨#[]⟩, .str ⟨#[]⟩, .str ⟨#[]⟩, .str ⟨#[]⟩, .str ⟨#[]⟩, .str ⟨#[]⟩, .str ⟨#[]⟩, .str ⟨#[]⟩, .str ⟨#[]⟩, .str ⟨#[]⟩, .str ⟨#[]⟩, .str ⟨#[]⟩, .str ⟨#[]⟩, .str ⟨#[]⟩, .str ⟨#[]⟩, .str ⟨#[]⟩, .str ⟨#[]⟩, .str ⟨#[]⟩, .str ⟨#[]⟩, .str ⟨#[]⟩, .str ⟨#[]⟩, .str ⟨#[]⟩, .str ⟨#[]⟩, .str ⟨#[]⟩, .str ⟨#[]⟩, .str ⟨#[]⟩, .str ⟨#[]⟩, .str ⟨#[]⟩, .str ⟨#[]⟩, .str ⟨#[]⟩, .str ⟨#[]⟩, .str ⟨#[]⟩, .str ⟨#[]⟩, .str ⟨#[]⟩, .str ⟨#[]⟩, .str ⟨#[]⟩, .str ⟨#[]⟩, .str ⟨#[]⟩, .str ⟨#[]⟩, .str ⟨#[]⟩, .str ⟨#[]⟩, .str ⟨#[]⟩, .str ⟨#[]⟩, .str ⟨#[]⟩, .str ⟨#[]⟩, .str ⟨#[]⟩, .str ⟨#[]⟩, .str ⟨#[]⟩, .str ⟨#[]⟩, .str ⟨#[]⟩, .str ⟨#[]⟩, .str ⟨#[]⟩, .str ⟨#[]⟩, .str ⟨#[]⟩, .str ⟨#[]⟩, .str ⟨#[]⟩, .str ⟨#[]⟩, .str ⟨#[]⟩, .str ⟨#[]⟩, .str ⟨#[]⟩, .str ⟨#[]⟩, .str ⟨#[]⟩, .str ⟨#[]⟩, .str ⟨#[]⟩, .str ⟨#[]⟩, .str ⟨#[]⟩, .str ⟨#[]⟩, .str ⟨#[]⟩, .str ⟨#[]⟩, .str ⟨#[]⟩, .str ⟨#[]⟩, .str ⟨#[]⟩, .str ⟨#[]⟩, .str ⟨#[]⟩, .str ⟨#[]⟩, .str ⟨#[]⟩, .str ⟨#[]⟩, .str ⟨#[]⟩, .str ⟨#[]⟩, .str ⟨#[]⟩, .str ⟨#[]⟩, .str ⟨#[]⟩, .str ⟨#[]⟩, .str ⟨#[]⟩, .str ⟨#[]⟩, .str ⟨#[]⟩, .str ⟨#[]⟩, .str ⟨#[]⟩, .str ⟨#[]⟩, .str ⟨#[]⟩, .str ⟨#[]⟩, .str ⟨#[]⟩, .str ⟨#[]⟩, .str ⟨#[]⟩, .str ⟨#[]⟩, .str ⟨#[]⟩, .str ⟨#[]⟩, .str ⟨#[]⟩, .str ⟨#[]⟩, .str ⟨#[]⟩, .str ⟨#[]⟩, .str ⟨#[]⟩, .str ⟨#[]⟩, .str ⟨#[]⟩, .str ⟨#[]⟩, .str ⟨#[]⟩, .str ⟨#[]⟩], none⟩] false [0])
  (F_ops_names_p1)
def F_ops_names : AFun := { nt := 2, res := [.cell 0 62 true 174], code := (F_ops_names_p2) }

/-- strings.HasPrefix -/
def F_strings_HasPrefix_p1 : ACode :=
  .seq (.reg 0 [⟨some 5, .mov (.t 0), none⟩, ⟨some 6, .mov (.t 1), none⟩, ⟨some 7, .callp 103 [.t 5, .t 6], none⟩, ⟨some 4, .asg (.t 7), none⟩] false [4])
   (.ret)
def F_strings_HasPrefix_p2 : ACode :=
  .seq (.reg 0 [⟨some 4, .asg (.c (.bool false)), none⟩] false [0, 1])
  (F_strings_HasPrefix_p1)
def F_strings_HasPrefix : AFun := { nt := 8, res := [.t 4], code := (F_strings_HasPrefix_p2) }

/-- strings.Cut -/
def F_strings_Cut_p1 : ACode :=
  .seq (.reg 0 [⟨some 7, .mov (.t 0), none⟩, ⟨some 8, .mov (.t 1), none⟩, ⟨some 9, .callp 104 [.t 7, .t 8], none⟩, ⟨some 10, .ext (.t 9) 0, none⟩, ⟨some 11, .ext (.t 9) 1, none⟩, ⟨some 12, .ext (.t 9) 2, none⟩, ⟨some 4, .asg (.t 10), none⟩, ⟨some 5, .asg (.t 11), none⟩, ⟨some 6, .asg (.t 12), none⟩] false [4, 5, 6])
   (.ret)
def F_strings_Cut_p2 : ACode :=
  .seq (.reg 0 [⟨some 4, .asg (.c (.str ⟨#[]⟩)), none⟩, ⟨some 5, .asg (.c (.str ⟨#[]⟩)), none⟩, ⟨some 6, .asg (.c (.bool false)), none⟩] false [0, 1])
  (F_strings_Cut_p1)
def F_strings_Cut : AFun := { nt := 13, res := [.t 4, .t 5, .t 6], code := (F_strings_Cut_p2) }

/-- strings.Contains -/
def F_strings_Contains_p1 : ACode :=
  .seq (.reg 0 [⟨some 5, .mov (.t 0), none⟩, ⟨some 6, .mov (.t 1), none⟩, ⟨some 7, .callp 105 [.t 5, .t 6], none⟩, ⟨some 8, .bin .geq .other 2 (.t 7) (.c (.int .i64 0)), none⟩, ⟨some 4, .asg (.t 8), none⟩] false [4])
   (.ret)
def F_strings_Contains_p2 : ACode :=
  .seq (.reg 0 [⟨some 4, .asg (.c (.bool false)), none⟩] false [0, 1])
  (F_strings_Contains_p1)
def F_strings_Contains : AFun := { nt := 9, res := [.t 4], code := (F_strings_Contains_p2) }

/-- internal/stringslite.CutSuffix -/
def F_stringslite_CutSuffix_p1 : ACode :=
  .cond (.t 9) (.seq (.reg 0 [⟨some 10, .mov (.t 0), none⟩, ⟨some 4, .asg (.t 10), none⟩, ⟨some 5, .asg (.c (.bool false)), none⟩] false [4, 5])
      (.ret)) (.skip)
def F_stringslite_CutSuffix_p2 : ACode :=
  .seq (.reg 0 [⟨some 11, .mov (.t 0), none⟩, ⟨some 12, .mov (.t 0), none⟩, ⟨some 13, .lenS 39 (.t 12), none⟩, ⟨some 14, .mov (.t 1), none⟩, ⟨some 15, .lenS 39 (.t 14), none⟩, ⟨some 16, .bin .sub .other 2 (.t 13) (.t 15), none⟩, ⟨some 17, .slcS 39 (.t 11) none (some (.t 16)), none⟩, ⟨some 4, .asg (.t 17), none⟩, ⟨some 5, .asg (.c (.bool true)), none⟩] false [4, 5])
    (.ret)
def F_stringslite_CutSuffix_p3 : ACode :=
  .seq (.seq (.reg 0 [⟨some 6, .mov (.t 0), none⟩, ⟨some 7, .mov (.t 1), none⟩, ⟨some 8, .callp 102 [.t 6, .t 7], none⟩, ⟨some 9, .un .not (.t 8), none⟩] false [0, 1, 9])
    (F_stringslite_CutSuffix_p1))
   (F_stringslite_CutSuffix_p2)
def F_stringslite_CutSuffix_p4 : ACode :=
  .seq (.reg 0 [⟨some 4, .asg (.c (.str ⟨#[]⟩)), none⟩, ⟨some 5, .asg (.c (.bool false)), none⟩] false [0, 1])
  (F_stringslite_CutSuffix_p3)
def F_stringslite_CutSuffix : AFun := { nt := 18, res := [.t 4, .t 5], code := (F_stringslite_CutSuffix_p4) }

/-- internal/stringslite.TrimSuffix -/
def F_stringslite_TrimSuffix_p1 : ACode :=
  .cond (.t 7) (.seq (.reg 0 [⟨some 8, .mov (.t 0), none⟩, ⟨some 9, .mov (.t 0), none⟩, ⟨some 10, .lenS 39 (.t 9), none⟩, ⟨some 11, .mov (.t 1), none⟩, ⟨some 12, .lenS 39 (.t 11), none⟩, ⟨some 13, .bin .sub .other 2 (.t 10) (.t 12), none⟩, ⟨some 14, .slcS 39 (.t 8) none (some (.t 13)), none⟩, ⟨some 4, .asg (.t 14), none⟩] false [4])
      (.ret)) (.skip)
def F_stringslite_TrimSuffix_p2 : ACode :=
  .seq (.reg 0 [⟨some 15, .mov (.t 0), none⟩, ⟨some 4, .asg (.t 15), none⟩] false [4])
    (.ret)
def F_stringslite_TrimSuffix_p3 : ACode :=
  .seq (.seq (.reg 0 [⟨some 5, .mov (.t 0), none⟩, ⟨some 6, .mov (.t 1), none⟩, ⟨some 7, .callp 102 [.t 5, .t 6], none⟩] false [0, 1, 7])
    (F_stringslite_TrimSuffix_p1))
   (F_stringslite_TrimSuffix_p2)
def F_stringslite_TrimSuffix_p4 : ACode :=
  .seq (.reg 0 [⟨some 4, .asg (.c (.str ⟨#[]⟩)), none⟩] false [0, 1])
  (F_stringslite_TrimSuffix_p3)
def F_stringslite_TrimSuffix : AFun := { nt := 16, res := [.t 4], code := (F_stringslite_TrimSuffix_p4) }

/-- internal/stringslite.HasSuffix -/
def F_stringslite_HasSuffix_p1 : ACode :=
  .seq (.reg 0 [⟨some 5, .mov (.t 0), none⟩, ⟨some 6, .lenS 39 (.t 5), none⟩, ⟨some 7, .mov (.t 1), none⟩, ⟨some 8, .lenS 39 (.t 7), none⟩, ⟨some 9, .bin .geq .other 2 (.t 6) (.t 8), none⟩, ⟨some 10, .mov (.t 9), none⟩, ⟨some 11, .mov (.t 0), some (5, 10, true)⟩, ⟨some 12, .mov (.t 0), some (5, 10, true)⟩, ⟨some 13, .lenS 39 (.t 12), some (5, 10, true)⟩, ⟨some 14, .mov (.t 1), some (5, 10, true)⟩, ⟨some 15, .lenS 39 (.t 14), some (5, 10, true)⟩, ⟨some 16, .bin .sub .other 2 (.t 13) (.t 15), some (5, 10, true)⟩, ⟨some 17, .slcS 39 (.t 11) (some (.t 16)) none, some (5, 10, true)⟩, ⟨some 18, .mov (.t 1), some (5, 10, true)⟩, ⟨some 19, .bin .eql .other 39 (.t 17) (.t 18), some (5, 10, true)⟩, ⟨some 20, .pick (.t 10) (.t 19) (.c (.bool false)), none⟩, ⟨some 4, .asg (.t 20), none⟩] false [4])
   (.ret)
def F_stringslite_HasSuffix_p2 : ACode :=
  .seq (.reg 0 [⟨some 4, .asg (.c (.bool false)), none⟩] false [0, 1])
  (F_stringslite_HasSuffix_p1)
def F_stringslite_HasSuffix : AFun := { nt := 21, res := [.t 4], code := (F_stringslite_HasSuffix_p2) }

/-- internal/stringslite.HasPrefix -/
def F_stringslite_HasPrefix_p1 : ACode :=
  .seq (.reg 0 [⟨some 5, .mov (.t 0), none⟩, ⟨some 6, .lenS 39 (.t 5), none⟩, ⟨some 7, .mov (.t 1), none⟩, ⟨some 8, .lenS 39 (.t 7), none⟩, ⟨some 9, .bin .geq .other 2 (.t 6) (.t 8), none⟩, ⟨some 10, .mov (.t 9), none⟩, ⟨some 11, .mov (.t 0), some (5, 10, true)⟩, ⟨some 12, .mov (.t 1), some (5, 10, true)⟩, ⟨some 13, .lenS 39 (.t 12), some (5, 10, true)⟩, ⟨some 14, .slcS 39 (.t 11) none (some (.t 13)), some (5, 10, true)⟩, ⟨some 15, .mov (.t 1), some (5, 10, true)⟩, ⟨some 16, .bin .eql .other 39 (.t 14) (.t 15), some (5, 10, true)⟩, ⟨some 17, .pick (.t 10) (.t 16) (.c (.bool false)), none⟩, ⟨some 4, .asg (.t 17), none⟩] false [4])
   (.ret)
def F_stringslite_HasPrefix_p2 : ACode :=
  .seq (.reg 0 [⟨some 4, .asg (.c (.bool false)), none⟩] false [0, 1])
  (F_stringslite_HasPrefix_p1)
def F_stringslite_HasPrefix : AFun := { nt := 18, res := [.t 4], code := (F_stringslite_HasPrefix_p2) }

/-- internal/stringslite.Cut -/
def F_stringslite_Cut_p1 : ACode :=
  .cond (.t 12) (.seq (.reg 0 [⟨some 13, .mov (.t 0), none⟩, ⟨some 14, .mov (.t 7), none⟩, ⟨some 15, .slcS 39 (.t 13) none (some (.t 14)), none⟩, ⟨some 16, .mov (.t 0), none⟩, ⟨some 17, .mov (.t 7), none⟩, ⟨some 18, .mov (.t 1), none⟩, ⟨some 19, .lenS 39 (.t 18), none⟩, ⟨some 20, .bin .add .other 2 (.t 17) (.t 19), none⟩, ⟨some 21, .slcS 39 (.t 16) (some (.t 20)) none, none⟩, ⟨some 4, .asg (.t 15), none⟩, ⟨some 5, .asg (.t 21), none⟩, ⟨some 6, .asg (.c (.bool true)), none⟩] true [4, 5, 6])
       (.ret)) (.skip)
def F_stringslite_Cut_p2 : ACode :=
  .seq (.reg 0 [⟨some 11, .mov (.t 7), none⟩, ⟨some 12, .bin .geq .other 2 (.t 11) (.c (.int .i64 0)), none⟩] false [0, 1, 7, 12])
     (F_stringslite_Cut_p1)
def F_stringslite_Cut_p3 : ACode :=
  .seq (.reg 0 [⟨some 22, .mov (.t 0), none⟩, ⟨some 4, .asg (.t 22), none⟩, ⟨some 5, .asg (.c (.str ⟨#[]⟩)), none⟩, ⟨some 6, .asg (.c (.bool false)), none⟩] false [4, 5, 6])
    (.ret)
def F_stringslite_Cut_p4 : ACode :=
  .seq (.seq (.reg 0 [⟨some 8, .mov (.t 0), none⟩, ⟨some 9, .mov (.t 1), none⟩, ⟨some 10, .callp 106 [.t 8, .t 9], none⟩, ⟨some 7, .asg (.t 10), none⟩] false [0, 1, 7])
    (F_stringslite_Cut_p2))
   (F_stringslite_Cut_p3)
def F_stringslite_Cut_p5 : ACode :=
  .seq (.reg 0 [⟨some 4, .asg (.c (.str ⟨#[]⟩)), none⟩, ⟨some 5, .asg (.c (.str ⟨#[]⟩)), none⟩, ⟨some 6, .asg (.c (.bool false)), none⟩] false [0, 1])
  (F_stringslite_Cut_p4)
def F_stringslite_Cut : AFun := { nt := 23, res := [.t 4, .t 5, .t 6], code := (F_stringslite_Cut_p5) }

/-- strings.Index -/
def F_strings_Index_p1 : ACode :=
  .seq (.reg 0 [⟨some 5, .mov (.t 0), none⟩, ⟨some 6, .mov (.t 1), none⟩, ⟨some 7, .callp 106 [.t 5, .t 6], none⟩, ⟨some 4, .asg (.t 7), none⟩] false [4])
   (.ret)
def F_strings_Index_p2 : ACode :=
  .seq (.reg 0 [⟨some 4, .asg (.c (.int .i64 0)), none⟩] false [0, 1])
  (F_strings_Index_p1)
def F_strings_Index : AFun := { nt := 8, res := [.t 4], code := (F_strings_Index_p2) }

end Go.Proofs.YtablleokoifolaaGreatDoor

/- The seat: its numbers of types and functions, and that its functions are the abstract ones. Written by a program of this claim set (gen.py). -/
set_option maxRecDepth 100000
namespace Go.Proofs.YtablleokoifolaaGreatDoor
open Go

def tyL : List Nat := [30, 41, 3, 63, 58, 34, 66, 5, 44, 69, 55, 67, 4, 59, 71, 37, 73, 33, 35, 75, 36, 77, 38, 61, 79, 39, 81, 2, 22, 23, 24, 25, 26, 27, 28, 84, 54, 86, 88, 9, 90, 92, 94, 96, 99, 104, 111, 116, 113, 120, 64, 60, 126, 155, 129, 109, 20, 148, 21, 153, 139, 203, 213, 154]
def fnL : List Nat := [3, 9, 10, 11, 12, 13, 14, 15, 16, 17, 4, 18, 5, 6, 7, 8, 19, 20, 21, 22, 23, 25, 26, 27, 28, 29, 30, 31, 32, 24, 33, 34, 35, 36, 38, 37, 39, 40, 41, 42, 43, 44, 45, 46, 47, 48, 49, 50, 51, 56, 57, 58, 60, 59, 61, 63, 64, 65, 66, 67, 68, 69, 70, 71, 55, 72, 75, 76, 62, 77, 78, 79, 80, 81, 83, 82, 84, 85, 86, 87, 88, 89, 90, 91, 92, 93, 94, 95, 97, 98, 99, 100, 101, 102, 96, 103, 104, 105, 106, 107, 108, 109, 110, 111, 112, 113, 114, 115, 119, 117, 118, 120, 52, 53]
def errV : Value := .iface 170 (.agg #[.pointer (some ⟨2, 44, none⟩)])
noncomputable def E : Env := { P := Tryz.prog, ty := fun i => tyL.getD (i % 100000) 0, fn := fun i => fnL.getD i 0, gb := 2, gok := gokE errV, gkeep := gokE_keep errV }
def bodyOf (f : Func) : Code := match f.body with | some c => c | none => .skip

theorem mixed : E.P.follows .mixedOrders = true := by kernel_rfl

theorem fn_law08_ValidLabels : Fn E 15 F_law08_ValidLabels 3 := ⟨Tryz.f8, bodyOf Tryz.f8, Tryz.func8, by kernel_rfl, by kernel_rfl, by kernel_rfl, by decide, by kernel_rfl, by kernel_rfl, ⟨by kernel_rfl, by kernel_rfl, mixed⟩⟩
theorem fn_law08_sure : Fn E 2 F_law08_sure 0 := ⟨Tryz.f10, bodyOf Tryz.f10, Tryz.func10, by kernel_rfl, by kernel_rfl, by kernel_rfl, by decide, by kernel_rfl, by kernel_rfl, ⟨by kernel_rfl, by kernel_rfl, mixed⟩⟩
theorem fn_law08_giveModule : Fn E 3 F_law08_giveModule 1 := ⟨Tryz.f11, bodyOf Tryz.f11, Tryz.func11, by kernel_rfl, by kernel_rfl, by kernel_rfl, by decide, by kernel_rfl, by kernel_rfl, ⟨by kernel_rfl, by kernel_rfl, mixed⟩⟩
theorem fn_valid_Check : Fn E 4 F_valid_Check 1 := ⟨Tryz.f12, bodyOf Tryz.f12, Tryz.func12, by kernel_rfl, by kernel_rfl, by kernel_rfl, by decide, by kernel_rfl, by kernel_rfl, ⟨by kernel_rfl, by kernel_rfl, mixed⟩⟩
theorem fn_valid_Body : Fn E 6 F_valid_Body 2 := ⟨Tryz.f14, bodyOf Tryz.f14, Tryz.func14, by kernel_rfl, by kernel_rfl, by kernel_rfl, by decide, by kernel_rfl, by kernel_rfl, ⟨by kernel_rfl, by kernel_rfl, mixed⟩⟩
theorem fn_valid_Height : Fn E 7 F_valid_Height 2 := ⟨Tryz.f15, bodyOf Tryz.f15, Tryz.func15, by kernel_rfl, by kernel_rfl, by kernel_rfl, by decide, by kernel_rfl, by kernel_rfl, ⟨by kernel_rfl, by kernel_rfl, mixed⟩⟩
theorem fn_law08_num : Fn E 9 F_law08_num 1 := ⟨Tryz.f17, bodyOf Tryz.f17, Tryz.func17, by kernel_rfl, by kernel_rfl, by kernel_rfl, by decide, by kernel_rfl, by kernel_rfl, ⟨by kernel_rfl, by kernel_rfl, mixed⟩⟩
theorem fn_law08_scene : Fn E 11 F_law08_scene 3 := ⟨Tryz.f18, bodyOf Tryz.f18, Tryz.func18, by kernel_rfl, by kernel_rfl, by kernel_rfl, by decide, by kernel_rfl, by kernel_rfl, ⟨by kernel_rfl, by kernel_rfl, mixed⟩⟩
theorem fn_law08_kinds : Fn E 17 F_law08_kinds 1 := ⟨Tryz.f20, bodyOf Tryz.f20, Tryz.func20, by kernel_rfl, by kernel_rfl, by kernel_rfl, by decide, by kernel_rfl, by kernel_rfl, ⟨by kernel_rfl, by kernel_rfl, mixed⟩⟩
theorem fn_law08_give : Fn E 18 F_law08_give 1 := ⟨Tryz.f21, bodyOf Tryz.f21, Tryz.func21, by kernel_rfl, by kernel_rfl, by kernel_rfl, by decide, by kernel_rfl, by kernel_rfl, ⟨by kernel_rfl, by kernel_rfl, mixed⟩⟩
theorem fn_law08_one : Fn E 19 F_law08_one 1 := ⟨Tryz.f22, bodyOf Tryz.f22, Tryz.func22, by kernel_rfl, by kernel_rfl, by kernel_rfl, by decide, by kernel_rfl, by kernel_rfl, ⟨by kernel_rfl, by kernel_rfl, mixed⟩⟩
theorem fn_valid_Check_1 : Fn E 20 F_valid_Check_1 1 := ⟨Tryz.f23, bodyOf Tryz.f23, Tryz.func23, by kernel_rfl, by kernel_rfl, by kernel_rfl, by decide, by kernel_rfl, by kernel_rfl, ⟨by kernel_rfl, by kernel_rfl, mixed⟩⟩
theorem fn_valid_Check_1_1 : Fn E 29 F_valid_Check_1_1 2 := ⟨Tryz.f24, bodyOf Tryz.f24, Tryz.func24, by kernel_rfl, by kernel_rfl, by kernel_rfl, by decide, by kernel_rfl, by kernel_rfl, ⟨by kernel_rfl, by kernel_rfl, mixed⟩⟩
theorem fn_slices_ContainsFunc_api_Limits_api_Limits : Fn E 21 F_slices_ContainsFunc_api_Limits_api_Limits 2 := ⟨Tryz.f25, bodyOf Tryz.f25, Tryz.func25, by kernel_rfl, by kernel_rfl, by kernel_rfl, by decide, by kernel_rfl, by kernel_rfl, ⟨by kernel_rfl, by kernel_rfl, mixed⟩⟩
theorem fn_valid_outer : Fn E 22 F_valid_outer 1 := ⟨Tryz.f26, bodyOf Tryz.f26, Tryz.func26, by kernel_rfl, by kernel_rfl, by kernel_rfl, by decide, by kernel_rfl, by kernel_rfl, ⟨by kernel_rfl, by kernel_rfl, mixed⟩⟩
theorem fn_valid_check : Fn E 24 F_valid_check 2 := ⟨Tryz.f28, bodyOf Tryz.f28, Tryz.func28, by kernel_rfl, by kernel_rfl, by kernel_rfl, by decide, by kernel_rfl, by kernel_rfl, ⟨by kernel_rfl, by kernel_rfl, mixed⟩⟩
theorem fn_slices_IndexFunc_api_Limits_api_Limits : Fn E 30 F_slices_IndexFunc_api_Limits_api_Limits 2 := ⟨Tryz.f33, bodyOf Tryz.f33, Tryz.func33, by kernel_rfl, by kernel_rfl, by kernel_rfl, by decide, by kernel_rfl, by kernel_rfl, ⟨by kernel_rfl, by kernel_rfl, mixed⟩⟩
theorem fn_valid_kinds : Fn E 31 F_valid_kinds 1 := ⟨Tryz.f34, bodyOf Tryz.f34, Tryz.func34, by kernel_rfl, by kernel_rfl, by kernel_rfl, by decide, by kernel_rfl, by kernel_rfl, ⟨by kernel_rfl, by kernel_rfl, mixed⟩⟩
theorem fn_valid_bounds : Fn E 32 F_valid_bounds 1 := ⟨Tryz.f35, bodyOf Tryz.f35, Tryz.func35, by kernel_rfl, by kernel_rfl, by kernel_rfl, by decide, by kernel_rfl, by kernel_rfl, ⟨by kernel_rfl, by kernel_rfl, mixed⟩⟩
theorem fn_valid_value : Fn E 33 F_valid_value 2 := ⟨Tryz.f36, bodyOf Tryz.f36, Tryz.func36, by kernel_rfl, by kernel_rfl, by kernel_rfl, by decide, by kernel_rfl, by kernel_rfl, ⟨by kernel_rfl, by kernel_rfl, mixed⟩⟩
theorem fn_slices_ContainsFunc_uint32_uint32 : Fn E 35 F_slices_ContainsFunc_uint32_uint32 2 := ⟨Tryz.f37, bodyOf Tryz.f37, Tryz.func37, by kernel_rfl, by kernel_rfl, by kernel_rfl, by decide, by kernel_rfl, by kernel_rfl, ⟨by kernel_rfl, by kernel_rfl, mixed⟩⟩
theorem fn_valid_outer_1 : Fn E 34 F_valid_outer_1 2 := ⟨Tryz.f38, bodyOf Tryz.f38, Tryz.func38, by kernel_rfl, by kernel_rfl, by kernel_rfl, by decide, by kernel_rfl, by kernel_rfl, ⟨by kernel_rfl, by kernel_rfl, mixed⟩⟩
theorem fn_valid_exported : Fn E 36 F_valid_exported 1 := ⟨Tryz.f39, bodyOf Tryz.f39, Tryz.func39, by kernel_rfl, by kernel_rfl, by kernel_rfl, by decide, by kernel_rfl, by kernel_rfl, ⟨by kernel_rfl, by kernel_rfl, mixed⟩⟩
theorem fn_slices_Concat_api_Kind_api_Kind : Fn E 38 F_slices_Concat_api_Kind_api_Kind 1 := ⟨Tryz.f41, bodyOf Tryz.f41, Tryz.func41, by kernel_rfl, by kernel_rfl, by kernel_rfl, by decide, by kernel_rfl, by kernel_rfl, ⟨by kernel_rfl, by kernel_rfl, mixed⟩⟩
theorem fn_valid_checker_list : Fn E 39 F_valid_checker_list 2 := ⟨Tryz.f42, bodyOf Tryz.f42, Tryz.func42, by kernel_rfl, by kernel_rfl, by kernel_rfl, by decide, by kernel_rfl, by kernel_rfl, ⟨by kernel_rfl, by kernel_rfl, mixed⟩⟩
theorem fn_valid_checker_take : Fn E 40 F_valid_checker_take 2 := ⟨Tryz.f43, bodyOf Tryz.f43, Tryz.func43, by kernel_rfl, by kernel_rfl, by kernel_rfl, by decide, by kernel_rfl, by kernel_rfl, ⟨by kernel_rfl, by kernel_rfl, mixed⟩⟩
theorem fn_valid_kinds_1 : Fn E 49 F_valid_kinds_1 1 := ⟨Tryz.f56, bodyOf Tryz.f56, Tryz.func56, by kernel_rfl, by kernel_rfl, by kernel_rfl, by decide, by kernel_rfl, by kernel_rfl, ⟨by kernel_rfl, by kernel_rfl, mixed⟩⟩
theorem fn_valid_result : Fn E 50 F_valid_result 1 := ⟨Tryz.f57, bodyOf Tryz.f57, Tryz.func57, by kernel_rfl, by kernel_rfl, by kernel_rfl, by decide, by kernel_rfl, by kernel_rfl, ⟨by kernel_rfl, by kernel_rfl, mixed⟩⟩
theorem fn_slices_ContainsFunc_api_Kind_api_Kind : Fn E 51 F_slices_ContainsFunc_api_Kind_api_Kind 2 := ⟨Tryz.f58, bodyOf Tryz.f58, Tryz.func58, by kernel_rfl, by kernel_rfl, by kernel_rfl, by decide, by kernel_rfl, by kernel_rfl, ⟨by kernel_rfl, by kernel_rfl, mixed⟩⟩
theorem fn_slices_ContainsFunc_api_Global_api_Global : Fn E 53 F_slices_ContainsFunc_api_Global_api_Global 2 := ⟨Tryz.f59, bodyOf Tryz.f59, Tryz.func59, by kernel_rfl, by kernel_rfl, by kernel_rfl, by decide, by kernel_rfl, by kernel_rfl, ⟨by kernel_rfl, by kernel_rfl, mixed⟩⟩
theorem fn_valid_kinds_2 : Fn E 52 F_valid_kinds_2 2 := ⟨Tryz.f60, bodyOf Tryz.f60, Tryz.func60, by kernel_rfl, by kernel_rfl, by kernel_rfl, by decide, by kernel_rfl, by kernel_rfl, ⟨by kernel_rfl, by kernel_rfl, mixed⟩⟩
theorem fn_slices_IndexFunc_uint32_uint32 : Fn E 54 F_slices_IndexFunc_uint32_uint32 2 := ⟨Tryz.f61, bodyOf Tryz.f61, Tryz.func61, by kernel_rfl, by kernel_rfl, by kernel_rfl, by decide, by kernel_rfl, by kernel_rfl, ⟨by kernel_rfl, by kernel_rfl, mixed⟩⟩
theorem fn_slices_Grow_api_Kind_api_Kind : Fn E 68 F_slices_Grow_api_Kind_api_Kind 2 := ⟨Tryz.f62, bodyOf Tryz.f62, Tryz.func62, by kernel_rfl, by kernel_rfl, by kernel_rfl, by decide, by kernel_rfl, by kernel_rfl, ⟨by kernel_rfl, by kernel_rfl, mixed⟩⟩
theorem fn_valid_checker_control : Fn E 55 F_valid_checker_control 2 := ⟨Tryz.f63, bodyOf Tryz.f63, Tryz.func63, by kernel_rfl, by kernel_rfl, by kernel_rfl, by decide, by kernel_rfl, by kernel_rfl, ⟨by kernel_rfl, by kernel_rfl, mixed⟩⟩
theorem fn_valid_checker_simple : Fn E 56 F_valid_checker_simple 2 := ⟨Tryz.f64, bodyOf Tryz.f64, Tryz.func64, by kernel_rfl, by kernel_rfl, by kernel_rfl, by decide, by kernel_rfl, by kernel_rfl, ⟨by kernel_rfl, by kernel_rfl, mixed⟩⟩
theorem fn_slices_IndexFunc_api_Kind_api_Kind : Fn E 66 F_slices_IndexFunc_api_Kind_api_Kind 2 := ⟨Tryz.f75, bodyOf Tryz.f75, Tryz.func75, by kernel_rfl, by kernel_rfl, by kernel_rfl, by decide, by kernel_rfl, by kernel_rfl, ⟨by kernel_rfl, by kernel_rfl, mixed⟩⟩
theorem fn_slices_IndexFunc_api_Global_api_Global : Fn E 67 F_slices_IndexFunc_api_Global_api_Global 2 := ⟨Tryz.f76, bodyOf Tryz.f76, Tryz.func76, by kernel_rfl, by kernel_rfl, by kernel_rfl, by decide, by kernel_rfl, by kernel_rfl, ⟨by kernel_rfl, by kernel_rfl, mixed⟩⟩
theorem fn_valid_checker_leave : Fn E 69 F_valid_checker_leave 1 := ⟨Tryz.f77, bodyOf Tryz.f77, Tryz.func77, by kernel_rfl, by kernel_rfl, by kernel_rfl, by decide, by kernel_rfl, by kernel_rfl, ⟨by kernel_rfl, by kernel_rfl, mixed⟩⟩
theorem fn_valid_checker_inner : Fn E 70 F_valid_checker_inner 4 := ⟨Tryz.f78, bodyOf Tryz.f78, Tryz.func78, by kernel_rfl, by kernel_rfl, by kernel_rfl, by decide, by kernel_rfl, by kernel_rfl, ⟨by kernel_rfl, by kernel_rfl, mixed⟩⟩
theorem fn_valid_checker_lay : Fn E 71 F_valid_checker_lay 2 := ⟨Tryz.f79, bodyOf Tryz.f79, Tryz.func79, by kernel_rfl, by kernel_rfl, by kernel_rfl, by decide, by kernel_rfl, by kernel_rfl, ⟨by kernel_rfl, by kernel_rfl, mixed⟩⟩
theorem fn_valid_checker_label : Fn E 72 F_valid_checker_label 2 := ⟨Tryz.f80, bodyOf Tryz.f80, Tryz.func80, by kernel_rfl, by kernel_rfl, by kernel_rfl, by decide, by kernel_rfl, by kernel_rfl, ⟨by kernel_rfl, by kernel_rfl, mixed⟩⟩
theorem fn_valid_checker_table : Fn E 73 F_valid_checker_table 2 := ⟨Tryz.f81, bodyOf Tryz.f81, Tryz.func81, by kernel_rfl, by kernel_rfl, by kernel_rfl, by decide, by kernel_rfl, by kernel_rfl, ⟨by kernel_rfl, by kernel_rfl, mixed⟩⟩
theorem fn_valid_checker_call : Fn E 75 F_valid_checker_call 2 := ⟨Tryz.f82, bodyOf Tryz.f82, Tryz.func82, by kernel_rfl, by kernel_rfl, by kernel_rfl, by decide, by kernel_rfl, by kernel_rfl, ⟨by kernel_rfl, by kernel_rfl, mixed⟩⟩
theorem fn_valid_checker_function : Fn E 74 F_valid_checker_function 2 := ⟨Tryz.f83, bodyOf Tryz.f83, Tryz.func83, by kernel_rfl, by kernel_rfl, by kernel_rfl, by decide, by kernel_rfl, by kernel_rfl, ⟨by kernel_rfl, by kernel_rfl, mixed⟩⟩
theorem fn_valid_checker_typ : Fn E 76 F_valid_checker_typ 2 := ⟨Tryz.f84, bodyOf Tryz.f84, Tryz.func84, by kernel_rfl, by kernel_rfl, by kernel_rfl, by decide, by kernel_rfl, by kernel_rfl, ⟨by kernel_rfl, by kernel_rfl, mixed⟩⟩
theorem fn_valid_checker_local : Fn E 77 F_valid_checker_local 2 := ⟨Tryz.f85, bodyOf Tryz.f85, Tryz.func85, by kernel_rfl, by kernel_rfl, by kernel_rfl, by decide, by kernel_rfl, by kernel_rfl, ⟨by kernel_rfl, by kernel_rfl, mixed⟩⟩
theorem fn_valid_checker_global : Fn E 78 F_valid_checker_global 2 := ⟨Tryz.f86, bodyOf Tryz.f86, Tryz.func86, by kernel_rfl, by kernel_rfl, by kernel_rfl, by decide, by kernel_rfl, by kernel_rfl, ⟨by kernel_rfl, by kernel_rfl, mixed⟩⟩
theorem fn_valid_checker_plain : Fn E 79 F_valid_checker_plain 2 := ⟨Tryz.f87, bodyOf Tryz.f87, Tryz.func87, by kernel_rfl, by kernel_rfl, by kernel_rfl, by decide, by kernel_rfl, by kernel_rfl, ⟨by kernel_rfl, by kernel_rfl, mixed⟩⟩
theorem fn_ops_Sign : Fn E 85 F_ops_Sign 1 := ⟨Tryz.f93, bodyOf Tryz.f93, Tryz.func93, by kernel_rfl, by kernel_rfl, by kernel_rfl, by decide, by kernel_rfl, by kernel_rfl, ⟨by kernel_rfl, by kernel_rfl, mixed⟩⟩
theorem fn_ops_Bytes : Fn E 86 F_ops_Bytes 1 := ⟨Tryz.f94, bodyOf Tryz.f94, Tryz.func94, by kernel_rfl, by kernel_rfl, by kernel_rfl, by decide, by kernel_rfl, by kernel_rfl, ⟨by kernel_rfl, by kernel_rfl, mixed⟩⟩
theorem fn_ops_Form : Fn E 87 F_ops_Form 1 := ⟨Tryz.f95, bodyOf Tryz.f95, Tryz.func95, by kernel_rfl, by kernel_rfl, by kernel_rfl, by decide, by kernel_rfl, by kernel_rfl, ⟨by kernel_rfl, by kernel_rfl, mixed⟩⟩
theorem fn_ops_Name : Fn E 88 F_ops_Name 1 := ⟨Tryz.f97, bodyOf Tryz.f97, Tryz.func97, by kernel_rfl, by kernel_rfl, by kernel_rfl, by decide, by kernel_rfl, by kernel_rfl, ⟨by kernel_rfl, by kernel_rfl, mixed⟩⟩
theorem fn_ops_own : Fn E 89 F_ops_own 1 := ⟨Tryz.f98, bodyOf Tryz.f98, Tryz.func98, by kernel_rfl, by kernel_rfl, by kernel_rfl, by decide, by kernel_rfl, by kernel_rfl, ⟨by kernel_rfl, by kernel_rfl, mixed⟩⟩
theorem fn_ops_reckoned : Fn E 90 F_ops_reckoned 1 := ⟨Tryz.f99, bodyOf Tryz.f99, Tryz.func99, by kernel_rfl, by kernel_rfl, by kernel_rfl, by decide, by kernel_rfl, by kernel_rfl, ⟨by kernel_rfl, by kernel_rfl, mixed⟩⟩
theorem fn_strings_CutSuffix : Fn E 91 F_strings_CutSuffix 2 := ⟨Tryz.f100, bodyOf Tryz.f100, Tryz.func100, by kernel_rfl, by kernel_rfl, by kernel_rfl, by decide, by kernel_rfl, by kernel_rfl, ⟨by kernel_rfl, by kernel_rfl, mixed⟩⟩
theorem fn_strings_TrimSuffix : Fn E 92 F_strings_TrimSuffix 2 := ⟨Tryz.f101, bodyOf Tryz.f101, Tryz.func101, by kernel_rfl, by kernel_rfl, by kernel_rfl, by decide, by kernel_rfl, by kernel_rfl, ⟨by kernel_rfl, by kernel_rfl, mixed⟩⟩
theorem fn_strings_HasSuffix : Fn E 93 F_strings_HasSuffix 2 := ⟨Tryz.f102, bodyOf Tryz.f102, Tryz.func102, by kernel_rfl, by kernel_rfl, by kernel_rfl, by decide, by kernel_rfl, by kernel_rfl, ⟨by kernel_rfl, by kernel_rfl, mixed⟩⟩
theorem fn_ops_names : Fn E 96 F_ops_names 0 := ⟨Tryz.f104, bodyOf Tryz.f104, Tryz.func104, by kernel_rfl, by kernel_rfl, by kernel_rfl, by decide, by kernel_rfl, by kernel_rfl, ⟨by kernel_rfl, by kernel_rfl, mixed⟩⟩
theorem fn_strings_HasPrefix : Fn E 97 F_strings_HasPrefix 2 := ⟨Tryz.f105, bodyOf Tryz.f105, Tryz.func105, by kernel_rfl, by kernel_rfl, by kernel_rfl, by decide, by kernel_rfl, by kernel_rfl, ⟨by kernel_rfl, by kernel_rfl, mixed⟩⟩
theorem fn_strings_Cut : Fn E 98 F_strings_Cut 2 := ⟨Tryz.f106, bodyOf Tryz.f106, Tryz.func106, by kernel_rfl, by kernel_rfl, by kernel_rfl, by decide, by kernel_rfl, by kernel_rfl, ⟨by kernel_rfl, by kernel_rfl, mixed⟩⟩
theorem fn_strings_Contains : Fn E 99 F_strings_Contains 2 := ⟨Tryz.f107, bodyOf Tryz.f107, Tryz.func107, by kernel_rfl, by kernel_rfl, by kernel_rfl, by decide, by kernel_rfl, by kernel_rfl, ⟨by kernel_rfl, by kernel_rfl, mixed⟩⟩
theorem fn_stringslite_CutSuffix : Fn E 100 F_stringslite_CutSuffix 2 := ⟨Tryz.f108, bodyOf Tryz.f108, Tryz.func108, by kernel_rfl, by kernel_rfl, by kernel_rfl, by decide, by kernel_rfl, by kernel_rfl, ⟨by kernel_rfl, by kernel_rfl, mixed⟩⟩
theorem fn_stringslite_TrimSuffix : Fn E 101 F_stringslite_TrimSuffix 2 := ⟨Tryz.f109, bodyOf Tryz.f109, Tryz.func109, by kernel_rfl, by kernel_rfl, by kernel_rfl, by decide, by kernel_rfl, by kernel_rfl, ⟨by kernel_rfl, by kernel_rfl, mixed⟩⟩
theorem fn_stringslite_HasSuffix : Fn E 102 F_stringslite_HasSuffix 2 := ⟨Tryz.f110, bodyOf Tryz.f110, Tryz.func110, by kernel_rfl, by kernel_rfl, by kernel_rfl, by decide, by kernel_rfl, by kernel_rfl, ⟨by kernel_rfl, by kernel_rfl, mixed⟩⟩
theorem fn_stringslite_HasPrefix : Fn E 103 F_stringslite_HasPrefix 2 := ⟨Tryz.f111, bodyOf Tryz.f111, Tryz.func111, by kernel_rfl, by kernel_rfl, by kernel_rfl, by decide, by kernel_rfl, by kernel_rfl, ⟨by kernel_rfl, by kernel_rfl, mixed⟩⟩
theorem fn_stringslite_Cut : Fn E 104 F_stringslite_Cut 2 := ⟨Tryz.f112, bodyOf Tryz.f112, Tryz.func112, by kernel_rfl, by kernel_rfl, by kernel_rfl, by decide, by kernel_rfl, by kernel_rfl, ⟨by kernel_rfl, by kernel_rfl, mixed⟩⟩
theorem fn_strings_Index : Fn E 105 F_strings_Index 2 := ⟨Tryz.f113, bodyOf Tryz.f113, Tryz.func113, by kernel_rfl, by kernel_rfl, by kernel_rfl, by decide, by kernel_rfl, by kernel_rfl, ⟨by kernel_rfl, by kernel_rfl, mixed⟩⟩
end Go.Proofs.YtablleokoifolaaGreatDoor

/- Own abstract machine, part 21: an interpreter, and that what it answers holds. -/
set_option linter.unusedVariables false
set_option linter.unusedSimpArgs false
namespace Go.Proofs.YtablleokoifolaaGreatDoor
open Go

variable {E : Env} {nt : Nat}

abbrev HL := List (Nat × Option AObj)
abbrev CP := Nat → List AV → Option AV
abbrev CS := Nat → List AV → HL → Nat → Option (AV × HL × Nat)

def hm : HL → Hp
  | [], _ => none
  | (k, o) :: l, i => if i = k then o else hm l i

/-- A state that is laid out. -/
structure Sx where
  t : List (Nat × AV)
  h : HL
  n : Nat
def Sx.st (s : Sx) : St := ⟨tm s.t, hm s.h, s.n⟩

def putL (d : Option Nat) (t : List (Nat × AV)) (v : AV) : List (Nat × AV) := match d with
  | some d => (d, v) :: t
  | none => t
theorem putL_eq (d : Option Nat) (t : List (Nat × AV)) (v : AV) : putT d (tm t) v = tm (putL d t v) := by
  cases d with
  | none => rfl
  | some d => funext i; simp [putT, putL, upd, tm]

/-- The keys at which an operation changes memory. -/
def xtkeys (base : Nat) (t : Nat → AV) : XOp → List Nat
  | .appZ k .. => [base + k]
  | .mkmap k _ => [base + k]
  | .mset _ m _ _ => match evX t m with
    | .map κ => [κ]
    | _ => []
  | _ => []
def tkeys (base : Nat) (t : Nat → AV) : AOp → List Nat
  | .x o => xtkeys base t o
  | .alloc k _ _ => [base + k]
  | .box k _ _ => [base + k]
  | .bslice k _ _ _ _ => [base + k]
  | .appN k _ _ _ _ _ => [base + k]
  | .store _ _ a _ => match evX t a with
    | .ptr κ _ _ => [κ]
    | _ => []
  | .app k _ _ _ s _ => match evX t s with
    | .sl κ _ _ => [base + k, κ]
    | _ => [base + k]
  | _ => []

def hnext (ks : List Nat) (h' : Hp) (hl : HL) : HL := ks.map (fun k => (k, h' k)) ++ hl
theorem hnext_eq {ks : List Nat} {h' : Hp} {hl : HL} (hf : ∀ κ, κ ∉ ks → h' κ = hm hl κ) : hm (hnext ks h' hl) = h' := by
  funext κ
  unfold hnext
  have key : ∀ l : List Nat, (∀ κ', κ' ∉ ks → h' κ' = hm hl κ') → (κ ∈ l ∨ κ ∉ ks) → hm (l.map (fun k => (k, h' k)) ++ hl) κ = h' κ := by
    intro l hf
    induction l with
    | nil => intro h; rcases h with h | h; (cases h); exact (hf κ h).symm
    | cons a l ih =>
      intro h
      simp only [List.map_cons, List.cons_append, hm]
      split
      · rename_i e; rw [e]
      · rename_i e
        refine ih ?_
        rcases h with h | h
        · rcases List.mem_cons.1 h with h | h
          · exact absurd h e
          · exact .inl h
        · exact .inr h
  by_cases h : κ ∈ ks
  · exact key ks hf (.inl h)
  · exact key ks hf (.inr h)

theorem upd_ne' {α : Type} {f : Nat → α} {k κ : Nat} {x : α} (h : κ ≠ k) : upd f k x κ = f κ := by simp [upd, h]

theorem xval_keys {base : Nat} {t : Nat → AV} {h h' : Hp} {op : XOp} {av : AV} (hv : xval base t h op = some (av, h')) {κ : Nat} (hk : κ ∉ xtkeys base t op) : h' κ = h κ := by
  cases op <;> simp only [xval, xtkeys] at hv hk
  · split at hv <;> first | (cases hv; done) | (simp only [Option.some.injEq, Prod.mk.injEq] at hv; obtain ⟨_, rfl⟩ := hv; rfl)
  · split at hv
    · split at hv
      · split at hv
        · simp only [Option.some.injEq, Prod.mk.injEq] at hv; obtain ⟨_, rfl⟩ := hv; rfl
        · simp only [Option.some.injEq, Prod.mk.injEq] at hv; obtain ⟨_, rfl⟩ := hv; exact upd_ne' (by simpa using hk)
      · cases hv
    · cases hv
  · simp only [Option.some.injEq, Prod.mk.injEq] at hv; obtain ⟨_, rfl⟩ := hv; exact upd_ne' (by simpa using hk)
  · (repeat' split at hv) <;> first | (cases hv; done) | (simp only [Option.some.injEq, Prod.mk.injEq] at hv; obtain ⟨_, rfl⟩ := hv; rfl)
  · split at hv
    · rename_i κ' s hm hs
      rw [hm] at hk
      (repeat' split at hv) <;> first | (cases hv; done) | (simp only [Option.some.injEq, Prod.mk.injEq] at hv; obtain ⟨_, rfl⟩ := hv; exact upd_ne' (by simpa using hk))
    · cases hv
  · cases hv

theorem aval_keys {base : Nat} {t : Nat → AV} {h h' : Hp} {op : AOp} {av : AV} (hv : aval base t h op = some (av, h')) {κ : Nat} (hk : κ ∉ tkeys base t op) : h' κ = h κ := by
  cases op <;> simp only [aval, tkeys] at hv hk
  case x o => exact xval_keys hv hk
  case alloc => simp only [Option.some.injEq, Prod.mk.injEq] at hv; obtain ⟨_, rfl⟩ := hv; exact upd_ne' (by simpa using hk)
  case bslice => obtain ⟨v, _, hv⟩ := Option.map_eq_some_iff.1 hv; simp only [Prod.mk.injEq] at hv; obtain ⟨_, rfl⟩ := hv; exact upd_ne' (by simpa using hk)
  case box k c x =>
    unfold bval at hv
    split at hv
    · simp only [Option.some.injEq, Prod.mk.injEq] at hv; obtain ⟨_, rfl⟩ := hv; exact upd_ne' (by simpa using hk)
    · cases hv
  case store c n a x =>
    obtain ⟨v, hv', e⟩ := Option.map_eq_some_iff.1 hv
    simp only [Prod.mk.injEq] at e
    obtain ⟨_, rfl⟩ := e
    clear hv
    rename astore h n (evX t a) (evX t x) = some v => hv
    unfold astore at hv
    split at hv
    · rename_i κ' i o hp
      rw [hp] at hk
      split at hv
      · split at hv
        · obtain rfl := Option.some.inj hv; exact upd_ne' (by simpa using hk)
        · cases hv
      · cases hv
    · cases hv
  case app k c esz bytes s x =>
    unfold aapp at hv
    split at hv
    · cases hv
    · split at hv
      · rename_i hs; rw [hs] at hk
        split at hv
        · split at hv
          · simp only [Option.some.injEq, Prod.mk.injEq] at hv; obtain ⟨_, rfl⟩ := hv; rfl
          · simp only [Option.some.injEq, Prod.mk.injEq] at hv; obtain ⟨_, rfl⟩ := hv; exact upd_ne' (by simpa using hk)
        · cases hv
      · rename_i hs; rw [hs] at hk
        split at hv
        · split at hv
          · simp only [Option.some.injEq, Prod.mk.injEq] at hv; obtain ⟨_, rfl⟩ := hv
            simp only [List.mem_cons, List.not_mem_nil, or_false, not_or] at hk
            rw [upd_ne' hk.1, upd_ne' hk.2]
          · cases hv
        · cases hv
      · cases hv
  case appN k c esz bytes s x =>
    split at hv
    · unfold aapp at hv
      split at hv
      · cases hv
      · simp only at hv
        split at hv
        · split at hv
          · simp only [Option.some.injEq, Prod.mk.injEq] at hv; obtain ⟨_, rfl⟩ := hv; rfl
          · simp only [Option.some.injEq, Prod.mk.injEq] at hv; obtain ⟨_, rfl⟩ := hv; exact upd_ne' (by simpa using hk)
        · cases hv
    · cases hv
  all_goals first
    | (cases hv; done)
    | (simp only [Option.some.injEq, Prod.mk.injEq] at hv; obtain ⟨_, rfl⟩ := hv; rfl)
    | (obtain ⟨v, _, hv⟩ := Option.map_eq_some_iff.1 hv; simp only [Prod.mk.injEq] at hv; obtain ⟨_, rfl⟩ := hv; rfl)
    | ((repeat' split at hv) <;> first | (cases hv; done) | (simp only [Option.some.injEq, Prod.mk.injEq] at hv; obtain ⟨_, rfl⟩ := hv; rfl) | (obtain ⟨v, _, hv⟩ := Option.map_eq_some_iff.1 hv; simp only [Prod.mk.injEq] at hv; obtain ⟨_, rfl⟩ := hv; rfl))

def roL (ks : List Nat) (h : HL) : HL := if ks.isEmpty then h else h.map fun p => (p.1, if p.1 ∈ ks then p.2.map setRo else p.2)
theorem roL_eq (ks : List Nat) (h : HL) : hm (roL ks h) = roAll ks (hm h) := by
  funext κ
  unfold roL
  split
  · rename_i he
    have : ks = [] := by simpa using he
    subst this; simp [roAll]
  · induction h with
    | nil => simp [hm, roAll]
    | cons p l ih =>
      obtain ⟨k, o⟩ := p
      simp only [List.map_cons, hm, roAll]
      split
      · rename_i e; subst e; rfl
      · rw [ih]; rfl

def pruneL (live : List Nat) (t : List (Nat × AV)) : List (Nat × AV) := live.map fun i => (i, tm t i)
theorem pruneL_eq (live : List Nat) (t : List (Nat × AV)) : tm (pruneL live t) = prune live (tm t) := rfl

/-- Without entries that others hide. -/
def dedup (seen : List Nat) : HL → HL
  | [] => []
  | (k, o) :: l => if seen.contains k then dedup seen l else match o with
    | none => dedup (k :: seen) l
    | some o => (k, some o) :: dedup (k :: seen) l
theorem dedup_eq {κ : Nat} : ∀ (l : HL) (seen : List Nat), hm (dedup seen l) κ = if κ ∈ seen then none else hm l κ
  | [], seen => by simp [dedup, hm]
  | (k, o) :: l, seen => by
    simp only [dedup, hm]
    by_cases hs : seen.contains k = true
    · rw [if_pos hs, dedup_eq l seen]
      have : k ∈ seen := by simpa using hs
      by_cases hk : κ = k
      · subst hk; simp [this]
      · simp [hk]
    · rw [if_neg hs]
      have hs' : k ∉ seen := by simpa using hs
      cases o with
      | none =>
        simp only
        rw [dedup_eq l (k :: seen)]
        by_cases hk : κ = k
        · subst hk; simp
        · simp [hk]
      | some o =>
        simp only [hm]
        rw [dedup_eq l (k :: seen)]
        by_cases hk : κ = k
        · subst hk; simp [hs']
        · simp [hk]
theorem dedup0 (l : HL) : hm (dedup [] l) = hm l := by funext κ; rw [dedup_eq]; simp

def kltB (base : Nat) : AV → Bool
  | .ptr κ _ _ => decide (κ < base)
  | .sl κ _ _ => decide (κ < base)
  | _ => true
/-- Cells that marked stores write. -/
abbrev WL := List (Nat × Nat × Nat)
def WL.p (l : WL) (κ i q : Nat) : Prop := (κ, i, q) ∈ l
def outB (l : WL) (n : Nat) : AV → Bool
  | .ptr κ i o => l.all fun c => !(c.1 == κ && (c.2.1 == i && (decide (o ≤ c.2.2) && decide (c.2.2 < o + n))))
  | _ => true
def inB (base : Nat) (l : WL) (n : Nat) : AV → Bool
  | .ptr κ i o => decide (κ < base) && (List.range n).all fun d => l.contains (κ, i, o + d)
  | _ => false
theorem outB_ok {l : WL} {n : Nat} {v : AV} (h : outB l n v = true) : cellsOut l.p n v := by
  cases v <;> simp only [cellsOut] <;> try trivial
  intro q h1 h2 h3
  have := List.all_eq_true.1 h _ h3
  simp [h1, h2] at this
theorem inB_ok {base : Nat} {l : WL} {n : Nat} {v : AV} (h : inB base l n v = true) : cellsIn base l.p n v := by
  cases v <;> simp only [inB, Bool.false_eq_true] at h
  rename_i κ i o
  simp only [Bool.and_eq_true, decide_eq_true_eq] at h
  refine ⟨h.1, fun q h1 h2 => ?_⟩
  have := List.all_eq_true.1 h.2 (q - o) (List.mem_range.2 (by omega))
  rw [show o + (q - o) = q by omega] at this
  simpa [WL.p] using this
def rdB (base : Nat) (l : WL) (t : Nat → AV) : AOp → Bool
  | .load c _ n a => kltB base (evX t a) && (!far c || outB l n (evX t a))
  | .store c n a _ => !far c || inB base l n (evX t a)
  | .iaddr _ _ s _ => kltB base (evX t s)
  | .slc _ _ x _ _ => kltB base (evX t x)
  | .appN _ _ _ _ _ x => kltB base (evX t x)
  | _ => true

theorem kltB_ok {base : Nat} {v : AV} (h : kltB base v = true) : klt base v := by
  cases v <;> simp_all [kltB, klt]
theorem rdB_ok {base : Nat} {l : WL} {t : Nat → AV} {op : AOp} (h : rdB base l t op = true) : rdOk base l.p t op := by
  cases op <;> simp only [rdB, rdOk] at h ⊢ <;> first | exact kltB_ok h | trivial | skip
  · simp only [Bool.and_eq_true, Bool.or_eq_true, Bool.not_eq_true'] at h
    refine ⟨kltB_ok h.1, fun hf => ?_⟩
    rcases h.2 with h | h
    · rw [hf] at h; cases h
    · exact outB_ok h
  · simp only [Bool.or_eq_true, Bool.not_eq_true'] at h
    intro hf
    rcases h with h | h
    · rw [hf] at h; cases h
    · exact inB_ok h

def x1 (cp : CP) (cs : CS) (dr : Bool) (base : Nat) (l : WL) (o : AOper) (s : Sx) : Option Sx :=
  match wantA o.guard (tm s.t) with
  | none => none
  | some false => some ⟨putL o.dst s.t .hole, s.h, s.n⟩
  | some true =>
    match o.op with
    | .callp f args =>
      match frzL (hm s.h) (args.map (evX (tm s.t))) with
      | none => none
      | some asx => match cp f asx with
        | none => none
        | some r => if dr && !(frzKL (hm s.h) (args.map (evX (tm s.t)))).isEmpty then none else
            some ⟨putL o.dst s.t r, roL (frzKL (hm s.h) (args.map (evX (tm s.t)))) s.h, s.n⟩
    | .callv g args =>
      match evX (tm s.t) g with
      | .func f caps =>
        match frzL (hm s.h) (args.map (evX (tm s.t)) ++ caps) with
        | none => none
        | some asx => match cp f asx with
          | none => none
          | some r => if dr && !(frzKL (hm s.h) (args.map (evX (tm s.t)) ++ caps)).isEmpty then none else
              some ⟨putL o.dst s.t r, roL (frzKL (hm s.h) (args.map (evX (tm s.t)) ++ caps)) s.h, s.n⟩
      | _ => none
    | .calls f args =>
      if dr then none else
      match cs f (args.map (evX (tm s.t))) s.h s.n with
      | none => none
      | some (r, h', n') => some ⟨putL o.dst s.t r, h', n'⟩
    | .bslv _ _ zs n ps =>
      match afillE zs.length (List.replicate n zs) (ps.map fun p => (p.1, evX (tm s.t) p.2)) with
      | none => none
      | some es => if es.all (fun c => c.all kf0) then some ⟨putL o.dst s.t (.slv (es.map fun c => c.map nz)), s.h, s.n⟩ else none
    | op =>
      match aval base (tm s.t) (hm s.h) op with
      | none => none
      | some (av, h') => if dr && !rdB base l (tm s.t) op then none else some ⟨putL o.dst s.t av, hnext (tkeys base (tm s.t) op) h' s.h, s.n⟩

def xL (cp : CP) (cs : CS) (dr : Bool) (base : Nat) (l : WL) : List AOper → Sx → Option Sx
  | [], s => some s
  | o :: r, s => match x1 cp cs dr base l o s with
    | none => none
    | some s' => xL cp cs dr base l r s'

/-- The cells that a region's marked stores write. -/
def xW (cp : CP) (cs : CS) (base : Nat) : List AOper → Sx → WL
  | [], s => []
  | o :: r, s => match x1 cp cs false base [] o s with
    | none => []
    | some s' => (match o.op with
      | .store c n a _ => if far c then (match evX (tm s.t) a with
        | .ptr κ i o => (List.range n).map fun d => (κ, i, o + d)
        | _ => []) else []
      | _ => []) ++ xW cp cs base r s'
def regW (cp : CP) (cs : CS) (dr : Bool) (base : Nat) (ops : List AOper) (s : Sx) : WL :=
  if dr && ops.any (fun o => farStore o.op) then xW cp cs base ops s else []

def xC (cp : CP) (cs : CS) : Nat → ACode → Sx → Option (AExit × Sx)
  | 0, _, _ => none
  | m + 1, c, s => match c with
    | .skip => some (.normal, s)
    | .ret => some (.ret, s)
    | .exit i => some (.exit i, s)
    | .reg res ops dr live => match xL cp cs dr s.n (regW cp cs dr s.n ops ⟨s.t, s.h, s.n + res⟩) ops ⟨s.t, s.h, s.n + res⟩ with
      | none => none
      | some s' => some (.normal, ⟨pruneL live s'.t, dedup [] s'.h, s'.n⟩)
    | .seq a b => match xC cp cs m a s with
      | none => none
      | some (.normal, s') => xC cp cs m b s'
      | some (.ret, s') => some (.ret, s')
      | some (.exit i, s') => some (.exit i, s')
    | .cond x a b => match evX (tm s.t) x with
      | .bool true => xC cp cs m a s
      | .bool false => xC cp cs m b s
      | _ => none
    | .block i a => match xC cp cs m a s with
      | none => none
      | some (.normal, s') => some (.normal, s')
      | some (.ret, s') => some (.ret, s')
      | some (.exit j, s') => if j = i then some (.normal, s') else some (.exit j, s')
    | .fz sl a => if sl.all (fun i => (frz (hm s.h) FZ (tm s.t i)).isSome) then
        xC cp cs m a ⟨(sl.map fun i => (i, (frz (hm s.h) FZ (tm s.t i)).getD .undef)) ++ s.t, roL (frzKL (hm s.h) (sl.map (tm s.t))) s.h, s.n⟩ else none
    | .loop a => match xC cp cs m a s with
      | none => none
      | some (.normal, s') => xC cp cs m (.loop a) s'
      | some (.ret, s') => some (.ret, s')
      | some (.exit i, s') => some (.exit i, s')

def argL (args : List AV) : List (Nat × AV) := (List.range args.length).map fun i => (i, args.getD i .undef)

structure Tab where
  fn : Nat → Option (AFun × Nat)
  orc : CP
  orcS : CP → CS → CS

def xF (T : Tab) (fuel : Nat) : Nat → CP × CS
  | 0 => (fun _ _ => none, fun _ _ _ _ => none)
  | d + 1 =>
    (fun f args => match T.orc f args with
      | some r => some r
      | none => match T.fn f with
        | none => none
        | some (A, np) => if np = args.length then
            match xC (xF T fuel d).1 (xF T fuel d).2 fuel A.code ⟨argL args, [], 0⟩ with
            | none => none
            | some (.exit _, _) => none
            | some (_, s) => match resL (hm s.h) (tm s.t) A.res with
              | none => none
              | some v => frz (hm s.h) FZ v
          else none,
     fun f args h n => match T.orcS (xF T fuel d).1 (xF T fuel d).2 f args h n with
      | some r => some r
      | none => match T.fn f with
      | none => none
      | some (A, np) => if np = args.length then
          match xC (xF T fuel d).1 (xF T fuel d).2 fuel A.code ⟨argL args, h, n⟩ with
          | none => none
          | some (.exit _, _) => none
          | some (_, s) => match resL (hm s.h) (tm s.t) A.res with
            | none => none
            | some v => some (v, s.h, s.n)
        else none)

/-! ### It holds -/
def CPok (E : Env) (cp : CP) : Prop := ∀ f asx r, cp f asx = some r → ACallP E f asx r
def CSok (E : Env) (cs : CS) : Prop := ∀ f asx h n r h' n', cs f asx h n = some (r, h', n') → ACallS E f asx (hm h) n (fun a b c => a = r ∧ b = hm h' ∧ c = n')

theorem x1_sound {cp : CP} {cs : CS} (hp : CPok E cp) (hs : CSok E cs) {dr : Bool} {base : Nat} {l : WL} {o : AOper} {s s' : Sx} {K : St → Prop} (hx : x1 cp cs dr base l o s = some s') (k : K s'.st) : AW1 E dr base l.p o K s.st := by
  unfold x1 at hx
  unfold AW1
  simp only [Sx.st] at k ⊢
  cases hw : wantA o.guard (tm s.t) with
  | none => rw [hw] at hx; cases hx
  | some b =>
    rw [hw] at hx
    cases b with
    | false => simp only at hx ⊢; obtain rfl := Option.some.inj hx; rw [putL_eq]; exact k
    | true =>
      simp only at hx ⊢
      cases ho : o.op with
      | callp f args =>
        simp only [ho] at hx ⊢
        split at hx
        · cases hx
        · rename_i asx has
          split at hx
          · cases hx
          · rename_i r hr
            split at hx
            · cases hx
            · rename_i hd
              obtain rfl := Option.some.inj hx
              simp only [roL_eq, ← putL_eq] at k
              exact ⟨asx, r, has, hp _ _ _ hr, fun e => by subst e; simpa using hd, k⟩
      | callv g args =>
        simp only [ho] at hx ⊢
        split at hx
        · rename_i f caps hg
          split at hx
          · cases hx
          · rename_i asx has
            split at hx
            · cases hx
            · rename_i r hr
              split at hx
              · cases hx
              · rename_i hd
                obtain rfl := Option.some.inj hx
                simp only [roL_eq, ← putL_eq] at k
                exact ⟨f, caps, asx, r, hg, has, hp _ _ _ hr, fun e => by subst e; simpa using hd, k⟩
        · cases hx
      | calls f args =>
        simp only [ho] at hx ⊢
        split at hx
        · cases hx
        · rename_i hd
          split at hx
          · cases hx
          · rename_i r h' n' hr
            obtain rfl := Option.some.inj hx
            simp only [← putL_eq] at k
            exact ⟨by simpa using hd, _, hs _ _ _ _ _ _ _ hr, fun a b c ⟨e1, e2, e3⟩ => by subst e1 e2 e3; exact k⟩
      | bslv q c zs m ps =>
        simp only [ho] at hx ⊢
        split at hx
        · cases hx
        · rename_i es hes
          split at hx
          · rename_i hk
            obtain rfl := Option.some.inj hx
            simp only [← putL_eq] at k
            exact ⟨es, hes, hk, k⟩
          · cases hx
      | _ =>
        simp only [ho] at hx ⊢
        split at hx
        · cases hx
        · rename_i av h' hav
          split at hx
          · cases hx
          · rename_i hd
            obtain rfl := Option.some.inj hx
            simp only [← putL_eq, hnext_eq (fun κ hk => aval_keys hav hk)] at k
            exact ⟨av, h', hav, fun e => rdB_ok (by subst e; simpa using hd), k⟩

theorem xL_sound {cp : CP} {cs : CS} (hp : CPok E cp) (hs : CSok E cs) {dr : Bool} {base : Nat} {l : WL} {K : St → Prop} : ∀ (ops : List AOper) (s s' : Sx), xL cp cs dr base l ops s = some s' → K s'.st → AWL E dr base l.p ops K s.st
  | [], s, s', hx, k => by obtain rfl := Option.some.inj hx; exact k
  | o :: r, s, s', hx, k => by
    simp only [xL] at hx
    split at hx
    · cases hx
    · rename_i s1 h1
      exact x1_sound hp hs h1 (xL_sound hp hs r s1 s' hx k)

theorem xC_sound {cp : CP} {cs : CS} (hp : CPok E cp) (hs : CSok E cs) : ∀ (m : Nat) (c : ACode) (Q : AExit → St → Prop) (s : Sx) (e : AExit) (s' : Sx), xC cp cs m c s = some (e, s') → Q e s'.st → AW E nt c Q s.st := by
  intro m
  induction m using Nat.strongRecOn with
  | _ m ihs =>
    intro c Q s e s' hx k
    cases m with
    | zero => cases hx
    | succ m =>
    have ih := ihs m (Nat.lt_succ_self m)
    cases c with
    | skip => simp only [xC, Option.some.injEq, Prod.mk.injEq] at hx; obtain ⟨rfl, rfl⟩ := hx; exact .skip k
    | ret => simp only [xC, Option.some.injEq, Prod.mk.injEq] at hx; obtain ⟨rfl, rfl⟩ := hx; exact .ret k
    | exit i => simp only [xC, Option.some.injEq, Prod.mk.injEq] at hx; obtain ⟨rfl, rfl⟩ := hx; exact .exit k
    | reg res ops dr live =>
      simp only [xC] at hx
      split at hx
      · cases hx
      · rename_i s1 h1
        simp only [Option.some.injEq, Prod.mk.injEq] at hx
        obtain ⟨rfl, rfl⟩ := hx
        refine .reg _ (xL_sound hp hs ops ⟨s.t, s.h, s.n + res⟩ s1 h1 ?_)
        simp only [Sx.st, pruneL_eq, dedup0] at k ⊢
        exact k
    | seq a b =>
      simp only [xC] at hx
      split at hx
      · cases hx
      · rename_i s1 h1; exact .seq (ih _ _ _ _ _ h1 (ih _ _ _ _ _ hx k))
      · rename_i s1 h1; simp only [Option.some.injEq, Prod.mk.injEq] at hx; obtain ⟨rfl, rfl⟩ := hx; exact .seq (ih _ _ _ _ _ h1 k)
      · rename_i i s1 h1; simp only [Option.some.injEq, Prod.mk.injEq] at hx; obtain ⟨rfl, rfl⟩ := hx; exact .seq (ih _ _ _ _ _ h1 k)
    | cond x a b =>
      simp only [xC] at hx
      split at hx
      · rename_i hb; exact .cond hb (fun _ => ih _ _ _ _ _ hx k) (fun h => by cases h)
      · rename_i hb; exact .cond hb (fun h => by cases h) (fun _ => ih _ _ _ _ _ hx k)
      · cases hx
    | block i a =>
      simp only [xC] at hx
      split at hx
      · cases hx
      · rename_i s1 h1; simp only [Option.some.injEq, Prod.mk.injEq] at hx; obtain ⟨rfl, rfl⟩ := hx; exact .block (ih _ _ _ _ _ h1 k)
      · rename_i s1 h1; simp only [Option.some.injEq, Prod.mk.injEq] at hx; obtain ⟨rfl, rfl⟩ := hx; exact .block (ih _ _ _ _ _ h1 k)
      · rename_i j s1 h1
        refine .block (ih _ _ _ _ _ h1 ?_)
        simp only [blockQ]
        split at hx
        · rename_i hj; simp only [Option.some.injEq, Prod.mk.injEq] at hx; obtain ⟨rfl, rfl⟩ := hx; rw [if_pos hj]; exact k
        · rename_i hj; simp only [Option.some.injEq, Prod.mk.injEq] at hx; obtain ⟨rfl, rfl⟩ := hx; rw [if_neg hj]; exact k
    | fz sl a =>
      simp only [xC] at hx
      split at hx
      · rename_i hall
        refine AW.fz (fun i hi => List.all_eq_true.1 hall i hi) ?_
        have e0 : (⟨frzT (hm s.h) sl (tm s.t), roAll (frzKL (hm s.h) (sl.map (tm s.t))) (hm s.h), s.n⟩ : St) =
            Sx.st ⟨(sl.map fun i => (i, (frz (hm s.h) FZ (tm s.t i)).getD .undef)) ++ s.t, roL (frzKL (hm s.h) (sl.map (tm s.t))) s.h, s.n⟩ := by
          simp only [Sx.st, roL_eq, St.mk.injEq, true_and, and_true]
          funext i
          have key : ∀ l : List Nat, tm ((l.map fun i => (i, (frz (hm s.h) FZ (tm s.t i)).getD .undef)) ++ s.t) i = if i ∈ l then (frz (hm s.h) FZ (tm s.t i)).getD .undef else tm s.t i := by
            intro l
            induction l with
            | nil => simp
            | cons b l ih =>
              simp only [List.map_cons, List.cons_append, tm, ih, List.mem_cons]
              by_cases hb : i = b
              · subst hb; simp
              · simp [hb]
          rw [key]; rfl
        have := ih _ _ _ _ _ hx k
        rw [← e0] at this
        exact this
      · cases hx
    | loop a =>
      refine AW.loop (fun q s1 => ∃ s, s1 = s.st ∧ q ≤ m + 1 ∧ xC cp cs q (.loop a) s = some (e, s')) (fun q s1 ⟨s, hs1, hq, h⟩ => ?_) (m + 1) s.st ⟨s, rfl, Nat.le_refl _, hx⟩
      subst hs1
      cases q with
      | zero => cases h
      | succ q =>
        simp only [xC] at h
        have ih' := ihs q (by omega) a
        split at h
        · cases h
        · rename_i s1 h1; exact ih' _ _ _ _ h1 ⟨q, by omega, s1, rfl, by omega, h⟩
        · rename_i s1 h1; simp only [Option.some.injEq, Prod.mk.injEq] at h; obtain ⟨rfl, rfl⟩ := h; exact ih' _ _ _ _ h1 k
        · rename_i i s1 h1; simp only [Option.some.injEq, Prod.mk.injEq] at h; obtain ⟨rfl, rfl⟩ := h; exact ih' _ _ _ _ h1 k

theorem argL_eq (asx : List AV) : tm (argL asx) = argT asx := by
  funext i
  have key : ∀ l : List Nat, tm (l.map fun i => (i, asx.getD i .undef)) i = if i ∈ l then asx.getD i .undef else .undef := by
    intro l
    induction l with
    | nil => rfl
    | cons a l ih =>
      simp only [List.map_cons, tm, ih, List.mem_cons]
      by_cases h : i = a
      · subst h; simp
      · simp [h]
  rw [argL, key, argT]
  split
  · rfl
  · rename_i h
    have : ¬ i < asx.length := by simpa using h
    simp [List.getD_eq_getElem?_getD, List.getElem?_eq_none (Nat.le_of_not_lt this)]

def TabOk (E : Env) (T : Tab) : Prop := (∀ f A np, T.fn f = some (A, np) → Fn E f A np) ∧ CPok E T.orc ∧ ∀ cp cs, CPok E cp → CSok E cs → CSok E (T.orcS cp cs)

theorem xF_sound {T : Tab} (hT : TabOk E T) (fuel : Nat) : ∀ d, CPok E (xF T fuel d).1 ∧ CSok E (xF T fuel d).2 := by
  intro d
  induction d with
  | zero => exact ⟨fun f asx r h => (by cases h), fun f asx h n r h' n' hx => (by cases hx)⟩
  | succ d ih =>
    constructor
    · intro f asx r hx
      simp only [xF] at hx
      split at hx
      · rename_i r' hr; obtain rfl := Option.some.inj hx; exact hT.2.1 _ _ _ hr
      · split at hx
        · cases hx
        · rename_i A np hA
          split at hx
          · rename_i hn
            subst hn
            refine callp_of (hT.1 _ _ _ hA) ?_
            have e0 : (⟨argT asx, fun _ => none, 0⟩ : St) = Sx.st ⟨argL asx, [], 0⟩ := by rw [Sx.st, argL_eq]; rfl
            rw [e0]
            split at hx
            · cases hx
            · cases hx
            · rename_i e s hne h1
              split at hx
              · cases hx
              · rename_i v hv
                refine xC_sound ih.1 ih.2 _ _ _ _ _ _ h1 ?_
                cases e with
                | exit i => exact absurd rfl (hne i)
                | normal => exact ⟨v, hv, hx⟩
                | ret => exact ⟨v, hv, hx⟩
          · cases hx
    · intro f asx h n r h' n' hx
      simp only [xF] at hx
      split at hx
      · rename_i r0 hr
        obtain rfl := Option.some.inj hx
        exact hT.2.2 _ _ ih.1 ih.2 _ _ _ _ _ _ _ hr
      · split at hx
        · cases hx
        rename_i A np hA
        split at hx
        · rename_i hn
          subst hn
          refine calls_of (hT.1 _ _ _ hA) ?_
          have e0 : (⟨argT asx, hm h, n⟩ : St) = Sx.st ⟨argL asx, h, n⟩ := by rw [Sx.st, argL_eq]
          rw [e0]
          split at hx
          · cases hx
          · cases hx
          · rename_i e s hne h1
            split at hx
            · cases hx
            · rename_i v hv
              simp only [Option.some.injEq, Prod.mk.injEq] at hx
              obtain ⟨rfl, rfl, rfl⟩ := hx
              refine xC_sound ih.1 ih.2 _ _ _ _ _ _ h1 ?_
              cases e with
              | exit i => exact absurd rfl (hne i)
              | normal => exact ⟨v, hv, rfl, rfl, rfl⟩
              | ret => exact ⟨v, hv, rfl, rfl, rfl⟩
        · cases hx

end Go.Proofs.YtablleokoifolaaGreatDoor

/- The error's number: errors.As at a target *api.Errno, by its contracts (turned from the worked toy 'toyas'). -/
set_option linter.unusedVariables false
set_option linter.unusedSimpArgs false
namespace Go.Proofs.YtablleokoifolaaGreatDoor
open Go.RowKit Go.Extern.Stop Go.Stop Go.Extern

/-- errors.As(nil, target). -/
theorem as_nil (t : Value) (w : World) :
    Calls Tryz.prog 32 #[.nilIface, t] w fun e w' => e = .returned (.bool false) ∧ w' = w := by
  go_enter Tryz.func32, Tryz.ntmps32
  go_wp2
  go_ret
  exact ⟨rfl, rfl⟩

theorem z_valueOf120 (t : Addr) (w : World) : (ReflectliteValue.unpack (.iface 120 (.pointer (some t)))).run Tryz.prog w
    = .ok (.agg #[.pointer (some ⟨2, 120, none⟩), .pointer (some ⟨w.heap.size, 0, none⟩), .int .u64 150]) (w.alloc (.cells #[.pointer (some t)] 120)) := by kernel_rfl
theorem z_type120 (a : Addr) (w : World) : (ReflectliteValue.methodAny (ReflectliteValue.valueError "reflectlite.Value.Type" 0) (fun t _ _ _ => ReflectliteType.toType t) #[.agg #[.pointer (some ⟨2, 120, none⟩), .pointer (some a), .int .u64 150]]).run Tryz.prog w
    = .ok (.iface 170 (.agg #[.pointer (some ⟨2, 120, none⟩)])) w := by kernel_rfl
theorem z_methodKind (h : Value) (w : World) : (Go.method 351 170 (.agg #[h]) "Kind").run Tryz.prog w = .ok (135, h) w := by kernel_rfl
theorem z_kind120 (w : World) : ((ReflectliteType.abiMethod fun t => (fun a : Nat => Value.int IntKind.u8 (a : Int)) <$> Rtype.kind t) #[.pointer (some ⟨2, 120, none⟩)]).run Tryz.prog w = .ok (.int .u8 22) w := by kernel_rfl
theorem z_kind104 (w : World) : ((ReflectliteType.abiMethod fun t => (fun a : Nat => Value.int IntKind.u8 (a : Int)) <$> Rtype.kind t) #[.pointer (some ⟨2, 104, none⟩)]).run Tryz.prog w = .ok (.int .u8 2) w := by kernel_rfl

theorem z_rlm (z : Sem Value) (f : TypeId → Addr → Nat → Nat → Sem Value) (v : Value) :
    ReflectliteValue.method z f #[v] = (do match ← ReflectliteValue.parts v with | none => z | some (t, a, fl) => f t a fl (fl % 32)) := rfl
theorem z_parts120 (a : Addr) (w : World) : (ReflectliteValue.parts (.agg #[.pointer (some ⟨2, 120, none⟩), .pointer (some a), .int .u64 150])).run Tryz.prog w = .ok (some (120, a, 150)) w := by kernel_rfl
theorem z_isNil120 (a p : Addr) (W : World) (ha : W.cell? a = some (.pointer (some p))) :
    (ReflectliteValue.method (ReflectliteValue.valueError "reflectlite.Value.IsNil" 0) ReflectliteValue.isNil #[.agg #[.pointer (some ⟨2, 120, none⟩), .pointer (some a), .int .u64 150]]).run Tryz.prog W = .ok (.bool false) W := by
  rw [z_rlm]
  simp only [Sem.run_bind, z_parts120, Result.andThen]
  simp [ReflectliteValue.isNil, loadVar, isAgg, underlying, Tryz.underlying120, ha, Result.andThen]

theorem z_methodElem (h : Value) (w : World) : (Go.method 351 170 (.agg #[h]) "Elem").run Tryz.prog w = .ok (145, .agg #[h]) w := by kernel_rfl
theorem z_methodImplements (h : Value) (w : World) : (Go.method 351 170 (.agg #[h]) "Implements").run Tryz.prog w = .ok (146, .agg #[h]) w := by kernel_rfl
theorem z_methodAssignableTo (h : Value) (w : World) : (Go.method 351 170 (.agg #[h]) "AssignableTo").run Tryz.prog w = .ok (143, .agg #[h]) w := by kernel_rfl
theorem z_elem120 (w : World) : (ReflectliteType.method ReflectliteType.elem #[.agg #[.pointer (some ⟨2, 120, none⟩)]]).run Tryz.prog w = .ok (.iface 170 (.agg #[.pointer (some ⟨2, 104, none⟩)])) w := by kernel_rfl
theorem z_implements104 (w : World) : (ReflectliteType.relation "Implements" ReflectliteType.implements_ #[.agg #[.pointer (some ⟨2, 104, none⟩)], .iface 170 (.agg #[.pointer (some ⟨2, 44, none⟩)])]).run Tryz.prog w = .ok (.bool true) w := by kernel_rfl
theorem z_typeOf104 (v : Value) (w : World) : (ReflectliteType.typeOf #[.iface 104 v]).run Tryz.prog w = .ok (.iface 170 (.agg #[.pointer (some ⟨2, 104, none⟩)])) w := by kernel_rfl
theorem z_assignable104 (w : World) : (ReflectliteType.relation "AssignableTo" ReflectliteType.assignableTo #[.agg #[.pointer (some ⟨2, 104, none⟩)], .iface 170 (.agg #[.pointer (some ⟨2, 104, none⟩)])]).run Tryz.prog w = .ok (.bool true) w := by kernel_rfl
theorem z_valueOf104 (n : Int) (w : World) : (ReflectliteValue.unpack (.iface 104 (.int .i64 n))).run Tryz.prog w
    = .ok (.agg #[.pointer (some ⟨2, 104, none⟩), .pointer (some ⟨w.heap.size, 0, none⟩), .int .u64 130]) (w.alloc (.cells #[.int .i64 n] 104)) := by kernel_rfl

theorem z_elemOf120 (w : World) : (Rtype.elem? 120).run Tryz.prog w = .ok (some 104) w := by kernel_rfl
theorem z_mk104 (p : Addr) (w : World) : (ReflectliteValue.mk 104 p ReflectliteValue.flagAddr).run Tryz.prog w = .ok (.agg #[.pointer (some ⟨2, 104, none⟩), .pointer (some p), .int .u64 386]) w := by kernel_rfl
theorem z_elemV120 (a p : Addr) (W : World) (ha : W.cell? a = some (.pointer (some p))) :
    (ReflectliteValue.method (ReflectliteValue.valueError "reflectlite.Value.Elem" 0) ReflectliteValue.elem #[.agg #[.pointer (some ⟨2, 120, none⟩), .pointer (some a), .int .u64 150]]).run Tryz.prog W
      = .ok (.agg #[.pointer (some ⟨2, 104, none⟩), .pointer (some p), .int .u64 386]) W := by
  rw [z_rlm]
  simp only [Sem.run_bind, z_parts120, Result.andThen]
  simp [ReflectliteValue.elem, loadVar, isAgg, underlying, Tryz.underlying120, ha, Result.andThen, z_elemOf120, z_mk104]
theorem z_rls (v x : Value) : ReflectliteValue.set #[v, x] = (do
    let (some (dst, a, fl), some (src, b, _)) := (← ReflectliteValue.parts v, ← ReflectliteValue.parts x)
      | unsupported (.noEntry "extern/(internal/reflectlite.Value).Set.zeroValue")
    if fl / ReflectliteValue.flagAddr % 2 == 0 then unsupported (.noEntry "extern/(internal/reflectlite.Value).Set.unaddressable")
    let val ← loadVar src b
    if ← Rtype.directlyAssignable dst src then storeVar dst a val
    else if ← Rtype.implements dst src then
      if (← Rtype.kind src) == 20 then
        match val with
        | .nilIface => unsupported (.noEntry "extern/reflectlite: a nil value of one interface type handed on as a value of another")
        | _ => storeVar dst a val
      else storeVar dst a (.iface src val)
    else panicString ("reflectlite.Set: value of type " ++ (← Rtype.spelt src) ++ " is not assignable to type " ++ (← Rtype.spelt dst))
    pure (.tuple #[])) := rfl
theorem z_parts104a (a : Addr) (w : World) : (ReflectliteValue.parts (.agg #[.pointer (some ⟨2, 104, none⟩), .pointer (some a), .int .u64 386])).run Tryz.prog w = .ok (some (104, a, 386)) w := by kernel_rfl
theorem z_parts104 (a : Addr) (w : World) : (ReflectliteValue.parts (.agg #[.pointer (some ⟨2, 104, none⟩), .pointer (some a), .int .u64 130])).run Tryz.prog w = .ok (some (104, a, 130)) w := by kernel_rfl
theorem z_direct104 (w : World) : (Rtype.directlyAssignable 104 104).run Tryz.prog w = .ok true w := by kernel_rfl
theorem z_set104 (ta b : Addr) (n : Int) (old : Value) (W : World) (hb : W.cell? b = some (.int .i64 n)) (ht : W.cell? ta = some old) (hf : W.frozen? ta = false) :
    (ReflectliteValue.set #[.agg #[.pointer (some ⟨2, 104, none⟩), .pointer (some ta), .int .u64 386], .agg #[.pointer (some ⟨2, 104, none⟩), .pointer (some b), .int .u64 130]]).run Tryz.prog W
      = .ok (.tuple #[]) (W.setCell ta (.int .i64 n)) := by
  rw [z_rls]
  simp only [Sem.run_bind, z_parts104a, z_parts104, Result.andThen]
  simp [ReflectliteValue.flagAddr, loadVar, isAgg, underlying, Tryz.underlying104, hb, Result.andThen, z_direct104, storeVar, Value.cells, storeCells, Addr.add]
  rw [run_store Tryz.prog W ta _ _ (by rfl)]
  simp [ht, hf]

set_option maxRecDepth 100000 in
set_option maxHeartbeats 4000000 in
theorem as_hit (n : Int) (t : Addr) (old : Value) (w : World) (hg : w.cell? ⟨0, 0, none⟩ = some (.iface 170 (.agg #[.pointer (some ⟨2, 44, none⟩)]))) (ht0 : w.cell? t = some old) (hf0 : w.frozen? t = false) :
    Calls Tryz.prog 32 #[.iface 104 (.int .i64 n), .iface 120 (.pointer (some t))] w fun ev w' => ev = .returned (.bool true) ∧ w' = ((((w.alloc (.cells #[.pointer (some t)] 120)).alloc (.cells #[.pointer (some ⟨2, 120, none⟩), .pointer (some ⟨w.heap.size, 0, none⟩), .int .u64 150] 139)).alloc (.cells #[.pointer (some ⟨2, 120, none⟩), .pointer (some ⟨w.heap.size, 0, none⟩), .int .u64 150] 139)).alloc (.cells #[.int .i64 n] 104)).setCell t (.int .i64 n) := by
  have h6 := @run_callFunc_extern Tryz.prog 52 _ (fun args => ReflectliteValue.unpack (args.getD 0 (.tuple #[]))) Tryz.func52 (by kernel_rfl) (by kernel_rfl) (by kernel_rfl) (by kernel_rfl)
  have h7 := @run_callFunc_extern Tryz.prog 53 _ (ReflectliteValue.methodAny (ReflectliteValue.valueError "reflectlite.Value.Type" 0) (fun t _ _ _ => ReflectliteType.toType t)) Tryz.func53 (by kernel_rfl) (by kernel_rfl) (by kernel_rfl) (by kernel_rfl)
  have h8 := @run_callFunc_extern Tryz.prog 54 _ (ReflectliteValue.method (ReflectliteValue.valueError "reflectlite.Value.IsNil" 0) ReflectliteValue.isNil) Tryz.func54 (by kernel_rfl) (by kernel_rfl) (by kernel_rfl) (by kernel_rfl)
  have h27 := @run_callFunc_extern Tryz.prog 135 _ (ReflectliteType.abiMethod fun t => do pure (.int .u8 (← Rtype.kind t))) Tryz.func135 (by kernel_rfl) (by kernel_rfl) (by kernel_rfl) (by kernel_rfl)
  have h37 := @run_callFunc_extern Tryz.prog 145 _ (ReflectliteType.method ReflectliteType.elem) Tryz.func145 (by kernel_rfl) (by kernel_rfl) (by kernel_rfl) (by kernel_rfl)
  have h38 := @run_callFunc_extern Tryz.prog 146 _ (ReflectliteType.relation "Implements" ReflectliteType.implements_) Tryz.func146 (by kernel_rfl) (by kernel_rfl) (by kernel_rfl) (by kernel_rfl)
  have h10 := @run_callFunc_extern Tryz.prog 72 _ ReflectliteType.typeOf Tryz.func72 (by kernel_rfl) (by kernel_rfl) (by kernel_rfl) (by kernel_rfl)
  have h35 := @run_callFunc_extern Tryz.prog 143 _ (ReflectliteType.relation "AssignableTo" ReflectliteType.assignableTo) Tryz.func143 (by kernel_rfl) (by kernel_rfl) (by kernel_rfl) (by kernel_rfl)
  have h11 := @run_callFunc_extern Tryz.prog 73 _ (ReflectliteValue.method (ReflectliteValue.valueError "reflectlite.Value.Elem" 0) ReflectliteValue.elem) Tryz.func73 (by kernel_rfl) (by kernel_rfl) (by kernel_rfl) (by kernel_rfl)
  have h12 := @run_callFunc_extern Tryz.prog 74 _ ReflectliteValue.set Tryz.func74 (by kernel_rfl) (by kernel_rfl) (by kernel_rfl) (by kernel_rfl)
  have tO := z_typeOf104
  have mA := z_methodAssignableTo
  have a25 := z_assignable104
  have v25 := z_valueOf104
  have f6 := z_valueOf120
  have f7 := z_type120
  have mK := z_methodKind
  have mE := z_methodElem
  have mI := z_methodImplements
  have k27 := z_kind120
  have k25 := z_kind104
  have e27 := z_elem120
  have i25 := z_implements104
  have n8 := z_isNil120 ⟨w.heap.size, 0, none⟩ t ((w.alloc (.cells #[.pointer (some t)] 120)).alloc (.cells #[.pointer (some ⟨2, 120, none⟩), .pointer (some ⟨w.heap.size, 0, none⟩), .int .u64 150] 139)) (by simp)
  have hlt : 0 < w.heap.size := by
    rcases Nat.eq_zero_or_pos w.heap.size with h0 | h
    · simp [World.cell?, h0] at hg
    · exact h
  have hg2 : ((w.alloc (.cells #[.pointer (some t)] 120)).alloc (.cells #[.pointer (some ⟨2, 120, none⟩), .pointer (some ⟨w.heap.size, 0, none⟩), .int .u64 150] 139)).cell? ⟨0, 0, none⟩ = some (.iface 170 (.agg #[.pointer (some ⟨2, 44, none⟩)])) := by
    rw [World.cell?_alloc_lt _ _ ⟨0, 0, none⟩ (by simp), World.cell?_alloc_lt _ _ ⟨0, 0, none⟩ hlt]; exact hg
  have htl : t.block < w.heap.size := by
    rcases Nat.lt_or_ge t.block w.heap.size with h | h
    · exact h
    · simp [World.cell?, Array.getElem?_eq_none h] at ht0
  have el := z_elemV120 ⟨w.heap.size, 0, none⟩ t (((w.alloc (.cells #[.pointer (some t)] 120)).alloc (.cells #[.pointer (some ⟨2, 120, none⟩), .pointer (some ⟨w.heap.size, 0, none⟩), .int .u64 150] 139)).alloc (.cells #[.pointer (some ⟨2, 120, none⟩), .pointer (some ⟨w.heap.size, 0, none⟩), .int .u64 150] 139)) (by rw [World.cell?_alloc_lt _ _ ⟨w.heap.size, 0, none⟩ (by simp; omega)]; simp)
  have st := z_set104 t ⟨w.heap.size + 1 + 1 + 1, 0, none⟩ n old ((((w.alloc (.cells #[.pointer (some t)] 120)).alloc (.cells #[.pointer (some ⟨2, 120, none⟩), .pointer (some ⟨w.heap.size, 0, none⟩), .int .u64 150] 139)).alloc (.cells #[.pointer (some ⟨2, 120, none⟩), .pointer (some ⟨w.heap.size, 0, none⟩), .int .u64 150] 139)).alloc (.cells #[.int .i64 n] 104))
    (by rw [World.cell?_alloc_at _ _ _ _ (by simp)]; rfl)
    (by rw [World.cell?_alloc_lt _ _ t (by simp; omega), World.cell?_alloc_lt _ _ t (by simp; omega), World.cell?_alloc_lt _ _ t (by simp; omega), World.cell?_alloc_lt _ _ t htl]; exact ht0)
    (by rw [World.frozen?_alloc_old _ _ t (by simp; omega), World.frozen?_alloc_old _ _ t (by simp; omega), World.frozen?_alloc_old _ _ t (by simp; omega), World.frozen?_alloc_old _ _ t (Nat.ne_of_lt htl)]; exact hf0)
  go_enter Tryz.func32, Tryz.ntmps32
  go_wp2
  refine wp_loop_rounds 1 ?_
  rw [rounds_succ]
  go_wp2
  go_ret
  exact ⟨rfl, rfl⟩
end Go.Proofs.YtablleokoifolaaGreatDoor

/- The law's num: an error's number, as a pure contract. -/
set_option linter.unusedVariables false
set_option linter.unusedSimpArgs false
namespace Go.Proofs.YtablleokoifolaaGreatDoor
open Go.RowKit Go.Extern.Stop Go.Stop Go.Extern

set_option maxHeartbeats 4000000 in
theorem num_nil (w : World) : Calls Tryz.prog 17 #[.nilIface] w fun e w' => e = .returned (.int .i64 0) ∧ w' = w.alloc (.cells #[.int .i64 0] 104) := by
  go_enter Tryz.func17, Tryz.ntmps17
  go_wp2_with (first | (go_at_call 32; refine (as_nil _ _).mono ?_; rintro e w' ⟨rfl, rfl⟩))
  go_ret
  exact ⟨rfl, rfl⟩

set_option maxRecDepth 100000 in
set_option maxHeartbeats 4000000 in
theorem num_hit (n : Int) (w : World) (hg : w.cell? ⟨0, 0, none⟩ = some (.iface 170 (.agg #[.pointer (some ⟨2, 44, none⟩)]))) :
    Calls Tryz.prog 17 #[.iface 104 (.int .i64 n)] w fun e w' => e = .returned (.int .i64 n) ∧ ∃ o0 o1 o2 o3 o4, w' = ((((w.alloc o0).alloc o1).alloc o2).alloc o3).alloc o4 := by
  have hlt : 0 < w.heap.size := by
    rcases Nat.eq_zero_or_pos w.heap.size with h0 | h
    · simp [World.cell?, h0] at hg
    · exact h
  have hgA : (w.alloc (.cells #[.int .i64 0] 104)).cell? ⟨0, 0, none⟩ = some (.iface 170 (.agg #[.pointer (some ⟨2, 44, none⟩)])) := by
    rw [World.cell?_alloc_lt _ _ ⟨0, 0, none⟩ hlt]; exact hg
  have htA : (w.alloc (.cells #[.int .i64 0] 104)).cell? ⟨w.heap.size, 0, none⟩ = some (.int .i64 0) := by simp
  have hfA : (w.alloc (.cells #[.int .i64 0] 104)).frozen? ⟨w.heap.size, 0, none⟩ = false := by simp
  go_enter Tryz.func17, Tryz.ntmps17
  go_wp2_with (first | (go_at_call 32; refine (as_hit n _ (.int .i64 0) _ hgA htA hfA).mono ?_; rintro e w' ⟨rfl, rfl⟩))
  go_ret
  exact ⟨rfl, _, _, _, _, _, rfl⟩

theorem fnOk_num : FnOk E 9 := ⟨Tryz.f17, Tryz.func17, by kernel_rfl, by kernel_rfl⟩

theorem pure_alloc {w w1 : World} {F : Nat → Prop} {r : AV} {v : Value} (p : PureEnd E w F r v w1 F) (hr : ∀ H, RVF E H F r v) (o : Obj) : PureEnd E w F r v (w1.alloc o) F where
  rv := hr _
  fmono := p.fmono
  fnew := p.fnew
  fsz b hb := by have := p.fsz b hb; rw [World.size_alloc]; omega
  size := by have := p.size; rw [World.size_alloc]; omega
  same b hb := by
    have := p.size
    have e : (w1.alloc o).heap[b]? = w1.heap[b]? := getElem?_push_lt' (by omega)
    rw [e]; exact p.same b hb
  wx := p.wx.trans ⟨rfl, rfl, rfl⟩

theorem pure_refl {w : World} {F : Nat → Prop} {r : AV} {v : Value} (hF : ∀ b, F b → b < w.heap.size) (hr : RVF E w.heap F r v) : PureEnd E w F r v w F :=
  ⟨hr, fun _ h => h, fun _ h => .inl h, hF, Nat.le_refl _, fun _ _ => rfl, WX.refl w⟩

theorem cellH_cell {w : World} {b : Nat} {v : Value} (h : cellH w.heap b = some v) : w.cell? ⟨b, 0, none⟩ = some v := by
  unfold cellH at h
  unfold World.cell?
  cases hb : w.heap[b]? with
  | none => simp [hb] at h
  | some o => cases o <;> simp_all

theorem c_num_nil : ACallP E 9 [.nili] (.int .i64 0) := by
  refine ⟨fnOk_num, fun w F vs hgb hgo hF hl hrv => ?_⟩
  have h0 := hrv 0 (by simp)
  obtain ⟨v, rfl⟩ : ∃ v, vs = #[v] := by
    match vs, hl with
    | ⟨[v]⟩, _ => exact ⟨v, rfl⟩
  simp only [List.getD_cons_zero] at h0
  have hv : v = .nilIface := by
    have : (#[v] : Array Value).getD 0 Go.undef = v := rfl
    rw [this] at h0
    cases h0; rfl
  subst hv
  refine (num_nil w).mono ?_
  rintro e w' ⟨rfl, rfl⟩
  exact ⟨_, F, rfl, pure_alloc (pure_refl hF (.int _ _)) (fun _ => .int _ _) _⟩

theorem c_num (n : Int) : ACallP E 9 [.iface 45 (.int .i64 n)] (.int .i64 n) := by
  refine ⟨fnOk_num, fun w F vs hgb hgo hF hl hrv => ?_⟩
  have h0 := hrv 0 (by simp)
  obtain ⟨v, rfl⟩ : ∃ v, vs = #[v] := by
    match vs, hl with
    | ⟨[v]⟩, _ => exact ⟨v, rfl⟩
  have hv : v = .iface 104 (.int .i64 n) := by
    have : (#[v] : Array Value).getD 0 Go.undef = v := rfl
    rw [this] at h0
    simp only [List.getD_cons_zero] at h0
    cases h0 with
    | iface _ _ u hu => cases hu; rfl
  subst hv
  refine (num_hit n w (cellH_cell hgo.1)).mono ?_
  rintro e w' ⟨rfl, o0, o1, o2, o3, o4, rfl⟩
  exact ⟨_, F, rfl, pure_alloc (pure_alloc (pure_alloc (pure_alloc (pure_alloc (pure_refl hF (.int _ _)) (fun _ => .int _ _) _) (fun _ => .int _ _) _) (fun _ => .int _ _) _) (fun _ => .int _ _) _) (fun _ => .int _ _) _⟩

end Go.Proofs.YtablleokoifolaaGreatDoor

/- Searching in strings: internal/stringslite.Index, as a pure contract (off the kit's shelf). -/
set_option linter.unusedVariables false
namespace Go.Proofs.YtablleokoifolaaGreatDoor
open Go.Shelf
/-- The shelf's numbers as this program's. -/
def renS : Ren :=
  { f := fun x => match x with
      | 219 => 114 | 217 => 115 | 225 => 116 | 224 => 117 | 267 => 118 | 266 => 119 | 314 => 120
      | n => n
    t := fun x => match x with
      | 9 => 9 | 3 => 3 | 4 => 4 | 5 => 5 | 46 => 71 | 146 => 220 | 51 => 59
      | n => n
    g := fun x => match x with
      | 1 => 1
      | n => n }
theorem lays219 : Lays.n219 Tryz.prog renS :=
  { mixed := Eq.refl true,
    f217 := Tryz.func115.trans (congrArg some (Eq.refl (Body.n217 renS))), f219 := Tryz.func114.trans (congrArg some (Eq.refl (Body.n219 renS))), f224 := Tryz.func117.trans (congrArg some (Eq.refl (Body.n224 renS))),
    f225 := Tryz.func116.trans (congrArg some (Eq.refl (Body.n225 renS))), f266 := Tryz.func119.trans (congrArg some (Eq.refl (Body.n266 renS))), f267 := Tryz.func118.trans (congrArg some (Eq.refl (Body.n267 renS))),
    f314 := Tryz.func120.trans (congrArg some (Eq.refl (Body.n314 renS))),
    t3 := Tryz.underlying3, a3 := Tryz.isAgg3, z3 := Tryz.sizeOf3, v3 := Tryz.zeroValue3, t4 := Tryz.underlying4, a4 := Tryz.isAgg4, z4 := Tryz.sizeOf4, v4 := Tryz.zeroValue4,
    t5 := Tryz.underlying5, a5 := Tryz.isAgg5, z5 := Tryz.sizeOf5, v5 := Tryz.zeroValue5, t9 := Tryz.underlying9, a9 := Tryz.isAgg9, z9 := Tryz.sizeOf9, v9 := Tryz.zeroValue9,
    t46 := Tryz.underlying71, a46 := Tryz.isAgg71, z46 := Tryz.sizeOf71, v46 := Tryz.zeroValue71, t51 := Tryz.underlying59, a51 := Tryz.isAgg59, z51 := Tryz.sizeOf59, v51 := Tryz.zeroValue59,
    t146 := Tryz.underlying220, a146 := Tryz.isAgg220, z146 := Tryz.sizeOf220, v146 := Tryz.zeroValue220, g1 := by kernel_rfl }

open Go.RowKit Go.Lib in
theorem index_calls (s sub : ByteArray) (m : Int) (w : World) (hs : s.size < 4294967281) (hm : w.cell? ⟨1, 0, none⟩ = some (.int .i64 m)) :
    Calls Tryz.prog 114 #[.string s, .string sub] w fun e w' => e = .returned (.int .i64 (Lib.index s.data.toList sub.data.toList)) ∧ w' = w := Any.stringslite_Index lays219 s sub m w hs hm

theorem fnOk_index : FnOk E 106 := ⟨Tryz.f114, Tryz.func114, by kernel_rfl, by kernel_rfl⟩

theorem c_index (s sub : ByteArray) (hs : s.size < 4294967281) : ACallP E 106 [.str s, .str sub] (.int .i64 (Lib.index s.data.toList sub.data.toList)) := by
  refine ⟨fnOk_index, fun w F vs hgb hgo hF hl hrv => ?_⟩
  have h0 := hrv 0 (by simp)
  have h1 := hrv 1 (by simp)
  obtain ⟨v, u, rfl⟩ : ∃ v u, vs = #[v, u] := by
    match vs, hl with
    | ⟨[v, u]⟩, _ => exact ⟨v, u, rfl⟩
  have e0 : (#[v, u] : Array Value).getD 0 Go.undef = v := rfl
  have e1 : (#[v, u] : Array Value).getD 1 Go.undef = u := rfl
  rw [e0] at h0
  rw [e1] at h1
  simp only [List.getD_cons_zero, List.getD_cons_succ] at h0 h1
  cases h0
  cases h1
  obtain ⟨m, hm⟩ := hgo.2
  refine (index_calls s sub m w hs (cellH_cell hm)).mono ?_
  rintro e w' ⟨rfl, rfl⟩
  exact ⟨_, F, rfl, pure_refl hF (.int _ _)⟩
end Go.Proofs.YtablleokoifolaaGreatDoor

/- The interpreter's table of functions, and what it leans on. Written by a program of this claim set (mktab.py). -/
set_option linter.unusedVariables false
set_option maxRecDepth 100000
namespace Go.Proofs.YtablleokoifolaaGreatDoor
open Go

def TL : List (Nat × AFun × Nat) := [
  (2, F_law08_sure, 0),
  (4, F_valid_Check, 1),
  (6, F_valid_Body, 2),
  (7, F_valid_Height, 2),
  (9, F_law08_num, 1),
  (20, F_valid_Check_1, 1),
  (29, F_valid_Check_1_1, 2),
  (21, F_slices_ContainsFunc_api_Limits_api_Limits, 2),
  (22, F_valid_outer, 1),
  (24, F_valid_check, 2),
  (30, F_slices_IndexFunc_api_Limits_api_Limits, 2),
  (31, F_valid_kinds, 1),
  (32, F_valid_bounds, 1),
  (33, F_valid_value, 2),
  (35, F_slices_ContainsFunc_uint32_uint32, 2),
  (34, F_valid_outer_1, 2),
  (36, F_valid_exported, 1),
  (38, F_slices_Concat_api_Kind_api_Kind, 1),
  (39, F_valid_checker_list, 2),
  (40, F_valid_checker_take, 2),
  (49, F_valid_kinds_1, 1),
  (50, F_valid_result, 1),
  (51, F_slices_ContainsFunc_api_Kind_api_Kind, 2),
  (53, F_slices_ContainsFunc_api_Global_api_Global, 2),
  (52, F_valid_kinds_2, 2),
  (54, F_slices_IndexFunc_uint32_uint32, 2),
  (68, F_slices_Grow_api_Kind_api_Kind, 2),
  (55, F_valid_checker_control, 2),
  (56, F_valid_checker_simple, 2),
  (66, F_slices_IndexFunc_api_Kind_api_Kind, 2),
  (67, F_slices_IndexFunc_api_Global_api_Global, 2),
  (69, F_valid_checker_leave, 1),
  (70, F_valid_checker_inner, 4),
  (71, F_valid_checker_lay, 2),
  (72, F_valid_checker_label, 2),
  (73, F_valid_checker_table, 2),
  (75, F_valid_checker_call, 2),
  (74, F_valid_checker_function, 2),
  (76, F_valid_checker_typ, 2),
  (77, F_valid_checker_local, 2),
  (78, F_valid_checker_global, 2),
  (79, F_valid_checker_plain, 2),
  (85, F_ops_Sign, 1),
  (86, F_ops_Bytes, 1),
  (87, F_ops_Form, 1),
  (88, F_ops_Name, 1),
  (89, F_ops_own, 1),
  (90, F_ops_reckoned, 1),
  (91, F_strings_CutSuffix, 2),
  (92, F_strings_TrimSuffix, 2),
  (93, F_strings_HasSuffix, 2),
  (96, F_ops_names, 0),
  (97, F_strings_HasPrefix, 2),
  (98, F_strings_Cut, 2),
  (99, F_strings_Contains, 2),
  (100, F_stringslite_CutSuffix, 2),
  (101, F_stringslite_TrimSuffix, 2),
  (102, F_stringslite_HasSuffix, 2),
  (103, F_stringslite_HasPrefix, 2),
  (104, F_stringslite_Cut, 2),
  (105, F_strings_Index, 2)]

theorem TL_ok : ∀ e ∈ TL, Fn E e.1 e.2.1 e.2.2 := by
  unfold TL
  simp only [List.forall_mem_cons]
  exact ⟨fn_law08_sure, fn_valid_Check, fn_valid_Body, fn_valid_Height, fn_law08_num, fn_valid_Check_1, fn_valid_Check_1_1, fn_slices_ContainsFunc_api_Limits_api_Limits, fn_valid_outer, fn_valid_check, fn_slices_IndexFunc_api_Limits_api_Limits, fn_valid_kinds, fn_valid_bounds, fn_valid_value, fn_slices_ContainsFunc_uint32_uint32, fn_valid_outer_1, fn_valid_exported, fn_slices_Concat_api_Kind_api_Kind, fn_valid_checker_list, fn_valid_checker_take, fn_valid_kinds_1, fn_valid_result, fn_slices_ContainsFunc_api_Kind_api_Kind, fn_slices_ContainsFunc_api_Global_api_Global, fn_valid_kinds_2, fn_slices_IndexFunc_uint32_uint32, fn_slices_Grow_api_Kind_api_Kind, fn_valid_checker_control, fn_valid_checker_simple, fn_slices_IndexFunc_api_Kind_api_Kind, fn_slices_IndexFunc_api_Global_api_Global, fn_valid_checker_leave, fn_valid_checker_inner, fn_valid_checker_lay, fn_valid_checker_label, fn_valid_checker_table, fn_valid_checker_call, fn_valid_checker_function, fn_valid_checker_typ, fn_valid_checker_local, fn_valid_checker_global, fn_valid_checker_plain, fn_ops_Sign, fn_ops_Bytes, fn_ops_Form, fn_ops_Name, fn_ops_own, fn_ops_reckoned, fn_strings_CutSuffix, fn_strings_TrimSuffix, fn_strings_HasSuffix, fn_ops_names, fn_strings_HasPrefix, fn_strings_Cut, fn_strings_Contains, fn_stringslite_CutSuffix, fn_stringslite_TrimSuffix, fn_stringslite_HasSuffix, fn_stringslite_HasPrefix, fn_stringslite_Cut, fn_strings_Index, fun _ h => by cases h⟩

def Tfn (f : Nat) : Option (AFun × Nat) := (TL.find? fun e => e.1 == f).map (·.2)
def torc : CP
  | 9, [.nili] => some (.int .i64 0)
  | 9, [.iface 45 (.int .i64 n)] => some (.int .i64 n)
  | 106, [.str a, .str b] => if a.size < 4294967281 then some (.int .i64 (Lib.index a.data.toList b.data.toList)) else none
  | _, _ => none
def TT : Tab := ⟨Tfn, torc, fun _ _ _ _ _ _ => none⟩

theorem TT_ok : TabOk E TT := by
  refine ⟨fun f A np h => ?_, fun f ar r h => ?_, fun _ _ _ _ f ar h n r h' n' hx => by cases hx⟩
  · simp only [TT, Tfn] at h
    obtain ⟨e, he, h⟩ := Option.map_eq_some_iff.1 h
    have h1 := List.find?_some he
    have h2 := List.mem_of_find?_eq_some he
    have := TL_ok e h2
    simp only [beq_iff_eq] at h1
    rw [h1, h] at this
    exact this
  · simp only [TT] at h
    unfold torc at h
    split at h
    · obtain rfl := Option.some.inj h; exact c_num_nil
    · obtain rfl := Option.some.inj h; exact c_num _
    · split at h
      · rename_i hs; obtain rfl := Option.some.inj h; exact c_index _ _ hs
      · cases h
    · cases h

/-- A closed call. -/
theorem run_ok {f : Nat} {ar : List AV} {r : AV} (d : Nat) (h : (xF TT 3000 d).1 f ar = some r) : ACallP E f ar r := (xF_sound TT_ok 3000 d).1 f ar r h

theorem c_sure : ACallP E 2 [] (.bool true) := run_ok 60 (by kernel_rfl)

end Go.Proofs.YtablleokoifolaaGreatDoor

/- Own abstract machine: rules and rewriting for walking abstract code. -/
set_option linter.unusedVariables false
set_option linter.unusedSimpArgs false
namespace Go.Proofs.YtablleokoifolaaGreatDoor
open Go

variable {E : Env} {nt : Nat}

theorem ex3 {P : IntKind → Int → Prop} {a : IntKind} {h : Int} : (∃ av h', (a = av ∧ h = h') ∧ P av h') ↔ P a h := ⟨by rintro ⟨_, _, ⟨rfl, rfl⟩, h⟩; exact h, fun h => ⟨_, _, ⟨rfl, rfl⟩, h⟩⟩
theorem ex4 {P : AV → Hp → Prop} {a : AV} {h : Hp} {c : Prop} : (∃ av h', (c ∧ a = av ∧ h = h') ∧ P av h') ↔ c ∧ P a h := ⟨by rintro ⟨_, _, ⟨hc, rfl, rfl⟩, h⟩; exact ⟨hc, h⟩, fun ⟨hc, h⟩ => ⟨_, _, ⟨hc, rfl, rfl⟩, h⟩⟩
theorem ex5 {P : AV → Hp → Prop} {m : Option AV} {h : Hp} {c : Prop} : (∃ av h', (c ∧ ∃ a, m = some a ∧ a = av ∧ h = h') ∧ P av h') ↔ c ∧ ∃ a, m = some a ∧ P a h :=
  ⟨by rintro ⟨_, _, ⟨hc, a, hm, rfl, rfl⟩, h⟩; exact ⟨hc, a, hm, h⟩, fun ⟨hc, a, hm, h⟩ => ⟨_, _, ⟨hc, a, hm, rfl, rfl⟩, h⟩⟩
theorem ex2 {P : AV → Hp → Prop} {a : AV} {h : Hp} : (∃ av h', (a = av ∧ h = h') ∧ P av h') ↔ P a h := ⟨by rintro ⟨_, _, ⟨rfl, rfl⟩, h⟩; exact h, fun h => ⟨_, _, ⟨rfl, rfl⟩, h⟩⟩

/-- The next region, what follows behind a name. -/
theorem AW.rs (W : Nat → Nat → Nat → Prop) {res : Nat} {ops : List AOper} {dr : Bool} {live : List Nat} {b : ACode} {Q : AExit → St → Prop} {s : St}
    (h : ∀ K : St → Prop, (∀ s', AW E nt b Q s' → K s') → AWL E dr s.n W ops (fun s' => K ⟨prune live s'.t, s'.h, s'.n⟩) ⟨s.t, s.h, s.n + res⟩) : AW E nt (.seq (.reg res ops dr live) b) Q s :=
  AW.seq (AW.reg W (h (fun s' => AW E nt b Q s') (fun _ h => h)))

theorem AW.r1 (W : Nat → Nat → Nat → Prop) {res : Nat} {ops : List AOper} {dr : Bool} {live : List Nat} {Q : AExit → St → Prop} {s : St}
    (h : ∀ K : St → Prop, (∀ s', Q .normal s' → K s') → AWL E dr s.n W ops (fun s' => K ⟨prune live s'.t, s'.h, s'.n⟩) ⟨s.t, s.h, s.n + res⟩) : AW E nt (.reg res ops dr live) Q s :=
  AW.reg W (h (fun s' => Q .normal s') (fun _ h => h))

section
variable {W : Nat → Nat → Nat → Prop} {dr : Bool} {base : Nat} {r : List AOper} {K : St → Prop} {t : Nat → AV} {h : Hp} {n : Nat} {d : Option Nat}

theorem AWL_nil : AWL E dr base W [] K ⟨t, h, n⟩ ↔ K ⟨t, h, n⟩ := Iff.rfl

theorem AWL_guard {op : AOp} {j g : Nat} {b : Bool} : AWL E dr base W (⟨d, op, some (j, g, b)⟩ :: r) K ⟨t, h, n⟩ ↔
    (match t g with
     | .bool c => if c = b then AWL E dr base W (⟨d, op, none⟩ :: r) K ⟨t, h, n⟩ else AWL E dr base W r K ⟨putT d t .hole, h, n⟩
     | .hole => AWL E dr base W r K ⟨putT d t .hole, h, n⟩
     | _ => False) := by
  simp only [AWL, AW1, wantA]
  cases t g <;> simp only [] <;> first | rfl | skip
  rename_i c
  cases c <;> cases b <;> simp [ex2, ex3, ex4, ex5]

theorem AWL_mov {x : AX} : AWL E dr base W (⟨d, .mov x, none⟩ :: r) K ⟨t, h, n⟩ ↔ AWL E dr base W r K ⟨putT d t (evX t x), h, n⟩ := by
  simp [AWL, AW1, wantA, aval, rdOk, ex2]
theorem AWL_asg {x : AX} : AWL E dr base W (⟨d, .asg x, none⟩ :: r) K ⟨t, h, n⟩ ↔ AWL E dr base W r K ⟨putT d t (evX t x), h, n⟩ := by
  simp [AWL, AW1, wantA, aval, rdOk, ex2]
theorem AWL_pick {c a b : AX} : AWL E dr base W (⟨d, .pick c a b, none⟩ :: r) K ⟨t, h, n⟩ ↔ ∃ q, evX t c = .bool q ∧ AWL E dr base W r K ⟨putT d t (apick q (evX t a) (evX t b)), h, n⟩ := by
  simp only [AWL, AW1, wantA, aval, rdOk]
  cases evX t c <;> simp [ex2, ex3, ex4, ex5]
theorem AWL_alloc {k c : Nat} {zs : List AV} : AWL E dr base W (⟨d, .alloc k c zs, none⟩ :: r) K ⟨t, h, n⟩ ↔
    AWL E dr base W r K ⟨putT d t (.ptr (base + k) 0 0), upd h (base + k) (some (.row false zs.length [zs])), n⟩ := by
  simp [AWL, AW1, wantA, aval, rdOk, ex2]
theorem AWL_box {k c : Nat} {x : AX} : AWL E dr base W (⟨d, .box k c x, none⟩ :: r) K ⟨t, h, n⟩ ↔
    (0 < (cellsL (evX t x)).length ∧ sto (evX t x) = true) ∧ AWL E dr base W r K ⟨putT d t (.ptr (base + k) 0 0), upd h (base + k) (some (.row false (cellsL (evX t x)).length [cellsL (evX t x)])), n⟩ := by
  simp only [AWL, AW1, wantA, aval, rdOk, bval]
  constructor
  · rintro ⟨av, h', h1, _, h3⟩
    split at h1
    · rename_i hc
      simp only [Option.some.injEq, Prod.mk.injEq] at h1
      obtain ⟨rfl, rfl⟩ := h1
      exact ⟨hc, h3⟩
    · cases h1
  · rintro ⟨hc, h3⟩
    exact ⟨_, _, by rw [if_pos hc], fun _ => trivial, h3⟩
theorem AWL_build {c : Nat} {zs : List AV} {ps : List (Nat × Nat × Nat × AX)} : AWL E dr base W (⟨d, .build c zs ps, none⟩ :: r) K ⟨t, h, n⟩ ↔
    ∃ cs, afill zs (ps.map fun p => (p.2.1, p.2.2.1, evX t p.2.2.2)) = some cs ∧ AWL E dr base W r K ⟨putT d t (.agg cs), h, n⟩ := by
  simp only [AWL, AW1, wantA, aval, rdOk]
  cases afill zs (ps.map fun p => (p.2.1, p.2.2.1, evX t p.2.2.2)) <;> simp [ex2, ex3, ex4, ex5]
theorem AWL_bslice {k c m : Nat} {zs : List AV} {ps : List (Nat × AX)} : AWL E dr base W (⟨d, .bslice k c zs m ps, none⟩ :: r) K ⟨t, h, n⟩ ↔
    ∃ es, afillE zs.length (List.replicate m zs) (ps.map fun p => (p.1, evX t p.2)) = some es ∧
      AWL E dr base W r K ⟨putT d t (.sl (base + k) 0 m), upd h (base + k) (some (.row false zs.length es)), n⟩ := by
  simp only [AWL, AW1, wantA, aval, rdOk]
  cases afillE zs.length (List.replicate m zs) (ps.map fun p => (p.1, evX t p.2)) <;> simp [ex2, ex3, ex4, ex5]
theorem AWL_bslv {k c m : Nat} {zs : List AV} {ps : List (Nat × AX)} : AWL E dr base W (⟨d, .bslv k c zs m ps, none⟩ :: r) K ⟨t, h, n⟩ ↔
    ∃ es, afillE zs.length (List.replicate m zs) (ps.map fun p => (p.1, evX t p.2)) = some es ∧ es.all (fun c => c.all kf0) = true ∧
      AWL E dr base W r K ⟨putT d t (.slv (es.map fun c => c.map nz)), h, n⟩ := by
  simp only [AWL, AW1, wantA]
theorem AWL_load {c m : Nat} {ag : Bool} {a : AX} : AWL E dr base W (⟨d, .load c ag m a, none⟩ :: r) K ⟨t, h, n⟩ ↔
    ∃ v, aload h ag m (evX t a) = some v ∧ (dr = true → klt base (evX t a) ∧ (far c = true → cellsOut W m (evX t a))) ∧ AWL E dr base W r K ⟨putT d t v, h, n⟩ := by
  simp only [AWL, AW1, wantA, aval, rdOk]
  cases aload h ag m (evX t a) <;> simp [ex2, ex3, ex4, ex5]
theorem AWL_store {c m : Nat} {a x : AX} : AWL E dr base W (⟨d, .store c m a x, none⟩ :: r) K ⟨t, h, n⟩ ↔
    ∃ h', astore h m (evX t a) (evX t x) = some h' ∧ (dr = true → far c = true → cellsIn base W m (evX t a)) ∧ AWL E dr base W r K ⟨putT d t .hole, h', n⟩ := by
  simp only [AWL, AW1, wantA, aval, rdOk]
  cases astore h m (evX t a) (evX t x) <;> simp [ex2, ex3, ex4, ex5]
/-- Is a value one that a nil check lets by? -/
def notNil : AV → Bool
  | .ptr _ _ _ | .fptr _ | .func _ _ | .iface _ _ => true
  | _ => false
theorem AWL_nilchk {x : AX} : AWL E dr base W (⟨d, .nilchk x, none⟩ :: r) K ⟨t, h, n⟩ ↔ notNil (evX t x) = true ∧ AWL E dr base W r K ⟨putT d t (evX t x), h, n⟩ := by
  simp only [AWL, AW1, wantA, aval, rdOk]
  cases evX t x <;> simp [notNil, ex2]
theorem AWL_bin {op : BinOp} {tk : TK} {c : Nat} {x y : AX} : AWL E dr base W (⟨d, .bin op tk c x y, none⟩ :: r) K ⟨t, h, n⟩ ↔
    ∃ v, abin op tk (isC x || isC y) (evX t x) (evX t y) = some v ∧ AWL E dr base W r K ⟨putT d t v, h, n⟩ := by
  simp only [AWL, AW1, wantA, aval, rdOk]
  cases abin op tk (isC x || isC y) (evX t x) (evX t y) <;> simp [ex2, ex3, ex4, ex5]
theorem AWL_un {op : UnOp} {x : AX} : AWL E dr base W (⟨d, .un op x, none⟩ :: r) K ⟨t, h, n⟩ ↔ ∃ v, aun op (evX t x) = some v ∧ AWL E dr base W r K ⟨putT d t v, h, n⟩ := by
  simp only [AWL, AW1, wantA, aval, rdOk]
  cases aun op (evX t x) <;> simp [ex2, ex3, ex4, ex5]
theorem AWL_convi {k : IntKind} {c c' : Nat} {x : AX} : AWL E dr base W (⟨d, .convi k c c' x, none⟩ :: r) K ⟨t, h, n⟩ ↔
    ∃ k0 q, evX t x = .int k0 q ∧ AWL E dr base W r K ⟨putT d t (.int k (k.wrap q)), h, n⟩ := by
  simp only [AWL, AW1, wantA, aval, rdOk]
  cases evX t x <;> simp [ex2, ex3, ex4, ex5]
theorem AWL_mkif {c : Nat} {x : AX} : AWL E dr base W (⟨d, .mkif c x, none⟩ :: r) K ⟨t, h, n⟩ ↔ AWL E dr base W r K ⟨putT d t (.iface c (evX t x)), h, n⟩ := by
  simp [AWL, AW1, wantA, aval, rdOk, ex2]
theorem AWL_mkfn {f : Nat} {xs : List AX} : AWL E dr base W (⟨d, .mkfn f xs, none⟩ :: r) K ⟨t, h, n⟩ ↔ AWL E dr base W r K ⟨putT d t (.func f (xs.map (evX t))), h, n⟩ := by
  simp [AWL, AW1, wantA, aval, rdOk, ex2]
theorem AWL_fld {c i off sz : Nat} {ag : Bool} {x : AX} : AWL E dr base W (⟨d, .fld c i off ag sz x, none⟩ :: r) K ⟨t, h, n⟩ ↔
    ∃ cs v, evX t x = .agg cs ∧ off + sz ≤ cs.length ∧ mkV ag ((cs.drop off).take sz) = some v ∧ AWL E dr base W r K ⟨putT d t v, h, n⟩ := by
  simp only [AWL, AW1, wantA, aval, rdOk]
  cases evX t x <;> simp [ex2, ex3, ex4, ex5]
theorem AWL_faddr {c i off : Nat} {a : AX} : AWL E dr base W (⟨d, .faddr c i off a, none⟩ :: r) K ⟨t, h, n⟩ ↔
    (match evX t a with
     | .ptr κ i o => AWL E dr base W r K ⟨putT d t (.ptr κ i (o + off)), h, n⟩
     | .fptr cs => off ≤ cs.length ∧ AWL E dr base W r K ⟨putT d t (.fptr (cs.drop off)), h, n⟩
     | _ => False) := by
  simp only [AWL, AW1, wantA, aval, rdOk]
  cases evX t a <;> simp [ex2, ex3, ex4, ex5]
theorem AWL_iaddr {c esz : Nat} {s i : AX} : AWL E dr base W (⟨d, .iaddr c esz s i, none⟩ :: r) K ⟨t, h, n⟩ ↔
    ∃ v, aiaddr h esz (evX t s) (evX t i) = some v ∧ (dr = true → klt base (evX t s)) ∧ AWL E dr base W r K ⟨putT d t v, h, n⟩ := by
  simp only [AWL, AW1, wantA, aval, rdOk]
  cases aiaddr h esz (evX t s) (evX t i) <;> simp [ex2, ex3, ex4, ex5]
theorem AWL_slc {c esz : Nat} {x : AX} {lo hi : Option AX} : AWL E dr base W (⟨d, .slc c esz x lo hi, none⟩ :: r) K ⟨t, h, n⟩ ↔
    ∃ v, aslc h esz (evX t x) (lo.map (evX t)) (hi.map (evX t)) = some v ∧ (dr = true → klt base (evX t x)) ∧ AWL E dr base W r K ⟨putT d t v, h, n⟩ := by
  simp only [AWL, AW1, wantA, aval, rdOk]
  cases aslc h esz (evX t x) (lo.map (evX t)) (hi.map (evX t)) <;> simp [ex2, ex3, ex4, ex5]
theorem AWL_len {c : Nat} {x : AX} : AWL E dr base W (⟨d, .len c x, none⟩ :: r) K ⟨t, h, n⟩ ↔
    (match evX t x with
     | .nils => AWL E dr base W r K ⟨putT d t (.int .i64 0), h, n⟩
     | .sl _ _ m => AWL E dr base W r K ⟨putT d t (.int .i64 m), h, n⟩
     | .slv es => AWL E dr base W r K ⟨putT d t (.int .i64 es.length), h, n⟩
     | _ => False) := by
  simp only [AWL, AW1, wantA, aval, rdOk]
  cases evX t x <;> simp [ex2, ex3, ex4, ex5]
theorem AWL_lenS {c : Nat} {x : AX} : AWL E dr base W (⟨d, .lenS c x, none⟩ :: r) K ⟨t, h, n⟩ ↔ ∃ s, evX t x = .str s ∧ AWL E dr base W r K ⟨putT d t (.int .i64 s.size), h, n⟩ := by
  simp only [AWL, AW1, wantA, aval, rdOk]
  cases evX t x <;> simp [ex2, ex3, ex4, ex5]
theorem AWL_app {k c esz bytes : Nat} {s x : AX} : AWL E dr base W (⟨d, .app k c esz bytes s x, none⟩ :: r) K ⟨t, h, n⟩ ↔
    ∃ v h', aapp h (base + k) esz bytes (evX t s) (evX t x) = some (v, h') ∧ AWL E dr base W r K ⟨putT d t v, h', n⟩ := by
  simp [AWL, AW1, wantA, aval, rdOk, ex2]
theorem AWL_appN {k c esz bytes : Nat} {s x : AX} : AWL E dr base W (⟨d, .appN k c esz bytes s x, none⟩ :: r) K ⟨t, h, n⟩ ↔
    evX t s = .nils ∧ ∃ v h', aapp h (base + k) esz bytes .nils (evX t x) = some (v, h') ∧ (dr = true → klt base (evX t x)) ∧ AWL E dr base W r K ⟨putT d t v, h', n⟩ := by
  simp only [AWL, AW1, wantA, aval, rdOk]
  cases evX t s <;> simp [ex2, ex3, ex4, ex5]
theorem AWL_mm {mx : Bool} {c c2 : Nat} {x y : AX} : AWL E dr base W (⟨d, .mm mx c c2 x y, none⟩ :: r) K ⟨t, h, n⟩ ↔ ∃ v, amm mx (evX t x) (evX t y) = some v ∧ AWL E dr base W r K ⟨putT d t v, h, n⟩ := by
  simp only [AWL, AW1, wantA, aval, rdOk]
  cases amm mx (evX t x) (evX t y) <;> simp [ex2, ex3, ex4, ex5]
theorem AWL_ext {x : AX} {i : Nat} : AWL E dr base W (⟨d, .ext x i, none⟩ :: r) K ⟨t, h, n⟩ ↔
    ∃ vs, evX t x = .tup vs ∧ i < vs.length ∧ AWL E dr base W r K ⟨putT d t (vs.getD i .undef), h, n⟩ := by
  simp only [AWL, AW1, wantA, aval, rdOk]
  cases evX t x <;> simp [ex2, ex3, ex4, ex5]
theorem AWL_callp {f : Nat} {args : List AX} : AWL E dr base W (⟨d, .callp f args, none⟩ :: r) K ⟨t, h, n⟩ ↔
    ∃ args' rr, frzL h (args.map (evX t)) = some args' ∧ ACallP E f args' rr ∧ (dr = true → frzKL h (args.map (evX t)) = []) ∧
        AWL E dr base W r K ⟨putT d t rr, roAll (frzKL h (args.map (evX t))) h, n⟩ := Iff.rfl
theorem AWL_callv {g : AX} {args : List AX} : AWL E dr base W (⟨d, .callv g args, none⟩ :: r) K ⟨t, h, n⟩ ↔
    ∃ f caps args' rr, evX t g = .func f caps ∧ frzL h (args.map (evX t) ++ caps) = some args' ∧ ACallP E f args' rr ∧ (dr = true → frzKL h (args.map (evX t) ++ caps) = []) ∧
        AWL E dr base W r K ⟨putT d t rr, roAll (frzKL h (args.map (evX t) ++ caps)) h, n⟩ := Iff.rfl
theorem AWL_calls {f : Nat} {args : List AX} : AWL E dr base W (⟨d, .calls f args, none⟩ :: r) K ⟨t, h, n⟩ ↔
    (dr = false ∧ ∃ R, ACallS E f (args.map (evX t)) h n R ∧ ∀ rr h' n', R rr h' n' → AWL E dr base W r K ⟨putT d t rr, h', n'⟩) := Iff.rfl
end

end Go.Proofs.YtablleokoifolaaGreatDoor

/- Level 2 over the abstract machine: values with functional slices, objects by fixed numbers: definitions. -/
set_option linter.unusedVariables false
set_option linter.unusedSimpArgs false
namespace Go.Proofs.YtablleokoifolaaGreatDoor
open Go

/-- Frozen data. -/
inductive FV where
  | undef | hole
  | bool (b : Bool) | int (k : IntKind) (n : Int) | str (s : ByteArray)
  | nilp | nils | nilf | nili | nilm
  | sv (n : Nat) (f : Nat → List FV)
  | fp (cs : List FV)
  | err (c : Nat) (e : Option Int)     -- nil, or a number asx a value of an interface
  | pt (o : Option (List FV))          -- a pointer to frozen data, or nil
  | func (f : Nat) (caps : List FV)
  | iface (c : Nat) (v : FV)
  | agg (cs : List FV) | tup (vs : List FV)

instance : Inhabited FV := ⟨.undef⟩

mutual
/-- As data of the abstract machine: slices are never nil. -/
def toA : FV → AV
  | .undef => .undef | .hole => .hole
  | .bool b => .bool b | .int k n => .int k n | .str s => .str s
  | .nilp => .nilp | .nils => .slv [] | .nilf => .nilf | .nili => .nili | .nilm => .nilm
  | .sv n f => .slv ((List.range n).map fun i => toAL (f i))
  | .fp cs => .fptr (toAL cs)
  | .pt none => .nilp
  | .pt (some cs) => .fptr (toAL cs)
  | .err _ none => .nili
  | .err c (some n) => .iface c (.int .i64 n)
  | .func f cs => .func f (toAL cs)
  | .iface c v => .iface c (toA v)
  | .agg cs => .agg (toAL cs)
  | .tup cs => .tup (toAL cs)
def toAL : List FV → List AV
  | [] => []
  | v :: l => toA v :: toAL l
end

theorem toAL_map (l : List FV) : toAL l = l.map toA := by
  induction l with
  | nil => rfl
  | cons v l ih => simp [toAL, ih]

/-- Heads that are kept as they are. -/
def isH : FV → Bool
  | .bool _ | .int _ _ | .str _ | .nilp | .nilf | .nili | .nilm | .sv _ _ | .fp _ | .err _ _ | .pt _ => true
  | _ => false

/-- Data in a slot or cell: nil slices may stand for empty ones. -/
inductive RD : FV → AV → Prop
  | c (v) (h : isH v = true) : RD v (toA v)
  | sv0 (f) : RD (.sv 0 f) .nils
  | nils : RD .nils .nils
  | func (f) (cs : List FV) (cs' : List AV) (hl : cs'.length = cs.length) (hc : ∀ i, i < cs.length → RD (cs.getD i .undef) (cs'.getD i .undef)) : RD (.func f cs) (.func f cs')
  | iface (c v a) (h : RD v a) : RD (.iface c v) (.iface c a)
  | agg (cs : List FV) (cs' : List AV) (hl : cs'.length = cs.length) (hc : ∀ i, i < cs.length → RD (cs.getD i .undef) (cs'.getD i .undef)) : RD (.agg cs) (.agg cs')
  | tup (cs : List FV) (cs' : List AV) (hl : cs'.length = cs.length) (hc : ∀ i, i < cs.length → RD (cs.getD i .undef) (cs'.getD i .undef)) : RD (.tup cs) (.tup cs')

/-- Values with keys. -/
inductive LV where
  | undef | hole
  | d (v : FV)
  | p (k o : Nat)
  | ep (k i o : Nat)
  | ls (k lo n : Nat)
  | agg (cs : List LV) | tup (vs : List LV)
  | func (f : Nat) (caps : List LV)
  | mapk (k : Nat)

instance : Inhabited LV := ⟨.undef⟩

/-- Objects. -/
inductive Ob where
  | st (ro : Bool) (cs : List LV)
  | sl (ro : Bool) (esz n : Nat) (f : Nat → List FV)

abbrev Rho := Nat → Option Nat

inductive RL (ρ : Rho) : LV → AV → Prop
  | undef (a) : RL ρ .undef a
  | hole : RL ρ .hole .hole
  | d (v a) (h : RD v a) : RL ρ (.d v) a
  | p (k o κ) (h : ρ k = some κ) : RL ρ (.p k o) (.ptr κ 0 o)
  | ep (k i o κ) (h : ρ k = some κ) : RL ρ (.ep k i o) (.ptr κ i o)
  | ls (k lo n κ) (h : ρ k = some κ) : RL ρ (.ls k lo n) (.sl κ lo n)
  | ls0 (k lo) (h : ρ k = none) : RL ρ (.ls k lo 0) .nils
  | agg (cs : List LV) (cs' : List AV) (hl : cs'.length = cs.length) (hc : ∀ i, i < cs.length → RL ρ (cs.getD i .undef) (cs'.getD i .undef)) : RL ρ (.agg cs) (.agg cs')
  | tup (cs : List LV) (cs' : List AV) (hl : cs'.length = cs.length) (hc : ∀ i, i < cs.length → RL ρ (cs.getD i .undef) (cs'.getD i .undef)) : RL ρ (.tup cs) (.tup cs')
  | func (f) (cs : List LV) (cs' : List AV) (hl : cs'.length = cs.length) (hc : ∀ i, i < cs.length → RL ρ (cs.getD i .undef) (cs'.getD i .undef)) : RL ρ (.func f cs) (.func f cs')
  | mapk (k κ) (h : ρ k = some κ) : RL ρ (.mapk k) (.map κ)

/-- Cells, one by one. -/
def PW {α γ : Type} (R : α → γ → Prop) (d : α) (e : γ) (cs : List α) (cs' : List γ) : Prop := cs'.length = cs.length ∧ ∀ i, i < cs.length → R (cs.getD i d) (cs'.getD i e)
abbrev RDs (cs : List FV) (cs' : List AV) : Prop := PW RD .undef .undef cs cs'
abbrev RLs (ρ : Rho) (cs : List LV) (cs' : List AV) : Prop := PW (RL ρ) .undef .undef cs cs'

def RO (ρ : Rho) (h : Hp) (k : Nat) : Ob → Prop
  | .st ro cs => ∃ κ cs', ρ k = some κ ∧ h κ = some (.row ro cs.length [cs']) ∧ RLs ρ cs cs'
  | .sl ro esz n f => (∃ κ es, ρ k = some κ ∧ h κ = some (.row ro esz es) ∧ n ≤ es.length ∧ ∀ i, i < n → RDs (f i) (es.getD i [])) ∨ (ρ k = none ∧ n = 0)

def lk {α : Type} (d : α) : List (Nat × α) → Nat → α
  | [], _ => d
  | (k, v) :: l, i => bif Nat.beq i k then v else lk d l i

abbrev lkT (t : List (Nat × LV)) (i : Nat) : LV := lk .undef t i
def lkO : List (Nat × Ob) → Nat → Option Ob
  | [], _ => none
  | (k, o) :: l, i => bif Nat.beq i k then some o else lkO l i

structure S2 where
  t : List (Nat × LV)
  h : List (Nat × Ob)

/-- What a call finds and must leave. -/
structure Frm where
  D : Nat → Prop
  h0 : Hp
  n0 : Nat
  ρ0 : Rho

/-- No maps. -/
def AllR (h : Hp) : Prop := ∀ κ es, h κ ≠ some (.mp es)
theorem AllR.upd {h : Hp} (r : AllR h) (κ : Nat) (ro : Bool) (e : Nat) (es : List (List AV)) : AllR (upd h κ (some (.row ro e es))) := by
  intro κ' q hq
  simp only [Go.Proofs.YtablleokoifolaaGreatDoor.upd] at hq
  split at hq
  · cases hq
  · exact r κ' q hq
theorem AllR.none {h : Hp} (r : AllR h) (κ : Nat) : AllR (Go.Proofs.YtablleokoifolaaGreatDoor.upd h κ none) := by
  intro κ' q hq
  simp only [Go.Proofs.YtablleokoifolaaGreatDoor.upd] at hq
  split at hq
  · cases hq
  · exact r κ' q hq
theorem AllR.ro {h : Hp} (r : AllR h) (L : List Nat) : AllR (roAll L h) := by
  intro κ' q hq
  simp only [roAll] at hq
  split at hq
  · obtain ⟨o, ho, e⟩ := Option.map_eq_some_iff.1 hq
    cases o with
    | row => cases e
    | mp es => exact r κ' es ho
  · exact r κ' q hq

structure Rep (K0 : List Nat) (fr : Frm) (ρ : Rho) (t : List (Nat × LV)) (h : List (Nat × Ob)) (s : St) : Prop where
  t : ∀ i, RL ρ (lkT t i) (s.t i)
  o : ∀ k o, lkO h k = some o → RO ρ s.h k o
  inj : ∀ k k' κ, (lkO h k).isSome = true → (lkO h k').isSome = true → ρ k = some κ → ρ k' = some κ → k = k'
  lt : ∀ k κ, (lkO h k).isSome = true → ρ k = some κ → κ < s.n
  fm : ∀ κ, fr.D κ → κ < fr.n0 ∧ s.h κ = fr.h0 κ
  dis : ∀ k κ, (lkO h k).isSome = true → ρ k = some κ → ¬ fr.D κ
  n0 : fr.n0 ≤ s.n
  an : ∀ k ∈ K0, ρ k = fr.ρ0 k
  rows : AllR s.h

/-- The code, begun in a state that this one stands for, ends in one that is wanted. -/
structure AW2 (E : Env) (nt : Nat) (K0 : List Nat) (fr : Frm) (c : ACode) (Q : AExit → S2 → Prop) (s2 : S2) : Prop where
  go : ∀ s ρ, Rep K0 fr ρ s2.t s2.h s → AW E nt c (fun e s' => ∃ s2' ρ', Q e s2' ∧ Rep K0 fr ρ' s2'.t s2'.h s') s

/-! ### Code -/
theorem AW2.skip {E : Env} {nt : Nat} {K0 : List Nat} {fr : Frm} {Q : AExit → S2 → Prop} {s : S2} (h : Q .normal s) : AW2 E nt K0 fr .skip Q s :=
  ⟨fun s' ρ r => AW.skip ⟨s, ρ, h, r⟩⟩
theorem AW2.ret {E : Env} {nt : Nat} {K0 : List Nat} {fr : Frm} {Q : AExit → S2 → Prop} {s : S2} (h : Q .ret s) : AW2 E nt K0 fr .ret Q s :=
  ⟨fun s' ρ r => AW.ret ⟨s, ρ, h, r⟩⟩
theorem AW2.exit {E : Env} {nt : Nat} {K0 : List Nat} {fr : Frm} {i : Nat} {Q : AExit → S2 → Prop} {s : S2} (h : Q (.exit i) s) : AW2 E nt K0 fr (.exit i) Q s :=
  ⟨fun s' ρ r => AW.exit ⟨s, ρ, h, r⟩⟩
def seqQ2 (E : Env) (nt : Nat) (K0 : List Nat) (fr : Frm) (b : ACode) (Q : AExit → S2 → Prop) : AExit → S2 → Prop
  | .normal, s => AW2 E nt K0 fr b Q s
  | .ret, s => Q .ret s
  | .exit i, s => Q (.exit i) s
theorem AW2.mono {E : Env} {nt : Nat} {K0 : List Nat} {fr : Frm} {c : ACode} {Q Q' : AExit → S2 → Prop} {s : S2} (h : AW2 E nt K0 fr c Q s) (hq : ∀ e s, Q e s → Q' e s) : AW2 E nt K0 fr c Q' s :=
  ⟨fun s' ρ r => (h.go s' ρ r).mono fun e s'' ⟨s2', ρ', k1, k2⟩ => ⟨s2', ρ', hq _ _ k1, k2⟩⟩
theorem AW2.seq {E : Env} {nt : Nat} {K0 : List Nat} {fr : Frm} {x y : ACode} {Q : AExit → S2 → Prop} {s : S2} (h : AW2 E nt K0 fr x (seqQ2 E nt K0 fr y Q) s) : AW2 E nt K0 fr (.seq x y) Q s :=
  ⟨fun s' ρ r => AW.seq ((h.go s' ρ r).mono fun e s'' ⟨s2', ρ', k1, k2⟩ => by
    cases e with
    | normal => exact k1.go s'' ρ' k2
    | ret => exact ⟨s2', ρ', k1, k2⟩
    | exit i => exact ⟨s2', ρ', k1, k2⟩)⟩
/-- Two ways meet again. -/
theorem AW2.join {E : Env} {nt : Nat} {K0 : List Nat} {fr : Frm} {x y : ACode} {Q : AExit → S2 → Prop} {s : S2} {σ : Type} (P : σ → Prop) (J : σ → S2)
    (rest : ∀ v, P v → AW2 E nt K0 fr y Q (J v))
    (h : AW2 E nt K0 fr x (fun e s' => match e with | .normal => ∃ v, P v ∧ s' = J v | .ret => Q .ret s' | .exit i => Q (.exit i) s') s) : AW2 E nt K0 fr (.seq x y) Q s :=
  AW2.seq (h.mono fun e s' hh => by
    cases e with
    | normal => obtain ⟨v, hv, rfl⟩ := hh; exact rest v hv
    | ret => exact hh
    | exit i => exact hh)
def blockQ2 (i : Nat) (Q : AExit → S2 → Prop) : AExit → S2 → Prop
  | .exit j, s => if j = i then Q .normal s else Q (.exit j) s
  | .normal, s => Q .normal s
  | .ret, s => Q .ret s
theorem AW2.block {E : Env} {nt : Nat} {K0 : List Nat} {fr : Frm} {i : Nat} {x : ACode} {Q : AExit → S2 → Prop} {s : S2} (h : AW2 E nt K0 fr x (blockQ2 i Q) s) : AW2 E nt K0 fr (.block i x) Q s :=
  ⟨fun s' ρ r => AW.block ((h.go s' ρ r).mono fun e s'' ⟨s2', ρ', k1, k2⟩ => by
    cases e with
    | normal => exact ⟨s2', ρ', k1, k2⟩
    | ret => exact ⟨s2', ρ', k1, k2⟩
    | exit j =>
      simp only [blockQ, blockQ2] at k1 ⊢
      split at k1
      · rename_i hj; rw [if_pos hj]; exact ⟨s2', ρ', k1, k2⟩
      · rename_i hj; rw [if_neg hj]; exact ⟨s2', ρ', k1, k2⟩)⟩
/-- A loop: a number goes down with every round. -/
theorem AW2.loop {E : Env} {nt : Nat} {K0 : List Nat} {fr : Frm} {x : ACode} {Q : AExit → S2 → Prop} {σ : Type} (J : σ → S2) (P : Nat → σ → Prop)
    (round : ∀ k v, P k v → AW2 E nt K0 fr x (fun e s' => match e with | .normal => ∃ k' v', k' < k ∧ P k' v' ∧ s' = J v' | .ret => Q .ret s' | .exit i => Q (.exit i) s') (J v))
    (k : Nat) (v : σ) (h : P k v) : AW2 E nt K0 fr (.loop x) Q (J v) :=
  ⟨fun s ρ r => AW.loop (fun k s => ∃ v ρ, P k v ∧ Rep K0 fr ρ (J v).t (J v).h s) (fun k s ⟨v, ρ, hp, hr⟩ => ((round k v hp).go s ρ hr).mono fun e s' ⟨s2', ρ', k1, k2⟩ => by
    cases e with
    | normal =>
      obtain ⟨k', v', g1, g2, rfl⟩ := k1
      exact ⟨k', g1, v', ρ', g2, k2⟩
    | ret => exact ⟨s2', ρ', k1, k2⟩
    | exit i => exact ⟨s2', ρ', k1, k2⟩) k s ⟨v, ρ, h, r⟩⟩

/-! ### Operands -/
def cFV : AV → FV
  | .bool b => .bool b | .int k n => .int k n | .str s => .str s
  | .nilp => .nilp | .nils => .nils | .nili => .nili | .nilf => .nilf | .nilm => .nilm
  | _ => .undef
def evL (t : List (Nat × LV)) : AX → LV
  | .t i => lkT t i
  | .c v => if constOk v then .d (cFV v) else .undef
  | .f f => .d (.func f [])
theorem RL.cst {ρ : Rho} {v : AV} (h : constOk v = true) : RL ρ (.d (cFV v)) v := by
  cases v <;> first | (simp [constOk] at h; done) | skip
  all_goals first | exact .d _ _ .nils | exact .d _ _ (.c _ rfl)
theorem evL_sound {ρ : Rho} {t : List (Nat × LV)} {u : Nat → AV} (ht : ∀ i, RL ρ (lkT t i) (u i)) (x : AX) : RL ρ (evL t x) (evX u x) := by
  cases x with
  | t i => exact ht i
  | c v =>
    simp only [evL, evX]
    split
    · rename_i h; exact RL.cst h
    · exact .undef _
  | f f => exact .d _ _ (.func f [] [] rfl (fun i hi => by simp at hi))

/-! ### Inversions -/
theorem rd_int {k : IntKind} {n : Int} {a : AV} (h : RD (.int k n) a) : a = .int k n := by cases h; rfl
theorem rd_bool {b : Bool} {a : AV} (h : RD (.bool b) a) : a = .bool b := by cases h; rfl
theorem rd_str {s : ByteArray} {a : AV} (h : RD (.str s) a) : a = .str s := by cases h; rfl
theorem rl_d {ρ : Rho} {v : FV} {a : AV} (h : RL ρ (.d v) a) : RD v a := by cases h; assumption
theorem rl_p {ρ : Rho} {k o : Nat} {a : AV} (h : RL ρ (.p k o) a) : ∃ κ, ρ k = some κ ∧ a = .ptr κ 0 o := by cases h; exact ⟨_, ‹_›, rfl⟩
theorem rl_ep {ρ : Rho} {k i o : Nat} {a : AV} (h : RL ρ (.ep k i o) a) : ∃ κ, ρ k = some κ ∧ a = .ptr κ i o := by cases h; exact ⟨_, ‹_›, rfl⟩
theorem rl_ls {ρ : Rho} {k lo n : Nat} {a : AV} (h : RL ρ (.ls k lo n) a) : (∃ κ, ρ k = some κ ∧ a = .sl κ lo n) ∨ (ρ k = none ∧ n = 0 ∧ a = .nils) := by
  cases h
  · exact .inl ⟨_, ‹_›, rfl⟩
  · exact .inr ⟨‹_›, rfl, rfl⟩
theorem rl_hole {ρ : Rho} {a : AV} (h : RL ρ .hole a) : a = .hole := by cases h; rfl
theorem rl_agg {ρ : Rho} {cs : List LV} {a : AV} (h : RL ρ (.agg cs) a) : ∃ cs', a = .agg cs' ∧ RLs ρ cs cs' := by cases h; exact ⟨_, rfl, ‹_›, ‹_›⟩
theorem rl_tup {ρ : Rho} {cs : List LV} {a : AV} (h : RL ρ (.tup cs) a) : ∃ cs', a = .tup cs' ∧ RLs ρ cs cs' := by cases h; exact ⟨_, rfl, ‹_›, ‹_›⟩
theorem rl_func {ρ : Rho} {f : Nat} {cs : List LV} {a : AV} (h : RL ρ (.func f cs) a) : ∃ cs', a = .func f cs' ∧ RLs ρ cs cs' := by cases h; exact ⟨_, rfl, ‹_›, ‹_›⟩
theorem rd_agg {cs : List FV} {a : AV} (h : RD (.agg cs) a) : ∃ cs', a = .agg cs' ∧ RDs cs cs' := by
  cases h with
  | c h => cases ‹isH (.agg cs) = true›
  | agg => exact ⟨_, rfl, ‹_›, ‹_›⟩
theorem rd_tup {cs : List FV} {a : AV} (h : RD (.tup cs) a) : ∃ cs', a = .tup cs' ∧ RDs cs cs' := by
  cases h with
  | c h => cases ‹isH (.tup cs) = true›
  | tup => exact ⟨_, rfl, ‹_›, ‹_›⟩
theorem rd_func {f : Nat} {cs : List FV} {a : AV} (h : RD (.func f cs) a) : ∃ cs', a = .func f cs' ∧ RDs cs cs' := by
  cases h with
  | c h => cases ‹isH (.func f cs) = true›
  | func => exact ⟨_, rfl, ‹_›, ‹_›⟩
theorem rd_iface {c : Nat} {v : FV} {a : AV} (h : RD (.iface c v) a) : ∃ b, a = .iface c b ∧ RD v b := by
  cases h with
  | c h => cases ‹isH (.iface c v) = true›
  | iface => exact ⟨_, rfl, ‹_›⟩
theorem rd_fp {cs : List FV} {a : AV} (h : RD (.fp cs) a) : a = .fptr (cs.map toA) := by
  cases h
  simp [toA, toAL_map]
theorem rd_sv {n : Nat} {f : Nat → List FV} {a : AV} (h : RD (.sv n f) a) : a = .slv ((List.range n).map fun i => (f i).map toA) ∨ (n = 0 ∧ a = .nils) := by
  cases h
  · left; simp [toA, toAL_map]
  · exact .inr ⟨rfl, rfl⟩
theorem rd_nils {a : AV} (h : RD .nils a) : a = .nils := by
  cases h with
  | c h => cases ‹isH .nils = true›
  | nils => rfl

end Go.Proofs.YtablleokoifolaaGreatDoor

