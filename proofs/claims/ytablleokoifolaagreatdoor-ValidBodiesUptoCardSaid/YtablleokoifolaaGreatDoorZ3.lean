/- Part 3 of the proof that ValidBodiesUptoCardSaid: for every input that fits the row the law answers true and its arguments read as before, over the world as the row lays it. -/
import Derived.Test.YtablleokoifolaaGreatDoorZ2
import Derived.Test.YtablleokoifolaaGreatDoorProg
/- Abstract code of functions, written by a program of this claim set (gen.py) out of the program's own print. -/
set_option linter.unusedVariables false
set_option maxRecDepth 100000
namespace Go.Proofs.YtablleokoifolaaGreatDoor
open Go

/-- mandrel/valid.exported -/
def F_valid_exported_p1 : ACode :=
  .cond (.t 52) (.seq (.reg 0 [⟨some 2, .asg (.c (.bool false)), none⟩] false [2])
                 (.ret)) (.skip)
def F_valid_exported_p2 : ACode :=
  .seq (.reg 0 [⟨some 33, .faddr 16 1 1 (.t 6), none⟩, ⟨some 34, .load 7 false 1 (.t 33), none⟩, ⟨some 35, .bin .gtr .other 7 (.t 34) (.c (.int .u8 3)), none⟩, ⟨some 36, .mov (.t 35), none⟩, ⟨some 37, .faddr 16 2 2 (.t 6), some (3, 36, false)⟩, ⟨some 38, .load 13 false 1 (.t 37), some (3, 36, false)⟩, ⟨some 39, .convi .i64 13 2 (.t 38), some (3, 36, false)⟩, ⟨some 40, .faddr 16 1 1 (.t 6), some (3, 36, false)⟩, ⟨some 41, .load 7 false 1 (.t 40), some (3, 36, false)⟩, ⟨some 42, .iaddrA 59 4 1 (.t 3) (.t 41), some (3, 36, false)⟩, ⟨some 43, .load 2 false 1 (.t 42), some (3, 36, false)⟩, ⟨some 44, .bin .geq .other 2 (.t 39) (.t 43), some (3, 36, false)⟩, ⟨some 45, .pick (.t 36) (.c (.bool true)) (.t 44), none⟩, ⟨some 46, .mov (.t 45), none⟩, ⟨some 47, .mov (.t 4), some (13, 46, false)⟩, ⟨some 48, .faddr 16 0 0 (.t 6), some (13, 46, false)⟩, ⟨some 49, .load 39 false 1 (.t 48), some (13, 46, false)⟩, ⟨some 50, .x (.mlook 63 (.int .i64 0) (.t 47) (.t 49)), some (13, 46, false)⟩, ⟨some 51, .bin .gtr .other 2 (.t 50) (.c (.int .i64 1)), some (13, 46, false)⟩, ⟨some 52, .pick (.t 46) (.c (.bool true)) (.t 51), none⟩] true [3, 4, 22, 23, 24, 52])
               (F_valid_exported_p1)
def F_valid_exported_p3 : ACode :=
  .seq (.reg 0 [⟨some 28, .mov (.t 4), none⟩, ⟨some 29, .faddr 16 0 0 (.t 6), none⟩, ⟨some 30, .load 39 false 1 (.t 29), none⟩, ⟨some 31, .x (.mlook 63 (.int .i64 0) (.t 28) (.t 30)), none⟩, ⟨some 32, .bin .add .other 2 (.t 31) (.c (.int .i64 1)), none⟩, ⟨none, .x (.mset 63 (.t 28) (.t 30) (.t 32)), none⟩] false [3, 4, 6, 22, 23, 24])
              (F_valid_exported_p2)
def F_valid_exported_p4 : ACode :=
  .reg 0 [⟨some 53, .bin .add .other 2 (.t 24) (.c (.int .i64 1)), none⟩, ⟨some 24, .mov (.t 53), none⟩] false [3, 4, 22, 23, 24]
def F_valid_exported_p5 : ACode :=
  .seq (.block 1 (.seq (.reg 1 [⟨some 26, .iaddr 15 3 (.t 22) (.t 24), none⟩, ⟨some 27, .load 16 true 3 (.t 26), none⟩, ⟨some 6, .alloc 0 16 [.str ⟨#[]⟩, .int .u8 0, .int .u32 0], none⟩, ⟨none, .store 16 3 (.t 6) (.t 27), none⟩] false [3, 4, 6, 22, 23, 24])
             (F_valid_exported_p3)))
           (F_valid_exported_p4)
def F_valid_exported_p6 : ACode :=
  .seq (.reg 0 [⟨some 25, .bin .lss .other 2 (.t 24) (.t 23), none⟩] false [3, 4, 22, 23, 24, 25])
         (.seq (.cond (.t 25) (.skip) (.exit 0))
          (F_valid_exported_p5))
def F_valid_exported_p7 : ACode :=
  .seq (.seq (.reg 0 [⟨some 21, .faddr 1 5 5 (.t 1), none⟩, ⟨some 22, .load 15 false 1 (.t 21), none⟩, ⟨some 23, .len 15 (.t 22), none⟩, ⟨some 24, .mov (.c (.int .i64 0)), none⟩] false [3, 4, 22, 23, 24])
      (.block 0 (.loop (F_valid_exported_p6))))
     (.seq (.reg 0 [⟨some 2, .asg (.c (.bool true)), none⟩] false [2])
      (.ret))
def F_valid_exported_p8 : ACode :=
  .seq (.reg 1 [⟨some 20, .x (.mkmap 0 63), none⟩, ⟨some 4, .asg (.t 20), none⟩] false [1, 3, 4])
    (F_valid_exported_p7)
def F_valid_exported_p9 : ACode :=
  .seq (.reg 1 [⟨some 7, .faddr 1 1 1 (.t 1), none⟩, ⟨some 8, .load 5 false 1 (.t 7), none⟩, ⟨some 9, .len 5 (.t 8), none⟩, ⟨some 10, .faddr 1 2 2 (.t 1), none⟩, ⟨some 11, .load 18 false 1 (.t 10), none⟩, ⟨some 12, .len 18 (.t 11), none⟩, ⟨some 13, .faddr 1 3 3 (.t 1), none⟩, ⟨some 14, .load 18 false 1 (.t 13), none⟩, ⟨some 15, .len 18 (.t 14), none⟩, ⟨some 16, .faddr 1 4 4 (.t 1), none⟩, ⟨some 17, .load 20 false 1 (.t 16), none⟩, ⟨some 18, .len 20 (.t 17), none⟩, ⟨some 19, .build 59 [.int .i64 0, .int .i64 0, .int .i64 0, .int .i64 0] [(0, 0, 1, .t 9), (1, 1, 1, .t 12), (2, 2, 1, .t 15), (3, 3, 1, .t 18)], none⟩, ⟨some 3, .alloc 0 59 [.int .i64 0, .int .i64 0, .int .i64 0, .int .i64 0], none⟩, ⟨none, .store 59 4 (.t 3) (.t 19), none⟩] false [1, 3])
   (F_valid_exported_p8)
def F_valid_exported_p10 : ACode :=
  .seq (.reg 1 [⟨some 1, .box 0 1 (.t 0), none⟩, ⟨some 2, .asg (.c (.bool false)), none⟩] false [1])
  (F_valid_exported_p9)
def F_valid_exported : AFun := { nt := 54, res := [.t 2], code := (F_valid_exported_p10) }

/-- slices.Concat[[]mandrel/api.Kind,mandrel/api.Kind] -/
def F_slices_Concat_api_Kind_api_Kind_p1 : ACode :=
  .cond (.t 20) (.reg 0 [⟨some 21, .mkif 39 (.c (.str ⟨#[108, 101, 110, 32, 111, 117, 116, 32, 111, 102, 32, 114, 97, 110, 103, 101]⟩)), none⟩, ⟨none, .x (.pan (.t 21)), none⟩] false [0, 3, 9, 10, 11]) (.skip)
def F_slices_Concat_api_Kind_api_Kind_p2 : ACode :=
  .seq (.reg 0 [⟨some 19, .mov (.t 3), none⟩, ⟨some 20, .bin .lss .other 2 (.t 19) (.c (.int .i64 0)), none⟩] false [0, 3, 9, 10, 11, 20])
              (F_slices_Concat_api_Kind_api_Kind_p1)
def F_slices_Concat_api_Kind_api_Kind_p3 : ACode :=
  .seq (.reg 0 [⟨some 15, .mov (.t 3), none⟩, ⟨some 16, .mov (.t 5), none⟩, ⟨some 17, .len 50 (.t 16), none⟩, ⟨some 18, .bin .add .other 2 (.t 15) (.t 17), none⟩, ⟨some 3, .asg (.t 18), none⟩] false [0, 3, 9, 10, 11])
             (F_slices_Concat_api_Kind_api_Kind_p2)
def F_slices_Concat_api_Kind_api_Kind_p4 : ACode :=
  .reg 0 [⟨some 22, .bin .add .other 2 (.t 11) (.c (.int .i64 1)), none⟩, ⟨some 11, .mov (.t 22), none⟩] false [0, 3, 9, 10, 11]
def F_slices_Concat_api_Kind_api_Kind_p5 : ACode :=
  .seq (.block 1 (.seq (.reg 0 [⟨some 13, .iaddr 53 1 (.t 9) (.t 11), none⟩, ⟨some 14, .load 50 false 1 (.t 13), none⟩, ⟨some 5, .asg (.t 14), none⟩] false [0, 3, 5, 9, 10, 11])
            (F_slices_Concat_api_Kind_api_Kind_p3)))
          (F_slices_Concat_api_Kind_api_Kind_p4)
def F_slices_Concat_api_Kind_api_Kind_p6 : ACode :=
  .seq (.cond (.t 12) (.skip) (.exit 0))
         (F_slices_Concat_api_Kind_api_Kind_p5)
def F_slices_Concat_api_Kind_api_Kind_p7 : ACode :=
  .seq (.reg 0 [⟨some 12, .bin .lss .other 2 (.t 11) (.t 10), none⟩] false [0, 3, 9, 10, 11, 12])
        (F_slices_Concat_api_Kind_api_Kind_p6)
def F_slices_Concat_api_Kind_api_Kind_p8 : ACode :=
  .reg 1 [⟨some 31, .mov (.t 6), none⟩, ⟨some 32, .mov (.t 8), none⟩, ⟨some 33, .app 0 50 1 1 (.t 31) (.t 32), none⟩, ⟨some 6, .asg (.t 33), none⟩] false [6, 25, 26, 27]
def F_slices_Concat_api_Kind_api_Kind_p9 : ACode :=
  .reg 0 [⟨some 34, .bin .add .other 2 (.t 27) (.c (.int .i64 1)), none⟩, ⟨some 27, .mov (.t 34), none⟩] false [6, 25, 26, 27]
def F_slices_Concat_api_Kind_api_Kind_p10 : ACode :=
  .seq (.block 3 (.seq (.reg 0 [⟨some 29, .iaddr 53 1 (.t 25) (.t 27), none⟩, ⟨some 30, .load 50 false 1 (.t 29), none⟩, ⟨some 8, .asg (.t 30), none⟩] false [6, 8, 25, 26, 27])
              (F_slices_Concat_api_Kind_api_Kind_p8)))
            (F_slices_Concat_api_Kind_api_Kind_p9)
def F_slices_Concat_api_Kind_api_Kind_p11 : ACode :=
  .seq (.cond (.t 28) (.skip) (.exit 2))
           (F_slices_Concat_api_Kind_api_Kind_p10)
def F_slices_Concat_api_Kind_api_Kind_p12 : ACode :=
  .seq (.reg 0 [⟨some 28, .bin .lss .other 2 (.t 27) (.t 26), none⟩] false [6, 25, 26, 27, 28])
          (F_slices_Concat_api_Kind_api_Kind_p11)
def F_slices_Concat_api_Kind_api_Kind_p13 : ACode :=
  .seq (.reg 0 [⟨some 35, .mov (.t 6), none⟩, ⟨some 2, .asg (.t 35), none⟩] false [2])
       (.ret)
def F_slices_Concat_api_Kind_api_Kind_p14 : ACode :=
  .seq (.seq (.reg 0 [⟨some 25, .mov (.t 0), none⟩, ⟨some 26, .len 53 (.t 25), none⟩, ⟨some 27, .mov (.c (.int .i64 0)), none⟩] false [6, 25, 26, 27])
       (.block 2 (.loop (F_slices_Concat_api_Kind_api_Kind_p12))))
      (F_slices_Concat_api_Kind_api_Kind_p13)
def F_slices_Concat_api_Kind_api_Kind_p15 : ACode :=
  .seq (.reg 0 [⟨some 23, .mov (.t 3), none⟩, ⟨some 24, .calls 68 [.c .nils, .t 23], none⟩, ⟨some 6, .asg (.t 24), none⟩] false [0, 6])
     (F_slices_Concat_api_Kind_api_Kind_p14)
def F_slices_Concat_api_Kind_api_Kind_p16 : ACode :=
  .seq (.seq (.reg 0 [⟨some 9, .mov (.t 0), none⟩, ⟨some 10, .len 53 (.t 9), none⟩, ⟨some 11, .mov (.c (.int .i64 0)), none⟩] false [0, 3, 9, 10, 11])
     (.block 0 (.loop (F_slices_Concat_api_Kind_api_Kind_p7))))
    (F_slices_Concat_api_Kind_api_Kind_p15)
def F_slices_Concat_api_Kind_api_Kind_p17 : ACode :=
  .seq (.reg 0 [⟨some 3, .asg (.c (.int .i64 0)), none⟩] false [0, 3])
   (F_slices_Concat_api_Kind_api_Kind_p16)
def F_slices_Concat_api_Kind_api_Kind_p18 : ACode :=
  .seq (.reg 0 [⟨some 2, .asg (.c .nils), none⟩] false [0])
  (F_slices_Concat_api_Kind_api_Kind_p17)
def F_slices_Concat_api_Kind_api_Kind : AFun := { nt := 36, res := [.t 2], code := (F_slices_Concat_api_Kind_api_Kind_p18) }

/-- (*mandrel/valid.checker).list -/
def F_valid_checker_list_p1 : ACode :=
  .cond (.t 18) (.reg 0 [⟨some 19, .mov (.t 0), none⟩, ⟨some 20, .load 3 true 8 (.t 5), none⟩, ⟨some 21, .calls 55 [.t 19, .t 20], none⟩] false [0, 6, 7, 8]) (.reg 0 [⟨some 22, .mov (.t 0), none⟩, ⟨some 23, .load 3 true 8 (.t 5), none⟩, ⟨some 24, .calls 56 [.t 22, .t 23], none⟩] false [0, 6, 7, 8])
def F_valid_checker_list_p2 : ACode :=
  .seq (.reg 0 [⟨some 16, .faddr 3 0 0 (.t 5), none⟩, ⟨some 17, .load 7 false 1 (.t 16), none⟩, ⟨some 18, .bin .lss .other 7 (.t 17) (.c (.int .u8 26)), none⟩] false [0, 5, 6, 7, 8, 18])
           (F_valid_checker_list_p1)
def F_valid_checker_list_p3 : ACode :=
  .seq (.seq (.reg 0 [⟨some 12, .mov (.t 0), none⟩, ⟨some 13, .nilchk (.t 12), none⟩, ⟨some 14, .faddr 46 7 15 (.t 13), none⟩, ⟨some 15, .load 12 false 1 (.t 14), none⟩] false [0, 5, 6, 7, 8, 15])
           (.cond (.t 15) (.ret) (.skip)))
          (F_valid_checker_list_p2)
def F_valid_checker_list_p4 : ACode :=
  .reg 0 [⟨some 25, .bin .add .other 2 (.t 8) (.c (.int .i64 1)), none⟩, ⟨some 8, .mov (.t 25), none⟩] false [0, 6, 7, 8]
def F_valid_checker_list_p5 : ACode :=
  .seq (.block 1 (.seq (.reg 1 [⟨some 10, .iaddr 4 8 (.t 6) (.t 8), none⟩, ⟨some 11, .load 3 true 8 (.t 10), none⟩, ⟨some 5, .alloc 0 3 [.int .u8 0, .int .i64 0, .int .u32 0, .int .u32 0, .int .u8 0, .nils, .nils, .nils], none⟩, ⟨none, .store 3 8 (.t 5) (.t 11), none⟩] false [0, 5, 6, 7, 8])
         (F_valid_checker_list_p3)))
       (F_valid_checker_list_p4)
def F_valid_checker_list_p6 : ACode :=
  .seq (.reg 0 [⟨some 9, .bin .lss .other 2 (.t 8) (.t 7), none⟩] false [0, 6, 7, 8, 9])
     (.seq (.cond (.t 9) (.skip) (.exit 0))
      (F_valid_checker_list_p5))
def F_valid_checker_list_p7 : ACode :=
  .seq (.reg 0 [⟨some 6, .mov (.t 1), none⟩, ⟨some 7, .len 4 (.t 6), none⟩, ⟨some 8, .mov (.c (.int .i64 0)), none⟩] false [0, 6, 7, 8])
  (.block 0 (.loop (F_valid_checker_list_p6)))
def F_valid_checker_list : AFun := { nt := 26, res := [], code := (F_valid_checker_list_p7) }

/-- (*mandrel/valid.checker).take -/
def F_valid_checker_take_p1 : ACode :=
  .cond (.t 21) (.seq (.reg 0 [⟨some 22, .mov (.t 1), none⟩, ⟨some 4, .asg (.t 22), none⟩] false [4])
       (.ret)) (.skip)
def F_valid_checker_take_p2 : ACode :=
  .seq (.reg 0 [⟨some 44, .mov (.t 1), none⟩, ⟨some 4, .asg (.t 44), none⟩] false [4])
          (.ret)
def F_valid_checker_take_p3 : ACode :=
  .cond (.t 31) (.seq (.reg 0 [⟨some 32, .mov (.t 0), none⟩, ⟨some 33, .mov (.t 0), none⟩, ⟨some 34, .nilchk (.t 33), none⟩, ⟨some 35, .faddr 46 7 15 (.t 34), none⟩, ⟨some 36, .load 12 false 1 (.t 35), none⟩, ⟨some 37, .mov (.t 36), none⟩, ⟨some 38, .faddr 54 1 1 (.t 5), some (5, 37, false)⟩, ⟨some 39, .load 12 false 1 (.t 38), some (5, 37, false)⟩, ⟨some 40, .un .not (.t 39), some (5, 37, false)⟩, ⟨some 41, .pick (.t 37) (.c (.bool true)) (.t 40), none⟩, ⟨some 42, .nilchk (.t 32), none⟩, ⟨some 43, .faddr 46 7 15 (.t 42), none⟩, ⟨none, .store 12 1 (.t 43) (.t 41), none⟩] false [1])
         (F_valid_checker_take_p2)) (.skip)
def F_valid_checker_take_p4 : ACode :=
  .cond (.t 73) (.reg 0 [⟨some 74, .mov (.t 0), none⟩, ⟨some 75, .nilchk (.t 74), none⟩, ⟨some 76, .faddr 46 7 15 (.t 75), none⟩, ⟨none, .store 12 1 (.t 76) (.c (.bool true)), none⟩] false [1, 7]) (.skip)
def F_valid_checker_take_p5 : ACode :=
  .cond (.t 78) (.seq (.reg 0 [⟨some 79, .mov (.t 1), none⟩, ⟨some 4, .asg (.t 79), none⟩] false [4])
             (.ret)) (.skip)
def F_valid_checker_take_p6 : ACode :=
  .seq (.reg 0 [⟨some 80, .mov (.t 7), none⟩, ⟨some 4, .asg (.t 80), none⟩] false [4])
           (.ret)
def F_valid_checker_take_p7 : ACode :=
  .seq (.seq (.reg 0 [⟨some 77, .mov (.t 7), none⟩, ⟨some 78, .bin .eql .other 51 (.t 77) (.c (.int .u8 1)), none⟩] false [1, 7, 78])
           (F_valid_checker_take_p5))
          (F_valid_checker_take_p6)
def F_valid_checker_take_p8 : ACode :=
  .seq (.seq (.reg 0 [⟨some 63, .mov (.t 7), none⟩, ⟨some 64, .mov (.t 1), none⟩, ⟨some 65, .bin .neq .other 51 (.t 63) (.t 64), none⟩, ⟨some 66, .mov (.t 65), none⟩, ⟨some 67, .mov (.t 7), some (3, 66, true)⟩, ⟨some 68, .bin .neq .other 51 (.t 67) (.c (.int .u8 1)), some (3, 66, true)⟩, ⟨some 69, .pick (.t 66) (.t 68) (.c (.bool false)), none⟩, ⟨some 70, .mov (.t 69), none⟩, ⟨some 71, .mov (.t 1), some (7, 70, true)⟩, ⟨some 72, .bin .neq .other 51 (.t 71) (.c (.int .u8 1)), some (7, 70, true)⟩, ⟨some 73, .pick (.t 70) (.t 72) (.c (.bool false)), none⟩] false [0, 1, 7, 73])
          (F_valid_checker_take_p4))
         (F_valid_checker_take_p7)
def F_valid_checker_take_p9 : ACode :=
  .seq (.reg 0 [⟨some 53, .mov (.t 0), none⟩, ⟨some 54, .mov (.t 0), none⟩, ⟨some 55, .nilchk (.t 54), none⟩, ⟨some 56, .faddr 46 3 11 (.t 55), none⟩, ⟨some 57, .load 50 false 1 (.t 56), none⟩, ⟨some 58, .mov (.t 6), none⟩, ⟨some 59, .bin .sub .other 2 (.t 58) (.c (.int .i64 1)), none⟩, ⟨some 60, .slc 50 1 (.t 57) none (some (.t 59)), none⟩, ⟨some 61, .nilchk (.t 53), none⟩, ⟨some 62, .faddr 46 3 11 (.t 61), none⟩, ⟨none, .store 50 1 (.t 62) (.t 60), none⟩] false [0, 1, 7])
        (F_valid_checker_take_p8)
def F_valid_checker_take_p10 : ACode :=
  .seq (.reg 0 [⟨some 45, .mov (.t 0), none⟩, ⟨some 46, .nilchk (.t 45), none⟩, ⟨some 47, .faddr 46 3 11 (.t 46), none⟩, ⟨some 48, .load 50 false 1 (.t 47), none⟩, ⟨some 49, .mov (.t 6), none⟩, ⟨some 50, .bin .sub .other 2 (.t 49) (.c (.int .i64 1)), none⟩, ⟨some 51, .iaddr 50 1 (.t 48) (.t 50), none⟩, ⟨some 52, .load 51 false 1 (.t 51), none⟩, ⟨some 7, .asg (.t 52), none⟩] false [0, 1, 6, 7])
       (F_valid_checker_take_p9)
def F_valid_checker_take_p11 : ACode :=
  .seq (.seq (.reg 0 [⟨some 28, .mov (.t 6), none⟩, ⟨some 29, .faddr 54 0 0 (.t 5), none⟩, ⟨some 30, .load 2 false 1 (.t 29), none⟩, ⟨some 31, .bin .eql .other 2 (.t 28) (.t 30), none⟩] false [0, 1, 5, 6, 31])
       (F_valid_checker_take_p3))
      (F_valid_checker_take_p10)
def F_valid_checker_take_p12 : ACode :=
  .seq (.reg 0 [⟨some 23, .mov (.t 0), none⟩, ⟨some 24, .nilchk (.t 23), none⟩, ⟨some 25, .faddr 46 3 11 (.t 24), none⟩, ⟨some 26, .load 50 false 1 (.t 25), none⟩, ⟨some 27, .len 50 (.t 26), none⟩, ⟨some 6, .asg (.t 27), none⟩] false [0, 1, 5, 6])
     (F_valid_checker_take_p11)
def F_valid_checker_take_p13 : ACode :=
  .seq (.seq (.reg 0 [⟨some 20, .mov (.t 1), none⟩, ⟨some 21, .bin .eql .other 51 (.t 20) (.c (.int .u8 0)), none⟩] false [0, 1, 5, 21])
     (F_valid_checker_take_p1))
    (F_valid_checker_take_p12)
def F_valid_checker_take_p14 : ACode :=
  .seq (.reg 1 [⟨some 8, .mov (.t 0), none⟩, ⟨some 9, .nilchk (.t 8), none⟩, ⟨some 10, .faddr 46 4 12 (.t 9), none⟩, ⟨some 11, .load 55 false 1 (.t 10), none⟩, ⟨some 12, .mov (.t 0), none⟩, ⟨some 13, .nilchk (.t 12), none⟩, ⟨some 14, .faddr 46 4 12 (.t 13), none⟩, ⟨some 15, .load 55 false 1 (.t 14), none⟩, ⟨some 16, .len 55 (.t 15), none⟩, ⟨some 17, .bin .sub .other 2 (.t 16) (.c (.int .i64 1)), none⟩, ⟨some 18, .iaddr 55 3 (.t 11) (.t 17), none⟩, ⟨some 19, .load 54 true 3 (.t 18), none⟩, ⟨some 5, .alloc 0 54 [.int .i64 0, .bool false, .bool false], none⟩, ⟨none, .store 54 3 (.t 5) (.t 19), none⟩] true [0, 1, 5])
   (F_valid_checker_take_p13)
def F_valid_checker_take_p15 : ACode :=
  .seq (.reg 0 [⟨some 4, .asg (.c (.int .u8 0)), none⟩] false [0, 1])
  (F_valid_checker_take_p14)
def F_valid_checker_take : AFun := { nt := 81, res := [.t 4], code := (F_valid_checker_take_p15) }

/-- mandrel/mandrelref08.kind -/
def F_ref08_kind_p1 : ACode :=
  .seq (.reg 0 [⟨some 5, .mov (.t 0), none⟩, ⟨some 6, .bin .eql .other 7 (.t 5) (.c (.int .u8 127)), none⟩, ⟨some 7, .mov (.t 6), none⟩, ⟨some 8, .mov (.t 0), some (2, 7, false)⟩, ⟨some 9, .bin .eql .other 7 (.t 8) (.c (.int .u8 126)), some (2, 7, false)⟩, ⟨some 10, .pick (.t 7) (.c (.bool true)) (.t 9), none⟩, ⟨some 11, .mov (.t 10), none⟩, ⟨some 12, .mov (.t 1), some (6, 11, false)⟩, ⟨some 13, .mov (.t 12), some (6, 11, false)⟩, ⟨some 14, .mov (.t 0), some (8, 13, true)⟩, ⟨some 15, .bin .eql .other 7 (.t 14) (.c (.int .u8 0)), some (8, 13, true)⟩, ⟨some 16, .pick (.t 13) (.t 15) (.c (.bool false)), some (6, 11, false)⟩, ⟨some 17, .pick (.t 11) (.c (.bool true)) (.t 16), none⟩, ⟨some 4, .asg (.t 17), none⟩] false [4])
   (.ret)
def F_ref08_kind_p2 : ACode :=
  .seq (.reg 0 [⟨some 4, .asg (.c (.bool false)), none⟩] false [0, 1])
  (F_ref08_kind_p1)
def F_ref08_kind : AFun := { nt := 18, res := [.t 4], code := (F_ref08_kind_p2) }

/-- mandrel/mandrelref08.away -/
def F_ref08_away_p1 : ACode :=
  .seq (.reg 0 [⟨some 5, .load 48 true 6 (.t 1), none⟩, ⟨none, .store 48 6 (.t 2) (.t 5), none⟩] false [2])
    (.ret)
def F_ref08_away_p2 : ACode :=
  .seq (.reg 0 [⟨some 3, .faddr 48 0 0 (.t 1), none⟩, ⟨none, .store 36 1 (.t 3) (.c .nils), none⟩, ⟨some 4, .faddr 48 2 2 (.t 1), none⟩, ⟨none, .store 12 1 (.t 4) (.c (.bool true)), none⟩] false [1, 2])
   (F_ref08_away_p1)
def F_ref08_away_p3 : ACode :=
  .seq (.reg 2 [⟨some 1, .box 0 48 (.t 0), none⟩, ⟨some 2, .alloc 1 48 [.nils, .int .i64 0, .bool false, .bool false, .int .i64 0, .bool false], none⟩] false [1, 2])
  (F_ref08_away_p2)
def F_ref08_away : AFun := { nt := 6, res := [.cell 2 48 true 6], code := (F_ref08_away_p3) }

/-- mandrel/mandrelref08.block -/
def F_ref08_block_p1 : ACode :=
  .seq (.reg 0 [⟨some 21, .load 48 true 6 (.t 4), none⟩, ⟨none, .store 48 6 (.t 6) (.t 21), none⟩] false [6])
       (.ret)
def F_ref08_block_p2 : ACode :=
  .cond (.t 19) (.seq (.reg 0 [⟨some 20, .faddr 48 5 5 (.t 4), none⟩, ⟨none, .store 12 1 (.t 20) (.c (.bool false)), none⟩] false [4, 6])
      (F_ref08_block_p1)) (.skip)
def F_ref08_block_p3 : ACode :=
  .reg 0 [⟨some 29, .load 47 true 11 (.t 3), none⟩, ⟨some 30, .load 47 true 11 (.t 3), none⟩, ⟨some 31, .load 48 true 6 (.t 4), none⟩, ⟨some 32, .faddr 9 5 5 (.t 5), none⟩, ⟨some 33, .load 10 false 1 (.t 32), none⟩, ⟨some 34, .faddr 9 4 4 (.t 5), none⟩, ⟨some 35, .load 7 false 1 (.t 34), none⟩, ⟨some 36, .faddr 9 4 4 (.t 5), none⟩, ⟨some 37, .load 7 false 1 (.t 36), none⟩, ⟨some 38, .callp 57 [.t 30, .t 31, .t 33, .t 35, .t 37], none⟩, ⟨some 39, .faddr 9 6 6 (.t 5), none⟩, ⟨some 40, .load 10 false 1 (.t 39), none⟩, ⟨some 41, .faddr 9 4 4 (.t 5), none⟩, ⟨some 42, .load 7 false 1 (.t 41), none⟩, ⟨some 43, .faddr 9 4 4 (.t 5), none⟩, ⟨some 44, .load 7 false 1 (.t 43), none⟩, ⟨some 45, .callp 57 [.t 29, .t 38, .t 40, .t 42, .t 44], none⟩, ⟨none, .store 48 6 (.t 4) (.t 45), none⟩] true [4, 5, 6]
def F_ref08_block_p4 : ACode :=
  .cond (.t 57) (.reg 0 [⟨some 59, .load 47 true 11 (.t 3), none⟩, ⟨some 60, .load 48 true 6 (.t 4), none⟩, ⟨some 61, .faddr 9 5 5 (.t 5), none⟩, ⟨some 62, .load 10 false 1 (.t 61), none⟩, ⟨some 63, .faddr 9 4 4 (.t 5), none⟩, ⟨some 64, .load 7 false 1 (.t 63), none⟩, ⟨some 65, .callp 57 [.t 59, .t 60, .t 62, .t 64, .c (.int .u8 0)], none⟩, ⟨none, .store 48 6 (.t 4) (.t 65), none⟩] false [4, 5, 6]) (.seq (.reg 0 [⟨some 25, .load 48 true 6 (.t 4), none⟩, ⟨some 26, .callp 27 [.t 25, .c (.int .u8 127)], none⟩, ⟨some 24, .mov (.t 26), none⟩, ⟨some 27, .ext (.t 24) 0, none⟩, ⟨some 28, .ext (.t 24) 1, none⟩, ⟨none, .store 48 6 (.t 4) (.t 27), none⟩] false [3, 4, 5, 6])
           (F_ref08_block_p3))
def F_ref08_block_p5 : ACode :=
  .cond (.t 46) (.reg 0 [⟨some 48, .load 47 true 11 (.t 3), none⟩, ⟨some 49, .load 48 true 6 (.t 4), none⟩, ⟨some 50, .faddr 9 5 5 (.t 5), none⟩, ⟨some 51, .load 10 false 1 (.t 50), none⟩, ⟨some 52, .faddr 9 4 4 (.t 5), none⟩, ⟨some 53, .load 7 false 1 (.t 52), none⟩, ⟨some 54, .faddr 9 4 4 (.t 5), none⟩, ⟨some 55, .load 7 false 1 (.t 54), none⟩, ⟨some 56, .callp 57 [.t 48, .t 49, .t 51, .t 53, .t 55], none⟩, ⟨none, .store 48 6 (.t 4) (.t 56), none⟩] false [4, 5, 6]) (.seq (.reg 0 [⟨some 58, .bin .eql .other 7 (.t 23) (.c (.int .u8 3)), none⟩, ⟨some 57, .asg (.t 58), none⟩] false [3, 4, 5, 6, 57])
         (F_ref08_block_p4))
def F_ref08_block_p6 : ACode :=
  .block 0 (.seq (.reg 0 [⟨some 47, .bin .eql .other 7 (.t 23) (.c (.int .u8 2)), none⟩, ⟨some 46, .asg (.t 47), none⟩] false [3, 4, 5, 6, 23, 46])
       (F_ref08_block_p5))
def F_ref08_block_p7 : ACode :=
  .seq (.reg 0 [⟨some 66, .load 48 true 6 (.t 4), none⟩, ⟨some 67, .faddr 9 4 4 (.t 5), none⟩, ⟨some 68, .load 7 false 1 (.t 67), none⟩, ⟨some 69, .callp 46 [.t 66, .t 68], none⟩, ⟨none, .store 48 6 (.t 6) (.t 69), none⟩] false [6])
     (.ret)
def F_ref08_block_p8 : ACode :=
  .seq (.seq (.reg 0 [⟨some 22, .faddr 9 0 0 (.t 5), none⟩, ⟨some 23, .load 7 false 1 (.t 22), none⟩] false [3, 4, 5, 6, 23])
     (F_ref08_block_p6))
    (F_ref08_block_p7)
def F_ref08_block_p9 : ACode :=
  .seq (.seq (.reg 0 [⟨some 7, .faddr 9 4 4 (.t 5), none⟩, ⟨some 8, .load 7 false 1 (.t 7), none⟩, ⟨some 9, .bin .neq .other 7 (.t 8) (.c (.int .u8 0)), none⟩, ⟨some 10, .mov (.t 9), none⟩, ⟨some 11, .faddr 9 4 4 (.t 5), some (3, 10, true)⟩, ⟨some 12, .load 7 false 1 (.t 11), some (3, 10, true)⟩, ⟨some 13, .bin .neq .other 7 (.t 12) (.c (.int .u8 127)), some (3, 10, true)⟩, ⟨some 14, .pick (.t 10) (.t 13) (.c (.bool false)), none⟩, ⟨some 15, .mov (.t 14), none⟩, ⟨some 16, .faddr 9 4 4 (.t 5), some (8, 15, true)⟩, ⟨some 17, .load 7 false 1 (.t 16), some (8, 15, true)⟩, ⟨some 18, .bin .neq .other 7 (.t 17) (.c (.int .u8 126)), some (8, 15, true)⟩, ⟨some 19, .pick (.t 15) (.t 18) (.c (.bool false)), none⟩] false [3, 4, 5, 6, 19])
    (F_ref08_block_p2))
   (F_ref08_block_p8)
def F_ref08_block_p10 : ACode :=
  .seq (.reg 4 [⟨some 3, .box 0 47 (.t 0), none⟩, ⟨some 4, .box 1 48 (.t 1), none⟩, ⟨some 5, .box 2 9 (.t 2), none⟩, ⟨some 6, .alloc 3 48 [.nils, .int .i64 0, .bool false, .bool false, .int .i64 0, .bool false], none⟩] false [3, 4, 5, 6])
  (F_ref08_block_p9)
def F_ref08_block : AFun := { nt := 70, res := [.cell 6 48 true 6], code := (F_ref08_block_p10) }

/-- mandrel/mandrelref08.branch -/
def F_ref08_branch_p1 : ACode :=
  .cond (.t 15) (.reg 0 [⟨some 17, .load 48 true 6 (.t 4), none⟩, ⟨some 18, .callp 27 [.t 17, .c (.int .u8 127)], none⟩, ⟨some 16, .mov (.t 18), none⟩, ⟨some 19, .ext (.t 16) 0, none⟩, ⟨some 20, .ext (.t 16) 1, none⟩, ⟨none, .store 48 6 (.t 4) (.t 19), none⟩] false [3, 4, 5, 6]) (.skip)
def F_ref08_branch_p2 : ACode :=
  .seq (.reg 0 [⟨some 37, .load 48 true 6 (.t 4), none⟩, ⟨none, .store 48 6 (.t 6) (.t 37), none⟩] false [6])
            (.ret)
def F_ref08_branch_p3 : ACode :=
  .cond (.t 35) (.seq (.reg 0 [⟨some 36, .faddr 48 5 5 (.t 4), none⟩, ⟨none, .store 12 1 (.t 36) (.c (.bool false)), none⟩] false [4, 6])
           (F_ref08_branch_p2)) (.skip)
def F_ref08_branch_p4 : ACode :=
  .reg 0 [⟨some 38, .faddr 9 7 7 (.t 5), none⟩, ⟨some 39, .load 23 false 1 (.t 38), none⟩, ⟨some 40, .faddr 9 7 7 (.t 5), none⟩, ⟨some 41, .load 23 false 1 (.t 40), none⟩, ⟨some 42, .len 23 (.t 41), none⟩, ⟨some 43, .bin .sub .other 2 (.t 42) (.c (.int .i64 1)), none⟩, ⟨some 44, .iaddr 23 1 (.t 39) (.t 43), none⟩, ⟨some 45, .load 13 false 1 (.t 44), none⟩, ⟨some 46, .convi .i64 13 27 (.t 45), none⟩, ⟨some 7, .asg (.t 46), none⟩] false [3, 4, 5, 6, 7]
def F_ref08_branch_p5 : ACode :=
  .cond (.t 25) (.seq (.seq (.reg 0 [⟨some 26, .faddr 9 7 7 (.t 5), none⟩, ⟨some 27, .load 23 false 1 (.t 26), none⟩, ⟨some 28, .len 23 (.t 27), none⟩, ⟨some 29, .bin .eql .other 2 (.t 28) (.c (.int .i64 0)), none⟩, ⟨some 30, .mov (.t 29), none⟩, ⟨some 31, .faddr 9 7 7 (.t 5), some (4, 30, false)⟩, ⟨some 32, .load 23 false 1 (.t 31), some (4, 30, false)⟩, ⟨some 33, .len 23 (.t 32), some (4, 30, false)⟩, ⟨some 34, .bin .gtr .other 2 (.t 33) (.c (.int .i64 257)), some (4, 30, false)⟩, ⟨some 35, .pick (.t 30) (.c (.bool true)) (.t 34), none⟩] false [3, 4, 5, 6, 35])
         (F_ref08_branch_p3))
        (F_ref08_branch_p4)) (.skip)
def F_ref08_branch_p6 : ACode :=
  .reg 0 [⟨some 76, .mov (.t 9), none⟩, ⟨some 77, .mov (.t 76), none⟩, ⟨some 78, .mov (.t 12), some (1, 77, true)⟩, ⟨some 79, .pick (.t 77) (.t 78) (.c (.bool false)), none⟩, ⟨some 80, .mov (.t 79), none⟩, ⟨some 81, .mov (.t 11), some (4, 80, true)⟩, ⟨some 82, .mov (.t 8), some (4, 80, true)⟩, ⟨some 83, .bin .eql .other 7 (.t 81) (.t 82), some (4, 80, true)⟩, ⟨some 84, .pick (.t 80) (.t 83) (.c (.bool false)), none⟩, ⟨some 9, .asg (.t 84), none⟩] false [3, 4, 5, 6, 8, 9, 10]
def F_ref08_branch_p7 : ACode :=
  .reg 0 [⟨some 63, .mov (.t 10), none⟩, ⟨some 64, .bin .add .other 2 (.t 63) (.c (.int .i64 1)), none⟩, ⟨some 10, .asg (.t 64), none⟩] false [3, 4, 5, 6, 8, 9, 10]
def F_ref08_branch_p8 : ACode :=
  .seq (.block 1 (.seq (.reg 0 [⟨some 66, .load 47 true 11 (.t 3), none⟩, ⟨some 67, .faddr 9 7 7 (.t 5), none⟩, ⟨some 68, .load 23 false 1 (.t 67), none⟩, ⟨some 69, .mov (.t 10), none⟩, ⟨some 70, .iaddr 23 1 (.t 68) (.t 69), none⟩, ⟨some 71, .load 13 false 1 (.t 70), none⟩, ⟨some 72, .convi .i64 13 27 (.t 71), none⟩, ⟨some 73, .callp 58 [.t 66, .t 72], none⟩, ⟨some 65, .mov (.t 73), none⟩, ⟨some 74, .ext (.t 65) 0, none⟩, ⟨some 75, .ext (.t 65) 1, none⟩, ⟨some 11, .asg (.t 74), none⟩, ⟨some 12, .asg (.t 75), none⟩] true [3, 4, 5, 6, 8, 9, 10, 11, 12])
              (F_ref08_branch_p6)))
            (F_ref08_branch_p7)
def F_ref08_branch_p9 : ACode :=
  .seq (.seq (.reg 0 [⟨some 53, .faddr 9 0 0 (.t 5), none⟩, ⟨some 54, .load 7 false 1 (.t 53), none⟩, ⟨some 55, .bin .eql .other 7 (.t 54) (.c (.int .u8 14)), none⟩, ⟨some 56, .mov (.t 55), none⟩, ⟨some 57, .mov (.t 10), some (3, 56, true)⟩, ⟨some 58, .faddr 9 7 7 (.t 5), some (3, 56, true)⟩, ⟨some 59, .load 23 false 1 (.t 58), some (3, 56, true)⟩, ⟨some 60, .len 23 (.t 59), some (3, 56, true)⟩, ⟨some 61, .bin .lss .other 2 (.t 57) (.t 60), some (3, 56, true)⟩, ⟨some 62, .pick (.t 56) (.t 61) (.c (.bool false)), none⟩] false [3, 4, 5, 6, 8, 9, 10, 62])
            (.cond (.t 62) (.skip) (.exit 0)))
           (F_ref08_branch_p8)
def F_ref08_branch_p10 : ACode :=
  .cond (.t 99) (.seq (.reg 0 [⟨some 100, .load 48 true 6 (.t 4), none⟩, ⟨some 101, .mov (.t 8), none⟩, ⟨some 102, .callp 46 [.t 100, .t 101], none⟩, ⟨none, .store 48 6 (.t 6) (.t 102), none⟩] false [6])
             (.ret)) (.skip)
def F_ref08_branch_p11 : ACode :=
  .seq (.reg 0 [⟨some 103, .load 48 true 6 (.t 4), none⟩, ⟨some 104, .callp 42 [.t 103], none⟩, ⟨none, .store 48 6 (.t 6) (.t 104), none⟩] false [6])
           (.ret)
def F_ref08_branch_p12 : ACode :=
  .seq (.seq (.reg 0 [⟨some 97, .faddr 9 0 0 (.t 5), none⟩, ⟨some 98, .load 7 false 1 (.t 97), none⟩, ⟨some 99, .bin .eql .other 7 (.t 98) (.c (.int .u8 13)), none⟩] false [4, 6, 8, 99])
           (F_ref08_branch_p10))
          (F_ref08_branch_p11)
def F_ref08_branch_p13 : ACode :=
  .seq (.reg 0 [⟨some 92, .load 48 true 6 (.t 4), none⟩, ⟨some 93, .mov (.t 8), none⟩, ⟨some 94, .callp 27 [.t 92, .t 93], none⟩, ⟨some 91, .mov (.t 94), none⟩, ⟨some 95, .ext (.t 91) 0, none⟩, ⟨some 96, .ext (.t 91) 1, none⟩, ⟨none, .store 48 6 (.t 4) (.t 95), none⟩] false [4, 5, 6, 8])
         (F_ref08_branch_p12)
def F_ref08_branch_p14 : ACode :=
  .seq (.reg 0 [⟨some 85, .faddr 48 5 5 (.t 4), none⟩, ⟨some 86, .load 12 false 1 (.t 85), none⟩, ⟨some 87, .mov (.t 86), none⟩, ⟨some 88, .mov (.t 9), some (2, 87, true)⟩, ⟨some 89, .pick (.t 87) (.t 88) (.c (.bool false)), none⟩, ⟨some 90, .faddr 48 5 5 (.t 4), none⟩, ⟨none, .store 12 1 (.t 90) (.t 89), none⟩] false [4, 5, 6, 8])
        (F_ref08_branch_p13)
def F_ref08_branch_p15 : ACode :=
  .seq (.seq (.reg 0 [⟨some 10, .asg (.c (.int .i64 0)), none⟩] false [3, 4, 5, 6, 8, 9, 10])
        (.block 0 (.loop (F_ref08_branch_p9))))
       (F_ref08_branch_p14)
def F_ref08_branch_p16 : ACode :=
  .seq (.reg 0 [⟨some 48, .load 47 true 11 (.t 3), none⟩, ⟨some 49, .mov (.t 7), none⟩, ⟨some 50, .callp 58 [.t 48, .t 49], none⟩, ⟨some 47, .mov (.t 50), none⟩, ⟨some 51, .ext (.t 47) 0, none⟩, ⟨some 52, .ext (.t 47) 1, none⟩, ⟨some 8, .asg (.t 51), none⟩, ⟨some 9, .asg (.t 52), none⟩] false [3, 4, 5, 6, 8, 9])
      (F_ref08_branch_p15)
def F_ref08_branch_p17 : ACode :=
  .seq (.seq (.reg 0 [⟨some 23, .faddr 9 0 0 (.t 5), none⟩, ⟨some 24, .load 7 false 1 (.t 23), none⟩, ⟨some 25, .bin .eql .other 7 (.t 24) (.c (.int .u8 14)), none⟩] false [3, 4, 5, 6, 7, 25])
      (F_ref08_branch_p5))
     (F_ref08_branch_p16)
def F_ref08_branch_p18 : ACode :=
  .seq (.reg 0 [⟨some 21, .faddr 9 1 1 (.t 5), none⟩, ⟨some 22, .load 27 false 1 (.t 21), none⟩, ⟨some 7, .asg (.t 22), none⟩] false [3, 4, 5, 6, 7])
    (F_ref08_branch_p17)
def F_ref08_branch_p19 : ACode :=
  .seq (.seq (.reg 0 [⟨some 13, .faddr 9 0 0 (.t 5), none⟩, ⟨some 14, .load 7 false 1 (.t 13), none⟩, ⟨some 15, .bin .neq .other 7 (.t 14) (.c (.int .u8 12)), none⟩] false [3, 4, 5, 6, 15])
    (F_ref08_branch_p1))
   (F_ref08_branch_p18)
def F_ref08_branch_p20 : ACode :=
  .seq (.reg 4 [⟨some 3, .box 0 47 (.t 0), none⟩, ⟨some 4, .box 1 48 (.t 1), none⟩, ⟨some 5, .box 2 9 (.t 2), none⟩, ⟨some 6, .alloc 3 48 [.nils, .int .i64 0, .bool false, .bool false, .int .i64 0, .bool false], none⟩] false [3, 4, 5, 6])
  (F_ref08_branch_p19)
def F_ref08_branch : AFun := { nt := 105, res := [.cell 6 48 true 6], code := (F_ref08_branch_p20) }

/-- mandrel/mandrelref08.calls -/
def F_ref08_calls_p1 : ACode :=
  .seq (.reg 0 [⟨some 21, .load 48 true 6 (.t 4), none⟩, ⟨none, .store 48 6 (.t 6) (.t 21), none⟩] false [6])
           (.ret)
def F_ref08_calls_p2 : ACode :=
  .cond (.t 19) (.seq (.reg 0 [⟨some 20, .faddr 48 5 5 (.t 4), none⟩, ⟨none, .store 12 1 (.t 20) (.c (.bool false)), none⟩] false [4, 6])
          (F_ref08_calls_p1)) (.skip)
def F_ref08_calls_p3 : ACode :=
  .reg 0 [⟨some 22, .faddr 47 0 0 (.t 3), none⟩, ⟨some 23, .faddr 0 1 1 (.t 22), none⟩, ⟨some 24, .load 29 false 1 (.t 23), none⟩, ⟨some 25, .mov (.t 7), none⟩, ⟨some 26, .iaddr 29 3 (.t 24) (.t 25), none⟩, ⟨some 27, .faddr 37 0 0 (.t 26), none⟩, ⟨some 28, .load 13 false 1 (.t 27), none⟩, ⟨some 29, .convi .i64 13 27 (.t 28), none⟩, ⟨some 7, .asg (.t 29), none⟩] false [3, 4, 6, 7]
def F_ref08_calls_p4 : ACode :=
  .reg 0 [⟨some 41, .load 48 true 6 (.t 4), none⟩, ⟨some 42, .callp 27 [.t 41, .c (.int .u8 127)], none⟩, ⟨some 40, .mov (.t 42), none⟩, ⟨some 43, .ext (.t 40) 0, none⟩, ⟨some 44, .ext (.t 40) 1, none⟩, ⟨none, .store 48 6 (.t 4) (.t 43), none⟩] false [3, 4, 6, 7]
def F_ref08_calls_p5 : ACode :=
  .cond (.t 12) (.seq (.seq (.reg 0 [⟨some 13, .mov (.t 7), none⟩, ⟨some 14, .faddr 47 0 0 (.t 3), none⟩, ⟨some 15, .faddr 0 1 1 (.t 14), none⟩, ⟨some 16, .load 29 false 1 (.t 15), none⟩, ⟨some 17, .len 29 (.t 16), none⟩, ⟨some 18, .callp 59 [.t 13, .t 17], none⟩, ⟨some 19, .un .not (.t 18), none⟩] false [3, 4, 6, 7, 19])
        (F_ref08_calls_p2))
       (F_ref08_calls_p3)) (.seq (.reg 0 [⟨some 30, .faddr 48 5 5 (.t 4), none⟩, ⟨some 31, .load 12 false 1 (.t 30), none⟩, ⟨some 32, .mov (.t 31), none⟩, ⟨some 33, .faddr 47 0 0 (.t 3), some (2, 32, true)⟩, ⟨some 34, .faddr 0 2 2 (.t 33), some (2, 32, true)⟩, ⟨some 35, .load 30 false 1 (.t 34), some (2, 32, true)⟩, ⟨some 36, .len 30 (.t 35), some (2, 32, true)⟩, ⟨some 37, .bin .gtr .other 2 (.t 36) (.c (.int .i64 0)), some (2, 32, true)⟩, ⟨some 38, .pick (.t 32) (.t 37) (.c (.bool false)), none⟩, ⟨some 39, .faddr 48 5 5 (.t 4), none⟩, ⟨none, .store 12 1 (.t 39) (.t 38), none⟩] false [3, 4, 6, 7])
       (F_ref08_calls_p4))
def F_ref08_calls_p6 : ACode :=
  .seq (.reg 0 [⟨some 53, .load 48 true 6 (.t 4), none⟩, ⟨none, .store 48 6 (.t 6) (.t 53), none⟩] false [6])
         (.ret)
def F_ref08_calls_p7 : ACode :=
  .cond (.t 51) (.seq (.reg 0 [⟨some 52, .faddr 48 5 5 (.t 4), none⟩, ⟨none, .store 12 1 (.t 52) (.c (.bool false)), none⟩] false [4, 6])
        (F_ref08_calls_p6)) (.skip)
def F_ref08_calls_p8 : ACode :=
  .seq (.reg 0 [⟨some 54, .load 48 true 6 (.t 4), none⟩, ⟨some 55, .faddr 47 0 0 (.t 3), none⟩, ⟨some 56, .faddr 0 0 0 (.t 55), none⟩, ⟨some 57, .load 28 false 1 (.t 56), none⟩, ⟨some 58, .mov (.t 7), none⟩, ⟨some 59, .iaddr 28 2 (.t 57) (.t 58), none⟩, ⟨some 60, .load 35 true 2 (.t 59), none⟩, ⟨some 61, .callp 60 [.t 54, .t 60], none⟩, ⟨none, .store 48 6 (.t 6) (.t 61), none⟩] true [6])
      (.ret)
def F_ref08_calls_p9 : ACode :=
  .seq (.seq (.reg 0 [⟨some 45, .mov (.t 7), none⟩, ⟨some 46, .faddr 47 0 0 (.t 3), none⟩, ⟨some 47, .faddr 0 0 0 (.t 46), none⟩, ⟨some 48, .load 28 false 1 (.t 47), none⟩, ⟨some 49, .len 28 (.t 48), none⟩, ⟨some 50, .callp 59 [.t 45, .t 49], none⟩, ⟨some 51, .un .not (.t 50), none⟩] false [3, 4, 6, 7, 51])
      (F_ref08_calls_p7))
     (F_ref08_calls_p8)
def F_ref08_calls_p10 : ACode :=
  .seq (.seq (.reg 0 [⟨some 10, .faddr 9 0 0 (.t 5), none⟩, ⟨some 11, .load 7 false 1 (.t 10), none⟩, ⟨some 12, .bin .eql .other 7 (.t 11) (.c (.int .u8 16)), none⟩] false [3, 4, 6, 7, 12])
     (F_ref08_calls_p5))
    (F_ref08_calls_p9)
def F_ref08_calls_p11 : ACode :=
  .seq (.reg 0 [⟨some 8, .faddr 9 1 1 (.t 5), none⟩, ⟨some 9, .load 27 false 1 (.t 8), none⟩, ⟨some 7, .asg (.t 9), none⟩] false [3, 4, 5, 6, 7])
   (F_ref08_calls_p10)
def F_ref08_calls_p12 : ACode :=
  .seq (.reg 4 [⟨some 3, .box 0 47 (.t 0), none⟩, ⟨some 4, .box 1 48 (.t 1), none⟩, ⟨some 5, .box 2 9 (.t 2), none⟩, ⟨some 6, .alloc 3 48 [.nils, .int .i64 0, .bool false, .bool false, .int .i64 0, .bool false], none⟩] false [3, 4, 5, 6])
  (F_ref08_calls_p11)
def F_ref08_calls : AFun := { nt := 62, res := [.cell 6 48 true 6], code := (F_ref08_calls_p12) }

/-- mandrel/mandrelref08.lay -/
def F_ref08_lay_p1 : ACode :=
  .cond (.t 7) (.seq (.reg 0 [⟨some 8, .load 48 true 6 (.t 2), none⟩, ⟨none, .store 48 6 (.t 4) (.t 8), none⟩] false [4])
      (.ret)) (.skip)
def F_ref08_lay_p2 : ACode :=
  .cond (.t 24) (.reg 0 [⟨some 25, .faddr 48 4 4 (.t 2), none⟩, ⟨some 26, .load 2 false 1 (.t 25), none⟩, ⟨some 27, .faddr 48 1 1 (.t 2), none⟩, ⟨some 28, .load 2 false 1 (.t 27), none⟩, ⟨some 29, .faddr 48 0 0 (.t 2), none⟩, ⟨some 30, .load 36 false 1 (.t 29), none⟩, ⟨some 31, .len 36 (.t 30), none⟩, ⟨some 32, .bin .add .other 2 (.t 28) (.t 31), none⟩, ⟨some 33, .mm true 2 2 (.t 26) (.t 32), none⟩, ⟨some 34, .faddr 48 4 4 (.t 2), none⟩, ⟨none, .store 2 1 (.t 34) (.t 33), none⟩] false [2, 4]) (.skip)
def F_ref08_lay_p3 : ACode :=
  .seq (.reg 0 [⟨some 35, .load 48 true 6 (.t 2), none⟩, ⟨none, .store 48 6 (.t 4) (.t 35), none⟩] false [4])
       (.ret)
def F_ref08_lay_p4 : ACode :=
  .seq (.seq (.reg 0 [⟨some 17, .faddr 48 2 2 (.t 2), none⟩, ⟨some 18, .load 12 false 1 (.t 17), none⟩, ⟨some 19, .un .not (.t 18), none⟩, ⟨some 20, .mov (.t 19), none⟩, ⟨some 21, .faddr 48 3 3 (.t 2), some (3, 20, true)⟩, ⟨some 22, .load 12 false 1 (.t 21), some (3, 20, true)⟩, ⟨some 23, .un .not (.t 22), some (3, 20, true)⟩, ⟨some 24, .pick (.t 20) (.t 23) (.c (.bool false)), none⟩] false [2, 4, 24])
       (F_ref08_lay_p2))
      (F_ref08_lay_p3)
def F_ref08_lay_p5 : ACode :=
  .seq (.reg 3 [⟨some 9, .mov (.t 5), none⟩, ⟨some 10, .faddr 48 0 0 (.t 2), none⟩, ⟨some 11, .load 36 false 1 (.t 10), none⟩, ⟨some 12, .app 0 36 1 1 (.t 9) (.t 11), none⟩, ⟨some 13, .mov (.t 1), none⟩, ⟨some 14, .bslv 1 36 [.int .u8 0] 1 [(0, .t 13)], none⟩, ⟨some 15, .app 2 36 1 1 (.t 12) (.t 14), none⟩, ⟨some 16, .faddr 48 0 0 (.t 2), none⟩, ⟨none, .store 36 1 (.t 16) (.t 15), none⟩] false [2, 4])
     (F_ref08_lay_p4)
def F_ref08_lay_p6 : ACode :=
  .seq (.reg 0 [⟨some 5, .asg (.c .nils), none⟩] false [1, 2, 4, 5])
    (F_ref08_lay_p5)
def F_ref08_lay_p7 : ACode :=
  .seq (.seq (.reg 0 [⟨some 6, .mov (.t 1), none⟩, ⟨some 7, .bin .eql .other 7 (.t 6) (.c (.int .u8 0)), none⟩] false [1, 2, 4, 7])
    (F_ref08_lay_p1))
   (F_ref08_lay_p6)
def F_ref08_lay_p8 : ACode :=
  .seq (.reg 2 [⟨some 2, .box 0 48 (.t 0), none⟩, ⟨some 4, .alloc 1 48 [.nils, .int .i64 0, .bool false, .bool false, .int .i64 0, .bool false], none⟩] false [1, 2, 4])
  (F_ref08_lay_p7)
def F_ref08_lay : AFun := { nt := 36, res := [.cell 4 48 true 6], code := (F_ref08_lay_p8) }

/-- mandrel/mandrelref08.variable -/
def F_ref08_variable_p1 : ACode :=
  .cond (.t 14) (.reg 0 [⟨some 15, .faddr 47 0 0 (.t 3), none⟩, ⟨some 16, .faddr 0 4 4 (.t 15), none⟩, ⟨some 17, .load 31 false 1 (.t 16), none⟩, ⟨some 18, .len 31 (.t 17), none⟩, ⟨some 7, .asg (.t 18), none⟩] false [3, 4, 5, 6, 7]) (.skip)
def F_ref08_variable_p2 : ACode :=
  .seq (.reg 0 [⟨some 25, .load 48 true 6 (.t 4), none⟩, ⟨none, .store 48 6 (.t 6) (.t 25), none⟩] false [6])
         (.ret)
def F_ref08_variable_p3 : ACode :=
  .cond (.t 23) (.seq (.reg 0 [⟨some 24, .faddr 48 5 5 (.t 4), none⟩, ⟨none, .store 12 1 (.t 24) (.c (.bool false)), none⟩] false [4, 6])
        (F_ref08_variable_p2)) (.skip)
def F_ref08_variable_p4 : ACode :=
  .reg 0 [⟨some 37, .faddr 48 5 5 (.t 4), none⟩, ⟨some 38, .load 12 false 1 (.t 37), none⟩, ⟨some 39, .mov (.t 38), none⟩, ⟨some 40, .faddr 9 0 0 (.t 5), some (2, 39, true)⟩, ⟨some 41, .load 7 false 1 (.t 40), some (2, 39, true)⟩, ⟨some 42, .bin .eql .other 7 (.t 41) (.c (.int .u8 35)), some (2, 39, true)⟩, ⟨some 43, .mov (.t 42), some (2, 39, true)⟩, ⟨some 44, .faddr 47 0 0 (.t 3), some (6, 43, false)⟩, ⟨some 45, .faddr 0 4 4 (.t 44), some (6, 43, false)⟩, ⟨some 46, .load 31 false 1 (.t 45), some (6, 43, false)⟩, ⟨some 47, .faddr 9 1 1 (.t 5), some (6, 43, false)⟩, ⟨some 48, .load 27 false 1 (.t 47), some (6, 43, false)⟩, ⟨some 49, .iaddr 31 10 (.t 46) (.t 48), some (6, 43, false)⟩, ⟨some 50, .faddr 42 1 1 (.t 49), some (6, 43, false)⟩, ⟨some 51, .load 12 false 1 (.t 50), some (6, 43, false)⟩, ⟨some 52, .pick (.t 43) (.c (.bool true)) (.t 51), some (2, 39, true)⟩, ⟨some 53, .pick (.t 39) (.t 52) (.c (.bool false)), none⟩, ⟨some 54, .faddr 48 5 5 (.t 4), none⟩, ⟨none, .store 12 1 (.t 54) (.t 53), none⟩] false [4, 5, 6, 8]
def F_ref08_variable_p5 : ACode :=
  .cond (.t 28) (.seq (.reg 0 [⟨some 29, .faddr 47 0 0 (.t 3), none⟩, ⟨some 30, .faddr 0 4 4 (.t 29), none⟩, ⟨some 31, .load 31 false 1 (.t 30), none⟩, ⟨some 32, .faddr 9 1 1 (.t 5), none⟩, ⟨some 33, .load 27 false 1 (.t 32), none⟩, ⟨some 34, .iaddr 31 10 (.t 31) (.t 33), none⟩, ⟨some 35, .faddr 42 0 0 (.t 34), none⟩, ⟨some 36, .load 7 false 1 (.t 35), none⟩, ⟨some 8, .asg (.t 36), none⟩] false [3, 4, 5, 6, 8])
          (F_ref08_variable_p4)) (.reg 0 [⟨some 55, .faddr 47 2 9 (.t 3), none⟩, ⟨some 56, .load 36 false 1 (.t 55), none⟩, ⟨some 57, .faddr 9 1 1 (.t 5), none⟩, ⟨some 58, .load 27 false 1 (.t 57), none⟩, ⟨some 59, .iaddr 36 1 (.t 56) (.t 58), none⟩, ⟨some 60, .load 7 false 1 (.t 59), none⟩, ⟨some 8, .asg (.t 60), none⟩] false [4, 5, 6, 8])
def F_ref08_variable_p6 : ACode :=
  .cond (.t 73) (.reg 0 [⟨some 75, .load 48 true 6 (.t 4), none⟩, ⟨some 76, .mov (.t 8), none⟩, ⟨some 77, .callp 27 [.t 75, .t 76], none⟩, ⟨some 74, .mov (.t 77), none⟩, ⟨some 78, .ext (.t 74) 0, none⟩, ⟨some 79, .ext (.t 74) 1, none⟩, ⟨none, .store 48 6 (.t 4) (.t 78), none⟩] false [4, 5, 6, 8]) (.skip)
def F_ref08_variable_p7 : ACode :=
  .cond (.t 92) (.reg 0 [⟨some 93, .load 48 true 6 (.t 4), none⟩, ⟨some 94, .mov (.t 8), none⟩, ⟨some 95, .callp 46 [.t 93, .t 94], none⟩, ⟨none, .store 48 6 (.t 4) (.t 95), none⟩] false [4, 6]) (.skip)
def F_ref08_variable_p8 : ACode :=
  .seq (.reg 0 [⟨some 96, .load 48 true 6 (.t 4), none⟩, ⟨none, .store 48 6 (.t 6) (.t 96), none⟩] false [6])
          (.ret)
def F_ref08_variable_p9 : ACode :=
  .seq (.seq (.reg 0 [⟨some 80, .faddr 9 0 0 (.t 5), none⟩, ⟨some 81, .load 7 false 1 (.t 80), none⟩, ⟨some 82, .bin .eql .other 7 (.t 81) (.c (.int .u8 32)), none⟩, ⟨some 83, .mov (.t 82), none⟩, ⟨some 84, .faddr 9 0 0 (.t 5), some (3, 83, false)⟩, ⟨some 85, .load 7 false 1 (.t 84), some (3, 83, false)⟩, ⟨some 86, .bin .eql .other 7 (.t 85) (.c (.int .u8 34)), some (3, 83, false)⟩, ⟨some 87, .pick (.t 83) (.c (.bool true)) (.t 86), none⟩, ⟨some 88, .mov (.t 87), none⟩, ⟨some 89, .faddr 9 0 0 (.t 5), some (8, 88, false)⟩, ⟨some 90, .load 7 false 1 (.t 89), some (8, 88, false)⟩, ⟨some 91, .bin .eql .other 7 (.t 90) (.c (.int .u8 35)), some (8, 88, false)⟩, ⟨some 92, .pick (.t 88) (.c (.bool true)) (.t 91), none⟩] false [4, 6, 8, 92])
          (F_ref08_variable_p7))
         (F_ref08_variable_p8)
def F_ref08_variable_p10 : ACode :=
  .seq (.seq (.reg 0 [⟨some 61, .faddr 9 0 0 (.t 5), none⟩, ⟨some 62, .load 7 false 1 (.t 61), none⟩, ⟨some 63, .bin .eql .other 7 (.t 62) (.c (.int .u8 33)), none⟩, ⟨some 64, .mov (.t 63), none⟩, ⟨some 65, .faddr 9 0 0 (.t 5), some (3, 64, false)⟩, ⟨some 66, .load 7 false 1 (.t 65), some (3, 64, false)⟩, ⟨some 67, .bin .eql .other 7 (.t 66) (.c (.int .u8 34)), some (3, 64, false)⟩, ⟨some 68, .pick (.t 64) (.c (.bool true)) (.t 67), none⟩, ⟨some 69, .mov (.t 68), none⟩, ⟨some 70, .faddr 9 0 0 (.t 5), some (8, 69, false)⟩, ⟨some 71, .load 7 false 1 (.t 70), some (8, 69, false)⟩, ⟨some 72, .bin .eql .other 7 (.t 71) (.c (.int .u8 36)), some (8, 69, false)⟩, ⟨some 73, .pick (.t 69) (.c (.bool true)) (.t 72), none⟩] false [4, 5, 6, 8, 73])
         (F_ref08_variable_p6))
        (F_ref08_variable_p9)
def F_ref08_variable_p11 : ACode :=
  .seq (.seq (.reg 0 [⟨some 26, .faddr 9 0 0 (.t 5), none⟩, ⟨some 27, .load 7 false 1 (.t 26), none⟩, ⟨some 28, .bin .geq .other 7 (.t 27) (.c (.int .u8 35)), none⟩] false [3, 4, 5, 6, 28])
        (F_ref08_variable_p5))
       (F_ref08_variable_p10)
def F_ref08_variable_p12 : ACode :=
  .seq (.reg 0 [⟨some 8, .asg (.c (.int .u8 0)), none⟩] false [3, 4, 5, 6])
      (F_ref08_variable_p11)
def F_ref08_variable_p13 : ACode :=
  .seq (.seq (.reg 0 [⟨some 19, .faddr 9 1 1 (.t 5), none⟩, ⟨some 20, .load 27 false 1 (.t 19), none⟩, ⟨some 21, .mov (.t 7), none⟩, ⟨some 22, .callp 59 [.t 20, .t 21], none⟩, ⟨some 23, .un .not (.t 22), none⟩] false [3, 4, 5, 6, 23])
      (F_ref08_variable_p3))
     (F_ref08_variable_p12)
def F_ref08_variable_p14 : ACode :=
  .seq (.seq (.reg 0 [⟨some 12, .faddr 9 0 0 (.t 5), none⟩, ⟨some 13, .load 7 false 1 (.t 12), none⟩, ⟨some 14, .bin .geq .other 7 (.t 13) (.c (.int .u8 35)), none⟩] false [3, 4, 5, 6, 7, 14])
     (F_ref08_variable_p1))
    (F_ref08_variable_p13)
def F_ref08_variable_p15 : ACode :=
  .seq (.reg 0 [⟨some 9, .faddr 47 2 9 (.t 3), none⟩, ⟨some 10, .load 36 false 1 (.t 9), none⟩, ⟨some 11, .len 36 (.t 10), none⟩, ⟨some 7, .asg (.t 11), none⟩] false [3, 4, 5, 6, 7])
   (F_ref08_variable_p14)
def F_ref08_variable_p16 : ACode :=
  .seq (.reg 4 [⟨some 3, .box 0 47 (.t 0), none⟩, ⟨some 4, .box 1 48 (.t 1), none⟩, ⟨some 5, .box 2 9 (.t 2), none⟩, ⟨some 6, .alloc 3 48 [.nils, .int .i64 0, .bool false, .bool false, .int .i64 0, .bool false], none⟩] false [3, 4, 5, 6])
  (F_ref08_variable_p15)
def F_ref08_variable : AFun := { nt := 97, res := [.cell 6 48 true 6], code := (F_ref08_variable_p16) }

/-- mandrel/mandrelref08.value -/
def F_ref08_value_p1 : ACode :=
  .seq (.reg 0 [⟨some 69, .load 48 true 6 (.t 4), none⟩, ⟨none, .store 48 6 (.t 6) (.t 69), none⟩] false [6])
          (.ret)
def F_ref08_value_p2 : ACode :=
  .cond (.t 67) (.seq (.reg 0 [⟨some 68, .faddr 48 5 5 (.t 4), none⟩, ⟨none, .store 12 1 (.t 68) (.c (.bool false)), none⟩] false [4, 6])
         (F_ref08_value_p1)) (.skip)
def F_ref08_value_p3 : ACode :=
  .reg 0 [⟨some 79, .mov (.t 16), none⟩, ⟨some 80, .bin .add .other 13 (.t 79) (.c (.int .u32 1)), none⟩, ⟨some 16, .asg (.t 80), none⟩] false [4, 5, 6, 7, 8, 12, 15, 16]
def F_ref08_value_p4 : ACode :=
  .seq (.block 1 (.reg 0 [⟨some 81, .mov (.t 15), none⟩, ⟨some 82, .bin .mul .other 2 (.c (.int .i64 2)) (.t 81), none⟩, ⟨some 15, .asg (.t 82), none⟩] false [4, 5, 6, 7, 8, 12, 15, 16]))
                (F_ref08_value_p3)
def F_ref08_value_p5 : ACode :=
  .seq (.seq (.reg 0 [⟨some 71, .mov (.t 16), none⟩, ⟨some 72, .faddr 9 2 2 (.t 5), none⟩, ⟨some 73, .load 13 false 1 (.t 72), none⟩, ⟨some 74, .bin .lss .other 13 (.t 71) (.t 73), none⟩, ⟨some 75, .mov (.t 74), none⟩, ⟨some 76, .mov (.t 15), some (4, 75, true)⟩, ⟨some 77, .bin .leq .other 2 (.t 76) (.c (.int .i64 8)), some (4, 75, true)⟩, ⟨some 78, .pick (.t 75) (.t 77) (.c (.bool false)), none⟩] false [4, 5, 6, 7, 8, 12, 15, 16, 78])
                (.cond (.t 78) (.skip) (.exit 0)))
               (F_ref08_value_p4)
def F_ref08_value_p6 : ACode :=
  .reg 0 [⟨some 83, .faddr 48 5 5 (.t 4), none⟩, ⟨some 84, .load 12 false 1 (.t 83), none⟩, ⟨some 85, .mov (.t 84), none⟩, ⟨some 86, .mov (.t 15), some (2, 85, true)⟩, ⟨some 87, .mov (.t 12), some (2, 85, true)⟩, ⟨some 88, .bin .leq .other 2 (.t 86) (.t 87), some (2, 85, true)⟩, ⟨some 89, .pick (.t 85) (.t 88) (.c (.bool false)), none⟩, ⟨some 90, .faddr 48 5 5 (.t 4), none⟩, ⟨none, .store 12 1 (.t 90) (.t 89), none⟩] false [4, 6, 7, 8]
def F_ref08_value_p7 : ACode :=
  .seq (.seq (.reg 0 [⟨some 16, .asg (.c (.int .u32 0)), none⟩] false [4, 5, 6, 7, 8, 12, 15, 16])
            (.block 0 (.loop (F_ref08_value_p5))))
           (F_ref08_value_p6)
def F_ref08_value_p8 : ACode :=
  .cond (.t 70) (.seq (.reg 0 [⟨some 15, .asg (.c (.int .i64 1)), none⟩] false [4, 5, 6, 7, 8, 12, 15])
          (F_ref08_value_p7)) (.skip)
def F_ref08_value_p9 : ACode :=
  .seq (.reg 0 [⟨some 91, .load 48 true 6 (.t 4), none⟩, ⟨some 92, .mov (.t 7), none⟩, ⟨some 93, .mov (.t 8), none⟩, ⟨some 94, .build 35 [.nils, .int .u8 0] [(0, 0, 1, .t 92), (1, 1, 1, .t 93)], none⟩, ⟨some 95, .callp 60 [.t 91, .t 94], none⟩, ⟨none, .store 48 6 (.t 6) (.t 95), none⟩] false [6])
        (.ret)
def F_ref08_value_p10 : ACode :=
  .seq (.seq (.reg 0 [⟨some 70, .mov (.t 14), none⟩] false [4, 5, 6, 7, 8, 12, 70])
        (F_ref08_value_p8))
       (F_ref08_value_p9)
def F_ref08_value_p11 : ACode :=
  .seq (.seq (.reg 0 [⟨some 37, .mov (.t 9), none⟩, ⟨some 38, .un .not (.t 37), none⟩, ⟨some 39, .mov (.t 38), none⟩, ⟨some 40, .mov (.t 10), some (2, 39, false)⟩, ⟨some 41, .bin .eql .other 2 (.t 40) (.c (.int .i64 4)), some (2, 39, false)⟩, ⟨some 42, .mov (.t 41), some (2, 39, false)⟩, ⟨some 43, .mov (.t 10), some (5, 42, false)⟩, ⟨some 44, .bin .eql .other 2 (.t 43) (.c (.int .i64 5)), some (5, 42, false)⟩, ⟨some 45, .pick (.t 42) (.c (.bool true)) (.t 44), some (2, 39, false)⟩, ⟨some 46, .mov (.t 45), some (2, 39, false)⟩, ⟨some 47, .faddr 47 0 0 (.t 3), some (9, 46, true)⟩, ⟨some 48, .faddr 0 3 3 (.t 47), some (9, 46, true)⟩, ⟨some 49, .load 30 false 1 (.t 48), some (9, 46, true)⟩, ⟨some 50, .len 30 (.t 49), some (9, 46, true)⟩, ⟨some 51, .bin .eql .other 2 (.t 50) (.c (.int .i64 0)), some (9, 46, true)⟩, ⟨some 52, .pick (.t 46) (.t 51) (.c (.bool false)), some (2, 39, false)⟩, ⟨some 53, .pick (.t 39) (.c (.bool true)) (.t 52), none⟩, ⟨some 54, .mov (.t 53), none⟩, ⟨some 55, .mov (.t 10), some (17, 54, false)⟩, ⟨some 56, .bin .eql .other 2 (.t 55) (.c (.int .i64 1)), some (17, 54, false)⟩, ⟨some 57, .mov (.t 56), some (17, 54, false)⟩, ⟨some 58, .faddr 9 1 1 (.t 5), some (20, 57, true)⟩, ⟨some 59, .load 27 false 1 (.t 58), some (20, 57, true)⟩, ⟨some 60, .bin .lss .other 27 (.t 59) (.c (.int .i64 (-2147483648))), some (20, 57, true)⟩, ⟨some 61, .mov (.t 60), some (20, 57, true)⟩, ⟨some 62, .faddr 9 1 1 (.t 5), some (24, 61, false)⟩, ⟨some 63, .load 27 false 1 (.t 62), some (24, 61, false)⟩, ⟨some 64, .bin .geq .other 27 (.t 63) (.c (.int .i64 2147483648)), some (24, 61, false)⟩, ⟨some 65, .pick (.t 61) (.c (.bool true)) (.t 64), some (20, 57, true)⟩, ⟨some 66, .pick (.t 57) (.t 65) (.c (.bool false)), some (17, 54, false)⟩, ⟨some 67, .pick (.t 54) (.c (.bool true)) (.t 66), none⟩] false [4, 5, 6, 7, 8, 12, 14, 67])
       (F_ref08_value_p2))
      (F_ref08_value_p10)
def F_ref08_value_p12 : ACode :=
  .seq (.reg 0 [⟨some 31, .faddr 9 0 0 (.t 5), none⟩, ⟨some 32, .load 7 false 1 (.t 31), none⟩, ⟨some 33, .callp 63 [.t 32], none⟩, ⟨some 30, .mov (.t 33), none⟩, ⟨some 34, .ext (.t 30) 0, none⟩, ⟨some 35, .ext (.t 30) 1, none⟩, ⟨some 36, .ext (.t 30) 2, none⟩, ⟨some 12, .asg (.t 34), none⟩, ⟨some 13, .asg (.t 35), none⟩, ⟨some 14, .asg (.t 36), none⟩] false [3, 4, 5, 6, 7, 8, 9, 10, 12, 14])
     (F_ref08_value_p11)
def F_ref08_value_p13 : ACode :=
  .seq (.reg 0 [⟨some 25, .faddr 9 0 0 (.t 5), none⟩, ⟨some 26, .load 7 false 1 (.t 25), none⟩, ⟨some 27, .callp 62 [.t 26], none⟩, ⟨some 24, .mov (.t 27), none⟩, ⟨some 28, .ext (.t 24) 0, none⟩, ⟨some 29, .ext (.t 24) 1, none⟩, ⟨some 10, .asg (.t 28), none⟩, ⟨some 11, .asg (.t 29), none⟩] false [3, 4, 5, 6, 7, 8, 9, 10])
    (F_ref08_value_p12)
def F_ref08_value_p14 : ACode :=
  .seq (.reg 0 [⟨some 18, .faddr 9 0 0 (.t 5), none⟩, ⟨some 19, .load 7 false 1 (.t 18), none⟩, ⟨some 20, .callp 61 [.t 19], none⟩, ⟨some 17, .mov (.t 20), none⟩, ⟨some 21, .ext (.t 17) 0, none⟩, ⟨some 22, .ext (.t 17) 1, none⟩, ⟨some 23, .ext (.t 17) 2, none⟩, ⟨some 7, .asg (.t 21), none⟩, ⟨some 8, .asg (.t 22), none⟩, ⟨some 9, .asg (.t 23), none⟩] false [3, 4, 5, 6, 7, 8, 9])
   (F_ref08_value_p13)
def F_ref08_value_p15 : ACode :=
  .seq (.reg 4 [⟨some 3, .box 0 47 (.t 0), none⟩, ⟨some 4, .box 1 48 (.t 1), none⟩, ⟨some 5, .box 2 9 (.t 2), none⟩, ⟨some 6, .alloc 3 48 [.nils, .int .i64 0, .bool false, .bool false, .int .i64 0, .bool false], none⟩] false [3, 4, 5, 6])
  (F_ref08_value_p14)
def F_ref08_value : AFun := { nt := 96, res := [.cell 6 48 true 6], code := (F_ref08_value_p15) }

/-- mandrel/valid.kinds$1 -/
def F_valid_kinds_1_p1 : ACode :=
  .seq (.reg 0 [⟨some 3, .mov (.t 0), none⟩, ⟨some 4, .bin .eql .other 51 (.t 3) (.c (.int .u8 0)), none⟩, ⟨some 5, .mov (.t 4), none⟩, ⟨some 6, .mov (.t 0), some (2, 5, false)⟩, ⟨some 7, .callp 50 [.t 6], some (2, 5, false)⟩, ⟨some 8, .un .not (.t 7), some (2, 5, false)⟩, ⟨some 9, .pick (.t 5) (.c (.bool true)) (.t 8), none⟩, ⟨some 2, .asg (.t 9), none⟩] false [2])
   (.ret)
def F_valid_kinds_1_p2 : ACode :=
  .seq (.reg 0 [⟨some 2, .asg (.c (.bool false)), none⟩] false [0])
  (F_valid_kinds_1_p1)
def F_valid_kinds_1 : AFun := { nt := 10, res := [.t 2], code := (F_valid_kinds_1_p2) }

/-- mandrel/valid.result -/
def F_valid_result_p1 : ACode :=
  .seq (.reg 0 [⟨some 3, .mov (.t 0), none⟩, ⟨some 4, .bin .eql .other 51 (.t 3) (.c (.int .u8 0)), none⟩, ⟨some 5, .mov (.t 4), none⟩, ⟨some 6, .mov (.t 0), some (2, 5, false)⟩, ⟨some 7, .bin .eql .other 51 (.t 6) (.c (.int .u8 127)), some (2, 5, false)⟩, ⟨some 8, .pick (.t 5) (.c (.bool true)) (.t 7), none⟩, ⟨some 9, .mov (.t 8), none⟩, ⟨some 10, .mov (.t 0), some (6, 9, false)⟩, ⟨some 11, .bin .eql .other 51 (.t 10) (.c (.int .u8 126)), some (6, 9, false)⟩, ⟨some 12, .pick (.t 9) (.c (.bool true)) (.t 11), none⟩, ⟨some 2, .asg (.t 12), none⟩] false [2])
   (.ret)
def F_valid_result_p2 : ACode :=
  .seq (.reg 0 [⟨some 2, .asg (.c (.bool false)), none⟩] false [0])
  (F_valid_result_p1)
def F_valid_result : AFun := { nt := 13, res := [.t 2], code := (F_valid_result_p2) }

/-- slices.ContainsFunc[[]mandrel/api.Kind,mandrel/api.Kind] -/
def F_slices_ContainsFunc_api_Kind_api_Kind_p1 : ACode :=
  .seq (.reg 0 [⟨some 5, .mov (.t 0), none⟩, ⟨some 6, .mov (.t 1), none⟩, ⟨some 7, .callp 66 [.t 5, .t 6], none⟩, ⟨some 8, .bin .geq .other 2 (.t 7) (.c (.int .i64 0)), none⟩, ⟨some 4, .asg (.t 8), none⟩] false [4])
   (.ret)
def F_slices_ContainsFunc_api_Kind_api_Kind_p2 : ACode :=
  .seq (.reg 0 [⟨some 4, .asg (.c (.bool false)), none⟩] false [0, 1])
  (F_slices_ContainsFunc_api_Kind_api_Kind_p1)
def F_slices_ContainsFunc_api_Kind_api_Kind : AFun := { nt := 9, res := [.t 4], code := (F_slices_ContainsFunc_api_Kind_api_Kind_p2) }

/-- slices.ContainsFunc[[]mandrel/api.Global,mandrel/api.Global] -/
def F_slices_ContainsFunc_api_Global_api_Global_p1 : ACode :=
  .seq (.reg 0 [⟨some 5, .mov (.t 0), none⟩, ⟨some 6, .mov (.t 1), none⟩, ⟨some 7, .callp 67 [.t 5, .t 6], none⟩, ⟨some 8, .bin .geq .other 2 (.t 7) (.c (.int .i64 0)), none⟩, ⟨some 4, .asg (.t 8), none⟩] false [4])
   (.ret)
def F_slices_ContainsFunc_api_Global_api_Global_p2 : ACode :=
  .seq (.reg 0 [⟨some 4, .asg (.c (.bool false)), none⟩] false [0, 1])
  (F_slices_ContainsFunc_api_Global_api_Global_p1)
def F_slices_ContainsFunc_api_Global_api_Global : AFun := { nt := 9, res := [.t 4], code := (F_slices_ContainsFunc_api_Global_api_Global_p2) }

/-- mandrel/valid.kinds$2 -/
def F_valid_kinds_2_p1 : ACode :=
  .seq (.reg 0 [⟨some 4, .load 57 false 1 (.t 1), none⟩, ⟨some 5, .faddr 21 0 0 (.t 2), none⟩, ⟨some 6, .load 51 false 1 (.t 5), none⟩, ⟨some 7, .callv (.t 4) [.t 6], none⟩, ⟨some 3, .asg (.t 7), none⟩] false [3])
   (.ret)
def F_valid_kinds_2_p2 : ACode :=
  .seq (.reg 1 [⟨some 2, .box 0 21 (.t 0), none⟩, ⟨some 3, .asg (.c (.bool false)), none⟩] false [1, 2])
  (F_valid_kinds_2_p1)
def F_valid_kinds_2 : AFun := { nt := 8, res := [.t 3], code := (F_valid_kinds_2_p2) }

/-- slices.IndexFunc[[]uint32,uint32] -/
def F_slices_IndexFunc_uint32_uint32_p1 : ACode :=
  .cond (.t 16) (.seq (.reg 0 [⟨some 17, .mov (.t 5), none⟩, ⟨some 4, .asg (.t 17), none⟩] false [4])
              (.ret)) (.skip)
def F_slices_IndexFunc_uint32_uint32_p2 : ACode :=
  .seq (.reg 0 [⟨some 11, .mov (.t 1), none⟩, ⟨some 12, .mov (.t 0), none⟩, ⟨some 13, .mov (.t 5), none⟩, ⟨some 14, .iaddr 23 1 (.t 12) (.t 13), none⟩, ⟨some 15, .load 13 false 1 (.t 14), none⟩, ⟨some 16, .callv (.t 11) [.t 15], none⟩] false [0, 1, 5, 7, 8, 16])
            (F_slices_IndexFunc_uint32_uint32_p1)
def F_slices_IndexFunc_uint32_uint32_p3 : ACode :=
  .reg 0 [⟨some 18, .bin .add .other 2 (.t 8) (.c (.int .i64 1)), none⟩, ⟨some 8, .mov (.t 18), none⟩] false [0, 1, 7, 8]
def F_slices_IndexFunc_uint32_uint32_p4 : ACode :=
  .seq (.block 1 (.seq (.reg 0 [⟨some 10, .mov (.t 8), none⟩, ⟨some 5, .asg (.t 10), none⟩] false [0, 1, 5, 7, 8])
           (F_slices_IndexFunc_uint32_uint32_p2)))
         (F_slices_IndexFunc_uint32_uint32_p3)
def F_slices_IndexFunc_uint32_uint32_p5 : ACode :=
  .seq (.cond (.t 9) (.skip) (.exit 0))
        (F_slices_IndexFunc_uint32_uint32_p4)
def F_slices_IndexFunc_uint32_uint32_p6 : ACode :=
  .seq (.reg 0 [⟨some 9, .bin .lss .other 2 (.t 8) (.t 7), none⟩] false [0, 1, 7, 8, 9])
       (F_slices_IndexFunc_uint32_uint32_p5)
def F_slices_IndexFunc_uint32_uint32_p7 : ACode :=
  .seq (.seq (.reg 0 [⟨some 6, .mov (.t 0), none⟩, ⟨some 7, .len 23 (.t 6), none⟩, ⟨some 8, .mov (.c (.int .i64 0)), none⟩] false [0, 1, 7, 8])
    (.block 0 (.loop (F_slices_IndexFunc_uint32_uint32_p6))))
   (.seq (.reg 0 [⟨some 4, .asg (.c (.int .i64 (-1))), none⟩] false [4])
    (.ret))
def F_slices_IndexFunc_uint32_uint32_p8 : ACode :=
  .seq (.reg 0 [⟨some 4, .asg (.c (.int .i64 0)), none⟩] false [0, 1])
  (F_slices_IndexFunc_uint32_uint32_p7)
def F_slices_IndexFunc_uint32_uint32 : AFun := { nt := 19, res := [.t 4], code := (F_slices_IndexFunc_uint32_uint32_p8) }

/-- slices.Grow[[]mandrel/api.Kind,mandrel/api.Kind] -/
def F_slices_Grow_api_Kind_api_Kind_p1 : ACode :=
  .cond (.t 6) (.reg 0 [⟨some 7, .mkif 39 (.c (.str ⟨#[99, 97, 110, 110, 111, 116, 32, 98, 101, 32, 110, 101, 103, 97, 116, 105, 118, 101]⟩)), none⟩, ⟨none, .x (.pan (.t 7)), none⟩] false [0, 1]) (.skip)
def F_slices_Grow_api_Kind_api_Kind_p2 : ACode :=
  .cond (.t 16) (.reg 1 [⟨some 17, .mov (.t 0), none⟩, ⟨some 18, .mov (.t 0), none⟩, ⟨some 19, .x (.cap 50 (.t 18)), none⟩, ⟨some 20, .slc 50 1 (.t 17) none (some (.t 19)), none⟩, ⟨some 21, .mov (.t 1), none⟩, ⟨some 22, .x (.appZ 0 50 2 1 [.int .u8 0] (.t 20) (.t 21)), none⟩, ⟨some 23, .mov (.t 0), none⟩, ⟨some 24, .len 50 (.t 23), none⟩, ⟨some 25, .slc 50 1 (.t 22) none (some (.t 24)), none⟩, ⟨some 0, .asg (.t 25), none⟩] false [0]) (.skip)
def F_slices_Grow_api_Kind_api_Kind_p3 : ACode :=
  .seq (.reg 0 [⟨some 15, .mov (.t 1), none⟩, ⟨some 16, .bin .gtr .other 2 (.t 15) (.c (.int .i64 0)), none⟩] false [0, 1, 16])
      (F_slices_Grow_api_Kind_api_Kind_p2)
def F_slices_Grow_api_Kind_api_Kind_p4 : ACode :=
  .seq (.reg 0 [⟨some 26, .mov (.t 0), none⟩, ⟨some 4, .asg (.t 26), none⟩] false [4])
     (.ret)
def F_slices_Grow_api_Kind_api_Kind_p5 : ACode :=
  .seq (.seq (.reg 0 [⟨some 8, .mov (.t 1), none⟩, ⟨some 9, .mov (.t 0), none⟩, ⟨some 10, .x (.cap 50 (.t 9)), none⟩, ⟨some 11, .mov (.t 0), none⟩, ⟨some 12, .len 50 (.t 11), none⟩, ⟨some 13, .bin .sub .other 2 (.t 10) (.t 12), none⟩, ⟨some 14, .bin .sub .other 2 (.t 8) (.t 13), none⟩, ⟨some 1, .asg (.t 14), none⟩] false [0, 1])
     (F_slices_Grow_api_Kind_api_Kind_p3))
    (F_slices_Grow_api_Kind_api_Kind_p4)
def F_slices_Grow_api_Kind_api_Kind_p6 : ACode :=
  .seq (.seq (.reg 0 [⟨some 5, .mov (.t 1), none⟩, ⟨some 6, .bin .lss .other 2 (.t 5) (.c (.int .i64 0)), none⟩] false [0, 1, 6])
    (F_slices_Grow_api_Kind_api_Kind_p1))
   (F_slices_Grow_api_Kind_api_Kind_p5)
def F_slices_Grow_api_Kind_api_Kind_p7 : ACode :=
  .seq (.reg 0 [⟨some 4, .asg (.c .nils), none⟩] false [0, 1])
  (F_slices_Grow_api_Kind_api_Kind_p6)
def F_slices_Grow_api_Kind_api_Kind : AFun := { nt := 27, res := [.t 4], code := (F_slices_Grow_api_Kind_api_Kind_p7) }

/-- (*mandrel/valid.checker).control -/
def F_valid_checker_control_p1 : ACode :=
  .cond (.t 17) (.skip) (.reg 0 [⟨some 19, .bin .eql .other 7 (.t 7) (.c (.int .u8 3)), none⟩, ⟨some 17, .asg (.t 19), none⟩] false [0, 3, 7, 17])
def F_valid_checker_control_p2 : ACode :=
  .cond (.t 37) (.reg 0 [⟨some 4, .asg (.c (.int .u8 0)), none⟩] false [0, 3, 4]) (.skip)
def F_valid_checker_control_p3 : ACode :=
  .reg 0 [⟨some 45, .mov (.t 0), none⟩, ⟨some 46, .faddr 3 4 4 (.t 3), none⟩, ⟨some 47, .load 51 false 1 (.t 46), none⟩, ⟨some 48, .calls 71 [.t 45, .t 47], none⟩] false []
def F_valid_checker_control_p4 : ACode :=
  .seq (.reg 0 [⟨some 38, .mov (.t 0), none⟩, ⟨some 39, .faddr 3 5 5 (.t 3), none⟩, ⟨some 40, .load 4 false 1 (.t 39), none⟩, ⟨some 41, .faddr 3 4 4 (.t 3), none⟩, ⟨some 42, .load 51 false 1 (.t 41), none⟩, ⟨some 43, .mov (.t 4), none⟩, ⟨some 44, .calls 70 [.t 38, .t 40, .t 42, .t 43], none⟩] false [0, 3])
              (F_valid_checker_control_p3)
def F_valid_checker_control_p5 : ACode :=
  .seq (.seq (.reg 0 [⟨some 35, .faddr 3 0 0 (.t 3), none⟩, ⟨some 36, .load 7 false 1 (.t 35), none⟩, ⟨some 37, .bin .eql .other 7 (.t 36) (.c (.int .u8 3)), none⟩] false [0, 3, 4, 37])
              (F_valid_checker_control_p2))
             (F_valid_checker_control_p4)
def F_valid_checker_control_p6 : ACode :=
  .seq (.reg 0 [⟨some 33, .faddr 3 4 4 (.t 3), none⟩, ⟨some 34, .load 51 false 1 (.t 33), none⟩, ⟨some 4, .asg (.t 34), none⟩] false [0, 3, 4])
            (F_valid_checker_control_p5)
def F_valid_checker_control_p7 : ACode :=
  .reg 0 [⟨some 82, .mov (.t 0), none⟩, ⟨some 83, .faddr 3 4 4 (.t 3), none⟩, ⟨some 84, .load 51 false 1 (.t 83), none⟩, ⟨some 85, .calls 71 [.t 82, .t 84], none⟩] false []
def F_valid_checker_control_p8 : ACode :=
  .seq (.reg 0 [⟨some 74, .mov (.t 0), none⟩, ⟨some 75, .faddr 3 6 6 (.t 3), none⟩, ⟨some 76, .load 4 false 1 (.t 75), none⟩, ⟨some 77, .faddr 3 4 4 (.t 3), none⟩, ⟨some 78, .load 51 false 1 (.t 77), none⟩, ⟨some 79, .faddr 3 4 4 (.t 3), none⟩, ⟨some 80, .load 51 false 1 (.t 79), none⟩, ⟨some 81, .calls 70 [.t 74, .t 76, .t 78, .t 80], none⟩] false [0, 3])
                (F_valid_checker_control_p7)
def F_valid_checker_control_p9 : ACode :=
  .seq (.reg 0 [⟨some 66, .mov (.t 0), none⟩, ⟨some 67, .faddr 3 5 5 (.t 3), none⟩, ⟨some 68, .load 4 false 1 (.t 67), none⟩, ⟨some 69, .faddr 3 4 4 (.t 3), none⟩, ⟨some 70, .load 51 false 1 (.t 69), none⟩, ⟨some 71, .faddr 3 4 4 (.t 3), none⟩, ⟨some 72, .load 51 false 1 (.t 71), none⟩, ⟨some 73, .calls 70 [.t 66, .t 68, .t 70, .t 72], none⟩] false [0, 3])
               (F_valid_checker_control_p8)
def F_valid_checker_control_p10 : ACode :=
  .seq (.reg 0 [⟨some 64, .mov (.t 0), none⟩, ⟨some 65, .calls 40 [.t 64, .c (.int .u8 127)], none⟩] false [0, 3])
              (F_valid_checker_control_p9)
def F_valid_checker_control_p11 : ACode :=
  .reg 0 [⟨some 94, .mov (.t 0), none⟩, ⟨some 95, .calls 69 [.t 94], none⟩] false []
def F_valid_checker_control_p12 : ACode :=
  .reg 0 [⟨some 107, .mov (.t 0), none⟩, ⟨some 108, .mov (.t 5), none⟩, ⟨some 109, .calls 71 [.t 107, .t 108], none⟩] false []
def F_valid_checker_control_p13 : ACode :=
  .seq (.reg 0 [⟨some 104, .mov (.t 0), none⟩, ⟨some 105, .mov (.t 5), none⟩, ⟨some 106, .calls 40 [.t 104, .t 105], none⟩] false [0, 5])
                   (F_valid_checker_control_p12)
def F_valid_checker_control_p14 : ACode :=
  .seq (.reg 0 [⟨some 100, .mov (.t 0), none⟩, ⟨some 101, .faddr 3 1 1 (.t 3), none⟩, ⟨some 102, .load 27 false 1 (.t 101), none⟩, ⟨some 103, .calls 72 [.t 100, .t 102], none⟩, ⟨some 5, .asg (.t 103), none⟩] false [0, 5])
                  (F_valid_checker_control_p13)
def F_valid_checker_control_p15 : ACode :=
  .reg 0 [⟨some 124, .mov (.t 0), none⟩, ⟨some 125, .calls 69 [.t 124], none⟩] false []
def F_valid_checker_control_p16 : ACode :=
  .reg 0 [⟨some 154, .mov (.t 0), none⟩, ⟨some 155, .mov (.t 0), none⟩, ⟨some 156, .faddr 3 1 1 (.t 3), none⟩, ⟨some 157, .load 27 false 1 (.t 156), none⟩, ⟨some 158, .calls 76 [.t 155, .t 157], none⟩, ⟨some 159, .calls 75 [.t 154, .t 158], none⟩] false []
def F_valid_checker_control_p17 : ACode :=
  .seq (.reg 0 [⟨some 152, .mov (.t 0), none⟩, ⟨some 153, .calls 40 [.t 152, .c (.int .u8 127)], none⟩] false [0, 3])
                          (F_valid_checker_control_p16)
def F_valid_checker_control_p18 : ACode :=
  .cond (.t 134) (.seq (.reg 0 [⟨some 136, .mov (.t 0), none⟩, ⟨some 137, .mov (.t 0), none⟩, ⟨some 138, .nilchk (.t 137), none⟩, ⟨some 139, .faddr 46 7 15 (.t 138), none⟩, ⟨some 140, .load 12 false 1 (.t 139), none⟩, ⟨some 141, .mov (.t 140), none⟩, ⟨some 142, .mov (.t 0), some (5, 141, false)⟩, ⟨some 143, .nilchk (.t 142), some (5, 141, false)⟩, ⟨some 144, .faddr 46 0 0 (.t 143), some (5, 141, false)⟩, ⟨some 145, .faddr 1 2 2 (.t 144), some (5, 141, false)⟩, ⟨some 146, .load 18 false 1 (.t 145), some (5, 141, false)⟩, ⟨some 147, .len 18 (.t 146), some (5, 141, false)⟩, ⟨some 148, .bin .eql .other 2 (.t 147) (.c (.int .i64 0)), some (5, 141, false)⟩, ⟨some 149, .pick (.t 141) (.c (.bool true)) (.t 148), none⟩, ⟨some 150, .nilchk (.t 136), none⟩, ⟨some 151, .faddr 46 7 15 (.t 150), none⟩, ⟨none, .store 12 1 (.t 151) (.t 149), none⟩] false [0, 3])
                         (F_valid_checker_control_p17)) (.reg 0 [⟨some 8, .mov (.t 0), none⟩, ⟨some 9, .nilchk (.t 8), none⟩, ⟨some 10, .faddr 46 7 15 (.t 9), none⟩, ⟨none, .store 12 1 (.t 10) (.c (.bool true)), none⟩] false [])
def F_valid_checker_control_p19 : ACode :=
  .cond (.t 126) (.reg 0 [⟨some 128, .mov (.t 0), none⟩, ⟨some 129, .mov (.t 0), none⟩, ⟨some 130, .faddr 3 1 1 (.t 3), none⟩, ⟨some 131, .load 27 false 1 (.t 130), none⟩, ⟨some 132, .calls 74 [.t 129, .t 131], none⟩, ⟨some 133, .calls 75 [.t 128, .t 132], none⟩] false []) (.seq (.reg 0 [⟨some 135, .bin .eql .other 7 (.t 7) (.c (.int .u8 17)), none⟩, ⟨some 134, .asg (.t 135), none⟩] false [0, 3, 134])
                       (F_valid_checker_control_p18))
def F_valid_checker_control_p20 : ACode :=
  .cond (.t 115) (.seq (.reg 0 [⟨some 117, .mov (.t 0), none⟩, ⟨some 118, .mov (.t 0), none⟩, ⟨some 119, .nilchk (.t 118), none⟩, ⟨some 120, .faddr 46 1 8 (.t 119), none⟩, ⟨some 121, .faddr 43 1 1 (.t 120), none⟩, ⟨some 122, .load 51 false 1 (.t 121), none⟩, ⟨some 123, .calls 40 [.t 117, .t 122], none⟩] false [0])
                     (F_valid_checker_control_p15)) (.seq (.reg 0 [⟨some 127, .bin .eql .other 7 (.t 7) (.c (.int .u8 16)), none⟩, ⟨some 126, .asg (.t 127), none⟩] false [0, 3, 7, 126])
                     (F_valid_checker_control_p19))
def F_valid_checker_control_p21 : ACode :=
  .cond (.t 110) (.reg 0 [⟨some 112, .mov (.t 0), none⟩, ⟨some 113, .load 3 true 8 (.t 3), none⟩, ⟨some 114, .calls 73 [.t 112, .t 113], none⟩] false []) (.seq (.reg 0 [⟨some 116, .bin .eql .other 7 (.t 7) (.c (.int .u8 15)), none⟩, ⟨some 115, .asg (.t 116), none⟩] false [0, 3, 7, 115])
                   (F_valid_checker_control_p20))
def F_valid_checker_control_p22 : ACode :=
  .cond (.t 96) (.seq (.reg 0 [⟨some 98, .mov (.t 0), none⟩, ⟨some 99, .calls 40 [.t 98, .c (.int .u8 127)], none⟩] false [0, 3])
                 (F_valid_checker_control_p14)) (.seq (.reg 0 [⟨some 111, .bin .eql .other 7 (.t 7) (.c (.int .u8 14)), none⟩, ⟨some 110, .asg (.t 111), none⟩] false [0, 3, 7, 110])
                 (F_valid_checker_control_p21))
def F_valid_checker_control_p23 : ACode :=
  .cond (.t 86) (.seq (.reg 0 [⟨some 88, .mov (.t 0), none⟩, ⟨some 89, .mov (.t 0), none⟩, ⟨some 90, .faddr 3 1 1 (.t 3), none⟩, ⟨some 91, .load 27 false 1 (.t 90), none⟩, ⟨some 92, .calls 72 [.t 89, .t 91], none⟩, ⟨some 93, .calls 40 [.t 88, .t 92], none⟩] false [0])
               (F_valid_checker_control_p11)) (.seq (.reg 0 [⟨some 97, .bin .eql .other 7 (.t 7) (.c (.int .u8 13)), none⟩, ⟨some 96, .asg (.t 97), none⟩] false [0, 3, 7, 96])
               (F_valid_checker_control_p22))
def F_valid_checker_control_p24 : ACode :=
  .cond (.t 49) (.seq (.reg 0 [⟨some 51, .mov (.t 0), none⟩, ⟨some 52, .mov (.t 0), none⟩, ⟨some 53, .nilchk (.t 52), none⟩, ⟨some 54, .faddr 46 7 15 (.t 53), none⟩, ⟨some 55, .load 12 false 1 (.t 54), none⟩, ⟨some 56, .mov (.t 55), none⟩, ⟨some 57, .faddr 3 4 4 (.t 3), some (5, 56, false)⟩, ⟨some 58, .load 51 false 1 (.t 57), some (5, 56, false)⟩, ⟨some 59, .callp 50 [.t 58], some (5, 56, false)⟩, ⟨some 60, .un .not (.t 59), some (5, 56, false)⟩, ⟨some 61, .pick (.t 56) (.c (.bool true)) (.t 60), none⟩, ⟨some 62, .nilchk (.t 51), none⟩, ⟨some 63, .faddr 46 7 15 (.t 62), none⟩, ⟨none, .store 12 1 (.t 63) (.t 61), none⟩] false [0, 3])
             (F_valid_checker_control_p10)) (.seq (.reg 0 [⟨some 87, .bin .eql .other 7 (.t 7) (.c (.int .u8 12)), none⟩, ⟨some 86, .asg (.t 87), none⟩] false [0, 3, 7, 86])
             (F_valid_checker_control_p23))
def F_valid_checker_control_p25 : ACode :=
  .cond (.t 17) (.seq (.reg 0 [⟨some 20, .mov (.t 0), none⟩, ⟨some 21, .mov (.t 0), none⟩, ⟨some 22, .nilchk (.t 21), none⟩, ⟨some 23, .faddr 46 7 15 (.t 22), none⟩, ⟨some 24, .load 12 false 1 (.t 23), none⟩, ⟨some 25, .mov (.t 24), none⟩, ⟨some 26, .faddr 3 4 4 (.t 3), some (5, 25, false)⟩, ⟨some 27, .load 51 false 1 (.t 26), some (5, 25, false)⟩, ⟨some 28, .callp 50 [.t 27], some (5, 25, false)⟩, ⟨some 29, .un .not (.t 28), some (5, 25, false)⟩, ⟨some 30, .pick (.t 25) (.c (.bool true)) (.t 29), none⟩, ⟨some 31, .nilchk (.t 20), none⟩, ⟨some 32, .faddr 46 7 15 (.t 31), none⟩, ⟨none, .store 12 1 (.t 32) (.t 30), none⟩] false [0, 3])
           (F_valid_checker_control_p6)) (.seq (.reg 0 [⟨some 50, .bin .eql .other 7 (.t 7) (.c (.int .u8 4)), none⟩, ⟨some 49, .asg (.t 50), none⟩] false [0, 3, 7, 49])
           (F_valid_checker_control_p24))
def F_valid_checker_control_p26 : ACode :=
  .cond (.t 15) (.skip) (.seq (.seq (.reg 0 [⟨some 18, .bin .eql .other 7 (.t 7) (.c (.int .u8 2)), none⟩, ⟨some 17, .asg (.t 18), none⟩] false [0, 3, 7, 17])
          (F_valid_checker_control_p1))
         (F_valid_checker_control_p25))
def F_valid_checker_control_p27 : ACode :=
  .cond (.t 11) (.reg 0 [⟨some 13, .mov (.t 0), none⟩, ⟨some 14, .calls 69 [.t 13], none⟩] false []) (.seq (.reg 0 [⟨some 16, .bin .eql .other 7 (.t 7) (.c (.int .u8 1)), none⟩, ⟨some 15, .asg (.t 16), none⟩] false [0, 3, 7, 15])
       (F_valid_checker_control_p26))
def F_valid_checker_control_p28 : ACode :=
  .block 0 (.seq (.reg 0 [⟨some 12, .bin .eql .other 7 (.t 7) (.c (.int .u8 0)), none⟩, ⟨some 11, .asg (.t 12), none⟩] false [0, 3, 7, 11])
     (F_valid_checker_control_p27))
def F_valid_checker_control_p29 : ACode :=
  .seq (.reg 0 [⟨some 6, .faddr 3 0 0 (.t 3), none⟩, ⟨some 7, .load 7 false 1 (.t 6), none⟩] false [0, 3, 7])
   (F_valid_checker_control_p28)
def F_valid_checker_control_p30 : ACode :=
  .seq (.reg 1 [⟨some 3, .box 0 3 (.t 1), none⟩] false [0, 3])
  (F_valid_checker_control_p29)
def F_valid_checker_control : AFun := { nt := 160, res := [], code := (F_valid_checker_control_p30) }

/-- (*mandrel/valid.checker).simple -/
def F_valid_checker_simple_p1 : ACode :=
  .reg 0 [⟨some 22, .mov (.t 0), none⟩, ⟨some 23, .mov (.t 0), none⟩, ⟨some 24, .mov (.t 4), none⟩, ⟨some 25, .calls 40 [.t 23, .t 24], none⟩, ⟨some 26, .calls 71 [.t 22, .t 25], none⟩] false []
def F_valid_checker_simple_p2 : ACode :=
  .seq (.reg 0 [⟨some 20, .mov (.t 0), none⟩, ⟨some 21, .calls 40 [.t 20, .c (.int .u8 1)], none⟩, ⟨some 4, .asg (.t 21), none⟩] false [0, 4])
          (F_valid_checker_simple_p1)
def F_valid_checker_simple_p3 : ACode :=
  .reg 0 [⟨some 52, .mov (.t 0), none⟩, ⟨some 53, .mov (.t 5), none⟩, ⟨some 54, .calls 71 [.t 52, .t 53], none⟩] false []
def F_valid_checker_simple_p4 : ACode :=
  .seq (.reg 0 [⟨some 49, .mov (.t 0), none⟩, ⟨some 50, .mov (.t 5), none⟩, ⟨some 51, .calls 40 [.t 49, .t 50], none⟩] false [0, 5])
                (F_valid_checker_simple_p3)
def F_valid_checker_simple_p5 : ACode :=
  .reg 0 [⟨some 82, .mov (.t 0), none⟩, ⟨some 83, .faddr 21 0 0 (.t 6), none⟩, ⟨some 84, .load 51 false 1 (.t 83), none⟩, ⟨some 85, .calls 40 [.t 82, .t 84], none⟩] false []
def F_valid_checker_simple_p6 : ACode :=
  .seq (.reg 0 [⟨some 70, .mov (.t 0), none⟩, ⟨some 71, .mov (.t 0), none⟩, ⟨some 72, .nilchk (.t 71), none⟩, ⟨some 73, .faddr 46 7 15 (.t 72), none⟩, ⟨some 74, .load 12 false 1 (.t 73), none⟩, ⟨some 75, .mov (.t 74), none⟩, ⟨some 76, .faddr 21 1 1 (.t 6), some (5, 75, false)⟩, ⟨some 77, .load 12 false 1 (.t 76), some (5, 75, false)⟩, ⟨some 78, .un .not (.t 77), some (5, 75, false)⟩, ⟨some 79, .pick (.t 75) (.c (.bool true)) (.t 78), none⟩, ⟨some 80, .nilchk (.t 70), none⟩, ⟨some 81, .faddr 46 7 15 (.t 80), none⟩, ⟨none, .store 12 1 (.t 81) (.t 79), none⟩] false [0, 6])
                    (F_valid_checker_simple_p5)
def F_valid_checker_simple_p7 : ACode :=
  .cond (.t 64) (.seq (.reg 1 [⟨some 66, .mov (.t 0), none⟩, ⟨some 67, .faddr 3 1 1 (.t 3), none⟩, ⟨some 68, .load 27 false 1 (.t 67), none⟩, ⟨some 69, .calls 78 [.t 66, .t 68], none⟩, ⟨some 6, .alloc 0 21 [.int .u8 0, .bool false, .int .u8 0, .int .i64 0, .int .u32 0, .int .u32 0, .int .u8 0, .nils, .nils, .nils], none⟩, ⟨none, .store 21 10 (.t 6) (.t 69), none⟩] false [0, 6])
                   (F_valid_checker_simple_p6)) (.reg 0 [⟨some 9, .mov (.t 0), none⟩, ⟨some 10, .load 3 true 8 (.t 3), none⟩, ⟨some 11, .calls 79 [.t 9, .t 10], none⟩] false [])
def F_valid_checker_simple_p8 : ACode :=
  .cond (.t 55) (.reg 0 [⟨some 57, .mov (.t 0), none⟩, ⟨some 58, .mov (.t 0), none⟩, ⟨some 59, .faddr 3 1 1 (.t 3), none⟩, ⟨some 60, .load 27 false 1 (.t 59), none⟩, ⟨some 61, .calls 78 [.t 58, .t 60], none⟩, ⟨some 62, .fld 21 0 0 false 1 (.t 61), none⟩, ⟨some 63, .calls 71 [.t 57, .t 62], none⟩] false []) (.seq (.reg 0 [⟨some 65, .bin .eql .other 7 (.t 8) (.c (.int .u8 36)), none⟩, ⟨some 64, .asg (.t 65), none⟩] false [0, 3, 64])
                 (F_valid_checker_simple_p7))
def F_valid_checker_simple_p9 : ACode :=
  .cond (.t 43) (.seq (.reg 0 [⟨some 45, .mov (.t 0), none⟩, ⟨some 46, .faddr 3 1 1 (.t 3), none⟩, ⟨some 47, .load 27 false 1 (.t 46), none⟩, ⟨some 48, .calls 77 [.t 45, .t 47], none⟩, ⟨some 5, .asg (.t 48), none⟩] false [0, 5])
               (F_valid_checker_simple_p4)) (.seq (.reg 0 [⟨some 56, .bin .eql .other 7 (.t 8) (.c (.int .u8 35)), none⟩, ⟨some 55, .asg (.t 56), none⟩] false [0, 3, 8, 55])
               (F_valid_checker_simple_p8))
def F_valid_checker_simple_p10 : ACode :=
  .cond (.t 35) (.reg 0 [⟨some 37, .mov (.t 0), none⟩, ⟨some 38, .mov (.t 0), none⟩, ⟨some 39, .faddr 3 1 1 (.t 3), none⟩, ⟨some 40, .load 27 false 1 (.t 39), none⟩, ⟨some 41, .calls 77 [.t 38, .t 40], none⟩, ⟨some 42, .calls 40 [.t 37, .t 41], none⟩] false []) (.seq (.reg 0 [⟨some 44, .bin .eql .other 7 (.t 8) (.c (.int .u8 34)), none⟩, ⟨some 43, .asg (.t 44), none⟩] false [0, 3, 8, 43])
             (F_valid_checker_simple_p9))
def F_valid_checker_simple_p11 : ACode :=
  .cond (.t 27) (.reg 0 [⟨some 29, .mov (.t 0), none⟩, ⟨some 30, .mov (.t 0), none⟩, ⟨some 31, .faddr 3 1 1 (.t 3), none⟩, ⟨some 32, .load 27 false 1 (.t 31), none⟩, ⟨some 33, .calls 77 [.t 30, .t 32], none⟩, ⟨some 34, .calls 71 [.t 29, .t 33], none⟩] false []) (.seq (.reg 0 [⟨some 36, .bin .eql .other 7 (.t 8) (.c (.int .u8 33)), none⟩, ⟨some 35, .asg (.t 36), none⟩] false [0, 3, 8, 35])
           (F_valid_checker_simple_p10))
def F_valid_checker_simple_p12 : ACode :=
  .cond (.t 16) (.seq (.reg 0 [⟨some 18, .mov (.t 0), none⟩, ⟨some 19, .calls 40 [.t 18, .c (.int .u8 127)], none⟩] false [0])
         (F_valid_checker_simple_p2)) (.seq (.reg 0 [⟨some 28, .bin .eql .other 7 (.t 8) (.c (.int .u8 32)), none⟩, ⟨some 27, .asg (.t 28), none⟩] false [0, 3, 8, 27])
         (F_valid_checker_simple_p11))
def F_valid_checker_simple_p13 : ACode :=
  .cond (.t 12) (.reg 0 [⟨some 14, .mov (.t 0), none⟩, ⟨some 15, .calls 40 [.t 14, .c (.int .u8 1)], none⟩] false []) (.seq (.reg 0 [⟨some 17, .bin .eql .other 7 (.t 8) (.c (.int .u8 27)), none⟩, ⟨some 16, .asg (.t 17), none⟩] false [0, 3, 8, 16])
       (F_valid_checker_simple_p12))
def F_valid_checker_simple_p14 : ACode :=
  .block 0 (.seq (.reg 0 [⟨some 13, .bin .eql .other 7 (.t 8) (.c (.int .u8 26)), none⟩, ⟨some 12, .asg (.t 13), none⟩] false [0, 3, 8, 12])
     (F_valid_checker_simple_p13))
def F_valid_checker_simple_p15 : ACode :=
  .seq (.reg 0 [⟨some 7, .faddr 3 0 0 (.t 3), none⟩, ⟨some 8, .load 7 false 1 (.t 7), none⟩] false [0, 3, 8])
   (F_valid_checker_simple_p14)
def F_valid_checker_simple_p16 : ACode :=
  .seq (.reg 1 [⟨some 3, .box 0 3 (.t 1), none⟩] false [0, 3])
  (F_valid_checker_simple_p15)
def F_valid_checker_simple : AFun := { nt := 86, res := [], code := (F_valid_checker_simple_p16) }

/-- mandrel/mandrelref08.inner -/
def F_ref08_inner_p1 : ACode :=
  .seq (.reg 0 [⟨some 59, .load 48 true 6 (.t 6), none⟩, ⟨none, .store 48 6 (.t 10) (.t 59), none⟩] false [10])
        (.ret)
def F_ref08_inner_p2 : ACode :=
  .seq (.reg 0 [⟨some 47, .faddr 48 4 4 (.t 12), none⟩, ⟨some 48, .load 2 false 1 (.t 47), none⟩, ⟨some 49, .faddr 48 5 5 (.t 12), none⟩, ⟨some 50, .load 12 false 1 (.t 49), none⟩, ⟨some 51, .mov (.t 50), none⟩, ⟨some 52, .faddr 48 0 0 (.t 12), some (4, 51, true)⟩, ⟨some 53, .load 100036 false 1 (.t 52), some (4, 51, true)⟩, ⟨some 54, .len 36 (.t 53), some (4, 51, true)⟩, ⟨some 55, .bin .eql .other 2 (.t 54) (.c (.int .i64 0)), some (4, 51, true)⟩, ⟨some 56, .pick (.t 51) (.t 55) (.c (.bool false)), none⟩, ⟨some 57, .faddr 48 4 4 (.t 6), none⟩, ⟨none, .store 100002 1 (.t 57) (.t 48), none⟩, ⟨some 58, .faddr 48 5 5 (.t 6), none⟩, ⟨none, .store 12 1 (.t 58) (.t 56), none⟩] true [6, 10])
       (F_ref08_inner_p1)
def F_ref08_inner_p3 : ACode :=
  .seq (.reg 0 [⟨some 42, .load 48 true 6 (.t 12), none⟩, ⟨some 43, .mov (.t 3), none⟩, ⟨some 44, .callp 27 [.t 42, .t 43], none⟩, ⟨some 41, .mov (.t 44), none⟩, ⟨some 45, .ext (.t 41) 0, none⟩, ⟨some 46, .ext (.t 41) 1, none⟩, ⟨none, .store 48 6 (.t 12) (.t 45), none⟩] false [6, 10, 12])
      (F_ref08_inner_p2)
def F_ref08_inner_p4 : ACode :=
  .seq (.reg 1 [⟨some 21, .load 47 true 11 (.t 5), none⟩, ⟨some 22, .faddr 48 1 1 (.t 6), none⟩, ⟨some 23, .load 2 false 1 (.t 22), none⟩, ⟨some 24, .faddr 48 0 0 (.t 6), none⟩, ⟨some 25, .load 36 false 1 (.t 24), none⟩, ⟨some 26, .len 36 (.t 25), none⟩, ⟨some 27, .bin .add .other 2 (.t 23) (.t 26), none⟩, ⟨some 28, .faddr 48 2 2 (.t 6), none⟩, ⟨some 29, .load 12 false 1 (.t 28), none⟩, ⟨some 30, .mov (.t 29), none⟩, ⟨some 31, .faddr 48 3 3 (.t 6), some (9, 30, false)⟩, ⟨some 32, .load 12 false 1 (.t 31), some (9, 30, false)⟩, ⟨some 33, .pick (.t 30) (.c (.bool true)) (.t 32), none⟩, ⟨some 34, .faddr 48 4 4 (.t 6), none⟩, ⟨some 35, .load 2 false 1 (.t 34), none⟩, ⟨some 36, .faddr 48 5 5 (.t 6), none⟩, ⟨some 37, .load 12 false 1 (.t 36), none⟩, ⟨some 38, .build 48 [.nils, .int .i64 0, .bool false, .bool false, .int .i64 0, .bool false] [(1, 1, 1, .t 27), (3, 3, 1, .t 33), (4, 4, 1, .t 35), (5, 5, 1, .t 37)], none⟩, ⟨some 39, .mov (.t 2), none⟩, ⟨some 40, .callp 26 [.t 21, .t 38, .t 39], none⟩, ⟨some 12, .alloc 0 48 [.nils, .int .i64 0, .bool false, .bool false, .int .i64 0, .bool false], none⟩, ⟨none, .store 48 6 (.t 12) (.t 40), none⟩] false [3, 6, 10, 12])
     (F_ref08_inner_p3)
def F_ref08_inner_p5 : ACode :=
  .seq (.reg 3 [⟨some 13, .mov (.t 11), none⟩, ⟨some 14, .faddr 47 3 10 (.t 5), none⟩, ⟨some 15, .load 36 false 1 (.t 14), none⟩, ⟨some 16, .app 0 36 1 1 (.t 13) (.t 15), none⟩, ⟨some 17, .mov (.t 4), none⟩, ⟨some 18, .bslv 1 36 [.int .u8 0] 1 [(0, .t 17)], none⟩, ⟨some 19, .app 2 36 1 1 (.t 16) (.t 18), none⟩, ⟨some 20, .faddr 47 3 10 (.t 5), none⟩, ⟨none, .store 36 1 (.t 20) (.t 19), none⟩] false [2, 3, 5, 6, 10])
    (F_ref08_inner_p4)
def F_ref08_inner_p6 : ACode :=
  .seq (.reg 0 [⟨some 11, .asg (.c .nils), none⟩] false [2, 3, 4, 5, 6, 10, 11])
   (F_ref08_inner_p5)
def F_ref08_inner_p7 : ACode :=
  .seq (.reg 3 [⟨some 5, .box 0 47 (.t 0), none⟩, ⟨some 6, .box 1 48 (.t 1), none⟩, ⟨some 10, .alloc 2 48 [.nils, .int .i64 0, .bool false, .bool false, .int .i64 0, .bool false], none⟩] false [2, 3, 4, 5, 6, 10])
  (F_ref08_inner_p6)
def F_ref08_inner : AFun := { nt := 60, res := [.cell 10 48 true 6], code := (F_ref08_inner_p7) }

/-- mandrel/mandrelref08.label -/
def F_ref08_label_p1 : ACode :=
  .cond (.t 14) (.seq (.reg 0 [⟨some 4, .asg (.c (.int .u8 0)), none⟩, ⟨some 5, .asg (.c (.bool false)), none⟩] false [4, 5])
      (.ret)) (.skip)
def F_ref08_label_p2 : ACode :=
  .seq (.reg 0 [⟨some 15, .faddr 47 3 10 (.t 2), none⟩, ⟨some 16, .load 36 false 1 (.t 15), none⟩, ⟨some 17, .faddr 47 3 10 (.t 2), none⟩, ⟨some 18, .load 36 false 1 (.t 17), none⟩, ⟨some 19, .len 36 (.t 18), none⟩, ⟨some 20, .bin .sub .other 2 (.t 19) (.c (.int .i64 1)), none⟩, ⟨some 21, .mov (.t 1), none⟩, ⟨some 22, .bin .sub .other 2 (.t 20) (.t 21), none⟩, ⟨some 23, .iaddr 36 1 (.t 16) (.t 22), none⟩, ⟨some 24, .load 7 false 1 (.t 23), none⟩, ⟨some 4, .asg (.t 24), none⟩, ⟨some 5, .asg (.c (.bool true)), none⟩] false [4, 5])
    (.ret)
def F_ref08_label_p3 : ACode :=
  .seq (.seq (.reg 0 [⟨some 6, .mov (.t 1), none⟩, ⟨some 7, .bin .lss .other 27 (.t 6) (.c (.int .i64 0)), none⟩, ⟨some 8, .mov (.t 7), none⟩, ⟨some 9, .mov (.t 1), some (2, 8, false)⟩, ⟨some 10, .faddr 47 3 10 (.t 2), some (2, 8, false)⟩, ⟨some 11, .load 36 false 1 (.t 10), some (2, 8, false)⟩, ⟨some 12, .len 36 (.t 11), some (2, 8, false)⟩, ⟨some 13, .bin .geq .other 27 (.t 9) (.t 12), some (2, 8, false)⟩, ⟨some 14, .pick (.t 8) (.c (.bool true)) (.t 13), none⟩] false [1, 2, 14])
    (F_ref08_label_p1))
   (F_ref08_label_p2)
def F_ref08_label_p4 : ACode :=
  .seq (.reg 1 [⟨some 2, .box 0 47 (.t 0), none⟩, ⟨some 4, .asg (.c (.int .u8 0)), none⟩, ⟨some 5, .asg (.c (.bool false)), none⟩] false [1, 2])
  (F_ref08_label_p3)
def F_ref08_label : AFun := { nt := 25, res := [.t 4, .t 5], code := (F_ref08_label_p4) }

/-- mandrel/mandrelref08.at -/
def F_ref08_at_p1 : ACode :=
  .seq (.reg 0 [⟨some 5, .mov (.t 0), none⟩, ⟨some 6, .bin .geq .other 27 (.t 5) (.c (.int .i64 0)), none⟩, ⟨some 7, .mov (.t 6), none⟩, ⟨some 8, .mov (.t 0), some (2, 7, true)⟩, ⟨some 9, .mov (.t 1), some (2, 7, true)⟩, ⟨some 10, .bin .lss .other 27 (.t 8) (.t 9), some (2, 7, true)⟩, ⟨some 11, .pick (.t 7) (.t 10) (.c (.bool false)), none⟩, ⟨some 4, .asg (.t 11), none⟩] false [4])
   (.ret)
def F_ref08_at_p2 : ACode :=
  .seq (.reg 0 [⟨some 4, .asg (.c (.bool false)), none⟩] false [0, 1])
  (F_ref08_at_p1)
def F_ref08_at : AFun := { nt := 12, res := [.t 4], code := (F_ref08_at_p2) }

/-- mandrel/mandrelref08.call -/
def F_ref08_call_p1 : ACode :=
  .reg 0 [⟨some 12, .mov (.t 5), none⟩, ⟨some 13, .bin .sub .other 2 (.t 12) (.c (.int .i64 1)), none⟩, ⟨some 5, .asg (.t 13), none⟩] false [2, 3, 4, 5]
def F_ref08_call_p2 : ACode :=
  .seq (.block 1 (.reg 0 [⟨some 15, .load 48 true 6 (.t 2), none⟩, ⟨some 16, .faddr 35 0 0 (.t 3), none⟩, ⟨some 17, .load 36 false 1 (.t 16), none⟩, ⟨some 18, .mov (.t 5), none⟩, ⟨some 19, .iaddr 36 1 (.t 17) (.t 18), none⟩, ⟨some 20, .load 7 false 1 (.t 19), none⟩, ⟨some 21, .callp 27 [.t 15, .t 20], none⟩, ⟨some 14, .mov (.t 21), none⟩, ⟨some 22, .ext (.t 14) 0, none⟩, ⟨some 23, .ext (.t 14) 1, none⟩, ⟨none, .store 48 6 (.t 2) (.t 22), none⟩] true [2, 3, 4, 5]))
        (F_ref08_call_p1)
def F_ref08_call_p3 : ACode :=
  .seq (.seq (.reg 0 [⟨some 10, .mov (.t 5), none⟩, ⟨some 11, .bin .geq .other 2 (.t 10) (.c (.int .i64 0)), none⟩] false [2, 3, 4, 5, 11])
        (.cond (.t 11) (.skip) (.exit 0)))
       (F_ref08_call_p2)
def F_ref08_call_p4 : ACode :=
  .seq (.reg 0 [⟨some 24, .load 48 true 6 (.t 2), none⟩, ⟨some 25, .faddr 35 1 1 (.t 3), none⟩, ⟨some 26, .load 7 false 1 (.t 25), none⟩, ⟨some 27, .callp 46 [.t 24, .t 26], none⟩, ⟨none, .store 48 6 (.t 4) (.t 27), none⟩] false [4])
    (.ret)
def F_ref08_call_p5 : ACode :=
  .seq (.seq (.reg 0 [⟨some 6, .faddr 35 0 0 (.t 3), none⟩, ⟨some 7, .load 36 false 1 (.t 6), none⟩, ⟨some 8, .len 36 (.t 7), none⟩, ⟨some 9, .bin .sub .other 2 (.t 8) (.c (.int .i64 1)), none⟩, ⟨some 5, .asg (.t 9), none⟩] false [2, 3, 4, 5])
    (.block 0 (.loop (F_ref08_call_p3))))
   (F_ref08_call_p4)
def F_ref08_call_p6 : ACode :=
  .seq (.reg 3 [⟨some 2, .box 0 48 (.t 0), none⟩, ⟨some 3, .box 1 35 (.t 1), none⟩, ⟨some 4, .alloc 2 48 [.nils, .int .i64 0, .bool false, .bool false, .int .i64 0, .bool false], none⟩] false [2, 3, 4])
  (F_ref08_call_p5)
def F_ref08_call : AFun := { nt := 28, res := [.cell 4 48 true 6], code := (F_ref08_call_p6) }

/-- mandrel/mandrelref04.Sign -/
def F_ref04_Sign_p1 : ACode :=
  .cond (.t 19) (.seq (.reg 0 [⟨some 2, .asg (.c .nils), none⟩, ⟨some 3, .asg (.c (.int .u8 0)), none⟩, ⟨some 4, .asg (.c (.bool false)), none⟩] false [2, 3, 4])
       (.ret)) (.skip)
def F_ref04_Sign_p2 : ACode :=
  .cond (.t 52) (.seq (.reg 1 [⟨some 55, .mov (.t 6), none⟩, ⟨some 56, .bslice 0 36 [.int .u8 0] 2 [(0, .c (.int .u8 127)), (1, .t 55)], none⟩, ⟨some 2, .asg (.t 56), none⟩, ⟨some 3, .asg (.c (.int .u8 0)), none⟩, ⟨some 4, .asg (.c (.bool true)), none⟩] false [2, 3, 4])
                   (.ret)) (.skip)
def F_ref04_Sign_p3 : ACode :=
  .cond (.t 42) (.seq (.reg 1 [⟨some 50, .bslice 0 36 [.int .u8 0] 1 [(0, .c (.int .u8 127))], none⟩, ⟨some 51, .mov (.t 6), none⟩, ⟨some 2, .asg (.t 50), none⟩, ⟨some 3, .asg (.t 51), none⟩, ⟨some 4, .asg (.c (.bool true)), none⟩] false [2, 3, 4])
                 (.ret)) (.seq (.reg 0 [⟨some 53, .mov (.t 7), none⟩, ⟨some 54, .bin .eql .other 2 (.t 53) (.c (.int .i64 4)), none⟩, ⟨some 52, .asg (.t 54), none⟩] false [0, 6, 52])
                 (F_ref04_Sign_p2))
def F_ref04_Sign_p4 : ACode :=
  .cond (.t 38) (.seq (.reg 1 [⟨some 41, .bslice 0 36 [.int .u8 0] 1 [(0, .c (.int .u8 127))], none⟩, ⟨some 2, .asg (.t 41), none⟩, ⟨some 3, .asg (.c (.int .u8 127)), none⟩, ⟨some 4, .asg (.c (.bool true)), none⟩] false [2, 3, 4])
               (.ret)) (.seq (.reg 0 [⟨some 43, .mov (.t 7), none⟩, ⟨some 44, .bin .eql .other 2 (.t 43) (.c (.int .i64 4)), none⟩, ⟨some 45, .mov (.t 44), none⟩, ⟨some 46, .mov (.t 5), some (2, 45, true)⟩, ⟨some 47, .slcS 39 (.t 46) (some (.c (.int .i64 4))) none, some (2, 45, true)⟩, ⟨some 48, .callp 82 [.t 47, .c (.str ⟨#[108, 111, 97, 100]⟩)], some (2, 45, true)⟩, ⟨some 49, .pick (.t 45) (.t 48) (.c (.bool false)), none⟩, ⟨some 42, .asg (.t 49), none⟩] false [0, 6, 7, 42])
               (F_ref04_Sign_p3))
def F_ref04_Sign_p5 : ACode :=
  .cond (.t 35) (.seq (.reg 0 [⟨some 2, .asg (.c .nils), none⟩, ⟨some 3, .asg (.c (.int .u8 127)), none⟩, ⟨some 4, .asg (.c (.bool true)), none⟩] false [2, 3, 4])
             (.ret)) (.seq (.reg 0 [⟨some 39, .mov (.t 5), none⟩, ⟨some 40, .bin .eql .other 39 (.t 39) (.c (.str ⟨#[109, 101, 109, 111, 114, 121, 46, 103, 114, 111, 119]⟩)), none⟩, ⟨some 38, .asg (.t 40), none⟩] false [0, 5, 6, 7, 38])
             (F_ref04_Sign_p4))
def F_ref04_Sign_p6 : ACode :=
  .cond (.t 27) (.seq (.reg 0 [⟨some 34, .mov (.t 6), none⟩, ⟨some 2, .asg (.c .nils), none⟩, ⟨some 3, .asg (.t 34), none⟩, ⟨some 4, .asg (.c (.bool true)), none⟩] false [2, 3, 4])
           (.ret)) (.seq (.reg 0 [⟨some 36, .mov (.t 5), none⟩, ⟨some 37, .bin .eql .other 39 (.t 36) (.c (.str ⟨#[109, 101, 109, 111, 114, 121, 46, 115, 105, 122, 101]⟩)), none⟩, ⟨some 35, .asg (.t 37), none⟩] false [0, 5, 6, 7, 35])
           (F_ref04_Sign_p5))
def F_ref04_Sign_p7 : ACode :=
  .cond (.t 63) (.reg 0 [⟨some 11, .asg (.c (.int .u8 126)), none⟩] false [9, 11]) (.skip)
def F_ref04_Sign_p8 : ACode :=
  .cond (.t 68) (.skip) (.reg 0 [⟨some 70, .bin .eql .other 39 (.t 64) (.c (.str ⟨#[101, 120, 116, 101, 110, 100, 95, 117]⟩)), none⟩, ⟨some 68, .asg (.t 70), none⟩] false [11, 64, 68])
def F_ref04_Sign_p9 : ACode :=
  .cond (.t 76) (.skip) (.reg 0 [⟨some 79, .bin .eql .other 39 (.t 64) (.c (.str ⟨#[112, 111, 112, 99, 110, 116]⟩)), none⟩, ⟨some 76, .asg (.t 79), none⟩] false [11, 64, 76])
def F_ref04_Sign_p10 : ACode :=
  .cond (.t 76) (.skip) (.seq (.reg 0 [⟨some 78, .bin .eql .other 39 (.t 64) (.c (.str ⟨#[99, 116, 122]⟩)), none⟩, ⟨some 76, .asg (.t 78), none⟩] false [11, 64, 76])
                       (F_ref04_Sign_p9))
def F_ref04_Sign_p11 : ACode :=
  .cond (.t 83) (.skip) (.reg 0 [⟨some 93, .bin .eql .other 39 (.t 64) (.c (.str ⟨#[103, 101, 95, 117]⟩)), none⟩, ⟨some 83, .asg (.t 93), none⟩] false [11, 83])
def F_ref04_Sign_p12 : ACode :=
  .cond (.t 83) (.skip) (.seq (.reg 0 [⟨some 92, .bin .eql .other 39 (.t 64) (.c (.str ⟨#[103, 101, 95, 115]⟩)), none⟩, ⟨some 83, .asg (.t 92), none⟩] false [11, 64, 83])
                                       (F_ref04_Sign_p11))
def F_ref04_Sign_p13 : ACode :=
  .cond (.t 83) (.skip) (.seq (.reg 0 [⟨some 91, .bin .eql .other 39 (.t 64) (.c (.str ⟨#[108, 101, 95, 117]⟩)), none⟩, ⟨some 83, .asg (.t 91), none⟩] false [11, 64, 83])
                                     (F_ref04_Sign_p12))
def F_ref04_Sign_p14 : ACode :=
  .cond (.t 83) (.skip) (.seq (.reg 0 [⟨some 90, .bin .eql .other 39 (.t 64) (.c (.str ⟨#[108, 101, 95, 115]⟩)), none⟩, ⟨some 83, .asg (.t 90), none⟩] false [11, 64, 83])
                                   (F_ref04_Sign_p13))
def F_ref04_Sign_p15 : ACode :=
  .cond (.t 83) (.skip) (.seq (.reg 0 [⟨some 89, .bin .eql .other 39 (.t 64) (.c (.str ⟨#[103, 116, 95, 117]⟩)), none⟩, ⟨some 83, .asg (.t 89), none⟩] false [11, 64, 83])
                                 (F_ref04_Sign_p14))
def F_ref04_Sign_p16 : ACode :=
  .cond (.t 83) (.skip) (.seq (.reg 0 [⟨some 88, .bin .eql .other 39 (.t 64) (.c (.str ⟨#[103, 116, 95, 115]⟩)), none⟩, ⟨some 83, .asg (.t 88), none⟩] false [11, 64, 83])
                               (F_ref04_Sign_p15))
def F_ref04_Sign_p17 : ACode :=
  .cond (.t 83) (.skip) (.seq (.reg 0 [⟨some 87, .bin .eql .other 39 (.t 64) (.c (.str ⟨#[108, 116, 95, 117]⟩)), none⟩, ⟨some 83, .asg (.t 87), none⟩] false [11, 64, 83])
                             (F_ref04_Sign_p16))
def F_ref04_Sign_p18 : ACode :=
  .cond (.t 83) (.skip) (.seq (.reg 0 [⟨some 86, .bin .eql .other 39 (.t 64) (.c (.str ⟨#[108, 116, 95, 115]⟩)), none⟩, ⟨some 83, .asg (.t 86), none⟩] false [11, 64, 83])
                           (F_ref04_Sign_p17))
def F_ref04_Sign_p19 : ACode :=
  .cond (.t 83) (.skip) (.seq (.reg 0 [⟨some 85, .bin .eql .other 39 (.t 64) (.c (.str ⟨#[110, 101]⟩)), none⟩, ⟨some 83, .asg (.t 85), none⟩] false [11, 64, 83])
                         (F_ref04_Sign_p18))
def F_ref04_Sign_p20 : ACode :=
  .cond (.t 83) (.seq (.reg 1 [⟨some 94, .mov (.t 11), none⟩, ⟨some 95, .mov (.t 11), none⟩, ⟨some 96, .bslice 0 36 [.int .u8 0] 2 [(0, .t 94), (1, .t 95)], none⟩, ⟨some 2, .asg (.t 96), none⟩, ⟨some 3, .asg (.c (.int .u8 127)), none⟩, ⟨some 4, .asg (.c (.bool true)), none⟩] false [2, 3, 4])
                        (.ret)) (.skip)
def F_ref04_Sign_p21 : ACode :=
  .cond (.t 76) (.seq (.reg 1 [⟨some 80, .mov (.t 11), none⟩, ⟨some 81, .bslice 0 36 [.int .u8 0] 1 [(0, .t 80)], none⟩, ⟨some 82, .mov (.t 11), none⟩, ⟨some 2, .asg (.t 81), none⟩, ⟨some 3, .asg (.t 82), none⟩, ⟨some 4, .asg (.c (.bool true)), none⟩] false [2, 3, 4])
                      (.ret)) (.seq (.seq (.reg 0 [⟨some 84, .bin .eql .other 39 (.t 64) (.c (.str ⟨#[101, 113]⟩)), none⟩, ⟨some 83, .asg (.t 84), none⟩] false [11, 64, 83])
                       (F_ref04_Sign_p19))
                      (F_ref04_Sign_p20))
def F_ref04_Sign_p22 : ACode :=
  .cond (.t 72) (.seq (.reg 1 [⟨some 74, .mov (.t 11), none⟩, ⟨some 75, .bslice 0 36 [.int .u8 0] 1 [(0, .t 74)], none⟩, ⟨some 2, .asg (.t 75), none⟩, ⟨some 3, .asg (.c (.int .u8 127)), none⟩, ⟨some 4, .asg (.c (.bool true)), none⟩] false [2, 3, 4])
                    (.ret)) (.seq (.seq (.reg 0 [⟨some 77, .bin .eql .other 39 (.t 64) (.c (.str ⟨#[99, 108, 122]⟩)), none⟩, ⟨some 76, .asg (.t 77), none⟩] false [11, 64, 76])
                     (F_ref04_Sign_p10))
                    (F_ref04_Sign_p21))
def F_ref04_Sign_p23 : ACode :=
  .cond (.t 68) (.seq (.reg 1 [⟨some 71, .bslice 0 36 [.int .u8 0] 1 [(0, .c (.int .u8 127))], none⟩, ⟨some 2, .asg (.t 71), none⟩, ⟨some 3, .asg (.c (.int .u8 126)), none⟩, ⟨some 4, .asg (.c (.bool true)), none⟩] false [2, 3, 4])
                  (.ret)) (.seq (.reg 0 [⟨some 73, .bin .eql .other 39 (.t 64) (.c (.str ⟨#[101, 113, 122]⟩)), none⟩, ⟨some 72, .asg (.t 73), none⟩] false [11, 64, 72])
                  (F_ref04_Sign_p22))
def F_ref04_Sign_p24 : ACode :=
  .cond (.t 65) (.seq (.reg 1 [⟨some 67, .bslice 0 36 [.int .u8 0] 1 [(0, .c (.int .u8 126))], none⟩, ⟨some 2, .asg (.t 67), none⟩, ⟨some 3, .asg (.c (.int .u8 127)), none⟩, ⟨some 4, .asg (.c (.bool true)), none⟩] false [2, 3, 4])
                (.ret)) (.seq (.seq (.reg 0 [⟨some 69, .bin .eql .other 39 (.t 64) (.c (.str ⟨#[101, 120, 116, 101, 110, 100, 95, 115]⟩)), none⟩, ⟨some 68, .asg (.t 69), none⟩] false [11, 64, 68])
                 (F_ref04_Sign_p8))
                (F_ref04_Sign_p23))
def F_ref04_Sign_p25 : ACode :=
  .block 1 (.seq (.reg 0 [⟨some 66, .bin .eql .other 39 (.t 64) (.c (.str ⟨#[119, 114, 97, 112]⟩)), none⟩, ⟨some 65, .asg (.t 66), none⟩] false [11, 64, 65])
              (F_ref04_Sign_p24))
def F_ref04_Sign_p26 : ACode :=
  .seq (.reg 1 [⟨some 97, .mov (.t 11), none⟩, ⟨some 98, .mov (.t 11), none⟩, ⟨some 99, .bslice 0 36 [.int .u8 0] 2 [(0, .t 97), (1, .t 98)], none⟩, ⟨some 100, .mov (.t 11), none⟩, ⟨some 2, .asg (.t 99), none⟩, ⟨some 3, .asg (.t 100), none⟩, ⟨some 4, .asg (.c (.bool true)), none⟩] false [2, 3, 4])
            (.ret)
def F_ref04_Sign_p27 : ACode :=
  .seq (.seq (.reg 0 [⟨some 64, .mov (.t 9), none⟩] false [11, 64])
            (F_ref04_Sign_p25))
           (F_ref04_Sign_p26)
def F_ref04_Sign_p28 : ACode :=
  .seq (.seq (.reg 0 [⟨some 62, .mov (.t 10), none⟩, ⟨some 63, .bin .eql .other 2 (.t 62) (.c (.int .i64 64)), none⟩] false [9, 11, 63])
           (F_ref04_Sign_p7))
          (F_ref04_Sign_p27)
def F_ref04_Sign_p29 : ACode :=
  .seq (.reg 0 [⟨some 11, .asg (.c (.int .u8 127)), none⟩] false [9, 10, 11])
         (F_ref04_Sign_p28)
def F_ref04_Sign_p30 : ACode :=
  .seq (.reg 0 [⟨some 58, .mov (.t 0), none⟩, ⟨some 59, .callp 83 [.t 58], none⟩, ⟨some 57, .mov (.t 59), none⟩, ⟨some 60, .ext (.t 57) 0, none⟩, ⟨some 61, .ext (.t 57) 1, none⟩, ⟨some 9, .asg (.t 60), none⟩, ⟨some 10, .asg (.t 61), none⟩] false [9, 10])
        (F_ref04_Sign_p29)
def F_ref04_Sign_p31 : ACode :=
  .seq (.block 0 (.seq (.reg 0 [⟨some 28, .mov (.t 7), none⟩, ⟨some 29, .bin .eql .other 2 (.t 28) (.c (.int .i64 1)), none⟩, ⟨some 30, .mov (.t 29), none⟩, ⟨some 31, .mov (.t 7), some (2, 30, false)⟩, ⟨some 32, .bin .eql .other 2 (.t 31) (.c (.int .i64 2)), some (2, 30, false)⟩, ⟨some 33, .pick (.t 30) (.c (.bool true)) (.t 32), none⟩, ⟨some 27, .asg (.t 33), none⟩] false [0, 5, 6, 7, 27])
         (F_ref04_Sign_p6)))
       (F_ref04_Sign_p30)
def F_ref04_Sign_p32 : ACode :=
  .seq (.reg 0 [⟨some 23, .mov (.t 0), none⟩, ⟨some 24, .callp 62 [.t 23], none⟩, ⟨some 22, .mov (.t 24), none⟩, ⟨some 25, .ext (.t 22) 0, none⟩, ⟨some 26, .ext (.t 22) 1, none⟩, ⟨some 7, .asg (.t 25), none⟩, ⟨some 8, .asg (.t 26), none⟩] false [0, 5, 6, 7])
      (F_ref04_Sign_p31)
def F_ref04_Sign_p33 : ACode :=
  .seq (.reg 0 [⟨some 20, .mov (.t 5), none⟩, ⟨some 21, .callp 81 [.t 20], none⟩, ⟨some 6, .asg (.t 21), none⟩] false [0, 5, 6])
     (F_ref04_Sign_p32)
def F_ref04_Sign_p34 : ACode :=
  .seq (.seq (.reg 0 [⟨some 14, .mov (.t 5), none⟩, ⟨some 15, .bin .eql .other 39 (.t 14) (.c (.str ⟨#[]⟩)), none⟩, ⟨some 16, .mov (.t 15), none⟩, ⟨some 17, .mov (.t 0), some (2, 16, false)⟩, ⟨some 18, .bin .leq .other 7 (.t 17) (.c (.int .u8 36)), some (2, 16, false)⟩, ⟨some 19, .pick (.t 16) (.c (.bool true)) (.t 18), none⟩] false [0, 5, 19])
     (F_ref04_Sign_p1))
    (F_ref04_Sign_p33)
def F_ref04_Sign_p35 : ACode :=
  .seq (.reg 0 [⟨some 12, .mov (.t 0), none⟩, ⟨some 13, .callp 80 [.t 12], none⟩, ⟨some 5, .asg (.t 13), none⟩] false [0, 5])
   (F_ref04_Sign_p34)
def F_ref04_Sign_p36 : ACode :=
  .seq (.reg 0 [⟨some 2, .asg (.c .nils), none⟩, ⟨some 3, .asg (.c (.int .u8 0)), none⟩, ⟨some 4, .asg (.c (.bool false)), none⟩] false [0])
  (F_ref04_Sign_p35)
def F_ref04_Sign : AFun := { nt := 101, res := [.t 2, .t 3, .t 4], code := (F_ref04_Sign_p36) }

/-- mandrel/mandrelref04.Form -/
def F_ref04_Form_p1 : ACode :=
  .cond (.t 8) (.seq (.reg 0 [⟨some 2, .asg (.c (.int .i64 0)), none⟩, ⟨some 3, .asg (.c (.bool false)), none⟩] false [2, 3])
       (.ret)) (.skip)
def F_ref04_Form_p2 : ACode :=
  .cond (.t 14) (.skip) (.reg 0 [⟨some 22, .bin .eql .other 39 (.t 9) (.c (.str ⟨#[103, 108, 111, 98, 97, 108, 46, 115, 101, 116]⟩)), none⟩, ⟨some 14, .asg (.t 22), none⟩] false [4, 9, 14])
def F_ref04_Form_p3 : ACode :=
  .cond (.t 14) (.skip) (.seq (.reg 0 [⟨some 21, .bin .eql .other 39 (.t 9) (.c (.str ⟨#[103, 108, 111, 98, 97, 108, 46, 103, 101, 116]⟩)), none⟩, ⟨some 14, .asg (.t 21), none⟩] false [4, 9, 14])
                         (F_ref04_Form_p2))
def F_ref04_Form_p4 : ACode :=
  .cond (.t 14) (.skip) (.seq (.reg 0 [⟨some 20, .bin .eql .other 39 (.t 9) (.c (.str ⟨#[108, 111, 99, 97, 108, 46, 116, 101, 101]⟩)), none⟩, ⟨some 14, .asg (.t 20), none⟩] false [4, 9, 14])
                       (F_ref04_Form_p3))
def F_ref04_Form_p5 : ACode :=
  .cond (.t 14) (.skip) (.seq (.reg 0 [⟨some 19, .bin .eql .other 39 (.t 9) (.c (.str ⟨#[108, 111, 99, 97, 108, 46, 115, 101, 116]⟩)), none⟩, ⟨some 14, .asg (.t 19), none⟩] false [4, 9, 14])
                     (F_ref04_Form_p4))
def F_ref04_Form_p6 : ACode :=
  .cond (.t 14) (.skip) (.seq (.reg 0 [⟨some 18, .bin .eql .other 39 (.t 9) (.c (.str ⟨#[108, 111, 99, 97, 108, 46, 103, 101, 116]⟩)), none⟩, ⟨some 14, .asg (.t 18), none⟩] false [4, 9, 14])
                   (F_ref04_Form_p5))
def F_ref04_Form_p7 : ACode :=
  .cond (.t 14) (.skip) (.seq (.reg 0 [⟨some 17, .bin .eql .other 39 (.t 9) (.c (.str ⟨#[99, 97, 108, 108]⟩)), none⟩, ⟨some 14, .asg (.t 17), none⟩] false [4, 9, 14])
                 (F_ref04_Form_p6))
def F_ref04_Form_p8 : ACode :=
  .cond (.t 14) (.skip) (.seq (.reg 0 [⟨some 16, .bin .eql .other 39 (.t 9) (.c (.str ⟨#[98, 114, 95, 105, 102]⟩)), none⟩, ⟨some 14, .asg (.t 16), none⟩] false [4, 9, 14])
               (F_ref04_Form_p7))
def F_ref04_Form_p9 : ACode :=
  .cond (.t 23) (.skip) (.reg 0 [⟨some 25, .bin .eql .other 39 (.t 9) (.c (.str ⟨#[109, 101, 109, 111, 114, 121, 46, 103, 114, 111, 119]⟩)), none⟩, ⟨some 23, .asg (.t 25), none⟩] false [4, 9, 23])
def F_ref04_Form_p10 : ACode :=
  .cond (.t 26) (.skip) (.reg 0 [⟨some 28, .bin .eql .other 39 (.t 9) (.c (.str ⟨#[108, 111, 111, 112]⟩)), none⟩, ⟨some 26, .asg (.t 28), none⟩] false [4, 9, 26])
def F_ref04_Form_p11 : ACode :=
  .cond (.t 33) (.seq (.reg 0 [⟨some 2, .asg (.c (.int .i64 9)), none⟩, ⟨some 3, .asg (.c (.bool true)), none⟩] false [2, 3])
                        (.ret)) (.skip)
def F_ref04_Form_p12 : ACode :=
  .cond (.t 31) (.seq (.reg 0 [⟨some 2, .asg (.c (.int .i64 8)), none⟩, ⟨some 3, .asg (.c (.bool true)), none⟩] false [2, 3])
                      (.ret)) (.seq (.reg 0 [⟨some 34, .bin .eql .other 39 (.t 9) (.c (.str ⟨#[99, 97, 108, 108, 95, 105, 110, 100, 105, 114, 101, 99, 116]⟩)), none⟩, ⟨some 33, .asg (.t 34), none⟩] false [4, 33])
                      (F_ref04_Form_p11))
def F_ref04_Form_p13 : ACode :=
  .cond (.t 29) (.seq (.reg 0 [⟨some 2, .asg (.c (.int .i64 7)), none⟩, ⟨some 3, .asg (.c (.bool true)), none⟩] false [2, 3])
                    (.ret)) (.seq (.reg 0 [⟨some 32, .bin .eql .other 39 (.t 9) (.c (.str ⟨#[98, 114, 95, 116, 97, 98, 108, 101]⟩)), none⟩, ⟨some 31, .asg (.t 32), none⟩] false [4, 9, 31])
                    (F_ref04_Form_p12))
def F_ref04_Form_p14 : ACode :=
  .cond (.t 26) (.seq (.reg 0 [⟨some 2, .asg (.c (.int .i64 6)), none⟩, ⟨some 3, .asg (.c (.bool true)), none⟩] false [2, 3])
                  (.ret)) (.seq (.reg 0 [⟨some 30, .bin .eql .other 39 (.t 9) (.c (.str ⟨#[105, 102]⟩)), none⟩, ⟨some 29, .asg (.t 30), none⟩] false [4, 9, 29])
                  (F_ref04_Form_p13))
def F_ref04_Form_p15 : ACode :=
  .cond (.t 23) (.seq (.reg 0 [⟨some 2, .asg (.c (.int .i64 5)), none⟩, ⟨some 3, .asg (.c (.bool true)), none⟩] false [2, 3])
                (.ret)) (.seq (.seq (.reg 0 [⟨some 27, .bin .eql .other 39 (.t 9) (.c (.str ⟨#[98, 108, 111, 99, 107]⟩)), none⟩, ⟨some 26, .asg (.t 27), none⟩] false [4, 9, 26])
                 (F_ref04_Form_p10))
                (F_ref04_Form_p14))
def F_ref04_Form_p16 : ACode :=
  .cond (.t 14) (.seq (.reg 0 [⟨some 2, .asg (.c (.int .i64 3)), none⟩, ⟨some 3, .asg (.c (.bool true)), none⟩] false [2, 3])
              (.ret)) (.seq (.seq (.reg 0 [⟨some 24, .bin .eql .other 39 (.t 9) (.c (.str ⟨#[109, 101, 109, 111, 114, 121, 46, 115, 105, 122, 101]⟩)), none⟩, ⟨some 23, .asg (.t 24), none⟩] false [4, 9, 23])
               (F_ref04_Form_p9))
              (F_ref04_Form_p15))
def F_ref04_Form_p17 : ACode :=
  .cond (.t 12) (.seq (.reg 0 [⟨some 2, .asg (.c (.int .i64 2)), none⟩, ⟨some 3, .asg (.c (.bool true)), none⟩] false [2, 3])
            (.ret)) (.seq (.seq (.reg 0 [⟨some 15, .bin .eql .other 39 (.t 9) (.c (.str ⟨#[98, 114]⟩)), none⟩, ⟨some 14, .asg (.t 15), none⟩] false [4, 9, 14])
             (F_ref04_Form_p8))
            (F_ref04_Form_p16))
def F_ref04_Form_p18 : ACode :=
  .cond (.t 10) (.seq (.reg 0 [⟨some 2, .asg (.c (.int .i64 1)), none⟩, ⟨some 3, .asg (.c (.bool true)), none⟩] false [2, 3])
          (.ret)) (.seq (.reg 0 [⟨some 13, .bin .eql .other 39 (.t 9) (.c (.str ⟨#[105, 54, 52, 46, 99, 111, 110, 115, 116]⟩)), none⟩, ⟨some 12, .asg (.t 13), none⟩] false [4, 9, 12])
          (F_ref04_Form_p17))
def F_ref04_Form_p19 : ACode :=
  .block 0 (.seq (.reg 0 [⟨some 11, .bin .eql .other 39 (.t 9) (.c (.str ⟨#[105, 51, 50, 46, 99, 111, 110, 115, 116]⟩)), none⟩, ⟨some 10, .asg (.t 11), none⟩] false [4, 9, 10])
        (F_ref04_Form_p18))
def F_ref04_Form_p20 : ACode :=
  .cond (.t 52) (.seq (.reg 0 [⟨some 2, .asg (.c (.int .i64 4)), none⟩, ⟨some 3, .asg (.c (.bool true)), none⟩] false [2, 3])
         (.ret)) (.skip)
def F_ref04_Form_p21 : ACode :=
  .seq (.reg 0 [⟨some 2, .asg (.c (.int .i64 0)), none⟩, ⟨some 3, .asg (.c (.bool true)), none⟩] false [2, 3])
       (.ret)
def F_ref04_Form_p22 : ACode :=
  .seq (.seq (.reg 0 [⟨some 35, .mov (.t 4), none⟩, ⟨some 36, .slcS 39 (.t 35) (some (.c (.int .i64 1))) none, none⟩, ⟨some 37, .callp 82 [.t 36, .c (.str ⟨#[51, 50, 46, 108, 111, 97, 100]⟩)], none⟩, ⟨some 38, .mov (.t 37), none⟩, ⟨some 39, .mov (.t 4), some (3, 38, false)⟩, ⟨some 40, .slcS 39 (.t 39) (some (.c (.int .i64 1))) none, some (3, 38, false)⟩, ⟨some 41, .callp 82 [.t 40, .c (.str ⟨#[54, 52, 46, 108, 111, 97, 100]⟩)], some (3, 38, false)⟩, ⟨some 42, .pick (.t 38) (.c (.bool true)) (.t 41), none⟩, ⟨some 43, .mov (.t 42), none⟩, ⟨some 44, .mov (.t 4), some (8, 43, false)⟩, ⟨some 45, .slcS 39 (.t 44) (some (.c (.int .i64 1))) none, some (8, 43, false)⟩, ⟨some 46, .callp 82 [.t 45, .c (.str ⟨#[51, 50, 46, 115, 116, 111, 114, 101]⟩)], some (8, 43, false)⟩, ⟨some 47, .pick (.t 43) (.c (.bool true)) (.t 46), none⟩, ⟨some 48, .mov (.t 47), none⟩, ⟨some 49, .mov (.t 4), some (13, 48, false)⟩, ⟨some 50, .slcS 39 (.t 49) (some (.c (.int .i64 1))) none, some (13, 48, false)⟩, ⟨some 51, .callp 82 [.t 50, .c (.str ⟨#[54, 52, 46, 115, 116, 111, 114, 101]⟩)], some (13, 48, false)⟩, ⟨some 52, .pick (.t 48) (.c (.bool true)) (.t 51), none⟩] false [52])
       (F_ref04_Form_p20))
      (F_ref04_Form_p21)
def F_ref04_Form_p23 : ACode :=
  .seq (.seq (.reg 0 [⟨some 9, .mov (.t 4), none⟩] false [4, 9])
      (F_ref04_Form_p19))
     (F_ref04_Form_p22)
def F_ref04_Form_p24 : ACode :=
  .seq (.seq (.reg 0 [⟨some 7, .mov (.t 4), none⟩, ⟨some 8, .bin .eql .other 39 (.t 7) (.c (.str ⟨#[]⟩)), none⟩] false [4, 8])
     (F_ref04_Form_p1))
    (F_ref04_Form_p23)
def F_ref04_Form_p25 : ACode :=
  .seq (.reg 0 [⟨some 5, .mov (.t 0), none⟩, ⟨some 6, .callp 80 [.t 5], none⟩, ⟨some 4, .asg (.t 6), none⟩] false [4])
   (F_ref04_Form_p24)
def F_ref04_Form_p26 : ACode :=
  .seq (.reg 0 [⟨some 2, .asg (.c (.int .i64 0)), none⟩, ⟨some 3, .asg (.c (.bool false)), none⟩] false [0])
  (F_ref04_Form_p25)
def F_ref04_Form : AFun := { nt := 53, res := [.t 2, .t 3], code := (F_ref04_Form_p26) }

/-- mandrel/mandrelref04.Bytes -/
def F_ref04_Bytes_p1 : ACode :=
  .cond (.t 21) (.seq (.reg 0 [⟨some 2, .asg (.c (.int .i64 0)), none⟩, ⟨some 3, .asg (.c (.bool false)), none⟩, ⟨some 4, .asg (.c (.bool false)), none⟩] false [2, 3, 4])
        (.ret)) (.skip)
def F_ref04_Bytes_p2 : ACode :=
  .cond (.t 36) (.reg 0 [⟨some 37, .mov (.t 5), none⟩, ⟨some 38, .mov (.t 5), none⟩, ⟨some 39, .lenS 39 (.t 38), none⟩, ⟨some 40, .bin .sub .other 2 (.t 39) (.c (.int .i64 2)), none⟩, ⟨some 41, .slcS 39 (.t 37) none (some (.t 40)), none⟩, ⟨some 5, .asg (.t 41), none⟩] false [5, 8]) (.skip)
def F_ref04_Bytes_p3 : ACode :=
  .cond (.t 53) (.seq (.reg 0 [⟨some 55, .mov (.t 8), none⟩, ⟨some 2, .asg (.c (.int .i64 4)), none⟩, ⟨some 3, .asg (.t 55), none⟩, ⟨some 4, .asg (.c (.bool true)), none⟩] false [2, 3, 4])
                 (.ret)) (.skip)
def F_ref04_Bytes_p4 : ACode :=
  .cond (.t 50) (.seq (.reg 0 [⟨some 52, .mov (.t 8), none⟩, ⟨some 2, .asg (.c (.int .i64 2)), none⟩, ⟨some 3, .asg (.t 52), none⟩, ⟨some 4, .asg (.c (.bool true)), none⟩] false [2, 3, 4])
               (.ret)) (.seq (.reg 0 [⟨some 54, .bin .eql .other 39 (.t 46) (.c (.str ⟨#[50]⟩)), none⟩, ⟨some 53, .asg (.t 54), none⟩] false [5, 8, 53])
               (F_ref04_Bytes_p3))
def F_ref04_Bytes_p5 : ACode :=
  .cond (.t 47) (.seq (.reg 0 [⟨some 49, .mov (.t 8), none⟩, ⟨some 2, .asg (.c (.int .i64 1)), none⟩, ⟨some 3, .asg (.t 49), none⟩, ⟨some 4, .asg (.c (.bool true)), none⟩] false [2, 3, 4])
             (.ret)) (.seq (.reg 0 [⟨some 51, .bin .eql .other 39 (.t 46) (.c (.str ⟨#[54]⟩)), none⟩, ⟨some 50, .asg (.t 51), none⟩] false [5, 8, 46, 50])
             (F_ref04_Bytes_p4))
def F_ref04_Bytes_p6 : ACode :=
  .block 0 (.seq (.reg 0 [⟨some 48, .bin .eql .other 39 (.t 46) (.c (.str ⟨#[56]⟩)), none⟩, ⟨some 47, .asg (.t 48), none⟩] false [5, 8, 46, 47])
           (F_ref04_Bytes_p5))
def F_ref04_Bytes_p7 : ACode :=
  .cond (.t 58) (.seq (.reg 0 [⟨some 59, .mov (.t 8), none⟩, ⟨some 2, .asg (.c (.int .i64 4)), none⟩, ⟨some 3, .asg (.t 59), none⟩, ⟨some 4, .asg (.c (.bool true)), none⟩] false [2, 3, 4])
            (.ret)) (.skip)
def F_ref04_Bytes_p8 : ACode :=
  .seq (.reg 0 [⟨some 60, .mov (.t 8), none⟩, ⟨some 2, .asg (.c (.int .i64 8)), none⟩, ⟨some 3, .asg (.t 60), none⟩, ⟨some 4, .asg (.c (.bool true)), none⟩] false [2, 3, 4])
          (.ret)
def F_ref04_Bytes_p9 : ACode :=
  .seq (.seq (.reg 0 [⟨some 56, .mov (.t 5), none⟩, ⟨some 57, .callp 81 [.t 56], none⟩, ⟨some 58, .bin .eql .other 7 (.t 57) (.c (.int .u8 127)), none⟩] false [8, 58])
          (F_ref04_Bytes_p7))
         (F_ref04_Bytes_p8)
def F_ref04_Bytes_p10 : ACode :=
  .seq (.seq (.reg 0 [⟨some 42, .mov (.t 5), none⟩, ⟨some 43, .mov (.t 5), none⟩, ⟨some 44, .lenS 39 (.t 43), none⟩, ⟨some 45, .bin .sub .other 2 (.t 44) (.c (.int .i64 1)), none⟩, ⟨some 46, .slcS 39 (.t 42) (some (.t 45)) none, none⟩] false [5, 8, 46])
         (F_ref04_Bytes_p6))
        (F_ref04_Bytes_p9)
def F_ref04_Bytes_p11 : ACode :=
  .seq (.seq (.reg 0 [⟨some 28, .mov (.t 8), none⟩, ⟨some 29, .mov (.t 28), none⟩, ⟨some 30, .mov (.t 5), some (1, 29, false)⟩, ⟨some 31, .mov (.t 5), some (1, 29, false)⟩, ⟨some 32, .lenS 39 (.t 31), some (1, 29, false)⟩, ⟨some 33, .bin .sub .other 2 (.t 32) (.c (.int .i64 2)), some (1, 29, false)⟩, ⟨some 34, .slcS 39 (.t 30) (some (.t 33)) none, some (1, 29, false)⟩, ⟨some 35, .bin .eql .other 39 (.t 34) (.c (.str ⟨#[95, 117]⟩)), some (1, 29, false)⟩, ⟨some 36, .pick (.t 29) (.c (.bool true)) (.t 35), none⟩] false [5, 8, 36])
        (F_ref04_Bytes_p2))
       (F_ref04_Bytes_p10)
def F_ref04_Bytes_p12 : ACode :=
  .seq (.reg 0 [⟨some 22, .mov (.t 5), none⟩, ⟨some 23, .mov (.t 5), none⟩, ⟨some 24, .lenS 39 (.t 23), none⟩, ⟨some 25, .bin .sub .other 2 (.t 24) (.c (.int .i64 2)), none⟩, ⟨some 26, .slcS 39 (.t 22) (some (.t 25)) none, none⟩, ⟨some 27, .bin .eql .other 39 (.t 26) (.c (.str ⟨#[95, 115]⟩)), none⟩, ⟨some 8, .asg (.t 27), none⟩] false [5, 8])
      (F_ref04_Bytes_p11)
def F_ref04_Bytes_p13 : ACode :=
  .seq (.seq (.reg 0 [⟨some 16, .mov (.t 5), none⟩, ⟨some 17, .bin .eql .other 39 (.t 16) (.c (.str ⟨#[]⟩)), none⟩, ⟨some 18, .mov (.t 17), none⟩, ⟨some 19, .mov (.t 6), some (2, 18, false)⟩, ⟨some 20, .bin .neq .other 2 (.t 19) (.c (.int .i64 4)), some (2, 18, false)⟩, ⟨some 21, .pick (.t 18) (.c (.bool true)) (.t 20), none⟩] false [5, 21])
      (F_ref04_Bytes_p1))
     (F_ref04_Bytes_p12)
def F_ref04_Bytes_p14 : ACode :=
  .seq (.reg 0 [⟨some 12, .mov (.t 0), none⟩, ⟨some 13, .callp 62 [.t 12], none⟩, ⟨some 11, .mov (.t 13), none⟩, ⟨some 14, .ext (.t 11) 0, none⟩, ⟨some 15, .ext (.t 11) 1, none⟩, ⟨some 6, .asg (.t 14), none⟩, ⟨some 7, .asg (.t 15), none⟩] false [5, 6])
    (F_ref04_Bytes_p13)
def F_ref04_Bytes_p15 : ACode :=
  .seq (.reg 0 [⟨some 9, .mov (.t 0), none⟩, ⟨some 10, .callp 80 [.t 9], none⟩, ⟨some 5, .asg (.t 10), none⟩] false [0, 5])
   (F_ref04_Bytes_p14)
def F_ref04_Bytes_p16 : ACode :=
  .seq (.reg 0 [⟨some 2, .asg (.c (.int .i64 0)), none⟩, ⟨some 3, .asg (.c (.bool false)), none⟩, ⟨some 4, .asg (.c (.bool false)), none⟩] false [0])
  (F_ref04_Bytes_p15)
def F_ref04_Bytes : AFun := { nt := 61, res := [.t 2, .t 3, .t 4], code := (F_ref04_Bytes_p16) }

/-- slices.IndexFunc[[]mandrel/api.Kind,mandrel/api.Kind] -/
def F_slices_IndexFunc_api_Kind_api_Kind_p1 : ACode :=
  .cond (.t 16) (.seq (.reg 0 [⟨some 17, .mov (.t 5), none⟩, ⟨some 4, .asg (.t 17), none⟩] false [4])
              (.ret)) (.skip)
def F_slices_IndexFunc_api_Kind_api_Kind_p2 : ACode :=
  .seq (.reg 0 [⟨some 11, .mov (.t 1), none⟩, ⟨some 12, .mov (.t 0), none⟩, ⟨some 13, .mov (.t 5), none⟩, ⟨some 14, .iaddr 50 1 (.t 12) (.t 13), none⟩, ⟨some 15, .load 51 false 1 (.t 14), none⟩, ⟨some 16, .callv (.t 11) [.t 15], none⟩] false [0, 1, 5, 7, 8, 16])
            (F_slices_IndexFunc_api_Kind_api_Kind_p1)
def F_slices_IndexFunc_api_Kind_api_Kind_p3 : ACode :=
  .reg 0 [⟨some 18, .bin .add .other 2 (.t 8) (.c (.int .i64 1)), none⟩, ⟨some 8, .mov (.t 18), none⟩] false [0, 1, 7, 8]
def F_slices_IndexFunc_api_Kind_api_Kind_p4 : ACode :=
  .seq (.block 1 (.seq (.reg 0 [⟨some 10, .mov (.t 8), none⟩, ⟨some 5, .asg (.t 10), none⟩] false [0, 1, 5, 7, 8])
           (F_slices_IndexFunc_api_Kind_api_Kind_p2)))
         (F_slices_IndexFunc_api_Kind_api_Kind_p3)
def F_slices_IndexFunc_api_Kind_api_Kind_p5 : ACode :=
  .seq (.cond (.t 9) (.skip) (.exit 0))
        (F_slices_IndexFunc_api_Kind_api_Kind_p4)
def F_slices_IndexFunc_api_Kind_api_Kind_p6 : ACode :=
  .seq (.reg 0 [⟨some 9, .bin .lss .other 2 (.t 8) (.t 7), none⟩] false [0, 1, 7, 8, 9])
       (F_slices_IndexFunc_api_Kind_api_Kind_p5)
def F_slices_IndexFunc_api_Kind_api_Kind_p7 : ACode :=
  .seq (.seq (.reg 0 [⟨some 6, .mov (.t 0), none⟩, ⟨some 7, .len 50 (.t 6), none⟩, ⟨some 8, .mov (.c (.int .i64 0)), none⟩] false [0, 1, 7, 8])
    (.block 0 (.loop (F_slices_IndexFunc_api_Kind_api_Kind_p6))))
   (.seq (.reg 0 [⟨some 4, .asg (.c (.int .i64 (-1))), none⟩] false [4])
    (.ret))
def F_slices_IndexFunc_api_Kind_api_Kind_p8 : ACode :=
  .seq (.reg 0 [⟨some 4, .asg (.c (.int .i64 0)), none⟩] false [0, 1])
  (F_slices_IndexFunc_api_Kind_api_Kind_p7)
def F_slices_IndexFunc_api_Kind_api_Kind : AFun := { nt := 19, res := [.t 4], code := (F_slices_IndexFunc_api_Kind_api_Kind_p8) }

/-- slices.IndexFunc[[]mandrel/api.Global,mandrel/api.Global] -/
def F_slices_IndexFunc_api_Global_api_Global_p1 : ACode :=
  .cond (.t 16) (.seq (.reg 0 [⟨some 17, .mov (.t 5), none⟩, ⟨some 4, .asg (.t 17), none⟩] false [4])
              (.ret)) (.skip)
def F_slices_IndexFunc_api_Global_api_Global_p2 : ACode :=
  .seq (.reg 0 [⟨some 11, .mov (.t 1), none⟩, ⟨some 12, .mov (.t 0), none⟩, ⟨some 13, .mov (.t 5), none⟩, ⟨some 14, .iaddr 20 10 (.t 12) (.t 13), none⟩, ⟨some 15, .load 21 true 10 (.t 14), none⟩, ⟨some 16, .callv (.t 11) [.t 15], none⟩] false [0, 1, 5, 7, 8, 16])
            (F_slices_IndexFunc_api_Global_api_Global_p1)
def F_slices_IndexFunc_api_Global_api_Global_p3 : ACode :=
  .reg 0 [⟨some 18, .bin .add .other 2 (.t 8) (.c (.int .i64 1)), none⟩, ⟨some 8, .mov (.t 18), none⟩] false [0, 1, 7, 8]
def F_slices_IndexFunc_api_Global_api_Global_p4 : ACode :=
  .seq (.block 1 (.seq (.reg 0 [⟨some 10, .mov (.t 8), none⟩, ⟨some 5, .asg (.t 10), none⟩] false [0, 1, 5, 7, 8])
           (F_slices_IndexFunc_api_Global_api_Global_p2)))
         (F_slices_IndexFunc_api_Global_api_Global_p3)
def F_slices_IndexFunc_api_Global_api_Global_p5 : ACode :=
  .seq (.cond (.t 9) (.skip) (.exit 0))
        (F_slices_IndexFunc_api_Global_api_Global_p4)
def F_slices_IndexFunc_api_Global_api_Global_p6 : ACode :=
  .seq (.reg 0 [⟨some 9, .bin .lss .other 2 (.t 8) (.t 7), none⟩] false [0, 1, 7, 8, 9])
       (F_slices_IndexFunc_api_Global_api_Global_p5)
def F_slices_IndexFunc_api_Global_api_Global_p7 : ACode :=
  .seq (.seq (.reg 0 [⟨some 6, .mov (.t 0), none⟩, ⟨some 7, .len 20 (.t 6), none⟩, ⟨some 8, .mov (.c (.int .i64 0)), none⟩] false [0, 1, 7, 8])
    (.block 0 (.loop (F_slices_IndexFunc_api_Global_api_Global_p6))))
   (.seq (.reg 0 [⟨some 4, .asg (.c (.int .i64 (-1))), none⟩] false [4])
    (.ret))
def F_slices_IndexFunc_api_Global_api_Global_p8 : ACode :=
  .seq (.reg 0 [⟨some 4, .asg (.c (.int .i64 0)), none⟩] false [0, 1])
  (F_slices_IndexFunc_api_Global_api_Global_p7)
def F_slices_IndexFunc_api_Global_api_Global : AFun := { nt := 19, res := [.t 4], code := (F_slices_IndexFunc_api_Global_api_Global_p8) }

/-- (*mandrel/valid.checker).leave -/
def F_valid_checker_leave_p1 : ACode :=
  .reg 0 [⟨some 26, .mov (.t 2), none⟩, ⟨some 27, .nilchk (.t 26), none⟩, ⟨some 28, .faddr 54 1 1 (.t 27), none⟩, ⟨none, .store 12 1 (.t 28) (.c (.bool true)), none⟩] false []
def F_valid_checker_leave_p2 : ACode :=
  .seq (.reg 0 [⟨some 14, .mov (.t 0), none⟩, ⟨some 15, .mov (.t 0), none⟩, ⟨some 16, .nilchk (.t 15), none⟩, ⟨some 17, .faddr 46 3 11 (.t 16), none⟩, ⟨some 18, .load 50 false 1 (.t 17), none⟩, ⟨some 19, .mov (.t 2), none⟩, ⟨some 20, .nilchk (.t 19), none⟩, ⟨some 21, .faddr 54 0 0 (.t 20), none⟩, ⟨some 22, .load 2 false 1 (.t 21), none⟩, ⟨some 23, .slc 50 1 (.t 18) none (some (.t 22)), none⟩, ⟨some 24, .nilchk (.t 14), none⟩, ⟨some 25, .faddr 46 3 11 (.t 24), none⟩, ⟨none, .store 50 1 (.t 25) (.t 23), none⟩] true [2])
   (F_valid_checker_leave_p1)
def F_valid_checker_leave_p3 : ACode :=
  .seq (.reg 0 [⟨some 3, .mov (.t 0), none⟩, ⟨some 4, .nilchk (.t 3), none⟩, ⟨some 5, .faddr 46 4 12 (.t 4), none⟩, ⟨some 6, .load 55 false 1 (.t 5), none⟩, ⟨some 7, .mov (.t 0), none⟩, ⟨some 8, .nilchk (.t 7), none⟩, ⟨some 9, .faddr 46 4 12 (.t 8), none⟩, ⟨some 10, .load 55 false 1 (.t 9), none⟩, ⟨some 11, .len 55 (.t 10), none⟩, ⟨some 12, .bin .sub .other 2 (.t 11) (.c (.int .i64 1)), none⟩, ⟨some 13, .iaddr 55 3 (.t 6) (.t 12), none⟩, ⟨some 2, .asg (.t 13), none⟩] true [0, 2])
  (F_valid_checker_leave_p2)
def F_valid_checker_leave : AFun := { nt := 29, res := [], code := (F_valid_checker_leave_p3) }

/-- (*mandrel/valid.checker).inner -/
def F_valid_checker_inner_p1 : ACode :=
  .reg 0 [⟨some 103, .mov (.t 0), none⟩, ⟨some 104, .mov (.t 0), none⟩, ⟨some 105, .mov (.t 0), none⟩, ⟨some 106, .nilchk (.t 105), none⟩, ⟨some 107, .faddr 46 4 12 (.t 106), none⟩, ⟨some 108, .load 55 false 1 (.t 107), none⟩, ⟨some 109, .mov (.t 0), none⟩, ⟨some 110, .nilchk (.t 109), none⟩, ⟨some 111, .faddr 46 4 12 (.t 110), none⟩, ⟨some 112, .load 55 false 1 (.t 111), none⟩, ⟨some 113, .len 55 (.t 112), none⟩, ⟨some 114, .bin .sub .other 2 (.t 113) (.c (.int .i64 1)), none⟩, ⟨some 115, .slc 55 3 (.t 108) none (some (.t 114)), none⟩, ⟨some 116, .mov (.t 0), none⟩, ⟨some 117, .nilchk (.t 116), none⟩, ⟨some 118, .faddr 46 5 13 (.t 117), none⟩, ⟨some 119, .load 50 false 1 (.t 118), none⟩, ⟨some 120, .mov (.t 0), none⟩, ⟨some 121, .nilchk (.t 120), none⟩, ⟨some 122, .faddr 46 5 13 (.t 121), none⟩, ⟨some 123, .load 50 false 1 (.t 122), none⟩, ⟨some 124, .len 50 (.t 123), none⟩, ⟨some 125, .bin .sub .other 2 (.t 124) (.c (.int .i64 1)), none⟩, ⟨some 126, .slc 50 1 (.t 119) none (some (.t 125)), none⟩, ⟨some 127, .nilchk (.t 103), none⟩, ⟨some 128, .faddr 46 4 12 (.t 127), none⟩, ⟨none, .store 100055 1 (.t 128) (.t 115), none⟩, ⟨some 129, .nilchk (.t 104), none⟩, ⟨some 130, .faddr 46 5 13 (.t 129), none⟩, ⟨none, .store 50 1 (.t 130) (.t 126), none⟩] true []
def F_valid_checker_inner_p2 : ACode :=
  .seq (.reg 0 [⟨some 88, .mov (.t 0), none⟩, ⟨some 89, .mov (.t 0), none⟩, ⟨some 90, .nilchk (.t 89), none⟩, ⟨some 91, .faddr 46 3 11 (.t 90), none⟩, ⟨some 92, .load 50 false 1 (.t 91), none⟩, ⟨some 93, .mov (.t 9), none⟩, ⟨some 94, .mov (.t 0), none⟩, ⟨some 95, .nilchk (.t 94), none⟩, ⟨some 96, .faddr 46 3 11 (.t 95), none⟩, ⟨some 97, .load 50 false 1 (.t 96), none⟩, ⟨some 98, .len 50 (.t 97), none⟩, ⟨some 99, .mm false 2 2 (.t 93) (.t 98), none⟩, ⟨some 100, .slc 50 1 (.t 92) none (some (.t 99)), none⟩, ⟨some 101, .nilchk (.t 88), none⟩, ⟨some 102, .faddr 46 3 11 (.t 101), none⟩, ⟨none, .store 50 1 (.t 102) (.t 100), none⟩] true [0])
         (F_valid_checker_inner_p1)
def F_valid_checker_inner_p3 : ACode :=
  .seq (.reg 0 [⟨some 72, .mov (.t 0), none⟩, ⟨some 73, .mov (.t 0), none⟩, ⟨some 74, .nilchk (.t 73), none⟩, ⟨some 75, .faddr 46 7 15 (.t 74), none⟩, ⟨some 76, .load 12 false 1 (.t 75), none⟩, ⟨some 77, .mov (.t 76), none⟩, ⟨some 78, .mov (.t 0), some (5, 77, false)⟩, ⟨some 79, .nilchk (.t 78), some (5, 77, false)⟩, ⟨some 80, .faddr 46 3 11 (.t 79), some (5, 77, false)⟩, ⟨some 81, .load 50 false 1 (.t 80), some (5, 77, false)⟩, ⟨some 82, .len 50 (.t 81), some (5, 77, false)⟩, ⟨some 83, .mov (.t 9), some (5, 77, false)⟩, ⟨some 84, .bin .neq .other 2 (.t 82) (.t 83), some (5, 77, false)⟩, ⟨some 85, .pick (.t 77) (.c (.bool true)) (.t 84), none⟩, ⟨some 86, .nilchk (.t 72), none⟩, ⟨some 87, .faddr 46 7 15 (.t 86), none⟩, ⟨none, .store 12 1 (.t 87) (.t 85), none⟩] false [0, 9])
        (F_valid_checker_inner_p2)
def F_valid_checker_inner_p4 : ACode :=
  .seq (.reg 0 [⟨some 59, .mov (.t 0), none⟩, ⟨some 60, .nilchk (.t 59), none⟩, ⟨some 61, .faddr 46 4 12 (.t 60), none⟩, ⟨some 62, .load 55 false 1 (.t 61), none⟩, ⟨some 63, .mov (.t 0), none⟩, ⟨some 64, .nilchk (.t 63), none⟩, ⟨some 65, .faddr 46 4 12 (.t 64), none⟩, ⟨some 66, .load 55 false 1 (.t 65), none⟩, ⟨some 67, .len 55 (.t 66), none⟩, ⟨some 68, .bin .sub .other 2 (.t 67) (.c (.int .i64 1)), none⟩, ⟨some 69, .iaddr 55 3 (.t 62) (.t 68), none⟩, ⟨some 70, .faddr 54 0 0 (.t 69), none⟩, ⟨some 71, .load 2 false 1 (.t 70), none⟩, ⟨some 9, .asg (.t 71), none⟩] true [0, 9])
       (F_valid_checker_inner_p3)
def F_valid_checker_inner_p5 : ACode :=
  .seq (.reg 0 [⟨some 56, .mov (.t 0), none⟩, ⟨some 57, .mov (.t 2), none⟩, ⟨some 58, .calls 40 [.t 56, .t 57], none⟩] false [0])
      (F_valid_checker_inner_p4)
def F_valid_checker_inner_p6 : ACode :=
  .seq (.reg 0 [⟨some 53, .mov (.t 0), none⟩, ⟨some 54, .mov (.t 1), none⟩, ⟨some 55, .calls 39 [.t 53, .t 54], none⟩] false [0, 2])
     (F_valid_checker_inner_p5)
def F_valid_checker_inner_p7 : ACode :=
  .seq (.reg 2 [⟨some 43, .mov (.t 0), none⟩, ⟨some 44, .mov (.t 0), none⟩, ⟨some 45, .nilchk (.t 44), none⟩, ⟨some 46, .faddr 46 5 13 (.t 45), none⟩, ⟨some 47, .load 50 false 1 (.t 46), none⟩, ⟨some 48, .mov (.t 3), none⟩, ⟨some 49, .bslv 0 50 [.int .u8 0] 1 [(0, .t 48)], none⟩, ⟨some 50, .app 1 50 1 1 (.t 47) (.t 49), none⟩, ⟨some 51, .nilchk (.t 43), none⟩, ⟨some 52, .faddr 46 5 13 (.t 51), none⟩, ⟨none, .store 50 1 (.t 52) (.t 50), none⟩] false [0, 1, 2])
    (F_valid_checker_inner_p6)
def F_valid_checker_inner_p8 : ACode :=
  .seq (.reg 2 [⟨some 22, .mov (.t 0), none⟩, ⟨some 23, .mov (.t 0), none⟩, ⟨some 24, .nilchk (.t 23), none⟩, ⟨some 25, .faddr 46 4 12 (.t 24), none⟩, ⟨some 26, .load 55 false 1 (.t 25), none⟩, ⟨some 27, .mov (.t 0), none⟩, ⟨some 28, .nilchk (.t 27), none⟩, ⟨some 29, .faddr 46 3 11 (.t 28), none⟩, ⟨some 30, .load 50 false 1 (.t 29), none⟩, ⟨some 31, .len 50 (.t 30), none⟩, ⟨some 32, .faddr 54 1 1 (.t 8), none⟩, ⟨some 33, .load 12 false 1 (.t 32), none⟩, ⟨some 34, .mov (.t 33), none⟩, ⟨some 35, .faddr 54 2 2 (.t 8), some (12, 34, false)⟩, ⟨some 36, .load 12 false 1 (.t 35), some (12, 34, false)⟩, ⟨some 37, .pick (.t 34) (.c (.bool true)) (.t 36), none⟩, ⟨some 38, .build 54 [.int .i64 0, .bool false, .bool false] [(0, 0, 1, .t 31), (2, 2, 1, .t 37)], none⟩, ⟨some 39, .bslv 0 55 [.int .i64 0, .bool false, .bool false] 1 [(0, .t 38)], none⟩, ⟨some 40, .app 1 55 3 16 (.t 26) (.t 39), none⟩, ⟨some 41, .nilchk (.t 22), none⟩, ⟨some 42, .faddr 46 4 12 (.t 41), none⟩, ⟨none, .store 55 1 (.t 42) (.t 40), none⟩] true [0, 1, 2, 3])
   (F_valid_checker_inner_p7)
def F_valid_checker_inner_p9 : ACode :=
  .seq (.reg 1 [⟨some 10, .mov (.t 0), none⟩, ⟨some 11, .nilchk (.t 10), none⟩, ⟨some 12, .faddr 46 4 12 (.t 11), none⟩, ⟨some 13, .load 55 false 1 (.t 12), none⟩, ⟨some 14, .mov (.t 0), none⟩, ⟨some 15, .nilchk (.t 14), none⟩, ⟨some 16, .faddr 46 4 12 (.t 15), none⟩, ⟨some 17, .load 55 false 1 (.t 16), none⟩, ⟨some 18, .len 55 (.t 17), none⟩, ⟨some 19, .bin .sub .other 2 (.t 18) (.c (.int .i64 1)), none⟩, ⟨some 20, .iaddr 55 3 (.t 13) (.t 19), none⟩, ⟨some 21, .load 54 true 3 (.t 20), none⟩, ⟨some 8, .alloc 0 54 [.int .i64 0, .bool false, .bool false], none⟩, ⟨none, .store 54 3 (.t 8) (.t 21), none⟩] true [0, 1, 2, 3, 8])
  (F_valid_checker_inner_p8)
def F_valid_checker_inner : AFun := { nt := 131, res := [], code := (F_valid_checker_inner_p9) }

/-- (*mandrel/valid.checker).lay -/
def F_valid_checker_lay_p1 : ACode :=
  .cond (.t 36) (.reg 0 [⟨some 37, .mov (.t 0), none⟩, ⟨some 38, .mov (.t 0), none⟩, ⟨some 39, .nilchk (.t 38), none⟩, ⟨some 40, .faddr 46 6 14 (.t 39), none⟩, ⟨some 41, .load 2 false 1 (.t 40), none⟩, ⟨some 42, .mov (.t 0), none⟩, ⟨some 43, .nilchk (.t 42), none⟩, ⟨some 44, .faddr 46 3 11 (.t 43), none⟩, ⟨some 45, .load 50 false 1 (.t 44), none⟩, ⟨some 46, .len 50 (.t 45), none⟩, ⟨some 47, .mm true 2 2 (.t 41) (.t 46), none⟩, ⟨some 48, .nilchk (.t 37), none⟩, ⟨some 49, .faddr 46 6 14 (.t 48), none⟩, ⟨none, .store 2 1 (.t 49) (.t 47), none⟩] true []) (.skip)
def F_valid_checker_lay_p2 : ACode :=
  .seq (.reg 0 [⟨some 29, .faddr 54 1 1 (.t 4), none⟩, ⟨some 30, .load 12 false 1 (.t 29), none⟩, ⟨some 31, .un .not (.t 30), none⟩, ⟨some 32, .mov (.t 31), none⟩, ⟨some 33, .faddr 54 2 2 (.t 4), some (3, 32, true)⟩, ⟨some 34, .load 12 false 1 (.t 33), some (3, 32, true)⟩, ⟨some 35, .un .not (.t 34), some (3, 32, true)⟩, ⟨some 36, .pick (.t 32) (.t 35) (.c (.bool false)), none⟩] false [0, 36])
     (F_valid_checker_lay_p1)
def F_valid_checker_lay_p3 : ACode :=
  .seq (.reg 1 [⟨some 17, .mov (.t 0), none⟩, ⟨some 18, .nilchk (.t 17), none⟩, ⟨some 19, .faddr 46 4 12 (.t 18), none⟩, ⟨some 20, .load 55 false 1 (.t 19), none⟩, ⟨some 21, .mov (.t 0), none⟩, ⟨some 22, .nilchk (.t 21), none⟩, ⟨some 23, .faddr 46 4 12 (.t 22), none⟩, ⟨some 24, .load 55 false 1 (.t 23), none⟩, ⟨some 25, .len 55 (.t 24), none⟩, ⟨some 26, .bin .sub .other 2 (.t 25) (.c (.int .i64 1)), none⟩, ⟨some 27, .iaddr 55 3 (.t 20) (.t 26), none⟩, ⟨some 28, .load 54 true 3 (.t 27), none⟩, ⟨some 4, .alloc 0 54 [.int .i64 0, .bool false, .bool false], none⟩, ⟨none, .store 54 3 (.t 4) (.t 28), none⟩] true [0, 4])
    (F_valid_checker_lay_p2)
def F_valid_checker_lay_p4 : ACode :=
  .seq (.reg 2 [⟨some 7, .mov (.t 0), none⟩, ⟨some 8, .mov (.t 0), none⟩, ⟨some 9, .nilchk (.t 8), none⟩, ⟨some 10, .faddr 46 3 11 (.t 9), none⟩, ⟨some 11, .load 50 false 1 (.t 10), none⟩, ⟨some 12, .mov (.t 1), none⟩, ⟨some 13, .bslv 0 50 [.int .u8 0] 1 [(0, .t 12)], none⟩, ⟨some 14, .app 1 50 1 1 (.t 11) (.t 13), none⟩, ⟨some 15, .nilchk (.t 7), none⟩, ⟨some 16, .faddr 46 3 11 (.t 15), none⟩, ⟨none, .store 50 1 (.t 16) (.t 14), none⟩] false [0])
   (F_valid_checker_lay_p3)
def F_valid_checker_lay_p5 : ACode :=
  .seq (.seq (.reg 0 [⟨some 5, .mov (.t 1), none⟩, ⟨some 6, .bin .eql .other 51 (.t 5) (.c (.int .u8 0)), none⟩] false [0, 1, 6])
   (.cond (.t 6) (.ret) (.skip)))
  (F_valid_checker_lay_p4)
def F_valid_checker_lay : AFun := { nt := 50, res := [], code := (F_valid_checker_lay_p5) }

/-- (*mandrel/valid.checker).label -/
def F_valid_checker_label_p1 : ACode :=
  .cond (.t 15) (.seq (.reg 0 [⟨some 16, .mov (.t 0), none⟩, ⟨some 17, .nilchk (.t 16), none⟩, ⟨some 18, .faddr 46 7 15 (.t 17), none⟩, ⟨none, .store 12 1 (.t 18) (.c (.bool true)), none⟩] false [])
      (.seq (.reg 0 [⟨some 4, .asg (.c (.int .u8 0)), none⟩] false [4])
       (.ret))) (.skip)
def F_valid_checker_label_p2 : ACode :=
  .seq (.reg 0 [⟨some 19, .mov (.t 0), none⟩, ⟨some 20, .nilchk (.t 19), none⟩, ⟨some 21, .faddr 46 5 13 (.t 20), none⟩, ⟨some 22, .load 50 false 1 (.t 21), none⟩, ⟨some 23, .mov (.t 0), none⟩, ⟨some 24, .nilchk (.t 23), none⟩, ⟨some 25, .faddr 46 5 13 (.t 24), none⟩, ⟨some 26, .load 50 false 1 (.t 25), none⟩, ⟨some 27, .len 50 (.t 26), none⟩, ⟨some 28, .bin .sub .other 27 (.t 27) (.c (.int .i64 1)), none⟩, ⟨some 29, .mov (.t 1), none⟩, ⟨some 30, .bin .sub .other 27 (.t 28) (.t 29), none⟩, ⟨some 31, .iaddr 50 1 (.t 22) (.t 30), none⟩, ⟨some 32, .load 51 false 1 (.t 31), none⟩, ⟨some 4, .asg (.t 32), none⟩] true [4])
    (.ret)
def F_valid_checker_label_p3 : ACode :=
  .seq (.seq (.reg 0 [⟨some 5, .mov (.t 1), none⟩, ⟨some 6, .bin .lss .other 27 (.t 5) (.c (.int .i64 0)), none⟩, ⟨some 7, .mov (.t 6), none⟩, ⟨some 8, .mov (.t 1), some (2, 7, false)⟩, ⟨some 9, .mov (.t 0), some (2, 7, false)⟩, ⟨some 10, .nilchk (.t 9), some (2, 7, false)⟩, ⟨some 11, .faddr 46 5 13 (.t 10), some (2, 7, false)⟩, ⟨some 12, .load 50 false 1 (.t 11), some (2, 7, false)⟩, ⟨some 13, .len 50 (.t 12), some (2, 7, false)⟩, ⟨some 14, .bin .geq .other 27 (.t 8) (.t 13), some (2, 7, false)⟩, ⟨some 15, .pick (.t 7) (.c (.bool true)) (.t 14), none⟩] false [0, 1, 15])
    (F_valid_checker_label_p1))
   (F_valid_checker_label_p2)
def F_valid_checker_label_p4 : ACode :=
  .seq (.reg 0 [⟨some 4, .asg (.c (.int .u8 0)), none⟩] false [0, 1])
  (F_valid_checker_label_p3)
def F_valid_checker_label : AFun := { nt := 33, res := [.t 4], code := (F_valid_checker_label_p4) }

/-- (*mandrel/valid.checker).table -/
def F_valid_checker_table_p1 : ACode :=
  .cond (.t 18) (.seq (.reg 0 [⟨some 19, .mov (.t 0), none⟩, ⟨some 20, .nilchk (.t 19), none⟩, ⟨some 21, .faddr 46 7 15 (.t 20), none⟩, ⟨none, .store 12 1 (.t 21) (.c (.bool true)), none⟩] false [])
       (.ret)) (.skip)
def F_valid_checker_table_p2 : ACode :=
  .cond (.t 45) (.reg 0 [⟨some 46, .mov (.t 0), none⟩, ⟨some 47, .nilchk (.t 46), none⟩, ⟨some 48, .faddr 46 7 15 (.t 47), none⟩, ⟨none, .store 12 1 (.t 48) (.c (.bool true)), none⟩] false [0, 4, 34, 35, 36]) (.skip)
def F_valid_checker_table_p3 : ACode :=
  .seq (.reg 0 [⟨some 40, .mov (.t 0), none⟩, ⟨some 41, .mov (.t 6), none⟩, ⟨some 42, .convi .i64 13 27 (.t 41), none⟩, ⟨some 43, .calls 72 [.t 40, .t 42], none⟩, ⟨some 44, .mov (.t 4), none⟩, ⟨some 45, .bin .neq .other 51 (.t 43) (.t 44), none⟩] false [0, 4, 34, 35, 36, 45])
               (F_valid_checker_table_p2)
def F_valid_checker_table_p4 : ACode :=
  .reg 0 [⟨some 49, .bin .add .other 2 (.t 36) (.c (.int .i64 1)), none⟩, ⟨some 36, .mov (.t 49), none⟩] false [0, 4, 34, 35, 36]
def F_valid_checker_table_p5 : ACode :=
  .seq (.block 1 (.seq (.reg 0 [⟨some 38, .iaddr 23 1 (.t 34) (.t 36), none⟩, ⟨some 39, .load 13 false 1 (.t 38), none⟩, ⟨some 6, .asg (.t 39), none⟩] false [0, 4, 6, 34, 35, 36])
              (F_valid_checker_table_p3)))
            (F_valid_checker_table_p4)
def F_valid_checker_table_p6 : ACode :=
  .seq (.reg 0 [⟨some 37, .bin .lss .other 2 (.t 36) (.t 35), none⟩] false [0, 4, 34, 35, 36, 37])
          (.seq (.cond (.t 37) (.skip) (.exit 0))
           (F_valid_checker_table_p5))
def F_valid_checker_table_p7 : ACode :=
  .reg 0 [⟨some 53, .mov (.t 0), none⟩, ⟨some 54, .calls 69 [.t 53], none⟩] false []
def F_valid_checker_table_p8 : ACode :=
  .seq (.reg 0 [⟨some 50, .mov (.t 0), none⟩, ⟨some 51, .mov (.t 4), none⟩, ⟨some 52, .calls 40 [.t 50, .t 51], none⟩] false [0])
       (F_valid_checker_table_p7)
def F_valid_checker_table_p9 : ACode :=
  .seq (.seq (.reg 0 [⟨some 33, .faddr 3 7 7 (.t 3), none⟩, ⟨some 34, .load 23 false 1 (.t 33), none⟩, ⟨some 35, .len 23 (.t 34), none⟩, ⟨some 36, .mov (.c (.int .i64 0)), none⟩] false [0, 4, 34, 35, 36])
       (.block 0 (.loop (F_valid_checker_table_p6))))
      (F_valid_checker_table_p8)
def F_valid_checker_table_p10 : ACode :=
  .seq (.reg 0 [⟨some 22, .mov (.t 0), none⟩, ⟨some 23, .faddr 3 7 7 (.t 3), none⟩, ⟨some 24, .load 23 false 1 (.t 23), none⟩, ⟨some 25, .faddr 3 7 7 (.t 3), none⟩, ⟨some 26, .load 23 false 1 (.t 25), none⟩, ⟨some 27, .len 23 (.t 26), none⟩, ⟨some 28, .bin .sub .other 2 (.t 27) (.c (.int .i64 1)), none⟩, ⟨some 29, .iaddr 23 1 (.t 24) (.t 28), none⟩, ⟨some 30, .load 13 false 1 (.t 29), none⟩, ⟨some 31, .convi .i64 13 27 (.t 30), none⟩, ⟨some 32, .calls 72 [.t 22, .t 31], none⟩, ⟨some 4, .asg (.t 32), none⟩] false [0, 3, 4])
     (F_valid_checker_table_p9)
def F_valid_checker_table_p11 : ACode :=
  .seq (.seq (.reg 0 [⟨some 9, .faddr 3 7 7 (.t 3), none⟩, ⟨some 10, .load 23 false 1 (.t 9), none⟩, ⟨some 11, .len 23 (.t 10), none⟩, ⟨some 12, .bin .eql .other 2 (.t 11) (.c (.int .i64 0)), none⟩, ⟨some 13, .mov (.t 12), none⟩, ⟨some 14, .faddr 3 7 7 (.t 3), some (4, 13, false)⟩, ⟨some 15, .load 23 false 1 (.t 14), some (4, 13, false)⟩, ⟨some 16, .len 23 (.t 15), some (4, 13, false)⟩, ⟨some 17, .bin .gtr .other 2 (.t 16) (.c (.int .i64 257)), some (4, 13, false)⟩, ⟨some 18, .pick (.t 13) (.c (.bool true)) (.t 17), none⟩] false [0, 3, 18])
     (F_valid_checker_table_p1))
    (F_valid_checker_table_p10)
def F_valid_checker_table_p12 : ACode :=
  .seq (.reg 0 [⟨some 7, .mov (.t 0), none⟩, ⟨some 8, .calls 40 [.t 7, .c (.int .u8 127)], none⟩] false [0, 3])
   (F_valid_checker_table_p11)
def F_valid_checker_table_p13 : ACode :=
  .seq (.reg 1 [⟨some 3, .box 0 3 (.t 1), none⟩] false [0, 3])
  (F_valid_checker_table_p12)
def F_valid_checker_table : AFun := { nt := 55, res := [], code := (F_valid_checker_table_p13) }

/-- (*mandrel/valid.checker).call -/
def F_valid_checker_call_p1 : ACode :=
  .reg 0 [⟨some 8, .mov (.t 0), none⟩, ⟨some 9, .faddr 43 1 1 (.t 3), none⟩, ⟨some 10, .load 51 false 1 (.t 9), none⟩, ⟨some 11, .calls 71 [.t 8, .t 10], none⟩] false []
def F_valid_checker_call_p2 : ACode :=
  .seq (.reg 0 [⟨some 4, .mov (.t 0), none⟩, ⟨some 5, .faddr 43 0 0 (.t 3), none⟩, ⟨some 6, .load 50 false 1 (.t 5), none⟩, ⟨some 7, .calls 84 [.t 4, .t 6], none⟩] false [0, 3])
   (F_valid_checker_call_p1)
def F_valid_checker_call_p3 : ACode :=
  .seq (.reg 1 [⟨some 3, .box 0 43 (.t 1), none⟩] false [0, 3])
  (F_valid_checker_call_p2)
def F_valid_checker_call : AFun := { nt := 12, res := [], code := (F_valid_checker_call_p3) }

/-- (*mandrel/valid.checker).function -/
def F_valid_checker_function_p1 : ACode :=
  .seq (.reg 0 [⟨some 20, .build 43 [.nils, .int .u8 0] [], none⟩, ⟨none, .store 43 2 (.t 4) (.t 20), none⟩] false [4])
       (.ret)
def F_valid_checker_function_p2 : ACode :=
  .cond (.t 16) (.seq (.reg 0 [⟨some 17, .mov (.t 0), none⟩, ⟨some 18, .nilchk (.t 17), none⟩, ⟨some 19, .faddr 46 7 15 (.t 18), none⟩, ⟨none, .store 12 1 (.t 19) (.c (.bool true)), none⟩] false [4])
      (F_valid_checker_function_p1)) (.skip)
def F_valid_checker_function_p3 : ACode :=
  .seq (.reg 0 [⟨some 21, .mov (.t 0), none⟩, ⟨some 22, .mov (.t 0), none⟩, ⟨some 23, .nilchk (.t 22), none⟩, ⟨some 24, .faddr 46 0 0 (.t 23), none⟩, ⟨some 25, .faddr 1 1 1 (.t 24), none⟩, ⟨some 26, .load 5 false 1 (.t 25), none⟩, ⟨some 27, .mov (.t 1), none⟩, ⟨some 28, .iaddr 5 3 (.t 26) (.t 27), none⟩, ⟨some 29, .faddr 6 0 0 (.t 28), none⟩, ⟨some 30, .load 13 false 1 (.t 29), none⟩, ⟨some 31, .convi .i64 13 27 (.t 30), none⟩, ⟨some 32, .calls 76 [.t 21, .t 31], none⟩, ⟨none, .store 43 2 (.t 4) (.t 32), none⟩] false [4])
    (.ret)
def F_valid_checker_function_p4 : ACode :=
  .seq (.seq (.reg 0 [⟨some 5, .mov (.t 1), none⟩, ⟨some 6, .bin .lss .other 27 (.t 5) (.c (.int .i64 0)), none⟩, ⟨some 7, .mov (.t 6), none⟩, ⟨some 8, .mov (.t 1), some (2, 7, false)⟩, ⟨some 9, .mov (.t 0), some (2, 7, false)⟩, ⟨some 10, .nilchk (.t 9), some (2, 7, false)⟩, ⟨some 11, .faddr 46 0 0 (.t 10), some (2, 7, false)⟩, ⟨some 12, .faddr 1 1 1 (.t 11), some (2, 7, false)⟩, ⟨some 13, .load 5 false 1 (.t 12), some (2, 7, false)⟩, ⟨some 14, .len 5 (.t 13), some (2, 7, false)⟩, ⟨some 15, .bin .geq .other 27 (.t 8) (.t 14), some (2, 7, false)⟩, ⟨some 16, .pick (.t 7) (.c (.bool true)) (.t 15), none⟩] false [0, 1, 4, 16])
    (F_valid_checker_function_p2))
   (F_valid_checker_function_p3)
def F_valid_checker_function_p5 : ACode :=
  .seq (.reg 1 [⟨some 4, .alloc 0 43 [.nils, .int .u8 0], none⟩] false [0, 1, 4])
  (F_valid_checker_function_p4)
def F_valid_checker_function : AFun := { nt := 33, res := [.cell 4 43 true 2], code := (F_valid_checker_function_p5) }

/-- (*mandrel/valid.checker).typ -/
def F_valid_checker_typ_p1 : ACode :=
  .seq (.reg 0 [⟨some 20, .build 43 [.nils, .int .u8 0] [], none⟩, ⟨none, .store 43 2 (.t 4) (.t 20), none⟩] false [4])
       (.ret)
def F_valid_checker_typ_p2 : ACode :=
  .cond (.t 16) (.seq (.reg 0 [⟨some 17, .mov (.t 0), none⟩, ⟨some 18, .nilchk (.t 17), none⟩, ⟨some 19, .faddr 46 7 15 (.t 18), none⟩, ⟨none, .store 12 1 (.t 19) (.c (.bool true)), none⟩] false [4])
      (F_valid_checker_typ_p1)) (.skip)
def F_valid_checker_typ_p3 : ACode :=
  .seq (.reg 0 [⟨some 21, .mov (.t 0), none⟩, ⟨some 22, .nilchk (.t 21), none⟩, ⟨some 23, .faddr 46 0 0 (.t 22), none⟩, ⟨some 24, .faddr 1 0 0 (.t 23), none⟩, ⟨some 25, .load 17 false 1 (.t 24), none⟩, ⟨some 26, .mov (.t 1), none⟩, ⟨some 27, .iaddr 17 2 (.t 25) (.t 26), none⟩, ⟨some 28, .load 43 true 2 (.t 27), none⟩, ⟨none, .store 43 2 (.t 4) (.t 28), none⟩] false [4])
    (.ret)
def F_valid_checker_typ_p4 : ACode :=
  .seq (.seq (.reg 0 [⟨some 5, .mov (.t 1), none⟩, ⟨some 6, .bin .lss .other 27 (.t 5) (.c (.int .i64 0)), none⟩, ⟨some 7, .mov (.t 6), none⟩, ⟨some 8, .mov (.t 1), some (2, 7, false)⟩, ⟨some 9, .mov (.t 0), some (2, 7, false)⟩, ⟨some 10, .nilchk (.t 9), some (2, 7, false)⟩, ⟨some 11, .faddr 46 0 0 (.t 10), some (2, 7, false)⟩, ⟨some 12, .faddr 1 0 0 (.t 11), some (2, 7, false)⟩, ⟨some 13, .load 17 false 1 (.t 12), some (2, 7, false)⟩, ⟨some 14, .len 17 (.t 13), some (2, 7, false)⟩, ⟨some 15, .bin .geq .other 27 (.t 8) (.t 14), some (2, 7, false)⟩, ⟨some 16, .pick (.t 7) (.c (.bool true)) (.t 15), none⟩] false [0, 1, 4, 16])
    (F_valid_checker_typ_p2))
   (F_valid_checker_typ_p3)
def F_valid_checker_typ_p5 : ACode :=
  .seq (.reg 1 [⟨some 4, .alloc 0 43 [.nils, .int .u8 0], none⟩] false [0, 1, 4])
  (F_valid_checker_typ_p4)
def F_valid_checker_typ : AFun := { nt := 29, res := [.cell 4 43 true 2], code := (F_valid_checker_typ_p5) }

/-- (*mandrel/valid.checker).local -/
def F_valid_checker_local_p1 : ACode :=
  .cond (.t 15) (.seq (.reg 0 [⟨some 16, .mov (.t 0), none⟩, ⟨some 17, .nilchk (.t 16), none⟩, ⟨some 18, .faddr 46 7 15 (.t 17), none⟩, ⟨none, .store 12 1 (.t 18) (.c (.bool true)), none⟩] false [])
      (.seq (.reg 0 [⟨some 4, .asg (.c (.int .u8 1)), none⟩] false [4])
       (.ret))) (.skip)
def F_valid_checker_local_p2 : ACode :=
  .seq (.reg 0 [⟨some 19, .mov (.t 0), none⟩, ⟨some 20, .nilchk (.t 19), none⟩, ⟨some 21, .faddr 46 2 10 (.t 20), none⟩, ⟨some 22, .load 50 false 1 (.t 21), none⟩, ⟨some 23, .mov (.t 1), none⟩, ⟨some 24, .iaddr 50 1 (.t 22) (.t 23), none⟩, ⟨some 25, .load 51 false 1 (.t 24), none⟩, ⟨some 4, .asg (.t 25), none⟩] false [4])
    (.ret)
def F_valid_checker_local_p3 : ACode :=
  .seq (.seq (.reg 0 [⟨some 5, .mov (.t 1), none⟩, ⟨some 6, .bin .lss .other 27 (.t 5) (.c (.int .i64 0)), none⟩, ⟨some 7, .mov (.t 6), none⟩, ⟨some 8, .mov (.t 1), some (2, 7, false)⟩, ⟨some 9, .mov (.t 0), some (2, 7, false)⟩, ⟨some 10, .nilchk (.t 9), some (2, 7, false)⟩, ⟨some 11, .faddr 46 2 10 (.t 10), some (2, 7, false)⟩, ⟨some 12, .load 50 false 1 (.t 11), some (2, 7, false)⟩, ⟨some 13, .len 50 (.t 12), some (2, 7, false)⟩, ⟨some 14, .bin .geq .other 27 (.t 8) (.t 13), some (2, 7, false)⟩, ⟨some 15, .pick (.t 7) (.c (.bool true)) (.t 14), none⟩] false [0, 1, 15])
    (F_valid_checker_local_p1))
   (F_valid_checker_local_p2)
def F_valid_checker_local_p4 : ACode :=
  .seq (.reg 0 [⟨some 4, .asg (.c (.int .u8 0)), none⟩] false [0, 1])
  (F_valid_checker_local_p3)
def F_valid_checker_local : AFun := { nt := 26, res := [.t 4], code := (F_valid_checker_local_p4) }

/-- (*mandrel/valid.checker).global -/
def F_valid_checker_global_p1 : ACode :=
  .seq (.reg 0 [⟨some 20, .build 21 [.int .u8 0, .bool false, .int .u8 0, .int .i64 0, .int .u32 0, .int .u32 0, .int .u8 0, .nils, .nils, .nils] [(0, 0, 1, .c (.int .u8 1)), (1, 1, 1, .c (.bool true))], none⟩, ⟨none, .store 21 10 (.t 4) (.t 20), none⟩] false [4])
       (.ret)
def F_valid_checker_global_p2 : ACode :=
  .cond (.t 16) (.seq (.reg 0 [⟨some 17, .mov (.t 0), none⟩, ⟨some 18, .nilchk (.t 17), none⟩, ⟨some 19, .faddr 46 7 15 (.t 18), none⟩, ⟨none, .store 12 1 (.t 19) (.c (.bool true)), none⟩] false [4])
      (F_valid_checker_global_p1)) (.skip)
def F_valid_checker_global_p3 : ACode :=
  .seq (.reg 0 [⟨some 21, .mov (.t 0), none⟩, ⟨some 22, .nilchk (.t 21), none⟩, ⟨some 23, .faddr 46 0 0 (.t 22), none⟩, ⟨some 24, .faddr 1 4 4 (.t 23), none⟩, ⟨some 25, .load 20 false 1 (.t 24), none⟩, ⟨some 26, .mov (.t 1), none⟩, ⟨some 27, .iaddr 20 10 (.t 25) (.t 26), none⟩, ⟨some 28, .load 21 true 10 (.t 27), none⟩, ⟨none, .store 21 10 (.t 4) (.t 28), none⟩] false [4])
    (.ret)
def F_valid_checker_global_p4 : ACode :=
  .seq (.seq (.reg 0 [⟨some 5, .mov (.t 1), none⟩, ⟨some 6, .bin .lss .other 27 (.t 5) (.c (.int .i64 0)), none⟩, ⟨some 7, .mov (.t 6), none⟩, ⟨some 8, .mov (.t 1), some (2, 7, false)⟩, ⟨some 9, .mov (.t 0), some (2, 7, false)⟩, ⟨some 10, .nilchk (.t 9), some (2, 7, false)⟩, ⟨some 11, .faddr 46 0 0 (.t 10), some (2, 7, false)⟩, ⟨some 12, .faddr 1 4 4 (.t 11), some (2, 7, false)⟩, ⟨some 13, .load 20 false 1 (.t 12), some (2, 7, false)⟩, ⟨some 14, .len 20 (.t 13), some (2, 7, false)⟩, ⟨some 15, .bin .geq .other 27 (.t 8) (.t 14), some (2, 7, false)⟩, ⟨some 16, .pick (.t 7) (.c (.bool true)) (.t 15), none⟩] false [0, 1, 4, 16])
    (F_valid_checker_global_p2))
   (F_valid_checker_global_p3)
def F_valid_checker_global_p5 : ACode :=
  .seq (.reg 1 [⟨some 4, .alloc 0 21 [.int .u8 0, .bool false, .int .u8 0, .int .i64 0, .int .u32 0, .int .u32 0, .int .u8 0, .nils, .nils, .nils], none⟩] false [0, 1, 4])
  (F_valid_checker_global_p4)
def F_valid_checker_global : AFun := { nt := 29, res := [.cell 4 21 true 10], code := (F_valid_checker_global_p5) }

/-- (*mandrel/valid.checker).plain -/
def F_valid_checker_plain_p1 : ACode :=
  .cond (.t 18) (.seq (.reg 0 [⟨some 19, .mov (.t 0), none⟩, ⟨some 20, .nilchk (.t 19), none⟩, ⟨some 21, .faddr 46 7 15 (.t 20), none⟩, ⟨none, .store 12 1 (.t 21) (.c (.bool true)), none⟩] false [])
       (.ret)) (.skip)
def F_valid_checker_plain_p2 : ACode :=
  .cond (.t 30) (.reg 0 [⟨some 31, .mov (.t 0), none⟩, ⟨some 32, .mov (.t 0), none⟩, ⟨some 33, .nilchk (.t 32), none⟩, ⟨some 34, .faddr 46 7 15 (.t 33), none⟩, ⟨some 35, .load 12 false 1 (.t 34), none⟩, ⟨some 36, .mov (.t 35), none⟩, ⟨some 37, .faddr 3 2 2 (.t 3), some (5, 36, false)⟩, ⟨some 38, .load 13 false 1 (.t 37), some (5, 36, false)⟩, ⟨some 39, .bin .gtr .other 13 (.t 38) (.c (.int .u32 3)), some (5, 36, false)⟩, ⟨some 40, .pick (.t 36) (.c (.bool true)) (.t 39), none⟩, ⟨some 41, .mov (.t 40), none⟩, ⟨some 42, .faddr 3 2 2 (.t 3), some (10, 41, false)⟩, ⟨some 43, .load 13 false 1 (.t 42), some (10, 41, false)⟩, ⟨some 44, .bin .shl .other 2 (.c (.int .i64 1)) (.t 43), some (10, 41, false)⟩, ⟨some 45, .mov (.t 6), some (10, 41, false)⟩, ⟨some 46, .bin .gtr .other 2 (.t 44) (.t 45), some (10, 41, false)⟩, ⟨some 47, .pick (.t 41) (.c (.bool true)) (.t 46), none⟩, ⟨some 48, .nilchk (.t 31), none⟩, ⟨some 49, .faddr 46 7 15 (.t 48), none⟩, ⟨none, .store 12 1 (.t 49) (.t 47), none⟩] false [0, 3, 4]) (.skip)
def F_valid_checker_plain_p3 : ACode :=
  .seq (.reg 0 [⟨some 29, .mov (.t 8), none⟩, ⟨some 30, .bin .eql .iface 8 (.t 29) (.c .nili), none⟩] false [0, 3, 4, 6, 30])
       (F_valid_checker_plain_p2)
def F_valid_checker_plain_p4 : ACode :=
  .cond (.t 88) (.reg 0 [⟨some 89, .mov (.t 0), none⟩, ⟨some 90, .nilchk (.t 89), none⟩, ⟨some 91, .faddr 46 7 15 (.t 90), none⟩, ⟨none, .store 12 1 (.t 91) (.c (.bool true)), none⟩] false [0, 4]) (.skip)
def F_valid_checker_plain_p5 : ACode :=
  .reg 0 [⟨some 92, .mov (.t 0), none⟩, ⟨some 93, .load 43 true 2 (.t 4), none⟩, ⟨some 94, .calls 75 [.t 92, .t 93], none⟩] false []
def F_valid_checker_plain_p6 : ACode :=
  .seq (.seq (.reg 0 [⟨some 62, .mov (.t 5), none⟩, ⟨some 63, .bin .neq .iface 8 (.t 62) (.c .nili), none⟩, ⟨some 64, .mov (.t 63), none⟩, ⟨some 65, .mov (.t 10), some (2, 64, false)⟩, ⟨some 66, .mov (.t 65), some (2, 64, false)⟩, ⟨some 67, .mov (.t 0), some (4, 66, true)⟩, ⟨some 68, .nilchk (.t 67), some (4, 66, true)⟩, ⟨some 69, .faddr 46 0 0 (.t 68), some (4, 66, true)⟩, ⟨some 70, .faddr 1 3 3 (.t 69), some (4, 66, true)⟩, ⟨some 71, .load 18 false 1 (.t 70), some (4, 66, true)⟩, ⟨some 72, .len 18 (.t 71), some (4, 66, true)⟩, ⟨some 73, .bin .eql .other 2 (.t 72) (.c (.int .i64 0)), some (4, 66, true)⟩, ⟨some 74, .pick (.t 66) (.t 73) (.c (.bool false)), some (2, 64, false)⟩, ⟨some 75, .pick (.t 64) (.c (.bool true)) (.t 74), none⟩, ⟨some 76, .mov (.t 75), none⟩, ⟨some 77, .mov (.t 9), some (14, 76, false)⟩, ⟨some 78, .bin .eql .other 2 (.t 77) (.c (.int .i64 1)), some (14, 76, false)⟩, ⟨some 79, .mov (.t 78), some (14, 76, false)⟩, ⟨some 80, .faddr 3 1 1 (.t 3), some (17, 79, true)⟩, ⟨some 81, .load 27 false 1 (.t 80), some (17, 79, true)⟩, ⟨some 82, .faddr 3 1 1 (.t 3), some (17, 79, true)⟩, ⟨some 83, .load 27 false 1 (.t 82), some (17, 79, true)⟩, ⟨some 84, .convi .i32 27 58 (.t 83), some (17, 79, true)⟩, ⟨some 85, .convi .i64 58 27 (.t 84), some (17, 79, true)⟩, ⟨some 86, .bin .neq .other 27 (.t 81) (.t 85), some (17, 79, true)⟩, ⟨some 87, .pick (.t 79) (.t 86) (.c (.bool false)), some (14, 76, false)⟩, ⟨some 88, .pick (.t 76) (.c (.bool true)) (.t 87), none⟩] false [0, 4, 88])
         (F_valid_checker_plain_p4))
        (F_valid_checker_plain_p5)
def F_valid_checker_plain_p7 : ACode :=
  .seq (.reg 0 [⟨some 56, .mov (.t 9), none⟩, ⟨some 57, .bin .eql .other 2 (.t 56) (.c (.int .i64 4)), none⟩, ⟨some 58, .mov (.t 57), none⟩, ⟨some 59, .mov (.t 9), some (2, 58, false)⟩, ⟨some 60, .bin .eql .other 2 (.t 59) (.c (.int .i64 5)), some (2, 58, false)⟩, ⟨some 61, .pick (.t 58) (.c (.bool true)) (.t 60), none⟩, ⟨some 10, .asg (.t 61), none⟩] false [0, 3, 4, 5, 9, 10])
       (F_valid_checker_plain_p6)
def F_valid_checker_plain_p8 : ACode :=
  .seq (.reg 0 [⟨some 51, .faddr 3 0 0 (.t 3), none⟩, ⟨some 52, .load 7 false 1 (.t 51), none⟩, ⟨some 53, .callp 87 [.t 52], none⟩, ⟨some 50, .mov (.t 53), none⟩, ⟨some 54, .ext (.t 50) 0, none⟩, ⟨some 55, .ext (.t 50) 1, none⟩, ⟨some 9, .asg (.t 54), none⟩, ⟨some 5, .asg (.t 55), none⟩] false [0, 3, 4, 5, 9])
      (F_valid_checker_plain_p7)
def F_valid_checker_plain_p9 : ACode :=
  .seq (.seq (.reg 0 [⟨some 23, .faddr 3 0 0 (.t 3), none⟩, ⟨some 24, .load 7 false 1 (.t 23), none⟩, ⟨some 25, .callp 86 [.t 24], none⟩, ⟨some 22, .mov (.t 25), none⟩, ⟨some 26, .ext (.t 22) 0, none⟩, ⟨some 27, .ext (.t 22) 1, none⟩, ⟨some 28, .ext (.t 22) 2, none⟩, ⟨some 6, .asg (.t 26), none⟩, ⟨some 7, .asg (.t 27), none⟩, ⟨some 8, .asg (.t 28), none⟩] false [0, 3, 4, 6, 8])
      (F_valid_checker_plain_p3))
     (F_valid_checker_plain_p8)
def F_valid_checker_plain_p10 : ACode :=
  .seq (.seq (.reg 0 [⟨some 17, .mov (.t 5), none⟩, ⟨some 18, .bin .neq .iface 8 (.t 17) (.c .nili), none⟩] false [0, 3, 4, 18])
     (F_valid_checker_plain_p1))
    (F_valid_checker_plain_p9)
def F_valid_checker_plain_p11 : ACode :=
  .seq (.reg 1 [⟨some 12, .faddr 3 0 0 (.t 3), none⟩, ⟨some 13, .load 7 false 1 (.t 12), none⟩, ⟨some 14, .callp 85 [.t 13], none⟩, ⟨some 11, .mov (.t 14), none⟩, ⟨some 15, .ext (.t 11) 0, none⟩, ⟨some 16, .ext (.t 11) 1, none⟩, ⟨some 4, .alloc 0 43 [.nils, .int .u8 0], none⟩, ⟨none, .store 43 2 (.t 4) (.t 15), none⟩, ⟨some 5, .asg (.t 16), none⟩] false [0, 3, 4, 5])
   (F_valid_checker_plain_p10)
def F_valid_checker_plain_p12 : ACode :=
  .seq (.reg 1 [⟨some 3, .box 0 3 (.t 1), none⟩] false [0, 3])
  (F_valid_checker_plain_p11)
def F_valid_checker_plain : AFun := { nt := 95, res := [], code := (F_valid_checker_plain_p12) }

/-- mandrel/mandrelref04.Name -/
def F_ref04_Name_p1 : ACode :=
  .cond (.t 91) (.seq (.reg 0 [⟨some 2, .asg (.c (.str ⟨#[105, 54, 52, 46, 101, 120, 116, 101, 110, 100, 95, 105, 51, 50, 95, 117]⟩)), none⟩] false [2])
                                   (.ret)) (.skip)
def F_ref04_Name_p2 : ACode :=
  .cond (.t 88) (.seq (.reg 0 [⟨some 2, .asg (.c (.str ⟨#[105, 54, 52, 46, 101, 120, 116, 101, 110, 100, 95, 105, 51, 50, 95, 115]⟩)), none⟩] false [2])
                                 (.ret)) (.seq (.reg 0 [⟨some 92, .mov (.t 8), none⟩, ⟨some 93, .bin .eql .other 2 (.t 92) (.c (.int .i64 173)), none⟩, ⟨some 91, .asg (.t 93), none⟩] false [0, 91])
                                 (F_ref04_Name_p1))
def F_ref04_Name_p3 : ACode :=
  .cond (.t 85) (.seq (.reg 0 [⟨some 2, .asg (.c (.str ⟨#[105, 51, 50, 46, 119, 114, 97, 112, 95, 105, 54, 52]⟩)), none⟩] false [2])
                               (.ret)) (.seq (.reg 0 [⟨some 89, .mov (.t 8), none⟩, ⟨some 90, .bin .eql .other 2 (.t 89) (.c (.int .i64 172)), none⟩, ⟨some 88, .asg (.t 90), none⟩] false [0, 8, 88])
                               (F_ref04_Name_p2))
def F_ref04_Name_p4 : ACode :=
  .cond (.t 73) (.seq (.reg 0 [⟨some 80, .mov (.t 7), none⟩, ⟨some 81, .mov (.t 8), none⟩, ⟨some 82, .bin .sub .other 2 (.t 81) (.c (.int .i64 58)), none⟩, ⟨some 83, .iaddr 61 1 (.t 80) (.t 82), none⟩, ⟨some 84, .load 39 false 1 (.t 83), none⟩, ⟨some 2, .asg (.t 84), none⟩] false [2])
                             (.ret)) (.seq (.reg 0 [⟨some 86, .mov (.t 8), none⟩, ⟨some 87, .bin .eql .other 2 (.t 86) (.c (.int .i64 167)), none⟩, ⟨some 85, .asg (.t 87), none⟩] false [0, 8, 85])
                             (F_ref04_Name_p3))
def F_ref04_Name_p5 : ACode :=
  .cond (.t 61) (.seq (.reg 0 [⟨some 68, .mov (.t 6), none⟩, ⟨some 69, .mov (.t 8), none⟩, ⟨some 70, .bin .sub .other 2 (.t 69) (.c (.int .i64 44)), none⟩, ⟨some 71, .iaddr 61 1 (.t 68) (.t 70), none⟩, ⟨some 72, .load 39 false 1 (.t 71), none⟩, ⟨some 2, .asg (.t 72), none⟩] false [2])
                           (.ret)) (.seq (.reg 0 [⟨some 74, .mov (.t 8), none⟩, ⟨some 75, .bin .geq .other 2 (.t 74) (.c (.int .i64 58)), none⟩, ⟨some 76, .mov (.t 75), none⟩, ⟨some 77, .mov (.t 8), some (2, 76, true)⟩, ⟨some 78, .bin .leq .other 2 (.t 77) (.c (.int .i64 66)), some (2, 76, true)⟩, ⟨some 79, .pick (.t 76) (.t 78) (.c (.bool false)), none⟩, ⟨some 73, .asg (.t 79), none⟩] false [0, 7, 8, 73])
                           (F_ref04_Name_p4))
def F_ref04_Name_p6 : ACode :=
  .cond (.t 58) (.seq (.reg 0 [⟨some 2, .asg (.c (.str ⟨#[105, 54, 52, 46, 108, 111, 97, 100]⟩)), none⟩] false [2])
                         (.ret)) (.seq (.reg 0 [⟨some 62, .mov (.t 8), none⟩, ⟨some 63, .bin .geq .other 2 (.t 62) (.c (.int .i64 44)), none⟩, ⟨some 64, .mov (.t 63), none⟩, ⟨some 65, .mov (.t 8), some (2, 64, true)⟩, ⟨some 66, .bin .leq .other 2 (.t 65) (.c (.int .i64 55)), some (2, 64, true)⟩, ⟨some 67, .pick (.t 64) (.t 66) (.c (.bool false)), none⟩, ⟨some 61, .asg (.t 67), none⟩] false [0, 6, 7, 8, 61])
                         (F_ref04_Name_p5))
def F_ref04_Name_p7 : ACode :=
  .cond (.t 55) (.seq (.reg 0 [⟨some 2, .asg (.c (.str ⟨#[105, 51, 50, 46, 108, 111, 97, 100]⟩)), none⟩] false [2])
                       (.ret)) (.seq (.reg 0 [⟨some 59, .mov (.t 8), none⟩, ⟨some 60, .bin .eql .other 2 (.t 59) (.c (.int .i64 41)), none⟩, ⟨some 58, .asg (.t 60), none⟩] false [0, 6, 7, 8, 58])
                       (F_ref04_Name_p6))
def F_ref04_Name_p8 : ACode :=
  .cond (.t 43) (.seq (.reg 0 [⟨some 50, .mov (.t 5), none⟩, ⟨some 51, .mov (.t 8), none⟩, ⟨some 52, .bin .sub .other 2 (.t 51) (.c (.int .i64 32)), none⟩, ⟨some 53, .iaddr 61 1 (.t 50) (.t 52), none⟩, ⟨some 54, .load 39 false 1 (.t 53), none⟩, ⟨some 2, .asg (.t 54), none⟩] false [2])
                     (.ret)) (.seq (.reg 0 [⟨some 56, .mov (.t 8), none⟩, ⟨some 57, .bin .eql .other 2 (.t 56) (.c (.int .i64 40)), none⟩, ⟨some 55, .asg (.t 57), none⟩] false [0, 6, 7, 8, 55])
                     (F_ref04_Name_p7))
def F_ref04_Name_p9 : ACode :=
  .cond (.t 40) (.seq (.reg 0 [⟨some 2, .asg (.c (.str ⟨#[115, 101, 108, 101, 99, 116]⟩)), none⟩] false [2])
                   (.ret)) (.seq (.reg 0 [⟨some 44, .mov (.t 8), none⟩, ⟨some 45, .bin .geq .other 2 (.t 44) (.c (.int .i64 32)), none⟩, ⟨some 46, .mov (.t 45), none⟩, ⟨some 47, .mov (.t 8), some (2, 46, true)⟩, ⟨some 48, .bin .leq .other 2 (.t 47) (.c (.int .i64 36)), some (2, 46, true)⟩, ⟨some 49, .pick (.t 46) (.t 48) (.c (.bool false)), none⟩, ⟨some 43, .asg (.t 49), none⟩] false [0, 5, 6, 7, 8, 43])
                   (F_ref04_Name_p8))
def F_ref04_Name_p10 : ACode :=
  .cond (.t 37) (.seq (.reg 0 [⟨some 2, .asg (.c (.str ⟨#[100, 114, 111, 112]⟩)), none⟩] false [2])
                 (.ret)) (.seq (.reg 0 [⟨some 41, .mov (.t 8), none⟩, ⟨some 42, .bin .eql .other 2 (.t 41) (.c (.int .i64 27)), none⟩, ⟨some 40, .asg (.t 42), none⟩] false [0, 5, 6, 7, 8, 40])
                 (F_ref04_Name_p9))
def F_ref04_Name_p11 : ACode :=
  .cond (.t 25) (.seq (.reg 0 [⟨some 32, .mov (.t 4), none⟩, ⟨some 33, .mov (.t 8), none⟩, ⟨some 34, .bin .sub .other 2 (.t 33) (.c (.int .i64 12)), none⟩, ⟨some 35, .iaddr 61 1 (.t 32) (.t 34), none⟩, ⟨some 36, .load 39 false 1 (.t 35), none⟩, ⟨some 2, .asg (.t 36), none⟩] false [2])
               (.ret)) (.seq (.reg 0 [⟨some 38, .mov (.t 8), none⟩, ⟨some 39, .bin .eql .other 2 (.t 38) (.c (.int .i64 26)), none⟩, ⟨some 37, .asg (.t 39), none⟩] false [0, 5, 6, 7, 8, 37])
               (F_ref04_Name_p10))
def F_ref04_Name_p12 : ACode :=
  .cond (.t 18) (.seq (.reg 0 [⟨some 21, .mov (.t 3), none⟩, ⟨some 22, .mov (.t 8), none⟩, ⟨some 23, .iaddr 61 1 (.t 21) (.t 22), none⟩, ⟨some 24, .load 39 false 1 (.t 23), none⟩, ⟨some 2, .asg (.t 24), none⟩] false [2])
             (.ret)) (.seq (.reg 0 [⟨some 26, .mov (.t 8), none⟩, ⟨some 27, .bin .geq .other 2 (.t 26) (.c (.int .i64 12)), none⟩, ⟨some 28, .mov (.t 27), none⟩, ⟨some 29, .mov (.t 8), some (2, 28, true)⟩, ⟨some 30, .bin .leq .other 2 (.t 29) (.c (.int .i64 17)), some (2, 28, true)⟩, ⟨some 31, .pick (.t 28) (.t 30) (.c (.bool false)), none⟩, ⟨some 25, .asg (.t 31), none⟩] false [0, 4, 5, 6, 7, 8, 25])
             (F_ref04_Name_p11))
def F_ref04_Name_p13 : ACode :=
  .cond (.t 100) (.seq (.reg 0 [⟨some 2, .asg (.c (.str ⟨#[]⟩)), none⟩] false [2])
              (.ret)) (.skip)
def F_ref04_Name_p14 : ACode :=
  .cond (.t 102) (.seq (.reg 0 [⟨some 103, .mov (.t 9), none⟩, ⟨some 104, .bin .add .other 39 (.c (.str ⟨#[105, 51, 50, 46]⟩)) (.t 103), none⟩, ⟨some 2, .asg (.t 104), none⟩] false [2])
               (.ret)) (.skip)
def F_ref04_Name_p15 : ACode :=
  .seq (.reg 0 [⟨some 105, .mov (.t 9), none⟩, ⟨some 106, .bin .add .other 39 (.c (.str ⟨#[105, 54, 52, 46]⟩)) (.t 105), none⟩, ⟨some 2, .asg (.t 106), none⟩] false [2])
             (.ret)
def F_ref04_Name_p16 : ACode :=
  .seq (.seq (.reg 0 [⟨some 101, .mov (.t 10), none⟩, ⟨some 102, .bin .eql .other 2 (.t 101) (.c (.int .i64 32)), none⟩] false [9, 102])
             (F_ref04_Name_p14))
            (F_ref04_Name_p15)
def F_ref04_Name_p17 : ACode :=
  .seq (.seq (.reg 0 [⟨some 99, .mov (.t 9), none⟩, ⟨some 100, .bin .eql .other 39 (.t 99) (.c (.str ⟨#[]⟩)), none⟩] false [9, 10, 100])
            (F_ref04_Name_p13))
           (F_ref04_Name_p16)
def F_ref04_Name_p18 : ACode :=
  .seq (.reg 0 [⟨some 95, .mov (.t 0), none⟩, ⟨some 96, .callp 83 [.t 95], none⟩, ⟨some 94, .mov (.t 96), none⟩, ⟨some 97, .ext (.t 94) 0, none⟩, ⟨some 98, .ext (.t 94) 1, none⟩, ⟨some 9, .asg (.t 97), none⟩, ⟨some 10, .asg (.t 98), none⟩] false [9, 10])
          (F_ref04_Name_p17)
def F_ref04_Name_p19 : ACode :=
  .seq (.block 0 (.seq (.reg 0 [⟨some 19, .mov (.t 8), none⟩, ⟨some 20, .bin .leq .other 2 (.t 19) (.c (.int .i64 4)), none⟩, ⟨some 18, .asg (.t 20), none⟩] false [0, 3, 4, 5, 6, 7, 8, 18])
           (F_ref04_Name_p12)))
         (F_ref04_Name_p18)
def F_ref04_Name_p20 : ACode :=
  .seq (.reg 0 [⟨some 16, .mov (.t 0), none⟩, ⟨some 17, .convi .i64 7 2 (.t 16), none⟩, ⟨some 8, .asg (.t 17), none⟩] false [0, 3, 4, 5, 6, 7, 8])
        (F_ref04_Name_p19)
def F_ref04_Name_p21 : ACode :=
  .seq (.reg 1 [⟨some 15, .bslice 0 61 [.str ⟨#[]⟩] 9 [(0, .c (.str ⟨#[105, 51, 50, 46, 115, 116, 111, 114, 101, 56]⟩)), (1, .c (.str ⟨#[105, 51, 50, 46, 115, 116, 111, 114, 101, 49, 54]⟩)), (2, .c (.str ⟨#[105, 54, 52, 46, 115, 116, 111, 114, 101, 56]⟩)), (3, .c (.str ⟨#[105, 54, 52, 46, 115, 116, 111, 114, 101, 49, 54]⟩)), (4, .c (.str ⟨#[105, 54, 52, 46, 115, 116, 111, 114, 101, 51, 50]⟩)), (5, .c (.str ⟨#[109, 101, 109, 111, 114, 121, 46, 115, 105, 122, 101]⟩)), (6, .c (.str ⟨#[109, 101, 109, 111, 114, 121, 46, 103, 114, 111, 119]⟩)), (7, .c (.str ⟨#[105, 51, 50, 46, 99, 111, 110, 115, 116]⟩)), (8, .c (.str ⟨#[105, 54, 52, 46, 99, 111, 110, 115, 116]⟩))], none⟩, ⟨some 7, .asg (.t 15), none⟩] false [0, 3, 4, 5, 6, 7])
       (F_ref04_Name_p20)
def F_ref04_Name_p22 : ACode :=
  .seq (.reg 1 [⟨some 14, .bslice 0 61 [.str ⟨#[]⟩] 12 [(0, .c (.str ⟨#[105, 51, 50, 46, 108, 111, 97, 100, 56, 95, 115]⟩)), (1, .c (.str ⟨#[105, 51, 50, 46, 108, 111, 97, 100, 56, 95, 117]⟩)), (2, .c (.str ⟨#[105, 51, 50, 46, 108, 111, 97, 100, 49, 54, 95, 115]⟩)), (3, .c (.str ⟨#[105, 51, 50, 46, 108, 111, 97, 100, 49, 54, 95, 117]⟩)), (4, .c (.str ⟨#[105, 54, 52, 46, 108, 111, 97, 100, 56, 95, 115]⟩)), (5, .c (.str ⟨#[105, 54, 52, 46, 108, 111, 97, 100, 56, 95, 117]⟩)), (6, .c (.str ⟨#[105, 54, 52, 46, 108, 111, 97, 100, 49, 54, 95, 115]⟩)), (7, .c (.str ⟨#[105, 54, 52, 46, 108, 111, 97, 100, 49, 54, 95, 117]⟩)), (8, .c (.str ⟨#[105, 54, 52, 46, 108, 111, 97, 100, 51, 50, 95, 115]⟩)), (9, .c (.str ⟨#[105, 54, 52, 46, 108, 111, 97, 100, 51, 50, 95, 117]⟩)), (10, .c (.str ⟨#[105, 51, 50, 46, 115, 116, 111, 114, 101]⟩)), (11, .c (.str ⟨#[105, 54, 52, 46, 115, 116, 111, 114, 101]⟩))], none⟩, ⟨some 6, .asg (.t 14), none⟩] false [0, 3, 4, 5, 6])
      (F_ref04_Name_p21)
def F_ref04_Name_p23 : ACode :=
  .seq (.reg 1 [⟨some 13, .bslice 0 61 [.str ⟨#[]⟩] 5 [(0, .c (.str ⟨#[108, 111, 99, 97, 108, 46, 103, 101, 116]⟩)), (1, .c (.str ⟨#[108, 111, 99, 97, 108, 46, 115, 101, 116]⟩)), (2, .c (.str ⟨#[108, 111, 99, 97, 108, 46, 116, 101, 101]⟩)), (3, .c (.str ⟨#[103, 108, 111, 98, 97, 108, 46, 103, 101, 116]⟩)), (4, .c (.str ⟨#[103, 108, 111, 98, 97, 108, 46, 115, 101, 116]⟩))], none⟩, ⟨some 5, .asg (.t 13), none⟩] false [0, 3, 4, 5])
     (F_ref04_Name_p22)
def F_ref04_Name_p24 : ACode :=
  .seq (.reg 1 [⟨some 12, .bslice 0 61 [.str ⟨#[]⟩] 6 [(0, .c (.str ⟨#[98, 114]⟩)), (1, .c (.str ⟨#[98, 114, 95, 105, 102]⟩)), (2, .c (.str ⟨#[98, 114, 95, 116, 97, 98, 108, 101]⟩)), (3, .c (.str ⟨#[114, 101, 116, 117, 114, 110]⟩)), (4, .c (.str ⟨#[99, 97, 108, 108]⟩)), (5, .c (.str ⟨#[99, 97, 108, 108, 95, 105, 110, 100, 105, 114, 101, 99, 116]⟩))], none⟩, ⟨some 4, .asg (.t 12), none⟩] false [0, 3, 4])
    (F_ref04_Name_p23)
def F_ref04_Name_p25 : ACode :=
  .seq (.reg 1 [⟨some 11, .bslice 0 61 [.str ⟨#[]⟩] 5 [(0, .c (.str ⟨#[117, 110, 114, 101, 97, 99, 104, 97, 98, 108, 101]⟩)), (1, .c (.str ⟨#[110, 111, 112]⟩)), (2, .c (.str ⟨#[98, 108, 111, 99, 107]⟩)), (3, .c (.str ⟨#[108, 111, 111, 112]⟩)), (4, .c (.str ⟨#[105, 102]⟩))], none⟩, ⟨some 3, .asg (.t 11), none⟩] false [0, 3])
   (F_ref04_Name_p24)
def F_ref04_Name_p26 : ACode :=
  .seq (.reg 0 [⟨some 2, .asg (.c (.str ⟨#[]⟩)), none⟩] false [0])
  (F_ref04_Name_p25)
def F_ref04_Name : AFun := { nt := 107, res := [.t 2], code := (F_ref04_Name_p26) }

/-- mandrel/mandrelref04.Kind -/
def F_ref04_Kind_p1 : ACode :=
  .cond (.t 4) (.seq (.reg 0 [⟨some 2, .asg (.c (.int .u8 126)), none⟩] false [2])
      (.ret)) (.skip)
def F_ref04_Kind_p2 : ACode :=
  .seq (.seq (.reg 0 [⟨some 3, .mov (.t 0), none⟩, ⟨some 4, .callp 82 [.t 3, .c (.str ⟨#[105, 54, 52, 46]⟩)], none⟩] false [4])
    (F_ref04_Kind_p1))
   (.seq (.reg 0 [⟨some 2, .asg (.c (.int .u8 127)), none⟩] false [2])
    (.ret))
def F_ref04_Kind_p3 : ACode :=
  .seq (.reg 0 [⟨some 2, .asg (.c (.int .u8 0)), none⟩] false [0])
  (F_ref04_Kind_p2)
def F_ref04_Kind : AFun := { nt := 5, res := [.t 2], code := (F_ref04_Kind_p3) }

/-- mandrel/mandrelref04.has -/
def F_ref04_has_p1 : ACode :=
  .seq (.reg 0 [⟨some 5, .mov (.t 0), none⟩, ⟨some 6, .lenS 39 (.t 5), none⟩, ⟨some 7, .mov (.t 1), none⟩, ⟨some 8, .lenS 39 (.t 7), none⟩, ⟨some 9, .bin .geq .other 2 (.t 6) (.t 8), none⟩, ⟨some 10, .mov (.t 9), none⟩, ⟨some 11, .mov (.t 0), some (5, 10, true)⟩, ⟨some 12, .mov (.t 1), some (5, 10, true)⟩, ⟨some 13, .lenS 39 (.t 12), some (5, 10, true)⟩, ⟨some 14, .slcS 39 (.t 11) none (some (.t 13)), some (5, 10, true)⟩, ⟨some 15, .mov (.t 1), some (5, 10, true)⟩, ⟨some 16, .bin .eql .other 39 (.t 14) (.t 15), some (5, 10, true)⟩, ⟨some 17, .pick (.t 10) (.t 16) (.c (.bool false)), none⟩, ⟨some 4, .asg (.t 17), none⟩] false [4])
   (.ret)
def F_ref04_has_p2 : ACode :=
  .seq (.reg 0 [⟨some 4, .asg (.c (.bool false)), none⟩] false [0, 1])
  (F_ref04_has_p1)
def F_ref04_has : AFun := { nt := 18, res := [.t 4], code := (F_ref04_has_p2) }

/-- mandrel/mandrelref02.Name -/
def F_ref02_Name_p1 : ACode :=
  .cond (.t 91) (.seq (.reg 0 [⟨some 2, .asg (.c (.str ⟨#[101, 120, 116, 101, 110, 100, 95, 117]⟩)), none⟩, ⟨some 3, .asg (.c (.int .i64 32)), none⟩] false [2, 3])
                           (.ret)) (.skip)
def F_ref02_Name_p2 : ACode :=
  .cond (.t 88) (.seq (.reg 0 [⟨some 2, .asg (.c (.str ⟨#[101, 120, 116, 101, 110, 100, 95, 115]⟩)), none⟩, ⟨some 3, .asg (.c (.int .i64 32)), none⟩] false [2, 3])
                         (.ret)) (.seq (.reg 0 [⟨some 92, .mov (.t 7), none⟩, ⟨some 93, .bin .eql .other 2 (.t 92) (.c (.int .i64 173)), none⟩, ⟨some 91, .asg (.t 93), none⟩] false [91])
                         (F_ref02_Name_p1))
def F_ref02_Name_p3 : ACode :=
  .cond (.t 85) (.seq (.reg 0 [⟨some 2, .asg (.c (.str ⟨#[119, 114, 97, 112]⟩)), none⟩, ⟨some 3, .asg (.c (.int .i64 64)), none⟩] false [2, 3])
                       (.ret)) (.seq (.reg 0 [⟨some 89, .mov (.t 7), none⟩, ⟨some 90, .bin .eql .other 2 (.t 89) (.c (.int .i64 172)), none⟩, ⟨some 88, .asg (.t 90), none⟩] false [7, 88])
                       (F_ref02_Name_p2))
def F_ref02_Name_p4 : ACode :=
  .cond (.t 73) (.seq (.reg 0 [⟨some 80, .mov (.t 5), none⟩, ⟨some 81, .mov (.t 7), none⟩, ⟨some 82, .bin .sub .other 2 (.t 81) (.c (.int .i64 124)), none⟩, ⟨some 83, .iaddr 61 1 (.t 80) (.t 82), none⟩, ⟨some 84, .load 39 false 1 (.t 83), none⟩, ⟨some 2, .asg (.t 84), none⟩, ⟨some 3, .asg (.c (.int .i64 64)), none⟩] false [2, 3])
                     (.ret)) (.seq (.reg 0 [⟨some 86, .mov (.t 7), none⟩, ⟨some 87, .bin .eql .other 2 (.t 86) (.c (.int .i64 167)), none⟩, ⟨some 85, .asg (.t 87), none⟩] false [7, 85])
                     (F_ref02_Name_p3))
def F_ref02_Name_p5 : ACode :=
  .cond (.t 61) (.seq (.reg 0 [⟨some 68, .mov (.t 4), none⟩, ⟨some 69, .mov (.t 7), none⟩, ⟨some 70, .bin .sub .other 2 (.t 69) (.c (.int .i64 121)), none⟩, ⟨some 71, .iaddr 61 1 (.t 68) (.t 70), none⟩, ⟨some 72, .load 39 false 1 (.t 71), none⟩, ⟨some 2, .asg (.t 72), none⟩, ⟨some 3, .asg (.c (.int .i64 64)), none⟩] false [2, 3])
                   (.ret)) (.seq (.reg 0 [⟨some 74, .mov (.t 7), none⟩, ⟨some 75, .bin .geq .other 2 (.t 74) (.c (.int .i64 124)), none⟩, ⟨some 76, .mov (.t 75), none⟩, ⟨some 77, .mov (.t 7), some (2, 76, true)⟩, ⟨some 78, .bin .leq .other 2 (.t 77) (.c (.int .i64 138)), some (2, 76, true)⟩, ⟨some 79, .pick (.t 76) (.t 78) (.c (.bool false)), none⟩, ⟨some 73, .asg (.t 79), none⟩] false [5, 7, 73])
                   (F_ref02_Name_p4))
def F_ref02_Name_p6 : ACode :=
  .cond (.t 49) (.seq (.reg 0 [⟨some 56, .mov (.t 5), none⟩, ⟨some 57, .mov (.t 7), none⟩, ⟨some 58, .bin .sub .other 2 (.t 57) (.c (.int .i64 106)), none⟩, ⟨some 59, .iaddr 61 1 (.t 56) (.t 58), none⟩, ⟨some 60, .load 39 false 1 (.t 59), none⟩, ⟨some 2, .asg (.t 60), none⟩, ⟨some 3, .asg (.c (.int .i64 32)), none⟩] false [2, 3])
                 (.ret)) (.seq (.reg 0 [⟨some 62, .mov (.t 7), none⟩, ⟨some 63, .bin .geq .other 2 (.t 62) (.c (.int .i64 121)), none⟩, ⟨some 64, .mov (.t 63), none⟩, ⟨some 65, .mov (.t 7), some (2, 64, true)⟩, ⟨some 66, .bin .leq .other 2 (.t 65) (.c (.int .i64 123)), some (2, 64, true)⟩, ⟨some 67, .pick (.t 64) (.t 66) (.c (.bool false)), none⟩, ⟨some 61, .asg (.t 67), none⟩] false [4, 5, 7, 61])
                 (F_ref02_Name_p5))
def F_ref02_Name_p7 : ACode :=
  .cond (.t 37) (.seq (.reg 0 [⟨some 44, .mov (.t 4), none⟩, ⟨some 45, .mov (.t 7), none⟩, ⟨some 46, .bin .sub .other 2 (.t 45) (.c (.int .i64 103)), none⟩, ⟨some 47, .iaddr 61 1 (.t 44) (.t 46), none⟩, ⟨some 48, .load 39 false 1 (.t 47), none⟩, ⟨some 2, .asg (.t 48), none⟩, ⟨some 3, .asg (.c (.int .i64 32)), none⟩] false [2, 3])
               (.ret)) (.seq (.reg 0 [⟨some 50, .mov (.t 7), none⟩, ⟨some 51, .bin .geq .other 2 (.t 50) (.c (.int .i64 106)), none⟩, ⟨some 52, .mov (.t 51), none⟩, ⟨some 53, .mov (.t 7), some (2, 52, true)⟩, ⟨some 54, .bin .leq .other 2 (.t 53) (.c (.int .i64 120)), some (2, 52, true)⟩, ⟨some 55, .pick (.t 52) (.t 54) (.c (.bool false)), none⟩, ⟨some 49, .asg (.t 55), none⟩] false [4, 5, 7, 49])
               (F_ref02_Name_p6))
def F_ref02_Name_p8 : ACode :=
  .cond (.t 25) (.seq (.reg 0 [⟨some 32, .mov (.t 6), none⟩, ⟨some 33, .mov (.t 7), none⟩, ⟨some 34, .bin .sub .other 2 (.t 33) (.c (.int .i64 80)), none⟩, ⟨some 35, .iaddr 61 1 (.t 32) (.t 34), none⟩, ⟨some 36, .load 39 false 1 (.t 35), none⟩, ⟨some 2, .asg (.t 36), none⟩, ⟨some 3, .asg (.c (.int .i64 64)), none⟩] false [2, 3])
             (.ret)) (.seq (.reg 0 [⟨some 38, .mov (.t 7), none⟩, ⟨some 39, .bin .geq .other 2 (.t 38) (.c (.int .i64 103)), none⟩, ⟨some 40, .mov (.t 39), none⟩, ⟨some 41, .mov (.t 7), some (2, 40, true)⟩, ⟨some 42, .bin .leq .other 2 (.t 41) (.c (.int .i64 105)), some (2, 40, true)⟩, ⟨some 43, .pick (.t 40) (.t 42) (.c (.bool false)), none⟩, ⟨some 37, .asg (.t 43), none⟩] false [4, 5, 7, 37])
             (F_ref02_Name_p7))
def F_ref02_Name_p9 : ACode :=
  .cond (.t 13) (.seq (.reg 0 [⟨some 20, .mov (.t 6), none⟩, ⟨some 21, .mov (.t 7), none⟩, ⟨some 22, .bin .sub .other 2 (.t 21) (.c (.int .i64 69)), none⟩, ⟨some 23, .iaddr 61 1 (.t 20) (.t 22), none⟩, ⟨some 24, .load 39 false 1 (.t 23), none⟩, ⟨some 2, .asg (.t 24), none⟩, ⟨some 3, .asg (.c (.int .i64 32)), none⟩] false [2, 3])
           (.ret)) (.seq (.reg 0 [⟨some 26, .mov (.t 7), none⟩, ⟨some 27, .bin .geq .other 2 (.t 26) (.c (.int .i64 80)), none⟩, ⟨some 28, .mov (.t 27), none⟩, ⟨some 29, .mov (.t 7), some (2, 28, true)⟩, ⟨some 30, .bin .leq .other 2 (.t 29) (.c (.int .i64 90)), some (2, 28, true)⟩, ⟨some 31, .pick (.t 28) (.t 30) (.c (.bool false)), none⟩, ⟨some 25, .asg (.t 31), none⟩] false [4, 5, 6, 7, 25])
           (F_ref02_Name_p8))
def F_ref02_Name_p10 : ACode :=
  .seq (.reg 0 [⟨some 2, .asg (.c (.str ⟨#[]⟩)), none⟩, ⟨some 3, .asg (.c (.int .i64 0)), none⟩] false [2, 3])
        (.ret)
def F_ref02_Name_p11 : ACode :=
  .seq (.block 0 (.seq (.reg 0 [⟨some 14, .mov (.t 7), none⟩, ⟨some 15, .bin .geq .other 2 (.t 14) (.c (.int .i64 69)), none⟩, ⟨some 16, .mov (.t 15), none⟩, ⟨some 17, .mov (.t 7), some (2, 16, true)⟩, ⟨some 18, .bin .leq .other 2 (.t 17) (.c (.int .i64 79)), some (2, 16, true)⟩, ⟨some 19, .pick (.t 16) (.t 18) (.c (.bool false)), none⟩, ⟨some 13, .asg (.t 19), none⟩] false [4, 5, 6, 7, 13])
         (F_ref02_Name_p9)))
       (F_ref02_Name_p10)
def F_ref02_Name_p12 : ACode :=
  .seq (.reg 0 [⟨some 11, .mov (.t 0), none⟩, ⟨some 12, .convi .i64 7 2 (.t 11), none⟩, ⟨some 7, .asg (.t 12), none⟩] false [4, 5, 6, 7])
      (F_ref02_Name_p11)
def F_ref02_Name_p13 : ACode :=
  .seq (.reg 1 [⟨some 10, .bslice 0 61 [.str ⟨#[]⟩] 11 [(0, .c (.str ⟨#[101, 113, 122]⟩)), (1, .c (.str ⟨#[101, 113]⟩)), (2, .c (.str ⟨#[110, 101]⟩)), (3, .c (.str ⟨#[108, 116, 95, 115]⟩)), (4, .c (.str ⟨#[108, 116, 95, 117]⟩)), (5, .c (.str ⟨#[103, 116, 95, 115]⟩)), (6, .c (.str ⟨#[103, 116, 95, 117]⟩)), (7, .c (.str ⟨#[108, 101, 95, 115]⟩)), (8, .c (.str ⟨#[108, 101, 95, 117]⟩)), (9, .c (.str ⟨#[103, 101, 95, 115]⟩)), (10, .c (.str ⟨#[103, 101, 95, 117]⟩))], none⟩, ⟨some 6, .asg (.t 10), none⟩] false [0, 4, 5, 6])
     (F_ref02_Name_p12)
def F_ref02_Name_p14 : ACode :=
  .seq (.reg 1 [⟨some 9, .bslice 0 61 [.str ⟨#[]⟩] 15 [(0, .c (.str ⟨#[97, 100, 100]⟩)), (1, .c (.str ⟨#[115, 117, 98]⟩)), (2, .c (.str ⟨#[109, 117, 108]⟩)), (3, .c (.str ⟨#[100, 105, 118, 95, 115]⟩)), (4, .c (.str ⟨#[100, 105, 118, 95, 117]⟩)), (5, .c (.str ⟨#[114, 101, 109, 95, 115]⟩)), (6, .c (.str ⟨#[114, 101, 109, 95, 117]⟩)), (7, .c (.str ⟨#[97, 110, 100]⟩)), (8, .c (.str ⟨#[111, 114]⟩)), (9, .c (.str ⟨#[120, 111, 114]⟩)), (10, .c (.str ⟨#[115, 104, 108]⟩)), (11, .c (.str ⟨#[115, 104, 114, 95, 115]⟩)), (12, .c (.str ⟨#[115, 104, 114, 95, 117]⟩)), (13, .c (.str ⟨#[114, 111, 116, 108]⟩)), (14, .c (.str ⟨#[114, 111, 116, 114]⟩))], none⟩, ⟨some 5, .asg (.t 9), none⟩] false [0, 4, 5])
    (F_ref02_Name_p13)
def F_ref02_Name_p15 : ACode :=
  .seq (.reg 1 [⟨some 8, .bslice 0 61 [.str ⟨#[]⟩] 3 [(0, .c (.str ⟨#[99, 108, 122]⟩)), (1, .c (.str ⟨#[99, 116, 122]⟩)), (2, .c (.str ⟨#[112, 111, 112, 99, 110, 116]⟩))], none⟩, ⟨some 4, .asg (.t 8), none⟩] false [0, 4])
   (F_ref02_Name_p14)
def F_ref02_Name_p16 : ACode :=
  .seq (.reg 0 [⟨some 2, .asg (.c (.str ⟨#[]⟩)), none⟩, ⟨some 3, .asg (.c (.int .i64 0)), none⟩] false [0])
  (F_ref02_Name_p15)
def F_ref02_Name : AFun := { nt := 94, res := [.t 2, .t 3], code := (F_ref02_Name_p16) }

/-- mandrel/ops.Sign -/
def F_ops_Sign_p1 : ACode :=
  .cond (.t 39) (.seq (.reg 0 [⟨some 42, .mov (.t 4), none⟩, ⟨some 43, .callp 89 [.t 42], none⟩, ⟨some 44, .build 43 [.nils, .int .u8 0] [(1, 1, 1, .t 43)], none⟩, ⟨none, .store 43 2 (.t 2) (.t 44), none⟩, ⟨some 3, .asg (.c .nili), none⟩] false [2, 3])
                  (.ret)) (.skip)
def F_ops_Sign_p2 : ACode :=
  .cond (.t 34) (.seq (.reg 1 [⟨some 37, .bslice 0 50 [.int .u8 0] 1 [(0, .c (.int .u8 127))], none⟩, ⟨some 38, .build 43 [.nils, .int .u8 0] [(0, 0, 1, .t 37), (1, 1, 1, .c (.int .u8 127))], none⟩, ⟨none, .store 43 2 (.t 2) (.t 38), none⟩, ⟨some 3, .asg (.c .nili), none⟩] false [2, 3])
                (.ret)) (.seq (.reg 0 [⟨some 40, .mov (.t 0), none⟩, ⟨some 41, .bin .leq .other 7 (.t 40) (.c (.int .u8 66)), none⟩, ⟨some 39, .asg (.t 41), none⟩] false [2, 4, 39])
                (F_ops_Sign_p1))
def F_ops_Sign_p3 : ACode :=
  .cond (.t 30) (.seq (.reg 0 [⟨some 33, .build 43 [.nils, .int .u8 0] [(1, 1, 1, .c (.int .u8 127))], none⟩, ⟨none, .store 43 2 (.t 2) (.t 33), none⟩, ⟨some 3, .asg (.c .nili), none⟩] false [2, 3])
              (.ret)) (.seq (.reg 0 [⟨some 35, .mov (.t 0), none⟩, ⟨some 36, .bin .eql .other 7 (.t 35) (.c (.int .u8 64)), none⟩, ⟨some 34, .asg (.t 36), none⟩] false [0, 2, 4, 34])
              (F_ops_Sign_p2))
def F_ops_Sign_p4 : ACode :=
  .cond (.t 23) (.seq (.reg 1 [⟨some 26, .mov (.t 4), none⟩, ⟨some 27, .callp 89 [.t 26], none⟩, ⟨some 28, .bslice 0 50 [.int .u8 0] 2 [(0, .c (.int .u8 127)), (1, .t 27)], none⟩, ⟨some 29, .build 43 [.nils, .int .u8 0] [(0, 0, 1, .t 28)], none⟩, ⟨none, .store 43 2 (.t 2) (.t 29), none⟩, ⟨some 3, .asg (.c .nili), none⟩] false [2, 3])
            (.ret)) (.seq (.reg 0 [⟨some 31, .mov (.t 0), none⟩, ⟨some 32, .bin .eql .other 7 (.t 31) (.c (.int .u8 63)), none⟩, ⟨some 30, .asg (.t 32), none⟩] false [0, 2, 4, 30])
            (F_ops_Sign_p3))
def F_ops_Sign_p5 : ACode :=
  .cond (.t 16) (.seq (.reg 1 [⟨some 19, .bslice 0 50 [.int .u8 0] 1 [(0, .c (.int .u8 127))], none⟩, ⟨some 20, .mov (.t 4), none⟩, ⟨some 21, .callp 89 [.t 20], none⟩, ⟨some 22, .build 43 [.nils, .int .u8 0] [(0, 0, 1, .t 19), (1, 1, 1, .t 21)], none⟩, ⟨none, .store 43 2 (.t 2) (.t 22), none⟩, ⟨some 3, .asg (.c .nili), none⟩] false [2, 3])
          (.ret)) (.seq (.reg 0 [⟨some 24, .mov (.t 0), none⟩, ⟨some 25, .bin .leq .other 7 (.t 24) (.c (.int .u8 62)), none⟩, ⟨some 23, .asg (.t 25), none⟩] false [0, 2, 4, 23])
          (F_ops_Sign_p4))
def F_ops_Sign_p6 : ACode :=
  .cond (.t 7) (.seq (.reg 0 [⟨some 14, .build 43 [.nils, .int .u8 0] [], none⟩, ⟨some 15, .mkif 45 (.c (.int .i64 1)), none⟩, ⟨none, .store 43 2 (.t 2) (.t 14), none⟩, ⟨some 3, .asg (.t 15), none⟩] false [2, 3])
        (.ret)) (.seq (.reg 0 [⟨some 17, .mov (.t 0), none⟩, ⟨some 18, .bin .leq .other 7 (.t 17) (.c (.int .u8 53)), none⟩, ⟨some 16, .asg (.t 18), none⟩] false [0, 2, 4, 16])
        (F_ops_Sign_p5))
def F_ops_Sign_p7 : ACode :=
  .seq (.reg 0 [⟨some 45, .mov (.t 4), none⟩, ⟨some 46, .callp 90 [.t 45], none⟩, ⟨none, .store 43 2 (.t 2) (.t 46), none⟩, ⟨some 3, .asg (.c .nili), none⟩] false [2, 3])
     (.ret)
def F_ops_Sign_p8 : ACode :=
  .seq (.block 0 (.seq (.reg 0 [⟨some 8, .mov (.t 4), none⟩, ⟨some 9, .bin .eql .other 39 (.t 8) (.c (.str ⟨#[]⟩)), none⟩, ⟨some 10, .mov (.t 9), none⟩, ⟨some 11, .mov (.t 0), some (2, 10, false)⟩, ⟨some 12, .bin .lss .other 7 (.t 11) (.c (.int .u8 40)), some (2, 10, false)⟩, ⟨some 13, .pick (.t 10) (.c (.bool true)) (.t 12), none⟩, ⟨some 7, .asg (.t 13), none⟩] false [0, 2, 4, 7])
      (F_ops_Sign_p6)))
    (F_ops_Sign_p7)
def F_ops_Sign_p9 : ACode :=
  .seq (.reg 0 [⟨some 5, .mov (.t 0), none⟩, ⟨some 6, .callp 88 [.t 5], none⟩, ⟨some 4, .asg (.t 6), none⟩] false [0, 2, 4])
   (F_ops_Sign_p8)
def F_ops_Sign_p10 : ACode :=
  .seq (.reg 1 [⟨some 2, .alloc 0 43 [.nils, .int .u8 0], none⟩, ⟨some 3, .asg (.c .nili), none⟩] false [0, 2])
  (F_ops_Sign_p9)
def F_ops_Sign : AFun := { nt := 47, res := [.cell 2 43 true 2, .t 3], code := (F_ops_Sign_p10) }

end Go.Proofs.YtablleokoifolaaGreatDoor

/- Abstract code of functions, written by a program of this claim set (gen.py) out of the program's own print. -/
set_option linter.unusedVariables false
set_option maxRecDepth 100000
namespace Go.Proofs.YtablleokoifolaaGreatDoor
open Go

/-- mandrel/ops.Bytes -/
def F_ops_Bytes_p1 : ACode :=
  .cond (.t 19) (.seq (.reg 0 [⟨some 20, .mkif 45 (.c (.int .i64 1)), none⟩, ⟨some 2, .asg (.c (.int .i64 0)), none⟩, ⟨some 3, .asg (.c (.bool false)), none⟩, ⟨some 4, .asg (.t 20), none⟩] false [2, 3, 4])
       (.ret)) (.skip)
def F_ops_Bytes_p2 : ACode :=
  .cond (.t 36) (.seq (.reg 0 [⟨some 44, .mov (.t 7), none⟩, ⟨some 2, .asg (.c (.int .i64 4)), none⟩, ⟨some 3, .asg (.t 44), none⟩, ⟨some 4, .asg (.c .nili), none⟩] false [2, 3, 4])
               (.ret)) (.skip)
def F_ops_Bytes_p3 : ACode :=
  .cond (.t 32) (.seq (.reg 0 [⟨some 35, .mov (.t 7), none⟩, ⟨some 2, .asg (.c (.int .i64 2)), none⟩, ⟨some 3, .asg (.t 35), none⟩, ⟨some 4, .asg (.c .nili), none⟩] false [2, 3, 4])
             (.ret)) (.seq (.reg 0 [⟨some 37, .mov (.t 6), none⟩, ⟨some 38, .callp 93 [.t 37, .c (.str ⟨#[51, 50]⟩)], none⟩, ⟨some 39, .mov (.t 38), none⟩, ⟨some 40, .mov (.t 5), some (2, 39, false)⟩, ⟨some 41, .callp 89 [.t 40], some (2, 39, false)⟩, ⟨some 42, .bin .eql .other 51 (.t 41) (.c (.int .u8 127)), some (2, 39, false)⟩, ⟨some 43, .pick (.t 39) (.c (.bool true)) (.t 42), none⟩, ⟨some 36, .asg (.t 43), none⟩] false [7, 36])
             (F_ops_Bytes_p2))
def F_ops_Bytes_p4 : ACode :=
  .cond (.t 28) (.seq (.reg 0 [⟨some 31, .mov (.t 7), none⟩, ⟨some 2, .asg (.c (.int .i64 1)), none⟩, ⟨some 3, .asg (.t 31), none⟩, ⟨some 4, .asg (.c .nili), none⟩] false [2, 3, 4])
           (.ret)) (.seq (.reg 0 [⟨some 33, .mov (.t 6), none⟩, ⟨some 34, .callp 93 [.t 33, .c (.str ⟨#[49, 54]⟩)], none⟩, ⟨some 32, .asg (.t 34), none⟩] false [5, 6, 7, 32])
           (F_ops_Bytes_p3))
def F_ops_Bytes_p5 : ACode :=
  .seq (.reg 0 [⟨some 45, .mov (.t 7), none⟩, ⟨some 2, .asg (.c (.int .i64 8)), none⟩, ⟨some 3, .asg (.t 45), none⟩, ⟨some 4, .asg (.c .nili), none⟩] false [2, 3, 4])
        (.ret)
def F_ops_Bytes_p6 : ACode :=
  .seq (.block 0 (.seq (.reg 0 [⟨some 29, .mov (.t 6), none⟩, ⟨some 30, .callp 93 [.t 29, .c (.str ⟨#[56]⟩)], none⟩, ⟨some 28, .asg (.t 30), none⟩] false [5, 6, 7, 28])
         (F_ops_Bytes_p4)))
       (F_ops_Bytes_p5)
def F_ops_Bytes_p7 : ACode :=
  .seq (.reg 0 [⟨some 26, .mov (.t 6), none⟩, ⟨some 27, .callp 92 [.t 26, .c (.str ⟨#[95, 117]⟩)], none⟩, ⟨some 6, .asg (.t 27), none⟩] false [5, 6, 7])
      (F_ops_Bytes_p6)
def F_ops_Bytes_p8 : ACode :=
  .seq (.reg 0 [⟨some 22, .mov (.t 5), none⟩, ⟨some 23, .callp 91 [.t 22, .c (.str ⟨#[95, 115]⟩)], none⟩, ⟨some 21, .mov (.t 23), none⟩, ⟨some 24, .ext (.t 21) 0, none⟩, ⟨some 25, .ext (.t 21) 1, none⟩, ⟨some 6, .asg (.t 24), none⟩, ⟨some 7, .asg (.t 25), none⟩] false [5, 6, 7])
     (F_ops_Bytes_p7)
def F_ops_Bytes_p9 : ACode :=
  .seq (.seq (.reg 0 [⟨some 10, .mov (.t 5), none⟩, ⟨some 11, .bin .eql .other 39 (.t 10) (.c (.str ⟨#[]⟩)), none⟩, ⟨some 12, .mov (.t 11), none⟩, ⟨some 13, .mov (.t 0), some (2, 12, false)⟩, ⟨some 14, .bin .lss .other 7 (.t 13) (.c (.int .u8 40)), some (2, 12, false)⟩, ⟨some 15, .pick (.t 12) (.c (.bool true)) (.t 14), none⟩, ⟨some 16, .mov (.t 15), none⟩, ⟨some 17, .mov (.t 0), some (6, 16, false)⟩, ⟨some 18, .bin .gtr .other 7 (.t 17) (.c (.int .u8 62)), some (6, 16, false)⟩, ⟨some 19, .pick (.t 16) (.c (.bool true)) (.t 18), none⟩] false [5, 19])
     (F_ops_Bytes_p1))
    (F_ops_Bytes_p8)
def F_ops_Bytes_p10 : ACode :=
  .seq (.reg 0 [⟨some 8, .mov (.t 0), none⟩, ⟨some 9, .callp 88 [.t 8], none⟩, ⟨some 5, .asg (.t 9), none⟩] false [0, 5])
   (F_ops_Bytes_p9)
def F_ops_Bytes_p11 : ACode :=
  .seq (.reg 0 [⟨some 2, .asg (.c (.int .i64 0)), none⟩, ⟨some 3, .asg (.c (.bool false)), none⟩, ⟨some 4, .asg (.c .nili), none⟩] false [0])
  (F_ops_Bytes_p10)
def F_ops_Bytes : AFun := { nt := 46, res := [.t 2, .t 3, .t 4], code := (F_ops_Bytes_p11) }

/-- mandrel/ops.Form -/
def F_ops_Form_p1 : ACode :=
  .cond (.t 61) (.seq (.reg 0 [⟨some 2, .asg (.c (.int .i64 2)), none⟩, ⟨some 3, .asg (.c .nili), none⟩] false [2, 3])
                         (.ret)) (.skip)
def F_ops_Form_p2 : ACode :=
  .cond (.t 58) (.seq (.reg 0 [⟨some 2, .asg (.c (.int .i64 1)), none⟩, ⟨some 3, .asg (.c .nili), none⟩] false [2, 3])
                       (.ret)) (.seq (.reg 0 [⟨some 62, .mov (.t 0), none⟩, ⟨some 63, .bin .eql .other 7 (.t 62) (.c (.int .u8 66)), none⟩, ⟨some 61, .asg (.t 63), none⟩] false [61])
                       (F_ops_Form_p1))
def F_ops_Form_p3 : ACode :=
  .cond (.t 51) (.seq (.reg 0 [⟨some 2, .asg (.c (.int .i64 5)), none⟩, ⟨some 3, .asg (.c .nili), none⟩] false [2, 3])
                     (.ret)) (.seq (.reg 0 [⟨some 59, .mov (.t 0), none⟩, ⟨some 60, .bin .eql .other 7 (.t 59) (.c (.int .u8 65)), none⟩, ⟨some 58, .asg (.t 60), none⟩] false [0, 58])
                     (F_ops_Form_p2))
def F_ops_Form_p4 : ACode :=
  .cond (.t 44) (.seq (.reg 0 [⟨some 2, .asg (.c (.int .i64 4)), none⟩, ⟨some 3, .asg (.c .nili), none⟩] false [2, 3])
                   (.ret)) (.seq (.reg 0 [⟨some 52, .mov (.t 0), none⟩, ⟨some 53, .bin .eql .other 7 (.t 52) (.c (.int .u8 63)), none⟩, ⟨some 54, .mov (.t 53), none⟩, ⟨some 55, .mov (.t 0), some (2, 54, false)⟩, ⟨some 56, .bin .eql .other 7 (.t 55) (.c (.int .u8 64)), some (2, 54, false)⟩, ⟨some 57, .pick (.t 54) (.c (.bool true)) (.t 56), none⟩, ⟨some 51, .asg (.t 57), none⟩] false [0, 51])
                   (F_ops_Form_p3))
def F_ops_Form_p5 : ACode :=
  .cond (.t 25) (.seq (.reg 0 [⟨some 2, .asg (.c (.int .i64 3)), none⟩, ⟨some 3, .asg (.c .nili), none⟩] false [2, 3])
                 (.ret)) (.seq (.reg 0 [⟨some 45, .mov (.t 0), none⟩, ⟨some 46, .bin .geq .other 7 (.t 45) (.c (.int .u8 40)), none⟩, ⟨some 47, .mov (.t 46), none⟩, ⟨some 48, .mov (.t 0), some (2, 47, true)⟩, ⟨some 49, .bin .leq .other 7 (.t 48) (.c (.int .u8 62)), some (2, 47, true)⟩, ⟨some 50, .pick (.t 47) (.t 49) (.c (.bool false)), none⟩, ⟨some 44, .asg (.t 50), none⟩] false [0, 44])
                 (F_ops_Form_p4))
def F_ops_Form_p6 : ACode :=
  .cond (.t 22) (.seq (.reg 0 [⟨some 2, .asg (.c (.int .i64 9)), none⟩, ⟨some 3, .asg (.c .nili), none⟩] false [2, 3])
               (.ret)) (.seq (.reg 0 [⟨some 26, .mov (.t 0), none⟩, ⟨some 27, .bin .eql .other 7 (.t 26) (.c (.int .u8 12)), none⟩, ⟨some 28, .mov (.t 27), none⟩, ⟨some 29, .mov (.t 0), some (2, 28, false)⟩, ⟨some 30, .bin .eql .other 7 (.t 29) (.c (.int .u8 13)), some (2, 28, false)⟩, ⟨some 31, .pick (.t 28) (.c (.bool true)) (.t 30), none⟩, ⟨some 32, .mov (.t 31), none⟩, ⟨some 33, .mov (.t 0), some (6, 32, false)⟩, ⟨some 34, .bin .eql .other 7 (.t 33) (.c (.int .u8 16)), some (6, 32, false)⟩, ⟨some 35, .pick (.t 32) (.c (.bool true)) (.t 34), none⟩, ⟨some 36, .mov (.t 35), none⟩, ⟨some 37, .mov (.t 0), some (10, 36, false)⟩, ⟨some 38, .bin .geq .other 7 (.t 37) (.c (.int .u8 32)), some (10, 36, false)⟩, ⟨some 39, .mov (.t 38), some (10, 36, false)⟩, ⟨some 40, .mov (.t 0), some (13, 39, true)⟩, ⟨some 41, .bin .leq .other 7 (.t 40) (.c (.int .u8 36)), some (13, 39, true)⟩, ⟨some 42, .pick (.t 39) (.t 41) (.c (.bool false)), some (10, 36, false)⟩, ⟨some 43, .pick (.t 36) (.c (.bool true)) (.t 42), none⟩, ⟨some 25, .asg (.t 43), none⟩] false [0, 25])
               (F_ops_Form_p5))
def F_ops_Form_p7 : ACode :=
  .cond (.t 19) (.seq (.reg 0 [⟨some 2, .asg (.c (.int .i64 8)), none⟩, ⟨some 3, .asg (.c .nili), none⟩] false [2, 3])
             (.ret)) (.seq (.reg 0 [⟨some 23, .mov (.t 0), none⟩, ⟨some 24, .bin .eql .other 7 (.t 23) (.c (.int .u8 17)), none⟩, ⟨some 22, .asg (.t 24), none⟩] false [0, 22])
             (F_ops_Form_p6))
def F_ops_Form_p8 : ACode :=
  .cond (.t 16) (.seq (.reg 0 [⟨some 2, .asg (.c (.int .i64 7)), none⟩, ⟨some 3, .asg (.c .nili), none⟩] false [2, 3])
           (.ret)) (.seq (.reg 0 [⟨some 20, .mov (.t 0), none⟩, ⟨some 21, .bin .eql .other 7 (.t 20) (.c (.int .u8 14)), none⟩, ⟨some 19, .asg (.t 21), none⟩] false [0, 19])
           (F_ops_Form_p7))
def F_ops_Form_p9 : ACode :=
  .cond (.t 9) (.seq (.reg 0 [⟨some 2, .asg (.c (.int .i64 6)), none⟩, ⟨some 3, .asg (.c .nili), none⟩] false [2, 3])
         (.ret)) (.seq (.reg 0 [⟨some 17, .mov (.t 0), none⟩, ⟨some 18, .bin .eql .other 7 (.t 17) (.c (.int .u8 4)), none⟩, ⟨some 16, .asg (.t 18), none⟩] false [0, 16])
         (F_ops_Form_p8))
def F_ops_Form_p10 : ACode :=
  .cond (.t 4) (.seq (.reg 0 [⟨some 8, .mkif 45 (.c (.int .i64 1)), none⟩, ⟨some 2, .asg (.c (.int .i64 0)), none⟩, ⟨some 3, .asg (.t 8), none⟩] false [2, 3])
       (.ret)) (.seq (.reg 0 [⟨some 10, .mov (.t 0), none⟩, ⟨some 11, .bin .eql .other 7 (.t 10) (.c (.int .u8 2)), none⟩, ⟨some 12, .mov (.t 11), none⟩, ⟨some 13, .mov (.t 0), some (2, 12, false)⟩, ⟨some 14, .bin .eql .other 7 (.t 13) (.c (.int .u8 3)), some (2, 12, false)⟩, ⟨some 15, .pick (.t 12) (.c (.bool true)) (.t 14), none⟩, ⟨some 9, .asg (.t 15), none⟩] false [0, 9])
       (F_ops_Form_p9))
def F_ops_Form_p11 : ACode :=
  .seq (.reg 0 [⟨some 2, .asg (.c (.int .i64 0)), none⟩, ⟨some 3, .asg (.c .nili), none⟩] false [2, 3])
    (.ret)
def F_ops_Form_p12 : ACode :=
  .seq (.block 0 (.seq (.reg 0 [⟨some 5, .mov (.t 0), none⟩, ⟨some 6, .callp 88 [.t 5], none⟩, ⟨some 7, .bin .eql .other 39 (.t 6) (.c (.str ⟨#[]⟩)), none⟩, ⟨some 4, .asg (.t 7), none⟩] false [0, 4])
     (F_ops_Form_p10)))
   (F_ops_Form_p11)
def F_ops_Form_p13 : ACode :=
  .seq (.reg 0 [⟨some 2, .asg (.c (.int .i64 0)), none⟩, ⟨some 3, .asg (.c .nili), none⟩] false [0])
  (F_ops_Form_p12)
def F_ops_Form : AFun := { nt := 64, res := [.t 2, .t 3], code := (F_ops_Form_p13) }

/-- mandrel/ops.Name -/
def F_ops_Name_p1 : ACode :=
  .cond (.t 7) (.seq (.reg 0 [⟨some 2, .asg (.c (.str ⟨#[]⟩)), none⟩] false [2])
      (.ret)) (.skip)
def F_ops_Name_p2 : ACode :=
  .seq (.reg 0 [⟨some 8, .callp 96 [], none⟩, ⟨some 9, .mov (.t 0), none⟩, ⟨some 10, .idxA 62 174 false 1 (.t 8) (.t 9), none⟩, ⟨some 2, .asg (.t 10), none⟩] false [2])
    (.ret)
def F_ops_Name_p3 : ACode :=
  .seq (.seq (.reg 0 [⟨some 3, .mov (.t 0), none⟩, ⟨some 4, .convi .i64 7 2 (.t 3), none⟩, ⟨some 5, .callp 96 [], none⟩, ⟨some 6, .mov (.c (.int .i64 174)), none⟩, ⟨some 7, .bin .geq .other 2 (.t 4) (.t 6), none⟩] false [0, 7])
    (F_ops_Name_p1))
   (F_ops_Name_p2)
def F_ops_Name_p4 : ACode :=
  .seq (.reg 0 [⟨some 2, .asg (.c (.str ⟨#[]⟩)), none⟩] false [0])
  (F_ops_Name_p3)
def F_ops_Name : AFun := { nt := 11, res := [.t 2], code := (F_ops_Name_p4) }

/-- mandrel/ops.own -/
def F_ops_own_p1 : ACode :=
  .cond (.t 4) (.seq (.reg 0 [⟨some 2, .asg (.c (.int .u8 126)), none⟩] false [2])
      (.ret)) (.skip)
def F_ops_own_p2 : ACode :=
  .seq (.seq (.reg 0 [⟨some 3, .mov (.t 0), none⟩, ⟨some 4, .callp 97 [.t 3, .c (.str ⟨#[105, 54, 52, 46]⟩)], none⟩] false [4])
    (F_ops_own_p1))
   (.seq (.reg 0 [⟨some 2, .asg (.c (.int .u8 127)), none⟩] false [2])
    (.ret))
def F_ops_own_p3 : ACode :=
  .seq (.reg 0 [⟨some 2, .asg (.c (.int .u8 0)), none⟩] false [0])
  (F_ops_own_p2)
def F_ops_own : AFun := { nt := 5, res := [.t 2], code := (F_ops_own_p3) }

/-- mandrel/ops.reckoned -/
def F_ops_reckoned_p1 : ACode :=
  .cond (.t 48) (.seq (.reg 1 [⟨some 54, .mov (.t 3), none⟩, ⟨some 55, .mov (.t 3), none⟩, ⟨some 56, .bslice 0 50 [.int .u8 0] 2 [(0, .t 54), (1, .t 55)], none⟩, ⟨some 57, .build 43 [.nils, .int .u8 0] [(0, 0, 1, .t 56), (1, 1, 1, .c (.int .u8 127))], none⟩, ⟨none, .store 43 2 (.t 2) (.t 57), none⟩] false [2])
                 (.ret)) (.skip)
def F_ops_reckoned_p2 : ACode :=
  .cond (.t 33) (.seq (.reg 1 [⟨some 44, .mov (.t 3), none⟩, ⟨some 45, .bslice 0 50 [.int .u8 0] 1 [(0, .t 44)], none⟩, ⟨some 46, .mov (.t 3), none⟩, ⟨some 47, .build 43 [.nils, .int .u8 0] [(0, 0, 1, .t 45), (1, 1, 1, .t 46)], none⟩, ⟨none, .store 43 2 (.t 2) (.t 47), none⟩] false [2])
               (.ret)) (.seq (.reg 0 [⟨some 49, .mov (.t 5), none⟩, ⟨some 50, .slcS 39 (.t 49) none (some (.c (.int .i64 2))), none⟩, ⟨some 51, .bin .add .other 39 (.c (.str ⟨#[32]⟩)) (.t 50), none⟩, ⟨some 52, .bin .add .other 39 (.t 51) (.c (.str ⟨#[32]⟩)), none⟩, ⟨some 53, .callp 99 [.c (.str ⟨#[32, 101, 113, 32, 110, 101, 32, 108, 116, 32, 103, 116, 32, 108, 101, 32, 103, 101, 32]⟩), .t 52], none⟩, ⟨some 48, .asg (.t 53), none⟩] false [2, 3, 48])
               (F_ops_reckoned_p1))
def F_ops_reckoned_p3 : ACode :=
  .cond (.t 27) (.seq (.reg 1 [⟨some 30, .mov (.t 3), none⟩, ⟨some 31, .bslice 0 50 [.int .u8 0] 1 [(0, .t 30)], none⟩, ⟨some 32, .build 43 [.nils, .int .u8 0] [(0, 0, 1, .t 31), (1, 1, 1, .c (.int .u8 127))], none⟩, ⟨none, .store 43 2 (.t 2) (.t 32), none⟩] false [2])
             (.ret)) (.seq (.reg 0 [⟨some 34, .mov (.t 5), none⟩, ⟨some 35, .bin .eql .other 39 (.t 34) (.c (.str ⟨#[99, 108, 122]⟩)), none⟩, ⟨some 36, .mov (.t 35), none⟩, ⟨some 37, .mov (.t 5), some (2, 36, false)⟩, ⟨some 38, .bin .eql .other 39 (.t 37) (.c (.str ⟨#[99, 116, 122]⟩)), some (2, 36, false)⟩, ⟨some 39, .pick (.t 36) (.c (.bool true)) (.t 38), none⟩, ⟨some 40, .mov (.t 39), none⟩, ⟨some 41, .mov (.t 5), some (6, 40, false)⟩, ⟨some 42, .bin .eql .other 39 (.t 41) (.c (.str ⟨#[112, 111, 112, 99, 110, 116]⟩)), some (6, 40, false)⟩, ⟨some 43, .pick (.t 40) (.c (.bool true)) (.t 42), none⟩, ⟨some 33, .asg (.t 43), none⟩] false [2, 3, 5, 33])
             (F_ops_reckoned_p2))
def F_ops_reckoned_p4 : ACode :=
  .cond (.t 21) (.seq (.reg 1 [⟨some 24, .bslice 0 50 [.int .u8 0] 1 [(0, .c (.int .u8 127))], none⟩, ⟨some 25, .mov (.t 3), none⟩, ⟨some 26, .build 43 [.nils, .int .u8 0] [(0, 0, 1, .t 24), (1, 1, 1, .t 25)], none⟩, ⟨none, .store 43 2 (.t 2) (.t 26), none⟩] false [2])
           (.ret)) (.seq (.reg 0 [⟨some 28, .mov (.t 5), none⟩, ⟨some 29, .bin .eql .other 39 (.t 28) (.c (.str ⟨#[101, 113, 122]⟩)), none⟩, ⟨some 27, .asg (.t 29), none⟩] false [2, 3, 5, 27])
           (F_ops_reckoned_p3))
def F_ops_reckoned_p5 : ACode :=
  .cond (.t 15) (.seq (.reg 1 [⟨some 18, .bslice 0 50 [.int .u8 0] 1 [(0, .c (.int .u8 126))], none⟩, ⟨some 19, .mov (.t 3), none⟩, ⟨some 20, .build 43 [.nils, .int .u8 0] [(0, 0, 1, .t 18), (1, 1, 1, .t 19)], none⟩, ⟨none, .store 43 2 (.t 2) (.t 20), none⟩] false [2])
         (.ret)) (.seq (.reg 0 [⟨some 22, .mov (.t 5), none⟩, ⟨some 23, .callp 99 [.t 22, .c (.str ⟨#[101, 120, 116, 101, 110, 100]⟩)], none⟩, ⟨some 21, .asg (.t 23), none⟩] false [2, 3, 5, 21])
         (F_ops_reckoned_p4))
def F_ops_reckoned_p6 : ACode :=
  .seq (.reg 1 [⟨some 58, .mov (.t 3), none⟩, ⟨some 59, .mov (.t 3), none⟩, ⟨some 60, .bslice 0 50 [.int .u8 0] 2 [(0, .t 58), (1, .t 59)], none⟩, ⟨some 61, .mov (.t 3), none⟩, ⟨some 62, .build 43 [.nils, .int .u8 0] [(0, 0, 1, .t 60), (1, 1, 1, .t 61)], none⟩, ⟨none, .store 43 2 (.t 2) (.t 62), none⟩] false [2])
      (.ret)
def F_ops_reckoned_p7 : ACode :=
  .seq (.block 0 (.seq (.reg 0 [⟨some 16, .mov (.t 0), none⟩, ⟨some 17, .callp 93 [.t 16, .c (.str ⟨#[95, 105, 54, 52]⟩)], none⟩, ⟨some 15, .asg (.t 17), none⟩] false [2, 3, 5, 15])
       (F_ops_reckoned_p5)))
     (F_ops_reckoned_p6)
def F_ops_reckoned_p8 : ACode :=
  .seq (.reg 0 [⟨some 10, .mov (.t 0), none⟩, ⟨some 11, .callp 98 [.t 10, .c (.str ⟨#[46]⟩)], none⟩, ⟨some 9, .mov (.t 11), none⟩, ⟨some 12, .ext (.t 9) 0, none⟩, ⟨some 13, .ext (.t 9) 1, none⟩, ⟨some 14, .ext (.t 9) 2, none⟩, ⟨some 4, .asg (.t 12), none⟩, ⟨some 5, .asg (.t 13), none⟩, ⟨some 6, .asg (.t 14), none⟩] false [0, 2, 3, 5])
    (F_ops_reckoned_p7)
def F_ops_reckoned_p9 : ACode :=
  .seq (.reg 0 [⟨some 7, .mov (.t 0), none⟩, ⟨some 8, .callp 89 [.t 7], none⟩, ⟨some 3, .asg (.t 8), none⟩] false [0, 2, 3])
   (F_ops_reckoned_p8)
def F_ops_reckoned_p10 : ACode :=
  .seq (.reg 1 [⟨some 2, .alloc 0 43 [.nils, .int .u8 0], none⟩] false [0, 2])
  (F_ops_reckoned_p9)
def F_ops_reckoned : AFun := { nt := 63, res := [.cell 2 43 true 2], code := (F_ops_reckoned_p10) }

/-- strings.CutSuffix -/
def F_strings_CutSuffix_p1 : ACode :=
  .seq (.reg 0 [⟨some 6, .mov (.t 0), none⟩, ⟨some 7, .mov (.t 1), none⟩, ⟨some 8, .callp 100 [.t 6, .t 7], none⟩, ⟨some 9, .ext (.t 8) 0, none⟩, ⟨some 10, .ext (.t 8) 1, none⟩, ⟨some 4, .asg (.t 9), none⟩, ⟨some 5, .asg (.t 10), none⟩] false [4, 5])
   (.ret)
def F_strings_CutSuffix_p2 : ACode :=
  .seq (.reg 0 [⟨some 4, .asg (.c (.str ⟨#[]⟩)), none⟩, ⟨some 5, .asg (.c (.bool false)), none⟩] false [0, 1])
  (F_strings_CutSuffix_p1)
def F_strings_CutSuffix : AFun := { nt := 11, res := [.t 4, .t 5], code := (F_strings_CutSuffix_p2) }

/-- strings.TrimSuffix -/
def F_strings_TrimSuffix_p1 : ACode :=
  .seq (.reg 0 [⟨some 5, .mov (.t 0), none⟩, ⟨some 6, .mov (.t 1), none⟩, ⟨some 7, .callp 101 [.t 5, .t 6], none⟩, ⟨some 4, .asg (.t 7), none⟩] false [4])
   (.ret)
def F_strings_TrimSuffix_p2 : ACode :=
  .seq (.reg 0 [⟨some 4, .asg (.c (.str ⟨#[]⟩)), none⟩] false [0, 1])
  (F_strings_TrimSuffix_p1)
def F_strings_TrimSuffix : AFun := { nt := 8, res := [.t 4], code := (F_strings_TrimSuffix_p2) }

/-- strings.HasSuffix -/
def F_strings_HasSuffix_p1 : ACode :=
  .seq (.reg 0 [⟨some 5, .mov (.t 0), none⟩, ⟨some 6, .mov (.t 1), none⟩, ⟨some 7, .callp 102 [.t 5, .t 6], none⟩, ⟨some 4, .asg (.t 7), none⟩] false [4])
   (.ret)
def F_strings_HasSuffix_p2 : ACode :=
  .seq (.reg 0 [⟨some 4, .asg (.c (.bool false)), none⟩] false [0, 1])
  (F_strings_HasSuffix_p1)
def F_strings_HasSuffix : AFun := { nt := 8, res := [.t 4], code := (F_strings_HasSuffix_p2) }

/-- mandrel/ops.names -/
def F_ops_names_p1 : ACode :=
  .seq (.reg 0 [⟨some 1, .build 62 [.str ⟨#[]⟩, .str ⟨#[]⟩, .str ⟨#[]⟩, .str ⟨#[]⟩, .str ⟨#[]⟩, .str ⟨#[]⟩, .str ⟨#[]⟩, .str ⟨#[]⟩, .str ⟨#[]⟩, .str ⟨#[]⟩, .str ⟨#[]⟩, .str ⟨#[]⟩, .str ⟨#[]⟩, .str ⟨#[]⟩, .str ⟨#[]⟩, .str ⟨#[]⟩, .str ⟨#[]⟩, .str ⟨#[]⟩, .str ⟨#[]⟩, .str ⟨#[]⟩, .str ⟨#[]⟩, .str ⟨#[]⟩, .str ⟨#[]⟩, .str ⟨#[]⟩, .str ⟨#[]⟩, .str ⟨#[]⟩, .str ⟨#[]⟩, .str ⟨#[]⟩, .str ⟨#[]⟩, .str ⟨#[]⟩, .str ⟨#[]⟩, .str ⟨#[]⟩, .str ⟨#[]⟩, .str ⟨#[]⟩, .str ⟨#[]⟩, .str ⟨#[]⟩, .str ⟨#[]⟩, .str ⟨#[]⟩, .str ⟨#[]⟩, .str ⟨#[]⟩, .str ⟨#[]⟩, .str ⟨#[]⟩, .str ⟨#[]⟩, .str ⟨#[]⟩, .str ⟨#[]⟩, .str ⟨#[]⟩, .str ⟨#[]⟩, .str ⟨#[]⟩, .str ⟨#[]⟩, .str ⟨#[]⟩, .str ⟨#[]⟩, .str ⟨#[]⟩, .str ⟨#[]⟩, .str ⟨#[]⟩, .str ⟨#[]⟩, .str ⟨#[]⟩, .str ⟨#[]⟩, .str ⟨#[]⟩, .str ⟨#[]⟩, .str ⟨#[]⟩, .str ⟨#[]⟩, .str ⟨#[]⟩, .str ⟨#[]⟩, .str ⟨#[]⟩, .str ⟨#[]⟩, .str ⟨#[]⟩, .str ⟨#[]⟩, .str ⟨#[]⟩, .str ⟨#[]⟩, .str ⟨#[]⟩, .str ⟨#[]⟩, .str ⟨#[]⟩, .str ⟨#[]⟩, .str ⟨#[]⟩, .str ⟨#[]⟩, .str ⟨#[]⟩, .str ⟨#[]⟩, .str ⟨#[]⟩, .str ⟨#[]⟩, .str ⟨#[]⟩, .str ⟨#[]⟩, .str ⟨#[]⟩, .str ⟨#[]⟩, .str ⟨#[]⟩, .str ⟨#[]⟩, .str ⟨#[]⟩, .str ⟨#[]⟩, .str ⟨#[]⟩, .str ⟨#[]⟩, .str ⟨#[]⟩, .str ⟨#[]⟩, .str ⟨#[]⟩, .str ⟨#[]⟩, .str ⟨#[]⟩, .str ⟨#[]⟩, .str ⟨#[]⟩, .str ⟨#[]⟩, .str ⟨#[]⟩, .str ⟨#[]⟩, .str ⟨#[]⟩, .str ⟨#[]⟩, .str ⟨#[]⟩, .str ⟨#[]⟩, .str ⟨#[]⟩, .str ⟨#[]⟩, .str ⟨#[]⟩, .str ⟨#[]⟩, .str ⟨#[]⟩, .str ⟨#[]⟩, .str ⟨#[]⟩, .str ⟨#[]⟩, .str ⟨#[]⟩, .str ⟨#[]⟩, .str ⟨#[]⟩, .str ⟨#[]⟩, .str ⟨#[]⟩, .str ⟨#[]⟩, .str ⟨#[]⟩, .str ⟨#[]⟩, .str ⟨#[]⟩, .str ⟨#[]⟩, .str ⟨#[]⟩, .str ⟨#[]⟩, .str ⟨#[]⟩, .str ⟨#[]⟩, .str ⟨#[]⟩, .str ⟨#[]⟩, .str ⟨#[]⟩, .str ⟨#[]⟩, .str ⟨#[]⟩, .str ⟨#[]⟩, .str ⟨#[]⟩, .str ⟨#[]⟩, .str ⟨#[]⟩, .str ⟨#[]⟩, .str ⟨#[]⟩, .str ⟨#[]⟩, .str ⟨#[]⟩, .str ⟨#[]⟩, .str ⟨#[]⟩, .str ⟨#[]⟩, .str ⟨#[]⟩, .str ⟨#[]⟩, .str ⟨#[]⟩, .str ⟨#[]⟩, .str ⟨#[]⟩, .str ⟨#[]⟩, .str ⟨#[]⟩, .str ⟨#[]⟩, .str ⟨#[]⟩, .str ⟨#[]⟩, .str ⟨#[]⟩, .str ⟨#[]⟩, .str ⟨#[]⟩, .str ⟨#[]⟩, .str ⟨#[]⟩, .str ⟨#[]⟩, .str ⟨#[]⟩, .str ⟨#[]⟩, .str ⟨#[]⟩, .str ⟨#[]⟩, .str ⟨#[]⟩, .str ⟨#[]⟩, .str ⟨#[]⟩, .str ⟨#[]⟩, .str ⟨#[]⟩, .str ⟨#[]⟩, .str ⟨#[]⟩, .str ⟨#[]⟩, .str ⟨#[]⟩, .str ⟨#[]⟩, .str ⟨#[]⟩, .str ⟨#[]⟩, .str ⟨#[]⟩] [(0, 0, 1, .c (.str ⟨#[117, 110, 114, 101, 97, 99, 104, 97, 98, 108, 101]⟩)), (1, 1, 1, .c (.str ⟨#[110, 111, 112]⟩)), (2, 2, 1, .c (.str ⟨#[98, 108, 111, 99, 107]⟩)), (3, 3, 1, .c (.str ⟨#[108, 111, 111, 112]⟩)), (4, 4, 1, .c (.str ⟨#[105, 102]⟩)), (12, 12, 1, .c (.str ⟨#[98, 114]⟩)), (13, 13, 1, .c (.str ⟨#[98, 114, 95, 105, 102]⟩)), (14, 14, 1, .c (.str ⟨#[98, 114, 95, 116, 97, 98, 108, 101]⟩)), (15, 15, 1, .c (.str ⟨#[114, 101, 116, 117, 114, 110]⟩)), (16, 16, 1, .c (.str ⟨#[99, 97, 108, 108]⟩)), (17, 17, 1, .c (.str ⟨#[99, 97, 108, 108, 95, 105, 110, 100, 105, 114, 101, 99, 116]⟩)), (26, 26, 1, .c (.str ⟨#[100, 114, 111, 112]⟩)), (27, 27, 1, .c (.str ⟨#[115, 101, 108, 101, 99, 116]⟩)), (32, 32, 1, .c (.str ⟨#[108, 111, 99, 97, 108, 46, 103, 101, 116]⟩)), (33, 33, 1, .c (.str ⟨#[108, 111, 99, 97, 108, 46, 115, 101, 116]⟩)), (34, 34, 1, .c (.str ⟨#[108, 111, 99, 97, 108, 46, 116, 101, 101]⟩)), (35, 35, 1, .c (.str ⟨#[103, 108, 111, 98, 97, 108, 46, 103, 101, 116]⟩)), (36, 36, 1, .c (.str ⟨#[103, 108, 111, 98, 97, 108, 46, 115, 101, 116]⟩)), (40, 40, 1, .c (.str ⟨#[105, 51, 50, 46, 108, 111, 97, 100]⟩)), (41, 41, 1, .c (.str ⟨#[105, 54, 52, 46, 108, 111, 97, 100]⟩)), (44, 44, 1, .c (.str ⟨#[105, 51, 50, 46, 108, 111, 97, 100, 56, 95, 115]⟩)), (45, 45, 1, .c (.str ⟨#[105, 51, 50, 46, 108, 111, 97, 100, 56, 95, 117]⟩)), (46, 46, 1, .c (.str ⟨#[105, 51, 50, 46, 108, 111, 97, 100, 49, 54, 95, 115]⟩)), (47, 47, 1, .c (.str ⟨#[105, 51, 50, 46, 108, 111, 97, 100, 49, 54, 95, 117]⟩)), (48, 48, 1, .c (.str ⟨#[105, 54, 52, 46, 108, 111, 97, 100, 56, 95, 115]⟩)), (49, 49, 1, .c (.str ⟨#[105, 54, 52, 46, 108, 111, 97, 100, 56, 95, 117]⟩)), (50, 50, 1, .c (.str ⟨#[105, 54, 52, 46, 108, 111, 97, 100, 49, 54, 95, 115]⟩)), (51, 51, 1, .c (.str ⟨#[105, 54, 52, 46, 108, 111, 97, 100, 49, 54, 95, 117]⟩)), (52, 52, 1, .c (.str ⟨#[105, 54, 52, 46, 108, 111, 97, 100, 51, 50, 95, 115]⟩)), (53, 53, 1, .c (.str ⟨#[105, 54, 52, 46, 108, 111, 97, 100, 51, 50, 95, 117]⟩)), (54, 54, 1, .c (.str ⟨#[105, 51, 50, 46, 115, 116, 111, 114, 101]⟩)), (55, 55, 1, .c (.str ⟨#[105, 54, 52, 46, 115, 116, 111, 114, 101]⟩)), (58, 58, 1, .c (.str ⟨#[105, 51, 50, 46, 115, 116, 111, 114, 101, 56]⟩)), (59, 59, 1, .c (.str ⟨#[105, 51, 50, 46, 115, 116, 111, 114, 101, 49, 54]⟩)), (60, 60, 1, .c (.str ⟨#[105, 54, 52, 46, 115, 116, 111, 114, 101, 56]⟩)), (61, 61, 1, .c (.str ⟨#[105, 54, 52, 46, 115, 116, 111, 114, 101, 49, 54]⟩)), (62, 62, 1, .c (.str ⟨#[105, 54, 52, 46, 115, 116, 111, 114, 101, 51, 50]⟩)), (63, 63, 1, .c (.str ⟨#[109, 101, 109, 111, 114, 121, 46, 115, 105, 122, 101]⟩)), (64, 64, 1, .c (.str ⟨#[109, 101, 109, 111, 114, 121, 46, 103, 114, 111, 119]⟩)), (65, 65, 1, .c (.str ⟨#[105, 51, 50, 46, 99, 111, 110, 115, 116]⟩)), (66, 66, 1, .c (.str ⟨#[105, 54, 52, 46, 99, 111, 110, 115, 116]⟩)), (69, 69, 1, .c (.str ⟨#[105, 51, 50, 46, 101, 113, 122]⟩)), (70, 70, 1, .c (.str ⟨#[105, 51, 50, 46, 101, 113]⟩)), (71, 71, 1, .c (.str ⟨#[105, 51, 50, 46, 110, 101]⟩)), (72, 72, 1, .c (.str ⟨#[105, 51, 50, 46, 108, 116, 95, 115]⟩)), (73, 73, 1, .c (.str ⟨#[105, 51, 50, 46, 108, 116, 95, 117]⟩)), (74, 74, 1, .c (.str ⟨#[105, 51, 50, 46, 103, 116, 95, 115]⟩)), (75, 75, 1, .c (.str ⟨#[105, 51, 50, 46, 103, 116, 95, 117]⟩)), (76, 76, 1, .c (.str ⟨#[105, 51, 50, 46, 108, 101, 95, 115]⟩)), (77, 77, 1, .c (.str ⟨#[105, 51, 50, 46, 108, 101, 95, 117]⟩)), (78, 78, 1, .c (.str ⟨#[105, 51, 50, 46, 103, 101, 95, 115]⟩)), (79, 79, 1, .c (.str ⟨#[105, 51, 50, 46, 103, 101, 95, 117]⟩)), (80, 80, 1, .c (.str ⟨#[105, 54, 52, 46, 101, 113, 122]⟩)), (81, 81, 1, .c (.str ⟨#[105, 54, 52, 46, 101, 113]⟩)), (82, 82, 1, .c (.str ⟨#[105, 54, 52, 46, 110, 101]⟩)), (83, 83, 1, .c (.str ⟨#[105, 54, 52, 46, 108, 116, 95, 115]⟩)), (84, 84, 1, .c (.str ⟨#[105, 54, 52, 46, 108, 116, 95, 117]⟩)), (85, 85, 1, .c (.str ⟨#[105, 54, 52, 46, 103, 116, 95, 115]⟩)), (86, 86, 1, .c (.str ⟨#[105, 54, 52, 46, 103, 116, 95, 117]⟩)), (87, 87, 1, .c (.str ⟨#[105, 54, 52, 46, 108, 101, 95, 115]⟩)), (88, 88, 1, .c (.str ⟨#[105, 54, 52, 46, 108, 101, 95, 117]⟩)), (89, 89, 1, .c (.str ⟨#[105, 54, 52, 46, 103, 101, 95, 115]⟩)), (90, 90, 1, .c (.str ⟨#[105, 54, 52, 46, 103, 101, 95, 117]⟩)), (103, 103, 1, .c (.str ⟨#[105, 51, 50, 46, 99, 108, 122]⟩)), (104, 104, 1, .c (.str ⟨#[105, 51, 50, 46, 99, 116, 122]⟩)), (105, 105, 1, .c (.str ⟨#[105, 51, 50, 46, 112, 111, 112, 99, 110, 116]⟩)), (106, 106, 1, .c (.str ⟨#[105, 51, 50, 46, 97, 100, 100]⟩)), (107, 107, 1, .c (.str ⟨#[105, 51, 50, 46, 115, 117, 98]⟩)), (108, 108, 1, .c (.str ⟨#[105, 51, 50, 46, 109, 117, 108]⟩)), (109, 109, 1, .c (.str ⟨#[105, 51, 50, 46, 100, 105, 118, 95, 115]⟩)), (110, 110, 1, .c (.str ⟨#[105, 51, 50, 46, 100, 105, 118, 95, 117]⟩)), (111, 111, 1, .c (.str ⟨#[105, 51, 50, 46, 114, 101, 109, 95, 115]⟩)), (112, 112, 1, .c (.str ⟨#[105, 51, 50, 46, 114, 101, 109, 95, 117]⟩)), (113, 113, 1, .c (.str ⟨#[105, 51, 50, 46, 97, 110, 100]⟩)), (114, 114, 1, .c (.str ⟨#[105, 51, 50, 46, 111, 114]⟩)), (115, 115, 1, .c (.str ⟨#[105, 51, 50, 46, 120, 111, 114]⟩)), (116, 116, 1, .c (.str ⟨#[105, 51, 50, 46, 115, 104, 108]⟩)), (117, 117, 1, .c (.str ⟨#[105, 51, 50, 46, 115, 104, 114, 95, 115]⟩)), (118, 118, 1, .c (.str ⟨#[105, 51, 50, 46, 115, 104, 114, 95, 117]⟩)), (119, 119, 1, .c (.str ⟨#[105, 51, 50, 46, 114, 111, 116, 108]⟩)), (120, 120, 1, .c (.str ⟨#[105, 51, 50, 46, 114, 111, 116, 114]⟩)), (121, 121, 1, .c (.str ⟨#[105, 54, 52, 46, 99, 108, 122]⟩)), (122, 122, 1, .c (.str ⟨#[105, 54, 52, 46, 99, 116, 122]⟩)), (123, 123, 1, .c (.str ⟨#[105, 54, 52, 46, 112, 111, 112, 99, 110, 116]⟩)), (124, 124, 1, .c (.str ⟨#[105, 54, 52, 46, 97, 100, 100]⟩)), (125, 125, 1, .c (.str ⟨#[105, 54, 52, 46, 115, 117, 98]⟩)), (126, 126, 1, .c (.str ⟨#[105, 54, 52, 46, 109, 117, 108]⟩)), (127, 127, 1, .c (.str ⟨#[105, 54, 52, 46, 100, 105, 118, 95, 115]⟩)), (128, 128, 1, .c (.str ⟨#[105, 54, 52, 46, 100, 105, 118, 95, 117]⟩)), (129, 129, 1, .c (.str ⟨#[105, 54, 52, 46, 114, 101, 109, 95, 115]⟩)), (130, 130, 1, .c (.str ⟨#[105, 54, 52, 46, 114, 101, 109, 95, 117]⟩)), (131, 131, 1, .c (.str ⟨#[105, 54, 52, 46, 97, 110, 100]⟩)), (132, 132, 1, .c (.str ⟨#[105, 54, 52, 46, 111, 114]⟩)), (133, 133, 1, .c (.str ⟨#[105, 54, 52, 46, 120, 111, 114]⟩)), (134, 134, 1, .c (.str ⟨#[105, 54, 52, 46, 115, 104, 108]⟩)), (135, 135, 1, .c (.str ⟨#[105, 54, 52, 46, 115, 104, 114, 95, 115]⟩)), (136, 136, 1, .c (.str ⟨#[105, 54, 52, 46, 115, 104, 114, 95, 117]⟩)), (137, 137, 1, .c (.str ⟨#[105, 54, 52, 46, 114, 111, 116, 108]⟩)), (138, 138, 1, .c (.str ⟨#[105, 54, 52, 46, 114, 111, 116, 114]⟩)), (167, 167, 1, .c (.str ⟨#[105, 51, 50, 46, 119, 114, 97, 112, 95, 105, 54, 52]⟩)), (172, 172, 1, .c (.str ⟨#[105, 54, 52, 46, 101, 120, 116, 101, 110, 100, 95, 105, 51, 50, 95, 115]⟩)), (173, 173, 1, .c (.str ⟨#[105, 54, 52, 46, 101, 120, 116, 101, 110, 100, 95, 105, 51, 50, 95, 117]⟩))], none⟩, ⟨none, .store 62 174 (.t 0) (.t 1), none⟩] false [0])
   (.ret)
def F_ops_names_p2 : ACode :=
  .seq (.reg 1 [⟨some 0, .alloc 0 62 [.str ⟨#[]⟩, .str ⟨#[]⟩, .str ⟨#[]⟩, .str ⟨#[]⟩, .str ⟨#[]⟩, .str ⟨#[]⟩, .str ⟨#[]⟩, .str ⟨#[]⟩, .str ⟨#[]⟩, .str ⟨#[]⟩, .str ⟨#[]⟩, .str ⟨#[]⟩, .str ⟨#[]⟩, .str ⟨#[]⟩, .str ⟨#[]⟩, .str ⟨#[]⟩, .str ⟨#[]⟩, .str ⟨#[]⟩, .str ⟨#[]⟩, .str ⟨#[]⟩, .str ⟨#[]⟩, .str ⟨#[]⟩, .str ⟨#[]⟩, .str ⟨#[]⟩, .str ⟨#[]⟩, .str ⟨#[]⟩, .str ⟨#[]⟩, .str ⟨#[]⟩, .str ⟨#[]⟩, .str ⟨#[]⟩, .str ⟨#[]⟩, .str ⟨#[]⟩, .str ⟨#[]⟩, .str ⟨#[]⟩, .str ⟨#[]⟩, .str ⟨#[]⟩, .str ⟨#[]⟩, .str ⟨#[]⟩, .str ⟨#[]⟩, .str ⟨#[]⟩, .str ⟨#[]⟩, .str ⟨#[]⟩, .str ⟨#[]⟩, .str ⟨#[]⟩, .str ⟨#[]⟩, .str ⟨#[]⟩, .str ⟨#[]⟩, .str ⟨#[]⟩, .str ⟨#[]⟩, .str ⟨#[]⟩, .str ⟨#[]⟩, .str ⟨#[]⟩, .str ⟨#[]⟩, .str ⟨#[]⟩, .str ⟨#[]⟩, .str ⟨#[]⟩, .str ⟨#[]⟩, .str ⟨#[]⟩, .str ⟨#[]⟩, .str ⟨#[]⟩, .str ⟨#[]⟩, .str ⟨#[]⟩, .str ⟨#[]⟩, .str ⟨#[]⟩, .str ⟨#[]⟩, .str ⟨#[]⟩, .str ⟨#[]⟩, .str ⟨#[]⟩, .str ⟨#[]⟩, .str ⟨#[]⟩, .str ⟨#[]⟩, .str ⟨#[]⟩, .str ⟨#[]⟩, .str ⟨#[]⟩, .str ⟨#[]⟩, .str ⟨#[]⟩, .str ⟨#[]⟩, .str ⟨#[]⟩, .str ⟨#[]⟩, .str ⟨#[]⟩, .str ⟨#[]⟩, .str ⟨#[]⟩, .str ⟨#[]⟩, .str ⟨#[]⟩, .str ⟨#[]⟩, .str ⟨#[]⟩, .str ⟨#[]⟩, .str ⟨#[]⟩, .str ⟨#[]⟩, .str ⟨#[]⟩, .str ⟨#[]⟩, .str ⟨#[]⟩, .str ⟨#[]⟩, .str ⟨#[]⟩, .str ⟨#[]⟩, .str ⟨#[]⟩, .str ⟨#[]⟩, .str ⟨#[]⟩, .str ⟨#[]⟩, .str ⟨#[]⟩, .str ⟨#[]⟩, .str ⟨#[]⟩, .str ⟨#[]⟩, .str ⟨#[]⟩, .str ⟨#[]⟩, .str ⟨#[]⟩, .str ⟨#[]⟩, .str ⟨#[]⟩, .str ⟨#[]⟩, .str ⟨#[]⟩, .str ⟨#[]⟩, .str ⟨#[]⟩, .str ⟨#[]⟩, .str ⟨#[]⟩, .str ⟨#[]⟩, .str ⟨#[]⟩, .str ⟨#[]⟩, .str ⟨#[]⟩, .str ⟨#[]⟩, .str ⟨#[]⟩, .str ⟨#[]⟩, .str ⟨#[]⟩, .str ⟨#[]⟩, .str ⟨#[]⟩, .str ⟨#[]⟩, .str ⟨#[]⟩, .str ⟨#[]⟩, .str ⟨#[]⟩, .str ⟨#[]⟩, .str ⟨#[]⟩, .str ⟨#[]⟩, .str ⟨#[]⟩, .str ⟨#[]⟩, .str ⟨#[]⟩, .str ⟨#[]⟩, .str ⟨#[]⟩, .str ⟨#[]⟩, .str ⟨#[]⟩, .str ⟨#[]⟩, .str ⟨#[]⟩, .str ⟨#[]⟩, .str ⟨#[]⟩, .str ⟨#[]⟩, .str ⟨#[]⟩, .str ⟨#[]⟩, .str ⟨#[]⟩, .str ⟨#[]⟩, .str ⟨#[]⟩, .str ⟨#[]⟩, .str ⟨#[]⟩, .str ⟨#[]⟩, .str ⟨#[]⟩, .str ⟨#[]⟩, .str ⟨#[]⟩, .str ⟨#[]⟩, .str ⟨#[]⟩, .str ⟨#[]⟩, .str ⟨#[]⟩, .str ⟨#[]⟩, .str ⟨#[]⟩, .str ⟨#[]⟩, .str ⟨#[]⟩, .str ⟨#[]⟩, .str ⟨#[]⟩, .str ⟨#[]⟩, .str ⟨#[]⟩, .str ⟨#[]⟩, .str ⟨#[]⟩, .str ⟨#[]⟩, .str ⟨#[]⟩, .str ⟨#[]⟩, .str ⟨#[]⟩, .str ⟨#[]⟩, .str ⟨#[]⟩], none⟩] false [0])
  (F_ops_names_p1)
def F_ops_names : AFun := { nt := 2, res := [.cell 0 62 true 174], code := (F_ops_names_p2) }

/-- strings.HasPrefix -/
def F_strings_HasPrefix_p1 : ACode :=
  .seq (.reg 0 [⟨some 5, .mov (.t 0), none⟩, ⟨some 6, .mov (.t 1), none⟩, ⟨some 7, .callp 103 [.t 5, .t 6], none⟩, ⟨some 4, .asg (.t 7), none⟩] false [4])
   (.ret)
def F_strings_HasPrefix_p2 : ACode :=
  .seq (.reg 0 [⟨some 4, .asg (.c (.bool false)), none⟩] false [0, 1])
  (F_strings_HasPrefix_p1)
def F_strings_HasPrefix : AFun := { nt := 8, res := [.t 4], code := (F_strings_HasPrefix_p2) }

/-- strings.Cut -/
def F_strings_Cut_p1 : ACode :=
  .seq (.reg 0 [⟨some 7, .mov (.t 0), none⟩, ⟨some 8, .mov (.t 1), none⟩, ⟨some 9, .callp 104 [.t 7, .t 8], none⟩, ⟨some 10, .ext (.t 9) 0, none⟩, ⟨some 11, .ext (.t 9) 1, none⟩, ⟨some 12, .ext (.t 9) 2, none⟩, ⟨some 4, .asg (.t 10), none⟩, ⟨some 5, .asg (.t 11), none⟩, ⟨some 6, .asg (.t 12), none⟩] false [4, 5, 6])
   (.ret)
def F_strings_Cut_p2 : ACode :=
  .seq (.reg 0 [⟨some 4, .asg (.c (.str ⟨#[]⟩)), none⟩, ⟨some 5, .asg (.c (.str ⟨#[]⟩)), none⟩, ⟨some 6, .asg (.c (.bool false)), none⟩] false [0, 1])
  (F_strings_Cut_p1)
def F_strings_Cut : AFun := { nt := 13, res := [.t 4, .t 5, .t 6], code := (F_strings_Cut_p2) }

/-- strings.Contains -/
def F_strings_Contains_p1 : ACode :=
  .seq (.reg 0 [⟨some 5, .mov (.t 0), none⟩, ⟨some 6, .mov (.t 1), none⟩, ⟨some 7, .callp 105 [.t 5, .t 6], none⟩, ⟨some 8, .bin .geq .other 2 (.t 7) (.c (.int .i64 0)), none⟩, ⟨some 4, .asg (.t 8), none⟩] false [4])
   (.ret)
def F_strings_Contains_p2 : ACode :=
  .seq (.reg 0 [⟨some 4, .asg (.c (.bool false)), none⟩] false [0, 1])
  (F_strings_Contains_p1)
def F_strings_Contains : AFun := { nt := 9, res := [.t 4], code := (F_strings_Contains_p2) }

/-- internal/stringslite.CutSuffix -/
def F_stringslite_CutSuffix_p1 : ACode :=
  .cond (.t 9) (.seq (.reg 0 [⟨some 10, .mov (.t 0), none⟩, ⟨some 4, .asg (.t 10), none⟩, ⟨some 5, .asg (.c (.bool false)), none⟩] false [4, 5])
      (.ret)) (.skip)
def F_stringslite_CutSuffix_p2 : ACode :=
  .seq (.reg 0 [⟨some 11, .mov (.t 0), none⟩, ⟨some 12, .mov (.t 0), none⟩, ⟨some 13, .lenS 39 (.t 12), none⟩, ⟨some 14, .mov (.t 1), none⟩, ⟨some 15, .lenS 39 (.t 14), none⟩, ⟨some 16, .bin .sub .other 2 (.t 13) (.t 15), none⟩, ⟨some 17, .slcS 39 (.t 11) none (some (.t 16)), none⟩, ⟨some 4, .asg (.t 17), none⟩, ⟨some 5, .asg (.c (.bool true)), none⟩] false [4, 5])
    (.ret)
def F_stringslite_CutSuffix_p3 : ACode :=
  .seq (.seq (.reg 0 [⟨some 6, .mov (.t 0), none⟩, ⟨some 7, .mov (.t 1), none⟩, ⟨some 8, .callp 102 [.t 6, .t 7], none⟩, ⟨some 9, .un .not (.t 8), none⟩] false [0, 1, 9])
    (F_stringslite_CutSuffix_p1))
   (F_stringslite_CutSuffix_p2)
def F_stringslite_CutSuffix_p4 : ACode :=
  .seq (.reg 0 [⟨some 4, .asg (.c (.str ⟨#[]⟩)), none⟩, ⟨some 5, .asg (.c (.bool false)), none⟩] false [0, 1])
  (F_stringslite_CutSuffix_p3)
def F_stringslite_CutSuffix : AFun := { nt := 18, res := [.t 4, .t 5], code := (F_stringslite_CutSuffix_p4) }

/-- internal/stringslite.TrimSuffix -/
def F_stringslite_TrimSuffix_p1 : ACode :=
  .cond (.t 7) (.seq (.reg 0 [⟨some 8, .mov (.t 0), none⟩, ⟨some 9, .mov (.t 0), none⟩, ⟨some 10, .lenS 39 (.t 9), none⟩, ⟨some 11, .mov (.t 1), none⟩, ⟨some 12, .lenS 39 (.t 11), none⟩, ⟨some 13, .bin .sub .other 2 (.t 10) (.t 12), none⟩, ⟨some 14, .slcS 39 (.t 8) none (some (.t 13)), none⟩, ⟨some 4, .asg (.t 14), none⟩] false [4])
      (.ret)) (.skip)
def F_stringslite_TrimSuffix_p2 : ACode :=
  .seq (.reg 0 [⟨some 15, .mov (.t 0), none⟩, ⟨some 4, .asg (.t 15), none⟩] false [4])
    (.ret)
def F_stringslite_TrimSuffix_p3 : ACode :=
  .seq (.seq (.reg 0 [⟨some 5, .mov (.t 0), none⟩, ⟨some 6, .mov (.t 1), none⟩, ⟨some 7, .callp 102 [.t 5, .t 6], none⟩] false [0, 1, 7])
    (F_stringslite_TrimSuffix_p1))
   (F_stringslite_TrimSuffix_p2)
def F_stringslite_TrimSuffix_p4 : ACode :=
  .seq (.reg 0 [⟨some 4, .asg (.c (.str ⟨#[]⟩)), none⟩] false [0, 1])
  (F_stringslite_TrimSuffix_p3)
def F_stringslite_TrimSuffix : AFun := { nt := 16, res := [.t 4], code := (F_stringslite_TrimSuffix_p4) }

/-- internal/stringslite.HasSuffix -/
def F_stringslite_HasSuffix_p1 : ACode :=
  .seq (.reg 0 [⟨some 5, .mov (.t 0), none⟩, ⟨some 6, .lenS 39 (.t 5), none⟩, ⟨some 7, .mov (.t 1), none⟩, ⟨some 8, .lenS 39 (.t 7), none⟩, ⟨some 9, .bin .geq .other 2 (.t 6) (.t 8), none⟩, ⟨some 10, .mov (.t 9), none⟩, ⟨some 11, .mov (.t 0), some (5, 10, true)⟩, ⟨some 12, .mov (.t 0), some (5, 10, true)⟩, ⟨some 13, .lenS 39 (.t 12), some (5, 10, true)⟩, ⟨some 14, .mov (.t 1), some (5, 10, true)⟩, ⟨some 15, .lenS 39 (.t 14), some (5, 10, true)⟩, ⟨some 16, .bin .sub .other 2 (.t 13) (.t 15), some (5, 10, true)⟩, ⟨some 17, .slcS 39 (.t 11) (some (.t 16)) none, some (5, 10, true)⟩, ⟨some 18, .mov (.t 1), some (5, 10, true)⟩, ⟨some 19, .bin .eql .other 39 (.t 17) (.t 18), some (5, 10, true)⟩, ⟨some 20, .pick (.t 10) (.t 19) (.c (.bool false)), none⟩, ⟨some 4, .asg (.t 20), none⟩] false [4])
   (.ret)
def F_stringslite_HasSuffix_p2 : ACode :=
  .seq (.reg 0 [⟨some 4, .asg (.c (.bool false)), none⟩] false [0, 1])
  (F_stringslite_HasSuffix_p1)
def F_stringslite_HasSuffix : AFun := { nt := 21, res := [.t 4], code := (F_stringslite_HasSuffix_p2) }

/-- internal/stringslite.HasPrefix -/
def F_stringslite_HasPrefix_p1 : ACode :=
  .seq (.reg 0 [⟨some 5, .mov (.t 0), none⟩, ⟨some 6, .lenS 39 (.t 5), none⟩, ⟨some 7, .mov (.t 1), none⟩, ⟨some 8, .lenS 39 (.t 7), none⟩, ⟨some 9, .bin .geq .other 2 (.t 6) (.t 8), none⟩, ⟨some 10, .mov (.t 9), none⟩, ⟨some 11, .mov (.t 0), some (5, 10, true)⟩, ⟨some 12, .mov (.t 1), some (5, 10, true)⟩, ⟨some 13, .lenS 39 (.t 12), some (5, 10, true)⟩, ⟨some 14, .slcS 39 (.t 11) none (some (.t 13)), some (5, 10, true)⟩, ⟨some 15, .mov (.t 1), some (5, 10, true)⟩, ⟨some 16, .bin .eql .other 39 (.t 14) (.t 15), some (5, 10, true)⟩, ⟨some 17, .pick (.t 10) (.t 16) (.c (.bool false)), none⟩, ⟨some 4, .asg (.t 17), none⟩] false [4])
   (.ret)
def F_stringslite_HasPrefix_p2 : ACode :=
  .seq (.reg 0 [⟨some 4, .asg (.c (.bool false)), none⟩] false [0, 1])
  (F_stringslite_HasPrefix_p1)
def F_stringslite_HasPrefix : AFun := { nt := 18, res := [.t 4], code := (F_stringslite_HasPrefix_p2) }

/-- internal/stringslite.Cut -/
def F_stringslite_Cut_p1 : ACode :=
  .cond (.t 12) (.seq (.reg 0 [⟨some 13, .mov (.t 0), none⟩, ⟨some 14, .mov (.t 7), none⟩, ⟨some 15, .slcS 39 (.t 13) none (some (.t 14)), none⟩, ⟨some 16, .mov (.t 0), none⟩, ⟨some 17, .mov (.t 7), none⟩, ⟨some 18, .mov (.t 1), none⟩, ⟨some 19, .lenS 39 (.t 18), none⟩, ⟨some 20, .bin .add .other 2 (.t 17) (.t 19), none⟩, ⟨some 21, .slcS 39 (.t 16) (some (.t 20)) none, none⟩, ⟨some 4, .asg (.t 15), none⟩, ⟨some 5, .asg (.t 21), none⟩, ⟨some 6, .asg (.c (.bool true)), none⟩] true [4, 5, 6])
       (.ret)) (.skip)
def F_stringslite_Cut_p2 : ACode :=
  .seq (.reg 0 [⟨some 11, .mov (.t 7), none⟩, ⟨some 12, .bin .geq .other 2 (.t 11) (.c (.int .i64 0)), none⟩] false [0, 1, 7, 12])
     (F_stringslite_Cut_p1)
def F_stringslite_Cut_p3 : ACode :=
  .seq (.reg 0 [⟨some 22, .mov (.t 0), none⟩, ⟨some 4, .asg (.t 22), none⟩, ⟨some 5, .asg (.c (.str ⟨#[]⟩)), none⟩, ⟨some 6, .asg (.c (.bool false)), none⟩] false [4, 5, 6])
    (.ret)
def F_stringslite_Cut_p4 : ACode :=
  .seq (.seq (.reg 0 [⟨some 8, .mov (.t 0), none⟩, ⟨some 9, .mov (.t 1), none⟩, ⟨some 10, .callp 106 [.t 8, .t 9], none⟩, ⟨some 7, .asg (.t 10), none⟩] false [0, 1, 7])
    (F_stringslite_Cut_p2))
   (F_stringslite_Cut_p3)
def F_stringslite_Cut_p5 : ACode :=
  .seq (.reg 0 [⟨some 4, .asg (.c (.str ⟨#[]⟩)), none⟩, ⟨some 5, .asg (.c (.str ⟨#[]⟩)), none⟩, ⟨some 6, .asg (.c (.bool false)), none⟩] false [0, 1])
  (F_stringslite_Cut_p4)
def F_stringslite_Cut : AFun := { nt := 23, res := [.t 4, .t 5, .t 6], code := (F_stringslite_Cut_p5) }

/-- strings.Index -/
def F_strings_Index_p1 : ACode :=
  .seq (.reg 0 [⟨some 5, .mov (.t 0), none⟩, ⟨some 6, .mov (.t 1), none⟩, ⟨some 7, .callp 106 [.t 5, .t 6], none⟩, ⟨some 4, .asg (.t 7), none⟩] false [4])
   (.ret)
def F_strings_Index_p2 : ACode :=
  .seq (.reg 0 [⟨some 4, .asg (.c (.int .i64 0)), none⟩] false [0, 1])
  (F_strings_Index_p1)
def F_strings_Index : AFun := { nt := 8, res := [.t 4], code := (F_strings_Index_p2) }

end Go.Proofs.YtablleokoifolaaGreatDoor

/- The seat: its numbers of types and functions, and that its functions are the abstract ones. Written by a program of this claim set (gen.py). -/
set_option maxRecDepth 100000
namespace Go.Proofs.YtablleokoifolaaGreatDoor
open Go

def tyL : List Nat := [30, 41, 3, 63, 58, 34, 66, 5, 44, 69, 55, 67, 4, 59, 71, 37, 73, 33, 35, 75, 36, 77, 38, 61, 79, 39, 81, 2, 22, 23, 24, 25, 26, 27, 28, 84, 54, 86, 88, 9, 90, 92, 94, 96, 99, 104, 111, 116, 113, 120, 64, 60, 126, 155, 129, 109, 20, 148, 21, 153, 139, 203, 213, 154]
def fnL : List Nat := [3, 9, 10, 11, 12, 13, 14, 15, 16, 17, 4, 18, 5, 6, 7, 8, 19, 20, 21, 22, 23, 25, 26, 27, 28, 29, 30, 31, 32, 24, 33, 34, 35, 36, 38, 37, 39, 40, 41, 42, 43, 44, 45, 46, 47, 48, 49, 50, 51, 56, 57, 58, 60, 59, 61, 63, 64, 65, 66, 67, 68, 69, 70, 71, 55, 72, 75, 76, 62, 77, 78, 79, 80, 81, 83, 82, 84, 85, 86, 87, 88, 89, 90, 91, 92, 93, 94, 95, 97, 98, 99, 100, 101, 102, 96, 103, 104, 105, 106, 107, 108, 109, 110, 111, 112, 113, 114, 115, 119, 117, 118, 120, 52, 53]
def errV : Value := .iface 170 (.agg #[.pointer (some ⟨2, 44, none⟩)])
noncomputable def E : Env := { P := Tryz.prog, ty := fun i => tyL.getD (i % 100000) 0, fn := fun i => fnL.getD i 0, gb := 2, gok := gokE errV, gkeep := gokE_keep errV }
def bodyOf (f : Func) : Code := match f.body with | some c => c | none => .skip

theorem mixed : E.P.follows .mixedOrders = true := by kernel_rfl

theorem fn_law08_ValidBodies : Fn E 10 F_law08_ValidBodies 3 := ⟨Tryz.f4, bodyOf Tryz.f4, Tryz.func4, by kernel_rfl, by kernel_rfl, by kernel_rfl, by decide, by kernel_rfl, by kernel_rfl, ⟨by kernel_rfl, by kernel_rfl, mixed⟩⟩
theorem fn_law08_bigModule : Fn E 1 F_law08_bigModule 1 := ⟨Tryz.f9, bodyOf Tryz.f9, Tryz.func9, by kernel_rfl, by kernel_rfl, by kernel_rfl, by decide, by kernel_rfl, by kernel_rfl, ⟨by kernel_rfl, by kernel_rfl, mixed⟩⟩
theorem fn_law08_sure : Fn E 2 F_law08_sure 0 := ⟨Tryz.f10, bodyOf Tryz.f10, Tryz.func10, by kernel_rfl, by kernel_rfl, by kernel_rfl, by decide, by kernel_rfl, by kernel_rfl, ⟨by kernel_rfl, by kernel_rfl, mixed⟩⟩
theorem fn_law08_giveModule : Fn E 3 F_law08_giveModule 1 := ⟨Tryz.f11, bodyOf Tryz.f11, Tryz.func11, by kernel_rfl, by kernel_rfl, by kernel_rfl, by decide, by kernel_rfl, by kernel_rfl, ⟨by kernel_rfl, by kernel_rfl, mixed⟩⟩
theorem fn_valid_Check : Fn E 4 F_valid_Check 1 := ⟨Tryz.f12, bodyOf Tryz.f12, Tryz.func12, by kernel_rfl, by kernel_rfl, by kernel_rfl, by decide, by kernel_rfl, by kernel_rfl, ⟨by kernel_rfl, by kernel_rfl, mixed⟩⟩
theorem fn_valid_Body : Fn E 6 F_valid_Body 2 := ⟨Tryz.f14, bodyOf Tryz.f14, Tryz.func14, by kernel_rfl, by kernel_rfl, by kernel_rfl, by decide, by kernel_rfl, by kernel_rfl, ⟨by kernel_rfl, by kernel_rfl, mixed⟩⟩
theorem fn_valid_Height : Fn E 7 F_valid_Height 2 := ⟨Tryz.f15, bodyOf Tryz.f15, Tryz.func15, by kernel_rfl, by kernel_rfl, by kernel_rfl, by decide, by kernel_rfl, by kernel_rfl, ⟨by kernel_rfl, by kernel_rfl, mixed⟩⟩
theorem fn_ref08_Body : Fn E 8 F_ref08_Body 2 := ⟨Tryz.f16, bodyOf Tryz.f16, Tryz.func16, by kernel_rfl, by kernel_rfl, by kernel_rfl, by decide, by kernel_rfl, by kernel_rfl, ⟨by kernel_rfl, by kernel_rfl, mixed⟩⟩
theorem fn_law08_num : Fn E 9 F_law08_num 1 := ⟨Tryz.f17, bodyOf Tryz.f17, Tryz.func17, by kernel_rfl, by kernel_rfl, by kernel_rfl, by decide, by kernel_rfl, by kernel_rfl, ⟨by kernel_rfl, by kernel_rfl, mixed⟩⟩
theorem fn_law08_scene : Fn E 11 F_law08_scene 3 := ⟨Tryz.f18, bodyOf Tryz.f18, Tryz.func18, by kernel_rfl, by kernel_rfl, by kernel_rfl, by decide, by kernel_rfl, by kernel_rfl, ⟨by kernel_rfl, by kernel_rfl, mixed⟩⟩
theorem fn_law08_countCode : Fn E 16 F_law08_countCode 3 := ⟨Tryz.f19, bodyOf Tryz.f19, Tryz.func19, by kernel_rfl, by kernel_rfl, by kernel_rfl, by decide, by kernel_rfl, by kernel_rfl, ⟨by kernel_rfl, by kernel_rfl, mixed⟩⟩
theorem fn_law08_kinds : Fn E 17 F_law08_kinds 1 := ⟨Tryz.f20, bodyOf Tryz.f20, Tryz.func20, by kernel_rfl, by kernel_rfl, by kernel_rfl, by decide, by kernel_rfl, by kernel_rfl, ⟨by kernel_rfl, by kernel_rfl, mixed⟩⟩
theorem fn_law08_give : Fn E 18 F_law08_give 1 := ⟨Tryz.f21, bodyOf Tryz.f21, Tryz.func21, by kernel_rfl, by kernel_rfl, by kernel_rfl, by decide, by kernel_rfl, by kernel_rfl, ⟨by kernel_rfl, by kernel_rfl, mixed⟩⟩
theorem fn_law08_one : Fn E 19 F_law08_one 1 := ⟨Tryz.f22, bodyOf Tryz.f22, Tryz.func22, by kernel_rfl, by kernel_rfl, by kernel_rfl, by decide, by kernel_rfl, by kernel_rfl, ⟨by kernel_rfl, by kernel_rfl, mixed⟩⟩
theorem fn_valid_Check_1 : Fn E 20 F_valid_Check_1 1 := ⟨Tryz.f23, bodyOf Tryz.f23, Tryz.func23, by kernel_rfl, by kernel_rfl, by kernel_rfl, by decide, by kernel_rfl, by kernel_rfl, ⟨by kernel_rfl, by kernel_rfl, mixed⟩⟩
theorem fn_valid_Check_1_1 : Fn E 29 F_valid_Check_1_1 2 := ⟨Tryz.f24, bodyOf Tryz.f24, Tryz.func24, by kernel_rfl, by kernel_rfl, by kernel_rfl, by decide, by kernel_rfl, by kernel_rfl, ⟨by kernel_rfl, by kernel_rfl, mixed⟩⟩
theorem fn_slices_ContainsFunc_api_Limits_api_Limits : Fn E 21 F_slices_ContainsFunc_api_Limits_api_Limits 2 := ⟨Tryz.f25, bodyOf Tryz.f25, Tryz.func25, by kernel_rfl, by kernel_rfl, by kernel_rfl, by decide, by kernel_rfl, by kernel_rfl, ⟨by kernel_rfl, by kernel_rfl, mixed⟩⟩
theorem fn_valid_outer : Fn E 22 F_valid_outer 1 := ⟨Tryz.f26, bodyOf Tryz.f26, Tryz.func26, by kernel_rfl, by kernel_rfl, by kernel_rfl, by decide, by kernel_rfl, by kernel_rfl, ⟨by kernel_rfl, by kernel_rfl, mixed⟩⟩
theorem fn_valid_check : Fn E 24 F_valid_check 2 := ⟨Tryz.f28, bodyOf Tryz.f28, Tryz.func28, by kernel_rfl, by kernel_rfl, by kernel_rfl, by decide, by kernel_rfl, by kernel_rfl, ⟨by kernel_rfl, by kernel_rfl, mixed⟩⟩
theorem fn_ref08_kinds : Fn E 25 F_ref08_kinds 1 := ⟨Tryz.f29, bodyOf Tryz.f29, Tryz.func29, by kernel_rfl, by kernel_rfl, by kernel_rfl, by decide, by kernel_rfl, by kernel_rfl, ⟨by kernel_rfl, by kernel_rfl, mixed⟩⟩
theorem fn_ref08_list : Fn E 26 F_ref08_list 3 := ⟨Tryz.f30, bodyOf Tryz.f30, Tryz.func30, by kernel_rfl, by kernel_rfl, by kernel_rfl, by decide, by kernel_rfl, by kernel_rfl, ⟨by kernel_rfl, by kernel_rfl, mixed⟩⟩
theorem fn_ref08_take : Fn E 27 F_ref08_take 2 := ⟨Tryz.f31, bodyOf Tryz.f31, Tryz.func31, by kernel_rfl, by kernel_rfl, by kernel_rfl, by decide, by kernel_rfl, by kernel_rfl, ⟨by kernel_rfl, by kernel_rfl, mixed⟩⟩
theorem fn_slices_IndexFunc_api_Limits_api_Limits : Fn E 30 F_slices_IndexFunc_api_Limits_api_Limits 2 := ⟨Tryz.f33, bodyOf Tryz.f33, Tryz.func33, by kernel_rfl, by kernel_rfl, by kernel_rfl, by decide, by kernel_rfl, by kernel_rfl, ⟨by kernel_rfl, by kernel_rfl, mixed⟩⟩
theorem fn_valid_kinds : Fn E 31 F_valid_kinds 1 := ⟨Tryz.f34, bodyOf Tryz.f34, Tryz.func34, by kernel_rfl, by kernel_rfl, by kernel_rfl, by decide, by kernel_rfl, by kernel_rfl, ⟨by kernel_rfl, by kernel_rfl, mixed⟩⟩
theorem fn_valid_bounds : Fn E 32 F_valid_bounds 1 := ⟨Tryz.f35, bodyOf Tryz.f35, Tryz.func35, by kernel_rfl, by kernel_rfl, by kernel_rfl, by decide, by kernel_rfl, by kernel_rfl, ⟨by kernel_rfl, by kernel_rfl, mixed⟩⟩
theorem fn_valid_value : Fn E 33 F_valid_value 2 := ⟨Tryz.f36, bodyOf Tryz.f36, Tryz.func36, by kernel_rfl, by kernel_rfl, by kernel_rfl, by decide, by kernel_rfl, by kernel_rfl, ⟨by kernel_rfl, by kernel_rfl, mixed⟩⟩
theorem fn_slices_ContainsFunc_uint32_uint32 : Fn E 35 F_slices_ContainsFunc_uint32_uint32 2 := ⟨Tryz.f37, bodyOf Tryz.f37, Tryz.func37, by kernel_rfl, by kernel_rfl, by kernel_rfl, by decide, by kernel_rfl, by kernel_rfl, ⟨by kernel_rfl, by kernel_rfl, mixed⟩⟩
theorem fn_valid_outer_1 : Fn E 34 F_valid_outer_1 2 := ⟨Tryz.f38, bodyOf Tryz.f38, Tryz.func38, by kernel_rfl, by kernel_rfl, by kernel_rfl, by decide, by kernel_rfl, by kernel_rfl, ⟨by kernel_rfl, by kernel_rfl, mixed⟩⟩
theorem fn_valid_exported : Fn E 36 F_valid_exported 1 := ⟨Tryz.f39, bodyOf Tryz.f39, Tryz.func39, by kernel_rfl, by kernel_rfl, by kernel_rfl, by decide, by kernel_rfl, by kernel_rfl, ⟨by kernel_rfl, by kernel_rfl, mixed⟩⟩
theorem fn_slices_Concat_api_Kind_api_Kind : Fn E 38 F_slices_Concat_api_Kind_api_Kind 1 := ⟨Tryz.f41, bodyOf Tryz.f41, Tryz.func41, by kernel_rfl, by kernel_rfl, by kernel_rfl, by decide, by kernel_rfl, by kernel_rfl, ⟨by kernel_rfl, by kernel_rfl, mixed⟩⟩
theorem fn_valid_checker_list : Fn E 39 F_valid_checker_list 2 := ⟨Tryz.f42, bodyOf Tryz.f42, Tryz.func42, by kernel_rfl, by kernel_rfl, by kernel_rfl, by decide, by kernel_rfl, by kernel_rfl, ⟨by kernel_rfl, by kernel_rfl, mixed⟩⟩
theorem fn_valid_checker_take : Fn E 40 F_valid_checker_take 2 := ⟨Tryz.f43, bodyOf Tryz.f43, Tryz.func43, by kernel_rfl, by kernel_rfl, by kernel_rfl, by decide, by kernel_rfl, by kernel_rfl, ⟨by kernel_rfl, by kernel_rfl, mixed⟩⟩
theorem fn_ref08_kind : Fn E 41 F_ref08_kind 2 := ⟨Tryz.f44, bodyOf Tryz.f44, Tryz.func44, by kernel_rfl, by kernel_rfl, by kernel_rfl, by decide, by kernel_rfl, by kernel_rfl, ⟨by kernel_rfl, by kernel_rfl, mixed⟩⟩
theorem fn_ref08_away : Fn E 42 F_ref08_away 1 := ⟨Tryz.f45, bodyOf Tryz.f45, Tryz.func45, by kernel_rfl, by kernel_rfl, by kernel_rfl, by decide, by kernel_rfl, by kernel_rfl, ⟨by kernel_rfl, by kernel_rfl, mixed⟩⟩
theorem fn_ref08_block : Fn E 43 F_ref08_block 3 := ⟨Tryz.f46, bodyOf Tryz.f46, Tryz.func46, by kernel_rfl, by kernel_rfl, by kernel_rfl, by decide, by kernel_rfl, by kernel_rfl, ⟨by kernel_rfl, by kernel_rfl, mixed⟩⟩
theorem fn_ref08_branch : Fn E 44 F_ref08_branch 3 := ⟨Tryz.f47, bodyOf Tryz.f47, Tryz.func47, by kernel_rfl, by kernel_rfl, by kernel_rfl, by decide, by kernel_rfl, by kernel_rfl, ⟨by kernel_rfl, by kernel_rfl, mixed⟩⟩
theorem fn_ref08_calls : Fn E 45 F_ref08_calls 3 := ⟨Tryz.f48, bodyOf Tryz.f48, Tryz.func48, by kernel_rfl, by kernel_rfl, by kernel_rfl, by decide, by kernel_rfl, by kernel_rfl, ⟨by kernel_rfl, by kernel_rfl, mixed⟩⟩
theorem fn_ref08_lay : Fn E 46 F_ref08_lay 2 := ⟨Tryz.f49, bodyOf Tryz.f49, Tryz.func49, by kernel_rfl, by kernel_rfl, by kernel_rfl, by decide, by kernel_rfl, by kernel_rfl, ⟨by kernel_rfl, by kernel_rfl, mixed⟩⟩
theorem fn_ref08_variable : Fn E 47 F_ref08_variable 3 := ⟨Tryz.f50, bodyOf Tryz.f50, Tryz.func50, by kernel_rfl, by kernel_rfl, by kernel_rfl, by decide, by kernel_rfl, by kernel_rfl, ⟨by kernel_rfl, by kernel_rfl, mixed⟩⟩
theorem fn_ref08_value : Fn E 48 F_ref08_value 3 := ⟨Tryz.f51, bodyOf Tryz.f51, Tryz.func51, by kernel_rfl, by kernel_rfl, by kernel_rfl, by decide, by kernel_rfl, by kernel_rfl, ⟨by kernel_rfl, by kernel_rfl, mixed⟩⟩
theorem fn_valid_kinds_1 : Fn E 49 F_valid_kinds_1 1 := ⟨Tryz.f56, bodyOf Tryz.f56, Tryz.func56, by kernel_rfl, by kernel_rfl, by kernel_rfl, by decide, by kernel_rfl, by kernel_rfl, ⟨by kernel_rfl, by kernel_rfl, mixed⟩⟩
theorem fn_valid_result : Fn E 50 F_valid_result 1 := ⟨Tryz.f57, bodyOf Tryz.f57, Tryz.func57, by kernel_rfl, by kernel_rfl, by kernel_rfl, by decide, by kernel_rfl, by kernel_rfl, ⟨by kernel_rfl, by kernel_rfl, mixed⟩⟩
theorem fn_slices_ContainsFunc_api_Kind_api_Kind : Fn E 51 F_slices_ContainsFunc_api_Kind_api_Kind 2 := ⟨Tryz.f58, bodyOf Tryz.f58, Tryz.func58, by kernel_rfl, by kernel_rfl, by kernel_rfl, by decide, by kernel_rfl, by kernel_rfl, ⟨by kernel_rfl, by kernel_rfl, mixed⟩⟩
theorem fn_slices_ContainsFunc_api_Global_api_Global : Fn E 53 F_slices_ContainsFunc_api_Global_api_Global 2 := ⟨Tryz.f59, bodyOf Tryz.f59, Tryz.func59, by kernel_rfl, by kernel_rfl, by kernel_rfl, by decide, by kernel_rfl, by kernel_rfl, ⟨by kernel_rfl, by kernel_rfl, mixed⟩⟩
theorem fn_valid_kinds_2 : Fn E 52 F_valid_kinds_2 2 := ⟨Tryz.f60, bodyOf Tryz.f60, Tryz.func60, by kernel_rfl, by kernel_rfl, by kernel_rfl, by decide, by kernel_rfl, by kernel_rfl, ⟨by kernel_rfl, by kernel_rfl, mixed⟩⟩
theorem fn_slices_IndexFunc_uint32_uint32 : Fn E 54 F_slices_IndexFunc_uint32_uint32 2 := ⟨Tryz.f61, bodyOf Tryz.f61, Tryz.func61, by kernel_rfl, by kernel_rfl, by kernel_rfl, by decide, by kernel_rfl, by kernel_rfl, ⟨by kernel_rfl, by kernel_rfl, mixed⟩⟩
theorem fn_slices_Grow_api_Kind_api_Kind : Fn E 68 F_slices_Grow_api_Kind_api_Kind 2 := ⟨Tryz.f62, bodyOf Tryz.f62, Tryz.func62, by kernel_rfl, by kernel_rfl, by kernel_rfl, by decide, by kernel_rfl, by kernel_rfl, ⟨by kernel_rfl, by kernel_rfl, mixed⟩⟩
theorem fn_valid_checker_control : Fn E 55 F_valid_checker_control 2 := ⟨Tryz.f63, bodyOf Tryz.f63, Tryz.func63, by kernel_rfl, by kernel_rfl, by kernel_rfl, by decide, by kernel_rfl, by kernel_rfl, ⟨by kernel_rfl, by kernel_rfl, mixed⟩⟩
theorem fn_valid_checker_simple : Fn E 56 F_valid_checker_simple 2 := ⟨Tryz.f64, bodyOf Tryz.f64, Tryz.func64, by kernel_rfl, by kernel_rfl, by kernel_rfl, by decide, by kernel_rfl, by kernel_rfl, ⟨by kernel_rfl, by kernel_rfl, mixed⟩⟩
theorem fn_ref08_inner : Fn E 57 F_ref08_inner 5 := ⟨Tryz.f65, bodyOf Tryz.f65, Tryz.func65, by kernel_rfl, by kernel_rfl, by kernel_rfl, by decide, by kernel_rfl, by kernel_rfl, ⟨by kernel_rfl, by kernel_rfl, mixed⟩⟩
theorem fn_ref08_label : Fn E 58 F_ref08_label 2 := ⟨Tryz.f66, bodyOf Tryz.f66, Tryz.func66, by kernel_rfl, by kernel_rfl, by kernel_rfl, by decide, by kernel_rfl, by kernel_rfl, ⟨by kernel_rfl, by kernel_rfl, mixed⟩⟩
theorem fn_ref08_at : Fn E 59 F_ref08_at 2 := ⟨Tryz.f67, bodyOf Tryz.f67, Tryz.func67, by kernel_rfl, by kernel_rfl, by kernel_rfl, by decide, by kernel_rfl, by kernel_rfl, ⟨by kernel_rfl, by kernel_rfl, mixed⟩⟩
theorem fn_ref08_call : Fn E 60 F_ref08_call 2 := ⟨Tryz.f68, bodyOf Tryz.f68, Tryz.func68, by kernel_rfl, by kernel_rfl, by kernel_rfl, by decide, by kernel_rfl, by kernel_rfl, ⟨by kernel_rfl, by kernel_rfl, mixed⟩⟩
theorem fn_ref04_Sign : Fn E 61 F_ref04_Sign 1 := ⟨Tryz.f69, bodyOf Tryz.f69, Tryz.func69, by kernel_rfl, by kernel_rfl, by kernel_rfl, by decide, by kernel_rfl, by kernel_rfl, ⟨by kernel_rfl, by kernel_rfl, mixed⟩⟩
theorem fn_ref04_Form : Fn E 62 F_ref04_Form 1 := ⟨Tryz.f70, bodyOf Tryz.f70, Tryz.func70, by kernel_rfl, by kernel_rfl, by kernel_rfl, by decide, by kernel_rfl, by kernel_rfl, ⟨by kernel_rfl, by kernel_rfl, mixed⟩⟩
theorem fn_ref04_Bytes : Fn E 63 F_ref04_Bytes 1 := ⟨Tryz.f71, bodyOf Tryz.f71, Tryz.func71, by kernel_rfl, by kernel_rfl, by kernel_rfl, by decide, by kernel_rfl, by kernel_rfl, ⟨by kernel_rfl, by kernel_rfl, mixed⟩⟩
theorem fn_slices_IndexFunc_api_Kind_api_Kind : Fn E 66 F_slices_IndexFunc_api_Kind_api_Kind 2 := ⟨Tryz.f75, bodyOf Tryz.f75, Tryz.func75, by kernel_rfl, by kernel_rfl, by kernel_rfl, by decide, by kernel_rfl, by kernel_rfl, ⟨by kernel_rfl, by kernel_rfl, mixed⟩⟩
theorem fn_slices_IndexFunc_api_Global_api_Global : Fn E 67 F_slices_IndexFunc_api_Global_api_Global 2 := ⟨Tryz.f76, bodyOf Tryz.f76, Tryz.func76, by kernel_rfl, by kernel_rfl, by kernel_rfl, by decide, by kernel_rfl, by kernel_rfl, ⟨by kernel_rfl, by kernel_rfl, mixed⟩⟩
theorem fn_valid_checker_leave : Fn E 69 F_valid_checker_leave 1 := ⟨Tryz.f77, bodyOf Tryz.f77, Tryz.func77, by kernel_rfl, by kernel_rfl, by kernel_rfl, by decide, by kernel_rfl, by kernel_rfl, ⟨by kernel_rfl, by kernel_rfl, mixed⟩⟩
theorem fn_valid_checker_inner : Fn E 70 F_valid_checker_inner 4 := ⟨Tryz.f78, bodyOf Tryz.f78, Tryz.func78, by kernel_rfl, by kernel_rfl, by kernel_rfl, by decide, by kernel_rfl, by kernel_rfl, ⟨by kernel_rfl, by kernel_rfl, mixed⟩⟩
theorem fn_valid_checker_lay : Fn E 71 F_valid_checker_lay 2 := ⟨Tryz.f79, bodyOf Tryz.f79, Tryz.func79, by kernel_rfl, by kernel_rfl, by kernel_rfl, by decide, by kernel_rfl, by kernel_rfl, ⟨by kernel_rfl, by kernel_rfl, mixed⟩⟩
theorem fn_valid_checker_label : Fn E 72 F_valid_checker_label 2 := ⟨Tryz.f80, bodyOf Tryz.f80, Tryz.func80, by kernel_rfl, by kernel_rfl, by kernel_rfl, by decide, by kernel_rfl, by kernel_rfl, ⟨by kernel_rfl, by kernel_rfl, mixed⟩⟩
theorem fn_valid_checker_table : Fn E 73 F_valid_checker_table 2 := ⟨Tryz.f81, bodyOf Tryz.f81, Tryz.func81, by kernel_rfl, by kernel_rfl, by kernel_rfl, by decide, by kernel_rfl, by kernel_rfl, ⟨by kernel_rfl, by kernel_rfl, mixed⟩⟩
theorem fn_valid_checker_call : Fn E 75 F_valid_checker_call 2 := ⟨Tryz.f82, bodyOf Tryz.f82, Tryz.func82, by kernel_rfl, by kernel_rfl, by kernel_rfl, by decide, by kernel_rfl, by kernel_rfl, ⟨by kernel_rfl, by kernel_rfl, mixed⟩⟩
theorem fn_valid_checker_function : Fn E 74 F_valid_checker_function 2 := ⟨Tryz.f83, bodyOf Tryz.f83, Tryz.func83, by kernel_rfl, by kernel_rfl, by kernel_rfl, by decide, by kernel_rfl, by kernel_rfl, ⟨by kernel_rfl, by kernel_rfl, mixed⟩⟩
theorem fn_valid_checker_typ : Fn E 76 F_valid_checker_typ 2 := ⟨Tryz.f84, bodyOf Tryz.f84, Tryz.func84, by kernel_rfl, by kernel_rfl, by kernel_rfl, by decide, by kernel_rfl, by kernel_rfl, ⟨by kernel_rfl, by kernel_rfl, mixed⟩⟩
theorem fn_valid_checker_local : Fn E 77 F_valid_checker_local 2 := ⟨Tryz.f85, bodyOf Tryz.f85, Tryz.func85, by kernel_rfl, by kernel_rfl, by kernel_rfl, by decide, by kernel_rfl, by kernel_rfl, ⟨by kernel_rfl, by kernel_rfl, mixed⟩⟩
theorem fn_valid_checker_global : Fn E 78 F_valid_checker_global 2 := ⟨Tryz.f86, bodyOf Tryz.f86, Tryz.func86, by kernel_rfl, by kernel_rfl, by kernel_rfl, by decide, by kernel_rfl, by kernel_rfl, ⟨by kernel_rfl, by kernel_rfl, mixed⟩⟩
theorem fn_valid_checker_plain : Fn E 79 F_valid_checker_plain 2 := ⟨Tryz.f87, bodyOf Tryz.f87, Tryz.func87, by kernel_rfl, by kernel_rfl, by kernel_rfl, by decide, by kernel_rfl, by kernel_rfl, ⟨by kernel_rfl, by kernel_rfl, mixed⟩⟩
theorem fn_ref04_Name : Fn E 80 F_ref04_Name 1 := ⟨Tryz.f88, bodyOf Tryz.f88, Tryz.func88, by kernel_rfl, by kernel_rfl, by kernel_rfl, by decide, by kernel_rfl, by kernel_rfl, ⟨by kernel_rfl, by kernel_rfl, mixed⟩⟩
theorem fn_ref04_Kind : Fn E 81 F_ref04_Kind 1 := ⟨Tryz.f89, bodyOf Tryz.f89, Tryz.func89, by kernel_rfl, by kernel_rfl, by kernel_rfl, by decide, by kernel_rfl, by kernel_rfl, ⟨by kernel_rfl, by kernel_rfl, mixed⟩⟩
theorem fn_ref04_has : Fn E 82 F_ref04_has 2 := ⟨Tryz.f90, bodyOf Tryz.f90, Tryz.func90, by kernel_rfl, by kernel_rfl, by kernel_rfl, by decide, by kernel_rfl, by kernel_rfl, ⟨by kernel_rfl, by kernel_rfl, mixed⟩⟩
theorem fn_ref02_Name : Fn E 83 F_ref02_Name 1 := ⟨Tryz.f91, bodyOf Tryz.f91, Tryz.func91, by kernel_rfl, by kernel_rfl, by kernel_rfl, by decide, by kernel_rfl, by kernel_rfl, ⟨by kernel_rfl, by kernel_rfl, mixed⟩⟩
theorem fn_ops_Sign : Fn E 85 F_ops_Sign 1 := ⟨Tryz.f93, bodyOf Tryz.f93, Tryz.func93, by kernel_rfl, by kernel_rfl, by kernel_rfl, by decide, by kernel_rfl, by kernel_rfl, ⟨by kernel_rfl, by kernel_rfl, mixed⟩⟩
theorem fn_ops_Bytes : Fn E 86 F_ops_Bytes 1 := ⟨Tryz.f94, bodyOf Tryz.f94, Tryz.func94, by kernel_rfl, by kernel_rfl, by kernel_rfl, by decide, by kernel_rfl, by kernel_rfl, ⟨by kernel_rfl, by kernel_rfl, mixed⟩⟩
theorem fn_ops_Form : Fn E 87 F_ops_Form 1 := ⟨Tryz.f95, bodyOf Tryz.f95, Tryz.func95, by kernel_rfl, by kernel_rfl, by kernel_rfl, by decide, by kernel_rfl, by kernel_rfl, ⟨by kernel_rfl, by kernel_rfl, mixed⟩⟩
theorem fn_ops_Name : Fn E 88 F_ops_Name 1 := ⟨Tryz.f97, bodyOf Tryz.f97, Tryz.func97, by kernel_rfl, by kernel_rfl, by kernel_rfl, by decide, by kernel_rfl, by kernel_rfl, ⟨by kernel_rfl, by kernel_rfl, mixed⟩⟩
theorem fn_ops_own : Fn E 89 F_ops_own 1 := ⟨Tryz.f98, bodyOf Tryz.f98, Tryz.func98, by kernel_rfl, by kernel_rfl, by kernel_rfl, by decide, by kernel_rfl, by kernel_rfl, ⟨by kernel_rfl, by kernel_rfl, mixed⟩⟩
theorem fn_ops_reckoned : Fn E 90 F_ops_reckoned 1 := ⟨Tryz.f99, bodyOf Tryz.f99, Tryz.func99, by kernel_rfl, by kernel_rfl, by kernel_rfl, by decide, by kernel_rfl, by kernel_rfl, ⟨by kernel_rfl, by kernel_rfl, mixed⟩⟩
theorem fn_strings_CutSuffix : Fn E 91 F_strings_CutSuffix 2 := ⟨Tryz.f100, bodyOf Tryz.f100, Tryz.func100, by kernel_rfl, by kernel_rfl, by kernel_rfl, by decide, by kernel_rfl, by kernel_rfl, ⟨by kernel_rfl, by kernel_rfl, mixed⟩⟩
theorem fn_strings_TrimSuffix : Fn E 92 F_strings_TrimSuffix 2 := ⟨Tryz.f101, bodyOf Tryz.f101, Tryz.func101, by kernel_rfl, by kernel_rfl, by kernel_rfl, by decide, by kernel_rfl, by kernel_rfl, ⟨by kernel_rfl, by kernel_rfl, mixed⟩⟩
theorem fn_strings_HasSuffix : Fn E 93 F_strings_HasSuffix 2 := ⟨Tryz.f102, bodyOf Tryz.f102, Tryz.func102, by kernel_rfl, by kernel_rfl, by kernel_rfl, by decide, by kernel_rfl, by kernel_rfl, ⟨by kernel_rfl, by kernel_rfl, mixed⟩⟩
theorem fn_ops_names : Fn E 96 F_ops_names 0 := ⟨Tryz.f104, bodyOf Tryz.f104, Tryz.func104, by kernel_rfl, by kernel_rfl, by kernel_rfl, by decide, by kernel_rfl, by kernel_rfl, ⟨by kernel_rfl, by kernel_rfl, mixed⟩⟩
theorem fn_strings_HasPrefix : Fn E 97 F_strings_HasPrefix 2 := ⟨Tryz.f105, bodyOf Tryz.f105, Tryz.func105, by kernel_rfl, by kernel_rfl, by kernel_rfl, by decide, by kernel_rfl, by kernel_rfl, ⟨by kernel_rfl, by kernel_rfl, mixed⟩⟩
theorem fn_strings_Cut : Fn E 98 F_strings_Cut 2 := ⟨Tryz.f106, bodyOf Tryz.f106, Tryz.func106, by kernel_rfl, by kernel_rfl, by kernel_rfl, by decide, by kernel_rfl, by kernel_rfl, ⟨by kernel_rfl, by kernel_rfl, mixed⟩⟩
theorem fn_strings_Contains : Fn E 99 F_strings_Contains 2 := ⟨Tryz.f107, bodyOf Tryz.f107, Tryz.func107, by kernel_rfl, by kernel_rfl, by kernel_rfl, by decide, by kernel_rfl, by kernel_rfl, ⟨by kernel_rfl, by kernel_rfl, mixed⟩⟩
theorem fn_stringslite_CutSuffix : Fn E 100 F_stringslite_CutSuffix 2 := ⟨Tryz.f108, bodyOf Tryz.f108, Tryz.func108, by kernel_rfl, by kernel_rfl, by kernel_rfl, by decide, by kernel_rfl, by kernel_rfl, ⟨by kernel_rfl, by kernel_rfl, mixed⟩⟩
theorem fn_stringslite_TrimSuffix : Fn E 101 F_stringslite_TrimSuffix 2 := ⟨Tryz.f109, bodyOf Tryz.f109, Tryz.func109, by kernel_rfl, by kernel_rfl, by kernel_rfl, by decide, by kernel_rfl, by kernel_rfl, ⟨by kernel_rfl, by kernel_rfl, mixed⟩⟩
theorem fn_stringslite_HasSuffix : Fn E 102 F_stringslite_HasSuffix 2 := ⟨Tryz.f110, bodyOf Tryz.f110, Tryz.func110, by kernel_rfl, by kernel_rfl, by kernel_rfl, by decide, by kernel_rfl, by kernel_rfl, ⟨by kernel_rfl, by kernel_rfl, mixed⟩⟩
theorem fn_stringslite_HasPrefix : Fn E 103 F_stringslite_HasPrefix 2 := ⟨Tryz.f111, bodyOf Tryz.f111, Tryz.func111, by kernel_rfl, by kernel_rfl, by kernel_rfl, by decide, by kernel_rfl, by kernel_rfl, ⟨by kernel_rfl, by kernel_rfl, mixed⟩⟩
theorem fn_stringslite_Cut : Fn E 104 F_stringslite_Cut 2 := ⟨Tryz.f112, bodyOf Tryz.f112, Tryz.func112, by kernel_rfl, by kernel_rfl, by kernel_rfl, by decide, by kernel_rfl, by kernel_rfl, ⟨by kernel_rfl, by kernel_rfl, mixed⟩⟩
theorem fn_strings_Index : Fn E 105 F_strings_Index 2 := ⟨Tryz.f113, bodyOf Tryz.f113, Tryz.func113, by kernel_rfl, by kernel_rfl, by kernel_rfl, by decide, by kernel_rfl, by kernel_rfl, ⟨by kernel_rfl, by kernel_rfl, mixed⟩⟩
end Go.Proofs.YtablleokoifolaaGreatDoor

