/-
  The functions' code, brought into the resolved form of Abs (printed by a program of this repo).
-/
import Derived.Test.YtjjhmldeammecaaA18
import Derived.Test.YtjjhmldeammecaaProg
namespace Go.Abs
open Go Go.Proofs
set_option maxRecDepth 8000
def rf3 : RFun := { nt := 99, np := 4, res := [.t 8], code :=
  (.seq (.region false [
    ⟨(some 4), none, .box 2 (.t 0)⟩,
    ⟨(some 8), none, .mv (.k (.c (.bool false)))⟩])
  (.seq (.region false [
    ⟨(some 22), none, .load 2 true (.t 4)⟩,
    ⟨(some 23), none, .mv (.t 1)⟩,
    ⟨(some 24), none, .call 15 [.t 22, .t 23]⟩,
    ⟨(some 21), none, .mv (.t 24)⟩,
    ⟨(some 25), none, .ext 0 (.t 21)⟩,
    ⟨(some 26), none, .ext 1 (.t 21)⟩,
    ⟨(some 9), none, .mv (.t 25)⟩,
    ⟨(some 10), none, .mv (.t 26)⟩])
  (.seq (.region false [
    ⟨(some 28), none, .load 2 true (.t 4)⟩,
    ⟨(some 29), none, .mv (.t 1)⟩,
    ⟨(some 30), none, .call 16 [.t 28, .t 29]⟩,
    ⟨(some 27), none, .mv (.t 30)⟩,
    ⟨(some 31), none, .ext 0 (.t 27)⟩,
    ⟨(some 32), none, .ext 1 (.t 27)⟩,
    ⟨(some 11), none, .mv (.t 31)⟩,
    ⟨(some 12), none, .mv (.t 32)⟩])
  (.seq (.region false [
    ⟨(some 34), none, .load 2 true (.t 4)⟩,
    ⟨(some 35), none, .mv (.t 1)⟩,
    ⟨(some 36), none, .mv (.t 2)⟩,
    ⟨(some 37), none, .call 17 [.t 34, .t 35, .t 36]⟩,
    ⟨(some 33), none, .mv (.t 37)⟩,
    ⟨(some 38), none, .ext 0 (.t 33)⟩,
    ⟨(some 39), none, .ext 1 (.t 33)⟩,
    ⟨(some 13), none, .mv (.t 38)⟩,
    ⟨(some 14), none, .mv (.t 39)⟩])
  (.seq (.region false [
    ⟨(some 41), none, .load 2 true (.t 4)⟩,
    ⟨(some 42), none, .mv (.t 1)⟩,
    ⟨(some 43), none, .mv (.t 2)⟩,
    ⟨(some 44), none, .call 18 [.t 41, .t 42, .t 43]⟩,
    ⟨(some 40), none, .mv (.t 44)⟩,
    ⟨(some 45), none, .ext 0 (.t 40)⟩,
    ⟨(some 46), none, .ext 1 (.t 40)⟩,
    ⟨(some 15), none, .mv (.t 45)⟩,
    ⟨(some 16), none, .mv (.t 46)⟩])
  (.seq (.region false [
    ⟨(some 48), none, .load 2 true (.t 4)⟩,
    ⟨(some 49), none, .mv (.t 1)⟩,
    ⟨(some 50), none, .mv (.t 3)⟩,
    ⟨(some 51), none, .call 19 [.t 48, .t 49, .t 50]⟩,
    ⟨(some 47), none, .mv (.t 51)⟩,
    ⟨(some 52), none, .ext 0 (.t 47)⟩,
    ⟨(some 53), none, .ext 1 (.t 47)⟩,
    ⟨(some 17), none, .mv (.t 52)⟩,
    ⟨(some 18), none, .mv (.t 53)⟩])
  (.seq (.region false [
    ⟨(some 55), none, .load 2 true (.t 4)⟩,
    ⟨(some 56), none, .mv (.t 1)⟩,
    ⟨(some 57), none, .mv (.t 3)⟩,
    ⟨(some 58), none, .call 20 [.t 55, .t 56, .t 57]⟩,
    ⟨(some 54), none, .mv (.t 58)⟩,
    ⟨(some 59), none, .ext 0 (.t 54)⟩,
    ⟨(some 60), none, .ext 1 (.t 54)⟩,
    ⟨(some 19), none, .mv (.t 59)⟩,
    ⟨(some 20), none, .mv (.t 60)⟩])
  (.seq (.region true [
    ⟨(some 61), none, .load 2 true (.t 4)⟩,
    ⟨(some 62), none, .call 21 [.t 61]⟩,
    ⟨(some 63), none, .load 2 true (.t 4)⟩,
    ⟨(some 64), none, .call 22 [.t 63]⟩,
    ⟨(some 65), none, .ibin .eql .i64 (.t 62) (.t 64)⟩,
    ⟨(some 66), none, .mv (.t 65)⟩,
    ⟨(some 67), (some (66, true)), .mv (.t 11)⟩,
    ⟨(some 68), (some (66, true)), .mv (.t 9)⟩,
    ⟨(some 69), (some (66, true)), .bbin false (.t 67) (.t 68)⟩,
    ⟨(some 70), none, .pick (.t 66) (.t 69) (.k (.c (.bool false)))⟩,
    ⟨(some 71), none, .mv (.t 70)⟩,
    ⟨(some 72), (some (71, true)), .mv (.t 12)⟩,
    ⟨(some 73), (some (71, true)), .mv (.t 10)⟩,
    ⟨(some 74), (some (71, true)), .ibin .eql .i64 (.t 72) (.t 73)⟩,
    ⟨(some 75), none, .pick (.t 71) (.t 74) (.k (.c (.bool false)))⟩,
    ⟨(some 76), none, .mv (.t 75)⟩,
    ⟨(some 77), (some (76, true)), .mv (.t 15)⟩,
    ⟨(some 78), (some (76, true)), .mv (.t 13)⟩,
    ⟨(some 79), (some (76, true)), .ibin .eql .i64 (.t 77) (.t 78)⟩,
    ⟨(some 80), none, .pick (.t 76) (.t 79) (.k (.c (.bool false)))⟩,
    ⟨(some 81), none, .mv (.t 80)⟩,
    ⟨(some 82), (some (81, true)), .mv (.t 16)⟩,
    ⟨(some 83), (some (81, true)), .mv (.t 14)⟩,
    ⟨(some 84), (some (81, true)), .ibin .eql .i64 (.t 82) (.t 83)⟩,
    ⟨(some 85), none, .pick (.t 81) (.t 84) (.k (.c (.bool false)))⟩,
    ⟨(some 86), none, .mv (.t 85)⟩,
    ⟨(some 87), (some (86, true)), .mv (.t 19)⟩,
    ⟨(some 88), (some (86, true)), .mv (.t 17)⟩,
    ⟨(some 89), (some (86, true)), .ibin .eql .i64 (.t 87) (.t 88)⟩,
    ⟨(some 90), none, .pick (.t 86) (.t 89) (.k (.c (.bool false)))⟩,
    ⟨(some 91), none, .mv (.t 90)⟩,
    ⟨(some 92), (some (91, true)), .mv (.t 20)⟩,
    ⟨(some 93), (some (91, true)), .mv (.t 18)⟩,
    ⟨(some 94), (some (91, true)), .ibin .eql .i64 (.t 92) (.t 93)⟩,
    ⟨(some 95), none, .pick (.t 91) (.t 94) (.k (.c (.bool false)))⟩,
    ⟨(some 96), none, .mv (.t 95)⟩,
    ⟨(some 97), (some (96, true)), .call 23 []⟩,
    ⟨(some 98), none, .pick (.t 96) (.t 97) (.k (.c (.bool false)))⟩,
    ⟨(some 8), none, .mv (.t 98)⟩])
  .ret)))))))) }
theorem rf3_ok : lowF Try.prog 3 = some rf3 := by kernel_rfl
def rf4 : RFun := { nt := 120, np := 4, res := [.t 8], code :=
  (.seq (.region false [
    ⟨(some 4), none, .box 2 (.t 0)⟩,
    ⟨(some 8), none, .mv (.k (.c (.bool false)))⟩])
  (.seq (.region false [
    ⟨(some 22), none, .load 2 true (.t 4)⟩,
    ⟨(some 23), none, .mv (.t 1)⟩,
    ⟨(some 24), none, .mv (.t 2)⟩,
    ⟨(some 25), none, .call 20 [.t 22, .t 23, .t 24]⟩,
    ⟨(some 21), none, .mv (.t 25)⟩,
    ⟨(some 26), none, .ext 0 (.t 21)⟩,
    ⟨(some 27), none, .ext 1 (.t 21)⟩,
    ⟨(some 9), none, .mv (.t 26)⟩,
    ⟨(some 10), none, .mv (.t 27)⟩])
  (.seq (.seq (.region false [
    ⟨(some 28), none, .mv (.t 10)⟩,
    ⟨(some 29), none, .ibin .neq .i64 (.t 28) (.k (.c (.int .i64 0)))⟩])
  (.cond (.t 29)
  (.seq (.region false [
     ⟨(some 31), none, .load 2 true (.t 4)⟩,
     ⟨(some 32), none, .mv (.t 1)⟩,
     ⟨(some 33), none, .mv (.t 2)⟩,
     ⟨(some 34), none, .call 19 [.t 31, .t 32, .t 33]⟩,
     ⟨(some 30), none, .mv (.t 34)⟩,
     ⟨(some 35), none, .ext 0 (.t 30)⟩,
     ⟨(some 36), none, .ext 1 (.t 30)⟩,
     ⟨(some 11), none, .mv (.t 35)⟩,
     ⟨(some 12), none, .mv (.t 36)⟩])
   (.seq (.region false [
     ⟨(some 37), none, .mv (.t 10)⟩,
     ⟨(some 38), none, .mv (.t 12)⟩,
     ⟨(some 39), none, .ibin .eql .i64 (.t 37) (.t 38)⟩,
     ⟨(some 40), none, .mv (.t 39)⟩,
     ⟨(some 41), (some (40, true)), .call 23 []⟩,
     ⟨(some 42), none, .pick (.t 40) (.t 41) (.k (.c (.bool false)))⟩,
     ⟨(some 8), none, .mv (.t 42)⟩])
   .ret))
  .skip))
  (.seq (.region false [
    ⟨(some 44), none, .load 2 true (.t 4)⟩,
    ⟨(some 45), none, .mv (.t 1)⟩,
    ⟨(some 46), none, .mv (.t 9)⟩,
    ⟨(some 47), none, .call 18 [.t 44, .t 45, .t 46]⟩,
    ⟨(some 43), none, .mv (.t 47)⟩,
    ⟨(some 48), none, .ext 0 (.t 43)⟩,
    ⟨(some 49), none, .ext 1 (.t 43)⟩,
    ⟨(some 13), none, .mv (.t 48)⟩,
    ⟨(some 14), none, .mv (.t 49)⟩])
  (.seq (.seq (.region false [
    ⟨(some 50), none, .mv (.t 14)⟩,
    ⟨(some 51), none, .ibin .neq .i64 (.t 50) (.k (.c (.int .i64 0)))⟩,
    ⟨(some 52), none, .mv (.t 51)⟩,
    ⟨(some 53), (some (52, false)), .mv (.t 13)⟩,
    ⟨(some 54), (some (52, false)), .mv (.t 2)⟩,
    ⟨(some 55), (some (52, false)), .ibin .neq .i64 (.t 53) (.t 54)⟩,
    ⟨(some 56), none, .pick (.t 52) (.k (.c (.bool true))) (.t 55)⟩,
    ⟨(some 57), none, .mv (.t 56)⟩,
    ⟨(some 58), (some (57, false)), .mv (.t 2)⟩,
    ⟨(some 59), (some (57, false)), .ibin .eql .i64 (.t 58) (.k (.c (.int .i64 0)))⟩,
    ⟨(some 60), (some (57, false)), .mv (.t 59)⟩,
    ⟨(some 61), (some (60, true)), .mv (.t 9)⟩,
    ⟨(some 62), (some (60, true)), .mv (.t 1)⟩,
    ⟨(some 63), (some (60, true)), .ibin .neq .i64 (.t 61) (.t 62)⟩,
    ⟨(some 64), (some (57, false)), .pick (.t 60) (.t 63) (.k (.c (.bool false)))⟩,
    ⟨(some 65), none, .pick (.t 57) (.k (.c (.bool true))) (.t 64)⟩])
  (.cond (.t 65)
  (.seq (.region false [
     ⟨(some 8), none, .mv (.k (.c (.bool false)))⟩])
   .ret)
  .skip))
  (.seq (.seq (.region false [
    ⟨(some 66), none, .mv (.t 2)⟩,
    ⟨(some 67), none, .ibin .gtr .i64 (.t 66) (.k (.c (.int .i64 0)))⟩])
  (.cond (.t 67)
  (.seq (.region false [
     ⟨(some 69), none, .load 2 true (.t 4)⟩,
     ⟨(some 70), none, .mv (.t 9)⟩,
     ⟨(some 71), none, .ibin .sub .i64 (.t 70) (.k (.c (.int .i64 1)))⟩,
     ⟨(some 72), none, .call 16 [.t 69, .t 71]⟩,
     ⟨(some 68), none, .mv (.t 72)⟩,
     ⟨(some 73), none, .ext 0 (.t 68)⟩,
     ⟨(some 74), none, .ext 1 (.t 68)⟩,
     ⟨(some 15), none, .mv (.t 73)⟩,
     ⟨(some 16), none, .mv (.t 74)⟩])
   (.seq (.region false [
     ⟨(some 75), none, .mv (.t 16)⟩,
     ⟨(some 76), none, .ibin .neq .i64 (.t 75) (.k (.c (.int .i64 0)))⟩,
     ⟨(some 77), none, .mv (.t 76)⟩,
     ⟨(some 78), (some (77, false)), .mv (.t 15)⟩,
     ⟨(some 79), (some (77, false)), .not (.t 78)⟩,
     ⟨(some 80), none, .pick (.t 77) (.k (.c (.bool true))) (.t 79)⟩])
   (.cond (.t 80)
   (.seq (.region false [
      ⟨(some 8), none, .mv (.k (.c (.bool false)))⟩])
    .ret)
   .skip)))
  .skip))
  (.seq (.seq (.region false [
    ⟨(some 81), none, .mv (.t 3)⟩,
    ⟨(some 82), none, .mv (.t 1)⟩,
    ⟨(some 83), none, .ibin .lss .i64 (.t 81) (.t 82)⟩,
    ⟨(some 84), none, .mv (.t 83)⟩,
    ⟨(some 85), (some (84, false)), .mv (.t 3)⟩,
    ⟨(some 86), (some (84, false)), .mv (.t 9)⟩,
    ⟨(some 87), (some (84, false)), .ibin .gtr .i64 (.t 85) (.t 86)⟩,
    ⟨(some 88), none, .pick (.t 84) (.k (.c (.bool true))) (.t 87)⟩])
  (.cond (.t 88)
  (.seq (.region false [
     ⟨(some 89), none, .call 23 []⟩,
     ⟨(some 8), none, .mv (.t 89)⟩])
   .ret)
  .skip))
  (.seq (.region false [
    ⟨(some 91), none, .load 2 true (.t 4)⟩,
    ⟨(some 92), none, .mv (.t 1)⟩,
    ⟨(some 93), none, .mv (.t 3)⟩,
    ⟨(some 94), none, .call 18 [.t 91, .t 92, .t 93]⟩,
    ⟨(some 90), none, .mv (.t 94)⟩,
    ⟨(some 95), none, .ext 0 (.t 90)⟩,
    ⟨(some 96), none, .ext 1 (.t 90)⟩,
    ⟨(some 17), none, .mv (.t 95)⟩,
    ⟨(some 18), none, .mv (.t 96)⟩])
  (.seq (.region false [
    ⟨(some 98), none, .load 2 true (.t 4)⟩,
    ⟨(some 99), none, .mv (.t 3)⟩,
    ⟨(some 100), none, .mv (.t 9)⟩,
    ⟨(some 101), none, .call 18 [.t 98, .t 99, .t 100]⟩,
    ⟨(some 97), none, .mv (.t 101)⟩,
    ⟨(some 102), none, .ext 0 (.t 97)⟩,
    ⟨(some 103), none, .ext 1 (.t 97)⟩,
    ⟨(some 19), none, .mv (.t 102)⟩,
    ⟨(some 20), none, .mv (.t 103)⟩])
  (.seq (.region false [
    ⟨(some 104), none, .mv (.t 18)⟩,
    ⟨(some 105), none, .ibin .eql .i64 (.t 104) (.k (.c (.int .i64 0)))⟩,
    ⟨(some 106), none, .mv (.t 105)⟩,
    ⟨(some 107), (some (106, true)), .mv (.t 20)⟩,
    ⟨(some 108), (some (106, true)), .ibin .eql .i64 (.t 107) (.k (.c (.int .i64 0)))⟩,
    ⟨(some 109), none, .pick (.t 106) (.t 108) (.k (.c (.bool false)))⟩,
    ⟨(some 110), none, .mv (.t 109)⟩,
    ⟨(some 111), (some (110, true)), .mv (.t 17)⟩,
    ⟨(some 112), (some (110, true)), .mv (.t 19)⟩,
    ⟨(some 113), (some (110, true)), .ibin .add .i64 (.t 111) (.t 112)⟩,
    ⟨(some 114), (some (110, true)), .mv (.t 2)⟩,
    ⟨(some 115), (some (110, true)), .ibin .eql .i64 (.t 113) (.t 114)⟩,
    ⟨(some 116), none, .pick (.t 110) (.t 115) (.k (.c (.bool false)))⟩,
    ⟨(some 117), none, .mv (.t 116)⟩,
    ⟨(some 118), (some (117, true)), .call 23 []⟩,
    ⟨(some 119), none, .pick (.t 117) (.t 118) (.k (.c (.bool false)))⟩,
    ⟨(some 8), none, .mv (.t 119)⟩])
  .ret)))))))))) }
theorem rf4_ok : lowF Try.prog 4 = some rf4 := by kernel_rfl
def rf15 : RFun := { nt := 19, np := 2, res := [.t 4, .t 5], code :=
  (.seq (.region false [
    ⟨(some 2), none, .box 2 (.t 0)⟩,
    ⟨(some 4), none, .mv (.k (.c (.bool false)))⟩,
    ⟨(some 5), none, .mv (.k (.c (.int .i64 0)))⟩])
  (.seq (.seq (.region false [
    ⟨(some 7), none, .load 2 true (.t 2)⟩,
    ⟨(some 8), none, .call 21 [.t 7]⟩,
    ⟨(some 6), none, .mv (.t 8)⟩])
  (.seq (.region false [
    ⟨(some 9), none, .mv (.t 6)⟩,
    ⟨(some 10), none, .ibin .neq .i64 (.t 9) (.k (.c (.int .i64 0)))⟩])
  (.cond (.t 10)
  (.seq (.region false [
     ⟨(some 11), none, .mv (.t 6)⟩,
     ⟨(some 4), none, .mv (.k (.c (.bool false)))⟩,
     ⟨(some 5), none, .mv (.t 11)⟩])
   .ret)
  .skip)))
  (.seq (.seq (.region false [
    ⟨(some 12), none, .mv (.t 1)⟩,
    ⟨(some 13), none, .call 69 [.t 12]⟩,
    ⟨(some 14), none, .not (.t 13)⟩])
  (.cond (.t 14)
  (.seq (.region false [
     ⟨(some 4), none, .mv (.k (.c (.bool false)))⟩,
     ⟨(some 5), none, .mv (.k (.c (.int .i64 9)))⟩])
   .ret)
  .skip))
  (.seq (.region false [
    ⟨(some 15), none, .load 2 true (.t 2)⟩,
    ⟨(some 16), none, .call 70 [.t 15]⟩,
    ⟨(some 17), none, .mv (.t 1)⟩,
    ⟨(some 18), none, .call 71 [.t 16, .t 17]⟩,
    ⟨(some 4), none, .mv (.t 18)⟩,
    ⟨(some 5), none, .mv (.k (.c (.int .i64 0)))⟩])
  .ret)))) }
theorem rf15_ok : lowF Try.prog 15 = some rf15 := by kernel_rfl
def rf16 : RFun := { nt := 26, np := 2, res := [.t 4, .t 5], code :=
  (.seq (.region false [
    ⟨(some 2), none, .box 2 (.t 0)⟩,
    ⟨(some 4), none, .mv (.k (.c (.bool false)))⟩,
    ⟨(some 5), none, .mv (.k (.c (.int .i64 0)))⟩])
  (.seq (.seq (.region false [
    ⟨(some 8), none, .load 2 true (.t 2)⟩,
    ⟨(some 9), none, .call 22 [.t 8]⟩,
    ⟨(some 6), none, .mv (.t 9)⟩])
  (.seq (.region false [
    ⟨(some 10), none, .mv (.t 6)⟩,
    ⟨(some 11), none, .ibin .neq .i64 (.t 10) (.k (.c (.int .i64 0)))⟩])
  (.cond (.t 11)
  (.seq (.region false [
     ⟨(some 12), none, .mv (.t 6)⟩,
     ⟨(some 4), none, .mv (.k (.c (.bool false)))⟩,
     ⟨(some 5), none, .mv (.t 12)⟩])
   .ret)
  .skip)))
  (.seq (.seq (.region false [
    ⟨(some 13), none, .mv (.t 1)⟩,
    ⟨(some 14), none, .call 72 [.t 13]⟩,
    ⟨(some 15), none, .not (.t 14)⟩])
  (.cond (.t 15)
  (.seq (.region false [
     ⟨(some 4), none, .mv (.k (.c (.bool false)))⟩,
     ⟨(some 5), none, .mv (.k (.c (.int .i64 9)))⟩])
   .ret)
  .skip))
  (.seq (.region false [
    ⟨(some 16), none, .load 2 true (.t 2)⟩,
    ⟨(some 17), none, .call 73 [.t 16]⟩,
    ⟨(some 7), none, .alloc [.c (.bool false), .c (.bool false), .c (.bool false), .c (.bool false), .c (.bool false), .c (.bool false), .c (.bool false), .c (.int .i64 0), .c (.slice none 0 0)]⟩,
    ⟨none, none, .store 9 (.t 7) (.t 17)⟩])
  (.seq (.region true [
    ⟨(some 18), none, .load 9 true (.t 7)⟩,
    ⟨(some 19), none, .mv (.t 1)⟩,
    ⟨(some 20), none, .ibin .add .i64 (.t 19) (.k (.c (.int .i64 1)))⟩,
    ⟨(some 21), none, .call 74 [.t 18, .t 20]⟩,
    ⟨(some 22), none, .load 9 true (.t 7)⟩,
    ⟨(some 23), none, .mv (.t 1)⟩,
    ⟨(some 24), none, .call 74 [.t 22, .t 23]⟩,
    ⟨(some 25), none, .ibin .gtr .i64 (.t 21) (.t 24)⟩,
    ⟨(some 4), none, .mv (.t 25)⟩,
    ⟨(some 5), none, .mv (.k (.c (.int .i64 0)))⟩])
  .ret))))) }
theorem rf16_ok : lowF Try.prog 16 = some rf16 := by kernel_rfl
def rf17 : RFun := { nt := 32, np := 3, res := [.t 6, .t 7], code :=
  (.seq (.region false [
    ⟨(some 3), none, .box 2 (.t 0)⟩,
    ⟨(some 6), none, .mv (.k (.c (.int .i64 0)))⟩,
    ⟨(some 7), none, .mv (.k (.c (.int .i64 0)))⟩])
  (.seq (.seq (.region false [
    ⟨(some 9), none, .load 2 true (.t 3)⟩,
    ⟨(some 10), none, .call 21 [.t 9]⟩,
    ⟨(some 8), none, .mv (.t 10)⟩])
  (.seq (.region false [
    ⟨(some 11), none, .mv (.t 8)⟩,
    ⟨(some 12), none, .ibin .neq .i64 (.t 11) (.k (.c (.int .i64 0)))⟩])
  (.cond (.t 12)
  (.seq (.region false [
     ⟨(some 13), none, .mv (.t 8)⟩,
     ⟨(some 6), none, .mv (.k (.c (.int .i64 0)))⟩,
     ⟨(some 7), none, .mv (.t 13)⟩])
   .ret)
  .skip)))
  (.seq (.seq (.region false [
    ⟨(some 14), none, .mv (.t 1)⟩,
    ⟨(some 15), none, .call 69 [.t 14]⟩,
    ⟨(some 16), none, .not (.t 15)⟩,
    ⟨(some 17), none, .mv (.t 16)⟩,
    ⟨(some 18), (some (17, false)), .mv (.t 2)⟩,
    ⟨(some 19), (some (17, false)), .call 69 [.t 18]⟩,
    ⟨(some 20), (some (17, false)), .not (.t 19)⟩,
    ⟨(some 21), none, .pick (.t 17) (.k (.c (.bool true))) (.t 20)⟩,
    ⟨(some 22), none, .mv (.t 21)⟩,
    ⟨(some 23), (some (22, false)), .mv (.t 1)⟩,
    ⟨(some 24), (some (22, false)), .mv (.t 2)⟩,
    ⟨(some 25), (some (22, false)), .ibin .gtr .i64 (.t 23) (.t 24)⟩,
    ⟨(some 26), none, .pick (.t 22) (.k (.c (.bool true))) (.t 25)⟩])
  (.cond (.t 26)
  (.seq (.region false [
     ⟨(some 6), none, .mv (.k (.c (.int .i64 0)))⟩,
     ⟨(some 7), none, .mv (.k (.c (.int .i64 9)))⟩])
   .ret)
  .skip))
  (.seq (.region false [
    ⟨(some 27), none, .load 2 true (.t 3)⟩,
    ⟨(some 28), none, .call 70 [.t 27]⟩,
    ⟨(some 29), none, .mv (.t 1)⟩,
    ⟨(some 30), none, .mv (.t 2)⟩,
    ⟨(some 31), none, .call 75 [.t 28, .t 29, .t 30]⟩,
    ⟨(some 6), none, .mv (.t 31)⟩,
    ⟨(some 7), none, .mv (.k (.c (.int .i64 0)))⟩])
  .ret)))) }
theorem rf17_ok : lowF Try.prog 17 = some rf17 := by kernel_rfl
def rf18 : RFun := { nt := 37, np := 3, res := [.t 6, .t 7], code :=
  (.seq (.region false [
    ⟨(some 3), none, .box 2 (.t 0)⟩,
    ⟨(some 6), none, .mv (.k (.c (.int .i64 0)))⟩,
    ⟨(some 7), none, .mv (.k (.c (.int .i64 0)))⟩])
  (.seq (.seq (.region false [
    ⟨(some 10), none, .load 2 true (.t 3)⟩,
    ⟨(some 11), none, .call 22 [.t 10]⟩,
    ⟨(some 8), none, .mv (.t 11)⟩])
  (.seq (.region false [
    ⟨(some 12), none, .mv (.t 8)⟩,
    ⟨(some 13), none, .ibin .neq .i64 (.t 12) (.k (.c (.int .i64 0)))⟩])
  (.cond (.t 13)
  (.seq (.region false [
     ⟨(some 14), none, .mv (.t 8)⟩,
     ⟨(some 6), none, .mv (.k (.c (.int .i64 0)))⟩,
     ⟨(some 7), none, .mv (.t 14)⟩])
   .ret)
  .skip)))
  (.seq (.seq (.region false [
    ⟨(some 15), none, .mv (.t 1)⟩,
    ⟨(some 16), none, .call 72 [.t 15]⟩,
    ⟨(some 17), none, .not (.t 16)⟩,
    ⟨(some 18), none, .mv (.t 17)⟩,
    ⟨(some 19), (some (18, false)), .mv (.t 2)⟩,
    ⟨(some 20), (some (18, false)), .call 72 [.t 19]⟩,
    ⟨(some 21), (some (18, false)), .not (.t 20)⟩,
    ⟨(some 22), none, .pick (.t 18) (.k (.c (.bool true))) (.t 21)⟩,
    ⟨(some 23), none, .mv (.t 22)⟩,
    ⟨(some 24), (some (23, false)), .mv (.t 1)⟩,
    ⟨(some 25), (some (23, false)), .mv (.t 2)⟩,
    ⟨(some 26), (some (23, false)), .ibin .gtr .i64 (.t 24) (.t 25)⟩,
    ⟨(some 27), none, .pick (.t 23) (.k (.c (.bool true))) (.t 26)⟩])
  (.cond (.t 27)
  (.seq (.region false [
     ⟨(some 6), none, .mv (.k (.c (.int .i64 0)))⟩,
     ⟨(some 7), none, .mv (.k (.c (.int .i64 9)))⟩])
   .ret)
  .skip))
  (.seq (.region false [
    ⟨(some 28), none, .load 2 true (.t 3)⟩,
    ⟨(some 29), none, .call 73 [.t 28]⟩,
    ⟨(some 9), none, .alloc [.c (.bool false), .c (.bool false), .c (.bool false), .c (.bool false), .c (.bool false), .c (.bool false), .c (.bool false), .c (.int .i64 0), .c (.slice none 0 0)]⟩,
    ⟨none, none, .store 9 (.t 9) (.t 29)⟩])
  (.seq (.region true [
    ⟨(some 30), none, .load 9 true (.t 9)⟩,
    ⟨(some 31), none, .mv (.t 2)⟩,
    ⟨(some 32), none, .call 74 [.t 30, .t 31]⟩,
    ⟨(some 33), none, .load 9 true (.t 9)⟩,
    ⟨(some 34), none, .mv (.t 1)⟩,
    ⟨(some 35), none, .call 74 [.t 33, .t 34]⟩,
    ⟨(some 36), none, .ibin .sub .i64 (.t 32) (.t 35)⟩,
    ⟨(some 6), none, .mv (.t 36)⟩,
    ⟨(some 7), none, .mv (.k (.c (.int .i64 0)))⟩])
  .ret))))) }
theorem rf18_ok : lowF Try.prog 18 = some rf18 := by kernel_rfl
def rf19 : RFun := { nt := 35, np := 3, res := [.t 6, .t 7], code :=
  (.seq (.region false [
    ⟨(some 3), none, .box 2 (.t 0)⟩,
    ⟨(some 6), none, .mv (.k (.c (.int .i64 0)))⟩,
    ⟨(some 7), none, .mv (.k (.c (.int .i64 0)))⟩])
  (.seq (.seq (.region false [
    ⟨(some 11), none, .load 2 true (.t 3)⟩,
    ⟨(some 12), none, .call 21 [.t 11]⟩,
    ⟨(some 8), none, .mv (.t 12)⟩])
  (.seq (.region false [
    ⟨(some 13), none, .mv (.t 8)⟩,
    ⟨(some 14), none, .ibin .neq .i64 (.t 13) (.k (.c (.int .i64 0)))⟩])
  (.cond (.t 14)
  (.seq (.region false [
     ⟨(some 15), none, .mv (.t 8)⟩,
     ⟨(some 6), none, .mv (.k (.c (.int .i64 0)))⟩,
     ⟨(some 7), none, .mv (.t 15)⟩])
   .ret)
  .skip)))
  (.seq (.seq (.region false [
    ⟨(some 16), none, .mv (.t 1)⟩,
    ⟨(some 17), none, .call 69 [.t 16]⟩,
    ⟨(some 18), none, .not (.t 17)⟩,
    ⟨(some 19), none, .mv (.t 18)⟩,
    ⟨(some 20), (some (19, false)), .mv (.t 2)⟩,
    ⟨(some 21), (some (19, false)), .call 69 [.t 20]⟩,
    ⟨(some 22), (some (19, false)), .not (.t 21)⟩,
    ⟨(some 23), none, .pick (.t 19) (.k (.c (.bool true))) (.t 22)⟩])
  (.cond (.t 23)
  (.seq (.region false [
     ⟨(some 6), none, .mv (.k (.c (.int .i64 0)))⟩,
     ⟨(some 7), none, .mv (.k (.c (.int .i64 9)))⟩])
   .ret)
  .skip))
  (.seq (.region false [
    ⟨(some 25), none, .load 2 true (.t 3)⟩,
    ⟨(some 26), none, .call 70 [.t 25]⟩,
    ⟨(some 27), none, .mv (.t 1)⟩,
    ⟨(some 28), none, .mv (.t 2)⟩,
    ⟨(some 29), none, .call 76 [.t 26, .t 27, .t 28]⟩,
    ⟨(some 24), none, .mv (.t 29)⟩,
    ⟨(some 30), none, .ext 0 (.t 24)⟩,
    ⟨(some 31), none, .ext 1 (.t 24)⟩,
    ⟨(some 9), none, .mv (.t 30)⟩,
    ⟨(some 10), none, .mv (.t 31)⟩])
  (.seq (.seq (.region false [
    ⟨(some 32), none, .mv (.t 10)⟩,
    ⟨(some 33), none, .not (.t 32)⟩])
  (.cond (.t 33)
  (.seq (.region false [
     ⟨(some 6), none, .mv (.k (.c (.int .i64 0)))⟩,
     ⟨(some 7), none, .mv (.k (.c (.int .i64 3)))⟩])
   .ret)
  .skip))
  (.seq (.region false [
    ⟨(some 34), none, .mv (.t 9)⟩,
    ⟨(some 6), none, .mv (.t 34)⟩,
    ⟨(some 7), none, .mv (.k (.c (.int .i64 0)))⟩])
  .ret)))))) }
theorem rf19_ok : lowF Try.prog 19 = some rf19 := by kernel_rfl
def rf20 : RFun := { nt := 35, np := 3, res := [.t 6, .t 7], code :=
  (.seq (.region false [
    ⟨(some 3), none, .box 2 (.t 0)⟩,
    ⟨(some 6), none, .mv (.k (.c (.int .i64 0)))⟩,
    ⟨(some 7), none, .mv (.k (.c (.int .i64 0)))⟩])
  (.seq (.seq (.region false [
    ⟨(some 11), none, .load 2 true (.t 3)⟩,
    ⟨(some 12), none, .call 22 [.t 11]⟩,
    ⟨(some 8), none, .mv (.t 12)⟩])
  (.seq (.region false [
    ⟨(some 13), none, .mv (.t 8)⟩,
    ⟨(some 14), none, .ibin .neq .i64 (.t 13) (.k (.c (.int .i64 0)))⟩])
  (.cond (.t 14)
  (.seq (.region false [
     ⟨(some 15), none, .mv (.t 8)⟩,
     ⟨(some 6), none, .mv (.k (.c (.int .i64 0)))⟩,
     ⟨(some 7), none, .mv (.t 15)⟩])
   .ret)
  .skip)))
  (.seq (.seq (.region false [
    ⟨(some 16), none, .mv (.t 1)⟩,
    ⟨(some 17), none, .call 72 [.t 16]⟩,
    ⟨(some 18), none, .not (.t 17)⟩,
    ⟨(some 19), none, .mv (.t 18)⟩,
    ⟨(some 20), (some (19, false)), .mv (.t 2)⟩,
    ⟨(some 21), (some (19, false)), .call 72 [.t 20]⟩,
    ⟨(some 22), (some (19, false)), .not (.t 21)⟩,
    ⟨(some 23), none, .pick (.t 19) (.k (.c (.bool true))) (.t 22)⟩])
  (.cond (.t 23)
  (.seq (.region false [
     ⟨(some 6), none, .mv (.k (.c (.int .i64 0)))⟩,
     ⟨(some 7), none, .mv (.k (.c (.int .i64 9)))⟩])
   .ret)
  .skip))
  (.seq (.region false [
    ⟨(some 25), none, .load 2 true (.t 3)⟩,
    ⟨(some 26), none, .call 73 [.t 25]⟩,
    ⟨(some 27), none, .mv (.t 1)⟩,
    ⟨(some 28), none, .mv (.t 2)⟩,
    ⟨(some 29), none, .call 77 [.t 26, .t 27, .t 28]⟩,
    ⟨(some 24), none, .mv (.t 29)⟩,
    ⟨(some 30), none, .ext 0 (.t 24)⟩,
    ⟨(some 31), none, .ext 1 (.t 24)⟩,
    ⟨(some 9), none, .mv (.t 30)⟩,
    ⟨(some 10), none, .mv (.t 31)⟩])
  (.seq (.seq (.region false [
    ⟨(some 32), none, .mv (.t 10)⟩,
    ⟨(some 33), none, .not (.t 32)⟩])
  (.cond (.t 33)
  (.seq (.region false [
     ⟨(some 6), none, .mv (.k (.c (.int .i64 0)))⟩,
     ⟨(some 7), none, .mv (.k (.c (.int .i64 3)))⟩])
   .ret)
  .skip))
  (.seq (.region false [
    ⟨(some 34), none, .mv (.t 9)⟩,
    ⟨(some 6), none, .mv (.t 34)⟩,
    ⟨(some 7), none, .mv (.k (.c (.int .i64 0)))⟩])
  .ret)))))) }
theorem rf20_ok : lowF Try.prog 20 = some rf20 := by kernel_rfl
def rf21 : RFun := { nt := 71, np := 1, res := [.t 2], code :=
  (.seq (.region false [
    ⟨(some 1), none, .box 2 (.t 0)⟩,
    ⟨(some 2), none, .mv (.k (.c (.int .i64 0)))⟩])
  (.seq (.seq (.region false [
    ⟨(some 7), none, .faddr 0 (.t 1)⟩,
    ⟨(some 8), none, .load 1 false (.t 7)⟩,
    ⟨(some 9), none, .len (.t 8)⟩,
    ⟨(some 10), none, .ibin .gtr .i64 (.t 9) (.k (.c (.int .i64 6)))⟩,
    ⟨(some 11), none, .mv (.t 10)⟩,
    ⟨(some 12), (some (11, false)), .faddr 1 (.t 1)⟩,
    ⟨(some 13), (some (11, false)), .load 1 false (.t 12)⟩,
    ⟨(some 14), (some (11, false)), .len (.t 13)⟩,
    ⟨(some 15), (some (11, false)), .ibin .gtr .i64 (.t 14) (.k (.c (.int .i64 2000)))⟩,
    ⟨(some 16), none, .pick (.t 11) (.k (.c (.bool true))) (.t 15)⟩])
  (.cond (.t 16)
  (.seq (.region false [
     ⟨(some 2), none, .mv (.k (.c (.int .i64 3)))⟩])
   .ret)
  .skip))
  (.seq (.seq (.region false [
    ⟨(some 17), none, .faddr 0 (.t 1)⟩,
    ⟨(some 18), none, .load 1 false (.t 17)⟩,
    ⟨(some 19), none, .len (.t 18)⟩,
    ⟨(some 20), none, .mv (.k (.c (.int .i64 0)))⟩])
  (.block 0
  (.loop
   (.seq (.region false [
      ⟨(some 21), none, .ibin .lss .i64 (.t 20) (.t 19)⟩])
    (.seq (.cond (.t 21)
    .skip
    (.exit 0))
    (.seq (.block 1
    (.seq (.region false [
       ⟨(some 22), none, .mv (.t 20)⟩,
       ⟨(some 23), none, .iaddr 1 (.t 18) (.t 20)⟩,
       ⟨(some 24), none, .load 1 false (.t 23)⟩,
       ⟨(some 3), none, .mv (.t 22)⟩,
       ⟨(some 4), none, .mv (.t 24)⟩])
     (.seq (.seq (.region false [
       ⟨(some 25), none, .mv (.t 4)⟩,
       ⟨(some 26), none, .ibin .lss .i64 (.t 25) (.k (.c (.int .i64 0)))⟩,
       ⟨(some 27), none, .mv (.t 26)⟩,
       ⟨(some 28), (some (27, false)), .mv (.t 4)⟩,
       ⟨(some 29), (some (27, false)), .ibin .gtr .i64 (.t 28) (.k (.c (.int .i64 6)))⟩,
       ⟨(some 30), none, .pick (.t 27) (.k (.c (.bool true))) (.t 29)⟩])
     (.cond (.t 30)
     (.seq (.region false [
        ⟨(some 2), none, .mv (.k (.c (.int .i64 9)))⟩])
      .ret)
     .skip))
     (.seq (.region false [
       ⟨(some 31), none, .mv (.t 3)⟩,
       ⟨(some 32), none, .ibin .gtr .i64 (.t 31) (.k (.c (.int .i64 0)))⟩,
       ⟨(some 33), none, .mv (.t 32)⟩,
       ⟨(some 34), (some (33, true)), .mv (.t 4)⟩,
       ⟨(some 35), (some (33, true)), .faddr 0 (.t 1)⟩,
       ⟨(some 36), (some (33, true)), .load 1 false (.t 35)⟩,
       ⟨(some 37), (some (33, true)), .mv (.t 3)⟩,
       ⟨(some 38), (some (33, true)), .ibin .sub .i64 (.t 37) (.k (.c (.int .i64 1)))⟩,
       ⟨(some 39), (some (33, true)), .iaddr 1 (.t 36) (.t 38)⟩,
       ⟨(some 40), (some (33, true)), .load 1 false (.t 39)⟩,
       ⟨(some 41), (some (33, true)), .ibin .leq .i64 (.t 34) (.t 40)⟩,
       ⟨(some 42), none, .pick (.t 33) (.t 41) (.k (.c (.bool false)))⟩])
     (.cond (.t 42)
     (.seq (.region false [
        ⟨(some 2), none, .mv (.k (.c (.int .i64 10)))⟩])
      .ret)
     .skip)))))
    (.region false [
      ⟨(some 43), none, .ibin .add .i64 (.t 20) (.k (.c (.int .i64 1)))⟩,
      ⟨(some 20), none, .mv (.t 43)⟩])))))))
  (.seq (.seq (.region false [
    ⟨(some 44), none, .faddr 1 (.t 1)⟩,
    ⟨(some 45), none, .load 1 false (.t 44)⟩,
    ⟨(some 46), none, .len (.t 45)⟩,
    ⟨(some 47), none, .mv (.k (.c (.int .i64 0)))⟩])
  (.block 2
  (.loop
   (.seq (.region false [
      ⟨(some 48), none, .ibin .lss .i64 (.t 47) (.t 46)⟩])
    (.seq (.cond (.t 48)
    .skip
    (.exit 2))
    (.seq (.block 3
    (.seq (.region false [
       ⟨(some 49), none, .mv (.t 47)⟩,
       ⟨(some 50), none, .iaddr 1 (.t 45) (.t 47)⟩,
       ⟨(some 51), none, .load 1 false (.t 50)⟩,
       ⟨(some 5), none, .mv (.t 49)⟩,
       ⟨(some 6), none, .mv (.t 51)⟩])
     (.seq (.seq (.region false [
       ⟨(some 52), none, .mv (.t 6)⟩,
       ⟨(some 53), none, .ibin .lss .i64 (.t 52) (.k (.c (.int .i64 0)))⟩,
       ⟨(some 54), none, .mv (.t 53)⟩,
       ⟨(some 55), (some (54, false)), .mv (.t 6)⟩,
       ⟨(some 56), (some (54, false)), .ibin .gtr .i64 (.t 55) (.k (.c (.int .i64 1000000)))⟩,
       ⟨(some 57), none, .pick (.t 54) (.k (.c (.bool true))) (.t 56)⟩])
     (.cond (.t 57)
     (.seq (.region false [
        ⟨(some 2), none, .mv (.k (.c (.int .i64 9)))⟩])
      .ret)
     .skip))
     (.seq (.region false [
       ⟨(some 58), none, .mv (.t 5)⟩,
       ⟨(some 59), none, .ibin .gtr .i64 (.t 58) (.k (.c (.int .i64 0)))⟩,
       ⟨(some 60), none, .mv (.t 59)⟩,
       ⟨(some 61), (some (60, true)), .mv (.t 6)⟩,
       ⟨(some 62), (some (60, true)), .faddr 1 (.t 1)⟩,
       ⟨(some 63), (some (60, true)), .load 1 false (.t 62)⟩,
       ⟨(some 64), (some (60, true)), .mv (.t 5)⟩,
       ⟨(some 65), (some (60, true)), .ibin .sub .i64 (.t 64) (.k (.c (.int .i64 1)))⟩,
       ⟨(some 66), (some (60, true)), .iaddr 1 (.t 63) (.t 65)⟩,
       ⟨(some 67), (some (60, true)), .load 1 false (.t 66)⟩,
       ⟨(some 68), (some (60, true)), .ibin .leq .i64 (.t 61) (.t 67)⟩,
       ⟨(some 69), none, .pick (.t 60) (.t 68) (.k (.c (.bool false)))⟩])
     (.cond (.t 69)
     (.seq (.region false [
        ⟨(some 2), none, .mv (.k (.c (.int .i64 10)))⟩])
      .ret)
     .skip)))))
    (.region false [
      ⟨(some 70), none, .ibin .add .i64 (.t 47) (.k (.c (.int .i64 1)))⟩,
      ⟨(some 47), none, .mv (.t 70)⟩])))))))
  (.seq (.region false [
    ⟨(some 2), none, .mv (.k (.c (.int .i64 0)))⟩])
  .ret))))) }
theorem rf21_ok : lowF Try.prog 21 = some rf21 := by kernel_rfl
def rf22 : RFun := { nt := 23, np := 1, res := [.t 2], code :=
  (.seq (.region false [
    ⟨(some 1), none, .box 2 (.t 0)⟩,
    ⟨(some 2), none, .mv (.k (.c (.int .i64 0)))⟩])
  (.seq (.seq (.region false [
    ⟨(some 4), none, .faddr 0 (.t 1)⟩,
    ⟨(some 5), none, .load 1 false (.t 4)⟩,
    ⟨(some 6), none, .len (.t 5)⟩,
    ⟨(some 7), none, .ibin .gtr .i64 (.t 6) (.k (.c (.int .i64 6)))⟩,
    ⟨(some 8), none, .mv (.t 7)⟩,
    ⟨(some 9), (some (8, false)), .faddr 1 (.t 1)⟩,
    ⟨(some 10), (some (8, false)), .load 1 false (.t 9)⟩,
    ⟨(some 11), (some (8, false)), .len (.t 10)⟩,
    ⟨(some 12), (some (8, false)), .ibin .gtr .i64 (.t 11) (.k (.c (.int .i64 2000)))⟩,
    ⟨(some 13), none, .pick (.t 8) (.k (.c (.bool true))) (.t 12)⟩])
  (.cond (.t 13)
  (.seq (.region false [
     ⟨(some 2), none, .mv (.k (.c (.int .i64 3)))⟩])
   .ret)
  .skip))
  (.seq (.seq (.region false [
    ⟨(some 14), none, .faddr 0 (.t 1)⟩,
    ⟨(some 15), none, .load 1 false (.t 14)⟩,
    ⟨(some 16), none, .call 78 [.t 15, .k (.c (.int .i64 6))]⟩,
    ⟨(some 3), none, .mv (.t 16)⟩])
  (.seq (.region false [
    ⟨(some 17), none, .mv (.t 3)⟩,
    ⟨(some 18), none, .ibin .neq .i64 (.t 17) (.k (.c (.int .i64 0)))⟩])
  (.cond (.t 18)
  (.seq (.region false [
     ⟨(some 19), none, .mv (.t 3)⟩,
     ⟨(some 2), none, .mv (.t 19)⟩])
   .ret)
  .skip)))
  (.seq (.region false [
    ⟨(some 20), none, .faddr 1 (.t 1)⟩,
    ⟨(some 21), none, .load 1 false (.t 20)⟩,
    ⟨(some 22), none, .call 78 [.t 21, .k (.c (.int .i64 1000000))]⟩,
    ⟨(some 2), none, .mv (.t 22)⟩])
  .ret)))) }
theorem rf22_ok : lowF Try.prog 22 = some rf22 := by kernel_rfl
def rf23 : RFun := { nt := 15, np := 0, res := [.t 0], code :=
  (.seq (.region false [
    ⟨(some 0), none, .mv (.k (.c (.bool false)))⟩])
  (.seq (.region false [
    ⟨(some 4), none, .bslice 1 [.c (.int .i64 0)] 2 [(0, .k (.c (.int .i64 5))), (1, .k (.c (.int .i64 6)))]⟩,
    ⟨(some 5), none, .build [.c (.slice none 0 0), .c (.slice none 0 0)] [(0, 1, .t 4)]⟩,
    ⟨(some 6), none, .call 18 [.t 5, .k (.c (.int .i64 0)), .k (.c (.int .i64 14))]⟩,
    ⟨(some 3), none, .mv (.t 6)⟩,
    ⟨(some 7), none, .ext 0 (.t 3)⟩,
    ⟨(some 8), none, .ext 1 (.t 3)⟩,
    ⟨(some 1), none, .mv (.t 7)⟩,
    ⟨(some 2), none, .mv (.t 8)⟩])
  (.seq (.region false [
    ⟨(some 9), none, .mv (.t 1)⟩,
    ⟨(some 10), none, .ibin .eql .i64 (.t 9) (.k (.c (.int .i64 10)))⟩,
    ⟨(some 11), none, .mv (.t 10)⟩,
    ⟨(some 12), (some (11, true)), .mv (.t 2)⟩,
    ⟨(some 13), (some (11, true)), .ibin .eql .i64 (.t 12) (.k (.c (.int .i64 0)))⟩,
    ⟨(some 14), none, .pick (.t 11) (.t 13) (.k (.c (.bool false)))⟩,
    ⟨(some 0), none, .mv (.t 14)⟩])
  .ret))) }
theorem rf23_ok : lowF Try.prog 23 = some rf23 := by kernel_rfl
def rf69 : RFun := { nt := 9, np := 1, res := [.t 2], code :=
  (.seq (.region false [
    ⟨(some 2), none, .mv (.k (.c (.bool false)))⟩])
  (.seq (.region false [
    ⟨(some 3), none, .mv (.t 0)⟩,
    ⟨(some 4), none, .ibin .geq .i64 (.t 3) (.k (.c (.int .i64 0)))⟩,
    ⟨(some 5), none, .mv (.t 4)⟩,
    ⟨(some 6), (some (5, true)), .mv (.t 0)⟩,
    ⟨(some 7), (some (5, true)), .ibin .leq .i64 (.t 6) (.k (.c (.int .i64 1000000)))⟩,
    ⟨(some 8), none, .pick (.t 5) (.t 7) (.k (.c (.bool false)))⟩,
    ⟨(some 2), none, .mv (.t 8)⟩])
  .ret)) }
theorem rf69_ok : lowF Try.prog 69 = some rf69 := by kernel_rfl
def rf70 : RFun := { nt := 33, np := 1, res := [.c 2 8 true], code :=
  (.seq (.region false [
    ⟨(some 1), none, .box 2 (.t 0)⟩,
    ⟨(some 2), none, .alloc [.c (.bool false), .c (.bool false), .c (.bool false), .c (.bool false), .c (.bool false), .c (.bool false), .c (.bool false), .c (.map none)]⟩])
  (.seq (.region false [
    ⟨(some 8), none, .mmap⟩,
    ⟨(some 9), none, .build [.c (.bool false), .c (.bool false), .c (.bool false), .c (.bool false), .c (.bool false), .c (.bool false), .c (.bool false), .c (.map none)] [(7, 1, .t 8)]⟩,
    ⟨(some 3), none, .alloc [.c (.bool false), .c (.bool false), .c (.bool false), .c (.bool false), .c (.bool false), .c (.bool false), .c (.bool false), .c (.map none)]⟩,
    ⟨none, none, .store 8 (.t 3) (.t 9)⟩])
  (.seq (.seq (.region false [
    ⟨(some 10), none, .faddr 0 (.t 1)⟩,
    ⟨(some 11), none, .load 1 false (.t 10)⟩,
    ⟨(some 12), none, .len (.t 11)⟩,
    ⟨(some 13), none, .mv (.k (.c (.int .i64 0)))⟩])
  (.block 0
  (.loop
   (.seq (.region false [
      ⟨(some 14), none, .ibin .lss .i64 (.t 13) (.t 12)⟩])
    (.seq (.cond (.t 14)
    .skip
    (.exit 0))
    (.seq (.block 1
    (.seq (.region false [
       ⟨(some 15), none, .iaddr 1 (.t 11) (.t 13)⟩,
       ⟨(some 16), none, .load 1 false (.t 15)⟩,
       ⟨(some 5), none, .mv (.t 16)⟩])
     (.region false [
       ⟨(some 17), none, .mv (.t 5)⟩,
       ⟨(some 18), none, .faddr 0 (.t 3)⟩,
       ⟨(some 19), none, .aaddr 7 1 (.t 18) (.t 17)⟩,
       ⟨none, none, .store 1 (.t 19) (.k (.c (.bool true)))⟩])))
    (.region false [
      ⟨(some 20), none, .ibin .add .i64 (.t 13) (.k (.c (.int .i64 1)))⟩,
      ⟨(some 13), none, .mv (.t 20)⟩])))))))
  (.seq (.seq (.region false [
    ⟨(some 21), none, .faddr 1 (.t 1)⟩,
    ⟨(some 22), none, .load 1 false (.t 21)⟩,
    ⟨(some 23), none, .len (.t 22)⟩,
    ⟨(some 24), none, .mv (.k (.c (.int .i64 0)))⟩])
  (.block 2
  (.loop
   (.seq (.region false [
      ⟨(some 25), none, .ibin .lss .i64 (.t 24) (.t 23)⟩])
    (.seq (.cond (.t 25)
    .skip
    (.exit 2))
    (.seq (.block 3
    (.seq (.region false [
       ⟨(some 26), none, .iaddr 1 (.t 22) (.t 24)⟩,
       ⟨(some 27), none, .load 1 false (.t 26)⟩,
       ⟨(some 7), none, .mv (.t 27)⟩])
     (.region false [
       ⟨(some 28), none, .faddr 7 (.t 3)⟩,
       ⟨(some 29), none, .load 1 false (.t 28)⟩,
       ⟨(some 30), none, .mv (.t 7)⟩,
       ⟨none, none, .mupd .int (.t 29) (.t 30) (.k (.c (.bool true)))⟩])))
    (.region false [
      ⟨(some 31), none, .ibin .add .i64 (.t 24) (.k (.c (.int .i64 1)))⟩,
      ⟨(some 24), none, .mv (.t 31)⟩])))))))
  (.seq (.region false [
    ⟨(some 32), none, .load 8 true (.t 3)⟩,
    ⟨none, none, .store 8 (.t 2) (.t 32)⟩])
  .ret))))) }
theorem rf70_ok : lowF Try.prog 70 = some rf70 := by kernel_rfl
def rf71 : RFun := { nt := 18, np := 2, res := [.t 4], code :=
  (.seq (.region false [
    ⟨(some 2), none, .box 8 (.t 0)⟩,
    ⟨(some 4), none, .mv (.k (.c (.bool false)))⟩])
  (.seq (.region false [
    ⟨(some 5), none, .mv (.t 1)⟩,
    ⟨(some 6), none, .ibin .rem .i64 (.t 5) (.k (.c (.int .i64 7)))⟩,
    ⟨(some 7), none, .faddr 0 (.t 2)⟩,
    ⟨(some 8), none, .aaddr 7 1 (.t 7) (.t 6)⟩,
    ⟨(some 9), none, .load 1 false (.t 8)⟩,
    ⟨(some 10), none, .not (.t 9)⟩,
    ⟨(some 11), none, .mv (.t 10)⟩,
    ⟨(some 12), (some (11, true)), .faddr 7 (.t 2)⟩,
    ⟨(some 13), (some (11, true)), .load 1 false (.t 12)⟩,
    ⟨(some 14), (some (11, true)), .mv (.t 1)⟩,
    ⟨(some 15), (some (11, true)), .look .int (.c (.bool false)) false (.t 13) (.t 14)⟩,
    ⟨(some 16), (some (11, true)), .not (.t 15)⟩,
    ⟨(some 17), none, .pick (.t 11) (.t 16) (.k (.c (.bool false)))⟩,
    ⟨(some 4), none, .mv (.t 17)⟩])
  .ret)) }
theorem rf71_ok : lowF Try.prog 71 = some rf71 := by kernel_rfl
def rf72 : RFun := { nt := 9, np := 1, res := [.t 2], code :=
  (.seq (.region false [
    ⟨(some 2), none, .mv (.k (.c (.bool false)))⟩])
  (.seq (.region false [
    ⟨(some 3), none, .mv (.t 0)⟩,
    ⟨(some 4), none, .ibin .geq .i64 (.t 3) (.k (.c (.int .i64 0)))⟩,
    ⟨(some 5), none, .mv (.t 4)⟩,
    ⟨(some 6), (some (5, true)), .mv (.t 0)⟩,
    ⟨(some 7), (some (5, true)), .ibin .leq .i64 (.t 6) (.k (.c (.int .i64 1000000)))⟩,
    ⟨(some 8), none, .pick (.t 5) (.t 7) (.k (.c (.bool false)))⟩,
    ⟨(some 2), none, .mv (.t 8)⟩])
  .ret)) }
theorem rf72_ok : lowF Try.prog 72 = some rf72 := by kernel_rfl
def rf73 : RFun := { nt := 45, np := 1, res := [.c 2 9 true], code :=
  (.seq (.region false [
    ⟨(some 1), none, .box 2 (.t 0)⟩,
    ⟨(some 2), none, .alloc [.c (.bool false), .c (.bool false), .c (.bool false), .c (.bool false), .c (.bool false), .c (.bool false), .c (.bool false), .c (.int .i64 0), .c (.slice none 0 0)]⟩])
  (.seq (.region false [
    ⟨(some 8), none, .faddr 0 (.t 1)⟩,
    ⟨(some 9), none, .load 1 false (.t 8)⟩,
    ⟨(some 10), none, .len (.t 9)⟩,
    ⟨(some 11), none, .ibin .sub .i64 (.k (.c (.int .i64 7))) (.t 10)⟩,
    ⟨(some 12), none, .build [.c (.bool false), .c (.bool false), .c (.bool false), .c (.bool false), .c (.bool false), .c (.bool false), .c (.bool false), .c (.int .i64 0), .c (.slice none 0 0)] [(7, 1, .t 11)]⟩,
    ⟨(some 3), none, .alloc [.c (.bool false), .c (.bool false), .c (.bool false), .c (.bool false), .c (.bool false), .c (.bool false), .c (.bool false), .c (.int .i64 0), .c (.slice none 0 0)]⟩,
    ⟨none, none, .store 9 (.t 3) (.t 12)⟩])
  (.seq (.seq (.region false [
    ⟨(some 13), none, .faddr 0 (.t 1)⟩,
    ⟨(some 14), none, .load 1 false (.t 13)⟩,
    ⟨(some 15), none, .len (.t 14)⟩,
    ⟨(some 16), none, .mv (.k (.c (.int .i64 0)))⟩])
  (.block 0
  (.loop
   (.seq (.region false [
      ⟨(some 17), none, .ibin .lss .i64 (.t 16) (.t 15)⟩])
    (.seq (.cond (.t 17)
    .skip
    (.exit 0))
    (.seq (.block 1
    (.seq (.region false [
       ⟨(some 18), none, .iaddr 1 (.t 14) (.t 16)⟩,
       ⟨(some 19), none, .load 1 false (.t 18)⟩,
       ⟨(some 5), none, .mv (.t 19)⟩])
     (.region false [
       ⟨(some 20), none, .mv (.t 5)⟩,
       ⟨(some 21), none, .faddr 0 (.t 3)⟩,
       ⟨(some 22), none, .aaddr 7 1 (.t 21) (.t 20)⟩,
       ⟨none, none, .store 1 (.t 22) (.k (.c (.bool true)))⟩])))
    (.region false [
      ⟨(some 23), none, .ibin .add .i64 (.t 16) (.k (.c (.int .i64 1)))⟩,
      ⟨(some 16), none, .mv (.t 23)⟩])))))))
  (.seq (.seq (.region false [
    ⟨(some 24), none, .faddr 1 (.t 1)⟩,
    ⟨(some 25), none, .load 1 false (.t 24)⟩,
    ⟨(some 26), none, .len (.t 25)⟩,
    ⟨(some 27), none, .mv (.k (.c (.int .i64 0)))⟩])
  (.block 2
  (.loop
   (.seq (.region false [
      ⟨(some 28), none, .ibin .lss .i64 (.t 27) (.t 26)⟩])
    (.seq (.cond (.t 28)
    .skip
    (.exit 2))
    (.seq (.block 3
    (.seq (.region false [
       ⟨(some 29), none, .iaddr 1 (.t 25) (.t 27)⟩,
       ⟨(some 30), none, .load 1 false (.t 29)⟩,
       ⟨(some 7), none, .mv (.t 30)⟩])
     (.seq (.region false [
       ⟨(some 31), none, .mv (.t 7)⟩,
       ⟨(some 32), none, .ibin .rem .i64 (.t 31) (.k (.c (.int .i64 7)))⟩,
       ⟨(some 33), none, .faddr 0 (.t 3)⟩,
       ⟨(some 34), none, .aaddr 7 1 (.t 33) (.t 32)⟩,
       ⟨(some 35), none, .load 1 false (.t 34)⟩,
       ⟨(some 36), none, .not (.t 35)⟩])
     (.cond (.t 36)
     (.region false [
        ⟨(some 37), none, .faddr 8 (.t 3)⟩,
        ⟨(some 38), none, .load 1 false (.t 37)⟩,
        ⟨(some 39), none, .mv (.t 7)⟩,
        ⟨(some 40), none, .bslice 1 [.c (.int .i64 0)] 1 [(0, .t 39)]⟩,
        ⟨(some 41), none, .app 1 8 [.c (.int .i64 0)] (.t 38) (.t 40)⟩,
        ⟨(some 42), none, .faddr 8 (.t 3)⟩,
        ⟨none, none, .store 1 (.t 42) (.t 41)⟩])
     .skip))))
    (.region false [
      ⟨(some 43), none, .ibin .add .i64 (.t 27) (.k (.c (.int .i64 1)))⟩,
      ⟨(some 27), none, .mv (.t 43)⟩])))))))
  (.seq (.region false [
    ⟨(some 44), none, .load 9 true (.t 3)⟩,
    ⟨none, none, .store 9 (.t 2) (.t 44)⟩])
  .ret))))) }
theorem rf73_ok : lowF Try.prog 73 = some rf73 := by kernel_rfl
def rf74 : RFun := { nt := 37, np := 2, res := [.t 4], code :=
  (.seq (.region false [
    ⟨(some 2), none, .box 9 (.t 0)⟩,
    ⟨(some 4), none, .mv (.k (.c (.int .i64 0)))⟩])
  (.seq (.region false [
    ⟨(some 9), none, .mv (.t 1)⟩,
    ⟨(some 10), none, .ibin .quo .i64 (.t 9) (.k (.c (.int .i64 7)))⟩,
    ⟨(some 11), none, .faddr 7 (.t 2)⟩,
    ⟨(some 12), none, .load 1 false (.t 11)⟩,
    ⟨(some 13), none, .ibin .mul .i64 (.t 10) (.t 12)⟩,
    ⟨(some 5), none, .mv (.t 13)⟩])
  (.seq (.seq (.region false [
    ⟨(some 14), none, .mv (.t 1)⟩,
    ⟨(some 15), none, .ibin .rem .i64 (.t 14) (.k (.c (.int .i64 7)))⟩,
    ⟨(some 16), none, .mv (.k (.c (.int .i64 0)))⟩])
  (.block 0
  (.loop
   (.seq (.region false [
      ⟨(some 17), none, .ibin .lss .i64 (.t 16) (.t 15)⟩])
    (.seq (.cond (.t 17)
    .skip
    (.exit 0))
    (.seq (.block 1
    (.seq (.region false [
       ⟨(some 18), none, .mv (.t 16)⟩,
       ⟨(some 6), none, .mv (.t 18)⟩])
     (.seq (.region false [
       ⟨(some 19), none, .mv (.t 6)⟩,
       ⟨(some 20), none, .faddr 0 (.t 2)⟩,
       ⟨(some 21), none, .aaddr 7 1 (.t 20) (.t 19)⟩,
       ⟨(some 22), none, .load 1 false (.t 21)⟩,
       ⟨(some 23), none, .not (.t 22)⟩])
     (.cond (.t 23)
     (.region false [
        ⟨(some 24), none, .mv (.t 5)⟩,
        ⟨(some 25), none, .ibin .add .i64 (.t 24) (.k (.c (.int .i64 1)))⟩,
        ⟨(some 5), none, .mv (.t 25)⟩])
     .skip))))
    (.region false [
      ⟨(some 26), none, .ibin .add .i64 (.t 16) (.k (.c (.int .i64 1)))⟩,
      ⟨(some 16), none, .mv (.t 26)⟩])))))))
  (.seq (.region false [
    ⟨(some 28), none, .faddr 8 (.t 2)⟩,
    ⟨(some 29), none, .load 1 false (.t 28)⟩,
    ⟨(some 30), none, .mv (.t 1)⟩,
    ⟨(some 31), none, .call 53 [.t 29, .t 30]⟩,
    ⟨(some 27), none, .mv (.t 31)⟩,
    ⟨(some 32), none, .ext 0 (.t 27)⟩,
    ⟨(some 33), none, .ext 1 (.t 27)⟩,
    ⟨(some 7), none, .mv (.t 32)⟩,
    ⟨(some 8), none, .mv (.t 33)⟩])
  (.seq (.region false [
    ⟨(some 34), none, .mv (.t 5)⟩,
    ⟨(some 35), none, .mv (.t 7)⟩,
    ⟨(some 36), none, .ibin .sub .i64 (.t 34) (.t 35)⟩,
    ⟨(some 4), none, .mv (.t 36)⟩])
  .ret))))) }
theorem rf74_ok : lowF Try.prog 74 = some rf74 := by kernel_rfl
def rf75 : RFun := { nt := 21, np := 3, res := [.t 6], code :=
  (.seq (.region false [
    ⟨(some 3), none, .box 8 (.t 0)⟩,
    ⟨(some 6), none, .mv (.k (.c (.int .i64 0)))⟩])
  (.seq (.region false [
    ⟨(some 7), none, .mv (.k (.c (.int .i64 0)))⟩])
  (.seq (.seq (.region false [
    ⟨(some 9), none, .mv (.t 1)⟩,
    ⟨(some 8), none, .mv (.t 9)⟩])
  (.block 0
  (.loop
   (.seq (.seq (.region false [
      ⟨(some 10), none, .mv (.t 8)⟩,
      ⟨(some 11), none, .mv (.t 2)⟩,
      ⟨(some 12), none, .ibin .lss .i64 (.t 10) (.t 11)⟩])
    (.cond (.t 12)
    .skip
    (.exit 0)))
    (.seq (.block 1
    (.seq (.region false [
       ⟨(some 15), none, .load 8 true (.t 3)⟩,
       ⟨(some 16), none, .mv (.t 8)⟩,
       ⟨(some 17), none, .call 71 [.t 15, .t 16]⟩])
     (.cond (.t 17)
     (.region false [
        ⟨(some 18), none, .mv (.t 7)⟩,
        ⟨(some 19), none, .ibin .add .i64 (.t 18) (.k (.c (.int .i64 1)))⟩,
        ⟨(some 7), none, .mv (.t 19)⟩])
     .skip)))
    (.region false [
      ⟨(some 13), none, .mv (.t 8)⟩,
      ⟨(some 14), none, .ibin .add .i64 (.t 13) (.k (.c (.int .i64 1)))⟩,
      ⟨(some 8), none, .mv (.t 14)⟩]))))))
  (.seq (.region false [
    ⟨(some 20), none, .mv (.t 7)⟩,
    ⟨(some 6), none, .mv (.t 20)⟩])
  .ret)))) }
theorem rf75_ok : lowF Try.prog 75 = some rf75 := by kernel_rfl
def rf76 : RFun := { nt := 30, np := 3, res := [.t 6, .t 7], code :=
  (.seq (.region false [
    ⟨(some 3), none, .box 8 (.t 0)⟩,
    ⟨(some 6), none, .mv (.k (.c (.int .i64 0)))⟩,
    ⟨(some 7), none, .mv (.k (.c (.bool false)))⟩])
  (.seq (.region false [
    ⟨(some 9), none, .mv (.t 1)⟩,
    ⟨(some 8), none, .mv (.t 9)⟩])
  (.seq (.block 0
  (.loop
   (.seq (.seq (.region false [
      ⟨(some 10), none, .mv (.t 2)⟩,
      ⟨(some 11), none, .ibin .gtr .i64 (.t 10) (.k (.c (.int .i64 0)))⟩,
      ⟨(some 12), none, .mv (.t 11)⟩,
      ⟨(some 13), (some (12, true)), .mv (.t 8)⟩,
      ⟨(some 14), (some (12, true)), .ibin .leq .i64 (.t 13) (.k (.c (.int .i64 1000000)))⟩,
      ⟨(some 15), none, .pick (.t 12) (.t 14) (.k (.c (.bool false)))⟩])
    (.cond (.t 15)
    .skip
    (.exit 0)))
    (.block 1
    (.seq (.seq (.region false [
       ⟨(some 16), none, .load 8 true (.t 3)⟩,
       ⟨(some 17), none, .mv (.t 8)⟩,
       ⟨(some 18), none, .call 71 [.t 16, .t 17]⟩])
     (.cond (.t 18)
     (.region false [
        ⟨(some 19), none, .mv (.t 2)⟩,
        ⟨(some 20), none, .ibin .sub .i64 (.t 19) (.k (.c (.int .i64 1)))⟩,
        ⟨(some 2), none, .mv (.t 20)⟩])
     .skip))
     (.region false [
       ⟨(some 21), none, .mv (.t 8)⟩,
       ⟨(some 22), none, .ibin .add .i64 (.t 21) (.k (.c (.int .i64 1)))⟩,
       ⟨(some 8), none, .mv (.t 22)⟩]))))))
  (.seq (.region false [
    ⟨(some 23), none, .mv (.t 8)⟩,
    ⟨(some 24), none, .mv (.t 2)⟩,
    ⟨(some 25), none, .ibin .eql .i64 (.t 24) (.k (.c (.int .i64 0)))⟩,
    ⟨(some 26), none, .mv (.t 25)⟩,
    ⟨(some 27), (some (26, true)), .mv (.t 8)⟩,
    ⟨(some 28), (some (26, true)), .ibin .leq .i64 (.t 27) (.k (.c (.int .i64 1000000)))⟩,
    ⟨(some 29), none, .pick (.t 26) (.t 28) (.k (.c (.bool false)))⟩,
    ⟨(some 6), none, .mv (.t 23)⟩,
    ⟨(some 7), none, .mv (.t 29)⟩])
  .ret)))) }
theorem rf76_ok : lowF Try.prog 76 = some rf76 := by kernel_rfl
def rf77 : RFun := { nt := 24, np := 3, res := [.t 6, .t 7], code :=
  (.seq (.region false [
    ⟨(some 3), none, .box 9 (.t 0)⟩,
    ⟨(some 4), none, .box 1 (.t 1)⟩,
    ⟨(some 6), none, .mv (.k (.c (.int .i64 0)))⟩,
    ⟨(some 7), none, .mv (.k (.c (.bool false)))⟩])
  (.seq (.region false [
    ⟨(some 10), none, .load 9 true (.t 3)⟩,
    ⟨(some 11), none, .load 1 false (.t 4)⟩,
    ⟨(some 12), none, .call 74 [.t 10, .t 11]⟩,
    ⟨(some 13), none, .mv (.t 2)⟩,
    ⟨(some 14), none, .ibin .add .i64 (.t 12) (.t 13)⟩,
    ⟨(some 8), none, .alloc [.c (.int .i64 0)]⟩,
    ⟨none, none, .store 1 (.t 8) (.t 14)⟩])
  (.seq (.region true [
    ⟨(some 15), none, .load 1 false (.t 4)⟩,
    ⟨(some 16), none, .load 1 false (.t 4)⟩,
    ⟨(some 17), none, .ibin .sub .i64 (.k (.c (.int .i64 1000001))) (.t 16)⟩,
    ⟨(some 18), none, .mkf (.func 126) [] [.t 3, .t 4, .t 8]⟩,
    ⟨(some 19), none, .call 125 [.t 17, .t 18]⟩,
    ⟨(some 20), none, .ibin .add .i64 (.t 15) (.t 19)⟩,
    ⟨(some 9), none, .mv (.t 20)⟩])
  (.seq (.region false [
    ⟨(some 21), none, .mv (.t 9)⟩,
    ⟨(some 22), none, .mv (.t 9)⟩,
    ⟨(some 23), none, .ibin .leq .i64 (.t 22) (.k (.c (.int .i64 1000000)))⟩,
    ⟨(some 6), none, .mv (.t 21)⟩,
    ⟨(some 7), none, .mv (.t 23)⟩])
  .ret)))) }
theorem rf77_ok : lowF Try.prog 77 = some rf77 := by kernel_rfl
def rf78 : RFun := { nt := 35, np := 2, res := [.t 4], code :=
  (.seq (.region false [
    ⟨(some 4), none, .mv (.k (.c (.int .i64 0)))⟩])
  (.seq (.seq (.region false [
    ⟨(some 7), none, .mv (.t 0)⟩,
    ⟨(some 8), none, .len (.t 7)⟩,
    ⟨(some 9), none, .mv (.k (.c (.int .i64 0)))⟩])
  (.block 0
  (.loop
   (.seq (.region false [
      ⟨(some 10), none, .ibin .lss .i64 (.t 9) (.t 8)⟩])
    (.seq (.cond (.t 10)
    .skip
    (.exit 0))
    (.seq (.block 1
    (.seq (.region false [
       ⟨(some 11), none, .mv (.t 9)⟩,
       ⟨(some 12), none, .iaddr 1 (.t 7) (.t 9)⟩,
       ⟨(some 13), none, .load 1 false (.t 12)⟩,
       ⟨(some 5), none, .mv (.t 11)⟩,
       ⟨(some 6), none, .mv (.t 13)⟩])
     (.block 2
     (.seq (.region false [
        ⟨(some 15), none, .mv (.t 6)⟩,
        ⟨(some 16), none, .ibin .lss .i64 (.t 15) (.k (.c (.int .i64 0)))⟩,
        ⟨(some 17), none, .mv (.t 16)⟩,
        ⟨(some 18), (some (17, false)), .mv (.t 6)⟩,
        ⟨(some 19), (some (17, false)), .mv (.t 1)⟩,
        ⟨(some 20), (some (17, false)), .ibin .gtr .i64 (.t 18) (.t 19)⟩,
        ⟨(some 21), none, .pick (.t 17) (.k (.c (.bool true))) (.t 20)⟩,
        ⟨(some 14), none, .mv (.t 21)⟩])
      (.cond (.t 14)
      (.seq (.region false [
         ⟨(some 4), none, .mv (.k (.c (.int .i64 9)))⟩])
       .ret)
      (.seq (.region false [
         ⟨(some 23), none, .mv (.t 5)⟩,
         ⟨(some 24), none, .ibin .gtr .i64 (.t 23) (.k (.c (.int .i64 0)))⟩,
         ⟨(some 25), none, .mv (.t 24)⟩,
         ⟨(some 26), (some (25, true)), .mv (.t 6)⟩,
         ⟨(some 27), (some (25, true)), .mv (.t 0)⟩,
         ⟨(some 28), (some (25, true)), .mv (.t 5)⟩,
         ⟨(some 29), (some (25, true)), .ibin .sub .i64 (.t 28) (.k (.c (.int .i64 1)))⟩,
         ⟨(some 30), (some (25, true)), .iaddr 1 (.t 27) (.t 29)⟩,
         ⟨(some 31), (some (25, true)), .load 1 false (.t 30)⟩,
         ⟨(some 32), (some (25, true)), .ibin .leq .i64 (.t 26) (.t 31)⟩,
         ⟨(some 33), none, .pick (.t 25) (.t 32) (.k (.c (.bool false)))⟩,
         ⟨(some 22), none, .mv (.t 33)⟩])
       (.cond (.t 22)
       (.seq (.region false [
          ⟨(some 4), none, .mv (.k (.c (.int .i64 10)))⟩])
        .ret)
       .skip)))))))
    (.region false [
      ⟨(some 34), none, .ibin .add .i64 (.t 9) (.k (.c (.int .i64 1)))⟩,
      ⟨(some 9), none, .mv (.t 34)⟩])))))))
  (.seq (.region false [
    ⟨(some 4), none, .mv (.k (.c (.int .i64 0)))⟩])
  .ret))) }
theorem rf78_ok : lowF Try.prog 78 = some rf78 := by kernel_rfl
def rf125 : RFun := { nt := 26, np := 2, res := [.t 4], code :=
  (.seq (.region false [
    ⟨(some 4), none, .mv (.k (.c (.int .i64 0)))⟩])
  (.seq (.region false [
    ⟨(some 8), none, .mv (.t 0)⟩,
    ⟨(some 5), none, .mv (.k (.c (.int .i64 0)))⟩,
    ⟨(some 6), none, .mv (.t 8)⟩])
  (.seq (.block 0
  (.loop
   (.seq (.seq (.region false [
      ⟨(some 9), none, .mv (.t 5)⟩,
      ⟨(some 10), none, .mv (.t 6)⟩,
      ⟨(some 11), none, .ibin .lss .i64 (.t 9) (.t 10)⟩])
    (.cond (.t 11)
    .skip
    (.exit 0)))
    (.block 1
    (.seq (.region false [
       ⟨(some 12), none, .mv (.t 5)⟩,
       ⟨(some 13), none, .mv (.t 6)⟩,
       ⟨(some 14), none, .ibin .add .i64 (.t 12) (.t 13)⟩,
       ⟨(some 15), none, .conv .u64 (.t 14)⟩,
       ⟨(some 16), none, .shift .shr .u64 (.t 15) (.k (.c (.int .u64 1)))⟩,
       ⟨(some 17), none, .conv .i64 (.t 16)⟩,
       ⟨(some 7), none, .mv (.t 17)⟩])
     (.seq (.region false [
       ⟨(some 18), none, .mv (.t 1)⟩,
       ⟨(some 19), none, .mv (.t 7)⟩,
       ⟨(some 20), none, .callv (.t 18) [.t 19]⟩,
       ⟨(some 21), none, .not (.t 20)⟩])
     (.cond (.t 21)
     (.region false [
        ⟨(some 22), none, .mv (.t 7)⟩,
        ⟨(some 23), none, .ibin .add .i64 (.t 22) (.k (.c (.int .i64 1)))⟩,
        ⟨(some 5), none, .mv (.t 23)⟩])
     (.region false [
        ⟨(some 24), none, .mv (.t 7)⟩,
        ⟨(some 6), none, .mv (.t 24)⟩]))))))))
  (.seq (.region false [
    ⟨(some 25), none, .mv (.t 5)⟩,
    ⟨(some 4), none, .mv (.t 25)⟩])
  .ret)))) }
theorem rf125_ok : lowF Try.prog 125 = some rf125 := by kernel_rfl
def rf126 : RFun := { nt := 13, np := 4, res := [.t 5], code :=
  (.seq (.region false [
    ⟨(some 5), none, .mv (.k (.c (.bool false)))⟩])
  (.seq (.region true [
    ⟨(some 6), none, .load 9 true (.t 1)⟩,
    ⟨(some 7), none, .load 1 false (.t 2)⟩,
    ⟨(some 8), none, .mv (.t 0)⟩,
    ⟨(some 9), none, .ibin .add .i64 (.t 7) (.t 8)⟩,
    ⟨(some 10), none, .call 74 [.t 6, .t 9]⟩,
    ⟨(some 11), none, .load 1 false (.t 3)⟩,
    ⟨(some 12), none, .ibin .geq .i64 (.t 10) (.t 11)⟩,
    ⟨(some 5), none, .mv (.t 12)⟩])
  .ret)) }
theorem rf126_ok : lowF Try.prog 126 = some rf126 := by kernel_rfl
def rf53 : RFun := { nt := 54, np := 2, res := [.t 4, .t 5], code :=
  (.seq (.region false [
    ⟨(some 4), none, .mv (.k (.c (.int .i64 0)))⟩,
    ⟨(some 5), none, .mv (.k (.c (.bool false)))⟩])
  (.seq (.region false [
    ⟨(some 10), none, .mv (.t 0)⟩,
    ⟨(some 11), none, .len (.t 10)⟩,
    ⟨(some 6), none, .mv (.t 11)⟩])
  (.seq (.region false [
    ⟨(some 12), none, .mv (.t 6)⟩,
    ⟨(some 7), none, .mv (.k (.c (.int .i64 0)))⟩,
    ⟨(some 8), none, .mv (.t 12)⟩])
  (.seq (.block 0
  (.loop
   (.seq (.seq (.region false [
      ⟨(some 13), none, .mv (.t 7)⟩,
      ⟨(some 14), none, .mv (.t 8)⟩,
      ⟨(some 15), none, .ibin .lss .i64 (.t 13) (.t 14)⟩])
    (.cond (.t 15)
    .skip
    (.exit 0)))
    (.block 1
    (.seq (.region false [
       ⟨(some 16), none, .mv (.t 7)⟩,
       ⟨(some 17), none, .mv (.t 8)⟩,
       ⟨(some 18), none, .ibin .add .i64 (.t 16) (.t 17)⟩,
       ⟨(some 19), none, .conv .u64 (.t 18)⟩,
       ⟨(some 20), none, .shift .shr .u64 (.t 19) (.k (.c (.int .u64 1)))⟩,
       ⟨(some 21), none, .conv .i64 (.t 20)⟩,
       ⟨(some 9), none, .mv (.t 21)⟩])
     (.seq (.region false [
       ⟨(some 22), none, .mv (.t 0)⟩,
       ⟨(some 23), none, .mv (.t 9)⟩,
       ⟨(some 24), none, .iaddr 1 (.t 22) (.t 23)⟩,
       ⟨(some 25), none, .load 1 false (.t 24)⟩,
       ⟨(some 26), none, .mv (.t 1)⟩,
       ⟨(some 27), none, .call 108 [.t 25, .t 26]⟩])
     (.cond (.t 27)
     (.region false [
        ⟨(some 28), none, .mv (.t 9)⟩,
        ⟨(some 29), none, .ibin .add .i64 (.t 28) (.k (.c (.int .i64 1)))⟩,
        ⟨(some 7), none, .mv (.t 29)⟩])
     (.region false [
        ⟨(some 30), none, .mv (.t 9)⟩,
        ⟨(some 8), none, .mv (.t 30)⟩]))))))))
  (.seq (.region false [
    ⟨(some 31), none, .mv (.t 7)⟩,
    ⟨(some 32), none, .mv (.t 7)⟩,
    ⟨(some 33), none, .mv (.t 6)⟩,
    ⟨(some 34), none, .ibin .lss .i64 (.t 32) (.t 33)⟩,
    ⟨(some 35), none, .mv (.t 34)⟩,
    ⟨(some 36), (some (35, true)), .mv (.t 0)⟩,
    ⟨(some 37), (some (35, true)), .mv (.t 7)⟩,
    ⟨(some 38), (some (35, true)), .iaddr 1 (.t 36) (.t 37)⟩,
    ⟨(some 39), (some (35, true)), .load 1 false (.t 38)⟩,
    ⟨(some 40), (some (35, true)), .mv (.t 1)⟩,
    ⟨(some 41), (some (35, true)), .ibin .eql .i64 (.t 39) (.t 40)⟩,
    ⟨(some 42), (some (35, true)), .mv (.t 41)⟩,
    ⟨(some 43), (some (42, false)), .mv (.t 0)⟩,
    ⟨(some 44), (some (42, false)), .mv (.t 7)⟩,
    ⟨(some 45), (some (42, false)), .iaddr 1 (.t 43) (.t 44)⟩,
    ⟨(some 46), (some (42, false)), .load 1 false (.t 45)⟩,
    ⟨(some 47), (some (42, false)), .call 109 [.t 46]⟩,
    ⟨(some 48), (some (42, false)), .mv (.t 47)⟩,
    ⟨(some 49), (some (48, true)), .mv (.t 1)⟩,
    ⟨(some 50), (some (48, true)), .call 109 [.t 49]⟩,
    ⟨(some 51), (some (42, false)), .pick (.t 48) (.t 50) (.k (.c (.bool false)))⟩,
    ⟨(some 52), (some (35, true)), .pick (.t 42) (.k (.c (.bool true))) (.t 51)⟩,
    ⟨(some 53), none, .pick (.t 35) (.t 52) (.k (.c (.bool false)))⟩,
    ⟨(some 4), none, .mv (.t 31)⟩,
    ⟨(some 5), none, .mv (.t 53)⟩])
  .ret))))) }
theorem rf53_ok : lowF Try.prog 53 = some rf53 := by kernel_rfl
def rf108 : RFun := { nt := 17, np := 2, res := [.t 4], code :=
  (.seq (.region false [
    ⟨(some 4), none, .mv (.k (.c (.bool false)))⟩])
  (.seq (.region false [
    ⟨(some 5), none, .mv (.t 0)⟩,
    ⟨(some 6), none, .call 140 [.t 5]⟩,
    ⟨(some 7), none, .mv (.t 6)⟩,
    ⟨(some 8), (some (7, true)), .mv (.t 1)⟩,
    ⟨(some 9), (some (7, true)), .call 140 [.t 8]⟩,
    ⟨(some 10), (some (7, true)), .not (.t 9)⟩,
    ⟨(some 11), none, .pick (.t 7) (.t 10) (.k (.c (.bool false)))⟩,
    ⟨(some 12), none, .mv (.t 11)⟩,
    ⟨(some 13), (some (12, false)), .mv (.t 0)⟩,
    ⟨(some 14), (some (12, false)), .mv (.t 1)⟩,
    ⟨(some 15), (some (12, false)), .ibin .lss .i64 (.t 13) (.t 14)⟩,
    ⟨(some 16), none, .pick (.t 12) (.k (.c (.bool true))) (.t 15)⟩,
    ⟨(some 4), none, .mv (.t 16)⟩])
  .ret)) }
theorem rf108_ok : lowF Try.prog 108 = some rf108 := by kernel_rfl
def rf109 : RFun := { nt := 6, np := 1, res := [.t 2], code :=
  (.seq (.region false [
    ⟨(some 2), none, .mv (.k (.c (.bool false)))⟩])
  (.seq (.region false [
    ⟨(some 3), none, .mv (.t 0)⟩,
    ⟨(some 4), none, .mv (.t 0)⟩,
    ⟨(some 5), none, .ibin .neq .i64 (.t 3) (.t 4)⟩,
    ⟨(some 2), none, .mv (.t 5)⟩])
  .ret)) }
theorem rf109_ok : lowF Try.prog 109 = some rf109 := by kernel_rfl
def rf140 : RFun := { nt := 6, np := 1, res := [.t 2], code :=
  (.seq (.region false [
    ⟨(some 2), none, .mv (.k (.c (.bool false)))⟩])
  (.seq (.region false [
    ⟨(some 3), none, .mv (.t 0)⟩,
    ⟨(some 4), none, .mv (.t 0)⟩,
    ⟨(some 5), none, .ibin .neq .i64 (.t 3) (.t 4)⟩,
    ⟨(some 2), none, .mv (.t 5)⟩])
  .ret)) }
theorem rf140_ok : lowF Try.prog 140 = some rf140 := by kernel_rfl
end Go.Abs
