/- The functions' code in the resolved form of Abs (printed by a program of this repo). -/
import Derived.Test.YtjjhmldeammecaaFHw
import Derived.Test.YtjjhmldeammecaaProg
import Derived.Test.YtjjhmldeammecaaRHk
import Derived.Test.YtjjhmldeammecaaFHd
import Derived.Test.YtjjhmldeammecaaRHc
namespace Go.Abs
open Go Go.Proofs
set_option maxRecDepth 8000
def rc148 : RFun := { nt := 8, np := 1, res := [.t 2], code :=
  (.seq (.region false [
    ⟨(some 2), none, .mv (.k (.c (.slice none 0 0)))⟩])
  (.seq (.seq (.region false [
    ⟨(some 3), none, .mv (.t 0)⟩,
    ⟨(some 4), none, .snil false (.t 3)⟩])
  (.cond (.t 4)
  (.seq (.region false [
     ⟨(some 2), none, .mv (.k (.c (.slice none 0 0)))⟩])
   .ret)
  .skip))
  (.seq (.region false [
    ⟨(some 5), none, .bslice 6 [.c (.string ⟨#[]⟩), .c (.string ⟨#[]⟩), .c (.int .i64 0), .c (.int .i64 0), .c (.int .i64 0), .c (.bool false)] 0 []⟩,
    ⟨(some 6), none, .mv (.t 0)⟩,
    ⟨(some 7), none, .app 6 64 [.c (.string ⟨#[]⟩), .c (.string ⟨#[]⟩), .c (.int .i64 0), .c (.int .i64 0), .c (.int .i64 0), .c (.bool false)] (.t 5) (.t 6)⟩,
    ⟨(some 2), none, .mv (.t 7)⟩])
  .ret))) }
theorem rc148_ok : lowF Try.prog 148 = some rc148 := by kernel_rfl
def rc171 : RFun := { nt := 53, np := 4, res := [], code :=
  (.seq (.region false [
    ⟨(some 10), none, .mv (.t 1)⟩,
    ⟨(some 11), none, .ibin .add .i64 (.t 10) (.k (.c (.int .i64 1)))⟩,
    ⟨(some 8), none, .mv (.t 11)⟩])
  (.block 0
  (.loop
   (.seq (.seq (.region false [
      ⟨(some 12), none, .mv (.t 8)⟩,
      ⟨(some 13), none, .mv (.t 2)⟩,
      ⟨(some 14), none, .ibin .lss .i64 (.t 12) (.t 13)⟩])
    (.cond (.t 14)
    .skip
    (.exit 0)))
    (.seq (.block 1
    (.seq (.region false [
       ⟨(some 17), none, .mv (.t 8)⟩,
       ⟨(some 9), none, .mv (.t 17)⟩])
     (.block 2
     (.loop
      (.seq (.seq (.region true [
         ⟨(some 18), none, .mv (.t 9)⟩,
         ⟨(some 19), none, .mv (.t 1)⟩,
         ⟨(some 20), none, .ibin .gtr .i64 (.t 18) (.t 19)⟩,
         ⟨(some 21), none, .mv (.t 20)⟩,
         ⟨(some 22), (some (21, true)), .mv (.t 3)⟩,
         ⟨(some 23), (some (21, true)), .mv (.t 0)⟩,
         ⟨(some 24), (some (21, true)), .mv (.t 9)⟩,
         ⟨(some 25), (some (21, true)), .iaddr 6 (.t 23) (.t 24)⟩,
         ⟨(some 26), (some (21, true)), .load 6 true (.t 25)⟩,
         ⟨(some 27), (some (21, true)), .mv (.t 0)⟩,
         ⟨(some 28), (some (21, true)), .mv (.t 9)⟩,
         ⟨(some 29), (some (21, true)), .ibin .sub .i64 (.t 28) (.k (.c (.int .i64 1)))⟩,
         ⟨(some 30), (some (21, true)), .iaddr 6 (.t 27) (.t 29)⟩,
         ⟨(some 31), (some (21, true)), .load 6 true (.t 30)⟩,
         ⟨(some 32), (some (21, true)), .callv (.t 22) [.t 26, .t 31]⟩,
         ⟨(some 33), (some (21, true)), .ibin .lss .i64 (.t 32) (.k (.c (.int .i64 0)))⟩,
         ⟨(some 34), none, .pick (.t 21) (.t 33) (.k (.c (.bool false)))⟩])
       (.cond (.t 34)
       .skip
       (.exit 2)))
       (.seq (.block 3
       (.region true [
          ⟨(some 37), none, .mv (.t 0)⟩,
          ⟨(some 38), none, .mv (.t 9)⟩,
          ⟨(some 39), none, .mv (.t 0)⟩,
          ⟨(some 40), none, .mv (.t 9)⟩,
          ⟨(some 41), none, .ibin .sub .i64 (.t 40) (.k (.c (.int .i64 1)))⟩,
          ⟨(some 42), none, .mv (.t 0)⟩,
          ⟨(some 43), none, .mv (.t 9)⟩,
          ⟨(some 44), none, .ibin .sub .i64 (.t 43) (.k (.c (.int .i64 1)))⟩,
          ⟨(some 45), none, .iaddr 6 (.t 42) (.t 44)⟩,
          ⟨(some 46), none, .load 6 true (.t 45)⟩,
          ⟨(some 47), none, .mv (.t 0)⟩,
          ⟨(some 48), none, .mv (.t 9)⟩,
          ⟨(some 49), none, .iaddr 6 (.t 47) (.t 48)⟩,
          ⟨(some 50), none, .load 6 true (.t 49)⟩,
          ⟨(some 51), none, .iaddr 6 (.t 37) (.t 38)⟩,
          ⟨none, none, .store 6 (.t 51) (.t 46)⟩,
          ⟨(some 52), none, .iaddr 6 (.t 39) (.t 41)⟩,
          ⟨none, none, .store 6 (.t 52) (.t 50)⟩]))
       (.region false [
         ⟨(some 35), none, .mv (.t 9)⟩,
         ⟨(some 36), none, .ibin .sub .i64 (.t 35) (.k (.c (.int .i64 1)))⟩,
         ⟨(some 9), none, .mv (.t 36)⟩])))))))
    (.region false [
      ⟨(some 15), none, .mv (.t 8)⟩,
      ⟨(some 16), none, .ibin .add .i64 (.t 15) (.k (.c (.int .i64 1)))⟩,
      ⟨(some 8), none, .mv (.t 16)⟩])))))) }
theorem rc171_ok : lowF Try.prog 171 = some rc171 := by kernel_rfl
def rc185 : RFun := { nt := 38, np := 5, res := [], code :=
  (.seq (.region false [
    ⟨(some 10), none, .mv (.k (.c (.int .i64 0)))⟩])
  (.block 0
  (.loop
   (.seq (.seq (.region false [
      ⟨(some 11), none, .mv (.t 10)⟩,
      ⟨(some 12), none, .mv (.t 3)⟩,
      ⟨(some 13), none, .ibin .lss .i64 (.t 11) (.t 12)⟩])
    (.cond (.t 13)
    .skip
    (.exit 0)))
    (.seq (.block 1
    (.region true [
       ⟨(some 16), none, .mv (.t 0)⟩,
       ⟨(some 17), none, .mv (.t 1)⟩,
       ⟨(some 18), none, .mv (.t 10)⟩,
       ⟨(some 19), none, .ibin .add .i64 (.t 17) (.t 18)⟩,
       ⟨(some 20), none, .mv (.t 0)⟩,
       ⟨(some 21), none, .mv (.t 2)⟩,
       ⟨(some 22), none, .mv (.t 10)⟩,
       ⟨(some 23), none, .ibin .add .i64 (.t 21) (.t 22)⟩,
       ⟨(some 24), none, .mv (.t 0)⟩,
       ⟨(some 25), none, .mv (.t 2)⟩,
       ⟨(some 26), none, .mv (.t 10)⟩,
       ⟨(some 27), none, .ibin .add .i64 (.t 25) (.t 26)⟩,
       ⟨(some 28), none, .iaddr 6 (.t 24) (.t 27)⟩,
       ⟨(some 29), none, .load 6 true (.t 28)⟩,
       ⟨(some 30), none, .mv (.t 0)⟩,
       ⟨(some 31), none, .mv (.t 1)⟩,
       ⟨(some 32), none, .mv (.t 10)⟩,
       ⟨(some 33), none, .ibin .add .i64 (.t 31) (.t 32)⟩,
       ⟨(some 34), none, .iaddr 6 (.t 30) (.t 33)⟩,
       ⟨(some 35), none, .load 6 true (.t 34)⟩,
       ⟨(some 36), none, .iaddr 6 (.t 16) (.t 19)⟩,
       ⟨none, none, .store 6 (.t 36) (.t 29)⟩,
       ⟨(some 37), none, .iaddr 6 (.t 20) (.t 23)⟩,
       ⟨none, none, .store 6 (.t 37) (.t 35)⟩]))
    (.region false [
      ⟨(some 14), none, .mv (.t 10)⟩,
      ⟨(some 15), none, .ibin .add .i64 (.t 14) (.k (.c (.int .i64 1)))⟩,
      ⟨(some 10), none, .mv (.t 15)⟩])))))) }
theorem rc185_ok : lowF Try.prog 185 = some rc185 := by kernel_rfl
def rc181 : RFun := { nt := 58, np := 5, res := [], code :=
  (.seq (.region false [
    ⟨(some 12), none, .mv (.t 2)⟩,
    ⟨(some 13), none, .mv (.t 1)⟩,
    ⟨(some 14), none, .ibin .sub .i64 (.t 12) (.t 13)⟩,
    ⟨(some 10), none, .mv (.t 14)⟩])
  (.seq (.region false [
    ⟨(some 15), none, .mv (.t 3)⟩,
    ⟨(some 16), none, .mv (.t 2)⟩,
    ⟨(some 17), none, .ibin .sub .i64 (.t 15) (.t 16)⟩,
    ⟨(some 11), none, .mv (.t 17)⟩])
  (.seq (.block 0
  (.loop
   (.seq (.seq (.region false [
      ⟨(some 18), none, .mv (.t 10)⟩,
      ⟨(some 19), none, .mv (.t 11)⟩,
      ⟨(some 20), none, .ibin .neq .i64 (.t 18) (.t 19)⟩])
    (.cond (.t 20)
    .skip
    (.exit 0)))
    (.block 1
    (.seq (.region false [
       ⟨(some 21), none, .mv (.t 10)⟩,
       ⟨(some 22), none, .mv (.t 11)⟩,
       ⟨(some 23), none, .ibin .gtr .i64 (.t 21) (.t 22)⟩])
     (.cond (.t 23)
     (.seq (.region false [
        ⟨(some 24), none, .mv (.t 0)⟩,
        ⟨(some 25), none, .mv (.t 2)⟩,
        ⟨(some 26), none, .mv (.t 10)⟩,
        ⟨(some 27), none, .ibin .sub .i64 (.t 25) (.t 26)⟩,
        ⟨(some 28), none, .mv (.t 2)⟩,
        ⟨(some 29), none, .mv (.t 11)⟩,
        ⟨(some 30), none, .mv (.t 4)⟩,
        ⟨(some 31), none, .call 185 [.t 24, .t 27, .t 28, .t 29, .t 30]⟩])
      (.region false [
        ⟨(some 32), none, .mv (.t 10)⟩,
        ⟨(some 33), none, .mv (.t 11)⟩,
        ⟨(some 34), none, .ibin .sub .i64 (.t 32) (.t 33)⟩,
        ⟨(some 10), none, .mv (.t 34)⟩]))
     (.seq (.region false [
        ⟨(some 35), none, .mv (.t 0)⟩,
        ⟨(some 36), none, .mv (.t 2)⟩,
        ⟨(some 37), none, .mv (.t 10)⟩,
        ⟨(some 38), none, .ibin .sub .i64 (.t 36) (.t 37)⟩,
        ⟨(some 39), none, .mv (.t 2)⟩,
        ⟨(some 40), none, .mv (.t 11)⟩,
        ⟨(some 41), none, .ibin .add .i64 (.t 39) (.t 40)⟩,
        ⟨(some 42), none, .mv (.t 10)⟩,
        ⟨(some 43), none, .ibin .sub .i64 (.t 41) (.t 42)⟩,
        ⟨(some 44), none, .mv (.t 10)⟩,
        ⟨(some 45), none, .mv (.t 4)⟩,
        ⟨(some 46), none, .call 185 [.t 35, .t 38, .t 43, .t 44, .t 45]⟩])
      (.region false [
        ⟨(some 47), none, .mv (.t 11)⟩,
        ⟨(some 48), none, .mv (.t 10)⟩,
        ⟨(some 49), none, .ibin .sub .i64 (.t 47) (.t 48)⟩,
        ⟨(some 11), none, .mv (.t 49)⟩]))))))))
  (.region false [
    ⟨(some 50), none, .mv (.t 0)⟩,
    ⟨(some 51), none, .mv (.t 2)⟩,
    ⟨(some 52), none, .mv (.t 10)⟩,
    ⟨(some 53), none, .ibin .sub .i64 (.t 51) (.t 52)⟩,
    ⟨(some 54), none, .mv (.t 2)⟩,
    ⟨(some 55), none, .mv (.t 10)⟩,
    ⟨(some 56), none, .mv (.t 4)⟩,
    ⟨(some 57), none, .call 185 [.t 50, .t 53, .t 54, .t 55, .t 56]⟩])))) }
theorem rc181_ok : lowF Try.prog 181 = some rc181 := by kernel_rfl
def rc172 : RFun := { nt := 220, np := 5, res := [], code :=
  (.seq (.seq (.region false [
    ⟨(some 25), none, .mv (.t 2)⟩,
    ⟨(some 26), none, .mv (.t 1)⟩,
    ⟨(some 27), none, .ibin .sub .i64 (.t 25) (.t 26)⟩,
    ⟨(some 28), none, .ibin .eql .i64 (.t 27) (.k (.c (.int .i64 1)))⟩])
  (.cond (.t 28)
  (.seq (.region false [
     ⟨(some 29), none, .mv (.t 2)⟩,
     ⟨(some 10), none, .mv (.t 29)⟩])
   (.seq (.region false [
     ⟨(some 30), none, .mv (.t 3)⟩,
     ⟨(some 11), none, .mv (.t 30)⟩])
   (.seq (.block 0
   (.loop
    (.seq (.seq (.region false [
       ⟨(some 31), none, .mv (.t 10)⟩,
       ⟨(some 32), none, .mv (.t 11)⟩,
       ⟨(some 33), none, .ibin .lss .i64 (.t 31) (.t 32)⟩])
     (.cond (.t 33)
     .skip
     (.exit 0)))
     (.block 1
     (.seq (.region false [
        ⟨(some 34), none, .mv (.t 10)⟩,
        ⟨(some 35), none, .mv (.t 11)⟩,
        ⟨(some 36), none, .ibin .add .i64 (.t 34) (.t 35)⟩,
        ⟨(some 37), none, .conv .u64 (.t 36)⟩,
        ⟨(some 38), none, .shift .shr .u64 (.t 37) (.k (.c (.int .u64 1)))⟩,
        ⟨(some 39), none, .conv .i64 (.t 38)⟩,
        ⟨(some 12), none, .mv (.t 39)⟩])
      (.seq (.region true [
        ⟨(some 40), none, .mv (.t 4)⟩,
        ⟨(some 41), none, .mv (.t 0)⟩,
        ⟨(some 42), none, .mv (.t 12)⟩,
        ⟨(some 43), none, .iaddr 6 (.t 41) (.t 42)⟩,
        ⟨(some 44), none, .load 6 true (.t 43)⟩,
        ⟨(some 45), none, .mv (.t 0)⟩,
        ⟨(some 46), none, .mv (.t 1)⟩,
        ⟨(some 47), none, .iaddr 6 (.t 45) (.t 46)⟩,
        ⟨(some 48), none, .load 6 true (.t 47)⟩,
        ⟨(some 49), none, .callv (.t 40) [.t 44, .t 48]⟩,
        ⟨(some 50), none, .ibin .lss .i64 (.t 49) (.k (.c (.int .i64 0)))⟩])
      (.cond (.t 50)
      (.region false [
         ⟨(some 51), none, .mv (.t 12)⟩,
         ⟨(some 52), none, .ibin .add .i64 (.t 51) (.k (.c (.int .i64 1)))⟩,
         ⟨(some 10), none, .mv (.t 52)⟩])
      (.region false [
         ⟨(some 53), none, .mv (.t 12)⟩,
         ⟨(some 11), none, .mv (.t 53)⟩]))))))))
   (.seq (.seq (.region false [
     ⟨(some 54), none, .mv (.t 1)⟩,
     ⟨(some 13), none, .mv (.t 54)⟩])
   (.block 2
   (.loop
    (.seq (.seq (.region false [
       ⟨(some 55), none, .mv (.t 13)⟩,
       ⟨(some 56), none, .mv (.t 10)⟩,
       ⟨(some 57), none, .ibin .sub .i64 (.t 56) (.k (.c (.int .i64 1)))⟩,
       ⟨(some 58), none, .ibin .lss .i64 (.t 55) (.t 57)⟩])
     (.cond (.t 58)
     .skip
     (.exit 2)))
     (.seq (.block 3
     (.region true [
        ⟨(some 61), none, .mv (.t 0)⟩,
        ⟨(some 62), none, .mv (.t 13)⟩,
        ⟨(some 63), none, .mv (.t 0)⟩,
        ⟨(some 64), none, .mv (.t 13)⟩,
        ⟨(some 65), none, .ibin .add .i64 (.t 64) (.k (.c (.int .i64 1)))⟩,
        ⟨(some 66), none, .mv (.t 0)⟩,
        ⟨(some 67), none, .mv (.t 13)⟩,
        ⟨(some 68), none, .ibin .add .i64 (.t 67) (.k (.c (.int .i64 1)))⟩,
        ⟨(some 69), none, .iaddr 6 (.t 66) (.t 68)⟩,
        ⟨(some 70), none, .load 6 true (.t 69)⟩,
        ⟨(some 71), none, .mv (.t 0)⟩,
        ⟨(some 72), none, .mv (.t 13)⟩,
        ⟨(some 73), none, .iaddr 6 (.t 71) (.t 72)⟩,
        ⟨(some 74), none, .load 6 true (.t 73)⟩,
        ⟨(some 75), none, .iaddr 6 (.t 61) (.t 62)⟩,
        ⟨none, none, .store 6 (.t 75) (.t 70)⟩,
        ⟨(some 76), none, .iaddr 6 (.t 63) (.t 65)⟩,
        ⟨none, none, .store 6 (.t 76) (.t 74)⟩]))
     (.region false [
       ⟨(some 59), none, .mv (.t 13)⟩,
       ⟨(some 60), none, .ibin .add .i64 (.t 59) (.k (.c (.int .i64 1)))⟩,
       ⟨(some 13), none, .mv (.t 60)⟩]))))))
   .ret))))
  .skip))
  (.seq (.seq (.region false [
    ⟨(some 77), none, .mv (.t 3)⟩,
    ⟨(some 78), none, .mv (.t 2)⟩,
    ⟨(some 79), none, .ibin .sub .i64 (.t 77) (.t 78)⟩,
    ⟨(some 80), none, .ibin .eql .i64 (.t 79) (.k (.c (.int .i64 1)))⟩])
  (.cond (.t 80)
  (.seq (.region false [
     ⟨(some 81), none, .mv (.t 1)⟩,
     ⟨(some 14), none, .mv (.t 81)⟩])
   (.seq (.region false [
     ⟨(some 82), none, .mv (.t 2)⟩,
     ⟨(some 15), none, .mv (.t 82)⟩])
   (.seq (.block 4
   (.loop
    (.seq (.seq (.region false [
       ⟨(some 83), none, .mv (.t 14)⟩,
       ⟨(some 84), none, .mv (.t 15)⟩,
       ⟨(some 85), none, .ibin .lss .i64 (.t 83) (.t 84)⟩])
     (.cond (.t 85)
     .skip
     (.exit 4)))
     (.block 5
     (.seq (.region false [
        ⟨(some 86), none, .mv (.t 14)⟩,
        ⟨(some 87), none, .mv (.t 15)⟩,
        ⟨(some 88), none, .ibin .add .i64 (.t 86) (.t 87)⟩,
        ⟨(some 89), none, .conv .u64 (.t 88)⟩,
        ⟨(some 90), none, .shift .shr .u64 (.t 89) (.k (.c (.int .u64 1)))⟩,
        ⟨(some 91), none, .conv .i64 (.t 90)⟩,
        ⟨(some 16), none, .mv (.t 91)⟩])
      (.seq (.region true [
        ⟨(some 92), none, .mv (.t 4)⟩,
        ⟨(some 93), none, .mv (.t 0)⟩,
        ⟨(some 94), none, .mv (.t 2)⟩,
        ⟨(some 95), none, .iaddr 6 (.t 93) (.t 94)⟩,
        ⟨(some 96), none, .load 6 true (.t 95)⟩,
        ⟨(some 97), none, .mv (.t 0)⟩,
        ⟨(some 98), none, .mv (.t 16)⟩,
        ⟨(some 99), none, .iaddr 6 (.t 97) (.t 98)⟩,
        ⟨(some 100), none, .load 6 true (.t 99)⟩,
        ⟨(some 101), none, .callv (.t 92) [.t 96, .t 100]⟩,
        ⟨(some 102), none, .ibin .lss .i64 (.t 101) (.k (.c (.int .i64 0)))⟩,
        ⟨(some 103), none, .not (.t 102)⟩])
      (.cond (.t 103)
      (.region false [
         ⟨(some 104), none, .mv (.t 16)⟩,
         ⟨(some 105), none, .ibin .add .i64 (.t 104) (.k (.c (.int .i64 1)))⟩,
         ⟨(some 14), none, .mv (.t 105)⟩])
      (.region false [
         ⟨(some 106), none, .mv (.t 16)⟩,
         ⟨(some 15), none, .mv (.t 106)⟩]))))))))
   (.seq (.seq (.region false [
     ⟨(some 107), none, .mv (.t 2)⟩,
     ⟨(some 17), none, .mv (.t 107)⟩])
   (.block 6
   (.loop
    (.seq (.seq (.region false [
       ⟨(some 108), none, .mv (.t 17)⟩,
       ⟨(some 109), none, .mv (.t 14)⟩,
       ⟨(some 110), none, .ibin .gtr .i64 (.t 108) (.t 109)⟩])
     (.cond (.t 110)
     .skip
     (.exit 6)))
     (.seq (.block 7
     (.region true [
        ⟨(some 113), none, .mv (.t 0)⟩,
        ⟨(some 114), none, .mv (.t 17)⟩,
        ⟨(some 115), none, .mv (.t 0)⟩,
        ⟨(some 116), none, .mv (.t 17)⟩,
        ⟨(some 117), none, .ibin .sub .i64 (.t 116) (.k (.c (.int .i64 1)))⟩,
        ⟨(some 118), none, .mv (.t 0)⟩,
        ⟨(some 119), none, .mv (.t 17)⟩,
        ⟨(some 120), none, .ibin .sub .i64 (.t 119) (.k (.c (.int .i64 1)))⟩,
        ⟨(some 121), none, .iaddr 6 (.t 118) (.t 120)⟩,
        ⟨(some 122), none, .load 6 true (.t 121)⟩,
        ⟨(some 123), none, .mv (.t 0)⟩,
        ⟨(some 124), none, .mv (.t 17)⟩,
        ⟨(some 125), none, .iaddr 6 (.t 123) (.t 124)⟩,
        ⟨(some 126), none, .load 6 true (.t 125)⟩,
        ⟨(some 127), none, .iaddr 6 (.t 113) (.t 114)⟩,
        ⟨none, none, .store 6 (.t 127) (.t 122)⟩,
        ⟨(some 128), none, .iaddr 6 (.t 115) (.t 117)⟩,
        ⟨none, none, .store 6 (.t 128) (.t 126)⟩]))
     (.region false [
       ⟨(some 111), none, .mv (.t 17)⟩,
       ⟨(some 112), none, .ibin .sub .i64 (.t 111) (.k (.c (.int .i64 1)))⟩,
       ⟨(some 17), none, .mv (.t 112)⟩]))))))
   .ret))))
  .skip))
  (.seq (.region false [
    ⟨(some 129), none, .mv (.t 1)⟩,
    ⟨(some 130), none, .mv (.t 3)⟩,
    ⟨(some 131), none, .ibin .add .i64 (.t 129) (.t 130)⟩,
    ⟨(some 132), none, .conv .u64 (.t 131)⟩,
    ⟨(some 133), none, .shift .shr .u64 (.t 132) (.k (.c (.int .u64 1)))⟩,
    ⟨(some 134), none, .conv .i64 (.t 133)⟩,
    ⟨(some 18), none, .mv (.t 134)⟩])
  (.seq (.region false [
    ⟨(some 135), none, .mv (.t 18)⟩,
    ⟨(some 136), none, .mv (.t 2)⟩,
    ⟨(some 137), none, .ibin .add .i64 (.t 135) (.t 136)⟩,
    ⟨(some 19), none, .mv (.t 137)⟩])
  (.seq (.region false [
    ⟨(some 20), none, .mv (.k (.c (.int .i64 0)))⟩,
    ⟨(some 21), none, .mv (.k (.c (.int .i64 0)))⟩])
  (.seq (.seq (.region false [
    ⟨(some 138), none, .mv (.t 2)⟩,
    ⟨(some 139), none, .mv (.t 18)⟩,
    ⟨(some 140), none, .ibin .gtr .i64 (.t 138) (.t 139)⟩])
  (.cond (.t 140)
  (.seq (.region false [
     ⟨(some 141), none, .mv (.t 19)⟩,
     ⟨(some 142), none, .mv (.t 3)⟩,
     ⟨(some 143), none, .ibin .sub .i64 (.t 141) (.t 142)⟩,
     ⟨(some 20), none, .mv (.t 143)⟩])
   (.region false [
     ⟨(some 144), none, .mv (.t 18)⟩,
     ⟨(some 21), none, .mv (.t 144)⟩]))
  (.seq (.region false [
     ⟨(some 145), none, .mv (.t 1)⟩,
     ⟨(some 20), none, .mv (.t 145)⟩])
   (.region false [
     ⟨(some 146), none, .mv (.t 2)⟩,
     ⟨(some 21), none, .mv (.t 146)⟩]))))
  (.seq (.region false [
    ⟨(some 147), none, .mv (.t 19)⟩,
    ⟨(some 148), none, .ibin .sub .i64 (.t 147) (.k (.c (.int .i64 1)))⟩,
    ⟨(some 22), none, .mv (.t 148)⟩])
  (.seq (.block 8
  (.loop
   (.seq (.seq (.region false [
      ⟨(some 149), none, .mv (.t 20)⟩,
      ⟨(some 150), none, .mv (.t 21)⟩,
      ⟨(some 151), none, .ibin .lss .i64 (.t 149) (.t 150)⟩])
    (.cond (.t 151)
    .skip
    (.exit 8)))
    (.block 9
    (.seq (.region false [
       ⟨(some 152), none, .mv (.t 20)⟩,
       ⟨(some 153), none, .mv (.t 21)⟩,
       ⟨(some 154), none, .ibin .add .i64 (.t 152) (.t 153)⟩,
       ⟨(some 155), none, .conv .u64 (.t 154)⟩,
       ⟨(some 156), none, .shift .shr .u64 (.t 155) (.k (.c (.int .u64 1)))⟩,
       ⟨(some 157), none, .conv .i64 (.t 156)⟩,
       ⟨(some 23), none, .mv (.t 157)⟩])
     (.seq (.region true [
       ⟨(some 158), none, .mv (.t 4)⟩,
       ⟨(some 159), none, .mv (.t 0)⟩,
       ⟨(some 160), none, .mv (.t 22)⟩,
       ⟨(some 161), none, .mv (.t 23)⟩,
       ⟨(some 162), none, .ibin .sub .i64 (.t 160) (.t 161)⟩,
       ⟨(some 163), none, .iaddr 6 (.t 159) (.t 162)⟩,
       ⟨(some 164), none, .load 6 true (.t 163)⟩,
       ⟨(some 165), none, .mv (.t 0)⟩,
       ⟨(some 166), none, .mv (.t 23)⟩,
       ⟨(some 167), none, .iaddr 6 (.t 165) (.t 166)⟩,
       ⟨(some 168), none, .load 6 true (.t 167)⟩,
       ⟨(some 169), none, .callv (.t 158) [.t 164, .t 168]⟩,
       ⟨(some 170), none, .ibin .lss .i64 (.t 169) (.k (.c (.int .i64 0)))⟩,
       ⟨(some 171), none, .not (.t 170)⟩])
     (.cond (.t 171)
     (.region false [
        ⟨(some 172), none, .mv (.t 23)⟩,
        ⟨(some 173), none, .ibin .add .i64 (.t 172) (.k (.c (.int .i64 1)))⟩,
        ⟨(some 20), none, .mv (.t 173)⟩])
     (.region false [
        ⟨(some 174), none, .mv (.t 23)⟩,
        ⟨(some 21), none, .mv (.t 174)⟩]))))))))
  (.seq (.region false [
    ⟨(some 175), none, .mv (.t 19)⟩,
    ⟨(some 176), none, .mv (.t 20)⟩,
    ⟨(some 177), none, .ibin .sub .i64 (.t 175) (.t 176)⟩,
    ⟨(some 24), none, .mv (.t 177)⟩])
  (.seq (.seq (.region false [
    ⟨(some 178), none, .mv (.t 20)⟩,
    ⟨(some 179), none, .mv (.t 2)⟩,
    ⟨(some 180), none, .ibin .lss .i64 (.t 178) (.t 179)⟩,
    ⟨(some 181), none, .mv (.t 180)⟩,
    ⟨(some 182), (some (181, true)), .mv (.t 2)⟩,
    ⟨(some 183), (some (181, true)), .mv (.t 24)⟩,
    ⟨(some 184), (some (181, true)), .ibin .lss .i64 (.t 182) (.t 183)⟩,
    ⟨(some 185), none, .pick (.t 181) (.t 184) (.k (.c (.bool false)))⟩])
  (.cond (.t 185)
  (.region false [
     ⟨(some 186), none, .mv (.t 0)⟩,
     ⟨(some 187), none, .mv (.t 20)⟩,
     ⟨(some 188), none, .mv (.t 2)⟩,
     ⟨(some 189), none, .mv (.t 24)⟩,
     ⟨(some 190), none, .mv (.t 4)⟩,
     ⟨(some 191), none, .call 181 [.t 186, .t 187, .t 188, .t 189, .t 190]⟩])
  .skip))
  (.seq (.seq (.region false [
    ⟨(some 192), none, .mv (.t 1)⟩,
    ⟨(some 193), none, .mv (.t 20)⟩,
    ⟨(some 194), none, .ibin .lss .i64 (.t 192) (.t 193)⟩,
    ⟨(some 195), none, .mv (.t 194)⟩,
    ⟨(some 196), (some (195, true)), .mv (.t 20)⟩,
    ⟨(some 197), (some (195, true)), .mv (.t 18)⟩,
    ⟨(some 198), (some (195, true)), .ibin .lss .i64 (.t 196) (.t 197)⟩,
    ⟨(some 199), none, .pick (.t 195) (.t 198) (.k (.c (.bool false)))⟩])
  (.cond (.t 199)
  (.region false [
     ⟨(some 200), none, .mv (.t 0)⟩,
     ⟨(some 201), none, .mv (.t 1)⟩,
     ⟨(some 202), none, .mv (.t 20)⟩,
     ⟨(some 203), none, .mv (.t 18)⟩,
     ⟨(some 204), none, .mv (.t 4)⟩,
     ⟨(some 205), none, .call 172 [.t 200, .t 201, .t 202, .t 203, .t 204]⟩])
  .skip))
  (.seq (.region false [
    ⟨(some 206), none, .mv (.t 18)⟩,
    ⟨(some 207), none, .mv (.t 24)⟩,
    ⟨(some 208), none, .ibin .lss .i64 (.t 206) (.t 207)⟩,
    ⟨(some 209), none, .mv (.t 208)⟩,
    ⟨(some 210), (some (209, true)), .mv (.t 24)⟩,
    ⟨(some 211), (some (209, true)), .mv (.t 3)⟩,
    ⟨(some 212), (some (209, true)), .ibin .lss .i64 (.t 210) (.t 211)⟩,
    ⟨(some 213), none, .pick (.t 209) (.t 212) (.k (.c (.bool false)))⟩])
  (.cond (.t 213)
  (.region false [
     ⟨(some 214), none, .mv (.t 0)⟩,
     ⟨(some 215), none, .mv (.t 18)⟩,
     ⟨(some 216), none, .mv (.t 24)⟩,
     ⟨(some 217), none, .mv (.t 3)⟩,
     ⟨(some 218), none, .mv (.t 4)⟩,
     ⟨(some 219), none, .call 172 [.t 214, .t 215, .t 216, .t 217, .t 218]⟩])
  .skip))))))))))))) }
theorem rc172_ok : lowF Try.prog 172 = some rc172 := by kernel_rfl
def rc157 : RFun := { nt := 63, np := 3, res := [], code :=
  (.seq (.region false [
    ⟨(some 6), none, .mv (.k (.c (.int .i64 20)))⟩])
  (.seq (.region false [
    ⟨(some 10), none, .mv (.t 6)⟩,
    ⟨(some 7), none, .mv (.k (.c (.int .i64 0)))⟩,
    ⟨(some 8), none, .mv (.t 10)⟩])
  (.seq (.block 0
  (.loop
   (.seq (.seq (.region false [
      ⟨(some 11), none, .mv (.t 8)⟩,
      ⟨(some 12), none, .mv (.t 1)⟩,
      ⟨(some 13), none, .ibin .leq .i64 (.t 11) (.t 12)⟩])
    (.cond (.t 13)
    .skip
    (.exit 0)))
    (.block 1
    (.seq (.region false [
       ⟨(some 14), none, .mv (.t 0)⟩,
       ⟨(some 15), none, .mv (.t 7)⟩,
       ⟨(some 16), none, .mv (.t 8)⟩,
       ⟨(some 17), none, .mv (.t 2)⟩,
       ⟨(some 18), none, .call 171 [.t 14, .t 15, .t 16, .t 17]⟩])
     (.seq (.region false [
       ⟨(some 19), none, .mv (.t 8)⟩,
       ⟨(some 7), none, .mv (.t 19)⟩])
     (.region false [
       ⟨(some 20), none, .mv (.t 8)⟩,
       ⟨(some 21), none, .mv (.t 6)⟩,
       ⟨(some 22), none, .ibin .add .i64 (.t 20) (.t 21)⟩,
       ⟨(some 8), none, .mv (.t 22)⟩])))))))
  (.seq (.region false [
    ⟨(some 23), none, .mv (.t 0)⟩,
    ⟨(some 24), none, .mv (.t 7)⟩,
    ⟨(some 25), none, .mv (.t 1)⟩,
    ⟨(some 26), none, .mv (.t 2)⟩,
    ⟨(some 27), none, .call 171 [.t 23, .t 24, .t 25, .t 26]⟩])
  (.block 2
  (.loop
   (.seq (.seq (.region false [
      ⟨(some 28), none, .mv (.t 6)⟩,
      ⟨(some 29), none, .mv (.t 1)⟩,
      ⟨(some 30), none, .ibin .lss .i64 (.t 28) (.t 29)⟩])
    (.cond (.t 30)
    .skip
    (.exit 2)))
    (.block 3
    (.seq (.region false [
       ⟨(some 31), none, .mv (.t 6)⟩,
       ⟨(some 32), none, .ibin .mul .i64 (.k (.c (.int .i64 2))) (.t 31)⟩,
       ⟨(some 7), none, .mv (.k (.c (.int .i64 0)))⟩,
       ⟨(some 8), none, .mv (.t 32)⟩])
     (.seq (.block 4
     (.loop
      (.seq (.seq (.region false [
         ⟨(some 33), none, .mv (.t 8)⟩,
         ⟨(some 34), none, .mv (.t 1)⟩,
         ⟨(some 35), none, .ibin .leq .i64 (.t 33) (.t 34)⟩])
       (.cond (.t 35)
       .skip
       (.exit 4)))
       (.block 5
       (.seq (.region false [
          ⟨(some 36), none, .mv (.t 0)⟩,
          ⟨(some 37), none, .mv (.t 7)⟩,
          ⟨(some 38), none, .mv (.t 7)⟩,
          ⟨(some 39), none, .mv (.t 6)⟩,
          ⟨(some 40), none, .ibin .add .i64 (.t 38) (.t 39)⟩,
          ⟨(some 41), none, .mv (.t 8)⟩,
          ⟨(some 42), none, .mv (.t 2)⟩,
          ⟨(some 43), none, .call 172 [.t 36, .t 37, .t 40, .t 41, .t 42]⟩])
        (.seq (.region false [
          ⟨(some 44), none, .mv (.t 8)⟩,
          ⟨(some 7), none, .mv (.t 44)⟩])
        (.region false [
          ⟨(some 45), none, .mv (.t 8)⟩,
          ⟨(some 46), none, .mv (.t 6)⟩,
          ⟨(some 47), none, .ibin .mul .i64 (.k (.c (.int .i64 2))) (.t 46)⟩,
          ⟨(some 48), none, .ibin .add .i64 (.t 45) (.t 47)⟩,
          ⟨(some 8), none, .mv (.t 48)⟩])))))))
     (.seq (.seq (.region false [
       ⟨(some 49), none, .mv (.t 7)⟩,
       ⟨(some 50), none, .mv (.t 6)⟩,
       ⟨(some 51), none, .ibin .add .i64 (.t 49) (.t 50)⟩,
       ⟨(some 9), none, .mv (.t 51)⟩])
     (.seq (.region false [
       ⟨(some 52), none, .mv (.t 9)⟩,
       ⟨(some 53), none, .mv (.t 1)⟩,
       ⟨(some 54), none, .ibin .lss .i64 (.t 52) (.t 53)⟩])
     (.cond (.t 54)
     (.region false [
        ⟨(some 55), none, .mv (.t 0)⟩,
        ⟨(some 56), none, .mv (.t 7)⟩,
        ⟨(some 57), none, .mv (.t 9)⟩,
        ⟨(some 58), none, .mv (.t 1)⟩,
        ⟨(some 59), none, .mv (.t 2)⟩,
        ⟨(some 60), none, .call 172 [.t 55, .t 56, .t 57, .t 58, .t 59]⟩])
     .skip)))
     (.region false [
       ⟨(some 61), none, .mv (.t 6)⟩,
       ⟨(some 62), none, .ibin .mul .i64 (.t 61) (.k (.c (.int .i64 2)))⟩,
       ⟨(some 6), none, .mv (.t 62)⟩])))))))))))) }
theorem rc157_ok : lowF Try.prog 157 = some rc157 := by kernel_rfl
def rc149 : RFun := { nt := 9, np := 2, res := [], code :=
  (.region false [
    ⟨(some 4), none, .mv (.t 0)⟩,
    ⟨(some 5), none, .mv (.t 0)⟩,
    ⟨(some 6), none, .len (.t 5)⟩,
    ⟨(some 7), none, .mv (.t 1)⟩,
    ⟨(some 8), none, .call 157 [.t 4, .t 6, .t 7]⟩]) }
theorem rc149_ok : lowF Try.prog 149 = some rc149 := by kernel_rfl
def rc134 : RFun := { nt := 12, np := 2, res := [.t 4], code :=
  (.seq (.region false [
    ⟨(some 4), none, .mv (.k (.c (.slice none 0 0)))⟩])
  (.seq (.region false [
    ⟨(some 6), none, .mv (.t 0)⟩,
    ⟨(some 7), none, .call 148 [.t 6]⟩,
    ⟨(some 5), none, .mv (.t 7)⟩])
  (.seq (.region false [
    ⟨(some 8), none, .mv (.t 5)⟩,
    ⟨(some 9), none, .mv (.t 1)⟩,
    ⟨(some 10), none, .call 149 [.t 8, .t 9]⟩])
  (.seq (.region false [
    ⟨(some 11), none, .mv (.t 5)⟩,
    ⟨(some 4), none, .mv (.t 11)⟩])
  .ret)))) }
theorem rc134_ok : lowF Try.prog 134 = some rc134 := by kernel_rfl
def rc140 : RFun := { nt := 6, np := 1, res := [.t 2], code :=
  (.seq (.region false [
    ⟨(some 2), none, .mv (.k (.c (.bool false)))⟩])
  (.seq (.region false [
    ⟨(some 3), none, .mv (.t 0)⟩,
    ⟨(some 4), none, .mv (.t 0)⟩,
    ⟨(some 5), none, .ibin .neq .i64 (.t 3) (.t 4)⟩,
    ⟨(some 2), none, .mv (.t 5)⟩])
  .ret)) }
theorem rc140_ok : lowF Try.prog 140 = some rc140 := by kernel_rfl
def rc118 : RFun := { nt := 20, np := 2, res := [.t 4], code :=
  (.seq (.region false [
    ⟨(some 4), none, .mv (.k (.c (.int .i64 0)))⟩])
  (.seq (.region false [
    ⟨(some 7), none, .mv (.t 0)⟩,
    ⟨(some 8), none, .call 140 [.t 7]⟩,
    ⟨(some 5), none, .mv (.t 8)⟩])
  (.seq (.region false [
    ⟨(some 9), none, .mv (.t 1)⟩,
    ⟨(some 10), none, .call 140 [.t 9]⟩,
    ⟨(some 6), none, .mv (.t 10)⟩])
  (.seq (.seq (.region false [
    ⟨(some 11), none, .mv (.t 5)⟩])
  (.cond (.t 11)
  (.seq (.seq (.region false [
     ⟨(some 12), none, .mv (.t 6)⟩])
   (.cond (.t 12)
   (.seq (.region false [
      ⟨(some 4), none, .mv (.k (.c (.int .i64 0)))⟩])
    .ret)
   .skip))
   (.seq (.region false [
     ⟨(some 4), none, .mv (.k (.c (.int .i64 (-1))))⟩])
   .ret))
  .skip))
  (.seq (.seq (.region false [
    ⟨(some 13), none, .mv (.t 6)⟩])
  (.cond (.t 13)
  (.seq (.region false [
     ⟨(some 4), none, .mv (.k (.c (.int .i64 1)))⟩])
   .ret)
  .skip))
  (.seq (.seq (.region false [
    ⟨(some 14), none, .mv (.t 0)⟩,
    ⟨(some 15), none, .mv (.t 1)⟩,
    ⟨(some 16), none, .ibin .lss .i64 (.t 14) (.t 15)⟩])
  (.cond (.t 16)
  (.seq (.region false [
     ⟨(some 4), none, .mv (.k (.c (.int .i64 (-1))))⟩])
   .ret)
  .skip))
  (.seq (.seq (.region false [
    ⟨(some 17), none, .mv (.t 0)⟩,
    ⟨(some 18), none, .mv (.t 1)⟩,
    ⟨(some 19), none, .ibin .gtr .i64 (.t 17) (.t 18)⟩])
  (.cond (.t 19)
  (.seq (.region false [
     ⟨(some 4), none, .mv (.k (.c (.int .i64 1)))⟩])
   .ret)
  .skip))
  (.seq (.region false [
    ⟨(some 4), none, .mv (.k (.c (.int .i64 0)))⟩])
  .ret)))))))) }
theorem rc118_ok : lowF Try.prog 118 = some rc118 := by kernel_rfl
def rc135 : RFun := { nt := 22, np := 2, res := [.t 4], code :=
  (.seq (.region false [
    ⟨(some 2), none, .box 6 (.t 0)⟩,
    ⟨(some 3), none, .box 6 (.t 1)⟩,
    ⟨(some 4), none, .mv (.k (.c (.int .i64 0)))⟩])
  (.seq (.region true [
    ⟨(some 5), none, .faddr 3 (.t 2)⟩,
    ⟨(some 6), none, .load 1 false (.t 5)⟩,
    ⟨(some 7), none, .faddr 3 (.t 3)⟩,
    ⟨(some 8), none, .load 1 false (.t 7)⟩,
    ⟨(some 9), none, .call 118 [.t 6, .t 8]⟩,
    ⟨(some 10), none, .faddr 0 (.t 2)⟩,
    ⟨(some 11), none, .load 1 false (.t 10)⟩,
    ⟨(some 12), none, .faddr 0 (.t 3)⟩,
    ⟨(some 13), none, .load 1 false (.t 12)⟩,
    ⟨(some 14), none, .call 138 [.t 11, .t 13]⟩,
    ⟨(some 15), none, .faddr 1 (.t 2)⟩,
    ⟨(some 16), none, .load 1 false (.t 15)⟩,
    ⟨(some 17), none, .faddr 1 (.t 3)⟩,
    ⟨(some 18), none, .load 1 false (.t 17)⟩,
    ⟨(some 19), none, .call 138 [.t 16, .t 18]⟩,
    ⟨(some 20), none, .bslice 1 [.c (.int .i64 0)] 3 [(0, .t 9), (1, .t 14), (2, .t 19)]⟩,
    ⟨(some 21), none, .call 150 [.t 20]⟩,
    ⟨(some 4), none, .mv (.t 21)⟩])
  .ret)) }
theorem rc135_ok : lowF Try.prog 135 = some rc135 := by kernel_rfl
def rc99 : RFun := { nt := 94, np := 1, res := [.t 2], code :=
  (.seq (.region false [
    ⟨(some 1), none, .box 4 (.t 0)⟩,
    ⟨(some 2), none, .mv (.k (.c (.slice none 0 0)))⟩])
  (.seq (.region false [
    ⟨(some 3), none, .mv (.k (.c (.slice none 0 0)))⟩])
  (.seq (.region false [
    ⟨(some 11), none, .mmap⟩,
    ⟨(some 4), none, .mv (.t 11)⟩])
  (.seq (.seq (.region false [
    ⟨(some 12), none, .load 4 true (.t 1)⟩,
    ⟨(some 13), none, .call 92 [.t 12]⟩,
    ⟨(some 14), none, .len (.t 13)⟩,
    ⟨(some 15), none, .mv (.k (.c (.int .i64 0)))⟩])
  (.block 0
  (.loop
   (.seq (.region false [
      ⟨(some 16), none, .ibin .lss .i64 (.t 15) (.t 14)⟩])
    (.seq (.cond (.t 16)
    .skip
    (.exit 0))
    (.seq (.block 1
    (.seq (.region false [
       ⟨(some 17), none, .iaddr 5 (.t 13) (.t 15)⟩,
       ⟨(some 18), none, .load 5 true (.t 17)⟩,
       ⟨(some 6), none, .alloc [.c (.string ⟨#[]⟩), .c (.string ⟨#[]⟩), .c (.int .i64 0), .c (.int .i64 0), .c (.int .i64 0)]⟩,
       ⟨none, none, .store 5 (.t 6) (.t 18)⟩])
     (.seq (.region false [
       ⟨(some 19), none, .faddr 0 (.t 6)⟩,
       ⟨(some 20), none, .load 3 true (.t 19)⟩,
       ⟨(some 21), none, .call 86 [.t 20]⟩,
       ⟨(some 7), none, .alloc [.c (.string ⟨#[]⟩), .c (.string ⟨#[]⟩)]⟩,
       ⟨none, none, .store 2 (.t 7) (.t 21)⟩])
     (.seq (.seq (.region false [
       ⟨(some 23), none, .mv (.t 4)⟩,
       ⟨(some 24), none, .load 2 true (.t 7)⟩,
       ⟨(some 25), none, .look (.many [.str, .str]) (.c (.int .i64 0)) true (.t 23) (.t 24)⟩,
       ⟨(some 22), none, .mv (.t 25)⟩,
       ⟨(some 26), none, .ext 0 (.t 22)⟩,
       ⟨(some 27), none, .ext 1 (.t 22)⟩,
       ⟨(some 8), none, .mv (.t 26)⟩,
       ⟨(some 9), none, .mv (.t 27)⟩])
     (.seq (.region true [
       ⟨(some 28), none, .mv (.t 9)⟩,
       ⟨(some 29), none, .mv (.t 28)⟩,
       ⟨(some 30), (some (29, true)), .mv (.t 3)⟩,
       ⟨(some 31), (some (29, true)), .mv (.t 8)⟩,
       ⟨(some 32), (some (29, true)), .iaddr 6 (.t 30) (.t 31)⟩,
       ⟨(some 33), (some (29, true)), .faddr 4 (.t 32)⟩,
       ⟨(some 34), (some (29, true)), .load 1 false (.t 33)⟩,
       ⟨(some 35), (some (29, true)), .faddr 3 (.t 6)⟩,
       ⟨(some 36), (some (29, true)), .load 1 false (.t 35)⟩,
       ⟨(some 37), (some (29, true)), .ibin .eql .i64 (.t 34) (.t 36)⟩,
       ⟨(some 38), none, .pick (.t 29) (.t 37) (.k (.c (.bool false)))⟩])
     (.cond (.t 38)
     (.seq (.soft [(6, 11), (7, 11), (8, 11)] [
        ⟨(some 39), none, .mv (.t 3)⟩,
        ⟨(some 40), none, .mv (.t 8)⟩,
        ⟨(some 41), none, .mv (.t 3)⟩,
        ⟨(some 42), none, .mv (.t 8)⟩,
        ⟨(some 43), none, .faddr 4 (.t 6)⟩,
        ⟨(some 44), none, .load 1 false (.t 43)⟩,
        ⟨(some 45), none, .faddr 0 (.t 6)⟩,
        ⟨(some 46), none, .faddr 2 (.t 45)⟩,
        ⟨(some 47), none, .load 1 false (.t 46)⟩,
        ⟨(some 48), none, .iaddr 6 (.t 39) (.t 40)⟩,
        ⟨(some 49), none, .faddr 4 (.t 48)⟩,
        ⟨none, none, .store 1 (.t 49) (.t 44)⟩,
        ⟨(some 50), none, .iaddr 6 (.t 41) (.t 42)⟩,
        ⟨(some 51), none, .faddr 2 (.t 50)⟩,
        ⟨none, none, .store 1 (.t 51) (.t 47)⟩])
      (.exit 1))
     .skip)))
     (.seq (.region false [
       ⟨(some 52), none, .mv (.t 4)⟩,
       ⟨(some 53), none, .load 2 true (.t 7)⟩,
       ⟨(some 54), none, .mv (.t 3)⟩,
       ⟨(some 55), none, .len (.t 54)⟩,
       ⟨none, none, .mupd (.many [.str, .str]) (.t 52) (.t 53) (.t 55)⟩])
     (.region false [
       ⟨(some 56), none, .mv (.t 3)⟩,
       ⟨(some 57), none, .faddr 0 (.t 6)⟩,
       ⟨(some 58), none, .faddr 0 (.t 57)⟩,
       ⟨(some 59), none, .load 1 false (.t 58)⟩,
       ⟨(some 60), none, .faddr 0 (.t 6)⟩,
       ⟨(some 61), none, .faddr 1 (.t 60)⟩,
       ⟨(some 62), none, .load 1 false (.t 61)⟩,
       ⟨(some 63), none, .faddr 0 (.t 6)⟩,
       ⟨(some 64), none, .faddr 2 (.t 63)⟩,
       ⟨(some 65), none, .load 1 false (.t 64)⟩,
       ⟨(some 66), none, .faddr 3 (.t 6)⟩,
       ⟨(some 67), none, .load 1 false (.t 66)⟩,
       ⟨(some 68), none, .faddr 4 (.t 6)⟩,
       ⟨(some 69), none, .load 1 false (.t 68)⟩,
       ⟨(some 70), none, .build [.c (.string ⟨#[]⟩), .c (.string ⟨#[]⟩), .c (.int .i64 0), .c (.int .i64 0), .c (.int .i64 0), .c (.bool false)] [(0, 1, .t 59), (1, 1, .t 62), (2, 1, .t 65), (3, 1, .t 67), (4, 1, .t 69)]⟩,
       ⟨(some 71), none, .bslice 6 [.c (.string ⟨#[]⟩), .c (.string ⟨#[]⟩), .c (.int .i64 0), .c (.int .i64 0), .c (.int .i64 0), .c (.bool false)] 1 [(0, .t 70)]⟩,
       ⟨(some 72), none, .app 6 64 [.c (.string ⟨#[]⟩), .c (.string ⟨#[]⟩), .c (.int .i64 0), .c (.int .i64 0), .c (.int .i64 0), .c (.bool false)] (.t 56) (.t 71)⟩,
       ⟨(some 3), none, .mv (.t 72)⟩]))))))
    (.region false [
      ⟨(some 73), none, .ibin .add .i64 (.t 15) (.k (.c (.int .i64 1)))⟩,
      ⟨(some 15), none, .mv (.t 73)⟩])))))))
  (.seq (.seq (.region false [
    ⟨(some 74), none, .mv (.t 3)⟩,
    ⟨(some 75), none, .len (.t 74)⟩,
    ⟨(some 76), none, .mv (.k (.c (.int .i64 0)))⟩])
  (.block 2
  (.loop
   (.seq (.region false [
      ⟨(some 77), none, .ibin .lss .i64 (.t 76) (.t 75)⟩])
    (.seq (.cond (.t 77)
    .skip
    (.exit 2))
    (.seq (.block 3
    (.seq (.region false [
       ⟨(some 78), none, .mv (.t 76)⟩,
       ⟨(some 10), none, .mv (.t 78)⟩])
     (.region true [
       ⟨(some 79), none, .mv (.t 3)⟩,
       ⟨(some 80), none, .mv (.t 10)⟩,
       ⟨(some 81), none, .mv (.t 3)⟩,
       ⟨(some 82), none, .mv (.t 10)⟩,
       ⟨(some 83), none, .iaddr 6 (.t 81) (.t 82)⟩,
       ⟨(some 84), none, .faddr 4 (.t 83)⟩,
       ⟨(some 85), none, .load 1 false (.t 84)⟩,
       ⟨(some 86), none, .faddr 3 (.t 1)⟩,
       ⟨(some 87), none, .load 1 false (.t 86)⟩,
       ⟨(some 88), none, .ibin .eql .i64 (.t 85) (.t 87)⟩,
       ⟨(some 89), none, .iaddr 6 (.t 79) (.t 80)⟩,
       ⟨(some 90), none, .faddr 5 (.t 89)⟩,
       ⟨none, none, .store 1 (.t 90) (.t 88)⟩])))
    (.region false [
      ⟨(some 91), none, .ibin .add .i64 (.t 76) (.k (.c (.int .i64 1)))⟩,
      ⟨(some 76), none, .mv (.t 91)⟩])))))))
  (.seq (.region false [
    ⟨(some 92), none, .mv (.t 3)⟩,
    ⟨(some 93), none, .call 134 [.t 92, .f 135]⟩,
    ⟨(some 2), none, .mv (.t 93)⟩])
  .ret)))))) }
theorem rc99_ok : lowF Try.prog 99 = some rc99 := by kernel_rfl
def rc39 : RFun := { nt := 12, np := 1, res := [.t 2, .t 3], code :=
  (.seq (.region false [
    ⟨(some 1), none, .box 4 (.t 0)⟩,
    ⟨(some 2), none, .mv (.k (.c (.slice none 0 0)))⟩,
    ⟨(some 3), none, .mv (.k (.c (.int .i64 0)))⟩])
  (.seq (.seq (.region false [
    ⟨(some 5), none, .load 4 true (.t 1)⟩,
    ⟨(some 6), none, .call 36 [.t 5]⟩,
    ⟨(some 4), none, .mv (.t 6)⟩])
  (.seq (.region false [
    ⟨(some 7), none, .mv (.t 4)⟩,
    ⟨(some 8), none, .ibin .neq .i64 (.t 7) (.k (.c (.int .i64 0)))⟩])
  (.cond (.t 8)
  (.seq (.region false [
     ⟨(some 9), none, .mv (.t 4)⟩,
     ⟨(some 2), none, .mv (.k (.c (.slice none 0 0)))⟩,
     ⟨(some 3), none, .mv (.t 9)⟩])
   .ret)
  .skip)))
  (.seq (.region false [
    ⟨(some 10), none, .load 4 true (.t 1)⟩,
    ⟨(some 11), none, .call 99 [.t 10]⟩,
    ⟨(some 2), none, .mv (.t 11)⟩,
    ⟨(some 3), none, .mv (.k (.c (.int .i64 0)))⟩])
  .ret))) }
theorem rc39_ok : lowF Try.prog 39 = some rc39 := by kernel_rfl
end Go.Abs
