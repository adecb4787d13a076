/- The functions' code in the resolved form of Abs (printed by a program of this repo). -/
import Derived.Test.YtjjhmldeammecaaFHd
import Derived.Test.YtjjhmldeammecaaProg
import Derived.Test.YtjjhmldeammecaaRHc
namespace Go.Abs
open Go Go.Proofs
set_option maxRecDepth 8000
def rc26 : RFun := { nt := 50, np := 1, res := [.t 2], code :=
  (.seq (.region false [
    ⟨(some 2), none, .mv (.k (.c (.int .i64 0)))⟩])
  (.seq (.seq (.region false [
    ⟨(some 5), none, .mv (.t 0)⟩,
    ⟨(some 6), none, .len (.t 5)⟩,
    ⟨(some 7), none, .ibin .eql .i64 (.t 6) (.k (.c (.int .i64 0)))⟩])
  (.cond (.t 7)
  (.seq (.region false [
     ⟨(some 2), none, .mv (.k (.c (.int .i64 13)))⟩])
   .ret)
  .skip))
  (.seq (.seq (.region false [
    ⟨(some 8), none, .mv (.t 0)⟩,
    ⟨(some 9), none, .len (.t 8)⟩,
    ⟨(some 10), none, .ibin .gtr .i64 (.t 9) (.k (.c (.int .i64 10)))⟩])
  (.cond (.t 10)
  (.seq (.region false [
     ⟨(some 2), none, .mv (.k (.c (.int .i64 3)))⟩])
   .ret)
  .skip))
  (.seq (.seq (.region false [
    ⟨(some 11), none, .mv (.t 0)⟩,
    ⟨(some 12), none, .len (.t 11)⟩,
    ⟨(some 13), none, .mv (.k (.c (.int .i64 0)))⟩])
  (.block 0
  (.loop
   (.seq (.region false [
      ⟨(some 14), none, .ibin .lss .i64 (.t 13) (.t 12)⟩])
    (.seq (.cond (.t 14)
    .skip
    (.exit 0))
    (.seq (.block 1
    (.seq (.region false [
       ⟨(some 15), none, .mv (.t 13)⟩,
       ⟨(some 16), none, .iaddr 2 (.t 11) (.t 13)⟩,
       ⟨(some 17), none, .load 2 true (.t 16)⟩,
       ⟨(some 4), none, .alloc [.c (.int .i64 0), .c (.int .i64 0)]⟩,
       ⟨(some 3), none, .mv (.t 15)⟩,
       ⟨none, none, .store 2 (.t 4) (.t 17)⟩])
     (.seq (.seq (.region false [
       ⟨(some 18), none, .faddr 0 (.t 4)⟩,
       ⟨(some 19), none, .load 1 false (.t 18)⟩,
       ⟨(some 20), none, .ibin .lss .i64 (.t 19) (.k (.c (.int .i64 0)))⟩,
       ⟨(some 21), none, .mv (.t 20)⟩,
       ⟨(some 22), (some (21, false)), .faddr 0 (.t 4)⟩,
       ⟨(some 23), (some (21, false)), .load 1 false (.t 22)⟩,
       ⟨(some 24), (some (21, false)), .ibin .gtr .i64 (.t 23) (.k (.c (.int .i64 100)))⟩,
       ⟨(some 25), none, .pick (.t 21) (.k (.c (.bool true))) (.t 24)⟩,
       ⟨(some 26), none, .mv (.t 25)⟩,
       ⟨(some 27), (some (26, false)), .faddr 1 (.t 4)⟩,
       ⟨(some 28), (some (26, false)), .load 1 false (.t 27)⟩,
       ⟨(some 29), (some (26, false)), .ibin .lss .i64 (.t 28) (.k (.c (.int .i64 0)))⟩,
       ⟨(some 30), none, .pick (.t 26) (.k (.c (.bool true))) (.t 29)⟩,
       ⟨(some 31), none, .mv (.t 30)⟩,
       ⟨(some 32), (some (31, false)), .faddr 1 (.t 4)⟩,
       ⟨(some 33), (some (31, false)), .load 1 false (.t 32)⟩,
       ⟨(some 34), (some (31, false)), .ibin .gtr .i64 (.t 33) (.k (.c (.int .i64 10000)))⟩,
       ⟨(some 35), none, .pick (.t 31) (.k (.c (.bool true))) (.t 34)⟩])
     (.cond (.t 35)
     (.seq (.region false [
        ⟨(some 2), none, .mv (.k (.c (.int .i64 9)))⟩])
      .ret)
     .skip))
     (.seq (.region true [
       ⟨(some 36), none, .mv (.t 3)⟩,
       ⟨(some 37), none, .ibin .gtr .i64 (.t 36) (.k (.c (.int .i64 0)))⟩,
       ⟨(some 38), none, .mv (.t 37)⟩,
       ⟨(some 39), (some (38, true)), .faddr 0 (.t 4)⟩,
       ⟨(some 40), (some (38, true)), .load 1 false (.t 39)⟩,
       ⟨(some 41), (some (38, true)), .mv (.t 0)⟩,
       ⟨(some 42), (some (38, true)), .mv (.t 3)⟩,
       ⟨(some 43), (some (38, true)), .ibin .sub .i64 (.t 42) (.k (.c (.int .i64 1)))⟩,
       ⟨(some 44), (some (38, true)), .iaddr 2 (.t 41) (.t 43)⟩,
       ⟨(some 45), (some (38, true)), .faddr 0 (.t 44)⟩,
       ⟨(some 46), (some (38, true)), .load 1 false (.t 45)⟩,
       ⟨(some 47), (some (38, true)), .ibin .leq .i64 (.t 40) (.t 46)⟩,
       ⟨(some 48), none, .pick (.t 38) (.t 47) (.k (.c (.bool false)))⟩])
     (.cond (.t 48)
     (.seq (.region false [
        ⟨(some 2), none, .mv (.k (.c (.int .i64 10)))⟩])
      .ret)
     .skip)))))
    (.region false [
      ⟨(some 49), none, .ibin .add .i64 (.t 13) (.k (.c (.int .i64 1)))⟩,
      ⟨(some 13), none, .mv (.t 49)⟩])))))))
  (.seq (.region false [
    ⟨(some 2), none, .mv (.k (.c (.int .i64 0)))⟩])
  .ret))))) }
theorem rc26_ok : lowF Try.prog 26 = some rc26 := by kernel_rfl
def rc79 : RFun := { nt := 25, np := 2, res := [.c 4 2 true, .t 5], code :=
  (.seq (.region false [
    ⟨(some 4), none, .alloc [.c (.int .i64 0), .c (.int .i64 0)]⟩,
    ⟨(some 5), none, .mv (.k (.c (.bool false)))⟩])
  (.seq (.region false [
    ⟨(some 10), none, .build [.c (.int .i64 0), .c (.int .i64 0)] []⟩,
    ⟨(some 6), none, .alloc [.c (.int .i64 0), .c (.int .i64 0)]⟩,
    ⟨none, none, .store 2 (.t 6) (.t 10)⟩,
    ⟨(some 7), none, .mv (.k (.c (.bool false)))⟩])
  (.seq (.seq (.region false [
    ⟨(some 11), none, .mv (.t 0)⟩,
    ⟨(some 12), none, .len (.t 11)⟩,
    ⟨(some 13), none, .mv (.k (.c (.int .i64 0)))⟩])
  (.block 0
  (.loop
   (.seq (.region false [
      ⟨(some 14), none, .ibin .lss .i64 (.t 13) (.t 12)⟩])
    (.seq (.cond (.t 14)
    .skip
    (.exit 0))
    (.seq (.block 1
    (.seq (.region false [
       ⟨(some 15), none, .iaddr 2 (.t 11) (.t 13)⟩,
       ⟨(some 16), none, .load 2 true (.t 15)⟩,
       ⟨(some 9), none, .alloc [.c (.int .i64 0), .c (.int .i64 0)]⟩,
       ⟨none, none, .store 2 (.t 9) (.t 16)⟩])
     (.seq (.region false [
       ⟨(some 17), none, .faddr 0 (.t 9)⟩,
       ⟨(some 18), none, .load 1 false (.t 17)⟩,
       ⟨(some 19), none, .mv (.t 1)⟩,
       ⟨(some 20), none, .ibin .leq .i64 (.t 18) (.t 19)⟩])
     (.cond (.t 20)
     (.region false [
        ⟨(some 21), none, .load 2 true (.t 9)⟩,
        ⟨none, none, .store 2 (.t 6) (.t 21)⟩,
        ⟨(some 7), none, .mv (.k (.c (.bool true)))⟩])
     .skip))))
    (.region false [
      ⟨(some 22), none, .ibin .add .i64 (.t 13) (.k (.c (.int .i64 1)))⟩,
      ⟨(some 13), none, .mv (.t 22)⟩])))))))
  (.seq (.region false [
    ⟨(some 23), none, .load 2 true (.t 6)⟩,
    ⟨(some 24), none, .mv (.t 7)⟩,
    ⟨none, none, .store 2 (.t 4) (.t 23)⟩,
    ⟨(some 5), none, .mv (.t 24)⟩])
  .ret)))) }
theorem rc79_ok : lowF Try.prog 79 = some rc79 := by kernel_rfl
def rc24 : RFun := { nt := 61, np := 3, res := [.t 6, .t 7, .t 8], code :=
  (.seq (.region false [
    ⟨(some 3), none, .box 2 (.t 0)⟩,
    ⟨(some 5), none, .box 6 (.t 2)⟩,
    ⟨(some 6), none, .mv (.k (.c (.int .i64 0)))⟩,
    ⟨(some 7), none, .mv (.k (.c (.bool false)))⟩,
    ⟨(some 8), none, .mv (.k (.c (.int .i64 0)))⟩])
  (.seq (.seq (.region false [
    ⟨(some 15), none, .load 2 true (.t 3)⟩,
    ⟨(some 16), none, .call 21 [.t 15]⟩,
    ⟨(some 9), none, .mv (.t 16)⟩])
  (.seq (.region false [
    ⟨(some 17), none, .mv (.t 9)⟩,
    ⟨(some 18), none, .ibin .neq .i64 (.t 17) (.k (.c (.int .i64 0)))⟩])
  (.cond (.t 18)
  (.seq (.region false [
     ⟨(some 19), none, .mv (.t 9)⟩,
     ⟨(some 6), none, .mv (.k (.c (.int .i64 0)))⟩,
     ⟨(some 7), none, .mv (.k (.c (.bool false)))⟩,
     ⟨(some 8), none, .mv (.t 19)⟩])
   .ret)
  .skip)))
  (.seq (.seq (.region false [
    ⟨(some 20), none, .mv (.t 1)⟩,
    ⟨(some 21), none, .call 26 [.t 20]⟩,
    ⟨(some 10), none, .mv (.t 21)⟩])
  (.seq (.region false [
    ⟨(some 22), none, .mv (.t 10)⟩,
    ⟨(some 23), none, .ibin .neq .i64 (.t 22) (.k (.c (.int .i64 0)))⟩])
  (.cond (.t 23)
  (.seq (.region false [
     ⟨(some 24), none, .mv (.t 10)⟩,
     ⟨(some 6), none, .mv (.k (.c (.int .i64 0)))⟩,
     ⟨(some 7), none, .mv (.k (.c (.bool false)))⟩,
     ⟨(some 8), none, .mv (.t 24)⟩])
   .ret)
  .skip)))
  (.seq (.seq (.region false [
    ⟨(some 25), none, .faddr 2 (.t 5)⟩,
    ⟨(some 26), none, .load 1 false (.t 25)⟩,
    ⟨(some 27), none, .ibin .lss .i64 (.t 26) (.k (.c (.int .i64 0)))⟩,
    ⟨(some 28), none, .mv (.t 27)⟩,
    ⟨(some 29), (some (28, false)), .faddr 2 (.t 5)⟩,
    ⟨(some 30), (some (28, false)), .load 1 false (.t 29)⟩,
    ⟨(some 31), (some (28, false)), .ibin .gtr .i64 (.t 30) (.k (.c (.int .i64 100)))⟩,
    ⟨(some 32), none, .pick (.t 28) (.k (.c (.bool true))) (.t 31)⟩,
    ⟨(some 33), none, .mv (.t 32)⟩,
    ⟨(some 34), (some (33, false)), .faddr 3 (.t 5)⟩,
    ⟨(some 35), (some (33, false)), .load 1 false (.t 34)⟩,
    ⟨(some 36), (some (33, false)), .call 69 [.t 35]⟩,
    ⟨(some 37), (some (33, false)), .not (.t 36)⟩,
    ⟨(some 38), none, .pick (.t 33) (.k (.c (.bool true))) (.t 37)⟩])
  (.cond (.t 38)
  (.seq (.region false [
     ⟨(some 6), none, .mv (.k (.c (.int .i64 0)))⟩,
     ⟨(some 7), none, .mv (.k (.c (.bool false)))⟩,
     ⟨(some 8), none, .mv (.k (.c (.int .i64 9)))⟩])
   .ret)
  .skip))
  (.seq (.region false [
    ⟨(some 40), none, .mv (.t 1)⟩,
    ⟨(some 41), none, .faddr 2 (.t 5)⟩,
    ⟨(some 42), none, .load 1 false (.t 41)⟩,
    ⟨(some 43), none, .call 79 [.t 40, .t 42]⟩,
    ⟨(some 39), none, .mv (.t 43)⟩,
    ⟨(some 44), none, .ext 0 (.t 39)⟩,
    ⟨(some 45), none, .ext 1 (.t 39)⟩,
    ⟨(some 11), none, .alloc [.c (.int .i64 0), .c (.int .i64 0)]⟩,
    ⟨none, none, .store 2 (.t 11) (.t 44)⟩,
    ⟨(some 12), none, .mv (.t 45)⟩])
  (.seq (.seq (.region false [
    ⟨(some 46), none, .mv (.t 12)⟩,
    ⟨(some 47), none, .not (.t 46)⟩])
  (.cond (.t 47)
  (.seq (.region false [
     ⟨(some 6), none, .mv (.k (.c (.int .i64 0)))⟩,
     ⟨(some 7), none, .mv (.k (.c (.bool false)))⟩,
     ⟨(some 8), none, .mv (.k (.c (.int .i64 0)))⟩])
   .ret)
  .skip))
  (.seq (.region true [
    ⟨(some 49), none, .load 2 true (.t 3)⟩,
    ⟨(some 50), none, .call 70 [.t 49]⟩,
    ⟨(some 51), none, .faddr 3 (.t 5)⟩,
    ⟨(some 52), none, .load 1 false (.t 51)⟩,
    ⟨(some 53), none, .faddr 1 (.t 11)⟩,
    ⟨(some 54), none, .load 1 false (.t 53)⟩,
    ⟨(some 55), none, .call 76 [.t 50, .t 52, .t 54]⟩,
    ⟨(some 48), none, .mv (.t 55)⟩,
    ⟨(some 56), none, .ext 0 (.t 48)⟩,
    ⟨(some 57), none, .ext 1 (.t 48)⟩,
    ⟨(some 13), none, .mv (.t 56)⟩,
    ⟨(some 14), none, .mv (.t 57)⟩])
  (.seq (.seq (.region false [
    ⟨(some 58), none, .mv (.t 14)⟩,
    ⟨(some 59), none, .not (.t 58)⟩])
  (.cond (.t 59)
  (.seq (.region false [
     ⟨(some 6), none, .mv (.k (.c (.int .i64 0)))⟩,
     ⟨(some 7), none, .mv (.k (.c (.bool false)))⟩,
     ⟨(some 8), none, .mv (.k (.c (.int .i64 3)))⟩])
   .ret)
  .skip))
  (.seq (.region false [
    ⟨(some 60), none, .mv (.t 13)⟩,
    ⟨(some 6), none, .mv (.t 60)⟩,
    ⟨(some 7), none, .mv (.k (.c (.bool true)))⟩,
    ⟨(some 8), none, .mv (.k (.c (.int .i64 0)))⟩])
  .ret))))))))) }
theorem rc24_ok : lowF Try.prog 24 = some rc24 := by kernel_rfl
def rc27 : RFun := { nt := 54, np := 1, res := [.t 2], code :=
  (.seq (.region false [
    ⟨(some 2), none, .mv (.k (.c (.int .i64 0)))⟩])
  (.seq (.block 0
  (.seq (.region false [
     ⟨(some 6), none, .mv (.t 0)⟩,
     ⟨(some 7), none, .len (.t 6)⟩,
     ⟨(some 8), none, .ibin .eql .i64 (.t 7) (.k (.c (.int .i64 0)))⟩,
     ⟨(some 5), none, .mv (.t 8)⟩])
   (.cond (.t 5)
   (.seq (.region false [
      ⟨(some 2), none, .mv (.k (.c (.int .i64 13)))⟩])
    .ret)
   (.seq (.region false [
      ⟨(some 10), none, .mv (.t 0)⟩,
      ⟨(some 11), none, .len (.t 10)⟩,
      ⟨(some 12), none, .ibin .gtr .i64 (.t 11) (.k (.c (.int .i64 10)))⟩,
      ⟨(some 9), none, .mv (.t 12)⟩])
    (.cond (.t 9)
    (.seq (.region false [
       ⟨(some 2), none, .mv (.k (.c (.int .i64 3)))⟩])
     .ret)
    .skip)))))
  (.seq (.seq (.region false [
    ⟨(some 13), none, .mv (.t 0)⟩,
    ⟨(some 14), none, .len (.t 13)⟩,
    ⟨(some 15), none, .mv (.k (.c (.int .i64 0)))⟩])
  (.block 1
  (.loop
   (.seq (.region false [
      ⟨(some 16), none, .ibin .lss .i64 (.t 15) (.t 14)⟩])
    (.seq (.cond (.t 16)
    .skip
    (.exit 1))
    (.seq (.block 2
    (.seq (.region false [
       ⟨(some 17), none, .mv (.t 15)⟩,
       ⟨(some 18), none, .iaddr 2 (.t 13) (.t 15)⟩,
       ⟨(some 19), none, .load 2 true (.t 18)⟩,
       ⟨(some 4), none, .alloc [.c (.int .i64 0), .c (.int .i64 0)]⟩,
       ⟨(some 3), none, .mv (.t 17)⟩,
       ⟨none, none, .store 2 (.t 4) (.t 19)⟩])
     (.block 3
     (.seq (.region false [
        ⟨(some 21), none, .faddr 0 (.t 4)⟩,
        ⟨(some 22), none, .load 1 false (.t 21)⟩,
        ⟨(some 23), none, .ibin .lss .i64 (.t 22) (.k (.c (.int .i64 0)))⟩,
        ⟨(some 24), none, .mv (.t 23)⟩,
        ⟨(some 25), (some (24, false)), .faddr 0 (.t 4)⟩,
        ⟨(some 26), (some (24, false)), .load 1 false (.t 25)⟩,
        ⟨(some 27), (some (24, false)), .ibin .gtr .i64 (.t 26) (.k (.c (.int .i64 100)))⟩,
        ⟨(some 28), none, .pick (.t 24) (.k (.c (.bool true))) (.t 27)⟩,
        ⟨(some 29), none, .mv (.t 28)⟩,
        ⟨(some 30), (some (29, false)), .faddr 1 (.t 4)⟩,
        ⟨(some 31), (some (29, false)), .load 1 false (.t 30)⟩,
        ⟨(some 32), (some (29, false)), .ibin .lss .i64 (.t 31) (.k (.c (.int .i64 0)))⟩,
        ⟨(some 33), none, .pick (.t 29) (.k (.c (.bool true))) (.t 32)⟩,
        ⟨(some 34), none, .mv (.t 33)⟩,
        ⟨(some 35), (some (34, false)), .faddr 1 (.t 4)⟩,
        ⟨(some 36), (some (34, false)), .load 1 false (.t 35)⟩,
        ⟨(some 37), (some (34, false)), .ibin .gtr .i64 (.t 36) (.k (.c (.int .i64 10000)))⟩,
        ⟨(some 38), none, .pick (.t 34) (.k (.c (.bool true))) (.t 37)⟩,
        ⟨(some 20), none, .mv (.t 38)⟩])
      (.cond (.t 20)
      (.seq (.region false [
         ⟨(some 2), none, .mv (.k (.c (.int .i64 9)))⟩])
       .ret)
      (.seq (.region true [
         ⟨(some 40), none, .mv (.t 3)⟩,
         ⟨(some 41), none, .ibin .gtr .i64 (.t 40) (.k (.c (.int .i64 0)))⟩,
         ⟨(some 42), none, .mv (.t 41)⟩,
         ⟨(some 43), (some (42, true)), .faddr 0 (.t 4)⟩,
         ⟨(some 44), (some (42, true)), .load 1 false (.t 43)⟩,
         ⟨(some 45), (some (42, true)), .mv (.t 0)⟩,
         ⟨(some 46), (some (42, true)), .mv (.t 3)⟩,
         ⟨(some 47), (some (42, true)), .ibin .sub .i64 (.t 46) (.k (.c (.int .i64 1)))⟩,
         ⟨(some 48), (some (42, true)), .iaddr 2 (.t 45) (.t 47)⟩,
         ⟨(some 49), (some (42, true)), .faddr 0 (.t 48)⟩,
         ⟨(some 50), (some (42, true)), .load 1 false (.t 49)⟩,
         ⟨(some 51), (some (42, true)), .ibin .leq .i64 (.t 44) (.t 50)⟩,
         ⟨(some 52), none, .pick (.t 42) (.t 51) (.k (.c (.bool false)))⟩,
         ⟨(some 39), none, .mv (.t 52)⟩])
       (.cond (.t 39)
       (.seq (.region false [
          ⟨(some 2), none, .mv (.k (.c (.int .i64 10)))⟩])
        .ret)
       .skip)))))))
    (.region false [
      ⟨(some 53), none, .ibin .add .i64 (.t 15) (.k (.c (.int .i64 1)))⟩,
      ⟨(some 15), none, .mv (.t 53)⟩])))))))
  (.seq (.region false [
    ⟨(some 2), none, .mv (.k (.c (.int .i64 0)))⟩])
  .ret)))) }
theorem rc27_ok : lowF Try.prog 27 = some rc27 := by kernel_rfl
def rc80 : RFun := { nt := 41, np := 3, res := [.t 6, .t 7, .t 8], code :=
  (.seq (.region false [
    ⟨(some 3), none, .box 9 (.t 0)⟩,
    ⟨(some 5), none, .box 6 (.t 2)⟩,
    ⟨(some 6), none, .mv (.k (.c (.int .i64 0)))⟩,
    ⟨(some 7), none, .mv (.k (.c (.bool false)))⟩,
    ⟨(some 8), none, .mv (.k (.c (.int .i64 0)))⟩])
  (.seq (.region false [
    ⟨(some 9), none, .mv (.k (.c (.int .i64 (-1))))⟩])
  (.seq (.seq (.region false [
    ⟨(some 14), none, .mv (.t 1)⟩,
    ⟨(some 15), none, .len (.t 14)⟩,
    ⟨(some 16), none, .mv (.k (.c (.int .i64 0)))⟩])
  (.block 0
  (.loop
   (.seq (.region false [
      ⟨(some 17), none, .ibin .lss .i64 (.t 16) (.t 15)⟩])
    (.seq (.cond (.t 17)
    .skip
    (.exit 0))
    (.seq (.block 1
    (.seq (.region false [
       ⟨(some 18), none, .iaddr 2 (.t 14) (.t 16)⟩,
       ⟨(some 19), none, .load 2 true (.t 18)⟩,
       ⟨(some 11), none, .alloc [.c (.int .i64 0), .c (.int .i64 0)]⟩,
       ⟨none, none, .store 2 (.t 11) (.t 19)⟩])
     (.seq (.region false [
       ⟨(some 20), none, .faddr 0 (.t 11)⟩,
       ⟨(some 21), none, .load 1 false (.t 20)⟩,
       ⟨(some 22), none, .faddr 2 (.t 5)⟩,
       ⟨(some 23), none, .load 1 false (.t 22)⟩,
       ⟨(some 24), none, .ibin .leq .i64 (.t 21) (.t 23)⟩])
     (.cond (.t 24)
     (.region false [
        ⟨(some 25), none, .faddr 1 (.t 11)⟩,
        ⟨(some 26), none, .load 1 false (.t 25)⟩,
        ⟨(some 9), none, .mv (.t 26)⟩])
     .skip))))
    (.region false [
      ⟨(some 27), none, .ibin .add .i64 (.t 16) (.k (.c (.int .i64 1)))⟩,
      ⟨(some 16), none, .mv (.t 27)⟩])))))))
  (.seq (.seq (.region false [
    ⟨(some 28), none, .mv (.t 9)⟩,
    ⟨(some 29), none, .ibin .lss .i64 (.t 28) (.k (.c (.int .i64 0)))⟩])
  (.cond (.t 29)
  (.seq (.region false [
     ⟨(some 6), none, .mv (.k (.c (.int .i64 0)))⟩,
     ⟨(some 7), none, .mv (.k (.c (.bool false)))⟩,
     ⟨(some 8), none, .mv (.k (.c (.int .i64 0)))⟩])
   .ret)
  .skip))
  (.seq (.region false [
    ⟨(some 31), none, .load 9 true (.t 3)⟩,
    ⟨(some 32), none, .faddr 3 (.t 5)⟩,
    ⟨(some 33), none, .load 1 false (.t 32)⟩,
    ⟨(some 34), none, .mv (.t 9)⟩,
    ⟨(some 35), none, .call 77 [.t 31, .t 33, .t 34]⟩,
    ⟨(some 30), none, .mv (.t 35)⟩,
    ⟨(some 36), none, .ext 0 (.t 30)⟩,
    ⟨(some 37), none, .ext 1 (.t 30)⟩,
    ⟨(some 12), none, .mv (.t 36)⟩,
    ⟨(some 13), none, .mv (.t 37)⟩])
  (.seq (.seq (.region false [
    ⟨(some 38), none, .mv (.t 13)⟩,
    ⟨(some 39), none, .not (.t 38)⟩])
  (.cond (.t 39)
  (.seq (.region false [
     ⟨(some 6), none, .mv (.k (.c (.int .i64 0)))⟩,
     ⟨(some 7), none, .mv (.k (.c (.bool false)))⟩,
     ⟨(some 8), none, .mv (.k (.c (.int .i64 3)))⟩])
   .ret)
  .skip))
  (.seq (.region false [
    ⟨(some 40), none, .mv (.t 12)⟩,
    ⟨(some 6), none, .mv (.t 40)⟩,
    ⟨(some 7), none, .mv (.k (.c (.bool true)))⟩,
    ⟨(some 8), none, .mv (.k (.c (.int .i64 0)))⟩])
  .ret))))))) }
theorem rc80_ok : lowF Try.prog 80 = some rc80 := by kernel_rfl
def rc25 : RFun := { nt := 43, np := 3, res := [.t 6, .t 7, .t 8], code :=
  (.seq (.region false [
    ⟨(some 3), none, .box 2 (.t 0)⟩,
    ⟨(some 5), none, .box 6 (.t 2)⟩,
    ⟨(some 6), none, .mv (.k (.c (.int .i64 0)))⟩,
    ⟨(some 7), none, .mv (.k (.c (.bool false)))⟩,
    ⟨(some 8), none, .mv (.k (.c (.int .i64 0)))⟩])
  (.seq (.seq (.region false [
    ⟨(some 11), none, .load 2 true (.t 3)⟩,
    ⟨(some 12), none, .call 22 [.t 11]⟩,
    ⟨(some 9), none, .mv (.t 12)⟩])
  (.seq (.region false [
    ⟨(some 13), none, .mv (.t 9)⟩,
    ⟨(some 14), none, .ibin .neq .i64 (.t 13) (.k (.c (.int .i64 0)))⟩])
  (.cond (.t 14)
  (.seq (.region false [
     ⟨(some 15), none, .mv (.t 9)⟩,
     ⟨(some 6), none, .mv (.k (.c (.int .i64 0)))⟩,
     ⟨(some 7), none, .mv (.k (.c (.bool false)))⟩,
     ⟨(some 8), none, .mv (.t 15)⟩])
   .ret)
  .skip)))
  (.seq (.seq (.region false [
    ⟨(some 16), none, .mv (.t 1)⟩,
    ⟨(some 17), none, .call 27 [.t 16]⟩,
    ⟨(some 10), none, .mv (.t 17)⟩])
  (.seq (.region false [
    ⟨(some 18), none, .mv (.t 10)⟩,
    ⟨(some 19), none, .ibin .neq .i64 (.t 18) (.k (.c (.int .i64 0)))⟩])
  (.cond (.t 19)
  (.seq (.region false [
     ⟨(some 20), none, .mv (.t 10)⟩,
     ⟨(some 6), none, .mv (.k (.c (.int .i64 0)))⟩,
     ⟨(some 7), none, .mv (.k (.c (.bool false)))⟩,
     ⟨(some 8), none, .mv (.t 20)⟩])
   .ret)
  .skip)))
  (.seq (.seq (.region false [
    ⟨(some 21), none, .faddr 2 (.t 5)⟩,
    ⟨(some 22), none, .load 1 false (.t 21)⟩,
    ⟨(some 23), none, .ibin .lss .i64 (.t 22) (.k (.c (.int .i64 0)))⟩,
    ⟨(some 24), none, .mv (.t 23)⟩,
    ⟨(some 25), (some (24, false)), .faddr 2 (.t 5)⟩,
    ⟨(some 26), (some (24, false)), .load 1 false (.t 25)⟩,
    ⟨(some 27), (some (24, false)), .ibin .gtr .i64 (.t 26) (.k (.c (.int .i64 100)))⟩,
    ⟨(some 28), none, .pick (.t 24) (.k (.c (.bool true))) (.t 27)⟩,
    ⟨(some 29), none, .mv (.t 28)⟩,
    ⟨(some 30), (some (29, false)), .faddr 3 (.t 5)⟩,
    ⟨(some 31), (some (29, false)), .load 1 false (.t 30)⟩,
    ⟨(some 32), (some (29, false)), .call 72 [.t 31]⟩,
    ⟨(some 33), (some (29, false)), .not (.t 32)⟩,
    ⟨(some 34), none, .pick (.t 29) (.k (.c (.bool true))) (.t 33)⟩])
  (.cond (.t 34)
  (.seq (.region false [
     ⟨(some 6), none, .mv (.k (.c (.int .i64 0)))⟩,
     ⟨(some 7), none, .mv (.k (.c (.bool false)))⟩,
     ⟨(some 8), none, .mv (.k (.c (.int .i64 9)))⟩])
   .ret)
  .skip))
  (.seq (.region true [
    ⟨(some 35), none, .load 2 true (.t 3)⟩,
    ⟨(some 36), none, .call 73 [.t 35]⟩,
    ⟨(some 37), none, .mv (.t 1)⟩,
    ⟨(some 38), none, .load 6 true (.t 5)⟩,
    ⟨(some 39), none, .call 80 [.t 36, .t 37, .t 38]⟩,
    ⟨(some 40), none, .ext 0 (.t 39)⟩,
    ⟨(some 41), none, .ext 1 (.t 39)⟩,
    ⟨(some 42), none, .ext 2 (.t 39)⟩,
    ⟨(some 6), none, .mv (.t 40)⟩,
    ⟨(some 7), none, .mv (.t 41)⟩,
    ⟨(some 8), none, .mv (.t 42)⟩])
  .ret))))) }
theorem rc25_ok : lowF Try.prog 25 = some rc25 := by kernel_rfl
def rc5 : RFun := { nt := 52, np := 3, res := [.t 6], code :=
  (.seq (.region false [
    ⟨(some 3), none, .box 2 (.t 0)⟩,
    ⟨(some 5), none, .box 6 (.t 2)⟩,
    ⟨(some 6), none, .mv (.k (.c (.bool false)))⟩])
  (.seq (.region false [
    ⟨(some 14), none, .load 2 true (.t 3)⟩,
    ⟨(some 15), none, .mv (.t 1)⟩,
    ⟨(some 16), none, .load 6 true (.t 5)⟩,
    ⟨(some 17), none, .call 24 [.t 14, .t 15, .t 16]⟩,
    ⟨(some 13), none, .mv (.t 17)⟩,
    ⟨(some 18), none, .ext 0 (.t 13)⟩,
    ⟨(some 19), none, .ext 1 (.t 13)⟩,
    ⟨(some 20), none, .ext 2 (.t 13)⟩,
    ⟨(some 7), none, .mv (.t 18)⟩,
    ⟨(some 8), none, .mv (.t 19)⟩,
    ⟨(some 9), none, .mv (.t 20)⟩])
  (.seq (.region false [
    ⟨(some 22), none, .load 2 true (.t 3)⟩,
    ⟨(some 23), none, .mv (.t 1)⟩,
    ⟨(some 24), none, .load 6 true (.t 5)⟩,
    ⟨(some 25), none, .call 25 [.t 22, .t 23, .t 24]⟩,
    ⟨(some 21), none, .mv (.t 25)⟩,
    ⟨(some 26), none, .ext 0 (.t 21)⟩,
    ⟨(some 27), none, .ext 1 (.t 21)⟩,
    ⟨(some 28), none, .ext 2 (.t 21)⟩,
    ⟨(some 10), none, .mv (.t 26)⟩,
    ⟨(some 11), none, .mv (.t 27)⟩,
    ⟨(some 12), none, .mv (.t 28)⟩])
  (.seq (.region false [
    ⟨(some 29), none, .mv (.t 1)⟩,
    ⟨(some 30), none, .call 26 [.t 29]⟩,
    ⟨(some 31), none, .mv (.t 1)⟩,
    ⟨(some 32), none, .call 27 [.t 31]⟩,
    ⟨(some 33), none, .ibin .eql .i64 (.t 30) (.t 32)⟩,
    ⟨(some 34), none, .mv (.t 33)⟩,
    ⟨(some 35), (some (34, true)), .mv (.t 10)⟩,
    ⟨(some 36), (some (34, true)), .mv (.t 7)⟩,
    ⟨(some 37), (some (34, true)), .ibin .eql .i64 (.t 35) (.t 36)⟩,
    ⟨(some 38), none, .pick (.t 34) (.t 37) (.k (.c (.bool false)))⟩,
    ⟨(some 39), none, .mv (.t 38)⟩,
    ⟨(some 40), (some (39, true)), .mv (.t 11)⟩,
    ⟨(some 41), (some (39, true)), .mv (.t 8)⟩,
    ⟨(some 42), (some (39, true)), .bbin false (.t 40) (.t 41)⟩,
    ⟨(some 43), none, .pick (.t 39) (.t 42) (.k (.c (.bool false)))⟩,
    ⟨(some 44), none, .mv (.t 43)⟩,
    ⟨(some 45), (some (44, true)), .mv (.t 12)⟩,
    ⟨(some 46), (some (44, true)), .mv (.t 9)⟩,
    ⟨(some 47), (some (44, true)), .ibin .eql .i64 (.t 45) (.t 46)⟩,
    ⟨(some 48), none, .pick (.t 44) (.t 47) (.k (.c (.bool false)))⟩,
    ⟨(some 49), none, .mv (.t 48)⟩,
    ⟨(some 50), (some (49, true)), .call 23 []⟩,
    ⟨(some 51), none, .pick (.t 49) (.t 50) (.k (.c (.bool false)))⟩,
    ⟨(some 6), none, .mv (.t 51)⟩])
  .ret)))) }
theorem rc5_ok : lowF Try.prog 5 = some rc5 := by kernel_rfl
end Go.Abs
