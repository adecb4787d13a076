/- The functions' code in the resolved form of Abs (printed by a program of this repo). -/
import Derived.Test.YtjjhmldeammecaaFHc
import Derived.Test.YtjjhmldeammecaaProg
namespace Go.Abs
open Go Go.Proofs
set_option maxRecDepth 8000
def rc93 : RFun := { nt := 28, np := 1, res := [.t 2], code :=
  (.seq (.region false [
    ⟨(some 2), none, .mv (.k (.c (.bool false)))⟩])
  (.seq (.seq (.region false [
    ⟨(some 3), none, .mv (.k (.c (.int .i64 0)))⟩])
  (.block 0
  (.loop
   (.seq (.seq (.region false [
      ⟨(some 4), none, .mv (.t 3)⟩,
      ⟨(some 5), none, .mv (.t 0)⟩,
      ⟨(some 6), none, .slen (.t 5)⟩,
      ⟨(some 7), none, .ibin .lss .i64 (.t 4) (.t 6)⟩])
    (.cond (.t 7)
    .skip
    (.exit 0)))
    (.seq (.block 1
    (.seq (.region false [
       ⟨(some 10), none, .mv (.t 0)⟩,
       ⟨(some 11), none, .mv (.t 3)⟩,
       ⟨(some 12), none, .sidx (.t 10) (.t 11)⟩,
       ⟨(some 13), none, .ibin .lss .u8 (.t 12) (.k (.c (.int .u8 33)))⟩,
       ⟨(some 14), none, .mv (.t 13)⟩,
       ⟨(some 15), (some (14, false)), .mv (.t 0)⟩,
       ⟨(some 16), (some (14, false)), .mv (.t 3)⟩,
       ⟨(some 17), (some (14, false)), .sidx (.t 15) (.t 16)⟩,
       ⟨(some 18), (some (14, false)), .ibin .gtr .u8 (.t 17) (.k (.c (.int .u8 126)))⟩,
       ⟨(some 19), none, .pick (.t 14) (.k (.c (.bool true))) (.t 18)⟩])
     (.cond (.t 19)
     (.seq (.region false [
        ⟨(some 2), none, .mv (.k (.c (.bool false)))⟩])
      .ret)
     .skip)))
    (.region false [
      ⟨(some 8), none, .mv (.t 3)⟩,
      ⟨(some 9), none, .ibin .add .i64 (.t 8) (.k (.c (.int .i64 1)))⟩,
      ⟨(some 3), none, .mv (.t 9)⟩]))))))
  (.seq (.region false [
    ⟨(some 20), none, .mv (.t 0)⟩,
    ⟨(some 21), none, .slen (.t 20)⟩,
    ⟨(some 22), none, .ibin .geq .i64 (.t 21) (.k (.c (.int .i64 1)))⟩,
    ⟨(some 23), none, .mv (.t 22)⟩,
    ⟨(some 24), (some (23, true)), .mv (.t 0)⟩,
    ⟨(some 25), (some (23, true)), .slen (.t 24)⟩,
    ⟨(some 26), (some (23, true)), .ibin .leq .i64 (.t 25) (.k (.c (.int .i64 100)))⟩,
    ⟨(some 27), none, .pick (.t 23) (.t 26) (.k (.c (.bool false)))⟩,
    ⟨(some 2), none, .mv (.t 27)⟩])
  .ret))) }
theorem rc93_ok : lowF Try.prog 93 = some rc93 := by kernel_rfl
def rc69 : RFun := { nt := 9, np := 1, res := [.t 2], code :=
  (.seq (.region false [
    ⟨(some 2), none, .mv (.k (.c (.bool false)))⟩])
  (.seq (.region false [
    ⟨(some 3), none, .mv (.t 0)⟩,
    ⟨(some 4), none, .ibin .geq .i64 (.t 3) (.k (.c (.int .i64 0)))⟩,
    ⟨(some 5), none, .mv (.t 4)⟩,
    ⟨(some 6), (some (5, true)), .mv (.t 0)⟩,
    ⟨(some 7), (some (5, true)), .ibin .leq .i64 (.t 6) (.k (.c (.int .i64 1000000)))⟩,
    ⟨(some 8), none, .pick (.t 5) (.t 7) (.k (.c (.bool false)))⟩,
    ⟨(some 2), none, .mv (.t 8)⟩])
  .ret)) }
theorem rc69_ok : lowF Try.prog 69 = some rc69 := by kernel_rfl
def rc131 : RFun := { nt := 24, np := 2, res := [.t 4], code :=
  (.seq (.region false [
    ⟨(some 2), none, .box 3 (.t 0)⟩,
    ⟨(some 3), none, .box 3 (.t 1)⟩,
    ⟨(some 4), none, .mv (.k (.c (.bool false)))⟩])
  (.seq (.region false [
    ⟨(some 5), none, .faddr 0 (.t 2)⟩,
    ⟨(some 6), none, .load 1 false (.t 5)⟩,
    ⟨(some 7), none, .faddr 0 (.t 3)⟩,
    ⟨(some 8), none, .load 1 false (.t 7)⟩,
    ⟨(some 9), none, .sbin .lss (.t 6) (.t 8)⟩,
    ⟨(some 10), none, .mv (.t 9)⟩,
    ⟨(some 11), (some (10, false)), .faddr 0 (.t 2)⟩,
    ⟨(some 12), (some (10, false)), .load 1 false (.t 11)⟩,
    ⟨(some 13), (some (10, false)), .faddr 0 (.t 3)⟩,
    ⟨(some 14), (some (10, false)), .load 1 false (.t 13)⟩,
    ⟨(some 15), (some (10, false)), .sbin .eql (.t 12) (.t 14)⟩,
    ⟨(some 16), (some (10, false)), .mv (.t 15)⟩,
    ⟨(some 17), (some (16, true)), .faddr 1 (.t 2)⟩,
    ⟨(some 18), (some (16, true)), .load 1 false (.t 17)⟩,
    ⟨(some 19), (some (16, true)), .faddr 1 (.t 3)⟩,
    ⟨(some 20), (some (16, true)), .load 1 false (.t 19)⟩,
    ⟨(some 21), (some (16, true)), .sbin .lss (.t 18) (.t 20)⟩,
    ⟨(some 22), (some (10, false)), .pick (.t 16) (.t 21) (.k (.c (.bool false)))⟩,
    ⟨(some 23), none, .pick (.t 10) (.k (.c (.bool true))) (.t 22)⟩,
    ⟨(some 4), none, .mv (.t 23)⟩])
  .ret)) }
theorem rc131_ok : lowF Try.prog 131 = some rc131 := by kernel_rfl
def rc94 : RFun := { nt := 49, np := 1, res := [.t 2], code :=
  (.seq (.region false [
    ⟨(some 2), none, .mv (.k (.c (.int .i64 0)))⟩])
  (.seq (.seq (.region false [
    ⟨(some 5), none, .mv (.t 0)⟩,
    ⟨(some 6), none, .len (.t 5)⟩,
    ⟨(some 7), none, .ibin .gtr .i64 (.t 6) (.k (.c (.int .i64 500)))⟩])
  (.cond (.t 7)
  (.seq (.region false [
     ⟨(some 2), none, .mv (.k (.c (.int .i64 3)))⟩])
   .ret)
  .skip))
  (.seq (.seq (.region false [
    ⟨(some 8), none, .mv (.t 0)⟩,
    ⟨(some 9), none, .len (.t 8)⟩,
    ⟨(some 10), none, .mv (.k (.c (.int .i64 0)))⟩])
  (.block 0
  (.loop
   (.seq (.region false [
      ⟨(some 11), none, .ibin .lss .i64 (.t 10) (.t 9)⟩])
    (.seq (.cond (.t 11)
    .skip
    (.exit 0))
    (.seq (.block 1
    (.seq (.region false [
       ⟨(some 12), none, .mv (.t 10)⟩,
       ⟨(some 13), none, .iaddr 3 (.t 8) (.t 10)⟩,
       ⟨(some 14), none, .load 3 true (.t 13)⟩,
       ⟨(some 4), none, .alloc [.c (.string ⟨#[]⟩), .c (.string ⟨#[]⟩), .c (.int .i64 0)]⟩,
       ⟨(some 3), none, .mv (.t 12)⟩,
       ⟨none, none, .store 3 (.t 4) (.t 14)⟩])
     (.block 2
     (.seq (.region false [
        ⟨(some 16), none, .faddr 0 (.t 4)⟩,
        ⟨(some 17), none, .load 1 false (.t 16)⟩,
        ⟨(some 18), none, .call 93 [.t 17]⟩,
        ⟨(some 19), none, .not (.t 18)⟩,
        ⟨(some 20), none, .mv (.t 19)⟩,
        ⟨(some 21), (some (20, false)), .faddr 1 (.t 4)⟩,
        ⟨(some 22), (some (20, false)), .load 1 false (.t 21)⟩,
        ⟨(some 23), (some (20, false)), .call 93 [.t 22]⟩,
        ⟨(some 24), (some (20, false)), .not (.t 23)⟩,
        ⟨(some 25), none, .pick (.t 20) (.k (.c (.bool true))) (.t 24)⟩,
        ⟨(some 15), none, .mv (.t 25)⟩])
      (.cond (.t 15)
      (.seq (.region false [
         ⟨(some 2), none, .mv (.k (.c (.int .i64 8)))⟩])
       .ret)
      (.seq (.region false [
         ⟨(some 27), none, .faddr 2 (.t 4)⟩,
         ⟨(some 28), none, .load 1 false (.t 27)⟩,
         ⟨(some 29), none, .ibin .lss .i64 (.t 28) (.k (.c (.int .i64 0)))⟩,
         ⟨(some 30), none, .mv (.t 29)⟩,
         ⟨(some 31), (some (30, false)), .faddr 2 (.t 4)⟩,
         ⟨(some 32), (some (30, false)), .load 1 false (.t 31)⟩,
         ⟨(some 33), (some (30, false)), .ibin .gtr .i64 (.t 32) (.k (.c (.int .i64 100)))⟩,
         ⟨(some 34), none, .pick (.t 30) (.k (.c (.bool true))) (.t 33)⟩,
         ⟨(some 26), none, .mv (.t 34)⟩])
       (.cond (.t 26)
       (.seq (.region false [
          ⟨(some 2), none, .mv (.k (.c (.int .i64 9)))⟩])
        .ret)
       (.seq (.region true [
          ⟨(some 36), none, .mv (.t 3)⟩,
          ⟨(some 37), none, .ibin .gtr .i64 (.t 36) (.k (.c (.int .i64 0)))⟩,
          ⟨(some 38), none, .mv (.t 37)⟩,
          ⟨(some 39), (some (38, true)), .mv (.t 0)⟩,
          ⟨(some 40), (some (38, true)), .mv (.t 3)⟩,
          ⟨(some 41), (some (38, true)), .ibin .sub .i64 (.t 40) (.k (.c (.int .i64 1)))⟩,
          ⟨(some 42), (some (38, true)), .iaddr 3 (.t 39) (.t 41)⟩,
          ⟨(some 43), (some (38, true)), .load 3 true (.t 42)⟩,
          ⟨(some 44), (some (38, true)), .load 3 true (.t 4)⟩,
          ⟨(some 45), (some (38, true)), .call 131 [.t 43, .t 44]⟩,
          ⟨(some 46), (some (38, true)), .not (.t 45)⟩,
          ⟨(some 47), none, .pick (.t 38) (.t 46) (.k (.c (.bool false)))⟩,
          ⟨(some 35), none, .mv (.t 47)⟩])
        (.cond (.t 35)
        (.seq (.region false [
           ⟨(some 2), none, .mv (.k (.c (.int .i64 10)))⟩])
         .ret)
        .skip)))))))))
    (.region false [
      ⟨(some 48), none, .ibin .add .i64 (.t 10) (.k (.c (.int .i64 1)))⟩,
      ⟨(some 10), none, .mv (.t 48)⟩])))))))
  (.seq (.region false [
    ⟨(some 2), none, .mv (.k (.c (.int .i64 0)))⟩])
  .ret)))) }
theorem rc94_ok : lowF Try.prog 94 = some rc94 := by kernel_rfl
def rc81 : RFun := { nt := 14, np := 1, res := [.t 2], code :=
  (.seq (.region false [
    ⟨(some 1), none, .box 3 (.t 0)⟩,
    ⟨(some 2), none, .mv (.k (.c (.int .i64 0)))⟩])
  (.seq (.seq (.region false [
    ⟨(some 3), none, .faddr 0 (.t 1)⟩,
    ⟨(some 4), none, .load 1 false (.t 3)⟩,
    ⟨(some 5), none, .call 93 [.t 4]⟩,
    ⟨(some 6), none, .not (.t 5)⟩])
  (.cond (.t 6)
  (.seq (.region false [
     ⟨(some 2), none, .mv (.k (.c (.int .i64 8)))⟩])
   .ret)
  .skip))
  (.seq (.seq (.region false [
    ⟨(some 7), none, .faddr 1 (.t 1)⟩,
    ⟨(some 8), none, .load 1 false (.t 7)⟩,
    ⟨(some 9), none, .call 69 [.t 8]⟩,
    ⟨(some 10), none, .not (.t 9)⟩])
  (.cond (.t 10)
  (.seq (.region false [
     ⟨(some 2), none, .mv (.k (.c (.int .i64 9)))⟩])
   .ret)
  .skip))
  (.seq (.region false [
    ⟨(some 11), none, .faddr 2 (.t 1)⟩,
    ⟨(some 12), none, .load 1 false (.t 11)⟩,
    ⟨(some 13), none, .call 94 [.t 12]⟩,
    ⟨(some 2), none, .mv (.t 13)⟩])
  .ret)))) }
theorem rc81_ok : lowF Try.prog 81 = some rc81 := by kernel_rfl
def rc127 : RFun := { nt := 17, np := 2, res := [.t 4], code :=
  (.seq (.region false [
    ⟨(some 2), none, .box 3 (.t 0)⟩,
    ⟨(some 3), none, .box 3 (.t 1)⟩,
    ⟨(some 4), none, .mv (.k (.c (.bool false)))⟩])
  (.seq (.region false [
    ⟨(some 5), none, .faddr 0 (.t 2)⟩,
    ⟨(some 6), none, .load 1 false (.t 5)⟩,
    ⟨(some 7), none, .faddr 0 (.t 3)⟩,
    ⟨(some 8), none, .load 1 false (.t 7)⟩,
    ⟨(some 9), none, .sbin .eql (.t 6) (.t 8)⟩,
    ⟨(some 10), none, .mv (.t 9)⟩,
    ⟨(some 11), (some (10, true)), .faddr 1 (.t 2)⟩,
    ⟨(some 12), (some (10, true)), .load 1 false (.t 11)⟩,
    ⟨(some 13), (some (10, true)), .faddr 1 (.t 3)⟩,
    ⟨(some 14), (some (10, true)), .load 1 false (.t 13)⟩,
    ⟨(some 15), (some (10, true)), .sbin .eql (.t 12) (.t 14)⟩,
    ⟨(some 16), none, .pick (.t 10) (.t 15) (.k (.c (.bool false)))⟩,
    ⟨(some 4), none, .mv (.t 16)⟩])
  .ret)) }
theorem rc127_ok : lowF Try.prog 127 = some rc127 := by kernel_rfl
def rc82 : RFun := { nt := 17, np := 2, res := [.t 4], code :=
  (.seq (.region false [
    ⟨(some 3), none, .box 3 (.t 1)⟩,
    ⟨(some 4), none, .mv (.k (.c (.bool false)))⟩])
  (.seq (.seq (.region false [
    ⟨(some 7), none, .mv (.t 0)⟩,
    ⟨(some 8), none, .len (.t 7)⟩,
    ⟨(some 9), none, .mv (.k (.c (.int .i64 0)))⟩])
  (.block 0
  (.loop
   (.seq (.region false [
      ⟨(some 10), none, .ibin .lss .i64 (.t 9) (.t 8)⟩])
    (.seq (.cond (.t 10)
    .skip
    (.exit 0))
    (.seq (.block 1
    (.seq (.region false [
       ⟨(some 11), none, .iaddr 3 (.t 7) (.t 9)⟩,
       ⟨(some 12), none, .load 3 true (.t 11)⟩,
       ⟨(some 6), none, .alloc [.c (.string ⟨#[]⟩), .c (.string ⟨#[]⟩), .c (.int .i64 0)]⟩,
       ⟨none, none, .store 3 (.t 6) (.t 12)⟩])
     (.seq (.region false [
       ⟨(some 13), none, .load 3 true (.t 3)⟩,
       ⟨(some 14), none, .load 3 true (.t 6)⟩,
       ⟨(some 15), none, .call 127 [.t 13, .t 14]⟩])
     (.cond (.t 15)
     (.seq (.region false [
        ⟨(some 4), none, .mv (.k (.c (.bool true)))⟩])
      .ret)
     .skip))))
    (.region false [
      ⟨(some 16), none, .ibin .add .i64 (.t 9) (.k (.c (.int .i64 1)))⟩,
      ⟨(some 9), none, .mv (.t 16)⟩])))))))
  (.seq (.region false [
    ⟨(some 4), none, .mv (.k (.c (.bool false)))⟩])
  .ret))) }
theorem rc82_ok : lowF Try.prog 82 = some rc82 := by kernel_rfl
def rc28 : RFun := { nt := 69, np := 2, res := [.t 4, .t 5, .t 6, .t 7], code :=
  (.seq (.region false [
    ⟨(some 2), none, .box 3 (.t 0)⟩,
    ⟨(some 3), none, .box 3 (.t 1)⟩,
    ⟨(some 4), none, .mv (.k (.c (.slice none 0 0)))⟩,
    ⟨(some 5), none, .mv (.k (.c (.slice none 0 0)))⟩,
    ⟨(some 6), none, .mv (.k (.c (.slice none 0 0)))⟩,
    ⟨(some 7), none, .mv (.k (.c (.int .i64 0)))⟩])
  (.seq (.seq (.region false [
    ⟨(some 15), none, .load 3 true (.t 2)⟩,
    ⟨(some 16), none, .load 3 true (.t 3)⟩,
    ⟨(some 17), none, .bslice 3 [.c (.string ⟨#[]⟩), .c (.int .i64 0), .c (.slice none 0 0)] 2 [(0, .t 15), (1, .t 16)]⟩,
    ⟨(some 18), none, .len (.t 17)⟩,
    ⟨(some 19), none, .mv (.k (.c (.int .i64 0)))⟩])
  (.block 0
  (.loop
   (.seq (.region false [
      ⟨(some 20), none, .ibin .lss .i64 (.t 19) (.t 18)⟩])
    (.seq (.cond (.t 20)
    .skip
    (.exit 0))
    (.seq (.block 1
    (.seq (.region false [
       ⟨(some 21), none, .iaddr 3 (.t 17) (.t 19)⟩,
       ⟨(some 22), none, .load 3 true (.t 21)⟩,
       ⟨(some 9), none, .alloc [.c (.string ⟨#[]⟩), .c (.int .i64 0), .c (.slice none 0 0)]⟩,
       ⟨none, none, .store 3 (.t 9) (.t 22)⟩])
     (.seq (.region false [
       ⟨(some 23), none, .load 3 true (.t 9)⟩,
       ⟨(some 24), none, .call 81 [.t 23]⟩,
       ⟨(some 10), none, .mv (.t 24)⟩])
     (.seq (.region false [
       ⟨(some 25), none, .mv (.t 10)⟩,
       ⟨(some 26), none, .ibin .neq .i64 (.t 25) (.k (.c (.int .i64 0)))⟩])
     (.cond (.t 26)
     (.seq (.region false [
        ⟨(some 27), none, .mv (.t 10)⟩,
        ⟨(some 4), none, .mv (.k (.c (.slice none 0 0)))⟩,
        ⟨(some 5), none, .mv (.k (.c (.slice none 0 0)))⟩,
        ⟨(some 6), none, .mv (.k (.c (.slice none 0 0)))⟩,
        ⟨(some 7), none, .mv (.t 27)⟩])
      .ret)
     .skip)))))
    (.region false [
      ⟨(some 28), none, .ibin .add .i64 (.t 19) (.k (.c (.int .i64 1)))⟩,
      ⟨(some 19), none, .mv (.t 28)⟩])))))))
  (.seq (.seq (.region false [
    ⟨(some 29), none, .faddr 2 (.t 2)⟩,
    ⟨(some 30), none, .load 1 false (.t 29)⟩,
    ⟨(some 31), none, .len (.t 30)⟩,
    ⟨(some 32), none, .mv (.k (.c (.int .i64 0)))⟩])
  (.block 2
  (.loop
   (.seq (.region false [
      ⟨(some 33), none, .ibin .lss .i64 (.t 32) (.t 31)⟩])
    (.seq (.cond (.t 33)
    .skip
    (.exit 2))
    (.seq (.block 3
    (.seq (.region false [
       ⟨(some 34), none, .iaddr 3 (.t 30) (.t 32)⟩,
       ⟨(some 35), none, .load 3 true (.t 34)⟩,
       ⟨(some 12), none, .alloc [.c (.string ⟨#[]⟩), .c (.string ⟨#[]⟩), .c (.int .i64 0)]⟩,
       ⟨none, none, .store 3 (.t 12) (.t 35)⟩])
     (.seq (.region false [
       ⟨(some 36), none, .faddr 2 (.t 3)⟩,
       ⟨(some 37), none, .load 1 false (.t 36)⟩,
       ⟨(some 38), none, .load 3 true (.t 12)⟩,
       ⟨(some 39), none, .call 82 [.t 37, .t 38]⟩,
       ⟨(some 40), none, .not (.t 39)⟩])
     (.cond (.t 40)
     (.region false [
        ⟨(some 41), none, .mv (.t 4)⟩,
        ⟨(some 42), none, .load 3 true (.t 12)⟩,
        ⟨(some 43), none, .bslice 3 [.c (.string ⟨#[]⟩), .c (.string ⟨#[]⟩), .c (.int .i64 0)] 1 [(0, .t 42)]⟩,
        ⟨(some 44), none, .app 3 40 [.c (.string ⟨#[]⟩), .c (.string ⟨#[]⟩), .c (.int .i64 0)] (.t 41) (.t 43)⟩,
        ⟨(some 4), none, .mv (.t 44)⟩])
     .skip))))
    (.region false [
      ⟨(some 45), none, .ibin .add .i64 (.t 32) (.k (.c (.int .i64 1)))⟩,
      ⟨(some 32), none, .mv (.t 45)⟩])))))))
  (.seq (.seq (.region false [
    ⟨(some 46), none, .faddr 2 (.t 3)⟩,
    ⟨(some 47), none, .load 1 false (.t 46)⟩,
    ⟨(some 48), none, .len (.t 47)⟩,
    ⟨(some 49), none, .mv (.k (.c (.int .i64 0)))⟩])
  (.block 4
  (.loop
   (.seq (.region false [
      ⟨(some 50), none, .ibin .lss .i64 (.t 49) (.t 48)⟩])
    (.seq (.cond (.t 50)
    .skip
    (.exit 4))
    (.seq (.block 5
    (.seq (.region false [
       ⟨(some 51), none, .iaddr 3 (.t 47) (.t 49)⟩,
       ⟨(some 52), none, .load 3 true (.t 51)⟩,
       ⟨(some 14), none, .alloc [.c (.string ⟨#[]⟩), .c (.string ⟨#[]⟩), .c (.int .i64 0)]⟩,
       ⟨none, none, .store 3 (.t 14) (.t 52)⟩])
     (.seq (.region false [
       ⟨(some 53), none, .faddr 2 (.t 2)⟩,
       ⟨(some 54), none, .load 1 false (.t 53)⟩,
       ⟨(some 55), none, .load 3 true (.t 14)⟩,
       ⟨(some 56), none, .call 82 [.t 54, .t 55]⟩])
     (.cond (.t 56)
     (.region false [
        ⟨(some 57), none, .mv (.t 6)⟩,
        ⟨(some 58), none, .load 3 true (.t 14)⟩,
        ⟨(some 59), none, .bslice 3 [.c (.string ⟨#[]⟩), .c (.string ⟨#[]⟩), .c (.int .i64 0)] 1 [(0, .t 58)]⟩,
        ⟨(some 60), none, .app 3 40 [.c (.string ⟨#[]⟩), .c (.string ⟨#[]⟩), .c (.int .i64 0)] (.t 57) (.t 59)⟩,
        ⟨(some 6), none, .mv (.t 60)⟩])
     (.region false [
        ⟨(some 61), none, .mv (.t 5)⟩,
        ⟨(some 62), none, .load 3 true (.t 14)⟩,
        ⟨(some 63), none, .bslice 3 [.c (.string ⟨#[]⟩), .c (.string ⟨#[]⟩), .c (.int .i64 0)] 1 [(0, .t 62)]⟩,
        ⟨(some 64), none, .app 3 40 [.c (.string ⟨#[]⟩), .c (.string ⟨#[]⟩), .c (.int .i64 0)] (.t 61) (.t 63)⟩,
        ⟨(some 5), none, .mv (.t 64)⟩])))))
    (.region false [
      ⟨(some 65), none, .ibin .add .i64 (.t 49) (.k (.c (.int .i64 1)))⟩,
      ⟨(some 49), none, .mv (.t 65)⟩])))))))
  (.seq (.region false [
    ⟨(some 66), none, .mv (.t 4)⟩,
    ⟨(some 67), none, .mv (.t 5)⟩,
    ⟨(some 68), none, .mv (.t 6)⟩,
    ⟨(some 4), none, .mv (.t 66)⟩,
    ⟨(some 5), none, .mv (.t 67)⟩,
    ⟨(some 6), none, .mv (.t 68)⟩,
    ⟨(some 7), none, .mv (.k (.c (.int .i64 0)))⟩])
  .ret))))) }
theorem rc28_ok : lowF Try.prog 28 = some rc28 := by kernel_rfl
def rc132 : RFun := { nt := 22, np := 1, res := [.t 2], code :=
  (.seq (.region false [
    ⟨(some 2), none, .mv (.k (.c (.bool false)))⟩])
  (.seq (.seq (.region false [
    ⟨(some 4), none, .mv (.t 0)⟩,
    ⟨(some 5), none, .slen (.t 4)⟩,
    ⟨(some 6), none, .mv (.k (.c (.int .i64 0)))⟩])
  (.block 0
  (.loop
   (.seq (.region false [
      ⟨(some 7), none, .ibin .lss .i64 (.t 6) (.t 5)⟩])
    (.seq (.cond (.t 7)
    .skip
    (.exit 0))
    (.seq (.block 1
    (.seq (.region false [
       ⟨(some 8), none, .mv (.t 6)⟩,
       ⟨(some 3), none, .mv (.t 8)⟩])
     (.seq (.region false [
       ⟨(some 9), none, .mv (.t 0)⟩,
       ⟨(some 10), none, .mv (.t 3)⟩,
       ⟨(some 11), none, .sidx (.t 9) (.t 10)⟩,
       ⟨(some 12), none, .ibin .lss .u8 (.t 11) (.k (.c (.int .u8 33)))⟩,
       ⟨(some 13), none, .mv (.t 12)⟩,
       ⟨(some 14), (some (13, false)), .mv (.t 0)⟩,
       ⟨(some 15), (some (13, false)), .mv (.t 3)⟩,
       ⟨(some 16), (some (13, false)), .sidx (.t 14) (.t 15)⟩,
       ⟨(some 17), (some (13, false)), .ibin .gtr .u8 (.t 16) (.k (.c (.int .u8 126)))⟩,
       ⟨(some 18), none, .pick (.t 13) (.k (.c (.bool true))) (.t 17)⟩])
     (.cond (.t 18)
     (.seq (.region false [
        ⟨(some 2), none, .mv (.k (.c (.bool false)))⟩])
      .ret)
     .skip))))
    (.region false [
      ⟨(some 19), none, .ibin .add .i64 (.t 6) (.k (.c (.int .i64 1)))⟩,
      ⟨(some 6), none, .mv (.t 19)⟩])))))))
  (.seq (.region false [
    ⟨(some 20), none, .mv (.t 0)⟩,
    ⟨(some 21), none, .sbin .neq (.t 20) (.k (.c (.string ⟨#[]⟩)))⟩,
    ⟨(some 2), none, .mv (.t 21)⟩])
  .ret))) }
theorem rc132_ok : lowF Try.prog 132 = some rc132 := by kernel_rfl
def rc96 : RFun := { nt := 10, np := 1, res := [.t 2], code :=
  (.seq (.region false [
    ⟨(some 2), none, .mv (.k (.c (.bool false)))⟩])
  (.seq (.region false [
    ⟨(some 3), none, .mv (.t 0)⟩,
    ⟨(some 4), none, .call 132 [.t 3]⟩,
    ⟨(some 5), none, .mv (.t 4)⟩,
    ⟨(some 6), (some (5, true)), .mv (.t 0)⟩,
    ⟨(some 7), (some (5, true)), .slen (.t 6)⟩,
    ⟨(some 8), (some (5, true)), .ibin .leq .i64 (.t 7) (.k (.c (.int .i64 100)))⟩,
    ⟨(some 9), none, .pick (.t 5) (.t 8) (.k (.c (.bool false)))⟩,
    ⟨(some 2), none, .mv (.t 9)⟩])
  .ret)) }
theorem rc96_ok : lowF Try.prog 96 = some rc96 := by kernel_rfl
def rc72 : RFun := { nt := 9, np := 1, res := [.t 2], code :=
  (.seq (.region false [
    ⟨(some 2), none, .mv (.k (.c (.bool false)))⟩])
  (.seq (.region false [
    ⟨(some 3), none, .mv (.t 0)⟩,
    ⟨(some 4), none, .ibin .geq .i64 (.t 3) (.k (.c (.int .i64 0)))⟩,
    ⟨(some 5), none, .mv (.t 4)⟩,
    ⟨(some 6), (some (5, true)), .mv (.t 0)⟩,
    ⟨(some 7), (some (5, true)), .ibin .leq .i64 (.t 6) (.k (.c (.int .i64 1000000)))⟩,
    ⟨(some 8), none, .pick (.t 5) (.t 7) (.k (.c (.bool false)))⟩,
    ⟨(some 2), none, .mv (.t 8)⟩])
  .ret)) }
theorem rc72_ok : lowF Try.prog 72 = some rc72 := by kernel_rfl
def rc86 : RFun := { nt := 8, np := 1, res := [.c 2 2 true], code :=
  (.seq (.region false [
    ⟨(some 1), none, .box 3 (.t 0)⟩,
    ⟨(some 2), none, .alloc [.c (.string ⟨#[]⟩), .c (.string ⟨#[]⟩)]⟩])
  (.seq (.region false [
    ⟨(some 3), none, .faddr 0 (.t 1)⟩,
    ⟨(some 4), none, .load 1 false (.t 3)⟩,
    ⟨(some 5), none, .faddr 1 (.t 1)⟩,
    ⟨(some 6), none, .load 1 false (.t 5)⟩,
    ⟨(some 7), none, .build [.c (.string ⟨#[]⟩), .c (.string ⟨#[]⟩)] [(0, 1, .t 4), (1, 1, .t 6)]⟩,
    ⟨none, none, .store 2 (.t 2) (.t 7)⟩])
  .ret)) }
theorem rc86_ok : lowF Try.prog 86 = some rc86 := by kernel_rfl
def rc152 : RFun := { nt := 6, np := 1, res := [.t 2], code :=
  (.seq (.region false [
    ⟨(some 2), none, .mv (.k (.c (.bool false)))⟩])
  (.seq (.region false [
    ⟨(some 3), none, .mv (.t 0)⟩,
    ⟨(some 4), none, .mv (.t 0)⟩,
    ⟨(some 5), none, .sbin .neq (.t 3) (.t 4)⟩,
    ⟨(some 2), none, .mv (.t 5)⟩])
  .ret)) }
theorem rc152_ok : lowF Try.prog 152 = some rc152 := by kernel_rfl
def rc138 : RFun := { nt := 20, np := 2, res := [.t 4], code :=
  (.seq (.region false [
    ⟨(some 4), none, .mv (.k (.c (.int .i64 0)))⟩])
  (.seq (.region false [
    ⟨(some 7), none, .mv (.t 0)⟩,
    ⟨(some 8), none, .call 152 [.t 7]⟩,
    ⟨(some 5), none, .mv (.t 8)⟩])
  (.seq (.region false [
    ⟨(some 9), none, .mv (.t 1)⟩,
    ⟨(some 10), none, .call 152 [.t 9]⟩,
    ⟨(some 6), none, .mv (.t 10)⟩])
  (.seq (.seq (.region false [
    ⟨(some 11), none, .mv (.t 5)⟩])
  (.cond (.t 11)
  (.seq (.seq (.region false [
     ⟨(some 12), none, .mv (.t 6)⟩])
   (.cond (.t 12)
   (.seq (.region false [
      ⟨(some 4), none, .mv (.k (.c (.int .i64 0)))⟩])
    .ret)
   .skip))
   (.seq (.region false [
     ⟨(some 4), none, .mv (.k (.c (.int .i64 (-1))))⟩])
   .ret))
  .skip))
  (.seq (.seq (.region false [
    ⟨(some 13), none, .mv (.t 6)⟩])
  (.cond (.t 13)
  (.seq (.region false [
     ⟨(some 4), none, .mv (.k (.c (.int .i64 1)))⟩])
   .ret)
  .skip))
  (.seq (.seq (.region false [
    ⟨(some 14), none, .mv (.t 0)⟩,
    ⟨(some 15), none, .mv (.t 1)⟩,
    ⟨(some 16), none, .sbin .lss (.t 14) (.t 15)⟩])
  (.cond (.t 16)
  (.seq (.region false [
     ⟨(some 4), none, .mv (.k (.c (.int .i64 (-1))))⟩])
   .ret)
  .skip))
  (.seq (.seq (.region false [
    ⟨(some 17), none, .mv (.t 0)⟩,
    ⟨(some 18), none, .mv (.t 1)⟩,
    ⟨(some 19), none, .sbin .gtr (.t 17) (.t 18)⟩])
  (.cond (.t 19)
  (.seq (.region false [
     ⟨(some 4), none, .mv (.k (.c (.int .i64 1)))⟩])
   .ret)
  .skip))
  (.seq (.region false [
    ⟨(some 4), none, .mv (.k (.c (.int .i64 0)))⟩])
  .ret)))))))) }
theorem rc138_ok : lowF Try.prog 138 = some rc138 := by kernel_rfl
def rc150 : RFun := { nt := 18, np := 1, res := [.t 2], code :=
  (.seq (.region false [
    ⟨(some 2), none, .mv (.k (.c (.int .i64 0)))⟩])
  (.seq (.region false [
    ⟨(some 3), none, .mv (.k (.c (.int .i64 0)))⟩])
  (.seq (.seq (.region false [
    ⟨(some 6), none, .mv (.t 0)⟩,
    ⟨(some 7), none, .len (.t 6)⟩,
    ⟨(some 8), none, .mv (.k (.c (.int .i64 0)))⟩])
  (.block 0
  (.loop
   (.seq (.region false [
      ⟨(some 9), none, .ibin .lss .i64 (.t 8) (.t 7)⟩])
    (.seq (.cond (.t 9)
    .skip
    (.exit 0))
    (.seq (.block 1
    (.seq (.region false [
       ⟨(some 10), none, .iaddr 1 (.t 6) (.t 8)⟩,
       ⟨(some 11), none, .load 1 false (.t 10)⟩,
       ⟨(some 5), none, .mv (.t 11)⟩])
     (.seq (.region false [
       ⟨(some 12), none, .mv (.t 5)⟩,
       ⟨(some 13), none, .mv (.t 3)⟩,
       ⟨(some 14), none, .ibin .neq .i64 (.t 12) (.t 13)⟩])
     (.cond (.t 14)
     (.seq (.region false [
        ⟨(some 15), none, .mv (.t 5)⟩,
        ⟨(some 2), none, .mv (.t 15)⟩])
      .ret)
     .skip))))
    (.region false [
      ⟨(some 16), none, .ibin .add .i64 (.t 8) (.k (.c (.int .i64 1)))⟩,
      ⟨(some 8), none, .mv (.t 16)⟩])))))))
  (.seq (.region false [
    ⟨(some 17), none, .mv (.t 3)⟩,
    ⟨(some 2), none, .mv (.t 17)⟩])
  .ret)))) }
theorem rc150_ok : lowF Try.prog 150 = some rc150 := by kernel_rfl
def rc146 : RFun := { nt := 17, np := 2, res := [.t 4], code :=
  (.seq (.region false [
    ⟨(some 2), none, .box 2 (.t 0)⟩,
    ⟨(some 3), none, .box 2 (.t 1)⟩,
    ⟨(some 4), none, .mv (.k (.c (.int .i64 0)))⟩])
  (.seq (.region true [
    ⟨(some 5), none, .faddr 0 (.t 2)⟩,
    ⟨(some 6), none, .load 1 false (.t 5)⟩,
    ⟨(some 7), none, .faddr 0 (.t 3)⟩,
    ⟨(some 8), none, .load 1 false (.t 7)⟩,
    ⟨(some 9), none, .call 138 [.t 6, .t 8]⟩,
    ⟨(some 10), none, .faddr 1 (.t 2)⟩,
    ⟨(some 11), none, .load 1 false (.t 10)⟩,
    ⟨(some 12), none, .faddr 1 (.t 3)⟩,
    ⟨(some 13), none, .load 1 false (.t 12)⟩,
    ⟨(some 14), none, .call 138 [.t 11, .t 13]⟩,
    ⟨(some 15), none, .bslice 1 [.c (.int .i64 0)] 2 [(0, .t 9), (1, .t 14)]⟩,
    ⟨(some 16), none, .call 150 [.t 15]⟩,
    ⟨(some 4), none, .mv (.t 16)⟩])
  .ret)) }
theorem rc146_ok : lowF Try.prog 146 = some rc146 := by kernel_rfl
def rc128 : RFun := { nt := 51, np := 1, res := [.t 2], code :=
  (.seq (.region false [
    ⟨(some 2), none, .mv (.k (.c (.int .i64 0)))⟩])
  (.seq (.seq (.region false [
    ⟨(some 5), none, .mv (.t 0)⟩,
    ⟨(some 6), none, .len (.t 5)⟩,
    ⟨(some 7), none, .ibin .gtr .i64 (.t 6) (.k (.c (.int .i64 500)))⟩])
  (.cond (.t 7)
  (.seq (.region false [
     ⟨(some 2), none, .mv (.k (.c (.int .i64 3)))⟩])
   .ret)
  .skip))
  (.seq (.seq (.region false [
    ⟨(some 8), none, .mv (.t 0)⟩,
    ⟨(some 9), none, .len (.t 8)⟩,
    ⟨(some 10), none, .mv (.k (.c (.int .i64 0)))⟩])
  (.block 0
  (.loop
   (.seq (.region false [
      ⟨(some 11), none, .ibin .lss .i64 (.t 10) (.t 9)⟩])
    (.seq (.cond (.t 11)
    .skip
    (.exit 0))
    (.seq (.block 1
    (.seq (.region false [
       ⟨(some 12), none, .mv (.t 10)⟩,
       ⟨(some 13), none, .iaddr 3 (.t 8) (.t 10)⟩,
       ⟨(some 14), none, .load 3 true (.t 13)⟩,
       ⟨(some 4), none, .alloc [.c (.string ⟨#[]⟩), .c (.string ⟨#[]⟩), .c (.int .i64 0)]⟩,
       ⟨(some 3), none, .mv (.t 12)⟩,
       ⟨none, none, .store 3 (.t 4) (.t 14)⟩])
     (.block 2
     (.seq (.region false [
        ⟨(some 16), none, .faddr 0 (.t 4)⟩,
        ⟨(some 17), none, .load 1 false (.t 16)⟩,
        ⟨(some 18), none, .call 96 [.t 17]⟩,
        ⟨(some 19), none, .not (.t 18)⟩,
        ⟨(some 20), none, .mv (.t 19)⟩,
        ⟨(some 21), (some (20, false)), .faddr 1 (.t 4)⟩,
        ⟨(some 22), (some (20, false)), .load 1 false (.t 21)⟩,
        ⟨(some 23), (some (20, false)), .call 96 [.t 22]⟩,
        ⟨(some 24), (some (20, false)), .not (.t 23)⟩,
        ⟨(some 25), none, .pick (.t 20) (.k (.c (.bool true))) (.t 24)⟩,
        ⟨(some 15), none, .mv (.t 25)⟩])
      (.cond (.t 15)
      (.seq (.region false [
         ⟨(some 2), none, .mv (.k (.c (.int .i64 8)))⟩])
       .ret)
      (.seq (.region false [
         ⟨(some 27), none, .faddr 2 (.t 4)⟩,
         ⟨(some 28), none, .load 1 false (.t 27)⟩,
         ⟨(some 29), none, .ibin .lss .i64 (.t 28) (.k (.c (.int .i64 0)))⟩,
         ⟨(some 30), none, .mv (.t 29)⟩,
         ⟨(some 31), (some (30, false)), .faddr 2 (.t 4)⟩,
         ⟨(some 32), (some (30, false)), .load 1 false (.t 31)⟩,
         ⟨(some 33), (some (30, false)), .ibin .gtr .i64 (.t 32) (.k (.c (.int .i64 100)))⟩,
         ⟨(some 34), none, .pick (.t 30) (.k (.c (.bool true))) (.t 33)⟩,
         ⟨(some 26), none, .mv (.t 34)⟩])
       (.cond (.t 26)
       (.seq (.region false [
          ⟨(some 2), none, .mv (.k (.c (.int .i64 9)))⟩])
        .ret)
       (.seq (.region true [
          ⟨(some 36), none, .mv (.t 3)⟩,
          ⟨(some 37), none, .ibin .gtr .i64 (.t 36) (.k (.c (.int .i64 0)))⟩,
          ⟨(some 38), none, .mv (.t 37)⟩,
          ⟨(some 39), (some (38, true)), .mv (.t 0)⟩,
          ⟨(some 40), (some (38, true)), .mv (.t 3)⟩,
          ⟨(some 41), (some (38, true)), .ibin .sub .i64 (.t 40) (.k (.c (.int .i64 1)))⟩,
          ⟨(some 42), (some (38, true)), .iaddr 3 (.t 39) (.t 41)⟩,
          ⟨(some 43), (some (38, true)), .load 3 true (.t 42)⟩,
          ⟨(some 44), (some (38, true)), .call 86 [.t 43]⟩,
          ⟨(some 45), (some (38, true)), .load 3 true (.t 4)⟩,
          ⟨(some 46), (some (38, true)), .call 86 [.t 45]⟩,
          ⟨(some 47), (some (38, true)), .call 146 [.t 44, .t 46]⟩,
          ⟨(some 48), (some (38, true)), .ibin .geq .i64 (.t 47) (.k (.c (.int .i64 0)))⟩,
          ⟨(some 49), none, .pick (.t 38) (.t 48) (.k (.c (.bool false)))⟩,
          ⟨(some 35), none, .mv (.t 49)⟩])
        (.cond (.t 35)
        (.seq (.region false [
           ⟨(some 2), none, .mv (.k (.c (.int .i64 10)))⟩])
         .ret)
        .skip)))))))))
    (.region false [
      ⟨(some 50), none, .ibin .add .i64 (.t 10) (.k (.c (.int .i64 1)))⟩,
      ⟨(some 10), none, .mv (.t 50)⟩])))))))
  (.seq (.region false [
    ⟨(some 2), none, .mv (.k (.c (.int .i64 0)))⟩])
  .ret)))) }
theorem rc128_ok : lowF Try.prog 128 = some rc128 := by kernel_rfl
def rc83 : RFun := { nt := 16, np := 1, res := [.t 2], code :=
  (.seq (.region false [
    ⟨(some 1), none, .box 3 (.t 0)⟩,
    ⟨(some 2), none, .mv (.k (.c (.int .i64 0)))⟩])
  (.seq (.block 0
  (.seq (.region false [
     ⟨(some 4), none, .faddr 0 (.t 1)⟩,
     ⟨(some 5), none, .load 1 false (.t 4)⟩,
     ⟨(some 6), none, .call 96 [.t 5]⟩,
     ⟨(some 7), none, .not (.t 6)⟩,
     ⟨(some 3), none, .mv (.t 7)⟩])
   (.cond (.t 3)
   (.seq (.region false [
      ⟨(some 2), none, .mv (.k (.c (.int .i64 8)))⟩])
    .ret)
   (.seq (.region false [
      ⟨(some 9), none, .faddr 1 (.t 1)⟩,
      ⟨(some 10), none, .load 1 false (.t 9)⟩,
      ⟨(some 11), none, .call 72 [.t 10]⟩,
      ⟨(some 12), none, .not (.t 11)⟩,
      ⟨(some 8), none, .mv (.t 12)⟩])
    (.cond (.t 8)
    (.seq (.region false [
       ⟨(some 2), none, .mv (.k (.c (.int .i64 9)))⟩])
     .ret)
    .skip)))))
  (.seq (.region false [
    ⟨(some 13), none, .faddr 2 (.t 1)⟩,
    ⟨(some 14), none, .load 1 false (.t 13)⟩,
    ⟨(some 15), none, .call 128 [.t 14]⟩,
    ⟨(some 2), none, .mv (.t 15)⟩])
  .ret))) }
theorem rc83_ok : lowF Try.prog 83 = some rc83 := by kernel_rfl
def rc85 : RFun := { nt := 9, np := 2, res := [.t 3], code :=
  (.seq (.region false [
    ⟨(some 2), none, .box 3 (.t 0)⟩,
    ⟨(some 3), none, .mv (.k (.c (.bool false)))⟩])
  (.seq (.region true [
    ⟨(some 4), none, .load 3 true (.t 1)⟩,
    ⟨(some 5), none, .call 86 [.t 4]⟩,
    ⟨(some 6), none, .load 3 true (.t 2)⟩,
    ⟨(some 7), none, .call 86 [.t 6]⟩,
    ⟨(some 8), none, .eqv false [.str, .str] (.t 5) (.t 7)⟩,
    ⟨(some 3), none, .mv (.t 8)⟩])
  .ret)) }
theorem rc85_ok : lowF Try.prog 85 = some rc85 := by kernel_rfl
def rc100 : RFun := { nt := 19, np := 2, res := [.t 4], code :=
  (.seq (.region false [
    ⟨(some 4), none, .mv (.k (.c (.int .i64 0)))⟩])
  (.seq (.seq (.region false [
    ⟨(some 6), none, .mv (.t 0)⟩,
    ⟨(some 7), none, .len (.t 6)⟩,
    ⟨(some 8), none, .mv (.k (.c (.int .i64 0)))⟩])
  (.block 0
  (.loop
   (.seq (.region false [
      ⟨(some 9), none, .ibin .lss .i64 (.t 8) (.t 7)⟩])
    (.seq (.cond (.t 9)
    .skip
    (.exit 0))
    (.seq (.block 1
    (.seq (.region false [
       ⟨(some 10), none, .mv (.t 8)⟩,
       ⟨(some 5), none, .mv (.t 10)⟩])
     (.seq (.region false [
       ⟨(some 11), none, .mv (.t 1)⟩,
       ⟨(some 12), none, .mv (.t 0)⟩,
       ⟨(some 13), none, .mv (.t 5)⟩,
       ⟨(some 14), none, .iaddr 3 (.t 12) (.t 13)⟩,
       ⟨(some 15), none, .load 3 true (.t 14)⟩,
       ⟨(some 16), none, .callv (.t 11) [.t 15]⟩])
     (.cond (.t 16)
     (.seq (.region false [
        ⟨(some 17), none, .mv (.t 5)⟩,
        ⟨(some 4), none, .mv (.t 17)⟩])
      .ret)
     .skip))))
    (.region false [
      ⟨(some 18), none, .ibin .add .i64 (.t 8) (.k (.c (.int .i64 1)))⟩,
      ⟨(some 8), none, .mv (.t 18)⟩])))))))
  (.seq (.region false [
    ⟨(some 4), none, .mv (.k (.c (.int .i64 (-1))))⟩])
  .ret))) }
theorem rc100_ok : lowF Try.prog 100 = some rc100 := by kernel_rfl
def rc43 : RFun := { nt := 9, np := 2, res := [.t 4], code :=
  (.seq (.region false [
    ⟨(some 4), none, .mv (.k (.c (.bool false)))⟩])
  (.seq (.region false [
    ⟨(some 5), none, .mv (.t 0)⟩,
    ⟨(some 6), none, .mv (.t 1)⟩,
    ⟨(some 7), none, .call 100 [.t 5, .t 6]⟩,
    ⟨(some 8), none, .ibin .geq .i64 (.t 7) (.k (.c (.int .i64 0)))⟩,
    ⟨(some 4), none, .mv (.t 8)⟩])
  .ret)) }
theorem rc43_ok : lowF Try.prog 43 = some rc43 := by kernel_rfl
def rc84 : RFun := { nt := 8, np := 2, res := [.t 4], code :=
  (.seq (.region false [
    ⟨(some 3), none, .box 3 (.t 1)⟩,
    ⟨(some 4), none, .mv (.k (.c (.bool false)))⟩])
  (.seq (.region false [
    ⟨(some 5), none, .mv (.t 0)⟩,
    ⟨(some 6), none, .mkf (.func 85) [] [.t 3]⟩,
    ⟨(some 7), none, .call 43 [.t 5, .t 6]⟩,
    ⟨(some 4), none, .mv (.t 7)⟩])
  .ret)) }
theorem rc84_ok : lowF Try.prog 84 = some rc84 := by kernel_rfl
def rc29 : RFun := { nt := 72, np := 2, res := [.t 4, .t 5, .t 6, .t 7], code :=
  (.seq (.region false [
    ⟨(some 2), none, .box 3 (.t 0)⟩,
    ⟨(some 3), none, .box 3 (.t 1)⟩,
    ⟨(some 4), none, .mv (.k (.c (.slice none 0 0)))⟩,
    ⟨(some 5), none, .mv (.k (.c (.slice none 0 0)))⟩,
    ⟨(some 6), none, .mv (.k (.c (.slice none 0 0)))⟩,
    ⟨(some 7), none, .mv (.k (.c (.int .i64 0)))⟩])
  (.seq (.seq (.region false [
    ⟨(some 16), none, .load 3 true (.t 2)⟩,
    ⟨(some 17), none, .load 3 true (.t 3)⟩,
    ⟨(some 18), none, .bslice 3 [.c (.string ⟨#[]⟩), .c (.int .i64 0), .c (.slice none 0 0)] 2 [(0, .t 16), (1, .t 17)]⟩,
    ⟨(some 19), none, .len (.t 18)⟩,
    ⟨(some 20), none, .mv (.k (.c (.int .i64 0)))⟩])
  (.block 0
  (.loop
   (.seq (.region false [
      ⟨(some 21), none, .ibin .lss .i64 (.t 20) (.t 19)⟩])
    (.seq (.cond (.t 21)
    .skip
    (.exit 0))
    (.seq (.block 1
    (.seq (.region false [
       ⟨(some 22), none, .iaddr 3 (.t 18) (.t 20)⟩,
       ⟨(some 23), none, .load 3 true (.t 22)⟩,
       ⟨(some 9), none, .alloc [.c (.string ⟨#[]⟩), .c (.int .i64 0), .c (.slice none 0 0)]⟩,
       ⟨none, none, .store 3 (.t 9) (.t 23)⟩])
     (.seq (.region false [
       ⟨(some 24), none, .load 3 true (.t 9)⟩,
       ⟨(some 25), none, .call 83 [.t 24]⟩,
       ⟨(some 10), none, .mv (.t 25)⟩])
     (.seq (.region false [
       ⟨(some 26), none, .mv (.t 10)⟩,
       ⟨(some 27), none, .ibin .neq .i64 (.t 26) (.k (.c (.int .i64 0)))⟩])
     (.cond (.t 27)
     (.seq (.region false [
        ⟨(some 28), none, .mv (.t 10)⟩,
        ⟨(some 4), none, .mv (.k (.c (.slice none 0 0)))⟩,
        ⟨(some 5), none, .mv (.k (.c (.slice none 0 0)))⟩,
        ⟨(some 6), none, .mv (.k (.c (.slice none 0 0)))⟩,
        ⟨(some 7), none, .mv (.t 28)⟩])
      .ret)
     .skip)))))
    (.region false [
      ⟨(some 29), none, .ibin .add .i64 (.t 20) (.k (.c (.int .i64 1)))⟩,
      ⟨(some 20), none, .mv (.t 29)⟩])))))))
  (.seq (.region false [
    ⟨(some 11), none, .mv (.f 84)⟩])
  (.seq (.seq (.region false [
    ⟨(some 30), none, .faddr 2 (.t 2)⟩,
    ⟨(some 31), none, .load 1 false (.t 30)⟩,
    ⟨(some 32), none, .len (.t 31)⟩,
    ⟨(some 33), none, .mv (.k (.c (.int .i64 0)))⟩])
  (.block 2
  (.loop
   (.seq (.region false [
      ⟨(some 34), none, .ibin .lss .i64 (.t 33) (.t 32)⟩])
    (.seq (.cond (.t 34)
    .skip
    (.exit 2))
    (.seq (.block 3
    (.seq (.region false [
       ⟨(some 35), none, .iaddr 3 (.t 31) (.t 33)⟩,
       ⟨(some 36), none, .load 3 true (.t 35)⟩,
       ⟨(some 13), none, .alloc [.c (.string ⟨#[]⟩), .c (.string ⟨#[]⟩), .c (.int .i64 0)]⟩,
       ⟨none, none, .store 3 (.t 13) (.t 36)⟩])
     (.seq (.region false [
       ⟨(some 37), none, .mv (.t 11)⟩,
       ⟨(some 38), none, .faddr 2 (.t 3)⟩,
       ⟨(some 39), none, .load 1 false (.t 38)⟩,
       ⟨(some 40), none, .load 3 true (.t 13)⟩,
       ⟨(some 41), none, .callv (.t 37) [.t 39, .t 40]⟩,
       ⟨(some 42), none, .not (.t 41)⟩])
     (.cond (.t 42)
     (.region false [
        ⟨(some 43), none, .mv (.t 4)⟩,
        ⟨(some 44), none, .load 3 true (.t 13)⟩,
        ⟨(some 45), none, .bslice 3 [.c (.string ⟨#[]⟩), .c (.string ⟨#[]⟩), .c (.int .i64 0)] 1 [(0, .t 44)]⟩,
        ⟨(some 46), none, .app 3 40 [.c (.string ⟨#[]⟩), .c (.string ⟨#[]⟩), .c (.int .i64 0)] (.t 43) (.t 45)⟩,
        ⟨(some 4), none, .mv (.t 46)⟩])
     .skip))))
    (.region false [
      ⟨(some 47), none, .ibin .add .i64 (.t 33) (.k (.c (.int .i64 1)))⟩,
      ⟨(some 33), none, .mv (.t 47)⟩])))))))
  (.seq (.seq (.region false [
    ⟨(some 48), none, .faddr 2 (.t 3)⟩,
    ⟨(some 49), none, .load 1 false (.t 48)⟩,
    ⟨(some 50), none, .len (.t 49)⟩,
    ⟨(some 51), none, .mv (.k (.c (.int .i64 0)))⟩])
  (.block 4
  (.loop
   (.seq (.region false [
      ⟨(some 52), none, .ibin .lss .i64 (.t 51) (.t 50)⟩])
    (.seq (.cond (.t 52)
    .skip
    (.exit 4))
    (.seq (.block 5
    (.seq (.region false [
       ⟨(some 53), none, .iaddr 3 (.t 49) (.t 51)⟩,
       ⟨(some 54), none, .load 3 true (.t 53)⟩,
       ⟨(some 15), none, .alloc [.c (.string ⟨#[]⟩), .c (.string ⟨#[]⟩), .c (.int .i64 0)]⟩,
       ⟨none, none, .store 3 (.t 15) (.t 54)⟩])
     (.seq (.region false [
       ⟨(some 55), none, .mv (.t 11)⟩,
       ⟨(some 56), none, .faddr 2 (.t 2)⟩,
       ⟨(some 57), none, .load 1 false (.t 56)⟩,
       ⟨(some 58), none, .load 3 true (.t 15)⟩,
       ⟨(some 59), none, .callv (.t 55) [.t 57, .t 58]⟩])
     (.cond (.t 59)
     (.region false [
        ⟨(some 60), none, .mv (.t 6)⟩,
        ⟨(some 61), none, .load 3 true (.t 15)⟩,
        ⟨(some 62), none, .bslice 3 [.c (.string ⟨#[]⟩), .c (.string ⟨#[]⟩), .c (.int .i64 0)] 1 [(0, .t 61)]⟩,
        ⟨(some 63), none, .app 3 40 [.c (.string ⟨#[]⟩), .c (.string ⟨#[]⟩), .c (.int .i64 0)] (.t 60) (.t 62)⟩,
        ⟨(some 6), none, .mv (.t 63)⟩])
     (.region false [
        ⟨(some 64), none, .mv (.t 5)⟩,
        ⟨(some 65), none, .load 3 true (.t 15)⟩,
        ⟨(some 66), none, .bslice 3 [.c (.string ⟨#[]⟩), .c (.string ⟨#[]⟩), .c (.int .i64 0)] 1 [(0, .t 65)]⟩,
        ⟨(some 67), none, .app 3 40 [.c (.string ⟨#[]⟩), .c (.string ⟨#[]⟩), .c (.int .i64 0)] (.t 64) (.t 66)⟩,
        ⟨(some 5), none, .mv (.t 67)⟩])))))
    (.region false [
      ⟨(some 68), none, .ibin .add .i64 (.t 51) (.k (.c (.int .i64 1)))⟩,
      ⟨(some 51), none, .mv (.t 68)⟩])))))))
  (.seq (.region false [
    ⟨(some 69), none, .mv (.t 4)⟩,
    ⟨(some 70), none, .mv (.t 5)⟩,
    ⟨(some 71), none, .mv (.t 6)⟩,
    ⟨(some 4), none, .mv (.t 69)⟩,
    ⟨(some 5), none, .mv (.t 70)⟩,
    ⟨(some 6), none, .mv (.t 71)⟩,
    ⟨(some 7), none, .mv (.k (.c (.int .i64 0)))⟩])
  .ret)))))) }
theorem rc29_ok : lowF Try.prog 29 = some rc29 := by kernel_rfl
def rc30 : RFun := { nt := 26, np := 2, res := [.t 4], code :=
  (.seq (.region false [
    ⟨(some 4), none, .mv (.k (.c (.bool false)))⟩])
  (.seq (.seq (.region false [
    ⟨(some 6), none, .mv (.t 0)⟩,
    ⟨(some 7), none, .len (.t 6)⟩,
    ⟨(some 8), none, .mv (.t 1)⟩,
    ⟨(some 9), none, .len (.t 8)⟩,
    ⟨(some 10), none, .ibin .neq .i64 (.t 7) (.t 9)⟩])
  (.cond (.t 10)
  (.seq (.region false [
     ⟨(some 4), none, .mv (.k (.c (.bool false)))⟩])
   .ret)
  .skip))
  (.seq (.seq (.region false [
    ⟨(some 11), none, .mv (.t 0)⟩,
    ⟨(some 12), none, .len (.t 11)⟩,
    ⟨(some 13), none, .mv (.k (.c (.int .i64 0)))⟩])
  (.block 0
  (.loop
   (.seq (.region false [
      ⟨(some 14), none, .ibin .lss .i64 (.t 13) (.t 12)⟩])
    (.seq (.cond (.t 14)
    .skip
    (.exit 0))
    (.seq (.block 1
    (.seq (.region false [
       ⟨(some 15), none, .mv (.t 13)⟩,
       ⟨(some 5), none, .mv (.t 15)⟩])
     (.seq (.region true [
       ⟨(some 16), none, .mv (.t 0)⟩,
       ⟨(some 17), none, .mv (.t 5)⟩,
       ⟨(some 18), none, .iaddr 3 (.t 16) (.t 17)⟩,
       ⟨(some 19), none, .load 3 true (.t 18)⟩,
       ⟨(some 20), none, .mv (.t 1)⟩,
       ⟨(some 21), none, .mv (.t 5)⟩,
       ⟨(some 22), none, .iaddr 3 (.t 20) (.t 21)⟩,
       ⟨(some 23), none, .load 3 true (.t 22)⟩,
       ⟨(some 24), none, .eqv true [.str, .str, .int] (.t 19) (.t 23)⟩])
     (.cond (.t 24)
     (.seq (.region false [
        ⟨(some 4), none, .mv (.k (.c (.bool false)))⟩])
      .ret)
     .skip))))
    (.region false [
      ⟨(some 25), none, .ibin .add .i64 (.t 13) (.k (.c (.int .i64 1)))⟩,
      ⟨(some 13), none, .mv (.t 25)⟩])))))))
  (.seq (.region false [
    ⟨(some 4), none, .mv (.k (.c (.bool true)))⟩])
  .ret)))) }
theorem rc30_ok : lowF Try.prog 30 = some rc30 := by kernel_rfl
def rc6 : RFun := { nt := 86, np := 2, res := [.t 4], code :=
  (.seq (.region false [
    ⟨(some 2), none, .box 3 (.t 0)⟩,
    ⟨(some 3), none, .box 3 (.t 1)⟩,
    ⟨(some 4), none, .mv (.k (.c (.bool false)))⟩])
  (.seq (.region false [
    ⟨(some 18), none, .load 3 true (.t 2)⟩,
    ⟨(some 19), none, .load 3 true (.t 3)⟩,
    ⟨(some 20), none, .call 28 [.t 18, .t 19]⟩,
    ⟨(some 17), none, .mv (.t 20)⟩,
    ⟨(some 21), none, .ext 0 (.t 17)⟩,
    ⟨(some 22), none, .ext 1 (.t 17)⟩,
    ⟨(some 23), none, .ext 2 (.t 17)⟩,
    ⟨(some 24), none, .ext 3 (.t 17)⟩,
    ⟨(some 5), none, .mv (.t 21)⟩,
    ⟨(some 6), none, .mv (.t 22)⟩,
    ⟨(some 7), none, .mv (.t 23)⟩,
    ⟨(some 8), none, .mv (.t 24)⟩])
  (.seq (.region false [
    ⟨(some 26), none, .load 3 true (.t 2)⟩,
    ⟨(some 27), none, .load 3 true (.t 3)⟩,
    ⟨(some 28), none, .call 29 [.t 26, .t 27]⟩,
    ⟨(some 25), none, .mv (.t 28)⟩,
    ⟨(some 29), none, .ext 0 (.t 25)⟩,
    ⟨(some 30), none, .ext 1 (.t 25)⟩,
    ⟨(some 31), none, .ext 2 (.t 25)⟩,
    ⟨(some 32), none, .ext 3 (.t 25)⟩,
    ⟨(some 9), none, .mv (.t 29)⟩,
    ⟨(some 10), none, .mv (.t 30)⟩,
    ⟨(some 11), none, .mv (.t 31)⟩,
    ⟨(some 12), none, .mv (.t 32)⟩])
  (.seq (.seq (.region false [
    ⟨(some 33), none, .mv (.t 9)⟩,
    ⟨(some 34), none, .mv (.t 5)⟩,
    ⟨(some 35), none, .call 30 [.t 33, .t 34]⟩,
    ⟨(some 36), none, .not (.t 35)⟩,
    ⟨(some 37), none, .mv (.t 36)⟩,
    ⟨(some 38), (some (37, false)), .mv (.t 10)⟩,
    ⟨(some 39), (some (37, false)), .mv (.t 6)⟩,
    ⟨(some 40), (some (37, false)), .call 30 [.t 38, .t 39]⟩,
    ⟨(some 41), (some (37, false)), .not (.t 40)⟩,
    ⟨(some 42), none, .pick (.t 37) (.k (.c (.bool true))) (.t 41)⟩,
    ⟨(some 43), none, .mv (.t 42)⟩,
    ⟨(some 44), (some (43, false)), .mv (.t 11)⟩,
    ⟨(some 45), (some (43, false)), .mv (.t 7)⟩,
    ⟨(some 46), (some (43, false)), .call 30 [.t 44, .t 45]⟩,
    ⟨(some 47), (some (43, false)), .not (.t 46)⟩,
    ⟨(some 48), none, .pick (.t 43) (.k (.c (.bool true))) (.t 47)⟩,
    ⟨(some 49), none, .mv (.t 48)⟩,
    ⟨(some 50), (some (49, false)), .mv (.t 12)⟩,
    ⟨(some 51), (some (49, false)), .mv (.t 8)⟩,
    ⟨(some 52), (some (49, false)), .ibin .neq .i64 (.t 50) (.t 51)⟩,
    ⟨(some 53), none, .pick (.t 49) (.k (.c (.bool true))) (.t 52)⟩])
  (.cond (.t 53)
  (.seq (.region false [
     ⟨(some 4), none, .mv (.k (.c (.bool false)))⟩])
   .ret)
  .skip))
  (.seq (.seq (.region false [
    ⟨(some 54), none, .mv (.t 12)⟩,
    ⟨(some 55), none, .ibin .eql .i64 (.t 54) (.k (.c (.int .i64 0)))⟩])
  (.cond (.t 55)
  (.seq (.region false [
     ⟨(some 57), none, .load 3 true (.t 3)⟩,
     ⟨(some 58), none, .load 3 true (.t 2)⟩,
     ⟨(some 59), none, .call 29 [.t 57, .t 58]⟩,
     ⟨(some 56), none, .mv (.t 59)⟩,
     ⟨(some 60), none, .ext 0 (.t 56)⟩,
     ⟨(some 61), none, .ext 1 (.t 56)⟩,
     ⟨(some 62), none, .ext 2 (.t 56)⟩,
     ⟨(some 63), none, .ext 3 (.t 56)⟩,
     ⟨(some 13), none, .mv (.t 60)⟩,
     ⟨(some 14), none, .mv (.t 61)⟩,
     ⟨(some 15), none, .mv (.t 62)⟩,
     ⟨(some 16), none, .mv (.t 63)⟩])
   (.seq (.region false [
     ⟨(some 64), none, .mv (.t 16)⟩,
     ⟨(some 65), none, .ibin .neq .i64 (.t 64) (.k (.c (.int .i64 0)))⟩,
     ⟨(some 66), none, .mv (.t 65)⟩,
     ⟨(some 67), (some (66, false)), .mv (.t 13)⟩,
     ⟨(some 68), (some (66, false)), .mv (.t 10)⟩,
     ⟨(some 69), (some (66, false)), .call 30 [.t 67, .t 68]⟩,
     ⟨(some 70), (some (66, false)), .not (.t 69)⟩,
     ⟨(some 71), none, .pick (.t 66) (.k (.c (.bool true))) (.t 70)⟩,
     ⟨(some 72), none, .mv (.t 71)⟩,
     ⟨(some 73), (some (72, false)), .mv (.t 14)⟩,
     ⟨(some 74), (some (72, false)), .mv (.t 9)⟩,
     ⟨(some 75), (some (72, false)), .call 30 [.t 73, .t 74]⟩,
     ⟨(some 76), (some (72, false)), .not (.t 75)⟩,
     ⟨(some 77), none, .pick (.t 72) (.k (.c (.bool true))) (.t 76)⟩,
     ⟨(some 78), none, .mv (.t 77)⟩,
     ⟨(some 79), (some (78, false)), .mv (.t 15)⟩,
     ⟨(some 80), (some (78, false)), .len (.t 79)⟩,
     ⟨(some 81), (some (78, false)), .mv (.t 11)⟩,
     ⟨(some 82), (some (78, false)), .len (.t 81)⟩,
     ⟨(some 83), (some (78, false)), .ibin .neq .i64 (.t 80) (.t 82)⟩,
     ⟨(some 84), none, .pick (.t 78) (.k (.c (.bool true))) (.t 83)⟩])
   (.cond (.t 84)
   (.seq (.region false [
      ⟨(some 4), none, .mv (.k (.c (.bool false)))⟩])
    .ret)
   .skip)))
  .skip))
  (.seq (.region false [
    ⟨(some 85), none, .call 23 []⟩,
    ⟨(some 4), none, .mv (.t 85)⟩])
  .ret)))))) }
theorem rc6_ok : lowF Try.prog 6 = some rc6 := by kernel_rfl
end Go.Abs
