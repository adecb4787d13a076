/-
  The functions' code, brought into the resolved form of Abs (printed by a program of this repo).
-/
import Derived.Test.YtjjhmldeammecaaM3
import Derived.Test.YtjjhmldeammecaaProg
namespace Go.Abs
open Go Go.Proofs
set_option maxRecDepth 8000
def rf18 : RFun := { nt := 37, np := 3, res := [.t 6, .t 7], code :=
  (.seq (.region false [
    ⟨(some 3), none, .box 2 (.t 0)⟩,
    ⟨(some 6), none, .mv (.k (.c (.int .i64 0)))⟩,
    ⟨(some 7), none, .mv (.k (.c (.int .i64 0)))⟩])
  (.seq (.seq (.region false [
    ⟨(some 10), none, .load 2 true (.t 3)⟩,
    ⟨(some 11), none, .call 22 [.t 10]⟩,
    ⟨(some 8), none, .mv (.t 11)⟩])
  (.seq (.region false [
    ⟨(some 12), none, .mv (.t 8)⟩,
    ⟨(some 13), none, .ibin .neq .i64 (.t 12) (.k (.c (.int .i64 0)))⟩])
  (.cond (.t 13)
  (.seq (.region false [
     ⟨(some 14), none, .mv (.t 8)⟩,
     ⟨(some 6), none, .mv (.k (.c (.int .i64 0)))⟩,
     ⟨(some 7), none, .mv (.t 14)⟩])
   .ret)
  .skip)))
  (.seq (.seq (.region false [
    ⟨(some 15), none, .mv (.t 1)⟩,
    ⟨(some 16), none, .call 72 [.t 15]⟩,
    ⟨(some 17), none, .not (.t 16)⟩,
    ⟨(some 18), none, .mv (.t 17)⟩,
    ⟨(some 19), (some (18, false)), .mv (.t 2)⟩,
    ⟨(some 20), (some (18, false)), .call 72 [.t 19]⟩,
    ⟨(some 21), (some (18, false)), .not (.t 20)⟩,
    ⟨(some 22), none, .pick (.t 18) (.k (.c (.bool true))) (.t 21)⟩,
    ⟨(some 23), none, .mv (.t 22)⟩,
    ⟨(some 24), (some (23, false)), .mv (.t 1)⟩,
    ⟨(some 25), (some (23, false)), .mv (.t 2)⟩,
    ⟨(some 26), (some (23, false)), .ibin .gtr .i64 (.t 24) (.t 25)⟩,
    ⟨(some 27), none, .pick (.t 23) (.k (.c (.bool true))) (.t 26)⟩])
  (.cond (.t 27)
  (.seq (.region false [
     ⟨(some 6), none, .mv (.k (.c (.int .i64 0)))⟩,
     ⟨(some 7), none, .mv (.k (.c (.int .i64 9)))⟩])
   .ret)
  .skip))
  (.seq (.region false [
    ⟨(some 28), none, .load 2 true (.t 3)⟩,
    ⟨(some 29), none, .call 73 [.t 28]⟩,
    ⟨(some 9), none, .alloc [.c (.bool false), .c (.bool false), .c (.bool false), .c (.bool false), .c (.bool false), .c (.bool false), .c (.bool false), .c (.int .i64 0), .c (.slice none 0 0)]⟩,
    ⟨none, none, .store 9 (.t 9) (.t 29)⟩])
  (.seq (.region true [
    ⟨(some 30), none, .load 9 true (.t 9)⟩,
    ⟨(some 31), none, .mv (.t 2)⟩,
    ⟨(some 32), none, .call 74 [.t 30, .t 31]⟩,
    ⟨(some 33), none, .load 9 true (.t 9)⟩,
    ⟨(some 34), none, .mv (.t 1)⟩,
    ⟨(some 35), none, .call 74 [.t 33, .t 34]⟩,
    ⟨(some 36), none, .ibin .sub .i64 (.t 32) (.t 35)⟩,
    ⟨(some 6), none, .mv (.t 36)⟩,
    ⟨(some 7), none, .mv (.k (.c (.int .i64 0)))⟩])
  .ret))))) }
theorem rf18_ok : lowF Try.prog 18 = some rf18 := by kernel_rfl
def rf22 : RFun := { nt := 23, np := 1, res := [.t 2], code :=
  (.seq (.region false [
    ⟨(some 1), none, .box 2 (.t 0)⟩,
    ⟨(some 2), none, .mv (.k (.c (.int .i64 0)))⟩])
  (.seq (.seq (.region false [
    ⟨(some 4), none, .faddr 0 (.t 1)⟩,
    ⟨(some 5), none, .load 1 false (.t 4)⟩,
    ⟨(some 6), none, .len (.t 5)⟩,
    ⟨(some 7), none, .ibin .gtr .i64 (.t 6) (.k (.c (.int .i64 6)))⟩,
    ⟨(some 8), none, .mv (.t 7)⟩,
    ⟨(some 9), (some (8, false)), .faddr 1 (.t 1)⟩,
    ⟨(some 10), (some (8, false)), .load 1 false (.t 9)⟩,
    ⟨(some 11), (some (8, false)), .len (.t 10)⟩,
    ⟨(some 12), (some (8, false)), .ibin .gtr .i64 (.t 11) (.k (.c (.int .i64 2000)))⟩,
    ⟨(some 13), none, .pick (.t 8) (.k (.c (.bool true))) (.t 12)⟩])
  (.cond (.t 13)
  (.seq (.region false [
     ⟨(some 2), none, .mv (.k (.c (.int .i64 3)))⟩])
   .ret)
  .skip))
  (.seq (.seq (.region false [
    ⟨(some 14), none, .faddr 0 (.t 1)⟩,
    ⟨(some 15), none, .load 1 false (.t 14)⟩,
    ⟨(some 16), none, .call 78 [.t 15, .k (.c (.int .i64 6))]⟩,
    ⟨(some 3), none, .mv (.t 16)⟩])
  (.seq (.region false [
    ⟨(some 17), none, .mv (.t 3)⟩,
    ⟨(some 18), none, .ibin .neq .i64 (.t 17) (.k (.c (.int .i64 0)))⟩])
  (.cond (.t 18)
  (.seq (.region false [
     ⟨(some 19), none, .mv (.t 3)⟩,
     ⟨(some 2), none, .mv (.t 19)⟩])
   .ret)
  .skip)))
  (.seq (.region false [
    ⟨(some 20), none, .faddr 1 (.t 1)⟩,
    ⟨(some 21), none, .load 1 false (.t 20)⟩,
    ⟨(some 22), none, .call 78 [.t 21, .k (.c (.int .i64 1000000))]⟩,
    ⟨(some 2), none, .mv (.t 22)⟩])
  .ret)))) }
theorem rf22_ok : lowF Try.prog 22 = some rf22 := by kernel_rfl
def rf23 : RFun := { nt := 15, np := 0, res := [.t 0], code :=
  (.seq (.region false [
    ⟨(some 0), none, .mv (.k (.c (.bool false)))⟩])
  (.seq (.region false [
    ⟨(some 4), none, .bslice 1 [.c (.int .i64 0)] 2 [(0, .k (.c (.int .i64 5))), (1, .k (.c (.int .i64 6)))]⟩,
    ⟨(some 5), none, .build [.c (.slice none 0 0), .c (.slice none 0 0)] [(0, 1, .t 4)]⟩,
    ⟨(some 6), none, .call 18 [.t 5, .k (.c (.int .i64 0)), .k (.c (.int .i64 14))]⟩,
    ⟨(some 3), none, .mv (.t 6)⟩,
    ⟨(some 7), none, .ext 0 (.t 3)⟩,
    ⟨(some 8), none, .ext 1 (.t 3)⟩,
    ⟨(some 1), none, .mv (.t 7)⟩,
    ⟨(some 2), none, .mv (.t 8)⟩])
  (.seq (.region false [
    ⟨(some 9), none, .mv (.t 1)⟩,
    ⟨(some 10), none, .ibin .eql .i64 (.t 9) (.k (.c (.int .i64 10)))⟩,
    ⟨(some 11), none, .mv (.t 10)⟩,
    ⟨(some 12), (some (11, true)), .mv (.t 2)⟩,
    ⟨(some 13), (some (11, true)), .ibin .eql .i64 (.t 12) (.k (.c (.int .i64 0)))⟩,
    ⟨(some 14), none, .pick (.t 11) (.t 13) (.k (.c (.bool false)))⟩,
    ⟨(some 0), none, .mv (.t 14)⟩])
  .ret))) }
theorem rf23_ok : lowF Try.prog 23 = some rf23 := by kernel_rfl
def rf72 : RFun := { nt := 9, np := 1, res := [.t 2], code :=
  (.seq (.region false [
    ⟨(some 2), none, .mv (.k (.c (.bool false)))⟩])
  (.seq (.region false [
    ⟨(some 3), none, .mv (.t 0)⟩,
    ⟨(some 4), none, .ibin .geq .i64 (.t 3) (.k (.c (.int .i64 0)))⟩,
    ⟨(some 5), none, .mv (.t 4)⟩,
    ⟨(some 6), (some (5, true)), .mv (.t 0)⟩,
    ⟨(some 7), (some (5, true)), .ibin .leq .i64 (.t 6) (.k (.c (.int .i64 1000000)))⟩,
    ⟨(some 8), none, .pick (.t 5) (.t 7) (.k (.c (.bool false)))⟩,
    ⟨(some 2), none, .mv (.t 8)⟩])
  .ret)) }
theorem rf72_ok : lowF Try.prog 72 = some rf72 := by kernel_rfl
def rf73 : RFun := { nt := 45, np := 1, res := [.c 2 9 true], code :=
  (.seq (.region false [
    ⟨(some 1), none, .box 2 (.t 0)⟩,
    ⟨(some 2), none, .alloc [.c (.bool false), .c (.bool false), .c (.bool false), .c (.bool false), .c (.bool false), .c (.bool false), .c (.bool false), .c (.int .i64 0), .c (.slice none 0 0)]⟩])
  (.seq (.region false [
    ⟨(some 8), none, .faddr 0 (.t 1)⟩,
    ⟨(some 9), none, .load 1 false (.t 8)⟩,
    ⟨(some 10), none, .len (.t 9)⟩,
    ⟨(some 11), none, .ibin .sub .i64 (.k (.c (.int .i64 7))) (.t 10)⟩,
    ⟨(some 12), none, .build [.c (.bool false), .c (.bool false), .c (.bool false), .c (.bool false), .c (.bool false), .c (.bool false), .c (.bool false), .c (.int .i64 0), .c (.slice none 0 0)] [(7, 1, .t 11)]⟩,
    ⟨(some 3), none, .alloc [.c (.bool false), .c (.bool false), .c (.bool false), .c (.bool false), .c (.bool false), .c (.bool false), .c (.bool false), .c (.int .i64 0), .c (.slice none 0 0)]⟩,
    ⟨none, none, .store 9 (.t 3) (.t 12)⟩])
  (.seq (.seq (.region false [
    ⟨(some 13), none, .faddr 0 (.t 1)⟩,
    ⟨(some 14), none, .load 1 false (.t 13)⟩,
    ⟨(some 15), none, .len (.t 14)⟩,
    ⟨(some 16), none, .mv (.k (.c (.int .i64 0)))⟩])
  (.block 0
  (.loop
   (.seq (.region false [
      ⟨(some 17), none, .ibin .lss .i64 (.t 16) (.t 15)⟩])
    (.seq (.cond (.t 17)
    .skip
    (.exit 0))
    (.seq (.block 1
    (.seq (.region false [
       ⟨(some 18), none, .iaddr 1 (.t 14) (.t 16)⟩,
       ⟨(some 19), none, .load 1 false (.t 18)⟩,
       ⟨(some 5), none, .mv (.t 19)⟩])
     (.region false [
       ⟨(some 20), none, .mv (.t 5)⟩,
       ⟨(some 21), none, .faddr 0 (.t 3)⟩,
       ⟨(some 22), none, .aaddr 7 1 (.t 21) (.t 20)⟩,
       ⟨none, none, .store 1 (.t 22) (.k (.c (.bool true)))⟩])))
    (.region false [
      ⟨(some 23), none, .ibin .add .i64 (.t 16) (.k (.c (.int .i64 1)))⟩,
      ⟨(some 16), none, .mv (.t 23)⟩])))))))
  (.seq (.seq (.region false [
    ⟨(some 24), none, .faddr 1 (.t 1)⟩,
    ⟨(some 25), none, .load 1 false (.t 24)⟩,
    ⟨(some 26), none, .len (.t 25)⟩,
    ⟨(some 27), none, .mv (.k (.c (.int .i64 0)))⟩])
  (.block 2
  (.loop
   (.seq (.region false [
      ⟨(some 28), none, .ibin .lss .i64 (.t 27) (.t 26)⟩])
    (.seq (.cond (.t 28)
    .skip
    (.exit 2))
    (.seq (.block 3
    (.seq (.region false [
       ⟨(some 29), none, .iaddr 1 (.t 25) (.t 27)⟩,
       ⟨(some 30), none, .load 1 false (.t 29)⟩,
       ⟨(some 7), none, .mv (.t 30)⟩])
     (.seq (.region false [
       ⟨(some 31), none, .mv (.t 7)⟩,
       ⟨(some 32), none, .ibin .rem .i64 (.t 31) (.k (.c (.int .i64 7)))⟩,
       ⟨(some 33), none, .faddr 0 (.t 3)⟩,
       ⟨(some 34), none, .aaddr 7 1 (.t 33) (.t 32)⟩,
       ⟨(some 35), none, .load 1 false (.t 34)⟩,
       ⟨(some 36), none, .not (.t 35)⟩])
     (.cond (.t 36)
     (.region false [
        ⟨(some 37), none, .faddr 8 (.t 3)⟩,
        ⟨(some 38), none, .load 1 false (.t 37)⟩,
        ⟨(some 39), none, .mv (.t 7)⟩,
        ⟨(some 40), none, .bslice 1 [.c (.int .i64 0)] 1 [(0, .t 39)]⟩,
        ⟨(some 41), none, .app 1 8 [.c (.int .i64 0)] (.t 38) (.t 40)⟩,
        ⟨(some 42), none, .faddr 8 (.t 3)⟩,
        ⟨none, none, .store 1 (.t 42) (.t 41)⟩])
     .skip))))
    (.region false [
      ⟨(some 43), none, .ibin .add .i64 (.t 27) (.k (.c (.int .i64 1)))⟩,
      ⟨(some 27), none, .mv (.t 43)⟩])))))))
  (.seq (.region false [
    ⟨(some 44), none, .load 9 true (.t 3)⟩,
    ⟨none, none, .store 9 (.t 2) (.t 44)⟩])
  .ret))))) }
theorem rf73_ok : lowF Try.prog 73 = some rf73 := by kernel_rfl
def rf74 : RFun := { nt := 37, np := 2, res := [.t 4], code :=
  (.seq (.region false [
    ⟨(some 2), none, .box 9 (.t 0)⟩,
    ⟨(some 4), none, .mv (.k (.c (.int .i64 0)))⟩])
  (.seq (.region false [
    ⟨(some 9), none, .mv (.t 1)⟩,
    ⟨(some 10), none, .ibin .quo .i64 (.t 9) (.k (.c (.int .i64 7)))⟩,
    ⟨(some 11), none, .faddr 7 (.t 2)⟩,
    ⟨(some 12), none, .load 1 false (.t 11)⟩,
    ⟨(some 13), none, .ibin .mul .i64 (.t 10) (.t 12)⟩,
    ⟨(some 5), none, .mv (.t 13)⟩])
  (.seq (.seq (.region false [
    ⟨(some 14), none, .mv (.t 1)⟩,
    ⟨(some 15), none, .ibin .rem .i64 (.t 14) (.k (.c (.int .i64 7)))⟩,
    ⟨(some 16), none, .mv (.k (.c (.int .i64 0)))⟩])
  (.block 0
  (.loop
   (.seq (.region false [
      ⟨(some 17), none, .ibin .lss .i64 (.t 16) (.t 15)⟩])
    (.seq (.cond (.t 17)
    .skip
    (.exit 0))
    (.seq (.block 1
    (.seq (.region false [
       ⟨(some 18), none, .mv (.t 16)⟩,
       ⟨(some 6), none, .mv (.t 18)⟩])
     (.seq (.region false [
       ⟨(some 19), none, .mv (.t 6)⟩,
       ⟨(some 20), none, .faddr 0 (.t 2)⟩,
       ⟨(some 21), none, .aaddr 7 1 (.t 20) (.t 19)⟩,
       ⟨(some 22), none, .load 1 false (.t 21)⟩,
       ⟨(some 23), none, .not (.t 22)⟩])
     (.cond (.t 23)
     (.region false [
        ⟨(some 24), none, .mv (.t 5)⟩,
        ⟨(some 25), none, .ibin .add .i64 (.t 24) (.k (.c (.int .i64 1)))⟩,
        ⟨(some 5), none, .mv (.t 25)⟩])
     .skip))))
    (.region false [
      ⟨(some 26), none, .ibin .add .i64 (.t 16) (.k (.c (.int .i64 1)))⟩,
      ⟨(some 16), none, .mv (.t 26)⟩])))))))
  (.seq (.region false [
    ⟨(some 28), none, .faddr 8 (.t 2)⟩,
    ⟨(some 29), none, .load 1 false (.t 28)⟩,
    ⟨(some 30), none, .mv (.t 1)⟩,
    ⟨(some 31), none, .call 53 [.t 29, .t 30]⟩,
    ⟨(some 27), none, .mv (.t 31)⟩,
    ⟨(some 32), none, .ext 0 (.t 27)⟩,
    ⟨(some 33), none, .ext 1 (.t 27)⟩,
    ⟨(some 7), none, .mv (.t 32)⟩,
    ⟨(some 8), none, .mv (.t 33)⟩])
  (.seq (.region false [
    ⟨(some 34), none, .mv (.t 5)⟩,
    ⟨(some 35), none, .mv (.t 7)⟩,
    ⟨(some 36), none, .ibin .sub .i64 (.t 34) (.t 35)⟩,
    ⟨(some 4), none, .mv (.t 36)⟩])
  .ret))))) }
theorem rf74_ok : lowF Try.prog 74 = some rf74 := by kernel_rfl
def rf78 : RFun := { nt := 35, np := 2, res := [.t 4], code :=
  (.seq (.region false [
    ⟨(some 4), none, .mv (.k (.c (.int .i64 0)))⟩])
  (.seq (.seq (.region false [
    ⟨(some 7), none, .mv (.t 0)⟩,
    ⟨(some 8), none, .len (.t 7)⟩,
    ⟨(some 9), none, .mv (.k (.c (.int .i64 0)))⟩])
  (.block 0
  (.loop
   (.seq (.region false [
      ⟨(some 10), none, .ibin .lss .i64 (.t 9) (.t 8)⟩])
    (.seq (.cond (.t 10)
    .skip
    (.exit 0))
    (.seq (.block 1
    (.seq (.region false [
       ⟨(some 11), none, .mv (.t 9)⟩,
       ⟨(some 12), none, .iaddr 1 (.t 7) (.t 9)⟩,
       ⟨(some 13), none, .load 1 false (.t 12)⟩,
       ⟨(some 5), none, .mv (.t 11)⟩,
       ⟨(some 6), none, .mv (.t 13)⟩])
     (.block 2
     (.seq (.region false [
        ⟨(some 15), none, .mv (.t 6)⟩,
        ⟨(some 16), none, .ibin .lss .i64 (.t 15) (.k (.c (.int .i64 0)))⟩,
        ⟨(some 17), none, .mv (.t 16)⟩,
        ⟨(some 18), (some (17, false)), .mv (.t 6)⟩,
        ⟨(some 19), (some (17, false)), .mv (.t 1)⟩,
        ⟨(some 20), (some (17, false)), .ibin .gtr .i64 (.t 18) (.t 19)⟩,
        ⟨(some 21), none, .pick (.t 17) (.k (.c (.bool true))) (.t 20)⟩,
        ⟨(some 14), none, .mv (.t 21)⟩])
      (.cond (.t 14)
      (.seq (.region false [
         ⟨(some 4), none, .mv (.k (.c (.int .i64 9)))⟩])
       .ret)
      (.seq (.region false [
         ⟨(some 23), none, .mv (.t 5)⟩,
         ⟨(some 24), none, .ibin .gtr .i64 (.t 23) (.k (.c (.int .i64 0)))⟩,
         ⟨(some 25), none, .mv (.t 24)⟩,
         ⟨(some 26), (some (25, true)), .mv (.t 6)⟩,
         ⟨(some 27), (some (25, true)), .mv (.t 0)⟩,
         ⟨(some 28), (some (25, true)), .mv (.t 5)⟩,
         ⟨(some 29), (some (25, true)), .ibin .sub .i64 (.t 28) (.k (.c (.int .i64 1)))⟩,
         ⟨(some 30), (some (25, true)), .iaddr 1 (.t 27) (.t 29)⟩,
         ⟨(some 31), (some (25, true)), .load 1 false (.t 30)⟩,
         ⟨(some 32), (some (25, true)), .ibin .leq .i64 (.t 26) (.t 31)⟩,
         ⟨(some 33), none, .pick (.t 25) (.t 32) (.k (.c (.bool false)))⟩,
         ⟨(some 22), none, .mv (.t 33)⟩])
       (.cond (.t 22)
       (.seq (.region false [
          ⟨(some 4), none, .mv (.k (.c (.int .i64 10)))⟩])
        .ret)
       .skip)))))))
    (.region false [
      ⟨(some 34), none, .ibin .add .i64 (.t 9) (.k (.c (.int .i64 1)))⟩,
      ⟨(some 9), none, .mv (.t 34)⟩])))))))
  (.seq (.region false [
    ⟨(some 4), none, .mv (.k (.c (.int .i64 0)))⟩])
  .ret))) }
theorem rf78_ok : lowF Try.prog 78 = some rf78 := by kernel_rfl
def rf126 : RFun := { nt := 13, np := 4, res := [.t 5], code :=
  (.seq (.region false [
    ⟨(some 5), none, .mv (.k (.c (.bool false)))⟩])
  (.seq (.region true [
    ⟨(some 6), none, .load 9 true (.t 1)⟩,
    ⟨(some 7), none, .load 1 false (.t 2)⟩,
    ⟨(some 8), none, .mv (.t 0)⟩,
    ⟨(some 9), none, .ibin .add .i64 (.t 7) (.t 8)⟩,
    ⟨(some 10), none, .call 74 [.t 6, .t 9]⟩,
    ⟨(some 11), none, .load 1 false (.t 3)⟩,
    ⟨(some 12), none, .ibin .geq .i64 (.t 10) (.t 11)⟩,
    ⟨(some 5), none, .mv (.t 12)⟩])
  .ret)) }
theorem rf126_ok : lowF Try.prog 126 = some rf126 := by kernel_rfl
def rf53 : RFun := { nt := 54, np := 2, res := [.t 4, .t 5], code :=
  (.seq (.region false [
    ⟨(some 4), none, .mv (.k (.c (.int .i64 0)))⟩,
    ⟨(some 5), none, .mv (.k (.c (.bool false)))⟩])
  (.seq (.region false [
    ⟨(some 10), none, .mv (.t 0)⟩,
    ⟨(some 11), none, .len (.t 10)⟩,
    ⟨(some 6), none, .mv (.t 11)⟩])
  (.seq (.region false [
    ⟨(some 12), none, .mv (.t 6)⟩,
    ⟨(some 7), none, .mv (.k (.c (.int .i64 0)))⟩,
    ⟨(some 8), none, .mv (.t 12)⟩])
  (.seq (.block 0
  (.loop
   (.seq (.seq (.region false [
      ⟨(some 13), none, .mv (.t 7)⟩,
      ⟨(some 14), none, .mv (.t 8)⟩,
      ⟨(some 15), none, .ibin .lss .i64 (.t 13) (.t 14)⟩])
    (.cond (.t 15)
    .skip
    (.exit 0)))
    (.block 1
    (.seq (.region false [
       ⟨(some 16), none, .mv (.t 7)⟩,
       ⟨(some 17), none, .mv (.t 8)⟩,
       ⟨(some 18), none, .ibin .add .i64 (.t 16) (.t 17)⟩,
       ⟨(some 19), none, .conv .u64 (.t 18)⟩,
       ⟨(some 20), none, .shift .shr .u64 (.t 19) (.k (.c (.int .u64 1)))⟩,
       ⟨(some 21), none, .conv .i64 (.t 20)⟩,
       ⟨(some 9), none, .mv (.t 21)⟩])
     (.seq (.region false [
       ⟨(some 22), none, .mv (.t 0)⟩,
       ⟨(some 23), none, .mv (.t 9)⟩,
       ⟨(some 24), none, .iaddr 1 (.t 22) (.t 23)⟩,
       ⟨(some 25), none, .load 1 false (.t 24)⟩,
       ⟨(some 26), none, .mv (.t 1)⟩,
       ⟨(some 27), none, .call 108 [.t 25, .t 26]⟩])
     (.cond (.t 27)
     (.region false [
        ⟨(some 28), none, .mv (.t 9)⟩,
        ⟨(some 29), none, .ibin .add .i64 (.t 28) (.k (.c (.int .i64 1)))⟩,
        ⟨(some 7), none, .mv (.t 29)⟩])
     (.region false [
        ⟨(some 30), none, .mv (.t 9)⟩,
        ⟨(some 8), none, .mv (.t 30)⟩]))))))))
  (.seq (.region false [
    ⟨(some 31), none, .mv (.t 7)⟩,
    ⟨(some 32), none, .mv (.t 7)⟩,
    ⟨(some 33), none, .mv (.t 6)⟩,
    ⟨(some 34), none, .ibin .lss .i64 (.t 32) (.t 33)⟩,
    ⟨(some 35), none, .mv (.t 34)⟩,
    ⟨(some 36), (some (35, true)), .mv (.t 0)⟩,
    ⟨(some 37), (some (35, true)), .mv (.t 7)⟩,
    ⟨(some 38), (some (35, true)), .iaddr 1 (.t 36) (.t 37)⟩,
    ⟨(some 39), (some (35, true)), .load 1 false (.t 38)⟩,
    ⟨(some 40), (some (35, true)), .mv (.t 1)⟩,
    ⟨(some 41), (some (35, true)), .ibin .eql .i64 (.t 39) (.t 40)⟩,
    ⟨(some 42), (some (35, true)), .mv (.t 41)⟩,
    ⟨(some 43), (some (42, false)), .mv (.t 0)⟩,
    ⟨(some 44), (some (42, false)), .mv (.t 7)⟩,
    ⟨(some 45), (some (42, false)), .iaddr 1 (.t 43) (.t 44)⟩,
    ⟨(some 46), (some (42, false)), .load 1 false (.t 45)⟩,
    ⟨(some 47), (some (42, false)), .call 109 [.t 46]⟩,
    ⟨(some 48), (some (42, false)), .mv (.t 47)⟩,
    ⟨(some 49), (some (48, true)), .mv (.t 1)⟩,
    ⟨(some 50), (some (48, true)), .call 109 [.t 49]⟩,
    ⟨(some 51), (some (42, false)), .pick (.t 48) (.t 50) (.k (.c (.bool false)))⟩,
    ⟨(some 52), (some (35, true)), .pick (.t 42) (.k (.c (.bool true))) (.t 51)⟩,
    ⟨(some 53), none, .pick (.t 35) (.t 52) (.k (.c (.bool false)))⟩,
    ⟨(some 4), none, .mv (.t 31)⟩,
    ⟨(some 5), none, .mv (.t 53)⟩])
  .ret))))) }
theorem rf53_ok : lowF Try.prog 53 = some rf53 := by kernel_rfl
def rf108 : RFun := { nt := 17, np := 2, res := [.t 4], code :=
  (.seq (.region false [
    ⟨(some 4), none, .mv (.k (.c (.bool false)))⟩])
  (.seq (.region false [
    ⟨(some 5), none, .mv (.t 0)⟩,
    ⟨(some 6), none, .call 140 [.t 5]⟩,
    ⟨(some 7), none, .mv (.t 6)⟩,
    ⟨(some 8), (some (7, true)), .mv (.t 1)⟩,
    ⟨(some 9), (some (7, true)), .call 140 [.t 8]⟩,
    ⟨(some 10), (some (7, true)), .not (.t 9)⟩,
    ⟨(some 11), none, .pick (.t 7) (.t 10) (.k (.c (.bool false)))⟩,
    ⟨(some 12), none, .mv (.t 11)⟩,
    ⟨(some 13), (some (12, false)), .mv (.t 0)⟩,
    ⟨(some 14), (some (12, false)), .mv (.t 1)⟩,
    ⟨(some 15), (some (12, false)), .ibin .lss .i64 (.t 13) (.t 14)⟩,
    ⟨(some 16), none, .pick (.t 12) (.k (.c (.bool true))) (.t 15)⟩,
    ⟨(some 4), none, .mv (.t 16)⟩])
  .ret)) }
theorem rf108_ok : lowF Try.prog 108 = some rf108 := by kernel_rfl
def rf109 : RFun := { nt := 6, np := 1, res := [.t 2], code :=
  (.seq (.region false [
    ⟨(some 2), none, .mv (.k (.c (.bool false)))⟩])
  (.seq (.region false [
    ⟨(some 3), none, .mv (.t 0)⟩,
    ⟨(some 4), none, .mv (.t 0)⟩,
    ⟨(some 5), none, .ibin .neq .i64 (.t 3) (.t 4)⟩,
    ⟨(some 2), none, .mv (.t 5)⟩])
  .ret)) }
theorem rf109_ok : lowF Try.prog 109 = some rf109 := by kernel_rfl
def rf140 : RFun := { nt := 6, np := 1, res := [.t 2], code :=
  (.seq (.region false [
    ⟨(some 2), none, .mv (.k (.c (.bool false)))⟩])
  (.seq (.region false [
    ⟨(some 3), none, .mv (.t 0)⟩,
    ⟨(some 4), none, .mv (.t 0)⟩,
    ⟨(some 5), none, .ibin .neq .i64 (.t 3) (.t 4)⟩,
    ⟨(some 2), none, .mv (.t 5)⟩])
  .ret)) }
theorem rf140_ok : lowF Try.prog 140 = some rf140 := by kernel_rfl
end Go.Abs
