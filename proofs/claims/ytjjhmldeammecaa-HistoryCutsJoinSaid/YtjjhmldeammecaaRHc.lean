/- The functions' code in the resolved form of Abs (printed by a program of this repo). -/
import Derived.Test.YtjjhmldeammecaaFHc
import Derived.Test.YtjjhmldeammecaaProg
namespace Go.Abs
open Go Go.Proofs
set_option maxRecDepth 8000
def rc93 : RFun := { nt := 28, np := 1, res := [.t 2], code :=
  (.seq (.region false [
    ⟨(some 2), none, .mv (.k (.c (.bool false)))⟩])
  (.seq (.seq (.region false [
    ⟨(some 3), none, .mv (.k (.c (.int .i64 0)))⟩])
  (.block 0
  (.loop
   (.seq (.seq (.region false [
      ⟨(some 4), none, .mv (.t 3)⟩,
      ⟨(some 5), none, .mv (.t 0)⟩,
      ⟨(some 6), none, .slen (.t 5)⟩,
      ⟨(some 7), none, .ibin .lss .i64 (.t 4) (.t 6)⟩])
    (.cond (.t 7)
    .skip
    (.exit 0)))
    (.seq (.block 1
    (.seq (.region false [
       ⟨(some 10), none, .mv (.t 0)⟩,
       ⟨(some 11), none, .mv (.t 3)⟩,
       ⟨(some 12), none, .sidx (.t 10) (.t 11)⟩,
       ⟨(some 13), none, .ibin .lss .u8 (.t 12) (.k (.c (.int .u8 33)))⟩,
       ⟨(some 14), none, .mv (.t 13)⟩,
       ⟨(some 15), (some (14, false)), .mv (.t 0)⟩,
       ⟨(some 16), (some (14, false)), .mv (.t 3)⟩,
       ⟨(some 17), (some (14, false)), .sidx (.t 15) (.t 16)⟩,
       ⟨(some 18), (some (14, false)), .ibin .gtr .u8 (.t 17) (.k (.c (.int .u8 126)))⟩,
       ⟨(some 19), none, .pick (.t 14) (.k (.c (.bool true))) (.t 18)⟩])
     (.cond (.t 19)
     (.seq (.region false [
        ⟨(some 2), none, .mv (.k (.c (.bool false)))⟩])
      .ret)
     .skip)))
    (.region false [
      ⟨(some 8), none, .mv (.t 3)⟩,
      ⟨(some 9), none, .ibin .add .i64 (.t 8) (.k (.c (.int .i64 1)))⟩,
      ⟨(some 3), none, .mv (.t 9)⟩]))))))
  (.seq (.region false [
    ⟨(some 20), none, .mv (.t 0)⟩,
    ⟨(some 21), none, .slen (.t 20)⟩,
    ⟨(some 22), none, .ibin .geq .i64 (.t 21) (.k (.c (.int .i64 1)))⟩,
    ⟨(some 23), none, .mv (.t 22)⟩,
    ⟨(some 24), (some (23, true)), .mv (.t 0)⟩,
    ⟨(some 25), (some (23, true)), .slen (.t 24)⟩,
    ⟨(some 26), (some (23, true)), .ibin .leq .i64 (.t 25) (.k (.c (.int .i64 100)))⟩,
    ⟨(some 27), none, .pick (.t 23) (.t 26) (.k (.c (.bool false)))⟩,
    ⟨(some 2), none, .mv (.t 27)⟩])
  .ret))) }
theorem rc93_ok : lowF Try.prog 93 = some rc93 := by kernel_rfl
def rc69 : RFun := { nt := 9, np := 1, res := [.t 2], code :=
  (.seq (.region false [
    ⟨(some 2), none, .mv (.k (.c (.bool false)))⟩])
  (.seq (.region false [
    ⟨(some 3), none, .mv (.t 0)⟩,
    ⟨(some 4), none, .ibin .geq .i64 (.t 3) (.k (.c (.int .i64 0)))⟩,
    ⟨(some 5), none, .mv (.t 4)⟩,
    ⟨(some 6), (some (5, true)), .mv (.t 0)⟩,
    ⟨(some 7), (some (5, true)), .ibin .leq .i64 (.t 6) (.k (.c (.int .i64 1000000)))⟩,
    ⟨(some 8), none, .pick (.t 5) (.t 7) (.k (.c (.bool false)))⟩,
    ⟨(some 2), none, .mv (.t 8)⟩])
  .ret)) }
theorem rc69_ok : lowF Try.prog 69 = some rc69 := by kernel_rfl
def rc131 : RFun := { nt := 24, np := 2, res := [.t 4], code :=
  (.seq (.region false [
    ⟨(some 2), none, .box 3 (.t 0)⟩,
    ⟨(some 3), none, .box 3 (.t 1)⟩,
    ⟨(some 4), none, .mv (.k (.c (.bool false)))⟩])
  (.seq (.region false [
    ⟨(some 5), none, .faddr 0 (.t 2)⟩,
    ⟨(some 6), none, .load 1 false (.t 5)⟩,
    ⟨(some 7), none, .faddr 0 (.t 3)⟩,
    ⟨(some 8), none, .load 1 false (.t 7)⟩,
    ⟨(some 9), none, .sbin .lss (.t 6) (.t 8)⟩,
    ⟨(some 10), none, .mv (.t 9)⟩,
    ⟨(some 11), (some (10, false)), .faddr 0 (.t 2)⟩,
    ⟨(some 12), (some (10, false)), .load 1 false (.t 11)⟩,
    ⟨(some 13), (some (10, false)), .faddr 0 (.t 3)⟩,
    ⟨(some 14), (some (10, false)), .load 1 false (.t 13)⟩,
    ⟨(some 15), (some (10, false)), .sbin .eql (.t 12) (.t 14)⟩,
    ⟨(some 16), (some (10, false)), .mv (.t 15)⟩,
    ⟨(some 17), (some (16, true)), .faddr 1 (.t 2)⟩,
    ⟨(some 18), (some (16, true)), .load 1 false (.t 17)⟩,
    ⟨(some 19), (some (16, true)), .faddr 1 (.t 3)⟩,
    ⟨(some 20), (some (16, true)), .load 1 false (.t 19)⟩,
    ⟨(some 21), (some (16, true)), .sbin .lss (.t 18) (.t 20)⟩,
    ⟨(some 22), (some (10, false)), .pick (.t 16) (.t 21) (.k (.c (.bool false)))⟩,
    ⟨(some 23), none, .pick (.t 10) (.k (.c (.bool true))) (.t 22)⟩,
    ⟨(some 4), none, .mv (.t 23)⟩])
  .ret)) }
theorem rc131_ok : lowF Try.prog 131 = some rc131 := by kernel_rfl
def rc94 : RFun := { nt := 49, np := 1, res := [.t 2], code :=
  (.seq (.region false [
    ⟨(some 2), none, .mv (.k (.c (.int .i64 0)))⟩])
  (.seq (.seq (.region false [
    ⟨(some 5), none, .mv (.t 0)⟩,
    ⟨(some 6), none, .len (.t 5)⟩,
    ⟨(some 7), none, .ibin .gtr .i64 (.t 6) (.k (.c (.int .i64 500)))⟩])
  (.cond (.t 7)
  (.seq (.region false [
     ⟨(some 2), none, .mv (.k (.c (.int .i64 3)))⟩])
   .ret)
  .skip))
  (.seq (.seq (.region false [
    ⟨(some 8), none, .mv (.t 0)⟩,
    ⟨(some 9), none, .len (.t 8)⟩,
    ⟨(some 10), none, .mv (.k (.c (.int .i64 0)))⟩])
  (.block 0
  (.loop
   (.seq (.region false [
      ⟨(some 11), none, .ibin .lss .i64 (.t 10) (.t 9)⟩])
    (.seq (.cond (.t 11)
    .skip
    (.exit 0))
    (.seq (.block 1
    (.seq (.region false [
       ⟨(some 12), none, .mv (.t 10)⟩,
       ⟨(some 13), none, .iaddr 3 (.t 8) (.t 10)⟩,
       ⟨(some 14), none, .load 3 true (.t 13)⟩,
       ⟨(some 4), none, .alloc [.c (.string ⟨#[]⟩), .c (.string ⟨#[]⟩), .c (.int .i64 0)]⟩,
       ⟨(some 3), none, .mv (.t 12)⟩,
       ⟨none, none, .store 3 (.t 4) (.t 14)⟩])
     (.block 2
     (.seq (.region false [
        ⟨(some 16), none, .faddr 0 (.t 4)⟩,
        ⟨(some 17), none, .load 1 false (.t 16)⟩,
        ⟨(some 18), none, .call 93 [.t 17]⟩,
        ⟨(some 19), none, .not (.t 18)⟩,
        ⟨(some 20), none, .mv (.t 19)⟩,
        ⟨(some 21), (some (20, false)), .faddr 1 (.t 4)⟩,
        ⟨(some 22), (some (20, false)), .load 1 false (.t 21)⟩,
        ⟨(some 23), (some (20, false)), .call 93 [.t 22]⟩,
        ⟨(some 24), (some (20, false)), .not (.t 23)⟩,
        ⟨(some 25), none, .pick (.t 20) (.k (.c (.bool true))) (.t 24)⟩,
        ⟨(some 15), none, .mv (.t 25)⟩])
      (.cond (.t 15)
      (.seq (.region false [
         ⟨(some 2), none, .mv (.k (.c (.int .i64 8)))⟩])
       .ret)
      (.seq (.region false [
         ⟨(some 27), none, .faddr 2 (.t 4)⟩,
         ⟨(some 28), none, .load 1 false (.t 27)⟩,
         ⟨(some 29), none, .ibin .lss .i64 (.t 28) (.k (.c (.int .i64 0)))⟩,
         ⟨(some 30), none, .mv (.t 29)⟩,
         ⟨(some 31), (some (30, false)), .faddr 2 (.t 4)⟩,
         ⟨(some 32), (some (30, false)), .load 1 false (.t 31)⟩,
         ⟨(some 33), (some (30, false)), .ibin .gtr .i64 (.t 32) (.k (.c (.int .i64 100)))⟩,
         ⟨(some 34), none, .pick (.t 30) (.k (.c (.bool true))) (.t 33)⟩,
         ⟨(some 26), none, .mv (.t 34)⟩])
       (.cond (.t 26)
       (.seq (.region false [
          ⟨(some 2), none, .mv (.k (.c (.int .i64 9)))⟩])
        .ret)
       (.seq (.region true [
          ⟨(some 36), none, .mv (.t 3)⟩,
          ⟨(some 37), none, .ibin .gtr .i64 (.t 36) (.k (.c (.int .i64 0)))⟩,
          ⟨(some 38), none, .mv (.t 37)⟩,
          ⟨(some 39), (some (38, true)), .mv (.t 0)⟩,
          ⟨(some 40), (some (38, true)), .mv (.t 3)⟩,
          ⟨(some 41), (some (38, true)), .ibin .sub .i64 (.t 40) (.k (.c (.int .i64 1)))⟩,
          ⟨(some 42), (some (38, true)), .iaddr 3 (.t 39) (.t 41)⟩,
          ⟨(some 43), (some (38, true)), .load 3 true (.t 42)⟩,
          ⟨(some 44), (some (38, true)), .load 3 true (.t 4)⟩,
          ⟨(some 45), (some (38, true)), .call 131 [.t 43, .t 44]⟩,
          ⟨(some 46), (some (38, true)), .not (.t 45)⟩,
          ⟨(some 47), none, .pick (.t 38) (.t 46) (.k (.c (.bool false)))⟩,
          ⟨(some 35), none, .mv (.t 47)⟩])
        (.cond (.t 35)
        (.seq (.region false [
           ⟨(some 2), none, .mv (.k (.c (.int .i64 10)))⟩])
         .ret)
        .skip)))))))))
    (.region false [
      ⟨(some 48), none, .ibin .add .i64 (.t 10) (.k (.c (.int .i64 1)))⟩,
      ⟨(some 10), none, .mv (.t 48)⟩])))))))
  (.seq (.region false [
    ⟨(some 2), none, .mv (.k (.c (.int .i64 0)))⟩])
  .ret)))) }
theorem rc94_ok : lowF Try.prog 94 = some rc94 := by kernel_rfl
def rc132 : RFun := { nt := 22, np := 1, res := [.t 2], code :=
  (.seq (.region false [
    ⟨(some 2), none, .mv (.k (.c (.bool false)))⟩])
  (.seq (.seq (.region false [
    ⟨(some 4), none, .mv (.t 0)⟩,
    ⟨(some 5), none, .slen (.t 4)⟩,
    ⟨(some 6), none, .mv (.k (.c (.int .i64 0)))⟩])
  (.block 0
  (.loop
   (.seq (.region false [
      ⟨(some 7), none, .ibin .lss .i64 (.t 6) (.t 5)⟩])
    (.seq (.cond (.t 7)
    .skip
    (.exit 0))
    (.seq (.block 1
    (.seq (.region false [
       ⟨(some 8), none, .mv (.t 6)⟩,
       ⟨(some 3), none, .mv (.t 8)⟩])
     (.seq (.region false [
       ⟨(some 9), none, .mv (.t 0)⟩,
       ⟨(some 10), none, .mv (.t 3)⟩,
       ⟨(some 11), none, .sidx (.t 9) (.t 10)⟩,
       ⟨(some 12), none, .ibin .lss .u8 (.t 11) (.k (.c (.int .u8 33)))⟩,
       ⟨(some 13), none, .mv (.t 12)⟩,
       ⟨(some 14), (some (13, false)), .mv (.t 0)⟩,
       ⟨(some 15), (some (13, false)), .mv (.t 3)⟩,
       ⟨(some 16), (some (13, false)), .sidx (.t 14) (.t 15)⟩,
       ⟨(some 17), (some (13, false)), .ibin .gtr .u8 (.t 16) (.k (.c (.int .u8 126)))⟩,
       ⟨(some 18), none, .pick (.t 13) (.k (.c (.bool true))) (.t 17)⟩])
     (.cond (.t 18)
     (.seq (.region false [
        ⟨(some 2), none, .mv (.k (.c (.bool false)))⟩])
      .ret)
     .skip))))
    (.region false [
      ⟨(some 19), none, .ibin .add .i64 (.t 6) (.k (.c (.int .i64 1)))⟩,
      ⟨(some 6), none, .mv (.t 19)⟩])))))))
  (.seq (.region false [
    ⟨(some 20), none, .mv (.t 0)⟩,
    ⟨(some 21), none, .sbin .neq (.t 20) (.k (.c (.string ⟨#[]⟩)))⟩,
    ⟨(some 2), none, .mv (.t 21)⟩])
  .ret))) }
theorem rc132_ok : lowF Try.prog 132 = some rc132 := by kernel_rfl
def rc96 : RFun := { nt := 10, np := 1, res := [.t 2], code :=
  (.seq (.region false [
    ⟨(some 2), none, .mv (.k (.c (.bool false)))⟩])
  (.seq (.region false [
    ⟨(some 3), none, .mv (.t 0)⟩,
    ⟨(some 4), none, .call 132 [.t 3]⟩,
    ⟨(some 5), none, .mv (.t 4)⟩,
    ⟨(some 6), (some (5, true)), .mv (.t 0)⟩,
    ⟨(some 7), (some (5, true)), .slen (.t 6)⟩,
    ⟨(some 8), (some (5, true)), .ibin .leq .i64 (.t 7) (.k (.c (.int .i64 100)))⟩,
    ⟨(some 9), none, .pick (.t 5) (.t 8) (.k (.c (.bool false)))⟩,
    ⟨(some 2), none, .mv (.t 9)⟩])
  .ret)) }
theorem rc96_ok : lowF Try.prog 96 = some rc96 := by kernel_rfl
def rc72 : RFun := { nt := 9, np := 1, res := [.t 2], code :=
  (.seq (.region false [
    ⟨(some 2), none, .mv (.k (.c (.bool false)))⟩])
  (.seq (.region false [
    ⟨(some 3), none, .mv (.t 0)⟩,
    ⟨(some 4), none, .ibin .geq .i64 (.t 3) (.k (.c (.int .i64 0)))⟩,
    ⟨(some 5), none, .mv (.t 4)⟩,
    ⟨(some 6), (some (5, true)), .mv (.t 0)⟩,
    ⟨(some 7), (some (5, true)), .ibin .leq .i64 (.t 6) (.k (.c (.int .i64 1000000)))⟩,
    ⟨(some 8), none, .pick (.t 5) (.t 7) (.k (.c (.bool false)))⟩,
    ⟨(some 2), none, .mv (.t 8)⟩])
  .ret)) }
theorem rc72_ok : lowF Try.prog 72 = some rc72 := by kernel_rfl
def rc86 : RFun := { nt := 8, np := 1, res := [.c 2 2 true], code :=
  (.seq (.region false [
    ⟨(some 1), none, .box 3 (.t 0)⟩,
    ⟨(some 2), none, .alloc [.c (.string ⟨#[]⟩), .c (.string ⟨#[]⟩)]⟩])
  (.seq (.region false [
    ⟨(some 3), none, .faddr 0 (.t 1)⟩,
    ⟨(some 4), none, .load 1 false (.t 3)⟩,
    ⟨(some 5), none, .faddr 1 (.t 1)⟩,
    ⟨(some 6), none, .load 1 false (.t 5)⟩,
    ⟨(some 7), none, .build [.c (.string ⟨#[]⟩), .c (.string ⟨#[]⟩)] [(0, 1, .t 4), (1, 1, .t 6)]⟩,
    ⟨none, none, .store 2 (.t 2) (.t 7)⟩])
  .ret)) }
theorem rc86_ok : lowF Try.prog 86 = some rc86 := by kernel_rfl
def rc152 : RFun := { nt := 6, np := 1, res := [.t 2], code :=
  (.seq (.region false [
    ⟨(some 2), none, .mv (.k (.c (.bool false)))⟩])
  (.seq (.region false [
    ⟨(some 3), none, .mv (.t 0)⟩,
    ⟨(some 4), none, .mv (.t 0)⟩,
    ⟨(some 5), none, .sbin .neq (.t 3) (.t 4)⟩,
    ⟨(some 2), none, .mv (.t 5)⟩])
  .ret)) }
theorem rc152_ok : lowF Try.prog 152 = some rc152 := by kernel_rfl
def rc138 : RFun := { nt := 20, np := 2, res := [.t 4], code :=
  (.seq (.region false [
    ⟨(some 4), none, .mv (.k (.c (.int .i64 0)))⟩])
  (.seq (.region false [
    ⟨(some 7), none, .mv (.t 0)⟩,
    ⟨(some 8), none, .call 152 [.t 7]⟩,
    ⟨(some 5), none, .mv (.t 8)⟩])
  (.seq (.region false [
    ⟨(some 9), none, .mv (.t 1)⟩,
    ⟨(some 10), none, .call 152 [.t 9]⟩,
    ⟨(some 6), none, .mv (.t 10)⟩])
  (.seq (.seq (.region false [
    ⟨(some 11), none, .mv (.t 5)⟩])
  (.cond (.t 11)
  (.seq (.seq (.region false [
     ⟨(some 12), none, .mv (.t 6)⟩])
   (.cond (.t 12)
   (.seq (.region false [
      ⟨(some 4), none, .mv (.k (.c (.int .i64 0)))⟩])
    .ret)
   .skip))
   (.seq (.region false [
     ⟨(some 4), none, .mv (.k (.c (.int .i64 (-1))))⟩])
   .ret))
  .skip))
  (.seq (.seq (.region false [
    ⟨(some 13), none, .mv (.t 6)⟩])
  (.cond (.t 13)
  (.seq (.region false [
     ⟨(some 4), none, .mv (.k (.c (.int .i64 1)))⟩])
   .ret)
  .skip))
  (.seq (.seq (.region false [
    ⟨(some 14), none, .mv (.t 0)⟩,
    ⟨(some 15), none, .mv (.t 1)⟩,
    ⟨(some 16), none, .sbin .lss (.t 14) (.t 15)⟩])
  (.cond (.t 16)
  (.seq (.region false [
     ⟨(some 4), none, .mv (.k (.c (.int .i64 (-1))))⟩])
   .ret)
  .skip))
  (.seq (.seq (.region false [
    ⟨(some 17), none, .mv (.t 0)⟩,
    ⟨(some 18), none, .mv (.t 1)⟩,
    ⟨(some 19), none, .sbin .gtr (.t 17) (.t 18)⟩])
  (.cond (.t 19)
  (.seq (.region false [
     ⟨(some 4), none, .mv (.k (.c (.int .i64 1)))⟩])
   .ret)
  .skip))
  (.seq (.region false [
    ⟨(some 4), none, .mv (.k (.c (.int .i64 0)))⟩])
  .ret)))))))) }
theorem rc138_ok : lowF Try.prog 138 = some rc138 := by kernel_rfl
def rc150 : RFun := { nt := 18, np := 1, res := [.t 2], code :=
  (.seq (.region false [
    ⟨(some 2), none, .mv (.k (.c (.int .i64 0)))⟩])
  (.seq (.region false [
    ⟨(some 3), none, .mv (.k (.c (.int .i64 0)))⟩])
  (.seq (.seq (.region false [
    ⟨(some 6), none, .mv (.t 0)⟩,
    ⟨(some 7), none, .len (.t 6)⟩,
    ⟨(some 8), none, .mv (.k (.c (.int .i64 0)))⟩])
  (.block 0
  (.loop
   (.seq (.region false [
      ⟨(some 9), none, .ibin .lss .i64 (.t 8) (.t 7)⟩])
    (.seq (.cond (.t 9)
    .skip
    (.exit 0))
    (.seq (.block 1
    (.seq (.region false [
       ⟨(some 10), none, .iaddr 1 (.t 6) (.t 8)⟩,
       ⟨(some 11), none, .load 1 false (.t 10)⟩,
       ⟨(some 5), none, .mv (.t 11)⟩])
     (.seq (.region false [
       ⟨(some 12), none, .mv (.t 5)⟩,
       ⟨(some 13), none, .mv (.t 3)⟩,
       ⟨(some 14), none, .ibin .neq .i64 (.t 12) (.t 13)⟩])
     (.cond (.t 14)
     (.seq (.region false [
        ⟨(some 15), none, .mv (.t 5)⟩,
        ⟨(some 2), none, .mv (.t 15)⟩])
      .ret)
     .skip))))
    (.region false [
      ⟨(some 16), none, .ibin .add .i64 (.t 8) (.k (.c (.int .i64 1)))⟩,
      ⟨(some 8), none, .mv (.t 16)⟩])))))))
  (.seq (.region false [
    ⟨(some 17), none, .mv (.t 3)⟩,
    ⟨(some 2), none, .mv (.t 17)⟩])
  .ret)))) }
theorem rc150_ok : lowF Try.prog 150 = some rc150 := by kernel_rfl
def rc146 : RFun := { nt := 17, np := 2, res := [.t 4], code :=
  (.seq (.region false [
    ⟨(some 2), none, .box 2 (.t 0)⟩,
    ⟨(some 3), none, .box 2 (.t 1)⟩,
    ⟨(some 4), none, .mv (.k (.c (.int .i64 0)))⟩])
  (.seq (.region true [
    ⟨(some 5), none, .faddr 0 (.t 2)⟩,
    ⟨(some 6), none, .load 1 false (.t 5)⟩,
    ⟨(some 7), none, .faddr 0 (.t 3)⟩,
    ⟨(some 8), none, .load 1 false (.t 7)⟩,
    ⟨(some 9), none, .call 138 [.t 6, .t 8]⟩,
    ⟨(some 10), none, .faddr 1 (.t 2)⟩,
    ⟨(some 11), none, .load 1 false (.t 10)⟩,
    ⟨(some 12), none, .faddr 1 (.t 3)⟩,
    ⟨(some 13), none, .load 1 false (.t 12)⟩,
    ⟨(some 14), none, .call 138 [.t 11, .t 13]⟩,
    ⟨(some 15), none, .bslice 1 [.c (.int .i64 0)] 2 [(0, .t 9), (1, .t 14)]⟩,
    ⟨(some 16), none, .call 150 [.t 15]⟩,
    ⟨(some 4), none, .mv (.t 16)⟩])
  .ret)) }
theorem rc146_ok : lowF Try.prog 146 = some rc146 := by kernel_rfl
def rc128 : RFun := { nt := 51, np := 1, res := [.t 2], code :=
  (.seq (.region false [
    ⟨(some 2), none, .mv (.k (.c (.int .i64 0)))⟩])
  (.seq (.seq (.region false [
    ⟨(some 5), none, .mv (.t 0)⟩,
    ⟨(some 6), none, .len (.t 5)⟩,
    ⟨(some 7), none, .ibin .gtr .i64 (.t 6) (.k (.c (.int .i64 500)))⟩])
  (.cond (.t 7)
  (.seq (.region false [
     ⟨(some 2), none, .mv (.k (.c (.int .i64 3)))⟩])
   .ret)
  .skip))
  (.seq (.seq (.region false [
    ⟨(some 8), none, .mv (.t 0)⟩,
    ⟨(some 9), none, .len (.t 8)⟩,
    ⟨(some 10), none, .mv (.k (.c (.int .i64 0)))⟩])
  (.block 0
  (.loop
   (.seq (.region false [
      ⟨(some 11), none, .ibin .lss .i64 (.t 10) (.t 9)⟩])
    (.seq (.cond (.t 11)
    .skip
    (.exit 0))
    (.seq (.block 1
    (.seq (.region false [
       ⟨(some 12), none, .mv (.t 10)⟩,
       ⟨(some 13), none, .iaddr 3 (.t 8) (.t 10)⟩,
       ⟨(some 14), none, .load 3 true (.t 13)⟩,
       ⟨(some 4), none, .alloc [.c (.string ⟨#[]⟩), .c (.string ⟨#[]⟩), .c (.int .i64 0)]⟩,
       ⟨(some 3), none, .mv (.t 12)⟩,
       ⟨none, none, .store 3 (.t 4) (.t 14)⟩])
     (.block 2
     (.seq (.region false [
        ⟨(some 16), none, .faddr 0 (.t 4)⟩,
        ⟨(some 17), none, .load 1 false (.t 16)⟩,
        ⟨(some 18), none, .call 96 [.t 17]⟩,
        ⟨(some 19), none, .not (.t 18)⟩,
        ⟨(some 20), none, .mv (.t 19)⟩,
        ⟨(some 21), (some (20, false)), .faddr 1 (.t 4)⟩,
        ⟨(some 22), (some (20, false)), .load 1 false (.t 21)⟩,
        ⟨(some 23), (some (20, false)), .call 96 [.t 22]⟩,
        ⟨(some 24), (some (20, false)), .not (.t 23)⟩,
        ⟨(some 25), none, .pick (.t 20) (.k (.c (.bool true))) (.t 24)⟩,
        ⟨(some 15), none, .mv (.t 25)⟩])
      (.cond (.t 15)
      (.seq (.region false [
         ⟨(some 2), none, .mv (.k (.c (.int .i64 8)))⟩])
       .ret)
      (.seq (.region false [
         ⟨(some 27), none, .faddr 2 (.t 4)⟩,
         ⟨(some 28), none, .load 1 false (.t 27)⟩,
         ⟨(some 29), none, .ibin .lss .i64 (.t 28) (.k (.c (.int .i64 0)))⟩,
         ⟨(some 30), none, .mv (.t 29)⟩,
         ⟨(some 31), (some (30, false)), .faddr 2 (.t 4)⟩,
         ⟨(some 32), (some (30, false)), .load 1 false (.t 31)⟩,
         ⟨(some 33), (some (30, false)), .ibin .gtr .i64 (.t 32) (.k (.c (.int .i64 100)))⟩,
         ⟨(some 34), none, .pick (.t 30) (.k (.c (.bool true))) (.t 33)⟩,
         ⟨(some 26), none, .mv (.t 34)⟩])
       (.cond (.t 26)
       (.seq (.region false [
          ⟨(some 2), none, .mv (.k (.c (.int .i64 9)))⟩])
        .ret)
       (.seq (.region true [
          ⟨(some 36), none, .mv (.t 3)⟩,
          ⟨(some 37), none, .ibin .gtr .i64 (.t 36) (.k (.c (.int .i64 0)))⟩,
          ⟨(some 38), none, .mv (.t 37)⟩,
          ⟨(some 39), (some (38, true)), .mv (.t 0)⟩,
          ⟨(some 40), (some (38, true)), .mv (.t 3)⟩,
          ⟨(some 41), (some (38, true)), .ibin .sub .i64 (.t 40) (.k (.c (.int .i64 1)))⟩,
          ⟨(some 42), (some (38, true)), .iaddr 3 (.t 39) (.t 41)⟩,
          ⟨(some 43), (some (38, true)), .load 3 true (.t 42)⟩,
          ⟨(some 44), (some (38, true)), .call 86 [.t 43]⟩,
          ⟨(some 45), (some (38, true)), .load 3 true (.t 4)⟩,
          ⟨(some 46), (some (38, true)), .call 86 [.t 45]⟩,
          ⟨(some 47), (some (38, true)), .call 146 [.t 44, .t 46]⟩,
          ⟨(some 48), (some (38, true)), .ibin .geq .i64 (.t 47) (.k (.c (.int .i64 0)))⟩,
          ⟨(some 49), none, .pick (.t 38) (.t 48) (.k (.c (.bool false)))⟩,
          ⟨(some 35), none, .mv (.t 49)⟩])
        (.cond (.t 35)
        (.seq (.region false [
           ⟨(some 2), none, .mv (.k (.c (.int .i64 10)))⟩])
         .ret)
        .skip)))))))))
    (.region false [
      ⟨(some 50), none, .ibin .add .i64 (.t 10) (.k (.c (.int .i64 1)))⟩,
      ⟨(some 10), none, .mv (.t 50)⟩])))))))
  (.seq (.region false [
    ⟨(some 2), none, .mv (.k (.c (.int .i64 0)))⟩])
  .ret)))) }
theorem rc128_ok : lowF Try.prog 128 = some rc128 := by kernel_rfl
def rc30 : RFun := { nt := 26, np := 2, res := [.t 4], code :=
  (.seq (.region false [
    ⟨(some 4), none, .mv (.k (.c (.bool false)))⟩])
  (.seq (.seq (.region false [
    ⟨(some 6), none, .mv (.t 0)⟩,
    ⟨(some 7), none, .len (.t 6)⟩,
    ⟨(some 8), none, .mv (.t 1)⟩,
    ⟨(some 9), none, .len (.t 8)⟩,
    ⟨(some 10), none, .ibin .neq .i64 (.t 7) (.t 9)⟩])
  (.cond (.t 10)
  (.seq (.region false [
     ⟨(some 4), none, .mv (.k (.c (.bool false)))⟩])
   .ret)
  .skip))
  (.seq (.seq (.region false [
    ⟨(some 11), none, .mv (.t 0)⟩,
    ⟨(some 12), none, .len (.t 11)⟩,
    ⟨(some 13), none, .mv (.k (.c (.int .i64 0)))⟩])
  (.block 0
  (.loop
   (.seq (.region false [
      ⟨(some 14), none, .ibin .lss .i64 (.t 13) (.t 12)⟩])
    (.seq (.cond (.t 14)
    .skip
    (.exit 0))
    (.seq (.block 1
    (.seq (.region false [
       ⟨(some 15), none, .mv (.t 13)⟩,
       ⟨(some 5), none, .mv (.t 15)⟩])
     (.seq (.region true [
       ⟨(some 16), none, .mv (.t 0)⟩,
       ⟨(some 17), none, .mv (.t 5)⟩,
       ⟨(some 18), none, .iaddr 3 (.t 16) (.t 17)⟩,
       ⟨(some 19), none, .load 3 true (.t 18)⟩,
       ⟨(some 20), none, .mv (.t 1)⟩,
       ⟨(some 21), none, .mv (.t 5)⟩,
       ⟨(some 22), none, .iaddr 3 (.t 20) (.t 21)⟩,
       ⟨(some 23), none, .load 3 true (.t 22)⟩,
       ⟨(some 24), none, .eqv true [.str, .str, .int] (.t 19) (.t 23)⟩])
     (.cond (.t 24)
     (.seq (.region false [
        ⟨(some 4), none, .mv (.k (.c (.bool false)))⟩])
      .ret)
     .skip))))
    (.region false [
      ⟨(some 25), none, .ibin .add .i64 (.t 13) (.k (.c (.int .i64 1)))⟩,
      ⟨(some 13), none, .mv (.t 25)⟩])))))))
  (.seq (.region false [
    ⟨(some 4), none, .mv (.k (.c (.bool true)))⟩])
  .ret)))) }
theorem rc30_ok : lowF Try.prog 30 = some rc30 := by kernel_rfl
end Go.Abs
