/- The functions' code in the resolved form of Abs (printed by a program of this repo). -/
import Derived.Test.YtjjhmldeammecaaFHy
import Derived.Test.YtjjhmldeammecaaProg
import Derived.Test.YtjjhmldeammecaaRHw
namespace Go.Abs
open Go Go.Proofs
set_option maxRecDepth 8000
def rc44 : RFun := { nt := 16, np := 2, res := [.t 3], code :=
  (.seq (.region false [
    ⟨(some 2), none, .box 3 (.t 0)⟩,
    ⟨(some 3), none, .mv (.k (.c (.bool false)))⟩])
  (.seq (.region false [
    ⟨(some 4), none, .faddr 0 (.t 2)⟩,
    ⟨(some 5), none, .load 1 false (.t 4)⟩,
    ⟨(some 6), none, .faddr 0 (.t 1)⟩,
    ⟨(some 7), none, .load 1 false (.t 6)⟩,
    ⟨(some 8), none, .sbin .eql (.t 5) (.t 7)⟩,
    ⟨(some 9), none, .mv (.t 8)⟩,
    ⟨(some 10), (some (9, true)), .faddr 1 (.t 2)⟩,
    ⟨(some 11), (some (9, true)), .load 1 false (.t 10)⟩,
    ⟨(some 12), (some (9, true)), .faddr 1 (.t 1)⟩,
    ⟨(some 13), (some (9, true)), .load 1 false (.t 12)⟩,
    ⟨(some 14), (some (9, true)), .sbin .eql (.t 11) (.t 13)⟩,
    ⟨(some 15), none, .pick (.t 9) (.t 14) (.k (.c (.bool false)))⟩,
    ⟨(some 3), none, .mv (.t 15)⟩])
  .ret)) }
theorem rc44_ok : lowF Try.prog 44 = some rc44 := by kernel_rfl
def rc10 : RFun := { nt := 109, np := 2, res := [.t 4], code :=
  (.seq (.region false [
    ⟨(some 2), none, .box 4 (.t 0)⟩,
    ⟨(some 4), none, .mv (.k (.c (.bool false)))⟩])
  (.seq (.region false [
    ⟨(some 17), none, .load 4 true (.t 2)⟩,
    ⟨(some 18), none, .mv (.t 1)⟩,
    ⟨(some 19), none, .call 34 [.t 17, .t 18]⟩,
    ⟨(some 16), none, .mv (.t 19)⟩,
    ⟨(some 20), none, .ext 0 (.t 16)⟩,
    ⟨(some 21), none, .ext 1 (.t 16)⟩,
    ⟨(some 5), none, .mv (.t 20)⟩,
    ⟨(some 6), none, .mv (.t 21)⟩])
  (.seq (.region false [
    ⟨(some 23), none, .load 4 true (.t 2)⟩,
    ⟨(some 24), none, .call 39 [.t 23]⟩,
    ⟨(some 22), none, .mv (.t 24)⟩,
    ⟨(some 25), none, .ext 0 (.t 22)⟩,
    ⟨(some 26), none, .ext 1 (.t 22)⟩,
    ⟨(some 7), none, .mv (.t 25)⟩,
    ⟨(some 8), none, .mv (.t 26)⟩])
  (.seq (.seq (.region false [
    ⟨(some 27), none, .mv (.t 6)⟩,
    ⟨(some 28), none, .ibin .neq .i64 (.t 27) (.k (.c (.int .i64 0)))⟩,
    ⟨(some 29), none, .mv (.t 28)⟩,
    ⟨(some 30), (some (29, false)), .mv (.t 8)⟩,
    ⟨(some 31), (some (29, false)), .ibin .neq .i64 (.t 30) (.k (.c (.int .i64 0)))⟩,
    ⟨(some 32), none, .pick (.t 29) (.k (.c (.bool true))) (.t 31)⟩])
  (.cond (.t 32)
  (.seq (.region false [
     ⟨(some 34), none, .load 4 true (.t 2)⟩,
     ⟨(some 35), none, .mv (.t 1)⟩,
     ⟨(some 36), none, .call 33 [.t 34, .t 35]⟩,
     ⟨(some 33), none, .mv (.t 36)⟩,
     ⟨(some 37), none, .ext 0 (.t 33)⟩,
     ⟨(some 38), none, .ext 1 (.t 33)⟩,
     ⟨(some 9), none, .mv (.t 37)⟩,
     ⟨(some 10), none, .mv (.t 38)⟩])
   (.seq (.region false [
     ⟨(some 39), none, .mv (.t 6)⟩,
     ⟨(some 40), none, .mv (.t 10)⟩,
     ⟨(some 41), none, .ibin .eql .i64 (.t 39) (.t 40)⟩,
     ⟨(some 42), none, .mv (.t 41)⟩,
     ⟨(some 43), (some (42, true)), .call 23 []⟩,
     ⟨(some 44), none, .pick (.t 42) (.t 43) (.k (.c (.bool false)))⟩,
     ⟨(some 4), none, .mv (.t 44)⟩])
   .ret))
  .skip))
  (.seq (.region false [
    ⟨(some 11), none, .mv (.k (.c (.int .i64 0)))⟩])
  (.seq (.seq (.region false [
    ⟨(some 45), none, .mv (.t 7)⟩,
    ⟨(some 46), none, .len (.t 45)⟩,
    ⟨(some 47), none, .mv (.k (.c (.int .i64 0)))⟩])
  (.block 0
  (.loop
   (.seq (.region false [
      ⟨(some 48), none, .ibin .lss .i64 (.t 47) (.t 46)⟩])
    (.seq (.cond (.t 48)
    .skip
    (.exit 0))
    (.seq (.block 1
    (.seq (.region false [
       ⟨(some 49), none, .mv (.t 47)⟩,
       ⟨(some 50), none, .iaddr 6 (.t 45) (.t 47)⟩,
       ⟨(some 51), none, .load 6 true (.t 50)⟩,
       ⟨(some 13), none, .alloc [.c (.string ⟨#[]⟩), .c (.string ⟨#[]⟩), .c (.int .i64 0), .c (.int .i64 0), .c (.int .i64 0), .c (.bool false)]⟩,
       ⟨(some 12), none, .mv (.t 49)⟩,
       ⟨none, none, .store 6 (.t 13) (.t 51)⟩])
     (.seq (.seq (.region false [
       ⟨(some 52), none, .faddr 3 (.t 13)⟩,
       ⟨(some 53), none, .load 1 false (.t 52)⟩,
       ⟨(some 54), none, .faddr 4 (.t 13)⟩,
       ⟨(some 55), none, .load 1 false (.t 54)⟩,
       ⟨(some 56), none, .ibin .geq .i64 (.t 53) (.t 55)⟩])
     (.cond (.t 56)
     (.seq (.region false [
        ⟨(some 4), none, .mv (.k (.c (.bool false)))⟩])
      .ret)
     .skip))
     (.seq (.seq (.region false [
       ⟨(some 57), none, .mv (.t 7)⟩,
       ⟨(some 58), none, .mv (.t 12)⟩,
       ⟨(some 59), none, .lsl 6 (.t 57) none (some (.t 58))⟩,
       ⟨(some 60), none, .len (.t 59)⟩,
       ⟨(some 61), none, .mv (.k (.c (.int .i64 0)))⟩])
     (.block 2
     (.loop
      (.seq (.region false [
         ⟨(some 62), none, .ibin .lss .i64 (.t 61) (.t 60)⟩])
       (.seq (.cond (.t 62)
       .skip
       (.exit 2))
       (.seq (.block 3
       (.seq (.region false [
          ⟨(some 63), none, .iaddr 6 (.t 59) (.t 61)⟩,
          ⟨(some 64), none, .load 6 true (.t 63)⟩,
          ⟨(some 15), none, .alloc [.c (.string ⟨#[]⟩), .c (.string ⟨#[]⟩), .c (.int .i64 0), .c (.int .i64 0), .c (.int .i64 0), .c (.bool false)]⟩,
          ⟨none, none, .store 6 (.t 15) (.t 64)⟩])
        (.seq (.region false [
          ⟨(some 65), none, .faddr 0 (.t 13)⟩,
          ⟨(some 66), none, .load 1 false (.t 65)⟩,
          ⟨(some 67), none, .faddr 0 (.t 15)⟩,
          ⟨(some 68), none, .load 1 false (.t 67)⟩,
          ⟨(some 69), none, .sbin .eql (.t 66) (.t 68)⟩,
          ⟨(some 70), none, .mv (.t 69)⟩,
          ⟨(some 71), (some (70, true)), .faddr 1 (.t 13)⟩,
          ⟨(some 72), (some (70, true)), .load 1 false (.t 71)⟩,
          ⟨(some 73), (some (70, true)), .faddr 1 (.t 15)⟩,
          ⟨(some 74), (some (70, true)), .load 1 false (.t 73)⟩,
          ⟨(some 75), (some (70, true)), .sbin .eql (.t 72) (.t 74)⟩,
          ⟨(some 76), none, .pick (.t 70) (.t 75) (.k (.c (.bool false)))⟩,
          ⟨(some 77), none, .mv (.t 76)⟩,
          ⟨(some 78), (some (77, true)), .faddr 3 (.t 13)⟩,
          ⟨(some 79), (some (77, true)), .load 1 false (.t 78)⟩,
          ⟨(some 80), (some (77, true)), .faddr 4 (.t 15)⟩,
          ⟨(some 81), (some (77, true)), .load 1 false (.t 80)⟩,
          ⟨(some 82), (some (77, true)), .ibin .leq .i64 (.t 79) (.t 81)⟩,
          ⟨(some 83), none, .pick (.t 77) (.t 82) (.k (.c (.bool false)))⟩])
        (.cond (.t 83)
        (.seq (.region false [
           ⟨(some 4), none, .mv (.k (.c (.bool false)))⟩])
         .ret)
        .skip))))
       (.region false [
         ⟨(some 84), none, .ibin .add .i64 (.t 61) (.k (.c (.int .i64 1)))⟩,
         ⟨(some 61), none, .mv (.t 84)⟩])))))))
     (.seq (.seq (.region false [
       ⟨(some 85), none, .mv (.t 1)⟩,
       ⟨(some 86), none, .faddr 3 (.t 13)⟩,
       ⟨(some 87), none, .load 1 false (.t 86)⟩,
       ⟨(some 88), none, .ibin .lss .i64 (.t 85) (.t 87)⟩,
       ⟨(some 89), none, .mv (.t 88)⟩,
       ⟨(some 90), (some (89, false)), .mv (.t 1)⟩,
       ⟨(some 91), (some (89, false)), .faddr 4 (.t 13)⟩,
       ⟨(some 92), (some (89, false)), .load 1 false (.t 91)⟩,
       ⟨(some 93), (some (89, false)), .ibin .geq .i64 (.t 90) (.t 92)⟩,
       ⟨(some 94), none, .pick (.t 89) (.k (.c (.bool true))) (.t 93)⟩])
     (.cond (.t 94)
     (.exit 1)
     .skip))
     (.seq (.region false [
       ⟨(some 95), none, .mv (.t 11)⟩,
       ⟨(some 96), none, .ibin .add .i64 (.t 95) (.k (.c (.int .i64 1)))⟩,
       ⟨(some 11), none, .mv (.t 96)⟩])
     (.seq (.region false [
       ⟨(some 97), none, .mv (.t 5)⟩,
       ⟨(some 98), none, .mkf (.func 44) [] [.t 13]⟩,
       ⟨(some 99), none, .call 43 [.t 97, .t 98]⟩,
       ⟨(some 100), none, .not (.t 99)⟩])
     (.cond (.t 100)
     (.seq (.region false [
        ⟨(some 4), none, .mv (.k (.c (.bool false)))⟩])
      .ret)
     .skip))))))))
    (.region false [
      ⟨(some 101), none, .ibin .add .i64 (.t 47) (.k (.c (.int .i64 1)))⟩,
      ⟨(some 47), none, .mv (.t 101)⟩])))))))
  (.seq (.region false [
    ⟨(some 102), none, .mv (.t 11)⟩,
    ⟨(some 103), none, .mv (.t 5)⟩,
    ⟨(some 104), none, .len (.t 103)⟩,
    ⟨(some 105), none, .ibin .eql .i64 (.t 102) (.t 104)⟩,
    ⟨(some 106), none, .mv (.t 105)⟩,
    ⟨(some 107), (some (106, true)), .call 23 []⟩,
    ⟨(some 108), none, .pick (.t 106) (.t 107) (.k (.c (.bool false)))⟩,
    ⟨(some 4), none, .mv (.t 108)⟩])
  .ret))))))) }
theorem rc10_ok : lowF Try.prog 10 = some rc10 := by kernel_rfl
end Go.Abs
