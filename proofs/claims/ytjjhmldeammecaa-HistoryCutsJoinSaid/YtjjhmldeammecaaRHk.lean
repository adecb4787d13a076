/- The functions' code in the resolved form of Abs (printed by a program of this repo). -/
import Derived.Test.YtjjhmldeammecaaFHk
import Derived.Test.YtjjhmldeammecaaProg
import Derived.Test.YtjjhmldeammecaaRHc
namespace Go.Abs
open Go Go.Proofs
set_option maxRecDepth 8000
def rc95 : RFun := { nt := 54, np := 1, res := [.t 2], code :=
  (.seq (.region false [
    ⟨(some 2), none, .mv (.k (.c (.int .i64 0)))⟩])
  (.seq (.seq (.region false [
    ⟨(some 5), none, .mv (.t 0)⟩,
    ⟨(some 6), none, .len (.t 5)⟩,
    ⟨(some 7), none, .mv (.k (.c (.int .i64 0)))⟩])
  (.block 0
  (.loop
   (.seq (.region false [
      ⟨(some 8), none, .ibin .lss .i64 (.t 7) (.t 6)⟩])
    (.seq (.cond (.t 8)
    .skip
    (.exit 0))
    (.seq (.block 1
    (.seq (.region false [
       ⟨(some 9), none, .mv (.t 7)⟩,
       ⟨(some 10), none, .iaddr 3 (.t 5) (.t 7)⟩,
       ⟨(some 11), none, .load 3 true (.t 10)⟩,
       ⟨(some 4), none, .alloc [.c (.string ⟨#[]⟩), .c (.int .i64 0), .c (.int .i64 0)]⟩,
       ⟨(some 3), none, .mv (.t 9)⟩,
       ⟨none, none, .store 3 (.t 4) (.t 11)⟩])
     (.block 2
     (.seq (.region false [
        ⟨(some 13), none, .faddr 0 (.t 4)⟩,
        ⟨(some 14), none, .load 1 false (.t 13)⟩,
        ⟨(some 15), none, .call 93 [.t 14]⟩,
        ⟨(some 16), none, .not (.t 15)⟩,
        ⟨(some 12), none, .mv (.t 16)⟩])
      (.cond (.t 12)
      (.seq (.region false [
         ⟨(some 2), none, .mv (.k (.c (.int .i64 8)))⟩])
       .ret)
      (.seq (.region true [
         ⟨(some 18), none, .mv (.t 3)⟩,
         ⟨(some 19), none, .ibin .gtr .i64 (.t 18) (.k (.c (.int .i64 0)))⟩,
         ⟨(some 20), none, .mv (.t 19)⟩,
         ⟨(some 21), (some (20, true)), .faddr 0 (.t 4)⟩,
         ⟨(some 22), (some (20, true)), .load 1 false (.t 21)⟩,
         ⟨(some 23), (some (20, true)), .mv (.t 0)⟩,
         ⟨(some 24), (some (20, true)), .mv (.t 3)⟩,
         ⟨(some 25), (some (20, true)), .ibin .sub .i64 (.t 24) (.k (.c (.int .i64 1)))⟩,
         ⟨(some 26), (some (20, true)), .iaddr 3 (.t 23) (.t 25)⟩,
         ⟨(some 27), (some (20, true)), .faddr 0 (.t 26)⟩,
         ⟨(some 28), (some (20, true)), .load 1 false (.t 27)⟩,
         ⟨(some 29), (some (20, true)), .sbin .leq (.t 22) (.t 28)⟩,
         ⟨(some 30), none, .pick (.t 20) (.t 29) (.k (.c (.bool false)))⟩,
         ⟨(some 17), none, .mv (.t 30)⟩])
       (.cond (.t 17)
       (.seq (.region false [
          ⟨(some 2), none, .mv (.k (.c (.int .i64 10)))⟩])
        .ret)
       (.seq (.region false [
          ⟨(some 32), none, .faddr 1 (.t 4)⟩,
          ⟨(some 33), none, .load 1 false (.t 32)⟩,
          ⟨(some 34), none, .call 69 [.t 33]⟩,
          ⟨(some 35), none, .not (.t 34)⟩,
          ⟨(some 36), none, .mv (.t 35)⟩,
          ⟨(some 37), (some (36, false)), .faddr 2 (.t 4)⟩,
          ⟨(some 38), (some (36, false)), .load 1 false (.t 37)⟩,
          ⟨(some 39), (some (36, false)), .ibin .neq .i64 (.t 38) (.k (.c (.int .i64 (-1))))⟩,
          ⟨(some 40), (some (36, false)), .mv (.t 39)⟩,
          ⟨(some 41), (some (40, true)), .faddr 2 (.t 4)⟩,
          ⟨(some 42), (some (40, true)), .load 1 false (.t 41)⟩,
          ⟨(some 43), (some (40, true)), .faddr 1 (.t 4)⟩,
          ⟨(some 44), (some (40, true)), .load 1 false (.t 43)⟩,
          ⟨(some 45), (some (40, true)), .ibin .lss .i64 (.t 42) (.t 44)⟩,
          ⟨(some 46), (some (40, true)), .mv (.t 45)⟩,
          ⟨(some 47), (some (46, false)), .faddr 2 (.t 4)⟩,
          ⟨(some 48), (some (46, false)), .load 1 false (.t 47)⟩,
          ⟨(some 49), (some (46, false)), .ibin .gtr .i64 (.t 48) (.k (.c (.int .i64 1000000)))⟩,
          ⟨(some 50), (some (40, true)), .pick (.t 46) (.k (.c (.bool true))) (.t 49)⟩,
          ⟨(some 51), (some (36, false)), .pick (.t 40) (.t 50) (.k (.c (.bool false)))⟩,
          ⟨(some 52), none, .pick (.t 36) (.k (.c (.bool true))) (.t 51)⟩,
          ⟨(some 31), none, .mv (.t 52)⟩])
        (.cond (.t 31)
        (.seq (.region false [
           ⟨(some 2), none, .mv (.k (.c (.int .i64 9)))⟩])
         .ret)
        .skip)))))))))
    (.region false [
      ⟨(some 53), none, .ibin .add .i64 (.t 7) (.k (.c (.int .i64 1)))⟩,
      ⟨(some 7), none, .mv (.t 53)⟩])))))))
  (.seq (.region false [
    ⟨(some 2), none, .mv (.k (.c (.int .i64 0)))⟩])
  .ret))) }
theorem rc95_ok : lowF Try.prog 95 = some rc95 := by kernel_rfl
def rc35 : RFun := { nt := 130, np := 1, res := [.t 2], code :=
  (.seq (.region false [
    ⟨(some 1), none, .box 4 (.t 0)⟩,
    ⟨(some 2), none, .mv (.k (.c (.int .i64 0)))⟩])
  (.seq (.block 0
  (.seq (.region false [
     ⟨(some 16), none, .faddr 0 (.t 1)⟩,
     ⟨(some 17), none, .load 1 false (.t 16)⟩,
     ⟨(some 18), none, .call 93 [.t 17]⟩,
     ⟨(some 19), none, .not (.t 18)⟩,
     ⟨(some 15), none, .mv (.t 19)⟩])
   (.cond (.t 15)
   (.seq (.region false [
      ⟨(some 2), none, .mv (.k (.c (.int .i64 8)))⟩])
    .ret)
   (.seq (.region false [
      ⟨(some 21), none, .faddr 3 (.t 1)⟩,
      ⟨(some 22), none, .load 1 false (.t 21)⟩,
      ⟨(some 23), none, .call 69 [.t 22]⟩,
      ⟨(some 24), none, .not (.t 23)⟩,
      ⟨(some 20), none, .mv (.t 24)⟩])
    (.cond (.t 20)
    (.seq (.region false [
       ⟨(some 2), none, .mv (.k (.c (.int .i64 9)))⟩])
     .ret)
    (.seq (.region false [
       ⟨(some 26), none, .faddr 1 (.t 1)⟩,
       ⟨(some 27), none, .load 1 false (.t 26)⟩,
       ⟨(some 28), none, .len (.t 27)⟩,
       ⟨(some 29), none, .ibin .gtr .i64 (.t 28) (.k (.c (.int .i64 500)))⟩,
       ⟨(some 30), none, .mv (.t 29)⟩,
       ⟨(some 31), (some (30, false)), .faddr 2 (.t 1)⟩,
       ⟨(some 32), (some (30, false)), .load 1 false (.t 31)⟩,
       ⟨(some 33), (some (30, false)), .len (.t 32)⟩,
       ⟨(some 34), (some (30, false)), .ibin .gtr .i64 (.t 33) (.k (.c (.int .i64 2000)))⟩,
       ⟨(some 35), none, .pick (.t 30) (.k (.c (.bool true))) (.t 34)⟩,
       ⟨(some 25), none, .mv (.t 35)⟩])
     (.cond (.t 25)
     (.seq (.region false [
        ⟨(some 2), none, .mv (.k (.c (.int .i64 3)))⟩])
      .ret)
     .skip)))))))
  (.seq (.region false [
    ⟨(some 36), none, .mmap⟩,
    ⟨(some 3), none, .mv (.t 36)⟩])
  (.seq (.seq (.region false [
    ⟨(some 37), none, .faddr 1 (.t 1)⟩,
    ⟨(some 38), none, .load 1 false (.t 37)⟩,
    ⟨(some 39), none, .len (.t 38)⟩,
    ⟨(some 40), none, .mv (.k (.c (.int .i64 0)))⟩])
  (.block 1
  (.loop
   (.seq (.region false [
      ⟨(some 41), none, .ibin .lss .i64 (.t 40) (.t 39)⟩])
    (.seq (.cond (.t 41)
    .skip
    (.exit 1))
    (.seq (.block 2
    (.seq (.region false [
       ⟨(some 42), none, .mv (.t 40)⟩,
       ⟨(some 43), none, .iaddr 3 (.t 38) (.t 40)⟩,
       ⟨(some 44), none, .load 3 true (.t 43)⟩,
       ⟨(some 5), none, .alloc [.c (.string ⟨#[]⟩), .c (.int .i64 0), .c (.slice none 0 0)]⟩,
       ⟨(some 4), none, .mv (.t 42)⟩,
       ⟨none, none, .store 3 (.t 5) (.t 44)⟩])
     (.seq (.block 3
     (.seq (.region false [
        ⟨(some 46), none, .faddr 0 (.t 5)⟩,
        ⟨(some 47), none, .load 1 false (.t 46)⟩,
        ⟨(some 48), none, .call 93 [.t 47]⟩,
        ⟨(some 49), none, .not (.t 48)⟩,
        ⟨(some 45), none, .mv (.t 49)⟩])
      (.cond (.t 45)
      (.seq (.region false [
         ⟨(some 2), none, .mv (.k (.c (.int .i64 8)))⟩])
       .ret)
      (.seq (.region false [
         ⟨(some 51), none, .mv (.t 3)⟩,
         ⟨(some 52), none, .faddr 0 (.t 5)⟩,
         ⟨(some 53), none, .load 1 false (.t 52)⟩,
         ⟨(some 54), none, .look (.one .str) (.c (.bool false)) false (.t 51) (.t 53)⟩,
         ⟨(some 50), none, .mv (.t 54)⟩])
       (.cond (.t 50)
       (.seq (.region false [
          ⟨(some 2), none, .mv (.k (.c (.int .i64 5)))⟩])
        .ret)
       (.seq (.region false [
          ⟨(some 56), none, .faddr 1 (.t 5)⟩,
          ⟨(some 57), none, .load 1 false (.t 56)⟩,
          ⟨(some 58), none, .ibin .lss .i64 (.t 57) (.k (.c (.int .i64 0)))⟩,
          ⟨(some 59), none, .mv (.t 58)⟩,
          ⟨(some 60), (some (59, false)), .faddr 1 (.t 5)⟩,
          ⟨(some 61), (some (59, false)), .load 1 false (.t 60)⟩,
          ⟨(some 62), (some (59, false)), .faddr 3 (.t 1)⟩,
          ⟨(some 63), (some (59, false)), .load 1 false (.t 62)⟩,
          ⟨(some 64), (some (59, false)), .ibin .gtr .i64 (.t 61) (.t 63)⟩,
          ⟨(some 65), none, .pick (.t 59) (.k (.c (.bool true))) (.t 64)⟩,
          ⟨(some 55), none, .mv (.t 65)⟩])
        (.cond (.t 55)
        (.seq (.region false [
           ⟨(some 2), none, .mv (.k (.c (.int .i64 9)))⟩])
         .ret)
        (.seq (.region true [
           ⟨(some 67), none, .mv (.t 4)⟩,
           ⟨(some 68), none, .ibin .gtr .i64 (.t 67) (.k (.c (.int .i64 0)))⟩,
           ⟨(some 69), none, .mv (.t 68)⟩,
           ⟨(some 70), (some (69, true)), .faddr 1 (.t 5)⟩,
           ⟨(some 71), (some (69, true)), .load 1 false (.t 70)⟩,
           ⟨(some 72), (some (69, true)), .faddr 1 (.t 1)⟩,
           ⟨(some 73), (some (69, true)), .load 1 false (.t 72)⟩,
           ⟨(some 74), (some (69, true)), .mv (.t 4)⟩,
           ⟨(some 75), (some (69, true)), .ibin .sub .i64 (.t 74) (.k (.c (.int .i64 1)))⟩,
           ⟨(some 76), (some (69, true)), .iaddr 3 (.t 73) (.t 75)⟩,
           ⟨(some 77), (some (69, true)), .faddr 1 (.t 76)⟩,
           ⟨(some 78), (some (69, true)), .load 1 false (.t 77)⟩,
           ⟨(some 79), (some (69, true)), .ibin .leq .i64 (.t 71) (.t 78)⟩,
           ⟨(some 80), none, .pick (.t 69) (.t 79) (.k (.c (.bool false)))⟩,
           ⟨(some 66), none, .mv (.t 80)⟩])
         (.cond (.t 66)
         (.seq (.region false [
            ⟨(some 2), none, .mv (.k (.c (.int .i64 10)))⟩])
          .ret)
         .skip)))))))))
     (.seq (.region false [
       ⟨(some 81), none, .mv (.t 3)⟩,
       ⟨(some 82), none, .faddr 0 (.t 5)⟩,
       ⟨(some 83), none, .load 1 false (.t 82)⟩,
       ⟨none, none, .mupd (.one .str) (.t 81) (.t 83) (.k (.c (.bool true)))⟩])
     (.seq (.region false [
       ⟨(some 84), none, .faddr 2 (.t 5)⟩,
       ⟨(some 85), none, .load 1 false (.t 84)⟩,
       ⟨(some 86), none, .call 94 [.t 85]⟩,
       ⟨(some 6), none, .mv (.t 86)⟩])
     (.seq (.region false [
       ⟨(some 87), none, .mv (.t 6)⟩,
       ⟨(some 88), none, .ibin .neq .i64 (.t 87) (.k (.c (.int .i64 0)))⟩])
     (.cond (.t 88)
     (.seq (.region false [
        ⟨(some 89), none, .mv (.t 6)⟩,
        ⟨(some 2), none, .mv (.t 89)⟩])
      .ret)
     .skip)))))))
    (.region false [
      ⟨(some 90), none, .ibin .add .i64 (.t 40) (.k (.c (.int .i64 1)))⟩,
      ⟨(some 40), none, .mv (.t 90)⟩])))))))
  (.seq (.seq (.region false [
    ⟨(some 91), none, .faddr 2 (.t 1)⟩,
    ⟨(some 92), none, .load 1 false (.t 91)⟩,
    ⟨(some 93), none, .call 95 [.t 92]⟩,
    ⟨(some 7), none, .mv (.t 93)⟩])
  (.seq (.region false [
    ⟨(some 94), none, .mv (.t 7)⟩,
    ⟨(some 95), none, .ibin .neq .i64 (.t 94) (.k (.c (.int .i64 0)))⟩])
  (.cond (.t 95)
  (.seq (.region false [
     ⟨(some 96), none, .mv (.t 7)⟩,
     ⟨(some 2), none, .mv (.t 96)⟩])
   .ret)
  .skip)))
  (.seq (.region false [
    ⟨(some 97), none, .mmap⟩,
    ⟨(some 8), none, .mv (.t 97)⟩])
  (.seq (.seq (.region false [
    ⟨(some 98), none, .faddr 2 (.t 1)⟩,
    ⟨(some 99), none, .load 1 false (.t 98)⟩,
    ⟨(some 100), none, .len (.t 99)⟩,
    ⟨(some 101), none, .mv (.k (.c (.int .i64 0)))⟩])
  (.block 4
  (.loop
   (.seq (.region false [
      ⟨(some 102), none, .ibin .lss .i64 (.t 101) (.t 100)⟩])
    (.seq (.cond (.t 102)
    .skip
    (.exit 4))
    (.seq (.block 5
    (.seq (.region false [
       ⟨(some 103), none, .iaddr 3 (.t 99) (.t 101)⟩,
       ⟨(some 104), none, .load 3 true (.t 103)⟩,
       ⟨(some 10), none, .alloc [.c (.string ⟨#[]⟩), .c (.int .i64 0), .c (.int .i64 0)]⟩,
       ⟨none, none, .store 3 (.t 10) (.t 104)⟩])
     (.region false [
       ⟨(some 105), none, .mv (.t 8)⟩,
       ⟨(some 106), none, .faddr 0 (.t 10)⟩,
       ⟨(some 107), none, .load 1 false (.t 106)⟩,
       ⟨none, none, .mupd (.one .str) (.t 105) (.t 107) (.k (.c (.bool true)))⟩])))
    (.region false [
      ⟨(some 108), none, .ibin .add .i64 (.t 101) (.k (.c (.int .i64 1)))⟩,
      ⟨(some 101), none, .mv (.t 108)⟩])))))))
  (.seq (.seq (.region false [
    ⟨(some 109), none, .faddr 1 (.t 1)⟩,
    ⟨(some 110), none, .load 1 false (.t 109)⟩,
    ⟨(some 111), none, .len (.t 110)⟩,
    ⟨(some 112), none, .mv (.k (.c (.int .i64 0)))⟩])
  (.block 6
  (.loop
   (.seq (.region false [
      ⟨(some 113), none, .ibin .lss .i64 (.t 112) (.t 111)⟩])
    (.seq (.cond (.t 113)
    .skip
    (.exit 6))
    (.seq (.block 7
    (.seq (.region false [
       ⟨(some 114), none, .iaddr 3 (.t 110) (.t 112)⟩,
       ⟨(some 115), none, .load 3 true (.t 114)⟩,
       ⟨(some 12), none, .alloc [.c (.string ⟨#[]⟩), .c (.int .i64 0), .c (.slice none 0 0)]⟩,
       ⟨none, none, .store 3 (.t 12) (.t 115)⟩])
     (.seq (.region false [
       ⟨(some 116), none, .faddr 2 (.t 12)⟩,
       ⟨(some 117), none, .load 1 false (.t 116)⟩,
       ⟨(some 118), none, .len (.t 117)⟩,
       ⟨(some 119), none, .mv (.k (.c (.int .i64 0)))⟩])
     (.block 8
     (.loop
      (.seq (.region false [
         ⟨(some 120), none, .ibin .lss .i64 (.t 119) (.t 118)⟩])
       (.seq (.cond (.t 120)
       .skip
       (.exit 8))
       (.seq (.block 9
       (.seq (.region false [
          ⟨(some 121), none, .iaddr 3 (.t 117) (.t 119)⟩,
          ⟨(some 122), none, .load 3 true (.t 121)⟩,
          ⟨(some 14), none, .alloc [.c (.string ⟨#[]⟩), .c (.string ⟨#[]⟩), .c (.int .i64 0)]⟩,
          ⟨none, none, .store 3 (.t 14) (.t 122)⟩])
        (.seq (.region false [
          ⟨(some 123), none, .mv (.t 8)⟩,
          ⟨(some 124), none, .faddr 0 (.t 14)⟩,
          ⟨(some 125), none, .load 1 false (.t 124)⟩,
          ⟨(some 126), none, .look (.one .str) (.c (.bool false)) false (.t 123) (.t 125)⟩,
          ⟨(some 127), none, .not (.t 126)⟩])
        (.cond (.t 127)
        (.seq (.region false [
           ⟨(some 2), none, .mv (.k (.c (.int .i64 4)))⟩])
         .ret)
        .skip))))
       (.region false [
         ⟨(some 128), none, .ibin .add .i64 (.t 119) (.k (.c (.int .i64 1)))⟩,
         ⟨(some 119), none, .mv (.t 128)⟩])))))))))
    (.region false [
      ⟨(some 129), none, .ibin .add .i64 (.t 112) (.k (.c (.int .i64 1)))⟩,
      ⟨(some 112), none, .mv (.t 129)⟩])))))))
  (.seq (.region false [
    ⟨(some 2), none, .mv (.k (.c (.int .i64 0)))⟩])
  .ret))))))))) }
theorem rc35_ok : lowF Try.prog 35 = some rc35 := by kernel_rfl
def rc97 : RFun := { nt := 62, np := 1, res := [.t 2], code :=
  (.seq (.region false [
    ⟨(some 1), none, .box 4 (.t 0)⟩,
    ⟨(some 2), none, .mv (.k (.c (.int .i64 0)))⟩])
  (.seq (.region false [
    ⟨(some 7), none, .mmap⟩,
    ⟨(some 3), none, .mv (.t 7)⟩])
  (.seq (.seq (.region false [
    ⟨(some 8), none, .faddr 1 (.t 1)⟩,
    ⟨(some 9), none, .load 1 false (.t 8)⟩,
    ⟨(some 10), none, .len (.t 9)⟩,
    ⟨(some 11), none, .mv (.k (.c (.int .i64 0)))⟩])
  (.block 0
  (.loop
   (.seq (.region false [
      ⟨(some 12), none, .ibin .lss .i64 (.t 11) (.t 10)⟩])
    (.seq (.cond (.t 12)
    .skip
    (.exit 0))
    (.seq (.block 1
    (.seq (.region false [
       ⟨(some 13), none, .mv (.t 11)⟩,
       ⟨(some 14), none, .iaddr 3 (.t 9) (.t 11)⟩,
       ⟨(some 15), none, .load 3 true (.t 14)⟩,
       ⟨(some 5), none, .alloc [.c (.string ⟨#[]⟩), .c (.int .i64 0), .c (.slice none 0 0)]⟩,
       ⟨(some 4), none, .mv (.t 13)⟩,
       ⟨none, none, .store 3 (.t 5) (.t 15)⟩])
     (.seq (.block 2
     (.seq (.region false [
        ⟨(some 17), none, .faddr 0 (.t 5)⟩,
        ⟨(some 18), none, .load 1 false (.t 17)⟩,
        ⟨(some 19), none, .call 96 [.t 18]⟩,
        ⟨(some 20), none, .not (.t 19)⟩,
        ⟨(some 16), none, .mv (.t 20)⟩])
      (.cond (.t 16)
      (.seq (.region false [
         ⟨(some 2), none, .mv (.k (.c (.int .i64 8)))⟩])
       .ret)
      (.seq (.region false [
         ⟨(some 22), none, .mv (.t 3)⟩,
         ⟨(some 23), none, .faddr 0 (.t 5)⟩,
         ⟨(some 24), none, .load 1 false (.t 23)⟩,
         ⟨(some 25), none, .look (.one .str) (.c (.bool false)) false (.t 22) (.t 24)⟩,
         ⟨(some 21), none, .mv (.t 25)⟩])
       (.cond (.t 21)
       (.seq (.region false [
          ⟨(some 2), none, .mv (.k (.c (.int .i64 5)))⟩])
        .ret)
       (.seq (.region false [
          ⟨(some 27), none, .faddr 1 (.t 5)⟩,
          ⟨(some 28), none, .load 1 false (.t 27)⟩,
          ⟨(some 29), none, .ibin .lss .i64 (.t 28) (.k (.c (.int .i64 0)))⟩,
          ⟨(some 30), none, .mv (.t 29)⟩,
          ⟨(some 31), (some (30, false)), .faddr 1 (.t 5)⟩,
          ⟨(some 32), (some (30, false)), .load 1 false (.t 31)⟩,
          ⟨(some 33), (some (30, false)), .faddr 3 (.t 1)⟩,
          ⟨(some 34), (some (30, false)), .load 1 false (.t 33)⟩,
          ⟨(some 35), (some (30, false)), .ibin .gtr .i64 (.t 32) (.t 34)⟩,
          ⟨(some 36), none, .pick (.t 30) (.k (.c (.bool true))) (.t 35)⟩,
          ⟨(some 26), none, .mv (.t 36)⟩])
        (.cond (.t 26)
        (.seq (.region false [
           ⟨(some 2), none, .mv (.k (.c (.int .i64 9)))⟩])
         .ret)
        (.seq (.region true [
           ⟨(some 38), none, .mv (.t 4)⟩,
           ⟨(some 39), none, .ibin .gtr .i64 (.t 38) (.k (.c (.int .i64 0)))⟩,
           ⟨(some 40), none, .mv (.t 39)⟩,
           ⟨(some 41), (some (40, true)), .faddr 1 (.t 5)⟩,
           ⟨(some 42), (some (40, true)), .load 1 false (.t 41)⟩,
           ⟨(some 43), (some (40, true)), .faddr 1 (.t 1)⟩,
           ⟨(some 44), (some (40, true)), .load 1 false (.t 43)⟩,
           ⟨(some 45), (some (40, true)), .mv (.t 4)⟩,
           ⟨(some 46), (some (40, true)), .ibin .sub .i64 (.t 45) (.k (.c (.int .i64 1)))⟩,
           ⟨(some 47), (some (40, true)), .iaddr 3 (.t 44) (.t 46)⟩,
           ⟨(some 48), (some (40, true)), .faddr 1 (.t 47)⟩,
           ⟨(some 49), (some (40, true)), .load 1 false (.t 48)⟩,
           ⟨(some 50), (some (40, true)), .ibin .leq .i64 (.t 42) (.t 49)⟩,
           ⟨(some 51), none, .pick (.t 40) (.t 50) (.k (.c (.bool false)))⟩,
           ⟨(some 37), none, .mv (.t 51)⟩])
         (.cond (.t 37)
         (.seq (.region false [
            ⟨(some 2), none, .mv (.k (.c (.int .i64 10)))⟩])
          .ret)
         .skip)))))))))
     (.seq (.region false [
       ⟨(some 52), none, .mv (.t 3)⟩,
       ⟨(some 53), none, .faddr 0 (.t 5)⟩,
       ⟨(some 54), none, .load 1 false (.t 53)⟩,
       ⟨none, none, .mupd (.one .str) (.t 52) (.t 54) (.k (.c (.bool true)))⟩])
     (.seq (.region false [
       ⟨(some 55), none, .faddr 2 (.t 5)⟩,
       ⟨(some 56), none, .load 1 false (.t 55)⟩,
       ⟨(some 57), none, .call 128 [.t 56]⟩,
       ⟨(some 6), none, .mv (.t 57)⟩])
     (.seq (.region false [
       ⟨(some 58), none, .mv (.t 6)⟩,
       ⟨(some 59), none, .ibin .neq .i64 (.t 58) (.k (.c (.int .i64 0)))⟩])
     (.cond (.t 59)
     (.seq (.region false [
        ⟨(some 60), none, .mv (.t 6)⟩,
        ⟨(some 2), none, .mv (.t 60)⟩])
      .ret)
     .skip)))))))
    (.region false [
      ⟨(some 61), none, .ibin .add .i64 (.t 11) (.k (.c (.int .i64 1)))⟩,
      ⟨(some 11), none, .mv (.t 61)⟩])))))))
  (.seq (.region false [
    ⟨(some 2), none, .mv (.k (.c (.int .i64 0)))⟩])
  .ret)))) }
theorem rc97_ok : lowF Try.prog 97 = some rc97 := by kernel_rfl
def rc36 : RFun := { nt := 113, np := 1, res := [.t 2], code :=
  (.seq (.region false [
    ⟨(some 1), none, .box 4 (.t 0)⟩,
    ⟨(some 2), none, .mv (.k (.c (.int .i64 0)))⟩])
  (.seq (.block 0
  (.seq (.region false [
     ⟨(some 12), none, .faddr 0 (.t 1)⟩,
     ⟨(some 13), none, .load 1 false (.t 12)⟩,
     ⟨(some 14), none, .call 96 [.t 13]⟩,
     ⟨(some 15), none, .not (.t 14)⟩,
     ⟨(some 11), none, .mv (.t 15)⟩])
   (.cond (.t 11)
   (.seq (.region false [
      ⟨(some 2), none, .mv (.k (.c (.int .i64 8)))⟩])
    .ret)
   (.seq (.region false [
      ⟨(some 17), none, .faddr 3 (.t 1)⟩,
      ⟨(some 18), none, .load 1 false (.t 17)⟩,
      ⟨(some 19), none, .call 72 [.t 18]⟩,
      ⟨(some 20), none, .not (.t 19)⟩,
      ⟨(some 16), none, .mv (.t 20)⟩])
    (.cond (.t 16)
    (.seq (.region false [
       ⟨(some 2), none, .mv (.k (.c (.int .i64 9)))⟩])
     .ret)
    (.seq (.region false [
       ⟨(some 22), none, .faddr 1 (.t 1)⟩,
       ⟨(some 23), none, .load 1 false (.t 22)⟩,
       ⟨(some 24), none, .len (.t 23)⟩,
       ⟨(some 25), none, .ibin .gtr .i64 (.t 24) (.k (.c (.int .i64 500)))⟩,
       ⟨(some 26), none, .mv (.t 25)⟩,
       ⟨(some 27), (some (26, false)), .faddr 2 (.t 1)⟩,
       ⟨(some 28), (some (26, false)), .load 1 false (.t 27)⟩,
       ⟨(some 29), (some (26, false)), .len (.t 28)⟩,
       ⟨(some 30), (some (26, false)), .ibin .gtr .i64 (.t 29) (.k (.c (.int .i64 2000)))⟩,
       ⟨(some 31), none, .pick (.t 26) (.k (.c (.bool true))) (.t 30)⟩,
       ⟨(some 21), none, .mv (.t 31)⟩])
     (.cond (.t 21)
     (.seq (.region false [
        ⟨(some 2), none, .mv (.k (.c (.int .i64 3)))⟩])
      .ret)
     .skip)))))))
  (.seq (.seq (.region false [
    ⟨(some 32), none, .load 4 true (.t 1)⟩,
    ⟨(some 33), none, .call 97 [.t 32]⟩,
    ⟨(some 3), none, .mv (.t 33)⟩])
  (.seq (.region false [
    ⟨(some 34), none, .mv (.t 3)⟩,
    ⟨(some 35), none, .ibin .neq .i64 (.t 34) (.k (.c (.int .i64 0)))⟩])
  (.cond (.t 35)
  (.seq (.region false [
     ⟨(some 36), none, .mv (.t 3)⟩,
     ⟨(some 2), none, .mv (.t 36)⟩])
   .ret)
  .skip)))
  (.seq (.region false [
    ⟨(some 37), none, .mmap⟩,
    ⟨(some 4), none, .mv (.t 37)⟩])
  (.seq (.seq (.region false [
    ⟨(some 38), none, .faddr 2 (.t 1)⟩,
    ⟨(some 39), none, .load 1 false (.t 38)⟩,
    ⟨(some 40), none, .len (.t 39)⟩,
    ⟨(some 41), none, .mv (.k (.c (.int .i64 0)))⟩])
  (.block 1
  (.loop
   (.seq (.region false [
      ⟨(some 42), none, .ibin .lss .i64 (.t 41) (.t 40)⟩])
    (.seq (.cond (.t 42)
    .skip
    (.exit 1))
    (.seq (.block 2
    (.seq (.region false [
       ⟨(some 43), none, .mv (.t 41)⟩,
       ⟨(some 44), none, .iaddr 3 (.t 39) (.t 41)⟩,
       ⟨(some 45), none, .load 3 true (.t 44)⟩,
       ⟨(some 6), none, .alloc [.c (.string ⟨#[]⟩), .c (.int .i64 0), .c (.int .i64 0)]⟩,
       ⟨(some 5), none, .mv (.t 43)⟩,
       ⟨none, none, .store 3 (.t 6) (.t 45)⟩])
     (.seq (.block 3
     (.seq (.region false [
        ⟨(some 47), none, .faddr 0 (.t 6)⟩,
        ⟨(some 48), none, .load 1 false (.t 47)⟩,
        ⟨(some 49), none, .call 96 [.t 48]⟩,
        ⟨(some 50), none, .not (.t 49)⟩,
        ⟨(some 46), none, .mv (.t 50)⟩])
      (.cond (.t 46)
      (.seq (.region false [
         ⟨(some 2), none, .mv (.k (.c (.int .i64 8)))⟩])
       .ret)
      (.seq (.region true [
         ⟨(some 52), none, .mv (.t 5)⟩,
         ⟨(some 53), none, .ibin .gtr .i64 (.t 52) (.k (.c (.int .i64 0)))⟩,
         ⟨(some 54), none, .mv (.t 53)⟩,
         ⟨(some 55), (some (54, true)), .faddr 0 (.t 6)⟩,
         ⟨(some 56), (some (54, true)), .load 1 false (.t 55)⟩,
         ⟨(some 57), (some (54, true)), .faddr 2 (.t 1)⟩,
         ⟨(some 58), (some (54, true)), .load 1 false (.t 57)⟩,
         ⟨(some 59), (some (54, true)), .mv (.t 5)⟩,
         ⟨(some 60), (some (54, true)), .ibin .sub .i64 (.t 59) (.k (.c (.int .i64 1)))⟩,
         ⟨(some 61), (some (54, true)), .iaddr 3 (.t 58) (.t 60)⟩,
         ⟨(some 62), (some (54, true)), .faddr 0 (.t 61)⟩,
         ⟨(some 63), (some (54, true)), .load 1 false (.t 62)⟩,
         ⟨(some 64), (some (54, true)), .sbin .leq (.t 56) (.t 63)⟩,
         ⟨(some 65), none, .pick (.t 54) (.t 64) (.k (.c (.bool false)))⟩,
         ⟨(some 51), none, .mv (.t 65)⟩])
       (.cond (.t 51)
       (.seq (.region false [
          ⟨(some 2), none, .mv (.k (.c (.int .i64 10)))⟩])
        .ret)
       (.seq (.region false [
          ⟨(some 67), none, .faddr 1 (.t 6)⟩,
          ⟨(some 68), none, .load 1 false (.t 67)⟩,
          ⟨(some 69), none, .call 72 [.t 68]⟩,
          ⟨(some 70), none, .not (.t 69)⟩,
          ⟨(some 71), none, .mv (.t 70)⟩,
          ⟨(some 72), (some (71, false)), .faddr 2 (.t 6)⟩,
          ⟨(some 73), (some (71, false)), .load 1 false (.t 72)⟩,
          ⟨(some 74), (some (71, false)), .ibin .neq .i64 (.t 73) (.k (.c (.int .i64 (-1))))⟩,
          ⟨(some 75), (some (71, false)), .mv (.t 74)⟩,
          ⟨(some 76), (some (75, true)), .faddr 2 (.t 6)⟩,
          ⟨(some 77), (some (75, true)), .load 1 false (.t 76)⟩,
          ⟨(some 78), (some (75, true)), .faddr 1 (.t 6)⟩,
          ⟨(some 79), (some (75, true)), .load 1 false (.t 78)⟩,
          ⟨(some 80), (some (75, true)), .ibin .lss .i64 (.t 77) (.t 79)⟩,
          ⟨(some 81), (some (75, true)), .mv (.t 80)⟩,
          ⟨(some 82), (some (81, false)), .faddr 2 (.t 6)⟩,
          ⟨(some 83), (some (81, false)), .load 1 false (.t 82)⟩,
          ⟨(some 84), (some (81, false)), .ibin .gtr .i64 (.t 83) (.k (.c (.int .i64 1000000)))⟩,
          ⟨(some 85), (some (75, true)), .pick (.t 81) (.k (.c (.bool true))) (.t 84)⟩,
          ⟨(some 86), (some (71, false)), .pick (.t 75) (.t 85) (.k (.c (.bool false)))⟩,
          ⟨(some 87), none, .pick (.t 71) (.k (.c (.bool true))) (.t 86)⟩,
          ⟨(some 66), none, .mv (.t 87)⟩])
        (.cond (.t 66)
        (.seq (.region false [
           ⟨(some 2), none, .mv (.k (.c (.int .i64 9)))⟩])
         .ret)
        .skip)))))))
     (.region false [
       ⟨(some 88), none, .mv (.t 4)⟩,
       ⟨(some 89), none, .faddr 0 (.t 6)⟩,
       ⟨(some 90), none, .load 1 false (.t 89)⟩,
       ⟨none, none, .mupd (.one .str) (.t 88) (.t 90) (.k (.c (.bool true)))⟩]))))
    (.region false [
      ⟨(some 91), none, .ibin .add .i64 (.t 41) (.k (.c (.int .i64 1)))⟩,
      ⟨(some 41), none, .mv (.t 91)⟩])))))))
  (.seq (.seq (.region false [
    ⟨(some 92), none, .faddr 1 (.t 1)⟩,
    ⟨(some 93), none, .load 1 false (.t 92)⟩,
    ⟨(some 94), none, .len (.t 93)⟩,
    ⟨(some 95), none, .mv (.k (.c (.int .i64 0)))⟩])
  (.block 4
  (.loop
   (.seq (.region false [
      ⟨(some 96), none, .ibin .lss .i64 (.t 95) (.t 94)⟩])
    (.seq (.cond (.t 96)
    .skip
    (.exit 4))
    (.seq (.block 5
    (.seq (.region false [
       ⟨(some 97), none, .iaddr 3 (.t 93) (.t 95)⟩,
       ⟨(some 98), none, .load 3 true (.t 97)⟩,
       ⟨(some 8), none, .alloc [.c (.string ⟨#[]⟩), .c (.int .i64 0), .c (.slice none 0 0)]⟩,
       ⟨none, none, .store 3 (.t 8) (.t 98)⟩])
     (.seq (.region false [
       ⟨(some 99), none, .faddr 2 (.t 8)⟩,
       ⟨(some 100), none, .load 1 false (.t 99)⟩,
       ⟨(some 101), none, .len (.t 100)⟩,
       ⟨(some 102), none, .mv (.k (.c (.int .i64 0)))⟩])
     (.block 6
     (.loop
      (.seq (.region false [
         ⟨(some 103), none, .ibin .lss .i64 (.t 102) (.t 101)⟩])
       (.seq (.cond (.t 103)
       .skip
       (.exit 6))
       (.seq (.block 7
       (.seq (.region false [
          ⟨(some 104), none, .iaddr 3 (.t 100) (.t 102)⟩,
          ⟨(some 105), none, .load 3 true (.t 104)⟩,
          ⟨(some 10), none, .alloc [.c (.string ⟨#[]⟩), .c (.string ⟨#[]⟩), .c (.int .i64 0)]⟩,
          ⟨none, none, .store 3 (.t 10) (.t 105)⟩])
        (.seq (.region false [
          ⟨(some 106), none, .mv (.t 4)⟩,
          ⟨(some 107), none, .faddr 0 (.t 10)⟩,
          ⟨(some 108), none, .load 1 false (.t 107)⟩,
          ⟨(some 109), none, .look (.one .str) (.c (.bool false)) false (.t 106) (.t 108)⟩,
          ⟨(some 110), none, .not (.t 109)⟩])
        (.cond (.t 110)
        (.seq (.region false [
           ⟨(some 2), none, .mv (.k (.c (.int .i64 4)))⟩])
         .ret)
        .skip))))
       (.region false [
         ⟨(some 111), none, .ibin .add .i64 (.t 102) (.k (.c (.int .i64 1)))⟩,
         ⟨(some 102), none, .mv (.t 111)⟩])))))))))
    (.region false [
      ⟨(some 112), none, .ibin .add .i64 (.t 95) (.k (.c (.int .i64 1)))⟩,
      ⟨(some 95), none, .mv (.t 112)⟩])))))))
  (.seq (.region false [
    ⟨(some 2), none, .mv (.k (.c (.int .i64 0)))⟩])
  .ret))))))) }
theorem rc36_ok : lowF Try.prog 36 = some rc36 := by kernel_rfl
def rc129 : RFun := { nt := 8, np := 1, res := [.t 2], code :=
  (.seq (.region false [
    ⟨(some 2), none, .mv (.k (.c (.slice none 0 0)))⟩])
  (.seq (.seq (.region false [
    ⟨(some 3), none, .mv (.t 0)⟩,
    ⟨(some 4), none, .snil false (.t 3)⟩])
  (.cond (.t 4)
  (.seq (.region false [
     ⟨(some 2), none, .mv (.k (.c (.slice none 0 0)))⟩])
   .ret)
  .skip))
  (.seq (.region false [
    ⟨(some 5), none, .bslice 3 [.c (.string ⟨#[]⟩), .c (.string ⟨#[]⟩), .c (.int .i64 0)] 0 []⟩,
    ⟨(some 6), none, .mv (.t 0)⟩,
    ⟨(some 7), none, .app 3 40 [.c (.string ⟨#[]⟩), .c (.string ⟨#[]⟩), .c (.int .i64 0)] (.t 5) (.t 6)⟩,
    ⟨(some 2), none, .mv (.t 7)⟩])
  .ret))) }
theorem rc129_ok : lowF Try.prog 129 = some rc129 := by kernel_rfl
def rc89 : RFun := { nt := 8, np := 1, res := [.c 2 3 true], code :=
  (.seq (.region false [
    ⟨(some 1), none, .box 3 (.t 0)⟩,
    ⟨(some 2), none, .alloc [.c (.string ⟨#[]⟩), .c (.int .i64 0), .c (.slice none 0 0)]⟩])
  (.seq (.region false [
    ⟨(some 3), none, .faddr 2 (.t 1)⟩,
    ⟨(some 4), none, .load 1 false (.t 3)⟩,
    ⟨(some 5), none, .call 129 [.t 4]⟩,
    ⟨(some 6), none, .faddr 2 (.t 1)⟩,
    ⟨none, none, .store 1 (.t 6) (.t 5)⟩])
  (.seq (.region false [
    ⟨(some 7), none, .load 3 true (.t 1)⟩,
    ⟨none, none, .store 3 (.t 2) (.t 7)⟩])
  .ret))) }
theorem rc89_ok : lowF Try.prog 89 = some rc89 := by kernel_rfl
def rc37 : RFun := { nt := 24, np := 2, res := [.t 4], code :=
  (.seq (.region false [
    ⟨(some 2), none, .box 3 (.t 0)⟩,
    ⟨(some 3), none, .box 3 (.t 1)⟩,
    ⟨(some 4), none, .mv (.k (.c (.bool false)))⟩])
  (.seq (.region false [
    ⟨(some 5), none, .faddr 0 (.t 2)⟩,
    ⟨(some 6), none, .load 1 false (.t 5)⟩,
    ⟨(some 7), none, .faddr 0 (.t 3)⟩,
    ⟨(some 8), none, .load 1 false (.t 7)⟩,
    ⟨(some 9), none, .sbin .eql (.t 6) (.t 8)⟩,
    ⟨(some 10), none, .mv (.t 9)⟩,
    ⟨(some 11), (some (10, true)), .faddr 1 (.t 2)⟩,
    ⟨(some 12), (some (10, true)), .load 1 false (.t 11)⟩,
    ⟨(some 13), (some (10, true)), .faddr 1 (.t 3)⟩,
    ⟨(some 14), (some (10, true)), .load 1 false (.t 13)⟩,
    ⟨(some 15), (some (10, true)), .ibin .eql .i64 (.t 12) (.t 14)⟩,
    ⟨(some 16), none, .pick (.t 10) (.t 15) (.k (.c (.bool false)))⟩,
    ⟨(some 17), none, .mv (.t 16)⟩,
    ⟨(some 18), (some (17, true)), .faddr 2 (.t 2)⟩,
    ⟨(some 19), (some (17, true)), .load 1 false (.t 18)⟩,
    ⟨(some 20), (some (17, true)), .faddr 2 (.t 3)⟩,
    ⟨(some 21), (some (17, true)), .load 1 false (.t 20)⟩,
    ⟨(some 22), (some (17, true)), .call 30 [.t 19, .t 21]⟩,
    ⟨(some 23), none, .pick (.t 17) (.t 22) (.k (.c (.bool false)))⟩,
    ⟨(some 4), none, .mv (.t 23)⟩])
  .ret)) }
theorem rc37_ok : lowF Try.prog 37 = some rc37 := by kernel_rfl
end Go.Abs
