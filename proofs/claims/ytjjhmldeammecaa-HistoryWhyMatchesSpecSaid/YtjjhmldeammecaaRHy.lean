/- The functions' code in the resolved form of Abs (printed by a program of this repo). -/
import Derived.Test.YtjjhmldeammecaaFHy
import Derived.Test.YtjjhmldeammecaaProg
import Derived.Test.YtjjhmldeammecaaRHw
namespace Go.Abs
open Go Go.Proofs
set_option maxRecDepth 8000
def rc41 : RFun := { nt := 49, np := 2, res := [.t 4, .t 5, .t 6], code :=
  (.seq (.region false [
    ⟨(some 2), none, .box 4 (.t 0)⟩,
    ⟨(some 4), none, .mv (.k (.c (.slice none 0 0)))⟩,
    ⟨(some 5), none, .mv (.k (.c (.slice none 0 0)))⟩,
    ⟨(some 6), none, .mv (.k (.c (.int .i64 0)))⟩])
  (.seq (.seq (.region false [
    ⟨(some 10), none, .load 4 true (.t 2)⟩,
    ⟨(some 11), none, .call 35 [.t 10]⟩,
    ⟨(some 7), none, .mv (.t 11)⟩])
  (.seq (.region false [
    ⟨(some 12), none, .mv (.t 7)⟩,
    ⟨(some 13), none, .ibin .neq .i64 (.t 12) (.k (.c (.int .i64 0)))⟩])
  (.cond (.t 13)
  (.seq (.region false [
     ⟨(some 14), none, .mv (.t 7)⟩,
     ⟨(some 4), none, .mv (.k (.c (.slice none 0 0)))⟩,
     ⟨(some 5), none, .mv (.k (.c (.slice none 0 0)))⟩,
     ⟨(some 6), none, .mv (.t 14)⟩])
   .ret)
  .skip)))
  (.seq (.seq (.region false [
    ⟨(some 15), none, .mv (.t 1)⟩,
    ⟨(some 16), none, .call 69 [.t 15]⟩,
    ⟨(some 17), none, .not (.t 16)⟩])
  (.cond (.t 17)
  (.seq (.region false [
     ⟨(some 4), none, .mv (.k (.c (.slice none 0 0)))⟩,
     ⟨(some 5), none, .mv (.k (.c (.slice none 0 0)))⟩,
     ⟨(some 6), none, .mv (.k (.c (.int .i64 9)))⟩])
   .ret)
  .skip))
  (.seq (.seq (.region false [
    ⟨(some 18), none, .load 4 true (.t 2)⟩,
    ⟨(some 19), none, .call 98 [.t 18]⟩,
    ⟨(some 20), none, .len (.t 19)⟩,
    ⟨(some 21), none, .mv (.k (.c (.int .i64 0)))⟩])
  (.block 0
  (.loop
   (.seq (.region false [
      ⟨(some 22), none, .ibin .lss .i64 (.t 21) (.t 20)⟩])
    (.seq (.cond (.t 22)
    .skip
    (.exit 0))
    (.seq (.block 1
    (.seq (.region false [
       ⟨(some 23), none, .iaddr 6 (.t 19) (.t 21)⟩,
       ⟨(some 24), none, .load 6 true (.t 23)⟩,
       ⟨(some 9), none, .alloc [.c (.string ⟨#[]⟩), .c (.string ⟨#[]⟩), .c (.int .i64 0), .c (.int .i64 0), .c (.int .i64 0), .c (.bool false)]⟩,
       ⟨none, none, .store 6 (.t 9) (.t 24)⟩])
     (.seq (.seq (.region false [
       ⟨(some 25), none, .faddr 3 (.t 9)⟩,
       ⟨(some 26), none, .load 1 false (.t 25)⟩,
       ⟨(some 27), none, .mv (.t 1)⟩,
       ⟨(some 28), none, .ibin .eql .i64 (.t 26) (.t 27)⟩])
     (.cond (.t 28)
     (.region false [
        ⟨(some 29), none, .mv (.t 4)⟩,
        ⟨(some 30), none, .load 6 true (.t 9)⟩,
        ⟨(some 31), none, .bslice 6 [.c (.string ⟨#[]⟩), .c (.string ⟨#[]⟩), .c (.int .i64 0), .c (.int .i64 0), .c (.int .i64 0), .c (.bool false)] 1 [(0, .t 30)]⟩,
        ⟨(some 32), none, .app 6 64 [.c (.string ⟨#[]⟩), .c (.string ⟨#[]⟩), .c (.int .i64 0), .c (.int .i64 0), .c (.int .i64 0), .c (.bool false)] (.t 29) (.t 31)⟩,
        ⟨(some 4), none, .mv (.t 32)⟩])
     .skip))
     (.seq (.region false [
       ⟨(some 33), none, .faddr 4 (.t 9)⟩,
       ⟨(some 34), none, .load 1 false (.t 33)⟩,
       ⟨(some 35), none, .mv (.t 1)⟩,
       ⟨(some 36), none, .ibin .eql .i64 (.t 34) (.t 35)⟩,
       ⟨(some 37), none, .mv (.t 36)⟩,
       ⟨(some 38), (some (37, true)), .faddr 5 (.t 9)⟩,
       ⟨(some 39), (some (37, true)), .load 1 false (.t 38)⟩,
       ⟨(some 40), (some (37, true)), .not (.t 39)⟩,
       ⟨(some 41), none, .pick (.t 37) (.t 40) (.k (.c (.bool false)))⟩])
     (.cond (.t 41)
     (.region false [
        ⟨(some 42), none, .mv (.t 5)⟩,
        ⟨(some 43), none, .load 6 true (.t 9)⟩,
        ⟨(some 44), none, .bslice 6 [.c (.string ⟨#[]⟩), .c (.string ⟨#[]⟩), .c (.int .i64 0), .c (.int .i64 0), .c (.int .i64 0), .c (.bool false)] 1 [(0, .t 43)]⟩,
        ⟨(some 45), none, .app 6 64 [.c (.string ⟨#[]⟩), .c (.string ⟨#[]⟩), .c (.int .i64 0), .c (.int .i64 0), .c (.int .i64 0), .c (.bool false)] (.t 42) (.t 44)⟩,
        ⟨(some 5), none, .mv (.t 45)⟩])
     .skip)))))
    (.region false [
      ⟨(some 46), none, .ibin .add .i64 (.t 21) (.k (.c (.int .i64 1)))⟩,
      ⟨(some 21), none, .mv (.t 46)⟩])))))))
  (.seq (.region false [
    ⟨(some 47), none, .mv (.t 4)⟩,
    ⟨(some 48), none, .mv (.t 5)⟩,
    ⟨(some 4), none, .mv (.t 47)⟩,
    ⟨(some 5), none, .mv (.t 48)⟩,
    ⟨(some 6), none, .mv (.k (.c (.int .i64 0)))⟩])
  .ret))))) }
theorem rc41_ok : lowF Try.prog 41 = some rc41 := by kernel_rfl
def rc42 : RFun := { nt := 49, np := 2, res := [.t 4, .t 5, .t 6], code :=
  (.seq (.region false [
    ⟨(some 2), none, .box 4 (.t 0)⟩,
    ⟨(some 4), none, .mv (.k (.c (.slice none 0 0)))⟩,
    ⟨(some 5), none, .mv (.k (.c (.slice none 0 0)))⟩,
    ⟨(some 6), none, .mv (.k (.c (.int .i64 0)))⟩])
  (.seq (.seq (.region false [
    ⟨(some 10), none, .load 4 true (.t 2)⟩,
    ⟨(some 11), none, .call 36 [.t 10]⟩,
    ⟨(some 7), none, .mv (.t 11)⟩])
  (.seq (.region false [
    ⟨(some 12), none, .mv (.t 7)⟩,
    ⟨(some 13), none, .ibin .neq .i64 (.t 12) (.k (.c (.int .i64 0)))⟩])
  (.cond (.t 13)
  (.seq (.region false [
     ⟨(some 14), none, .mv (.t 7)⟩,
     ⟨(some 4), none, .mv (.k (.c (.slice none 0 0)))⟩,
     ⟨(some 5), none, .mv (.k (.c (.slice none 0 0)))⟩,
     ⟨(some 6), none, .mv (.t 14)⟩])
   .ret)
  .skip)))
  (.seq (.seq (.region false [
    ⟨(some 15), none, .mv (.t 1)⟩,
    ⟨(some 16), none, .call 72 [.t 15]⟩,
    ⟨(some 17), none, .not (.t 16)⟩])
  (.cond (.t 17)
  (.seq (.region false [
     ⟨(some 4), none, .mv (.k (.c (.slice none 0 0)))⟩,
     ⟨(some 5), none, .mv (.k (.c (.slice none 0 0)))⟩,
     ⟨(some 6), none, .mv (.k (.c (.int .i64 9)))⟩])
   .ret)
  .skip))
  (.seq (.seq (.region false [
    ⟨(some 18), none, .load 4 true (.t 2)⟩,
    ⟨(some 19), none, .call 99 [.t 18]⟩,
    ⟨(some 20), none, .len (.t 19)⟩,
    ⟨(some 21), none, .mv (.k (.c (.int .i64 0)))⟩])
  (.block 0
  (.loop
   (.seq (.region false [
      ⟨(some 22), none, .ibin .lss .i64 (.t 21) (.t 20)⟩])
    (.seq (.cond (.t 22)
    .skip
    (.exit 0))
    (.seq (.block 1
    (.seq (.region false [
       ⟨(some 23), none, .iaddr 6 (.t 19) (.t 21)⟩,
       ⟨(some 24), none, .load 6 true (.t 23)⟩,
       ⟨(some 9), none, .alloc [.c (.string ⟨#[]⟩), .c (.string ⟨#[]⟩), .c (.int .i64 0), .c (.int .i64 0), .c (.int .i64 0), .c (.bool false)]⟩,
       ⟨none, none, .store 6 (.t 9) (.t 24)⟩])
     (.seq (.seq (.region false [
       ⟨(some 25), none, .faddr 3 (.t 9)⟩,
       ⟨(some 26), none, .load 1 false (.t 25)⟩,
       ⟨(some 27), none, .mv (.t 1)⟩,
       ⟨(some 28), none, .ibin .eql .i64 (.t 26) (.t 27)⟩])
     (.cond (.t 28)
     (.region false [
        ⟨(some 29), none, .mv (.t 4)⟩,
        ⟨(some 30), none, .load 6 true (.t 9)⟩,
        ⟨(some 31), none, .bslice 6 [.c (.string ⟨#[]⟩), .c (.string ⟨#[]⟩), .c (.int .i64 0), .c (.int .i64 0), .c (.int .i64 0), .c (.bool false)] 1 [(0, .t 30)]⟩,
        ⟨(some 32), none, .app 6 64 [.c (.string ⟨#[]⟩), .c (.string ⟨#[]⟩), .c (.int .i64 0), .c (.int .i64 0), .c (.int .i64 0), .c (.bool false)] (.t 29) (.t 31)⟩,
        ⟨(some 4), none, .mv (.t 32)⟩])
     .skip))
     (.seq (.region false [
       ⟨(some 33), none, .faddr 4 (.t 9)⟩,
       ⟨(some 34), none, .load 1 false (.t 33)⟩,
       ⟨(some 35), none, .mv (.t 1)⟩,
       ⟨(some 36), none, .ibin .eql .i64 (.t 34) (.t 35)⟩,
       ⟨(some 37), none, .mv (.t 36)⟩,
       ⟨(some 38), (some (37, true)), .faddr 5 (.t 9)⟩,
       ⟨(some 39), (some (37, true)), .load 1 false (.t 38)⟩,
       ⟨(some 40), (some (37, true)), .not (.t 39)⟩,
       ⟨(some 41), none, .pick (.t 37) (.t 40) (.k (.c (.bool false)))⟩])
     (.cond (.t 41)
     (.region false [
        ⟨(some 42), none, .mv (.t 5)⟩,
        ⟨(some 43), none, .load 6 true (.t 9)⟩,
        ⟨(some 44), none, .bslice 6 [.c (.string ⟨#[]⟩), .c (.string ⟨#[]⟩), .c (.int .i64 0), .c (.int .i64 0), .c (.int .i64 0), .c (.bool false)] 1 [(0, .t 43)]⟩,
        ⟨(some 45), none, .app 6 64 [.c (.string ⟨#[]⟩), .c (.string ⟨#[]⟩), .c (.int .i64 0), .c (.int .i64 0), .c (.int .i64 0), .c (.bool false)] (.t 42) (.t 44)⟩,
        ⟨(some 5), none, .mv (.t 45)⟩])
     .skip)))))
    (.region false [
      ⟨(some 46), none, .ibin .add .i64 (.t 21) (.k (.c (.int .i64 1)))⟩,
      ⟨(some 21), none, .mv (.t 46)⟩])))))))
  (.seq (.region false [
    ⟨(some 47), none, .mv (.t 4)⟩,
    ⟨(some 48), none, .mv (.t 5)⟩,
    ⟨(some 4), none, .mv (.t 47)⟩,
    ⟨(some 5), none, .mv (.t 48)⟩,
    ⟨(some 6), none, .mv (.k (.c (.int .i64 0)))⟩])
  .ret))))) }
theorem rc42_ok : lowF Try.prog 42 = some rc42 := by kernel_rfl
def rc9 : RFun := { nt := 41, np := 2, res := [.t 4], code :=
  (.seq (.region false [
    ⟨(some 2), none, .box 4 (.t 0)⟩,
    ⟨(some 4), none, .mv (.k (.c (.bool false)))⟩])
  (.seq (.region false [
    ⟨(some 12), none, .load 4 true (.t 2)⟩,
    ⟨(some 13), none, .mv (.t 1)⟩,
    ⟨(some 14), none, .call 41 [.t 12, .t 13]⟩,
    ⟨(some 11), none, .mv (.t 14)⟩,
    ⟨(some 15), none, .ext 0 (.t 11)⟩,
    ⟨(some 16), none, .ext 1 (.t 11)⟩,
    ⟨(some 17), none, .ext 2 (.t 11)⟩,
    ⟨(some 5), none, .mv (.t 15)⟩,
    ⟨(some 6), none, .mv (.t 16)⟩,
    ⟨(some 7), none, .mv (.t 17)⟩])
  (.seq (.region false [
    ⟨(some 19), none, .load 4 true (.t 2)⟩,
    ⟨(some 20), none, .mv (.t 1)⟩,
    ⟨(some 21), none, .call 42 [.t 19, .t 20]⟩,
    ⟨(some 18), none, .mv (.t 21)⟩,
    ⟨(some 22), none, .ext 0 (.t 18)⟩,
    ⟨(some 23), none, .ext 1 (.t 18)⟩,
    ⟨(some 24), none, .ext 2 (.t 18)⟩,
    ⟨(some 8), none, .mv (.t 22)⟩,
    ⟨(some 9), none, .mv (.t 23)⟩,
    ⟨(some 10), none, .mv (.t 24)⟩])
  (.seq (.region false [
    ⟨(some 25), none, .mv (.t 8)⟩,
    ⟨(some 26), none, .mv (.t 5)⟩,
    ⟨(some 27), none, .call 40 [.t 25, .t 26]⟩,
    ⟨(some 28), none, .mv (.t 27)⟩,
    ⟨(some 29), (some (28, true)), .mv (.t 9)⟩,
    ⟨(some 30), (some (28, true)), .mv (.t 6)⟩,
    ⟨(some 31), (some (28, true)), .call 40 [.t 29, .t 30]⟩,
    ⟨(some 32), none, .pick (.t 28) (.t 31) (.k (.c (.bool false)))⟩,
    ⟨(some 33), none, .mv (.t 32)⟩,
    ⟨(some 34), (some (33, true)), .mv (.t 10)⟩,
    ⟨(some 35), (some (33, true)), .mv (.t 7)⟩,
    ⟨(some 36), (some (33, true)), .ibin .eql .i64 (.t 34) (.t 35)⟩,
    ⟨(some 37), none, .pick (.t 33) (.t 36) (.k (.c (.bool false)))⟩,
    ⟨(some 38), none, .mv (.t 37)⟩,
    ⟨(some 39), (some (38, true)), .call 23 []⟩,
    ⟨(some 40), none, .pick (.t 38) (.t 39) (.k (.c (.bool false)))⟩,
    ⟨(some 4), none, .mv (.t 40)⟩])
  .ret)))) }
theorem rc9_ok : lowF Try.prog 9 = some rc9 := by kernel_rfl
end Go.Abs
