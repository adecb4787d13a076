/-
  The closed run that the law ends with (a small bill,a few work days),reckoned:the functions' code in its resolved form (printed by a program of this repo),and what comes out.
-/
import Derived.Test.YtiohnbmhmhljbaaGreatDoorM4
import Derived.Test.YtiohnbmhmhljbaaGreatDoorProg
import Derived.Shelf.Small.Strs
namespace Go.Abs
open Go Go.Proofs Go.Shelf
set_option maxRecDepth 100000
def rf6:RFun:= { nt:=35,np:=0,res:= [.t 0],code :=
  (.seq (.region false [
    ⟨(some 0),none,.mv (.k (.c (.bool false)))⟩])
  (.seq (.region false [
    ⟨(some 6),none,.build [.c (.string ⟨#[]⟩),.c (.string ⟨#[]⟩),.c (.string ⟨#[]⟩),.c (.string ⟨#[]⟩),.c (.slice none 0 0),.c (.string ⟨#[]⟩)] [(0,1,.k (.c (.string ⟨#[112,108,97,105,110]⟩))),(2,1,.k (.c (.string ⟨#[97]⟩)))]⟩,
    ⟨(some 7),none,.build [.c (.string ⟨#[]⟩),.c (.string ⟨#[]⟩),.c (.string ⟨#[]⟩),.c (.string ⟨#[]⟩),.c (.string ⟨#[]⟩),.c (.slice none 0 0),.c (.string ⟨#[]⟩),.c (.slice none 0 0),.c (.string ⟨#[]⟩),.c (.slice none 0 0)] [(0,1,.k (.c (.string ⟨#[97]⟩))),(1,6,.t 6)]⟩,
    ⟨(some 8),none,.bslice 10 [.c (.string ⟨#[]⟩),.c (.string ⟨#[]⟩),.c (.string ⟨#[]⟩),.c (.string ⟨#[]⟩),.c (.string ⟨#[]⟩),.c (.slice none 0 0),.c (.string ⟨#[]⟩),.c (.slice none 0 0),.c (.string ⟨#[]⟩),.c (.slice none 0 0)] 1 [(0,.t 7)]⟩,
    ⟨(some 9),none,.build [.c (.string ⟨#[]⟩),.c (.string ⟨#[]⟩),.c (.string ⟨#[]⟩),.c (.slice none 0 0),.c (.slice none 0 0)] [(0,1,.k (.c (.string ⟨#[120]⟩))),(2,1,.k (.c (.string ⟨#[97]⟩))),(3,1,.t 8)]⟩,
    ⟨(some 1),none,.alloc [.c (.string ⟨#[]⟩),.c (.string ⟨#[]⟩),.c (.string ⟨#[]⟩),.c (.slice none 0 0),.c (.slice none 0 0)]⟩,
    ⟨none,none,.store 5 (.t 1) (.t 9)⟩])
  (.seq (.region false [
    ⟨(some 11),none,.load 5 true (.t 1)⟩,
    ⟨(some 12),none,.call 18 [.t 11,.k (.c (.int .i64 4))]⟩,
    ⟨(some 10),none,.mv (.t 12)⟩,
    ⟨(some 13),none,.ext 0 (.t 10)⟩,
    ⟨(some 14),none,.ext 1 (.t 10)⟩,
    ⟨(some 2),none,.mv (.t 13)⟩,
    ⟨(some 3),none,.mv (.t 14)⟩])
  (.seq (.region false [
    ⟨(some 16),none,.build [.c (.slice none 0 0),.c (.slice none 0 0)] []⟩,
    ⟨(some 17),none,.call 19 [.t 16,.k (.c (.int .i64 0)),.k (.c (.int .i64 3))]⟩,
    ⟨(some 15),none,.mv (.t 17)⟩,
    ⟨(some 18),none,.ext 0 (.t 15)⟩,
    ⟨(some 19),none,.ext 1 (.t 15)⟩,
    ⟨(some 4),none,.mv (.t 18)⟩,
    ⟨(some 5),none,.mv (.t 19)⟩])
  (.seq (.region false [
    ⟨(some 20),none,.mv (.t 3)⟩,
    ⟨(some 21),none,.ibin .eql .i64 (.t 20) (.k (.c (.int .i64 0)))⟩,
    ⟨(some 22),none,.mv (.t 21)⟩,
    ⟨(some 23),(some (22,true)),.mv (.t 2)⟩,
    ⟨(some 24),(some (22,true)),.len (.t 23)⟩,
    ⟨(some 25),(some (22,true)),.ibin .eql .i64 (.t 24) (.k (.c (.int .i64 1)))⟩,
    ⟨(some 26),none,.pick (.t 22) (.t 25) (.k (.c (.bool false)))⟩,
    ⟨(some 27),none,.mv (.t 26)⟩,
    ⟨(some 28),(some (27,true)),.mv (.t 5)⟩,
    ⟨(some 29),(some (27,true)),.ibin .eql .i64 (.t 28) (.k (.c (.int .i64 0)))⟩,
    ⟨(some 30),none,.pick (.t 27) (.t 29) (.k (.c (.bool false)))⟩,
    ⟨(some 31),none,.mv (.t 30)⟩,
    ⟨(some 32),(some (31,true)),.mv (.t 4)⟩,
    ⟨(some 33),(some (31,true)),.ibin .eql .i64 (.t 32) (.k (.c (.int .i64 3)))⟩,
    ⟨(some 34),none,.pick (.t 31) (.t 33) (.k (.c (.bool false)))⟩,
    ⟨(some 0),none,.mv (.t 34)⟩])
  .ret)))))}
theorem rf6_ok:lowF Tryz.prog 6=some rf6:=by kernel_rfl
def rf15:RFun:= { nt:=9,np:=1,res:= [.t 2],code :=
  (.seq (.region false [
    ⟨(some 2),none,.mv (.k (.c (.bool false)))⟩])
  (.seq (.region false [
    ⟨(some 3),none,.mv (.t 0)⟩,
    ⟨(some 4),none,.ibin .geq .i64 (.t 3) (.k (.c (.int .i64 0)))⟩,
    ⟨(some 5),none,.mv (.t 4)⟩,
    ⟨(some 6),(some (5,true)),.mv (.t 0)⟩,
    ⟨(some 7),(some (5,true)),.ibin .leq .i64 (.t 6) (.k (.c (.int .i64 1000000)))⟩,
    ⟨(some 8),none,.pick (.t 5) (.t 7) (.k (.c (.bool false)))⟩,
    ⟨(some 2),none,.mv (.t 8)⟩])
  .ret))}
theorem rf15_ok:lowF Tryz.prog 15=some rf15:=by kernel_rfl
def rf18:RFun:= { nt:=25,np:=2,res:= [.t 4,.t 5],code :=
  (.seq (.region false [
    ⟨(some 2),none,.box 5 (.t 0)⟩,
    ⟨(some 4),none,.mv (.k (.c (.slice none 0 0)))⟩,
    ⟨(some 5),none,.mv (.k (.c (.int .i64 0)))⟩])
  (.seq (.region false [
    ⟨(some 9),none,.load 5 true (.t 2)⟩,
    ⟨(some 10),none,.mv (.t 1)⟩,
    ⟨(some 11),none,.call 33 [.t 9,.t 10]⟩,
    ⟨(some 8),none,.mv (.t 11)⟩,
    ⟨(some 12),none,.ext 0 (.t 8)⟩,
    ⟨(some 13),none,.ext 1 (.t 8)⟩,
    ⟨(some 6),none,.alloc [.c (.string ⟨#[]⟩),.c (.string ⟨#[]⟩),.c (.string ⟨#[]⟩),.c (.slice none 0 0),.c (.slice none 0 0),.c (.int .i64 0),.c (.slice none 0 0),.c (.slice none 0 0)]⟩,
    ⟨none,none,.store 8 (.t 6) (.t 12)⟩,
    ⟨(some 7),none,.mv (.t 13)⟩])
  (.seq (.seq (.region false [
    ⟨(some 14),none,.mv (.t 7)⟩,
    ⟨(some 15),none,.ibin .neq .i64 (.t 14) (.k (.c (.int .i64 0)))⟩])
  (.cond (.t 15)
  (.seq (.region false [
     ⟨(some 16),none,.mv (.t 7)⟩,
     ⟨(some 4),none,.mv (.k (.c (.slice none 0 0)))⟩,
     ⟨(some 5),none,.mv (.t 16)⟩])
   .ret)
  .skip))
  (.seq (.region true [
    ⟨(some 17),none,.load 8 true (.t 6)⟩,
    ⟨(some 18),none,.faddr 6 (.t 6)⟩,
    ⟨(some 19),none,.load 1 false (.t 18)⟩,
    ⟨(some 20),none,.faddr 5 (.t 6)⟩,
    ⟨(some 21),none,.load 1 false (.t 20)⟩,
    ⟨(some 22),none,.call 36 [.t 19,.t 21,.k (.c (.int .i64 (-1)))]⟩,
    ⟨(some 23),none,.call 35 [.t 22]⟩,
    ⟨(some 24),none,.call 34 [.t 17,.t 23]⟩,
    ⟨(some 4),none,.mv (.t 24)⟩,
    ⟨(some 5),none,.mv (.k (.c (.int .i64 0)))⟩])
  .ret))))}
theorem rf18_ok:lowF Tryz.prog 18=some rf18:=by kernel_rfl
def rf19:RFun:= { nt:=37,np:=3,res:= [.t 6,.t 7],code :=
  (.seq (.region false [
    ⟨(some 3),none,.box 2 (.t 0)⟩,
    ⟨(some 6),none,.mv (.k (.c (.int .i64 0)))⟩,
    ⟨(some 7),none,.mv (.k (.c (.int .i64 0)))⟩])
  (.seq (.seq (.region false [
    ⟨(some 10),none,.load 2 true (.t 3)⟩,
    ⟨(some 11),none,.call 37 [.t 10]⟩,
    ⟨(some 8),none,.mv (.t 11)⟩])
  (.seq (.region false [
    ⟨(some 12),none,.mv (.t 8)⟩,
    ⟨(some 13),none,.ibin .neq .i64 (.t 12) (.k (.c (.int .i64 0)))⟩])
  (.cond (.t 13)
  (.seq (.region false [
     ⟨(some 14),none,.mv (.t 8)⟩,
     ⟨(some 6),none,.mv (.k (.c (.int .i64 0)))⟩,
     ⟨(some 7),none,.mv (.t 14)⟩])
   .ret)
  .skip)))
  (.seq (.seq (.region false [
    ⟨(some 15),none,.mv (.t 1)⟩,
    ⟨(some 16),none,.call 15 [.t 15]⟩,
    ⟨(some 17),none,.not (.t 16)⟩,
    ⟨(some 18),none,.mv (.t 17)⟩,
    ⟨(some 19),(some (18,false)),.mv (.t 2)⟩,
    ⟨(some 20),(some (18,false)),.call 15 [.t 19]⟩,
    ⟨(some 21),(some (18,false)),.not (.t 20)⟩,
    ⟨(some 22),none,.pick (.t 18) (.k (.c (.bool true))) (.t 21)⟩,
    ⟨(some 23),none,.mv (.t 22)⟩,
    ⟨(some 24),(some (23,false)),.mv (.t 1)⟩,
    ⟨(some 25),(some (23,false)),.mv (.t 2)⟩,
    ⟨(some 26),(some (23,false)),.ibin .gtr .i64 (.t 24) (.t 25)⟩,
    ⟨(some 27),none,.pick (.t 23) (.k (.c (.bool true))) (.t 26)⟩])
  (.cond (.t 27)
  (.seq (.region false [
     ⟨(some 6),none,.mv (.k (.c (.int .i64 0)))⟩,
     ⟨(some 7),none,.mv (.k (.c (.int .i64 9)))⟩])
   .ret)
  .skip))
  (.seq (.region false [
    ⟨(some 28),none,.load 2 true (.t 3)⟩,
    ⟨(some 29),none,.call 38 [.t 28]⟩,
    ⟨(some 9),none,.alloc [.c (.bool false),.c (.bool false),.c (.bool false),.c (.bool false),.c (.bool false),.c (.bool false),.c (.bool false),.c (.int .i64 0),.c (.slice none 0 0)]⟩,
    ⟨none,none,.store 9 (.t 9) (.t 29)⟩])
  (.seq (.region true [
    ⟨(some 30),none,.load 9 true (.t 9)⟩,
    ⟨(some 31),none,.mv (.t 2)⟩,
    ⟨(some 32),none,.call 39 [.t 30,.t 31]⟩,
    ⟨(some 33),none,.load 9 true (.t 9)⟩,
    ⟨(some 34),none,.mv (.t 1)⟩,
    ⟨(some 35),none,.call 39 [.t 33,.t 34]⟩,
    ⟨(some 36),none,.ibin .sub .i64 (.t 32) (.t 35)⟩,
    ⟨(some 6),none,.mv (.t 36)⟩,
    ⟨(some 7),none,.mv (.k (.c (.int .i64 0)))⟩])
  .ret)))))}
theorem rf19_ok:lowF Tryz.prog 19=some rf19:=by kernel_rfl
def rf33:RFun:= { nt:=23,np:=2,res:= [.c 4 8 true,.t 5],code :=
  (.seq (.region false [
    ⟨(some 2),none,.box 5 (.t 0)⟩,
    ⟨(some 4),none,.alloc [.c (.string ⟨#[]⟩),.c (.string ⟨#[]⟩),.c (.string ⟨#[]⟩),.c (.slice none 0 0),.c (.slice none 0 0),.c (.int .i64 0),.c (.slice none 0 0),.c (.slice none 0 0)]⟩,
    ⟨(some 5),none,.mv (.k (.c (.int .i64 0)))⟩])
  (.seq (.seq (.region false [
    ⟨(some 7),none,.load 5 true (.t 2)⟩,
    ⟨(some 8),none,.call 49 [.t 7]⟩,
    ⟨(some 6),none,.mv (.t 8)⟩])
  (.seq (.region false [
    ⟨(some 9),none,.mv (.t 6)⟩,
    ⟨(some 10),none,.ibin .neq .i64 (.t 9) (.k (.c (.int .i64 0)))⟩])
  (.cond (.t 10)
  (.seq (.region false [
     ⟨(some 11),none,.build [.c (.string ⟨#[]⟩),.c (.string ⟨#[]⟩),.c (.string ⟨#[]⟩),.c (.slice none 0 0),.c (.slice none 0 0),.c (.int .i64 0),.c (.slice none 0 0),.c (.slice none 0 0)] []⟩,
     ⟨(some 12),none,.mv (.t 6)⟩,
     ⟨none,none,.store 8 (.t 4) (.t 11)⟩,
     ⟨(some 5),none,.mv (.t 12)⟩])
   .ret)
  .skip)))
  (.seq (.seq (.region false [
    ⟨(some 13),none,.mv (.t 1)⟩,
    ⟨(some 14),none,.ibin .lss .i64 (.t 13) (.k (.c (.int .i64 1)))⟩,
    ⟨(some 15),none,.mv (.t 14)⟩,
    ⟨(some 16),(some (15,false)),.mv (.t 1)⟩,
    ⟨(some 17),(some (15,false)),.ibin .gtr .i64 (.t 16) (.k (.c (.int .i64 4)))⟩,
    ⟨(some 18),none,.pick (.t 15) (.k (.c (.bool true))) (.t 17)⟩])
  (.cond (.t 18)
  (.seq (.region false [
     ⟨(some 19),none,.build [.c (.string ⟨#[]⟩),.c (.string ⟨#[]⟩),.c (.string ⟨#[]⟩),.c (.slice none 0 0),.c (.slice none 0 0),.c (.int .i64 0),.c (.slice none 0 0),.c (.slice none 0 0)] []⟩,
     ⟨none,none,.store 8 (.t 4) (.t 19)⟩,
     ⟨(some 5),none,.mv (.k (.c (.int .i64 9)))⟩])
   .ret)
  .skip))
  (.seq (.region false [
    ⟨(some 20),none,.load 5 true (.t 2)⟩,
    ⟨(some 21),none,.mv (.t 1)⟩,
    ⟨(some 22),none,.call 50 [.t 20,.t 21]⟩,
    ⟨none,none,.store 8 (.t 4) (.t 22)⟩,
    ⟨(some 5),none,.mv (.k (.c (.int .i64 0)))⟩])
  .ret))))}
theorem rf33_ok:lowF Tryz.prog 33=some rf33:=by kernel_rfl
def rf34:RFun:= { nt:=26,np:=2,res:= [.t 4],code :=
  (.seq (.region false [
    ⟨(some 2),none,.box 8 (.t 0)⟩,
    ⟨(some 4),none,.mv (.k (.c (.slice none 0 0)))⟩])
  (.seq (.region false [
    ⟨(some 5),none,.mv (.k (.c (.slice none 0 0)))⟩])
  (.seq (.seq (.region false [
    ⟨(some 8),none,.mv (.t 1)⟩,
    ⟨(some 9),none,.len (.t 8)⟩,
    ⟨(some 10),none,.mv (.k (.c (.int .i64 0)))⟩])
  (.block 0
  (.loop
   (.seq (.region false [
      ⟨(some 11),none,.ibin .lss .i64 (.t 10) (.t 9)⟩])
    (.seq (.cond (.t 11)
    .skip
    (.exit 0))
    (.seq (.block 1
    (.seq (.region false [
       ⟨(some 12),none,.iaddr 1 (.t 8) (.t 10)⟩,
       ⟨(some 13),none,.load 1 false (.t 12)⟩,
       ⟨(some 7),none,.mv (.t 13)⟩])
     (.region false [
       ⟨(some 14),none,.mv (.t 5)⟩,
       ⟨(some 15),none,.faddr 0 (.t 2)⟩,
       ⟨(some 16),none,.faddr 3 (.t 15)⟩,
       ⟨(some 17),none,.load 1 false (.t 16)⟩,
       ⟨(some 18),none,.mv (.t 7)⟩,
       ⟨(some 19),none,.iaddr 10 (.t 17) (.t 18)⟩,
       ⟨(some 20),none,.faddr 0 (.t 19)⟩,
       ⟨(some 21),none,.load 1 false (.t 20)⟩,
       ⟨(some 22),none,.bslice 1 [.c (.string ⟨#[]⟩)] 1 [(0,.t 21)]⟩,
       ⟨(some 23),none,.app 1 16 [.c (.string ⟨#[]⟩)] (.t 14) (.t 22)⟩,
       ⟨(some 5),none,.mv (.t 23)⟩])))
    (.region false [
      ⟨(some 24),none,.ibin .add .i64 (.t 10) (.k (.c (.int .i64 1)))⟩,
      ⟨(some 10),none,.mv (.t 24)⟩])))))))
  (.seq (.region false [
    ⟨(some 25),none,.mv (.t 5)⟩,
    ⟨(some 4),none,.mv (.t 25)⟩])
  .ret))))}
theorem rf34_ok:lowF Tryz.prog 34=some rf34:=by kernel_rfl
def rf35:RFun:= { nt:=21,np:=1,res:= [.t 2],code :=
  (.seq (.region false [
    ⟨(some 2),none,.mv (.k (.c (.slice none 0 0)))⟩])
  (.seq (.region false [
    ⟨(some 3),none,.mv (.k (.c (.slice none 0 0)))⟩])
  (.seq (.seq (.region false [
    ⟨(some 6),none,.mv (.t 0)⟩,
    ⟨(some 7),none,.len (.t 6)⟩,
    ⟨(some 8),none,.mv (.k (.c (.int .i64 0)))⟩])
  (.block 0
  (.loop
   (.seq (.region false [
      ⟨(some 9),none,.ibin .lss .i64 (.t 8) (.t 7)⟩])
    (.seq (.cond (.t 9)
    .skip
    (.exit 0))
    (.seq (.block 1
    (.seq (.region false [
       ⟨(some 10),none,.mv (.t 8)⟩,
       ⟨(some 11),none,.iaddr 1 (.t 6) (.t 8)⟩,
       ⟨(some 12),none,.load 1 false (.t 11)⟩,
       ⟨(some 4),none,.mv (.t 10)⟩,
       ⟨(some 5),none,.mv (.t 12)⟩])
     (.seq (.region false [
       ⟨(some 13),none,.mv (.t 5)⟩,
       ⟨(some 14),none,.ibin .geq .i64 (.t 13) (.k (.c (.int .i64 0)))⟩])
     (.cond (.t 14)
     (.region false [
        ⟨(some 15),none,.mv (.t 3)⟩,
        ⟨(some 16),none,.mv (.t 4)⟩,
        ⟨(some 17),none,.bslice 1 [.c (.int .i64 0)] 1 [(0,.t 16)]⟩,
        ⟨(some 18),none,.app 1 8 [.c (.int .i64 0)] (.t 15) (.t 17)⟩,
        ⟨(some 3),none,.mv (.t 18)⟩])
     .skip))))
    (.region false [
      ⟨(some 19),none,.ibin .add .i64 (.t 8) (.k (.c (.int .i64 1)))⟩,
      ⟨(some 8),none,.mv (.t 19)⟩])))))))
  (.seq (.region false [
    ⟨(some 20),none,.mv (.t 3)⟩,
    ⟨(some 2),none,.mv (.t 20)⟩])
  .ret))))}
theorem rf35_ok:lowF Tryz.prog 35=some rf35:=by kernel_rfl
def rf36:RFun:= { nt:=75,np:=3,res:= [.t 6],code :=
  (.seq (.region false [
    ⟨(some 6),none,.mv (.k (.c (.slice none 0 0)))⟩])
  (.seq (.region false [
    ⟨(some 13),none,.mv (.t 0)⟩,
    ⟨(some 14),none,.len (.t 13)⟩,
    ⟨(some 15),none,.mslice 1 8 [.c (.int .i64 0)] (.t 14) (.t 14)⟩,
    ⟨(some 7),none,.mv (.t 15)⟩])
  (.seq (.seq (.region false [
    ⟨(some 16),none,.mv (.t 7)⟩,
    ⟨(some 17),none,.len (.t 16)⟩,
    ⟨(some 18),none,.mv (.k (.c (.int .i64 0)))⟩])
  (.block 0
  (.loop
   (.seq (.region false [
      ⟨(some 19),none,.ibin .lss .i64 (.t 18) (.t 17)⟩])
    (.seq (.cond (.t 19)
    .skip
    (.exit 0))
    (.seq (.block 1
    (.seq (.region false [
       ⟨(some 20),none,.mv (.t 18)⟩,
       ⟨(some 8),none,.mv (.t 20)⟩])
     (.region false [
       ⟨(some 21),none,.mv (.t 7)⟩,
       ⟨(some 22),none,.mv (.t 8)⟩,
       ⟨(some 23),none,.iaddr 1 (.t 21) (.t 22)⟩,
       ⟨none,none,.store 1 (.t 23) (.k (.c (.int .i64 (-1))))⟩])))
    (.region false [
      ⟨(some 24),none,.ibin .add .i64 (.t 18) (.k (.c (.int .i64 1)))⟩,
      ⟨(some 18),none,.mv (.t 24)⟩])))))))
  (.seq (.seq (.region false [
    ⟨(some 25),none,.mv (.t 1)⟩,
    ⟨(some 26),none,.mv (.t 2)⟩,
    ⟨(some 27),none,.ibin .eql .i64 (.t 25) (.t 26)⟩])
  (.cond (.t 27)
  (.seq (.region false [
     ⟨(some 28),none,.mv (.t 7)⟩,
     ⟨(some 6),none,.mv (.t 28)⟩])
   .ret)
  .skip))
  (.seq (.region false [
    ⟨(some 29),none,.mv (.t 7)⟩,
    ⟨(some 30),none,.mv (.t 1)⟩,
    ⟨(some 31),none,.iaddr 1 (.t 29) (.t 30)⟩,
    ⟨none,none,.store 1 (.t 31) (.k (.c (.int .i64 0)))⟩])
  (.seq (.region false [
    ⟨(some 32),none,.mv (.t 1)⟩,
    ⟨(some 33),none,.bslice 1 [.c (.int .i64 0)] 1 [(0,.t 32)]⟩,
    ⟨(some 9),none,.mv (.t 33)⟩])
  (.seq (.block 2
  (.loop
   (.seq (.seq (.region false [
      ⟨(some 34),none,.mv (.t 9)⟩,
      ⟨(some 35),none,.len (.t 34)⟩,
      ⟨(some 36),none,.ibin .gtr .i64 (.t 35) (.k (.c (.int .i64 0)))⟩])
    (.cond (.t 36)
    .skip
    (.exit 2)))
    (.block 3
    (.seq (.region false [
       ⟨(some 37),none,.mv (.t 9)⟩,
       ⟨(some 38),none,.iaddr 1 (.t 37) (.k (.c (.int .i64 0)))⟩,
       ⟨(some 39),none,.load 1 false (.t 38)⟩,
       ⟨(some 10),none,.mv (.t 39)⟩])
     (.seq (.region false [
       ⟨(some 40),none,.mv (.t 9)⟩,
       ⟨(some 41),none,.lsl 1 (.t 40) (some (.k (.c (.int .i64 1)))) none⟩,
       ⟨(some 9),none,.mv (.t 41)⟩])
     (.seq (.region false [
       ⟨(some 42),none,.mv (.t 0)⟩,
       ⟨(some 43),none,.mv (.t 10)⟩,
       ⟨(some 44),none,.iaddr 1 (.t 42) (.t 43)⟩,
       ⟨(some 45),none,.load 1 false (.t 44)⟩,
       ⟨(some 46),none,.len (.t 45)⟩,
       ⟨(some 47),none,.mv (.k (.c (.int .i64 0)))⟩])
     (.block 4
     (.loop
      (.seq (.region false [
         ⟨(some 48),none,.ibin .lss .i64 (.t 47) (.t 46)⟩])
       (.seq (.cond (.t 48)
       .skip
       (.exit 4))
       (.seq (.block 5
       (.seq (.region false [
          ⟨(some 49),none,.iaddr 1 (.t 45) (.t 47)⟩,
          ⟨(some 50),none,.load 1 false (.t 49)⟩,
          ⟨(some 12),none,.mv (.t 50)⟩])
        (.seq (.region false [
          ⟨(some 51),none,.mv (.t 7)⟩,
          ⟨(some 52),none,.mv (.t 12)⟩,
          ⟨(some 53),none,.iaddr 1 (.t 51) (.t 52)⟩,
          ⟨(some 54),none,.load 1 false (.t 53)⟩,
          ⟨(some 55),none,.ibin .lss .i64 (.t 54) (.k (.c (.int .i64 0)))⟩,
          ⟨(some 56),none,.mv (.t 55)⟩,
          ⟨(some 57),(some (56,true)),.mv (.t 12)⟩,
          ⟨(some 58),(some (56,true)),.mv (.t 2)⟩,
          ⟨(some 59),(some (56,true)),.ibin .neq .i64 (.t 57) (.t 58)⟩,
          ⟨(some 60),none,.pick (.t 56) (.t 59) (.k (.c (.bool false)))⟩])
        (.cond (.t 60)
        (.seq (.region false [
           ⟨(some 61),none,.mv (.t 7)⟩,
           ⟨(some 62),none,.mv (.t 12)⟩,
           ⟨(some 63),none,.mv (.t 7)⟩,
           ⟨(some 64),none,.mv (.t 10)⟩,
           ⟨(some 65),none,.iaddr 1 (.t 63) (.t 64)⟩,
           ⟨(some 66),none,.load 1 false (.t 65)⟩,
           ⟨(some 67),none,.ibin .add .i64 (.t 66) (.k (.c (.int .i64 1)))⟩,
           ⟨(some 68),none,.iaddr 1 (.t 61) (.t 62)⟩,
           ⟨none,none,.store 1 (.t 68) (.t 67)⟩])
         (.region false [
           ⟨(some 69),none,.mv (.t 9)⟩,
           ⟨(some 70),none,.mv (.t 12)⟩,
           ⟨(some 71),none,.bslice 1 [.c (.int .i64 0)] 1 [(0,.t 70)]⟩,
           ⟨(some 72),none,.app 1 8 [.c (.int .i64 0)] (.t 69) (.t 71)⟩,
           ⟨(some 9),none,.mv (.t 72)⟩]))
        .skip))))
       (.region false [
         ⟨(some 73),none,.ibin .add .i64 (.t 47) (.k (.c (.int .i64 1)))⟩,
         ⟨(some 47),none,.mv (.t 73)⟩])))))))))))))
  (.seq (.region false [
    ⟨(some 74),none,.mv (.t 7)⟩,
    ⟨(some 6),none,.mv (.t 74)⟩])
  .ret))))))))}
theorem rf36_ok:lowF Tryz.prog 36=some rf36:=by kernel_rfl
def rf37:RFun:= { nt:=23,np:=1,res:= [.t 2],code :=
  (.seq (.region false [
    ⟨(some 1),none,.box 2 (.t 0)⟩,
    ⟨(some 2),none,.mv (.k (.c (.int .i64 0)))⟩])
  (.seq (.seq (.region false [
    ⟨(some 4),none,.faddr 0 (.t 1)⟩,
    ⟨(some 5),none,.load 1 false (.t 4)⟩,
    ⟨(some 6),none,.len (.t 5)⟩,
    ⟨(some 7),none,.ibin .gtr .i64 (.t 6) (.k (.c (.int .i64 6)))⟩,
    ⟨(some 8),none,.mv (.t 7)⟩,
    ⟨(some 9),(some (8,false)),.faddr 1 (.t 1)⟩,
    ⟨(some 10),(some (8,false)),.load 1 false (.t 9)⟩,
    ⟨(some 11),(some (8,false)),.len (.t 10)⟩,
    ⟨(some 12),(some (8,false)),.ibin .gtr .i64 (.t 11) (.k (.c (.int .i64 2000)))⟩,
    ⟨(some 13),none,.pick (.t 8) (.k (.c (.bool true))) (.t 12)⟩])
  (.cond (.t 13)
  (.seq (.region false [
     ⟨(some 2),none,.mv (.k (.c (.int .i64 3)))⟩])
   .ret)
  .skip))
  (.seq (.seq (.region false [
    ⟨(some 14),none,.faddr 0 (.t 1)⟩,
    ⟨(some 15),none,.load 1 false (.t 14)⟩,
    ⟨(some 16),none,.call 51 [.t 15,.k (.c (.int .i64 6))]⟩,
    ⟨(some 3),none,.mv (.t 16)⟩])
  (.seq (.region false [
    ⟨(some 17),none,.mv (.t 3)⟩,
    ⟨(some 18),none,.ibin .neq .i64 (.t 17) (.k (.c (.int .i64 0)))⟩])
  (.cond (.t 18)
  (.seq (.region false [
     ⟨(some 19),none,.mv (.t 3)⟩,
     ⟨(some 2),none,.mv (.t 19)⟩])
   .ret)
  .skip)))
  (.seq (.region false [
    ⟨(some 20),none,.faddr 1 (.t 1)⟩,
    ⟨(some 21),none,.load 1 false (.t 20)⟩,
    ⟨(some 22),none,.call 51 [.t 21,.k (.c (.int .i64 1000000))]⟩,
    ⟨(some 2),none,.mv (.t 22)⟩])
  .ret))))}
theorem rf37_ok:lowF Tryz.prog 37=some rf37:=by kernel_rfl
def rf38:RFun:= { nt:=45,np:=1,res:= [.c 2 9 true],code :=
  (.seq (.region false [
    ⟨(some 1),none,.box 2 (.t 0)⟩,
    ⟨(some 2),none,.alloc [.c (.bool false),.c (.bool false),.c (.bool false),.c (.bool false),.c (.bool false),.c (.bool false),.c (.bool false),.c (.int .i64 0),.c (.slice none 0 0)]⟩])
  (.seq (.region false [
    ⟨(some 8),none,.faddr 0 (.t 1)⟩,
    ⟨(some 9),none,.load 1 false (.t 8)⟩,
    ⟨(some 10),none,.len (.t 9)⟩,
    ⟨(some 11),none,.ibin .sub .i64 (.k (.c (.int .i64 7))) (.t 10)⟩,
    ⟨(some 12),none,.build [.c (.bool false),.c (.bool false),.c (.bool false),.c (.bool false),.c (.bool false),.c (.bool false),.c (.bool false),.c (.int .i64 0),.c (.slice none 0 0)] [(7,1,.t 11)]⟩,
    ⟨(some 3),none,.alloc [.c (.bool false),.c (.bool false),.c (.bool false),.c (.bool false),.c (.bool false),.c (.bool false),.c (.bool false),.c (.int .i64 0),.c (.slice none 0 0)]⟩,
    ⟨none,none,.store 9 (.t 3) (.t 12)⟩])
  (.seq (.seq (.region false [
    ⟨(some 13),none,.faddr 0 (.t 1)⟩,
    ⟨(some 14),none,.load 1 false (.t 13)⟩,
    ⟨(some 15),none,.len (.t 14)⟩,
    ⟨(some 16),none,.mv (.k (.c (.int .i64 0)))⟩])
  (.block 0
  (.loop
   (.seq (.region false [
      ⟨(some 17),none,.ibin .lss .i64 (.t 16) (.t 15)⟩])
    (.seq (.cond (.t 17)
    .skip
    (.exit 0))
    (.seq (.block 1
    (.seq (.region false [
       ⟨(some 18),none,.iaddr 1 (.t 14) (.t 16)⟩,
       ⟨(some 19),none,.load 1 false (.t 18)⟩,
       ⟨(some 5),none,.mv (.t 19)⟩])
     (.region false [
       ⟨(some 20),none,.mv (.t 5)⟩,
       ⟨(some 21),none,.faddr 0 (.t 3)⟩,
       ⟨(some 22),none,.aaddr 7 1 (.t 21) (.t 20)⟩,
       ⟨none,none,.store 1 (.t 22) (.k (.c (.bool true)))⟩])))
    (.region false [
      ⟨(some 23),none,.ibin .add .i64 (.t 16) (.k (.c (.int .i64 1)))⟩,
      ⟨(some 16),none,.mv (.t 23)⟩])))))))
  (.seq (.seq (.region false [
    ⟨(some 24),none,.faddr 1 (.t 1)⟩,
    ⟨(some 25),none,.load 1 false (.t 24)⟩,
    ⟨(some 26),none,.len (.t 25)⟩,
    ⟨(some 27),none,.mv (.k (.c (.int .i64 0)))⟩])
  (.block 2
  (.loop
   (.seq (.region false [
      ⟨(some 28),none,.ibin .lss .i64 (.t 27) (.t 26)⟩])
    (.seq (.cond (.t 28)
    .skip
    (.exit 2))
    (.seq (.block 3
    (.seq (.region false [
       ⟨(some 29),none,.iaddr 1 (.t 25) (.t 27)⟩,
       ⟨(some 30),none,.load 1 false (.t 29)⟩,
       ⟨(some 7),none,.mv (.t 30)⟩])
     (.seq (.region false [
       ⟨(some 31),none,.mv (.t 7)⟩,
       ⟨(some 32),none,.ibin .rem .i64 (.t 31) (.k (.c (.int .i64 7)))⟩,
       ⟨(some 33),none,.faddr 0 (.t 3)⟩,
       ⟨(some 34),none,.aaddr 7 1 (.t 33) (.t 32)⟩,
       ⟨(some 35),none,.load 1 false (.t 34)⟩,
       ⟨(some 36),none,.not (.t 35)⟩])
     (.cond (.t 36)
     (.region false [
        ⟨(some 37),none,.faddr 8 (.t 3)⟩,
        ⟨(some 38),none,.load 1 false (.t 37)⟩,
        ⟨(some 39),none,.mv (.t 7)⟩,
        ⟨(some 40),none,.bslice 1 [.c (.int .i64 0)] 1 [(0,.t 39)]⟩,
        ⟨(some 41),none,.app 1 8 [.c (.int .i64 0)] (.t 38) (.t 40)⟩,
        ⟨(some 42),none,.faddr 8 (.t 3)⟩,
        ⟨none,none,.store 1 (.t 42) (.t 41)⟩])
     .skip))))
    (.region false [
      ⟨(some 43),none,.ibin .add .i64 (.t 27) (.k (.c (.int .i64 1)))⟩,
      ⟨(some 27),none,.mv (.t 43)⟩])))))))
  (.seq (.region false [
    ⟨(some 44),none,.load 9 true (.t 3)⟩,
    ⟨none,none,.store 9 (.t 2) (.t 44)⟩])
  .ret)))))}
theorem rf38_ok:lowF Tryz.prog 38=some rf38:=by kernel_rfl
def rf39:RFun:= { nt:=37,np:=2,res:= [.t 4],code :=
  (.seq (.region false [
    ⟨(some 2),none,.box 9 (.t 0)⟩,
    ⟨(some 4),none,.mv (.k (.c (.int .i64 0)))⟩])
  (.seq (.region false [
    ⟨(some 9),none,.mv (.t 1)⟩,
    ⟨(some 10),none,.ibin .quo .i64 (.t 9) (.k (.c (.int .i64 7)))⟩,
    ⟨(some 11),none,.faddr 7 (.t 2)⟩,
    ⟨(some 12),none,.load 1 false (.t 11)⟩,
    ⟨(some 13),none,.ibin .mul .i64 (.t 10) (.t 12)⟩,
    ⟨(some 5),none,.mv (.t 13)⟩])
  (.seq (.seq (.region false [
    ⟨(some 14),none,.mv (.t 1)⟩,
    ⟨(some 15),none,.ibin .rem .i64 (.t 14) (.k (.c (.int .i64 7)))⟩,
    ⟨(some 16),none,.mv (.k (.c (.int .i64 0)))⟩])
  (.block 0
  (.loop
   (.seq (.region false [
      ⟨(some 17),none,.ibin .lss .i64 (.t 16) (.t 15)⟩])
    (.seq (.cond (.t 17)
    .skip
    (.exit 0))
    (.seq (.block 1
    (.seq (.region false [
       ⟨(some 18),none,.mv (.t 16)⟩,
       ⟨(some 6),none,.mv (.t 18)⟩])
     (.seq (.region false [
       ⟨(some 19),none,.mv (.t 6)⟩,
       ⟨(some 20),none,.faddr 0 (.t 2)⟩,
       ⟨(some 21),none,.aaddr 7 1 (.t 20) (.t 19)⟩,
       ⟨(some 22),none,.load 1 false (.t 21)⟩,
       ⟨(some 23),none,.not (.t 22)⟩])
     (.cond (.t 23)
     (.region false [
        ⟨(some 24),none,.mv (.t 5)⟩,
        ⟨(some 25),none,.ibin .add .i64 (.t 24) (.k (.c (.int .i64 1)))⟩,
        ⟨(some 5),none,.mv (.t 25)⟩])
     .skip))))
    (.region false [
      ⟨(some 26),none,.ibin .add .i64 (.t 16) (.k (.c (.int .i64 1)))⟩,
      ⟨(some 16),none,.mv (.t 26)⟩])))))))
  (.seq (.region false [
    ⟨(some 28),none,.faddr 8 (.t 2)⟩,
    ⟨(some 29),none,.load 1 false (.t 28)⟩,
    ⟨(some 30),none,.mv (.t 1)⟩,
    ⟨(some 31),none,.call 52 [.t 29,.t 30]⟩,
    ⟨(some 27),none,.mv (.t 31)⟩,
    ⟨(some 32),none,.ext 0 (.t 27)⟩,
    ⟨(some 33),none,.ext 1 (.t 27)⟩,
    ⟨(some 7),none,.mv (.t 32)⟩,
    ⟨(some 8),none,.mv (.t 33)⟩])
  (.seq (.region false [
    ⟨(some 34),none,.mv (.t 5)⟩,
    ⟨(some 35),none,.mv (.t 7)⟩,
    ⟨(some 36),none,.ibin .sub .i64 (.t 34) (.t 35)⟩,
    ⟨(some 4),none,.mv (.t 36)⟩])
  .ret)))))}
theorem rf39_ok:lowF Tryz.prog 39=some rf39:=by kernel_rfl
def rf49:RFun:= { nt:=7,np:=1,res:= [.t 2],code :=
  (.seq (.region false [
    ⟨(some 1),none,.box 5 (.t 0)⟩,
    ⟨(some 2),none,.mv (.k (.c (.int .i64 0)))⟩])
  (.seq (.region false [
    ⟨(some 3),none,.mmap⟩,
    ⟨(some 4),none,.build [.c (.bool false),.c (.map none)] [(1,1,.t 3)]⟩,
    ⟨(some 5),none,.load 5 true (.t 1)⟩,
    ⟨(some 6),none,.call 57 [.t 4,.t 5]⟩,
    ⟨(some 2),none,.mv (.t 6)⟩])
  .ret))}
theorem rf49_ok:lowF Tryz.prog 49=some rf49:=by kernel_rfl
def rf50:RFun:= { nt:=112,np:=2,res:= [.c 4 8 true],code :=
  (.seq (.region false [
    ⟨(some 2),none,.box 5 (.t 0)⟩,
    ⟨(some 4),none,.alloc [.c (.string ⟨#[]⟩),.c (.string ⟨#[]⟩),.c (.string ⟨#[]⟩),.c (.slice none 0 0),.c (.slice none 0 0),.c (.int .i64 0),.c (.slice none 0 0),.c (.slice none 0 0)]⟩])
  (.seq (.region false [
    ⟨(some 15),none,.mmap⟩,
    ⟨(some 5),none,.mv (.t 15)⟩])
  (.seq (.seq (.region false [
    ⟨(some 16),none,.faddr 3 (.t 2)⟩,
    ⟨(some 17),none,.load 1 false (.t 16)⟩,
    ⟨(some 18),none,.len (.t 17)⟩,
    ⟨(some 19),none,.mv (.k (.c (.int .i64 0)))⟩])
  (.block 0
  (.loop
   (.seq (.region false [
      ⟨(some 20),none,.ibin .lss .i64 (.t 19) (.t 18)⟩])
    (.seq (.cond (.t 20)
    .skip
    (.exit 0))
    (.seq (.block 1
    (.seq (.region false [
       ⟨(some 21),none,.mv (.t 19)⟩,
       ⟨(some 22),none,.iaddr 10 (.t 17) (.t 19)⟩,
       ⟨(some 23),none,.load 10 true (.t 22)⟩,
       ⟨(some 7),none,.alloc [.c (.string ⟨#[]⟩),.c (.string ⟨#[]⟩),.c (.string ⟨#[]⟩),.c (.string ⟨#[]⟩),.c (.string ⟨#[]⟩),.c (.slice none 0 0),.c (.string ⟨#[]⟩),.c (.slice none 0 0),.c (.string ⟨#[]⟩),.c (.slice none 0 0)]⟩,
       ⟨(some 6),none,.mv (.t 21)⟩,
       ⟨none,none,.store 10 (.t 7) (.t 23)⟩])
     (.region false [
       ⟨(some 24),none,.mv (.t 5)⟩,
       ⟨(some 25),none,.faddr 0 (.t 7)⟩,
       ⟨(some 26),none,.load 1 false (.t 25)⟩,
       ⟨(some 27),none,.mv (.t 6)⟩,
       ⟨none,none,.mupd (.one .str) (.t 24) (.t 26) (.t 27)⟩])))
    (.region false [
      ⟨(some 28),none,.ibin .add .i64 (.t 19) (.k (.c (.int .i64 1)))⟩,
      ⟨(some 19),none,.mv (.t 28)⟩])))))))
  (.seq (.region false [
    ⟨(some 29),none,.faddr 3 (.t 2)⟩,
    ⟨(some 30),none,.load 1 false (.t 29)⟩,
    ⟨(some 31),none,.len (.t 30)⟩,
    ⟨(some 8),none,.mv (.t 31)⟩])
  (.seq (.soft [(0,6),(2,6),(3,6),(4,6),(0,8),(2,8),(3,8),(4,8),(6,8),(0,10),(2,10),(3,10),(4,10),(6,10),(8,10)] [
    ⟨(some 32),none,.load 5 true (.t 2)⟩,
    ⟨(some 33),none,.mv (.t 5)⟩,
    ⟨(some 34),none,.faddr 2 (.t 2)⟩,
    ⟨(some 35),none,.load 1 false (.t 34)⟩,
    ⟨(some 36),none,.look (.one .str) (.c (.int .i64 0)) false (.t 33) (.t 35)⟩,
    ⟨(some 37),none,.mv (.t 8)⟩,
    ⟨(some 38),none,.mslice 1 24 [.c (.slice none 0 0)] (.t 37) (.t 37)⟩,
    ⟨(some 39),none,.mv (.t 8)⟩,
    ⟨(some 40),none,.mslice 1 24 [.c (.slice none 0 0)] (.t 39) (.t 39)⟩,
    ⟨(some 41),none,.build [.c (.string ⟨#[]⟩),.c (.string ⟨#[]⟩),.c (.string ⟨#[]⟩),.c (.slice none 0 0),.c (.slice none 0 0),.c (.int .i64 0),.c (.slice none 0 0),.c (.slice none 0 0)] [(0,5,.t 32),(5,1,.t 36),(6,1,.t 38),(7,1,.t 40)]⟩,
    ⟨(some 9),none,.alloc [.c (.string ⟨#[]⟩),.c (.string ⟨#[]⟩),.c (.string ⟨#[]⟩),.c (.slice none 0 0),.c (.slice none 0 0),.c (.int .i64 0),.c (.slice none 0 0),.c (.slice none 0 0)]⟩,
    ⟨none,none,.store 8 (.t 9) (.t 41)⟩])
  (.seq (.seq (.region false [
    ⟨(some 42),none,.faddr 4 (.t 2)⟩,
    ⟨(some 43),none,.load 1 false (.t 42)⟩,
    ⟨(some 44),none,.len (.t 43)⟩,
    ⟨(some 45),none,.mv (.k (.c (.int .i64 0)))⟩])
  (.block 2
  (.loop
   (.seq (.region false [
      ⟨(some 46),none,.ibin .lss .i64 (.t 45) (.t 44)⟩])
    (.seq (.cond (.t 46)
    .skip
    (.exit 2))
    (.seq (.block 3
    (.seq (.region false [
       ⟨(some 47),none,.iaddr 3 (.t 43) (.t 45)⟩,
       ⟨(some 48),none,.load 3 true (.t 47)⟩,
       ⟨(some 11),none,.alloc [.c (.string ⟨#[]⟩),.c (.string ⟨#[]⟩),.c (.int .i64 0)]⟩,
       ⟨none,none,.store 3 (.t 11) (.t 48)⟩])
     (.seq (.seq (.region false [
       ⟨(some 49),none,.faddr 2 (.t 11)⟩,
       ⟨(some 50),none,.load 1 false (.t 49)⟩,
       ⟨(some 51),none,.mv (.t 1)⟩,
       ⟨(some 52),none,.ibin .gtr .i64 (.t 50) (.t 51)⟩])
     (.cond (.t 52)
     (.exit 3)
     .skip))
     (.seq (.region true [
       ⟨(some 53),none,.mv (.t 5)⟩,
       ⟨(some 54),none,.faddr 0 (.t 11)⟩,
       ⟨(some 55),none,.load 1 false (.t 54)⟩,
       ⟨(some 56),none,.look (.one .str) (.c (.int .i64 0)) false (.t 53) (.t 55)⟩,
       ⟨(some 57),none,.mv (.t 5)⟩,
       ⟨(some 58),none,.faddr 1 (.t 11)⟩,
       ⟨(some 59),none,.load 1 false (.t 58)⟩,
       ⟨(some 60),none,.look (.one .str) (.c (.int .i64 0)) false (.t 57) (.t 59)⟩,
       ⟨(some 12),none,.mv (.t 56)⟩,
       ⟨(some 13),none,.mv (.t 60)⟩])
     .bad))))
    (.region false [
      ⟨(some 85),none,.ibin .add .i64 (.t 45) (.k (.c (.int .i64 1)))⟩,
      ⟨(some 45),none,.mv (.t 85)⟩])))))))
  (.seq (.seq (.region false [
    ⟨(some 86),none,.mv (.t 8)⟩,
    ⟨(some 87),none,.mv (.k (.c (.int .i64 0)))⟩])
  (.block 4
  (.loop
   (.seq (.region false [
      ⟨(some 88),none,.ibin .lss .i64 (.t 87) (.t 86)⟩])
    (.seq (.cond (.t 88)
    .skip
    (.exit 4))
    (.seq (.block 5
    (.seq (.region false [
       ⟨(some 89),none,.mv (.t 87)⟩,
       ⟨(some 14),none,.mv (.t 89)⟩])
     (.soft [(3,19),(4,19)] [
       ⟨(some 90),none,.faddr 6 (.t 9)⟩,
       ⟨(some 91),none,.load 1 false (.t 90)⟩,
       ⟨(some 92),none,.mv (.t 14)⟩,
       ⟨(some 93),none,.faddr 7 (.t 9)⟩,
       ⟨(some 94),none,.load 1 false (.t 93)⟩,
       ⟨(some 95),none,.mv (.t 14)⟩,
       ⟨(some 96),none,.faddr 6 (.t 9)⟩,
       ⟨(some 97),none,.load 1 false (.t 96)⟩,
       ⟨(some 98),none,.mv (.t 14)⟩,
       ⟨(some 99),none,.iaddr 1 (.t 97) (.t 98)⟩,
       ⟨(some 100),none,.load 1 false (.t 99)⟩,
       ⟨(some 101),none,.call 58 [.t 100]⟩,
       ⟨(some 102),none,.faddr 7 (.t 9)⟩,
       ⟨(some 103),none,.load 1 false (.t 102)⟩,
       ⟨(some 104),none,.mv (.t 14)⟩,
       ⟨(some 105),none,.iaddr 1 (.t 103) (.t 104)⟩,
       ⟨(some 106),none,.load 1 false (.t 105)⟩,
       ⟨(some 107),none,.call 58 [.t 106]⟩,
       ⟨(some 108),none,.iaddr 1 (.t 91) (.t 92)⟩,
       ⟨none,none,.store 1 (.t 108) (.t 101)⟩,
       ⟨(some 109),none,.iaddr 1 (.t 94) (.t 95)⟩,
       ⟨none,none,.store 1 (.t 109) (.t 107)⟩])))
    (.region false [
      ⟨(some 110),none,.ibin .add .i64 (.t 87) (.k (.c (.int .i64 1)))⟩,
      ⟨(some 87),none,.mv (.t 110)⟩])))))))
  (.seq (.region false [
    ⟨(some 111),none,.load 8 true (.t 9)⟩,
    ⟨none,none,.store 8 (.t 4) (.t 111)⟩])
  .ret))))))))}
theorem rf50_ok:lowF Tryz.prog 50=some rf50:=by kernel_rfl
def rf51:RFun:= { nt:=35,np:=2,res:= [.t 4],code :=
  (.seq (.region false [
    ⟨(some 4),none,.mv (.k (.c (.int .i64 0)))⟩])
  (.seq (.seq (.region false [
    ⟨(some 7),none,.mv (.t 0)⟩,
    ⟨(some 8),none,.len (.t 7)⟩,
    ⟨(some 9),none,.mv (.k (.c (.int .i64 0)))⟩])
  (.block 0
  (.loop
   (.seq (.region false [
      ⟨(some 10),none,.ibin .lss .i64 (.t 9) (.t 8)⟩])
    (.seq (.cond (.t 10)
    .skip
    (.exit 0))
    (.seq (.block 1
    (.seq (.region false [
       ⟨(some 11),none,.mv (.t 9)⟩,
       ⟨(some 12),none,.iaddr 1 (.t 7) (.t 9)⟩,
       ⟨(some 13),none,.load 1 false (.t 12)⟩,
       ⟨(some 5),none,.mv (.t 11)⟩,
       ⟨(some 6),none,.mv (.t 13)⟩])
     (.block 2
     (.seq (.region false [
        ⟨(some 15),none,.mv (.t 6)⟩,
        ⟨(some 16),none,.ibin .lss .i64 (.t 15) (.k (.c (.int .i64 0)))⟩,
        ⟨(some 17),none,.mv (.t 16)⟩,
        ⟨(some 18),(some (17,false)),.mv (.t 6)⟩,
        ⟨(some 19),(some (17,false)),.mv (.t 1)⟩,
        ⟨(some 20),(some (17,false)),.ibin .gtr .i64 (.t 18) (.t 19)⟩,
        ⟨(some 21),none,.pick (.t 17) (.k (.c (.bool true))) (.t 20)⟩,
        ⟨(some 14),none,.mv (.t 21)⟩])
      (.cond (.t 14)
      (.seq (.region false [
         ⟨(some 4),none,.mv (.k (.c (.int .i64 9)))⟩])
       .ret)
      (.seq (.region false [
         ⟨(some 23),none,.mv (.t 5)⟩,
         ⟨(some 24),none,.ibin .gtr .i64 (.t 23) (.k (.c (.int .i64 0)))⟩,
         ⟨(some 25),none,.mv (.t 24)⟩,
         ⟨(some 26),(some (25,true)),.mv (.t 6)⟩,
         ⟨(some 27),(some (25,true)),.mv (.t 0)⟩,
         ⟨(some 28),(some (25,true)),.mv (.t 5)⟩,
         ⟨(some 29),(some (25,true)),.ibin .sub .i64 (.t 28) (.k (.c (.int .i64 1)))⟩,
         ⟨(some 30),(some (25,true)),.iaddr 1 (.t 27) (.t 29)⟩,
         ⟨(some 31),(some (25,true)),.load 1 false (.t 30)⟩,
         ⟨(some 32),(some (25,true)),.ibin .leq .i64 (.t 26) (.t 31)⟩,
         ⟨(some 33),none,.pick (.t 25) (.t 32) (.k (.c (.bool false)))⟩,
         ⟨(some 22),none,.mv (.t 33)⟩])
       (.cond (.t 22)
       (.seq (.region false [
          ⟨(some 4),none,.mv (.k (.c (.int .i64 10)))⟩])
        .ret)
       .skip)))))))
    (.region false [
      ⟨(some 34),none,.ibin .add .i64 (.t 9) (.k (.c (.int .i64 1)))⟩,
      ⟨(some 9),none,.mv (.t 34)⟩])))))))
  (.seq (.region false [
    ⟨(some 4),none,.mv (.k (.c (.int .i64 0)))⟩])
  .ret)))}
theorem rf51_ok:lowF Tryz.prog 51=some rf51:=by kernel_rfl
def rf52:RFun:= { nt:=54,np:=2,res:= [.t 4,.t 5],code :=
  (.seq (.region false [
    ⟨(some 4),none,.mv (.k (.c (.int .i64 0)))⟩,
    ⟨(some 5),none,.mv (.k (.c (.bool false)))⟩])
  (.seq (.region false [
    ⟨(some 10),none,.mv (.t 0)⟩,
    ⟨(some 11),none,.len (.t 10)⟩,
    ⟨(some 6),none,.mv (.t 11)⟩])
  (.seq (.region false [
    ⟨(some 12),none,.mv (.t 6)⟩,
    ⟨(some 7),none,.mv (.k (.c (.int .i64 0)))⟩,
    ⟨(some 8),none,.mv (.t 12)⟩])
  (.seq (.block 0
  (.loop
   (.seq (.seq (.region false [
      ⟨(some 13),none,.mv (.t 7)⟩,
      ⟨(some 14),none,.mv (.t 8)⟩,
      ⟨(some 15),none,.ibin .lss .i64 (.t 13) (.t 14)⟩])
    (.cond (.t 15)
    .skip
    (.exit 0)))
    (.block 1
    (.seq (.region false [
       ⟨(some 16),none,.mv (.t 7)⟩,
       ⟨(some 17),none,.mv (.t 8)⟩,
       ⟨(some 18),none,.ibin .add .i64 (.t 16) (.t 17)⟩,
       ⟨(some 19),none,.conv .u64 (.t 18)⟩,
       ⟨(some 20),none,.shift .shr .u64 (.t 19) (.k (.c (.int .u64 1)))⟩,
       ⟨(some 21),none,.conv .i64 (.t 20)⟩,
       ⟨(some 9),none,.mv (.t 21)⟩])
     (.seq (.region false [
       ⟨(some 22),none,.mv (.t 0)⟩,
       ⟨(some 23),none,.mv (.t 9)⟩,
       ⟨(some 24),none,.iaddr 1 (.t 22) (.t 23)⟩,
       ⟨(some 25),none,.load 1 false (.t 24)⟩,
       ⟨(some 26),none,.mv (.t 1)⟩,
       ⟨(some 27),none,.call 59 [.t 25,.t 26]⟩])
     (.cond (.t 27)
     (.region false [
        ⟨(some 28),none,.mv (.t 9)⟩,
        ⟨(some 29),none,.ibin .add .i64 (.t 28) (.k (.c (.int .i64 1)))⟩,
        ⟨(some 7),none,.mv (.t 29)⟩])
     (.region false [
        ⟨(some 30),none,.mv (.t 9)⟩,
        ⟨(some 8),none,.mv (.t 30)⟩]))))))))
  (.seq (.region false [
    ⟨(some 31),none,.mv (.t 7)⟩,
    ⟨(some 32),none,.mv (.t 7)⟩,
    ⟨(some 33),none,.mv (.t 6)⟩,
    ⟨(some 34),none,.ibin .lss .i64 (.t 32) (.t 33)⟩,
    ⟨(some 35),none,.mv (.t 34)⟩,
    ⟨(some 36),(some (35,true)),.mv (.t 0)⟩,
    ⟨(some 37),(some (35,true)),.mv (.t 7)⟩,
    ⟨(some 38),(some (35,true)),.iaddr 1 (.t 36) (.t 37)⟩,
    ⟨(some 39),(some (35,true)),.load 1 false (.t 38)⟩,
    ⟨(some 40),(some (35,true)),.mv (.t 1)⟩,
    ⟨(some 41),(some (35,true)),.ibin .eql .i64 (.t 39) (.t 40)⟩,
    ⟨(some 42),(some (35,true)),.mv (.t 41)⟩,
    ⟨(some 43),(some (42,false)),.mv (.t 0)⟩,
    ⟨(some 44),(some (42,false)),.mv (.t 7)⟩,
    ⟨(some 45),(some (42,false)),.iaddr 1 (.t 43) (.t 44)⟩,
    ⟨(some 46),(some (42,false)),.load 1 false (.t 45)⟩,
    ⟨(some 47),(some (42,false)),.call 60 [.t 46]⟩,
    ⟨(some 48),(some (42,false)),.mv (.t 47)⟩,
    ⟨(some 49),(some (48,true)),.mv (.t 1)⟩,
    ⟨(some 50),(some (48,true)),.call 60 [.t 49]⟩,
    ⟨(some 51),(some (42,false)),.pick (.t 48) (.t 50) (.k (.c (.bool false)))⟩,
    ⟨(some 52),(some (35,true)),.pick (.t 42) (.k (.c (.bool true))) (.t 51)⟩,
    ⟨(some 53),none,.pick (.t 35) (.t 52) (.k (.c (.bool false)))⟩,
    ⟨(some 4),none,.mv (.t 31)⟩,
    ⟨(some 5),none,.mv (.t 53)⟩])
  .ret)))))}
theorem rf52_ok:lowF Tryz.prog 52=some rf52:=by kernel_rfl
def rf57:RFun:= { nt:=83,np:=2,res:= [.t 4],code :=
  (.seq (.region false [
    ⟨(some 2),none,.box 2 (.t 0)⟩,
    ⟨(some 3),none,.box 5 (.t 1)⟩,
    ⟨(some 4),none,.mv (.k (.c (.int .i64 0)))⟩])
  (.seq (.block 0
  (.seq (.region false [
     ⟨(some 9),none,.faddr 0 (.t 3)⟩,
     ⟨(some 10),none,.load 1 false (.t 9)⟩,
     ⟨(some 11),none,.sbin .eql (.t 10) (.k (.c (.string ⟨#[]⟩)))⟩,
     ⟨(some 12),none,.mv (.t 11)⟩,
     ⟨(some 13),(some (12,false)),.faddr 0 (.t 3)⟩,
     ⟨(some 14),(some (12,false)),.load 1 false (.t 13)⟩,
     ⟨(some 15),(some (12,false)),.call 65 [.t 14]⟩,
     ⟨(some 16),(some (12,false)),.not (.t 15)⟩,
     ⟨(some 17),none,.pick (.t 12) (.k (.c (.bool true))) (.t 16)⟩,
     ⟨(some 18),none,.mv (.t 17)⟩,
     ⟨(some 19),(some (18,false)),.faddr 1 (.t 3)⟩,
     ⟨(some 20),(some (18,false)),.load 1 false (.t 19)⟩,
     ⟨(some 21),(some (18,false)),.call 65 [.t 20]⟩,
     ⟨(some 22),(some (18,false)),.not (.t 21)⟩,
     ⟨(some 23),none,.pick (.t 18) (.k (.c (.bool true))) (.t 22)⟩,
     ⟨(some 8),none,.mv (.t 23)⟩])
   (.cond (.t 8)
   (.seq (.region false [
      ⟨(some 4),none,.mv (.k (.c (.int .i64 8)))⟩])
    .ret)
   (.seq (.region false [
      ⟨(some 25),none,.faddr 3 (.t 3)⟩,
      ⟨(some 26),none,.load 1 false (.t 25)⟩,
      ⟨(some 27),none,.len (.t 26)⟩,
      ⟨(some 28),none,.ibin .gtr .i64 (.t 27) (.k (.c (.int .i64 3000)))⟩,
      ⟨(some 29),none,.mv (.t 28)⟩,
      ⟨(some 30),(some (29,false)),.faddr 4 (.t 3)⟩,
      ⟨(some 31),(some (29,false)),.load 1 false (.t 30)⟩,
      ⟨(some 32),(some (29,false)),.len (.t 31)⟩,
      ⟨(some 33),(some (29,false)),.ibin .gtr .i64 (.t 32) (.k (.c (.int .i64 20000)))⟩,
      ⟨(some 34),none,.pick (.t 29) (.k (.c (.bool true))) (.t 33)⟩,
      ⟨(some 24),none,.mv (.t 34)⟩])
    (.cond (.t 24)
    (.seq (.region false [
       ⟨(some 4),none,.mv (.k (.c (.int .i64 3)))⟩])
     .ret)
    .skip)))))
  (.seq (.seq (.region false [
    ⟨(some 35),none,.faddr 3 (.t 3)⟩,
    ⟨(some 36),none,.load 1 false (.t 35)⟩,
    ⟨(some 37),none,.len (.t 36)⟩,
    ⟨(some 38),none,.mv (.k (.c (.int .i64 0)))⟩])
  (.block 1
  (.loop
   (.seq (.region false [
      ⟨(some 39),none,.ibin .lss .i64 (.t 38) (.t 37)⟩])
    (.seq (.cond (.t 39)
    .skip
    (.exit 1))
    (.seq (.block 2
    (.seq (.region false [
       ⟨(some 40),none,.mv (.t 38)⟩,
       ⟨(some 41),none,.iaddr 10 (.t 36) (.t 38)⟩,
       ⟨(some 42),none,.load 10 true (.t 41)⟩,
       ⟨(some 6),none,.alloc [.c (.string ⟨#[]⟩),.c (.string ⟨#[]⟩),.c (.string ⟨#[]⟩),.c (.string ⟨#[]⟩),.c (.string ⟨#[]⟩),.c (.slice none 0 0),.c (.string ⟨#[]⟩),.c (.slice none 0 0),.c (.string ⟨#[]⟩),.c (.slice none 0 0)]⟩,
       ⟨(some 5),none,.mv (.t 40)⟩,
       ⟨none,none,.store 10 (.t 6) (.t 42)⟩])
     (.seq (.seq (.region false [
       ⟨(some 43),none,.load 2 true (.t 2)⟩,
       ⟨(some 44),none,.load 10 true (.t 6)⟩,
       ⟨(some 45),none,.call 66 [.t 43,.t 44]⟩,
       ⟨(some 7),none,.mv (.t 45)⟩])
     (.seq (.region false [
       ⟨(some 46),none,.mv (.t 7)⟩,
       ⟨(some 47),none,.ibin .neq .i64 (.t 46) (.k (.c (.int .i64 0)))⟩])
     (.cond (.t 47)
     (.seq (.region false [
        ⟨(some 48),none,.mv (.t 7)⟩,
        ⟨(some 4),none,.mv (.t 48)⟩])
      .ret)
     .skip)))
     (.seq (.seq (.region true [
       ⟨(some 49),none,.faddr 0 (.t 2)⟩,
       ⟨(some 50),none,.load 1 false (.t 49)⟩,
       ⟨(some 51),none,.not (.t 50)⟩,
       ⟨(some 52),none,.mv (.t 51)⟩,
       ⟨(some 53),(some (52,true)),.mv (.t 5)⟩,
       ⟨(some 54),(some (52,true)),.ibin .gtr .i64 (.t 53) (.k (.c (.int .i64 0)))⟩,
       ⟨(some 55),none,.pick (.t 52) (.t 54) (.k (.c (.bool false)))⟩,
       ⟨(some 56),none,.mv (.t 55)⟩,
       ⟨(some 57),(some (56,true)),.faddr 0 (.t 6)⟩,
       ⟨(some 58),(some (56,true)),.load 1 false (.t 57)⟩,
       ⟨(some 59),(some (56,true)),.faddr 3 (.t 3)⟩,
       ⟨(some 60),(some (56,true)),.load 1 false (.t 59)⟩,
       ⟨(some 61),(some (56,true)),.mv (.t 5)⟩,
       ⟨(some 62),(some (56,true)),.ibin .sub .i64 (.t 61) (.k (.c (.int .i64 1)))⟩,
       ⟨(some 63),(some (56,true)),.iaddr 10 (.t 60) (.t 62)⟩,
       ⟨(some 64),(some (56,true)),.faddr 0 (.t 63)⟩,
       ⟨(some 65),(some (56,true)),.load 1 false (.t 64)⟩,
       ⟨(some 66),(some (56,true)),.sbin .leq (.t 58) (.t 65)⟩,
       ⟨(some 67),none,.pick (.t 56) (.t 66) (.k (.c (.bool false)))⟩])
     (.cond (.t 67)
     (.seq (.region false [
        ⟨(some 4),none,.mv (.k (.c (.int .i64 10)))⟩])
      .ret)
     .skip))
     (.region false [
       ⟨(some 68),none,.faddr 1 (.t 2)⟩,
       ⟨(some 69),none,.load 1 false (.t 68)⟩,
       ⟨(some 70),none,.faddr 0 (.t 6)⟩,
       ⟨(some 71),none,.load 1 false (.t 70)⟩,
       ⟨none,none,.mupd (.one .str) (.t 69) (.t 71) (.k (.c (.bool true)))⟩])))))
    (.region false [
      ⟨(some 72),none,.ibin .add .i64 (.t 38) (.k (.c (.int .i64 1)))⟩,
      ⟨(some 38),none,.mv (.t 72)⟩])))))))
  (.seq (.seq (.region false [
    ⟨(some 73),none,.faddr 1 (.t 2)⟩,
    ⟨(some 74),none,.load 1 false (.t 73)⟩,
    ⟨(some 75),none,.faddr 2 (.t 3)⟩,
    ⟨(some 76),none,.load 1 false (.t 75)⟩,
    ⟨(some 77),none,.look (.one .str) (.c (.bool false)) false (.t 74) (.t 76)⟩,
    ⟨(some 78),none,.not (.t 77)⟩])
  (.cond (.t 78)
  (.seq (.region false [
     ⟨(some 4),none,.mv (.k (.c (.int .i64 4)))⟩])
   .ret)
  .skip))
  (.seq (.region false [
    ⟨(some 79),none,.load 2 true (.t 2)⟩,
    ⟨(some 80),none,.faddr 4 (.t 3)⟩,
    ⟨(some 81),none,.load 1 false (.t 80)⟩,
    ⟨(some 82),none,.call 67 [.t 79,.t 81]⟩,
    ⟨(some 4),none,.mv (.t 82)⟩])
  .ret)))))}
theorem rf57_ok:lowF Tryz.prog 57=some rf57:=by kernel_rfl
def rf58:RFun:= { nt:=61,np:=1,res:= [.t 2],code :=
  (.seq (.region false [
    ⟨(some 2),none,.mv (.k (.c (.slice none 0 0)))⟩])
  (.seq (.seq (.region false [
    ⟨(some 6),none,.mv (.t 0)⟩,
    ⟨(some 7),none,.len (.t 6)⟩,
    ⟨(some 8),none,.ibin .lss .i64 (.t 7) (.k (.c (.int .i64 2)))⟩])
  (.cond (.t 8)
  (.seq (.region false [
     ⟨(some 9),none,.mv (.t 0)⟩,
     ⟨(some 2),none,.mv (.t 9)⟩])
   .ret)
  .skip))
  (.seq (.seq (.region false [
    ⟨(some 3),none,.mv (.k (.c (.int .i64 1)))⟩])
  (.block 0
  (.loop
   (.seq (.seq (.region false [
      ⟨(some 10),none,.mv (.t 3)⟩,
      ⟨(some 11),none,.mv (.t 0)⟩,
      ⟨(some 12),none,.len (.t 11)⟩,
      ⟨(some 13),none,.ibin .lss .i64 (.t 10) (.t 12)⟩])
    (.cond (.t 13)
    .skip
    (.exit 0)))
    (.seq (.block 1
    (.seq (.region true [
       ⟨(some 16),none,.mv (.t 0)⟩,
       ⟨(some 17),none,.mv (.t 3)⟩,
       ⟨(some 18),none,.iaddr 1 (.t 16) (.t 17)⟩,
       ⟨(some 19),none,.load 1 false (.t 18)⟩,
       ⟨(some 20),none,.mv (.t 0)⟩,
       ⟨(some 21),none,.mv (.t 3)⟩,
       ⟨(some 22),none,.ibin .sub .i64 (.t 21) (.k (.c (.int .i64 1)))⟩,
       ⟨(some 23),none,.iaddr 1 (.t 20) (.t 22)⟩,
       ⟨(some 24),none,.load 1 false (.t 23)⟩,
       ⟨(some 25),none,.ibin .eql .i64 (.t 19) (.t 24)⟩])
     (.cond (.t 25)
     (.seq (.region false [
        ⟨(some 26),none,.mv (.t 0)⟩,
        ⟨(some 27),none,.mv (.t 3)⟩,
        ⟨(some 28),none,.lsl 1 (.t 26) (some (.t 27)) none⟩,
        ⟨(some 4),none,.mv (.t 28)⟩])
      (.seq (.seq (.region false [
        ⟨(some 5),none,.mv (.k (.c (.int .i64 1)))⟩])
      (.block 2
      (.loop
       (.seq (.seq (.region false [
          ⟨(some 29),none,.mv (.t 5)⟩,
          ⟨(some 30),none,.mv (.t 4)⟩,
          ⟨(some 31),none,.len (.t 30)⟩,
          ⟨(some 32),none,.ibin .lss .i64 (.t 29) (.t 31)⟩])
        (.cond (.t 32)
        .skip
        (.exit 2)))
        (.seq (.block 3
        (.seq (.region true [
           ⟨(some 35),none,.mv (.t 4)⟩,
           ⟨(some 36),none,.mv (.t 5)⟩,
           ⟨(some 37),none,.iaddr 1 (.t 35) (.t 36)⟩,
           ⟨(some 38),none,.load 1 false (.t 37)⟩,
           ⟨(some 39),none,.mv (.t 4)⟩,
           ⟨(some 40),none,.mv (.t 5)⟩,
           ⟨(some 41),none,.ibin .sub .i64 (.t 40) (.k (.c (.int .i64 1)))⟩,
           ⟨(some 42),none,.iaddr 1 (.t 39) (.t 41)⟩,
           ⟨(some 43),none,.load 1 false (.t 42)⟩,
           ⟨(some 44),none,.ibin .neq .i64 (.t 38) (.t 43)⟩])
         (.cond (.t 44)
         (.seq (.region false [
            ⟨(some 45),none,.mv (.t 0)⟩,
            ⟨(some 46),none,.mv (.t 3)⟩,
            ⟨(some 47),none,.mv (.t 4)⟩,
            ⟨(some 48),none,.mv (.t 5)⟩,
            ⟨(some 49),none,.iaddr 1 (.t 47) (.t 48)⟩,
            ⟨(some 50),none,.load 1 false (.t 49)⟩,
            ⟨(some 51),none,.iaddr 1 (.t 45) (.t 46)⟩,
            ⟨none,none,.store 1 (.t 51) (.t 50)⟩])
          (.region false [
            ⟨(some 52),none,.mv (.t 3)⟩,
            ⟨(some 53),none,.ibin .add .i64 (.t 52) (.k (.c (.int .i64 1)))⟩,
            ⟨(some 3),none,.mv (.t 53)⟩]))
         .skip)))
        (.region false [
          ⟨(some 33),none,.mv (.t 5)⟩,
          ⟨(some 34),none,.ibin .add .i64 (.t 33) (.k (.c (.int .i64 1)))⟩,
          ⟨(some 5),none,.mv (.t 34)⟩]))))))
      (.seq (.region false [
        ⟨(some 54),none,.mv (.t 0)⟩,
        ⟨(some 55),none,.mv (.t 3)⟩,
        ⟨(some 56),none,.lsl 1 (.t 54) (some (.t 55)) none⟩,
        ⟨none,none,.bad⟩])
      (.seq (.region false [
        ⟨(some 57),none,.mv (.t 0)⟩,
        ⟨(some 58),none,.mv (.t 3)⟩,
        ⟨(some 59),none,.lsl 1 (.t 57) none (some (.t 58))⟩,
        ⟨(some 2),none,.mv (.t 59)⟩])
      .ret))))
     .skip)))
    (.region false [
      ⟨(some 14),none,.mv (.t 3)⟩,
      ⟨(some 15),none,.ibin .add .i64 (.t 14) (.k (.c (.int .i64 1)))⟩,
      ⟨(some 3),none,.mv (.t 15)⟩]))))))
  (.seq (.region false [
    ⟨(some 60),none,.mv (.t 0)⟩,
    ⟨(some 2),none,.mv (.t 60)⟩])
  .ret))))}
theorem rf58_ok:lowF Tryz.prog 58=some rf58:=by kernel_rfl
def rf65:RFun:= { nt:=23,np:=1,res:= [.t 2],code :=
  (.seq (.region false [
    ⟨(some 2),none,.mv (.k (.c (.bool false)))⟩])
  (.seq (.seq (.region false [
    ⟨(some 4),none,.mv (.t 0)⟩,
    ⟨(some 5),none,.slen (.t 4)⟩,
    ⟨(some 6),none,.mv (.k (.c (.int .i64 0)))⟩])
  (.block 0
  (.loop
   (.seq (.region false [
      ⟨(some 7),none,.ibin .lss .i64 (.t 6) (.t 5)⟩])
    (.seq (.cond (.t 7)
    .skip
    (.exit 0))
    (.seq (.block 1
    (.seq (.region false [
       ⟨(some 8),none,.mv (.t 6)⟩,
       ⟨(some 3),none,.mv (.t 8)⟩])
     (.seq (.region false [
       ⟨(some 9),none,.mv (.t 0)⟩,
       ⟨(some 10),none,.mv (.t 3)⟩,
       ⟨(some 11),none,.sidx (.t 9) (.t 10)⟩,
       ⟨(some 12),none,.ibin .lss .u8 (.t 11) (.k (.c (.int .u8 32)))⟩,
       ⟨(some 13),none,.mv (.t 12)⟩,
       ⟨(some 14),(some (13,false)),.mv (.t 0)⟩,
       ⟨(some 15),(some (13,false)),.mv (.t 3)⟩,
       ⟨(some 16),(some (13,false)),.sidx (.t 14) (.t 15)⟩,
       ⟨(some 17),(some (13,false)),.ibin .eql .u8 (.t 16) (.k (.c (.int .u8 127)))⟩,
       ⟨(some 18),none,.pick (.t 13) (.k (.c (.bool true))) (.t 17)⟩])
     (.cond (.t 18)
     (.seq (.region false [
        ⟨(some 2),none,.mv (.k (.c (.bool false)))⟩])
      .ret)
     .skip))))
    (.region false [
      ⟨(some 19),none,.ibin .add .i64 (.t 6) (.k (.c (.int .i64 1)))⟩,
      ⟨(some 6),none,.mv (.t 19)⟩])))))))
  (.seq (.region false [
    ⟨(some 20),none,.mv (.t 0)⟩,
    ⟨(some 21),none,.slen (.t 20)⟩,
    ⟨(some 22),none,.ibin .leq .i64 (.t 21) (.k (.c (.int .i64 100)))⟩,
    ⟨(some 2),none,.mv (.t 22)⟩])
  .ret)))}
theorem rf65_ok:lowF Tryz.prog 65=some rf65:=by kernel_rfl
def rf66:RFun:= { nt:=63,np:=2,res:= [.t 4],code :=
  (.seq (.region false [
    ⟨(some 2),none,.box 2 (.t 0)⟩,
    ⟨(some 3),none,.box 10 (.t 1)⟩,
    ⟨(some 4),none,.mv (.k (.c (.int .i64 0)))⟩])
  (.seq (.seq (.region false [
    ⟨(some 11),none,.faddr 0 (.t 3)⟩,
    ⟨(some 12),none,.load 1 false (.t 11)⟩,
    ⟨(some 13),none,.call 70 [.t 12,.k (.c (.int .i64 100))]⟩,
    ⟨(some 14),none,.not (.t 13)⟩])
  (.cond (.t 14)
  (.seq (.region false [
     ⟨(some 4),none,.mv (.k (.c (.int .i64 8)))⟩])
   .ret)
  .skip))
  (.seq (.seq (.region false [
    ⟨(some 15),none,.faddr 1 (.t 3)⟩,
    ⟨(some 16),none,.load 6 true (.t 15)⟩,
    ⟨(some 17),none,.call 71 [.t 16]⟩,
    ⟨(some 5),none,.mv (.t 17)⟩])
  (.seq (.region false [
    ⟨(some 18),none,.mv (.t 5)⟩,
    ⟨(some 19),none,.ibin .neq .i64 (.t 18) (.k (.c (.int .i64 0)))⟩])
  (.cond (.t 19)
  (.seq (.region false [
     ⟨(some 20),none,.mv (.t 5)⟩,
     ⟨(some 4),none,.mv (.t 20)⟩])
   .ret)
  .skip)))
  (.seq (.seq (.region false [
    ⟨(some 21),none,.faddr 7 (.t 3)⟩,
    ⟨(some 22),none,.load 1 false (.t 21)⟩,
    ⟨(some 23),none,.call 72 [.t 22]⟩,
    ⟨(some 6),none,.mv (.t 23)⟩])
  (.seq (.region false [
    ⟨(some 24),none,.mv (.t 6)⟩,
    ⟨(some 25),none,.ibin .neq .i64 (.t 24) (.k (.c (.int .i64 0)))⟩])
  (.cond (.t 25)
  (.seq (.region false [
     ⟨(some 26),none,.mv (.t 6)⟩,
     ⟨(some 4),none,.mv (.t 26)⟩])
   .ret)
  .skip)))
  (.seq (.seq (.region false [
    ⟨(some 27),none,.faddr 8 (.t 3)⟩,
    ⟨(some 28),none,.load 1 false (.t 27)⟩,
    ⟨(some 29),none,.slen (.t 28)⟩,
    ⟨(some 30),none,.mv (.k (.c (.int .i64 0)))⟩])
  (.block 0
  (.loop
   (.seq (.region false [
      ⟨(some 31),none,.ibin .lss .i64 (.t 30) (.t 29)⟩])
    (.seq (.cond (.t 31)
    .skip
    (.exit 0))
    (.seq (.block 1
    (.seq (.region false [
       ⟨(some 32),none,.mv (.t 30)⟩,
       ⟨(some 7),none,.mv (.t 32)⟩])
     (.seq (.region false [
       ⟨(some 33),none,.faddr 8 (.t 3)⟩,
       ⟨(some 34),none,.load 1 false (.t 33)⟩,
       ⟨(some 35),none,.mv (.t 7)⟩,
       ⟨(some 36),none,.sidx (.t 34) (.t 35)⟩,
       ⟨(some 37),none,.ibin .lss .u8 (.t 36) (.k (.c (.int .u8 32)))⟩,
       ⟨(some 38),none,.mv (.t 37)⟩,
       ⟨(some 39),(some (38,false)),.faddr 8 (.t 3)⟩,
       ⟨(some 40),(some (38,false)),.load 1 false (.t 39)⟩,
       ⟨(some 41),(some (38,false)),.mv (.t 7)⟩,
       ⟨(some 42),(some (38,false)),.sidx (.t 40) (.t 41)⟩,
       ⟨(some 43),(some (38,false)),.ibin .gtr .u8 (.t 42) (.k (.c (.int .u8 126)))⟩,
       ⟨(some 44),none,.pick (.t 38) (.k (.c (.bool true))) (.t 43)⟩])
     (.cond (.t 44)
     (.seq (.region false [
        ⟨(some 4),none,.mv (.k (.c (.int .i64 2)))⟩])
      .ret)
     .skip))))
    (.region false [
      ⟨(some 45),none,.ibin .add .i64 (.t 30) (.k (.c (.int .i64 1)))⟩,
      ⟨(some 30),none,.mv (.t 45)⟩])))))))
  (.seq (.seq (.region false [
    ⟨(some 46),none,.faddr 8 (.t 3)⟩,
    ⟨(some 47),none,.load 1 false (.t 46)⟩,
    ⟨(some 48),none,.sbin .neq (.t 47) (.k (.c (.string ⟨#[]⟩)))⟩])
  (.cond (.t 48)
  (.seq (.region false [
     ⟨(some 50),none,.faddr 8 (.t 3)⟩,
     ⟨(some 51),none,.load 1 false (.t 50)⟩,
     ⟨(some 52),none,.call 73 [.t 51]⟩,
     ⟨(some 49),none,.mv (.t 52)⟩,
     ⟨(some 53),none,.ext 0 (.t 49)⟩,
     ⟨(some 54),none,.ext 1 (.t 49)⟩,
     ⟨(some 55),none,.ext 2 (.t 49)⟩,
     ⟨(some 8),none,.alloc [.c (.int .i64 0),.c (.string ⟨#[]⟩),.c (.bool false),.c (.string ⟨#[]⟩),.c (.slice none 0 0)]⟩,
     ⟨none,none,.store 5 (.t 8) (.t 53)⟩,
     ⟨(some 9),none,.mv (.t 54)⟩,
     ⟨(some 10),none,.mv (.t 55)⟩])
   (.seq (.region false [
     ⟨(some 56),none,.mv (.t 10)⟩,
     ⟨(some 57),none,.ibin .neq .i64 (.t 56) (.k (.c (.int .i64 0)))⟩])
   (.cond (.t 57)
   (.seq (.region false [
      ⟨(some 58),none,.mv (.t 10)⟩,
      ⟨(some 4),none,.mv (.t 58)⟩])
    .ret)
   .skip)))
  .skip))
  (.seq (.region false [
    ⟨(some 59),none,.load 2 true (.t 2)⟩,
    ⟨(some 60),none,.faddr 9 (.t 3)⟩,
    ⟨(some 61),none,.load 1 false (.t 60)⟩,
    ⟨(some 62),none,.call 74 [.t 59,.t 61]⟩,
    ⟨(some 4),none,.mv (.t 62)⟩])
  .ret)))))))}
theorem rf66_ok:lowF Tryz.prog 66=some rf66:=by kernel_rfl
def rf67:RFun:= { nt:=63,np:=2,res:= [.t 4],code :=
  (.seq (.region false [
    ⟨(some 2),none,.box 2 (.t 0)⟩,
    ⟨(some 4),none,.mv (.k (.c (.int .i64 0)))⟩])
  (.seq (.seq (.region false [
    ⟨(some 7),none,.mv (.t 1)⟩,
    ⟨(some 8),none,.len (.t 7)⟩,
    ⟨(some 9),none,.mv (.k (.c (.int .i64 0)))⟩])
  (.block 0
  (.loop
   (.seq (.region false [
      ⟨(some 10),none,.ibin .lss .i64 (.t 9) (.t 8)⟩])
    (.seq (.cond (.t 10)
    .skip
    (.exit 0))
    (.seq (.block 1
    (.seq (.region false [
       ⟨(some 11),none,.mv (.t 9)⟩,
       ⟨(some 12),none,.iaddr 3 (.t 7) (.t 9)⟩,
       ⟨(some 13),none,.load 3 true (.t 12)⟩,
       ⟨(some 6),none,.alloc [.c (.string ⟨#[]⟩),.c (.string ⟨#[]⟩),.c (.int .i64 0)]⟩,
       ⟨(some 5),none,.mv (.t 11)⟩,
       ⟨none,none,.store 3 (.t 6) (.t 13)⟩])
     (.block 2
     (.seq (.region false [
        ⟨(some 15),none,.faddr 2 (.t 6)⟩,
        ⟨(some 16),none,.load 1 false (.t 15)⟩,
        ⟨(some 17),none,.ibin .lss .i64 (.t 16) (.k (.c (.int .i64 1)))⟩,
        ⟨(some 18),none,.mv (.t 17)⟩,
        ⟨(some 19),(some (18,false)),.faddr 2 (.t 6)⟩,
        ⟨(some 20),(some (18,false)),.load 1 false (.t 19)⟩,
        ⟨(some 21),(some (18,false)),.ibin .gtr .i64 (.t 20) (.k (.c (.int .i64 4)))⟩,
        ⟨(some 22),none,.pick (.t 18) (.k (.c (.bool true))) (.t 21)⟩,
        ⟨(some 14),none,.mv (.t 22)⟩])
      (.cond (.t 14)
      (.seq (.region false [
         ⟨(some 4),none,.mv (.k (.c (.int .i64 9)))⟩])
       .ret)
      (.seq (.region false [
         ⟨(some 24),none,.faddr 1 (.t 2)⟩,
         ⟨(some 25),none,.load 1 false (.t 24)⟩,
         ⟨(some 26),none,.faddr 0 (.t 6)⟩,
         ⟨(some 27),none,.load 1 false (.t 26)⟩,
         ⟨(some 28),none,.look (.one .str) (.c (.bool false)) false (.t 25) (.t 27)⟩,
         ⟨(some 29),none,.not (.t 28)⟩,
         ⟨(some 30),none,.mv (.t 29)⟩,
         ⟨(some 31),(some (30,false)),.faddr 1 (.t 2)⟩,
         ⟨(some 32),(some (30,false)),.load 1 false (.t 31)⟩,
         ⟨(some 33),(some (30,false)),.faddr 1 (.t 6)⟩,
         ⟨(some 34),(some (30,false)),.load 1 false (.t 33)⟩,
         ⟨(some 35),(some (30,false)),.look (.one .str) (.c (.bool false)) false (.t 32) (.t 34)⟩,
         ⟨(some 36),(some (30,false)),.not (.t 35)⟩,
         ⟨(some 37),none,.pick (.t 30) (.k (.c (.bool true))) (.t 36)⟩,
         ⟨(some 23),none,.mv (.t 37)⟩])
       (.cond (.t 23)
       (.seq (.region false [
          ⟨(some 4),none,.mv (.k (.c (.int .i64 4)))⟩])
        .ret)
       (.seq (.region false [
          ⟨(some 39),none,.faddr 0 (.t 6)⟩,
          ⟨(some 40),none,.load 1 false (.t 39)⟩,
          ⟨(some 41),none,.faddr 1 (.t 6)⟩,
          ⟨(some 42),none,.load 1 false (.t 41)⟩,
          ⟨(some 43),none,.sbin .eql (.t 40) (.t 42)⟩,
          ⟨(some 38),none,.mv (.t 43)⟩])
        (.cond (.t 38)
        (.seq (.region false [
           ⟨(some 4),none,.mv (.k (.c (.int .i64 2)))⟩])
         .ret)
        (.seq (.region true [
           ⟨(some 45),none,.faddr 0 (.t 2)⟩,
           ⟨(some 46),none,.load 1 false (.t 45)⟩,
           ⟨(some 47),none,.not (.t 46)⟩,
           ⟨(some 48),none,.mv (.t 47)⟩,
           ⟨(some 49),(some (48,true)),.mv (.t 5)⟩,
           ⟨(some 50),(some (48,true)),.ibin .gtr .i64 (.t 49) (.k (.c (.int .i64 0)))⟩,
           ⟨(some 51),none,.pick (.t 48) (.t 50) (.k (.c (.bool false)))⟩,
           ⟨(some 52),none,.mv (.t 51)⟩,
           ⟨(some 53),(some (52,true)),.mv (.t 1)⟩,
           ⟨(some 54),(some (52,true)),.mv (.t 5)⟩,
           ⟨(some 55),(some (52,true)),.ibin .sub .i64 (.t 54) (.k (.c (.int .i64 1)))⟩,
           ⟨(some 56),(some (52,true)),.iaddr 3 (.t 53) (.t 55)⟩,
           ⟨(some 57),(some (52,true)),.load 3 true (.t 56)⟩,
           ⟨(some 58),(some (52,true)),.load 3 true (.t 6)⟩,
           ⟨(some 59),(some (52,true)),.call 75 [.t 57,.t 58]⟩,
           ⟨(some 60),(some (52,true)),.ibin .geq .i64 (.t 59) (.k (.c (.int .i64 0)))⟩,
           ⟨(some 61),none,.pick (.t 52) (.t 60) (.k (.c (.bool false)))⟩,
           ⟨(some 44),none,.mv (.t 61)⟩])
         (.cond (.t 44)
         (.seq (.region false [
            ⟨(some 4),none,.mv (.k (.c (.int .i64 10)))⟩])
          .ret)
         .skip)))))))))))
    (.region false [
      ⟨(some 62),none,.ibin .add .i64 (.t 9) (.k (.c (.int .i64 1)))⟩,
      ⟨(some 9),none,.mv (.t 62)⟩])))))))
  (.seq (.region false [
    ⟨(some 4),none,.mv (.k (.c (.int .i64 0)))⟩])
  .ret)))}
theorem rf67_ok:lowF Tryz.prog 67=some rf67:=by kernel_rfl
def rf70:RFun:= { nt:=30,np:=2,res:= [.t 4],code :=
  (.seq (.region false [
    ⟨(some 4),none,.mv (.k (.c (.bool false)))⟩])
  (.seq (.seq (.region false [
    ⟨(some 6),none,.mv (.t 0)⟩,
    ⟨(some 7),none,.slen (.t 6)⟩,
    ⟨(some 8),none,.mv (.k (.c (.int .i64 0)))⟩])
  (.block 0
  (.loop
   (.seq (.region false [
      ⟨(some 9),none,.ibin .lss .i64 (.t 8) (.t 7)⟩])
    (.seq (.cond (.t 9)
    .skip
    (.exit 0))
    (.seq (.block 1
    (.seq (.region false [
       ⟨(some 10),none,.mv (.t 8)⟩,
       ⟨(some 5),none,.mv (.t 10)⟩])
     (.seq (.region false [
       ⟨(some 11),none,.mv (.t 0)⟩,
       ⟨(some 12),none,.mv (.t 5)⟩,
       ⟨(some 13),none,.sidx (.t 11) (.t 12)⟩,
       ⟨(some 14),none,.ibin .lss .u8 (.t 13) (.k (.c (.int .u8 33)))⟩,
       ⟨(some 15),none,.mv (.t 14)⟩,
       ⟨(some 16),(some (15,false)),.mv (.t 0)⟩,
       ⟨(some 17),(some (15,false)),.mv (.t 5)⟩,
       ⟨(some 18),(some (15,false)),.sidx (.t 16) (.t 17)⟩,
       ⟨(some 19),(some (15,false)),.ibin .gtr .u8 (.t 18) (.k (.c (.int .u8 126)))⟩,
       ⟨(some 20),none,.pick (.t 15) (.k (.c (.bool true))) (.t 19)⟩])
     (.cond (.t 20)
     (.seq (.region false [
        ⟨(some 4),none,.mv (.k (.c (.bool false)))⟩])
      .ret)
     .skip))))
    (.region false [
      ⟨(some 21),none,.ibin .add .i64 (.t 8) (.k (.c (.int .i64 1)))⟩,
      ⟨(some 8),none,.mv (.t 21)⟩])))))))
  (.seq (.region false [
    ⟨(some 22),none,.mv (.t 0)⟩,
    ⟨(some 23),none,.sbin .neq (.t 22) (.k (.c (.string ⟨#[]⟩)))⟩,
    ⟨(some 24),none,.mv (.t 23)⟩,
    ⟨(some 25),(some (24,true)),.mv (.t 0)⟩,
    ⟨(some 26),(some (24,true)),.slen (.t 25)⟩,
    ⟨(some 27),(some (24,true)),.mv (.t 1)⟩,
    ⟨(some 28),(some (24,true)),.ibin .leq .i64 (.t 26) (.t 27)⟩,
    ⟨(some 29),none,.pick (.t 24) (.t 28) (.k (.c (.bool false)))⟩,
    ⟨(some 4),none,.mv (.t 29)⟩])
  .ret)))}
theorem rf70_ok:lowF Tryz.prog 70=some rf70:=by kernel_rfl
def rf71:RFun:= { nt:=95,np:=1,res:= [.t 2],code :=
  (.seq (.region false [
    ⟨(some 1),none,.box 6 (.t 0)⟩,
    ⟨(some 2),none,.mv (.k (.c (.int .i64 0)))⟩])
  (.seq (.region false [
    ⟨(some 11),none,.faddr 0 (.t 1)⟩,
    ⟨(some 12),none,.load 1 false (.t 11)⟩,
    ⟨(some 13),none,.call 78 [.t 12]⟩,
    ⟨(some 10),none,.mv (.t 13)⟩,
    ⟨(some 14),none,.ext 0 (.t 10)⟩,
    ⟨(some 15),none,.ext 1 (.t 10)⟩,
    ⟨(some 3),none,.alloc [.c (.string ⟨#[]⟩),.c (.int .i64 0),.c (.bool false),.c (.bool false),.c (.int .i64 0)]⟩,
    ⟨none,none,.store 5 (.t 3) (.t 14)⟩,
    ⟨(some 4),none,.mv (.t 15)⟩])
  (.seq (.block 0
  (.seq (.region false [
     ⟨(some 17),none,.mv (.t 4)⟩,
     ⟨(some 18),none,.ibin .neq .i64 (.t 17) (.k (.c (.int .i64 0)))⟩,
     ⟨(some 16),none,.mv (.t 18)⟩])
   (.cond (.t 16)
   (.seq (.region false [
      ⟨(some 19),none,.mv (.t 4)⟩,
      ⟨(some 2),none,.mv (.t 19)⟩])
    .ret)
   (.seq (.region false [
      ⟨(some 21),none,.load 6 true (.t 1)⟩,
      ⟨(some 22),none,.call 79 [.t 21]⟩,
      ⟨(some 20),none,.mv (.t 22)⟩])
    (.cond (.t 20)
    (.seq (.region false [
       ⟨(some 2),none,.mv (.k (.c (.int .i64 3)))⟩])
     .ret)
    (.seq (.region false [
       ⟨(some 24),none,.faddr 1 (.t 1)⟩,
       ⟨(some 25),none,.load 1 false (.t 24)⟩,
       ⟨(some 26),none,.sbin .neq (.t 25) (.k (.c (.string ⟨#[]⟩)))⟩,
       ⟨(some 27),none,.mv (.t 26)⟩,
       ⟨(some 28),(some (27,true)),.faddr 1 (.t 3)⟩,
       ⟨(some 29),(some (27,true)),.load 1 false (.t 28)⟩,
       ⟨(some 30),(some (27,true)),.ibin .eql .i64 (.t 29) (.k (.c (.int .i64 1)))⟩,
       ⟨(some 31),none,.pick (.t 27) (.t 30) (.k (.c (.bool false)))⟩,
       ⟨(some 32),none,.mv (.t 31)⟩,
       ⟨(some 33),(some (32,false)),.faddr 1 (.t 1)⟩,
       ⟨(some 34),(some (32,false)),.load 1 false (.t 33)⟩,
       ⟨(some 35),(some (32,false)),.sbin .eql (.t 34) (.k (.c (.string ⟨#[]⟩)))⟩,
       ⟨(some 36),(some (32,false)),.mv (.t 35)⟩,
       ⟨(some 37),(some (36,true)),.faddr 1 (.t 3)⟩,
       ⟨(some 38),(some (36,true)),.load 1 false (.t 37)⟩,
       ⟨(some 39),(some (36,true)),.ibin .eql .i64 (.t 38) (.k (.c (.int .i64 3)))⟩,
       ⟨(some 40),(some (32,false)),.pick (.t 36) (.t 39) (.k (.c (.bool false)))⟩,
       ⟨(some 41),none,.pick (.t 32) (.k (.c (.bool true))) (.t 40)⟩,
       ⟨(some 23),none,.mv (.t 41)⟩])
     (.cond (.t 23)
     (.seq (.region false [
        ⟨(some 2),none,.mv (.k (.c (.int .i64 2)))⟩])
      .ret)
     (.seq (.region false [
        ⟨(some 43),none,.faddr 1 (.t 1)⟩,
        ⟨(some 44),none,.load 1 false (.t 43)⟩,
        ⟨(some 45),none,.call 81 [.t 44]⟩,
        ⟨(some 46),none,.call 80 [.t 45,.k (.c (.bool false))]⟩,
        ⟨(some 42),none,.mv (.t 46)⟩])
      (.cond (.t 42)
      (.seq (.region false [
         ⟨(some 2),none,.mv (.k (.c (.int .i64 2)))⟩])
       .ret)
      (.seq (.region false [
         ⟨(some 48),none,.faddr 2 (.t 1)⟩,
         ⟨(some 49),none,.load 1 false (.t 48)⟩,
         ⟨(some 50),none,.sbin .eql (.t 49) (.k (.c (.string ⟨#[]⟩)))⟩,
         ⟨(some 51),none,.mv (.t 50)⟩,
         ⟨(some 52),(some (51,false)),.faddr 2 (.t 1)⟩,
         ⟨(some 53),(some (51,false)),.load 1 false (.t 52)⟩,
         ⟨(some 54),(some (51,false)),.call 82 [.t 53,.k (.c (.int .u8 47))]⟩,
         ⟨(some 55),(some (51,false)),.ibin .geq .i64 (.t 54) (.k (.c (.int .i64 0)))⟩,
         ⟨(some 56),none,.pick (.t 51) (.k (.c (.bool true))) (.t 55)⟩,
         ⟨(some 47),none,.mv (.t 56)⟩])
       (.cond (.t 47)
       (.seq (.region false [
          ⟨(some 2),none,.mv (.k (.c (.int .i64 8)))⟩])
        .ret)
       .skip)))))))))))
  (.seq (.seq (.region false [
    ⟨(some 57),none,.faddr 4 (.t 1)⟩,
    ⟨(some 58),none,.load 1 false (.t 57)⟩,
    ⟨(some 59),none,.call 83 [.t 58]⟩,
    ⟨(some 5),none,.mv (.t 59)⟩])
  (.seq (.region false [
    ⟨(some 60),none,.mv (.t 5)⟩,
    ⟨(some 61),none,.ibin .neq .i64 (.t 60) (.k (.c (.int .i64 0)))⟩])
  (.cond (.t 61)
  (.seq (.region false [
     ⟨(some 62),none,.mv (.t 5)⟩,
     ⟨(some 2),none,.mv (.t 62)⟩])
   .ret)
  .skip)))
  (.seq (.seq (.region false [
    ⟨(some 63),none,.faddr 5 (.t 1)⟩,
    ⟨(some 64),none,.load 1 false (.t 63)⟩,
    ⟨(some 65),none,.call 81 [.t 64]⟩,
    ⟨(some 66),none,.call 80 [.t 65,.k (.c (.bool true))]⟩])
  (.cond (.t 66)
  (.seq (.region false [
     ⟨(some 2),none,.mv (.k (.c (.int .i64 2)))⟩])
   .ret)
  .skip))
  (.seq (.seq (.region false [
    ⟨(some 67),none,.faddr 1 (.t 1)⟩,
    ⟨(some 68),none,.load 1 false (.t 67)⟩,
    ⟨(some 69),none,.faddr 2 (.t 1)⟩,
    ⟨(some 70),none,.load 1 false (.t 69)⟩,
    ⟨(some 71),none,.faddr 3 (.t 1)⟩,
    ⟨(some 72),none,.load 1 false (.t 71)⟩,
    ⟨(some 73),none,.faddr 5 (.t 1)⟩,
    ⟨(some 74),none,.load 1 false (.t 73)⟩,
    ⟨(some 75),none,.bslice 1 [.c (.string ⟨#[]⟩)] 4 [(0,.t 68),(1,.t 70),(2,.t 72),(3,.t 74)]⟩,
    ⟨(some 76),none,.len (.t 75)⟩,
    ⟨(some 77),none,.mv (.k (.c (.int .i64 0)))⟩])
  (.block 1
  (.loop
   (.seq (.region false [
      ⟨(some 78),none,.ibin .lss .i64 (.t 77) (.t 76)⟩])
    (.seq (.cond (.t 78)
    .skip
    (.exit 1))
    (.seq (.block 2
    (.seq (.region false [
       ⟨(some 79),none,.iaddr 1 (.t 75) (.t 77)⟩,
       ⟨(some 80),none,.load 1 false (.t 79)⟩,
       ⟨(some 7),none,.mv (.t 80)⟩])
     (.seq (.region false [
       ⟨(some 81),none,.mv (.t 7)⟩,
       ⟨(some 82),none,.call 84 [.t 81]⟩])
     (.cond (.t 82)
     (.seq (.region false [
        ⟨(some 2),none,.mv (.k (.c (.int .i64 8)))⟩])
      .ret)
     .skip))))
    (.region false [
      ⟨(some 83),none,.ibin .add .i64 (.t 77) (.k (.c (.int .i64 1)))⟩,
      ⟨(some 77),none,.mv (.t 83)⟩])))))))
  (.seq (.seq (.region false [
    ⟨(some 84),none,.faddr 4 (.t 1)⟩,
    ⟨(some 85),none,.load 1 false (.t 84)⟩,
    ⟨(some 86),none,.len (.t 85)⟩,
    ⟨(some 87),none,.mv (.k (.c (.int .i64 0)))⟩])
  (.block 3
  (.loop
   (.seq (.region false [
      ⟨(some 88),none,.ibin .lss .i64 (.t 87) (.t 86)⟩])
    (.seq (.cond (.t 88)
    .skip
    (.exit 3))
    (.seq (.block 4
    (.seq (.region false [
       ⟨(some 89),none,.iaddr 2 (.t 85) (.t 87)⟩,
       ⟨(some 90),none,.load 2 true (.t 89)⟩,
       ⟨(some 9),none,.alloc [.c (.string ⟨#[]⟩),.c (.string ⟨#[]⟩)]⟩,
       ⟨none,none,.store 2 (.t 9) (.t 90)⟩])
     (.seq (.region false [
       ⟨(some 91),none,.faddr 1 (.t 9)⟩,
       ⟨(some 92),none,.load 1 false (.t 91)⟩,
       ⟨(some 93),none,.call 84 [.t 92]⟩])
     (.cond (.t 93)
     (.seq (.region false [
        ⟨(some 2),none,.mv (.k (.c (.int .i64 8)))⟩])
      .ret)
     .skip))))
    (.region false [
      ⟨(some 94),none,.ibin .add .i64 (.t 87) (.k (.c (.int .i64 1)))⟩,
      ⟨(some 87),none,.mv (.t 94)⟩])))))))
  (.seq (.region false [
    ⟨(some 2),none,.mv (.k (.c (.int .i64 0)))⟩])
  .ret))))))))}
theorem rf71_ok:lowF Tryz.prog 71=some rf71:=by kernel_rfl
def rf72:RFun:= { nt:=49,np:=1,res:= [.t 2],code :=
  (.seq (.region false [
    ⟨(some 2),none,.mv (.k (.c (.int .i64 0)))⟩])
  (.seq (.seq (.region false [
    ⟨(some 6),none,.mv (.t 0)⟩,
    ⟨(some 7),none,.len (.t 6)⟩,
    ⟨(some 8),none,.ibin .gtr .i64 (.t 7) (.k (.c (.int .i64 4)))⟩])
  (.cond (.t 8)
  (.seq (.region false [
     ⟨(some 2),none,.mv (.k (.c (.int .i64 3)))⟩])
   .ret)
  .skip))
  (.seq (.seq (.region false [
    ⟨(some 9),none,.mv (.t 0)⟩,
    ⟨(some 10),none,.len (.t 9)⟩,
    ⟨(some 11),none,.mv (.k (.c (.int .i64 0)))⟩])
  (.block 0
  (.loop
   (.seq (.region false [
      ⟨(some 12),none,.ibin .lss .i64 (.t 11) (.t 10)⟩])
    (.seq (.cond (.t 12)
    .skip
    (.exit 0))
    (.seq (.block 1
    (.seq (.region false [
       ⟨(some 13),none,.mv (.t 11)⟩,
       ⟨(some 14),none,.iaddr 2 (.t 9) (.t 11)⟩,
       ⟨(some 15),none,.load 2 true (.t 14)⟩,
       ⟨(some 4),none,.alloc [.c (.string ⟨#[]⟩),.c (.string ⟨#[]⟩)]⟩,
       ⟨(some 3),none,.mv (.t 13)⟩,
       ⟨none,none,.store 2 (.t 4) (.t 15)⟩])
     (.seq (.region false [
       ⟨(some 5),none,.mv (.k (.c (.int .i64 64)))⟩])
     (.seq (.seq (.region false [
       ⟨(some 16),none,.faddr 0 (.t 4)⟩,
       ⟨(some 17),none,.load 1 false (.t 16)⟩,
       ⟨(some 18),none,.sbin .eql (.t 17) (.k (.c (.string ⟨#[115,117,109,54,52]⟩)))⟩])
     (.cond (.t 18)
     (.region false [
        ⟨(some 5),none,.mv (.k (.c (.int .i64 16)))⟩])
     .skip))
     (.block 2
     (.seq (.region false [
        ⟨(some 20),none,.faddr 0 (.t 4)⟩,
        ⟨(some 21),none,.load 1 false (.t 20)⟩,
        ⟨(some 22),none,.sbin .neq (.t 21) (.k (.c (.string ⟨#[115,104,97,50,53,54]⟩)))⟩,
        ⟨(some 23),none,.mv (.t 22)⟩,
        ⟨(some 24),(some (23,true)),.faddr 0 (.t 4)⟩,
        ⟨(some 25),(some (23,true)),.load 1 false (.t 24)⟩,
        ⟨(some 26),(some (23,true)),.sbin .neq (.t 25) (.k (.c (.string ⟨#[115,117,109,54,52]⟩)))⟩,
        ⟨(some 27),none,.pick (.t 23) (.t 26) (.k (.c (.bool false)))⟩,
        ⟨(some 19),none,.mv (.t 27)⟩])
      (.cond (.t 19)
      (.seq (.region false [
         ⟨(some 2),none,.mv (.k (.c (.int .i64 7)))⟩])
       .ret)
      (.seq (.region false [
         ⟨(some 29),none,.faddr 1 (.t 4)⟩,
         ⟨(some 30),none,.load 1 false (.t 29)⟩,
         ⟨(some 31),none,.mv (.t 5)⟩,
         ⟨(some 32),none,.call 85 [.t 30,.t 31]⟩,
         ⟨(some 33),none,.not (.t 32)⟩,
         ⟨(some 28),none,.mv (.t 33)⟩])
       (.cond (.t 28)
       (.seq (.region false [
          ⟨(some 2),none,.mv (.k (.c (.int .i64 2)))⟩])
        .ret)
       (.seq (.region true [
          ⟨(some 35),none,.mv (.t 3)⟩,
          ⟨(some 36),none,.ibin .gtr .i64 (.t 35) (.k (.c (.int .i64 0)))⟩,
          ⟨(some 37),none,.mv (.t 36)⟩,
          ⟨(some 38),(some (37,true)),.faddr 0 (.t 4)⟩,
          ⟨(some 39),(some (37,true)),.load 1 false (.t 38)⟩,
          ⟨(some 40),(some (37,true)),.mv (.t 0)⟩,
          ⟨(some 41),(some (37,true)),.mv (.t 3)⟩,
          ⟨(some 42),(some (37,true)),.ibin .sub .i64 (.t 41) (.k (.c (.int .i64 1)))⟩,
          ⟨(some 43),(some (37,true)),.iaddr 2 (.t 40) (.t 42)⟩,
          ⟨(some 44),(some (37,true)),.faddr 0 (.t 43)⟩,
          ⟨(some 45),(some (37,true)),.load 1 false (.t 44)⟩,
          ⟨(some 46),(some (37,true)),.sbin .leq (.t 39) (.t 45)⟩,
          ⟨(some 47),none,.pick (.t 37) (.t 46) (.k (.c (.bool false)))⟩,
          ⟨(some 34),none,.mv (.t 47)⟩])
        (.cond (.t 34)
        (.seq (.region false [
           ⟨(some 2),none,.mv (.k (.c (.int .i64 10)))⟩])
         .ret)
        .skip)))))))))))
    (.region false [
      ⟨(some 48),none,.ibin .add .i64 (.t 11) (.k (.c (.int .i64 1)))⟩,
      ⟨(some 11),none,.mv (.t 48)⟩])))))))
  (.seq (.region false [
    ⟨(some 2),none,.mv (.k (.c (.int .i64 0)))⟩])
  .ret))))}
theorem rf72_ok:lowF Tryz.prog 72=some rf72:=by kernel_rfl
def rf74:RFun:= { nt:=39,np:=2,res:= [.t 4],code :=
  (.seq (.region false [
    ⟨(some 2),none,.box 2 (.t 0)⟩,
    ⟨(some 4),none,.mv (.k (.c (.int .i64 0)))⟩])
  (.seq (.seq (.region false [
    ⟨(some 7),none,.mv (.t 1)⟩,
    ⟨(some 8),none,.len (.t 7)⟩,
    ⟨(some 9),none,.ibin .gtr .i64 (.t 8) (.k (.c (.int .i64 100)))⟩])
  (.cond (.t 9)
  (.seq (.region false [
     ⟨(some 4),none,.mv (.k (.c (.int .i64 3)))⟩])
   .ret)
  .skip))
  (.seq (.seq (.region false [
    ⟨(some 10),none,.mv (.t 1)⟩,
    ⟨(some 11),none,.len (.t 10)⟩,
    ⟨(some 12),none,.mv (.k (.c (.int .i64 0)))⟩])
  (.block 0
  (.loop
   (.seq (.region false [
      ⟨(some 13),none,.ibin .lss .i64 (.t 12) (.t 11)⟩])
    (.seq (.cond (.t 13)
    .skip
    (.exit 0))
    (.seq (.block 1
    (.seq (.region false [
       ⟨(some 14),none,.mv (.t 12)⟩,
       ⟨(some 15),none,.iaddr 1 (.t 10) (.t 12)⟩,
       ⟨(some 16),none,.load 1 false (.t 15)⟩,
       ⟨(some 5),none,.mv (.t 14)⟩,
       ⟨(some 6),none,.mv (.t 16)⟩])
     (.block 2
     (.seq (.region false [
        ⟨(some 18),none,.mv (.t 6)⟩,
        ⟨(some 19),none,.call 70 [.t 18,.k (.c (.int .i64 200))]⟩,
        ⟨(some 20),none,.not (.t 19)⟩,
        ⟨(some 17),none,.mv (.t 20)⟩])
      (.cond (.t 17)
      (.seq (.region false [
         ⟨(some 4),none,.mv (.k (.c (.int .i64 8)))⟩])
       .ret)
      (.seq (.region false [
         ⟨(some 22),none,.faddr 0 (.t 2)⟩,
         ⟨(some 23),none,.load 1 false (.t 22)⟩,
         ⟨(some 24),none,.not (.t 23)⟩,
         ⟨(some 25),none,.mv (.t 24)⟩,
         ⟨(some 26),(some (25,true)),.mv (.t 5)⟩,
         ⟨(some 27),(some (25,true)),.ibin .gtr .i64 (.t 26) (.k (.c (.int .i64 0)))⟩,
         ⟨(some 28),none,.pick (.t 25) (.t 27) (.k (.c (.bool false)))⟩,
         ⟨(some 29),none,.mv (.t 28)⟩,
         ⟨(some 30),(some (29,true)),.mv (.t 6)⟩,
         ⟨(some 31),(some (29,true)),.mv (.t 1)⟩,
         ⟨(some 32),(some (29,true)),.mv (.t 5)⟩,
         ⟨(some 33),(some (29,true)),.ibin .sub .i64 (.t 32) (.k (.c (.int .i64 1)))⟩,
         ⟨(some 34),(some (29,true)),.iaddr 1 (.t 31) (.t 33)⟩,
         ⟨(some 35),(some (29,true)),.load 1 false (.t 34)⟩,
         ⟨(some 36),(some (29,true)),.sbin .leq (.t 30) (.t 35)⟩,
         ⟨(some 37),none,.pick (.t 29) (.t 36) (.k (.c (.bool false)))⟩,
         ⟨(some 21),none,.mv (.t 37)⟩])
       (.cond (.t 21)
       (.seq (.region false [
          ⟨(some 4),none,.mv (.k (.c (.int .i64 10)))⟩])
        .ret)
       .skip)))))))
    (.region false [
      ⟨(some 38),none,.ibin .add .i64 (.t 12) (.k (.c (.int .i64 1)))⟩,
      ⟨(some 12),none,.mv (.t 38)⟩])))))))
  (.seq (.region false [
    ⟨(some 4),none,.mv (.k (.c (.int .i64 0)))⟩])
  .ret))))}
theorem rf74_ok:lowF Tryz.prog 74=some rf74:=by kernel_rfl
def rf78:RFun:= { nt:=13,np:=1,res:= [.c 2 5 true,.t 3],code :=
  (.seq (.region false [
    ⟨(some 2),none,.alloc [.c (.string ⟨#[]⟩),.c (.int .i64 0),.c (.bool false),.c (.bool false),.c (.int .i64 0)]⟩,
    ⟨(some 3),none,.mv (.k (.c (.int .i64 0)))⟩])
  (.seq (.region false [
    ⟨(some 5),none,.mv (.t 0)⟩,
    ⟨(some 6),none,.call 88 [.t 5]⟩,
    ⟨(some 4),none,.mv (.t 6)⟩])
  (.seq (.seq (.region false [
    ⟨(some 7),none,.mv (.t 4)⟩,
    ⟨(some 8),none,.ibin .lss .i64 (.t 7) (.k (.c (.int .i64 0)))⟩])
  (.cond (.t 8)
  (.seq (.region false [
     ⟨(some 9),none,.build [.c (.string ⟨#[]⟩),.c (.int .i64 0),.c (.bool false),.c (.bool false),.c (.int .i64 0)] []⟩,
     ⟨none,none,.store 5 (.t 2) (.t 9)⟩,
     ⟨(some 3),none,.mv (.k (.c (.int .i64 7)))⟩])
   .ret)
  .skip))
  (.seq (.region false [
    ⟨(some 10),none,.call 89 []⟩,
    ⟨(some 11),none,.mv (.t 4)⟩,
    ⟨(some 12),none,.aidx 5 5 true (.t 10) (.t 11)⟩,
    ⟨none,none,.store 5 (.t 2) (.t 12)⟩,
    ⟨(some 3),none,.mv (.k (.c (.int .i64 0)))⟩])
  .ret))))}
theorem rf78_ok:lowF Tryz.prog 78=some rf78:=by kernel_rfl
def rf79:RFun:= { nt:=47,np:=1,res:= [.t 2],code :=
  (.seq (.region false [
    ⟨(some 1),none,.box 6 (.t 0)⟩,
    ⟨(some 2),none,.mv (.k (.c (.bool false)))⟩])
  (.seq (.seq (.region false [
    ⟨(some 7),none,.faddr 1 (.t 1)⟩,
    ⟨(some 8),none,.load 1 false (.t 7)⟩,
    ⟨(some 9),none,.faddr 2 (.t 1)⟩,
    ⟨(some 10),none,.load 1 false (.t 9)⟩,
    ⟨(some 11),none,.faddr 3 (.t 1)⟩,
    ⟨(some 12),none,.load 1 false (.t 11)⟩,
    ⟨(some 13),none,.faddr 5 (.t 1)⟩,
    ⟨(some 14),none,.load 1 false (.t 13)⟩,
    ⟨(some 15),none,.bslice 1 [.c (.string ⟨#[]⟩)] 4 [(0,.t 8),(1,.t 10),(2,.t 12),(3,.t 14)]⟩,
    ⟨(some 16),none,.len (.t 15)⟩,
    ⟨(some 17),none,.mv (.k (.c (.int .i64 0)))⟩])
  (.block 0
  (.loop
   (.seq (.region false [
      ⟨(some 18),none,.ibin .lss .i64 (.t 17) (.t 16)⟩])
    (.seq (.cond (.t 18)
    .skip
    (.exit 0))
    (.seq (.block 1
    (.seq (.region false [
       ⟨(some 19),none,.iaddr 1 (.t 15) (.t 17)⟩,
       ⟨(some 20),none,.load 1 false (.t 19)⟩,
       ⟨(some 4),none,.mv (.t 20)⟩])
     (.seq (.region false [
       ⟨(some 21),none,.mv (.t 4)⟩,
       ⟨(some 22),none,.slen (.t 21)⟩,
       ⟨(some 23),none,.ibin .gtr .i64 (.t 22) (.k (.c (.int .i64 200)))⟩])
     (.cond (.t 23)
     (.seq (.region false [
        ⟨(some 2),none,.mv (.k (.c (.bool true)))⟩])
      .ret)
     .skip))))
    (.region false [
      ⟨(some 24),none,.ibin .add .i64 (.t 17) (.k (.c (.int .i64 1)))⟩,
      ⟨(some 17),none,.mv (.t 24)⟩])))))))
  (.seq (.seq (.region false [
    ⟨(some 25),none,.faddr 4 (.t 1)⟩,
    ⟨(some 26),none,.load 1 false (.t 25)⟩,
    ⟨(some 27),none,.len (.t 26)⟩,
    ⟨(some 28),none,.mv (.k (.c (.int .i64 0)))⟩])
  (.block 2
  (.loop
   (.seq (.region false [
      ⟨(some 29),none,.ibin .lss .i64 (.t 28) (.t 27)⟩])
    (.seq (.cond (.t 29)
    .skip
    (.exit 2))
    (.seq (.block 3
    (.seq (.region false [
       ⟨(some 30),none,.iaddr 2 (.t 26) (.t 28)⟩,
       ⟨(some 31),none,.load 2 true (.t 30)⟩,
       ⟨(some 6),none,.alloc [.c (.string ⟨#[]⟩),.c (.string ⟨#[]⟩)]⟩,
       ⟨none,none,.store 2 (.t 6) (.t 31)⟩])
     (.seq (.region false [
       ⟨(some 32),none,.faddr 0 (.t 6)⟩,
       ⟨(some 33),none,.load 1 false (.t 32)⟩,
       ⟨(some 34),none,.slen (.t 33)⟩,
       ⟨(some 35),none,.ibin .gtr .i64 (.t 34) (.k (.c (.int .i64 200)))⟩,
       ⟨(some 36),none,.mv (.t 35)⟩,
       ⟨(some 37),(some (36,false)),.faddr 1 (.t 6)⟩,
       ⟨(some 38),(some (36,false)),.load 1 false (.t 37)⟩,
       ⟨(some 39),(some (36,false)),.slen (.t 38)⟩,
       ⟨(some 40),(some (36,false)),.ibin .gtr .i64 (.t 39) (.k (.c (.int .i64 200)))⟩,
       ⟨(some 41),none,.pick (.t 36) (.k (.c (.bool true))) (.t 40)⟩])
     (.cond (.t 41)
     (.seq (.region false [
        ⟨(some 2),none,.mv (.k (.c (.bool true)))⟩])
      .ret)
     .skip))))
    (.region false [
      ⟨(some 42),none,.ibin .add .i64 (.t 28) (.k (.c (.int .i64 1)))⟩,
      ⟨(some 28),none,.mv (.t 42)⟩])))))))
  (.seq (.region false [
    ⟨(some 43),none,.faddr 4 (.t 1)⟩,
    ⟨(some 44),none,.load 1 false (.t 43)⟩,
    ⟨(some 45),none,.len (.t 44)⟩,
    ⟨(some 46),none,.ibin .gtr .i64 (.t 45) (.k (.c (.int .i64 10)))⟩,
    ⟨(some 2),none,.mv (.t 46)⟩])
  .ret))))}
theorem rf79_ok:lowF Tryz.prog 79=some rf79:=by kernel_rfl
def rf80:RFun:= { nt:=30,np:=2,res:= [.t 4],code :=
  (.seq (.region false [
    ⟨(some 4),none,.mv (.k (.c (.bool false)))⟩])
  (.seq (.seq (.region false [
    ⟨(some 7),none,.mv (.t 0)⟩,
    ⟨(some 8),none,.len (.t 7)⟩,
    ⟨(some 9),none,.mv (.k (.c (.int .i64 0)))⟩])
  (.block 0
  (.loop
   (.seq (.region false [
      ⟨(some 10),none,.ibin .lss .i64 (.t 9) (.t 8)⟩])
    (.seq (.cond (.t 10)
    .skip
    (.exit 0))
    (.seq (.block 1
    (.seq (.region false [
       ⟨(some 11),none,.iaddr 1 (.t 7) (.t 9)⟩,
       ⟨(some 12),none,.load 1 false (.t 11)⟩,
       ⟨(some 6),none,.mv (.t 12)⟩])
     (.seq (.region false [
       ⟨(some 13),none,.mv (.t 6)⟩,
       ⟨(some 14),none,.sbin .eql (.t 13) (.k (.c (.string ⟨#[]⟩)))⟩,
       ⟨(some 15),none,.mv (.t 14)⟩,
       ⟨(some 16),(some (15,false)),.mv (.t 1)⟩,
       ⟨(some 17),(some (15,false)),.mv (.t 16)⟩,
       ⟨(some 18),(some (17,true)),.mv (.t 6)⟩,
       ⟨(some 19),(some (17,true)),.sbin .eql (.t 18) (.k (.c (.string ⟨#[46]⟩)))⟩,
       ⟨(some 20),(some (17,true)),.mv (.t 19)⟩,
       ⟨(some 21),(some (20,false)),.mv (.t 6)⟩,
       ⟨(some 22),(some (20,false)),.sbin .eql (.t 21) (.k (.c (.string ⟨#[46,46]⟩)))⟩,
       ⟨(some 23),(some (17,true)),.pick (.t 20) (.k (.c (.bool true))) (.t 22)⟩,
       ⟨(some 24),(some (15,false)),.pick (.t 17) (.t 23) (.k (.c (.bool false)))⟩,
       ⟨(some 25),none,.pick (.t 15) (.k (.c (.bool true))) (.t 24)⟩])
     (.cond (.t 25)
     (.seq (.region false [
        ⟨(some 4),none,.mv (.k (.c (.bool true)))⟩])
      .ret)
     .skip))))
    (.region false [
      ⟨(some 26),none,.ibin .add .i64 (.t 9) (.k (.c (.int .i64 1)))⟩,
      ⟨(some 9),none,.mv (.t 26)⟩])))))))
  (.seq (.region false [
    ⟨(some 27),none,.mv (.t 0)⟩,
    ⟨(some 28),none,.len (.t 27)⟩,
    ⟨(some 29),none,.ibin .gtr .i64 (.t 28) (.k (.c (.int .i64 10)))⟩,
    ⟨(some 4),none,.mv (.t 29)⟩])
  .ret)))}
theorem rf80_ok:lowF Tryz.prog 80=some rf80:=by kernel_rfl
def rf81:RFun:= { nt:=7,np:=1,res:= [.t 2],code :=
  (.seq (.region false [
    ⟨(some 2),none,.mv (.k (.c (.slice none 0 0)))⟩])
  (.seq (.seq (.region false [
    ⟨(some 3),none,.mv (.t 0)⟩,
    ⟨(some 4),none,.sbin .eql (.t 3) (.k (.c (.string ⟨#[]⟩)))⟩])
  (.cond (.t 4)
  (.seq (.region false [
     ⟨(some 2),none,.mv (.k (.c (.slice none 0 0)))⟩])
   .ret)
  .skip))
  (.seq (.region false [
    ⟨(some 5),none,.mv (.t 0)⟩,
    ⟨(some 6),none,.call 90 [.t 5,.k (.c (.string ⟨#[47]⟩))]⟩,
    ⟨(some 2),none,.mv (.t 6)⟩])
  .ret)))}
theorem rf81_ok:lowF Tryz.prog 81=some rf81:=by kernel_rfl
def rf83:RFun:= { nt:=36,np:=1,res:= [.t 2],code :=
  (.seq (.region false [
    ⟨(some 2),none,.mv (.k (.c (.int .i64 0)))⟩])
  (.seq (.seq (.region false [
    ⟨(some 5),none,.mv (.t 0)⟩,
    ⟨(some 6),none,.len (.t 5)⟩,
    ⟨(some 7),none,.mv (.k (.c (.int .i64 0)))⟩])
  (.block 0
  (.loop
   (.seq (.region false [
      ⟨(some 8),none,.ibin .lss .i64 (.t 7) (.t 6)⟩])
    (.seq (.cond (.t 8)
    .skip
    (.exit 0))
    (.seq (.block 1
    (.seq (.region false [
       ⟨(some 9),none,.mv (.t 7)⟩,
       ⟨(some 10),none,.iaddr 2 (.t 5) (.t 7)⟩,
       ⟨(some 11),none,.load 2 true (.t 10)⟩,
       ⟨(some 4),none,.alloc [.c (.string ⟨#[]⟩),.c (.string ⟨#[]⟩)]⟩,
       ⟨(some 3),none,.mv (.t 9)⟩,
       ⟨none,none,.store 2 (.t 4) (.t 11)⟩])
     (.block 2
     (.seq (.region false [
        ⟨(some 13),none,.faddr 0 (.t 4)⟩,
        ⟨(some 14),none,.load 1 false (.t 13)⟩,
        ⟨(some 15),none,.call 92 [.t 14]⟩,
        ⟨(some 16),none,.not (.t 15)⟩,
        ⟨(some 12),none,.mv (.t 16)⟩])
      (.cond (.t 12)
      (.seq (.region false [
         ⟨(some 2),none,.mv (.k (.c (.int .i64 8)))⟩])
       .ret)
      (.seq (.region false [
         ⟨(some 18),none,.faddr 1 (.t 4)⟩,
         ⟨(some 19),none,.load 1 false (.t 18)⟩,
         ⟨(some 20),none,.sbin .eql (.t 19) (.k (.c (.string ⟨#[]⟩)))⟩,
         ⟨(some 17),none,.mv (.t 20)⟩])
       (.cond (.t 17)
       (.seq (.region false [
          ⟨(some 2),none,.mv (.k (.c (.int .i64 2)))⟩])
        .ret)
       (.seq (.region true [
          ⟨(some 22),none,.mv (.t 3)⟩,
          ⟨(some 23),none,.ibin .gtr .i64 (.t 22) (.k (.c (.int .i64 0)))⟩,
          ⟨(some 24),none,.mv (.t 23)⟩,
          ⟨(some 25),(some (24,true)),.faddr 0 (.t 4)⟩,
          ⟨(some 26),(some (24,true)),.load 1 false (.t 25)⟩,
          ⟨(some 27),(some (24,true)),.mv (.t 0)⟩,
          ⟨(some 28),(some (24,true)),.mv (.t 3)⟩,
          ⟨(some 29),(some (24,true)),.ibin .sub .i64 (.t 28) (.k (.c (.int .i64 1)))⟩,
          ⟨(some 30),(some (24,true)),.iaddr 2 (.t 27) (.t 29)⟩,
          ⟨(some 31),(some (24,true)),.faddr 0 (.t 30)⟩,
          ⟨(some 32),(some (24,true)),.load 1 false (.t 31)⟩,
          ⟨(some 33),(some (24,true)),.sbin .leq (.t 26) (.t 32)⟩,
          ⟨(some 34),none,.pick (.t 24) (.t 33) (.k (.c (.bool false)))⟩,
          ⟨(some 21),none,.mv (.t 34)⟩])
        (.cond (.t 21)
        (.seq (.region false [
           ⟨(some 2),none,.mv (.k (.c (.int .i64 10)))⟩])
         .ret)
        .skip)))))))))
    (.region false [
      ⟨(some 35),none,.ibin .add .i64 (.t 7) (.k (.c (.int .i64 1)))⟩,
      ⟨(some 7),none,.mv (.t 35)⟩])))))))
  (.seq (.region false [
    ⟨(some 2),none,.mv (.k (.c (.int .i64 0)))⟩])
  .ret)))}
theorem rf83_ok:lowF Tryz.prog 83=some rf83:=by kernel_rfl
def rf84:RFun:= { nt:=20,np:=1,res:= [.t 2],code :=
  (.seq (.region false [
    ⟨(some 2),none,.mv (.k (.c (.bool false)))⟩])
  (.seq (.seq (.region false [
    ⟨(some 4),none,.mv (.t 0)⟩,
    ⟨(some 5),none,.slen (.t 4)⟩,
    ⟨(some 6),none,.mv (.k (.c (.int .i64 0)))⟩])
  (.block 0
  (.loop
   (.seq (.region false [
      ⟨(some 7),none,.ibin .lss .i64 (.t 6) (.t 5)⟩])
    (.seq (.cond (.t 7)
    .skip
    (.exit 0))
    (.seq (.block 1
    (.seq (.region false [
       ⟨(some 8),none,.mv (.t 6)⟩,
       ⟨(some 3),none,.mv (.t 8)⟩])
     (.seq (.region false [
       ⟨(some 9),none,.mv (.t 0)⟩,
       ⟨(some 10),none,.mv (.t 3)⟩,
       ⟨(some 11),none,.sidx (.t 9) (.t 10)⟩,
       ⟨(some 12),none,.ibin .lss .u8 (.t 11) (.k (.c (.int .u8 32)))⟩,
       ⟨(some 13),none,.mv (.t 12)⟩,
       ⟨(some 14),(some (13,false)),.mv (.t 0)⟩,
       ⟨(some 15),(some (13,false)),.mv (.t 3)⟩,
       ⟨(some 16),(some (13,false)),.sidx (.t 14) (.t 15)⟩,
       ⟨(some 17),(some (13,false)),.ibin .eql .u8 (.t 16) (.k (.c (.int .u8 127)))⟩,
       ⟨(some 18),none,.pick (.t 13) (.k (.c (.bool true))) (.t 17)⟩])
     (.cond (.t 18)
     (.seq (.region false [
        ⟨(some 2),none,.mv (.k (.c (.bool true)))⟩])
      .ret)
     .skip))))
    (.region false [
      ⟨(some 19),none,.ibin .add .i64 (.t 6) (.k (.c (.int .i64 1)))⟩,
      ⟨(some 6),none,.mv (.t 19)⟩])))))))
  (.seq (.region false [
    ⟨(some 2),none,.mv (.k (.c (.bool false)))⟩])
  .ret)))}
theorem rf84_ok:lowF Tryz.prog 84=some rf84:=by kernel_rfl
def rf88:RFun:= { nt:=16,np:=1,res:= [.t 2],code :=
  (.seq (.region false [
    ⟨(some 2),none,.mv (.k (.c (.int .i64 0)))⟩])
  (.seq (.seq (.region false [
    ⟨(some 5),none,.call 89 []⟩,
    ⟨(some 6),none,.mv (.k (.c (.int .i64 0)))⟩])
  (.block 0
  (.loop
   (.seq (.region false [
      ⟨(some 7),none,.ibin .lss .i64 (.t 6) (.k (.c (.int .i64 5)))⟩])
    (.seq (.cond (.t 7)
    .skip
    (.exit 0))
    (.seq (.block 1
    (.seq (.region false [
       ⟨(some 8),none,.mv (.t 6)⟩,
       ⟨(some 9),none,.aidx 5 5 true (.t 5) (.t 6)⟩,
       ⟨(some 4),none,.alloc [.c (.string ⟨#[]⟩),.c (.int .i64 0),.c (.bool false),.c (.bool false),.c (.int .i64 0)]⟩,
       ⟨(some 3),none,.mv (.t 8)⟩,
       ⟨none,none,.store 5 (.t 4) (.t 9)⟩])
     (.seq (.region false [
       ⟨(some 10),none,.faddr 0 (.t 4)⟩,
       ⟨(some 11),none,.load 1 false (.t 10)⟩,
       ⟨(some 12),none,.mv (.t 0)⟩,
       ⟨(some 13),none,.sbin .eql (.t 11) (.t 12)⟩])
     (.cond (.t 13)
     (.seq (.region false [
        ⟨(some 14),none,.mv (.t 3)⟩,
        ⟨(some 2),none,.mv (.t 14)⟩])
      .ret)
     .skip))))
    (.region false [
      ⟨(some 15),none,.ibin .add .i64 (.t 6) (.k (.c (.int .i64 1)))⟩,
      ⟨(some 6),none,.mv (.t 15)⟩])))))))
  (.seq (.region false [
    ⟨(some 2),none,.mv (.k (.c (.int .i64 (-1))))⟩])
  .ret)))}
theorem rf88_ok:lowF Tryz.prog 88=some rf88:=by kernel_rfl
def rf89:RFun:= { nt:=7,np:=0,res:= [.c 0 25 true],code :=
  (.seq (.region false [
    ⟨(some 0),none,.alloc [.c (.string ⟨#[]⟩),.c (.int .i64 0),.c (.bool false),.c (.bool false),.c (.int .i64 0),.c (.string ⟨#[]⟩),.c (.int .i64 0),.c (.bool false),.c (.bool false),.c (.int .i64 0),.c (.string ⟨#[]⟩),.c (.int .i64 0),.c (.bool false),.c (.bool false),.c (.int .i64 0),.c (.string ⟨#[]⟩),.c (.int .i64 0),.c (.bool false),.c (.bool false),.c (.int .i64 0),.c (.string ⟨#[]⟩),.c (.int .i64 0),.c (.bool false),.c (.bool false),.c (.int .i64 0)]⟩])
  (.seq (.region false [
    ⟨(some 1),none,.build [.c (.string ⟨#[]⟩),.c (.int .i64 0),.c (.bool false),.c (.bool false),.c (.int .i64 0)] [(0,1,.k (.c (.string ⟨#[100,111,116,116,101,100]⟩))),(1,1,.k (.c (.int .i64 2))),(2,1,.k (.c (.bool true))),(4,1,.k (.c (.int .i64 1)))]⟩,
    ⟨(some 2),none,.build [.c (.string ⟨#[]⟩),.c (.int .i64 0),.c (.bool false),.c (.bool false),.c (.int .i64 0)] [(0,1,.k (.c (.string ⟨#[114,101,118,105,115,101,100]⟩))),(1,1,.k (.c (.int .i64 3))),(2,1,.k (.c (.bool true))),(4,1,.k (.c (.int .i64 2)))]⟩,
    ⟨(some 3),none,.build [.c (.string ⟨#[]⟩),.c (.int .i64 0),.c (.bool false),.c (.bool false),.c (.int .i64 0)] [(0,1,.k (.c (.string ⟨#[115,116,97,103,101,100]⟩))),(1,1,.k (.c (.int .i64 1))),(2,1,.k (.c (.bool true))),(3,1,.k (.c (.bool true))),(4,1,.k (.c (.int .i64 3)))]⟩,
    ⟨(some 4),none,.build [.c (.string ⟨#[]⟩),.c (.int .i64 0),.c (.bool false),.c (.bool false),.c (.int .i64 0)] [(0,1,.k (.c (.string ⟨#[113,117,97,108,105,102,105,101,100]⟩))),(1,1,.k (.c (.int .i64 3))),(4,1,.k (.c (.int .i64 4)))]⟩,
    ⟨(some 5),none,.build [.c (.string ⟨#[]⟩),.c (.int .i64 0),.c (.bool false),.c (.bool false),.c (.int .i64 0)] [(0,1,.k (.c (.string ⟨#[112,108,97,105,110]⟩))),(1,1,.k (.c (.int .i64 2))),(4,1,.k (.c (.int .i64 5)))]⟩,
    ⟨(some 6),none,.build [.c (.string ⟨#[]⟩),.c (.int .i64 0),.c (.bool false),.c (.bool false),.c (.int .i64 0),.c (.string ⟨#[]⟩),.c (.int .i64 0),.c (.bool false),.c (.bool false),.c (.int .i64 0),.c (.string ⟨#[]⟩),.c (.int .i64 0),.c (.bool false),.c (.bool false),.c (.int .i64 0),.c (.string ⟨#[]⟩),.c (.int .i64 0),.c (.bool false),.c (.bool false),.c (.int .i64 0),.c (.string ⟨#[]⟩),.c (.int .i64 0),.c (.bool false),.c (.bool false),.c (.int .i64 0)] [(0,5,.t 1),(5,5,.t 2),(10,5,.t 3),(15,5,.t 4),(20,5,.t 5)]⟩,
    ⟨none,none,.store 25 (.t 0) (.t 6)⟩])
  .ret))}
theorem rf89_ok:lowF Tryz.prog 89=some rf89:=by kernel_rfl
def tblT:List (Nat × RFun):= [(6,rf6),(15,rf15),(18,rf18),(19,rf19),(33,rf33),(34,rf34),(35,rf35),(36,rf36),(37,rf37),(38,rf38),(39,rf39),(49,rf49),(50,rf50),(51,rf51),(52,rf52),(57,rf57),(58,rf58),(65,rf65),(66,rf66),(67,rf67),(70,rf70),(71,rf71),(72,rf72),(74,rf74),(78,rf78),(79,rf79),(80,rf80),(81,rf81),(83,rf83),(84,rf84),(88,rf88),(89,rf89)]
theorem tblT_ok:TblOK Tryz.prog tblT:=⟨⟨rf6_ok,by kernel_rfl⟩,⟨rf15_ok,by kernel_rfl⟩,⟨rf18_ok,by kernel_rfl⟩,⟨rf19_ok,by kernel_rfl⟩,⟨rf33_ok,by kernel_rfl⟩,⟨rf34_ok,by kernel_rfl⟩,⟨rf35_ok,by kernel_rfl⟩,⟨rf36_ok,by kernel_rfl⟩,⟨rf37_ok,by kernel_rfl⟩,⟨rf38_ok,by kernel_rfl⟩,⟨rf39_ok,by kernel_rfl⟩,⟨rf49_ok,by kernel_rfl⟩,⟨rf50_ok,by kernel_rfl⟩,⟨rf51_ok,by kernel_rfl⟩,⟨rf52_ok,by kernel_rfl⟩,⟨rf57_ok,by kernel_rfl⟩,⟨rf58_ok,by kernel_rfl⟩,⟨rf65_ok,by kernel_rfl⟩,⟨rf66_ok,by kernel_rfl⟩,⟨rf67_ok,by kernel_rfl⟩,⟨rf70_ok,by kernel_rfl⟩,⟨rf71_ok,by kernel_rfl⟩,⟨rf72_ok,by kernel_rfl⟩,⟨rf74_ok,by kernel_rfl⟩,⟨rf78_ok,by kernel_rfl⟩,⟨rf79_ok,by kernel_rfl⟩,⟨rf80_ok,by kernel_rfl⟩,⟨rf81_ok,by kernel_rfl⟩,⟨rf83_ok,by kernel_rfl⟩,⟨rf84_ok,by kernel_rfl⟩,⟨rf88_ok,by kernel_rfl⟩,⟨rf89_ok,by kernel_rfl⟩,trivial⟩
def idxR:Ren:=⟨fun x=>match x with | 137=>82 | 217=>91 | 266=>101 | _=>x,fun x=>x,fun x=>x⟩
theorem idxL:Lays.n137 Tryz.prog idxR where
 mixed:=by kernel_rfl
 f137:=by kernel_rfl
 f217:=by kernel_rfl
 f266:=by kernel_rfl
 t3:=by kernel_rfl
 a3:=fun w=>by kernel_rfl
 z3:=fun w=>by kernel_rfl
 v3:=fun w=>by kernel_rfl
 t5:=by kernel_rfl
 a5:=fun w=>by kernel_rfl
 z5:=fun w=>by kernel_rfl
 v5:=fun w=>by kernel_rfl
 t9:=by kernel_rfl
 a9:=fun w=>by kernel_rfl
 z9:=fun w=>by kernel_rfl
 v9:=fun w=>by kernel_rfl
def extT:EvCall:=fun f args H k=>match args with
 | [.p (.c (.string s)),.p (.c (.int .u8 c))]=>if Nat.beq f 82 then some [(.p (.c (.int .i64 (Lib.indexByte s.data.toList c.toNat.toUInt8))),H,k)] else none
 | _=>none
theorem extT_ok:EvOK Tryz.prog extT:=by
 intro f args H k l h
 unfold extT at h
 split at h
 ·rename_i s c
  split at h
  ·rename_i hf
   obtain rfl:=Nat.eq_of_beq_eq_true hf
   cases h
   refine⟨by kernel_rfl,fun g w vs hs ha=>?_⟩
   obtain⟨vs⟩:=vs
   simp only[ARepL,ARep,PRep] at ha
   obtain⟨v,r1,rfl,rfl,v2,r2,rfl,rfl,rfl⟩:=ha
   refine (Any.strings_IndexByte idxL s c w).mono ?_
   rintro e w' ⟨rfl,rfl⟩
   exact⟨_,_,g,_,_,rfl,List.mem_singleton.2 rfl,by simp[ARep,PRep],hs,Evo.refl⟩
  ·cases h
 ·cases h
theorem kTold_ev:APure Tryz.prog 6 [] (.p (vb true)):=evP_ok tblT_ok extT_ok (fz:= [50,36,35,34]) (fe:= [18]) (m:=300) (n:=60) (by kernel_rfl)
end Go.Abs
