/- The code of the functions, resolved; printed by a program (mkrc.py) and held against the translation by the kernel. -/
import Derived.Test.YtckkeeicngblgaaProg
import Derived.Test.YtckkeeicngblgaaAbsH
import Derived.KernelRfl
namespace Go.Proofs.Ytckkeeicngblgaa
set_option linter.unusedVariables false
/-- hearsay/hearsaylaw.PlaceMoves -/
def rc_hearsaylaw_PlaceMoves : RCode :=
  .seq (.reg [⟨(some 3), none, .box 23 5 (.tmp 0)⟩,
     ⟨(some 4), none, .box 23 5 (.tmp 1)⟩,
     ⟨(some 6), none, .mv (.const (.bool false))⟩])
  (.seq (.reg [⟨(some 12), none, .load true 5 (.tmp 3)⟩,
     ⟨(some 13), none, .load true 5 (.tmp 4)⟩,
     ⟨(some 14), none, .mv (.tmp 2)⟩,
     ⟨(some 15), none, .call (.func 19) [(.tmp 12), (.tmp 13), (.tmp 14)]⟩,
     ⟨(some 11), none, .mv (.tmp 15)⟩,
     ⟨(some 16), none, .ext (.tmp 11) 0⟩,
     ⟨(some 17), none, .ext (.tmp 11) 1⟩,
     ⟨(some 7), none, .zbox 23 [(.int .i64 0), (.int .i64 0), (.int .i64 0), (.int .i64 0), (.int .i64 0)]⟩,
     ⟨none, none, .store 5 (.tmp 7) (.tmp 16)⟩,
     ⟨(some 8), none, .mv (.tmp 17)⟩])
  (.seq (.reg [⟨(some 18), none, .load true 5 (.tmp 3)⟩,
     ⟨(some 19), none, .load true 5 (.tmp 4)⟩,
     ⟨(some 20), none, .call (.func 20) [(.tmp 18), (.tmp 19)]⟩,
     ⟨(some 21), none, .build [(.int .i64 0), (.int .i64 0), (.int .i64 0), (.int .i64 0), (.int .i64 0)] []⟩,
     ⟨(some 10), none, .zbox 23 [(.int .i64 0), (.int .i64 0), (.int .i64 0), (.int .i64 0), (.int .i64 0)]⟩,
     ⟨(some 9), none, .mv (.tmp 20)⟩,
     ⟨none, none, .store 5 (.tmp 10) (.tmp 21)⟩])
  (.seq (.seq (.reg [⟨(some 22), none, .mv (.tmp 9)⟩,
      ⟨(some 23), none, .bin .eql (.tmp 22) (.const (.int .i64 0))⟩,
      ⟨(some 24), none, .mv (.tmp 23)⟩,
      ⟨(some 25), (some (24, true)), .mv (.tmp 2)⟩,
      ⟨(some 26), (some (24, true)), .bin .lss (.tmp 25) (.const (.int .i64 1))⟩,
      ⟨(some 27), (some (24, true)), .mv (.tmp 26)⟩,
      ⟨(some 28), (some (27, false)), .mv (.tmp 2)⟩,
      ⟨(some 29), (some (27, false)), .bin .gtr (.tmp 28) (.const (.int .i64 5000000))⟩,
      ⟨(some 30), (some (24, true)), .pick (.tmp 27) (.const (.bool true)) (.tmp 29)⟩,
      ⟨(some 31), none, .pick (.tmp 24) (.tmp 30) (.const (.bool false))⟩])
   (.cond (.tmp 31)
    (.reg [⟨(some 9), none, .mv (.const (.int .i64 3))⟩])
    (.skip)))
  (.seq (.seq (.reg [⟨(some 32), none, .mv (.tmp 9)⟩,
      ⟨(some 33), none, .bin .eql (.tmp 32) (.const (.int .i64 0))⟩])
   (.cond (.tmp 33)
    (.reg [⟨(some 34), none, .load true 5 (.tmp 3)⟩,
       ⟨(some 35), none, .load true 5 (.tmp 4)⟩,
       ⟨(some 36), none, .mv (.tmp 2)⟩,
       ⟨(some 37), none, .call (.func 21) [(.tmp 34), (.tmp 35), (.tmp 36)]⟩,
       ⟨none, none, .store 5 (.tmp 10) (.tmp 37)⟩])
    (.skip)))
  (.seq (.reg [⟨(some 38), none, .call (.func 22) []⟩,
     ⟨(some 39), none, .mv (.tmp 38)⟩,
     ⟨(some 40), (some (39, true)), .mv (.tmp 8)⟩,
     ⟨(some 41), (some (39, true)), .mv (.tmp 9)⟩,
     ⟨(some 42), (some (39, true)), .bin .eql (.tmp 40) (.tmp 41)⟩,
     ⟨(some 43), none, .pick (.tmp 39) (.tmp 42) (.const (.bool false))⟩,
     ⟨(some 44), none, .mv (.tmp 43)⟩,
     ⟨(some 45), (some (44, true)), .load true 5 (.tmp 7)⟩,
     ⟨(some 46), (some (44, true)), .load true 5 (.tmp 10)⟩,
     ⟨(some 47), (some (44, true)), .eqS false [0, 0, 0, 0, 0] (.tmp 45) (.tmp 46)⟩,
     ⟨(some 48), none, .pick (.tmp 44) (.tmp 47) (.const (.bool false))⟩,
     ⟨(some 6), none, .mv (.tmp 48)⟩])
  (.ret))))))
theorem ck_hearsaylaw_PlaceMoves : chkFun Try.prog 3 3 = some (rc_hearsaylaw_PlaceMoves, [6]) := by kernel_rfl
/-- hearsay/hearsaylaw.PlaceKeeps -/
def rc_hearsaylaw_PlaceKeeps : RCode :=
  .seq (.reg [⟨(some 3), none, .box 23 5 (.tmp 0)⟩,
     ⟨(some 4), none, .box 23 5 (.tmp 1)⟩,
     ⟨(some 6), none, .mv (.const (.bool false))⟩])
  (.seq (.seq (.reg [⟨(some 13), none, .call (.func 22) []⟩,
      ⟨(some 14), none, .not (.tmp 13)⟩])
   (.cond (.tmp 14)
    (.seq (.reg [⟨(some 6), none, .mv (.const (.bool false))⟩])
     (.ret))
    (.skip)))
  (.seq (.reg [⟨(some 16), none, .load true 5 (.tmp 3)⟩,
     ⟨(some 17), none, .load true 5 (.tmp 4)⟩,
     ⟨(some 18), none, .call (.func 23) [(.tmp 16), (.tmp 17)]⟩,
     ⟨(some 15), none, .mv (.tmp 18)⟩,
     ⟨(some 19), none, .ext (.tmp 15) 0⟩,
     ⟨(some 20), none, .ext (.tmp 15) 1⟩,
     ⟨(some 7), none, .mv (.tmp 19)⟩,
     ⟨(some 8), none, .mv (.tmp 20)⟩])
  (.seq (.reg [⟨(some 22), none, .load true 5 (.tmp 4)⟩,
     ⟨(some 23), none, .load true 5 (.tmp 3)⟩,
     ⟨(some 24), none, .call (.func 23) [(.tmp 22), (.tmp 23)]⟩,
     ⟨(some 21), none, .mv (.tmp 24)⟩,
     ⟨(some 25), none, .ext (.tmp 21) 0⟩,
     ⟨(some 26), none, .ext (.tmp 21) 1⟩,
     ⟨(some 9), none, .mv (.tmp 25)⟩,
     ⟨(some 10), none, .mv (.tmp 26)⟩])
  (.seq (.seq (.reg [⟨(some 27), none, .mv (.tmp 8)⟩,
      ⟨(some 28), none, .bin .neq (.tmp 27) (.const (.int .i64 0))⟩,
      ⟨(some 29), none, .mv (.tmp 28)⟩,
      ⟨(some 30), (some (29, false)), .mv (.tmp 10)⟩,
      ⟨(some 31), (some (29, false)), .bin .neq (.tmp 30) (.const (.int .i64 0))⟩,
      ⟨(some 32), none, .pick (.tmp 29) (.const (.bool true)) (.tmp 31)⟩])
   (.cond (.tmp 32)
    (.seq (.reg [⟨(some 33), none, .mv (.tmp 8)⟩,
        ⟨(some 34), none, .bin .eql (.tmp 33) (.const (.int .i64 0))⟩,
        ⟨(some 35), none, .mv (.tmp 10)⟩,
        ⟨(some 36), none, .bin .eql (.tmp 35) (.const (.int .i64 0))⟩,
        ⟨(some 37), none, .eqb false (.tmp 34) (.tmp 36)⟩,
        ⟨(some 6), none, .mv (.tmp 37)⟩])
     (.ret))
    (.skip)))
  (.seq (.seq (.reg [⟨(some 38), none, .mv (.tmp 7)⟩,
      ⟨(some 39), none, .mv (.tmp 9)⟩,
      ⟨(some 40), none, .bin .neq (.tmp 38) (.tmp 39)⟩,
      ⟨(some 41), none, .mv (.tmp 40)⟩,
      ⟨(some 42), (some (41, false)), .mv (.tmp 7)⟩,
      ⟨(some 43), (some (41, false)), .bin .lss (.tmp 42) (.const (.int .i64 0))⟩,
      ⟨(some 44), none, .pick (.tmp 41) (.const (.bool true)) (.tmp 43)⟩])
   (.cond (.tmp 44)
    (.seq (.reg [⟨(some 6), none, .mv (.const (.bool false))⟩])
     (.ret))
    (.skip)))
  (.seq (.reg [⟨(some 46), none, .load true 5 (.tmp 3)⟩,
     ⟨(some 47), none, .load true 5 (.tmp 4)⟩,
     ⟨(some 48), none, .mv (.tmp 2)⟩,
     ⟨(some 49), none, .call (.func 19) [(.tmp 46), (.tmp 47), (.tmp 48)]⟩,
     ⟨(some 45), none, .mv (.tmp 49)⟩,
     ⟨(some 50), none, .ext (.tmp 45) 0⟩,
     ⟨(some 51), none, .ext (.tmp 45) 1⟩,
     ⟨(some 11), none, .zbox 23 [(.int .i64 0), (.int .i64 0), (.int .i64 0), (.int .i64 0), (.int .i64 0)]⟩,
     ⟨none, none, .store 5 (.tmp 11) (.tmp 50)⟩,
     ⟨(some 8), none, .mv (.tmp 51)⟩])
  (.seq (.seq (.reg [⟨(some 52), none, .mv (.tmp 8)⟩,
      ⟨(some 53), none, .bin .eql (.tmp 52) (.const (.int .i64 0))⟩,
      ⟨(some 54), none, .mv (.tmp 53)⟩,
      ⟨(some 55), (some (54, true)), .load true 5 (.tmp 11)⟩,
      ⟨(some 56), (some (54, true)), .call (.func 24) [(.tmp 55)]⟩,
      ⟨(some 57), (some (54, true)), .bin .neq (.tmp 56) (.const (.int .i64 0))⟩,
      ⟨(some 58), none, .pick (.tmp 54) (.tmp 57) (.const (.bool false))⟩])
   (.cond (.tmp 58)
    (.seq (.reg [⟨(some 6), none, .mv (.const (.bool false))⟩])
     (.ret))
    (.skip)))
  (.seq (.reg [⟨(some 60), none, .load true 5 (.tmp 3)⟩,
     ⟨(some 61), none, .load true 5 (.tmp 4)⟩,
     ⟨(some 62), none, .mv (.tmp 7)⟩,
     ⟨(some 63), none, .call (.func 19) [(.tmp 60), (.tmp 61), (.tmp 62)]⟩,
     ⟨(some 59), none, .mv (.tmp 63)⟩,
     ⟨(some 64), none, .ext (.tmp 59) 0⟩,
     ⟨(some 65), none, .ext (.tmp 59) 1⟩,
     ⟨(some 12), none, .zbox 23 [(.int .i64 0), (.int .i64 0), (.int .i64 0), (.int .i64 0), (.int .i64 0)]⟩,
     ⟨none, none, .store 5 (.tmp 12) (.tmp 64)⟩,
     ⟨(some 8), none, .mv (.tmp 65)⟩])
  (.seq (.seq (.reg [⟨(some 66), none, .mv (.tmp 8)⟩,
      ⟨(some 67), none, .bin .neq (.tmp 66) (.const (.int .i64 0))⟩])
   (.cond (.tmp 67)
    (.seq (.reg [⟨(some 68), none, .mv (.tmp 7)⟩,
        ⟨(some 69), none, .bin .lss (.tmp 68) (.const (.int .i64 1))⟩,
        ⟨(some 70), none, .mv (.tmp 69)⟩,
        ⟨(some 71), (some (70, false)), .mv (.tmp 7)⟩,
        ⟨(some 72), (some (70, false)), .bin .gtr (.tmp 71) (.const (.int .i64 5000000))⟩,
        ⟨(some 73), none, .pick (.tmp 70) (.const (.bool true)) (.tmp 72)⟩,
        ⟨(some 6), none, .mv (.tmp 73)⟩])
     (.ret))
    (.skip)))
  (.seq (.reg [⟨(some 74), none, .fldA 0 (.tmp 12)⟩,
     ⟨(some 75), none, .load false 1 (.tmp 74)⟩,
     ⟨(some 76), none, .fldA 0 (.tmp 3)⟩,
     ⟨(some 77), none, .load false 1 (.tmp 76)⟩,
     ⟨(some 78), none, .bin .eql (.tmp 75) (.tmp 77)⟩,
     ⟨(some 79), none, .mv (.tmp 78)⟩,
     ⟨(some 80), (some (79, true)), .fldA 1 (.tmp 12)⟩,
     ⟨(some 81), (some (79, true)), .load false 1 (.tmp 80)⟩,
     ⟨(some 82), (some (79, true)), .fldA 1 (.tmp 3)⟩,
     ⟨(some 83), (some (79, true)), .load false 1 (.tmp 82)⟩,
     ⟨(some 84), (some (79, true)), .bin .eql (.tmp 81) (.tmp 83)⟩,
     ⟨(some 85), none, .pick (.tmp 79) (.tmp 84) (.const (.bool false))⟩,
     ⟨(some 86), none, .mv (.tmp 85)⟩,
     ⟨(some 87), (some (86, true)), .fldA 2 (.tmp 12)⟩,
     ⟨(some 88), (some (86, true)), .load false 1 (.tmp 87)⟩,
     ⟨(some 89), (some (86, true)), .fldA 2 (.tmp 3)⟩,
     ⟨(some 90), (some (86, true)), .load false 1 (.tmp 89)⟩,
     ⟨(some 91), (some (86, true)), .bin .eql (.tmp 88) (.tmp 90)⟩,
     ⟨(some 92), none, .pick (.tmp 86) (.tmp 91) (.const (.bool false))⟩,
     ⟨(some 93), none, .mv (.tmp 92)⟩,
     ⟨(some 94), (some (93, true)), .fldA 3 (.tmp 12)⟩,
     ⟨(some 95), (some (93, true)), .load false 1 (.tmp 94)⟩,
     ⟨(some 96), (some (93, true)), .fldA 3 (.tmp 3)⟩,
     ⟨(some 97), (some (93, true)), .load false 1 (.tmp 96)⟩,
     ⟨(some 98), (some (93, true)), .bin .eql (.tmp 95) (.tmp 97)⟩,
     ⟨(some 99), none, .pick (.tmp 93) (.tmp 98) (.const (.bool false))⟩,
     ⟨(some 100), none, .mv (.tmp 99)⟩,
     ⟨(some 101), (some (100, true)), .fldA 4 (.tmp 12)⟩,
     ⟨(some 102), (some (100, true)), .load false 1 (.tmp 101)⟩,
     ⟨(some 103), (some (100, true)), .fldA 4 (.tmp 3)⟩,
     ⟨(some 104), (some (100, true)), .load false 1 (.tmp 103)⟩,
     ⟨(some 105), (some (100, true)), .bin .leq (.tmp 102) (.tmp 104)⟩,
     ⟨(some 106), none, .pick (.tmp 100) (.tmp 105) (.const (.bool false))⟩,
     ⟨(some 6), none, .mv (.tmp 106)⟩])
  (.ret)))))))))))
theorem ck_hearsaylaw_PlaceKeeps : chkFun Try.prog 4 3 = some (rc_hearsaylaw_PlaceKeeps, [6]) := by kernel_rfl
/-- hearsay/hearsaylaw.PlaceSorts -/
def rc_hearsaylaw_PlaceSorts : RCode :=
  .seq (.reg [⟨(some 3), none, .box 23 5 (.tmp 0)⟩,
     ⟨(some 6), none, .mv (.const (.bool false))⟩])
  (.seq (.reg [⟨(some 13), none, .load true 5 (.tmp 3)⟩,
     ⟨(some 14), none, .mv (.tmp 1)⟩,
     ⟨(some 15), none, .mv (.tmp 2)⟩,
     ⟨(some 16), none, .call (.func 50) [(.tmp 13), (.tmp 14), (.tmp 15)]⟩,
     ⟨(some 12), none, .mv (.tmp 16)⟩,
     ⟨(some 17), none, .ext (.tmp 12) 0⟩,
     ⟨(some 18), none, .ext (.tmp 12) 1⟩,
     ⟨(some 7), none, .mv (.tmp 17)⟩,
     ⟨(some 8), none, .mv (.tmp 18)⟩])
  (.seq (.reg [⟨(some 9), none, .mv (.const (.int .i64 0))⟩])
  (.seq (.seq (.reg [⟨(some 19), none, .mv (.tmp 1)⟩,
      ⟨(some 20), none, .len false (.tmp 19)⟩,
      ⟨(some 21), none, .bin .gtr (.tmp 20) (.const (.int .i64 100))⟩,
      ⟨(some 22), none, .mv (.tmp 21)⟩,
      ⟨(some 23), (some (22, false)), .mv (.tmp 2)⟩,
      ⟨(some 24), (some (22, false)), .len false (.tmp 23)⟩,
      ⟨(some 25), (some (22, false)), .bin .gtr (.tmp 24) (.const (.int .i64 100))⟩,
      ⟨(some 26), none, .pick (.tmp 22) (.const (.bool true)) (.tmp 25)⟩])
   (.cond (.tmp 26)
    (.reg [⟨(some 9), none, .mv (.const (.int .i64 2))⟩])
    (.reg [⟨(some 27), none, .load true 5 (.tmp 3)⟩,
       ⟨(some 28), none, .call (.func 51) [(.tmp 27)]⟩,
       ⟨(some 9), none, .mv (.tmp 28)⟩])))
  (.seq (.seq (.reg [⟨(some 10), none, .mv (.const (.int .i64 0))⟩])
   (.block 0
    (.loop
     (.seq (.seq (.reg [⟨(some 29), none, .mv (.tmp 10)⟩,
         ⟨(some 30), none, .mv (.tmp 1)⟩,
         ⟨(some 31), none, .len false (.tmp 30)⟩,
         ⟨(some 32), none, .bin .lss (.tmp 29) (.tmp 31)⟩,
         ⟨(some 33), none, .mv (.tmp 32)⟩,
         ⟨(some 34), (some (33, true)), .mv (.tmp 9)⟩,
         ⟨(some 35), (some (33, true)), .bin .eql (.tmp 34) (.const (.int .i64 0))⟩,
         ⟨(some 36), none, .pick (.tmp 33) (.tmp 35) (.const (.bool false))⟩])
      (.cond (.tmp 36)
       (.skip)
       (.exit 0)))
     (.seq (.block 1
       (.reg [⟨(some 39), none, .mv (.tmp 1)⟩,
         ⟨(some 40), none, .mv (.tmp 10)⟩,
         ⟨(some 41), none, .idxA 6 (.tmp 39) (.tmp 40)⟩,
         ⟨(some 42), none, .fldA 1 (.tmp 41)⟩,
         ⟨(some 43), none, .load true 5 (.tmp 42)⟩,
         ⟨(some 44), none, .call (.func 51) [(.tmp 43)]⟩,
         ⟨(some 9), none, .mv (.tmp 44)⟩]))
     (.reg [⟨(some 37), none, .mv (.tmp 10)⟩,
       ⟨(some 38), none, .bin .add (.tmp 37) (.const (.int .i64 1))⟩,
       ⟨(some 10), none, .mv (.tmp 38)⟩]))))))
  (.seq (.reg [⟨(some 11), none, .mv (.const (.slice none 0 0))⟩])
  (.seq (.seq (.reg [⟨(some 45), none, .mv (.tmp 9)⟩,
      ⟨(some 46), none, .bin .eql (.tmp 45) (.const (.int .i64 0))⟩])
   (.cond (.tmp 46)
    (.reg [⟨(some 47), none, .load true 5 (.tmp 3)⟩,
       ⟨(some 48), none, .mv (.tmp 1)⟩,
       ⟨(some 49), none, .mv (.tmp 2)⟩,
       ⟨(some 50), none, .call (.func 52) [(.tmp 47), (.tmp 48), (.tmp 49)]⟩,
       ⟨(some 11), none, .mv (.tmp 50)⟩])
    (.skip)))
  (.seq (.reg [⟨(some 51), none, .call (.func 22) []⟩,
     ⟨(some 52), none, .mv (.tmp 51)⟩,
     ⟨(some 53), (some (52, true)), .mv (.tmp 8)⟩,
     ⟨(some 54), (some (52, true)), .mv (.tmp 9)⟩,
     ⟨(some 55), (some (52, true)), .bin .eql (.tmp 53) (.tmp 54)⟩,
     ⟨(some 56), none, .pick (.tmp 52) (.tmp 55) (.const (.bool false))⟩,
     ⟨(some 57), none, .mv (.tmp 56)⟩,
     ⟨(some 58), (some (57, true)), .mv (.tmp 7)⟩,
     ⟨(some 59), (some (57, true)), .mv (.tmp 11)⟩,
     ⟨(some 60), (some (57, true)), .call (.func 53) [(.tmp 58), (.tmp 59)]⟩,
     ⟨(some 61), none, .pick (.tmp 57) (.tmp 60) (.const (.bool false))⟩,
     ⟨(some 6), none, .mv (.tmp 61)⟩])
  (.ret))))))))
theorem ck_hearsaylaw_PlaceSorts : chkFun Try.prog 14 3 = some (rc_hearsaylaw_PlaceSorts, [6]) := by kernel_rfl
/-- hearsay/place.Move -/
def rc_place_Move : RCode :=
  .seq (.reg [⟨(some 3), none, .box 23 5 (.tmp 0)⟩,
     ⟨(some 4), none, .box 23 5 (.tmp 1)⟩,
     ⟨(some 6), none, .zbox 23 [(.int .i64 0), (.int .i64 0), (.int .i64 0), (.int .i64 0), (.int .i64 0)]⟩,
     ⟨(some 7), none, .mv (.const (.int .i64 0))⟩])
  (.seq (.seq (.reg [⟨(some 17), none, .load true 5 (.tmp 3)⟩,
      ⟨(some 18), none, .load true 5 (.tmp 4)⟩,
      ⟨(some 19), none, .mks 23 5 2 [(.int .i64 0), (.int .i64 0), (.int .i64 0), (.int .i64 0), (.int .i64 0)] [(0, (.tmp 17)), (1, (.tmp 18))]⟩,
      ⟨(some 20), none, .call (.func 67) [(.tmp 19)]⟩,
      ⟨(some 8), none, .mv (.tmp 20)⟩])
   (.seq (.reg [⟨(some 21), none, .mv (.tmp 8)⟩,
      ⟨(some 22), none, .bin .neq (.tmp 21) (.const (.int .i64 0))⟩])
   (.cond (.tmp 22)
    (.seq (.reg [⟨(some 23), none, .build [(.int .i64 0), (.int .i64 0), (.int .i64 0), (.int .i64 0), (.int .i64 0)] []⟩,
        ⟨(some 24), none, .mv (.tmp 8)⟩,
        ⟨none, none, .store 5 (.tmp 6) (.tmp 23)⟩,
        ⟨(some 7), none, .mv (.tmp 24)⟩])
     (.ret))
    (.skip))))
  (.seq (.seq (.reg [⟨(some 25), none, .mv (.tmp 2)⟩,
      ⟨(some 26), none, .call (.func 68) [(.tmp 25), (.const (.int .i64 1)), (.const (.int .i64 5000000))]⟩,
      ⟨(some 27), none, .not (.tmp 26)⟩])
   (.cond (.tmp 27)
    (.seq (.reg [⟨(some 28), none, .build [(.int .i64 0), (.int .i64 0), (.int .i64 0), (.int .i64 0), (.int .i64 0)] []⟩,
        ⟨none, none, .store 5 (.tmp 6) (.tmp 28)⟩,
        ⟨(some 7), none, .mv (.const (.int .i64 3))⟩])
     (.ret))
    (.skip)))
  (.seq (.reg [⟨(some 29), none, .load true 5 (.tmp 3)⟩,
     ⟨(some 30), none, .load true 5 (.tmp 4)⟩,
     ⟨(some 31), none, .call (.func 69) [(.tmp 29), (.tmp 30)]⟩,
     ⟨(some 9), none, .mv (.tmp 31)⟩,
     ⟨(some 10), none, .mv (.const (.int .i64 500))⟩])
  (.seq (.seq (.reg [⟨(some 32), none, .fldA 4 (.tmp 3)⟩,
      ⟨(some 33), none, .load false 1 (.tmp 32)⟩,
      ⟨(some 34), none, .fldA 4 (.tmp 4)⟩,
      ⟨(some 35), none, .load false 1 (.tmp 34)⟩,
      ⟨(some 36), none, .bin .add (.tmp 33) (.tmp 35)⟩,
      ⟨(some 37), none, .bin .gtr (.tmp 36) (.const (.int .i64 0))⟩])
   (.cond (.tmp 37)
    (.reg [⟨(some 38), none, .fldA 4 (.tmp 3)⟩,
       ⟨(some 39), none, .load false 1 (.tmp 38)⟩,
       ⟨(some 40), none, .bin .mul (.tmp 39) (.const (.int .i64 1000))⟩,
       ⟨(some 41), none, .fldA 4 (.tmp 3)⟩,
       ⟨(some 42), none, .load false 1 (.tmp 41)⟩,
       ⟨(some 43), none, .fldA 4 (.tmp 4)⟩,
       ⟨(some 44), none, .load false 1 (.tmp 43)⟩,
       ⟨(some 45), none, .bin .add (.tmp 42) (.tmp 44)⟩,
       ⟨(some 46), none, .bin .quo (.tmp 40) (.tmp 45)⟩,
       ⟨(some 10), none, .mv (.tmp 46)⟩])
    (.skip)))
  (.seq (.reg [⟨(some 47), none, .mv (.tmp 2)⟩,
     ⟨(some 48), none, .mv (.tmp 9)⟩,
     ⟨(some 49), none, .bin .sub (.tmp 47) (.tmp 48)⟩,
     ⟨(some 50), none, .mv (.tmp 10)⟩,
     ⟨(some 51), none, .bin .mul (.tmp 49) (.tmp 50)⟩,
     ⟨(some 52), none, .bin .quo (.tmp 51) (.const (.int .i64 4000))⟩,
     ⟨(some 11), none, .zbox 3 [(.int .i64 0)]⟩,
     ⟨none, none, .store 1 (.tmp 11) (.tmp 52)⟩])
  (.seq (.reg [⟨(some 53), none, .mv (.tmp 2)⟩,
     ⟨(some 54), none, .mv (.tmp 9)⟩,
     ⟨(some 55), none, .bin .sub (.tmp 53) (.tmp 54)⟩,
     ⟨(some 56), none, .mv (.tmp 9)⟩,
     ⟨(some 57), none, .mv (.tmp 2)⟩,
     ⟨(some 58), none, .bin .sub (.tmp 56) (.tmp 57)⟩,
     ⟨(some 59), none, .mm true (.tmp 55) (.tmp 58)⟩,
     ⟨(some 12), none, .mv (.tmp 59)⟩])
  (.seq (.reg [⟨(some 60), none, .mv (.tmp 12)⟩,
     ⟨(some 61), none, .bin .mul (.tmp 60) (.const (.int .i64 1000))⟩,
     ⟨(some 62), none, .mv (.tmp 2)⟩,
     ⟨(some 63), none, .bin .quo (.tmp 61) (.tmp 62)⟩,
     ⟨(some 64), none, .mm false (.const (.int .i64 1000)) (.tmp 63)⟩,
     ⟨(some 13), none, .mv (.tmp 64)⟩])
  (.seq (.reg [⟨(some 65), none, .load true 5 (.tmp 3)⟩,
     ⟨(some 14), none, .zbox 23 [(.int .i64 0), (.int .i64 0), (.int .i64 0), (.int .i64 0), (.int .i64 0)]⟩,
     ⟨none, none, .store 5 (.tmp 14) (.tmp 65)⟩])
  (.seq (.seq (.reg [⟨(some 66), none, .load true 5 (.tmp 3)⟩,
      ⟨(some 67), none, .load true 5 (.tmp 4)⟩,
      ⟨(some 68), none, .call (.func 70) [(.tmp 66), (.tmp 67)]⟩,
      ⟨(some 15), none, .zbox 3 [(.int .i64 0)]⟩,
      ⟨none, none, .store 1 (.tmp 15) (.tmp 68)⟩])
   (.seq (.reg [⟨(some 69), none, .load false 1 (.tmp 15)⟩,
      ⟨(some 70), none, .bin .gtr (.tmp 69) (.const (.int .i64 0))⟩])
   (.cond (.tmp 70)
    (.seq (.reg [⟨(some 71), none, .mkfn 71 [(.tmp 11), (.tmp 15)]⟩,
        ⟨(some 16), none, .mv (.tmp 71)⟩])
     (.dreg [[⟨(some 72), none, .mv (.tmp 16)⟩,
        ⟨(some 73), none, .fldA 0 (.tmp 3)⟩,
        ⟨(some 74), none, .load false 1 (.tmp 73)⟩,
        ⟨(some 75), none, .fldA 0 (.tmp 4)⟩,
        ⟨(some 76), none, .load false 1 (.tmp 75)⟩,
        ⟨(some 77), none, .call (.tmp 72) [(.tmp 74), (.tmp 76)]⟩,
        ⟨(some 78), none, .mv (.tmp 16)⟩,
        ⟨(some 79), none, .fldA 1 (.tmp 3)⟩,
        ⟨(some 80), none, .load false 1 (.tmp 79)⟩,
        ⟨(some 81), none, .fldA 1 (.tmp 4)⟩,
        ⟨(some 82), none, .load false 1 (.tmp 81)⟩,
        ⟨(some 83), none, .call (.tmp 78) [(.tmp 80), (.tmp 82)]⟩,
        ⟨(some 84), none, .mv (.tmp 16)⟩,
        ⟨(some 85), none, .fldA 2 (.tmp 3)⟩,
        ⟨(some 86), none, .load false 1 (.tmp 85)⟩,
        ⟨(some 87), none, .fldA 2 (.tmp 4)⟩,
        ⟨(some 88), none, .load false 1 (.tmp 87)⟩,
        ⟨(some 89), none, .call (.tmp 84) [(.tmp 86), (.tmp 88)]⟩,
        ⟨(some 90), none, .fldA 0 (.tmp 14)⟩],
       [⟨none, none, .store 1 (.tmp 90) (.tmp 77)⟩],
       [⟨(some 91), none, .fldA 1 (.tmp 14)⟩],
       [⟨none, none, .store 1 (.tmp 91) (.tmp 83)⟩],
       [⟨(some 92), none, .fldA 2 (.tmp 14)⟩],
       [⟨none, none, .store 1 (.tmp 92) (.tmp 89)⟩]]))
    (.reg [⟨(some 93), none, .fldA 0 (.tmp 3)⟩,
       ⟨(some 94), none, .load false 1 (.tmp 93)⟩,
       ⟨(some 95), none, .load false 1 (.tmp 11)⟩,
       ⟨(some 96), none, .bin .add (.tmp 94) (.tmp 95)⟩,
       ⟨(some 97), none, .call (.func 72) [(.tmp 96), (.const (.int .i64 (-10000000))), (.const (.int .i64 10000000))]⟩,
       ⟨(some 98), none, .fldA 0 (.tmp 14)⟩,
       ⟨none, none, .store 1 (.tmp 98) (.tmp 97)⟩]))))
  (.seq (.reg [⟨(some 99), none, .fldA 3 (.tmp 3)⟩,
     ⟨(some 100), none, .load false 1 (.tmp 99)⟩,
     ⟨(some 101), none, .load false 1 (.tmp 11)⟩,
     ⟨(some 102), none, .bin .quo (.tmp 101) (.const (.int .i64 10))⟩,
     ⟨(some 103), none, .bin .add (.tmp 100) (.tmp 102)⟩,
     ⟨(some 104), none, .call (.func 72) [(.tmp 103), (.const (.int .i64 0)), (.const (.int .i64 1000000))]⟩,
     ⟨(some 105), none, .fldA 3 (.tmp 14)⟩,
     ⟨none, none, .store 1 (.tmp 105) (.tmp 104)⟩])
  (.seq (.reg [⟨(some 106), none, .fldA 4 (.tmp 3)⟩,
     ⟨(some 107), none, .load false 1 (.tmp 106)⟩,
     ⟨(some 108), none, .mv (.tmp 13)⟩,
     ⟨(some 109), none, .fldA 4 (.tmp 3)⟩,
     ⟨(some 110), none, .load false 1 (.tmp 109)⟩,
     ⟨(some 111), none, .bin .sub (.tmp 108) (.tmp 110)⟩,
     ⟨(some 112), none, .mv (.tmp 10)⟩,
     ⟨(some 113), none, .bin .mul (.tmp 111) (.tmp 112)⟩,
     ⟨(some 114), none, .bin .quo (.tmp 113) (.const (.int .i64 4000))⟩,
     ⟨(some 115), none, .bin .add (.tmp 107) (.tmp 114)⟩,
     ⟨(some 116), none, .call (.func 72) [(.tmp 115), (.const (.int .i64 0)), (.const (.int .i64 1000))]⟩,
     ⟨(some 117), none, .fldA 4 (.tmp 14)⟩,
     ⟨none, none, .store 1 (.tmp 117) (.tmp 116)⟩])
  (.seq (.reg [⟨(some 118), none, .load true 5 (.tmp 14)⟩,
     ⟨none, none, .store 5 (.tmp 6) (.tmp 118)⟩,
     ⟨(some 7), none, .mv (.const (.int .i64 0))⟩])
  (.ret)))))))))))))
theorem ck_place_Move : chkFunC Try.prog 19 3 = some (rc_place_Move, [(6, some (true, 5)), (7, none)]) := by kernel_rfl
/-- hearsay/hearsaylaw.twoPlaces -/
def rc_hearsaylaw_twoPlaces : RCode :=
  .seq (.reg [⟨(some 2), none, .box 23 5 (.tmp 0)⟩,
     ⟨(some 3), none, .box 23 5 (.tmp 1)⟩,
     ⟨(some 4), none, .mv (.const (.int .i64 0))⟩])
  (.seq (.reg [⟨(some 6), none, .load true 5 (.tmp 2)⟩,
     ⟨(some 7), none, .call (.func 51) [(.tmp 6)]⟩,
     ⟨(some 5), none, .mv (.tmp 7)⟩])
  (.seq (.seq (.reg [⟨(some 8), none, .mv (.tmp 5)⟩,
      ⟨(some 9), none, .bin .eql (.tmp 8) (.const (.int .i64 0))⟩])
   (.cond (.tmp 9)
    (.reg [⟨(some 10), none, .load true 5 (.tmp 3)⟩,
       ⟨(some 11), none, .call (.func 51) [(.tmp 10)]⟩,
       ⟨(some 5), none, .mv (.tmp 11)⟩])
    (.skip)))
  (.seq (.reg [⟨(some 12), none, .mv (.tmp 5)⟩,
     ⟨(some 4), none, .mv (.tmp 12)⟩])
  (.ret))))
theorem ck_hearsaylaw_twoPlaces : chkFun Try.prog 20 2 = some (rc_hearsaylaw_twoPlaces, [4]) := by kernel_rfl
/-- hearsay/hearsayref.MoveOf -/
def rc_hearsayref_MoveOf : RCode :=
  .seq (.reg [⟨(some 3), none, .box 23 5 (.tmp 0)⟩,
     ⟨(some 4), none, .box 23 5 (.tmp 1)⟩,
     ⟨(some 6), none, .zbox 23 [(.int .i64 0), (.int .i64 0), (.int .i64 0), (.int .i64 0), (.int .i64 0)]⟩])
  (.seq (.reg [⟨(some 14), none, .load true 5 (.tmp 3)⟩,
     ⟨(some 15), none, .load true 5 (.tmp 4)⟩,
     ⟨(some 16), none, .call (.func 73) [(.tmp 14), (.tmp 15)]⟩,
     ⟨(some 7), none, .mv (.tmp 16)⟩])
  (.seq (.reg [⟨(some 8), none, .mv (.const (.int .i64 500))⟩])
  (.seq (.seq (.reg [⟨(some 17), none, .fldA 4 (.tmp 3)⟩,
      ⟨(some 18), none, .load false 1 (.tmp 17)⟩,
      ⟨(some 19), none, .fldA 4 (.tmp 4)⟩,
      ⟨(some 20), none, .load false 1 (.tmp 19)⟩,
      ⟨(some 21), none, .bin .add (.tmp 18) (.tmp 20)⟩,
      ⟨(some 22), none, .bin .gtr (.tmp 21) (.const (.int .i64 0))⟩])
   (.cond (.tmp 22)
    (.reg [⟨(some 23), none, .fldA 4 (.tmp 3)⟩,
       ⟨(some 24), none, .load false 1 (.tmp 23)⟩,
       ⟨(some 25), none, .bin .mul (.tmp 24) (.const (.int .i64 1000))⟩,
       ⟨(some 26), none, .fldA 4 (.tmp 3)⟩,
       ⟨(some 27), none, .load false 1 (.tmp 26)⟩,
       ⟨(some 28), none, .fldA 4 (.tmp 4)⟩,
       ⟨(some 29), none, .load false 1 (.tmp 28)⟩,
       ⟨(some 30), none, .bin .add (.tmp 27) (.tmp 29)⟩,
       ⟨(some 31), none, .bin .quo (.tmp 25) (.tmp 30)⟩,
       ⟨(some 8), none, .mv (.tmp 31)⟩])
    (.skip)))
  (.seq (.reg [⟨(some 32), none, .mv (.tmp 2)⟩,
     ⟨(some 33), none, .mv (.tmp 7)⟩,
     ⟨(some 34), none, .bin .sub (.tmp 32) (.tmp 33)⟩,
     ⟨(some 35), none, .mv (.tmp 8)⟩,
     ⟨(some 36), none, .bin .mul (.tmp 34) (.tmp 35)⟩,
     ⟨(some 37), none, .bin .quo (.tmp 36) (.const (.int .i64 4000))⟩,
     ⟨(some 9), none, .mv (.tmp 37)⟩])
  (.seq (.reg [⟨(some 38), none, .load true 5 (.tmp 3)⟩,
     ⟨(some 39), none, .load true 5 (.tmp 4)⟩,
     ⟨(some 40), none, .call (.func 74) [(.tmp 38), (.tmp 39)]⟩,
     ⟨(some 10), none, .mv (.tmp 40)⟩])
  (.seq (.reg [⟨(some 41), none, .load true 5 (.tmp 3)⟩,
     ⟨(some 11), none, .zbox 23 [(.int .i64 0), (.int .i64 0), (.int .i64 0), (.int .i64 0), (.int .i64 0)]⟩,
     ⟨none, none, .store 5 (.tmp 11) (.tmp 41)⟩])
  (.seq (.seq (.reg [⟨(some 42), none, .mv (.tmp 10)⟩,
      ⟨(some 43), none, .bin .eql (.tmp 42) (.const (.int .i64 0))⟩])
   (.cond (.tmp 43)
    (.reg [⟨(some 44), none, .fldA 0 (.tmp 11)⟩,
       ⟨(some 45), none, .load false 1 (.tmp 44)⟩,
       ⟨(some 46), none, .mv (.tmp 9)⟩,
       ⟨(some 47), none, .bin .add (.tmp 45) (.tmp 46)⟩,
       ⟨(some 48), none, .fldA 0 (.tmp 11)⟩,
       ⟨none, none, .store 1 (.tmp 48) (.tmp 47)⟩])
    (.seq (.dreg [[⟨(some 49), none, .fldA 0 (.tmp 11)⟩,
         ⟨(some 50), none, .load false 1 (.tmp 49)⟩,
         ⟨(some 51), none, .mv (.tmp 9)⟩,
         ⟨(some 52), none, .fldA 0 (.tmp 3)⟩,
         ⟨(some 53), none, .load false 1 (.tmp 52)⟩,
         ⟨(some 54), none, .fldA 0 (.tmp 4)⟩,
         ⟨(some 55), none, .load false 1 (.tmp 54)⟩,
         ⟨(some 56), none, .bin .sub (.tmp 53) (.tmp 55)⟩,
         ⟨(some 57), none, .bin .mul (.tmp 51) (.tmp 56)⟩,
         ⟨(some 58), none, .mv (.tmp 10)⟩,
         ⟨(some 59), none, .bin .quo (.tmp 57) (.tmp 58)⟩],
        [⟨(some 60), none, .bin .add (.tmp 50) (.tmp 59)⟩],
        [⟨(some 61), none, .fldA 0 (.tmp 11)⟩],
        [⟨none, none, .store 1 (.tmp 61) (.tmp 60)⟩]])
     (.seq (.dreg [[⟨(some 62), none, .fldA 1 (.tmp 11)⟩,
         ⟨(some 63), none, .load false 1 (.tmp 62)⟩,
         ⟨(some 64), none, .mv (.tmp 9)⟩,
         ⟨(some 65), none, .fldA 1 (.tmp 3)⟩,
         ⟨(some 66), none, .load false 1 (.tmp 65)⟩,
         ⟨(some 67), none, .fldA 1 (.tmp 4)⟩,
         ⟨(some 68), none, .load false 1 (.tmp 67)⟩,
         ⟨(some 69), none, .bin .sub (.tmp 66) (.tmp 68)⟩,
         ⟨(some 70), none, .bin .mul (.tmp 64) (.tmp 69)⟩,
         ⟨(some 71), none, .mv (.tmp 10)⟩,
         ⟨(some 72), none, .bin .quo (.tmp 70) (.tmp 71)⟩],
        [⟨(some 73), none, .bin .add (.tmp 63) (.tmp 72)⟩],
        [⟨(some 74), none, .fldA 1 (.tmp 11)⟩],
        [⟨none, none, .store 1 (.tmp 74) (.tmp 73)⟩]])
     (.dreg [[⟨(some 75), none, .fldA 2 (.tmp 11)⟩,
        ⟨(some 76), none, .load false 1 (.tmp 75)⟩,
        ⟨(some 77), none, .mv (.tmp 9)⟩,
        ⟨(some 78), none, .fldA 2 (.tmp 3)⟩,
        ⟨(some 79), none, .load false 1 (.tmp 78)⟩,
        ⟨(some 80), none, .fldA 2 (.tmp 4)⟩,
        ⟨(some 81), none, .load false 1 (.tmp 80)⟩,
        ⟨(some 82), none, .bin .sub (.tmp 79) (.tmp 81)⟩,
        ⟨(some 83), none, .bin .mul (.tmp 77) (.tmp 82)⟩,
        ⟨(some 84), none, .mv (.tmp 10)⟩,
        ⟨(some 85), none, .bin .quo (.tmp 83) (.tmp 84)⟩],
       [⟨(some 86), none, .bin .add (.tmp 76) (.tmp 85)⟩],
       [⟨(some 87), none, .fldA 2 (.tmp 11)⟩],
       [⟨none, none, .store 1 (.tmp 87) (.tmp 86)⟩]])))))
  (.seq (.reg [⟨(some 88), none, .fldA 3 (.tmp 11)⟩,
     ⟨(some 89), none, .load false 1 (.tmp 88)⟩,
     ⟨(some 90), none, .mv (.tmp 9)⟩,
     ⟨(some 91), none, .bin .quo (.tmp 90) (.const (.int .i64 10))⟩,
     ⟨(some 92), none, .bin .add (.tmp 89) (.tmp 91)⟩,
     ⟨(some 93), none, .fldA 3 (.tmp 11)⟩,
     ⟨none, none, .store 1 (.tmp 93) (.tmp 92)⟩])
  (.seq (.reg [⟨(some 94), none, .mv (.tmp 2)⟩,
     ⟨(some 95), none, .mv (.tmp 7)⟩,
     ⟨(some 96), none, .bin .sub (.tmp 94) (.tmp 95)⟩,
     ⟨(some 12), none, .mv (.tmp 96)⟩])
  (.seq (.seq (.reg [⟨(some 97), none, .mv (.tmp 12)⟩,
      ⟨(some 98), none, .bin .lss (.tmp 97) (.const (.int .i64 0))⟩])
   (.cond (.tmp 98)
    (.reg [⟨(some 99), none, .mv (.tmp 12)⟩,
       ⟨(some 100), none, .neg (.tmp 99)⟩,
       ⟨(some 12), none, .mv (.tmp 100)⟩])
    (.skip)))
  (.seq (.reg [⟨(some 101), none, .mv (.tmp 12)⟩,
     ⟨(some 102), none, .bin .mul (.tmp 101) (.const (.int .i64 1000))⟩,
     ⟨(some 103), none, .mv (.tmp 2)⟩,
     ⟨(some 104), none, .bin .quo (.tmp 102) (.tmp 103)⟩,
     ⟨(some 105), none, .call (.func 75) [(.tmp 104), (.const (.int .i64 0)), (.const (.int .i64 1000))]⟩,
     ⟨(some 13), none, .mv (.tmp 105)⟩])
  (.seq (.reg [⟨(some 106), none, .fldA 4 (.tmp 11)⟩,
     ⟨(some 107), none, .load false 1 (.tmp 106)⟩,
     ⟨(some 108), none, .mv (.tmp 13)⟩,
     ⟨(some 109), none, .fldA 4 (.tmp 3)⟩,
     ⟨(some 110), none, .load false 1 (.tmp 109)⟩,
     ⟨(some 111), none, .bin .sub (.tmp 108) (.tmp 110)⟩,
     ⟨(some 112), none, .mv (.tmp 8)⟩,
     ⟨(some 113), none, .bin .mul (.tmp 111) (.tmp 112)⟩,
     ⟨(some 114), none, .bin .quo (.tmp 113) (.const (.int .i64 4000))⟩,
     ⟨(some 115), none, .bin .add (.tmp 107) (.tmp 114)⟩,
     ⟨(some 116), none, .fldA 4 (.tmp 11)⟩,
     ⟨none, none, .store 1 (.tmp 116) (.tmp 115)⟩])
  (.seq (.dreg [[⟨(some 117), none, .fldA 0 (.tmp 11)⟩,
      ⟨(some 118), none, .load false 1 (.tmp 117)⟩,
      ⟨(some 119), none, .call (.func 75) [(.tmp 118), (.const (.int .i64 (-10000000))), (.const (.int .i64 10000000))]⟩,
      ⟨(some 120), none, .fldA 1 (.tmp 11)⟩,
      ⟨(some 121), none, .load false 1 (.tmp 120)⟩,
      ⟨(some 122), none, .call (.func 75) [(.tmp 121), (.const (.int .i64 (-10000000))), (.const (.int .i64 10000000))]⟩,
      ⟨(some 123), none, .fldA 2 (.tmp 11)⟩,
      ⟨(some 124), none, .load false 1 (.tmp 123)⟩,
      ⟨(some 125), none, .call (.func 75) [(.tmp 124), (.const (.int .i64 (-10000000))), (.const (.int .i64 10000000))]⟩,
      ⟨(some 126), none, .fldA 3 (.tmp 11)⟩,
      ⟨(some 127), none, .load false 1 (.tmp 126)⟩,
      ⟨(some 128), none, .call (.func 75) [(.tmp 127), (.const (.int .i64 0)), (.const (.int .i64 1000000))]⟩,
      ⟨(some 129), none, .fldA 4 (.tmp 11)⟩,
      ⟨(some 130), none, .load false 1 (.tmp 129)⟩],
     [⟨(some 131), none, .call (.func 75) [(.tmp 130), (.const (.int .i64 0)), (.const (.int .i64 1000))]⟩],
     [⟨(some 132), none, .build [(.int .i64 0), (.int .i64 0), (.int .i64 0), (.int .i64 0), (.int .i64 0)] [(0, 1, (.tmp 119)), (1, 1, (.tmp 122)), (2, 1, (.tmp 125)), (3, 1, (.tmp 128)), (4, 1, (.tmp 131))]⟩],
     [⟨none, none, .store 5 (.tmp 6) (.tmp 132)⟩]])
  (.ret))))))))))))))
theorem ck_hearsayref_MoveOf : chkFunC Try.prog 21 3 = some (rc_hearsayref_MoveOf, [(6, some (true, 5))]) := by kernel_rfl
/-- hearsay/hearsaylaw.placeBegun -/
def rc_hearsaylaw_placeBegun : RCode :=
  .seq (.reg [⟨(some 0), none, .mv (.const (.bool false))⟩])
  (.seq (.reg [⟨(some 6), none, .call (.func 76) [(.const (.int .i64 17))]⟩,
     ⟨(some 5), none, .mv (.tmp 6)⟩,
     ⟨(some 7), none, .ext (.tmp 5) 0⟩,
     ⟨(some 8), none, .ext (.tmp 5) 1⟩,
     ⟨(some 1), none, .mv (.tmp 7)⟩,
     ⟨(some 2), none, .mv (.tmp 8)⟩])
  (.seq (.reg [⟨(some 10), none, .build [(.int .i64 0), (.int .i64 0), (.int .i64 0), (.int .i64 0), (.int .i64 0)] [(0, 1, (.const (.int .i64 3))), (3, 1, (.const (.int .i64 1)))]⟩,
     ⟨(some 11), none, .build [(.int .i64 0), (.int .i64 0), (.int .i64 0), (.int .i64 0), (.int .i64 0)] [(1, 1, (.const (.int .i64 4))), (3, 1, (.const (.int .i64 2)))]⟩,
     ⟨(some 12), none, .call (.func 23) [(.tmp 10), (.tmp 11)]⟩,
     ⟨(some 9), none, .mv (.tmp 12)⟩,
     ⟨(some 13), none, .ext (.tmp 9) 0⟩,
     ⟨(some 14), none, .ext (.tmp 9) 1⟩,
     ⟨(some 3), none, .mv (.tmp 13)⟩,
     ⟨(some 4), none, .mv (.tmp 14)⟩])
  (.seq (.reg [⟨(some 15), none, .mv (.tmp 2)⟩,
     ⟨(some 16), none, .bin .eql (.tmp 15) (.const (.int .i64 0))⟩,
     ⟨(some 17), none, .mv (.tmp 16)⟩,
     ⟨(some 18), (some (17, true)), .mv (.tmp 4)⟩,
     ⟨(some 19), (some (17, true)), .bin .eql (.tmp 18) (.const (.int .i64 0))⟩,
     ⟨(some 20), none, .pick (.tmp 17) (.tmp 19) (.const (.bool false))⟩,
     ⟨(some 21), none, .mv (.tmp 20)⟩,
     ⟨(some 22), (some (21, true)), .mv (.tmp 1)⟩,
     ⟨(some 23), (some (21, true)), .bin .eql (.tmp 22) (.const (.int .i64 4))⟩,
     ⟨(some 24), none, .pick (.tmp 21) (.tmp 23) (.const (.bool false))⟩,
     ⟨(some 25), none, .mv (.tmp 24)⟩,
     ⟨(some 26), (some (25, true)), .mv (.tmp 3)⟩,
     ⟨(some 27), (some (25, true)), .bin .eql (.tmp 26) (.const (.int .i64 8))⟩,
     ⟨(some 28), none, .pick (.tmp 25) (.tmp 27) (.const (.bool false))⟩,
     ⟨(some 0), none, .mv (.tmp 28)⟩])
  (.ret))))
theorem ck_hearsaylaw_placeBegun : chkFun Try.prog 22 0 = some (rc_hearsaylaw_placeBegun, [0]) := by kernel_rfl
/-- hearsay/place.Far -/
def rc_place_Far : RCode :=
  .seq (.reg [⟨(some 2), none, .box 23 5 (.tmp 0)⟩,
     ⟨(some 3), none, .box 23 5 (.tmp 1)⟩,
     ⟨(some 4), none, .mv (.const (.int .i64 0))⟩,
     ⟨(some 5), none, .mv (.const (.int .i64 0))⟩])
  (.seq (.seq (.reg [⟨(some 7), none, .load true 5 (.tmp 2)⟩,
      ⟨(some 8), none, .load true 5 (.tmp 3)⟩,
      ⟨(some 9), none, .mks 23 5 2 [(.int .i64 0), (.int .i64 0), (.int .i64 0), (.int .i64 0), (.int .i64 0)] [(0, (.tmp 7)), (1, (.tmp 8))]⟩,
      ⟨(some 10), none, .call (.func 67) [(.tmp 9)]⟩,
      ⟨(some 6), none, .mv (.tmp 10)⟩])
   (.seq (.reg [⟨(some 11), none, .mv (.tmp 6)⟩,
      ⟨(some 12), none, .bin .neq (.tmp 11) (.const (.int .i64 0))⟩])
   (.cond (.tmp 12)
    (.seq (.reg [⟨(some 13), none, .mv (.tmp 6)⟩,
        ⟨(some 4), none, .mv (.const (.int .i64 0))⟩,
        ⟨(some 5), none, .mv (.tmp 13)⟩])
     (.ret))
    (.skip))))
  (.seq (.reg [⟨(some 14), none, .load true 5 (.tmp 2)⟩,
     ⟨(some 15), none, .load true 5 (.tmp 3)⟩,
     ⟨(some 16), none, .call (.func 69) [(.tmp 14), (.tmp 15)]⟩,
     ⟨(some 4), none, .mv (.tmp 16)⟩,
     ⟨(some 5), none, .mv (.const (.int .i64 0))⟩])
  (.ret)))
theorem ck_place_Far : chkFun Try.prog 23 2 = some (rc_place_Far, [4, 5]) := by kernel_rfl
/-- hearsay/place.Check -/
def rc_place_Check : RCode :=
  .seq (.reg [⟨(some 1), none, .box 23 5 (.tmp 0)⟩,
     ⟨(some 2), none, .mv (.const (.int .i64 0))⟩])
  (.seq (.reg [⟨(some 3), none, .mv (.func 77)⟩])
  (.seq (.seq (.reg [⟨(some 4), none, .mv (.tmp 3)⟩,
      ⟨(some 5), none, .fldA 0 (.tmp 1)⟩,
      ⟨(some 6), none, .load false 1 (.tmp 5)⟩,
      ⟨(some 7), none, .call (.tmp 4) [(.tmp 6)]⟩,
      ⟨(some 8), none, .not (.tmp 7)⟩,
      ⟨(some 9), none, .mv (.tmp 8)⟩,
      ⟨(some 10), (some (9, false)), .mv (.tmp 3)⟩,
      ⟨(some 11), (some (9, false)), .fldA 1 (.tmp 1)⟩,
      ⟨(some 12), (some (9, false)), .load false 1 (.tmp 11)⟩,
      ⟨(some 13), (some (9, false)), .call (.tmp 10) [(.tmp 12)]⟩,
      ⟨(some 14), (some (9, false)), .not (.tmp 13)⟩,
      ⟨(some 15), none, .pick (.tmp 9) (.const (.bool true)) (.tmp 14)⟩,
      ⟨(some 16), none, .mv (.tmp 15)⟩,
      ⟨(some 17), (some (16, false)), .mv (.tmp 3)⟩,
      ⟨(some 18), (some (16, false)), .fldA 2 (.tmp 1)⟩,
      ⟨(some 19), (some (16, false)), .load false 1 (.tmp 18)⟩,
      ⟨(some 20), (some (16, false)), .call (.tmp 17) [(.tmp 19)]⟩,
      ⟨(some 21), (some (16, false)), .not (.tmp 20)⟩,
      ⟨(some 22), none, .pick (.tmp 16) (.const (.bool true)) (.tmp 21)⟩,
      ⟨(some 23), none, .mv (.tmp 22)⟩,
      ⟨(some 24), (some (23, false)), .fldA 3 (.tmp 1)⟩,
      ⟨(some 25), (some (23, false)), .load false 1 (.tmp 24)⟩,
      ⟨(some 26), (some (23, false)), .call (.func 68) [(.tmp 25), (.const (.int .i64 0)), (.const (.int .i64 1000000))]⟩,
      ⟨(some 27), (some (23, false)), .not (.tmp 26)⟩,
      ⟨(some 28), none, .pick (.tmp 23) (.const (.bool true)) (.tmp 27)⟩,
      ⟨(some 29), none, .mv (.tmp 28)⟩,
      ⟨(some 30), (some (29, false)), .fldA 4 (.tmp 1)⟩,
      ⟨(some 31), (some (29, false)), .load false 1 (.tmp 30)⟩,
      ⟨(some 32), (some (29, false)), .call (.func 68) [(.tmp 31), (.const (.int .i64 0)), (.const (.int .i64 1000))]⟩,
      ⟨(some 33), (some (29, false)), .not (.tmp 32)⟩,
      ⟨(some 34), none, .pick (.tmp 29) (.const (.bool true)) (.tmp 33)⟩])
   (.cond (.tmp 34)
    (.seq (.reg [⟨(some 2), none, .mv (.const (.int .i64 3))⟩])
     (.ret))
    (.skip)))
  (.seq (.reg [⟨(some 2), none, .mv (.const (.int .i64 0))⟩])
  (.ret))))
theorem ck_place_Check : chkFun Try.prog 24 1 = some (rc_place_Check, [2]) := by kernel_rfl
/-- hearsay/hearsayref.CheckPlace -/
def rc_hearsayref_CheckPlace : RCode :=
  .seq (.reg [⟨(some 1), none, .box 23 5 (.tmp 0)⟩,
     ⟨(some 2), none, .mv (.const (.int .i64 0))⟩])
  (.seq (.seq (.reg [⟨(some 3), none, .fldA 0 (.tmp 1)⟩,
      ⟨(some 4), none, .load false 1 (.tmp 3)⟩,
      ⟨(some 5), none, .call (.func 82) [(.tmp 4), (.const (.int .i64 (-10000000))), (.const (.int .i64 10000000))]⟩,
      ⟨(some 6), none, .not (.tmp 5)⟩,
      ⟨(some 7), none, .mv (.tmp 6)⟩,
      ⟨(some 8), (some (7, false)), .fldA 1 (.tmp 1)⟩,
      ⟨(some 9), (some (7, false)), .load false 1 (.tmp 8)⟩,
      ⟨(some 10), (some (7, false)), .call (.func 82) [(.tmp 9), (.const (.int .i64 (-10000000))), (.const (.int .i64 10000000))]⟩,
      ⟨(some 11), (some (7, false)), .not (.tmp 10)⟩,
      ⟨(some 12), none, .pick (.tmp 7) (.const (.bool true)) (.tmp 11)⟩,
      ⟨(some 13), none, .mv (.tmp 12)⟩,
      ⟨(some 14), (some (13, false)), .fldA 2 (.tmp 1)⟩,
      ⟨(some 15), (some (13, false)), .load false 1 (.tmp 14)⟩,
      ⟨(some 16), (some (13, false)), .call (.func 82) [(.tmp 15), (.const (.int .i64 (-10000000))), (.const (.int .i64 10000000))]⟩,
      ⟨(some 17), (some (13, false)), .not (.tmp 16)⟩,
      ⟨(some 18), none, .pick (.tmp 13) (.const (.bool true)) (.tmp 17)⟩,
      ⟨(some 19), none, .mv (.tmp 18)⟩,
      ⟨(some 20), (some (19, false)), .fldA 3 (.tmp 1)⟩,
      ⟨(some 21), (some (19, false)), .load false 1 (.tmp 20)⟩,
      ⟨(some 22), (some (19, false)), .call (.func 82) [(.tmp 21), (.const (.int .i64 0)), (.const (.int .i64 1000000))]⟩,
      ⟨(some 23), (some (19, false)), .not (.tmp 22)⟩,
      ⟨(some 24), none, .pick (.tmp 19) (.const (.bool true)) (.tmp 23)⟩,
      ⟨(some 25), none, .mv (.tmp 24)⟩,
      ⟨(some 26), (some (25, false)), .fldA 4 (.tmp 1)⟩,
      ⟨(some 27), (some (25, false)), .load false 1 (.tmp 26)⟩,
      ⟨(some 28), (some (25, false)), .call (.func 82) [(.tmp 27), (.const (.int .i64 0)), (.const (.int .i64 1000))]⟩,
      ⟨(some 29), (some (25, false)), .not (.tmp 28)⟩,
      ⟨(some 30), none, .pick (.tmp 25) (.const (.bool true)) (.tmp 29)⟩])
   (.cond (.tmp 30)
    (.seq (.reg [⟨(some 2), none, .mv (.const (.int .i64 3))⟩])
     (.ret))
    (.skip)))
  (.seq (.reg [⟨(some 2), none, .mv (.const (.int .i64 0))⟩])
  (.ret)))
theorem ck_hearsayref_CheckPlace : chkFun Try.prog 51 1 = some (rc_hearsayref_CheckPlace, [2]) := by kernel_rfl
/-- hearsay/place.check -/
def rc_place_check : RCode :=
  .seq (.reg [⟨(some 2), none, .mv (.const (.int .i64 0))⟩])
  (.seq (.seq (.reg [⟨(some 6), none, .mv (.tmp 0)⟩,
      ⟨(some 7), none, .len false (.tmp 6)⟩,
      ⟨(some 8), none, .mv (.const (.int .i64 0))⟩])
   (.block 0
    (.loop
     (.seq (.reg [⟨(some 9), none, .bin .lss (.tmp 8) (.tmp 7)⟩])
     (.seq (.cond (.tmp 9)
       (.skip)
       (.exit 0))
     (.seq (.block 1
       (.seq (.reg [⟨(some 10), none, .idxA 5 (.tmp 6) (.tmp 8)⟩,
          ⟨(some 11), none, .load true 5 (.tmp 10)⟩,
          ⟨(some 4), none, .zbox 23 [(.int .i64 0), (.int .i64 0), (.int .i64 0), (.int .i64 0), (.int .i64 0)]⟩,
          ⟨none, none, .store 5 (.tmp 4) (.tmp 11)⟩])
       (.seq (.reg [⟨(some 12), none, .load true 5 (.tmp 4)⟩,
          ⟨(some 13), none, .call (.func 24) [(.tmp 12)]⟩,
          ⟨(some 5), none, .mv (.tmp 13)⟩])
       (.seq (.reg [⟨(some 14), none, .mv (.tmp 5)⟩,
          ⟨(some 15), none, .bin .neq (.tmp 14) (.const (.int .i64 0))⟩])
       (.cond (.tmp 15)
        (.seq (.reg [⟨(some 16), none, .mv (.tmp 5)⟩,
            ⟨(some 2), none, .mv (.tmp 16)⟩])
         (.ret))
        (.skip))))))
     (.reg [⟨(some 17), none, .bin .add (.tmp 8) (.const (.int .i64 1))⟩,
       ⟨(some 8), none, .mv (.tmp 17)⟩])))))))
  (.seq (.reg [⟨(some 2), none, .mv (.const (.int .i64 0))⟩])
  (.ret)))
theorem ck_place_check : chkFun Try.prog 67 1 = some (rc_place_check, [2]) := by kernel_rfl
/-- hearsay/place.within -/
def rc_place_within : RCode :=
  .seq (.reg [⟨(some 6), none, .mv (.const (.bool false))⟩])
  (.seq (.reg [⟨(some 7), none, .mv (.tmp 0)⟩,
     ⟨(some 8), none, .mv (.tmp 1)⟩,
     ⟨(some 9), none, .bin .geq (.tmp 7) (.tmp 8)⟩,
     ⟨(some 10), none, .mv (.tmp 9)⟩,
     ⟨(some 11), (some (10, true)), .mv (.tmp 0)⟩,
     ⟨(some 12), (some (10, true)), .mv (.tmp 2)⟩,
     ⟨(some 13), (some (10, true)), .bin .leq (.tmp 11) (.tmp 12)⟩,
     ⟨(some 14), none, .pick (.tmp 10) (.tmp 13) (.const (.bool false))⟩,
     ⟨(some 6), none, .mv (.tmp 14)⟩])
  (.ret))
theorem ck_place_within : chkFun Try.prog 68 3 = some (rc_place_within, [6]) := by kernel_rfl
/-- hearsay/place.RawFar -/
def rc_place_RawFar : RCode :=
  .seq (.reg [⟨(some 2), none, .box 23 5 (.tmp 0)⟩,
     ⟨(some 3), none, .box 23 5 (.tmp 1)⟩,
     ⟨(some 4), none, .mv (.const (.int .i64 0))⟩])
  (.seq (.dreg [[⟨(some 5), none, .load true 5 (.tmp 2)⟩,
      ⟨(some 6), none, .load true 5 (.tmp 3)⟩,
      ⟨(some 7), none, .call (.func 70) [(.tmp 5), (.tmp 6)]⟩,
      ⟨(some 8), none, .fldA 3 (.tmp 2)⟩,
      ⟨(some 9), none, .load false 1 (.tmp 8)⟩,
      ⟨(some 10), none, .bin .add (.tmp 7) (.tmp 9)⟩,
      ⟨(some 11), none, .fldA 3 (.tmp 3)⟩,
      ⟨(some 12), none, .load false 1 (.tmp 11)⟩],
     [⟨(some 13), none, .bin .add (.tmp 10) (.tmp 12)⟩],
     [⟨(some 4), none, .mv (.tmp 13)⟩]])
  (.ret))
theorem ck_place_RawFar : chkFun Try.prog 69 2 = some (rc_place_RawFar, [4]) := by kernel_rfl
/-- hearsay/place.apart -/
def rc_place_apart : RCode :=
  .seq (.reg [⟨(some 2), none, .box 23 5 (.tmp 0)⟩,
     ⟨(some 3), none, .box 23 5 (.tmp 1)⟩,
     ⟨(some 4), none, .mv (.const (.int .i64 0))⟩])
  (.seq (.dreg [[⟨(some 8), none, .fldA 0 (.tmp 2)⟩,
      ⟨(some 9), none, .load false 1 (.tmp 8)⟩,
      ⟨(some 10), none, .fldA 0 (.tmp 3)⟩,
      ⟨(some 11), none, .load false 1 (.tmp 10)⟩,
      ⟨(some 12), none, .bin .sub (.tmp 9) (.tmp 11)⟩,
      ⟨(some 13), none, .fldA 1 (.tmp 2)⟩,
      ⟨(some 14), none, .load false 1 (.tmp 13)⟩,
      ⟨(some 15), none, .fldA 1 (.tmp 3)⟩,
      ⟨(some 16), none, .load false 1 (.tmp 15)⟩,
      ⟨(some 17), none, .bin .sub (.tmp 14) (.tmp 16)⟩,
      ⟨(some 18), none, .fldA 2 (.tmp 2)⟩,
      ⟨(some 19), none, .load false 1 (.tmp 18)⟩,
      ⟨(some 20), none, .fldA 2 (.tmp 3)⟩,
      ⟨(some 21), none, .load false 1 (.tmp 20)⟩,
      ⟨(some 22), none, .bin .sub (.tmp 19) (.tmp 21)⟩,
      ⟨(some 5), none, .mv (.tmp 12)⟩,
      ⟨(some 6), none, .mv (.tmp 17)⟩],
     [⟨(some 7), none, .mv (.tmp 22)⟩]])
  (.seq (.reg [⟨(some 23), none, .mv (.tmp 5)⟩,
     ⟨(some 24), none, .mv (.tmp 5)⟩,
     ⟨(some 25), none, .bin .mul (.tmp 23) (.tmp 24)⟩,
     ⟨(some 26), none, .mv (.tmp 6)⟩,
     ⟨(some 27), none, .mv (.tmp 6)⟩,
     ⟨(some 28), none, .bin .mul (.tmp 26) (.tmp 27)⟩,
     ⟨(some 29), none, .bin .add (.tmp 25) (.tmp 28)⟩,
     ⟨(some 30), none, .mv (.tmp 7)⟩,
     ⟨(some 31), none, .mv (.tmp 7)⟩,
     ⟨(some 32), none, .bin .mul (.tmp 30) (.tmp 31)⟩,
     ⟨(some 33), none, .bin .add (.tmp 29) (.tmp 32)⟩,
     ⟨(some 34), none, .call (.func 118) [(.tmp 33)]⟩,
     ⟨(some 4), none, .mv (.tmp 34)⟩])
  (.ret)))
theorem ck_place_apart : chkFun Try.prog 70 2 = some (rc_place_apart, [4]) := by kernel_rfl
/-- hearsay/place.Move$1 -/
def rc_place_Move_1 : RCode :=
  .seq (.reg [⟨(some 6), none, .mv (.const (.int .i64 0))⟩])
  (.seq (.reg [⟨(some 7), none, .mv (.tmp 0)⟩,
     ⟨(some 8), none, .load false 1 (.tmp 2)⟩,
     ⟨(some 9), none, .mv (.tmp 0)⟩,
     ⟨(some 10), none, .mv (.tmp 1)⟩,
     ⟨(some 11), none, .bin .sub (.tmp 9) (.tmp 10)⟩,
     ⟨(some 12), none, .bin .mul (.tmp 8) (.tmp 11)⟩,
     ⟨(some 13), none, .load false 1 (.tmp 3)⟩,
     ⟨(some 14), none, .bin .quo (.tmp 12) (.tmp 13)⟩,
     ⟨(some 15), none, .bin .add (.tmp 7) (.tmp 14)⟩,
     ⟨(some 16), none, .call (.func 72) [(.tmp 15), (.const (.int .i64 (-10000000))), (.const (.int .i64 10000000))]⟩,
     ⟨(some 6), none, .mv (.tmp 16)⟩])
  (.ret))
theorem ck_place_Move_1 : chkFun Try.prog 71 4 = some (rc_place_Move_1, [6]) := by kernel_rfl
/-- hearsay/place.bound -/
def rc_place_bound : RCode :=
  .seq (.reg [⟨(some 6), none, .mv (.const (.int .i64 0))⟩])
  (.seq (.reg [⟨(some 7), none, .mv (.tmp 1)⟩,
     ⟨(some 8), none, .mv (.tmp 2)⟩,
     ⟨(some 9), none, .mv (.tmp 0)⟩,
     ⟨(some 10), none, .mm false (.tmp 8) (.tmp 9)⟩,
     ⟨(some 11), none, .mm true (.tmp 7) (.tmp 10)⟩,
     ⟨(some 6), none, .mv (.tmp 11)⟩])
  (.ret))
theorem ck_place_bound : chkFun Try.prog 72 3 = some (rc_place_bound, [6]) := by kernel_rfl
/-- hearsay/hearsayref.FarOf -/
def rc_hearsayref_FarOf : RCode :=
  .seq (.reg [⟨(some 2), none, .box 23 5 (.tmp 0)⟩,
     ⟨(some 3), none, .box 23 5 (.tmp 1)⟩,
     ⟨(some 4), none, .mv (.const (.int .i64 0))⟩])
  (.seq (.dreg [[⟨(some 5), none, .load true 5 (.tmp 2)⟩,
      ⟨(some 6), none, .load true 5 (.tmp 3)⟩,
      ⟨(some 7), none, .call (.func 74) [(.tmp 5), (.tmp 6)]⟩,
      ⟨(some 8), none, .fldA 3 (.tmp 2)⟩,
      ⟨(some 9), none, .load false 1 (.tmp 8)⟩,
      ⟨(some 10), none, .bin .add (.tmp 7) (.tmp 9)⟩,
      ⟨(some 11), none, .fldA 3 (.tmp 3)⟩,
      ⟨(some 12), none, .load false 1 (.tmp 11)⟩],
     [⟨(some 13), none, .bin .add (.tmp 10) (.tmp 12)⟩],
     [⟨(some 4), none, .mv (.tmp 13)⟩]])
  (.ret))
theorem ck_hearsayref_FarOf : chkFun Try.prog 73 2 = some (rc_hearsayref_FarOf, [4]) := by kernel_rfl
/-- hearsay/hearsayref.FlatFar -/
def rc_hearsayref_FlatFar : RCode :=
  .seq (.reg [⟨(some 2), none, .box 23 5 (.tmp 0)⟩,
     ⟨(some 3), none, .box 23 5 (.tmp 1)⟩,
     ⟨(some 4), none, .mv (.const (.int .i64 0))⟩])
  (.seq (.reg [⟨(some 5), none, .fldA 0 (.tmp 2)⟩,
     ⟨(some 6), none, .load false 1 (.tmp 5)⟩,
     ⟨(some 7), none, .fldA 0 (.tmp 3)⟩,
     ⟨(some 8), none, .load false 1 (.tmp 7)⟩,
     ⟨(some 9), none, .bin .sub (.tmp 6) (.tmp 8)⟩,
     ⟨(some 10), none, .fldA 0 (.tmp 2)⟩,
     ⟨(some 11), none, .load false 1 (.tmp 10)⟩,
     ⟨(some 12), none, .fldA 0 (.tmp 3)⟩,
     ⟨(some 13), none, .load false 1 (.tmp 12)⟩,
     ⟨(some 14), none, .bin .sub (.tmp 11) (.tmp 13)⟩,
     ⟨(some 15), none, .bin .mul (.tmp 9) (.tmp 14)⟩,
     ⟨(some 16), none, .fldA 1 (.tmp 2)⟩,
     ⟨(some 17), none, .load false 1 (.tmp 16)⟩,
     ⟨(some 18), none, .fldA 1 (.tmp 3)⟩,
     ⟨(some 19), none, .load false 1 (.tmp 18)⟩,
     ⟨(some 20), none, .bin .sub (.tmp 17) (.tmp 19)⟩,
     ⟨(some 21), none, .fldA 1 (.tmp 2)⟩,
     ⟨(some 22), none, .load false 1 (.tmp 21)⟩,
     ⟨(some 23), none, .fldA 1 (.tmp 3)⟩,
     ⟨(some 24), none, .load false 1 (.tmp 23)⟩,
     ⟨(some 25), none, .bin .sub (.tmp 22) (.tmp 24)⟩,
     ⟨(some 26), none, .bin .mul (.tmp 20) (.tmp 25)⟩,
     ⟨(some 27), none, .bin .add (.tmp 15) (.tmp 26)⟩,
     ⟨(some 28), none, .fldA 2 (.tmp 2)⟩,
     ⟨(some 29), none, .load false 1 (.tmp 28)⟩,
     ⟨(some 30), none, .fldA 2 (.tmp 3)⟩,
     ⟨(some 31), none, .load false 1 (.tmp 30)⟩,
     ⟨(some 32), none, .bin .sub (.tmp 29) (.tmp 31)⟩,
     ⟨(some 33), none, .fldA 2 (.tmp 2)⟩,
     ⟨(some 34), none, .load false 1 (.tmp 33)⟩,
     ⟨(some 35), none, .fldA 2 (.tmp 3)⟩,
     ⟨(some 36), none, .load false 1 (.tmp 35)⟩,
     ⟨(some 37), none, .bin .sub (.tmp 34) (.tmp 36)⟩,
     ⟨(some 38), none, .bin .mul (.tmp 32) (.tmp 37)⟩,
     ⟨(some 39), none, .bin .add (.tmp 27) (.tmp 38)⟩,
     ⟨(some 40), none, .call (.func 119) [(.tmp 39)]⟩,
     ⟨(some 4), none, .mv (.tmp 40)⟩])
  (.ret))
theorem ck_hearsayref_FlatFar : chkFun Try.prog 74 2 = some (rc_hearsayref_FlatFar, [4]) := by kernel_rfl
/-- hearsay/hearsayref.Bound -/
def rc_hearsayref_Bound : RCode :=
  .seq (.reg [⟨(some 6), none, .mv (.const (.int .i64 0))⟩])
  (.seq (.seq (.reg [⟨(some 7), none, .mv (.tmp 0)⟩,
      ⟨(some 8), none, .mv (.tmp 1)⟩,
      ⟨(some 9), none, .bin .lss (.tmp 7) (.tmp 8)⟩])
   (.cond (.tmp 9)
    (.seq (.reg [⟨(some 10), none, .mv (.tmp 1)⟩,
        ⟨(some 6), none, .mv (.tmp 10)⟩])
     (.ret))
    (.skip)))
  (.seq (.seq (.reg [⟨(some 11), none, .mv (.tmp 0)⟩,
      ⟨(some 12), none, .mv (.tmp 2)⟩,
      ⟨(some 13), none, .bin .gtr (.tmp 11) (.tmp 12)⟩])
   (.cond (.tmp 13)
    (.seq (.reg [⟨(some 14), none, .mv (.tmp 2)⟩,
        ⟨(some 6), none, .mv (.tmp 14)⟩])
     (.ret))
    (.skip)))
  (.seq (.reg [⟨(some 15), none, .mv (.tmp 0)⟩,
     ⟨(some 6), none, .mv (.tmp 15)⟩])
  (.ret))))
theorem ck_hearsayref_Bound : chkFun Try.prog 75 3 = some (rc_hearsayref_Bound, [6]) := by kernel_rfl
/-- hearsay/place.Root -/
def rc_place_Root : RCode :=
  .seq (.reg [⟨(some 2), none, .mv (.const (.int .i64 0))⟩,
     ⟨(some 3), none, .mv (.const (.int .i64 0))⟩])
  (.seq (.seq (.reg [⟨(some 4), none, .mv (.tmp 0)⟩,
      ⟨(some 5), none, .bin .lss (.tmp 4) (.const (.int .i64 0))⟩])
   (.cond (.tmp 5)
    (.seq (.reg [⟨(some 2), none, .mv (.const (.int .i64 0))⟩,
        ⟨(some 3), none, .mv (.const (.int .i64 3))⟩])
     (.ret))
    (.skip)))
  (.seq (.reg [⟨(some 6), none, .mv (.tmp 0)⟩,
     ⟨(some 7), none, .call (.func 118) [(.tmp 6)]⟩,
     ⟨(some 2), none, .mv (.tmp 7)⟩,
     ⟨(some 3), none, .mv (.const (.int .i64 0))⟩])
  (.ret)))
theorem ck_place_Root : chkFun Try.prog 76 1 = some (rc_place_Root, [2, 3]) := by kernel_rfl
/-- hearsay/place.Check$1 -/
def rc_place_Check_1 : RCode :=
  .seq (.reg [⟨(some 2), none, .mv (.const (.bool false))⟩])
  (.seq (.reg [⟨(some 3), none, .mv (.tmp 0)⟩,
     ⟨(some 4), none, .call (.func 68) [(.tmp 3), (.const (.int .i64 (-10000000))), (.const (.int .i64 10000000))]⟩,
     ⟨(some 2), none, .mv (.tmp 4)⟩])
  (.ret))
theorem ck_place_Check_1 : chkFun Try.prog 77 1 = some (rc_place_Check_1, [2]) := by kernel_rfl
/-- hearsay/place.root -/
def rc_place_root : RCode :=
  .seq (.reg [⟨(some 2), none, .mv (.const (.int .i64 0))⟩])
  (.seq (.seq (.reg [⟨(some 5), none, .mv (.tmp 0)⟩,
      ⟨(some 6), none, .bin .lss (.tmp 5) (.const (.int .i64 2))⟩])
   (.cond (.tmp 6)
    (.seq (.reg [⟨(some 7), none, .mv (.tmp 0)⟩,
        ⟨(some 2), none, .mv (.tmp 7)⟩])
     (.ret))
    (.skip)))
  (.seq (.reg [⟨(some 3), none, .mv (.const (.int .i64 1))⟩])
  (.seq (.block 0
    (.loop
     (.seq (.seq (.reg [⟨(some 8), none, .mv (.tmp 3)⟩,
         ⟨(some 9), none, .mv (.tmp 0)⟩,
         ⟨(some 10), none, .mv (.tmp 3)⟩,
         ⟨(some 11), none, .bin .quo (.tmp 9) (.tmp 10)⟩,
         ⟨(some 12), none, .bin .leq (.tmp 8) (.tmp 11)⟩])
      (.cond (.tmp 12)
       (.skip)
       (.exit 0)))
     (.block 1
      (.reg [⟨(some 13), none, .mv (.tmp 3)⟩,
        ⟨(some 14), none, .bin .mul (.tmp 13) (.const (.int .i64 2))⟩,
        ⟨(some 3), none, .mv (.tmp 14)⟩])))))
  (.block 2
   (.loop
    (.block 3
     (.seq (.reg [⟨(some 15), none, .mv (.tmp 3)⟩,
        ⟨(some 16), none, .mv (.tmp 0)⟩,
        ⟨(some 17), none, .mv (.tmp 3)⟩,
        ⟨(some 18), none, .bin .quo (.tmp 16) (.tmp 17)⟩,
        ⟨(some 19), none, .bin .add (.tmp 15) (.tmp 18)⟩,
        ⟨(some 20), none, .bin .quo (.tmp 19) (.const (.int .i64 2))⟩,
        ⟨(some 4), none, .mv (.tmp 20)⟩])
     (.seq (.seq (.reg [⟨(some 21), none, .mv (.tmp 4)⟩,
         ⟨(some 22), none, .mv (.tmp 3)⟩,
         ⟨(some 23), none, .bin .geq (.tmp 21) (.tmp 22)⟩])
      (.cond (.tmp 23)
       (.seq (.reg [⟨(some 24), none, .mv (.tmp 3)⟩,
           ⟨(some 2), none, .mv (.tmp 24)⟩])
        (.ret))
       (.skip)))
     (.reg [⟨(some 25), none, .mv (.tmp 4)⟩,
       ⟨(some 3), none, .mv (.tmp 25)⟩])))))))))
theorem ck_place_root : chkFun Try.prog 118 1 = some (rc_place_root, [2]) := by kernel_rfl
/-- hearsay/hearsayref.RootOf -/
def rc_hearsayref_RootOf : RCode :=
  .seq (.reg [⟨(some 2), none, .mv (.const (.int .i64 0))⟩])
  (.seq (.reg [⟨(some 3), none, .mv (.const (.int .i64 0))⟩,
     ⟨(some 4), none, .mv (.const (.int .i64 2147483648))⟩])
  (.seq (.block 0
    (.loop
     (.seq (.seq (.reg [⟨(some 5), none, .mv (.tmp 4)⟩,
         ⟨(some 6), none, .bin .gtr (.tmp 5) (.const (.int .i64 0))⟩])
      (.cond (.tmp 6)
       (.skip)
       (.exit 0)))
     (.block 1
      (.seq (.seq (.reg [⟨(some 7), none, .mv (.tmp 3)⟩,
          ⟨(some 8), none, .mv (.tmp 4)⟩,
          ⟨(some 9), none, .bin .add (.tmp 7) (.tmp 8)⟩,
          ⟨(some 10), none, .bin .leq (.tmp 9) (.const (.int .i64 3037000499))⟩,
          ⟨(some 11), none, .mv (.tmp 10)⟩,
          ⟨(some 12), (some (11, true)), .mv (.tmp 3)⟩,
          ⟨(some 13), (some (11, true)), .mv (.tmp 4)⟩,
          ⟨(some 14), (some (11, true)), .bin .add (.tmp 12) (.tmp 13)⟩,
          ⟨(some 15), (some (11, true)), .mv (.tmp 3)⟩,
          ⟨(some 16), (some (11, true)), .mv (.tmp 4)⟩,
          ⟨(some 17), (some (11, true)), .bin .add (.tmp 15) (.tmp 16)⟩,
          ⟨(some 18), (some (11, true)), .bin .mul (.tmp 14) (.tmp 17)⟩,
          ⟨(some 19), (some (11, true)), .mv (.tmp 0)⟩,
          ⟨(some 20), (some (11, true)), .bin .leq (.tmp 18) (.tmp 19)⟩,
          ⟨(some 21), none, .pick (.tmp 11) (.tmp 20) (.const (.bool false))⟩])
       (.cond (.tmp 21)
        (.reg [⟨(some 22), none, .mv (.tmp 3)⟩,
           ⟨(some 23), none, .mv (.tmp 4)⟩,
           ⟨(some 24), none, .bin .add (.tmp 22) (.tmp 23)⟩,
           ⟨(some 3), none, .mv (.tmp 24)⟩])
        (.skip)))
      (.reg [⟨(some 25), none, .mv (.tmp 4)⟩,
        ⟨(some 26), none, .bin .quo (.tmp 25) (.const (.int .i64 2))⟩,
        ⟨(some 4), none, .mv (.tmp 26)⟩]))))))
  (.seq (.reg [⟨(some 27), none, .mv (.tmp 3)⟩,
     ⟨(some 2), none, .mv (.tmp 27)⟩])
  (.ret))))
theorem ck_hearsayref_RootOf : chkFun Try.prog 119 1 = some (rc_hearsayref_RootOf, [2]) := by kernel_rfl

end Go.Proofs.Ytckkeeicngblgaa
