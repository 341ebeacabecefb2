/- The code of the functions, resolved; printed by a program (mkrc.py) and held against the translation by the kernel. -/
import Derived.Test.YtckkeeicngblgaaProg
import Derived.Test.YtckkeeicngblgaaAbsG
import Derived.KernelRfl
namespace Go.Proofs.Ytckkeeicngblgaa
set_option linter.unusedVariables false
/-- hearsay/hearsaylaw.CatalogFinds -/
def rc_hearsaylaw_CatalogFinds : RCode :=
  .seq (.reg [⟨(some 6), none, .mv (.const (.bool false))⟩])
  (.seq (.reg [⟨(some 12), none, .mv (.tmp 0)⟩,
     ⟨(some 13), none, .mv (.tmp 1)⟩,
     ⟨(some 14), none, .mv (.tmp 2)⟩,
     ⟨(some 15), none, .call (.func 31) [(.tmp 12), (.tmp 13), (.tmp 14)]⟩,
     ⟨(some 11), none, .mv (.tmp 15)⟩,
     ⟨(some 16), none, .ext (.tmp 11) 0⟩,
     ⟨(some 17), none, .ext (.tmp 11) 1⟩,
     ⟨(some 7), none, .mv (.tmp 16)⟩,
     ⟨(some 8), none, .mv (.tmp 17)⟩])
  (.seq (.reg [⟨(some 18), none, .mv (.tmp 0)⟩,
     ⟨(some 19), none, .call (.func 32) [(.tmp 18)]⟩,
     ⟨(some 9), none, .mv (.tmp 19)⟩])
  (.seq (.seq (.reg [⟨(some 20), none, .mv (.tmp 9)⟩,
      ⟨(some 21), none, .bin .eql (.tmp 20) (.const (.int .i64 0))⟩,
      ⟨(some 22), none, .mv (.tmp 21)⟩,
      ⟨(some 23), (some (22, true)), .mv (.tmp 1)⟩,
      ⟨(some 24), (some (22, true)), .call (.func 28) [(.tmp 23)]⟩,
      ⟨(some 25), (some (22, true)), .not (.tmp 24)⟩,
      ⟨(some 26), (some (22, true)), .mv (.tmp 25)⟩,
      ⟨(some 27), (some (26, false)), .mv (.tmp 2)⟩,
      ⟨(some 28), (some (26, false)), .bin .neq (.tmp 27) (.const (.string ⟨#[]⟩))⟩,
      ⟨(some 29), (some (26, false)), .mv (.tmp 28)⟩,
      ⟨(some 30), (some (29, true)), .mv (.tmp 2)⟩,
      ⟨(some 31), (some (29, true)), .call (.func 28) [(.tmp 30)]⟩,
      ⟨(some 32), (some (29, true)), .not (.tmp 31)⟩,
      ⟨(some 33), (some (26, false)), .pick (.tmp 29) (.tmp 32) (.const (.bool false))⟩,
      ⟨(some 34), (some (22, true)), .pick (.tmp 26) (.const (.bool true)) (.tmp 33)⟩,
      ⟨(some 35), none, .pick (.tmp 22) (.tmp 34) (.const (.bool false))⟩])
   (.cond (.tmp 35)
    (.reg [⟨(some 9), none, .mv (.const (.int .i64 1))⟩])
    (.skip)))
  (.seq (.reg [⟨(some 10), none, .mv (.const (.slice none 0 0))⟩])
  (.seq (.seq (.reg [⟨(some 36), none, .mv (.tmp 9)⟩,
      ⟨(some 37), none, .bin .eql (.tmp 36) (.const (.int .i64 0))⟩])
   (.cond (.tmp 37)
    (.reg [⟨(some 38), none, .mv (.tmp 0)⟩,
       ⟨(some 39), none, .mv (.tmp 1)⟩,
       ⟨(some 40), none, .mv (.tmp 2)⟩,
       ⟨(some 41), none, .call (.func 33) [(.tmp 38), (.tmp 39), (.tmp 40)]⟩,
       ⟨(some 10), none, .mv (.tmp 41)⟩])
    (.skip)))
  (.seq (.reg [⟨(some 42), none, .call (.func 34) []⟩,
     ⟨(some 43), none, .mv (.tmp 42)⟩,
     ⟨(some 44), (some (43, true)), .mv (.tmp 7)⟩,
     ⟨(some 45), (some (43, true)), .mv (.tmp 8)⟩,
     ⟨(some 46), (some (43, true)), .mv (.tmp 9)⟩,
     ⟨(some 47), (some (43, true)), .mv (.tmp 10)⟩,
     ⟨(some 48), (some (43, true)), .call (.func 35) [(.tmp 44), (.tmp 45), (.tmp 46), (.tmp 47)]⟩,
     ⟨(some 49), none, .pick (.tmp 43) (.tmp 48) (.const (.bool false))⟩,
     ⟨(some 6), none, .mv (.tmp 49)⟩])
  (.ret)))))))
theorem ck_hearsaylaw_CatalogFinds : chkFun Try.prog 6 3 = some (rc_hearsaylaw_CatalogFinds, [6]) := by kernel_rfl
/-- hearsay/hearsaylaw.CatalogChecks -/
def rc_hearsaylaw_CatalogChecks : RCode :=
  .seq (.reg [⟨(some 2), none, .mv (.const (.bool false))⟩])
  (.seq (.reg [⟨(some 3), none, .call (.func 34) []⟩,
     ⟨(some 4), none, .mv (.tmp 3)⟩,
     ⟨(some 5), (some (4, true)), .mv (.tmp 0)⟩,
     ⟨(some 6), (some (4, true)), .call (.func 36) [(.tmp 5)]⟩,
     ⟨(some 7), (some (4, true)), .mv (.tmp 0)⟩,
     ⟨(some 8), (some (4, true)), .call (.func 32) [(.tmp 7)]⟩,
     ⟨(some 9), (some (4, true)), .bin .eql (.tmp 6) (.tmp 8)⟩,
     ⟨(some 10), none, .pick (.tmp 4) (.tmp 9) (.const (.bool false))⟩,
     ⟨(some 2), none, .mv (.tmp 10)⟩])
  (.ret))
theorem ck_hearsaylaw_CatalogChecks : chkFun Try.prog 7 1 = some (rc_hearsaylaw_CatalogChecks, [2]) := by kernel_rfl
/-- hearsay/hearsaylaw.CatalogRegisters -/
def rc_hearsaylaw_CatalogRegisters : RCode :=
  .seq (.reg [⟨(some 3), none, .box 56 9 (.tmp 1)⟩,
     ⟨(some 4), none, .mv (.const (.bool false))⟩])
  (.seq (.reg [⟨(some 14), none, .mv (.tmp 0)⟩,
     ⟨(some 15), none, .load true 9 (.tmp 3)⟩,
     ⟨(some 16), none, .call (.func 37) [(.tmp 14), (.tmp 15)]⟩,
     ⟨(some 13), none, .mv (.tmp 16)⟩,
     ⟨(some 17), none, .ext (.tmp 13) 0⟩,
     ⟨(some 18), none, .ext (.tmp 13) 1⟩,
     ⟨(some 5), none, .mv (.tmp 17)⟩,
     ⟨(some 6), none, .mv (.tmp 18)⟩])
  (.seq (.reg [⟨(some 20), none, .mv (.tmp 0)⟩,
     ⟨(some 21), none, .fldA 0 (.tmp 3)⟩,
     ⟨(some 22), none, .load false 1 (.tmp 21)⟩,
     ⟨(some 23), none, .fldA 1 (.tmp 3)⟩,
     ⟨(some 24), none, .load false 1 (.tmp 23)⟩,
     ⟨(some 25), none, .call (.func 38) [(.tmp 20), (.tmp 22), (.tmp 24)]⟩,
     ⟨(some 19), none, .mv (.tmp 25)⟩,
     ⟨(some 26), none, .ext (.tmp 19) 0⟩,
     ⟨(some 27), none, .ext (.tmp 19) 1⟩,
     ⟨(some 7), none, .mv (.tmp 26)⟩,
     ⟨(some 8), none, .mv (.tmp 27)⟩])
  (.seq (.reg [⟨(some 28), none, .mv (.tmp 0)⟩,
     ⟨(some 29), none, .call (.func 32) [(.tmp 28)]⟩,
     ⟨(some 9), none, .mv (.tmp 29)⟩])
  (.seq (.reg [⟨(some 30), none, .mv (.tmp 9)⟩,
     ⟨(some 10), none, .mv (.tmp 30)⟩])
  (.seq (.reg [⟨(some 11), none, .mv (.const (.slice none 0 0))⟩,
     ⟨(some 12), none, .mv (.const (.slice none 0 0))⟩])
  (.seq (.seq (.reg [⟨(some 31), none, .mv (.tmp 9)⟩,
      ⟨(some 32), none, .bin .eql (.tmp 31) (.const (.int .i64 0))⟩])
   (.cond (.tmp 32)
    (.seq (.reg [⟨(some 34), none, .mv (.tmp 0)⟩,
        ⟨(some 35), none, .load true 9 (.tmp 3)⟩,
        ⟨(some 36), none, .call (.func 39) [(.tmp 34), (.tmp 35)]⟩,
        ⟨(some 33), none, .mv (.tmp 36)⟩,
        ⟨(some 37), none, .ext (.tmp 33) 0⟩,
        ⟨(some 38), none, .ext (.tmp 33) 1⟩,
        ⟨(some 11), none, .mv (.tmp 37)⟩,
        ⟨(some 10), none, .mv (.tmp 38)⟩])
     (.reg [⟨(some 40), none, .mv (.tmp 0)⟩,
       ⟨(some 41), none, .fldA 0 (.tmp 3)⟩,
       ⟨(some 42), none, .load false 1 (.tmp 41)⟩,
       ⟨(some 43), none, .fldA 1 (.tmp 3)⟩,
       ⟨(some 44), none, .load false 1 (.tmp 43)⟩,
       ⟨(some 45), none, .call (.func 40) [(.tmp 40), (.tmp 42), (.tmp 44)]⟩,
       ⟨(some 39), none, .mv (.tmp 45)⟩,
       ⟨(some 46), none, .ext (.tmp 39) 0⟩,
       ⟨(some 47), none, .ext (.tmp 39) 1⟩,
       ⟨(some 12), none, .mv (.tmp 46)⟩,
       ⟨(some 9), none, .mv (.tmp 47)⟩]))
    (.skip)))
  (.seq (.reg [⟨(some 48), none, .call (.func 34) []⟩,
     ⟨(some 49), none, .mv (.tmp 48)⟩,
     ⟨(some 50), (some (49, true)), .mv (.tmp 5)⟩,
     ⟨(some 51), (some (49, true)), .mv (.tmp 6)⟩,
     ⟨(some 52), (some (49, true)), .mv (.tmp 10)⟩,
     ⟨(some 53), (some (49, true)), .mv (.tmp 11)⟩,
     ⟨(some 54), (some (49, true)), .call (.func 35) [(.tmp 50), (.tmp 51), (.tmp 52), (.tmp 53)]⟩,
     ⟨(some 55), none, .pick (.tmp 49) (.tmp 54) (.const (.bool false))⟩,
     ⟨(some 56), none, .mv (.tmp 55)⟩,
     ⟨(some 57), (some (56, true)), .mv (.tmp 7)⟩,
     ⟨(some 58), (some (56, true)), .mv (.tmp 8)⟩,
     ⟨(some 59), (some (56, true)), .mv (.tmp 9)⟩,
     ⟨(some 60), (some (56, true)), .mv (.tmp 12)⟩,
     ⟨(some 61), (some (56, true)), .call (.func 35) [(.tmp 57), (.tmp 58), (.tmp 59), (.tmp 60)]⟩,
     ⟨(some 62), none, .pick (.tmp 56) (.tmp 61) (.const (.bool false))⟩,
     ⟨(some 4), none, .mv (.tmp 62)⟩])
  (.ret))))))))
theorem ck_hearsaylaw_CatalogRegisters : chkFun Try.prog 8 2 = some (rc_hearsaylaw_CatalogRegisters, [4]) := by kernel_rfl
/-- hearsay/hearsaylaw.CatalogNewer -/
def rc_hearsaylaw_CatalogNewer : RCode :=
  .seq (.reg [⟨(some 2), none, .box 56 9 (.tmp 0)⟩,
     ⟨(some 3), none, .box 56 9 (.tmp 1)⟩,
     ⟨(some 4), none, .mv (.const (.bool false))⟩])
  (.seq (.reg [⟨(some 9), none, .load true 9 (.tmp 2)⟩,
     ⟨(some 10), none, .load true 9 (.tmp 3)⟩,
     ⟨(some 11), none, .call (.func 41) [(.tmp 9), (.tmp 10)]⟩,
     ⟨(some 8), none, .mv (.tmp 11)⟩,
     ⟨(some 12), none, .ext (.tmp 8) 0⟩,
     ⟨(some 13), none, .ext (.tmp 8) 1⟩,
     ⟨(some 5), none, .mv (.tmp 12)⟩,
     ⟨(some 6), none, .mv (.tmp 13)⟩])
  (.seq (.reg [⟨(some 14), none, .load true 9 (.tmp 2)⟩,
     ⟨(some 15), none, .call (.func 42) [(.tmp 14)]⟩,
     ⟨(some 7), none, .mv (.tmp 15)⟩])
  (.seq (.seq (.reg [⟨(some 16), none, .mv (.tmp 7)⟩,
      ⟨(some 17), none, .bin .eql (.tmp 16) (.const (.int .i64 0))⟩])
   (.cond (.tmp 17)
    (.reg [⟨(some 18), none, .load true 9 (.tmp 3)⟩,
       ⟨(some 19), none, .call (.func 42) [(.tmp 18)]⟩,
       ⟨(some 7), none, .mv (.tmp 19)⟩])
    (.skip)))
  (.seq (.seq (.reg [⟨(some 20), none, .mv (.tmp 7)⟩,
      ⟨(some 21), none, .bin .eql (.tmp 20) (.const (.int .i64 0))⟩,
      ⟨(some 22), none, .mv (.tmp 21)⟩,
      ⟨(some 23), (some (22, true)), .fldA 0 (.tmp 2)⟩,
      ⟨(some 24), (some (22, true)), .load false 1 (.tmp 23)⟩,
      ⟨(some 25), (some (22, true)), .fldA 0 (.tmp 3)⟩,
      ⟨(some 26), (some (22, true)), .load false 1 (.tmp 25)⟩,
      ⟨(some 27), (some (22, true)), .bin .neq (.tmp 24) (.tmp 26)⟩,
      ⟨(some 28), (some (22, true)), .mv (.tmp 27)⟩,
      ⟨(some 29), (some (28, false)), .fldA 1 (.tmp 2)⟩,
      ⟨(some 30), (some (28, false)), .load false 1 (.tmp 29)⟩,
      ⟨(some 31), (some (28, false)), .fldA 1 (.tmp 3)⟩,
      ⟨(some 32), (some (28, false)), .load false 1 (.tmp 31)⟩,
      ⟨(some 33), (some (28, false)), .bin .neq (.tmp 30) (.tmp 32)⟩,
      ⟨(some 34), (some (22, true)), .pick (.tmp 28) (.const (.bool true)) (.tmp 33)⟩,
      ⟨(some 35), none, .pick (.tmp 22) (.tmp 34) (.const (.bool false))⟩])
   (.cond (.tmp 35)
    (.reg [⟨(some 7), none, .mv (.const (.int .i64 4))⟩])
    (.skip)))
  (.seq (.reg [⟨(some 36), none, .call (.func 34) []⟩,
     ⟨(some 37), none, .mv (.tmp 36)⟩,
     ⟨(some 38), (some (37, true)), .mv (.tmp 6)⟩,
     ⟨(some 39), (some (37, true)), .mv (.tmp 7)⟩,
     ⟨(some 40), (some (37, true)), .bin .eql (.tmp 38) (.tmp 39)⟩,
     ⟨(some 41), none, .pick (.tmp 37) (.tmp 40) (.const (.bool false))⟩,
     ⟨(some 42), none, .mv (.tmp 41)⟩,
     ⟨(some 43), (some (42, true)), .mv (.tmp 5)⟩,
     ⟨(some 44), (some (42, true)), .mv (.tmp 7)⟩,
     ⟨(some 45), (some (42, true)), .bin .eql (.tmp 44) (.const (.int .i64 0))⟩,
     ⟨(some 46), (some (42, true)), .mv (.tmp 45)⟩,
     ⟨(some 47), (some (46, true)), .load true 9 (.tmp 2)⟩,
     ⟨(some 48), (some (46, true)), .load true 9 (.tmp 3)⟩,
     ⟨(some 49), (some (46, true)), .call (.func 43) [(.tmp 47), (.tmp 48)]⟩,
     ⟨(some 50), (some (42, true)), .pick (.tmp 46) (.tmp 49) (.const (.bool false))⟩,
     ⟨(some 51), (some (42, true)), .eqb false (.tmp 43) (.tmp 50)⟩,
     ⟨(some 52), none, .pick (.tmp 42) (.tmp 51) (.const (.bool false))⟩,
     ⟨(some 4), none, .mv (.tmp 52)⟩])
  (.ret))))))
theorem ck_hearsaylaw_CatalogNewer : chkFun Try.prog 9 2 = some (rc_hearsaylaw_CatalogNewer, [4]) := by kernel_rfl
/-- hearsay/hearsaylaw.CatalogJoins -/
def rc_hearsaylaw_CatalogJoins : RCode :=
  .seq (.reg [⟨(some 4), none, .mv (.const (.bool false))⟩])
  (.seq (.reg [⟨(some 10), none, .mv (.tmp 0)⟩,
     ⟨(some 11), none, .mv (.tmp 1)⟩,
     ⟨(some 12), none, .call (.func 46) [(.tmp 10), (.tmp 11)]⟩,
     ⟨(some 9), none, .mv (.tmp 12)⟩,
     ⟨(some 13), none, .ext (.tmp 9) 0⟩,
     ⟨(some 14), none, .ext (.tmp 9) 1⟩,
     ⟨(some 5), none, .mv (.tmp 13)⟩,
     ⟨(some 6), none, .mv (.tmp 14)⟩])
  (.seq (.reg [⟨(some 15), none, .mv (.tmp 0)⟩,
     ⟨(some 16), none, .call (.func 32) [(.tmp 15)]⟩,
     ⟨(some 7), none, .mv (.tmp 16)⟩])
  (.seq (.seq (.reg [⟨(some 17), none, .mv (.tmp 7)⟩,
      ⟨(some 18), none, .bin .eql (.tmp 17) (.const (.int .i64 0))⟩])
   (.cond (.tmp 18)
    (.reg [⟨(some 19), none, .mv (.tmp 1)⟩,
       ⟨(some 20), none, .call (.func 32) [(.tmp 19)]⟩,
       ⟨(some 7), none, .mv (.tmp 20)⟩])
    (.skip)))
  (.seq (.reg [⟨(some 8), none, .mv (.const (.slice none 0 0))⟩])
  (.seq (.seq (.reg [⟨(some 21), none, .mv (.tmp 7)⟩,
      ⟨(some 22), none, .bin .eql (.tmp 21) (.const (.int .i64 0))⟩])
   (.cond (.tmp 22)
    (.seq (.reg [⟨(some 23), none, .mv (.tmp 0)⟩,
        ⟨(some 24), none, .mv (.tmp 1)⟩,
        ⟨(some 25), none, .call (.func 47) [(.tmp 23), (.tmp 24)]⟩,
        ⟨(some 8), none, .mv (.tmp 25)⟩])
     (.seq (.reg [⟨(some 26), none, .mv (.tmp 8)⟩,
        ⟨(some 27), none, .len false (.tmp 26)⟩,
        ⟨(some 28), none, .bin .gtr (.tmp 27) (.const (.int .i64 40))⟩])
     (.cond (.tmp 28)
      (.reg [⟨(some 7), none, .mv (.const (.int .i64 2))⟩])
      (.skip))))
    (.skip)))
  (.seq (.reg [⟨(some 29), none, .call (.func 34) []⟩,
     ⟨(some 30), none, .mv (.tmp 29)⟩,
     ⟨(some 31), (some (30, true)), .mv (.tmp 5)⟩,
     ⟨(some 32), (some (30, true)), .mv (.tmp 6)⟩,
     ⟨(some 33), (some (30, true)), .mv (.tmp 7)⟩,
     ⟨(some 34), (some (30, true)), .mv (.tmp 8)⟩,
     ⟨(some 35), (some (30, true)), .call (.func 35) [(.tmp 31), (.tmp 32), (.tmp 33), (.tmp 34)]⟩,
     ⟨(some 36), none, .pick (.tmp 30) (.tmp 35) (.const (.bool false))⟩,
     ⟨(some 4), none, .mv (.tmp 36)⟩])
  (.ret)))))))
theorem ck_hearsaylaw_CatalogJoins : chkFun Try.prog 11 2 = some (rc_hearsaylaw_CatalogJoins, [4]) := by kernel_rfl
/-- hearsay/hearsaylaw.CatalogOrders -/
def rc_hearsaylaw_CatalogOrders : RCode :=
  .seq (.reg [⟨(some 6), none, .mv (.const (.bool false))⟩])
  (.seq (.seq (.reg [⟨(some 19), none, .call (.func 34) []⟩,
      ⟨(some 20), none, .not (.tmp 19)⟩])
   (.cond (.tmp 20)
    (.seq (.reg [⟨(some 6), none, .mv (.const (.bool false))⟩])
     (.ret))
    (.skip)))
  (.seq (.reg [⟨(some 22), none, .mv (.tmp 0)⟩,
     ⟨(some 23), none, .mv (.tmp 1)⟩,
     ⟨(some 24), none, .call (.func 46) [(.tmp 22), (.tmp 23)]⟩,
     ⟨(some 21), none, .mv (.tmp 24)⟩,
     ⟨(some 25), none, .ext (.tmp 21) 0⟩,
     ⟨(some 26), none, .ext (.tmp 21) 1⟩,
     ⟨(some 7), none, .mv (.tmp 25)⟩,
     ⟨(some 8), none, .mv (.tmp 26)⟩])
  (.seq (.reg [⟨(some 28), none, .mv (.tmp 1)⟩,
     ⟨(some 29), none, .mv (.tmp 0)⟩,
     ⟨(some 30), none, .call (.func 46) [(.tmp 28), (.tmp 29)]⟩,
     ⟨(some 27), none, .mv (.tmp 30)⟩,
     ⟨(some 31), none, .ext (.tmp 27) 0⟩,
     ⟨(some 32), none, .ext (.tmp 27) 1⟩,
     ⟨(some 9), none, .mv (.tmp 31)⟩,
     ⟨(some 10), none, .mv (.tmp 32)⟩])
  (.seq (.seq (.reg [⟨(some 33), none, .mv (.tmp 8)⟩,
      ⟨(some 34), none, .bin .eql (.tmp 33) (.const (.int .i64 0))⟩,
      ⟨(some 35), none, .mv (.tmp 10)⟩,
      ⟨(some 36), none, .bin .eql (.tmp 35) (.const (.int .i64 0))⟩,
      ⟨(some 37), none, .eqb true (.tmp 34) (.tmp 36)⟩,
      ⟨(some 38), none, .mv (.tmp 37)⟩,
      ⟨(some 39), (some (38, false)), .mv (.tmp 7)⟩,
      ⟨(some 40), (some (38, false)), .mv (.tmp 9)⟩,
      ⟨(some 41), (some (38, false)), .call (.func 48) [(.tmp 39), (.tmp 40)]⟩,
      ⟨(some 42), (some (38, false)), .not (.tmp 41)⟩,
      ⟨(some 43), none, .pick (.tmp 38) (.const (.bool true)) (.tmp 42)⟩])
   (.cond (.tmp 43)
    (.seq (.reg [⟨(some 6), none, .mv (.const (.bool false))⟩])
     (.ret))
    (.skip)))
  (.seq (.seq (.reg [⟨(some 44), none, .mv (.tmp 8)⟩,
      ⟨(some 45), none, .bin .neq (.tmp 44) (.const (.int .i64 0))⟩])
   (.cond (.tmp 45)
    (.seq (.reg [⟨(some 6), none, .mv (.const (.bool true))⟩])
     (.ret))
    (.skip)))
  (.seq (.reg [⟨(some 47), none, .mv (.tmp 7)⟩,
     ⟨(some 48), none, .mv (.tmp 0)⟩,
     ⟨(some 49), none, .call (.func 46) [(.tmp 47), (.tmp 48)]⟩,
     ⟨(some 46), none, .mv (.tmp 49)⟩,
     ⟨(some 50), none, .ext (.tmp 46) 0⟩,
     ⟨(some 51), none, .ext (.tmp 46) 1⟩,
     ⟨(some 11), none, .mv (.tmp 50)⟩,
     ⟨(some 12), none, .mv (.tmp 51)⟩])
  (.seq (.reg [⟨(some 53), none, .mv (.tmp 7)⟩,
     ⟨(some 54), none, .mv (.tmp 2)⟩,
     ⟨(some 55), none, .call (.func 46) [(.tmp 53), (.tmp 54)]⟩,
     ⟨(some 52), none, .mv (.tmp 55)⟩,
     ⟨(some 56), none, .ext (.tmp 52) 0⟩,
     ⟨(some 57), none, .ext (.tmp 52) 1⟩,
     ⟨(some 13), none, .mv (.tmp 56)⟩,
     ⟨(some 14), none, .mv (.tmp 57)⟩])
  (.seq (.reg [⟨(some 59), none, .mv (.tmp 1)⟩,
     ⟨(some 60), none, .mv (.tmp 2)⟩,
     ⟨(some 61), none, .call (.func 46) [(.tmp 59), (.tmp 60)]⟩,
     ⟨(some 58), none, .mv (.tmp 61)⟩,
     ⟨(some 62), none, .ext (.tmp 58) 0⟩,
     ⟨(some 63), none, .ext (.tmp 58) 1⟩,
     ⟨(some 15), none, .mv (.tmp 62)⟩,
     ⟨(some 16), none, .mv (.tmp 63)⟩])
  (.seq (.reg [⟨(some 65), none, .mv (.tmp 0)⟩,
     ⟨(some 66), none, .mv (.tmp 15)⟩,
     ⟨(some 67), none, .call (.func 46) [(.tmp 65), (.tmp 66)]⟩,
     ⟨(some 64), none, .mv (.tmp 67)⟩,
     ⟨(some 68), none, .ext (.tmp 64) 0⟩,
     ⟨(some 69), none, .ext (.tmp 64) 1⟩,
     ⟨(some 17), none, .mv (.tmp 68)⟩,
     ⟨(some 18), none, .mv (.tmp 69)⟩])
  (.seq (.reg [⟨(some 70), none, .mv (.tmp 12)⟩,
     ⟨(some 71), none, .bin .eql (.tmp 70) (.const (.int .i64 0))⟩,
     ⟨(some 72), none, .mv (.tmp 71)⟩,
     ⟨(some 73), (some (72, true)), .mv (.tmp 11)⟩,
     ⟨(some 74), (some (72, true)), .mv (.tmp 7)⟩,
     ⟨(some 75), (some (72, true)), .call (.func 48) [(.tmp 73), (.tmp 74)]⟩,
     ⟨(some 76), none, .pick (.tmp 72) (.tmp 75) (.const (.bool false))⟩,
     ⟨(some 77), none, .mv (.tmp 76)⟩,
     ⟨(some 78), (some (77, true)), .mv (.tmp 14)⟩,
     ⟨(some 79), (some (77, true)), .bin .neq (.tmp 78) (.const (.int .i64 0))⟩,
     ⟨(some 80), (some (77, true)), .mv (.tmp 79)⟩,
     ⟨(some 81), (some (80, false)), .mv (.tmp 16)⟩,
     ⟨(some 82), (some (80, false)), .bin .neq (.tmp 81) (.const (.int .i64 0))⟩,
     ⟨(some 83), (some (77, true)), .pick (.tmp 80) (.const (.bool true)) (.tmp 82)⟩,
     ⟨(some 84), (some (77, true)), .mv (.tmp 83)⟩,
     ⟨(some 85), (some (84, false)), .mv (.tmp 18)⟩,
     ⟨(some 86), (some (84, false)), .bin .eql (.tmp 85) (.const (.int .i64 0))⟩,
     ⟨(some 87), (some (84, false)), .mv (.tmp 86)⟩,
     ⟨(some 88), (some (87, true)), .mv (.tmp 13)⟩,
     ⟨(some 89), (some (87, true)), .mv (.tmp 17)⟩,
     ⟨(some 90), (some (87, true)), .call (.func 48) [(.tmp 88), (.tmp 89)]⟩,
     ⟨(some 91), (some (84, false)), .pick (.tmp 87) (.tmp 90) (.const (.bool false))⟩,
     ⟨(some 92), (some (77, true)), .pick (.tmp 84) (.const (.bool true)) (.tmp 91)⟩,
     ⟨(some 93), none, .pick (.tmp 77) (.tmp 92) (.const (.bool false))⟩,
     ⟨(some 6), none, .mv (.tmp 93)⟩])
  (.ret)))))))))))
theorem ck_hearsaylaw_CatalogOrders : chkFun Try.prog 12 3 = some (rc_hearsaylaw_CatalogOrders, [6]) := by kernel_rfl
/-- hearsay/hearsaylaw.CatalogFound -/
def rc_hearsaylaw_CatalogFound : RCode :=
  .seq (.reg [⟨(some 3), none, .box 56 9 (.tmp 1)⟩,
     ⟨(some 4), none, .mv (.const (.bool false))⟩])
  (.seq (.seq (.reg [⟨(some 13), none, .call (.func 34) []⟩,
      ⟨(some 14), none, .not (.tmp 13)⟩])
   (.cond (.tmp 14)
    (.seq (.reg [⟨(some 4), none, .mv (.const (.bool false))⟩])
     (.ret))
    (.skip)))
  (.seq (.reg [⟨(some 15), none, .fldA 6 (.tmp 3)⟩,
     ⟨none, none, .store 1 (.tmp 15) (.const (.bool true))⟩])
  (.seq (.reg [⟨(some 17), none, .mv (.tmp 0)⟩,
     ⟨(some 18), none, .load true 9 (.tmp 3)⟩,
     ⟨(some 19), none, .call (.func 37) [(.tmp 17), (.tmp 18)]⟩,
     ⟨(some 16), none, .mv (.tmp 19)⟩,
     ⟨(some 20), none, .ext (.tmp 16) 0⟩,
     ⟨(some 21), none, .ext (.tmp 16) 1⟩,
     ⟨(some 5), none, .mv (.tmp 20)⟩,
     ⟨(some 6), none, .mv (.tmp 21)⟩])
  (.seq (.seq (.reg [⟨(some 22), none, .mv (.tmp 6)⟩,
      ⟨(some 23), none, .bin .neq (.tmp 22) (.const (.int .i64 0))⟩])
   (.cond (.tmp 23)
    (.seq (.reg [⟨(some 24), none, .mv (.tmp 5)⟩,
        ⟨(some 25), none, .len false (.tmp 24)⟩,
        ⟨(some 26), none, .bin .eql (.tmp 25) (.const (.int .i64 0))⟩,
        ⟨(some 4), none, .mv (.tmp 26)⟩])
     (.ret))
    (.skip)))
  (.seq (.reg [⟨(some 28), none, .mv (.tmp 5)⟩,
     ⟨(some 29), none, .fldA 2 (.tmp 3)⟩,
     ⟨(some 30), none, .load false 1 (.tmp 29)⟩,
     ⟨(some 31), none, .fldA 3 (.tmp 3)⟩,
     ⟨(some 32), none, .load false 1 (.tmp 31)⟩,
     ⟨(some 33), none, .call (.func 31) [(.tmp 28), (.tmp 30), (.tmp 32)]⟩,
     ⟨(some 27), none, .mv (.tmp 33)⟩,
     ⟨(some 34), none, .ext (.tmp 27) 0⟩,
     ⟨(some 35), none, .ext (.tmp 27) 1⟩,
     ⟨(some 7), none, .mv (.tmp 34)⟩,
     ⟨(some 6), none, .mv (.tmp 35)⟩])
  (.seq (.reg [⟨(some 36), none, .mv (.tmp 7)⟩,
     ⟨(some 37), none, .fldA 0 (.tmp 3)⟩,
     ⟨(some 38), none, .load false 1 (.tmp 37)⟩,
     ⟨(some 39), none, .fldA 1 (.tmp 3)⟩,
     ⟨(some 40), none, .load false 1 (.tmp 39)⟩,
     ⟨(some 41), none, .call (.func 49) [(.tmp 36), (.tmp 38), (.tmp 40)]⟩,
     ⟨(some 8), none, .mv (.tmp 41)⟩])
  (.seq (.seq (.dreg [[⟨(some 42), none, .mv (.tmp 6)⟩],
      [⟨(some 43), none, .bin .neq (.tmp 42) (.const (.int .i64 0))⟩],
      [⟨(some 44), none, .mv (.tmp 43)⟩],
      [⟨(some 45), (some (44, false)), .mv (.tmp 8)⟩],
      [⟨(some 46), (some (44, false)), .bin .lss (.tmp 45) (.const (.int .i64 0))⟩],
      [⟨(some 47), none, .pick (.tmp 44) (.const (.bool true)) (.tmp 46)⟩],
      [⟨(some 48), none, .mv (.tmp 47)⟩],
      [⟨(some 49), (some (48, false)), .mv (.tmp 7)⟩,
       ⟨(some 50), (some (48, false)), .mv (.tmp 8)⟩,
       ⟨(some 51), (some (48, false)), .idxA 9 (.tmp 49) (.tmp 50)⟩,
       ⟨(some 52), (some (48, false)), .fldA 4 (.tmp 51)⟩,
       ⟨(some 53), (some (48, false)), .load false 1 (.tmp 52)⟩,
       ⟨(some 54), (some (48, false)), .fldA 4 (.tmp 3)⟩,
       ⟨(some 55), (some (48, false)), .load false 1 (.tmp 54)⟩],
      [⟨(some 56), (some (48, false)), .bin .neq (.tmp 53) (.tmp 55)⟩],
      [⟨(some 57), none, .pick (.tmp 48) (.const (.bool true)) (.tmp 56)⟩],
      [⟨(some 58), none, .mv (.tmp 57)⟩],
      [⟨(some 59), (some (58, false)), .mv (.tmp 7)⟩,
       ⟨(some 60), (some (58, false)), .mv (.tmp 8)⟩,
       ⟨(some 61), (some (58, false)), .idxA 9 (.tmp 59) (.tmp 60)⟩,
       ⟨(some 62), (some (58, false)), .fldA 5 (.tmp 61)⟩,
       ⟨(some 63), (some (58, false)), .load false 1 (.tmp 62)⟩,
       ⟨(some 64), (some (58, false)), .fldA 5 (.tmp 3)⟩,
       ⟨(some 65), (some (58, false)), .load false 1 (.tmp 64)⟩],
      [⟨(some 66), (some (58, false)), .bin .neq (.tmp 63) (.tmp 65)⟩],
      [⟨(some 67), none, .pick (.tmp 58) (.const (.bool true)) (.tmp 66)⟩],
      [⟨(some 68), none, .mv (.tmp 67)⟩],
      [⟨(some 69), (some (68, false)), .mv (.tmp 5)⟩],
      [⟨(some 70), (some (68, false)), .call (.func 36) [(.tmp 69)]⟩],
      [⟨(some 71), (some (68, false)), .bin .neq (.tmp 70) (.const (.int .i64 0))⟩],
      [⟨(some 72), none, .pick (.tmp 68) (.const (.bool true)) (.tmp 71)⟩]])
   (.cond (.tmp 72)
    (.seq (.reg [⟨(some 4), none, .mv (.const (.bool false))⟩])
     (.ret))
    (.skip)))
  (.seq (.seq (.reg [⟨(some 9), none, .mv (.const (.int .i64 0))⟩])
   (.block 0
    (.loop
     (.seq (.seq (.reg [⟨(some 73), none, .mv (.tmp 9)⟩,
         ⟨(some 74), none, .mv (.tmp 0)⟩,
         ⟨(some 75), none, .len false (.tmp 74)⟩,
         ⟨(some 76), none, .bin .lss (.tmp 73) (.tmp 75)⟩])
      (.cond (.tmp 76)
       (.skip)
       (.exit 0)))
     (.seq (.block 1
       (.seq (.seq (.dreg [[⟨(some 79), none, .mv (.tmp 0)⟩,
            ⟨(some 80), none, .mv (.tmp 9)⟩,
            ⟨(some 81), none, .idxA 9 (.tmp 79) (.tmp 80)⟩,
            ⟨(some 82), none, .fldA 0 (.tmp 81)⟩,
            ⟨(some 83), none, .load false 1 (.tmp 82)⟩,
            ⟨(some 84), none, .fldA 0 (.tmp 3)⟩,
            ⟨(some 85), none, .load false 1 (.tmp 84)⟩],
           [⟨(some 86), none, .bin .eql (.tmp 83) (.tmp 85)⟩],
           [⟨(some 87), none, .mv (.tmp 86)⟩],
           [⟨(some 88), (some (87, true)), .mv (.tmp 0)⟩,
            ⟨(some 89), (some (87, true)), .mv (.tmp 9)⟩,
            ⟨(some 90), (some (87, true)), .idxA 9 (.tmp 88) (.tmp 89)⟩,
            ⟨(some 91), (some (87, true)), .fldA 1 (.tmp 90)⟩,
            ⟨(some 92), (some (87, true)), .load false 1 (.tmp 91)⟩,
            ⟨(some 93), (some (87, true)), .fldA 1 (.tmp 3)⟩,
            ⟨(some 94), (some (87, true)), .load false 1 (.tmp 93)⟩],
           [⟨(some 95), (some (87, true)), .bin .eql (.tmp 92) (.tmp 94)⟩],
           [⟨(some 96), none, .pick (.tmp 87) (.tmp 95) (.const (.bool false))⟩]])
        (.cond (.tmp 96)
         (.exit 1)
         (.skip)))
       (.seq (.dreg [[⟨(some 97), none, .mv (.tmp 5)⟩,
           ⟨(some 98), none, .mv (.tmp 0)⟩,
           ⟨(some 99), none, .mv (.tmp 9)⟩,
           ⟨(some 100), none, .idxA 9 (.tmp 98) (.tmp 99)⟩,
           ⟨(some 101), none, .fldA 0 (.tmp 100)⟩,
           ⟨(some 102), none, .load false 1 (.tmp 101)⟩,
           ⟨(some 103), none, .mv (.tmp 0)⟩,
           ⟨(some 104), none, .mv (.tmp 9)⟩,
           ⟨(some 105), none, .idxA 9 (.tmp 103) (.tmp 104)⟩,
           ⟨(some 106), none, .fldA 1 (.tmp 105)⟩,
           ⟨(some 107), none, .load false 1 (.tmp 106)⟩],
          [⟨(some 108), none, .call (.func 49) [(.tmp 97), (.tmp 102), (.tmp 107)]⟩],
          [⟨(some 10), none, .mv (.tmp 108)⟩]])
       (.seq (.dreg [[⟨(some 109), none, .mv (.tmp 10)⟩],
          [⟨(some 110), none, .bin .lss (.tmp 109) (.const (.int .i64 0))⟩],
          [⟨(some 111), none, .mv (.tmp 110)⟩],
          [⟨(some 112), (some (111, false)), .mv (.tmp 5)⟩,
           ⟨(some 113), (some (111, false)), .mv (.tmp 10)⟩,
           ⟨(some 114), (some (111, false)), .idxA 9 (.tmp 112) (.tmp 113)⟩,
           ⟨(some 115), (some (111, false)), .load true 9 (.tmp 114)⟩,
           ⟨(some 116), (some (111, false)), .mv (.tmp 0)⟩,
           ⟨(some 117), (some (111, false)), .mv (.tmp 9)⟩,
           ⟨(some 118), (some (111, false)), .idxA 9 (.tmp 116) (.tmp 117)⟩,
           ⟨(some 119), (some (111, false)), .load true 9 (.tmp 118)⟩],
          [⟨(some 120), (some (111, false)), .eqS true [1, 1, 1, 1, 0, 0, 2, 0, 2] (.tmp 115) (.tmp 119)⟩],
          [⟨(some 121), none, .pick (.tmp 111) (.const (.bool true)) (.tmp 120)⟩]])
       (.cond (.tmp 121)
        (.seq (.reg [⟨(some 4), none, .mv (.const (.bool false))⟩])
         (.ret))
        (.skip))))))
     (.reg [⟨(some 77), none, .mv (.tmp 9)⟩,
       ⟨(some 78), none, .bin .add (.tmp 77) (.const (.int .i64 1))⟩,
       ⟨(some 9), none, .mv (.tmp 78)⟩]))))))
  (.seq (.reg [⟨(some 123), none, .mv (.tmp 5)⟩,
     ⟨(some 124), none, .fldA 0 (.tmp 3)⟩,
     ⟨(some 125), none, .load false 1 (.tmp 124)⟩,
     ⟨(some 126), none, .fldA 1 (.tmp 3)⟩,
     ⟨(some 127), none, .load false 1 (.tmp 126)⟩,
     ⟨(some 128), none, .call (.func 38) [(.tmp 123), (.tmp 125), (.tmp 127)]⟩,
     ⟨(some 122), none, .mv (.tmp 128)⟩,
     ⟨(some 129), none, .ext (.tmp 122) 0⟩,
     ⟨(some 130), none, .ext (.tmp 122) 1⟩,
     ⟨(some 11), none, .mv (.tmp 129)⟩,
     ⟨(some 6), none, .mv (.tmp 130)⟩])
  (.seq (.seq (.reg [⟨(some 131), none, .mv (.tmp 6)⟩,
      ⟨(some 132), none, .bin .neq (.tmp 131) (.const (.int .i64 0))⟩])
   (.cond (.tmp 132)
    (.seq (.reg [⟨(some 133), none, .mv (.tmp 6)⟩,
        ⟨(some 134), none, .bin .eql (.tmp 133) (.const (.int .i64 3))⟩,
        ⟨(some 4), none, .mv (.tmp 134)⟩])
     (.ret))
    (.skip)))
  (.seq (.reg [⟨(some 136), none, .mv (.tmp 5)⟩,
     ⟨(some 137), none, .mv (.tmp 11)⟩,
     ⟨(some 138), none, .call (.func 46) [(.tmp 136), (.tmp 137)]⟩,
     ⟨(some 135), none, .mv (.tmp 138)⟩,
     ⟨(some 139), none, .ext (.tmp 135) 0⟩,
     ⟨(some 140), none, .ext (.tmp 135) 1⟩,
     ⟨(some 12), none, .mv (.tmp 139)⟩,
     ⟨(some 6), none, .mv (.tmp 140)⟩])
  (.seq (.seq (.reg [⟨(some 141), none, .mv (.tmp 6)⟩,
      ⟨(some 142), none, .bin .neq (.tmp 141) (.const (.int .i64 0))⟩,
      ⟨(some 143), none, .mv (.tmp 142)⟩,
      ⟨(some 144), (some (143, false)), .mv (.tmp 12)⟩,
      ⟨(some 145), (some (143, false)), .mv (.tmp 11)⟩,
      ⟨(some 146), (some (143, false)), .call (.func 48) [(.tmp 144), (.tmp 145)]⟩,
      ⟨(some 147), (some (143, false)), .not (.tmp 146)⟩,
      ⟨(some 148), none, .pick (.tmp 143) (.const (.bool true)) (.tmp 147)⟩])
   (.cond (.tmp 148)
    (.seq (.reg [⟨(some 4), none, .mv (.const (.bool false))⟩])
     (.ret))
    (.skip)))
  (.seq (.reg [⟨(some 150), none, .mv (.tmp 12)⟩,
     ⟨(some 151), none, .fldA 2 (.tmp 3)⟩,
     ⟨(some 152), none, .load false 1 (.tmp 151)⟩,
     ⟨(some 153), none, .fldA 3 (.tmp 3)⟩,
     ⟨(some 154), none, .load false 1 (.tmp 153)⟩,
     ⟨(some 155), none, .call (.func 31) [(.tmp 150), (.tmp 152), (.tmp 154)]⟩,
     ⟨(some 149), none, .mv (.tmp 155)⟩,
     ⟨(some 156), none, .ext (.tmp 149) 0⟩,
     ⟨(some 157), none, .ext (.tmp 149) 1⟩,
     ⟨(some 7), none, .mv (.tmp 156)⟩,
     ⟨(some 6), none, .mv (.tmp 157)⟩])
  (.seq (.reg [⟨(some 158), none, .mv (.tmp 6)⟩,
     ⟨(some 159), none, .bin .eql (.tmp 158) (.const (.int .i64 0))⟩,
     ⟨(some 160), none, .mv (.tmp 159)⟩,
     ⟨(some 161), (some (160, true)), .mv (.tmp 7)⟩,
     ⟨(some 162), (some (160, true)), .fldA 0 (.tmp 3)⟩,
     ⟨(some 163), (some (160, true)), .load false 1 (.tmp 162)⟩,
     ⟨(some 164), (some (160, true)), .fldA 1 (.tmp 3)⟩,
     ⟨(some 165), (some (160, true)), .load false 1 (.tmp 164)⟩,
     ⟨(some 166), (some (160, true)), .call (.func 49) [(.tmp 161), (.tmp 163), (.tmp 165)]⟩,
     ⟨(some 167), (some (160, true)), .bin .lss (.tmp 166) (.const (.int .i64 0))⟩,
     ⟨(some 168), none, .pick (.tmp 160) (.tmp 167) (.const (.bool false))⟩,
     ⟨(some 4), none, .mv (.tmp 168)⟩])
  (.ret)))))))))))))))
theorem ck_hearsaylaw_CatalogFound : chkFun Try.prog 13 2 = some (rc_hearsaylaw_CatalogFound, [4]) := by kernel_rfl
/-- hearsay/hearsayref.IsLabel -/
def rc_hearsayref_IsLabel : RCode :=
  .seq (.reg [⟨(some 2), none, .mv (.const (.bool false))⟩])
  (.seq (.seq (.reg [⟨(some 3), none, .mv (.const (.int .i64 0))⟩])
   (.block 0
    (.loop
     (.seq (.seq (.reg [⟨(some 5), none, .mv (.tmp 3)⟩,
         ⟨(some 6), none, .mv (.tmp 0)⟩,
         ⟨(some 7), none, .len true (.tmp 6)⟩,
         ⟨(some 8), none, .bin .lss (.tmp 5) (.tmp 7)⟩])
      (.cond (.tmp 8)
       (.skip)
       (.exit 0)))
     (.seq (.block 1
       (.seq (.reg [⟨(some 11), none, .mv (.tmp 0)⟩,
          ⟨(some 12), none, .mv (.tmp 3)⟩,
          ⟨(some 13), none, .idxS (.tmp 11) (.tmp 12)⟩,
          ⟨(some 4), none, .mv (.tmp 13)⟩])
       (.seq (.reg [⟨(some 14), none, .mv (.tmp 4)⟩,
          ⟨(some 15), none, .bin .geq (.tmp 14) (.const (.int .u8 97))⟩,
          ⟨(some 16), none, .mv (.tmp 15)⟩,
          ⟨(some 17), (some (16, true)), .mv (.tmp 4)⟩,
          ⟨(some 18), (some (16, true)), .bin .leq (.tmp 17) (.const (.int .u8 122))⟩,
          ⟨(some 19), none, .pick (.tmp 16) (.tmp 18) (.const (.bool false))⟩,
          ⟨(some 20), none, .mv (.tmp 19)⟩,
          ⟨(some 21), (some (20, false)), .mv (.tmp 4)⟩,
          ⟨(some 22), (some (20, false)), .bin .geq (.tmp 21) (.const (.int .u8 48))⟩,
          ⟨(some 23), (some (20, false)), .mv (.tmp 22)⟩,
          ⟨(some 24), (some (23, true)), .mv (.tmp 4)⟩,
          ⟨(some 25), (some (23, true)), .bin .leq (.tmp 24) (.const (.int .u8 57))⟩,
          ⟨(some 26), (some (20, false)), .pick (.tmp 23) (.tmp 25) (.const (.bool false))⟩,
          ⟨(some 27), none, .pick (.tmp 20) (.const (.bool true)) (.tmp 26)⟩,
          ⟨(some 28), none, .mv (.tmp 27)⟩,
          ⟨(some 29), (some (28, false)), .mv (.tmp 4)⟩,
          ⟨(some 30), (some (28, false)), .bin .eql (.tmp 29) (.const (.int .u8 45))⟩,
          ⟨(some 31), none, .pick (.tmp 28) (.const (.bool true)) (.tmp 30)⟩,
          ⟨(some 32), none, .mv (.tmp 31)⟩,
          ⟨(some 33), (some (32, false)), .mv (.tmp 4)⟩,
          ⟨(some 34), (some (32, false)), .bin .eql (.tmp 33) (.const (.int .u8 95))⟩,
          ⟨(some 35), none, .pick (.tmp 32) (.const (.bool true)) (.tmp 34)⟩,
          ⟨(some 36), none, .not (.tmp 35)⟩])
       (.cond (.tmp 36)
        (.seq (.reg [⟨(some 2), none, .mv (.const (.bool false))⟩])
         (.ret))
        (.skip)))))
     (.reg [⟨(some 9), none, .mv (.tmp 3)⟩,
       ⟨(some 10), none, .bin .add (.tmp 9) (.const (.int .i64 1))⟩,
       ⟨(some 3), none, .mv (.tmp 10)⟩]))))))
  (.seq (.reg [⟨(some 37), none, .mv (.tmp 0)⟩,
     ⟨(some 38), none, .len true (.tmp 37)⟩,
     ⟨(some 39), none, .bin .geq (.tmp 38) (.const (.int .i64 1))⟩,
     ⟨(some 40), none, .mv (.tmp 39)⟩,
     ⟨(some 41), (some (40, true)), .mv (.tmp 0)⟩,
     ⟨(some 42), (some (40, true)), .len true (.tmp 41)⟩,
     ⟨(some 43), (some (40, true)), .bin .leq (.tmp 42) (.const (.int .i64 30))⟩,
     ⟨(some 44), none, .pick (.tmp 40) (.tmp 43) (.const (.bool false))⟩,
     ⟨(some 2), none, .mv (.tmp 44)⟩])
  (.ret)))
theorem ck_hearsayref_IsLabel : chkFun Try.prog 28 1 = some (rc_hearsayref_IsLabel, [2]) := by kernel_rfl
/-- hearsay/catalog.Find -/
def rc_catalog_Find : RCode :=
  .seq (.reg [⟨(some 6), none, .mv (.const (.slice none 0 0))⟩,
     ⟨(some 7), none, .mv (.const (.int .i64 0))⟩])
  (.seq (.seq (.reg [⟨(some 12), none, .mv (.tmp 0)⟩,
      ⟨(some 13), none, .mks 47 1 1 [(.slice none 0 0)] [(0, (.tmp 12))]⟩,
      ⟨(some 14), none, .call (.func 84) [(.tmp 13)]⟩,
      ⟨(some 8), none, .mv (.tmp 14)⟩])
   (.seq (.reg [⟨(some 15), none, .mv (.tmp 8)⟩,
      ⟨(some 16), none, .bin .neq (.tmp 15) (.const (.int .i64 0))⟩])
   (.cond (.tmp 16)
    (.seq (.reg [⟨(some 17), none, .mv (.tmp 8)⟩,
        ⟨(some 6), none, .mv (.const (.slice none 0 0))⟩,
        ⟨(some 7), none, .mv (.tmp 17)⟩])
     (.ret))
    (.skip))))
  (.seq (.seq (.reg [⟨(some 18), none, .mv (.tmp 1)⟩,
      ⟨(some 19), none, .call (.func 79) [(.tmp 18)]⟩,
      ⟨(some 20), none, .not (.tmp 19)⟩,
      ⟨(some 21), none, .mv (.tmp 20)⟩,
      ⟨(some 22), (some (21, false)), .mv (.tmp 2)⟩,
      ⟨(some 23), (some (21, false)), .call (.func 85) [(.tmp 22)]⟩,
      ⟨(some 24), (some (21, false)), .not (.tmp 23)⟩,
      ⟨(some 25), none, .pick (.tmp 21) (.const (.bool true)) (.tmp 24)⟩])
   (.cond (.tmp 25)
    (.seq (.reg [⟨(some 6), none, .mv (.const (.slice none 0 0))⟩,
        ⟨(some 7), none, .mv (.const (.int .i64 1))⟩])
     (.ret))
    (.skip)))
  (.seq (.reg [⟨(some 9), none, .mv (.const (.slice none 0 0))⟩])
  (.seq (.seq (.reg [⟨(some 26), none, .mv (.tmp 0)⟩,
      ⟨(some 27), none, .len false (.tmp 26)⟩,
      ⟨(some 28), none, .mv (.const (.int .i64 0))⟩])
   (.block 0
    (.loop
     (.seq (.reg [⟨(some 29), none, .bin .lss (.tmp 28) (.tmp 27)⟩])
     (.seq (.cond (.tmp 29)
       (.skip)
       (.exit 0))
     (.seq (.block 1
       (.seq (.reg [⟨(some 30), none, .idxA 9 (.tmp 26) (.tmp 28)⟩,
          ⟨(some 31), none, .load true 9 (.tmp 30)⟩,
          ⟨(some 11), none, .zbox 56 [(.string ⟨#[]⟩), (.string ⟨#[]⟩), (.string ⟨#[]⟩), (.string ⟨#[]⟩), (.int .i64 0), (.int .i64 0), (.bool false), (.int .i64 0), (.bool false)]⟩,
          ⟨none, none, .store 9 (.tmp 11) (.tmp 31)⟩])
       (.seq (.reg [⟨(some 32), none, .fldA 2 (.tmp 11)⟩,
          ⟨(some 33), none, .load false 1 (.tmp 32)⟩,
          ⟨(some 34), none, .mv (.tmp 1)⟩,
          ⟨(some 35), none, .bin .eql (.tmp 33) (.tmp 34)⟩,
          ⟨(some 36), none, .mv (.tmp 35)⟩,
          ⟨(some 37), (some (36, true)), .mv (.tmp 2)⟩,
          ⟨(some 38), (some (36, true)), .bin .eql (.tmp 37) (.const (.string ⟨#[]⟩))⟩,
          ⟨(some 39), (some (36, true)), .mv (.tmp 38)⟩,
          ⟨(some 40), (some (39, false)), .fldA 3 (.tmp 11)⟩,
          ⟨(some 41), (some (39, false)), .load false 1 (.tmp 40)⟩,
          ⟨(some 42), (some (39, false)), .mv (.tmp 2)⟩,
          ⟨(some 43), (some (39, false)), .bin .eql (.tmp 41) (.tmp 42)⟩,
          ⟨(some 44), (some (36, true)), .pick (.tmp 39) (.const (.bool true)) (.tmp 43)⟩,
          ⟨(some 45), none, .pick (.tmp 36) (.tmp 44) (.const (.bool false))⟩,
          ⟨(some 46), none, .mv (.tmp 45)⟩,
          ⟨(some 47), (some (46, true)), .fldA 6 (.tmp 11)⟩,
          ⟨(some 48), (some (46, true)), .load false 1 (.tmp 47)⟩,
          ⟨(some 49), none, .pick (.tmp 46) (.tmp 48) (.const (.bool false))⟩,
          ⟨(some 50), none, .mv (.tmp 49)⟩,
          ⟨(some 51), (some (50, true)), .fldA 8 (.tmp 11)⟩,
          ⟨(some 52), (some (50, true)), .load false 1 (.tmp 51)⟩,
          ⟨(some 53), (some (50, true)), .not (.tmp 52)⟩,
          ⟨(some 54), none, .pick (.tmp 50) (.tmp 53) (.const (.bool false))⟩])
       (.cond (.tmp 54)
        (.reg [⟨(some 55), none, .mv (.tmp 9)⟩,
           ⟨(some 56), none, .load true 9 (.tmp 11)⟩,
           ⟨(some 57), none, .mks 56 9 1 [(.string ⟨#[]⟩), (.string ⟨#[]⟩), (.string ⟨#[]⟩), (.string ⟨#[]⟩), (.int .i64 0), (.int .i64 0), (.bool false), (.int .i64 0), (.bool false)] [(0, (.tmp 56))]⟩,
           ⟨(some 58), none, .app 56 9 104 (.agg #[(.string ⟨#[]⟩), (.string ⟨#[]⟩), (.string ⟨#[]⟩), (.string ⟨#[]⟩), (.int .i64 0), (.int .i64 0), (.bool false), (.int .i64 0), (.bool false)]) (.tmp 55) (.tmp 57)⟩,
           ⟨(some 9), none, .mv (.tmp 58)⟩])
        (.skip)))))
     (.reg [⟨(some 59), none, .bin .add (.tmp 28) (.const (.int .i64 1))⟩,
       ⟨(some 28), none, .mv (.tmp 59)⟩])))))))
  (.seq (.reg [⟨(some 60), none, .mv (.tmp 9)⟩,
     ⟨(some 6), none, .mv (.tmp 60)⟩,
     ⟨(some 7), none, .mv (.const (.int .i64 0))⟩])
  (.ret))))))
theorem ck_catalog_Find : chkFun Try.prog 31 3 = some (rc_catalog_Find, [6, 7]) := by kernel_rfl
/-- hearsay/hearsayref.CheckCatalog -/
def rc_hearsayref_CheckCatalog : RCode :=
  .seq (.reg [⟨(some 2), none, .mv (.const (.int .i64 0))⟩])
  (.seq (.seq (.reg [⟨(some 6), none, .mv (.tmp 0)⟩,
      ⟨(some 7), none, .len false (.tmp 6)⟩,
      ⟨(some 8), none, .bin .gtr (.tmp 7) (.const (.int .i64 40))⟩])
   (.cond (.tmp 8)
    (.seq (.reg [⟨(some 2), none, .mv (.const (.int .i64 2))⟩])
     (.ret))
    (.skip)))
  (.seq (.seq (.reg [⟨(some 3), none, .mv (.const (.int .i64 0))⟩])
   (.block 0
    (.loop
     (.seq (.seq (.reg [⟨(some 9), none, .mv (.tmp 3)⟩,
         ⟨(some 10), none, .mv (.tmp 0)⟩,
         ⟨(some 11), none, .len false (.tmp 10)⟩,
         ⟨(some 12), none, .bin .lss (.tmp 9) (.tmp 11)⟩])
      (.cond (.tmp 12)
       (.skip)
       (.exit 0)))
     (.seq (.block 1
       (.seq (.reg [⟨(some 15), none, .mv (.tmp 0)⟩,
          ⟨(some 16), none, .mv (.tmp 3)⟩,
          ⟨(some 17), none, .idxA 9 (.tmp 15) (.tmp 16)⟩,
          ⟨(some 18), none, .load true 9 (.tmp 17)⟩,
          ⟨(some 19), none, .call (.func 42) [(.tmp 18)]⟩,
          ⟨(some 4), none, .mv (.tmp 19)⟩])
       (.seq (.reg [⟨(some 20), none, .mv (.tmp 4)⟩,
          ⟨(some 21), none, .bin .neq (.tmp 20) (.const (.int .i64 0))⟩])
       (.cond (.tmp 21)
        (.seq (.reg [⟨(some 22), none, .mv (.tmp 4)⟩,
            ⟨(some 2), none, .mv (.tmp 22)⟩])
         (.ret))
        (.skip)))))
     (.reg [⟨(some 13), none, .mv (.tmp 3)⟩,
       ⟨(some 14), none, .bin .add (.tmp 13) (.const (.int .i64 1))⟩,
       ⟨(some 3), none, .mv (.tmp 14)⟩]))))))
  (.seq (.seq (.reg [⟨(some 5), none, .mv (.const (.int .i64 1))⟩])
   (.block 2
    (.loop
     (.seq (.seq (.reg [⟨(some 23), none, .mv (.tmp 5)⟩,
         ⟨(some 24), none, .mv (.tmp 0)⟩,
         ⟨(some 25), none, .len false (.tmp 24)⟩,
         ⟨(some 26), none, .bin .lss (.tmp 23) (.tmp 25)⟩])
      (.cond (.tmp 26)
       (.skip)
       (.exit 2)))
     (.seq (.block 3
       (.seq (.dreg [[⟨(some 29), none, .mv (.tmp 0)⟩,
           ⟨(some 30), none, .mv (.tmp 5)⟩,
           ⟨(some 31), none, .bin .sub (.tmp 30) (.const (.int .i64 1))⟩,
           ⟨(some 32), none, .idxA 9 (.tmp 29) (.tmp 31)⟩,
           ⟨(some 33), none, .load true 9 (.tmp 32)⟩,
           ⟨(some 34), none, .mv (.tmp 0)⟩,
           ⟨(some 35), none, .mv (.tmp 5)⟩,
           ⟨(some 36), none, .idxA 9 (.tmp 34) (.tmp 35)⟩,
           ⟨(some 37), none, .load true 9 (.tmp 36)⟩],
          [⟨(some 38), none, .call (.func 86) [(.tmp 33), (.tmp 37)]⟩],
          [⟨(some 39), none, .not (.tmp 38)⟩]])
       (.cond (.tmp 39)
        (.seq (.reg [⟨(some 2), none, .mv (.const (.int .i64 4))⟩])
         (.ret))
        (.skip))))
     (.reg [⟨(some 27), none, .mv (.tmp 5)⟩,
       ⟨(some 28), none, .bin .add (.tmp 27) (.const (.int .i64 1))⟩,
       ⟨(some 5), none, .mv (.tmp 28)⟩]))))))
  (.seq (.reg [⟨(some 2), none, .mv (.const (.int .i64 0))⟩])
  (.ret)))))
theorem ck_hearsayref_CheckCatalog : chkFun Try.prog 32 1 = some (rc_hearsayref_CheckCatalog, [2]) := by kernel_rfl
/-- hearsay/hearsayref.FindOf -/
def rc_hearsayref_FindOf : RCode :=
  .seq (.reg [⟨(some 6), none, .mv (.const (.slice none 0 0))⟩])
  (.seq (.reg [⟨(some 7), none, .mv (.const (.slice none 0 0))⟩])
  (.seq (.seq (.reg [⟨(some 8), none, .mv (.const (.int .i64 0))⟩])
   (.block 0
    (.loop
     (.seq (.seq (.reg [⟨(some 9), none, .mv (.tmp 8)⟩,
         ⟨(some 10), none, .mv (.tmp 0)⟩,
         ⟨(some 11), none, .len false (.tmp 10)⟩,
         ⟨(some 12), none, .bin .lss (.tmp 9) (.tmp 11)⟩])
      (.cond (.tmp 12)
       (.skip)
       (.exit 0)))
     (.seq (.block 1
       (.seq (.reg [⟨(some 15), none, .mv (.tmp 0)⟩,
          ⟨(some 16), none, .mv (.tmp 8)⟩,
          ⟨(some 17), none, .idxA 9 (.tmp 15) (.tmp 16)⟩,
          ⟨(some 18), none, .fldA 2 (.tmp 17)⟩,
          ⟨(some 19), none, .load false 1 (.tmp 18)⟩,
          ⟨(some 20), none, .mv (.tmp 1)⟩,
          ⟨(some 21), none, .bin .eql (.tmp 19) (.tmp 20)⟩,
          ⟨(some 22), none, .mv (.tmp 21)⟩,
          ⟨(some 23), (some (22, true)), .mv (.tmp 2)⟩,
          ⟨(some 24), (some (22, true)), .bin .eql (.tmp 23) (.const (.string ⟨#[]⟩))⟩,
          ⟨(some 25), (some (22, true)), .mv (.tmp 24)⟩,
          ⟨(some 26), (some (25, false)), .mv (.tmp 2)⟩,
          ⟨(some 27), (some (25, false)), .mv (.tmp 0)⟩,
          ⟨(some 28), (some (25, false)), .mv (.tmp 8)⟩,
          ⟨(some 29), (some (25, false)), .idxA 9 (.tmp 27) (.tmp 28)⟩,
          ⟨(some 30), (some (25, false)), .fldA 3 (.tmp 29)⟩,
          ⟨(some 31), (some (25, false)), .load false 1 (.tmp 30)⟩,
          ⟨(some 32), (some (25, false)), .bin .eql (.tmp 26) (.tmp 31)⟩,
          ⟨(some 33), (some (22, true)), .pick (.tmp 25) (.const (.bool true)) (.tmp 32)⟩,
          ⟨(some 34), none, .pick (.tmp 22) (.tmp 33) (.const (.bool false))⟩,
          ⟨(some 35), none, .mv (.tmp 34)⟩,
          ⟨(some 36), (some (35, true)), .mv (.tmp 0)⟩,
          ⟨(some 37), (some (35, true)), .mv (.tmp 8)⟩,
          ⟨(some 38), (some (35, true)), .idxA 9 (.tmp 36) (.tmp 37)⟩,
          ⟨(some 39), (some (35, true)), .fldA 6 (.tmp 38)⟩,
          ⟨(some 40), (some (35, true)), .load false 1 (.tmp 39)⟩,
          ⟨(some 41), none, .pick (.tmp 35) (.tmp 40) (.const (.bool false))⟩,
          ⟨(some 42), none, .mv (.tmp 41)⟩,
          ⟨(some 43), (some (42, true)), .mv (.tmp 0)⟩,
          ⟨(some 44), (some (42, true)), .mv (.tmp 8)⟩,
          ⟨(some 45), (some (42, true)), .idxA 9 (.tmp 43) (.tmp 44)⟩,
          ⟨(some 46), (some (42, true)), .fldA 8 (.tmp 45)⟩,
          ⟨(some 47), (some (42, true)), .load false 1 (.tmp 46)⟩,
          ⟨(some 48), (some (42, true)), .not (.tmp 47)⟩,
          ⟨(some 49), none, .pick (.tmp 42) (.tmp 48) (.const (.bool false))⟩])
       (.cond (.tmp 49)
        (.reg [⟨(some 50), none, .mv (.tmp 7)⟩,
           ⟨(some 51), none, .mv (.tmp 0)⟩,
           ⟨(some 52), none, .mv (.tmp 8)⟩,
           ⟨(some 53), none, .idxA 9 (.tmp 51) (.tmp 52)⟩,
           ⟨(some 54), none, .load true 9 (.tmp 53)⟩,
           ⟨(some 55), none, .mks 56 9 1 [(.string ⟨#[]⟩), (.string ⟨#[]⟩), (.string ⟨#[]⟩), (.string ⟨#[]⟩), (.int .i64 0), (.int .i64 0), (.bool false), (.int .i64 0), (.bool false)] [(0, (.tmp 54))]⟩,
           ⟨(some 56), none, .app 56 9 104 (.agg #[(.string ⟨#[]⟩), (.string ⟨#[]⟩), (.string ⟨#[]⟩), (.string ⟨#[]⟩), (.int .i64 0), (.int .i64 0), (.bool false), (.int .i64 0), (.bool false)]) (.tmp 50) (.tmp 55)⟩,
           ⟨(some 7), none, .mv (.tmp 56)⟩])
        (.skip))))
     (.reg [⟨(some 13), none, .mv (.tmp 8)⟩,
       ⟨(some 14), none, .bin .add (.tmp 13) (.const (.int .i64 1))⟩,
       ⟨(some 8), none, .mv (.tmp 14)⟩]))))))
  (.seq (.reg [⟨(some 57), none, .mv (.tmp 7)⟩,
     ⟨(some 6), none, .mv (.tmp 57)⟩])
  (.ret))))
theorem ck_hearsayref_FindOf : chkFun Try.prog 33 3 = some (rc_hearsayref_FindOf, [6]) := by kernel_rfl
/-- hearsay/hearsaylaw.catalogBegun -/
def rc_hearsaylaw_catalogBegun : RCode :=
  .seq (.reg [⟨(some 0), none, .mv (.const (.bool false))⟩])
  (.seq (.reg [⟨(some 6), none, .build [(.string ⟨#[]⟩), (.string ⟨#[]⟩), (.string ⟨#[]⟩), (.string ⟨#[]⟩), (.int .i64 0), (.int .i64 0), (.bool false), (.int .i64 0), (.bool false)] [(0, 1, (.const (.string ⟨#[110]⟩))), (1, 1, (.const (.string ⟨#[105]⟩))), (2, 1, (.const (.string ⟨#[115]⟩))), (6, 1, (.const (.bool true)))]⟩,
     ⟨(some 7), none, .call (.func 37) [(.const (.slice none 0 0)), (.tmp 6)]⟩,
     ⟨(some 5), none, .mv (.tmp 7)⟩,
     ⟨(some 8), none, .ext (.tmp 5) 0⟩,
     ⟨(some 9), none, .ext (.tmp 5) 1⟩,
     ⟨(some 1), none, .mv (.tmp 8)⟩,
     ⟨(some 2), none, .mv (.tmp 9)⟩])
  (.seq (.reg [⟨(some 11), none, .mv (.tmp 1)⟩,
     ⟨(some 12), none, .call (.func 31) [(.tmp 11), (.const (.string ⟨#[115]⟩)), (.const (.string ⟨#[]⟩))]⟩,
     ⟨(some 10), none, .mv (.tmp 12)⟩,
     ⟨(some 13), none, .ext (.tmp 10) 0⟩,
     ⟨(some 14), none, .ext (.tmp 10) 1⟩,
     ⟨(some 3), none, .mv (.tmp 13)⟩,
     ⟨(some 4), none, .mv (.tmp 14)⟩])
  (.seq (.reg [⟨(some 15), none, .mv (.tmp 2)⟩,
     ⟨(some 16), none, .bin .eql (.tmp 15) (.const (.int .i64 0))⟩,
     ⟨(some 17), none, .mv (.tmp 16)⟩,
     ⟨(some 18), (some (17, true)), .mv (.tmp 4)⟩,
     ⟨(some 19), (some (17, true)), .bin .eql (.tmp 18) (.const (.int .i64 0))⟩,
     ⟨(some 20), none, .pick (.tmp 17) (.tmp 19) (.const (.bool false))⟩,
     ⟨(some 21), none, .mv (.tmp 20)⟩,
     ⟨(some 22), (some (21, true)), .mv (.tmp 3)⟩,
     ⟨(some 23), (some (21, true)), .len false (.tmp 22)⟩,
     ⟨(some 24), (some (21, true)), .bin .eql (.tmp 23) (.const (.int .i64 1))⟩,
     ⟨(some 25), none, .pick (.tmp 21) (.tmp 24) (.const (.bool false))⟩,
     ⟨(some 26), none, .mv (.tmp 25)⟩,
     ⟨(some 27), (some (26, true)), .mv (.tmp 3)⟩,
     ⟨(some 28), (some (26, true)), .idxA 9 (.tmp 27) (.const (.int .i64 0))⟩,
     ⟨(some 29), (some (26, true)), .fldA 7 (.tmp 28)⟩,
     ⟨(some 30), (some (26, true)), .load false 1 (.tmp 29)⟩,
     ⟨(some 31), (some (26, true)), .bin .eql (.tmp 30) (.const (.int .i64 1))⟩,
     ⟨(some 32), none, .pick (.tmp 26) (.tmp 31) (.const (.bool false))⟩,
     ⟨(some 0), none, .mv (.tmp 32)⟩])
  (.ret))))
theorem ck_hearsaylaw_catalogBegun : chkFun Try.prog 34 0 = some (rc_hearsaylaw_catalogBegun, [0]) := by kernel_rfl
/-- hearsay/hearsaylaw.servicesAre -/
def rc_hearsaylaw_servicesAre : RCode :=
  .seq (.reg [⟨(some 8), none, .mv (.const (.bool false))⟩])
  (.seq (.seq (.reg [⟨(some 9), none, .mv (.tmp 2)⟩,
      ⟨(some 10), none, .bin .neq (.tmp 9) (.const (.int .i64 0))⟩])
   (.cond (.tmp 10)
    (.reg [⟨(some 3), none, .mv (.const (.slice none 0 0))⟩])
    (.skip)))
  (.seq (.reg [⟨(some 11), none, .mv (.tmp 1)⟩,
     ⟨(some 12), none, .mv (.tmp 2)⟩,
     ⟨(some 13), none, .bin .eql (.tmp 11) (.tmp 12)⟩,
     ⟨(some 14), none, .mv (.tmp 13)⟩,
     ⟨(some 15), (some (14, true)), .mv (.tmp 0)⟩,
     ⟨(some 16), (some (14, true)), .mv (.tmp 3)⟩,
     ⟨(some 17), (some (14, true)), .call (.func 48) [(.tmp 15), (.tmp 16)]⟩,
     ⟨(some 18), none, .pick (.tmp 14) (.tmp 17) (.const (.bool false))⟩,
     ⟨(some 8), none, .mv (.tmp 18)⟩])
  (.ret)))
theorem ck_hearsaylaw_servicesAre : chkFun Try.prog 35 4 = some (rc_hearsaylaw_servicesAre, [8]) := by kernel_rfl
/-- hearsay/catalog.Check -/
def rc_catalog_Check : RCode :=
  .seq (.reg [⟨(some 2), none, .mv (.const (.int .i64 0))⟩])
  (.seq (.reg [⟨(some 3), none, .mv (.tmp 0)⟩,
     ⟨(some 4), none, .mks 47 1 1 [(.slice none 0 0)] [(0, (.tmp 3))]⟩,
     ⟨(some 5), none, .call (.func 84) [(.tmp 4)]⟩,
     ⟨(some 2), none, .mv (.tmp 5)⟩])
  (.ret))
theorem ck_catalog_Check : chkFun Try.prog 36 1 = some (rc_catalog_Check, [2]) := by kernel_rfl
/-- hearsay/catalog.Register -/
def rc_catalog_Register : RCode :=
  .seq (.reg [⟨(some 3), none, .box 56 9 (.tmp 1)⟩,
     ⟨(some 4), none, .mv (.const (.slice none 0 0))⟩,
     ⟨(some 5), none, .mv (.const (.int .i64 0))⟩])
  (.seq (.reg [⟨(some 7), none, .fldA 7 (.tmp 3)⟩,
     ⟨none, none, .store 1 (.tmp 7) (.const (.int .i64 1))⟩,
     ⟨(some 8), none, .fldA 8 (.tmp 3)⟩,
     ⟨none, none, .store 1 (.tmp 8) (.const (.bool false))⟩])
  (.seq (.reg [⟨(some 9), none, .mv (.tmp 0)⟩,
     ⟨(some 10), none, .mks 47 1 1 [(.slice none 0 0)] [(0, (.tmp 9))]⟩,
     ⟨(some 11), none, .call (.func 84) [(.tmp 10)]⟩,
     ⟨(some 6), none, .mv (.tmp 11)⟩])
  (.seq (.seq (.reg [⟨(some 12), none, .mv (.tmp 6)⟩,
      ⟨(some 13), none, .bin .eql (.tmp 12) (.const (.int .i64 0))⟩])
   (.cond (.tmp 13)
    (.reg [⟨(some 14), none, .load true 9 (.tmp 3)⟩,
       ⟨(some 15), none, .call (.func 87) [(.tmp 14)]⟩,
       ⟨(some 6), none, .mv (.tmp 15)⟩])
    (.skip)))
  (.seq (.seq (.reg [⟨(some 16), none, .mv (.tmp 6)⟩,
      ⟨(some 17), none, .bin .neq (.tmp 16) (.const (.int .i64 0))⟩])
   (.cond (.tmp 17)
    (.seq (.reg [⟨(some 18), none, .mv (.tmp 6)⟩,
        ⟨(some 4), none, .mv (.const (.slice none 0 0))⟩,
        ⟨(some 5), none, .mv (.tmp 18)⟩])
     (.ret))
    (.skip)))
  (.seq (.reg [⟨(some 19), none, .mv (.tmp 0)⟩,
     ⟨(some 20), none, .load true 9 (.tmp 3)⟩,
     ⟨(some 21), none, .call (.func 88) [(.tmp 19), (.tmp 20)]⟩,
     ⟨(some 22), none, .ext (.tmp 21) 0⟩,
     ⟨(some 23), none, .ext (.tmp 21) 1⟩,
     ⟨(some 4), none, .mv (.tmp 22)⟩,
     ⟨(some 5), none, .mv (.tmp 23)⟩])
  (.ret))))))
theorem ck_catalog_Register : chkFun Try.prog 37 2 = some (rc_catalog_Register, [4, 5]) := by kernel_rfl
/-- hearsay/catalog.Drop -/
def rc_catalog_Drop : RCode :=
  .seq (.reg [⟨(some 6), none, .mv (.const (.slice none 0 0))⟩,
     ⟨(some 7), none, .mv (.const (.int .i64 0))⟩])
  (.seq (.seq (.reg [⟨(some 12), none, .mv (.tmp 0)⟩,
      ⟨(some 13), none, .mks 47 1 1 [(.slice none 0 0)] [(0, (.tmp 12))]⟩,
      ⟨(some 14), none, .call (.func 84) [(.tmp 13)]⟩,
      ⟨(some 8), none, .mv (.tmp 14)⟩])
   (.seq (.reg [⟨(some 15), none, .mv (.tmp 8)⟩,
      ⟨(some 16), none, .bin .neq (.tmp 15) (.const (.int .i64 0))⟩])
   (.cond (.tmp 16)
    (.seq (.reg [⟨(some 17), none, .mv (.tmp 8)⟩,
        ⟨(some 6), none, .mv (.const (.slice none 0 0))⟩,
        ⟨(some 7), none, .mv (.tmp 17)⟩])
     (.ret))
    (.skip))))
  (.seq (.seq (.reg [⟨(some 18), none, .mv (.tmp 1)⟩,
      ⟨(some 19), none, .call (.func 79) [(.tmp 18)]⟩,
      ⟨(some 20), none, .not (.tmp 19)⟩,
      ⟨(some 21), none, .mv (.tmp 20)⟩,
      ⟨(some 22), (some (21, false)), .mv (.tmp 2)⟩,
      ⟨(some 23), (some (21, false)), .call (.func 79) [(.tmp 22)]⟩,
      ⟨(some 24), (some (21, false)), .not (.tmp 23)⟩,
      ⟨(some 25), none, .pick (.tmp 21) (.const (.bool true)) (.tmp 24)⟩])
   (.cond (.tmp 25)
    (.seq (.reg [⟨(some 6), none, .mv (.const (.slice none 0 0))⟩,
        ⟨(some 7), none, .mv (.const (.int .i64 1))⟩])
     (.ret))
    (.skip)))
  (.seq (.reg [⟨(some 27), none, .mv (.tmp 0)⟩,
     ⟨(some 28), none, .mv (.tmp 1)⟩,
     ⟨(some 29), none, .mv (.tmp 2)⟩,
     ⟨(some 30), none, .call (.func 89) [(.tmp 27), (.tmp 28), (.tmp 29)]⟩,
     ⟨(some 26), none, .mv (.tmp 30)⟩,
     ⟨(some 31), none, .ext (.tmp 26) 0⟩,
     ⟨(some 32), none, .ext (.tmp 26) 1⟩,
     ⟨(some 9), none, .mv (.tmp 31)⟩,
     ⟨(some 10), none, .mv (.tmp 32)⟩])
  (.seq (.seq (.reg [⟨(some 33), none, .mv (.tmp 10)⟩,
      ⟨(some 34), none, .not (.tmp 33)⟩,
      ⟨(some 35), none, .mv (.tmp 34)⟩,
      ⟨(some 36), (some (35, false)), .mv (.tmp 0)⟩,
      ⟨(some 37), (some (35, false)), .mv (.tmp 9)⟩,
      ⟨(some 38), (some (35, false)), .idxA 9 (.tmp 36) (.tmp 37)⟩,
      ⟨(some 39), (some (35, false)), .fldA 8 (.tmp 38)⟩,
      ⟨(some 40), (some (35, false)), .load false 1 (.tmp 39)⟩,
      ⟨(some 41), none, .pick (.tmp 35) (.const (.bool true)) (.tmp 40)⟩])
   (.cond (.tmp 41)
    (.seq (.reg [⟨(some 6), none, .mv (.const (.slice none 0 0))⟩,
        ⟨(some 7), none, .mv (.const (.int .i64 5))⟩])
     (.ret))
    (.skip)))
  (.seq (.reg [⟨(some 42), none, .mv (.tmp 0)⟩,
     ⟨(some 43), none, .mv (.tmp 9)⟩,
     ⟨(some 44), none, .idxA 9 (.tmp 42) (.tmp 43)⟩,
     ⟨(some 45), none, .load true 9 (.tmp 44)⟩,
     ⟨(some 11), none, .zbox 56 [(.string ⟨#[]⟩), (.string ⟨#[]⟩), (.string ⟨#[]⟩), (.string ⟨#[]⟩), (.int .i64 0), (.int .i64 0), (.bool false), (.int .i64 0), (.bool false)]⟩,
     ⟨none, none, .store 9 (.tmp 11) (.tmp 45)⟩])
  (.seq (.reg [⟨(some 46), none, .fldA 8 (.tmp 11)⟩,
     ⟨none, none, .store 1 (.tmp 46) (.const (.bool true))⟩])
  (.seq (.reg [⟨(some 47), none, .mv (.tmp 0)⟩,
     ⟨(some 48), none, .load true 9 (.tmp 11)⟩,
     ⟨(some 49), none, .call (.func 88) [(.tmp 47), (.tmp 48)]⟩,
     ⟨(some 50), none, .ext (.tmp 49) 0⟩,
     ⟨(some 51), none, .ext (.tmp 49) 1⟩,
     ⟨(some 6), none, .mv (.tmp 50)⟩,
     ⟨(some 7), none, .mv (.tmp 51)⟩])
  (.ret))))))))
theorem ck_catalog_Drop : chkFun Try.prog 38 3 = some (rc_catalog_Drop, [6, 7]) := by kernel_rfl
/-- hearsay/hearsayref.RegisterOf -/
def rc_hearsayref_RegisterOf : RCode :=
  .seq (.reg [⟨(some 3), none, .box 56 9 (.tmp 1)⟩,
     ⟨(some 4), none, .mv (.const (.slice none 0 0))⟩,
     ⟨(some 5), none, .mv (.const (.int .i64 0))⟩])
  (.seq (.reg [⟨(some 7), none, .fldA 7 (.tmp 3)⟩,
     ⟨none, none, .store 1 (.tmp 7) (.const (.int .i64 1))⟩,
     ⟨(some 8), none, .fldA 8 (.tmp 3)⟩,
     ⟨none, none, .store 1 (.tmp 8) (.const (.bool false))⟩])
  (.seq (.reg [⟨(some 9), none, .load true 9 (.tmp 3)⟩,
     ⟨(some 10), none, .call (.func 42) [(.tmp 9)]⟩,
     ⟨(some 6), none, .mv (.tmp 10)⟩])
  (.seq (.seq (.reg [⟨(some 11), none, .mv (.tmp 6)⟩,
      ⟨(some 12), none, .bin .neq (.tmp 11) (.const (.int .i64 0))⟩])
   (.cond (.tmp 12)
    (.seq (.reg [⟨(some 13), none, .mv (.tmp 6)⟩,
        ⟨(some 4), none, .mv (.const (.slice none 0 0))⟩,
        ⟨(some 5), none, .mv (.tmp 13)⟩])
     (.ret))
    (.skip)))
  (.seq (.reg [⟨(some 14), none, .mv (.tmp 0)⟩,
     ⟨(some 15), none, .load true 9 (.tmp 3)⟩,
     ⟨(some 16), none, .call (.func 90) [(.tmp 14), (.tmp 15)]⟩,
     ⟨(some 17), none, .ext (.tmp 16) 0⟩,
     ⟨(some 18), none, .ext (.tmp 16) 1⟩,
     ⟨(some 4), none, .mv (.tmp 17)⟩,
     ⟨(some 5), none, .mv (.tmp 18)⟩])
  (.ret)))))
theorem ck_hearsayref_RegisterOf : chkFun Try.prog 39 2 = some (rc_hearsayref_RegisterOf, [4, 5]) := by kernel_rfl
/-- hearsay/hearsayref.DropOf -/
def rc_hearsayref_DropOf : RCode :=
  .seq (.reg [⟨(some 6), none, .mv (.const (.slice none 0 0))⟩,
     ⟨(some 7), none, .mv (.const (.int .i64 0))⟩])
  (.seq (.seq (.reg [⟨(some 10), none, .mv (.tmp 1)⟩,
      ⟨(some 11), none, .call (.func 28) [(.tmp 10)]⟩,
      ⟨(some 12), none, .not (.tmp 11)⟩,
      ⟨(some 13), none, .mv (.tmp 12)⟩,
      ⟨(some 14), (some (13, false)), .mv (.tmp 2)⟩,
      ⟨(some 15), (some (13, false)), .call (.func 28) [(.tmp 14)]⟩,
      ⟨(some 16), (some (13, false)), .not (.tmp 15)⟩,
      ⟨(some 17), none, .pick (.tmp 13) (.const (.bool true)) (.tmp 16)⟩])
   (.cond (.tmp 17)
    (.seq (.reg [⟨(some 6), none, .mv (.const (.slice none 0 0))⟩,
        ⟨(some 7), none, .mv (.const (.int .i64 1))⟩])
     (.ret))
    (.skip)))
  (.seq (.reg [⟨(some 18), none, .mv (.tmp 0)⟩,
     ⟨(some 19), none, .mv (.tmp 1)⟩,
     ⟨(some 20), none, .mv (.tmp 2)⟩,
     ⟨(some 21), none, .call (.func 49) [(.tmp 18), (.tmp 19), (.tmp 20)]⟩,
     ⟨(some 8), none, .mv (.tmp 21)⟩])
  (.seq (.seq (.reg [⟨(some 22), none, .mv (.tmp 8)⟩,
      ⟨(some 23), none, .bin .lss (.tmp 22) (.const (.int .i64 0))⟩,
      ⟨(some 24), none, .mv (.tmp 23)⟩,
      ⟨(some 25), (some (24, false)), .mv (.tmp 0)⟩,
      ⟨(some 26), (some (24, false)), .mv (.tmp 8)⟩,
      ⟨(some 27), (some (24, false)), .idxA 9 (.tmp 25) (.tmp 26)⟩,
      ⟨(some 28), (some (24, false)), .fldA 8 (.tmp 27)⟩,
      ⟨(some 29), (some (24, false)), .load false 1 (.tmp 28)⟩,
      ⟨(some 30), none, .pick (.tmp 24) (.const (.bool true)) (.tmp 29)⟩])
   (.cond (.tmp 30)
    (.seq (.reg [⟨(some 6), none, .mv (.const (.slice none 0 0))⟩,
        ⟨(some 7), none, .mv (.const (.int .i64 5))⟩])
     (.ret))
    (.skip)))
  (.seq (.reg [⟨(some 31), none, .mv (.tmp 0)⟩,
     ⟨(some 32), none, .mv (.tmp 8)⟩,
     ⟨(some 33), none, .idxA 9 (.tmp 31) (.tmp 32)⟩,
     ⟨(some 34), none, .load true 9 (.tmp 33)⟩,
     ⟨(some 9), none, .zbox 56 [(.string ⟨#[]⟩), (.string ⟨#[]⟩), (.string ⟨#[]⟩), (.string ⟨#[]⟩), (.int .i64 0), (.int .i64 0), (.bool false), (.int .i64 0), (.bool false)]⟩,
     ⟨none, none, .store 9 (.tmp 9) (.tmp 34)⟩])
  (.seq (.reg [⟨(some 35), none, .fldA 8 (.tmp 9)⟩,
     ⟨none, none, .store 1 (.tmp 35) (.const (.bool true))⟩])
  (.seq (.reg [⟨(some 36), none, .mv (.tmp 0)⟩,
     ⟨(some 37), none, .load true 9 (.tmp 9)⟩,
     ⟨(some 38), none, .call (.func 90) [(.tmp 36), (.tmp 37)]⟩,
     ⟨(some 39), none, .ext (.tmp 38) 0⟩,
     ⟨(some 40), none, .ext (.tmp 38) 1⟩,
     ⟨(some 6), none, .mv (.tmp 39)⟩,
     ⟨(some 7), none, .mv (.tmp 40)⟩])
  (.ret)))))))
theorem ck_hearsayref_DropOf : chkFun Try.prog 40 3 = some (rc_hearsayref_DropOf, [6, 7]) := by kernel_rfl
/-- hearsay/catalog.Newer -/
def rc_catalog_Newer : RCode :=
  .seq (.reg [⟨(some 2), none, .box 56 9 (.tmp 0)⟩,
     ⟨(some 3), none, .box 56 9 (.tmp 1)⟩,
     ⟨(some 4), none, .mv (.const (.bool false))⟩,
     ⟨(some 5), none, .mv (.const (.int .i64 0))⟩])
  (.seq (.seq (.reg [⟨(some 9), none, .load true 9 (.tmp 2)⟩,
      ⟨(some 10), none, .load true 9 (.tmp 3)⟩,
      ⟨(some 11), none, .mks 56 9 2 [(.string ⟨#[]⟩), (.string ⟨#[]⟩), (.string ⟨#[]⟩), (.string ⟨#[]⟩), (.int .i64 0), (.int .i64 0), (.bool false), (.int .i64 0), (.bool false)] [(0, (.tmp 9)), (1, (.tmp 10))]⟩,
      ⟨(some 12), none, .len false (.tmp 11)⟩,
      ⟨(some 13), none, .mv (.const (.int .i64 0))⟩])
   (.block 0
    (.loop
     (.seq (.reg [⟨(some 14), none, .bin .lss (.tmp 13) (.tmp 12)⟩])
     (.seq (.cond (.tmp 14)
       (.skip)
       (.exit 0))
     (.seq (.block 1
       (.seq (.reg [⟨(some 15), none, .idxA 9 (.tmp 11) (.tmp 13)⟩,
          ⟨(some 16), none, .load true 9 (.tmp 15)⟩,
          ⟨(some 7), none, .zbox 56 [(.string ⟨#[]⟩), (.string ⟨#[]⟩), (.string ⟨#[]⟩), (.string ⟨#[]⟩), (.int .i64 0), (.int .i64 0), (.bool false), (.int .i64 0), (.bool false)]⟩,
          ⟨none, none, .store 9 (.tmp 7) (.tmp 16)⟩])
       (.seq (.reg [⟨(some 17), none, .load true 9 (.tmp 7)⟩,
          ⟨(some 18), none, .call (.func 87) [(.tmp 17)]⟩,
          ⟨(some 8), none, .mv (.tmp 18)⟩])
       (.seq (.reg [⟨(some 19), none, .mv (.tmp 8)⟩,
          ⟨(some 20), none, .bin .neq (.tmp 19) (.const (.int .i64 0))⟩])
       (.cond (.tmp 20)
        (.seq (.reg [⟨(some 21), none, .mv (.tmp 8)⟩,
            ⟨(some 4), none, .mv (.const (.bool false))⟩,
            ⟨(some 5), none, .mv (.tmp 21)⟩])
         (.ret))
        (.skip))))))
     (.reg [⟨(some 22), none, .bin .add (.tmp 13) (.const (.int .i64 1))⟩,
       ⟨(some 13), none, .mv (.tmp 22)⟩])))))))
  (.seq (.seq (.reg [⟨(some 23), none, .load true 9 (.tmp 2)⟩,
      ⟨(some 24), none, .load true 9 (.tmp 3)⟩,
      ⟨(some 25), none, .call (.func 91) [(.tmp 23), (.tmp 24)]⟩,
      ⟨(some 26), none, .bin .neq (.tmp 25) (.const (.int .i64 0))⟩])
   (.cond (.tmp 26)
    (.seq (.reg [⟨(some 4), none, .mv (.const (.bool false))⟩,
        ⟨(some 5), none, .mv (.const (.int .i64 4))⟩])
     (.ret))
    (.skip)))
  (.seq (.reg [⟨(some 27), none, .load true 9 (.tmp 2)⟩,
     ⟨(some 28), none, .load true 9 (.tmp 3)⟩,
     ⟨(some 29), none, .call (.func 92) [(.tmp 27), (.tmp 28)]⟩,
     ⟨(some 30), none, .bin .gtr (.tmp 29) (.const (.int .i64 0))⟩,
     ⟨(some 4), none, .mv (.tmp 30)⟩,
     ⟨(some 5), none, .mv (.const (.int .i64 0))⟩])
  (.ret))))
theorem ck_catalog_Newer : chkFun Try.prog 41 2 = some (rc_catalog_Newer, [4, 5]) := by kernel_rfl
/-- hearsay/hearsayref.OneService -/
def rc_hearsayref_OneService : RCode :=
  .seq (.reg [⟨(some 1), none, .box 56 9 (.tmp 0)⟩,
     ⟨(some 2), none, .mv (.const (.int .i64 0))⟩])
  (.seq (.seq (.reg [⟨(some 3), none, .fldA 0 (.tmp 1)⟩,
      ⟨(some 4), none, .load false 1 (.tmp 3)⟩,
      ⟨(some 5), none, .call (.func 28) [(.tmp 4)]⟩,
      ⟨(some 6), none, .not (.tmp 5)⟩,
      ⟨(some 7), none, .mv (.tmp 6)⟩,
      ⟨(some 8), (some (7, false)), .fldA 1 (.tmp 1)⟩,
      ⟨(some 9), (some (7, false)), .load false 1 (.tmp 8)⟩,
      ⟨(some 10), (some (7, false)), .call (.func 28) [(.tmp 9)]⟩,
      ⟨(some 11), (some (7, false)), .not (.tmp 10)⟩,
      ⟨(some 12), none, .pick (.tmp 7) (.const (.bool true)) (.tmp 11)⟩,
      ⟨(some 13), none, .mv (.tmp 12)⟩,
      ⟨(some 14), (some (13, false)), .fldA 2 (.tmp 1)⟩,
      ⟨(some 15), (some (13, false)), .load false 1 (.tmp 14)⟩,
      ⟨(some 16), (some (13, false)), .call (.func 28) [(.tmp 15)]⟩,
      ⟨(some 17), (some (13, false)), .not (.tmp 16)⟩,
      ⟨(some 18), none, .pick (.tmp 13) (.const (.bool true)) (.tmp 17)⟩,
      ⟨(some 19), none, .mv (.tmp 18)⟩,
      ⟨(some 20), (some (19, false)), .fldA 3 (.tmp 1)⟩,
      ⟨(some 21), (some (19, false)), .load false 1 (.tmp 20)⟩,
      ⟨(some 22), (some (19, false)), .bin .neq (.tmp 21) (.const (.string ⟨#[]⟩))⟩,
      ⟨(some 23), (some (19, false)), .mv (.tmp 22)⟩,
      ⟨(some 24), (some (23, true)), .fldA 3 (.tmp 1)⟩,
      ⟨(some 25), (some (23, true)), .load false 1 (.tmp 24)⟩,
      ⟨(some 26), (some (23, true)), .call (.func 28) [(.tmp 25)]⟩,
      ⟨(some 27), (some (23, true)), .not (.tmp 26)⟩,
      ⟨(some 28), (some (19, false)), .pick (.tmp 23) (.tmp 27) (.const (.bool false))⟩,
      ⟨(some 29), none, .pick (.tmp 19) (.const (.bool true)) (.tmp 28)⟩])
   (.cond (.tmp 29)
    (.seq (.reg [⟨(some 2), none, .mv (.const (.int .i64 1))⟩])
     (.ret))
    (.skip)))
  (.seq (.seq (.reg [⟨(some 30), none, .fldA 4 (.tmp 1)⟩,
      ⟨(some 31), none, .load false 1 (.tmp 30)⟩,
      ⟨(some 32), none, .call (.func 81) [(.tmp 31)]⟩,
      ⟨(some 33), none, .not (.tmp 32)⟩,
      ⟨(some 34), none, .mv (.tmp 33)⟩,
      ⟨(some 35), (some (34, false)), .fldA 5 (.tmp 1)⟩,
      ⟨(some 36), (some (34, false)), .load false 1 (.tmp 35)⟩,
      ⟨(some 37), (some (34, false)), .call (.func 82) [(.tmp 36), (.const (.int .i64 0)), (.const (.int .i64 65535))]⟩,
      ⟨(some 38), (some (34, false)), .not (.tmp 37)⟩,
      ⟨(some 39), none, .pick (.tmp 34) (.const (.bool true)) (.tmp 38)⟩,
      ⟨(some 40), none, .mv (.tmp 39)⟩,
      ⟨(some 41), (some (40, false)), .fldA 7 (.tmp 1)⟩,
      ⟨(some 42), (some (40, false)), .load false 1 (.tmp 41)⟩,
      ⟨(some 43), (some (40, false)), .call (.func 82) [(.tmp 42), (.const (.int .i64 1)), (.const (.int .i64 1000000))]⟩,
      ⟨(some 44), (some (40, false)), .not (.tmp 43)⟩,
      ⟨(some 45), none, .pick (.tmp 40) (.const (.bool true)) (.tmp 44)⟩])
   (.cond (.tmp 45)
    (.seq (.reg [⟨(some 2), none, .mv (.const (.int .i64 3))⟩])
     (.ret))
    (.skip)))
  (.seq (.reg [⟨(some 2), none, .mv (.const (.int .i64 0))⟩])
  (.ret))))
theorem ck_hearsayref_OneService : chkFun Try.prog 42 1 = some (rc_hearsayref_OneService, [2]) := by kernel_rfl
/-- hearsay/hearsayref.NewerService -/
def rc_hearsayref_NewerService : RCode :=
  .seq (.reg [⟨(some 2), none, .box 56 9 (.tmp 0)⟩,
     ⟨(some 3), none, .box 56 9 (.tmp 1)⟩,
     ⟨(some 4), none, .mv (.const (.bool false))⟩])
  (.seq (.block 0
    (.seq (.reg [⟨(some 6), none, .fldA 7 (.tmp 2)⟩,
       ⟨(some 7), none, .load false 1 (.tmp 6)⟩,
       ⟨(some 8), none, .fldA 7 (.tmp 3)⟩,
       ⟨(some 9), none, .load false 1 (.tmp 8)⟩,
       ⟨(some 10), none, .bin .neq (.tmp 7) (.tmp 9)⟩,
       ⟨(some 5), none, .mv (.tmp 10)⟩])
    (.cond (.tmp 5)
     (.seq (.reg [⟨(some 11), none, .fldA 7 (.tmp 2)⟩,
         ⟨(some 12), none, .load false 1 (.tmp 11)⟩,
         ⟨(some 13), none, .fldA 7 (.tmp 3)⟩,
         ⟨(some 14), none, .load false 1 (.tmp 13)⟩,
         ⟨(some 15), none, .bin .gtr (.tmp 12) (.tmp 14)⟩,
         ⟨(some 4), none, .mv (.tmp 15)⟩])
      (.ret))
     (.seq (.reg [⟨(some 17), none, .fldA 8 (.tmp 2)⟩,
         ⟨(some 18), none, .load false 1 (.tmp 17)⟩,
         ⟨(some 19), none, .fldA 8 (.tmp 3)⟩,
         ⟨(some 20), none, .load false 1 (.tmp 19)⟩,
         ⟨(some 21), none, .eqb true (.tmp 18) (.tmp 20)⟩,
         ⟨(some 16), none, .mv (.tmp 21)⟩])
      (.cond (.tmp 16)
       (.seq (.reg [⟨(some 22), none, .fldA 8 (.tmp 2)⟩,
           ⟨(some 23), none, .load false 1 (.tmp 22)⟩,
           ⟨(some 4), none, .mv (.tmp 23)⟩])
        (.ret))
       (.seq (.reg [⟨(some 25), none, .fldA 2 (.tmp 2)⟩,
           ⟨(some 26), none, .load false 1 (.tmp 25)⟩,
           ⟨(some 27), none, .fldA 2 (.tmp 3)⟩,
           ⟨(some 28), none, .load false 1 (.tmp 27)⟩,
           ⟨(some 29), none, .bin .neq (.tmp 26) (.tmp 28)⟩,
           ⟨(some 24), none, .mv (.tmp 29)⟩])
        (.cond (.tmp 24)
         (.seq (.reg [⟨(some 30), none, .fldA 2 (.tmp 2)⟩,
             ⟨(some 31), none, .load false 1 (.tmp 30)⟩,
             ⟨(some 32), none, .fldA 2 (.tmp 3)⟩,
             ⟨(some 33), none, .load false 1 (.tmp 32)⟩,
             ⟨(some 34), none, .bin .gtr (.tmp 31) (.tmp 33)⟩,
             ⟨(some 4), none, .mv (.tmp 34)⟩])
          (.ret))
         (.seq (.reg [⟨(some 36), none, .fldA 3 (.tmp 2)⟩,
             ⟨(some 37), none, .load false 1 (.tmp 36)⟩,
             ⟨(some 38), none, .fldA 3 (.tmp 3)⟩,
             ⟨(some 39), none, .load false 1 (.tmp 38)⟩,
             ⟨(some 40), none, .bin .neq (.tmp 37) (.tmp 39)⟩,
             ⟨(some 35), none, .mv (.tmp 40)⟩])
          (.cond (.tmp 35)
           (.seq (.reg [⟨(some 41), none, .fldA 3 (.tmp 2)⟩,
               ⟨(some 42), none, .load false 1 (.tmp 41)⟩,
               ⟨(some 43), none, .fldA 3 (.tmp 3)⟩,
               ⟨(some 44), none, .load false 1 (.tmp 43)⟩,
               ⟨(some 45), none, .bin .gtr (.tmp 42) (.tmp 44)⟩,
               ⟨(some 4), none, .mv (.tmp 45)⟩])
            (.ret))
           (.seq (.reg [⟨(some 47), none, .fldA 4 (.tmp 2)⟩,
               ⟨(some 48), none, .load false 1 (.tmp 47)⟩,
               ⟨(some 49), none, .fldA 4 (.tmp 3)⟩,
               ⟨(some 50), none, .load false 1 (.tmp 49)⟩,
               ⟨(some 51), none, .bin .neq (.tmp 48) (.tmp 50)⟩,
               ⟨(some 46), none, .mv (.tmp 51)⟩])
            (.cond (.tmp 46)
             (.seq (.reg [⟨(some 52), none, .fldA 4 (.tmp 2)⟩,
                 ⟨(some 53), none, .load false 1 (.tmp 52)⟩,
                 ⟨(some 54), none, .fldA 4 (.tmp 3)⟩,
                 ⟨(some 55), none, .load false 1 (.tmp 54)⟩,
                 ⟨(some 56), none, .bin .gtr (.tmp 53) (.tmp 55)⟩,
                 ⟨(some 4), none, .mv (.tmp 56)⟩])
              (.ret))
             (.seq (.reg [⟨(some 58), none, .fldA 5 (.tmp 2)⟩,
                 ⟨(some 59), none, .load false 1 (.tmp 58)⟩,
                 ⟨(some 60), none, .fldA 5 (.tmp 3)⟩,
                 ⟨(some 61), none, .load false 1 (.tmp 60)⟩,
                 ⟨(some 62), none, .bin .neq (.tmp 59) (.tmp 61)⟩,
                 ⟨(some 57), none, .mv (.tmp 62)⟩])
              (.cond (.tmp 57)
               (.seq (.reg [⟨(some 63), none, .fldA 5 (.tmp 2)⟩,
                   ⟨(some 64), none, .load false 1 (.tmp 63)⟩,
                   ⟨(some 65), none, .fldA 5 (.tmp 3)⟩,
                   ⟨(some 66), none, .load false 1 (.tmp 65)⟩,
                   ⟨(some 67), none, .bin .gtr (.tmp 64) (.tmp 66)⟩,
                   ⟨(some 4), none, .mv (.tmp 67)⟩])
                (.ret))
               (.skip))))))))))))))
  (.seq (.reg [⟨(some 68), none, .fldA 6 (.tmp 2)⟩,
     ⟨(some 69), none, .load false 1 (.tmp 68)⟩,
     ⟨(some 70), none, .mv (.tmp 69)⟩,
     ⟨(some 71), (some (70, true)), .fldA 6 (.tmp 3)⟩,
     ⟨(some 72), (some (70, true)), .load false 1 (.tmp 71)⟩,
     ⟨(some 73), (some (70, true)), .not (.tmp 72)⟩,
     ⟨(some 74), none, .pick (.tmp 70) (.tmp 73) (.const (.bool false))⟩,
     ⟨(some 4), none, .mv (.tmp 74)⟩])
  (.ret)))
theorem ck_hearsayref_NewerService : chkFun Try.prog 43 2 = some (rc_hearsayref_NewerService, [4]) := by kernel_rfl
/-- hearsay/catalog.Join -/
def rc_catalog_Join : RCode :=
  .seq (.reg [⟨(some 4), none, .mv (.const (.slice none 0 0))⟩,
     ⟨(some 5), none, .mv (.const (.int .i64 0))⟩])
  (.seq (.seq (.reg [⟨(some 12), none, .mv (.tmp 0)⟩,
      ⟨(some 13), none, .mv (.tmp 1)⟩,
      ⟨(some 14), none, .mks 47 1 2 [(.slice none 0 0)] [(0, (.tmp 12)), (1, (.tmp 13))]⟩,
      ⟨(some 15), none, .call (.func 84) [(.tmp 14)]⟩,
      ⟨(some 6), none, .mv (.tmp 15)⟩])
   (.seq (.reg [⟨(some 16), none, .mv (.tmp 6)⟩,
      ⟨(some 17), none, .bin .neq (.tmp 16) (.const (.int .i64 0))⟩])
   (.cond (.tmp 17)
    (.seq (.reg [⟨(some 18), none, .mv (.tmp 6)⟩,
        ⟨(some 4), none, .mv (.const (.slice none 0 0))⟩,
        ⟨(some 5), none, .mv (.tmp 18)⟩])
     (.ret))
    (.skip))))
  (.seq (.reg [⟨(some 19), none, .mv (.tmp 0)⟩,
     ⟨(some 20), none, .call (.func 97) [(.tmp 19)]⟩,
     ⟨(some 7), none, .mv (.tmp 20)⟩])
  (.seq (.seq (.reg [⟨(some 21), none, .mv (.tmp 1)⟩,
      ⟨(some 22), none, .len false (.tmp 21)⟩,
      ⟨(some 23), none, .mv (.const (.int .i64 0))⟩])
   (.block 0
    (.loop
     (.seq (.reg [⟨(some 24), none, .bin .lss (.tmp 23) (.tmp 22)⟩])
     (.seq (.cond (.tmp 24)
       (.skip)
       (.exit 0))
     (.seq (.block 1
       (.seq (.reg [⟨(some 25), none, .idxA 9 (.tmp 21) (.tmp 23)⟩,
          ⟨(some 26), none, .load true 9 (.tmp 25)⟩,
          ⟨(some 9), none, .zbox 56 [(.string ⟨#[]⟩), (.string ⟨#[]⟩), (.string ⟨#[]⟩), (.string ⟨#[]⟩), (.int .i64 0), (.int .i64 0), (.bool false), (.int .i64 0), (.bool false)]⟩,
          ⟨none, none, .store 9 (.tmp 9) (.tmp 26)⟩])
       (.seq (.reg [⟨(some 28), none, .mv (.tmp 7)⟩,
          ⟨(some 29), none, .fldA 0 (.tmp 9)⟩,
          ⟨(some 30), none, .load false 1 (.tmp 29)⟩,
          ⟨(some 31), none, .fldA 1 (.tmp 9)⟩,
          ⟨(some 32), none, .load false 1 (.tmp 31)⟩,
          ⟨(some 33), none, .call (.func 89) [(.tmp 28), (.tmp 30), (.tmp 32)]⟩,
          ⟨(some 27), none, .mv (.tmp 33)⟩,
          ⟨(some 34), none, .ext (.tmp 27) 0⟩,
          ⟨(some 35), none, .ext (.tmp 27) 1⟩,
          ⟨(some 10), none, .mv (.tmp 34)⟩,
          ⟨(some 11), none, .mv (.tmp 35)⟩])
       (.block 2
        (.seq (.reg [⟨(some 37), none, .mv (.tmp 11)⟩,
           ⟨(some 38), none, .not (.tmp 37)⟩,
           ⟨(some 36), none, .mv (.tmp 38)⟩])
        (.cond (.tmp 36)
         (.reg [⟨(some 39), none, .mv (.tmp 7)⟩,
            ⟨(some 40), none, .mv (.tmp 10)⟩,
            ⟨(some 41), none, .load true 9 (.tmp 9)⟩,
            ⟨(some 42), none, .mks 56 9 1 [(.string ⟨#[]⟩), (.string ⟨#[]⟩), (.string ⟨#[]⟩), (.string ⟨#[]⟩), (.int .i64 0), (.int .i64 0), (.bool false), (.int .i64 0), (.bool false)] [(0, (.tmp 41))]⟩,
            ⟨(some 43), none, .call (.func 98) [(.tmp 39), (.tmp 40), (.tmp 42)]⟩,
            ⟨(some 7), none, .mv (.tmp 43)⟩])
         (.seq (.dreg [[⟨(some 45), none, .load true 9 (.tmp 9)⟩,
              ⟨(some 46), none, .mv (.tmp 7)⟩,
              ⟨(some 47), none, .mv (.tmp 10)⟩,
              ⟨(some 48), none, .idxA 9 (.tmp 46) (.tmp 47)⟩,
              ⟨(some 49), none, .load true 9 (.tmp 48)⟩],
             [⟨(some 50), none, .call (.func 92) [(.tmp 45), (.tmp 49)]⟩],
             [⟨(some 51), none, .bin .gtr (.tmp 50) (.const (.int .i64 0))⟩],
             [⟨(some 44), none, .mv (.tmp 51)⟩]])
          (.cond (.tmp 44)
           (.reg [⟨(some 52), none, .mv (.tmp 7)⟩,
              ⟨(some 53), none, .mv (.tmp 10)⟩,
              ⟨(some 54), none, .load true 9 (.tmp 9)⟩,
              ⟨(some 55), none, .idxA 9 (.tmp 52) (.tmp 53)⟩,
              ⟨none, none, .store 9 (.tmp 55) (.tmp 54)⟩])
           (.skip)))))))))
     (.reg [⟨(some 56), none, .bin .add (.tmp 23) (.const (.int .i64 1))⟩,
       ⟨(some 23), none, .mv (.tmp 56)⟩])))))))
  (.seq (.seq (.reg [⟨(some 57), none, .mv (.tmp 7)⟩,
      ⟨(some 58), none, .len false (.tmp 57)⟩,
      ⟨(some 59), none, .bin .gtr (.tmp 58) (.const (.int .i64 40))⟩])
   (.cond (.tmp 59)
    (.seq (.reg [⟨(some 4), none, .mv (.const (.slice none 0 0))⟩,
        ⟨(some 5), none, .mv (.const (.int .i64 2))⟩])
     (.ret))
    (.skip)))
  (.seq (.reg [⟨(some 60), none, .mv (.tmp 7)⟩,
     ⟨(some 4), none, .mv (.tmp 60)⟩,
     ⟨(some 5), none, .mv (.const (.int .i64 0))⟩])
  (.ret))))))
theorem ck_catalog_Join : chkFun Try.prog 46 2 = some (rc_catalog_Join, [4, 5]) := by kernel_rfl
/-- hearsay/hearsayref.JoinServices -/
def rc_hearsayref_JoinServices : RCode :=
  .seq (.reg [⟨(some 4), none, .mv (.const (.slice none 0 0))⟩])
  (.seq (.seq (.reg [⟨(some 5), none, .mv (.const (.int .i64 0))⟩])
   (.block 0
    (.loop
     (.seq (.seq (.reg [⟨(some 7), none, .mv (.tmp 5)⟩,
         ⟨(some 8), none, .mv (.tmp 1)⟩,
         ⟨(some 9), none, .len false (.tmp 8)⟩,
         ⟨(some 10), none, .bin .lss (.tmp 7) (.tmp 9)⟩])
      (.cond (.tmp 10)
       (.skip)
       (.exit 0)))
     (.seq (.block 1
       (.seq (.dreg [[⟨(some 13), none, .mv (.tmp 0)⟩,
           ⟨(some 14), none, .mv (.tmp 1)⟩,
           ⟨(some 15), none, .mv (.tmp 5)⟩,
           ⟨(some 16), none, .idxA 9 (.tmp 14) (.tmp 15)⟩,
           ⟨(some 17), none, .fldA 0 (.tmp 16)⟩,
           ⟨(some 18), none, .load false 1 (.tmp 17)⟩,
           ⟨(some 19), none, .mv (.tmp 1)⟩,
           ⟨(some 20), none, .mv (.tmp 5)⟩,
           ⟨(some 21), none, .idxA 9 (.tmp 19) (.tmp 20)⟩,
           ⟨(some 22), none, .fldA 1 (.tmp 21)⟩,
           ⟨(some 23), none, .load false 1 (.tmp 22)⟩],
          [⟨(some 24), none, .call (.func 49) [(.tmp 13), (.tmp 18), (.tmp 23)]⟩],
          [⟨(some 6), none, .mv (.tmp 24)⟩]])
       (.seq (.dreg [[⟨(some 25), none, .mv (.tmp 6)⟩],
          [⟨(some 26), none, .bin .lss (.tmp 25) (.const (.int .i64 0))⟩],
          [⟨(some 27), none, .mv (.tmp 26)⟩],
          [⟨(some 28), (some (27, false)), .mv (.tmp 1)⟩,
           ⟨(some 29), (some (27, false)), .mv (.tmp 5)⟩,
           ⟨(some 30), (some (27, false)), .idxA 9 (.tmp 28) (.tmp 29)⟩,
           ⟨(some 31), (some (27, false)), .load true 9 (.tmp 30)⟩,
           ⟨(some 32), (some (27, false)), .mv (.tmp 0)⟩,
           ⟨(some 33), (some (27, false)), .mv (.tmp 6)⟩,
           ⟨(some 34), (some (27, false)), .idxA 9 (.tmp 32) (.tmp 33)⟩,
           ⟨(some 35), (some (27, false)), .load true 9 (.tmp 34)⟩],
          [⟨(some 36), (some (27, false)), .call (.func 43) [(.tmp 31), (.tmp 35)]⟩],
          [⟨(some 37), none, .pick (.tmp 27) (.const (.bool true)) (.tmp 36)⟩]])
       (.cond (.tmp 37)
        (.reg [⟨(some 38), none, .mv (.tmp 0)⟩,
           ⟨(some 39), none, .mv (.tmp 1)⟩,
           ⟨(some 40), none, .mv (.tmp 5)⟩,
           ⟨(some 41), none, .idxA 9 (.tmp 39) (.tmp 40)⟩,
           ⟨(some 42), none, .load true 9 (.tmp 41)⟩,
           ⟨(some 43), none, .call (.func 99) [(.tmp 38), (.tmp 42)]⟩,
           ⟨(some 0), none, .mv (.tmp 43)⟩])
        (.skip)))))
     (.reg [⟨(some 11), none, .mv (.tmp 5)⟩,
       ⟨(some 12), none, .bin .add (.tmp 11) (.const (.int .i64 1))⟩,
       ⟨(some 5), none, .mv (.tmp 12)⟩]))))))
  (.seq (.reg [⟨(some 44), none, .mv (.tmp 0)⟩,
     ⟨(some 4), none, .mv (.tmp 44)⟩])
  (.ret)))
theorem ck_hearsayref_JoinServices : chkFun Try.prog 47 2 = some (rc_hearsayref_JoinServices, [4]) := by kernel_rfl
/-- hearsay/hearsayref.SameServices -/
def rc_hearsayref_SameServices : RCode :=
  .seq (.reg [⟨(some 4), none, .mv (.const (.bool false))⟩])
  (.seq (.seq (.reg [⟨(some 6), none, .mv (.tmp 0)⟩,
      ⟨(some 7), none, .len false (.tmp 6)⟩,
      ⟨(some 8), none, .mv (.tmp 1)⟩,
      ⟨(some 9), none, .len false (.tmp 8)⟩,
      ⟨(some 10), none, .bin .neq (.tmp 7) (.tmp 9)⟩])
   (.cond (.tmp 10)
    (.seq (.reg [⟨(some 4), none, .mv (.const (.bool false))⟩])
     (.ret))
    (.skip)))
  (.seq (.seq (.reg [⟨(some 5), none, .mv (.const (.int .i64 0))⟩])
   (.block 0
    (.loop
     (.seq (.seq (.reg [⟨(some 11), none, .mv (.tmp 5)⟩,
         ⟨(some 12), none, .mv (.tmp 0)⟩,
         ⟨(some 13), none, .len false (.tmp 12)⟩,
         ⟨(some 14), none, .bin .lss (.tmp 11) (.tmp 13)⟩])
      (.cond (.tmp 14)
       (.skip)
       (.exit 0)))
     (.seq (.block 1
       (.seq (.dreg [[⟨(some 17), none, .mv (.tmp 0)⟩,
           ⟨(some 18), none, .mv (.tmp 5)⟩,
           ⟨(some 19), none, .idxA 9 (.tmp 17) (.tmp 18)⟩,
           ⟨(some 20), none, .load true 9 (.tmp 19)⟩,
           ⟨(some 21), none, .mv (.tmp 1)⟩,
           ⟨(some 22), none, .mv (.tmp 5)⟩,
           ⟨(some 23), none, .idxA 9 (.tmp 21) (.tmp 22)⟩,
           ⟨(some 24), none, .load true 9 (.tmp 23)⟩],
          [⟨(some 25), none, .eqS true [1, 1, 1, 1, 0, 0, 2, 0, 2] (.tmp 20) (.tmp 24)⟩]])
       (.cond (.tmp 25)
        (.seq (.reg [⟨(some 4), none, .mv (.const (.bool false))⟩])
         (.ret))
        (.skip))))
     (.reg [⟨(some 15), none, .mv (.tmp 5)⟩,
       ⟨(some 16), none, .bin .add (.tmp 15) (.const (.int .i64 1))⟩,
       ⟨(some 5), none, .mv (.tmp 16)⟩]))))))
  (.seq (.reg [⟨(some 4), none, .mv (.const (.bool true))⟩])
  (.ret))))
theorem ck_hearsayref_SameServices : chkFun Try.prog 48 2 = some (rc_hearsayref_SameServices, [4]) := by kernel_rfl
/-- hearsay/hearsayref.ServiceAt -/
def rc_hearsayref_ServiceAt : RCode :=
  .seq (.reg [⟨(some 6), none, .mv (.const (.int .i64 0))⟩])
  (.seq (.seq (.reg [⟨(some 7), none, .mv (.const (.int .i64 0))⟩])
   (.block 0
    (.loop
     (.seq (.seq (.reg [⟨(some 8), none, .mv (.tmp 7)⟩,
         ⟨(some 9), none, .mv (.tmp 0)⟩,
         ⟨(some 10), none, .len false (.tmp 9)⟩,
         ⟨(some 11), none, .bin .lss (.tmp 8) (.tmp 10)⟩])
      (.cond (.tmp 11)
       (.skip)
       (.exit 0)))
     (.seq (.block 1
       (.seq (.reg [⟨(some 14), none, .mv (.tmp 0)⟩,
          ⟨(some 15), none, .mv (.tmp 7)⟩,
          ⟨(some 16), none, .idxA 9 (.tmp 14) (.tmp 15)⟩,
          ⟨(some 17), none, .fldA 0 (.tmp 16)⟩,
          ⟨(some 18), none, .load false 1 (.tmp 17)⟩,
          ⟨(some 19), none, .mv (.tmp 1)⟩,
          ⟨(some 20), none, .bin .eql (.tmp 18) (.tmp 19)⟩,
          ⟨(some 21), none, .mv (.tmp 20)⟩,
          ⟨(some 22), (some (21, true)), .mv (.tmp 0)⟩,
          ⟨(some 23), (some (21, true)), .mv (.tmp 7)⟩,
          ⟨(some 24), (some (21, true)), .idxA 9 (.tmp 22) (.tmp 23)⟩,
          ⟨(some 25), (some (21, true)), .fldA 1 (.tmp 24)⟩,
          ⟨(some 26), (some (21, true)), .load false 1 (.tmp 25)⟩,
          ⟨(some 27), (some (21, true)), .mv (.tmp 2)⟩,
          ⟨(some 28), (some (21, true)), .bin .eql (.tmp 26) (.tmp 27)⟩,
          ⟨(some 29), none, .pick (.tmp 21) (.tmp 28) (.const (.bool false))⟩])
       (.cond (.tmp 29)
        (.seq (.reg [⟨(some 30), none, .mv (.tmp 7)⟩,
            ⟨(some 6), none, .mv (.tmp 30)⟩])
         (.ret))
        (.skip))))
     (.reg [⟨(some 12), none, .mv (.tmp 7)⟩,
       ⟨(some 13), none, .bin .add (.tmp 12) (.const (.int .i64 1))⟩,
       ⟨(some 7), none, .mv (.tmp 13)⟩]))))))
  (.seq (.reg [⟨(some 6), none, .mv (.const (.int .i64 (-1)))⟩])
  (.ret)))
theorem ck_hearsayref_ServiceAt : chkFun Try.prog 49 3 = some (rc_hearsayref_ServiceAt, [6]) := by kernel_rfl
/-- hearsay/hearsayref.IsAddress -/
def rc_hearsayref_IsAddress : RCode :=
  .seq (.reg [⟨(some 2), none, .mv (.const (.bool false))⟩])
  (.seq (.reg [⟨(some 3), none, .mv (.tmp 0)⟩,
     ⟨(some 4), none, .call (.func 82) [(.tmp 3), (.const (.int .i64 0)), (.const (.int .i64 4294967295))]⟩,
     ⟨(some 2), none, .mv (.tmp 4)⟩])
  (.ret))
theorem ck_hearsayref_IsAddress : chkFun Try.prog 81 1 = some (rc_hearsayref_IsAddress, [2]) := by kernel_rfl
/-- hearsay/hearsayref.between -/
def rc_hearsayref_between : RCode :=
  .seq (.reg [⟨(some 6), none, .mv (.const (.bool false))⟩])
  (.seq (.reg [⟨(some 7), none, .mv (.tmp 0)⟩,
     ⟨(some 8), none, .mv (.tmp 1)⟩,
     ⟨(some 9), none, .bin .geq (.tmp 7) (.tmp 8)⟩,
     ⟨(some 10), none, .mv (.tmp 9)⟩,
     ⟨(some 11), (some (10, true)), .mv (.tmp 0)⟩,
     ⟨(some 12), (some (10, true)), .mv (.tmp 2)⟩,
     ⟨(some 13), (some (10, true)), .bin .leq (.tmp 11) (.tmp 12)⟩,
     ⟨(some 14), none, .pick (.tmp 10) (.tmp 13) (.const (.bool false))⟩,
     ⟨(some 6), none, .mv (.tmp 14)⟩])
  (.ret))
theorem ck_hearsayref_between : chkFun Try.prog 82 3 = some (rc_hearsayref_between, [6]) := by kernel_rfl
/-- hearsay/catalog.check -/
def rc_catalog_check : RCode :=
  .seq (.reg [⟨(some 2), none, .mv (.const (.int .i64 0))⟩])
  (.seq (.seq (.reg [⟨(some 9), none, .mv (.tmp 0)⟩,
      ⟨(some 10), none, .len false (.tmp 9)⟩,
      ⟨(some 11), none, .mv (.const (.int .i64 0))⟩])
   (.block 0
    (.loop
     (.seq (.reg [⟨(some 12), none, .bin .lss (.tmp 11) (.tmp 10)⟩])
     (.seq (.cond (.tmp 12)
       (.skip)
       (.exit 0))
     (.seq (.block 1
       (.seq (.reg [⟨(some 13), none, .idxA 1 (.tmp 9) (.tmp 11)⟩,
          ⟨(some 14), none, .load false 1 (.tmp 13)⟩,
          ⟨(some 4), none, .mv (.tmp 14)⟩])
       (.seq (.seq (.reg [⟨(some 15), none, .mv (.tmp 4)⟩,
           ⟨(some 16), none, .len false (.tmp 15)⟩,
           ⟨(some 17), none, .bin .gtr (.tmp 16) (.const (.int .i64 40))⟩])
        (.cond (.tmp 17)
         (.seq (.reg [⟨(some 2), none, .mv (.const (.int .i64 2))⟩])
          (.ret))
         (.skip)))
       (.seq (.seq (.reg [⟨(some 18), none, .mv (.tmp 4)⟩,
           ⟨(some 19), none, .len false (.tmp 18)⟩,
           ⟨(some 20), none, .mv (.const (.int .i64 0))⟩])
        (.block 2
         (.loop
          (.seq (.reg [⟨(some 21), none, .bin .lss (.tmp 20) (.tmp 19)⟩])
          (.seq (.cond (.tmp 21)
            (.skip)
            (.exit 2))
          (.seq (.block 3
            (.seq (.reg [⟨(some 22), none, .idxA 9 (.tmp 18) (.tmp 20)⟩,
               ⟨(some 23), none, .load true 9 (.tmp 22)⟩,
               ⟨(some 6), none, .zbox 56 [(.string ⟨#[]⟩), (.string ⟨#[]⟩), (.string ⟨#[]⟩), (.string ⟨#[]⟩), (.int .i64 0), (.int .i64 0), (.bool false), (.int .i64 0), (.bool false)]⟩,
               ⟨none, none, .store 9 (.tmp 6) (.tmp 23)⟩])
            (.seq (.reg [⟨(some 24), none, .load true 9 (.tmp 6)⟩,
               ⟨(some 25), none, .call (.func 87) [(.tmp 24)]⟩,
               ⟨(some 7), none, .mv (.tmp 25)⟩])
            (.seq (.reg [⟨(some 26), none, .mv (.tmp 7)⟩,
               ⟨(some 27), none, .bin .neq (.tmp 26) (.const (.int .i64 0))⟩])
            (.cond (.tmp 27)
             (.seq (.reg [⟨(some 28), none, .mv (.tmp 7)⟩,
                 ⟨(some 2), none, .mv (.tmp 28)⟩])
              (.ret))
             (.skip))))))
          (.reg [⟨(some 29), none, .bin .add (.tmp 20) (.const (.int .i64 1))⟩,
            ⟨(some 20), none, .mv (.tmp 29)⟩])))))))
       (.seq (.reg [⟨(some 8), none, .mv (.const (.int .i64 1))⟩])
       (.block 4
        (.loop
         (.seq (.seq (.reg [⟨(some 30), none, .mv (.tmp 8)⟩,
             ⟨(some 31), none, .mv (.tmp 4)⟩,
             ⟨(some 32), none, .len false (.tmp 31)⟩,
             ⟨(some 33), none, .bin .lss (.tmp 30) (.tmp 32)⟩])
          (.cond (.tmp 33)
           (.skip)
           (.exit 4)))
         (.seq (.block 5
           (.seq (.dreg [[⟨(some 36), none, .mv (.tmp 4)⟩,
               ⟨(some 37), none, .mv (.tmp 8)⟩,
               ⟨(some 38), none, .bin .sub (.tmp 37) (.const (.int .i64 1))⟩,
               ⟨(some 39), none, .idxA 9 (.tmp 36) (.tmp 38)⟩,
               ⟨(some 40), none, .load true 9 (.tmp 39)⟩,
               ⟨(some 41), none, .mv (.tmp 4)⟩,
               ⟨(some 42), none, .mv (.tmp 8)⟩,
               ⟨(some 43), none, .idxA 9 (.tmp 41) (.tmp 42)⟩,
               ⟨(some 44), none, .load true 9 (.tmp 43)⟩],
              [⟨(some 45), none, .call (.func 91) [(.tmp 40), (.tmp 44)]⟩],
              [⟨(some 46), none, .bin .geq (.tmp 45) (.const (.int .i64 0))⟩]])
           (.cond (.tmp 46)
            (.seq (.reg [⟨(some 2), none, .mv (.const (.int .i64 4))⟩])
             (.ret))
            (.skip))))
         (.reg [⟨(some 34), none, .mv (.tmp 8)⟩,
           ⟨(some 35), none, .bin .add (.tmp 34) (.const (.int .i64 1))⟩,
           ⟨(some 8), none, .mv (.tmp 35)⟩]))))))))))
     (.reg [⟨(some 47), none, .bin .add (.tmp 11) (.const (.int .i64 1))⟩,
       ⟨(some 11), none, .mv (.tmp 47)⟩])))))))
  (.seq (.reg [⟨(some 2), none, .mv (.const (.int .i64 0))⟩])
  (.ret)))
theorem ck_catalog_check : chkFun Try.prog 84 1 = some (rc_catalog_check, [2]) := by kernel_rfl
/-- hearsay/catalog.maybe -/
def rc_catalog_maybe : RCode :=
  .seq (.reg [⟨(some 2), none, .mv (.const (.bool false))⟩])
  (.seq (.reg [⟨(some 3), none, .mv (.tmp 0)⟩,
     ⟨(some 4), none, .bin .eql (.tmp 3) (.const (.string ⟨#[]⟩))⟩,
     ⟨(some 5), none, .mv (.tmp 4)⟩,
     ⟨(some 6), (some (5, false)), .mv (.tmp 0)⟩,
     ⟨(some 7), (some (5, false)), .call (.func 79) [(.tmp 6)]⟩,
     ⟨(some 8), none, .pick (.tmp 5) (.const (.bool true)) (.tmp 7)⟩,
     ⟨(some 2), none, .mv (.tmp 8)⟩])
  (.ret))
theorem ck_catalog_maybe : chkFun Try.prog 85 1 = some (rc_catalog_maybe, [2]) := by kernel_rfl
/-- hearsay/hearsayref.ahead -/
def rc_hearsayref_ahead : RCode :=
  .seq (.reg [⟨(some 2), none, .box 56 9 (.tmp 0)⟩,
     ⟨(some 3), none, .box 56 9 (.tmp 1)⟩,
     ⟨(some 4), none, .mv (.const (.bool false))⟩])
  (.seq (.reg [⟨(some 5), none, .fldA 0 (.tmp 2)⟩,
     ⟨(some 6), none, .load false 1 (.tmp 5)⟩,
     ⟨(some 7), none, .fldA 0 (.tmp 3)⟩,
     ⟨(some 8), none, .load false 1 (.tmp 7)⟩,
     ⟨(some 9), none, .bin .lss (.tmp 6) (.tmp 8)⟩,
     ⟨(some 10), none, .mv (.tmp 9)⟩,
     ⟨(some 11), (some (10, false)), .fldA 0 (.tmp 2)⟩,
     ⟨(some 12), (some (10, false)), .load false 1 (.tmp 11)⟩,
     ⟨(some 13), (some (10, false)), .fldA 0 (.tmp 3)⟩,
     ⟨(some 14), (some (10, false)), .load false 1 (.tmp 13)⟩,
     ⟨(some 15), (some (10, false)), .bin .eql (.tmp 12) (.tmp 14)⟩,
     ⟨(some 16), (some (10, false)), .mv (.tmp 15)⟩,
     ⟨(some 17), (some (16, true)), .fldA 1 (.tmp 2)⟩,
     ⟨(some 18), (some (16, true)), .load false 1 (.tmp 17)⟩,
     ⟨(some 19), (some (16, true)), .fldA 1 (.tmp 3)⟩,
     ⟨(some 20), (some (16, true)), .load false 1 (.tmp 19)⟩,
     ⟨(some 21), (some (16, true)), .bin .lss (.tmp 18) (.tmp 20)⟩,
     ⟨(some 22), (some (10, false)), .pick (.tmp 16) (.tmp 21) (.const (.bool false))⟩,
     ⟨(some 23), none, .pick (.tmp 10) (.const (.bool true)) (.tmp 22)⟩,
     ⟨(some 4), none, .mv (.tmp 23)⟩])
  (.ret))
theorem ck_hearsayref_ahead : chkFun Try.prog 86 2 = some (rc_hearsayref_ahead, [4]) := by kernel_rfl
/-- hearsay/catalog.one -/
def rc_catalog_one : RCode :=
  .seq (.reg [⟨(some 1), none, .box 56 9 (.tmp 0)⟩,
     ⟨(some 2), none, .mv (.const (.int .i64 0))⟩])
  (.seq (.block 0
    (.seq (.reg [⟨(some 4), none, .fldA 0 (.tmp 1)⟩,
       ⟨(some 5), none, .load false 1 (.tmp 4)⟩,
       ⟨(some 6), none, .call (.func 79) [(.tmp 5)]⟩,
       ⟨(some 7), none, .not (.tmp 6)⟩,
       ⟨(some 8), none, .mv (.tmp 7)⟩,
       ⟨(some 9), (some (8, false)), .fldA 1 (.tmp 1)⟩,
       ⟨(some 10), (some (8, false)), .load false 1 (.tmp 9)⟩,
       ⟨(some 11), (some (8, false)), .call (.func 79) [(.tmp 10)]⟩,
       ⟨(some 12), (some (8, false)), .not (.tmp 11)⟩,
       ⟨(some 13), none, .pick (.tmp 8) (.const (.bool true)) (.tmp 12)⟩,
       ⟨(some 14), none, .mv (.tmp 13)⟩,
       ⟨(some 15), (some (14, false)), .fldA 2 (.tmp 1)⟩,
       ⟨(some 16), (some (14, false)), .load false 1 (.tmp 15)⟩,
       ⟨(some 17), (some (14, false)), .call (.func 79) [(.tmp 16)]⟩,
       ⟨(some 18), (some (14, false)), .not (.tmp 17)⟩,
       ⟨(some 19), none, .pick (.tmp 14) (.const (.bool true)) (.tmp 18)⟩,
       ⟨(some 20), none, .mv (.tmp 19)⟩,
       ⟨(some 21), (some (20, false)), .fldA 3 (.tmp 1)⟩,
       ⟨(some 22), (some (20, false)), .load false 1 (.tmp 21)⟩,
       ⟨(some 23), (some (20, false)), .call (.func 85) [(.tmp 22)]⟩,
       ⟨(some 24), (some (20, false)), .not (.tmp 23)⟩,
       ⟨(some 25), none, .pick (.tmp 20) (.const (.bool true)) (.tmp 24)⟩,
       ⟨(some 3), none, .mv (.tmp 25)⟩])
    (.cond (.tmp 3)
     (.seq (.reg [⟨(some 2), none, .mv (.const (.int .i64 1))⟩])
      (.ret))
     (.seq (.reg [⟨(some 27), none, .fldA 4 (.tmp 1)⟩,
         ⟨(some 28), none, .load false 1 (.tmp 27)⟩,
         ⟨(some 29), none, .call (.func 123) [(.tmp 28), (.const (.int .i64 0)), (.const (.int .i64 4294967295))]⟩,
         ⟨(some 30), none, .not (.tmp 29)⟩,
         ⟨(some 31), none, .mv (.tmp 30)⟩,
         ⟨(some 32), (some (31, false)), .fldA 5 (.tmp 1)⟩,
         ⟨(some 33), (some (31, false)), .load false 1 (.tmp 32)⟩,
         ⟨(some 34), (some (31, false)), .call (.func 123) [(.tmp 33), (.const (.int .i64 0)), (.const (.int .i64 65535))]⟩,
         ⟨(some 35), (some (31, false)), .not (.tmp 34)⟩,
         ⟨(some 36), none, .pick (.tmp 31) (.const (.bool true)) (.tmp 35)⟩,
         ⟨(some 37), none, .mv (.tmp 36)⟩,
         ⟨(some 38), (some (37, false)), .fldA 7 (.tmp 1)⟩,
         ⟨(some 39), (some (37, false)), .load false 1 (.tmp 38)⟩,
         ⟨(some 40), (some (37, false)), .call (.func 123) [(.tmp 39), (.const (.int .i64 1)), (.const (.int .i64 1000000))]⟩,
         ⟨(some 41), (some (37, false)), .not (.tmp 40)⟩,
         ⟨(some 42), none, .pick (.tmp 37) (.const (.bool true)) (.tmp 41)⟩,
         ⟨(some 26), none, .mv (.tmp 42)⟩])
      (.cond (.tmp 26)
       (.seq (.reg [⟨(some 2), none, .mv (.const (.int .i64 3))⟩])
        (.ret))
       (.skip))))))
  (.seq (.reg [⟨(some 2), none, .mv (.const (.int .i64 0))⟩])
  (.ret)))
theorem ck_catalog_one : chkFun Try.prog 87 1 = some (rc_catalog_one, [2]) := by kernel_rfl
/-- hearsay/catalog.set -/
def rc_catalog_set : RCode :=
  .seq (.reg [⟨(some 3), none, .box 56 9 (.tmp 1)⟩,
     ⟨(some 4), none, .mv (.const (.slice none 0 0))⟩,
     ⟨(some 5), none, .mv (.const (.int .i64 0))⟩])
  (.seq (.reg [⟨(some 8), none, .mv (.tmp 0)⟩,
     ⟨(some 9), none, .call (.func 97) [(.tmp 8)]⟩,
     ⟨(some 0), none, .mv (.tmp 9)⟩])
  (.seq (.reg [⟨(some 11), none, .mv (.tmp 0)⟩,
     ⟨(some 12), none, .fldA 0 (.tmp 3)⟩,
     ⟨(some 13), none, .load false 1 (.tmp 12)⟩,
     ⟨(some 14), none, .fldA 1 (.tmp 3)⟩,
     ⟨(some 15), none, .load false 1 (.tmp 14)⟩,
     ⟨(some 16), none, .call (.func 89) [(.tmp 11), (.tmp 13), (.tmp 15)]⟩,
     ⟨(some 10), none, .mv (.tmp 16)⟩,
     ⟨(some 17), none, .ext (.tmp 10) 0⟩,
     ⟨(some 18), none, .ext (.tmp 10) 1⟩,
     ⟨(some 6), none, .mv (.tmp 17)⟩,
     ⟨(some 7), none, .mv (.tmp 18)⟩])
  (.seq (.reg [⟨(some 19), none, .fldA 7 (.tmp 3)⟩,
     ⟨none, none, .store 1 (.tmp 19) (.const (.int .i64 1))⟩])
  (.seq (.seq (.reg [⟨(some 20), none, .mv (.tmp 7)⟩])
   (.cond (.tmp 20)
    (.reg [⟨(some 21), none, .mv (.tmp 0)⟩,
       ⟨(some 22), none, .mv (.tmp 6)⟩,
       ⟨(some 23), none, .idxA 9 (.tmp 21) (.tmp 22)⟩,
       ⟨(some 24), none, .fldA 7 (.tmp 23)⟩,
       ⟨(some 25), none, .load false 1 (.tmp 24)⟩,
       ⟨(some 26), none, .bin .add (.tmp 25) (.const (.int .i64 1))⟩,
       ⟨(some 27), none, .fldA 7 (.tmp 3)⟩,
       ⟨none, none, .store 1 (.tmp 27) (.tmp 26)⟩])
    (.skip)))
  (.seq (.block 0
    (.seq (.reg [⟨(some 29), none, .fldA 7 (.tmp 3)⟩,
       ⟨(some 30), none, .load false 1 (.tmp 29)⟩,
       ⟨(some 31), none, .bin .gtr (.tmp 30) (.const (.int .i64 1000000))⟩,
       ⟨(some 28), none, .mv (.tmp 31)⟩])
    (.cond (.tmp 28)
     (.seq (.reg [⟨(some 4), none, .mv (.const (.slice none 0 0))⟩,
         ⟨(some 5), none, .mv (.const (.int .i64 3))⟩])
      (.ret))
     (.seq (.reg [⟨(some 33), none, .mv (.tmp 7)⟩,
         ⟨(some 32), none, .mv (.tmp 33)⟩])
      (.cond (.tmp 32)
       (.seq (.reg [⟨(some 34), none, .mv (.tmp 0)⟩,
           ⟨(some 35), none, .mv (.tmp 6)⟩,
           ⟨(some 36), none, .load true 9 (.tmp 3)⟩,
           ⟨(some 37), none, .idxA 9 (.tmp 34) (.tmp 35)⟩,
           ⟨none, none, .store 9 (.tmp 37) (.tmp 36)⟩])
        (.seq (.reg [⟨(some 38), none, .mv (.tmp 0)⟩,
           ⟨(some 4), none, .mv (.tmp 38)⟩,
           ⟨(some 5), none, .mv (.const (.int .i64 0))⟩])
        (.ret)))
       (.seq (.reg [⟨(some 40), none, .mv (.tmp 0)⟩,
           ⟨(some 41), none, .len false (.tmp 40)⟩,
           ⟨(some 42), none, .bin .eql (.tmp 41) (.const (.int .i64 40))⟩,
           ⟨(some 39), none, .mv (.tmp 42)⟩])
        (.cond (.tmp 39)
         (.seq (.reg [⟨(some 4), none, .mv (.const (.slice none 0 0))⟩,
             ⟨(some 5), none, .mv (.const (.int .i64 2))⟩])
          (.ret))
         (.skip))))))))
  (.seq (.reg [⟨(some 43), none, .mv (.tmp 0)⟩,
     ⟨(some 44), none, .mv (.tmp 6)⟩,
     ⟨(some 45), none, .load true 9 (.tmp 3)⟩,
     ⟨(some 46), none, .mks 56 9 1 [(.string ⟨#[]⟩), (.string ⟨#[]⟩), (.string ⟨#[]⟩), (.string ⟨#[]⟩), (.int .i64 0), (.int .i64 0), (.bool false), (.int .i64 0), (.bool false)] [(0, (.tmp 45))]⟩,
     ⟨(some 47), none, .call (.func 98) [(.tmp 43), (.tmp 44), (.tmp 46)]⟩,
     ⟨(some 4), none, .mv (.tmp 47)⟩,
     ⟨(some 5), none, .mv (.const (.int .i64 0))⟩])
  (.ret)))))))
theorem ck_catalog_set : chkFun Try.prog 88 2 = some (rc_catalog_set, [4, 5]) := by kernel_rfl
/-- hearsay/catalog.find -/
def rc_catalog_find : RCode :=
  .seq (.reg [⟨(some 6), none, .mv (.const (.int .i64 0))⟩,
     ⟨(some 7), none, .mv (.const (.bool false))⟩])
  (.seq (.reg [⟨(some 8), none, .mv (.tmp 0)⟩,
     ⟨(some 9), none, .mv (.tmp 1)⟩,
     ⟨(some 10), none, .mv (.tmp 2)⟩,
     ⟨(some 11), none, .build [(.string ⟨#[]⟩), (.string ⟨#[]⟩), (.string ⟨#[]⟩), (.string ⟨#[]⟩), (.int .i64 0), (.int .i64 0), (.bool false), (.int .i64 0), (.bool false)] [(0, 1, (.tmp 9)), (1, 1, (.tmp 10))]⟩,
     ⟨(some 12), none, .call (.func 124) [(.tmp 8), (.tmp 11), (.func 91)]⟩,
     ⟨(some 13), none, .ext (.tmp 12) 0⟩,
     ⟨(some 14), none, .ext (.tmp 12) 1⟩,
     ⟨(some 6), none, .mv (.tmp 13)⟩,
     ⟨(some 7), none, .mv (.tmp 14)⟩])
  (.ret))
theorem ck_catalog_find : chkFun Try.prog 89 3 = some (rc_catalog_find, [6, 7]) := by kernel_rfl
/-- hearsay/hearsayref.SetService -/
def rc_hearsayref_SetService : RCode :=
  .seq (.reg [⟨(some 3), none, .box 56 9 (.tmp 1)⟩,
     ⟨(some 4), none, .mv (.const (.slice none 0 0))⟩,
     ⟨(some 5), none, .mv (.const (.int .i64 0))⟩])
  (.seq (.reg [⟨(some 8), none, .fldA 7 (.tmp 3)⟩,
     ⟨none, none, .store 1 (.tmp 8) (.const (.int .i64 1))⟩])
  (.seq (.reg [⟨(some 9), none, .mv (.tmp 0)⟩,
     ⟨(some 10), none, .fldA 0 (.tmp 3)⟩,
     ⟨(some 11), none, .load false 1 (.tmp 10)⟩,
     ⟨(some 12), none, .fldA 1 (.tmp 3)⟩,
     ⟨(some 13), none, .load false 1 (.tmp 12)⟩,
     ⟨(some 14), none, .call (.func 49) [(.tmp 9), (.tmp 11), (.tmp 13)]⟩,
     ⟨(some 6), none, .mv (.tmp 14)⟩])
  (.seq (.seq (.reg [⟨(some 15), none, .mv (.tmp 6)⟩,
      ⟨(some 16), none, .bin .geq (.tmp 15) (.const (.int .i64 0))⟩])
   (.cond (.tmp 16)
    (.reg [⟨(some 17), none, .mv (.tmp 0)⟩,
       ⟨(some 18), none, .mv (.tmp 6)⟩,
       ⟨(some 19), none, .idxA 9 (.tmp 17) (.tmp 18)⟩,
       ⟨(some 20), none, .fldA 7 (.tmp 19)⟩,
       ⟨(some 21), none, .load false 1 (.tmp 20)⟩,
       ⟨(some 22), none, .bin .add (.tmp 21) (.const (.int .i64 1))⟩,
       ⟨(some 23), none, .fldA 7 (.tmp 3)⟩,
       ⟨none, none, .store 1 (.tmp 23) (.tmp 22)⟩])
    (.skip)))
  (.seq (.seq (.reg [⟨(some 24), none, .fldA 7 (.tmp 3)⟩,
      ⟨(some 25), none, .load false 1 (.tmp 24)⟩,
      ⟨(some 26), none, .bin .gtr (.tmp 25) (.const (.int .i64 1000000))⟩])
   (.cond (.tmp 26)
    (.seq (.reg [⟨(some 4), none, .mv (.const (.slice none 0 0))⟩,
        ⟨(some 5), none, .mv (.const (.int .i64 3))⟩])
     (.ret))
    (.skip)))
  (.seq (.reg [⟨(some 27), none, .mv (.tmp 0)⟩,
     ⟨(some 28), none, .load true 9 (.tmp 3)⟩,
     ⟨(some 29), none, .call (.func 99) [(.tmp 27), (.tmp 28)]⟩,
     ⟨(some 7), none, .mv (.tmp 29)⟩])
  (.seq (.seq (.reg [⟨(some 30), none, .mv (.tmp 7)⟩,
      ⟨(some 31), none, .len false (.tmp 30)⟩,
      ⟨(some 32), none, .bin .gtr (.tmp 31) (.const (.int .i64 40))⟩])
   (.cond (.tmp 32)
    (.seq (.reg [⟨(some 4), none, .mv (.const (.slice none 0 0))⟩,
        ⟨(some 5), none, .mv (.const (.int .i64 2))⟩])
     (.ret))
    (.skip)))
  (.seq (.reg [⟨(some 33), none, .mv (.tmp 7)⟩,
     ⟨(some 4), none, .mv (.tmp 33)⟩,
     ⟨(some 5), none, .mv (.const (.int .i64 0))⟩])
  (.ret))))))))
theorem ck_hearsayref_SetService : chkFun Try.prog 90 2 = some (rc_hearsayref_SetService, [4, 5]) := by kernel_rfl
/-- hearsay/catalog.order -/
def rc_catalog_order : RCode :=
  .seq (.reg [⟨(some 2), none, .box 56 9 (.tmp 0)⟩,
     ⟨(some 3), none, .box 56 9 (.tmp 1)⟩,
     ⟨(some 4), none, .mv (.const (.int .i64 0))⟩])
  (.seq (.dreg [[⟨(some 5), none, .fldA 0 (.tmp 2)⟩,
      ⟨(some 6), none, .load false 1 (.tmp 5)⟩,
      ⟨(some 7), none, .fldA 0 (.tmp 3)⟩,
      ⟨(some 8), none, .load false 1 (.tmp 7)⟩,
      ⟨(some 9), none, .call (.func 103) [(.tmp 6), (.tmp 8)]⟩,
      ⟨(some 10), none, .fldA 1 (.tmp 2)⟩,
      ⟨(some 11), none, .load false 1 (.tmp 10)⟩,
      ⟨(some 12), none, .fldA 1 (.tmp 3)⟩,
      ⟨(some 13), none, .load false 1 (.tmp 12)⟩],
     [⟨(some 14), none, .call (.func 103) [(.tmp 11), (.tmp 13)]⟩],
     [⟨(some 15), none, .mks 3 1 2 [(.int .i64 0)] [(0, (.tmp 9)), (1, (.tmp 14))]⟩],
     [⟨(some 16), none, .call (.func 95) [(.tmp 15)]⟩],
     [⟨(some 4), none, .mv (.tmp 16)⟩]])
  (.ret))
theorem ck_catalog_order : chkFun Try.prog 91 2 = some (rc_catalog_order, [4]) := by kernel_rfl
/-- hearsay/catalog.compare -/
def rc_catalog_compare : RCode :=
  .seq (.reg [⟨(some 2), none, .box 56 9 (.tmp 0)⟩,
     ⟨(some 3), none, .box 56 9 (.tmp 1)⟩,
     ⟨(some 4), none, .mv (.const (.int .i64 0))⟩])
  (.seq (.dreg [[⟨(some 5), none, .fldA 7 (.tmp 2)⟩,
      ⟨(some 6), none, .load false 1 (.tmp 5)⟩,
      ⟨(some 7), none, .fldA 7 (.tmp 3)⟩,
      ⟨(some 8), none, .load false 1 (.tmp 7)⟩,
      ⟨(some 9), none, .call (.func 96) [(.tmp 6), (.tmp 8)]⟩,
      ⟨(some 10), none, .fldA 8 (.tmp 2)⟩,
      ⟨(some 11), none, .load false 1 (.tmp 10)⟩,
      ⟨(some 12), none, .call (.func 125) [(.tmp 11)]⟩,
      ⟨(some 13), none, .fldA 8 (.tmp 3)⟩,
      ⟨(some 14), none, .load false 1 (.tmp 13)⟩,
      ⟨(some 15), none, .call (.func 125) [(.tmp 14)]⟩,
      ⟨(some 16), none, .call (.func 96) [(.tmp 12), (.tmp 15)]⟩,
      ⟨(some 17), none, .fldA 2 (.tmp 2)⟩,
      ⟨(some 18), none, .load false 1 (.tmp 17)⟩,
      ⟨(some 19), none, .fldA 2 (.tmp 3)⟩,
      ⟨(some 20), none, .load false 1 (.tmp 19)⟩,
      ⟨(some 21), none, .call (.func 103) [(.tmp 18), (.tmp 20)]⟩,
      ⟨(some 22), none, .fldA 3 (.tmp 2)⟩,
      ⟨(some 23), none, .load false 1 (.tmp 22)⟩,
      ⟨(some 24), none, .fldA 3 (.tmp 3)⟩,
      ⟨(some 25), none, .load false 1 (.tmp 24)⟩,
      ⟨(some 26), none, .call (.func 103) [(.tmp 23), (.tmp 25)]⟩,
      ⟨(some 27), none, .fldA 4 (.tmp 2)⟩,
      ⟨(some 28), none, .load false 1 (.tmp 27)⟩,
      ⟨(some 29), none, .fldA 4 (.tmp 3)⟩,
      ⟨(some 30), none, .load false 1 (.tmp 29)⟩,
      ⟨(some 31), none, .call (.func 96) [(.tmp 28), (.tmp 30)]⟩,
      ⟨(some 32), none, .fldA 5 (.tmp 2)⟩,
      ⟨(some 33), none, .load false 1 (.tmp 32)⟩,
      ⟨(some 34), none, .fldA 5 (.tmp 3)⟩,
      ⟨(some 35), none, .load false 1 (.tmp 34)⟩,
      ⟨(some 36), none, .call (.func 96) [(.tmp 33), (.tmp 35)]⟩,
      ⟨(some 37), none, .fldA 6 (.tmp 2)⟩,
      ⟨(some 38), none, .load false 1 (.tmp 37)⟩,
      ⟨(some 39), none, .call (.func 125) [(.tmp 38)]⟩,
      ⟨(some 40), none, .fldA 6 (.tmp 3)⟩,
      ⟨(some 41), none, .load false 1 (.tmp 40)⟩],
     [⟨(some 42), none, .call (.func 125) [(.tmp 41)]⟩],
     [⟨(some 43), none, .call (.func 96) [(.tmp 39), (.tmp 42)]⟩],
     [⟨(some 44), none, .mks 3 1 7 [(.int .i64 0)] [(0, (.tmp 9)), (1, (.tmp 16)), (2, (.tmp 21)), (3, (.tmp 26)), (4, (.tmp 31)), (5, (.tmp 36)), (6, (.tmp 43))]⟩],
     [⟨(some 45), none, .call (.func 95) [(.tmp 44)]⟩],
     [⟨(some 4), none, .mv (.tmp 45)⟩]])
  (.ret))
theorem ck_catalog_compare : chkFun Try.prog 92 2 = some (rc_catalog_compare, [4]) := by kernel_rfl
/-- cmp.Or(int) -/
def rc_cmp_Or_int : RCode :=
  .seq (.reg [⟨(some 2), none, .mv (.const (.int .i64 0))⟩])
  (.seq (.reg [⟨(some 3), none, .mv (.const (.int .i64 0))⟩])
  (.seq (.seq (.reg [⟨(some 6), none, .mv (.tmp 0)⟩,
      ⟨(some 7), none, .len false (.tmp 6)⟩,
      ⟨(some 8), none, .mv (.const (.int .i64 0))⟩])
   (.block 0
    (.loop
     (.seq (.reg [⟨(some 9), none, .bin .lss (.tmp 8) (.tmp 7)⟩])
     (.seq (.cond (.tmp 9)
       (.skip)
       (.exit 0))
     (.seq (.block 1
       (.seq (.reg [⟨(some 10), none, .idxA 1 (.tmp 6) (.tmp 8)⟩,
          ⟨(some 11), none, .load false 1 (.tmp 10)⟩,
          ⟨(some 5), none, .mv (.tmp 11)⟩])
       (.seq (.reg [⟨(some 12), none, .mv (.tmp 5)⟩,
          ⟨(some 13), none, .mv (.tmp 3)⟩,
          ⟨(some 14), none, .bin .neq (.tmp 12) (.tmp 13)⟩])
       (.cond (.tmp 14)
        (.seq (.reg [⟨(some 15), none, .mv (.tmp 5)⟩,
            ⟨(some 2), none, .mv (.tmp 15)⟩])
         (.ret))
        (.skip)))))
     (.reg [⟨(some 16), none, .bin .add (.tmp 8) (.const (.int .i64 1))⟩,
       ⟨(some 8), none, .mv (.tmp 16)⟩])))))))
  (.seq (.reg [⟨(some 17), none, .mv (.tmp 3)⟩,
     ⟨(some 2), none, .mv (.tmp 17)⟩])
  (.ret))))
theorem ck_cmp_Or_int : chkFun Try.prog 95 1 = some (rc_cmp_Or_int, [2]) := by kernel_rfl
/-- cmp.Compare(int) -/
def rc_cmp_Compare_int : RCode :=
  .seq (.reg [⟨(some 4), none, .mv (.const (.int .i64 0))⟩])
  (.seq (.reg [⟨(some 7), none, .mv (.tmp 0)⟩,
     ⟨(some 8), none, .call (.func 128) [(.tmp 7)]⟩,
     ⟨(some 5), none, .mv (.tmp 8)⟩])
  (.seq (.reg [⟨(some 9), none, .mv (.tmp 1)⟩,
     ⟨(some 10), none, .call (.func 128) [(.tmp 9)]⟩,
     ⟨(some 6), none, .mv (.tmp 10)⟩])
  (.seq (.seq (.reg [⟨(some 11), none, .mv (.tmp 5)⟩])
   (.cond (.tmp 11)
    (.seq (.seq (.reg [⟨(some 12), none, .mv (.tmp 6)⟩])
      (.cond (.tmp 12)
       (.seq (.reg [⟨(some 4), none, .mv (.const (.int .i64 0))⟩])
        (.ret))
       (.skip)))
     (.seq (.reg [⟨(some 4), none, .mv (.const (.int .i64 (-1)))⟩])
     (.ret)))
    (.skip)))
  (.seq (.seq (.reg [⟨(some 13), none, .mv (.tmp 6)⟩])
   (.cond (.tmp 13)
    (.seq (.reg [⟨(some 4), none, .mv (.const (.int .i64 1))⟩])
     (.ret))
    (.skip)))
  (.seq (.seq (.reg [⟨(some 14), none, .mv (.tmp 0)⟩,
      ⟨(some 15), none, .mv (.tmp 1)⟩,
      ⟨(some 16), none, .bin .lss (.tmp 14) (.tmp 15)⟩])
   (.cond (.tmp 16)
    (.seq (.reg [⟨(some 4), none, .mv (.const (.int .i64 (-1)))⟩])
     (.ret))
    (.skip)))
  (.seq (.seq (.reg [⟨(some 17), none, .mv (.tmp 0)⟩,
      ⟨(some 18), none, .mv (.tmp 1)⟩,
      ⟨(some 19), none, .bin .gtr (.tmp 17) (.tmp 18)⟩])
   (.cond (.tmp 19)
    (.seq (.reg [⟨(some 4), none, .mv (.const (.int .i64 1))⟩])
     (.ret))
    (.skip)))
  (.seq (.reg [⟨(some 4), none, .mv (.const (.int .i64 0))⟩])
  (.ret))))))))
theorem ck_cmp_Compare_int : chkFun Try.prog 96 2 = some (rc_cmp_Compare_int, [4]) := by kernel_rfl
/-- hearsay/hearsayref.PutService -/
def rc_hearsayref_PutService : RCode :=
  .seq (.reg [⟨(some 3), none, .box 56 9 (.tmp 1)⟩,
     ⟨(some 4), none, .mv (.const (.slice none 0 0))⟩])
  (.seq (.reg [⟨(some 5), none, .mv (.const (.slice none 0 0))⟩])
  (.seq (.reg [⟨(some 6), none, .mv (.const (.bool false))⟩])
  (.seq (.seq (.reg [⟨(some 7), none, .mv (.const (.int .i64 0))⟩])
   (.block 0
    (.loop
     (.seq (.seq (.reg [⟨(some 8), none, .mv (.tmp 7)⟩,
         ⟨(some 9), none, .mv (.tmp 0)⟩,
         ⟨(some 10), none, .len false (.tmp 9)⟩,
         ⟨(some 11), none, .bin .lss (.tmp 8) (.tmp 10)⟩])
      (.cond (.tmp 11)
       (.skip)
       (.exit 0)))
     (.seq (.block 1
       (.seq (.seq (.dreg [[⟨(some 14), none, .mv (.tmp 6)⟩],
           [⟨(some 15), none, .not (.tmp 14)⟩],
           [⟨(some 16), none, .mv (.tmp 15)⟩],
           [⟨(some 17), (some (16, true)), .mv (.tmp 0)⟩,
            ⟨(some 18), (some (16, true)), .mv (.tmp 7)⟩,
            ⟨(some 19), (some (16, true)), .idxA 9 (.tmp 17) (.tmp 18)⟩,
            ⟨(some 20), (some (16, true)), .load true 9 (.tmp 19)⟩,
            ⟨(some 21), (some (16, true)), .load true 9 (.tmp 3)⟩],
           [⟨(some 22), (some (16, true)), .call (.func 86) [(.tmp 20), (.tmp 21)]⟩],
           [⟨(some 23), (some (16, true)), .not (.tmp 22)⟩],
           [⟨(some 24), none, .pick (.tmp 16) (.tmp 23) (.const (.bool false))⟩]])
        (.cond (.tmp 24)
         (.seq (.reg [⟨(some 25), none, .mv (.tmp 5)⟩,
             ⟨(some 26), none, .load true 9 (.tmp 3)⟩,
             ⟨(some 27), none, .mks 56 9 1 [(.string ⟨#[]⟩), (.string ⟨#[]⟩), (.string ⟨#[]⟩), (.string ⟨#[]⟩), (.int .i64 0), (.int .i64 0), (.bool false), (.int .i64 0), (.bool false)] [(0, (.tmp 26))]⟩,
             ⟨(some 28), none, .app 56 9 104 (.agg #[(.string ⟨#[]⟩), (.string ⟨#[]⟩), (.string ⟨#[]⟩), (.string ⟨#[]⟩), (.int .i64 0), (.int .i64 0), (.bool false), (.int .i64 0), (.bool false)]) (.tmp 25) (.tmp 27)⟩,
             ⟨(some 5), none, .mv (.tmp 28)⟩])
          (.reg [⟨(some 6), none, .mv (.const (.bool true))⟩]))
         (.skip)))
       (.seq (.dreg [[⟨(some 29), none, .mv (.tmp 0)⟩,
           ⟨(some 30), none, .mv (.tmp 7)⟩,
           ⟨(some 31), none, .idxA 9 (.tmp 29) (.tmp 30)⟩,
           ⟨(some 32), none, .fldA 0 (.tmp 31)⟩,
           ⟨(some 33), none, .load false 1 (.tmp 32)⟩,
           ⟨(some 34), none, .fldA 0 (.tmp 3)⟩,
           ⟨(some 35), none, .load false 1 (.tmp 34)⟩],
          [⟨(some 36), none, .bin .neq (.tmp 33) (.tmp 35)⟩],
          [⟨(some 37), none, .mv (.tmp 36)⟩],
          [⟨(some 38), (some (37, false)), .mv (.tmp 0)⟩,
           ⟨(some 39), (some (37, false)), .mv (.tmp 7)⟩,
           ⟨(some 40), (some (37, false)), .idxA 9 (.tmp 38) (.tmp 39)⟩,
           ⟨(some 41), (some (37, false)), .fldA 1 (.tmp 40)⟩,
           ⟨(some 42), (some (37, false)), .load false 1 (.tmp 41)⟩,
           ⟨(some 43), (some (37, false)), .fldA 1 (.tmp 3)⟩,
           ⟨(some 44), (some (37, false)), .load false 1 (.tmp 43)⟩],
          [⟨(some 45), (some (37, false)), .bin .neq (.tmp 42) (.tmp 44)⟩],
          [⟨(some 46), none, .pick (.tmp 37) (.const (.bool true)) (.tmp 45)⟩]])
       (.cond (.tmp 46)
        (.reg [⟨(some 47), none, .mv (.tmp 5)⟩,
           ⟨(some 48), none, .mv (.tmp 0)⟩,
           ⟨(some 49), none, .mv (.tmp 7)⟩,
           ⟨(some 50), none, .idxA 9 (.tmp 48) (.tmp 49)⟩,
           ⟨(some 51), none, .load true 9 (.tmp 50)⟩,
           ⟨(some 52), none, .mks 56 9 1 [(.string ⟨#[]⟩), (.string ⟨#[]⟩), (.string ⟨#[]⟩), (.string ⟨#[]⟩), (.int .i64 0), (.int .i64 0), (.bool false), (.int .i64 0), (.bool false)] [(0, (.tmp 51))]⟩,
           ⟨(some 53), none, .app 56 9 104 (.agg #[(.string ⟨#[]⟩), (.string ⟨#[]⟩), (.string ⟨#[]⟩), (.string ⟨#[]⟩), (.int .i64 0), (.int .i64 0), (.bool false), (.int .i64 0), (.bool false)]) (.tmp 47) (.tmp 52)⟩,
           ⟨(some 5), none, .mv (.tmp 53)⟩])
        (.skip)))))
     (.reg [⟨(some 12), none, .mv (.tmp 7)⟩,
       ⟨(some 13), none, .bin .add (.tmp 12) (.const (.int .i64 1))⟩,
       ⟨(some 7), none, .mv (.tmp 13)⟩]))))))
  (.seq (.seq (.reg [⟨(some 54), none, .mv (.tmp 6)⟩,
      ⟨(some 55), none, .not (.tmp 54)⟩])
   (.cond (.tmp 55)
    (.reg [⟨(some 56), none, .mv (.tmp 5)⟩,
       ⟨(some 57), none, .load true 9 (.tmp 3)⟩,
       ⟨(some 58), none, .mks 56 9 1 [(.string ⟨#[]⟩), (.string ⟨#[]⟩), (.string ⟨#[]⟩), (.string ⟨#[]⟩), (.int .i64 0), (.int .i64 0), (.bool false), (.int .i64 0), (.bool false)] [(0, (.tmp 57))]⟩,
       ⟨(some 59), none, .app 56 9 104 (.agg #[(.string ⟨#[]⟩), (.string ⟨#[]⟩), (.string ⟨#[]⟩), (.string ⟨#[]⟩), (.int .i64 0), (.int .i64 0), (.bool false), (.int .i64 0), (.bool false)]) (.tmp 56) (.tmp 58)⟩,
       ⟨(some 5), none, .mv (.tmp 59)⟩])
    (.skip)))
  (.seq (.reg [⟨(some 60), none, .mv (.tmp 5)⟩,
     ⟨(some 4), none, .mv (.tmp 60)⟩])
  (.ret))))))
theorem ck_hearsayref_PutService : chkFun Try.prog 99 2 = some (rc_hearsayref_PutService, [4]) := by kernel_rfl
/-- cmp.Compare(string) -/
def rc_cmp_Compare_string : RCode :=
  .seq (.reg [⟨(some 4), none, .mv (.const (.int .i64 0))⟩])
  (.seq (.reg [⟨(some 7), none, .mv (.tmp 0)⟩,
     ⟨(some 8), none, .call (.func 133) [(.tmp 7)]⟩,
     ⟨(some 5), none, .mv (.tmp 8)⟩])
  (.seq (.reg [⟨(some 9), none, .mv (.tmp 1)⟩,
     ⟨(some 10), none, .call (.func 133) [(.tmp 9)]⟩,
     ⟨(some 6), none, .mv (.tmp 10)⟩])
  (.seq (.seq (.reg [⟨(some 11), none, .mv (.tmp 5)⟩])
   (.cond (.tmp 11)
    (.seq (.seq (.reg [⟨(some 12), none, .mv (.tmp 6)⟩])
      (.cond (.tmp 12)
       (.seq (.reg [⟨(some 4), none, .mv (.const (.int .i64 0))⟩])
        (.ret))
       (.skip)))
     (.seq (.reg [⟨(some 4), none, .mv (.const (.int .i64 (-1)))⟩])
     (.ret)))
    (.skip)))
  (.seq (.seq (.reg [⟨(some 13), none, .mv (.tmp 6)⟩])
   (.cond (.tmp 13)
    (.seq (.reg [⟨(some 4), none, .mv (.const (.int .i64 1))⟩])
     (.ret))
    (.skip)))
  (.seq (.seq (.reg [⟨(some 14), none, .mv (.tmp 0)⟩,
      ⟨(some 15), none, .mv (.tmp 1)⟩,
      ⟨(some 16), none, .bin .lss (.tmp 14) (.tmp 15)⟩])
   (.cond (.tmp 16)
    (.seq (.reg [⟨(some 4), none, .mv (.const (.int .i64 (-1)))⟩])
     (.ret))
    (.skip)))
  (.seq (.seq (.reg [⟨(some 17), none, .mv (.tmp 0)⟩,
      ⟨(some 18), none, .mv (.tmp 1)⟩,
      ⟨(some 19), none, .bin .gtr (.tmp 17) (.tmp 18)⟩])
   (.cond (.tmp 19)
    (.seq (.reg [⟨(some 4), none, .mv (.const (.int .i64 1))⟩])
     (.ret))
    (.skip)))
  (.seq (.reg [⟨(some 4), none, .mv (.const (.int .i64 0))⟩])
  (.ret))))))))
theorem ck_cmp_Compare_string : chkFun Try.prog 103 2 = some (rc_cmp_Compare_string, [4]) := by kernel_rfl
/-- hearsay/catalog.within -/
def rc_catalog_within : RCode :=
  .seq (.reg [⟨(some 6), none, .mv (.const (.bool false))⟩])
  (.seq (.reg [⟨(some 7), none, .mv (.tmp 0)⟩,
     ⟨(some 8), none, .mv (.tmp 1)⟩,
     ⟨(some 9), none, .bin .geq (.tmp 7) (.tmp 8)⟩,
     ⟨(some 10), none, .mv (.tmp 9)⟩,
     ⟨(some 11), (some (10, true)), .mv (.tmp 0)⟩,
     ⟨(some 12), (some (10, true)), .mv (.tmp 2)⟩,
     ⟨(some 13), (some (10, true)), .bin .leq (.tmp 11) (.tmp 12)⟩,
     ⟨(some 14), none, .pick (.tmp 10) (.tmp 13) (.const (.bool false))⟩,
     ⟨(some 6), none, .mv (.tmp 14)⟩])
  (.ret))
theorem ck_catalog_within : chkFun Try.prog 123 3 = some (rc_catalog_within, [6]) := by kernel_rfl
/-- slices.BinarySearchFunc(()hearsay/api.Service,hearsay/api.Service,hearsay/api.Service) -/
def rc_slices_BinarySearchFunc_api_Service_api_Service_api_Service : RCode :=
  .seq (.reg [⟨(some 4), none, .box 56 9 (.tmp 1)⟩,
     ⟨(some 6), none, .mv (.const (.int .i64 0))⟩,
     ⟨(some 7), none, .mv (.const (.bool false))⟩])
  (.seq (.reg [⟨(some 12), none, .mv (.tmp 0)⟩,
     ⟨(some 13), none, .len false (.tmp 12)⟩,
     ⟨(some 8), none, .mv (.tmp 13)⟩])
  (.seq (.reg [⟨(some 14), none, .mv (.tmp 8)⟩,
     ⟨(some 9), none, .mv (.const (.int .i64 0))⟩,
     ⟨(some 10), none, .mv (.tmp 14)⟩])
  (.seq (.block 0
    (.loop
     (.seq (.seq (.reg [⟨(some 15), none, .mv (.tmp 9)⟩,
         ⟨(some 16), none, .mv (.tmp 10)⟩,
         ⟨(some 17), none, .bin .lss (.tmp 15) (.tmp 16)⟩])
      (.cond (.tmp 17)
       (.skip)
       (.exit 0)))
     (.block 1
      (.seq (.reg [⟨(some 18), none, .mv (.tmp 9)⟩,
         ⟨(some 19), none, .mv (.tmp 10)⟩,
         ⟨(some 20), none, .bin .add (.tmp 18) (.tmp 19)⟩,
         ⟨(some 21), none, .conv .u64 (.tmp 20)⟩,
         ⟨(some 22), none, .bin .shr (.tmp 21) (.const (.int .u64 1))⟩,
         ⟨(some 23), none, .conv .i64 (.tmp 22)⟩,
         ⟨(some 11), none, .mv (.tmp 23)⟩])
      (.seq (.dreg [[⟨(some 24), none, .mv (.tmp 2)⟩,
          ⟨(some 25), none, .mv (.tmp 0)⟩,
          ⟨(some 26), none, .mv (.tmp 11)⟩,
          ⟨(some 27), none, .idxA 9 (.tmp 25) (.tmp 26)⟩,
          ⟨(some 28), none, .load true 9 (.tmp 27)⟩,
          ⟨(some 29), none, .load true 9 (.tmp 4)⟩],
         [⟨(some 30), none, .call (.tmp 24) [(.tmp 28), (.tmp 29)]⟩],
         [⟨(some 31), none, .bin .lss (.tmp 30) (.const (.int .i64 0))⟩]])
      (.cond (.tmp 31)
       (.reg [⟨(some 32), none, .mv (.tmp 11)⟩,
          ⟨(some 33), none, .bin .add (.tmp 32) (.const (.int .i64 1))⟩,
          ⟨(some 9), none, .mv (.tmp 33)⟩])
       (.reg [⟨(some 34), none, .mv (.tmp 11)⟩,
          ⟨(some 10), none, .mv (.tmp 34)⟩]))))))))
  (.seq (.dreg [[⟨(some 35), none, .mv (.tmp 9)⟩,
      ⟨(some 36), none, .mv (.tmp 9)⟩,
      ⟨(some 37), none, .mv (.tmp 8)⟩,
      ⟨(some 38), none, .bin .lss (.tmp 36) (.tmp 37)⟩,
      ⟨(some 39), none, .mv (.tmp 38)⟩,
      ⟨(some 40), (some (39, true)), .mv (.tmp 2)⟩,
      ⟨(some 41), (some (39, true)), .mv (.tmp 0)⟩,
      ⟨(some 42), (some (39, true)), .mv (.tmp 9)⟩,
      ⟨(some 43), (some (39, true)), .idxA 9 (.tmp 41) (.tmp 42)⟩,
      ⟨(some 44), (some (39, true)), .load true 9 (.tmp 43)⟩,
      ⟨(some 45), (some (39, true)), .load true 9 (.tmp 4)⟩,
      ⟨(some 46), (some (39, true)), .call (.tmp 40) [(.tmp 44), (.tmp 45)]⟩,
      ⟨(some 47), (some (39, true)), .bin .eql (.tmp 46) (.const (.int .i64 0))⟩,
      ⟨(some 48), none, .pick (.tmp 39) (.tmp 47) (.const (.bool false))⟩,
      ⟨(some 6), none, .mv (.tmp 35)⟩],
     [⟨(some 7), none, .mv (.tmp 48)⟩]])
  (.ret)))))
theorem ck_slices_BinarySearchFunc_api_Service_api_Service_api_Service : chkFun Try.prog 124 3 = some (rc_slices_BinarySearchFunc_api_Service_api_Service_api_Service, [6, 7]) := by kernel_rfl
/-- hearsay/catalog.number -/
def rc_catalog_number : RCode :=
  .seq (.reg [⟨(some 2), none, .mv (.const (.int .i64 0))⟩])
  (.seq (.seq (.reg [⟨(some 3), none, .mv (.tmp 0)⟩])
   (.cond (.tmp 3)
    (.seq (.reg [⟨(some 2), none, .mv (.const (.int .i64 1))⟩])
     (.ret))
    (.skip)))
  (.seq (.reg [⟨(some 2), none, .mv (.const (.int .i64 0))⟩])
  (.ret)))
theorem ck_catalog_number : chkFun Try.prog 125 1 = some (rc_catalog_number, [2]) := by kernel_rfl
/-- cmp.isNaN(int) -/
def rc_cmp_isNaN_int : RCode :=
  .seq (.reg [⟨(some 2), none, .mv (.const (.bool false))⟩])
  (.seq (.reg [⟨(some 3), none, .mv (.tmp 0)⟩,
     ⟨(some 4), none, .mv (.tmp 0)⟩,
     ⟨(some 5), none, .bin .neq (.tmp 3) (.tmp 4)⟩,
     ⟨(some 2), none, .mv (.tmp 5)⟩])
  (.ret))
theorem ck_cmp_isNaN_int : chkFun Try.prog 128 1 = some (rc_cmp_isNaN_int, [2]) := by kernel_rfl
/-- cmp.isNaN(string) -/
def rc_cmp_isNaN_string : RCode :=
  .seq (.reg [⟨(some 2), none, .mv (.const (.bool false))⟩])
  (.seq (.reg [⟨(some 3), none, .mv (.tmp 0)⟩,
     ⟨(some 4), none, .mv (.tmp 0)⟩,
     ⟨(some 5), none, .bin .neq (.tmp 3) (.tmp 4)⟩,
     ⟨(some 2), none, .mv (.tmp 5)⟩])
  (.ret))
theorem ck_cmp_isNaN_string : chkFun Try.prog 133 1 = some (rc_cmp_isNaN_string, [2]) := by kernel_rfl

end Go.Proofs.Ytckkeeicngblgaa
