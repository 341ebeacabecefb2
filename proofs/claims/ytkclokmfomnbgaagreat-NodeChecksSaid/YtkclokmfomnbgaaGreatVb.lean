/- Texts of this claim, joined. -/
import Derived.Test.YtkclokmfomnbgaaGreatProg
import Derived.Test.YtkclokmfomnbgaaGreatVAbsQ
import Derived.KernelRfl
import Derived.Laws.CopyRow
import Derived.Laws.CopyOwn
import Derived.Deep.RegionLaw
import Derived.Lib.AppendZerosOnto
import Derived.Lib.Overlaps
import Derived.Laws.Externs
import Derived.OwnWalk
import Derived.Maps.AppendAt
import Derived.Deep.AppendLies
import Derived.Test.YtkclokmfomnbgaaGreatRows
import Derived.Lib.Walk
import Derived.Lib.SliceRun
import Derived.Lib.JoinLaws
import Derived.Lib.AppendZeros
import Derived.WalkSpells
import Derived.Test.YtkclokmfomnbgaaGreatVa
namespace Go.Proofs.YtkclokmfomnbgaaGreat
set_option linter.unusedVariables false
def rc_hearsaylaw_NodeChecks : RCode :=
 .seq (.reg [Rq 1 (.box 30 12 (Tq 0)),
 Rq 2 (.mv (.const (.bool false)))])
 (.seq (.dreg [[Rq 3 (.call (.func 15) [])],
 [Rq 4 (.mv (Tq 3))],
 [⟨(some 5), (some (4, true)), .load true 12 (Tq 1)⟩,
 ⟨(some 6), (some (4, true)), .call (.func 17) [(Tq 5)]⟩,
 ⟨(some 7), (some (4, true)), .load true 12 (Tq 1)⟩],
 [⟨(some 8), (some (4, true)), .call (.func 18) [(Tq 7)]⟩],
 [⟨(some 9), (some (4, true)), .bin .eql (Tq 6) (Tq 8)⟩],
 [Rq 10 (.pick (Tq 4) (Tq 9) (.const (.bool false)))],
 [Rq 2 (.mv (Tq 10))]])
 (.ret))
theorem ck_hearsaylaw_NodeChecks : chkFun Tryz.prog 4 1 = some (rc_hearsaylaw_NodeChecks, [2]) := by kernel_rfl
def rc_node_New : RCode :=
 .seq (.reg [Rq 8 (.zbox 30 [(.string ⟨#[]⟩), (.string ⟨#[]⟩), (.slice none 0 0), (.slice none 0 0), (.slice none 0 0), (.slice none 0 0), (.int .i64 0), (.int .i64 0), (.int .i64 0), (.int .i64 0), (.int .i64 0), (.slice none 0 0)]),
 Rq 9 (.mv (.const (.int .i64 0)))])
 (.seq (.reg [Rq 12 (.mv (Tq 0)),
 Rq 13 (.mv (Tq 1)),
 Rq 14 (.build [(.int .i64 0), (.int .i64 0), (.int .i64 0), (.int .i64 0), (.int .i64 0)] [(4, 1, (.const (.int .i64 1000)))]),
 Rq 15 (.build [(.string ⟨#[]⟩), (.string ⟨#[]⟩), (.slice none 0 0), (.slice none 0 0), (.slice none 0 0), (.slice none 0 0), (.int .i64 0), (.int .i64 0), (.int .i64 0), (.int .i64 0), (.int .i64 0), (.slice none 0 0)] [(0, 1, (Tq 12)), (1, 1, (Tq 13)), (6, 5, (Tq 14))]),
 Rq 10 (.zbox 30 [(.string ⟨#[]⟩), (.string ⟨#[]⟩), (.slice none 0 0), (.slice none 0 0), (.slice none 0 0), (.slice none 0 0), (.int .i64 0), (.int .i64 0), (.int .i64 0), (.int .i64 0), (.int .i64 0), (.slice none 0 0)]),
 ⟨none, none, .store 12 (Tq 10) (Tq 15)⟩])
 (.seq (.reg [Rq 16 (.mv (Tq 0)),
 Rq 17 (.mv (Tq 2)),
 Rq 18 (.mv (Tq 3)),
 Rq 19 (.build [(.string ⟨#[]⟩), (.int .i64 0), (.int .i64 0), (.int .i64 0), (.bool false)] [(0, 1, (Tq 16)), (1, 1, (.const (.int .i64 1))), (2, 1, (.const (.int .i64 1))), (3, 1, (Tq 17)), (4, 1, (Tq 18))]),
 Rq 20 (.mks 37 5 1 [(.string ⟨#[]⟩), (.int .i64 0), (.int .i64 0), (.int .i64 0), (.bool false)] [(0, (Tq 19))]),
 Rq 21 (.fldA 2 (Tq 10)),
 ⟨none, none, .store 1 (Tq 21) (Tq 20)⟩])
 (.seq (.seq (.reg [Rq 22 (.load true 12 (Tq 10)),
 Rq 23 (.call (.func 17) [(Tq 22)]),
 Rq 11 (.mv (Tq 23))])
 (.seq (.reg [Rq 24 (.mv (Tq 11)),
 Rq 25 (.bin .neq (Tq 24) (.const (.int .i64 0)))])
 (.cond (Tq 25)
 (.seq (.reg [Rq 26 (.build [(.string ⟨#[]⟩), (.string ⟨#[]⟩), (.slice none 0 0), (.slice none 0 0), (.slice none 0 0), (.slice none 0 0), (.int .i64 0), (.int .i64 0), (.int .i64 0), (.int .i64 0), (.int .i64 0), (.slice none 0 0)] []),
 Rq 27 (.mv (Tq 11)),
 ⟨none, none, .store 12 (Tq 8) (Tq 26)⟩,
 Rq 9 (.mv (Tq 27))])
 (.ret))
 (.skip))))
 (.seq (.reg [Rq 28 (.load true 12 (Tq 10)),
 ⟨none, none, .store 12 (Tq 8) (Tq 28)⟩,
 Rq 9 (.mv (.const (.int .i64 0)))])
 (.ret)))))
theorem ck_node_New : chkFunC Tryz.prog 12 4 = some (rc_node_New, [(8, some (true, 12)), (9, none)]) := by kernel_rfl
def rc_hearsaylaw_nodeBegun : RCode :=
 .seq (.reg [Rq 0 (.mv (.const (.bool false)))])
 (.seq (.reg [Rq 13 (.call (.func 12) [(.const (.string ⟨#[97]⟩)), (.const (.string ⟨#[99]⟩)), (.const (.int .i64 1)), (.const (.bool false))]),
 Rq 12 (.mv (Tq 13)),
 Rq 14 (.ext (Tq 12) 0),
 Rq 15 (.ext (Tq 12) 1),
 Rq 1 (.zbox 30 [(.string ⟨#[]⟩), (.string ⟨#[]⟩), (.slice none 0 0), (.slice none 0 0), (.slice none 0 0), (.slice none 0 0), (.int .i64 0), (.int .i64 0), (.int .i64 0), (.int .i64 0), (.int .i64 0), (.slice none 0 0)]),
 ⟨none, none, .store 12 (Tq 1) (Tq 14)⟩,
 Rq 2 (.mv (Tq 15))])
 (.seq (.reg [Rq 17 (.call (.func 12) [(.const (.string ⟨#[98]⟩)), (.const (.string ⟨#[99]⟩)), (.const (.int .i64 2)), (.const (.bool true))]),
 Rq 16 (.mv (Tq 17)),
 Rq 18 (.ext (Tq 16) 0),
 Rq 19 (.ext (Tq 16) 1),
 Rq 3 (.zbox 30 [(.string ⟨#[]⟩), (.string ⟨#[]⟩), (.slice none 0 0), (.slice none 0 0), (.slice none 0 0), (.slice none 0 0), (.int .i64 0), (.int .i64 0), (.int .i64 0), (.int .i64 0), (.int .i64 0), (.slice none 0 0)]),
 ⟨none, none, .store 12 (Tq 3) (Tq 18)⟩,
 Rq 4 (.mv (Tq 19))])
 (.seq (.reg [Rq 21 (.load true 12 (Tq 3)),
 Rq 22 (.call (.func 20) [(Tq 21)]),
 Rq 20 (.mv (Tq 22)),
 Rq 23 (.ext (Tq 20) 0),
 Rq 24 (.ext (Tq 20) 1),
 Rq 5 (.zbox 44 [(.string ⟨#[]⟩), (.bool false), (.slice none 0 0), (.slice none 0 0), (.slice none 0 0), (.slice none 0 0)]),
 ⟨none, none, .store 6 (Tq 5) (Tq 23)⟩,
 Rq 6 (.mv (Tq 24))])
 (.seq (.reg [Rq 26 (.load true 12 (Tq 1)),
 Rq 27 (.load true 6 (Tq 5)),
 Rq 28 (.call (.func 24) [(Tq 26), (Tq 27)]),
 Rq 25 (.mv (Tq 28)),
 Rq 29 (.ext (Tq 25) 0),
 Rq 30 (.ext (Tq 25) 1),
 ⟨none, none, .store 12 (Tq 1) (Tq 29)⟩,
 Rq 7 (.mv (Tq 30))])
 (.seq (.reg [Rq 32 (.load true 12 (Tq 1)),
 Rq 33 (.call (.func 28) [(Tq 32), (.const (.string ⟨#[98]⟩))]),
 Rq 31 (.mv (Tq 33)),
 Rq 34 (.ext (Tq 31) 0),
 Rq 35 (.ext (Tq 31) 1),
 ⟨none, none, .store 12 (Tq 1) (Tq 34)⟩,
 Rq 8 (.mv (Tq 35))])
 (.seq (.reg [Rq 37 (.load true 12 (Tq 1)),
 Rq 38 (.call (.func 19) [(Tq 37)]),
 Rq 36 (.mv (Tq 38)),
 Rq 39 (.ext (Tq 36) 0),
 Rq 40 (.ext (Tq 36) 1),
 Rq 41 (.ext (Tq 36) 2),
 Rq 9 (.zbox 30 [(.string ⟨#[]⟩), (.string ⟨#[]⟩), (.slice none 0 0), (.slice none 0 0), (.slice none 0 0), (.slice none 0 0), (.int .i64 0), (.int .i64 0), (.int .i64 0), (.int .i64 0), (.int .i64 0), (.slice none 0 0)]),
 Rq 10 (.zbox 44 [(.string ⟨#[]⟩), (.bool false), (.slice none 0 0), (.slice none 0 0), (.slice none 0 0), (.slice none 0 0)]),
 ⟨none, none, .store 12 (Tq 9) (Tq 39)⟩,
 ⟨none, none, .store 6 (Tq 10) (Tq 40)⟩,
 Rq 11 (.mv (Tq 41))])
 (.seq (.reg [Rq 42 (.mv (Tq 2)),
 Rq 43 (.bin .eql (Tq 42) (.const (.int .i64 0))),
 Rq 44 (.mv (Tq 43)),
 ⟨(some 45), (some (44, true)), .mv (Tq 4)⟩,
 ⟨(some 46), (some (44, true)), .bin .eql (Tq 45) (.const (.int .i64 0))⟩,
 Rq 47 (.pick (Tq 44) (Tq 46) (.const (.bool false))),
 Rq 48 (.mv (Tq 47)),
 ⟨(some 49), (some (48, true)), .mv (Tq 6)⟩,
 ⟨(some 50), (some (48, true)), .bin .eql (Tq 49) (.const (.int .i64 0))⟩,
 Rq 51 (.pick (Tq 48) (Tq 50) (.const (.bool false))),
 Rq 52 (.mv (Tq 51)),
 ⟨(some 53), (some (52, true)), .mv (Tq 7)⟩,
 ⟨(some 54), (some (52, true)), .bin .eql (Tq 53) (.const (.int .i64 0))⟩,
 Rq 55 (.pick (Tq 52) (Tq 54) (.const (.bool false))),
 Rq 56 (.mv (Tq 55)),
 ⟨(some 57), (some (56, true)), .mv (Tq 8)⟩,
 ⟨(some 58), (some (56, true)), .bin .eql (Tq 57) (.const (.int .i64 0))⟩,
 Rq 59 (.pick (Tq 56) (Tq 58) (.const (.bool false))),
 Rq 60 (.mv (Tq 59)),
 ⟨(some 61), (some (60, true)), .mv (Tq 11)⟩,
 ⟨(some 62), (some (60, true)), .bin .eql (Tq 61) (.const (.int .i64 0))⟩,
 Rq 63 (.pick (Tq 60) (Tq 62) (.const (.bool false))),
 Rq 64 (.mv (Tq 63)),
 ⟨(some 65), (some (64, true)), .fldA 2 (Tq 1)⟩,
 ⟨(some 66), (some (64, true)), .load false 1 (Tq 65)⟩,
 ⟨(some 67), (some (64, true)), .len false (Tq 66)⟩,
 ⟨(some 68), (some (64, true)), .bin .eql (Tq 67) (.const (.int .i64 2))⟩,
 Rq 69 (.pick (Tq 64) (Tq 68) (.const (.bool false))),
 Rq 70 (.mv (Tq 69)),
 ⟨(some 71), (some (70, true)), .fldA 2 (Tq 10)⟩,
 ⟨(some 72), (some (70, true)), .load false 1 (Tq 71)⟩,
 ⟨(some 73), (some (70, true)), .len false (Tq 72)⟩,
 ⟨(some 74), (some (70, true)), .bin .eql (Tq 73) (.const (.int .i64 1))⟩,
 Rq 75 (.pick (Tq 70) (Tq 74) (.const (.bool false))),
 Rq 76 (.mv (Tq 75)),
 ⟨(some 77), (some (76, true)), .fldA 2 (Tq 10)⟩,
 ⟨(some 78), (some (76, true)), .load false 1 (Tq 77)⟩,
 ⟨(some 79), (some (76, true)), .idxA 5 (Tq 78) (.const (.int .i64 0))⟩,
 ⟨(some 80), (some (76, true)), .fldA 1 (Tq 79)⟩,
 ⟨(some 81), (some (76, true)), .load false 1 (Tq 80)⟩,
 ⟨(some 82), (some (76, true)), .bin .eql (Tq 81) (.const (.int .i64 2))⟩,
 Rq 83 (.pick (Tq 76) (Tq 82) (.const (.bool false))),
 Rq 0 (.mv (Tq 83))])
 (.ret))))))))
theorem ck_hearsaylaw_nodeBegun : chkFun Tryz.prog 15 0 = some (rc_hearsaylaw_nodeBegun, [0]) := by kernel_rfl
def rc_node_Check : RCode :=
 .seq (.reg [Rq 1 (.box 30 12 (Tq 0)),
 Rq 2 (.mv (.const (.int .i64 0)))])
 (.seq (.seq (.reg [Rq 7 (.fldA 0 (Tq 1)),
 Rq 8 (.load false 1 (Tq 7)),
 Rq 9 (.call (.func 42) [(Tq 8)]),
 Rq 10 (.not (Tq 9)),
 Rq 11 (.mv (Tq 10)),
 ⟨(some 12), (some (11, false)), .fldA 1 (Tq 1)⟩,
 ⟨(some 13), (some (11, false)), .load false 1 (Tq 12)⟩,
 ⟨(some 14), (some (11, false)), .call (.func 42) [(Tq 13)]⟩,
 ⟨(some 15), (some (11, false)), .not (Tq 14)⟩,
 Rq 16 (.pick (Tq 11) (.const (.bool true)) (Tq 15))])
 (.cond (Tq 16)
 (.seq (.reg [Rq 2 (.mv (.const (.int .i64 1)))])
 (.ret))
 (.skip)))
 (.seq (.seq (.dreg [[Rq 17 (.fldA 2 (Tq 1)),
 Rq 18 (.load false 1 (Tq 17)),
 Rq 19 (.call (.func 43) [(Tq 18)]),
 Rq 20 (.fldA 3 (Tq 1)),
 Rq 21 (.load false 1 (Tq 20)),
 Rq 22 (.call (.func 44) [(Tq 21)]),
 Rq 23 (.fldA 4 (Tq 1)),
 Rq 24 (.load false 1 (Tq 23)),
 Rq 25 (.call (.func 45) [(Tq 24)]),
 Rq 26 (.fldA 5 (Tq 1)),
 Rq 27 (.load false 1 (Tq 26)),
 Rq 28 (.call (.func 46) [(Tq 27)]),
 Rq 29 (.fldA 6 (Tq 1)),
 Rq 30 (.load true 5 (Tq 29)),
 Rq 31 (.call (.func 47) [(Tq 30)]),
 Rq 32 (.fldA 11 (Tq 1)),
 Rq 33 (.load false 1 (Tq 32)),
 Rq 34 (.call (.func 48) [(Tq 33)]),
 Rq 35 (.mks 31 1 6 [(.int .i64 0)] [(0, (Tq 19)), (1, (Tq 22)), (2, (Tq 25)), (3, (Tq 28)), (4, (Tq 31)), (5, (Tq 34))]),
 Rq 36 (.len false (Tq 35)),
 Rq 37 (.mv (.const (.int .i64 0)))]])
 (.block 0
 (.loop
 (.seq (.reg [Rq 38 (.bin .lss (Tq 37) (Tq 36))])
 (.seq (.cond (Tq 38)
 (.skip)
 (.exit 0))
 (.seq (.block 1
 (.seq (.reg [Rq 39 (.idxA 1 (Tq 35) (Tq 37)),
 Rq 40 (.load false 1 (Tq 39)),
 Rq 4 (.mv (Tq 40))])
 (.seq (.reg [Rq 41 (.mv (Tq 4)),
 Rq 42 (.bin .neq (Tq 41) (.const (.int .i64 0)))])
 (.cond (Tq 42)
 (.seq (.reg [Rq 43 (.mv (Tq 4)),
 Rq 2 (.mv (Tq 43))])
 (.ret))
 (.skip)))))
 (.reg [Rq 44 (.bin .add (Tq 37) (.const (.int .i64 1))),
 Rq 37 (.mv (Tq 44))])))))))
 (.seq (.reg [Rq 46 (.fldA 2 (Tq 1)),
 Rq 47 (.load false 1 (Tq 46)),
 Rq 48 (.fldA 0 (Tq 1)),
 Rq 49 (.load false 1 (Tq 48)),
 Rq 50 (.call (.func 49) [(Tq 47), (Tq 49)]),
 Rq 45 (.mv (Tq 50)),
 Rq 51 (.ext (Tq 45) 0),
 Rq 52 (.ext (Tq 45) 1),
 Rq 5 (.mv (Tq 51)),
 Rq 6 (.mv (Tq 52))])
 (.seq (.block 2
 (.seq (.reg [Rq 54 (.mv (Tq 6)),
 Rq 55 (.not (Tq 54)),
 Rq 53 (.mv (Tq 55))])
 (.cond (Tq 53)
 (.seq (.reg [Rq 2 (.mv (.const (.int .i64 5)))])
 (.ret))
 (.seq (.seq (.reg [Rq 57 (.fldA 2 (Tq 1)),
 Rq 58 (.load false 1 (Tq 57)),
 Rq 59 (.mv (Tq 5)),
 Rq 60 (.idxA 5 (Tq 58) (Tq 59)),
 Rq 61 (.fldA 1 (Tq 60)),
 Rq 62 (.load false 1 (Tq 61)),
 Rq 63 (.bin .eql (Tq 62) (.const (.int .i64 2))),
 Rq 64 (.mv (Tq 63)),
 ⟨(some 65), (some (64, false)), .fldA 2 (Tq 1)⟩,
 ⟨(some 66), (some (64, false)), .load false 1 (Tq 65)⟩,
 ⟨(some 67), (some (64, false)), .mv (Tq 5)⟩,
 ⟨(some 68), (some (64, false)), .idxA 5 (Tq 66) (Tq 67)⟩,
 ⟨(some 69), (some (64, false)), .fldA 1 (Tq 68)⟩,
 ⟨(some 70), (some (64, false)), .load false 1 (Tq 69)⟩,
 ⟨(some 71), (some (64, false)), .bin .eql (Tq 70) (.const (.int .i64 3))⟩,
 Rq 72 (.pick (Tq 64) (.const (.bool true)) (Tq 71)),
 Rq 56 (.mv (Tq 72))])
 (.cond (Tq 56)
 (.skip)
 (.reg [Rq 73 (.load true 12 (Tq 1)),
 Rq 74 (.call (.func 50) [(Tq 73)]),
 Rq 75 (.not (Tq 74)),
 Rq 56 (.mv (Tq 75))])))
 (.cond (Tq 56)
 (.seq (.reg [Rq 2 (.mv (.const (.int .i64 4)))])
 (.ret))
 (.skip))))))
 (.seq (.reg [Rq 2 (.mv (.const (.int .i64 0)))])
 (.ret))))))
theorem ck_node_Check : chkFun Tryz.prog 17 1 = some (rc_node_Check, [2]) := by kernel_rfl
def rc_hearsayref_CheckNode : RCode :=
 .seq (.reg [Rq 1 (.box 30 12 (Tq 0)),
 Rq 2 (.mv (.const (.int .i64 0)))])
 (.seq (.seq (.reg [Rq 8 (.fldA 0 (Tq 1)),
 Rq 9 (.load false 1 (Tq 8)),
 Rq 10 (.call (.func 13) [(Tq 9)]),
 Rq 11 (.not (Tq 10)),
 Rq 12 (.mv (Tq 11)),
 ⟨(some 13), (some (12, false)), .fldA 1 (Tq 1)⟩,
 ⟨(some 14), (some (12, false)), .load false 1 (Tq 13)⟩,
 ⟨(some 15), (some (12, false)), .call (.func 13) [(Tq 14)]⟩,
 ⟨(some 16), (some (12, false)), .not (Tq 15)⟩,
 Rq 17 (.pick (Tq 12) (.const (.bool true)) (Tq 16))])
 (.cond (Tq 17)
 (.seq (.reg [Rq 2 (.mv (.const (.int .i64 1)))])
 (.ret))
 (.skip)))
 (.seq (.reg [Rq 18 (.fldA 2 (Tq 1)),
 Rq 19 (.load false 1 (Tq 18)),
 Rq 20 (.call (.func 51) [(Tq 19)]),
 Rq 3 (.mv (Tq 20))])
 (.seq (.seq (.reg [Rq 21 (.mv (Tq 3)),
 Rq 22 (.bin .eql (Tq 21) (.const (.int .i64 0)))])
 (.cond (Tq 22)
 (.reg [Rq 23 (.fldA 3 (Tq 1)),
 Rq 24 (.load false 1 (Tq 23)),
 Rq 25 (.call (.func 52) [(Tq 24)]),
 Rq 3 (.mv (Tq 25))])
 (.skip)))
 (.seq (.seq (.reg [Rq 26 (.mv (Tq 3)),
 Rq 27 (.bin .eql (Tq 26) (.const (.int .i64 0)))])
 (.cond (Tq 27)
 (.reg [Rq 28 (.fldA 4 (Tq 1)),
 Rq 29 (.load false 1 (Tq 28)),
 Rq 30 (.call (.func 53) [(Tq 29)]),
 Rq 3 (.mv (Tq 30))])
 (.skip)))
 (.seq (.seq (.reg [Rq 31 (.mv (Tq 3)),
 Rq 32 (.bin .eql (Tq 31) (.const (.int .i64 0)))])
 (.cond (Tq 32)
 (.reg [Rq 33 (.fldA 5 (Tq 1)),
 Rq 34 (.load false 1 (Tq 33)),
 Rq 35 (.call (.func 54) [(Tq 34)]),
 Rq 3 (.mv (Tq 35))])
 (.skip)))
 (.seq (.seq (.reg [Rq 36 (.mv (Tq 3)),
 Rq 37 (.bin .eql (Tq 36) (.const (.int .i64 0)))])
 (.cond (Tq 37)
 (.reg [Rq 38 (.fldA 6 (Tq 1)),
 Rq 39 (.load true 5 (Tq 38)),
 Rq 40 (.call (.func 55) [(Tq 39)]),
 Rq 3 (.mv (Tq 40))])
 (.skip)))
 (.seq (.seq (.reg [Rq 41 (.mv (Tq 3)),
 Rq 42 (.bin .eql (Tq 41) (.const (.int .i64 0)))])
 (.cond (Tq 42)
 (.reg [Rq 43 (.fldA 11 (Tq 1)),
 Rq 44 (.load false 1 (Tq 43)),
 Rq 45 (.call (.func 56) [(Tq 44)]),
 Rq 3 (.mv (Tq 45))])
 (.skip)))
 (.seq (.seq (.reg [Rq 46 (.mv (Tq 3)),
 Rq 47 (.bin .neq (Tq 46) (.const (.int .i64 0)))])
 (.cond (Tq 47)
 (.seq (.reg [Rq 48 (.mv (Tq 3)),
 Rq 2 (.mv (Tq 48))])
 (.ret))
 (.skip)))
 (.seq (.reg [Rq 49 (.fldA 2 (Tq 1)),
 Rq 50 (.load false 1 (Tq 49)),
 Rq 51 (.fldA 0 (Tq 1)),
 Rq 52 (.load false 1 (Tq 51)),
 Rq 53 (.call (.func 57) [(Tq 50), (Tq 52)]),
 Rq 4 (.mv (Tq 53))])
 (.seq (.seq (.reg [Rq 54 (.mv (Tq 4)),
 Rq 55 (.bin .lss (Tq 54) (.const (.int .i64 0)))])
 (.cond (Tq 55)
 (.seq (.reg [Rq 2 (.mv (.const (.int .i64 5)))])
 (.ret))
 (.skip)))
 (.seq (.seq (.reg [Rq 56 (.fldA 2 (Tq 1)),
 Rq 57 (.load false 1 (Tq 56)),
 Rq 58 (.mv (Tq 4)),
 Rq 59 (.idxA 5 (Tq 57) (Tq 58)),
 Rq 60 (.fldA 1 (Tq 59)),
 Rq 61 (.load false 1 (Tq 60)),
 Rq 62 (.bin .eql (Tq 61) (.const (.int .i64 2))),
 Rq 63 (.mv (Tq 62)),
 ⟨(some 64), (some (63, false)), .fldA 2 (Tq 1)⟩,
 ⟨(some 65), (some (63, false)), .load false 1 (Tq 64)⟩,
 ⟨(some 66), (some (63, false)), .mv (Tq 4)⟩,
 ⟨(some 67), (some (63, false)), .idxA 5 (Tq 65) (Tq 66)⟩,
 ⟨(some 68), (some (63, false)), .fldA 1 (Tq 67)⟩,
 ⟨(some 69), (some (63, false)), .load false 1 (Tq 68)⟩,
 ⟨(some 70), (some (63, false)), .bin .eql (Tq 69) (.const (.int .i64 3))⟩,
 Rq 71 (.pick (Tq 63) (.const (.bool true)) (Tq 70))])
 (.cond (Tq 71)
 (.seq (.reg [Rq 2 (.mv (.const (.int .i64 4)))])
 (.ret))
 (.skip)))
 (.seq (.seq (.reg [Rq 5 (.mv (.const (.int .i64 0)))])
 (.block 0
 (.loop
 (.seq (.seq (.reg [Rq 72 (.mv (Tq 5)),
 Rq 73 (.fldA 3 (Tq 1)),
 Rq 74 (.load false 1 (Tq 73)),
 Rq 75 (.len false (Tq 74)),
 Rq 76 (.bin .lss (Tq 72) (Tq 75))])
 (.cond (Tq 76)
 (.skip)
 (.exit 0)))
 (.seq (.block 1
 (.seq (.reg [Rq 79 (.fldA 3 (Tq 1)),
 Rq 80 (.load false 1 (Tq 79)),
 Rq 81 (.mv (Tq 5)),
 Rq 82 (.idxA 6 (Tq 80) (Tq 81)),
 Rq 83 (.fldA 0 (Tq 82)),
 Rq 84 (.load true 5 (Tq 83)),
 Rq 6 (.zbox 37 [(.string ⟨#[]⟩), (.int .i64 0), (.int .i64 0), (.int .i64 0), (.bool false)]),
 ⟨none, none, .store 5 (Tq 6) (Tq 84)⟩])
 (.seq (.reg [Rq 85 (.fldA 2 (Tq 1)),
 Rq 86 (.load false 1 (Tq 85)),
 Rq 87 (.fldA 0 (Tq 6)),
 Rq 88 (.load false 1 (Tq 87)),
 Rq 89 (.call (.func 57) [(Tq 86), (Tq 88)]),
 Rq 7 (.mv (Tq 89))])
 (.seq (.dreg [[Rq 90 (.mv (Tq 7))],
 [Rq 91 (.bin .lss (Tq 90) (.const (.int .i64 0)))],
 [Rq 92 (.mv (Tq 91))],
 [⟨(some 93), (some (92, false)), .load true 5 (Tq 6)⟩,
 ⟨(some 94), (some (92, false)), .fldA 2 (Tq 1)⟩,
 ⟨(some 95), (some (92, false)), .load false 1 (Tq 94)⟩,
 ⟨(some 96), (some (92, false)), .mv (Tq 7)⟩,
 ⟨(some 97), (some (92, false)), .idxA 5 (Tq 95) (Tq 96)⟩,
 ⟨(some 98), (some (92, false)), .load true 5 (Tq 97)⟩],
 [⟨(some 99), (some (92, false)), .call (.func 58) [(Tq 93), (Tq 98)]⟩],
 [Rq 100 (.pick (Tq 92) (.const (.bool true)) (Tq 99))]])
 (.cond (Tq 100)
 (.seq (.reg [Rq 2 (.mv (.const (.int .i64 4)))])
 (.ret))
 (.skip))))))
 (.reg [Rq 77 (.mv (Tq 5)),
 Rq 78 (.bin .add (Tq 77) (.const (.int .i64 1))),
 Rq 5 (.mv (Tq 78))]))))))
 (.seq (.reg [Rq 2 (.mv (.const (.int .i64 0)))])
 (.ret))))))))))))))
theorem ck_hearsayref_CheckNode : chkFun Tryz.prog 18 1 = some (rc_hearsayref_CheckNode, [2]) := by kernel_rfl
def rc_node_Tell : RCode :=
 .seq (.reg [Rq 1 (.box 30 12 (Tq 0)),
 Rq 2 (.zbox 30 [(.string ⟨#[]⟩), (.string ⟨#[]⟩), (.slice none 0 0), (.slice none 0 0), (.slice none 0 0), (.slice none 0 0), (.int .i64 0), (.int .i64 0), (.int .i64 0), (.int .i64 0), (.int .i64 0), (.slice none 0 0)]),
 Rq 3 (.zbox 44 [(.string ⟨#[]⟩), (.bool false), (.slice none 0 0), (.slice none 0 0), (.slice none 0 0), (.slice none 0 0)]),
 Rq 4 (.mv (.const (.int .i64 0)))])
 (.seq (.reg [Rq 14 (.load true 12 (Tq 1)),
 Rq 15 (.call (.func 59) [(Tq 14)]),
 Rq 13 (.mv (Tq 15)),
 Rq 16 (.ext (Tq 13) 0),
 Rq 17 (.ext (Tq 13) 1),
 Rq 5 (.mv (Tq 16)),
 Rq 6 (.mv (Tq 17))])
 (.seq (.seq (.reg [Rq 18 (.mv (Tq 6)),
 Rq 19 (.bin .neq (Tq 18) (.const (.int .i64 0)))])
 (.cond (Tq 19)
 (.seq (.reg [Rq 20 (.build [(.string ⟨#[]⟩), (.string ⟨#[]⟩), (.slice none 0 0), (.slice none 0 0), (.slice none 0 0), (.slice none 0 0), (.int .i64 0), (.int .i64 0), (.int .i64 0), (.int .i64 0), (.int .i64 0), (.slice none 0 0)] []),
 Rq 21 (.build [(.string ⟨#[]⟩), (.bool false), (.slice none 0 0), (.slice none 0 0), (.slice none 0 0), (.slice none 0 0)] []),
 Rq 22 (.mv (Tq 6)),
 ⟨none, none, .store 12 (Tq 2) (Tq 20)⟩,
 ⟨none, none, .store 6 (Tq 3) (Tq 21)⟩,
 Rq 4 (.mv (Tq 22))])
 (.ret))
 (.skip)))
 (.seq (.reg [Rq 24 (.mv (Tq 5)),
 Rq 25 (.fldA 0 (Tq 24)),
 Rq 26 (.fldA 0 (Tq 25)),
 Rq 27 (.fldA 2 (Tq 26)),
 Rq 28 (.load false 1 (Tq 27)),
 Rq 29 (.call (.func 60) [(Tq 28)]),
 Rq 23 (.mv (Tq 29)),
 Rq 30 (.ext (Tq 23) 0),
 Rq 31 (.ext (Tq 23) 1),
 Rq 7 (.mv (Tq 30)),
 Rq 8 (.mv (Tq 31))])
 (.seq (.reg [Rq 33 (.mv (Tq 7)),
 Rq 34 (.len false (Tq 33)),
 Rq 35 (.call (.func 61) [(Tq 34)]),
 Rq 32 (.mv (Tq 35)),
 Rq 36 (.ext (Tq 32) 0),
 Rq 37 (.ext (Tq 32) 1),
 Rq 9 (.mv (Tq 36)),
 Rq 10 (.mv (Tq 37))])
 (.seq (.reg [Rq 39 (.mv (Tq 5)),
 Rq 40 (.fldA 0 (Tq 39)),
 Rq 41 (.fldA 0 (Tq 40)),
 Rq 42 (.fldA 3 (Tq 41)),
 Rq 43 (.load false 1 (Tq 42)),
 Rq 44 (.mv (Tq 9)),
 Rq 45 (.mm true (.const (.int .i64 1)) (Tq 44)),
 Rq 46 (.call (.func 62) [(Tq 43), (.const (.int .i64 5)), (Tq 45)]),
 Rq 38 (.mv (Tq 46)),
 Rq 47 (.ext (Tq 38) 0),
 Rq 48 (.ext (Tq 38) 1),
 Rq 49 (.ext (Tq 38) 2),
 Rq 11 (.mv (Tq 47)),
 Rq 12 (.mv (Tq 48)),
 Rq 6 (.mv (Tq 49))])
 (.seq (.seq (.reg [Rq 50 (.mv (Tq 6)),
 Rq 51 (.bin .neq (Tq 50) (.const (.int .i64 0)))])
 (.cond (Tq 51)
 (.seq (.reg [Rq 52 (.build [(.string ⟨#[]⟩), (.string ⟨#[]⟩), (.slice none 0 0), (.slice none 0 0), (.slice none 0 0), (.slice none 0 0), (.int .i64 0), (.int .i64 0), (.int .i64 0), (.int .i64 0), (.int .i64 0), (.slice none 0 0)] []),
 Rq 53 (.build [(.string ⟨#[]⟩), (.bool false), (.slice none 0 0), (.slice none 0 0), (.slice none 0 0), (.slice none 0 0)] []),
 Rq 54 (.mv (Tq 6)),
 ⟨none, none, .store 12 (Tq 2) (Tq 52)⟩,
 ⟨none, none, .store 6 (Tq 3) (Tq 53)⟩,
 Rq 4 (.mv (Tq 54))])
 (.ret))
 (.skip)))
 (.seq (.reg [Rq 55 (.mv (Tq 5)),
 Rq 56 (.mv (Tq 12)),
 Rq 57 (.fldA 0 (Tq 55)),
 Rq 58 (.fldA 0 (Tq 57)),
 Rq 59 (.fldA 3 (Tq 58)),
 ⟨none, none, .store 1 (Tq 59) (Tq 56)⟩])
 (.seq (.reg [Rq 60 (.mv (Tq 11)),
 Rq 61 (.call (.func 63) [(Tq 60), (.func 64)])])
 (.seq (.dreg [[],
 [Rq 66 (.mkm),
 Rq 67 (.mkm),
 Rq 68 (.mkm),
 Rq 69 (.mkm),
 Rq 70 (.mkm),
 Rq 71 (.mkm),
 Rq 72 (.mkm)],
 [Rq 62 (.mv (Tq 5)),
 Rq 63 (.fldA 0 (Tq 62)),
 Rq 64 (.fldA 0 (Tq 63)),
 Rq 65 (.load true 12 (Tq 64)),
 Rq 66 (.mv (Tq 5)),
 Rq 67 (.fldA 0 (Tq 66)),
 Rq 68 (.fldA 0 (Tq 67)),
 Rq 69 (.fldA 0 (Tq 68)),
 Rq 70 (.load false 1 (Tq 69)),
 Rq 71 (.mv (Tq 11)),
 Rq 72 (.build [(.string ⟨#[]⟩), (.bool false), (.slice none 0 0), (.slice none 0 0), (.slice none 0 0), (.slice none 0 0)] [(0, 1, (Tq 70)), (2, 1, (Tq 71))]),
 ⟨none, none, .store 12 (Tq 2) (Tq 65)⟩],
 [⟨none, none, .store 6 (Tq 3) (Tq 72)⟩],
 [Rq 4 (.mv (.const (.int .i64 0)))]])
 (.ret))))))))))
theorem ck_node_Tell : chkFunC Tryz.prog 19 1 = some (rc_node_Tell, [(2, some (true, 12)), (3, some (true, 6)), (4, none)]) := by kernel_rfl
def rc_node_Whole : RCode :=
 .seq (.reg [Rq 1 (.box 30 12 (Tq 0)),
 Rq 2 (.zbox 44 [(.string ⟨#[]⟩), (.bool false), (.slice none 0 0), (.slice none 0 0), (.slice none 0 0), (.slice none 0 0)]),
 Rq 3 (.mv (.const (.int .i64 0)))])
 (.seq (.reg [Rq 7 (.load true 12 (Tq 1)),
 Rq 8 (.call (.func 59) [(Tq 7)]),
 Rq 6 (.mv (Tq 8)),
 Rq 9 (.ext (Tq 6) 0),
 Rq 10 (.ext (Tq 6) 1),
 Rq 4 (.mv (Tq 9)),
 Rq 5 (.mv (Tq 10))])
 (.seq (.seq (.reg [Rq 11 (.mv (Tq 5)),
 Rq 12 (.bin .neq (Tq 11) (.const (.int .i64 0)))])
 (.cond (Tq 12)
 (.seq (.reg [Rq 13 (.build [(.string ⟨#[]⟩), (.bool false), (.slice none 0 0), (.slice none 0 0), (.slice none 0 0), (.slice none 0 0)] []),
 Rq 14 (.mv (Tq 5)),
 ⟨none, none, .store 6 (Tq 2) (Tq 13)⟩,
 Rq 3 (.mv (Tq 14))])
 (.ret))
 (.skip)))
 (.seq (.dreg [[Rq 15 (.mv (Tq 4)),
 Rq 16 (.fldA 0 (Tq 15)),
 Rq 17 (.fldA 0 (Tq 16)),
 Rq 18 (.fldA 0 (Tq 17)),
 Rq 19 (.load false 1 (Tq 18)),
 Rq 20 (.mv (Tq 4)),
 Rq 21 (.fldA 0 (Tq 20)),
 Rq 22 (.fldA 0 (Tq 21)),
 Rq 23 (.fldA 2 (Tq 22)),
 Rq 24 (.load false 1 (Tq 23)),
 Rq 25 (.mv (Tq 4)),
 Rq 26 (.fldA 0 (Tq 25)),
 Rq 27 (.fldA 0 (Tq 26)),
 Rq 28 (.fldA 4 (Tq 27)),
 Rq 29 (.load false 1 (Tq 28)),
 Rq 30 (.mv (Tq 4)),
 Rq 31 (.fldA 0 (Tq 30)),
 Rq 32 (.fldA 0 (Tq 31)),
 Rq 33 (.fldA 5 (Tq 32)),
 Rq 34 (.load false 1 (Tq 33)),
 Rq 35 (.mv (Tq 4)),
 Rq 36 (.fldA 0 (Tq 35)),
 Rq 37 (.fldA 0 (Tq 36)),
 Rq 38 (.fldA 11 (Tq 37)),
 Rq 39 (.load false 1 (Tq 38))],
 [Rq 40 (.build [(.string ⟨#[]⟩), (.bool false), (.slice none 0 0), (.slice none 0 0), (.slice none 0 0), (.slice none 0 0)] [(0, 1, (Tq 19)), (1, 1, (.const (.bool true))), (2, 1, (Tq 24)), (3, 1, (Tq 29)), (4, 1, (Tq 34)), (5, 1, (Tq 39))])],
 [⟨none, none, .store 6 (Tq 2) (Tq 40)⟩],
 [Rq 3 (.mv (.const (.int .i64 0)))]])
 (.ret))))
theorem ck_node_Whole : chkFunC Tryz.prog 20 1 = some (rc_node_Whole, [(2, some (true, 6)), (3, none)]) := by kernel_rfl
def rc_node_Hear : RCode :=
 .seq (.reg [Rq 2 (.box 30 12 (Tq 0)),
 Rq 3 (.box 44 6 (Tq 1)),
 Rq 4 (.zbox 30 [(.string ⟨#[]⟩), (.string ⟨#[]⟩), (.slice none 0 0), (.slice none 0 0), (.slice none 0 0), (.slice none 0 0), (.int .i64 0), (.int .i64 0), (.int .i64 0), (.int .i64 0), (.int .i64 0), (.slice none 0 0)]),
 Rq 5 (.mv (.const (.int .i64 0)))])
 (.seq (.reg [Rq 16 (.load true 12 (Tq 2)),
 Rq 17 (.call (.func 59) [(Tq 16)]),
 Rq 15 (.mv (Tq 17)),
 Rq 18 (.ext (Tq 15) 0),
 Rq 19 (.ext (Tq 15) 1),
 Rq 6 (.mv (Tq 18)),
 Rq 7 (.mv (Tq 19))])
 (.seq (.seq (.reg [Rq 20 (.mv (Tq 7)),
 Rq 21 (.bin .eql (Tq 20) (.const (.int .i64 0)))])
 (.cond (Tq 21)
 (.reg [Rq 22 (.load true 6 (Tq 3)),
 Rq 23 (.call (.func 74) [(Tq 22)]),
 Rq 7 (.mv (Tq 23))])
 (.skip)))
 (.seq (.seq (.reg [Rq 24 (.mv (Tq 7)),
 Rq 25 (.bin .neq (Tq 24) (.const (.int .i64 0)))])
 (.cond (Tq 25)
 (.seq (.reg [Rq 26 (.build [(.string ⟨#[]⟩), (.string ⟨#[]⟩), (.slice none 0 0), (.slice none 0 0), (.slice none 0 0), (.slice none 0 0), (.int .i64 0), (.int .i64 0), (.int .i64 0), (.int .i64 0), (.int .i64 0), (.slice none 0 0)] []),
 Rq 27 (.mv (Tq 7)),
 ⟨none, none, .store 12 (Tq 4) (Tq 26)⟩,
 Rq 5 (.mv (Tq 27))])
 (.ret))
 (.skip)))
 (.seq (.seq (.reg [Rq 28 (.fldA 2 (Tq 3)),
 Rq 29 (.load false 1 (Tq 28)),
 Rq 30 (.len false (Tq 29)),
 Rq 31 (.mv (.const (.int .i64 0)))])
 (.block 0
 (.loop
 (.seq (.reg [Rq 32 (.bin .lss (Tq 31) (Tq 30))])
 (.seq (.cond (Tq 32)
 (.skip)
 (.exit 0))
 (.seq (.block 1
 (.seq (.reg [Rq 33 (.idxA 5 (Tq 29) (Tq 31)),
 Rq 34 (.load true 5 (Tq 33)),
 Rq 9 (.zbox 37 [(.string ⟨#[]⟩), (.int .i64 0), (.int .i64 0), (.int .i64 0), (.bool false)]),
 ⟨none, none, .store 5 (Tq 9) (Tq 34)⟩])
 (.seq (.reg [Rq 35 (.mv (Tq 6)),
 Rq 36 (.load true 5 (Tq 9)),
 Rq 37 (.call (.func 75) [(Tq 35), (Tq 36)]),
 Rq 10 (.mv (Tq 37))])
 (.seq (.reg [Rq 38 (.mv (Tq 10)),
 Rq 39 (.bin .neq (Tq 38) (.const (.int .i64 0)))])
 (.cond (Tq 39)
 (.seq (.reg [Rq 40 (.build [(.string ⟨#[]⟩), (.string ⟨#[]⟩), (.slice none 0 0), (.slice none 0 0), (.slice none 0 0), (.slice none 0 0), (.int .i64 0), (.int .i64 0), (.int .i64 0), (.int .i64 0), (.int .i64 0), (.slice none 0 0)] []),
 Rq 41 (.mv (Tq 10)),
 ⟨none, none, .store 12 (Tq 4) (Tq 40)⟩,
 Rq 5 (.mv (Tq 41))])
 (.ret))
 (.skip))))))
 (.reg [Rq 42 (.bin .add (Tq 31) (.const (.int .i64 1))),
 Rq 31 (.mv (Tq 42))])))))))
 (.seq (.seq (.dreg [[],
 [Rq 54 (.mkm)],
 [Rq 44 (.mv (Tq 6)),
 Rq 45 (.mv (Tq 6)),
 Rq 46 (.fldA 0 (Tq 45)),
 Rq 47 (.fldA 0 (Tq 46)),
 Rq 48 (.fldA 4 (Tq 47)),
 Rq 49 (.load false 1 (Tq 48)),
 Rq 50 (.fldA 3 (Tq 3)),
 Rq 51 (.load false 1 (Tq 50)),
 Rq 52 (.call (.func 76) [(Tq 49), (Tq 51)]),
 Rq 43 (.mv (Tq 52)),
 Rq 53 (.ext (Tq 43) 0),
 Rq 54 (.ext (Tq 43) 1),
 Rq 55 (.fldA 0 (Tq 44)),
 Rq 56 (.fldA 0 (Tq 55)),
 Rq 57 (.fldA 4 (Tq 56)),
 ⟨none, none, .store 1 (Tq 57) (Tq 53)⟩],
 [Rq 7 (.mv (Tq 54))]])
 (.seq (.reg [Rq 58 (.mv (Tq 7)),
 Rq 59 (.bin .neq (Tq 58) (.const (.int .i64 0)))])
 (.cond (Tq 59)
 (.seq (.reg [Rq 60 (.build [(.string ⟨#[]⟩), (.string ⟨#[]⟩), (.slice none 0 0), (.slice none 0 0), (.slice none 0 0), (.slice none 0 0), (.int .i64 0), (.int .i64 0), (.int .i64 0), (.int .i64 0), (.int .i64 0), (.slice none 0 0)] []),
 Rq 61 (.mv (Tq 7)),
 ⟨none, none, .store 12 (Tq 4) (Tq 60)⟩,
 Rq 5 (.mv (Tq 61))])
 (.ret))
 (.skip))))
 (.seq (.seq (.dreg [[],
 [Rq 73 (.mkm)],
 [Rq 63 (.mv (Tq 6)),
 Rq 64 (.mv (Tq 6)),
 Rq 65 (.fldA 0 (Tq 64)),
 Rq 66 (.fldA 0 (Tq 65)),
 Rq 67 (.fldA 5 (Tq 66)),
 Rq 68 (.load false 1 (Tq 67)),
 Rq 69 (.fldA 4 (Tq 3)),
 Rq 70 (.load false 1 (Tq 69)),
 Rq 71 (.call (.func 77) [(Tq 68), (Tq 70)]),
 Rq 62 (.mv (Tq 71)),
 Rq 72 (.ext (Tq 62) 0),
 Rq 73 (.ext (Tq 62) 1),
 Rq 74 (.fldA 0 (Tq 63)),
 Rq 75 (.fldA 0 (Tq 74)),
 Rq 76 (.fldA 5 (Tq 75)),
 ⟨none, none, .store 1 (Tq 76) (Tq 72)⟩],
 [Rq 7 (.mv (Tq 73))]])
 (.seq (.reg [Rq 77 (.mv (Tq 7)),
 Rq 78 (.bin .neq (Tq 77) (.const (.int .i64 0)))])
 (.cond (Tq 78)
 (.seq (.reg [Rq 79 (.build [(.string ⟨#[]⟩), (.string ⟨#[]⟩), (.slice none 0 0), (.slice none 0 0), (.slice none 0 0), (.slice none 0 0), (.int .i64 0), (.int .i64 0), (.int .i64 0), (.int .i64 0), (.int .i64 0), (.slice none 0 0)] []),
 Rq 80 (.mv (Tq 7)),
 ⟨none, none, .store 12 (Tq 4) (Tq 79)⟩,
 Rq 5 (.mv (Tq 80))])
 (.ret))
 (.skip))))
 (.seq (.seq (.reg [Rq 81 (.fldA 5 (Tq 3)),
 Rq 82 (.load false 1 (Tq 81)),
 Rq 83 (.len false (Tq 82)),
 Rq 84 (.mv (.const (.int .i64 0)))])
 (.block 2
 (.loop
 (.seq (.reg [Rq 85 (.bin .lss (Tq 84) (Tq 83))])
 (.seq (.cond (Tq 85)
 (.skip)
 (.exit 2))
 (.seq (.block 3
 (.seq (.reg [Rq 86 (.idxA 6 (Tq 82) (Tq 84)),
 Rq 87 (.load true 6 (Tq 86)),
 Rq 12 (.zbox 113 [(.string ⟨#[]⟩), (.int .i64 0), (.int .i64 0), (.int .i64 0), (.int .i64 0), (.int .i64 0)]),
 ⟨none, none, .store 6 (Tq 12) (Tq 87)⟩])
 (.seq (.reg [Rq 89 (.mv (Tq 6)),
 Rq 90 (.fldA 0 (Tq 12)),
 Rq 91 (.load false 1 (Tq 90)),
 Rq 92 (.call (.func 78) [(Tq 89), (Tq 91)]),
 Rq 88 (.mv (Tq 92)),
 Rq 93 (.ext (Tq 88) 0),
 Rq 94 (.ext (Tq 88) 1),
 Rq 13 (.mv (Tq 93)),
 Rq 14 (.mv (Tq 94))])
 (.seq (.reg [Rq 95 (.mv (Tq 14)),
 Rq 96 (.not (Tq 95)),
 Rq 97 (.mv (Tq 96)),
 ⟨(some 98), (some (97, true)), .mv (Tq 6)⟩,
 ⟨(some 99), (some (97, true)), .fldA 0 (Tq 98)⟩,
 ⟨(some 100), (some (97, true)), .fldA 0 (Tq 99)⟩,
 ⟨(some 101), (some (97, true)), .fldA 11 (Tq 100)⟩,
 ⟨(some 102), (some (97, true)), .load false 1 (Tq 101)⟩,
 ⟨(some 103), (some (97, true)), .len false (Tq 102)⟩,
 ⟨(some 104), (some (97, true)), .bin .lss (Tq 103) (.const (.int .i64 20))⟩,
 Rq 105 (.pick (Tq 97) (Tq 104) (.const (.bool false)))])
 (.cond (Tq 105)
 (.dreg [[],
 [Rq 115 (.call (.func 79) [(Tq 111), (Tq 112), (Tq 114)])],
 [Rq 106 (.mv (Tq 6)),
 Rq 107 (.mv (Tq 6)),
 Rq 108 (.fldA 0 (Tq 107)),
 Rq 109 (.fldA 0 (Tq 108)),
 Rq 110 (.fldA 11 (Tq 109)),
 Rq 111 (.load false 1 (Tq 110)),
 Rq 112 (.mv (Tq 13)),
 Rq 113 (.load true 6 (Tq 12)),
 Rq 114 (.mks 113 6 1 [(.string ⟨#[]⟩), (.int .i64 0), (.int .i64 0), (.int .i64 0), (.int .i64 0), (.int .i64 0)] [(0, (Tq 113))])],
 [Rq 116 (.fldA 0 (Tq 106))],
 [Rq 117 (.fldA 0 (Tq 116))],
 [Rq 118 (.fldA 11 (Tq 117))],
 [⟨none, none, .store 1 (Tq 118) (Tq 115)⟩]])
 (.skip))))))
 (.reg [Rq 119 (.bin .add (Tq 84) (.const (.int .i64 1))),
 Rq 84 (.mv (Tq 119))])))))))
 (.seq (.reg [Rq 120 (.mv (Tq 6)),
 Rq 121 (.fldA 0 (Tq 120)),
 Rq 122 (.fldA 0 (Tq 121)),
 Rq 123 (.load true 12 (Tq 122)),
 ⟨none, none, .store 12 (Tq 4) (Tq 123)⟩,
 Rq 5 (.mv (.const (.int .i64 0)))])
 (.ret)))))))))
theorem ck_node_Hear : chkFunC Tryz.prog 24 2 = some (rc_node_Hear, [(4, some (true, 12)), (5, none)]) := by kernel_rfl
def rc_node_Doubt : RCode :=
 .seq (.reg [Rq 2 (.box 30 12 (Tq 0)),
 Rq 4 (.zbox 30 [(.string ⟨#[]⟩), (.string ⟨#[]⟩), (.slice none 0 0), (.slice none 0 0), (.slice none 0 0), (.slice none 0 0), (.int .i64 0), (.int .i64 0), (.int .i64 0), (.int .i64 0), (.int .i64 0), (.slice none 0 0)]),
 Rq 5 (.mv (.const (.int .i64 0)))])
 (.seq (.reg [Rq 6 (.load true 12 (Tq 2)),
 Rq 7 (.mv (Tq 1)),
 Rq 8 (.call (.func 90) [(Tq 6), (Tq 7), (.const (.int .i64 1)), (.const (.int .i64 2))]),
 Rq 9 (.ext (Tq 8) 0),
 Rq 10 (.ext (Tq 8) 1),
 ⟨none, none, .store 12 (Tq 4) (Tq 9)⟩,
 Rq 5 (.mv (Tq 10))])
 (.ret))
theorem ck_node_Doubt : chkFunC Tryz.prog 28 2 = some (rc_node_Doubt, [(4, some (true, 12)), (5, none)]) := by kernel_rfl
def rc_packet_Places : RCode :=
 .seq (.reg [Rq 2 (.mv (.const (.int .i64 0)))])
 (.seq (.seq (.reg [Rq 7 (.mv (Tq 0)),
 Rq 8 (.len false (Tq 7)),
 Rq 9 (.bin .gtr (Tq 8) (.const (.int .i64 20)))])
 (.cond (Tq 9)
 (.seq (.reg [Rq 2 (.mv (.const (.int .i64 2)))])
 (.ret))
 (.skip)))
 (.seq (.seq (.reg [Rq 10 (.mv (Tq 0)),
 Rq 11 (.len false (Tq 10)),
 Rq 12 (.mv (.const (.int .i64 0)))])
 (.block 0
 (.loop
 (.seq (.reg [Rq 13 (.bin .lss (Tq 12) (Tq 11))])
 (.seq (.cond (Tq 13)
 (.skip)
 (.exit 0))
 (.seq (.block 1
 (.seq (.reg [Rq 14 (.idxA 6 (Tq 10) (Tq 12)),
 Rq 15 (.load true 6 (Tq 14)),
 Rq 4 (.zbox 113 [(.string ⟨#[]⟩), (.int .i64 0), (.int .i64 0), (.int .i64 0), (.int .i64 0), (.int .i64 0)]),
 ⟨none, none, .store 6 (Tq 4) (Tq 15)⟩])
 (.seq (.seq (.reg [Rq 16 (.fldA 0 (Tq 4)),
 Rq 17 (.load false 1 (Tq 16)),
 Rq 18 (.call (.func 42) [(Tq 17)]),
 Rq 19 (.not (Tq 18))])
 (.cond (Tq 19)
 (.seq (.reg [Rq 2 (.mv (.const (.int .i64 1)))])
 (.ret))
 (.skip)))
 (.seq (.reg [Rq 20 (.fldA 1 (Tq 4)),
 Rq 21 (.load true 5 (Tq 20)),
 Rq 22 (.call (.func 47) [(Tq 21)]),
 Rq 5 (.mv (Tq 22))])
 (.seq (.reg [Rq 23 (.mv (Tq 5)),
 Rq 24 (.bin .neq (Tq 23) (.const (.int .i64 0)))])
 (.cond (Tq 24)
 (.seq (.reg [Rq 25 (.mv (Tq 5)),
 Rq 2 (.mv (Tq 25))])
 (.ret))
 (.skip)))))))
 (.reg [Rq 26 (.bin .add (Tq 12) (.const (.int .i64 1))),
 Rq 12 (.mv (Tq 26))])))))))
 (.seq (.seq (.reg [Rq 6 (.mv (.const (.int .i64 1)))])
 (.block 2
 (.loop
 (.seq (.seq (.reg [Rq 27 (.mv (Tq 6)),
 Rq 28 (.mv (Tq 0)),
 Rq 29 (.len false (Tq 28)),
 Rq 30 (.bin .lss (Tq 27) (Tq 29))])
 (.cond (Tq 30)
 (.skip)
 (.exit 2)))
 (.seq (.block 3
 (.seq (.dreg [[Rq 33 (.mv (Tq 0)),
 Rq 34 (.mv (Tq 6)),
 Rq 35 (.idxA 6 (Tq 33) (Tq 34)),
 Rq 36 (.fldA 0 (Tq 35)),
 Rq 37 (.load false 1 (Tq 36)),
 Rq 38 (.mv (Tq 0)),
 Rq 39 (.mv (Tq 6)),
 Rq 40 (.bin .sub (Tq 39) (.const (.int .i64 1))),
 Rq 41 (.idxA 6 (Tq 38) (Tq 40)),
 Rq 42 (.fldA 0 (Tq 41)),
 Rq 43 (.load false 1 (Tq 42))],
 [Rq 44 (.bin .leq (Tq 37) (Tq 43))]])
 (.cond (Tq 44)
 (.seq (.reg [Rq 2 (.mv (.const (.int .i64 4)))])
 (.ret))
 (.skip))))
 (.reg [Rq 31 (.mv (Tq 6)),
 Rq 32 (.bin .add (Tq 31) (.const (.int .i64 1))),
 Rq 6 (.mv (Tq 32))]))))))
 (.seq (.reg [Rq 2 (.mv (.const (.int .i64 0)))])
 (.ret)))))
theorem ck_packet_Places : chkFun Tryz.prog 48 1 = some (rc_packet_Places, [2]) := by kernel_rfl
def rc_node_rumors : RCode :=
 .seq (.reg [Rq 1 (.box 30 12 (Tq 0)),
 Rq 2 (.mv (.const (.bool false)))])
 (.seq (.seq (.reg [Rq 7 (.fldA 3 (Tq 1)),
 Rq 8 (.load false 1 (Tq 7)),
 Rq 9 (.len false (Tq 8)),
 Rq 10 (.mv (.const (.int .i64 0)))])
 (.block 0
 (.loop
 (.seq (.reg [Rq 11 (.bin .lss (Tq 10) (Tq 9))])
 (.seq (.cond (Tq 11)
 (.skip)
 (.exit 0))
 (.seq (.block 1
 (.seq (.reg [Rq 12 (.idxA 6 (Tq 8) (Tq 10)),
 Rq 13 (.load true 6 (Tq 12)),
 Rq 4 (.zbox 80 [(.string ⟨#[]⟩), (.int .i64 0), (.int .i64 0), (.int .i64 0), (.bool false), (.int .i64 0)]),
 ⟨none, none, .store 6 (Tq 4) (Tq 13)⟩])
 (.seq (.reg [Rq 15 (.fldA 2 (Tq 1)),
 Rq 16 (.load false 1 (Tq 15)),
 Rq 17 (.fldA 0 (Tq 4)),
 Rq 18 (.fldA 0 (Tq 17)),
 Rq 19 (.load false 1 (Tq 18)),
 Rq 20 (.call (.func 49) [(Tq 16), (Tq 19)]),
 Rq 14 (.mv (Tq 20)),
 Rq 21 (.ext (Tq 14) 0),
 Rq 22 (.ext (Tq 14) 1),
 Rq 5 (.mv (Tq 21)),
 Rq 6 (.mv (Tq 22))])
 (.seq (.dreg [[Rq 23 (.mv (Tq 6))],
 [Rq 24 (.not (Tq 23))],
 [Rq 25 (.mv (Tq 24))],
 [⟨(some 26), (some (25, false)), .fldA 0 (Tq 4)⟩,
 ⟨(some 27), (some (25, false)), .load true 5 (Tq 26)⟩,
 ⟨(some 28), (some (25, false)), .fldA 2 (Tq 1)⟩,
 ⟨(some 29), (some (25, false)), .load false 1 (Tq 28)⟩,
 ⟨(some 30), (some (25, false)), .mv (Tq 5)⟩,
 ⟨(some 31), (some (25, false)), .idxA 5 (Tq 29) (Tq 30)⟩,
 ⟨(some 32), (some (25, false)), .load true 5 (Tq 31)⟩],
 [⟨(some 33), (some (25, false)), .call (.func 111) [(Tq 27), (Tq 32)]⟩],
 [⟨(some 34), (some (25, false)), .bin .gtr (Tq 33) (.const (.int .i64 0))⟩],
 [Rq 35 (.pick (Tq 25) (.const (.bool true)) (Tq 34))]])
 (.cond (Tq 35)
 (.seq (.reg [Rq 2 (.mv (.const (.bool false)))])
 (.ret))
 (.skip))))))
 (.reg [Rq 36 (.bin .add (Tq 10) (.const (.int .i64 1))),
 Rq 10 (.mv (Tq 36))])))))))
 (.seq (.reg [Rq 2 (.mv (.const (.bool true)))])
 (.ret)))
theorem ck_node_rumors : chkFun Tryz.prog 50 1 = some (rc_node_rumors, [2]) := by kernel_rfl
def rc_hearsayref_CheckWhere : RCode :=
 .seq (.reg [Rq 2 (.mv (.const (.int .i64 0)))])
 (.seq (.seq (.reg [Rq 6 (.mv (Tq 0)),
 Rq 7 (.len false (Tq 6)),
 Rq 8 (.bin .gtr (Tq 7) (.const (.int .i64 20)))])
 (.cond (Tq 8)
 (.seq (.reg [Rq 2 (.mv (.const (.int .i64 2)))])
 (.ret))
 (.skip)))
 (.seq (.seq (.reg [Rq 3 (.mv (.const (.int .i64 0)))])
 (.block 0
 (.loop
 (.seq (.seq (.reg [Rq 9 (.mv (Tq 3)),
 Rq 10 (.mv (Tq 0)),
 Rq 11 (.len false (Tq 10)),
 Rq 12 (.bin .lss (Tq 9) (Tq 11))])
 (.cond (Tq 12)
 (.skip)
 (.exit 0)))
 (.seq (.block 1
 (.seq (.seq (.reg [Rq 15 (.mv (Tq 0)),
 Rq 16 (.mv (Tq 3)),
 Rq 17 (.idxA 6 (Tq 15) (Tq 16)),
 Rq 18 (.fldA 0 (Tq 17)),
 Rq 19 (.load false 1 (Tq 18)),
 Rq 20 (.call (.func 13) [(Tq 19)]),
 Rq 21 (.not (Tq 20))])
 (.cond (Tq 21)
 (.seq (.reg [Rq 2 (.mv (.const (.int .i64 1)))])
 (.ret))
 (.skip)))
 (.seq (.reg [Rq 22 (.mv (Tq 0)),
 Rq 23 (.mv (Tq 3)),
 Rq 24 (.idxA 6 (Tq 22) (Tq 23)),
 Rq 25 (.fldA 1 (Tq 24)),
 Rq 26 (.load true 5 (Tq 25)),
 Rq 27 (.call (.func 55) [(Tq 26)]),
 Rq 4 (.mv (Tq 27))])
 (.seq (.reg [Rq 28 (.mv (Tq 4)),
 Rq 29 (.bin .neq (Tq 28) (.const (.int .i64 0)))])
 (.cond (Tq 29)
 (.seq (.reg [Rq 30 (.mv (Tq 4)),
 Rq 2 (.mv (Tq 30))])
 (.ret))
 (.skip))))))
 (.reg [Rq 13 (.mv (Tq 3)),
 Rq 14 (.bin .add (Tq 13) (.const (.int .i64 1))),
 Rq 3 (.mv (Tq 14))]))))))
 (.seq (.seq (.reg [Rq 5 (.mv (.const (.int .i64 1)))])
 (.block 2
 (.loop
 (.seq (.seq (.reg [Rq 31 (.mv (Tq 5)),
 Rq 32 (.mv (Tq 0)),
 Rq 33 (.len false (Tq 32)),
 Rq 34 (.bin .lss (Tq 31) (Tq 33))])
 (.cond (Tq 34)
 (.skip)
 (.exit 2)))
 (.seq (.block 3
 (.seq (.dreg [[Rq 37 (.mv (Tq 0)),
 Rq 38 (.mv (Tq 5)),
 Rq 39 (.idxA 6 (Tq 37) (Tq 38)),
 Rq 40 (.fldA 0 (Tq 39)),
 Rq 41 (.load false 1 (Tq 40)),
 Rq 42 (.mv (Tq 0)),
 Rq 43 (.mv (Tq 5)),
 Rq 44 (.bin .sub (Tq 43) (.const (.int .i64 1))),
 Rq 45 (.idxA 6 (Tq 42) (Tq 44)),
 Rq 46 (.fldA 0 (Tq 45)),
 Rq 47 (.load false 1 (Tq 46))],
 [Rq 48 (.bin .leq (Tq 41) (Tq 47))]])
 (.cond (Tq 48)
 (.seq (.reg [Rq 2 (.mv (.const (.int .i64 4)))])
 (.ret))
 (.skip))))
 (.reg [Rq 35 (.mv (Tq 5)),
 Rq 36 (.bin .add (Tq 35) (.const (.int .i64 1))),
 Rq 5 (.mv (Tq 36))]))))))
 (.seq (.reg [Rq 2 (.mv (.const (.int .i64 0)))])
 (.ret)))))
theorem ck_hearsayref_CheckWhere : chkFun Tryz.prog 56 1 = some (rc_hearsayref_CheckWhere, [2]) := by kernel_rfl
def rc_node_open : RCode :=
 .seq (.reg [Rq 1 (.box 30 12 (Tq 0)),
 Rq 2 (.mv (.const (.pointer none))),
 Rq 3 (.mv (.const (.int .i64 0)))])
 (.seq (.seq (.reg [Rq 5 (.load true 12 (Tq 1)),
 Rq 6 (.call (.func 17) [(Tq 5)]),
 Rq 4 (.mv (Tq 6))])
 (.seq (.reg [Rq 7 (.mv (Tq 4)),
 Rq 8 (.bin .neq (Tq 7) (.const (.int .i64 0)))])
 (.cond (Tq 8)
 (.seq (.reg [Rq 9 (.mv (Tq 4)),
 Rq 2 (.mv (.const (.pointer none))),
 Rq 3 (.mv (Tq 9))])
 (.ret))
 (.skip))))
 (.seq (.dreg [[Rq 10 (.fldA 2 (Tq 1)),
 Rq 11 (.load false 1 (Tq 10)),
 Rq 12 (.call (.func 115) [(Tq 11)]),
 Rq 13 (.fldA 3 (Tq 1)),
 Rq 14 (.load false 1 (Tq 13)),
 Rq 15 (.call (.func 116) [(Tq 14)]),
 Rq 16 (.fldA 4 (Tq 1)),
 Rq 17 (.load false 1 (Tq 16)),
 Rq 18 (.call (.func 117) [(Tq 17)]),
 Rq 19 (.fldA 2 (Tq 1))],
 [⟨none, none, .store 1 (Tq 19) (Tq 12)⟩],
 [Rq 20 (.fldA 3 (Tq 1))],
 [⟨none, none, .store 1 (Tq 20) (Tq 15)⟩],
 [Rq 21 (.fldA 4 (Tq 1))],
 [⟨none, none, .store 1 (Tq 21) (Tq 18)⟩]])
 (.seq (.dreg [[Rq 22 (.fldA 5 (Tq 1)),
 Rq 23 (.load false 1 (Tq 22)),
 Rq 24 (.call (.func 118) [(Tq 23)]),
 Rq 25 (.fldA 11 (Tq 1)),
 Rq 26 (.load false 1 (Tq 25))],
 [Rq 27 (.call (.func 119) [(Tq 26)]),
 Rq 28 (.fldA 5 (Tq 1))],
 [⟨none, none, .store 1 (Tq 28) (Tq 24)⟩],
 [Rq 29 (.fldA 11 (Tq 1))],
 [⟨none, none, .store 1 (Tq 29) (Tq 27)⟩]])
 (.seq (.reg [Rq 30 (.load true 12 (Tq 1)),
 Rq 31 (.build [(.string ⟨#[]⟩), (.string ⟨#[]⟩), (.slice none 0 0), (.slice none 0 0), (.slice none 0 0), (.slice none 0 0), (.int .i64 0), (.int .i64 0), (.int .i64 0), (.int .i64 0), (.int .i64 0), (.slice none 0 0)] [(0, 12, (Tq 30))]),
 Rq 32 (.box 89 12 (Tq 31)),
 Rq 2 (.mv (Tq 32)),
 Rq 3 (.mv (.const (.int .i64 0)))])
 (.ret)))))
theorem ck_node_open : chkFun Tryz.prog 59 1 = some (rc_node_open, [2, 3]) := by kernel_rfl
def rc_slices_SortFunc_api_Member_api_Member : RCode :=
 .seq (.reg [Rq 5 (.mv (Tq 0)),
 Rq 6 (.len false (Tq 5)),
 Rq 4 (.mv (Tq 6))])
 (.reg [Rq 7 (.mv (Tq 0)),
 Rq 8 (.mv (Tq 4)),
 Rq 9 (.mv (Tq 4)),
 Rq 10 (.conv .u64 (Tq 9)),
 Rq 11 (.call (.func 127) [(Tq 10)]),
 Rq 12 (.mv (Tq 1)),
 Rq 13 (.call (.func 126) [(Tq 7), (.const (.int .i64 0)), (Tq 8), (Tq 11), (Tq 12)])])
theorem ck_slices_SortFunc_api_Member_api_Member : chkFun Tryz.prog 63 2 = some (rc_slices_SortFunc_api_Member_api_Member, []) := by kernel_rfl
def rc_node_Tell_1 : RCode :=
 .seq (.reg [Rq 2 (.box 37 5 (Tq 0)),
 Rq 3 (.box 37 5 (Tq 1)),
 Rq 4 (.mv (.const (.int .i64 0)))])
 (.seq (.reg [Rq 5 (.fldA 0 (Tq 2)),
 Rq 6 (.load false 1 (Tq 5)),
 Rq 7 (.fldA 0 (Tq 3)),
 Rq 8 (.load false 1 (Tq 7)),
 Rq 9 (.call (.func 65) [(Tq 6), (Tq 8)]),
 Rq 4 (.mv (Tq 9))])
 (.ret))
theorem ck_node_Tell_1 : chkFun Tryz.prog 64 2 = some (rc_node_Tell_1, [4]) := by kernel_rfl
def rc_packet_Check : RCode :=
 .seq (.reg [Rq 1 (.box 44 6 (Tq 0)),
 Rq 2 (.mv (.const (.int .i64 0)))])
 (.seq (.seq (.reg [Rq 5 (.fldA 0 (Tq 1)),
 Rq 6 (.load false 1 (Tq 5)),
 Rq 7 (.call (.func 42) [(Tq 6)]),
 Rq 8 (.not (Tq 7)),
 Rq 9 (.mv (Tq 8)),
 ⟨(some 10), (some (9, false)), .fldA 1 (Tq 1)⟩,
 ⟨(some 11), (some (9, false)), .load false 1 (Tq 10)⟩,
 ⟨(some 12), (some (9, false)), .not (Tq 11)⟩,
 ⟨(some 13), (some (9, false)), .mv (Tq 12)⟩,
 ⟨(some 14), (some (13, true)), .fldA 3 (Tq 1)⟩,
 ⟨(some 15), (some (13, true)), .load false 1 (Tq 14)⟩,
 ⟨(some 16), (some (13, true)), .len false (Tq 15)⟩,
 ⟨(some 17), (some (13, true)), .fldA 4 (Tq 1)⟩,
 ⟨(some 18), (some (13, true)), .load false 1 (Tq 17)⟩,
 ⟨(some 19), (some (13, true)), .len false (Tq 18)⟩,
 ⟨(some 20), (some (13, true)), .bin .add (Tq 16) (Tq 19)⟩,
 ⟨(some 21), (some (13, true)), .fldA 5 (Tq 1)⟩,
 ⟨(some 22), (some (13, true)), .load false 1 (Tq 21)⟩,
 ⟨(some 23), (some (13, true)), .len false (Tq 22)⟩,
 ⟨(some 24), (some (13, true)), .bin .add (Tq 20) (Tq 23)⟩,
 ⟨(some 25), (some (13, true)), .bin .gtr (Tq 24) (.const (.int .i64 0))⟩,
 ⟨(some 26), (some (9, false)), .pick (Tq 13) (Tq 25) (.const (.bool false))⟩,
 Rq 27 (.pick (Tq 9) (.const (.bool true)) (Tq 26))])
 (.cond (Tq 27)
 (.seq (.reg [Rq 2 (.mv (.const (.int .i64 1)))])
 (.ret))
 (.skip)))
 (.seq (.seq (.reg [Rq 28 (.fldA 1 (Tq 1)),
 Rq 29 (.load false 1 (Tq 28)),
 Rq 30 (.not (Tq 29))])
 (.cond (Tq 30)
 (.seq (.reg [Rq 31 (.fldA 2 (Tq 1)),
 Rq 32 (.load false 1 (Tq 31)),
 Rq 33 (.call (.func 130) [(Tq 32)]),
 Rq 2 (.mv (Tq 33))])
 (.ret))
 (.skip)))
 (.seq (.seq (.dreg [[Rq 34 (.fldA 2 (Tq 1)),
 Rq 35 (.load false 1 (Tq 34)),
 Rq 36 (.call (.func 43) [(Tq 35)]),
 Rq 37 (.fldA 3 (Tq 1)),
 Rq 38 (.load false 1 (Tq 37)),
 Rq 39 (.call (.func 45) [(Tq 38)]),
 Rq 40 (.fldA 4 (Tq 1)),
 Rq 41 (.load false 1 (Tq 40)),
 Rq 42 (.call (.func 46) [(Tq 41)]),
 Rq 43 (.fldA 5 (Tq 1)),
 Rq 44 (.load false 1 (Tq 43)),
 Rq 45 (.call (.func 48) [(Tq 44)]),
 Rq 46 (.mks 31 1 4 [(.int .i64 0)] [(0, (Tq 36)), (1, (Tq 39)), (2, (Tq 42)), (3, (Tq 45))]),
 Rq 47 (.len false (Tq 46)),
 Rq 48 (.mv (.const (.int .i64 0)))]])
 (.block 0
 (.loop
 (.seq (.reg [Rq 49 (.bin .lss (Tq 48) (Tq 47))])
 (.seq (.cond (Tq 49)
 (.skip)
 (.exit 0))
 (.seq (.block 1
 (.seq (.reg [Rq 50 (.idxA 1 (Tq 46) (Tq 48)),
 Rq 51 (.load false 1 (Tq 50)),
 Rq 4 (.mv (Tq 51))])
 (.seq (.reg [Rq 52 (.mv (Tq 4)),
 Rq 53 (.bin .neq (Tq 52) (.const (.int .i64 0)))])
 (.cond (Tq 53)
 (.seq (.reg [Rq 54 (.mv (Tq 4)),
 Rq 2 (.mv (Tq 54))])
 (.ret))
 (.skip)))))
 (.reg [Rq 55 (.bin .add (Tq 48) (.const (.int .i64 1))),
 Rq 48 (.mv (Tq 55))])))))))
 (.seq (.reg [Rq 2 (.mv (.const (.int .i64 0)))])
 (.ret)))))
theorem ck_packet_Check : chkFun Tryz.prog 74 1 = some (rc_packet_Check, [2]) := by kernel_rfl
def rc_node_worker_spread : RCode :=
 .seq (.reg [Rq 3 (.box 37 5 (Tq 1)),
 Rq 4 (.mv (.const (.int .i64 0)))])
 (.seq (.dreg [[Rq 10 (.mv (Tq 0)),
 Rq 11 (.fldA 0 (Tq 10)),
 Rq 12 (.fldA 0 (Tq 11)),
 Rq 13 (.fldA 2 (Tq 12)),
 Rq 14 (.load false 1 (Tq 13)),
 Rq 15 (.load true 5 (Tq 3))],
 [Rq 16 (.call (.func 131) [(Tq 14), (Tq 15)])],
 [Rq 9 (.mv (Tq 16))],
 [Rq 17 (.ext (Tq 9) 0),
 Rq 18 (.ext (Tq 9) 1),
 Rq 19 (.ext (Tq 9) 2),
 Rq 5 (.mv (Tq 17)),
 Rq 6 (.mv (Tq 18))],
 [Rq 7 (.mv (Tq 19))]])
 (.seq (.seq (.reg [Rq 20 (.mv (Tq 7)),
 Rq 21 (.bin .neq (Tq 20) (.const (.int .i64 0))),
 Rq 22 (.mv (Tq 21)),
 ⟨(some 23), (some (22, false)), .mv (Tq 6)⟩,
 ⟨(some 24), (some (22, false)), .not (Tq 23)⟩,
 Rq 25 (.pick (Tq 22) (.const (.bool true)) (Tq 24))])
 (.cond (Tq 25)
 (.seq (.reg [Rq 26 (.mv (Tq 7)),
 Rq 4 (.mv (Tq 26))])
 (.ret))
 (.skip)))
 (.seq (.reg [Rq 27 (.mv (Tq 0)),
 Rq 28 (.mv (Tq 5)),
 Rq 29 (.fldA 0 (Tq 27)),
 Rq 30 (.fldA 0 (Tq 29)),
 Rq 31 (.fldA 2 (Tq 30)),
 ⟨none, none, .store 1 (Tq 31) (Tq 28)⟩])
 (.seq (.seq (.reg [Rq 32 (.mv (Tq 0)),
 Rq 33 (.fldA 0 (Tq 3)),
 Rq 34 (.load false 1 (Tq 33)),
 Rq 35 (.call (.func 132) [(Tq 32), (Tq 34)]),
 Rq 8 (.mv (Tq 35))])
 (.seq (.dreg [[Rq 36 (.mv (Tq 8))],
 [Rq 37 (.bin .neq (Tq 36) (.const (.int .i64 0)))],
 [Rq 38 (.mv (Tq 37))],
 [⟨(some 39), (some (38, false)), .fldA 0 (Tq 3)⟩,
 ⟨(some 40), (some (38, false)), .load false 1 (Tq 39)⟩,
 ⟨(some 41), (some (38, false)), .mv (Tq 0)⟩,
 ⟨(some 42), (some (38, false)), .fldA 0 (Tq 41)⟩,
 ⟨(some 43), (some (38, false)), .fldA 0 (Tq 42)⟩,
 ⟨(some 44), (some (38, false)), .fldA 0 (Tq 43)⟩,
 ⟨(some 45), (some (38, false)), .load false 1 (Tq 44)⟩],
 [⟨(some 46), (some (38, false)), .bin .neq (Tq 40) (Tq 45)⟩],
 [Rq 47 (.pick (Tq 38) (.const (.bool true)) (Tq 46))]])
 (.cond (Tq 47)
 (.seq (.reg [Rq 48 (.mv (Tq 8)),
 Rq 4 (.mv (Tq 48))])
 (.ret))
 (.skip))))
 (.seq (.dreg [[Rq 50 (.mv (Tq 0)),
 Rq 51 (.fldA 0 (Tq 50)),
 Rq 52 (.fldA 0 (Tq 51)),
 Rq 53 (.fldA 2 (Tq 52)),
 Rq 54 (.load false 1 (Tq 53)),
 Rq 55 (.mv (Tq 0)),
 Rq 56 (.fldA 0 (Tq 55)),
 Rq 57 (.fldA 0 (Tq 56)),
 Rq 58 (.fldA 0 (Tq 57)),
 Rq 59 (.load false 1 (Tq 58))],
 [Rq 60 (.call (.func 133) [(Tq 54), (Tq 59)])],
 [Rq 49 (.mv (Tq 60))],
 [Rq 61 (.ext (Tq 49) 0),
 Rq 62 (.ext (Tq 49) 1),
 Rq 63 (.ext (Tq 49) 2),
 Rq 5 (.mv (Tq 61)),
 Rq 6 (.mv (Tq 62))],
 [Rq 7 (.mv (Tq 63))]])
 (.seq (.seq (.reg [Rq 64 (.mv (Tq 7)),
 Rq 65 (.bin .neq (Tq 64) (.const (.int .i64 0))),
 Rq 66 (.mv (Tq 65)),
 ⟨(some 67), (some (66, false)), .mv (Tq 6)⟩,
 ⟨(some 68), (some (66, false)), .not (Tq 67)⟩,
 Rq 69 (.pick (Tq 66) (.const (.bool true)) (Tq 68))])
 (.cond (Tq 69)
 (.seq (.reg [Rq 70 (.mv (Tq 7)),
 Rq 4 (.mv (Tq 70))])
 (.ret))
 (.skip)))
 (.seq (.reg [Rq 71 (.mv (Tq 0)),
 Rq 72 (.mv (Tq 5)),
 Rq 73 (.fldA 0 (Tq 71)),
 Rq 74 (.fldA 0 (Tq 73)),
 Rq 75 (.fldA 2 (Tq 74)),
 ⟨none, none, .store 1 (Tq 75) (Tq 72)⟩])
 (.seq (.reg [Rq 76 (.mv (Tq 0)),
 Rq 77 (.mv (Tq 0)),
 Rq 78 (.fldA 0 (Tq 77)),
 Rq 79 (.fldA 0 (Tq 78)),
 Rq 80 (.fldA 0 (Tq 79)),
 Rq 81 (.load false 1 (Tq 80)),
 Rq 82 (.call (.func 132) [(Tq 76), (Tq 81)]),
 Rq 4 (.mv (Tq 82))])
 (.ret)))))))))
theorem ck_node_worker_spread : chkFun Tryz.prog 75 2 = some (rc_node_worker_spread, [4]) := by kernel_rfl
def rc_node_worker_find : RCode :=
 .seq (.reg [Rq 4 (.mv (.const (.int .i64 0))),
 Rq 5 (.mv (.const (.bool false)))])
 (.seq (.reg [Rq 6 (.mv (Tq 0)),
 Rq 7 (.fldA 0 (Tq 6)),
 Rq 8 (.fldA 0 (Tq 7)),
 Rq 9 (.fldA 11 (Tq 8)),
 Rq 10 (.load false 1 (Tq 9)),
 Rq 11 (.mv (Tq 1)),
 Rq 12 (.call (.func 139) [(Tq 10), (Tq 11), (.func 140)]),
 Rq 13 (.ext (Tq 12) 0),
 Rq 14 (.ext (Tq 12) 1),
 Rq 4 (.mv (Tq 13)),
 Rq 5 (.mv (Tq 14))])
 (.ret))
theorem ck_node_worker_find : chkFun Tryz.prog 78 2 = some (rc_node_worker_find, [4, 5]) := by kernel_rfl
def rc_node_turn : RCode :=
 .seq (.reg [Rq 4 (.box 30 12 (Tq 0)),
 Rq 8 (.zbox 30 [(.string ⟨#[]⟩), (.string ⟨#[]⟩), (.slice none 0 0), (.slice none 0 0), (.slice none 0 0), (.slice none 0 0), (.int .i64 0), (.int .i64 0), (.int .i64 0), (.int .i64 0), (.int .i64 0), (.slice none 0 0)]),
 Rq 9 (.mv (.const (.int .i64 0)))])
 (.seq (.reg [Rq 16 (.load true 12 (Tq 4)),
 Rq 17 (.call (.func 59) [(Tq 16)]),
 Rq 15 (.mv (Tq 17)),
 Rq 18 (.ext (Tq 15) 0),
 Rq 19 (.ext (Tq 15) 1),
 Rq 10 (.mv (Tq 18)),
 Rq 11 (.mv (Tq 19))])
 (.seq (.seq (.reg [Rq 20 (.mv (Tq 11)),
 Rq 21 (.bin .neq (Tq 20) (.const (.int .i64 0)))])
 (.cond (Tq 21)
 (.seq (.reg [Rq 22 (.build [(.string ⟨#[]⟩), (.string ⟨#[]⟩), (.slice none 0 0), (.slice none 0 0), (.slice none 0 0), (.slice none 0 0), (.int .i64 0), (.int .i64 0), (.int .i64 0), (.int .i64 0), (.int .i64 0), (.slice none 0 0)] []),
 Rq 23 (.mv (Tq 11)),
 ⟨none, none, .store 12 (Tq 8) (Tq 22)⟩,
 Rq 9 (.mv (Tq 23))])
 (.ret))
 (.skip)))
 (.seq (.reg [Rq 25 (.mv (Tq 10)),
 Rq 26 (.fldA 0 (Tq 25)),
 Rq 27 (.fldA 0 (Tq 26)),
 Rq 28 (.fldA 2 (Tq 27)),
 Rq 29 (.load false 1 (Tq 28)),
 Rq 30 (.mv (Tq 1)),
 Rq 31 (.call (.func 49) [(Tq 29), (Tq 30)]),
 Rq 24 (.mv (Tq 31)),
 Rq 32 (.ext (Tq 24) 0),
 Rq 33 (.ext (Tq 24) 1),
 Rq 12 (.mv (Tq 32)),
 Rq 13 (.mv (Tq 33))])
 (.seq (.block 0
 (.seq (.reg [Rq 35 (.mv (Tq 1)),
 Rq 36 (.call (.func 42) [(Tq 35)]),
 Rq 37 (.not (Tq 36)),
 Rq 34 (.mv (Tq 37))])
 (.cond (Tq 34)
 (.seq (.reg [Rq 38 (.build [(.string ⟨#[]⟩), (.string ⟨#[]⟩), (.slice none 0 0), (.slice none 0 0), (.slice none 0 0), (.slice none 0 0), (.int .i64 0), (.int .i64 0), (.int .i64 0), (.int .i64 0), (.int .i64 0), (.slice none 0 0)] []),
 ⟨none, none, .store 12 (Tq 8) (Tq 38)⟩,
 Rq 9 (.mv (.const (.int .i64 1)))])
 (.ret))
 (.seq (.reg [Rq 40 (.mv (Tq 1)),
 Rq 41 (.mv (Tq 10)),
 Rq 42 (.fldA 0 (Tq 41)),
 Rq 43 (.fldA 0 (Tq 42)),
 Rq 44 (.fldA 0 (Tq 43)),
 Rq 45 (.load false 1 (Tq 44)),
 Rq 46 (.bin .eql (Tq 40) (Tq 45)),
 Rq 39 (.mv (Tq 46))])
 (.cond (Tq 39)
 (.seq (.reg [Rq 47 (.build [(.string ⟨#[]⟩), (.string ⟨#[]⟩), (.slice none 0 0), (.slice none 0 0), (.slice none 0 0), (.slice none 0 0), (.int .i64 0), (.int .i64 0), (.int .i64 0), (.int .i64 0), (.int .i64 0), (.slice none 0 0)] []),
 ⟨none, none, .store 12 (Tq 8) (Tq 47)⟩,
 Rq 9 (.mv (.const (.int .i64 6)))])
 (.ret))
 (.seq (.reg [Rq 49 (.mv (Tq 13)),
 Rq 50 (.not (Tq 49)),
 Rq 48 (.mv (Tq 50))])
 (.cond (Tq 48)
 (.seq (.reg [Rq 51 (.build [(.string ⟨#[]⟩), (.string ⟨#[]⟩), (.slice none 0 0), (.slice none 0 0), (.slice none 0 0), (.slice none 0 0), (.int .i64 0), (.int .i64 0), (.int .i64 0), (.int .i64 0), (.int .i64 0), (.slice none 0 0)] []),
 ⟨none, none, .store 12 (Tq 8) (Tq 51)⟩,
 Rq 9 (.mv (.const (.int .i64 5)))])
 (.ret))
 (.seq (.reg [Rq 53 (.mv (Tq 10)),
 Rq 54 (.fldA 0 (Tq 53)),
 Rq 55 (.fldA 0 (Tq 54)),
 Rq 56 (.fldA 2 (Tq 55)),
 Rq 57 (.load false 1 (Tq 56)),
 Rq 58 (.mv (Tq 12)),
 Rq 59 (.idxA 5 (Tq 57) (Tq 58)),
 Rq 60 (.fldA 1 (Tq 59)),
 Rq 61 (.load false 1 (Tq 60)),
 Rq 62 (.mv (Tq 2)),
 Rq 63 (.bin .neq (Tq 61) (Tq 62)),
 Rq 52 (.mv (Tq 63))])
 (.cond (Tq 52)
 (.seq (.reg [Rq 64 (.build [(.string ⟨#[]⟩), (.string ⟨#[]⟩), (.slice none 0 0), (.slice none 0 0), (.slice none 0 0), (.slice none 0 0), (.int .i64 0), (.int .i64 0), (.int .i64 0), (.int .i64 0), (.int .i64 0), (.slice none 0 0)] []),
 ⟨none, none, .store 12 (Tq 8) (Tq 64)⟩,
 Rq 9 (.mv (.const (.int .i64 4)))])
 (.ret))
 (.skip))))))))))
 (.seq (.reg [Rq 65 (.mv (Tq 10)),
 Rq 66 (.fldA 0 (Tq 65)),
 Rq 67 (.fldA 0 (Tq 66)),
 Rq 68 (.fldA 2 (Tq 67)),
 Rq 69 (.load false 1 (Tq 68)),
 Rq 70 (.mv (Tq 12)),
 Rq 71 (.idxA 5 (Tq 69) (Tq 70)),
 Rq 72 (.load true 5 (Tq 71)),
 Rq 14 (.zbox 37 [(.string ⟨#[]⟩), (.int .i64 0), (.int .i64 0), (.int .i64 0), (.bool false)]),
 ⟨none, none, .store 5 (Tq 14) (Tq 72)⟩])
 (.seq (.reg [Rq 73 (.mv (Tq 3)),
 Rq 74 (.fldA 1 (Tq 14)),
 ⟨none, none, .store 1 (Tq 74) (Tq 73)⟩])
 (.seq (.reg [Rq 75 (.mv (Tq 10)),
 Rq 76 (.mv (Tq 10)),
 Rq 77 (.load true 5 (Tq 14)),
 Rq 78 (.call (.func 75) [(Tq 76), (Tq 77)]),
 Rq 79 (.call (.func 91) [(Tq 75), (Tq 78)]),
 Rq 80 (.ext (Tq 79) 0),
 Rq 81 (.ext (Tq 79) 1),
 ⟨none, none, .store 12 (Tq 8) (Tq 80)⟩,
 Rq 9 (.mv (Tq 81))])
 (.ret))))))))
theorem ck_node_turn : chkFunC Tryz.prog 90 4 = some (rc_node_turn, [(8, some (true, 12)), (9, none)]) := by kernel_rfl
def rc_node_worker_done : RCode :=
 .seq (.reg [Rq 4 (.zbox 30 [(.string ⟨#[]⟩), (.string ⟨#[]⟩), (.slice none 0 0), (.slice none 0 0), (.slice none 0 0), (.slice none 0 0), (.int .i64 0), (.int .i64 0), (.int .i64 0), (.int .i64 0), (.int .i64 0), (.slice none 0 0)]),
 Rq 5 (.mv (.const (.int .i64 0)))])
 (.seq (.seq (.reg [Rq 6 (.mv (Tq 1)),
 Rq 7 (.bin .neq (Tq 6) (.const (.int .i64 0)))])
 (.cond (Tq 7)
 (.seq (.reg [Rq 8 (.build [(.string ⟨#[]⟩), (.string ⟨#[]⟩), (.slice none 0 0), (.slice none 0 0), (.slice none 0 0), (.slice none 0 0), (.int .i64 0), (.int .i64 0), (.int .i64 0), (.int .i64 0), (.int .i64 0), (.slice none 0 0)] []),
 Rq 9 (.mv (Tq 1)),
 ⟨none, none, .store 12 (Tq 4) (Tq 8)⟩,
 Rq 5 (.mv (Tq 9))])
 (.ret))
 (.skip)))
 (.seq (.reg [Rq 10 (.mv (Tq 0)),
 Rq 11 (.fldA 0 (Tq 10)),
 Rq 12 (.fldA 0 (Tq 11)),
 Rq 13 (.load true 12 (Tq 12)),
 ⟨none, none, .store 12 (Tq 4) (Tq 13)⟩,
 Rq 5 (.mv (.const (.int .i64 0)))])
 (.ret)))
theorem ck_node_worker_done : chkFunC Tryz.prog 91 2 = some (rc_node_worker_done, [(4, some (true, 12)), (5, none)]) := by kernel_rfl
def rc_slices_pdqsortCmpFunc_api_Member : RCode :=
 .seq (.reg [Rq 10 (.mv (.const (.bool true)))])
 (.seq (.reg [Rq 11 (.mv (.const (.bool true)))])
 (.block 0
 (.loop
 (.block 1
 (.seq (.reg [Rq 21 (.mv (Tq 2)),
 Rq 22 (.mv (Tq 1)),
 Rq 23 (.bin .sub (Tq 21) (Tq 22)),
 Rq 12 (.mv (Tq 23))])
 (.seq (.seq (.reg [Rq 24 (.mv (Tq 12)),
 Rq 25 (.bin .leq (Tq 24) (.const (.int .i64 12)))])
 (.cond (Tq 25)
 (.seq (.reg [Rq 26 (.mv (Tq 0)),
 Rq 27 (.mv (Tq 1)),
 Rq 28 (.mv (Tq 2)),
 Rq 29 (.mv (Tq 4)),
 Rq 30 (.call (.func 166) [(Tq 26), (Tq 27), (Tq 28), (Tq 29)])])
 (.ret))
 (.skip)))
 (.seq (.seq (.reg [Rq 31 (.mv (Tq 3)),
 Rq 32 (.bin .eql (Tq 31) (.const (.int .i64 0)))])
 (.cond (Tq 32)
 (.seq (.reg [Rq 33 (.mv (Tq 0)),
 Rq 34 (.mv (Tq 1)),
 Rq 35 (.mv (Tq 2)),
 Rq 36 (.mv (Tq 4)),
 Rq 37 (.call (.func 167) [(Tq 33), (Tq 34), (Tq 35), (Tq 36)])])
 (.ret))
 (.skip)))
 (.seq (.seq (.reg [Rq 38 (.mv (Tq 10)),
 Rq 39 (.not (Tq 38))])
 (.cond (Tq 39)
 (.seq (.reg [Rq 40 (.mv (Tq 0)),
 Rq 41 (.mv (Tq 1)),
 Rq 42 (.mv (Tq 2)),
 Rq 43 (.mv (Tq 4)),
 Rq 44 (.call (.func 168) [(Tq 40), (Tq 41), (Tq 42), (Tq 43)])])
 (.reg [Rq 45 (.mv (Tq 3)),
 Rq 46 (.bin .sub (Tq 45) (.const (.int .i64 1))),
 Rq 3 (.mv (Tq 46))]))
 (.skip)))
 (.seq (.reg [Rq 48 (.mv (Tq 0)),
 Rq 49 (.mv (Tq 1)),
 Rq 50 (.mv (Tq 2)),
 Rq 51 (.mv (Tq 4)),
 Rq 52 (.call (.func 169) [(Tq 48), (Tq 49), (Tq 50), (Tq 51)]),
 Rq 47 (.mv (Tq 52)),
 Rq 53 (.ext (Tq 47) 0),
 Rq 54 (.ext (Tq 47) 1),
 Rq 13 (.mv (Tq 53)),
 Rq 14 (.mv (Tq 54))])
 (.seq (.seq (.reg [Rq 55 (.mv (Tq 14)),
 Rq 56 (.bin .eql (Tq 55) (.const (.int .i64 2)))])
 (.cond (Tq 56)
 (.seq (.reg [Rq 57 (.mv (Tq 0)),
 Rq 58 (.mv (Tq 1)),
 Rq 59 (.mv (Tq 2)),
 Rq 60 (.mv (Tq 4)),
 Rq 61 (.call (.func 170) [(Tq 57), (Tq 58), (Tq 59), (Tq 60)])])
 (.seq (.reg [Rq 62 (.mv (Tq 2)),
 Rq 63 (.bin .sub (Tq 62) (.const (.int .i64 1))),
 Rq 64 (.mv (Tq 13)),
 Rq 65 (.mv (Tq 1)),
 Rq 66 (.bin .sub (Tq 64) (Tq 65)),
 Rq 67 (.bin .sub (Tq 63) (Tq 66)),
 Rq 13 (.mv (Tq 67))])
 (.reg [Rq 14 (.mv (.const (.int .i64 1)))])))
 (.skip)))
 (.seq (.seq (.reg [Rq 68 (.mv (Tq 10)),
 Rq 69 (.mv (Tq 68)),
 ⟨(some 70), (some (69, true)), .mv (Tq 11)⟩,
 Rq 71 (.pick (Tq 69) (Tq 70) (.const (.bool false))),
 Rq 72 (.mv (Tq 71)),
 ⟨(some 73), (some (72, true)), .mv (Tq 14)⟩,
 ⟨(some 74), (some (72, true)), .bin .eql (Tq 73) (.const (.int .i64 1))⟩,
 Rq 75 (.pick (Tq 72) (Tq 74) (.const (.bool false)))])
 (.cond (Tq 75)
 (.seq (.reg [Rq 76 (.mv (Tq 0)),
 Rq 77 (.mv (Tq 1)),
 Rq 78 (.mv (Tq 2)),
 Rq 79 (.mv (Tq 4)),
 Rq 80 (.call (.func 171) [(Tq 76), (Tq 77), (Tq 78), (Tq 79)])])
 (.cond (Tq 80)
 (.ret)
 (.skip)))
 (.skip)))
 (.seq (.seq (.dreg [[Rq 81 (.mv (Tq 1))],
 [Rq 82 (.bin .gtr (Tq 81) (.const (.int .i64 0)))],
 [Rq 83 (.mv (Tq 82))],
 [⟨(some 84), (some (83, true)), .mv (Tq 4)⟩,
 ⟨(some 85), (some (83, true)), .mv (Tq 0)⟩,
 ⟨(some 86), (some (83, true)), .mv (Tq 1)⟩,
 ⟨(some 87), (some (83, true)), .bin .sub (Tq 86) (.const (.int .i64 1))⟩,
 ⟨(some 88), (some (83, true)), .idxA 5 (Tq 85) (Tq 87)⟩,
 ⟨(some 89), (some (83, true)), .load true 5 (Tq 88)⟩,
 ⟨(some 90), (some (83, true)), .mv (Tq 0)⟩,
 ⟨(some 91), (some (83, true)), .mv (Tq 13)⟩,
 ⟨(some 92), (some (83, true)), .idxA 5 (Tq 90) (Tq 91)⟩,
 ⟨(some 93), (some (83, true)), .load true 5 (Tq 92)⟩],
 [⟨(some 94), (some (83, true)), .call (Tq 84) [(Tq 89), (Tq 93)]⟩],
 [⟨(some 95), (some (83, true)), .bin .lss (Tq 94) (.const (.int .i64 0))⟩],
 [⟨(some 96), (some (83, true)), .not (Tq 95)⟩],
 [Rq 97 (.pick (Tq 83) (Tq 96) (.const (.bool false)))]])
 (.cond (Tq 97)
 (.seq (.reg [Rq 98 (.mv (Tq 0)),
 Rq 99 (.mv (Tq 1)),
 Rq 100 (.mv (Tq 2)),
 Rq 101 (.mv (Tq 13)),
 Rq 102 (.mv (Tq 4)),
 Rq 103 (.call (.func 172) [(Tq 98), (Tq 99), (Tq 100), (Tq 101), (Tq 102)]),
 Rq 15 (.mv (Tq 103))])
 (.seq (.reg [Rq 104 (.mv (Tq 15)),
 Rq 1 (.mv (Tq 104))])
 (.exit 1)))
 (.skip)))
 (.seq (.reg [Rq 106 (.mv (Tq 0)),
 Rq 107 (.mv (Tq 1)),
 Rq 108 (.mv (Tq 2)),
 Rq 109 (.mv (Tq 13)),
 Rq 110 (.mv (Tq 4)),
 Rq 111 (.call (.func 173) [(Tq 106), (Tq 107), (Tq 108), (Tq 109), (Tq 110)]),
 Rq 105 (.mv (Tq 111)),
 Rq 112 (.ext (Tq 105) 0),
 Rq 113 (.ext (Tq 105) 1),
 Rq 16 (.mv (Tq 112)),
 Rq 17 (.mv (Tq 113))])
 (.seq (.reg [Rq 114 (.mv (Tq 17)),
 Rq 11 (.mv (Tq 114))])
 (.seq (.reg [Rq 115 (.mv (Tq 16)),
 Rq 116 (.mv (Tq 1)),
 Rq 117 (.bin .sub (Tq 115) (Tq 116)),
 Rq 118 (.mv (Tq 2)),
 Rq 119 (.mv (Tq 16)),
 Rq 120 (.bin .sub (Tq 118) (Tq 119)),
 Rq 18 (.mv (Tq 117)),
 Rq 19 (.mv (Tq 120))])
 (.seq (.reg [Rq 121 (.mv (Tq 12)),
 Rq 122 (.bin .quo (Tq 121) (.const (.int .i64 8))),
 Rq 20 (.mv (Tq 122))])
 (.seq (.reg [Rq 123 (.mv (Tq 18)),
 Rq 124 (.mv (Tq 19)),
 Rq 125 (.bin .lss (Tq 123) (Tq 124))])
 (.cond (Tq 125)
 (.seq (.reg [Rq 126 (.mv (Tq 18)),
 Rq 127 (.mv (Tq 20)),
 Rq 128 (.bin .geq (Tq 126) (Tq 127)),
 Rq 10 (.mv (Tq 128))])
 (.seq (.reg [Rq 129 (.mv (Tq 0)),
 Rq 130 (.mv (Tq 1)),
 Rq 131 (.mv (Tq 16)),
 Rq 132 (.mv (Tq 3)),
 Rq 133 (.mv (Tq 4)),
 Rq 134 (.call (.func 126) [(Tq 129), (Tq 130), (Tq 131), (Tq 132), (Tq 133)])])
 (.reg [Rq 135 (.mv (Tq 16)),
 Rq 136 (.bin .add (Tq 135) (.const (.int .i64 1))),
 Rq 1 (.mv (Tq 136))])))
 (.seq (.reg [Rq 137 (.mv (Tq 19)),
 Rq 138 (.mv (Tq 20)),
 Rq 139 (.bin .geq (Tq 137) (Tq 138)),
 Rq 10 (.mv (Tq 139))])
 (.seq (.reg [Rq 140 (.mv (Tq 0)),
 Rq 141 (.mv (Tq 16)),
 Rq 142 (.bin .add (Tq 141) (.const (.int .i64 1))),
 Rq 143 (.mv (Tq 2)),
 Rq 144 (.mv (Tq 3)),
 Rq 145 (.mv (Tq 4)),
 Rq 146 (.call (.func 126) [(Tq 140), (Tq 142), (Tq 143), (Tq 144), (Tq 145)])])
 (.reg [Rq 147 (.mv (Tq 16)),
 Rq 2 (.mv (Tq 147))])))))))))))))))))))))
theorem ck_slices_pdqsortCmpFunc_api_Member : chkFun Tryz.prog 126 5 = some (rc_slices_pdqsortCmpFunc_api_Member, []) := by kernel_rfl
def rc_math_bits_Len : RCode :=
 .seq (.reg [Rq 2 (.mv (.const (.int .i64 0)))])
 (.seq (.cond (.const (.bool false))
 (.seq (.reg [Rq 3 (.mv (Tq 0)),
 Rq 4 (.conv .u32 (Tq 3)),
 Rq 5 (.call (.func 174) [(Tq 4)]),
 Rq 2 (.mv (Tq 5))])
 (.ret))
 (.skip))
 (.seq (.reg [Rq 6 (.mv (Tq 0)),
 Rq 7 (.call (.func 175) [(Tq 6)]),
 Rq 2 (.mv (Tq 7))])
 (.ret)))
theorem ck_math_bits_Len : chkFun Tryz.prog 127 1 = some (rc_math_bits_Len, [2]) := by kernel_rfl
def rc_packet_few : RCode :=
 .seq (.reg [Rq 2 (.mv (.const (.int .i64 0)))])
 (.seq (.seq (.reg [Rq 7 (.mv (Tq 0)),
 Rq 8 (.len false (Tq 7)),
 Rq 9 (.bin .gtr (Tq 8) (.const (.int .i64 5)))])
 (.cond (Tq 9)
 (.seq (.reg [Rq 2 (.mv (.const (.int .i64 2)))])
 (.ret))
 (.skip)))
 (.seq (.seq (.reg [Rq 10 (.mv (Tq 0)),
 Rq 11 (.call (.func 159) [(Tq 10)]),
 Rq 3 (.mv (Tq 11))])
 (.seq (.reg [Rq 12 (.mv (Tq 3)),
 Rq 13 (.bin .neq (Tq 12) (.const (.int .i64 0)))])
 (.cond (Tq 13)
 (.seq (.reg [Rq 14 (.mv (Tq 3)),
 Rq 2 (.mv (Tq 14))])
 (.ret))
 (.skip))))
 (.seq (.reg [Rq 15 (.mkm),
 Rq 4 (.mv (Tq 15))])
 (.seq (.seq (.reg [Rq 16 (.mv (Tq 0)),
 Rq 17 (.len false (Tq 16)),
 Rq 18 (.mv (.const (.int .i64 0)))])
 (.block 0
 (.loop
 (.seq (.reg [Rq 19 (.bin .lss (Tq 18) (Tq 17))])
 (.seq (.cond (Tq 19)
 (.skip)
 (.exit 0))
 (.seq (.block 1
 (.seq (.reg [Rq 20 (.idxA 5 (Tq 16) (Tq 18)),
 Rq 21 (.load true 5 (Tq 20)),
 Rq 6 (.zbox 37 [(.string ⟨#[]⟩), (.int .i64 0), (.int .i64 0), (.int .i64 0), (.bool false)]),
 ⟨none, none, .store 5 (Tq 6) (Tq 21)⟩])
 (.reg [Rq 22 (.mv (Tq 4)),
 Rq 23 (.fldA 0 (Tq 6)),
 Rq 24 (.load false 1 (Tq 23)),
 ⟨none, none, .mupd .string (Tq 22) (Tq 24) (.const (.bool true))⟩])))
 (.reg [Rq 25 (.bin .add (Tq 18) (.const (.int .i64 1))),
 Rq 18 (.mv (Tq 25))])))))))
 (.seq (.seq (.reg [Rq 26 (.mv (Tq 4)),
 Rq 27 (.mlen (Tq 26)),
 Rq 28 (.mv (Tq 0)),
 Rq 29 (.len false (Tq 28)),
 Rq 30 (.bin .lss (Tq 27) (Tq 29))])
 (.cond (Tq 30)
 (.seq (.reg [Rq 2 (.mv (.const (.int .i64 6)))])
 (.ret))
 (.skip)))
 (.seq (.reg [Rq 2 (.mv (.const (.int .i64 0)))])
 (.ret)))))))
theorem ck_packet_few : chkFun Tryz.prog 130 1 = some (rc_packet_few, [2]) := by kernel_rfl
def rc_node_worker_put : RCode :=
 .seq (.reg [Rq 4 (.mv (.const (.int .i64 0)))])
 (.seq (.reg [Rq 10 (.mv (Tq 0)),
 Rq 11 (.fldA 0 (Tq 10)),
 Rq 12 (.fldA 0 (Tq 11)),
 Rq 13 (.fldA 2 (Tq 12)),
 Rq 14 (.load false 1 (Tq 13)),
 Rq 15 (.mv (Tq 1)),
 Rq 16 (.call (.func 49) [(Tq 14), (Tq 15)]),
 Rq 9 (.mv (Tq 16)),
 Rq 17 (.ext (Tq 9) 0),
 Rq 18 (.ext (Tq 9) 1),
 Rq 5 (.mv (Tq 17)),
 Rq 6 (.mv (Tq 18))])
 (.seq (.dreg [[Rq 20 (.mv (Tq 0)),
 Rq 21 (.fldA 0 (Tq 20)),
 Rq 22 (.fldA 0 (Tq 21)),
 Rq 23 (.fldA 3 (Tq 22)),
 Rq 24 (.load false 1 (Tq 23)),
 Rq 25 (.mv (Tq 0)),
 Rq 26 (.fldA 0 (Tq 25)),
 Rq 27 (.fldA 0 (Tq 26)),
 Rq 28 (.fldA 2 (Tq 27)),
 Rq 29 (.load false 1 (Tq 28)),
 Rq 30 (.mv (Tq 5)),
 Rq 31 (.idxA 5 (Tq 29) (Tq 30)),
 Rq 32 (.load true 5 (Tq 31))],
 [Rq 33 (.call (.func 177) [(Tq 24), (Tq 32)])],
 [Rq 19 (.mv (Tq 33))],
 [Rq 34 (.ext (Tq 19) 0),
 Rq 35 (.ext (Tq 19) 1),
 Rq 7 (.mv (Tq 34))],
 [Rq 8 (.mv (Tq 35))]])
 (.seq (.seq (.reg [Rq 36 (.mv (Tq 8)),
 Rq 37 (.bin .eql (Tq 36) (.const (.int .i64 0)))])
 (.cond (Tq 37)
 (.reg [Rq 38 (.mv (Tq 0)),
 Rq 39 (.mv (Tq 7)),
 Rq 40 (.fldA 0 (Tq 38)),
 Rq 41 (.fldA 0 (Tq 40)),
 Rq 42 (.fldA 3 (Tq 41)),
 ⟨none, none, .store 1 (Tq 42) (Tq 39)⟩])
 (.skip)))
 (.seq (.reg [Rq 43 (.mv (Tq 8)),
 Rq 4 (.mv (Tq 43))])
 (.ret)))))
theorem ck_node_worker_put : chkFun Tryz.prog 132 2 = some (rc_node_worker_put, [4]) := by kernel_rfl
def rc_slices_BinarySearchFunc_api_Where_api_Where_string : RCode :=
 .seq (.reg [Rq 6 (.mv (.const (.int .i64 0))),
 Rq 7 (.mv (.const (.bool false)))])
 (.seq (.reg [Rq 12 (.mv (Tq 0)),
 Rq 13 (.len false (Tq 12)),
 Rq 8 (.mv (Tq 13))])
 (.seq (.reg [Rq 14 (.mv (Tq 8)),
 Rq 9 (.mv (.const (.int .i64 0))),
 Rq 10 (.mv (Tq 14))])
 (.seq (.block 0
 (.loop
 (.seq (.seq (.reg [Rq 15 (.mv (Tq 9)),
 Rq 16 (.mv (Tq 10)),
 Rq 17 (.bin .lss (Tq 15) (Tq 16))])
 (.cond (Tq 17)
 (.skip)
 (.exit 0)))
 (.block 1
 (.seq (.reg [Rq 18 (.mv (Tq 9)),
 Rq 19 (.mv (Tq 10)),
 Rq 20 (.bin .add (Tq 18) (Tq 19)),
 Rq 21 (.conv .u64 (Tq 20)),
 Rq 22 (.bin .shr (Tq 21) (.const (.int .u64 1))),
 Rq 23 (.conv .i64 (Tq 22)),
 Rq 11 (.mv (Tq 23))])
 (.seq (.reg [Rq 24 (.mv (Tq 2)),
 Rq 25 (.mv (Tq 0)),
 Rq 26 (.mv (Tq 11)),
 Rq 27 (.idxA 6 (Tq 25) (Tq 26)),
 Rq 28 (.load true 6 (Tq 27)),
 Rq 29 (.mv (Tq 1)),
 Rq 30 (.call (Tq 24) [(Tq 28), (Tq 29)]),
 Rq 31 (.bin .lss (Tq 30) (.const (.int .i64 0)))])
 (.cond (Tq 31)
 (.reg [Rq 32 (.mv (Tq 11)),
 Rq 33 (.bin .add (Tq 32) (.const (.int .i64 1))),
 Rq 9 (.mv (Tq 33))])
 (.reg [Rq 34 (.mv (Tq 11)),
 Rq 10 (.mv (Tq 34))]))))))))
 (.seq (.reg [Rq 35 (.mv (Tq 9)),
 Rq 36 (.mv (Tq 9)),
 Rq 37 (.mv (Tq 8)),
 Rq 38 (.bin .lss (Tq 36) (Tq 37)),
 Rq 39 (.mv (Tq 38)),
 ⟨(some 40), (some (39, true)), .mv (Tq 2)⟩,
 ⟨(some 41), (some (39, true)), .mv (Tq 0)⟩,
 ⟨(some 42), (some (39, true)), .mv (Tq 9)⟩,
 ⟨(some 43), (some (39, true)), .idxA 6 (Tq 41) (Tq 42)⟩,
 ⟨(some 44), (some (39, true)), .load true 6 (Tq 43)⟩,
 ⟨(some 45), (some (39, true)), .mv (Tq 1)⟩,
 ⟨(some 46), (some (39, true)), .call (Tq 40) [(Tq 44), (Tq 45)]⟩,
 ⟨(some 47), (some (39, true)), .bin .eql (Tq 46) (.const (.int .i64 0))⟩,
 Rq 48 (.pick (Tq 39) (Tq 47) (.const (.bool false))),
 Rq 6 (.mv (Tq 35)),
 Rq 7 (.mv (Tq 48))])
 (.ret)))))
theorem ck_slices_BinarySearchFunc_api_Where_api_Where_string : chkFun Tryz.prog 139 3 = some (rc_slices_BinarySearchFunc_api_Where_api_Where_string, [6, 7]) := by kernel_rfl
def rc_node_worker_find_1 : RCode :=
 .seq (.reg [Rq 2 (.box 113 6 (Tq 0)),
 Rq 4 (.mv (.const (.int .i64 0)))])
 (.seq (.reg [Rq 5 (.fldA 0 (Tq 2)),
 Rq 6 (.load false 1 (Tq 5)),
 Rq 7 (.mv (Tq 1)),
 Rq 8 (.call (.func 65) [(Tq 6), (Tq 7)]),
 Rq 4 (.mv (Tq 8))])
 (.ret))
theorem ck_node_worker_find_1 : chkFun Tryz.prog 140 2 = some (rc_node_worker_find_1, [4]) := by kernel_rfl
def rc_slices_insertionSortCmpFunc_api_Member : RCode :=
 .seq (.reg [Rq 10 (.mv (Tq 1)),
 Rq 11 (.bin .add (Tq 10) (.const (.int .i64 1))),
 Rq 8 (.mv (Tq 11))])
 (.block 0
 (.loop
 (.seq (.seq (.reg [Rq 12 (.mv (Tq 8)),
 Rq 13 (.mv (Tq 2)),
 Rq 14 (.bin .lss (Tq 12) (Tq 13))])
 (.cond (Tq 14)
 (.skip)
 (.exit 0)))
 (.seq (.block 1
 (.seq (.reg [Rq 17 (.mv (Tq 8)),
 Rq 9 (.mv (Tq 17))])
 (.block 2
 (.loop
 (.seq (.seq (.dreg [[Rq 18 (.mv (Tq 9)),
 Rq 19 (.mv (Tq 1))],
 [Rq 20 (.bin .gtr (Tq 18) (Tq 19))],
 [Rq 21 (.mv (Tq 20))],
 [⟨(some 22), (some (21, true)), .mv (Tq 3)⟩,
 ⟨(some 23), (some (21, true)), .mv (Tq 0)⟩,
 ⟨(some 24), (some (21, true)), .mv (Tq 9)⟩,
 ⟨(some 25), (some (21, true)), .idxA 5 (Tq 23) (Tq 24)⟩,
 ⟨(some 26), (some (21, true)), .load true 5 (Tq 25)⟩,
 ⟨(some 27), (some (21, true)), .mv (Tq 0)⟩,
 ⟨(some 28), (some (21, true)), .mv (Tq 9)⟩,
 ⟨(some 29), (some (21, true)), .bin .sub (Tq 28) (.const (.int .i64 1))⟩,
 ⟨(some 30), (some (21, true)), .idxA 5 (Tq 27) (Tq 29)⟩,
 ⟨(some 31), (some (21, true)), .load true 5 (Tq 30)⟩],
 [⟨(some 32), (some (21, true)), .call (Tq 22) [(Tq 26), (Tq 31)]⟩],
 [⟨(some 33), (some (21, true)), .bin .lss (Tq 32) (.const (.int .i64 0))⟩],
 [Rq 34 (.pick (Tq 21) (Tq 33) (.const (.bool false)))]])
 (.cond (Tq 34)
 (.skip)
 (.exit 2)))
 (.seq (.block 3
 (.dreg [[],
 [Rq 39 (.mkm),
 Rq 40 (.mkm),
 Rq 41 (.mkm)],
 [Rq 37 (.mv (Tq 0)),
 Rq 38 (.mv (Tq 9)),
 Rq 39 (.mv (Tq 0)),
 Rq 40 (.mv (Tq 9)),
 Rq 41 (.bin .sub (Tq 40) (.const (.int .i64 1))),
 Rq 42 (.mv (Tq 0)),
 Rq 43 (.mv (Tq 9)),
 Rq 44 (.bin .sub (Tq 43) (.const (.int .i64 1))),
 Rq 45 (.idxA 5 (Tq 42) (Tq 44)),
 Rq 46 (.load true 5 (Tq 45)),
 Rq 47 (.mv (Tq 0)),
 Rq 48 (.mv (Tq 9)),
 Rq 49 (.idxA 5 (Tq 47) (Tq 48)),
 Rq 50 (.load true 5 (Tq 49)),
 Rq 51 (.idxA 5 (Tq 37) (Tq 38)),
 ⟨none, none, .store 5 (Tq 51) (Tq 46)⟩],
 [Rq 52 (.idxA 5 (Tq 39) (Tq 41))],
 [⟨none, none, .store 5 (Tq 52) (Tq 50)⟩]]))
 (.reg [Rq 35 (.mv (Tq 9)),
 Rq 36 (.bin .sub (Tq 35) (.const (.int .i64 1))),
 Rq 9 (.mv (Tq 36))])))))))
 (.reg [Rq 15 (.mv (Tq 8)),
 Rq 16 (.bin .add (Tq 15) (.const (.int .i64 1))),
 Rq 8 (.mv (Tq 16))])))))
theorem ck_slices_insertionSortCmpFunc_api_Member : chkFun Tryz.prog 166 4 = some (rc_slices_insertionSortCmpFunc_api_Member, []) := by kernel_rfl
end Go.Proofs.YtkclokmfomnbgaaGreat
namespace Go.Proofs.YtkclokmfomnbgaaGreat
open Go.RowKit Pl
set_option linter.unusedVariables false
theorem mwithin_fun (n a b : Int) : Fun Tryz.prog 192 [.c (.v (.int .i64 n)), .c (.v (.int .i64 a)), .c (.v (.int .i64 b))] [.c (.v (.bool (wi n a b)))] := by
  refine fun_x ck_member_within rfl ?_
  (refine goI ?_; repeat (intro gg; refine goI ?_))
  (refine bIf_of (fun h => ?_) (fun h => ?_) <;> rw [h])
  · (refine goI ?_; repeat (intro gg; refine goI ?_))
    rw [wi_t h]
    (exact ⟨[], aI⟩)
  · (refine goI ?_; repeat (intro gg; refine goI ?_))
    rw [wi_f h]
    (exact ⟨[], aI⟩)
theorem mone_fun (m : Mb) (hm : m.ok) : Fun Tryz.prog 160 [.c (.agg m.row)] [.c (.v (.int .i64 m.err))] := by
  refine fun_x ck_member_one rfl ?_
  (refine goI ?_; repeat (intro gg; refine goI ?_))
  (refine .inl ⟨_, _, false, [], aI, label_fun _ hm, nobor, nI, ?_⟩)
  (refine goI ?_; repeat (intro gg; refine goI ?_))
  (refine bIf_of (fun h1 => ?_) (fun h1 => ?_) <;> rw [h1])
  · (refine goI ?_; repeat (intro gg; refine goI ?_))
    (rw [show m.err = 1 from by (first | (simp_all ; done) | (unfold Mb.err; simp_all))]; (exact ⟨[], aI⟩))
  · (refine goI ?_; repeat (intro gg; refine goI ?_))
    (refine .inl ⟨_, _, false, [], aI, mwithin_fun _ _ _, nobor, nI, ?_⟩)
    (refine goI ?_; repeat (intro gg; refine goI ?_))
    (refine bIf_of (fun h2 => ?_) (fun h2 => ?_) <;> rw [h2])
    · (refine goI ?_; repeat (intro gg; refine goI ?_))
      (rw [show m.err = 7 from by (first | (simp_all ; done) | (unfold Mb.err; simp_all))]; (exact ⟨[], aI⟩))
    · (refine goI ?_; repeat (intro gg; refine goI ?_))
      (refine .inl ⟨_, _, false, [], aI, mwithin_fun _ _ _, nobor, nI, ?_⟩)
      (refine goI ?_; repeat (intro gg; refine goI ?_))
      (refine bIf_of (fun h3 => ?_) (fun h3 => ?_) <;> rw [h3])
      · (refine goI ?_; repeat (intro gg; refine goI ?_))
        (rw [show m.err = 3 from by (first | (simp_all ; done) | (unfold Mb.err; simp_all))]; (exact ⟨[], aI⟩))
      · (refine goI ?_; repeat (intro gg; refine goI ?_))
        (refine .inl ⟨_, _, false, [], aI, mwithin_fun _ _ _, nobor, nI, ?_⟩)
        (refine goI ?_; repeat (intro gg; refine goI ?_))
        (refine bIf_of (fun h4 => ?_) (fun h4 => ?_) <;> rw [h4])
        · (refine goI ?_; repeat (intro gg; refine goI ?_))
          (rw [show m.err = 3 from by (first | (simp_all ; done) | (unfold Mb.err; simp_all))]; (exact ⟨[], aI⟩))
        · (refine goI ?_; repeat (intro gg; refine goI ?_))
          (rw [show m.err = 0 from by (first | (simp_all ; done) | (unfold Mb.err; simp_all))]; (exact ⟨[], aI⟩))
theorem rone_fun (m : Mb) (hm : m.ok) : Fun Tryz.prog 112 [.c (.agg m.row)] [.c (.v (.int .i64 m.err))] := by
  refine fun_x ck_hearsayref_OneMember rfl ?_
  (refine goI ?_; repeat (intro gg; refine goI ?_))
  (refine .inl ⟨_, _, false, [], aI, rlabel_fun _ hm, nobor, nI, ?_⟩)
  (refine goI ?_; repeat (intro gg; refine goI ?_))
  (refine bIf_of (fun h1 => ?_) (fun h1 => ?_) <;> rw [h1])
  · (refine goI ?_; repeat (intro gg; refine goI ?_))
    (rw [show m.err = 1 from by (first | (simp_all ; done) | (unfold Mb.err; simp_all))]; (exact ⟨[], aI⟩))
  · (refine goI ?_; repeat (intro gg; refine goI ?_))
    (refine .inl ⟨_, _, false, [], aI, between_fun _ _ _, nobor, nI, ?_⟩)
    (refine goI ?_; repeat (intro gg; refine goI ?_))
    (refine bIf_of (fun h2 => ?_) (fun h2 => ?_) <;> rw [h2])
    · (refine goI ?_; repeat (intro gg; refine goI ?_))
      (rw [show m.err = 7 from by (first | (simp_all ; done) | (unfold Mb.err; simp_all))]; (exact ⟨[], aI⟩))
    · (refine goI ?_; repeat (intro gg; refine goI ?_))
      (refine .inl ⟨_, _, false, [], aI, between_fun _ _ _, nobor, nI, ?_⟩)
      (refine goI ?_; repeat (intro gg; refine goI ?_))
      (refine bIf_of (fun h3 => ?_) (fun h3 => ?_) <;> rw [h3])
      · (refine goI ?_; repeat (intro gg; refine goI ?_))
        (rw [show m.err = 3 from by (first | (simp_all ; done) | (unfold Mb.err; simp_all))]; (exact ⟨[], aI⟩))
      · (refine goI ?_; repeat (intro gg; refine goI ?_))
        (refine .inl ⟨_, _, false, [], aI, address_fun _, nobor, nI, ?_⟩)
        (refine goI ?_; repeat (intro gg; refine goI ?_))
        (refine bIf_of (fun h4 => ?_) (fun h4 => ?_) <;> rw [h4])
        · (refine goI ?_; repeat (intro gg; refine goI ?_))
          (rw [show m.err = 3 from by (first | (simp_all ; done) | (unfold Mb.err; simp_all))]; (exact ⟨[], aI⟩))
        · (refine goI ?_; repeat (intro gg; refine goI ?_))
          (rw [show m.err = 0 from by (first | (simp_all ; done) | (unfold Mb.err; simp_all))]; (exact ⟨[], aI⟩))
theorem mnumber_fun (b : Bool) : Fun Tryz.prog 163 [.c (.v (.bool b))] [.c (.v (.int .i64 (b2i b)))] := by
  refine fun_x ck_member_number rfl ?_
  (refine goI ?_; repeat (intro gg; refine goI ?_))
  (refine bIf_of (fun h => ?_) (fun h => ?_) <;> rw [h])
  · (refine goI ?_; repeat (intro gg; refine goI ?_))
    (exact ⟨[], aI⟩)
  · (refine goI ?_; repeat (intro gg; refine goI ?_))
    (exact ⟨[], aI⟩)
theorem mcmp_fun (g x : Mb) : Fun Tryz.prog 111 [.c (.agg g.row), .c (.agg x.row)] [.c (.v (.int .i64 (Mb.cmp g x)))] := by
  refine fun_x ck_member_Compare rfl ?_
  (refine goI ?_; repeat (intro gg; refine goI ?_))
  (refine ⟨_, _, false, aI, cmpi_fun _ _, nobor, nI, ?_⟩)
  (refine goI ?_; repeat (intro gg; refine goI ?_))
  (refine ⟨_, _, false, aI, cmpi_fun _ _, nobor, nI, ?_⟩)
  (refine goI ?_; repeat (intro gg; refine goI ?_))
  (refine ⟨_, _, false, aI, cmpi_fun _ _, nobor, nI, ?_⟩)
  (refine goI ?_; repeat (intro gg; refine goI ?_))
  (refine ⟨_, _, false, aI, mnumber_fun _, nobor, nI, ?_⟩)
  (refine goI ?_; repeat (intro gg; refine goI ?_))
  (refine .inl ⟨_, _, false, [], aI, mnumber_fun _, nobor, nI, ?_⟩)
  (refine goI ?_; repeat (intro gg; refine goI ?_))
  (refine .inl ⟨_, _, false, [], aI, cmpi_fun _ _, nobor, nI, ?_⟩)
  (refine goI ?_; repeat (intro gg; refine goI ?_))
  (refine .inl ⟨_, _, true, [], aI, or_fun false [icmp g.lf x.lf, icmp g.st x.st, icmp g.ad x.ad, icmp (b2i g.sv) (b2i x.sv)] (by simp), (fun _ => fI), nI, ?_⟩)
  (refine goI ?_; repeat (intro gg; refine goI ?_))
  (exact ⟨[], aI⟩)
theorem rnewer_fun (g x : Mb) : Fun Tryz.prog 58 [.c (.agg g.row), .c (.agg x.row)] [.c (.v (.bool (Mb.nw g x)))] := by
  refine fun_x ck_hearsayref_NewerMember rfl ?_
  (refine goI ?_; repeat (intro gg; refine goI ?_))
  (refine bIf_of (fun h1 => ?_) (fun h1 => ?_) <;> rw [h1])
  · (refine goI ?_; repeat (intro gg; refine goI ?_))
    rw [show Mb.nw g x = decide (x.lf < g.lf) from nz_ne h1]
    (exact ⟨[], aI⟩)
  · have e1 : Mb.nw g x = decide (0 < firstNZ [icmp g.st x.st, icmp g.ad x.ad, icmp (b2i g.sv) (b2i x.sv)]) := by unfold Mb.nw Mb.cmp; rw [nz_eq h1]
    (refine goI ?_; repeat (intro gg; refine goI ?_))
    (refine bIf_of (fun h2 => ?_) (fun h2 => ?_) <;> rw [h2])
    · (refine goI ?_; repeat (intro gg; refine goI ?_))
      rw [e1, nz_ne h2]
      (exact ⟨[], aI⟩)
    · rw [nz_eq h2] at e1
      (refine goI ?_; repeat (intro gg; refine goI ?_))
      (refine bIf_of (fun h3 => ?_) (fun h3 => ?_) <;> rw [h3])
      · (refine goI ?_; repeat (intro gg; refine goI ?_))
        rw [e1, nz_ne h3]
        (exact ⟨[], aI⟩)
      · rw [nz_eq h3, nzb_last] at e1
        (refine goI ?_; repeat (intro gg; refine goI ?_))
        (refine bIf_of (fun h4 => ?_) (fun h4 => ?_) <;> rw [h4])
        · (refine goI ?_; repeat (intro gg; refine goI ?_))
          rw [e1, h4, Bool.true_and]
          (exact ⟨[], aI⟩)
        · (refine goI ?_; repeat (intro gg; refine goI ?_))
          rw [e1, h4, Bool.false_and]
          (exact ⟨[], aI⟩)
end Go.Proofs.YtkclokmfomnbgaaGreat
namespace Go.Proofs.YtkclokmfomnbgaaGreat
open Go.RowKit
set_option linter.unusedVariables false
section
variable {α : Type} {enc : α → List Value} {sz : Nat} {w w' : World} {A : Option Addr} {l : List α}
def RL (enc : α → List Value) (sz : Nat) (w : World) (A : Option Addr) (l : List α) : Prop :=
  0 < l.length → ∃ b off, A = some ⟨b, off, none⟩ ∧ b < w.heap.size ∧ ∀ i, (h : i < l.length) → ∀ j u, (enc l[i])[j]? = some u → w.cell? ⟨b, off + i * sz + j, none⟩ = some u
theorem RL.nil : RL enc sz w A [] := fun h => absurd h (by simp)
theorem RL.at_ (h : RL enc sz w A l) {k : Nat} (hk : k < l.length) : ∃ b off, A = some ⟨b, off, none⟩ ∧ b < w.heap.size ∧ ∀ j u, (enc l[k])[j]? = some u → w.cell? ⟨b, off + k * sz + j, none⟩ = some u := by
  obtain ⟨b, off, hA, hb, hc⟩ := h (by omega)
  exact ⟨b, off, hA, hb, hc k hk⟩
theorem own_mono {w : World} {base base' : Nat} {e : TypeId} {v : Value} {n : Nat} {xs : List Value} (h : w.ownsRow base e sz v n xs) (hb : base' ≤ base) : w.ownsRow base' e sz v n xs := by
  obtain ⟨h1, h2⟩ := h
  refine ⟨h1, ?_⟩
  rcases h2 with h2 | ⟨g, cap, cur, hv, hg, r⟩
  · exact .inl h2
  · exact .inr ⟨g, cap, cur, hv, by omega, r⟩
end
end Go.Proofs.YtkclokmfomnbgaaGreat
namespace Go.Proofs.YtkclokmfomnbgaaGreat
open Go.RowKit
set_option linter.unusedVariables false
section
variable {P : Program}
theorem run_copyN (w : World) (dT sT ty elem : TypeId) (sz : Nat) (g o dLen dCap : Nat) (a : Addr) (sLen sCap : Nat) (cur : Array Value) (t : TypeId) (cs : List Value)
    (hu : P.underlying dT = some (.slice elem)) (hs : (P.info? elem).map (·.size) = some sz)
    (hg : w.heap[g]? = some (.cells cur t (0, 0))) (hn : cs.length = Nat.min sLen dLen * sz)
    (hsrc : ∀ j v, cs[j]? = some v → w.cell? (a.add j) = some v) (hfit : o + cs.length ≤ cur.size) (h1 : ∀ v ∈ cs, v.oneCell' = true) :
    (Builtin.copy_ #[dT, sT] ty #[.slice (some ⟨g, o, none⟩) dLen dCap, .slice (some a) sLen sCap]).run P w =
      .ok (goInt (Nat.min sLen dLen)) (w.setRow g (splice cur.toList o cs).toArray) := by
  have hl := run_loadCells_list (P := P) w a cs hsrc
  have hst := run_storeCells_at P g o t cs 0 cur w hg (by simpa using hfit) h1
  rw [hn] at hl
  cases hq : P.info? elem with
  | none => simp [hq] at hs
  | some i =>
    have hi : i.size = sz := by simpa [hq] using hs
    simp only [Builtin.copy_, Builtin.lenOf, Builtin.firstCells, sizeOf, typeInfo]
    simp [run_underlying hu, hq, hi, hl, hst, splice]
theorem wp_copyN {w : World} {o : Oper} {a : Act} {K : Act → World → Prop} {Q : Exit → Act → World → Prop} (d s : Operand) (dT sT : TypeId)
    (ho : o.op = .call { callee := .builtin .copy, args := #[d, s], argTypes := #[dT, sT] }) (elem : TypeId) (sz : Nat) (hu : P.underlying dT = some (.slice elem)) (hsz : (P.info? elem).map (·.size) = some sz)
    (g off dLen dCap : Nat) (ad : Addr) (sLen sCap : Nat) (hd : a.eval d = .slice (some ⟨g, off, none⟩) dLen dCap) (hs : a.eval s = .slice (some ad) sLen sCap)
    (cur : Array Value) (t : TypeId) (hg : Blk w g t cur) (cs : List Value) (hn : cs.length = Nat.min sLen dLen * sz)
    (hsrc : ∀ j v, cs[j]? = some v → w.cell? (ad.add j) = some v) (hfit : off + cs.length ≤ cur.size) (h1 : ∀ v ∈ cs, v.oneCell' = true)
    (h : ∀ w', Blk w' g t (splice cur.toList off cs).toArray → w.grownBy w' (some g) → w.drawn ≤ w'.drawn → K (a.put o.dst (goInt (Nat.min sLen dLen))) w') : o.wp P a w K Q := by
  have hrun := run_copyN (P := P) w dT sT o.type elem sz g off dLen dCap ad sLen sCap cur t cs hu hsz hg hn hsrc hfit h1
  unfold Oper.wp
  simp [execOp, ho, resolve, invoke, builtin, hd, hs, hrun, Result.andThen]
  refine h _ ?_ ⟨rfl, rfl, rfl, by simp [World.setRow], fun k hk hne => setRow_other w g k _ (fun e => hne (by rw [e]))⟩ (Nat.le_refl _)
  exact setRow_heap w g _ _ t _ hg
theorem wpList_copyN {w : World} {ops : Array Oper} {rest : List Oper} {o : Oper} {a : Act} {Q : Exit → Act → World → Prop} (hgd : o.guard = none) (d s : Operand) (dT sT : TypeId)
    (ho : o.op = .call { callee := .builtin .copy, args := #[d, s], argTypes := #[dT, sT] }) (elem : TypeId) (sz : Nat) (hu : P.underlying dT = some (.slice elem)) (hsz : (P.info? elem).map (·.size) = some sz)
    (g off dLen dCap : Nat) (ad : Addr) (sLen sCap : Nat) (hd : a.eval d = .slice (some ⟨g, off, none⟩) dLen dCap) (hs : a.eval s = .slice (some ad) sLen sCap)
    (cur : Array Value) (t : TypeId) (hg : Blk w g t cur) (cs : List Value) (hn : cs.length = Nat.min sLen dLen * sz)
    (hsrc : ∀ j v, cs[j]? = some v → w.cell? (ad.add j) = some v) (hfit : off + cs.length ≤ cur.size) (h1 : ∀ v ∈ cs, v.oneCell' = true)
    (h : ∀ w', Blk w' g t (splice cur.toList off cs).toArray → w.grownBy w' (some g) → w.drawn ≤ w'.drawn → wpList P ops Q rest (a.put o.dst (goInt (Nat.min sLen dLen))) w') : wpList P ops Q (o :: rest) a w :=
  wpList_plain hgd fun _ hK => wp_copyN d s dT sT ho elem sz hu hsz g off dLen dCap ad sLen sCap hd hs cur t hg cs hn hsrc hfit h1 fun w' hb hw hd => hK _ _ (h w' hb hw hd)
theorem ownsRow_zero {w : World} {base : Nat} {e : TypeId} {size : Nat} {v : Value} {n : Nat} {xs : List Value} (h : w.ownsRow base e size v n xs) : w.ownsRow 0 e size v n xs := by
  refine ⟨h.1, ?_⟩
  rcases h.2 with q | ⟨g, cap, cur, hv, hg, r⟩
  · exact .inl q
  · exact .inr ⟨g, cap, cur, hv, Nat.zero_le _, r⟩
theorem wpList_appD (w : World) {ops : Array Oper} {rest : List Oper} {o : Oper} {a : Act} {Q : Exit → Act → World → Prop} (hgd : o.guard = none) (s x : Operand) (t : TypeId)
    (ho : o.op = .call { callee := .builtin .append, args := #[s, x], argTypes := #[t, t] })
    (base : Nat) (e : TypeId) (i : TypeInfo) (z : Value) (size bytes : Nat) (ht : P.underlying t = some (.slice e)) (hi : P.info? e = some i) (hz : i.zero = some z)
    (hsize : i.size = size) (hby : i.bytes = bytes) (hzs : z.cells.size = size) (hsz : 0 < size)
    (v : Value) (n : Nat) (xs : List Value) (hs : a.eval s = v) (hown : w.ownsRow base e size v n xs)
    (ad : Addr) (m c : Nat) (news : List Value) (hx : a.eval x = .slice (some ad) m c) (hl : news.length = m * size) (hnews : ∀ j u, news[j]? = some u → w.cell? (ad.add j) = some u) (h1 : ∀ u ∈ news, u.oneCell' = true)
    (h63 : n + m ≤ maxLen) (hbytes : (n + m) * bytes ≤ 140737488355328) (hbase : base ≤ w.heap.size)
    (h : ∀ v' w', w'.ownsRow base e size v' (n + m) (xs ++ news) → w.grownBy w' v.ownBlock → w.drawn ≤ w'.drawn → (v'.ownBlock = v.ownBlock ∨ v'.ownBlock = some w.heap.size) → wpList P ops Q rest (a.put o.dst v') w') :
    wpList P ops Q (o :: rest) a w := by
  refine wpList_plain hgd fun K hK => ?_
  obtain ⟨v', w', hr, h2, h3, h4, h5⟩ := run_append_own_at (P := P) w base t o.type e i z size bytes ht hi hz hsize hby hzs hsz v n xs hown ad m c news hl hnews h1 h63 hbytes hbase
  subst hsize hby
  have hd := app_own_drawn w t o.type e i z ht hi hz hsz (ownsRow_zero hown) ad m c news hl hnews h1 h63 hbytes hr
  rw [← hs, ← hx] at hr
  exact wp_value (run_app ho rfl rfl rfl hr) (hK _ _ (h v' w' h2 h3 hd h5))
theorem step_copyN {w : World} {ops : Array Oper} {o : Oper} {a : Act} {K : Act → World → Prop} {Q : Exit → Act → World → Prop} {E : Prop} (hgd : o.guard = none) (d s : Operand) (dT sT : TypeId)
    (ho : o.op = .call { callee := .builtin .copy, args := #[d, s], argTypes := #[dT, sT] }) (elem : TypeId) (sz : Nat) (hu : P.underlying dT = some (.slice elem)) (hsz : (P.info? elem).map (·.size) = some sz)
    (g off dLen dCap : Nat) (ad : Addr) (sLen sCap : Nat) (hd : a.eval d = .slice (some ⟨g, off, none⟩) dLen dCap) (hs : a.eval s = .slice (some ad) sLen sCap)
    (cur : Array Value) (t : TypeId) (hg : Blk w g t cur) (cs : List Value) (hn : cs.length = Nat.min sLen dLen * sz)
    (hsrc : ∀ j v, cs[j]? = some v → w.cell? (ad.add j) = some v) (hfit : off + cs.length ≤ cur.size) (h1 : ∀ v ∈ cs, v.oneCell' = true)
    (h : ∀ w', Blk w' g t (splice cur.toList off cs).toArray → w.grownBy w' (some g) → w.drawn ≤ w'.drawn → K (a.put o.dst (goInt (Nat.min sLen dLen))) w') :
    if Region.wanted o (yielded ops a.tmps) = true then Oper.wp P o a w K Q else E := by
  have hw : Region.wanted o (yielded ops a.tmps) = true := by simp [Region.wanted, hgd]
  rw [if_pos hw]
  exact wp_copyN d s dT sT ho elem sz hu hsz g off dLen dCap ad sLen sCap hd hs cur t hg cs hn hsrc hfit h1 h
end
theorem cell_lt {w : World} {a : Addr} {v : Value} (h : w.cell? a = some v) : a.block < w.heap.size := World.block_lt_of_cell? w _ h
theorem own_form {w : World} {base : Nat} {e : TypeId} {size : Nat} {v : Value} {n : Nat} {xs : List Value} (h : w.ownsRow base e size v n xs) : ∃ A c, v = .slice A n c := by
  rcases h.2 with ⟨rfl, rfl⟩ | ⟨g, cap, cur, rfl, _⟩
  · exact ⟨_, _, rfl⟩
  · exact ⟨_, _, rfl⟩
theorem own_base {w : World} {base : Nat} {e : TypeId} {size : Nat} {v : Value} {n : Nat} {xs : List Value} (h : w.ownsRow base e size v n xs) : ∀ k, v.ownBlock = some k → base ≤ k := fun k hk => (h.lt k hk).1
theorem blk_drop {w : World} {g : Nat} {t : TypeId} {cur : Array Value} {n : Nat} {xs : List Value} (h : Blk w g t cur) (hx : cur.toList.take n = xs) (p : Nat) :
    ∀ j v, (xs.drop p)[j]? = some v → w.cell? ((⟨g, p, none⟩ : Addr).add j) = some v := fun j v hj => by
  have e : (⟨g, p, none⟩ : Addr).add j = ⟨g, p + j, none⟩ := by unfold Addr.add; split <;> simp_all
  rw [e, h.cell]
  rw [List.getElem?_drop, ← hx] at hj
  have hlt : p + j < n := by
    have := (List.getElem?_eq_some_iff.1 hj).1
    rw [List.length_take] at this; omega
  rw [List.getElem?_take_of_lt hlt] at hj
  simpa using hj
def LB (A : Option Addr) (b : Nat) : Prop := ∃ a, A = some a ∧ a.block = b
theorem lb_of {A : Option Addr} {n c k : Nat} (h : (Value.slice A n c).ownBlock = some k) : LB A k := by
  cases A with
  | none => cases h
  | some a => exact ⟨a, rfl, by simpa [Value.ownBlock] using h⟩
theorem inl_own {w a : World} {base : Nat} {e : TypeId} {size : Nat} {v : Value} {n : Nat} {xs : List Value} {L : Nat → Prop} (h : w.ownsRow base e size v n xs) (hL : ∀ k, v.ownBlock = some k → L k) : ∀ k, v.ownBlock = some k → L k ∨ a.heap.size ≤ k := fun k hk => .inl (hL k hk)
theorem Fr.drew {L : Nat → Prop} {a w : World} (h : Fr L a w) : Fr L a w.drew := ⟨h.os, h.tape, h.output, h.size, h.block, Nat.le_succ_of_le h.drawn⟩
theorem Fr.alloc {L : Nat → Prop} {a w : World} (h : Fr L a w) (o : Obj) : Fr L a (w.alloc o) := h.grown (World.grownBy_alloc w o none) (by simp) (Nat.le_refl _)
theorem blk_at {w : World} {g : Nat} {t : TypeId} {cur : Array Value} {n : Nat} {xs : List Value} (h : Blk w g t cur) (hx : cur.toList.take n = xs) : ∀ j v, xs[j]? = some v → w.cell? ((⟨g, 0, none⟩ : Addr).add j) = some v := fun j v hj => blk_drop h hx 0 j v (by rwa [List.drop_zero])
theorem splice_room {α : Type} (cur xs vs : List α) (p n : Nat) (hx : cur.take n = xs) (hn : n ≤ cur.length) (hp : p ≤ n) (hr : n + vs.length ≤ cur.length) :
    (splice (splice cur (p + vs.length) (xs.drop p)) p vs).take (n + vs.length) = xs.take p ++ vs ++ xs.drop p := by
  have hxl : xs.length = n := by rw [← hx, List.length_take]; omega
  have e0 : cur.take p = xs.take p := by rw [← hx, List.take_take, Nat.min_eq_left hp]
  unfold splice
  have hA : ((cur.take (p + vs.length) ++ (xs.drop p ++ cur.drop (p + vs.length + (xs.drop p).length))).take p) = xs.take p := by
    rw [List.take_append_of_le_length (by rw [List.length_take]; omega), List.take_take, Nat.min_eq_left (by omega), e0]
  have hB : ((cur.take (p + vs.length) ++ (xs.drop p ++ cur.drop (p + vs.length + (xs.drop p).length))).drop (p + vs.length)) = xs.drop p ++ cur.drop (p + vs.length + (xs.drop p).length) := by
    have hlen : (cur.take (p + vs.length)).length = p + vs.length := by rw [List.length_take]; omega
    conv => lhs; arg 1; rw [← hlen]
    rw [List.drop_left]
  rw [hA, hB, ← List.append_assoc, ← List.append_assoc]
  rw [List.take_append_of_le_length (by simp; omega)]
  exact List.take_of_length_le (by simp; omega)
theorem splice_new {α : Type} (Z xs vs : List α) (p n : Nat) (hz : Z.take p = xs.take p) (hxl : xs.length = n) (hp : p ≤ n) (hr : n + vs.length ≤ Z.length) :
    (splice (splice Z p vs) (p + vs.length) (xs.drop p)).take (n + vs.length) = xs.take p ++ vs ++ xs.drop p := by
  unfold splice
  have hpl : p ≤ Z.length := by omega
  have hA : ((Z.take p ++ (vs ++ Z.drop (p + vs.length))).take (p + vs.length)) = xs.take p ++ vs := by
    rw [← List.append_assoc, List.take_append_of_le_length (by simp; omega), hz]
    exact List.take_of_length_le (by simp; omega)
  rw [hA, ← List.append_assoc, List.take_append_of_le_length (by simp; omega)]
  exact List.take_of_length_le (by simp; omega)
end Go.Proofs.YtkclokmfomnbgaaGreat
namespace Go.Proofs.YtkclokmfomnbgaaGreat
open Go.RowKit
set_option linter.unusedVariables false
theorem infoMb : (Tryz.prog.info? 37).map (fun i => (i.zero, i.size, i.bytes)) = some (some (.agg #[.string ⟨#[]⟩, .int .i64 0, .int .i64 0, .int .i64 0, .bool false]), 5, 48) := by kernel_rfl
theorem cellsMb : (Tryz.prog.info? 37).map (·.size) = some 5 := by kernel_rfl
theorem sizeMb : ∀ w, (Go.sizeOf 37).run Tryz.prog w = .ok 5 w := by
  intro w
  obtain ⟨i0, hi0, hz0, hzs, hzb⟩ := info_parts infoMb
  simp [sizeOf, typeInfo, hi0, hzs]
theorem insMb_over (vb g : Nat) (vc lb cb off : Nat) (vs cur : Array Value) (w : World) (hv : Blk w vb 37 vs) (hg : Blk w g 37 cur) (hne : vb ≠ g) (hcur : cur.size ≠ 0) :
    (callFunc 216 #[.slice (some ⟨vb, 0, none⟩) 1 vc, .slice (some ⟨g, off, none⟩) lb cb]).run Tryz.prog w = .ok (.value (.bool false)) w := by
  rw [run_callFunc_extern Tryz.func216 (by kernel_rfl) (by kernel_rfl) (by kernel_rfl) (e := Extern.SlicesOverlaps.overlaps #[22, 22] #[4]) (by kernel_rfl),
    Lib.run_overlaps_apart w 22 4 37 Tryz.underlying22 5 sizeMb ⟨vb, 0, none⟩ ⟨g, off, none⟩ 1 vc lb cb hne 37 37 vs.size cur.size
      (by unfold Blk at hv; simp [World.shape?, hv]) (by unfold Blk at hg; simp [World.shape?, hg]) hcur (hv.frozen _) (hv.frozen _)]
  rfl
def InsMb (L : Nat → Prop) (base n i : Nat) (xs vs : List Value) (w : World) (e : Ending) (w' : World) : Prop :=
  ∃ A' c', e = .returned (.slice A' (n + 1) c') ∧ w'.ownsRow base 37 5 (.slice A' (n + 1) c') (n + 1) (xs.take (i * 5) ++ vs ++ xs.drop (i * 5)) ∧ Fr L w w' ∧ ∀ k, (Value.slice A' (n + 1) c').ownBlock = some k → L k ∨ w.heap.size ≤ k
set_option maxHeartbeats 1000000 in
set_option maxRecDepth 100000 in
theorem insMb_end (base : Nat) (A : Option Addr) (n c : Nat) (xs : List Value) (vb vc : Nat) (vcur : Array Value) (vs : List Value) (w : World) (hown : w.ownsRow base 37 5 (.slice A n c) n xs) (hbase : base ≤ w.heap.size)
    (hn : n ≤ 1000) (hv : Blk w vb 37 vcur) (hvc : vcur.toList.take 5 = vs) (hvl : vs.length = 5) (h1 : ∀ v ∈ vs, v.oneCell' = true) :
    Calls Tryz.prog 206 #[.slice A n c, .int .i64 n, .slice (some ⟨vb, 0, none⟩) 1 vc] w (InsMb (LB A) base n n xs vs w) := by
  obtain ⟨i0, hi0, hz0, hzs, hzb⟩ := info_parts infoMb
  have hnc : n ≤ c ∧ c ≤ 9223372036854775807 := by
    rcases hown.2 with ⟨hv, hz⟩ | ⟨g, cap, cur, hv, _, _, h, h', _⟩
    · injection hv; omega
    · injection hv with _ _ e; subst e; exact ⟨h, h'⟩
  obtain ⟨hnc, hc63⟩ := hnc
  have hxs : xs.length = n * 5 := hown.1
  have HXS := hid hxs
  have HVL := hid hvl
  have HV := hid hv
  have HO := hid hown
  have HZ0 := hid hz0
  have HZS := hid hzs
  have HZB := hid hzb
  have HI0 := hid hi0
  clear hxs hvl hv hown hz0 hzs hzb hi0
  have hnn : ((n : Int) == (n : Int)) = true := by simp
  go_enter Tryz.func206, Tryz.ntmps206
  go_wp2_with (at_builtin; refine wpList_appD _ rfl _ _ 22 rfl base 37 i0 _ 5 48 Tryz.underlying22 HI0.out HZ0.out HZS.out HZB.out rfl (by decide) _ _ _ rfl HO.out ⟨vb, 0, none⟩ 1 vc vs rfl (by simpa using HVL.out) (blk_at HV.out hvc) h1 (by simp only [maxLen]; omega) (by omega) hbase ?_; intro v1 w1 hown1 hg1 hd1 hat1)
  all_goals go_ret
  all_goals
    obtain ⟨A', c', rfl⟩ := own_form hown1
    refine ⟨A', c', rfl, ?_, (Fr.refl _ _).grown hg1 (inl_own HO.out (fun k hk => lb_of (n := n) (c := c) hk)) hd1, fun k hk => ?_⟩
    rotate_left
    · rcases hat1 with h | h
      · exact .inl (lb_of (n := n) (c := c) (h.symm.trans hk))
      · have := h.symm.trans hk
        injection this with this
        exact .inr (by omega)
    rw [List.take_of_length_le (by have := HXS.out; omega), List.drop_of_length_le (by have := HXS.out; omega), List.append_nil]
    exact hown1
set_option maxHeartbeats 2000000 in
set_option maxRecDepth 100000 in
theorem insMb_room (base g : Nat) (n c i : Nat) (cur : Array Value) (xs : List Value) (vb vc : Nat) (vcur : Array Value) (vs : List Value) (w : World) (hg : Blk w g 37 cur) (hbg : base ≤ g) (hcs : cur.size = c * 5) (hcx : cur.toList.take (n * 5) = xs)
    (hi : i < n) (hr : n + 1 ≤ c) (hc63 : c ≤ 9223372036854775807) (hn : n ≤ 1000) (hv : Blk w vb 37 vcur) (hvc : vcur.toList.take 5 = vs) (hne : vb ≠ g) (hvl : vs.length = 5) (h1 : ∀ v ∈ vs, v.oneCell' = true) (h1x : ∀ v ∈ xs, v.oneCell' = true) :
    Calls Tryz.prog 206 #[.slice (some ⟨g, 0, none⟩) n c, .int .i64 i, .slice (some ⟨vb, 0, none⟩) 1 vc] w (InsMb (LB (some ⟨g, 0, none⟩)) base n i xs vs w) := by
  have hcl : cur.toList.length = c * 5 := by rw [Array.length_toList]; exact hcs
  have hxl : xs.length = n * 5 := by rw [← hcx, List.length_take, hcl]; omega
  have hov : ∀ lb cb, (callFunc 216 #[.slice (some ⟨vb, 0, none⟩) 1 vc, .slice (some ⟨g, (i + 1) * 5, none⟩) lb cb]).run Tryz.prog w = .ok (.value (.bool false)) w := fun lb cb => insMb_over vb g vc lb cb ((i + 1) * 5) vcur cur w hv hg hne (by omega)
  have HB2 : Hid ((splice (splice cur.toList ((i + 1) * 5) (xs.drop (i * 5))) (i * 5) vs).take ((n + 1) * 5) = xs.take (i * 5) ++ vs ++ xs.drop (i * 5)) := by
    refine hid ?_
    have h := splice_room cur.toList xs vs (i * 5) (n * 5) hcx (by rw [hcl]; omega) (by omega) (by rw [hcl, hvl]; omega)
    rw [hvl] at h
    rw [Nat.add_mul, Nat.add_mul, Nat.one_mul]
    exact h
  have HC1 : Hid ((xs.drop (i * 5)).length = Nat.min (n + 1 - i) (n - i) * 5) := by
    refine hid ?_
    rw [List.length_drop, hxl, show Nat.min (n + 1 - i) (n - i) = n - i from Nat.min_eq_right (by omega), Nat.sub_mul]
  have HC2 := hid (fun j v (hj : (xs.drop (i * 5))[j]? = some v) => blk_drop hg.drew hcx (i * 5) j v hj)
  have HC3 : Hid ((i + 1) * 5 + (xs.drop (i * 5)).length ≤ cur.size) := hid (by rw [List.length_drop]; omega)
  have HC3' : Hid ((i + 1) * 5 + (xs.drop (i * 5)).length ≤ cur.toList.length) := hid (by rw [List.length_drop, hcl]; omega)
  have HC4 := hid (fun v (hv : v ∈ xs.drop (i * 5)) => h1x v (List.mem_of_mem_drop hv))
  have HC5 : Hid (vs.length = Nat.min 1 (n + 1 - i) * 5) := by
    refine hid ?_
    rw [hvl, show Nat.min 1 (n + 1 - i) = 1 from Nat.min_eq_left (by omega)]
  have HC6 : Hid (i * 5 + vs.length ≤ (splice cur.toList ((i + 1) * 5) (xs.drop (i * 5))).toArray.size) := by
    refine hid ?_
    rw [List.size_toArray, length_splice _ _ _ (by rw [hcl, ← hcs]; exact HC3.out), hcl, hvl]
    omega
  have HXL := hid hxl
  have HVL := hid hvl
  have HG := hid hg
  have HV := hid hv
  have HCS := hid hcs
  have HNE := hid hne
  have HCX := hid hcx
  clear hxl hvl hg hv hcs hne hcx
  have hw1 : IntKind.i64.wrap ((i : Int) + 1) = (i : Int) + 1 := by rw [IntWalk.i64_in _ (by omega)]
  have hb1 : (0 : Int) ≤ (i : Int) + 1 := by omega
  have htn : ((i : Int) + 1).toNat = i + 1 := by omega
  have hb3 : (i : Int) ≤ (n : Int) + 1 := by omega
  have hb4 : (i : Int) + 1 ≤ (n : Int) + 1 := by omega
  have hb5 : (i : Int) ≤ (n : Int) := by omega
  have hb6 : ¬ c = i := by omega
  have hb7 : ¬ c = i + 1 := by omega
  have hb8 : ((i : Int) == (n : Int)) = false := by simp; omega
  go_enter Tryz.func206, Tryz.ntmps206
  go_wp2_with (simp only [hov])
  go_region_law (refine step_copyN rfl (.tmp 73) (.tmp 76) 22 22 rfl 37 5 Tryz.underlying22 cellsMb g ((i + 1) * 5) (n - i) (c - (i + 1)) ⟨g, i * 5, none⟩ (n + 1 - i) (c - i) (by simp [Act.eval, Act.put]) (by simp [Act.eval, Act.put]) cur 37 HG.out.drew (xs.drop (i * 5)) HC1.out HC2.out HC3.out HC4.out ?_; intro w1 hk1 hg1 hd1)
  have HK1 := hid hk1
  have HG1 := hid hg1
  have HV1 := hid (HV.out.drew.grown hg1 (fun e => HNE.out (by injection e)))
  clear hk1 hg1
  go_wp2_with (refine wpList_copyN rfl (.tmp 80) (.tmp 81) 22 22 rfl 37 5 Tryz.underlying22 cellsMb g (i * 5) (n + 1 - i) (c - i) ⟨vb, 0, none⟩ 1 vc (by simp [Act.eval]) (by simp [Act.eval]) _ 37 HK1.out vs HC5.out (blk_at HV1.out hvc) HC6.out h1 ?_; intro w2 hk2 hg2 hd2)
  go_ret
  refine ⟨_, _, rfl, ⟨?_, .inr ⟨g, c, _, rfl, hbg, hk2, by omega, by simpa [maxLen] using hc63, ?_, ?_⟩⟩, ?_, fun k hk => .inl ⟨_, rfl, by injection hk with hk⟩⟩
  · simp only [List.length_append, List.length_take, List.length_drop]
    have := HXL.out; have := HVL.out
    omega
  · have h1 := length_splice cur.toList ((i + 1) * 5) (xs.drop (i * 5)) HC3'.out
    have h2 := length_splice (splice cur.toList ((i + 1) * 5) (xs.drop (i * 5))) (i * 5) vs (by simpa using HC6.out)
    rw [List.size_toArray, List.toList_toArray, h2, h1]
    simpa using HCS.out
  · rw [List.toList_toArray, List.toList_toArray]
    exact HB2.out
  · have hlt := HG.out.lt
    exact ((Fr.refl _ w).drew.grown HG1.out (fun k hk => .inl (⟨_, rfl, by injection hk with hk⟩)) hd1).grown hg2 (fun k hk => .inl (⟨_, rfl, by injection hk with hk⟩)) hd2
set_option maxHeartbeats 2000000 in
set_option maxRecDepth 100000 in
theorem insMb_grow (base g : Nat) (n c i : Nat) (cur : Array Value) (xs : List Value) (vb vc : Nat) (vcur : Array Value) (vs : List Value) (w : World) (hg : Blk w g 37 cur) (hbase : base ≤ w.heap.size) (hcs : cur.size = c * 5) (hcx : cur.toList.take (n * 5) = xs)
    (hi : i < n) (hnc : n ≤ c) (hr : c < n + 1) (hn : n ≤ 1000) (hv : Blk w vb 37 vcur) (hvc : vcur.toList.take 5 = vs) (hvl : vs.length = 5) (h1 : ∀ v ∈ vs, v.oneCell' = true) (h1x : ∀ v ∈ xs, v.oneCell' = true) :
    Calls Tryz.prog 206 #[.slice (some ⟨g, 0, none⟩) n c, .int .i64 i, .slice (some ⟨vb, 0, none⟩) 1 vc] w (InsMb (LB (some ⟨g, 0, none⟩)) base n i xs vs w) := by
  obtain ⟨i0, hi0, hz0, hzs, hzb⟩ := info_parts infoMb
  have hcl : cur.toList.length = c * 5 := by rw [Array.length_toList]; exact hcs
  have hxl : xs.length = n * 5 := by rw [← hcx, List.length_take, hcl]; omega
  have hold : (Builtin.firstCells i0.size i (.slice (some ⟨g, 0, none⟩) i c)).run Tryz.prog w.drew = .ok (xs.take (i * 5)).toArray w.drew := by
    rw [hzs]
    exact run_firstCells_some w.drew 5 i ⟨g, 0, none⟩ i c (xs.take (i * 5)) (by rw [List.length_take]; omega) (fun j v hj => by
      have hj' : (xs.drop 0)[j]? = some v := by
        rw [List.drop_zero]
        rw [List.getElem?_take] at hj
        split at hj
        · exact hj
        · cases hj
      exact blk_drop hg.drew hcx 0 j v hj')
  have hkk : (n : Int) + 1 - (i : Int) = ((n + 1 - i : Nat) : Int) := by omega
  have hik : i + (n + 1 - i) = n + 1 := by omega
  obtain ⟨G, hG⟩ : ∃ G, G = grownCap w (n + 1) c 37 := ⟨_, rfl⟩
  have hGn : n + 1 ≤ G := by rw [hG]; exact grownCap_ge w _ _ _
  have hG63 : G ≤ 9223372036854775807 := by
    have := grownCap_le_maxLen w (n + 1) c 37 (by unfold maxLen; omega)
    rw [← hG] at this
    unfold maxLen at this
    omega
  obtain ⟨ROW, hROW⟩ : ∃ ROW : Array Value, ROW = (xs.take (i * 5)).toArray ++ Builtin.zeroCells (Value.agg #[.string ⟨#[]⟩, .int .i64 0, .int .i64 0, .int .i64 0, .bool false]).cells (n + 1 - i) ++ Builtin.zeroCells (Value.agg #[.string ⟨#[]⟩, .int .i64 0, .int .i64 0, .int .i64 0, .bool false]).cells (G - (n + 1)) := ⟨_, rfl⟩
  have hrz : ∀ ty, (Builtin.append_ #[22, 3] ty #[.slice (some ⟨g, 0, none⟩) i c, .int .i64 ((n : Int) + 1 - (i : Int))]).run Tryz.prog w =
      .ok (.slice (some ⟨w.heap.size, 0, none⟩) (n + 1) G) (w.drew.alloc (.cells ROW 37)) := fun ty => by
    have h := Lib.run_append_grow_zeros w 22 3 ty 37 i0 _ .i64 .i64 Tryz.underlying22 Tryz.underlying3 hi0 hz0 (some ⟨g, 0, none⟩) i c (xs.take (i * 5)) hold (n + 1 - i) (by omega) (by omega) (by omega) (by omega) (by rw [hzb]; omega) (by rw [hzb, hik]; exact growslice_fits hr (by omega))
    rw [hik] at h
    rw [hkk, hROW, hG]
    exact h
  have hRs : ROW.size = G * 5 := by
    rw [hROW]
    simp [Builtin.zeroCells, Value.cells]
    omega
  have hRl : ROW.toList.length = G * 5 := by rw [Array.length_toList]; exact hRs
  have hRt : ROW.toList.take (i * 5) = xs.take (i * 5) := by
    rw [hROW, Array.toList_append, Array.toList_append, List.append_assoc, List.take_append_of_le_length (by simp; omega), List.toList_toArray, List.take_take, Nat.min_self]
  have HB2 : Hid ((splice (splice ROW.toList (i * 5) vs) ((i + 1) * 5) (xs.drop (i * 5))).take ((n + 1) * 5) = xs.take (i * 5) ++ vs ++ xs.drop (i * 5)) := by
    refine hid ?_
    have h := splice_new ROW.toList xs vs (i * 5) (n * 5) hRt hxl (by omega) (by rw [hRl, hvl]; omega)
    rw [hvl] at h
    rw [Nat.add_mul, Nat.add_mul, Nat.one_mul]
    exact h
  have hgl := hg.lt
  have hvlt := hv.lt
  have HN := hid (Blk.new_ w.drew 37 ROW (g := w.heap.size) rfl)
  have HV := hid ((hv.drew).alloc (.cells ROW 37))
  have HG0 := hid ((hg.drew).alloc (.cells ROW 37))
  have HC1 : Hid (vs.length = Nat.min 1 (n + 1 - i) * 5) := by
    refine hid ?_
    rw [hvl, show Nat.min 1 (n + 1 - i) = 1 from Nat.min_eq_left (by omega)]
  have HC2 : Hid (i * 5 + vs.length ≤ ROW.size) := hid (by rw [hRs, hvl]; omega)
  have HC2' : Hid (i * 5 + vs.length ≤ ROW.toList.length) := hid (by rw [hRl, hvl]; omega)
  have HC3 : Hid ((xs.drop (i * 5)).length = Nat.min (n - i) (n - i) * 5) := by
    refine hid ?_
    rw [List.length_drop, hxl, show Nat.min (n - i) (n - i) = n - i from Nat.min_self _, Nat.sub_mul]
  have HC4 : Hid ((i + 1) * 5 + (xs.drop (i * 5)).length ≤ (splice ROW.toList (i * 5) vs).toArray.size) := by
    refine hid ?_
    rw [List.size_toArray, length_splice _ _ _ HC2'.out, hRl, List.length_drop]
    omega
  have HC5 := hid (fun v (hv : v ∈ xs.drop (i * 5)) => h1x v (List.mem_of_mem_drop hv))
  have HRL := hid hRl
  have HXL := hid hxl
  have HVL := hid hvl
  have HCX := hid hcx
  have HRS := hid hRs
  have HNE : Hid (w.heap.size ≠ g) := hid (by omega)
  have HNV : Hid (w.heap.size ≠ vb) := hid (by omega)
  clear hRl hxl hvl hcx hRs hold hi0 hz0 hzs hzb hkk hik hROW hG hg hv hcs hcl hRt
  have hw1 : IntKind.i64.wrap ((i : Int) + 1) = (i : Int) + 1 := by rw [IntWalk.i64_in _ (by omega)]
  have hb1 : (0 : Int) ≤ (i : Int) + 1 := by omega
  have htn : ((i : Int) + 1).toNat = i + 1 := by omega
  have hb3 : (i : Int) ≤ (n : Int) + 1 := by omega
  have hb4 : (i : Int) + 1 ≤ (n : Int) + 1 := by omega
  have hb5 : (i : Int) ≤ (n : Int) := by omega
  have hb6 : ¬ c = i := by omega
  have hb7 : ¬ G = i + 1 := by omega
  have hb9 : ¬ G = i := by omega
  have hb8 : ((i : Int) == (n : Int)) = false := by simp; omega
  go_enter Tryz.func206, Tryz.ntmps206
  go_wp2_with (first
    | (at_builtin; refine Lib.wpList_append_run _ rfl _ _ _ _ rfl _ _ rfl rfl _ _ (hrz _) ?_; clear hrz)
    | (refine wpList_copyN rfl (.tmp 43) (.tmp 44) 22 22 rfl 37 5 Tryz.underlying22 cellsMb w.heap.size (i * 5) (n + 1 - i) (G - i) ⟨vb, 0, none⟩ 1 vc (by simp [Act.eval]) (by simp [Act.eval]) ROW 37 HN.out.drew vs HC1.out (blk_at HV.out.drew hvc) HC2.out h1 ?_; intro w1 hk1 hg1 hd1))
  have HK1 := hid hk1
  have HG1 := hid hg1
  have HG0' := hid ((show Blk (w.alloc (.cells ROW 37)).drew g 37 cur from HG0.out).grown hg1 (fun e => HNE.out (by injection e with e; exact e.symm)))
  have HC2a := hid (fun j v (hj : (xs.drop (i * 5))[j]? = some v) => blk_drop HG0'.out.drew HCX.out (i * 5) j v hj)
  clear hk1 hg1
  go_region_law (refine step_copyN rfl (.tmp 50) (.tmp 53) 22 22 rfl 37 5 Tryz.underlying22 cellsMb w.heap.size ((i + 1) * 5) (n - i) (G - (i + 1)) ⟨g, i * 5, none⟩ (n - i) (c - i) (by simp [Act.eval, Act.put]) (by simp [Act.eval, Act.put]) _ 37 HK1.out.drew (xs.drop (i * 5)) HC3.out HC2a.out HC4.out HC5.out ?_; intro w2 hk2 hg2 hd2)
  have HK2 := hid hk2
  have HG2 := hid hg2
  clear hk2 hg2
  go_wp2
  go_ret
  refine ⟨_, _, rfl, ⟨?_, .inr ⟨w.heap.size, G, _, rfl, hbase, HK2.out, hGn, by simpa [maxLen] using hG63, ?_, ?_⟩⟩, ?_, fun k hk => .inr (Nat.le_of_eq (show w.heap.size = k by injection hk))⟩
  · simp only [List.length_append, List.length_take, List.length_drop]
    have := HXL.out; have := HVL.out
    omega
  · have h1 := length_splice ROW.toList (i * 5) vs HC2'.out
    have h2 := length_splice (splice ROW.toList (i * 5) vs) ((i + 1) * 5) (xs.drop (i * 5)) (by simpa using HC4.out)
    rw [List.size_toArray, List.toList_toArray, h2, h1]
    simpa using HRS.out
  · rw [List.toList_toArray, List.toList_toArray]
    exact HB2.out
  · exact ((((Fr.refl _ w).alloc _).drew.grown HG1.out (fun k hk => .inr (by injection hk with hk; omega)) hd1).drew).grown HG2.out (fun k hk => .inr (by injection hk with hk; omega)) hd2
theorem insMb_any (base : Nat) (A : Option Addr) (n c i : Nat) (xs : List Value) (vb vc : Nat) (vcur : Array Value) (vs : List Value) (w : World) (hown : w.ownsRow base 37 5 (.slice A n c) n xs) (hbase : base ≤ w.heap.size)
    (hi : i ≤ n) (hn : n ≤ 1000) (hv : Blk w vb 37 vcur) (hvc : vcur.toList.take 5 = vs) (hne : (Value.slice A n c).ownBlock ≠ some vb) (hvl : vs.length = 5) (h1 : ∀ v ∈ vs, v.oneCell' = true) (h1x : ∀ v ∈ xs, v.oneCell' = true) :
    Calls Tryz.prog 206 #[.slice A n c, .int .i64 i, .slice (some ⟨vb, 0, none⟩) 1 vc] w (InsMb (LB A) base n i xs vs w) := by
  by_cases hin : i = n
  · subst hin
    exact insMb_end base A i c xs vb vc vcur vs w hown hbase hn hv hvc hvl h1
  · obtain ⟨hl, h2⟩ := hown
    rcases h2 with ⟨_, h0⟩ | ⟨g, cap, cur, hA, hbg, hh, hnc, hm, hsz, htk⟩
    · omega
    · injection hA with hA _ hcap
      subst hA; subst hcap
      have hne' : vb ≠ g := fun e => hne (by subst e; rfl)
      by_cases hr : n + 1 ≤ c
      · exact insMb_room base g n c i cur xs vb vc vcur vs w hh hbg hsz htk (by omega) hr (by simpa [maxLen] using hm) hn hv hvc hne' hvl h1 h1x
      · exact insMb_grow base g n c i cur xs vb vc vcur vs w hh hbase hsz htk (by omega) hnc (by omega) hn hv hvc hvl h1 h1x
end Go.Proofs.YtkclokmfomnbgaaGreat
namespace Go.Proofs.YtkclokmfomnbgaaGreat
open Go.RowKit
set_option linter.unusedVariables false
def ClnMb (base n : Nat) (xs : List Value) (w : World) (e : Ending) (w' : World) : Prop :=
  ∃ A' c', e = .returned (.slice A' n c') ∧ w'.ownsRow base 37 5 (.slice A' n c') n xs ∧ Below base w w' ∧ w.drawn ≤ w'.drawn
set_option maxRecDepth 100000 in
theorem clnMb_any (A : Option Addr) (n c : Nat) (xs : List Value) (w : World) (hA : A = none → n = 0) (hn : n ≤ 1000) (hxl : xs.length = n * 5) (hx : ∀ ad, A = some ad → ∀ j u, xs[j]? = some u → w.cell? (ad.add j) = some u) (h1 : ∀ v ∈ xs, v.oneCell' = true) :
    Calls Tryz.prog 115 #[.slice A n c] w (ClnMb w.heap.size n xs w) := by
  obtain ⟨i0, hi0, hz0, hzs, hzb⟩ := info_parts infoMb
  cases A with
  | none =>
    obtain rfl := hA rfl
    obtain rfl : xs = [] := List.eq_nil_of_length_eq_zero (by simpa using hxl)
    clear hx hxl hi0 hz0 hzs hzb h1
    have hnl := fun (w : World) => Lib.run_eql_slice_nil (P := Tryz.prog) w 22 37 none 0 c 0 0 Tryz.underlying22
    go_enter Tryz.func115, Tryz.ntmps115
    go_wp2
    go_ret
    exact ⟨none, 0, rfl, World.ownsRow_nil _ _ _ _, Below.refl _ _, Nat.le_refl _⟩
  | some ad =>
    have HX := hid (hx ad rfl)
    have HXL := hid hxl
    have HZ0 := hid hz0
    have HZS := hid hzs
    have HZB := hid hzb
    have HI0 := hid hi0
    clear hx hxl hA hi0 hz0 hzs hzb
    have hnl := fun (w : World) => Lib.run_eql_slice_nil (P := Tryz.prog) w 22 37 (some ad) n c 0 0 Tryz.underlying22
    go_enter Tryz.func115, Tryz.ntmps115
    have hown0 : (w.alloc (.cells #[] 37)).ownsRow w.heap.size 37 5 (.slice (some ⟨w.heap.size, 0, none⟩) 0 0) 0 [] :=
      ⟨by simp, .inr ⟨w.heap.size, 0, #[], rfl, Nat.le_refl _, heap_alloc_new w _, by omega, by simp [maxLen], by simp, by simp⟩⟩
    have HO := hid hown0
    have HX1 := hid (fun j u (hj : xs[j]? = some u) => (World.cell?_alloc_lt w (.cells #[] 37) (ad.add j) (cell_lt (HX.out j u hj))).trans (HX.out j u hj))
    clear hown0
    go_wp2_with (at_builtin; refine wpList_appD _ rfl _ _ 22 rfl w.heap.size 37 i0 _ 5 48 Tryz.underlying22 HI0.out HZ0.out HZS.out HZB.out rfl (by decide) _ _ _ rfl HO.out ad n c xs rfl HXL.out HX1.out h1 (by simp only [maxLen]; omega) (by omega) (by simp) ?_; intro v1 w1 hown1 hg1 hd1 hat1)
    go_ret
    rw [Nat.zero_add, List.nil_append] at hown1
    obtain ⟨A', c', rfl⟩ := own_form hown1
    exact ⟨A', c', rfl, hown1, ((Below.refl _ _).alloc (Nat.le_refl _) _).grown hg1 (by simp) (own_base HO.out), hd1⟩
end Go.Proofs.YtkclokmfomnbgaaGreat
namespace Go.Proofs.YtkclokmfomnbgaaGreat
open Go.RowKit
set_option linter.unusedVariables false
section
variable {α : Type} {enc : α → List Value} {sz : Nat} {w w' : World} {R : Nat → Prop}
theorem Fr.imp {L L' : Nat → Prop} (h : Fr L w w') (hl : ∀ k, L k → L' k) : Fr L' w w' := ⟨h.os, h.tape, h.output, h.size, fun k hk hn => h.block k hk fun hl' => hn (hl k hl'), h.drawn⟩
theorem pars_one {u : V} {xs : List Value} (hp : Pars w R [.c u] xs) : ∃ v, xs = [v] ∧ RV w R noG u v := by
  have hl := hp.len
  match xs, hl with
  | [v], _ => exact ⟨v, rfl, hp.ok 0 _ _ rfl rfl⟩
theorem sl_cells (he : ∀ x, (enc x).length = sz) {cl : Bool} {l : List α} {v : Value} (h : RV w R noG (.sl cl (l.map fun x => (enc x).map .v)) v) :
    ∃ A c, v = .slice A l.length c ∧ (A = none → l.length = 0) ∧ ∀ ad, A = some ad → ∀ j u, (l.flatMap enc)[j]? = some u → w.cell? (ad.add j) = some u := by
  generalize hrows : (l.map fun x => (enc x).map V.v) = rows at h
  cases h with
  | nil _ a cap hc =>
    obtain rfl : l = [] := by simpa using hrows
    exact ⟨a, cap, rfl, fun _ => rfl, fun ad _ j u hu => by simp at hu⟩
  | sl _ _ b off cap sz' f hR hcap hclip hs hcell hh =>
    have hlen : rows.length = l.length := by rw [← hrows]; simp
    rw [hlen]
    refine ⟨some ⟨b, off, none⟩, cap, rfl, (by intro h; cases h), fun ad had j u hu => ?_⟩
    injection had with had; subst had
    rw [add_full _ _ rfl]
    have hj : j < l.length * sz := by
      have := (List.getElem?_eq_some_iff.1 hu).1
      rwa [flat_len he] at this
    have hsz : 0 < sz := by rcases Nat.eq_zero_or_pos sz with h | h; (subst h; omega); exact h
    have hd : j / sz < l.length := Nat.div_lt_of_lt_mul (by rw [Nat.mul_comm]; exact hj)
    have hm : j % sz < sz := Nat.mod_lt _ hsz
    have e2 : j = j / sz * sz + j % sz := by rw [Nat.mul_comm]; exact (Nat.div_add_mod j sz).symm
    have hrow : rows[j / sz]? = some ((enc l[j / sz]).map V.v) := by rw [← hrows]; simp [hd]
    have hsz' : sz' = sz := by rw [← hs _ (List.mem_of_getElem? hrow)]; simp [he]
    subst hsz'
    rw [e2, flat_get he (j / sz') (j % sz') hd hm] at hu
    have hu' : ((enc l[j / sz']).map V.v)[j % sz']? = some (.v u) := by rw [List.getElem?_map, hu]; rfl
    have h1 := hcell _ _ _ _ hrow hu'
    have h2 := rv_v (hh _ _ _ _ hrow hu')
    rw [h2] at h1
    show w.cell? ⟨b, off + j, none⟩ = some u
    rw [e2, ← Nat.add_assoc]; exact h1
theorem rowsR_flat (he : ∀ x, (enc x).length = sz) (h1 : ∀ x, ∀ v ∈ enc x, v.oneCell' = true) (l : List α) : RowsR w R noG (l.flatMap enc) sz (l.map fun x => (enc x).map V.v) := by
  refine ⟨fun row hr => ?_, fun i j row u g1 g2 => ?_⟩
  · obtain ⟨x, _, rfl⟩ := List.mem_map.1 hr
    simp [he]
  · have hi : i < l.length := by have := (List.getElem?_eq_some_iff.1 g1).1; simpa using this
    have e : row = (enc l[i]).map V.v := by simp [hi] at g1; exact g1.symm
    subst e
    rw [List.getElem?_map] at g2
    cases hq : (enc l[i])[j]? with
    | none => rw [hq] at g2; cases g2
    | some y =>
      rw [hq] at g2
      simp at g2; subst g2
      have hj : j < sz := by rw [← he l[i]]; exact (List.getElem?_eq_some_iff.1 hq).1
      exact ⟨y, by rw [flat_get he i j hi hj]; exact hq, h1 _ y (List.mem_of_getElem? hq), .v y⟩
theorem rowsR_inv (he : ∀ x, (enc x).length = sz) {l : List α} {xs : List Value} (hl : xs.length = l.length * sz) (h : RowsR w R noG xs sz (l.map fun x => (enc x).map V.v)) : xs = l.flatMap enc := by
  apply List.ext_getElem?
  intro j
  by_cases hj : j < l.length * sz
  · have hsz : 0 < sz := by rcases Nat.eq_zero_or_pos sz with h | h; (subst h; omega); exact h
    have hd : j / sz < l.length := Nat.div_lt_of_lt_mul (by rw [Nat.mul_comm]; exact hj)
    have hm : j % sz < sz := Nat.mod_lt _ hsz
    have e2 : j = j / sz * sz + j % sz := by rw [Nat.mul_comm]; exact (Nat.div_add_mod j sz).symm
    have hrow : (l.map fun x => (enc x).map V.v)[j / sz]? = some ((enc l[j / sz]).map V.v) := by simp [hd]
    have hy : (enc l[j / sz])[j % sz]? = some ((enc l[j / sz])[j % sz]'(by rw [he]; exact hm)) := List.getElem?_eq_getElem (by rw [he]; exact hm)
    obtain ⟨x, h1, _, h2⟩ := h.2 (j / sz) (j % sz) _ _ hrow (by rw [List.getElem?_map, hy]; rfl)
    rw [rv_v h2] at h1
    rw [e2, h1, flat_get he _ _ hd hm, hy]
  · rw [List.getElem?_eq_none (by omega), List.getElem?_eq_none (by rw [flat_len he]; omega)]
theorem flat_ins (he : ∀ x, (enc x).length = sz) (l : List α) (x : α) (i : Nat) : (l.flatMap enc).take (i * sz) ++ enc x ++ (l.flatMap enc).drop (i * sz) = (l.take i ++ [x] ++ l.drop i).flatMap enc := by
  have h : ∀ (i : Nat) (l : List α), (l.flatMap enc).take (i * sz) = (l.take i).flatMap enc ∧ (l.flatMap enc).drop (i * sz) = (l.drop i).flatMap enc := by
    intro i
    induction i with
    | zero => intro l; simp
    | succ i ih =>
      intro l
      cases l with
      | nil => simp
      | cons y l =>
        have hy := he y
        have := ih l
        rw [List.flatMap_cons, Nat.add_mul, Nat.one_mul]
        constructor
        · rw [List.take_append, hy, List.take_of_length_le (by rw [hy]; omega), show i * sz + sz - sz = i * sz by omega, this.1, List.take_succ_cons, List.flatMap_cons]
        · rw [List.drop_append, hy, List.drop_of_length_le (by rw [hy]; omega), show i * sz + sz - sz = i * sz by omega, this.2, List.drop_succ_cons, List.nil_append]
  rw [(h i l).1, (h i l).2]
  simp
theorem own_result {T : TypeId} {base : Nat} (he : ∀ x, (enc x).length = sz) (h1 : ∀ x, ∀ v ∈ enc x, v.oneCell' = true) (hsz : 0 < sz) {l : List α} {A : Option Addr} {c : Nat} {L : Nat → Prop} (hlt : ∀ b, R b → b < w.heap.size)
    (hown : w'.ownsRow base T sz (.slice A l.length c) l.length (l.flatMap enc)) (hfr : Fr L w w') (hk : ∀ k, (Value.slice A l.length c).ownBlock = some k → L k ∨ w.heap.size ≤ k) (hn : ∀ k, (Value.slice A l.length c).ownBlock = some k → ¬ R k) :
    ∃ (ys : List Value) (R' : Nat → Prop), Ending.returned (.slice A l.length c) = .returned (packV ys) ∧ Fr L w w' ∧ (∀ b, R b → R' b) ∧
      (∀ b, R' b → R b ∨ (b < w'.heap.size ∧ (L b ∨ w.heap.size ≤ b))) ∧ Pars w' R' [.o T sz (l.map fun x => (enc x).map V.v)] ys ∧ (∀ b, ParBlk [.o T sz (l.map fun x => (enc x).map V.v)] ys b → L b ∨ w.heap.size ≤ b) := by
  have hpb : ∀ b, ParBlk [.o T sz (l.map fun x => (enc x).map V.v)] [.slice A l.length c] b → (Value.slice A l.length c).ownBlock = some b := by
    rintro b ⟨i, T', sz', rows', x, g1, g2, g3⟩
    cases i with
    | zero => simp at g2; subst g2; exact g3
    | succ i => simp at g1
  refine ⟨[.slice A l.length c], R, rfl, hfr, fun _ h => h, fun b h => .inl h, ⟨rfl, ?_, ?_, ?_⟩, fun b hb => hk b (hpb b hb)⟩
  · intro i p x g1 g2
    cases i with
    | zero =>
      simp at g1 g2; subst g1 g2
      exact ⟨hsz, _, by rw [List.length_map]; exact own_mono hown (Nat.zero_le _), rowsR_flat he h1 l⟩
    | succ i => simp at g1
  · intro i j T1 sz1 rows1 T2 sz2 rows2 x y b hij g1 g2
    cases i with
    | zero => cases j with
      | zero => exact absurd rfl hij
      | succ j => simp at g2
    | succ i => simp at g1
  · intro b hb; exact hn b (hpb b hb)
theorem pars_ins {T : TypeId} (he : ∀ x, (enc x).length = sz) {l : List α} {x : α} {z : Value} {xs : List Value} (hp : Pars w R [.o T sz (l.map fun x => (enc x).map V.v), .c (.v z), .o T sz [(enc x).map V.v]] xs) :
    ∃ v0 v2, xs = [v0, z, v2] ∧ w.ownsRow 0 T sz v0 l.length (l.flatMap enc) ∧ w.ownsRow 0 T sz v2 1 (enc x) ∧ (∀ b, v0.ownBlock = some b → v2.ownBlock ≠ some b) ∧ ∀ b, ParBlk [.o T sz (l.map fun x => (enc x).map V.v), .c (.v z), .o T sz [(enc x).map V.v]] xs b → ¬ R b := by
  have hl := hp.len
  match xs, hl with
  | [v0, v1, v2], _ =>
    obtain ⟨_, x0, h0, h0'⟩ := hp.ok 0 _ _ rfl rfl
    have h1 : RV w R noG (.v z) v1 := hp.ok 1 _ _ rfl rfl
    obtain ⟨_, x2, h2, h2'⟩ := hp.ok 2 _ _ rfl rfl
    obtain rfl := rv_v h1
    rw [List.length_map] at h0
    obtain rfl := rowsR_inv he h0.1 h0'
    have h2'' : RowsR w R noG x2 sz ([x].map fun x => (enc x).map V.v) := h2'
    have e2 := rowsR_inv he (l := [x]) h2.1 h2''
    simp only [List.flatMap_cons, List.flatMap_nil, List.append_nil] at e2
    rw [e2] at h2
    exact ⟨v0, v2, rfl, h0, h2, fun b g1 g2 => hp.apart 0 2 _ _ _ _ _ _ _ _ b (by omega) rfl rfl rfl rfl g1 g2, hp.free⟩
end
end Go.Proofs.YtkclokmfomnbgaaGreat
namespace Go.Proofs.YtkclokmfomnbgaaGreat
open Go.RowKit
set_option linter.unusedVariables false
theorem cloneMb_fun {α : Type} (enc : α → List Value) (he : ∀ x, (enc x).length = 5) (h1 : ∀ x, ∀ v ∈ enc x, v.oneCell' = true) (cl : Bool) (l : List α) (hl : l.length ≤ 1000) :
    Fun Tryz.prog 115 [.c (.sl cl (l.map fun x => (enc x).map .v))] [.o 37 5 (l.map fun x => (enc x).map .v)] := by
  refine ⟨callable Tryz.func115 (by kernel_rfl) (by kernel_rfl), fun w R xs hlt hp => ?_⟩
  obtain ⟨v, rfl, hv⟩ := pars_one hp
  obtain ⟨A, c, rfl, hA, hx⟩ := sl_cells he hv
  have hone : ∀ v ∈ l.flatMap enc, v.oneCell' = true := fun v hv => by
    obtain ⟨g, _, hg⟩ := List.mem_flatMap.1 hv
    exact h1 g v hg
  refine (clnMb_any A l.length c (l.flatMap enc) w hA hl (flat_len he l) hx hone).mono ?_
  rintro e w' ⟨A', c', rfl, hown, hb, hd⟩
  exact own_result he h1 (by decide) hlt hown (fr_of_below hb hd) (fun k hk => .inr (own_base hown k hk)) (fun k hk => by have := own_base hown k hk; intro h; have := hlt k h; omega)
set_option maxHeartbeats 1000000 in
theorem insertMb_fun {α : Type} (enc : α → List Value) (he : ∀ x, (enc x).length = 5) (h1 : ∀ x, ∀ v ∈ enc x, v.oneCell' = true) (l : List α) (x : α) (i : Nat) (hi : i ≤ l.length) (hl : l.length ≤ 1000) :
    Fun Tryz.prog 206 [.o 37 5 (l.map fun x => (enc x).map .v), .c (.v (.int .i64 i)), .o 37 5 [(enc x).map .v]] [.o 37 5 ((l.take i ++ [x] ++ l.drop i).map fun x => (enc x).map .v)] := by
  refine ⟨callable Tryz.func206 (by kernel_rfl) (by kernel_rfl), fun w R xs hlt hp => ?_⟩
  obtain ⟨v0, v2, rfl, o0, o2, hap, hf0⟩ := pars_ins (enc := enc) he hp
  obtain ⟨A, c, rfl⟩ := own_form o0
  rcases o2.2 with ⟨_, h0⟩ | ⟨g, cap, cur, rfl, _, hh, hcap, _, hsz, htk⟩
  · omega
  have hone : ∀ v ∈ l.flatMap enc, v.oneCell' = true := fun v hv => by
    obtain ⟨g, _, hg⟩ := List.mem_flatMap.1 hv
    exact h1 g v hg
  refine (insMb_any 0 A l.length c i (l.flatMap enc) g cap cur (enc x) w o0 (Nat.zero_le _) hi hl hh (by rw [Nat.one_mul] at htk; exact htk) (fun e => hap g e rfl) (he x) (h1 x) hone).mono ?_
  rintro e w' ⟨A', c', rfl, hown, hb, hk⟩
  rw [flat_ins he l x i, show l.length + 1 = (l.take i ++ [x] ++ l.drop i).length by simp; omega] at hown
  rw [show l.length + 1 = (l.take i ++ [x] ++ l.drop i).length by simp; omega] at hk ⊢
  have hL : ∀ k, LB A k → ParBlk [.o 37 5 (l.map fun x => (enc x).map .v), .c (.v (.int .i64 i)), .o 37 5 [(enc x).map .v]] [.slice A l.length c, .int .i64 i, .slice (some ⟨g, 0, none⟩) 1 cap] k := fun k ⟨a, ha, hq⟩ => ⟨0, _, _, _, _, rfl, rfl, by subst ha; simp only [Value.ownBlock]; rw [hq]⟩
  exact own_result he h1 (by decide) hlt hown (hb.imp hL) (fun k hk' => (hk k hk').imp (hL k) (fun h => h)) (fun k hk' => by
    rcases hk k hk' with h | h
    · exact hf0 k (hL k h)
    · intro h'; have := hlt k h'; omega)
end Go.Proofs.YtkclokmfomnbgaaGreat
namespace Go.Proofs.YtkclokmfomnbgaaGreat
open Go.RowKit Pl
set_option linter.unusedVariables false
theorem mEach_fun (c : Bool) (l : List Mb) (hl : l.length ≤ 9223372036854775807) (hw : ∀ m ∈ l, m.ok) : Fun Tryz.prog 159 [.c (.sl c (l.map Mb.row))] [.c (.v (.int .i64 (firstErr Mb.err l)))] := by
  refine fun_x ck_member_Each rfl ?_
  (refine goI ?_; repeat (intro gg; refine goI ?_))
  rw [List.length_map]
  (refine ⟨[], none, {k : Nat // k ≤ l.length ∧ ∀ j, (h : j < l.length) → j < k → (l[j]).err = 0}, [6, 7], fun ⟨k, hk, h0⟩ => [(8, .v (.int .i64 k))], [], fun ⟨k, hk, h0⟩ => [], fun ⟨k, hk, h0⟩ => l.length - k, trivial, fun _ => ⟨trivial, fun _ => ⟨⟨0, by omega, fun j _ h => by omega⟩, tI, keptE_refl _ _, tI, keptH_refl _ _⟩⟩, fun ⟨k, hk, h0⟩ => ?_⟩)
  (refine goI ?_; repeat (intro gg; refine goI ?_))
  (refine bIf_of (fun h => ?_) (fun h => ?_) <;> rw [h])
  · have hlt : k < l.length := by simpa using h
    (refine goI ?_; repeat (intro gg; refine goI ?_))
    refine ⟨k, _, rfl, row_map hlt, ?_⟩
    (refine goI ?_; repeat (intro gg; refine goI ?_))
    (refine .inl ⟨_, _, false, [], aI, mone_fun _ (hw _ (List.getElem_mem hlt)), nobor, nI, ?_⟩)
    (refine goI ?_; repeat (intro gg; refine goI ?_))
    (refine bIf_of (fun h => ?_) (fun h => ?_) <;> rw [h])
    · (refine goI ?_; repeat (intro gg; refine goI ?_))
      rw [firstErr_at hlt h0 (by simpa using h)]
      (exact ⟨[], aI⟩)
    · (refine goI ?_; repeat (intro gg; refine goI ?_))
      (exact ⟨none, trivial, fun _ => ⟨⟨k + 1, by omega, up1 (p := fun j h => (l[j]).err = 0) h0 (fun _ => by simpa using h)⟩, by show l.length - (k + 1) < l.length - k; omega, tI, tI, tI, tI⟩⟩)
  · have hge : ¬ k < l.length := by simpa using h
    (refine goI ?_; repeat (intro gg; refine goI ?_))
    rw [firstErr_zero (l := l) (fun i hi => h0 i hi (by omega))]
    (exact ⟨[], aI⟩)
def lsRow (l : List Mb) : List V := [.sl false (l.map Mb.row)]
theorem mcheck_fun (c : Bool) (ls : List (List Mb)) (hls : ls.length ≤ 9223372036854775807) (hl : ∀ l ∈ ls, l.length ≤ 9223372036854775807) (hw : ∀ l ∈ ls, ∀ m ∈ l, m.ok) : Fun Tryz.prog 101 [.c (.sl c (ls.map lsRow))] [.c (.v (.int .i64 (firstErr ckMb ls)))] := by
  refine fun_x ck_member_check rfl ?_
  (refine goI ?_; repeat (intro gg; refine goI ?_))
  rw [List.length_map]
  (refine ⟨[], none, {k : Nat // k ≤ ls.length ∧ ∀ j, (h : j < ls.length) → j < k → ckMb (ls[j]) = 0}, [7, 8], fun ⟨k, hk, h0⟩ => [(9, .v (.int .i64 k))], [], fun ⟨k, hk, h0⟩ => [], fun ⟨k, hk, h0⟩ => ls.length - k, trivial, fun _ => ⟨trivial, fun _ => ⟨⟨0, by omega, fun j _ h => by omega⟩, tI, keptE_refl _ _, tI, keptH_refl _ _⟩⟩, fun ⟨k, hk, h0⟩ => ?_⟩)
  (refine goI ?_; repeat (intro gg; refine goI ?_))
  (refine bIf_of (fun h => ?_) (fun h => ?_) <;> rw [h])
  · have hlt : k < ls.length := by simpa using h
    (refine goI ?_; repeat (intro gg; refine goI ?_))
    refine ⟨k, _, rfl, row_map hlt, ?_⟩
    (refine goI ?_; repeat (intro gg; refine goI ?_))
    have HL := hl _ (List.getElem_mem hlt)
    have HW := hw _ (List.getElem_mem hlt)
    have HE := firstErr_at (e := ckMb) hlt h0
    have HN : ckMb ls[k] = 0 → ∀ j, (h : j < ls.length) → j < k + 1 → ckMb (ls[j]) = 0 := fun e => up1 (p := fun j h => ckMb (ls[j]) = 0) h0 (fun _ => e)
    generalize ls[k] = l at *
    rw [List.length_map]
    (refine bIf_of (fun h1 => ?_) (fun h1 => ?_) <;> rw [h1])
    · (refine goI ?_; repeat (intro gg; refine goI ?_))
      have e : ckMb l = 2 := ckL_long (by have := of_decide_eq_true h1; omega)
      rw [HE (by rw [e]; decide), e]
      (exact ⟨[], aI⟩)
    · have h1' : ¬ 20 < l.length := (by have := of_decide_eq_false h1; omega)
      (refine goI ?_; repeat (intro gg; refine goI ?_))
      (refine .inl ⟨_, _, false, [], aI, mEach_fun false l HL HW, nobor, nI, ?_⟩)
      (refine goI ?_; repeat (intro gg; refine goI ?_))
      (refine bIf_of (fun h2 => ?_) (fun h2 => ?_) <;> rw [h2])
      · have h2' : firstErr Mb.err l ≠ 0 := by simpa using h2
        (refine goI ?_; repeat (intro gg; refine goI ?_))
        have e : ckMb l = firstErr Mb.err l := ckL_each h1' h2'
        rw [HE (by rw [e]; exact h2'), e]
        (exact ⟨[], aI⟩)
      · have h2' : firstErr Mb.err l = 0 := by simpa using h2
        (refine goI ?_; repeat (intro gg; refine goI ?_))
        (refine ⟨[], none, {k : Nat // (k < l.length ∨ k = 0) ∧ ∀ i, (h : i + 1 < l.length) → i < k → Mb.lt l[i] l[i + 1] = true}, [4, 7, 8, 9], fun ⟨q, hq, g0⟩ => [(6, .v (.int .i64 ((q : Int) + 1)))], [], fun ⟨q, hq, g0⟩ => [], fun ⟨q, hq, g0⟩ => l.length - q, trivial, fun _ => ⟨trivial, fun _ => ⟨⟨0, by omega, fun j _ h => by omega⟩, tI, keptE_refl _ _, tI, keptH_refl _ _⟩⟩, fun ⟨q, hq, g0⟩ => ?_⟩)
        (refine goI ?_; repeat (intro gg; refine goI ?_))
        rw [List.length_map]
        (refine bIf_of (fun h3 => ?_) (fun h3 => ?_) <;> rw [h3])
        · have hlt3 : q + 1 < l.length := (by have := of_decide_eq_true h3; omega)
          (refine goI ?_; repeat (intro gg; refine goI ?_))
          refine ⟨q + 1, _, by omega, row_map hlt3, ?_⟩
          (refine goI ?_; repeat (intro gg; refine goI ?_))
          refine ⟨q, _, by omega, row_map (by omega), ?_⟩
          (refine goI ?_; repeat (intro gg; refine goI ?_))
          rw [sle_eq]
          (refine bIf_of (fun h4 => ?_) (fun h4 => ?_) <;> rw [h4])
          · (refine goI ?_; repeat (intro gg; refine goI ?_))
            have e : ckMb l = 4 := ckL_no h1' h2' (sorted_not hlt3 (by simpa [Mb.lt] using h4))
            rw [HE (by rw [e]; decide), e]
            (exact ⟨[], aI⟩)
          · (refine goI ?_; repeat (intro gg; refine goI ?_))
            (exact ⟨none, trivial, fun _ => ⟨⟨q + 1, by omega, up2 (p := fun i h => Mb.lt l[i] l[i + 1] = true) g0 (fun _ => by simpa [Mb.lt] using h4)⟩, by show l.length - (q + 1) < l.length - q; omega, tI, tI, tI, tI⟩⟩)
        · have hge3 : ¬ q + 1 < l.length := (by have := of_decide_eq_false h3; omega)
          (refine goI ?_; repeat (intro gg; refine goI ?_))
          have e : ckMb l = 0 := ckL_yes h1' h2' (sorted_of fun i hi => g0 i hi (by omega))
          (exact ⟨none, trivial, fun _ => ⟨⟨k + 1, by omega, HN e⟩, by show ls.length - (k + 1) < ls.length - k; omega, tI, tI, tI, tI⟩⟩)
  · have hge : ¬ k < ls.length := by simpa using h
    (refine goI ?_; repeat (intro gg; refine goI ?_))
    rw [firstErr_zero (l := ls) (fun i hi => h0 i hi (by omega))]
    (exact ⟨[], aI⟩)
theorem mCheck_fun (l : List Mb) (hl : l.length ≤ 9223372036854775807) (hw : ∀ m ∈ l, m.ok) : Fun Tryz.prog 43 [.c (.sl false (l.map Mb.row))] [.c (.v (.int .i64 (ckMb l)))] := by
  refine fun_x ck_member_Check rfl ?_
  (refine goI ?_; repeat (intro gg; refine goI ?_))
  (refine .inl ⟨_, _, true, [], aI, mcheck_fun false [l] (by simp) (by simpa using hl) (by simpa using hw), (fun _ => fI), nI, ?_⟩)
  rw [firstErr_one]
  (refine goI ?_; repeat (intro gg; refine goI ?_))
  (exact ⟨[], aI⟩)
theorem rcheck_fun (c : Bool) (l : List Mb) (hl : l.length ≤ 9223372036854775807) (hw : ∀ m ∈ l, m.ok) : Fun Tryz.prog 51 [.c (.sl c (l.map Mb.row))] [.c (.v (.int .i64 (ckMb l)))] := by
  refine fun_x ck_hearsayref_CheckMembers rfl ?_
  (refine goI ?_; repeat (intro gg; refine goI ?_))
  rw [List.length_map]
  (refine bIf_of (fun h1 => ?_) (fun h1 => ?_) <;> rw [h1])
  · (refine goI ?_; repeat (intro gg; refine goI ?_))
    have e : ckMb l = 2 := ckL_long (by have := of_decide_eq_true h1; omega)
    rw [e]
    (exact ⟨[], aI⟩)
  · have h1' : ¬ 20 < l.length := (by have := of_decide_eq_false h1; omega)
    (refine goI ?_; repeat (intro gg; refine goI ?_))
    (refine ⟨[], none, {k : Nat // k ≤ l.length ∧ ∀ j, (h : j < l.length) → j < k → (l[j]).err = 0}, [0], fun ⟨k, hk, h0⟩ => [(3, .v (.int .i64 k))], [], fun ⟨k, hk, h0⟩ => [], fun ⟨k, hk, h0⟩ => l.length - k, trivial, fun _ => ⟨trivial, fun _ => ⟨⟨0, by omega, fun j _ h => by omega⟩, tI, keptE_refl _ _, tI, keptH_refl _ _⟩⟩, fun ⟨k, hk, h0⟩ => ?_⟩)
    (refine goI ?_; repeat (intro gg; refine goI ?_))
    rw [List.length_map]
    (refine bIf_of (fun h => ?_) (fun h => ?_) <;> rw [h])
    · have hlt : k < l.length := (by have := of_decide_eq_true h; omega)
      (refine goI ?_; repeat (intro gg; refine goI ?_))
      refine ⟨k, _, rfl, row_map hlt, ?_⟩
      (refine goI ?_; repeat (intro gg; refine goI ?_))
      (refine .inl ⟨_, _, false, [], aI, rone_fun _ (hw _ (List.getElem_mem hlt)), nobor, nI, ?_⟩)
      (refine goI ?_; repeat (intro gg; refine goI ?_))
      (refine bIf_of (fun h2 => ?_) (fun h2 => ?_) <;> rw [h2])
      · (refine goI ?_; repeat (intro gg; refine goI ?_))
        have h2' : (l[k]).err ≠ 0 := by simpa using h2
        have e0 := firstErr_at hlt h0 h2'
        have e : ckMb l = (l[k]).err := (ckL_each h1' (by rw [e0]; exact h2')).trans e0
        rw [e]
        (exact ⟨[], aI⟩)
      · (refine goI ?_; repeat (intro gg; refine goI ?_))
        (exact ⟨none, trivial, fun _ => ⟨⟨k + 1, by omega, up1 (p := fun j h => (l[j]).err = 0) h0 (fun _ => by simpa using h2)⟩, by show l.length - (k + 1) < l.length - k; omega, tI, tI, tI, tI⟩⟩)
    · have hge : ¬ k < l.length := (by have := of_decide_eq_false h; omega)
      have h2' : firstErr Mb.err l = 0 := firstErr_zero fun i hi => h0 i hi (by omega)
      (refine goI ?_; repeat (intro gg; refine goI ?_))
      (refine ⟨[], none, {k : Nat // (k < l.length ∨ k = 0) ∧ ∀ i, (h : i + 1 < l.length) → i < k → Mb.lt l[i] l[i + 1] = true}, [0], fun ⟨q, hq, g0⟩ => [(5, .v (.int .i64 ((q : Int) + 1)))], [], fun ⟨q, hq, g0⟩ => [], fun ⟨q, hq, g0⟩ => l.length - q, trivial, fun _ => ⟨trivial, fun _ => ⟨⟨0, by omega, fun j _ h => by omega⟩, tI, keptE_refl _ _, tI, keptH_refl _ _⟩⟩, fun ⟨q, hq, g0⟩ => ?_⟩)
      (refine goI ?_; repeat (intro gg; refine goI ?_))
      rw [List.length_map]
      (refine bIf_of (fun h3 => ?_) (fun h3 => ?_) <;> rw [h3])
      · have hlt3 : q + 1 < l.length := (by have := of_decide_eq_true h3; omega)
        (refine goI ?_; repeat (intro gg; refine goI ?_))
        refine ⟨q + 1, _, by omega, row_map hlt3, ?_⟩
        (refine goI ?_; repeat (intro gg; refine goI ?_))
        refine ⟨q, _, by omega, row_map (by omega), ?_⟩
        (refine goI ?_; repeat (intro gg; refine goI ?_))
        rw [sle_eq]
        (refine bIf_of (fun h4 => ?_) (fun h4 => ?_) <;> rw [h4])
        · (refine goI ?_; repeat (intro gg; refine goI ?_))
          have e : ckMb l = 4 := ckL_no h1' h2' (sorted_not hlt3 (by simpa [Mb.lt] using h4))
          rw [e]
          (exact ⟨[], aI⟩)
        · (refine goI ?_; repeat (intro gg; refine goI ?_))
          (exact ⟨none, trivial, fun _ => ⟨⟨q + 1, by omega, up2 (p := fun i h => Mb.lt l[i] l[i + 1] = true) g0 (fun _ => by simpa [Mb.lt] using h4)⟩, by show l.length - (q + 1) < l.length - q; omega, tI, tI, tI, tI⟩⟩)
      · have hge3 : ¬ q + 1 < l.length := (by have := of_decide_eq_false h3; omega)
        (refine goI ?_; repeat (intro gg; refine goI ?_))
        have e : ckMb l = 0 := ckL_yes h1' h2' (sorted_of fun i hi => g0 i hi (by omega))
        rw [e]
        (exact ⟨[], aI⟩)
theorem mcf_fun (g : Mb) (name : ByteArray) : Fun Tryz.prog 110 [.c (.agg g.row), .c (.v (.string name))] [.c (.v (.int .i64 (Mb.cf name g)))] := by
  refine fun_x ck_member_Find_1 rfl ?_
  (refine goI ?_; repeat (intro gg; refine goI ?_))
  (refine .inl ⟨_, _, false, [], aI, cmps_fun _ _, nobor, nI, ?_⟩)
  (refine goI ?_; repeat (intro gg; refine goI ?_))
  (exact ⟨[], aI⟩)
theorem mbs_fun (c : Bool) (l : List Mb) (name : ByteArray) (hl : l.length ≤ 1000) (hm : Mono (Mb.cf name) l) : Fun Tryz.prog 109 [.c (.sl c (l.map Mb.row)), .c (.v (.string name)), .c (.v (.func (.func 110) #[] #[]))] [.c (.v (.int .i64 (low (Mb.cf name) l))), .c (.v (.bool (hit (Mb.cf name) l)))] := by
  refine fun_x ck_slices_BinarySearchFunc_api_Member_api_Member_string rfl ?_
  (refine goI ?_; repeat (intro gg; refine goI ?_))
  rw [List.length_map]
  (refine ⟨[], none, {p : Nat × Nat // p.1 ≤ p.2 ∧ p.2 ≤ l.length ∧ (∀ k, (h : k < l.length) → k < p.1 → Mb.cf name l[k] < 0) ∧ (∀ k, (h : k < l.length) → p.2 ≤ k → 0 ≤ Mb.cf name l[k])}, [0, 1, 2, 8], fun ⟨⟨i, j⟩, h1, h2, h3, h4⟩ => [(9, .v (.int .i64 i)), (10, .v (.int .i64 j))], [], fun ⟨⟨i, j⟩, h1, h2, h3, h4⟩ => [], fun ⟨⟨i, j⟩, h1, h2, h3, h4⟩ => j - i, trivial, fun _ => ⟨trivial, fun _ => ⟨⟨(0, l.length), by omega, by omega, fun k _ h => absurd h (by omega), fun k h h' => absurd h (by omega)⟩, tI, keptE_refl _ _, tI, keptH_refl _ _⟩⟩, fun ⟨⟨i, j⟩, h1, h2, h3, h4⟩ => ?_⟩)
  dsimp only at h1 h2 h3 h4
  (refine goI ?_; repeat (intro gg; refine goI ?_))
  (refine bIf_of (fun h => ?_) (fun h => ?_) <;> rw [h])
  · have hlt : i < j := (by have := of_decide_eq_true h; omega)
    have hk : (i + j) / 2 < l.length := by omega
    (refine goI ?_; repeat (intro gg; refine goI ?_))
    refine ⟨(i + j) / 2, _, by omega, row_map hk, ?_⟩
    (refine goI ?_; repeat (intro gg; refine goI ?_))
    (refine .inl ⟨_, _, false, [], aI, mcf_fun _ _, nobor, nI, ?_⟩)
    (refine goI ?_; repeat (intro gg; refine goI ?_))
    (refine bIf_of (fun h5 => ?_) (fun h5 => ?_) <;> rw [h5])
    · have h5' : Mb.cf name l[(i + j) / 2] < 0 := by simpa using h5
      (refine goI ?_; repeat (intro gg; refine goI ?_))
      (exact ⟨none, trivial, fun _ => ⟨⟨((i + j) / 2 + 1, j), by dsimp only; omega, h2, fun k hk' hka => hm k ((i + j) / 2) hk' hk (by dsimp only at hka; omega) h5', h4⟩, by show j - ((i + j) / 2 + 1) < j - i; omega, tI, tI, tI, tI⟩⟩)
    · have h5' : ¬ Mb.cf name l[(i + j) / 2] < 0 := by simpa using h5
      (refine goI ?_; repeat (intro gg; refine goI ?_))
      (exact ⟨none, trivial, fun _ => ⟨⟨(i, (i + j) / 2), by dsimp only; omega, by dsimp only; omega, h3, fun k hk' hka => Int.not_lt.1 (fun h' => h5' (hm ((i + j) / 2) k hk hk' hka h'))⟩, by show (i + j) / 2 - i < j - i; omega, tI, tI, tI, tI⟩⟩)
  · have hij : i = j := (by have := of_decide_eq_false h; omega)
    subst hij
    have HE := low_uniq (cf := Mb.cf name) h2 h3 h4
    (refine goI ?_; repeat (intro gg; refine goI ?_))
    (refine bIf_of (fun h5 => ?_) (fun h5 => ?_) <;> rw [h5])
    · have hin : i < l.length := (by have := of_decide_eq_true h5; omega)
      have HH : hit (Mb.cf name) l = decide (Mb.cf name l[i] = 0) := by
        have hin' : low (Mb.cf name) l < l.length := by rw [← HE]; exact hin
        rw [hit_in hin']
        simp only [← HE]
      (refine goI ?_; repeat (intro gg; refine goI ?_))
      refine ⟨i, _, rfl, row_map hin, ?_⟩
      (refine goI ?_; repeat (intro gg; refine goI ?_))
      (refine .inl ⟨_, _, false, [], aI, mcf_fun _ _, nobor, nI, ?_⟩)
      (refine goI ?_; repeat (intro gg; refine goI ?_))
      rw [← HE, HH]
      (exact ⟨[], aI⟩)
    · have HH : hit (Mb.cf name) l = false := hit_out (by rw [← HE]; exact (by have := of_decide_eq_false h5; omega))
      (refine goI ?_; repeat (intro gg; refine goI ?_))
      rw [← HE, HH]
      (exact ⟨[], aI⟩)
theorem mfind_fun (c : Bool) (l : List Mb) (name : ByteArray) (hl : l.length ≤ 1000) (hm : Mono (Mb.cf name) l) : Fun Tryz.prog 49 [.c (.sl c (l.map Mb.row)), .c (.v (.string name))] [.c (.v (.int .i64 (low (Mb.cf name) l))), .c (.v (.bool (hit (Mb.cf name) l)))] := by
  refine fun_x ck_member_Find rfl ?_
  (refine goI ?_; repeat (intro gg; refine goI ?_))
  (refine .inl ⟨_, _, false, [], aI, mbs_fun c l name hl hm, nobor, nI, ?_⟩)
  (refine goI ?_; repeat (intro gg; refine goI ?_))
  (exact ⟨[], aI⟩)
theorem at_fun (c : Bool) (l : List Mb) (name : ByteArray) (hl : l.length ≤ 9223372036854775807) : Fun Tryz.prog 57 [.c (.sl c (l.map Mb.row)), .c (.v (.string name))] [.c (.v (.int .i64 (at_ (Mb.is name) l)))] := by
  refine fun_x ck_hearsayref_MemberAt rfl ?_
  (refine goI ?_; repeat (intro gg; refine goI ?_))
  (refine ⟨[], none, {k : Nat // k ≤ l.length ∧ ∀ j, (h : j < l.length) → j < k → Mb.is name l[j] = false}, [0, 1], fun ⟨k, hk, h0⟩ => [(5, .v (.int .i64 k))], [], fun ⟨k, hk, h0⟩ => [], fun ⟨k, hk, h0⟩ => l.length - k, trivial, fun _ => ⟨trivial, fun _ => ⟨⟨0, by omega, fun j _ h => by omega⟩, tI, keptE_refl _ _, tI, keptH_refl _ _⟩⟩, fun ⟨k, hk, h0⟩ => ?_⟩)
  (refine goI ?_; repeat (intro gg; refine goI ?_))
  rw [List.length_map]
  (refine bIf_of (fun h => ?_) (fun h => ?_) <;> rw [h])
  · have hlt : k < l.length := (by have := of_decide_eq_true h; omega)
    (refine goI ?_; repeat (intro gg; refine goI ?_))
    refine ⟨k, _, rfl, row_map hlt, ?_⟩
    (refine goI ?_; repeat (intro gg; refine goI ?_))
    (refine bIf_of (fun h2 => ?_) (fun h2 => ?_) <;> rw [h2])
    · (refine goI ?_; repeat (intro gg; refine goI ?_))
      rw [at_yes hlt h0 h2]
      (exact ⟨[], aI⟩)
    · (refine goI ?_; repeat (intro gg; refine goI ?_))
      (exact ⟨none, trivial, fun _ => ⟨⟨k + 1, by omega, up1 (p := fun j h => Mb.is name l[j] = false) h0 (fun _ => h2)⟩, by show l.length - (k + 1) < l.length - k; omega, tI, tI, tI, tI⟩⟩)
  · have hge : ¬ k < l.length := (by have := of_decide_eq_false h; omega)
    (refine goI ?_; repeat (intro gg; refine goI ?_))
    rw [at_no (p := Mb.is name) (l := l) (fun i hi => h0 i hi (by omega))]
    (exact ⟨[], aI⟩)
end Go.Proofs.YtkclokmfomnbgaaGreat
namespace Go.Proofs.YtkclokmfomnbgaaGreat
open Go.RowKit Pl
set_option linter.unusedVariables false
theorem cloneRu_fun (cl : Bool) (l : List Ru) (hl : l.length ≤ 1000) : Fun Tryz.prog 116 [.c (.sl cl (l.map Ru.row))] [.o 80 6 (l.map Ru.row)] := by
  refine fun_x ck_slices_Clone_api_Rumor_api_Rumor rfl ?_
  (refine goI ?_; repeat (intro gg; refine goI ?_))
  rename_i b
  have hb := gg
  cases b with
  | true =>
    have e : l.map Ru.row = [] := hb rfl
    (refine goI ?_; repeat (intro gg; refine goI ?_))
    rw [e]
    (exact ⟨[], aI⟩)
  | false =>
    (refine goI ?_; repeat (intro gg; refine goI ?_))
    refine ⟨ones_rows, ?_⟩
    (refine goI ?_; repeat (intro gg; refine goI ?_))
    refine ⟨lI, lI, ?_⟩
    (refine goI ?_; repeat (intro gg; refine goI ?_))
    (exact ⟨[80], aI⟩)
theorem indexRu_fun (cl : Bool) (l : List Ru) (f : FuncId) (caps : List V) (hcaps : ∀ u ∈ caps, Cl u) (p : Ru → Bool) (hl : l.length ≤ 1000) (hf : ∀ x ∈ l, Fun Tryz.prog f (.c (.agg (Ru.row x)) :: caps.map .c) [.c (.v (.bool (p x)))]) :
    Fun Tryz.prog 161 [.c (.sl cl (l.map Ru.row)), .c (.clo f caps)] [.c (.v (.int .i64 (at_ p l)))] := by
  refine fun_x ck_slices_IndexFunc_api_Rumor_api_Rumor rfl ?_
  (refine goI ?_; repeat (intro gg; refine goI ?_))
  rw [List.length_map]
  (refine ⟨[], none, {k : Nat // k ≤ l.length ∧ ∀ j, (h : j < l.length) → j < k → p l[j] = false}, [0, 1, 7], fun ⟨k, hk, h0⟩ => [(8, .v (.int .i64 k))], [], fun ⟨k, hk, h0⟩ => [], fun ⟨k, hk, h0⟩ => l.length - k, trivial, fun _ => ⟨trivial, fun _ => ⟨⟨0, by omega, fun j _ h => by omega⟩, tI, keptE_refl _ _, tI, keptH_refl _ _⟩⟩, fun ⟨k, hk, h0⟩ => ?_⟩)
  (refine goI ?_; repeat (intro gg; refine goI ?_))
  (refine bIf_of (fun h => ?_) (fun h => ?_) <;> rw [h])
  · have hlt : k < l.length := (by have := of_decide_eq_true h; omega)
    (refine goI ?_; repeat (intro gg; refine goI ?_))
    refine ⟨k, _, rfl, row_map hlt, ?_⟩
    (refine goI ?_; repeat (intro gg; refine goI ?_))
    (refine .inl ⟨_, _, false, [], aI, hf _ (List.getElem_mem hlt), nobor, nI, ?_⟩)
    (refine goI ?_; repeat (intro gg; refine goI ?_))
    (refine bIf_of (fun h2 => ?_) (fun h2 => ?_) <;> rw [h2])
    · (refine goI ?_; repeat (intro gg; refine goI ?_))
      rw [at_yes hlt h0 h2]
      (exact ⟨[], aI⟩)
    · (refine goI ?_; repeat (intro gg; refine goI ?_))
      (exact ⟨none, trivial, fun _ => ⟨⟨k + 1, by omega, up1 (p := fun j h => p l[j] = false) h0 (fun _ => h2)⟩, by show l.length - (k + 1) < l.length - k; omega, tI, tI, tI, tI⟩⟩)
  · have hge : ¬ k < l.length := (by have := of_decide_eq_false h; omega)
    (refine goI ?_; repeat (intro gg; refine goI ?_))
    rw [at_no (p := p) (l := l) (fun i hi => h0 i hi (by omega))]
    (exact ⟨[], aI⟩)
theorem indexVRu_fun (cl : Bool) (l : List Ru) (f : FuncId) (p : Ru → Bool) (hl : l.length ≤ 1000) (hf : ∀ x ∈ l, Fun Tryz.prog f [.c (.agg (Ru.row x))] [.c (.v (.bool (p x)))]) :
    Fun Tryz.prog 161 [.c (.sl cl (l.map Ru.row)), .c (.v (.func (.func f) #[] #[]))] [.c (.v (.int .i64 (at_ p l)))] := by
  refine fun_x ck_slices_IndexFunc_api_Rumor_api_Rumor rfl ?_
  (refine goI ?_; repeat (intro gg; refine goI ?_))
  rw [List.length_map]
  (refine ⟨[], none, {k : Nat // k ≤ l.length ∧ ∀ j, (h : j < l.length) → j < k → p l[j] = false}, [0, 1, 7], fun ⟨k, hk, h0⟩ => [(8, .v (.int .i64 k))], [], fun ⟨k, hk, h0⟩ => [], fun ⟨k, hk, h0⟩ => l.length - k, trivial, fun _ => ⟨trivial, fun _ => ⟨⟨0, by omega, fun j _ h => by omega⟩, tI, keptE_refl _ _, tI, keptH_refl _ _⟩⟩, fun ⟨k, hk, h0⟩ => ?_⟩)
  (refine goI ?_; repeat (intro gg; refine goI ?_))
  (refine bIf_of (fun h => ?_) (fun h => ?_) <;> rw [h])
  · have hlt : k < l.length := (by have := of_decide_eq_true h; omega)
    (refine goI ?_; repeat (intro gg; refine goI ?_))
    refine ⟨k, _, rfl, row_map hlt, ?_⟩
    (refine goI ?_; repeat (intro gg; refine goI ?_))
    (refine .inl ⟨_, _, false, [], aI, hf _ (List.getElem_mem hlt), nobor, nI, ?_⟩)
    (refine goI ?_; repeat (intro gg; refine goI ?_))
    (refine bIf_of (fun h2 => ?_) (fun h2 => ?_) <;> rw [h2])
    · (refine goI ?_; repeat (intro gg; refine goI ?_))
      rw [at_yes hlt h0 h2]
      (exact ⟨[], aI⟩)
    · (refine goI ?_; repeat (intro gg; refine goI ?_))
      (exact ⟨none, trivial, fun _ => ⟨⟨k + 1, by omega, up1 (p := fun j h => p l[j] = false) h0 (fun _ => h2)⟩, by show l.length - (k + 1) < l.length - k; omega, tI, tI, tI, tI⟩⟩)
  · have hge : ¬ k < l.length := (by have := of_decide_eq_false h; omega)
    (refine goI ?_; repeat (intro gg; refine goI ?_))
    rw [at_no (p := p) (l := l) (fun i hi => h0 i hi (by omega))]
    (exact ⟨[], aI⟩)
theorem containsVRu_fun (cl : Bool) (l : List Ru) (f : FuncId) (p : Ru → Bool) (hl : l.length ≤ 1000) (hf : ∀ x ∈ l, Fun Tryz.prog f [.c (.agg (Ru.row x))] [.c (.v (.bool (p x)))]) :
    Fun Tryz.prog 103 [.c (.sl cl (l.map Ru.row)), .c (.v (.func (.func f) #[] #[]))] [.c (.v (.bool (l.any p)))] := by
  have hI := indexVRu_fun cl l f p hl hf
  refine fun_x ck_slices_ContainsFunc_api_Rumor_api_Rumor rfl ?_
  (refine goI ?_; repeat (intro gg; refine goI ?_))
  (refine .inl ⟨_, _, false, [], aI, hI, nobor, nI, ?_⟩)
  (refine goI ?_; repeat (intro gg; refine goI ?_))
  rw [any_at]
  (exact ⟨[], aI⟩)
theorem delRu_fun (l : List Ru) (i : Nat) (hi : i < l.length) (hl : l.length ≤ 1000) : Fun Tryz.prog 208 [.o 80 6 (l.map Ru.row), .c (.v (.int .i64 i)), .c (.v (.int .i64 ((i : Int) + 1)))] [.o 80 6 ((l.eraseIdx i).map Ru.row)] := by
  have hlen : (l.map Ru.row).length = l.length := by simp
  refine fun_x ck_slices_Delete_api_Rumor_api_Rumor rfl ?_
  (refine goI ?_; repeat (intro gg; refine goI ?_))
  refine ⟨2, i, i + 1, rfl, ⟨_, rfl⟩, ⟨_, rfl⟩, by omega, by show i + 1 ≤ (l.map Ru.row).length; omega, ?_⟩
  refine ⟨_, l.length, .i64, rfl, rfl, by rw [← hlen]; rfl, by omega, by show l.length ≤ (l.map Ru.row).length; omega, ?_⟩
  (refine goI ?_; repeat (intro gg; refine goI ?_))
  rw [show (((i : Int) == (i : Int) + 1) = false) from by simp; omega]
  (refine goI ?_; repeat (intro gg; refine goI ?_))
  refine ⟨0, i, rfl, rfl, ⟨_, rfl⟩, by omega, by show i ≤ (l.map Ru.row).length; omega, rfl, ?_⟩
  (refine goI ?_; repeat (intro gg; refine goI ?_))
  refine ⟨i + 1, (l.map Ru.row).length, rfl, ⟨_, rfl⟩, rfl, by show i + 1 ≤ (l.map Ru.row).length; omega, by show (l.map Ru.row).length ≤ (l.map Ru.row).length; omega, rfl, ?_⟩
  (refine goI ?_; repeat (intro gg; refine goI ?_))
  refine ⟨by omega, by omega, by show (l.map Ru.row).length ≤ (l.map Ru.row).length; omega, ?_⟩
  (refine goI ?_; repeat (intro gg; refine goI ?_))
  have e2 : ((l.map Ru.row).take i ++ ((l.map Ru.row).drop (i + 1)).take ((l.map Ru.row).length - (i + 1)) ++ (l.map Ru.row).drop (i + ((l.map Ru.row).length - (i + 1)))).length = l.length := by
    simp only [List.length_append, List.length_take, List.length_drop, hlen]; omega
  refine ⟨i + ((l.map Ru.row).length - (i + 1)), (l.map Ru.row).length, rfl, ⟨_, rfl⟩, ⟨_, rfl⟩, by omega, ?_, rfl, by omega, ?_⟩
  · show 0 + (l.map Ru.row).length ≤ ((l.map Ru.row).take i ++ ((l.map Ru.row).drop (i + 1)).take ((l.map Ru.row).length - (i + 1)) ++ (l.map Ru.row).drop (i + ((l.map Ru.row).length - (i + 1)))).length
    rw [Nat.zero_add, hlen]; rw [hlen] at e2; exact Nat.le_of_eq e2.symm
  (refine goI ?_; repeat (intro gg; refine goI ?_))
  refine ⟨by omega, ?_, ?_⟩
  · show 0 + (l.map Ru.row).length ≤ ((l.map Ru.row).take i ++ ((l.map Ru.row).drop (i + 1)).take ((l.map Ru.row).length - (i + 1)) ++ (l.map Ru.row).drop (i + ((l.map Ru.row).length - (i + 1)))).length
    rw [Nat.zero_add, hlen]; rw [hlen] at e2; exact Nat.le_of_eq e2.symm
  (refine goI ?_; repeat (intro gg; refine goI ?_))
  refine ⟨[0], ret_osub rfl rfl rfl rfl rfl ?_ ?_ ?_⟩
  · refine Nat.le_trans ?_ (Nat.le_of_eq (congrArg List.length (List.append_assoc _ _ _)).symm)
    rw [List.length_append, List.length_take]
    refine Nat.le_trans (m := i + ((l.map Ru.row).length - (i + 1))) (by omega) (Nat.le_trans (Nat.le_min.2 ⟨by omega, ?_⟩) (Nat.le_add_right _ _))
    show _ ≤ ((l.map Ru.row).take i ++ ((l.map Ru.row).drop (i + 1)).take ((l.map Ru.row).length - (i + 1)) ++ (l.map Ru.row).drop (i + ((l.map Ru.row).length - (i + 1)))).length
    rw [hlen]; rw [hlen] at e2; rw [e2]; omega
  · repeat' (first | exact cl_rows | exact cr_repl rfl | apply cr_app | apply cr_take | apply cr_drop)
  · exact erase_rows hi
theorem deleteFRu_fun (l : List Ru) (f : FuncId) (caps : List V) (hcaps : ∀ u ∈ caps, Cl u) (p : Ru → Bool) (hl : l.length ≤ 1000) (hf : ∀ x ∈ l, Fun Tryz.prog f (.c (.agg (Ru.row x)) :: caps.map .c) [.c (.v (.bool (p x)))]) :
    Fun Tryz.prog 124 [.o 80 6 (l.map Ru.row), .c (.clo f caps)] [.o 80 6 ((keep p l).map Ru.row)] := by
  refine fun_x ck_slices_DeleteFunc_api_Rumor_api_Rumor rfl ?_
  (refine goI ?_; repeat (intro gg; refine goI ?_))
  (refine .inl ⟨_, _, true, [], aI, indexRu_fun false l f caps hcaps p hl hf, (fun _ => fI), nI, ?_⟩)
  rcases at_inv (p := p) (l := l) with ⟨h1, h2⟩ | ⟨k, hk, h1, h2, h3⟩
  · rw [h1, Pl.keep_all (p := p) (l := l) h2]
    (refine goI ?_; repeat (intro gg; refine goI ?_))
    (exact ⟨[0], aI⟩)
  · rw [h1]
    (refine goI ?_; repeat (intro gg; refine goI ?_))
    (refine ⟨[], none, {q : List Ru × Nat × Nat // Moved p l q.1 q.2.1 q.2.2}, [0, 1, 36, 37, 39, 40, 41], fun ⟨⟨l', i, j⟩, hm⟩ => [(5, .v (.int .i64 i)), (6, .v (.int .i64 j))], [], fun ⟨⟨l', i, j⟩, hm⟩ => [(0, ⟨0, 80, 6, l'.map Ru.row⟩)], fun ⟨⟨l', i, j⟩, hm⟩ => l.length - j, trivial, fun _ => ⟨trivial, fun _ => ⟨⟨(l, k, k + 1), Moved.start hk h2 h3⟩, tI, keptE_refl _ _, tI, keptH_refl _ _⟩⟩, fun ⟨⟨l', i, j⟩, hm⟩ => ?_⟩)
    (refine goI ?_; repeat (intro gg; refine goI ?_))
    have hm : Moved p l l' i j := hm
    have hlen : l'.length = l.length := hm.len
    (refine bIf_of (fun h => ?_) (fun h => ?_) <;> rw [h])
    · have hlt : j < l'.length := by have := of_decide_eq_true h; simpa using this
      (refine goI ?_; repeat (intro gg; refine goI ?_))
      refine ⟨j, _, rfl, row_map hlt, ?_⟩
      (refine goI ?_; repeat (intro gg; refine goI ?_))
      have hj : j < l.length := by omega
      have hx : l'[j] = l[j] := hm.behind j hj (Nat.le_refl _)
      rw [hx]
      (refine .inl ⟨_, _, false, [], aI, hf _ (List.getElem_mem hj), nobor, nI, ?_⟩)
      (refine goI ?_; repeat (intro gg; refine goI ?_))
      (refine bIf_of (fun h4 => ?_) (fun h4 => ?_) <;> rw [h4])
      · have h4' : p l[j] = false := not_t h4
        have hi : i < l'.length := by have := hm.ij; omega
        (refine goI ?_; repeat (intro gg; refine goI ?_))
        refine ⟨i, _, rfl, row_map hi, ?_⟩
        (refine goI ?_; repeat (intro gg; refine goI ?_))
        have e : (l'.map Ru.row).set i (Ru.row l[j]) = (l'.set i l[j]).map Ru.row := List.map_set.symm
        exact ⟨none, trivial, fun gr => ⟨⟨(l'.set i l[j], i + 1, j + 1), hm.stays hj h4'⟩, by show l.length - (j + 1) < l.length - j; omega, tI, tI, ⟨congrArg (fun r => some (Ent.mk 0 80 6 r)) e, trivial⟩, tI⟩⟩
      · have h4' : p l[j] = true := not_f h4
        (refine goI ?_; repeat (intro gg; refine goI ?_))
        (exact ⟨none, trivial, fun _ => ⟨⟨(l', i, j + 1), hm.gone hj h4'⟩, by show l.length - (j + 1) < l.length - j; omega, tI, tI, tI, tI⟩⟩)
    · have hge : ¬ j < l'.length := by have := of_decide_eq_false h; simpa using this
      have hi : i ≤ l'.length := by have := hm.ij; have := hm.jl; omega
      (refine goI ?_; repeat (intro gg; refine goI ?_))
      refine ⟨1, i, (l'.map Ru.row).length, rfl, ⟨_, rfl⟩, rfl, by simpa using hi, Nat.le_refl _, ?_⟩
      (refine goI ?_; repeat (intro gg; refine goI ?_))
      refine ⟨by simpa using hi, Nat.le_refl _, ?_⟩
      (refine goI ?_; repeat (intro gg; refine goI ?_))
      refine ⟨0, 0, i, rfl, rfl, ⟨_, rfl⟩, Nat.zero_le _, ?_, rfl, rfl, fun g => ?_⟩
      · show i ≤ ((l'.map Ru.row).take i ++ List.replicate ((l'.map Ru.row).length - i) _ ++ (l'.map Ru.row).drop (l'.map Ru.row).length).length
        simp only [List.length_append, List.length_take, List.length_map, List.length_replicate]; omega
      (refine goI ?_; repeat (intro gg; refine goI ?_))
      refine ⟨[0], ret_own rfl rfl rfl rfl rfl cl_rows ?_⟩
      show ((l'.map Ru.row).take i ++ List.replicate ((l'.map Ru.row).length - i) _ ++ (l'.map Ru.row).drop (l'.map Ru.row).length).take i = (keep p l).map Ru.row
      rw [List.append_assoc, List.take_append_of_le_length (by simp; omega), List.take_take, Nat.min_self, ← hm.fin (by omega), List.map_take]
end Go.Proofs.YtkclokmfomnbgaaGreat
namespace Go.Proofs.YtkclokmfomnbgaaGreat
open Go.RowKit Pl
set_option linter.unusedVariables false
theorem mOne_fun (m : Mb) (hm : m.ok) : Fun Tryz.prog 102 [.c (.agg m.row)] [.c (.v (.int .i64 m.err))] := by
  refine fun_x ck_member_One rfl ?_
  (refine goI ?_; repeat (intro gg; refine goI ?_))
  (refine .inl ⟨_, _, false, [], aI, mone_fun m hm, nobor, nI, ?_⟩)
  (refine goI ?_; repeat (intro gg; refine goI ?_))
  (exact ⟨[], aI⟩)
theorem ruBad_fun (r : Ru) : Fun Tryz.prog 104 [.c (.agg r.row)] [.c (.v (.bool r.bad))] := by
  refine fun_x ck_rumor_Check_1 rfl ?_
  (refine goI ?_; repeat (intro gg; refine goI ?_))
  (refine bIf_of (fun h => ?_) (fun h => ?_) <;> rw [h])
  · have e : r.bad = true := by have := of_decide_eq_true h; simp [Ru.bad, wi]; omega
    (refine goI ?_; repeat (intro gg; refine goI ?_))
    rw [e]
    (exact ⟨[], aI⟩)
  · have e : r.bad = decide (100 < r.t) := by
      have h0 : 0 ≤ r.t := by have := of_decide_eq_false h; omega
      unfold Ru.bad wi
      rw [decide_eq_true h0, Bool.true_and]
      by_cases q : 100 < r.t
      · rw [decide_eq_true q, decide_eq_false (by omega)]; rfl
      · rw [decide_eq_false q, decide_eq_true (by omega)]; rfl
    (refine goI ?_; repeat (intro gg; refine goI ?_))
    rw [e]
    (exact ⟨[], aI⟩)
theorem ruCheck_fun (cl : Bool) (l : List Ru) (hl : l.length ≤ 9223372036854775807) (hw : ∀ r ∈ l, r.m.ok) : Fun Tryz.prog 44 [.c (.sl cl (l.map Ru.row))] [.c (.v (.int .i64 (ckRu l)))] := by
  refine fun_x ck_rumor_Check rfl ?_
  (refine goI ?_; repeat (intro gg; refine goI ?_))
  rw [List.length_map]
  (refine bIf_of (fun h => ?_) (fun h => ?_) <;> rw [h])
  · have h1 : 20 < l.length := (by have := of_decide_eq_true h; omega)
    (refine goI ?_; repeat (intro gg; refine goI ?_))
    rw [ckRu_many h1]
    (exact ⟨[], aI⟩)
  · have h1 : ¬ 20 < l.length := (by have := of_decide_eq_false h; omega)
    (refine goI ?_; repeat (intro gg; refine goI ?_))
    rename Nat => g0
    (refine ⟨[], none, {q : Nat × List (ByteArray × V) // q.1 ≤ l.length ∧ (∀ j, (h : j < l.length) → j < q.1 → (l[j]).err = 0) ∧ Names q.2 ((l.take q.1).map Ru.nm)}, [0, 3, 11, 12], fun ⟨⟨k, E⟩, hk, h0, hE⟩ => [(13, .v (.int .i64 k))], [], fun ⟨⟨k, E⟩, hk, h0, hE⟩ => [(160, ⟨g0, .q (mapI (ents E)), 0, []⟩)], fun ⟨⟨k, E⟩, hk, h0, hE⟩ => l.length - k, trivial, fun _ => ⟨trivial, fun _ => ⟨⟨(0, []), Nat.zero_le _, fun j _ h => absurd h (Nat.not_lt_zero _), Names.nil⟩, tI, keptE_refl _ _, tI, keptH_refl _ _⟩⟩, fun ⟨⟨k, E⟩, hk, h0, hE⟩ => ?_⟩)
    (refine goI ?_; repeat (intro gg; refine goI ?_))
    (refine bIf_of (fun h2 => ?_) (fun h2 => ?_) <;> rw [h2])
    · have hlt : k < l.length := by have := of_decide_eq_true h2; simpa using this
      (refine goI ?_; repeat (intro gg; refine goI ?_))
      refine ⟨k, _, rfl, row_map hlt, ?_⟩
      (refine goI ?_; repeat (intro gg; refine goI ?_))
      (refine .inl ⟨_, _, false, [], aI, mOne_fun (l[k]).m (hw _ (List.getElem_mem hlt)), nobor, nI, ?_⟩)
      (refine goI ?_; repeat (intro gg; refine goI ?_))
      (refine bIf_of (fun h3 => ?_) (fun h3 => ?_) <;> rw [h3])
      · (refine goI ?_; repeat (intro gg; refine goI ?_))
        have e : ckRu l = l[k].m.err := by
          have e1 := firstErr_at (e := Ru.err) hlt h0 (by simpa [Ru.err] using h3)
          rw [ckRu_each h1 (by rw [e1]; simpa [Ru.err] using h3), e1]; rfl
        rw [e]
        (exact ⟨[], aI⟩)
      · (refine goI ?_; repeat (intro gg; refine goI ?_))
        refine ⟨_, _, rfl, cl_b rfl, findE_str _ _ _, ?_⟩
        (refine goI ?_; repeat (intro gg; refine goI ?_))
        have e := putE_str E l[k].m.n (.v (.bool true))
        have hE' : Names (put E l[k].m.n (.v (.bool true))) ((l.take (k + 1)).map Ru.nm) := by
          rw [List.take_add_one, List.getElem?_eq_getElem hlt, List.map_append]
          exact hE.put _ _ (cl_b rfl)
        (exact ⟨none, trivial, fun gr => ⟨⟨(k + 1, put E l[k].m.n (.v (.bool true))), by dsimp only; omega, up1 (p := fun j h => (l[j]).err = 0) h0 (fun _ => by simpa [Ru.err] using h3), hE'⟩, by show l.length - (k + 1) < l.length - k; omega, tI, tI, ⟨congrArg (fun x => some (Ent.mk g0 (.q (mapI x)) 0 [])) e, trivial⟩, tI⟩⟩)
    · have hge : ¬ k < l.length := by have := of_decide_eq_false h2; simpa using this
      have hz := firstErr_zero (e := Ru.err) (l := l) (fun i hi => h0 i hi (by dsimp only; omega))
      rw [List.take_of_length_le (by dsimp only; omega)] at hE
      have hE : Names E (l.map Ru.nm) := hE
      have hc := containsVRu_fun cl l 104 Ru.bad (by omega) (fun x _ => ruBad_fun x)
      (refine goI ?_; repeat (intro gg; refine goI ?_))
      (refine .inl ⟨_, _, false, [], aI, hc, nobor, nI, ?_⟩)
      (refine goI ?_; repeat (intro gg; refine goI ?_))
      (refine bIf_of (fun h3 => ?_) (fun h3 => ?_) <;> rw [h3])
      · (refine goI ?_; repeat (intro gg; refine goI ?_))
        rw [ckRu_rng h1 hz h3]
        (exact ⟨[], aI⟩)
      · (refine goI ?_; repeat (intro gg; refine goI ?_))
        refine ⟨_, rfl, ?_⟩
        (refine goI ?_; repeat (intro gg; refine goI ?_))
        rw [ents_len, List.length_map]
        have ha := hE.all
        have hle := hE.le
        rw [List.length_map] at ha hle
        (refine bIf_of (fun h4 => ?_) (fun h4 => ?_) <;> rw [h4])
        · have h4' : E.length < l.length := (by have := of_decide_eq_true h4; omega)
          (refine goI ?_; repeat (intro gg; refine goI ?_))
          rw [ckRu_two h1 hz h3 (fun q => by have := ha.2 q; omega)]
          (exact ⟨[], aI⟩)
        · have h4' : ¬ E.length < l.length := (by have := of_decide_eq_false h4; omega)
          (refine goI ?_; repeat (intro gg; refine goI ?_))
          rw [ckRu_ok h1 hz h3 (ha.1 (by omega))]
          (exact ⟨[], aI⟩)
theorem rruCheck_fun (cl : Bool) (l : List Ru) (hl : l.length ≤ 9223372036854775807) (hw : ∀ r ∈ l, r.m.ok) : Fun Tryz.prog 52 [.c (.sl cl (l.map Ru.row))] [.c (.v (.int .i64 (ckRu l)))] := by
  refine fun_x ck_hearsayref_CheckRumors rfl ?_
  (refine goI ?_; repeat (intro gg; refine goI ?_))
  rw [List.length_map]
  (refine bIf_of (fun h => ?_) (fun h => ?_) <;> rw [h])
  · have h1 : 20 < l.length := (by have := of_decide_eq_true h; omega)
    (refine goI ?_; repeat (intro gg; refine goI ?_))
    rw [ckRu_many h1]
    (exact ⟨[], aI⟩)
  · have h1 : ¬ 20 < l.length := (by have := of_decide_eq_false h; omega)
    (refine goI ?_; repeat (intro gg; refine goI ?_))
    (refine ⟨[], none, {k : Nat // k ≤ l.length ∧ ∀ j, (h : j < l.length) → j < k → (l[j]).err = 0}, [0, 5, 6, 7], fun ⟨k, hk, h0⟩ => [(3, .v (.int .i64 k))], [], fun ⟨k, hk, h0⟩ => [], fun ⟨k, hk, h0⟩ => l.length - k, trivial, fun _ => ⟨trivial, fun _ => ⟨⟨0, by omega, fun j _ h => by omega⟩, tI, keptE_refl _ _, tI, keptH_refl _ _⟩⟩, fun ⟨k, hk, h0⟩ => ?_⟩)
    (refine goI ?_; repeat (intro gg; refine goI ?_))
    (refine bIf_of (fun h2 => ?_) (fun h2 => ?_) <;> rw [h2])
    · have hlt : k < l.length := by have := of_decide_eq_true h2; simpa using this
      (refine goI ?_; repeat (intro gg; refine goI ?_))
      refine ⟨k, _, rfl, row_map hlt, ?_⟩
      (refine goI ?_; repeat (intro gg; refine goI ?_))
      (refine .inl ⟨_, _, false, [], aI, rone_fun (l[k]).m (hw _ (List.getElem_mem hlt)), nobor, nI, ?_⟩)
      (refine goI ?_; repeat (intro gg; refine goI ?_))
      (refine bIf_of (fun h3 => ?_) (fun h3 => ?_) <;> rw [h3])
      · (refine goI ?_; repeat (intro gg; refine goI ?_))
        have e : ckRu l = l[k].m.err := by
          have e1 := firstErr_at (e := Ru.err) hlt h0 (by simpa [Ru.err] using h3)
          rw [ckRu_each h1 (by rw [e1]; simpa [Ru.err] using h3), e1]; rfl
        rw [e]
        (exact ⟨[], aI⟩)
      · (refine goI ?_; repeat (intro gg; refine goI ?_))
        (exact ⟨none, trivial, fun _ => ⟨⟨k + 1, by omega, up1 (p := fun j h => (l[j]).err = 0) h0 (fun _ => by simpa [Ru.err] using h3)⟩, by show l.length - (k + 1) < l.length - k; omega, tI, tI, tI, tI⟩⟩)
    · have hge : ¬ k < l.length := by have := of_decide_eq_false h2; simpa using this
      have hz := firstErr_zero (e := Ru.err) (l := l) (fun i hi => h0 i hi (by omega))
      (refine goI ?_; repeat (intro gg; refine goI ?_))
      (refine ⟨[], none, {k : Nat // k ≤ l.length ∧ ∀ j, (h : j < l.length) → j < k → (l[j]).bad = false}, [0, 6, 7], fun ⟨k, hk, h0⟩ => [(5, .v (.int .i64 k))], [], fun ⟨k, hk, h0⟩ => [], fun ⟨k, hk, h0⟩ => l.length - k, trivial, fun _ => ⟨trivial, fun _ => ⟨⟨0, by omega, fun j _ h => by omega⟩, tI, keptE_refl _ _, tI, keptH_refl _ _⟩⟩, fun ⟨k, hk, h0⟩ => ?_⟩)
      (refine goI ?_; repeat (intro gg; refine goI ?_))
      (refine bIf_of (fun h2 => ?_) (fun h2 => ?_) <;> rw [h2])
      · have hlt : k < l.length := by have := of_decide_eq_true h2; simpa using this
        (refine goI ?_; repeat (intro gg; refine goI ?_))
        refine ⟨k, _, rfl, row_map hlt, ?_⟩
        (refine goI ?_; repeat (intro gg; refine goI ?_))
        (refine .inl ⟨_, _, false, [], aI, between_fun _ _ _, nobor, nI, ?_⟩)
        (refine goI ?_; repeat (intro gg; refine goI ?_))
        (refine bIf_of (fun h3 => ?_) (fun h3 => ?_) <;> rw [h3])
        · (refine goI ?_; repeat (intro gg; refine goI ?_))
          rw [ckRu_rng h1 hz (List.any_eq_true.2 ⟨_, List.getElem_mem hlt, h3⟩)]
          (exact ⟨[], aI⟩)
        · (refine goI ?_; repeat (intro gg; refine goI ?_))
          (exact ⟨none, trivial, fun _ => ⟨⟨k + 1, by omega, up1 (p := fun j h => (l[j]).bad = false) h0 (fun _ => h3)⟩, by show l.length - (k + 1) < l.length - k; omega, tI, tI, tI, tI⟩⟩)
      · have hge : ¬ k < l.length := by have := of_decide_eq_false h2; simpa using this
        have ha : l.any Ru.bad = false := by
          rw [List.any_eq_false]; intro x hx
          obtain ⟨i, hi, rfl⟩ := List.getElem_of_mem hx
          rw [h0 i hi (by omega)]; simp
        (refine goI ?_; repeat (intro gg; refine goI ?_))
        (refine ⟨[], none, {k : Nat // k ≤ l.length ∧ ∀ i, (h : i < l.length) → i < k → ∀ j, (g : j < i) → (l[j]).nm ≠ l[i].nm}, [0], fun ⟨k, hk, h0⟩ => [(6, .v (.int .i64 k))], [], fun ⟨k, hk, h0⟩ => [], fun ⟨k, hk, h0⟩ => l.length - k, trivial, fun _ => ⟨trivial, fun _ => ⟨⟨0, by omega, fun j _ h => by omega⟩, tI, keptE_refl _ _, tI, keptH_refl _ _⟩⟩, fun ⟨k, hk, h0⟩ => ?_⟩)
        (refine goI ?_; repeat (intro gg; refine goI ?_))
        (refine bIf_of (fun h2 => ?_) (fun h2 => ?_) <;> rw [h2])
        · have hlt : k < l.length := by have := of_decide_eq_true h2; simpa using this
          (refine goI ?_; repeat (intro gg; refine goI ?_))
          (refine ⟨[], none, {q : Nat // q ≤ k ∧ ∀ j, (h : j < k) → j < q → (l[j]).nm ≠ l[k].nm}, [0, 6], fun ⟨q, hq, h0'⟩ => [(7, .v (.int .i64 q))], [], fun ⟨q, hq, h0'⟩ => [], fun ⟨q, hq, h0'⟩ => k - q, trivial, fun _ => ⟨trivial, fun _ => ⟨⟨0, by omega, fun j _ h => by omega⟩, tI, keptE_refl _ _, tI, keptH_refl _ _⟩⟩, fun ⟨q, hq, h0'⟩ => ?_⟩)
          (refine goI ?_; repeat (intro gg; refine goI ?_))
          (refine bIf_of (fun h3 => ?_) (fun h3 => ?_) <;> rw [h3])
          · have hqk : q < k := by have := of_decide_eq_true h3; omega
            have hql : q < l.length := by omega
            (refine goI ?_; repeat (intro gg; refine goI ?_))
            refine ⟨q, _, rfl, row_map hql, ?_⟩
            (refine goI ?_; repeat (intro gg; refine goI ?_))
            refine ⟨k, _, rfl, row_map hlt, ?_⟩
            (refine goI ?_; repeat (intro gg; refine goI ?_))
            (refine bIf_of (fun h4 => ?_) (fun h4 => ?_) <;> rw [h4])
            · have h4' : l[q].nm = l[k].nm := Ru.is_iff.1 h4
              (refine goI ?_; repeat (intro gg; refine goI ?_))
              rw [ckRu_two h1 hz ha (fun hn => by have := nd_get hn hql hlt h4'; omega)]
              (exact ⟨[], aI⟩)
            · have h4' : l[q].nm ≠ l[k].nm := fun e => by rw [show (l[q].m.n.toList == l[k].m.n.toList) = true from Ru.is_iff.2 e] at h4; cases h4
              (refine goI ?_; repeat (intro gg; refine goI ?_))
              (exact ⟨none, trivial, fun _ => ⟨⟨q + 1, by omega, up1 (p := fun j h => (l[j]).nm ≠ l[k].nm) h0' (fun _ => h4')⟩, by show k - (q + 1) < k - q; omega, tI, tI, tI, tI⟩⟩)
          · have hqk : ¬ q < k := by have := of_decide_eq_false h3; omega
            (refine goI ?_; repeat (intro gg; refine goI ?_))
            (exact ⟨none, trivial, fun _ => ⟨⟨k + 1, by omega, up1 (p := fun i h => ∀ j, (g : j < i) → (l[j]).nm ≠ l[i].nm) h0 (fun _ j g => h0' j g (by omega))⟩, by show l.length - (k + 1) < l.length - k; omega, tI, tI, tI, tI⟩⟩)
        · have hge : ¬ k < l.length := by have := of_decide_eq_false h2; simpa using this
          (refine goI ?_; repeat (intro gg; refine goI ?_))
          rw [ckRu_ok h1 hz ha (List.pairwise_iff_getElem.2 fun i j hi hj hij => by
            simp only [List.getElem_map]
            exact h0 j (by simpa using hj) (by simp at hj; omega) i hij)]
          (exact ⟨[], aI⟩)
def Ru.same (g h : Ru) : Bool := (g.m.n.toList == h.m.n.toList) && ((g.m.st == h.m.st) && ((g.m.lf == h.m.lf) && ((g.m.ad == h.m.ad) && ((g.m.sv == h.m.sv) && ((g.t == h.t) && true)))))
end Go.Proofs.YtkclokmfomnbgaaGreat
namespace Go.Proofs.YtkclokmfomnbgaaGreat
open Go.RowKit
set_option linter.unusedVariables false
theorem infoSv : (Tryz.prog.info? 64).map (fun i => (i.zero, i.size, i.bytes)) = some (some (.agg #[.string ⟨#[]⟩, .string ⟨#[]⟩, .string ⟨#[]⟩, .string ⟨#[]⟩, .int .i64 0, .int .i64 0, .bool false, .int .i64 0, .bool false]), 9, 104) := by kernel_rfl
theorem cellsSv : (Tryz.prog.info? 64).map (·.size) = some 9 := by kernel_rfl
theorem sizeSv : ∀ w, (Go.sizeOf 64).run Tryz.prog w = .ok 9 w := by
  intro w
  obtain ⟨i0, hi0, hz0, hzs, hzb⟩ := info_parts infoSv
  simp [sizeOf, typeInfo, hi0, hzs]
theorem insSv_over (vb g : Nat) (vc lb cb off : Nat) (vs cur : Array Value) (w : World) (hv : Blk w vb 64 vs) (hg : Blk w g 64 cur) (hne : vb ≠ g) (hcur : cur.size ≠ 0) :
    (callFunc 179 #[.slice (some ⟨vb, 0, none⟩) 1 vc, .slice (some ⟨g, off, none⟩) lb cb]).run Tryz.prog w = .ok (.value (.bool false)) w := by
  rw [run_callFunc_extern Tryz.func179 (by kernel_rfl) (by kernel_rfl) (by kernel_rfl) (e := Extern.SlicesOverlaps.overlaps #[24, 24] #[4]) (by kernel_rfl),
    Lib.run_overlaps_apart w 24 4 64 Tryz.underlying24 9 sizeSv ⟨vb, 0, none⟩ ⟨g, off, none⟩ 1 vc lb cb hne 64 64 vs.size cur.size
      (by unfold Blk at hv; simp [World.shape?, hv]) (by unfold Blk at hg; simp [World.shape?, hg]) hcur (hv.frozen _) (hv.frozen _)]
  rfl
def InsSv (L : Nat → Prop) (base n i : Nat) (xs vs : List Value) (w : World) (e : Ending) (w' : World) : Prop :=
  ∃ A' c', e = .returned (.slice A' (n + 1) c') ∧ w'.ownsRow base 64 9 (.slice A' (n + 1) c') (n + 1) (xs.take (i * 9) ++ vs ++ xs.drop (i * 9)) ∧ Fr L w w' ∧ ∀ k, (Value.slice A' (n + 1) c').ownBlock = some k → L k ∨ w.heap.size ≤ k
set_option maxHeartbeats 1000000 in
set_option maxRecDepth 100000 in
theorem insSv_end (base : Nat) (A : Option Addr) (n c : Nat) (xs : List Value) (vb vc : Nat) (vcur : Array Value) (vs : List Value) (w : World) (hown : w.ownsRow base 64 9 (.slice A n c) n xs) (hbase : base ≤ w.heap.size)
    (hn : n ≤ 1000) (hv : Blk w vb 64 vcur) (hvc : vcur.toList.take 9 = vs) (hvl : vs.length = 9) (h1 : ∀ v ∈ vs, v.oneCell' = true) :
    Calls Tryz.prog 135 #[.slice A n c, .int .i64 n, .slice (some ⟨vb, 0, none⟩) 1 vc] w (InsSv (LB A) base n n xs vs w) := by
  obtain ⟨i0, hi0, hz0, hzs, hzb⟩ := info_parts infoSv
  have hnc : n ≤ c ∧ c ≤ 9223372036854775807 := by
    rcases hown.2 with ⟨hv, hz⟩ | ⟨g, cap, cur, hv, _, _, h, h', _⟩
    · injection hv; omega
    · injection hv with _ _ e; subst e; exact ⟨h, h'⟩
  obtain ⟨hnc, hc63⟩ := hnc
  have hxs : xs.length = n * 9 := hown.1
  have HXS := hid hxs
  have HVL := hid hvl
  have HV := hid hv
  have HO := hid hown
  have HZ0 := hid hz0
  have HZS := hid hzs
  have HZB := hid hzb
  have HI0 := hid hi0
  clear hxs hvl hv hown hz0 hzs hzb hi0
  have hnn : ((n : Int) == (n : Int)) = true := by simp
  go_enter Tryz.func135, Tryz.ntmps135
  go_wp2_with (at_builtin; refine wpList_appD _ rfl _ _ 24 rfl base 64 i0 _ 9 104 Tryz.underlying24 HI0.out HZ0.out HZS.out HZB.out rfl (by decide) _ _ _ rfl HO.out ⟨vb, 0, none⟩ 1 vc vs rfl (by simpa using HVL.out) (blk_at HV.out hvc) h1 (by simp only [maxLen]; omega) (by omega) hbase ?_; intro v1 w1 hown1 hg1 hd1 hat1)
  all_goals go_ret
  all_goals
    obtain ⟨A', c', rfl⟩ := own_form hown1
    refine ⟨A', c', rfl, ?_, (Fr.refl _ _).grown hg1 (inl_own HO.out (fun k hk => lb_of (n := n) (c := c) hk)) hd1, fun k hk => ?_⟩
    rotate_left
    · rcases hat1 with h | h
      · exact .inl (lb_of (n := n) (c := c) (h.symm.trans hk))
      · have := h.symm.trans hk
        injection this with this
        exact .inr (by omega)
    rw [List.take_of_length_le (by have := HXS.out; omega), List.drop_of_length_le (by have := HXS.out; omega), List.append_nil]
    exact hown1
set_option maxHeartbeats 2000000 in
set_option maxRecDepth 100000 in
theorem insSv_room (base g : Nat) (n c i : Nat) (cur : Array Value) (xs : List Value) (vb vc : Nat) (vcur : Array Value) (vs : List Value) (w : World) (hg : Blk w g 64 cur) (hbg : base ≤ g) (hcs : cur.size = c * 9) (hcx : cur.toList.take (n * 9) = xs)
    (hi : i < n) (hr : n + 1 ≤ c) (hc63 : c ≤ 9223372036854775807) (hn : n ≤ 1000) (hv : Blk w vb 64 vcur) (hvc : vcur.toList.take 9 = vs) (hne : vb ≠ g) (hvl : vs.length = 9) (h1 : ∀ v ∈ vs, v.oneCell' = true) (h1x : ∀ v ∈ xs, v.oneCell' = true) :
    Calls Tryz.prog 135 #[.slice (some ⟨g, 0, none⟩) n c, .int .i64 i, .slice (some ⟨vb, 0, none⟩) 1 vc] w (InsSv (LB (some ⟨g, 0, none⟩)) base n i xs vs w) := by
  have hcl : cur.toList.length = c * 9 := by rw [Array.length_toList]; exact hcs
  have hxl : xs.length = n * 9 := by rw [← hcx, List.length_take, hcl]; omega
  have hov : ∀ lb cb, (callFunc 179 #[.slice (some ⟨vb, 0, none⟩) 1 vc, .slice (some ⟨g, (i + 1) * 9, none⟩) lb cb]).run Tryz.prog w = .ok (.value (.bool false)) w := fun lb cb => insSv_over vb g vc lb cb ((i + 1) * 9) vcur cur w hv hg hne (by omega)
  have HB2 : Hid ((splice (splice cur.toList ((i + 1) * 9) (xs.drop (i * 9))) (i * 9) vs).take ((n + 1) * 9) = xs.take (i * 9) ++ vs ++ xs.drop (i * 9)) := by
    refine hid ?_
    have h := splice_room cur.toList xs vs (i * 9) (n * 9) hcx (by rw [hcl]; omega) (by omega) (by rw [hcl, hvl]; omega)
    rw [hvl] at h
    rw [Nat.add_mul, Nat.add_mul, Nat.one_mul]
    exact h
  have HC1 : Hid ((xs.drop (i * 9)).length = Nat.min (n + 1 - i) (n - i) * 9) := by
    refine hid ?_
    rw [List.length_drop, hxl, show Nat.min (n + 1 - i) (n - i) = n - i from Nat.min_eq_right (by omega), Nat.sub_mul]
  have HC2 := hid (fun j v (hj : (xs.drop (i * 9))[j]? = some v) => blk_drop hg.drew hcx (i * 9) j v hj)
  have HC3 : Hid ((i + 1) * 9 + (xs.drop (i * 9)).length ≤ cur.size) := hid (by rw [List.length_drop]; omega)
  have HC3' : Hid ((i + 1) * 9 + (xs.drop (i * 9)).length ≤ cur.toList.length) := hid (by rw [List.length_drop, hcl]; omega)
  have HC4 := hid (fun v (hv : v ∈ xs.drop (i * 9)) => h1x v (List.mem_of_mem_drop hv))
  have HC5 : Hid (vs.length = Nat.min 1 (n + 1 - i) * 9) := by
    refine hid ?_
    rw [hvl, show Nat.min 1 (n + 1 - i) = 1 from Nat.min_eq_left (by omega)]
  have HC6 : Hid (i * 9 + vs.length ≤ (splice cur.toList ((i + 1) * 9) (xs.drop (i * 9))).toArray.size) := by
    refine hid ?_
    rw [List.size_toArray, length_splice _ _ _ (by rw [hcl, ← hcs]; exact HC3.out), hcl, hvl]
    omega
  have HXL := hid hxl
  have HVL := hid hvl
  have HG := hid hg
  have HV := hid hv
  have HCS := hid hcs
  have HNE := hid hne
  have HCX := hid hcx
  clear hxl hvl hg hv hcs hne hcx
  have hw1 : IntKind.i64.wrap ((i : Int) + 1) = (i : Int) + 1 := by rw [IntWalk.i64_in _ (by omega)]
  have hb1 : (0 : Int) ≤ (i : Int) + 1 := by omega
  have htn : ((i : Int) + 1).toNat = i + 1 := by omega
  have hb3 : (i : Int) ≤ (n : Int) + 1 := by omega
  have hb4 : (i : Int) + 1 ≤ (n : Int) + 1 := by omega
  have hb5 : (i : Int) ≤ (n : Int) := by omega
  have hb6 : ¬ c = i := by omega
  have hb7 : ¬ c = i + 1 := by omega
  have hb8 : ((i : Int) == (n : Int)) = false := by simp; omega
  go_enter Tryz.func135, Tryz.ntmps135
  go_wp2_with (simp only [hov])
  go_region_law (refine step_copyN rfl (.tmp 73) (.tmp 76) 24 24 rfl 64 9 Tryz.underlying24 cellsSv g ((i + 1) * 9) (n - i) (c - (i + 1)) ⟨g, i * 9, none⟩ (n + 1 - i) (c - i) (by simp [Act.eval, Act.put]) (by simp [Act.eval, Act.put]) cur 64 HG.out.drew (xs.drop (i * 9)) HC1.out HC2.out HC3.out HC4.out ?_; intro w1 hk1 hg1 hd1)
  have HK1 := hid hk1
  have HG1 := hid hg1
  have HV1 := hid (HV.out.drew.grown hg1 (fun e => HNE.out (by injection e)))
  clear hk1 hg1
  go_wp2_with (refine wpList_copyN rfl (.tmp 80) (.tmp 81) 24 24 rfl 64 9 Tryz.underlying24 cellsSv g (i * 9) (n + 1 - i) (c - i) ⟨vb, 0, none⟩ 1 vc (by simp [Act.eval]) (by simp [Act.eval]) _ 64 HK1.out vs HC5.out (blk_at HV1.out hvc) HC6.out h1 ?_; intro w2 hk2 hg2 hd2)
  go_ret
  refine ⟨_, _, rfl, ⟨?_, .inr ⟨g, c, _, rfl, hbg, hk2, by omega, by simpa [maxLen] using hc63, ?_, ?_⟩⟩, ?_, fun k hk => .inl ⟨_, rfl, by injection hk with hk⟩⟩
  · simp only [List.length_append, List.length_take, List.length_drop]
    have := HXL.out; have := HVL.out
    omega
  · have h1 := length_splice cur.toList ((i + 1) * 9) (xs.drop (i * 9)) HC3'.out
    have h2 := length_splice (splice cur.toList ((i + 1) * 9) (xs.drop (i * 9))) (i * 9) vs (by simpa using HC6.out)
    rw [List.size_toArray, List.toList_toArray, h2, h1]
    simpa using HCS.out
  · rw [List.toList_toArray, List.toList_toArray]
    exact HB2.out
  · have hlt := HG.out.lt
    exact ((Fr.refl _ w).drew.grown HG1.out (fun k hk => .inl (⟨_, rfl, by injection hk with hk⟩)) hd1).grown hg2 (fun k hk => .inl (⟨_, rfl, by injection hk with hk⟩)) hd2
set_option maxHeartbeats 2000000 in
set_option maxRecDepth 100000 in
theorem insSv_grow (base g : Nat) (n c i : Nat) (cur : Array Value) (xs : List Value) (vb vc : Nat) (vcur : Array Value) (vs : List Value) (w : World) (hg : Blk w g 64 cur) (hbase : base ≤ w.heap.size) (hcs : cur.size = c * 9) (hcx : cur.toList.take (n * 9) = xs)
    (hi : i < n) (hnc : n ≤ c) (hr : c < n + 1) (hn : n ≤ 1000) (hv : Blk w vb 64 vcur) (hvc : vcur.toList.take 9 = vs) (hvl : vs.length = 9) (h1 : ∀ v ∈ vs, v.oneCell' = true) (h1x : ∀ v ∈ xs, v.oneCell' = true) :
    Calls Tryz.prog 135 #[.slice (some ⟨g, 0, none⟩) n c, .int .i64 i, .slice (some ⟨vb, 0, none⟩) 1 vc] w (InsSv (LB (some ⟨g, 0, none⟩)) base n i xs vs w) := by
  obtain ⟨i0, hi0, hz0, hzs, hzb⟩ := info_parts infoSv
  have hcl : cur.toList.length = c * 9 := by rw [Array.length_toList]; exact hcs
  have hxl : xs.length = n * 9 := by rw [← hcx, List.length_take, hcl]; omega
  have hold : (Builtin.firstCells i0.size i (.slice (some ⟨g, 0, none⟩) i c)).run Tryz.prog w.drew = .ok (xs.take (i * 9)).toArray w.drew := by
    rw [hzs]
    exact run_firstCells_some w.drew 9 i ⟨g, 0, none⟩ i c (xs.take (i * 9)) (by rw [List.length_take]; omega) (fun j v hj => by
      have hj' : (xs.drop 0)[j]? = some v := by
        rw [List.drop_zero]
        rw [List.getElem?_take] at hj
        split at hj
        · exact hj
        · cases hj
      exact blk_drop hg.drew hcx 0 j v hj')
  have hkk : (n : Int) + 1 - (i : Int) = ((n + 1 - i : Nat) : Int) := by omega
  have hik : i + (n + 1 - i) = n + 1 := by omega
  obtain ⟨G, hG⟩ : ∃ G, G = grownCap w (n + 1) c 64 := ⟨_, rfl⟩
  have hGn : n + 1 ≤ G := by rw [hG]; exact grownCap_ge w _ _ _
  have hG63 : G ≤ 9223372036854775807 := by
    have := grownCap_le_maxLen w (n + 1) c 64 (by unfold maxLen; omega)
    rw [← hG] at this
    unfold maxLen at this
    omega
  obtain ⟨ROW, hROW⟩ : ∃ ROW : Array Value, ROW = (xs.take (i * 9)).toArray ++ Builtin.zeroCells (Value.agg #[.string ⟨#[]⟩, .string ⟨#[]⟩, .string ⟨#[]⟩, .string ⟨#[]⟩, .int .i64 0, .int .i64 0, .bool false, .int .i64 0, .bool false]).cells (n + 1 - i) ++ Builtin.zeroCells (Value.agg #[.string ⟨#[]⟩, .string ⟨#[]⟩, .string ⟨#[]⟩, .string ⟨#[]⟩, .int .i64 0, .int .i64 0, .bool false, .int .i64 0, .bool false]).cells (G - (n + 1)) := ⟨_, rfl⟩
  have hrz : ∀ ty, (Builtin.append_ #[24, 3] ty #[.slice (some ⟨g, 0, none⟩) i c, .int .i64 ((n : Int) + 1 - (i : Int))]).run Tryz.prog w =
      .ok (.slice (some ⟨w.heap.size, 0, none⟩) (n + 1) G) (w.drew.alloc (.cells ROW 64)) := fun ty => by
    have h := Lib.run_append_grow_zeros w 24 3 ty 64 i0 _ .i64 .i64 Tryz.underlying24 Tryz.underlying3 hi0 hz0 (some ⟨g, 0, none⟩) i c (xs.take (i * 9)) hold (n + 1 - i) (by omega) (by omega) (by omega) (by omega) (by rw [hzb]; omega) (by rw [hzb, hik]; exact growslice_fits hr (by omega))
    rw [hik] at h
    rw [hkk, hROW, hG]
    exact h
  have hRs : ROW.size = G * 9 := by
    rw [hROW]
    simp [Builtin.zeroCells, Value.cells]
    omega
  have hRl : ROW.toList.length = G * 9 := by rw [Array.length_toList]; exact hRs
  have hRt : ROW.toList.take (i * 9) = xs.take (i * 9) := by
    rw [hROW, Array.toList_append, Array.toList_append, List.append_assoc, List.take_append_of_le_length (by simp; omega), List.toList_toArray, List.take_take, Nat.min_self]
  have HB2 : Hid ((splice (splice ROW.toList (i * 9) vs) ((i + 1) * 9) (xs.drop (i * 9))).take ((n + 1) * 9) = xs.take (i * 9) ++ vs ++ xs.drop (i * 9)) := by
    refine hid ?_
    have h := splice_new ROW.toList xs vs (i * 9) (n * 9) hRt hxl (by omega) (by rw [hRl, hvl]; omega)
    rw [hvl] at h
    rw [Nat.add_mul, Nat.add_mul, Nat.one_mul]
    exact h
  have hgl := hg.lt
  have hvlt := hv.lt
  have HN := hid (Blk.new_ w.drew 64 ROW (g := w.heap.size) rfl)
  have HV := hid ((hv.drew).alloc (.cells ROW 64))
  have HG0 := hid ((hg.drew).alloc (.cells ROW 64))
  have HC1 : Hid (vs.length = Nat.min 1 (n + 1 - i) * 9) := by
    refine hid ?_
    rw [hvl, show Nat.min 1 (n + 1 - i) = 1 from Nat.min_eq_left (by omega)]
  have HC2 : Hid (i * 9 + vs.length ≤ ROW.size) := hid (by rw [hRs, hvl]; omega)
  have HC2' : Hid (i * 9 + vs.length ≤ ROW.toList.length) := hid (by rw [hRl, hvl]; omega)
  have HC3 : Hid ((xs.drop (i * 9)).length = Nat.min (n - i) (n - i) * 9) := by
    refine hid ?_
    rw [List.length_drop, hxl, show Nat.min (n - i) (n - i) = n - i from Nat.min_self _, Nat.sub_mul]
  have HC4 : Hid ((i + 1) * 9 + (xs.drop (i * 9)).length ≤ (splice ROW.toList (i * 9) vs).toArray.size) := by
    refine hid ?_
    rw [List.size_toArray, length_splice _ _ _ HC2'.out, hRl, List.length_drop]
    omega
  have HC5 := hid (fun v (hv : v ∈ xs.drop (i * 9)) => h1x v (List.mem_of_mem_drop hv))
  have HRL := hid hRl
  have HXL := hid hxl
  have HVL := hid hvl
  have HCX := hid hcx
  have HRS := hid hRs
  have HNE : Hid (w.heap.size ≠ g) := hid (by omega)
  have HNV : Hid (w.heap.size ≠ vb) := hid (by omega)
  clear hRl hxl hvl hcx hRs hold hi0 hz0 hzs hzb hkk hik hROW hG hg hv hcs hcl hRt
  have hw1 : IntKind.i64.wrap ((i : Int) + 1) = (i : Int) + 1 := by rw [IntWalk.i64_in _ (by omega)]
  have hb1 : (0 : Int) ≤ (i : Int) + 1 := by omega
  have htn : ((i : Int) + 1).toNat = i + 1 := by omega
  have hb3 : (i : Int) ≤ (n : Int) + 1 := by omega
  have hb4 : (i : Int) + 1 ≤ (n : Int) + 1 := by omega
  have hb5 : (i : Int) ≤ (n : Int) := by omega
  have hb6 : ¬ c = i := by omega
  have hb7 : ¬ G = i + 1 := by omega
  have hb9 : ¬ G = i := by omega
  have hb8 : ((i : Int) == (n : Int)) = false := by simp; omega
  go_enter Tryz.func135, Tryz.ntmps135
  go_wp2_with (first
    | (at_builtin; refine Lib.wpList_append_run _ rfl _ _ _ _ rfl _ _ rfl rfl _ _ (hrz _) ?_; clear hrz)
    | (refine wpList_copyN rfl (.tmp 43) (.tmp 44) 24 24 rfl 64 9 Tryz.underlying24 cellsSv w.heap.size (i * 9) (n + 1 - i) (G - i) ⟨vb, 0, none⟩ 1 vc (by simp [Act.eval]) (by simp [Act.eval]) ROW 64 HN.out.drew vs HC1.out (blk_at HV.out.drew hvc) HC2.out h1 ?_; intro w1 hk1 hg1 hd1))
  have HK1 := hid hk1
  have HG1 := hid hg1
  have HG0' := hid ((show Blk (w.alloc (.cells ROW 64)).drew g 64 cur from HG0.out).grown hg1 (fun e => HNE.out (by injection e with e; exact e.symm)))
  have HC2a := hid (fun j v (hj : (xs.drop (i * 9))[j]? = some v) => blk_drop HG0'.out.drew HCX.out (i * 9) j v hj)
  clear hk1 hg1
  go_region_law (refine step_copyN rfl (.tmp 50) (.tmp 53) 24 24 rfl 64 9 Tryz.underlying24 cellsSv w.heap.size ((i + 1) * 9) (n - i) (G - (i + 1)) ⟨g, i * 9, none⟩ (n - i) (c - i) (by simp [Act.eval, Act.put]) (by simp [Act.eval, Act.put]) _ 64 HK1.out.drew (xs.drop (i * 9)) HC3.out HC2a.out HC4.out HC5.out ?_; intro w2 hk2 hg2 hd2)
  have HK2 := hid hk2
  have HG2 := hid hg2
  clear hk2 hg2
  go_wp2
  go_ret
  refine ⟨_, _, rfl, ⟨?_, .inr ⟨w.heap.size, G, _, rfl, hbase, HK2.out, hGn, by simpa [maxLen] using hG63, ?_, ?_⟩⟩, ?_, fun k hk => .inr (Nat.le_of_eq (show w.heap.size = k by injection hk))⟩
  · simp only [List.length_append, List.length_take, List.length_drop]
    have := HXL.out; have := HVL.out
    omega
  · have h1 := length_splice ROW.toList (i * 9) vs HC2'.out
    have h2 := length_splice (splice ROW.toList (i * 9) vs) ((i + 1) * 9) (xs.drop (i * 9)) (by simpa using HC4.out)
    rw [List.size_toArray, List.toList_toArray, h2, h1]
    simpa using HRS.out
  · rw [List.toList_toArray, List.toList_toArray]
    exact HB2.out
  · exact ((((Fr.refl _ w).alloc _).drew.grown HG1.out (fun k hk => .inr (by injection hk with hk; omega)) hd1).drew).grown HG2.out (fun k hk => .inr (by injection hk with hk; omega)) hd2
theorem insSv_any (base : Nat) (A : Option Addr) (n c i : Nat) (xs : List Value) (vb vc : Nat) (vcur : Array Value) (vs : List Value) (w : World) (hown : w.ownsRow base 64 9 (.slice A n c) n xs) (hbase : base ≤ w.heap.size)
    (hi : i ≤ n) (hn : n ≤ 1000) (hv : Blk w vb 64 vcur) (hvc : vcur.toList.take 9 = vs) (hne : (Value.slice A n c).ownBlock ≠ some vb) (hvl : vs.length = 9) (h1 : ∀ v ∈ vs, v.oneCell' = true) (h1x : ∀ v ∈ xs, v.oneCell' = true) :
    Calls Tryz.prog 135 #[.slice A n c, .int .i64 i, .slice (some ⟨vb, 0, none⟩) 1 vc] w (InsSv (LB A) base n i xs vs w) := by
  by_cases hin : i = n
  · subst hin
    exact insSv_end base A i c xs vb vc vcur vs w hown hbase hn hv hvc hvl h1
  · obtain ⟨hl, h2⟩ := hown
    rcases h2 with ⟨_, h0⟩ | ⟨g, cap, cur, hA, hbg, hh, hnc, hm, hsz, htk⟩
    · omega
    · injection hA with hA _ hcap
      subst hA; subst hcap
      have hne' : vb ≠ g := fun e => hne (by subst e; rfl)
      by_cases hr : n + 1 ≤ c
      · exact insSv_room base g n c i cur xs vb vc vcur vs w hh hbg hsz htk (by omega) hr (by simpa [maxLen] using hm) hn hv hvc hne' hvl h1 h1x
      · exact insSv_grow base g n c i cur xs vb vc vcur vs w hh hbase hsz htk (by omega) hnc (by omega) hn hv hvc hvl h1 h1x
end Go.Proofs.YtkclokmfomnbgaaGreat
namespace Go.Proofs.YtkclokmfomnbgaaGreat
open Go.RowKit
set_option linter.unusedVariables false
def ClnSv (base n : Nat) (xs : List Value) (w : World) (e : Ending) (w' : World) : Prop :=
  ∃ A' c', e = .returned (.slice A' n c') ∧ w'.ownsRow base 64 9 (.slice A' n c') n xs ∧ Below base w w' ∧ w.drawn ≤ w'.drawn
set_option maxRecDepth 100000 in
theorem clnSv_any (A : Option Addr) (n c : Nat) (xs : List Value) (w : World) (hA : A = none → n = 0) (hn : n ≤ 1000) (hxl : xs.length = n * 9) (hx : ∀ ad, A = some ad → ∀ j u, xs[j]? = some u → w.cell? (ad.add j) = some u) (h1 : ∀ v ∈ xs, v.oneCell' = true) :
    Calls Tryz.prog 117 #[.slice A n c] w (ClnSv w.heap.size n xs w) := by
  obtain ⟨i0, hi0, hz0, hzs, hzb⟩ := info_parts infoSv
  cases A with
  | none =>
    obtain rfl := hA rfl
    obtain rfl : xs = [] := List.eq_nil_of_length_eq_zero (by simpa using hxl)
    clear hx hxl hi0 hz0 hzs hzb h1
    have hnl := fun (w : World) => Lib.run_eql_slice_nil (P := Tryz.prog) w 24 64 none 0 c 0 0 Tryz.underlying24
    go_enter Tryz.func117, Tryz.ntmps117
    go_wp2
    go_ret
    exact ⟨none, 0, rfl, World.ownsRow_nil _ _ _ _, Below.refl _ _, Nat.le_refl _⟩
  | some ad =>
    have HX := hid (hx ad rfl)
    have HXL := hid hxl
    have HZ0 := hid hz0
    have HZS := hid hzs
    have HZB := hid hzb
    have HI0 := hid hi0
    clear hx hxl hA hi0 hz0 hzs hzb
    have hnl := fun (w : World) => Lib.run_eql_slice_nil (P := Tryz.prog) w 24 64 (some ad) n c 0 0 Tryz.underlying24
    go_enter Tryz.func117, Tryz.ntmps117
    have hown0 : (w.alloc (.cells #[] 64)).ownsRow w.heap.size 64 9 (.slice (some ⟨w.heap.size, 0, none⟩) 0 0) 0 [] :=
      ⟨by simp, .inr ⟨w.heap.size, 0, #[], rfl, Nat.le_refl _, heap_alloc_new w _, by omega, by simp [maxLen], by simp, by simp⟩⟩
    have HO := hid hown0
    have HX1 := hid (fun j u (hj : xs[j]? = some u) => (World.cell?_alloc_lt w (.cells #[] 64) (ad.add j) (cell_lt (HX.out j u hj))).trans (HX.out j u hj))
    clear hown0
    go_wp2_with (at_builtin; refine wpList_appD _ rfl _ _ 24 rfl w.heap.size 64 i0 _ 9 104 Tryz.underlying24 HI0.out HZ0.out HZS.out HZB.out rfl (by decide) _ _ _ rfl HO.out ad n c xs rfl HXL.out HX1.out h1 (by simp only [maxLen]; omega) (by omega) (by simp) ?_; intro v1 w1 hown1 hg1 hd1 hat1)
    go_ret
    rw [Nat.zero_add, List.nil_append] at hown1
    obtain ⟨A', c', rfl⟩ := own_form hown1
    exact ⟨A', c', rfl, hown1, ((Below.refl _ _).alloc (Nat.le_refl _) _).grown hg1 (by simp) (own_base HO.out), hd1⟩
end Go.Proofs.YtkclokmfomnbgaaGreat
namespace Go.Proofs.YtkclokmfomnbgaaGreat
open Go.RowKit
set_option linter.unusedVariables false
theorem cloneSv_fun {α : Type} (enc : α → List Value) (he : ∀ x, (enc x).length = 9) (h1 : ∀ x, ∀ v ∈ enc x, v.oneCell' = true) (cl : Bool) (l : List α) (hl : l.length ≤ 1000) :
    Fun Tryz.prog 117 [.c (.sl cl (l.map fun x => (enc x).map .v))] [.o 64 9 (l.map fun x => (enc x).map .v)] := by
  refine ⟨callable Tryz.func117 (by kernel_rfl) (by kernel_rfl), fun w R xs hlt hp => ?_⟩
  obtain ⟨v, rfl, hv⟩ := pars_one hp
  obtain ⟨A, c, rfl, hA, hx⟩ := sl_cells he hv
  have hone : ∀ v ∈ l.flatMap enc, v.oneCell' = true := fun v hv => by
    obtain ⟨g, _, hg⟩ := List.mem_flatMap.1 hv
    exact h1 g v hg
  refine (clnSv_any A l.length c (l.flatMap enc) w hA hl (flat_len he l) hx hone).mono ?_
  rintro e w' ⟨A', c', rfl, hown, hb, hd⟩
  exact own_result he h1 (by decide) hlt hown (fr_of_below hb hd) (fun k hk => .inr (own_base hown k hk)) (fun k hk => by have := own_base hown k hk; intro h; have := hlt k h; omega)
set_option maxHeartbeats 1000000 in
theorem insertSv_fun {α : Type} (enc : α → List Value) (he : ∀ x, (enc x).length = 9) (h1 : ∀ x, ∀ v ∈ enc x, v.oneCell' = true) (l : List α) (x : α) (i : Nat) (hi : i ≤ l.length) (hl : l.length ≤ 1000) :
    Fun Tryz.prog 135 [.o 64 9 (l.map fun x => (enc x).map .v), .c (.v (.int .i64 i)), .o 64 9 [(enc x).map .v]] [.o 64 9 ((l.take i ++ [x] ++ l.drop i).map fun x => (enc x).map .v)] := by
  refine ⟨callable Tryz.func135 (by kernel_rfl) (by kernel_rfl), fun w R xs hlt hp => ?_⟩
  obtain ⟨v0, v2, rfl, o0, o2, hap, hf0⟩ := pars_ins (enc := enc) he hp
  obtain ⟨A, c, rfl⟩ := own_form o0
  rcases o2.2 with ⟨_, h0⟩ | ⟨g, cap, cur, rfl, _, hh, hcap, _, hsz, htk⟩
  · omega
  have hone : ∀ v ∈ l.flatMap enc, v.oneCell' = true := fun v hv => by
    obtain ⟨g, _, hg⟩ := List.mem_flatMap.1 hv
    exact h1 g v hg
  refine (insSv_any 0 A l.length c i (l.flatMap enc) g cap cur (enc x) w o0 (Nat.zero_le _) hi hl hh (by rw [Nat.one_mul] at htk; exact htk) (fun e => hap g e rfl) (he x) (h1 x) hone).mono ?_
  rintro e w' ⟨A', c', rfl, hown, hb, hk⟩
  rw [flat_ins he l x i, show l.length + 1 = (l.take i ++ [x] ++ l.drop i).length by simp; omega] at hown
  rw [show l.length + 1 = (l.take i ++ [x] ++ l.drop i).length by simp; omega] at hk ⊢
  have hL : ∀ k, LB A k → ParBlk [.o 64 9 (l.map fun x => (enc x).map .v), .c (.v (.int .i64 i)), .o 64 9 [(enc x).map .v]] [.slice A l.length c, .int .i64 i, .slice (some ⟨g, 0, none⟩) 1 cap] k := fun k ⟨a, ha, hq⟩ => ⟨0, _, _, _, _, rfl, rfl, by subst ha; simp only [Value.ownBlock]; rw [hq]⟩
  exact own_result he h1 (by decide) hlt hown (hb.imp hL) (fun k hk' => (hk k hk').imp (hL k) (fun h => h)) (fun k hk' => by
    rcases hk k hk' with h | h
    · exact hf0 k (hL k h)
    · intro h'; have := hlt k h'; omega)
end Go.Proofs.YtkclokmfomnbgaaGreat
namespace Go.Proofs.YtkclokmfomnbgaaGreat
open Go.RowKit Pl
set_option linter.unusedVariables false
theorem swithin_fun (n a b : Int) : Fun Tryz.prog 190 [.c (.v (.int .i64 n)), .c (.v (.int .i64 a)), .c (.v (.int .i64 b))] [.c (.v (.bool (wi n a b)))] := by
  refine fun_x ck_catalog_within rfl ?_
  (refine goI ?_; repeat (intro gg; refine goI ?_))
  (refine bIf_of (fun h => ?_) (fun h => ?_) <;> rw [h])
  · (refine goI ?_; repeat (intro gg; refine goI ?_))
    rw [wi_t h]
    (exact ⟨[], aI⟩)
  · (refine goI ?_; repeat (intro gg; refine goI ?_))
    rw [wi_f h]
    (exact ⟨[], aI⟩)
theorem maybe_fun (s : ByteArray) (hs : s.size ≤ 9223372036854775807) : Fun Tryz.prog 189 [.c (.v (.string s))] [.c (.v (.bool (mayb s)))] := by
  refine fun_x ck_catalog_maybe rfl ?_
  (refine goI ?_; repeat (intro gg; refine goI ?_))
  (refine bIf_of (fun h => ?_) (fun h => ?_) <;> rw [h])
  · (refine goI ?_; repeat (intro gg; refine goI ?_))
    rw [show mayb s = true by unfold mayb; rw [show emp s = true from h]; rfl]
    (exact ⟨[], aI⟩)
  · (refine goI ?_; repeat (intro gg; refine goI ?_))
    (refine .inl ⟨_, _, false, [], aI, label_fun _ hs, nobor, nI, ?_⟩)
    (refine goI ?_; repeat (intro gg; refine goI ?_))
    rw [show mayb s = lab s.data.toList by unfold mayb; rw [show emp s = false from h]; rfl]
    (exact ⟨[], aI⟩)
theorem sone_fun (m : Sv) (hm : m.ok) : Fun Tryz.prog 155 [.c (.agg m.row)] [.c (.v (.int .i64 m.err))] := by
  obtain ⟨o1, o2, o3, o4⟩ := hm
  refine fun_x ck_catalog_one rfl ?_
  (refine goI ?_; repeat (intro gg; refine goI ?_))
  (refine .inl ⟨_, _, false, [], aI, label_fun _ o1, nobor, nI, ?_⟩)
  (refine goI ?_; repeat (intro gg; refine goI ?_))
  (refine bIf_of (fun h1 => ?_) (fun h1 => ?_) <;> rw [h1])
  · (refine goI ?_; repeat (intro gg; refine goI ?_))
    (rw [show m.err = 1 from by (first | (simp_all ; done) | (unfold Sv.err; simp_all))]; (exact ⟨[], aI⟩))
  · (refine goI ?_; repeat (intro gg; refine goI ?_))
    (refine .inl ⟨_, _, false, [], aI, label_fun _ o2, nobor, nI, ?_⟩)
    (refine goI ?_; repeat (intro gg; refine goI ?_))
    (refine bIf_of (fun h2 => ?_) (fun h2 => ?_) <;> rw [h2])
    · (refine goI ?_; repeat (intro gg; refine goI ?_))
      (rw [show m.err = 1 from by (first | (simp_all ; done) | (unfold Sv.err; simp_all))]; (exact ⟨[], aI⟩))
    · (refine goI ?_; repeat (intro gg; refine goI ?_))
      (refine .inl ⟨_, _, false, [], aI, label_fun _ o3, nobor, nI, ?_⟩)
      (refine goI ?_; repeat (intro gg; refine goI ?_))
      (refine bIf_of (fun h3 => ?_) (fun h3 => ?_) <;> rw [h3])
      · (refine goI ?_; repeat (intro gg; refine goI ?_))
        (rw [show m.err = 1 from by (first | (simp_all ; done) | (unfold Sv.err; simp_all))]; (exact ⟨[], aI⟩))
      · (refine goI ?_; repeat (intro gg; refine goI ?_))
        (refine .inl ⟨_, _, false, [], aI, maybe_fun _ o4, nobor, nI, ?_⟩)
        (refine goI ?_; repeat (intro gg; refine goI ?_))
        (refine bIf_of (fun h4 => ?_) (fun h4 => ?_) <;> rw [h4])
        · (refine goI ?_; repeat (intro gg; refine goI ?_))
          (rw [show m.err = 1 from by (first | (simp_all ; done) | (unfold Sv.err; simp_all))]; (exact ⟨[], aI⟩))
        · (refine goI ?_; repeat (intro gg; refine goI ?_))
          (refine .inl ⟨_, _, false, [], aI, swithin_fun _ _ _, nobor, nI, ?_⟩)
          (refine goI ?_; repeat (intro gg; refine goI ?_))
          (refine bIf_of (fun h5 => ?_) (fun h5 => ?_) <;> rw [h5])
          · (refine goI ?_; repeat (intro gg; refine goI ?_))
            (rw [show m.err = 3 from by (first | (simp_all ; done) | (unfold Sv.err; simp_all))]; (exact ⟨[], aI⟩))
          · (refine goI ?_; repeat (intro gg; refine goI ?_))
            (refine .inl ⟨_, _, false, [], aI, swithin_fun _ _ _, nobor, nI, ?_⟩)
            (refine goI ?_; repeat (intro gg; refine goI ?_))
            (refine bIf_of (fun h6 => ?_) (fun h6 => ?_) <;> rw [h6])
            · (refine goI ?_; repeat (intro gg; refine goI ?_))
              (rw [show m.err = 3 from by (first | (simp_all ; done) | (unfold Sv.err; simp_all))]; (exact ⟨[], aI⟩))
            · (refine goI ?_; repeat (intro gg; refine goI ?_))
              (refine .inl ⟨_, _, false, [], aI, swithin_fun _ _ _, nobor, nI, ?_⟩)
              (refine goI ?_; repeat (intro gg; refine goI ?_))
              (refine bIf_of (fun h7 => ?_) (fun h7 => ?_) <;> rw [h7])
              · (refine goI ?_; repeat (intro gg; refine goI ?_))
                (rw [show m.err = 3 from by (first | (simp_all ; done) | (unfold Sv.err; simp_all))]; (exact ⟨[], aI⟩))
              · (refine goI ?_; repeat (intro gg; refine goI ?_))
                (rw [show m.err = 0 from by (first | (simp_all ; done) | (unfold Sv.err; simp_all))]; (exact ⟨[], aI⟩))
theorem rsone_fun (m : Sv) (hm : m.ok) : Fun Tryz.prog 113 [.c (.agg m.row)] [.c (.v (.int .i64 m.err))] := by
  obtain ⟨o1, o2, o3, o4⟩ := hm
  refine fun_x ck_hearsayref_OneService rfl ?_
  (refine goI ?_; repeat (intro gg; refine goI ?_))
  (refine .inl ⟨_, _, false, [], aI, rlabel_fun _ o1, nobor, nI, ?_⟩)
  (refine goI ?_; repeat (intro gg; refine goI ?_))
  (refine bIf_of (fun h1 => ?_) (fun h1 => ?_) <;> rw [h1])
  · (refine goI ?_; repeat (intro gg; refine goI ?_))
    (rw [show m.err = 1 from by (first | (simp_all ; done) | (unfold Sv.err; simp_all))]; (exact ⟨[], aI⟩))
  · (refine goI ?_; repeat (intro gg; refine goI ?_))
    (refine .inl ⟨_, _, false, [], aI, rlabel_fun _ o2, nobor, nI, ?_⟩)
    (refine goI ?_; repeat (intro gg; refine goI ?_))
    (refine bIf_of (fun h2 => ?_) (fun h2 => ?_) <;> rw [h2])
    · (refine goI ?_; repeat (intro gg; refine goI ?_))
      (rw [show m.err = 1 from by (first | (simp_all ; done) | (unfold Sv.err; simp_all))]; (exact ⟨[], aI⟩))
    · (refine goI ?_; repeat (intro gg; refine goI ?_))
      (refine .inl ⟨_, _, false, [], aI, rlabel_fun _ o3, nobor, nI, ?_⟩)
      (refine goI ?_; repeat (intro gg; refine goI ?_))
      (refine bIf_of (fun h3 => ?_) (fun h3 => ?_) <;> rw [h3])
      · (refine goI ?_; repeat (intro gg; refine goI ?_))
        (rw [show m.err = 1 from by (first | (simp_all ; done) | (unfold Sv.err; simp_all))]; (exact ⟨[], aI⟩))
      · (refine goI ?_; repeat (intro gg; refine goI ?_))
        (refine bIf_of (fun h4 => ?_) (fun h4 => ?_) <;> rw [h4])
        · have hmb : mayb m.tg = lab m.tg.data.toList := by unfold mayb; rw [show emp m.tg = false from not_t h4]; rfl
          (refine goI ?_; repeat (intro gg; refine goI ?_))
          (refine .inl ⟨_, _, false, [], aI, rlabel_fun _ o4, nobor, nI, ?_⟩)
          (refine goI ?_; repeat (intro gg; refine goI ?_))
          (refine bIf_of (fun h5 => ?_) (fun h5 => ?_) <;> rw [h5])
          · (refine goI ?_; repeat (intro gg; refine goI ?_))
            (rw [show m.err = 1 from by (first | (simp_all ; done) | (unfold Sv.err; simp_all))]; (exact ⟨[], aI⟩))
          · (refine goI ?_; repeat (intro gg; refine goI ?_))
            (refine .inl ⟨_, _, false, [], aI, address_fun _, nobor, nI, ?_⟩)
            (refine goI ?_; repeat (intro gg; refine goI ?_))
            (refine bIf_of (fun h6 => ?_) (fun h6 => ?_) <;> rw [h6])
            · (refine goI ?_; repeat (intro gg; refine goI ?_))
              (rw [show m.err = 3 from by (first | (simp_all ; done) | (unfold Sv.err; simp_all))]; (exact ⟨[], aI⟩))
            · (refine goI ?_; repeat (intro gg; refine goI ?_))
              (refine .inl ⟨_, _, false, [], aI, between_fun _ _ _, nobor, nI, ?_⟩)
              (refine goI ?_; repeat (intro gg; refine goI ?_))
              (refine bIf_of (fun h7 => ?_) (fun h7 => ?_) <;> rw [h7])
              · (refine goI ?_; repeat (intro gg; refine goI ?_))
                (rw [show m.err = 3 from by (first | (simp_all ; done) | (unfold Sv.err; simp_all))]; (exact ⟨[], aI⟩))
              · (refine goI ?_; repeat (intro gg; refine goI ?_))
                (refine .inl ⟨_, _, false, [], aI, between_fun _ _ _, nobor, nI, ?_⟩)
                (refine goI ?_; repeat (intro gg; refine goI ?_))
                (refine bIf_of (fun h8 => ?_) (fun h8 => ?_) <;> rw [h8])
                · (refine goI ?_; repeat (intro gg; refine goI ?_))
                  (rw [show m.err = 3 from by (first | (simp_all ; done) | (unfold Sv.err; simp_all))]; (exact ⟨[], aI⟩))
                · (refine goI ?_; repeat (intro gg; refine goI ?_))
                  (rw [show m.err = 0 from by (first | (simp_all ; done) | (unfold Sv.err; simp_all))]; (exact ⟨[], aI⟩))
        · have hmb : mayb m.tg = true := by unfold mayb; rw [show emp m.tg = true from not_f h4]; rfl
          (refine goI ?_; repeat (intro gg; refine goI ?_))
          (refine .inl ⟨_, _, false, [], aI, address_fun _, nobor, nI, ?_⟩)
          (refine goI ?_; repeat (intro gg; refine goI ?_))
          (refine bIf_of (fun h6 => ?_) (fun h6 => ?_) <;> rw [h6])
          · (refine goI ?_; repeat (intro gg; refine goI ?_))
            (rw [show m.err = 3 from by (first | (simp_all ; done) | (unfold Sv.err; simp_all))]; (exact ⟨[], aI⟩))
          · (refine goI ?_; repeat (intro gg; refine goI ?_))
            (refine .inl ⟨_, _, false, [], aI, between_fun _ _ _, nobor, nI, ?_⟩)
            (refine goI ?_; repeat (intro gg; refine goI ?_))
            (refine bIf_of (fun h7 => ?_) (fun h7 => ?_) <;> rw [h7])
            · (refine goI ?_; repeat (intro gg; refine goI ?_))
              (rw [show m.err = 3 from by (first | (simp_all ; done) | (unfold Sv.err; simp_all))]; (exact ⟨[], aI⟩))
            · (refine goI ?_; repeat (intro gg; refine goI ?_))
              (refine .inl ⟨_, _, false, [], aI, between_fun _ _ _, nobor, nI, ?_⟩)
              (refine goI ?_; repeat (intro gg; refine goI ?_))
              (refine bIf_of (fun h8 => ?_) (fun h8 => ?_) <;> rw [h8])
              · (refine goI ?_; repeat (intro gg; refine goI ?_))
                (rw [show m.err = 3 from by (first | (simp_all ; done) | (unfold Sv.err; simp_all))]; (exact ⟨[], aI⟩))
              · (refine goI ?_; repeat (intro gg; refine goI ?_))
                (rw [show m.err = 0 from by (first | (simp_all ; done) | (unfold Sv.err; simp_all))]; (exact ⟨[], aI⟩))
theorem order_fun (g x : Sv) : Fun Tryz.prog 162 [.c (.agg g.row), .c (.agg x.row)] [.c (.v (.int .i64 (Sv.cf x.nd x.id g)))] := by
  refine fun_x ck_catalog_order rfl ?_
  (refine goI ?_; repeat (intro gg; refine goI ?_))
  (refine ⟨_, _, false, aI, cmps_fun _ _, nobor, nI, ?_⟩)
  (refine goI ?_; repeat (intro gg; refine goI ?_))
  (refine .inl ⟨_, _, false, [], aI, cmps_fun _ _, nobor, nI, ?_⟩)
  (refine goI ?_; repeat (intro gg; refine goI ?_))
  (refine .inl ⟨_, _, true, [], aI, or_fun false [scmp g.nd x.nd, scmp g.id x.id] (by simp), (fun _ => fI), nI, ?_⟩)
  (refine goI ?_; repeat (intro gg; refine goI ?_))
  (exact ⟨[], aI⟩)
theorem ahead_fun (g x : Sv) : Fun Tryz.prog 114 [.c (.agg g.row), .c (.agg x.row)] [.c (.v (.bool (Sv.lt g x)))] := by
  refine fun_x ck_hearsayref_ahead rfl ?_
  (refine goI ?_; repeat (intro gg; refine goI ?_))
  (refine bIf_of (fun h1 => ?_) (fun h1 => ?_) <;> rw [h1])
  · (refine goI ?_; repeat (intro gg; refine goI ?_))
    rw [Sv.ahead1 h1]
    (exact ⟨[], aI⟩)
  · (refine goI ?_; repeat (intro gg; refine goI ?_))
    (refine bIf_of (fun h2 => ?_) (fun h2 => ?_) <;> rw [h2])
    · (refine goI ?_; repeat (intro gg; refine goI ?_))
      rw [Sv.ahead2 h1 h2]
      (exact ⟨[], aI⟩)
    · (refine goI ?_; repeat (intro gg; refine goI ?_))
      rw [Sv.ahead3 h1 h2]
      (exact ⟨[], aI⟩)
theorem snumber_fun (b : Bool) : Fun Tryz.prog 181 [.c (.v (.bool b))] [.c (.v (.int .i64 (b2i b)))] := by
  refine fun_x ck_catalog_number rfl ?_
  (refine goI ?_; repeat (intro gg; refine goI ?_))
  (refine bIf_of (fun h => ?_) (fun h => ?_) <;> rw [h])
  · (refine goI ?_; repeat (intro gg; refine goI ?_))
    (exact ⟨[], aI⟩)
  · (refine goI ?_; repeat (intro gg; refine goI ?_))
    (exact ⟨[], aI⟩)
theorem scmp_fun (g x : Sv) : Fun Tryz.prog 136 [.c (.agg g.row), .c (.agg x.row)] [.c (.v (.int .i64 (Sv.cmp g x)))] := by
  refine fun_x ck_catalog_compare rfl ?_
  (refine goI ?_; repeat (intro gg; refine goI ?_))
  (refine ⟨_, _, false, aI, cmpi_fun _ _, nobor, nI, ?_⟩)
  (refine goI ?_; repeat (intro gg; refine goI ?_))
  (refine ⟨_, _, false, aI, snumber_fun _, nobor, nI, ?_⟩)
  (refine goI ?_; repeat (intro gg; refine goI ?_))
  (refine ⟨_, _, false, aI, snumber_fun _, nobor, nI, ?_⟩)
  (refine goI ?_; repeat (intro gg; refine goI ?_))
  (refine ⟨_, _, false, aI, cmpi_fun _ _, nobor, nI, ?_⟩)
  (refine goI ?_; repeat (intro gg; refine goI ?_))
  (refine ⟨_, _, false, aI, cmps_fun _ _, nobor, nI, ?_⟩)
  (refine goI ?_; repeat (intro gg; refine goI ?_))
  (refine ⟨_, _, false, aI, cmps_fun _ _, nobor, nI, ?_⟩)
  (refine goI ?_; repeat (intro gg; refine goI ?_))
  (refine ⟨_, _, false, aI, cmpi_fun _ _, nobor, nI, ?_⟩)
  (refine goI ?_; repeat (intro gg; refine goI ?_))
  (refine ⟨_, _, false, aI, cmpi_fun _ _, nobor, nI, ?_⟩)
  (refine goI ?_; repeat (intro gg; refine goI ?_))
  (refine ⟨_, _, false, aI, snumber_fun _, nobor, nI, ?_⟩)
  (refine goI ?_; repeat (intro gg; refine goI ?_))
  (refine .inl ⟨_, _, false, [], aI, snumber_fun _, nobor, nI, ?_⟩)
  (refine goI ?_; repeat (intro gg; refine goI ?_))
  (refine .inl ⟨_, _, false, [], aI, cmpi_fun _ _, nobor, nI, ?_⟩)
  (refine goI ?_; repeat (intro gg; refine goI ?_))
  (refine .inl ⟨_, _, true, [], aI, or_fun false [icmp g.vs x.vs, icmp (b2i g.gn) (b2i x.gn), scmp g.nm x.nm, scmp g.tg x.tg, icmp g.ad x.ad, icmp g.pt x.pt, icmp (b2i g.ps) (b2i x.ps)] (by simp), (fun _ => fI), nI, ?_⟩)
  (refine goI ?_; repeat (intro gg; refine goI ?_))
  (exact ⟨[], aI⟩)
def slsRow (l : List Sv) : List V := [.sl false (l.map Sv.row)]
theorem scheck_fun (c : Bool) (ls : List (List Sv)) (hls : ls.length ≤ 9223372036854775807) (hl : ∀ l ∈ ls, l.length ≤ 9223372036854775807) (hw : ∀ l ∈ ls, ∀ m ∈ l, m.ok) : Fun Tryz.prog 105 [.c (.sl c (ls.map slsRow))] [.c (.v (.int .i64 (firstErr ckSv ls)))] := by
  refine fun_x ck_catalog_check rfl ?_
  (refine goI ?_; repeat (intro gg; refine goI ?_))
  rw [List.length_map]
  (refine ⟨[], none, {k : Nat // k ≤ ls.length ∧ ∀ j, (h : j < ls.length) → j < k → ckSv (ls[j]) = 0}, [9, 10], fun ⟨k, hk, h0⟩ => [(11, .v (.int .i64 k))], [], fun ⟨k, hk, h0⟩ => [], fun ⟨k, hk, h0⟩ => ls.length - k, trivial, fun _ => ⟨trivial, fun _ => ⟨⟨0, by omega, fun j _ h => by omega⟩, tI, keptE_refl _ _, tI, keptH_refl _ _⟩⟩, fun ⟨k, hk, h0⟩ => ?_⟩)
  (refine goI ?_; repeat (intro gg; refine goI ?_))
  (refine bIf_of (fun h => ?_) (fun h => ?_) <;> rw [h])
  · have hlt : k < ls.length := by simpa using h
    (refine goI ?_; repeat (intro gg; refine goI ?_))
    refine ⟨k, _, rfl, row_map hlt, ?_⟩
    (refine goI ?_; repeat (intro gg; refine goI ?_))
    have HL := hl _ (List.getElem_mem hlt)
    have HW := hw _ (List.getElem_mem hlt)
    have HE := firstErr_at (e := ckSv) hlt h0
    have HN : ckSv ls[k] = 0 → ∀ j, (h : j < ls.length) → j < k + 1 → ckSv (ls[j]) = 0 := fun e => up1 (p := fun j h => ckSv (ls[j]) = 0) h0 (fun _ => e)
    generalize ls[k] = l at *
    rw [List.length_map]
    (refine bIf_of (fun h1 => ?_) (fun h1 => ?_) <;> rw [h1])
    · (refine goI ?_; repeat (intro gg; refine goI ?_))
      have e : ckSv l = 2 := ckL_long (by have := of_decide_eq_true h1; omega)
      rw [HE (by rw [e]; decide), e]
      (exact ⟨[], aI⟩)
    · have h1' : ¬ 40 < l.length := (by have := of_decide_eq_false h1; omega)
      (refine goI ?_; repeat (intro gg; refine goI ?_))
      rw [List.length_map]
      (refine ⟨[], none, {q : Nat // q ≤ l.length ∧ ∀ j, (h : j < l.length) → j < q → (l[j]).err = 0}, [4, 9, 10, 11, 18, 19], fun ⟨q, hq, g0⟩ => [(20, .v (.int .i64 q))], [], fun ⟨q, hq, g0⟩ => [], fun ⟨q, hq, g0⟩ => l.length - q, trivial, fun _ => ⟨trivial, fun _ => ⟨⟨0, by omega, fun j _ h => by omega⟩, tI, keptE_refl _ _, tI, keptH_refl _ _⟩⟩, fun ⟨q, hq, g0⟩ => ?_⟩)
      (refine goI ?_; repeat (intro gg; refine goI ?_))
      (refine bIf_of (fun h2 => ?_) (fun h2 => ?_) <;> rw [h2])
      · have hlt2 : q < l.length := (by have := of_decide_eq_true h2; omega)
        (refine goI ?_; repeat (intro gg; refine goI ?_))
        refine ⟨q, _, rfl, row_map hlt2, ?_⟩
        (refine goI ?_; repeat (intro gg; refine goI ?_))
        (refine .inl ⟨_, _, false, [], aI, sone_fun _ (HW _ (List.getElem_mem hlt2)), nobor, nI, ?_⟩)
        (refine goI ?_; repeat (intro gg; refine goI ?_))
        (refine bIf_of (fun h3 => ?_) (fun h3 => ?_) <;> rw [h3])
        · have h3' : (l[q]).err ≠ 0 := by simpa using h3
          have e0 := firstErr_at hlt2 g0 h3'
          (refine goI ?_; repeat (intro gg; refine goI ?_))
          have e : ckSv l = (l[q]).err := (ckL_each h1' (by rw [e0]; exact h3')).trans e0
          rw [HE (by rw [e]; exact h3'), e]
          (exact ⟨[], aI⟩)
        · (refine goI ?_; repeat (intro gg; refine goI ?_))
          (exact ⟨none, trivial, fun _ => ⟨⟨q + 1, by omega, up1 (p := fun j h => (l[j]).err = 0) g0 (fun _ => by simpa using h3)⟩, by show l.length - (q + 1) < l.length - q; omega, tI, tI, tI, tI⟩⟩)
      · have hge2 : ¬ q < l.length := (by have := of_decide_eq_false h2; omega)
        have h2' : firstErr Sv.err l = 0 := firstErr_zero fun i hi => g0 i hi (by omega)
        (refine goI ?_; repeat (intro gg; refine goI ?_))
        (refine ⟨[], none, {k : Nat // (k < l.length ∨ k = 0) ∧ ∀ i, (h : i + 1 < l.length) → i < k → Sv.lt l[i] l[i + 1] = true}, [4, 9, 10, 11], fun ⟨q, hq, g0⟩ => [(8, .v (.int .i64 ((q : Int) + 1)))], [], fun ⟨q, hq, g0⟩ => [], fun ⟨q, hq, g0⟩ => l.length - q, trivial, fun _ => ⟨trivial, fun _ => ⟨⟨0, by omega, fun j _ h => by omega⟩, tI, keptE_refl _ _, tI, keptH_refl _ _⟩⟩, fun ⟨q, hq, g0⟩ => ?_⟩)
        (refine goI ?_; repeat (intro gg; refine goI ?_))
        rw [List.length_map]
        (refine bIf_of (fun h3 => ?_) (fun h3 => ?_) <;> rw [h3])
        · have hlt3 : q + 1 < l.length := (by have := of_decide_eq_true h3; omega)
          (refine goI ?_; repeat (intro gg; refine goI ?_))
          refine ⟨q, _, by omega, row_map (by omega), ?_⟩
          (refine goI ?_; repeat (intro gg; refine goI ?_))
          refine ⟨q + 1, _, by omega, row_map hlt3, ?_⟩
          (refine goI ?_; repeat (intro gg; refine goI ?_))
          (refine .inl ⟨_, _, false, [], aI, order_fun _ _, nobor, nI, ?_⟩)
          (refine goI ?_; repeat (intro gg; refine goI ?_))
          (refine bIf_of (fun h4 => ?_) (fun h4 => ?_) <;> rw [h4])
          · (refine goI ?_; repeat (intro gg; refine goI ?_))
            have e : ckSv l = 4 := ckL_no h1' h2' (sorted_not hlt3 (decide_eq_false (by have := of_decide_eq_true h4; show ¬ Sv.cf l[q + 1].nd l[q + 1].id l[q] < 0; omega)))
            rw [HE (by rw [e]; decide), e]
            (exact ⟨[], aI⟩)
          · (refine goI ?_; repeat (intro gg; refine goI ?_))
            (exact ⟨none, trivial, fun _ => ⟨⟨q + 1, by omega, up2 (p := fun i h => Sv.lt l[i] l[i + 1] = true) g0 (fun _ => decide_eq_true (by have := of_decide_eq_false h4; show Sv.cf l[q + 1].nd l[q + 1].id l[q] < 0; omega))⟩, by show l.length - (q + 1) < l.length - q; omega, tI, tI, tI, tI⟩⟩)
        · have hge3 : ¬ q + 1 < l.length := (by have := of_decide_eq_false h3; omega)
          (refine goI ?_; repeat (intro gg; refine goI ?_))
          have e : ckSv l = 0 := ckL_yes h1' h2' (sorted_of fun i hi => g0 i hi (by omega))
          (exact ⟨none, trivial, fun _ => ⟨⟨k + 1, by omega, HN e⟩, by show ls.length - (k + 1) < ls.length - k; omega, tI, tI, tI, tI⟩⟩)
  · have hge : ¬ k < ls.length := by simpa using h
    (refine goI ?_; repeat (intro gg; refine goI ?_))
    rw [firstErr_zero (l := ls) (fun i hi => h0 i hi (by omega))]
    (exact ⟨[], aI⟩)
theorem sCheck_fun (l : List Sv) (hl : l.length ≤ 9223372036854775807) (hw : ∀ m ∈ l, m.ok) : Fun Tryz.prog 45 [.c (.sl false (l.map Sv.row))] [.c (.v (.int .i64 (ckSv l)))] := by
  refine fun_x ck_catalog_Check rfl ?_
  (refine goI ?_; repeat (intro gg; refine goI ?_))
  (refine .inl ⟨_, _, true, [], aI, scheck_fun false [l] (by simp) (by simpa using hl) (by simpa using hw), (fun _ => fI), nI, ?_⟩)
  rw [firstErr_one]
  (refine goI ?_; repeat (intro gg; refine goI ?_))
  (exact ⟨[], aI⟩)
theorem rscheck_fun (c : Bool) (l : List Sv) (hl : l.length ≤ 9223372036854775807) (hw : ∀ m ∈ l, m.ok) : Fun Tryz.prog 53 [.c (.sl c (l.map Sv.row))] [.c (.v (.int .i64 (ckSv l)))] := by
  refine fun_x ck_hearsayref_CheckCatalog rfl ?_
  (refine goI ?_; repeat (intro gg; refine goI ?_))
  rw [List.length_map]
  (refine bIf_of (fun h1 => ?_) (fun h1 => ?_) <;> rw [h1])
  · (refine goI ?_; repeat (intro gg; refine goI ?_))
    have e : ckSv l = 2 := ckL_long (by have := of_decide_eq_true h1; omega)
    rw [e]
    (exact ⟨[], aI⟩)
  · have h1' : ¬ 40 < l.length := (by have := of_decide_eq_false h1; omega)
    (refine goI ?_; repeat (intro gg; refine goI ?_))
    (refine ⟨[], none, {k : Nat // k ≤ l.length ∧ ∀ j, (h : j < l.length) → j < k → (l[j]).err = 0}, [0], fun ⟨k, hk, h0⟩ => [(3, .v (.int .i64 k))], [], fun ⟨k, hk, h0⟩ => [], fun ⟨k, hk, h0⟩ => l.length - k, trivial, fun _ => ⟨trivial, fun _ => ⟨⟨0, by omega, fun j _ h => by omega⟩, tI, keptE_refl _ _, tI, keptH_refl _ _⟩⟩, fun ⟨k, hk, h0⟩ => ?_⟩)
    (refine goI ?_; repeat (intro gg; refine goI ?_))
    rw [List.length_map]
    (refine bIf_of (fun h => ?_) (fun h => ?_) <;> rw [h])
    · have hlt : k < l.length := (by have := of_decide_eq_true h; omega)
      (refine goI ?_; repeat (intro gg; refine goI ?_))
      refine ⟨k, _, rfl, row_map hlt, ?_⟩
      (refine goI ?_; repeat (intro gg; refine goI ?_))
      (refine .inl ⟨_, _, false, [], aI, rsone_fun _ (hw _ (List.getElem_mem hlt)), nobor, nI, ?_⟩)
      (refine goI ?_; repeat (intro gg; refine goI ?_))
      (refine bIf_of (fun h2 => ?_) (fun h2 => ?_) <;> rw [h2])
      · (refine goI ?_; repeat (intro gg; refine goI ?_))
        have h2' : (l[k]).err ≠ 0 := by simpa using h2
        have e0 := firstErr_at hlt h0 h2'
        have e : ckSv l = (l[k]).err := (ckL_each h1' (by rw [e0]; exact h2')).trans e0
        rw [e]
        (exact ⟨[], aI⟩)
      · (refine goI ?_; repeat (intro gg; refine goI ?_))
        (exact ⟨none, trivial, fun _ => ⟨⟨k + 1, by omega, up1 (p := fun j h => (l[j]).err = 0) h0 (fun _ => by simpa using h2)⟩, by show l.length - (k + 1) < l.length - k; omega, tI, tI, tI, tI⟩⟩)
    · have hge : ¬ k < l.length := (by have := of_decide_eq_false h; omega)
      have h2' : firstErr Sv.err l = 0 := firstErr_zero fun i hi => h0 i hi (by omega)
      (refine goI ?_; repeat (intro gg; refine goI ?_))
      (refine ⟨[], none, {k : Nat // (k < l.length ∨ k = 0) ∧ ∀ i, (h : i + 1 < l.length) → i < k → Sv.lt l[i] l[i + 1] = true}, [0], fun ⟨q, hq, g0⟩ => [(5, .v (.int .i64 ((q : Int) + 1)))], [], fun ⟨q, hq, g0⟩ => [], fun ⟨q, hq, g0⟩ => l.length - q, trivial, fun _ => ⟨trivial, fun _ => ⟨⟨0, by omega, fun j _ h => by omega⟩, tI, keptE_refl _ _, tI, keptH_refl _ _⟩⟩, fun ⟨q, hq, g0⟩ => ?_⟩)
      (refine goI ?_; repeat (intro gg; refine goI ?_))
      rw [List.length_map]
      (refine bIf_of (fun h3 => ?_) (fun h3 => ?_) <;> rw [h3])
      · have hlt3 : q + 1 < l.length := (by have := of_decide_eq_true h3; omega)
        (refine goI ?_; repeat (intro gg; refine goI ?_))
        refine ⟨q, _, by omega, row_map (by omega), ?_⟩
        (refine goI ?_; repeat (intro gg; refine goI ?_))
        refine ⟨q + 1, _, by omega, row_map hlt3, ?_⟩
        (refine goI ?_; repeat (intro gg; refine goI ?_))
        (refine .inl ⟨_, _, false, [], aI, ahead_fun _ _, nobor, nI, ?_⟩)
        (refine goI ?_; repeat (intro gg; refine goI ?_))
        (refine bIf_of (fun h4 => ?_) (fun h4 => ?_) <;> rw [h4])
        · (refine goI ?_; repeat (intro gg; refine goI ?_))
          have e : ckSv l = 4 := ckL_no h1' h2' (sorted_not hlt3 (not_t h4))
          rw [e]
          (exact ⟨[], aI⟩)
        · (refine goI ?_; repeat (intro gg; refine goI ?_))
          (exact ⟨none, trivial, fun _ => ⟨⟨q + 1, by omega, up2 (p := fun i h => Sv.lt l[i] l[i + 1] = true) g0 (fun _ => not_f h4)⟩, by show l.length - (q + 1) < l.length - q; omega, tI, tI, tI, tI⟩⟩)
      · have hge3 : ¬ q + 1 < l.length := (by have := of_decide_eq_false h3; omega)
        (refine goI ?_; repeat (intro gg; refine goI ?_))
        have e : ckSv l = 0 := ckL_yes h1' h2' (sorted_of fun i hi => g0 i hi (by omega))
        rw [e]
        (exact ⟨[], aI⟩)
theorem sbs_fun (c : Bool) (l : List Sv) (t : Sv) (hl : l.length ≤ 1000) (hm : Mono (Sv.cf t.nd t.id) l) : Fun Tryz.prog 178 [.c (.sl c (l.map Sv.row)), .c (.agg t.row), .c (.v (.func (.func 162) #[] #[]))] [.c (.v (.int .i64 (low (Sv.cf t.nd t.id) l))), .c (.v (.bool (hit (Sv.cf t.nd t.id) l)))] := by
  refine fun_x ck_slices_BinarySearchFunc_api_Service_api_Service_api_Service rfl ?_
  (refine goI ?_; repeat (intro gg; refine goI ?_))
  rw [List.length_map]
  (refine ⟨[], none, {p : Nat × Nat // p.1 ≤ p.2 ∧ p.2 ≤ l.length ∧ (∀ k, (h : k < l.length) → k < p.1 → Sv.cf t.nd t.id l[k] < 0) ∧ (∀ k, (h : k < l.length) → p.2 ≤ k → 0 ≤ Sv.cf t.nd t.id l[k])}, [0, 2, 4, 8], fun ⟨⟨i, j⟩, h1, h2, h3, h4⟩ => [(9, .v (.int .i64 i)), (10, .v (.int .i64 j))], [64], fun ⟨⟨i, j⟩, h1, h2, h3, h4⟩ => [], fun ⟨⟨i, j⟩, h1, h2, h3, h4⟩ => j - i, trivial, fun _ => ⟨trivial, fun _ => ⟨⟨(0, l.length), by omega, by omega, fun k _ h => absurd h (by omega), fun k h h' => absurd h (by omega)⟩, tI, keptE_refl _ _, tI, keptH_refl _ _⟩⟩, fun ⟨⟨i, j⟩, h1, h2, h3, h4⟩ => ?_⟩)
  dsimp only at h1 h2 h3 h4
  (refine goI ?_; repeat (intro gg; refine goI ?_))
  (refine bIf_of (fun h => ?_) (fun h => ?_) <;> rw [h])
  · have hlt : i < j := (by have := of_decide_eq_true h; omega)
    have hk : (i + j) / 2 < l.length := by omega
    (refine goI ?_; repeat (intro gg; refine goI ?_))
    refine ⟨(i + j) / 2, _, by omega, row_map hk, ?_⟩
    (refine goI ?_; repeat (intro gg; refine goI ?_))
    (refine .inl ⟨_, _, false, [], aI, order_fun _ _, nobor, nI, ?_⟩)
    (refine goI ?_; repeat (intro gg; refine goI ?_))
    (refine bIf_of (fun h5 => ?_) (fun h5 => ?_) <;> rw [h5])
    · have h5' : Sv.cf t.nd t.id l[(i + j) / 2] < 0 := by simpa using h5
      (refine goI ?_; repeat (intro gg; refine goI ?_))
      (exact ⟨none, trivial, fun _ => ⟨⟨((i + j) / 2 + 1, j), by dsimp only; omega, h2, fun k hk' hka => hm k ((i + j) / 2) hk' hk (by dsimp only at hka; omega) h5', h4⟩, by show j - ((i + j) / 2 + 1) < j - i; omega, tI, tI, tI, tI⟩⟩)
    · have h5' : ¬ Sv.cf t.nd t.id l[(i + j) / 2] < 0 := by simpa using h5
      (refine goI ?_; repeat (intro gg; refine goI ?_))
      (exact ⟨none, trivial, fun _ => ⟨⟨(i, (i + j) / 2), by dsimp only; omega, by dsimp only; omega, h3, fun k hk' hka => Int.not_lt.1 (fun h' => h5' (hm ((i + j) / 2) k hk hk' hka h'))⟩, by show (i + j) / 2 - i < j - i; omega, tI, tI, tI, tI⟩⟩)
  · have hij : i = j := (by have := of_decide_eq_false h; omega)
    subst hij
    have HE := low_uniq (cf := Sv.cf t.nd t.id) h2 h3 h4
    (refine goI ?_; repeat (intro gg; refine goI ?_))
    (refine bIf_of (fun h5 => ?_) (fun h5 => ?_) <;> rw [h5])
    · have hin : i < l.length := (by have := of_decide_eq_true h5; omega)
      have HH : hit (Sv.cf t.nd t.id) l = decide (Sv.cf t.nd t.id l[i] = 0) := by
        have hin' : low (Sv.cf t.nd t.id) l < l.length := by rw [← HE]; exact hin
        rw [hit_in hin']
        simp only [← HE]
      (refine goI ?_; repeat (intro gg; refine goI ?_))
      refine ⟨i, _, rfl, row_map hin, ?_⟩
      (refine goI ?_; repeat (intro gg; refine goI ?_))
      (refine ⟨_, _, false, aI, order_fun _ _, nobor, nI, ?_⟩)
      (refine goI ?_; repeat (intro gg; refine goI ?_))
      rw [← HE, HH]
      (exact ⟨[], aI⟩)
    · have HH : hit (Sv.cf t.nd t.id) l = false := hit_out (by rw [← HE]; exact (by have := of_decide_eq_false h5; omega))
      (refine goI ?_; repeat (intro gg; refine goI ?_))
      rw [← HE, HH]
      (exact ⟨[], aI⟩)
theorem sfind_fun (c : Bool) (l : List Sv) (nd id : ByteArray) (hl : l.length ≤ 1000) (hm : Mono (Sv.cf nd id) l) : Fun Tryz.prog 134 [.c (.sl c (l.map Sv.row)), .c (.v (.string nd)), .c (.v (.string id))] [.c (.v (.int .i64 (low (Sv.cf nd id) l))), .c (.v (.bool (hit (Sv.cf nd id) l)))] := by
  refine fun_x ck_catalog_find rfl ?_
  (refine goI ?_; repeat (intro gg; refine goI ?_))
  (refine .inl ⟨_, _, false, [], aI, sbs_fun c l ⟨nd, id, ⟨#[]⟩, ⟨#[]⟩, 0, 0, false, 0, false⟩ hl hm, nobor, nI, ?_⟩)
  (refine goI ?_; repeat (intro gg; refine goI ?_))
  (exact ⟨[], aI⟩)
end Go.Proofs.YtkclokmfomnbgaaGreat
namespace Go.Proofs.YtkclokmfomnbgaaGreat
open Go.RowKit
set_option linter.unusedVariables false
theorem infoGw : (Tryz.prog.info? 125).map (fun i => (i.zero, i.size, i.bytes)) = some (some (.agg #[.string ⟨#[]⟩, .int .i64 0, .int .i64 0]), 3, 32) := by kernel_rfl
theorem cellsGw : (Tryz.prog.info? 125).map (·.size) = some 3 := by kernel_rfl
theorem sizeGw : ∀ w, (Go.sizeOf 125).run Tryz.prog w = .ok 3 w := by
  intro w
  obtain ⟨i0, hi0, hz0, hzs, hzb⟩ := info_parts infoGw
  simp [sizeOf, typeInfo, hi0, hzs]
theorem insGw_over (vb g : Nat) (vc lb cb off : Nat) (vs cur : Array Value) (w : World) (hv : Blk w vb 125 vs) (hg : Blk w g 125 cur) (hne : vb ≠ g) (hcur : cur.size ≠ 0) :
    (callFunc 184 #[.slice (some ⟨vb, 0, none⟩) 1 vc, .slice (some ⟨g, off, none⟩) lb cb]).run Tryz.prog w = .ok (.value (.bool false)) w := by
  rw [run_callFunc_extern Tryz.func184 (by kernel_rfl) (by kernel_rfl) (by kernel_rfl) (e := Extern.SlicesOverlaps.overlaps #[25, 25] #[4]) (by kernel_rfl),
    Lib.run_overlaps_apart w 25 4 125 Tryz.underlying25 3 sizeGw ⟨vb, 0, none⟩ ⟨g, off, none⟩ 1 vc lb cb hne 125 125 vs.size cur.size
      (by unfold Blk at hv; simp [World.shape?, hv]) (by unfold Blk at hg; simp [World.shape?, hg]) hcur (hv.frozen _) (hv.frozen _)]
  rfl
def InsGw (L : Nat → Prop) (base n i : Nat) (xs vs : List Value) (w : World) (e : Ending) (w' : World) : Prop :=
  ∃ A' c', e = .returned (.slice A' (n + 1) c') ∧ w'.ownsRow base 125 3 (.slice A' (n + 1) c') (n + 1) (xs.take (i * 3) ++ vs ++ xs.drop (i * 3)) ∧ Fr L w w' ∧ ∀ k, (Value.slice A' (n + 1) c').ownBlock = some k → L k ∨ w.heap.size ≤ k
set_option maxHeartbeats 1000000 in
set_option maxRecDepth 100000 in
theorem insGw_end (base : Nat) (A : Option Addr) (n c : Nat) (xs : List Value) (vb vc : Nat) (vcur : Array Value) (vs : List Value) (w : World) (hown : w.ownsRow base 125 3 (.slice A n c) n xs) (hbase : base ≤ w.heap.size)
    (hn : n ≤ 1000) (hv : Blk w vb 125 vcur) (hvc : vcur.toList.take 3 = vs) (hvl : vs.length = 3) (h1 : ∀ v ∈ vs, v.oneCell' = true) :
    Calls Tryz.prog 138 #[.slice A n c, .int .i64 n, .slice (some ⟨vb, 0, none⟩) 1 vc] w (InsGw (LB A) base n n xs vs w) := by
  obtain ⟨i0, hi0, hz0, hzs, hzb⟩ := info_parts infoGw
  have hnc : n ≤ c ∧ c ≤ 9223372036854775807 := by
    rcases hown.2 with ⟨hv, hz⟩ | ⟨g, cap, cur, hv, _, _, h, h', _⟩
    · injection hv; omega
    · injection hv with _ _ e; subst e; exact ⟨h, h'⟩
  obtain ⟨hnc, hc63⟩ := hnc
  have hxs : xs.length = n * 3 := hown.1
  have HXS := hid hxs
  have HVL := hid hvl
  have HV := hid hv
  have HO := hid hown
  have HZ0 := hid hz0
  have HZS := hid hzs
  have HZB := hid hzb
  have HI0 := hid hi0
  clear hxs hvl hv hown hz0 hzs hzb hi0
  have hnn : ((n : Int) == (n : Int)) = true := by simp
  go_enter Tryz.func138, Tryz.ntmps138
  go_wp2_with (at_builtin; refine wpList_appD _ rfl _ _ 25 rfl base 125 i0 _ 3 32 Tryz.underlying25 HI0.out HZ0.out HZS.out HZB.out rfl (by decide) _ _ _ rfl HO.out ⟨vb, 0, none⟩ 1 vc vs rfl (by simpa using HVL.out) (blk_at HV.out hvc) h1 (by simp only [maxLen]; omega) (by omega) hbase ?_; intro v1 w1 hown1 hg1 hd1 hat1)
  all_goals go_ret
  all_goals
    obtain ⟨A', c', rfl⟩ := own_form hown1
    refine ⟨A', c', rfl, ?_, (Fr.refl _ _).grown hg1 (inl_own HO.out (fun k hk => lb_of (n := n) (c := c) hk)) hd1, fun k hk => ?_⟩
    rotate_left
    · rcases hat1 with h | h
      · exact .inl (lb_of (n := n) (c := c) (h.symm.trans hk))
      · have := h.symm.trans hk
        injection this with this
        exact .inr (by omega)
    rw [List.take_of_length_le (by have := HXS.out; omega), List.drop_of_length_le (by have := HXS.out; omega), List.append_nil]
    exact hown1
set_option maxHeartbeats 2000000 in
set_option maxRecDepth 100000 in
theorem insGw_room (base g : Nat) (n c i : Nat) (cur : Array Value) (xs : List Value) (vb vc : Nat) (vcur : Array Value) (vs : List Value) (w : World) (hg : Blk w g 125 cur) (hbg : base ≤ g) (hcs : cur.size = c * 3) (hcx : cur.toList.take (n * 3) = xs)
    (hi : i < n) (hr : n + 1 ≤ c) (hc63 : c ≤ 9223372036854775807) (hn : n ≤ 1000) (hv : Blk w vb 125 vcur) (hvc : vcur.toList.take 3 = vs) (hne : vb ≠ g) (hvl : vs.length = 3) (h1 : ∀ v ∈ vs, v.oneCell' = true) (h1x : ∀ v ∈ xs, v.oneCell' = true) :
    Calls Tryz.prog 138 #[.slice (some ⟨g, 0, none⟩) n c, .int .i64 i, .slice (some ⟨vb, 0, none⟩) 1 vc] w (InsGw (LB (some ⟨g, 0, none⟩)) base n i xs vs w) := by
  have hcl : cur.toList.length = c * 3 := by rw [Array.length_toList]; exact hcs
  have hxl : xs.length = n * 3 := by rw [← hcx, List.length_take, hcl]; omega
  have hov : ∀ lb cb, (callFunc 184 #[.slice (some ⟨vb, 0, none⟩) 1 vc, .slice (some ⟨g, (i + 1) * 3, none⟩) lb cb]).run Tryz.prog w = .ok (.value (.bool false)) w := fun lb cb => insGw_over vb g vc lb cb ((i + 1) * 3) vcur cur w hv hg hne (by omega)
  have HB2 : Hid ((splice (splice cur.toList ((i + 1) * 3) (xs.drop (i * 3))) (i * 3) vs).take ((n + 1) * 3) = xs.take (i * 3) ++ vs ++ xs.drop (i * 3)) := by
    refine hid ?_
    have h := splice_room cur.toList xs vs (i * 3) (n * 3) hcx (by rw [hcl]; omega) (by omega) (by rw [hcl, hvl]; omega)
    rw [hvl] at h
    rw [Nat.add_mul, Nat.add_mul, Nat.one_mul]
    exact h
  have HC1 : Hid ((xs.drop (i * 3)).length = Nat.min (n + 1 - i) (n - i) * 3) := by
    refine hid ?_
    rw [List.length_drop, hxl, show Nat.min (n + 1 - i) (n - i) = n - i from Nat.min_eq_right (by omega), Nat.sub_mul]
  have HC2 := hid (fun j v (hj : (xs.drop (i * 3))[j]? = some v) => blk_drop hg.drew hcx (i * 3) j v hj)
  have HC3 : Hid ((i + 1) * 3 + (xs.drop (i * 3)).length ≤ cur.size) := hid (by rw [List.length_drop]; omega)
  have HC3' : Hid ((i + 1) * 3 + (xs.drop (i * 3)).length ≤ cur.toList.length) := hid (by rw [List.length_drop, hcl]; omega)
  have HC4 := hid (fun v (hv : v ∈ xs.drop (i * 3)) => h1x v (List.mem_of_mem_drop hv))
  have HC5 : Hid (vs.length = Nat.min 1 (n + 1 - i) * 3) := by
    refine hid ?_
    rw [hvl, show Nat.min 1 (n + 1 - i) = 1 from Nat.min_eq_left (by omega)]
  have HC6 : Hid (i * 3 + vs.length ≤ (splice cur.toList ((i + 1) * 3) (xs.drop (i * 3))).toArray.size) := by
    refine hid ?_
    rw [List.size_toArray, length_splice _ _ _ (by rw [hcl, ← hcs]; exact HC3.out), hcl, hvl]
    omega
  have HXL := hid hxl
  have HVL := hid hvl
  have HG := hid hg
  have HV := hid hv
  have HCS := hid hcs
  have HNE := hid hne
  have HCX := hid hcx
  clear hxl hvl hg hv hcs hne hcx
  have hw1 : IntKind.i64.wrap ((i : Int) + 1) = (i : Int) + 1 := by rw [IntWalk.i64_in _ (by omega)]
  have hb1 : (0 : Int) ≤ (i : Int) + 1 := by omega
  have htn : ((i : Int) + 1).toNat = i + 1 := by omega
  have hb3 : (i : Int) ≤ (n : Int) + 1 := by omega
  have hb4 : (i : Int) + 1 ≤ (n : Int) + 1 := by omega
  have hb5 : (i : Int) ≤ (n : Int) := by omega
  have hb6 : ¬ c = i := by omega
  have hb7 : ¬ c = i + 1 := by omega
  have hb8 : ((i : Int) == (n : Int)) = false := by simp; omega
  go_enter Tryz.func138, Tryz.ntmps138
  go_wp2_with (simp only [hov])
  go_region_law (refine step_copyN rfl (.tmp 73) (.tmp 76) 25 25 rfl 125 3 Tryz.underlying25 cellsGw g ((i + 1) * 3) (n - i) (c - (i + 1)) ⟨g, i * 3, none⟩ (n + 1 - i) (c - i) (by simp [Act.eval, Act.put]) (by simp [Act.eval, Act.put]) cur 125 HG.out.drew (xs.drop (i * 3)) HC1.out HC2.out HC3.out HC4.out ?_; intro w1 hk1 hg1 hd1)
  have HK1 := hid hk1
  have HG1 := hid hg1
  have HV1 := hid (HV.out.drew.grown hg1 (fun e => HNE.out (by injection e)))
  clear hk1 hg1
  go_wp2_with (refine wpList_copyN rfl (.tmp 80) (.tmp 81) 25 25 rfl 125 3 Tryz.underlying25 cellsGw g (i * 3) (n + 1 - i) (c - i) ⟨vb, 0, none⟩ 1 vc (by simp [Act.eval]) (by simp [Act.eval]) _ 125 HK1.out vs HC5.out (blk_at HV1.out hvc) HC6.out h1 ?_; intro w2 hk2 hg2 hd2)
  go_ret
  refine ⟨_, _, rfl, ⟨?_, .inr ⟨g, c, _, rfl, hbg, hk2, by omega, by simpa [maxLen] using hc63, ?_, ?_⟩⟩, ?_, fun k hk => .inl ⟨_, rfl, by injection hk with hk⟩⟩
  · simp only [List.length_append, List.length_take, List.length_drop]
    have := HXL.out; have := HVL.out
    omega
  · have h1 := length_splice cur.toList ((i + 1) * 3) (xs.drop (i * 3)) HC3'.out
    have h2 := length_splice (splice cur.toList ((i + 1) * 3) (xs.drop (i * 3))) (i * 3) vs (by simpa using HC6.out)
    rw [List.size_toArray, List.toList_toArray, h2, h1]
    simpa using HCS.out
  · rw [List.toList_toArray, List.toList_toArray]
    exact HB2.out
  · have hlt := HG.out.lt
    exact ((Fr.refl _ w).drew.grown HG1.out (fun k hk => .inl (⟨_, rfl, by injection hk with hk⟩)) hd1).grown hg2 (fun k hk => .inl (⟨_, rfl, by injection hk with hk⟩)) hd2
set_option maxHeartbeats 2000000 in
set_option maxRecDepth 100000 in
theorem insGw_grow (base g : Nat) (n c i : Nat) (cur : Array Value) (xs : List Value) (vb vc : Nat) (vcur : Array Value) (vs : List Value) (w : World) (hg : Blk w g 125 cur) (hbase : base ≤ w.heap.size) (hcs : cur.size = c * 3) (hcx : cur.toList.take (n * 3) = xs)
    (hi : i < n) (hnc : n ≤ c) (hr : c < n + 1) (hn : n ≤ 1000) (hv : Blk w vb 125 vcur) (hvc : vcur.toList.take 3 = vs) (hvl : vs.length = 3) (h1 : ∀ v ∈ vs, v.oneCell' = true) (h1x : ∀ v ∈ xs, v.oneCell' = true) :
    Calls Tryz.prog 138 #[.slice (some ⟨g, 0, none⟩) n c, .int .i64 i, .slice (some ⟨vb, 0, none⟩) 1 vc] w (InsGw (LB (some ⟨g, 0, none⟩)) base n i xs vs w) := by
  obtain ⟨i0, hi0, hz0, hzs, hzb⟩ := info_parts infoGw
  have hcl : cur.toList.length = c * 3 := by rw [Array.length_toList]; exact hcs
  have hxl : xs.length = n * 3 := by rw [← hcx, List.length_take, hcl]; omega
  have hold : (Builtin.firstCells i0.size i (.slice (some ⟨g, 0, none⟩) i c)).run Tryz.prog w.drew = .ok (xs.take (i * 3)).toArray w.drew := by
    rw [hzs]
    exact run_firstCells_some w.drew 3 i ⟨g, 0, none⟩ i c (xs.take (i * 3)) (by rw [List.length_take]; omega) (fun j v hj => by
      have hj' : (xs.drop 0)[j]? = some v := by
        rw [List.drop_zero]
        rw [List.getElem?_take] at hj
        split at hj
        · exact hj
        · cases hj
      exact blk_drop hg.drew hcx 0 j v hj')
  have hkk : (n : Int) + 1 - (i : Int) = ((n + 1 - i : Nat) : Int) := by omega
  have hik : i + (n + 1 - i) = n + 1 := by omega
  obtain ⟨G, hG⟩ : ∃ G, G = grownCap w (n + 1) c 125 := ⟨_, rfl⟩
  have hGn : n + 1 ≤ G := by rw [hG]; exact grownCap_ge w _ _ _
  have hG63 : G ≤ 9223372036854775807 := by
    have := grownCap_le_maxLen w (n + 1) c 125 (by unfold maxLen; omega)
    rw [← hG] at this
    unfold maxLen at this
    omega
  obtain ⟨ROW, hROW⟩ : ∃ ROW : Array Value, ROW = (xs.take (i * 3)).toArray ++ Builtin.zeroCells (Value.agg #[.string ⟨#[]⟩, .int .i64 0, .int .i64 0]).cells (n + 1 - i) ++ Builtin.zeroCells (Value.agg #[.string ⟨#[]⟩, .int .i64 0, .int .i64 0]).cells (G - (n + 1)) := ⟨_, rfl⟩
  have hrz : ∀ ty, (Builtin.append_ #[25, 3] ty #[.slice (some ⟨g, 0, none⟩) i c, .int .i64 ((n : Int) + 1 - (i : Int))]).run Tryz.prog w =
      .ok (.slice (some ⟨w.heap.size, 0, none⟩) (n + 1) G) (w.drew.alloc (.cells ROW 125)) := fun ty => by
    have h := Lib.run_append_grow_zeros w 25 3 ty 125 i0 _ .i64 .i64 Tryz.underlying25 Tryz.underlying3 hi0 hz0 (some ⟨g, 0, none⟩) i c (xs.take (i * 3)) hold (n + 1 - i) (by omega) (by omega) (by omega) (by omega) (by rw [hzb]; omega) (by rw [hzb, hik]; exact growslice_fits hr (by omega))
    rw [hik] at h
    rw [hkk, hROW, hG]
    exact h
  have hRs : ROW.size = G * 3 := by
    rw [hROW]
    simp [Builtin.zeroCells, Value.cells]
    omega
  have hRl : ROW.toList.length = G * 3 := by rw [Array.length_toList]; exact hRs
  have hRt : ROW.toList.take (i * 3) = xs.take (i * 3) := by
    rw [hROW, Array.toList_append, Array.toList_append, List.append_assoc, List.take_append_of_le_length (by simp; omega), List.toList_toArray, List.take_take, Nat.min_self]
  have HB2 : Hid ((splice (splice ROW.toList (i * 3) vs) ((i + 1) * 3) (xs.drop (i * 3))).take ((n + 1) * 3) = xs.take (i * 3) ++ vs ++ xs.drop (i * 3)) := by
    refine hid ?_
    have h := splice_new ROW.toList xs vs (i * 3) (n * 3) hRt hxl (by omega) (by rw [hRl, hvl]; omega)
    rw [hvl] at h
    rw [Nat.add_mul, Nat.add_mul, Nat.one_mul]
    exact h
  have hgl := hg.lt
  have hvlt := hv.lt
  have HN := hid (Blk.new_ w.drew 125 ROW (g := w.heap.size) rfl)
  have HV := hid ((hv.drew).alloc (.cells ROW 125))
  have HG0 := hid ((hg.drew).alloc (.cells ROW 125))
  have HC1 : Hid (vs.length = Nat.min 1 (n + 1 - i) * 3) := by
    refine hid ?_
    rw [hvl, show Nat.min 1 (n + 1 - i) = 1 from Nat.min_eq_left (by omega)]
  have HC2 : Hid (i * 3 + vs.length ≤ ROW.size) := hid (by rw [hRs, hvl]; omega)
  have HC2' : Hid (i * 3 + vs.length ≤ ROW.toList.length) := hid (by rw [hRl, hvl]; omega)
  have HC3 : Hid ((xs.drop (i * 3)).length = Nat.min (n - i) (n - i) * 3) := by
    refine hid ?_
    rw [List.length_drop, hxl, show Nat.min (n - i) (n - i) = n - i from Nat.min_self _, Nat.sub_mul]
  have HC4 : Hid ((i + 1) * 3 + (xs.drop (i * 3)).length ≤ (splice ROW.toList (i * 3) vs).toArray.size) := by
    refine hid ?_
    rw [List.size_toArray, length_splice _ _ _ HC2'.out, hRl, List.length_drop]
    omega
  have HC5 := hid (fun v (hv : v ∈ xs.drop (i * 3)) => h1x v (List.mem_of_mem_drop hv))
  have HRL := hid hRl
  have HXL := hid hxl
  have HVL := hid hvl
  have HCX := hid hcx
  have HRS := hid hRs
  have HNE : Hid (w.heap.size ≠ g) := hid (by omega)
  have HNV : Hid (w.heap.size ≠ vb) := hid (by omega)
  clear hRl hxl hvl hcx hRs hold hi0 hz0 hzs hzb hkk hik hROW hG hg hv hcs hcl hRt
  have hw1 : IntKind.i64.wrap ((i : Int) + 1) = (i : Int) + 1 := by rw [IntWalk.i64_in _ (by omega)]
  have hb1 : (0 : Int) ≤ (i : Int) + 1 := by omega
  have htn : ((i : Int) + 1).toNat = i + 1 := by omega
  have hb3 : (i : Int) ≤ (n : Int) + 1 := by omega
  have hb4 : (i : Int) + 1 ≤ (n : Int) + 1 := by omega
  have hb5 : (i : Int) ≤ (n : Int) := by omega
  have hb6 : ¬ c = i := by omega
  have hb7 : ¬ G = i + 1 := by omega
  have hb9 : ¬ G = i := by omega
  have hb8 : ((i : Int) == (n : Int)) = false := by simp; omega
  go_enter Tryz.func138, Tryz.ntmps138
  go_wp2_with (first
    | (at_builtin; refine Lib.wpList_append_run _ rfl _ _ _ _ rfl _ _ rfl rfl _ _ (hrz _) ?_; clear hrz)
    | (refine wpList_copyN rfl (.tmp 43) (.tmp 44) 25 25 rfl 125 3 Tryz.underlying25 cellsGw w.heap.size (i * 3) (n + 1 - i) (G - i) ⟨vb, 0, none⟩ 1 vc (by simp [Act.eval]) (by simp [Act.eval]) ROW 125 HN.out.drew vs HC1.out (blk_at HV.out.drew hvc) HC2.out h1 ?_; intro w1 hk1 hg1 hd1))
  have HK1 := hid hk1
  have HG1 := hid hg1
  have HG0' := hid ((show Blk (w.alloc (.cells ROW 125)).drew g 125 cur from HG0.out).grown hg1 (fun e => HNE.out (by injection e with e; exact e.symm)))
  have HC2a := hid (fun j v (hj : (xs.drop (i * 3))[j]? = some v) => blk_drop HG0'.out.drew HCX.out (i * 3) j v hj)
  clear hk1 hg1
  go_region_law (refine step_copyN rfl (.tmp 50) (.tmp 53) 25 25 rfl 125 3 Tryz.underlying25 cellsGw w.heap.size ((i + 1) * 3) (n - i) (G - (i + 1)) ⟨g, i * 3, none⟩ (n - i) (c - i) (by simp [Act.eval, Act.put]) (by simp [Act.eval, Act.put]) _ 125 HK1.out.drew (xs.drop (i * 3)) HC3.out HC2a.out HC4.out HC5.out ?_; intro w2 hk2 hg2 hd2)
  have HK2 := hid hk2
  have HG2 := hid hg2
  clear hk2 hg2
  go_wp2
  go_ret
  refine ⟨_, _, rfl, ⟨?_, .inr ⟨w.heap.size, G, _, rfl, hbase, HK2.out, hGn, by simpa [maxLen] using hG63, ?_, ?_⟩⟩, ?_, fun k hk => .inr (Nat.le_of_eq (show w.heap.size = k by injection hk))⟩
  · simp only [List.length_append, List.length_take, List.length_drop]
    have := HXL.out; have := HVL.out
    omega
  · have h1 := length_splice ROW.toList (i * 3) vs HC2'.out
    have h2 := length_splice (splice ROW.toList (i * 3) vs) ((i + 1) * 3) (xs.drop (i * 3)) (by simpa using HC4.out)
    rw [List.size_toArray, List.toList_toArray, h2, h1]
    simpa using HRS.out
  · rw [List.toList_toArray, List.toList_toArray]
    exact HB2.out
  · exact ((((Fr.refl _ w).alloc _).drew.grown HG1.out (fun k hk => .inr (by injection hk with hk; omega)) hd1).drew).grown HG2.out (fun k hk => .inr (by injection hk with hk; omega)) hd2
theorem insGw_any (base : Nat) (A : Option Addr) (n c i : Nat) (xs : List Value) (vb vc : Nat) (vcur : Array Value) (vs : List Value) (w : World) (hown : w.ownsRow base 125 3 (.slice A n c) n xs) (hbase : base ≤ w.heap.size)
    (hi : i ≤ n) (hn : n ≤ 1000) (hv : Blk w vb 125 vcur) (hvc : vcur.toList.take 3 = vs) (hne : (Value.slice A n c).ownBlock ≠ some vb) (hvl : vs.length = 3) (h1 : ∀ v ∈ vs, v.oneCell' = true) (h1x : ∀ v ∈ xs, v.oneCell' = true) :
    Calls Tryz.prog 138 #[.slice A n c, .int .i64 i, .slice (some ⟨vb, 0, none⟩) 1 vc] w (InsGw (LB A) base n i xs vs w) := by
  by_cases hin : i = n
  · subst hin
    exact insGw_end base A i c xs vb vc vcur vs w hown hbase hn hv hvc hvl h1
  · obtain ⟨hl, h2⟩ := hown
    rcases h2 with ⟨_, h0⟩ | ⟨g, cap, cur, hA, hbg, hh, hnc, hm, hsz, htk⟩
    · omega
    · injection hA with hA _ hcap
      subst hA; subst hcap
      have hne' : vb ≠ g := fun e => hne (by subst e; rfl)
      by_cases hr : n + 1 ≤ c
      · exact insGw_room base g n c i cur xs vb vc vcur vs w hh hbg hsz htk (by omega) hr (by simpa [maxLen] using hm) hn hv hvc hne' hvl h1 h1x
      · exact insGw_grow base g n c i cur xs vb vc vcur vs w hh hbase hsz htk (by omega) hnc (by omega) hn hv hvc hvl h1 h1x
end Go.Proofs.YtkclokmfomnbgaaGreat
namespace Go.Proofs.YtkclokmfomnbgaaGreat
open Go.RowKit
set_option linter.unusedVariables false
def ClnGw (base n : Nat) (xs : List Value) (w : World) (e : Ending) (w' : World) : Prop :=
  ∃ A' c', e = .returned (.slice A' n c') ∧ w'.ownsRow base 125 3 (.slice A' n c') n xs ∧ Below base w w' ∧ w.drawn ≤ w'.drawn
set_option maxRecDepth 100000 in
theorem clnGw_any (A : Option Addr) (n c : Nat) (xs : List Value) (w : World) (hA : A = none → n = 0) (hn : n ≤ 1000) (hxl : xs.length = n * 3) (hx : ∀ ad, A = some ad → ∀ j u, xs[j]? = some u → w.cell? (ad.add j) = some u) (h1 : ∀ v ∈ xs, v.oneCell' = true) :
    Calls Tryz.prog 118 #[.slice A n c] w (ClnGw w.heap.size n xs w) := by
  obtain ⟨i0, hi0, hz0, hzs, hzb⟩ := info_parts infoGw
  cases A with
  | none =>
    obtain rfl := hA rfl
    obtain rfl : xs = [] := List.eq_nil_of_length_eq_zero (by simpa using hxl)
    clear hx hxl hi0 hz0 hzs hzb h1
    have hnl := fun (w : World) => Lib.run_eql_slice_nil (P := Tryz.prog) w 25 125 none 0 c 0 0 Tryz.underlying25
    go_enter Tryz.func118, Tryz.ntmps118
    go_wp2
    go_ret
    exact ⟨none, 0, rfl, World.ownsRow_nil _ _ _ _, Below.refl _ _, Nat.le_refl _⟩
  | some ad =>
    have HX := hid (hx ad rfl)
    have HXL := hid hxl
    have HZ0 := hid hz0
    have HZS := hid hzs
    have HZB := hid hzb
    have HI0 := hid hi0
    clear hx hxl hA hi0 hz0 hzs hzb
    have hnl := fun (w : World) => Lib.run_eql_slice_nil (P := Tryz.prog) w 25 125 (some ad) n c 0 0 Tryz.underlying25
    go_enter Tryz.func118, Tryz.ntmps118
    have hown0 : (w.alloc (.cells #[] 125)).ownsRow w.heap.size 125 3 (.slice (some ⟨w.heap.size, 0, none⟩) 0 0) 0 [] :=
      ⟨by simp, .inr ⟨w.heap.size, 0, #[], rfl, Nat.le_refl _, heap_alloc_new w _, by omega, by simp [maxLen], by simp, by simp⟩⟩
    have HO := hid hown0
    have HX1 := hid (fun j u (hj : xs[j]? = some u) => (World.cell?_alloc_lt w (.cells #[] 125) (ad.add j) (cell_lt (HX.out j u hj))).trans (HX.out j u hj))
    clear hown0
    go_wp2_with (at_builtin; refine wpList_appD _ rfl _ _ 25 rfl w.heap.size 125 i0 _ 3 32 Tryz.underlying25 HI0.out HZ0.out HZS.out HZB.out rfl (by decide) _ _ _ rfl HO.out ad n c xs rfl HXL.out HX1.out h1 (by simp only [maxLen]; omega) (by omega) (by simp) ?_; intro v1 w1 hown1 hg1 hd1 hat1)
    go_ret
    rw [Nat.zero_add, List.nil_append] at hown1
    obtain ⟨A', c', rfl⟩ := own_form hown1
    exact ⟨A', c', rfl, hown1, ((Below.refl _ _).alloc (Nat.le_refl _) _).grown hg1 (by simp) (own_base HO.out), hd1⟩
end Go.Proofs.YtkclokmfomnbgaaGreat
namespace Go.Proofs.YtkclokmfomnbgaaGreat
open Go.RowKit
set_option linter.unusedVariables false
theorem cloneGw_fun {α : Type} (enc : α → List Value) (he : ∀ x, (enc x).length = 3) (h1 : ∀ x, ∀ v ∈ enc x, v.oneCell' = true) (cl : Bool) (l : List α) (hl : l.length ≤ 1000) :
    Fun Tryz.prog 118 [.c (.sl cl (l.map fun x => (enc x).map .v))] [.o 125 3 (l.map fun x => (enc x).map .v)] := by
  refine ⟨callable Tryz.func118 (by kernel_rfl) (by kernel_rfl), fun w R xs hlt hp => ?_⟩
  obtain ⟨v, rfl, hv⟩ := pars_one hp
  obtain ⟨A, c, rfl, hA, hx⟩ := sl_cells he hv
  have hone : ∀ v ∈ l.flatMap enc, v.oneCell' = true := fun v hv => by
    obtain ⟨g, _, hg⟩ := List.mem_flatMap.1 hv
    exact h1 g v hg
  refine (clnGw_any A l.length c (l.flatMap enc) w hA hl (flat_len he l) hx hone).mono ?_
  rintro e w' ⟨A', c', rfl, hown, hb, hd⟩
  exact own_result he h1 (by decide) hlt hown (fr_of_below hb hd) (fun k hk => .inr (own_base hown k hk)) (fun k hk => by have := own_base hown k hk; intro h; have := hlt k h; omega)
set_option maxHeartbeats 1000000 in
theorem insertGw_fun {α : Type} (enc : α → List Value) (he : ∀ x, (enc x).length = 3) (h1 : ∀ x, ∀ v ∈ enc x, v.oneCell' = true) (l : List α) (x : α) (i : Nat) (hi : i ≤ l.length) (hl : l.length ≤ 1000) :
    Fun Tryz.prog 138 [.o 125 3 (l.map fun x => (enc x).map .v), .c (.v (.int .i64 i)), .o 125 3 [(enc x).map .v]] [.o 125 3 ((l.take i ++ [x] ++ l.drop i).map fun x => (enc x).map .v)] := by
  refine ⟨callable Tryz.func138 (by kernel_rfl) (by kernel_rfl), fun w R xs hlt hp => ?_⟩
  obtain ⟨v0, v2, rfl, o0, o2, hap, hf0⟩ := pars_ins (enc := enc) he hp
  obtain ⟨A, c, rfl⟩ := own_form o0
  rcases o2.2 with ⟨_, h0⟩ | ⟨g, cap, cur, rfl, _, hh, hcap, _, hsz, htk⟩
  · omega
  have hone : ∀ v ∈ l.flatMap enc, v.oneCell' = true := fun v hv => by
    obtain ⟨g, _, hg⟩ := List.mem_flatMap.1 hv
    exact h1 g v hg
  refine (insGw_any 0 A l.length c i (l.flatMap enc) g cap cur (enc x) w o0 (Nat.zero_le _) hi hl hh (by rw [Nat.one_mul] at htk; exact htk) (fun e => hap g e rfl) (he x) (h1 x) hone).mono ?_
  rintro e w' ⟨A', c', rfl, hown, hb, hk⟩
  rw [flat_ins he l x i, show l.length + 1 = (l.take i ++ [x] ++ l.drop i).length by simp; omega] at hown
  rw [show l.length + 1 = (l.take i ++ [x] ++ l.drop i).length by simp; omega] at hk ⊢
  have hL : ∀ k, LB A k → ParBlk [.o 125 3 (l.map fun x => (enc x).map .v), .c (.v (.int .i64 i)), .o 125 3 [(enc x).map .v]] [.slice A l.length c, .int .i64 i, .slice (some ⟨g, 0, none⟩) 1 cap] k := fun k ⟨a, ha, hq⟩ => ⟨0, _, _, _, _, rfl, rfl, by subst ha; simp only [Value.ownBlock]; rw [hq]⟩
  exact own_result he h1 (by decide) hlt hown (hb.imp hL) (fun k hk' => (hk k hk').imp (hL k) (fun h => h)) (fun k hk' => by
    rcases hk k hk' with h | h
    · exact hf0 k (hL k h)
    · intro h'; have := hlt k h'; omega)
end Go.Proofs.YtkclokmfomnbgaaGreat
namespace Go.Proofs.YtkclokmfomnbgaaGreat
open Go.RowKit Pl
set_option linter.unusedVariables false
theorem gwithin_fun (n a b : Int) : Fun Tryz.prog 191 [.c (.v (.int .i64 n)), .c (.v (.int .i64 a)), .c (.v (.int .i64 b))] [.c (.v (.bool (wi n a b)))] := by
  refine fun_x ck_centre_within rfl ?_
  (refine goI ?_; repeat (intro gg; refine goI ?_))
  (refine bIf_of (fun h => ?_) (fun h => ?_) <;> rw [h])
  · (refine goI ?_; repeat (intro gg; refine goI ?_))
    rw [wi_t h]
    (exact ⟨[], aI⟩)
  · (refine goI ?_; repeat (intro gg; refine goI ?_))
    rw [wi_f h]
    (exact ⟨[], aI⟩)
theorem gone_fun (m : Gw) (hm : m.ok) : Fun Tryz.prog 157 [.c (.agg m.row)] [.c (.v (.int .i64 m.err))] := by
  refine fun_x ck_centre_one rfl ?_
  (refine goI ?_; repeat (intro gg; refine goI ?_))
  (refine .inl ⟨_, _, false, [], aI, label_fun _ hm, nobor, nI, ?_⟩)
  (refine goI ?_; repeat (intro gg; refine goI ?_))
  (refine bIf_of (fun h1 => ?_) (fun h1 => ?_) <;> rw [h1])
  · (refine goI ?_; repeat (intro gg; refine goI ?_))
    (rw [show m.err = 1 from by (first | (simp_all ; done) | (unfold Gw.err; simp_all))]; (exact ⟨[], aI⟩))
  · (refine goI ?_; repeat (intro gg; refine goI ?_))
    (refine .inl ⟨_, _, false, [], aI, gwithin_fun _ _ _, nobor, nI, ?_⟩)
    (refine goI ?_; repeat (intro gg; refine goI ?_))
    (refine bIf_of (fun h3 => ?_) (fun h3 => ?_) <;> rw [h3])
    · (refine goI ?_; repeat (intro gg; refine goI ?_))
      (rw [show m.err = 3 from by (first | (simp_all ; done) | (unfold Gw.err; simp_all))]; (exact ⟨[], aI⟩))
    · (refine goI ?_; repeat (intro gg; refine goI ?_))
      (refine .inl ⟨_, _, false, [], aI, gwithin_fun _ _ _, nobor, nI, ?_⟩)
      (refine goI ?_; repeat (intro gg; refine goI ?_))
      (refine bIf_of (fun h4 => ?_) (fun h4 => ?_) <;> rw [h4])
      · (refine goI ?_; repeat (intro gg; refine goI ?_))
        (rw [show m.err = 3 from by (first | (simp_all ; done) | (unfold Gw.err; simp_all))]; (exact ⟨[], aI⟩))
      · (refine goI ?_; repeat (intro gg; refine goI ?_))
        (rw [show m.err = 0 from by (first | (simp_all ; done) | (unfold Gw.err; simp_all))]; (exact ⟨[], aI⟩))
def glsRow (l : List Gw) : List V := [.sl false (l.map Gw.row)]
theorem gcheck_fun (c : Bool) (ls : List (List Gw)) (hls : ls.length ≤ 9223372036854775807) (hl : ∀ l ∈ ls, l.length ≤ 9223372036854775807) (hw : ∀ l ∈ ls, ∀ m ∈ l, m.ok) : Fun Tryz.prog 106 [.c (.sl c (ls.map glsRow))] [.c (.v (.int .i64 (firstErr ckGw ls)))] := by
  refine fun_x ck_centre_check rfl ?_
  (refine goI ?_; repeat (intro gg; refine goI ?_))
  rw [List.length_map]
  (refine ⟨[], none, {k : Nat // k ≤ ls.length ∧ ∀ j, (h : j < ls.length) → j < k → ckGw (ls[j]) = 0}, [9, 10], fun ⟨k, hk, h0⟩ => [(11, .v (.int .i64 k))], [], fun ⟨k, hk, h0⟩ => [], fun ⟨k, hk, h0⟩ => ls.length - k, trivial, fun _ => ⟨trivial, fun _ => ⟨⟨0, by omega, fun j _ h => by omega⟩, tI, keptE_refl _ _, tI, keptH_refl _ _⟩⟩, fun ⟨k, hk, h0⟩ => ?_⟩)
  (refine goI ?_; repeat (intro gg; refine goI ?_))
  (refine bIf_of (fun h => ?_) (fun h => ?_) <;> rw [h])
  · have hlt : k < ls.length := by simpa using h
    (refine goI ?_; repeat (intro gg; refine goI ?_))
    refine ⟨k, _, rfl, row_map hlt, ?_⟩
    (refine goI ?_; repeat (intro gg; refine goI ?_))
    have HL := hl _ (List.getElem_mem hlt)
    have HW := hw _ (List.getElem_mem hlt)
    have HE := firstErr_at (e := ckGw) hlt h0
    have HN : ckGw ls[k] = 0 → ∀ j, (h : j < ls.length) → j < k + 1 → ckGw (ls[j]) = 0 := fun e => up1 (p := fun j h => ckGw (ls[j]) = 0) h0 (fun _ => e)
    generalize ls[k] = l at *
    rw [List.length_map]
    (refine bIf_of (fun h1 => ?_) (fun h1 => ?_) <;> rw [h1])
    · (refine goI ?_; repeat (intro gg; refine goI ?_))
      have e : ckGw l = 2 := ckL_long (by have := of_decide_eq_true h1; omega)
      rw [HE (by rw [e]; decide), e]
      (exact ⟨[], aI⟩)
    · have h1' : ¬ 6 < l.length := (by have := of_decide_eq_false h1; omega)
      (refine goI ?_; repeat (intro gg; refine goI ?_))
      rw [List.length_map]
      (refine ⟨[], none, {k : Nat // k ≤ l.length ∧ ∀ j, (h : j < l.length) → j < k → (l[j]).err = 0}, [4, 9, 10, 11, 18, 19], fun ⟨p, hp, p0⟩ => [(20, .v (.int .i64 p))], [], fun ⟨p, hp, p0⟩ => [], fun ⟨p, hp, p0⟩ => l.length - p, trivial, fun _ => ⟨trivial, fun _ => ⟨⟨0, by omega, fun j _ h => by omega⟩, tI, keptE_refl _ _, tI, keptH_refl _ _⟩⟩, fun ⟨p, hp, p0⟩ => ?_⟩)
      (refine goI ?_; repeat (intro gg; refine goI ?_))
      (refine bIf_of (fun h2 => ?_) (fun h2 => ?_) <;> rw [h2])
      · have hlt2 : p < l.length := (by have := of_decide_eq_true h2; omega)
        (refine goI ?_; repeat (intro gg; refine goI ?_))
        refine ⟨p, _, rfl, row_map hlt2, ?_⟩
        (refine goI ?_; repeat (intro gg; refine goI ?_))
        (refine .inl ⟨_, _, false, [], aI, gone_fun _ (HW _ (List.getElem_mem hlt2)), nobor, nI, ?_⟩)
        (refine goI ?_; repeat (intro gg; refine goI ?_))
        (refine bIf_of (fun h5 => ?_) (fun h5 => ?_) <;> rw [h5])
        · (refine goI ?_; repeat (intro gg; refine goI ?_))
          have h5' : (l[p]).err ≠ 0 := by simpa using h5
          have e0 := firstErr_at hlt2 p0 h5'
          have e : ckGw l = (l[p]).err := (ckL_each h1' (by rw [e0]; exact h5')).trans e0
          rw [HE (by rw [e]; exact h5'), e]
          (exact ⟨[], aI⟩)
        · (refine goI ?_; repeat (intro gg; refine goI ?_))
          (exact ⟨none, trivial, fun _ => ⟨⟨p + 1, by omega, up1 (p := fun j h => (l[j]).err = 0) p0 (fun _ => by simpa using h5)⟩, by show l.length - (p + 1) < l.length - p; omega, tI, tI, tI, tI⟩⟩)
      · have hge2 : ¬ p < l.length := (by have := of_decide_eq_false h2; omega)
        have h2' : firstErr Gw.err l = 0 := firstErr_zero fun i hi => p0 i hi (by omega)
        (refine goI ?_; repeat (intro gg; refine goI ?_))
        (refine ⟨[], none, {k : Nat // (k < l.length ∨ k = 0) ∧ ∀ i, (h : i + 1 < l.length) → i < k → Gw.lt l[i] l[i + 1] = true}, [4, 9, 10, 11], fun ⟨q, hq, g0⟩ => [(8, .v (.int .i64 ((q : Int) + 1)))], [], fun ⟨q, hq, g0⟩ => [], fun ⟨q, hq, g0⟩ => l.length - q, trivial, fun _ => ⟨trivial, fun _ => ⟨⟨0, by omega, fun j _ h => by omega⟩, tI, keptE_refl _ _, tI, keptH_refl _ _⟩⟩, fun ⟨q, hq, g0⟩ => ?_⟩)
        (refine goI ?_; repeat (intro gg; refine goI ?_))
        rw [List.length_map]
        (refine bIf_of (fun h3 => ?_) (fun h3 => ?_) <;> rw [h3])
        · have hlt3 : q + 1 < l.length := (by have := of_decide_eq_true h3; omega)
          (refine goI ?_; repeat (intro gg; refine goI ?_))
          refine ⟨q + 1, _, by omega, row_map hlt3, ?_⟩
          (refine goI ?_; repeat (intro gg; refine goI ?_))
          refine ⟨q, _, by omega, row_map (by omega), ?_⟩
          (refine goI ?_; repeat (intro gg; refine goI ?_))
          rw [sle_eq]
          (refine bIf_of (fun h4 => ?_) (fun h4 => ?_) <;> rw [h4])
          · (refine goI ?_; repeat (intro gg; refine goI ?_))
            have e : ckGw l = 4 := ckL_no h1' h2' (sorted_not hlt3 (by simpa [Gw.lt] using h4))
            rw [HE (by rw [e]; decide), e]
            (exact ⟨[], aI⟩)
          · (refine goI ?_; repeat (intro gg; refine goI ?_))
            (exact ⟨none, trivial, fun _ => ⟨⟨q + 1, by omega, up2 (p := fun i h => Gw.lt l[i] l[i + 1] = true) g0 (fun _ => by simpa [Gw.lt] using h4)⟩, by show l.length - (q + 1) < l.length - q; omega, tI, tI, tI, tI⟩⟩)
        · have hge3 : ¬ q + 1 < l.length := (by have := of_decide_eq_false h3; omega)
          (refine goI ?_; repeat (intro gg; refine goI ?_))
          have e : ckGw l = 0 := ckL_yes h1' h2' (sorted_of fun i hi => g0 i hi (by omega))
          (exact ⟨none, trivial, fun _ => ⟨⟨k + 1, by omega, HN e⟩, by show ls.length - (k + 1) < ls.length - k; omega, tI, tI, tI, tI⟩⟩)
  · have hge : ¬ k < ls.length := by simpa using h
    (refine goI ?_; repeat (intro gg; refine goI ?_))
    rw [firstErr_zero (l := ls) (fun i hi => h0 i hi (by omega))]
    (exact ⟨[], aI⟩)
theorem gCheck_fun (l : List Gw) (hl : l.length ≤ 9223372036854775807) (hw : ∀ m ∈ l, m.ok) : Fun Tryz.prog 46 [.c (.sl false (l.map Gw.row))] [.c (.v (.int .i64 (ckGw l)))] := by
  refine fun_x ck_centre_Check rfl ?_
  (refine goI ?_; repeat (intro gg; refine goI ?_))
  (refine .inl ⟨_, _, true, [], aI, gcheck_fun false [l] (by simp) (by simpa using hl) (by simpa using hw), (fun _ => fI), nI, ?_⟩)
  rw [firstErr_one]
  (refine goI ?_; repeat (intro gg; refine goI ?_))
  (exact ⟨[], aI⟩)
theorem grcheck_fun (c : Bool) (l : List Gw) (hl : l.length ≤ 9223372036854775807) (hw : ∀ m ∈ l, m.ok) : Fun Tryz.prog 54 [.c (.sl c (l.map Gw.row))] [.c (.v (.int .i64 (ckGw l)))] := by
  refine fun_x ck_hearsayref_CheckGateways rfl ?_
  (refine goI ?_; repeat (intro gg; refine goI ?_))
  rw [List.length_map]
  (refine bIf_of (fun h1 => ?_) (fun h1 => ?_) <;> rw [h1])
  · (refine goI ?_; repeat (intro gg; refine goI ?_))
    have e : ckGw l = 2 := ckL_long (by have := of_decide_eq_true h1; omega)
    rw [e]
    (exact ⟨[], aI⟩)
  · have h1' : ¬ 6 < l.length := (by have := of_decide_eq_false h1; omega)
    (refine goI ?_; repeat (intro gg; refine goI ?_))
    (refine ⟨[], none, {k : Nat // k ≤ l.length ∧ ∀ j, (h : j < l.length) → j < k → (l[j]).err = 0}, [0], fun ⟨k, hk, h0⟩ => [(3, .v (.int .i64 k))], [], fun ⟨k, hk, h0⟩ => [], fun ⟨k, hk, h0⟩ => l.length - k, trivial, fun _ => ⟨trivial, fun _ => ⟨⟨0, by omega, fun j _ h => by omega⟩, tI, keptE_refl _ _, tI, keptH_refl _ _⟩⟩, fun ⟨k, hk, h0⟩ => ?_⟩)
    (refine goI ?_; repeat (intro gg; refine goI ?_))
    rw [List.length_map]
    (refine bIf_of (fun h => ?_) (fun h => ?_) <;> rw [h])
    · have hlt : k < l.length := (by have := of_decide_eq_true h; omega)
      have hE : (l[k]).err ≠ 0 → ckGw l = (l[k]).err := fun h2' => by
        have e0 := firstErr_at hlt h0 h2'
        exact (ckL_each h1' (by rw [e0]; exact h2')).trans e0
      have hN : (l[k]).err = 0 → _ := fun e => up1 (p := fun j h => (l[j]).err = 0) h0 (fun _ => e)
      (refine goI ?_; repeat (intro gg; refine goI ?_))
      refine ⟨k, _, rfl, row_map hlt, ?_⟩
      (refine goI ?_; repeat (intro gg; refine goI ?_))
      (refine .inl ⟨_, _, false, [], aI, rlabel_fun _ (hw _ (List.getElem_mem hlt)), nobor, nI, ?_⟩)
      (refine goI ?_; repeat (intro gg; refine goI ?_))
      (refine bIf_of (fun h2 => ?_) (fun h2 => ?_) <;> rw [h2])
      · (refine goI ?_; repeat (intro gg; refine goI ?_))
        have e1 : (l[k]).err = 1 := by unfold Gw.err; simp_all
        rw [hE (by rw [e1]; decide), e1]
        (exact ⟨[], aI⟩)
      · (refine goI ?_; repeat (intro gg; refine goI ?_))
        refine ⟨k, _, rfl, row_map hlt, ?_⟩
        (refine goI ?_; repeat (intro gg; refine goI ?_))
        (refine .inl ⟨_, _, false, [], aI, address_fun _, nobor, nI, ?_⟩)
        (refine goI ?_; repeat (intro gg; refine goI ?_))
        (refine bIf_of (fun h3 => ?_) (fun h3 => ?_) <;> rw [h3])
        · (refine goI ?_; repeat (intro gg; refine goI ?_))
          have e1 : (l[k]).err = 3 := by unfold Gw.err; simp_all
          rw [hE (by rw [e1]; decide), e1]
          (exact ⟨[], aI⟩)
        · (refine goI ?_; repeat (intro gg; refine goI ?_))
          refine ⟨k, _, rfl, row_map hlt, ?_⟩
          (refine goI ?_; repeat (intro gg; refine goI ?_))
          (refine .inl ⟨_, _, false, [], aI, between_fun _ _ _, nobor, nI, ?_⟩)
          (refine goI ?_; repeat (intro gg; refine goI ?_))
          (refine bIf_of (fun h4 => ?_) (fun h4 => ?_) <;> rw [h4])
          · (refine goI ?_; repeat (intro gg; refine goI ?_))
            have e1 : (l[k]).err = 3 := by unfold Gw.err; simp_all
            rw [hE (by rw [e1]; decide), e1]
            (exact ⟨[], aI⟩)
          · have e1 : (l[k]).err = 0 := by unfold Gw.err; simp_all
            (refine goI ?_; repeat (intro gg; refine goI ?_))
            (exact ⟨none, trivial, fun _ => ⟨⟨k + 1, by omega, hN e1⟩, by show l.length - (k + 1) < l.length - k; omega, tI, tI, tI, tI⟩⟩)
    · have hge : ¬ k < l.length := (by have := of_decide_eq_false h; omega)
      have h2' : firstErr Gw.err l = 0 := firstErr_zero fun i hi => h0 i hi (by omega)
      (refine goI ?_; repeat (intro gg; refine goI ?_))
      (refine ⟨[], none, {k : Nat // (k < l.length ∨ k = 0) ∧ ∀ i, (h : i + 1 < l.length) → i < k → Gw.lt l[i] l[i + 1] = true}, [0], fun ⟨q, hq, g0⟩ => [(4, .v (.int .i64 ((q : Int) + 1)))], [], fun ⟨q, hq, g0⟩ => [], fun ⟨q, hq, g0⟩ => l.length - q, trivial, fun _ => ⟨trivial, fun _ => ⟨⟨0, by omega, fun j _ h => by omega⟩, tI, keptE_refl _ _, tI, keptH_refl _ _⟩⟩, fun ⟨q, hq, g0⟩ => ?_⟩)
      (refine goI ?_; repeat (intro gg; refine goI ?_))
      rw [List.length_map]
      (refine bIf_of (fun h3 => ?_) (fun h3 => ?_) <;> rw [h3])
      · have hlt3 : q + 1 < l.length := (by have := of_decide_eq_true h3; omega)
        (refine goI ?_; repeat (intro gg; refine goI ?_))
        refine ⟨q + 1, _, by omega, row_map hlt3, ?_⟩
        (refine goI ?_; repeat (intro gg; refine goI ?_))
        refine ⟨q, _, by omega, row_map (by omega), ?_⟩
        (refine goI ?_; repeat (intro gg; refine goI ?_))
        rw [sle_eq]
        (refine bIf_of (fun h4 => ?_) (fun h4 => ?_) <;> rw [h4])
        · (refine goI ?_; repeat (intro gg; refine goI ?_))
          have e : ckGw l = 4 := ckL_no h1' h2' (sorted_not hlt3 (by simpa [Gw.lt] using h4))
          rw [e]
          (exact ⟨[], aI⟩)
        · (refine goI ?_; repeat (intro gg; refine goI ?_))
          (exact ⟨none, trivial, fun _ => ⟨⟨q + 1, by omega, up2 (p := fun i h => Gw.lt l[i] l[i + 1] = true) g0 (fun _ => by simpa [Gw.lt] using h4)⟩, by show l.length - (q + 1) < l.length - q; omega, tI, tI, tI, tI⟩⟩)
      · have hge3 : ¬ q + 1 < l.length := (by have := of_decide_eq_false h3; omega)
        (refine goI ?_; repeat (intro gg; refine goI ?_))
        have e : ckGw l = 0 := ckL_yes h1' h2' (sorted_of fun i hi => g0 i hi (by omega))
        rw [e]
        (exact ⟨[], aI⟩)
theorem gcf_fun (g : Gw) (name : ByteArray) : Fun Tryz.prog 183 [.c (.agg g.row), .c (.v (.string name))] [.c (.v (.int .i64 (Gw.cf name g)))] := by
  refine fun_x ck_centre_find_1 rfl ?_
  (refine goI ?_; repeat (intro gg; refine goI ?_))
  (refine .inl ⟨_, _, false, [], aI, cmps_fun _ _, nobor, nI, ?_⟩)
  (refine goI ?_; repeat (intro gg; refine goI ?_))
  (exact ⟨[], aI⟩)
theorem gbs_fun (c : Bool) (l : List Gw) (name : ByteArray) (hl : l.length ≤ 1000) (hm : Mono (Gw.cf name) l) : Fun Tryz.prog 182 [.c (.sl c (l.map Gw.row)), .c (.v (.string name)), .c (.v (.func (.func 183) #[] #[]))] [.c (.v (.int .i64 (low (Gw.cf name) l))), .c (.v (.bool (hit (Gw.cf name) l)))] := by
  refine fun_x ck_slices_BinarySearchFunc_api_Gateway_api_Gateway_string rfl ?_
  (refine goI ?_; repeat (intro gg; refine goI ?_))
  rw [List.length_map]
  (refine ⟨[], none, {p : Nat × Nat // p.1 ≤ p.2 ∧ p.2 ≤ l.length ∧ (∀ k, (h : k < l.length) → k < p.1 → Gw.cf name l[k] < 0) ∧ (∀ k, (h : k < l.length) → p.2 ≤ k → 0 ≤ Gw.cf name l[k])}, [0, 1, 2, 8], fun ⟨⟨i, j⟩, h1, h2, h3, h4⟩ => [(9, .v (.int .i64 i)), (10, .v (.int .i64 j))], [], fun ⟨⟨i, j⟩, h1, h2, h3, h4⟩ => [], fun ⟨⟨i, j⟩, h1, h2, h3, h4⟩ => j - i, trivial, fun _ => ⟨trivial, fun _ => ⟨⟨(0, l.length), by omega, by omega, fun k _ h => absurd h (by omega), fun k h h' => absurd h (by omega)⟩, tI, keptE_refl _ _, tI, keptH_refl _ _⟩⟩, fun ⟨⟨i, j⟩, h1, h2, h3, h4⟩ => ?_⟩)
  dsimp only at h1 h2 h3 h4
  (refine goI ?_; repeat (intro gg; refine goI ?_))
  (refine bIf_of (fun h => ?_) (fun h => ?_) <;> rw [h])
  · have hlt : i < j := (by have := of_decide_eq_true h; omega)
    have hk : (i + j) / 2 < l.length := by omega
    (refine goI ?_; repeat (intro gg; refine goI ?_))
    refine ⟨(i + j) / 2, _, by omega, row_map hk, ?_⟩
    (refine goI ?_; repeat (intro gg; refine goI ?_))
    (refine .inl ⟨_, _, false, [], aI, gcf_fun _ _, nobor, nI, ?_⟩)
    (refine goI ?_; repeat (intro gg; refine goI ?_))
    (refine bIf_of (fun h5 => ?_) (fun h5 => ?_) <;> rw [h5])
    · have h5' : Gw.cf name l[(i + j) / 2] < 0 := by simpa using h5
      (refine goI ?_; repeat (intro gg; refine goI ?_))
      (exact ⟨none, trivial, fun _ => ⟨⟨((i + j) / 2 + 1, j), by dsimp only; omega, h2, fun k hk' hka => hm k ((i + j) / 2) hk' hk (by dsimp only at hka; omega) h5', h4⟩, by show j - ((i + j) / 2 + 1) < j - i; omega, tI, tI, tI, tI⟩⟩)
    · have h5' : ¬ Gw.cf name l[(i + j) / 2] < 0 := by simpa using h5
      (refine goI ?_; repeat (intro gg; refine goI ?_))
      (exact ⟨none, trivial, fun _ => ⟨⟨(i, (i + j) / 2), by dsimp only; omega, by dsimp only; omega, h3, fun k hk' hka => Int.not_lt.1 (fun h' => h5' (hm ((i + j) / 2) k hk hk' hka h'))⟩, by show (i + j) / 2 - i < j - i; omega, tI, tI, tI, tI⟩⟩)
  · have hij : i = j := (by have := of_decide_eq_false h; omega)
    subst hij
    have HE := low_uniq (cf := Gw.cf name) h2 h3 h4
    (refine goI ?_; repeat (intro gg; refine goI ?_))
    (refine bIf_of (fun h5 => ?_) (fun h5 => ?_) <;> rw [h5])
    · have hin : i < l.length := (by have := of_decide_eq_true h5; omega)
      have HH : hit (Gw.cf name) l = decide (Gw.cf name l[i] = 0) := by
        have hin' : low (Gw.cf name) l < l.length := by rw [← HE]; exact hin
        rw [hit_in hin']
        simp only [← HE]
      (refine goI ?_; repeat (intro gg; refine goI ?_))
      refine ⟨i, _, rfl, row_map hin, ?_⟩
      (refine goI ?_; repeat (intro gg; refine goI ?_))
      (refine .inl ⟨_, _, false, [], aI, gcf_fun _ _, nobor, nI, ?_⟩)
      (refine goI ?_; repeat (intro gg; refine goI ?_))
      rw [← HE, HH]
      (exact ⟨[], aI⟩)
    · have HH : hit (Gw.cf name) l = false := hit_out (by rw [← HE]; exact (by have := of_decide_eq_false h5; omega))
      (refine goI ?_; repeat (intro gg; refine goI ?_))
      rw [← HE, HH]
      (exact ⟨[], aI⟩)
theorem gfind_fun (c : Bool) (l : List Gw) (name : ByteArray) (hl : l.length ≤ 1000) (hm : Mono (Gw.cf name) l) : Fun Tryz.prog 137 [.c (.sl c (l.map Gw.row)), .c (.v (.string name))] [.c (.v (.int .i64 (low (Gw.cf name) l))), .c (.v (.bool (hit (Gw.cf name) l)))] := by
  refine fun_x ck_centre_find rfl ?_
  (refine goI ?_; repeat (intro gg; refine goI ?_))
  (refine .inl ⟨_, _, false, [], aI, gbs_fun c l name hl hm, nobor, nI, ?_⟩)
  (refine goI ?_; repeat (intro gg; refine goI ?_))
  (exact ⟨[], aI⟩)
end Go.Proofs.YtkclokmfomnbgaaGreat

namespace Go.Proofs.YtkclokmfomnbgaaGreat
open Go.RowKit Pl
set_option linter.unusedVariables false
theorem pwithin_fun (n a b : Int) : Fun Tryz.prog 108 [.c (.v (.int .i64 n)), .c (.v (.int .i64 a)), .c (.v (.int .i64 b))] [.c (.v (.bool (wi n a b)))] := by
  refine fun_x ck_place_within rfl ?_
  (refine goI ?_; repeat (intro gg; refine goI ?_))
  (refine bIf_of (fun h => ?_) (fun h => ?_) <;> rw [h])
  · (refine goI ?_; repeat (intro gg; refine goI ?_))
    rw [wi_t h]
    (exact ⟨[], aI⟩)
  · (refine goI ?_; repeat (intro gg; refine goI ?_))
    rw [wi_f h]
    (exact ⟨[], aI⟩)
theorem pck1_fun (n : Int) : Fun Tryz.prog 107 [.c (.v (.int .i64 n))] [.c (.v (.bool (wi n (-10000000) 10000000)))] := by
  refine fun_x ck_place_Check_1 rfl ?_
  (refine goI ?_; repeat (intro gg; refine goI ?_))
  (refine .inl ⟨_, _, false, [], aI, pwithin_fun _ _ _, nobor, nI, ?_⟩)
  (refine goI ?_; repeat (intro gg; refine goI ?_))
  (exact ⟨[], aI⟩)
theorem okPl_t {x y z h s : Int} (h1 : wi x (-10000000) 10000000 = true) (h2 : wi y (-10000000) 10000000 = true) (h3 : wi z (-10000000) 10000000 = true) (h4 : wi h 0 1000000 = true) (h5 : wi s 0 1000 = true) : ckPl x y z h s = 0 := by simp [ckPl, okPl, h1, h2, h3, h4, h5]
theorem okPl_f {x y z h s : Int} (h1 : wi x (-10000000) 10000000 = false ∨ wi y (-10000000) 10000000 = false ∨ wi z (-10000000) 10000000 = false ∨ wi h 0 1000000 = false ∨ wi s 0 1000 = false) : ckPl x y z h s = 3 := by
  rcases h1 with h | h | h | h | h <;> simp [ckPl, okPl, h]
theorem pCheck_fun (p : Pc) : Fun Tryz.prog 47 [.c (.agg p.row)] [.c (.v (.int .i64 p.err))] := by
  refine fun_x ck_place_Check rfl ?_
  (refine goI ?_; repeat (intro gg; refine goI ?_))
  (refine .inl ⟨_, _, false, [], aI, pck1_fun _, nobor, nI, ?_⟩)
  (refine goI ?_; repeat (intro gg; refine goI ?_))
  (refine bIf_of (fun h1 => ?_) (fun h1 => ?_) <;> rw [h1])
  · (refine goI ?_; repeat (intro gg; refine goI ?_))
    rw [show p.err = 3 from okPl_f (.inl (not_t h1))]
    (exact ⟨[], aI⟩)
  · (refine goI ?_; repeat (intro gg; refine goI ?_))
    (refine .inl ⟨_, _, false, [], aI, pck1_fun _, nobor, nI, ?_⟩)
    (refine goI ?_; repeat (intro gg; refine goI ?_))
    (refine bIf_of (fun h2 => ?_) (fun h2 => ?_) <;> rw [h2])
    · (refine goI ?_; repeat (intro gg; refine goI ?_))
      rw [show p.err = 3 from okPl_f (.inr (.inl (not_t h2)))]
      (exact ⟨[], aI⟩)
    · (refine goI ?_; repeat (intro gg; refine goI ?_))
      (refine .inl ⟨_, _, false, [], aI, pck1_fun _, nobor, nI, ?_⟩)
      (refine goI ?_; repeat (intro gg; refine goI ?_))
      (refine bIf_of (fun h3 => ?_) (fun h3 => ?_) <;> rw [h3])
      · (refine goI ?_; repeat (intro gg; refine goI ?_))
        rw [show p.err = 3 from okPl_f (.inr (.inr (.inl (not_t h3))))]
        (exact ⟨[], aI⟩)
      · (refine goI ?_; repeat (intro gg; refine goI ?_))
        (refine .inl ⟨_, _, false, [], aI, pwithin_fun _ _ _, nobor, nI, ?_⟩)
        (refine goI ?_; repeat (intro gg; refine goI ?_))
        (refine bIf_of (fun h4 => ?_) (fun h4 => ?_) <;> rw [h4])
        · (refine goI ?_; repeat (intro gg; refine goI ?_))
          rw [show p.err = 3 from okPl_f (.inr (.inr (.inr (.inl (not_t h4)))))]
          (exact ⟨[], aI⟩)
        · (refine goI ?_; repeat (intro gg; refine goI ?_))
          (refine .inl ⟨_, _, false, [], aI, pwithin_fun _ _ _, nobor, nI, ?_⟩)
          (refine goI ?_; repeat (intro gg; refine goI ?_))
          (refine bIf_of (fun h5 => ?_) (fun h5 => ?_) <;> rw [h5])
          · (refine goI ?_; repeat (intro gg; refine goI ?_))
            rw [show p.err = 3 from okPl_f (.inr (.inr (.inr (.inr (not_t h5)))))]
            (exact ⟨[], aI⟩)
          · (refine goI ?_; repeat (intro gg; refine goI ?_))
            rw [show p.err = 0 from okPl_t (not_f h1) (not_f h2) (not_f h3) (not_f h4) (not_f h5)]
            (exact ⟨[], aI⟩)
theorem rcheckp_fun (p : Pc) : Fun Tryz.prog 55 [.c (.agg p.row)] [.c (.v (.int .i64 p.err))] := by
  refine fun_x ck_hearsayref_CheckPlace rfl ?_
  (refine goI ?_; repeat (intro gg; refine goI ?_))
  (refine .inl ⟨_, _, false, [], aI, between_fun _ _ _, nobor, nI, ?_⟩)
  (refine goI ?_; repeat (intro gg; refine goI ?_))
  (refine bIf_of (fun h1 => ?_) (fun h1 => ?_) <;> rw [h1])
  · (refine goI ?_; repeat (intro gg; refine goI ?_))
    rw [show p.err = 3 from okPl_f (.inl (not_t h1))]
    (exact ⟨[], aI⟩)
  · (refine goI ?_; repeat (intro gg; refine goI ?_))
    (refine .inl ⟨_, _, false, [], aI, between_fun _ _ _, nobor, nI, ?_⟩)
    (refine goI ?_; repeat (intro gg; refine goI ?_))
    (refine bIf_of (fun h2 => ?_) (fun h2 => ?_) <;> rw [h2])
    · (refine goI ?_; repeat (intro gg; refine goI ?_))
      rw [show p.err = 3 from okPl_f (.inr (.inl (not_t h2)))]
      (exact ⟨[], aI⟩)
    · (refine goI ?_; repeat (intro gg; refine goI ?_))
      (refine .inl ⟨_, _, false, [], aI, between_fun _ _ _, nobor, nI, ?_⟩)
      (refine goI ?_; repeat (intro gg; refine goI ?_))
      (refine bIf_of (fun h3 => ?_) (fun h3 => ?_) <;> rw [h3])
      · (refine goI ?_; repeat (intro gg; refine goI ?_))
        rw [show p.err = 3 from okPl_f (.inr (.inr (.inl (not_t h3))))]
        (exact ⟨[], aI⟩)
      · (refine goI ?_; repeat (intro gg; refine goI ?_))
        (refine .inl ⟨_, _, false, [], aI, between_fun _ _ _, nobor, nI, ?_⟩)
        (refine goI ?_; repeat (intro gg; refine goI ?_))
        (refine bIf_of (fun h4 => ?_) (fun h4 => ?_) <;> rw [h4])
        · (refine goI ?_; repeat (intro gg; refine goI ?_))
          rw [show p.err = 3 from okPl_f (.inr (.inr (.inr (.inl (not_t h4)))))]
          (exact ⟨[], aI⟩)
        · (refine goI ?_; repeat (intro gg; refine goI ?_))
          (refine .inl ⟨_, _, false, [], aI, between_fun _ _ _, nobor, nI, ?_⟩)
          (refine goI ?_; repeat (intro gg; refine goI ?_))
          (refine bIf_of (fun h5 => ?_) (fun h5 => ?_) <;> rw [h5])
          · (refine goI ?_; repeat (intro gg; refine goI ?_))
            rw [show p.err = 3 from okPl_f (.inr (.inr (.inr (.inr (not_t h5)))))]
            (exact ⟨[], aI⟩)
          · (refine goI ?_; repeat (intro gg; refine goI ?_))
            rw [show p.err = 0 from okPl_t (not_f h1) (not_f h2) (not_f h3) (not_f h4) (not_f h5)]
            (exact ⟨[], aI⟩)
end Go.Proofs.YtkclokmfomnbgaaGreat
