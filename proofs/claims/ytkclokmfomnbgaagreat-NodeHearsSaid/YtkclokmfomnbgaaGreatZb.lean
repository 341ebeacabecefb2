/- Texts of this claim, joined. -/
import Derived.Test.YtkclokmfomnbgaaGreatProg
import Derived.Test.YtkclokmfomnbgaaGreatWAbsQ
import Derived.KernelRfl
import Derived.Laws.CopyRow
import Derived.Laws.CopyOwn
import Derived.Deep.RegionLaw
import Derived.Lib.AppendZerosOnto
import Derived.Lib.Overlaps
import Derived.Laws.Externs
import Derived.OwnWalk
import Derived.Maps.AppendAt
import Derived.Deep.AppendLies
import Derived.Test.YtkclokmfomnbgaaGreatRows
import Derived.Lib.Walk
import Derived.Lib.SliceRun
import Derived.Lib.JoinLaws
import Derived.Lib.AppendZeros
import Derived.WalkSpells
import Derived.Test.YtkclokmfomnbgaaGreatZa
set_option linter.unusedSimpArgs false
namespace Go.Proofs.YtkclokmfomnbgaaGreat
set_option linter.unusedVariables false
abbrev zqN0 : List Value := [(.int .i64 0), (.int .i64 0), (.int .i64 0), (.int .i64 0), (.int .i64 0)]
abbrev zqN1 : List Value := [(.string ⟨#[]⟩), (.bool false), (.slice none 0 0), (.slice none 0 0), (.slice none 0 0), (.slice none 0 0)]
abbrev zqN3 : List Value := [(.string ⟨#[]⟩), (.int .i64 0), (.int .i64 0), (.int .i64 0), (.bool false)]
abbrev zqN4 : List Value := [(.string ⟨#[]⟩), (.int .i64 0), (.int .i64 0), (.int .i64 0), (.int .i64 0), (.int .i64 0)]
abbrev zqN5 : List Value := [(.string ⟨#[]⟩), (.string ⟨#[]⟩), (.slice none 0 0), (.slice none 0 0), (.slice none 0 0), (.slice none 0 0), (.int .i64 0), (.int .i64 0), (.int .i64 0), (.int .i64 0), (.int .i64 0), (.slice none 0 0)]
def rc_hearsaylaw_NodeHears : RCode :=
 .seq (.reg [Rq 2 (.box 30 12 0),Rq 3 (.box 44 6 1),Rq 4 (.mv (.const (.bool false)))])
 (.seq (.reg [Rq 10 (.load true 12 2),Rq 11 (.load true 6 3),Rq 12 (.call (.func 24) [10, 11]),Rq 9 (.mv 12),Rq 13 (.ext 9 0),Rq 14 (.ext 9 1),Rq 5 (.zbox 30 zqN5),Sq 12 5 13,Rq 6 (.mv 14)])
 (.seq (.reg [Rq 15 (.load true 12 2),Rq 16 (.call (.func 18) [15]),Rq 17 (.build zqN5 []),Rq 8 (.zbox 30 zqN5),Rq 7 (.mv 16),Sq 12 8 17])
 (.seq (.seq (.reg [Rq 18 (.mv 7),Rq 19 (.bin .eql 18 (Kq 0))])
 (.cond 19
 (.reg [Rq 21 (.load true 12 2),Rq 22 (.load true 6 3),Rq 23 (.call (.func 25) [21, 22]),Rq 20 (.mv 23),Rq 24 (.ext 20 0),Rq 25 (.ext 20 1),Sq 12 8 24,Rq 7 (.mv 25)])
 (.skip)))
 (.seq (.reg [Rq 26 (.call (.func 15) []),Rq 27 (.mv 26),Gq 28 27 true (.load true 12 5),Gq 29 27 true (.mv 6),Gq 30 27 true (.mv 7),Gq 31 27 true (.load true 12 8),Gq 32 27 true (.call (.func 16) [28, 29, 30, 31]),Rq 33 (.pick 27 32 (.const (.bool false))),Rq 4 (.mv 33)])
 (.ret)))))
theorem ck_hearsaylaw_NodeHears : chkFun Tryz.prog 6 2 = some (rc_hearsaylaw_NodeHears, [4]) := by kernel_rfl
def rc_node_New : RCode :=
 .seq (.reg [Rq 8 (.zbox 30 zqN5),Rq 9 (.mv (Kq 0))])
 (.seq (.reg [Rq 12 (.mv 0),Rq 13 (.mv 1),Rq 14 (.build zqN0 [(4, 1, (Kq 1000))]),Rq 15 (.build zqN5 [(0, 1, 12), (1, 1, 13), (6, 5, 14)]),Rq 10 (.zbox 30 zqN5),Sq 12 10 15])
 (.seq (.reg [Rq 16 (.mv 0),Rq 17 (.mv 2),Rq 18 (.mv 3),Rq 19 (.build zqN3 [(0, 1, 16), (1, 1, (Kq 1)), (2, 1, (Kq 1)), (3, 1, 17), (4, 1, 18)]),Rq 20 (.mks 37 5 1 zqN3 [(0, 19)]),Rq 21 (.fldA 2 10),Sq 1 21 20])
 (.seq (.seq (.reg [Rq 22 (.load true 12 10),Rq 23 (.call (.func 17) [22]),Rq 11 (.mv 23)])
 (.seq (.reg [Rq 24 (.mv 11),Rq 25 (.bin .neq 24 (Kq 0))])
 (.cond 25
 (.seq (.reg [Rq 26 (.build zqN5 []),Rq 27 (.mv 11),Sq 12 8 26,Rq 9 (.mv 27)])
 (.ret))
 (.skip))))
 (.seq (.reg [Rq 28 (.load true 12 10),Sq 12 8 28,Rq 9 (.mv (Kq 0))])
 (.ret)))))
theorem ck_node_New : chkFunC Tryz.prog 12 4 = some (rc_node_New, [(8, some (true, 12)), (9, none)]) := by kernel_rfl
def rc_hearsaylaw_nodeBegun : RCode :=
 .seq (.reg [Rq 0 (.mv (.const (.bool false)))])
 (.seq (.reg [Rq 13 (.call (.func 12) [(.const (.string ⟨#[97]⟩)), (.const (.string ⟨#[99]⟩)), (Kq 1), (.const (.bool false))]),Rq 12 (.mv 13),Rq 14 (.ext 12 0),Rq 15 (.ext 12 1),Rq 1 (.zbox 30 zqN5),Sq 12 1 14,Rq 2 (.mv 15)])
 (.seq (.reg [Rq 17 (.call (.func 12) [(.const (.string ⟨#[98]⟩)), (.const (.string ⟨#[99]⟩)), (Kq 2), (.const (.bool true))]),Rq 16 (.mv 17),Rq 18 (.ext 16 0),Rq 19 (.ext 16 1),Rq 3 (.zbox 30 zqN5),Sq 12 3 18,Rq 4 (.mv 19)])
 (.seq (.reg [Rq 21 (.load true 12 3),Rq 22 (.call (.func 20) [21]),Rq 20 (.mv 22),Rq 23 (.ext 20 0),Rq 24 (.ext 20 1),Rq 5 (.zbox 44 zqN1),Sq 6 5 23,Rq 6 (.mv 24)])
 (.seq (.reg [Rq 26 (.load true 12 1),Rq 27 (.load true 6 5),Rq 28 (.call (.func 24) [26, 27]),Rq 25 (.mv 28),Rq 29 (.ext 25 0),Rq 30 (.ext 25 1),Sq 12 1 29,Rq 7 (.mv 30)])
 (.seq (.reg [Rq 32 (.load true 12 1),Rq 33 (.call (.func 28) [32, (.const (.string ⟨#[98]⟩))]),Rq 31 (.mv 33),Rq 34 (.ext 31 0),Rq 35 (.ext 31 1),Sq 12 1 34,Rq 8 (.mv 35)])
 (.seq (.reg [Rq 37 (.load true 12 1),Rq 38 (.call (.func 19) [37]),Rq 36 (.mv 38),Rq 39 (.ext 36 0),Rq 40 (.ext 36 1),Rq 41 (.ext 36 2),Rq 9 (.zbox 30 zqN5),Rq 10 (.zbox 44 zqN1),Sq 12 9 39,Sq 6 10 40,Rq 11 (.mv 41)])
 (.seq (.reg [Rq 42 (.mv 2),Rq 43 (.bin .eql 42 (Kq 0)),Rq 44 (.mv 43),Gq 45 44 true (.mv 4),Gq 46 44 true (.bin .eql 45 (Kq 0)),Rq 47 (.pick 44 46 (.const (.bool false))),Rq 48 (.mv 47),Gq 49 48 true (.mv 6),Gq 50 48 true (.bin .eql 49 (Kq 0)),Rq 51 (.pick 48 50 (.const (.bool false))),Rq 52 (.mv 51),Gq 53 52 true (.mv 7),Gq 54 52 true (.bin .eql 53 (Kq 0)),Rq 55 (.pick 52 54 (.const (.bool false))),Rq 56 (.mv 55),Gq 57 56 true (.mv 8),Gq 58 56 true (.bin .eql 57 (Kq 0)),Rq 59 (.pick 56 58 (.const (.bool false))),Rq 60 (.mv 59),Gq 61 60 true (.mv 11),Gq 62 60 true (.bin .eql 61 (Kq 0)),Rq 63 (.pick 60 62 (.const (.bool false))),Rq 64 (.mv 63),Gq 65 64 true (.fldA 2 1),Gq 66 64 true (.load false 1 65),Gq 67 64 true (.len false 66),Gq 68 64 true (.bin .eql 67 (Kq 2)),Rq 69 (.pick 64 68 (.const (.bool false))),Rq 70 (.mv 69),Gq 71 70 true (.fldA 2 10),Gq 72 70 true (.load false 1 71),Gq 73 70 true (.len false 72),Gq 74 70 true (.bin .eql 73 (Kq 1)),Rq 75 (.pick 70 74 (.const (.bool false))),Rq 76 (.mv 75),Gq 77 76 true (.fldA 2 10),Gq 78 76 true (.load false 1 77),Gq 79 76 true (.idxA 5 78 (Kq 0)),Gq 80 76 true (.fldA 1 79),Gq 81 76 true (.load false 1 80),Gq 82 76 true (.bin .eql 81 (Kq 2)),Rq 83 (.pick 76 82 (.const (.bool false))),Rq 0 (.mv 83)])
 (.ret))))))))
theorem ck_hearsaylaw_nodeBegun : chkFun Tryz.prog 15 0 = some (rc_hearsaylaw_nodeBegun, [0]) := by kernel_rfl
def rc_hearsaylaw_nodeIs : RCode :=
 .seq (.reg [Rq 4 (.box 30 12 0),Rq 7 (.box 30 12 3),Rq 8 (.mv (.const (.bool false)))])
 (.seq (.seq (.reg [Rq 9 (.mv 2),Rq 10 (.bin .neq 9 (Kq 0))])
 (.cond 10
 (.reg [Rq 11 (.build zqN5 []),Sq 12 7 11])
 (.skip)))
 (.seq (.reg [Rq 12 (.mv 1),Rq 13 (.mv 2),Rq 14 (.bin .eql 12 13),Rq 15 (.mv 14),Gq 16 15 true (.load true 12 4),Gq 17 15 true (.load true 12 7),Gq 18 15 true (.call (.func 27) [16, 17]),Rq 19 (.pick 15 18 (.const (.bool false))),Rq 8 (.mv 19)])
 (.ret)))
theorem ck_hearsaylaw_nodeIs : chkFun Tryz.prog 16 4 = some (rc_hearsaylaw_nodeIs, [8]) := by kernel_rfl
def rc_node_Check : RCode :=
 .seq (.reg [Rq 1 (.box 30 12 0),Rq 2 (.mv (Kq 0))])
 (.seq (.seq (.reg [Rq 7 (.fldA 0 1),Rq 8 (.load false 1 7),Rq 9 (.call (.func 42) [8]),Rq 10 (.not 9),Rq 11 (.mv 10),Gq 12 11 false (.fldA 1 1),Gq 13 11 false (.load false 1 12),Gq 14 11 false (.call (.func 42) [13]),Gq 15 11 false (.not 14),Rq 16 (.pick 11 (.const (.bool true)) 15)])
 (.cond 16
 (.seq (.reg [Rq 2 (.mv (Kq 1))])
 (.ret))
 (.skip)))
 (.seq (.seq (.dreg [[Rq 17 (.fldA 2 1),Rq 18 (.load false 1 17),Rq 19 (.call (.func 43) [18]),Rq 20 (.fldA 3 1),Rq 21 (.load false 1 20),Rq 22 (.call (.func 44) [21]),Rq 23 (.fldA 4 1),Rq 24 (.load false 1 23),Rq 25 (.call (.func 45) [24]),Rq 26 (.fldA 5 1),Rq 27 (.load false 1 26),Rq 28 (.call (.func 46) [27]),Rq 29 (.fldA 6 1),Rq 30 (.load true 5 29),Rq 31 (.call (.func 47) [30]),Rq 32 (.fldA 11 1),Rq 33 (.load false 1 32),Rq 34 (.call (.func 48) [33]),Rq 35 (.mks 31 1 6 [(.int .i64 0)] [(0, 19), (1, 22), (2, 25), (3, 28), (4, 31), (5, 34)]),Rq 36 (.len false 35),Rq 37 (.mv (Kq 0))]])
 (.block 0
 (.loop
 (.seq (.reg [Rq 38 (.bin .lss 37 36)])
 (.seq (.cond 38
 (.skip)
 (.exit 0))
 (.seq (.block 1
 (.seq (.reg [Rq 39 (.idxA 1 35 37),Rq 40 (.load false 1 39),Rq 4 (.mv 40)])
 (.seq (.reg [Rq 41 (.mv 4),Rq 42 (.bin .neq 41 (Kq 0))])
 (.cond 42
 (.seq (.reg [Rq 43 (.mv 4),Rq 2 (.mv 43)])
 (.ret))
 (.skip)))))
 (.reg [Rq 44 (.bin .add 37 (Kq 1)),Rq 37 (.mv 44)])))))))
 (.seq (.reg [Rq 46 (.fldA 2 1),Rq 47 (.load false 1 46),Rq 48 (.fldA 0 1),Rq 49 (.load false 1 48),Rq 50 (.call (.func 49) [47, 49]),Rq 45 (.mv 50),Rq 51 (.ext 45 0),Rq 52 (.ext 45 1),Rq 5 (.mv 51),Rq 6 (.mv 52)])
 (.seq (.block 2
 (.seq (.reg [Rq 54 (.mv 6),Rq 55 (.not 54),Rq 53 (.mv 55)])
 (.cond 53
 (.seq (.reg [Rq 2 (.mv (Kq 5))])
 (.ret))
 (.seq (.seq (.reg [Rq 57 (.fldA 2 1),Rq 58 (.load false 1 57),Rq 59 (.mv 5),Rq 60 (.idxA 5 58 59),Rq 61 (.fldA 1 60),Rq 62 (.load false 1 61),Rq 63 (.bin .eql 62 (Kq 2)),Rq 64 (.mv 63),Gq 65 64 false (.fldA 2 1),Gq 66 64 false (.load false 1 65),Gq 67 64 false (.mv 5),Gq 68 64 false (.idxA 5 66 67),Gq 69 64 false (.fldA 1 68),Gq 70 64 false (.load false 1 69),Gq 71 64 false (.bin .eql 70 (Kq 3)),Rq 72 (.pick 64 (.const (.bool true)) 71),Rq 56 (.mv 72)])
 (.cond 56
 (.skip)
 (.reg [Rq 73 (.load true 12 1),Rq 74 (.call (.func 50) [73]),Rq 75 (.not 74),Rq 56 (.mv 75)])))
 (.cond 56
 (.seq (.reg [Rq 2 (.mv (Kq 4))])
 (.ret))
 (.skip))))))
 (.seq (.reg [Rq 2 (.mv (Kq 0))])
 (.ret))))))
theorem ck_node_Check : chkFun Tryz.prog 17 1 = some (rc_node_Check, [2]) := by kernel_rfl
def rc_hearsayref_CheckNode : RCode :=
 .seq (.reg [Rq 1 (.box 30 12 0),Rq 2 (.mv (Kq 0))])
 (.seq (.seq (.reg [Rq 8 (.fldA 0 1),Rq 9 (.load false 1 8),Rq 10 (.call (.func 13) [9]),Rq 11 (.not 10),Rq 12 (.mv 11),Gq 13 12 false (.fldA 1 1),Gq 14 12 false (.load false 1 13),Gq 15 12 false (.call (.func 13) [14]),Gq 16 12 false (.not 15),Rq 17 (.pick 12 (.const (.bool true)) 16)])
 (.cond 17
 (.seq (.reg [Rq 2 (.mv (Kq 1))])
 (.ret))
 (.skip)))
 (.seq (.reg [Rq 18 (.fldA 2 1),Rq 19 (.load false 1 18),Rq 20 (.call (.func 51) [19]),Rq 3 (.mv 20)])
 (.seq (.seq (.reg [Rq 21 (.mv 3),Rq 22 (.bin .eql 21 (Kq 0))])
 (.cond 22
 (.reg [Rq 23 (.fldA 3 1),Rq 24 (.load false 1 23),Rq 25 (.call (.func 52) [24]),Rq 3 (.mv 25)])
 (.skip)))
 (.seq (.seq (.reg [Rq 26 (.mv 3),Rq 27 (.bin .eql 26 (Kq 0))])
 (.cond 27
 (.reg [Rq 28 (.fldA 4 1),Rq 29 (.load false 1 28),Rq 30 (.call (.func 53) [29]),Rq 3 (.mv 30)])
 (.skip)))
 (.seq (.seq (.reg [Rq 31 (.mv 3),Rq 32 (.bin .eql 31 (Kq 0))])
 (.cond 32
 (.reg [Rq 33 (.fldA 5 1),Rq 34 (.load false 1 33),Rq 35 (.call (.func 54) [34]),Rq 3 (.mv 35)])
 (.skip)))
 (.seq (.seq (.reg [Rq 36 (.mv 3),Rq 37 (.bin .eql 36 (Kq 0))])
 (.cond 37
 (.reg [Rq 38 (.fldA 6 1),Rq 39 (.load true 5 38),Rq 40 (.call (.func 55) [39]),Rq 3 (.mv 40)])
 (.skip)))
 (.seq (.seq (.reg [Rq 41 (.mv 3),Rq 42 (.bin .eql 41 (Kq 0))])
 (.cond 42
 (.reg [Rq 43 (.fldA 11 1),Rq 44 (.load false 1 43),Rq 45 (.call (.func 56) [44]),Rq 3 (.mv 45)])
 (.skip)))
 (.seq (.seq (.reg [Rq 46 (.mv 3),Rq 47 (.bin .neq 46 (Kq 0))])
 (.cond 47
 (.seq (.reg [Rq 48 (.mv 3),Rq 2 (.mv 48)])
 (.ret))
 (.skip)))
 (.seq (.reg [Rq 49 (.fldA 2 1),Rq 50 (.load false 1 49),Rq 51 (.fldA 0 1),Rq 52 (.load false 1 51),Rq 53 (.call (.func 57) [50, 52]),Rq 4 (.mv 53)])
 (.seq (.seq (.reg [Rq 54 (.mv 4),Rq 55 (.bin .lss 54 (Kq 0))])
 (.cond 55
 (.seq (.reg [Rq 2 (.mv (Kq 5))])
 (.ret))
 (.skip)))
 (.seq (.seq (.reg [Rq 56 (.fldA 2 1),Rq 57 (.load false 1 56),Rq 58 (.mv 4),Rq 59 (.idxA 5 57 58),Rq 60 (.fldA 1 59),Rq 61 (.load false 1 60),Rq 62 (.bin .eql 61 (Kq 2)),Rq 63 (.mv 62),Gq 64 63 false (.fldA 2 1),Gq 65 63 false (.load false 1 64),Gq 66 63 false (.mv 4),Gq 67 63 false (.idxA 5 65 66),Gq 68 63 false (.fldA 1 67),Gq 69 63 false (.load false 1 68),Gq 70 63 false (.bin .eql 69 (Kq 3)),Rq 71 (.pick 63 (.const (.bool true)) 70)])
 (.cond 71
 (.seq (.reg [Rq 2 (.mv (Kq 4))])
 (.ret))
 (.skip)))
 (.seq (.seq (.reg [Rq 5 (.mv (Kq 0))])
 (.block 0
 (.loop
 (.seq (.seq (.reg [Rq 72 (.mv 5),Rq 73 (.fldA 3 1),Rq 74 (.load false 1 73),Rq 75 (.len false 74),Rq 76 (.bin .lss 72 75)])
 (.cond 76
 (.skip)
 (.exit 0)))
 (.seq (.block 1
 (.seq (.reg [Rq 79 (.fldA 3 1),Rq 80 (.load false 1 79),Rq 81 (.mv 5),Rq 82 (.idxA 6 80 81),Rq 83 (.fldA 0 82),Rq 84 (.load true 5 83),Rq 6 (.zbox 37 zqN3),Sq 5 6 84])
 (.seq (.reg [Rq 85 (.fldA 2 1),Rq 86 (.load false 1 85),Rq 87 (.fldA 0 6),Rq 88 (.load false 1 87),Rq 89 (.call (.func 57) [86, 88]),Rq 7 (.mv 89)])
 (.seq (.dreg [[Rq 90 (.mv 7)],[Rq 91 (.bin .lss 90 (Kq 0))],[Rq 92 (.mv 91)],[Gq 93 92 false (.load true 5 6),Gq 94 92 false (.fldA 2 1),Gq 95 92 false (.load false 1 94),Gq 96 92 false (.mv 7),Gq 97 92 false (.idxA 5 95 96),Gq 98 92 false (.load true 5 97)],[Gq 99 92 false (.call (.func 58) [93, 98])],[Rq 100 (.pick 92 (.const (.bool true)) 99)]])
 (.cond 100
 (.seq (.reg [Rq 2 (.mv (Kq 4))])
 (.ret))
 (.skip))))))
 (.reg [Rq 77 (.mv 5),Rq 78 (.bin .add 77 (Kq 1)),Rq 5 (.mv 78)]))))))
 (.seq (.reg [Rq 2 (.mv (Kq 0))])
 (.ret))))))))))))))
theorem ck_hearsayref_CheckNode : chkFun Tryz.prog 18 1 = some (rc_hearsayref_CheckNode, [2]) := by kernel_rfl
def rc_node_Tell : RCode :=
 .seq (.reg [Rq 1 (.box 30 12 0),Rq 2 (.zbox 30 zqN5),Rq 3 (.zbox 44 zqN1),Rq 4 (.mv (Kq 0))])
 (.seq (.reg [Rq 14 (.load true 12 1),Rq 15 (.call (.func 59) [14]),Rq 13 (.mv 15),Rq 16 (.ext 13 0),Rq 17 (.ext 13 1),Rq 5 (.mv 16),Rq 6 (.mv 17)])
 (.seq (.seq (.reg [Rq 18 (.mv 6),Rq 19 (.bin .neq 18 (Kq 0))])
 (.cond 19
 (.seq (.reg [Rq 20 (.build zqN5 []),Rq 21 (.build zqN1 []),Rq 22 (.mv 6),Sq 12 2 20,Sq 6 3 21,Rq 4 (.mv 22)])
 (.ret))
 (.skip)))
 (.seq (.reg [Rq 24 (.mv 5),Rq 25 (.fldA 0 24),Rq 26 (.fldA 0 25),Rq 27 (.fldA 2 26),Rq 28 (.load false 1 27),Rq 29 (.call (.func 60) [28]),Rq 23 (.mv 29),Rq 30 (.ext 23 0),Rq 31 (.ext 23 1),Rq 7 (.mv 30),Rq 8 (.mv 31)])
 (.seq (.reg [Rq 33 (.mv 7),Rq 34 (.len false 33),Rq 35 (.call (.func 61) [34]),Rq 32 (.mv 35),Rq 36 (.ext 32 0),Rq 37 (.ext 32 1),Rq 9 (.mv 36),Rq 10 (.mv 37)])
 (.seq (.reg [Rq 39 (.mv 5),Rq 40 (.fldA 0 39),Rq 41 (.fldA 0 40),Rq 42 (.fldA 3 41),Rq 43 (.load false 1 42),Rq 44 (.mv 9),Rq 45 (.mm true (Kq 1) 44),Rq 46 (.call (.func 62) [43, (Kq 5), 45]),Rq 38 (.mv 46),Rq 47 (.ext 38 0),Rq 48 (.ext 38 1),Rq 49 (.ext 38 2),Rq 11 (.mv 47),Rq 12 (.mv 48),Rq 6 (.mv 49)])
 (.seq (.seq (.reg [Rq 50 (.mv 6),Rq 51 (.bin .neq 50 (Kq 0))])
 (.cond 51
 (.seq (.reg [Rq 52 (.build zqN5 []),Rq 53 (.build zqN1 []),Rq 54 (.mv 6),Sq 12 2 52,Sq 6 3 53,Rq 4 (.mv 54)])
 (.ret))
 (.skip)))
 (.seq (.reg [Rq 55 (.mv 5),Rq 56 (.mv 12),Rq 57 (.fldA 0 55),Rq 58 (.fldA 0 57),Rq 59 (.fldA 3 58),Sq 1 59 56])
 (.seq (.reg [Rq 60 (.mv 11),Rq 61 (.call (.func 63) [60, (.func 64)])])
 (.seq (.dreg [[],[Rq 66 (.mkm),Rq 67 (.mkm),Rq 68 (.mkm),Rq 69 (.mkm),Rq 70 (.mkm),Rq 71 (.mkm),Rq 72 (.mkm)],[Rq 62 (.mv 5),Rq 63 (.fldA 0 62),Rq 64 (.fldA 0 63),Rq 65 (.load true 12 64),Rq 66 (.mv 5),Rq 67 (.fldA 0 66),Rq 68 (.fldA 0 67),Rq 69 (.fldA 0 68),Rq 70 (.load false 1 69),Rq 71 (.mv 11),Rq 72 (.build zqN1 [(0, 1, 70), (2, 1, 71)]),Sq 12 2 65],[Sq 6 3 72],[Rq 4 (.mv (Kq 0))]])
 (.ret))))))))))
theorem ck_node_Tell : chkFunC Tryz.prog 19 1 = some (rc_node_Tell, [(2, some (true, 12)), (3, some (true, 6)), (4, none)]) := by kernel_rfl
def rc_node_Whole : RCode :=
 .seq (.reg [Rq 1 (.box 30 12 0),Rq 2 (.zbox 44 zqN1),Rq 3 (.mv (Kq 0))])
 (.seq (.reg [Rq 7 (.load true 12 1),Rq 8 (.call (.func 59) [7]),Rq 6 (.mv 8),Rq 9 (.ext 6 0),Rq 10 (.ext 6 1),Rq 4 (.mv 9),Rq 5 (.mv 10)])
 (.seq (.seq (.reg [Rq 11 (.mv 5),Rq 12 (.bin .neq 11 (Kq 0))])
 (.cond 12
 (.seq (.reg [Rq 13 (.build zqN1 []),Rq 14 (.mv 5),Sq 6 2 13,Rq 3 (.mv 14)])
 (.ret))
 (.skip)))
 (.seq (.dreg [[Rq 15 (.mv 4),Rq 16 (.fldA 0 15),Rq 17 (.fldA 0 16),Rq 18 (.fldA 0 17),Rq 19 (.load false 1 18),Rq 20 (.mv 4),Rq 21 (.fldA 0 20),Rq 22 (.fldA 0 21),Rq 23 (.fldA 2 22),Rq 24 (.load false 1 23),Rq 25 (.mv 4),Rq 26 (.fldA 0 25),Rq 27 (.fldA 0 26),Rq 28 (.fldA 4 27),Rq 29 (.load false 1 28),Rq 30 (.mv 4),Rq 31 (.fldA 0 30),Rq 32 (.fldA 0 31),Rq 33 (.fldA 5 32),Rq 34 (.load false 1 33),Rq 35 (.mv 4),Rq 36 (.fldA 0 35),Rq 37 (.fldA 0 36),Rq 38 (.fldA 11 37),Rq 39 (.load false 1 38)],[Rq 40 (.build zqN1 [(0, 1, 19), (1, 1, (.const (.bool true))), (2, 1, 24), (3, 1, 29), (4, 1, 34), (5, 1, 39)])],[Sq 6 2 40],[Rq 3 (.mv (Kq 0))]])
 (.ret))))
theorem ck_node_Whole : chkFunC Tryz.prog 20 1 = some (rc_node_Whole, [(2, some (true, 6)), (3, none)]) := by kernel_rfl
def rc_node_Hear : RCode :=
 .seq (.reg [Rq 2 (.box 30 12 0),Rq 3 (.box 44 6 1),Rq 4 (.zbox 30 zqN5),Rq 5 (.mv (Kq 0))])
 (.seq (.reg [Rq 16 (.load true 12 2),Rq 17 (.call (.func 59) [16]),Rq 15 (.mv 17),Rq 18 (.ext 15 0),Rq 19 (.ext 15 1),Rq 6 (.mv 18),Rq 7 (.mv 19)])
 (.seq (.seq (.reg [Rq 20 (.mv 7),Rq 21 (.bin .eql 20 (Kq 0))])
 (.cond 21
 (.reg [Rq 22 (.load true 6 3),Rq 23 (.call (.func 74) [22]),Rq 7 (.mv 23)])
 (.skip)))
 (.seq (.seq (.reg [Rq 24 (.mv 7),Rq 25 (.bin .neq 24 (Kq 0))])
 (.cond 25
 (.seq (.reg [Rq 26 (.build zqN5 []),Rq 27 (.mv 7),Sq 12 4 26,Rq 5 (.mv 27)])
 (.ret))
 (.skip)))
 (.seq (.seq (.reg [Rq 28 (.fldA 2 3),Rq 29 (.load false 1 28),Rq 30 (.len false 29),Rq 31 (.mv (Kq 0))])
 (.block 0
 (.loop
 (.seq (.reg [Rq 32 (.bin .lss 31 30)])
 (.seq (.cond 32
 (.skip)
 (.exit 0))
 (.seq (.block 1
 (.seq (.reg [Rq 33 (.idxA 5 29 31),Rq 34 (.load true 5 33),Rq 9 (.zbox 37 zqN3),Sq 5 9 34])
 (.seq (.reg [Rq 35 (.mv 6),Rq 36 (.load true 5 9),Rq 37 (.call (.func 75) [35, 36]),Rq 10 (.mv 37)])
 (.seq (.reg [Rq 38 (.mv 10),Rq 39 (.bin .neq 38 (Kq 0))])
 (.cond 39
 (.seq (.reg [Rq 40 (.build zqN5 []),Rq 41 (.mv 10),Sq 12 4 40,Rq 5 (.mv 41)])
 (.ret))
 (.skip))))))
 (.reg [Rq 42 (.bin .add 31 (Kq 1)),Rq 31 (.mv 42)])))))))
 (.seq (.seq (.dreg [[],[Rq 54 (.mkm)],[Rq 44 (.mv 6),Rq 45 (.mv 6),Rq 46 (.fldA 0 45),Rq 47 (.fldA 0 46),Rq 48 (.fldA 4 47),Rq 49 (.load false 1 48),Rq 50 (.fldA 3 3),Rq 51 (.load false 1 50),Rq 52 (.call (.func 76) [49, 51]),Rq 43 (.mv 52),Rq 53 (.ext 43 0),Rq 54 (.ext 43 1),Rq 55 (.fldA 0 44),Rq 56 (.fldA 0 55),Rq 57 (.fldA 4 56),Sq 1 57 53],[Rq 7 (.mv 54)]])
 (.seq (.reg [Rq 58 (.mv 7),Rq 59 (.bin .neq 58 (Kq 0))])
 (.cond 59
 (.seq (.reg [Rq 60 (.build zqN5 []),Rq 61 (.mv 7),Sq 12 4 60,Rq 5 (.mv 61)])
 (.ret))
 (.skip))))
 (.seq (.seq (.dreg [[],[Rq 73 (.mkm)],[Rq 63 (.mv 6),Rq 64 (.mv 6),Rq 65 (.fldA 0 64),Rq 66 (.fldA 0 65),Rq 67 (.fldA 5 66),Rq 68 (.load false 1 67),Rq 69 (.fldA 4 3),Rq 70 (.load false 1 69),Rq 71 (.call (.func 77) [68, 70]),Rq 62 (.mv 71),Rq 72 (.ext 62 0),Rq 73 (.ext 62 1),Rq 74 (.fldA 0 63),Rq 75 (.fldA 0 74),Rq 76 (.fldA 5 75),Sq 1 76 72],[Rq 7 (.mv 73)]])
 (.seq (.reg [Rq 77 (.mv 7),Rq 78 (.bin .neq 77 (Kq 0))])
 (.cond 78
 (.seq (.reg [Rq 79 (.build zqN5 []),Rq 80 (.mv 7),Sq 12 4 79,Rq 5 (.mv 80)])
 (.ret))
 (.skip))))
 (.seq (.seq (.reg [Rq 81 (.fldA 5 3),Rq 82 (.load false 1 81),Rq 83 (.len false 82),Rq 84 (.mv (Kq 0))])
 (.block 2
 (.loop
 (.seq (.reg [Rq 85 (.bin .lss 84 83)])
 (.seq (.cond 85
 (.skip)
 (.exit 2))
 (.seq (.block 3
 (.seq (.reg [Rq 86 (.idxA 6 82 84),Rq 87 (.load true 6 86),Rq 12 (.zbox 113 zqN4),Sq 6 12 87])
 (.seq (.reg [Rq 89 (.mv 6),Rq 90 (.fldA 0 12),Rq 91 (.load false 1 90),Rq 92 (.call (.func 78) [89, 91]),Rq 88 (.mv 92),Rq 93 (.ext 88 0),Rq 94 (.ext 88 1),Rq 13 (.mv 93),Rq 14 (.mv 94)])
 (.seq (.reg [Rq 95 (.mv 14),Rq 96 (.not 95),Rq 97 (.mv 96),Gq 98 97 true (.mv 6),Gq 99 97 true (.fldA 0 98),Gq 100 97 true (.fldA 0 99),Gq 101 97 true (.fldA 11 100),Gq 102 97 true (.load false 1 101),Gq 103 97 true (.len false 102),Gq 104 97 true (.bin .lss 103 (Kq 20)),Rq 105 (.pick 97 104 (.const (.bool false)))])
 (.cond 105
 (.dreg [[],[Rq 115 (.call (.func 79) [111, 112, 114])],[Rq 106 (.mv 6),Rq 107 (.mv 6),Rq 108 (.fldA 0 107),Rq 109 (.fldA 0 108),Rq 110 (.fldA 11 109),Rq 111 (.load false 1 110),Rq 112 (.mv 13),Rq 113 (.load true 6 12),Rq 114 (.mks 113 6 1 zqN4 [(0, 113)])],[Rq 116 (.fldA 0 106)],[Rq 117 (.fldA 0 116)],[Rq 118 (.fldA 11 117)],[Sq 1 118 115]])
 (.skip))))))
 (.reg [Rq 119 (.bin .add 84 (Kq 1)),Rq 84 (.mv 119)])))))))
 (.seq (.reg [Rq 120 (.mv 6),Rq 121 (.fldA 0 120),Rq 122 (.fldA 0 121),Rq 123 (.load true 12 122),Sq 12 4 123,Rq 5 (.mv (Kq 0))])
 (.ret)))))))))
theorem ck_node_Hear : chkFunC Tryz.prog 24 2 = some (rc_node_Hear, [(4, some (true, 12)), (5, none)]) := by kernel_rfl
def rc_hearsayref_HearOf : RCode :=
 .seq (.reg [Rq 2 (.box 30 12 0),Rq 3 (.box 44 6 1),Rq 4 (.zbox 30 zqN5),Rq 5 (.mv (Kq 0))])
 (.seq (.reg [Rq 9 (.load true 6 3),Rq 10 (.call (.func 80) [9]),Rq 6 (.mv 10)])
 (.seq (.seq (.reg [Rq 7 (.mv (Kq 0))])
 (.block 0
 (.loop
 (.seq (.seq (.reg [Rq 11 (.mv 7),Rq 12 (.fldA 2 3),Rq 13 (.load false 1 12),Rq 14 (.len false 13),Rq 15 (.bin .lss 11 14),Rq 16 (.mv 15),Gq 17 16 true (.mv 6),Gq 18 16 true (.bin .eql 17 (Kq 0)),Rq 19 (.pick 16 18 (.const (.bool false)))])
 (.cond 19
 (.skip)
 (.exit 0)))
 (.seq (.block 1
 (.dreg [[Rq 23 (.load true 12 2),Rq 24 (.fldA 2 3),Rq 25 (.load false 1 24),Rq 26 (.mv 7),Rq 27 (.idxA 5 25 26),Rq 28 (.load true 5 27)],[Rq 29 (.call (.func 81) [23, 28])],[Rq 22 (.mv 29)],[],[Rq 31 (.mkm)],[Rq 30 (.ext 22 0),Rq 31 (.ext 22 1),Sq 12 2 30],[Rq 6 (.mv 31)]]))
 (.reg [Rq 20 (.mv 7),Rq 21 (.bin .add 20 (Kq 1)),Rq 7 (.mv 21)]))))))
 (.seq (.seq (.reg [Rq 32 (.mv 6),Rq 33 (.bin .neq 32 (Kq 0))])
 (.cond 33
 (.seq (.reg [Rq 34 (.build zqN5 []),Rq 35 (.mv 6),Sq 12 4 34,Rq 5 (.mv 35)])
 (.ret))
 (.skip)))
 (.seq (.reg [Rq 36 (.fldA 4 2),Rq 37 (.load false 1 36),Rq 38 (.fldA 3 3),Rq 39 (.load false 1 38),Rq 40 (.call (.func 82) [37, 39]),Rq 41 (.fldA 4 2),Sq 1 41 40])
 (.seq (.reg [Rq 42 (.fldA 5 2),Rq 43 (.load false 1 42),Rq 44 (.fldA 4 3),Rq 45 (.load false 1 44),Rq 46 (.call (.func 83) [43, 45]),Rq 47 (.fldA 5 2),Sq 1 47 46])
 (.seq (.seq (.reg [Rq 48 (.fldA 4 2),Rq 49 (.load false 1 48),Rq 50 (.len false 49),Rq 51 (.bin .gtr 50 (Kq 40)),Rq 52 (.mv 51),Gq 53 52 false (.fldA 5 2),Gq 54 52 false (.load false 1 53),Gq 55 52 false (.len false 54),Gq 56 52 false (.bin .gtr 55 (Kq 6)),Rq 57 (.pick 52 (.const (.bool true)) 56)])
 (.cond 57
 (.seq (.reg [Rq 58 (.build zqN5 []),Sq 12 4 58,Rq 5 (.mv (Kq 2))])
 (.ret))
 (.skip)))
 (.seq (.seq (.reg [Rq 8 (.mv (Kq 0))])
 (.block 2
 (.loop
 (.seq (.seq (.reg [Rq 59 (.mv 8),Rq 60 (.fldA 5 3),Rq 61 (.load false 1 60),Rq 62 (.len false 61),Rq 63 (.bin .lss 59 62)])
 (.cond 63
 (.skip)
 (.exit 2)))
 (.seq (.block 3
 (.seq (.dreg [[Rq 66 (.fldA 11 2),Rq 67 (.load false 1 66),Rq 68 (.fldA 5 3),Rq 69 (.load false 1 68),Rq 70 (.mv 8),Rq 71 (.idxA 6 69 70),Rq 72 (.fldA 0 71),Rq 73 (.load false 1 72)],[Rq 74 (.call (.func 84) [67, 73])],[Rq 75 (.bin .lss 74 (Kq 0))],[Rq 76 (.mv 75)],[Gq 77 76 true (.fldA 11 2)],[Gq 78 76 true (.load false 1 77)],[Gq 79 76 true (.len false 78)],[Gq 80 76 true (.bin .lss 79 (Kq 20))],[Rq 81 (.pick 76 80 (.const (.bool false)))]])
 (.cond 81
 (.dreg [[Rq 82 (.fldA 11 2),Rq 83 (.load false 1 82),Rq 84 (.fldA 5 3),Rq 85 (.load false 1 84),Rq 86 (.mv 8),Rq 87 (.idxA 6 85 86),Rq 88 (.load true 6 87)],[Rq 89 (.call (.func 85) [83, 88])],[Rq 90 (.fldA 11 2)],[Sq 1 90 89]])
 (.skip))))
 (.reg [Rq 64 (.mv 8),Rq 65 (.bin .add 64 (Kq 1)),Rq 8 (.mv 65)]))))))
 (.seq (.reg [Rq 91 (.load true 12 2),Sq 12 4 91,Rq 5 (.mv (Kq 0))])
 (.ret)))))))))
theorem ck_hearsayref_HearOf : chkFunC Tryz.prog 25 2 = some (rc_hearsayref_HearOf, [(4, some (true, 12)), (5, none)]) := by kernel_rfl
def rc_hearsayref_SameNode : RCode :=
 .seq (.reg [Rq 2 (.box 30 12 0),Rq 3 (.box 30 12 1),Rq 4 (.mv (.const (.bool false)))])
 (.seq (.reg [Rq 5 (.fldA 0 2),Rq 6 (.load false 1 5),Rq 7 (.fldA 0 3),Rq 8 (.load false 1 7),Rq 9 (.bin .eql 6 8),Rq 10 (.mv 9),Gq 11 10 true (.fldA 1 2),Gq 12 10 true (.load false 1 11),Gq 13 10 true (.fldA 1 3),Gq 14 10 true (.load false 1 13),Gq 15 10 true (.bin .eql 12 14),Rq 16 (.pick 10 15 (.const (.bool false))),Rq 17 (.mv 16),Gq 18 17 true (.fldA 2 2),Gq 19 17 true (.load false 1 18),Gq 20 17 true (.fldA 2 3),Gq 21 17 true (.load false 1 20),Gq 22 17 true (.call (.func 70) [19, 21]),Rq 23 (.pick 17 22 (.const (.bool false))),Rq 24 (.mv 23),Gq 25 24 true (.fldA 3 2),Gq 26 24 true (.load false 1 25),Gq 27 24 true (.fldA 3 3),Gq 28 24 true (.load false 1 27),Gq 29 24 true (.call (.func 89) [26, 28]),Rq 30 (.pick 24 29 (.const (.bool false))),Rq 31 (.mv 30),Gq 32 31 true (.fldA 4 2),Gq 33 31 true (.load false 1 32),Gq 34 31 true (.fldA 4 3),Gq 35 31 true (.load false 1 34),Gq 36 31 true (.call (.func 71) [33, 35]),Rq 37 (.pick 31 36 (.const (.bool false))),Rq 38 (.mv 37),Gq 39 38 true (.fldA 5 2),Gq 40 38 true (.load false 1 39),Gq 41 38 true (.fldA 5 3),Gq 42 38 true (.load false 1 41),Gq 43 38 true (.call (.func 72) [40, 42]),Rq 44 (.pick 38 43 (.const (.bool false))),Rq 45 (.mv 44),Gq 46 45 true (.fldA 6 2),Gq 47 45 true (.load true 5 46),Gq 48 45 true (.fldA 6 3),Gq 49 45 true (.load true 5 48),Gq 50 45 true (.eqS false [0, 0, 0, 0, 0] 47 49),Rq 51 (.pick 45 50 (.const (.bool false))),Rq 52 (.mv 51),Gq 53 52 true (.fldA 11 2),Gq 54 52 true (.load false 1 53),Gq 55 52 true (.fldA 11 3),Gq 56 52 true (.load false 1 55),Gq 57 52 true (.call (.func 73) [54, 56]),Rq 58 (.pick 52 57 (.const (.bool false))),Rq 4 (.mv 58)])
 (.ret))
theorem ck_hearsayref_SameNode : chkFun Tryz.prog 27 2 = some (rc_hearsayref_SameNode, [4]) := by kernel_rfl
def rc_node_Doubt : RCode :=
 .seq (.reg [Rq 2 (.box 30 12 0),Rq 4 (.zbox 30 zqN5),Rq 5 (.mv (Kq 0))])
 (.seq (.reg [Rq 6 (.load true 12 2),Rq 7 (.mv 1),Rq 8 (.call (.func 90) [6, 7, (Kq 1), (Kq 2)]),Rq 9 (.ext 8 0),Rq 10 (.ext 8 1),Sq 12 4 9,Rq 5 (.mv 10)])
 (.ret))
theorem ck_node_Doubt : chkFunC Tryz.prog 28 2 = some (rc_node_Doubt, [(4, some (true, 12)), (5, none)]) := by kernel_rfl
def rc_packet_Places : RCode :=
 .seq (.reg [Rq 2 (.mv (Kq 0))])
 (.seq (.seq (.reg [Rq 7 (.mv 0),Rq 8 (.len false 7),Rq 9 (.bin .gtr 8 (Kq 20))])
 (.cond 9
 (.seq (.reg [Rq 2 (.mv (Kq 2))])
 (.ret))
 (.skip)))
 (.seq (.seq (.reg [Rq 10 (.mv 0),Rq 11 (.len false 10),Rq 12 (.mv (Kq 0))])
 (.block 0
 (.loop
 (.seq (.reg [Rq 13 (.bin .lss 12 11)])
 (.seq (.cond 13
 (.skip)
 (.exit 0))
 (.seq (.block 1
 (.seq (.reg [Rq 14 (.idxA 6 10 12),Rq 15 (.load true 6 14),Rq 4 (.zbox 113 zqN4),Sq 6 4 15])
 (.seq (.seq (.reg [Rq 16 (.fldA 0 4),Rq 17 (.load false 1 16),Rq 18 (.call (.func 42) [17]),Rq 19 (.not 18)])
 (.cond 19
 (.seq (.reg [Rq 2 (.mv (Kq 1))])
 (.ret))
 (.skip)))
 (.seq (.reg [Rq 20 (.fldA 1 4),Rq 21 (.load true 5 20),Rq 22 (.call (.func 47) [21]),Rq 5 (.mv 22)])
 (.seq (.reg [Rq 23 (.mv 5),Rq 24 (.bin .neq 23 (Kq 0))])
 (.cond 24
 (.seq (.reg [Rq 25 (.mv 5),Rq 2 (.mv 25)])
 (.ret))
 (.skip)))))))
 (.reg [Rq 26 (.bin .add 12 (Kq 1)),Rq 12 (.mv 26)])))))))
 (.seq (.seq (.reg [Rq 6 (.mv (Kq 1))])
 (.block 2
 (.loop
 (.seq (.seq (.reg [Rq 27 (.mv 6),Rq 28 (.mv 0),Rq 29 (.len false 28),Rq 30 (.bin .lss 27 29)])
 (.cond 30
 (.skip)
 (.exit 2)))
 (.seq (.block 3
 (.seq (.dreg [[Rq 33 (.mv 0),Rq 34 (.mv 6),Rq 35 (.idxA 6 33 34),Rq 36 (.fldA 0 35),Rq 37 (.load false 1 36),Rq 38 (.mv 0),Rq 39 (.mv 6),Rq 40 (.bin .sub 39 (Kq 1)),Rq 41 (.idxA 6 38 40),Rq 42 (.fldA 0 41),Rq 43 (.load false 1 42)],[Rq 44 (.bin .leq 37 43)]])
 (.cond 44
 (.seq (.reg [Rq 2 (.mv (Kq 4))])
 (.ret))
 (.skip))))
 (.reg [Rq 31 (.mv 6),Rq 32 (.bin .add 31 (Kq 1)),Rq 6 (.mv 32)]))))))
 (.seq (.reg [Rq 2 (.mv (Kq 0))])
 (.ret)))))
theorem ck_packet_Places : chkFun Tryz.prog 48 1 = some (rc_packet_Places, [2]) := by kernel_rfl
def rc_node_rumors : RCode :=
 .seq (.reg [Rq 1 (.box 30 12 0),Rq 2 (.mv (.const (.bool false)))])
 (.seq (.seq (.reg [Rq 7 (.fldA 3 1),Rq 8 (.load false 1 7),Rq 9 (.len false 8),Rq 10 (.mv (Kq 0))])
 (.block 0
 (.loop
 (.seq (.reg [Rq 11 (.bin .lss 10 9)])
 (.seq (.cond 11
 (.skip)
 (.exit 0))
 (.seq (.block 1
 (.seq (.reg [Rq 12 (.idxA 6 8 10),Rq 13 (.load true 6 12),Rq 4 (.zbox 80 [(.string ⟨#[]⟩), (.int .i64 0), (.int .i64 0), (.int .i64 0), (.bool false), (.int .i64 0)]),Sq 6 4 13])
 (.seq (.reg [Rq 15 (.fldA 2 1),Rq 16 (.load false 1 15),Rq 17 (.fldA 0 4),Rq 18 (.fldA 0 17),Rq 19 (.load false 1 18),Rq 20 (.call (.func 49) [16, 19]),Rq 14 (.mv 20),Rq 21 (.ext 14 0),Rq 22 (.ext 14 1),Rq 5 (.mv 21),Rq 6 (.mv 22)])
 (.seq (.dreg [[Rq 23 (.mv 6)],[Rq 24 (.not 23)],[Rq 25 (.mv 24)],[Gq 26 25 false (.fldA 0 4),Gq 27 25 false (.load true 5 26),Gq 28 25 false (.fldA 2 1),Gq 29 25 false (.load false 1 28),Gq 30 25 false (.mv 5),Gq 31 25 false (.idxA 5 29 30),Gq 32 25 false (.load true 5 31)],[Gq 33 25 false (.call (.func 111) [27, 32])],[Gq 34 25 false (.bin .gtr 33 (Kq 0))],[Rq 35 (.pick 25 (.const (.bool true)) 34)]])
 (.cond 35
 (.seq (.reg [Rq 2 (.mv (.const (.bool false)))])
 (.ret))
 (.skip))))))
 (.reg [Rq 36 (.bin .add 10 (Kq 1)),Rq 10 (.mv 36)])))))))
 (.seq (.reg [Rq 2 (.mv (.const (.bool true)))])
 (.ret)))
theorem ck_node_rumors : chkFun Tryz.prog 50 1 = some (rc_node_rumors, [2]) := by kernel_rfl
def rc_hearsayref_CheckWhere : RCode :=
 .seq (.reg [Rq 2 (.mv (Kq 0))])
 (.seq (.seq (.reg [Rq 6 (.mv 0),Rq 7 (.len false 6),Rq 8 (.bin .gtr 7 (Kq 20))])
 (.cond 8
 (.seq (.reg [Rq 2 (.mv (Kq 2))])
 (.ret))
 (.skip)))
 (.seq (.seq (.reg [Rq 3 (.mv (Kq 0))])
 (.block 0
 (.loop
 (.seq (.seq (.reg [Rq 9 (.mv 3),Rq 10 (.mv 0),Rq 11 (.len false 10),Rq 12 (.bin .lss 9 11)])
 (.cond 12
 (.skip)
 (.exit 0)))
 (.seq (.block 1
 (.seq (.seq (.reg [Rq 15 (.mv 0),Rq 16 (.mv 3),Rq 17 (.idxA 6 15 16),Rq 18 (.fldA 0 17),Rq 19 (.load false 1 18),Rq 20 (.call (.func 13) [19]),Rq 21 (.not 20)])
 (.cond 21
 (.seq (.reg [Rq 2 (.mv (Kq 1))])
 (.ret))
 (.skip)))
 (.seq (.reg [Rq 22 (.mv 0),Rq 23 (.mv 3),Rq 24 (.idxA 6 22 23),Rq 25 (.fldA 1 24),Rq 26 (.load true 5 25),Rq 27 (.call (.func 55) [26]),Rq 4 (.mv 27)])
 (.seq (.reg [Rq 28 (.mv 4),Rq 29 (.bin .neq 28 (Kq 0))])
 (.cond 29
 (.seq (.reg [Rq 30 (.mv 4),Rq 2 (.mv 30)])
 (.ret))
 (.skip))))))
 (.reg [Rq 13 (.mv 3),Rq 14 (.bin .add 13 (Kq 1)),Rq 3 (.mv 14)]))))))
 (.seq (.seq (.reg [Rq 5 (.mv (Kq 1))])
 (.block 2
 (.loop
 (.seq (.seq (.reg [Rq 31 (.mv 5),Rq 32 (.mv 0),Rq 33 (.len false 32),Rq 34 (.bin .lss 31 33)])
 (.cond 34
 (.skip)
 (.exit 2)))
 (.seq (.block 3
 (.seq (.dreg [[Rq 37 (.mv 0),Rq 38 (.mv 5),Rq 39 (.idxA 6 37 38),Rq 40 (.fldA 0 39),Rq 41 (.load false 1 40),Rq 42 (.mv 0),Rq 43 (.mv 5),Rq 44 (.bin .sub 43 (Kq 1)),Rq 45 (.idxA 6 42 44),Rq 46 (.fldA 0 45),Rq 47 (.load false 1 46)],[Rq 48 (.bin .leq 41 47)]])
 (.cond 48
 (.seq (.reg [Rq 2 (.mv (Kq 4))])
 (.ret))
 (.skip))))
 (.reg [Rq 35 (.mv 5),Rq 36 (.bin .add 35 (Kq 1)),Rq 5 (.mv 36)]))))))
 (.seq (.reg [Rq 2 (.mv (Kq 0))])
 (.ret)))))
theorem ck_hearsayref_CheckWhere : chkFun Tryz.prog 56 1 = some (rc_hearsayref_CheckWhere, [2]) := by kernel_rfl
def rc_node_open : RCode :=
 .seq (.reg [Rq 1 (.box 30 12 0),Rq 2 (.mv (.const (.pointer none))),Rq 3 (.mv (Kq 0))])
 (.seq (.seq (.reg [Rq 5 (.load true 12 1),Rq 6 (.call (.func 17) [5]),Rq 4 (.mv 6)])
 (.seq (.reg [Rq 7 (.mv 4),Rq 8 (.bin .neq 7 (Kq 0))])
 (.cond 8
 (.seq (.reg [Rq 9 (.mv 4),Rq 2 (.mv (.const (.pointer none))),Rq 3 (.mv 9)])
 (.ret))
 (.skip))))
 (.seq (.dreg [[Rq 10 (.fldA 2 1),Rq 11 (.load false 1 10),Rq 12 (.call (.func 115) [11]),Rq 13 (.fldA 3 1),Rq 14 (.load false 1 13),Rq 15 (.call (.func 116) [14]),Rq 16 (.fldA 4 1),Rq 17 (.load false 1 16),Rq 18 (.call (.func 117) [17]),Rq 19 (.fldA 2 1)],[Sq 1 19 12],[Rq 20 (.fldA 3 1)],[Sq 1 20 15],[Rq 21 (.fldA 4 1)],[Sq 1 21 18]])
 (.seq (.dreg [[Rq 22 (.fldA 5 1),Rq 23 (.load false 1 22),Rq 24 (.call (.func 118) [23]),Rq 25 (.fldA 11 1),Rq 26 (.load false 1 25)],[Rq 27 (.call (.func 119) [26]),Rq 28 (.fldA 5 1)],[Sq 1 28 24],[Rq 29 (.fldA 11 1)],[Sq 1 29 27]])
 (.seq (.reg [Rq 30 (.load true 12 1),Rq 31 (.build zqN5 [(0, 12, 30)]),Rq 32 (.box 89 12 31),Rq 2 (.mv 32),Rq 3 (.mv (Kq 0))])
 (.ret)))))
theorem ck_node_open : chkFun Tryz.prog 59 1 = some (rc_node_open, [2, 3]) := by kernel_rfl
def rc_slices_SortFunc_api_Member_api_Member : RCode :=
 .seq (.reg [Rq 5 (.mv 0),Rq 6 (.len false 5),Rq 4 (.mv 6)])
 (.reg [Rq 7 (.mv 0),Rq 8 (.mv 4),Rq 9 (.mv 4),Rq 10 (.conv .u64 9),Rq 11 (.call (.func 127) [10]),Rq 12 (.mv 1),Rq 13 (.call (.func 126) [7, (Kq 0), 8, 11, 12])])
theorem ck_slices_SortFunc_api_Member_api_Member : chkFun Tryz.prog 63 2 = some (rc_slices_SortFunc_api_Member_api_Member, []) := by kernel_rfl
def rc_node_Tell_1 : RCode :=
 .seq (.reg [Rq 2 (.box 37 5 0),Rq 3 (.box 37 5 1),Rq 4 (.mv (Kq 0))])
 (.seq (.reg [Rq 5 (.fldA 0 2),Rq 6 (.load false 1 5),Rq 7 (.fldA 0 3),Rq 8 (.load false 1 7),Rq 9 (.call (.func 65) [6, 8]),Rq 4 (.mv 9)])
 (.ret))
theorem ck_node_Tell_1 : chkFun Tryz.prog 64 2 = some (rc_node_Tell_1, [4]) := by kernel_rfl
def rc_hearsayref_SameWhere : RCode :=
 .seq (.reg [Rq 4 (.mv (.const (.bool false)))])
 (.seq (.seq (.reg [Rq 6 (.mv 0),Rq 7 (.len false 6),Rq 8 (.mv 1),Rq 9 (.len false 8),Rq 10 (.bin .neq 7 9)])
 (.cond 10
 (.seq (.reg [Rq 4 (.mv (.const (.bool false)))])
 (.ret))
 (.skip)))
 (.seq (.seq (.reg [Rq 5 (.mv (Kq 0))])
 (.block 0
 (.loop
 (.seq (.seq (.reg [Rq 11 (.mv 5),Rq 12 (.mv 0),Rq 13 (.len false 12),Rq 14 (.bin .lss 11 13)])
 (.cond 14
 (.skip)
 (.exit 0)))
 (.seq (.block 1
 (.seq (.dreg [[Rq 17 (.mv 0),Rq 18 (.mv 5),Rq 19 (.idxA 6 17 18),Rq 20 (.load true 6 19),Rq 21 (.mv 1),Rq 22 (.mv 5),Rq 23 (.idxA 6 21 22),Rq 24 (.load true 6 23)],[Rq 25 (.eqS true [1, 0, 0, 0, 0, 0] 20 24)]])
 (.cond 25
 (.seq (.reg [Rq 4 (.mv (.const (.bool false)))])
 (.ret))
 (.skip))))
 (.reg [Rq 15 (.mv 5),Rq 16 (.bin .add 15 (Kq 1)),Rq 5 (.mv 16)]))))))
 (.seq (.reg [Rq 4 (.mv (.const (.bool true)))])
 (.ret))))
theorem ck_hearsayref_SameWhere : chkFun Tryz.prog 73 2 = some (rc_hearsayref_SameWhere, [4]) := by kernel_rfl
def rc_packet_Check : RCode :=
 .seq (.reg [Rq 1 (.box 44 6 0),Rq 2 (.mv (Kq 0))])
 (.seq (.seq (.reg [Rq 5 (.fldA 0 1),Rq 6 (.load false 1 5),Rq 7 (.call (.func 42) [6]),Rq 8 (.not 7),Rq 9 (.mv 8),Gq 10 9 false (.fldA 1 1),Gq 11 9 false (.load false 1 10),Gq 12 9 false (.not 11),Gq 13 9 false (.mv 12),Gq 14 13 true (.fldA 3 1),Gq 15 13 true (.load false 1 14),Gq 16 13 true (.len false 15),Gq 17 13 true (.fldA 4 1),Gq 18 13 true (.load false 1 17),Gq 19 13 true (.len false 18),Gq 20 13 true (.bin .add 16 19),Gq 21 13 true (.fldA 5 1),Gq 22 13 true (.load false 1 21),Gq 23 13 true (.len false 22),Gq 24 13 true (.bin .add 20 23),Gq 25 13 true (.bin .gtr 24 (Kq 0)),Gq 26 9 false (.pick 13 25 (.const (.bool false))),Rq 27 (.pick 9 (.const (.bool true)) 26)])
 (.cond 27
 (.seq (.reg [Rq 2 (.mv (Kq 1))])
 (.ret))
 (.skip)))
 (.seq (.seq (.reg [Rq 28 (.fldA 1 1),Rq 29 (.load false 1 28),Rq 30 (.not 29)])
 (.cond 30
 (.seq (.reg [Rq 31 (.fldA 2 1),Rq 32 (.load false 1 31),Rq 33 (.call (.func 130) [32]),Rq 2 (.mv 33)])
 (.ret))
 (.skip)))
 (.seq (.seq (.dreg [[Rq 34 (.fldA 2 1),Rq 35 (.load false 1 34),Rq 36 (.call (.func 43) [35]),Rq 37 (.fldA 3 1),Rq 38 (.load false 1 37),Rq 39 (.call (.func 45) [38]),Rq 40 (.fldA 4 1),Rq 41 (.load false 1 40),Rq 42 (.call (.func 46) [41]),Rq 43 (.fldA 5 1),Rq 44 (.load false 1 43),Rq 45 (.call (.func 48) [44]),Rq 46 (.mks 31 1 4 [(.int .i64 0)] [(0, 36), (1, 39), (2, 42), (3, 45)]),Rq 47 (.len false 46),Rq 48 (.mv (Kq 0))]])
 (.block 0
 (.loop
 (.seq (.reg [Rq 49 (.bin .lss 48 47)])
 (.seq (.cond 49
 (.skip)
 (.exit 0))
 (.seq (.block 1
 (.seq (.reg [Rq 50 (.idxA 1 46 48),Rq 51 (.load false 1 50),Rq 4 (.mv 51)])
 (.seq (.reg [Rq 52 (.mv 4),Rq 53 (.bin .neq 52 (Kq 0))])
 (.cond 53
 (.seq (.reg [Rq 54 (.mv 4),Rq 2 (.mv 54)])
 (.ret))
 (.skip)))))
 (.reg [Rq 55 (.bin .add 48 (Kq 1)),Rq 48 (.mv 55)])))))))
 (.seq (.reg [Rq 2 (.mv (Kq 0))])
 (.ret)))))
theorem ck_packet_Check : chkFun Tryz.prog 74 1 = some (rc_packet_Check, [2]) := by kernel_rfl
def rc_node_worker_spread : RCode :=
 .seq (.reg [Rq 3 (.box 37 5 1),Rq 4 (.mv (Kq 0))])
 (.seq (.dreg [[Rq 10 (.mv 0),Rq 11 (.fldA 0 10),Rq 12 (.fldA 0 11),Rq 13 (.fldA 2 12),Rq 14 (.load false 1 13),Rq 15 (.load true 5 3)],[Rq 16 (.call (.func 131) [14, 15])],[Rq 9 (.mv 16)],[Rq 17 (.ext 9 0),Rq 18 (.ext 9 1),Rq 19 (.ext 9 2),Rq 5 (.mv 17),Rq 6 (.mv 18)],[Rq 7 (.mv 19)]])
 (.seq (.seq (.reg [Rq 20 (.mv 7),Rq 21 (.bin .neq 20 (Kq 0)),Rq 22 (.mv 21),Gq 23 22 false (.mv 6),Gq 24 22 false (.not 23),Rq 25 (.pick 22 (.const (.bool true)) 24)])
 (.cond 25
 (.seq (.reg [Rq 26 (.mv 7),Rq 4 (.mv 26)])
 (.ret))
 (.skip)))
 (.seq (.reg [Rq 27 (.mv 0),Rq 28 (.mv 5),Rq 29 (.fldA 0 27),Rq 30 (.fldA 0 29),Rq 31 (.fldA 2 30),Sq 1 31 28])
 (.seq (.seq (.reg [Rq 32 (.mv 0),Rq 33 (.fldA 0 3),Rq 34 (.load false 1 33),Rq 35 (.call (.func 132) [32, 34]),Rq 8 (.mv 35)])
 (.seq (.dreg [[Rq 36 (.mv 8)],[Rq 37 (.bin .neq 36 (Kq 0))],[Rq 38 (.mv 37)],[Gq 39 38 false (.fldA 0 3),Gq 40 38 false (.load false 1 39),Gq 41 38 false (.mv 0),Gq 42 38 false (.fldA 0 41),Gq 43 38 false (.fldA 0 42),Gq 44 38 false (.fldA 0 43),Gq 45 38 false (.load false 1 44)],[Gq 46 38 false (.bin .neq 40 45)],[Rq 47 (.pick 38 (.const (.bool true)) 46)]])
 (.cond 47
 (.seq (.reg [Rq 48 (.mv 8),Rq 4 (.mv 48)])
 (.ret))
 (.skip))))
 (.seq (.dreg [[Rq 50 (.mv 0),Rq 51 (.fldA 0 50),Rq 52 (.fldA 0 51),Rq 53 (.fldA 2 52),Rq 54 (.load false 1 53),Rq 55 (.mv 0),Rq 56 (.fldA 0 55),Rq 57 (.fldA 0 56),Rq 58 (.fldA 0 57),Rq 59 (.load false 1 58)],[Rq 60 (.call (.func 133) [54, 59])],[Rq 49 (.mv 60)],[Rq 61 (.ext 49 0),Rq 62 (.ext 49 1),Rq 63 (.ext 49 2),Rq 5 (.mv 61),Rq 6 (.mv 62)],[Rq 7 (.mv 63)]])
 (.seq (.seq (.reg [Rq 64 (.mv 7),Rq 65 (.bin .neq 64 (Kq 0)),Rq 66 (.mv 65),Gq 67 66 false (.mv 6),Gq 68 66 false (.not 67),Rq 69 (.pick 66 (.const (.bool true)) 68)])
 (.cond 69
 (.seq (.reg [Rq 70 (.mv 7),Rq 4 (.mv 70)])
 (.ret))
 (.skip)))
 (.seq (.reg [Rq 71 (.mv 0),Rq 72 (.mv 5),Rq 73 (.fldA 0 71),Rq 74 (.fldA 0 73),Rq 75 (.fldA 2 74),Sq 1 75 72])
 (.seq (.reg [Rq 76 (.mv 0),Rq 77 (.mv 0),Rq 78 (.fldA 0 77),Rq 79 (.fldA 0 78),Rq 80 (.fldA 0 79),Rq 81 (.load false 1 80),Rq 82 (.call (.func 132) [76, 81]),Rq 4 (.mv 82)])
 (.ret)))))))))
theorem ck_node_worker_spread : chkFun Tryz.prog 75 2 = some (rc_node_worker_spread, [4]) := by kernel_rfl
def rc_node_worker_find : RCode :=
 .seq (.reg [Rq 4 (.mv (Kq 0)),Rq 5 (.mv (.const (.bool false)))])
 (.seq (.reg [Rq 6 (.mv 0),Rq 7 (.fldA 0 6),Rq 8 (.fldA 0 7),Rq 9 (.fldA 11 8),Rq 10 (.load false 1 9),Rq 11 (.mv 1),Rq 12 (.call (.func 139) [10, 11, (.func 140)]),Rq 13 (.ext 12 0),Rq 14 (.ext 12 1),Rq 4 (.mv 13),Rq 5 (.mv 14)])
 (.ret))
theorem ck_node_worker_find : chkFun Tryz.prog 78 2 = some (rc_node_worker_find, [4, 5]) := by kernel_rfl
def rc_hearsayref_CheckPacket : RCode :=
 .seq (.reg [Rq 1 (.box 44 6 0),Rq 2 (.mv (Kq 0))])
 (.seq (.seq (.reg [Rq 8 (.fldA 0 1),Rq 9 (.load false 1 8),Rq 10 (.call (.func 13) [9]),Rq 11 (.not 10),Rq 12 (.mv 11),Gq 13 12 false (.fldA 1 1),Gq 14 12 false (.load false 1 13),Gq 15 12 false (.not 14),Gq 16 12 false (.mv 15),Gq 17 16 true (.fldA 3 1),Gq 18 16 true (.load false 1 17),Gq 19 16 true (.len false 18),Gq 20 16 true (.bin .gtr 19 (Kq 0)),Gq 21 16 true (.mv 20),Gq 22 21 false (.fldA 4 1),Gq 23 21 false (.load false 1 22),Gq 24 21 false (.len false 23),Gq 25 21 false (.bin .gtr 24 (Kq 0)),Gq 26 16 true (.pick 21 (.const (.bool true)) 25),Gq 27 16 true (.mv 26),Gq 28 27 false (.fldA 5 1),Gq 29 27 false (.load false 1 28),Gq 30 27 false (.len false 29),Gq 31 27 false (.bin .gtr 30 (Kq 0)),Gq 32 16 true (.pick 27 (.const (.bool true)) 31),Gq 33 12 false (.pick 16 32 (.const (.bool false))),Rq 34 (.pick 12 (.const (.bool true)) 33)])
 (.cond 34
 (.seq (.reg [Rq 2 (.mv (Kq 1))])
 (.ret))
 (.skip)))
 (.seq (.seq (.reg [Rq 35 (.fldA 1 1),Rq 36 (.load false 1 35)])
 (.cond 36
 (.seq (.reg [Rq 37 (.fldA 2 1),Rq 38 (.load false 1 37),Rq 39 (.call (.func 51) [38]),Rq 3 (.mv 39)])
 (.seq (.seq (.reg [Rq 40 (.mv 3),Rq 41 (.bin .eql 40 (Kq 0))])
 (.cond 41
 (.reg [Rq 42 (.fldA 3 1),Rq 43 (.load false 1 42),Rq 44 (.call (.func 53) [43]),Rq 3 (.mv 44)])
 (.skip)))
 (.seq (.seq (.reg [Rq 45 (.mv 3),Rq 46 (.bin .eql 45 (Kq 0))])
 (.cond 46
 (.reg [Rq 47 (.fldA 4 1),Rq 48 (.load false 1 47),Rq 49 (.call (.func 54) [48]),Rq 3 (.mv 49)])
 (.skip)))
 (.seq (.seq (.reg [Rq 50 (.mv 3),Rq 51 (.bin .eql 50 (Kq 0))])
 (.cond 51
 (.reg [Rq 52 (.fldA 5 1),Rq 53 (.load false 1 52),Rq 54 (.call (.func 56) [53]),Rq 3 (.mv 54)])
 (.skip)))
 (.seq (.reg [Rq 55 (.mv 3),Rq 2 (.mv 55)])
 (.ret))))))
 (.skip)))
 (.seq (.seq (.reg [Rq 56 (.fldA 2 1),Rq 57 (.load false 1 56),Rq 58 (.len false 57),Rq 59 (.bin .gtr 58 (Kq 5))])
 (.cond 59
 (.seq (.reg [Rq 2 (.mv (Kq 2))])
 (.ret))
 (.skip)))
 (.seq (.seq (.reg [Rq 4 (.mv (Kq 0))])
 (.block 0
 (.loop
 (.seq (.seq (.reg [Rq 60 (.mv 4),Rq 61 (.fldA 2 1),Rq 62 (.load false 1 61),Rq 63 (.len false 62),Rq 64 (.bin .lss 60 63)])
 (.cond 64
 (.skip)
 (.exit 0)))
 (.seq (.block 1
 (.seq (.reg [Rq 67 (.fldA 2 1),Rq 68 (.load false 1 67),Rq 69 (.mv 4),Rq 70 (.idxA 5 68 69),Rq 71 (.load true 5 70),Rq 72 (.call (.func 112) [71]),Rq 5 (.mv 72)])
 (.seq (.reg [Rq 73 (.mv 5),Rq 74 (.bin .neq 73 (Kq 0))])
 (.cond 74
 (.seq (.reg [Rq 75 (.mv 5),Rq 2 (.mv 75)])
 (.ret))
 (.skip)))))
 (.reg [Rq 65 (.mv 4),Rq 66 (.bin .add 65 (Kq 1)),Rq 4 (.mv 66)]))))))
 (.seq (.seq (.reg [Rq 6 (.mv (Kq 0))])
 (.block 2
 (.loop
 (.seq (.seq (.reg [Rq 76 (.mv 6),Rq 77 (.fldA 2 1),Rq 78 (.load false 1 77),Rq 79 (.len false 78),Rq 80 (.bin .lss 76 79)])
 (.cond 80
 (.skip)
 (.exit 2)))
 (.seq (.block 3
 (.seq (.reg [Rq 7 (.mv (Kq 0))])
 (.block 4
 (.loop
 (.seq (.seq (.reg [Rq 83 (.mv 7),Rq 84 (.mv 6),Rq 85 (.bin .lss 83 84)])
 (.cond 85
 (.skip)
 (.exit 4)))
 (.seq (.block 5
 (.seq (.dreg [[Rq 88 (.fldA 2 1),Rq 89 (.load false 1 88),Rq 90 (.mv 7),Rq 91 (.idxA 5 89 90),Rq 92 (.fldA 0 91),Rq 93 (.load false 1 92),Rq 94 (.fldA 2 1),Rq 95 (.load false 1 94),Rq 96 (.mv 6),Rq 97 (.idxA 5 95 96),Rq 98 (.fldA 0 97),Rq 99 (.load false 1 98)],[Rq 100 (.bin .eql 93 99)]])
 (.cond 100
 (.seq (.reg [Rq 2 (.mv (Kq 6))])
 (.ret))
 (.skip))))
 (.reg [Rq 86 (.mv 7),Rq 87 (.bin .add 86 (Kq 1)),Rq 7 (.mv 87)])))))))
 (.reg [Rq 81 (.mv 6),Rq 82 (.bin .add 81 (Kq 1)),Rq 6 (.mv 82)]))))))
 (.seq (.reg [Rq 2 (.mv (Kq 0))])
 (.ret)))))))
theorem ck_hearsayref_CheckPacket : chkFun Tryz.prog 80 1 = some (rc_hearsayref_CheckPacket, [2]) := by kernel_rfl
def rc_hearsayref_SpreadOf : RCode :=
 .seq (.reg [Rq 2 (.box 30 12 0),Rq 3 (.box 37 5 1),Rq 4 (.zbox 30 zqN5),Rq 5 (.mv (Kq 0))])
 (.seq (.reg [Rq 11 (.fldA 2 2),Rq 12 (.load false 1 11),Rq 13 (.load true 5 3),Rq 14 (.call (.func 129) [12, 13]),Rq 10 (.mv 14),Rq 15 (.ext 10 0),Rq 16 (.ext 10 1),Rq 6 (.mv 15),Rq 7 (.mv 16)])
 (.seq (.seq (.reg [Rq 17 (.mv 6),Rq 18 (.len false 17),Rq 19 (.bin .gtr 18 (Kq 20))])
 (.cond 19
 (.seq (.reg [Rq 20 (.load true 12 2),Sq 12 4 20,Rq 5 (.mv (Kq 2))])
 (.ret))
 (.skip)))
 (.seq (.seq (.reg [Rq 21 (.mv 7),Rq 22 (.not 21)])
 (.cond 22
 (.seq (.reg [Rq 23 (.load true 12 2),Sq 12 4 23,Rq 5 (.mv (Kq 0))])
 (.ret))
 (.skip)))
 (.seq (.reg [Rq 25 (.fldA 3 2),Rq 26 (.load false 1 25),Rq 27 (.load true 5 3),Rq 28 (.call (.func 143) [26, 27]),Rq 24 (.mv 28),Rq 29 (.ext 24 0),Rq 30 (.ext 24 1),Rq 8 (.mv 29),Rq 9 (.mv 30)])
 (.seq (.seq (.reg [Rq 31 (.mv 9),Rq 32 (.bin .neq 31 (Kq 0))])
 (.cond 32
 (.seq (.reg [Rq 33 (.load true 12 2),Rq 34 (.mv 9),Sq 12 4 33,Rq 5 (.mv 34)])
 (.ret))
 (.skip)))
 (.seq (.reg [Rq 35 (.mv 6),Rq 36 (.mv 8),Rq 37 (.fldA 2 2),Sq 1 37 35,Rq 38 (.fldA 3 2),Sq 1 38 36])
 (.seq (.seq (.reg [Rq 39 (.fldA 0 3),Rq 40 (.load false 1 39),Rq 41 (.fldA 0 2),Rq 42 (.load false 1 41),Rq 43 (.bin .neq 40 42)])
 (.cond 43
 (.seq (.reg [Rq 44 (.load true 12 2),Sq 12 4 44,Rq 5 (.mv (Kq 0))])
 (.ret))
 (.skip)))
 (.seq (.reg [Rq 46 (.fldA 2 2),Rq 47 (.load false 1 46),Rq 48 (.fldA 0 2),Rq 49 (.load false 1 48),Rq 50 (.call (.func 144) [47, 49]),Rq 45 (.mv 50),Rq 51 (.ext 45 0),Rq 52 (.ext 45 1),Rq 53 (.ext 45 2),Rq 6 (.mv 51),Rq 7 (.mv 52),Rq 9 (.mv 53)])
 (.seq (.seq (.reg [Rq 54 (.mv 9),Rq 55 (.bin .neq 54 (Kq 0)),Rq 56 (.mv 55),Gq 57 56 false (.mv 7),Gq 58 56 false (.not 57),Rq 59 (.pick 56 (.const (.bool true)) 58)])
 (.cond 59
 (.seq (.reg [Rq 60 (.load true 12 2),Rq 61 (.mv 9),Sq 12 4 60,Rq 5 (.mv 61)])
 (.ret))
 (.skip)))
 (.seq (.reg [Rq 62 (.mv 6),Rq 63 (.fldA 2 2),Sq 1 63 62])
 (.seq (.dreg [[Rq 65 (.fldA 3 2),Rq 66 (.load false 1 65),Rq 67 (.mv 6),Rq 68 (.mv 6),Rq 69 (.fldA 0 2),Rq 70 (.load false 1 69),Rq 71 (.call (.func 57) [68, 70]),Rq 72 (.idxA 5 67 71),Rq 73 (.load true 5 72)],[Rq 74 (.call (.func 143) [66, 73])],[Rq 64 (.mv 74)],[],[Rq 76 (.mkm)],[Rq 75 (.ext 64 0),Rq 76 (.ext 64 1),Rq 77 (.fldA 3 2),Sq 1 77 75],[Rq 9 (.mv 76)]])
 (.seq (.reg [Rq 78 (.load true 12 2),Rq 79 (.mv 9),Sq 12 4 78,Rq 5 (.mv 79)])
 (.ret)))))))))))))
theorem ck_hearsayref_SpreadOf : chkFunC Tryz.prog 81 2 = some (rc_hearsayref_SpreadOf, [(4, some (true, 12)), (5, none)]) := by kernel_rfl
def rc_hearsayref_JoinGateways : RCode :=
 .seq (.reg [Rq 4 (.mv (.const (.slice none 0 0)))])
 (.seq (.seq (.reg [Rq 5 (.mv (Kq 0))])
 (.block 0
 (.loop
 (.seq (.seq (.reg [Rq 7 (.mv 5),Rq 8 (.mv 1),Rq 9 (.len false 8),Rq 10 (.bin .lss 7 9)])
 (.cond 10
 (.skip)
 (.exit 0)))
 (.seq (.block 1
 (.seq (.reg [Rq 13 (.mv 0),Rq 14 (.mv 1),Rq 15 (.mv 5),Rq 16 (.idxA 3 14 15),Rq 17 (.fldA 0 16),Rq 18 (.load false 1 17),Rq 19 (.call (.func 88) [13, 18]),Rq 6 (.mv 19)])
 (.seq (.dreg [[Rq 20 (.mv 6)],[Rq 21 (.bin .lss 20 (Kq 0))],[Rq 22 (.mv 21)],[Gq 23 22 false (.mv 1),Gq 24 22 false (.mv 5),Gq 25 22 false (.idxA 3 23 24),Gq 26 22 false (.fldA 2 25),Gq 27 22 false (.load false 1 26),Gq 28 22 false (.mv 0),Gq 29 22 false (.mv 6),Gq 30 22 false (.idxA 3 28 29),Gq 31 22 false (.fldA 2 30),Gq 32 22 false (.load false 1 31)],[Gq 33 22 false (.bin .gtr 27 32)],[Rq 34 (.pick 22 (.const (.bool true)) 33)],[Rq 35 (.mv 34)],[Gq 36 35 false (.mv 1),Gq 37 35 false (.mv 5),Gq 38 35 false (.idxA 3 36 37),Gq 39 35 false (.fldA 2 38),Gq 40 35 false (.load false 1 39),Gq 41 35 false (.mv 0),Gq 42 35 false (.mv 6),Gq 43 35 false (.idxA 3 41 42),Gq 44 35 false (.fldA 2 43),Gq 45 35 false (.load false 1 44)],[Gq 46 35 false (.bin .eql 40 45)],[Gq 47 35 false (.mv 46)],[Gq 48 47 true (.mv 1),Gq 49 47 true (.mv 5),Gq 50 47 true (.idxA 3 48 49),Gq 51 47 true (.fldA 1 50),Gq 52 47 true (.load false 1 51),Gq 53 47 true (.mv 0),Gq 54 47 true (.mv 6),Gq 55 47 true (.idxA 3 53 54),Gq 56 47 true (.fldA 1 55),Gq 57 47 true (.load false 1 56)],[Gq 58 47 true (.bin .gtr 52 57)],[Gq 59 35 false (.pick 47 58 (.const (.bool false)))],[Rq 60 (.pick 35 (.const (.bool true)) 59)]])
 (.cond 60
 (.reg [Rq 61 (.mv 0),Rq 62 (.mv 1),Rq 63 (.mv 5),Rq 64 (.idxA 3 62 63),Rq 65 (.load true 3 64),Rq 66 (.call (.func 146) [61, 65]),Rq 0 (.mv 66)])
 (.skip)))))
 (.reg [Rq 11 (.mv 5),Rq 12 (.bin .add 11 (Kq 1)),Rq 5 (.mv 12)]))))))
 (.seq (.reg [Rq 67 (.mv 0),Rq 4 (.mv 67)])
 (.ret)))
theorem ck_hearsayref_JoinGateways : chkFun Tryz.prog 83 2 = some (rc_hearsayref_JoinGateways, [4]) := by kernel_rfl
def rc_hearsayref_WhereAt : RCode :=
 .seq (.reg [Rq 4 (.mv (Kq 0))])
 (.seq (.seq (.reg [Rq 5 (.mv (Kq 0))])
 (.block 0
 (.loop
 (.seq (.seq (.reg [Rq 6 (.mv 5),Rq 7 (.mv 0),Rq 8 (.len false 7),Rq 9 (.bin .lss 6 8)])
 (.cond 9
 (.skip)
 (.exit 0)))
 (.seq (.block 1
 (.seq (.reg [Rq 12 (.mv 0),Rq 13 (.mv 5),Rq 14 (.idxA 6 12 13),Rq 15 (.fldA 0 14),Rq 16 (.load false 1 15),Rq 17 (.mv 1),Rq 18 (.bin .eql 16 17)])
 (.cond 18
 (.seq (.reg [Rq 19 (.mv 5),Rq 4 (.mv 19)])
 (.ret))
 (.skip))))
 (.reg [Rq 10 (.mv 5),Rq 11 (.bin .add 10 (Kq 1)),Rq 5 (.mv 11)]))))))
 (.seq (.reg [Rq 4 (.mv (.const (.int .i64 (-1))))])
 (.ret)))
theorem ck_hearsayref_WhereAt : chkFun Tryz.prog 84 2 = some (rc_hearsayref_WhereAt, [4]) := by kernel_rfl
def rc_hearsayref_PutWhere : RCode :=
 .seq (.reg [Rq 3 (.box 113 6 1),Rq 4 (.mv (.const (.slice none 0 0)))])
 (.seq (.reg [Rq 5 (.mv (.const (.slice none 0 0)))])
 (.seq (.reg [Rq 6 (.mv (.const (.bool false)))])
 (.seq (.seq (.reg [Rq 7 (.mv (Kq 0))])
 (.block 0
 (.loop
 (.seq (.seq (.reg [Rq 8 (.mv 7),Rq 9 (.mv 0),Rq 10 (.len false 9),Rq 11 (.bin .lss 8 10)])
 (.cond 11
 (.skip)
 (.exit 0)))
 (.seq (.block 1
 (.seq (.seq (.dreg [[Rq 14 (.mv 6)],[Rq 15 (.not 14)],[Rq 16 (.mv 15)],[Gq 17 16 true (.mv 0),Gq 18 16 true (.mv 7),Gq 19 16 true (.idxA 6 17 18),Gq 20 16 true (.fldA 0 19),Gq 21 16 true (.load false 1 20),Gq 22 16 true (.fldA 0 3),Gq 23 16 true (.load false 1 22)],[Gq 24 16 true (.bin .geq 21 23)],[Rq 25 (.pick 16 24 (.const (.bool false)))]])
 (.cond 25
 (.seq (.reg [Rq 26 (.mv 5),Rq 27 (.load true 6 3),Rq 28 (.mks 113 6 1 zqN4 [(0, 27)]),Rq 29 (.app 113 6 56 (.agg #[(.string ⟨#[]⟩), (.int .i64 0), (.int .i64 0), (.int .i64 0), (.int .i64 0), (.int .i64 0)]) 26 28),Rq 5 (.mv 29)])
 (.reg [Rq 6 (.mv (.const (.bool true)))]))
 (.skip)))
 (.seq (.dreg [[Rq 30 (.mv 0),Rq 31 (.mv 7),Rq 32 (.idxA 6 30 31),Rq 33 (.fldA 0 32),Rq 34 (.load false 1 33),Rq 35 (.fldA 0 3),Rq 36 (.load false 1 35)],[Rq 37 (.bin .neq 34 36)]])
 (.cond 37
 (.reg [Rq 38 (.mv 5),Rq 39 (.mv 0),Rq 40 (.mv 7),Rq 41 (.idxA 6 39 40),Rq 42 (.load true 6 41),Rq 43 (.mks 113 6 1 zqN4 [(0, 42)]),Rq 44 (.app 113 6 56 (.agg #[(.string ⟨#[]⟩), (.int .i64 0), (.int .i64 0), (.int .i64 0), (.int .i64 0), (.int .i64 0)]) 38 43),Rq 5 (.mv 44)])
 (.skip)))))
 (.reg [Rq 12 (.mv 7),Rq 13 (.bin .add 12 (Kq 1)),Rq 7 (.mv 13)]))))))
 (.seq (.seq (.reg [Rq 45 (.mv 6),Rq 46 (.not 45)])
 (.cond 46
 (.reg [Rq 47 (.mv 5),Rq 48 (.load true 6 3),Rq 49 (.mks 113 6 1 zqN4 [(0, 48)]),Rq 50 (.app 113 6 56 (.agg #[(.string ⟨#[]⟩), (.int .i64 0), (.int .i64 0), (.int .i64 0), (.int .i64 0), (.int .i64 0)]) 47 49),Rq 5 (.mv 50)])
 (.skip)))
 (.seq (.reg [Rq 51 (.mv 5),Rq 4 (.mv 51)])
 (.ret))))))
theorem ck_hearsayref_PutWhere : chkFun Tryz.prog 85 2 = some (rc_hearsayref_PutWhere, [4]) := by kernel_rfl
def rc_node_turn : RCode :=
 .seq (.reg [Rq 4 (.box 30 12 0),Rq 8 (.zbox 30 zqN5),Rq 9 (.mv (Kq 0))])
 (.seq (.reg [Rq 16 (.load true 12 4),Rq 17 (.call (.func 59) [16]),Rq 15 (.mv 17),Rq 18 (.ext 15 0),Rq 19 (.ext 15 1),Rq 10 (.mv 18),Rq 11 (.mv 19)])
 (.seq (.seq (.reg [Rq 20 (.mv 11),Rq 21 (.bin .neq 20 (Kq 0))])
 (.cond 21
 (.seq (.reg [Rq 22 (.build zqN5 []),Rq 23 (.mv 11),Sq 12 8 22,Rq 9 (.mv 23)])
 (.ret))
 (.skip)))
 (.seq (.reg [Rq 25 (.mv 10),Rq 26 (.fldA 0 25),Rq 27 (.fldA 0 26),Rq 28 (.fldA 2 27),Rq 29 (.load false 1 28),Rq 30 (.mv 1),Rq 31 (.call (.func 49) [29, 30]),Rq 24 (.mv 31),Rq 32 (.ext 24 0),Rq 33 (.ext 24 1),Rq 12 (.mv 32),Rq 13 (.mv 33)])
 (.seq (.block 0
 (.seq (.reg [Rq 35 (.mv 1),Rq 36 (.call (.func 42) [35]),Rq 37 (.not 36),Rq 34 (.mv 37)])
 (.cond 34
 (.seq (.reg [Rq 38 (.build zqN5 []),Sq 12 8 38,Rq 9 (.mv (Kq 1))])
 (.ret))
 (.seq (.reg [Rq 40 (.mv 1),Rq 41 (.mv 10),Rq 42 (.fldA 0 41),Rq 43 (.fldA 0 42),Rq 44 (.fldA 0 43),Rq 45 (.load false 1 44),Rq 46 (.bin .eql 40 45),Rq 39 (.mv 46)])
 (.cond 39
 (.seq (.reg [Rq 47 (.build zqN5 []),Sq 12 8 47,Rq 9 (.mv (Kq 6))])
 (.ret))
 (.seq (.reg [Rq 49 (.mv 13),Rq 50 (.not 49),Rq 48 (.mv 50)])
 (.cond 48
 (.seq (.reg [Rq 51 (.build zqN5 []),Sq 12 8 51,Rq 9 (.mv (Kq 5))])
 (.ret))
 (.seq (.reg [Rq 53 (.mv 10),Rq 54 (.fldA 0 53),Rq 55 (.fldA 0 54),Rq 56 (.fldA 2 55),Rq 57 (.load false 1 56),Rq 58 (.mv 12),Rq 59 (.idxA 5 57 58),Rq 60 (.fldA 1 59),Rq 61 (.load false 1 60),Rq 62 (.mv 2),Rq 63 (.bin .neq 61 62),Rq 52 (.mv 63)])
 (.cond 52
 (.seq (.reg [Rq 64 (.build zqN5 []),Sq 12 8 64,Rq 9 (.mv (Kq 4))])
 (.ret))
 (.skip))))))))))
 (.seq (.reg [Rq 65 (.mv 10),Rq 66 (.fldA 0 65),Rq 67 (.fldA 0 66),Rq 68 (.fldA 2 67),Rq 69 (.load false 1 68),Rq 70 (.mv 12),Rq 71 (.idxA 5 69 70),Rq 72 (.load true 5 71),Rq 14 (.zbox 37 zqN3),Sq 5 14 72])
 (.seq (.reg [Rq 73 (.mv 3),Rq 74 (.fldA 1 14),Sq 1 74 73])
 (.seq (.reg [Rq 75 (.mv 10),Rq 76 (.mv 10),Rq 77 (.load true 5 14),Rq 78 (.call (.func 75) [76, 77]),Rq 79 (.call (.func 91) [75, 78]),Rq 80 (.ext 79 0),Rq 81 (.ext 79 1),Sq 12 8 80,Rq 9 (.mv 81)])
 (.ret))))))))
theorem ck_node_turn : chkFunC Tryz.prog 90 4 = some (rc_node_turn, [(8, some (true, 12)), (9, none)]) := by kernel_rfl
def rc_node_worker_done : RCode :=
 .seq (.reg [Rq 4 (.zbox 30 zqN5),Rq 5 (.mv (Kq 0))])
 (.seq (.seq (.reg [Rq 6 (.mv 1),Rq 7 (.bin .neq 6 (Kq 0))])
 (.cond 7
 (.seq (.reg [Rq 8 (.build zqN5 []),Rq 9 (.mv 1),Sq 12 4 8,Rq 5 (.mv 9)])
 (.ret))
 (.skip)))
 (.seq (.reg [Rq 10 (.mv 0),Rq 11 (.fldA 0 10),Rq 12 (.fldA 0 11),Rq 13 (.load true 12 12),Sq 12 4 13,Rq 5 (.mv (Kq 0))])
 (.ret)))
theorem ck_node_worker_done : chkFunC Tryz.prog 91 2 = some (rc_node_worker_done, [(4, some (true, 12)), (5, none)]) := by kernel_rfl
def rc_slices_pdqsortCmpFunc_api_Member : RCode :=
 .seq (.reg [Rq 10 (.mv (.const (.bool true)))])
 (.seq (.reg [Rq 11 (.mv (.const (.bool true)))])
 (.block 0
 (.loop
 (.block 1
 (.seq (.reg [Rq 21 (.mv 2),Rq 22 (.mv 1),Rq 23 (.bin .sub 21 22),Rq 12 (.mv 23)])
 (.seq (.seq (.reg [Rq 24 (.mv 12),Rq 25 (.bin .leq 24 (Kq 12))])
 (.cond 25
 (.seq (.reg [Rq 26 (.mv 0),Rq 27 (.mv 1),Rq 28 (.mv 2),Rq 29 (.mv 4),Rq 30 (.call (.func 166) [26, 27, 28, 29])])
 (.ret))
 (.skip)))
 (.seq (.seq (.reg [Rq 31 (.mv 3),Rq 32 (.bin .eql 31 (Kq 0))])
 (.cond 32
 (.seq (.reg [Rq 33 (.mv 0),Rq 34 (.mv 1),Rq 35 (.mv 2),Rq 36 (.mv 4),Rq 37 (.call (.func 167) [33, 34, 35, 36])])
 (.ret))
 (.skip)))
 (.seq (.seq (.reg [Rq 38 (.mv 10),Rq 39 (.not 38)])
 (.cond 39
 (.seq (.reg [Rq 40 (.mv 0),Rq 41 (.mv 1),Rq 42 (.mv 2),Rq 43 (.mv 4),Rq 44 (.call (.func 168) [40, 41, 42, 43])])
 (.reg [Rq 45 (.mv 3),Rq 46 (.bin .sub 45 (Kq 1)),Rq 3 (.mv 46)]))
 (.skip)))
 (.seq (.reg [Rq 48 (.mv 0),Rq 49 (.mv 1),Rq 50 (.mv 2),Rq 51 (.mv 4),Rq 52 (.call (.func 169) [48, 49, 50, 51]),Rq 47 (.mv 52),Rq 53 (.ext 47 0),Rq 54 (.ext 47 1),Rq 13 (.mv 53),Rq 14 (.mv 54)])
 (.seq (.seq (.reg [Rq 55 (.mv 14),Rq 56 (.bin .eql 55 (Kq 2))])
 (.cond 56
 (.seq (.reg [Rq 57 (.mv 0),Rq 58 (.mv 1),Rq 59 (.mv 2),Rq 60 (.mv 4),Rq 61 (.call (.func 170) [57, 58, 59, 60])])
 (.seq (.reg [Rq 62 (.mv 2),Rq 63 (.bin .sub 62 (Kq 1)),Rq 64 (.mv 13),Rq 65 (.mv 1),Rq 66 (.bin .sub 64 65),Rq 67 (.bin .sub 63 66),Rq 13 (.mv 67)])
 (.reg [Rq 14 (.mv (Kq 1))])))
 (.skip)))
 (.seq (.seq (.reg [Rq 68 (.mv 10),Rq 69 (.mv 68),Gq 70 69 true (.mv 11),Rq 71 (.pick 69 70 (.const (.bool false))),Rq 72 (.mv 71),Gq 73 72 true (.mv 14),Gq 74 72 true (.bin .eql 73 (Kq 1)),Rq 75 (.pick 72 74 (.const (.bool false)))])
 (.cond 75
 (.seq (.reg [Rq 76 (.mv 0),Rq 77 (.mv 1),Rq 78 (.mv 2),Rq 79 (.mv 4),Rq 80 (.call (.func 171) [76, 77, 78, 79])])
 (.cond 80
 (.ret)
 (.skip)))
 (.skip)))
 (.seq (.seq (.dreg [[Rq 81 (.mv 1)],[Rq 82 (.bin .gtr 81 (Kq 0))],[Rq 83 (.mv 82)],[Gq 84 83 true (.mv 4),Gq 85 83 true (.mv 0),Gq 86 83 true (.mv 1),Gq 87 83 true (.bin .sub 86 (Kq 1)),Gq 88 83 true (.idxA 5 85 87),Gq 89 83 true (.load true 5 88),Gq 90 83 true (.mv 0),Gq 91 83 true (.mv 13),Gq 92 83 true (.idxA 5 90 91),Gq 93 83 true (.load true 5 92)],[Gq 94 83 true (.call 84 [89, 93])],[Gq 95 83 true (.bin .lss 94 (Kq 0))],[Gq 96 83 true (.not 95)],[Rq 97 (.pick 83 96 (.const (.bool false)))]])
 (.cond 97
 (.seq (.reg [Rq 98 (.mv 0),Rq 99 (.mv 1),Rq 100 (.mv 2),Rq 101 (.mv 13),Rq 102 (.mv 4),Rq 103 (.call (.func 172) [98, 99, 100, 101, 102]),Rq 15 (.mv 103)])
 (.seq (.reg [Rq 104 (.mv 15),Rq 1 (.mv 104)])
 (.exit 1)))
 (.skip)))
 (.seq (.reg [Rq 106 (.mv 0),Rq 107 (.mv 1),Rq 108 (.mv 2),Rq 109 (.mv 13),Rq 110 (.mv 4),Rq 111 (.call (.func 173) [106, 107, 108, 109, 110]),Rq 105 (.mv 111),Rq 112 (.ext 105 0),Rq 113 (.ext 105 1),Rq 16 (.mv 112),Rq 17 (.mv 113)])
 (.seq (.reg [Rq 114 (.mv 17),Rq 11 (.mv 114)])
 (.seq (.reg [Rq 115 (.mv 16),Rq 116 (.mv 1),Rq 117 (.bin .sub 115 116),Rq 118 (.mv 2),Rq 119 (.mv 16),Rq 120 (.bin .sub 118 119),Rq 18 (.mv 117),Rq 19 (.mv 120)])
 (.seq (.reg [Rq 121 (.mv 12),Rq 122 (.bin .quo 121 (Kq 8)),Rq 20 (.mv 122)])
 (.seq (.reg [Rq 123 (.mv 18),Rq 124 (.mv 19),Rq 125 (.bin .lss 123 124)])
 (.cond 125
 (.seq (.reg [Rq 126 (.mv 18),Rq 127 (.mv 20),Rq 128 (.bin .geq 126 127),Rq 10 (.mv 128)])
 (.seq (.reg [Rq 129 (.mv 0),Rq 130 (.mv 1),Rq 131 (.mv 16),Rq 132 (.mv 3),Rq 133 (.mv 4),Rq 134 (.call (.func 126) [129, 130, 131, 132, 133])])
 (.reg [Rq 135 (.mv 16),Rq 136 (.bin .add 135 (Kq 1)),Rq 1 (.mv 136)])))
 (.seq (.reg [Rq 137 (.mv 19),Rq 138 (.mv 20),Rq 139 (.bin .geq 137 138),Rq 10 (.mv 139)])
 (.seq (.reg [Rq 140 (.mv 0),Rq 141 (.mv 16),Rq 142 (.bin .add 141 (Kq 1)),Rq 143 (.mv 2),Rq 144 (.mv 3),Rq 145 (.mv 4),Rq 146 (.call (.func 126) [140, 142, 143, 144, 145])])
 (.reg [Rq 147 (.mv 16),Rq 2 (.mv 147)])))))))))))))))))))))
theorem ck_slices_pdqsortCmpFunc_api_Member : chkFun Tryz.prog 126 5 = some (rc_slices_pdqsortCmpFunc_api_Member, []) := by kernel_rfl
def rc_math_bits_Len : RCode :=
 .seq (.reg [Rq 2 (.mv (Kq 0))])
 (.seq (.cond (.const (.bool false))
 (.seq (.reg [Rq 3 (.mv 0),Rq 4 (.conv .u32 3),Rq 5 (.call (.func 174) [4]),Rq 2 (.mv 5)])
 (.ret))
 (.skip))
 (.seq (.reg [Rq 6 (.mv 0),Rq 7 (.call (.func 175) [6]),Rq 2 (.mv 7)])
 (.ret)))
theorem ck_math_bits_Len : chkFun Tryz.prog 127 1 = some (rc_math_bits_Len, [2]) := by kernel_rfl
def rc_packet_few : RCode :=
 .seq (.reg [Rq 2 (.mv (Kq 0))])
 (.seq (.seq (.reg [Rq 7 (.mv 0),Rq 8 (.len false 7),Rq 9 (.bin .gtr 8 (Kq 5))])
 (.cond 9
 (.seq (.reg [Rq 2 (.mv (Kq 2))])
 (.ret))
 (.skip)))
 (.seq (.seq (.reg [Rq 10 (.mv 0),Rq 11 (.call (.func 159) [10]),Rq 3 (.mv 11)])
 (.seq (.reg [Rq 12 (.mv 3),Rq 13 (.bin .neq 12 (Kq 0))])
 (.cond 13
 (.seq (.reg [Rq 14 (.mv 3),Rq 2 (.mv 14)])
 (.ret))
 (.skip))))
 (.seq (.reg [Rq 15 (.mkm),Rq 4 (.mv 15)])
 (.seq (.seq (.reg [Rq 16 (.mv 0),Rq 17 (.len false 16),Rq 18 (.mv (Kq 0))])
 (.block 0
 (.loop
 (.seq (.reg [Rq 19 (.bin .lss 18 17)])
 (.seq (.cond 19
 (.skip)
 (.exit 0))
 (.seq (.block 1
 (.seq (.reg [Rq 20 (.idxA 5 16 18),Rq 21 (.load true 5 20),Rq 6 (.zbox 37 zqN3),Sq 5 6 21])
 (.reg [Rq 22 (.mv 4),Rq 23 (.fldA 0 6),Rq 24 (.load false 1 23),⟨none, none, .mupd .string 22 24 (.const (.bool true))⟩])))
 (.reg [Rq 25 (.bin .add 18 (Kq 1)),Rq 18 (.mv 25)])))))))
 (.seq (.seq (.reg [Rq 26 (.mv 4),Rq 27 (.mlen 26),Rq 28 (.mv 0),Rq 29 (.len false 28),Rq 30 (.bin .lss 27 29)])
 (.cond 30
 (.seq (.reg [Rq 2 (.mv (Kq 6))])
 (.ret))
 (.skip)))
 (.seq (.reg [Rq 2 (.mv (Kq 0))])
 (.ret)))))))
theorem ck_packet_few : chkFun Tryz.prog 130 1 = some (rc_packet_few, [2]) := by kernel_rfl
def rc_node_worker_put : RCode :=
 .seq (.reg [Rq 4 (.mv (Kq 0))])
 (.seq (.reg [Rq 10 (.mv 0),Rq 11 (.fldA 0 10),Rq 12 (.fldA 0 11),Rq 13 (.fldA 2 12),Rq 14 (.load false 1 13),Rq 15 (.mv 1),Rq 16 (.call (.func 49) [14, 15]),Rq 9 (.mv 16),Rq 17 (.ext 9 0),Rq 18 (.ext 9 1),Rq 5 (.mv 17),Rq 6 (.mv 18)])
 (.seq (.dreg [[Rq 20 (.mv 0),Rq 21 (.fldA 0 20),Rq 22 (.fldA 0 21),Rq 23 (.fldA 3 22),Rq 24 (.load false 1 23),Rq 25 (.mv 0),Rq 26 (.fldA 0 25),Rq 27 (.fldA 0 26),Rq 28 (.fldA 2 27),Rq 29 (.load false 1 28),Rq 30 (.mv 5),Rq 31 (.idxA 5 29 30),Rq 32 (.load true 5 31)],[Rq 33 (.call (.func 177) [24, 32])],[Rq 19 (.mv 33)],[Rq 34 (.ext 19 0),Rq 35 (.ext 19 1),Rq 7 (.mv 34)],[Rq 8 (.mv 35)]])
 (.seq (.seq (.reg [Rq 36 (.mv 8),Rq 37 (.bin .eql 36 (Kq 0))])
 (.cond 37
 (.reg [Rq 38 (.mv 0),Rq 39 (.mv 7),Rq 40 (.fldA 0 38),Rq 41 (.fldA 0 40),Rq 42 (.fldA 3 41),Sq 1 42 39])
 (.skip)))
 (.seq (.reg [Rq 43 (.mv 8),Rq 4 (.mv 43)])
 (.ret)))))
theorem ck_node_worker_put : chkFun Tryz.prog 132 2 = some (rc_node_worker_put, [4]) := by kernel_rfl
def rc_slices_BinarySearchFunc_api_Where_api_Where_string : RCode :=
 .seq (.reg [Rq 6 (.mv (Kq 0)),Rq 7 (.mv (.const (.bool false)))])
 (.seq (.reg [Rq 12 (.mv 0),Rq 13 (.len false 12),Rq 8 (.mv 13)])
 (.seq (.reg [Rq 14 (.mv 8),Rq 9 (.mv (Kq 0)),Rq 10 (.mv 14)])
 (.seq (.block 0
 (.loop
 (.seq (.seq (.reg [Rq 15 (.mv 9),Rq 16 (.mv 10),Rq 17 (.bin .lss 15 16)])
 (.cond 17
 (.skip)
 (.exit 0)))
 (.block 1
 (.seq (.reg [Rq 18 (.mv 9),Rq 19 (.mv 10),Rq 20 (.bin .add 18 19),Rq 21 (.conv .u64 20),Rq 22 (.bin .shr 21 (.const (.int .u64 1))),Rq 23 (.conv .i64 22),Rq 11 (.mv 23)])
 (.seq (.reg [Rq 24 (.mv 2),Rq 25 (.mv 0),Rq 26 (.mv 11),Rq 27 (.idxA 6 25 26),Rq 28 (.load true 6 27),Rq 29 (.mv 1),Rq 30 (.call 24 [28, 29]),Rq 31 (.bin .lss 30 (Kq 0))])
 (.cond 31
 (.reg [Rq 32 (.mv 11),Rq 33 (.bin .add 32 (Kq 1)),Rq 9 (.mv 33)])
 (.reg [Rq 34 (.mv 11),Rq 10 (.mv 34)]))))))))
 (.seq (.reg [Rq 35 (.mv 9),Rq 36 (.mv 9),Rq 37 (.mv 8),Rq 38 (.bin .lss 36 37),Rq 39 (.mv 38),Gq 40 39 true (.mv 2),Gq 41 39 true (.mv 0),Gq 42 39 true (.mv 9),Gq 43 39 true (.idxA 6 41 42),Gq 44 39 true (.load true 6 43),Gq 45 39 true (.mv 1),Gq 46 39 true (.call 40 [44, 45]),Gq 47 39 true (.bin .eql 46 (Kq 0)),Rq 48 (.pick 39 47 (.const (.bool false))),Rq 6 (.mv 35),Rq 7 (.mv 48)])
 (.ret)))))
theorem ck_slices_BinarySearchFunc_api_Where_api_Where_string : chkFun Tryz.prog 139 3 = some (rc_slices_BinarySearchFunc_api_Where_api_Where_string, [6, 7]) := by kernel_rfl
def rc_node_worker_find_1 : RCode :=
 .seq (.reg [Rq 2 (.box 113 6 0),Rq 4 (.mv (Kq 0))])
 (.seq (.reg [Rq 5 (.fldA 0 2),Rq 6 (.load false 1 5),Rq 7 (.mv 1),Rq 8 (.call (.func 65) [6, 7]),Rq 4 (.mv 8)])
 (.ret))
theorem ck_node_worker_find_1 : chkFun Tryz.prog 140 2 = some (rc_node_worker_find_1, [4]) := by kernel_rfl
def rc_hearsayref_PutGateway : RCode :=
 .seq (.reg [Rq 3 (.box 125 3 1),Rq 4 (.mv (.const (.slice none 0 0)))])
 (.seq (.reg [Rq 5 (.mv (.const (.slice none 0 0)))])
 (.seq (.reg [Rq 6 (.mv (.const (.bool false)))])
 (.seq (.seq (.reg [Rq 7 (.mv (Kq 0))])
 (.block 0
 (.loop
 (.seq (.seq (.reg [Rq 8 (.mv 7),Rq 9 (.mv 0),Rq 10 (.len false 9),Rq 11 (.bin .lss 8 10)])
 (.cond 11
 (.skip)
 (.exit 0)))
 (.seq (.block 1
 (.seq (.seq (.dreg [[Rq 14 (.mv 6)],[Rq 15 (.not 14)],[Rq 16 (.mv 15)],[Gq 17 16 true (.mv 0),Gq 18 16 true (.mv 7),Gq 19 16 true (.idxA 3 17 18),Gq 20 16 true (.fldA 0 19),Gq 21 16 true (.load false 1 20),Gq 22 16 true (.fldA 0 3),Gq 23 16 true (.load false 1 22)],[Gq 24 16 true (.bin .geq 21 23)],[Rq 25 (.pick 16 24 (.const (.bool false)))]])
 (.cond 25
 (.seq (.reg [Rq 26 (.mv 5),Rq 27 (.load true 3 3),Rq 28 (.mks 125 3 1 [(.string ⟨#[]⟩), (.int .i64 0), (.int .i64 0)] [(0, 27)]),Rq 29 (.app 125 3 32 (.agg #[(.string ⟨#[]⟩), (.int .i64 0), (.int .i64 0)]) 26 28),Rq 5 (.mv 29)])
 (.reg [Rq 6 (.mv (.const (.bool true)))]))
 (.skip)))
 (.seq (.dreg [[Rq 30 (.mv 0),Rq 31 (.mv 7),Rq 32 (.idxA 3 30 31),Rq 33 (.fldA 0 32),Rq 34 (.load false 1 33),Rq 35 (.fldA 0 3),Rq 36 (.load false 1 35)],[Rq 37 (.bin .neq 34 36)]])
 (.cond 37
 (.reg [Rq 38 (.mv 5),Rq 39 (.mv 0),Rq 40 (.mv 7),Rq 41 (.idxA 3 39 40),Rq 42 (.load true 3 41),Rq 43 (.mks 125 3 1 [(.string ⟨#[]⟩), (.int .i64 0), (.int .i64 0)] [(0, 42)]),Rq 44 (.app 125 3 32 (.agg #[(.string ⟨#[]⟩), (.int .i64 0), (.int .i64 0)]) 38 43),Rq 5 (.mv 44)])
 (.skip)))))
 (.reg [Rq 12 (.mv 7),Rq 13 (.bin .add 12 (Kq 1)),Rq 7 (.mv 13)]))))))
 (.seq (.seq (.reg [Rq 45 (.mv 6),Rq 46 (.not 45)])
 (.cond 46
 (.reg [Rq 47 (.mv 5),Rq 48 (.load true 3 3),Rq 49 (.mks 125 3 1 [(.string ⟨#[]⟩), (.int .i64 0), (.int .i64 0)] [(0, 48)]),Rq 50 (.app 125 3 32 (.agg #[(.string ⟨#[]⟩), (.int .i64 0), (.int .i64 0)]) 47 49),Rq 5 (.mv 50)])
 (.skip)))
 (.seq (.reg [Rq 51 (.mv 5),Rq 4 (.mv 51)])
 (.ret))))))
theorem ck_hearsayref_PutGateway : chkFun Tryz.prog 146 2 = some (rc_hearsayref_PutGateway, [4]) := by kernel_rfl
def rc_slices_insertionSortCmpFunc_api_Member : RCode :=
 .seq (.reg [Rq 10 (.mv 1),Rq 11 (.bin .add 10 (Kq 1)),Rq 8 (.mv 11)])
 (.block 0
 (.loop
 (.seq (.seq (.reg [Rq 12 (.mv 8),Rq 13 (.mv 2),Rq 14 (.bin .lss 12 13)])
 (.cond 14
 (.skip)
 (.exit 0)))
 (.seq (.block 1
 (.seq (.reg [Rq 17 (.mv 8),Rq 9 (.mv 17)])
 (.block 2
 (.loop
 (.seq (.seq (.dreg [[Rq 18 (.mv 9),Rq 19 (.mv 1)],[Rq 20 (.bin .gtr 18 19)],[Rq 21 (.mv 20)],[Gq 22 21 true (.mv 3),Gq 23 21 true (.mv 0),Gq 24 21 true (.mv 9),Gq 25 21 true (.idxA 5 23 24),Gq 26 21 true (.load true 5 25),Gq 27 21 true (.mv 0),Gq 28 21 true (.mv 9),Gq 29 21 true (.bin .sub 28 (Kq 1)),Gq 30 21 true (.idxA 5 27 29),Gq 31 21 true (.load true 5 30)],[Gq 32 21 true (.call 22 [26, 31])],[Gq 33 21 true (.bin .lss 32 (Kq 0))],[Rq 34 (.pick 21 33 (.const (.bool false)))]])
 (.cond 34
 (.skip)
 (.exit 2)))
 (.seq (.block 3
 (.dreg [[],[Rq 39 (.mkm),Rq 40 (.mkm),Rq 41 (.mkm)],[Rq 37 (.mv 0),Rq 38 (.mv 9),Rq 39 (.mv 0),Rq 40 (.mv 9),Rq 41 (.bin .sub 40 (Kq 1)),Rq 42 (.mv 0),Rq 43 (.mv 9),Rq 44 (.bin .sub 43 (Kq 1)),Rq 45 (.idxA 5 42 44),Rq 46 (.load true 5 45),Rq 47 (.mv 0),Rq 48 (.mv 9),Rq 49 (.idxA 5 47 48),Rq 50 (.load true 5 49),Rq 51 (.idxA 5 37 38),Sq 5 51 46],[Rq 52 (.idxA 5 39 41)],[Sq 5 52 50]]))
 (.reg [Rq 35 (.mv 9),Rq 36 (.bin .sub 35 (Kq 1)),Rq 9 (.mv 36)])))))))
 (.reg [Rq 15 (.mv 8),Rq 16 (.bin .add 15 (Kq 1)),Rq 8 (.mv 16)])))))
theorem ck_slices_insertionSortCmpFunc_api_Member : chkFun Tryz.prog 166 4 = some (rc_slices_insertionSortCmpFunc_api_Member, []) := by kernel_rfl
end Go.Proofs.YtkclokmfomnbgaaGreat
namespace Go.Proofs.YtkclokmfomnbgaaGreat
open Go.RowKit Pl
set_option linter.unusedVariables false
theorem mwithin_fun (n a b : Int) : Fun Tryz.prog 192 [.c (.v (.int .i64 n)), .c (.v (.int .i64 a)), .c (.v (.int .i64 b))] [.c (.v (.bool (wi n a b)))] := by
 refine fun_x ck_member_within rfl ?_
 refine G0 ?_
 (refine bIf_of (fun h => ?_) (fun h => ?_) <;> rw [h])
 ·refine G0 ?_
  rw [wi_t h]
  (exact ⟨[], aI⟩)
 ·refine G0 ?_
  rw [wi_f h]
  (exact ⟨[], aI⟩)
theorem mone_fun (m : Mb) (hm : m.ok) : Fun Tryz.prog 160 [.c (.agg m.row)] [.c (.v (.int .i64 m.err))] := by
 refine fun_x ck_member_one rfl ?_
 refine G1 ?_; intro gg
 (refine .inl ⟨_, _, false, [], aI, label_fun _ hm, nobor, nI, ?_⟩)
 refine G1 ?_; intro gg
 (refine bIf_of (fun h1 => ?_) (fun h1 => ?_) <;> rw [h1])
 ·refine G0 ?_
  (rw [show m.err = 1 from by (first | (simp_all ; done) | (unfold Mb.err; simp_all))]; (exact ⟨[], aI⟩))
 ·refine G0 ?_
  (refine .inl ⟨_, _, false, [], aI, mwithin_fun _ _ _, nobor, nI, ?_⟩)
  refine G1 ?_; intro gg
  (refine bIf_of (fun h2 => ?_) (fun h2 => ?_) <;> rw [h2])
  ·refine G0 ?_
   (rw [show m.err = 7 from by (first | (simp_all ; done) | (unfold Mb.err; simp_all))]; (exact ⟨[], aI⟩))
  ·refine G0 ?_
   (refine .inl ⟨_, _, false, [], aI, mwithin_fun _ _ _, nobor, nI, ?_⟩)
   refine G1 ?_; intro gg
   (refine bIf_of (fun h3 => ?_) (fun h3 => ?_) <;> rw [h3])
   ·refine G0 ?_
    (rw [show m.err = 3 from by (first | (simp_all ; done) | (unfold Mb.err; simp_all))]; (exact ⟨[], aI⟩))
   ·refine G0 ?_
    (refine .inl ⟨_, _, false, [], aI, mwithin_fun _ _ _, nobor, nI, ?_⟩)
    refine G1 ?_; intro gg
    (refine bIf_of (fun h4 => ?_) (fun h4 => ?_) <;> rw [h4])
    ·refine G0 ?_
     (rw [show m.err = 3 from by (first | (simp_all ; done) | (unfold Mb.err; simp_all))]; (exact ⟨[], aI⟩))
    ·refine G0 ?_
     (rw [show m.err = 0 from by (first | (simp_all ; done) | (unfold Mb.err; simp_all))]; (exact ⟨[], aI⟩))
theorem rone_fun (m : Mb) (hm : m.ok) : Fun Tryz.prog 112 [.c (.agg m.row)] [.c (.v (.int .i64 m.err))] := by
 refine fun_x ck_hearsayref_OneMember rfl ?_
 refine G1 ?_; intro gg
 (refine .inl ⟨_, _, false, [], aI, rlabel_fun _ hm, nobor, nI, ?_⟩)
 refine G1 ?_; intro gg
 (refine bIf_of (fun h1 => ?_) (fun h1 => ?_) <;> rw [h1])
 ·refine G0 ?_
  (rw [show m.err = 1 from by (first | (simp_all ; done) | (unfold Mb.err; simp_all))]; (exact ⟨[], aI⟩))
 ·refine G0 ?_
  (refine .inl ⟨_, _, false, [], aI, between_fun _ _ _, nobor, nI, ?_⟩)
  refine G1 ?_; intro gg
  (refine bIf_of (fun h2 => ?_) (fun h2 => ?_) <;> rw [h2])
  ·refine G0 ?_
   (rw [show m.err = 7 from by (first | (simp_all ; done) | (unfold Mb.err; simp_all))]; (exact ⟨[], aI⟩))
  ·refine G0 ?_
   (refine .inl ⟨_, _, false, [], aI, between_fun _ _ _, nobor, nI, ?_⟩)
   refine G1 ?_; intro gg
   (refine bIf_of (fun h3 => ?_) (fun h3 => ?_) <;> rw [h3])
   ·refine G0 ?_
    (rw [show m.err = 3 from by (first | (simp_all ; done) | (unfold Mb.err; simp_all))]; (exact ⟨[], aI⟩))
   ·refine G0 ?_
    (refine .inl ⟨_, _, false, [], aI, address_fun _, nobor, nI, ?_⟩)
    refine G1 ?_; intro gg
    (refine bIf_of (fun h4 => ?_) (fun h4 => ?_) <;> rw [h4])
    ·refine G0 ?_
     (rw [show m.err = 3 from by (first | (simp_all ; done) | (unfold Mb.err; simp_all))]; (exact ⟨[], aI⟩))
    ·refine G0 ?_
     (rw [show m.err = 0 from by (first | (simp_all ; done) | (unfold Mb.err; simp_all))]; (exact ⟨[], aI⟩))
theorem mnumber_fun (b : Bool) : Fun Tryz.prog 163 [.c (.v (.bool b))] [.c (.v (.int .i64 (b2i b)))] := by
 refine fun_x ck_member_number rfl ?_
 refine G0 ?_
 (refine bIf_of (fun h => ?_) (fun h => ?_) <;> rw [h])
 ·refine G0 ?_
  (exact ⟨[], aI⟩)
 ·refine G0 ?_
  (exact ⟨[], aI⟩)
theorem mcmp_fun (g x : Mb) : Fun Tryz.prog 111 [.c (.agg g.row), .c (.agg x.row)] [.c (.v (.int .i64 (Mb.cmp g x)))] := by
 refine fun_x ck_member_Compare rfl ?_
 (refine goI ?_; repeat (intro gg; refine goI ?_))
 (refine ⟨_, _, false, aI, cmpi_fun _ _, nobor, nI, ?_⟩)
 refine G1 ?_; intro gg
 (refine ⟨_, _, false, aI, cmpi_fun _ _, nobor, nI, ?_⟩)
 refine G1 ?_; intro gg
 (refine ⟨_, _, false, aI, cmpi_fun _ _, nobor, nI, ?_⟩)
 refine G1 ?_; intro gg
 (refine ⟨_, _, false, aI, mnumber_fun _, nobor, nI, ?_⟩)
 refine G1 ?_; intro gg
 (refine .inl ⟨_, _, false, [], aI, mnumber_fun _, nobor, nI, ?_⟩)
 refine G1 ?_; intro gg
 (refine .inl ⟨_, _, false, [], aI, cmpi_fun _ _, nobor, nI, ?_⟩)
 (refine goI ?_; repeat (intro gg; refine goI ?_))
 (refine .inl ⟨_, _, true, [], aI, or_fun false [icmp g.lf x.lf, icmp g.st x.st, icmp g.ad x.ad, icmp (b2i g.sv) (b2i x.sv)] (by simp), (fun _ => fI), nI, ?_⟩)
 refine G1 ?_; intro gg
 (exact ⟨[], aI⟩)
theorem rnewer_fun (g x : Mb) : Fun Tryz.prog 58 [.c (.agg g.row), .c (.agg x.row)] [.c (.v (.bool (Mb.nw g x)))] := by
 refine fun_x ck_hearsayref_NewerMember rfl ?_
 (refine goI ?_; repeat (intro gg; refine goI ?_))
 (refine bIf_of (fun h1 => ?_) (fun h1 => ?_) <;> rw [h1])
 ·refine G0 ?_
  rw [show Mb.nw g x = decide (x.lf < g.lf) from nz_ne h1]
  (exact ⟨[], aI⟩)
 ·have e1 : Mb.nw g x = decide (0 < firstNZ [icmp g.st x.st, icmp g.ad x.ad, icmp (b2i g.sv) (b2i x.sv)]) := by unfold Mb.nw Mb.cmp; rw [nz_eq h1]
  refine G0 ?_
  (refine bIf_of (fun h2 => ?_) (fun h2 => ?_) <;> rw [h2])
  ·refine G0 ?_
   rw [e1, nz_ne h2]
   (exact ⟨[], aI⟩)
  ·rw [nz_eq h2] at e1
   refine G0 ?_
   (refine bIf_of (fun h3 => ?_) (fun h3 => ?_) <;> rw [h3])
   ·refine G0 ?_
    rw [e1, nz_ne h3]
    (exact ⟨[], aI⟩)
   ·rw [nz_eq h3, nzb_last] at e1
    refine G0 ?_
    (refine bIf_of (fun h4 => ?_) (fun h4 => ?_) <;> rw [h4])
    ·refine G0 ?_
     rw [e1, h4, Bool.true_and]
     (exact ⟨[], aI⟩)
    ·refine G0 ?_
     rw [e1, h4, Bool.false_and]
     (exact ⟨[], aI⟩)
end Go.Proofs.YtkclokmfomnbgaaGreat
namespace Go.Proofs.YtkclokmfomnbgaaGreat
open Go.RowKit
set_option linter.unusedVariables false
section
variable {α : Type} {enc : α → List Value} {sz : Nat} {w w' : World} {A : Option Addr} {l : List α}
def RL (enc : α → List Value) (sz : Nat) (w : World) (A : Option Addr) (l : List α) : Prop :=
 0 < l.length → ∃ b off, A = some ⟨b, off, none⟩ ∧ b < w.heap.size ∧ ∀ i, (h : i < l.length) → ∀ j u, (enc l[i])[j]? = some u → w.cell? ⟨b, off + i * sz + j, none⟩ = some u
theorem RL.nil : RL enc sz w A [] := fun h => absurd h (by simp)
theorem RL.at_ (h : RL enc sz w A l) {k : Nat} (hk : k < l.length) : ∃ b off, A = some ⟨b, off, none⟩ ∧ b < w.heap.size ∧ ∀ j u, (enc l[k])[j]? = some u → w.cell? ⟨b, off + k * sz + j, none⟩ = some u := by
 obtain ⟨b, off, hA, hb, hc⟩ := h (by omega)
 exact ⟨b, off, hA, hb, hc k hk⟩
theorem own_mono {w : World} {base base' : Nat} {e : TypeId} {v : Value} {n : Nat} {xs : List Value} (h : w.ownsRow base e sz v n xs) (hb : base' ≤ base) : w.ownsRow base' e sz v n xs := by
 obtain ⟨h1, h2⟩ := h
 refine ⟨h1, ?_⟩
 rcases h2 with h2 | ⟨g, cap, cur, hv, hg, r⟩
 ·exact .inl h2
 ·exact .inr ⟨g, cap, cur, hv, by omega, r⟩
end
end Go.Proofs.YtkclokmfomnbgaaGreat
namespace Go.Proofs.YtkclokmfomnbgaaGreat
open Go.RowKit
set_option linter.unusedVariables false
section
variable {P : Program}
theorem run_copyN (w : World) (dT sT ty elem : TypeId) (sz : Nat) (g o dLen dCap : Nat) (a : Addr) (sLen sCap : Nat) (cur : Array Value) (t : TypeId) (cs : List Value)
  (hu : P.underlying dT = some (.slice elem)) (hs : (P.info? elem).map (·.size) = some sz)
  (hg : w.heap[g]? = some (.cells cur t (0, 0))) (hn : cs.length = Nat.min sLen dLen * sz)
  (hsrc : ∀ j v, cs[j]? = some v → w.cell? (a.add j) = some v) (hfit : o + cs.length ≤ cur.size) (h1 : ∀ v ∈ cs, v.oneCell' = true) :
  (Builtin.copy_ #[dT, sT] ty #[.slice (some ⟨g, o, none⟩) dLen dCap, .slice (some a) sLen sCap]).run P w =
   .ok (goInt (Nat.min sLen dLen)) (w.setRow g (splice cur.toList o cs).toArray) := by
 have hl := run_loadCells_list (P := P) w a cs hsrc
 have hst := run_storeCells_at P g o t cs 0 cur w hg (by simpa using hfit) h1
 rw [hn] at hl
 cases hq : P.info? elem with
 | none => simp [hq] at hs
 | some i =>
  have hi : i.size = sz := by simpa [hq] using hs
  simp only [Builtin.copy_, Builtin.lenOf, Builtin.firstCells, sizeOf, typeInfo]
  simp [run_underlying hu, hq, hi, hl, hst, splice]
theorem wp_copyN {w : World} {o : Oper} {a : Act} {K : Act → World → Prop} {Q : Exit → Act → World → Prop} (d s : Operand) (dT sT : TypeId)
  (ho : o.op = .call { callee := .builtin .copy, args := #[d, s], argTypes := #[dT, sT] }) (elem : TypeId) (sz : Nat) (hu : P.underlying dT = some (.slice elem)) (hsz : (P.info? elem).map (·.size) = some sz)
  (g off dLen dCap : Nat) (ad : Addr) (sLen sCap : Nat) (hd : a.eval d = .slice (some ⟨g, off, none⟩) dLen dCap) (hs : a.eval s = .slice (some ad) sLen sCap)
  (cur : Array Value) (t : TypeId) (hg : Blk w g t cur) (cs : List Value) (hn : cs.length = Nat.min sLen dLen * sz)
  (hsrc : ∀ j v, cs[j]? = some v → w.cell? (ad.add j) = some v) (hfit : off + cs.length ≤ cur.size) (h1 : ∀ v ∈ cs, v.oneCell' = true)
  (h : ∀ w', Blk w' g t (splice cur.toList off cs).toArray → w.grownBy w' (some g) → w.drawn ≤ w'.drawn → K (a.put o.dst (goInt (Nat.min sLen dLen))) w') : o.wp P a w K Q := by
 have hrun := run_copyN (P := P) w dT sT o.type elem sz g off dLen dCap ad sLen sCap cur t cs hu hsz hg hn hsrc hfit h1
 unfold Oper.wp
 simp [execOp, ho, resolve, invoke, builtin, hd, hs, hrun, Result.andThen]
 refine h _ ?_ ⟨rfl, rfl, rfl, by simp [World.setRow], fun k hk hne => setRow_other w g k _ (fun e => hne (by rw [e]))⟩ (Nat.le_refl _)
 exact setRow_heap w g _ _ t _ hg
theorem wpList_copyN {w : World} {ops : Array Oper} {rest : List Oper} {o : Oper} {a : Act} {Q : Exit → Act → World → Prop} (hgd : o.guard = none) (d s : Operand) (dT sT : TypeId)
  (ho : o.op = .call { callee := .builtin .copy, args := #[d, s], argTypes := #[dT, sT] }) (elem : TypeId) (sz : Nat) (hu : P.underlying dT = some (.slice elem)) (hsz : (P.info? elem).map (·.size) = some sz)
  (g off dLen dCap : Nat) (ad : Addr) (sLen sCap : Nat) (hd : a.eval d = .slice (some ⟨g, off, none⟩) dLen dCap) (hs : a.eval s = .slice (some ad) sLen sCap)
  (cur : Array Value) (t : TypeId) (hg : Blk w g t cur) (cs : List Value) (hn : cs.length = Nat.min sLen dLen * sz)
  (hsrc : ∀ j v, cs[j]? = some v → w.cell? (ad.add j) = some v) (hfit : off + cs.length ≤ cur.size) (h1 : ∀ v ∈ cs, v.oneCell' = true)
  (h : ∀ w', Blk w' g t (splice cur.toList off cs).toArray → w.grownBy w' (some g) → w.drawn ≤ w'.drawn → wpList P ops Q rest (a.put o.dst (goInt (Nat.min sLen dLen))) w') : wpList P ops Q (o :: rest) a w :=
 wpList_plain hgd fun _ hK => wp_copyN d s dT sT ho elem sz hu hsz g off dLen dCap ad sLen sCap hd hs cur t hg cs hn hsrc hfit h1 fun w' hb hw hd => hK _ _ (h w' hb hw hd)
theorem ownsRow_zero {w : World} {base : Nat} {e : TypeId} {size : Nat} {v : Value} {n : Nat} {xs : List Value} (h : w.ownsRow base e size v n xs) : w.ownsRow 0 e size v n xs := by
 refine ⟨h.1, ?_⟩
 rcases h.2 with q | ⟨g, cap, cur, hv, hg, r⟩
 ·exact .inl q
 ·exact .inr ⟨g, cap, cur, hv, Nat.zero_le _, r⟩
theorem wpList_appD (w : World) {ops : Array Oper} {rest : List Oper} {o : Oper} {a : Act} {Q : Exit → Act → World → Prop} (hgd : o.guard = none) (s x : Operand) (t : TypeId)
  (ho : o.op = .call { callee := .builtin .append, args := #[s, x], argTypes := #[t, t] })
  (base : Nat) (e : TypeId) (i : TypeInfo) (z : Value) (size bytes : Nat) (ht : P.underlying t = some (.slice e)) (hi : P.info? e = some i) (hz : i.zero = some z)
  (hsize : i.size = size) (hby : i.bytes = bytes) (hzs : z.cells.size = size) (hsz : 0 < size)
  (v : Value) (n : Nat) (xs : List Value) (hs : a.eval s = v) (hown : w.ownsRow base e size v n xs)
  (ad : Addr) (m c : Nat) (news : List Value) (hx : a.eval x = .slice (some ad) m c) (hl : news.length = m * size) (hnews : ∀ j u, news[j]? = some u → w.cell? (ad.add j) = some u) (h1 : ∀ u ∈ news, u.oneCell' = true)
  (h63 : n + m ≤ maxLen) (hbytes : (n + m) * bytes ≤ 140737488355328) (hbase : base ≤ w.heap.size)
  (h : ∀ v' w', w'.ownsRow base e size v' (n + m) (xs ++ news) → w.grownBy w' v.ownBlock → w.drawn ≤ w'.drawn → (v'.ownBlock = v.ownBlock ∨ v'.ownBlock = some w.heap.size) → wpList P ops Q rest (a.put o.dst v') w') :
  wpList P ops Q (o :: rest) a w := by
 refine wpList_plain hgd fun K hK => ?_
 obtain ⟨v', w', hr, h2, h3, h4, h5⟩ := run_append_own_at (P := P) w base t o.type e i z size bytes ht hi hz hsize hby hzs hsz v n xs hown ad m c news hl hnews h1 h63 hbytes hbase
 subst hsize hby
 have hd := app_own_drawn w t o.type e i z ht hi hz hsz (ownsRow_zero hown) ad m c news hl hnews h1 h63 hbytes hr
 rw [← hs, ← hx] at hr
 exact wp_value (run_app ho rfl rfl rfl hr) (hK _ _ (h v' w' h2 h3 hd h5))
theorem step_copyN {w : World} {ops : Array Oper} {o : Oper} {a : Act} {K : Act → World → Prop} {Q : Exit → Act → World → Prop} {E : Prop} (hgd : o.guard = none) (d s : Operand) (dT sT : TypeId)
  (ho : o.op = .call { callee := .builtin .copy, args := #[d, s], argTypes := #[dT, sT] }) (elem : TypeId) (sz : Nat) (hu : P.underlying dT = some (.slice elem)) (hsz : (P.info? elem).map (·.size) = some sz)
  (g off dLen dCap : Nat) (ad : Addr) (sLen sCap : Nat) (hd : a.eval d = .slice (some ⟨g, off, none⟩) dLen dCap) (hs : a.eval s = .slice (some ad) sLen sCap)
  (cur : Array Value) (t : TypeId) (hg : Blk w g t cur) (cs : List Value) (hn : cs.length = Nat.min sLen dLen * sz)
  (hsrc : ∀ j v, cs[j]? = some v → w.cell? (ad.add j) = some v) (hfit : off + cs.length ≤ cur.size) (h1 : ∀ v ∈ cs, v.oneCell' = true)
  (h : ∀ w', Blk w' g t (splice cur.toList off cs).toArray → w.grownBy w' (some g) → w.drawn ≤ w'.drawn → K (a.put o.dst (goInt (Nat.min sLen dLen))) w') :
  if Region.wanted o (yielded ops a.tmps) = true then Oper.wp P o a w K Q else E := by
 have hw : Region.wanted o (yielded ops a.tmps) = true := by simp [Region.wanted, hgd]
 rw [if_pos hw]
 exact wp_copyN d s dT sT ho elem sz hu hsz g off dLen dCap ad sLen sCap hd hs cur t hg cs hn hsrc hfit h1 h
end
theorem cell_lt {w : World} {a : Addr} {v : Value} (h : w.cell? a = some v) : a.block < w.heap.size := World.block_lt_of_cell? w _ h
theorem own_form {w : World} {base : Nat} {e : TypeId} {size : Nat} {v : Value} {n : Nat} {xs : List Value} (h : w.ownsRow base e size v n xs) : ∃ A c, v = .slice A n c := by
 rcases h.2 with ⟨rfl, rfl⟩ | ⟨g, cap, cur, rfl, _⟩
 ·exact ⟨_, _, rfl⟩
 ·exact ⟨_, _, rfl⟩
theorem own_base {w : World} {base : Nat} {e : TypeId} {size : Nat} {v : Value} {n : Nat} {xs : List Value} (h : w.ownsRow base e size v n xs) : ∀ k, v.ownBlock = some k → base ≤ k := fun k hk => (h.lt k hk).1
theorem blk_drop {w : World} {g : Nat} {t : TypeId} {cur : Array Value} {n : Nat} {xs : List Value} (h : Blk w g t cur) (hx : cur.toList.take n = xs) (p : Nat) :
  ∀ j v, (xs.drop p)[j]? = some v → w.cell? ((⟨g, p, none⟩ : Addr).add j) = some v := fun j v hj => by
 have e : (⟨g, p, none⟩ : Addr).add j = ⟨g, p + j, none⟩ := by unfold Addr.add; split <;> simp_all
 rw [e, h.cell]
 rw [List.getElem?_drop, ← hx] at hj
 have hlt : p + j < n := by
  have := (List.getElem?_eq_some_iff.1 hj).1
  rw [List.length_take] at this; omega
 rw [List.getElem?_take_of_lt hlt] at hj
 simpa using hj
def LB (A : Option Addr) (b : Nat) : Prop := ∃ a, A = some a ∧ a.block = b
theorem lb_of {A : Option Addr} {n c k : Nat} (h : (Value.slice A n c).ownBlock = some k) : LB A k := by
 cases A with
 | none => cases h
 | some a => exact ⟨a, rfl, by simpa [Value.ownBlock] using h⟩
theorem inl_own {w a : World} {base : Nat} {e : TypeId} {size : Nat} {v : Value} {n : Nat} {xs : List Value} {L : Nat → Prop} (h : w.ownsRow base e size v n xs) (hL : ∀ k, v.ownBlock = some k → L k) : ∀ k, v.ownBlock = some k → L k ∨ a.heap.size ≤ k := fun k hk => .inl (hL k hk)
theorem Fr.drew {L : Nat → Prop} {a w : World} (h : Fr L a w) : Fr L a w.drew := ⟨h.os, h.tape, h.output, h.size, h.block, Nat.le_succ_of_le h.drawn⟩
theorem Fr.alloc {L : Nat → Prop} {a w : World} (h : Fr L a w) (o : Obj) : Fr L a (w.alloc o) := h.grown (World.grownBy_alloc w o none) (by simp) (Nat.le_refl _)
theorem blk_at {w : World} {g : Nat} {t : TypeId} {cur : Array Value} {n : Nat} {xs : List Value} (h : Blk w g t cur) (hx : cur.toList.take n = xs) : ∀ j v, xs[j]? = some v → w.cell? ((⟨g, 0, none⟩ : Addr).add j) = some v := fun j v hj => blk_drop h hx 0 j v (by rwa [List.drop_zero])
theorem splice_room {α : Type} (cur xs vs : List α) (p n : Nat) (hx : cur.take n = xs) (hn : n ≤ cur.length) (hp : p ≤ n) (hr : n + vs.length ≤ cur.length) :
  (splice (splice cur (p + vs.length) (xs.drop p)) p vs).take (n + vs.length) = xs.take p ++ vs ++ xs.drop p := by
 have hxl : xs.length = n := by rw [← hx, List.length_take]; omega
 have e0 : cur.take p = xs.take p := by rw [← hx, List.take_take, Nat.min_eq_left hp]
 unfold splice
 have hA : ((cur.take (p + vs.length) ++ (xs.drop p ++ cur.drop (p + vs.length + (xs.drop p).length))).take p) = xs.take p := by
  rw [List.take_append_of_le_length (by rw [List.length_take]; omega), List.take_take, Nat.min_eq_left (by omega), e0]
 have hB : ((cur.take (p + vs.length) ++ (xs.drop p ++ cur.drop (p + vs.length + (xs.drop p).length))).drop (p + vs.length)) = xs.drop p ++ cur.drop (p + vs.length + (xs.drop p).length) := by
  have hlen : (cur.take (p + vs.length)).length = p + vs.length := by rw [List.length_take]; omega
  conv => lhs; arg 1; rw [← hlen]
  rw [List.drop_left]
 rw [hA, hB, ← List.append_assoc, ← List.append_assoc]
 rw [List.take_append_of_le_length (by simp; omega)]
 exact List.take_of_length_le (by simp; omega)
theorem splice_new {α : Type} (Z xs vs : List α) (p n : Nat) (hz : Z.take p = xs.take p) (hxl : xs.length = n) (hp : p ≤ n) (hr : n + vs.length ≤ Z.length) :
  (splice (splice Z p vs) (p + vs.length) (xs.drop p)).take (n + vs.length) = xs.take p ++ vs ++ xs.drop p := by
 unfold splice
 have hpl : p ≤ Z.length := by omega
 have hA : ((Z.take p ++ (vs ++ Z.drop (p + vs.length))).take (p + vs.length)) = xs.take p ++ vs := by
  rw [← List.append_assoc, List.take_append_of_le_length (by simp; omega), hz]
  exact List.take_of_length_le (by simp; omega)
 rw [hA, ← List.append_assoc, List.take_append_of_le_length (by simp; omega)]
 exact List.take_of_length_le (by simp; omega)
end Go.Proofs.YtkclokmfomnbgaaGreat
namespace Go.Proofs.YtkclokmfomnbgaaGreat
open Go.RowKit
set_option linter.unusedVariables false
theorem infoMb : (Tryz.prog.info? 37).map (fun i => (i.zero, i.size, i.bytes)) = some (some (.agg #[.string ⟨#[]⟩, .int .i64 0, .int .i64 0, .int .i64 0, .bool false]), 5, 48) := by kernel_rfl
theorem cellsMb : (Tryz.prog.info? 37).map (·.size) = some 5 := by kernel_rfl
theorem sizeMb : ∀ w, (Go.sizeOf 37).run Tryz.prog w = .ok 5 w := by
 intro w
 obtain ⟨i0, hi0, hz0, hzs, hzb⟩ := info_parts infoMb
 simp [sizeOf, typeInfo, hi0, hzs]
theorem insMb_over (vb g : Nat) (vc lb cb off : Nat) (vs cur : Array Value) (w : World) (hv : Blk w vb 37 vs) (hg : Blk w g 37 cur) (hne : vb ≠ g) (hcur : cur.size ≠ 0) :
  (callFunc 216 #[.slice (some ⟨vb, 0, none⟩) 1 vc, .slice (some ⟨g, off, none⟩) lb cb]).run Tryz.prog w = .ok (.value (.bool false)) w := by
 rw [run_callFunc_extern Tryz.func216 (by kernel_rfl) (by kernel_rfl) (by kernel_rfl) (e := Extern.SlicesOverlaps.overlaps #[22, 22] #[4]) (by kernel_rfl),
  Lib.run_overlaps_apart w 22 4 37 Tryz.underlying22 5 sizeMb ⟨vb, 0, none⟩ ⟨g, off, none⟩ 1 vc lb cb hne 37 37 vs.size cur.size
   (by unfold Blk at hv; simp [World.shape?, hv]) (by unfold Blk at hg; simp [World.shape?, hg]) hcur (hv.frozen _) (hv.frozen _)]
 rfl
def InsMb (L : Nat → Prop) (base n i : Nat) (xs vs : List Value) (w : World) (e : Ending) (w' : World) : Prop :=
 ∃ A' c', e = .returned (.slice A' (n + 1) c') ∧ w'.ownsRow base 37 5 (.slice A' (n + 1) c') (n + 1) (xs.take (i * 5) ++ vs ++ xs.drop (i * 5)) ∧ Fr L w w' ∧ ∀ k, (Value.slice A' (n + 1) c').ownBlock = some k → L k ∨ w.heap.size ≤ k
set_option maxHeartbeats 1000000 in
set_option maxRecDepth 100000 in
theorem insMb_end (base : Nat) (A : Option Addr) (n c : Nat) (xs : List Value) (vb vc : Nat) (vcur : Array Value) (vs : List Value) (w : World) (hown : w.ownsRow base 37 5 (.slice A n c) n xs) (hbase : base ≤ w.heap.size)
  (hn : n ≤ 1000) (hv : Blk w vb 37 vcur) (hvc : vcur.toList.take 5 = vs) (hvl : vs.length = 5) (h1 : ∀ v ∈ vs, v.oneCell' = true) :
  Calls Tryz.prog 206 #[.slice A n c, .int .i64 n, .slice (some ⟨vb, 0, none⟩) 1 vc] w (InsMb (LB A) base n n xs vs w) := by
 obtain ⟨i0, hi0, hz0, hzs, hzb⟩ := info_parts infoMb
 have hnc : n ≤ c ∧ c ≤ 9223372036854775807 := by
  rcases hown.2 with ⟨hv, hz⟩ | ⟨g, cap, cur, hv, _, _, h, h', _⟩
  ·injection hv; omega
  ·injection hv with _ _ e; subst e; exact ⟨h, h'⟩
 obtain ⟨hnc, hc63⟩ := hnc
 have hxs : xs.length = n * 5 := hown.1
 have HXS := hid hxs
 have HVL := hid hvl
 have HV := hid hv
 have HO := hid hown
 have HZ0 := hid hz0
 have HZS := hid hzs
 have HZB := hid hzb
 have HI0 := hid hi0
 clear hxs hvl hv hown hz0 hzs hzb hi0
 have hnn : ((n : Int) == (n : Int)) = true := by simp
 go_enter Tryz.func206, Tryz.ntmps206
 go_wp2_with (at_builtin; refine wpList_appD _ rfl _ _ 22 rfl base 37 i0 _ 5 48 Tryz.underlying22 HI0.out HZ0.out HZS.out HZB.out rfl (by decide) _ _ _ rfl HO.out ⟨vb, 0, none⟩ 1 vc vs rfl (by simpa using HVL.out) (blk_at HV.out hvc) h1 (by simp only [maxLen]; omega) (by omega) hbase ?_; intro v1 w1 hown1 hg1 hd1 hat1)
 all_goals go_ret
 all_goals
  obtain ⟨A', c', rfl⟩ := own_form hown1
  refine ⟨A', c', rfl, ?_, (Fr.refl _ _).grown hg1 (inl_own HO.out (fun k hk => lb_of (n := n) (c := c) hk)) hd1, fun k hk => ?_⟩
  rotate_left
  ·rcases hat1 with h | h
   ·exact .inl (lb_of (n := n) (c := c) (h.symm.trans hk))
   ·have := h.symm.trans hk
    injection this with this
    exact .inr (by omega)
  rw [List.take_of_length_le (by have := HXS.out; omega), List.drop_of_length_le (by have := HXS.out; omega), List.append_nil]
  exact hown1
set_option maxHeartbeats 2000000 in
set_option maxRecDepth 100000 in
theorem insMb_room (base g : Nat) (n c i : Nat) (cur : Array Value) (xs : List Value) (vb vc : Nat) (vcur : Array Value) (vs : List Value) (w : World) (hg : Blk w g 37 cur) (hbg : base ≤ g) (hcs : cur.size = c * 5) (hcx : cur.toList.take (n * 5) = xs)
  (hi : i < n) (hr : n + 1 ≤ c) (hc63 : c ≤ 9223372036854775807) (hn : n ≤ 1000) (hv : Blk w vb 37 vcur) (hvc : vcur.toList.take 5 = vs) (hne : vb ≠ g) (hvl : vs.length = 5) (h1 : ∀ v ∈ vs, v.oneCell' = true) (h1x : ∀ v ∈ xs, v.oneCell' = true) :
  Calls Tryz.prog 206 #[.slice (some ⟨g, 0, none⟩) n c, .int .i64 i, .slice (some ⟨vb, 0, none⟩) 1 vc] w (InsMb (LB (some ⟨g, 0, none⟩)) base n i xs vs w) := by
 have hcl : cur.toList.length = c * 5 := by rw [Array.length_toList]; exact hcs
 have hxl : xs.length = n * 5 := by rw [← hcx, List.length_take, hcl]; omega
 have hov : ∀ lb cb, (callFunc 216 #[.slice (some ⟨vb, 0, none⟩) 1 vc, .slice (some ⟨g, (i + 1) * 5, none⟩) lb cb]).run Tryz.prog w = .ok (.value (.bool false)) w := fun lb cb => insMb_over vb g vc lb cb ((i + 1) * 5) vcur cur w hv hg hne (by omega)
 have HB2 : Hid ((splice (splice cur.toList ((i + 1) * 5) (xs.drop (i * 5))) (i * 5) vs).take ((n + 1) * 5) = xs.take (i * 5) ++ vs ++ xs.drop (i * 5)) := by
  refine hid ?_
  have h := splice_room cur.toList xs vs (i * 5) (n * 5) hcx (by rw [hcl]; omega) (by omega) (by rw [hcl, hvl]; omega)
  rw [hvl] at h
  rw [Nat.add_mul, Nat.add_mul, Nat.one_mul]
  exact h
 have HC1 : Hid ((xs.drop (i * 5)).length = Nat.min (n + 1 - i) (n - i) * 5) := by
  refine hid ?_
  rw [List.length_drop, hxl, show Nat.min (n + 1 - i) (n - i) = n - i from Nat.min_eq_right (by omega), Nat.sub_mul]
 have HC2 := hid (fun j v (hj : (xs.drop (i * 5))[j]? = some v) => blk_drop hg.drew hcx (i * 5) j v hj)
 have HC3 : Hid ((i + 1) * 5 + (xs.drop (i * 5)).length ≤ cur.size) := hid (by rw [List.length_drop]; omega)
 have HC3' : Hid ((i + 1) * 5 + (xs.drop (i * 5)).length ≤ cur.toList.length) := hid (by rw [List.length_drop, hcl]; omega)
 have HC4 := hid (fun v (hv : v ∈ xs.drop (i * 5)) => h1x v (List.mem_of_mem_drop hv))
 have HC5 : Hid (vs.length = Nat.min 1 (n + 1 - i) * 5) := by
  refine hid ?_
  rw [hvl, show Nat.min 1 (n + 1 - i) = 1 from Nat.min_eq_left (by omega)]
 have HC6 : Hid (i * 5 + vs.length ≤ (splice cur.toList ((i + 1) * 5) (xs.drop (i * 5))).toArray.size) := by
  refine hid ?_
  rw [List.size_toArray, length_splice _ _ _ (by rw [hcl, ← hcs]; exact HC3.out), hcl, hvl]
  omega
 have HXL := hid hxl
 have HVL := hid hvl
 have HG := hid hg
 have HV := hid hv
 have HCS := hid hcs
 have HNE := hid hne
 have HCX := hid hcx
 clear hxl hvl hg hv hcs hne hcx
 have hw1 : IntKind.i64.wrap ((i : Int) + 1) = (i : Int) + 1 := by rw [IntWalk.i64_in _ (by omega)]
 have hb1 : (0 : Int) ≤ (i : Int) + 1 := by omega
 have htn : ((i : Int) + 1).toNat = i + 1 := by omega
 have hb3 : (i : Int) ≤ (n : Int) + 1 := by omega
 have hb4 : (i : Int) + 1 ≤ (n : Int) + 1 := by omega
 have hb5 : (i : Int) ≤ (n : Int) := by omega
 have hb6 : ¬ c = i := by omega
 have hb7 : ¬ c = i + 1 := by omega
 have hb8 : ((i : Int) == (n : Int)) = false := by simp; omega
 go_enter Tryz.func206, Tryz.ntmps206
 go_wp2_with (simp only [hov])
 go_region_law (refine step_copyN rfl (.tmp 73) (.tmp 76) 22 22 rfl 37 5 Tryz.underlying22 cellsMb g ((i + 1) * 5) (n - i) (c - (i + 1)) ⟨g, i * 5, none⟩ (n + 1 - i) (c - i) (by simp [Act.eval, Act.put]) (by simp [Act.eval, Act.put]) cur 37 HG.out.drew (xs.drop (i * 5)) HC1.out HC2.out HC3.out HC4.out ?_; intro w1 hk1 hg1 hd1)
 have HK1 := hid hk1
 have HG1 := hid hg1
 have HV1 := hid (HV.out.drew.grown hg1 (fun e => HNE.out (by injection e)))
 clear hk1 hg1
 go_wp2_with (refine wpList_copyN rfl (.tmp 80) (.tmp 81) 22 22 rfl 37 5 Tryz.underlying22 cellsMb g (i * 5) (n + 1 - i) (c - i) ⟨vb, 0, none⟩ 1 vc (by simp [Act.eval]) (by simp [Act.eval]) _ 37 HK1.out vs HC5.out (blk_at HV1.out hvc) HC6.out h1 ?_; intro w2 hk2 hg2 hd2)
 go_ret
 refine ⟨_, _, rfl, ⟨?_, .inr ⟨g, c, _, rfl, hbg, hk2, by omega, by simpa [maxLen] using hc63, ?_, ?_⟩⟩, ?_, fun k hk => .inl ⟨_, rfl, by injection hk with hk⟩⟩
 ·simp only [List.length_append, List.length_take, List.length_drop]
  have := HXL.out; have := HVL.out
  omega
 ·have h1 := length_splice cur.toList ((i + 1) * 5) (xs.drop (i * 5)) HC3'.out
  have h2 := length_splice (splice cur.toList ((i + 1) * 5) (xs.drop (i * 5))) (i * 5) vs (by simpa using HC6.out)
  rw [List.size_toArray, List.toList_toArray, h2, h1]
  simpa using HCS.out
 ·rw [List.toList_toArray, List.toList_toArray]
  exact HB2.out
 ·have hlt := HG.out.lt
  exact ((Fr.refl _ w).drew.grown HG1.out (fun k hk => .inl (⟨_, rfl, by injection hk with hk⟩)) hd1).grown hg2 (fun k hk => .inl (⟨_, rfl, by injection hk with hk⟩)) hd2
set_option maxHeartbeats 2000000 in
set_option maxRecDepth 100000 in
theorem insMb_grow (base g : Nat) (n c i : Nat) (cur : Array Value) (xs : List Value) (vb vc : Nat) (vcur : Array Value) (vs : List Value) (w : World) (hg : Blk w g 37 cur) (hbase : base ≤ w.heap.size) (hcs : cur.size = c * 5) (hcx : cur.toList.take (n * 5) = xs)
    (hi : i < n) (hnc : n ≤ c) (hr : c < n + 1) (hn : n ≤ 1000) (hv : Blk w vb 37 vcur) (hvc : vcur.toList.take 5 = vs) (hvl : vs.length = 5) (h1 : ∀ v ∈ vs, v.oneCell' = true) (h1x : ∀ v ∈ xs, v.oneCell' = true) :
    Calls Tryz.prog 206 #[.slice (some ⟨g, 0, none⟩) n c, .int .i64 i, .slice (some ⟨vb, 0, none⟩) 1 vc] w (InsMb (LB (some ⟨g, 0, none⟩)) base n i xs vs w) := by
  obtain ⟨i0, hi0, hz0, hzs, hzb⟩ := info_parts infoMb
  have hcl : cur.toList.length = c * 5 := by rw [Array.length_toList]; exact hcs
  have hxl : xs.length = n * 5 := by rw [← hcx, List.length_take, hcl]; omega
  have hold : (Builtin.firstCells i0.size i (.slice (some ⟨g, 0, none⟩) i c)).run Tryz.prog w.drew = .ok (xs.take (i * 5)).toArray w.drew := by
    rw [hzs]
    exact run_firstCells_some w.drew 5 i ⟨g, 0, none⟩ i c (xs.take (i * 5)) (by rw [List.length_take]; omega) (fun j v hj => by
      have hj' : (xs.drop 0)[j]? = some v := by
        rw [List.drop_zero]
        rw [List.getElem?_take] at hj
        split at hj
        · exact hj
        · cases hj
      exact blk_drop hg.drew hcx 0 j v hj')
  have hkk : (n : Int) + 1 - (i : Int) = ((n + 1 - i : Nat) : Int) := by omega
  have hik : i + (n + 1 - i) = n + 1 := by omega
  obtain ⟨G, hG⟩ : ∃ G, G = grownCap w (n + 1) c 37 := ⟨_, rfl⟩
  have hGn : n + 1 ≤ G := by rw [hG]; exact grownCap_ge w _ _ _
  have hG63 : G ≤ 9223372036854775807 := by
    have := grownCap_le_maxLen w (n + 1) c 37 (by unfold maxLen; omega)
    rw [← hG] at this
    unfold maxLen at this
    omega
  obtain ⟨ROW, hROW⟩ : ∃ ROW : Array Value, ROW = (xs.take (i * 5)).toArray ++ Builtin.zeroCells (Value.agg #[.string ⟨#[]⟩, .int .i64 0, .int .i64 0, .int .i64 0, .bool false]).cells (n + 1 - i) ++ Builtin.zeroCells (Value.agg #[.string ⟨#[]⟩, .int .i64 0, .int .i64 0, .int .i64 0, .bool false]).cells (G - (n + 1)) := ⟨_, rfl⟩
  have hrz : ∀ ty, (Builtin.append_ #[22, 3] ty #[.slice (some ⟨g, 0, none⟩) i c, .int .i64 ((n : Int) + 1 - (i : Int))]).run Tryz.prog w =
      .ok (.slice (some ⟨w.heap.size, 0, none⟩) (n + 1) G) (w.drew.alloc (.cells ROW 37)) := fun ty => by
    have h := Lib.run_append_grow_zeros w 22 3 ty 37 i0 _ .i64 .i64 Tryz.underlying22 Tryz.underlying3 hi0 hz0 (some ⟨g, 0, none⟩) i c (xs.take (i * 5)) hold (n + 1 - i) (by omega) (by omega) (by omega) (by omega) (by rw [hzb]; omega) (by rw [hzb, hik]; exact growslice_fits hr (by omega))
    rw [hik] at h
    rw [hkk, hROW, hG]
    exact h
  have hRs : ROW.size = G * 5 := by
    rw [hROW]
    simp [Builtin.zeroCells, Value.cells]
    omega
  have hRl : ROW.toList.length = G * 5 := by rw [Array.length_toList]; exact hRs
  have hRt : ROW.toList.take (i * 5) = xs.take (i * 5) := by
    rw [hROW, Array.toList_append, Array.toList_append, List.append_assoc, List.take_append_of_le_length (by simp; omega), List.toList_toArray, List.take_take, Nat.min_self]
  have HB2 : Hid ((splice (splice ROW.toList (i * 5) vs) ((i + 1) * 5) (xs.drop (i * 5))).take ((n + 1) * 5) = xs.take (i * 5) ++ vs ++ xs.drop (i * 5)) := by
    refine hid ?_
    have h := splice_new ROW.toList xs vs (i * 5) (n * 5) hRt hxl (by omega) (by rw [hRl, hvl]; omega)
    rw [hvl] at h
    rw [Nat.add_mul, Nat.add_mul, Nat.one_mul]
    exact h
  have hgl := hg.lt
  have hvlt := hv.lt
  have HN := hid (Blk.new_ w.drew 37 ROW (g := w.heap.size) rfl)
  have HV := hid ((hv.drew).alloc (.cells ROW 37))
  have HG0 := hid ((hg.drew).alloc (.cells ROW 37))
  have HC1 : Hid (vs.length = Nat.min 1 (n + 1 - i) * 5) := by
    refine hid ?_
    rw [hvl, show Nat.min 1 (n + 1 - i) = 1 from Nat.min_eq_left (by omega)]
  have HC2 : Hid (i * 5 + vs.length ≤ ROW.size) := hid (by rw [hRs, hvl]; omega)
  have HC2' : Hid (i * 5 + vs.length ≤ ROW.toList.length) := hid (by rw [hRl, hvl]; omega)
  have HC3 : Hid ((xs.drop (i * 5)).length = Nat.min (n - i) (n - i) * 5) := by
    refine hid ?_
    rw [List.length_drop, hxl, show Nat.min (n - i) (n - i) = n - i from Nat.min_self _, Nat.sub_mul]
  have HC4 : Hid ((i + 1) * 5 + (xs.drop (i * 5)).length ≤ (splice ROW.toList (i * 5) vs).toArray.size) := by
    refine hid ?_
    rw [List.size_toArray, length_splice _ _ _ HC2'.out, hRl, List.length_drop]
    omega
  have HC5 := hid (fun v (hv : v ∈ xs.drop (i * 5)) => h1x v (List.mem_of_mem_drop hv))
  have HRL := hid hRl
  have HXL := hid hxl
  have HVL := hid hvl
  have HCX := hid hcx
  have HRS := hid hRs
  have HNE : Hid (w.heap.size ≠ g) := hid (by omega)
  have HNV : Hid (w.heap.size ≠ vb) := hid (by omega)
  clear hRl hxl hvl hcx hRs hold hi0 hz0 hzs hzb hkk hik hROW hG hg hv hcs hcl hRt
  have hw1 : IntKind.i64.wrap ((i : Int) + 1) = (i : Int) + 1 := by rw [IntWalk.i64_in _ (by omega)]
  have hb1 : (0 : Int) ≤ (i : Int) + 1 := by omega
  have htn : ((i : Int) + 1).toNat = i + 1 := by omega
  have hb3 : (i : Int) ≤ (n : Int) + 1 := by omega
  have hb4 : (i : Int) + 1 ≤ (n : Int) + 1 := by omega
  have hb5 : (i : Int) ≤ (n : Int) := by omega
  have hb6 : ¬ c = i := by omega
  have hb7 : ¬ G = i + 1 := by omega
  have hb9 : ¬ G = i := by omega
  have hb8 : ((i : Int) == (n : Int)) = false := by simp; omega
  go_enter Tryz.func206, Tryz.ntmps206
  go_wp2_with (first
    | (at_builtin; refine Lib.wpList_append_run _ rfl _ _ _ _ rfl _ _ rfl rfl _ _ (hrz _) ?_; clear hrz)
    | (refine wpList_copyN rfl (.tmp 43) (.tmp 44) 22 22 rfl 37 5 Tryz.underlying22 cellsMb w.heap.size (i * 5) (n + 1 - i) (G - i) ⟨vb, 0, none⟩ 1 vc (by simp [Act.eval]) (by simp [Act.eval]) ROW 37 HN.out.drew vs HC1.out (blk_at HV.out.drew hvc) HC2.out h1 ?_; intro w1 hk1 hg1 hd1))
  have HK1 := hid hk1
  have HG1 := hid hg1
  have HG0' := hid ((show Blk (w.alloc (.cells ROW 37)).drew g 37 cur from HG0.out).grown hg1 (fun e => HNE.out (by injection e with e; exact e.symm)))
  have HC2a := hid (fun j v (hj : (xs.drop (i * 5))[j]? = some v) => blk_drop HG0'.out.drew HCX.out (i * 5) j v hj)
  clear hk1 hg1
  go_region_law (refine step_copyN rfl (.tmp 50) (.tmp 53) 22 22 rfl 37 5 Tryz.underlying22 cellsMb w.heap.size ((i + 1) * 5) (n - i) (G - (i + 1)) ⟨g, i * 5, none⟩ (n - i) (c - i) (by simp [Act.eval, Act.put]) (by simp [Act.eval, Act.put]) _ 37 HK1.out.drew (xs.drop (i * 5)) HC3.out HC2a.out HC4.out HC5.out ?_; intro w2 hk2 hg2 hd2)
  have HK2 := hid hk2
  have HG2 := hid hg2
  clear hk2 hg2
  go_wp2
  go_ret
  refine ⟨_, _, rfl, ⟨?_, .inr ⟨w.heap.size, G, _, rfl, hbase, HK2.out, hGn, by simpa [maxLen] using hG63, ?_, ?_⟩⟩, ?_, fun k hk => .inr (Nat.le_of_eq (show w.heap.size = k by injection hk))⟩
  · simp only [List.length_append, List.length_take, List.length_drop]
    have := HXL.out; have := HVL.out
    omega
  · have h1 := length_splice ROW.toList (i * 5) vs HC2'.out
    have h2 := length_splice (splice ROW.toList (i * 5) vs) ((i + 1) * 5) (xs.drop (i * 5)) (by simpa using HC4.out)
    rw [List.size_toArray, List.toList_toArray, h2, h1]
    simpa using HRS.out
  · rw [List.toList_toArray, List.toList_toArray]
    exact HB2.out
  · exact ((((Fr.refl _ w).alloc _).drew.grown HG1.out (fun k hk => .inr (by injection hk with hk; omega)) hd1).drew).grown HG2.out (fun k hk => .inr (by injection hk with hk; omega)) hd2
theorem insMb_any (base : Nat) (A : Option Addr) (n c i : Nat) (xs : List Value) (vb vc : Nat) (vcur : Array Value) (vs : List Value) (w : World) (hown : w.ownsRow base 37 5 (.slice A n c) n xs) (hbase : base ≤ w.heap.size)
  (hi : i ≤ n) (hn : n ≤ 1000) (hv : Blk w vb 37 vcur) (hvc : vcur.toList.take 5 = vs) (hne : (Value.slice A n c).ownBlock ≠ some vb) (hvl : vs.length = 5) (h1 : ∀ v ∈ vs, v.oneCell' = true) (h1x : ∀ v ∈ xs, v.oneCell' = true) :
  Calls Tryz.prog 206 #[.slice A n c, .int .i64 i, .slice (some ⟨vb, 0, none⟩) 1 vc] w (InsMb (LB A) base n i xs vs w) := by
 by_cases hin : i = n
 ·subst hin
  exact insMb_end base A i c xs vb vc vcur vs w hown hbase hn hv hvc hvl h1
 ·obtain ⟨hl, h2⟩ := hown
  rcases h2 with ⟨_, h0⟩ | ⟨g, cap, cur, hA, hbg, hh, hnc, hm, hsz, htk⟩
  ·omega
  ·injection hA with hA _ hcap
   subst hA; subst hcap
   have hne' : vb ≠ g := fun e => hne (by subst e; rfl)
   by_cases hr : n + 1 ≤ c
   ·exact insMb_room base g n c i cur xs vb vc vcur vs w hh hbg hsz htk (by omega) hr (by simpa [maxLen] using hm) hn hv hvc hne' hvl h1 h1x
   ·exact insMb_grow base g n c i cur xs vb vc vcur vs w hh hbase hsz htk (by omega) hnc (by omega) hn hv hvc hvl h1 h1x
end Go.Proofs.YtkclokmfomnbgaaGreat
namespace Go.Proofs.YtkclokmfomnbgaaGreat
open Go.RowKit
set_option linter.unusedVariables false
def ClnMb (base n : Nat) (xs : List Value) (w : World) (e : Ending) (w' : World) : Prop :=
 ∃ A' c', e = .returned (.slice A' n c') ∧ w'.ownsRow base 37 5 (.slice A' n c') n xs ∧ Below base w w' ∧ w.drawn ≤ w'.drawn
set_option maxRecDepth 100000 in
theorem clnMb_any (A : Option Addr) (n c : Nat) (xs : List Value) (w : World) (hA : A = none → n = 0) (hn : n ≤ 1000) (hxl : xs.length = n * 5) (hx : ∀ ad, A = some ad → ∀ j u, xs[j]? = some u → w.cell? (ad.add j) = some u) (h1 : ∀ v ∈ xs, v.oneCell' = true) :
  Calls Tryz.prog 115 #[.slice A n c] w (ClnMb w.heap.size n xs w) := by
 obtain ⟨i0, hi0, hz0, hzs, hzb⟩ := info_parts infoMb
 cases A with
 | none =>
  obtain rfl := hA rfl
  obtain rfl : xs = [] := List.eq_nil_of_length_eq_zero (by simpa using hxl)
  clear hx hxl hi0 hz0 hzs hzb h1
  have hnl := fun (w : World) => Lib.run_eql_slice_nil (P := Tryz.prog) w 22 37 none 0 c 0 0 Tryz.underlying22
  go_enter Tryz.func115, Tryz.ntmps115
  go_wp2
  go_ret
  exact ⟨none, 0, rfl, World.ownsRow_nil _ _ _ _, Below.refl _ _, Nat.le_refl _⟩
 | some ad =>
  have HX := hid (hx ad rfl)
  have HXL := hid hxl
  have HZ0 := hid hz0
  have HZS := hid hzs
  have HZB := hid hzb
  have HI0 := hid hi0
  clear hx hxl hA hi0 hz0 hzs hzb
  have hnl := fun (w : World) => Lib.run_eql_slice_nil (P := Tryz.prog) w 22 37 (some ad) n c 0 0 Tryz.underlying22
  go_enter Tryz.func115, Tryz.ntmps115
  have hown0 : (w.alloc (.cells #[] 37)).ownsRow w.heap.size 37 5 (.slice (some ⟨w.heap.size, 0, none⟩) 0 0) 0 [] :=
   ⟨by simp, .inr ⟨w.heap.size, 0, #[], rfl, Nat.le_refl _, heap_alloc_new w _, by omega, by simp [maxLen], by simp, by simp⟩⟩
  have HO := hid hown0
  have HX1 := hid (fun j u (hj : xs[j]? = some u) => (World.cell?_alloc_lt w (.cells #[] 37) (ad.add j) (cell_lt (HX.out j u hj))).trans (HX.out j u hj))
  clear hown0
  go_wp2_with (at_builtin; refine wpList_appD _ rfl _ _ 22 rfl w.heap.size 37 i0 _ 5 48 Tryz.underlying22 HI0.out HZ0.out HZS.out HZB.out rfl (by decide) _ _ _ rfl HO.out ad n c xs rfl HXL.out HX1.out h1 (by simp only [maxLen]; omega) (by omega) (by simp) ?_; intro v1 w1 hown1 hg1 hd1 hat1)
  go_ret
  rw [Nat.zero_add, List.nil_append] at hown1
  obtain ⟨A', c', rfl⟩ := own_form hown1
  exact ⟨A', c', rfl, hown1, ((Below.refl _ _).alloc (Nat.le_refl _) _).grown hg1 (by simp) (own_base HO.out), hd1⟩
end Go.Proofs.YtkclokmfomnbgaaGreat
namespace Go.Proofs.YtkclokmfomnbgaaGreat
open Go.RowKit
set_option linter.unusedVariables false
section
variable {α : Type} {enc : α → List Value} {sz : Nat} {w w' : World} {R : Nat → Prop}
theorem Fr.imp {L L' : Nat → Prop} (h : Fr L w w') (hl : ∀ k, L k → L' k) : Fr L' w w' := ⟨h.os, h.tape, h.output, h.size, fun k hk hn => h.block k hk fun hl' => hn (hl k hl'), h.drawn⟩
theorem pars_one {u : V} {xs : List Value} (hp : Pars w R [.c u] xs) : ∃ v, xs = [v] ∧ RV w R noG u v := by
 have hl := hp.len
 match xs, hl with
 | [v], _ => exact ⟨v, rfl, hp.ok 0 _ _ rfl rfl⟩
theorem sl_cells (he : ∀ x, (enc x).length = sz) {cl : Bool} {l : List α} {v : Value} (h : RV w R noG (.sl cl (l.map fun x => (enc x).map .v)) v) :
  ∃ A c, v = .slice A l.length c ∧ (A = none → l.length = 0) ∧ ∀ ad, A = some ad → ∀ j u, (l.flatMap enc)[j]? = some u → w.cell? (ad.add j) = some u := by
 generalize hrows : (l.map fun x => (enc x).map V.v) = rows at h
 cases h with
 | nil _ a cap hc =>
  obtain rfl : l = [] := by simpa using hrows
  exact ⟨a, cap, rfl, fun _ => rfl, fun ad _ j u hu => by simp at hu⟩
 | sl _ _ b off cap sz' f hR hcap hclip hs hcell hh =>
  have hlen : rows.length = l.length := by rw [← hrows]; simp
  rw [hlen]
  refine ⟨some ⟨b, off, none⟩, cap, rfl, (by intro h; cases h), fun ad had j u hu => ?_⟩
  injection had with had; subst had
  rw [add_full _ _ rfl]
  have hj : j < l.length * sz := by
   have := (List.getElem?_eq_some_iff.1 hu).1
   rwa [flat_len he] at this
  have hsz : 0 < sz := by rcases Nat.eq_zero_or_pos sz with h | h; (subst h; omega); exact h
  have hd : j / sz < l.length := Nat.div_lt_of_lt_mul (by rw [Nat.mul_comm]; exact hj)
  have hm : j % sz < sz := Nat.mod_lt _ hsz
  have e2 : j = j / sz * sz + j % sz := by rw [Nat.mul_comm]; exact (Nat.div_add_mod j sz).symm
  have hrow : rows[j / sz]? = some ((enc l[j / sz]).map V.v) := by rw [← hrows]; simp [hd]
  have hsz' : sz' = sz := by rw [← hs _ (List.mem_of_getElem? hrow)]; simp [he]
  subst hsz'
  rw [e2, flat_get he (j / sz') (j % sz') hd hm] at hu
  have hu' : ((enc l[j / sz']).map V.v)[j % sz']? = some (.v u) := by rw [List.getElem?_map, hu]; rfl
  have h1 := hcell _ _ _ _ hrow hu'
  have h2 := rv_v (hh _ _ _ _ hrow hu')
  rw [h2] at h1
  show w.cell? ⟨b, off + j, none⟩ = some u
  rw [e2, ← Nat.add_assoc]; exact h1
theorem rowsR_flat (he : ∀ x, (enc x).length = sz) (h1 : ∀ x, ∀ v ∈ enc x, v.oneCell' = true) (l : List α) : RowsR w R noG (l.flatMap enc) sz (l.map fun x => (enc x).map V.v) := by
 refine ⟨fun row hr => ?_, fun i j row u g1 g2 => ?_⟩
 ·obtain ⟨x, _, rfl⟩ := List.mem_map.1 hr
  simp [he]
 ·have hi : i < l.length := by have := (List.getElem?_eq_some_iff.1 g1).1; simpa using this
  have e : row = (enc l[i]).map V.v := by simp [hi] at g1; exact g1.symm
  subst e
  rw [List.getElem?_map] at g2
  cases hq : (enc l[i])[j]? with
  | none => rw [hq] at g2; cases g2
  | some y =>
   rw [hq] at g2
   simp at g2; subst g2
   have hj : j < sz := by rw [← he l[i]]; exact (List.getElem?_eq_some_iff.1 hq).1
   exact ⟨y, by rw [flat_get he i j hi hj]; exact hq, h1 _ y (List.mem_of_getElem? hq), .v y⟩
theorem rowsR_inv (he : ∀ x, (enc x).length = sz) {l : List α} {xs : List Value} (hl : xs.length = l.length * sz) (h : RowsR w R noG xs sz (l.map fun x => (enc x).map V.v)) : xs = l.flatMap enc := by
 apply List.ext_getElem?
 intro j
 by_cases hj : j < l.length * sz
 ·have hsz : 0 < sz := by rcases Nat.eq_zero_or_pos sz with h | h; (subst h; omega); exact h
  have hd : j / sz < l.length := Nat.div_lt_of_lt_mul (by rw [Nat.mul_comm]; exact hj)
  have hm : j % sz < sz := Nat.mod_lt _ hsz
  have e2 : j = j / sz * sz + j % sz := by rw [Nat.mul_comm]; exact (Nat.div_add_mod j sz).symm
  have hrow : (l.map fun x => (enc x).map V.v)[j / sz]? = some ((enc l[j / sz]).map V.v) := by simp [hd]
  have hy : (enc l[j / sz])[j % sz]? = some ((enc l[j / sz])[j % sz]'(by rw [he]; exact hm)) := List.getElem?_eq_getElem (by rw [he]; exact hm)
  obtain ⟨x, h1, _, h2⟩ := h.2 (j / sz) (j % sz) _ _ hrow (by rw [List.getElem?_map, hy]; rfl)
  rw [rv_v h2] at h1
  rw [e2, h1, flat_get he _ _ hd hm, hy]
 ·rw [List.getElem?_eq_none (by omega), List.getElem?_eq_none (by rw [flat_len he]; omega)]
theorem flat_ins (he : ∀ x, (enc x).length = sz) (l : List α) (x : α) (i : Nat) : (l.flatMap enc).take (i * sz) ++ enc x ++ (l.flatMap enc).drop (i * sz) = (l.take i ++ [x] ++ l.drop i).flatMap enc := by
 have h : ∀ (i : Nat) (l : List α), (l.flatMap enc).take (i * sz) = (l.take i).flatMap enc ∧ (l.flatMap enc).drop (i * sz) = (l.drop i).flatMap enc := by
  intro i
  induction i with
  | zero => intro l; simp
  | succ i ih =>
   intro l
   cases l with
   | nil => simp
   | cons y l =>
    have hy := he y
    have := ih l
    rw [List.flatMap_cons, Nat.add_mul, Nat.one_mul]
    constructor
    ·rw [List.take_append, hy, List.take_of_length_le (by rw [hy]; omega), show i * sz + sz - sz = i * sz by omega, this.1, List.take_succ_cons, List.flatMap_cons]
    ·rw [List.drop_append, hy, List.drop_of_length_le (by rw [hy]; omega), show i * sz + sz - sz = i * sz by omega, this.2, List.drop_succ_cons, List.nil_append]
 rw [(h i l).1, (h i l).2]
 simp
theorem own_result {T : TypeId} {base : Nat} (he : ∀ x, (enc x).length = sz) (h1 : ∀ x, ∀ v ∈ enc x, v.oneCell' = true) (hsz : 0 < sz) {l : List α} {A : Option Addr} {c : Nat} {L : Nat → Prop} (hlt : ∀ b, R b → b < w.heap.size)
  (hown : w'.ownsRow base T sz (.slice A l.length c) l.length (l.flatMap enc)) (hfr : Fr L w w') (hk : ∀ k, (Value.slice A l.length c).ownBlock = some k → L k ∨ w.heap.size ≤ k) (hn : ∀ k, (Value.slice A l.length c).ownBlock = some k → ¬ R k) :
  ∃ (ys : List Value) (R' : Nat → Prop), Ending.returned (.slice A l.length c) = .returned (packV ys) ∧ Fr L w w' ∧ (∀ b, R b → R' b) ∧
   (∀ b, R' b → R b ∨ (b < w'.heap.size ∧ (L b ∨ w.heap.size ≤ b))) ∧ Pars w' R' [.o T sz (l.map fun x => (enc x).map V.v)] ys ∧ (∀ b, ParBlk [.o T sz (l.map fun x => (enc x).map V.v)] ys b → L b ∨ w.heap.size ≤ b) := by
 have hpb : ∀ b, ParBlk [.o T sz (l.map fun x => (enc x).map V.v)] [.slice A l.length c] b → (Value.slice A l.length c).ownBlock = some b := by
  rintro b ⟨i, T', sz', rows', x, g1, g2, g3⟩
  cases i with
  | zero => simp at g2; subst g2; exact g3
  | succ i => simp at g1
 refine ⟨[.slice A l.length c], R, rfl, hfr, fun _ h => h, fun b h => .inl h, ⟨rfl, ?_, ?_, ?_⟩, fun b hb => hk b (hpb b hb)⟩
 ·intro i p x g1 g2
  cases i with
  | zero =>
   simp at g1 g2; subst g1 g2
   exact ⟨hsz, _, by rw [List.length_map]; exact own_mono hown (Nat.zero_le _), rowsR_flat he h1 l⟩
  | succ i => simp at g1
 ·intro i j T1 sz1 rows1 T2 sz2 rows2 x y b hij g1 g2
  cases i with
  | zero => cases j with
   | zero => exact absurd rfl hij
   | succ j => simp at g2
  | succ i => simp at g1
 ·intro b hb; exact hn b (hpb b hb)
theorem pars_ins {T : TypeId} (he : ∀ x, (enc x).length = sz) {l : List α} {x : α} {z : Value} {xs : List Value} (hp : Pars w R [.o T sz (l.map fun x => (enc x).map V.v), .c (.v z), .o T sz [(enc x).map V.v]] xs) :
  ∃ v0 v2, xs = [v0, z, v2] ∧ w.ownsRow 0 T sz v0 l.length (l.flatMap enc) ∧ w.ownsRow 0 T sz v2 1 (enc x) ∧ (∀ b, v0.ownBlock = some b → v2.ownBlock ≠ some b) ∧ ∀ b, ParBlk [.o T sz (l.map fun x => (enc x).map V.v), .c (.v z), .o T sz [(enc x).map V.v]] xs b → ¬ R b := by
 have hl := hp.len
 match xs, hl with
 | [v0, v1, v2], _ =>
  obtain ⟨_, x0, h0, h0'⟩ := hp.ok 0 _ _ rfl rfl
  have h1 : RV w R noG (.v z) v1 := hp.ok 1 _ _ rfl rfl
  obtain ⟨_, x2, h2, h2'⟩ := hp.ok 2 _ _ rfl rfl
  obtain rfl := rv_v h1
  rw [List.length_map] at h0
  obtain rfl := rowsR_inv he h0.1 h0'
  have h2'' : RowsR w R noG x2 sz ([x].map fun x => (enc x).map V.v) := h2'
  have e2 := rowsR_inv he (l := [x]) h2.1 h2''
  simp only [List.flatMap_cons, List.flatMap_nil, List.append_nil] at e2
  rw [e2] at h2
  exact ⟨v0, v2, rfl, h0, h2, fun b g1 g2 => hp.apart 0 2 _ _ _ _ _ _ _ _ b (by omega) rfl rfl rfl rfl g1 g2, hp.free⟩
end
end Go.Proofs.YtkclokmfomnbgaaGreat
namespace Go.Proofs.YtkclokmfomnbgaaGreat
open Go.RowKit
set_option linter.unusedVariables false
theorem cloneMb_fun {α : Type} (enc : α → List Value) (he : ∀ x, (enc x).length = 5) (h1 : ∀ x, ∀ v ∈ enc x, v.oneCell' = true) (cl : Bool) (l : List α) (hl : l.length ≤ 1000) :
  Fun Tryz.prog 115 [.c (.sl cl (l.map fun x => (enc x).map .v))] [.o 37 5 (l.map fun x => (enc x).map .v)] := by
 refine ⟨callable Tryz.func115 (by kernel_rfl) (by kernel_rfl), fun w R xs hlt hp => ?_⟩
 obtain ⟨v, rfl, hv⟩ := pars_one hp
 obtain ⟨A, c, rfl, hA, hx⟩ := sl_cells he hv
 have hone : ∀ v ∈ l.flatMap enc, v.oneCell' = true := fun v hv => by
  obtain ⟨g, _, hg⟩ := List.mem_flatMap.1 hv
  exact h1 g v hg
 refine (clnMb_any A l.length c (l.flatMap enc) w hA hl (flat_len he l) hx hone).mono ?_
 rintro e w' ⟨A', c', rfl, hown, hb, hd⟩
 exact own_result he h1 (by decide) hlt hown (fr_of_below hb hd) (fun k hk => .inr (own_base hown k hk)) (fun k hk => by have := own_base hown k hk; intro h; have := hlt k h; omega)
set_option maxHeartbeats 1000000 in
theorem insertMb_fun {α : Type} (enc : α → List Value) (he : ∀ x, (enc x).length = 5) (h1 : ∀ x, ∀ v ∈ enc x, v.oneCell' = true) (l : List α) (x : α) (i : Nat) (hi : i ≤ l.length) (hl : l.length ≤ 1000) :
  Fun Tryz.prog 206 [.o 37 5 (l.map fun x => (enc x).map .v), .c (.v (.int .i64 i)), .o 37 5 [(enc x).map .v]] [.o 37 5 ((l.take i ++ [x] ++ l.drop i).map fun x => (enc x).map .v)] := by
 refine ⟨callable Tryz.func206 (by kernel_rfl) (by kernel_rfl), fun w R xs hlt hp => ?_⟩
 obtain ⟨v0, v2, rfl, o0, o2, hap, hf0⟩ := pars_ins (enc := enc) he hp
 obtain ⟨A, c, rfl⟩ := own_form o0
 rcases o2.2 with ⟨_, h0⟩ | ⟨g, cap, cur, rfl, _, hh, hcap, _, hsz, htk⟩
 ·omega
 have hone : ∀ v ∈ l.flatMap enc, v.oneCell' = true := fun v hv => by
  obtain ⟨g, _, hg⟩ := List.mem_flatMap.1 hv
  exact h1 g v hg
 refine (insMb_any 0 A l.length c i (l.flatMap enc) g cap cur (enc x) w o0 (Nat.zero_le _) hi hl hh (by rw [Nat.one_mul] at htk; exact htk) (fun e => hap g e rfl) (he x) (h1 x) hone).mono ?_
 rintro e w' ⟨A', c', rfl, hown, hb, hk⟩
 rw [flat_ins he l x i, show l.length + 1 = (l.take i ++ [x] ++ l.drop i).length by simp; omega] at hown
 rw [show l.length + 1 = (l.take i ++ [x] ++ l.drop i).length by simp; omega] at hk ⊢
 have hL : ∀ k, LB A k → ParBlk [.o 37 5 (l.map fun x => (enc x).map .v), .c (.v (.int .i64 i)), .o 37 5 [(enc x).map .v]] [.slice A l.length c, .int .i64 i, .slice (some ⟨g, 0, none⟩) 1 cap] k := fun k ⟨a, ha, hq⟩ => ⟨0, _, _, _, _, rfl, rfl, by subst ha; simp only [Value.ownBlock]; rw [hq]⟩
 exact own_result he h1 (by decide) hlt hown (hb.imp hL) (fun k hk' => (hk k hk').imp (hL k) (fun h => h)) (fun k hk' => by
  rcases hk k hk' with h | h
  ·exact hf0 k (hL k h)
  ·intro h'; have := hlt k h'; omega)
end Go.Proofs.YtkclokmfomnbgaaGreat
namespace Go.Proofs.YtkclokmfomnbgaaGreat
open Go.RowKit Pl
set_option linter.unusedVariables false
theorem mEach_fun (c : Bool) (l : List Mb) (hl : l.length ≤ 9223372036854775807) (hw : ∀ m ∈ l, m.ok) : Fun Tryz.prog 159 [.c (.sl c (l.map Mb.row))] [.c (.v (.int .i64 (firstErr Mb.err l)))] := by
 refine fun_x ck_member_Each rfl ?_
 refine G0 ?_
 rw [List.length_map]
 (refine ⟨[], none, {k : Nat // k ≤ l.length ∧ ∀ j, (h : j < l.length) → j < k → (l[j]).err = 0}, [6, 7], fun ⟨k, hk, h0⟩ => [(8, .v (.int .i64 k))], [], fun ⟨k, hk, h0⟩ => [], fun ⟨k, hk, h0⟩ => l.length - k, trivial, fun _ => ⟨trivial, fun _ => ⟨⟨0, by omega, fun j _ h => by omega⟩, tI, keptE_refl _ _, tI, keptH_refl _ _⟩⟩, fun ⟨k, hk, h0⟩ => ?_⟩)
 refine G0 ?_
 (refine bIf_of (fun h => ?_) (fun h => ?_) <;> rw [h])
 ·have hlt : k < l.length := by simpa using h
  refine G0 ?_
  refine ⟨k, _, rfl, row_map hlt, ?_⟩
  refine G1 ?_; intro gg
  (refine .inl ⟨_, _, false, [], aI, mone_fun _ (hw _ (List.getElem_mem hlt)), nobor, nI, ?_⟩)
  refine G1 ?_; intro gg
  (refine bIf_of (fun h => ?_) (fun h => ?_) <;> rw [h])
  ·refine G0 ?_
   rw [firstErr_at hlt h0 (by simpa using h)]
   (exact ⟨[], aI⟩)
  ·refine G0 ?_
   (exact ⟨none, trivial, fun _ => ⟨⟨k + 1, by omega, up1 (p := fun j h => (l[j]).err = 0) h0 (fun _ => by simpa using h)⟩, by show l.length - (k + 1) < l.length - k; omega, tI, tI, tI, tI⟩⟩)
 ·have hge : ¬ k < l.length := by simpa using h
  refine G0 ?_
  rw [firstErr_zero (l := l) (fun i hi => h0 i hi (by omega))]
  (exact ⟨[], aI⟩)
def lsRow (l : List Mb) : List V := [.sl false (l.map Mb.row)]
theorem mcheck_fun (c : Bool) (ls : List (List Mb)) (hls : ls.length ≤ 9223372036854775807) (hl : ∀ l ∈ ls, l.length ≤ 9223372036854775807) (hw : ∀ l ∈ ls, ∀ m ∈ l, m.ok) : Fun Tryz.prog 101 [.c (.sl c (ls.map lsRow))] [.c (.v (.int .i64 (firstErr ckMb ls)))] := by
 refine fun_x ck_member_check rfl ?_
 refine G0 ?_
 rw [List.length_map]
 (refine ⟨[], none, {k : Nat // k ≤ ls.length ∧ ∀ j, (h : j < ls.length) → j < k → ckMb (ls[j]) = 0}, [7, 8], fun ⟨k, hk, h0⟩ => [(9, .v (.int .i64 k))], [], fun ⟨k, hk, h0⟩ => [], fun ⟨k, hk, h0⟩ => ls.length - k, trivial, fun _ => ⟨trivial, fun _ => ⟨⟨0, by omega, fun j _ h => by omega⟩, tI, keptE_refl _ _, tI, keptH_refl _ _⟩⟩, fun ⟨k, hk, h0⟩ => ?_⟩)
 refine G0 ?_
 (refine bIf_of (fun h => ?_) (fun h => ?_) <;> rw [h])
 ·have hlt : k < ls.length := by simpa using h
  refine G0 ?_
  refine ⟨k, _, rfl, row_map hlt, ?_⟩
  refine G0 ?_
  have HL := hl _ (List.getElem_mem hlt)
  have HW := hw _ (List.getElem_mem hlt)
  have HE := firstErr_at (e := ckMb) hlt h0
  have HN : ckMb ls[k] = 0 → ∀ j, (h : j < ls.length) → j < k + 1 → ckMb (ls[j]) = 0 := fun e => up1 (p := fun j h => ckMb (ls[j]) = 0) h0 (fun _ => e)
  generalize ls[k] = l at *
  rw [List.length_map]
  (refine bIf_of (fun h1 => ?_) (fun h1 => ?_) <;> rw [h1])
  ·refine G0 ?_
   have e : ckMb l = 2 := ckL_long (by have := of_decide_eq_true h1; omega)
   rw [HE (by rw [e]; decide), e]
   (exact ⟨[], aI⟩)
  ·have h1' : ¬ 20 < l.length := (by have := of_decide_eq_false h1; omega)
   refine G0 ?_
   (refine .inl ⟨_, _, false, [], aI, mEach_fun false l HL HW, nobor, nI, ?_⟩)
   refine G1 ?_; intro gg
   (refine bIf_of (fun h2 => ?_) (fun h2 => ?_) <;> rw [h2])
   ·have h2' : firstErr Mb.err l ≠ 0 := by simpa using h2
    refine G0 ?_
    have e : ckMb l = firstErr Mb.err l := ckL_each h1' h2'
    rw [HE (by rw [e]; exact h2'), e]
    (exact ⟨[], aI⟩)
   ·have h2' : firstErr Mb.err l = 0 := by simpa using h2
    refine G0 ?_
    (refine ⟨[], none, {k : Nat // (k < l.length ∨ k = 0) ∧ ∀ i, (h : i + 1 < l.length) → i < k → Mb.lt l[i] l[i + 1] = true}, [4, 7, 8, 9], fun ⟨q, hq, g0⟩ => [(6, .v (.int .i64 ((q : Int) + 1)))], [], fun ⟨q, hq, g0⟩ => [], fun ⟨q, hq, g0⟩ => l.length - q, trivial, fun _ => ⟨trivial, fun _ => ⟨⟨0, by omega, fun j _ h => by omega⟩, tI, keptE_refl _ _, tI, keptH_refl _ _⟩⟩, fun ⟨q, hq, g0⟩ => ?_⟩)
    refine G0 ?_
    rw [List.length_map]
    (refine bIf_of (fun h3 => ?_) (fun h3 => ?_) <;> rw [h3])
    ·have hlt3 : q + 1 < l.length := (by have := of_decide_eq_true h3; omega)
     refine G0 ?_
     refine ⟨q + 1, _, by omega, row_map hlt3, ?_⟩
     refine G0 ?_
     refine ⟨q, _, by omega, row_map (by omega), ?_⟩
     refine G0 ?_
     rw [sle_eq]
     (refine bIf_of (fun h4 => ?_) (fun h4 => ?_) <;> rw [h4])
     ·refine G0 ?_
      have e : ckMb l = 4 := ckL_no h1' h2' (sorted_not hlt3 (by simpa [Mb.lt] using h4))
      rw [HE (by rw [e]; decide), e]
      (exact ⟨[], aI⟩)
     ·refine G0 ?_
      (exact ⟨none, trivial, fun _ => ⟨⟨q + 1, by omega, up2 (p := fun i h => Mb.lt l[i] l[i + 1] = true) g0 (fun _ => by simpa [Mb.lt] using h4)⟩, by show l.length - (q + 1) < l.length - q; omega, tI, tI, tI, tI⟩⟩)
    ·have hge3 : ¬ q + 1 < l.length := (by have := of_decide_eq_false h3; omega)
     refine G0 ?_
     have e : ckMb l = 0 := ckL_yes h1' h2' (sorted_of fun i hi => g0 i hi (by omega))
     (exact ⟨none, trivial, fun _ => ⟨⟨k + 1, by omega, HN e⟩, by show ls.length - (k + 1) < ls.length - k; omega, tI, tI, tI, tI⟩⟩)
 ·have hge : ¬ k < ls.length := by simpa using h
  refine G0 ?_
  rw [firstErr_zero (l := ls) (fun i hi => h0 i hi (by omega))]
  (exact ⟨[], aI⟩)
theorem mCheck_fun (l : List Mb) (hl : l.length ≤ 9223372036854775807) (hw : ∀ m ∈ l, m.ok) : Fun Tryz.prog 43 [.c (.sl false (l.map Mb.row))] [.c (.v (.int .i64 (ckMb l)))] := by
 refine fun_x ck_member_Check rfl ?_
 refine G1 ?_; intro gg
 (refine .inl ⟨_, _, true, [], aI, mcheck_fun false [l] (by simp) (by simpa using hl) (by simpa using hw), (fun _ => fI), nI, ?_⟩)
 rw [firstErr_one]
 refine G1 ?_; intro gg
 (exact ⟨[], aI⟩)
theorem rcheck_fun (c : Bool) (l : List Mb) (hl : l.length ≤ 9223372036854775807) (hw : ∀ m ∈ l, m.ok) : Fun Tryz.prog 51 [.c (.sl c (l.map Mb.row))] [.c (.v (.int .i64 (ckMb l)))] := by
 refine fun_x ck_hearsayref_CheckMembers rfl ?_
 refine G0 ?_
 rw [List.length_map]
 (refine bIf_of (fun h1 => ?_) (fun h1 => ?_) <;> rw [h1])
 ·refine G0 ?_
  have e : ckMb l = 2 := ckL_long (by have := of_decide_eq_true h1; omega)
  rw [e]
  (exact ⟨[], aI⟩)
 ·have h1' : ¬ 20 < l.length := (by have := of_decide_eq_false h1; omega)
  refine G0 ?_
  (refine ⟨[], none, {k : Nat // k ≤ l.length ∧ ∀ j, (h : j < l.length) → j < k → (l[j]).err = 0}, [0], fun ⟨k, hk, h0⟩ => [(3, .v (.int .i64 k))], [], fun ⟨k, hk, h0⟩ => [], fun ⟨k, hk, h0⟩ => l.length - k, trivial, fun _ => ⟨trivial, fun _ => ⟨⟨0, by omega, fun j _ h => by omega⟩, tI, keptE_refl _ _, tI, keptH_refl _ _⟩⟩, fun ⟨k, hk, h0⟩ => ?_⟩)
  refine G0 ?_
  rw [List.length_map]
  (refine bIf_of (fun h => ?_) (fun h => ?_) <;> rw [h])
  ·have hlt : k < l.length := (by have := of_decide_eq_true h; omega)
   refine G0 ?_
   refine ⟨k, _, rfl, row_map hlt, ?_⟩
   refine G0 ?_
   (refine .inl ⟨_, _, false, [], aI, rone_fun _ (hw _ (List.getElem_mem hlt)), nobor, nI, ?_⟩)
   refine G1 ?_; intro gg
   (refine bIf_of (fun h2 => ?_) (fun h2 => ?_) <;> rw [h2])
   ·refine G0 ?_
    have h2' : (l[k]).err ≠ 0 := by simpa using h2
    have e0 := firstErr_at hlt h0 h2'
    have e : ckMb l = (l[k]).err := (ckL_each h1' (by rw [e0]; exact h2')).trans e0
    rw [e]
    (exact ⟨[], aI⟩)
   ·refine G0 ?_
    (exact ⟨none, trivial, fun _ => ⟨⟨k + 1, by omega, up1 (p := fun j h => (l[j]).err = 0) h0 (fun _ => by simpa using h2)⟩, by show l.length - (k + 1) < l.length - k; omega, tI, tI, tI, tI⟩⟩)
  ·have hge : ¬ k < l.length := (by have := of_decide_eq_false h; omega)
   have h2' : firstErr Mb.err l = 0 := firstErr_zero fun i hi => h0 i hi (by omega)
   refine G0 ?_
   (refine ⟨[], none, {k : Nat // (k < l.length ∨ k = 0) ∧ ∀ i, (h : i + 1 < l.length) → i < k → Mb.lt l[i] l[i + 1] = true}, [0], fun ⟨q, hq, g0⟩ => [(5, .v (.int .i64 ((q : Int) + 1)))], [], fun ⟨q, hq, g0⟩ => [], fun ⟨q, hq, g0⟩ => l.length - q, trivial, fun _ => ⟨trivial, fun _ => ⟨⟨0, by omega, fun j _ h => by omega⟩, tI, keptE_refl _ _, tI, keptH_refl _ _⟩⟩, fun ⟨q, hq, g0⟩ => ?_⟩)
   refine G0 ?_
   rw [List.length_map]
   (refine bIf_of (fun h3 => ?_) (fun h3 => ?_) <;> rw [h3])
   ·have hlt3 : q + 1 < l.length := (by have := of_decide_eq_true h3; omega)
    refine G0 ?_
    refine ⟨q + 1, _, by omega, row_map hlt3, ?_⟩
    refine G0 ?_
    refine ⟨q, _, by omega, row_map (by omega), ?_⟩
    refine G0 ?_
    rw [sle_eq]
    (refine bIf_of (fun h4 => ?_) (fun h4 => ?_) <;> rw [h4])
    ·refine G0 ?_
     have e : ckMb l = 4 := ckL_no h1' h2' (sorted_not hlt3 (by simpa [Mb.lt] using h4))
     rw [e]
     (exact ⟨[], aI⟩)
    ·refine G0 ?_
     (exact ⟨none, trivial, fun _ => ⟨⟨q + 1, by omega, up2 (p := fun i h => Mb.lt l[i] l[i + 1] = true) g0 (fun _ => by simpa [Mb.lt] using h4)⟩, by show l.length - (q + 1) < l.length - q; omega, tI, tI, tI, tI⟩⟩)
   ·have hge3 : ¬ q + 1 < l.length := (by have := of_decide_eq_false h3; omega)
    refine G0 ?_
    have e : ckMb l = 0 := ckL_yes h1' h2' (sorted_of fun i hi => g0 i hi (by omega))
    rw [e]
    (exact ⟨[], aI⟩)
theorem mcf_fun (g : Mb) (name : ByteArray) : Fun Tryz.prog 110 [.c (.agg g.row), .c (.v (.string name))] [.c (.v (.int .i64 (Mb.cf name g)))] := by
 refine fun_x ck_member_Find_1 rfl ?_
 refine G1 ?_; intro gg
 (refine .inl ⟨_, _, false, [], aI, cmps_fun _ _, nobor, nI, ?_⟩)
 refine G1 ?_; intro gg
 (exact ⟨[], aI⟩)
theorem mbs_fun (c : Bool) (l : List Mb) (name : ByteArray) (hl : l.length ≤ 1000) (hm : Mono (Mb.cf name) l) : Fun Tryz.prog 109 [.c (.sl c (l.map Mb.row)), .c (.v (.string name)), .c (.v (.func (.func 110) #[] #[]))] [.c (.v (.int .i64 (low (Mb.cf name) l))), .c (.v (.bool (hit (Mb.cf name) l)))] := by
 refine fun_x ck_slices_BinarySearchFunc_api_Member_api_Member_string rfl ?_
 refine G0 ?_
 rw [List.length_map]
 (refine ⟨[], none, {p : Nat × Nat // p.1 ≤ p.2 ∧ p.2 ≤ l.length ∧ (∀ k, (h : k < l.length) → k < p.1 → Mb.cf name l[k] < 0) ∧ (∀ k, (h : k < l.length) → p.2 ≤ k → 0 ≤ Mb.cf name l[k])}, [0, 1, 2, 8], fun ⟨⟨i, j⟩, h1, h2, h3, h4⟩ => [(9, .v (.int .i64 i)), (10, .v (.int .i64 j))], [], fun ⟨⟨i, j⟩, h1, h2, h3, h4⟩ => [], fun ⟨⟨i, j⟩, h1, h2, h3, h4⟩ => j - i, trivial, fun _ => ⟨trivial, fun _ => ⟨⟨(0, l.length), by omega, by omega, fun k _ h => absurd h (by omega), fun k h h' => absurd h (by omega)⟩, tI, keptE_refl _ _, tI, keptH_refl _ _⟩⟩, fun ⟨⟨i, j⟩, h1, h2, h3, h4⟩ => ?_⟩)
 dsimp only at h1 h2 h3 h4
 refine G0 ?_
 (refine bIf_of (fun h => ?_) (fun h => ?_) <;> rw [h])
 ·have hlt : i < j := (by have := of_decide_eq_true h; omega)
  have hk : (i + j) / 2 < l.length := by omega
  refine G0 ?_
  refine ⟨(i + j) / 2, _, by omega, row_map hk, ?_⟩
  refine G0 ?_
  (refine .inl ⟨_, _, false, [], aI, mcf_fun _ _, nobor, nI, ?_⟩)
  refine G1 ?_; intro gg
  (refine bIf_of (fun h5 => ?_) (fun h5 => ?_) <;> rw [h5])
  ·have h5' : Mb.cf name l[(i + j) / 2] < 0 := by simpa using h5
   refine G0 ?_
   (exact ⟨none, trivial, fun _ => ⟨⟨((i + j) / 2 + 1, j), by dsimp only; omega, h2, fun k hk' hka => hm k ((i + j) / 2) hk' hk (by dsimp only at hka; omega) h5', h4⟩, by show j - ((i + j) / 2 + 1) < j - i; omega, tI, tI, tI, tI⟩⟩)
  ·have h5' : ¬ Mb.cf name l[(i + j) / 2] < 0 := by simpa using h5
   refine G0 ?_
   (exact ⟨none, trivial, fun _ => ⟨⟨(i, (i + j) / 2), by dsimp only; omega, by dsimp only; omega, h3, fun k hk' hka => Int.not_lt.1 (fun h' => h5' (hm ((i + j) / 2) k hk hk' hka h'))⟩, by show (i + j) / 2 - i < j - i; omega, tI, tI, tI, tI⟩⟩)
 ·have hij : i = j := (by have := of_decide_eq_false h; omega)
  subst hij
  have HE := low_uniq (cf := Mb.cf name) h2 h3 h4
  refine G0 ?_
  (refine bIf_of (fun h5 => ?_) (fun h5 => ?_) <;> rw [h5])
  ·have hin : i < l.length := (by have := of_decide_eq_true h5; omega)
   have HH : hit (Mb.cf name) l = decide (Mb.cf name l[i] = 0) := by
    have hin' : low (Mb.cf name) l < l.length := by rw [← HE]; exact hin
    rw [hit_in hin']
    simp only [← HE]
   refine G0 ?_
   refine ⟨i, _, rfl, row_map hin, ?_⟩
   refine G0 ?_
   (refine .inl ⟨_, _, false, [], aI, mcf_fun _ _, nobor, nI, ?_⟩)
   refine G1 ?_; intro gg
   rw [← HE, HH]
   (exact ⟨[], aI⟩)
  ·have HH : hit (Mb.cf name) l = false := hit_out (by rw [← HE]; exact (by have := of_decide_eq_false h5; omega))
   refine G0 ?_
   rw [← HE, HH]
   (exact ⟨[], aI⟩)
theorem mfind_fun (c : Bool) (l : List Mb) (name : ByteArray) (hl : l.length ≤ 1000) (hm : Mono (Mb.cf name) l) : Fun Tryz.prog 49 [.c (.sl c (l.map Mb.row)), .c (.v (.string name))] [.c (.v (.int .i64 (low (Mb.cf name) l))), .c (.v (.bool (hit (Mb.cf name) l)))] := by
 refine fun_x ck_member_Find rfl ?_
 refine G0 ?_
 (refine .inl ⟨_, _, false, [], aI, mbs_fun c l name hl hm, nobor, nI, ?_⟩)
 refine G1 ?_; intro gg
 (exact ⟨[], aI⟩)
theorem at_fun (c : Bool) (l : List Mb) (name : ByteArray) (hl : l.length ≤ 9223372036854775807) : Fun Tryz.prog 57 [.c (.sl c (l.map Mb.row)), .c (.v (.string name))] [.c (.v (.int .i64 (at_ (Mb.is name) l)))] := by
 refine fun_x ck_hearsayref_MemberAt rfl ?_
 refine G0 ?_
 (refine ⟨[], none, {k : Nat // k ≤ l.length ∧ ∀ j, (h : j < l.length) → j < k → Mb.is name l[j] = false}, [0, 1], fun ⟨k, hk, h0⟩ => [(5, .v (.int .i64 k))], [], fun ⟨k, hk, h0⟩ => [], fun ⟨k, hk, h0⟩ => l.length - k, trivial, fun _ => ⟨trivial, fun _ => ⟨⟨0, by omega, fun j _ h => by omega⟩, tI, keptE_refl _ _, tI, keptH_refl _ _⟩⟩, fun ⟨k, hk, h0⟩ => ?_⟩)
 refine G0 ?_
 rw [List.length_map]
 (refine bIf_of (fun h => ?_) (fun h => ?_) <;> rw [h])
 ·have hlt : k < l.length := (by have := of_decide_eq_true h; omega)
  refine G0 ?_
  refine ⟨k, _, rfl, row_map hlt, ?_⟩
  refine G0 ?_
  (refine bIf_of (fun h2 => ?_) (fun h2 => ?_) <;> rw [h2])
  ·refine G0 ?_
   rw [at_yes hlt h0 h2]
   (exact ⟨[], aI⟩)
  ·refine G0 ?_
   (exact ⟨none, trivial, fun _ => ⟨⟨k + 1, by omega, up1 (p := fun j h => Mb.is name l[j] = false) h0 (fun _ => h2)⟩, by show l.length - (k + 1) < l.length - k; omega, tI, tI, tI, tI⟩⟩)
 ·have hge : ¬ k < l.length := (by have := of_decide_eq_false h; omega)
  refine G0 ?_
  rw [at_no (p := Mb.is name) (l := l) (fun i hi => h0 i hi (by omega))]
  (exact ⟨[], aI⟩)
end Go.Proofs.YtkclokmfomnbgaaGreat
namespace Go.Proofs.YtkclokmfomnbgaaGreat
open Go.RowKit Pl
set_option linter.unusedVariables false
theorem cloneRu_fun (cl : Bool) (l : List Ru) (hl : l.length ≤ 1000) : Fun Tryz.prog 116 [.c (.sl cl (l.map Ru.row))] [.o 80 6 (l.map Ru.row)] := by
 refine fun_x ck_slices_Clone_api_Rumor_api_Rumor rfl ?_
 (refine goI ?_; repeat (intro gg; refine goI ?_))
 rename_i b
 have hb := gg
 cases b with
 | true =>
  have e : l.map Ru.row = [] := hb rfl
  refine G0 ?_
  rw [e]
  (exact ⟨[], aI⟩)
 | false =>
  refine G1 ?_; intro gg
  refine ⟨ones_rows, ?_⟩
  refine G0 ?_
  refine ⟨lI, lI, ?_⟩
  refine G1 ?_; intro gg
  (exact ⟨[80], aI⟩)
theorem indexRu_fun (cl : Bool) (l : List Ru) (f : FuncId) (caps : List V) (hcaps : ∀ u ∈ caps, Cl u) (p : Ru → Bool) (hl : l.length ≤ 1000) (hf : ∀ x ∈ l, Fun Tryz.prog f (.c (.agg (Ru.row x)) :: caps.map .c) [.c (.v (.bool (p x)))]) :
  Fun Tryz.prog 161 [.c (.sl cl (l.map Ru.row)), .c (.clo f caps)] [.c (.v (.int .i64 (at_ p l)))] := by
 refine fun_x ck_slices_IndexFunc_api_Rumor_api_Rumor rfl ?_
 refine G0 ?_
 rw [List.length_map]
 (refine ⟨[], none, {k : Nat // k ≤ l.length ∧ ∀ j, (h : j < l.length) → j < k → p l[j] = false}, [0, 1, 7], fun ⟨k, hk, h0⟩ => [(8, .v (.int .i64 k))], [], fun ⟨k, hk, h0⟩ => [], fun ⟨k, hk, h0⟩ => l.length - k, trivial, fun _ => ⟨trivial, fun _ => ⟨⟨0, by omega, fun j _ h => by omega⟩, tI, keptE_refl _ _, tI, keptH_refl _ _⟩⟩, fun ⟨k, hk, h0⟩ => ?_⟩)
 refine G0 ?_
 (refine bIf_of (fun h => ?_) (fun h => ?_) <;> rw [h])
 ·have hlt : k < l.length := (by have := of_decide_eq_true h; omega)
  refine G0 ?_
  refine ⟨k, _, rfl, row_map hlt, ?_⟩
  refine G0 ?_
  (refine .inl ⟨_, _, false, [], aI, hf _ (List.getElem_mem hlt), nobor, nI, ?_⟩)
  refine G1 ?_; intro gg
  (refine bIf_of (fun h2 => ?_) (fun h2 => ?_) <;> rw [h2])
  ·refine G0 ?_
   rw [at_yes hlt h0 h2]
   (exact ⟨[], aI⟩)
  ·refine G0 ?_
   (exact ⟨none, trivial, fun _ => ⟨⟨k + 1, by omega, up1 (p := fun j h => p l[j] = false) h0 (fun _ => h2)⟩, by show l.length - (k + 1) < l.length - k; omega, tI, tI, tI, tI⟩⟩)
 ·have hge : ¬ k < l.length := (by have := of_decide_eq_false h; omega)
  refine G0 ?_
  rw [at_no (p := p) (l := l) (fun i hi => h0 i hi (by omega))]
  (exact ⟨[], aI⟩)
theorem indexVRu_fun (cl : Bool) (l : List Ru) (f : FuncId) (p : Ru → Bool) (hl : l.length ≤ 1000) (hf : ∀ x ∈ l, Fun Tryz.prog f [.c (.agg (Ru.row x))] [.c (.v (.bool (p x)))]) :
  Fun Tryz.prog 161 [.c (.sl cl (l.map Ru.row)), .c (.v (.func (.func f) #[] #[]))] [.c (.v (.int .i64 (at_ p l)))] := by
 refine fun_x ck_slices_IndexFunc_api_Rumor_api_Rumor rfl ?_
 refine G0 ?_
 rw [List.length_map]
 (refine ⟨[], none, {k : Nat // k ≤ l.length ∧ ∀ j, (h : j < l.length) → j < k → p l[j] = false}, [0, 1, 7], fun ⟨k, hk, h0⟩ => [(8, .v (.int .i64 k))], [], fun ⟨k, hk, h0⟩ => [], fun ⟨k, hk, h0⟩ => l.length - k, trivial, fun _ => ⟨trivial, fun _ => ⟨⟨0, by omega, fun j _ h => by omega⟩, tI, keptE_refl _ _, tI, keptH_refl _ _⟩⟩, fun ⟨k, hk, h0⟩ => ?_⟩)
 refine G0 ?_
 (refine bIf_of (fun h => ?_) (fun h => ?_) <;> rw [h])
 ·have hlt : k < l.length := (by have := of_decide_eq_true h; omega)
  refine G0 ?_
  refine ⟨k, _, rfl, row_map hlt, ?_⟩
  refine G0 ?_
  (refine .inl ⟨_, _, false, [], aI, hf _ (List.getElem_mem hlt), nobor, nI, ?_⟩)
  refine G1 ?_; intro gg
  (refine bIf_of (fun h2 => ?_) (fun h2 => ?_) <;> rw [h2])
  ·refine G0 ?_
   rw [at_yes hlt h0 h2]
   (exact ⟨[], aI⟩)
  ·refine G0 ?_
   (exact ⟨none, trivial, fun _ => ⟨⟨k + 1, by omega, up1 (p := fun j h => p l[j] = false) h0 (fun _ => h2)⟩, by show l.length - (k + 1) < l.length - k; omega, tI, tI, tI, tI⟩⟩)
 ·have hge : ¬ k < l.length := (by have := of_decide_eq_false h; omega)
  refine G0 ?_
  rw [at_no (p := p) (l := l) (fun i hi => h0 i hi (by omega))]
  (exact ⟨[], aI⟩)
theorem containsVRu_fun (cl : Bool) (l : List Ru) (f : FuncId) (p : Ru → Bool) (hl : l.length ≤ 1000) (hf : ∀ x ∈ l, Fun Tryz.prog f [.c (.agg (Ru.row x))] [.c (.v (.bool (p x)))]) :
  Fun Tryz.prog 103 [.c (.sl cl (l.map Ru.row)), .c (.v (.func (.func f) #[] #[]))] [.c (.v (.bool (l.any p)))] := by
 have hI := indexVRu_fun cl l f p hl hf
 refine fun_x ck_slices_ContainsFunc_api_Rumor_api_Rumor rfl ?_
 refine G0 ?_
 (refine .inl ⟨_, _, false, [], aI, hI, nobor, nI, ?_⟩)
 refine G1 ?_; intro gg
 rw [any_at]
 (exact ⟨[], aI⟩)
theorem delRu_fun (l : List Ru) (i : Nat) (hi : i < l.length) (hl : l.length ≤ 1000) : Fun Tryz.prog 208 [.o 80 6 (l.map Ru.row), .c (.v (.int .i64 i)), .c (.v (.int .i64 ((i : Int) + 1)))] [.o 80 6 ((l.eraseIdx i).map Ru.row)] := by
 have hlen : (l.map Ru.row).length = l.length := by simp
 refine fun_x ck_slices_Delete_api_Rumor_api_Rumor rfl ?_
 refine G0 ?_
 refine ⟨2, i, i + 1, rfl, ⟨_, rfl⟩, ⟨_, rfl⟩, by omega, by show i + 1 ≤ (l.map Ru.row).length; omega, ?_⟩
 refine ⟨_, l.length, .i64, rfl, rfl, by rw [← hlen]; rfl, by omega, by show l.length ≤ (l.map Ru.row).length; omega, ?_⟩
 refine G0 ?_
 rw [show (((i : Int) == (i : Int) + 1) = false) from by simp; omega]
 refine G0 ?_
 refine ⟨0, i, rfl, rfl, ⟨_, rfl⟩, by omega, by show i ≤ (l.map Ru.row).length; omega, rfl, ?_⟩
 refine G0 ?_
 refine ⟨i + 1, (l.map Ru.row).length, rfl, ⟨_, rfl⟩, rfl, by show i + 1 ≤ (l.map Ru.row).length; omega, by show (l.map Ru.row).length ≤ (l.map Ru.row).length; omega, rfl, ?_⟩
 refine G0 ?_
 refine ⟨by omega, by omega, by show (l.map Ru.row).length ≤ (l.map Ru.row).length; omega, ?_⟩
 refine G0 ?_
 have e2 : ((l.map Ru.row).take i ++ ((l.map Ru.row).drop (i + 1)).take ((l.map Ru.row).length - (i + 1)) ++ (l.map Ru.row).drop (i + ((l.map Ru.row).length - (i + 1)))).length = l.length := by
  simp only [List.length_append, List.length_take, List.length_drop, hlen]; omega
 refine ⟨i + ((l.map Ru.row).length - (i + 1)), (l.map Ru.row).length, rfl, ⟨_, rfl⟩, ⟨_, rfl⟩, by omega, ?_, rfl, by omega, ?_⟩
 ·show 0 + (l.map Ru.row).length ≤ ((l.map Ru.row).take i ++ ((l.map Ru.row).drop (i + 1)).take ((l.map Ru.row).length - (i + 1)) ++ (l.map Ru.row).drop (i + ((l.map Ru.row).length - (i + 1)))).length
  rw [Nat.zero_add, hlen]; rw [hlen] at e2; exact Nat.le_of_eq e2.symm
 refine G0 ?_
 refine ⟨by omega, ?_, ?_⟩
 ·show 0 + (l.map Ru.row).length ≤ ((l.map Ru.row).take i ++ ((l.map Ru.row).drop (i + 1)).take ((l.map Ru.row).length - (i + 1)) ++ (l.map Ru.row).drop (i + ((l.map Ru.row).length - (i + 1)))).length
  rw [Nat.zero_add, hlen]; rw [hlen] at e2; exact Nat.le_of_eq e2.symm
 refine G0 ?_
 refine ⟨[0], ret_osub rfl rfl rfl rfl rfl ?_ ?_ ?_⟩
 ·refine Nat.le_trans ?_ (Nat.le_of_eq (congrArg List.length (List.append_assoc _ _ _)).symm)
  rw [List.length_append, List.length_take]
  refine Nat.le_trans (m := i + ((l.map Ru.row).length - (i + 1))) (by omega) (Nat.le_trans (Nat.le_min.2 ⟨by omega, ?_⟩) (Nat.le_add_right _ _))
  show _ ≤ ((l.map Ru.row).take i ++ ((l.map Ru.row).drop (i + 1)).take ((l.map Ru.row).length - (i + 1)) ++ (l.map Ru.row).drop (i + ((l.map Ru.row).length - (i + 1)))).length
  rw [hlen]; rw [hlen] at e2; rw [e2]; omega
 ·repeat' (first | exact cl_rows | exact cr_repl rfl | apply cr_app | apply cr_take | apply cr_drop)
 ·exact erase_rows hi
theorem deleteFRu_fun (l : List Ru) (f : FuncId) (caps : List V) (hcaps : ∀ u ∈ caps, Cl u) (p : Ru → Bool) (hl : l.length ≤ 1000) (hf : ∀ x ∈ l, Fun Tryz.prog f (.c (.agg (Ru.row x)) :: caps.map .c) [.c (.v (.bool (p x)))]) :
  Fun Tryz.prog 124 [.o 80 6 (l.map Ru.row), .c (.clo f caps)] [.o 80 6 ((keep p l).map Ru.row)] := by
 refine fun_x ck_slices_DeleteFunc_api_Rumor_api_Rumor rfl ?_
 refine G0 ?_
 (refine .inl ⟨_, _, true, [], aI, indexRu_fun false l f caps hcaps p hl hf, (fun _ => fI), nI, ?_⟩)
 rcases at_inv (p := p) (l := l) with ⟨h1, h2⟩ | ⟨k, hk, h1, h2, h3⟩
 ·rw [h1, Pl.keep_all (p := p) (l := l) h2]
  refine G1 ?_; intro gg
  (exact ⟨[0], aI⟩)
 ·rw [h1]
  refine G1 ?_; intro gg
  (refine ⟨[], none, {q : List Ru × Nat × Nat // Moved p l q.1 q.2.1 q.2.2}, [0, 1, 36, 37, 39, 40, 41], fun ⟨⟨l', i, j⟩, hm⟩ => [(5, .v (.int .i64 i)), (6, .v (.int .i64 j))], [], fun ⟨⟨l', i, j⟩, hm⟩ => [(0, ⟨0, 80, 6, l'.map Ru.row⟩)], fun ⟨⟨l', i, j⟩, hm⟩ => l.length - j, trivial, fun _ => ⟨trivial, fun _ => ⟨⟨(l, k, k + 1), Moved.start hk h2 h3⟩, tI, keptE_refl _ _, tI, keptH_refl _ _⟩⟩, fun ⟨⟨l', i, j⟩, hm⟩ => ?_⟩)
  refine G0 ?_
  have hm : Moved p l l' i j := hm
  have hlen : l'.length = l.length := hm.len
  (refine bIf_of (fun h => ?_) (fun h => ?_) <;> rw [h])
  ·have hlt : j < l'.length := by have := of_decide_eq_true h; simpa using this
   refine G0 ?_
   refine ⟨j, _, rfl, row_map hlt, ?_⟩
   refine G1 ?_; intro gg
   have hj : j < l.length := by omega
   have hx : l'[j] = l[j] := hm.behind j hj (Nat.le_refl _)
   rw [hx]
   (refine .inl ⟨_, _, false, [], aI, hf _ (List.getElem_mem hj), nobor, nI, ?_⟩)
   refine G1 ?_; intro gg
   (refine bIf_of (fun h4 => ?_) (fun h4 => ?_) <;> rw [h4])
   ·have h4' : p l[j] = false := not_t h4
    have hi : i < l'.length := by have := hm.ij; omega
    refine G0 ?_
    refine ⟨i, _, rfl, row_map hi, ?_⟩
    refine G0 ?_
    have e : (l'.map Ru.row).set i (Ru.row l[j]) = (l'.set i l[j]).map Ru.row := List.map_set.symm
    exact ⟨none, trivial, fun gr => ⟨⟨(l'.set i l[j], i + 1, j + 1), hm.stays hj h4'⟩, by show l.length - (j + 1) < l.length - j; omega, tI, tI, ⟨congrArg (fun r => some (Ent.mk 0 80 6 r)) e, trivial⟩, tI⟩⟩
   ·have h4' : p l[j] = true := not_f h4
    refine G0 ?_
    (exact ⟨none, trivial, fun _ => ⟨⟨(l', i, j + 1), hm.gone hj h4'⟩, by show l.length - (j + 1) < l.length - j; omega, tI, tI, tI, tI⟩⟩)
  ·have hge : ¬ j < l'.length := by have := of_decide_eq_false h; simpa using this
   have hi : i ≤ l'.length := by have := hm.ij; have := hm.jl; omega
   refine G0 ?_
   refine ⟨1, i, (l'.map Ru.row).length, rfl, ⟨_, rfl⟩, rfl, by simpa using hi, Nat.le_refl _, ?_⟩
   refine G0 ?_
   refine ⟨by simpa using hi, Nat.le_refl _, ?_⟩
   refine G0 ?_
   refine ⟨0, 0, i, rfl, rfl, ⟨_, rfl⟩, Nat.zero_le _, ?_, rfl, rfl, fun g => ?_⟩
   ·show i ≤ ((l'.map Ru.row).take i ++ List.replicate ((l'.map Ru.row).length - i) _ ++ (l'.map Ru.row).drop (l'.map Ru.row).length).length
    simp only [List.length_append, List.length_take, List.length_map, List.length_replicate]; omega
   refine G0 ?_
   refine ⟨[0], ret_own rfl rfl rfl rfl rfl cl_rows ?_⟩
   show ((l'.map Ru.row).take i ++ List.replicate ((l'.map Ru.row).length - i) _ ++ (l'.map Ru.row).drop (l'.map Ru.row).length).take i = (keep p l).map Ru.row
   rw [List.append_assoc, List.take_append_of_le_length (by simp; omega), List.take_take, Nat.min_self, ← hm.fin (by omega), List.map_take]
end Go.Proofs.YtkclokmfomnbgaaGreat
namespace Go.Proofs.YtkclokmfomnbgaaGreat
open Go.RowKit Pl
set_option linter.unusedVariables false
theorem mOne_fun (m : Mb) (hm : m.ok) : Fun Tryz.prog 102 [.c (.agg m.row)] [.c (.v (.int .i64 m.err))] := by
 refine fun_x ck_member_One rfl ?_
 refine G1 ?_; intro gg
 (refine .inl ⟨_, _, false, [], aI, mone_fun m hm, nobor, nI, ?_⟩)
 refine G1 ?_; intro gg
 (exact ⟨[], aI⟩)
theorem ruBad_fun (r : Ru) : Fun Tryz.prog 104 [.c (.agg r.row)] [.c (.v (.bool r.bad))] := by
 refine fun_x ck_rumor_Check_1 rfl ?_
 refine G1 ?_; intro gg
 (refine bIf_of (fun h => ?_) (fun h => ?_) <;> rw [h])
 ·have e : r.bad = true := by have := of_decide_eq_true h; simp [Ru.bad, wi]; omega
  refine G0 ?_
  rw [e]
  (exact ⟨[], aI⟩)
 ·have e : r.bad = decide (100 < r.t) := by
   have h0 : 0 ≤ r.t := by have := of_decide_eq_false h; omega
   unfold Ru.bad wi
   rw [decide_eq_true h0, Bool.true_and]
   by_cases q : 100 < r.t
   ·rw [decide_eq_true q, decide_eq_false (by omega)]; rfl
   ·rw [decide_eq_false q, decide_eq_true (by omega)]; rfl
  refine G0 ?_
  rw [e]
  (exact ⟨[], aI⟩)
theorem ruCheck_fun (cl : Bool) (l : List Ru) (hl : l.length ≤ 9223372036854775807) (hw : ∀ r ∈ l, r.m.ok) : Fun Tryz.prog 44 [.c (.sl cl (l.map Ru.row))] [.c (.v (.int .i64 (ckRu l)))] := by
 refine fun_x ck_rumor_Check rfl ?_
 refine G0 ?_
 rw [List.length_map]
 (refine bIf_of (fun h => ?_) (fun h => ?_) <;> rw [h])
 ·have h1 : 20 < l.length := (by have := of_decide_eq_true h; omega)
  refine G0 ?_
  rw [ckRu_many h1]
  (exact ⟨[], aI⟩)
 ·have h1 : ¬ 20 < l.length := (by have := of_decide_eq_false h; omega)
  refine G1 ?_; intro gg
  rename Nat => g0
  (refine ⟨[], none, {q : Nat × List (ByteArray × V) // q.1 ≤ l.length ∧ (∀ j, (h : j < l.length) → j < q.1 → (l[j]).err = 0) ∧ Names q.2 ((l.take q.1).map Ru.nm)}, [0, 3, 11, 12], fun ⟨⟨k, E⟩, hk, h0, hE⟩ => [(13, .v (.int .i64 k))], [], fun ⟨⟨k, E⟩, hk, h0, hE⟩ => [(160, ⟨g0, .q (mapI (ents E)), 0, []⟩)], fun ⟨⟨k, E⟩, hk, h0, hE⟩ => l.length - k, trivial, fun _ => ⟨trivial, fun _ => ⟨⟨(0, []), Nat.zero_le _, fun j _ h => absurd h (Nat.not_lt_zero _), Names.nil⟩, tI, keptE_refl _ _, tI, keptH_refl _ _⟩⟩, fun ⟨⟨k, E⟩, hk, h0, hE⟩ => ?_⟩)
  refine G0 ?_
  (refine bIf_of (fun h2 => ?_) (fun h2 => ?_) <;> rw [h2])
  ·have hlt : k < l.length := by have := of_decide_eq_true h2; simpa using this
   refine G0 ?_
   refine ⟨k, _, rfl, row_map hlt, ?_⟩
   refine G1 ?_; intro gg
   (refine .inl ⟨_, _, false, [], aI, mOne_fun (l[k]).m (hw _ (List.getElem_mem hlt)), nobor, nI, ?_⟩)
   refine G1 ?_; intro gg
   (refine bIf_of (fun h3 => ?_) (fun h3 => ?_) <;> rw [h3])
   ·refine G0 ?_
    have e : ckRu l = l[k].m.err := by
     have e1 := firstErr_at (e := Ru.err) hlt h0 (by simpa [Ru.err] using h3)
     rw [ckRu_each h1 (by rw [e1]; simpa [Ru.err] using h3), e1]; rfl
    rw [e]
    (exact ⟨[], aI⟩)
   ·refine G0 ?_
    refine ⟨_, _, rfl, cl_b rfl, findE_str _ _ _, ?_⟩
    refine G0 ?_
    have e := putE_str E l[k].m.n (.v (.bool true))
    have hE' : Names (put E l[k].m.n (.v (.bool true))) ((l.take (k + 1)).map Ru.nm) := by
     rw [List.take_add_one, List.getElem?_eq_getElem hlt, List.map_append]
     exact hE.put _ _ (cl_b rfl)
    (exact ⟨none, trivial, fun gr => ⟨⟨(k + 1, put E l[k].m.n (.v (.bool true))), by dsimp only; omega, up1 (p := fun j h => (l[j]).err = 0) h0 (fun _ => by simpa [Ru.err] using h3), hE'⟩, by show l.length - (k + 1) < l.length - k; omega, tI, tI, ⟨congrArg (fun x => some (Ent.mk g0 (.q (mapI x)) 0 [])) e, trivial⟩, tI⟩⟩)
  ·have hge : ¬ k < l.length := by have := of_decide_eq_false h2; simpa using this
   have hz := firstErr_zero (e := Ru.err) (l := l) (fun i hi => h0 i hi (by dsimp only; omega))
   rw [List.take_of_length_le (by dsimp only; omega)] at hE
   have hE : Names E (l.map Ru.nm) := hE
   have hc := containsVRu_fun cl l 104 Ru.bad (by omega) (fun x _ => ruBad_fun x)
   refine G0 ?_
   (refine .inl ⟨_, _, false, [], aI, hc, nobor, nI, ?_⟩)
   refine G1 ?_; intro gg
   (refine bIf_of (fun h3 => ?_) (fun h3 => ?_) <;> rw [h3])
   ·refine G0 ?_
    rw [ckRu_rng h1 hz h3]
    (exact ⟨[], aI⟩)
   ·refine G0 ?_
    refine ⟨_, rfl, ?_⟩
    refine G0 ?_
    rw [ents_len, List.length_map]
    have ha := hE.all
    have hle := hE.le
    rw [List.length_map] at ha hle
    (refine bIf_of (fun h4 => ?_) (fun h4 => ?_) <;> rw [h4])
    ·have h4' : E.length < l.length := (by have := of_decide_eq_true h4; omega)
     refine G0 ?_
     rw [ckRu_two h1 hz h3 (fun q => by have := ha.2 q; omega)]
     (exact ⟨[], aI⟩)
    ·have h4' : ¬ E.length < l.length := (by have := of_decide_eq_false h4; omega)
     refine G0 ?_
     rw [ckRu_ok h1 hz h3 (ha.1 (by omega))]
     (exact ⟨[], aI⟩)
theorem rruCheck_fun (cl : Bool) (l : List Ru) (hl : l.length ≤ 9223372036854775807) (hw : ∀ r ∈ l, r.m.ok) : Fun Tryz.prog 52 [.c (.sl cl (l.map Ru.row))] [.c (.v (.int .i64 (ckRu l)))] := by
 refine fun_x ck_hearsayref_CheckRumors rfl ?_
 refine G0 ?_
 rw [List.length_map]
 (refine bIf_of (fun h => ?_) (fun h => ?_) <;> rw [h])
 ·have h1 : 20 < l.length := (by have := of_decide_eq_true h; omega)
  refine G0 ?_
  rw [ckRu_many h1]
  (exact ⟨[], aI⟩)
 ·have h1 : ¬ 20 < l.length := (by have := of_decide_eq_false h; omega)
  refine G0 ?_
  (refine ⟨[], none, {k : Nat // k ≤ l.length ∧ ∀ j, (h : j < l.length) → j < k → (l[j]).err = 0}, [0, 5, 6, 7], fun ⟨k, hk, h0⟩ => [(3, .v (.int .i64 k))], [], fun ⟨k, hk, h0⟩ => [], fun ⟨k, hk, h0⟩ => l.length - k, trivial, fun _ => ⟨trivial, fun _ => ⟨⟨0, by omega, fun j _ h => by omega⟩, tI, keptE_refl _ _, tI, keptH_refl _ _⟩⟩, fun ⟨k, hk, h0⟩ => ?_⟩)
  refine G0 ?_
  (refine bIf_of (fun h2 => ?_) (fun h2 => ?_) <;> rw [h2])
  ·have hlt : k < l.length := by have := of_decide_eq_true h2; simpa using this
   refine G0 ?_
   refine ⟨k, _, rfl, row_map hlt, ?_⟩
   refine G0 ?_
   (refine .inl ⟨_, _, false, [], aI, rone_fun (l[k]).m (hw _ (List.getElem_mem hlt)), nobor, nI, ?_⟩)
   refine G1 ?_; intro gg
   (refine bIf_of (fun h3 => ?_) (fun h3 => ?_) <;> rw [h3])
   ·refine G0 ?_
    have e : ckRu l = l[k].m.err := by
     have e1 := firstErr_at (e := Ru.err) hlt h0 (by simpa [Ru.err] using h3)
     rw [ckRu_each h1 (by rw [e1]; simpa [Ru.err] using h3), e1]; rfl
    rw [e]
    (exact ⟨[], aI⟩)
   ·refine G0 ?_
    (exact ⟨none, trivial, fun _ => ⟨⟨k + 1, by omega, up1 (p := fun j h => (l[j]).err = 0) h0 (fun _ => by simpa [Ru.err] using h3)⟩, by show l.length - (k + 1) < l.length - k; omega, tI, tI, tI, tI⟩⟩)
  ·have hge : ¬ k < l.length := by have := of_decide_eq_false h2; simpa using this
   have hz := firstErr_zero (e := Ru.err) (l := l) (fun i hi => h0 i hi (by omega))
   refine G0 ?_
   (refine ⟨[], none, {k : Nat // k ≤ l.length ∧ ∀ j, (h : j < l.length) → j < k → (l[j]).bad = false}, [0, 6, 7], fun ⟨k, hk, h0⟩ => [(5, .v (.int .i64 k))], [], fun ⟨k, hk, h0⟩ => [], fun ⟨k, hk, h0⟩ => l.length - k, trivial, fun _ => ⟨trivial, fun _ => ⟨⟨0, by omega, fun j _ h => by omega⟩, tI, keptE_refl _ _, tI, keptH_refl _ _⟩⟩, fun ⟨k, hk, h0⟩ => ?_⟩)
   refine G0 ?_
   (refine bIf_of (fun h2 => ?_) (fun h2 => ?_) <;> rw [h2])
   ·have hlt : k < l.length := by have := of_decide_eq_true h2; simpa using this
    refine G0 ?_
    refine ⟨k, _, rfl, row_map hlt, ?_⟩
    refine G0 ?_
    (refine .inl ⟨_, _, false, [], aI, between_fun _ _ _, nobor, nI, ?_⟩)
    refine G1 ?_; intro gg
    (refine bIf_of (fun h3 => ?_) (fun h3 => ?_) <;> rw [h3])
    ·refine G0 ?_
     rw [ckRu_rng h1 hz (List.any_eq_true.2 ⟨_, List.getElem_mem hlt, h3⟩)]
     (exact ⟨[], aI⟩)
    ·refine G0 ?_
     (exact ⟨none, trivial, fun _ => ⟨⟨k + 1, by omega, up1 (p := fun j h => (l[j]).bad = false) h0 (fun _ => h3)⟩, by show l.length - (k + 1) < l.length - k; omega, tI, tI, tI, tI⟩⟩)
   ·have hge : ¬ k < l.length := by have := of_decide_eq_false h2; simpa using this
    have ha : l.any Ru.bad = false := by
     rw [List.any_eq_false]; intro x hx
     obtain ⟨i, hi, rfl⟩ := List.getElem_of_mem hx
     rw [h0 i hi (by omega)]; simp
    refine G0 ?_
    (refine ⟨[], none, {k : Nat // k ≤ l.length ∧ ∀ i, (h : i < l.length) → i < k → ∀ j, (g : j < i) → (l[j]).nm ≠ l[i].nm}, [0], fun ⟨k, hk, h0⟩ => [(6, .v (.int .i64 k))], [], fun ⟨k, hk, h0⟩ => [], fun ⟨k, hk, h0⟩ => l.length - k, trivial, fun _ => ⟨trivial, fun _ => ⟨⟨0, by omega, fun j _ h => by omega⟩, tI, keptE_refl _ _, tI, keptH_refl _ _⟩⟩, fun ⟨k, hk, h0⟩ => ?_⟩)
    refine G0 ?_
    (refine bIf_of (fun h2 => ?_) (fun h2 => ?_) <;> rw [h2])
    ·have hlt : k < l.length := by have := of_decide_eq_true h2; simpa using this
     refine G0 ?_
     (refine ⟨[], none, {q : Nat // q ≤ k ∧ ∀ j, (h : j < k) → j < q → (l[j]).nm ≠ l[k].nm}, [0, 6], fun ⟨q, hq, h0'⟩ => [(7, .v (.int .i64 q))], [], fun ⟨q, hq, h0'⟩ => [], fun ⟨q, hq, h0'⟩ => k - q, trivial, fun _ => ⟨trivial, fun _ => ⟨⟨0, by omega, fun j _ h => by omega⟩, tI, keptE_refl _ _, tI, keptH_refl _ _⟩⟩, fun ⟨q, hq, h0'⟩ => ?_⟩)
     refine G0 ?_
     (refine bIf_of (fun h3 => ?_) (fun h3 => ?_) <;> rw [h3])
     ·have hqk : q < k := by have := of_decide_eq_true h3; omega
      have hql : q < l.length := by omega
      refine G0 ?_
      refine ⟨q, _, rfl, row_map hql, ?_⟩
      refine G0 ?_
      refine ⟨k, _, rfl, row_map hlt, ?_⟩
      refine G0 ?_
      (refine bIf_of (fun h4 => ?_) (fun h4 => ?_) <;> rw [h4])
      ·have h4' : l[q].nm = l[k].nm := Ru.is_iff.1 h4
       refine G0 ?_
       rw [ckRu_two h1 hz ha (fun hn => by have := nd_get hn hql hlt h4'; omega)]
       (exact ⟨[], aI⟩)
      ·have h4' : l[q].nm ≠ l[k].nm := fun e => by rw [show (l[q].m.n.toList == l[k].m.n.toList) = true from Ru.is_iff.2 e] at h4; cases h4
       refine G0 ?_
       (exact ⟨none, trivial, fun _ => ⟨⟨q + 1, by omega, up1 (p := fun j h => (l[j]).nm ≠ l[k].nm) h0' (fun _ => h4')⟩, by show k - (q + 1) < k - q; omega, tI, tI, tI, tI⟩⟩)
     ·have hqk : ¬ q < k := by have := of_decide_eq_false h3; omega
      refine G0 ?_
      (exact ⟨none, trivial, fun _ => ⟨⟨k + 1, by omega, up1 (p := fun i h => ∀ j, (g : j < i) → (l[j]).nm ≠ l[i].nm) h0 (fun _ j g => h0' j g (by omega))⟩, by show l.length - (k + 1) < l.length - k; omega, tI, tI, tI, tI⟩⟩)
    ·have hge : ¬ k < l.length := by have := of_decide_eq_false h2; simpa using this
     refine G0 ?_
     rw [ckRu_ok h1 hz ha (List.pairwise_iff_getElem.2 fun i j hi hj hij => by
      simp only [List.getElem_map]
      exact h0 j (by simpa using hj) (by simp at hj; omega) i hij)]
     (exact ⟨[], aI⟩)
def Ru.same (g h : Ru) : Bool := (g.m.n.toList == h.m.n.toList) && ((g.m.st == h.m.st) && ((g.m.lf == h.m.lf) && ((g.m.ad == h.m.ad) && ((g.m.sv == h.m.sv) && ((g.t == h.t) && true)))))
theorem Ru.same_iff {g h : Ru} : Ru.same g h = true ↔ g = h := by
 obtain ⟨⟨a, b, c, d, e⟩, f⟩ := g
 obtain ⟨⟨a', b', c', d', e'⟩, f'⟩ := h
 have tl : ∀ a b : ByteArray, a.toList = b.toList ↔ a = b := fun a b => ⟨toList_inj, fun h => by rw [h]⟩
 simp only [Ru.same, Bool.and_true, Bool.and_eq_true, beq_iff_eq, tl, Ru.mk.injEq, Mb.mk.injEq, and_assoc]
theorem ruSame_fun (c d : Bool) (a b : List Ru) (ha : a.length ≤ 9223372036854775807) : Fun Tryz.prog 89 [.c (.sl c (a.map Ru.row)), .c (.sl d (b.map Ru.row))] [.c (.v (.bool (sameL Ru.same a b)))] := by
  refine fun_x ck_hearsayref_SameRumors rfl ?_
  refine G0 ?_
  rw [List.length_map, List.length_map]
  (refine bIf_of (fun h => ?_) (fun h => ?_) <;> rw [h])
  · refine G0 ?_
    rw [sameL_no (fun e => by rw [e] at h; simp at h)]
    (exact ⟨[], aI⟩)
  · have hab : a.length = b.length := by have h' : ((a.length : Int) != (b.length : Int)) = false := h
                                         simp at h'; omega
    refine G0 ?_
    (refine ⟨[], none, {k : Nat // k ≤ a.length ∧ ∀ j, (h : j < a.length) → j < k → Ru.same a[j] (b[j]'(by omega)) = true}, [0, 1], fun ⟨k, hk, h0⟩ => [(5, .v (.int .i64 k))], [], fun ⟨k, hk, h0⟩ => [], fun ⟨k, hk, h0⟩ => a.length - k, trivial, fun _ => ⟨trivial, fun _ => ⟨⟨0, by omega, fun j _ h => by omega⟩, tI, keptE_refl _ _, tI, keptH_refl _ _⟩⟩, fun ⟨k, hk, h0⟩ => ?_⟩)
    refine G0 ?_
    rw [List.length_map]
    (refine bIf_of (fun h2 => ?_) (fun h2 => ?_) <;> rw [h2])
    · have hlt : k < a.length := (by have := of_decide_eq_true h2; omega)
      have hlt' : k < b.length := by omega
      refine G0 ?_
      refine ⟨k, _, rfl, row_map hlt, ?_⟩
      refine G0 ?_
      refine ⟨k, _, rfl, row_map hlt', ?_⟩
      refine G0 ?_
      (refine bIf_of (fun h3 => ?_) (fun h3 => ?_) <;> rw [h3])
      · refine G0 ?_
        rw [sameL_at hlt hlt' (not_t (b := Ru.same a[k] b[k]) h3)]
        (exact ⟨[], aI⟩)
      · refine G0 ?_
        (exact ⟨none, trivial, fun _ => ⟨⟨k + 1, by omega, up1 (p := fun j h => Ru.same a[j] (b[j]'(by omega)) = true) h0 (fun _ => not_f (b := Ru.same a[k] b[k]) h3)⟩, by show a.length - (k + 1) < a.length - k; omega, tI, tI, tI, tI⟩⟩)
    · have hge : ¬ k < a.length := (by have := of_decide_eq_false h2; omega)
      refine G0 ?_
      rw [sameL_yes hab (fun i hi _ => h0 i hi (by omega))]
      (exact ⟨[], aI⟩)
end Go.Proofs.YtkclokmfomnbgaaGreat
namespace Go.Proofs.YtkclokmfomnbgaaGreat
open Go.RowKit
set_option linter.unusedVariables false
theorem infoSv : (Tryz.prog.info? 64).map (fun i => (i.zero, i.size, i.bytes)) = some (some (.agg #[.string ⟨#[]⟩, .string ⟨#[]⟩, .string ⟨#[]⟩, .string ⟨#[]⟩, .int .i64 0, .int .i64 0, .bool false, .int .i64 0, .bool false]), 9, 104) := by kernel_rfl
theorem cellsSv : (Tryz.prog.info? 64).map (·.size) = some 9 := by kernel_rfl
theorem sizeSv : ∀ w, (Go.sizeOf 64).run Tryz.prog w = .ok 9 w := by
 intro w
 obtain ⟨i0, hi0, hz0, hzs, hzb⟩ := info_parts infoSv
 simp [sizeOf, typeInfo, hi0, hzs]
theorem insSv_over (vb g : Nat) (vc lb cb off : Nat) (vs cur : Array Value) (w : World) (hv : Blk w vb 64 vs) (hg : Blk w g 64 cur) (hne : vb ≠ g) (hcur : cur.size ≠ 0) :
  (callFunc 179 #[.slice (some ⟨vb, 0, none⟩) 1 vc, .slice (some ⟨g, off, none⟩) lb cb]).run Tryz.prog w = .ok (.value (.bool false)) w := by
 rw [run_callFunc_extern Tryz.func179 (by kernel_rfl) (by kernel_rfl) (by kernel_rfl) (e := Extern.SlicesOverlaps.overlaps #[24, 24] #[4]) (by kernel_rfl),
  Lib.run_overlaps_apart w 24 4 64 Tryz.underlying24 9 sizeSv ⟨vb, 0, none⟩ ⟨g, off, none⟩ 1 vc lb cb hne 64 64 vs.size cur.size
   (by unfold Blk at hv; simp [World.shape?, hv]) (by unfold Blk at hg; simp [World.shape?, hg]) hcur (hv.frozen _) (hv.frozen _)]
 rfl
def InsSv (L : Nat → Prop) (base n i : Nat) (xs vs : List Value) (w : World) (e : Ending) (w' : World) : Prop :=
 ∃ A' c', e = .returned (.slice A' (n + 1) c') ∧ w'.ownsRow base 64 9 (.slice A' (n + 1) c') (n + 1) (xs.take (i * 9) ++ vs ++ xs.drop (i * 9)) ∧ Fr L w w' ∧ ∀ k, (Value.slice A' (n + 1) c').ownBlock = some k → L k ∨ w.heap.size ≤ k
set_option maxHeartbeats 1000000 in
set_option maxRecDepth 100000 in
theorem insSv_end (base : Nat) (A : Option Addr) (n c : Nat) (xs : List Value) (vb vc : Nat) (vcur : Array Value) (vs : List Value) (w : World) (hown : w.ownsRow base 64 9 (.slice A n c) n xs) (hbase : base ≤ w.heap.size)
  (hn : n ≤ 1000) (hv : Blk w vb 64 vcur) (hvc : vcur.toList.take 9 = vs) (hvl : vs.length = 9) (h1 : ∀ v ∈ vs, v.oneCell' = true) :
  Calls Tryz.prog 135 #[.slice A n c, .int .i64 n, .slice (some ⟨vb, 0, none⟩) 1 vc] w (InsSv (LB A) base n n xs vs w) := by
 obtain ⟨i0, hi0, hz0, hzs, hzb⟩ := info_parts infoSv
 have hnc : n ≤ c ∧ c ≤ 9223372036854775807 := by
  rcases hown.2 with ⟨hv, hz⟩ | ⟨g, cap, cur, hv, _, _, h, h', _⟩
  ·injection hv; omega
  ·injection hv with _ _ e; subst e; exact ⟨h, h'⟩
 obtain ⟨hnc, hc63⟩ := hnc
 have hxs : xs.length = n * 9 := hown.1
 have HXS := hid hxs
 have HVL := hid hvl
 have HV := hid hv
 have HO := hid hown
 have HZ0 := hid hz0
 have HZS := hid hzs
 have HZB := hid hzb
 have HI0 := hid hi0
 clear hxs hvl hv hown hz0 hzs hzb hi0
 have hnn : ((n : Int) == (n : Int)) = true := by simp
 go_enter Tryz.func135, Tryz.ntmps135
 go_wp2_with (at_builtin; refine wpList_appD _ rfl _ _ 24 rfl base 64 i0 _ 9 104 Tryz.underlying24 HI0.out HZ0.out HZS.out HZB.out rfl (by decide) _ _ _ rfl HO.out ⟨vb, 0, none⟩ 1 vc vs rfl (by simpa using HVL.out) (blk_at HV.out hvc) h1 (by simp only [maxLen]; omega) (by omega) hbase ?_; intro v1 w1 hown1 hg1 hd1 hat1)
 all_goals go_ret
 all_goals
  obtain ⟨A', c', rfl⟩ := own_form hown1
  refine ⟨A', c', rfl, ?_, (Fr.refl _ _).grown hg1 (inl_own HO.out (fun k hk => lb_of (n := n) (c := c) hk)) hd1, fun k hk => ?_⟩
  rotate_left
  ·rcases hat1 with h | h
   ·exact .inl (lb_of (n := n) (c := c) (h.symm.trans hk))
   ·have := h.symm.trans hk
    injection this with this
    exact .inr (by omega)
  rw [List.take_of_length_le (by have := HXS.out; omega), List.drop_of_length_le (by have := HXS.out; omega), List.append_nil]
  exact hown1
set_option maxHeartbeats 2000000 in
set_option maxRecDepth 100000 in
theorem insSv_room (base g : Nat) (n c i : Nat) (cur : Array Value) (xs : List Value) (vb vc : Nat) (vcur : Array Value) (vs : List Value) (w : World) (hg : Blk w g 64 cur) (hbg : base ≤ g) (hcs : cur.size = c * 9) (hcx : cur.toList.take (n * 9) = xs)
  (hi : i < n) (hr : n + 1 ≤ c) (hc63 : c ≤ 9223372036854775807) (hn : n ≤ 1000) (hv : Blk w vb 64 vcur) (hvc : vcur.toList.take 9 = vs) (hne : vb ≠ g) (hvl : vs.length = 9) (h1 : ∀ v ∈ vs, v.oneCell' = true) (h1x : ∀ v ∈ xs, v.oneCell' = true) :
  Calls Tryz.prog 135 #[.slice (some ⟨g, 0, none⟩) n c, .int .i64 i, .slice (some ⟨vb, 0, none⟩) 1 vc] w (InsSv (LB (some ⟨g, 0, none⟩)) base n i xs vs w) := by
 have hcl : cur.toList.length = c * 9 := by rw [Array.length_toList]; exact hcs
 have hxl : xs.length = n * 9 := by rw [← hcx, List.length_take, hcl]; omega
 have hov : ∀ lb cb, (callFunc 179 #[.slice (some ⟨vb, 0, none⟩) 1 vc, .slice (some ⟨g, (i + 1) * 9, none⟩) lb cb]).run Tryz.prog w = .ok (.value (.bool false)) w := fun lb cb => insSv_over vb g vc lb cb ((i + 1) * 9) vcur cur w hv hg hne (by omega)
 have HB2 : Hid ((splice (splice cur.toList ((i + 1) * 9) (xs.drop (i * 9))) (i * 9) vs).take ((n + 1) * 9) = xs.take (i * 9) ++ vs ++ xs.drop (i * 9)) := by
  refine hid ?_
  have h := splice_room cur.toList xs vs (i * 9) (n * 9) hcx (by rw [hcl]; omega) (by omega) (by rw [hcl, hvl]; omega)
  rw [hvl] at h
  rw [Nat.add_mul, Nat.add_mul, Nat.one_mul]
  exact h
 have HC1 : Hid ((xs.drop (i * 9)).length = Nat.min (n + 1 - i) (n - i) * 9) := by
  refine hid ?_
  rw [List.length_drop, hxl, show Nat.min (n + 1 - i) (n - i) = n - i from Nat.min_eq_right (by omega), Nat.sub_mul]
 have HC2 := hid (fun j v (hj : (xs.drop (i * 9))[j]? = some v) => blk_drop hg.drew hcx (i * 9) j v hj)
 have HC3 : Hid ((i + 1) * 9 + (xs.drop (i * 9)).length ≤ cur.size) := hid (by rw [List.length_drop]; omega)
 have HC3' : Hid ((i + 1) * 9 + (xs.drop (i * 9)).length ≤ cur.toList.length) := hid (by rw [List.length_drop, hcl]; omega)
 have HC4 := hid (fun v (hv : v ∈ xs.drop (i * 9)) => h1x v (List.mem_of_mem_drop hv))
 have HC5 : Hid (vs.length = Nat.min 1 (n + 1 - i) * 9) := by
  refine hid ?_
  rw [hvl, show Nat.min 1 (n + 1 - i) = 1 from Nat.min_eq_left (by omega)]
 have HC6 : Hid (i * 9 + vs.length ≤ (splice cur.toList ((i + 1) * 9) (xs.drop (i * 9))).toArray.size) := by
  refine hid ?_
  rw [List.size_toArray, length_splice _ _ _ (by rw [hcl, ← hcs]; exact HC3.out), hcl, hvl]
  omega
 have HXL := hid hxl
 have HVL := hid hvl
 have HG := hid hg
 have HV := hid hv
 have HCS := hid hcs
 have HNE := hid hne
 have HCX := hid hcx
 clear hxl hvl hg hv hcs hne hcx
 have hw1 : IntKind.i64.wrap ((i : Int) + 1) = (i : Int) + 1 := by rw [IntWalk.i64_in _ (by omega)]
 have hb1 : (0 : Int) ≤ (i : Int) + 1 := by omega
 have htn : ((i : Int) + 1).toNat = i + 1 := by omega
 have hb3 : (i : Int) ≤ (n : Int) + 1 := by omega
 have hb4 : (i : Int) + 1 ≤ (n : Int) + 1 := by omega
 have hb5 : (i : Int) ≤ (n : Int) := by omega
 have hb6 : ¬ c = i := by omega
 have hb7 : ¬ c = i + 1 := by omega
 have hb8 : ((i : Int) == (n : Int)) = false := by simp; omega
 go_enter Tryz.func135, Tryz.ntmps135
 go_wp2_with (simp only [hov])
 go_region_law (refine step_copyN rfl (.tmp 73) (.tmp 76) 24 24 rfl 64 9 Tryz.underlying24 cellsSv g ((i + 1) * 9) (n - i) (c - (i + 1)) ⟨g, i * 9, none⟩ (n + 1 - i) (c - i) (by simp [Act.eval, Act.put]) (by simp [Act.eval, Act.put]) cur 64 HG.out.drew (xs.drop (i * 9)) HC1.out HC2.out HC3.out HC4.out ?_; intro w1 hk1 hg1 hd1)
 have HK1 := hid hk1
 have HG1 := hid hg1
 have HV1 := hid (HV.out.drew.grown hg1 (fun e => HNE.out (by injection e)))
 clear hk1 hg1
 go_wp2_with (refine wpList_copyN rfl (.tmp 80) (.tmp 81) 24 24 rfl 64 9 Tryz.underlying24 cellsSv g (i * 9) (n + 1 - i) (c - i) ⟨vb, 0, none⟩ 1 vc (by simp [Act.eval]) (by simp [Act.eval]) _ 64 HK1.out vs HC5.out (blk_at HV1.out hvc) HC6.out h1 ?_; intro w2 hk2 hg2 hd2)
 go_ret
 refine ⟨_, _, rfl, ⟨?_, .inr ⟨g, c, _, rfl, hbg, hk2, by omega, by simpa [maxLen] using hc63, ?_, ?_⟩⟩, ?_, fun k hk => .inl ⟨_, rfl, by injection hk with hk⟩⟩
 ·simp only [List.length_append, List.length_take, List.length_drop]
  have := HXL.out; have := HVL.out
  omega
 ·have h1 := length_splice cur.toList ((i + 1) * 9) (xs.drop (i * 9)) HC3'.out
  have h2 := length_splice (splice cur.toList ((i + 1) * 9) (xs.drop (i * 9))) (i * 9) vs (by simpa using HC6.out)
  rw [List.size_toArray, List.toList_toArray, h2, h1]
  simpa using HCS.out
 ·rw [List.toList_toArray, List.toList_toArray]
  exact HB2.out
 ·have hlt := HG.out.lt
  exact ((Fr.refl _ w).drew.grown HG1.out (fun k hk => .inl (⟨_, rfl, by injection hk with hk⟩)) hd1).grown hg2 (fun k hk => .inl (⟨_, rfl, by injection hk with hk⟩)) hd2
set_option maxHeartbeats 2000000 in
set_option maxRecDepth 100000 in
theorem insSv_grow (base g : Nat) (n c i : Nat) (cur : Array Value) (xs : List Value) (vb vc : Nat) (vcur : Array Value) (vs : List Value) (w : World) (hg : Blk w g 64 cur) (hbase : base ≤ w.heap.size) (hcs : cur.size = c * 9) (hcx : cur.toList.take (n * 9) = xs)
    (hi : i < n) (hnc : n ≤ c) (hr : c < n + 1) (hn : n ≤ 1000) (hv : Blk w vb 64 vcur) (hvc : vcur.toList.take 9 = vs) (hvl : vs.length = 9) (h1 : ∀ v ∈ vs, v.oneCell' = true) (h1x : ∀ v ∈ xs, v.oneCell' = true) :
    Calls Tryz.prog 135 #[.slice (some ⟨g, 0, none⟩) n c, .int .i64 i, .slice (some ⟨vb, 0, none⟩) 1 vc] w (InsSv (LB (some ⟨g, 0, none⟩)) base n i xs vs w) := by
  obtain ⟨i0, hi0, hz0, hzs, hzb⟩ := info_parts infoSv
  have hcl : cur.toList.length = c * 9 := by rw [Array.length_toList]; exact hcs
  have hxl : xs.length = n * 9 := by rw [← hcx, List.length_take, hcl]; omega
  have hold : (Builtin.firstCells i0.size i (.slice (some ⟨g, 0, none⟩) i c)).run Tryz.prog w.drew = .ok (xs.take (i * 9)).toArray w.drew := by
    rw [hzs]
    exact run_firstCells_some w.drew 9 i ⟨g, 0, none⟩ i c (xs.take (i * 9)) (by rw [List.length_take]; omega) (fun j v hj => by
      have hj' : (xs.drop 0)[j]? = some v := by
        rw [List.drop_zero]
        rw [List.getElem?_take] at hj
        split at hj
        · exact hj
        · cases hj
      exact blk_drop hg.drew hcx 0 j v hj')
  have hkk : (n : Int) + 1 - (i : Int) = ((n + 1 - i : Nat) : Int) := by omega
  have hik : i + (n + 1 - i) = n + 1 := by omega
  obtain ⟨G, hG⟩ : ∃ G, G = grownCap w (n + 1) c 64 := ⟨_, rfl⟩
  have hGn : n + 1 ≤ G := by rw [hG]; exact grownCap_ge w _ _ _
  have hG63 : G ≤ 9223372036854775807 := by
    have := grownCap_le_maxLen w (n + 1) c 64 (by unfold maxLen; omega)
    rw [← hG] at this
    unfold maxLen at this
    omega
  obtain ⟨ROW, hROW⟩ : ∃ ROW : Array Value, ROW = (xs.take (i * 9)).toArray ++ Builtin.zeroCells (Value.agg #[.string ⟨#[]⟩, .string ⟨#[]⟩, .string ⟨#[]⟩, .string ⟨#[]⟩, .int .i64 0, .int .i64 0, .bool false, .int .i64 0, .bool false]).cells (n + 1 - i) ++ Builtin.zeroCells (Value.agg #[.string ⟨#[]⟩, .string ⟨#[]⟩, .string ⟨#[]⟩, .string ⟨#[]⟩, .int .i64 0, .int .i64 0, .bool false, .int .i64 0, .bool false]).cells (G - (n + 1)) := ⟨_, rfl⟩
  have hrz : ∀ ty, (Builtin.append_ #[24, 3] ty #[.slice (some ⟨g, 0, none⟩) i c, .int .i64 ((n : Int) + 1 - (i : Int))]).run Tryz.prog w =
      .ok (.slice (some ⟨w.heap.size, 0, none⟩) (n + 1) G) (w.drew.alloc (.cells ROW 64)) := fun ty => by
    have h := Lib.run_append_grow_zeros w 24 3 ty 64 i0 _ .i64 .i64 Tryz.underlying24 Tryz.underlying3 hi0 hz0 (some ⟨g, 0, none⟩) i c (xs.take (i * 9)) hold (n + 1 - i) (by omega) (by omega) (by omega) (by omega) (by rw [hzb]; omega) (by rw [hzb, hik]; exact growslice_fits hr (by omega))
    rw [hik] at h
    rw [hkk, hROW, hG]
    exact h
  have hRs : ROW.size = G * 9 := by
    rw [hROW]
    simp [Builtin.zeroCells, Value.cells]
    omega
  have hRl : ROW.toList.length = G * 9 := by rw [Array.length_toList]; exact hRs
  have hRt : ROW.toList.take (i * 9) = xs.take (i * 9) := by
    rw [hROW, Array.toList_append, Array.toList_append, List.append_assoc, List.take_append_of_le_length (by simp; omega), List.toList_toArray, List.take_take, Nat.min_self]
  have HB2 : Hid ((splice (splice ROW.toList (i * 9) vs) ((i + 1) * 9) (xs.drop (i * 9))).take ((n + 1) * 9) = xs.take (i * 9) ++ vs ++ xs.drop (i * 9)) := by
    refine hid ?_
    have h := splice_new ROW.toList xs vs (i * 9) (n * 9) hRt hxl (by omega) (by rw [hRl, hvl]; omega)
    rw [hvl] at h
    rw [Nat.add_mul, Nat.add_mul, Nat.one_mul]
    exact h
  have hgl := hg.lt
  have hvlt := hv.lt
  have HN := hid (Blk.new_ w.drew 64 ROW (g := w.heap.size) rfl)
  have HV := hid ((hv.drew).alloc (.cells ROW 64))
  have HG0 := hid ((hg.drew).alloc (.cells ROW 64))
  have HC1 : Hid (vs.length = Nat.min 1 (n + 1 - i) * 9) := by
    refine hid ?_
    rw [hvl, show Nat.min 1 (n + 1 - i) = 1 from Nat.min_eq_left (by omega)]
  have HC2 : Hid (i * 9 + vs.length ≤ ROW.size) := hid (by rw [hRs, hvl]; omega)
  have HC2' : Hid (i * 9 + vs.length ≤ ROW.toList.length) := hid (by rw [hRl, hvl]; omega)
  have HC3 : Hid ((xs.drop (i * 9)).length = Nat.min (n - i) (n - i) * 9) := by
    refine hid ?_
    rw [List.length_drop, hxl, show Nat.min (n - i) (n - i) = n - i from Nat.min_self _, Nat.sub_mul]
  have HC4 : Hid ((i + 1) * 9 + (xs.drop (i * 9)).length ≤ (splice ROW.toList (i * 9) vs).toArray.size) := by
    refine hid ?_
    rw [List.size_toArray, length_splice _ _ _ HC2'.out, hRl, List.length_drop]
    omega
  have HC5 := hid (fun v (hv : v ∈ xs.drop (i * 9)) => h1x v (List.mem_of_mem_drop hv))
  have HRL := hid hRl
  have HXL := hid hxl
  have HVL := hid hvl
  have HCX := hid hcx
  have HRS := hid hRs
  have HNE : Hid (w.heap.size ≠ g) := hid (by omega)
  have HNV : Hid (w.heap.size ≠ vb) := hid (by omega)
  clear hRl hxl hvl hcx hRs hold hi0 hz0 hzs hzb hkk hik hROW hG hg hv hcs hcl hRt
  have hw1 : IntKind.i64.wrap ((i : Int) + 1) = (i : Int) + 1 := by rw [IntWalk.i64_in _ (by omega)]
  have hb1 : (0 : Int) ≤ (i : Int) + 1 := by omega
  have htn : ((i : Int) + 1).toNat = i + 1 := by omega
  have hb3 : (i : Int) ≤ (n : Int) + 1 := by omega
  have hb4 : (i : Int) + 1 ≤ (n : Int) + 1 := by omega
  have hb5 : (i : Int) ≤ (n : Int) := by omega
  have hb6 : ¬ c = i := by omega
  have hb7 : ¬ G = i + 1 := by omega
  have hb9 : ¬ G = i := by omega
  have hb8 : ((i : Int) == (n : Int)) = false := by simp; omega
  go_enter Tryz.func135, Tryz.ntmps135
  go_wp2_with (first
    | (at_builtin; refine Lib.wpList_append_run _ rfl _ _ _ _ rfl _ _ rfl rfl _ _ (hrz _) ?_; clear hrz)
    | (refine wpList_copyN rfl (.tmp 43) (.tmp 44) 24 24 rfl 64 9 Tryz.underlying24 cellsSv w.heap.size (i * 9) (n + 1 - i) (G - i) ⟨vb, 0, none⟩ 1 vc (by simp [Act.eval]) (by simp [Act.eval]) ROW 64 HN.out.drew vs HC1.out (blk_at HV.out.drew hvc) HC2.out h1 ?_; intro w1 hk1 hg1 hd1))
  have HK1 := hid hk1
  have HG1 := hid hg1
  have HG0' := hid ((show Blk (w.alloc (.cells ROW 64)).drew g 64 cur from HG0.out).grown hg1 (fun e => HNE.out (by injection e with e; exact e.symm)))
  have HC2a := hid (fun j v (hj : (xs.drop (i * 9))[j]? = some v) => blk_drop HG0'.out.drew HCX.out (i * 9) j v hj)
  clear hk1 hg1
  go_region_law (refine step_copyN rfl (.tmp 50) (.tmp 53) 24 24 rfl 64 9 Tryz.underlying24 cellsSv w.heap.size ((i + 1) * 9) (n - i) (G - (i + 1)) ⟨g, i * 9, none⟩ (n - i) (c - i) (by simp [Act.eval, Act.put]) (by simp [Act.eval, Act.put]) _ 64 HK1.out.drew (xs.drop (i * 9)) HC3.out HC2a.out HC4.out HC5.out ?_; intro w2 hk2 hg2 hd2)
  have HK2 := hid hk2
  have HG2 := hid hg2
  clear hk2 hg2
  go_wp2
  go_ret
  refine ⟨_, _, rfl, ⟨?_, .inr ⟨w.heap.size, G, _, rfl, hbase, HK2.out, hGn, by simpa [maxLen] using hG63, ?_, ?_⟩⟩, ?_, fun k hk => .inr (Nat.le_of_eq (show w.heap.size = k by injection hk))⟩
  · simp only [List.length_append, List.length_take, List.length_drop]
    have := HXL.out; have := HVL.out
    omega
  · have h1 := length_splice ROW.toList (i * 9) vs HC2'.out
    have h2 := length_splice (splice ROW.toList (i * 9) vs) ((i + 1) * 9) (xs.drop (i * 9)) (by simpa using HC4.out)
    rw [List.size_toArray, List.toList_toArray, h2, h1]
    simpa using HRS.out
  · rw [List.toList_toArray, List.toList_toArray]
    exact HB2.out
  · exact ((((Fr.refl _ w).alloc _).drew.grown HG1.out (fun k hk => .inr (by injection hk with hk; omega)) hd1).drew).grown HG2.out (fun k hk => .inr (by injection hk with hk; omega)) hd2
theorem insSv_any (base : Nat) (A : Option Addr) (n c i : Nat) (xs : List Value) (vb vc : Nat) (vcur : Array Value) (vs : List Value) (w : World) (hown : w.ownsRow base 64 9 (.slice A n c) n xs) (hbase : base ≤ w.heap.size)
  (hi : i ≤ n) (hn : n ≤ 1000) (hv : Blk w vb 64 vcur) (hvc : vcur.toList.take 9 = vs) (hne : (Value.slice A n c).ownBlock ≠ some vb) (hvl : vs.length = 9) (h1 : ∀ v ∈ vs, v.oneCell' = true) (h1x : ∀ v ∈ xs, v.oneCell' = true) :
  Calls Tryz.prog 135 #[.slice A n c, .int .i64 i, .slice (some ⟨vb, 0, none⟩) 1 vc] w (InsSv (LB A) base n i xs vs w) := by
 by_cases hin : i = n
 ·subst hin
  exact insSv_end base A i c xs vb vc vcur vs w hown hbase hn hv hvc hvl h1
 ·obtain ⟨hl, h2⟩ := hown
  rcases h2 with ⟨_, h0⟩ | ⟨g, cap, cur, hA, hbg, hh, hnc, hm, hsz, htk⟩
  ·omega
  ·injection hA with hA _ hcap
   subst hA; subst hcap
   have hne' : vb ≠ g := fun e => hne (by subst e; rfl)
   by_cases hr : n + 1 ≤ c
   ·exact insSv_room base g n c i cur xs vb vc vcur vs w hh hbg hsz htk (by omega) hr (by simpa [maxLen] using hm) hn hv hvc hne' hvl h1 h1x
   ·exact insSv_grow base g n c i cur xs vb vc vcur vs w hh hbase hsz htk (by omega) hnc (by omega) hn hv hvc hvl h1 h1x
end Go.Proofs.YtkclokmfomnbgaaGreat
namespace Go.Proofs.YtkclokmfomnbgaaGreat
open Go.RowKit
set_option linter.unusedVariables false
def ClnSv (base n : Nat) (xs : List Value) (w : World) (e : Ending) (w' : World) : Prop :=
 ∃ A' c', e = .returned (.slice A' n c') ∧ w'.ownsRow base 64 9 (.slice A' n c') n xs ∧ Below base w w' ∧ w.drawn ≤ w'.drawn
set_option maxRecDepth 100000 in
theorem clnSv_any (A : Option Addr) (n c : Nat) (xs : List Value) (w : World) (hA : A = none → n = 0) (hn : n ≤ 1000) (hxl : xs.length = n * 9) (hx : ∀ ad, A = some ad → ∀ j u, xs[j]? = some u → w.cell? (ad.add j) = some u) (h1 : ∀ v ∈ xs, v.oneCell' = true) :
  Calls Tryz.prog 117 #[.slice A n c] w (ClnSv w.heap.size n xs w) := by
 obtain ⟨i0, hi0, hz0, hzs, hzb⟩ := info_parts infoSv
 cases A with
 | none =>
  obtain rfl := hA rfl
  obtain rfl : xs = [] := List.eq_nil_of_length_eq_zero (by simpa using hxl)
  clear hx hxl hi0 hz0 hzs hzb h1
  have hnl := fun (w : World) => Lib.run_eql_slice_nil (P := Tryz.prog) w 24 64 none 0 c 0 0 Tryz.underlying24
  go_enter Tryz.func117, Tryz.ntmps117
  go_wp2
  go_ret
  exact ⟨none, 0, rfl, World.ownsRow_nil _ _ _ _, Below.refl _ _, Nat.le_refl _⟩
 | some ad =>
  have HX := hid (hx ad rfl)
  have HXL := hid hxl
  have HZ0 := hid hz0
  have HZS := hid hzs
  have HZB := hid hzb
  have HI0 := hid hi0
  clear hx hxl hA hi0 hz0 hzs hzb
  have hnl := fun (w : World) => Lib.run_eql_slice_nil (P := Tryz.prog) w 24 64 (some ad) n c 0 0 Tryz.underlying24
  go_enter Tryz.func117, Tryz.ntmps117
  have hown0 : (w.alloc (.cells #[] 64)).ownsRow w.heap.size 64 9 (.slice (some ⟨w.heap.size, 0, none⟩) 0 0) 0 [] :=
   ⟨by simp, .inr ⟨w.heap.size, 0, #[], rfl, Nat.le_refl _, heap_alloc_new w _, by omega, by simp [maxLen], by simp, by simp⟩⟩
  have HO := hid hown0
  have HX1 := hid (fun j u (hj : xs[j]? = some u) => (World.cell?_alloc_lt w (.cells #[] 64) (ad.add j) (cell_lt (HX.out j u hj))).trans (HX.out j u hj))
  clear hown0
  go_wp2_with (at_builtin; refine wpList_appD _ rfl _ _ 24 rfl w.heap.size 64 i0 _ 9 104 Tryz.underlying24 HI0.out HZ0.out HZS.out HZB.out rfl (by decide) _ _ _ rfl HO.out ad n c xs rfl HXL.out HX1.out h1 (by simp only [maxLen]; omega) (by omega) (by simp) ?_; intro v1 w1 hown1 hg1 hd1 hat1)
  go_ret
  rw [Nat.zero_add, List.nil_append] at hown1
  obtain ⟨A', c', rfl⟩ := own_form hown1
  exact ⟨A', c', rfl, hown1, ((Below.refl _ _).alloc (Nat.le_refl _) _).grown hg1 (by simp) (own_base HO.out), hd1⟩
end Go.Proofs.YtkclokmfomnbgaaGreat
namespace Go.Proofs.YtkclokmfomnbgaaGreat
open Go.RowKit
set_option linter.unusedVariables false
theorem cloneSv_fun {α : Type} (enc : α → List Value) (he : ∀ x, (enc x).length = 9) (h1 : ∀ x, ∀ v ∈ enc x, v.oneCell' = true) (cl : Bool) (l : List α) (hl : l.length ≤ 1000) :
  Fun Tryz.prog 117 [.c (.sl cl (l.map fun x => (enc x).map .v))] [.o 64 9 (l.map fun x => (enc x).map .v)] := by
 refine ⟨callable Tryz.func117 (by kernel_rfl) (by kernel_rfl), fun w R xs hlt hp => ?_⟩
 obtain ⟨v, rfl, hv⟩ := pars_one hp
 obtain ⟨A, c, rfl, hA, hx⟩ := sl_cells he hv
 have hone : ∀ v ∈ l.flatMap enc, v.oneCell' = true := fun v hv => by
  obtain ⟨g, _, hg⟩ := List.mem_flatMap.1 hv
  exact h1 g v hg
 refine (clnSv_any A l.length c (l.flatMap enc) w hA hl (flat_len he l) hx hone).mono ?_
 rintro e w' ⟨A', c', rfl, hown, hb, hd⟩
 exact own_result he h1 (by decide) hlt hown (fr_of_below hb hd) (fun k hk => .inr (own_base hown k hk)) (fun k hk => by have := own_base hown k hk; intro h; have := hlt k h; omega)
set_option maxHeartbeats 1000000 in
theorem insertSv_fun {α : Type} (enc : α → List Value) (he : ∀ x, (enc x).length = 9) (h1 : ∀ x, ∀ v ∈ enc x, v.oneCell' = true) (l : List α) (x : α) (i : Nat) (hi : i ≤ l.length) (hl : l.length ≤ 1000) :
  Fun Tryz.prog 135 [.o 64 9 (l.map fun x => (enc x).map .v), .c (.v (.int .i64 i)), .o 64 9 [(enc x).map .v]] [.o 64 9 ((l.take i ++ [x] ++ l.drop i).map fun x => (enc x).map .v)] := by
 refine ⟨callable Tryz.func135 (by kernel_rfl) (by kernel_rfl), fun w R xs hlt hp => ?_⟩
 obtain ⟨v0, v2, rfl, o0, o2, hap, hf0⟩ := pars_ins (enc := enc) he hp
 obtain ⟨A, c, rfl⟩ := own_form o0
 rcases o2.2 with ⟨_, h0⟩ | ⟨g, cap, cur, rfl, _, hh, hcap, _, hsz, htk⟩
 ·omega
 have hone : ∀ v ∈ l.flatMap enc, v.oneCell' = true := fun v hv => by
  obtain ⟨g, _, hg⟩ := List.mem_flatMap.1 hv
  exact h1 g v hg
 refine (insSv_any 0 A l.length c i (l.flatMap enc) g cap cur (enc x) w o0 (Nat.zero_le _) hi hl hh (by rw [Nat.one_mul] at htk; exact htk) (fun e => hap g e rfl) (he x) (h1 x) hone).mono ?_
 rintro e w' ⟨A', c', rfl, hown, hb, hk⟩
 rw [flat_ins he l x i, show l.length + 1 = (l.take i ++ [x] ++ l.drop i).length by simp; omega] at hown
 rw [show l.length + 1 = (l.take i ++ [x] ++ l.drop i).length by simp; omega] at hk ⊢
 have hL : ∀ k, LB A k → ParBlk [.o 64 9 (l.map fun x => (enc x).map .v), .c (.v (.int .i64 i)), .o 64 9 [(enc x).map .v]] [.slice A l.length c, .int .i64 i, .slice (some ⟨g, 0, none⟩) 1 cap] k := fun k ⟨a, ha, hq⟩ => ⟨0, _, _, _, _, rfl, rfl, by subst ha; simp only [Value.ownBlock]; rw [hq]⟩
 exact own_result he h1 (by decide) hlt hown (hb.imp hL) (fun k hk' => (hk k hk').imp (hL k) (fun h => h)) (fun k hk' => by
  rcases hk k hk' with h | h
  ·exact hf0 k (hL k h)
  ·intro h'; have := hlt k h'; omega)
end Go.Proofs.YtkclokmfomnbgaaGreat
namespace Go.Proofs.YtkclokmfomnbgaaGreat
open Go.RowKit Pl
set_option linter.unusedVariables false
theorem swithin_fun (n a b : Int) : Fun Tryz.prog 190 [.c (.v (.int .i64 n)), .c (.v (.int .i64 a)), .c (.v (.int .i64 b))] [.c (.v (.bool (wi n a b)))] := by
 refine fun_x ck_catalog_within rfl ?_
 refine G0 ?_
 (refine bIf_of (fun h => ?_) (fun h => ?_) <;> rw [h])
 ·refine G0 ?_
  rw [wi_t h]
  (exact ⟨[], aI⟩)
 ·refine G0 ?_
  rw [wi_f h]
  (exact ⟨[], aI⟩)
theorem maybe_fun (s : ByteArray) (hs : s.size ≤ 9223372036854775807) : Fun Tryz.prog 189 [.c (.v (.string s))] [.c (.v (.bool (mayb s)))] := by
 refine fun_x ck_catalog_maybe rfl ?_
 refine G0 ?_
 (refine bIf_of (fun h => ?_) (fun h => ?_) <;> rw [h])
 ·refine G0 ?_
  rw [show mayb s = true by unfold mayb; rw [show emp s = true from h]; rfl]
  (exact ⟨[], aI⟩)
 ·refine G0 ?_
  (refine .inl ⟨_, _, false, [], aI, label_fun _ hs, nobor, nI, ?_⟩)
  refine G1 ?_; intro gg
  rw [show mayb s = lab s.data.toList by unfold mayb; rw [show emp s = false from h]; rfl]
  (exact ⟨[], aI⟩)
theorem sone_fun (m : Sv) (hm : m.ok) : Fun Tryz.prog 155 [.c (.agg m.row)] [.c (.v (.int .i64 m.err))] := by
 obtain ⟨o1, o2, o3, o4⟩ := hm
 refine fun_x ck_catalog_one rfl ?_
 refine G1 ?_; intro gg
 (refine .inl ⟨_, _, false, [], aI, label_fun _ o1, nobor, nI, ?_⟩)
 refine G1 ?_; intro gg
 (refine bIf_of (fun h1 => ?_) (fun h1 => ?_) <;> rw [h1])
 ·refine G0 ?_
  (rw [show m.err = 1 from by (first | (simp_all ; done) | (unfold Sv.err; simp_all))]; (exact ⟨[], aI⟩))
 ·refine G0 ?_
  (refine .inl ⟨_, _, false, [], aI, label_fun _ o2, nobor, nI, ?_⟩)
  refine G1 ?_; intro gg
  (refine bIf_of (fun h2 => ?_) (fun h2 => ?_) <;> rw [h2])
  ·refine G0 ?_
   (rw [show m.err = 1 from by (first | (simp_all ; done) | (unfold Sv.err; simp_all))]; (exact ⟨[], aI⟩))
  ·refine G0 ?_
   (refine .inl ⟨_, _, false, [], aI, label_fun _ o3, nobor, nI, ?_⟩)
   refine G1 ?_; intro gg
   (refine bIf_of (fun h3 => ?_) (fun h3 => ?_) <;> rw [h3])
   ·refine G0 ?_
    (rw [show m.err = 1 from by (first | (simp_all ; done) | (unfold Sv.err; simp_all))]; (exact ⟨[], aI⟩))
   ·refine G0 ?_
    (refine .inl ⟨_, _, false, [], aI, maybe_fun _ o4, nobor, nI, ?_⟩)
    refine G1 ?_; intro gg
    (refine bIf_of (fun h4 => ?_) (fun h4 => ?_) <;> rw [h4])
    ·refine G0 ?_
     (rw [show m.err = 1 from by (first | (simp_all ; done) | (unfold Sv.err; simp_all))]; (exact ⟨[], aI⟩))
    ·refine G0 ?_
     (refine .inl ⟨_, _, false, [], aI, swithin_fun _ _ _, nobor, nI, ?_⟩)
     refine G1 ?_; intro gg
     (refine bIf_of (fun h5 => ?_) (fun h5 => ?_) <;> rw [h5])
     ·refine G0 ?_
      (rw [show m.err = 3 from by (first | (simp_all ; done) | (unfold Sv.err; simp_all))]; (exact ⟨[], aI⟩))
     ·refine G0 ?_
      (refine .inl ⟨_, _, false, [], aI, swithin_fun _ _ _, nobor, nI, ?_⟩)
      refine G1 ?_; intro gg
      (refine bIf_of (fun h6 => ?_) (fun h6 => ?_) <;> rw [h6])
      ·refine G0 ?_
       (rw [show m.err = 3 from by (first | (simp_all ; done) | (unfold Sv.err; simp_all))]; (exact ⟨[], aI⟩))
      ·refine G0 ?_
       (refine .inl ⟨_, _, false, [], aI, swithin_fun _ _ _, nobor, nI, ?_⟩)
       refine G1 ?_; intro gg
       (refine bIf_of (fun h7 => ?_) (fun h7 => ?_) <;> rw [h7])
       ·refine G0 ?_
        (rw [show m.err = 3 from by (first | (simp_all ; done) | (unfold Sv.err; simp_all))]; (exact ⟨[], aI⟩))
       ·refine G0 ?_
        (rw [show m.err = 0 from by (first | (simp_all ; done) | (unfold Sv.err; simp_all))]; (exact ⟨[], aI⟩))
theorem rsone_fun (m : Sv) (hm : m.ok) : Fun Tryz.prog 113 [.c (.agg m.row)] [.c (.v (.int .i64 m.err))] := by
 obtain ⟨o1, o2, o3, o4⟩ := hm
 refine fun_x ck_hearsayref_OneService rfl ?_
 refine G1 ?_; intro gg
 (refine .inl ⟨_, _, false, [], aI, rlabel_fun _ o1, nobor, nI, ?_⟩)
 refine G1 ?_; intro gg
 (refine bIf_of (fun h1 => ?_) (fun h1 => ?_) <;> rw [h1])
 ·refine G0 ?_
  (rw [show m.err = 1 from by (first | (simp_all ; done) | (unfold Sv.err; simp_all))]; (exact ⟨[], aI⟩))
 ·refine G0 ?_
  (refine .inl ⟨_, _, false, [], aI, rlabel_fun _ o2, nobor, nI, ?_⟩)
  refine G1 ?_; intro gg
  (refine bIf_of (fun h2 => ?_) (fun h2 => ?_) <;> rw [h2])
  ·refine G0 ?_
   (rw [show m.err = 1 from by (first | (simp_all ; done) | (unfold Sv.err; simp_all))]; (exact ⟨[], aI⟩))
  ·refine G0 ?_
   (refine .inl ⟨_, _, false, [], aI, rlabel_fun _ o3, nobor, nI, ?_⟩)
   refine G1 ?_; intro gg
   (refine bIf_of (fun h3 => ?_) (fun h3 => ?_) <;> rw [h3])
   ·refine G0 ?_
    (rw [show m.err = 1 from by (first | (simp_all ; done) | (unfold Sv.err; simp_all))]; (exact ⟨[], aI⟩))
   ·refine G0 ?_
    (refine bIf_of (fun h4 => ?_) (fun h4 => ?_) <;> rw [h4])
    ·have hmb : mayb m.tg = lab m.tg.data.toList := by unfold mayb; rw [show emp m.tg = false from not_t h4]; rfl
     refine G0 ?_
     (refine .inl ⟨_, _, false, [], aI, rlabel_fun _ o4, nobor, nI, ?_⟩)
     refine G1 ?_; intro gg
     (refine bIf_of (fun h5 => ?_) (fun h5 => ?_) <;> rw [h5])
     ·refine G0 ?_
      (rw [show m.err = 1 from by (first | (simp_all ; done) | (unfold Sv.err; simp_all))]; (exact ⟨[], aI⟩))
     ·refine G0 ?_
      (refine .inl ⟨_, _, false, [], aI, address_fun _, nobor, nI, ?_⟩)
      refine G1 ?_; intro gg
      (refine bIf_of (fun h6 => ?_) (fun h6 => ?_) <;> rw [h6])
      ·refine G0 ?_
       (rw [show m.err = 3 from by (first | (simp_all ; done) | (unfold Sv.err; simp_all))]; (exact ⟨[], aI⟩))
      ·refine G0 ?_
       (refine .inl ⟨_, _, false, [], aI, between_fun _ _ _, nobor, nI, ?_⟩)
       refine G1 ?_; intro gg
       (refine bIf_of (fun h7 => ?_) (fun h7 => ?_) <;> rw [h7])
       ·refine G0 ?_
        (rw [show m.err = 3 from by (first | (simp_all ; done) | (unfold Sv.err; simp_all))]; (exact ⟨[], aI⟩))
       ·refine G0 ?_
        (refine .inl ⟨_, _, false, [], aI, between_fun _ _ _, nobor, nI, ?_⟩)
        refine G1 ?_; intro gg
        (refine bIf_of (fun h8 => ?_) (fun h8 => ?_) <;> rw [h8])
        ·refine G0 ?_
         (rw [show m.err = 3 from by (first | (simp_all ; done) | (unfold Sv.err; simp_all))]; (exact ⟨[], aI⟩))
        ·refine G0 ?_
         (rw [show m.err = 0 from by (first | (simp_all ; done) | (unfold Sv.err; simp_all))]; (exact ⟨[], aI⟩))
    ·have hmb : mayb m.tg = true := by unfold mayb; rw [show emp m.tg = true from not_f h4]; rfl
     refine G0 ?_
     (refine .inl ⟨_, _, false, [], aI, address_fun _, nobor, nI, ?_⟩)
     refine G1 ?_; intro gg
     (refine bIf_of (fun h6 => ?_) (fun h6 => ?_) <;> rw [h6])
     ·refine G0 ?_
      (rw [show m.err = 3 from by (first | (simp_all ; done) | (unfold Sv.err; simp_all))]; (exact ⟨[], aI⟩))
     ·refine G0 ?_
      (refine .inl ⟨_, _, false, [], aI, between_fun _ _ _, nobor, nI, ?_⟩)
      refine G1 ?_; intro gg
      (refine bIf_of (fun h7 => ?_) (fun h7 => ?_) <;> rw [h7])
      ·refine G0 ?_
       (rw [show m.err = 3 from by (first | (simp_all ; done) | (unfold Sv.err; simp_all))]; (exact ⟨[], aI⟩))
      ·refine G0 ?_
       (refine .inl ⟨_, _, false, [], aI, between_fun _ _ _, nobor, nI, ?_⟩)
       refine G1 ?_; intro gg
       (refine bIf_of (fun h8 => ?_) (fun h8 => ?_) <;> rw [h8])
       ·refine G0 ?_
        (rw [show m.err = 3 from by (first | (simp_all ; done) | (unfold Sv.err; simp_all))]; (exact ⟨[], aI⟩))
       ·refine G0 ?_
        (rw [show m.err = 0 from by (first | (simp_all ; done) | (unfold Sv.err; simp_all))]; (exact ⟨[], aI⟩))
theorem order_fun (g x : Sv) : Fun Tryz.prog 162 [.c (.agg g.row), .c (.agg x.row)] [.c (.v (.int .i64 (Sv.cf x.nd x.id g)))] := by
 refine fun_x ck_catalog_order rfl ?_
 (refine goI ?_; repeat (intro gg; refine goI ?_))
 (refine ⟨_, _, false, aI, cmps_fun _ _, nobor, nI, ?_⟩)
 refine G1 ?_; intro gg
 (refine .inl ⟨_, _, false, [], aI, cmps_fun _ _, nobor, nI, ?_⟩)
 (refine goI ?_; repeat (intro gg; refine goI ?_))
 (refine .inl ⟨_, _, true, [], aI, or_fun false [scmp g.nd x.nd, scmp g.id x.id] (by simp), (fun _ => fI), nI, ?_⟩)
 refine G1 ?_; intro gg
 (exact ⟨[], aI⟩)
theorem ahead_fun (g x : Sv) : Fun Tryz.prog 114 [.c (.agg g.row), .c (.agg x.row)] [.c (.v (.bool (Sv.lt g x)))] := by
 refine fun_x ck_hearsayref_ahead rfl ?_
 (refine goI ?_; repeat (intro gg; refine goI ?_))
 (refine bIf_of (fun h1 => ?_) (fun h1 => ?_) <;> rw [h1])
 ·refine G0 ?_
  rw [Sv.ahead1 h1]
  (exact ⟨[], aI⟩)
 ·refine G0 ?_
  (refine bIf_of (fun h2 => ?_) (fun h2 => ?_) <;> rw [h2])
  ·refine G0 ?_
   rw [Sv.ahead2 h1 h2]
   (exact ⟨[], aI⟩)
  ·refine G0 ?_
   rw [Sv.ahead3 h1 h2]
   (exact ⟨[], aI⟩)
theorem snumber_fun (b : Bool) : Fun Tryz.prog 181 [.c (.v (.bool b))] [.c (.v (.int .i64 (b2i b)))] := by
 refine fun_x ck_catalog_number rfl ?_
 refine G0 ?_
 (refine bIf_of (fun h => ?_) (fun h => ?_) <;> rw [h])
 ·refine G0 ?_
  (exact ⟨[], aI⟩)
 ·refine G0 ?_
  (exact ⟨[], aI⟩)
theorem scmp_fun (g x : Sv) : Fun Tryz.prog 136 [.c (.agg g.row), .c (.agg x.row)] [.c (.v (.int .i64 (Sv.cmp g x)))] := by
 refine fun_x ck_catalog_compare rfl ?_
 (refine goI ?_; repeat (intro gg; refine goI ?_))
 (refine ⟨_, _, false, aI, cmpi_fun _ _, nobor, nI, ?_⟩)
 refine G1 ?_; intro gg
 (refine ⟨_, _, false, aI, snumber_fun _, nobor, nI, ?_⟩)
 refine G1 ?_; intro gg
 (refine ⟨_, _, false, aI, snumber_fun _, nobor, nI, ?_⟩)
 refine G1 ?_; intro gg
 (refine ⟨_, _, false, aI, cmpi_fun _ _, nobor, nI, ?_⟩)
 refine G1 ?_; intro gg
 (refine ⟨_, _, false, aI, cmps_fun _ _, nobor, nI, ?_⟩)
 refine G1 ?_; intro gg
 (refine ⟨_, _, false, aI, cmps_fun _ _, nobor, nI, ?_⟩)
 refine G1 ?_; intro gg
 (refine ⟨_, _, false, aI, cmpi_fun _ _, nobor, nI, ?_⟩)
 refine G1 ?_; intro gg
 (refine ⟨_, _, false, aI, cmpi_fun _ _, nobor, nI, ?_⟩)
 refine G1 ?_; intro gg
 (refine ⟨_, _, false, aI, snumber_fun _, nobor, nI, ?_⟩)
 refine G1 ?_; intro gg
 (refine .inl ⟨_, _, false, [], aI, snumber_fun _, nobor, nI, ?_⟩)
 refine G1 ?_; intro gg
 (refine .inl ⟨_, _, false, [], aI, cmpi_fun _ _, nobor, nI, ?_⟩)
 (refine goI ?_; repeat (intro gg; refine goI ?_))
 (refine .inl ⟨_, _, true, [], aI, or_fun false [icmp g.vs x.vs, icmp (b2i g.gn) (b2i x.gn), scmp g.nm x.nm, scmp g.tg x.tg, icmp g.ad x.ad, icmp g.pt x.pt, icmp (b2i g.ps) (b2i x.ps)] (by simp), (fun _ => fI), nI, ?_⟩)
 refine G1 ?_; intro gg
 (exact ⟨[], aI⟩)
theorem rsnewer_fun (g x : Sv) : Fun Tryz.prog 87 [.c (.agg g.row), .c (.agg x.row)] [.c (.v (.bool (Sv.nw g x)))] := by
 have e1 : Sv.nw g x = decide (0 < firstNZ [icmp g.vs x.vs, icmp (b2i g.gn) (b2i x.gn), scmp g.nm x.nm, scmp g.tg x.tg, icmp g.ad x.ad, icmp g.pt x.pt, icmp (b2i g.ps) (b2i x.ps)]) := rfl
 refine fun_x ck_hearsayref_NewerService rfl ?_
 (refine goI ?_; repeat (intro gg; refine goI ?_))
 (refine bIf_of (fun h1 => ?_) (fun h1 => ?_) <;> rw [h1])
 ·refine G0 ?_
  rw [e1, nz_ne h1]
  (exact ⟨[], aI⟩)
 ·rw [nz_eq h1] at e1
  refine G0 ?_
  (refine bIf_of (fun h2 => ?_) (fun h2 => ?_) <;> rw [h2])
  ·refine G0 ?_
   rw [e1, nzb_ne h2]
   (exact ⟨[], aI⟩)
  ·rw [nzb_eq h2] at e1
   refine G0 ?_
   (refine bIf_of (fun h3 => ?_) (fun h3 => ?_) <;> rw [h3])
   ·refine G0 ?_
    rw [e1, nzs_ne h3, ← sgt_eq]
    (exact ⟨[], aI⟩)
   ·rw [nzs_eq h3] at e1
    refine G0 ?_
    (refine bIf_of (fun h4 => ?_) (fun h4 => ?_) <;> rw [h4])
    ·refine G0 ?_
     rw [e1, nzs_ne h4, ← sgt_eq]
     (exact ⟨[], aI⟩)
    ·rw [nzs_eq h4] at e1
     refine G0 ?_
     (refine bIf_of (fun h5 => ?_) (fun h5 => ?_) <;> rw [h5])
     ·refine G0 ?_
      rw [e1, nz_ne h5]
      (exact ⟨[], aI⟩)
     ·rw [nz_eq h5] at e1
      refine G0 ?_
      (refine bIf_of (fun h6 => ?_) (fun h6 => ?_) <;> rw [h6])
      ·refine G0 ?_
       rw [e1, nz_ne h6]
       (exact ⟨[], aI⟩)
      ·rw [nz_eq h6, nzb_last] at e1
       refine G0 ?_
       (refine bIf_of (fun h7 => ?_) (fun h7 => ?_) <;> rw [h7])
       ·refine G0 ?_
        rw [e1, h7, Bool.true_and]
        (exact ⟨[], aI⟩)
       ·refine G0 ?_
        rw [e1, h7, Bool.false_and]
        (exact ⟨[], aI⟩)
def slsRow (l : List Sv) : List V := [.sl false (l.map Sv.row)]
theorem scheck_fun (c : Bool) (ls : List (List Sv)) (hls : ls.length ≤ 9223372036854775807) (hl : ∀ l ∈ ls, l.length ≤ 9223372036854775807) (hw : ∀ l ∈ ls, ∀ m ∈ l, m.ok) : Fun Tryz.prog 105 [.c (.sl c (ls.map slsRow))] [.c (.v (.int .i64 (firstErr ckSv ls)))] := by
 refine fun_x ck_catalog_check rfl ?_
 refine G0 ?_
 rw [List.length_map]
 (refine ⟨[], none, {k : Nat // k ≤ ls.length ∧ ∀ j, (h : j < ls.length) → j < k → ckSv (ls[j]) = 0}, [9, 10], fun ⟨k, hk, h0⟩ => [(11, .v (.int .i64 k))], [], fun ⟨k, hk, h0⟩ => [], fun ⟨k, hk, h0⟩ => ls.length - k, trivial, fun _ => ⟨trivial, fun _ => ⟨⟨0, by omega, fun j _ h => by omega⟩, tI, keptE_refl _ _, tI, keptH_refl _ _⟩⟩, fun ⟨k, hk, h0⟩ => ?_⟩)
 refine G0 ?_
 (refine bIf_of (fun h => ?_) (fun h => ?_) <;> rw [h])
 ·have hlt : k < ls.length := by simpa using h
  refine G0 ?_
  refine ⟨k, _, rfl, row_map hlt, ?_⟩
  refine G0 ?_
  have HL := hl _ (List.getElem_mem hlt)
  have HW := hw _ (List.getElem_mem hlt)
  have HE := firstErr_at (e := ckSv) hlt h0
  have HN : ckSv ls[k] = 0 → ∀ j, (h : j < ls.length) → j < k + 1 → ckSv (ls[j]) = 0 := fun e => up1 (p := fun j h => ckSv (ls[j]) = 0) h0 (fun _ => e)
  generalize ls[k] = l at *
  rw [List.length_map]
  (refine bIf_of (fun h1 => ?_) (fun h1 => ?_) <;> rw [h1])
  ·refine G0 ?_
   have e : ckSv l = 2 := ckL_long (by have := of_decide_eq_true h1; omega)
   rw [HE (by rw [e]; decide), e]
   (exact ⟨[], aI⟩)
  ·have h1' : ¬ 40 < l.length := (by have := of_decide_eq_false h1; omega)
   refine G0 ?_
   rw [List.length_map]
   (refine ⟨[], none, {q : Nat // q ≤ l.length ∧ ∀ j, (h : j < l.length) → j < q → (l[j]).err = 0}, [4, 9, 10, 11, 18, 19], fun ⟨q, hq, g0⟩ => [(20, .v (.int .i64 q))], [], fun ⟨q, hq, g0⟩ => [], fun ⟨q, hq, g0⟩ => l.length - q, trivial, fun _ => ⟨trivial, fun _ => ⟨⟨0, by omega, fun j _ h => by omega⟩, tI, keptE_refl _ _, tI, keptH_refl _ _⟩⟩, fun ⟨q, hq, g0⟩ => ?_⟩)
   refine G0 ?_
   (refine bIf_of (fun h2 => ?_) (fun h2 => ?_) <;> rw [h2])
   ·have hlt2 : q < l.length := (by have := of_decide_eq_true h2; omega)
    refine G0 ?_
    refine ⟨q, _, rfl, row_map hlt2, ?_⟩
    refine G1 ?_; intro gg
    (refine .inl ⟨_, _, false, [], aI, sone_fun _ (HW _ (List.getElem_mem hlt2)), nobor, nI, ?_⟩)
    refine G1 ?_; intro gg
    (refine bIf_of (fun h3 => ?_) (fun h3 => ?_) <;> rw [h3])
    ·have h3' : (l[q]).err ≠ 0 := by simpa using h3
     have e0 := firstErr_at hlt2 g0 h3'
     refine G0 ?_
     have e : ckSv l = (l[q]).err := (ckL_each h1' (by rw [e0]; exact h3')).trans e0
     rw [HE (by rw [e]; exact h3'), e]
     (exact ⟨[], aI⟩)
    ·refine G0 ?_
     (exact ⟨none, trivial, fun _ => ⟨⟨q + 1, by omega, up1 (p := fun j h => (l[j]).err = 0) g0 (fun _ => by simpa using h3)⟩, by show l.length - (q + 1) < l.length - q; omega, tI, tI, tI, tI⟩⟩)
   ·have hge2 : ¬ q < l.length := (by have := of_decide_eq_false h2; omega)
    have h2' : firstErr Sv.err l = 0 := firstErr_zero fun i hi => g0 i hi (by omega)
    refine G0 ?_
    (refine ⟨[], none, {k : Nat // (k < l.length ∨ k = 0) ∧ ∀ i, (h : i + 1 < l.length) → i < k → Sv.lt l[i] l[i + 1] = true}, [4, 9, 10, 11], fun ⟨q, hq, g0⟩ => [(8, .v (.int .i64 ((q : Int) + 1)))], [], fun ⟨q, hq, g0⟩ => [], fun ⟨q, hq, g0⟩ => l.length - q, trivial, fun _ => ⟨trivial, fun _ => ⟨⟨0, by omega, fun j _ h => by omega⟩, tI, keptE_refl _ _, tI, keptH_refl _ _⟩⟩, fun ⟨q, hq, g0⟩ => ?_⟩)
    refine G0 ?_
    rw [List.length_map]
    (refine bIf_of (fun h3 => ?_) (fun h3 => ?_) <;> rw [h3])
    ·have hlt3 : q + 1 < l.length := (by have := of_decide_eq_true h3; omega)
     refine G0 ?_
     refine ⟨q, _, by omega, row_map (by omega), ?_⟩
     refine G0 ?_
     refine ⟨q + 1, _, by omega, row_map hlt3, ?_⟩
     refine G0 ?_
     (refine .inl ⟨_, _, false, [], aI, order_fun _ _, nobor, nI, ?_⟩)
     refine G1 ?_; intro gg
     (refine bIf_of (fun h4 => ?_) (fun h4 => ?_) <;> rw [h4])
     ·refine G0 ?_
      have e : ckSv l = 4 := ckL_no h1' h2' (sorted_not hlt3 (decide_eq_false (by have := of_decide_eq_true h4; show ¬ Sv.cf l[q + 1].nd l[q + 1].id l[q] < 0; omega)))
      rw [HE (by rw [e]; decide), e]
      (exact ⟨[], aI⟩)
     ·refine G0 ?_
      (exact ⟨none, trivial, fun _ => ⟨⟨q + 1, by omega, up2 (p := fun i h => Sv.lt l[i] l[i + 1] = true) g0 (fun _ => decide_eq_true (by have := of_decide_eq_false h4; show Sv.cf l[q + 1].nd l[q + 1].id l[q] < 0; omega))⟩, by show l.length - (q + 1) < l.length - q; omega, tI, tI, tI, tI⟩⟩)
    ·have hge3 : ¬ q + 1 < l.length := (by have := of_decide_eq_false h3; omega)
     refine G0 ?_
     have e : ckSv l = 0 := ckL_yes h1' h2' (sorted_of fun i hi => g0 i hi (by omega))
     (exact ⟨none, trivial, fun _ => ⟨⟨k + 1, by omega, HN e⟩, by show ls.length - (k + 1) < ls.length - k; omega, tI, tI, tI, tI⟩⟩)
 ·have hge : ¬ k < ls.length := by simpa using h
  refine G0 ?_
  rw [firstErr_zero (l := ls) (fun i hi => h0 i hi (by omega))]
  (exact ⟨[], aI⟩)
theorem sCheck_fun (l : List Sv) (hl : l.length ≤ 9223372036854775807) (hw : ∀ m ∈ l, m.ok) : Fun Tryz.prog 45 [.c (.sl false (l.map Sv.row))] [.c (.v (.int .i64 (ckSv l)))] := by
 refine fun_x ck_catalog_Check rfl ?_
 refine G1 ?_; intro gg
 (refine .inl ⟨_, _, true, [], aI, scheck_fun false [l] (by simp) (by simpa using hl) (by simpa using hw), (fun _ => fI), nI, ?_⟩)
 rw [firstErr_one]
 refine G1 ?_; intro gg
 (exact ⟨[], aI⟩)
theorem rscheck_fun (c : Bool) (l : List Sv) (hl : l.length ≤ 9223372036854775807) (hw : ∀ m ∈ l, m.ok) : Fun Tryz.prog 53 [.c (.sl c (l.map Sv.row))] [.c (.v (.int .i64 (ckSv l)))] := by
 refine fun_x ck_hearsayref_CheckCatalog rfl ?_
 refine G0 ?_
 rw [List.length_map]
 (refine bIf_of (fun h1 => ?_) (fun h1 => ?_) <;> rw [h1])
 ·refine G0 ?_
  have e : ckSv l = 2 := ckL_long (by have := of_decide_eq_true h1; omega)
  rw [e]
  (exact ⟨[], aI⟩)
 ·have h1' : ¬ 40 < l.length := (by have := of_decide_eq_false h1; omega)
  refine G0 ?_
  (refine ⟨[], none, {k : Nat // k ≤ l.length ∧ ∀ j, (h : j < l.length) → j < k → (l[j]).err = 0}, [0], fun ⟨k, hk, h0⟩ => [(3, .v (.int .i64 k))], [], fun ⟨k, hk, h0⟩ => [], fun ⟨k, hk, h0⟩ => l.length - k, trivial, fun _ => ⟨trivial, fun _ => ⟨⟨0, by omega, fun j _ h => by omega⟩, tI, keptE_refl _ _, tI, keptH_refl _ _⟩⟩, fun ⟨k, hk, h0⟩ => ?_⟩)
  refine G0 ?_
  rw [List.length_map]
  (refine bIf_of (fun h => ?_) (fun h => ?_) <;> rw [h])
  ·have hlt : k < l.length := (by have := of_decide_eq_true h; omega)
   refine G0 ?_
   refine ⟨k, _, rfl, row_map hlt, ?_⟩
   refine G0 ?_
   (refine .inl ⟨_, _, false, [], aI, rsone_fun _ (hw _ (List.getElem_mem hlt)), nobor, nI, ?_⟩)
   refine G1 ?_; intro gg
   (refine bIf_of (fun h2 => ?_) (fun h2 => ?_) <;> rw [h2])
   ·refine G0 ?_
    have h2' : (l[k]).err ≠ 0 := by simpa using h2
    have e0 := firstErr_at hlt h0 h2'
    have e : ckSv l = (l[k]).err := (ckL_each h1' (by rw [e0]; exact h2')).trans e0
    rw [e]
    (exact ⟨[], aI⟩)
   ·refine G0 ?_
    (exact ⟨none, trivial, fun _ => ⟨⟨k + 1, by omega, up1 (p := fun j h => (l[j]).err = 0) h0 (fun _ => by simpa using h2)⟩, by show l.length - (k + 1) < l.length - k; omega, tI, tI, tI, tI⟩⟩)
  ·have hge : ¬ k < l.length := (by have := of_decide_eq_false h; omega)
   have h2' : firstErr Sv.err l = 0 := firstErr_zero fun i hi => h0 i hi (by omega)
   refine G0 ?_
   (refine ⟨[], none, {k : Nat // (k < l.length ∨ k = 0) ∧ ∀ i, (h : i + 1 < l.length) → i < k → Sv.lt l[i] l[i + 1] = true}, [0], fun ⟨q, hq, g0⟩ => [(5, .v (.int .i64 ((q : Int) + 1)))], [], fun ⟨q, hq, g0⟩ => [], fun ⟨q, hq, g0⟩ => l.length - q, trivial, fun _ => ⟨trivial, fun _ => ⟨⟨0, by omega, fun j _ h => by omega⟩, tI, keptE_refl _ _, tI, keptH_refl _ _⟩⟩, fun ⟨q, hq, g0⟩ => ?_⟩)
   refine G0 ?_
   rw [List.length_map]
   (refine bIf_of (fun h3 => ?_) (fun h3 => ?_) <;> rw [h3])
   ·have hlt3 : q + 1 < l.length := (by have := of_decide_eq_true h3; omega)
    refine G0 ?_
    refine ⟨q, _, by omega, row_map (by omega), ?_⟩
    refine G0 ?_
    refine ⟨q + 1, _, by omega, row_map hlt3, ?_⟩
    refine G0 ?_
    (refine .inl ⟨_, _, false, [], aI, ahead_fun _ _, nobor, nI, ?_⟩)
    refine G1 ?_; intro gg
    (refine bIf_of (fun h4 => ?_) (fun h4 => ?_) <;> rw [h4])
    ·refine G0 ?_
     have e : ckSv l = 4 := ckL_no h1' h2' (sorted_not hlt3 (not_t h4))
     rw [e]
     (exact ⟨[], aI⟩)
    ·refine G0 ?_
     (exact ⟨none, trivial, fun _ => ⟨⟨q + 1, by omega, up2 (p := fun i h => Sv.lt l[i] l[i + 1] = true) g0 (fun _ => not_f h4)⟩, by show l.length - (q + 1) < l.length - q; omega, tI, tI, tI, tI⟩⟩)
   ·have hge3 : ¬ q + 1 < l.length := (by have := of_decide_eq_false h3; omega)
    refine G0 ?_
    have e : ckSv l = 0 := ckL_yes h1' h2' (sorted_of fun i hi => g0 i hi (by omega))
    rw [e]
    (exact ⟨[], aI⟩)
theorem sbs_fun (c : Bool) (l : List Sv) (t : Sv) (hl : l.length ≤ 1000) (hm : Mono (Sv.cf t.nd t.id) l) : Fun Tryz.prog 178 [.c (.sl c (l.map Sv.row)), .c (.agg t.row), .c (.v (.func (.func 162) #[] #[]))] [.c (.v (.int .i64 (low (Sv.cf t.nd t.id) l))), .c (.v (.bool (hit (Sv.cf t.nd t.id) l)))] := by
 refine fun_x ck_slices_BinarySearchFunc_api_Service_api_Service_api_Service rfl ?_
 refine G1 ?_; intro gg
 rw [List.length_map]
 (refine ⟨[], none, {p : Nat × Nat // p.1 ≤ p.2 ∧ p.2 ≤ l.length ∧ (∀ k, (h : k < l.length) → k < p.1 → Sv.cf t.nd t.id l[k] < 0) ∧ (∀ k, (h : k < l.length) → p.2 ≤ k → 0 ≤ Sv.cf t.nd t.id l[k])}, [0, 2, 4, 8], fun ⟨⟨i, j⟩, h1, h2, h3, h4⟩ => [(9, .v (.int .i64 i)), (10, .v (.int .i64 j))], [64], fun ⟨⟨i, j⟩, h1, h2, h3, h4⟩ => [], fun ⟨⟨i, j⟩, h1, h2, h3, h4⟩ => j - i, trivial, fun _ => ⟨trivial, fun _ => ⟨⟨(0, l.length), by omega, by omega, fun k _ h => absurd h (by omega), fun k h h' => absurd h (by omega)⟩, tI, keptE_refl _ _, tI, keptH_refl _ _⟩⟩, fun ⟨⟨i, j⟩, h1, h2, h3, h4⟩ => ?_⟩)
 dsimp only at h1 h2 h3 h4
 refine G0 ?_
 (refine bIf_of (fun h => ?_) (fun h => ?_) <;> rw [h])
 ·have hlt : i < j := (by have := of_decide_eq_true h; omega)
  have hk : (i + j) / 2 < l.length := by omega
  refine G0 ?_
  refine ⟨(i + j) / 2, _, by omega, row_map hk, ?_⟩
  refine G0 ?_
  (refine .inl ⟨_, _, false, [], aI, order_fun _ _, nobor, nI, ?_⟩)
  refine G1 ?_; intro gg
  (refine bIf_of (fun h5 => ?_) (fun h5 => ?_) <;> rw [h5])
  ·have h5' : Sv.cf t.nd t.id l[(i + j) / 2] < 0 := by simpa using h5
   refine G0 ?_
   (exact ⟨none, trivial, fun _ => ⟨⟨((i + j) / 2 + 1, j), by dsimp only; omega, h2, fun k hk' hka => hm k ((i + j) / 2) hk' hk (by dsimp only at hka; omega) h5', h4⟩, by show j - ((i + j) / 2 + 1) < j - i; omega, tI, tI, tI, tI⟩⟩)
  ·have h5' : ¬ Sv.cf t.nd t.id l[(i + j) / 2] < 0 := by simpa using h5
   refine G0 ?_
   (exact ⟨none, trivial, fun _ => ⟨⟨(i, (i + j) / 2), by dsimp only; omega, by dsimp only; omega, h3, fun k hk' hka => Int.not_lt.1 (fun h' => h5' (hm ((i + j) / 2) k hk hk' hka h'))⟩, by show (i + j) / 2 - i < j - i; omega, tI, tI, tI, tI⟩⟩)
 ·have hij : i = j := (by have := of_decide_eq_false h; omega)
  subst hij
  have HE := low_uniq (cf := Sv.cf t.nd t.id) h2 h3 h4
  refine G0 ?_
  (refine bIf_of (fun h5 => ?_) (fun h5 => ?_) <;> rw [h5])
  ·have hin : i < l.length := (by have := of_decide_eq_true h5; omega)
   have HH : hit (Sv.cf t.nd t.id) l = decide (Sv.cf t.nd t.id l[i] = 0) := by
    have hin' : low (Sv.cf t.nd t.id) l < l.length := by rw [← HE]; exact hin
    rw [hit_in hin']
    simp only [← HE]
   refine G0 ?_
   refine ⟨i, _, rfl, row_map hin, ?_⟩
   refine G0 ?_
   (refine ⟨_, _, false, aI, order_fun _ _, nobor, nI, ?_⟩)
   refine G1 ?_; intro gg
   rw [← HE, HH]
   (exact ⟨[], aI⟩)
  ·have HH : hit (Sv.cf t.nd t.id) l = false := hit_out (by rw [← HE]; exact (by have := of_decide_eq_false h5; omega))
   refine G0 ?_
   rw [← HE, HH]
   (exact ⟨[], aI⟩)
theorem sfind_fun (c : Bool) (l : List Sv) (nd id : ByteArray) (hl : l.length ≤ 1000) (hm : Mono (Sv.cf nd id) l) : Fun Tryz.prog 134 [.c (.sl c (l.map Sv.row)), .c (.v (.string nd)), .c (.v (.string id))] [.c (.v (.int .i64 (low (Sv.cf nd id) l))), .c (.v (.bool (hit (Sv.cf nd id) l)))] := by
 refine fun_x ck_catalog_find rfl ?_
 refine G0 ?_
 (refine .inl ⟨_, _, false, [], aI, sbs_fun c l ⟨nd, id, ⟨#[]⟩, ⟨#[]⟩, 0, 0, false, 0, false⟩ hl hm, nobor, nI, ?_⟩)
 refine G1 ?_; intro gg
 (exact ⟨[], aI⟩)
theorem sat_fun (c : Bool) (l : List Sv) (nd id : ByteArray) (hl : l.length ≤ 9223372036854775807) : Fun Tryz.prog 86 [.c (.sl c (l.map Sv.row)), .c (.v (.string nd)), .c (.v (.string id))] [.c (.v (.int .i64 (at_ (Sv.is nd id) l)))] := by
 refine fun_x ck_hearsayref_ServiceAt rfl ?_
 refine G0 ?_
 (refine ⟨[], none, {k : Nat // k ≤ l.length ∧ ∀ j, (h : j < l.length) → j < k → Sv.is nd id l[j] = false}, [0, 1, 2], fun ⟨k, hk, h0⟩ => [(7, .v (.int .i64 k))], [], fun ⟨k, hk, h0⟩ => [], fun ⟨k, hk, h0⟩ => l.length - k, trivial, fun _ => ⟨trivial, fun _ => ⟨⟨0, by omega, fun j _ h => by omega⟩, tI, keptE_refl _ _, tI, keptH_refl _ _⟩⟩, fun ⟨k, hk, h0⟩ => ?_⟩)
 refine G0 ?_
 rw [List.length_map]
 (refine bIf_of (fun h => ?_) (fun h => ?_) <;> rw [h])
 ·have hlt : k < l.length := (by have := of_decide_eq_true h; omega)
  refine G0 ?_
  refine ⟨k, _, rfl, row_map hlt, ?_⟩
  refine G0 ?_
  (refine bIf_of (fun h2 => ?_) (fun h2 => ?_) <;> rw [h2])
  ·refine G0 ?_
   refine ⟨k, _, rfl, row_map hlt, ?_⟩
   refine G0 ?_
   (refine bIf_of (fun h3 => ?_) (fun h3 => ?_) <;> rw [h3])
   ·refine G0 ?_
    rw [at_yes hlt h0 (by unfold Sv.is; rw [h2, h3]; rfl)]
    (exact ⟨[], aI⟩)
   ·refine G0 ?_
    (exact ⟨none, trivial, fun _ => ⟨⟨k + 1, by omega, up1 (p := fun j h => Sv.is nd id l[j] = false) h0 (fun _ => by unfold Sv.is; rw [h2, h3]; rfl)⟩, by show l.length - (k + 1) < l.length - k; omega, tI, tI, tI, tI⟩⟩)
  ·refine G0 ?_
   (exact ⟨none, trivial, fun _ => ⟨⟨k + 1, by omega, up1 (p := fun j h => Sv.is nd id l[j] = false) h0 (fun _ => by unfold Sv.is; rw [h2]; rfl)⟩, by show l.length - (k + 1) < l.length - k; omega, tI, tI, tI, tI⟩⟩)
 ·have hge : ¬ k < l.length := (by have := of_decide_eq_false h; omega)
  refine G0 ?_
  rw [at_no (p := Sv.is nd id) (l := l) (fun i hi => h0 i hi (by omega))]
  (exact ⟨[], aI⟩)
end Go.Proofs.YtkclokmfomnbgaaGreat
namespace Go.Proofs.YtkclokmfomnbgaaGreat
open Go.RowKit
set_option linter.unusedVariables false
theorem infoGw : (Tryz.prog.info? 125).map (fun i => (i.zero, i.size, i.bytes)) = some (some (.agg #[.string ⟨#[]⟩, .int .i64 0, .int .i64 0]), 3, 32) := by kernel_rfl
theorem cellsGw : (Tryz.prog.info? 125).map (·.size) = some 3 := by kernel_rfl
theorem sizeGw : ∀ w, (Go.sizeOf 125).run Tryz.prog w = .ok 3 w := by
 intro w
 obtain ⟨i0, hi0, hz0, hzs, hzb⟩ := info_parts infoGw
 simp [sizeOf, typeInfo, hi0, hzs]
theorem insGw_over (vb g : Nat) (vc lb cb off : Nat) (vs cur : Array Value) (w : World) (hv : Blk w vb 125 vs) (hg : Blk w g 125 cur) (hne : vb ≠ g) (hcur : cur.size ≠ 0) :
  (callFunc 184 #[.slice (some ⟨vb, 0, none⟩) 1 vc, .slice (some ⟨g, off, none⟩) lb cb]).run Tryz.prog w = .ok (.value (.bool false)) w := by
 rw [run_callFunc_extern Tryz.func184 (by kernel_rfl) (by kernel_rfl) (by kernel_rfl) (e := Extern.SlicesOverlaps.overlaps #[25, 25] #[4]) (by kernel_rfl),
  Lib.run_overlaps_apart w 25 4 125 Tryz.underlying25 3 sizeGw ⟨vb, 0, none⟩ ⟨g, off, none⟩ 1 vc lb cb hne 125 125 vs.size cur.size
   (by unfold Blk at hv; simp [World.shape?, hv]) (by unfold Blk at hg; simp [World.shape?, hg]) hcur (hv.frozen _) (hv.frozen _)]
 rfl
def InsGw (L : Nat → Prop) (base n i : Nat) (xs vs : List Value) (w : World) (e : Ending) (w' : World) : Prop :=
 ∃ A' c', e = .returned (.slice A' (n + 1) c') ∧ w'.ownsRow base 125 3 (.slice A' (n + 1) c') (n + 1) (xs.take (i * 3) ++ vs ++ xs.drop (i * 3)) ∧ Fr L w w' ∧ ∀ k, (Value.slice A' (n + 1) c').ownBlock = some k → L k ∨ w.heap.size ≤ k
set_option maxHeartbeats 1000000 in
set_option maxRecDepth 100000 in
theorem insGw_end (base : Nat) (A : Option Addr) (n c : Nat) (xs : List Value) (vb vc : Nat) (vcur : Array Value) (vs : List Value) (w : World) (hown : w.ownsRow base 125 3 (.slice A n c) n xs) (hbase : base ≤ w.heap.size)
  (hn : n ≤ 1000) (hv : Blk w vb 125 vcur) (hvc : vcur.toList.take 3 = vs) (hvl : vs.length = 3) (h1 : ∀ v ∈ vs, v.oneCell' = true) :
  Calls Tryz.prog 138 #[.slice A n c, .int .i64 n, .slice (some ⟨vb, 0, none⟩) 1 vc] w (InsGw (LB A) base n n xs vs w) := by
 obtain ⟨i0, hi0, hz0, hzs, hzb⟩ := info_parts infoGw
 have hnc : n ≤ c ∧ c ≤ 9223372036854775807 := by
  rcases hown.2 with ⟨hv, hz⟩ | ⟨g, cap, cur, hv, _, _, h, h', _⟩
  ·injection hv; omega
  ·injection hv with _ _ e; subst e; exact ⟨h, h'⟩
 obtain ⟨hnc, hc63⟩ := hnc
 have hxs : xs.length = n * 3 := hown.1
 have HXS := hid hxs
 have HVL := hid hvl
 have HV := hid hv
 have HO := hid hown
 have HZ0 := hid hz0
 have HZS := hid hzs
 have HZB := hid hzb
 have HI0 := hid hi0
 clear hxs hvl hv hown hz0 hzs hzb hi0
 have hnn : ((n : Int) == (n : Int)) = true := by simp
 go_enter Tryz.func138, Tryz.ntmps138
 go_wp2_with (at_builtin; refine wpList_appD _ rfl _ _ 25 rfl base 125 i0 _ 3 32 Tryz.underlying25 HI0.out HZ0.out HZS.out HZB.out rfl (by decide) _ _ _ rfl HO.out ⟨vb, 0, none⟩ 1 vc vs rfl (by simpa using HVL.out) (blk_at HV.out hvc) h1 (by simp only [maxLen]; omega) (by omega) hbase ?_; intro v1 w1 hown1 hg1 hd1 hat1)
 all_goals go_ret
 all_goals
  obtain ⟨A', c', rfl⟩ := own_form hown1
  refine ⟨A', c', rfl, ?_, (Fr.refl _ _).grown hg1 (inl_own HO.out (fun k hk => lb_of (n := n) (c := c) hk)) hd1, fun k hk => ?_⟩
  rotate_left
  ·rcases hat1 with h | h
   ·exact .inl (lb_of (n := n) (c := c) (h.symm.trans hk))
   ·have := h.symm.trans hk
    injection this with this
    exact .inr (by omega)
  rw [List.take_of_length_le (by have := HXS.out; omega), List.drop_of_length_le (by have := HXS.out; omega), List.append_nil]
  exact hown1
set_option maxHeartbeats 2000000 in
set_option maxRecDepth 100000 in
theorem insGw_room (base g : Nat) (n c i : Nat) (cur : Array Value) (xs : List Value) (vb vc : Nat) (vcur : Array Value) (vs : List Value) (w : World) (hg : Blk w g 125 cur) (hbg : base ≤ g) (hcs : cur.size = c * 3) (hcx : cur.toList.take (n * 3) = xs)
  (hi : i < n) (hr : n + 1 ≤ c) (hc63 : c ≤ 9223372036854775807) (hn : n ≤ 1000) (hv : Blk w vb 125 vcur) (hvc : vcur.toList.take 3 = vs) (hne : vb ≠ g) (hvl : vs.length = 3) (h1 : ∀ v ∈ vs, v.oneCell' = true) (h1x : ∀ v ∈ xs, v.oneCell' = true) :
  Calls Tryz.prog 138 #[.slice (some ⟨g, 0, none⟩) n c, .int .i64 i, .slice (some ⟨vb, 0, none⟩) 1 vc] w (InsGw (LB (some ⟨g, 0, none⟩)) base n i xs vs w) := by
 have hcl : cur.toList.length = c * 3 := by rw [Array.length_toList]; exact hcs
 have hxl : xs.length = n * 3 := by rw [← hcx, List.length_take, hcl]; omega
 have hov : ∀ lb cb, (callFunc 184 #[.slice (some ⟨vb, 0, none⟩) 1 vc, .slice (some ⟨g, (i + 1) * 3, none⟩) lb cb]).run Tryz.prog w = .ok (.value (.bool false)) w := fun lb cb => insGw_over vb g vc lb cb ((i + 1) * 3) vcur cur w hv hg hne (by omega)
 have HB2 : Hid ((splice (splice cur.toList ((i + 1) * 3) (xs.drop (i * 3))) (i * 3) vs).take ((n + 1) * 3) = xs.take (i * 3) ++ vs ++ xs.drop (i * 3)) := by
  refine hid ?_
  have h := splice_room cur.toList xs vs (i * 3) (n * 3) hcx (by rw [hcl]; omega) (by omega) (by rw [hcl, hvl]; omega)
  rw [hvl] at h
  rw [Nat.add_mul, Nat.add_mul, Nat.one_mul]
  exact h
 have HC1 : Hid ((xs.drop (i * 3)).length = Nat.min (n + 1 - i) (n - i) * 3) := by
  refine hid ?_
  rw [List.length_drop, hxl, show Nat.min (n + 1 - i) (n - i) = n - i from Nat.min_eq_right (by omega), Nat.sub_mul]
 have HC2 := hid (fun j v (hj : (xs.drop (i * 3))[j]? = some v) => blk_drop hg.drew hcx (i * 3) j v hj)
 have HC3 : Hid ((i + 1) * 3 + (xs.drop (i * 3)).length ≤ cur.size) := hid (by rw [List.length_drop]; omega)
 have HC3' : Hid ((i + 1) * 3 + (xs.drop (i * 3)).length ≤ cur.toList.length) := hid (by rw [List.length_drop, hcl]; omega)
 have HC4 := hid (fun v (hv : v ∈ xs.drop (i * 3)) => h1x v (List.mem_of_mem_drop hv))
 have HC5 : Hid (vs.length = Nat.min 1 (n + 1 - i) * 3) := by
  refine hid ?_
  rw [hvl, show Nat.min 1 (n + 1 - i) = 1 from Nat.min_eq_left (by omega)]
 have HC6 : Hid (i * 3 + vs.length ≤ (splice cur.toList ((i + 1) * 3) (xs.drop (i * 3))).toArray.size) := by
  refine hid ?_
  rw [List.size_toArray, length_splice _ _ _ (by rw [hcl, ← hcs]; exact HC3.out), hcl, hvl]
  omega
 have HXL := hid hxl
 have HVL := hid hvl
 have HG := hid hg
 have HV := hid hv
 have HCS := hid hcs
 have HNE := hid hne
 have HCX := hid hcx
 clear hxl hvl hg hv hcs hne hcx
 have hw1 : IntKind.i64.wrap ((i : Int) + 1) = (i : Int) + 1 := by rw [IntWalk.i64_in _ (by omega)]
 have hb1 : (0 : Int) ≤ (i : Int) + 1 := by omega
 have htn : ((i : Int) + 1).toNat = i + 1 := by omega
 have hb3 : (i : Int) ≤ (n : Int) + 1 := by omega
 have hb4 : (i : Int) + 1 ≤ (n : Int) + 1 := by omega
 have hb5 : (i : Int) ≤ (n : Int) := by omega
 have hb6 : ¬ c = i := by omega
 have hb7 : ¬ c = i + 1 := by omega
 have hb8 : ((i : Int) == (n : Int)) = false := by simp; omega
 go_enter Tryz.func138, Tryz.ntmps138
 go_wp2_with (simp only [hov])
 go_region_law (refine step_copyN rfl (.tmp 73) (.tmp 76) 25 25 rfl 125 3 Tryz.underlying25 cellsGw g ((i + 1) * 3) (n - i) (c - (i + 1)) ⟨g, i * 3, none⟩ (n + 1 - i) (c - i) (by simp [Act.eval, Act.put]) (by simp [Act.eval, Act.put]) cur 125 HG.out.drew (xs.drop (i * 3)) HC1.out HC2.out HC3.out HC4.out ?_; intro w1 hk1 hg1 hd1)
 have HK1 := hid hk1
 have HG1 := hid hg1
 have HV1 := hid (HV.out.drew.grown hg1 (fun e => HNE.out (by injection e)))
 clear hk1 hg1
 go_wp2_with (refine wpList_copyN rfl (.tmp 80) (.tmp 81) 25 25 rfl 125 3 Tryz.underlying25 cellsGw g (i * 3) (n + 1 - i) (c - i) ⟨vb, 0, none⟩ 1 vc (by simp [Act.eval]) (by simp [Act.eval]) _ 125 HK1.out vs HC5.out (blk_at HV1.out hvc) HC6.out h1 ?_; intro w2 hk2 hg2 hd2)
 go_ret
 refine ⟨_, _, rfl, ⟨?_, .inr ⟨g, c, _, rfl, hbg, hk2, by omega, by simpa [maxLen] using hc63, ?_, ?_⟩⟩, ?_, fun k hk => .inl ⟨_, rfl, by injection hk with hk⟩⟩
 ·simp only [List.length_append, List.length_take, List.length_drop]
  have := HXL.out; have := HVL.out
  omega
 ·have h1 := length_splice cur.toList ((i + 1) * 3) (xs.drop (i * 3)) HC3'.out
  have h2 := length_splice (splice cur.toList ((i + 1) * 3) (xs.drop (i * 3))) (i * 3) vs (by simpa using HC6.out)
  rw [List.size_toArray, List.toList_toArray, h2, h1]
  simpa using HCS.out
 ·rw [List.toList_toArray, List.toList_toArray]
  exact HB2.out
 ·have hlt := HG.out.lt
  exact ((Fr.refl _ w).drew.grown HG1.out (fun k hk => .inl (⟨_, rfl, by injection hk with hk⟩)) hd1).grown hg2 (fun k hk => .inl (⟨_, rfl, by injection hk with hk⟩)) hd2
set_option maxHeartbeats 2000000 in
set_option maxRecDepth 100000 in
theorem insGw_grow (base g : Nat) (n c i : Nat) (cur : Array Value) (xs : List Value) (vb vc : Nat) (vcur : Array Value) (vs : List Value) (w : World) (hg : Blk w g 125 cur) (hbase : base ≤ w.heap.size) (hcs : cur.size = c * 3) (hcx : cur.toList.take (n * 3) = xs)
    (hi : i < n) (hnc : n ≤ c) (hr : c < n + 1) (hn : n ≤ 1000) (hv : Blk w vb 125 vcur) (hvc : vcur.toList.take 3 = vs) (hvl : vs.length = 3) (h1 : ∀ v ∈ vs, v.oneCell' = true) (h1x : ∀ v ∈ xs, v.oneCell' = true) :
    Calls Tryz.prog 138 #[.slice (some ⟨g, 0, none⟩) n c, .int .i64 i, .slice (some ⟨vb, 0, none⟩) 1 vc] w (InsGw (LB (some ⟨g, 0, none⟩)) base n i xs vs w) := by
  obtain ⟨i0, hi0, hz0, hzs, hzb⟩ := info_parts infoGw
  have hcl : cur.toList.length = c * 3 := by rw [Array.length_toList]; exact hcs
  have hxl : xs.length = n * 3 := by rw [← hcx, List.length_take, hcl]; omega
  have hold : (Builtin.firstCells i0.size i (.slice (some ⟨g, 0, none⟩) i c)).run Tryz.prog w.drew = .ok (xs.take (i * 3)).toArray w.drew := by
    rw [hzs]
    exact run_firstCells_some w.drew 3 i ⟨g, 0, none⟩ i c (xs.take (i * 3)) (by rw [List.length_take]; omega) (fun j v hj => by
      have hj' : (xs.drop 0)[j]? = some v := by
        rw [List.drop_zero]
        rw [List.getElem?_take] at hj
        split at hj
        · exact hj
        · cases hj
      exact blk_drop hg.drew hcx 0 j v hj')
  have hkk : (n : Int) + 1 - (i : Int) = ((n + 1 - i : Nat) : Int) := by omega
  have hik : i + (n + 1 - i) = n + 1 := by omega
  obtain ⟨G, hG⟩ : ∃ G, G = grownCap w (n + 1) c 125 := ⟨_, rfl⟩
  have hGn : n + 1 ≤ G := by rw [hG]; exact grownCap_ge w _ _ _
  have hG63 : G ≤ 9223372036854775807 := by
    have := grownCap_le_maxLen w (n + 1) c 125 (by unfold maxLen; omega)
    rw [← hG] at this
    unfold maxLen at this
    omega
  obtain ⟨ROW, hROW⟩ : ∃ ROW : Array Value, ROW = (xs.take (i * 3)).toArray ++ Builtin.zeroCells (Value.agg #[.string ⟨#[]⟩, .int .i64 0, .int .i64 0]).cells (n + 1 - i) ++ Builtin.zeroCells (Value.agg #[.string ⟨#[]⟩, .int .i64 0, .int .i64 0]).cells (G - (n + 1)) := ⟨_, rfl⟩
  have hrz : ∀ ty, (Builtin.append_ #[25, 3] ty #[.slice (some ⟨g, 0, none⟩) i c, .int .i64 ((n : Int) + 1 - (i : Int))]).run Tryz.prog w =
      .ok (.slice (some ⟨w.heap.size, 0, none⟩) (n + 1) G) (w.drew.alloc (.cells ROW 125)) := fun ty => by
    have h := Lib.run_append_grow_zeros w 25 3 ty 125 i0 _ .i64 .i64 Tryz.underlying25 Tryz.underlying3 hi0 hz0 (some ⟨g, 0, none⟩) i c (xs.take (i * 3)) hold (n + 1 - i) (by omega) (by omega) (by omega) (by omega) (by rw [hzb]; omega) (by rw [hzb, hik]; exact growslice_fits hr (by omega))
    rw [hik] at h
    rw [hkk, hROW, hG]
    exact h
  have hRs : ROW.size = G * 3 := by
    rw [hROW]
    simp [Builtin.zeroCells, Value.cells]
    omega
  have hRl : ROW.toList.length = G * 3 := by rw [Array.length_toList]; exact hRs
  have hRt : ROW.toList.take (i * 3) = xs.take (i * 3) := by
    rw [hROW, Array.toList_append, Array.toList_append, List.append_assoc, List.take_append_of_le_length (by simp; omega), List.toList_toArray, List.take_take, Nat.min_self]
  have HB2 : Hid ((splice (splice ROW.toList (i * 3) vs) ((i + 1) * 3) (xs.drop (i * 3))).take ((n + 1) * 3) = xs.take (i * 3) ++ vs ++ xs.drop (i * 3)) := by
    refine hid ?_
    have h := splice_new ROW.toList xs vs (i * 3) (n * 3) hRt hxl (by omega) (by rw [hRl, hvl]; omega)
    rw [hvl] at h
    rw [Nat.add_mul, Nat.add_mul, Nat.one_mul]
    exact h
  have hgl := hg.lt
  have hvlt := hv.lt
  have HN := hid (Blk.new_ w.drew 125 ROW (g := w.heap.size) rfl)
  have HV := hid ((hv.drew).alloc (.cells ROW 125))
  have HG0 := hid ((hg.drew).alloc (.cells ROW 125))
  have HC1 : Hid (vs.length = Nat.min 1 (n + 1 - i) * 3) := by
    refine hid ?_
    rw [hvl, show Nat.min 1 (n + 1 - i) = 1 from Nat.min_eq_left (by omega)]
  have HC2 : Hid (i * 3 + vs.length ≤ ROW.size) := hid (by rw [hRs, hvl]; omega)
  have HC2' : Hid (i * 3 + vs.length ≤ ROW.toList.length) := hid (by rw [hRl, hvl]; omega)
  have HC3 : Hid ((xs.drop (i * 3)).length = Nat.min (n - i) (n - i) * 3) := by
    refine hid ?_
    rw [List.length_drop, hxl, show Nat.min (n - i) (n - i) = n - i from Nat.min_self _, Nat.sub_mul]
  have HC4 : Hid ((i + 1) * 3 + (xs.drop (i * 3)).length ≤ (splice ROW.toList (i * 3) vs).toArray.size) := by
    refine hid ?_
    rw [List.size_toArray, length_splice _ _ _ HC2'.out, hRl, List.length_drop]
    omega
  have HC5 := hid (fun v (hv : v ∈ xs.drop (i * 3)) => h1x v (List.mem_of_mem_drop hv))
  have HRL := hid hRl
  have HXL := hid hxl
  have HVL := hid hvl
  have HCX := hid hcx
  have HRS := hid hRs
  have HNE : Hid (w.heap.size ≠ g) := hid (by omega)
  have HNV : Hid (w.heap.size ≠ vb) := hid (by omega)
  clear hRl hxl hvl hcx hRs hold hi0 hz0 hzs hzb hkk hik hROW hG hg hv hcs hcl hRt
  have hw1 : IntKind.i64.wrap ((i : Int) + 1) = (i : Int) + 1 := by rw [IntWalk.i64_in _ (by omega)]
  have hb1 : (0 : Int) ≤ (i : Int) + 1 := by omega
  have htn : ((i : Int) + 1).toNat = i + 1 := by omega
  have hb3 : (i : Int) ≤ (n : Int) + 1 := by omega
  have hb4 : (i : Int) + 1 ≤ (n : Int) + 1 := by omega
  have hb5 : (i : Int) ≤ (n : Int) := by omega
  have hb6 : ¬ c = i := by omega
  have hb7 : ¬ G = i + 1 := by omega
  have hb9 : ¬ G = i := by omega
  have hb8 : ((i : Int) == (n : Int)) = false := by simp; omega
  go_enter Tryz.func138, Tryz.ntmps138
  go_wp2_with (first
    | (at_builtin; refine Lib.wpList_append_run _ rfl _ _ _ _ rfl _ _ rfl rfl _ _ (hrz _) ?_; clear hrz)
    | (refine wpList_copyN rfl (.tmp 43) (.tmp 44) 25 25 rfl 125 3 Tryz.underlying25 cellsGw w.heap.size (i * 3) (n + 1 - i) (G - i) ⟨vb, 0, none⟩ 1 vc (by simp [Act.eval]) (by simp [Act.eval]) ROW 125 HN.out.drew vs HC1.out (blk_at HV.out.drew hvc) HC2.out h1 ?_; intro w1 hk1 hg1 hd1))
  have HK1 := hid hk1
  have HG1 := hid hg1
  have HG0' := hid ((show Blk (w.alloc (.cells ROW 125)).drew g 125 cur from HG0.out).grown hg1 (fun e => HNE.out (by injection e with e; exact e.symm)))
  have HC2a := hid (fun j v (hj : (xs.drop (i * 3))[j]? = some v) => blk_drop HG0'.out.drew HCX.out (i * 3) j v hj)
  clear hk1 hg1
  go_region_law (refine step_copyN rfl (.tmp 50) (.tmp 53) 25 25 rfl 125 3 Tryz.underlying25 cellsGw w.heap.size ((i + 1) * 3) (n - i) (G - (i + 1)) ⟨g, i * 3, none⟩ (n - i) (c - i) (by simp [Act.eval, Act.put]) (by simp [Act.eval, Act.put]) _ 125 HK1.out.drew (xs.drop (i * 3)) HC3.out HC2a.out HC4.out HC5.out ?_; intro w2 hk2 hg2 hd2)
  have HK2 := hid hk2
  have HG2 := hid hg2
  clear hk2 hg2
  go_wp2
  go_ret
  refine ⟨_, _, rfl, ⟨?_, .inr ⟨w.heap.size, G, _, rfl, hbase, HK2.out, hGn, by simpa [maxLen] using hG63, ?_, ?_⟩⟩, ?_, fun k hk => .inr (Nat.le_of_eq (show w.heap.size = k by injection hk))⟩
  · simp only [List.length_append, List.length_take, List.length_drop]
    have := HXL.out; have := HVL.out
    omega
  · have h1 := length_splice ROW.toList (i * 3) vs HC2'.out
    have h2 := length_splice (splice ROW.toList (i * 3) vs) ((i + 1) * 3) (xs.drop (i * 3)) (by simpa using HC4.out)
    rw [List.size_toArray, List.toList_toArray, h2, h1]
    simpa using HRS.out
  · rw [List.toList_toArray, List.toList_toArray]
    exact HB2.out
  · exact ((((Fr.refl _ w).alloc _).drew.grown HG1.out (fun k hk => .inr (by injection hk with hk; omega)) hd1).drew).grown HG2.out (fun k hk => .inr (by injection hk with hk; omega)) hd2
theorem insGw_any (base : Nat) (A : Option Addr) (n c i : Nat) (xs : List Value) (vb vc : Nat) (vcur : Array Value) (vs : List Value) (w : World) (hown : w.ownsRow base 125 3 (.slice A n c) n xs) (hbase : base ≤ w.heap.size)
  (hi : i ≤ n) (hn : n ≤ 1000) (hv : Blk w vb 125 vcur) (hvc : vcur.toList.take 3 = vs) (hne : (Value.slice A n c).ownBlock ≠ some vb) (hvl : vs.length = 3) (h1 : ∀ v ∈ vs, v.oneCell' = true) (h1x : ∀ v ∈ xs, v.oneCell' = true) :
  Calls Tryz.prog 138 #[.slice A n c, .int .i64 i, .slice (some ⟨vb, 0, none⟩) 1 vc] w (InsGw (LB A) base n i xs vs w) := by
 by_cases hin : i = n
 ·subst hin
  exact insGw_end base A i c xs vb vc vcur vs w hown hbase hn hv hvc hvl h1
 ·obtain ⟨hl, h2⟩ := hown
  rcases h2 with ⟨_, h0⟩ | ⟨g, cap, cur, hA, hbg, hh, hnc, hm, hsz, htk⟩
  ·omega
  ·injection hA with hA _ hcap
   subst hA; subst hcap
   have hne' : vb ≠ g := fun e => hne (by subst e; rfl)
   by_cases hr : n + 1 ≤ c
   ·exact insGw_room base g n c i cur xs vb vc vcur vs w hh hbg hsz htk (by omega) hr (by simpa [maxLen] using hm) hn hv hvc hne' hvl h1 h1x
   ·exact insGw_grow base g n c i cur xs vb vc vcur vs w hh hbase hsz htk (by omega) hnc (by omega) hn hv hvc hvl h1 h1x
end Go.Proofs.YtkclokmfomnbgaaGreat
namespace Go.Proofs.YtkclokmfomnbgaaGreat
open Go.RowKit
set_option linter.unusedVariables false
def ClnGw (base n : Nat) (xs : List Value) (w : World) (e : Ending) (w' : World) : Prop :=
 ∃ A' c', e = .returned (.slice A' n c') ∧ w'.ownsRow base 125 3 (.slice A' n c') n xs ∧ Below base w w' ∧ w.drawn ≤ w'.drawn
set_option maxRecDepth 100000 in
theorem clnGw_any (A : Option Addr) (n c : Nat) (xs : List Value) (w : World) (hA : A = none → n = 0) (hn : n ≤ 1000) (hxl : xs.length = n * 3) (hx : ∀ ad, A = some ad → ∀ j u, xs[j]? = some u → w.cell? (ad.add j) = some u) (h1 : ∀ v ∈ xs, v.oneCell' = true) :
  Calls Tryz.prog 118 #[.slice A n c] w (ClnGw w.heap.size n xs w) := by
 obtain ⟨i0, hi0, hz0, hzs, hzb⟩ := info_parts infoGw
 cases A with
 | none =>
  obtain rfl := hA rfl
  obtain rfl : xs = [] := List.eq_nil_of_length_eq_zero (by simpa using hxl)
  clear hx hxl hi0 hz0 hzs hzb h1
  have hnl := fun (w : World) => Lib.run_eql_slice_nil (P := Tryz.prog) w 25 125 none 0 c 0 0 Tryz.underlying25
  go_enter Tryz.func118, Tryz.ntmps118
  go_wp2
  go_ret
  exact ⟨none, 0, rfl, World.ownsRow_nil _ _ _ _, Below.refl _ _, Nat.le_refl _⟩
 | some ad =>
  have HX := hid (hx ad rfl)
  have HXL := hid hxl
  have HZ0 := hid hz0
  have HZS := hid hzs
  have HZB := hid hzb
  have HI0 := hid hi0
  clear hx hxl hA hi0 hz0 hzs hzb
  have hnl := fun (w : World) => Lib.run_eql_slice_nil (P := Tryz.prog) w 25 125 (some ad) n c 0 0 Tryz.underlying25
  go_enter Tryz.func118, Tryz.ntmps118
  have hown0 : (w.alloc (.cells #[] 125)).ownsRow w.heap.size 125 3 (.slice (some ⟨w.heap.size, 0, none⟩) 0 0) 0 [] :=
   ⟨by simp, .inr ⟨w.heap.size, 0, #[], rfl, Nat.le_refl _, heap_alloc_new w _, by omega, by simp [maxLen], by simp, by simp⟩⟩
  have HO := hid hown0
  have HX1 := hid (fun j u (hj : xs[j]? = some u) => (World.cell?_alloc_lt w (.cells #[] 125) (ad.add j) (cell_lt (HX.out j u hj))).trans (HX.out j u hj))
  clear hown0
  go_wp2_with (at_builtin; refine wpList_appD _ rfl _ _ 25 rfl w.heap.size 125 i0 _ 3 32 Tryz.underlying25 HI0.out HZ0.out HZS.out HZB.out rfl (by decide) _ _ _ rfl HO.out ad n c xs rfl HXL.out HX1.out h1 (by simp only [maxLen]; omega) (by omega) (by simp) ?_; intro v1 w1 hown1 hg1 hd1 hat1)
  go_ret
  rw [Nat.zero_add, List.nil_append] at hown1
  obtain ⟨A', c', rfl⟩ := own_form hown1
  exact ⟨A', c', rfl, hown1, ((Below.refl _ _).alloc (Nat.le_refl _) _).grown hg1 (by simp) (own_base HO.out), hd1⟩
end Go.Proofs.YtkclokmfomnbgaaGreat
namespace Go.Proofs.YtkclokmfomnbgaaGreat
open Go.RowKit
set_option linter.unusedVariables false
theorem cloneGw_fun {α : Type} (enc : α → List Value) (he : ∀ x, (enc x).length = 3) (h1 : ∀ x, ∀ v ∈ enc x, v.oneCell' = true) (cl : Bool) (l : List α) (hl : l.length ≤ 1000) :
  Fun Tryz.prog 118 [.c (.sl cl (l.map fun x => (enc x).map .v))] [.o 125 3 (l.map fun x => (enc x).map .v)] := by
 refine ⟨callable Tryz.func118 (by kernel_rfl) (by kernel_rfl), fun w R xs hlt hp => ?_⟩
 obtain ⟨v, rfl, hv⟩ := pars_one hp
 obtain ⟨A, c, rfl, hA, hx⟩ := sl_cells he hv
 have hone : ∀ v ∈ l.flatMap enc, v.oneCell' = true := fun v hv => by
  obtain ⟨g, _, hg⟩ := List.mem_flatMap.1 hv
  exact h1 g v hg
 refine (clnGw_any A l.length c (l.flatMap enc) w hA hl (flat_len he l) hx hone).mono ?_
 rintro e w' ⟨A', c', rfl, hown, hb, hd⟩
 exact own_result he h1 (by decide) hlt hown (fr_of_below hb hd) (fun k hk => .inr (own_base hown k hk)) (fun k hk => by have := own_base hown k hk; intro h; have := hlt k h; omega)
set_option maxHeartbeats 1000000 in
theorem insertGw_fun {α : Type} (enc : α → List Value) (he : ∀ x, (enc x).length = 3) (h1 : ∀ x, ∀ v ∈ enc x, v.oneCell' = true) (l : List α) (x : α) (i : Nat) (hi : i ≤ l.length) (hl : l.length ≤ 1000) :
  Fun Tryz.prog 138 [.o 125 3 (l.map fun x => (enc x).map .v), .c (.v (.int .i64 i)), .o 125 3 [(enc x).map .v]] [.o 125 3 ((l.take i ++ [x] ++ l.drop i).map fun x => (enc x).map .v)] := by
 refine ⟨callable Tryz.func138 (by kernel_rfl) (by kernel_rfl), fun w R xs hlt hp => ?_⟩
 obtain ⟨v0, v2, rfl, o0, o2, hap, hf0⟩ := pars_ins (enc := enc) he hp
 obtain ⟨A, c, rfl⟩ := own_form o0
 rcases o2.2 with ⟨_, h0⟩ | ⟨g, cap, cur, rfl, _, hh, hcap, _, hsz, htk⟩
 ·omega
 have hone : ∀ v ∈ l.flatMap enc, v.oneCell' = true := fun v hv => by
  obtain ⟨g, _, hg⟩ := List.mem_flatMap.1 hv
  exact h1 g v hg
 refine (insGw_any 0 A l.length c i (l.flatMap enc) g cap cur (enc x) w o0 (Nat.zero_le _) hi hl hh (by rw [Nat.one_mul] at htk; exact htk) (fun e => hap g e rfl) (he x) (h1 x) hone).mono ?_
 rintro e w' ⟨A', c', rfl, hown, hb, hk⟩
 rw [flat_ins he l x i, show l.length + 1 = (l.take i ++ [x] ++ l.drop i).length by simp; omega] at hown
 rw [show l.length + 1 = (l.take i ++ [x] ++ l.drop i).length by simp; omega] at hk ⊢
 have hL : ∀ k, LB A k → ParBlk [.o 125 3 (l.map fun x => (enc x).map .v), .c (.v (.int .i64 i)), .o 125 3 [(enc x).map .v]] [.slice A l.length c, .int .i64 i, .slice (some ⟨g, 0, none⟩) 1 cap] k := fun k ⟨a, ha, hq⟩ => ⟨0, _, _, _, _, rfl, rfl, by subst ha; simp only [Value.ownBlock]; rw [hq]⟩
 exact own_result he h1 (by decide) hlt hown (hb.imp hL) (fun k hk' => (hk k hk').imp (hL k) (fun h => h)) (fun k hk' => by
  rcases hk k hk' with h | h
  ·exact hf0 k (hL k h)
  ·intro h'; have := hlt k h'; omega)
end Go.Proofs.YtkclokmfomnbgaaGreat
namespace Go.Proofs.YtkclokmfomnbgaaGreat
open Go.RowKit Pl
set_option linter.unusedVariables false
theorem gwithin_fun (n a b : Int) : Fun Tryz.prog 191 [.c (.v (.int .i64 n)), .c (.v (.int .i64 a)), .c (.v (.int .i64 b))] [.c (.v (.bool (wi n a b)))] := by
 refine fun_x ck_centre_within rfl ?_
 refine G0 ?_
 (refine bIf_of (fun h => ?_) (fun h => ?_) <;> rw [h])
 ·refine G0 ?_
  rw [wi_t h]
  (exact ⟨[], aI⟩)
 ·refine G0 ?_
  rw [wi_f h]
  (exact ⟨[], aI⟩)
theorem gone_fun (m : Gw) (hm : m.ok) : Fun Tryz.prog 157 [.c (.agg m.row)] [.c (.v (.int .i64 m.err))] := by
 refine fun_x ck_centre_one rfl ?_
 refine G1 ?_; intro gg
 (refine .inl ⟨_, _, false, [], aI, label_fun _ hm, nobor, nI, ?_⟩)
 refine G1 ?_; intro gg
 (refine bIf_of (fun h1 => ?_) (fun h1 => ?_) <;> rw [h1])
 ·refine G0 ?_
  (rw [show m.err = 1 from by (first | (simp_all ; done) | (unfold Gw.err; simp_all))]; (exact ⟨[], aI⟩))
 ·refine G0 ?_
  (refine .inl ⟨_, _, false, [], aI, gwithin_fun _ _ _, nobor, nI, ?_⟩)
  refine G1 ?_; intro gg
  (refine bIf_of (fun h3 => ?_) (fun h3 => ?_) <;> rw [h3])
  ·refine G0 ?_
   (rw [show m.err = 3 from by (first | (simp_all ; done) | (unfold Gw.err; simp_all))]; (exact ⟨[], aI⟩))
  ·refine G0 ?_
   (refine .inl ⟨_, _, false, [], aI, gwithin_fun _ _ _, nobor, nI, ?_⟩)
   refine G1 ?_; intro gg
   (refine bIf_of (fun h4 => ?_) (fun h4 => ?_) <;> rw [h4])
   ·refine G0 ?_
    (rw [show m.err = 3 from by (first | (simp_all ; done) | (unfold Gw.err; simp_all))]; (exact ⟨[], aI⟩))
   ·refine G0 ?_
    (rw [show m.err = 0 from by (first | (simp_all ; done) | (unfold Gw.err; simp_all))]; (exact ⟨[], aI⟩))
def glsRow (l : List Gw) : List V := [.sl false (l.map Gw.row)]
theorem gcheck_fun (c : Bool) (ls : List (List Gw)) (hls : ls.length ≤ 9223372036854775807) (hl : ∀ l ∈ ls, l.length ≤ 9223372036854775807) (hw : ∀ l ∈ ls, ∀ m ∈ l, m.ok) : Fun Tryz.prog 106 [.c (.sl c (ls.map glsRow))] [.c (.v (.int .i64 (firstErr ckGw ls)))] := by
 refine fun_x ck_centre_check rfl ?_
 refine G0 ?_
 rw [List.length_map]
 (refine ⟨[], none, {k : Nat // k ≤ ls.length ∧ ∀ j, (h : j < ls.length) → j < k → ckGw (ls[j]) = 0}, [9, 10], fun ⟨k, hk, h0⟩ => [(11, .v (.int .i64 k))], [], fun ⟨k, hk, h0⟩ => [], fun ⟨k, hk, h0⟩ => ls.length - k, trivial, fun _ => ⟨trivial, fun _ => ⟨⟨0, by omega, fun j _ h => by omega⟩, tI, keptE_refl _ _, tI, keptH_refl _ _⟩⟩, fun ⟨k, hk, h0⟩ => ?_⟩)
 refine G0 ?_
 (refine bIf_of (fun h => ?_) (fun h => ?_) <;> rw [h])
 ·have hlt : k < ls.length := by simpa using h
  refine G0 ?_
  refine ⟨k, _, rfl, row_map hlt, ?_⟩
  refine G0 ?_
  have HL := hl _ (List.getElem_mem hlt)
  have HW := hw _ (List.getElem_mem hlt)
  have HE := firstErr_at (e := ckGw) hlt h0
  have HN : ckGw ls[k] = 0 → ∀ j, (h : j < ls.length) → j < k + 1 → ckGw (ls[j]) = 0 := fun e => up1 (p := fun j h => ckGw (ls[j]) = 0) h0 (fun _ => e)
  generalize ls[k] = l at *
  rw [List.length_map]
  (refine bIf_of (fun h1 => ?_) (fun h1 => ?_) <;> rw [h1])
  ·refine G0 ?_
   have e : ckGw l = 2 := ckL_long (by have := of_decide_eq_true h1; omega)
   rw [HE (by rw [e]; decide), e]
   (exact ⟨[], aI⟩)
  ·have h1' : ¬ 6 < l.length := (by have := of_decide_eq_false h1; omega)
   refine G0 ?_
   rw [List.length_map]
   (refine ⟨[], none, {k : Nat // k ≤ l.length ∧ ∀ j, (h : j < l.length) → j < k → (l[j]).err = 0}, [4, 9, 10, 11, 18, 19], fun ⟨p, hp, p0⟩ => [(20, .v (.int .i64 p))], [], fun ⟨p, hp, p0⟩ => [], fun ⟨p, hp, p0⟩ => l.length - p, trivial, fun _ => ⟨trivial, fun _ => ⟨⟨0, by omega, fun j _ h => by omega⟩, tI, keptE_refl _ _, tI, keptH_refl _ _⟩⟩, fun ⟨p, hp, p0⟩ => ?_⟩)
   refine G0 ?_
   (refine bIf_of (fun h2 => ?_) (fun h2 => ?_) <;> rw [h2])
   ·have hlt2 : p < l.length := (by have := of_decide_eq_true h2; omega)
    refine G0 ?_
    refine ⟨p, _, rfl, row_map hlt2, ?_⟩
    refine G1 ?_; intro gg
    (refine .inl ⟨_, _, false, [], aI, gone_fun _ (HW _ (List.getElem_mem hlt2)), nobor, nI, ?_⟩)
    refine G1 ?_; intro gg
    (refine bIf_of (fun h5 => ?_) (fun h5 => ?_) <;> rw [h5])
    ·refine G0 ?_
     have h5' : (l[p]).err ≠ 0 := by simpa using h5
     have e0 := firstErr_at hlt2 p0 h5'
     have e : ckGw l = (l[p]).err := (ckL_each h1' (by rw [e0]; exact h5')).trans e0
     rw [HE (by rw [e]; exact h5'), e]
     (exact ⟨[], aI⟩)
    ·refine G0 ?_
     (exact ⟨none, trivial, fun _ => ⟨⟨p + 1, by omega, up1 (p := fun j h => (l[j]).err = 0) p0 (fun _ => by simpa using h5)⟩, by show l.length - (p + 1) < l.length - p; omega, tI, tI, tI, tI⟩⟩)
   ·have hge2 : ¬ p < l.length := (by have := of_decide_eq_false h2; omega)
    have h2' : firstErr Gw.err l = 0 := firstErr_zero fun i hi => p0 i hi (by omega)
    refine G0 ?_
    (refine ⟨[], none, {k : Nat // (k < l.length ∨ k = 0) ∧ ∀ i, (h : i + 1 < l.length) → i < k → Gw.lt l[i] l[i + 1] = true}, [4, 9, 10, 11], fun ⟨q, hq, g0⟩ => [(8, .v (.int .i64 ((q : Int) + 1)))], [], fun ⟨q, hq, g0⟩ => [], fun ⟨q, hq, g0⟩ => l.length - q, trivial, fun _ => ⟨trivial, fun _ => ⟨⟨0, by omega, fun j _ h => by omega⟩, tI, keptE_refl _ _, tI, keptH_refl _ _⟩⟩, fun ⟨q, hq, g0⟩ => ?_⟩)
    refine G0 ?_
    rw [List.length_map]
    (refine bIf_of (fun h3 => ?_) (fun h3 => ?_) <;> rw [h3])
    ·have hlt3 : q + 1 < l.length := (by have := of_decide_eq_true h3; omega)
     refine G0 ?_
     refine ⟨q + 1, _, by omega, row_map hlt3, ?_⟩
     refine G0 ?_
     refine ⟨q, _, by omega, row_map (by omega), ?_⟩
     refine G0 ?_
     rw [sle_eq]
     (refine bIf_of (fun h4 => ?_) (fun h4 => ?_) <;> rw [h4])
     ·refine G0 ?_
      have e : ckGw l = 4 := ckL_no h1' h2' (sorted_not hlt3 (by simpa [Gw.lt] using h4))
      rw [HE (by rw [e]; decide), e]
      (exact ⟨[], aI⟩)
     ·refine G0 ?_
      (exact ⟨none, trivial, fun _ => ⟨⟨q + 1, by omega, up2 (p := fun i h => Gw.lt l[i] l[i + 1] = true) g0 (fun _ => by simpa [Gw.lt] using h4)⟩, by show l.length - (q + 1) < l.length - q; omega, tI, tI, tI, tI⟩⟩)
    ·have hge3 : ¬ q + 1 < l.length := (by have := of_decide_eq_false h3; omega)
     refine G0 ?_
     have e : ckGw l = 0 := ckL_yes h1' h2' (sorted_of fun i hi => g0 i hi (by omega))
     (exact ⟨none, trivial, fun _ => ⟨⟨k + 1, by omega, HN e⟩, by show ls.length - (k + 1) < ls.length - k; omega, tI, tI, tI, tI⟩⟩)
 ·have hge : ¬ k < ls.length := by simpa using h
  refine G0 ?_
  rw [firstErr_zero (l := ls) (fun i hi => h0 i hi (by omega))]
  (exact ⟨[], aI⟩)
theorem gCheck_fun (l : List Gw) (hl : l.length ≤ 9223372036854775807) (hw : ∀ m ∈ l, m.ok) : Fun Tryz.prog 46 [.c (.sl false (l.map Gw.row))] [.c (.v (.int .i64 (ckGw l)))] := by
 refine fun_x ck_centre_Check rfl ?_
 refine G1 ?_; intro gg
 (refine .inl ⟨_, _, true, [], aI, gcheck_fun false [l] (by simp) (by simpa using hl) (by simpa using hw), (fun _ => fI), nI, ?_⟩)
 rw [firstErr_one]
 refine G1 ?_; intro gg
 (exact ⟨[], aI⟩)
theorem grcheck_fun (c : Bool) (l : List Gw) (hl : l.length ≤ 9223372036854775807) (hw : ∀ m ∈ l, m.ok) : Fun Tryz.prog 54 [.c (.sl c (l.map Gw.row))] [.c (.v (.int .i64 (ckGw l)))] := by
 refine fun_x ck_hearsayref_CheckGateways rfl ?_
 refine G0 ?_
 rw [List.length_map]
 (refine bIf_of (fun h1 => ?_) (fun h1 => ?_) <;> rw [h1])
 ·refine G0 ?_
  have e : ckGw l = 2 := ckL_long (by have := of_decide_eq_true h1; omega)
  rw [e]
  (exact ⟨[], aI⟩)
 ·have h1' : ¬ 6 < l.length := (by have := of_decide_eq_false h1; omega)
  refine G0 ?_
  (refine ⟨[], none, {k : Nat // k ≤ l.length ∧ ∀ j, (h : j < l.length) → j < k → (l[j]).err = 0}, [0], fun ⟨k, hk, h0⟩ => [(3, .v (.int .i64 k))], [], fun ⟨k, hk, h0⟩ => [], fun ⟨k, hk, h0⟩ => l.length - k, trivial, fun _ => ⟨trivial, fun _ => ⟨⟨0, by omega, fun j _ h => by omega⟩, tI, keptE_refl _ _, tI, keptH_refl _ _⟩⟩, fun ⟨k, hk, h0⟩ => ?_⟩)
  refine G0 ?_
  rw [List.length_map]
  (refine bIf_of (fun h => ?_) (fun h => ?_) <;> rw [h])
  ·have hlt : k < l.length := (by have := of_decide_eq_true h; omega)
   have hE : (l[k]).err ≠ 0 → ckGw l = (l[k]).err := fun h2' => by
    have e0 := firstErr_at hlt h0 h2'
    exact (ckL_each h1' (by rw [e0]; exact h2')).trans e0
   have hN : (l[k]).err = 0 → _ := fun e => up1 (p := fun j h => (l[j]).err = 0) h0 (fun _ => e)
   refine G0 ?_
   refine ⟨k, _, rfl, row_map hlt, ?_⟩
   refine G0 ?_
   (refine .inl ⟨_, _, false, [], aI, rlabel_fun _ (hw _ (List.getElem_mem hlt)), nobor, nI, ?_⟩)
   refine G1 ?_; intro gg
   (refine bIf_of (fun h2 => ?_) (fun h2 => ?_) <;> rw [h2])
   ·refine G0 ?_
    have e1 : (l[k]).err = 1 := by unfold Gw.err; simp_all
    rw [hE (by rw [e1]; decide), e1]
    (exact ⟨[], aI⟩)
   ·refine G0 ?_
    refine ⟨k, _, rfl, row_map hlt, ?_⟩
    refine G0 ?_
    (refine .inl ⟨_, _, false, [], aI, address_fun _, nobor, nI, ?_⟩)
    refine G1 ?_; intro gg
    (refine bIf_of (fun h3 => ?_) (fun h3 => ?_) <;> rw [h3])
    ·refine G0 ?_
     have e1 : (l[k]).err = 3 := by unfold Gw.err; simp_all
     rw [hE (by rw [e1]; decide), e1]
     (exact ⟨[], aI⟩)
    ·refine G0 ?_
     refine ⟨k, _, rfl, row_map hlt, ?_⟩
     refine G0 ?_
     (refine .inl ⟨_, _, false, [], aI, between_fun _ _ _, nobor, nI, ?_⟩)
     refine G1 ?_; intro gg
     (refine bIf_of (fun h4 => ?_) (fun h4 => ?_) <;> rw [h4])
     ·refine G0 ?_
      have e1 : (l[k]).err = 3 := by unfold Gw.err; simp_all
      rw [hE (by rw [e1]; decide), e1]
      (exact ⟨[], aI⟩)
     ·have e1 : (l[k]).err = 0 := by unfold Gw.err; simp_all
      refine G0 ?_
      (exact ⟨none, trivial, fun _ => ⟨⟨k + 1, by omega, hN e1⟩, by show l.length - (k + 1) < l.length - k; omega, tI, tI, tI, tI⟩⟩)
  ·have hge : ¬ k < l.length := (by have := of_decide_eq_false h; omega)
   have h2' : firstErr Gw.err l = 0 := firstErr_zero fun i hi => h0 i hi (by omega)
   refine G0 ?_
   (refine ⟨[], none, {k : Nat // (k < l.length ∨ k = 0) ∧ ∀ i, (h : i + 1 < l.length) → i < k → Gw.lt l[i] l[i + 1] = true}, [0], fun ⟨q, hq, g0⟩ => [(4, .v (.int .i64 ((q : Int) + 1)))], [], fun ⟨q, hq, g0⟩ => [], fun ⟨q, hq, g0⟩ => l.length - q, trivial, fun _ => ⟨trivial, fun _ => ⟨⟨0, by omega, fun j _ h => by omega⟩, tI, keptE_refl _ _, tI, keptH_refl _ _⟩⟩, fun ⟨q, hq, g0⟩ => ?_⟩)
   refine G0 ?_
   rw [List.length_map]
   (refine bIf_of (fun h3 => ?_) (fun h3 => ?_) <;> rw [h3])
   ·have hlt3 : q + 1 < l.length := (by have := of_decide_eq_true h3; omega)
    refine G0 ?_
    refine ⟨q + 1, _, by omega, row_map hlt3, ?_⟩
    refine G0 ?_
    refine ⟨q, _, by omega, row_map (by omega), ?_⟩
    refine G0 ?_
    rw [sle_eq]
    (refine bIf_of (fun h4 => ?_) (fun h4 => ?_) <;> rw [h4])
    ·refine G0 ?_
     have e : ckGw l = 4 := ckL_no h1' h2' (sorted_not hlt3 (by simpa [Gw.lt] using h4))
     rw [e]
     (exact ⟨[], aI⟩)
    ·refine G0 ?_
     (exact ⟨none, trivial, fun _ => ⟨⟨q + 1, by omega, up2 (p := fun i h => Gw.lt l[i] l[i + 1] = true) g0 (fun _ => by simpa [Gw.lt] using h4)⟩, by show l.length - (q + 1) < l.length - q; omega, tI, tI, tI, tI⟩⟩)
   ·have hge3 : ¬ q + 1 < l.length := (by have := of_decide_eq_false h3; omega)
    refine G0 ?_
    have e : ckGw l = 0 := ckL_yes h1' h2' (sorted_of fun i hi => g0 i hi (by omega))
    rw [e]
    (exact ⟨[], aI⟩)
theorem gcf_fun (g : Gw) (name : ByteArray) : Fun Tryz.prog 183 [.c (.agg g.row), .c (.v (.string name))] [.c (.v (.int .i64 (Gw.cf name g)))] := by
 refine fun_x ck_centre_find_1 rfl ?_
 refine G1 ?_; intro gg
 (refine .inl ⟨_, _, false, [], aI, cmps_fun _ _, nobor, nI, ?_⟩)
 refine G1 ?_; intro gg
 (exact ⟨[], aI⟩)
theorem gbs_fun (c : Bool) (l : List Gw) (name : ByteArray) (hl : l.length ≤ 1000) (hm : Mono (Gw.cf name) l) : Fun Tryz.prog 182 [.c (.sl c (l.map Gw.row)), .c (.v (.string name)), .c (.v (.func (.func 183) #[] #[]))] [.c (.v (.int .i64 (low (Gw.cf name) l))), .c (.v (.bool (hit (Gw.cf name) l)))] := by
 refine fun_x ck_slices_BinarySearchFunc_api_Gateway_api_Gateway_string rfl ?_
 refine G0 ?_
 rw [List.length_map]
 (refine ⟨[], none, {p : Nat × Nat // p.1 ≤ p.2 ∧ p.2 ≤ l.length ∧ (∀ k, (h : k < l.length) → k < p.1 → Gw.cf name l[k] < 0) ∧ (∀ k, (h : k < l.length) → p.2 ≤ k → 0 ≤ Gw.cf name l[k])}, [0, 1, 2, 8], fun ⟨⟨i, j⟩, h1, h2, h3, h4⟩ => [(9, .v (.int .i64 i)), (10, .v (.int .i64 j))], [], fun ⟨⟨i, j⟩, h1, h2, h3, h4⟩ => [], fun ⟨⟨i, j⟩, h1, h2, h3, h4⟩ => j - i, trivial, fun _ => ⟨trivial, fun _ => ⟨⟨(0, l.length), by omega, by omega, fun k _ h => absurd h (by omega), fun k h h' => absurd h (by omega)⟩, tI, keptE_refl _ _, tI, keptH_refl _ _⟩⟩, fun ⟨⟨i, j⟩, h1, h2, h3, h4⟩ => ?_⟩)
 dsimp only at h1 h2 h3 h4
 refine G0 ?_
 (refine bIf_of (fun h => ?_) (fun h => ?_) <;> rw [h])
 ·have hlt : i < j := (by have := of_decide_eq_true h; omega)
  have hk : (i + j) / 2 < l.length := by omega
  refine G0 ?_
  refine ⟨(i + j) / 2, _, by omega, row_map hk, ?_⟩
  refine G0 ?_
  (refine .inl ⟨_, _, false, [], aI, gcf_fun _ _, nobor, nI, ?_⟩)
  refine G1 ?_; intro gg
  (refine bIf_of (fun h5 => ?_) (fun h5 => ?_) <;> rw [h5])
  ·have h5' : Gw.cf name l[(i + j) / 2] < 0 := by simpa using h5
   refine G0 ?_
   (exact ⟨none, trivial, fun _ => ⟨⟨((i + j) / 2 + 1, j), by dsimp only; omega, h2, fun k hk' hka => hm k ((i + j) / 2) hk' hk (by dsimp only at hka; omega) h5', h4⟩, by show j - ((i + j) / 2 + 1) < j - i; omega, tI, tI, tI, tI⟩⟩)
  ·have h5' : ¬ Gw.cf name l[(i + j) / 2] < 0 := by simpa using h5
   refine G0 ?_
   (exact ⟨none, trivial, fun _ => ⟨⟨(i, (i + j) / 2), by dsimp only; omega, by dsimp only; omega, h3, fun k hk' hka => Int.not_lt.1 (fun h' => h5' (hm ((i + j) / 2) k hk hk' hka h'))⟩, by show (i + j) / 2 - i < j - i; omega, tI, tI, tI, tI⟩⟩)
 ·have hij : i = j := (by have := of_decide_eq_false h; omega)
  subst hij
  have HE := low_uniq (cf := Gw.cf name) h2 h3 h4
  refine G0 ?_
  (refine bIf_of (fun h5 => ?_) (fun h5 => ?_) <;> rw [h5])
  ·have hin : i < l.length := (by have := of_decide_eq_true h5; omega)
   have HH : hit (Gw.cf name) l = decide (Gw.cf name l[i] = 0) := by
    have hin' : low (Gw.cf name) l < l.length := by rw [← HE]; exact hin
    rw [hit_in hin']
    simp only [← HE]
   refine G0 ?_
   refine ⟨i, _, rfl, row_map hin, ?_⟩
   refine G0 ?_
   (refine .inl ⟨_, _, false, [], aI, gcf_fun _ _, nobor, nI, ?_⟩)
   refine G1 ?_; intro gg
   rw [← HE, HH]
   (exact ⟨[], aI⟩)
  ·have HH : hit (Gw.cf name) l = false := hit_out (by rw [← HE]; exact (by have := of_decide_eq_false h5; omega))
   refine G0 ?_
   rw [← HE, HH]
   (exact ⟨[], aI⟩)
theorem gfind_fun (c : Bool) (l : List Gw) (name : ByteArray) (hl : l.length ≤ 1000) (hm : Mono (Gw.cf name) l) : Fun Tryz.prog 137 [.c (.sl c (l.map Gw.row)), .c (.v (.string name))] [.c (.v (.int .i64 (low (Gw.cf name) l))), .c (.v (.bool (hit (Gw.cf name) l)))] := by
 refine fun_x ck_centre_find rfl ?_
 refine G0 ?_
 (refine .inl ⟨_, _, false, [], aI, gbs_fun c l name hl hm, nobor, nI, ?_⟩)
 refine G1 ?_; intro gg
 (exact ⟨[], aI⟩)
theorem gat_fun (c : Bool) (l : List Gw) (name : ByteArray) (hl : l.length ≤ 9223372036854775807) : Fun Tryz.prog 88 [.c (.sl c (l.map Gw.row)), .c (.v (.string name))] [.c (.v (.int .i64 (at_ (Gw.is name) l)))] := by
 refine fun_x ck_hearsayref_GatewayAt rfl ?_
 refine G0 ?_
 (refine ⟨[], none, {k : Nat // k ≤ l.length ∧ ∀ j, (h : j < l.length) → j < k → Gw.is name l[j] = false}, [0, 1], fun ⟨k, hk, h0⟩ => [(5, .v (.int .i64 k))], [], fun ⟨k, hk, h0⟩ => [], fun ⟨k, hk, h0⟩ => l.length - k, trivial, fun _ => ⟨trivial, fun _ => ⟨⟨0, by omega, fun j _ h => by omega⟩, tI, keptE_refl _ _, tI, keptH_refl _ _⟩⟩, fun ⟨k, hk, h0⟩ => ?_⟩)
 refine G0 ?_
 rw [List.length_map]
 (refine bIf_of (fun h => ?_) (fun h => ?_) <;> rw [h])
 ·have hlt : k < l.length := (by have := of_decide_eq_true h; omega)
  refine G0 ?_
  refine ⟨k, _, rfl, row_map hlt, ?_⟩
  refine G0 ?_
  (refine bIf_of (fun h2 => ?_) (fun h2 => ?_) <;> rw [h2])
  ·refine G0 ?_
   rw [at_yes hlt h0 h2]
   (exact ⟨[], aI⟩)
  ·refine G0 ?_
   (exact ⟨none, trivial, fun _ => ⟨⟨k + 1, by omega, up1 (p := fun j h => Gw.is name l[j] = false) h0 (fun _ => h2)⟩, by show l.length - (k + 1) < l.length - k; omega, tI, tI, tI, tI⟩⟩)
 ·have hge : ¬ k < l.length := (by have := of_decide_eq_false h; omega)
  refine G0 ?_
  rw [at_no (p := Gw.is name) (l := l) (fun i hi => h0 i hi (by omega))]
  (exact ⟨[], aI⟩)
end Go.Proofs.YtkclokmfomnbgaaGreat

namespace Go.Proofs.YtkclokmfomnbgaaGreat
open Go.RowKit Pl
set_option linter.unusedVariables false
theorem pwithin_fun (n a b : Int) : Fun Tryz.prog 108 [.c (.v (.int .i64 n)), .c (.v (.int .i64 a)), .c (.v (.int .i64 b))] [.c (.v (.bool (wi n a b)))] := by
 refine fun_x ck_place_within rfl ?_
 refine G0 ?_
 (refine bIf_of (fun h => ?_) (fun h => ?_) <;> rw [h])
 ·refine G0 ?_
  rw [wi_t h]
  (exact ⟨[], aI⟩)
 ·refine G0 ?_
  rw [wi_f h]
  (exact ⟨[], aI⟩)
theorem pck1_fun (n : Int) : Fun Tryz.prog 107 [.c (.v (.int .i64 n))] [.c (.v (.bool (wi n (-10000000) 10000000)))] := by
 refine fun_x ck_place_Check_1 rfl ?_
 refine G0 ?_
 (refine .inl ⟨_, _, false, [], aI, pwithin_fun _ _ _, nobor, nI, ?_⟩)
 refine G1 ?_; intro gg
 (exact ⟨[], aI⟩)
theorem okPl_t {x y z h s : Int} (h1 : wi x (-10000000) 10000000 = true) (h2 : wi y (-10000000) 10000000 = true) (h3 : wi z (-10000000) 10000000 = true) (h4 : wi h 0 1000000 = true) (h5 : wi s 0 1000 = true) : ckPl x y z h s = 0 := by simp [ckPl, okPl, h1, h2, h3, h4, h5]
theorem okPl_f {x y z h s : Int} (h1 : wi x (-10000000) 10000000 = false ∨ wi y (-10000000) 10000000 = false ∨ wi z (-10000000) 10000000 = false ∨ wi h 0 1000000 = false ∨ wi s 0 1000 = false) : ckPl x y z h s = 3 := by
 rcases h1 with h | h | h | h | h <;> simp [ckPl, okPl, h]
theorem pCheck_fun (p : Pc) : Fun Tryz.prog 47 [.c (.agg p.row)] [.c (.v (.int .i64 p.err))] := by
 refine fun_x ck_place_Check rfl ?_
 refine G1 ?_; intro gg
 (refine .inl ⟨_, _, false, [], aI, pck1_fun _, nobor, nI, ?_⟩)
 refine G1 ?_; intro gg
 (refine bIf_of (fun h1 => ?_) (fun h1 => ?_) <;> rw [h1])
 ·refine G0 ?_
  rw [show p.err = 3 from okPl_f (.inl (not_t h1))]
  (exact ⟨[], aI⟩)
 ·refine G0 ?_
  (refine .inl ⟨_, _, false, [], aI, pck1_fun _, nobor, nI, ?_⟩)
  refine G1 ?_; intro gg
  (refine bIf_of (fun h2 => ?_) (fun h2 => ?_) <;> rw [h2])
  ·refine G0 ?_
   rw [show p.err = 3 from okPl_f (.inr (.inl (not_t h2)))]
   (exact ⟨[], aI⟩)
  ·refine G0 ?_
   (refine .inl ⟨_, _, false, [], aI, pck1_fun _, nobor, nI, ?_⟩)
   refine G1 ?_; intro gg
   (refine bIf_of (fun h3 => ?_) (fun h3 => ?_) <;> rw [h3])
   ·refine G0 ?_
    rw [show p.err = 3 from okPl_f (.inr (.inr (.inl (not_t h3))))]
    (exact ⟨[], aI⟩)
   ·refine G0 ?_
    (refine .inl ⟨_, _, false, [], aI, pwithin_fun _ _ _, nobor, nI, ?_⟩)
    refine G1 ?_; intro gg
    (refine bIf_of (fun h4 => ?_) (fun h4 => ?_) <;> rw [h4])
    ·refine G0 ?_
     rw [show p.err = 3 from okPl_f (.inr (.inr (.inr (.inl (not_t h4)))))]
     (exact ⟨[], aI⟩)
    ·refine G0 ?_
     (refine .inl ⟨_, _, false, [], aI, pwithin_fun _ _ _, nobor, nI, ?_⟩)
     refine G1 ?_; intro gg
     (refine bIf_of (fun h5 => ?_) (fun h5 => ?_) <;> rw [h5])
     ·refine G0 ?_
      rw [show p.err = 3 from okPl_f (.inr (.inr (.inr (.inr (not_t h5)))))]
      (exact ⟨[], aI⟩)
     ·refine G0 ?_
      rw [show p.err = 0 from okPl_t (not_f h1) (not_f h2) (not_f h3) (not_f h4) (not_f h5)]
      (exact ⟨[], aI⟩)
theorem rcheckp_fun (p : Pc) : Fun Tryz.prog 55 [.c (.agg p.row)] [.c (.v (.int .i64 p.err))] := by
 refine fun_x ck_hearsayref_CheckPlace rfl ?_
 refine G1 ?_; intro gg
 (refine .inl ⟨_, _, false, [], aI, between_fun _ _ _, nobor, nI, ?_⟩)
 refine G1 ?_; intro gg
 (refine bIf_of (fun h1 => ?_) (fun h1 => ?_) <;> rw [h1])
 ·refine G0 ?_
  rw [show p.err = 3 from okPl_f (.inl (not_t h1))]
  (exact ⟨[], aI⟩)
 ·refine G0 ?_
  (refine .inl ⟨_, _, false, [], aI, between_fun _ _ _, nobor, nI, ?_⟩)
  refine G1 ?_; intro gg
  (refine bIf_of (fun h2 => ?_) (fun h2 => ?_) <;> rw [h2])
  ·refine G0 ?_
   rw [show p.err = 3 from okPl_f (.inr (.inl (not_t h2)))]
   (exact ⟨[], aI⟩)
  ·refine G0 ?_
   (refine .inl ⟨_, _, false, [], aI, between_fun _ _ _, nobor, nI, ?_⟩)
   refine G1 ?_; intro gg
   (refine bIf_of (fun h3 => ?_) (fun h3 => ?_) <;> rw [h3])
   ·refine G0 ?_
    rw [show p.err = 3 from okPl_f (.inr (.inr (.inl (not_t h3))))]
    (exact ⟨[], aI⟩)
   ·refine G0 ?_
    (refine .inl ⟨_, _, false, [], aI, between_fun _ _ _, nobor, nI, ?_⟩)
    refine G1 ?_; intro gg
    (refine bIf_of (fun h4 => ?_) (fun h4 => ?_) <;> rw [h4])
    ·refine G0 ?_
     rw [show p.err = 3 from okPl_f (.inr (.inr (.inr (.inl (not_t h4)))))]
     (exact ⟨[], aI⟩)
    ·refine G0 ?_
     (refine .inl ⟨_, _, false, [], aI, between_fun _ _ _, nobor, nI, ?_⟩)
     refine G1 ?_; intro gg
     (refine bIf_of (fun h5 => ?_) (fun h5 => ?_) <;> rw [h5])
     ·refine G0 ?_
      rw [show p.err = 3 from okPl_f (.inr (.inr (.inr (.inr (not_t h5)))))]
      (exact ⟨[], aI⟩)
     ·refine G0 ?_
      rw [show p.err = 0 from okPl_t (not_f h1) (not_f h2) (not_f h3) (not_f h4) (not_f h5)]
      (exact ⟨[], aI⟩)
end Go.Proofs.YtkclokmfomnbgaaGreat
namespace Go.Proofs.YtkclokmfomnbgaaGreat
open Go.RowKit Pl
set_option linter.unusedVariables false
theorem places_fun (c : Bool) (l : List Wh) (hl : l.length ≤ 9223372036854775807) (hw : ∀ x ∈ l, x.ok) : Fun Tryz.prog 48 [.c (.sl c (l.map Wh.row))] [.c (.v (.int .i64 (ckWh l)))] := by
 refine fun_x ck_packet_Places rfl ?_
 refine G0 ?_
 rw [List.length_map]
 (refine bIf_of (fun h1 => ?_) (fun h1 => ?_) <;> rw [h1])
 ·refine G0 ?_
  have e : ckWh l = 2 := ckL_long (by have := of_decide_eq_true h1; omega)
  rw [e]
  (exact ⟨[], aI⟩)
 ·have h1' : ¬ 20 < l.length := (by have := of_decide_eq_false h1; omega)
  refine G0 ?_
  rw [List.length_map]
  (refine ⟨[], none, {k : Nat // k ≤ l.length ∧ ∀ j, (h : j < l.length) → j < k → Wh.err l[j] = 0}, [0, 10, 11], fun ⟨k, hk, h0⟩ => [(12, .v (.int .i64 k))], [], fun ⟨k, hk, h0⟩ => [], fun ⟨k, hk, h0⟩ => l.length - k, trivial, fun _ => ⟨trivial, fun _ => ⟨⟨0, Nat.zero_le _, fun j _ h => absurd h (Nat.not_lt_zero _)⟩, tI, keptE_refl _ _, tI, keptH_refl _ _⟩⟩, fun ⟨k, hk, h0⟩ => ?_⟩)
  refine G0 ?_
  (refine bIf_of (fun h2 => ?_) (fun h2 => ?_) <;> rw [h2])
  ·have hlt : k < l.length := (by have := of_decide_eq_true h2; omega)
   refine G0 ?_
   refine ⟨k, _, rfl, row_map hlt, ?_⟩
   refine G1 ?_; intro gg
   have hx := hw _ (List.getElem_mem hlt)
   (refine .inl ⟨_, _, false, [], aI, label_fun (l[k]).nd hx, nobor, nI, ?_⟩)
   refine G1 ?_; intro gg
   have HE := firstErr_at (e := Wh.err) hlt h0
   (refine bIf_of (fun h3 => ?_) (fun h3 => ?_) <;> rw [h3])
   ·have h3' : lab (l[k]).nd.data.toList = false := not_t h3
    refine G0 ?_
    have e1 : Wh.err l[k] = 1 := by unfold Wh.err; rw [h3']; rfl
    have e : ckWh l = 1 := by unfold ckWh; rw [ckL_each h1' (by rw [HE (by rw [e1]; decide), e1]; decide), HE (by rw [e1]; decide), e1]
    rw [e]
    (exact ⟨[], aI⟩)
   ·have h3' : lab (l[k]).nd.data.toList = true := not_f h3
    have e1 : Wh.err l[k] = (l[k]).pl.err := by unfold Wh.err; rw [h3']; rfl
    refine G0 ?_
    (refine .inl ⟨_, _, false, [], aI, pCheck_fun (l[k]).pl, nobor, nI, ?_⟩)
    refine G1 ?_; intro gg
    (refine bIf_of (fun h4 => ?_) (fun h4 => ?_) <;> rw [h4])
    ·have h4' : (l[k]).pl.err ≠ 0 := by simpa using h4
     refine G0 ?_
     have e : ckWh l = (l[k]).pl.err := by unfold ckWh; rw [ckL_each h1' (by rw [HE (by rw [e1]; exact h4'), e1]; exact h4'), HE (by rw [e1]; exact h4'), e1]
     rw [e]
     (exact ⟨[], aI⟩)
    ·have h4' : (l[k]).pl.err = 0 := by simpa using h4
     refine G0 ?_
     (exact ⟨none, trivial, fun _ => ⟨⟨k + 1, by omega, up1 (p := fun j h => Wh.err l[j] = 0) h0 (fun _ => e1.trans h4')⟩, by show l.length - (k + 1) < l.length - k; omega, tI, tI, tI, tI⟩⟩)
  ·have hge : ¬ k < l.length := (by have := of_decide_eq_false h2; omega)
   have h2' : firstErr Wh.err l = 0 := firstErr_zero fun i hi => h0 i hi (by omega)
   refine G0 ?_
   (refine ⟨[], none, {q : Nat // (q < l.length ∨ q = 0) ∧ ∀ i, (h : i + 1 < l.length) → i < q → Wh.lt l[i] l[i + 1] = true}, [0], fun ⟨q, hq, g0⟩ => [(6, .v (.int .i64 ((q : Int) + 1)))], [], fun ⟨q, hq, g0⟩ => [], fun ⟨q, hq, g0⟩ => l.length - q, trivial, fun _ => ⟨trivial, fun _ => ⟨⟨0, by omega, fun j _ h => by omega⟩, tI, keptE_refl _ _, tI, keptH_refl _ _⟩⟩, fun ⟨q, hq, g0⟩ => ?_⟩)
   refine G0 ?_
   rw [List.length_map]
   (refine bIf_of (fun h3 => ?_) (fun h3 => ?_) <;> rw [h3])
   ·have hlt3 : q + 1 < l.length := (by have := of_decide_eq_true h3; omega)
    refine G0 ?_
    refine ⟨q + 1, _, by omega, row_map hlt3, ?_⟩
    refine G0 ?_
    refine ⟨q, _, by omega, row_map (by omega), ?_⟩
    refine G0 ?_
    rw [sle_eq]
    (refine bIf_of (fun h4 => ?_) (fun h4 => ?_) <;> rw [h4])
    ·refine G0 ?_
     have e : ckWh l = 4 := ckL_no h1' h2' (sorted_not hlt3 (by simpa [Wh.lt] using h4))
     rw [e]
     (exact ⟨[], aI⟩)
    ·refine G0 ?_
     (exact ⟨none, trivial, fun _ => ⟨⟨q + 1, by omega, up2 (p := fun i h => Wh.lt l[i] l[i + 1] = true) g0 (fun _ => by simpa [Wh.lt] using h4)⟩, by show l.length - (q + 1) < l.length - q; omega, tI, tI, tI, tI⟩⟩)
   ·have hge3 : ¬ q + 1 < l.length := (by have := of_decide_eq_false h3; omega)
    refine G0 ?_
    have e : ckWh l = 0 := ckL_yes h1' h2' (sorted_of fun i hi => g0 i hi (by omega))
    rw [e]
    (exact ⟨[], aI⟩)
theorem all_no {α : Type} {p : α → Bool} {l : List α} {k : Nat} (h : k < l.length) (hp : p l[k] = false) : l.all p = false := by
 rw [List.all_eq_false]
 exact ⟨l[k], List.getElem_mem h, by rw [hp]; simp⟩
def zRow (x : Int) : List V := [.v (.int .i64 x)]
instance : FlatRow zRow := ⟨fun x u hu => by simp [zRow] at hu; subst hu; exact ⟨_, rfl⟩⟩
theorem rumors_fun (n : Nd) (h : n.ok) (hm : ckMb n.ms = 0) : Fun Tryz.prog 50 [.c (.agg n.row)] [.c (.v (.bool (n.rs.all (ruOk n.ms))))] := by
 have hi := ckMb_inv hm
 have hrl := h.rsl
 refine fun_x ck_node_rumors rfl ?_
 refine G1 ?_; intro gg
 rw [List.length_map]
 (refine ⟨[], none, {k : Nat // k ≤ n.rs.length ∧ ∀ j, (h : j < n.rs.length) → j < k → ruOk n.ms n.rs[j] = true}, [1, 8, 9], fun ⟨k, hk, h0⟩ => [(10, .v (.int .i64 k))], [16], fun ⟨k, hk, h0⟩ => [], fun ⟨k, hk, h0⟩ => n.rs.length - k, trivial, fun _ => ⟨trivial, fun _ => ⟨⟨0, Nat.zero_le _, fun j _ h => absurd h (Nat.not_lt_zero _)⟩, tI, keptE_refl _ _, tI, keptH_refl _ _⟩⟩, fun ⟨k, hk, h0⟩ => ?_⟩)
 refine G0 ?_
 (refine bIf_of (fun h1 => ?_) (fun h1 => ?_) <;> rw [h1])
 ·have hlt : k < n.rs.length := (by have := of_decide_eq_true h1; omega)
  refine G0 ?_
  refine ⟨k, _, rfl, row_map hlt, ?_⟩
  refine G1 ?_; intro gg
  (refine .inl ⟨_, _, false, [], aI, mfind_fun false n.ms (n.rs[k]).m.n (by omega) (Mb.smono hi.2.2 _).mono, nobor, nI, ?_⟩)
  refine G1 ?_; intro gg
  (refine bIf_of (fun h3 => ?_) (fun h3 => ?_) <;> rw [h3])
  ·have h3' := not_t h3
   refine G0 ?_
   rw [all_no hlt (ruOk_no h3')]
   (exact ⟨[], aI⟩)
  ·have h3' := not_f h3
   have hl2 := hit_lt h3'
   have hro := ruOk_at h3' (List.getElem?_eq_getElem hl2)
   refine G0 ?_
   refine ⟨low (Mb.cf (n.rs[k]).m.n) n.ms, _, rfl, row_map hl2, ?_⟩
   refine G0 ?_
   (refine .inl ⟨_, _, false, [], aI, mcmp_fun (n.rs[k]).m (n.ms[low (Mb.cf (n.rs[k]).m.n) n.ms]), nobor, nI, ?_⟩)
   refine G1 ?_; intro gg
   (refine bIf_of (fun h4 => ?_) (fun h4 => ?_) <;> rw [h4])
   ·have h4' := of_decide_eq_true h4
    refine G0 ?_
    rw [all_no hlt (by rw [hro]; exact decide_eq_false (by omega))]
    (exact ⟨[], aI⟩)
   ·have h4' := of_decide_eq_false h4
    refine G0 ?_
    (exact ⟨none, trivial, fun _ => ⟨⟨k + 1, by omega, up1 (p := fun j h => ruOk n.ms n.rs[j] = true) h0 (fun _ => by rw [hro]; exact decide_eq_true (by omega))⟩, by show n.rs.length - (k + 1) < n.rs.length - k; omega, tI, tI, tI, tI⟩⟩)
 ·have hge : ¬ k < n.rs.length := (by have := of_decide_eq_false h1; omega)
  refine G0 ?_
  rw [show n.rs.all (ruOk n.ms) = true from List.all_eq_true.2 fun r hr => by obtain ⟨j, hj, rfl⟩ := List.mem_iff_getElem.1 hr; exact h0 j hj (by omega)]
  (exact ⟨[], aI⟩)
theorem ndCheck_fun (n : Nd) (h : n.ok) : Fun Tryz.prog 17 [.c (.agg n.row)] [.c (.v (.int .i64 n.err))] := by
 refine fun_x ck_node_Check rfl ?_
 refine G1 ?_; intro gg
 (refine .inl ⟨_, _, false, [], aI, label_fun n.nm h.nm, nobor, nI, ?_⟩)
 refine G1 ?_; intro gg
 (refine bIf_of (fun h1 => ?_) (fun h1 => ?_) <;> rw [h1])
 ·refine G0 ?_
  rw [Nd.err_form (.inl (not_t h1))]
  (exact ⟨[], aI⟩)
 ·have h1' := not_f h1
  refine G0 ?_
  (refine .inl ⟨_, _, false, [], aI, label_fun n.ce h.ce, nobor, nI, ?_⟩)
  refine G1 ?_; intro gg
  (refine bIf_of (fun h2 => ?_) (fun h2 => ?_) <;> rw [h2])
  ·refine G0 ?_
   rw [Nd.err_form (.inr (not_t h2))]
   (exact ⟨[], aI⟩)
  ·have h2' := not_f h2
   refine G0 ?_
   (refine ⟨_, _, false, aI, mCheck_fun n.ms h.msl h.ms, nobor, nI, ?_⟩)
   refine G1 ?_; intro gg
   (refine ⟨_, _, false, aI, ruCheck_fun false n.rs h.rsl h.rs, nobor, nI, ?_⟩)
   refine G1 ?_; intro gg
   (refine ⟨_, _, false, aI, sCheck_fun n.sv h.svl h.sv, nobor, nI, ?_⟩)
   refine G1 ?_; intro gg
   (refine ⟨_, _, false, aI, gCheck_fun n.gs h.gsl h.gs, nobor, nI, ?_⟩)
   refine G1 ?_; intro gg
   (refine ⟨_, _, false, aI, pCheck_fun n.pl, nobor, nI, ?_⟩)
   refine G1 ?_; intro gg
   (refine ⟨_, _, false, aI, places_fun false n.wh h.whl h.wh, nobor, nI, ?_⟩)
   (refine goI ?_; repeat (intro gg; refine goI ?_))
   (refine ⟨[], none, {k : Nat // k ≤ 6 ∧ ∀ j, (h : j < n.cks.length) → j < k → n.cks[j] = 0}, [1, 35, 36], fun ⟨k, hk, h0⟩ => [(37, .v (.int .i64 k))], [16, 560], fun ⟨k, hk, h0⟩ => [], fun ⟨k, hk, h0⟩ => 6 - k, trivial, fun _ => ⟨trivial, fun _ => ⟨⟨0, Nat.zero_le _, fun j _ h => absurd h (Nat.not_lt_zero _)⟩, tI, keptE_refl _ _, tI, keptH_refl _ _⟩⟩, fun ⟨k, hk, h0⟩ => ?_⟩)
   refine G0 ?_
   have hk6 : k ≤ 6 := hk
   (refine bIf_of (fun h3 => ?_) (fun h3 => ?_) <;> rw [h3])
   ·have hlt6 : k < 6 := by have h4 := of_decide_eq_true h3; have h5 : (k : Int) < 6 := h4; omega
    have hlt : k < n.cks.length := hlt6
    refine G0 ?_
    refine ⟨k, _, rfl, row_map (f := zRow) (l := n.cks) hlt, ?_⟩
    refine G0 ?_
    refine ⟨_, row_map (f := zRow) (l := n.cks) hlt, ?_⟩
    refine G0 ?_
    (refine bIf_of (fun h4 => ?_) (fun h4 => ?_) <;> rw [h4])
    ·have h4' : n.cks[k] ≠ 0 := by simpa using h4
     have e : firstErr (fun e => e) n.cks = n.cks[k] := firstErr_at (e := fun e => e) hlt h0 h4'
     refine G0 ?_
     rw [Nd.err_ck h1' h2' (by rw [e]; exact h4'), e]
     (exact ⟨[], aI⟩)
    ·have h4' : n.cks[k] = 0 := by simpa using h4
     refine G0 ?_
     (exact ⟨none, trivial, fun _ => ⟨⟨k + 1, by omega, up1 (p := fun j h => n.cks[j] = 0) h0 (fun _ => h4')⟩, by show 6 - (k + 1) < 6 - k; omega, tI, tI, tI, tI⟩⟩)
   ·have hge : ¬ k < 6 := by have h4 := of_decide_eq_false h3; have h5 : ¬ (k : Int) < 6 := h4; omega
    have hz : firstErr (fun e => e) n.cks = 0 := firstErr_zero (e := fun e => e) fun i hi => h0 i hi (by have h6 : i < 6 := hi; omega)
    obtain ⟨c1, c2, c3, c4, c5, c6⟩ := cks_zero hz
    have hi := ckMb_inv c1
    refine G0 ?_
    (refine .inl ⟨_, _, false, [], aI, mfind_fun false n.ms n.nm (by omega) (Mb.smono hi.2.2 _).mono, nobor, nI, ?_⟩)
    refine G1 ?_; intro gg
    (refine bIf_of (fun h5 => ?_) (fun h5 => ?_) <;> rw [h5])
    ·have h5' := not_t h5
     refine G0 ?_
     rw [Nd.err_none h1' h2' hz h5']
     (exact ⟨[], aI⟩)
    ·have h5' := not_f h5
     have hl2 := hit_lt h5'
     have hm : n.ms[low (Mb.cf n.nm) n.ms]? = some n.ms[low (Mb.cf n.nm) n.ms] := List.getElem?_eq_getElem hl2
     rw [Nd.err_mine h1' h2' hz h5', Nd.mine_at hm]
     refine G0 ?_
     refine ⟨low (Mb.cf n.nm) n.ms, _, rfl, row_map hl2, ?_⟩
     refine G0 ?_
     (refine bIf_of (fun h6 => ?_) (fun h6 => ?_) <;> rw [h6])
     ·have h6' : (n.ms[low (Mb.cf n.nm) n.ms]).st = 2 := by simpa using h6
      rw [if_pos (.inl h6')]
      refine G0 ?_
      (exact ⟨[], aI⟩)
     ·have h6' : (n.ms[low (Mb.cf n.nm) n.ms]).st ≠ 2 := by simpa using h6
      refine G0 ?_
      refine ⟨low (Mb.cf n.nm) n.ms, _, rfl, row_map hl2, ?_⟩
      refine G0 ?_
      (refine bIf_of (fun h7 => ?_) (fun h7 => ?_) <;> rw [h7])
      ·have h7' : (n.ms[low (Mb.cf n.nm) n.ms]).st = 3 := by simpa using h7
       rw [if_pos (.inr h7')]
       refine G0 ?_
       (exact ⟨[], aI⟩)
      ·have h7' : (n.ms[low (Mb.cf n.nm) n.ms]).st ≠ 3 := by simpa using h7
       rw [if_neg (fun q => q.elim h6' h7')]
       refine G0 ?_
       (refine .inl ⟨_, _, false, [], aI, rumors_fun n h c1, nobor, nI, ?_⟩)
       refine G1 ?_; intro gg
       (refine bIf_of (fun h8 => ?_) (fun h8 => ?_) <;> rw [h8])
       ·rw [if_neg (by rw [not_t h8]; simp)]
        refine G0 ?_
        (exact ⟨[], aI⟩)
       ·rw [if_pos (not_f h8)]
        refine G0 ?_
        (exact ⟨[], aI⟩)
end Go.Proofs.YtkclokmfomnbgaaGreat
namespace Go.Proofs.YtkclokmfomnbgaaGreat
open Go.RowKit Pl
set_option linter.unusedVariables false
theorem mclone_fun (c : Bool) (l : List Mb) (hl : l.length ≤ 1000) : Fun Tryz.prog 115 [.c (.sl c (l.map Mb.row))] [.o 37 5 (l.map Mb.row)] :=
 cloneMb_fun Mb.enc Mb.enc_len Mb.enc_one c l hl
theorem minsert_fun (l : List Mb) (x : Mb) (i : Nat) (hi : i ≤ l.length) (hl : l.length ≤ 1000) : Fun Tryz.prog 206 [.o 37 5 (l.map Mb.row), .c (.v (.int .i64 i)), .o 37 5 [x.row]] [.o 37 5 ((l.take i ++ [x] ++ l.drop i).map Mb.row)] :=
 insertMb_fun Mb.enc Mb.enc_len Mb.enc_one l x i hi hl
theorem mput_fun (l : List Mb) (m : Mb) (hl : l.length ≤ 1000) (hs : sorted Mb.lt l = true) : Fun Tryz.prog 176 [.o 37 5 (l.map Mb.row), .c (.agg m.row)] [.o 37 5 ((Pl.upd Mb.kf Mb.nw l m).map Mb.row), .c (.v (.bool (hearF Mb.kf Mb.nw l m)))] := by
 have hm := Mb.smono hs m.n
 have hlow := low_le (cf := Mb.cf m.n) l
 refine fun_x ck_member_put rfl ?_
 refine G1 ?_; intro gg
 (refine .inl ⟨_, _, true, [], aI, mfind_fun false l m.n hl hm.mono, (fun _ => fI), nI, ?_⟩)
 refine G1 ?_; intro gg
 (refine bIf_of (fun h1 => ?_) (fun h1 => ?_) <;> rw [h1])
 ·have h1' : hit (Mb.kf m) l = false := (by simpa using h1 : hit (Mb.cf m.n) l = false)
  refine G1 ?_; intro gg
  (refine .inl ⟨_, _, true, [0, 336], aI, minsert_fun l m (low (Mb.cf m.n) l) hlow hl, (fun _ => fI), nI, ?_⟩)
  refine G1 ?_; intro gg
  rw [upd_miss h1', hearF_miss h1']
  (exact ⟨[352], aI⟩)
 ·have h1' : hit (Mb.kf m) l = true := (by simpa using h1 : hit (Mb.cf m.n) l = true)
  have hlt := hit_lt h1'
  refine G0 ?_
  refine ⟨low (Mb.cf m.n) l, _, rfl, row_map hlt, ?_⟩
  refine G0 ?_
  (refine .inl ⟨_, _, false, [], aI, mcmp_fun _ _, nobor, nI, ?_⟩)
  refine G1 ?_; intro gg
  (refine bIf_of (fun h2 => ?_) (fun h2 => ?_) <;> rw [h2])
  ·have hf : hearF Mb.kf Mb.nw l m = true := (hearF_hit h1').trans h2
   refine G0 ?_
   refine ⟨low (Mb.cf m.n) l, _, rfl, row_map hlt, ?_⟩
   refine G0 ?_
   rw [upd_newer h1' h2, hf, List.map_set]
   (exact ⟨[0], aI⟩)
  ·have hf : hearF Mb.kf Mb.nw l m = false := (hearF_hit h1').trans h2
   refine G0 ?_
   rw [upd_older h1' h2, hf]
   (exact ⟨[0], aI⟩)
theorem mHear_fun (l : List Mb) (m : Mb) (hl : l.length ≤ 9223372036854775807) (hw : ∀ x ∈ l, x.ok) (hm : m.ok) : Fun Tryz.prog 131 [.c (.sl false (l.map Mb.row)), .c (.agg m.row)] [.c (.sl false ((hearM l m).2.1.map Mb.row)), .c (.v (.bool (hearM l m).2.2)), .c (.v (.int .i64 (hearM l m).1))] := by
 refine fun_x ck_member_Hear rfl ?_
 (refine goI ?_; repeat (intro gg; refine goI ?_))
 (refine .inl ⟨_, _, true, [], aI, mcheck_fun false [l] (by simp) (by simpa using hl) (by simpa using hw), (fun _ => fI), nI, ?_⟩)
 rw [firstErr_one]
 refine G1 ?_; intro gg
 (refine bIf_of (fun h1 => ?_) (fun h1 => ?_) <;> rw [h1])
 ·have h1' : ckMb l = 0 := by simpa using h1
  have hi := ckMb_inv h1'
  have hul := (upd_len (cf := Mb.kf) (l := l) Mb.nw m).2
  refine G0 ?_
  (refine .inl ⟨_, _, false, [], aI, mone_fun m hm, nobor, nI, ?_⟩)
  refine G1 ?_; intro gg
  (refine bIf_of (fun h2 => ?_) (fun h2 => ?_) <;> rw [h2])
  ·refine G0 ?_
   rw [hearM_one h1' (by simpa using h2)]
   (exact ⟨[], aI⟩)
  ·have h2' : m.err = 0 := by simpa using h2
   refine G0 ?_
   (refine ⟨_, _, false, aI, mclone_fun false l (by omega), nobor, nI, ?_⟩)
   refine G1 ?_; intro gg
   (refine .inl ⟨_, _, true, [336], aI, mput_fun l m (by omega) hi.2.2, (fun _ => fI), nI, ?_⟩)
   refine G1 ?_; intro gg
   rw [List.length_map]
   (refine bIf_of (fun h3 => ?_) (fun h3 => ?_) <;> rw [h3])
   ·refine G0 ?_
    rw [hearM_many h1' h2' (by have := of_decide_eq_true h3; omega)]
    (exact ⟨[], aI⟩)
   ·refine G0 ?_
    rw [hearM_ok h1' h2' (by have := of_decide_eq_false h3; omega)]
    (exact ⟨[], aI⟩)
 ·have h1' : ckMb l ≠ 0 := by simpa using h1
  refine G0 ?_
  (refine bIf_of (fun h2 => ?_) (fun h2 => ?_) <;> rw [h2])
  ·refine G0 ?_
   rw [hearM_ck h1']
   (exact ⟨[], aI⟩)
  ·exact absurd (by simpa using h2) h1'
end Go.Proofs.YtkclokmfomnbgaaGreat
namespace Go.Proofs.YtkclokmfomnbgaaGreat.Pl
set_option linter.unusedVariables false
def Sv.at_ (s : Sv) (v : Int) : Sv := ⟨s.nd, s.id, s.nm, s.tg, s.ad, s.pt, s.ps, v, s.gn⟩
def Sv.fresh (s : Sv) : Sv := ⟨s.nd, s.id, s.nm, s.tg, s.ad, s.pt, s.ps, 1, false⟩
def Sv.away (s : Sv) : Sv := ⟨s.nd, s.id, s.nm, s.tg, s.ad, s.pt, s.ps, s.vs, true⟩
def joinS (a b : List Sv) : Int × List Sv :=
 if ckSv a ≠ 0 then (ckSv a, []) else if ckSv b ≠ 0 then (ckSv b, []) else if 40 < (joinL Sv.kf Sv.nw a b).length then (2, []) else (0, joinL Sv.kf Sv.nw a b)
theorem first_twoS {α : Type} {e : α → Int} {a b : α} (h : firstErr e [a, b] = 0) : e a = 0 ∧ e b = 0 := by
 by_cases h1 : e a = 0
 ·by_cases h2 : e b = 0
  ·exact ⟨h1, h2⟩
  ·simp [firstErr, h1, h2] at h
 ·simp [firstErr, h1] at h
theorem joinS_bad {a b : List Sv} (h : firstErr ckSv [a, b] ≠ 0) : joinS a b = (firstErr ckSv [a, b], []) := by
 by_cases h1 : ckSv a = 0
 ·by_cases h2 : ckSv b = 0
  ·simp [firstErr, h1, h2] at h
  ·simp [joinS, firstErr, h1, h2]
 ·simp [joinS, firstErr, h1]
theorem joinS_many {a b : List Sv} (h : ckSv a = 0) (h1 : ckSv b = 0) (h2 : 40 < (joinL Sv.kf Sv.nw a b).length) : joinS a b = (2, []) := by simp [joinS, h, h1, h2]
theorem joinS_ok {a b : List Sv} (h : ckSv a = 0) (h1 : ckSv b = 0) (h2 : ¬ 40 < (joinL Sv.kf Sv.nw a b).length) : joinS a b = (0, joinL Sv.kf Sv.nw a b) := by simp [joinS, h, h1, h2]
theorem Sv.err_inv {m : Sv} (h : m.err = 0) : 1 ≤ m.vs ∧ m.vs ≤ 1000000 := by
 unfold Sv.err at h
 repeat' split at h
 all_goals first
  | omega
  | (rename_i h7; exact wi_iff.1 h7)
end Go.Proofs.YtkclokmfomnbgaaGreat.Pl
