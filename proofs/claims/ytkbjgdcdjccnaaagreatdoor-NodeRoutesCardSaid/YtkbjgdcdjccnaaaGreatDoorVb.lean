/- Texts of this claim, joined. -/
import Derived.Test.YtkbjgdcdjccnaaaGreatDoorProg
import Derived.Test.YtkbjgdcdjccnaaaGreatDoorWAbsQ
import Derived.KernelRfl
import Derived.Test.YtkbjgdcdjccnaaaGreatDoorRows
import Derived.WalkKit
import Derived.ProofKit
import Derived.OpenShut
import Derived.Below
import Derived.ChangeSame
import Derived.Test.YtkbjgdcdjccnaaaGreatDoorWAbsG
import Derived.Deep.Slices
import Derived.Deep.Fields
import Derived.Lib.SmallJoins
import Derived.WalkSmall
import Derived.WalkLawsBesides
import Derived.BigGuardPart
import Derived.Deep.Light
import Derived.Laws.IdiomStrings
import Derived.Test.YtkbjgdcdjccnaaaGreatDoorVa
set_option linter.unusedSimpArgs false
set_option linter.unusedVariables false
namespace Go.Proofs.YtkbjgdcdjccnaaaGreatDoor
abbrev zq0:List Value:=[(.int .i64 0),(.bool false),(.bool false),(.int .i64 0),(.string ⟨#[]⟩),(.int .i64 0),(.slice none 0 0)]
abbrev zq1:List Value:=[(.string ⟨#[]⟩),(.int .i64 0),(.int .i64 0),(.int .i64 0),(.bool false),(.int .i64 0)]
abbrev zq2:List Value:=[(.string ⟨#[]⟩),(.int .i64 0),(.int .i64 0),(.int .i64 0),(.bool false)]
abbrev zq3:List Value:=[(.string ⟨#[]⟩),(.int .i64 0),(.int .i64 0),(.int .i64 0),(.int .i64 0),(.int .i64 0)]
abbrev zq4:List Value:=[(.string ⟨#[]⟩),(.int .i64 0),(.int .i64 0),(.int .i64 0),(.string ⟨#[]⟩),(.int .i64 0),(.string ⟨#[]⟩)]
abbrev zq5:List Value:=[(.string ⟨#[]⟩),(.string ⟨#[]⟩),(.string ⟨#[]⟩),(.string ⟨#[]⟩),(.int .i64 0),(.int .i64 0),(.bool false),(.int .i64 0),(.bool false)]
abbrev zq7:List Value:=[(.string ⟨#[]⟩),(.string ⟨#[]⟩),(.string ⟨#[]⟩),(.string ⟨#[]⟩)]
def Aaa:Ag:=
 .seq (.reg [Rq 3 (.box 24 5 1),Rq 4 (.mv (.const (.slice none 0 0))),Rq 5 (.mv (.const (.bool false))),Nq 6 0]) (.seq (.reg [Mq 9 0,Rq 10 (.mks 22 1 1 [(.slice none 0 0)] [(0,9)]),Cq 11 38 ([10]),Mq 7 11]) (.seq (.seq (.reg [Mq 12 7,Bq 13 .eql 12 (Kq 0)]) (.cond 13 (.reg [Rq 14 (.load true 5 3),Cq 15 39 ([14]),Mq 7 15]) (.skip))) (.seq (.seq (.reg [Mq 16 7,Bq 17 .neq 16 (Kq 0)]) (.cond 17 (.seq (.reg [Mq 18 7,Rq 4 (.mv (.const (.slice none 0 0))),Rq 5 (.mv (.const (.bool false))),Mq 6 18]) (.ret)) (.skip))) (.seq (.dreg [[Mq 20 0,Cq 21 41 ([20]),Rq 22 (.load true 5 3)],[Cq 23 40 ([21,22])],[Mq 19 23],[Eq1 24 19 0,Eq1 25 19 1,Mq 0 24],[Mq 8 25]]) (.seq (.seq (.reg [Mq 26 0,Rq 27 (.len false 26),Bq 28 .gtr 27 (Kq 20)]) (.cond 28 (.seq (.reg [Rq 4 (.mv (.const (.slice none 0 0))),Rq 5 (.mv (.const (.bool false))),Nq 6 2]) (.ret)) (.skip))) (.seq (.reg [Mq 29 0,Mq 30 8,Mq 4 29,Mq 5 30,Nq 6 0]) (.ret)))))))
theorem P7:Ah Tryz.prog 10 2=some (Aaa,[4,5,6]):=by kernel_rfl
def Ac5:Ag:=
 .seq (.reg [Rq 3 (.box 25 1 0),Rq 5 (.box 3 1 2),Rq 6 (.mv (.const (.slice none 0 0))),Rq 7 (.mv (.const (.slice none 0 0))),Nq 8 0]) (.seq (.seq (.reg [Lq 15 3,Cq 16 42 ([15]),Mq 9 16]) (.seq (.reg [Mq 17 9,Bq 18 .neq 17 (Kq 0)]) (.cond 18 (.seq (.reg [Mq 19 9,Rq 6 (.mv (.const (.slice none 0 0))),Rq 7 (.mv (.const (.slice none 0 0))),Mq 8 19]) (.ret)) (.skip)))) (.seq (.seq (.reg [Mq 20 1,Bq 21 .lss 20 (Kq 1),Mq 22 21,Hq 23 22 false 1,Gq 24 22 false (.bin .gtr 23 (Kq 20)),Rq 25 (.pick 22 (.const (.bool true)) 24),Mq 26 25,Gq 27 26 false (.load false 1 5),Gq 28 26 false (.bin .lss 27 (Kq 1)),Rq 29 (.pick 26 (.const (.bool true)) 28),Mq 30 29,Gq 31 30 false (.load false 1 5),Gq 32 30 false (.bin .gtr 31 (Kq 100)),Rq 33 (.pick 30 (.const (.bool true)) 32)]) (.cond 33 (.seq (.reg [Rq 6 (.mv (.const (.slice none 0 0))),Rq 7 (.mv (.const (.slice none 0 0))),Nq 8 3]) (.ret)) (.skip))) (.seq (.reg [Lq 34 3,Rq 35 (.len false 34),Rq 36 (.mkn 3 1 8 [(.int .i64 0)] 35 35),Mq 10 36]) (.seq (.seq (.reg [Mq 37 10,Rq 38 (.len false 37),Nq 39 0]) (.block 0 (.loop (.seq (.reg [Bq 40 .lss 39 38]) (.seq (.cond 40 (.skip) (.exit 0)) (.seq (.block 1 (.seq (.reg [Mq 41 39,Mq 11 41]) (.reg [Mq 42 10,Mq 43 11,Mq 44 11,Iq 45 1 42 43,Sq 1 45 44]))) (.reg [Bq 46 .add 39 (Kq 1),Mq 39 46]))))))) (.seq (.reg [Mq 47 10,Rq 48 (.mkfn 44 [3]),Cq 49 43 ([47,48])]) (.seq (.reg [Lq 50 3,Cq 51 47 ([50]),Sq 1 3 51]) (.seq (.reg [Rq 12 (.mv (.const (.slice none 0 0)))]) (.seq (.seq (.reg [Mq 52 10,Mq 53 1,Lq 54 3,Rq 55 (.len false 54),Rq 56 (.mm false 53 55),Rq 57 (.slcL 1 52 none (some 56) none),Rq 58 (.len false 57),Nq 59 0]) (.block 2 (.loop (.seq (.reg [Bq 60 .lss 59 58]) (.seq (.cond 60 (.skip) (.exit 2)) (.seq (.block 3 (.seq (.reg [Iq 61 1 57 59,Lq 62 61,Mq 14 62]) (.seq (.reg [Mq 63 12,Lq 64 3,Mq 65 14,Iq 66 6 64 65,Fq 67 0 66,Rq 68 (.load true 5 67),Rq 69 (.mks 24 5 1 zq2 [(0,68)]),Rq 70 (.app 24 5 48 (.agg #[(.string ⟨#[]⟩),(.int .i64 0),(.int .i64 0),(.int .i64 0),(.bool false)]) 63 69),Mq 12 70]) (.reg [Lq 71 3,Mq 72 14,Iq 73 6 71 72,Fq 74 5 73,Lq 75 74,Bq 76 .add 75 (Kq 1),Iq 77 6 71 72,Fq 78 5 77,Sq 1 78 76])))) (.reg [Bq 79 .add 59 (Kq 1),Mq 59 79]))))))) (.seq (.reg [Mq 80 12,Lq 81 3,Rq 82 (.mkfn 49 [5]),Cq 83 48 ([81,82]),Mq 6 80,Mq 7 83,Nq 8 0]) (.ret))))))))))
theorem Aca:Ah Tryz.prog 12 3=some (Ac5,[6,7,8]):=by kernel_rfl
def Aa2:Ag:=
 .seq (.reg [Rq 1 (.box 67 4 0),Rq 2 (.mv (.const (.string ⟨#[]⟩))),Nq 3 0]) (.seq (.seq (.reg [Rq 7 (.load true 4 1),Cq 8 74 ([7]),Mq 4 8]) (.seq (.reg [Mq 9 4,Bq 10 .neq 9 (Kq 0)]) (.cond 10 (.seq (.reg [Mq 11 4,Rq 2 (.mv (.const (.string ⟨#[]⟩))),Mq 3 11]) (.ret)) (.skip)))) (.seq (.reg [Rq 12 (.load true 4 1),Cq 13 75 ([12]),Mq 5 13]) (.seq (.seq (.reg [Mq 14 5,Cq 15 76 ([14]),Mq 6 15]) (.seq (.reg [Mq 16 6,Bq 17 .neq 16 (Kq 0)]) (.cond 17 (.seq (.reg [Mq 18 6,Rq 2 (.mv (.const (.string ⟨#[]⟩))),Mq 3 18]) (.ret)) (.skip)))) (.seq (.reg [Mq 19 5,Mq 2 19,Nq 3 0]) (.ret)))))
theorem Y4:Ah Tryz.prog 27 1=some (Aa2,[2,3]):=by kernel_rfl
def Ag0:Ag:=
 .seq (.reg [Rq 1 (.box 38 7 0),Rq 2 (.mv (.const (.string ⟨#[]⟩))),Nq 3 0]) (.seq (.seq (.reg [Rq 6 (.load true 7 1),Cq 7 52 ([6]),Mq 4 7]) (.seq (.reg [Mq 8 4,Bq 9 .neq 8 (Kq 0)]) (.cond 9 (.seq (.reg [Mq 10 4,Rq 2 (.mv (.const (.string ⟨#[]⟩))),Mq 3 10]) (.ret)) (.skip)))) (.seq (.reg [Rq 11 (.load true 7 1),Cq 12 77 ([11]),Mq 5 12]) (.seq (.seq (.reg [Mq 13 5,Rq 14 (.len true 13),Bq 15 .gtr 14 (Kq 512)]) (.cond 15 (.seq (.reg [Rq 2 (.mv (.const (.string ⟨#[]⟩))),Nq 3 2]) (.ret)) (.skip))) (.seq (.reg [Mq 16 5,Mq 2 16,Nq 3 0]) (.ret)))))
theorem Ue:Ah Tryz.prog 28 1=some (Ag0,[2,3]):=by kernel_rfl
def Afs:Ag:=
 .seq (.reg [Rq 3 (.box 24 5 1),Rq 4 (.mv (.const (.slice none 0 0))),Nq 5 0]) (.seq (.reg [Mq 8 0,Cq 9 42 ([8]),Mq 6 9]) (.seq (.seq (.reg [Mq 10 6,Bq 11 .eql 10 (Kq 0)]) (.cond 11 (.reg [Rq 12 (.load true 5 3),Cq 13 90 ([12]),Mq 6 13]) (.skip))) (.seq (.seq (.reg [Mq 14 6,Bq 15 .neq 14 (Kq 0)]) (.cond 15 (.seq (.reg [Mq 16 6,Rq 4 (.mv (.const (.slice none 0 0))),Mq 5 16]) (.ret)) (.skip))) (.seq (.reg [Mq 17 0,Cq 18 47 ([17]),Mq 0 18]) (.seq (.seq (.reg [Mq 19 0,Rq 20 (.mkfn 92 [3]),Cq 21 91 ([19,20]),Mq 7 21]) (.seq (.reg [Mq 22 7,Bq 23 .geq 22 (Kq 0)]) (.cond 23 (.seq (.seq (.dreg [[Rq 24 (.load true 5 3),Mq 25 0,Mq 26 7,Iq 27 6 25 26,Fq 28 0 27,Rq 29 (.load true 5 28)],[Cq 30 93 ([24,29])],[Bq 31 .leq 30 (Kq 0)]]) (.cond 31 (.seq (.reg [Mq 32 0,Mq 4 32,Nq 5 0]) (.ret)) (.skip))) (.reg [Mq 33 0,Mq 34 7,Mq 35 7,Bq 36 .add 35 (Kq 1),Cq 37 94 ([33,34,36]),Mq 0 37])) (.skip)))) (.seq (.seq (.reg [Mq 38 0,Rq 39 (.len false 38),Bq 40 .eql 39 (Kq 20)]) (.cond 40 (.seq (.reg [Rq 4 (.mv (.const (.slice none 0 0))),Nq 5 2]) (.ret)) (.skip))) (.seq (.reg [Mq 41 0,Rq 42 (.load true 5 3),Rq 43 (.build zq1 [(0,5,42)]),Rq 44 (.mks 91 6 1 zq1 [(0,43)]),Rq 45 (.app 91 6 56 (.agg #[(.string ⟨#[]⟩),(.int .i64 0),(.int .i64 0),(.int .i64 0),(.bool false),(.int .i64 0)]) 41 44),Mq 4 45,Nq 5 0]) (.ret))))))))
theorem Tj:Ah Tryz.prog 37 2=some (Afs,[4,5]):=by kernel_rfl
def Yf:Ag:=
 .seq (.reg [Nq 2 0]) (.seq (.seq (.reg [Mq 7 0,Rq 8 (.len false 7),Nq 9 0]) (.block 0 (.loop (.seq (.reg [Bq 10 .lss 9 8]) (.seq (.cond 10 (.skip) (.exit 0)) (.seq (.block 1 (.seq (.reg [Iq 11 1 7 9,Lq 12 11,Mq 4 12]) (.seq (.seq (.reg [Mq 13 4,Rq 14 (.len false 13),Bq 15 .gtr 14 (Kq 20)]) (.cond 15 (.seq (.reg [Nq 2 2]) (.ret)) (.skip))) (.seq (.seq (.reg [Mq 16 4,Cq 17 95 ([16]),Mq 5 17]) (.seq (.reg [Mq 18 5,Bq 19 .neq 18 (Kq 0)]) (.cond 19 (.seq (.reg [Mq 20 5,Mq 2 20]) (.ret)) (.skip)))) (.seq (.reg [Nq 6 1]) (.block 2 (.loop (.seq (.seq (.reg [Mq 21 6,Mq 22 4,Rq 23 (.len false 22),Bq 24 .lss 21 23]) (.cond 24 (.skip) (.exit 2))) (.seq (.block 3 (.seq (.dreg [[Mq 27 4,Mq 28 6,Iq 29 5 27 28,Fq 30 0 29,Lq 31 30,Mq 32 4,Mq 33 6,Bq 34 .sub 33 (Kq 1),Iq 35 5 32 34,Fq 36 0 35,Lq 37 36],[Bq 38 .leq 31 37]]) (.cond 38 (.seq (.reg [Nq 2 4]) (.ret)) (.skip)))) (.reg [Mq 25 6,Bq 26 .add 25 (Kq 1),Mq 6 26])))))))))) (.reg [Bq 39 .add 9 (Kq 1),Mq 9 39]))))))) (.seq (.reg [Nq 2 0]) (.ret)))
theorem Cw:Ah Tryz.prog 38 1=some (Yf,[2]):=by kernel_rfl
def Ac9:Ag:=
 .seq (.reg [Rq 1 (.box 24 5 0),Nq 2 0]) (.seq (.block 0 (.seq (.reg [Fq 4 0 1,Lq 5 4,Cq 6 88 ([5]),Rq 7 (.not 6),Mq 3 7]) (.cond 3 (.seq (.reg [Nq 2 1]) (.ret)) (.seq (.reg [Fq 9 1 1,Lq 10 9,Cq 11 96 ([10,(Kq 1),(Kq 4)]),Rq 12 (.not 11),Mq 8 12]) (.cond 8 (.seq (.reg [Nq 2 7]) (.ret)) (.seq (.reg [Fq 14 2 1,Lq 15 14,Cq 16 96 ([15,(Kq 1),(Kq 1000000)]),Rq 17 (.not 16),Mq 18 17,Gq 19 18 false (.fldA 3 1),Gq 20 18 false (.load false 1 19),Gq 21 18 false (.call (.func 96) [20,(Kq 0),(Kq 4294967295)]),Gq 22 18 false (.not 21),Rq 23 (.pick 18 (.const (.bool true)) 22),Mq 13 23]) (.cond 13 (.seq (.reg [Nq 2 3]) (.ret)) (.skip)))))))) (.seq (.reg [Nq 2 0]) (.ret)))
theorem Iy:Ah Tryz.prog 39 1=some (Ac9,[2]):=by kernel_rfl
def Acw:Ag:=
 .seq (.reg [Rq 3 (.box 24 5 1),Rq 4 (.mv (.const (.slice none 0 0))),Rq 5 (.mv (.const (.bool false)))]) (.seq (.reg [Mq 9 0,Fq 10 0 3,Lq 11 10,Cq 12 89 ([9,11]),Mq 8 12,Eq1 13 8 0,Eq1 14 8 1,Mq 6 13,Mq 7 14]) (.seq (.block 0 (.seq (.reg [Mq 16 7,Rq 17 (.not 16),Mq 15 17]) (.cond 15 (.seq (.reg [Mq 18 0,Mq 19 6,Rq 20 (.load true 5 3),Rq 21 (.mks 24 5 1 zq2 [(0,20)]),Cq 22 97 ([18,19,21]),Mq 4 22,Rq 5 (.mv (.const (.bool true)))]) (.ret)) (.seq (.dreg [[Rq 24 (.load true 5 3),Mq 25 0,Mq 26 6,Iq 27 5 25 26,Rq 28 (.load true 5 27)],[Cq 29 93 ([24,28])],[Bq 30 .gtr 29 (Kq 0)],[Mq 23 30]]) (.cond 23 (.seq (.reg [Mq 31 0,Mq 32 6,Rq 33 (.load true 5 3),Iq 34 5 31 32,Sq 5 34 33]) (.seq (.reg [Mq 35 0,Mq 4 35,Rq 5 (.mv (.const (.bool true)))]) (.ret))) (.skip)))))) (.seq (.reg [Mq 36 0,Mq 4 36,Rq 5 (.mv (.const (.bool false)))]) (.ret))))
theorem Ro:Ah Tryz.prog 40 2=some (Acw,[4,5]):=by kernel_rfl
def Z3:Ag:=
 .seq (.reg [Nq 2 0]) (.seq (.seq (.reg [Mq 7 0,Rq 8 (.len false 7),Bq 9 .gtr 8 (Kq 20)]) (.cond 9 (.seq (.reg [Nq 2 2]) (.ret)) (.skip))) (.seq (.reg [Rq 10 (.mkm),Mq 3 10]) (.seq (.seq (.reg [Mq 11 0,Rq 12 (.len false 11),Nq 13 0]) (.block 0 (.loop (.seq (.reg [Bq 14 .lss 13 12]) (.seq (.cond 14 (.skip) (.exit 0)) (.seq (.block 1 (.seq (.reg [Iq 15 6 11 13,Rq 16 (.load true 6 15),Rq 5 (.zbox 91 zq1),Sq 6 5 16]) (.seq (.seq (.reg [Fq 17 0 5,Rq 18 (.load true 5 17),Cq 19 90 ([18]),Mq 6 19]) (.seq (.reg [Mq 20 6,Bq 21 .neq 20 (Kq 0)]) (.cond 21 (.seq (.reg [Mq 22 6,Mq 2 22]) (.ret)) (.skip)))) (.reg [Mq 23 3,Fq 24 0 5,Fq 25 0 24,Lq 26 25,⟨none,none,.mupd .string 23 26 (.const (.bool true))⟩])))) (.reg [Bq 27 .add 13 (Kq 1),Mq 13 27]))))))) (.seq (.block 2 (.seq (.reg [Mq 29 0,Cq 30 98 ([29,(.func 99)]),Mq 28 30]) (.cond 28 (.seq (.reg [Nq 2 3]) (.ret)) (.seq (.reg [Mq 32 3,Rq 33 (.mlen 32),Mq 34 0,Rq 35 (.len false 34),Bq 36 .lss 33 35,Mq 31 36]) (.cond 31 (.seq (.reg [Nq 2 6]) (.ret)) (.skip)))))) (.seq (.reg [Nq 2 0]) (.ret))))))
theorem Hy:Ah Tryz.prog 42 1=some (Z3,[2]):=by kernel_rfl
def Kb:Ag:=
 .seq (.reg [Mq 5 0,Rq 6 (.len false 5),Mq 4 6]) (.reg [Mq 7 0,Mq 8 4,Mq 9 4,Rq 10 (.conv .u64 9),Cq 11 101 ([10]),Mq 12 1,Cq 13 100 ([7,(Kq 0),8,11,12])])
theorem K5:Ah Tryz.prog 43 2=some (Kb,[]):=by kernel_rfl
def Acy:Ag:=
 .seq (.reg [Nq 2 0]) (.seq (.reg [Nq 3 0]) (.seq (.seq (.reg [Mq 6 0,Rq 7 (.len false 6),Nq 8 0]) (.block 0 (.loop (.seq (.reg [Bq 9 .lss 8 7]) (.seq (.cond 9 (.skip) (.exit 0)) (.seq (.block 1 (.seq (.reg [Iq 10 1 6 8,Lq 11 10,Mq 5 11]) (.seq (.reg [Mq 12 5,Mq 13 3,Bq 14 .neq 12 13]) (.cond 14 (.seq (.reg [Mq 15 5,Mq 2 15]) (.ret)) (.skip))))) (.reg [Bq 16 .add 8 (Kq 1),Mq 8 16]))))))) (.seq (.reg [Mq 17 3,Mq 2 17]) (.ret))))
theorem Ac3:Ah Tryz.prog 45 1=some (Acy,[2]):=by kernel_rfl
def Gy:Ag:=
 .seq (.reg [Rq 2 (.mv (.const (.slice none 0 0)))]) (.seq (.seq (.reg [Mq 3 0,Rq 4 (.isnil false 3)]) (.cond 4 (.seq (.reg [Rq 2 (.mv (.const (.slice none 0 0)))]) (.ret)) (.skip))) (.seq (.reg [Rq 5 (.mks 91 6 0 zq1 []),Mq 6 0,Rq 7 (.app 91 6 56 (.agg #[(.string ⟨#[]⟩),(.int .i64 0),(.int .i64 0),(.int .i64 0),(.bool false),(.int .i64 0)]) 5 6),Mq 2 7]) (.ret)))
theorem Gp:Ah Tryz.prog 47 1=some (Gy,[2]):=by kernel_rfl
def Fc:Ag:=
 .seq (.reg [Rq 4 (.mv (.const (.slice none 0 0)))]) (.seq (.reg [Mq 8 0,Mq 9 1,Cq 10 91 ([8,9]),Mq 5 10]) (.seq (.seq (.reg [Mq 11 5,Rq 12 (.bin .eql 11 (.const (.int .i64 (-1))))]) (.cond 12 (.seq (.reg [Mq 13 0,Mq 4 13]) (.ret)) (.skip))) (.seq (.seq (.reg [Mq 14 5,Bq 15 .add 14 (Kq 1),Mq 6 15]) (.block 0 (.loop (.seq (.seq (.reg [Mq 16 6,Mq 17 0,Rq 18 (.len false 17),Bq 19 .lss 16 18]) (.cond 19 (.skip) (.exit 0))) (.seq (.block 1 (.seq (.reg [Mq 22 0,Mq 23 6,Iq 24 6 22 23,Rq 25 (.load true 6 24),Rq 7 (.zbox 91 zq1),Sq 6 7 25]) (.seq (.reg [Mq 26 1,Rq 27 (.load true 6 7),Rq 28 (.call 26 [27]),Rq 29 (.not 28)]) (.cond 29 (.seq (.reg [Mq 30 0,Mq 31 5,Rq 32 (.load true 6 7),Iq 33 6 30 31,Sq 6 33 32]) (.reg [Mq 34 5,Bq 35 .add 34 (Kq 1),Mq 5 35])) (.skip))))) (.reg [Mq 20 6,Bq 21 .add 20 (Kq 1),Mq 6 21])))))) (.seq (.reg [Mq 36 0,Mq 37 5,Rq 38 (.slcL 6 36 (some 37) none none),⟨none,none,.clr 6 zq1 38⟩]) (.seq (.reg [Mq 39 0,Mq 40 5,Rq 41 (.slcL 6 39 none (some 40) none),Mq 4 41]) (.ret))))))
theorem Fe:Ah Tryz.prog 48 2=some (Fc,[4]):=by kernel_rfl
def Xw:Ag:=
 .seq (.reg [Rq 2 (.box 91 6 0),Rq 3 (.mv (.const (.bool false)))]) (.seq (.reg [Fq 4 5 2,Lq 5 4,Lq 6 1,Bq 7 .geq 5 6,Mq 3 7]) (.ret))
theorem Ya:Ah Tryz.prog 49 2=some (Xw,[3]):=by kernel_rfl
def Oz:Ag:=
 .seq (.reg [Rq 2 (.zbox 38 zq0)]) (.seq (.reg [Mq 7 0,Cq 8 103 ([7]),Rq 9 (.build zq0 [(0,1,8)]),Rq 3 (.zbox 38 zq0),Sq 7 3 9]) (.seq (.reg [Mq 10 0,Cq 11 104 ([10]),Mq 12 0,Cq 13 104 ([12]),Mq 4 11,Mq 5 13]) (.seq (.reg [Mq 14 0,Mq 15 4,Bq 16 .andNot 15 (Kq 130),Bq 17 .eql 16 (Kq 0),Mq 18 17,Hq 19 18 true 5,Gq 20 18 true (.bin .lss 19 (Kq 16)),Rq 21 (.pick 18 20 (.const (.bool false))),Cq 22 105 ([14,21])]) (.seq (.reg [Mq 23 4,Bq 24 .and 23 (Kq 128),Bq 25 .gtr 24 (Kq 0),Mq 26 4,Bq 27 .and 26 (Kq 2),Bq 28 .gtr 27 (Kq 0),Mq 29 5,Fq 30 1 3,Sq 1 30 25,Fq 31 2 3,Sq 1 31 28,Fq 32 3 3,Sq 1 32 29]) (.seq (.reg [Mq 33 0,Mq 34 0,Cq 35 103 ([34]),Bq 36 .eql 35 (Kq 1),Cq 37 105 ([33,36])]) (.seq (.reg [Mq 38 0,Cq 39 103 ([38]),Mq 6 39]) (.seq (.reg [Mq 40 0,Mq 41 6,Bq 42 .leq 41 (Kq 20),Mq 43 42,Hq 44 43 true 0,Gq 45 43 true (.call (.func 103) [44]),Gq 46 43 true (.bin .eql 45 (Kq 0)),Rq 47 (.pick 43 46 (.const (.bool false))),Mq 48 47,Hq 49 48 true 0,Gq 50 48 true (.call (.func 103) [49]),Gq 51 48 true (.bin .eql 50 (Kq 0)),Rq 52 (.pick 48 51 (.const (.bool false))),Cq 53 105 ([40,52])]) (.seq (.reg [Mq 54 0,Cq 55 106 ([54]),Mq 56 0,Cq 57 103 ([56]),Rq 58 (.build [(.string ⟨#[]⟩),(.int .i64 0)] [(0,1,55),(1,1,57)]),Fq 59 4 3,Sq 2 59 58]) (.seq (.reg [Mq 60 0,Mq 61 0,Cq 62 103 ([61]),Bq 63 .eql 62 (Kq 1),Cq 64 105 ([60,63])]) (.seq (.seq (.reg [Mq 65 6,Nq 66 0]) (.block 0 (.loop (.seq (.reg [Bq 67 .lss 66 65]) (.seq (.cond 67 (.skip) (.exit 0)) (.seq (.block 1 (.dreg [[],[⟨none,none,.mkm⟩],[Fq 68 6 3,Lq 69 68,Mq 70 0,Cq 71 107 ([70]),Rq 72 (.mks 51 7 1 zq4 [(0,71)])],[Rq 73 (.app 51 7 80 (.agg #[(.string ⟨#[]⟩),(.int .i64 0),(.int .i64 0),(.int .i64 0),(.string ⟨#[]⟩),(.int .i64 0),(.string ⟨#[]⟩)]) 69 72)],[Fq 74 6 3],[Sq 1 74 73]])) (.reg [Bq 75 .add 66 (Kq 1),Mq 66 75]))))))) (.seq (.dreg [[Mq 76 0,Mq 77 0,Fq 78 0 77,Fq 79 1 78,Lq 80 79,Mq 81 0,Fq 82 0 81,Fq 83 0 82,Lq 84 83,Rq 85 (.len true 84),Bq 86 .eql 80 85],[Cq 87 105 ([76,86])]]) (.seq (.reg [Rq 88 (.load true 7 3),Sq 7 2 88]) (.ret)))))))))))))
theorem Ii:Ce Tryz.prog 51 1=some (Oz,[(2,some (true,7))]):=by kernel_rfl
def Agj:Ag:=
 .seq (.reg [Rq 1 (.box 38 7 0),Nq 2 0]) (.seq (.block 0 (.seq (.reg [Fq 8 0 1,Lq 9 8,Cq 10 108 ([9,(Kq 0),(Kq 65535)]),Rq 11 (.not 10),Mq 12 11,Gq 13 12 false (.fldA 3 1),Gq 14 12 false (.load false 1 13),Gq 15 12 false (.call (.func 108) [14,(Kq 0),(Kq 15)]),Gq 16 12 false (.not 15),Rq 17 (.pick 12 (.const (.bool true)) 16),Mq 7 17]) (.cond 7 (.seq (.reg [Nq 2 3]) (.ret)) (.seq (.reg [Fq 19 6 1,Lq 20 19,Rq 21 (.len false 20),Bq 22 .gtr 21 (Kq 20),Mq 18 22]) (.cond 18 (.seq (.reg [Nq 2 2]) (.ret)) (.skip)))))) (.seq (.seq (.reg [Fq 23 4 1,Fq 24 0 23,Lq 25 24,Cq 26 76 ([25]),Mq 3 26]) (.seq (.reg [Mq 27 3,Bq 28 .neq 27 (Kq 0)]) (.cond 28 (.seq (.reg [Mq 29 3,Mq 2 29]) (.ret)) (.skip)))) (.seq (.seq (.reg [Fq 30 4 1,Fq 31 1 30,Lq 32 31,Cq 33 109 ([32]),Rq 34 (.not 33)]) (.cond 34 (.seq (.reg [Nq 2 7]) (.ret)) (.skip))) (.seq (.seq (.reg [Fq 35 6 1,Lq 36 35,Rq 37 (.len false 36),Nq 38 0]) (.block 1 (.loop (.seq (.reg [Bq 39 .lss 38 37]) (.seq (.cond 39 (.skip) (.exit 1)) (.seq (.block 2 (.seq (.reg [Iq 40 7 36 38,Rq 41 (.load true 7 40),Rq 5 (.zbox 51 zq4),Sq 7 5 41]) (.seq (.reg [Rq 42 (.load true 7 5),Cq 43 110 ([42]),Mq 6 43]) (.seq (.reg [Mq 44 6,Bq 45 .neq 44 (Kq 0)]) (.cond 45 (.seq (.reg [Mq 46 6,Mq 2 46]) (.ret)) (.skip)))))) (.reg [Bq 47 .add 38 (Kq 1),Mq 38 47]))))))) (.seq (.reg [Nq 2 0]) (.ret))))))
theorem Afr:Ah Tryz.prog 52 1=some (Agj,[2]):=by kernel_rfl
def Xx:Ag:=
 .seq (.reg [Rq 10 (.box 56 5 4),Rq 12 (.mv (.const (.string ⟨#[]⟩))),Rq 13 (.mv (.const (.bool false))),Nq 14 0]) (.seq (.seq (.reg [Mq 20 1,Mq 21 2,Mq 22 3,Rq 23 (.load true 5 10),Mq 24 5,Cq 25 121 ([20,21,22,23,24]),Mq 15 25]) (.seq (.reg [Mq 26 15,Bq 27 .neq 26 (Kq 0)]) (.cond 27 (.seq (.reg [Mq 28 15,Rq 12 (.mv (.const (.string ⟨#[]⟩))),Rq 13 (.mv (.const (.bool false))),Mq 14 28]) (.ret)) (.skip)))) (.seq (.seq (.reg [Mq 29 0,Rq 30 (.len true 29),Bq 31 .lss 30 (Kq 12),Mq 32 31,Hq 33 32 false 0,Gq 34 32 false (.idxS 33 (Kq 2)),Gq 35 32 false (.bin .geq 34 (.const (.int .u8 128))),Rq 36 (.pick 32 (.const (.bool true)) 35)]) (.cond 36 (.seq (.reg [Rq 12 (.mv (.const (.string ⟨#[]⟩))),Rq 13 (.mv (.const (.bool false))),Nq 14 0]) (.ret)) (.skip))) (.seq (.reg [Mq 38 0,Cq 39 13 ([38]),Mq 37 39,Eq1 40 37 0,Eq1 41 37 1,Rq 16 (.zbox 38 zq0),Sq 7 16 40,Mq 17 41]) (.seq (.dreg [[Mq 42 0,Rq 43 (.idxS 42 (Kq 0)),Rq 44 (.conv .i64 43),Rq 45 (.bin .shl 44 (.const (.int .u64 8))),Mq 46 0,Rq 47 (.idxS 46 (Kq 1)),Rq 48 (.conv .i64 47),Bq 49 .or 45 48,Rq 50 (.build [(.string ⟨#[]⟩),(.int .i64 0)] [(1,1,(Kq 1))]),Rq 51 (.build zq0 [(0,1,49),(1,1,(.const (.bool true))),(3,1,(Kq 1)),(4,2,50)]),Rq 18 (.zbox 38 zq0)],[Sq 7 18 51]]) (.seq (.seq (.reg [Mq 52 17,Bq 53 .eql 52 (Kq 0),Mq 54 53,Gq 55 54 true (.fldA 6 16),Gq 56 54 true (.load false 1 55),Gq 57 54 true (.len false 56),Gq 58 54 true (.bin .eql 57 (Kq 0)),Rq 59 (.pick 54 58 (.const (.bool false)))]) (.cond 59 (.reg [Rq 60 (.load true 7 16),Mq 61 1,Mq 62 2,Mq 63 3,Rq 64 (.load true 5 10),Mq 65 5,Cq 66 122 ([60,61,62,63,64,65]),Sq 7 18 66]) (.skip))) (.seq (.reg [Rq 68 (.load true 7 18),Cq 69 123 ([68,(Kq 512)]),Mq 67 69,Eq1 70 67 0,Eq1 71 67 1,Mq 19 70,Mq 17 71]) (.seq (.reg [Mq 72 19,Mq 73 17,Bq 74 .eql 73 (Kq 0),Mq 75 17,Mq 12 72,Mq 13 74,Mq 14 75]) (.ret))))))))
theorem Yc:Ah Tryz.prog 62 6=some (Xx,[12,13,14]):=by kernel_rfl
def Zn:Ag:=
 .seq (.reg [Rq 2 (.zbox 67 zq7),Nq 3 0]) (.seq (.seq (.reg [Mq 11 0,Cq 12 76 ([11]),Mq 4 12]) (.seq (.reg [Mq 13 4,Bq 14 .neq 13 (Kq 0)]) (.cond 14 (.seq (.reg [Rq 15 (.build zq7 []),Mq 16 4,Sq 4 2 15,Mq 3 16]) (.ret)) (.skip)))) (.seq (.reg [Mq 17 0,Cq 18 137 ([17,(.const (.string ⟨#[46]⟩))]),Mq 5 18]) (.seq (.seq (.reg [Mq 19 5,Mq 20 5,Rq 21 (.len false 20),Bq 22 .sub 21 (Kq 1),Iq 23 1 19 22,Lq 24 23,Rq 25 (.bin .neq 24 (.const (.string ⟨#[109,101,115,104]⟩)))]) (.cond 25 (.seq (.reg [Rq 26 (.build zq7 []),Sq 4 2 26,Nq 3 8]) (.ret)) (.skip))) (.seq (.reg [Mq 27 5,Mq 28 5,Rq 29 (.len false 28),Bq 30 .sub 29 (Kq 1),Rq 31 (.slcL 1 27 none (some 30) none),Mq 5 31]) (.seq (.reg [Rq 6 (.zbox 67 zq7)]) (.seq (.reg [Rq 7 (.mv (.const (.int .i64 (-1))))]) (.seq (.seq (.reg [Mq 32 5,Rq 33 (.len false 32),Bq 34 .sub 33 (Kq 2),Rq 35 (.mm true (Kq 0) 34),Mq 8 35]) (.block 0 (.loop (.seq (.seq (.reg [Mq 36 8,Mq 37 5,Rq 38 (.len false 37),Bq 39 .lss 36 38]) (.cond 39 (.skip) (.exit 0))) (.seq (.block 1 (.seq (.reg [Mq 42 5,Mq 43 8,Iq 44 1 42 43,Lq 45 44,Rq 46 (.bin .eql 45 (.const (.string ⟨#[115,101,114,118,105,99,101]⟩))),Mq 47 46,Hq 48 47 false 5,Hq 49 47 false 8,Gq 50 47 false (.idxA 1 48 49),Gq 51 47 false (.load false 1 50),Gq 52 47 false (.bin .eql 51 (.const (.string ⟨#[110,111,100,101]⟩))),Rq 53 (.pick 47 (.const (.bool true)) 52)]) (.cond 53 (.reg [Mq 54 8,Mq 7 54]) (.skip)))) (.reg [Mq 40 8,Bq 41 .add 40 (Kq 1),Mq 8 41])))))) (.seq (.seq (.reg [Mq 55 7,Bq 56 .lss 55 (Kq 1),Mq 57 56,Hq 58 57 false 7,Gq 59 57 false (.bin .gtr 58 (Kq 2)),Rq 60 (.pick 57 (.const (.bool true)) 59)]) (.cond 60 (.seq (.reg [Rq 61 (.build zq7 []),Sq 4 2 61,Nq 3 1]) (.ret)) (.skip))) (.seq (.seq (.reg [Mq 62 7,Mq 63 5,Rq 64 (.len false 63),Bq 65 .sub 64 (Kq 1),Bq 66 .lss 62 65]) (.cond 66 (.reg [Mq 67 5,Mq 68 7,Bq 69 .add 68 (Kq 1),Iq 70 1 67 69,Lq 71 70,Fq 72 3 6,Sq 1 72 71]) (.skip))) (.seq (.block 2 (.seq (.reg [Mq 74 5,Mq 75 7,Iq 76 1 74 75,Lq 77 76,Rq 78 (.bin .eql 77 (.const (.string ⟨#[110,111,100,101]⟩))),Mq 79 78,Hq 80 79 true 7,Gq 81 79 true (.bin .eql 80 (Kq 1)),Rq 82 (.pick 79 81 (.const (.bool false))),Mq 73 82]) (.cond 73 (.reg [Mq 83 5,Rq 84 (.idxA 1 83 (Kq 0)),Lq 85 84,Fq 86 2 6,Sq 1 86 85]) (.seq (.reg [Mq 88 5,Mq 89 7,Iq 90 1 88 89,Lq 91 90,Rq 92 (.bin .eql 91 (.const (.string ⟨#[115,101,114,118,105,99,101]⟩))),Mq 87 92]) (.cond 87 (.seq (.reg [Mq 93 5,Mq 94 7,Bq 95 .sub 94 (Kq 1),Iq 96 1 93 95,Lq 97 96,Fq 98 0 6,Sq 1 98 97]) (.seq (.reg [Mq 99 7,Bq 100 .eql 99 (Kq 2)]) (.cond 100 (.reg [Mq 101 5,Rq 102 (.idxA 1 101 (Kq 0)),Lq 103 102,Fq 104 1 6,Sq 1 104 103]) (.skip)))) (.skip)))))) (.seq (.seq (.reg [Rq 106 (.load true 4 6),Cq 107 27 ([106]),Mq 105 107,Eq1 108 105 0,Eq1 109 105 1,Mq 9 108,Mq 10 109]) (.seq (.reg [Mq 110 10,Bq 111 .neq 110 (Kq 0),Mq 112 111,Hq 113 112 false 9,Hq 114 112 false 0,Gq 115 112 false (.bin .neq 113 114),Rq 116 (.pick 112 (.const (.bool true)) 115)]) (.cond 116 (.seq (.reg [Rq 117 (.build zq7 []),Sq 4 2 117,Nq 3 1]) (.ret)) (.skip)))) (.seq (.reg [Rq 118 (.load true 4 6),Sq 4 2 118,Nq 3 0]) (.ret)))))))))))))
theorem Abn:Ce Tryz.prog 73 1=some (Zn,[(2,some (true,4)),(3,none)]):=by kernel_rfl
def Zq:Ag:=
 .seq (.reg [Rq 1 (.box 67 4 0),Nq 2 0]) (.seq (.seq (.reg [Fq 5 0 1,Lq 6 5,Rq 7 (.bin .eql 6 (.const (.string ⟨#[]⟩))),Fq 8 2 1,Lq 9 8,Rq 10 (.bin .eql 9 (.const (.string ⟨#[]⟩))),Rq 11 (.eqb false 7 10),Mq 12 11,Gq 13 12 false (.fldA 0 1),Gq 14 12 false (.load false 1 13),Gq 15 12 false (.bin .eql 14 (.const (.string ⟨#[]⟩))),Hq 16 12 false 15,Gq 17 16 true (.fldA 1 1),Gq 18 16 true (.load false 1 17),Gq 19 16 true (.bin .neq 18 (.const (.string ⟨#[]⟩))),Gq 20 12 false (.pick 16 19 (.const (.bool false))),Rq 21 (.pick 12 (.const (.bool true)) 20)]) (.cond 21 (.seq (.reg [Nq 2 1]) (.ret)) (.skip))) (.seq (.reg [Fq 22 0 1,Lq 23 22,Fq 24 1 1,Lq 25 24,Fq 26 2 1,Lq 27 26,Fq 28 3 1,Lq 29 28,Rq 30 (.mks 9 1 4 [(.string ⟨#[]⟩)] [(0,23),(1,25),(2,27),(3,29)]),Mq 3 30]) (.seq (.seq (.reg [Mq 31 3,Cq 32 138 ([31,(.func 139)])]) (.cond 32 (.seq (.reg [Nq 2 1]) (.ret)) (.skip))) (.seq (.reg [Rq 4 (.mv (.func 140))]) (.seq (.seq (.reg [Mq 33 4,Fq 34 3 1,Lq 35 34,Rq 36 (.mks 9 1 3 [(.string ⟨#[]⟩)] [(0,(.const (.string ⟨#[115,101,114,118,105,99,101]⟩))),(1,(.const (.string ⟨#[110,111,100,101]⟩))),(2,(.const (.string ⟨#[109,101,115,104]⟩)))]),Rq 37 (.call 33 [35,36]),Mq 38 37,Hq 39 38 false 4,Gq 40 38 false (.fldA 0 1),Gq 41 38 false (.load false 1 40),Gq 42 38 false (.mks 9 1 3 [(.string ⟨#[]⟩)] [(0,(.const (.string ⟨#[115,101,114,118,105,99,101]⟩))),(1,(.const (.string ⟨#[110,111,100,101]⟩))),(2,(.const (.string ⟨#[109,101,115,104]⟩)))]),Gq 43 38 false (.call 39 [41,42]),Rq 44 (.pick 38 (.const (.bool true)) 43),Mq 45 44,Hq 46 45 false 4,Gq 47 45 false (.fldA 1 1),Gq 48 45 false (.load false 1 47),Gq 49 45 false (.mks 9 1 3 [(.string ⟨#[]⟩)] [(0,(.const (.string ⟨#[115,101,114,118,105,99,101]⟩))),(1,(.const (.string ⟨#[110,111,100,101]⟩))),(2,(.const (.string ⟨#[109,101,115,104]⟩)))]),Gq 50 45 false (.call 46 [48,49]),Rq 51 (.pick 45 (.const (.bool true)) 50),Mq 52 51,Hq 53 52 false 4,Gq 54 52 false (.fldA 2 1),Gq 55 52 false (.load false 1 54),Gq 56 52 false (.mks 9 1 2 [(.string ⟨#[]⟩)] [(0,(.const (.string ⟨#[115,101,114,118,105,99,101]⟩))),(1,(.const (.string ⟨#[110,111,100,101]⟩)))]),Gq 57 52 false (.call 53 [55,56]),Rq 58 (.pick 52 (.const (.bool true)) 57)]) (.cond 58 (.seq (.reg [Nq 2 7]) (.ret)) (.skip))) (.seq (.reg [Nq 2 0]) (.ret)))))))
theorem Aaj:Ah Tryz.prog 74 1=some (Zq,[2]):=by kernel_rfl
def Wu:Ag:=
 .seq (.reg [Rq 1 (.box 67 4 0),Rq 2 (.mv (.const (.string ⟨#[]⟩)))]) (.seq (.reg [Rq 3 (.mv (.const (.slice none 0 0)))]) (.seq (.seq (.reg [Fq 4 2 1,Lq 5 4,Rq 6 (.bin .neq 5 (.const (.string ⟨#[]⟩)))]) (.cond 6 (.reg [Fq 7 2 1,Lq 8 7,Rq 9 (.mks 9 1 2 [(.string ⟨#[]⟩)] [(0,8),(1,(.const (.string ⟨#[110,111,100,101]⟩)))]),Mq 3 9]) (.reg [Fq 10 1 1,Lq 11 10,Fq 12 0 1,Lq 13 12,Rq 14 (.mks 9 1 3 [(.string ⟨#[]⟩)] [(0,11),(1,13),(2,(.const (.string ⟨#[115,101,114,118,105,99,101]⟩)))]),Mq 3 14]))) (.seq (.reg [Mq 15 3,Fq 16 3 1,Lq 17 16,Rq 18 (.mks 9 1 2 [(.string ⟨#[]⟩)] [(0,17),(1,(.const (.string ⟨#[109,101,115,104]⟩)))]),Rq 19 (.app 9 1 16 (.string ⟨#[]⟩) 15 18),Mq 3 19]) (.seq (.reg [Mq 20 3,Cq 21 143 ([20,(.func 144)]),Cq 22 142 ([21,(.const (.string ⟨#[46]⟩))]),Mq 2 22]) (.ret)))))
theorem Vs:Ah Tryz.prog 75 1=some (Wu,[2]):=by kernel_rfl
def Ael:Ag:=
 .seq (.reg [Nq 2 0]) (.seq (.reg [Mq 4 0,Cq 5 145 ([4]),Mq 3 5]) (.seq (.block 0 (.seq (.reg [Mq 7 3,Cq 8 138 ([7,(.func 146)]),Mq 6 8]) (.cond 6 (.seq (.reg [Nq 2 1]) (.ret)) (.seq (.reg [Mq 10 3,Rq 11 (.len false 10),Bq 12 .gtr 11 (Kq 8),Mq 13 12,Hq 14 13 false 0,Gq 15 13 false (.len true 14),Gq 16 13 false (.bin .gtr 15 (Kq 120)),Rq 17 (.pick 13 (.const (.bool true)) 16),Mq 9 17]) (.cond 9 (.seq (.reg [Nq 2 2]) (.ret)) (.skip)))))) (.seq (.reg [Nq 2 0]) (.ret))))
theorem Aei:Ah Tryz.prog 76 1=some (Ael,[2]):=by kernel_rfl
def Age:Ag:=
 .seq (.reg [Rq 1 (.box 38 7 0),Rq 2 (.mv (.const (.string ⟨#[]⟩)))]) (.seq (.reg [Rq 7 (.build [(.pointer none),(.slice none 0 0)] []),Rq 8 (.box 203 2 7),Mq 3 8]) (.seq (.reg [Fq 9 3 1,Lq 10 9,Mq 4 10]) (.seq (.seq (.reg [Fq 11 1 1,Lq 12 11]) (.cond 12 (.reg [Mq 13 4,Bq 14 .or 13 (Kq 32768),Mq 4 14]) (.skip))) (.seq (.seq (.reg [Fq 15 2 1,Lq 16 15]) (.cond 16 (.reg [Mq 17 4,Bq 18 .or 17 (Kq 512),Mq 4 18]) (.skip))) (.seq (.reg [Mq 19 3,Fq 20 0 1,Lq 21 20,Mq 22 4,Fq 23 6 1,Lq 24 23,Rq 25 (.len false 24),Rq 26 (.mks 3 1 6 [(.int .i64 0)] [(0,21),(1,22),(2,(Kq 1)),(3,25),(4,(Kq 0)),(5,(Kq 0))]),Cq 27 147 ([19,26])]) (.seq (.reg [Mq 28 3,Fq 29 4 1,Fq 30 0 29,Lq 31 30,Cq 32 148 ([28,31])]) (.seq (.reg [Mq 33 3,Fq 34 4 1,Fq 35 1 34,Lq 36 35,Rq 37 (.mks 3 1 2 [(.int .i64 0)] [(0,36),(1,(Kq 1))]),Cq 38 147 ([33,37])]) (.seq (.seq (.reg [Fq 39 6 1,Lq 40 39,Rq 41 (.len false 40),Nq 42 0]) (.block 0 (.loop (.seq (.reg [Bq 43 .lss 42 41]) (.seq (.cond 43 (.skip) (.exit 0)) (.seq (.block 1 (.seq (.reg [Iq 44 7 40 42,Rq 45 (.load true 7 44),Rq 6 (.zbox 51 zq4),Sq 7 6 45]) (.reg [Mq 46 3,Rq 47 (.load true 7 6),Cq 48 149 ([46,47])]))) (.reg [Bq 49 .add 42 (Kq 1),Mq 42 49]))))))) (.seq (.reg [Mq 50 3,Fq 51 0 50,Fq 52 0 51,Cq 53 150 ([52]),Mq 2 53]) (.ret))))))))))
theorem J0:Ah Tryz.prog 77 1=some (Age,[2]):=by kernel_rfl
def Ur:Ag:=
 .seq (.reg [Rq 7 (.box 67 4 0),Rq 12 (.box 56 5 5),Rq 14 (.mv (.const (.slice none 0 0))),Nq 15 0,Nq 16 0]) (.seq (.reg [Rq 19 (.load true 4 7),Cq 20 74 ([19]),Mq 17 20]) (.seq (.seq (.reg [Mq 21 17,Bq 22 .eql 21 (Kq 0),Mq 23 22,Hq 24 23 true 1,Gq 25 23 true (.call (.func 109) [24]),Gq 26 23 true (.not 25),Rq 27 (.pick 23 26 (.const (.bool false)))]) (.cond 27 (.reg [Nq 17 7]) (.skip))) (.seq (.seq (.reg [Mq 28 17,Bq 29 .eql 28 (Kq 0)]) (.cond 29 (.reg [Mq 30 2,Mq 31 3,Mq 32 4,Rq 33 (.load true 5 12),Mq 34 6,Cq 35 121 ([30,31,32,33,34]),Mq 17 35]) (.skip))) (.seq (.seq (.reg [Mq 36 17,Bq 37 .neq 36 (Kq 0)]) (.cond 37 (.seq (.reg [Mq 38 17,Rq 14 (.mv (.const (.slice none 0 0))),Nq 15 0,Mq 16 38]) (.ret)) (.skip))) (.seq (.reg [Rq 39 (.load true 4 7),Mq 40 1,Mq 41 2,Mq 42 3,Mq 43 4,Rq 44 (.load true 5 12),Mq 45 6,Rq 46 (.build [(.string ⟨#[]⟩),(.string ⟨#[]⟩),(.string ⟨#[]⟩),(.string ⟨#[]⟩),(.int .i64 0),(.string ⟨#[]⟩),(.slice none 0 0),(.slice none 0 0),(.int .i64 0),(.int .i64 0),(.int .i64 0),(.int .i64 0),(.int .i64 0),(.slice none 0 0),(.string ⟨#[]⟩)] [(0,4,39),(4,1,40),(5,1,41),(6,1,42),(7,1,43),(8,5,44),(13,1,45),(14,1,(.const (.string ⟨#[]⟩)))]),Rq 47 (.box 209 15 46),Mq 18 47]) (.seq (.seq (.reg [Mq 49 18,Rq 50 (.load true 4 7),Cq 51 27 ([50]),Mq 48 51,Eq1 52 48 0,Eq1 53 48 1,Fq 54 0 49,Fq 55 14 54,Sq 1 55 52,Mq 17 53]) (.seq (.reg [Mq 56 17,Bq 57 .neq 56 (Kq 0)]) (.cond 57 (.seq (.reg [Mq 58 17,Rq 14 (.mv (.const (.slice none 0 0))),Nq 15 0,Mq 16 58]) (.ret)) (.skip)))) (.seq (.block 0 (.seq (.reg [Fq 60 3 7,Lq 61 60,Rq 62 (.bin .neq 61 (.const (.string ⟨#[]⟩))),Mq 63 62,Gq 64 63 true (.fldA 3 7),Gq 65 63 true (.load false 1 64),Hq 66 63 true 2,Gq 67 63 true (.bin .neq 65 66),Rq 68 (.pick 63 67 (.const (.bool false))),Mq 59 68]) (.cond 59 (.seq (.reg [Rq 14 (.mv (.const (.slice none 0 0))),Nq 15 3,Nq 16 0]) (.ret)) (.seq (.reg [Fq 70 2 7,Lq 71 70,Rq 72 (.bin .neq 71 (.const (.string ⟨#[]⟩))),Mq 69 72]) (.cond 69 (.seq (.reg [Mq 73 18,Cq 74 151 ([73]),Eq1 75 74 0,Eq1 76 74 1,Eq1 77 74 2,Mq 14 75,Mq 15 76,Mq 16 77]) (.ret)) (.skip)))))) (.seq (.reg [Mq 78 18,Cq 79 152 ([78]),Eq1 80 79 0,Eq1 81 79 1,Eq1 82 79 2,Mq 14 80,Mq 15 81,Mq 16 82]) (.ret)))))))))
theorem Ub:Ah Tryz.prog 78 7=some (Ur,[14,15,16]):=by kernel_rfl
def X6:Ag:=
 .seq (.reg [Rq 4 (.mv (.const (.slice none 0 0))),Nq 5 0]) (.seq (.seq (.reg [Mq 12 0,Mq 13 1,Rq 14 (.mks 53 1 2 [(.slice none 0 0)] [(0,12),(1,13)]),Cq 15 159 ([14]),Mq 6 15]) (.seq (.reg [Mq 16 6,Bq 17 .neq 16 (Kq 0)]) (.cond 17 (.seq (.reg [Mq 18 6,Rq 4 (.mv (.const (.slice none 0 0))),Mq 5 18]) (.ret)) (.skip)))) (.seq (.reg [Mq 19 0,Cq 20 117 ([19]),Mq 7 20]) (.seq (.seq (.reg [Mq 21 1,Rq 22 (.len false 21),Nq 23 0]) (.block 0 (.loop (.seq (.reg [Bq 24 .lss 23 22]) (.seq (.cond 24 (.skip) (.exit 0)) (.seq (.block 1 (.seq (.reg [Iq 25 9 21 23,Rq 26 (.load true 9 25),Rq 9 (.zbox 77 zq5),Sq 9 9 26]) (.seq (.reg [Mq 28 7,Fq 29 0 9,Lq 30 29,Fq 31 1 9,Lq 32 31,Cq 33 164 ([28,30,32]),Mq 27 33,Eq1 34 27 0,Eq1 35 27 1,Mq 10 34,Mq 11 35]) (.block 2 (.seq (.reg [Mq 37 11,Rq 38 (.not 37),Mq 36 38]) (.cond 36 (.reg [Mq 39 7,Mq 40 10,Rq 41 (.load true 9 9),Rq 42 (.mks 77 9 1 zq5 [(0,41)]),Cq 43 165 ([39,40,42]),Mq 7 43]) (.seq (.dreg [[Rq 45 (.load true 9 9),Mq 46 7,Mq 47 10,Iq 48 9 46 47,Rq 49 (.load true 9 48)],[Cq 50 166 ([45,49])],[Bq 51 .gtr 50 (Kq 0)],[Mq 44 51]]) (.cond 44 (.reg [Mq 52 7,Mq 53 10,Rq 54 (.load true 9 9),Iq 55 9 52 53,Sq 9 55 54]) (.skip))))))))) (.reg [Bq 56 .add 23 (Kq 1),Mq 23 56]))))))) (.seq (.seq (.reg [Mq 57 7,Rq 58 (.len false 57),Bq 59 .gtr 58 (Kq 40)]) (.cond 59 (.seq (.reg [Rq 4 (.mv (.const (.slice none 0 0))),Nq 5 2]) (.ret)) (.skip))) (.seq (.reg [Mq 60 7,Mq 4 60,Nq 5 0]) (.ret))))))
theorem Xy:Ah Tryz.prog 84 2=some (X6,[4,5]):=by kernel_rfl
def Aaz:Ag:=
 .seq (.reg [Rq 4 (.mv (.const (.slice none 0 0))),Nq 5 0]) (.seq (.seq (.reg [Mq 12 0,Mq 13 1,Rq 14 (.mks 54 1 2 [(.slice none 0 0)] [(0,12),(1,13)]),Cq 15 167 ([14]),Mq 6 15]) (.seq (.reg [Mq 16 6,Bq 17 .neq 16 (Kq 0)]) (.cond 17 (.seq (.reg [Mq 18 6,Rq 4 (.mv (.const (.slice none 0 0))),Mq 5 18]) (.ret)) (.skip)))) (.seq (.reg [Mq 19 0,Cq 20 118 ([19]),Mq 7 20]) (.seq (.seq (.reg [Mq 21 1,Rq 22 (.len false 21),Nq 23 0]) (.block 0 (.loop (.seq (.reg [Bq 24 .lss 23 22]) (.seq (.cond 24 (.skip) (.exit 0)) (.seq (.block 1 (.seq (.reg [Iq 25 3 21 23,Rq 26 (.load true 3 25),Rq 9 (.zbox 74 [(.string ⟨#[]⟩),(.int .i64 0),(.int .i64 0)]),Sq 3 9 26]) (.seq (.reg [Mq 28 7,Fq 29 0 9,Lq 30 29,Cq 31 168 ([28,30]),Mq 27 31,Eq1 32 27 0,Eq1 33 27 1,Mq 10 32,Mq 11 33]) (.block 2 (.seq (.reg [Mq 35 11,Rq 36 (.not 35),Mq 34 36]) (.cond 34 (.reg [Mq 37 7,Mq 38 10,Rq 39 (.load true 3 9),Rq 40 (.mks 74 3 1 [(.string ⟨#[]⟩),(.int .i64 0),(.int .i64 0)] [(0,39)]),Cq 41 169 ([37,38,40]),Mq 7 41]) (.seq (.dreg [[Fq 43 2 9,Lq 44 43,Mq 45 7,Mq 46 10,Iq 47 3 45 46,Fq 48 2 47,Lq 49 48,Cq 50 46 ([44,49]),Fq 51 1 9,Lq 52 51,Mq 53 7,Mq 54 10,Iq 55 3 53 54,Fq 56 1 55,Lq 57 56],[Cq 58 46 ([52,57])],[Rq 59 (.mks 3 1 2 [(.int .i64 0)] [(0,50),(1,58)])],[Cq 60 45 ([59])],[Bq 61 .gtr 60 (Kq 0)],[Mq 42 61]]) (.cond 42 (.reg [Mq 62 7,Mq 63 10,Rq 64 (.load true 3 9),Iq 65 3 62 63,Sq 3 65 64]) (.skip))))))))) (.reg [Bq 66 .add 23 (Kq 1),Mq 23 66]))))))) (.seq (.seq (.reg [Mq 67 7,Rq 68 (.len false 67),Bq 69 .gtr 68 (Kq 6)]) (.cond 69 (.seq (.reg [Rq 4 (.mv (.const (.slice none 0 0))),Nq 5 2]) (.ret)) (.skip))) (.seq (.reg [Mq 70 7,Mq 4 70,Nq 5 0]) (.ret))))))
theorem Abw:Ah Tryz.prog 85 2=some (Aaz,[4,5]):=by kernel_rfl
def Ab0:Ag:=
 .seq (.reg [Nq 4 0,Rq 5 (.mv (.const (.bool false)))]) (.seq (.reg [Mq 6 0,Mq 7 1,Cq 8 174 ([6,7,(.func 175)]),Eq1 9 8 0,Eq1 10 8 1,Mq 4 9,Mq 5 10]) (.ret))
theorem Bs:Ah Tryz.prog 89 2=some (Ab0,[4,5]):=by kernel_rfl
def Acq:Ag:=
 .seq (.reg [Rq 1 (.box 24 5 0),Nq 2 0]) (.seq (.reg [Rq 3 (.load true 5 1),Cq 4 39 ([3]),Mq 2 4]) (.ret))
theorem G3:Ah Tryz.prog 90 1=some (Acq,[2]):=by kernel_rfl
def Fh:Ag:=
 .seq (.reg [Nq 4 0]) (.seq (.seq (.reg [Mq 6 0,Rq 7 (.len false 6),Nq 8 0]) (.block 0 (.loop (.seq (.reg [Bq 9 .lss 8 7]) (.seq (.cond 9 (.skip) (.exit 0)) (.seq (.block 1 (.seq (.reg [Mq 10 8,Mq 5 10]) (.seq (.reg [Mq 11 1,Mq 12 0,Mq 13 5,Iq 14 6 12 13,Rq 15 (.load true 6 14),Rq 16 (.call 11 [15])]) (.cond 16 (.seq (.reg [Mq 17 5,Mq 4 17]) (.ret)) (.skip))))) (.reg [Bq 18 .add 8 (Kq 1),Mq 8 18]))))))) (.seq (.reg [Rq 4 (.mv (.const (.int .i64 (-1))))]) (.ret)))
theorem Aw:Ah Tryz.prog 91 2=some (Fh,[4]):=by kernel_rfl
def Ab2:Ag:=
 .seq (.reg [Rq 2 (.box 91 6 0),Rq 3 (.mv (.const (.bool false)))]) (.seq (.reg [Fq 4 0 2,Fq 5 0 4,Lq 6 5,Fq 7 0 1,Lq 8 7,Bq 9 .eql 6 8,Mq 3 9]) (.ret))
theorem Aal:Ah Tryz.prog 92 2=some (Ab2,[3]):=by kernel_rfl
def S3:Ag:=
 .seq (.reg [Rq 2 (.box 24 5 0),Rq 3 (.box 24 5 1),Nq 4 0]) (.seq (.dreg [[Fq 5 2 2,Lq 6 5,Fq 7 2 3,Lq 8 7,Cq 9 46 ([6,8]),Fq 10 1 2,Lq 11 10,Fq 12 1 3,Lq 13 12,Cq 14 46 ([11,13]),Fq 15 3 2,Lq 16 15,Fq 17 3 3,Lq 18 17,Cq 19 46 ([16,18]),Fq 20 4 2,Lq 21 20,Cq 22 176 ([21]),Fq 23 4 3,Lq 24 23],[Cq 25 176 ([24])],[Cq 26 46 ([22,25])],[Rq 27 (.mks 3 1 4 [(.int .i64 0)] [(0,9),(1,14),(2,19),(3,26)])],[Cq 28 45 ([27])],[Mq 4 28]]) (.ret))
theorem Tc:Ah Tryz.prog 93 2=some (S3,[4]):=by kernel_rfl
def Gi:Ag:=
 .seq (.reg [Rq 6 (.mv (.const (.slice none 0 0)))]) (.seq (.reg [Mq 8 0,Mq 9 1,Mq 10 2,Mq 11 0,Rq 12 (.len false 11),Rq 13 (.slcL 6 8 (some 9) (some 10) (some 12))]) (.seq (.seq (.reg [Mq 14 1,Mq 15 2,Bq 16 .eql 14 15]) (.cond 16 (.seq (.reg [Mq 17 0,Mq 6 17]) (.ret)) (.skip))) (.seq (.reg [Mq 18 0,Rq 19 (.len false 18),Mq 7 19]) (.seq (.dreg [[Mq 20 0,Mq 21 1,Rq 22 (.slcL 6 20 none (some 21) none),Mq 23 0,Mq 24 2,Rq 25 (.slcL 6 23 (some 24) none none)],[Rq 26 (.app 91 6 56 (.agg #[(.string ⟨#[]⟩),(.int .i64 0),(.int .i64 0),(.int .i64 0),(.bool false),(.int .i64 0)]) 22 25)],[Mq 0 26]]) (.seq (.reg [Mq 27 0,Mq 28 0,Rq 29 (.len false 28),Mq 30 7,Rq 31 (.slcL 6 27 (some 29) (some 30) none),⟨none,none,.clr 6 zq1 31⟩]) (.seq (.reg [Mq 32 0,Mq 6 32]) (.ret)))))))
theorem Gk:Ah Tryz.prog 94 3=some (Gi,[6]):=by kernel_rfl
def Abb:Ag:=
 .seq (.reg [Nq 2 0]) (.seq (.seq (.reg [Mq 6 0,Rq 7 (.len false 6),Nq 8 0]) (.block 0 (.loop (.seq (.reg [Bq 9 .lss 8 7]) (.seq (.cond 9 (.skip) (.exit 0)) (.seq (.block 1 (.seq (.reg [Iq 10 5 6 8,Rq 11 (.load true 5 10),Rq 4 (.zbox 24 zq2),Sq 5 4 11]) (.seq (.reg [Rq 12 (.load true 5 4),Cq 13 39 ([12]),Mq 5 13]) (.seq (.reg [Mq 14 5,Bq 15 .neq 14 (Kq 0)]) (.cond 15 (.seq (.reg [Mq 16 5,Mq 2 16]) (.ret)) (.skip)))))) (.reg [Bq 17 .add 8 (Kq 1),Mq 8 17]))))))) (.seq (.reg [Nq 2 0]) (.ret)))
theorem De:Ah Tryz.prog 95 1=some (Abb,[2]):=by kernel_rfl
def U3:Ag:=
 .seq (.reg [Rq 6 (.mv (.const (.bool false)))]) (.seq (.reg [Mq 7 0,Mq 8 1,Bq 9 .geq 7 8,Mq 10 9,Hq 11 10 true 0,Hq 12 10 true 2,Gq 13 10 true (.bin .leq 11 12),Rq 14 (.pick 10 13 (.const (.bool false))),Mq 6 14]) (.ret))
theorem Bv:Ah Tryz.prog 96 3=some (U3,[6]):=by kernel_rfl
def Eu:Ag:=
 .seq (.reg [Rq 4 (.mv (.const (.bool false)))]) (.seq (.reg [Mq 5 0,Mq 6 1,Cq 7 91 ([5,6]),Bq 8 .geq 7 (Kq 0),Mq 4 8]) (.ret))
theorem Bb:Ah Tryz.prog 98 2=some (Eu,[4]):=by kernel_rfl
def U9:Ag:=
 .seq (.reg [Rq 1 (.box 91 6 0),Rq 2 (.mv (.const (.bool false)))]) (.seq (.reg [Fq 3 5 1,Lq 4 3,Bq 5 .lss 4 (Kq 0),Mq 6 5,Gq 7 6 false (.fldA 5 1),Gq 8 6 false (.load false 1 7),Gq 9 6 false (.bin .gtr 8 (Kq 100)),Rq 10 (.pick 6 (.const (.bool true)) 9),Mq 2 10]) (.ret))
theorem Iv:Ah Tryz.prog 99 1=some (U9,[2]):=by kernel_rfl
def Jn:Ag:=
 .seq (.reg [Rq 10 (.mv (.const (.bool true)))]) (.seq (.reg [Rq 11 (.mv (.const (.bool true)))]) (.block 0 (.loop (.block 1 (.seq (.reg [Mq 21 2,Mq 22 1,Bq 23 .sub 21 22,Mq 12 23]) (.seq (.seq (.reg [Mq 24 12,Bq 25 .leq 24 (Kq 12)]) (.cond 25 (.seq (.reg [Mq 26 0,Mq 27 1,Mq 28 2,Mq 29 4,Cq 30 179 ([26,27,28,29])]) (.ret)) (.skip))) (.seq (.seq (.reg [Mq 31 3,Bq 32 .eql 31 (Kq 0)]) (.cond 32 (.seq (.reg [Mq 33 0,Mq 34 1,Mq 35 2,Mq 36 4,Cq 37 180 ([33,34,35,36])]) (.ret)) (.skip))) (.seq (.seq (.reg [Mq 38 10,Rq 39 (.not 38)]) (.cond 39 (.seq (.reg [Mq 40 0,Mq 41 1,Mq 42 2,Mq 43 4,Cq 44 181 ([40,41,42,43])]) (.reg [Mq 45 3,Bq 46 .sub 45 (Kq 1),Mq 3 46])) (.skip))) (.seq (.reg [Mq 48 0,Mq 49 1,Mq 50 2,Mq 51 4,Cq 52 182 ([48,49,50,51]),Mq 47 52,Eq1 53 47 0,Eq1 54 47 1,Mq 13 53,Mq 14 54]) (.seq (.seq (.reg [Mq 55 14,Bq 56 .eql 55 (Kq 2)]) (.cond 56 (.seq (.reg [Mq 57 0,Mq 58 1,Mq 59 2,Mq 60 4,Cq 61 183 ([57,58,59,60])]) (.seq (.reg [Mq 62 2,Bq 63 .sub 62 (Kq 1),Mq 64 13,Mq 65 1,Bq 66 .sub 64 65,Bq 67 .sub 63 66,Mq 13 67]) (.reg [Nq 14 1]))) (.skip))) (.seq (.seq (.reg [Mq 68 10,Mq 69 68,Hq 70 69 true 11,Rq 71 (.pick 69 70 (.const (.bool false))),Mq 72 71,Hq 73 72 true 14,Gq 74 72 true (.bin .eql 73 (Kq 1)),Rq 75 (.pick 72 74 (.const (.bool false)))]) (.cond 75 (.seq (.reg [Mq 76 0,Mq 77 1,Mq 78 2,Mq 79 4,Cq 80 184 ([76,77,78,79])]) (.cond 80 (.ret) (.skip))) (.skip))) (.seq (.seq (.dreg [[Mq 81 1],[Bq 82 .gtr 81 (Kq 0)],[Mq 83 82],[Hq 84 83 true 4,Hq 85 83 true 0,Hq 86 83 true 1,Gq 87 83 true (.bin .sub 86 (Kq 1)),Gq 88 83 true (.idxA 1 85 87),Gq 89 83 true (.load false 1 88),Hq 90 83 true 0,Hq 91 83 true 13,Gq 92 83 true (.idxA 1 90 91),Gq 93 83 true (.load false 1 92)],[Gq 94 83 true (.call 84 [89,93])],[Gq 95 83 true (.bin .lss 94 (Kq 0))],[Gq 96 83 true (.not 95)],[Rq 97 (.pick 83 96 (.const (.bool false)))]]) (.cond 97 (.seq (.reg [Mq 98 0,Mq 99 1,Mq 100 2,Mq 101 13,Mq 102 4,Cq 103 185 ([98,99,100,101,102]),Mq 15 103]) (.seq (.reg [Mq 104 15,Mq 1 104]) (.exit 1))) (.skip))) (.seq (.reg [Mq 106 0,Mq 107 1,Mq 108 2,Mq 109 13,Mq 110 4,Cq 111 186 ([106,107,108,109,110]),Mq 105 111,Eq1 112 105 0,Eq1 113 105 1,Mq 16 112,Mq 17 113]) (.seq (.reg [Mq 114 17,Mq 11 114]) (.seq (.reg [Mq 115 16,Mq 116 1,Bq 117 .sub 115 116,Mq 118 2,Mq 119 16,Bq 120 .sub 118 119,Mq 18 117,Mq 19 120]) (.seq (.reg [Mq 121 12,Bq 122 .quo 121 (Kq 8),Mq 20 122]) (.seq (.reg [Mq 123 18,Mq 124 19,Bq 125 .lss 123 124]) (.cond 125 (.seq (.reg [Mq 126 18,Mq 127 20,Bq 128 .geq 126 127,Mq 10 128]) (.seq (.reg [Mq 129 0,Mq 130 1,Mq 131 16,Mq 132 3,Mq 133 4,Cq 134 100 ([129,130,131,132,133])]) (.reg [Mq 135 16,Bq 136 .add 135 (Kq 1),Mq 1 136]))) (.seq (.reg [Mq 137 19,Mq 138 20,Bq 139 .geq 137 138,Mq 10 139]) (.seq (.reg [Mq 140 0,Mq 141 16,Bq 142 .add 141 (Kq 1),Mq 143 2,Mq 144 3,Mq 145 4,Cq 146 100 ([140,142,143,144,145])]) (.reg [Mq 147 16,Mq 2 147])))))))))))))))))))))
theorem Jm:Ah Tryz.prog 100 5=some (Jn,[]):=by kernel_rfl
def Wl:Ag:=
 .seq (.reg [Nq 2 0]) (.seq (.cond (.const (.bool false)) (.seq (.reg [Mq 3 0,Rq 4 (.conv .u32 3),Cq 5 187 ([4]),Mq 2 5]) (.ret)) (.skip)) (.seq (.reg [Mq 6 0,Cq 7 188 ([6]),Mq 2 7]) (.ret)))
theorem Nf:Ah Tryz.prog 101 1=some (Wl,[2]):=by kernel_rfl
def T6:Ag:=
 .seq (.reg [Nq 2 0]) (.seq (.reg [Mq 3 0,Cq 4 104 ([3]),Rq 5 (.bin .shl 4 (.const (.int .u64 8))),Mq 6 0,Cq 7 104 ([6]),Bq 8 .or 5 7,Mq 2 8]) (.ret))
theorem Lw:Ah Tryz.prog 103 1=some (T6,[2]):=by kernel_rfl
def Si:Ag:=
 .seq (.reg [Nq 2 0]) (.seq (.dreg [[Mq 3 0,Mq 4 0,Fq 5 0 4,Fq 6 1 5,Lq 7 6,Mq 8 0,Fq 9 0 8,Fq 10 0 9,Lq 11 10,Rq 12 (.len true 11),Bq 13 .lss 7 12],[Cq 14 105 ([3,13])]]) (.seq (.reg [Mq 15 0,Fq 16 0 15,Fq 17 1 16,Lq 18 17,Bq 19 .add 18 (Kq 1),Fq 20 0 15,Fq 21 1 20,Sq 1 21 19]) (.seq (.dreg [[Mq 22 0,Fq 23 0 22,Fq 24 0 23,Lq 25 24,Mq 26 0,Fq 27 0 26,Fq 28 1 27,Lq 29 28,Bq 30 .sub 29 (Kq 1)],[Rq 31 (.idxS 25 30)],[Rq 32 (.conv .i64 31)],[Mq 2 32]]) (.ret))))
theorem Kc:Ah Tryz.prog 104 1=some (Si,[2]):=by kernel_rfl
def R6:Ag:=
 .seq (.reg [Mq 4 1,Rq 5 (.not 4)]) (.cond 5 (.reg [Rq 6 (.build [] []),Rq 7 (.mki 103 6),⟨none,none,.die 7⟩]) (.skip))
theorem Ky:Ah Tryz.prog 105 2=some (R6,[]):=by kernel_rfl
def Sg:Ag:=
 .seq (.reg [Rq 2 (.mv (.const (.string ⟨#[]⟩)))]) (.seq (.reg [Rq 3 (.mv (.const (.slice none 0 0)))]) (.seq (.dreg [[Mq 9 0,Fq 10 0 9,Fq 11 1 10,Lq 12 11,Rq 4 (.mv (.const (.int .i64 (-1))))],[Mq 5 12]]) (.block 0 (.loop (.block 1 (.seq (.reg [Mq 13 0,Mq 14 3,Rq 15 (.len false 14),Bq 16 .leq 15 (Kq 8),Cq 17 105 ([13,16])]) (.seq (.reg [Mq 18 0,Cq 19 104 ([18]),Mq 6 19]) (.block 2 (.seq (.reg [Mq 33 6,Bq 34 .eql 33 (Kq 0),Mq 32 34]) (.cond 32 (.seq (.seq (.reg [Mq 35 4,Bq 36 .geq 35 (Kq 0)]) (.cond 36 (.reg [Mq 37 0,Mq 38 4,Fq 39 0 37,Fq 40 1 39,Sq 1 40 38]) (.skip))) (.seq (.reg [Mq 41 3,Cq 42 142 ([41,(.const (.string ⟨#[46]⟩))]),Mq 2 42]) (.ret))) (.seq (.reg [Mq 44 6,Bq 45 .geq 44 (Kq 192),Mq 43 45]) (.cond 43 (.seq (.reg [Mq 46 6,Bq 47 .and 46 (Kq 63),Rq 48 (.bin .shl 47 (.const (.int .u64 8))),Mq 49 0,Cq 50 104 ([49]),Bq 51 .or 48 50,Mq 7 51]) (.seq (.seq (.reg [Mq 52 4,Bq 53 .lss 52 (Kq 0)]) (.cond 53 (.reg [Mq 54 0,Fq 55 0 54,Fq 56 1 55,Lq 57 56,Mq 4 57]) (.skip))) (.seq (.reg [Mq 58 0,Mq 59 7,Mq 60 5,Bq 61 .lss 59 60,Cq 62 105 ([58,61])]) (.reg [Mq 63 0,Mq 64 7,Mq 65 7,Fq 66 0 63,Fq 67 1 66,Sq 1 67 64,Mq 5 65])))) (.seq (.reg [Mq 20 0,Mq 21 6,Cq 22 190 ([20,21]),Cq 23 189 ([22]),Mq 8 23]) (.seq (.reg [Mq 24 0,Mq 25 8,Cq 26 88 ([25]),Cq 27 105 ([24,26])]) (.reg [Mq 28 3,Mq 29 8,Rq 30 (.mks 9 1 1 [(.string ⟨#[]⟩)] [(0,29)]),Rq 31 (.app 9 1 16 (.string ⟨#[]⟩) 28 30),Mq 3 31])))))))))))))))
theorem Kj:Ah Tryz.prog 106 1=some (Sg,[2]):=by kernel_rfl
def Pi:Ag:=
 .seq (.reg [Rq 2 (.zbox 51 zq4)]) (.seq (.reg [Mq 6 0,Cq 7 106 ([6]),Mq 8 0,Cq 9 103 ([8]),Rq 10 (.build zq4 [(0,1,7),(1,1,9)]),Rq 3 (.zbox 51 zq4),Sq 7 3 10]) (.seq (.reg [Mq 11 0,Mq 12 0,Cq 13 103 ([12]),Bq 14 .eql 13 (Kq 1),Cq 15 105 ([11,14])]) (.seq (.reg [Mq 16 0,Cq 17 191 ([16]),Fq 18 2 3,Sq 1 18 17]) (.seq (.reg [Mq 19 0,Cq 20 103 ([19]),Mq 4 20]) (.seq (.reg [Mq 21 0,Fq 22 0 21,Fq 23 1 22,Lq 24 23,Mq 25 4,Bq 26 .add 24 25,Mq 5 26]) (.seq (.reg [Mq 27 0,Mq 28 5,Mq 29 0,Fq 30 0 29,Fq 31 0 30,Lq 32 31,Rq 33 (.len true 32),Bq 34 .leq 28 33,Cq 35 105 ([27,34])]) (.seq (.seq (.reg [Fq 36 1 3,Lq 37 36]) (.block 0 (.seq (.reg [Bq 41 .eql 37 (Kq 1),Mq 40 41]) (.cond 40 (.reg [Mq 42 0,Cq 43 191 ([42]),Fq 44 3 3,Sq 1 44 43]) (.seq (.reg [Bq 46 .eql 37 (Kq 16),Mq 45 46]) (.cond 45 (.reg [Mq 47 0,Mq 48 0,Cq 49 104 ([48]),Cq 50 190 ([47,49]),Fq 51 4 3,Sq 1 51 50]) (.seq (.reg [Bq 53 .eql 37 (Kq 33),Mq 52 53]) (.cond 52 (.seq (.reg [Mq 54 0,Mq 55 0,Cq 56 103 ([55]),Bq 57 .eql 56 (Kq 0),Mq 58 57,Hq 59 58 true 0,Gq 60 58 true (.call (.func 103) [59]),Gq 61 58 true (.bin .eql 60 (Kq 0)),Rq 62 (.pick 58 61 (.const (.bool false))),Cq 63 105 ([54,62])]) (.seq (.reg [Mq 64 0,Cq 65 103 ([64]),Fq 66 5 3,Sq 1 66 65]) (.reg [Mq 67 0,Cq 68 106 ([67]),Fq 69 6 3,Sq 1 69 68]))) (.reg [Mq 38 0,Cq 39 105 ([38,(.const (.bool false))])]))))))))) (.seq (.reg [Mq 70 0,Mq 71 0,Fq 72 0 71,Fq 73 1 72,Lq 74 73,Mq 75 5,Bq 76 .eql 74 75,Cq 77 105 ([70,76])]) (.seq (.reg [Rq 78 (.load true 7 3),Sq 7 2 78]) (.ret))))))))))
theorem I1:Ce Tryz.prog 107 1=some (Pi,[(2,some (true,7))]):=by kernel_rfl
def Ac2:Ag:=
 .seq (.reg [Rq 6 (.mv (.const (.bool false)))]) (.seq (.reg [Mq 7 0,Mq 8 1,Bq 9 .geq 7 8,Mq 10 9,Hq 11 10 true 0,Hq 12 10 true 2,Gq 13 10 true (.bin .leq 11 12),Rq 14 (.pick 10 13 (.const (.bool false))),Mq 6 14]) (.ret))
theorem Acg:Ah Tryz.prog 108 3=some (Ac2,[6]):=by kernel_rfl
def Acx:Ag:=
 .seq (.reg [Rq 2 (.mv (.const (.bool false)))]) (.seq (.reg [Rq 3 (.mks 3 1 3 [(.int .i64 0)] [(0,(Kq 1)),(1,(Kq 16)),(2,(Kq 33))]),Mq 4 0,Cq 5 192 ([3,4]),Mq 2 5]) (.ret))
theorem Aco:Ah Tryz.prog 109 1=some (Acx,[2]):=by kernel_rfl
def Su:Ag:=
 .seq (.reg [Rq 1 (.box 51 7 0),Nq 2 0]) (.seq (.seq (.reg [Fq 4 0 1,Lq 5 4,Cq 6 76 ([5]),Mq 3 6]) (.seq (.reg [Mq 7 3,Bq 8 .neq 7 (Kq 0)]) (.cond 8 (.seq (.reg [Mq 9 3,Mq 2 9]) (.ret)) (.skip)))) (.seq (.block 0 (.seq (.reg [Fq 11 1 1,Lq 12 11,Cq 13 109 ([12]),Rq 14 (.not 13),Mq 10 14]) (.cond 10 (.seq (.reg [Nq 2 7]) (.ret)) (.seq (.reg [Fq 16 2 1,Lq 17 16,Cq 18 108 ([17,(Kq 0),(Kq 2147483647)]),Rq 19 (.not 18),Mq 15 19]) (.cond 15 (.seq (.reg [Nq 2 3]) (.ret)) (.seq (.reg [Rq 21 (.load true 7 1),Cq 22 193 ([21]),Rq 23 (.not 22),Mq 20 23]) (.cond 20 (.seq (.reg [Nq 2 1]) (.ret)) (.seq (.reg [Fq 25 3 1,Lq 26 25,Cq 27 108 ([26,(Kq 0),(Kq 4294967295)]),Rq 28 (.not 27),Mq 29 28,Gq 30 29 false (.fldA 5 1),Gq 31 29 false (.load false 1 30),Gq 32 29 false (.call (.func 108) [31,(Kq 0),(Kq 65535)]),Gq 33 29 false (.not 32),Rq 34 (.pick 29 (.const (.bool true)) 33),Mq 24 34]) (.cond 24 (.seq (.reg [Nq 2 3]) (.ret)) (.seq (.reg [Fq 36 4 1,Lq 37 36,Rq 38 (.len true 37),Bq 39 .gtr 38 (Kq 200),Mq 35 39]) (.cond 35 (.seq (.reg [Nq 2 2]) (.ret)) (.skip)))))))))))) (.seq (.reg [Fq 40 6 1,Lq 41 40,Cq 42 76 ([41]),Mq 2 42]) (.ret))))
theorem Sr:Ah Tryz.prog 110 1=some (Su,[2]):=by kernel_rfl
def Y5:Ag:=
 .seq (.reg [Nq 6 0,Nq 7 0]) (.seq (.seq (.reg [Mq 11 0,Rq 12 (.mks 54 1 1 [(.slice none 0 0)] [(0,11)]),Cq 13 167 ([12]),Mq 8 13]) (.seq (.reg [Mq 14 8,Bq 15 .neq 14 (Kq 0)]) (.cond 15 (.seq (.reg [Mq 16 8,Nq 6 0,Mq 7 16]) (.ret)) (.skip)))) (.seq (.block 0 (.seq (.reg [Mq 18 1,Cq 19 88 ([18]),Rq 20 (.not 19),Mq 21 20,Hq 22 21 false 2,Gq 23 21 false (.call (.func 88) [22]),Gq 24 21 false (.not 23),Rq 25 (.pick 21 (.const (.bool true)) 24),Mq 17 25]) (.cond 17 (.seq (.reg [Nq 6 0,Nq 7 1]) (.ret)) (.seq (.reg [Mq 27 1,Mq 28 2,Bq 29 .eql 27 28,Mq 26 29]) (.cond 26 (.seq (.reg [Nq 6 0,Nq 7 6]) (.ret)) (.skip)))))) (.seq (.reg [Mq 31 0,Mq 32 2,Cq 33 168 ([31,32]),Mq 30 33,Eq1 34 30 0,Eq1 35 30 1,Mq 9 34,Mq 10 35]) (.seq (.seq (.reg [Mq 36 10,Rq 37 (.not 36)]) (.cond 37 (.seq (.reg [Nq 6 0,Nq 7 5]) (.ret)) (.skip))) (.seq (.reg [Mq 38 0,Mq 39 9,Iq 40 3 38 39,Fq 41 1 40,Lq 42 41,Mq 6 42,Nq 7 0]) (.ret))))))
theorem Abt:Ah Tryz.prog 120 3=some (Y5,[6,7]):=by kernel_rfl
def X1:Ag:=
 .seq (.reg [Rq 8 (.box 56 5 3),Nq 10 0]) (.seq (.seq (.reg [Mq 17 0,Cq 18 88 ([17]),Rq 19 (.not 18)]) (.cond 19 (.seq (.reg [Nq 10 1]) (.ret)) (.skip))) (.seq (.seq (.reg [Mq 20 1,Cq 21 154 ([20]),Mq 11 21]) (.seq (.reg [Mq 22 11,Bq 23 .neq 22 (Kq 0)]) (.cond 23 (.seq (.reg [Mq 24 11,Mq 10 24]) (.ret)) (.skip)))) (.seq (.seq (.reg [Mq 25 2,Cq 26 153 ([25]),Mq 12 26]) (.seq (.reg [Mq 27 12,Bq 28 .neq 27 (Kq 0)]) (.cond 28 (.seq (.reg [Mq 29 12,Mq 10 29]) (.ret)) (.skip)))) (.seq (.seq (.reg [Mq 30 4,Rq 31 (.len false 30),Bq 32 .gtr 31 (Kq 20)]) (.cond 32 (.seq (.reg [Nq 10 2]) (.ret)) (.skip))) (.seq (.seq (.reg [Rq 33 (.load true 5 8),Cq 34 156 ([33]),Mq 13 34]) (.seq (.reg [Mq 35 13,Bq 36 .neq 35 (Kq 0)]) (.cond 36 (.seq (.reg [Mq 37 13,Mq 10 37]) (.ret)) (.skip)))) (.seq (.seq (.reg [Mq 38 4,Rq 39 (.len false 38),Nq 40 0]) (.block 0 (.loop (.seq (.reg [Bq 41 .lss 40 39]) (.seq (.cond 41 (.skip) (.exit 0)) (.seq (.block 1 (.seq (.reg [Iq 42 6 38 40,Rq 43 (.load true 6 42),Rq 15 (.zbox 152 zq3),Sq 6 15 43]) (.seq (.reg [Fq 44 1 15,Rq 45 (.load true 5 44),Cq 46 156 ([45]),Mq 16 46]) (.seq (.reg [Mq 47 16,Bq 48 .neq 47 (Kq 0)]) (.cond 48 (.seq (.reg [Mq 49 16,Mq 10 49]) (.ret)) (.skip)))))) (.reg [Bq 50 .add 40 (Kq 1),Mq 40 50]))))))) (.seq (.reg [Nq 10 0]) (.ret))))))))
theorem Yb:Ah Tryz.prog 121 5=some (X1,[10]):=by kernel_rfl
def Xv:Ag:=
 .seq (.reg [Rq 6 (.box 38 7 0),Rq 10 (.box 56 5 4),Rq 12 (.zbox 38 zq0)]) (.seq (.reg [Fq 18 0 6,Lq 19 18,Fq 20 4 6,Rq 21 (.load true 2 20),Rq 22 (.build zq0 [(0,1,19),(1,1,(.const (.bool true))),(4,2,21)]),Rq 13 (.zbox 38 zq0),Sq 7 13 22]) (.seq (.reg [Fq 24 4 6,Fq 25 0 24,Lq 26 25,Cq 27 73 ([26]),Mq 23 27,Eq1 28 23 0,Eq1 29 23 1,Rq 14 (.zbox 67 zq7),Sq 4 14 28,Mq 15 29]) (.seq (.seq (.reg [Mq 30 15,Bq 31 .neq 30 (Kq 0)]) (.cond 31 (.seq (.seq (.reg [Mq 32 15,Cq 33 194 ([32]),Fq 34 3 13,Sq 1 34 33]) (.seq (.reg [Fq 35 3 13,Lq 36 35,Bq 37 .eql 36 (Kq 0)]) (.cond 37 (.reg [Fq 38 3 13,Sq 1 38 (Kq 3)]) (.skip)))) (.seq (.reg [Rq 39 (.load true 7 13),Sq 7 12 39]) (.ret))) (.skip))) (.seq (.reg [Rq 41 (.load true 4 14),Fq 42 4 6,Fq 43 1 42,Lq 44 43,Mq 45 1,Mq 46 2,Mq 47 3,Rq 48 (.load true 5 10),Mq 49 5,Cq 50 78 ([41,44,45,46,47,48,49]),Mq 40 50,Eq1 51 40 0,Eq1 52 40 1,Eq1 53 40 2,Mq 16 51,Mq 17 52,Mq 15 53]) (.seq (.seq (.reg [Mq 54 15,Bq 55 .neq 54 (Kq 0)]) (.cond 55 (.seq (.reg [Fq 56 3 13,Sq 1 56 (Kq 2)]) (.seq (.reg [Rq 57 (.load true 7 13),Sq 7 12 57]) (.ret))) (.skip))) (.seq (.reg [Mq 58 17,Mq 59 16,Fq 60 3 13,Sq 1 60 58,Fq 61 6 13,Sq 1 61 59]) (.seq (.reg [Rq 62 (.load true 7 13),Sq 7 12 62]) (.ret))))))))
theorem X2:Ce Tryz.prog 122 6=some (Xv,[(12,some (true,7))]):=by kernel_rfl
def Ak8:Ag:=
 .seq (.reg [Rq 2 (.box 38 7 0),Rq 4 (.mv (.const (.string ⟨#[]⟩))),Nq 5 0]) (.seq (.seq (.reg [Mq 8 1,Cq 9 108 ([8,(Kq 12),(Kq 512)]),Rq 10 (.not 9)]) (.cond 10 (.seq (.reg [Rq 4 (.mv (.const (.string ⟨#[]⟩))),Nq 5 3]) (.ret)) (.skip))) (.seq (.seq (.reg [Rq 11 (.load true 7 2),Cq 12 52 ([11]),Mq 6 12]) (.seq (.reg [Mq 13 6,Bq 14 .neq 13 (Kq 0)]) (.cond 14 (.seq (.reg [Mq 15 6,Rq 4 (.mv (.const (.string ⟨#[]⟩))),Mq 5 15]) (.ret)) (.skip)))) (.block 0 (.loop (.block 1 (.seq (.reg [Rq 16 (.load true 7 2),Cq 17 77 ([16]),Mq 7 17]) (.seq (.block 2 (.seq (.reg [Mq 19 7,Rq 20 (.len true 19),Mq 21 1,Bq 22 .leq 20 21,Mq 18 22]) (.cond 18 (.seq (.reg [Mq 23 7,Mq 4 23,Nq 5 0]) (.ret)) (.seq (.reg [Fq 25 6 2,Lq 26 25,Rq 27 (.len false 26),Bq 28 .eql 27 (Kq 0),Mq 24 28]) (.cond 24 (.seq (.reg [Rq 4 (.mv (.const (.string ⟨#[]⟩))),Nq 5 2]) (.ret)) (.skip)))))) (.reg [Fq 29 6 2,Lq 30 29,Fq 31 6 2,Lq 32 31,Rq 33 (.len false 32),Bq 34 .sub 33 (Kq 1),Rq 35 (.slcL 7 30 none (some 34) none),Fq 36 6 2,Sq 1 36 35,Fq 37 2 2,Sq 1 37 (.const (.bool true))]))))))))
theorem Al9:Ah Tryz.prog 123 2=some (Ak8,[4,5]):=by kernel_rfl
def Zb:Ag:=
 .seq (.reg [Rq 2 (.mv (.const (.slice none 0 0))),Nq 3 0]) (.seq (.seq (.reg [Mq 8 0,Rq 9 (.mks 22 1 1 [(.slice none 0 0)] [(0,8)]),Cq 10 38 ([9]),Mq 4 10]) (.seq (.reg [Mq 11 4,Bq 12 .neq 11 (Kq 0)]) (.cond 12 (.seq (.reg [Mq 13 4,Rq 2 (.mv (.const (.slice none 0 0))),Mq 3 13]) (.ret)) (.skip)))) (.seq (.reg [Rq 5 (.mv (.const (.slice none 0 0)))]) (.seq (.seq (.reg [Mq 14 0,Rq 15 (.len false 14),Nq 16 0]) (.block 0 (.loop (.seq (.reg [Bq 17 .lss 16 15]) (.seq (.cond 17 (.skip) (.exit 0)) (.seq (.block 1 (.seq (.reg [Iq 18 5 14 16,Rq 19 (.load true 5 18),Rq 7 (.zbox 24 zq2),Sq 5 7 19]) (.seq (.reg [Fq 20 1 7,Lq 21 20,Bq 22 .leq 21 (Kq 2)]) (.cond 22 (.reg [Mq 23 5,Fq 24 0 7,Lq 25 24,Rq 26 (.mks 9 1 1 [(.string ⟨#[]⟩)] [(0,25)]),Rq 27 (.app 9 1 16 (.string ⟨#[]⟩) 23 26),Mq 5 27]) (.skip))))) (.reg [Bq 28 .add 16 (Kq 1),Mq 16 28]))))))) (.seq (.reg [Mq 29 5,Mq 2 29,Nq 3 0]) (.ret)))))
theorem Aa6:Ah Tryz.prog 132 1=some (Zb,[2,3]):=by kernel_rfl
def Abp:Ag:=
 .seq (.reg [Nq 2 0,Nq 3 0]) (.seq (.seq (.reg [Mq 5 0,Bq 6 .lss 5 (Kq 0),Mq 7 6,Hq 8 7 false 0,Gq 9 7 false (.bin .gtr 8 (Kq 20)),Rq 10 (.pick 7 (.const (.bool true)) 9)]) (.cond 10 (.seq (.reg [Nq 2 0,Nq 3 3]) (.ret)) (.skip))) (.seq (.reg [Nq 4 0]) (.seq (.block 0 (.loop (.seq (.seq (.reg [Mq 11 4,Rq 12 (.bin .shl (Kq 1) 11),Mq 13 0,Bq 14 .leq 12 13]) (.cond 14 (.skip) (.exit 0))) (.block 1 (.reg [Mq 15 4,Bq 16 .add 15 (Kq 1),Mq 4 16]))))) (.seq (.reg [Mq 17 4,Rq 18 (.bin .mul (Kq 3) 17),Mq 2 18,Nq 3 0]) (.ret)))))
theorem Ab3:Ah Tryz.prog 133 1=some (Abp,[2,3]):=by kernel_rfl
def Fd:Ag:=
 .seq (.reg [Mq 5 0,Rq 6 (.len false 5),Mq 4 6]) (.reg [Mq 7 0,Mq 8 4,Mq 9 4,Rq 10 (.conv .u64 9),Cq 11 101 ([10]),Mq 12 1,Cq 13 199 ([7,(Kq 0),8,11,12])])
theorem Fb:Ah Tryz.prog 134 2=some (Fd,[]):=by kernel_rfl
def O5:Ag:=
 .seq (.reg [Nq 4 0]) (.seq (.reg [Mq 7 0,Cq 8 200 ([7]),Mq 5 8]) (.seq (.reg [Mq 9 1,Cq 10 200 ([9]),Mq 6 10]) (.seq (.seq (.reg [Mq 11 5]) (.cond 11 (.seq (.seq (.reg [Mq 12 6]) (.cond 12 (.seq (.reg [Nq 4 0]) (.ret)) (.skip))) (.seq (.reg [Rq 4 (.mv (.const (.int .i64 (-1))))]) (.ret))) (.skip))) (.seq (.seq (.reg [Mq 13 6]) (.cond 13 (.seq (.reg [Nq 4 1]) (.ret)) (.skip))) (.seq (.seq (.reg [Mq 14 0,Mq 15 1,Bq 16 .lss 14 15]) (.cond 16 (.seq (.reg [Rq 4 (.mv (.const (.int .i64 (-1))))]) (.ret)) (.skip))) (.seq (.seq (.reg [Mq 17 0,Mq 18 1,Bq 19 .gtr 17 18]) (.cond 19 (.seq (.reg [Nq 4 1]) (.ret)) (.skip))) (.seq (.reg [Nq 4 0]) (.ret))))))))
theorem Aj:Ah Tryz.prog 136 2=some (O5,[4]):=by kernel_rfl
def Wq:Ag:=
 .seq (.reg [Rq 4 (.mv (.const (.slice none 0 0)))]) (.seq (.reg [Mq 5 0,Mq 6 1,Cq 7 201 ([5,6,(Kq 0),(.const (.int .i64 (-1)))]),Mq 4 7]) (.ret))
theorem Vw:Ah Tryz.prog 137 2=some (Wq,[4]):=by kernel_rfl
def Gh:Ag:=
 .seq (.reg [Rq 4 (.mv (.const (.bool false)))]) (.seq (.reg [Mq 5 0,Mq 6 1,Cq 7 202 ([5,6]),Bq 8 .geq 7 (Kq 0),Mq 4 8]) (.ret))
theorem Gj:Ah Tryz.prog 138 2=some (Gh,[4]):=by kernel_rfl
def Wt:Ag:=
 .seq (.reg [Rq 2 (.mv (.const (.bool false)))]) (.seq (.reg [Mq 3 0,Rq 4 (.bin .neq 3 (.const (.string ⟨#[]⟩))),Mq 5 4,Hq 6 5 true 0,Gq 7 5 true (.call (.func 88) [6]),Gq 8 5 true (.not 7),Rq 9 (.pick 5 8 (.const (.bool false))),Mq 2 9]) (.ret))
theorem Vx:Ah Tryz.prog 139 1=some (Wt,[2]):=by kernel_rfl
def Vi:Ag:=
 .seq (.reg [Rq 4 (.mv (.const (.bool false)))]) (.seq (.reg [Mq 5 1,Mq 6 0,Cq 7 141 ([5,6]),Mq 4 7]) (.ret))
theorem V7:Ah Tryz.prog 140 2=some (Vi,[4]):=by kernel_rfl
def H2:Ag:=
 .seq (.reg [Rq 4 (.mv (.const (.bool false)))]) (.seq (.reg [Mq 5 0,Mq 6 1,Cq 7 203 ([5,6]),Bq 8 .geq 7 (Kq 0),Mq 4 8]) (.ret))
theorem H7:Ah Tryz.prog 141 2=some (H2,[4]):=by kernel_rfl
def He:Ag:=
 .seq (.reg [Rq 4 (.mv (.const (.slice none 0 0)))]) (.seq (.reg [Mq 8 0,Mq 9 1,Cq 10 202 ([8,9]),Mq 5 10]) (.seq (.seq (.reg [Mq 11 5,Rq 12 (.bin .eql 11 (.const (.int .i64 (-1))))]) (.cond 12 (.seq (.reg [Mq 13 0,Mq 4 13]) (.ret)) (.skip))) (.seq (.seq (.reg [Mq 14 5,Bq 15 .add 14 (Kq 1),Mq 6 15]) (.block 0 (.loop (.seq (.seq (.reg [Mq 16 6,Mq 17 0,Rq 18 (.len false 17),Bq 19 .lss 16 18]) (.cond 19 (.skip) (.exit 0))) (.seq (.block 1 (.seq (.reg [Mq 22 0,Mq 23 6,Iq 24 1 22 23,Lq 25 24,Mq 7 25]) (.seq (.reg [Mq 26 1,Mq 27 7,Rq 28 (.call 26 [27]),Rq 29 (.not 28)]) (.cond 29 (.seq (.reg [Mq 30 0,Mq 31 5,Mq 32 7,Iq 33 1 30 31,Sq 1 33 32]) (.reg [Mq 34 5,Bq 35 .add 34 (Kq 1),Mq 5 35])) (.skip))))) (.reg [Mq 20 6,Bq 21 .add 20 (Kq 1),Mq 6 21])))))) (.seq (.reg [Mq 36 0,Mq 37 5,Rq 38 (.slcL 1 36 (some 37) none none),⟨none,none,.clr 1 [(.string ⟨#[]⟩)] 38⟩]) (.seq (.reg [Mq 39 0,Mq 40 5,Rq 41 (.slcL 1 39 none (some 40) none),Mq 4 41]) (.ret))))))
theorem Hi:Ah Tryz.prog 143 2=some (He,[4]):=by kernel_rfl
def R7:Ag:=
 .seq (.reg [Rq 2 (.mv (.const (.bool false)))]) (.seq (.reg [Mq 3 0,Rq 4 (.bin .eql 3 (.const (.string ⟨#[]⟩))),Mq 2 4]) (.ret))
theorem Se:Ah Tryz.prog 144 1=some (R7,[2]):=by kernel_rfl
def Aci:Ag:=
 .seq (.reg [Rq 2 (.mv (.const (.slice none 0 0)))]) (.seq (.seq (.reg [Mq 3 0,Rq 4 (.bin .eql 3 (.const (.string ⟨#[]⟩)))]) (.cond 4 (.seq (.reg [Rq 2 (.mv (.const (.slice none 0 0)))]) (.ret)) (.skip))) (.seq (.reg [Mq 5 0,Cq 6 137 ([5,(.const (.string ⟨#[46]⟩))]),Mq 2 6]) (.ret)))
theorem Abz:Ah Tryz.prog 145 1=some (Aci,[2]):=by kernel_rfl
def Aby:Ag:=
 .seq (.reg [Rq 2 (.mv (.const (.bool false)))]) (.seq (.reg [Mq 3 0,Cq 4 88 ([3]),Rq 5 (.not 4),Mq 2 5]) (.ret))
theorem Zt:Ah Tryz.prog 146 1=some (Aby,[2]):=by kernel_rfl
def S9:Ag:=
 .seq (.reg [Mq 6 1,Rq 7 (.len false 6),Nq 8 0]) (.block 0 (.loop (.seq (.reg [Bq 9 .lss 8 7]) (.seq (.cond 9 (.skip) (.exit 0)) (.seq (.block 1 (.seq (.reg [Iq 10 1 6 8,Lq 11 10,Mq 5 11]) (.seq (.reg [Mq 12 0,Fq 13 0 12,Fq 14 0 13,Mq 15 5,Rq 16 (.bin .shr 15 (.const (.int .u64 8))),Rq 17 (.conv .u8 16),Cq 18 206 ([14,17])]) (.reg [Mq 19 0,Fq 20 0 19,Fq 21 0 20,Mq 22 5,Rq 23 (.conv .u8 22),Cq 24 206 ([21,23])])))) (.reg [Bq 25 .add 8 (Kq 1),Mq 8 25]))))))
theorem Tl:Ah Tryz.prog 147 2=some (S9,[]):=by kernel_rfl
def S2:Ag:=
 .seq (.seq (.reg [Mq 6 1,Cq 7 145 ([6]),Rq 8 (.len false 7),Nq 9 0]) (.block 0 (.loop (.seq (.reg [Bq 10 .lss 9 8]) (.seq (.cond 10 (.skip) (.exit 0)) (.seq (.block 1 (.seq (.reg [Iq 11 1 7 9,Lq 12 11,Mq 5 12]) (.seq (.reg [Mq 13 0,Fq 14 0 13,Fq 15 0 14,Mq 16 5,Rq 17 (.len true 16),Rq 18 (.conv .u8 17),Cq 19 206 ([15,18])]) (.reg [Mq 20 0,Fq 21 0 20,Fq 22 0 21,Mq 23 5,Cq 24 205 ([22,23])])))) (.reg [Bq 25 .add 9 (Kq 1),Mq 9 25]))))))) (.reg [Mq 26 0,Fq 27 0 26,Fq 28 0 27,Cq 29 206 ([28,(.const (.int .u8 0))])])
theorem Sc:Ah Tryz.prog 148 2=some (S2,[]):=by kernel_rfl
def Pn:Ag:=
 .seq (.reg [Rq 3 (.box 51 7 1)]) (.seq (.reg [Mq 5 0,Fq 6 0 3,Lq 7 6,Cq 8 148 ([5,7])]) (.seq (.reg [Mq 9 0,Fq 10 1 3,Lq 11 10,Fq 12 2 3,Lq 13 12,Rq 14 (.bin .shr 13 (.const (.int .u64 16))),Fq 15 2 3,Lq 16 15,Bq 17 .and 16 (Kq 65535),Rq 18 (.mks 3 1 4 [(.int .i64 0)] [(0,11),(1,(Kq 1)),(2,14),(3,17)]),Cq 19 147 ([9,18])]) (.seq (.reg [Rq 20 (.build [(.pointer none),(.slice none 0 0)] []),Rq 21 (.box 203 2 20),Mq 4 21]) (.seq (.seq (.reg [Fq 22 1 3,Lq 23 22]) (.block 0 (.seq (.reg [Bq 25 .eql 23 (Kq 1),Mq 24 25]) (.cond 24 (.reg [Mq 26 4,Fq 27 3 3,Lq 28 27,Rq 29 (.bin .shr 28 (.const (.int .u64 16))),Fq 30 3 3,Lq 31 30,Bq 32 .and 31 (Kq 65535),Rq 33 (.mks 3 1 2 [(.int .i64 0)] [(0,29),(1,32)]),Cq 34 147 ([26,33])]) (.seq (.reg [Bq 36 .eql 23 (Kq 16),Mq 35 36]) (.cond 35 (.seq (.dreg [[Mq 37 4,Fq 38 0 37,Fq 39 0 38,Fq 40 4 3,Lq 41 40,Rq 42 (.len true 41),Rq 43 (.conv .u8 42)],[Cq 44 206 ([39,43])]]) (.dreg [[Mq 45 4,Fq 46 0 45,Fq 47 0 46,Fq 48 4 3,Lq 49 48],[Cq 50 205 ([47,49])]])) (.seq (.reg [Bq 52 .eql 23 (Kq 33),Mq 51 52]) (.cond 51 (.seq (.reg [Mq 53 4,Fq 54 5 3,Lq 55 54,Rq 56 (.mks 3 1 3 [(.int .i64 0)] [(0,(Kq 0)),(1,(Kq 0)),(2,55)]),Cq 57 147 ([53,56])]) (.reg [Mq 58 4,Fq 59 6 3,Lq 60 59,Cq 61 148 ([58,60])])) (.skip))))))))) (.seq (.reg [Mq 62 0,Mq 63 4,Fq 64 0 63,Fq 65 0 64,Cq 66 207 ([65]),Rq 67 (.mks 3 1 1 [(.int .i64 0)] [(0,66)]),Cq 68 147 ([62,67])]) (.dreg [[],[Cq 75 150 ([74]),Rq 70 (.mkm),Rq 71 (.mkm)],[Mq 69 0,Fq 70 0 69,Fq 71 0 70,Mq 72 4,Fq 73 0 72,Fq 74 0 73],[Cq 76 205 ([71,75])]]))))))
theorem Fw:Ah Tryz.prog 149 2=some (Pn,[]):=by kernel_rfl
def P6:Ag:=
 .seq (.reg [Rq 2 (.mv (.const (.slice none 0 0))),Nq 3 0,Nq 4 0]) (.seq (.dreg [[Mq 8 0,Fq 9 0 8,Fq 10 7 9,Lq 11 10,Mq 12 0,Fq 13 0 12,Fq 14 0 13,Fq 15 2 14,Lq 16 15],[Cq 17 89 ([11,16])],[Mq 7 17],[Eq1 18 7 0,Eq1 19 7 1,Mq 5 18],[Mq 6 19]]) (.seq (.seq (.reg [Mq 20 6,Rq 21 (.not 20),Mq 22 21,Hq 23 22 false 0,Hq 24 22 false 0,Gq 25 22 false (.fldA 0 24),Gq 26 22 false (.fldA 0 25),Gq 27 22 false (.fldA 2 26),Gq 28 22 false (.load false 1 27),Gq 29 22 false (.call (.func 208) [23,28]),Rq 30 (.pick 22 (.const (.bool true)) 29)]) (.cond 30 (.seq (.reg [Rq 2 (.mv (.const (.slice none 0 0))),Nq 3 3,Nq 4 0]) (.ret)) (.skip))) (.seq (.seq (.reg [Mq 31 0,Fq 32 0 31,Fq 33 4 32,Lq 34 33,Bq 35 .neq 34 (Kq 1)]) (.cond 35 (.seq (.reg [Rq 2 (.mv (.const (.slice none 0 0))),Nq 3 0,Nq 4 0]) (.ret)) (.skip))) (.seq (.dreg [[Mq 36 0,Fq 37 0 36,Fq 38 14 37,Lq 39 38,Mq 40 0,Fq 41 0 40,Fq 42 4 41,Lq 43 42,Mq 44 0,Fq 45 0 44,Fq 46 7 45,Lq 47 46,Mq 48 5,Iq 49 5 47 48,Fq 50 3 49,Lq 51 50],[Rq 52 (.build zq4 [(0,1,39),(1,1,43),(3,1,51)])],[Rq 53 (.mks 51 7 1 zq4 [(0,52)])],[Mq 2 53],[Nq 3 0],[Nq 4 0]]) (.ret)))))
theorem Pv:Ah Tryz.prog 151 1=some (P6,[2,3,4]):=by kernel_rfl
def Nt:Ag:=
 .seq (.reg [Rq 2 (.mv (.const (.slice none 0 0))),Nq 3 0,Nq 4 0]) (.seq (.reg [Rq 5 (.mv (.const (.slice none 0 0)))]) (.seq (.seq (.reg [Mq 12 0,Cq 13 209 ([12]),Rq 14 (.len false 13),Nq 15 0]) (.block 0 (.loop (.seq (.reg [Bq 16 .lss 15 14]) (.seq (.cond 16 (.skip) (.exit 0)) (.seq (.block 1 (.seq (.reg [Iq 17 9 13 15,Rq 18 (.load true 9 17),Rq 7 (.zbox 77 zq5),Sq 9 7 18]) (.seq (.reg [Mq 20 0,Rq 21 (.load true 9 7),Cq 22 210 ([20,21]),Mq 19 22,Eq1 23 19 0,Eq1 24 19 1,Rq 8 (.zbox 51 zq4),Sq 7 8 23,Mq 9 24]) (.seq (.seq (.reg [Mq 25 9,Bq 26 .neq 25 (Kq 0)]) (.cond 26 (.seq (.reg [Mq 27 9,Rq 2 (.mv (.const (.slice none 0 0))),Nq 3 0,Mq 4 27]) (.ret)) (.skip))) (.reg [Mq 28 5,Rq 29 (.load true 7 8),Rq 30 (.mks 51 7 1 zq4 [(0,29)]),Rq 31 (.app 51 7 80 (.agg #[(.string ⟨#[]⟩),(.int .i64 0),(.int .i64 0),(.int .i64 0),(.string ⟨#[]⟩),(.int .i64 0),(.string ⟨#[]⟩)]) 28 30),Mq 5 31]))))) (.reg [Bq 32 .add 15 (Kq 1),Mq 15 32]))))))) (.seq (.seq (.dreg [[Mq 34 0,Fq 35 0 34,Fq 36 6 35,Lq 37 36,Mq 38 0,Fq 39 0 38,Fq 40 0 39,Fq 41 0 40,Lq 42 41],[Cq 43 211 ([37,42,(.const (.string ⟨#[]⟩))])],[Mq 33 43],[Eq1 44 33 0,Eq1 45 33 1,Mq 10 44],[Mq 11 45]]) (.seq (.reg [Mq 46 10,Rq 47 (.len false 46),Bq 48 .eql 47 (Kq 0)]) (.cond 48 (.seq (.reg [Rq 2 (.mv (.const (.slice none 0 0))),Nq 3 3,Nq 4 0]) (.ret)) (.skip)))) (.seq (.reg [Mq 49 5,Mq 2 49,Nq 3 0,Nq 4 0]) (.ret)))))
theorem M8:Ah Tryz.prog 152 1=some (Nt,[2,3,4]):=by kernel_rfl
def Yi:Ag:=
 .seq (.reg [Nq 2 0]) (.seq (.reg [Mq 3 0,Rq 4 (.mks 22 1 1 [(.slice none 0 0)] [(0,3)]),Cq 5 38 ([4]),Mq 2 5]) (.ret))
theorem E2:Ah Tryz.prog 153 1=some (Yi,[2]):=by kernel_rfl
def Vh:Ag:=
 .seq (.reg [Nq 2 0]) (.seq (.reg [Mq 3 0,Rq 4 (.mks 53 1 1 [(.slice none 0 0)] [(0,3)]),Cq 5 159 ([4]),Mq 2 5]) (.ret))
theorem Mv:Ah Tryz.prog 154 1=some (Vh,[2]):=by kernel_rfl
def Xz:Ag:=
 .seq (.reg [Nq 2 0]) (.seq (.reg [Mq 3 0,Rq 4 (.mks 54 1 1 [(.slice none 0 0)] [(0,3)]),Cq 5 167 ([4]),Mq 2 5]) (.ret))
theorem Ox:Ah Tryz.prog 155 1=some (Xz,[2]):=by kernel_rfl
def Aa7:Ag:=
 .seq (.reg [Rq 1 (.box 56 5 0),Nq 2 0]) (.seq (.reg [Rq 3 (.mv (.func 212))]) (.seq (.seq (.reg [Mq 4 3,Fq 5 0 1,Lq 6 5,Rq 7 (.call 4 [6]),Rq 8 (.not 7),Mq 9 8,Hq 10 9 false 3,Gq 11 9 false (.fldA 1 1),Gq 12 9 false (.load false 1 11),Gq 13 9 false (.call 10 [12]),Gq 14 9 false (.not 13),Rq 15 (.pick 9 (.const (.bool true)) 14),Mq 16 15,Hq 17 16 false 3,Gq 18 16 false (.fldA 2 1),Gq 19 16 false (.load false 1 18),Gq 20 16 false (.call 17 [19]),Gq 21 16 false (.not 20),Rq 22 (.pick 16 (.const (.bool true)) 21),Mq 23 22,Gq 24 23 false (.fldA 3 1),Gq 25 23 false (.load false 1 24),Gq 26 23 false (.call (.func 213) [25,(Kq 0),(Kq 1000000)]),Gq 27 23 false (.not 26),Rq 28 (.pick 23 (.const (.bool true)) 27),Mq 29 28,Gq 30 29 false (.fldA 4 1),Gq 31 29 false (.load false 1 30),Gq 32 29 false (.call (.func 213) [31,(Kq 0),(Kq 1000)]),Gq 33 29 false (.not 32),Rq 34 (.pick 29 (.const (.bool true)) 33)]) (.cond 34 (.seq (.reg [Nq 2 3]) (.ret)) (.skip))) (.seq (.reg [Nq 2 0]) (.ret))))
theorem P0:Ah Tryz.prog 156 1=some (Aa7,[2]):=by kernel_rfl
def Wi:Ag:=
 .seq (.reg [Nq 2 0]) (.seq (.seq (.reg [Mq 9 0,Rq 10 (.len false 9),Nq 11 0]) (.block 0 (.loop (.seq (.reg [Bq 12 .lss 11 10]) (.seq (.cond 12 (.skip) (.exit 0)) (.seq (.block 1 (.seq (.reg [Iq 13 1 9 11,Lq 14 13,Mq 4 14]) (.seq (.seq (.reg [Mq 15 4,Rq 16 (.len false 15),Bq 17 .gtr 16 (Kq 40)]) (.cond 17 (.seq (.reg [Nq 2 2]) (.ret)) (.skip))) (.seq (.seq (.reg [Mq 18 4,Rq 19 (.len false 18),Nq 20 0]) (.block 2 (.loop (.seq (.reg [Bq 21 .lss 20 19]) (.seq (.cond 21 (.skip) (.exit 2)) (.seq (.block 3 (.seq (.reg [Iq 22 9 18 20,Rq 23 (.load true 9 22),Rq 6 (.zbox 77 zq5),Sq 9 6 23]) (.seq (.reg [Rq 24 (.load true 9 6),Cq 25 160 ([24]),Mq 7 25]) (.seq (.reg [Mq 26 7,Bq 27 .neq 26 (Kq 0)]) (.cond 27 (.seq (.reg [Mq 28 7,Mq 2 28]) (.ret)) (.skip)))))) (.reg [Bq 29 .add 20 (Kq 1),Mq 20 29]))))))) (.seq (.reg [Nq 8 1]) (.block 4 (.loop (.seq (.seq (.reg [Mq 30 8,Mq 31 4,Rq 32 (.len false 31),Bq 33 .lss 30 32]) (.cond 33 (.skip) (.exit 4))) (.seq (.block 5 (.seq (.dreg [[Mq 36 4,Mq 37 8,Bq 38 .sub 37 (Kq 1),Iq 39 9 36 38,Rq 40 (.load true 9 39),Mq 41 4,Mq 42 8,Iq 43 9 41 42,Rq 44 (.load true 9 43)],[Cq 45 214 ([40,44])],[Bq 46 .geq 45 (Kq 0)]]) (.cond 46 (.seq (.reg [Nq 2 4]) (.ret)) (.skip)))) (.reg [Mq 34 8,Bq 35 .add 34 (Kq 1),Mq 8 35])))))))))) (.reg [Bq 47 .add 11 (Kq 1),Mq 11 47]))))))) (.seq (.reg [Nq 2 0]) (.ret)))
theorem Im:Ah Tryz.prog 159 1=some (Wi,[2]):=by kernel_rfl
def Abd:Ag:=
 .seq (.reg [Rq 1 (.box 77 9 0),Nq 2 0]) (.seq (.block 0 (.seq (.reg [Fq 4 0 1,Lq 5 4,Cq 6 88 ([5]),Rq 7 (.not 6),Mq 8 7,Gq 9 8 false (.fldA 1 1),Gq 10 8 false (.load false 1 9),Gq 11 8 false (.call (.func 88) [10]),Gq 12 8 false (.not 11),Rq 13 (.pick 8 (.const (.bool true)) 12),Mq 14 13,Gq 15 14 false (.fldA 2 1),Gq 16 14 false (.load false 1 15),Gq 17 14 false (.call (.func 88) [16]),Gq 18 14 false (.not 17),Rq 19 (.pick 14 (.const (.bool true)) 18),Mq 20 19,Gq 21 20 false (.fldA 3 1),Gq 22 20 false (.load false 1 21),Gq 23 20 false (.call (.func 215) [22]),Gq 24 20 false (.not 23),Rq 25 (.pick 20 (.const (.bool true)) 24),Mq 3 25]) (.cond 3 (.seq (.reg [Nq 2 1]) (.ret)) (.seq (.reg [Fq 27 4 1,Lq 28 27,Cq 29 216 ([28,(Kq 0),(Kq 4294967295)]),Rq 30 (.not 29),Mq 31 30,Gq 32 31 false (.fldA 5 1),Gq 33 31 false (.load false 1 32),Gq 34 31 false (.call (.func 216) [33,(Kq 0),(Kq 65535)]),Gq 35 31 false (.not 34),Rq 36 (.pick 31 (.const (.bool true)) 35),Mq 37 36,Gq 38 37 false (.fldA 7 1),Gq 39 37 false (.load false 1 38),Gq 40 37 false (.call (.func 216) [39,(Kq 1),(Kq 1000000)]),Gq 41 37 false (.not 40),Rq 42 (.pick 37 (.const (.bool true)) 41),Mq 26 42]) (.cond 26 (.seq (.reg [Nq 2 3]) (.ret)) (.skip)))))) (.seq (.reg [Nq 2 0]) (.ret)))
theorem Z6:Ah Tryz.prog 160 1=some (Abd,[2]):=by kernel_rfl
def Ye:Ag:=
 .seq (.reg [Nq 2 0]) (.seq (.seq (.reg [Mq 9 0,Rq 10 (.len false 9),Nq 11 0]) (.block 0 (.loop (.seq (.reg [Bq 12 .lss 11 10]) (.seq (.cond 12 (.skip) (.exit 0)) (.seq (.block 1 (.seq (.reg [Iq 13 1 9 11,Lq 14 13,Mq 4 14]) (.seq (.seq (.reg [Mq 15 4,Rq 16 (.len false 15),Bq 17 .gtr 16 (Kq 6)]) (.cond 17 (.seq (.reg [Nq 2 2]) (.ret)) (.skip))) (.seq (.seq (.reg [Mq 18 4,Rq 19 (.len false 18),Nq 20 0]) (.block 2 (.loop (.seq (.reg [Bq 21 .lss 20 19]) (.seq (.cond 21 (.skip) (.exit 2)) (.seq (.block 3 (.seq (.reg [Iq 22 3 18 20,Rq 23 (.load true 3 22),Rq 6 (.zbox 74 [(.string ⟨#[]⟩),(.int .i64 0),(.int .i64 0)]),Sq 3 6 23]) (.seq (.reg [Rq 24 (.load true 3 6),Cq 25 221 ([24]),Mq 7 25]) (.seq (.reg [Mq 26 7,Bq 27 .neq 26 (Kq 0)]) (.cond 27 (.seq (.reg [Mq 28 7,Mq 2 28]) (.ret)) (.skip)))))) (.reg [Bq 29 .add 20 (Kq 1),Mq 20 29]))))))) (.seq (.reg [Nq 8 1]) (.block 4 (.loop (.seq (.seq (.reg [Mq 30 8,Mq 31 4,Rq 32 (.len false 31),Bq 33 .lss 30 32]) (.cond 33 (.skip) (.exit 4))) (.seq (.block 5 (.seq (.dreg [[Mq 36 4,Mq 37 8,Iq 38 3 36 37,Fq 39 0 38,Lq 40 39,Mq 41 4,Mq 42 8,Bq 43 .sub 42 (Kq 1),Iq 44 3 41 43,Fq 45 0 44,Lq 46 45],[Bq 47 .leq 40 46]]) (.cond 47 (.seq (.reg [Nq 2 4]) (.ret)) (.skip)))) (.reg [Mq 34 8,Bq 35 .add 34 (Kq 1),Mq 8 35])))))))))) (.reg [Bq 48 .add 11 (Kq 1),Mq 11 48]))))))) (.seq (.reg [Nq 2 0]) (.ret)))
theorem Jq:Ah Tryz.prog 167 1=some (Ye,[2]):=by kernel_rfl
def Aag:Ag:=
 .seq (.reg [Nq 4 0,Rq 5 (.mv (.const (.bool false)))]) (.seq (.reg [Mq 6 0,Mq 7 1,Cq 8 222 ([6,7,(.func 223)]),Eq1 9 8 0,Eq1 10 8 1,Mq 4 9,Mq 5 10]) (.ret))
theorem Aaw:Ah Tryz.prog 168 2=some (Aag,[4,5]):=by kernel_rfl
def Dh:Ag:=
 .seq (.reg [Nq 6 0,Rq 7 (.mv (.const (.bool false)))]) (.seq (.reg [Mq 12 0,Rq 13 (.len false 12),Mq 8 13]) (.seq (.reg [Mq 14 8,Nq 9 0,Mq 10 14]) (.seq (.block 0 (.loop (.seq (.seq (.reg [Mq 15 9,Mq 16 10,Bq 17 .lss 15 16]) (.cond 17 (.skip) (.exit 0))) (.block 1 (.seq (.reg [Mq 18 9,Mq 19 10,Bq 20 .add 18 19,Rq 21 (.conv .u64 20),Rq 22 (.bin .shr 21 (.const (.int .u64 1))),Rq 23 (.conv .i64 22),Mq 11 23]) (.seq (.reg [Mq 24 2,Mq 25 0,Mq 26 11,Iq 27 5 25 26,Rq 28 (.load true 5 27),Mq 29 1,Rq 30 (.call 24 [28,29]),Bq 31 .lss 30 (Kq 0)]) (.cond 31 (.reg [Mq 32 11,Bq 33 .add 32 (Kq 1),Mq 9 33]) (.reg [Mq 34 11,Mq 10 34])))))))) (.seq (.reg [Mq 35 9,Mq 36 9,Mq 37 8,Bq 38 .lss 36 37,Mq 39 38,Hq 40 39 true 2,Hq 41 39 true 0,Hq 42 39 true 9,Gq 43 39 true (.idxA 5 41 42),Gq 44 39 true (.load true 5 43),Hq 45 39 true 1,Gq 46 39 true (.call 40 [44,45]),Gq 47 39 true (.bin .eql 46 (Kq 0)),Rq 48 (.pick 39 47 (.const (.bool false))),Mq 6 35,Mq 7 48]) (.ret)))))
theorem Af:Ah Tryz.prog 174 3=some (Dh,[6,7]):=by kernel_rfl
def Wm:Ag:=
 .seq (.reg [Rq 2 (.box 24 5 0),Nq 4 0]) (.seq (.reg [Fq 5 0 2,Lq 6 5,Mq 7 1,Cq 8 136 ([6,7]),Mq 4 8]) (.ret))
theorem Ap:Ah Tryz.prog 175 2=some (Wm,[4]):=by kernel_rfl
def Wa:Ag:=
 .seq (.reg [Nq 2 0]) (.seq (.seq (.reg [Mq 3 0]) (.cond 3 (.seq (.reg [Nq 2 1]) (.ret)) (.skip))) (.seq (.reg [Nq 2 0]) (.ret)))
theorem Vg:Ah Tryz.prog 176 1=some (Wa,[2]):=by kernel_rfl
def Hh:Ag:=
 .seq (.reg [Mq 10 1,Bq 11 .add 10 (Kq 1),Mq 8 11]) (.block 0 (.loop (.seq (.seq (.reg [Mq 12 8,Mq 13 2,Bq 14 .lss 12 13]) (.cond 14 (.skip) (.exit 0))) (.seq (.block 1 (.seq (.reg [Mq 17 8,Mq 9 17]) (.block 2 (.loop (.seq (.seq (.dreg [[Mq 18 9,Mq 19 1],[Bq 20 .gtr 18 19],[Mq 21 20],[Hq 22 21 true 3,Hq 23 21 true 0,Hq 24 21 true 9,Gq 25 21 true (.idxA 1 23 24),Gq 26 21 true (.load false 1 25),Hq 27 21 true 0,Hq 28 21 true 9,Gq 29 21 true (.bin .sub 28 (Kq 1)),Gq 30 21 true (.idxA 1 27 29),Gq 31 21 true (.load false 1 30)],[Gq 32 21 true (.call 22 [26,31])],[Gq 33 21 true (.bin .lss 32 (Kq 0))],[Rq 34 (.pick 21 33 (.const (.bool false)))]]) (.cond 34 (.skip) (.exit 2))) (.seq (.block 3 (.dreg [[],[Rq 39 (.mkm),Rq 40 (.mkm),Rq 41 (.mkm)],[Mq 37 0,Mq 38 9,Mq 39 0,Mq 40 9,Bq 41 .sub 40 (Kq 1),Mq 42 0,Mq 43 9,Bq 44 .sub 43 (Kq 1),Iq 45 1 42 44,Lq 46 45,Mq 47 0,Mq 48 9,Iq 49 1 47 48,Lq 50 49,Iq 51 1 37 38,Sq 1 51 46],[Iq 52 1 39 41],[Sq 1 52 50]])) (.reg [Mq 35 9,Bq 36 .sub 35 (Kq 1),Mq 9 36]))))))) (.reg [Mq 15 8,Bq 16 .add 15 (Kq 1),Mq 8 16])))))
theorem G9:Ah Tryz.prog 179 4=some (Hh,[]):=by kernel_rfl
def Sa:Ag:=
 .seq (.reg [Nq 2 0]) (.seq (.seq (.reg [Mq 3 0,Rq 4 (.bin .geq 3 (.const (.int .u64 4294967296)))]) (.cond 4 (.seq (.reg [Mq 5 0,Rq 6 (.bin .shr 5 (.const (.int .u64 32))),Mq 0 6]) (.reg [Nq 2 32])) (.skip))) (.seq (.seq (.reg [Mq 7 0,Rq 8 (.bin .geq 7 (.const (.int .u64 65536)))]) (.cond 8 (.seq (.reg [Mq 9 0,Rq 10 (.bin .shr 9 (.const (.int .u64 16))),Mq 0 10]) (.reg [Mq 11 2,Bq 12 .add 11 (Kq 16),Mq 2 12])) (.skip))) (.seq (.seq (.reg [Mq 13 0,Rq 14 (.bin .geq 13 (.const (.int .u64 256)))]) (.cond 14 (.seq (.reg [Mq 15 0,Rq 16 (.bin .shr 15 (.const (.int .u64 8))),Mq 0 16]) (.reg [Mq 17 2,Bq 18 .add 17 (Kq 8),Mq 2 18])) (.skip))) (.seq (.reg [Mq 19 2,Mq 20 0,Rq 21 (.conv .u8 20),Rq 22 (.idxS (.const (.string ⟨#[0,1,2,2,3,3,3,3,4,4,4,4,4,4,4,4,5,5,5,5,5,5,5,5,5,5,5,5,5,5,5,5,6,6,6,6,6,6,6,6,6,6,6,6,6,6,6,6,6,6,6,6,6,6,6,6,6,6,6,6,6,6,6,6,7,7,7,7,7,7,7,7,7,7,7,7,7,7,7,7,7,7,7,7,7,7,7,7,7,7,7,7,7,7,7,7,7,7,7,7,7,7,7,7,7,7,7,7,7,7,7,7,7,7,7,7,7,7,7,7,7,7,7,7,7,7,7,7,8,8,8,8,8,8,8,8,8,8,8,8,8,8,8,8,8,8,8,8,8,8,8,8,8,8,8,8,8,8,8,8,8,8,8,8,8,8,8,8,8,8,8,8,8,8,8,8,8,8,8,8,8,8,8,8,8,8,8,8,8,8,8,8,8,8,8,8,8,8,8,8,8,8,8,8,8,8,8,8,8,8,8,8,8,8,8,8,8,8,8,8,8,8,8,8,8,8,8,8,8,8,8,8,8,8,8,8,8,8,8,8,8,8,8,8,8,8,8,8,8,8,8,8,8,8,8,8]⟩)) 21),Rq 23 (.conv .i64 22),Bq 24 .add 19 23,Mq 2 24]) (.ret)))))
theorem Kz:Ah Tryz.prog 188 1=some (Sa,[2]):=by kernel_rfl
def Rc:Ag:=
 .seq (.reg [Rq 4 (.mv (.const (.string ⟨#[]⟩)))]) (.seq (.dreg [[Mq 5 0,Mq 6 1,Mq 7 0,Fq 8 0 7,Fq 9 0 8,Lq 10 9,Rq 11 (.len true 10),Mq 12 0,Fq 13 0 12,Fq 14 1 13,Lq 15 14,Bq 16 .sub 11 15,Bq 17 .leq 6 16],[Cq 18 105 ([5,17])]]) (.seq (.reg [Mq 19 0,Fq 20 0 19,Fq 21 1 20,Lq 22 21,Mq 23 1,Bq 24 .add 22 23,Fq 25 0 19,Fq 26 1 25,Sq 1 26 24]) (.seq (.dreg [[Mq 27 0,Fq 28 0 27,Fq 29 0 28,Lq 30 29,Mq 31 0,Fq 32 0 31,Fq 33 1 32,Lq 34 33,Mq 35 1,Bq 36 .sub 34 35,Mq 37 0,Fq 38 0 37,Fq 39 1 38,Lq 40 39],[Rq 41 (.slcS 30 (some 36) (some 40))],[Mq 4 41]]) (.ret))))
theorem Js:Ah Tryz.prog 190 2=some (Rc,[4]):=by kernel_rfl
def R8:Ag:=
 .seq (.reg [Nq 2 0]) (.seq (.reg [Mq 3 0,Cq 4 103 ([3]),Rq 5 (.bin .shl 4 (.const (.int .u64 16))),Mq 6 0,Cq 7 103 ([6]),Bq 8 .or 5 7,Mq 2 8]) (.ret))
theorem K9:Ah Tryz.prog 191 1=some (R8,[2]):=by kernel_rfl
def K3:Ag:=
 .seq (.reg [Rq 4 (.mv (.const (.bool false)))]) (.seq (.reg [Mq 5 0,Mq 6 1,Cq 7 233 ([5,6]),Bq 8 .geq 7 (Kq 0),Mq 4 8]) (.ret))
theorem Ka:Ah Tryz.prog 192 2=some (K3,[4]):=by kernel_rfl
def Acs:Ag:=
 .seq (.reg [Rq 1 (.box 51 7 0),Rq 2 (.mv (.const (.bool false)))]) (.seq (.reg [Fq 3 1 1,Lq 4 3,Bq 5 .eql 4 (Kq 1),Mq 6 5,Gq 7 6 false (.fldA 3 1),Gq 8 6 false (.load false 1 7),Gq 9 6 false (.bin .eql 8 (Kq 0)),Rq 10 (.pick 6 (.const (.bool true)) 9),Mq 11 10,Gq 12 11 true (.fldA 1 1),Gq 13 11 true (.load false 1 12),Gq 14 11 true (.bin .eql 13 (Kq 16)),Hq 15 11 true 14,Gq 16 15 false (.fldA 4 1),Gq 17 15 false (.load false 1 16),Gq 18 15 false (.bin .eql 17 (.const (.string ⟨#[]⟩))),Gq 19 11 true (.pick 15 (.const (.bool true)) 18),Rq 20 (.pick 11 19 (.const (.bool false))),Mq 21 20,Gq 22 21 true (.fldA 1 1),Gq 23 21 true (.load false 1 22),Gq 24 21 true (.bin .eql 23 (Kq 33)),Hq 25 21 true 24,Gq 26 25 false (.fldA 5 1),Gq 27 25 false (.load false 1 26),Gq 28 25 false (.bin .eql 27 (Kq 0)),Hq 29 25 false 28,Gq 30 29 true (.fldA 6 1),Gq 31 29 true (.load false 1 30),Gq 32 29 true (.bin .eql 31 (.const (.string ⟨#[]⟩))),Gq 33 25 false (.pick 29 32 (.const (.bool false))),Gq 34 21 true (.pick 25 (.const (.bool true)) 33),Rq 35 (.pick 21 34 (.const (.bool false))),Mq 2 35]) (.ret))
theorem Ac1:Ah Tryz.prog 193 1=some (Acs,[2]):=by kernel_rfl
def Zc:Ag:=
 .seq (.reg [Nq 2 0]) (.seq (.reg [Rq 3 (.mkm),⟨none,none,.mupd (.int .i64) 3 (Kq 8) (Kq 4)⟩,Mq 4 3,Mq 5 0,Rq 6 (.mlook (.int .i64) false (.int .i64 0) 4 5),Mq 2 6]) (.ret))
theorem Ab8:Ah Tryz.prog 194 1=some (Zc,[2]):=by kernel_rfl
def Gz:Ag:=
 .seq (.reg [Rq 10 (.mv (.const (.bool true)))]) (.seq (.reg [Rq 11 (.mv (.const (.bool true)))]) (.block 0 (.loop (.block 1 (.seq (.reg [Mq 21 2,Mq 22 1,Bq 23 .sub 21 22,Mq 12 23]) (.seq (.seq (.reg [Mq 24 12,Bq 25 .leq 24 (Kq 12)]) (.cond 25 (.seq (.reg [Mq 26 0,Mq 27 1,Mq 28 2,Mq 29 4,Cq 30 237 ([26,27,28,29])]) (.ret)) (.skip))) (.seq (.seq (.reg [Mq 31 3,Bq 32 .eql 31 (Kq 0)]) (.cond 32 (.seq (.reg [Mq 33 0,Mq 34 1,Mq 35 2,Mq 36 4,Cq 37 238 ([33,34,35,36])]) (.ret)) (.skip))) (.seq (.seq (.reg [Mq 38 10,Rq 39 (.not 38)]) (.cond 39 (.seq (.reg [Mq 40 0,Mq 41 1,Mq 42 2,Mq 43 4,Cq 44 239 ([40,41,42,43])]) (.reg [Mq 45 3,Bq 46 .sub 45 (Kq 1),Mq 3 46])) (.skip))) (.seq (.reg [Mq 48 0,Mq 49 1,Mq 50 2,Mq 51 4,Cq 52 240 ([48,49,50,51]),Mq 47 52,Eq1 53 47 0,Eq1 54 47 1,Mq 13 53,Mq 14 54]) (.seq (.seq (.reg [Mq 55 14,Bq 56 .eql 55 (Kq 2)]) (.cond 56 (.seq (.reg [Mq 57 0,Mq 58 1,Mq 59 2,Mq 60 4,Cq 61 241 ([57,58,59,60])]) (.seq (.reg [Mq 62 2,Bq 63 .sub 62 (Kq 1),Mq 64 13,Mq 65 1,Bq 66 .sub 64 65,Bq 67 .sub 63 66,Mq 13 67]) (.reg [Nq 14 1]))) (.skip))) (.seq (.seq (.reg [Mq 68 10,Mq 69 68,Hq 70 69 true 11,Rq 71 (.pick 69 70 (.const (.bool false))),Mq 72 71,Hq 73 72 true 14,Gq 74 72 true (.bin .eql 73 (Kq 1)),Rq 75 (.pick 72 74 (.const (.bool false)))]) (.cond 75 (.seq (.reg [Mq 76 0,Mq 77 1,Mq 78 2,Mq 79 4,Cq 80 242 ([76,77,78,79])]) (.cond 80 (.ret) (.skip))) (.skip))) (.seq (.seq (.dreg [[Mq 81 1],[Bq 82 .gtr 81 (Kq 0)],[Mq 83 82],[Hq 84 83 true 4,Hq 85 83 true 0,Hq 86 83 true 1,Gq 87 83 true (.bin .sub 86 (Kq 1)),Gq 88 83 true (.idxA 5 85 87),Gq 89 83 true (.load true 5 88),Hq 90 83 true 0,Hq 91 83 true 13,Gq 92 83 true (.idxA 5 90 91),Gq 93 83 true (.load true 5 92)],[Gq 94 83 true (.call 84 [89,93])],[Gq 95 83 true (.bin .lss 94 (Kq 0))],[Gq 96 83 true (.not 95)],[Rq 97 (.pick 83 96 (.const (.bool false)))]]) (.cond 97 (.seq (.reg [Mq 98 0,Mq 99 1,Mq 100 2,Mq 101 13,Mq 102 4,Cq 103 243 ([98,99,100,101,102]),Mq 15 103]) (.seq (.reg [Mq 104 15,Mq 1 104]) (.exit 1))) (.skip))) (.seq (.reg [Mq 106 0,Mq 107 1,Mq 108 2,Mq 109 13,Mq 110 4,Cq 111 244 ([106,107,108,109,110]),Mq 105 111,Eq1 112 105 0,Eq1 113 105 1,Mq 16 112,Mq 17 113]) (.seq (.reg [Mq 114 17,Mq 11 114]) (.seq (.reg [Mq 115 16,Mq 116 1,Bq 117 .sub 115 116,Mq 118 2,Mq 119 16,Bq 120 .sub 118 119,Mq 18 117,Mq 19 120]) (.seq (.reg [Mq 121 12,Bq 122 .quo 121 (Kq 8),Mq 20 122]) (.seq (.reg [Mq 123 18,Mq 124 19,Bq 125 .lss 123 124]) (.cond 125 (.seq (.reg [Mq 126 18,Mq 127 20,Bq 128 .geq 126 127,Mq 10 128]) (.seq (.reg [Mq 129 0,Mq 130 1,Mq 131 16,Mq 132 3,Mq 133 4,Cq 134 199 ([129,130,131,132,133])]) (.reg [Mq 135 16,Bq 136 .add 135 (Kq 1),Mq 1 136]))) (.seq (.reg [Mq 137 19,Mq 138 20,Bq 139 .geq 137 138,Mq 10 139]) (.seq (.reg [Mq 140 0,Mq 141 16,Bq 142 .add 141 (Kq 1),Mq 143 2,Mq 144 3,Mq 145 4,Cq 146 199 ([140,142,143,144,145])]) (.reg [Mq 147 16,Mq 2 147])))))))))))))))))))))
theorem Gt:Ah Tryz.prog 199 5=some (Gz,[]):=by kernel_rfl
def Rb:Ag:=
 .seq (.reg [Rq 2 (.mv (.const (.bool false)))]) (.seq (.reg [Mq 3 0,Mq 4 0,Bq 5 .neq 3 4,Mq 2 5]) (.ret))
theorem Ab:Ah Tryz.prog 200 1=some (Rb,[2]):=by kernel_rfl
def Ra:Ag:=
 .seq (.reg [Rq 8 (.mv (.const (.slice none 0 0)))]) (.seq (.seq (.reg [Mq 12 3,Bq 13 .eql 12 (Kq 0)]) (.cond 13 (.seq (.reg [Rq 8 (.mv (.const (.slice none 0 0)))]) (.ret)) (.skip))) (.seq (.seq (.reg [Mq 14 1,Rq 15 (.bin .eql 14 (.const (.string ⟨#[]⟩)))]) (.cond 15 (.seq (.reg [Mq 16 0,Mq 17 3,Cq 18 245 ([16,17]),Mq 8 18]) (.ret)) (.skip))) (.seq (.seq (.reg [Mq 19 3,Bq 20 .lss 19 (Kq 0)]) (.cond 20 (.reg [Mq 21 0,Mq 22 1,Cq 23 246 ([21,22]),Bq 24 .add 23 (Kq 1),Mq 3 24]) (.skip))) (.seq (.reg [Mq 25 3,Mq 26 0,Rq 27 (.len true 26),Bq 28 .add 27 (Kq 1),Rq 29 (.mm false 25 28),Mq 3 29]) (.seq (.reg [Mq 30 3,Rq 31 (.mkn 9 1 16 [(.string ⟨#[]⟩)] 30 30),Mq 9 31]) (.seq (.reg [Mq 32 3,Bq 33 .sub 32 (Kq 1),Mq 3 33]) (.seq (.reg [Nq 10 0]) (.seq (.block 0 (.loop (.seq (.seq (.reg [Mq 34 10,Mq 35 3,Bq 36 .lss 34 35]) (.cond 36 (.skip) (.exit 0))) (.block 1 (.seq (.reg [Mq 37 0,Mq 38 1,Cq 39 247 ([37,38]),Mq 11 39]) (.seq (.seq (.reg [Mq 40 11,Bq 41 .lss 40 (Kq 0)]) (.cond 41 (.exit 0) (.skip))) (.seq (.reg [Mq 42 9,Mq 43 10,Mq 44 0,Mq 45 11,Mq 46 2,Bq 47 .add 45 46,Rq 48 (.slcS 44 none (some 47)),Iq 49 1 42 43,Sq 1 49 48]) (.seq (.reg [Mq 50 0,Mq 51 11,Mq 52 1,Rq 53 (.len true 52),Bq 54 .add 51 53,Rq 55 (.slcS 50 (some 54) none),Mq 0 55]) (.reg [Mq 56 10,Bq 57 .add 56 (Kq 1),Mq 10 57]))))))))) (.seq (.reg [Mq 58 9,Mq 59 10,Mq 60 0,Iq 61 1 58 59,Sq 1 61 60]) (.seq (.reg [Mq 62 9,Mq 63 10,Bq 64 .add 63 (Kq 1),Rq 65 (.slcL 1 62 none (some 64) none),Mq 8 65]) (.ret)))))))))))
theorem Q8:Ah Tryz.prog 201 4=some (Ra,[8]):=by kernel_rfl
def Hs:Ag:=
 .seq (.reg [Nq 4 0]) (.seq (.seq (.reg [Mq 6 0,Rq 7 (.len false 6),Nq 8 0]) (.block 0 (.loop (.seq (.reg [Bq 9 .lss 8 7]) (.seq (.cond 9 (.skip) (.exit 0)) (.seq (.block 1 (.seq (.reg [Mq 10 8,Mq 5 10]) (.seq (.reg [Mq 11 1,Mq 12 0,Mq 13 5,Iq 14 1 12 13,Lq 15 14,Rq 16 (.call 11 [15])]) (.cond 16 (.seq (.reg [Mq 17 5,Mq 4 17]) (.ret)) (.skip))))) (.reg [Bq 18 .add 8 (Kq 1),Mq 8 18]))))))) (.seq (.reg [Rq 4 (.mv (.const (.int .i64 (-1))))]) (.ret)))
theorem Ht:Ah Tryz.prog 202 2=some (Hs,[4]):=by kernel_rfl
def I7:Ag:=
 .seq (.reg [Nq 4 0]) (.seq (.seq (.reg [Mq 6 0,Rq 7 (.len false 6),Nq 8 0]) (.block 0 (.loop (.seq (.reg [Bq 9 .lss 8 7]) (.seq (.cond 9 (.skip) (.exit 0)) (.seq (.block 1 (.seq (.reg [Mq 10 8,Mq 5 10]) (.seq (.reg [Mq 11 1,Mq 12 0,Mq 13 5,Iq 14 1 12 13,Lq 15 14,Bq 16 .eql 11 15]) (.cond 16 (.seq (.reg [Mq 17 5,Mq 4 17]) (.ret)) (.skip))))) (.reg [Bq 18 .add 8 (Kq 1),Mq 8 18]))))))) (.seq (.reg [Rq 4 (.mv (.const (.int .i64 (-1))))]) (.ret)))
theorem Jk:Ah Tryz.prog 203 2=some (I7,[4]):=by kernel_rfl
def Pm:Ag:=
 .seq (.reg [Rq 4 (.mv (.const (.bool false)))]) (.seq (.reg [Mq 8 0,Fq 9 0 8,Fq 10 7 9,Lq 11 10,Mq 12 1,Cq 13 89 ([11,12]),Mq 7 13,Eq1 14 7 0,Eq1 15 7 1,Mq 5 14,Mq 6 15]) (.seq (.reg [Mq 16 6,Mq 17 16,Hq 18 17 true 0,Gq 19 17 true (.fldA 0 18),Gq 20 17 true (.fldA 7 19),Gq 21 17 true (.load false 1 20),Hq 22 17 true 5,Gq 23 17 true (.idxA 5 21 22),Gq 24 17 true (.fldA 1 23),Gq 25 17 true (.load false 1 24),Gq 26 17 true (.bin .geq 25 (Kq 3)),Rq 27 (.pick 17 26 (.const (.bool false))),Mq 4 27]) (.ret)))
theorem Po:Ah Tryz.prog 208 2=some (Pm,[4]):=by kernel_rfl
def O4:Ag:=
 .seq (.reg [Rq 1 (.box 207 1 0),Rq 2 (.mv (.const (.slice none 0 0)))]) (.seq (.dreg [[Lq 13 1,Fq 14 0 13,Fq 15 6 14,Lq 16 15,Lq 17 1,Fq 18 0 17,Fq 19 0 18,Fq 20 0 19,Lq 21 20,Lq 22 1,Fq 23 0 22,Fq 24 0 23,Fq 25 1 24,Lq 26 25],[Cq 27 211 ([16,21,26])],[Mq 12 27],[Eq1 28 12 0,Eq1 29 12 1,Mq 3 28],[Mq 4 29]]) (.seq (.reg [Mq 30 3,Rq 31 (.mkfn 251 [1]),Cq 32 250 ([30,31]),Mq 3 32]) (.seq (.reg [Rq 33 (.mkm),Mq 5 33]) (.seq (.reg [Rq 6 (.mv (.const (.slice none 0 0)))]) (.seq (.seq (.reg [Mq 34 3,Rq 35 (.len false 34),Nq 36 0]) (.block 0 (.loop (.seq (.reg [Bq 37 .lss 36 35]) (.seq (.cond 37 (.skip) (.exit 0)) (.seq (.block 1 (.seq (.reg [Iq 38 9 34 36,Rq 39 (.load true 9 38),Rq 8 (.zbox 77 zq5),Sq 9 8 39]) (.seq (.seq (.reg [Mq 40 5,Fq 41 0 8,Lq 42 41,Rq 43 (.mlook .string false (.slice none 0 0) 40 42),Rq 44 (.len false 43),Bq 45 .eql 44 (Kq 0)]) (.cond 45 (.reg [Mq 46 6,Fq 47 0 8,Lq 48 47,Rq 49 (.mks 9 1 1 [(.string ⟨#[]⟩)] [(0,48)]),Rq 50 (.app 9 1 16 (.string ⟨#[]⟩) 46 49),Mq 6 50]) (.skip))) (.dreg [[],[Rq 60 (.app 77 9 104 (.agg #[(.string ⟨#[]⟩),(.string ⟨#[]⟩),(.string ⟨#[]⟩),(.string ⟨#[]⟩),(.int .i64 0),(.int .i64 0),(.bool false),(.int .i64 0),(.bool false)]) 57 59),Rq 52 (.mkm),Rq 53 (.mkm)],[Mq 51 5,Fq 52 0 8,Lq 53 52,Mq 54 5,Fq 55 0 8,Lq 56 55,Rq 57 (.mlook .string false (.slice none 0 0) 54 56),Rq 58 (.load true 9 8),Rq 59 (.mks 77 9 1 zq5 [(0,58)])],[⟨none,none,.mupd .string 51 53 60⟩]])))) (.reg [Bq 61 .add 36 (Kq 1),Mq 36 61]))))))) (.seq (.dreg [[Lq 63 1,Fq 64 0 63,Fq 65 8 64,Rq 66 (.load true 5 65),Lq 67 1,Fq 68 0 67,Fq 69 13 68,Lq 70 69,Mq 71 6],[Cq 72 252 ([66,70,71])],[Mq 62 72],[Eq1 73 62 0,Eq1 74 62 1,Mq 6 73]]) (.seq (.reg [Rq 9 (.mv (.const (.slice none 0 0)))]) (.seq (.seq (.reg [Mq 75 6,Rq 76 (.len false 75),Nq 77 0]) (.block 2 (.loop (.seq (.reg [Bq 78 .lss 77 76]) (.seq (.cond 78 (.skip) (.exit 2)) (.seq (.block 3 (.seq (.reg [Iq 79 1 75 77,Lq 80 79,Mq 11 80]) (.reg [Mq 81 9,Mq 82 5,Mq 83 11,Rq 84 (.mlook .string false (.slice none 0 0) 82 83),Rq 85 (.app 77 9 104 (.agg #[(.string ⟨#[]⟩),(.string ⟨#[]⟩),(.string ⟨#[]⟩),(.string ⟨#[]⟩),(.int .i64 0),(.int .i64 0),(.bool false),(.int .i64 0),(.bool false)]) 81 84),Mq 9 85]))) (.reg [Bq 86 .add 77 (Kq 1),Mq 77 86]))))))) (.seq (.reg [Mq 87 9,Mq 88 9,Rq 89 (.len false 88),Rq 90 (.mm false 89 (Kq 20)),Rq 91 (.slcL 9 87 none (some 90) none),Mq 2 91]) (.ret))))))))))
theorem O3:Ah Tryz.prog 209 1=some (O4,[2]):=by kernel_rfl
def Oo:Ag:=
 .seq (.reg [Rq 3 (.box 77 9 1),Rq 4 (.zbox 51 zq4),Nq 5 0]) (.seq (.dreg [[Mq 9 0,Fq 10 0 9,Fq 11 14 10,Lq 12 11,Mq 13 0,Fq 14 0 13,Fq 15 4 14,Lq 16 15,Rq 17 (.build zq4 [(0,1,12),(1,1,16)]),Rq 6 (.zbox 51 zq4)],[Sq 7 6 17]]) (.seq (.seq (.reg [Mq 18 0,Fq 19 0 18,Fq 20 4 19,Lq 21 20]) (.block 0 (.seq (.reg [Bq 23 .eql 21 (Kq 1),Mq 22 23]) (.cond 22 (.reg [Fq 24 4 3,Lq 25 24,Fq 26 3 6,Sq 1 26 25]) (.seq (.reg [Bq 28 .eql 21 (Kq 16),Mq 27 28]) (.cond 27 (.reg [Fq 29 1 3,Lq 30 29,Fq 31 4 6,Sq 1 31 30]) (.seq (.reg [Bq 33 .eql 21 (Kq 33),Mq 32 33]) (.cond 32 (.seq (.dreg [[Fq 35 0 3,Lq 36 35,Mq 37 0,Fq 38 0 37,Fq 39 5 38,Lq 40 39],[Rq 41 (.build zq7 [(2,1,36),(3,1,40)])],[Cq 42 27 ([41])],[Mq 34 42],[Eq1 43 34 0,Eq1 44 34 1,Mq 7 43],[Mq 8 44]]) (.seq (.seq (.reg [Mq 45 8,Bq 46 .neq 45 (Kq 0)]) (.cond 46 (.seq (.reg [Rq 47 (.load true 7 6),Mq 48 8,Sq 7 4 47,Mq 5 48]) (.ret)) (.skip))) (.reg [Fq 49 5 3,Lq 50 49,Mq 51 7,Fq 52 5 6,Sq 1 52 50,Fq 53 6 6,Sq 1 53 51]))) (.skip))))))))) (.seq (.reg [Rq 54 (.load true 7 6),Sq 7 4 54,Nq 5 0]) (.ret))))
theorem Oe:Ce Tryz.prog 210 2=some (Oo,[(4,some (true,7)),(5,none)]):=by kernel_rfl
def X0:Ag:=
 .seq (.reg [Rq 6 (.mv (.const (.slice none 0 0))),Nq 7 0]) (.seq (.seq (.reg [Mq 12 0,Rq 13 (.mks 53 1 1 [(.slice none 0 0)] [(0,12)]),Cq 14 159 ([13]),Mq 8 14]) (.seq (.reg [Mq 15 8,Bq 16 .neq 15 (Kq 0)]) (.cond 16 (.seq (.reg [Mq 17 8,Rq 6 (.mv (.const (.slice none 0 0))),Mq 7 17]) (.ret)) (.skip)))) (.seq (.seq (.reg [Mq 18 1,Cq 19 88 ([18]),Rq 20 (.not 19),Mq 21 20,Hq 22 21 false 2,Gq 23 21 false (.call (.func 215) [22]),Gq 24 21 false (.not 23),Rq 25 (.pick 21 (.const (.bool true)) 24)]) (.cond 25 (.seq (.reg [Rq 6 (.mv (.const (.slice none 0 0))),Nq 7 1]) (.ret)) (.skip))) (.seq (.reg [Rq 9 (.mv (.const (.slice none 0 0)))]) (.seq (.seq (.reg [Mq 26 0,Rq 27 (.len false 26),Nq 28 0]) (.block 0 (.loop (.seq (.reg [Bq 29 .lss 28 27]) (.seq (.cond 29 (.skip) (.exit 0)) (.seq (.block 1 (.seq (.reg [Iq 30 9 26 28,Rq 31 (.load true 9 30),Rq 11 (.zbox 77 zq5),Sq 9 11 31]) (.seq (.reg [Fq 32 2 11,Lq 33 32,Mq 34 1,Bq 35 .eql 33 34,Mq 36 35,Hq 37 36 true 2,Gq 38 36 true (.bin .eql 37 (.const (.string ⟨#[]⟩))),Hq 39 36 true 38,Gq 40 39 false (.fldA 3 11),Gq 41 39 false (.load false 1 40),Hq 42 39 false 2,Gq 43 39 false (.bin .eql 41 42),Gq 44 36 true (.pick 39 (.const (.bool true)) 43),Rq 45 (.pick 36 44 (.const (.bool false))),Mq 46 45,Gq 47 46 true (.fldA 6 11),Gq 48 46 true (.load false 1 47),Rq 49 (.pick 46 48 (.const (.bool false))),Mq 50 49,Gq 51 50 true (.fldA 8 11),Gq 52 50 true (.load false 1 51),Gq 53 50 true (.not 52),Rq 54 (.pick 50 53 (.const (.bool false)))]) (.cond 54 (.reg [Mq 55 9,Rq 56 (.load true 9 11),Rq 57 (.mks 77 9 1 zq5 [(0,56)]),Rq 58 (.app 77 9 104 (.agg #[(.string ⟨#[]⟩),(.string ⟨#[]⟩),(.string ⟨#[]⟩),(.string ⟨#[]⟩),(.int .i64 0),(.int .i64 0),(.bool false),(.int .i64 0),(.bool false)]) 55 57),Mq 9 58]) (.skip))))) (.reg [Bq 59 .add 28 (Kq 1),Mq 28 59]))))))) (.seq (.reg [Mq 60 9,Mq 6 60,Nq 7 0]) (.ret))))))
theorem Oy:Ah Tryz.prog 211 3=some (X0,[6,7]):=by kernel_rfl
def U0:Ag:=
 .seq (.reg [Rq 2 (.mv (.const (.bool false)))]) (.seq (.reg [Mq 3 0,Cq 4 213 ([3,(.const (.int .i64 (-10000000))),(Kq 10000000)]),Mq 2 4]) (.ret))
theorem F8:Ah Tryz.prog 212 1=some (U0,[2]):=by kernel_rfl
def Yd:Ag:=
 .seq (.reg [Rq 6 (.mv (.const (.bool false)))]) (.seq (.reg [Mq 7 0,Mq 8 1,Bq 9 .geq 7 8,Mq 10 9,Hq 11 10 true 0,Hq 12 10 true 2,Gq 13 10 true (.bin .leq 11 12),Rq 14 (.pick 10 13 (.const (.bool false))),Mq 6 14]) (.ret))
theorem D6:Ah Tryz.prog 213 3=some (Yd,[6]):=by kernel_rfl
def Wj:Ag:=
 .seq (.reg [Rq 2 (.box 77 9 0),Rq 3 (.box 77 9 1),Nq 4 0]) (.seq (.dreg [[Fq 5 0 2,Lq 6 5,Fq 7 0 3,Lq 8 7,Cq 9 136 ([6,8]),Fq 10 1 2,Lq 11 10,Fq 12 1 3,Lq 13 12],[Cq 14 136 ([11,13])],[Rq 15 (.mks 3 1 2 [(.int .i64 0)] [(0,9),(1,14)])],[Cq 16 45 ([15])],[Mq 4 16]]) (.ret))
theorem U8:Ah Tryz.prog 214 2=some (Wj,[4]):=by kernel_rfl
def U2:Ag:=
 .seq (.reg [Rq 2 (.mv (.const (.bool false)))]) (.seq (.reg [Mq 3 0,Rq 4 (.bin .eql 3 (.const (.string ⟨#[]⟩))),Mq 5 4,Hq 6 5 false 0,Gq 7 5 false (.call (.func 88) [6]),Rq 8 (.pick 5 (.const (.bool true)) 7),Mq 2 8]) (.ret))
theorem Ve:Ah Tryz.prog 215 1=some (U2,[2]):=by kernel_rfl
def Tk:Ag:=
 .seq (.reg [Rq 6 (.mv (.const (.bool false)))]) (.seq (.reg [Mq 7 0,Mq 8 1,Bq 9 .geq 7 8,Mq 10 9,Hq 11 10 true 0,Hq 12 10 true 2,Gq 13 10 true (.bin .leq 11 12),Rq 14 (.pick 10 13 (.const (.bool false))),Mq 6 14]) (.ret))
theorem Tp:Ah Tryz.prog 216 3=some (Tk,[6]):=by kernel_rfl
def Ac4:Ag:=
 .seq (.reg [Rq 1 (.box 74 3 0),Nq 2 0]) (.seq (.block 0 (.seq (.reg [Fq 4 0 1,Lq 5 4,Cq 6 88 ([5]),Rq 7 (.not 6),Mq 3 7]) (.cond 3 (.seq (.reg [Nq 2 1]) (.ret)) (.seq (.reg [Fq 9 1 1,Lq 10 9,Cq 11 254 ([10,(Kq 0),(Kq 4294967295)]),Rq 12 (.not 11),Mq 13 12,Gq 14 13 false (.fldA 2 1),Gq 15 13 false (.load false 1 14),Gq 16 13 false (.call (.func 254) [15,(Kq 1),(Kq 1000000)]),Gq 17 13 false (.not 16),Rq 18 (.pick 13 (.const (.bool true)) 17),Mq 8 18]) (.cond 8 (.seq (.reg [Nq 2 3]) (.ret)) (.skip)))))) (.seq (.reg [Nq 2 0]) (.ret)))
theorem Acm:Ah Tryz.prog 221 1=some (Ac4,[2]):=by kernel_rfl
def C8:Ag:=
 .seq (.reg [Nq 6 0,Rq 7 (.mv (.const (.bool false)))]) (.seq (.reg [Mq 12 0,Rq 13 (.len false 12),Mq 8 13]) (.seq (.reg [Mq 14 8,Nq 9 0,Mq 10 14]) (.seq (.block 0 (.loop (.seq (.seq (.reg [Mq 15 9,Mq 16 10,Bq 17 .lss 15 16]) (.cond 17 (.skip) (.exit 0))) (.block 1 (.seq (.reg [Mq 18 9,Mq 19 10,Bq 20 .add 18 19,Rq 21 (.conv .u64 20),Rq 22 (.bin .shr 21 (.const (.int .u64 1))),Rq 23 (.conv .i64 22),Mq 11 23]) (.seq (.reg [Mq 24 2,Mq 25 0,Mq 26 11,Iq 27 3 25 26,Rq 28 (.load true 3 27),Mq 29 1,Rq 30 (.call 24 [28,29]),Bq 31 .lss 30 (Kq 0)]) (.cond 31 (.reg [Mq 32 11,Bq 33 .add 32 (Kq 1),Mq 9 33]) (.reg [Mq 34 11,Mq 10 34])))))))) (.seq (.reg [Mq 35 9,Mq 36 9,Mq 37 8,Bq 38 .lss 36 37,Mq 39 38,Hq 40 39 true 2,Hq 41 39 true 0,Hq 42 39 true 9,Gq 43 39 true (.idxA 3 41 42),Gq 44 39 true (.load true 3 43),Hq 45 39 true 1,Gq 46 39 true (.call 40 [44,45]),Gq 47 39 true (.bin .eql 46 (Kq 0)),Rq 48 (.pick 39 47 (.const (.bool false))),Mq 6 35,Mq 7 48]) (.ret)))))
theorem Db:Ah Tryz.prog 222 3=some (C8,[6,7]):=by kernel_rfl
def Vy:Ag:=
 .seq (.reg [Rq 2 (.box 74 3 0),Nq 4 0]) (.seq (.reg [Fq 5 0 2,Lq 6 5,Mq 7 1,Cq 8 136 ([6,7]),Mq 4 8]) (.ret))
theorem Va:Ah Tryz.prog 223 2=some (Vy,[4]):=by kernel_rfl
def Na:Ag:=
 .seq (.reg [Nq 4 0]) (.seq (.seq (.reg [Mq 6 0,Rq 7 (.len false 6),Nq 8 0]) (.block 0 (.loop (.seq (.reg [Bq 9 .lss 8 7]) (.seq (.cond 9 (.skip) (.exit 0)) (.seq (.block 1 (.seq (.reg [Mq 10 8,Mq 5 10]) (.seq (.reg [Mq 11 1,Mq 12 0,Mq 13 5,Iq 14 1 12 13,Lq 15 14,Bq 16 .eql 11 15]) (.cond 16 (.seq (.reg [Mq 17 5,Mq 4 17]) (.ret)) (.skip))))) (.reg [Bq 18 .add 8 (Kq 1),Mq 8 18]))))))) (.seq (.reg [Rq 4 (.mv (.const (.int .i64 (-1))))]) (.ret)))
theorem M3:Ah Tryz.prog 233 2=some (Na,[4]):=by kernel_rfl
def E3:Ag:=
 .seq (.reg [Mq 10 1,Bq 11 .add 10 (Kq 1),Mq 8 11]) (.block 0 (.loop (.seq (.seq (.reg [Mq 12 8,Mq 13 2,Bq 14 .lss 12 13]) (.cond 14 (.skip) (.exit 0))) (.seq (.block 1 (.seq (.reg [Mq 17 8,Mq 9 17]) (.block 2 (.loop (.seq (.seq (.dreg [[Mq 18 9,Mq 19 1],[Bq 20 .gtr 18 19],[Mq 21 20],[Hq 22 21 true 3,Hq 23 21 true 0,Hq 24 21 true 9,Gq 25 21 true (.idxA 5 23 24),Gq 26 21 true (.load true 5 25),Hq 27 21 true 0,Hq 28 21 true 9,Gq 29 21 true (.bin .sub 28 (Kq 1)),Gq 30 21 true (.idxA 5 27 29),Gq 31 21 true (.load true 5 30)],[Gq 32 21 true (.call 22 [26,31])],[Gq 33 21 true (.bin .lss 32 (Kq 0))],[Rq 34 (.pick 21 33 (.const (.bool false)))]]) (.cond 34 (.skip) (.exit 2))) (.seq (.block 3 (.dreg [[],[Rq 39 (.mkm),Rq 40 (.mkm),Rq 41 (.mkm)],[Mq 37 0,Mq 38 9,Mq 39 0,Mq 40 9,Bq 41 .sub 40 (Kq 1),Mq 42 0,Mq 43 9,Bq 44 .sub 43 (Kq 1),Iq 45 5 42 44,Rq 46 (.load true 5 45),Mq 47 0,Mq 48 9,Iq 49 5 47 48,Rq 50 (.load true 5 49),Iq 51 5 37 38,Sq 5 51 46],[Iq 52 5 39 41],[Sq 5 52 50]])) (.reg [Mq 35 9,Bq 36 .sub 35 (Kq 1),Mq 9 36]))))))) (.reg [Mq 15 8,Bq 16 .add 15 (Kq 1),Mq 8 16])))))
theorem E6:Ah Tryz.prog 237 4=some (E3,[]):=by kernel_rfl
def Ej:Ag:=
 .seq (.reg [Rq 4 (.mv (.const (.slice none 0 0)))]) (.seq (.reg [Mq 8 0,Mq 9 1,Cq 10 269 ([8,9]),Mq 5 10]) (.seq (.seq (.reg [Mq 11 5,Rq 12 (.bin .eql 11 (.const (.int .i64 (-1))))]) (.cond 12 (.seq (.reg [Mq 13 0,Mq 4 13]) (.ret)) (.skip))) (.seq (.seq (.reg [Mq 14 5,Bq 15 .add 14 (Kq 1),Mq 6 15]) (.block 0 (.loop (.seq (.seq (.reg [Mq 16 6,Mq 17 0,Rq 18 (.len false 17),Bq 19 .lss 16 18]) (.cond 19 (.skip) (.exit 0))) (.seq (.block 1 (.seq (.reg [Mq 22 0,Mq 23 6,Iq 24 9 22 23,Rq 25 (.load true 9 24),Rq 7 (.zbox 77 zq5),Sq 9 7 25]) (.seq (.reg [Mq 26 1,Rq 27 (.load true 9 7),Rq 28 (.call 26 [27]),Rq 29 (.not 28)]) (.cond 29 (.seq (.reg [Mq 30 0,Mq 31 5,Rq 32 (.load true 9 7),Iq 33 9 30 31,Sq 9 33 32]) (.reg [Mq 34 5,Bq 35 .add 34 (Kq 1),Mq 5 35])) (.skip))))) (.reg [Mq 20 6,Bq 21 .add 20 (Kq 1),Mq 6 21])))))) (.seq (.reg [Mq 36 0,Mq 37 5,Rq 38 (.slcL 9 36 (some 37) none none),⟨none,none,.clr 9 zq5 38⟩]) (.seq (.reg [Mq 39 0,Mq 40 5,Rq 41 (.slcL 9 39 none (some 40) none),Mq 4 41]) (.ret))))))
theorem Eh:Ah Tryz.prog 250 2=some (Ej,[4]):=by kernel_rfl
def Nn:Ag:=
 .seq (.reg [Rq 2 (.box 77 9 0),Rq 3 (.mv (.const (.bool false)))]) (.seq (.reg [Lq 4 1,Fq 5 0 2,Lq 6 5,Cq 7 208 ([4,6]),Mq 3 7]) (.ret))
theorem Nx:Ah Tryz.prog 251 2=some (Nn,[3]):=by kernel_rfl
def Acv:Ag:=
 .seq (.reg [Rq 3 (.box 56 5 0),Rq 6 (.mv (.const (.slice none 0 0))),Nq 7 0]) (.seq (.seq (.reg [Mq 16 1,Rq 17 (.len false 16),Bq 18 .gtr 17 (Kq 100),Mq 19 18,Hq 20 19 false 2,Gq 21 19 false (.len false 20),Gq 22 19 false (.bin .gtr 21 (Kq 100)),Rq 23 (.pick 19 (.const (.bool true)) 22)]) (.cond 23 (.seq (.reg [Rq 6 (.mv (.const (.slice none 0 0))),Nq 7 2]) (.ret)) (.skip))) (.seq (.seq (.reg [Rq 24 (.load true 5 3),Cq 25 156 ([24]),Mq 8 25]) (.seq (.reg [Mq 26 8,Bq 27 .neq 26 (Kq 0)]) (.cond 27 (.seq (.reg [Mq 28 8,Rq 6 (.mv (.const (.slice none 0 0))),Mq 7 28]) (.ret)) (.skip)))) (.seq (.reg [Rq 29 (.mkm),Rq 9 (.zbox 306 [(.map none)]),Sq 1 9 29]) (.seq (.seq (.reg [Mq 30 1,Rq 31 (.len false 30),Nq 32 0]) (.block 0 (.loop (.seq (.reg [Bq 33 .lss 32 31]) (.seq (.cond 33 (.skip) (.exit 0)) (.seq (.block 1 (.seq (.reg [Iq 34 6 30 32,Rq 35 (.load true 6 34),Rq 11 (.zbox 152 zq3),Sq 6 11 35]) (.seq (.seq (.reg [Fq 36 1 11,Rq 37 (.load true 5 36),Cq 38 156 ([37]),Mq 12 38]) (.seq (.reg [Mq 39 12,Bq 40 .neq 39 (Kq 0)]) (.cond 40 (.seq (.reg [Mq 41 12,Rq 6 (.mv (.const (.slice none 0 0))),Mq 7 41]) (.ret)) (.skip)))) (.seq (.reg [Lq 43 9,Fq 44 0 11,Lq 45 44,Rq 46 (.mlook .string true (.int .i64 0) 43 45),Mq 42 46,Eq1 47 42 0,Eq1 48 42 1,Mq 13 47,Mq 14 48]) (.seq (.reg [Mq 49 14,Rq 50 (.not 49)]) (.cond 50 (.dreg [[Lq 51 9,Fq 52 0 11,Lq 53 52,Rq 54 (.load true 5 3),Fq 55 1 11,Rq 56 (.load true 5 55),Cq 57 270 ([54,56])],[⟨none,none,.mupd .string 51 53 57⟩]]) (.skip))))))) (.reg [Bq 58 .add 32 (Kq 1),Mq 32 58]))))))) (.seq (.reg [Mq 59 2,Cq 60 271 ([59]),Mq 15 60]) (.seq (.reg [Mq 61 15,Rq 62 (.mkfn 273 [9]),Cq 63 272 ([61,62])]) (.seq (.reg [Mq 64 15,Mq 6 64,Nq 7 0]) (.ret))))))))
theorem Ack:Ah Tryz.prog 252 3=some (Acv,[6,7]):=by kernel_rfl
def Wv:Ag:=
 .seq (.reg [Rq 6 (.mv (.const (.bool false)))]) (.seq (.reg [Mq 7 0,Mq 8 1,Bq 9 .geq 7 8,Mq 10 9,Hq 11 10 true 0,Hq 12 10 true 2,Gq 13 10 true (.bin .leq 11 12),Rq 14 (.pick 10 13 (.const (.bool false))),Mq 6 14]) (.ret))
theorem Wx:Ah Tryz.prog 254 3=some (Wv,[6]):=by kernel_rfl
def Ek:Ag:=
 .seq (.reg [Nq 4 0]) (.seq (.seq (.reg [Mq 6 0,Rq 7 (.len false 6),Nq 8 0]) (.block 0 (.loop (.seq (.reg [Bq 9 .lss 8 7]) (.seq (.cond 9 (.skip) (.exit 0)) (.seq (.block 1 (.seq (.reg [Mq 10 8,Mq 5 10]) (.seq (.reg [Mq 11 1,Mq 12 0,Mq 13 5,Iq 14 9 12 13,Rq 15 (.load true 9 14),Rq 16 (.call 11 [15])]) (.cond 16 (.seq (.reg [Mq 17 5,Mq 4 17]) (.ret)) (.skip))))) (.reg [Bq 18 .add 8 (Kq 1),Mq 8 18]))))))) (.seq (.reg [Rq 4 (.mv (.const (.int .i64 (-1))))]) (.ret)))
theorem Em:Ah Tryz.prog 269 2=some (Ek,[4]):=by kernel_rfl
def X9:Ag:=
 .seq (.reg [Rq 2 (.box 56 5 0),Rq 3 (.box 56 5 1),Nq 4 0]) (.seq (.dreg [[Rq 5 (.load true 5 2),Rq 6 (.load true 5 3),Cq 7 283 ([5,6]),Fq 8 3 2,Lq 9 8,Bq 10 .add 7 9,Fq 11 3 3,Lq 12 11],[Bq 13 .add 10 12],[Mq 4 13]]) (.ret))
theorem X3:Ah Tryz.prog 270 2=some (X9,[4]):=by kernel_rfl
def Jh:Ag:=
 .seq (.reg [Rq 2 (.mv (.const (.slice none 0 0)))]) (.seq (.seq (.reg [Mq 3 0,Rq 4 (.isnil false 3)]) (.cond 4 (.seq (.reg [Rq 2 (.mv (.const (.slice none 0 0)))]) (.ret)) (.skip))) (.seq (.reg [Rq 5 (.mks 9 1 0 [(.string ⟨#[]⟩)] []),Mq 6 0,Rq 7 (.app 9 1 16 (.string ⟨#[]⟩) 5 6),Mq 2 7]) (.ret)))
theorem I2:Ah Tryz.prog 271 1=some (Jh,[2]):=by kernel_rfl
def Yx:Ag:=
 .seq (.reg [Rq 2 (.box 56 5 0),Rq 3 (.box 56 5 1),Nq 4 0]) (.seq (.dreg [[Fq 8 0 2,Lq 9 8,Fq 10 0 3,Lq 11 10,Bq 12 .sub 9 11,Fq 13 1 2,Lq 14 13,Fq 15 1 3,Lq 16 15,Bq 17 .sub 14 16,Fq 18 2 2,Lq 19 18,Fq 20 2 3,Lq 21 20,Bq 22 .sub 19 21,Mq 5 12,Mq 6 17],[Mq 7 22]]) (.seq (.reg [Mq 23 5,Mq 24 5,Bq 25 .mul 23 24,Mq 26 6,Mq 27 6,Bq 28 .mul 26 27,Bq 29 .add 25 28,Mq 30 7,Mq 31 7,Bq 32 .mul 30 31,Bq 33 .add 29 32,Cq 34 288 ([33]),Mq 4 34]) (.ret)))
theorem Abu:Ah Tryz.prog 283 2=some (Yx,[4]):=by kernel_rfl
def Ac6:Ag:=
 .seq (.reg [Nq 2 0]) (.seq (.seq (.reg [Mq 5 0,Bq 6 .lss 5 (Kq 2)]) (.cond 6 (.seq (.reg [Mq 7 0,Mq 2 7]) (.ret)) (.skip))) (.seq (.reg [Nq 3 1]) (.seq (.block 0 (.loop (.seq (.seq (.reg [Mq 8 3,Mq 9 0,Mq 10 3,Bq 11 .quo 9 10,Bq 12 .leq 8 11]) (.cond 12 (.skip) (.exit 0))) (.block 1 (.reg [Mq 13 3,Bq 14 .mul 13 (Kq 2),Mq 3 14]))))) (.block 2 (.loop (.block 3 (.seq (.reg [Mq 15 3,Mq 16 0,Mq 17 3,Bq 18 .quo 16 17,Bq 19 .add 15 18,Bq 20 .quo 19 (Kq 2),Mq 4 20]) (.seq (.seq (.reg [Mq 21 4,Mq 22 3,Bq 23 .geq 21 22]) (.cond 23 (.seq (.reg [Mq 24 3,Mq 2 24]) (.ret)) (.skip))) (.reg [Mq 25 4,Mq 3 25])))))))))
theorem Acb:Ah Tryz.prog 288 1=some (Ac6,[2]):=by kernel_rfl
section
open Go.ChangeShapes Go.WideShapes Go.ChangeAt Go.RowKit
section
variable {H:Type} {enc:TypeId×Value→H} {P:Program}
theorem R4(hl:laidOutB P=true){W W':World}{B:Nat}(hb:Below B W W')(sp:Nat→Bool):
  ∀{ts:List TypeId} {vs:List Value} {ds:List (DataW H)} {p:List MemPlace},(∀t∈ts,P.readableRec t=true∧t<P.types.size)→
   DataW.TrodAll enc P W 0 (fun _=>true) true ts vs ds p→(∀x∈p,sp x.block=true)→(∀x∈p,x.block<B)→B=W.heap.size→DataW.TrodAll enc P W' 0 sp true ts vs ds p
 |[],_,_,_,_,h,_,_,_=>by
  obtain⟨rfl,rfl,rfl⟩:=trodAll_nil h;exact trodAll_mk0
 |t::ts,_,_,_,ht,h,hs,hlt,hB=>by
  obtain⟨v,vs1,d,ds1,a,b,rfl,rfl,rfl,h1,h2⟩:=trodAll_cons h;obtain⟨hr,hrow⟩:=ht t (by simp);subst hB;refine⟨a,b,WideElems.Trod_stays hl hr hrow h1 (fun x hx=>hb.same (hlt x (by simp[hx]))) (fun x hx=>hs x (by simp[hx])),?_,rfl⟩;exact R4 hl hb sp (fun t h=>ht t (by simp[h])) h2 (fun x hx=>hs x (by simp[hx])) (fun x hx=>hlt x (by simp[hx])) rfl
theorem Ar3{f:Func}{s:ChangeSpec}{apart fresh handsOn again:Bool}{W W':World}{args:Array Value}{ds gs:List (DataW H)}{before:List MemPlace}{tb:TypeId}(hW:DataW.Whole enc P f.params.toList s.vars apart W args.toList ds gs before)(hl:laidOutB P=true)(hr:∀t∈f.params.toList,P.readableRec t=true∧t<P.types.size)(hv:s.vars=[])(hf:s.fn H (ds++gs)={results:=[.lit (.bool true)],args:=ds})(hres:f.resultTypes= #[tb])(hbool:P.underlying tb=some .bool)(hb:Below W.heap.size W W'):s.post enc P f apart fresh handsOn again W args (.bool true) W':=by
 have hW0:=hW;have hlt:∀p∈before,p.block<W.heap.size:=fun p hp=>hW.lt p hp;obtain⟨p,q,hA,hV,rfl,hz,hn⟩:=hW;rw[hv]at hV;obtain⟨rfl,rfl⟩:=trodVars_none hV;simp only[List.append_nil]at *;have hst:∀sp:Nat→Bool,(∀x∈p,sp x.block=true)→DataW.TrodAll enc P W' 0 sp true f.params.toList args.toList ds p:=fun sp hs=>R4 hl hb sp hr hA hs hlt rfl;have hold:∀x∈p,(fun b=>decide (b<W.heap.size)) x.block=true:=fun x hx=>by simpa using hlt x hx
 have hR:∀(b:Nat) (sp:Nat→Bool) (hd:Bool),DataW.TrodAll enc P W' b sp hd f.resultTypes.toList ((Value.bool true).resultList f.resultTypes.size) [.lit (.bool true)] []:=fun b sp hd=>by
  rw[hres];exact trodAll_cons_mk (shut_bool hbool _) trodAll_mk0
 refine⟨ds,[],p,[],p,[],hW0,?_,?_,?_,?_,fun _=>?_⟩
 ·rw[List.append_nil,hf];exact hR _ _ _
 ·rw[List.append_nil,hf];exact hst _ hold
 ·rw[List.append_nil,hv,hf];rfl
 ·exact World.keptBut_mono (fun x hx=>⟨hx,by simp[hx]⟩) (hb.frame (·∈p))
 ·obtain⟨_,_,_,_,_,hz',hn'⟩:=hW0;refine⟨ok_one hres rfl (okWide_bool_mk hbool _),_,[],([]++p)++[],⟨[]++p,[],trodAll_append (hst _ (fun _ _=>rfl)) (hR _ _ _),?_,rfl,?_,?_⟩,?_⟩
  ·rw[hv];rfl
  ·intro b off hp;rw[hb.frozen (hlt _ (by simpa using hp))];exact hz b off (by simpa using hp)
  ·intro ha;simpa using hn ha
  ·intro x hx _;simpa using hx
end
end
section
open Go.Joins Go.ChangeShapes Go.WideShapes Go.RowKit Go.Deep
inductive Ty where
 |i
 |s
 |b
 |l (row:List Ty)
inductive V9:Ty→V→Prop where
 |i (n:Int) (h1: -9223372036854775808≤n) (h2:n≤9223372036854775807):V9 .i (.v (.int .i64 n))
 |s (x:ByteArray) (h:x.size≤9223372036854775807):V9 .s (.v (.string x))
 |b (x:Bool):V9 .b (.v (.bool x))
 |l (tys:List Ty) (rows:List (List V)) (hl:rows.length≤9223372036854775807) (hr:∀row∈rows,tys.length=row.length) (h:∀row∈rows,∀(j:Nat) (t:Ty) (u:V),tys[j]? =some t→row[j]? =some u→V9 t u):V9 (.l tys) (.sl false rows)
def Rf(tys:List Ty)(us:List V):Prop:=tys.length=us.length∧∀(j:Nat) (t:Ty) (u:V),tys[j]? =some t→us[j]? =some u→V9 t u
def Arr(P:Program)(rc:TypeId→Option (List Ty)):List Field→Nat→Option (List Ty)
 |[],_=>some []
 |f::fs,off=>match rc f.type with
  |some ts=>if f.offset==off&&P.cellsOf f.type==ts.length then(match Arr P rc fs (off+ts.length)with
   |some r=>some (ts++r)
   |none=>none)else none
  |none=>none
def Akp(P:Program):Nat→TypeId→Option (List Ty)
 |0,_=>none
 |d+1,t=>match P.underlying t with
  |some (.int .i64)=>some [.i]
  |some .string=>some [.s]
  |some .bool=>some [.b]
  |some (.struct fs)=>match Arr P (Akp P d) fs.toList 0 with
   |some ts=>if P.cellsOf t==ts.length then some ts else none
   |none=>none
  |some (.slice e)=>match Akp P d e with
   |some ts=>if P.cellsOf e==ts.length&&0<ts.length then some [.l ts]else none
   |none=>none
  |_=>none
section
variable {H:Type} {enc:TypeId×Value→H} {P:Program} {w:World} {base:Nat} {spare:Nat→Bool} {held:Bool}
def Th(w:World)(tys:List Ty)(cs:List Value)(us:List V):Prop:=
 Rf tys us∧cs.length=us.length∧∀(j:Nat) (u:V) (x:Value),us[j]? =some u→cs[j]? =some x→RV w (fun b=>b<w.heap.size) noG u x
theorem Th.app{t1 t2:List Ty}{c1 c2:List Value}{u1 u2:List V}(h1:Th w t1 c1 u1)(h2:Th w t2 c2 u2):Th w (t1++t2) (c1++c2) (u1++u2):=by
 obtain⟨⟨a1,a2⟩,a3,a4⟩:=h1;obtain⟨⟨b1,b2⟩,b3,b4⟩:=h2;refine⟨⟨by simp[a1,b1],fun j t u g1 g2=>?_⟩,by simp[a3,b3],fun j u x g1 g2=>?_⟩
 ·by_cases hj:j<t1.length
  ·rw[ZQ hj]at g1;rw[ZQ (by omega)]at g2;exact a2 j t u g1 g2
  ·rw[ZP (by omega)]at g1 g2;rw[←a1]at g2;exact b2 _ t u g1 g2
 ·by_cases hj:j<u1.length
  ·rw[ZQ hj]at g1;rw[ZQ (by omega)]at g2;exact a4 j u x g1 g2
  ·rw[ZP (by omega)]at g1 g2;rw[a3]at g2;exact b4 _ u x g1 g2
theorem Nu{t:Ty}{x:Value}{u:V}(h:V9 t u)(hr:RV w (fun b=>b<w.heap.size) noG u x):Th w [t] [x] [u]:=by
 refine⟨⟨rfl,fun j t' u' g1 g2=>?_⟩,rfl,fun j u' x' g1 g2=>?_⟩
 ·cases j with
  |zero=>simp at g1 g2;subst g1 g2;exact h
  |succ j=>simp at g1
 ·cases j with
  |zero=>simp at g1 g2;subst g1 g2;exact hr
  |succ j=>simp at g1
theorem Aim(a:Addr)(n:Nat)(h:a.spot=none):a.add n=⟨a.block,a.off+n,none⟩:=by
 obtain⟨b,o,sp⟩:=a;simp only at h;subst h;unfold Addr.add;split<;>simp_all
theorem Afp{d fuel:Nat}{cs:List Value}(rc:∀(t:TypeId) (tys:List Ty) (cs:List Value) (x:DataW H×List MemPlace),Akp P d t=some tys→DataW.trod enc P w base spare held fuel t cs=some x→∃us,Th w tys cs us):
  ∀(fs:List Field) (off:Nat) (tys:List Ty) (xs:List (DataW H×List MemPlace)),Arr P (Akp P d) fs off=some tys→(∀(i:Nat) (f:Field),fs[i]? =some f→∃x,DataW.trod enc P w base spare held fuel f.type ((cs.drop f.offset).take (P.cellsOf f.type))=some x)→
   ∃us,Th w tys ((cs.drop off).take tys.length) us:=by
 intro fs
 induction fs with
 |nil=>
  intro off tys xs h _;simp only[Arr,ZD]at h;subst h;exact⟨[],⟨rfl,by simp⟩,by simp,by simp⟩
 |cons f fs ih=>
  intro off tys xs h hf;simp only[Arr]at h;split at h
  ·rename_i ts hts;split at h
   ·rename_i hc;simp only[ZO,ZR]at hc;split at h
    ·rename_i r hr;injection h with h;subst h
     obtain⟨x0,hx0⟩:=hf 0 f rfl;obtain⟨us1,h1⟩:=rc _ _ _ _ hts hx0;obtain⟨us2,h2⟩:=ih _ _ xs hr (fun i g hg=>hf (i+1) g (by simpa using hg));rw[hc.1,hc.2]at h1;have hlen:((cs.drop off).take ts.length).length=ts.length:=by rw[h1.2.1,←h1.1.1]
     refine⟨us1++us2,?_⟩;have e:(cs.drop off).take (ts++r).length=(cs.drop off).take ts.length++(cs.drop (off+ts.length)).take r.length:=by
      rw[ZF,List.take_add,List.drop_drop]
     rw[e];exact h1.app h2
    ·cases h
   ·cases h
  ·cases h
theorem Aub:∀(d fuel:Nat) (t:TypeId) (tys:List Ty) (cs:List Value) (x:DataW H×List MemPlace),Akp P d t=some tys→DataW.trod enc P w base spare held fuel t cs=some x→∃us,Th w tys cs us:=by
 intro d
 induction d with
 |zero=>intro fuel t tys cs x h;cases h
 |succ d ih=>
  intro fuel t tys cs x h hd;simp only[Akp]at h;split at h
  ·rename_i hu;injection h with h;subst h
   obtain⟨n,rfl,_,hw⟩:=DataW.trod_int hu hd;have hb: -9223372036854775808≤n∧n≤9223372036854775807:=by simpa[Lit.wf,IntKind.min,IntKind.max,IntKind.signed,IntKind.bits]using hw
   exact⟨_,Nu (.i n hb.1 hb.2) (.v _)⟩
  ·rename_i hu;injection h with h;subst h
   obtain⟨s,rfl,_,hs⟩:=DataW.trod_string hu hd;exact⟨_,Nu (.s s (by simpa[maxLen]using hs)) (.v _)⟩
  ·rename_i hu;injection h with h;subst h
   obtain⟨s,rfl,_⟩:=DataW.trod_bool hu hd;exact⟨_,Nu (.b s) (.v _)⟩
  ·rename_i fs hu;split at h
   ·rename_i ts hts;split at h
    ·rename_i hc;simp only[ZR]at hc;injection h with h;subst h
     obtain⟨xs,n,rfl,_,hcl,hxl,hf⟩:=DataW.trod_struct hu hd;obtain⟨us,hus⟩:=Afp (cs:=cs) (fun t tys cs x h1 h2=>ih n t tys cs x h1 h2) fs.toList 0 ts xs hts (fun i f hi=>by
      have hi':fs[i]? =some f:=by simpa using hi
      have hlt:i<xs.length:=by rw[hxl];exact(XL.1 hi').1
      exact⟨_,(hf i f hi').trans (ZC hlt)⟩)
     refine⟨us,?_⟩
     rwa[List.drop_zero,←hc,←hcl,XF]at hus
    ·cases h
   ·cases h
  ·rename_i e hu;split at h
   ·rename_i ts hts;split at h
    ·rename_i hc;simp only[ZO,ZR,decide_eq_true_eq]at hc;injection h with h;subst h
     rcases open_slice hu hd with⟨rfl,_⟩|⟨a,len,cap,m,n,D,Pl,rfl,hb,hl,hm,hmm,_,hi⟩
     ·exact⟨[.sl false []],Nu (.l _ [] (by simp) (by simp) (by simp)) (.nil _ _ _ (by simp))⟩
     ·have hlm:len≤m:=by rw[hmm];split<;>omega
      have hall:∀i:Nat,∃p:List Value×List V,i<len→Th w ts p.1 p.2∧∀j,j<ts.length→w.cell? (a.add (i*ts.length+j))=p.1[j]? :=fun i=>by
       by_cases hil:i<len
       ·obtain⟨cs',h1,h2⟩:=hi i (by omega);obtain⟨us,hus⟩:=ih n e ts cs' _ hts h2;obtain⟨_,h3,h4⟩:=World.cells?_some h1;rw[hc.1]at h3 h4;exact⟨(cs',us),fun _=>⟨hus,fun j hj=>by rw[←Go.Deep.add_add];exact h4 j hj⟩⟩
       ·exact⟨([],[]),fun h=>absurd h hil⟩
      obtain⟨f,hf⟩:=Classical.axiomOfChoice hall;have hsp:0<len→a.spot=none∧a.block<w.heap.size:=fun h0=>by
       obtain⟨h1,h2⟩:=hf 0 h0;have hx:=h2 0 hc.2;have hlt:0<(f 0).1.length:=by rw[h1.2.1,←h1.1.1];exact hc.2
       rw[ZC hlt]at hx;have e:a.add (0*ts.length+0)=a:=by simp[Addr.add]
       rw[e]at hx;refine⟨?_,World.block_lt_of_cell? w _ hx⟩;unfold World.cell? at hx;split at hx
       ·cases hq:a.spot with
        |none=>rfl
        |some k=>simp[hq]at hx
       ·cases hx
      refine⟨[.sl false ((List.range len).map fun i=>(f i).2)],Nu (.l _ _ (by simp only[ZE,List.length_range];simp only[maxLen]at hm;omega) ?_ ?_) ?_⟩
      ·intro row hrow;simp only[XO,List.mem_range]at hrow;obtain⟨i,hil,rfl⟩:=hrow;exact(hf i hil).1.1.1
      ·intro row hrow j t u g1 g2;simp only[XO,List.mem_range]at hrow;obtain⟨i,hil,rfl⟩:=hrow;exact(hf i hil).1.1.2 j t u g1 g2
      ·rcases Nat.eq_zero_or_pos len with h0|h0
       ·subst h0;exact .nil _ _ _ (by simp)
       ·obtain⟨h1,h2⟩:=hsp h0;obtain⟨b,off,sp⟩:=a;simp only at h1 h2;subst h1;have hrows:∀(i:Nat) (row:List V),((List.range len).map fun i=>(f i).2)[i]? =some row→i<len∧row=(f i).2:=fun i row h=>by
         have hlt:=(ZB.1 h).1;simp only[ZE,List.length_range]at hlt;simp[hlt]at h;exact⟨hlt,h.symm⟩
        have e:=RV.sl (w:=w) (R:=fun b=>b<w.heap.size) (G:=noG) false ((List.range len).map fun i=>(f i).2) b off cap ts.length (fun i j=>((f i).1[j]?).getD undef) h2 (by simpa using hl) (by simp) (by
          intro row hrow;simp only[XO,List.mem_range]at hrow;obtain⟨i,hil,rfl⟩:=hrow;exact(hf i hil).1.1.1.symm) (by
          intro i j row u g1 g2;obtain⟨hil,rfl⟩:=hrows i row g1;have hj:j<ts.length:=by have:=(ZB.1 g2).1;rw[(hf i hil).1.1.1];exact this
          have hjl:j<(f i).1.length:=by rw[(hf i hil).1.2.1,←(hf i hil).1.1.1];exact hj
          have hx:=(hf i hil).2 j hj;rw[Aim _ _ rfl,ZC hjl]at hx;rw[ZC hjl];simp only[Option.getD_some];rw[Nat.add_assoc];exact hx) (by
          intro i j row u g1 g2;obtain⟨hil,rfl⟩:=hrows i row g1;have hj:j<ts.length:=by have:=(ZB.1 g2).1;rw[(hf i hil).1.1.1];exact this
          have hjl:j<(f i).1.length:=by rw[(hf i hil).1.2.1,←(hf i hil).1.1.1];exact hj
          rw[ZC hjl];exact(hf i hil).1.2.2 j u _ g2 (ZC hjl))
        have e2:((List.range len).map fun i=>(f i).2).length=len:=by simp
        rw[e2]at e;exact e
    ·cases h
   ·cases h
  ·cases h
theorem Xa{t:TypeId}{tys:List Ty}{r:Reach}{b0:Nat}{v:Value}{fs:Array Field}{d:DataW H}{p:List MemPlace}{dp:Nat}(hs:P.underlying t=some (.struct fs))(ht:Akp P dp t=some tys)(hv:Value.okWide P w r b0 t v)(h:DataW.Trod enc P w base spare held t v d p):
  ∃us,Rf tys us∧RV w (fun b=>b<w.heap.size) noG (.agg us) v:=by
 obtain⟨cs,rfl,hsz⟩:=okWide_struct hs hv;obtain⟨fuel,hf⟩:=h;obtain⟨us,h1,h3,h4⟩:=Aub dp fuel t _ _ _ ht hf;obtain⟨cs⟩:=cs;exact⟨us,h1,.agg us cs h3.symm h4⟩
end
theorem Ax{t:Ty}{ts:List Ty}{us:List V}(h:Rf (t::ts) us):∃u us',us=u::us'∧V9 t u∧Rf ts us':=by
 obtain⟨h1,h2⟩:=h
 match us,h1 with
 |u::us',h1=>exact⟨u,us',rfl,h2 0 _ _ rfl rfl,by simpa using h1,fun j t' u' g1 g2=>h2 (j+1) t' u' (by simpa using g1) (by simpa using g2)⟩
theorem Kt{us:List V}(h:Rf [] us):us=[]:=XR h.1.symm
theorem Gc{u:V}(h:V9 .i u):∃n:Int,u=.v (.int .i64 n)∧-9223372036854775808≤n∧n≤9223372036854775807:=by cases h with|i n h1 h2=>exact⟨n,rfl,h1,h2⟩
theorem Lx{u:V}(h:V9 .s u):∃x:ByteArray,u=.v (.string x)∧x.size≤9223372036854775807:=by cases h with|s x h=>exact⟨x,rfl,h⟩
theorem Anl{u:V}(h:V9 .b u):∃x:Bool,u=.v (.bool x):=by cases h with|b x=>exact⟨x,rfl⟩
theorem Bd5{tys:List Ty}{u:V}(h:V9 (.l tys) u):∃rows,u=.sl false rows∧rows.length≤9223372036854775807∧∀row∈rows,Rf tys row:=by
 cases h with|l tys rows hl hr h=>exact⟨rows,rfl,hl,fun row hm=>⟨hr row hm,h row hm⟩⟩
theorem Agw{α:Type}{enc:α→List V}{p:α→Prop}{tys:List Ty}(hd:∀row,Rf tys row→∃x:α,row=enc x∧p x):∀(rows:List (List V)),(∀row∈rows,Rf tys row)→∃l:List α,rows=l.map enc∧∀x∈l,p x
 |[],_=>⟨[],rfl,by simp⟩
 |row::rows,h=>by
  obtain⟨x,hx,px⟩:=hd row (h row (by simp));obtain⟨l,hl,pl⟩:=Agw hd rows fun r hr=>h r (by simp[hr]);exact⟨x::l,by simp[hx,hl],by simpa using⟨px,pl⟩⟩
theorem Ph{α:Type}{enc:α→List V}{p:α→Prop}{tys:List Ty}{u:V}(hd:∀row,Rf tys row→∃x:α,row=enc x∧p x)(h:V9 (.l tys) u):∃l:List α,u=.sl false (l.map enc)∧l.length≤9223372036854775807∧∀x∈l,p x:=by
 obtain⟨rows,rfl,hl,hr⟩:=Bd5 h;obtain⟨l,rfl,hp⟩:=Agw hd rows hr;exact⟨l,rfl,by simpa using hl,hp⟩
theorem Bb2{w:World}{R:Nat→Prop}:∀{xs ys:List Value},Jd w R (xs.map fun x=>.c (.v x)) ys→ys=xs
 |xs,ys,h=>by
  apply List.ext_getElem?;intro i;have hl:=h.len;rw[ZE]at hl;by_cases hi:i<xs.length
  ·have h1:xs[i]? =some xs[i]:=ZC hi;have h2:ys[i]? =some (ys[i]'(by omega)):=ZC (by omega);have h3:Rz w R (.c (.v xs[i])) (ys[i]'(by omega)):=h.ok i _ _ (by rw[XJ,h1];rfl) h2;have h4:RV w R noG (.v xs[i]) (ys[i]'(by omega)):=h3;rw[h1,h2,Bw h4]
  ·rw[XK (by omega),XK (by omega)]
theorem Mo{ps:List Par}{xs:List Value}{b:Nat}(h:∀p∈ps,∃u,p=.c u):¬A5 ps xs b:=by
 rintro ⟨i,T,sz,rows,x,h1,_⟩
 obtain⟨u,hu⟩:=h _ (ZH h1);cases hu
theorem Hl{L:Nat→Prop}{w w':World}(h:Below w.heap.size w w'):Fr L w w':=⟨h.os,h.tape,h.output,h.size,fun k hk _=>h.block k hk⟩
theorem Lc{P:Program}{f:FuncId}{xs:List Value}{v:Value}(hc:E4 P f)(h:∀w,Calls P f xs.toArray w fun e w'=>e=.returned v∧Below w.heap.size w w'):Fun P f (xs.map fun x=>.c (.v x)) [.c (.v v)]:=by
 refine⟨hc,fun w R ys hlt hp=>?_⟩;obtain rfl:=Bb2 hp;refine(h w).mono fun e w' ⟨he,hb⟩=>⟨[v],R,by rw[he];rfl,Hl hb,fun _ h=>h,fun b h=>.inl h,⟨rfl,?_,?_,?_⟩,?_⟩
 ·intro i p x h1 h2;cases i with
  |zero=>simp at h1 h2;subst h1 h2;exact .v _
  |succ i=>simp at h1
 ·intro i j T sz rows T' sz' rows' x y b _ h1;cases i with
  |zero=>simp at h1
  |succ i=>simp at h1
 ·intro b hb';exact absurd hb' (Mo (by simp))
 ·intro b hb';exact absurd hb' (Mo (by simp))
theorem Cs {P : Program} {f : FuncId} {fn : Func} (h1 : P.funcs[f]? = some fn) (h2 : (fn.name == "runtime.NumGoroutine") = false) (h3 : fn.body.isNone = false) : E4 P f := ⟨fn, h1, h2, h3⟩
theorem Bdy{P:Program}{f:FuncId}{ps:List Par}{xs:List Value}{v:Value}{w:World}(hF:Fun P f ps [.c (.v v)])(hc:∀p∈ps,∃u,p=.c u)(hl:ps.length=xs.length)(hp:∀(i:Nat) (u:V) (x:Value),ps[i]? =some (.c u)→xs[i]? =some x→RV w (fun b=>b<w.heap.size) noG u x):Calls P f xs.toArray w fun e w'=>e=.returned v∧Below w.heap.size w w':=by
 refine(hF.2 w (fun b=>b<w.heap.size) xs (fun _ h=>h) ⟨hl,?_,?_,?_⟩).mono ?_
 ·intro i p x h1 h2;obtain⟨u,rfl⟩:=hc p (ZH h1);exact hp i u x h1 h2
 ·intro i j T sz rows T' sz' rows' x y b _ h1;obtain⟨u,hu⟩:=hc _ (ZH h1);cases hu
 ·intro b hb;exact absurd hb (Mo hc)
 ·rintro e w' ⟨ys,R',rfl,hfr,_,_,hpr,_⟩
  have hy:ys.length=1:=hpr.len.symm
  match ys,hy with
  |[y],_=>
   have:RV w' R' noG (.v v) y:=hpr.ok 0 _ y rfl rfl;obtain rfl:=Bw this;exact⟨rfl,hfr.os,hfr.tape,hfr.output,hfr.size,fun k hk=>hfr.block k hk (Mo hc)⟩
def RVL(w:World):List V→List Value→Prop
 |[],[]=>True
 |u::us,x::xs=>RV w (fun b=>b<w.heap.size) noG u x∧RVL w us xs
 |_,_=>False
theorem Aof{w:World}:∀{us:List V} {xs:List Value},RVL w us xs→us.length=xs.length
 |[],[],_=>rfl
 |u::us,x::xs,h=>by simp[Aof h.2]
 |[],_::_,h=>h.elim
 |_::_,[],h=>h.elim
theorem Au4{w:World}:∀{us:List V} {xs:List Value},RVL w us xs→∀(i:Nat) (u:V) (x:Value),us[i]? =some u→xs[i]? =some x→RV w (fun b=>b<w.heap.size) noG u x
 |[],[],_,i,u,x,h1,_=>by simp at h1
 |u'::us,x'::xs,h,0,u,x,h1,h2=>by simp at h1 h2;subst h1 h2;exact h.1
 |u'::us,x'::xs,h,i+1,u,x,h1,h2=>Au4 h.2 i u x (by simpa using h1) (by simpa using h2)
 |[],_::_,h,_,_,_,_,_=>h.elim
 |_::_,[],h,_,_,_,_,_=>h.elim
theorem Bdu{P:Program}{f:FuncId}{us:List V}{xs:List Value}{v:Value}{w:World}(hF:Fun P f (us.map .c) [.c (.v v)])(h:RVL w us xs):Calls P f xs.toArray w fun e w'=>e=.returned v∧Below w.heap.size w w':=
 Bdy hF (by simp) (by rw[ZE];exact Aof h) (fun i u x h1 h2=>by
  rw[XJ]at h1;cases hq:us[i]? with
  |none=>rw[hq]at h1;cases h1
  |some u'=>rw[hq]at h1;simp at h1;subst h1;exact Au4 h i u' x hq h2)
end
open Go.RowKit
theorem hid{p:Prop}(h:p):Hid p:=h
theorem Lu{k:IntKind}{a b:Int}(h:a=b):Ending.returned (.int k a)=.returned (.int k b):=by rw[h]
theorem K4{a b:Bool}(h:a=b):Ending.returned (.bool a)=.returned (.bool b):=by rw[h]
theorem keep_all{W w1:World}{g:Nat}{f:Nat→Option Value}(hb:Below W.heap.size W w1)(hlt:g<W.heap.size)(h:∀i,W.cell? ⟨g,i,none⟩=f i):∀i,w1.cell? ⟨g,i,none⟩=f i:=
 fun i=>(hb.cell (p:=⟨g,i,none⟩) hlt).trans (h i)
theorem Kf{α:Type}{enc:α→List Value}{sz:Nat}(hs:∀x,(enc x).length=sz):∀l:List α,(l.flatMap enc).length=l.length*sz
 |[]=>by simp
 |x::r=>by rw[List.flatMap_cons,ZF,hs,Kf hs r,ZJ,Nat.add_mul];omega
theorem Ta{α:Type}{enc:α→List Value}{sz:Nat}(hs:∀x,(enc x).length=sz):∀{l:List α} (i j:Nat) (hi:i<l.length) (hj:j<sz),(l.flatMap enc)[i*sz+j]? =(enc l[i])[j]?
 |x::r,0,j,_,hj=>by
  rw[List.flatMap_cons,Nat.zero_mul,Nat.zero_add,ZQ (by rw[hs];exact hj)];rfl
 |x::r,i+1,j,hi,hj=>by
  rw[List.flatMap_cons,ZP (by rw[hs,Nat.add_mul];omega),hs,show(i+1)*sz+j-sz=i*sz+j by rw[Nat.add_mul];omega];exact Ta hs i j (by simpa using hi) hj
def Blk(w:World)(g:Nat)(t:TypeId)(cs:Array Value):Prop:=w.heap[g]? =some (.cells cs t (0,0))
section
variable {w w':World} {g:Nat} {t:TypeId} {cs:Array Value}
theorem Blk.lt(h:Blk w g t cs):g<w.heap.size:=by
 rcases Nat.lt_or_ge g w.heap.size with hlt|hge
 ·exact hlt
 ·unfold Blk at h;rw[Array.getElem?_eq_none hge]at h;cases h
theorem Blk.cell(h:Blk w g t cs)(i:Nat):w.cell? ⟨g,i,none⟩=cs[i]? :=by
 unfold Blk at h;simp[World.cell?,h]
theorem Blk.frozen(h:Blk w g t cs)(i:Nat):w.frozen? ⟨g,i,none⟩=false:=by
 unfold Blk at h;simp[World.frozen?,h]
theorem Blk.new(w:World)(t:TypeId)(cs:Array Value):Blk (w.alloc (.cells cs t)) w.heap.size t cs:=heap_alloc_new w _
theorem Blk.new_(w:World)(t:TypeId)(cs:Array Value){g:Nat}(h:g=w.heap.size):Blk (w.alloc (.cells cs t)) g t cs:=h▸heap_alloc_new w _
theorem Blk.drew(h:Blk w g t cs):Blk w.drew g t cs:=h
theorem Blk.drewN(h:Blk w g t cs)(n:Nat):Blk (w.drewN n) g t cs:=h
theorem Blk.alloc(h:Blk w g t cs)(o:Obj):Blk (w.alloc o) g t cs:=(Below.heap_alloc w o g h.lt).trans h
theorem Blk.set_(h:Blk w g t cs)(i:Nat)(u:Value):Blk (w.setCell ⟨g,i,none⟩ u) g t (cs.setIfInBounds i u):=by
 unfold Blk at h ⊢;simp[World.setCell,Array.getElem?_modify,h]
theorem Blk.far(h:Blk w g t cs){p:Addr}(hp:g≠p.block)(u:Value):Blk (w.setCell p u) g t cs:=(Below.heap_setCell w p u g hp).trans h
theorem Blk.grown{row:Option Nat}(h:Blk w g t cs)(hb:w.grownBy w' row)(hg:some g≠row):Blk w' g t cs:=(hb.block g h.lt hg).trans h
end
open Pl
theorem Sd(a:ByteArray)(w:World):Calls Tryz.prog 200 #[.string a] w fun e w'=>e=.returned (.bool false)∧w=w':=by
 have h:(a.toList==a.toList)=true:=by simp
 go_enter Tryz.func200,Tryz.ntmps200
 go_wp2
 go_ret
 exact⟨K4 (by simp),rfl⟩
theorem Ahk(a b:ByteArray)(w:World):Calls Tryz.prog 136 #[.string a,.string b] w fun e w'=>e=.returned (.int .i64 (Dg a b))∧w=w':=by
 rcases Bool.eq_false_or_eq_true (slt a b)with h|h
 ·have HE:=hid (Yr h);unfold slt at h
  go_enter Tryz.func136,Tryz.ntmps136
  go_wp2_with (go_at_call 200;refine(Sd _ _).mono ?_;rintro e w' ⟨rfl,rfl⟩)
  go_ret
  exact⟨Lu HE.out.symm,rfl⟩
 ·rcases Bool.eq_false_or_eq_true (slt b a)with g|g
  ·have HE:=hid (Yo g);have h2:(a.toList==b.toList)=false:=Zr (fun e=>by subst e;rw[Ft]at g;cases g);unfold slt at h;clear g
   go_enter Tryz.func136,Tryz.ntmps136
   go_wp2_with (go_at_call 200;refine(Sd _ _).mono ?_;rintro e w' ⟨rfl,rfl⟩)
   go_ret
   exact⟨Lu HE.out.symm,rfl⟩
  ·obtain rfl:=Uc h g;have HE:=hid (Ol a);have h2:(a.toList==a.toList)=true:=by simp
   unfold slt at h;clear g
   go_enter Tryz.func136,Tryz.ntmps136
   go_wp2_with (go_at_call 200;refine(Sd _ _).mono ?_;rintro e w' ⟨rfl,rfl⟩)
   go_ret
   exact⟨Lu HE.out.symm,rfl⟩
def Co(a b:Int):Int:=if a<b then -1 else if b<a then 1 else 0
theorem R9(a:Int)(w:World):Calls Tryz.prog 102 #[.int .i64 a] w fun e w'=>e=.returned (.bool false)∧w=w':=by
 have h:(a==a)=true:=by simp
 go_enter Tryz.func102,Tryz.ntmps102
 go_wp2
 go_ret
 exact⟨K4 (by simp),rfl⟩
theorem Ahi(a b:Int)(w:World):Calls Tryz.prog 46 #[.int .i64 a,.int .i64 b] w fun e w'=>e=.returned (.int .i64 (Co a b))∧w=w':=by
 by_cases h:a<b
 ·have HE:Hid (Co a b= -1):=hid (by simp[Co,h])
  go_enter Tryz.func46,Tryz.ntmps46
  go_wp2_with (go_at_call 102;refine(R9 _ _).mono ?_;rintro e w' ⟨rfl,rfl⟩)
  go_ret
  exact⟨Lu HE.out.symm,rfl⟩
 ·by_cases g:b<a
  ·have HE:Hid (Co a b=1):=hid (by simp[Co,h,g])
   go_enter Tryz.func46,Tryz.ntmps46
   go_wp2_with (go_at_call 102;refine(R9 _ _).mono ?_;rintro e w' ⟨rfl,rfl⟩)
   go_ret
   exact⟨Lu HE.out.symm,rfl⟩
  ·have HE:Hid (Co a b=0):=hid (by simp[Co,h,g])
   go_enter Tryz.func46,Tryz.ntmps46
   go_wp2_with (go_at_call 102;refine(R9 _ _).mono ?_;rintro e w' ⟨rfl,rfl⟩)
   go_ret
   exact⟨Lu HE.out.symm,rfl⟩
def Bi:List Int→Int
 |[]=>0
 |x::r=>if x=0 then Bi r else x
theorem S1:∀{l:List Int} {k:Nat} (hk:k<l.length),(∀i,(h:i<l.length)→i<k→l[i]=0)→l[k]≠0→Bi l=l[k]
 |x::r,0,_,_,hne=>by
  simp only[List.getElem_cons_zero]at hne ⊢;simp[Bi,hne]
 |x::r,k+1,hk,h,hne=>by
  have h0:x=0:=h 0 (by simp) (by omega);subst h0;simp only[Bi,if_true,List.getElem_cons_succ]at hne ⊢;exact S1 (by simpa using hk) (fun i hi hik=>h (i+1) (by simpa using hi) (by omega)) hne
theorem On:∀{l:List Int},(∀i,(h:i<l.length)→l[i]=0)→Bi l=0
 |[],_=>rfl
 |x::r,h=>by
  have h0:x=0:=h 0 (by simp);subst h0;simp only[Bi,if_true];exact On fun i hi=>h (i+1) (by simpa using hi)
def Bbm(l:List Int)(i:Value):Prop:=∃k:Nat,k≤l.length∧i=.int .i64 k∧∀j,(h:j<l.length)→j<k→l[j]=0
set_option maxRecDepth 100000 in
theorem Ayp(g:Nat)(vs:List Int)(w:World)(hg:Blk w g 3 (vs.map (Value.int .i64)).toArray)(hn:vs.length≤1000):
  Calls Tryz.prog 45 #[.slice (some ⟨g,0,none⟩) vs.length vs.length] w fun e w'=>e=.returned (.int .i64 (Bi vs))∧w=w':=by
 have HG:=hid hg;clear hg
 go_enter Tryz.func45,Tryz.ntmps45
 go_wp2
 go_loop [8] (fun i=>Bbm vs i) (fun i=>vs.length-(intOf i).toNat)
 case atStart=>exact⟨0,ZU _,rfl,fun j _ h=>absurd h (by omega)⟩
 case round=>
  obtain⟨k,hk,rfl,h0⟩:=hrel;have H0:=hid h0;clear h0;by_cases hlt:k<vs.length
  ·have g0:w.cell? ⟨g,k,none⟩=some (.int .i64 vs[k]):=by
    rw[HG.out.cell];simp[hlt]
   by_cases hz:vs[k]=0
   ·have hb:(vs[k]==0)=true:=by simpa using hz
    have HN:Hid (∀j,(h:j<vs.length)→j<k+1→vs[j]=0):=hid (fun j hj hjk=>by
     rcases(by omega:j<k∨j=k)with q|rfl
     ·exact H0.out j hj q
     ·exact hz)
    clear hz;generalize vs[k]=x at *
    go_wp2
    go_round
    case rel=>exact⟨k+1,by omega,by go_num,HN.out⟩
    case measure=>simp[intOf];omega
   ·have hb:(vs[k]==0)=false:=by simpa using hz
    have HE:=hid (S1 hlt H0.out hz);clear hz;generalize vs[k]=x at *
    go_wp2
    go_ret
    exact⟨Lu HE.out.symm,rfl⟩
  ·have HE:=hid (On (l:=vs) (fun j h=>H0.out j h (by omega)))
   go_wp2
   go_ret
   exact⟨Lu HE.out.symm,rfl⟩
theorem Uz{n:Int}(h1:0≤n)(h2:n≤18446744073709551615):IntKind.u64.wrap n=n:=IntWalk.u64_in n ⟨h1,h2⟩
theorem Qf{n:Int}(h:0≤n):n.fdiv (2^(min (1:Int).toNat IntKind.u64.bits))=n/2:=by
 have e:(2:Int)^(min (1:Int).toNat IntKind.u64.bits)=2:=by decide
 rw[e,Int.fdiv_eq_ediv_of_nonneg _ (by decide)]
class FlatRow {α:Type} (enc:α→List V):Prop where
 flat:∀x,∀u∈enc x,∃v,u=.v v
theorem Ao{α:Type}{f:α→List V}{l:List α}{k:Nat}(h:k<l.length):(l.map f)[k]? =some (f l[k]):=by simp[h]
theorem Ayd{α:Type}{enc:α→List V}[hf:FlatRow enc]{x:α}:∀u∈enc x,Fl u:=fun u hu=>by
 obtain⟨v,rfl⟩:=hf.flat x u hu;exact Bae v
theorem Agb{α:Type}{enc:α→List V}[FlatRow enc]{l:List α}:∀row∈l.map enc,∀u∈row,Fl u:=fun row hr u hu=>by
 obtain⟨x,_,rfl⟩:=XO.1 hr;exact Ayd u hu
theorem B6{α:Type}{enc:α→List V}[FlatRow enc]{l:List α}:∀row∈l.map enc,∀u∈row,Cl u:=fun row hr u hu=>(Agb row hr u hu).cl
theorem Dz{α:Type}{enc:α→List V}[FlatRow enc]{c:Bool}{l:List α}:Cl (.sl c (l.map enc)):=Aix B6
def vB:V→Bool
 |.v _=>true
 |_=>false
def vsB:List V→Bool
 |[]=>true
 |u::us=>bif vB u then vsB us else false
def clB:V→Bool
 |.v _=>true
 |.agg cs=>vsB cs
 |.tup cs=>vsB cs
 |.clo _ cs=>vsB cs
 |.sl false []=>true
 |_=>false
def Al1:List (List V)→Bool
 |[]=>true
 |r::rs=>bif vsB r then Al1 rs else false
theorem Bcr{u:V}(h:vB u=true):Fl u:=by
 cases u<;>first|exact Bae _|cases h
theorem Aao:∀{us:List V},vsB us=true→∀u∈us,Fl u
 |[],_,u,hu=>by cases hu
 |v::us,h,u,hu=>by
  unfold vsB at h;cases hv:vB v with
  |false=>rw[hv]at h;cases h
  |true=>
   rw[hv]at h;rcases XC.1 hu with rfl|hu
   ·exact Bcr hv
   ·exact Aao h u hu
theorem Afv:∀{rs:List (List V)},Al1 rs=true→∀r∈rs,∀u∈r,Fl u
 |[],_,r,hr=>by cases hr
 |r'::rs,h,r,hr=>by
  unfold Al1 at h;cases hv:vsB r' with
  |false=>rw[hv]at h;cases h
  |true=>
   rw[hv]at h;rcases XC.1 hr with rfl|hr
   ·exact Aao hv
   ·exact Afv h r hr
theorem Ays{f:FuncId}{cs:List V}(h:∀u∈cs,Fl u):Fl (.clo f cs):=fun w w' R R' G G' x hx=>by
 cases hx with
 |clo f cs xs hl hh=>exact .clo f cs xs hl fun i u x h1 h2=>h u (ZH h1) _ _ _ _ _ _ _ (hh i u x h1 h2)
theorem Bc7{u:V}(h:clB u=true):Fl u:=by
 cases u with
 |v x=>exact Bae x
 |agg cs=>exact Ba9 (Aao h)
 |tup cs=>exact Azg (Aao h)
 |clo f cs=>exact Ays (Aao h)
 |sl c rows=>cases c<;>cases rows<;>first|exact Ayj|cases h
 |_=>cases h
theorem A9{u:V}(h:clB u=true):Cl u:=(Bc7 h).cl
theorem Ei{rs:List (List V)}(h:Al1 rs=true):∀r∈rs,∀u∈r,Cl u:=fun r hr u hu=>(Afv h r hr u hu).cl
theorem Mf{α:Type}{enc:α→List V}[FlatRow enc]{c:Bool}{l:List α}:∀row∈[[V.sl c (l.map enc)]],∀u∈row,Cl u:=by
 intro row hr u hu;simp only[XC,XD,or_false]at hr;subst hr;simp only[XC,XD,or_false]at hu;subst hu;exact Dz
def flB:List Par→Bool
 |[]=>true
 |.c u::ps=>bif clB u then flB ps else false
 |_=>false
theorem U7:∀{rs:List Par},flB rs=true→Dy rs
 |[],_=>fun r hr=>by cases hr
 |.c u::ps,h=>by
  unfold flB at h;cases hv:clB u with
  |false=>rw[hv]at h;cases h
  |true=>
   rw[hv]at h;intro r hr;rcases XC.1 hr with rfl|hr
   ·exact Bc7 hv
   ·exact U7 h r hr
 |.o _ _ _::_,h=>by cases h
theorem Ah3{α:Type}{enc:α→List V}[FlatRow enc]{T:TypeId}{sz:Nat}{l:List α}:Dy [.o T sz (l.map enc)]:=by
 intro r hr;simp only[XC,XD,or_false]at hr;subst hr;exact Agb
theorem Aq6{α:Type}{enc:α→List V}[FlatRow enc]{T:TypeId}{sz:Nat}{l:List α}{ps:List Par}(h:flB ps=true):Dy (.o T sz (l.map enc)::ps):=by
 intro r hr;rcases XC.1 hr with rfl|hr
 ·exact Agb
 ·exact U7 h r hr
theorem G7{rs rs':List (List V)}(h:∀r∈rs,∀u∈r,Cl u)(h':∀r∈rs',∀u∈r,Cl u):∀r∈rs++rs',∀u∈r,Cl u:=fun r hr u hu=>by
 rcases XM.1 hr with h1|h1
 ·exact h r h1 u hu
 ·exact h' r h1 u hu
theorem Ath{H:Nat→Option Ent}{all:List Nat}{bor:Bool}{gone:List Nat}{id g:Nat}{T:TypeId}{sz:Nat}{rows:List (List V)}{us:List V}{ps:List Par}(he:H id=some ⟨g,.t T,sz,rows⟩)(hr:∀row∈rows,∀u∈row,Cl u)(hn:id∉gone)(ha:id∈all)(h:Az H all bor gone us ps):Az H all bor (id::gone) (.own id g::us) (.o T sz rows::ps):=
 Az.give (e:=⟨g,.t T,sz,rows⟩) he rfl rfl hr hn ha h
theorem Dr{b:Bool}(h:(!b)=true):b=false:=by cases b;rfl;cases h
theorem Ci{b:Bool}(h:(!b)=false):b=true:=by cases b;cases h;rfl
theorem Ae{p:Prop}:false=true→p:=by simp
theorem Atz{n a b:Int}(h:decide (a≤n)=true):wi n a b=decide (n≤b):=by simp[wi,h]
theorem Au0{n a b:Int}(h:decide (a≤n)=false):wi n a b=false:=by simp[wi,h]
theorem up1{n k:Nat}{p:(j:Nat)→(j<n)→Prop}(h0:∀j (h:j<n),j<k→p j h)(hk:∀h:k<n,p k h):∀j (h:j<n),j<k+1→p j h:=fun j h hj=>by
 rcases(by omega:j<k∨j=k)with g|rfl
 ·exact h0 j h g
 ·exact hk h
theorem up2{n k:Nat}{p:(j:Nat)→(j+1<n)→Prop}(h0:∀j (h:j+1<n),j<k→p j h)(hk:∀h:k+1<n,p k h):∀j (h:j+1<n),j<k+1→p j h:=fun j h hj=>by
 rcases(by omega:j<k∨j=k)with g|rfl
 ·exact h0 j h g
 ·exact hk h
theorem Gf{row:List V}(h:Al1 [row]=true):∀u∈row,Cl u:=fun u hu=>Ei h row (by simp) u hu
theorem Ia.cell1{env:Nat→V}{H:Nat→Option Ent}{a id gen k off sz:Nat}{agg:Bool}{e:Ent}{row:List V}{r:List RT}{u:V}{us:List V}(h1:env a=.ptr id gen k off)(h2:H id=some e)(h3:e.gen=gen)(h4:e.rows[k]? =some row)(h5:Nat.ble (off+sz) row.length=true)(hu:u=mkV agg ((row.drop off).take sz))(h:Ia env H r us):
  Ia env H ((a,some (agg,sz))::r) (u::us):=by rw[hu];exact .cell h1 h2 h3 h4 (Nat.le_of_ble_eq_true h5) h
theorem Ia.tmp1{env:Nat→V}{H:Nat→Option Ent}{t:Nat}{r:List RT}{u:V}{us:List V}(hu:u=env t)(h:Ia env H r us):Ia env H ((t,none)::r) (u::us):=by rw[hu];exact .tmp h
theorem Dj{env:Nat→V}{H:Nat→Option Ent}{ts:List RT}{u v:V}(h1:Cl u)(h2:Cl v)(hG:Ia env H ts [u,v]):∃us gone,Ia env H ts us∧Az H gone true gone us [.c u,.c v]:=⟨_,[],hG,.same h1 (.same h2 (.nil _))⟩
class OneRow {α:Type} (enc:α→List V) (sz:outParam Nat):Prop where
 len:∀x,(enc x).length=sz
 one:∀x,∀u∈enc x,∃v,u=.v v∧v.oneCell'=true
theorem Aol{H:Nat→Option Ent}:∀{us:List V},(∀u∈us,∃v,u=.v v∧v.oneCell'=true)→I3 H us
 |[],_=>trivial
 |u::us,h=>by
  obtain⟨v,rfl,hv⟩:=h u (XB ..);exact⟨hv,Aol fun w hw=>h w (ZL _ hw)⟩
theorem Ado{α:Type}{enc:α→List V}{sz:Nat}[OneRow enc sz]{H:Nat→Option Ent}{l:List α}:∀row∈l.map enc,row.length=sz∧I3 H row:=fun row hr=>by
 obtain⟨x,_,rfl⟩:=XO.1 hr;exact⟨OneRow.len x,Aol (OneRow.one x)⟩
theorem Bas{rs:List Bg}(h:rs.all Af9=true):∀p∈rs,Af9 p=true:=List.all_eq_true.1 h
theorem Ba2{rs rs':List (List V)}(h:∀r∈rs,∀u∈r,Cl u)(h':∀r∈rs',∀u∈r,Cl u):∀r∈rs++rs',∀u∈r,Cl u:=G7 h h'
theorem Avv{rs:List (List V)}{n:Nat}(h:∀r∈rs,∀u∈r,Cl u):∀r∈rs.take n,∀u∈r,Cl u:=fun r hr=>h r (List.mem_of_mem_take hr)
theorem Awi{rs:List (List V)}{n:Nat}(h:∀r∈rs,∀u∈r,Cl u):∀r∈rs.drop n,∀u∈r,Cl u:=fun r hr=>h r (List.mem_of_mem_drop hr)
theorem Avp{row:List V}{n:Nat}(h:Al1 [row]=true):∀r∈List.replicate n row,∀u∈r,Cl u:=fun r hr=>by
 obtain⟨_,rfl⟩:=List.mem_replicate.1 hr;exact Gf h
theorem Aua{H:Nat→Option Ent}{id g n sz:Nat}{e:Ent}{T:TypeId}{rows:List (List V)}{us:List V}(hu:us=[.osub id g 0 n])(he:H id=some e)(hg:e.gen=g)(hT:e.T=.t T)(hs:e.sz=sz)(hl:n≤e.rows.length)(hr:∀row∈e.rows,∀u∈row,Cl u)(hq:rows=e.rows.take n):Az H [id] true [id] us [.o T sz rows]:=by
 rw[hu,hq,←hs];exact .givv he hg hT hl hr (by simp) (by simp) (.nil _)
theorem Ag8{H:Nat→Option Ent}{id g sz:Nat}{e:Ent}{T:TypeId}{rows:List (List V)}{us:List V}(hu:us=[.own id g])(he:H id=some e)(hg:e.gen=g)(hT:e.T=.t T)(hs:e.sz=sz)(hr:∀row∈rows,∀u∈row,Cl u)(hq:e.rows=rows):Az H [id] true [id] us [.o T sz rows]:=by
 subst hq;rw[hu,←hs];exact .give he hg hT hr (by simp) (by simp) (.nil _)
theorem nI{a b:Nat}(h:Nat.ble a b=true:=by exact rfl):a≤b:=Nat.le_of_ble_eq_true h
theorem oI{rs:List Bg}(h:rs.all Af9=true:=by exact rfl):∀p∈rs,Af9 p=true:=Bas h
theorem dI{l:List Nat}(h:ndB l=true:=by exact rfl):l.Nodup:=Li h
theorem tI{p:Prop}(h:p:=by(repeat' (first|exact trivial|refine⟨rfl,?_⟩))):p:=h
theorem lI{p:Prop}(h:p:=by(simp only[ZE,ZF,ZJ,ZN,List.length_set,List.length_replicate,maxLen];omega)):p:=h
theorem fI{rs:List Par}(h:Dy rs:=by(first|exact U7 rfl|exact Ah3|exact Aq6 rfl|exact flat_own2 rfl)):Dy rs:=h
theorem mfI{rs:List Bg}(h:∀p∈rs,W9 p:=by(intro p hp;simp only[B7,List.nil_append,List.append_nil,XC,XD,or_false]at hp;subst hp;first|exact Ah3|exact U7 rfl)):∀p∈rs,W9 p:=h
theorem cBI{H:Nat→Option Ent}{all:List Nat}{cs cs':List V}(h:Cn H all cs cs':=by(repeat' (first|exact Cn.nil|refine Cn.same (by first|exact A9 rfl|exact Dz|exact cl_nil|assumption) ?_|refine Cn.nilsl _ ?_|refine Akm rfl rfl (by first|exact Ei rfl|exact B6|exact cl_setB rfl|exact cl_setG (cl_setB rfl) rfl|exact G7 B6 (Ei rfl)|exact Mf|exact cl_rl2) (by decide) ?_))):Cn H all cs cs':=h
theorem aI{H:Nat→Option Ent}{all gone:List Nat}{bor:Bool}{us:List V}{ps:List Par}(h:Az H all bor gone us ps:=by(repeat' (first|exact Az.nil _|exact Oa (by assumption)|refine Az.same (by first|exact A9 rfl|exact Dz|exact cl_nil|exact cl_one|exact cl_ll1|exact cl_ll2|exact Wy (by assumption)|exact Q3 (by repeat' (first|exact Ns|refine J5 (by first|exact A9 rfl|exact Dz|exact cl_nil|assumption) ?_))) ?_|refine Az.nilsl _ ?_|refine Az.nilown _ _ (by decide) ?_|refine Az.borp rfl rfl rfl (Gf rfl) (by decide) ?_|refine Az.borc (by(repeat' (first|exact Ahg|refine Anm rfl rfl rfl (by first|exact Gf rfl|exact cl_r1 rfl|exact cl_r1b) ?_ ?_|refine cap_m rfl (by decide) ?_|refine cap_c (by first|exact A9 rfl|exact Dz|exact cl_nil|exact cl_one|exact cl_ll1|exact cl_ll2|exact Wy (by assumption)|exact Q3 (by repeat' (first|exact Ns|refine J5 (by first|exact A9 rfl|exact Dz|exact cl_nil|assumption) ?_))) ?_|decide))) ?_|refine Az.bora cBI ?_|refine Az.bor rfl rfl (Sj (by first|exact Ei rfl|exact B6|exact cl_setB rfl|exact cl_setG (cl_setB rfl) rfl|exact G7 B6 (Ei rfl)|exact Mf|exact cl_rl2)) (by decide) ?_|refine Ath rfl (by first|exact Ei rfl|exact B6|exact cl_setB rfl|exact cl_setG (cl_setB rfl) rfl|exact G7 B6 (Ei rfl)|exact Mf|exact cl_rl2) (by decide) (by decide) ?_))):Az H all bor gone us ps:=h
theorem aM{H:Nat→Option Ent}{all gone:List Nat}{bor:Bool}{us:List V}{ps:List Bg}(h:Bj H all bor gone us ps:=by(repeat' (first|exact Bj.nil _|refine Ix (by first|exact A9 rfl|exact Dz|exact cl_nil|exact cl_one|exact cl_ll1|exact cl_ll2|exact Wy (by assumption)|exact Q3 (by repeat' (first|exact Ns|refine J5 (by first|exact A9 rfl|exact Dz|exact cl_nil|assumption) ?_))) ?_|refine aM_nilsl _ ?_|refine aM_nilown _ _ (by decide) ?_|refine aM_mf rfl (Gf rfl) (by decide) (by decide) rfl ?_|refine aM_pf rfl (Gf rfl) (by decide) (by decide) ?_|refine Bck rfl (by decide) (by decide) ?_|refine Bct rfl (by decide) (by decide) ?_|refine Av8 rfl rfl rfl (Gf rfl) (by decide) ?_|refine Anp (by(repeat' (first|exact Ahg|refine Anm rfl rfl rfl (by first|exact Gf rfl|exact cl_r1 rfl|exact cl_r1b) ?_ ?_|refine cap_m rfl (by decide) ?_|refine cap_c (by first|exact A9 rfl|exact Dz|exact cl_nil|exact cl_one|exact cl_ll1|exact cl_ll2|exact Wy (by assumption)|exact Q3 (by repeat' (first|exact Ns|refine J5 (by first|exact A9 rfl|exact Dz|exact cl_nil|assumption) ?_))) ?_|decide))) ?_|refine Aga cBI ?_|refine Ayf rfl rfl (Sj (by first|exact Ei rfl|exact B6|exact cl_setB rfl|exact cl_setG (cl_setB rfl) rfl|exact G7 B6 (Ei rfl)|exact Mf|exact cl_rl2)) (by decide) ?_|refine aM_give rfl (by first|exact Ei rfl|exact B6|exact cl_setB rfl|exact cl_setG (cl_setB rfl) rfl|exact G7 B6 (Ei rfl)|exact Mf|exact cl_rl2) (by decide) (by decide) ?_|refine Ay2 rfl (by first|exact Ei rfl|exact B6|exact cl_setB rfl|exact cl_setG (cl_setB rfl) rfl|exact G7 B6 (Ei rfl)|exact Mf|exact cl_rl2) (by decide) (by decide) (by simp) ?_))):Bj H all bor gone us ps:=h
theorem hxI{α:Type}{a b:α}{p:Prop}(hn:a=b)(h:a=b→p:=by(intro hq;(repeat' (first|exact trivial|refine⟨rfl,?_⟩|refine⟨(by show some (Ent.mk _ _ _ _)=some (Ent.mk _ _ _ _);(first|(rw[hq];done)|(rw[hq];rfl)|(rw[hq,ZI];done)|(rw[hq,ZI];rfl)|(rw[hq,ZI,ZI];done)|(rw[hq,ZI,ZI];rfl))),?_⟩|refine⟨(by show V.v _=V.v _;(first|(rw[hq];done)|(rw[hq];rfl)|(rw[hq,ZI];done)|(rw[hq,ZI];rfl)|(rw[hq,ZI,ZI];done)|(rw[hq,ZI,ZI];rfl))),?_⟩|refine⟨(by show V.sl _ _=V.sl _ _;(first|(rw[hq];done)|(rw[hq];rfl)|(rw[hq,ZI];done)|(rw[hq,ZI];rfl)|(rw[hq,ZI,ZI];done)|(rw[hq,ZI,ZI];rfl))),?_⟩)))):p:=h hn
structure Aza(q:Prop):Prop where
 out:q
theorem goI{p q:Prop}(h:q)(e:Aza q→p:=by(intro hq;(conv=>whnf);(repeat' ((first|refine⟨rfl,?_⟩|refine⟨_,Ao (by assumption),?_⟩|refine⟨_,(by exact Ux),?_⟩|refine⟨_,Ed (by omega) (by omega),?_⟩|refine⟨_,Uz (by omega) (by omega),?_⟩|refine⟨by decide,_,Qf (by omega),?_⟩);(conv=>whnf)));exact hq.out)):p:=e ⟨h⟩
theorem G0{p q:Prop}(h:q)(e:Aza q→p:=by(intro hq;(conv=>whnf);(repeat' ((first|refine⟨rfl,?_⟩|refine⟨_,Ao (by assumption),?_⟩|refine⟨_,(by exact Ux),?_⟩|refine⟨_,Ed (by omega) (by omega),?_⟩|refine⟨_,Uz (by omega) (by omega),?_⟩|refine⟨by decide,_,Qf (by omega),?_⟩);(conv=>whnf)));exact hq.out)):p:=e ⟨h⟩
theorem wI{p:Prop}(h:p:=by exact Bc2 (gone:=[]) (gone1:=[]) rfl aI (by decide) (by decide) (by decide) rfl aM):p:=h
theorem cX{A:List Par→Bool→List Nat→Prop}{F:List Par→List Par→Prop}{B L:List Par→Prop}{K:List Par→List Nat→Prop}{ps rs:List Par}(hF:F ps rs)(hK:K rs [])(hA:A ps false []:=by exact aI)(hL:L rs:=by exact nI):∃ps rs bor gone,A ps bor gone∧F ps rs∧(bor=true→B rs)∧L rs∧K rs gone:=⟨ps,rs,false,[],hA,hF,Ae,hL,hK⟩
theorem cY{A:List Par→Bool→List Nat→Prop}{F:List Par→List Par→Prop}{B L:List Par→Prop}{K:List Par→List Nat→Prop}{ps rs:List Par}(hF:F ps rs)(hK:K rs [])(hA:A ps true []:=by exact aI)(hB:B rs:=by exact fI)(hL:L rs:=by exact nI):∃ps rs bor gone,A ps bor gone∧F ps rs∧(bor=true→B rs)∧L rs∧K rs gone:=⟨ps,rs,true,[],hA,hF,fun _=>hB,hL,hK⟩
theorem G1{α0:Type}{p:Prop}{q:α0→Prop}(h:∀a0,q a0)(e:(∀a0,Aza (q a0))→p:=by(intro hq;(conv=>whnf);(repeat' ((first|refine⟨rfl,?_⟩|refine⟨_,Ao (by assumption),?_⟩|refine⟨_,(by exact Ux),?_⟩|refine⟨_,Ed (by omega) (by omega),?_⟩|refine⟨_,Uz (by omega) (by omega),?_⟩|refine⟨by decide,_,Qf (by omega),?_⟩);(conv=>whnf)));intro g0;(conv=>whnf);(repeat' ((first|refine⟨rfl,?_⟩|refine⟨_,Ao (by assumption),?_⟩|refine⟨_,(by exact Ux),?_⟩|refine⟨_,Ed (by omega) (by omega),?_⟩|refine⟨_,Uz (by omega) (by omega),?_⟩|refine⟨by decide,_,Qf (by omega),?_⟩);(conv=>whnf)));exact(hq g0).out)):p:=e fun a0=>⟨h a0⟩
theorem Ahx{s:ByteArray}{k:Nat}(h:∀j,(hj:j<s.data.toList.length)→j<k→okB (s.data.toList[j]).toNat=true)(hlt:k<s.size)(hk:okB (s[k]).toNat=true):
  ∀j,(hj:j<s.data.toList.length)→j<k+1→okB (s.data.toList[j]).toNat=true:=by
 intro j hj hjk;rcases(by omega:j<k∨j=k)with g|rfl
 ·exact h j hj g
 ·exact hk
theorem Uw(s:ByteArray):s.toList.isEmpty=decide (s.size=0):=by
 rw[ByteArray.toList_eq,Bool.eq_iff_iff,List.isEmpty_iff_length_eq_zero,decide_eq_true_eq,Array.length_toList];rfl
theorem Ase{s:ByteArray}(h1:1≤s.size∧s.size≤30→lab s.data.toList=true)(h2:¬(1≤s.size∧s.size≤30)→lab s.data.toList=false)(e:s.toList.isEmpty=false):decide ((s.size:Int)≤30)=lab s.data.toList:=by
 have e0:s.size≠0:=by simpa[Uw]using e
 by_cases g:s.size≤30
 ·rw[h1 ⟨by omega,g⟩];simp;omega
 ·rw[h2 (by omega)];simp;omega
theorem Ash{s:ByteArray}(h2:¬(1≤s.size∧s.size≤30)→lab s.data.toList=false)(e:s.toList.isEmpty=true):false=lab s.data.toList:=by
 have e0:s.size=0:=by simpa[Uw]using e
 rw[h2 (by omega)]
theorem Arz(w:World)(C:Array Value)(t:TypeId)(fr:Nat×Nat)(k:Nat):(w.alloc (.cells C t fr)).drew.cell? ⟨w.heap.size,k,none⟩=C[k]? :=by
 have h:(w.alloc (.cells C t fr)).drew.heap[w.heap.size]? =some (.cells C t fr):=heap_alloc_new w _;unfold World.cell?;rw[h];rfl
theorem Amp{s:ByteArray}{k:Nat}(hlt:k<s.size)(hk:okB (s[k]).toNat=false):false=lab s.data.toList:=
 (Av9 (i:=k) (s:=s.data.toList) (by simpa using hlt) hk).symm
theorem Abj (s : ByteArray) (w : World) (hs : s.size ≤ 9223372036854775807) :
    Calls Tryz.prog 63 #[.string s] w fun e w' => e = .returned (.bool (lab s.data.toList)) ∧ w = w' := by
  go_enter Tryz.func63, Tryz.ntmps63
  go_wp2
  go_loop [3] (fun i => ∃ k : Nat, k ≤ s.size ∧ i = .int .i64 k ∧ ∀ j, (hj : j < s.data.toList.length) → j < k → okB (s.data.toList[j]).toNat = true) (fun i => s.size - (intOf i).toNat)
  case atStart => exact ⟨0, ZU _, rfl, fun j _ h => absurd h (by omega)⟩
  case round =>
    obtain ⟨k, hk, rfl, hall⟩ := hrel
    have HA := hid hall
    clear hall
    by_cases hlt : k < s.size
    · go_wp2
      all_goals first
        | (go_round
           case rel => exact ⟨k + 1, by omega, by go_num, Ahx HA.out hlt (Aoe (by go_light; clear HA; first | omega | (simp_all; done) | (simp_all; omega)))⟩
           case measure => simp [intOf]; omega)
        | (go_ret
           exact ⟨K4 (Amp hlt (Auc (by go_light; clear HA; first | omega | (simp_all; done) | (simp_all; omega)))), rfl⟩)
    · have HL := fun (g : 1 ≤ s.size ∧ s.size ≤ 30) => Aog (s := s.data.toList) (fun i hi => HA.out i hi (by simp at hi; omega)) (by simpa using g.1) (by simpa using g.2)
      have HN := fun (g : ¬ (1 ≤ s.size ∧ s.size ≤ 30)) => Aig (s := s.data.toList) (by simpa using g)
      have HL := hid HL
      have HN := hid HN
      clear HA
      go_wp2
      all_goals go_ret
      all_goals exact ⟨K4 (by
        go_light
        by_cases g : 1 ≤ s.size ∧ s.size ≤ 30
        · rw [HL.out g] <;> first | rfl | (simp <;> omega)
        · rw [HN.out g] <;> first | rfl | (simp <;> omega)), rfl⟩
theorem Aqv(s:ByteArray)(w:World):∃(cap:Nat) (C:Array Value) (fr:Nat×Nat),
  (convert 9 173 (.string s)).run Tryz.prog w=.ok (.slice (some ⟨w.heap.size,0,none⟩) s.size cap) (w.drew.alloc (.cells C 5 fr))∧
  ∀j,(h:j<s.size)→C[j]? =some (.int .u8 ((s[j]).toNat:Int)):=by
 refine⟨_,_,_,run_bytes_of_string w 9 173 5 s Tryz.underlying9 Tryz.underlying173 Tryz.underlying5,?_⟩;intro j h;exact bytesRow_at s _ j h
set_option maxRecDepth 100000 in
theorem Ain (s : ByteArray) (w : World) (hs : s.size ≤ 9223372036854775807) :
    Calls Tryz.prog 88 #[.string s] w fun e w' => e = .returned (.bool (lab s.data.toList)) ∧ Below w.heap.size w w' ∧ w.drawn ≤ w'.drawn := by
  obtain ⟨cap, C, fr, hrun, hC⟩ := Aqv s w
  have HC := hid hC
  clear hC
  have hB : Below w.heap.size w (w.alloc (.cells C 5 fr)).drew ∧ w.drawn ≤ (w.alloc (.cells C 5 fr)).drew.drawn := ⟨(by repeat (first | exact Below.refl _ _ | assumption | refine Below.drew ?_ | refine below_drewN ?_ _ | refine Below.alloc ?_ (by simp; try omega) _ | refine Below.setCell ?_ (by simp; try omega) _)), Nat.le_succ _⟩
  have HB := hid hB
  clear hB
  go_enter Tryz.func88, Tryz.ntmps88
  go_wp2
  go_loop [8] (fun i => ∃ k : Nat, k ≤ s.size ∧ i = .int .i64 k ∧ ∀ j, (hj : j < s.data.toList.length) → j < k → okB (s.data.toList[j]).toNat = true) (fun i => s.size - (intOf i).toNat)
  case atStart => exact ⟨0, ZU _, rfl, fun j _ h => absurd h (by omega)⟩
  case round =>
    obtain ⟨k, hk, rfl, hall⟩ := hrel
    have HA := hid hall
    clear hall
    by_cases hlt : k < s.size
    · have hcell : (w.alloc (.cells C 5 fr)).drew.cell? ⟨w.heap.size, k, none⟩ = some (.int .u8 ((s[k]).toNat : Int)) := (Arz w C 5 fr k).trans (HC.out k hlt)
      have hby : ((s[k]).toNat : Int) ≤ 255 := by have := (s[k]).toNat_lt; omega
      clear hrun
      go_wp2
      all_goals first
        | (go_round
           case rel => exact ⟨k + 1, by omega, by go_num, Ahx HA.out hlt (Aoe (by go_light; clear HA; first | omega | (simp_all; done) | (simp_all; omega)))⟩
           case measure => simp [intOf]; omega)
        | (go_ret
           exact ⟨K4 (Amp hlt (Auc (by go_light; clear HA; first | omega | (simp_all; done) | (simp_all; omega)))), HB.out⟩)
    · have HL := fun (g : 1 ≤ s.size ∧ s.size ≤ 30) => Aog (s := s.data.toList) (fun i hi => HA.out i hi (by simp at hi; omega)) (by simpa using g.1) (by simpa using g.2)
      have HN := fun (g : ¬ (1 ≤ s.size ∧ s.size ≤ 30)) => Aig (s := s.data.toList) (by simpa using g)
      have HL := hid HL
      have HN := hid HN
      clear HA
      go_wp2
      all_goals go_ret
      all_goals first
        | exact ⟨K4 (Ase HL.out HN.out ‹s.toList.isEmpty = false›), HB.out⟩
        | exact ⟨K4 (Ash HN.out ‹s.toList.isEmpty = true›), HB.out⟩
theorem Bu(s:ByteArray)(hs:s.size≤9223372036854775807):Fun Tryz.prog 88 [.c (.v (.string s))] [.c (.v (.bool (lab s.data.toList)))]:=
 Lc (xs:=[.string s]) (Cs Tryz.func88 (by kernel_rfl) (by kernel_rfl)) fun w=>(Ain s w hs).mono fun e w' h=>⟨h.1,h.2.1⟩
theorem Es(s:ByteArray)(hs:s.size≤9223372036854775807):Fun Tryz.prog 63 [.c (.v (.string s))] [.c (.v (.bool (lab s.data.toList)))]:=
 Lc (xs:=[.string s]) (Cs Tryz.func63 (by kernel_rfl) (by kernel_rfl)) fun w=>(Abj s w hs).mono fun e w' ⟨h1,h2⟩=>⟨h1,h2▸Below.refl _ _⟩
theorem Ui(a b:ByteArray):Fun Tryz.prog 136 [.c (.v (.string a)),.c (.v (.string b))] [.c (.v (.int .i64 (Dg a b)))]:=
 Lc (xs:=[.string a,.string b]) (Cs Tryz.func136 (by kernel_rfl) (by kernel_rfl)) fun w=>(Ahk a b w).mono fun e w' ⟨h1,h2⟩=>⟨h1,h2▸Below.refl _ _⟩
theorem Ua(a b:Int):Fun Tryz.prog 46 [.c (.v (.int .i64 a)),.c (.v (.int .i64 b))] [.c (.v (.int .i64 (Co a b)))]:=
 Lc (xs:=[.int .i64 a,.int .i64 b]) (Cs Tryz.func46 (by kernel_rfl) (by kernel_rfl)) fun w=>(Ahi a b w).mono fun e w' ⟨h1,h2⟩=>⟨h1,h2▸Below.refl _ _⟩
theorem Cf(n a b:Int):Fun Tryz.prog 112 [.c (.v (.int .i64 n)),.c (.v (.int .i64 a)),.c (.v (.int .i64 b))] [.c (.v (.bool (wi n a b)))]:=by
 refine Av O7 rfl ?_;refine G0 ?_;(refine Aa (fun h=>?_) (fun h=>?_)<;>rw[h])
 ·refine G0 ?_;rw[Atz h];(exact⟨[],aI⟩)
 ·refine G0 ?_;rw[Au0 h];(exact⟨[],aI⟩)
theorem Lo(n:Int):Fun Tryz.prog 116 [.c (.v (.int .i64 n))] [.c (.v (.bool (wi n 0 4294967295)))]:=by
 refine Av Nk rfl ?_;refine G0 ?_;refine .inl (cX (Cf _ _ _) ?_);refine G1 ?_;intro gg;(exact⟨[],aI⟩)
theorem Fz{α:Type}(e:α→Int)(a:α):Aq e [a]=e a:=by
 by_cases h:e a=0<;>simp[Aq,h]
theorem Gv{α:Type}{mx:Nat}{e:α→Int}{lt:α→α→Bool}{l:List α}(h1:¬mx<l.length)(h2:Aq e l≠0):ckL mx e lt l=Aq e l:=by simp[ckL,h1,h2]
theorem Qa{α:Type}{mx:Nat}{e:α→Int}{lt:α→α→Bool}{l:List α}(h1:¬mx<l.length)(h2:Aq e l=0)(h3:Bt lt l=false):ckL mx e lt l=4:=by simp[ckL,h1,h2,h3]
theorem Lk{α:Type}{mx:Nat}{e:α→Int}{lt:α→α→Bool}{l:List α}(h1:¬mx<l.length)(h2:Aq e l=0)(h3:Bt lt l=true):ckL mx e lt l=0:=by simp[ckL,h1,h2,h3]
theorem An8(a:Int):Co a a=0:=by simp[Co]
theorem An3{a b:Int}(h:a≠b):Co a b≠0:=by
 unfold Co;split
 ·decide
 ·split
  ·decide
  ·omega
theorem Uf{a b:Int}:0<Co a b↔b<a:=by
 unfold Co;split
 ·constructor<;>intro h<;>omega
 ·split<;>(constructor<;>intro h<;>omega)
theorem Atr{a b:Int}{r:List Int}(h:(a !=b)=true):decide (0<Bi (Co a b::r))=decide (b<a):=by
 have h:a≠b:=by simpa using h
 simp[Bi,An3 h,Uf]
theorem Asm{a b:Int}{r:List Int}(h:(a !=b)=false):Bi (Co a b::r)=Bi r:=by
 have h:a=b:=by simpa using h
 subst h;simp[Bi,An8]
theorem Abe{a b:ByteArray}:0<Dg a b↔slt b a=true:=by
 constructor
 ·intro h;rcases Bool.eq_false_or_eq_true (slt b a)with q|q
  ·exact q
  ·rcases Bool.eq_false_or_eq_true (slt a b)with p|p
   ·rw[Yr p]at h;omega
   ·have:=Uc p q;rw[this,Ol]at h;omega
 ·intro h;rw[Yo h];decide
def b2i(b:Bool):Int:=if b then 1 else 0
theorem Atp{p q:Bool}:decide (0<Bi [Co (b2i p) (b2i q)])=(p&& !q):=by cases p<;>cases q<;>decide
def Asb(n:Int):List V:=[.v (.int .i64 n)]
instance:FlatRow Asb:=⟨fun x u hu=>by simp[Asb]at hu;exact⟨_,hu⟩⟩
theorem Art(c:Bool)(l:List Int)(hl:l.length≤9223372036854775807):Fun Tryz.prog 45 [.c (.sl c (l.map Asb))] [.c (.v (.int .i64 (Bi l)))]:=by
 refine Av Ac3 rfl ?_;refine G0 ?_;(refine⟨[],none,{k:Nat//k≤l.length∧∀j,(h:j<l.length)→j<k→l[j]=0},[3,6,7],fun⟨k,hk,h0⟩=>[(8,.v (.int .i64 k))],[],fun⟨k,hk,h0⟩=>[],fun⟨k,hk,h0⟩=>l.length-k,trivial,fun _=>⟨trivial,fun _=>⟨⟨0,by omega,fun j _ h=>by omega⟩,tI,An _ _,tI,Am _ _⟩⟩,fun⟨k,hk,h0⟩=>?_⟩);refine G0 ?_;rw[ZE];(refine Aa (fun h=>?_) (fun h=>?_)<;>rw[h])
 ·have hlt:k<l.length:=by simpa using h
  refine G0 ?_;refine⟨k,_,rfl,Ao hlt,?_⟩;refine G0 ?_;(refine Aa (fun h=>?_) (fun h=>?_)<;>rw[h])
  ·refine G0 ?_;rw[S1 hlt h0 (by simpa using h)];(exact⟨[],aI⟩)
  ·refine G0 ?_;(exact⟨none,trivial,fun _=>⟨⟨k+1,by omega,up1 (p:=fun j h=>l[j]=0) h0 (fun _=>by simpa using h)⟩,by show l.length-(k+1)<l.length-k;omega,tI,tI,tI,tI⟩⟩)
 ·have hge:¬k<l.length:=by simpa using h
  refine G0 ?_;rw[On (l:=l) (fun i hi=>h0 i hi (by omega))];(exact⟨[],aI⟩)
end Go.Proofs.YtkbjgdcdjccnaaaGreatDoor
