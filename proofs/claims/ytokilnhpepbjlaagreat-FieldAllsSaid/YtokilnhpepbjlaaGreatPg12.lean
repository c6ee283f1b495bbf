/- Texts of the claim, merged: Mach1, Mach2, MachT, Calc15, Calc16. No conditions. -/
import Derived.Test.YtokilnhpepbjlaaGreatPg10
import Derived.Test.YtokilnhpepbjlaaGreatPg11
import Derived.KernelRfl
namespace Go.Proofs.YtokilnhpepbjlaaGreat
open Go Go.Proofs.YtokilnhpepbjlaaGreat.Calc
set_option maxRecDepth 100000
set_option linter.unusedVariables false
def x86 : XF := ⟨[0,1,4,5,6,7,8,9,10,11,15,21,28,36,38,39,47,49,59,71,99],[0,1],(.seq (.reg [gL 4 (.gen (.alloc 120))])
 (.seq (.reg [.mt 12 (.l 0),.mt 13 (.l 1),gT 14 (.idx (.t 12) (.t 13) (.index 9 (.tmp 12) (.tmp 13))),gL 5 (.mv (.t 14))])
 (.seq (.reg [gL 6 (.mv (cI 0)),gL 7 (.mv (cI 128)),gL 8 (.mv (cI 191))])
 (.seq (.block 0 (.seq (.reg [.mt 16 (.l 5),gT 17 (.bin .lss (.t 16) (.c (.d (.flat (.int .u8 128)))) (.binOp .lss 5 (.tmp 16) (.const (.int .u8 128)) 5)),gL 15 (.mv (.t 17))])
 (.cond (.l 15) (.seq (.reg [.mt 18 (.l 5),gT 19 (.gen (.convert 5 21 (.tmp 18))),gT 20 (.gen (.build 120 #[(0,(.tmp 19)),(1,(.const (.int .i64 1)))])),gN (.st 3 (.l 4) (.t 20))])
 .ret)
 (.seq (.reg [.mt 22 (.l 5),gT 23 (.bin .geq (.t 22) (.c (.d (.flat (.int .u8 194)))) (.binOp .geq 5 (.tmp 22) (.const (.int .u8 194)) 5)),.mt 24 (.t 23),.g ⟨(.t 25),(.g (.t 24) true),.mv (.l 5)⟩,.g ⟨(.t 26),(.g (.t 24) true),.bin .leq (.t 25) (.c (.d (.flat (.int .u8 223)))) (.binOp .leq 5 (.tmp 25) (.const (.int .u8 223)) 5)⟩,gT 27 (.pick (.t 24) (.t 26) (cB false)),gL 21 (.mv (.t 27))])
 (.cond (.l 21) (.reg [gL 6 (.mv (cI 2))])
 (.seq (.reg [.mt 29 (.l 5),gT 30 (.bin .geq (.t 29) (.c (.d (.flat (.int .u8 224)))) (.binOp .geq 5 (.tmp 29) (.const (.int .u8 224)) 5)),.mt 31 (.t 30),.g ⟨(.t 32),(.g (.t 31) true),.mv (.l 5)⟩,.g ⟨(.t 33),(.g (.t 31) true),.bin .leq (.t 32) (.c (.d (.flat (.int .u8 239)))) (.binOp .leq 5 (.tmp 32) (.const (.int .u8 239)) 5)⟩,gT 34 (.pick (.t 31) (.t 33) (cB false)),gL 28 (.mv (.t 34))])
 (.cond (.l 28) (.seq (.reg [gL 6 (.mv (cI 3))])
 (.seq (.seq (.reg [.mt 35 (.l 5),gL 36 (.bin .eql (.t 35) (.c (.d (.flat (.int .u8 224)))) (.binOp .eql 5 (.tmp 35) (.const (.int .u8 224)) 5))])
 (.cond (.l 36) (.reg [gL 7 (.mv (cI 160))])
 .skip))
 (.seq (.reg [.mt 37 (.l 5),gL 38 (.bin .eql (.t 37) (.c (.d (.flat (.int .u8 237)))) (.binOp .eql 5 (.tmp 37) (.const (.int .u8 237)) 5))])
 (.cond (.l 38) (.reg [gL 8 (.mv (cI 159))])
 .skip))))
 (.seq (.reg [.mt 40 (.l 5),gT 41 (.bin .geq (.t 40) (.c (.d (.flat (.int .u8 240)))) (.binOp .geq 5 (.tmp 40) (.const (.int .u8 240)) 5)),.mt 42 (.t 41),.g ⟨(.t 43),(.g (.t 42) true),.mv (.l 5)⟩,.g ⟨(.t 44),(.g (.t 42) true),.bin .leq (.t 43) (.c (.d (.flat (.int .u8 244)))) (.binOp .leq 5 (.tmp 43) (.const (.int .u8 244)) 5)⟩,gT 45 (.pick (.t 42) (.t 44) (cB false)),gL 39 (.mv (.t 45))])
 (.cond (.l 39) (.seq (.reg [gL 6 (.mv (cI 4))])
 (.seq (.seq (.reg [.mt 46 (.l 5),gL 47 (.bin .eql (.t 46) (.c (.d (.flat (.int .u8 240)))) (.binOp .eql 5 (.tmp 46) (.const (.int .u8 240)) 5))])
 (.cond (.l 47) (.reg [gL 7 (.mv (cI 144))])
 .skip))
 (.seq (.reg [.mt 48 (.l 5),gL 49 (.bin .eql (.t 48) (.c (.d (.flat (.int .u8 244)))) (.binOp .eql 5 (.tmp 48) (.const (.int .u8 244)) 5))])
 (.cond (.l 49) (.reg [gL 8 (.mv (cI 143))])
 .skip))))
 .skip)))))))))
 (.seq (.seq (.reg [.mt 50 (.l 6),gT 51 (bI .eql 3 50 0),.mt 52 (.t 51),.g ⟨(.t 53),(.g (.t 52) false),.mv (.l 1)⟩,.g ⟨(.t 54),(.g (.t 52) false),.mv (.l 6)⟩,.g ⟨(.t 55),(.g (.t 52) false),b2 .add 3 53 54⟩,.g ⟨(.t 56),(.g (.t 52) false),.mv (.l 0)⟩,.g ⟨(.t 57),(.g (.t 52) false),.lens (.t 56)⟩,.g ⟨(.t 58),(.g (.t 52) false),b2 .gtr 3 55 57⟩,gL 59 (.pick (.t 52) (cB true) (.t 58))])
 (.cond (.l 59) (.seq (.reg [gT 60 (.gen (.build 120 #[(0,(.const (.int .i32 65533))),(1,(.const (.int .i64 1))),(2,(.const (.bool true)))])),gN (.st 3 (.l 4) (.t 60))])
 .ret)
 .skip))
 (.seq (.reg [.mt 61 (.l 5),gT 62 (.gen (.convert 5 21 (.tmp 61))),.mt 63 (.l 6),gT 64 (.bin .sub (cI 7) (.t 63) (.binOp .sub 3 (.const (.int .i64 7)) (.tmp 63) 3)),gT 65 (.gen (.convert 3 31 (.tmp 64))),gT 66 (.bin .shl (.c (.d (.flat (.int .i32 1)))) (.t 65) (.binOp .shl 21 (.const (.int .i32 1)) (.tmp 65) 31)),gT 67 (.bin .sub (.t 66) (.c (.d (.flat (.int .i32 1)))) (.binOp .sub 21 (.tmp 66) (.const (.int .i32 1)) 21)),gT 68 (b2 .and 21 62 67),gL 9 (.mv (.t 68))])
 (.seq (.seq (.reg [gL 10 (.mv (cI 1))])
 (.block 1 (.loop (some [0,1,4,6,7,8,9,10]) (.seq (.seq (.reg [.mt 69 (.l 10),.mt 70 (.l 6),gL 71 (b2 .lss 3 69 70)])
 (.cond (.l 71) .skip
 (.exit 1)))
 (.seq (.block 2 (.seq (.reg [.mt 74 (.l 0),.mt 75 (.l 1),.mt 76 (.l 10),gT 77 (b2 .add 3 75 76),gT 78 (.idx (.t 74) (.t 77) (.index 9 (.tmp 74) (.tmp 77))),gT 79 (.gen (.convert 5 3 (.tmp 78))),gL 11 (.mv (.t 79))])
 (.seq (.seq (.reg [.mt 80 (.l 10),gT 81 (bI .eql 3 80 1),.mt 82 (.t 81),.g ⟨(.t 83),(.g (.t 82) true),.mv (.l 11)⟩,.g ⟨(.t 84),(.g (.t 82) true),.mv (.l 7)⟩,.g ⟨(.t 85),(.g (.t 82) true),b2 .lss 3 83 84⟩,.g ⟨(.t 86),(.g (.t 82) true),.mv (.t 85)⟩,.g ⟨(.t 87),(.g (.t 86) false),.mv (.l 11)⟩,.g ⟨(.t 88),(.g (.t 86) false),.mv (.l 8)⟩,.g ⟨(.t 89),(.g (.t 86) false),b2 .gtr 3 87 88⟩,.g ⟨(.t 90),(.g (.t 82) true),.pick (.t 86) (cB true) (.t 89)⟩,gT 91 (.pick (.t 82) (.t 90) (cB false)),.mt 92 (.t 91),.g ⟨(.t 93),(.g (.t 92) false),.mv (.l 11)⟩,.g ⟨(.t 94),(.g (.t 92) false),bI .lss 3 93 128⟩,gT 95 (.pick (.t 92) (cB true) (.t 94)),.mt 96 (.t 95),.g ⟨(.t 97),(.g (.t 96) false),.mv (.l 11)⟩,.g ⟨(.t 98),(.g (.t 96) false),bI .gtr 3 97 191⟩,gL 99 (.pick (.t 96) (cB true) (.t 98))])
 (.cond (.l 99) (.seq (.reg [gT 100 (.gen (.build 120 #[(0,(.const (.int .i32 65533))),(1,(.const (.int .i64 1))),(2,(.const (.bool true)))])),gN (.st 3 (.l 4) (.t 100))])
 .ret)
 .skip))
 (.reg [.mt 101 (.l 9),gT 102 (.bin .shl (.t 101) (.c (.d (.flat (.int .u64 6)))) (.binOp .shl 21 (.tmp 101) (.const (.int .u64 6)) 31)),.mt 103 (.l 11),gT 104 (bI .and 3 103 63),gT 105 (.gen (.convert 3 21 (.tmp 104))),gT 106 (b2 .or 21 102 105),gL 9 (.mv (.t 106))]))))
 (.reg [.mt 72 (.l 10),gT 73 (bI .add 3 72 1),gL 10 (.mv (.t 73))]))))))
 (.seq (.reg [.mt 107 (.l 9),.mt 108 (.l 6),gT 109 (.gen (.build 120 #[(0,(.tmp 107)),(1,(.tmp 108))])),gN (.st 3 (.l 4) (.t 109))])
 .ret)))))))),[(.c 4 true 3)]⟩
theorem x86E : EntryOK Tryz.prog mTabs 86 (.fn x86) := ⟨fnT rfl,Tryz.f86,plans 86,keeps 86,2,Tryz.func86,rfl,by kernel_rfl,by kernel_rfl⟩
def x87 : XF := ⟨[0,2],[0],(.seq (.reg [gL 2 (.mv (cB false))])
 (.seq (.reg [.mt 3 (.l 0),gT 4 (.bin .geq (.t 3) (.c (.d (.flat (.int .i32 48)))) (.binOp .geq 21 (.tmp 3) (.const (.int .i32 48)) 21)),.mt 5 (.t 4),.g ⟨(.t 6),(.g (.t 5) true),.mv (.l 0)⟩,.g ⟨(.t 7),(.g (.t 5) true),.bin .leq (.t 6) (.c (.d (.flat (.int .i32 57)))) (.binOp .leq 21 (.tmp 6) (.const (.int .i32 57)) 21)⟩,gT 8 (.pick (.t 5) (.t 7) (cB false)),gL 2 (.mv (.t 8))])
 .ret)),[(.t 2)]⟩
theorem x87E : EntryOK Tryz.prog mTabs 87 (.fn x87) := ⟨fnT rfl,Tryz.f87,plans 87,keeps 87,1,Tryz.func87,rfl,by kernel_rfl,by kernel_rfl⟩
def x88 : XF := ⟨[0,2],[0],(.seq (.reg [gL 2 (.mv (cB false))])
 (.seq (.reg [.mt 3 (.l 0),gT 4 (.gen (.convert 5 21 (.tmp 3))),gT 5 (.cs 102 p102 [(.t 4)]),.mt 6 (.t 5),.g ⟨(.t 7),(.g (.t 6) false),.mv (.l 0)⟩,.g ⟨(.t 8),(.g (.t 6) false),.gen (.convert 5 21 (.tmp 7))⟩,.g ⟨(.t 9),(.g (.t 6) false),.cs 101 p101 [(.t 8)]⟩,gT 10 (.pick (.t 6) (cB true) (.t 9)),.mt 11 (.t 10),.g ⟨(.t 12),(.g (.t 11) false),.mv (.l 0)⟩,.g ⟨(.t 13),(.g (.t 11) false),.gen (.convert 5 21 (.tmp 12))⟩,.g ⟨(.t 14),(.g (.t 11) false),.cs 87 p87 [(.t 13)]⟩,gT 15 (.pick (.t 11) (cB true) (.t 14)),gL 2 (.mv (.t 15))])
 .ret)),[(.t 2)]⟩
theorem x88E : EntryOK Tryz.prog mTabs 88 (.fn x88) := ⟨fnT rfl,Tryz.f88,plans 88,keeps 88,1,Tryz.func88,rfl,by kernel_rfl,by kernel_rfl⟩
def x89 : XF := ⟨[0,1,4,5,7,25,29,41,53,64],[0,1],(.seq (.reg [gL 4 (.mv (cI 0))])
 (.seq (.reg [.mt 8 (.l 1),gT 9 (bI .add 3 8 1),gL 5 (.mv (.t 9))])
 (.seq (.block 0 (.loop (some [0,1,5]) (.seq (.seq (.reg [.mt 10 (.l 5),.mt 11 (.l 0),gT 12 (.lens (.t 11)),gT 13 (b2 .lss 3 10 12),.mt 14 (.t 13),.g ⟨(.t 15),(.g (.t 14) true),.mv (.l 0)⟩,.g ⟨(.t 16),(.g (.t 14) true),.mv (.l 5)⟩,.g ⟨(.t 17),(.g (.t 14) true),.idx (.t 15) (.t 16) (.index 9 (.tmp 15) (.tmp 16))⟩,.g ⟨(.t 18),(.g (.t 14) true),.bin .neq (.t 17) (.c (.d (.flat (.int .u8 34)))) (.binOp .neq 5 (.tmp 17) (.const (.int .u8 34)) 5)⟩,gT 19 (.pick (.t 14) (.t 18) (cB false)),.mt 20 (.t 19),.g ⟨(.t 21),(.g (.t 20) true),.mv (.l 0)⟩,.g ⟨(.t 22),(.g (.t 20) true),.mv (.l 5)⟩,.g ⟨(.t 23),(.g (.t 20) true),.idx (.t 21) (.t 22) (.index 9 (.tmp 21) (.tmp 22))⟩,.g ⟨(.t 24),(.g (.t 20) true),.bin .neq (.t 23) (.c (.d (.flat (.int .u8 10)))) (.binOp .neq 5 (.tmp 23) (.const (.int .u8 10)) 5)⟩,gL 25 (.pick (.t 20) (.t 24) (cB false))])
 (.cond (.l 25) .skip
 (.exit 0)))
 (.block 1 (.seq (.seq (.reg [.mt 26 (.l 0),.mt 27 (.l 5),gT 28 (.idx (.t 26) (.t 27) (.index 9 (.tmp 26) (.tmp 27))),gL 29 (.bin .eql (.t 28) (.c (.d (.flat (.int .u8 92)))) (.binOp .eql 5 (.tmp 28) (.const (.int .u8 92)) 5))])
 (.cond (.l 29) (.seq (.reg [.mt 30 (.l 5),gT 31 (bI .add 3 30 1),gL 5 (.mv (.t 31))])
 (.seq (.reg [.mt 32 (.l 5),.mt 33 (.l 0),gT 34 (.lens (.t 33)),gT 35 (b2 .geq 3 32 34),.mt 36 (.t 35),.g ⟨(.t 37),(.g (.t 36) false),.mv (.l 0)⟩,.g ⟨(.t 38),(.g (.t 36) false),.mv (.l 5)⟩,.g ⟨(.t 39),(.g (.t 36) false),.idx (.t 37) (.t 38) (.index 9 (.tmp 37) (.tmp 38))⟩,.g ⟨(.t 40),(.g (.t 36) false),.bin .eql (.t 39) (.c (.d (.flat (.int .u8 10)))) (.binOp .eql 5 (.tmp 39) (.const (.int .u8 10)) 5)⟩,gL 41 (.pick (.t 36) (cB true) (.t 40))])
 (.cond (.l 41) (.seq (.reg [gL 4 (.mv (cI 0))])
 .ret)
 .skip)))
 .skip))
 (.reg [.mt 42 (.l 5),gT 43 (bI .add 3 42 1),gL 5 (.mv (.t 43))]))))))
 (.seq (.seq (.reg [.mt 44 (.l 5),.mt 45 (.l 0),gT 46 (.lens (.t 45)),gT 47 (b2 .geq 3 44 46),.mt 48 (.t 47),.g ⟨(.t 49),(.g (.t 48) false),.mv (.l 0)⟩,.g ⟨(.t 50),(.g (.t 48) false),.mv (.l 5)⟩,.g ⟨(.t 51),(.g (.t 48) false),.idx (.t 49) (.t 50) (.index 9 (.tmp 49) (.tmp 50))⟩,.g ⟨(.t 52),(.g (.t 48) false),.bin .neq (.t 51) (.c (.d (.flat (.int .u8 34)))) (.binOp .neq 5 (.tmp 51) (.const (.int .u8 34)) 5)⟩,gL 53 (.pick (.t 48) (cB true) (.t 52))])
 (.cond (.l 53) (.seq (.reg [gL 4 (.mv (cI 0))])
 .ret)
 .skip))
 (.seq (.seq (.reg [.mt 55 (.l 0),.mt 56 (.l 1),gT 57 (bI .add 3 56 1),.mt 58 (.l 5),gT 59 (.sls (.t 55) (some (.t 57)) (some (.t 58))),gT 60 (.cs 90 p90 [(.t 59)]),.mt 54 (.t 60),gT 61 (.ex (.t 54) 0),gT 62 (.ex (.t 54) 1),.mt 6 (.t 61),gL 7 (.mv (.t 62))])
 (.seq (.reg [.mt 63 (.l 7),gL 64 (.not (.t 63))])
 (.cond (.l 64) (.seq (.reg [gL 4 (.mv (cI 0))])
 .ret)
 .skip)))
 (.seq (.reg [.mt 65 (.l 5),gT 66 (bI .add 3 65 1),.mt 67 (.l 1),gT 68 (b2 .sub 3 66 67),gL 4 (.mv (.t 68))])
 .ret)))))),[(.t 4)]⟩
theorem x89E : EntryOK Tryz.prog mTabs 89 (.fn x89) := ⟨fnT rfl,Tryz.f89,plans 89,keeps 89,2,Tryz.func89,rfl,by kernel_rfl,by kernel_rfl⟩
def x90 : XF := ⟨[0,2,3,4,5,6,10,14,27,44,53,54,65],[0],(.seq (.reg [gL 2 (.mv (cS #[])),gL 3 (.mv (cB false))])
 (.seq (.reg [gL 4 (.mv (cS #[]))])
 (.seq (.seq (.reg [gL 5 (.mv (cI 0))])
 (.block 0 (.loop (some [0,4,5]) (.seq (.seq (.reg [.mt 7 (.l 5),.mt 8 (.l 0),gT 9 (.lens (.t 8)),gL 10 (b2 .lss 3 7 9)])
 (.cond (.l 10) .skip
 (.exit 0)))
 (.block 1 (.seq (.reg [.mt 11 (.l 0),.mt 12 (.l 5),gT 13 (.cs 86 p86 [(.t 11),(.t 12)]),gL 6 (.gen (.alloc 120)),gN (.st 3 (.l 6) (.t 13))])
 (.seq (.block 2 (.seq (.reg [gT 15 (.fa 2 (.l 6)),gT 16 (.ld false 1 (.t 15)),.mt 17 (.t 16),.g ⟨(.t 18),(.g (.t 17) false),.fa 0 (.l 6)⟩,.g ⟨(.t 19),(.g (.t 17) false),.ld false 1 (.t 18)⟩,.g ⟨(.t 20),(.g (.t 17) false),.bin .eql (.t 19) (.c (.d (.flat (.int .i32 34)))) (.binOp .eql 21 (.tmp 19) (.const (.int .i32 34)) 21)⟩,gT 21 (.pick (.t 17) (cB true) (.t 20)),.mt 22 (.t 21),.g ⟨(.t 23),(.g (.t 22) false),.fa 0 (.l 6)⟩,.g ⟨(.t 24),(.g (.t 22) false),.ld false 1 (.t 23)⟩,.g ⟨(.t 25),(.g (.t 22) false),.bin .eql (.t 24) (.c (.d (.flat (.int .i32 10)))) (.binOp .eql 21 (.tmp 24) (.const (.int .i32 10)) 21)⟩,gT 26 (.pick (.t 22) (cB true) (.t 25)),gL 14 (.mv (.t 26))])
 (.cond (.l 14) (.seq (.reg [gL 2 (.mv (cS #[])),gL 3 (.mv (cB false))])
 .ret)
 (.seq (.reg [gT 28 (.fa 0 (.l 6)),gT 29 (.ld false 1 (.t 28)),gT 30 (.bin .neq (.t 29) (.c (.d (.flat (.int .i32 92)))) (.binOp .neq 21 (.tmp 29) (.const (.int .i32 92)) 21)),gL 27 (.mv (.t 30))])
 (.cond (.l 27) (.seq (.reg [.mt 31 (.l 4),.mt 32 (.l 0),.mt 33 (.l 5),.mt 34 (.l 5),gT 35 (.fa 1 (.l 6)),gT 36 (.ld false 1 (.t 35)),gT 37 (b2 .add 3 34 36),gT 38 (.sls (.t 32) (some (.t 33)) (some (.t 37))),gT 39 (b2 .add 9 31 38),gL 4 (.mv (.t 39))])
 (.seq (.reg [.mt 40 (.l 5),gT 41 (.fa 1 (.l 6)),gT 42 (.ld false 1 (.t 41)),gT 43 (b2 .add 3 40 42),gL 5 (.mv (.t 43))])
 (.exit 1)))
 (.seq (.reg [.mt 45 (.l 5),gT 46 (bI .add 3 45 1),.mt 47 (.l 0),gT 48 (.lens (.t 47)),gT 49 (b2 .geq 3 46 48),gL 44 (.mv (.t 49))])
 (.cond (.l 44) (.seq (.reg [gL 2 (.mv (cS #[])),gL 3 (.mv (cB false))])
 .ret)
 .skip)))))))
 (.seq (.seq (.reg [.mt 50 (.l 0),.mt 51 (.l 5),gT 52 (bI .add 3 51 1),gL 53 (.idx (.t 50) (.t 52) (.index 9 (.tmp 50) (.tmp 52)))])
 (.block 3 (.seq (.seq (.reg [gT 55 (.bin .eql (.l 53) (.c (.d (.flat (.int .u8 34)))) (.binOp .eql 5 (.tmp 53) (.const (.int .u8 34)) 5)),gL 54 (.mv (.t 55))])
 (.cond (.l 54) .skip
 (.reg [gT 56 (.bin .eql (.l 53) (.c (.d (.flat (.int .u8 92)))) (.binOp .eql 5 (.tmp 53) (.const (.int .u8 92)) 5)),gL 54 (.mv (.t 56))])))
 (.cond (.l 54) (.reg [.mt 57 (.l 4),.mt 58 (.l 0),.mt 59 (.l 5),gT 60 (bI .add 3 59 1),.mt 61 (.l 5),gT 62 (bI .add 3 61 2),gT 63 (.sls (.t 58) (some (.t 60)) (some (.t 62))),gT 64 (b2 .add 9 57 63),gL 4 (.mv (.t 64))])
 (.seq (.reg [gT 66 (.bin .eql (.l 53) (.c (.d (.flat (.int .u8 110)))) (.binOp .eql 5 (.tmp 53) (.const (.int .u8 110)) 5)),gL 65 (.mv (.t 66))])
 (.cond (.l 65) (.reg [.mt 67 (.l 4),gT 68 (bS .add 9 67 #[10]),gL 4 (.mv (.t 68))])
 (.seq (.reg [gL 2 (.mv (cS #[])),gL 3 (.mv (cB false))])
 .ret)))))))
 (.reg [.mt 69 (.l 5),gT 70 (bI .add 3 69 2),gL 5 (.mv (.t 70))])))))))))
 (.seq (.reg [.mt 71 (.l 4),gL 2 (.mv (.t 71)),gL 3 (.mv (cB true))])
 .ret)))),[(.t 2),(.t 3)]⟩
theorem x90E : EntryOK Tryz.prog mTabs 90 (.fn x90) := ⟨fnT rfl,Tryz.f90,plans 90,keeps 90,1,Tryz.func90,rfl,by kernel_rfl,by kernel_rfl⟩
def x91 : XF := ⟨[0,2,12],[0],(.seq (.reg [gL 2 (.mv (cI 0))])
 (.seq (.seq (.drw [] [sT 3 (.mv (.l 0)),sT 4 (.nc (.t 3)),sT 5 (.fa 2 (.t 4)),sT 6 (.ld false 1 (.t 5)),sT 7 (.mv (.l 0)),sT 8 (.nc (.t 7)),sT 9 (.fa 0 (.t 8)),sT 10 (.ld false 1 (.t 9)),sT 11 (.lenr (.t 10)),sL 12 (b2 .lss 3 6 11)])
 (.cond (.l 12) (.seq (.drw [] [sT 13 (.mv (.l 0)),sT 14 (.nc (.t 13)),sT 15 (.fa 0 (.t 14)),sT 16 (.ld false 1 (.t 15)),sT 17 (.mv (.l 0)),sT 18 (.nc (.t 17)),sT 19 (.fa 2 (.t 18)),sT 20 (.ld false 1 (.t 19)),sT 21 (.ia 3 (.t 16) (.t 20)),sT 22 (.fa 2 (.t 21)),sT 23 (.ld false 1 (.t 22)),sL 2 (.mv (.t 23))])
 .ret)
 .skip))
 (.seq (.reg [.mt 24 (.l 0),gT 25 (.nc (.t 24)),gT 26 (.fa 1 (.t 25)),gT 27 (.ld false 1 (.t 26)),gL 2 (.mv (.t 27))])
 .ret))),[(.t 2)]⟩
theorem x91E : EntryOK Tryz.prog mTabs 91 (.fn x91) := ⟨fnT rfl,Tryz.f91,plans 91,keeps 91,1,Tryz.func91,rfl,by kernel_rfl,by kernel_rfl⟩
def x92 : XF := ⟨[0,2],[0],(.seq (.reg [gL 2 (.mv (cB false))])
 (.seq (.reg [.mt 3 (.l 0),gT 4 (bS .neq 9 3 #[]),.mt 5 (.t 4),.g ⟨(.t 6),(.g (.t 5) true),.mv (.l 0)⟩,.g ⟨(.t 7),(.g (.t 5) true),.idx (.t 6) (cI 0) (.index 9 (.tmp 6) (.const (.int .i64 0)))⟩,.g ⟨(.t 8),(.g (.t 5) true),.gen (.convert 5 21 (.tmp 7))⟩,.g ⟨(.t 9),(.g (.t 5) true),.cs 101 p101 [(.t 8)]⟩,gT 10 (.pick (.t 5) (.t 9) (cB false)),.mt 11 (.t 10),.g ⟨(.t 12),(.g (.t 11) true),.mv (.l 0)⟩,.g ⟨(.t 13),(.g (.t 11) true),bS .neq 9 12 #[83,116,114,105,110,103]⟩,gT 14 (.pick (.t 11) (.t 13) (cB false)),gL 2 (.mv (.t 14))])
 .ret)),[(.t 2)]⟩
theorem x92E : EntryOK Tryz.prog mTabs 92 (.fn x92) := ⟨fnT rfl,Tryz.f92,plans 92,keeps 92,1,Tryz.func92,rfl,by kernel_rfl,by kernel_rfl⟩
def x93 : XF := ⟨[0,2,7],[0],(.seq (.reg [gL 2 (.mv (cB false))])
 (.seq (.seq (.reg [.mt 3 (.l 0),gT 4 (.nc (.t 3)),gT 5 (.fa 5 (.t 4)),gT 6 (.ld false 1 (.t 5)),gL 7 (bI .gtr 3 6 40)])
 (.cond (.l 7) (.seq (.reg [.mt 8 (.l 0),gT 9 (.cs 60 p60 [(.t 8),(cI 4)])])
 (.seq (.reg [gL 2 (.mv (cB false))])
 .ret))
 .skip))
 (.seq (.reg [.mt 10 (.l 0),gT 11 (.nc (.t 10)),gT 12 (.fa 5 (.t 11)),gT 13 (.ld false 1 (.t 12)),gT 14 (bI .add 3 13 1),gT 15 (.nc (.t 10)),gT 16 (.fa 5 (.t 15)),gN (.st 1 (.t 16) (.t 14))])
 (.seq (.reg [gL 2 (.mv (cB true))])
 .ret)))),[(.t 2)]⟩
theorem x93E : EntryOK Tryz.prog mTabs 93 (.fn x93) := ⟨fnT rfl,Tryz.f93,plans 93,keeps 93,1,Tryz.func93,rfl,by kernel_rfl,by kernel_rfl⟩
def x94 : XF := ⟨[0,1,4,5,6,7,13,22,32,36,67,76,81,89,95,100,107,117,124,146,151,183],[0,1],(.seq (.reg [gL 4 (.gen (.alloc 131))])
 (.seq (.reg [.mt 8 (.l 0),gT 9 (.cs 91 p91 [(.t 8)]),gL 5 (.mv (.t 9))])
 (.seq (.reg [gL 6 (.gen (.alloc 131))])
 (.seq (.block 0 (.seq (.reg [.mt 37 (.l 0),gT 38 (.cs 64 p64 [(.t 37),(cI 0),(cI 1),(cS #[105,110,116])]),.mt 39 (.t 38),.g ⟨(.t 40),(.g (.t 39) false),.mv (.l 0)⟩,.g ⟨(.t 41),(.g (.t 39) false),.cs 64 p64 [(.t 40),(cI 0),(cI 1),(cS #[98,111,111,108,101,97,110])]⟩,gT 42 (.pick (.t 39) (cB true) (.t 41)),.mt 43 (.t 42),.g ⟨(.t 44),(.g (.t 43) false),.mv (.l 0)⟩,.g ⟨(.t 45),(.g (.t 43) false),.cs 64 p64 [(.t 44),(cI 0),(cI 1),(cS #[83,116,114,105,110,103])]⟩,gT 46 (.pick (.t 43) (cB true) (.t 45)),.mt 47 (.t 46),.g ⟨(.t 48),(.g (.t 47) false),.mv (.l 0)⟩,.g ⟨(.t 49),(.g (.t 47) false),.cs 61 p61 [(.t 48),(cI 0)]⟩,.g ⟨(.t 50),(.g (.t 47) false),.mv (.t 49)⟩,.g ⟨(.t 51),(.g (.t 50) true),.mv (.l 0)⟩,.g ⟨(.t 52),(.g (.t 50) true),.cs 64 p64 [(.t 51),(cI 1),(cI 1),(cS #[])]⟩,.g ⟨(.t 53),(.g (.t 47) false),.pick (.t 50) (.t 52) (cB false)⟩,gT 54 (.pick (.t 47) (cB true) (.t 53)),gL 36 (.mv (.t 54))])
 (.cond (.l 36) (.seq (.reg [.mt 55 (.l 0),gT 56 (.cs 68 p68 [(.t 55)]),gT 57 (.gen (.build 131 #[(0,(.const (.int .i64 1))),(2,(.tmp 56))])),gN (.st 9 (.l 6) (.t 57))])
 (.seq (.reg [.mt 58 (.l 0),gT 59 (.cs 67 p67 [(.t 58)]),gT 60 (.fa 3 (.l 6)),gN (.st 1 (.t 60) (.t 59))])
 (.seq (.reg [.mt 61 (.l 0),gT 62 (.cs 37 p37 [(.t 61),(cS #[61])])])
 (.reg [.mt 63 (.l 0),gT 64 (.cs 69 p69 [(.t 63)]),gT 65 (.gen (.buildSlice 39 1 #[(0,(.tmp 64))])),gT 66 (.fa 4 (.l 6)),gN (.st 1 (.t 66) (.t 65))]))))
 (.seq (.reg [.mt 68 (.l 0),gT 69 (.cs 39 p39 [(.t 68),(cS #[105,102])]),gL 67 (.mv (.t 69))])
 (.cond (.l 67) (.seq (.reg [.mt 70 (.l 0),gT 71 (.cs 117 p117 [(.t 70)]),.mt 72 (.l 0),gT 73 (.cs 66 p66 [(.t 72),(cB false)]),gT 74 (.gen (.build 131 #[(0,(.const (.int .i64 4))),(4,(.tmp 71)),(5,(.tmp 73))])),gN (.st 9 (.l 6) (.t 74))])
 (.seq (.seq (.reg [.mt 75 (.l 0),gL 76 (.cs 39 p39 [(.t 75),(cS #[101,108,115,101])])])
 (.cond (.l 76) (.reg [.mt 77 (.l 0),gT 78 (.cs 66 p66 [(.t 77),(cB false)]),gT 79 (.fa 6 (.l 6)),gN (.st 1 (.t 79) (.t 78))])
 .skip))
 (.seq (.reg [gT 80 (.ld true 9 (.l 6)),gN (.st 9 (.l 4) (.t 80))])
 .ret)))
 (.seq (.reg [.mt 82 (.l 0),gT 83 (.cs 39 p39 [(.t 82),(cS #[119,104,105,108,101])]),gL 81 (.mv (.t 83))])
 (.cond (.l 81) (.seq (.reg [.mt 84 (.l 0),gT 85 (.cs 117 p117 [(.t 84)]),.mt 86 (.l 0),gT 87 (.cs 66 p66 [(.t 86),(cB false)]),gT 88 (.gen (.build 131 #[(0,(.const (.int .i64 5))),(4,(.tmp 85)),(5,(.tmp 87))])),gN (.st 9 (.l 4) (.t 88))])
 .ret)
 (.seq (.reg [.mt 90 (.l 0),gT 91 (.cs 39 p39 [(.t 90),(cS #[114,101,116,117,114,110])]),gL 89 (.mv (.t 91))])
 (.cond (.l 89) (.seq (.reg [gT 92 (.gen (.build 131 #[(0,(.const (.int .i64 6)))])),gN (.st 9 (.l 6) (.t 92))])
 (.seq (.reg [.mt 93 (.l 0),gT 94 (.cs 40 p40 [(.t 93),(cS #[59])]),gL 95 (.not (.t 94))])
 (.cond (.l 95) (.reg [.mt 96 (.l 0),gT 97 (.cs 69 p69 [(.t 96)]),gT 98 (.gen (.buildSlice 39 1 #[(0,(.tmp 97))])),gT 99 (.fa 4 (.l 6)),gN (.st 1 (.t 99) (.t 98))])
 .skip)))
 (.seq (.reg [.mt 101 (.l 0),gT 102 (.cs 39 p39 [(.t 101),(cS #[112,114,105,110,116])]),gL 100 (.mv (.t 102))])
 (.cond (.l 100) (.reg [.mt 103 (.l 0),gT 104 (.cs 69 p69 [(.t 103)]),gT 105 (.gen (.buildSlice 39 1 #[(0,(.tmp 104))])),gT 106 (.gen (.build 131 #[(0,(.const (.int .i64 7))),(4,(.tmp 105))])),gN (.st 9 (.l 6) (.t 106))])
 (.seq (.reg [.mt 108 (.l 0),gT 109 (.cs 39 p39 [(.t 108),(cS #[97,115,115,101,114,116])]),gL 107 (.mv (.t 109))])
 (.cond (.l 107) (.seq (.reg [.mt 110 (.l 0),gT 111 (.cs 118 p118 [(.t 110),(cI 9999)]),gT 112 (.gen (.build 131 #[(0,(.const (.int .i64 8))),(1,(.tmp 111))])),gN (.st 9 (.l 6) (.t 112))])
 (.reg [.mt 113 (.l 0),gT 114 (.cs 69 p69 [(.t 113)]),gT 115 (.gen (.buildSlice 39 1 #[(0,(.tmp 114))])),gT 116 (.fa 4 (.l 6)),gN (.st 1 (.t 116) (.t 115))]))
 (.seq (.reg [.mt 118 (.l 0),gT 119 (.cs 39 p39 [(.t 118),(cS #[116,104,114,111,119])]),gL 117 (.mv (.t 119))])
 (.cond (.l 117) (.reg [.mt 120 (.l 0),gT 121 (.cs 69 p69 [(.t 120)]),gT 122 (.gen (.buildSlice 39 1 #[(0,(.tmp 121))])),gT 123 (.gen (.build 131 #[(0,(.const (.int .i64 9))),(4,(.tmp 122))])),gN (.st 9 (.l 6) (.t 123))])
 (.seq (.reg [.mt 125 (.l 0),gT 126 (.cs 39 p39 [(.t 125),(cS #[116,114,121])]),gL 124 (.mv (.t 126))])
 (.cond (.l 124) (.seq (.reg [.mt 127 (.l 0),gT 128 (.cs 66 p66 [(.t 127),(cB false)]),gT 129 (.gen (.build 131 #[(0,(.const (.int .i64 10))),(5,(.tmp 128))])),gN (.st 9 (.l 6) (.t 129))])
 (.seq (.reg [.mt 130 (.l 0),gT 131 (.cs 37 p37 [(.t 130),(cS #[99,97,116,99,104])])])
 (.seq (.reg [.mt 132 (.l 0),gT 133 (.cs 37 p37 [(.t 132),(cS #[40])])])
 (.seq (.reg [.mt 134 (.l 0),gT 135 (.cs 38 p38 [(.t 134)]),gT 136 (.fa 2 (.l 6)),gN (.st 1 (.t 136) (.t 135))])
 (.seq (.reg [.mt 137 (.l 0),gT 138 (.cs 67 p67 [(.t 137)]),gT 139 (.fa 3 (.l 6)),gN (.st 1 (.t 139) (.t 138))])
 (.seq (.reg [.mt 140 (.l 0),gT 141 (.cs 37 p37 [(.t 140),(cS #[41])])])
 (.seq (.reg [.mt 142 (.l 0),gT 143 (.cs 66 p66 [(.t 142),(cB false)]),gT 144 (.fa 6 (.l 6)),gN (.st 1 (.t 144) (.t 143))])
 (.seq (.seq (.reg [.mt 145 (.l 0),gL 146 (.cs 39 p39 [(.t 145),(cS #[102,105,110,97,108,108,121])])])
 (.cond (.l 146) (.reg [.mt 147 (.l 0),gT 148 (.cs 66 p66 [(.t 147),(cB false)]),gT 149 (.fa 7 (.l 6)),gN (.st 1 (.t 149) (.t 148))])
 .skip))
 (.seq (.reg [gT 150 (.ld true 9 (.l 6)),gN (.st 9 (.l 4) (.t 150))])
 .ret)))))))))
 (.seq (.reg [.mt 152 (.l 0),gT 153 (.cs 63 p63 [(.t 152),(cS #[115,117,112,101,114])]),.mt 154 (.t 153),.g ⟨(.t 155),(.g (.t 154) true),.mv (.l 0)⟩,.g ⟨(.t 156),(.g (.t 154) true),.cs 64 p64 [(.t 155),(cI 1),(cI 4),(cS #[40])]⟩,gT 157 (.pick (.t 154) (.t 156) (cB false)),gL 151 (.mv (.t 157))])
 (.cond (.l 151) (.seq (.reg [.mt 158 (.l 0),gT 159 (.nc (.t 158)),gT 160 (.fa 2 (.t 159)),gT 161 (.ld false 1 (.t 160)),gT 162 (bI .add 3 161 1),gT 163 (.nc (.t 158)),gT 164 (.fa 2 (.t 163)),gN (.st 1 (.t 164) (.t 162))])
 (.seq (.reg [.mt 165 (.l 0),gT 166 (.nc (.t 165)),gT 167 (.fa 5 (.t 166)),gT 168 (.ld false 1 (.t 167)),gT 169 (bI .sub 3 168 1),gT 170 (.nc (.t 165)),gT 171 (.fa 5 (.t 170)),gN (.st 1 (.t 171) (.t 169))])
 (.seq (.reg [.mt 172 (.l 0),gT 173 (.cs 119 p119 [(.t 172)]),gT 174 (.gen (.build 131 #[(0,(.const (.int .i64 11))),(4,(.tmp 173))])),gN (.st 9 (.l 6) (.t 174))])
 (.seq (.reg [.mt 175 (.l 0),gT 176 (.nc (.t 175)),gT 177 (.fa 5 (.t 176)),gT 178 (.ld false 1 (.t 177)),gT 179 (bI .add 3 178 1),gT 180 (.nc (.t 175)),gT 181 (.fa 5 (.t 180)),gN (.st 1 (.t 181) (.t 179))])
 (.seq (.reg [.mt 182 (.l 1),gL 183 (.not (.t 182))])
 (.cond (.l 183) (.reg [.mt 184 (.l 0),.mt 185 (.l 5),gT 186 (.cs 120 p120 [(.t 184),(.t 185)])])
 .skip))))))
 (.seq (.reg [.mt 10 (.l 0),gT 11 (.cs 69 p69 [(.t 10)]),gL 7 (.gen (.alloc 106)),gN (.st 8 (.l 7) (.t 11))])
 (.seq (.reg [.mt 12 (.l 0),gL 13 (.cs 39 p39 [(.t 12),(cS #[61])])])
 (.cond (.l 13) (.seq (.drw [(.l 0)] [sT 14 (.ld true 8 (.l 7)),sT 15 (.mv (.l 0)),.st ⟨false,false,⟨(.t 16),.yes,.cs 69 p69 [(.t 15)]⟩⟩,.st ⟨false,false,⟨(.t 17),.yes,.gen (.buildSlice 39 2 #[(0,(.tmp 14)),(1,(.tmp 16))])⟩⟩,sT 18 (.gen (.build 131 #[(0,(.const (.int .i64 2))),(4,(.tmp 17))])),.st ⟨false,true,⟨.no,.yes,.st 9 (.l 6) (.t 18)⟩⟩])
 (.seq (.reg [gT 19 (.fa 0 (.l 7)),gT 20 (.ld false 1 (.t 19)),gT 21 (.cs 121 p121 [(.t 20)]),gL 22 (.not (.t 21))])
 (.cond (.l 22) (.reg [.mt 23 (.l 0),.mt 24 (.l 5),gT 25 (.cs 120 p120 [(.t 23),(.t 24)])])
 .skip)))
 (.seq (.reg [gT 26 (.ld true 8 (.l 7)),gT 27 (.gen (.buildSlice 39 1 #[(0,(.tmp 26))])),gT 28 (.gen (.build 131 #[(0,(.const (.int .i64 3))),(4,(.tmp 27))])),gN (.st 9 (.l 6) (.t 28))])
 (.seq (.reg [gT 29 (.fa 0 (.l 7)),gT 30 (.ld false 1 (.t 29)),gT 31 (.cs 122 p122 [(.t 30)]),gL 32 (.not (.t 31))])
 (.cond (.l 32) (.reg [.mt 33 (.l 0),.mt 34 (.l 5),gT 35 (.cs 120 p120 [(.t 33),(.t 34)])])
 .skip)))))))))))))))))))))))))
 (.seq (.reg [.mt 187 (.l 0),gT 188 (.cs 37 p37 [(.t 187),(cS #[59])])])
 (.seq (.reg [gT 189 (.ld true 9 (.l 6)),gN (.st 9 (.l 4) (.t 189))])
 .ret)))))),[(.c 4 true 9)]⟩
theorem x94E : EntryOK Tryz.prog mTabs 94 (.fn x94) := ⟨fnT rfl,Tryz.f94,plans 94,keeps 94,2,Tryz.func94,rfl,by kernel_rfl,by kernel_rfl⟩
def x95 : XF := ⟨[0,1,4],[0,1],(.seq (.reg [gL 4 (.mv (cB false))])
 (.seq (.drw [] [sT 5 (.mv (.l 0)),sT 6 (.mv (.l 1)),.st ⟨false,true,⟨(.t 7),.yes,.cs 64 p64 [(.t 5),(.t 6),(cI 1),(cS #[])]⟩⟩,sT 8 (.mv (.t 7)),.st ⟨true,false,⟨(.t 9),(.g (.t 8) true),.mv (.l 0)⟩⟩,.st ⟨true,false,⟨(.t 10),(.g (.t 8) true),.nc (.t 9)⟩⟩,.st ⟨true,false,⟨(.t 11),(.g (.t 8) true),.fa 0 (.t 10)⟩⟩,.st ⟨true,false,⟨(.t 12),(.g (.t 8) true),.ld false 1 (.t 11)⟩⟩,.st ⟨true,false,⟨(.t 13),(.g (.t 8) true),.mv (.l 0)⟩⟩,.st ⟨true,false,⟨(.t 14),(.g (.t 8) true),.nc (.t 13)⟩⟩,.st ⟨true,false,⟨(.t 15),(.g (.t 8) true),.fa 2 (.t 14)⟩⟩,.st ⟨true,false,⟨(.t 16),(.g (.t 8) true),.ld false 1 (.t 15)⟩⟩,.st ⟨true,false,⟨(.t 17),(.g (.t 8) true),.mv (.l 1)⟩⟩,.st ⟨true,false,⟨(.t 18),(.g (.t 8) true),b2 .add 3 16 17⟩⟩,.st ⟨true,false,⟨(.t 19),(.g (.t 8) true),.ia 3 (.t 12) (.t 18)⟩⟩,.st ⟨true,false,⟨(.t 20),(.g (.t 8) true),.fa 1 (.t 19)⟩⟩,.st ⟨true,false,⟨(.t 21),(.g (.t 8) true),.ld false 1 (.t 20)⟩⟩,.st ⟨false,true,⟨(.t 22),(.g (.t 8) true),.cs 123 p123 [(.t 21)]⟩⟩,sT 23 (.pick (.t 8) (.t 22) (cB false)),sL 4 (.mv (.t 23))])
 .ret)),[(.t 4)]⟩
theorem x95E : EntryOK Tryz.prog mTabs 95 (.fn x95) := ⟨fnT rfl,Tryz.f95,plans 95,keeps 95,2,Tryz.func95,rfl,by kernel_rfl,by kernel_rfl⟩
def x96 : XF := ⟨[0,1,4],[0,1],(.seq (.reg [gL 4 (.mv (cB false))])
 (.seq (.reg [.mt 5 (.l 0),.mt 6 (.l 1),gT 7 (.cs 64 p64 [(.t 5),(.t 6),(cI 1),(cS #[105,110,116])]),.mt 8 (.t 7),.g ⟨(.t 9),(.g (.t 8) false),.mv (.l 0)⟩,.g ⟨(.t 10),(.g (.t 8) false),.mv (.l 1)⟩,.g ⟨(.t 11),(.g (.t 8) false),.cs 64 p64 [(.t 9),(.t 10),(cI 1),(cS #[98,111,111,108,101,97,110])]⟩,gT 12 (.pick (.t 8) (cB true) (.t 11)),.mt 13 (.t 12),.g ⟨(.t 14),(.g (.t 13) false),.mv (.l 0)⟩,.g ⟨(.t 15),(.g (.t 13) false),.mv (.l 1)⟩,.g ⟨(.t 16),(.g (.t 13) false),.cs 64 p64 [(.t 14),(.t 15),(cI 1),(cS #[83,116,114,105,110,103])]⟩,gT 17 (.pick (.t 13) (cB true) (.t 16)),.mt 18 (.t 17),.g ⟨(.t 19),(.g (.t 18) false),.mv (.l 0)⟩,.g ⟨(.t 20),(.g (.t 18) false),.mv (.l 1)⟩,.g ⟨(.t 21),(.g (.t 18) false),.cs 61 p61 [(.t 19),(.t 20)]⟩,gT 22 (.pick (.t 18) (cB true) (.t 21)),gL 4 (.mv (.t 22))])
 .ret)),[(.t 4)]⟩
theorem x96E : EntryOK Tryz.prog mTabs 96 (.fn x96) := ⟨fnT rfl,Tryz.f96,plans 96,keeps 96,2,Tryz.func96,rfl,by kernel_rfl,by kernel_rfl⟩
def x97 : XF := ⟨[0,1,4,5,6,7,9,33],[0,1],(.seq (.reg [gL 4 (.gen (.alloc 106))])
 (.seq (.seq (.reg [.mt 8 (.l 1),gL 9 (bI .gtr 3 8 6)])
 (.cond (.l 9) (.seq (.reg [.mt 10 (.l 0),gT 11 (.cs 124 p124 [(.t 10)]),gN (.st 8 (.l 4) (.t 11))])
 .ret)
 .skip))
 (.seq (.reg [.mt 12 (.l 0),.mt 13 (.l 1),gT 14 (bI .add 3 13 1),gT 15 (.cs 97 p97 [(.t 12),(.t 14)]),gL 5 (.gen (.alloc 106)),gN (.st 8 (.l 5) (.t 15))])
 (.seq (.block 0 (.loop (some [0,1,4,5]) (.seq (.seq (.drw [] [sT 16 (.mv (.l 0)),.st ⟨false,true,⟨(.t 17),.yes,.cs 64 p64 [(.t 16),(cI 0),(cI 4),(cS #[])]⟩⟩,sT 18 (.mv (.t 17)),.st ⟨true,false,⟨(.t 19),(.g (.t 18) true),.mv (.l 0)⟩⟩,.st ⟨true,false,⟨(.t 20),(.g (.t 18) true),.nc (.t 19)⟩⟩,.st ⟨true,false,⟨(.t 21),(.g (.t 18) true),.fa 0 (.t 20)⟩⟩,.st ⟨true,false,⟨(.t 22),(.g (.t 18) true),.ld false 1 (.t 21)⟩⟩,.st ⟨true,false,⟨(.t 23),(.g (.t 18) true),.mv (.l 0)⟩⟩,.st ⟨true,false,⟨(.t 24),(.g (.t 18) true),.nc (.t 23)⟩⟩,.st ⟨true,false,⟨(.t 25),(.g (.t 18) true),.fa 2 (.t 24)⟩⟩,.st ⟨true,false,⟨(.t 26),(.g (.t 18) true),.ld false 1 (.t 25)⟩⟩,.st ⟨true,false,⟨(.t 27),(.g (.t 18) true),.ia 3 (.t 22) (.t 26)⟩⟩,.st ⟨true,false,⟨(.t 28),(.g (.t 18) true),.fa 1 (.t 27)⟩⟩,.st ⟨true,false,⟨(.t 29),(.g (.t 18) true),.ld false 1 (.t 28)⟩⟩,.st ⟨true,false,⟨(.t 31),(.g (.t 18) true),.mv (.l 1)⟩⟩,.st ⟨false,false,⟨(.t 30),(.g (.t 18) true),.cs 125 p125 [(.t 29)]⟩⟩,.st ⟨true,false,⟨(.t 32),(.g (.t 18) true),b2 .eql 3 30 31⟩⟩,sL 33 (.pick (.t 18) (.t 32) (cB false))])
 (.cond (.l 33) .skip
 (.exit 0)))
 (.block 1 (.seq (.drw [] [sT 34 (.mv (.l 0)),sT 35 (.nc (.t 34)),sT 36 (.fa 0 (.t 35)),sT 37 (.ld false 1 (.t 36)),sT 38 (.mv (.l 0)),sT 39 (.nc (.t 38)),sT 40 (.fa 2 (.t 39)),sT 41 (.ld false 1 (.t 40)),sT 42 (.ia 3 (.t 37) (.t 41)),sT 43 (.fa 1 (.t 42)),sT 44 (.ld false 1 (.t 43)),sL 6 (.mv (.t 44))])
 (.seq (.reg [.mt 45 (.l 0),gT 46 (.nc (.t 45)),gT 47 (.fa 2 (.t 46)),gT 48 (.ld false 1 (.t 47)),gT 49 (bI .add 3 48 1),gT 50 (.nc (.t 45)),gT 51 (.fa 2 (.t 50)),gN (.st 1 (.t 51) (.t 49))])
 (.seq (.reg [.mt 52 (.l 0),.mt 53 (.l 1),gT 54 (bI .add 3 53 1),gT 55 (.cs 97 p97 [(.t 52),(.t 54)]),gL 7 (.gen (.alloc 106)),gN (.st 8 (.l 7) (.t 55))])
 (.reg [.mt 56 (.l 6),gT 57 (.ld true 8 (.l 5)),gT 58 (.ld true 8 (.l 7)),gT 59 (.gen (.buildSlice 39 2 #[(0,(.tmp 57)),(1,(.tmp 58))])),gT 60 (.gen (.build 106 #[(0,(.const (.int .i64 17))),(3,(.tmp 56)),(5,(.tmp 59))])),gN (.st 8 (.l 5) (.t 60))]))))))))
 (.seq (.reg [gT 61 (.ld true 8 (.l 5)),gN (.st 8 (.l 4) (.t 61))])
 .ret))))),[(.c 4 true 8)]⟩
theorem x97E : EntryOK Tryz.prog mTabs 97 (.fn x97) := ⟨fnT rfl,Tryz.f97,plans 97,keeps 97,2,Tryz.func97,rfl,by kernel_rfl,by kernel_rfl⟩
def x98 : XF := ⟨[0,2,3,4,8],[0],(.seq (.reg [gL 2 (.mv (cI 0))])
 (.seq (.reg [gL 3 (.mv (cI 0))])
 (.seq (.seq (.reg [gL 4 (.mv (cI 0))])
 (.block 0 (.loop (some [0,3,4]) (.seq (.seq (.reg [.mt 5 (.l 4),.mt 6 (.l 0),gT 7 (.lenr (.t 6)),gL 8 (b2 .lss 3 5 7)])
 (.cond (.l 8) .skip
 (.exit 0)))
 (.seq (.block 1 (.reg [.mt 11 (.l 3),.mt 12 (.l 0),.mt 13 (.l 4),gT 14 (.ia 8 (.t 12) (.t 13)),gT 15 (.ld true 8 (.t 14)),gT 16 (.cs 126 p126 [(.t 15)]),gT 17 (b2 .add 3 11 16),gL 3 (.mv (.t 17))]))
 (.reg [.mt 9 (.l 4),gT 10 (bI .add 3 9 1),gL 4 (.mv (.t 10))]))))))
 (.seq (.reg [.mt 18 (.l 3),gL 2 (.mv (.t 18))])
 .ret)))),[(.t 2)]⟩
theorem x98E : EntryOK Tryz.prog mTabs 98 (.fn x98) := ⟨fnT rfl,Tryz.f98,plans 98,keeps 98,1,Tryz.func98,rfl,by kernel_rfl,by kernel_rfl⟩
def x99 : XF := ⟨[0,2,3,4,8],[0],(.seq (.reg [gL 2 (.mv (cI 0))])
 (.seq (.reg [gL 3 (.mv (cI 0))])
 (.seq (.seq (.reg [gL 4 (.mv (cI 0))])
 (.block 0 (.loop (some [0,3,4]) (.seq (.seq (.reg [.mt 5 (.l 4),.mt 6 (.l 0),gT 7 (.lenr (.t 6)),gL 8 (b2 .lss 3 5 7)])
 (.cond (.l 8) .skip
 (.exit 0)))
 (.seq (.block 1 (.drw [] [sT 11 (.mv (.l 3)),sT 12 (bI .add 3 11 1),sT 13 (.mv (.l 0)),sT 14 (.mv (.l 4)),sT 15 (.ia 9 (.t 13) (.t 14)),sT 16 (.fa 4 (.t 15)),sT 17 (.ld false 1 (.t 16)),sT 20 (.mv (.l 0)),sT 21 (.mv (.l 4)),sT 22 (.ia 9 (.t 20) (.t 21)),sT 23 (.fa 5 (.t 22)),sT 24 (.ld false 1 (.t 23)),sT 27 (.mv (.l 0)),sT 28 (.mv (.l 4)),sT 29 (.ia 9 (.t 27) (.t 28)),sT 30 (.fa 6 (.t 29)),sT 31 (.ld false 1 (.t 30)),sT 34 (.mv (.l 0)),sT 35 (.mv (.l 4)),sT 36 (.ia 9 (.t 34) (.t 35)),sT 37 (.fa 7 (.t 36)),sT 38 (.ld false 1 (.t 37)),.st ⟨false,false,⟨(.t 18),.yes,.cs 98 p98 [(.t 17)]⟩⟩,sT 19 (b2 .add 3 12 18),.st ⟨false,false,⟨(.t 25),.yes,.cs 99 p99 [(.t 24)]⟩⟩,sT 26 (b2 .add 3 19 25),.st ⟨false,false,⟨(.t 32),.yes,.cs 99 p99 [(.t 31)]⟩⟩,sT 33 (b2 .add 3 26 32),.st ⟨false,false,⟨(.t 39),.yes,.cs 99 p99 [(.t 38)]⟩⟩,sT 40 (b2 .add 3 33 39),sL 3 (.mv (.t 40))]))
 (.reg [.mt 9 (.l 4),gT 10 (bI .add 3 9 1),gL 4 (.mv (.t 10))]))))))
 (.seq (.reg [.mt 41 (.l 3),gL 2 (.mv (.t 41))])
 .ret)))),[(.t 2)]⟩
theorem x99E : EntryOK Tryz.prog mTabs 99 (.fn x99) := ⟨fnT rfl,Tryz.f99,plans 99,keeps 99,1,Tryz.func99,rfl,by kernel_rfl,by kernel_rfl⟩
def x100 : XF := ⟨[0,1,4,5,6,10,29],[0,1],(.seq (.reg [gL 4 (.mv (cB false))])
 (.seq (.seq (.reg [gL 5 (.mv (cI 0))])
 (.block 0 (.loop (some [0,1,5]) (.seq (.seq (.reg [.mt 7 (.l 5),.mt 8 (.l 0),gT 9 (.lens (.t 8)),gL 10 (b2 .lss 3 7 9)])
 (.cond (.l 10) .skip
 (.exit 0)))
 (.seq (.block 1 (.seq (.reg [.mt 13 (.l 0),.mt 14 (.l 5),gT 15 (.idx (.t 13) (.t 14) (.index 9 (.tmp 13) (.tmp 14))),gT 16 (.gen (.convert 5 21 (.tmp 15))),gL 6 (.mv (.t 16))])
 (.seq (.reg [.mt 17 (.l 6),gT 18 (.cs 102 p102 [(.t 17)]),gT 19 (.not (.t 18)),.mt 20 (.t 19),.g ⟨(.t 21),(.g (.t 20) true),.mv (.l 6)⟩,.g ⟨(.t 22),(.g (.t 20) true),.cs 101 p101 [(.t 21)]⟩,.g ⟨(.t 23),(.g (.t 20) true),.not (.t 22)⟩,gT 24 (.pick (.t 20) (.t 23) (cB false)),.mt 25 (.t 24),.g ⟨(.t 26),(.g (.t 25) true),.mv (.l 6)⟩,.g ⟨(.t 27),(.g (.t 25) true),.cs 87 p87 [(.t 26)]⟩,.g ⟨(.t 28),(.g (.t 25) true),.not (.t 27)⟩,gL 29 (.pick (.t 25) (.t 28) (cB false))])
 (.cond (.l 29) (.seq (.reg [gL 4 (.mv (cB false))])
 .ret)
 .skip))))
 (.reg [.mt 11 (.l 5),gT 12 (bI .add 3 11 1),gL 5 (.mv (.t 12))]))))))
 (.seq (.reg [.mt 30 (.l 0),gT 31 (.lens (.t 30)),gT 32 (bI .geq 3 31 1),.mt 33 (.t 32),.g ⟨(.t 34),(.g (.t 33) true),.mv (.l 0)⟩,.g ⟨(.t 35),(.g (.t 33) true),.lens (.t 34)⟩,.g ⟨(.t 36),(.g (.t 33) true),.mv (.l 1)⟩,.g ⟨(.t 37),(.g (.t 33) true),b2 .leq 3 35 36⟩,gT 38 (.pick (.t 33) (.t 37) (cB false)),gL 4 (.mv (.t 38))])
 .ret))),[(.t 4)]⟩
theorem x100E : EntryOK Tryz.prog mTabs 100 (.fn x100) := ⟨fnT rfl,Tryz.f100,plans 100,keeps 100,2,Tryz.func100,rfl,by kernel_rfl,by kernel_rfl⟩
def x101 : XF := ⟨[0,2],[0],(.seq (.reg [gL 2 (.mv (cB false))])
 (.seq (.reg [.mt 3 (.l 0),gT 4 (.bin .geq (.t 3) (.c (.d (.flat (.int .i32 65)))) (.binOp .geq 21 (.tmp 3) (.const (.int .i32 65)) 21)),.mt 5 (.t 4),.g ⟨(.t 6),(.g (.t 5) true),.mv (.l 0)⟩,.g ⟨(.t 7),(.g (.t 5) true),.bin .leq (.t 6) (.c (.d (.flat (.int .i32 90)))) (.binOp .leq 21 (.tmp 6) (.const (.int .i32 90)) 21)⟩,gT 8 (.pick (.t 5) (.t 7) (cB false)),gL 2 (.mv (.t 8))])
 .ret)),[(.t 2)]⟩
theorem x101E : EntryOK Tryz.prog mTabs 101 (.fn x101) := ⟨fnT rfl,Tryz.f101,plans 101,keeps 101,1,Tryz.func101,rfl,by kernel_rfl,by kernel_rfl⟩
def x102 : XF := ⟨[0,2],[0],(.seq (.reg [gL 2 (.mv (cB false))])
 (.seq (.reg [.mt 3 (.l 0),gT 4 (.bin .geq (.t 3) (.c (.d (.flat (.int .i32 97)))) (.binOp .geq 21 (.tmp 3) (.const (.int .i32 97)) 21)),.mt 5 (.t 4),.g ⟨(.t 6),(.g (.t 5) true),.mv (.l 0)⟩,.g ⟨(.t 7),(.g (.t 5) true),.bin .leq (.t 6) (.c (.d (.flat (.int .i32 122)))) (.binOp .leq 21 (.tmp 6) (.const (.int .i32 122)) 21)⟩,gT 8 (.pick (.t 5) (.t 7) (cB false)),gL 2 (.mv (.t 8))])
 .ret)),[(.t 2)]⟩
theorem x102E : EntryOK Tryz.prog mTabs 102 (.fn x102) := ⟨fnT rfl,Tryz.f102,plans 102,keeps 102,1,Tryz.func102,rfl,by kernel_rfl,by kernel_rfl⟩
def x103 : XF := ⟨[0,2],[0],(.seq (.reg [gL 2 (.mv (cB false))])
 (.seq (.reg [gT 3 (.gen (.buildSlice 32 24 #[(0,(.const (.string ⟨#[98,111,111,108,101,97,110]⟩))),(1,(.const (.string ⟨#[105,110,116]⟩))),(2,(.const (.string ⟨#[118,111,105,100]⟩))),(3,(.const (.string ⟨#[99,108,97,115,115]⟩))),(4,(.const (.string ⟨#[101,120,116,101,110,100,115]⟩))),(5,(.const (.string ⟨#[115,116,97,116,105,99]⟩))),(6,(.const (.string ⟨#[110,101,119]⟩))),(7,(.const (.string ⟨#[116,104,105,115]⟩))),(8,(.const (.string ⟨#[115,117,112,101,114]⟩))),(9,(.const (.string ⟨#[110,117,108,108]⟩))),(10,(.const (.string ⟨#[116,114,117,101]⟩))),(11,(.const (.string ⟨#[102,97,108,115,101]⟩))),(12,(.const (.string ⟨#[105,102]⟩))),(13,(.const (.string ⟨#[101,108,115,101]⟩))),(14,(.const (.string ⟨#[119,104,105,108,101]⟩))),(15,(.const (.string ⟨#[114,101,116,117,114,110]⟩))),(16,(.const (.string ⟨#[112,114,105,110,116]⟩))),(17,(.const (.string ⟨#[97,115,115,101,114,116]⟩))),(18,(.const (.string ⟨#[116,104,114,111,119]⟩))),(19,(.const (.string ⟨#[116,114,121]⟩))),(20,(.const (.string ⟨#[99,97,116,99,104]⟩))),(21,(.const (.string ⟨#[102,105,110,97,108,108,121]⟩))),(22,(.const (.string ⟨#[97,115]⟩))),(23,(.const (.string ⟨#[105,115]⟩)))])),.mt 4 (.l 0),gT 5 (.cs 27 p27 [(.t 3),(.t 4)]),gL 2 (.mv (.t 5))])
 .ret)),[(.t 2)]⟩
theorem x103E : EntryOK Tryz.prog mTabs 103 (.fn x103) := ⟨fnT rfl,Tryz.f103,plans 103,keeps 103,1,Tryz.func103,rfl,by kernel_rfl,by kernel_rfl⟩
def x104 : XF := ⟨[0,2],[0],(.seq (.reg [gL 2 (.mv (cB false))])
 (.seq (.reg [gT 3 (.gen (.buildSlice 32 12 #[(0,(.const (.string ⟨#[43]⟩))),(1,(.const (.string ⟨#[45]⟩))),(2,(.const (.string ⟨#[42]⟩))),(3,(.const (.string ⟨#[47]⟩))),(4,(.const (.string ⟨#[37]⟩))),(5,(.const (.string ⟨#[64]⟩))),(6,(.const (.string ⟨#[60]⟩))),(7,(.const (.string ⟨#[60,61]⟩))),(8,(.const (.string ⟨#[61,61]⟩))),(9,(.const (.string ⟨#[33,61]⟩))),(10,(.const (.string ⟨#[38,38]⟩))),(11,(.const (.string ⟨#[124,124]⟩)))])),.mt 4 (.l 0),gT 5 (.cs 27 p27 [(.t 3),(.t 4)]),gL 2 (.mv (.t 5))])
 .ret)),[(.t 2)]⟩
theorem x104E : EntryOK Tryz.prog mTabs 104 (.fn x104) := ⟨fnT rfl,Tryz.f104,plans 104,keeps 104,1,Tryz.func104,rfl,by kernel_rfl,by kernel_rfl⟩
def x106 : XF := ⟨[0,2],[0],(.seq (.reg [gL 2 (.mv (cB false))])
 (.seq (.reg [.mt 3 (.l 0),gT 4 (bI .geq 3 3 6),.mt 5 (.t 4),.g ⟨(.t 6),(.g (.t 5) true),.mv (.l 0)⟩,.g ⟨(.t 7),(.g (.t 5) true),bI .leq 3 6 13⟩,gT 8 (.pick (.t 5) (.t 7) (cB false)),.mt 9 (.t 8),.g ⟨(.t 10),(.g (.t 9) false),.mv (.l 0)⟩,.g ⟨(.t 11),(.g (.t 9) false),bI .eql 3 10 17⟩,gT 12 (.pick (.t 9) (cB true) (.t 11)),.mt 13 (.t 12),.g ⟨(.t 14),(.g (.t 13) false),.mv (.l 0)⟩,.g ⟨(.t 15),(.g (.t 13) false),bI .eql 3 14 18⟩,gT 16 (.pick (.t 13) (cB true) (.t 15)),gL 2 (.mv (.t 16))])
 .ret)),[(.t 2)]⟩
theorem x106E : EntryOK Tryz.prog mTabs 106 (.fn x106) := ⟨fnT rfl,Tryz.f106,plans 106,keeps 106,1,Tryz.func106,rfl,by kernel_rfl,by kernel_rfl⟩
def x107 : XF := ⟨[0,2],[0],(.seq (.reg [gL 2 (.mv (cB false))])
 (.seq (.reg [.mt 3 (.l 0),gT 4 (bI .eql 3 3 9),.mt 5 (.t 4),.g ⟨(.t 6),(.g (.t 5) false),.mv (.l 0)⟩,.g ⟨(.t 7),(.g (.t 5) false),bI .eql 3 6 13⟩,gT 8 (.pick (.t 5) (cB true) (.t 7)),.mt 9 (.t 8),.g ⟨(.t 10),(.g (.t 9) false),.mv (.l 0)⟩,.g ⟨(.t 11),(.g (.t 9) false),bI .eql 3 10 14⟩,gT 12 (.pick (.t 9) (cB true) (.t 11)),.mt 13 (.t 12),.g ⟨(.t 14),(.g (.t 13) false),.mv (.l 0)⟩,.g ⟨(.t 15),(.g (.t 13) false),bI .eql 3 14 15⟩,gT 16 (.pick (.t 13) (cB true) (.t 15)),.mt 17 (.t 16),.g ⟨(.t 18),(.g (.t 17) false),.mv (.l 0)⟩,.g ⟨(.t 19),(.g (.t 17) false),bI .eql 3 18 16⟩,gT 20 (.pick (.t 17) (cB true) (.t 19)),gL 2 (.mv (.t 20))])
 .ret)),[(.t 2)]⟩
theorem x107E : EntryOK Tryz.prog mTabs 107 (.fn x107) := ⟨fnT rfl,Tryz.f107,plans 107,keeps 107,1,Tryz.func107,rfl,by kernel_rfl,by kernel_rfl⟩
def x108 : XF := ⟨[0,1,2,6,7,8,9,13,39,44,54,76],[0,1,2],(.seq (.reg [gL 6 (.mv (cB false))])
 (.seq (.seq (.reg [gL 7 (.mv (cI 0))])
 (.block 0 (.loop (some [0,1,2,7]) (.seq (.seq (.reg [.mt 10 (.l 7),.mt 11 (.l 0),gT 12 (.lenr (.t 11)),gL 13 (b2 .lss 3 10 12)])
 (.cond (.l 13) .skip
 (.exit 0)))
 (.seq (.block 1 (.seq (.reg [.mt 16 (.l 0),.mt 17 (.l 7),gT 18 (.ia 9 (.t 16) (.t 17)),gT 19 (.ld true 9 (.t 18)),gL 8 (.gen (.alloc 131)),gN (.st 9 (.l 8) (.t 19))])
 (.seq (.seq (.reg [.mt 20 (.l 1),gT 21 (bI .gtr 3 20 40),.mt 22 (.t 21),.g ⟨(.t 23),(.g (.t 22) false),.fa 0 (.l 8)⟩,.g ⟨(.t 24),(.g (.t 22) false),.ld false 1 (.t 23)⟩,.g ⟨(.t 25),(.g (.t 22) false),bI .eql 3 24 11⟩,.g ⟨(.t 26),(.g (.t 22) false),.mv (.t 25)⟩,.g ⟨(.t 27),(.g (.t 26) true),.mv (.l 2)⟩,.g ⟨(.t 28),(.g (.t 26) true),.not (.t 27)⟩,.g ⟨(.t 29),(.g (.t 26) true),.mv (.t 28)⟩,.g ⟨(.t 30),(.g (.t 29) false),.mv (.l 7)⟩,.g ⟨(.t 31),(.g (.t 29) false),bI .gtr 3 30 0⟩,.g ⟨(.t 32),(.g (.t 26) true),.pick (.t 29) (cB true) (.t 31)⟩,.g ⟨(.t 33),(.g (.t 22) false),.pick (.t 26) (.t 32) (cB false)⟩,gT 34 (.pick (.t 22) (cB true) (.t 33)),.mt 35 (.t 34),.g ⟨(.t 36),(.g (.t 35) false),.ld true 9 (.l 8)⟩,.g ⟨(.t 37),(.g (.t 35) false),.cs 127 p127 [(.t 36)]⟩,.g ⟨(.t 38),(.g (.t 35) false),.not (.t 37)⟩,gL 39 (.pick (.t 35) (cB true) (.t 38))])
 (.cond (.l 39) (.seq (.reg [gL 6 (.mv (cB false))])
 .ret)
 .skip))
 (.seq (.seq (.reg [gL 9 (.mv (cI 0))])
 (.block 2 (.loop (some [0,1,2,7,8,9]) (.seq (.seq (.reg [.mt 40 (.l 9),gT 41 (.fa 4 (.l 8)),gT 42 (.ld false 1 (.t 41)),gT 43 (.lenr (.t 42)),gL 44 (b2 .lss 3 40 43)])
 (.cond (.l 44) .skip
 (.exit 2)))
 (.seq (.block 3 (.seq (.reg [gT 47 (.fa 4 (.l 8)),gT 48 (.ld false 1 (.t 47)),.mt 49 (.l 9),gT 50 (.ia 8 (.t 48) (.t 49)),gT 51 (.ld true 8 (.t 50)),.mt 52 (.l 1),gT 53 (.cs 74 p74 [(.t 51),(.t 52)]),gL 54 (.not (.t 53))])
 (.cond (.l 54) (.seq (.reg [gL 6 (.mv (cB false))])
 .ret)
 .skip)))
 (.reg [.mt 45 (.l 9),gT 46 (bI .add 3 45 1),gL 9 (.mv (.t 46))]))))))
 (.seq (.reg [gT 55 (.fa 5 (.l 8)),gT 56 (.ld false 1 (.t 55)),.mt 57 (.l 1),gT 58 (bI .add 3 57 1),gT 59 (.cs 108 p108 [(.t 56),(.t 58),(cB false)]),gT 60 (.not (.t 59)),.mt 61 (.t 60),.g ⟨(.t 62),(.g (.t 61) false),.fa 6 (.l 8)⟩,.g ⟨(.t 63),(.g (.t 61) false),.ld false 1 (.t 62)⟩,.g ⟨(.t 64),(.g (.t 61) false),.mv (.l 1)⟩,.g ⟨(.t 65),(.g (.t 61) false),bI .add 3 64 1⟩,.g ⟨(.t 66),(.g (.t 61) false),.cs 108 p108 [(.t 63),(.t 65),(cB false)]⟩,.g ⟨(.t 67),(.g (.t 61) false),.not (.t 66)⟩,gT 68 (.pick (.t 61) (cB true) (.t 67)),.mt 69 (.t 68),.g ⟨(.t 70),(.g (.t 69) false),.fa 7 (.l 8)⟩,.g ⟨(.t 71),(.g (.t 69) false),.ld false 1 (.t 70)⟩,.g ⟨(.t 72),(.g (.t 69) false),.mv (.l 1)⟩,.g ⟨(.t 73),(.g (.t 69) false),bI .add 3 72 1⟩,.g ⟨(.t 74),(.g (.t 69) false),.cs 108 p108 [(.t 71),(.t 73),(cB false)]⟩,.g ⟨(.t 75),(.g (.t 69) false),.not (.t 74)⟩,gL 76 (.pick (.t 69) (cB true) (.t 75))])
 (.cond (.l 76) (.seq (.reg [gL 6 (.mv (cB false))])
 .ret)
 .skip))))))
 (.reg [.mt 14 (.l 7),gT 15 (bI .add 3 14 1),gL 7 (.mv (.t 15))]))))))
 (.seq (.reg [gL 6 (.mv (cB true))])
 .ret))),[(.t 6)]⟩
theorem x108E : EntryOK Tryz.prog mTabs 108 (.fn x108) := ⟨fnT rfl,Tryz.f108,plans 108,keeps 108,3,Tryz.func108,rfl,by kernel_rfl,by kernel_rfl⟩
def x118 : XF := ⟨[0,1,4,5,6,7,10,27,41],[0,1],(.seq (.reg [gL 4 (.mv (.c (.d (.flat (.int .i32 0)))))])
 (.seq (.seq (.reg [.mt 8 (.l 0),gT 9 (.cs 64 p64 [(.t 8),(cI 0),(cI 2),(cS #[])]),gL 10 (.not (.t 9))])
 (.cond (.l 10) (.seq (.reg [.mt 11 (.l 0),gT 12 (.cs 60 p60 [(.t 11),(cI 3)])])
 (.seq (.reg [gL 4 (.mv (.c (.d (.flat (.int .i32 0)))))])
 .ret))
 .skip))
 (.seq (.drw [] [sT 13 (.mv (.l 0)),sT 14 (.nc (.t 13)),sT 15 (.fa 0 (.t 14)),sT 16 (.ld false 1 (.t 15)),sT 17 (.mv (.l 0)),sT 18 (.nc (.t 17)),sT 19 (.fa 2 (.t 18)),sT 20 (.ld false 1 (.t 19)),sT 21 (.ia 3 (.t 16) (.t 20)),sT 22 (.fa 1 (.t 21)),sT 23 (.ld false 1 (.t 22)),sL 5 (.mv (.t 23))])
 (.seq (.reg [gL 6 (.mv (cI 0))])
 (.seq (.seq (.reg [gL 7 (.mv (cI 0))])
 (.block 0 (.loop (some [0,1,5,6,7]) (.seq (.seq (.reg [.mt 24 (.l 7),.mt 25 (.l 5),gT 26 (.lens (.t 25)),gL 27 (b2 .lss 3 24 26)])
 (.cond (.l 27) .skip
 (.exit 0)))
 (.seq (.block 1 (.reg [.mt 30 (.l 6),gT 31 (bI .mul 3 30 10),.mt 32 (.l 5),.mt 33 (.l 7),gT 34 (.idx (.t 32) (.t 33) (.index 9 (.tmp 32) (.tmp 33))),gT 35 (.bin .sub (.t 34) (.c (.d (.flat (.int .u8 48)))) (.binOp .sub 5 (.tmp 34) (.const (.int .u8 48)) 5)),gT 36 (.gen (.convert 5 3 (.tmp 35))),gT 37 (b2 .add 3 31 36),gT 38 (.gen (.call { callee := (.builtin .min),args := #[(.tmp 37),(.const (.int .i64 1099511627776))],argTypes := #[3,3] })),gL 6 (.mv (.t 38))]))
 (.reg [.mt 28 (.l 7),gT 29 (bI .add 3 28 1),gL 7 (.mv (.t 29))]))))))
 (.seq (.seq (.reg [.mt 39 (.l 6),.mt 40 (.l 1),gL 41 (b2 .gtr 3 39 40)])
 (.cond (.l 41) (.seq (.reg [.mt 42 (.l 0),gT 43 (.cs 60 p60 [(.t 42),(cI 5)])])
 (.seq (.reg [gL 4 (.mv (.c (.d (.flat (.int .i32 0)))))])
 .ret))
 .skip))
 (.seq (.reg [.mt 44 (.l 0),gT 45 (.nc (.t 44)),gT 46 (.fa 2 (.t 45)),gT 47 (.ld false 1 (.t 46)),gT 48 (bI .add 3 47 1),gT 49 (.nc (.t 44)),gT 50 (.fa 2 (.t 49)),gN (.st 1 (.t 50) (.t 48))])
 (.seq (.reg [.mt 51 (.l 6),gT 52 (.gen (.convert 3 21 (.tmp 51))),gL 4 (.mv (.t 52))])
 .ret)))))))),[(.t 4)]⟩
theorem x118E : EntryOK Tryz.prog mTabs 118 (.fn x118) := ⟨fnT rfl,Tryz.f118,plans 118,keeps 118,2,Tryz.func118,rfl,by kernel_rfl,by kernel_rfl⟩
def x119 : XF := ⟨[0,2,3,6,11,33,41],[0],(.seq (.reg [gL 2 (.mv (.c (.tight [] 0)))])
 (.seq (.seq (.reg [.mt 4 (.l 0),gT 5 (.cs 40 p40 [(.t 4),(cS #[40])]),gL 6 (.not (.t 5))])
 (.cond (.l 6) (.seq (.reg [.mt 7 (.l 0),gT 8 (.cs 60 p60 [(.t 7),(cI 3)])])
 (.seq (.reg [gL 2 (.mv (.c (.tight [] 0)))])
 .ret))
 .skip))
 (.seq (.seq (.reg [.mt 9 (.l 0),gT 10 (.cs 93 p93 [(.t 9)]),gL 11 (.not (.t 10))])
 (.cond (.l 11) (.seq (.reg [gL 2 (.mv (.c (.tight [] 0)))])
 .ret)
 .skip))
 (.seq (.reg [.mt 12 (.l 0),gT 13 (.nc (.t 12)),gT 14 (.fa 2 (.t 13)),gT 15 (.ld false 1 (.t 14)),gT 16 (bI .add 3 15 1),gT 17 (.nc (.t 12)),gT 18 (.fa 2 (.t 17)),gN (.st 1 (.t 18) (.t 16))])
 (.seq (.reg [gL 3 (.mv (.c (.tight [] 0)))])
 (.seq (.block 0 (.loop (some [0,3]) (.seq (.seq (.reg [.mt 19 (.l 0),gT 20 (.nc (.t 19)),gT 21 (.fa 3 (.t 20)),gT 22 (.ld false 1 (.t 21)),gT 23 (bI .eql 3 22 0),.mt 24 (.t 23),.g ⟨(.t 25),(.g (.t 24) true),.mv (.l 3)⟩,.g ⟨(.t 26),(.g (.t 24) true),.lenr (.t 25)⟩,.g ⟨(.t 27),(.g (.t 24) true),bI .gtr 3 26 0⟩,.g ⟨(.t 28),(.g (.t 24) true),.mv (.t 27)⟩,.g ⟨(.t 29),(.g (.t 28) false),.mv (.l 0)⟩,.g ⟨(.t 30),(.g (.t 28) false),.cs 40 p40 [(.t 29),(cS #[41])]⟩,.g ⟨(.t 31),(.g (.t 28) false),.not (.t 30)⟩,.g ⟨(.t 32),(.g (.t 24) true),.pick (.t 28) (cB true) (.t 31)⟩,gL 33 (.pick (.t 24) (.t 32) (cB false))])
 (.cond (.l 33) .skip
 (.exit 0)))
 (.block 1 (.seq (.reg [.mt 34 (.l 3),.mt 35 (.l 0),gT 36 (.cs 69 p69 [(.t 35)]),gT 37 (.gen (.buildSlice 39 1 #[(0,(.tmp 36))])),gT 38 (.gen (.call { callee := (.builtin .append),args := #[(.tmp 34),(.tmp 37)],argTypes := #[39,39] })),gL 3 (.mv (.t 38))])
 (.seq (.reg [.mt 39 (.l 0),gT 40 (.cs 39 p39 [(.t 39),(cS #[44])]),gL 41 (.not (.t 40))])
 (.cond (.l 41) (.exit 0)
 .skip)))))))
 (.seq (.reg [.mt 42 (.l 0),gT 43 (.cs 37 p37 [(.t 42),(cS #[41])])])
 (.seq (.reg [.mt 44 (.l 0),gT 45 (.nc (.t 44)),gT 46 (.fa 5 (.t 45)),gT 47 (.ld false 1 (.t 46)),gT 48 (bI .sub 3 47 1),gT 49 (.nc (.t 44)),gT 50 (.fa 5 (.t 49)),gN (.st 1 (.t 50) (.t 48))])
 (.seq (.reg [.mt 51 (.l 3),gL 2 (.mv (.t 51))])
 .ret))))))))),[(.t 2)]⟩
theorem x119E : EntryOK Tryz.prog mTabs 119 (.fn x119) := ⟨fnT rfl,Tryz.f119,plans 119,keeps 119,1,Tryz.func119,rfl,by kernel_rfl,by kernel_rfl⟩
def x121 : XF := ⟨[0,2],[0],(.seq (.reg [gL 2 (.mv (cB false))])
 (.seq (.reg [.mt 3 (.l 0),gT 4 (bI .eql 3 3 6),.mt 5 (.t 4),.g ⟨(.t 6),(.g (.t 5) false),.mv (.l 0)⟩,.g ⟨(.t 7),(.g (.t 5) false),bI .eql 3 6 7⟩,gT 8 (.pick (.t 5) (cB true) (.t 7)),.mt 9 (.t 8),.g ⟨(.t 10),(.g (.t 9) false),.mv (.l 0)⟩,.g ⟨(.t 11),(.g (.t 9) false),bI .eql 3 10 8⟩,gT 12 (.pick (.t 9) (cB true) (.t 11)),.mt 13 (.t 12),.g ⟨(.t 14),(.g (.t 13) false),.mv (.l 0)⟩,.g ⟨(.t 15),(.g (.t 13) false),bI .eql 3 14 9⟩,gT 16 (.pick (.t 13) (cB true) (.t 15)),gL 2 (.mv (.t 16))])
 .ret)),[(.t 2)]⟩
theorem x121E : EntryOK Tryz.prog mTabs 121 (.fn x121) := ⟨fnT rfl,Tryz.f121,plans 121,keeps 121,1,Tryz.func121,rfl,by kernel_rfl,by kernel_rfl⟩
def x122 : XF := ⟨[0,2],[0],(.seq (.reg [gL 2 (.mv (cB false))])
 (.seq (.reg [.mt 3 (.l 0),gT 4 (bI .eql 3 3 10),.mt 5 (.t 4),.g ⟨(.t 6),(.g (.t 5) false),.mv (.l 0)⟩,.g ⟨(.t 7),(.g (.t 5) false),bI .eql 3 6 11⟩,gT 8 (.pick (.t 5) (cB true) (.t 7)),.mt 9 (.t 8),.g ⟨(.t 10),(.g (.t 9) false),.mv (.l 0)⟩,.g ⟨(.t 11),(.g (.t 9) false),bI .eql 3 10 12⟩,gT 12 (.pick (.t 9) (cB true) (.t 11)),.mt 13 (.t 12),.g ⟨(.t 14),(.g (.t 13) false),.mv (.l 0)⟩,.g ⟨(.t 15),(.g (.t 13) false),bI .eql 3 14 13⟩,gT 16 (.pick (.t 13) (cB true) (.t 15)),.mt 17 (.t 16),.g ⟨(.t 18),(.g (.t 17) false),.mv (.l 0)⟩,.g ⟨(.t 19),(.g (.t 17) false),bI .eql 3 18 14⟩,gT 20 (.pick (.t 17) (cB true) (.t 19)),gL 2 (.mv (.t 20))])
 .ret)),[(.t 2)]⟩
theorem x122E : EntryOK Tryz.prog mTabs 122 (.fn x122) := ⟨fnT rfl,Tryz.f122,plans 122,keeps 122,1,Tryz.func122,rfl,by kernel_rfl,by kernel_rfl⟩
def x123 : XF := ⟨[0,2],[0],(.seq (.reg [gL 2 (.mv (cB false))])
 (.seq (.reg [.mt 3 (.l 0),gT 4 (bS .neq 9 3 #[]),.mt 5 (.t 4),.g ⟨(.t 6),(.g (.t 5) true),.mv (.l 0)⟩,.g ⟨(.t 7),(.g (.t 5) true),.idx (.t 6) (cI 0) (.index 9 (.tmp 6) (.const (.int .i64 0)))⟩,.g ⟨(.t 8),(.g (.t 5) true),.gen (.convert 5 21 (.tmp 7))⟩,.g ⟨(.t 9),(.g (.t 5) true),.cs 102 p102 [(.t 8)]⟩,gT 10 (.pick (.t 5) (.t 9) (cB false)),.mt 11 (.t 10),.g ⟨(.t 12),(.g (.t 11) true),.mv (.l 0)⟩,.g ⟨(.t 13),(.g (.t 11) true),.cs 103 p103 [(.t 12)]⟩,.g ⟨(.t 14),(.g (.t 11) true),.not (.t 13)⟩,gT 15 (.pick (.t 11) (.t 14) (cB false)),gL 2 (.mv (.t 15))])
 .ret)),[(.t 2)]⟩
theorem x123E : EntryOK Tryz.prog mTabs 123 (.fn x123) := ⟨fnT rfl,Tryz.f123,plans 123,keeps 123,1,Tryz.func123,rfl,by kernel_rfl,by kernel_rfl⟩
def x124 : XF := ⟨[0,2,3,4,14,28],[0],(.seq (.reg [gL 2 (.gen (.alloc 106))])
 (.seq (.seq (.reg [.mt 5 (.l 0),gT 6 (.cs 40 p40 [(.t 5),(cS #[45])]),.mt 7 (.t 6),.g ⟨(.t 8),(.g (.t 7) false),.mv (.l 0)⟩,.g ⟨(.t 9),(.g (.t 7) false),.cs 40 p40 [(.t 8),(cS #[33])]⟩,gT 10 (.pick (.t 7) (cB true) (.t 9)),.mt 11 (.t 10),.g ⟨(.t 12),(.g (.t 11) false),.mv (.l 0)⟩,.g ⟨(.t 13),(.g (.t 11) false),.cs 40 p40 [(.t 12),(cS #[35])]⟩,gL 14 (.pick (.t 11) (cB true) (.t 13))])
 (.cond (.l 14) (.seq (.drw [] [sT 15 (.mv (.l 0)),sT 16 (.nc (.t 15)),sT 17 (.fa 0 (.t 16)),sT 18 (.ld false 1 (.t 17)),sT 19 (.mv (.l 0)),sT 20 (.nc (.t 19)),sT 21 (.fa 2 (.t 20)),sT 22 (.ld false 1 (.t 21)),sT 23 (.ia 3 (.t 18) (.t 22)),sT 24 (.fa 1 (.t 23)),sT 25 (.ld false 1 (.t 24)),sL 3 (.mv (.t 25))])
 (.seq (.seq (.reg [.mt 26 (.l 0),gT 27 (.cs 93 p93 [(.t 26)]),gL 28 (.not (.t 27))])
 (.cond (.l 28) (.seq (.reg [gT 29 (.gen (.build 106 #[])),gN (.st 8 (.l 2) (.t 29))])
 .ret)
 .skip))
 (.seq (.reg [.mt 30 (.l 0),gT 31 (.nc (.t 30)),gT 32 (.fa 2 (.t 31)),gT 33 (.ld false 1 (.t 32)),gT 34 (bI .add 3 33 1),gT 35 (.nc (.t 30)),gT 36 (.fa 2 (.t 35)),gN (.st 1 (.t 36) (.t 34))])
 (.seq (.reg [.mt 37 (.l 0),gT 38 (.cs 124 p124 [(.t 37)]),gL 4 (.gen (.alloc 106)),gN (.st 8 (.l 4) (.t 38))])
 (.seq (.reg [.mt 39 (.l 0),gT 40 (.nc (.t 39)),gT 41 (.fa 5 (.t 40)),gT 42 (.ld false 1 (.t 41)),gT 43 (bI .sub 3 42 1),gT 44 (.nc (.t 39)),gT 45 (.fa 5 (.t 44)),gN (.st 1 (.t 45) (.t 43))])
 (.seq (.reg [.mt 46 (.l 3),gT 47 (.ld true 8 (.l 4)),gT 48 (.gen (.buildSlice 39 1 #[(0,(.tmp 47))])),gT 49 (.gen (.build 106 #[(0,(.const (.int .i64 18))),(3,(.tmp 46)),(5,(.tmp 48))])),gN (.st 8 (.l 2) (.t 49))])
 .ret))))))
 .skip))
 (.seq (.reg [.mt 50 (.l 0),.mt 51 (.l 0),gT 52 (.cs 142 p142 [(.t 51)]),gT 53 (.cs 141 p141 [(.t 50),(.t 52)]),gN (.st 8 (.l 2) (.t 53))])
 .ret))),[(.c 2 true 8)]⟩
theorem x124E : EntryOK Tryz.prog mTabs 124 (.fn x124) := ⟨fnT rfl,Tryz.f124,plans 124,keeps 124,1,Tryz.func124,rfl,by kernel_rfl,by kernel_rfl⟩
def x125 : XF := ⟨[0,2,3,4,6,8,11,14,17],[0],(.seq (.reg [gL 2 (.mv (cI 0))])
 (.seq (.seq (.reg [gL 3 (.mv (.l 0))])
 (.block 0 (.seq (.reg [gT 5 (.bin .eql (.l 3) (cS #[124,124]) (.binOp .eql 9 (.tmp 3) (.const (.string ⟨#[124,124]⟩)) 9)),gL 4 (.mv (.t 5))])
 (.cond (.l 4) (.seq (.reg [gL 2 (.mv (cI 1))])
 .ret)
 (.seq (.reg [gT 7 (.bin .eql (.l 3) (cS #[38,38]) (.binOp .eql 9 (.tmp 3) (.const (.string ⟨#[38,38]⟩)) 9)),gL 6 (.mv (.t 7))])
 (.cond (.l 6) (.seq (.reg [gL 2 (.mv (cI 2))])
 .ret)
 (.seq (.seq (.reg [gT 9 (.bin .eql (.l 3) (cS #[61,61]) (.binOp .eql 9 (.tmp 3) (.const (.string ⟨#[61,61]⟩)) 9)),gL 8 (.mv (.t 9))])
 (.cond (.l 8) .skip
 (.reg [gT 10 (.bin .eql (.l 3) (cS #[33,61]) (.binOp .eql 9 (.tmp 3) (.const (.string ⟨#[33,61]⟩)) 9)),gL 8 (.mv (.t 10))])))
 (.cond (.l 8) (.seq (.reg [gL 2 (.mv (cI 3))])
 .ret)
 (.seq (.seq (.reg [gT 12 (.bin .eql (.l 3) (cS #[60]) (.binOp .eql 9 (.tmp 3) (.const (.string ⟨#[60]⟩)) 9)),gL 11 (.mv (.t 12))])
 (.cond (.l 11) .skip
 (.reg [gT 13 (.bin .eql (.l 3) (cS #[60,61]) (.binOp .eql 9 (.tmp 3) (.const (.string ⟨#[60,61]⟩)) 9)),gL 11 (.mv (.t 13))])))
 (.cond (.l 11) (.seq (.reg [gL 2 (.mv (cI 4))])
 .ret)
 (.seq (.seq (.reg [gT 15 (.bin .eql (.l 3) (cS #[43]) (.binOp .eql 9 (.tmp 3) (.const (.string ⟨#[43]⟩)) 9)),gL 14 (.mv (.t 15))])
 (.cond (.l 14) .skip
 (.reg [gT 16 (.bin .eql (.l 3) (cS #[45]) (.binOp .eql 9 (.tmp 3) (.const (.string ⟨#[45]⟩)) 9)),gL 14 (.mv (.t 16))])))
 (.cond (.l 14) (.seq (.reg [gL 2 (.mv (cI 5))])
 .ret)
 (.seq (.seq (.reg [gT 18 (.bin .eql (.l 3) (cS #[42]) (.binOp .eql 9 (.tmp 3) (.const (.string ⟨#[42]⟩)) 9)),gL 17 (.mv (.t 18))])
 (.cond (.l 17) .skip
 (.seq (.reg [gT 19 (.bin .eql (.l 3) (cS #[47]) (.binOp .eql 9 (.tmp 3) (.const (.string ⟨#[47]⟩)) 9)),gL 17 (.mv (.t 19))])
 (.cond (.l 17) .skip
 (.seq (.reg [gT 20 (.bin .eql (.l 3) (cS #[37]) (.binOp .eql 9 (.tmp 3) (.const (.string ⟨#[37]⟩)) 9)),gL 17 (.mv (.t 20))])
 (.cond (.l 17) .skip
 (.reg [gT 21 (.bin .eql (.l 3) (cS #[64]) (.binOp .eql 9 (.tmp 3) (.const (.string ⟨#[64]⟩)) 9)),gL 17 (.mv (.t 21))])))))))
 (.cond (.l 17) (.seq (.reg [gL 2 (.mv (cI 6))])
 .ret)
 .skip))))))))))))))
 (.seq (.reg [gL 2 (.mv (cI 0))])
 .ret))),[(.t 2)]⟩
theorem x125E : EntryOK Tryz.prog mTabs 125 (.fn x125) := ⟨fnT rfl,Tryz.f125,plans 125,keeps 125,1,Tryz.func125,rfl,by kernel_rfl,by kernel_rfl⟩
def x126 : XF := ⟨[0,1,2],[0],(.seq (.reg [gL 1 (.gen (.box 106 (.tmp 0))),gL 2 (.mv (cI 0))])
 (.seq (.reg [gT 3 (.fa 5 (.l 1)),gT 4 (.ld false 1 (.t 3)),gT 5 (.cs 98 p98 [(.t 4)]),gT 6 (.bin .add (cI 1) (.t 5) (.binOp .add 3 (.const (.int .i64 1)) (.tmp 5) 3)),gL 2 (.mv (.t 6))])
 .ret)),[(.t 2)]⟩
theorem x126E : EntryOK Tryz.prog mTabs 126 (.fn x126) := ⟨fnT rfl,Tryz.f126,plans 126,keeps 126,1,Tryz.func126,rfl,by kernel_rfl,by kernel_rfl⟩
def x127 : XF := ⟨[0,1,2,3,4,5,6,7,37,38,66,90,114,124,137,153,170,203,222],[0],(.seq (.reg [gL 1 (.gen (.box 131 (.tmp 0))),gL 2 (.mv (cB false))])
 (.seq (.drw [] [sT 8 (.fa 4 (.l 1)),sT 9 (.ld false 1 (.t 8)),sT 10 (.lenr (.t 9)),sT 11 (.fa 5 (.l 1)),sT 12 (.ld false 1 (.t 11)),sT 13 (.lenr (.t 12)),sT 14 (bI .eql 3 13 0),sT 15 (.fa 6 (.l 1)),sT 16 (.ld false 1 (.t 15)),sT 17 (.lenr (.t 16)),sT 18 (bI .eql 3 17 0),sT 19 (.fa 7 (.l 1)),sT 20 (.ld false 1 (.t 19)),sT 21 (.lenr (.t 20)),sT 22 (bI .eql 3 21 0),sL 3 (.mv (.t 10)),sL 4 (.mv (.t 14)),sL 5 (.mv (.t 18)),sL 6 (.mv (.t 22))])
 (.seq (.reg [gT 23 (.fa 2 (.l 1)),gT 24 (.ld false 1 (.t 23)),gT 25 (bS .eql 9 24 #[]),.mt 26 (.t 25),.g ⟨(.t 27),(.g (.t 26) true),.fa 3 (.l 1)⟩,.g ⟨(.t 28),(.g (.t 26) true),.ld false 1 (.t 27)⟩,.g ⟨(.t 29),(.g (.t 26) true),bS .eql 9 28 #[]⟩,gT 30 (.pick (.t 26) (.t 29) (cB false)),.mt 31 (.t 30),.g ⟨(.t 32),(.g (.t 31) true),.fa 1 (.l 1)⟩,.g ⟨(.t 33),(.g (.t 31) true),.ld false 1 (.t 32)⟩,.g ⟨(.t 34),(.g (.t 31) true),.bin .eql (.t 33) (.c (.d (.flat (.int .i32 0)))) (.binOp .eql 21 (.tmp 33) (.const (.int .i32 0)) 21)⟩,gT 35 (.pick (.t 31) (.t 34) (cB false)),gL 7 (.mv (.t 35))])
 (.seq (.seq (.reg [gT 36 (.fa 0 (.l 1)),gL 37 (.ld false 1 (.t 36))])
 (.block 0 (.seq (.reg [gT 39 (.bin .eql (.l 37) (cI 1) (.binOp .eql 3 (.tmp 37) (.const (.int .i64 1)) 3)),gL 38 (.mv (.t 39))])
 (.cond (.l 38) (.seq (.reg [.mt 40 (.l 3),gT 41 (bI .eql 3 40 1),.mt 42 (.t 41),.g ⟨(.t 43),(.g (.t 42) true),.mv (.l 4)⟩,gT 44 (.pick (.t 42) (.t 43) (cB false)),.mt 45 (.t 44),.g ⟨(.t 46),(.g (.t 45) true),.mv (.l 5)⟩,gT 47 (.pick (.t 45) (.t 46) (cB false)),.mt 48 (.t 47),.g ⟨(.t 49),(.g (.t 48) true),.mv (.l 6)⟩,gT 50 (.pick (.t 48) (.t 49) (cB false)),.mt 51 (.t 50),.g ⟨(.t 52),(.g (.t 51) true),.fa 2 (.l 1)⟩,.g ⟨(.t 53),(.g (.t 51) true),.ld false 1 (.t 52)⟩,.g ⟨(.t 54),(.g (.t 51) true),.cs 72 p72 [(.t 53)]⟩,gT 55 (.pick (.t 51) (.t 54) (cB false)),.mt 56 (.t 55),.g ⟨(.t 57),(.g (.t 56) true),.fa 3 (.l 1)⟩,.g ⟨(.t 58),(.g (.t 56) true),.ld false 1 (.t 57)⟩,.g ⟨(.t 59),(.g (.t 56) true),.cs 73 p73 [(.t 58)]⟩,gT 60 (.pick (.t 56) (.t 59) (cB false)),.mt 61 (.t 60),.g ⟨(.t 62),(.g (.t 61) true),.fa 1 (.l 1)⟩,.g ⟨(.t 63),(.g (.t 61) true),.ld false 1 (.t 62)⟩,.g ⟨(.t 64),(.g (.t 61) true),.bin .eql (.t 63) (.c (.d (.flat (.int .i32 0)))) (.binOp .eql 21 (.tmp 63) (.const (.int .i32 0)) 21)⟩,gT 65 (.pick (.t 61) (.t 64) (cB false)),gL 2 (.mv (.t 65))])
 .ret)
 (.seq (.reg [gT 67 (.bin .eql (.l 37) (cI 2) (.binOp .eql 3 (.tmp 37) (.const (.int .i64 2)) 3)),gL 66 (.mv (.t 67))])
 (.cond (.l 66) (.seq (.reg [.mt 68 (.l 3),gT 69 (bI .eql 3 68 2),.mt 70 (.t 69),.g ⟨(.t 71),(.g (.t 70) true),.mv (.l 4)⟩,gT 72 (.pick (.t 70) (.t 71) (cB false)),.mt 73 (.t 72),.g ⟨(.t 74),(.g (.t 73) true),.mv (.l 5)⟩,gT 75 (.pick (.t 73) (.t 74) (cB false)),.mt 76 (.t 75),.g ⟨(.t 77),(.g (.t 76) true),.mv (.l 6)⟩,gT 78 (.pick (.t 76) (.t 77) (cB false)),.mt 79 (.t 78),.g ⟨(.t 80),(.g (.t 79) true),.mv (.l 7)⟩,gT 81 (.pick (.t 79) (.t 80) (cB false)),.mt 82 (.t 81),.g ⟨(.t 83),(.g (.t 82) true),.fa 4 (.l 1)⟩,.g ⟨(.t 84),(.g (.t 82) true),.ld false 1 (.t 83)⟩,.g ⟨(.t 85),(.g (.t 82) true),.ia 8 (.t 84) (cI 0)⟩,.g ⟨(.t 86),(.g (.t 82) true),.fa 0 (.t 85)⟩,.g ⟨(.t 87),(.g (.t 82) true),.ld false 1 (.t 86)⟩,.g ⟨(.t 88),(.g (.t 82) true),.cs 121 p121 [(.t 87)]⟩,gT 89 (.pick (.t 82) (.t 88) (cB false)),gL 2 (.mv (.t 89))])
 .ret)
 (.seq (.reg [gT 91 (.bin .eql (.l 37) (cI 3) (.binOp .eql 3 (.tmp 37) (.const (.int .i64 3)) 3)),gL 90 (.mv (.t 91))])
 (.cond (.l 90) (.seq (.reg [.mt 92 (.l 3),gT 93 (bI .eql 3 92 1),.mt 94 (.t 93),.g ⟨(.t 95),(.g (.t 94) true),.mv (.l 4)⟩,gT 96 (.pick (.t 94) (.t 95) (cB false)),.mt 97 (.t 96),.g ⟨(.t 98),(.g (.t 97) true),.mv (.l 5)⟩,gT 99 (.pick (.t 97) (.t 98) (cB false)),.mt 100 (.t 99),.g ⟨(.t 101),(.g (.t 100) true),.mv (.l 6)⟩,gT 102 (.pick (.t 100) (.t 101) (cB false)),.mt 103 (.t 102),.g ⟨(.t 104),(.g (.t 103) true),.mv (.l 7)⟩,gT 105 (.pick (.t 103) (.t 104) (cB false)),.mt 106 (.t 105),.g ⟨(.t 107),(.g (.t 106) true),.fa 4 (.l 1)⟩,.g ⟨(.t 108),(.g (.t 106) true),.ld false 1 (.t 107)⟩,.g ⟨(.t 109),(.g (.t 106) true),.ia 8 (.t 108) (cI 0)⟩,.g ⟨(.t 110),(.g (.t 106) true),.fa 0 (.t 109)⟩,.g ⟨(.t 111),(.g (.t 106) true),.ld false 1 (.t 110)⟩,.g ⟨(.t 112),(.g (.t 106) true),.cs 122 p122 [(.t 111)]⟩,gT 113 (.pick (.t 106) (.t 112) (cB false)),gL 2 (.mv (.t 113))])
 .ret)
 (.seq (.reg [gT 115 (.bin .eql (.l 37) (cI 4) (.binOp .eql 3 (.tmp 37) (.const (.int .i64 4)) 3)),gL 114 (.mv (.t 115))])
 (.cond (.l 114) (.seq (.reg [.mt 116 (.l 3),gT 117 (bI .eql 3 116 1),.mt 118 (.t 117),.g ⟨(.t 119),(.g (.t 118) true),.mv (.l 6)⟩,gT 120 (.pick (.t 118) (.t 119) (cB false)),.mt 121 (.t 120),.g ⟨(.t 122),(.g (.t 121) true),.mv (.l 7)⟩,gT 123 (.pick (.t 121) (.t 122) (cB false)),gL 2 (.mv (.t 123))])
 .ret)
 (.seq (.reg [gT 125 (.bin .eql (.l 37) (cI 5) (.binOp .eql 3 (.tmp 37) (.const (.int .i64 5)) 3)),gL 124 (.mv (.t 125))])
 (.cond (.l 124) (.seq (.reg [.mt 126 (.l 3),gT 127 (bI .eql 3 126 1),.mt 128 (.t 127),.g ⟨(.t 129),(.g (.t 128) true),.mv (.l 5)⟩,gT 130 (.pick (.t 128) (.t 129) (cB false)),.mt 131 (.t 130),.g ⟨(.t 132),(.g (.t 131) true),.mv (.l 6)⟩,gT 133 (.pick (.t 131) (.t 132) (cB false)),.mt 134 (.t 133),.g ⟨(.t 135),(.g (.t 134) true),.mv (.l 7)⟩,gT 136 (.pick (.t 134) (.t 135) (cB false)),gL 2 (.mv (.t 136))])
 .ret)
 (.seq (.reg [gT 138 (.bin .eql (.l 37) (cI 6) (.binOp .eql 3 (.tmp 37) (.const (.int .i64 6)) 3)),gL 137 (.mv (.t 138))])
 (.cond (.l 137) (.seq (.reg [.mt 139 (.l 3),gT 140 (bI .leq 3 139 1),.mt 141 (.t 140),.g ⟨(.t 142),(.g (.t 141) true),.mv (.l 4)⟩,gT 143 (.pick (.t 141) (.t 142) (cB false)),.mt 144 (.t 143),.g ⟨(.t 145),(.g (.t 144) true),.mv (.l 5)⟩,gT 146 (.pick (.t 144) (.t 145) (cB false)),.mt 147 (.t 146),.g ⟨(.t 148),(.g (.t 147) true),.mv (.l 6)⟩,gT 149 (.pick (.t 147) (.t 148) (cB false)),.mt 150 (.t 149),.g ⟨(.t 151),(.g (.t 150) true),.mv (.l 7)⟩,gT 152 (.pick (.t 150) (.t 151) (cB false)),gL 2 (.mv (.t 152))])
 .ret)
 (.seq (.seq (.reg [gT 154 (.bin .eql (.l 37) (cI 7) (.binOp .eql 3 (.tmp 37) (.const (.int .i64 7)) 3)),gL 153 (.mv (.t 154))])
 (.cond (.l 153) .skip
 (.reg [gT 155 (.bin .eql (.l 37) (cI 9) (.binOp .eql 3 (.tmp 37) (.const (.int .i64 9)) 3)),gL 153 (.mv (.t 155))])))
 (.cond (.l 153) (.seq (.reg [.mt 156 (.l 3),gT 157 (bI .eql 3 156 1),.mt 158 (.t 157),.g ⟨(.t 159),(.g (.t 158) true),.mv (.l 4)⟩,gT 160 (.pick (.t 158) (.t 159) (cB false)),.mt 161 (.t 160),.g ⟨(.t 162),(.g (.t 161) true),.mv (.l 5)⟩,gT 163 (.pick (.t 161) (.t 162) (cB false)),.mt 164 (.t 163),.g ⟨(.t 165),(.g (.t 164) true),.mv (.l 6)⟩,gT 166 (.pick (.t 164) (.t 165) (cB false)),.mt 167 (.t 166),.g ⟨(.t 168),(.g (.t 167) true),.mv (.l 7)⟩,gT 169 (.pick (.t 167) (.t 168) (cB false)),gL 2 (.mv (.t 169))])
 .ret)
 (.seq (.reg [gT 171 (.bin .eql (.l 37) (cI 8) (.binOp .eql 3 (.tmp 37) (.const (.int .i64 8)) 3)),gL 170 (.mv (.t 171))])
 (.cond (.l 170) (.seq (.reg [.mt 172 (.l 3),gT 173 (bI .eql 3 172 1),.mt 174 (.t 173),.g ⟨(.t 175),(.g (.t 174) true),.mv (.l 4)⟩,gT 176 (.pick (.t 174) (.t 175) (cB false)),.mt 177 (.t 176),.g ⟨(.t 178),(.g (.t 177) true),.mv (.l 5)⟩,gT 179 (.pick (.t 177) (.t 178) (cB false)),.mt 180 (.t 179),.g ⟨(.t 181),(.g (.t 180) true),.mv (.l 6)⟩,gT 182 (.pick (.t 180) (.t 181) (cB false)),.mt 183 (.t 182),.g ⟨(.t 184),(.g (.t 183) true),.fa 2 (.l 1)⟩,.g ⟨(.t 185),(.g (.t 183) true),.ld false 1 (.t 184)⟩,.g ⟨(.t 186),(.g (.t 183) true),bS .eql 9 185 #[]⟩,gT 187 (.pick (.t 183) (.t 186) (cB false)),.mt 188 (.t 187),.g ⟨(.t 189),(.g (.t 188) true),.fa 3 (.l 1)⟩,.g ⟨(.t 190),(.g (.t 188) true),.ld false 1 (.t 189)⟩,.g ⟨(.t 191),(.g (.t 188) true),bS .eql 9 190 #[]⟩,gT 192 (.pick (.t 188) (.t 191) (cB false)),.mt 193 (.t 192),.g ⟨(.t 194),(.g (.t 193) true),.fa 1 (.l 1)⟩,.g ⟨(.t 195),(.g (.t 193) true),.ld false 1 (.t 194)⟩,.g ⟨(.t 196),(.g (.t 193) true),.bin .geq (.t 195) (.c (.d (.flat (.int .i32 0)))) (.binOp .geq 21 (.tmp 195) (.const (.int .i32 0)) 21)⟩,gT 197 (.pick (.t 193) (.t 196) (cB false)),.mt 198 (.t 197),.g ⟨(.t 199),(.g (.t 198) true),.fa 1 (.l 1)⟩,.g ⟨(.t 200),(.g (.t 198) true),.ld false 1 (.t 199)⟩,.g ⟨(.t 201),(.g (.t 198) true),.bin .leq (.t 200) (.c (.d (.flat (.int .i32 9999)))) (.binOp .leq 21 (.tmp 200) (.const (.int .i32 9999)) 21)⟩,gT 202 (.pick (.t 198) (.t 201) (cB false)),gL 2 (.mv (.t 202))])
 .ret)
 (.seq (.reg [gT 204 (.bin .eql (.l 37) (cI 10) (.binOp .eql 3 (.tmp 37) (.const (.int .i64 10)) 3)),gL 203 (.mv (.t 204))])
 (.cond (.l 203) (.seq (.reg [.mt 205 (.l 3),gT 206 (bI .eql 3 205 0),.mt 207 (.t 206),.g ⟨(.t 208),(.g (.t 207) true),.fa 2 (.l 1)⟩,.g ⟨(.t 209),(.g (.t 207) true),.ld false 1 (.t 208)⟩,.g ⟨(.t 210),(.g (.t 207) true),.cs 71 p71 [(.t 209)]⟩,gT 211 (.pick (.t 207) (.t 210) (cB false)),.mt 212 (.t 211),.g ⟨(.t 213),(.g (.t 212) true),.fa 3 (.l 1)⟩,.g ⟨(.t 214),(.g (.t 212) true),.ld false 1 (.t 213)⟩,.g ⟨(.t 215),(.g (.t 212) true),.cs 73 p73 [(.t 214)]⟩,gT 216 (.pick (.t 212) (.t 215) (cB false)),.mt 217 (.t 216),.g ⟨(.t 218),(.g (.t 217) true),.fa 1 (.l 1)⟩,.g ⟨(.t 219),(.g (.t 217) true),.ld false 1 (.t 218)⟩,.g ⟨(.t 220),(.g (.t 217) true),.bin .eql (.t 219) (.c (.d (.flat (.int .i32 0)))) (.binOp .eql 21 (.tmp 219) (.const (.int .i32 0)) 21)⟩,gT 221 (.pick (.t 217) (.t 220) (cB false)),gL 2 (.mv (.t 221))])
 .ret)
 (.seq (.reg [gT 223 (.bin .eql (.l 37) (cI 11) (.binOp .eql 3 (.tmp 37) (.const (.int .i64 11)) 3)),gL 222 (.mv (.t 223))])
 (.cond (.l 222) (.seq (.reg [.mt 224 (.l 4),.mt 225 (.t 224),.g ⟨(.t 226),(.g (.t 225) true),.mv (.l 5)⟩,gT 227 (.pick (.t 225) (.t 226) (cB false)),.mt 228 (.t 227),.g ⟨(.t 229),(.g (.t 228) true),.mv (.l 6)⟩,gT 230 (.pick (.t 228) (.t 229) (cB false)),.mt 231 (.t 230),.g ⟨(.t 232),(.g (.t 231) true),.mv (.l 7)⟩,gT 233 (.pick (.t 231) (.t 232) (cB false)),gL 2 (.mv (.t 233))])
 .ret)
 .skip))))))))))))))))))))))
 (.seq (.reg [gL 2 (.mv (cB false))])
 .ret))))),[(.t 2)]⟩
theorem x127E : EntryOK Tryz.prog mTabs 127 (.fn x127) := ⟨fnT rfl,Tryz.f127,plans 127,keeps 127,1,Tryz.func127,rfl,by kernel_rfl,by kernel_rfl⟩
def x141 : XF := ⟨[0,1,3,4,5,10,12,18,30,38],[0,1],(.seq (.reg [gL 3 (.gen (.box 106 (.tmp 1))),gL 4 (.gen (.alloc 106))])
 (.seq (.block 0 (.loop (some [0,3,4]) (.seq (.seq (.reg [.mt 6 (.l 0),gT 7 (.nc (.t 6)),gT 8 (.fa 3 (.t 7)),gT 9 (.ld false 1 (.t 8)),gL 10 (bI .eql 3 9 0)])
 (.cond (.l 10) .skip
 (.exit 0)))
 (.block 1 (.block 2 (.seq (.reg [.mt 13 (.l 0),gT 14 (.cs 39 p39 [(.t 13),(cS #[46])]),gL 12 (.mv (.t 14))])
 (.cond (.l 12) (.seq (.reg [.mt 15 (.l 0),gT 16 (.cs 67 p67 [(.t 15)]),gL 5 (.mv (.t 16))])
 (.seq (.reg [.mt 17 (.l 0),gL 18 (.cs 40 p40 [(.t 17),(cS #[40])])])
 (.cond (.l 18) (.drw [(.l 0)] [sT 19 (.mv (.l 5)),sT 20 (.ld true 8 (.l 3)),sT 22 (.mv (.l 0)),.fl [⟨false,false,⟨(.t 23),.yes,.cs 119 p119 [(.t 22)]⟩⟩] ⟨(.t 21),.yes,.gen (.buildSlice 39 1 #[(0,(.tmp 20))])⟩,.st ⟨false,false,⟨(.t 24),.yes,.gen (.call { callee := (.builtin .append),args := #[(.tmp 21),(.tmp 23)],argTypes := #[39,39] })⟩⟩,sT 25 (.gen (.build 106 #[(0,(.const (.int .i64 10))),(3,(.tmp 19)),(5,(.tmp 24))])),.st ⟨false,true,⟨.no,.yes,.st 8 (.l 3) (.t 25)⟩⟩])
 (.reg [.mt 26 (.l 5),gT 27 (.ld true 8 (.l 3)),gT 28 (.gen (.buildSlice 39 1 #[(0,(.tmp 27))])),gT 29 (.gen (.build 106 #[(0,(.const (.int .i64 7))),(3,(.tmp 26)),(5,(.tmp 28))])),gN (.st 8 (.l 3) (.t 29))]))))
 (.seq (.reg [.mt 31 (.l 0),gT 32 (.cs 39 p39 [(.t 31),(cS #[97,115])]),gL 30 (.mv (.t 32))])
 (.cond (.l 30) (.drw [(.l 0)] [sT 33 (.mv (.l 0)),sT 35 (.ld true 8 (.l 3)),.fl [⟨false,false,⟨(.t 34),.yes,.cs 38 p38 [(.t 33)]⟩⟩] ⟨(.t 36),.yes,.gen (.buildSlice 39 1 #[(0,(.tmp 35))])⟩,sT 37 (.gen (.build 106 #[(0,(.const (.int .i64 15))),(4,(.tmp 34)),(5,(.tmp 36))])),.st ⟨false,true,⟨.no,.yes,.st 8 (.l 3) (.t 37)⟩⟩])
 (.seq (.reg [.mt 39 (.l 0),gT 40 (.cs 39 p39 [(.t 39),(cS #[105,115])]),gL 38 (.mv (.t 40))])
 (.cond (.l 38) (.drw [(.l 0)] [sT 41 (.mv (.l 0)),sT 43 (.ld true 8 (.l 3)),.fl [⟨false,false,⟨(.t 42),.yes,.cs 38 p38 [(.t 41)]⟩⟩] ⟨(.t 44),.yes,.gen (.buildSlice 39 1 #[(0,(.tmp 43))])⟩,sT 45 (.gen (.build 106 #[(0,(.const (.int .i64 16))),(4,(.tmp 42)),(5,(.tmp 44))])),.st ⟨false,true,⟨.no,.yes,.st 8 (.l 3) (.t 45)⟩⟩])
 (.seq (.reg [gT 11 (.ld true 8 (.l 3)),gN (.st 8 (.l 4) (.t 11))])
 .ret))))))))))))
 (.seq (.reg [gT 46 (.ld true 8 (.l 3)),gN (.st 8 (.l 4) (.t 46))])
 .ret))),[(.c 4 true 8)]⟩
theorem x141E : EntryOK Tryz.prog mTabs 141 (.fn x141) := ⟨fnT rfl,Tryz.f141,plans 141,keeps 141,2,Tryz.func141,rfl,by kernel_rfl,by kernel_rfl⟩
end Go.Proofs.YtokilnhpepbjlaaGreat
namespace Go.Proofs.YtokilnhpepbjlaaGreat
open Go Go.Proofs.YtokilnhpepbjlaaGreat.Calc
set_option maxRecDepth 100000
set_option linter.unusedVariables false
def x142 : XF := ⟨[0,2,3,4,5,6,7,8,9,15,71,75,79,83,87,95,102,111,117,124,134,143,148],[0],(.seq (.reg [gL 2 (.gen (.alloc 106))])
 (.seq (.block 0 (.seq (.reg [.mt 10 (.l 0),gT 11 (.cs 64 p64 [(.t 10),(cI 0),(cI 2),(cS #[])]),gL 9 (.mv (.t 11))])
 (.cond (.l 9) (.seq (.reg [.mt 12 (.l 0),gT 13 (.cs 118 p118 [(.t 12),(cI 2147483647)]),gT 14 (.gen (.build 106 #[(0,(.const (.int .i64 1))),(1,(.tmp 13))])),gN (.st 8 (.l 2) (.t 14))])
 .ret)
 (.seq (.drw [] [sT 16 (.mv (.l 0)),.st ⟨false,true,⟨(.t 17),.yes,.cs 64 p64 [(.t 16),(cI 0),(cI 3),(cS #[])]⟩⟩,sT 18 (.mv (.t 17)),.st ⟨true,false,⟨(.t 19),(.g (.t 18) false),.mv (.l 0)⟩⟩,.st ⟨true,false,⟨(.t 20),(.g (.t 18) false),.nc (.t 19)⟩⟩,.st ⟨true,false,⟨(.t 21),(.g (.t 18) false),.fa 3 (.t 20)⟩⟩,.st ⟨true,false,⟨(.t 22),(.g (.t 18) false),.ld false 1 (.t 21)⟩⟩,.st ⟨true,false,⟨(.t 23),(.g (.t 18) false),bI .eql 3 22 0⟩⟩,.st ⟨true,false,⟨(.t 24),(.g (.t 18) false),.mv (.t 23)⟩⟩,.st ⟨true,false,⟨(.t 25),(.g (.t 24) true),.mv (.l 0)⟩⟩,.st ⟨true,false,⟨(.t 26),(.g (.t 24) true),.nc (.t 25)⟩⟩,.st ⟨true,false,⟨(.t 27),(.g (.t 24) true),.fa 2 (.t 26)⟩⟩,.st ⟨true,false,⟨(.t 28),(.g (.t 24) true),.ld false 1 (.t 27)⟩⟩,.st ⟨true,false,⟨(.t 29),(.g (.t 24) true),.mv (.l 0)⟩⟩,.st ⟨true,false,⟨(.t 30),(.g (.t 24) true),.nc (.t 29)⟩⟩,.st ⟨true,false,⟨(.t 31),(.g (.t 24) true),.fa 0 (.t 30)⟩⟩,.st ⟨true,false,⟨(.t 32),(.g (.t 24) true),.ld false 1 (.t 31)⟩⟩,.st ⟨true,false,⟨(.t 33),(.g (.t 24) true),.lenr (.t 32)⟩⟩,.st ⟨true,false,⟨(.t 34),(.g (.t 24) true),b2 .lss 3 28 33⟩⟩,.st ⟨true,false,⟨(.t 35),(.g (.t 18) false),.pick (.t 24) (.t 34) (cB false)⟩⟩,.st ⟨true,false,⟨(.t 36),(.g (.t 18) false),.mv (.t 35)⟩⟩,.st ⟨true,false,⟨(.t 37),(.g (.t 36) true),.mv (.l 0)⟩⟩,.st ⟨true,false,⟨(.t 38),(.g (.t 36) true),.nc (.t 37)⟩⟩,.st ⟨true,false,⟨(.t 39),(.g (.t 36) true),.fa 0 (.t 38)⟩⟩,.st ⟨true,false,⟨(.t 40),(.g (.t 36) true),.ld false 1 (.t 39)⟩⟩,.st ⟨true,false,⟨(.t 41),(.g (.t 36) true),.mv (.l 0)⟩⟩,.st ⟨true,false,⟨(.t 42),(.g (.t 36) true),.nc (.t 41)⟩⟩,.st ⟨true,false,⟨(.t 43),(.g (.t 36) true),.fa 2 (.t 42)⟩⟩,.st ⟨true,false,⟨(.t 44),(.g (.t 36) true),.ld false 1 (.t 43)⟩⟩,.st ⟨true,false,⟨(.t 45),(.g (.t 36) true),.ia 3 (.t 40) (.t 44)⟩⟩,.st ⟨true,false,⟨(.t 46),(.g (.t 36) true),.fa 0 (.t 45)⟩⟩,.st ⟨true,false,⟨(.t 47),(.g (.t 36) true),.ld false 1 (.t 46)⟩⟩,.st ⟨true,false,⟨(.t 48),(.g (.t 36) true),bI .eql 3 47 3⟩⟩,.st ⟨true,false,⟨(.t 49),(.g (.t 18) false),.pick (.t 36) (.t 48) (cB false)⟩⟩,sT 50 (.pick (.t 18) (cB true) (.t 49)),sL 15 (.mv (.t 50))])
 (.cond (.l 15) (.seq (.reg [.mt 51 (.l 0),gT 52 (.nc (.t 51)),gT 53 (.fa 2 (.t 52)),gT 54 (.ld false 1 (.t 53)),gT 55 (bI .add 3 54 1),gT 56 (.nc (.t 51)),gT 57 (.fa 2 (.t 56)),gN (.st 1 (.t 57) (.t 55))])
 (.seq (.drw [] [sT 58 (.mv (.l 0)),sT 59 (.nc (.t 58)),sT 60 (.fa 0 (.t 59)),sT 61 (.ld false 1 (.t 60)),sT 62 (.mv (.l 0)),sT 63 (.nc (.t 62)),sT 64 (.fa 2 (.t 63)),sT 65 (.ld false 1 (.t 64)),sT 66 (bI .sub 3 65 1),sT 67 (.ia 3 (.t 61) (.t 66)),sT 68 (.fa 1 (.t 67)),sT 69 (.ld false 1 (.t 68)),sT 70 (.gen (.build 106 #[(0,(.const (.int .i64 3))),(2,(.tmp 69))])),.st ⟨false,true,⟨.no,.yes,.st 8 (.l 2) (.t 70)⟩⟩])
 .ret))
 (.seq (.reg [.mt 72 (.l 0),gT 73 (.cs 39 p39 [(.t 72),(cS #[116,114,117,101])]),gL 71 (.mv (.t 73))])
 (.cond (.l 71) (.seq (.reg [gT 74 (.gen (.build 106 #[(0,(.const (.int .i64 2))),(1,(.const (.int .i32 1)))])),gN (.st 8 (.l 2) (.t 74))])
 .ret)
 (.seq (.reg [.mt 76 (.l 0),gT 77 (.cs 39 p39 [(.t 76),(cS #[102,97,108,115,101])]),gL 75 (.mv (.t 77))])
 (.cond (.l 75) (.seq (.reg [gT 78 (.gen (.build 106 #[(0,(.const (.int .i64 2)))])),gN (.st 8 (.l 2) (.t 78))])
 .ret)
 (.seq (.reg [.mt 80 (.l 0),gT 81 (.cs 39 p39 [(.t 80),(cS #[110,117,108,108])]),gL 79 (.mv (.t 81))])
 (.cond (.l 79) (.seq (.reg [gT 82 (.gen (.build 106 #[(0,(.const (.int .i64 4)))])),gN (.st 8 (.l 2) (.t 82))])
 .ret)
 (.seq (.reg [.mt 84 (.l 0),gT 85 (.cs 39 p39 [(.t 84),(cS #[116,104,105,115])]),gL 83 (.mv (.t 85))])
 (.cond (.l 83) (.seq (.reg [gT 86 (.gen (.build 106 #[(0,(.const (.int .i64 5)))])),gN (.st 8 (.l 2) (.t 86))])
 .ret)
 (.seq (.reg [.mt 88 (.l 0),gT 89 (.cs 39 p39 [(.t 88),(cS #[115,117,112,101,114])]),gL 87 (.mv (.t 89))])
 (.cond (.l 87) (.seq (.reg [.mt 90 (.l 0),gT 91 (.cs 37 p37 [(.t 90),(cS #[46])])])
 (.seq (.reg [.mt 92 (.l 0),gT 93 (.cs 67 p67 [(.t 92)]),gL 3 (.mv (.t 93))])
 (.seq (.seq (.reg [.mt 94 (.l 0),gL 95 (.cs 40 p40 [(.t 94),(cS #[40])])])
 (.cond (.l 95) (.seq (.reg [.mt 96 (.l 3),.mt 97 (.l 0),gT 98 (.cs 119 p119 [(.t 97)]),gT 99 (.gen (.build 106 #[(0,(.const (.int .i64 12))),(3,(.tmp 96)),(5,(.tmp 98))])),gN (.st 8 (.l 2) (.t 99))])
 .ret)
 .skip))
 (.seq (.reg [.mt 100 (.l 3),gT 101 (.gen (.build 106 #[(0,(.const (.int .i64 8))),(3,(.tmp 100))])),gN (.st 8 (.l 2) (.t 101))])
 .ret))))
 (.seq (.reg [.mt 103 (.l 0),gT 104 (.cs 39 p39 [(.t 103),(cS #[110,101,119])]),gL 102 (.mv (.t 104))])
 (.cond (.l 102) (.seq (.reg [.mt 105 (.l 0),gT 106 (.cs 38 p38 [(.t 105)]),gL 4 (.mv (.t 106))])
 (.seq (.reg [.mt 107 (.l 4),.mt 108 (.l 0),gT 109 (.cs 119 p119 [(.t 108)]),gT 110 (.gen (.build 106 #[(0,(.const (.int .i64 14))),(4,(.tmp 107)),(5,(.tmp 109))])),gN (.st 8 (.l 2) (.t 110))])
 .ret))
 (.seq (.reg [.mt 112 (.l 0),gT 113 (.cs 95 p95 [(.t 112),(cI 0)]),gL 111 (.mv (.t 113))])
 (.cond (.l 111) (.seq (.reg [.mt 114 (.l 0),gT 115 (.cs 67 p67 [(.t 114)]),gL 5 (.mv (.t 115))])
 (.seq (.seq (.reg [.mt 116 (.l 0),gL 117 (.cs 40 p40 [(.t 116),(cS #[40])])])
 (.cond (.l 117) (.seq (.reg [.mt 118 (.l 5),.mt 119 (.l 0),gT 120 (.cs 119 p119 [(.t 119)]),gT 121 (.gen (.build 106 #[(0,(.const (.int .i64 11))),(3,(.tmp 118)),(5,(.tmp 120))])),gN (.st 8 (.l 2) (.t 121))])
 .ret)
 .skip))
 (.seq (.reg [.mt 122 (.l 5),gT 123 (.gen (.build 106 #[(0,(.const (.int .i64 6))),(3,(.tmp 122))])),gN (.st 8 (.l 2) (.t 123))])
 .ret)))
 (.seq (.reg [.mt 125 (.l 0),gT 126 (.cs 61 p61 [(.t 125),(cI 0)]),gL 124 (.mv (.t 126))])
 (.cond (.l 124) (.seq (.reg [.mt 127 (.l 0),gT 128 (.cs 38 p38 [(.t 127)]),gL 6 (.mv (.t 128))])
 (.seq (.reg [.mt 129 (.l 0),gT 130 (.cs 37 p37 [(.t 129),(cS #[58,58])])])
 (.seq (.reg [.mt 131 (.l 0),gT 132 (.cs 67 p67 [(.t 131)]),gL 7 (.mv (.t 132))])
 (.seq (.seq (.reg [.mt 133 (.l 0),gL 134 (.cs 40 p40 [(.t 133),(cS #[40])])])
 (.cond (.l 134) (.seq (.reg [.mt 135 (.l 6),.mt 136 (.l 7),.mt 137 (.l 0),gT 138 (.cs 119 p119 [(.t 137)]),gT 139 (.gen (.build 106 #[(0,(.const (.int .i64 13))),(4,(.tmp 135)),(3,(.tmp 136)),(5,(.tmp 138))])),gN (.st 8 (.l 2) (.t 139))])
 .ret)
 .skip))
 (.seq (.reg [.mt 140 (.l 6),.mt 141 (.l 7),gT 142 (.gen (.build 106 #[(0,(.const (.int .i64 9))),(4,(.tmp 140)),(3,(.tmp 141))])),gN (.st 8 (.l 2) (.t 142))])
 .ret)))))
 (.seq (.reg [.mt 144 (.l 0),gT 145 (.cs 40 p40 [(.t 144),(cS #[40])]),gL 143 (.mv (.t 145))])
 (.cond (.l 143) (.seq (.seq (.reg [.mt 146 (.l 0),gT 147 (.cs 93 p93 [(.t 146)]),gL 148 (.not (.t 147))])
 (.cond (.l 148) (.seq (.reg [gT 149 (.gen (.build 106 #[])),gN (.st 8 (.l 2) (.t 149))])
 .ret)
 .skip))
 (.seq (.reg [.mt 150 (.l 0),gT 151 (.nc (.t 150)),gT 152 (.fa 2 (.t 151)),gT 153 (.ld false 1 (.t 152)),gT 154 (bI .add 3 153 1),gT 155 (.nc (.t 150)),gT 156 (.fa 2 (.t 155)),gN (.st 1 (.t 156) (.t 154))])
 (.seq (.reg [.mt 157 (.l 0),gT 158 (.cs 69 p69 [(.t 157)]),gL 8 (.gen (.alloc 106)),gN (.st 8 (.l 8) (.t 158))])
 (.seq (.reg [.mt 159 (.l 0),gT 160 (.cs 37 p37 [(.t 159),(cS #[41])])])
 (.seq (.reg [.mt 161 (.l 0),gT 162 (.nc (.t 161)),gT 163 (.fa 5 (.t 162)),gT 164 (.ld false 1 (.t 163)),gT 165 (bI .sub 3 164 1),gT 166 (.nc (.t 161)),gT 167 (.fa 5 (.t 166)),gN (.st 1 (.t 167) (.t 165))])
 (.seq (.reg [gT 168 (.ld true 8 (.l 8)),gN (.st 8 (.l 2) (.t 168))])
 .ret))))))
 .skip)))))))))))))))))))))))
 (.seq (.reg [.mt 169 (.l 0),gT 170 (.cs 60 p60 [(.t 169),(cI 3)])])
 (.seq (.reg [gT 171 (.gen (.build 106 #[])),gN (.st 8 (.l 2) (.t 171))])
 .ret)))),[(.c 2 true 8)]⟩
theorem x142E : EntryOK Tryz.prog mTabs 142 (.fn x142) := ⟨fnT rfl,Tryz.f142,plans 142,keeps 142,1,Tryz.func142,rfl,by kernel_rfl,by kernel_rfl⟩
end Go.Proofs.YtokilnhpepbjlaaGreat
namespace Go.Proofs.YtokilnhpepbjlaaGreat
open Go Go.Proofs.YtokilnhpepbjlaaGreat.Calc
set_option maxRecDepth 100000
set_option linter.unusedVariables false
noncomputable def mTab : Tr XE := (.n none (.n none (.n none (.n none (.n none (.n none (.n (some (.fn x63)) (.n (some (.fn x127)) .e
 .e)
 .e)
 (.n (some (.fn x95)) .e
 .e))
 (.n (some (.fn x47)) .e
 .e))
 (.n none (.n (some (.fn x39)) (.n (some (.fn x71)) .e
 .e)
 (.n (some (.fn x103)) .e
 .e))
 (.n none (.n (some (.fn x87)) .e
 .e)
 (.n (some (.fn x119)) .e
 .e))))
 (.n none (.n none (.n none (.n (some (.fn x67)) .e
 .e)
 (.n (some (.fn x99)) .e
 .e))
 .e)
 (.n (some (.fn x27)) (.n (some (.fn x43)) (.n (some (.fn x75)) .e
 .e)
 (.n (some (.fn x107)) .e
 .e))
 (.n (some (.fn x59)) (.n (some (.fn x91)) .e
 .e)
 (.n (some (.fn x123)) .e
 .e)))))
 (.n none (.n none (.n (some (.fn x17)) (.n none (.n (some (.fn x65)) .e
 .e)
 (.n (some (.fn x97)) .e
 .e))
 .e)
 (.n none (.n (some (.fn x41)) (.n (some (.fn x73)) .e
 .e)
 .e)
 (.n none (.n (some (.fn x89)) .e
 .e)
 (.n (some (.fn x121)) .e
 .e))))
 (.n none (.n none (.n (some (.fn x37)) (.n (some (.fn x69)) .e
 .e)
 (.n (some (.fn x101)) .e
 .e))
 .e)
 (.n none (.n (some (.fn x45)) (.n none (.n (some (.fn x141)) .e
 .e)
 .e)
 .e)
 (.n (some (.fn x61)) (.n (some (.fn x93)) .e
 .e)
 (.n (some (.fn x125)) .e
 .e))))))
 (.n none (.n none (.n none (.n (some (.fn x16)) (.n none (.n (some (.fn x64)) .e
 .e)
 (.n (some (.fn x96)) .e
 .e))
 .e)
 (.n none (.n (some (.fn x40)) (.n (some (.fn x72)) .e
 .e)
 (.n (some (.fn x104)) .e
 .e))
 (.n none (.n (some (.fn x88)) .e
 .e)
 .e)))
 (.n none (.n none (.n (some (.fn x36)) (.n (some (.fn x68)) .e
 .e)
 (.n (some (.fn x100)) .e
 .e))
 .e)
 (.n none (.n (some (.fn x44)) .e
 (.n (some (.fn x108)) .e
 .e))
 (.n none (.n (some (.fn x92)) .e
 .e)
 (.n (some (.fn x124)) .e
 .e)))))
 (.n none (.n none (.n none (.n none (.n (some (.fn x66)) .e
 .e)
 (.n (some (.fn x98)) .e
 .e))
 .e)
 (.n none (.n (some (.fn x42)) (.n (some (.fn x74)) .e
 .e)
 (.n (some (.fn x106)) .e
 .e))
 (.n (some (.fn x58)) (.n (some (.fn x90)) .e
 .e)
 (.n (some (.fn x122)) .e
 .e))))
 (.n none (.n none (.n (some (.fn x38)) (.n (some (.fn x70)) .e
 .e)
 (.n (some (.fn x102)) .e
 .e))
 (.n none (.n (some (.fn x86)) .e
 .e)
 (.n (some (.fn x118)) .e
 .e)))
 (.n none (.n none (.n none (.n (some (.fn x142)) .e
 .e)
 .e)
 .e)
 (.n (some (.fn x62)) (.n (some (.fn x94)) .e
 .e)
 (.n (some (.fn x126)) .e
 .e)))))))
theorem mTab0 : TabOK Tryz.prog mTabs .e := tab_e mTabs
noncomputable def mT1 : Tr XE := Tr.set .e p16 (.fn x16)
theorem mTab1 : TabOK Tryz.prog mTabs mT1 := tab_set (f := 16) mTab0 x16E
noncomputable def mT2 : Tr XE := Tr.set mT1 p17 (.fn x17)
theorem mTab2 : TabOK Tryz.prog mTabs mT2 := tab_set (f := 17) mTab1 x17E
noncomputable def mT3 : Tr XE := Tr.set mT2 p27 (.fn x27)
theorem mTab3 : TabOK Tryz.prog mTabs mT3 := tab_set (f := 27) mTab2 x27E
noncomputable def mT4 : Tr XE := Tr.set mT3 p36 (.fn x36)
theorem mTab4 : TabOK Tryz.prog mTabs mT4 := tab_set (f := 36) mTab3 x36E
noncomputable def mT5 : Tr XE := Tr.set mT4 p37 (.fn x37)
theorem mTab5 : TabOK Tryz.prog mTabs mT5 := tab_set (f := 37) mTab4 x37E
noncomputable def mT6 : Tr XE := Tr.set mT5 p38 (.fn x38)
theorem mTab6 : TabOK Tryz.prog mTabs mT6 := tab_set (f := 38) mTab5 x38E
noncomputable def mT7 : Tr XE := Tr.set mT6 p39 (.fn x39)
theorem mTab7 : TabOK Tryz.prog mTabs mT7 := tab_set (f := 39) mTab6 x39E
noncomputable def mT8 : Tr XE := Tr.set mT7 p40 (.fn x40)
theorem mTab8 : TabOK Tryz.prog mTabs mT8 := tab_set (f := 40) mTab7 x40E
noncomputable def mT9 : Tr XE := Tr.set mT8 p41 (.fn x41)
theorem mTab9 : TabOK Tryz.prog mTabs mT9 := tab_set (f := 41) mTab8 x41E
noncomputable def mT10 : Tr XE := Tr.set mT9 p42 (.fn x42)
theorem mTab10 : TabOK Tryz.prog mTabs mT10 := tab_set (f := 42) mTab9 x42E
noncomputable def mT11 : Tr XE := Tr.set mT10 p43 (.fn x43)
theorem mTab11 : TabOK Tryz.prog mTabs mT11 := tab_set (f := 43) mTab10 x43E
noncomputable def mT12 : Tr XE := Tr.set mT11 p44 (.fn x44)
theorem mTab12 : TabOK Tryz.prog mTabs mT12 := tab_set (f := 44) mTab11 x44E
noncomputable def mT13 : Tr XE := Tr.set mT12 p45 (.fn x45)
theorem mTab13 : TabOK Tryz.prog mTabs mT13 := tab_set (f := 45) mTab12 x45E
noncomputable def mT14 : Tr XE := Tr.set mT13 p47 (.fn x47)
theorem mTab14 : TabOK Tryz.prog mTabs mT14 := tab_set (f := 47) mTab13 x47E
noncomputable def mT15 : Tr XE := Tr.set mT14 p58 (.fn x58)
theorem mTab15 : TabOK Tryz.prog mTabs mT15 := tab_set (f := 58) mTab14 x58E
noncomputable def mT16 : Tr XE := Tr.set mT15 p59 (.fn x59)
theorem mTab16 : TabOK Tryz.prog mTabs mT16 := tab_set (f := 59) mTab15 x59E
noncomputable def mT17 : Tr XE := Tr.set mT16 p61 (.fn x61)
theorem mTab17 : TabOK Tryz.prog mTabs mT17 := tab_set (f := 61) mTab16 x61E
noncomputable def mT18 : Tr XE := Tr.set mT17 p62 (.fn x62)
theorem mTab18 : TabOK Tryz.prog mTabs mT18 := tab_set (f := 62) mTab17 x62E
noncomputable def mT19 : Tr XE := Tr.set mT18 p63 (.fn x63)
theorem mTab19 : TabOK Tryz.prog mTabs mT19 := tab_set (f := 63) mTab18 x63E
noncomputable def mT20 : Tr XE := Tr.set mT19 p64 (.fn x64)
theorem mTab20 : TabOK Tryz.prog mTabs mT20 := tab_set (f := 64) mTab19 x64E
noncomputable def mT21 : Tr XE := Tr.set mT20 p65 (.fn x65)
theorem mTab21 : TabOK Tryz.prog mTabs mT21 := tab_set (f := 65) mTab20 x65E
noncomputable def mT22 : Tr XE := Tr.set mT21 p66 (.fn x66)
theorem mTab22 : TabOK Tryz.prog mTabs mT22 := tab_set (f := 66) mTab21 x66E
noncomputable def mT23 : Tr XE := Tr.set mT22 p67 (.fn x67)
theorem mTab23 : TabOK Tryz.prog mTabs mT23 := tab_set (f := 67) mTab22 x67E
noncomputable def mT24 : Tr XE := Tr.set mT23 p68 (.fn x68)
theorem mTab24 : TabOK Tryz.prog mTabs mT24 := tab_set (f := 68) mTab23 x68E
noncomputable def mT25 : Tr XE := Tr.set mT24 p69 (.fn x69)
theorem mTab25 : TabOK Tryz.prog mTabs mT25 := tab_set (f := 69) mTab24 x69E
noncomputable def mT26 : Tr XE := Tr.set mT25 p70 (.fn x70)
theorem mTab26 : TabOK Tryz.prog mTabs mT26 := tab_set (f := 70) mTab25 x70E
noncomputable def mT27 : Tr XE := Tr.set mT26 p71 (.fn x71)
theorem mTab27 : TabOK Tryz.prog mTabs mT27 := tab_set (f := 71) mTab26 x71E
noncomputable def mT28 : Tr XE := Tr.set mT27 p72 (.fn x72)
theorem mTab28 : TabOK Tryz.prog mTabs mT28 := tab_set (f := 72) mTab27 x72E
noncomputable def mT29 : Tr XE := Tr.set mT28 p73 (.fn x73)
theorem mTab29 : TabOK Tryz.prog mTabs mT29 := tab_set (f := 73) mTab28 x73E
noncomputable def mT30 : Tr XE := Tr.set mT29 p74 (.fn x74)
theorem mTab30 : TabOK Tryz.prog mTabs mT30 := tab_set (f := 74) mTab29 x74E
noncomputable def mT31 : Tr XE := Tr.set mT30 p75 (.fn x75)
theorem mTab31 : TabOK Tryz.prog mTabs mT31 := tab_set (f := 75) mTab30 x75E
noncomputable def mT32 : Tr XE := Tr.set mT31 p86 (.fn x86)
theorem mTab32 : TabOK Tryz.prog mTabs mT32 := tab_set (f := 86) mTab31 x86E
noncomputable def mT33 : Tr XE := Tr.set mT32 p87 (.fn x87)
theorem mTab33 : TabOK Tryz.prog mTabs mT33 := tab_set (f := 87) mTab32 x87E
noncomputable def mT34 : Tr XE := Tr.set mT33 p88 (.fn x88)
theorem mTab34 : TabOK Tryz.prog mTabs mT34 := tab_set (f := 88) mTab33 x88E
noncomputable def mT35 : Tr XE := Tr.set mT34 p89 (.fn x89)
theorem mTab35 : TabOK Tryz.prog mTabs mT35 := tab_set (f := 89) mTab34 x89E
noncomputable def mT36 : Tr XE := Tr.set mT35 p90 (.fn x90)
theorem mTab36 : TabOK Tryz.prog mTabs mT36 := tab_set (f := 90) mTab35 x90E
noncomputable def mT37 : Tr XE := Tr.set mT36 p91 (.fn x91)
theorem mTab37 : TabOK Tryz.prog mTabs mT37 := tab_set (f := 91) mTab36 x91E
noncomputable def mT38 : Tr XE := Tr.set mT37 p92 (.fn x92)
theorem mTab38 : TabOK Tryz.prog mTabs mT38 := tab_set (f := 92) mTab37 x92E
noncomputable def mT39 : Tr XE := Tr.set mT38 p93 (.fn x93)
theorem mTab39 : TabOK Tryz.prog mTabs mT39 := tab_set (f := 93) mTab38 x93E
noncomputable def mT40 : Tr XE := Tr.set mT39 p94 (.fn x94)
theorem mTab40 : TabOK Tryz.prog mTabs mT40 := tab_set (f := 94) mTab39 x94E
noncomputable def mT41 : Tr XE := Tr.set mT40 p95 (.fn x95)
theorem mTab41 : TabOK Tryz.prog mTabs mT41 := tab_set (f := 95) mTab40 x95E
noncomputable def mT42 : Tr XE := Tr.set mT41 p96 (.fn x96)
theorem mTab42 : TabOK Tryz.prog mTabs mT42 := tab_set (f := 96) mTab41 x96E
noncomputable def mT43 : Tr XE := Tr.set mT42 p97 (.fn x97)
theorem mTab43 : TabOK Tryz.prog mTabs mT43 := tab_set (f := 97) mTab42 x97E
noncomputable def mT44 : Tr XE := Tr.set mT43 p98 (.fn x98)
theorem mTab44 : TabOK Tryz.prog mTabs mT44 := tab_set (f := 98) mTab43 x98E
noncomputable def mT45 : Tr XE := Tr.set mT44 p99 (.fn x99)
theorem mTab45 : TabOK Tryz.prog mTabs mT45 := tab_set (f := 99) mTab44 x99E
noncomputable def mT46 : Tr XE := Tr.set mT45 p100 (.fn x100)
theorem mTab46 : TabOK Tryz.prog mTabs mT46 := tab_set (f := 100) mTab45 x100E
noncomputable def mT47 : Tr XE := Tr.set mT46 p101 (.fn x101)
theorem mTab47 : TabOK Tryz.prog mTabs mT47 := tab_set (f := 101) mTab46 x101E
noncomputable def mT48 : Tr XE := Tr.set mT47 p102 (.fn x102)
theorem mTab48 : TabOK Tryz.prog mTabs mT48 := tab_set (f := 102) mTab47 x102E
noncomputable def mT49 : Tr XE := Tr.set mT48 p103 (.fn x103)
theorem mTab49 : TabOK Tryz.prog mTabs mT49 := tab_set (f := 103) mTab48 x103E
noncomputable def mT50 : Tr XE := Tr.set mT49 p104 (.fn x104)
theorem mTab50 : TabOK Tryz.prog mTabs mT50 := tab_set (f := 104) mTab49 x104E
noncomputable def mT51 : Tr XE := Tr.set mT50 p106 (.fn x106)
theorem mTab51 : TabOK Tryz.prog mTabs mT51 := tab_set (f := 106) mTab50 x106E
noncomputable def mT52 : Tr XE := Tr.set mT51 p107 (.fn x107)
theorem mTab52 : TabOK Tryz.prog mTabs mT52 := tab_set (f := 107) mTab51 x107E
noncomputable def mT53 : Tr XE := Tr.set mT52 p108 (.fn x108)
theorem mTab53 : TabOK Tryz.prog mTabs mT53 := tab_set (f := 108) mTab52 x108E
noncomputable def mT54 : Tr XE := Tr.set mT53 p118 (.fn x118)
theorem mTab54 : TabOK Tryz.prog mTabs mT54 := tab_set (f := 118) mTab53 x118E
noncomputable def mT55 : Tr XE := Tr.set mT54 p119 (.fn x119)
theorem mTab55 : TabOK Tryz.prog mTabs mT55 := tab_set (f := 119) mTab54 x119E
noncomputable def mT56 : Tr XE := Tr.set mT55 p121 (.fn x121)
theorem mTab56 : TabOK Tryz.prog mTabs mT56 := tab_set (f := 121) mTab55 x121E
noncomputable def mT57 : Tr XE := Tr.set mT56 p122 (.fn x122)
theorem mTab57 : TabOK Tryz.prog mTabs mT57 := tab_set (f := 122) mTab56 x122E
noncomputable def mT58 : Tr XE := Tr.set mT57 p123 (.fn x123)
theorem mTab58 : TabOK Tryz.prog mTabs mT58 := tab_set (f := 123) mTab57 x123E
noncomputable def mT59 : Tr XE := Tr.set mT58 p124 (.fn x124)
theorem mTab59 : TabOK Tryz.prog mTabs mT59 := tab_set (f := 124) mTab58 x124E
noncomputable def mT60 : Tr XE := Tr.set mT59 p125 (.fn x125)
theorem mTab60 : TabOK Tryz.prog mTabs mT60 := tab_set (f := 125) mTab59 x125E
noncomputable def mT61 : Tr XE := Tr.set mT60 p126 (.fn x126)
theorem mTab61 : TabOK Tryz.prog mTabs mT61 := tab_set (f := 126) mTab60 x126E
noncomputable def mT62 : Tr XE := Tr.set mT61 p127 (.fn x127)
theorem mTab62 : TabOK Tryz.prog mTabs mT62 := tab_set (f := 127) mTab61 x127E
noncomputable def mT63 : Tr XE := Tr.set mT62 p141 (.fn x141)
theorem mTab63 : TabOK Tryz.prog mTabs mT63 := tab_set (f := 141) mTab62 x141E
noncomputable def mT64 : Tr XE := Tr.set mT63 p142 (.fn x142)
theorem mTab64 : TabOK Tryz.prog mTabs mT64 := tab_set (f := 142) mTab63 x142E
theorem mTab_eq : mT64 = mTab := by kernel_rfl
theorem mTabOK : TabOK Tryz.prog mTabs mTab := mTab_eq ▸ mTab64
end Go.Proofs.YtokilnhpepbjlaaGreat
namespace Go.Proofs.YtokilnhpepbjlaaGreat.Calc
open Go Go.RowKit
set_option linter.unusedVariables false
set_option linter.unusedSimpArgs false
noncomputable section
def bnd {α β : Type} (o : Option α) (k : α → Option β) : Option β := @Option.rec α (fun _ => Option β) none k o
def els {α β : Type} (o : Option α) (d : Option β) (k : α → Option β) : Option β := @Option.rec α (fun _ => Option β) d k o
def iffB {β : Type} (t : Bool) (a b : β) : β := @Bool.rec (fun _ => β) b a t
theorem iffB_eq {β : Type} (t : Bool) (a b : β) : iffB t a b = cond t a b := by cases t <;> rfl
theorem bnd_some {α β : Type} (a : α) (k : α → Option β) : bnd (some a) k = k a := rfl
def getK (r : RL) (t : Nat) : Option BV := @List.rec (Nat × BV) (fun _ => Option BV) none (fun e _ ih => @Bool.rec (fun _ => Option BV) ih (some e.2) (Nat.beq e.1 t)) r
theorem getK_eq (t : Nat) : ∀ r : RL,getK r t = getL r t
  | [] => rfl
  | (d,b) :: r => by
    show @Bool.rec (fun _ => Option BV) (getK r t) (some b) (Nat.beq d t) = cond (Nat.beq d t) (some b) (getL r t)
    rw [getK_eq t r]
    cases Nat.beq d t <;> rfl
def setK (r : RL) (d : Nat) (b : BV) : RL := @List.rec (Nat × BV) (fun _ => RL) [(d,b)] (fun e r ih => @Bool.rec (fun _ => RL) (e :: ih) ((d,b) :: r) (Nat.beq e.1 d)) r
theorem setK_eq (d : Nat) (b : BV) : ∀ r : RL,setK r d b = setL r d b
  | [] => rfl
  | (c,x) :: r => by
    show @Bool.rec (fun _ => RL) ((c,x) :: setK r d b) ((d,b) :: r) (Nat.beq c d) = cond (Nat.beq c d) ((d,b) :: r) ((c,x) :: setL r d b)
    rw [setK_eq d b r]
    cases Nat.beq c d <;> rfl
def nthK {α : Type} (l : List α) (n : Nat) : Option α := @List.rec α (fun _ => Nat → Option α) (fun _ => none) (fun a _ ih n => @Nat.rec (fun _ => Option α) (some a) (fun m _ => ih m) n) l n
theorem nthK_eq {α : Type} : ∀ (l : List α) (n : Nat),nthK l n = l[n]?
  | [],n => by simp [nthK]
  | a :: l,0 => rfl
  | a :: l,n + 1 => by
    show nthK l n = _
    rw [nthK_eq l n,List.getElem?_cons_succ]
def lenK {α : Type} (l : List α) : Nat := @List.rec α (fun _ => Nat) 0 (fun _ _ ih => Nat.succ ih) l
theorem lenK_eq {α : Type} : ∀ l : List α,lenK l = l.length
  | [] => rfl
  | a :: l => by show Nat.succ (lenK l) = _;rw [lenK_eq l];rfl
def dropK {α : Type} (n : Nat) (l : List α) : List α := @Nat.rec (fun _ => List α → List α) (fun l => l) (fun _ ih l => @List.rec α (fun _ => List α) [] (fun _ t _ => ih t) l) n l
theorem dropK_eq {α : Type} : ∀ (n : Nat) (l : List α),dropK n l = l.drop n
  | 0,l => rfl
  | n + 1,[] => rfl
  | n + 1,a :: l => by show dropK n l = _;rw [dropK_eq n l];rfl
def takeK {α : Type} (n : Nat) (l : List α) : List α := @Nat.rec (fun _ => List α → List α) (fun _ => []) (fun _ ih l => @List.rec α (fun _ => List α) [] (fun a t _ => a :: ih t) l) n l
theorem takeK_eq {α : Type} : ∀ (n : Nat) (l : List α),takeK n l = l.take n
  | 0,l => by cases l <;> rfl
  | n + 1,[] => rfl
  | n + 1,a :: l => by show a :: takeK n l = _;rw [takeK_eq n l];rfl
def blkK {α : Type} (l : List α) (q : Nat) : List α := @Nat.rec (fun _ => List α) l (fun _ ih => dropK 32 ih) q
theorem blkK_eq {α : Type} (l : List α) : ∀ q,blkK l q = l.drop (32 * q)
  | 0 => rfl
  | q + 1 => by
    show dropK 32 (blkK l q) = _
    rw [dropK_eq,blkK_eq l q,List.drop_drop]
    congr 1
def dropB {α : Type} (n : Nat) (l : List α) : List α := dropK (Nat.mod n 32) (blkK l (Nat.div n 32))
theorem dropB_eq {α : Type} (n : Nat) (l : List α) : dropB n l = l.drop n := by
  rw [dropB,dropK_eq,blkK_eq,List.drop_drop]
  congr 1
  show 32 * (n / 32) + n % 32 = n
  omega
def nthB {α : Type} (l : List α) (n : Nat) : Option α := nthK (blkK l (Nat.div n 32)) (Nat.mod n 32)
theorem nthB_eq {α : Type} (l : List α) (n : Nat) : nthB l n = l[n]? := by
  rw [nthB,nthK_eq,blkK_eq,List.getElem?_drop]
  congr 1
  show 32 * (n / 32) + n % 32 = n
  omega
def appK {α : Type} (l m : List α) : List α := @List.rec α (fun _ => List α) m (fun a _ ih => a :: ih) l
theorem appK_eq {α : Type} (m : List α) : ∀ l : List α,appK l m = l ++ m
  | [] => rfl
  | a :: l => by show a :: appK l m = _;rw [appK_eq m l];rfl
def mapK (l : List DV) : List BV := @List.rec DV (fun _ => List BV) [] (fun a _ ih => .d a :: ih) l
theorem mapK_eq : ∀ l : List DV,mapK l = l.map .d
  | [] => rfl
  | a :: l => by show BV.d a :: mapK l = _;rw [mapK_eq l];rfl
def setNK {α : Type} (l : List α) (n : Nat) (x : α) : List α := @List.rec α (fun _ => Nat → List α) (fun _ => []) (fun a t ih n => @Nat.rec (fun _ => List α) (x :: t) (fun m _ => a :: ih m) n) l n
theorem setNK_eq {α : Type} (x : α) : ∀ (l : List α) (n : Nat),setNK l n x = l.set n x
  | [],n => rfl
  | a :: l,0 => rfl
  | a :: l,n + 1 => by show a :: setNK l n x = _;rw [setNK_eq x l n];rfl
def memK (l : List Nat) (t : Nat) : Bool := @List.rec Nat (fun _ => Bool) false (fun a _ ih => @Bool.rec (fun _ => Bool) ih true (Nat.beq a t)) l
theorem memK_eq (t : Nat) : ∀ l,memK l t = memN l t
  | [] => rfl
  | a :: l => by
    show @Bool.rec (fun _ => Bool) (memK l t) true (Nat.beq a t) = cond (Nat.beq a t) true (memN l t)
    rw [memK_eq t l]
    cases Nat.beq a t <;> rfl
theorem memN_contains (t : Nat) : ∀ l,memN l t = l.contains t
  | [] => rfl
  | a :: l => by
    rw [memN,memN_contains t l,List.contains_cons]
    rcases beq_cases a t with ⟨h,rfl⟩ | ⟨h,hne⟩
    · rw [h];simp
    · rw [h,beq_false_of_ne (fun e => hne e.symm)];rfl
def eqUK (l m : List UInt8) : Bool := @List.rec UInt8 (fun _ => List UInt8 → Bool) (fun m => @List.rec UInt8 (fun _ => Bool) true (fun _ _ _ => false) m) (fun a _ ih m => @List.rec UInt8 (fun _ => Bool) false (fun b m' _ => @Bool.rec (fun _ => Bool) false (ih m') (Nat.beq a.toNat b.toNat)) m) l m
theorem eqUK_eq : ∀ l m : List UInt8,eqUK l m = eqU l m
  | [],[] => rfl
  | [],b :: m => rfl
  | a :: l,[] => rfl
  | a :: l,b :: m => by
    show @Bool.rec (fun _ => Bool) false (eqUK l m) (Nat.beq a.toNat b.toNat) = _
    rw [eqUK_eq l m,eqU]
    cases Nat.beq a.toNat b.toNat <;> rfl
-- operands
def evl : Nat → RL → RL → Option BV := fun n L _ => getK L n
def evt : Nat → RL → RL → Option BV := fun n _ T => getK T n
def evc : BV → RL → RL → Option BV := fun b _ _ => some b
def evn : RL → RL → Option BV := fun _ _ => none
def evK (x : XO) : RL → RL → Option BV := @XO.rec (fun _ => RL → RL → Option BV) evl evt evc evn x
theorem evK_eq (x : XO) (L T : RL) : evK x L T = evX (L,T) x := by
  cases x with
  | l n => exact getK_eq n L
  | t n => exact getK_eq n T
  | c b => rfl
  | no => rfl
def evsK (l : List XO) (L T : RL) : Option (List BV) := @List.rec XO (fun _ => Option (List BV)) (some []) (fun o _ ih => bnd (evK o L T) fun b => bnd ih fun bs => some (b :: bs)) l
theorem evsK_eq (L T : RL) : ∀ l,evsK l L T = evXs (L,T) l
  | [] => rfl
  | o :: l => by
    show bnd (evK o L T) (fun b => bnd (evsK l L T) fun bs => some (b :: bs)) = _
    rw [evK_eq,evsK_eq L T l,evXs]
    cases evX (L,T) o <;> cases evXs (L,T) l <;> rfl
-- values
abbrev VF := Program → (Nat → Bool) → RL → RL → St → Option BV
def vbK (t : Bool) : Option BV := some (.d (.flat (.bool t)))
def seqK (a b : ByteArray) : Option BV := vbK (eqUK a.data.toList b.data.toList)
def sneK (a b : ByteArray) : Option BV := vbK (@Bool.rec (fun _ => Bool) true false (eqUK a.data.toList b.data.toList))
def catK (a b : ByteArray) : ByteArray := ⟨(appK a.data.toList b.data.toList).toArray⟩
def scatK (a b : ByteArray) : Option BV := iffB (Nat.ble (Nat.add (lenK a.data.toList) (lenK b.data.toList)) 9223372036854775807) (some (.d (.flat (.string (catK a b))))) none
def strK : BinOp → ByteArray → ByteArray → Option BV
  | .eql => seqK
  | .neq => sneK
  | .add => scatK
  | _ => snoX
theorem strK_eq (f : BinOp) (a b : ByteArray) : strK f a b = strX f a b := by
  cases f with
  | eql => simp only [strK,strX,seqK,seqX,eqS,eqUK_eq];rfl
  | neq => simp only [strK,strX,sneK,sneX,eqS,eqUK_eq];cases eqU a.data.toList b.data.toList <;> rfl
  | add => simp only [strK,strX,scatK,scatX,iffB_eq,lenK_eq,catK,catS,appK_eq];rfl
  | _ => rfl
def binK (f : BinOp) (a b : BV) : Option BV := els (numB a) (bnd (strB a) fun s => bnd (strB b) fun t => strK f s t) fun p => bnd (numB b) fun q => iffB (Nat.beq p.1 q.1) (iffB (Nat.beq p.1 0) none (natX f p.1 p.2 q.2)) none
theorem binK_eq (f : BinOp) (a b : BV) : binK f a b = binX f a b := by
  unfold binK binX els
  cases numB a with
  | some p =>
    obtain ⟨c,m⟩ := p
    cases numB b with
    | none => rfl
    | some q =>
      obtain ⟨d,n⟩ := q
      simp only [bnd_some,iffB_eq]
      cases Nat.beq c d <;> cases Nat.beq c 0 <;> rfl
  | none =>
    cases strB a with
    | none => rfl
    | some s =>
      cases strB b with
      | none => rfl
      | some t => exact strK_eq f s t
def idxK (a b : BV) : Option BV := bnd (strB a) fun s => bnd (numB b) fun q => bnd (nthB s.data.toList q.2) fun u => some (.d (.flat (.int .u8 (.ofNat u.toNat))))
theorem idxK_eq (a b : BV) : idxK a b = idxX a b := by
  unfold idxK idxX
  cases strB a with
  | none => rfl
  | some s =>
    cases numB b with
    | none => rfl
    | some q =>
      obtain ⟨c,i⟩ := q
      simp only [bnd_some,nthB_eq]
      cases s.data.toList[i]? <;> rfl
def mvV (x : XO) : VF := fun _ _ L T _ => evK x L T
def pickV (c a b : XO) : VF := fun _ _ L T _ => bnd (evK c L T) fun v => bnd (boolB v) fun t => iffB t (evK a L T) (evK b L T)
def binV (f : BinOp) (x y : XO) (op : Op) : VF := fun P loc L T st => bnd (evK x L T) fun a => bnd (evK y L T) fun b => els (binK f a b) (stepV P st (rgx loc (L,T)) op) some
def notV (x : XO) : VF := fun _ _ L T _ => bnd (evK x L T) fun v => bnd (boolB v) fun t => iffB t (vbK false) (vbK true)
def idxV (x i : XO) (op : Op) : VF := fun P loc L T st => bnd (evK x L T) fun a => bnd (evK i L T) fun b => els (idxK a b) (stepV P st (rgx loc (L,T)) op) some
def faV (o : Nat) (x : XO) : VF := fun _ _ L T _ => bnd (evK x L T) fun b => els (ptrB b) (bnd (eptrB b) fun cs => some (.eptr (dropK o cs))) fun q => some (.ptr q.1 (Nat.add q.2 o))
def iaV (sz : Nat) (x i : XO) : VF := fun _ _ L T _ => bnd (evK x L T) fun a => bnd (evK i L T) fun b => bnd (rowB a) fun r => bnd (numB b) fun q => iffB (Nat.ble (Nat.succ q.2) r.2) (some (.eptr (takeK sz (dropB (Nat.mul q.2 sz) r.1)))) none
def partK (ag : Bool) (sz off : Nat) (cs : List BV) : Option BV := iffB ag (iffB (Nat.ble (Nat.add off sz) (lenK cs)) (some (.agg (takeK sz (dropK off cs)))) none) (iffB (Nat.beq sz 1) (nthK cs off) (part ag sz off cs))
theorem partK_eq (ag : Bool) (sz off : Nat) (cs : List BV) : partK ag sz off cs = partX ag sz off cs := by
  unfold partK partX
  cases ag
  · simp only [iffB_eq,nthK_eq,cond_false,Bool.not_false,Bool.true_and]
  · simp only [iffB_eq,cond_true,Bool.not_true,Bool.false_and,cond_false,lenK_eq,takeK_eq,dropK_eq,part]
    by_cases h : off + sz ≤ cs.length
    · rw [if_pos h,show Nat.ble (Nat.add off sz) cs.length = true from Nat.ble_eq_true_of_le h]
      rfl
    · rw [if_neg h]
      have : Nat.ble (Nat.add off sz) cs.length = false := by
        rw [Bool.eq_false_iff]
        exact fun e => h (Nat.le_of_ble_eq_true e)
      rw [this]
      rfl
def ldV (ag : Bool) (sz : Nat) (x : XO) : VF := fun _ _ L T st => bnd (evK x L T) fun b => els (ptrB b) (bnd (eptrB b) fun cs => partK ag sz 0 (mapK cs)) fun q => bnd (nthK st.S q.1) fun c => partK ag sz q.2 c.1
def ncV (x : XO) : VF := fun _ _ L T _ => bnd (evK x L T) fun b => els (ptrB b) (els (eptrB b) (bnd (fnB b) fun _ => some b) fun _ => some b) fun _ => some b
def exV (x : XO) (i : Nat) : VF := fun _ _ L T _ => bnd (evK x L T) fun b => bnd (tupB b) fun l => nthK l i
def lensV (x : XO) : VF := fun _ _ L T _ => bnd (evK x L T) fun b => bnd (strB b) fun s => some (.d (.flat (.int .i64 (.ofNat (lenK s.data.toList)))))
def lenrV (x : XO) : VF := fun _ _ L T _ => bnd (evK x L T) fun b => bnd (rowB b) fun r => some (.d (.flat (.int .i64 (.ofNat r.2))))
def bndK (d : Nat) (o : Option XO) (L T : RL) : Option Nat := @Option.rec XO (fun _ => Option Nat) (some d) (fun o => bnd (evK o L T) fun b => bnd (numB b) fun q => some q.2) o
theorem bndK_eq (d : Nat) (o : Option XO) (L T : RL) : bndK d o L T = bndX (L,T) d o := by
  cases o with
  | none => rfl
  | some o =>
    show bnd (evK o L T) (fun b => bnd (numB b) fun q => some q.2) = _
    rw [evK_eq,bndX]
    cases evX (L,T) o with
    | none => rfl
    | some b => cases h : numB b <;> simp only [bnd_some,h] <;> rfl
def slsK (s : ByteArray) (l h : Nat) : Option BV := iffB (Nat.ble l h) (iffB (Nat.ble h (lenK s.data.toList)) (some (.d (.flat (.string ⟨(takeK (Nat.sub h l) (dropB l s.data.toList)).toArray⟩)))) none) none
theorem slsK_eq (s : ByteArray) (l h : Nat) : slsK s l h = slsX s l h := by
  simp only [slsK,slsX,iffB_eq,lenK_eq,takeK_eq,dropB_eq]
  show cond (Nat.ble l h) (cond (Nat.ble h (lenS s)) (some (BV.d (.flat (.string (subS s l h))))) none) none = _
  cases Nat.ble l h <;> cases Nat.ble h (lenS s) <;> rfl
def slsV (x : XO) (lo hi : Option XO) : VF := fun _ _ L T _ => bnd (evK x L T) fun b => bnd (strB b) fun s => bnd (bndK 0 lo L T) fun l => bnd (bndK (lenK s.data.toList) hi L T) fun h => slsK s l h
def genV (op : Op) : VF := fun P loc L T st => stepV P st (rgx loc (L,T)) op
def noV : VF := fun _ _ _ _ _ => none
def vK (i : XI) : VF := @XI.rec (fun _ => VF) mvV pickV binV notV idxV faV iaV ldV ncV exV (fun _ _ _ => noV) lensV lenrV slsV (fun _ _ _ => noV) (fun _ _ => noV) genV i
theorem vK_eq (P : Program) (loc : Nat → Bool) (L T : RL) (st : St) (i : XI) : vK i P loc L T st = stV loc P st (L,T) i := by
  cases i with
  | mv x => exact evK_eq x L T
  | pick c a b =>
    show bnd (evK c L T) (fun v => bnd (boolB v) fun t => iffB t (evK a L T) (evK b L T)) = _
    simp only [stV,evK_eq,iffB_eq]
    cases evX (L,T) c with
    | none => rfl
    | some v => cases h : boolB v <;> simp only [bnd_some,h] <;> rfl
  | bin f x y op =>
    show bnd (evK x L T) (fun a => bnd (evK y L T) fun b => els (binK f a b) (stepV P st (rgx loc (L,T)) op) some) = _
    simp only [stV,evK_eq,binK_eq]
    cases evX (L,T) x with
    | none => rfl
    | some a => cases evX (L,T) y with
      | none => rfl
      | some b => simp only [bnd_some];cases binX f a b <;> rfl
  | not x =>
    show bnd (evK x L T) (fun v => bnd (boolB v) fun t => iffB t (vbK false) (vbK true)) = _
    simp only [stV,evK_eq]
    cases evX (L,T) x with
    | none => rfl
    | some v => cases h : boolB v with
      | none => simp only [bnd_some,h];rfl
      | some t => simp only [bnd_some,h];cases t <;> rfl
  | idx x i op =>
    show bnd (evK x L T) (fun a => bnd (evK i L T) fun b => els (idxK a b) (stepV P st (rgx loc (L,T)) op) some) = _
    simp only [stV,evK_eq,idxK_eq]
    cases evX (L,T) x with
    | none => rfl
    | some a => cases evX (L,T) i with
      | none => rfl
      | some b => simp only [bnd_some];cases idxX a b <;> rfl
  | fa o x =>
    show bnd (evK x L T) (fun b => els (ptrB b) (bnd (eptrB b) fun cs => some (BV.eptr (dropK o cs))) fun q => some (BV.ptr q.1 (Nat.add q.2 o))) = _
    simp only [stV,evK_eq,dropK_eq]
    cases evX (L,T) x with
    | none => rfl
    | some b =>
      simp only [bnd_some]
      cases ptrB b with
      | some q => rfl
      | none => cases eptrB b <;> rfl
  | ia sz x i =>
    show bnd (evK x L T) (fun a => bnd (evK i L T) fun b => bnd (rowB a) fun r => bnd (numB b) fun q => iffB (Nat.ble (Nat.succ q.2) r.2) (some (BV.eptr (takeK sz (dropB (Nat.mul q.2 sz) r.1)))) none) = _
    simp only [stV,evK_eq,takeK_eq,dropB_eq,iffB_eq]
    cases evX (L,T) x with
    | none => rfl
    | some a => cases evX (L,T) i with
      | none => rfl
      | some b =>
        simp only [bnd_some]
        cases rowB a with
        | none => rfl
        | some r => cases numB b <;> rfl
  | ld ag sz x =>
    show bnd (evK x L T) (fun b => els (ptrB b) (bnd (eptrB b) fun cs => partK ag sz 0 (mapK cs)) fun q => bnd (nthK st.S q.1) fun c => partK ag sz q.2 c.1) = _
    simp only [stV,evK_eq,partK_eq,mapK_eq,nthK_eq]
    cases evX (L,T) x with
    | none => rfl
    | some b =>
      simp only [bnd_some]
      cases ptrB b with
      | some q =>
        obtain ⟨id,off⟩ := q
        show bnd st.S[id]? _ = _
        dsimp only
        cases st.S[id]? <;> rfl
      | none => cases eptrB b <;> rfl
  | nc x =>
    show bnd (evK x L T) (fun b => els (ptrB b) (els (eptrB b) (bnd (fnB b) fun _ => some b) fun _ => some b) fun _ => some b) = _
    simp only [stV,evK_eq]
    cases evX (L,T) x with
    | none => rfl
    | some b =>
      simp only [bnd_some]
      cases ptrB b with
      | some q => rfl
      | none => cases eptrB b with
        | some q => rfl
        | none => cases fnB b <;> rfl
  | ex x i =>
    show bnd (evK x L T) (fun b => bnd (tupB b) fun l => nthK l i) = _
    simp only [stV,evK_eq,nthK_eq]
    cases evX (L,T) x with
    | none => rfl
    | some b => cases h : tupB b <;> simp only [bnd_some,h] <;> rfl
  | st sz x v => rfl
  | lens x =>
    show bnd (evK x L T) (fun b => bnd (strB b) fun s => some (BV.d (.flat (.int .i64 (.ofNat (lenK s.data.toList)))))) = _
    simp only [stV,evK_eq,lenK_eq]
    cases evX (L,T) x with
    | none => rfl
    | some b => cases h : strB b <;> simp only [bnd_some,h] <;> rfl
  | lenr x =>
    show bnd (evK x L T) (fun b => bnd (rowB b) fun r => some (BV.d (.flat (.int .i64 (.ofNat r.2))))) = _
    simp only [stV,evK_eq]
    cases evX (L,T) x with
    | none => rfl
    | some b => cases h : rowB b <;> simp only [bnd_some,h] <;> rfl
  | sls x lo hi =>
    show bnd (evK x L T) (fun b => bnd (strB b) fun s => bnd (bndK 0 lo L T) fun l => bnd (bndK (lenK s.data.toList) hi L T) fun h => slsK s l h) = _
    simp only [stV,evK_eq,bndK_eq,slsK_eq,lenK_eq]
    cases evX (L,T) x with
    | none => rfl
    | some b =>
      simp only [bnd_some]
      cases strB b with
      | none => rfl
      | some s =>
        simp only [bnd_some]
        cases bndX (L,T) 0 lo with
        | none => rfl
        | some l =>
          simp only [bnd_some]
          show bnd (bndX (L,T) (lenS s) hi) _ = _
          cases bndX (L,T) (lenS s) hi <;> rfl
  | cs f p ars => rfl
  | cl f ars => rfl
  | gen op => rfl
end
end Go.Proofs.YtokilnhpepbjlaaGreat.Calc
namespace Go.Proofs.YtokilnhpepbjlaaGreat.Calc
open Go Go.RowKit
set_option linter.unusedVariables false
set_option linter.unusedSimpArgs false
noncomputable section
abbrev Z := AX × RL × St
abbrev KK := BV → St → Option Z
abbrev SF := Program → (Nat → Bool) → (Nat → Bool) → Caller → RL → RL → St → KK → Option Z
def idK : BV → List Nat → List Nat
  | .ptr id _ => fun l => id :: l
  | .fn _ cap => fun l => idsC cap ++ l
  | _ => fun l => l
def idsK (vs : List BV) : List Nat := @List.rec BV (fun _ => List Nat) [] (fun b _ ih => idK b ih) vs
theorem idsK_eq : ∀ vs,idsK vs = idsBs vs
  | [] => rfl
  | b :: vs => by
    show idK b (idsK vs) = _
    rw [idsK_eq vs]
    cases b <;> rfl
def allK (ok : Nat → Bool) (l : List Nat) : Bool := @List.rec Nat (fun _ => Bool) true (fun i _ ih => iffB (ok i) ih false) l
theorem allK_eq (ok : Nat → Bool) : ∀ l,allK ok l = l.all ok
  | [] => rfl
  | i :: l => by
    show iffB (ok i) (allK ok l) false = _
    rw [allK_eq ok l,iffB_eq,List.all_cons]
    cases ok i <;> rfl
def putLK {α : Type} (off : Nat) (us l : List α) : List α := @List.rec α (fun _ => Nat → List α → List α) (fun _ l => l) (fun c _ ih off l => ih (Nat.succ off) (setNK l off c)) us off l
theorem putLK_eq {α : Type} : ∀ (us : List α) (off : Nat) (l : List α),putLK off us l = putL off us l
  | [],off,l => rfl
  | c :: us,off,l => by
    show putLK (off + 1) us (setNK l off c) = _
    rw [putLK_eq us,setNK_eq]
    rfl
def stoK (ok : Nat → Bool) (st : St) (sz id off : Nat) (b : BV) : Option St :=
  bnd (nthK st.S id) fun c => iffB (ok id) (iffB (cellOK b) (iffB (Nat.beq (lenK (cellsOfB b)) sz) (iffB (Nat.ble (Nat.add off sz) (lenK c.1)) (some ⟨setNK st.S id (putLK off (cellsOfB b) c.1,c.2),st.T,st.M⟩) none) none) none) none
theorem stoK_eq (ok : Nat → Bool) (st : St) (sz id off : Nat) (b : BV) : stoX ok st sz id off b = bnd (stoK ok st sz id off b) fun s => some (s,none) := by
  simp only [stoX,stoK,nthK_eq,iffB_eq,lenK_eq,setNK_eq,putLK_eq]
  cases st.S[id]? with
  | none => rfl
  | some c =>
    obtain ⟨cs,ty⟩ := c
    simp only [bnd_some]
    show cond (ok id && (cellOK b && (Nat.beq (cellsOfB b).length sz && Nat.ble (off + sz) cs.length))) _ _ = bnd (cond (ok id) (cond (cellOK b) (cond (Nat.beq (cellsOfB b).length sz) (cond (Nat.ble (off + sz) cs.length) _ _) _) _) _) _
    cases ok id <;> cases cellOK b <;> cases Nat.beq (cellsOfB b).length sz <;> cases Nat.ble (off + sz) cs.length <;> rfl
def valS (v : VF) : SF := fun P loc ok call L T st k => bnd (v P loc L T st) fun b => k b st
def stS (sz : Nat) (x v : XO) : SF := fun P loc ok call L T st k => bnd (evK x L T) fun a => bnd (ptrB a) fun q => bnd (evK v L T) fun b => bnd (stoK ok st sz q.1 q.2 b) fun s => k (.tup []) s
def callS (ok : Nat → Bool) (call : Caller) (st : St) (g : Nat) (p : List Bool) (vs : List BV) (k : KK) : Option Z := iffB (allK ok (idsK vs)) (bnd (call g p vs st) fun z => k z.1 z.2) none
def csS (g : Nat) (p : List Bool) (ars : List XO) : SF := fun P loc ok call L T st k => bnd (evsK ars L T) fun vs => callS ok call st g p vs k
def clS (f : XO) (ars : List XO) : SF := fun P loc ok call L T st k => bnd (evK f L T) fun v => bnd (fnB v) fun q => bnd (evsK ars L T) fun vs => callS ok call st q.1 (bits q.1) (appK vs q.2) k
def genS (op : Op) : SF := fun P loc ok call L T st k => els (stepV P st (rgx loc (L,T)) op) (bnd (stepW P ok st (rgx loc (L,T)) op) fun z => k (z.2.getD (.tup [])) z.1) fun b => k b st
def stepK (i : XI) : SF := @XI.rec (fun _ => SF) (fun x => valS (mvV x)) (fun c a b => valS (pickV c a b)) (fun f x y op => valS (binV f x y op)) (fun x => valS (notV x)) (fun x i op => valS (idxV x i op)) (fun o x => valS (faV o x)) (fun sz x i => valS (iaV sz x i)) (fun ag sz x => valS (ldV ag sz x)) (fun x => valS (ncV x)) (fun x i => valS (exV x i)) stS (fun x => valS (lensV x)) (fun x => valS (lenrV x)) (fun x lo hi => valS (slsV x lo hi)) csS clS genS i
def goOn (z : Option (St × Option BV)) (k : KK) : Option Z := bnd z fun z => k (z.2.getD (.tup [])) z.1
theorem callS_eq {ok : Nat → Bool} {call : Caller} {st : St} {g : Nat} {p : List Bool} {vs : List BV} {k : KK} : callS ok call st g p vs k = goOn (callV ok call st g p vs) k := by
  unfold callS callV goOn
  rw [allK_eq,idsK_eq,iffB_eq]
  cases h : (idsBs vs).all ok
  · rw [if_neg (by decide)];rfl
  · rw [if_pos rfl]
    simp only [cond_true]
    cases call g p vs st <;> rfl
theorem valS_eq {P : Program} {loc ok : Nat → Bool} {call : Caller} {L T : RL} {st : St} {k : KK} {i : XI} {v : VF} (hv : v P loc L T st = stV loc P st (L,T) i) (hs : stepX loc P ok call (L,T) st i = match stV loc P st (L,T) i with | some b => some (st,some b) | none => none) : valS v P loc ok call L T st k = goOn (stepX loc P ok call (L,T) st i) k := by
  rw [hs]
  unfold valS
  rw [hv]
  cases stV loc P st (L,T) i <;> rfl
theorem stepK_eq (P : Program) (loc ok : Nat → Bool) (call : Caller) (L T : RL) (st : St) (k : KK) (i : XI) : stepK i P loc ok call L T st k = goOn (stepX loc P ok call (L,T) st i) k := by
  cases i with
  | st sz x v =>
    show bnd (evK x L T) (fun a => bnd (ptrB a) fun q => bnd (evK v L T) fun b => bnd (stoK ok st sz q.1 q.2 b) fun s => k (.tup []) s) = _
    simp only [stepX,stW,evK_eq]
    cases evX (L,T) x with
    | none => rfl
    | some a =>
      simp only [bnd_some]
      cases ptrB a with
      | none => rfl
      | some q =>
        obtain ⟨id,off⟩ := q
        simp only [bnd_some]
        cases evX (L,T) v with
        | none => rfl
        | some b =>
          simp only [bnd_some,stoK_eq]
          cases stoK ok st sz id off b <;> rfl
  | cs g p ars =>
    show bnd (evsK ars L T) (fun vs => callS ok call st g p vs k) = _
    simp only [stepX,evsK_eq,callS_eq]
    cases evXs (L,T) ars with
    | none => rfl
    | some vs => simp only [bnd_some,List.append_nil]
  | cl f ars =>
    show bnd (evK f L T) (fun v => bnd (fnB v) fun q => bnd (evsK ars L T) fun vs => callS ok call st q.1 (bits q.1) (appK vs q.2) k) = _
    simp only [stepX,evsK_eq,evK_eq,callS_eq,appK_eq]
    cases evX (L,T) f with
    | none => rfl
    | some v =>
      simp only [bnd_some]
      cases fnB v with
      | none => rfl
      | some q =>
        simp only [bnd_some]
        cases evXs (L,T) ars <;> rfl
  | gen op =>
    show els (stepV P st (rgx loc (L,T)) op) (bnd (stepW P ok st (rgx loc (L,T)) op) fun z => k (z.2.getD (.tup [])) z.1) (fun b => k b st) = _
    simp only [stepX,stW]
    cases stepV P st (rgx loc (L,T)) op <;> rfl
  | mv x => exact valS_eq (i := .mv x) (vK_eq P loc L T st (.mv x)) rfl
  | pick c a b => exact valS_eq (i := .pick c a b) (vK_eq P loc L T st (.pick c a b)) rfl
  | bin f x y op => exact valS_eq (i := .bin f x y op) (vK_eq P loc L T st (.bin f x y op)) rfl
  | not x => exact valS_eq (i := .not x) (vK_eq P loc L T st (.not x)) rfl
  | idx x i op => exact valS_eq (i := .idx x i op) (vK_eq P loc L T st (.idx x i op)) rfl
  | fa o x => exact valS_eq (i := .fa o x) (vK_eq P loc L T st (.fa o x)) rfl
  | ia sz x i => exact valS_eq (i := .ia sz x i) (vK_eq P loc L T st (.ia sz x i)) rfl
  | ld ag sz x => exact valS_eq (i := .ld ag sz x) (vK_eq P loc L T st (.ld ag sz x)) rfl
  | nc x => exact valS_eq (i := .nc x) (vK_eq P loc L T st (.nc x)) rfl
  | ex x i => exact valS_eq (i := .ex x i) (vK_eq P loc L T st (.ex x i)) rfl
  | lens x => exact valS_eq (i := .lens x) (vK_eq P loc L T st (.lens x)) rfl
  | lenr x => exact valS_eq (i := .lenr x) (vK_eq P loc L T st (.lenr x)) rfl
  | sls x lo hi => exact valS_eq (i := .sls x lo hi) (vK_eq P loc L T st (.sls x lo hi)) rfl
def putK (d : XT) (b : BV) (L T : RL) (k : RL → RL → Option Z) : Option Z := @XT.rec (fun _ => Option Z) (k L T) (fun n => k (setK L n b) T) (fun n => k L ((n,b) :: T)) d
theorem putK_eq (d : XT) (b : BV) (L T : RL) (k : RL → RL → Option Z) : putK d b L T k = k (putX (L,T) d b).1 (putX (L,T) d b).2 := by
  cases d with
  | no => rfl
  | l n => show k (setK L n b) T = _;rw [setK_eq];rfl
  | t n => rfl
def guardK (g : XG) (L T : RL) (yes no : Option Z) : Option Z := @XG.rec (fun _ => Option Z) yes (fun x t => bnd (evK x L T) fun v => els (boolB v) (bnd (tupB v) fun l => @List.rec BV (fun _ => Option Z) no (fun _ _ _ => none) l) fun b => iffB b (iffB t yes no) (iffB t no yes)) none g
theorem guardK_eq (g : XG) (L T : RL) (yes no : Option Z) : guardK g L T yes no = match gX (L,T) g with
    | some true => yes
    | some false => no
    | none => none := by
  cases g with
  | yes => rfl
  | bad => rfl
  | g x t =>
    show bnd (evK x L T) (fun v => els (boolB v) (bnd (tupB v) fun l => @List.rec BV (fun _ => Option Z) no (fun _ _ _ => none) l) fun b => iffB b (iffB t yes no) (iffB t no yes)) = _
    simp only [gX,evK_eq]
    cases evX (L,T) x with
    | none => rfl
    | some v =>
      simp only [bnd_some]
      cases boolB v with
      | some b => cases b <;> cases t <;> rfl
      | none =>
        cases tupB v with
        | none => rfl
        | some l => cases l <;> rfl
abbrev RK := RL → RL → St → Option Z
def oneK (x : XP) (P : Program) (loc ok : Nat → Bool) (call : Caller) (L T : RL) (st : St) (k : RK) : Option Z :=
  guardK x.g L T (stepK x.i P loc ok call L T st fun b s => putK x.d b L T fun L' T' => k L' T' s) (putK x.d (.tup []) L T fun L' T' => k L' T' st)
def goR (z : Option (RT × St)) (k : RK) : Option Z := bnd z fun z => k z.1.1 z.1.2 z.2
theorem putW_eq (r : RT) (d : XT) (b : Option BV) : putW r d b = putX r d (b.getD (.tup [])) := by cases b <;> rfl
theorem oneK_eq (x : XP) (P : Program) (loc ok : Nat → Bool) (call : Caller) (L T : RL) (st : St) (k : RK) : oneK x P loc ok call L T st k = goR (oneX loc P ok call x (L,T) st) k := by
  unfold oneK oneX
  rw [guardK_eq,stepK_eq]
  cases gX (L,T) x.g with
  | none => rfl
  | some t =>
    cases t
    · simp only [putK_eq];rfl
    · dsimp only
      unfold goOn
      cases stepX loc P ok call (L,T) st x.i with
      | none => rfl
      | some z => simp only [bnd_some,putK_eq,putW_eq,goR]
def runLK (P : Program) (loc ok : Nat → Bool) (call : Caller) (l : List XQ) : RL → RL → St → RK → Option Z :=
  @List.rec XQ (fun _ => RL → RL → St → RK → Option Z) (fun L T st k => k L T st) (fun x _ ih L T st k => @XQ.rec (fun _ => Option Z) (fun n x => bnd (evK x L T) fun b => ih L ((n,b) :: T) st k) (fun p => oneK p P loc ok call L T st fun L' T' s => ih L' T' s k) x) l
theorem runLK_eq (P : Program) (loc ok : Nat → Bool) (call : Caller) : ∀ (l : List XQ) (L T : RL) (st : St) (k : RK),runLK P loc ok call l L T st k = goR (runL loc P ok call (l.map toXP) (L,T) st) k
  | [],L,T,st,k => rfl
  | .g x :: l,L,T,st,k => by
    show oneK x P loc ok call L T st (fun L' T' s => runLK P loc ok call l L' T' s k) = _
    rw [oneK_eq,List.map_cons,runL,toXP]
    cases oneX loc P ok call x (L,T) st with
    | none => rfl
    | some z =>
      obtain ⟨⟨L',T'⟩,s⟩ := z
      simp only [goR,bnd_some]
      rw [runLK_eq P loc ok call l]
      rfl
  | .mt n x :: l,L,T,st,k => by
    show bnd (evK x L T) (fun b => runLK P loc ok call l L ((n,b) :: T) st k) = _
    rw [evK_eq,List.map_cons,runL,toXP]
    simp only [oneX,gX,stepX,stW,stV]
    cases evX (L,T) x with
    | none => rfl
    | some b =>
      simp only [bnd_some,putW,putX]
      rw [runLK_eq P loc ok call l]
-- drawn regions
def stabK (Wr : List Nat) (loc : Nat → Bool) (L T : RL) (i : XI) : Bool := @List.rec Nat (fun _ => Bool) true (fun _ _ _ => stabX loc Wr (L,T) i) Wr
theorem stabK_eq (Wr : List Nat) (loc : Nat → Bool) (L T : RL) (i : XI) : stabK Wr loc L T i = stabX loc Wr (L,T) i := by
  cases Wr with
  | cons a l => rfl
  | nil =>
    show true = _
    cases i with
    | ld ag sz x =>
      simp only [stabX]
      cases evX (L,T) x with
      | none => rfl
      | some b =>
        cases h : ptrB b with
        | none => simp only [h]
        | some q => simp only [h];rfl
    | gen op => exact (stabB_nil _ _).symm
    | _ => rfl
def okW (ok : Nat → Bool) (w : Bool) (Wr : List Nat) (i : Nat) : Bool := iffB (ok i) (iffB w true (memK Wr i)) false
theorem okW_eq (ok : Nat → Bool) (w : Bool) (Wr : List Nat) : okW ok w Wr = fun i => ok i && (w || Wr.contains i) := by
  funext i
  simp only [okW,iffB_eq,memK_eq,memN_contains]
  cases ok i <;> cases w <;> rfl
def runAK (P : Program) (loc ok : Nat → Bool) (Wr : List Nat) (call : Caller) (l : List XA) : RL → RL → St → RK → Option Z :=
  @List.rec XA (fun _ => RL → RL → St → RK → Option Z) (fun L T st k => k L T st) (fun a _ ih L T st k => iffB a.take (bnd (vK a.x.i P loc L T st) fun b => putK a.x.d b L T fun L' T' => ih L' T' st k)
    (iffB (okSt st && argsIn (L,T) st a.x.i) (oneK a.x P loc (okW ok a.wr Wr) call L T st fun L' T' s => iffB (Nat.beq s.T.length st.T.length) (ih L' T' s k) none) none)) l
theorem runAK_eq (P : Program) (loc ok : Nat → Bool) (Wr : List Nat) (call : Caller) : ∀ (l : List XA) (L T : RL) (st : St) (k : RK),runAK P loc ok Wr call l L T st k = goR (runA loc P ok Wr call l (L,T) st) k
  | [],L,T,st,k => rfl
  | ⟨t,w,x⟩ :: l,L,T,st,k => by
    show iffB t (bnd (vK x.i P loc L T st) fun b => putK x.d b L T fun L' T' => runAK P loc ok Wr call l L' T' st k)
      (iffB (okSt st && argsIn (L,T) st x.i) (oneK x P loc (okW ok w Wr) call L T st fun L' T' s => iffB (Nat.beq s.T.length st.T.length) (runAK P loc ok Wr call l L' T' s k) none) none) = _
    cases t
    · rw [oneK_eq,okW_eq,iffB_eq,iffB_eq]
      simp only [cond_false,runA]
      cases okSt st && argsIn (L,T) st x.i
      · cases oneX loc P (fun i => ok i && (w || Wr.contains i)) call x (L,T) st <;> rfl
      · cases oneX loc P (fun i => ok i && (w || Wr.contains i)) call x (L,T) st with
        | none => rfl
        | some z =>
          obtain ⟨⟨L',T'⟩,s⟩ := z
          simp only [cond_true,goR,bnd_some,iffB_eq]
          cases h : Nat.beq s.T.length st.T.length
          · rfl
          · simp only [cond_true,if_true]
            rw [runAK_eq P loc ok Wr call l]
            rfl
    · rw [vK_eq,iffB_eq]
      simp only [cond_true,runA]
      cases stV loc P st (L,T) x.i with
      | none => rfl
      | some b =>
        simp only [bnd_some,putK_eq]
        rw [runAK_eq P loc ok Wr call l]
def stK (P : Program) (loc ok : Nat → Bool) (Wr : List Nat) (call : Caller) (a : XA) (L T : RL) (st : St) (k : RK) : Option Z :=
  iffB a.take (guardK a.x.g L T (iffB (stabK Wr loc L T a.x.i) (bnd (vK a.x.i P loc L T st) fun b => putK a.x.d b L T fun L' T' => k L' T' st) none) (putK a.x.d (.tup []) L T fun L' T' => k L' T' st))
    (oneK a.x P loc (okW ok a.wr Wr) call L T st k)
def flK (P : Program) (loc ok : Nat → Bool) (Wr : List Nat) (call : Caller) (A : List XA) (j : XP) (L T : RL) (st : St) (k : RK) : Option Z :=
  runAK P loc ok Wr call A L T st fun L1 T1 s1 => bnd (stW loc P ok s1 (L1,T1) j.i) fun z => bnd z.2 fun b => putK j.d b L1 T1 fun L' T' => k L' T' z.1
def runPK (P : Program) (loc ok : Nat → Bool) (Wr : List Nat) (call : Caller) (l : List XD) : RL → RL → St → RK → Option Z :=
  @List.rec XD (fun _ => RL → RL → St → RK → Option Z) (fun L T st k => k L T st) (fun x _ ih L T st k => @XD.rec (fun _ => Option Z) (fun a => stK P loc ok Wr call a L T st fun L' T' s => ih L' T' s k) (fun A j => flK P loc ok Wr call A j L T st fun L' T' s => ih L' T' s k) x) l
theorem runPK_eq (P : Program) (loc ok : Nat → Bool) (Wr : List Nat) (call : Caller) : ∀ (l : List XD) (L T : RL) (st : St) (k : RK),runPK P loc ok Wr call l L T st k = goR (runP loc P ok Wr call l (L,T) st) k
  | [],L,T,st,k => rfl
  | .st ⟨t,w,x⟩ :: l,L,T,st,k => by
    show iffB t (guardK x.g L T (iffB (stabK Wr loc L T x.i) (bnd (vK x.i P loc L T st) fun b => putK x.d b L T fun L' T' => runPK P loc ok Wr call l L' T' st k) none) (putK x.d (.tup []) L T fun L' T' => runPK P loc ok Wr call l L' T' st k))
      (oneK x P loc (okW ok w Wr) call L T st fun L' T' s => runPK P loc ok Wr call l L' T' s k) = _
    cases t
    · rw [oneK_eq,okW_eq,iffB_eq]
      simp only [cond_false,runP]
      cases oneX loc P (fun i => ok i && (w || Wr.contains i)) call x (L,T) st with
      | none => rfl
      | some z =>
        obtain ⟨⟨L',T'⟩,s⟩ := z
        simp only [goR,bnd_some]
        rw [runPK_eq P loc ok Wr call l]
        rfl
    · rw [guardK_eq,vK_eq,stabK_eq,iffB_eq,iffB_eq]
      simp only [cond_true,runP]
      cases gX (L,T) x.g with
      | none => rfl
      | some q =>
        cases q
        · simp only [putK_eq]
          rw [runPK_eq P loc ok Wr call l]
        · dsimp only
          cases stabX loc Wr (L,T) x.i
          · rfl
          · simp only [cond_true,if_true]
            cases stV loc P st (L,T) x.i with
            | none => rfl
            | some b =>
              simp only [bnd_some,putK_eq]
              rw [runPK_eq P loc ok Wr call l]
  | .fl A j :: l,L,T,st,k => by
    show runAK P loc ok Wr call A L T st (fun L1 T1 s1 => bnd (stW loc P ok s1 (L1,T1) j.i) fun z => bnd z.2 fun b => putK j.d b L1 T1 fun L' T' => runPK P loc ok Wr call l L' T' z.1 k) = _
    rw [runAK_eq,runP]
    cases runA loc P ok Wr call A (L,T) st with
    | none => rfl
    | some z =>
      obtain ⟨⟨L1,T1⟩,s1⟩ := z
      simp only [goR,bnd_some]
      cases stW loc P ok s1 (L1,T1) j.i with
      | none => rfl
      | some z =>
        obtain ⟨s2,b⟩ := z
        cases b with
        | none => rfl
        | some b =>
          simp only [bnd_some,putK_eq]
          rw [runPK_eq P loc ok Wr call l]
          rfl
end
end Go.Proofs.YtokilnhpepbjlaaGreat.Calc
