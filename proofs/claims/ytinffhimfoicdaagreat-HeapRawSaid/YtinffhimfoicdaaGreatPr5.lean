/- Texts of the claim, merged: Mach2, Mach3, MachT, Calc15, Calc16. No conditions. -/
import Derived.Test.YtinffhimfoicdaaGreatPr3
import Derived.Test.YtinffhimfoicdaaGreatPr4
import Derived.KernelRfl
/- Functions as the machine takes them. Printed by wip/tool/gen_mach.py. No conditions. -/
namespace Go.Proofs.YtinffhimfoicdaaGreat
open Go Go.Proofs.YtinffhimfoicdaaGreat.Calc
set_option maxRecDepth 100000
set_option linter.unusedVariables false
def x120 : XF := ⟨[0, 1, 2, 3, 4, 6, 7, 8, 9, 10, 11, 12, 13, 14, 23, 43, 48, 53, 68, 83, 88, 99, 109, 127], [0, 1, 2], (.seq (.reg [.g ⟨(.l 3), .yes, .gen (Op.box 26 (Operand.tmp 0))⟩,
  .g ⟨(.l 4), .yes, .gen (Op.box 37 (Operand.tmp 1))⟩,
  .g ⟨(.l 6), .yes, .mv (.c (.d (.flat (Value.int IntKind.i64 0))))⟩])
 (.seq (.reg [.g ⟨(.t 16), .yes, .fa 3 (.l 4)⟩,
  .g ⟨(.t 17), .yes, .ld false 1 (.t 16)⟩,
  .mt 18 (.l 2),
  .g ⟨(.t 19), .yes, .ia 6 (.t 17) (.t 18)⟩,
  .g ⟨(.t 20), .yes, .ld true 6 (.t 19)⟩,
  .g ⟨(.l 7), .yes, .gen (Op.alloc 98)⟩,
  .g ⟨.no, .yes, .st 6 (.l 7) (.t 20)⟩])
 (.seq (.seq (.reg [.g ⟨(.l 8), .yes, .mv (.c (.d (.flat (Value.int IntKind.i64 0))))⟩])
 (.block 0 (.loop (some [2, 3, 4, 7, 8]) (.seq (.seq (.reg [.mt 21 (.l 8),
  .mt 22 (.l 2),
  .g ⟨(.l 23), .yes, .bin BinOp.lss (.t 21) (.t 22) (Op.binOp BinOp.lss 3 (Operand.tmp 21) (Operand.tmp 22) 3)⟩])
 (.cond (.l 23) .skip
 (.exit 0)))
 (.seq (.block 1 (.seq (.drw [] [.st ⟨true, false, ⟨(.t 26), .yes, .fa 3 (.l 4)⟩⟩,
  .st ⟨true, false, ⟨(.t 27), .yes, .ld false 1 (.t 26)⟩⟩,
  .st ⟨true, false, ⟨(.t 28), .yes, .mv (.l 8)⟩⟩,
  .st ⟨true, false, ⟨(.t 29), .yes, .ia 6 (.t 27) (.t 28)⟩⟩,
  .st ⟨true, false, ⟨(.t 30), .yes, .fa 1 (.t 29)⟩⟩,
  .st ⟨true, false, ⟨(.t 31), .yes, .ld false 1 (.t 30)⟩⟩,
  .st ⟨true, false, ⟨(.t 32), .yes, .fa 1 (.l 7)⟩⟩,
  .st ⟨true, false, ⟨(.t 33), .yes, .ld false 1 (.t 32)⟩⟩,
  .st ⟨true, false, ⟨(.t 34), .yes, .bin BinOp.eql (.t 31) (.t 33) (Op.binOp BinOp.eql 4 (Operand.tmp 31) (Operand.tmp 33) 4)⟩⟩,
  .st ⟨true, false, ⟨(.t 35), .yes, .mv (.t 34)⟩⟩,
  .st ⟨true, false, ⟨(.t 36), (.g (.t 35) true), .fa 3 (.l 4)⟩⟩,
  .st ⟨true, false, ⟨(.t 37), (.g (.t 35) true), .ld false 1 (.t 36)⟩⟩,
  .st ⟨true, false, ⟨(.t 38), (.g (.t 35) true), .mv (.l 8)⟩⟩,
  .st ⟨true, false, ⟨(.t 39), (.g (.t 35) true), .ia 6 (.t 37) (.t 38)⟩⟩,
  .st ⟨true, false, ⟨(.t 40), (.g (.t 35) true), .ld true 6 (.t 39)⟩⟩,
  .st ⟨true, false, ⟨(.t 41), (.g (.t 35) true), .ld true 6 (.l 7)⟩⟩,
  .st ⟨false, true, ⟨(.t 42), (.g (.t 35) true), .cs 140 p140 [(.t 40), (.t 41)]⟩⟩,
  .st ⟨true, false, ⟨(.l 43), .yes, .pick (.t 35) (.t 42) (.c (.d (.flat (Value.bool false))))⟩⟩])
 (.cond (.l 43) (.seq (.reg [.g ⟨(.l 6), .yes, .mv (.c (.d (.flat (Value.int IntKind.i64 6))))⟩])
 .ret)
 .skip)))
 (.reg [.mt 24 (.l 8),
  .g ⟨(.t 25), .yes, .bin BinOp.add (.t 24) (.c (.d (.flat (Value.int IntKind.i64 1)))) (Op.binOp BinOp.add 3 (Operand.tmp 24) (Operand.const (Value.int IntKind.i64 1)) 3)⟩,
  .g ⟨(.l 8), .yes, .mv (.t 25)⟩]))))))
 (.seq (.seq (.reg [.g ⟨(.l 9), .yes, .mv (.c (.d (.flat (Value.int IntKind.i64 0))))⟩])
 (.block 2 (.loop (some [2, 3, 4, 7, 9]) (.seq (.seq (.reg [.mt 44 (.l 9),
  .g ⟨(.t 45), .yes, .fa 4 (.l 7)⟩,
  .g ⟨(.t 46), .yes, .ld false 1 (.t 45)⟩,
  .g ⟨(.t 47), .yes, .lenr (.t 46)⟩,
  .g ⟨(.l 48), .yes, .bin BinOp.lss (.t 44) (.t 47) (Op.binOp BinOp.lss 3 (Operand.tmp 44) (Operand.tmp 47) 3)⟩])
 (.cond (.l 48) .skip
 (.exit 2)))
 (.seq (.block 3 (.seq (.reg [.g ⟨(.l 10), .yes, .mv (.c (.d (.flat (Value.int IntKind.i64 0))))⟩])
 (.block 4 (.loop (some [2, 3, 4, 7, 9, 10]) (.seq (.seq (.reg [.mt 51 (.l 10),
  .mt 52 (.l 9),
  .g ⟨(.l 53), .yes, .bin BinOp.lss (.t 51) (.t 52) (Op.binOp BinOp.lss 3 (Operand.tmp 51) (Operand.tmp 52) 3)⟩])
 (.cond (.l 53) .skip
 (.exit 4)))
 (.seq (.block 5 (.seq (.drw [] [.st ⟨true, false, ⟨(.t 56), .yes, .fa 4 (.l 7)⟩⟩,
  .st ⟨true, false, ⟨(.t 57), .yes, .ld false 1 (.t 56)⟩⟩,
  .st ⟨true, false, ⟨(.t 58), .yes, .mv (.l 9)⟩⟩,
  .st ⟨true, false, ⟨(.t 59), .yes, .ia 2 (.t 57) (.t 58)⟩⟩,
  .st ⟨true, false, ⟨(.t 60), .yes, .fa 1 (.t 59)⟩⟩,
  .st ⟨true, false, ⟨(.t 61), .yes, .ld false 1 (.t 60)⟩⟩,
  .st ⟨true, false, ⟨(.t 62), .yes, .fa 4 (.l 7)⟩⟩,
  .st ⟨true, false, ⟨(.t 63), .yes, .ld false 1 (.t 62)⟩⟩,
  .st ⟨true, false, ⟨(.t 64), .yes, .mv (.l 10)⟩⟩,
  .st ⟨true, false, ⟨(.t 65), .yes, .ia 2 (.t 63) (.t 64)⟩⟩,
  .st ⟨true, false, ⟨(.t 66), .yes, .fa 1 (.t 65)⟩⟩,
  .st ⟨true, false, ⟨(.t 67), .yes, .ld false 1 (.t 66)⟩⟩,
  .st ⟨true, false, ⟨(.l 68), .yes, .bin BinOp.eql (.t 61) (.t 67) (Op.binOp BinOp.eql 9 (Operand.tmp 61) (Operand.tmp 67) 9)⟩⟩])
 (.cond (.l 68) (.seq (.reg [.g ⟨(.l 6), .yes, .mv (.c (.d (.flat (Value.int IntKind.i64 6))))⟩])
 .ret)
 .skip)))
 (.reg [.mt 54 (.l 10),
  .g ⟨(.t 55), .yes, .bin BinOp.add (.t 54) (.c (.d (.flat (Value.int IntKind.i64 1)))) (Op.binOp BinOp.add 3 (Operand.tmp 54) (Operand.const (Value.int IntKind.i64 1)) 3)⟩,
  .g ⟨(.l 10), .yes, .mv (.t 55)⟩])))))))
 (.reg [.mt 49 (.l 9),
  .g ⟨(.t 50), .yes, .bin BinOp.add (.t 49) (.c (.d (.flat (Value.int IntKind.i64 1)))) (Op.binOp BinOp.add 3 (Operand.tmp 49) (Operand.const (Value.int IntKind.i64 1)) 3)⟩,
  .g ⟨(.l 9), .yes, .mv (.t 50)⟩]))))))
 (.seq (.seq (.reg [.g ⟨(.t 69), .yes, .fa 1 (.l 7)⟩,
  .g ⟨(.t 70), .yes, .ld false 1 (.t 69)⟩,
  .g ⟨(.t 71), .yes, .not (.t 70)⟩,
  .mt 72 (.t 71),
  .g ⟨(.t 73), (.g (.t 72) true), .fa 2 (.l 7)⟩,
  .g ⟨(.t 74), (.g (.t 72) true), .ld false 1 (.t 73)⟩,
  .g ⟨(.t 75), (.g (.t 72) true), .bin BinOp.neq (.t 74) (.c (.d (.flat (Value.string ⟨#[118, 111, 105, 100]⟩)))) (Op.binOp BinOp.neq 9 (Operand.tmp 74) (Operand.const (Value.string ⟨#[118, 111, 105, 100]⟩)) 9)⟩,
  .g ⟨(.t 76), .yes, .pick (.t 72) (.t 75) (.c (.d (.flat (Value.bool false))))⟩,
  .mt 77 (.t 76),
  .g ⟨(.t 78), (.g (.t 77) true), .ld true 1 (.l 3)⟩,
  .g ⟨(.t 79), (.g (.t 77) true), .fa 2 (.l 7)⟩,
  .g ⟨(.t 80), (.g (.t 77) true), .ld false 1 (.t 79)⟩,
  .g ⟨(.t 81), (.g (.t 77) true), .cs 43 p43 [(.t 78), (.t 80)]⟩,
  .g ⟨(.t 82), (.g (.t 77) true), .not (.t 81)⟩,
  .g ⟨(.l 83), .yes, .pick (.t 77) (.t 82) (.c (.d (.flat (Value.bool false))))⟩])
 (.cond (.l 83) (.seq (.reg [.g ⟨(.l 6), .yes, .mv (.c (.d (.flat (Value.int IntKind.i64 7))))⟩])
 .ret)
 .skip))
 (.seq (.seq (.reg [.g ⟨(.l 11), .yes, .mv (.c (.d (.flat (Value.int IntKind.i64 0))))⟩])
 (.block 6 (.loop (some [2, 3, 4, 7, 11]) (.seq (.seq (.reg [.mt 84 (.l 11),
  .g ⟨(.t 85), .yes, .fa 4 (.l 7)⟩,
  .g ⟨(.t 86), .yes, .ld false 1 (.t 85)⟩,
  .g ⟨(.t 87), .yes, .lenr (.t 86)⟩,
  .g ⟨(.l 88), .yes, .bin BinOp.lss (.t 84) (.t 87) (Op.binOp BinOp.lss 3 (Operand.tmp 84) (Operand.tmp 87) 3)⟩])
 (.cond (.l 88) .skip
 (.exit 6)))
 (.seq (.block 7 (.seq (.drw [] [.st ⟨true, false, ⟨(.t 91), .yes, .ld true 1 (.l 3)⟩⟩,
  .st ⟨true, false, ⟨(.t 92), .yes, .fa 4 (.l 7)⟩⟩,
  .st ⟨true, false, ⟨(.t 93), .yes, .ld false 1 (.t 92)⟩⟩,
  .st ⟨true, false, ⟨(.t 94), .yes, .mv (.l 11)⟩⟩,
  .st ⟨true, false, ⟨(.t 95), .yes, .ia 2 (.t 93) (.t 94)⟩⟩,
  .st ⟨true, false, ⟨(.t 96), .yes, .fa 0 (.t 95)⟩⟩,
  .st ⟨true, false, ⟨(.t 97), .yes, .ld false 1 (.t 96)⟩⟩,
  .st ⟨false, true, ⟨(.t 98), .yes, .cs 43 p43 [(.t 91), (.t 97)]⟩⟩,
  .st ⟨true, false, ⟨(.l 99), .yes, .not (.t 98)⟩⟩])
 (.cond (.l 99) (.seq (.reg [.g ⟨(.l 6), .yes, .mv (.c (.d (.flat (Value.int IntKind.i64 7))))⟩])
 .ret)
 .skip)))
 (.reg [.mt 89 (.l 11),
  .g ⟨(.t 90), .yes, .bin BinOp.add (.t 89) (.c (.d (.flat (Value.int IntKind.i64 1)))) (Op.binOp BinOp.add 3 (Operand.tmp 89) (Operand.const (Value.int IntKind.i64 1)) 3)⟩,
  .g ⟨(.l 11), .yes, .mv (.t 90)⟩]))))))
 (.seq (.seq (.reg [.g ⟨(.t 101), .yes, .ld true 1 (.l 3)⟩,
  .g ⟨(.t 102), .yes, .fa 0 (.l 4)⟩,
  .g ⟨(.t 103), .yes, .ld false 1 (.t 102)⟩,
  .mt 104 (.l 2),
  .g ⟨(.t 105), .yes, .gen (Op.build 44 #[(0, (Operand.tmp 103)), (1, (Operand.tmp 104))])⟩,
  .g ⟨(.t 106), .yes, .cs 141 p141 [(.t 101), (.t 105)]⟩,
  .mt 100 (.t 106),
  .g ⟨(.t 107), .yes, .ex (.t 100) 0⟩,
  .g ⟨(.t 108), .yes, .ex (.t 100) 1⟩,
  .g ⟨(.l 12), .yes, .gen (Op.alloc 44)⟩,
  .g ⟨.no, .yes, .st 2 (.l 12) (.t 107)⟩,
  .g ⟨(.l 13), .yes, .mv (.t 108)⟩])
 (.seq (.reg [.g ⟨(.l 109), .yes, .mv (.l 13)⟩])
 (.cond (.l 109) (.seq (.reg [.g ⟨(.t 111), .yes, .ld true 1 (.l 3)⟩,
  .g ⟨(.t 112), .yes, .ld true 2 (.l 12)⟩,
  .g ⟨(.t 113), .yes, .cs 142 p142 [(.t 111), (.t 112)]⟩,
  .mt 110 (.t 113),
  .g ⟨(.t 114), .yes, .ex (.t 110) 0⟩,
  .g ⟨(.t 115), .yes, .ex (.t 110) 1⟩,
  .g ⟨(.l 14), .yes, .gen (Op.alloc 98)⟩,
  .g ⟨.no, .yes, .st 6 (.l 14) (.t 114)⟩,
  .mt 15 (.t 115)])
 (.seq (.reg [.g ⟨(.t 116), .yes, .fa 2 (.l 14)⟩,
  .g ⟨(.t 117), .yes, .ld false 1 (.t 116)⟩,
  .g ⟨(.t 118), .yes, .fa 2 (.l 7)⟩,
  .g ⟨(.t 119), .yes, .ld false 1 (.t 118)⟩,
  .g ⟨(.t 120), .yes, .bin BinOp.neq (.t 117) (.t 119) (Op.binOp BinOp.neq 9 (Operand.tmp 117) (Operand.tmp 119) 9)⟩,
  .mt 121 (.t 120),
  .g ⟨(.t 122), (.g (.t 121) false), .fa 0 (.l 14)⟩,
  .g ⟨(.t 123), (.g (.t 121) false), .ld false 1 (.t 122)⟩,
  .g ⟨(.t 124), (.g (.t 121) false), .fa 0 (.l 7)⟩,
  .g ⟨(.t 125), (.g (.t 121) false), .ld false 1 (.t 124)⟩,
  .g ⟨(.t 126), (.g (.t 121) false), .bin BinOp.neq (.t 123) (.t 125) (Op.binOp BinOp.neq 4 (Operand.tmp 123) (Operand.tmp 125) 4)⟩,
  .g ⟨(.l 127), .yes, .pick (.t 121) (.c (.d (.flat (Value.bool true)))) (.t 126)⟩])
 (.cond (.l 127) (.seq (.reg [.g ⟨(.l 6), .yes, .mv (.c (.d (.flat (Value.int IntKind.i64 9))))⟩])
 .ret)
 .skip)))
 .skip)))
 (.seq (.reg [.g ⟨(.l 6), .yes, .mv (.c (.d (.flat (Value.int IntKind.i64 0))))⟩])
 .ret)))))))), [(.t 6)]⟩
theorem x120E : EntryOK Tryz.prog mTabs 120 (.fn x120) := ⟨fnT rfl, Tryz.f120, plans 120, keeps 120, 3, Tryz.func120, rfl, by kernel_rfl, by kernel_rfl⟩
def x121 : XF := ⟨[0, 1, 2, 3, 4, 5, 6, 7, 8, 9, 10, 11, 12, 13, 14, 15, 16, 17, 22, 38, 55, 65, 67, 69, 71, 73, 78, 79, 93, 108, 120, 136], [0, 1, 2], (.seq (.reg [.g ⟨(.l 3), .yes, .gen (Op.box 26 (Operand.tmp 0))⟩,
  .g ⟨(.l 4), .yes, .gen (Op.box 166 (Operand.tmp 1))⟩,
  .g ⟨(.l 5), .yes, .gen (Op.box 124 (Operand.tmp 2))⟩,
  .g ⟨(.l 6), .yes, .gen (Op.alloc 124)⟩,
  .g ⟨(.l 7), .yes, .mv (.c (.d (.flat (Value.string ⟨#[]⟩))))⟩,
  .g ⟨(.l 8), .yes, .mv (.c (.d (.flat (Value.int IntKind.i64 0))))⟩])
 (.seq (.reg [.g ⟨(.l 9), .yes, .mv (.c (.tight [] 0))⟩])
 (.seq (.reg [.g ⟨(.l 10), .yes, .mv (.c (.tight [] 0))⟩])
 (.seq (.seq (.reg [.g ⟨(.l 11), .yes, .mv (.c (.d (.flat (Value.int IntKind.i64 0))))⟩])
 (.block 0 (.loop (some [3, 4, 5, 6, 9, 10, 11]) (.seq (.seq (.reg [.mt 18 (.l 11),
  .g ⟨(.t 19), .yes, .fa 5 (.l 5)⟩,
  .g ⟨(.t 20), .yes, .ld false 1 (.t 19)⟩,
  .g ⟨(.t 21), .yes, .lenr (.t 20)⟩,
  .g ⟨(.l 22), .yes, .bin BinOp.lss (.t 18) (.t 21) (Op.binOp BinOp.lss 3 (Operand.tmp 18) (Operand.tmp 21) 3)⟩])
 (.cond (.l 22) .skip
 (.exit 0)))
 (.seq (.block 1 (.seq (.drw [.no] [.st ⟨true, false, ⟨(.t 26), .yes, .ld true 1 (.l 3)⟩⟩,
  .st ⟨true, false, ⟨(.t 27), .yes, .ld true 3 (.l 4)⟩⟩,
  .st ⟨true, false, ⟨(.t 28), .yes, .fa 5 (.l 5)⟩⟩,
  .st ⟨true, false, ⟨(.t 29), .yes, .ld false 1 (.t 28)⟩⟩,
  .st ⟨true, false, ⟨(.t 30), .yes, .mv (.l 11)⟩⟩,
  .st ⟨true, false, ⟨(.t 31), .yes, .ia 8 (.t 29) (.t 30)⟩⟩,
  .st ⟨true, false, ⟨(.t 32), .yes, .ld true 8 (.t 31)⟩⟩,
  .fl [⟨false, true, ⟨(.t 33), .yes, .cs 121 p121 [(.t 26), (.t 27), (.t 32)]⟩⟩,
  ⟨true, false, ⟨(.t 25), .yes, .mv (.t 33)⟩⟩,
  ⟨true, false, ⟨(.t 34), .yes, .ex (.t 25) 0⟩⟩,
  ⟨true, false, ⟨(.t 35), .yes, .ex (.t 25) 1⟩⟩,
  ⟨true, false, ⟨(.t 36), .yes, .ex (.t 25) 2⟩⟩] ⟨(.l 12), .yes, .gen (Op.alloc 124)⟩,
  .st ⟨false, false, ⟨.no, .yes, .st 8 (.l 12) (.t 34)⟩⟩,
  .st ⟨true, false, ⟨(.l 13), .yes, .mv (.t 35)⟩⟩,
  .st ⟨true, false, ⟨(.l 14), .yes, .mv (.t 36)⟩⟩])
 (.seq (.seq (.reg [.mt 37 (.l 14),
  .g ⟨(.l 38), .yes, .bin BinOp.neq (.t 37) (.c (.d (.flat (Value.int IntKind.i64 0)))) (Op.binOp BinOp.neq 3 (Operand.tmp 37) (Operand.const (Value.int IntKind.i64 0)) 3)⟩])
 (.cond (.l 38) (.seq (.reg [.g ⟨(.t 39), .yes, .gen (Op.build 124 #[])⟩,
  .mt 40 (.l 14),
  .g ⟨.no, .yes, .st 8 (.l 6) (.t 39)⟩,
  .g ⟨(.l 7), .yes, .mv (.c (.d (.flat (Value.string ⟨#[]⟩))))⟩,
  .g ⟨(.l 8), .yes, .mv (.t 40)⟩])
 .ret)
 .skip))
 (.reg [.mt 41 (.l 9),
  .g ⟨(.t 42), .yes, .ld true 8 (.l 12)⟩,
  .g ⟨(.t 43), .yes, .gen (Op.buildSlice 74 1 #[(0, (Operand.tmp 42))])⟩,
  .g ⟨(.t 44), .yes, .gen (Op.call { callee := (Callee.builtin Builtin.append), args := #[(Operand.tmp 41), (Operand.tmp 43)], argTypes := #[74, 74] })⟩,
  .mt 45 (.l 10),
  .mt 46 (.l 13),
  .g ⟨(.t 47), .yes, .gen (Op.buildSlice 33 1 #[(0, (Operand.tmp 46))])⟩,
  .g ⟨(.t 48), .yes, .gen (Op.call { callee := (Callee.builtin Builtin.append), args := #[(Operand.tmp 45), (Operand.tmp 47)], argTypes := #[33, 33] })⟩,
  .g ⟨(.l 9), .yes, .mv (.t 44)⟩,
  .g ⟨(.l 10), .yes, .mv (.t 48)⟩]))))
 (.reg [.mt 23 (.l 11),
  .g ⟨(.t 24), .yes, .bin BinOp.add (.t 23) (.c (.d (.flat (Value.int IntKind.i64 1)))) (Op.binOp BinOp.add 3 (Operand.tmp 23) (Operand.const (Value.int IntKind.i64 1)) 3)⟩,
  .g ⟨(.l 11), .yes, .mv (.t 24)⟩]))))))
 (.seq (.reg [.mt 49 (.l 9),
  .g ⟨(.t 50), .yes, .fa 5 (.l 5)⟩,
  .g ⟨.no, .yes, .st 1 (.t 50) (.t 49)⟩,
  .g ⟨(.t 51), .yes, .fa 6 (.l 5)⟩,
  .g ⟨.no, .yes, .st 1 (.t 51) (.c (.d (.flat (Value.string ⟨#[]⟩))))⟩,
  .g ⟨(.t 52), .yes, .fa 7 (.l 5)⟩,
  .g ⟨.no, .yes, .st 1 (.t 52) (.c (.d (.flat (Value.int IntKind.i64 0))))⟩])
 (.seq (.reg [.g ⟨(.t 53), .yes, .gen (Op.build 44 #[])⟩,
  .g ⟨(.l 16), .yes, .gen (Op.alloc 44)⟩,
  .g ⟨(.l 15), .yes, .mv (.c (.d (.flat (Value.string ⟨#[]⟩))))⟩,
  .g ⟨.no, .yes, .st 2 (.l 16) (.t 53)⟩,
  .g ⟨(.l 17), .yes, .mv (.c (.d (.flat (Value.int IntKind.i64 0))))⟩])
 (.seq (.seq (.reg [.g ⟨(.t 54), .yes, .fa 0 (.l 5)⟩,
  .g ⟨(.l 55), .yes, .ld false 1 (.t 54)⟩])
 (.block 2 (.seq (.reg [.g ⟨(.t 66), .yes, .bin BinOp.eql (.l 55) (.c (.d (.flat (Value.int IntKind.i64 1)))) (Op.binOp BinOp.eql 3 (Operand.tmp 55) (Operand.const (Value.int IntKind.i64 1)) 3)⟩,
  .g ⟨(.l 65), .yes, .mv (.t 66)⟩])
 (.cond (.l 65) (.reg [.g ⟨(.l 15), .yes, .mv (.c (.d (.flat (Value.string ⟨#[105, 110, 116]⟩))))⟩])
 (.seq (.reg [.g ⟨(.t 68), .yes, .bin BinOp.eql (.l 55) (.c (.d (.flat (Value.int IntKind.i64 2)))) (Op.binOp BinOp.eql 3 (Operand.tmp 55) (Operand.const (Value.int IntKind.i64 2)) 3)⟩,
  .g ⟨(.l 67), .yes, .mv (.t 68)⟩])
 (.cond (.l 67) (.reg [.g ⟨(.l 15), .yes, .mv (.c (.d (.flat (Value.string ⟨#[98, 111, 111, 108, 101, 97, 110]⟩))))⟩])
 (.seq (.reg [.g ⟨(.t 70), .yes, .bin BinOp.eql (.l 55) (.c (.d (.flat (Value.int IntKind.i64 3)))) (Op.binOp BinOp.eql 3 (Operand.tmp 55) (Operand.const (Value.int IntKind.i64 3)) 3)⟩,
  .g ⟨(.l 69), .yes, .mv (.t 70)⟩])
 (.cond (.l 69) (.reg [.g ⟨(.l 15), .yes, .mv (.c (.d (.flat (Value.string ⟨#[83, 116, 114, 105, 110, 103]⟩))))⟩])
 (.seq (.reg [.g ⟨(.t 72), .yes, .bin BinOp.eql (.l 55) (.c (.d (.flat (Value.int IntKind.i64 4)))) (Op.binOp BinOp.eql 3 (Operand.tmp 55) (Operand.const (Value.int IntKind.i64 4)) 3)⟩,
  .g ⟨(.l 71), .yes, .mv (.t 72)⟩])
 (.cond (.l 71) (.reg [.g ⟨(.l 15), .yes, .mv (.c (.d (.flat (Value.string ⟨#[110, 117, 108, 108]⟩))))⟩])
 (.seq (.reg [.g ⟨(.t 74), .yes, .bin BinOp.eql (.l 55) (.c (.d (.flat (Value.int IntKind.i64 5)))) (Op.binOp BinOp.eql 3 (Operand.tmp 55) (Operand.const (Value.int IntKind.i64 5)) 3)⟩,
  .g ⟨(.l 73), .yes, .mv (.t 74)⟩])
 (.cond (.l 73) (.seq (.reg [.g ⟨(.t 75), .yes, .fa 0 (.l 4)⟩,
  .g ⟨(.t 76), .yes, .ld false 1 (.t 75)⟩,
  .g ⟨(.l 15), .yes, .mv (.t 76)⟩])
 (.seq (.reg [.g ⟨(.t 77), .yes, .fa 1 (.l 4)⟩,
  .g ⟨(.l 78), .yes, .ld false 1 (.t 77)⟩])
 (.cond (.l 78) (.reg [.g ⟨(.l 17), .yes, .mv (.c (.d (.flat (Value.int IntKind.i64 13))))⟩])
 .skip)))
 (.seq (.seq (.reg [.g ⟨(.t 80), .yes, .bin BinOp.eql (.l 55) (.c (.d (.flat (Value.int IntKind.i64 6)))) (Op.binOp BinOp.eql 3 (Operand.tmp 55) (Operand.const (Value.int IntKind.i64 6)) 3)⟩,
  .g ⟨(.l 79), .yes, .mv (.t 80)⟩])
 (.cond (.l 79) .skip
 (.seq (.reg [.g ⟨(.t 81), .yes, .bin BinOp.eql (.l 55) (.c (.d (.flat (Value.int IntKind.i64 7)))) (Op.binOp BinOp.eql 3 (Operand.tmp 55) (Operand.const (Value.int IntKind.i64 7)) 3)⟩,
  .g ⟨(.l 79), .yes, .mv (.t 81)⟩])
 (.cond (.l 79) .skip
 (.seq (.reg [.g ⟨(.t 82), .yes, .bin BinOp.eql (.l 55) (.c (.d (.flat (Value.int IntKind.i64 8)))) (Op.binOp BinOp.eql 3 (Operand.tmp 55) (Operand.const (Value.int IntKind.i64 8)) 3)⟩,
  .g ⟨(.l 79), .yes, .mv (.t 82)⟩])
 (.cond (.l 79) .skip
 (.reg [.g ⟨(.t 83), .yes, .bin BinOp.eql (.l 55) (.c (.d (.flat (Value.int IntKind.i64 9)))) (Op.binOp BinOp.eql 3 (Operand.tmp 55) (Operand.const (Value.int IntKind.i64 9)) 3)⟩,
  .g ⟨(.l 79), .yes, .mv (.t 83)⟩])))))))
 (.cond (.l 79) (.reg [.g ⟨(.t 85), .yes, .ld true 1 (.l 3)⟩,
  .g ⟨(.t 86), .yes, .ld true 3 (.l 4)⟩,
  .g ⟨(.t 87), .yes, .ld true 8 (.l 5)⟩,
  .mt 88 (.l 10),
  .g ⟨(.t 89), .yes, .cs 143 p143 [(.t 85), (.t 86), (.t 87), (.t 88)]⟩,
  .mt 84 (.t 89),
  .g ⟨(.t 90), .yes, .ex (.t 84) 0⟩,
  .g ⟨(.t 91), .yes, .ex (.t 84) 1⟩,
  .g ⟨(.t 92), .yes, .ex (.t 84) 2⟩,
  .g ⟨(.l 15), .yes, .mv (.t 90)⟩,
  .g ⟨.no, .yes, .st 2 (.l 16) (.t 91)⟩,
  .g ⟨(.l 17), .yes, .mv (.t 92)⟩])
 (.seq (.seq (.reg [.g ⟨(.t 94), .yes, .bin BinOp.eql (.l 55) (.c (.d (.flat (Value.int IntKind.i64 10)))) (Op.binOp BinOp.eql 3 (Operand.tmp 55) (Operand.const (Value.int IntKind.i64 10)) 3)⟩,
  .g ⟨(.l 93), .yes, .mv (.t 94)⟩])
 (.cond (.l 93) .skip
 (.seq (.reg [.g ⟨(.t 95), .yes, .bin BinOp.eql (.l 55) (.c (.d (.flat (Value.int IntKind.i64 11)))) (Op.binOp BinOp.eql 3 (Operand.tmp 55) (Operand.const (Value.int IntKind.i64 11)) 3)⟩,
  .g ⟨(.l 93), .yes, .mv (.t 95)⟩])
 (.cond (.l 93) .skip
 (.seq (.reg [.g ⟨(.t 96), .yes, .bin BinOp.eql (.l 55) (.c (.d (.flat (Value.int IntKind.i64 12)))) (Op.binOp BinOp.eql 3 (Operand.tmp 55) (Operand.const (Value.int IntKind.i64 12)) 3)⟩,
  .g ⟨(.l 93), .yes, .mv (.t 96)⟩])
 (.cond (.l 93) .skip
 (.seq (.reg [.g ⟨(.t 97), .yes, .bin BinOp.eql (.l 55) (.c (.d (.flat (Value.int IntKind.i64 13)))) (Op.binOp BinOp.eql 3 (Operand.tmp 55) (Operand.const (Value.int IntKind.i64 13)) 3)⟩,
  .g ⟨(.l 93), .yes, .mv (.t 97)⟩])
 (.cond (.l 93) .skip
 (.reg [.g ⟨(.t 98), .yes, .bin BinOp.eql (.l 55) (.c (.d (.flat (Value.int IntKind.i64 14)))) (Op.binOp BinOp.eql 3 (Operand.tmp 55) (Operand.const (Value.int IntKind.i64 14)) 3)⟩,
  .g ⟨(.l 93), .yes, .mv (.t 98)⟩])))))))))
 (.cond (.l 93) (.reg [.g ⟨(.t 100), .yes, .ld true 1 (.l 3)⟩,
  .g ⟨(.t 101), .yes, .ld true 3 (.l 4)⟩,
  .g ⟨(.t 102), .yes, .ld true 8 (.l 5)⟩,
  .mt 103 (.l 10),
  .g ⟨(.t 104), .yes, .cs 144 p144 [(.t 100), (.t 101), (.t 102), (.t 103)]⟩,
  .mt 99 (.t 104),
  .g ⟨(.t 105), .yes, .ex (.t 99) 0⟩,
  .g ⟨(.t 106), .yes, .ex (.t 99) 1⟩,
  .g ⟨(.t 107), .yes, .ex (.t 99) 2⟩,
  .g ⟨(.l 15), .yes, .mv (.t 105)⟩,
  .g ⟨.no, .yes, .st 2 (.l 16) (.t 106)⟩,
  .g ⟨(.l 17), .yes, .mv (.t 107)⟩])
 (.seq (.seq (.reg [.g ⟨(.t 109), .yes, .bin BinOp.eql (.l 55) (.c (.d (.flat (Value.int IntKind.i64 15)))) (Op.binOp BinOp.eql 3 (Operand.tmp 55) (Operand.const (Value.int IntKind.i64 15)) 3)⟩,
  .g ⟨(.l 108), .yes, .mv (.t 109)⟩])
 (.cond (.l 108) .skip
 (.reg [.g ⟨(.t 110), .yes, .bin BinOp.eql (.l 55) (.c (.d (.flat (Value.int IntKind.i64 16)))) (Op.binOp BinOp.eql 3 (Operand.tmp 55) (Operand.const (Value.int IntKind.i64 16)) 3)⟩,
  .g ⟨(.l 108), .yes, .mv (.t 110)⟩])))
 (.cond (.l 108) (.drw [] [.st ⟨true, false, ⟨(.t 112), .yes, .ld true 1 (.l 3)⟩⟩,
  .st ⟨true, false, ⟨(.t 113), .yes, .ld true 8 (.l 5)⟩⟩,
  .st ⟨true, false, ⟨(.t 114), .yes, .mv (.l 10)⟩⟩,
  .st ⟨true, false, ⟨(.t 115), .yes, .ia 1 (.t 114) (.c (.d (.flat (Value.int IntKind.i64 0))))⟩⟩,
  .st ⟨true, false, ⟨(.t 116), .yes, .ld false 1 (.t 115)⟩⟩,
  .st ⟨false, true, ⟨(.t 117), .yes, .cs 145 p145 [(.t 112), (.t 113), (.t 116)]⟩⟩,
  .st ⟨true, false, ⟨(.t 111), .yes, .mv (.t 117)⟩⟩,
  .st ⟨true, false, ⟨(.t 118), .yes, .ex (.t 111) 0⟩⟩,
  .st ⟨true, false, ⟨(.t 119), .yes, .ex (.t 111) 1⟩⟩,
  .st ⟨true, false, ⟨(.l 15), .yes, .mv (.t 118)⟩⟩,
  .st ⟨true, false, ⟨(.l 17), .yes, .mv (.t 119)⟩⟩])
 (.seq (.reg [.g ⟨(.t 121), .yes, .bin BinOp.eql (.l 55) (.c (.d (.flat (Value.int IntKind.i64 17)))) (Op.binOp BinOp.eql 3 (Operand.tmp 55) (Operand.const (Value.int IntKind.i64 17)) 3)⟩,
  .g ⟨(.l 120), .yes, .mv (.t 121)⟩])
 (.cond (.l 120) (.drw [] [.st ⟨true, false, ⟨(.t 123), .yes, .ld true 1 (.l 3)⟩⟩,
  .st ⟨true, false, ⟨(.t 124), .yes, .fa 3 (.l 5)⟩⟩,
  .st ⟨true, false, ⟨(.t 125), .yes, .ld false 1 (.t 124)⟩⟩,
  .st ⟨true, false, ⟨(.t 126), .yes, .mv (.l 10)⟩⟩,
  .st ⟨true, false, ⟨(.t 127), .yes, .ia 1 (.t 126) (.c (.d (.flat (Value.int IntKind.i64 0))))⟩⟩,
  .st ⟨true, false, ⟨(.t 128), .yes, .ld false 1 (.t 127)⟩⟩,
  .st ⟨true, false, ⟨(.t 129), .yes, .mv (.l 10)⟩⟩,
  .st ⟨true, false, ⟨(.t 130), .yes, .ia 1 (.t 129) (.c (.d (.flat (Value.int IntKind.i64 1))))⟩⟩,
  .st ⟨true, false, ⟨(.t 131), .yes, .ld false 1 (.t 130)⟩⟩,
  .st ⟨false, true, ⟨(.t 132), .yes, .cs 146 p146 [(.t 123), (.t 125), (.t 128), (.t 131)]⟩⟩,
  .st ⟨true, false, ⟨(.t 122), .yes, .mv (.t 132)⟩⟩,
  .st ⟨true, false, ⟨(.t 133), .yes, .ex (.t 122) 0⟩⟩,
  .st ⟨true, false, ⟨(.t 134), .yes, .ex (.t 122) 1⟩⟩,
  .st ⟨true, false, ⟨(.l 15), .yes, .mv (.t 133)⟩⟩,
  .st ⟨true, false, ⟨(.l 17), .yes, .mv (.t 134)⟩⟩])
 (.drw [] [.st ⟨true, false, ⟨(.t 57), .yes, .fa 3 (.l 5)⟩⟩,
  .st ⟨true, false, ⟨(.t 58), .yes, .ld false 1 (.t 57)⟩⟩,
  .st ⟨true, false, ⟨(.t 59), .yes, .mv (.l 10)⟩⟩,
  .st ⟨true, false, ⟨(.t 60), .yes, .ia 1 (.t 59) (.c (.d (.flat (Value.int IntKind.i64 0))))⟩⟩,
  .st ⟨true, false, ⟨(.t 61), .yes, .ld false 1 (.t 60)⟩⟩,
  .st ⟨false, true, ⟨(.t 62), .yes, .cs 147 p147 [(.t 58), (.t 61)]⟩⟩,
  .st ⟨true, false, ⟨(.t 56), .yes, .mv (.t 62)⟩⟩,
  .st ⟨true, false, ⟨(.t 63), .yes, .ex (.t 56) 0⟩⟩,
  .st ⟨true, false, ⟨(.t 64), .yes, .ex (.t 56) 1⟩⟩,
  .st ⟨true, false, ⟨(.l 15), .yes, .mv (.t 63)⟩⟩,
  .st ⟨true, false, ⟨(.l 17), .yes, .mv (.t 64)⟩⟩])))))))))))))))))))))
 (.seq (.seq (.reg [.mt 135 (.l 17),
  .g ⟨(.l 136), .yes, .bin BinOp.neq (.t 135) (.c (.d (.flat (Value.int IntKind.i64 0)))) (Op.binOp BinOp.neq 3 (Operand.tmp 135) (Operand.const (Value.int IntKind.i64 0)) 3)⟩])
 (.cond (.l 136) (.seq (.reg [.g ⟨(.t 137), .yes, .gen (Op.build 124 #[])⟩,
  .mt 138 (.l 17),
  .g ⟨.no, .yes, .st 8 (.l 6) (.t 137)⟩,
  .g ⟨(.l 7), .yes, .mv (.c (.d (.flat (Value.string ⟨#[]⟩))))⟩,
  .g ⟨(.l 8), .yes, .mv (.t 138)⟩])
 .ret)
 .skip))
 (.seq (.drw [(.l 5)] [.st ⟨true, false, ⟨(.t 139), .yes, .fa 0 (.l 16)⟩⟩,
  .st ⟨true, false, ⟨(.t 140), .yes, .ld false 1 (.t 139)⟩⟩,
  .st ⟨true, false, ⟨(.t 141), .yes, .fa 1 (.l 16)⟩⟩,
  .st ⟨true, false, ⟨(.t 142), .yes, .ld false 1 (.t 141)⟩⟩,
  .st ⟨true, false, ⟨(.t 143), .yes, .fa 6 (.l 5)⟩⟩,
  .st ⟨false, false, ⟨.no, .yes, .st 1 (.t 143) (.t 140)⟩⟩,
  .st ⟨true, false, ⟨(.t 144), .yes, .fa 7 (.l 5)⟩⟩,
  .st ⟨false, true, ⟨.no, .yes, .st 1 (.t 144) (.t 142)⟩⟩])
 (.seq (.reg [.g ⟨(.t 145), .yes, .ld true 8 (.l 5)⟩,
  .mt 146 (.l 15),
  .g ⟨.no, .yes, .st 8 (.l 6) (.t 145)⟩,
  .g ⟨(.l 7), .yes, .mv (.t 146)⟩,
  .g ⟨(.l 8), .yes, .mv (.c (.d (.flat (Value.int IntKind.i64 0))))⟩])
 .ret)))))))))), [(.c 6 true 8), (.t 7), (.t 8)]⟩
theorem x121E : EntryOK Tryz.prog mTabs 121 (.fn x121) := ⟨fnT rfl, Tryz.f121, plans 121, keeps 121, 3, Tryz.func121, rfl, by kernel_rfl, by kernel_rfl⟩
def x122 : XF := ⟨[0, 1, 2, 3, 6, 7, 17], [0, 1, 2], (.seq (.reg [.g ⟨(.l 3), .yes, .gen (Op.box 26 (Operand.tmp 0))⟩,
  .g ⟨(.l 6), .yes, .mv (.c (.d (.flat (Value.bool false))))⟩])
 (.seq (.block 0 (.seq (.reg [.mt 8 (.l 1),
  .g ⟨(.t 9), .yes, .bin BinOp.eql (.t 8) (.c (.d (.flat (Value.string ⟨#[110, 117, 108, 108]⟩)))) (Op.binOp BinOp.eql 9 (Operand.tmp 8) (Operand.const (Value.string ⟨#[110, 117, 108, 108]⟩)) 9)⟩,
  .g ⟨(.l 7), .yes, .mv (.t 9)⟩])
 (.cond (.l 7) (.seq (.reg [.mt 10 (.l 2),
  .g ⟨(.t 11), .yes, .bin BinOp.eql (.t 10) (.c (.d (.flat (Value.string ⟨#[110, 117, 108, 108]⟩)))) (Op.binOp BinOp.eql 9 (Operand.tmp 10) (Operand.const (Value.string ⟨#[110, 117, 108, 108]⟩)) 9)⟩,
  .mt 12 (.t 11),
  .g ⟨(.t 13), (.g (.t 12) false), .ld true 1 (.l 3)⟩,
  .g ⟨(.t 14), (.g (.t 12) false), .mv (.l 2)⟩,
  .g ⟨(.t 15), (.g (.t 12) false), .cs 31 p31 [(.t 13), (.t 14)]⟩,
  .g ⟨(.t 16), .yes, .pick (.t 12) (.c (.d (.flat (Value.bool true)))) (.t 15)⟩,
  .g ⟨(.l 6), .yes, .mv (.t 16)⟩])
 .ret)
 (.seq (.reg [.g ⟨(.t 18), .yes, .ld true 1 (.l 3)⟩,
  .mt 19 (.l 1),
  .g ⟨(.t 20), .yes, .cs 43 p43 [(.t 18), (.t 19)]⟩,
  .g ⟨(.t 21), .yes, .not (.t 20)⟩,
  .mt 22 (.t 21),
  .g ⟨(.t 23), (.g (.t 22) false), .ld true 1 (.l 3)⟩,
  .g ⟨(.t 24), (.g (.t 22) false), .mv (.l 2)⟩,
  .g ⟨(.t 25), (.g (.t 22) false), .cs 43 p43 [(.t 23), (.t 24)]⟩,
  .g ⟨(.t 26), (.g (.t 22) false), .not (.t 25)⟩,
  .g ⟨(.t 27), .yes, .pick (.t 22) (.c (.d (.flat (Value.bool true)))) (.t 26)⟩,
  .g ⟨(.l 17), .yes, .mv (.t 27)⟩])
 (.cond (.l 17) (.seq (.reg [.g ⟨(.l 6), .yes, .mv (.c (.d (.flat (Value.bool false))))⟩])
 .ret)
 .skip)))))
 (.seq (.reg [.mt 28 (.l 1),
  .mt 29 (.l 2),
  .g ⟨(.t 30), .yes, .bin BinOp.eql (.t 28) (.t 29) (Op.binOp BinOp.eql 9 (Operand.tmp 28) (Operand.tmp 29) 9)⟩,
  .mt 31 (.t 30),
  .g ⟨(.t 32), (.g (.t 31) false), .ld true 1 (.l 3)⟩,
  .g ⟨(.t 33), (.g (.t 31) false), .mv (.l 1)⟩,
  .g ⟨(.t 34), (.g (.t 31) false), .cs 67 p67 [(.t 32), (.t 33)]⟩,
  .g ⟨(.t 35), (.g (.t 31) false), .mv (.l 2)⟩,
  .g ⟨(.t 36), (.g (.t 31) false), .cs 95 p95 [(.t 34), (.t 35)]⟩,
  .g ⟨(.t 37), .yes, .pick (.t 31) (.c (.d (.flat (Value.bool true)))) (.t 36)⟩,
  .g ⟨(.l 6), .yes, .mv (.t 37)⟩])
 .ret))), [(.t 6)]⟩
theorem x122E : EntryOK Tryz.prog mTabs 122 (.fn x122) := ⟨fnT rfl, Tryz.f122, plans 122, keeps 122, 3, Tryz.func122, rfl, by kernel_rfl, by kernel_rfl⟩
def x123 : XF := ⟨[0, 1, 2, 3, 5, 6, 7, 8, 9, 11, 12, 13, 46, 54, 69], [0, 1, 2], (.seq (.reg [.g ⟨(.l 3), .yes, .gen (Op.box 26 (Operand.tmp 0))⟩,
  .g ⟨(.l 5), .yes, .gen (Op.box 98 (Operand.tmp 2))⟩,
  .g ⟨(.l 6), .yes, .mv (.c (.tight [] 0))⟩,
  .g ⟨(.l 7), .yes, .mv (.c (.d (.flat (Value.int IntKind.i64 0))))⟩])
 (.seq (.reg [.g ⟨(.t 14), .yes, .ld true 1 (.l 3)⟩,
  .g ⟨(.t 15), .yes, .ld true 6 (.l 5)⟩,
  .mt 16 (.l 1),
  .g ⟨(.t 17), .yes, .fa 0 (.l 5)⟩,
  .g ⟨(.t 18), .yes, .ld false 1 (.t 17)⟩,
  .g ⟨(.t 19), .yes, .fa 4 (.l 5)⟩,
  .g ⟨(.t 20), .yes, .ld false 1 (.t 19)⟩,
  .g ⟨(.t 21), .yes, .gen (Op.build 166 #[(0, (Operand.tmp 16)), (1, (Operand.tmp 18)), (2, (Operand.tmp 20))])⟩,
  .g ⟨(.t 22), .yes, .gen (Op.build 196 #[(0, (Operand.tmp 14)), (1, (Operand.tmp 15)), (2, (Operand.tmp 21))])⟩,
  .g ⟨(.t 23), .yes, .gen (Op.box 196 (Operand.tmp 22))⟩,
  .g ⟨(.l 8), .yes, .mv (.t 23)⟩])
 (.seq (.reg [.g ⟨(.t 24), .yes, .ld true 1 (.l 3)⟩,
  .mt 25 (.l 1),
  .g ⟨(.t 26), .yes, .cs 96 p96 [(.t 24), (.t 25)]⟩,
  .g ⟨(.l 9), .yes, .mv (.t 26)⟩])
 (.seq (.seq (.reg [.g ⟨(.t 27), .yes, .fa 1 (.l 5)⟩,
  .g ⟨(.t 28), .yes, .ld false 1 (.t 27)⟩,
  .mt 29 (.t 28),
  .g ⟨(.t 30), (.g (.t 29) true), .mv (.l 9)⟩,
  .g ⟨(.t 31), (.g (.t 29) true), .bin BinOp.neq (.t 30) (.c (.d (.flat (Value.string ⟨#[]⟩)))) (Op.binOp BinOp.neq 9 (Operand.tmp 30) (Operand.const (Value.string ⟨#[]⟩)) 9)⟩,
  .g ⟨(.t 32), .yes, .pick (.t 29) (.t 31) (.c (.d (.flat (Value.bool false))))⟩,
  .mt 33 (.t 32),
  .g ⟨(.t 34), (.g (.t 33) true), .fa 5 (.l 5)⟩,
  .g ⟨(.t 35), (.g (.t 33) true), .ld false 1 (.t 34)⟩,
  .g ⟨(.t 36), (.g (.t 33) true), .lenr (.t 35)⟩,
  .g ⟨(.t 37), (.g (.t 33) true), .bin BinOp.eql (.t 36) (.c (.d (.flat (Value.int IntKind.i64 0)))) (Op.binOp BinOp.eql 3 (Operand.tmp 36) (Operand.const (Value.int IntKind.i64 0)) 3)⟩,
  .g ⟨(.t 38), (.g (.t 33) true), .mv (.t 37)⟩,
  .g ⟨(.t 39), (.g (.t 38) false), .fa 5 (.l 5)⟩,
  .g ⟨(.t 40), (.g (.t 38) false), .ld false 1 (.t 39)⟩,
  .g ⟨(.t 41), (.g (.t 38) false), .ia 9 (.t 40) (.c (.d (.flat (Value.int IntKind.i64 0))))⟩,
  .g ⟨(.t 42), (.g (.t 38) false), .fa 0 (.t 41)⟩,
  .g ⟨(.t 43), (.g (.t 38) false), .ld false 1 (.t 42)⟩,
  .g ⟨(.t 44), (.g (.t 38) false), .bin BinOp.neq (.t 43) (.c (.d (.flat (Value.int IntKind.i64 11)))) (Op.binOp BinOp.neq 3 (Operand.tmp 43) (Operand.const (Value.int IntKind.i64 11)) 3)⟩,
  .g ⟨(.t 45), (.g (.t 33) true), .pick (.t 38) (.c (.d (.flat (Value.bool true)))) (.t 44)⟩,
  .g ⟨(.l 46), .yes, .pick (.t 33) (.t 45) (.c (.d (.flat (Value.bool false))))⟩])
 (.cond (.l 46) (.seq (.reg [.g ⟨(.t 48), .yes, .ld true 1 (.l 3)⟩,
  .mt 49 (.l 9),
  .g ⟨(.t 50), .yes, .cs 124 p124 [(.t 48), (.t 49), (.c (.tight [] 0))]⟩,
  .mt 47 (.t 50),
  .g ⟨(.t 51), .yes, .ex (.t 47) 0⟩,
  .g ⟨(.t 52), .yes, .ex (.t 47) 1⟩,
  .g ⟨(.t 10), .yes, .gen (Op.alloc 44)⟩,
  .g ⟨.no, .yes, .st 2 (.t 10) (.t 51)⟩,
  .g ⟨(.l 11), .yes, .mv (.t 52)⟩])
 (.seq (.reg [.mt 53 (.l 11),
  .g ⟨(.l 54), .yes, .bin BinOp.neq (.t 53) (.c (.d (.flat (Value.int IntKind.i64 0)))) (Op.binOp BinOp.neq 3 (Operand.tmp 53) (Operand.const (Value.int IntKind.i64 0)) 3)⟩])
 (.cond (.l 54) (.seq (.reg [.mt 55 (.l 11),
  .g ⟨(.l 6), .yes, .mv (.c (.tight [] 0))⟩,
  .g ⟨(.l 7), .yes, .mv (.t 55)⟩])
 .ret)
 .skip)))
 .skip))
 (.seq (.reg [.mt 57 (.l 8),
  .g ⟨(.t 58), .yes, .fa 5 (.l 5)⟩,
  .g ⟨(.t 59), .yes, .ld false 1 (.t 58)⟩,
  .g ⟨(.t 60), .yes, .cs 148 p148 [(.t 57), (.t 59)]⟩,
  .mt 56 (.t 60),
  .g ⟨(.t 61), .yes, .ex (.t 56) 0⟩,
  .g ⟨(.t 62), .yes, .ex (.t 56) 1⟩,
  .g ⟨(.l 12), .yes, .mv (.t 61)⟩,
  .g ⟨(.l 13), .yes, .mv (.t 62)⟩])
 (.seq (.seq (.reg [.mt 63 (.l 13),
  .g ⟨(.t 64), .yes, .bin BinOp.eql (.t 63) (.c (.d (.flat (Value.int IntKind.i64 0)))) (Op.binOp BinOp.eql 3 (Operand.tmp 63) (Operand.const (Value.int IntKind.i64 0)) 3)⟩,
  .mt 65 (.t 64),
  .g ⟨(.t 66), (.g (.t 65) true), .ld true 6 (.l 5)⟩,
  .g ⟨(.t 67), (.g (.t 65) true), .cs 149 p149 [(.t 66)]⟩,
  .g ⟨(.t 68), (.g (.t 65) true), .not (.t 67)⟩,
  .g ⟨(.l 69), .yes, .pick (.t 65) (.t 68) (.c (.d (.flat (Value.bool false))))⟩])
 (.cond (.l 69) (.reg [.g ⟨(.l 13), .yes, .mv (.c (.d (.flat (Value.int IntKind.i64 15))))⟩])
 .skip))
 (.seq (.reg [.mt 70 (.l 12),
  .mt 71 (.l 13),
  .g ⟨(.l 6), .yes, .mv (.t 70)⟩,
  .g ⟨(.l 7), .yes, .mv (.t 71)⟩])
 .ret))))))), [(.t 6), (.t 7)]⟩
theorem x123E : EntryOK Tryz.prog mTabs 123 (.fn x123) := ⟨fnT rfl, Tryz.f123, plans 123, keeps 123, 3, Tryz.func123, rfl, by kernel_rfl, by kernel_rfl⟩
def x124 : XF := ⟨[0, 1, 2, 3, 6, 7, 11], [0, 1, 2], (.seq (.reg [.g ⟨(.l 3), .yes, .gen (Op.box 26 (Operand.tmp 0))⟩,
  .g ⟨(.l 6), .yes, .gen (Op.alloc 44)⟩,
  .g ⟨(.l 7), .yes, .mv (.c (.d (.flat (Value.int IntKind.i64 0))))⟩])
 (.seq (.seq (.reg [.g ⟨(.t 8), .yes, .ld true 1 (.l 3)⟩,
  .mt 9 (.l 1),
  .g ⟨(.t 10), .yes, .cs 31 p31 [(.t 8), (.t 9)]⟩,
  .g ⟨(.l 11), .yes, .not (.t 10)⟩])
 (.cond (.l 11) (.seq (.reg [.g ⟨(.t 12), .yes, .gen (Op.build 44 #[])⟩,
  .g ⟨.no, .yes, .st 2 (.l 6) (.t 12)⟩,
  .g ⟨(.l 7), .yes, .mv (.c (.d (.flat (Value.int IntKind.i64 7))))⟩])
 .ret)
 .skip))
 (.seq (.drw [(.l 1)] [.st ⟨true, false, ⟨(.t 13), .yes, .ld true 1 (.l 3)⟩⟩,
  .st ⟨true, false, ⟨(.t 14), .yes, .ld true 1 (.l 3)⟩⟩,
  .st ⟨true, false, ⟨(.t 15), .yes, .mv (.l 1)⟩⟩,
  .st ⟨true, false, ⟨(.t 17), .yes, .mv (.l 2)⟩⟩,
  .st ⟨false, false, ⟨(.t 16), .yes, .cs 151 p151 [(.t 14), (.t 15)]⟩⟩,
  .st ⟨false, true, ⟨(.t 18), .yes, .cs 150 p150 [(.t 13), (.t 16), (.t 17)]⟩⟩,
  .st ⟨true, false, ⟨(.t 19), .yes, .ex (.t 18) 0⟩⟩,
  .st ⟨true, false, ⟨(.t 20), .yes, .ex (.t 18) 1⟩⟩,
  .st ⟨false, true, ⟨.no, .yes, .st 2 (.l 6) (.t 19)⟩⟩,
  .st ⟨true, false, ⟨(.l 7), .yes, .mv (.t 20)⟩⟩])
 .ret))), [(.c 6 true 2), (.t 7)]⟩
theorem x124E : EntryOK Tryz.prog mTabs 124 (.fn x124) := ⟨fnT rfl, Tryz.f124, plans 124, keeps 124, 3, Tryz.func124, rfl, by kernel_rfl, by kernel_rfl⟩
def x130 : XF := ⟨[0, 1, 4, 5, 6, 7, 10, 27, 41], [0, 1], (.seq (.reg [.g ⟨(.l 4), .yes, .mv (.c (.d (.flat (Value.int IntKind.i32 0))))⟩])
 (.seq (.seq (.reg [.mt 8 (.l 0),
  .g ⟨(.t 9), .yes, .cs 76 p76 [(.t 8), (.c (.d (.flat (Value.int IntKind.i64 0)))), (.c (.d (.flat (Value.int IntKind.i64 2)))), (.c (.d (.flat (Value.string ⟨#[]⟩))))]⟩,
  .g ⟨(.l 10), .yes, .not (.t 9)⟩])
 (.cond (.l 10) (.seq (.reg [.mt 11 (.l 0),
  .g ⟨(.t 12), .yes, .cs 72 p72 [(.t 11), (.c (.d (.flat (Value.int IntKind.i64 3))))]⟩])
 (.seq (.reg [.g ⟨(.l 4), .yes, .mv (.c (.d (.flat (Value.int IntKind.i32 0))))⟩])
 .ret))
 .skip))
 (.seq (.drw [] [.st ⟨true, false, ⟨(.t 13), .yes, .mv (.l 0)⟩⟩,
  .st ⟨true, false, ⟨(.t 14), .yes, .nc (.t 13)⟩⟩,
  .st ⟨true, false, ⟨(.t 15), .yes, .fa 0 (.t 14)⟩⟩,
  .st ⟨true, false, ⟨(.t 16), .yes, .ld false 1 (.t 15)⟩⟩,
  .st ⟨true, false, ⟨(.t 17), .yes, .mv (.l 0)⟩⟩,
  .st ⟨true, false, ⟨(.t 18), .yes, .nc (.t 17)⟩⟩,
  .st ⟨true, false, ⟨(.t 19), .yes, .fa 2 (.t 18)⟩⟩,
  .st ⟨true, false, ⟨(.t 20), .yes, .ld false 1 (.t 19)⟩⟩,
  .st ⟨true, false, ⟨(.t 21), .yes, .ia 3 (.t 16) (.t 20)⟩⟩,
  .st ⟨true, false, ⟨(.t 22), .yes, .fa 1 (.t 21)⟩⟩,
  .st ⟨true, false, ⟨(.t 23), .yes, .ld false 1 (.t 22)⟩⟩,
  .st ⟨true, false, ⟨(.l 5), .yes, .mv (.t 23)⟩⟩])
 (.seq (.reg [.g ⟨(.l 6), .yes, .mv (.c (.d (.flat (Value.int IntKind.i64 0))))⟩])
 (.seq (.seq (.reg [.g ⟨(.l 7), .yes, .mv (.c (.d (.flat (Value.int IntKind.i64 0))))⟩])
 (.block 0 (.loop (some [0, 1, 5, 6, 7]) (.seq (.seq (.reg [.mt 24 (.l 7),
  .mt 25 (.l 5),
  .g ⟨(.t 26), .yes, .lens (.t 25)⟩,
  .g ⟨(.l 27), .yes, .bin BinOp.lss (.t 24) (.t 26) (Op.binOp BinOp.lss 3 (Operand.tmp 24) (Operand.tmp 26) 3)⟩])
 (.cond (.l 27) .skip
 (.exit 0)))
 (.seq (.block 1 (.reg [.mt 30 (.l 6),
  .g ⟨(.t 31), .yes, .bin BinOp.mul (.t 30) (.c (.d (.flat (Value.int IntKind.i64 10)))) (Op.binOp BinOp.mul 3 (Operand.tmp 30) (Operand.const (Value.int IntKind.i64 10)) 3)⟩,
  .mt 32 (.l 5),
  .mt 33 (.l 7),
  .g ⟨(.t 34), .yes, .idx (.t 32) (.t 33) (Op.index 9 (Operand.tmp 32) (Operand.tmp 33))⟩,
  .g ⟨(.t 35), .yes, .bin BinOp.sub (.t 34) (.c (.d (.flat (Value.int IntKind.u8 48)))) (Op.binOp BinOp.sub 5 (Operand.tmp 34) (Operand.const (Value.int IntKind.u8 48)) 5)⟩,
  .g ⟨(.t 36), .yes, .gen (Op.convert 5 3 (Operand.tmp 35))⟩,
  .g ⟨(.t 37), .yes, .bin BinOp.add (.t 31) (.t 36) (Op.binOp BinOp.add 3 (Operand.tmp 31) (Operand.tmp 36) 3)⟩,
  .g ⟨(.t 38), .yes, .gen (Op.call { callee := (Callee.builtin Builtin.min), args := #[(Operand.tmp 37), (Operand.const (Value.int IntKind.i64 1099511627776))], argTypes := #[3, 3] })⟩,
  .g ⟨(.l 6), .yes, .mv (.t 38)⟩]))
 (.reg [.mt 28 (.l 7),
  .g ⟨(.t 29), .yes, .bin BinOp.add (.t 28) (.c (.d (.flat (Value.int IntKind.i64 1)))) (Op.binOp BinOp.add 3 (Operand.tmp 28) (Operand.const (Value.int IntKind.i64 1)) 3)⟩,
  .g ⟨(.l 7), .yes, .mv (.t 29)⟩]))))))
 (.seq (.seq (.reg [.mt 39 (.l 6),
  .mt 40 (.l 1),
  .g ⟨(.l 41), .yes, .bin BinOp.gtr (.t 39) (.t 40) (Op.binOp BinOp.gtr 3 (Operand.tmp 39) (Operand.tmp 40) 3)⟩])
 (.cond (.l 41) (.seq (.reg [.mt 42 (.l 0),
  .g ⟨(.t 43), .yes, .cs 72 p72 [(.t 42), (.c (.d (.flat (Value.int IntKind.i64 5))))]⟩])
 (.seq (.reg [.g ⟨(.l 4), .yes, .mv (.c (.d (.flat (Value.int IntKind.i32 0))))⟩])
 .ret))
 .skip))
 (.seq (.reg [.mt 44 (.l 0),
  .g ⟨(.t 45), .yes, .nc (.t 44)⟩,
  .g ⟨(.t 46), .yes, .fa 2 (.t 45)⟩,
  .g ⟨(.t 47), .yes, .ld false 1 (.t 46)⟩,
  .g ⟨(.t 48), .yes, .bin BinOp.add (.t 47) (.c (.d (.flat (Value.int IntKind.i64 1)))) (Op.binOp BinOp.add 3 (Operand.tmp 47) (Operand.const (Value.int IntKind.i64 1)) 3)⟩,
  .g ⟨(.t 49), .yes, .nc (.t 44)⟩,
  .g ⟨(.t 50), .yes, .fa 2 (.t 49)⟩,
  .g ⟨.no, .yes, .st 1 (.t 50) (.t 48)⟩])
 (.seq (.reg [.mt 51 (.l 6),
  .g ⟨(.t 52), .yes, .gen (Op.convert 3 21 (Operand.tmp 51))⟩,
  .g ⟨(.l 4), .yes, .mv (.t 52)⟩])
 .ret)))))))), [(.t 4)]⟩
theorem x130E : EntryOK Tryz.prog mTabs 130 (.fn x130) := ⟨fnT rfl, Tryz.f130, plans 130, keeps 130, 2, Tryz.func130, rfl, by kernel_rfl, by kernel_rfl⟩
def x131 : XF := ⟨[0, 2, 3, 6, 11, 33, 41], [0], (.seq (.reg [.g ⟨(.l 2), .yes, .mv (.c (.tight [] 0))⟩])
 (.seq (.seq (.reg [.mt 4 (.l 0),
  .g ⟨(.t 5), .yes, .cs 48 p48 [(.t 4), (.c (.d (.flat (Value.string ⟨#[40]⟩))))]⟩,
  .g ⟨(.l 6), .yes, .not (.t 5)⟩])
 (.cond (.l 6) (.seq (.reg [.mt 7 (.l 0),
  .g ⟨(.t 8), .yes, .cs 72 p72 [(.t 7), (.c (.d (.flat (Value.int IntKind.i64 3))))]⟩])
 (.seq (.reg [.g ⟨(.l 2), .yes, .mv (.c (.tight [] 0))⟩])
 .ret))
 .skip))
 (.seq (.seq (.reg [.mt 9 (.l 0),
  .g ⟨(.t 10), .yes, .cs 104 p104 [(.t 9)]⟩,
  .g ⟨(.l 11), .yes, .not (.t 10)⟩])
 (.cond (.l 11) (.seq (.reg [.g ⟨(.l 2), .yes, .mv (.c (.tight [] 0))⟩])
 .ret)
 .skip))
 (.seq (.reg [.mt 12 (.l 0),
  .g ⟨(.t 13), .yes, .nc (.t 12)⟩,
  .g ⟨(.t 14), .yes, .fa 2 (.t 13)⟩,
  .g ⟨(.t 15), .yes, .ld false 1 (.t 14)⟩,
  .g ⟨(.t 16), .yes, .bin BinOp.add (.t 15) (.c (.d (.flat (Value.int IntKind.i64 1)))) (Op.binOp BinOp.add 3 (Operand.tmp 15) (Operand.const (Value.int IntKind.i64 1)) 3)⟩,
  .g ⟨(.t 17), .yes, .nc (.t 12)⟩,
  .g ⟨(.t 18), .yes, .fa 2 (.t 17)⟩,
  .g ⟨.no, .yes, .st 1 (.t 18) (.t 16)⟩])
 (.seq (.reg [.g ⟨(.l 3), .yes, .mv (.c (.tight [] 0))⟩])
 (.seq (.block 0 (.loop (some [0, 3]) (.seq (.seq (.reg [.mt 19 (.l 0),
  .g ⟨(.t 20), .yes, .nc (.t 19)⟩,
  .g ⟨(.t 21), .yes, .fa 3 (.t 20)⟩,
  .g ⟨(.t 22), .yes, .ld false 1 (.t 21)⟩,
  .g ⟨(.t 23), .yes, .bin BinOp.eql (.t 22) (.c (.d (.flat (Value.int IntKind.i64 0)))) (Op.binOp BinOp.eql 3 (Operand.tmp 22) (Operand.const (Value.int IntKind.i64 0)) 3)⟩,
  .mt 24 (.t 23),
  .g ⟨(.t 25), (.g (.t 24) true), .mv (.l 3)⟩,
  .g ⟨(.t 26), (.g (.t 24) true), .lenr (.t 25)⟩,
  .g ⟨(.t 27), (.g (.t 24) true), .bin BinOp.gtr (.t 26) (.c (.d (.flat (Value.int IntKind.i64 0)))) (Op.binOp BinOp.gtr 3 (Operand.tmp 26) (Operand.const (Value.int IntKind.i64 0)) 3)⟩,
  .g ⟨(.t 28), (.g (.t 24) true), .mv (.t 27)⟩,
  .g ⟨(.t 29), (.g (.t 28) false), .mv (.l 0)⟩,
  .g ⟨(.t 30), (.g (.t 28) false), .cs 48 p48 [(.t 29), (.c (.d (.flat (Value.string ⟨#[41]⟩))))]⟩,
  .g ⟨(.t 31), (.g (.t 28) false), .not (.t 30)⟩,
  .g ⟨(.t 32), (.g (.t 24) true), .pick (.t 28) (.c (.d (.flat (Value.bool true)))) (.t 31)⟩,
  .g ⟨(.l 33), .yes, .pick (.t 24) (.t 32) (.c (.d (.flat (Value.bool false))))⟩])
 (.cond (.l 33) .skip
 (.exit 0)))
 (.block 1 (.seq (.reg [.mt 34 (.l 3),
  .mt 35 (.l 0),
  .g ⟨(.t 36), .yes, .cs 81 p81 [(.t 35)]⟩,
  .g ⟨(.t 37), .yes, .gen (Op.buildSlice 74 1 #[(0, (Operand.tmp 36))])⟩,
  .g ⟨(.t 38), .yes, .gen (Op.call { callee := (Callee.builtin Builtin.append), args := #[(Operand.tmp 34), (Operand.tmp 37)], argTypes := #[74, 74] })⟩,
  .g ⟨(.l 3), .yes, .mv (.t 38)⟩])
 (.seq (.reg [.mt 39 (.l 0),
  .g ⟨(.t 40), .yes, .cs 47 p47 [(.t 39), (.c (.d (.flat (Value.string ⟨#[44]⟩))))]⟩,
  .g ⟨(.l 41), .yes, .not (.t 40)⟩])
 (.cond (.l 41) (.exit 0)
 .skip)))))))
 (.seq (.reg [.mt 42 (.l 0),
  .g ⟨(.t 43), .yes, .cs 45 p45 [(.t 42), (.c (.d (.flat (Value.string ⟨#[41]⟩))))]⟩])
 (.seq (.reg [.mt 44 (.l 0),
  .g ⟨(.t 45), .yes, .nc (.t 44)⟩,
  .g ⟨(.t 46), .yes, .fa 5 (.t 45)⟩,
  .g ⟨(.t 47), .yes, .ld false 1 (.t 46)⟩,
  .g ⟨(.t 48), .yes, .bin BinOp.sub (.t 47) (.c (.d (.flat (Value.int IntKind.i64 1)))) (Op.binOp BinOp.sub 3 (Operand.tmp 47) (Operand.const (Value.int IntKind.i64 1)) 3)⟩,
  .g ⟨(.t 49), .yes, .nc (.t 44)⟩,
  .g ⟨(.t 50), .yes, .fa 5 (.t 49)⟩,
  .g ⟨.no, .yes, .st 1 (.t 50) (.t 48)⟩])
 (.seq (.reg [.mt 51 (.l 3),
  .g ⟨(.l 2), .yes, .mv (.t 51)⟩])
 .ret))))))))), [(.t 2)]⟩
theorem x131E : EntryOK Tryz.prog mTabs 131 (.fn x131) := ⟨fnT rfl, Tryz.f131, plans 131, keeps 131, 1, Tryz.func131, rfl, by kernel_rfl, by kernel_rfl⟩
def x133 : XF := ⟨[0, 2], [0], (.seq (.reg [.g ⟨(.l 2), .yes, .mv (.c (.d (.flat (Value.bool false))))⟩])
 (.seq (.reg [.mt 3 (.l 0),
  .g ⟨(.t 4), .yes, .bin BinOp.eql (.t 3) (.c (.d (.flat (Value.int IntKind.i64 6)))) (Op.binOp BinOp.eql 3 (Operand.tmp 3) (Operand.const (Value.int IntKind.i64 6)) 3)⟩,
  .mt 5 (.t 4),
  .g ⟨(.t 6), (.g (.t 5) false), .mv (.l 0)⟩,
  .g ⟨(.t 7), (.g (.t 5) false), .bin BinOp.eql (.t 6) (.c (.d (.flat (Value.int IntKind.i64 7)))) (Op.binOp BinOp.eql 3 (Operand.tmp 6) (Operand.const (Value.int IntKind.i64 7)) 3)⟩,
  .g ⟨(.t 8), .yes, .pick (.t 5) (.c (.d (.flat (Value.bool true)))) (.t 7)⟩,
  .mt 9 (.t 8),
  .g ⟨(.t 10), (.g (.t 9) false), .mv (.l 0)⟩,
  .g ⟨(.t 11), (.g (.t 9) false), .bin BinOp.eql (.t 10) (.c (.d (.flat (Value.int IntKind.i64 8)))) (Op.binOp BinOp.eql 3 (Operand.tmp 10) (Operand.const (Value.int IntKind.i64 8)) 3)⟩,
  .g ⟨(.t 12), .yes, .pick (.t 9) (.c (.d (.flat (Value.bool true)))) (.t 11)⟩,
  .mt 13 (.t 12),
  .g ⟨(.t 14), (.g (.t 13) false), .mv (.l 0)⟩,
  .g ⟨(.t 15), (.g (.t 13) false), .bin BinOp.eql (.t 14) (.c (.d (.flat (Value.int IntKind.i64 9)))) (Op.binOp BinOp.eql 3 (Operand.tmp 14) (Operand.const (Value.int IntKind.i64 9)) 3)⟩,
  .g ⟨(.t 16), .yes, .pick (.t 13) (.c (.d (.flat (Value.bool true)))) (.t 15)⟩,
  .g ⟨(.l 2), .yes, .mv (.t 16)⟩])
 .ret)), [(.t 2)]⟩
theorem x133E : EntryOK Tryz.prog mTabs 133 (.fn x133) := ⟨fnT rfl, Tryz.f133, plans 133, keeps 133, 1, Tryz.func133, rfl, by kernel_rfl, by kernel_rfl⟩
def x134 : XF := ⟨[0, 2], [0], (.seq (.reg [.g ⟨(.l 2), .yes, .mv (.c (.d (.flat (Value.bool false))))⟩])
 (.seq (.reg [.mt 3 (.l 0),
  .g ⟨(.t 4), .yes, .bin BinOp.eql (.t 3) (.c (.d (.flat (Value.int IntKind.i64 10)))) (Op.binOp BinOp.eql 3 (Operand.tmp 3) (Operand.const (Value.int IntKind.i64 10)) 3)⟩,
  .mt 5 (.t 4),
  .g ⟨(.t 6), (.g (.t 5) false), .mv (.l 0)⟩,
  .g ⟨(.t 7), (.g (.t 5) false), .bin BinOp.eql (.t 6) (.c (.d (.flat (Value.int IntKind.i64 11)))) (Op.binOp BinOp.eql 3 (Operand.tmp 6) (Operand.const (Value.int IntKind.i64 11)) 3)⟩,
  .g ⟨(.t 8), .yes, .pick (.t 5) (.c (.d (.flat (Value.bool true)))) (.t 7)⟩,
  .mt 9 (.t 8),
  .g ⟨(.t 10), (.g (.t 9) false), .mv (.l 0)⟩,
  .g ⟨(.t 11), (.g (.t 9) false), .bin BinOp.eql (.t 10) (.c (.d (.flat (Value.int IntKind.i64 12)))) (Op.binOp BinOp.eql 3 (Operand.tmp 10) (Operand.const (Value.int IntKind.i64 12)) 3)⟩,
  .g ⟨(.t 12), .yes, .pick (.t 9) (.c (.d (.flat (Value.bool true)))) (.t 11)⟩,
  .mt 13 (.t 12),
  .g ⟨(.t 14), (.g (.t 13) false), .mv (.l 0)⟩,
  .g ⟨(.t 15), (.g (.t 13) false), .bin BinOp.eql (.t 14) (.c (.d (.flat (Value.int IntKind.i64 13)))) (Op.binOp BinOp.eql 3 (Operand.tmp 14) (Operand.const (Value.int IntKind.i64 13)) 3)⟩,
  .g ⟨(.t 16), .yes, .pick (.t 13) (.c (.d (.flat (Value.bool true)))) (.t 15)⟩,
  .mt 17 (.t 16),
  .g ⟨(.t 18), (.g (.t 17) false), .mv (.l 0)⟩,
  .g ⟨(.t 19), (.g (.t 17) false), .bin BinOp.eql (.t 18) (.c (.d (.flat (Value.int IntKind.i64 14)))) (Op.binOp BinOp.eql 3 (Operand.tmp 18) (Operand.const (Value.int IntKind.i64 14)) 3)⟩,
  .g ⟨(.t 20), .yes, .pick (.t 17) (.c (.d (.flat (Value.bool true)))) (.t 19)⟩,
  .g ⟨(.l 2), .yes, .mv (.t 20)⟩])
 .ret)), [(.t 2)]⟩
theorem x134E : EntryOK Tryz.prog mTabs 134 (.fn x134) := ⟨fnT rfl, Tryz.f134, plans 134, keeps 134, 1, Tryz.func134, rfl, by kernel_rfl, by kernel_rfl⟩
def x135 : XF := ⟨[0, 2], [0], (.seq (.reg [.g ⟨(.l 2), .yes, .mv (.c (.d (.flat (Value.bool false))))⟩])
 (.seq (.reg [.mt 3 (.l 0),
  .g ⟨(.t 4), .yes, .bin BinOp.neq (.t 3) (.c (.d (.flat (Value.string ⟨#[]⟩)))) (Op.binOp BinOp.neq 9 (Operand.tmp 3) (Operand.const (Value.string ⟨#[]⟩)) 9)⟩,
  .mt 5 (.t 4),
  .g ⟨(.t 6), (.g (.t 5) true), .mv (.l 0)⟩,
  .g ⟨(.t 7), (.g (.t 5) true), .idx (.t 6) (.c (.d (.flat (Value.int IntKind.i64 0)))) (Op.index 9 (Operand.tmp 6) (Operand.const (Value.int IntKind.i64 0)))⟩,
  .g ⟨(.t 8), (.g (.t 5) true), .gen (Op.convert 5 21 (Operand.tmp 7))⟩,
  .g ⟨(.t 9), (.g (.t 5) true), .cs 113 p113 [(.t 8)]⟩,
  .g ⟨(.t 10), .yes, .pick (.t 5) (.t 9) (.c (.d (.flat (Value.bool false))))⟩,
  .mt 11 (.t 10),
  .g ⟨(.t 12), (.g (.t 11) true), .mv (.l 0)⟩,
  .g ⟨(.t 13), (.g (.t 11) true), .cs 114 p114 [(.t 12)]⟩,
  .g ⟨(.t 14), (.g (.t 11) true), .not (.t 13)⟩,
  .g ⟨(.t 15), .yes, .pick (.t 11) (.t 14) (.c (.d (.flat (Value.bool false))))⟩,
  .g ⟨(.l 2), .yes, .mv (.t 15)⟩])
 .ret)), [(.t 2)]⟩
theorem x135E : EntryOK Tryz.prog mTabs 135 (.fn x135) := ⟨fnT rfl, Tryz.f135, plans 135, keeps 135, 1, Tryz.func135, rfl, by kernel_rfl, by kernel_rfl⟩
def x136 : XF := ⟨[0, 2, 3, 4, 14, 28], [0], (.seq (.reg [.g ⟨(.l 2), .yes, .gen (Op.alloc 124)⟩])
 (.seq (.seq (.reg [.mt 5 (.l 0),
  .g ⟨(.t 6), .yes, .cs 48 p48 [(.t 5), (.c (.d (.flat (Value.string ⟨#[45]⟩))))]⟩,
  .mt 7 (.t 6),
  .g ⟨(.t 8), (.g (.t 7) false), .mv (.l 0)⟩,
  .g ⟨(.t 9), (.g (.t 7) false), .cs 48 p48 [(.t 8), (.c (.d (.flat (Value.string ⟨#[33]⟩))))]⟩,
  .g ⟨(.t 10), .yes, .pick (.t 7) (.c (.d (.flat (Value.bool true)))) (.t 9)⟩,
  .mt 11 (.t 10),
  .g ⟨(.t 12), (.g (.t 11) false), .mv (.l 0)⟩,
  .g ⟨(.t 13), (.g (.t 11) false), .cs 48 p48 [(.t 12), (.c (.d (.flat (Value.string ⟨#[35]⟩))))]⟩,
  .g ⟨(.l 14), .yes, .pick (.t 11) (.c (.d (.flat (Value.bool true)))) (.t 13)⟩])
 (.cond (.l 14) (.seq (.drw [] [.st ⟨true, false, ⟨(.t 15), .yes, .mv (.l 0)⟩⟩,
  .st ⟨true, false, ⟨(.t 16), .yes, .nc (.t 15)⟩⟩,
  .st ⟨true, false, ⟨(.t 17), .yes, .fa 0 (.t 16)⟩⟩,
  .st ⟨true, false, ⟨(.t 18), .yes, .ld false 1 (.t 17)⟩⟩,
  .st ⟨true, false, ⟨(.t 19), .yes, .mv (.l 0)⟩⟩,
  .st ⟨true, false, ⟨(.t 20), .yes, .nc (.t 19)⟩⟩,
  .st ⟨true, false, ⟨(.t 21), .yes, .fa 2 (.t 20)⟩⟩,
  .st ⟨true, false, ⟨(.t 22), .yes, .ld false 1 (.t 21)⟩⟩,
  .st ⟨true, false, ⟨(.t 23), .yes, .ia 3 (.t 18) (.t 22)⟩⟩,
  .st ⟨true, false, ⟨(.t 24), .yes, .fa 1 (.t 23)⟩⟩,
  .st ⟨true, false, ⟨(.t 25), .yes, .ld false 1 (.t 24)⟩⟩,
  .st ⟨true, false, ⟨(.l 3), .yes, .mv (.t 25)⟩⟩])
 (.seq (.seq (.reg [.mt 26 (.l 0),
  .g ⟨(.t 27), .yes, .cs 104 p104 [(.t 26)]⟩,
  .g ⟨(.l 28), .yes, .not (.t 27)⟩])
 (.cond (.l 28) (.seq (.reg [.g ⟨(.t 29), .yes, .gen (Op.build 124 #[])⟩,
  .g ⟨.no, .yes, .st 8 (.l 2) (.t 29)⟩])
 .ret)
 .skip))
 (.seq (.reg [.mt 30 (.l 0),
  .g ⟨(.t 31), .yes, .nc (.t 30)⟩,
  .g ⟨(.t 32), .yes, .fa 2 (.t 31)⟩,
  .g ⟨(.t 33), .yes, .ld false 1 (.t 32)⟩,
  .g ⟨(.t 34), .yes, .bin BinOp.add (.t 33) (.c (.d (.flat (Value.int IntKind.i64 1)))) (Op.binOp BinOp.add 3 (Operand.tmp 33) (Operand.const (Value.int IntKind.i64 1)) 3)⟩,
  .g ⟨(.t 35), .yes, .nc (.t 30)⟩,
  .g ⟨(.t 36), .yes, .fa 2 (.t 35)⟩,
  .g ⟨.no, .yes, .st 1 (.t 36) (.t 34)⟩])
 (.seq (.reg [.mt 37 (.l 0),
  .g ⟨(.t 38), .yes, .cs 136 p136 [(.t 37)]⟩,
  .g ⟨(.l 4), .yes, .gen (Op.alloc 124)⟩,
  .g ⟨.no, .yes, .st 8 (.l 4) (.t 38)⟩])
 (.seq (.reg [.mt 39 (.l 0),
  .g ⟨(.t 40), .yes, .nc (.t 39)⟩,
  .g ⟨(.t 41), .yes, .fa 5 (.t 40)⟩,
  .g ⟨(.t 42), .yes, .ld false 1 (.t 41)⟩,
  .g ⟨(.t 43), .yes, .bin BinOp.sub (.t 42) (.c (.d (.flat (Value.int IntKind.i64 1)))) (Op.binOp BinOp.sub 3 (Operand.tmp 42) (Operand.const (Value.int IntKind.i64 1)) 3)⟩,
  .g ⟨(.t 44), .yes, .nc (.t 39)⟩,
  .g ⟨(.t 45), .yes, .fa 5 (.t 44)⟩,
  .g ⟨.no, .yes, .st 1 (.t 45) (.t 43)⟩])
 (.seq (.reg [.mt 46 (.l 3),
  .g ⟨(.t 47), .yes, .ld true 8 (.l 4)⟩,
  .g ⟨(.t 48), .yes, .gen (Op.buildSlice 74 1 #[(0, (Operand.tmp 47))])⟩,
  .g ⟨(.t 49), .yes, .gen (Op.build 124 #[(0, (Operand.const (Value.int IntKind.i64 18))), (3, (Operand.tmp 46)), (5, (Operand.tmp 48))])⟩,
  .g ⟨.no, .yes, .st 8 (.l 2) (.t 49)⟩])
 .ret))))))
 .skip))
 (.seq (.reg [.mt 50 (.l 0),
  .mt 51 (.l 0),
  .g ⟨(.t 52), .yes, .cs 153 p153 [(.t 51)]⟩,
  .g ⟨(.t 53), .yes, .cs 152 p152 [(.t 50), (.t 52)]⟩,
  .g ⟨.no, .yes, .st 8 (.l 2) (.t 53)⟩])
 .ret))), [(.c 2 true 8)]⟩
theorem x136E : EntryOK Tryz.prog mTabs 136 (.fn x136) := ⟨fnT rfl, Tryz.f136, plans 136, keeps 136, 1, Tryz.func136, rfl, by kernel_rfl, by kernel_rfl⟩
def x137 : XF := ⟨[0, 2, 3, 4, 6, 8, 11, 14, 17], [0], (.seq (.reg [.g ⟨(.l 2), .yes, .mv (.c (.d (.flat (Value.int IntKind.i64 0))))⟩])
 (.seq (.seq (.reg [.g ⟨(.l 3), .yes, .mv (.l 0)⟩])
 (.block 0 (.seq (.reg [.g ⟨(.t 5), .yes, .bin BinOp.eql (.l 3) (.c (.d (.flat (Value.string ⟨#[124, 124]⟩)))) (Op.binOp BinOp.eql 9 (Operand.tmp 3) (Operand.const (Value.string ⟨#[124, 124]⟩)) 9)⟩,
  .g ⟨(.l 4), .yes, .mv (.t 5)⟩])
 (.cond (.l 4) (.seq (.reg [.g ⟨(.l 2), .yes, .mv (.c (.d (.flat (Value.int IntKind.i64 1))))⟩])
 .ret)
 (.seq (.reg [.g ⟨(.t 7), .yes, .bin BinOp.eql (.l 3) (.c (.d (.flat (Value.string ⟨#[38, 38]⟩)))) (Op.binOp BinOp.eql 9 (Operand.tmp 3) (Operand.const (Value.string ⟨#[38, 38]⟩)) 9)⟩,
  .g ⟨(.l 6), .yes, .mv (.t 7)⟩])
 (.cond (.l 6) (.seq (.reg [.g ⟨(.l 2), .yes, .mv (.c (.d (.flat (Value.int IntKind.i64 2))))⟩])
 .ret)
 (.seq (.seq (.reg [.g ⟨(.t 9), .yes, .bin BinOp.eql (.l 3) (.c (.d (.flat (Value.string ⟨#[61, 61]⟩)))) (Op.binOp BinOp.eql 9 (Operand.tmp 3) (Operand.const (Value.string ⟨#[61, 61]⟩)) 9)⟩,
  .g ⟨(.l 8), .yes, .mv (.t 9)⟩])
 (.cond (.l 8) .skip
 (.reg [.g ⟨(.t 10), .yes, .bin BinOp.eql (.l 3) (.c (.d (.flat (Value.string ⟨#[33, 61]⟩)))) (Op.binOp BinOp.eql 9 (Operand.tmp 3) (Operand.const (Value.string ⟨#[33, 61]⟩)) 9)⟩,
  .g ⟨(.l 8), .yes, .mv (.t 10)⟩])))
 (.cond (.l 8) (.seq (.reg [.g ⟨(.l 2), .yes, .mv (.c (.d (.flat (Value.int IntKind.i64 3))))⟩])
 .ret)
 (.seq (.seq (.reg [.g ⟨(.t 12), .yes, .bin BinOp.eql (.l 3) (.c (.d (.flat (Value.string ⟨#[60]⟩)))) (Op.binOp BinOp.eql 9 (Operand.tmp 3) (Operand.const (Value.string ⟨#[60]⟩)) 9)⟩,
  .g ⟨(.l 11), .yes, .mv (.t 12)⟩])
 (.cond (.l 11) .skip
 (.reg [.g ⟨(.t 13), .yes, .bin BinOp.eql (.l 3) (.c (.d (.flat (Value.string ⟨#[60, 61]⟩)))) (Op.binOp BinOp.eql 9 (Operand.tmp 3) (Operand.const (Value.string ⟨#[60, 61]⟩)) 9)⟩,
  .g ⟨(.l 11), .yes, .mv (.t 13)⟩])))
 (.cond (.l 11) (.seq (.reg [.g ⟨(.l 2), .yes, .mv (.c (.d (.flat (Value.int IntKind.i64 4))))⟩])
 .ret)
 (.seq (.seq (.reg [.g ⟨(.t 15), .yes, .bin BinOp.eql (.l 3) (.c (.d (.flat (Value.string ⟨#[43]⟩)))) (Op.binOp BinOp.eql 9 (Operand.tmp 3) (Operand.const (Value.string ⟨#[43]⟩)) 9)⟩,
  .g ⟨(.l 14), .yes, .mv (.t 15)⟩])
 (.cond (.l 14) .skip
 (.reg [.g ⟨(.t 16), .yes, .bin BinOp.eql (.l 3) (.c (.d (.flat (Value.string ⟨#[45]⟩)))) (Op.binOp BinOp.eql 9 (Operand.tmp 3) (Operand.const (Value.string ⟨#[45]⟩)) 9)⟩,
  .g ⟨(.l 14), .yes, .mv (.t 16)⟩])))
 (.cond (.l 14) (.seq (.reg [.g ⟨(.l 2), .yes, .mv (.c (.d (.flat (Value.int IntKind.i64 5))))⟩])
 .ret)
 (.seq (.seq (.reg [.g ⟨(.t 18), .yes, .bin BinOp.eql (.l 3) (.c (.d (.flat (Value.string ⟨#[42]⟩)))) (Op.binOp BinOp.eql 9 (Operand.tmp 3) (Operand.const (Value.string ⟨#[42]⟩)) 9)⟩,
  .g ⟨(.l 17), .yes, .mv (.t 18)⟩])
 (.cond (.l 17) .skip
 (.seq (.reg [.g ⟨(.t 19), .yes, .bin BinOp.eql (.l 3) (.c (.d (.flat (Value.string ⟨#[47]⟩)))) (Op.binOp BinOp.eql 9 (Operand.tmp 3) (Operand.const (Value.string ⟨#[47]⟩)) 9)⟩,
  .g ⟨(.l 17), .yes, .mv (.t 19)⟩])
 (.cond (.l 17) .skip
 (.seq (.reg [.g ⟨(.t 20), .yes, .bin BinOp.eql (.l 3) (.c (.d (.flat (Value.string ⟨#[37]⟩)))) (Op.binOp BinOp.eql 9 (Operand.tmp 3) (Operand.const (Value.string ⟨#[37]⟩)) 9)⟩,
  .g ⟨(.l 17), .yes, .mv (.t 20)⟩])
 (.cond (.l 17) .skip
 (.reg [.g ⟨(.t 21), .yes, .bin BinOp.eql (.l 3) (.c (.d (.flat (Value.string ⟨#[64]⟩)))) (Op.binOp BinOp.eql 9 (Operand.tmp 3) (Operand.const (Value.string ⟨#[64]⟩)) 9)⟩,
  .g ⟨(.l 17), .yes, .mv (.t 21)⟩])))))))
 (.cond (.l 17) (.seq (.reg [.g ⟨(.l 2), .yes, .mv (.c (.d (.flat (Value.int IntKind.i64 6))))⟩])
 .ret)
 .skip))))))))))))))
 (.seq (.reg [.g ⟨(.l 2), .yes, .mv (.c (.d (.flat (Value.int IntKind.i64 0))))⟩])
 .ret))), [(.t 2)]⟩
theorem x137E : EntryOK Tryz.prog mTabs 137 (.fn x137) := ⟨fnT rfl, Tryz.f137, plans 137, keeps 137, 1, Tryz.func137, rfl, by kernel_rfl, by kernel_rfl⟩
def x138 : XF := ⟨[0, 1, 2], [0], (.seq (.reg [.g ⟨(.l 1), .yes, .gen (Op.box 124 (Operand.tmp 0))⟩,
  .g ⟨(.l 2), .yes, .mv (.c (.d (.flat (Value.int IntKind.i64 0))))⟩])
 (.seq (.reg [.g ⟨(.t 3), .yes, .fa 5 (.l 1)⟩,
  .g ⟨(.t 4), .yes, .ld false 1 (.t 3)⟩,
  .g ⟨(.t 5), .yes, .cs 109 p109 [(.t 4)]⟩,
  .g ⟨(.t 6), .yes, .bin BinOp.add (.c (.d (.flat (Value.int IntKind.i64 1)))) (.t 5) (Op.binOp BinOp.add 3 (Operand.const (Value.int IntKind.i64 1)) (Operand.tmp 5) 3)⟩,
  .g ⟨(.l 2), .yes, .mv (.t 6)⟩])
 .ret)), [(.t 2)]⟩
theorem x138E : EntryOK Tryz.prog mTabs 138 (.fn x138) := ⟨fnT rfl, Tryz.f138, plans 138, keeps 138, 1, Tryz.func138, rfl, by kernel_rfl, by kernel_rfl⟩
def x139 : XF := ⟨[0, 1, 2, 3, 4, 5, 6, 7, 37, 38, 66, 90, 114, 124, 137, 153, 170, 203, 222], [0], (.seq (.reg [.g ⟨(.l 1), .yes, .gen (Op.box 126 (Operand.tmp 0))⟩,
  .g ⟨(.l 2), .yes, .mv (.c (.d (.flat (Value.bool false))))⟩])
 (.seq (.drw [] [.st ⟨true, false, ⟨(.t 8), .yes, .fa 4 (.l 1)⟩⟩,
  .st ⟨true, false, ⟨(.t 9), .yes, .ld false 1 (.t 8)⟩⟩,
  .st ⟨true, false, ⟨(.t 10), .yes, .lenr (.t 9)⟩⟩,
  .st ⟨true, false, ⟨(.t 11), .yes, .fa 5 (.l 1)⟩⟩,
  .st ⟨true, false, ⟨(.t 12), .yes, .ld false 1 (.t 11)⟩⟩,
  .st ⟨true, false, ⟨(.t 13), .yes, .lenr (.t 12)⟩⟩,
  .st ⟨true, false, ⟨(.t 14), .yes, .bin BinOp.eql (.t 13) (.c (.d (.flat (Value.int IntKind.i64 0)))) (Op.binOp BinOp.eql 3 (Operand.tmp 13) (Operand.const (Value.int IntKind.i64 0)) 3)⟩⟩,
  .st ⟨true, false, ⟨(.t 15), .yes, .fa 6 (.l 1)⟩⟩,
  .st ⟨true, false, ⟨(.t 16), .yes, .ld false 1 (.t 15)⟩⟩,
  .st ⟨true, false, ⟨(.t 17), .yes, .lenr (.t 16)⟩⟩,
  .st ⟨true, false, ⟨(.t 18), .yes, .bin BinOp.eql (.t 17) (.c (.d (.flat (Value.int IntKind.i64 0)))) (Op.binOp BinOp.eql 3 (Operand.tmp 17) (Operand.const (Value.int IntKind.i64 0)) 3)⟩⟩,
  .st ⟨true, false, ⟨(.t 19), .yes, .fa 7 (.l 1)⟩⟩,
  .st ⟨true, false, ⟨(.t 20), .yes, .ld false 1 (.t 19)⟩⟩,
  .st ⟨true, false, ⟨(.t 21), .yes, .lenr (.t 20)⟩⟩,
  .st ⟨true, false, ⟨(.t 22), .yes, .bin BinOp.eql (.t 21) (.c (.d (.flat (Value.int IntKind.i64 0)))) (Op.binOp BinOp.eql 3 (Operand.tmp 21) (Operand.const (Value.int IntKind.i64 0)) 3)⟩⟩,
  .st ⟨true, false, ⟨(.l 3), .yes, .mv (.t 10)⟩⟩,
  .st ⟨true, false, ⟨(.l 4), .yes, .mv (.t 14)⟩⟩,
  .st ⟨true, false, ⟨(.l 5), .yes, .mv (.t 18)⟩⟩,
  .st ⟨true, false, ⟨(.l 6), .yes, .mv (.t 22)⟩⟩])
 (.seq (.reg [.g ⟨(.t 23), .yes, .fa 2 (.l 1)⟩,
  .g ⟨(.t 24), .yes, .ld false 1 (.t 23)⟩,
  .g ⟨(.t 25), .yes, .bin BinOp.eql (.t 24) (.c (.d (.flat (Value.string ⟨#[]⟩)))) (Op.binOp BinOp.eql 9 (Operand.tmp 24) (Operand.const (Value.string ⟨#[]⟩)) 9)⟩,
  .mt 26 (.t 25),
  .g ⟨(.t 27), (.g (.t 26) true), .fa 3 (.l 1)⟩,
  .g ⟨(.t 28), (.g (.t 26) true), .ld false 1 (.t 27)⟩,
  .g ⟨(.t 29), (.g (.t 26) true), .bin BinOp.eql (.t 28) (.c (.d (.flat (Value.string ⟨#[]⟩)))) (Op.binOp BinOp.eql 9 (Operand.tmp 28) (Operand.const (Value.string ⟨#[]⟩)) 9)⟩,
  .g ⟨(.t 30), .yes, .pick (.t 26) (.t 29) (.c (.d (.flat (Value.bool false))))⟩,
  .mt 31 (.t 30),
  .g ⟨(.t 32), (.g (.t 31) true), .fa 1 (.l 1)⟩,
  .g ⟨(.t 33), (.g (.t 31) true), .ld false 1 (.t 32)⟩,
  .g ⟨(.t 34), (.g (.t 31) true), .bin BinOp.eql (.t 33) (.c (.d (.flat (Value.int IntKind.i32 0)))) (Op.binOp BinOp.eql 21 (Operand.tmp 33) (Operand.const (Value.int IntKind.i32 0)) 21)⟩,
  .g ⟨(.t 35), .yes, .pick (.t 31) (.t 34) (.c (.d (.flat (Value.bool false))))⟩,
  .g ⟨(.l 7), .yes, .mv (.t 35)⟩])
 (.seq (.seq (.reg [.g ⟨(.t 36), .yes, .fa 0 (.l 1)⟩,
  .g ⟨(.l 37), .yes, .ld false 1 (.t 36)⟩])
 (.block 0 (.seq (.reg [.g ⟨(.t 39), .yes, .bin BinOp.eql (.l 37) (.c (.d (.flat (Value.int IntKind.i64 1)))) (Op.binOp BinOp.eql 3 (Operand.tmp 37) (Operand.const (Value.int IntKind.i64 1)) 3)⟩,
  .g ⟨(.l 38), .yes, .mv (.t 39)⟩])
 (.cond (.l 38) (.seq (.reg [.mt 40 (.l 3),
  .g ⟨(.t 41), .yes, .bin BinOp.eql (.t 40) (.c (.d (.flat (Value.int IntKind.i64 1)))) (Op.binOp BinOp.eql 3 (Operand.tmp 40) (Operand.const (Value.int IntKind.i64 1)) 3)⟩,
  .mt 42 (.t 41),
  .g ⟨(.t 43), (.g (.t 42) true), .mv (.l 4)⟩,
  .g ⟨(.t 44), .yes, .pick (.t 42) (.t 43) (.c (.d (.flat (Value.bool false))))⟩,
  .mt 45 (.t 44),
  .g ⟨(.t 46), (.g (.t 45) true), .mv (.l 5)⟩,
  .g ⟨(.t 47), .yes, .pick (.t 45) (.t 46) (.c (.d (.flat (Value.bool false))))⟩,
  .mt 48 (.t 47),
  .g ⟨(.t 49), (.g (.t 48) true), .mv (.l 6)⟩,
  .g ⟨(.t 50), .yes, .pick (.t 48) (.t 49) (.c (.d (.flat (Value.bool false))))⟩,
  .mt 51 (.t 50),
  .g ⟨(.t 52), (.g (.t 51) true), .fa 2 (.l 1)⟩,
  .g ⟨(.t 53), (.g (.t 51) true), .ld false 1 (.t 52)⟩,
  .g ⟨(.t 54), (.g (.t 51) true), .cs 84 p84 [(.t 53)]⟩,
  .g ⟨(.t 55), .yes, .pick (.t 51) (.t 54) (.c (.d (.flat (Value.bool false))))⟩,
  .mt 56 (.t 55),
  .g ⟨(.t 57), (.g (.t 56) true), .fa 3 (.l 1)⟩,
  .g ⟨(.t 58), (.g (.t 56) true), .ld false 1 (.t 57)⟩,
  .g ⟨(.t 59), (.g (.t 56) true), .cs 85 p85 [(.t 58)]⟩,
  .g ⟨(.t 60), .yes, .pick (.t 56) (.t 59) (.c (.d (.flat (Value.bool false))))⟩,
  .mt 61 (.t 60),
  .g ⟨(.t 62), (.g (.t 61) true), .fa 1 (.l 1)⟩,
  .g ⟨(.t 63), (.g (.t 61) true), .ld false 1 (.t 62)⟩,
  .g ⟨(.t 64), (.g (.t 61) true), .bin BinOp.eql (.t 63) (.c (.d (.flat (Value.int IntKind.i32 0)))) (Op.binOp BinOp.eql 21 (Operand.tmp 63) (Operand.const (Value.int IntKind.i32 0)) 21)⟩,
  .g ⟨(.t 65), .yes, .pick (.t 61) (.t 64) (.c (.d (.flat (Value.bool false))))⟩,
  .g ⟨(.l 2), .yes, .mv (.t 65)⟩])
 .ret)
 (.seq (.reg [.g ⟨(.t 67), .yes, .bin BinOp.eql (.l 37) (.c (.d (.flat (Value.int IntKind.i64 2)))) (Op.binOp BinOp.eql 3 (Operand.tmp 37) (Operand.const (Value.int IntKind.i64 2)) 3)⟩,
  .g ⟨(.l 66), .yes, .mv (.t 67)⟩])
 (.cond (.l 66) (.seq (.reg [.mt 68 (.l 3),
  .g ⟨(.t 69), .yes, .bin BinOp.eql (.t 68) (.c (.d (.flat (Value.int IntKind.i64 2)))) (Op.binOp BinOp.eql 3 (Operand.tmp 68) (Operand.const (Value.int IntKind.i64 2)) 3)⟩,
  .mt 70 (.t 69),
  .g ⟨(.t 71), (.g (.t 70) true), .mv (.l 4)⟩,
  .g ⟨(.t 72), .yes, .pick (.t 70) (.t 71) (.c (.d (.flat (Value.bool false))))⟩,
  .mt 73 (.t 72),
  .g ⟨(.t 74), (.g (.t 73) true), .mv (.l 5)⟩,
  .g ⟨(.t 75), .yes, .pick (.t 73) (.t 74) (.c (.d (.flat (Value.bool false))))⟩,
  .mt 76 (.t 75),
  .g ⟨(.t 77), (.g (.t 76) true), .mv (.l 6)⟩,
  .g ⟨(.t 78), .yes, .pick (.t 76) (.t 77) (.c (.d (.flat (Value.bool false))))⟩,
  .mt 79 (.t 78),
  .g ⟨(.t 80), (.g (.t 79) true), .mv (.l 7)⟩,
  .g ⟨(.t 81), .yes, .pick (.t 79) (.t 80) (.c (.d (.flat (Value.bool false))))⟩,
  .mt 82 (.t 81),
  .g ⟨(.t 83), (.g (.t 82) true), .fa 4 (.l 1)⟩,
  .g ⟨(.t 84), (.g (.t 82) true), .ld false 1 (.t 83)⟩,
  .g ⟨(.t 85), (.g (.t 82) true), .ia 8 (.t 84) (.c (.d (.flat (Value.int IntKind.i64 0))))⟩,
  .g ⟨(.t 86), (.g (.t 82) true), .fa 0 (.t 85)⟩,
  .g ⟨(.t 87), (.g (.t 82) true), .ld false 1 (.t 86)⟩,
  .g ⟨(.t 88), (.g (.t 82) true), .cs 133 p133 [(.t 87)]⟩,
  .g ⟨(.t 89), .yes, .pick (.t 82) (.t 88) (.c (.d (.flat (Value.bool false))))⟩,
  .g ⟨(.l 2), .yes, .mv (.t 89)⟩])
 .ret)
 (.seq (.reg [.g ⟨(.t 91), .yes, .bin BinOp.eql (.l 37) (.c (.d (.flat (Value.int IntKind.i64 3)))) (Op.binOp BinOp.eql 3 (Operand.tmp 37) (Operand.const (Value.int IntKind.i64 3)) 3)⟩,
  .g ⟨(.l 90), .yes, .mv (.t 91)⟩])
 (.cond (.l 90) (.seq (.reg [.mt 92 (.l 3),
  .g ⟨(.t 93), .yes, .bin BinOp.eql (.t 92) (.c (.d (.flat (Value.int IntKind.i64 1)))) (Op.binOp BinOp.eql 3 (Operand.tmp 92) (Operand.const (Value.int IntKind.i64 1)) 3)⟩,
  .mt 94 (.t 93),
  .g ⟨(.t 95), (.g (.t 94) true), .mv (.l 4)⟩,
  .g ⟨(.t 96), .yes, .pick (.t 94) (.t 95) (.c (.d (.flat (Value.bool false))))⟩,
  .mt 97 (.t 96),
  .g ⟨(.t 98), (.g (.t 97) true), .mv (.l 5)⟩,
  .g ⟨(.t 99), .yes, .pick (.t 97) (.t 98) (.c (.d (.flat (Value.bool false))))⟩,
  .mt 100 (.t 99),
  .g ⟨(.t 101), (.g (.t 100) true), .mv (.l 6)⟩,
  .g ⟨(.t 102), .yes, .pick (.t 100) (.t 101) (.c (.d (.flat (Value.bool false))))⟩,
  .mt 103 (.t 102),
  .g ⟨(.t 104), (.g (.t 103) true), .mv (.l 7)⟩,
  .g ⟨(.t 105), .yes, .pick (.t 103) (.t 104) (.c (.d (.flat (Value.bool false))))⟩,
  .mt 106 (.t 105),
  .g ⟨(.t 107), (.g (.t 106) true), .fa 4 (.l 1)⟩,
  .g ⟨(.t 108), (.g (.t 106) true), .ld false 1 (.t 107)⟩,
  .g ⟨(.t 109), (.g (.t 106) true), .ia 8 (.t 108) (.c (.d (.flat (Value.int IntKind.i64 0))))⟩,
  .g ⟨(.t 110), (.g (.t 106) true), .fa 0 (.t 109)⟩,
  .g ⟨(.t 111), (.g (.t 106) true), .ld false 1 (.t 110)⟩,
  .g ⟨(.t 112), (.g (.t 106) true), .cs 134 p134 [(.t 111)]⟩,
  .g ⟨(.t 113), .yes, .pick (.t 106) (.t 112) (.c (.d (.flat (Value.bool false))))⟩,
  .g ⟨(.l 2), .yes, .mv (.t 113)⟩])
 .ret)
 (.seq (.reg [.g ⟨(.t 115), .yes, .bin BinOp.eql (.l 37) (.c (.d (.flat (Value.int IntKind.i64 4)))) (Op.binOp BinOp.eql 3 (Operand.tmp 37) (Operand.const (Value.int IntKind.i64 4)) 3)⟩,
  .g ⟨(.l 114), .yes, .mv (.t 115)⟩])
 (.cond (.l 114) (.seq (.reg [.mt 116 (.l 3),
  .g ⟨(.t 117), .yes, .bin BinOp.eql (.t 116) (.c (.d (.flat (Value.int IntKind.i64 1)))) (Op.binOp BinOp.eql 3 (Operand.tmp 116) (Operand.const (Value.int IntKind.i64 1)) 3)⟩,
  .mt 118 (.t 117),
  .g ⟨(.t 119), (.g (.t 118) true), .mv (.l 6)⟩,
  .g ⟨(.t 120), .yes, .pick (.t 118) (.t 119) (.c (.d (.flat (Value.bool false))))⟩,
  .mt 121 (.t 120),
  .g ⟨(.t 122), (.g (.t 121) true), .mv (.l 7)⟩,
  .g ⟨(.t 123), .yes, .pick (.t 121) (.t 122) (.c (.d (.flat (Value.bool false))))⟩,
  .g ⟨(.l 2), .yes, .mv (.t 123)⟩])
 .ret)
 (.seq (.reg [.g ⟨(.t 125), .yes, .bin BinOp.eql (.l 37) (.c (.d (.flat (Value.int IntKind.i64 5)))) (Op.binOp BinOp.eql 3 (Operand.tmp 37) (Operand.const (Value.int IntKind.i64 5)) 3)⟩,
  .g ⟨(.l 124), .yes, .mv (.t 125)⟩])
 (.cond (.l 124) (.seq (.reg [.mt 126 (.l 3),
  .g ⟨(.t 127), .yes, .bin BinOp.eql (.t 126) (.c (.d (.flat (Value.int IntKind.i64 1)))) (Op.binOp BinOp.eql 3 (Operand.tmp 126) (Operand.const (Value.int IntKind.i64 1)) 3)⟩,
  .mt 128 (.t 127),
  .g ⟨(.t 129), (.g (.t 128) true), .mv (.l 5)⟩,
  .g ⟨(.t 130), .yes, .pick (.t 128) (.t 129) (.c (.d (.flat (Value.bool false))))⟩,
  .mt 131 (.t 130),
  .g ⟨(.t 132), (.g (.t 131) true), .mv (.l 6)⟩,
  .g ⟨(.t 133), .yes, .pick (.t 131) (.t 132) (.c (.d (.flat (Value.bool false))))⟩,
  .mt 134 (.t 133),
  .g ⟨(.t 135), (.g (.t 134) true), .mv (.l 7)⟩,
  .g ⟨(.t 136), .yes, .pick (.t 134) (.t 135) (.c (.d (.flat (Value.bool false))))⟩,
  .g ⟨(.l 2), .yes, .mv (.t 136)⟩])
 .ret)
 (.seq (.reg [.g ⟨(.t 138), .yes, .bin BinOp.eql (.l 37) (.c (.d (.flat (Value.int IntKind.i64 6)))) (Op.binOp BinOp.eql 3 (Operand.tmp 37) (Operand.const (Value.int IntKind.i64 6)) 3)⟩,
  .g ⟨(.l 137), .yes, .mv (.t 138)⟩])
 (.cond (.l 137) (.seq (.reg [.mt 139 (.l 3),
  .g ⟨(.t 140), .yes, .bin BinOp.leq (.t 139) (.c (.d (.flat (Value.int IntKind.i64 1)))) (Op.binOp BinOp.leq 3 (Operand.tmp 139) (Operand.const (Value.int IntKind.i64 1)) 3)⟩,
  .mt 141 (.t 140),
  .g ⟨(.t 142), (.g (.t 141) true), .mv (.l 4)⟩,
  .g ⟨(.t 143), .yes, .pick (.t 141) (.t 142) (.c (.d (.flat (Value.bool false))))⟩,
  .mt 144 (.t 143),
  .g ⟨(.t 145), (.g (.t 144) true), .mv (.l 5)⟩,
  .g ⟨(.t 146), .yes, .pick (.t 144) (.t 145) (.c (.d (.flat (Value.bool false))))⟩,
  .mt 147 (.t 146),
  .g ⟨(.t 148), (.g (.t 147) true), .mv (.l 6)⟩,
  .g ⟨(.t 149), .yes, .pick (.t 147) (.t 148) (.c (.d (.flat (Value.bool false))))⟩,
  .mt 150 (.t 149),
  .g ⟨(.t 151), (.g (.t 150) true), .mv (.l 7)⟩,
  .g ⟨(.t 152), .yes, .pick (.t 150) (.t 151) (.c (.d (.flat (Value.bool false))))⟩,
  .g ⟨(.l 2), .yes, .mv (.t 152)⟩])
 .ret)
 (.seq (.seq (.reg [.g ⟨(.t 154), .yes, .bin BinOp.eql (.l 37) (.c (.d (.flat (Value.int IntKind.i64 7)))) (Op.binOp BinOp.eql 3 (Operand.tmp 37) (Operand.const (Value.int IntKind.i64 7)) 3)⟩,
  .g ⟨(.l 153), .yes, .mv (.t 154)⟩])
 (.cond (.l 153) .skip
 (.reg [.g ⟨(.t 155), .yes, .bin BinOp.eql (.l 37) (.c (.d (.flat (Value.int IntKind.i64 9)))) (Op.binOp BinOp.eql 3 (Operand.tmp 37) (Operand.const (Value.int IntKind.i64 9)) 3)⟩,
  .g ⟨(.l 153), .yes, .mv (.t 155)⟩])))
 (.cond (.l 153) (.seq (.reg [.mt 156 (.l 3),
  .g ⟨(.t 157), .yes, .bin BinOp.eql (.t 156) (.c (.d (.flat (Value.int IntKind.i64 1)))) (Op.binOp BinOp.eql 3 (Operand.tmp 156) (Operand.const (Value.int IntKind.i64 1)) 3)⟩,
  .mt 158 (.t 157),
  .g ⟨(.t 159), (.g (.t 158) true), .mv (.l 4)⟩,
  .g ⟨(.t 160), .yes, .pick (.t 158) (.t 159) (.c (.d (.flat (Value.bool false))))⟩,
  .mt 161 (.t 160),
  .g ⟨(.t 162), (.g (.t 161) true), .mv (.l 5)⟩,
  .g ⟨(.t 163), .yes, .pick (.t 161) (.t 162) (.c (.d (.flat (Value.bool false))))⟩,
  .mt 164 (.t 163),
  .g ⟨(.t 165), (.g (.t 164) true), .mv (.l 6)⟩,
  .g ⟨(.t 166), .yes, .pick (.t 164) (.t 165) (.c (.d (.flat (Value.bool false))))⟩,
  .mt 167 (.t 166),
  .g ⟨(.t 168), (.g (.t 167) true), .mv (.l 7)⟩,
  .g ⟨(.t 169), .yes, .pick (.t 167) (.t 168) (.c (.d (.flat (Value.bool false))))⟩,
  .g ⟨(.l 2), .yes, .mv (.t 169)⟩])
 .ret)
 (.seq (.reg [.g ⟨(.t 171), .yes, .bin BinOp.eql (.l 37) (.c (.d (.flat (Value.int IntKind.i64 8)))) (Op.binOp BinOp.eql 3 (Operand.tmp 37) (Operand.const (Value.int IntKind.i64 8)) 3)⟩,
  .g ⟨(.l 170), .yes, .mv (.t 171)⟩])
 (.cond (.l 170) (.seq (.reg [.mt 172 (.l 3),
  .g ⟨(.t 173), .yes, .bin BinOp.eql (.t 172) (.c (.d (.flat (Value.int IntKind.i64 1)))) (Op.binOp BinOp.eql 3 (Operand.tmp 172) (Operand.const (Value.int IntKind.i64 1)) 3)⟩,
  .mt 174 (.t 173),
  .g ⟨(.t 175), (.g (.t 174) true), .mv (.l 4)⟩,
  .g ⟨(.t 176), .yes, .pick (.t 174) (.t 175) (.c (.d (.flat (Value.bool false))))⟩,
  .mt 177 (.t 176),
  .g ⟨(.t 178), (.g (.t 177) true), .mv (.l 5)⟩,
  .g ⟨(.t 179), .yes, .pick (.t 177) (.t 178) (.c (.d (.flat (Value.bool false))))⟩,
  .mt 180 (.t 179),
  .g ⟨(.t 181), (.g (.t 180) true), .mv (.l 6)⟩,
  .g ⟨(.t 182), .yes, .pick (.t 180) (.t 181) (.c (.d (.flat (Value.bool false))))⟩,
  .mt 183 (.t 182),
  .g ⟨(.t 184), (.g (.t 183) true), .fa 2 (.l 1)⟩,
  .g ⟨(.t 185), (.g (.t 183) true), .ld false 1 (.t 184)⟩,
  .g ⟨(.t 186), (.g (.t 183) true), .bin BinOp.eql (.t 185) (.c (.d (.flat (Value.string ⟨#[]⟩)))) (Op.binOp BinOp.eql 9 (Operand.tmp 185) (Operand.const (Value.string ⟨#[]⟩)) 9)⟩,
  .g ⟨(.t 187), .yes, .pick (.t 183) (.t 186) (.c (.d (.flat (Value.bool false))))⟩,
  .mt 188 (.t 187),
  .g ⟨(.t 189), (.g (.t 188) true), .fa 3 (.l 1)⟩,
  .g ⟨(.t 190), (.g (.t 188) true), .ld false 1 (.t 189)⟩,
  .g ⟨(.t 191), (.g (.t 188) true), .bin BinOp.eql (.t 190) (.c (.d (.flat (Value.string ⟨#[]⟩)))) (Op.binOp BinOp.eql 9 (Operand.tmp 190) (Operand.const (Value.string ⟨#[]⟩)) 9)⟩,
  .g ⟨(.t 192), .yes, .pick (.t 188) (.t 191) (.c (.d (.flat (Value.bool false))))⟩,
  .mt 193 (.t 192),
  .g ⟨(.t 194), (.g (.t 193) true), .fa 1 (.l 1)⟩,
  .g ⟨(.t 195), (.g (.t 193) true), .ld false 1 (.t 194)⟩,
  .g ⟨(.t 196), (.g (.t 193) true), .bin BinOp.geq (.t 195) (.c (.d (.flat (Value.int IntKind.i32 0)))) (Op.binOp BinOp.geq 21 (Operand.tmp 195) (Operand.const (Value.int IntKind.i32 0)) 21)⟩,
  .g ⟨(.t 197), .yes, .pick (.t 193) (.t 196) (.c (.d (.flat (Value.bool false))))⟩,
  .mt 198 (.t 197),
  .g ⟨(.t 199), (.g (.t 198) true), .fa 1 (.l 1)⟩,
  .g ⟨(.t 200), (.g (.t 198) true), .ld false 1 (.t 199)⟩,
  .g ⟨(.t 201), (.g (.t 198) true), .bin BinOp.leq (.t 200) (.c (.d (.flat (Value.int IntKind.i32 9999)))) (Op.binOp BinOp.leq 21 (Operand.tmp 200) (Operand.const (Value.int IntKind.i32 9999)) 21)⟩,
  .g ⟨(.t 202), .yes, .pick (.t 198) (.t 201) (.c (.d (.flat (Value.bool false))))⟩,
  .g ⟨(.l 2), .yes, .mv (.t 202)⟩])
 .ret)
 (.seq (.reg [.g ⟨(.t 204), .yes, .bin BinOp.eql (.l 37) (.c (.d (.flat (Value.int IntKind.i64 10)))) (Op.binOp BinOp.eql 3 (Operand.tmp 37) (Operand.const (Value.int IntKind.i64 10)) 3)⟩,
  .g ⟨(.l 203), .yes, .mv (.t 204)⟩])
 (.cond (.l 203) (.seq (.reg [.mt 205 (.l 3),
  .g ⟨(.t 206), .yes, .bin BinOp.eql (.t 205) (.c (.d (.flat (Value.int IntKind.i64 0)))) (Op.binOp BinOp.eql 3 (Operand.tmp 205) (Operand.const (Value.int IntKind.i64 0)) 3)⟩,
  .mt 207 (.t 206),
  .g ⟨(.t 208), (.g (.t 207) true), .fa 2 (.l 1)⟩,
  .g ⟨(.t 209), (.g (.t 207) true), .ld false 1 (.t 208)⟩,
  .g ⟨(.t 210), (.g (.t 207) true), .cs 83 p83 [(.t 209)]⟩,
  .g ⟨(.t 211), .yes, .pick (.t 207) (.t 210) (.c (.d (.flat (Value.bool false))))⟩,
  .mt 212 (.t 211),
  .g ⟨(.t 213), (.g (.t 212) true), .fa 3 (.l 1)⟩,
  .g ⟨(.t 214), (.g (.t 212) true), .ld false 1 (.t 213)⟩,
  .g ⟨(.t 215), (.g (.t 212) true), .cs 85 p85 [(.t 214)]⟩,
  .g ⟨(.t 216), .yes, .pick (.t 212) (.t 215) (.c (.d (.flat (Value.bool false))))⟩,
  .mt 217 (.t 216),
  .g ⟨(.t 218), (.g (.t 217) true), .fa 1 (.l 1)⟩,
  .g ⟨(.t 219), (.g (.t 217) true), .ld false 1 (.t 218)⟩,
  .g ⟨(.t 220), (.g (.t 217) true), .bin BinOp.eql (.t 219) (.c (.d (.flat (Value.int IntKind.i32 0)))) (Op.binOp BinOp.eql 21 (Operand.tmp 219) (Operand.const (Value.int IntKind.i32 0)) 21)⟩,
  .g ⟨(.t 221), .yes, .pick (.t 217) (.t 220) (.c (.d (.flat (Value.bool false))))⟩,
  .g ⟨(.l 2), .yes, .mv (.t 221)⟩])
 .ret)
 (.seq (.reg [.g ⟨(.t 223), .yes, .bin BinOp.eql (.l 37) (.c (.d (.flat (Value.int IntKind.i64 11)))) (Op.binOp BinOp.eql 3 (Operand.tmp 37) (Operand.const (Value.int IntKind.i64 11)) 3)⟩,
  .g ⟨(.l 222), .yes, .mv (.t 223)⟩])
 (.cond (.l 222) (.seq (.reg [.mt 224 (.l 4),
  .mt 225 (.t 224),
  .g ⟨(.t 226), (.g (.t 225) true), .mv (.l 5)⟩,
  .g ⟨(.t 227), .yes, .pick (.t 225) (.t 226) (.c (.d (.flat (Value.bool false))))⟩,
  .mt 228 (.t 227),
  .g ⟨(.t 229), (.g (.t 228) true), .mv (.l 6)⟩,
  .g ⟨(.t 230), .yes, .pick (.t 228) (.t 229) (.c (.d (.flat (Value.bool false))))⟩,
  .mt 231 (.t 230),
  .g ⟨(.t 232), (.g (.t 231) true), .mv (.l 7)⟩,
  .g ⟨(.t 233), .yes, .pick (.t 231) (.t 232) (.c (.d (.flat (Value.bool false))))⟩,
  .g ⟨(.l 2), .yes, .mv (.t 233)⟩])
 .ret)
 .skip))))))))))))))))))))))
 (.seq (.reg [.g ⟨(.l 2), .yes, .mv (.c (.d (.flat (Value.bool false))))⟩])
 .ret))))), [(.t 2)]⟩
theorem x139E : EntryOK Tryz.prog mTabs 139 (.fn x139) := ⟨fnT rfl, Tryz.f139, plans 139, keeps 139, 1, Tryz.func139, rfl, by kernel_rfl, by kernel_rfl⟩
def x140 : XF := ⟨[0, 1, 2, 3, 4], [0, 1], (.seq (.reg [.g ⟨(.l 2), .yes, .gen (Op.box 98 (Operand.tmp 0))⟩,
  .g ⟨(.l 3), .yes, .gen (Op.box 98 (Operand.tmp 1))⟩,
  .g ⟨(.l 4), .yes, .mv (.c (.d (.flat (Value.bool false))))⟩])
 (.seq (.reg [.g ⟨(.t 5), .yes, .fa 3 (.l 2)⟩,
  .g ⟨(.t 6), .yes, .ld false 1 (.t 5)⟩,
  .g ⟨(.t 7), .yes, .fa 3 (.l 3)⟩,
  .g ⟨(.t 8), .yes, .ld false 1 (.t 7)⟩,
  .g ⟨(.t 9), .yes, .bin BinOp.eql (.t 6) (.t 8) (Op.binOp BinOp.eql 9 (Operand.tmp 6) (Operand.tmp 8) 9)⟩,
  .mt 10 (.t 9),
  .g ⟨(.t 11), (.g (.t 10) true), .fa 4 (.l 2)⟩,
  .g ⟨(.t 12), (.g (.t 10) true), .ld false 1 (.t 11)⟩,
  .g ⟨(.t 13), (.g (.t 10) true), .fa 4 (.l 3)⟩,
  .g ⟨(.t 14), (.g (.t 10) true), .ld false 1 (.t 13)⟩,
  .g ⟨(.t 15), (.g (.t 10) true), .cs 154 p154 [(.t 12), (.t 14)]⟩,
  .g ⟨(.t 16), .yes, .pick (.t 10) (.t 15) (.c (.d (.flat (Value.bool false))))⟩,
  .g ⟨(.l 4), .yes, .mv (.t 16)⟩])
 .ret)), [(.t 4)]⟩
theorem x140E : EntryOK Tryz.prog mTabs 140 (.fn x140) := ⟨fnT rfl, Tryz.f140, plans 140, keeps 140, 2, Tryz.func140, rfl, by kernel_rfl, by kernel_rfl⟩
def x141 : XF := ⟨[0, 1, 2, 3, 4, 5, 6, 7, 8, 9, 10, 22, 31, 42], [0, 1], (.seq (.reg [.g ⟨(.l 2), .yes, .gen (Op.box 26 (Operand.tmp 0))⟩,
  .g ⟨(.l 3), .yes, .gen (Op.box 44 (Operand.tmp 1))⟩,
  .g ⟨(.l 4), .yes, .gen (Op.alloc 44)⟩,
  .g ⟨(.l 5), .yes, .mv (.c (.d (.flat (Value.bool false))))⟩])
 (.seq (.reg [.g ⟨(.t 12), .yes, .ld true 1 (.l 2)⟩,
  .g ⟨(.t 13), .yes, .ld true 2 (.l 3)⟩,
  .g ⟨(.t 14), .yes, .cs 142 p142 [(.t 12), (.t 13)]⟩,
  .mt 11 (.t 14),
  .g ⟨(.t 15), .yes, .ex (.t 11) 0⟩,
  .g ⟨(.t 16), .yes, .ex (.t 11) 1⟩,
  .g ⟨(.l 6), .yes, .gen (Op.alloc 98)⟩,
  .g ⟨.no, .yes, .st 6 (.l 6) (.t 15)⟩,
  .g ⟨(.l 7), .yes, .mv (.t 16)⟩])
 (.seq (.seq (.reg [.mt 17 (.l 7),
  .g ⟨(.t 18), .yes, .not (.t 17)⟩,
  .mt 19 (.t 18),
  .g ⟨(.t 20), (.g (.t 19) false), .fa 1 (.l 6)⟩,
  .g ⟨(.t 21), (.g (.t 19) false), .ld false 1 (.t 20)⟩,
  .g ⟨(.l 22), .yes, .pick (.t 19) (.c (.d (.flat (Value.bool true)))) (.t 21)⟩])
 (.cond (.l 22) (.seq (.reg [.g ⟨(.t 23), .yes, .gen (Op.build 44 #[])⟩,
  .g ⟨.no, .yes, .st 2 (.l 4) (.t 23)⟩,
  .g ⟨(.l 5), .yes, .mv (.c (.d (.flat (Value.bool false))))⟩])
 .ret)
 .skip))
 (.seq (.reg [.g ⟨(.t 24), .yes, .ld true 1 (.l 2)⟩,
  .g ⟨(.t 25), .yes, .fa 0 (.l 3)⟩,
  .g ⟨(.t 26), .yes, .ld false 1 (.t 25)⟩,
  .g ⟨(.t 27), .yes, .cs 67 p67 [(.t 24), (.t 26)]⟩,
  .g ⟨(.l 8), .yes, .mv (.t 27)⟩])
 (.seq (.seq (.reg [.g ⟨(.l 9), .yes, .mv (.c (.d (.flat (Value.int IntKind.i64 1))))⟩])
 (.block 0 (.loop (some [2, 4, 6, 8, 9]) (.seq (.seq (.reg [.mt 28 (.l 9),
  .mt 29 (.l 8),
  .g ⟨(.t 30), .yes, .lenr (.t 29)⟩,
  .g ⟨(.l 31), .yes, .bin BinOp.lss (.t 28) (.t 30) (Op.binOp BinOp.lss 3 (Operand.tmp 28) (Operand.tmp 30) 3)⟩])
 (.cond (.l 31) .skip
 (.exit 0)))
 (.seq (.block 1 (.seq (.drw [] [.st ⟨true, false, ⟨(.t 34), .yes, .ld true 1 (.l 2)⟩⟩,
  .st ⟨true, false, ⟨(.t 35), .yes, .mv (.l 8)⟩⟩,
  .st ⟨true, false, ⟨(.t 36), .yes, .mv (.l 9)⟩⟩,
  .st ⟨true, false, ⟨(.t 37), .yes, .ia 1 (.t 35) (.t 36)⟩⟩,
  .st ⟨true, false, ⟨(.t 38), .yes, .ld false 1 (.t 37)⟩⟩,
  .st ⟨true, false, ⟨(.t 39), .yes, .ld true 6 (.l 6)⟩⟩,
  .st ⟨false, true, ⟨(.t 40), .yes, .cs 155 p155 [(.t 34), (.t 38), (.t 39)]⟩⟩,
  .st ⟨true, false, ⟨(.l 10), .yes, .mv (.t 40)⟩⟩])
 (.seq (.reg [.mt 41 (.l 10),
  .g ⟨(.l 42), .yes, .bin BinOp.geq (.t 41) (.c (.d (.flat (Value.int IntKind.i64 0)))) (Op.binOp BinOp.geq 3 (Operand.tmp 41) (Operand.const (Value.int IntKind.i64 0)) 3)⟩])
 (.cond (.l 42) (.seq (.reg [.mt 43 (.l 8),
  .mt 44 (.l 9),
  .g ⟨(.t 45), .yes, .ia 1 (.t 43) (.t 44)⟩,
  .g ⟨(.t 46), .yes, .ld false 1 (.t 45)⟩,
  .mt 47 (.l 10),
  .g ⟨(.t 48), .yes, .gen (Op.build 44 #[(0, (Operand.tmp 46)), (1, (Operand.tmp 47))])⟩,
  .g ⟨.no, .yes, .st 2 (.l 4) (.t 48)⟩,
  .g ⟨(.l 5), .yes, .mv (.c (.d (.flat (Value.bool true))))⟩])
 .ret)
 .skip))))
 (.reg [.mt 32 (.l 9),
  .g ⟨(.t 33), .yes, .bin BinOp.add (.t 32) (.c (.d (.flat (Value.int IntKind.i64 1)))) (Op.binOp BinOp.add 3 (Operand.tmp 32) (Operand.const (Value.int IntKind.i64 1)) 3)⟩,
  .g ⟨(.l 9), .yes, .mv (.t 33)⟩]))))))
 (.seq (.reg [.g ⟨(.t 49), .yes, .gen (Op.build 44 #[])⟩,
  .g ⟨.no, .yes, .st 2 (.l 4) (.t 49)⟩,
  .g ⟨(.l 5), .yes, .mv (.c (.d (.flat (Value.bool false))))⟩])
 .ret)))))), [(.c 4 true 2), (.t 5)]⟩
theorem x141E : EntryOK Tryz.prog mTabs 141 (.fn x141) := ⟨fnT rfl, Tryz.f141, plans 141, keeps 141, 2, Tryz.func141, rfl, by kernel_rfl, by kernel_rfl⟩
def x142 : XF := ⟨[0, 1, 2, 3, 4, 5, 6, 21], [0, 1], (.seq (.reg [.g ⟨(.l 2), .yes, .gen (Op.box 26 (Operand.tmp 0))⟩,
  .g ⟨(.l 3), .yes, .gen (Op.box 44 (Operand.tmp 1))⟩,
  .g ⟨(.l 4), .yes, .gen (Op.alloc 98)⟩,
  .g ⟨(.l 5), .yes, .mv (.c (.d (.flat (Value.bool false))))⟩])
 (.seq (.reg [.g ⟨(.t 7), .yes, .ld true 1 (.l 2)⟩,
  .g ⟨(.t 8), .yes, .fa 0 (.l 3)⟩,
  .g ⟨(.t 9), .yes, .ld false 1 (.t 8)⟩,
  .g ⟨(.t 10), .yes, .cs 68 p68 [(.t 7), (.t 9)]⟩,
  .g ⟨(.l 6), .yes, .gen (Op.alloc 37)⟩,
  .g ⟨.no, .yes, .st 4 (.l 6) (.t 10)⟩])
 (.seq (.seq (.reg [.g ⟨(.t 11), .yes, .fa 1 (.l 3)⟩,
  .g ⟨(.t 12), .yes, .ld false 1 (.t 11)⟩,
  .g ⟨(.t 13), .yes, .bin BinOp.lss (.t 12) (.c (.d (.flat (Value.int IntKind.i64 0)))) (Op.binOp BinOp.lss 3 (Operand.tmp 12) (Operand.const (Value.int IntKind.i64 0)) 3)⟩,
  .mt 14 (.t 13),
  .g ⟨(.t 15), (.g (.t 14) false), .fa 1 (.l 3)⟩,
  .g ⟨(.t 16), (.g (.t 14) false), .ld false 1 (.t 15)⟩,
  .g ⟨(.t 17), (.g (.t 14) false), .fa 3 (.l 6)⟩,
  .g ⟨(.t 18), (.g (.t 14) false), .ld false 1 (.t 17)⟩,
  .g ⟨(.t 19), (.g (.t 14) false), .lenr (.t 18)⟩,
  .g ⟨(.t 20), (.g (.t 14) false), .bin BinOp.geq (.t 16) (.t 19) (Op.binOp BinOp.geq 3 (Operand.tmp 16) (Operand.tmp 19) 3)⟩,
  .g ⟨(.l 21), .yes, .pick (.t 14) (.c (.d (.flat (Value.bool true)))) (.t 20)⟩])
 (.cond (.l 21) (.seq (.reg [.g ⟨(.t 22), .yes, .gen (Op.build 98 #[])⟩,
  .g ⟨.no, .yes, .st 6 (.l 4) (.t 22)⟩,
  .g ⟨(.l 5), .yes, .mv (.c (.d (.flat (Value.bool false))))⟩])
 .ret)
 .skip))
 (.seq (.reg [.g ⟨(.t 23), .yes, .fa 3 (.l 6)⟩,
  .g ⟨(.t 24), .yes, .ld false 1 (.t 23)⟩,
  .g ⟨(.t 25), .yes, .fa 1 (.l 3)⟩,
  .g ⟨(.t 26), .yes, .ld false 1 (.t 25)⟩,
  .g ⟨(.t 27), .yes, .ia 6 (.t 24) (.t 26)⟩,
  .g ⟨(.t 28), .yes, .ld true 6 (.t 27)⟩,
  .g ⟨.no, .yes, .st 6 (.l 4) (.t 28)⟩,
  .g ⟨(.l 5), .yes, .mv (.c (.d (.flat (Value.bool true))))⟩])
 .ret)))), [(.c 4 true 6), (.t 5)]⟩
theorem x142E : EntryOK Tryz.prog mTabs 142 (.fn x142) := ⟨fnT rfl, Tryz.f142, plans 142, keeps 142, 2, Tryz.func142, rfl, by kernel_rfl, by kernel_rfl⟩
def x143 : XF := ⟨[0, 1, 2, 3, 4, 5, 6, 8, 9, 10, 11, 12, 13, 14, 15, 20, 26, 28, 35, 38, 46, 48, 51, 58, 69, 112], [0, 1, 2, 3], (.seq (.reg [.g ⟨(.l 4), .yes, .gen (Op.box 26 (Operand.tmp 0))⟩,
  .g ⟨(.l 5), .yes, .gen (Op.box 166 (Operand.tmp 1))⟩,
  .g ⟨(.l 6), .yes, .gen (Op.box 124 (Operand.tmp 2))⟩,
  .g ⟨(.l 8), .yes, .mv (.c (.d (.flat (Value.string ⟨#[]⟩))))⟩,
  .g ⟨(.l 9), .yes, .gen (Op.alloc 44)⟩,
  .g ⟨(.l 10), .yes, .mv (.c (.d (.flat (Value.int IntKind.i64 0))))⟩])
 (.seq (.reg [.g ⟨(.t 17), .yes, .fa 0 (.l 5)⟩,
  .g ⟨(.t 18), .yes, .ld false 1 (.t 17)⟩,
  .g ⟨(.l 11), .yes, .mv (.t 18)⟩])
 (.seq (.seq (.reg [.g ⟨(.t 19), .yes, .fa 0 (.l 6)⟩,
  .g ⟨(.l 20), .yes, .ld false 1 (.t 19)⟩])
 (.block 0 (.seq (.reg [.g ⟨(.t 29), .yes, .bin BinOp.eql (.l 20) (.c (.d (.flat (Value.int IntKind.i64 6)))) (Op.binOp BinOp.eql 3 (Operand.tmp 20) (Operand.const (Value.int IntKind.i64 6)) 3)⟩,
  .g ⟨(.l 28), .yes, .mv (.t 29)⟩])
 (.cond (.l 28) (.seq (.reg [.g ⟨(.t 30), .yes, .ld true 3 (.l 5)⟩,
  .g ⟨(.t 31), .yes, .fa 3 (.l 6)⟩,
  .g ⟨(.t 32), .yes, .ld false 1 (.t 31)⟩,
  .g ⟨(.t 33), .yes, .cs 156 p156 [(.t 30), (.t 32)]⟩,
  .g ⟨(.l 12), .yes, .mv (.t 33)⟩])
 (.seq (.reg [.mt 34 (.l 12),
  .g ⟨(.l 35), .yes, .bin BinOp.neq (.t 34) (.c (.d (.flat (Value.string ⟨#[]⟩)))) (Op.binOp BinOp.neq 9 (Operand.tmp 34) (Operand.const (Value.string ⟨#[]⟩)) 9)⟩])
 (.cond (.l 35) (.seq (.reg [.mt 36 (.l 12),
  .g ⟨(.t 37), .yes, .gen (Op.build 44 #[])⟩,
  .g ⟨(.l 8), .yes, .mv (.t 36)⟩,
  .g ⟨.no, .yes, .st 2 (.l 9) (.t 37)⟩,
  .g ⟨(.l 10), .yes, .mv (.c (.d (.flat (Value.int IntKind.i64 0))))⟩])
 .ret)
 .skip)))
 (.seq (.reg [.g ⟨(.t 39), .yes, .bin BinOp.eql (.l 20) (.c (.d (.flat (Value.int IntKind.i64 7)))) (Op.binOp BinOp.eql 3 (Operand.tmp 20) (Operand.const (Value.int IntKind.i64 7)) 3)⟩,
  .g ⟨(.l 38), .yes, .mv (.t 39)⟩])
 (.cond (.l 38) (.seq (.reg [.mt 40 (.l 3),
  .g ⟨(.t 41), .yes, .ia 1 (.t 40) (.c (.d (.flat (Value.int IntKind.i64 0))))⟩,
  .g ⟨(.t 42), .yes, .ld false 1 (.t 41)⟩,
  .g ⟨(.l 11), .yes, .mv (.t 42)⟩])
 (.seq (.reg [.g ⟨(.t 43), .yes, .ld true 1 (.l 4)⟩,
  .mt 44 (.l 11),
  .g ⟨(.t 45), .yes, .cs 31 p31 [(.t 43), (.t 44)]⟩,
  .g ⟨(.l 46), .yes, .not (.t 45)⟩])
 (.cond (.l 46) (.seq (.reg [.g ⟨(.t 47), .yes, .gen (Op.build 44 #[])⟩,
  .g ⟨(.l 8), .yes, .mv (.c (.d (.flat (Value.string ⟨#[]⟩))))⟩,
  .g ⟨.no, .yes, .st 2 (.l 9) (.t 47)⟩,
  .g ⟨(.l 10), .yes, .mv (.c (.d (.flat (Value.int IntKind.i64 14))))⟩])
 .ret)
 .skip)))
 (.seq (.reg [.g ⟨(.t 49), .yes, .bin BinOp.eql (.l 20) (.c (.d (.flat (Value.int IntKind.i64 8)))) (Op.binOp BinOp.eql 3 (Operand.tmp 20) (Operand.const (Value.int IntKind.i64 8)) 3)⟩,
  .g ⟨(.l 48), .yes, .mv (.t 49)⟩])
 (.cond (.l 48) (.seq (.seq (.reg [.g ⟨(.t 50), .yes, .fa 1 (.l 5)⟩,
  .g ⟨(.l 51), .yes, .ld false 1 (.t 50)⟩])
 (.cond (.l 51) (.seq (.reg [.g ⟨(.t 52), .yes, .gen (Op.build 44 #[])⟩,
  .g ⟨(.l 8), .yes, .mv (.c (.d (.flat (Value.string ⟨#[]⟩))))⟩,
  .g ⟨.no, .yes, .st 2 (.l 9) (.t 52)⟩,
  .g ⟨(.l 10), .yes, .mv (.c (.d (.flat (Value.int IntKind.i64 13))))⟩])
 .ret)
 .skip))
 (.seq (.reg [.g ⟨(.t 53), .yes, .ld true 1 (.l 4)⟩,
  .g ⟨(.t 54), .yes, .fa 0 (.l 5)⟩,
  .g ⟨(.t 55), .yes, .ld false 1 (.t 54)⟩,
  .g ⟨(.t 56), .yes, .cs 96 p96 [(.t 53), (.t 55)]⟩,
  .g ⟨(.l 11), .yes, .mv (.t 56)⟩])
 (.seq (.reg [.mt 57 (.l 11),
  .g ⟨(.l 58), .yes, .bin BinOp.eql (.t 57) (.c (.d (.flat (Value.string ⟨#[]⟩)))) (Op.binOp BinOp.eql 9 (Operand.tmp 57) (Operand.const (Value.string ⟨#[]⟩)) 9)⟩])
 (.cond (.l 58) (.seq (.reg [.g ⟨(.t 59), .yes, .gen (Op.build 44 #[])⟩,
  .g ⟨(.l 8), .yes, .mv (.c (.d (.flat (Value.string ⟨#[]⟩))))⟩,
  .g ⟨.no, .yes, .st 2 (.l 9) (.t 59)⟩,
  .g ⟨(.l 10), .yes, .mv (.c (.d (.flat (Value.int IntKind.i64 7))))⟩])
 .ret)
 .skip))))
 (.seq (.reg [.g ⟨(.t 21), .yes, .fa 4 (.l 6)⟩,
  .g ⟨(.t 22), .yes, .ld false 1 (.t 21)⟩,
  .g ⟨(.l 11), .yes, .mv (.t 22)⟩])
 (.seq (.reg [.g ⟨(.t 23), .yes, .ld true 1 (.l 4)⟩,
  .mt 24 (.l 11),
  .g ⟨(.t 25), .yes, .cs 31 p31 [(.t 23), (.t 24)]⟩,
  .g ⟨(.l 26), .yes, .not (.t 25)⟩])
 (.cond (.l 26) (.seq (.reg [.g ⟨(.t 27), .yes, .gen (Op.build 44 #[])⟩,
  .g ⟨(.l 8), .yes, .mv (.c (.d (.flat (Value.string ⟨#[]⟩))))⟩,
  .g ⟨.no, .yes, .st 2 (.l 9) (.t 27)⟩,
  .g ⟨(.l 10), .yes, .mv (.c (.d (.flat (Value.int IntKind.i64 7))))⟩])
 .ret)
 .skip)))))))))))
 (.seq (.reg [.g ⟨(.t 61), .yes, .ld true 1 (.l 4)⟩,
  .mt 62 (.l 11),
  .g ⟨(.t 63), .yes, .fa 3 (.l 6)⟩,
  .g ⟨(.t 64), .yes, .ld false 1 (.t 63)⟩,
  .g ⟨(.t 65), .yes, .cs 157 p157 [(.t 61), (.t 62), (.t 64)]⟩,
  .mt 60 (.t 65),
  .g ⟨(.t 66), .yes, .ex (.t 60) 0⟩,
  .g ⟨(.t 67), .yes, .ex (.t 60) 1⟩,
  .g ⟨(.l 13), .yes, .gen (Op.alloc 44)⟩,
  .g ⟨.no, .yes, .st 2 (.l 13) (.t 66)⟩,
  .g ⟨(.l 14), .yes, .mv (.t 67)⟩])
 (.seq (.seq (.reg [.mt 68 (.l 14),
  .g ⟨(.l 69), .yes, .not (.t 68)⟩])
 (.cond (.l 69) (.seq (.reg [.g ⟨(.t 70), .yes, .gen (Op.build 44 #[])⟩,
  .g ⟨(.l 8), .yes, .mv (.c (.d (.flat (Value.string ⟨#[]⟩))))⟩,
  .g ⟨.no, .yes, .st 2 (.l 9) (.t 70)⟩,
  .g ⟨(.l 10), .yes, .mv (.c (.d (.flat (Value.int IntKind.i64 10))))⟩])
 .ret)
 .skip))
 (.seq (.reg [.g ⟨(.t 72), .yes, .ld true 1 (.l 4)⟩,
  .g ⟨(.t 73), .yes, .ld true 2 (.l 13)⟩,
  .g ⟨(.t 74), .yes, .cs 33 p33 [(.t 72), (.t 73)]⟩,
  .mt 71 (.t 74),
  .g ⟨(.t 75), .yes, .ex (.t 71) 0⟩,
  .g ⟨(.t 76), .yes, .ex (.t 71) 1⟩,
  .g ⟨(.l 15), .yes, .gen (Op.alloc 76)⟩,
  .g ⟨.no, .yes, .st 4 (.l 15) (.t 75)⟩,
  .mt 16 (.t 76)])
 (.seq (.seq (.reg [.g ⟨(.t 77), .yes, .fa 0 (.l 6)⟩,
  .g ⟨(.t 78), .yes, .ld false 1 (.t 77)⟩,
  .g ⟨(.t 79), .yes, .bin BinOp.eql (.t 78) (.c (.d (.flat (Value.int IntKind.i64 6)))) (Op.binOp BinOp.eql 3 (Operand.tmp 78) (Operand.const (Value.int IntKind.i64 6)) 3)⟩,
  .mt 80 (.t 79),
  .g ⟨(.t 81), (.g (.t 80) true), .fa 1 (.l 5)⟩,
  .g ⟨(.t 82), (.g (.t 80) true), .ld false 1 (.t 81)⟩,
  .g ⟨(.t 83), .yes, .pick (.t 80) (.t 82) (.c (.d (.flat (Value.bool false))))⟩,
  .mt 84 (.t 83),
  .g ⟨(.t 85), (.g (.t 84) true), .fa 0 (.l 15)⟩,
  .g ⟨(.t 86), (.g (.t 84) true), .ld false 1 (.t 85)⟩,
  .g ⟨(.t 87), (.g (.t 84) true), .not (.t 86)⟩,
  .g ⟨(.t 88), .yes, .pick (.t 84) (.t 87) (.c (.d (.flat (Value.bool false))))⟩,
  .mt 89 (.t 88),
  .g ⟨(.t 90), (.g (.t 89) false), .fa 0 (.l 6)⟩,
  .g ⟨(.t 91), (.g (.t 89) false), .ld false 1 (.t 90)⟩,
  .g ⟨(.t 92), (.g (.t 89) false), .bin BinOp.eql (.t 91) (.c (.d (.flat (Value.int IntKind.i64 7)))) (Op.binOp BinOp.eql 3 (Operand.tmp 91) (Operand.const (Value.int IntKind.i64 7)) 3)⟩,
  .g ⟨(.t 93), (.g (.t 89) false), .mv (.t 92)⟩,
  .g ⟨(.t 94), (.g (.t 93) false), .fa 0 (.l 6)⟩,
  .g ⟨(.t 95), (.g (.t 93) false), .ld false 1 (.t 94)⟩,
  .g ⟨(.t 96), (.g (.t 93) false), .bin BinOp.eql (.t 95) (.c (.d (.flat (Value.int IntKind.i64 8)))) (Op.binOp BinOp.eql 3 (Operand.tmp 95) (Operand.const (Value.int IntKind.i64 8)) 3)⟩,
  .g ⟨(.t 97), (.g (.t 89) false), .pick (.t 93) (.c (.d (.flat (Value.bool true)))) (.t 96)⟩,
  .g ⟨(.t 98), (.g (.t 89) false), .mv (.t 97)⟩,
  .g ⟨(.t 99), (.g (.t 98) true), .fa 0 (.l 15)⟩,
  .g ⟨(.t 100), (.g (.t 98) true), .ld false 1 (.t 99)⟩,
  .g ⟨(.t 101), (.g (.t 89) false), .pick (.t 98) (.t 100) (.c (.d (.flat (Value.bool false))))⟩,
  .g ⟨(.t 102), .yes, .pick (.t 89) (.c (.d (.flat (Value.bool true)))) (.t 101)⟩,
  .mt 103 (.t 102),
  .g ⟨(.t 104), (.g (.t 103) false), .fa 0 (.l 6)⟩,
  .g ⟨(.t 105), (.g (.t 103) false), .ld false 1 (.t 104)⟩,
  .g ⟨(.t 106), (.g (.t 103) false), .bin BinOp.eql (.t 105) (.c (.d (.flat (Value.int IntKind.i64 9)))) (Op.binOp BinOp.eql 3 (Operand.tmp 105) (Operand.const (Value.int IntKind.i64 9)) 3)⟩,
  .g ⟨(.t 107), (.g (.t 103) false), .mv (.t 106)⟩,
  .g ⟨(.t 108), (.g (.t 107) true), .fa 0 (.l 15)⟩,
  .g ⟨(.t 109), (.g (.t 107) true), .ld false 1 (.t 108)⟩,
  .g ⟨(.t 110), (.g (.t 107) true), .not (.t 109)⟩,
  .g ⟨(.t 111), (.g (.t 103) false), .pick (.t 107) (.t 110) (.c (.d (.flat (Value.bool false))))⟩,
  .g ⟨(.l 112), .yes, .pick (.t 103) (.c (.d (.flat (Value.bool true)))) (.t 111)⟩])
 (.cond (.l 112) (.seq (.reg [.g ⟨(.t 113), .yes, .gen (Op.build 44 #[])⟩,
  .g ⟨(.l 8), .yes, .mv (.c (.d (.flat (Value.string ⟨#[]⟩))))⟩,
  .g ⟨.no, .yes, .st 2 (.l 9) (.t 113)⟩,
  .g ⟨(.l 10), .yes, .mv (.c (.d (.flat (Value.int IntKind.i64 13))))⟩])
 .ret)
 .skip))
 (.seq (.drw [] [.st ⟨true, false, ⟨(.t 114), .yes, .fa 1 (.l 15)⟩⟩,
  .st ⟨true, false, ⟨(.t 115), .yes, .ld false 1 (.t 114)⟩⟩,
  .st ⟨true, false, ⟨(.t 116), .yes, .ld true 2 (.l 13)⟩⟩,
  .st ⟨true, false, ⟨(.l 8), .yes, .mv (.t 115)⟩⟩,
  .st ⟨false, true, ⟨.no, .yes, .st 2 (.l 9) (.t 116)⟩⟩,
  .st ⟨true, false, ⟨(.l 10), .yes, .mv (.c (.d (.flat (Value.int IntKind.i64 0))))⟩⟩])
 .ret)))))))), [(.t 8), (.c 9 true 2), (.t 10)]⟩
theorem x143E : EntryOK Tryz.prog mTabs 143 (.fn x143) := ⟨fnT rfl, Tryz.f143, plans 143, keeps 143, 4, Tryz.func143, rfl, by kernel_rfl, by kernel_rfl⟩
def x144 : XF := ⟨[0, 1, 2, 3, 4, 5, 6, 8, 9, 10, 11, 12, 13, 14, 15, 16, 17, 23, 24, 34, 36, 39, 46, 48, 56, 59, 63, 84, 128], [0, 1, 2, 3], (.seq (.reg [.g ⟨(.l 4), .yes, .gen (Op.box 26 (Operand.tmp 0))⟩,
  .g ⟨(.l 5), .yes, .gen (Op.box 166 (Operand.tmp 1))⟩,
  .g ⟨(.l 6), .yes, .gen (Op.box 124 (Operand.tmp 2))⟩,
  .g ⟨(.l 8), .yes, .mv (.c (.d (.flat (Value.string ⟨#[]⟩))))⟩,
  .g ⟨(.l 9), .yes, .gen (Op.alloc 44)⟩,
  .g ⟨(.l 10), .yes, .mv (.c (.d (.flat (Value.int IntKind.i64 0))))⟩])
 (.seq (.reg [.g ⟨(.t 19), .yes, .fa 0 (.l 5)⟩,
  .g ⟨(.t 20), .yes, .ld false 1 (.t 19)⟩,
  .mt 21 (.l 3),
  .g ⟨(.l 11), .yes, .mv (.t 20)⟩,
  .g ⟨(.l 12), .yes, .mv (.t 21)⟩])
 (.seq (.seq (.reg [.g ⟨(.t 22), .yes, .fa 0 (.l 6)⟩,
  .g ⟨(.l 23), .yes, .ld false 1 (.t 22)⟩])
 (.block 0 (.seq (.reg [.g ⟨(.t 25), .yes, .bin BinOp.eql (.l 23) (.c (.d (.flat (Value.int IntKind.i64 10)))) (Op.binOp BinOp.eql 3 (Operand.tmp 23) (Operand.const (Value.int IntKind.i64 10)) 3)⟩,
  .g ⟨(.l 24), .yes, .mv (.t 25)⟩])
 (.cond (.l 24) (.seq (.drw [] [.st ⟨true, false, ⟨(.t 26), .yes, .mv (.l 3)⟩⟩,
  .st ⟨true, false, ⟨(.t 27), .yes, .ia 1 (.t 26) (.c (.d (.flat (Value.int IntKind.i64 0))))⟩⟩,
  .st ⟨true, false, ⟨(.t 28), .yes, .ld false 1 (.t 27)⟩⟩,
  .st ⟨true, false, ⟨(.t 29), .yes, .mv (.l 3)⟩⟩,
  .st ⟨true, false, ⟨(.t 30), .yes, .gen (Op.slice 33 (Operand.tmp 29) (some (Operand.const (Value.int IntKind.i64 1))) none none)⟩⟩,
  .st ⟨true, false, ⟨(.l 11), .yes, .mv (.t 28)⟩⟩,
  .st ⟨true, false, ⟨(.l 12), .yes, .mv (.t 30)⟩⟩])
 (.seq (.reg [.g ⟨(.t 31), .yes, .ld true 1 (.l 4)⟩,
  .mt 32 (.l 11),
  .g ⟨(.t 33), .yes, .cs 31 p31 [(.t 31), (.t 32)]⟩,
  .g ⟨(.l 34), .yes, .not (.t 33)⟩])
 (.cond (.l 34) (.seq (.reg [.g ⟨(.t 35), .yes, .gen (Op.build 44 #[])⟩,
  .g ⟨(.l 8), .yes, .mv (.c (.d (.flat (Value.string ⟨#[]⟩))))⟩,
  .g ⟨.no, .yes, .st 2 (.l 9) (.t 35)⟩,
  .g ⟨(.l 10), .yes, .mv (.c (.d (.flat (Value.int IntKind.i64 14))))⟩])
 .ret)
 .skip)))
 (.seq (.reg [.g ⟨(.t 37), .yes, .bin BinOp.eql (.l 23) (.c (.d (.flat (Value.int IntKind.i64 12)))) (Op.binOp BinOp.eql 3 (Operand.tmp 23) (Operand.const (Value.int IntKind.i64 12)) 3)⟩,
  .g ⟨(.l 36), .yes, .mv (.t 37)⟩])
 (.cond (.l 36) (.seq (.seq (.reg [.g ⟨(.t 38), .yes, .fa 1 (.l 5)⟩,
  .g ⟨(.l 39), .yes, .ld false 1 (.t 38)⟩])
 (.cond (.l 39) (.seq (.reg [.g ⟨(.t 40), .yes, .gen (Op.build 44 #[])⟩,
  .g ⟨(.l 8), .yes, .mv (.c (.d (.flat (Value.string ⟨#[]⟩))))⟩,
  .g ⟨.no, .yes, .st 2 (.l 9) (.t 40)⟩,
  .g ⟨(.l 10), .yes, .mv (.c (.d (.flat (Value.int IntKind.i64 13))))⟩])
 .ret)
 .skip))
 (.seq (.reg [.g ⟨(.t 41), .yes, .ld true 1 (.l 4)⟩,
  .g ⟨(.t 42), .yes, .fa 0 (.l 5)⟩,
  .g ⟨(.t 43), .yes, .ld false 1 (.t 42)⟩,
  .g ⟨(.t 44), .yes, .cs 96 p96 [(.t 41), (.t 43)]⟩,
  .g ⟨(.l 11), .yes, .mv (.t 44)⟩])
 (.seq (.reg [.mt 45 (.l 11),
  .g ⟨(.l 46), .yes, .bin BinOp.eql (.t 45) (.c (.d (.flat (Value.string ⟨#[]⟩)))) (Op.binOp BinOp.eql 9 (Operand.tmp 45) (Operand.const (Value.string ⟨#[]⟩)) 9)⟩])
 (.cond (.l 46) (.seq (.reg [.g ⟨(.t 47), .yes, .gen (Op.build 44 #[])⟩,
  .g ⟨(.l 8), .yes, .mv (.c (.d (.flat (Value.string ⟨#[]⟩))))⟩,
  .g ⟨.no, .yes, .st 2 (.l 9) (.t 47)⟩,
  .g ⟨(.l 10), .yes, .mv (.c (.d (.flat (Value.int IntKind.i64 7))))⟩])
 .ret)
 .skip))))
 (.seq (.seq (.reg [.g ⟨(.t 49), .yes, .bin BinOp.eql (.l 23) (.c (.d (.flat (Value.int IntKind.i64 13)))) (Op.binOp BinOp.eql 3 (Operand.tmp 23) (Operand.const (Value.int IntKind.i64 13)) 3)⟩,
  .g ⟨(.l 48), .yes, .mv (.t 49)⟩])
 (.cond (.l 48) .skip
 (.reg [.g ⟨(.t 50), .yes, .bin BinOp.eql (.l 23) (.c (.d (.flat (Value.int IntKind.i64 14)))) (Op.binOp BinOp.eql 3 (Operand.tmp 23) (Operand.const (Value.int IntKind.i64 14)) 3)⟩,
  .g ⟨(.l 48), .yes, .mv (.t 50)⟩])))
 (.cond (.l 48) (.seq (.reg [.g ⟨(.t 51), .yes, .fa 4 (.l 6)⟩,
  .g ⟨(.t 52), .yes, .ld false 1 (.t 51)⟩,
  .g ⟨(.l 11), .yes, .mv (.t 52)⟩])
 (.seq (.reg [.g ⟨(.t 53), .yes, .ld true 1 (.l 4)⟩,
  .mt 54 (.l 11),
  .g ⟨(.t 55), .yes, .cs 31 p31 [(.t 53), (.t 54)]⟩,
  .g ⟨(.l 56), .yes, .not (.t 55)⟩])
 (.cond (.l 56) (.seq (.reg [.g ⟨(.t 57), .yes, .gen (Op.build 44 #[])⟩,
  .g ⟨(.l 8), .yes, .mv (.c (.d (.flat (Value.string ⟨#[]⟩))))⟩,
  .g ⟨.no, .yes, .st 2 (.l 9) (.t 57)⟩,
  .g ⟨(.l 10), .yes, .mv (.c (.d (.flat (Value.int IntKind.i64 7))))⟩])
 .ret)
 .skip)))
 .skip))))))))
 (.seq (.seq (.reg [.mt 58 (.l 12),
  .g ⟨(.l 59), .yes, .cs 95 p95 [(.t 58), (.c (.d (.flat (Value.string ⟨#[118, 111, 105, 100]⟩))))]⟩])
 (.cond (.l 59) (.seq (.reg [.g ⟨(.t 60), .yes, .gen (Op.build 44 #[])⟩,
  .g ⟨(.l 8), .yes, .mv (.c (.d (.flat (Value.string ⟨#[]⟩))))⟩,
  .g ⟨.no, .yes, .st 2 (.l 9) (.t 60)⟩,
  .g ⟨(.l 10), .yes, .mv (.c (.d (.flat (Value.int IntKind.i64 14))))⟩])
 .ret)
 .skip))
 (.seq (.seq (.reg [.g ⟨(.t 61), .yes, .fa 0 (.l 6)⟩,
  .g ⟨(.t 62), .yes, .ld false 1 (.t 61)⟩,
  .g ⟨(.l 63), .yes, .bin BinOp.eql (.t 62) (.c (.d (.flat (Value.int IntKind.i64 14)))) (Op.binOp BinOp.eql 3 (Operand.tmp 62) (Operand.const (Value.int IntKind.i64 14)) 3)⟩])
 (.cond (.l 63) (.seq (.reg [.g ⟨(.t 65), .yes, .ld true 1 (.l 4)⟩,
  .mt 66 (.l 11),
  .mt 67 (.l 12),
  .g ⟨(.t 68), .yes, .cs 124 p124 [(.t 65), (.t 66), (.t 67)]⟩,
  .mt 64 (.t 68),
  .g ⟨(.t 69), .yes, .ex (.t 64) 0⟩,
  .g ⟨(.t 70), .yes, .ex (.t 64) 1⟩,
  .g ⟨(.l 13), .yes, .gen (Op.alloc 44)⟩,
  .g ⟨.no, .yes, .st 2 (.l 13) (.t 69)⟩,
  .g ⟨(.l 14), .yes, .mv (.t 70)⟩])
 (.seq (.drw [(.l 9)] [.st ⟨true, false, ⟨(.t 71), .yes, .mv (.l 11)⟩⟩,
  .st ⟨true, false, ⟨(.t 72), .yes, .ld true 2 (.l 13)⟩⟩,
  .st ⟨true, false, ⟨(.t 73), .yes, .mv (.l 14)⟩⟩,
  .st ⟨true, false, ⟨(.l 8), .yes, .mv (.t 71)⟩⟩,
  .st ⟨false, false, ⟨.no, .yes, .st 2 (.l 9) (.t 72)⟩⟩,
  .st ⟨true, false, ⟨(.l 10), .yes, .mv (.t 73)⟩⟩])
 .ret))
 .skip))
 (.seq (.reg [.g ⟨(.t 75), .yes, .ld true 1 (.l 4)⟩,
  .mt 76 (.l 11),
  .g ⟨(.t 77), .yes, .fa 3 (.l 6)⟩,
  .g ⟨(.t 78), .yes, .ld false 1 (.t 77)⟩,
  .mt 79 (.l 12),
  .g ⟨(.t 80), .yes, .cs 158 p158 [(.t 75), (.t 76), (.t 78), (.t 79)]⟩,
  .mt 74 (.t 80),
  .g ⟨(.t 81), .yes, .ex (.t 74) 0⟩,
  .g ⟨(.t 82), .yes, .ex (.t 74) 1⟩,
  .g ⟨(.l 15), .yes, .gen (Op.alloc 44)⟩,
  .g ⟨.no, .yes, .st 2 (.l 15) (.t 81)⟩,
  .g ⟨(.l 16), .yes, .mv (.t 82)⟩])
 (.seq (.seq (.reg [.mt 83 (.l 16),
  .g ⟨(.l 84), .yes, .bin BinOp.neq (.t 83) (.c (.d (.flat (Value.int IntKind.i64 0)))) (Op.binOp BinOp.neq 3 (Operand.tmp 83) (Operand.const (Value.int IntKind.i64 0)) 3)⟩])
 (.cond (.l 84) (.seq (.reg [.g ⟨(.t 85), .yes, .gen (Op.build 44 #[])⟩,
  .mt 86 (.l 16),
  .g ⟨(.l 8), .yes, .mv (.c (.d (.flat (Value.string ⟨#[]⟩))))⟩,
  .g ⟨.no, .yes, .st 2 (.l 9) (.t 85)⟩,
  .g ⟨(.l 10), .yes, .mv (.t 86)⟩])
 .ret)
 .skip))
 (.seq (.reg [.g ⟨(.t 88), .yes, .ld true 1 (.l 4)⟩,
  .g ⟨(.t 89), .yes, .ld true 2 (.l 15)⟩,
  .g ⟨(.t 90), .yes, .cs 142 p142 [(.t 88), (.t 89)]⟩,
  .mt 87 (.t 90),
  .g ⟨(.t 91), .yes, .ex (.t 87) 0⟩,
  .g ⟨(.t 92), .yes, .ex (.t 87) 1⟩,
  .g ⟨(.l 17), .yes, .gen (Op.alloc 98)⟩,
  .g ⟨.no, .yes, .st 6 (.l 17) (.t 91)⟩,
  .mt 18 (.t 92)])
 (.seq (.seq (.reg [.g ⟨(.t 93), .yes, .fa 0 (.l 6)⟩,
  .g ⟨(.t 94), .yes, .ld false 1 (.t 93)⟩,
  .g ⟨(.t 95), .yes, .bin BinOp.eql (.t 94) (.c (.d (.flat (Value.int IntKind.i64 10)))) (Op.binOp BinOp.eql 3 (Operand.tmp 94) (Operand.const (Value.int IntKind.i64 10)) 3)⟩,
  .mt 96 (.t 95),
  .g ⟨(.t 97), (.g (.t 96) false), .fa 0 (.l 6)⟩,
  .g ⟨(.t 98), (.g (.t 96) false), .ld false 1 (.t 97)⟩,
  .g ⟨(.t 99), (.g (.t 96) false), .bin BinOp.eql (.t 98) (.c (.d (.flat (Value.int IntKind.i64 12)))) (Op.binOp BinOp.eql 3 (Operand.tmp 98) (Operand.const (Value.int IntKind.i64 12)) 3)⟩,
  .g ⟨(.t 100), .yes, .pick (.t 96) (.c (.d (.flat (Value.bool true)))) (.t 99)⟩,
  .mt 101 (.t 100),
  .g ⟨(.t 102), (.g (.t 101) true), .fa 0 (.l 17)⟩,
  .g ⟨(.t 103), (.g (.t 101) true), .ld false 1 (.t 102)⟩,
  .g ⟨(.t 104), .yes, .pick (.t 101) (.t 103) (.c (.d (.flat (Value.bool false))))⟩,
  .mt 105 (.t 104),
  .g ⟨(.t 106), (.g (.t 105) false), .fa 0 (.l 6)⟩,
  .g ⟨(.t 107), (.g (.t 105) false), .ld false 1 (.t 106)⟩,
  .g ⟨(.t 108), (.g (.t 105) false), .bin BinOp.eql (.t 107) (.c (.d (.flat (Value.int IntKind.i64 11)))) (Op.binOp BinOp.eql 3 (Operand.tmp 107) (Operand.const (Value.int IntKind.i64 11)) 3)⟩,
  .g ⟨(.t 109), (.g (.t 105) false), .mv (.t 108)⟩,
  .g ⟨(.t 110), (.g (.t 109) true), .fa 1 (.l 5)⟩,
  .g ⟨(.t 111), (.g (.t 109) true), .ld false 1 (.t 110)⟩,
  .g ⟨(.t 112), (.g (.t 105) false), .pick (.t 109) (.t 111) (.c (.d (.flat (Value.bool false))))⟩,
  .g ⟨(.t 113), (.g (.t 105) false), .mv (.t 112)⟩,
  .g ⟨(.t 114), (.g (.t 113) true), .fa 0 (.l 17)⟩,
  .g ⟨(.t 115), (.g (.t 113) true), .ld false 1 (.t 114)⟩,
  .g ⟨(.t 116), (.g (.t 113) true), .not (.t 115)⟩,
  .g ⟨(.t 117), (.g (.t 105) false), .pick (.t 113) (.t 116) (.c (.d (.flat (Value.bool false))))⟩,
  .g ⟨(.t 118), .yes, .pick (.t 105) (.c (.d (.flat (Value.bool true)))) (.t 117)⟩,
  .mt 119 (.t 118),
  .g ⟨(.t 120), (.g (.t 119) false), .fa 0 (.l 6)⟩,
  .g ⟨(.t 121), (.g (.t 119) false), .ld false 1 (.t 120)⟩,
  .g ⟨(.t 122), (.g (.t 119) false), .bin BinOp.eql (.t 121) (.c (.d (.flat (Value.int IntKind.i64 13)))) (Op.binOp BinOp.eql 3 (Operand.tmp 121) (Operand.const (Value.int IntKind.i64 13)) 3)⟩,
  .g ⟨(.t 123), (.g (.t 119) false), .mv (.t 122)⟩,
  .g ⟨(.t 124), (.g (.t 123) true), .fa 0 (.l 17)⟩,
  .g ⟨(.t 125), (.g (.t 123) true), .ld false 1 (.t 124)⟩,
  .g ⟨(.t 126), (.g (.t 123) true), .not (.t 125)⟩,
  .g ⟨(.t 127), (.g (.t 119) false), .pick (.t 123) (.t 126) (.c (.d (.flat (Value.bool false))))⟩,
  .g ⟨(.l 128), .yes, .pick (.t 119) (.c (.d (.flat (Value.bool true)))) (.t 127)⟩])
 (.cond (.l 128) (.seq (.reg [.g ⟨(.t 129), .yes, .gen (Op.build 44 #[])⟩,
  .g ⟨(.l 8), .yes, .mv (.c (.d (.flat (Value.string ⟨#[]⟩))))⟩,
  .g ⟨.no, .yes, .st 2 (.l 9) (.t 129)⟩,
  .g ⟨(.l 10), .yes, .mv (.c (.d (.flat (Value.int IntKind.i64 13))))⟩])
 .ret)
 .skip))
 (.seq (.drw [] [.st ⟨true, false, ⟨(.t 130), .yes, .fa 2 (.l 17)⟩⟩,
  .st ⟨true, false, ⟨(.t 131), .yes, .ld false 1 (.t 130)⟩⟩,
  .st ⟨true, false, ⟨(.t 132), .yes, .ld true 2 (.l 15)⟩⟩,
  .st ⟨true, false, ⟨(.l 8), .yes, .mv (.t 131)⟩⟩,
  .st ⟨false, true, ⟨.no, .yes, .st 2 (.l 9) (.t 132)⟩⟩,
  .st ⟨true, false, ⟨(.l 10), .yes, .mv (.c (.d (.flat (Value.int IntKind.i64 0))))⟩⟩])
 .ret)))))))))), [(.t 8), (.c 9 true 2), (.t 10)]⟩
theorem x144E : EntryOK Tryz.prog mTabs 144 (.fn x144) := ⟨fnT rfl, Tryz.f144, plans 144, keeps 144, 4, Tryz.func144, rfl, by kernel_rfl, by kernel_rfl⟩
def x146 : XF := ⟨[0, 1, 2, 3, 4, 8, 9, 10, 17, 23, 24, 43, 44, 45, 50, 51, 58, 59, 62, 63, 72, 92], [0, 1, 2, 3], (.seq (.reg [.g ⟨(.l 4), .yes, .gen (Op.box 26 (Operand.tmp 0))⟩,
  .g ⟨(.l 8), .yes, .mv (.c (.d (.flat (Value.string ⟨#[]⟩))))⟩,
  .g ⟨(.l 9), .yes, .mv (.c (.d (.flat (Value.int IntKind.i64 0))))⟩])
 (.seq (.reg [.mt 11 (.l 2),
  .g ⟨(.t 12), .yes, .bin BinOp.eql (.t 11) (.c (.d (.flat (Value.string ⟨#[105, 110, 116]⟩)))) (Op.binOp BinOp.eql 9 (Operand.tmp 11) (Operand.const (Value.string ⟨#[105, 110, 116]⟩)) 9)⟩,
  .mt 13 (.t 12),
  .g ⟨(.t 14), (.g (.t 13) true), .mv (.l 3)⟩,
  .g ⟨(.t 15), (.g (.t 13) true), .bin BinOp.eql (.t 14) (.c (.d (.flat (Value.string ⟨#[105, 110, 116]⟩)))) (Op.binOp BinOp.eql 9 (Operand.tmp 14) (Operand.const (Value.string ⟨#[105, 110, 116]⟩)) 9)⟩,
  .g ⟨(.t 16), .yes, .pick (.t 13) (.t 15) (.c (.d (.flat (Value.bool false))))⟩,
  .g ⟨(.l 10), .yes, .mv (.t 16)⟩])
 (.seq (.seq (.reg [.g ⟨(.l 17), .yes, .mv (.l 1)⟩])
 (.block 0 (.seq (.reg [.g ⟨(.t 25), .yes, .bin BinOp.eql (.l 17) (.c (.d (.flat (Value.string ⟨#[43]⟩)))) (Op.binOp BinOp.eql 9 (Operand.tmp 17) (Operand.const (Value.string ⟨#[43]⟩)) 9)⟩,
  .g ⟨(.l 24), .yes, .mv (.t 25)⟩])
 (.cond (.l 24) (.seq (.seq (.reg [.mt 26 (.l 10),
  .g ⟨(.t 27), .yes, .not (.t 26)⟩,
  .mt 28 (.t 27),
  .g ⟨(.t 29), (.g (.t 28) true), .mv (.l 2)⟩,
  .g ⟨(.t 30), (.g (.t 28) true), .cs 159 p159 [(.t 29)]⟩,
  .g ⟨(.t 31), .yes, .pick (.t 28) (.t 30) (.c (.d (.flat (Value.bool false))))⟩,
  .mt 32 (.t 31),
  .g ⟨(.t 33), (.g (.t 32) true), .mv (.l 3)⟩,
  .g ⟨(.t 34), (.g (.t 32) true), .cs 159 p159 [(.t 33)]⟩,
  .g ⟨(.t 35), .yes, .pick (.t 32) (.t 34) (.c (.d (.flat (Value.bool false))))⟩,
  .mt 36 (.t 35),
  .g ⟨(.t 37), (.g (.t 36) true), .mv (.l 2)⟩,
  .g ⟨(.t 38), (.g (.t 36) true), .bin BinOp.eql (.t 37) (.c (.d (.flat (Value.string ⟨#[83, 116, 114, 105, 110, 103]⟩)))) (Op.binOp BinOp.eql 9 (Operand.tmp 37) (Operand.const (Value.string ⟨#[83, 116, 114, 105, 110, 103]⟩)) 9)⟩,
  .g ⟨(.t 39), (.g (.t 36) true), .mv (.t 38)⟩,
  .g ⟨(.t 40), (.g (.t 39) false), .mv (.l 3)⟩,
  .g ⟨(.t 41), (.g (.t 39) false), .bin BinOp.eql (.t 40) (.c (.d (.flat (Value.string ⟨#[83, 116, 114, 105, 110, 103]⟩)))) (Op.binOp BinOp.eql 9 (Operand.tmp 40) (Operand.const (Value.string ⟨#[83, 116, 114, 105, 110, 103]⟩)) 9)⟩,
  .g ⟨(.t 42), (.g (.t 36) true), .pick (.t 39) (.c (.d (.flat (Value.bool true)))) (.t 41)⟩,
  .g ⟨(.l 43), .yes, .pick (.t 36) (.t 42) (.c (.d (.flat (Value.bool false))))⟩])
 (.cond (.l 43) (.seq (.reg [.g ⟨(.l 8), .yes, .mv (.c (.d (.flat (Value.string ⟨#[83, 116, 114, 105, 110, 103]⟩))))⟩,
  .g ⟨(.l 9), .yes, .mv (.c (.d (.flat (Value.int IntKind.i64 0))))⟩])
 .ret)
 .skip))
 (.seq (.reg [.g ⟨(.l 44), .yes, .mv (.l 10)⟩])
 (.cond (.l 44) (.seq (.reg [.g ⟨(.l 8), .yes, .mv (.c (.d (.flat (Value.string ⟨#[105, 110, 116]⟩))))⟩,
  .g ⟨(.l 9), .yes, .mv (.c (.d (.flat (Value.int IntKind.i64 0))))⟩])
 .ret)
 .skip)))
 (.seq (.seq (.reg [.g ⟨(.t 46), .yes, .bin BinOp.eql (.l 17) (.c (.d (.flat (Value.string ⟨#[45]⟩)))) (Op.binOp BinOp.eql 9 (Operand.tmp 17) (Operand.const (Value.string ⟨#[45]⟩)) 9)⟩,
  .g ⟨(.l 45), .yes, .mv (.t 46)⟩])
 (.cond (.l 45) .skip
 (.seq (.reg [.g ⟨(.t 47), .yes, .bin BinOp.eql (.l 17) (.c (.d (.flat (Value.string ⟨#[42]⟩)))) (Op.binOp BinOp.eql 9 (Operand.tmp 17) (Operand.const (Value.string ⟨#[42]⟩)) 9)⟩,
  .g ⟨(.l 45), .yes, .mv (.t 47)⟩])
 (.cond (.l 45) .skip
 (.seq (.reg [.g ⟨(.t 48), .yes, .bin BinOp.eql (.l 17) (.c (.d (.flat (Value.string ⟨#[47]⟩)))) (Op.binOp BinOp.eql 9 (Operand.tmp 17) (Operand.const (Value.string ⟨#[47]⟩)) 9)⟩,
  .g ⟨(.l 45), .yes, .mv (.t 48)⟩])
 (.cond (.l 45) .skip
 (.reg [.g ⟨(.t 49), .yes, .bin BinOp.eql (.l 17) (.c (.d (.flat (Value.string ⟨#[37]⟩)))) (Op.binOp BinOp.eql 9 (Operand.tmp 17) (Operand.const (Value.string ⟨#[37]⟩)) 9)⟩,
  .g ⟨(.l 45), .yes, .mv (.t 49)⟩])))))))
 (.cond (.l 45) (.seq (.reg [.g ⟨(.l 50), .yes, .mv (.l 10)⟩])
 (.cond (.l 50) (.seq (.reg [.g ⟨(.l 8), .yes, .mv (.c (.d (.flat (Value.string ⟨#[105, 110, 116]⟩))))⟩,
  .g ⟨(.l 9), .yes, .mv (.c (.d (.flat (Value.int IntKind.i64 0))))⟩])
 .ret)
 .skip))
 (.seq (.reg [.g ⟨(.t 52), .yes, .bin BinOp.eql (.l 17) (.c (.d (.flat (Value.string ⟨#[64]⟩)))) (Op.binOp BinOp.eql 9 (Operand.tmp 17) (Operand.const (Value.string ⟨#[64]⟩)) 9)⟩,
  .g ⟨(.l 51), .yes, .mv (.t 52)⟩])
 (.cond (.l 51) (.seq (.reg [.mt 53 (.l 2),
  .g ⟨(.t 54), .yes, .bin BinOp.eql (.t 53) (.c (.d (.flat (Value.string ⟨#[83, 116, 114, 105, 110, 103]⟩)))) (Op.binOp BinOp.eql 9 (Operand.tmp 53) (Operand.const (Value.string ⟨#[83, 116, 114, 105, 110, 103]⟩)) 9)⟩,
  .mt 55 (.t 54),
  .g ⟨(.t 56), (.g (.t 55) true), .mv (.l 3)⟩,
  .g ⟨(.t 57), (.g (.t 55) true), .bin BinOp.eql (.t 56) (.c (.d (.flat (Value.string ⟨#[105, 110, 116]⟩)))) (Op.binOp BinOp.eql 9 (Operand.tmp 56) (Operand.const (Value.string ⟨#[105, 110, 116]⟩)) 9)⟩,
  .g ⟨(.l 58), .yes, .pick (.t 55) (.t 57) (.c (.d (.flat (Value.bool false))))⟩])
 (.cond (.l 58) (.seq (.reg [.g ⟨(.l 8), .yes, .mv (.c (.d (.flat (Value.string ⟨#[83, 116, 114, 105, 110, 103]⟩))))⟩,
  .g ⟨(.l 9), .yes, .mv (.c (.d (.flat (Value.int IntKind.i64 0))))⟩])
 .ret)
 .skip))
 (.seq (.seq (.reg [.g ⟨(.t 60), .yes, .bin BinOp.eql (.l 17) (.c (.d (.flat (Value.string ⟨#[60]⟩)))) (Op.binOp BinOp.eql 9 (Operand.tmp 17) (Operand.const (Value.string ⟨#[60]⟩)) 9)⟩,
  .g ⟨(.l 59), .yes, .mv (.t 60)⟩])
 (.cond (.l 59) .skip
 (.reg [.g ⟨(.t 61), .yes, .bin BinOp.eql (.l 17) (.c (.d (.flat (Value.string ⟨#[60, 61]⟩)))) (Op.binOp BinOp.eql 9 (Operand.tmp 17) (Operand.const (Value.string ⟨#[60, 61]⟩)) 9)⟩,
  .g ⟨(.l 59), .yes, .mv (.t 61)⟩])))
 (.cond (.l 59) (.seq (.reg [.g ⟨(.l 62), .yes, .mv (.l 10)⟩])
 (.cond (.l 62) (.seq (.reg [.g ⟨(.l 8), .yes, .mv (.c (.d (.flat (Value.string ⟨#[98, 111, 111, 108, 101, 97, 110]⟩))))⟩,
  .g ⟨(.l 9), .yes, .mv (.c (.d (.flat (Value.int IntKind.i64 0))))⟩])
 .ret)
 .skip))
 (.seq (.seq (.reg [.g ⟨(.t 64), .yes, .bin BinOp.eql (.l 17) (.c (.d (.flat (Value.string ⟨#[61, 61]⟩)))) (Op.binOp BinOp.eql 9 (Operand.tmp 17) (Operand.const (Value.string ⟨#[61, 61]⟩)) 9)⟩,
  .g ⟨(.l 63), .yes, .mv (.t 64)⟩])
 (.cond (.l 63) .skip
 (.reg [.g ⟨(.t 65), .yes, .bin BinOp.eql (.l 17) (.c (.d (.flat (Value.string ⟨#[33, 61]⟩)))) (Op.binOp BinOp.eql 9 (Operand.tmp 17) (Operand.const (Value.string ⟨#[33, 61]⟩)) 9)⟩,
  .g ⟨(.l 63), .yes, .mv (.t 65)⟩])))
 (.cond (.l 63) (.seq (.seq (.reg [.mt 66 (.l 2),
  .g ⟨(.t 67), .yes, .cs 159 p159 [(.t 66)]⟩,
  .mt 68 (.t 67),
  .g ⟨(.t 69), (.g (.t 68) true), .mv (.l 2)⟩,
  .g ⟨(.t 70), (.g (.t 68) true), .mv (.l 3)⟩,
  .g ⟨(.t 71), (.g (.t 68) true), .bin BinOp.eql (.t 69) (.t 70) (Op.binOp BinOp.eql 9 (Operand.tmp 69) (Operand.tmp 70) 9)⟩,
  .g ⟨(.l 72), .yes, .pick (.t 68) (.t 71) (.c (.d (.flat (Value.bool false))))⟩])
 (.cond (.l 72) (.seq (.reg [.g ⟨(.l 8), .yes, .mv (.c (.d (.flat (Value.string ⟨#[98, 111, 111, 108, 101, 97, 110]⟩))))⟩,
  .g ⟨(.l 9), .yes, .mv (.c (.d (.flat (Value.int IntKind.i64 0))))⟩])
 .ret)
 .skip))
 (.seq (.reg [.mt 73 (.l 2),
  .g ⟨(.t 74), .yes, .cs 159 p159 [(.t 73)]⟩,
  .g ⟨(.t 75), .yes, .not (.t 74)⟩,
  .mt 76 (.t 75),
  .g ⟨(.t 77), (.g (.t 76) true), .mv (.l 3)⟩,
  .g ⟨(.t 78), (.g (.t 76) true), .cs 159 p159 [(.t 77)]⟩,
  .g ⟨(.t 79), (.g (.t 76) true), .not (.t 78)⟩,
  .g ⟨(.t 80), .yes, .pick (.t 76) (.t 79) (.c (.d (.flat (Value.bool false))))⟩,
  .mt 81 (.t 80),
  .g ⟨(.t 82), (.g (.t 81) true), .ld true 1 (.l 4)⟩,
  .g ⟨(.t 83), (.g (.t 81) true), .mv (.l 2)⟩,
  .g ⟨(.t 84), (.g (.t 81) true), .mv (.l 3)⟩,
  .g ⟨(.t 85), (.g (.t 81) true), .cs 122 p122 [(.t 82), (.t 83), (.t 84)]⟩,
  .g ⟨(.t 86), (.g (.t 81) true), .mv (.t 85)⟩,
  .g ⟨(.t 87), (.g (.t 86) false), .ld true 1 (.l 4)⟩,
  .g ⟨(.t 88), (.g (.t 86) false), .mv (.l 3)⟩,
  .g ⟨(.t 89), (.g (.t 86) false), .mv (.l 2)⟩,
  .g ⟨(.t 90), (.g (.t 86) false), .cs 122 p122 [(.t 87), (.t 88), (.t 89)]⟩,
  .g ⟨(.t 91), (.g (.t 81) true), .pick (.t 86) (.c (.d (.flat (Value.bool true)))) (.t 90)⟩,
  .g ⟨(.l 92), .yes, .pick (.t 81) (.t 91) (.c (.d (.flat (Value.bool false))))⟩])
 (.cond (.l 92) (.seq (.reg [.g ⟨(.l 8), .yes, .mv (.c (.d (.flat (Value.string ⟨#[98, 111, 111, 108, 101, 97, 110]⟩))))⟩,
  .g ⟨(.l 9), .yes, .mv (.c (.d (.flat (Value.int IntKind.i64 0))))⟩])
 .ret)
 .skip)))
 (.seq (.reg [.mt 18 (.l 2),
  .g ⟨(.t 19), .yes, .bin BinOp.eql (.t 18) (.c (.d (.flat (Value.string ⟨#[98, 111, 111, 108, 101, 97, 110]⟩)))) (Op.binOp BinOp.eql 9 (Operand.tmp 18) (Operand.const (Value.string ⟨#[98, 111, 111, 108, 101, 97, 110]⟩)) 9)⟩,
  .mt 20 (.t 19),
  .g ⟨(.t 21), (.g (.t 20) true), .mv (.l 3)⟩,
  .g ⟨(.t 22), (.g (.t 20) true), .bin BinOp.eql (.t 21) (.c (.d (.flat (Value.string ⟨#[98, 111, 111, 108, 101, 97, 110]⟩)))) (Op.binOp BinOp.eql 9 (Operand.tmp 21) (Operand.const (Value.string ⟨#[98, 111, 111, 108, 101, 97, 110]⟩)) 9)⟩,
  .g ⟨(.l 23), .yes, .pick (.t 20) (.t 22) (.c (.d (.flat (Value.bool false))))⟩])
 (.cond (.l 23) (.seq (.reg [.g ⟨(.l 8), .yes, .mv (.c (.d (.flat (Value.string ⟨#[98, 111, 111, 108, 101, 97, 110]⟩))))⟩,
  .g ⟨(.l 9), .yes, .mv (.c (.d (.flat (Value.int IntKind.i64 0))))⟩])
 .ret)
 .skip))))))))))))))
 (.seq (.reg [.g ⟨(.l 8), .yes, .mv (.c (.d (.flat (Value.string ⟨#[]⟩))))⟩,
  .g ⟨(.l 9), .yes, .mv (.c (.d (.flat (Value.int IntKind.i64 14))))⟩])
 .ret)))), [(.t 8), (.t 9)]⟩
theorem x146E : EntryOK Tryz.prog mTabs 146 (.fn x146) := ⟨fnT rfl, Tryz.f146, plans 146, keeps 146, 4, Tryz.func146, rfl, by kernel_rfl, by kernel_rfl⟩
def x148 : XF := ⟨[0, 1, 4, 5, 6, 7, 8, 9, 10, 20, 33], [0, 1], (.seq (.reg [.g ⟨(.l 4), .yes, .mv (.c (.tight [] 0))⟩,
  .g ⟨(.l 5), .yes, .mv (.c (.d (.flat (Value.int IntKind.i64 0))))⟩])
 (.seq (.reg [.mt 11 (.l 0),
  .g ⟨(.t 12), .yes, .nc (.t 11)⟩,
  .g ⟨(.t 13), .yes, .fa 7 (.t 12)⟩,
  .g ⟨(.t 14), .yes, .fa 2 (.t 13)⟩,
  .g ⟨(.t 15), .yes, .ld false 1 (.t 14)⟩,
  .g ⟨(.t 16), .yes, .lenr (.t 15)⟩,
  .g ⟨(.l 6), .yes, .mv (.t 16)⟩])
 (.seq (.reg [.g ⟨(.l 7), .yes, .mv (.c (.tight [] 0))⟩])
 (.seq (.seq (.reg [.g ⟨(.l 8), .yes, .mv (.c (.d (.flat (Value.int IntKind.i64 0))))⟩])
 (.block 0 (.loop (some [0, 1, 6, 7, 8]) (.seq (.seq (.reg [.mt 17 (.l 8),
  .mt 18 (.l 1),
  .g ⟨(.t 19), .yes, .lenr (.t 18)⟩,
  .g ⟨(.l 20), .yes, .bin BinOp.lss (.t 17) (.t 19) (Op.binOp BinOp.lss 3 (Operand.tmp 17) (Operand.tmp 19) 3)⟩])
 (.cond (.l 20) .skip
 (.exit 0)))
 (.seq (.block 1 (.seq (.reg [.mt 24 (.l 0),
  .mt 25 (.l 1),
  .mt 26 (.l 8),
  .g ⟨(.t 27), .yes, .ia 9 (.t 25) (.t 26)⟩,
  .g ⟨(.t 28), .yes, .ld true 9 (.t 27)⟩,
  .g ⟨(.t 29), .yes, .cs 160 p160 [(.t 24), (.t 28)]⟩,
  .mt 23 (.t 29),
  .g ⟨(.t 30), .yes, .ex (.t 23) 0⟩,
  .g ⟨(.t 31), .yes, .ex (.t 23) 1⟩,
  .g ⟨(.l 9), .yes, .gen (Op.alloc 126)⟩,
  .g ⟨.no, .yes, .st 9 (.l 9) (.t 30)⟩,
  .g ⟨(.l 10), .yes, .mv (.t 31)⟩])
 (.seq (.seq (.reg [.mt 32 (.l 10),
  .g ⟨(.l 33), .yes, .bin BinOp.neq (.t 32) (.c (.d (.flat (Value.int IntKind.i64 0)))) (Op.binOp BinOp.neq 3 (Operand.tmp 32) (Operand.const (Value.int IntKind.i64 0)) 3)⟩])
 (.cond (.l 33) (.seq (.reg [.mt 34 (.l 10),
  .g ⟨(.l 4), .yes, .mv (.c (.tight [] 0))⟩,
  .g ⟨(.l 5), .yes, .mv (.t 34)⟩])
 .ret)
 .skip))
 (.reg [.mt 35 (.l 7),
  .g ⟨(.t 36), .yes, .ld true 9 (.l 9)⟩,
  .g ⟨(.t 37), .yes, .gen (Op.buildSlice 96 1 #[(0, (Operand.tmp 36))])⟩,
  .g ⟨(.t 38), .yes, .gen (Op.call { callee := (Callee.builtin Builtin.append), args := #[(Operand.tmp 35), (Operand.tmp 37)], argTypes := #[96, 96] })⟩,
  .g ⟨(.l 7), .yes, .mv (.t 38)⟩]))))
 (.reg [.mt 21 (.l 8),
  .g ⟨(.t 22), .yes, .bin BinOp.add (.t 21) (.c (.d (.flat (Value.int IntKind.i64 1)))) (Op.binOp BinOp.add 3 (Operand.tmp 21) (Operand.const (Value.int IntKind.i64 1)) 3)⟩,
  .g ⟨(.l 8), .yes, .mv (.t 22)⟩]))))))
 (.seq (.reg [.mt 39 (.l 0),
  .mt 40 (.l 0),
  .g ⟨(.t 41), .yes, .nc (.t 40)⟩,
  .g ⟨(.t 42), .yes, .fa 7 (.t 41)⟩,
  .g ⟨(.t 43), .yes, .fa 2 (.t 42)⟩,
  .g ⟨(.t 44), .yes, .ld false 1 (.t 43)⟩,
  .mt 45 (.l 6),
  .mt 46 (.l 6),
  .g ⟨(.t 47), .yes, .gen (Op.slice 95 (Operand.tmp 44) none (some (Operand.tmp 45)) (some (Operand.tmp 46)))⟩,
  .g ⟨(.t 48), .yes, .nc (.t 39)⟩,
  .g ⟨(.t 49), .yes, .fa 7 (.t 48)⟩,
  .g ⟨(.t 50), .yes, .fa 2 (.t 49)⟩,
  .g ⟨.no, .yes, .st 1 (.t 50) (.t 47)⟩])
 (.seq (.reg [.mt 51 (.l 7),
  .g ⟨(.l 4), .yes, .mv (.t 51)⟩,
  .g ⟨(.l 5), .yes, .mv (.c (.d (.flat (Value.int IntKind.i64 0))))⟩])
 .ret)))))), [(.t 4), (.t 5)]⟩
theorem x148E : EntryOK Tryz.prog mTabs 148 (.fn x148) := ⟨fnT rfl, Tryz.f148, plans 148, keeps 148, 2, Tryz.func148, rfl, by kernel_rfl, by kernel_rfl⟩
def x149 : XF := ⟨[0, 1, 2], [0], (.seq (.reg [.g ⟨(.l 1), .yes, .gen (Op.box 98 (Operand.tmp 0))⟩,
  .g ⟨(.l 2), .yes, .mv (.c (.d (.flat (Value.bool false))))⟩])
 (.seq (.reg [.g ⟨(.t 3), .yes, .fa 1 (.l 1)⟩,
  .g ⟨(.t 4), .yes, .ld false 1 (.t 3)⟩,
  .mt 5 (.t 4),
  .g ⟨(.t 6), (.g (.t 5) false), .fa 2 (.l 1)⟩,
  .g ⟨(.t 7), (.g (.t 5) false), .ld false 1 (.t 6)⟩,
  .g ⟨(.t 8), (.g (.t 5) false), .bin BinOp.eql (.t 7) (.c (.d (.flat (Value.string ⟨#[118, 111, 105, 100]⟩)))) (Op.binOp BinOp.eql 9 (Operand.tmp 7) (Operand.const (Value.string ⟨#[118, 111, 105, 100]⟩)) 9)⟩,
  .g ⟨(.t 9), .yes, .pick (.t 5) (.c (.d (.flat (Value.bool true)))) (.t 8)⟩,
  .mt 10 (.t 9),
  .g ⟨(.t 11), (.g (.t 10) false), .fa 5 (.l 1)⟩,
  .g ⟨(.t 12), (.g (.t 10) false), .ld false 1 (.t 11)⟩,
  .g ⟨(.t 13), (.g (.t 10) false), .cs 161 p161 [(.t 12)]⟩,
  .g ⟨(.t 14), (.g (.t 10) false), .not (.t 13)⟩,
  .g ⟨(.t 15), .yes, .pick (.t 10) (.c (.d (.flat (Value.bool true)))) (.t 14)⟩,
  .g ⟨(.l 2), .yes, .mv (.t 15)⟩])
 .ret)), [(.t 2)]⟩
theorem x149E : EntryOK Tryz.prog mTabs 149 (.fn x149) := ⟨fnT rfl, Tryz.f149, plans 149, keeps 149, 1, Tryz.func149, rfl, by kernel_rfl, by kernel_rfl⟩
def x150 : XF := ⟨[0, 1, 2, 3, 6, 7, 8, 9, 10, 12, 13, 15, 16, 17, 22, 37, 48, 63, 82, 89], [0, 1, 2], (.seq (.reg [.g ⟨(.l 3), .yes, .gen (Op.box 26 (Operand.tmp 0))⟩,
  .g ⟨(.l 6), .yes, .gen (Op.alloc 44)⟩,
  .g ⟨(.l 7), .yes, .mv (.c (.d (.flat (Value.int IntKind.i64 0))))⟩])
 (.seq (.reg [.g ⟨(.l 8), .yes, .mv (.c (.tight [] 0))⟩])
 (.seq (.seq (.reg [.g ⟨(.l 9), .yes, .mv (.c (.d (.flat (Value.int IntKind.i64 0))))⟩])
 (.block 0 (.loop (some [1, 2, 3, 6, 8, 9]) (.seq (.seq (.reg [.mt 19 (.l 9),
  .mt 20 (.l 1),
  .g ⟨(.t 21), .yes, .lenr (.t 20)⟩,
  .g ⟨(.l 22), .yes, .bin BinOp.lss (.t 19) (.t 21) (Op.binOp BinOp.lss 3 (Operand.tmp 19) (Operand.tmp 21) 3)⟩])
 (.cond (.l 22) .skip
 (.exit 0)))
 (.seq (.block 1 (.seq (.drw [.no] [.st ⟨true, false, ⟨(.t 26), .yes, .ld true 1 (.l 3)⟩⟩,
  .st ⟨true, false, ⟨(.t 27), .yes, .mv (.l 1)⟩⟩,
  .st ⟨true, false, ⟨(.t 28), .yes, .mv (.l 9)⟩⟩,
  .st ⟨true, false, ⟨(.t 29), .yes, .ia 2 (.t 27) (.t 28)⟩⟩,
  .st ⟨true, false, ⟨(.t 30), .yes, .ld true 2 (.t 29)⟩⟩,
  .fl [⟨false, true, ⟨(.t 31), .yes, .cs 142 p142 [(.t 26), (.t 30)]⟩⟩,
  ⟨true, false, ⟨(.t 25), .yes, .mv (.t 31)⟩⟩,
  ⟨true, false, ⟨(.t 32), .yes, .ex (.t 25) 0⟩⟩,
  ⟨true, false, ⟨(.t 33), .yes, .ex (.t 25) 1⟩⟩] ⟨(.l 10), .yes, .gen (Op.alloc 98)⟩,
  .st ⟨false, false, ⟨.no, .yes, .st 6 (.l 10) (.t 32)⟩⟩,
  .st ⟨true, false, ⟨(.t 11), .yes, .mv (.t 33)⟩⟩])
 (.seq (.reg [.g ⟨(.t 34), .yes, .ld true 1 (.l 3)⟩,
  .g ⟨(.t 35), .yes, .ld true 6 (.l 10)⟩,
  .mt 36 (.l 2),
  .g ⟨(.l 37), .yes, .cs 162 p162 [(.t 34), (.t 35), (.t 36)]⟩])
 (.cond (.l 37) (.reg [.mt 38 (.l 8),
  .mt 39 (.l 1),
  .mt 40 (.l 9),
  .g ⟨(.t 41), .yes, .ia 2 (.t 39) (.t 40)⟩,
  .g ⟨(.t 42), .yes, .ld true 2 (.t 41)⟩,
  .g ⟨(.t 43), .yes, .gen (Op.buildSlice 63 1 #[(0, (Operand.tmp 42))])⟩,
  .g ⟨(.t 44), .yes, .gen (Op.call { callee := (Callee.builtin Builtin.append), args := #[(Operand.tmp 38), (Operand.tmp 43)], argTypes := #[63, 63] })⟩,
  .g ⟨(.l 8), .yes, .mv (.t 44)⟩])
 .skip))))
 (.reg [.mt 23 (.l 9),
  .g ⟨(.t 24), .yes, .bin BinOp.add (.t 23) (.c (.d (.flat (Value.int IntKind.i64 1)))) (Op.binOp BinOp.add 3 (Operand.tmp 23) (Operand.const (Value.int IntKind.i64 1)) 3)⟩,
  .g ⟨(.l 9), .yes, .mv (.t 24)⟩]))))))
 (.seq (.seq (.reg [.g ⟨(.l 12), .yes, .mv (.c (.d (.flat (Value.int IntKind.i64 0))))⟩])
 (.block 2 (.loop (some [3, 6, 8, 12]) (.seq (.seq (.reg [.mt 45 (.l 12),
  .mt 46 (.l 8),
  .g ⟨(.t 47), .yes, .lenr (.t 46)⟩,
  .g ⟨(.l 48), .yes, .bin BinOp.lss (.t 45) (.t 47) (Op.binOp BinOp.lss 3 (Operand.tmp 45) (Operand.tmp 47) 3)⟩])
 (.cond (.l 48) .skip
 (.exit 2)))
 (.seq (.block 3 (.seq (.drw [.no] [.st ⟨true, false, ⟨(.t 52), .yes, .ld true 1 (.l 3)⟩⟩,
  .st ⟨true, false, ⟨(.t 53), .yes, .mv (.l 8)⟩⟩,
  .st ⟨true, false, ⟨(.t 54), .yes, .mv (.l 12)⟩⟩,
  .st ⟨true, false, ⟨(.t 55), .yes, .ia 2 (.t 53) (.t 54)⟩⟩,
  .st ⟨true, false, ⟨(.t 56), .yes, .ld true 2 (.t 55)⟩⟩,
  .fl [⟨false, true, ⟨(.t 57), .yes, .cs 142 p142 [(.t 52), (.t 56)]⟩⟩,
  ⟨true, false, ⟨(.t 51), .yes, .mv (.t 57)⟩⟩,
  ⟨true, false, ⟨(.t 58), .yes, .ex (.t 51) 0⟩⟩,
  ⟨true, false, ⟨(.t 59), .yes, .ex (.t 51) 1⟩⟩] ⟨(.l 13), .yes, .gen (Op.alloc 98)⟩,
  .st ⟨false, false, ⟨.no, .yes, .st 6 (.l 13) (.t 58)⟩⟩,
  .st ⟨true, false, ⟨(.t 14), .yes, .mv (.t 59)⟩⟩])
 (.seq (.reg [.g ⟨(.l 15), .yes, .mv (.c (.d (.flat (Value.bool true))))⟩])
 (.seq (.seq (.reg [.g ⟨(.l 16), .yes, .mv (.c (.d (.flat (Value.int IntKind.i64 0))))⟩])
 (.block 4 (.loop (some [3, 6, 8, 12, 13, 15, 16]) (.seq (.seq (.reg [.mt 60 (.l 16),
  .mt 61 (.l 8),
  .g ⟨(.t 62), .yes, .lenr (.t 61)⟩,
  .g ⟨(.l 63), .yes, .bin BinOp.lss (.t 60) (.t 62) (Op.binOp BinOp.lss 3 (Operand.tmp 60) (Operand.tmp 62) 3)⟩])
 (.cond (.l 63) .skip
 (.exit 4)))
 (.seq (.block 5 (.seq (.drw [.no] [.st ⟨true, false, ⟨(.t 67), .yes, .ld true 1 (.l 3)⟩⟩,
  .st ⟨true, false, ⟨(.t 68), .yes, .mv (.l 8)⟩⟩,
  .st ⟨true, false, ⟨(.t 69), .yes, .mv (.l 16)⟩⟩,
  .st ⟨true, false, ⟨(.t 70), .yes, .ia 2 (.t 68) (.t 69)⟩⟩,
  .st ⟨true, false, ⟨(.t 71), .yes, .ld true 2 (.t 70)⟩⟩,
  .fl [⟨false, true, ⟨(.t 72), .yes, .cs 142 p142 [(.t 67), (.t 71)]⟩⟩,
  ⟨true, false, ⟨(.t 66), .yes, .mv (.t 72)⟩⟩,
  ⟨true, false, ⟨(.t 73), .yes, .ex (.t 66) 0⟩⟩,
  ⟨true, false, ⟨(.t 74), .yes, .ex (.t 66) 1⟩⟩] ⟨(.l 17), .yes, .gen (Op.alloc 98)⟩,
  .st ⟨false, false, ⟨.no, .yes, .st 6 (.l 17) (.t 73)⟩⟩,
  .st ⟨true, false, ⟨(.t 18), .yes, .mv (.t 74)⟩⟩])
 (.reg [.mt 75 (.l 15),
  .mt 76 (.t 75),
  .g ⟨(.t 77), (.g (.t 76) true), .ld true 1 (.l 3)⟩,
  .g ⟨(.t 78), (.g (.t 76) true), .ld true 6 (.l 13)⟩,
  .g ⟨(.t 79), (.g (.t 76) true), .ld true 6 (.l 17)⟩,
  .g ⟨(.t 80), (.g (.t 76) true), .cs 163 p163 [(.t 77), (.t 78), (.t 79)]⟩,
  .g ⟨(.t 81), .yes, .pick (.t 76) (.t 80) (.c (.d (.flat (Value.bool false))))⟩,
  .g ⟨(.l 15), .yes, .mv (.t 81)⟩])))
 (.reg [.mt 64 (.l 16),
  .g ⟨(.t 65), .yes, .bin BinOp.add (.t 64) (.c (.d (.flat (Value.int IntKind.i64 1)))) (Op.binOp BinOp.add 3 (Operand.tmp 64) (Operand.const (Value.int IntKind.i64 1)) 3)⟩,
  .g ⟨(.l 16), .yes, .mv (.t 65)⟩]))))))
 (.seq (.reg [.g ⟨(.l 82), .yes, .mv (.l 15)⟩])
 (.cond (.l 82) (.seq (.reg [.mt 83 (.l 8),
  .mt 84 (.l 12),
  .g ⟨(.t 85), .yes, .ia 2 (.t 83) (.t 84)⟩,
  .g ⟨(.t 86), .yes, .ld true 2 (.t 85)⟩,
  .g ⟨.no, .yes, .st 2 (.l 6) (.t 86)⟩,
  .g ⟨(.l 7), .yes, .mv (.c (.d (.flat (Value.int IntKind.i64 0))))⟩])
 .ret)
 .skip))))))
 (.reg [.mt 49 (.l 12),
  .g ⟨(.t 50), .yes, .bin BinOp.add (.t 49) (.c (.d (.flat (Value.int IntKind.i64 1)))) (Op.binOp BinOp.add 3 (Operand.tmp 49) (Operand.const (Value.int IntKind.i64 1)) 3)⟩,
  .g ⟨(.l 12), .yes, .mv (.t 50)⟩]))))))
 (.seq (.seq (.reg [.mt 87 (.l 8),
  .g ⟨(.t 88), .yes, .lenr (.t 87)⟩,
  .g ⟨(.l 89), .yes, .bin BinOp.eql (.t 88) (.c (.d (.flat (Value.int IntKind.i64 0)))) (Op.binOp BinOp.eql 3 (Operand.tmp 88) (Operand.const (Value.int IntKind.i64 0)) 3)⟩])
 (.cond (.l 89) (.seq (.reg [.g ⟨(.t 90), .yes, .gen (Op.build 44 #[])⟩,
  .g ⟨.no, .yes, .st 2 (.l 6) (.t 90)⟩,
  .g ⟨(.l 7), .yes, .mv (.c (.d (.flat (Value.int IntKind.i64 11))))⟩])
 .ret)
 .skip))
 (.seq (.reg [.g ⟨(.t 91), .yes, .gen (Op.build 44 #[])⟩,
  .g ⟨.no, .yes, .st 2 (.l 6) (.t 91)⟩,
  .g ⟨(.l 7), .yes, .mv (.c (.d (.flat (Value.int IntKind.i64 12))))⟩])
 .ret)))))), [(.c 6 true 2), (.t 7)]⟩
theorem x150E : EntryOK Tryz.prog mTabs 150 (.fn x150) := ⟨fnT rfl, Tryz.f150, plans 150, keeps 150, 3, Tryz.func150, rfl, by kernel_rfl, by kernel_rfl⟩
def x151 : XF := ⟨[0, 1, 2, 4, 5, 6, 7, 11, 19, 26, 35], [0, 1], (.seq (.reg [.g ⟨(.l 2), .yes, .gen (Op.box 26 (Operand.tmp 0))⟩,
  .g ⟨(.l 4), .yes, .mv (.c (.tight [] 0))⟩])
 (.seq (.seq (.reg [.g ⟨(.t 8), .yes, .ld true 1 (.l 2)⟩,
  .mt 9 (.l 1),
  .g ⟨(.t 10), .yes, .cs 31 p31 [(.t 8), (.t 9)]⟩,
  .g ⟨(.l 11), .yes, .not (.t 10)⟩])
 (.cond (.l 11) (.seq (.reg [.g ⟨(.l 4), .yes, .mv (.c (.tight [] 0))⟩])
 .ret)
 .skip))
 (.seq (.reg [.g ⟨(.l 5), .yes, .mv (.c (.tight [] 0))⟩])
 (.seq (.reg [.g ⟨(.t 12), .yes, .ld true 1 (.l 2)⟩,
  .mt 13 (.l 1),
  .g ⟨(.t 14), .yes, .cs 68 p68 [(.t 12), (.t 13)]⟩,
  .g ⟨(.t 15), .yes, .gen (Op.field 37 (Operand.tmp 14) 3)⟩,
  .g ⟨(.l 6), .yes, .mv (.t 15)⟩])
 (.seq (.seq (.reg [.g ⟨(.l 7), .yes, .mv (.c (.d (.flat (Value.int IntKind.i64 0))))⟩])
 (.block 0 (.loop (some [1, 5, 6, 7]) (.seq (.seq (.reg [.mt 16 (.l 7),
  .mt 17 (.l 6),
  .g ⟨(.t 18), .yes, .lenr (.t 17)⟩,
  .g ⟨(.l 19), .yes, .bin BinOp.lss (.t 16) (.t 18) (Op.binOp BinOp.lss 3 (Operand.tmp 16) (Operand.tmp 18) 3)⟩])
 (.cond (.l 19) .skip
 (.exit 0)))
 (.seq (.block 1 (.seq (.reg [.mt 22 (.l 6),
  .mt 23 (.l 7),
  .g ⟨(.t 24), .yes, .ia 6 (.t 22) (.t 23)⟩,
  .g ⟨(.t 25), .yes, .fa 1 (.t 24)⟩,
  .g ⟨(.l 26), .yes, .ld false 1 (.t 25)⟩])
 (.cond (.l 26) (.reg [.mt 27 (.l 5),
  .mt 28 (.l 1),
  .mt 29 (.l 7),
  .g ⟨(.t 30), .yes, .gen (Op.build 44 #[(0, (Operand.tmp 28)), (1, (Operand.tmp 29))])⟩,
  .g ⟨(.t 31), .yes, .gen (Op.buildSlice 63 1 #[(0, (Operand.tmp 30))])⟩,
  .g ⟨(.t 32), .yes, .gen (Op.call { callee := (Callee.builtin Builtin.append), args := #[(Operand.tmp 27), (Operand.tmp 31)], argTypes := #[63, 63] })⟩,
  .g ⟨(.l 5), .yes, .mv (.t 32)⟩])
 .skip)))
 (.reg [.mt 20 (.l 7),
  .g ⟨(.t 21), .yes, .bin BinOp.add (.t 20) (.c (.d (.flat (Value.int IntKind.i64 1)))) (Op.binOp BinOp.add 3 (Operand.tmp 20) (Operand.const (Value.int IntKind.i64 1)) 3)⟩,
  .g ⟨(.l 7), .yes, .mv (.t 21)⟩]))))))
 (.seq (.seq (.reg [.mt 33 (.l 5),
  .g ⟨(.t 34), .yes, .lenr (.t 33)⟩,
  .g ⟨(.l 35), .yes, .bin BinOp.eql (.t 34) (.c (.d (.flat (Value.int IntKind.i64 0)))) (Op.binOp BinOp.eql 3 (Operand.tmp 34) (Operand.const (Value.int IntKind.i64 0)) 3)⟩])
 (.cond (.l 35) (.seq (.reg [.mt 36 (.l 1),
  .g ⟨(.t 37), .yes, .gen (Op.build 44 #[(0, (Operand.tmp 36)), (1, (Operand.const (Value.int IntKind.i64 (-1))))])⟩,
  .g ⟨(.t 38), .yes, .gen (Op.buildSlice 63 1 #[(0, (Operand.tmp 37))])⟩,
  .g ⟨(.l 4), .yes, .mv (.t 38)⟩])
 .ret)
 .skip))
 (.seq (.reg [.mt 39 (.l 5),
  .g ⟨(.l 4), .yes, .mv (.t 39)⟩])
 .ret))))))), [(.t 4)]⟩
theorem x151E : EntryOK Tryz.prog mTabs 151 (.fn x151) := ⟨fnT rfl, Tryz.f151, plans 151, keeps 151, 2, Tryz.func151, rfl, by kernel_rfl, by kernel_rfl⟩
end Go.Proofs.YtinffhimfoicdaaGreat

/- Functions as the machine takes them. Printed by wip/tool/gen_mach.py. No conditions. -/
namespace Go.Proofs.YtinffhimfoicdaaGreat
open Go Go.Proofs.YtinffhimfoicdaaGreat.Calc
set_option maxRecDepth 100000
set_option linter.unusedVariables false
def x152 : XF := ⟨[0, 1, 3, 4, 5, 10, 12, 18, 30, 38], [0, 1], (.seq (.reg [.g ⟨(.l 3), .yes, .gen (Op.box 124 (Operand.tmp 1))⟩,
  .g ⟨(.l 4), .yes, .gen (Op.alloc 124)⟩])
 (.seq (.block 0 (.loop (some [0, 3, 4]) (.seq (.seq (.reg [.mt 6 (.l 0),
  .g ⟨(.t 7), .yes, .nc (.t 6)⟩,
  .g ⟨(.t 8), .yes, .fa 3 (.t 7)⟩,
  .g ⟨(.t 9), .yes, .ld false 1 (.t 8)⟩,
  .g ⟨(.l 10), .yes, .bin BinOp.eql (.t 9) (.c (.d (.flat (Value.int IntKind.i64 0)))) (Op.binOp BinOp.eql 3 (Operand.tmp 9) (Operand.const (Value.int IntKind.i64 0)) 3)⟩])
 (.cond (.l 10) .skip
 (.exit 0)))
 (.block 1 (.block 2 (.seq (.reg [.mt 13 (.l 0),
  .g ⟨(.t 14), .yes, .cs 47 p47 [(.t 13), (.c (.d (.flat (Value.string ⟨#[46]⟩))))]⟩,
  .g ⟨(.l 12), .yes, .mv (.t 14)⟩])
 (.cond (.l 12) (.seq (.reg [.mt 15 (.l 0),
  .g ⟨(.t 16), .yes, .cs 79 p79 [(.t 15)]⟩,
  .g ⟨(.l 5), .yes, .mv (.t 16)⟩])
 (.seq (.reg [.mt 17 (.l 0),
  .g ⟨(.l 18), .yes, .cs 48 p48 [(.t 17), (.c (.d (.flat (Value.string ⟨#[40]⟩))))]⟩])
 (.cond (.l 18) (.drw [(.l 0)] [.st ⟨true, false, ⟨(.t 19), .yes, .mv (.l 5)⟩⟩,
  .st ⟨true, false, ⟨(.t 20), .yes, .ld true 8 (.l 3)⟩⟩,
  .st ⟨true, false, ⟨(.t 22), .yes, .mv (.l 0)⟩⟩,
  .fl [⟨false, false, ⟨(.t 23), .yes, .cs 131 p131 [(.t 22)]⟩⟩] ⟨(.t 21), .yes, .gen (Op.buildSlice 74 1 #[(0, (Operand.tmp 20))])⟩,
  .st ⟨false, false, ⟨(.t 24), .yes, .gen (Op.call { callee := (Callee.builtin Builtin.append), args := #[(Operand.tmp 21), (Operand.tmp 23)], argTypes := #[74, 74] })⟩⟩,
  .st ⟨true, false, ⟨(.t 25), .yes, .gen (Op.build 124 #[(0, (Operand.const (Value.int IntKind.i64 10))), (3, (Operand.tmp 19)), (5, (Operand.tmp 24))])⟩⟩,
  .st ⟨false, true, ⟨.no, .yes, .st 8 (.l 3) (.t 25)⟩⟩])
 (.reg [.mt 26 (.l 5),
  .g ⟨(.t 27), .yes, .ld true 8 (.l 3)⟩,
  .g ⟨(.t 28), .yes, .gen (Op.buildSlice 74 1 #[(0, (Operand.tmp 27))])⟩,
  .g ⟨(.t 29), .yes, .gen (Op.build 124 #[(0, (Operand.const (Value.int IntKind.i64 7))), (3, (Operand.tmp 26)), (5, (Operand.tmp 28))])⟩,
  .g ⟨.no, .yes, .st 8 (.l 3) (.t 29)⟩]))))
 (.seq (.reg [.mt 31 (.l 0),
  .g ⟨(.t 32), .yes, .cs 47 p47 [(.t 31), (.c (.d (.flat (Value.string ⟨#[97, 115]⟩))))]⟩,
  .g ⟨(.l 30), .yes, .mv (.t 32)⟩])
 (.cond (.l 30) (.drw [(.l 0)] [.st ⟨true, false, ⟨(.t 33), .yes, .mv (.l 0)⟩⟩,
  .st ⟨true, false, ⟨(.t 35), .yes, .ld true 8 (.l 3)⟩⟩,
  .fl [⟨false, false, ⟨(.t 34), .yes, .cs 46 p46 [(.t 33)]⟩⟩] ⟨(.t 36), .yes, .gen (Op.buildSlice 74 1 #[(0, (Operand.tmp 35))])⟩,
  .st ⟨true, false, ⟨(.t 37), .yes, .gen (Op.build 124 #[(0, (Operand.const (Value.int IntKind.i64 15))), (4, (Operand.tmp 34)), (5, (Operand.tmp 36))])⟩⟩,
  .st ⟨false, true, ⟨.no, .yes, .st 8 (.l 3) (.t 37)⟩⟩])
 (.seq (.reg [.mt 39 (.l 0),
  .g ⟨(.t 40), .yes, .cs 47 p47 [(.t 39), (.c (.d (.flat (Value.string ⟨#[105, 115]⟩))))]⟩,
  .g ⟨(.l 38), .yes, .mv (.t 40)⟩])
 (.cond (.l 38) (.drw [(.l 0)] [.st ⟨true, false, ⟨(.t 41), .yes, .mv (.l 0)⟩⟩,
  .st ⟨true, false, ⟨(.t 43), .yes, .ld true 8 (.l 3)⟩⟩,
  .fl [⟨false, false, ⟨(.t 42), .yes, .cs 46 p46 [(.t 41)]⟩⟩] ⟨(.t 44), .yes, .gen (Op.buildSlice 74 1 #[(0, (Operand.tmp 43))])⟩,
  .st ⟨true, false, ⟨(.t 45), .yes, .gen (Op.build 124 #[(0, (Operand.const (Value.int IntKind.i64 16))), (4, (Operand.tmp 42)), (5, (Operand.tmp 44))])⟩⟩,
  .st ⟨false, true, ⟨.no, .yes, .st 8 (.l 3) (.t 45)⟩⟩])
 (.seq (.reg [.g ⟨(.t 11), .yes, .ld true 8 (.l 3)⟩,
  .g ⟨.no, .yes, .st 8 (.l 4) (.t 11)⟩])
 .ret))))))))))))
 (.seq (.reg [.g ⟨(.t 46), .yes, .ld true 8 (.l 3)⟩,
  .g ⟨.no, .yes, .st 8 (.l 4) (.t 46)⟩])
 .ret))), [(.c 4 true 8)]⟩
theorem x152E : EntryOK Tryz.prog mTabs 152 (.fn x152) := ⟨fnT rfl, Tryz.f152, plans 152, keeps 152, 2, Tryz.func152, rfl, by kernel_rfl, by kernel_rfl⟩
def x153 : XF := ⟨[0, 2, 3, 4, 5, 6, 7, 8, 9, 15, 71, 75, 79, 83, 87, 95, 102, 111, 117, 124, 134, 143, 148], [0], (.seq (.reg [.g ⟨(.l 2), .yes, .gen (Op.alloc 124)⟩])
 (.seq (.block 0 (.seq (.reg [.mt 10 (.l 0),
  .g ⟨(.t 11), .yes, .cs 76 p76 [(.t 10), (.c (.d (.flat (Value.int IntKind.i64 0)))), (.c (.d (.flat (Value.int IntKind.i64 2)))), (.c (.d (.flat (Value.string ⟨#[]⟩))))]⟩,
  .g ⟨(.l 9), .yes, .mv (.t 11)⟩])
 (.cond (.l 9) (.seq (.reg [.mt 12 (.l 0),
  .g ⟨(.t 13), .yes, .cs 130 p130 [(.t 12), (.c (.d (.flat (Value.int IntKind.i64 2147483647))))]⟩,
  .g ⟨(.t 14), .yes, .gen (Op.build 124 #[(0, (Operand.const (Value.int IntKind.i64 1))), (1, (Operand.tmp 13))])⟩,
  .g ⟨.no, .yes, .st 8 (.l 2) (.t 14)⟩])
 .ret)
 (.seq (.drw [] [.st ⟨true, false, ⟨(.t 16), .yes, .mv (.l 0)⟩⟩,
  .st ⟨false, true, ⟨(.t 17), .yes, .cs 76 p76 [(.t 16), (.c (.d (.flat (Value.int IntKind.i64 0)))), (.c (.d (.flat (Value.int IntKind.i64 3)))), (.c (.d (.flat (Value.string ⟨#[]⟩))))]⟩⟩,
  .st ⟨true, false, ⟨(.t 18), .yes, .mv (.t 17)⟩⟩,
  .st ⟨true, false, ⟨(.t 19), (.g (.t 18) false), .mv (.l 0)⟩⟩,
  .st ⟨true, false, ⟨(.t 20), (.g (.t 18) false), .nc (.t 19)⟩⟩,
  .st ⟨true, false, ⟨(.t 21), (.g (.t 18) false), .fa 3 (.t 20)⟩⟩,
  .st ⟨true, false, ⟨(.t 22), (.g (.t 18) false), .ld false 1 (.t 21)⟩⟩,
  .st ⟨true, false, ⟨(.t 23), (.g (.t 18) false), .bin BinOp.eql (.t 22) (.c (.d (.flat (Value.int IntKind.i64 0)))) (Op.binOp BinOp.eql 3 (Operand.tmp 22) (Operand.const (Value.int IntKind.i64 0)) 3)⟩⟩,
  .st ⟨true, false, ⟨(.t 24), (.g (.t 18) false), .mv (.t 23)⟩⟩,
  .st ⟨true, false, ⟨(.t 25), (.g (.t 24) true), .mv (.l 0)⟩⟩,
  .st ⟨true, false, ⟨(.t 26), (.g (.t 24) true), .nc (.t 25)⟩⟩,
  .st ⟨true, false, ⟨(.t 27), (.g (.t 24) true), .fa 2 (.t 26)⟩⟩,
  .st ⟨true, false, ⟨(.t 28), (.g (.t 24) true), .ld false 1 (.t 27)⟩⟩,
  .st ⟨true, false, ⟨(.t 29), (.g (.t 24) true), .mv (.l 0)⟩⟩,
  .st ⟨true, false, ⟨(.t 30), (.g (.t 24) true), .nc (.t 29)⟩⟩,
  .st ⟨true, false, ⟨(.t 31), (.g (.t 24) true), .fa 0 (.t 30)⟩⟩,
  .st ⟨true, false, ⟨(.t 32), (.g (.t 24) true), .ld false 1 (.t 31)⟩⟩,
  .st ⟨true, false, ⟨(.t 33), (.g (.t 24) true), .lenr (.t 32)⟩⟩,
  .st ⟨true, false, ⟨(.t 34), (.g (.t 24) true), .bin BinOp.lss (.t 28) (.t 33) (Op.binOp BinOp.lss 3 (Operand.tmp 28) (Operand.tmp 33) 3)⟩⟩,
  .st ⟨true, false, ⟨(.t 35), (.g (.t 18) false), .pick (.t 24) (.t 34) (.c (.d (.flat (Value.bool false))))⟩⟩,
  .st ⟨true, false, ⟨(.t 36), (.g (.t 18) false), .mv (.t 35)⟩⟩,
  .st ⟨true, false, ⟨(.t 37), (.g (.t 36) true), .mv (.l 0)⟩⟩,
  .st ⟨true, false, ⟨(.t 38), (.g (.t 36) true), .nc (.t 37)⟩⟩,
  .st ⟨true, false, ⟨(.t 39), (.g (.t 36) true), .fa 0 (.t 38)⟩⟩,
  .st ⟨true, false, ⟨(.t 40), (.g (.t 36) true), .ld false 1 (.t 39)⟩⟩,
  .st ⟨true, false, ⟨(.t 41), (.g (.t 36) true), .mv (.l 0)⟩⟩,
  .st ⟨true, false, ⟨(.t 42), (.g (.t 36) true), .nc (.t 41)⟩⟩,
  .st ⟨true, false, ⟨(.t 43), (.g (.t 36) true), .fa 2 (.t 42)⟩⟩,
  .st ⟨true, false, ⟨(.t 44), (.g (.t 36) true), .ld false 1 (.t 43)⟩⟩,
  .st ⟨true, false, ⟨(.t 45), (.g (.t 36) true), .ia 3 (.t 40) (.t 44)⟩⟩,
  .st ⟨true, false, ⟨(.t 46), (.g (.t 36) true), .fa 0 (.t 45)⟩⟩,
  .st ⟨true, false, ⟨(.t 47), (.g (.t 36) true), .ld false 1 (.t 46)⟩⟩,
  .st ⟨true, false, ⟨(.t 48), (.g (.t 36) true), .bin BinOp.eql (.t 47) (.c (.d (.flat (Value.int IntKind.i64 3)))) (Op.binOp BinOp.eql 3 (Operand.tmp 47) (Operand.const (Value.int IntKind.i64 3)) 3)⟩⟩,
  .st ⟨true, false, ⟨(.t 49), (.g (.t 18) false), .pick (.t 36) (.t 48) (.c (.d (.flat (Value.bool false))))⟩⟩,
  .st ⟨true, false, ⟨(.t 50), .yes, .pick (.t 18) (.c (.d (.flat (Value.bool true)))) (.t 49)⟩⟩,
  .st ⟨true, false, ⟨(.l 15), .yes, .mv (.t 50)⟩⟩])
 (.cond (.l 15) (.seq (.reg [.mt 51 (.l 0),
  .g ⟨(.t 52), .yes, .nc (.t 51)⟩,
  .g ⟨(.t 53), .yes, .fa 2 (.t 52)⟩,
  .g ⟨(.t 54), .yes, .ld false 1 (.t 53)⟩,
  .g ⟨(.t 55), .yes, .bin BinOp.add (.t 54) (.c (.d (.flat (Value.int IntKind.i64 1)))) (Op.binOp BinOp.add 3 (Operand.tmp 54) (Operand.const (Value.int IntKind.i64 1)) 3)⟩,
  .g ⟨(.t 56), .yes, .nc (.t 51)⟩,
  .g ⟨(.t 57), .yes, .fa 2 (.t 56)⟩,
  .g ⟨.no, .yes, .st 1 (.t 57) (.t 55)⟩])
 (.seq (.drw [] [.st ⟨true, false, ⟨(.t 58), .yes, .mv (.l 0)⟩⟩,
  .st ⟨true, false, ⟨(.t 59), .yes, .nc (.t 58)⟩⟩,
  .st ⟨true, false, ⟨(.t 60), .yes, .fa 0 (.t 59)⟩⟩,
  .st ⟨true, false, ⟨(.t 61), .yes, .ld false 1 (.t 60)⟩⟩,
  .st ⟨true, false, ⟨(.t 62), .yes, .mv (.l 0)⟩⟩,
  .st ⟨true, false, ⟨(.t 63), .yes, .nc (.t 62)⟩⟩,
  .st ⟨true, false, ⟨(.t 64), .yes, .fa 2 (.t 63)⟩⟩,
  .st ⟨true, false, ⟨(.t 65), .yes, .ld false 1 (.t 64)⟩⟩,
  .st ⟨true, false, ⟨(.t 66), .yes, .bin BinOp.sub (.t 65) (.c (.d (.flat (Value.int IntKind.i64 1)))) (Op.binOp BinOp.sub 3 (Operand.tmp 65) (Operand.const (Value.int IntKind.i64 1)) 3)⟩⟩,
  .st ⟨true, false, ⟨(.t 67), .yes, .ia 3 (.t 61) (.t 66)⟩⟩,
  .st ⟨true, false, ⟨(.t 68), .yes, .fa 1 (.t 67)⟩⟩,
  .st ⟨true, false, ⟨(.t 69), .yes, .ld false 1 (.t 68)⟩⟩,
  .st ⟨true, false, ⟨(.t 70), .yes, .gen (Op.build 124 #[(0, (Operand.const (Value.int IntKind.i64 3))), (2, (Operand.tmp 69))])⟩⟩,
  .st ⟨false, true, ⟨.no, .yes, .st 8 (.l 2) (.t 70)⟩⟩])
 .ret))
 (.seq (.reg [.mt 72 (.l 0),
  .g ⟨(.t 73), .yes, .cs 47 p47 [(.t 72), (.c (.d (.flat (Value.string ⟨#[116, 114, 117, 101]⟩))))]⟩,
  .g ⟨(.l 71), .yes, .mv (.t 73)⟩])
 (.cond (.l 71) (.seq (.reg [.g ⟨(.t 74), .yes, .gen (Op.build 124 #[(0, (Operand.const (Value.int IntKind.i64 2))), (1, (Operand.const (Value.int IntKind.i32 1)))])⟩,
  .g ⟨.no, .yes, .st 8 (.l 2) (.t 74)⟩])
 .ret)
 (.seq (.reg [.mt 76 (.l 0),
  .g ⟨(.t 77), .yes, .cs 47 p47 [(.t 76), (.c (.d (.flat (Value.string ⟨#[102, 97, 108, 115, 101]⟩))))]⟩,
  .g ⟨(.l 75), .yes, .mv (.t 77)⟩])
 (.cond (.l 75) (.seq (.reg [.g ⟨(.t 78), .yes, .gen (Op.build 124 #[(0, (Operand.const (Value.int IntKind.i64 2)))])⟩,
  .g ⟨.no, .yes, .st 8 (.l 2) (.t 78)⟩])
 .ret)
 (.seq (.reg [.mt 80 (.l 0),
  .g ⟨(.t 81), .yes, .cs 47 p47 [(.t 80), (.c (.d (.flat (Value.string ⟨#[110, 117, 108, 108]⟩))))]⟩,
  .g ⟨(.l 79), .yes, .mv (.t 81)⟩])
 (.cond (.l 79) (.seq (.reg [.g ⟨(.t 82), .yes, .gen (Op.build 124 #[(0, (Operand.const (Value.int IntKind.i64 4)))])⟩,
  .g ⟨.no, .yes, .st 8 (.l 2) (.t 82)⟩])
 .ret)
 (.seq (.reg [.mt 84 (.l 0),
  .g ⟨(.t 85), .yes, .cs 47 p47 [(.t 84), (.c (.d (.flat (Value.string ⟨#[116, 104, 105, 115]⟩))))]⟩,
  .g ⟨(.l 83), .yes, .mv (.t 85)⟩])
 (.cond (.l 83) (.seq (.reg [.g ⟨(.t 86), .yes, .gen (Op.build 124 #[(0, (Operand.const (Value.int IntKind.i64 5)))])⟩,
  .g ⟨.no, .yes, .st 8 (.l 2) (.t 86)⟩])
 .ret)
 (.seq (.reg [.mt 88 (.l 0),
  .g ⟨(.t 89), .yes, .cs 47 p47 [(.t 88), (.c (.d (.flat (Value.string ⟨#[115, 117, 112, 101, 114]⟩))))]⟩,
  .g ⟨(.l 87), .yes, .mv (.t 89)⟩])
 (.cond (.l 87) (.seq (.reg [.mt 90 (.l 0),
  .g ⟨(.t 91), .yes, .cs 45 p45 [(.t 90), (.c (.d (.flat (Value.string ⟨#[46]⟩))))]⟩])
 (.seq (.reg [.mt 92 (.l 0),
  .g ⟨(.t 93), .yes, .cs 79 p79 [(.t 92)]⟩,
  .g ⟨(.l 3), .yes, .mv (.t 93)⟩])
 (.seq (.seq (.reg [.mt 94 (.l 0),
  .g ⟨(.l 95), .yes, .cs 48 p48 [(.t 94), (.c (.d (.flat (Value.string ⟨#[40]⟩))))]⟩])
 (.cond (.l 95) (.seq (.reg [.mt 96 (.l 3),
  .mt 97 (.l 0),
  .g ⟨(.t 98), .yes, .cs 131 p131 [(.t 97)]⟩,
  .g ⟨(.t 99), .yes, .gen (Op.build 124 #[(0, (Operand.const (Value.int IntKind.i64 12))), (3, (Operand.tmp 96)), (5, (Operand.tmp 98))])⟩,
  .g ⟨.no, .yes, .st 8 (.l 2) (.t 99)⟩])
 .ret)
 .skip))
 (.seq (.reg [.mt 100 (.l 3),
  .g ⟨(.t 101), .yes, .gen (Op.build 124 #[(0, (Operand.const (Value.int IntKind.i64 8))), (3, (Operand.tmp 100))])⟩,
  .g ⟨.no, .yes, .st 8 (.l 2) (.t 101)⟩])
 .ret))))
 (.seq (.reg [.mt 103 (.l 0),
  .g ⟨(.t 104), .yes, .cs 47 p47 [(.t 103), (.c (.d (.flat (Value.string ⟨#[110, 101, 119]⟩))))]⟩,
  .g ⟨(.l 102), .yes, .mv (.t 104)⟩])
 (.cond (.l 102) (.seq (.reg [.mt 105 (.l 0),
  .g ⟨(.t 106), .yes, .cs 46 p46 [(.t 105)]⟩,
  .g ⟨(.l 4), .yes, .mv (.t 106)⟩])
 (.seq (.reg [.mt 107 (.l 4),
  .mt 108 (.l 0),
  .g ⟨(.t 109), .yes, .cs 131 p131 [(.t 108)]⟩,
  .g ⟨(.t 110), .yes, .gen (Op.build 124 #[(0, (Operand.const (Value.int IntKind.i64 14))), (4, (Operand.tmp 107)), (5, (Operand.tmp 109))])⟩,
  .g ⟨.no, .yes, .st 8 (.l 2) (.t 110)⟩])
 .ret))
 (.seq (.reg [.mt 112 (.l 0),
  .g ⟨(.t 113), .yes, .cs 106 p106 [(.t 112), (.c (.d (.flat (Value.int IntKind.i64 0))))]⟩,
  .g ⟨(.l 111), .yes, .mv (.t 113)⟩])
 (.cond (.l 111) (.seq (.reg [.mt 114 (.l 0),
  .g ⟨(.t 115), .yes, .cs 79 p79 [(.t 114)]⟩,
  .g ⟨(.l 5), .yes, .mv (.t 115)⟩])
 (.seq (.seq (.reg [.mt 116 (.l 0),
  .g ⟨(.l 117), .yes, .cs 48 p48 [(.t 116), (.c (.d (.flat (Value.string ⟨#[40]⟩))))]⟩])
 (.cond (.l 117) (.seq (.reg [.mt 118 (.l 5),
  .mt 119 (.l 0),
  .g ⟨(.t 120), .yes, .cs 131 p131 [(.t 119)]⟩,
  .g ⟨(.t 121), .yes, .gen (Op.build 124 #[(0, (Operand.const (Value.int IntKind.i64 11))), (3, (Operand.tmp 118)), (5, (Operand.tmp 120))])⟩,
  .g ⟨.no, .yes, .st 8 (.l 2) (.t 121)⟩])
 .ret)
 .skip))
 (.seq (.reg [.mt 122 (.l 5),
  .g ⟨(.t 123), .yes, .gen (Op.build 124 #[(0, (Operand.const (Value.int IntKind.i64 6))), (3, (Operand.tmp 122))])⟩,
  .g ⟨.no, .yes, .st 8 (.l 2) (.t 123)⟩])
 .ret)))
 (.seq (.reg [.mt 125 (.l 0),
  .g ⟨(.t 126), .yes, .cs 73 p73 [(.t 125), (.c (.d (.flat (Value.int IntKind.i64 0))))]⟩,
  .g ⟨(.l 124), .yes, .mv (.t 126)⟩])
 (.cond (.l 124) (.seq (.reg [.mt 127 (.l 0),
  .g ⟨(.t 128), .yes, .cs 46 p46 [(.t 127)]⟩,
  .g ⟨(.l 6), .yes, .mv (.t 128)⟩])
 (.seq (.reg [.mt 129 (.l 0),
  .g ⟨(.t 130), .yes, .cs 45 p45 [(.t 129), (.c (.d (.flat (Value.string ⟨#[58, 58]⟩))))]⟩])
 (.seq (.reg [.mt 131 (.l 0),
  .g ⟨(.t 132), .yes, .cs 79 p79 [(.t 131)]⟩,
  .g ⟨(.l 7), .yes, .mv (.t 132)⟩])
 (.seq (.seq (.reg [.mt 133 (.l 0),
  .g ⟨(.l 134), .yes, .cs 48 p48 [(.t 133), (.c (.d (.flat (Value.string ⟨#[40]⟩))))]⟩])
 (.cond (.l 134) (.seq (.reg [.mt 135 (.l 6),
  .mt 136 (.l 7),
  .mt 137 (.l 0),
  .g ⟨(.t 138), .yes, .cs 131 p131 [(.t 137)]⟩,
  .g ⟨(.t 139), .yes, .gen (Op.build 124 #[(0, (Operand.const (Value.int IntKind.i64 13))), (4, (Operand.tmp 135)), (3, (Operand.tmp 136)), (5, (Operand.tmp 138))])⟩,
  .g ⟨.no, .yes, .st 8 (.l 2) (.t 139)⟩])
 .ret)
 .skip))
 (.seq (.reg [.mt 140 (.l 6),
  .mt 141 (.l 7),
  .g ⟨(.t 142), .yes, .gen (Op.build 124 #[(0, (Operand.const (Value.int IntKind.i64 9))), (4, (Operand.tmp 140)), (3, (Operand.tmp 141))])⟩,
  .g ⟨.no, .yes, .st 8 (.l 2) (.t 142)⟩])
 .ret)))))
 (.seq (.reg [.mt 144 (.l 0),
  .g ⟨(.t 145), .yes, .cs 48 p48 [(.t 144), (.c (.d (.flat (Value.string ⟨#[40]⟩))))]⟩,
  .g ⟨(.l 143), .yes, .mv (.t 145)⟩])
 (.cond (.l 143) (.seq (.seq (.reg [.mt 146 (.l 0),
  .g ⟨(.t 147), .yes, .cs 104 p104 [(.t 146)]⟩,
  .g ⟨(.l 148), .yes, .not (.t 147)⟩])
 (.cond (.l 148) (.seq (.reg [.g ⟨(.t 149), .yes, .gen (Op.build 124 #[])⟩,
  .g ⟨.no, .yes, .st 8 (.l 2) (.t 149)⟩])
 .ret)
 .skip))
 (.seq (.reg [.mt 150 (.l 0),
  .g ⟨(.t 151), .yes, .nc (.t 150)⟩,
  .g ⟨(.t 152), .yes, .fa 2 (.t 151)⟩,
  .g ⟨(.t 153), .yes, .ld false 1 (.t 152)⟩,
  .g ⟨(.t 154), .yes, .bin BinOp.add (.t 153) (.c (.d (.flat (Value.int IntKind.i64 1)))) (Op.binOp BinOp.add 3 (Operand.tmp 153) (Operand.const (Value.int IntKind.i64 1)) 3)⟩,
  .g ⟨(.t 155), .yes, .nc (.t 150)⟩,
  .g ⟨(.t 156), .yes, .fa 2 (.t 155)⟩,
  .g ⟨.no, .yes, .st 1 (.t 156) (.t 154)⟩])
 (.seq (.reg [.mt 157 (.l 0),
  .g ⟨(.t 158), .yes, .cs 81 p81 [(.t 157)]⟩,
  .g ⟨(.l 8), .yes, .gen (Op.alloc 124)⟩,
  .g ⟨.no, .yes, .st 8 (.l 8) (.t 158)⟩])
 (.seq (.reg [.mt 159 (.l 0),
  .g ⟨(.t 160), .yes, .cs 45 p45 [(.t 159), (.c (.d (.flat (Value.string ⟨#[41]⟩))))]⟩])
 (.seq (.reg [.mt 161 (.l 0),
  .g ⟨(.t 162), .yes, .nc (.t 161)⟩,
  .g ⟨(.t 163), .yes, .fa 5 (.t 162)⟩,
  .g ⟨(.t 164), .yes, .ld false 1 (.t 163)⟩,
  .g ⟨(.t 165), .yes, .bin BinOp.sub (.t 164) (.c (.d (.flat (Value.int IntKind.i64 1)))) (Op.binOp BinOp.sub 3 (Operand.tmp 164) (Operand.const (Value.int IntKind.i64 1)) 3)⟩,
  .g ⟨(.t 166), .yes, .nc (.t 161)⟩,
  .g ⟨(.t 167), .yes, .fa 5 (.t 166)⟩,
  .g ⟨.no, .yes, .st 1 (.t 167) (.t 165)⟩])
 (.seq (.reg [.g ⟨(.t 168), .yes, .ld true 8 (.l 8)⟩,
  .g ⟨.no, .yes, .st 8 (.l 2) (.t 168)⟩])
 .ret))))))
 .skip)))))))))))))))))))))))
 (.seq (.reg [.mt 169 (.l 0),
  .g ⟨(.t 170), .yes, .cs 72 p72 [(.t 169), (.c (.d (.flat (Value.int IntKind.i64 3))))]⟩])
 (.seq (.reg [.g ⟨(.t 171), .yes, .gen (Op.build 124 #[])⟩,
  .g ⟨.no, .yes, .st 8 (.l 2) (.t 171)⟩])
 .ret)))), [(.c 2 true 8)]⟩
theorem x153E : EntryOK Tryz.prog mTabs 153 (.fn x153) := ⟨fnT rfl, Tryz.f153, plans 153, keeps 153, 1, Tryz.func153, rfl, by kernel_rfl, by kernel_rfl⟩
def x154 : XF := ⟨[0, 1, 4, 5, 10, 14, 27], [0, 1], (.seq (.reg [.g ⟨(.l 4), .yes, .mv (.c (.d (.flat (Value.bool false))))⟩])
 (.seq (.seq (.reg [.mt 6 (.l 0),
  .g ⟨(.t 7), .yes, .lenr (.t 6)⟩,
  .mt 8 (.l 1),
  .g ⟨(.t 9), .yes, .lenr (.t 8)⟩,
  .g ⟨(.l 10), .yes, .bin BinOp.neq (.t 7) (.t 9) (Op.binOp BinOp.neq 3 (Operand.tmp 7) (Operand.tmp 9) 3)⟩])
 (.cond (.l 10) (.seq (.reg [.g ⟨(.l 4), .yes, .mv (.c (.d (.flat (Value.bool false))))⟩])
 .ret)
 .skip))
 (.seq (.seq (.reg [.g ⟨(.l 5), .yes, .mv (.c (.d (.flat (Value.int IntKind.i64 0))))⟩])
 (.block 0 (.loop (some [0, 1, 5]) (.seq (.seq (.reg [.mt 11 (.l 5),
  .mt 12 (.l 0),
  .g ⟨(.t 13), .yes, .lenr (.t 12)⟩,
  .g ⟨(.l 14), .yes, .bin BinOp.lss (.t 11) (.t 13) (Op.binOp BinOp.lss 3 (Operand.tmp 11) (Operand.tmp 13) 3)⟩])
 (.cond (.l 14) .skip
 (.exit 0)))
 (.seq (.block 1 (.seq (.drw [] [.st ⟨true, false, ⟨(.t 17), .yes, .mv (.l 0)⟩⟩,
  .st ⟨true, false, ⟨(.t 18), .yes, .mv (.l 5)⟩⟩,
  .st ⟨true, false, ⟨(.t 19), .yes, .ia 2 (.t 17) (.t 18)⟩⟩,
  .st ⟨true, false, ⟨(.t 20), .yes, .fa 0 (.t 19)⟩⟩,
  .st ⟨true, false, ⟨(.t 21), .yes, .ld false 1 (.t 20)⟩⟩,
  .st ⟨true, false, ⟨(.t 22), .yes, .mv (.l 1)⟩⟩,
  .st ⟨true, false, ⟨(.t 23), .yes, .mv (.l 5)⟩⟩,
  .st ⟨true, false, ⟨(.t 24), .yes, .ia 2 (.t 22) (.t 23)⟩⟩,
  .st ⟨true, false, ⟨(.t 25), .yes, .fa 0 (.t 24)⟩⟩,
  .st ⟨true, false, ⟨(.t 26), .yes, .ld false 1 (.t 25)⟩⟩,
  .st ⟨true, false, ⟨(.l 27), .yes, .bin BinOp.neq (.t 21) (.t 26) (Op.binOp BinOp.neq 9 (Operand.tmp 21) (Operand.tmp 26) 9)⟩⟩])
 (.cond (.l 27) (.seq (.reg [.g ⟨(.l 4), .yes, .mv (.c (.d (.flat (Value.bool false))))⟩])
 .ret)
 .skip)))
 (.reg [.mt 15 (.l 5),
  .g ⟨(.t 16), .yes, .bin BinOp.add (.t 15) (.c (.d (.flat (Value.int IntKind.i64 1)))) (Op.binOp BinOp.add 3 (Operand.tmp 15) (Operand.const (Value.int IntKind.i64 1)) 3)⟩,
  .g ⟨(.l 5), .yes, .mv (.t 16)⟩]))))))
 (.seq (.reg [.g ⟨(.l 4), .yes, .mv (.c (.d (.flat (Value.bool true))))⟩])
 .ret)))), [(.t 4)]⟩
theorem x154E : EntryOK Tryz.prog mTabs 154 (.fn x154) := ⟨fnT rfl, Tryz.f154, plans 154, keeps 154, 2, Tryz.func154, rfl, by kernel_rfl, by kernel_rfl⟩
def x155 : XF := ⟨[0, 1, 2, 3, 5, 6, 7, 8, 16, 34], [0, 1, 2], (.seq (.reg [.g ⟨(.l 3), .yes, .gen (Op.box 26 (Operand.tmp 0))⟩,
  .g ⟨(.l 5), .yes, .gen (Op.box 98 (Operand.tmp 2))⟩,
  .g ⟨(.l 6), .yes, .mv (.c (.d (.flat (Value.int IntKind.i64 0))))⟩])
 (.seq (.reg [.g ⟨(.t 9), .yes, .ld true 1 (.l 3)⟩,
  .mt 10 (.l 1),
  .g ⟨(.t 11), .yes, .cs 68 p68 [(.t 9), (.t 10)]⟩,
  .g ⟨(.l 7), .yes, .gen (Op.alloc 37)⟩,
  .g ⟨.no, .yes, .st 4 (.l 7) (.t 11)⟩])
 (.seq (.seq (.reg [.g ⟨(.l 8), .yes, .mv (.c (.d (.flat (Value.int IntKind.i64 0))))⟩])
 (.block 0 (.loop (some [5, 7, 8]) (.seq (.seq (.reg [.mt 12 (.l 8),
  .g ⟨(.t 13), .yes, .fa 3 (.l 7)⟩,
  .g ⟨(.t 14), .yes, .ld false 1 (.t 13)⟩,
  .g ⟨(.t 15), .yes, .lenr (.t 14)⟩,
  .g ⟨(.l 16), .yes, .bin BinOp.lss (.t 12) (.t 15) (Op.binOp BinOp.lss 3 (Operand.tmp 12) (Operand.tmp 15) 3)⟩])
 (.cond (.l 16) .skip
 (.exit 0)))
 (.seq (.block 1 (.seq (.drw [] [.st ⟨true, false, ⟨(.t 19), .yes, .fa 3 (.l 7)⟩⟩,
  .st ⟨true, false, ⟨(.t 20), .yes, .ld false 1 (.t 19)⟩⟩,
  .st ⟨true, false, ⟨(.t 21), .yes, .mv (.l 8)⟩⟩,
  .st ⟨true, false, ⟨(.t 22), .yes, .ia 6 (.t 20) (.t 21)⟩⟩,
  .st ⟨true, false, ⟨(.t 23), .yes, .fa 1 (.t 22)⟩⟩,
  .st ⟨true, false, ⟨(.t 24), .yes, .ld false 1 (.t 23)⟩⟩,
  .st ⟨true, false, ⟨(.t 25), .yes, .not (.t 24)⟩⟩,
  .st ⟨true, false, ⟨(.t 26), .yes, .mv (.t 25)⟩⟩,
  .st ⟨true, false, ⟨(.t 27), (.g (.t 26) true), .fa 3 (.l 7)⟩⟩,
  .st ⟨true, false, ⟨(.t 28), (.g (.t 26) true), .ld false 1 (.t 27)⟩⟩,
  .st ⟨true, false, ⟨(.t 29), (.g (.t 26) true), .mv (.l 8)⟩⟩,
  .st ⟨true, false, ⟨(.t 30), (.g (.t 26) true), .ia 6 (.t 28) (.t 29)⟩⟩,
  .st ⟨true, false, ⟨(.t 31), (.g (.t 26) true), .ld true 6 (.t 30)⟩⟩,
  .st ⟨true, false, ⟨(.t 32), (.g (.t 26) true), .ld true 6 (.l 5)⟩⟩,
  .st ⟨false, true, ⟨(.t 33), (.g (.t 26) true), .cs 140 p140 [(.t 31), (.t 32)]⟩⟩,
  .st ⟨true, false, ⟨(.l 34), .yes, .pick (.t 26) (.t 33) (.c (.d (.flat (Value.bool false))))⟩⟩])
 (.cond (.l 34) (.seq (.reg [.mt 35 (.l 8),
  .g ⟨(.l 6), .yes, .mv (.t 35)⟩])
 .ret)
 .skip)))
 (.reg [.mt 17 (.l 8),
  .g ⟨(.t 18), .yes, .bin BinOp.add (.t 17) (.c (.d (.flat (Value.int IntKind.i64 1)))) (Op.binOp BinOp.add 3 (Operand.tmp 17) (Operand.const (Value.int IntKind.i64 1)) 3)⟩,
  .g ⟨(.l 8), .yes, .mv (.t 18)⟩]))))))
 (.seq (.reg [.g ⟨(.l 6), .yes, .mv (.c (.d (.flat (Value.int IntKind.i64 (-1)))))⟩])
 .ret)))), [(.t 6)]⟩
theorem x155E : EntryOK Tryz.prog mTabs 155 (.fn x155) := ⟨fnT rfl, Tryz.f155, plans 155, keeps 155, 3, Tryz.func155, rfl, by kernel_rfl, by kernel_rfl⟩
def x156 : XF := ⟨[0, 1, 2, 4, 5, 11, 21], [0, 1], (.seq (.reg [.g ⟨(.l 2), .yes, .gen (Op.box 166 (Operand.tmp 0))⟩,
  .g ⟨(.l 4), .yes, .mv (.c (.d (.flat (Value.string ⟨#[]⟩))))⟩])
 (.seq (.seq (.reg [.g ⟨(.t 6), .yes, .fa 2 (.l 2)⟩,
  .g ⟨(.t 7), .yes, .ld false 1 (.t 6)⟩,
  .g ⟨(.t 8), .yes, .lenr (.t 7)⟩,
  .g ⟨(.t 9), .yes, .bin BinOp.sub (.t 8) (.c (.d (.flat (Value.int IntKind.i64 1)))) (Op.binOp BinOp.sub 3 (Operand.tmp 8) (Operand.const (Value.int IntKind.i64 1)) 3)⟩,
  .g ⟨(.l 5), .yes, .mv (.t 9)⟩])
 (.block 0 (.loop (some [1, 2, 5]) (.seq (.seq (.reg [.mt 10 (.l 5),
  .g ⟨(.l 11), .yes, .bin BinOp.geq (.t 10) (.c (.d (.flat (Value.int IntKind.i64 0)))) (Op.binOp BinOp.geq 3 (Operand.tmp 10) (Operand.const (Value.int IntKind.i64 0)) 3)⟩])
 (.cond (.l 11) .skip
 (.exit 0)))
 (.seq (.block 1 (.seq (.reg [.g ⟨(.t 14), .yes, .fa 2 (.l 2)⟩,
  .g ⟨(.t 15), .yes, .ld false 1 (.t 14)⟩,
  .mt 16 (.l 5),
  .g ⟨(.t 17), .yes, .ia 2 (.t 15) (.t 16)⟩,
  .g ⟨(.t 18), .yes, .fa 1 (.t 17)⟩,
  .g ⟨(.t 19), .yes, .ld false 1 (.t 18)⟩,
  .mt 20 (.l 1),
  .g ⟨(.l 21), .yes, .bin BinOp.eql (.t 19) (.t 20) (Op.binOp BinOp.eql 9 (Operand.tmp 19) (Operand.tmp 20) 9)⟩])
 (.cond (.l 21) (.seq (.reg [.g ⟨(.t 22), .yes, .fa 2 (.l 2)⟩,
  .g ⟨(.t 23), .yes, .ld false 1 (.t 22)⟩,
  .mt 24 (.l 5),
  .g ⟨(.t 25), .yes, .ia 2 (.t 23) (.t 24)⟩,
  .g ⟨(.t 26), .yes, .fa 0 (.t 25)⟩,
  .g ⟨(.t 27), .yes, .ld false 1 (.t 26)⟩,
  .g ⟨(.l 4), .yes, .mv (.t 27)⟩])
 .ret)
 .skip)))
 (.reg [.mt 12 (.l 5),
  .g ⟨(.t 13), .yes, .bin BinOp.sub (.t 12) (.c (.d (.flat (Value.int IntKind.i64 1)))) (Op.binOp BinOp.sub 3 (Operand.tmp 12) (Operand.const (Value.int IntKind.i64 1)) 3)⟩,
  .g ⟨(.l 5), .yes, .mv (.t 13)⟩]))))))
 (.seq (.reg [.g ⟨(.l 4), .yes, .mv (.c (.d (.flat (Value.string ⟨#[]⟩))))⟩])
 .ret))), [(.t 4)]⟩
theorem x156E : EntryOK Tryz.prog mTabs 156 (.fn x156) := ⟨fnT rfl, Tryz.f156, plans 156, keeps 156, 2, Tryz.func156, rfl, by kernel_rfl, by kernel_rfl⟩
def x157 : XF := ⟨[0, 1, 2, 3, 6, 7, 8, 9, 10, 17, 28], [0, 1, 2], (.seq (.reg [.g ⟨(.l 3), .yes, .gen (Op.box 26 (Operand.tmp 0))⟩,
  .g ⟨(.l 6), .yes, .gen (Op.alloc 44)⟩,
  .g ⟨(.l 7), .yes, .mv (.c (.d (.flat (Value.bool false))))⟩])
 (.seq (.reg [.g ⟨(.t 11), .yes, .ld true 1 (.l 3)⟩,
  .mt 12 (.l 1),
  .g ⟨(.t 13), .yes, .cs 67 p67 [(.t 11), (.t 12)]⟩,
  .g ⟨(.l 8), .yes, .mv (.t 13)⟩])
 (.seq (.seq (.reg [.g ⟨(.l 9), .yes, .mv (.c (.d (.flat (Value.int IntKind.i64 0))))⟩])
 (.block 0 (.loop (some [2, 3, 6, 8, 9]) (.seq (.seq (.reg [.mt 14 (.l 9),
  .mt 15 (.l 8),
  .g ⟨(.t 16), .yes, .lenr (.t 15)⟩,
  .g ⟨(.l 17), .yes, .bin BinOp.lss (.t 14) (.t 16) (Op.binOp BinOp.lss 3 (Operand.tmp 14) (Operand.tmp 16) 3)⟩])
 (.cond (.l 17) .skip
 (.exit 0)))
 (.seq (.block 1 (.seq (.drw [] [.st ⟨true, false, ⟨(.t 20), .yes, .ld true 1 (.l 3)⟩⟩,
  .st ⟨true, false, ⟨(.t 21), .yes, .mv (.l 8)⟩⟩,
  .st ⟨true, false, ⟨(.t 22), .yes, .mv (.l 9)⟩⟩,
  .st ⟨true, false, ⟨(.t 23), .yes, .ia 1 (.t 21) (.t 22)⟩⟩,
  .st ⟨true, false, ⟨(.t 24), .yes, .ld false 1 (.t 23)⟩⟩,
  .st ⟨true, false, ⟨(.t 25), .yes, .mv (.l 2)⟩⟩,
  .st ⟨false, true, ⟨(.t 26), .yes, .cs 42 p42 [(.t 20), (.t 24), (.t 25)]⟩⟩,
  .st ⟨true, false, ⟨(.l 10), .yes, .mv (.t 26)⟩⟩])
 (.seq (.reg [.mt 27 (.l 10),
  .g ⟨(.l 28), .yes, .bin BinOp.geq (.t 27) (.c (.d (.flat (Value.int IntKind.i64 0)))) (Op.binOp BinOp.geq 3 (Operand.tmp 27) (Operand.const (Value.int IntKind.i64 0)) 3)⟩])
 (.cond (.l 28) (.seq (.reg [.mt 29 (.l 8),
  .mt 30 (.l 9),
  .g ⟨(.t 31), .yes, .ia 1 (.t 29) (.t 30)⟩,
  .g ⟨(.t 32), .yes, .ld false 1 (.t 31)⟩,
  .mt 33 (.l 10),
  .g ⟨(.t 34), .yes, .gen (Op.build 44 #[(0, (Operand.tmp 32)), (1, (Operand.tmp 33))])⟩,
  .g ⟨.no, .yes, .st 2 (.l 6) (.t 34)⟩,
  .g ⟨(.l 7), .yes, .mv (.c (.d (.flat (Value.bool true))))⟩])
 .ret)
 .skip))))
 (.reg [.mt 18 (.l 9),
  .g ⟨(.t 19), .yes, .bin BinOp.add (.t 18) (.c (.d (.flat (Value.int IntKind.i64 1)))) (Op.binOp BinOp.add 3 (Operand.tmp 18) (Operand.const (Value.int IntKind.i64 1)) 3)⟩,
  .g ⟨(.l 9), .yes, .mv (.t 19)⟩]))))))
 (.seq (.reg [.g ⟨(.t 35), .yes, .gen (Op.build 44 #[])⟩,
  .g ⟨.no, .yes, .st 2 (.l 6) (.t 35)⟩,
  .g ⟨(.l 7), .yes, .mv (.c (.d (.flat (Value.bool false))))⟩])
 .ret)))), [(.c 6 true 2), (.t 7)]⟩
theorem x157E : EntryOK Tryz.prog mTabs 157 (.fn x157) := ⟨fnT rfl, Tryz.f157, plans 157, keeps 157, 3, Tryz.func157, rfl, by kernel_rfl, by kernel_rfl⟩
def x158 : XF := ⟨[0, 1, 2, 3, 4, 8, 9], [0, 1, 2, 3], (.seq (.reg [.g ⟨(.l 4), .yes, .gen (Op.box 26 (Operand.tmp 0))⟩,
  .g ⟨(.l 8), .yes, .gen (Op.alloc 44)⟩,
  .g ⟨(.l 9), .yes, .mv (.c (.d (.flat (Value.int IntKind.i64 0))))⟩])
 (.seq (.drw [(.l 1), (.l 2)] [.st ⟨true, false, ⟨(.t 10), .yes, .ld true 1 (.l 4)⟩⟩,
  .st ⟨true, false, ⟨(.t 11), .yes, .ld true 1 (.l 4)⟩⟩,
  .st ⟨true, false, ⟨(.t 12), .yes, .mv (.l 1)⟩⟩,
  .st ⟨true, false, ⟨(.t 13), .yes, .mv (.l 2)⟩⟩,
  .st ⟨true, false, ⟨(.t 15), .yes, .mv (.l 3)⟩⟩,
  .st ⟨false, false, ⟨(.t 14), .yes, .cs 164 p164 [(.t 11), (.t 12), (.t 13)]⟩⟩,
  .st ⟨false, true, ⟨(.t 16), .yes, .cs 150 p150 [(.t 10), (.t 14), (.t 15)]⟩⟩,
  .st ⟨true, false, ⟨(.t 17), .yes, .ex (.t 16) 0⟩⟩,
  .st ⟨true, false, ⟨(.t 18), .yes, .ex (.t 16) 1⟩⟩,
  .st ⟨false, true, ⟨.no, .yes, .st 2 (.l 8) (.t 17)⟩⟩,
  .st ⟨true, false, ⟨(.l 9), .yes, .mv (.t 18)⟩⟩])
 .ret)), [(.c 8 true 2), (.t 9)]⟩
theorem x158E : EntryOK Tryz.prog mTabs 158 (.fn x158) := ⟨fnT rfl, Tryz.f158, plans 158, keeps 158, 4, Tryz.func158, rfl, by kernel_rfl, by kernel_rfl⟩
def x159 : XF := ⟨[0, 2], [0], (.seq (.reg [.g ⟨(.l 2), .yes, .mv (.c (.d (.flat (Value.bool false))))⟩])
 (.seq (.reg [.mt 3 (.l 0),
  .g ⟨(.t 4), .yes, .bin BinOp.eql (.t 3) (.c (.d (.flat (Value.string ⟨#[105, 110, 116]⟩)))) (Op.binOp BinOp.eql 9 (Operand.tmp 3) (Operand.const (Value.string ⟨#[105, 110, 116]⟩)) 9)⟩,
  .mt 5 (.t 4),
  .g ⟨(.t 6), (.g (.t 5) false), .mv (.l 0)⟩,
  .g ⟨(.t 7), (.g (.t 5) false), .bin BinOp.eql (.t 6) (.c (.d (.flat (Value.string ⟨#[98, 111, 111, 108, 101, 97, 110]⟩)))) (Op.binOp BinOp.eql 9 (Operand.tmp 6) (Operand.const (Value.string ⟨#[98, 111, 111, 108, 101, 97, 110]⟩)) 9)⟩,
  .g ⟨(.t 8), .yes, .pick (.t 5) (.c (.d (.flat (Value.bool true)))) (.t 7)⟩,
  .mt 9 (.t 8),
  .g ⟨(.t 10), (.g (.t 9) false), .mv (.l 0)⟩,
  .g ⟨(.t 11), (.g (.t 9) false), .bin BinOp.eql (.t 10) (.c (.d (.flat (Value.string ⟨#[83, 116, 114, 105, 110, 103]⟩)))) (Op.binOp BinOp.eql 9 (Operand.tmp 10) (Operand.const (Value.string ⟨#[83, 116, 114, 105, 110, 103]⟩)) 9)⟩,
  .g ⟨(.t 12), .yes, .pick (.t 9) (.c (.d (.flat (Value.bool true)))) (.t 11)⟩,
  .g ⟨(.l 2), .yes, .mv (.t 12)⟩])
 .ret)), [(.t 2)]⟩
theorem x159E : EntryOK Tryz.prog mTabs 159 (.fn x159) := ⟨fnT rfl, Tryz.f159, plans 159, keeps 159, 1, Tryz.func159, rfl, by kernel_rfl, by kernel_rfl⟩
def x160 : XF := ⟨[0, 1, 3, 4, 5, 6, 7, 8, 9, 10, 11, 14, 20, 29, 38, 83, 96, 113, 128, 144, 150, 157, 175, 179, 193, 207], [0, 1], (.seq (.reg [.g ⟨(.l 3), .yes, .gen (Op.box 126 (Operand.tmp 1))⟩,
  .g ⟨(.l 4), .yes, .gen (Op.alloc 126)⟩,
  .g ⟨(.l 5), .yes, .mv (.c (.d (.flat (Value.int IntKind.i64 0))))⟩])
 (.seq (.reg [.g ⟨(.l 6), .yes, .gen (Op.alloc 124)⟩])
 (.seq (.reg [.g ⟨(.l 7), .yes, .mv (.c (.d (.flat (Value.int IntKind.i64 0))))⟩])
 (.seq (.reg [.g ⟨(.t 12), .yes, .fa 8 (.l 3)⟩,
  .g ⟨.no, .yes, .st 1 (.t 12) (.c (.d (.flat (Value.int IntKind.i64 0))))⟩])
 (.seq (.seq (.reg [.g ⟨(.t 13), .yes, .fa 0 (.l 3)⟩,
  .g ⟨(.l 14), .yes, .ld false 1 (.t 13)⟩])
 (.block 0 (.seq (.reg [.g ⟨(.t 21), .yes, .bin BinOp.eql (.l 14) (.c (.d (.flat (Value.int IntKind.i64 1)))) (Op.binOp BinOp.eql 3 (Operand.tmp 14) (Operand.const (Value.int IntKind.i64 1)) 3)⟩,
  .g ⟨(.l 20), .yes, .mv (.t 21)⟩])
 (.cond (.l 20) (.seq (.seq (.drw [] [.st ⟨true, false, ⟨(.t 22), .yes, .mv (.l 0)⟩⟩,
  .st ⟨true, false, ⟨(.t 23), .yes, .nc (.t 22)⟩⟩,
  .st ⟨true, false, ⟨(.t 24), .yes, .fa 0 (.t 23)⟩⟩,
  .st ⟨true, false, ⟨(.t 25), .yes, .ld true 1 (.t 24)⟩⟩,
  .st ⟨true, false, ⟨(.t 26), .yes, .fa 2 (.l 3)⟩⟩,
  .st ⟨true, false, ⟨(.t 27), .yes, .ld false 1 (.t 26)⟩⟩,
  .st ⟨false, true, ⟨(.t 28), .yes, .cs 43 p43 [(.t 25), (.t 27)]⟩⟩,
  .st ⟨true, false, ⟨(.l 29), .yes, .not (.t 28)⟩⟩])
 (.cond (.l 29) (.seq (.reg [.g ⟨(.t 30), .yes, .ld true 9 (.l 3)⟩,
  .g ⟨.no, .yes, .st 9 (.l 4) (.t 30)⟩,
  .g ⟨(.l 5), .yes, .mv (.c (.d (.flat (Value.int IntKind.i64 7))))⟩])
 .ret)
 .skip))
 (.seq (.seq (.drw [] [.st ⟨true, false, ⟨(.t 31), .yes, .mv (.l 0)⟩⟩,
  .st ⟨true, false, ⟨(.t 32), .yes, .nc (.t 31)⟩⟩,
  .st ⟨true, false, ⟨(.t 33), .yes, .fa 7 (.t 32)⟩⟩,
  .st ⟨true, false, ⟨(.t 34), .yes, .ld true 3 (.t 33)⟩⟩,
  .st ⟨true, false, ⟨(.t 35), .yes, .fa 3 (.l 3)⟩⟩,
  .st ⟨true, false, ⟨(.t 36), .yes, .ld false 1 (.t 35)⟩⟩,
  .st ⟨false, true, ⟨(.t 37), .yes, .cs 156 p156 [(.t 34), (.t 36)]⟩⟩,
  .st ⟨true, false, ⟨(.l 38), .yes, .bin BinOp.neq (.t 37) (.c (.d (.flat (Value.string ⟨#[]⟩)))) (Op.binOp BinOp.neq 9 (Operand.tmp 37) (Operand.const (Value.string ⟨#[]⟩)) 9)⟩⟩])
 (.cond (.l 38) (.seq (.reg [.g ⟨(.t 39), .yes, .ld true 9 (.l 3)⟩,
  .g ⟨.no, .yes, .st 9 (.l 4) (.t 39)⟩,
  .g ⟨(.l 5), .yes, .mv (.c (.d (.flat (Value.int IntKind.i64 6))))⟩])
 .ret)
 .skip))
 (.seq (.drw [(.l 6)] [.st ⟨true, false, ⟨(.t 41), .yes, .mv (.l 0)⟩⟩,
  .st ⟨true, false, ⟨(.t 42), .yes, .fa 4 (.l 3)⟩⟩,
  .st ⟨true, false, ⟨(.t 43), .yes, .ld false 1 (.t 42)⟩⟩,
  .st ⟨true, false, ⟨(.t 44), .yes, .ia 8 (.t 43) (.c (.d (.flat (Value.int IntKind.i64 0))))⟩⟩,
  .st ⟨true, false, ⟨(.t 45), .yes, .ld true 8 (.t 44)⟩⟩,
  .st ⟨true, false, ⟨(.t 46), .yes, .fa 2 (.l 3)⟩⟩,
  .st ⟨true, false, ⟨(.t 47), .yes, .ld false 1 (.t 46)⟩⟩,
  .st ⟨false, true, ⟨(.t 48), .yes, .cs 165 p165 [(.t 41), (.t 45), (.t 47)]⟩⟩,
  .st ⟨true, false, ⟨(.t 40), .yes, .mv (.t 48)⟩⟩,
  .st ⟨true, false, ⟨(.t 49), .yes, .ex (.t 40) 0⟩⟩,
  .st ⟨true, false, ⟨(.t 50), .yes, .ex (.t 40) 1⟩⟩,
  .st ⟨false, false, ⟨.no, .yes, .st 8 (.l 6) (.t 49)⟩⟩,
  .st ⟨true, false, ⟨(.l 7), .yes, .mv (.t 50)⟩⟩])
 (.seq (.drw [] [.st ⟨true, false, ⟨(.t 51), .yes, .mv (.l 0)⟩⟩,
  .st ⟨true, false, ⟨(.t 52), .yes, .mv (.l 0)⟩⟩,
  .st ⟨true, false, ⟨(.t 53), .yes, .nc (.t 52)⟩⟩,
  .st ⟨true, false, ⟨(.t 54), .yes, .fa 7 (.t 53)⟩⟩,
  .st ⟨true, false, ⟨(.t 55), .yes, .fa 2 (.t 54)⟩⟩,
  .st ⟨true, false, ⟨(.t 56), .yes, .ld false 1 (.t 55)⟩⟩,
  .st ⟨true, false, ⟨(.t 57), .yes, .mv (.l 0)⟩⟩,
  .st ⟨true, false, ⟨(.t 58), .yes, .nc (.t 57)⟩⟩,
  .st ⟨true, false, ⟨(.t 59), .yes, .fa 7 (.t 58)⟩⟩,
  .st ⟨true, false, ⟨(.t 60), .yes, .fa 2 (.t 59)⟩⟩,
  .st ⟨true, false, ⟨(.t 61), .yes, .ld false 1 (.t 60)⟩⟩,
  .st ⟨true, false, ⟨(.t 62), .yes, .lenr (.t 61)⟩⟩,
  .st ⟨true, false, ⟨(.t 63), .yes, .mv (.l 0)⟩⟩,
  .st ⟨true, false, ⟨(.t 64), .yes, .nc (.t 63)⟩⟩,
  .st ⟨true, false, ⟨(.t 65), .yes, .fa 7 (.t 64)⟩⟩,
  .st ⟨true, false, ⟨(.t 66), .yes, .fa 2 (.t 65)⟩⟩,
  .st ⟨true, false, ⟨(.t 67), .yes, .ld false 1 (.t 66)⟩⟩,
  .st ⟨true, false, ⟨(.t 68), .yes, .lenr (.t 67)⟩⟩,
  .st ⟨true, false, ⟨(.t 69), .yes, .gen (Op.slice 95 (Operand.tmp 56) none (some (Operand.tmp 62)) (some (Operand.tmp 68)))⟩⟩,
  .st ⟨true, false, ⟨(.t 70), .yes, .fa 2 (.l 3)⟩⟩,
  .st ⟨true, false, ⟨(.t 71), .yes, .ld false 1 (.t 70)⟩⟩,
  .st ⟨true, false, ⟨(.t 72), .yes, .fa 3 (.l 3)⟩⟩,
  .st ⟨true, false, ⟨(.t 73), .yes, .ld false 1 (.t 72)⟩⟩,
  .st ⟨true, false, ⟨(.t 74), .yes, .gen (Op.build 155 #[(0, (Operand.tmp 71)), (1, (Operand.tmp 73))])⟩⟩,
  .st ⟨false, false, ⟨(.t 75), .yes, .gen (Op.buildSlice 95 1 #[(0, (Operand.tmp 74))])⟩⟩,
  .st ⟨false, false, ⟨(.t 76), .yes, .gen (Op.call { callee := (Callee.builtin Builtin.append), args := #[(Operand.tmp 69), (Operand.tmp 75)], argTypes := #[95, 95] })⟩⟩,
  .st ⟨true, false, ⟨(.t 77), .yes, .nc (.t 51)⟩⟩,
  .st ⟨true, false, ⟨(.t 78), .yes, .fa 7 (.t 77)⟩⟩,
  .st ⟨true, false, ⟨(.t 79), .yes, .fa 2 (.t 78)⟩⟩,
  .st ⟨false, true, ⟨.no, .yes, .st 1 (.t 79) (.t 76)⟩⟩])
 (.reg [.g ⟨(.t 80), .yes, .ld true 8 (.l 6)⟩,
  .g ⟨(.t 81), .yes, .gen (Op.buildSlice 74 1 #[(0, (Operand.tmp 80))])⟩,
  .g ⟨(.t 82), .yes, .fa 4 (.l 3)⟩,
  .g ⟨.no, .yes, .st 1 (.t 82) (.t 81)⟩])))))
 (.seq (.reg [.g ⟨(.t 84), .yes, .bin BinOp.eql (.l 14) (.c (.d (.flat (Value.int IntKind.i64 2)))) (Op.binOp BinOp.eql 3 (Operand.tmp 14) (Operand.const (Value.int IntKind.i64 2)) 3)⟩,
  .g ⟨(.l 83), .yes, .mv (.t 84)⟩])
 (.cond (.l 83) (.seq (.reg [.mt 86 (.l 0),
  .g ⟨(.t 87), .yes, .fa 4 (.l 3)⟩,
  .g ⟨(.t 88), .yes, .ld false 1 (.t 87)⟩,
  .g ⟨(.t 89), .yes, .ia 8 (.t 88) (.c (.d (.flat (Value.int IntKind.i64 0))))⟩,
  .g ⟨(.t 90), .yes, .ld true 8 (.t 89)⟩,
  .g ⟨(.t 91), .yes, .cs 166 p166 [(.t 86), (.t 90)]⟩,
  .mt 85 (.t 91),
  .g ⟨(.t 92), .yes, .ex (.t 85) 0⟩,
  .g ⟨(.t 93), .yes, .ex (.t 85) 1⟩,
  .g ⟨(.t 94), .yes, .ex (.t 85) 2⟩,
  .g ⟨(.l 8), .yes, .gen (Op.alloc 124)⟩,
  .g ⟨.no, .yes, .st 8 (.l 8) (.t 92)⟩,
  .g ⟨(.l 9), .yes, .mv (.t 93)⟩,
  .g ⟨(.l 10), .yes, .mv (.t 94)⟩])
 (.seq (.seq (.reg [.mt 95 (.l 10),
  .g ⟨(.l 96), .yes, .bin BinOp.neq (.t 95) (.c (.d (.flat (Value.int IntKind.i64 0)))) (Op.binOp BinOp.neq 3 (Operand.tmp 95) (Operand.const (Value.int IntKind.i64 0)) 3)⟩])
 (.cond (.l 96) (.seq (.reg [.g ⟨(.t 97), .yes, .ld true 9 (.l 3)⟩,
  .mt 98 (.l 10),
  .g ⟨.no, .yes, .st 9 (.l 4) (.t 97)⟩,
  .g ⟨(.l 5), .yes, .mv (.t 98)⟩])
 .ret)
 .skip))
 (.seq (.reg [.mt 100 (.l 0),
  .g ⟨(.t 101), .yes, .fa 4 (.l 3)⟩,
  .g ⟨(.t 102), .yes, .ld false 1 (.t 101)⟩,
  .g ⟨(.t 103), .yes, .ia 8 (.t 102) (.c (.d (.flat (Value.int IntKind.i64 1))))⟩,
  .g ⟨(.t 104), .yes, .ld true 8 (.t 103)⟩,
  .mt 105 (.l 9),
  .g ⟨(.t 106), .yes, .cs 165 p165 [(.t 100), (.t 104), (.t 105)]⟩,
  .mt 99 (.t 106),
  .g ⟨(.t 107), .yes, .ex (.t 99) 0⟩,
  .g ⟨(.t 108), .yes, .ex (.t 99) 1⟩,
  .g ⟨.no, .yes, .st 8 (.l 6) (.t 107)⟩,
  .g ⟨(.l 7), .yes, .mv (.t 108)⟩])
 (.reg [.g ⟨(.t 109), .yes, .ld true 8 (.l 8)⟩,
  .g ⟨(.t 110), .yes, .ld true 8 (.l 6)⟩,
  .g ⟨(.t 111), .yes, .gen (Op.buildSlice 74 2 #[(0, (Operand.tmp 109)), (1, (Operand.tmp 110))])⟩,
  .g ⟨(.t 112), .yes, .fa 4 (.l 3)⟩,
  .g ⟨.no, .yes, .st 1 (.t 112) (.t 111)⟩]))))
 (.seq (.reg [.g ⟨(.t 114), .yes, .bin BinOp.eql (.l 14) (.c (.d (.flat (Value.int IntKind.i64 3)))) (Op.binOp BinOp.eql 3 (Operand.tmp 14) (Operand.const (Value.int IntKind.i64 3)) 3)⟩,
  .g ⟨(.l 113), .yes, .mv (.t 114)⟩])
 (.cond (.l 113) (.seq (.reg [.mt 116 (.l 0),
  .g ⟨(.t 117), .yes, .fa 4 (.l 3)⟩,
  .g ⟨(.t 118), .yes, .ld false 1 (.t 117)⟩,
  .g ⟨(.t 119), .yes, .ia 8 (.t 118) (.c (.d (.flat (Value.int IntKind.i64 0))))⟩,
  .g ⟨(.t 120), .yes, .ld true 8 (.t 119)⟩,
  .g ⟨(.t 121), .yes, .cs 166 p166 [(.t 116), (.t 120)]⟩,
  .mt 115 (.t 121),
  .g ⟨(.t 122), .yes, .ex (.t 115) 0⟩,
  .g ⟨(.t 123), .yes, .ex (.t 115) 1⟩,
  .g ⟨(.t 124), .yes, .ex (.t 115) 2⟩,
  .g ⟨.no, .yes, .st 8 (.l 6) (.t 122)⟩,
  .g ⟨(.l 7), .yes, .mv (.t 124)⟩])
 (.reg [.g ⟨(.t 125), .yes, .ld true 8 (.l 6)⟩,
  .g ⟨(.t 126), .yes, .gen (Op.buildSlice 74 1 #[(0, (Operand.tmp 125))])⟩,
  .g ⟨(.t 127), .yes, .fa 4 (.l 3)⟩,
  .g ⟨.no, .yes, .st 1 (.t 127) (.t 126)⟩]))
 (.seq (.seq (.reg [.g ⟨(.t 129), .yes, .bin BinOp.eql (.l 14) (.c (.d (.flat (Value.int IntKind.i64 4)))) (Op.binOp BinOp.eql 3 (Operand.tmp 14) (Operand.const (Value.int IntKind.i64 4)) 3)⟩,
  .g ⟨(.l 128), .yes, .mv (.t 129)⟩])
 (.cond (.l 128) .skip
 (.reg [.g ⟨(.t 130), .yes, .bin BinOp.eql (.l 14) (.c (.d (.flat (Value.int IntKind.i64 5)))) (Op.binOp BinOp.eql 3 (Operand.tmp 14) (Operand.const (Value.int IntKind.i64 5)) 3)⟩,
  .g ⟨(.l 128), .yes, .mv (.t 130)⟩])))
 (.cond (.l 128) (.seq (.reg [.mt 132 (.l 0),
  .g ⟨(.t 133), .yes, .fa 4 (.l 3)⟩,
  .g ⟨(.t 134), .yes, .ld false 1 (.t 133)⟩,
  .g ⟨(.t 135), .yes, .ia 8 (.t 134) (.c (.d (.flat (Value.int IntKind.i64 0))))⟩,
  .g ⟨(.t 136), .yes, .ld true 8 (.t 135)⟩,
  .g ⟨(.t 137), .yes, .cs 165 p165 [(.t 132), (.t 136), (.c (.d (.flat (Value.string ⟨#[98, 111, 111, 108, 101, 97, 110]⟩))))]⟩,
  .mt 131 (.t 137),
  .g ⟨(.t 138), .yes, .ex (.t 131) 0⟩,
  .g ⟨(.t 139), .yes, .ex (.t 131) 1⟩,
  .g ⟨.no, .yes, .st 8 (.l 6) (.t 138)⟩,
  .g ⟨(.l 7), .yes, .mv (.t 139)⟩])
 (.seq (.reg [.g ⟨(.t 140), .yes, .ld true 8 (.l 6)⟩,
  .g ⟨(.t 141), .yes, .gen (Op.buildSlice 74 1 #[(0, (Operand.tmp 140))])⟩,
  .g ⟨(.t 142), .yes, .fa 4 (.l 3)⟩,
  .g ⟨.no, .yes, .st 1 (.t 142) (.t 141)⟩])
 (.seq (.reg [.mt 143 (.l 7),
  .g ⟨(.l 144), .yes, .bin BinOp.eql (.t 143) (.c (.d (.flat (Value.int IntKind.i64 0)))) (Op.binOp BinOp.eql 3 (Operand.tmp 143) (Operand.const (Value.int IntKind.i64 0)) 3)⟩])
 (.cond (.l 144) (.seq (.reg [.mt 145 (.l 0),
  .g ⟨(.t 146), .yes, .ld true 9 (.l 3)⟩,
  .g ⟨(.t 147), .yes, .cs 167 p167 [(.t 145), (.t 146)]⟩,
  .g ⟨(.t 148), .yes, .ex (.t 147) 0⟩,
  .g ⟨(.t 149), .yes, .ex (.t 147) 1⟩,
  .g ⟨.no, .yes, .st 9 (.l 4) (.t 148)⟩,
  .g ⟨(.l 5), .yes, .mv (.t 149)⟩])
 .ret)
 .skip))))
 (.seq (.reg [.g ⟨(.t 151), .yes, .bin BinOp.eql (.l 14) (.c (.d (.flat (Value.int IntKind.i64 6)))) (Op.binOp BinOp.eql 3 (Operand.tmp 14) (Operand.const (Value.int IntKind.i64 6)) 3)⟩,
  .g ⟨(.l 150), .yes, .mv (.t 151)⟩])
 (.cond (.l 150) (.seq (.reg [.mt 152 (.l 0),
  .g ⟨(.t 153), .yes, .ld true 9 (.l 3)⟩,
  .g ⟨(.t 154), .yes, .cs 168 p168 [(.t 152), (.t 153)]⟩,
  .g ⟨(.t 155), .yes, .ex (.t 154) 0⟩,
  .g ⟨(.t 156), .yes, .ex (.t 154) 1⟩,
  .g ⟨.no, .yes, .st 9 (.l 4) (.t 155)⟩,
  .g ⟨(.l 5), .yes, .mv (.t 156)⟩])
 .ret)
 (.seq (.reg [.g ⟨(.t 158), .yes, .bin BinOp.eql (.l 14) (.c (.d (.flat (Value.int IntKind.i64 7)))) (Op.binOp BinOp.eql 3 (Operand.tmp 14) (Operand.const (Value.int IntKind.i64 7)) 3)⟩,
  .g ⟨(.l 157), .yes, .mv (.t 158)⟩])
 (.cond (.l 157) (.seq (.reg [.g ⟨(.l 11), .yes, .mv (.c (.d (.flat (Value.string ⟨#[]⟩))))⟩])
 (.seq (.reg [.mt 160 (.l 0),
  .g ⟨(.t 161), .yes, .fa 4 (.l 3)⟩,
  .g ⟨(.t 162), .yes, .ld false 1 (.t 161)⟩,
  .g ⟨(.t 163), .yes, .ia 8 (.t 162) (.c (.d (.flat (Value.int IntKind.i64 0))))⟩,
  .g ⟨(.t 164), .yes, .ld true 8 (.t 163)⟩,
  .g ⟨(.t 165), .yes, .cs 166 p166 [(.t 160), (.t 164)]⟩,
  .mt 159 (.t 165),
  .g ⟨(.t 166), .yes, .ex (.t 159) 0⟩,
  .g ⟨(.t 167), .yes, .ex (.t 159) 1⟩,
  .g ⟨(.t 168), .yes, .ex (.t 159) 2⟩,
  .g ⟨.no, .yes, .st 8 (.l 6) (.t 166)⟩,
  .g ⟨(.l 11), .yes, .mv (.t 167)⟩,
  .g ⟨(.l 7), .yes, .mv (.t 168)⟩])
 (.seq (.seq (.reg [.mt 169 (.l 7),
  .g ⟨(.t 170), .yes, .bin BinOp.eql (.t 169) (.c (.d (.flat (Value.int IntKind.i64 0)))) (Op.binOp BinOp.eql 3 (Operand.tmp 169) (Operand.const (Value.int IntKind.i64 0)) 3)⟩,
  .mt 171 (.t 170),
  .g ⟨(.t 172), (.g (.t 171) true), .mv (.l 11)⟩,
  .g ⟨(.t 173), (.g (.t 171) true), .cs 159 p159 [(.t 172)]⟩,
  .g ⟨(.t 174), (.g (.t 171) true), .not (.t 173)⟩,
  .g ⟨(.l 175), .yes, .pick (.t 171) (.t 174) (.c (.d (.flat (Value.bool false))))⟩])
 (.cond (.l 175) (.reg [.g ⟨(.l 7), .yes, .mv (.c (.d (.flat (Value.int IntKind.i64 14))))⟩])
 .skip))
 (.reg [.g ⟨(.t 176), .yes, .ld true 8 (.l 6)⟩,
  .g ⟨(.t 177), .yes, .gen (Op.buildSlice 74 1 #[(0, (Operand.tmp 176))])⟩,
  .g ⟨(.t 178), .yes, .fa 4 (.l 3)⟩,
  .g ⟨.no, .yes, .st 1 (.t 178) (.t 177)⟩]))))
 (.seq (.reg [.g ⟨(.t 180), .yes, .bin BinOp.eql (.l 14) (.c (.d (.flat (Value.int IntKind.i64 8)))) (Op.binOp BinOp.eql 3 (Operand.tmp 14) (Operand.const (Value.int IntKind.i64 8)) 3)⟩,
  .g ⟨(.l 179), .yes, .mv (.t 180)⟩])
 (.cond (.l 179) (.seq (.reg [.mt 182 (.l 0),
  .g ⟨(.t 183), .yes, .fa 4 (.l 3)⟩,
  .g ⟨(.t 184), .yes, .ld false 1 (.t 183)⟩,
  .g ⟨(.t 185), .yes, .ia 8 (.t 184) (.c (.d (.flat (Value.int IntKind.i64 0))))⟩,
  .g ⟨(.t 186), .yes, .ld true 8 (.t 185)⟩,
  .g ⟨(.t 187), .yes, .cs 165 p165 [(.t 182), (.t 186), (.c (.d (.flat (Value.string ⟨#[98, 111, 111, 108, 101, 97, 110]⟩))))]⟩,
  .mt 181 (.t 187),
  .g ⟨(.t 188), .yes, .ex (.t 181) 0⟩,
  .g ⟨(.t 189), .yes, .ex (.t 181) 1⟩,
  .g ⟨.no, .yes, .st 8 (.l 6) (.t 188)⟩,
  .g ⟨(.l 7), .yes, .mv (.t 189)⟩])
 (.reg [.g ⟨(.t 190), .yes, .ld true 8 (.l 6)⟩,
  .g ⟨(.t 191), .yes, .gen (Op.buildSlice 74 1 #[(0, (Operand.tmp 190))])⟩,
  .g ⟨(.t 192), .yes, .fa 4 (.l 3)⟩,
  .g ⟨.no, .yes, .st 1 (.t 192) (.t 191)⟩]))
 (.seq (.reg [.g ⟨(.t 194), .yes, .bin BinOp.eql (.l 14) (.c (.d (.flat (Value.int IntKind.i64 9)))) (Op.binOp BinOp.eql 3 (Operand.tmp 14) (Operand.const (Value.int IntKind.i64 9)) 3)⟩,
  .g ⟨(.l 193), .yes, .mv (.t 194)⟩])
 (.cond (.l 193) (.seq (.reg [.mt 196 (.l 0),
  .g ⟨(.t 197), .yes, .fa 4 (.l 3)⟩,
  .g ⟨(.t 198), .yes, .ld false 1 (.t 197)⟩,
  .g ⟨(.t 199), .yes, .ia 8 (.t 198) (.c (.d (.flat (Value.int IntKind.i64 0))))⟩,
  .g ⟨(.t 200), .yes, .ld true 8 (.t 199)⟩,
  .g ⟨(.t 201), .yes, .cs 165 p165 [(.t 196), (.t 200), (.c (.d (.flat (Value.string ⟨#[69, 120, 99, 101, 112, 116, 105, 111, 110]⟩))))]⟩,
  .mt 195 (.t 201),
  .g ⟨(.t 202), .yes, .ex (.t 195) 0⟩,
  .g ⟨(.t 203), .yes, .ex (.t 195) 1⟩,
  .g ⟨.no, .yes, .st 8 (.l 6) (.t 202)⟩,
  .g ⟨(.l 7), .yes, .mv (.t 203)⟩])
 (.reg [.g ⟨(.t 204), .yes, .ld true 8 (.l 6)⟩,
  .g ⟨(.t 205), .yes, .gen (Op.buildSlice 74 1 #[(0, (Operand.tmp 204))])⟩,
  .g ⟨(.t 206), .yes, .fa 4 (.l 3)⟩,
  .g ⟨.no, .yes, .st 1 (.t 206) (.t 205)⟩]))
 (.seq (.reg [.g ⟨(.t 208), .yes, .bin BinOp.eql (.l 14) (.c (.d (.flat (Value.int IntKind.i64 10)))) (Op.binOp BinOp.eql 3 (Operand.tmp 14) (Operand.const (Value.int IntKind.i64 10)) 3)⟩,
  .g ⟨(.l 207), .yes, .mv (.t 208)⟩])
 (.cond (.l 207) (.seq (.reg [.mt 209 (.l 0),
  .g ⟨(.t 210), .yes, .ld true 9 (.l 3)⟩,
  .g ⟨(.t 211), .yes, .cs 169 p169 [(.t 209), (.t 210)]⟩,
  .g ⟨(.t 212), .yes, .ex (.t 211) 0⟩,
  .g ⟨(.t 213), .yes, .ex (.t 211) 1⟩,
  .g ⟨.no, .yes, .st 9 (.l 4) (.t 212)⟩,
  .g ⟨(.l 5), .yes, .mv (.t 213)⟩])
 .ret)
 (.seq (.reg [.mt 15 (.l 0),
  .g ⟨(.t 16), .yes, .ld true 9 (.l 3)⟩,
  .g ⟨(.t 17), .yes, .cs 170 p170 [(.t 15), (.t 16)]⟩,
  .g ⟨(.t 18), .yes, .ex (.t 17) 0⟩,
  .g ⟨(.t 19), .yes, .ex (.t 17) 1⟩,
  .g ⟨.no, .yes, .st 9 (.l 4) (.t 18)⟩,
  .g ⟨(.l 5), .yes, .mv (.t 19)⟩])
 .ret)))))))))))))))))))))
 (.seq (.reg [.g ⟨(.t 214), .yes, .ld true 9 (.l 3)⟩,
  .mt 215 (.l 7),
  .g ⟨.no, .yes, .st 9 (.l 4) (.t 214)⟩,
  .g ⟨(.l 5), .yes, .mv (.t 215)⟩])
 .ret)))))), [(.c 4 true 9), (.t 5)]⟩
theorem x160E : EntryOK Tryz.prog mTabs 160 (.fn x160) := ⟨fnT rfl, Tryz.f160, plans 160, keeps 160, 2, Tryz.func160, rfl, by kernel_rfl, by kernel_rfl⟩
def x161 : XF := ⟨[0, 2, 3, 4, 5, 9, 17, 18, 21, 31, 54, 70], [0], (.seq (.reg [.g ⟨(.l 2), .yes, .mv (.c (.d (.flat (Value.bool false))))⟩])
 (.seq (.seq (.reg [.g ⟨(.l 3), .yes, .mv (.c (.d (.flat (Value.int IntKind.i64 0))))⟩])
 (.block 0 (.loop (some [0, 3]) (.seq (.seq (.reg [.mt 6 (.l 3),
  .mt 7 (.l 0),
  .g ⟨(.t 8), .yes, .lenr (.t 7)⟩,
  .g ⟨(.l 9), .yes, .bin BinOp.lss (.t 6) (.t 8) (Op.binOp BinOp.lss 3 (Operand.tmp 6) (Operand.tmp 8) 3)⟩])
 (.cond (.l 9) .skip
 (.exit 0)))
 (.seq (.block 1 (.seq (.reg [.mt 12 (.l 0),
  .mt 13 (.l 3),
  .g ⟨(.t 14), .yes, .ia 9 (.t 12) (.t 13)⟩,
  .g ⟨(.t 15), .yes, .ld true 9 (.t 14)⟩,
  .g ⟨(.l 4), .yes, .gen (Op.alloc 126)⟩,
  .g ⟨.no, .yes, .st 9 (.l 4) (.t 15)⟩])
 (.seq (.reg [.g ⟨(.l 5), .yes, .mv (.c (.d (.flat (Value.bool true))))⟩])
 (.seq (.seq (.reg [.g ⟨(.t 16), .yes, .fa 0 (.l 4)⟩,
  .g ⟨(.l 17), .yes, .ld false 1 (.t 16)⟩])
 (.block 2 (.seq (.seq (.reg [.g ⟨(.t 19), .yes, .bin BinOp.eql (.l 17) (.c (.d (.flat (Value.int IntKind.i64 6)))) (Op.binOp BinOp.eql 3 (Operand.tmp 17) (Operand.const (Value.int IntKind.i64 6)) 3)⟩,
  .g ⟨(.l 18), .yes, .mv (.t 19)⟩])
 (.cond (.l 18) .skip
 (.reg [.g ⟨(.t 20), .yes, .bin BinOp.eql (.l 17) (.c (.d (.flat (Value.int IntKind.i64 9)))) (Op.binOp BinOp.eql 3 (Operand.tmp 17) (Operand.const (Value.int IntKind.i64 9)) 3)⟩,
  .g ⟨(.l 18), .yes, .mv (.t 20)⟩])))
 (.cond (.l 18) (.reg [.g ⟨(.l 5), .yes, .mv (.c (.d (.flat (Value.bool false))))⟩])
 (.seq (.reg [.g ⟨(.t 22), .yes, .bin BinOp.eql (.l 17) (.c (.d (.flat (Value.int IntKind.i64 4)))) (Op.binOp BinOp.eql 3 (Operand.tmp 17) (Operand.const (Value.int IntKind.i64 4)) 3)⟩,
  .g ⟨(.l 21), .yes, .mv (.t 22)⟩])
 (.cond (.l 21) (.reg [.g ⟨(.t 23), .yes, .fa 5 (.l 4)⟩,
  .g ⟨(.t 24), .yes, .ld false 1 (.t 23)⟩,
  .g ⟨(.t 25), .yes, .cs 161 p161 [(.t 24)]⟩,
  .mt 26 (.t 25),
  .g ⟨(.t 27), (.g (.t 26) false), .fa 6 (.l 4)⟩,
  .g ⟨(.t 28), (.g (.t 26) false), .ld false 1 (.t 27)⟩,
  .g ⟨(.t 29), (.g (.t 26) false), .cs 161 p161 [(.t 28)]⟩,
  .g ⟨(.t 30), .yes, .pick (.t 26) (.c (.d (.flat (Value.bool true)))) (.t 29)⟩,
  .g ⟨(.l 5), .yes, .mv (.t 30)⟩])
 (.seq (.reg [.g ⟨(.t 32), .yes, .bin BinOp.eql (.l 17) (.c (.d (.flat (Value.int IntKind.i64 5)))) (Op.binOp BinOp.eql 3 (Operand.tmp 17) (Operand.const (Value.int IntKind.i64 5)) 3)⟩,
  .g ⟨(.l 31), .yes, .mv (.t 32)⟩])
 (.cond (.l 31) (.reg [.g ⟨(.t 33), .yes, .fa 4 (.l 4)⟩,
  .g ⟨(.t 34), .yes, .ld false 1 (.t 33)⟩,
  .g ⟨(.t 35), .yes, .lenr (.t 34)⟩,
  .g ⟨(.t 36), .yes, .bin BinOp.gtr (.t 35) (.c (.d (.flat (Value.int IntKind.i64 0)))) (Op.binOp BinOp.gtr 3 (Operand.tmp 35) (Operand.const (Value.int IntKind.i64 0)) 3)⟩,
  .mt 37 (.t 36),
  .g ⟨(.t 38), (.g (.t 37) true), .fa 4 (.l 4)⟩,
  .g ⟨(.t 39), (.g (.t 37) true), .ld false 1 (.t 38)⟩,
  .g ⟨(.t 40), (.g (.t 37) true), .ia 8 (.t 39) (.c (.d (.flat (Value.int IntKind.i64 0))))⟩,
  .g ⟨(.t 41), (.g (.t 37) true), .fa 0 (.t 40)⟩,
  .g ⟨(.t 42), (.g (.t 37) true), .ld false 1 (.t 41)⟩,
  .g ⟨(.t 43), (.g (.t 37) true), .bin BinOp.eql (.t 42) (.c (.d (.flat (Value.int IntKind.i64 2)))) (Op.binOp BinOp.eql 3 (Operand.tmp 42) (Operand.const (Value.int IntKind.i64 2)) 3)⟩,
  .g ⟨(.t 44), .yes, .pick (.t 37) (.t 43) (.c (.d (.flat (Value.bool false))))⟩,
  .mt 45 (.t 44),
  .g ⟨(.t 46), (.g (.t 45) true), .fa 4 (.l 4)⟩,
  .g ⟨(.t 47), (.g (.t 45) true), .ld false 1 (.t 46)⟩,
  .g ⟨(.t 48), (.g (.t 45) true), .ia 8 (.t 47) (.c (.d (.flat (Value.int IntKind.i64 0))))⟩,
  .g ⟨(.t 49), (.g (.t 45) true), .fa 1 (.t 48)⟩,
  .g ⟨(.t 50), (.g (.t 45) true), .ld false 1 (.t 49)⟩,
  .g ⟨(.t 51), (.g (.t 45) true), .bin BinOp.eql (.t 50) (.c (.d (.flat (Value.int IntKind.i32 1)))) (Op.binOp BinOp.eql 21 (Operand.tmp 50) (Operand.const (Value.int IntKind.i32 1)) 21)⟩,
  .g ⟨(.t 52), .yes, .pick (.t 45) (.t 51) (.c (.d (.flat (Value.bool false))))⟩,
  .g ⟨(.t 53), .yes, .not (.t 52)⟩,
  .g ⟨(.l 5), .yes, .mv (.t 53)⟩])
 (.seq (.reg [.g ⟨(.t 55), .yes, .bin BinOp.eql (.l 17) (.c (.d (.flat (Value.int IntKind.i64 10)))) (Op.binOp BinOp.eql 3 (Operand.tmp 17) (Operand.const (Value.int IntKind.i64 10)) 3)⟩,
  .g ⟨(.l 54), .yes, .mv (.t 55)⟩])
 (.cond (.l 54) (.reg [.g ⟨(.t 56), .yes, .fa 5 (.l 4)⟩,
  .g ⟨(.t 57), .yes, .ld false 1 (.t 56)⟩,
  .g ⟨(.t 58), .yes, .cs 161 p161 [(.t 57)]⟩,
  .mt 59 (.t 58),
  .g ⟨(.t 60), (.g (.t 59) false), .fa 6 (.l 4)⟩,
  .g ⟨(.t 61), (.g (.t 59) false), .ld false 1 (.t 60)⟩,
  .g ⟨(.t 62), (.g (.t 59) false), .cs 161 p161 [(.t 61)]⟩,
  .g ⟨(.t 63), .yes, .pick (.t 59) (.c (.d (.flat (Value.bool true)))) (.t 62)⟩,
  .mt 64 (.t 63),
  .g ⟨(.t 65), (.g (.t 64) true), .fa 7 (.l 4)⟩,
  .g ⟨(.t 66), (.g (.t 64) true), .ld false 1 (.t 65)⟩,
  .g ⟨(.t 67), (.g (.t 64) true), .cs 161 p161 [(.t 66)]⟩,
  .g ⟨(.t 68), .yes, .pick (.t 64) (.t 67) (.c (.d (.flat (Value.bool false))))⟩,
  .g ⟨(.l 5), .yes, .mv (.t 68)⟩])
 .skip))))))))))
 (.seq (.reg [.mt 69 (.l 5),
  .g ⟨(.l 70), .yes, .not (.t 69)⟩])
 (.cond (.l 70) (.seq (.reg [.g ⟨(.l 2), .yes, .mv (.c (.d (.flat (Value.bool false))))⟩])
 .ret)
 .skip))))))
 (.reg [.mt 10 (.l 3),
  .g ⟨(.t 11), .yes, .bin BinOp.add (.t 10) (.c (.d (.flat (Value.int IntKind.i64 1)))) (Op.binOp BinOp.add 3 (Operand.tmp 10) (Operand.const (Value.int IntKind.i64 1)) 3)⟩,
  .g ⟨(.l 3), .yes, .mv (.t 11)⟩]))))))
 (.seq (.reg [.g ⟨(.l 2), .yes, .mv (.c (.d (.flat (Value.bool true))))⟩])
 .ret))), [(.t 2)]⟩
theorem x161E : EntryOK Tryz.prog mTabs 161 (.fn x161) := ⟨fnT rfl, Tryz.f161, plans 161, keeps 161, 1, Tryz.func161, rfl, by kernel_rfl, by kernel_rfl⟩
def x162 : XF := ⟨[0, 1, 2, 3, 4, 6, 7, 13, 17, 32], [0, 1, 2], (.seq (.reg [.g ⟨(.l 3), .yes, .gen (Op.box 26 (Operand.tmp 0))⟩,
  .g ⟨(.l 4), .yes, .gen (Op.box 98 (Operand.tmp 1))⟩,
  .g ⟨(.l 6), .yes, .mv (.c (.d (.flat (Value.bool false))))⟩])
 (.seq (.seq (.reg [.g ⟨(.t 8), .yes, .fa 4 (.l 4)⟩,
  .g ⟨(.t 9), .yes, .ld false 1 (.t 8)⟩,
  .g ⟨(.t 10), .yes, .lenr (.t 9)⟩,
  .mt 11 (.l 2),
  .g ⟨(.t 12), .yes, .lenr (.t 11)⟩,
  .g ⟨(.l 13), .yes, .bin BinOp.neq (.t 10) (.t 12) (Op.binOp BinOp.neq 3 (Operand.tmp 10) (Operand.tmp 12) 3)⟩])
 (.cond (.l 13) (.seq (.reg [.g ⟨(.l 6), .yes, .mv (.c (.d (.flat (Value.bool false))))⟩])
 .ret)
 .skip))
 (.seq (.seq (.reg [.g ⟨(.l 7), .yes, .mv (.c (.d (.flat (Value.int IntKind.i64 0))))⟩])
 (.block 0 (.loop (some [2, 3, 4, 7]) (.seq (.seq (.reg [.mt 14 (.l 7),
  .mt 15 (.l 2),
  .g ⟨(.t 16), .yes, .lenr (.t 15)⟩,
  .g ⟨(.l 17), .yes, .bin BinOp.lss (.t 14) (.t 16) (Op.binOp BinOp.lss 3 (Operand.tmp 14) (Operand.tmp 16) 3)⟩])
 (.cond (.l 17) .skip
 (.exit 0)))
 (.seq (.block 1 (.seq (.drw [] [.st ⟨true, false, ⟨(.t 20), .yes, .ld true 1 (.l 3)⟩⟩,
  .st ⟨true, false, ⟨(.t 21), .yes, .mv (.l 2)⟩⟩,
  .st ⟨true, false, ⟨(.t 22), .yes, .mv (.l 7)⟩⟩,
  .st ⟨true, false, ⟨(.t 23), .yes, .ia 1 (.t 21) (.t 22)⟩⟩,
  .st ⟨true, false, ⟨(.t 24), .yes, .ld false 1 (.t 23)⟩⟩,
  .st ⟨true, false, ⟨(.t 25), .yes, .fa 4 (.l 4)⟩⟩,
  .st ⟨true, false, ⟨(.t 26), .yes, .ld false 1 (.t 25)⟩⟩,
  .st ⟨true, false, ⟨(.t 27), .yes, .mv (.l 7)⟩⟩,
  .st ⟨true, false, ⟨(.t 28), .yes, .ia 2 (.t 26) (.t 27)⟩⟩,
  .st ⟨true, false, ⟨(.t 29), .yes, .fa 0 (.t 28)⟩⟩,
  .st ⟨true, false, ⟨(.t 30), .yes, .ld false 1 (.t 29)⟩⟩,
  .st ⟨false, true, ⟨(.t 31), .yes, .cs 122 p122 [(.t 20), (.t 24), (.t 30)]⟩⟩,
  .st ⟨true, false, ⟨(.l 32), .yes, .not (.t 31)⟩⟩])
 (.cond (.l 32) (.seq (.reg [.g ⟨(.l 6), .yes, .mv (.c (.d (.flat (Value.bool false))))⟩])
 .ret)
 .skip)))
 (.reg [.mt 18 (.l 7),
  .g ⟨(.t 19), .yes, .bin BinOp.add (.t 18) (.c (.d (.flat (Value.int IntKind.i64 1)))) (Op.binOp BinOp.add 3 (Operand.tmp 18) (Operand.const (Value.int IntKind.i64 1)) 3)⟩,
  .g ⟨(.l 7), .yes, .mv (.t 19)⟩]))))))
 (.seq (.reg [.g ⟨(.l 6), .yes, .mv (.c (.d (.flat (Value.bool true))))⟩])
 .ret)))), [(.t 6)]⟩
theorem x162E : EntryOK Tryz.prog mTabs 162 (.fn x162) := ⟨fnT rfl, Tryz.f162, plans 162, keeps 162, 3, Tryz.func162, rfl, by kernel_rfl, by kernel_rfl⟩
def x163 : XF := ⟨[0, 1, 2, 3, 4, 5, 6, 7, 14, 19, 36], [0, 1, 2], (.seq (.reg [.g ⟨(.l 3), .yes, .gen (Op.box 26 (Operand.tmp 0))⟩,
  .g ⟨(.l 4), .yes, .gen (Op.box 98 (Operand.tmp 1))⟩,
  .g ⟨(.l 5), .yes, .gen (Op.box 98 (Operand.tmp 2))⟩,
  .g ⟨(.l 6), .yes, .mv (.c (.d (.flat (Value.bool false))))⟩])
 (.seq (.seq (.reg [.g ⟨(.t 8), .yes, .fa 4 (.l 4)⟩,
  .g ⟨(.t 9), .yes, .ld false 1 (.t 8)⟩,
  .g ⟨(.t 10), .yes, .lenr (.t 9)⟩,
  .g ⟨(.t 11), .yes, .fa 4 (.l 5)⟩,
  .g ⟨(.t 12), .yes, .ld false 1 (.t 11)⟩,
  .g ⟨(.t 13), .yes, .lenr (.t 12)⟩,
  .g ⟨(.l 14), .yes, .bin BinOp.neq (.t 10) (.t 13) (Op.binOp BinOp.neq 3 (Operand.tmp 10) (Operand.tmp 13) 3)⟩])
 (.cond (.l 14) (.seq (.reg [.g ⟨(.l 6), .yes, .mv (.c (.d (.flat (Value.bool false))))⟩])
 .ret)
 .skip))
 (.seq (.seq (.reg [.g ⟨(.l 7), .yes, .mv (.c (.d (.flat (Value.int IntKind.i64 0))))⟩])
 (.block 0 (.loop (some [3, 4, 5, 7]) (.seq (.seq (.reg [.mt 15 (.l 7),
  .g ⟨(.t 16), .yes, .fa 4 (.l 4)⟩,
  .g ⟨(.t 17), .yes, .ld false 1 (.t 16)⟩,
  .g ⟨(.t 18), .yes, .lenr (.t 17)⟩,
  .g ⟨(.l 19), .yes, .bin BinOp.lss (.t 15) (.t 18) (Op.binOp BinOp.lss 3 (Operand.tmp 15) (Operand.tmp 18) 3)⟩])
 (.cond (.l 19) .skip
 (.exit 0)))
 (.seq (.block 1 (.seq (.drw [] [.st ⟨true, false, ⟨(.t 22), .yes, .ld true 1 (.l 3)⟩⟩,
  .st ⟨true, false, ⟨(.t 23), .yes, .fa 4 (.l 4)⟩⟩,
  .st ⟨true, false, ⟨(.t 24), .yes, .ld false 1 (.t 23)⟩⟩,
  .st ⟨true, false, ⟨(.t 25), .yes, .mv (.l 7)⟩⟩,
  .st ⟨true, false, ⟨(.t 26), .yes, .ia 2 (.t 24) (.t 25)⟩⟩,
  .st ⟨true, false, ⟨(.t 27), .yes, .fa 0 (.t 26)⟩⟩,
  .st ⟨true, false, ⟨(.t 28), .yes, .ld false 1 (.t 27)⟩⟩,
  .st ⟨true, false, ⟨(.t 29), .yes, .fa 4 (.l 5)⟩⟩,
  .st ⟨true, false, ⟨(.t 30), .yes, .ld false 1 (.t 29)⟩⟩,
  .st ⟨true, false, ⟨(.t 31), .yes, .mv (.l 7)⟩⟩,
  .st ⟨true, false, ⟨(.t 32), .yes, .ia 2 (.t 30) (.t 31)⟩⟩,
  .st ⟨true, false, ⟨(.t 33), .yes, .fa 0 (.t 32)⟩⟩,
  .st ⟨true, false, ⟨(.t 34), .yes, .ld false 1 (.t 33)⟩⟩,
  .st ⟨false, true, ⟨(.t 35), .yes, .cs 122 p122 [(.t 22), (.t 28), (.t 34)]⟩⟩,
  .st ⟨true, false, ⟨(.l 36), .yes, .not (.t 35)⟩⟩])
 (.cond (.l 36) (.seq (.reg [.g ⟨(.l 6), .yes, .mv (.c (.d (.flat (Value.bool false))))⟩])
 .ret)
 .skip)))
 (.reg [.mt 20 (.l 7),
  .g ⟨(.t 21), .yes, .bin BinOp.add (.t 20) (.c (.d (.flat (Value.int IntKind.i64 1)))) (Op.binOp BinOp.add 3 (Operand.tmp 20) (Operand.const (Value.int IntKind.i64 1)) 3)⟩,
  .g ⟨(.l 7), .yes, .mv (.t 21)⟩]))))))
 (.seq (.reg [.g ⟨(.l 6), .yes, .mv (.c (.d (.flat (Value.bool true))))⟩])
 .ret)))), [(.t 6)]⟩
theorem x163E : EntryOK Tryz.prog mTabs 163 (.fn x163) := ⟨fnT rfl, Tryz.f163, plans 163, keeps 163, 3, Tryz.func163, rfl, by kernel_rfl, by kernel_rfl⟩
def x164 : XF := ⟨[0, 1, 2, 3, 6, 7, 8, 9, 10, 11, 12, 13, 14, 22, 35, 51, 55, 77], [0, 1, 2], (.seq (.reg [.g ⟨(.l 3), .yes, .gen (Op.box 26 (Operand.tmp 0))⟩,
  .g ⟨(.l 6), .yes, .mv (.c (.tight [] 0))⟩])
 (.seq (.reg [.g ⟨(.l 7), .yes, .mv (.c (.tight [] 0))⟩])
 (.seq (.reg [.g ⟨(.t 16), .yes, .ld true 1 (.l 3)⟩,
  .mt 17 (.l 1),
  .g ⟨(.t 18), .yes, .cs 67 p67 [(.t 16), (.t 17)]⟩,
  .g ⟨(.l 8), .yes, .mv (.t 18)⟩])
 (.seq (.seq (.reg [.g ⟨(.l 9), .yes, .mv (.c (.d (.flat (Value.int IntKind.i64 0))))⟩])
 (.block 0 (.loop (some [2, 3, 7, 8, 9]) (.seq (.seq (.reg [.mt 19 (.l 9),
  .mt 20 (.l 8),
  .g ⟨(.t 21), .yes, .lenr (.t 20)⟩,
  .g ⟨(.l 22), .yes, .bin BinOp.lss (.t 19) (.t 21) (Op.binOp BinOp.lss 3 (Operand.tmp 19) (Operand.tmp 21) 3)⟩])
 (.cond (.l 22) .skip
 (.exit 0)))
 (.seq (.block 1 (.seq (.drw [] [.st ⟨true, false, ⟨(.t 25), .yes, .ld true 1 (.l 3)⟩⟩,
  .st ⟨true, false, ⟨(.t 26), .yes, .mv (.l 8)⟩⟩,
  .st ⟨true, false, ⟨(.t 27), .yes, .mv (.l 9)⟩⟩,
  .st ⟨true, false, ⟨(.t 28), .yes, .ia 1 (.t 26) (.t 27)⟩⟩,
  .st ⟨true, false, ⟨(.t 29), .yes, .ld false 1 (.t 28)⟩⟩,
  .st ⟨false, true, ⟨(.t 30), .yes, .cs 68 p68 [(.t 25), (.t 29)]⟩⟩,
  .st ⟨true, false, ⟨(.t 31), .yes, .gen (Op.field 37 (Operand.tmp 30) 3)⟩⟩,
  .st ⟨true, false, ⟨(.l 10), .yes, .mv (.t 31)⟩⟩])
 (.seq (.reg [.g ⟨(.l 11), .yes, .mv (.c (.d (.flat (Value.int IntKind.i64 0))))⟩])
 (.block 2 (.loop (some [2, 3, 7, 8, 9, 10, 11]) (.seq (.seq (.reg [.mt 32 (.l 11),
  .mt 33 (.l 10),
  .g ⟨(.t 34), .yes, .lenr (.t 33)⟩,
  .g ⟨(.l 35), .yes, .bin BinOp.lss (.t 32) (.t 34) (Op.binOp BinOp.lss 3 (Operand.tmp 32) (Operand.tmp 34) 3)⟩])
 (.cond (.l 35) .skip
 (.exit 2)))
 (.seq (.block 3 (.seq (.seq (.reg [.mt 38 (.l 10),
  .mt 39 (.l 11),
  .g ⟨(.t 40), .yes, .ia 6 (.t 38) (.t 39)⟩,
  .g ⟨(.t 41), .yes, .fa 1 (.t 40)⟩,
  .g ⟨(.t 42), .yes, .ld false 1 (.t 41)⟩,
  .mt 43 (.t 42),
  .g ⟨(.t 44), (.g (.t 43) false), .mv (.l 10)⟩,
  .g ⟨(.t 45), (.g (.t 43) false), .mv (.l 11)⟩,
  .g ⟨(.t 46), (.g (.t 43) false), .ia 6 (.t 44) (.t 45)⟩,
  .g ⟨(.t 47), (.g (.t 43) false), .fa 3 (.t 46)⟩,
  .g ⟨(.t 48), (.g (.t 43) false), .ld false 1 (.t 47)⟩,
  .g ⟨(.t 49), (.g (.t 43) false), .mv (.l 2)⟩,
  .g ⟨(.t 50), (.g (.t 43) false), .bin BinOp.neq (.t 48) (.t 49) (Op.binOp BinOp.neq 9 (Operand.tmp 48) (Operand.tmp 49) 9)⟩,
  .g ⟨(.l 51), .yes, .pick (.t 43) (.c (.d (.flat (Value.bool true)))) (.t 50)⟩])
 (.cond (.l 51) (.exit 3)
 .skip))
 (.seq (.reg [.g ⟨(.l 12), .yes, .mv (.c (.d (.flat (Value.bool false))))⟩])
 (.seq (.seq (.reg [.g ⟨(.l 13), .yes, .mv (.c (.d (.flat (Value.int IntKind.i64 0))))⟩])
 (.block 4 (.loop (some [2, 3, 7, 8, 9, 10, 11, 12, 13]) (.seq (.seq (.reg [.mt 52 (.l 13),
  .mt 53 (.l 7),
  .g ⟨(.t 54), .yes, .lenr (.t 53)⟩,
  .g ⟨(.l 55), .yes, .bin BinOp.lss (.t 52) (.t 54) (Op.binOp BinOp.lss 3 (Operand.tmp 52) (Operand.tmp 54) 3)⟩])
 (.cond (.l 55) .skip
 (.exit 4)))
 (.seq (.block 5 (.seq (.drw [.no] [.st ⟨true, false, ⟨(.t 59), .yes, .ld true 1 (.l 3)⟩⟩,
  .st ⟨true, false, ⟨(.t 60), .yes, .mv (.l 7)⟩⟩,
  .st ⟨true, false, ⟨(.t 61), .yes, .mv (.l 13)⟩⟩,
  .st ⟨true, false, ⟨(.t 62), .yes, .ia 2 (.t 60) (.t 61)⟩⟩,
  .st ⟨true, false, ⟨(.t 63), .yes, .ld true 2 (.t 62)⟩⟩,
  .fl [⟨false, true, ⟨(.t 64), .yes, .cs 142 p142 [(.t 59), (.t 63)]⟩⟩,
  ⟨true, false, ⟨(.t 58), .yes, .mv (.t 64)⟩⟩,
  ⟨true, false, ⟨(.t 65), .yes, .ex (.t 58) 0⟩⟩,
  ⟨true, false, ⟨(.t 66), .yes, .ex (.t 58) 1⟩⟩] ⟨(.l 14), .yes, .gen (Op.alloc 98)⟩,
  .st ⟨false, false, ⟨.no, .yes, .st 6 (.l 14) (.t 65)⟩⟩,
  .st ⟨true, false, ⟨(.t 15), .yes, .mv (.t 66)⟩⟩])
 (.drw [] [.st ⟨true, false, ⟨(.t 67), .yes, .mv (.l 12)⟩⟩,
  .st ⟨true, false, ⟨(.t 68), .yes, .mv (.t 67)⟩⟩,
  .st ⟨true, false, ⟨(.t 69), (.g (.t 68) false), .ld true 6 (.l 14)⟩⟩,
  .st ⟨true, false, ⟨(.t 70), (.g (.t 68) false), .mv (.l 10)⟩⟩,
  .st ⟨true, false, ⟨(.t 71), (.g (.t 68) false), .mv (.l 11)⟩⟩,
  .st ⟨true, false, ⟨(.t 72), (.g (.t 68) false), .ia 6 (.t 70) (.t 71)⟩⟩,
  .st ⟨true, false, ⟨(.t 73), (.g (.t 68) false), .ld true 6 (.t 72)⟩⟩,
  .st ⟨false, true, ⟨(.t 74), (.g (.t 68) false), .cs 140 p140 [(.t 69), (.t 73)]⟩⟩,
  .st ⟨true, false, ⟨(.t 75), .yes, .pick (.t 68) (.c (.d (.flat (Value.bool true)))) (.t 74)⟩⟩,
  .st ⟨true, false, ⟨(.l 12), .yes, .mv (.t 75)⟩⟩])))
 (.reg [.mt 56 (.l 13),
  .g ⟨(.t 57), .yes, .bin BinOp.add (.t 56) (.c (.d (.flat (Value.int IntKind.i64 1)))) (Op.binOp BinOp.add 3 (Operand.tmp 56) (Operand.const (Value.int IntKind.i64 1)) 3)⟩,
  .g ⟨(.l 13), .yes, .mv (.t 57)⟩]))))))
 (.seq (.reg [.mt 76 (.l 12),
  .g ⟨(.l 77), .yes, .not (.t 76)⟩])
 (.cond (.l 77) (.reg [.mt 78 (.l 7),
  .mt 79 (.l 8),
  .mt 80 (.l 9),
  .g ⟨(.t 81), .yes, .ia 1 (.t 79) (.t 80)⟩,
  .g ⟨(.t 82), .yes, .ld false 1 (.t 81)⟩,
  .mt 83 (.l 11),
  .g ⟨(.t 84), .yes, .gen (Op.build 44 #[(0, (Operand.tmp 82)), (1, (Operand.tmp 83))])⟩,
  .g ⟨(.t 85), .yes, .gen (Op.buildSlice 63 1 #[(0, (Operand.tmp 84))])⟩,
  .g ⟨(.t 86), .yes, .gen (Op.call { callee := (Callee.builtin Builtin.append), args := #[(Operand.tmp 78), (Operand.tmp 85)], argTypes := #[63, 63] })⟩,
  .g ⟨(.l 7), .yes, .mv (.t 86)⟩])
 .skip))))))
 (.reg [.mt 36 (.l 11),
  .g ⟨(.t 37), .yes, .bin BinOp.add (.t 36) (.c (.d (.flat (Value.int IntKind.i64 1)))) (Op.binOp BinOp.add 3 (Operand.tmp 36) (Operand.const (Value.int IntKind.i64 1)) 3)⟩,
  .g ⟨(.l 11), .yes, .mv (.t 37)⟩]))))))))
 (.reg [.mt 23 (.l 9),
  .g ⟨(.t 24), .yes, .bin BinOp.add (.t 23) (.c (.d (.flat (Value.int IntKind.i64 1)))) (Op.binOp BinOp.add 3 (Operand.tmp 23) (Operand.const (Value.int IntKind.i64 1)) 3)⟩,
  .g ⟨(.l 9), .yes, .mv (.t 24)⟩]))))))
 (.seq (.reg [.mt 87 (.l 7),
  .g ⟨(.l 6), .yes, .mv (.t 87)⟩])
 .ret))))), [(.t 6)]⟩
theorem x164E : EntryOK Tryz.prog mTabs 164 (.fn x164) := ⟨fnT rfl, Tryz.f164, plans 164, keeps 164, 3, Tryz.func164, rfl, by kernel_rfl, by kernel_rfl⟩
def x165 : XF := ⟨[0, 1, 2, 4, 6, 7, 8, 9, 10, 19, 29], [0, 1, 2], (.seq (.reg [.g ⟨(.l 4), .yes, .gen (Op.box 124 (Operand.tmp 1))⟩,
  .g ⟨(.l 6), .yes, .gen (Op.alloc 124)⟩,
  .g ⟨(.l 7), .yes, .mv (.c (.d (.flat (Value.int IntKind.i64 0))))⟩])
 (.seq (.reg [.mt 12 (.l 0),
  .g ⟨(.t 13), .yes, .ld true 8 (.l 4)⟩,
  .g ⟨(.t 14), .yes, .cs 166 p166 [(.t 12), (.t 13)]⟩,
  .mt 11 (.t 14),
  .g ⟨(.t 15), .yes, .ex (.t 11) 0⟩,
  .g ⟨(.t 16), .yes, .ex (.t 11) 1⟩,
  .g ⟨(.t 17), .yes, .ex (.t 11) 2⟩,
  .g ⟨(.l 8), .yes, .gen (Op.alloc 124)⟩,
  .g ⟨.no, .yes, .st 8 (.l 8) (.t 15)⟩,
  .g ⟨(.l 9), .yes, .mv (.t 16)⟩,
  .g ⟨(.l 10), .yes, .mv (.t 17)⟩])
 (.seq (.seq (.reg [.mt 18 (.l 10),
  .g ⟨(.l 19), .yes, .bin BinOp.neq (.t 18) (.c (.d (.flat (Value.int IntKind.i64 0)))) (Op.binOp BinOp.neq 3 (Operand.tmp 18) (Operand.const (Value.int IntKind.i64 0)) 3)⟩])
 (.cond (.l 19) (.seq (.reg [.g ⟨(.t 20), .yes, .ld true 8 (.l 8)⟩,
  .mt 21 (.l 10),
  .g ⟨.no, .yes, .st 8 (.l 6) (.t 20)⟩,
  .g ⟨(.l 7), .yes, .mv (.t 21)⟩])
 .ret)
 .skip))
 (.seq (.seq (.reg [.mt 22 (.l 0),
  .g ⟨(.t 23), .yes, .nc (.t 22)⟩,
  .g ⟨(.t 24), .yes, .fa 0 (.t 23)⟩,
  .g ⟨(.t 25), .yes, .ld true 1 (.t 24)⟩,
  .mt 26 (.l 9),
  .mt 27 (.l 2),
  .g ⟨(.t 28), .yes, .cs 122 p122 [(.t 25), (.t 26), (.t 27)]⟩,
  .g ⟨(.l 29), .yes, .not (.t 28)⟩])
 (.cond (.l 29) (.seq (.reg [.g ⟨(.t 30), .yes, .ld true 8 (.l 8)⟩,
  .g ⟨.no, .yes, .st 8 (.l 6) (.t 30)⟩,
  .g ⟨(.l 7), .yes, .mv (.c (.d (.flat (Value.int IntKind.i64 14))))⟩])
 .ret)
 .skip))
 (.seq (.reg [.g ⟨(.t 31), .yes, .ld true 8 (.l 8)⟩,
  .g ⟨.no, .yes, .st 8 (.l 6) (.t 31)⟩,
  .g ⟨(.l 7), .yes, .mv (.c (.d (.flat (Value.int IntKind.i64 0))))⟩])
 .ret))))), [(.c 6 true 8), (.t 7)]⟩
theorem x165E : EntryOK Tryz.prog mTabs 165 (.fn x165) := ⟨fnT rfl, Tryz.f165, plans 165, keeps 165, 3, Tryz.func165, rfl, by kernel_rfl, by kernel_rfl⟩
def x166 : XF := ⟨[0, 1, 3, 4, 5, 6], [0, 1], (.seq (.reg [.g ⟨(.l 3), .yes, .gen (Op.box 124 (Operand.tmp 1))⟩,
  .g ⟨(.l 4), .yes, .gen (Op.alloc 124)⟩,
  .g ⟨(.l 5), .yes, .mv (.c (.d (.flat (Value.string ⟨#[]⟩))))⟩,
  .g ⟨(.l 6), .yes, .mv (.c (.d (.flat (Value.int IntKind.i64 0))))⟩])
 (.seq (.drw [] [.st ⟨true, false, ⟨(.t 7), .yes, .mv (.l 0)⟩⟩,
  .st ⟨true, false, ⟨(.t 8), .yes, .nc (.t 7)⟩⟩,
  .st ⟨true, false, ⟨(.t 9), .yes, .fa 0 (.t 8)⟩⟩,
  .st ⟨true, false, ⟨(.t 10), .yes, .ld true 1 (.t 9)⟩⟩,
  .st ⟨true, false, ⟨(.t 11), .yes, .mv (.l 0)⟩⟩,
  .st ⟨true, false, ⟨(.t 12), .yes, .nc (.t 11)⟩⟩,
  .st ⟨true, false, ⟨(.t 13), .yes, .fa 7 (.t 12)⟩⟩,
  .st ⟨true, false, ⟨(.t 14), .yes, .ld true 3 (.t 13)⟩⟩,
  .st ⟨true, false, ⟨(.t 15), .yes, .ld true 8 (.l 3)⟩⟩,
  .st ⟨false, true, ⟨(.t 16), .yes, .cs 121 p121 [(.t 10), (.t 14), (.t 15)]⟩⟩,
  .st ⟨true, false, ⟨(.t 17), .yes, .ex (.t 16) 0⟩⟩,
  .st ⟨true, false, ⟨(.t 18), .yes, .ex (.t 16) 1⟩⟩,
  .st ⟨true, false, ⟨(.t 19), .yes, .ex (.t 16) 2⟩⟩,
  .st ⟨false, true, ⟨.no, .yes, .st 8 (.l 4) (.t 17)⟩⟩,
  .st ⟨true, false, ⟨(.l 5), .yes, .mv (.t 18)⟩⟩,
  .st ⟨true, false, ⟨(.l 6), .yes, .mv (.t 19)⟩⟩])
 .ret)), [(.c 4 true 8), (.t 5), (.t 6)]⟩
theorem x166E : EntryOK Tryz.prog mTabs 166 (.fn x166) := ⟨fnT rfl, Tryz.f166, plans 166, keeps 166, 2, Tryz.func166, rfl, by kernel_rfl, by kernel_rfl⟩
def x168 : XF := ⟨[0, 1, 3, 4, 5, 6, 7, 8, 9, 26, 28, 59], [0, 1], (.seq (.reg [.g ⟨(.l 3), .yes, .gen (Op.box 126 (Operand.tmp 1))⟩,
  .g ⟨(.l 4), .yes, .gen (Op.alloc 126)⟩,
  .g ⟨(.l 5), .yes, .mv (.c (.d (.flat (Value.int IntKind.i64 0))))⟩])
 (.seq (.reg [.mt 10 (.l 0),
  .g ⟨(.t 11), .yes, .nc (.t 10)⟩,
  .g ⟨(.t 12), .yes, .fa 1 (.t 11)⟩,
  .g ⟨(.t 13), .yes, .fa 1 (.t 12)⟩,
  .g ⟨(.t 14), .yes, .ld false 1 (.t 13)⟩,
  .mt 15 (.t 14),
  .g ⟨(.t 16), (.g (.t 15) false), .mv (.l 0)⟩,
  .g ⟨(.t 17), (.g (.t 15) false), .nc (.t 16)⟩,
  .g ⟨(.t 18), (.g (.t 15) false), .fa 1 (.t 17)⟩,
  .g ⟨(.t 19), (.g (.t 15) false), .fa 2 (.t 18)⟩,
  .g ⟨(.t 20), (.g (.t 15) false), .ld false 1 (.t 19)⟩,
  .g ⟨(.t 21), (.g (.t 15) false), .bin BinOp.eql (.t 20) (.c (.d (.flat (Value.string ⟨#[118, 111, 105, 100]⟩)))) (Op.binOp BinOp.eql 9 (Operand.tmp 20) (Operand.const (Value.string ⟨#[118, 111, 105, 100]⟩)) 9)⟩,
  .g ⟨(.t 22), .yes, .pick (.t 15) (.c (.d (.flat (Value.bool true)))) (.t 21)⟩,
  .g ⟨(.l 6), .yes, .mv (.t 22)⟩])
 (.seq (.seq (.reg [.g ⟨(.t 23), .yes, .fa 4 (.l 3)⟩,
  .g ⟨(.t 24), .yes, .ld false 1 (.t 23)⟩,
  .g ⟨(.t 25), .yes, .lenr (.t 24)⟩,
  .g ⟨(.l 26), .yes, .bin BinOp.eql (.t 25) (.c (.d (.flat (Value.int IntKind.i64 0)))) (Op.binOp BinOp.eql 3 (Operand.tmp 25) (Operand.const (Value.int IntKind.i64 0)) 3)⟩])
 (.cond (.l 26) (.seq (.seq (.reg [.mt 27 (.l 6),
  .g ⟨(.l 28), .yes, .not (.t 27)⟩])
 (.cond (.l 28) (.seq (.reg [.g ⟨(.t 29), .yes, .ld true 9 (.l 3)⟩,
  .g ⟨.no, .yes, .st 9 (.l 4) (.t 29)⟩,
  .g ⟨(.l 5), .yes, .mv (.c (.d (.flat (Value.int IntKind.i64 14))))⟩])
 .ret)
 .skip))
 (.seq (.reg [.g ⟨(.t 30), .yes, .ld true 9 (.l 3)⟩,
  .g ⟨.no, .yes, .st 9 (.l 4) (.t 30)⟩,
  .g ⟨(.l 5), .yes, .mv (.c (.d (.flat (Value.int IntKind.i64 0))))⟩])
 .ret))
 .skip))
 (.seq (.reg [.mt 32 (.l 0),
  .g ⟨(.t 33), .yes, .fa 4 (.l 3)⟩,
  .g ⟨(.t 34), .yes, .ld false 1 (.t 33)⟩,
  .g ⟨(.t 35), .yes, .ia 8 (.t 34) (.c (.d (.flat (Value.int IntKind.i64 0))))⟩,
  .g ⟨(.t 36), .yes, .ld true 8 (.t 35)⟩,
  .g ⟨(.t 37), .yes, .cs 166 p166 [(.t 32), (.t 36)]⟩,
  .mt 31 (.t 37),
  .g ⟨(.t 38), .yes, .ex (.t 31) 0⟩,
  .g ⟨(.t 39), .yes, .ex (.t 31) 1⟩,
  .g ⟨(.t 40), .yes, .ex (.t 31) 2⟩,
  .g ⟨(.l 7), .yes, .gen (Op.alloc 124)⟩,
  .g ⟨.no, .yes, .st 8 (.l 7) (.t 38)⟩,
  .g ⟨(.l 8), .yes, .mv (.t 39)⟩,
  .g ⟨(.l 9), .yes, .mv (.t 40)⟩])
 (.seq (.seq (.drw [] [.st ⟨true, false, ⟨(.t 41), .yes, .mv (.l 9)⟩⟩,
  .st ⟨true, false, ⟨(.t 42), .yes, .bin BinOp.eql (.t 41) (.c (.d (.flat (Value.int IntKind.i64 0)))) (Op.binOp BinOp.eql 3 (Operand.tmp 41) (Operand.const (Value.int IntKind.i64 0)) 3)⟩⟩,
  .st ⟨true, false, ⟨(.t 43), .yes, .mv (.t 42)⟩⟩,
  .st ⟨true, false, ⟨(.t 44), (.g (.t 43) true), .mv (.l 6)⟩⟩,
  .st ⟨true, false, ⟨(.t 45), (.g (.t 43) true), .mv (.t 44)⟩⟩,
  .st ⟨true, false, ⟨(.t 46), (.g (.t 45) false), .mv (.l 0)⟩⟩,
  .st ⟨true, false, ⟨(.t 47), (.g (.t 45) false), .nc (.t 46)⟩⟩,
  .st ⟨true, false, ⟨(.t 48), (.g (.t 45) false), .fa 0 (.t 47)⟩⟩,
  .st ⟨true, false, ⟨(.t 49), (.g (.t 45) false), .ld true 1 (.t 48)⟩⟩,
  .st ⟨true, false, ⟨(.t 50), (.g (.t 45) false), .mv (.l 8)⟩⟩,
  .st ⟨true, false, ⟨(.t 51), (.g (.t 45) false), .mv (.l 0)⟩⟩,
  .st ⟨true, false, ⟨(.t 52), (.g (.t 45) false), .nc (.t 51)⟩⟩,
  .st ⟨true, false, ⟨(.t 53), (.g (.t 45) false), .fa 1 (.t 52)⟩⟩,
  .st ⟨true, false, ⟨(.t 54), (.g (.t 45) false), .fa 2 (.t 53)⟩⟩,
  .st ⟨true, false, ⟨(.t 55), (.g (.t 45) false), .ld false 1 (.t 54)⟩⟩,
  .st ⟨false, true, ⟨(.t 56), (.g (.t 45) false), .cs 122 p122 [(.t 49), (.t 50), (.t 55)]⟩⟩,
  .st ⟨true, false, ⟨(.t 57), (.g (.t 45) false), .not (.t 56)⟩⟩,
  .st ⟨true, false, ⟨(.t 58), (.g (.t 43) true), .pick (.t 45) (.c (.d (.flat (Value.bool true)))) (.t 57)⟩⟩,
  .st ⟨true, false, ⟨(.l 59), .yes, .pick (.t 43) (.t 58) (.c (.d (.flat (Value.bool false))))⟩⟩])
 (.cond (.l 59) (.reg [.g ⟨(.l 9), .yes, .mv (.c (.d (.flat (Value.int IntKind.i64 14))))⟩])
 .skip))
 (.seq (.reg [.g ⟨(.t 60), .yes, .ld true 8 (.l 7)⟩,
  .g ⟨(.t 61), .yes, .gen (Op.buildSlice 74 1 #[(0, (Operand.tmp 60))])⟩,
  .g ⟨(.t 62), .yes, .fa 4 (.l 3)⟩,
  .g ⟨.no, .yes, .st 1 (.t 62) (.t 61)⟩])
 (.seq (.reg [.g ⟨(.t 63), .yes, .ld true 9 (.l 3)⟩,
  .mt 64 (.l 9),
  .g ⟨.no, .yes, .st 9 (.l 4) (.t 63)⟩,
  .g ⟨(.l 5), .yes, .mv (.t 64)⟩])
 .ret))))))), [(.c 4 true 9), (.t 5)]⟩
theorem x168E : EntryOK Tryz.prog mTabs 168 (.fn x168) := ⟨fnT rfl, Tryz.f168, plans 168, keeps 168, 2, Tryz.func168, rfl, by kernel_rfl, by kernel_rfl⟩
def x170 : XF := ⟨[0, 1, 3, 4, 5, 6, 7, 8, 9, 10, 11, 12, 13, 14, 15, 27, 38, 57, 69], [0, 1], (.seq (.reg [.g ⟨(.l 3), .yes, .gen (Op.box 126 (Operand.tmp 1))⟩,
  .g ⟨(.l 4), .yes, .gen (Op.alloc 126)⟩,
  .g ⟨(.l 5), .yes, .mv (.c (.d (.flat (Value.int IntKind.i64 0))))⟩])
 (.seq (.drw [] [.st ⟨true, false, ⟨(.t 16), .yes, .mv (.l 0)⟩⟩,
  .st ⟨true, false, ⟨(.t 17), .yes, .nc (.t 16)⟩⟩,
  .st ⟨true, false, ⟨(.t 18), .yes, .fa 0 (.t 17)⟩⟩,
  .st ⟨true, false, ⟨(.t 19), .yes, .ld true 1 (.t 18)⟩⟩,
  .st ⟨true, false, ⟨(.t 20), .yes, .mv (.l 0)⟩⟩,
  .st ⟨true, false, ⟨(.t 21), .yes, .nc (.t 20)⟩⟩,
  .st ⟨true, false, ⟨(.t 22), .yes, .fa 7 (.t 21)⟩⟩,
  .st ⟨true, false, ⟨(.t 23), .yes, .fa 0 (.t 22)⟩⟩,
  .st ⟨true, false, ⟨(.t 24), .yes, .ld false 1 (.t 23)⟩⟩,
  .st ⟨false, true, ⟨(.t 25), .yes, .cs 96 p96 [(.t 19), (.t 24)]⟩⟩,
  .st ⟨true, false, ⟨(.l 6), .yes, .mv (.t 25)⟩⟩])
 (.seq (.seq (.reg [.mt 26 (.l 6),
  .g ⟨(.l 27), .yes, .bin BinOp.eql (.t 26) (.c (.d (.flat (Value.string ⟨#[]⟩)))) (Op.binOp BinOp.eql 9 (Operand.tmp 26) (Operand.const (Value.string ⟨#[]⟩)) 9)⟩])
 (.cond (.l 27) (.seq (.reg [.g ⟨(.t 28), .yes, .ld true 9 (.l 3)⟩,
  .g ⟨.no, .yes, .st 9 (.l 4) (.t 28)⟩,
  .g ⟨(.l 5), .yes, .mv (.c (.d (.flat (Value.int IntKind.i64 7))))⟩])
 .ret)
 .skip))
 (.seq (.reg [.mt 29 (.l 0),
  .g ⟨(.t 30), .yes, .nc (.t 29)⟩,
  .g ⟨(.t 31), .yes, .fa 7 (.t 30)⟩,
  .g ⟨(.t 32), .yes, .ld true 3 (.t 31)⟩,
  .g ⟨(.l 7), .yes, .gen (Op.alloc 166)⟩,
  .g ⟨.no, .yes, .st 3 (.l 7) (.t 32)⟩])
 (.seq (.reg [.g ⟨(.t 33), .yes, .fa 1 (.l 7)⟩,
  .g ⟨.no, .yes, .st 1 (.t 33) (.c (.d (.flat (Value.bool true))))⟩])
 (.seq (.reg [.g ⟨(.l 8), .yes, .mv (.c (.tight [] 0))⟩])
 (.seq (.reg [.g ⟨(.l 9), .yes, .mv (.c (.tight [] 0))⟩])
 (.seq (.seq (.reg [.g ⟨(.l 10), .yes, .mv (.c (.d (.flat (Value.int IntKind.i64 0))))⟩])
 (.block 0 (.loop (some [0, 3, 4, 6, 7, 8, 9, 10]) (.seq (.seq (.reg [.mt 34 (.l 10),
  .g ⟨(.t 35), .yes, .fa 4 (.l 3)⟩,
  .g ⟨(.t 36), .yes, .ld false 1 (.t 35)⟩,
  .g ⟨(.t 37), .yes, .lenr (.t 36)⟩,
  .g ⟨(.l 38), .yes, .bin BinOp.lss (.t 34) (.t 37) (Op.binOp BinOp.lss 3 (Operand.tmp 34) (Operand.tmp 37) 3)⟩])
 (.cond (.l 38) .skip
 (.exit 0)))
 (.seq (.block 1 (.seq (.drw [.no] [.st ⟨true, false, ⟨(.t 42), .yes, .mv (.l 0)⟩⟩,
  .st ⟨true, false, ⟨(.t 43), .yes, .nc (.t 42)⟩⟩,
  .st ⟨true, false, ⟨(.t 44), .yes, .fa 0 (.t 43)⟩⟩,
  .st ⟨true, false, ⟨(.t 45), .yes, .ld true 1 (.t 44)⟩⟩,
  .st ⟨true, false, ⟨(.t 46), .yes, .ld true 3 (.l 7)⟩⟩,
  .st ⟨true, false, ⟨(.t 47), .yes, .fa 4 (.l 3)⟩⟩,
  .st ⟨true, false, ⟨(.t 48), .yes, .ld false 1 (.t 47)⟩⟩,
  .st ⟨true, false, ⟨(.t 49), .yes, .mv (.l 10)⟩⟩,
  .st ⟨true, false, ⟨(.t 50), .yes, .ia 8 (.t 48) (.t 49)⟩⟩,
  .st ⟨true, false, ⟨(.t 51), .yes, .ld true 8 (.t 50)⟩⟩,
  .fl [⟨false, true, ⟨(.t 52), .yes, .cs 121 p121 [(.t 45), (.t 46), (.t 51)]⟩⟩,
  ⟨true, false, ⟨(.t 41), .yes, .mv (.t 52)⟩⟩,
  ⟨true, false, ⟨(.t 53), .yes, .ex (.t 41) 0⟩⟩,
  ⟨true, false, ⟨(.t 54), .yes, .ex (.t 41) 1⟩⟩,
  ⟨true, false, ⟨(.t 55), .yes, .ex (.t 41) 2⟩⟩] ⟨(.l 11), .yes, .gen (Op.alloc 124)⟩,
  .st ⟨false, false, ⟨.no, .yes, .st 8 (.l 11) (.t 53)⟩⟩,
  .st ⟨true, false, ⟨(.l 12), .yes, .mv (.t 54)⟩⟩,
  .st ⟨true, false, ⟨(.l 13), .yes, .mv (.t 55)⟩⟩])
 (.seq (.seq (.reg [.mt 56 (.l 13),
  .g ⟨(.l 57), .yes, .bin BinOp.neq (.t 56) (.c (.d (.flat (Value.int IntKind.i64 0)))) (Op.binOp BinOp.neq 3 (Operand.tmp 56) (Operand.const (Value.int IntKind.i64 0)) 3)⟩])
 (.cond (.l 57) (.seq (.reg [.g ⟨(.t 58), .yes, .ld true 9 (.l 3)⟩,
  .mt 59 (.l 13),
  .g ⟨.no, .yes, .st 9 (.l 4) (.t 58)⟩,
  .g ⟨(.l 5), .yes, .mv (.t 59)⟩])
 .ret)
 .skip))
 (.reg [.mt 60 (.l 8),
  .g ⟨(.t 61), .yes, .ld true 8 (.l 11)⟩,
  .g ⟨(.t 62), .yes, .gen (Op.buildSlice 74 1 #[(0, (Operand.tmp 61))])⟩,
  .g ⟨(.t 63), .yes, .gen (Op.call { callee := (Callee.builtin Builtin.append), args := #[(Operand.tmp 60), (Operand.tmp 62)], argTypes := #[74, 74] })⟩,
  .mt 64 (.l 9),
  .mt 65 (.l 12),
  .g ⟨(.t 66), .yes, .gen (Op.buildSlice 33 1 #[(0, (Operand.tmp 65))])⟩,
  .g ⟨(.t 67), .yes, .gen (Op.call { callee := (Callee.builtin Builtin.append), args := #[(Operand.tmp 64), (Operand.tmp 66)], argTypes := #[33, 33] })⟩,
  .g ⟨(.l 8), .yes, .mv (.t 63)⟩,
  .g ⟨(.l 9), .yes, .mv (.t 67)⟩]))))
 (.reg [.mt 39 (.l 10),
  .g ⟨(.t 40), .yes, .bin BinOp.add (.t 39) (.c (.d (.flat (Value.int IntKind.i64 1)))) (Op.binOp BinOp.add 3 (Operand.tmp 39) (Operand.const (Value.int IntKind.i64 1)) 3)⟩,
  .g ⟨(.l 10), .yes, .mv (.t 40)⟩]))))))
 (.seq (.seq (.reg [.mt 68 (.l 9),
  .g ⟨(.l 69), .yes, .cs 95 p95 [(.t 68), (.c (.d (.flat (Value.string ⟨#[118, 111, 105, 100]⟩))))]⟩])
 (.cond (.l 69) (.seq (.reg [.g ⟨(.t 70), .yes, .ld true 9 (.l 3)⟩,
  .g ⟨.no, .yes, .st 9 (.l 4) (.t 70)⟩,
  .g ⟨(.l 5), .yes, .mv (.c (.d (.flat (Value.int IntKind.i64 14))))⟩])
 .ret)
 .skip))
 (.seq (.reg [.mt 72 (.l 0),
  .g ⟨(.t 73), .yes, .nc (.t 72)⟩,
  .g ⟨(.t 74), .yes, .fa 0 (.t 73)⟩,
  .g ⟨(.t 75), .yes, .ld true 1 (.t 74)⟩,
  .mt 76 (.l 6),
  .mt 77 (.l 9),
  .g ⟨(.t 78), .yes, .cs 124 p124 [(.t 75), (.t 76), (.t 77)]⟩,
  .mt 71 (.t 78),
  .g ⟨(.t 79), .yes, .ex (.t 71) 0⟩,
  .g ⟨(.t 80), .yes, .ex (.t 71) 1⟩,
  .g ⟨(.l 14), .yes, .gen (Op.alloc 44)⟩,
  .g ⟨.no, .yes, .st 2 (.l 14) (.t 79)⟩,
  .g ⟨(.l 15), .yes, .mv (.t 80)⟩])
 (.seq (.drw [(.l 3)] [.st ⟨true, false, ⟨(.t 81), .yes, .mv (.l 8)⟩⟩,
  .st ⟨true, false, ⟨(.t 82), .yes, .fa 1 (.l 14)⟩⟩,
  .st ⟨true, false, ⟨(.t 83), .yes, .ld false 1 (.t 82)⟩⟩,
  .st ⟨true, false, ⟨(.t 84), .yes, .fa 4 (.l 3)⟩⟩,
  .st ⟨false, false, ⟨.no, .yes, .st 1 (.t 84) (.t 81)⟩⟩,
  .st ⟨true, false, ⟨(.t 85), .yes, .fa 8 (.l 3)⟩⟩,
  .st ⟨false, true, ⟨.no, .yes, .st 1 (.t 85) (.t 83)⟩⟩])
 (.seq (.reg [.g ⟨(.t 86), .yes, .ld true 9 (.l 3)⟩,
  .mt 87 (.l 15),
  .g ⟨.no, .yes, .st 9 (.l 4) (.t 86)⟩,
  .g ⟨(.l 5), .yes, .mv (.t 87)⟩])
 .ret)))))))))))), [(.c 4 true 9), (.t 5)]⟩
theorem x170E : EntryOK Tryz.prog mTabs 170 (.fn x170) := ⟨fnT rfl, Tryz.f170, plans 170, keeps 170, 2, Tryz.func170, rfl, by kernel_rfl, by kernel_rfl⟩
end Go.Proofs.YtinffhimfoicdaaGreat

/- The table of the machine's functions. Printed by wip/tool/gen_mach.py. No conditions. -/
namespace Go.Proofs.YtinffhimfoicdaaGreat
open Go Go.Proofs.YtinffhimfoicdaaGreat.Calc
set_option maxRecDepth 100000
set_option linter.unusedVariables false
noncomputable def mTab : Tr XE := (.n none (.n none (.n none (.n (some (.fn x7)) (.n none (.n (some (.fn x31)) .e
 (.n (some (.fn x95)) (.n (some (.fn x159)) .e
 .e)
 .e))
 (.n (some (.fn x47)) (.n (some (.fn x79)) (.n (some (.fn x143)) .e
 .e)
 .e)
 (.n (some (.fn x111)) .e
 .e)))
 (.n (some (.fn x23)) (.n none (.n (some (.fn x71)) (.n (some (.fn x135)) .e
 .e)
 .e)
 (.n (some (.fn x103)) .e
 .e))
 (.n (some (.fn x55)) (.n (some (.fn x87)) (.n (some (.fn x151)) .e
 .e)
 .e)
 (.n (some (.fn x119)) .e
 .e))))
 (.n none (.n none (.n none (.n (some (.fn x67)) (.n (some (.fn x131)) .e
 .e)
 .e)
 (.n (some (.fn x99)) (.n (some (.fn x163)) .e
 .e)
 .e))
 (.n (some (.fn x51)) (.n (some (.fn x83)) .e
 .e)
 (.n (some (.fn x115)) .e
 .e)))
 (.n none (.n (some (.fn x43)) (.n (some (.fn x75)) (.n (some (.fn x139)) .e
 .e)
 .e)
 (.n (some (.fn x107)) .e
 .e))
 (.n none (.n none (.n (some (.fn x155)) .e
 .e)
 .e)
 (.n (some (.fn x123)) .e
 .e)))))
 (.n none (.n none (.n none (.n (some (.fn x33)) (.n (some (.fn x65)) .e
 .e)
 (.n (some (.fn x97)) (.n (some (.fn x161)) .e
 .e)
 .e))
 (.n (some (.fn x49)) (.n (some (.fn x81)) .e
 .e)
 (.n (some (.fn x113)) .e
 .e)))
 (.n (some (.fn x25)) (.n (some (.fn x41)) (.n (some (.fn x73)) (.n (some (.fn x137)) .e
 .e)
 .e)
 (.n (some (.fn x105)) .e
 .e))
 (.n none (.n (some (.fn x89)) (.n (some (.fn x153)) .e
 .e)
 .e)
 (.n (some (.fn x121)) .e
 .e))))
 (.n none (.n none (.n none (.n (some (.fn x69)) (.n (some (.fn x133)) .e
 .e)
 .e)
 (.n (some (.fn x101)) (.n (some (.fn x165)) .e
 .e)
 .e))
 (.n (some (.fn x53)) (.n (some (.fn x85)) (.n (some (.fn x149)) .e
 .e)
 .e)
 (.n (some (.fn x117)) .e
 .e)))
 (.n none (.n (some (.fn x45)) (.n (some (.fn x77)) (.n (some (.fn x141)) .e
 .e)
 .e)
 (.n (some (.fn x109)) .e
 .e))
 (.n none (.n none (.n (some (.fn x157)) .e
 .e)
 .e)
 .e)))))
 (.n none (.n none (.n none (.n none (.n none .e
 (.n (some (.fn x96)) (.n (some (.fn x160)) .e
 .e)
 .e))
 (.n (some (.fn x48)) (.n (some (.fn x80)) (.n (some (.fn x144)) .e
 .e)
 .e)
 (.n (some (.fn x112)) .e
 .e)))
 (.n (some (.fn x24)) (.n none (.n none (.n (some (.fn x136)) .e
 .e)
 .e)
 (.n (some (.fn x104)) (.n (some (.fn x168)) .e
 .e)
 .e))
 (.n (some (.fn x56)) (.n (some (.fn x88)) (.n (some (.fn x152)) .e
 .e)
 .e)
 (.n (some (.fn x120)) .e
 .e))))
 (.n none (.n none (.n none (.n (some (.fn x68)) .e
 .e)
 (.n (some (.fn x100)) (.n (some (.fn x164)) .e
 .e)
 .e))
 (.n (some (.fn x52)) (.n (some (.fn x84)) (.n (some (.fn x148)) .e
 .e)
 .e)
 .e))
 (.n none (.n (some (.fn x44)) (.n (some (.fn x76)) (.n (some (.fn x140)) .e
 .e)
 .e)
 (.n (some (.fn x108)) .e
 .e))
 (.n none (.n none (.n (some (.fn x156)) .e
 .e)
 .e)
 (.n (some (.fn x124)) .e
 .e)))))
 (.n none (.n none (.n none (.n none (.n (some (.fn x66)) (.n (some (.fn x130)) .e
 .e)
 .e)
 (.n (some (.fn x98)) (.n (some (.fn x162)) .e
 .e)
 .e))
 (.n (some (.fn x50)) (.n (some (.fn x82)) (.n (some (.fn x146)) .e
 .e)
 .e)
 (.n (some (.fn x114)) .e
 .e)))
 (.n (some (.fn x26)) (.n (some (.fn x42)) (.n (some (.fn x74)) (.n (some (.fn x138)) .e
 .e)
 .e)
 (.n (some (.fn x106)) (.n (some (.fn x170)) .e
 .e)
 .e))
 (.n none (.n none (.n (some (.fn x154)) .e
 .e)
 .e)
 (.n (some (.fn x122)) .e
 .e))))
 (.n none (.n none (.n none (.n (some (.fn x70)) (.n (some (.fn x134)) .e
 .e)
 .e)
 (.n (some (.fn x102)) (.n (some (.fn x166)) .e
 .e)
 .e))
 (.n none (.n (some (.fn x86)) (.n (some (.fn x150)) .e
 .e)
 .e)
 (.n (some (.fn x118)) .e
 .e)))
 (.n none (.n (some (.fn x46)) (.n (some (.fn x78)) (.n (some (.fn x142)) .e
 .e)
 .e)
 (.n (some (.fn x110)) .e
 .e))
 (.n none (.n none (.n (some (.fn x158)) .e
 .e)
 .e)
 .e))))))
theorem mTab0 : TabOK Tryz.prog mTabs .e := tab_e mTabs
noncomputable def mT1 : Tr XE := Tr.set .e p7 (.fn x7)
theorem mTab1 : TabOK Tryz.prog mTabs mT1 := tab_set (f := 7) mTab0 x7E
noncomputable def mT2 : Tr XE := Tr.set mT1 p23 (.fn x23)
theorem mTab2 : TabOK Tryz.prog mTabs mT2 := tab_set (f := 23) mTab1 x23E
noncomputable def mT3 : Tr XE := Tr.set mT2 p24 (.fn x24)
theorem mTab3 : TabOK Tryz.prog mTabs mT3 := tab_set (f := 24) mTab2 x24E
noncomputable def mT4 : Tr XE := Tr.set mT3 p25 (.fn x25)
theorem mTab4 : TabOK Tryz.prog mTabs mT4 := tab_set (f := 25) mTab3 x25E
noncomputable def mT5 : Tr XE := Tr.set mT4 p26 (.fn x26)
theorem mTab5 : TabOK Tryz.prog mTabs mT5 := tab_set (f := 26) mTab4 x26E
noncomputable def mT6 : Tr XE := Tr.set mT5 p31 (.fn x31)
theorem mTab6 : TabOK Tryz.prog mTabs mT6 := tab_set (f := 31) mTab5 x31E
noncomputable def mT7 : Tr XE := Tr.set mT6 p33 (.fn x33)
theorem mTab7 : TabOK Tryz.prog mTabs mT7 := tab_set (f := 33) mTab6 x33E
noncomputable def mT8 : Tr XE := Tr.set mT7 p41 (.fn x41)
theorem mTab8 : TabOK Tryz.prog mTabs mT8 := tab_set (f := 41) mTab7 x41E
noncomputable def mT9 : Tr XE := Tr.set mT8 p42 (.fn x42)
theorem mTab9 : TabOK Tryz.prog mTabs mT9 := tab_set (f := 42) mTab8 x42E
noncomputable def mT10 : Tr XE := Tr.set mT9 p43 (.fn x43)
theorem mTab10 : TabOK Tryz.prog mTabs mT10 := tab_set (f := 43) mTab9 x43E
noncomputable def mT11 : Tr XE := Tr.set mT10 p44 (.fn x44)
theorem mTab11 : TabOK Tryz.prog mTabs mT11 := tab_set (f := 44) mTab10 x44E
noncomputable def mT12 : Tr XE := Tr.set mT11 p45 (.fn x45)
theorem mTab12 : TabOK Tryz.prog mTabs mT12 := tab_set (f := 45) mTab11 x45E
noncomputable def mT13 : Tr XE := Tr.set mT12 p46 (.fn x46)
theorem mTab13 : TabOK Tryz.prog mTabs mT13 := tab_set (f := 46) mTab12 x46E
noncomputable def mT14 : Tr XE := Tr.set mT13 p47 (.fn x47)
theorem mTab14 : TabOK Tryz.prog mTabs mT14 := tab_set (f := 47) mTab13 x47E
noncomputable def mT15 : Tr XE := Tr.set mT14 p48 (.fn x48)
theorem mTab15 : TabOK Tryz.prog mTabs mT15 := tab_set (f := 48) mTab14 x48E
noncomputable def mT16 : Tr XE := Tr.set mT15 p49 (.fn x49)
theorem mTab16 : TabOK Tryz.prog mTabs mT16 := tab_set (f := 49) mTab15 x49E
noncomputable def mT17 : Tr XE := Tr.set mT16 p50 (.fn x50)
theorem mTab17 : TabOK Tryz.prog mTabs mT17 := tab_set (f := 50) mTab16 x50E
noncomputable def mT18 : Tr XE := Tr.set mT17 p51 (.fn x51)
theorem mTab18 : TabOK Tryz.prog mTabs mT18 := tab_set (f := 51) mTab17 x51E
noncomputable def mT19 : Tr XE := Tr.set mT18 p52 (.fn x52)
theorem mTab19 : TabOK Tryz.prog mTabs mT19 := tab_set (f := 52) mTab18 x52E
noncomputable def mT20 : Tr XE := Tr.set mT19 p53 (.fn x53)
theorem mTab20 : TabOK Tryz.prog mTabs mT20 := tab_set (f := 53) mTab19 x53E
noncomputable def mT21 : Tr XE := Tr.set mT20 p55 (.fn x55)
theorem mTab21 : TabOK Tryz.prog mTabs mT21 := tab_set (f := 55) mTab20 x55E
noncomputable def mT22 : Tr XE := Tr.set mT21 p56 (.fn x56)
theorem mTab22 : TabOK Tryz.prog mTabs mT22 := tab_set (f := 56) mTab21 x56E
noncomputable def mT23 : Tr XE := Tr.set mT22 p65 (.fn x65)
theorem mTab23 : TabOK Tryz.prog mTabs mT23 := tab_set (f := 65) mTab22 x65E
noncomputable def mT24 : Tr XE := Tr.set mT23 p66 (.fn x66)
theorem mTab24 : TabOK Tryz.prog mTabs mT24 := tab_set (f := 66) mTab23 x66E
noncomputable def mT25 : Tr XE := Tr.set mT24 p67 (.fn x67)
theorem mTab25 : TabOK Tryz.prog mTabs mT25 := tab_set (f := 67) mTab24 x67E
noncomputable def mT26 : Tr XE := Tr.set mT25 p68 (.fn x68)
theorem mTab26 : TabOK Tryz.prog mTabs mT26 := tab_set (f := 68) mTab25 x68E
noncomputable def mT27 : Tr XE := Tr.set mT26 p69 (.fn x69)
theorem mTab27 : TabOK Tryz.prog mTabs mT27 := tab_set (f := 69) mTab26 x69E
noncomputable def mT28 : Tr XE := Tr.set mT27 p70 (.fn x70)
theorem mTab28 : TabOK Tryz.prog mTabs mT28 := tab_set (f := 70) mTab27 x70E
noncomputable def mT29 : Tr XE := Tr.set mT28 p71 (.fn x71)
theorem mTab29 : TabOK Tryz.prog mTabs mT29 := tab_set (f := 71) mTab28 x71E
noncomputable def mT30 : Tr XE := Tr.set mT29 p73 (.fn x73)
theorem mTab30 : TabOK Tryz.prog mTabs mT30 := tab_set (f := 73) mTab29 x73E
noncomputable def mT31 : Tr XE := Tr.set mT30 p74 (.fn x74)
theorem mTab31 : TabOK Tryz.prog mTabs mT31 := tab_set (f := 74) mTab30 x74E
noncomputable def mT32 : Tr XE := Tr.set mT31 p75 (.fn x75)
theorem mTab32 : TabOK Tryz.prog mTabs mT32 := tab_set (f := 75) mTab31 x75E
noncomputable def mT33 : Tr XE := Tr.set mT32 p76 (.fn x76)
theorem mTab33 : TabOK Tryz.prog mTabs mT33 := tab_set (f := 76) mTab32 x76E
noncomputable def mT34 : Tr XE := Tr.set mT33 p77 (.fn x77)
theorem mTab34 : TabOK Tryz.prog mTabs mT34 := tab_set (f := 77) mTab33 x77E
noncomputable def mT35 : Tr XE := Tr.set mT34 p78 (.fn x78)
theorem mTab35 : TabOK Tryz.prog mTabs mT35 := tab_set (f := 78) mTab34 x78E
noncomputable def mT36 : Tr XE := Tr.set mT35 p79 (.fn x79)
theorem mTab36 : TabOK Tryz.prog mTabs mT36 := tab_set (f := 79) mTab35 x79E
noncomputable def mT37 : Tr XE := Tr.set mT36 p80 (.fn x80)
theorem mTab37 : TabOK Tryz.prog mTabs mT37 := tab_set (f := 80) mTab36 x80E
noncomputable def mT38 : Tr XE := Tr.set mT37 p81 (.fn x81)
theorem mTab38 : TabOK Tryz.prog mTabs mT38 := tab_set (f := 81) mTab37 x81E
noncomputable def mT39 : Tr XE := Tr.set mT38 p82 (.fn x82)
theorem mTab39 : TabOK Tryz.prog mTabs mT39 := tab_set (f := 82) mTab38 x82E
noncomputable def mT40 : Tr XE := Tr.set mT39 p83 (.fn x83)
theorem mTab40 : TabOK Tryz.prog mTabs mT40 := tab_set (f := 83) mTab39 x83E
noncomputable def mT41 : Tr XE := Tr.set mT40 p84 (.fn x84)
theorem mTab41 : TabOK Tryz.prog mTabs mT41 := tab_set (f := 84) mTab40 x84E
noncomputable def mT42 : Tr XE := Tr.set mT41 p85 (.fn x85)
theorem mTab42 : TabOK Tryz.prog mTabs mT42 := tab_set (f := 85) mTab41 x85E
noncomputable def mT43 : Tr XE := Tr.set mT42 p86 (.fn x86)
theorem mTab43 : TabOK Tryz.prog mTabs mT43 := tab_set (f := 86) mTab42 x86E
noncomputable def mT44 : Tr XE := Tr.set mT43 p87 (.fn x87)
theorem mTab44 : TabOK Tryz.prog mTabs mT44 := tab_set (f := 87) mTab43 x87E
noncomputable def mT45 : Tr XE := Tr.set mT44 p88 (.fn x88)
theorem mTab45 : TabOK Tryz.prog mTabs mT45 := tab_set (f := 88) mTab44 x88E
noncomputable def mT46 : Tr XE := Tr.set mT45 p89 (.fn x89)
theorem mTab46 : TabOK Tryz.prog mTabs mT46 := tab_set (f := 89) mTab45 x89E
noncomputable def mT47 : Tr XE := Tr.set mT46 p95 (.fn x95)
theorem mTab47 : TabOK Tryz.prog mTabs mT47 := tab_set (f := 95) mTab46 x95E
noncomputable def mT48 : Tr XE := Tr.set mT47 p96 (.fn x96)
theorem mTab48 : TabOK Tryz.prog mTabs mT48 := tab_set (f := 96) mTab47 x96E
noncomputable def mT49 : Tr XE := Tr.set mT48 p97 (.fn x97)
theorem mTab49 : TabOK Tryz.prog mTabs mT49 := tab_set (f := 97) mTab48 x97E
noncomputable def mT50 : Tr XE := Tr.set mT49 p98 (.fn x98)
theorem mTab50 : TabOK Tryz.prog mTabs mT50 := tab_set (f := 98) mTab49 x98E
noncomputable def mT51 : Tr XE := Tr.set mT50 p99 (.fn x99)
theorem mTab51 : TabOK Tryz.prog mTabs mT51 := tab_set (f := 99) mTab50 x99E
noncomputable def mT52 : Tr XE := Tr.set mT51 p100 (.fn x100)
theorem mTab52 : TabOK Tryz.prog mTabs mT52 := tab_set (f := 100) mTab51 x100E
noncomputable def mT53 : Tr XE := Tr.set mT52 p101 (.fn x101)
theorem mTab53 : TabOK Tryz.prog mTabs mT53 := tab_set (f := 101) mTab52 x101E
noncomputable def mT54 : Tr XE := Tr.set mT53 p102 (.fn x102)
theorem mTab54 : TabOK Tryz.prog mTabs mT54 := tab_set (f := 102) mTab53 x102E
noncomputable def mT55 : Tr XE := Tr.set mT54 p103 (.fn x103)
theorem mTab55 : TabOK Tryz.prog mTabs mT55 := tab_set (f := 103) mTab54 x103E
noncomputable def mT56 : Tr XE := Tr.set mT55 p104 (.fn x104)
theorem mTab56 : TabOK Tryz.prog mTabs mT56 := tab_set (f := 104) mTab55 x104E
noncomputable def mT57 : Tr XE := Tr.set mT56 p105 (.fn x105)
theorem mTab57 : TabOK Tryz.prog mTabs mT57 := tab_set (f := 105) mTab56 x105E
noncomputable def mT58 : Tr XE := Tr.set mT57 p106 (.fn x106)
theorem mTab58 : TabOK Tryz.prog mTabs mT58 := tab_set (f := 106) mTab57 x106E
noncomputable def mT59 : Tr XE := Tr.set mT58 p107 (.fn x107)
theorem mTab59 : TabOK Tryz.prog mTabs mT59 := tab_set (f := 107) mTab58 x107E
noncomputable def mT60 : Tr XE := Tr.set mT59 p108 (.fn x108)
theorem mTab60 : TabOK Tryz.prog mTabs mT60 := tab_set (f := 108) mTab59 x108E
noncomputable def mT61 : Tr XE := Tr.set mT60 p109 (.fn x109)
theorem mTab61 : TabOK Tryz.prog mTabs mT61 := tab_set (f := 109) mTab60 x109E
noncomputable def mT62 : Tr XE := Tr.set mT61 p110 (.fn x110)
theorem mTab62 : TabOK Tryz.prog mTabs mT62 := tab_set (f := 110) mTab61 x110E
noncomputable def mT63 : Tr XE := Tr.set mT62 p111 (.fn x111)
theorem mTab63 : TabOK Tryz.prog mTabs mT63 := tab_set (f := 111) mTab62 x111E
noncomputable def mT64 : Tr XE := Tr.set mT63 p112 (.fn x112)
theorem mTab64 : TabOK Tryz.prog mTabs mT64 := tab_set (f := 112) mTab63 x112E
noncomputable def mT65 : Tr XE := Tr.set mT64 p113 (.fn x113)
theorem mTab65 : TabOK Tryz.prog mTabs mT65 := tab_set (f := 113) mTab64 x113E
noncomputable def mT66 : Tr XE := Tr.set mT65 p114 (.fn x114)
theorem mTab66 : TabOK Tryz.prog mTabs mT66 := tab_set (f := 114) mTab65 x114E
noncomputable def mT67 : Tr XE := Tr.set mT66 p115 (.fn x115)
theorem mTab67 : TabOK Tryz.prog mTabs mT67 := tab_set (f := 115) mTab66 x115E
noncomputable def mT68 : Tr XE := Tr.set mT67 p117 (.fn x117)
theorem mTab68 : TabOK Tryz.prog mTabs mT68 := tab_set (f := 117) mTab67 x117E
noncomputable def mT69 : Tr XE := Tr.set mT68 p118 (.fn x118)
theorem mTab69 : TabOK Tryz.prog mTabs mT69 := tab_set (f := 118) mTab68 x118E
noncomputable def mT70 : Tr XE := Tr.set mT69 p119 (.fn x119)
theorem mTab70 : TabOK Tryz.prog mTabs mT70 := tab_set (f := 119) mTab69 x119E
noncomputable def mT71 : Tr XE := Tr.set mT70 p120 (.fn x120)
theorem mTab71 : TabOK Tryz.prog mTabs mT71 := tab_set (f := 120) mTab70 x120E
noncomputable def mT72 : Tr XE := Tr.set mT71 p121 (.fn x121)
theorem mTab72 : TabOK Tryz.prog mTabs mT72 := tab_set (f := 121) mTab71 x121E
noncomputable def mT73 : Tr XE := Tr.set mT72 p122 (.fn x122)
theorem mTab73 : TabOK Tryz.prog mTabs mT73 := tab_set (f := 122) mTab72 x122E
noncomputable def mT74 : Tr XE := Tr.set mT73 p123 (.fn x123)
theorem mTab74 : TabOK Tryz.prog mTabs mT74 := tab_set (f := 123) mTab73 x123E
noncomputable def mT75 : Tr XE := Tr.set mT74 p124 (.fn x124)
theorem mTab75 : TabOK Tryz.prog mTabs mT75 := tab_set (f := 124) mTab74 x124E
noncomputable def mT76 : Tr XE := Tr.set mT75 p130 (.fn x130)
theorem mTab76 : TabOK Tryz.prog mTabs mT76 := tab_set (f := 130) mTab75 x130E
noncomputable def mT77 : Tr XE := Tr.set mT76 p131 (.fn x131)
theorem mTab77 : TabOK Tryz.prog mTabs mT77 := tab_set (f := 131) mTab76 x131E
noncomputable def mT78 : Tr XE := Tr.set mT77 p133 (.fn x133)
theorem mTab78 : TabOK Tryz.prog mTabs mT78 := tab_set (f := 133) mTab77 x133E
noncomputable def mT79 : Tr XE := Tr.set mT78 p134 (.fn x134)
theorem mTab79 : TabOK Tryz.prog mTabs mT79 := tab_set (f := 134) mTab78 x134E
noncomputable def mT80 : Tr XE := Tr.set mT79 p135 (.fn x135)
theorem mTab80 : TabOK Tryz.prog mTabs mT80 := tab_set (f := 135) mTab79 x135E
noncomputable def mT81 : Tr XE := Tr.set mT80 p136 (.fn x136)
theorem mTab81 : TabOK Tryz.prog mTabs mT81 := tab_set (f := 136) mTab80 x136E
noncomputable def mT82 : Tr XE := Tr.set mT81 p137 (.fn x137)
theorem mTab82 : TabOK Tryz.prog mTabs mT82 := tab_set (f := 137) mTab81 x137E
noncomputable def mT83 : Tr XE := Tr.set mT82 p138 (.fn x138)
theorem mTab83 : TabOK Tryz.prog mTabs mT83 := tab_set (f := 138) mTab82 x138E
noncomputable def mT84 : Tr XE := Tr.set mT83 p139 (.fn x139)
theorem mTab84 : TabOK Tryz.prog mTabs mT84 := tab_set (f := 139) mTab83 x139E
noncomputable def mT85 : Tr XE := Tr.set mT84 p140 (.fn x140)
theorem mTab85 : TabOK Tryz.prog mTabs mT85 := tab_set (f := 140) mTab84 x140E
noncomputable def mT86 : Tr XE := Tr.set mT85 p141 (.fn x141)
theorem mTab86 : TabOK Tryz.prog mTabs mT86 := tab_set (f := 141) mTab85 x141E
noncomputable def mT87 : Tr XE := Tr.set mT86 p142 (.fn x142)
theorem mTab87 : TabOK Tryz.prog mTabs mT87 := tab_set (f := 142) mTab86 x142E
noncomputable def mT88 : Tr XE := Tr.set mT87 p143 (.fn x143)
theorem mTab88 : TabOK Tryz.prog mTabs mT88 := tab_set (f := 143) mTab87 x143E
noncomputable def mT89 : Tr XE := Tr.set mT88 p144 (.fn x144)
theorem mTab89 : TabOK Tryz.prog mTabs mT89 := tab_set (f := 144) mTab88 x144E
noncomputable def mT90 : Tr XE := Tr.set mT89 p146 (.fn x146)
theorem mTab90 : TabOK Tryz.prog mTabs mT90 := tab_set (f := 146) mTab89 x146E
noncomputable def mT91 : Tr XE := Tr.set mT90 p148 (.fn x148)
theorem mTab91 : TabOK Tryz.prog mTabs mT91 := tab_set (f := 148) mTab90 x148E
noncomputable def mT92 : Tr XE := Tr.set mT91 p149 (.fn x149)
theorem mTab92 : TabOK Tryz.prog mTabs mT92 := tab_set (f := 149) mTab91 x149E
noncomputable def mT93 : Tr XE := Tr.set mT92 p150 (.fn x150)
theorem mTab93 : TabOK Tryz.prog mTabs mT93 := tab_set (f := 150) mTab92 x150E
noncomputable def mT94 : Tr XE := Tr.set mT93 p151 (.fn x151)
theorem mTab94 : TabOK Tryz.prog mTabs mT94 := tab_set (f := 151) mTab93 x151E
noncomputable def mT95 : Tr XE := Tr.set mT94 p152 (.fn x152)
theorem mTab95 : TabOK Tryz.prog mTabs mT95 := tab_set (f := 152) mTab94 x152E
noncomputable def mT96 : Tr XE := Tr.set mT95 p153 (.fn x153)
theorem mTab96 : TabOK Tryz.prog mTabs mT96 := tab_set (f := 153) mTab95 x153E
noncomputable def mT97 : Tr XE := Tr.set mT96 p154 (.fn x154)
theorem mTab97 : TabOK Tryz.prog mTabs mT97 := tab_set (f := 154) mTab96 x154E
noncomputable def mT98 : Tr XE := Tr.set mT97 p155 (.fn x155)
theorem mTab98 : TabOK Tryz.prog mTabs mT98 := tab_set (f := 155) mTab97 x155E
noncomputable def mT99 : Tr XE := Tr.set mT98 p156 (.fn x156)
theorem mTab99 : TabOK Tryz.prog mTabs mT99 := tab_set (f := 156) mTab98 x156E
noncomputable def mT100 : Tr XE := Tr.set mT99 p157 (.fn x157)
theorem mTab100 : TabOK Tryz.prog mTabs mT100 := tab_set (f := 157) mTab99 x157E
noncomputable def mT101 : Tr XE := Tr.set mT100 p158 (.fn x158)
theorem mTab101 : TabOK Tryz.prog mTabs mT101 := tab_set (f := 158) mTab100 x158E
noncomputable def mT102 : Tr XE := Tr.set mT101 p159 (.fn x159)
theorem mTab102 : TabOK Tryz.prog mTabs mT102 := tab_set (f := 159) mTab101 x159E
noncomputable def mT103 : Tr XE := Tr.set mT102 p160 (.fn x160)
theorem mTab103 : TabOK Tryz.prog mTabs mT103 := tab_set (f := 160) mTab102 x160E
noncomputable def mT104 : Tr XE := Tr.set mT103 p161 (.fn x161)
theorem mTab104 : TabOK Tryz.prog mTabs mT104 := tab_set (f := 161) mTab103 x161E
noncomputable def mT105 : Tr XE := Tr.set mT104 p162 (.fn x162)
theorem mTab105 : TabOK Tryz.prog mTabs mT105 := tab_set (f := 162) mTab104 x162E
noncomputable def mT106 : Tr XE := Tr.set mT105 p163 (.fn x163)
theorem mTab106 : TabOK Tryz.prog mTabs mT106 := tab_set (f := 163) mTab105 x163E
noncomputable def mT107 : Tr XE := Tr.set mT106 p164 (.fn x164)
theorem mTab107 : TabOK Tryz.prog mTabs mT107 := tab_set (f := 164) mTab106 x164E
noncomputable def mT108 : Tr XE := Tr.set mT107 p165 (.fn x165)
theorem mTab108 : TabOK Tryz.prog mTabs mT108 := tab_set (f := 165) mTab107 x165E
noncomputable def mT109 : Tr XE := Tr.set mT108 p166 (.fn x166)
theorem mTab109 : TabOK Tryz.prog mTabs mT109 := tab_set (f := 166) mTab108 x166E
noncomputable def mT110 : Tr XE := Tr.set mT109 p168 (.fn x168)
theorem mTab110 : TabOK Tryz.prog mTabs mT110 := tab_set (f := 168) mTab109 x168E
noncomputable def mT111 : Tr XE := Tr.set mT110 p170 (.fn x170)
theorem mTab111 : TabOK Tryz.prog mTabs mT111 := tab_set (f := 170) mTab110 x170E
theorem mTab_eq : mT111 = mTab := by kernel_rfl
theorem mTabOK : TabOK Tryz.prog mTabs mTab := mTab_eq ▸ mTab111
end Go.Proofs.YtinffhimfoicdaaGreat

/- A calculus over the model's wp rules, part 15: the machine once more, as the kernel runs it well. No conditions. -/
namespace Go.Proofs.YtinffhimfoicdaaGreat.Calc
open Go Go.RowKit
set_option linter.unusedVariables false
set_option linter.unusedSimpArgs false
noncomputable section

def bnd {α β : Type} (o : Option α) (k : α → Option β) : Option β := @Option.rec α (fun _ => Option β) none k o
def els {α β : Type} (o : Option α) (d : Option β) (k : α → Option β) : Option β := @Option.rec α (fun _ => Option β) d k o
def iffB {β : Type} (t : Bool) (a b : β) : β := @Bool.rec (fun _ => β) b a t
theorem iffB_eq {β : Type} (t : Bool) (a b : β) : iffB t a b = cond t a b := by cases t <;> rfl
theorem bnd_none {α β : Type} (k : α → Option β) : bnd none k = none := rfl
theorem bnd_some {α β : Type} (a : α) (k : α → Option β) : bnd (some a) k = k a := rfl
def getK (r : RL) (t : Nat) : Option BV := @List.rec (Nat × BV) (fun _ => Option BV) none (fun e _ ih => @Bool.rec (fun _ => Option BV) ih (some e.2) (Nat.beq e.1 t)) r
theorem getK_eq (t : Nat) : ∀ r : RL, getK r t = getL r t
  | [] => rfl
  | (d, b) :: r => by
    show @Bool.rec (fun _ => Option BV) (getK r t) (some b) (Nat.beq d t) = cond (Nat.beq d t) (some b) (getL r t)
    rw [getK_eq t r]
    cases Nat.beq d t <;> rfl
def setK (r : RL) (d : Nat) (b : BV) : RL := @List.rec (Nat × BV) (fun _ => RL) [(d, b)] (fun e r ih => @Bool.rec (fun _ => RL) (e :: ih) ((d, b) :: r) (Nat.beq e.1 d)) r
theorem setK_eq (d : Nat) (b : BV) : ∀ r : RL, setK r d b = setL r d b
  | [] => rfl
  | (c, x) :: r => by
    show @Bool.rec (fun _ => RL) ((c, x) :: setK r d b) ((d, b) :: r) (Nat.beq c d) = cond (Nat.beq c d) ((d, b) :: r) ((c, x) :: setL r d b)
    rw [setK_eq d b r]
    cases Nat.beq c d <;> rfl
def nthK {α : Type} (l : List α) (n : Nat) : Option α := @List.rec α (fun _ => Nat → Option α) (fun _ => none) (fun a _ ih n => @Nat.rec (fun _ => Option α) (some a) (fun m _ => ih m) n) l n
theorem nthK_eq {α : Type} : ∀ (l : List α) (n : Nat), nthK l n = l[n]?
  | [], n => by simp [nthK]
  | a :: l, 0 => rfl
  | a :: l, n + 1 => by
    show nthK l n = _
    rw [nthK_eq l n, List.getElem?_cons_succ]
def lenK {α : Type} (l : List α) : Nat := @List.rec α (fun _ => Nat) 0 (fun _ _ ih => Nat.succ ih) l
theorem lenK_eq {α : Type} : ∀ l : List α, lenK l = l.length
  | [] => rfl
  | a :: l => by show Nat.succ (lenK l) = _; rw [lenK_eq l]; rfl
def dropK {α : Type} (n : Nat) (l : List α) : List α := @Nat.rec (fun _ => List α → List α) (fun l => l) (fun _ ih l => @List.rec α (fun _ => List α) [] (fun _ t _ => ih t) l) n l
theorem dropK_eq {α : Type} : ∀ (n : Nat) (l : List α), dropK n l = l.drop n
  | 0, l => rfl
  | n + 1, [] => rfl
  | n + 1, a :: l => by show dropK n l = _; rw [dropK_eq n l]; rfl
def takeK {α : Type} (n : Nat) (l : List α) : List α := @Nat.rec (fun _ => List α → List α) (fun _ => []) (fun _ ih l => @List.rec α (fun _ => List α) [] (fun a t _ => a :: ih t) l) n l
theorem takeK_eq {α : Type} : ∀ (n : Nat) (l : List α), takeK n l = l.take n
  | 0, l => by cases l <;> rfl
  | n + 1, [] => rfl
  | n + 1, a :: l => by show a :: takeK n l = _; rw [takeK_eq n l]; rfl
/-- What is left behind so many blocks of 32. -/
def blkK {α : Type} (l : List α) (q : Nat) : List α := @Nat.rec (fun _ => List α) l (fun _ ih => dropK 32 ih) q
theorem blkK_eq {α : Type} (l : List α) : ∀ q, blkK l q = l.drop (32 * q)
  | 0 => rfl
  | q + 1 => by
    show dropK 32 (blkK l q) = _
    rw [dropK_eq, blkK_eq l q, List.drop_drop]
    congr 1
def dropB {α : Type} (n : Nat) (l : List α) : List α := dropK (Nat.mod n 32) (blkK l (Nat.div n 32))
theorem dropB_eq {α : Type} (n : Nat) (l : List α) : dropB n l = l.drop n := by
  rw [dropB, dropK_eq, blkK_eq, List.drop_drop]
  congr 1
  show 32 * (n / 32) + n % 32 = n
  omega
def nthB {α : Type} (l : List α) (n : Nat) : Option α := nthK (blkK l (Nat.div n 32)) (Nat.mod n 32)
theorem nthB_eq {α : Type} (l : List α) (n : Nat) : nthB l n = l[n]? := by
  rw [nthB, nthK_eq, blkK_eq, List.getElem?_drop]
  congr 1
  show 32 * (n / 32) + n % 32 = n
  omega
def appK {α : Type} (l m : List α) : List α := @List.rec α (fun _ => List α) m (fun a _ ih => a :: ih) l
theorem appK_eq {α : Type} (m : List α) : ∀ l : List α, appK l m = l ++ m
  | [] => rfl
  | a :: l => by show a :: appK l m = _; rw [appK_eq m l]; rfl
def mapK (l : List DV) : List BV := @List.rec DV (fun _ => List BV) [] (fun a _ ih => .d a :: ih) l
theorem mapK_eq : ∀ l : List DV, mapK l = l.map .d
  | [] => rfl
  | a :: l => by show BV.d a :: mapK l = _; rw [mapK_eq l]; rfl
def setNK {α : Type} (l : List α) (n : Nat) (x : α) : List α := @List.rec α (fun _ => Nat → List α) (fun _ => []) (fun a t ih n => @Nat.rec (fun _ => List α) (x :: t) (fun m _ => a :: ih m) n) l n
theorem setNK_eq {α : Type} (x : α) : ∀ (l : List α) (n : Nat), setNK l n x = l.set n x
  | [], n => rfl
  | a :: l, 0 => rfl
  | a :: l, n + 1 => by show a :: setNK l n x = _; rw [setNK_eq x l n]; rfl
def memK (l : List Nat) (t : Nat) : Bool := @List.rec Nat (fun _ => Bool) false (fun a _ ih => @Bool.rec (fun _ => Bool) ih true (Nat.beq a t)) l
theorem memK_eq (t : Nat) : ∀ l, memK l t = memN l t
  | [] => rfl
  | a :: l => by
    show @Bool.rec (fun _ => Bool) (memK l t) true (Nat.beq a t) = cond (Nat.beq a t) true (memN l t)
    rw [memK_eq t l]
    cases Nat.beq a t <;> rfl
theorem memN_contains (t : Nat) : ∀ l, memN l t = l.contains t
  | [] => rfl
  | a :: l => by
    rw [memN, memN_contains t l, List.contains_cons]
    rcases beq_cases a t with ⟨h, rfl⟩ | ⟨h, hne⟩
    · rw [h]; simp
    · rw [h, beq_false_of_ne (fun e => hne e.symm)]; rfl
def eqUK (l m : List UInt8) : Bool := @List.rec UInt8 (fun _ => List UInt8 → Bool) (fun m => @List.rec UInt8 (fun _ => Bool) true (fun _ _ _ => false) m) (fun a _ ih m => @List.rec UInt8 (fun _ => Bool) false (fun b m' _ => @Bool.rec (fun _ => Bool) false (ih m') (Nat.beq a.toNat b.toNat)) m) l m
theorem eqUK_eq : ∀ l m : List UInt8, eqUK l m = eqU l m
  | [], [] => rfl
  | [], b :: m => rfl
  | a :: l, [] => rfl
  | a :: l, b :: m => by
    show @Bool.rec (fun _ => Bool) false (eqUK l m) (Nat.beq a.toNat b.toNat) = _
    rw [eqUK_eq l m, eqU]
    cases Nat.beq a.toNat b.toNat <;> rfl
-- operands
def evl : Nat → RL → RL → Option BV := fun n L _ => getK L n
def evt : Nat → RL → RL → Option BV := fun n _ T => getK T n
def evc : BV → RL → RL → Option BV := fun b _ _ => some b
def evn : RL → RL → Option BV := fun _ _ => none
def evK (x : XO) : RL → RL → Option BV := @XO.rec (fun _ => RL → RL → Option BV) evl evt evc evn x
theorem evK_eq (x : XO) (L T : RL) : evK x L T = evX (L, T) x := by
  cases x with
  | l n => exact getK_eq n L
  | t n => exact getK_eq n T
  | c b => rfl
  | no => rfl
def evsK (l : List XO) (L T : RL) : Option (List BV) := @List.rec XO (fun _ => Option (List BV)) (some []) (fun o _ ih => bnd (evK o L T) fun b => bnd ih fun bs => some (b :: bs)) l
theorem evsK_eq (L T : RL) : ∀ l, evsK l L T = evXs (L, T) l
  | [] => rfl
  | o :: l => by
    show bnd (evK o L T) (fun b => bnd (evsK l L T) fun bs => some (b :: bs)) = _
    rw [evK_eq, evsK_eq L T l, evXs]
    cases evX (L, T) o <;> cases evXs (L, T) l <;> rfl
-- values
abbrev VF := Program → (Nat → Bool) → RL → RL → St → Option BV
def vbK (t : Bool) : Option BV := some (.d (.flat (.bool t)))
def seqK (a b : ByteArray) : Option BV := vbK (eqUK a.data.toList b.data.toList)
def sneK (a b : ByteArray) : Option BV := vbK (@Bool.rec (fun _ => Bool) true false (eqUK a.data.toList b.data.toList))
def catK (a b : ByteArray) : ByteArray := ⟨(appK a.data.toList b.data.toList).toArray⟩
def scatK (a b : ByteArray) : Option BV := iffB (Nat.ble (Nat.add (lenK a.data.toList) (lenK b.data.toList)) 9223372036854775807) (some (.d (.flat (.string (catK a b))))) none
def strK : BinOp → ByteArray → ByteArray → Option BV
  | .eql => seqK
  | .neq => sneK
  | .add => scatK
  | _ => snoX
theorem strK_eq (f : BinOp) (a b : ByteArray) : strK f a b = strX f a b := by
  cases f with
  | eql => simp only [strK, strX, seqK, seqX, eqS, eqUK_eq]; rfl
  | neq => simp only [strK, strX, sneK, sneX, eqS, eqUK_eq]; cases eqU a.data.toList b.data.toList <;> rfl
  | add => simp only [strK, strX, scatK, scatX, iffB_eq, lenK_eq, catK, catS, appK_eq]; rfl
  | _ => rfl
def binK (f : BinOp) (a b : BV) : Option BV := els (numB a) (bnd (strB a) fun s => bnd (strB b) fun t => strK f s t) fun p => bnd (numB b) fun q => iffB (Nat.beq p.1 q.1) (iffB (Nat.beq p.1 0) none (natX f p.1 p.2 q.2)) none
theorem binK_eq (f : BinOp) (a b : BV) : binK f a b = binX f a b := by
  unfold binK binX els
  cases numB a with
  | some p =>
    obtain ⟨c, m⟩ := p
    cases numB b with
    | none => rfl
    | some q =>
      obtain ⟨d, n⟩ := q
      simp only [bnd_some, iffB_eq]
      cases Nat.beq c d <;> cases Nat.beq c 0 <;> rfl
  | none =>
    cases strB a with
    | none => rfl
    | some s =>
      cases strB b with
      | none => rfl
      | some t => exact strK_eq f s t
def idxK (a b : BV) : Option BV := bnd (strB a) fun s => bnd (numB b) fun q => bnd (nthB s.data.toList q.2) fun u => some (.d (.flat (.int .u8 (.ofNat u.toNat))))
theorem idxK_eq (a b : BV) : idxK a b = idxX a b := by
  unfold idxK idxX
  cases strB a with
  | none => rfl
  | some s =>
    cases numB b with
    | none => rfl
    | some q =>
      obtain ⟨c, i⟩ := q
      simp only [bnd_some, nthB_eq]
      cases s.data.toList[i]? <;> rfl
def mvV (x : XO) : VF := fun _ _ L T _ => evK x L T
def pickV (c a b : XO) : VF := fun _ _ L T _ => bnd (evK c L T) fun v => bnd (boolB v) fun t => iffB t (evK a L T) (evK b L T)
def binV (f : BinOp) (x y : XO) (op : Op) : VF := fun P loc L T st => bnd (evK x L T) fun a => bnd (evK y L T) fun b => els (binK f a b) (stepV P st (rgx loc (L, T)) op) some
def notV (x : XO) : VF := fun _ _ L T _ => bnd (evK x L T) fun v => bnd (boolB v) fun t => iffB t (vbK false) (vbK true)
def idxV (x i : XO) (op : Op) : VF := fun P loc L T st => bnd (evK x L T) fun a => bnd (evK i L T) fun b => els (idxK a b) (stepV P st (rgx loc (L, T)) op) some
def faV (o : Nat) (x : XO) : VF := fun _ _ L T _ => bnd (evK x L T) fun b => els (ptrB b) (bnd (eptrB b) fun cs => some (.eptr (dropK o cs))) fun q => some (.ptr q.1 (Nat.add q.2 o))
def iaV (sz : Nat) (x i : XO) : VF := fun _ _ L T _ => bnd (evK x L T) fun a => bnd (evK i L T) fun b => bnd (rowB a) fun r => bnd (numB b) fun q => iffB (Nat.ble (Nat.succ q.2) r.2) (some (.eptr (takeK sz (dropB (Nat.mul q.2 sz) r.1)))) none
def partK (ag : Bool) (sz off : Nat) (cs : List BV) : Option BV := iffB ag (iffB (Nat.ble (Nat.add off sz) (lenK cs)) (some (.agg (takeK sz (dropK off cs)))) none) (iffB (Nat.beq sz 1) (nthK cs off) (part ag sz off cs))
theorem partK_eq (ag : Bool) (sz off : Nat) (cs : List BV) : partK ag sz off cs = partX ag sz off cs := by
  unfold partK partX
  cases ag
  · simp only [iffB_eq, nthK_eq, cond_false, Bool.not_false, Bool.true_and]
  · simp only [iffB_eq, cond_true, Bool.not_true, Bool.false_and, cond_false, lenK_eq, takeK_eq, dropK_eq, part]
    by_cases h : off + sz ≤ cs.length
    · rw [if_pos h, show Nat.ble (Nat.add off sz) cs.length = true from Nat.ble_eq_true_of_le h]
      rfl
    · rw [if_neg h]
      have : Nat.ble (Nat.add off sz) cs.length = false := by
        rw [Bool.eq_false_iff]
        exact fun e => h (Nat.le_of_ble_eq_true e)
      rw [this]
      rfl
def ldV (ag : Bool) (sz : Nat) (x : XO) : VF := fun _ _ L T st => bnd (evK x L T) fun b => els (ptrB b) (bnd (eptrB b) fun cs => partK ag sz 0 (mapK cs)) fun q => bnd (nthK st.S q.1) fun c => partK ag sz q.2 c.1
def ncV (x : XO) : VF := fun _ _ L T _ => bnd (evK x L T) fun b => els (ptrB b) (els (eptrB b) (bnd (fnB b) fun _ => some b) fun _ => some b) fun _ => some b
def exV (x : XO) (i : Nat) : VF := fun _ _ L T _ => bnd (evK x L T) fun b => bnd (tupB b) fun l => nthK l i
def lensV (x : XO) : VF := fun _ _ L T _ => bnd (evK x L T) fun b => bnd (strB b) fun s => some (.d (.flat (.int .i64 (.ofNat (lenK s.data.toList)))))
def lenrV (x : XO) : VF := fun _ _ L T _ => bnd (evK x L T) fun b => bnd (rowB b) fun r => some (.d (.flat (.int .i64 (.ofNat r.2))))
def bndK (d : Nat) (o : Option XO) (L T : RL) : Option Nat := @Option.rec XO (fun _ => Option Nat) (some d) (fun o => bnd (evK o L T) fun b => bnd (numB b) fun q => some q.2) o
theorem bndK_eq (d : Nat) (o : Option XO) (L T : RL) : bndK d o L T = bndX (L, T) d o := by
  cases o with
  | none => rfl
  | some o =>
    show bnd (evK o L T) (fun b => bnd (numB b) fun q => some q.2) = _
    rw [evK_eq, bndX]
    cases evX (L, T) o with
    | none => rfl
    | some b => cases h : numB b <;> simp only [bnd_some, h] <;> rfl
def slsK (s : ByteArray) (l h : Nat) : Option BV := iffB (Nat.ble l h) (iffB (Nat.ble h (lenK s.data.toList)) (some (.d (.flat (.string ⟨(takeK (Nat.sub h l) (dropB l s.data.toList)).toArray⟩)))) none) none
theorem slsK_eq (s : ByteArray) (l h : Nat) : slsK s l h = slsX s l h := by
  simp only [slsK, slsX, iffB_eq, lenK_eq, takeK_eq, dropB_eq]
  show cond (Nat.ble l h) (cond (Nat.ble h (lenS s)) (some (BV.d (.flat (.string (subS s l h))))) none) none = _
  cases Nat.ble l h <;> cases Nat.ble h (lenS s) <;> rfl
def slsV (x : XO) (lo hi : Option XO) : VF := fun _ _ L T _ => bnd (evK x L T) fun b => bnd (strB b) fun s => bnd (bndK 0 lo L T) fun l => bnd (bndK (lenK s.data.toList) hi L T) fun h => slsK s l h
def genV (op : Op) : VF := fun P loc L T st => stepV P st (rgx loc (L, T)) op
def noV : VF := fun _ _ _ _ _ => none
def vK (i : XI) : VF := @XI.rec (fun _ => VF) mvV pickV binV notV idxV faV iaV ldV ncV exV (fun _ _ _ => noV) lensV lenrV slsV (fun _ _ _ => noV) (fun _ _ => noV) genV i
theorem opt_bnd {α β : Type} (o : Option α) (k : α → Option β) : (match o with | some a => k a | none => none) = bnd o k := by cases o <;> rfl
theorem vK_eq (P : Program) (loc : Nat → Bool) (L T : RL) (st : St) (i : XI) : vK i P loc L T st = stV loc P st (L, T) i := by
  cases i with
  | mv x => exact evK_eq x L T
  | pick c a b =>
    show bnd (evK c L T) (fun v => bnd (boolB v) fun t => iffB t (evK a L T) (evK b L T)) = _
    simp only [stV, evK_eq, iffB_eq]
    cases evX (L, T) c with
    | none => rfl
    | some v => cases h : boolB v <;> simp only [bnd_some, h] <;> rfl
  | bin f x y op =>
    show bnd (evK x L T) (fun a => bnd (evK y L T) fun b => els (binK f a b) (stepV P st (rgx loc (L, T)) op) some) = _
    simp only [stV, evK_eq, binK_eq]
    cases evX (L, T) x with
    | none => rfl
    | some a => cases evX (L, T) y with
      | none => rfl
      | some b => simp only [bnd_some]; cases binX f a b <;> rfl
  | not x =>
    show bnd (evK x L T) (fun v => bnd (boolB v) fun t => iffB t (vbK false) (vbK true)) = _
    simp only [stV, evK_eq]
    cases evX (L, T) x with
    | none => rfl
    | some v => cases h : boolB v with
      | none => simp only [bnd_some, h]; rfl
      | some t => simp only [bnd_some, h]; cases t <;> rfl
  | idx x i op =>
    show bnd (evK x L T) (fun a => bnd (evK i L T) fun b => els (idxK a b) (stepV P st (rgx loc (L, T)) op) some) = _
    simp only [stV, evK_eq, idxK_eq]
    cases evX (L, T) x with
    | none => rfl
    | some a => cases evX (L, T) i with
      | none => rfl
      | some b => simp only [bnd_some]; cases idxX a b <;> rfl
  | fa o x =>
    show bnd (evK x L T) (fun b => els (ptrB b) (bnd (eptrB b) fun cs => some (BV.eptr (dropK o cs))) fun q => some (BV.ptr q.1 (Nat.add q.2 o))) = _
    simp only [stV, evK_eq, dropK_eq]
    cases evX (L, T) x with
    | none => rfl
    | some b =>
      simp only [bnd_some]
      cases ptrB b with
      | some q => rfl
      | none => cases eptrB b <;> rfl
  | ia sz x i =>
    show bnd (evK x L T) (fun a => bnd (evK i L T) fun b => bnd (rowB a) fun r => bnd (numB b) fun q => iffB (Nat.ble (Nat.succ q.2) r.2) (some (BV.eptr (takeK sz (dropB (Nat.mul q.2 sz) r.1)))) none) = _
    simp only [stV, evK_eq, takeK_eq, dropB_eq, iffB_eq]
    cases evX (L, T) x with
    | none => rfl
    | some a => cases evX (L, T) i with
      | none => rfl
      | some b =>
        simp only [bnd_some]
        cases rowB a with
        | none => rfl
        | some r => cases numB b <;> rfl
  | ld ag sz x =>
    show bnd (evK x L T) (fun b => els (ptrB b) (bnd (eptrB b) fun cs => partK ag sz 0 (mapK cs)) fun q => bnd (nthK st.S q.1) fun c => partK ag sz q.2 c.1) = _
    simp only [stV, evK_eq, partK_eq, mapK_eq, nthK_eq]
    cases evX (L, T) x with
    | none => rfl
    | some b =>
      simp only [bnd_some]
      cases ptrB b with
      | some q =>
        obtain ⟨id, off⟩ := q
        show bnd st.S[id]? _ = _
        dsimp only
        cases st.S[id]? <;> rfl
      | none => cases eptrB b <;> rfl
  | nc x =>
    show bnd (evK x L T) (fun b => els (ptrB b) (els (eptrB b) (bnd (fnB b) fun _ => some b) fun _ => some b) fun _ => some b) = _
    simp only [stV, evK_eq]
    cases evX (L, T) x with
    | none => rfl
    | some b =>
      simp only [bnd_some]
      cases ptrB b with
      | some q => rfl
      | none => cases eptrB b with
        | some q => rfl
        | none => cases fnB b <;> rfl
  | ex x i =>
    show bnd (evK x L T) (fun b => bnd (tupB b) fun l => nthK l i) = _
    simp only [stV, evK_eq, nthK_eq]
    cases evX (L, T) x with
    | none => rfl
    | some b => cases h : tupB b <;> simp only [bnd_some, h] <;> rfl
  | st sz x v => rfl
  | lens x =>
    show bnd (evK x L T) (fun b => bnd (strB b) fun s => some (BV.d (.flat (.int .i64 (.ofNat (lenK s.data.toList)))))) = _
    simp only [stV, evK_eq, lenK_eq]
    cases evX (L, T) x with
    | none => rfl
    | some b => cases h : strB b <;> simp only [bnd_some, h] <;> rfl
  | lenr x =>
    show bnd (evK x L T) (fun b => bnd (rowB b) fun r => some (BV.d (.flat (.int .i64 (.ofNat r.2))))) = _
    simp only [stV, evK_eq]
    cases evX (L, T) x with
    | none => rfl
    | some b => cases h : rowB b <;> simp only [bnd_some, h] <;> rfl
  | sls x lo hi =>
    show bnd (evK x L T) (fun b => bnd (strB b) fun s => bnd (bndK 0 lo L T) fun l => bnd (bndK (lenK s.data.toList) hi L T) fun h => slsK s l h) = _
    simp only [stV, evK_eq, bndK_eq, slsK_eq, lenK_eq]
    cases evX (L, T) x with
    | none => rfl
    | some b =>
      simp only [bnd_some]
      cases strB b with
      | none => rfl
      | some s =>
        simp only [bnd_some]
        cases bndX (L, T) 0 lo with
        | none => rfl
        | some l =>
          simp only [bnd_some]
          show bnd (bndX (L, T) (lenS s) hi) _ = _
          cases bndX (L, T) (lenS s) hi <;> rfl
  | cs f p ars => rfl
  | cl f ars => rfl
  | gen op => rfl
end
end Go.Proofs.YtinffhimfoicdaaGreat.Calc

/- A calculus over the model's wp rules, part 16: the machine's code and calls, as the kernel runs them well. No conditions. -/
namespace Go.Proofs.YtinffhimfoicdaaGreat.Calc
open Go Go.RowKit
set_option linter.unusedVariables false
set_option linter.unusedSimpArgs false
noncomputable section

abbrev Z := AX × RL × St
abbrev KK := BV → St → Option Z
abbrev SF := Program → (Nat → Bool) → (Nat → Bool) → Caller → RL → RL → St → KK → Option Z
def idK : BV → List Nat → List Nat
  | .ptr id _ => fun l => id :: l
  | .fn _ cap => fun l => idsC cap ++ l
  | _ => fun l => l
def idsK (vs : List BV) : List Nat := @List.rec BV (fun _ => List Nat) [] (fun b _ ih => idK b ih) vs
theorem idsK_eq : ∀ vs, idsK vs = idsBs vs
  | [] => rfl
  | b :: vs => by
    show idK b (idsK vs) = _
    rw [idsK_eq vs]
    cases b <;> rfl
def allK (ok : Nat → Bool) (l : List Nat) : Bool := @List.rec Nat (fun _ => Bool) true (fun i _ ih => iffB (ok i) ih false) l
theorem allK_eq (ok : Nat → Bool) : ∀ l, allK ok l = l.all ok
  | [] => rfl
  | i :: l => by
    show iffB (ok i) (allK ok l) false = _
    rw [allK_eq ok l, iffB_eq, List.all_cons]
    cases ok i <;> rfl
def putLK {α : Type} (off : Nat) (us l : List α) : List α := @List.rec α (fun _ => Nat → List α → List α) (fun _ l => l) (fun c _ ih off l => ih (Nat.succ off) (setNK l off c)) us off l
theorem putLK_eq {α : Type} : ∀ (us : List α) (off : Nat) (l : List α), putLK off us l = putL off us l
  | [], off, l => rfl
  | c :: us, off, l => by
    show putLK (off + 1) us (setNK l off c) = _
    rw [putLK_eq us, setNK_eq]
    rfl
def stoK (ok : Nat → Bool) (st : St) (sz id off : Nat) (b : BV) : Option St :=
  bnd (nthK st.S id) fun c => iffB (ok id) (iffB (cellOK b) (iffB (Nat.beq (lenK (cellsOfB b)) sz) (iffB (Nat.ble (Nat.add off sz) (lenK c.1)) (some ⟨setNK st.S id (putLK off (cellsOfB b) c.1, c.2), st.T, st.M⟩) none) none) none) none
theorem stoK_eq (ok : Nat → Bool) (st : St) (sz id off : Nat) (b : BV) : stoX ok st sz id off b = bnd (stoK ok st sz id off b) fun s => some (s, none) := by
  simp only [stoX, stoK, nthK_eq, iffB_eq, lenK_eq, setNK_eq, putLK_eq]
  cases st.S[id]? with
  | none => rfl
  | some c =>
    obtain ⟨cs, ty⟩ := c
    simp only [bnd_some]
    show cond (ok id && (cellOK b && (Nat.beq (cellsOfB b).length sz && Nat.ble (off + sz) cs.length))) _ _ = bnd (cond (ok id) (cond (cellOK b) (cond (Nat.beq (cellsOfB b).length sz) (cond (Nat.ble (off + sz) cs.length) _ _) _) _) _) _
    cases ok id <;> cases cellOK b <;> cases Nat.beq (cellsOfB b).length sz <;> cases Nat.ble (off + sz) cs.length <;> rfl
def valS (v : VF) : SF := fun P loc ok call L T st k => bnd (v P loc L T st) fun b => k b st
def stS (sz : Nat) (x v : XO) : SF := fun P loc ok call L T st k => bnd (evK x L T) fun a => bnd (ptrB a) fun q => bnd (evK v L T) fun b => bnd (stoK ok st sz q.1 q.2 b) fun s => k (.tup []) s
def callS (ok : Nat → Bool) (call : Caller) (st : St) (g : Nat) (p : List Bool) (vs : List BV) (k : KK) : Option Z := iffB (allK ok (idsK vs)) (bnd (call g p vs st) fun z => k z.1 z.2) none
def csS (g : Nat) (p : List Bool) (ars : List XO) : SF := fun P loc ok call L T st k => bnd (evsK ars L T) fun vs => callS ok call st g p vs k
def clS (f : XO) (ars : List XO) : SF := fun P loc ok call L T st k => bnd (evK f L T) fun v => bnd (fnB v) fun q => bnd (evsK ars L T) fun vs => callS ok call st q.1 (bits q.1) (appK vs q.2) k
def genS (op : Op) : SF := fun P loc ok call L T st k => els (stepV P st (rgx loc (L, T)) op) (bnd (stepW P ok st (rgx loc (L, T)) op) fun z => k (z.2.getD (.tup [])) z.1) fun b => k b st
def stepK (i : XI) : SF := @XI.rec (fun _ => SF) (fun x => valS (mvV x)) (fun c a b => valS (pickV c a b)) (fun f x y op => valS (binV f x y op)) (fun x => valS (notV x)) (fun x i op => valS (idxV x i op)) (fun o x => valS (faV o x)) (fun sz x i => valS (iaV sz x i)) (fun ag sz x => valS (ldV ag sz x)) (fun x => valS (ncV x)) (fun x i => valS (exV x i)) stS (fun x => valS (lensV x)) (fun x => valS (lenrV x)) (fun x lo hi => valS (slsV x lo hi)) csS clS genS i
/-- What a step hands on. -/
def goOn (z : Option (St × Option BV)) (k : KK) : Option Z := bnd z fun z => k (z.2.getD (.tup [])) z.1
theorem callS_eq {ok : Nat → Bool} {call : Caller} {st : St} {g : Nat} {p : List Bool} {vs : List BV} {k : KK} : callS ok call st g p vs k = goOn (callV ok call st g p vs) k := by
  unfold callS callV goOn
  rw [allK_eq, idsK_eq, iffB_eq]
  cases h : (idsBs vs).all ok
  · rw [if_neg (by decide)]; rfl
  · rw [if_pos rfl]
    simp only [cond_true]
    cases call g p vs st <;> rfl
theorem valS_eq {P : Program} {loc ok : Nat → Bool} {call : Caller} {L T : RL} {st : St} {k : KK} {i : XI} {v : VF} (hv : v P loc L T st = stV loc P st (L, T) i) (hs : stepX loc P ok call (L, T) st i = match stV loc P st (L, T) i with | some b => some (st, some b) | none => none) : valS v P loc ok call L T st k = goOn (stepX loc P ok call (L, T) st i) k := by
  rw [hs]
  unfold valS
  rw [hv]
  cases stV loc P st (L, T) i <;> rfl
theorem stepK_eq (P : Program) (loc ok : Nat → Bool) (call : Caller) (L T : RL) (st : St) (k : KK) (i : XI) : stepK i P loc ok call L T st k = goOn (stepX loc P ok call (L, T) st i) k := by
  cases i with
  | st sz x v =>
    show bnd (evK x L T) (fun a => bnd (ptrB a) fun q => bnd (evK v L T) fun b => bnd (stoK ok st sz q.1 q.2 b) fun s => k (.tup []) s) = _
    simp only [stepX, stW, evK_eq]
    cases evX (L, T) x with
    | none => rfl
    | some a =>
      simp only [bnd_some]
      cases ptrB a with
      | none => rfl
      | some q =>
        obtain ⟨id, off⟩ := q
        simp only [bnd_some]
        cases evX (L, T) v with
        | none => rfl
        | some b =>
          simp only [bnd_some, stoK_eq]
          cases stoK ok st sz id off b <;> rfl
  | cs g p ars =>
    show bnd (evsK ars L T) (fun vs => callS ok call st g p vs k) = _
    simp only [stepX, evsK_eq, callS_eq]
    cases evXs (L, T) ars with
    | none => rfl
    | some vs => simp only [bnd_some, List.append_nil]
  | cl f ars =>
    show bnd (evK f L T) (fun v => bnd (fnB v) fun q => bnd (evsK ars L T) fun vs => callS ok call st q.1 (bits q.1) (appK vs q.2) k) = _
    simp only [stepX, evsK_eq, evK_eq, callS_eq, appK_eq]
    cases evX (L, T) f with
    | none => rfl
    | some v =>
      simp only [bnd_some]
      cases fnB v with
      | none => rfl
      | some q =>
        simp only [bnd_some]
        cases evXs (L, T) ars <;> rfl
  | gen op =>
    show els (stepV P st (rgx loc (L, T)) op) (bnd (stepW P ok st (rgx loc (L, T)) op) fun z => k (z.2.getD (.tup [])) z.1) (fun b => k b st) = _
    simp only [stepX, stW]
    cases stepV P st (rgx loc (L, T)) op <;> rfl
  | mv x => exact valS_eq (i := .mv x) (vK_eq P loc L T st (.mv x)) rfl
  | pick c a b => exact valS_eq (i := .pick c a b) (vK_eq P loc L T st (.pick c a b)) rfl
  | bin f x y op => exact valS_eq (i := .bin f x y op) (vK_eq P loc L T st (.bin f x y op)) rfl
  | not x => exact valS_eq (i := .not x) (vK_eq P loc L T st (.not x)) rfl
  | idx x i op => exact valS_eq (i := .idx x i op) (vK_eq P loc L T st (.idx x i op)) rfl
  | fa o x => exact valS_eq (i := .fa o x) (vK_eq P loc L T st (.fa o x)) rfl
  | ia sz x i => exact valS_eq (i := .ia sz x i) (vK_eq P loc L T st (.ia sz x i)) rfl
  | ld ag sz x => exact valS_eq (i := .ld ag sz x) (vK_eq P loc L T st (.ld ag sz x)) rfl
  | nc x => exact valS_eq (i := .nc x) (vK_eq P loc L T st (.nc x)) rfl
  | ex x i => exact valS_eq (i := .ex x i) (vK_eq P loc L T st (.ex x i)) rfl
  | lens x => exact valS_eq (i := .lens x) (vK_eq P loc L T st (.lens x)) rfl
  | lenr x => exact valS_eq (i := .lenr x) (vK_eq P loc L T st (.lenr x)) rfl
  | sls x lo hi => exact valS_eq (i := .sls x lo hi) (vK_eq P loc L T st (.sls x lo hi)) rfl
def putK (d : XT) (b : BV) (L T : RL) (k : RL → RL → Option Z) : Option Z := @XT.rec (fun _ => Option Z) (k L T) (fun n => k (setK L n b) T) (fun n => k L ((n, b) :: T)) d
theorem putK_eq (d : XT) (b : BV) (L T : RL) (k : RL → RL → Option Z) : putK d b L T k = k (putX (L, T) d b).1 (putX (L, T) d b).2 := by
  cases d with
  | no => rfl
  | l n => show k (setK L n b) T = _; rw [setK_eq]; rfl
  | t n => rfl
def guardK (g : XG) (L T : RL) (yes no : Option Z) : Option Z := @XG.rec (fun _ => Option Z) yes (fun x t => bnd (evK x L T) fun v => els (boolB v) (bnd (tupB v) fun l => @List.rec BV (fun _ => Option Z) no (fun _ _ _ => none) l) fun b => iffB b (iffB t yes no) (iffB t no yes)) none g
theorem guardK_eq (g : XG) (L T : RL) (yes no : Option Z) : guardK g L T yes no = match gX (L, T) g with
    | some true => yes
    | some false => no
    | none => none := by
  cases g with
  | yes => rfl
  | bad => rfl
  | g x t =>
    show bnd (evK x L T) (fun v => els (boolB v) (bnd (tupB v) fun l => @List.rec BV (fun _ => Option Z) no (fun _ _ _ => none) l) fun b => iffB b (iffB t yes no) (iffB t no yes)) = _
    simp only [gX, evK_eq]
    cases evX (L, T) x with
    | none => rfl
    | some v =>
      simp only [bnd_some]
      cases boolB v with
      | some b => cases b <;> cases t <;> rfl
      | none =>
        cases tupB v with
        | none => rfl
        | some l => cases l <;> rfl
abbrev RK := RL → RL → St → Option Z
def oneK (x : XP) (P : Program) (loc ok : Nat → Bool) (call : Caller) (L T : RL) (st : St) (k : RK) : Option Z :=
  guardK x.g L T (stepK x.i P loc ok call L T st fun b s => putK x.d b L T fun L' T' => k L' T' s) (putK x.d (.tup []) L T fun L' T' => k L' T' st)
def goR (z : Option (RT × St)) (k : RK) : Option Z := bnd z fun z => k z.1.1 z.1.2 z.2
theorem putW_eq (r : RT) (d : XT) (b : Option BV) : putW r d b = putX r d (b.getD (.tup [])) := by cases b <;> rfl
theorem oneK_eq (x : XP) (P : Program) (loc ok : Nat → Bool) (call : Caller) (L T : RL) (st : St) (k : RK) : oneK x P loc ok call L T st k = goR (oneX loc P ok call x (L, T) st) k := by
  unfold oneK oneX
  rw [guardK_eq, stepK_eq]
  cases gX (L, T) x.g with
  | none => rfl
  | some t =>
    cases t
    · simp only [putK_eq]; rfl
    · dsimp only
      unfold goOn
      cases stepX loc P ok call (L, T) st x.i with
      | none => rfl
      | some z => simp only [bnd_some, putK_eq, putW_eq, goR]
def runLK (P : Program) (loc ok : Nat → Bool) (call : Caller) (l : List XQ) : RL → RL → St → RK → Option Z :=
  @List.rec XQ (fun _ => RL → RL → St → RK → Option Z) (fun L T st k => k L T st) (fun x _ ih L T st k => @XQ.rec (fun _ => Option Z) (fun n x => bnd (evK x L T) fun b => ih L ((n, b) :: T) st k) (fun p => oneK p P loc ok call L T st fun L' T' s => ih L' T' s k) x) l
theorem runLK_eq (P : Program) (loc ok : Nat → Bool) (call : Caller) : ∀ (l : List XQ) (L T : RL) (st : St) (k : RK), runLK P loc ok call l L T st k = goR (runL loc P ok call (l.map toXP) (L, T) st) k
  | [], L, T, st, k => rfl
  | .g x :: l, L, T, st, k => by
    show oneK x P loc ok call L T st (fun L' T' s => runLK P loc ok call l L' T' s k) = _
    rw [oneK_eq, List.map_cons, runL, toXP]
    cases oneX loc P ok call x (L, T) st with
    | none => rfl
    | some z =>
      obtain ⟨⟨L', T'⟩, s⟩ := z
      simp only [goR, bnd_some]
      rw [runLK_eq P loc ok call l]
      rfl
  | .mt n x :: l, L, T, st, k => by
    show bnd (evK x L T) (fun b => runLK P loc ok call l L ((n, b) :: T) st k) = _
    rw [evK_eq, List.map_cons, runL, toXP]
    simp only [oneX, gX, stepX, stW, stV]
    cases evX (L, T) x with
    | none => rfl
    | some b =>
      simp only [bnd_some, putW, putX]
      rw [runLK_eq P loc ok call l]
-- drawn regions
def stabK (Wr : List Nat) (loc : Nat → Bool) (L T : RL) (i : XI) : Bool := @List.rec Nat (fun _ => Bool) true (fun _ _ _ => stabX loc Wr (L, T) i) Wr
theorem stabK_eq (Wr : List Nat) (loc : Nat → Bool) (L T : RL) (i : XI) : stabK Wr loc L T i = stabX loc Wr (L, T) i := by
  cases Wr with
  | cons a l => rfl
  | nil =>
    show true = _
    cases i with
    | ld ag sz x =>
      simp only [stabX]
      cases evX (L, T) x with
      | none => rfl
      | some b =>
        cases h : ptrB b with
        | none => simp only [h]
        | some q => simp only [h]; rfl
    | gen op => exact (stabB_nil _ _).symm
    | _ => rfl
def okW (ok : Nat → Bool) (w : Bool) (Wr : List Nat) (i : Nat) : Bool := iffB (ok i) (iffB w true (memK Wr i)) false
theorem okW_eq (ok : Nat → Bool) (w : Bool) (Wr : List Nat) : okW ok w Wr = fun i => ok i && (w || Wr.contains i) := by
  funext i
  simp only [okW, iffB_eq, memK_eq, memN_contains]
  cases ok i <;> cases w <;> rfl
def runAK (P : Program) (loc ok : Nat → Bool) (Wr : List Nat) (call : Caller) (l : List XA) : RL → RL → St → RK → Option Z :=
  @List.rec XA (fun _ => RL → RL → St → RK → Option Z) (fun L T st k => k L T st) (fun a _ ih L T st k => iffB a.take (bnd (vK a.x.i P loc L T st) fun b => putK a.x.d b L T fun L' T' => ih L' T' st k)
    (iffB (okSt st && argsIn (L, T) st a.x.i) (oneK a.x P loc (okW ok a.wr Wr) call L T st fun L' T' s => iffB (Nat.beq s.T.length st.T.length) (ih L' T' s k) none) none)) l
theorem runAK_eq (P : Program) (loc ok : Nat → Bool) (Wr : List Nat) (call : Caller) : ∀ (l : List XA) (L T : RL) (st : St) (k : RK), runAK P loc ok Wr call l L T st k = goR (runA loc P ok Wr call l (L, T) st) k
  | [], L, T, st, k => rfl
  | ⟨t, w, x⟩ :: l, L, T, st, k => by
    show iffB t (bnd (vK x.i P loc L T st) fun b => putK x.d b L T fun L' T' => runAK P loc ok Wr call l L' T' st k)
      (iffB (okSt st && argsIn (L, T) st x.i) (oneK x P loc (okW ok w Wr) call L T st fun L' T' s => iffB (Nat.beq s.T.length st.T.length) (runAK P loc ok Wr call l L' T' s k) none) none) = _
    cases t
    · rw [oneK_eq, okW_eq, iffB_eq, iffB_eq]
      simp only [cond_false, runA]
      cases okSt st && argsIn (L, T) st x.i
      · cases oneX loc P (fun i => ok i && (w || Wr.contains i)) call x (L, T) st <;> rfl
      · cases oneX loc P (fun i => ok i && (w || Wr.contains i)) call x (L, T) st with
        | none => rfl
        | some z =>
          obtain ⟨⟨L', T'⟩, s⟩ := z
          simp only [cond_true, goR, bnd_some, iffB_eq]
          cases h : Nat.beq s.T.length st.T.length
          · rfl
          · simp only [cond_true, if_true]
            rw [runAK_eq P loc ok Wr call l]
            rfl
    · rw [vK_eq, iffB_eq]
      simp only [cond_true, runA]
      cases stV loc P st (L, T) x.i with
      | none => rfl
      | some b =>
        simp only [bnd_some, putK_eq]
        rw [runAK_eq P loc ok Wr call l]
def stK (P : Program) (loc ok : Nat → Bool) (Wr : List Nat) (call : Caller) (a : XA) (L T : RL) (st : St) (k : RK) : Option Z :=
  iffB a.take (guardK a.x.g L T (iffB (stabK Wr loc L T a.x.i) (bnd (vK a.x.i P loc L T st) fun b => putK a.x.d b L T fun L' T' => k L' T' st) none) (putK a.x.d (.tup []) L T fun L' T' => k L' T' st))
    (oneK a.x P loc (okW ok a.wr Wr) call L T st k)
def flK (P : Program) (loc ok : Nat → Bool) (Wr : List Nat) (call : Caller) (A : List XA) (j : XP) (L T : RL) (st : St) (k : RK) : Option Z :=
  runAK P loc ok Wr call A L T st fun L1 T1 s1 => bnd (stW loc P ok s1 (L1, T1) j.i) fun z => bnd z.2 fun b => putK j.d b L1 T1 fun L' T' => k L' T' z.1
def runPK (P : Program) (loc ok : Nat → Bool) (Wr : List Nat) (call : Caller) (l : List XD) : RL → RL → St → RK → Option Z :=
  @List.rec XD (fun _ => RL → RL → St → RK → Option Z) (fun L T st k => k L T st) (fun x _ ih L T st k => @XD.rec (fun _ => Option Z) (fun a => stK P loc ok Wr call a L T st fun L' T' s => ih L' T' s k) (fun A j => flK P loc ok Wr call A j L T st fun L' T' s => ih L' T' s k) x) l
theorem runPK_eq (P : Program) (loc ok : Nat → Bool) (Wr : List Nat) (call : Caller) : ∀ (l : List XD) (L T : RL) (st : St) (k : RK), runPK P loc ok Wr call l L T st k = goR (runP loc P ok Wr call l (L, T) st) k
  | [], L, T, st, k => rfl
  | .st ⟨t, w, x⟩ :: l, L, T, st, k => by
    show iffB t (guardK x.g L T (iffB (stabK Wr loc L T x.i) (bnd (vK x.i P loc L T st) fun b => putK x.d b L T fun L' T' => runPK P loc ok Wr call l L' T' st k) none) (putK x.d (.tup []) L T fun L' T' => runPK P loc ok Wr call l L' T' st k))
      (oneK x P loc (okW ok w Wr) call L T st fun L' T' s => runPK P loc ok Wr call l L' T' s k) = _
    cases t
    · rw [oneK_eq, okW_eq, iffB_eq]
      simp only [cond_false, runP]
      cases oneX loc P (fun i => ok i && (w || Wr.contains i)) call x (L, T) st with
      | none => rfl
      | some z =>
        obtain ⟨⟨L', T'⟩, s⟩ := z
        simp only [goR, bnd_some]
        rw [runPK_eq P loc ok Wr call l]
        rfl
    · rw [guardK_eq, vK_eq, stabK_eq, iffB_eq, iffB_eq]
      simp only [cond_true, runP]
      cases gX (L, T) x.g with
      | none => rfl
      | some q =>
        cases q
        · simp only [putK_eq]
          rw [runPK_eq P loc ok Wr call l]
        · dsimp only
          cases stabX loc Wr (L, T) x.i
          · rfl
          · simp only [cond_true, if_true]
            cases stV loc P st (L, T) x.i with
            | none => rfl
            | some b =>
              simp only [bnd_some, putK_eq]
              rw [runPK_eq P loc ok Wr call l]
  | .fl A j :: l, L, T, st, k => by
    show runAK P loc ok Wr call A L T st (fun L1 T1 s1 => bnd (stW loc P ok s1 (L1, T1) j.i) fun z => bnd z.2 fun b => putK j.d b L1 T1 fun L' T' => runPK P loc ok Wr call l L' T' z.1 k) = _
    rw [runAK_eq, runP]
    cases runA loc P ok Wr call A (L, T) st with
    | none => rfl
    | some z =>
      obtain ⟨⟨L1, T1⟩, s1⟩ := z
      simp only [goR, bnd_some]
      cases stW loc P ok s1 (L1, T1) j.i with
      | none => rfl
      | some z =>
        obtain ⟨s2, b⟩ := z
        cases b with
        | none => rfl
        | some b =>
          simp only [bnd_some, putK_eq]
          rw [runPK_eq P loc ok Wr call l]
          rfl
end
end Go.Proofs.YtinffhimfoicdaaGreat.Calc
