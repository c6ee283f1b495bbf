/- Texts of the claim, merged: Mach0, Mach1. No conditions. -/
import Derived.Test.YtinffhimfoicdaaGreatPr3
/- Functions as the machine takes them. Printed by wip/tool/gen_mach.py. No conditions. -/
namespace Go.Proofs.YtinffhimfoicdaaGreat
open Go Go.Proofs.YtinffhimfoicdaaGreat.Calc
set_option maxRecDepth 100000
set_option linter.unusedVariables false
def x7 : XF := ⟨[0, 2, 3, 6, 27], [0], (.seq (.reg [.g ⟨(.l 2), .yes, .gen (Op.alloc 26)⟩])
 (.seq (.reg [.mt 9 (.l 0),
  .g ⟨(.t 10), .yes, .cs 25 p25 [(.t 9)]⟩,
  .g ⟨(.t 11), .yes, .cs 24 p24 [(.t 10)]⟩,
  .mt 8 (.t 11),
  .g ⟨(.t 12), .yes, .ex (.t 8) 0⟩,
  .g ⟨(.t 13), .yes, .ex (.t 8) 1⟩,
  .g ⟨(.t 14), .yes, .ex (.t 8) 2⟩,
  .g ⟨(.l 3), .yes, .gen (Op.alloc 26)⟩,
  .g ⟨.no, .yes, .st 1 (.l 3) (.t 12)⟩,
  .mt 4 (.t 13),
  .mt 5 (.t 14)])
 (.seq (.seq (.reg [.g ⟨(.t 16), .yes, .ld true 1 (.l 3)⟩,
  .g ⟨(.t 17), .yes, .cs 26 p26 [(.t 16)]⟩,
  .mt 15 (.t 17),
  .g ⟨(.t 18), .yes, .ex (.t 15) 0⟩,
  .g ⟨(.t 19), .yes, .ex (.t 15) 1⟩,
  .g ⟨(.l 6), .yes, .mv (.t 18)⟩,
  .mt 7 (.t 19)])
 (.seq (.reg [.mt 20 (.l 6),
  .g ⟨(.t 21), .yes, .bin BinOp.neq (.t 20) (.c (.d (.flat (Value.int IntKind.i64 0)))) (Op.binOp BinOp.neq 3 (Operand.tmp 20) (Operand.const (Value.int IntKind.i64 0)) 3)⟩,
  .mt 22 (.t 21),
  .g ⟨(.t 23), (.g (.t 22) false), .fa 0 (.l 3)⟩,
  .g ⟨(.t 24), (.g (.t 22) false), .ld false 1 (.t 23)⟩,
  .g ⟨(.t 25), (.g (.t 22) false), .lenr (.t 24)⟩,
  .g ⟨(.t 26), (.g (.t 22) false), .bin BinOp.eql (.t 25) (.c (.d (.flat (Value.int IntKind.i64 0)))) (Op.binOp BinOp.eql 3 (Operand.tmp 25) (Operand.const (Value.int IntKind.i64 0)) 3)⟩,
  .g ⟨(.l 27), .yes, .pick (.t 22) (.c (.d (.flat (Value.bool true)))) (.t 26)⟩])
 (.cond (.l 27) (.reg [.g ⟨(.t 29), .yes, .cs 25 p25 [(.c (.tight [] 0))]⟩,
  .g ⟨(.t 30), .yes, .cs 24 p24 [(.t 29)]⟩,
  .mt 28 (.t 30),
  .g ⟨(.t 31), .yes, .ex (.t 28) 0⟩,
  .g ⟨(.t 32), .yes, .ex (.t 28) 1⟩,
  .g ⟨(.t 33), .yes, .ex (.t 28) 2⟩,
  .g ⟨.no, .yes, .st 1 (.l 3) (.t 31)⟩])
 .skip)))
 (.seq (.reg [.g ⟨(.t 34), .yes, .ld true 1 (.l 3)⟩,
  .g ⟨.no, .yes, .st 1 (.l 2) (.t 34)⟩])
 .ret)))), [(.c 2 true 1)]⟩
theorem x7E : EntryOK Tryz.prog mTabs 7 (.fn x7) := ⟨fnT rfl, Tryz.f7, plans 7, keeps 7, 1, Tryz.func7, rfl, by kernel_rfl, by kernel_rfl⟩
def x23 : XF := ⟨[0, 1, 2, 3, 4, 5, 6, 7, 10, 15, 27, 44, 49, 59], [0], (.seq (.reg [.g ⟨(.l 1), .yes, .gen (Op.box 26 (Operand.tmp 0))⟩,
  .g ⟨(.l 2), .yes, .mv (.c (.d (.flat (Value.int IntKind.i64 0))))⟩,
  .g ⟨(.l 3), .yes, .mv (.c (.d (.flat (Value.int IntKind.i64 0))))⟩])
 (.seq (.seq (.reg [.g ⟨(.t 8), .yes, .ld true 1 (.l 1)⟩,
  .g ⟨(.t 9), .yes, .cs 41 p41 [(.t 8)]⟩,
  .g ⟨(.l 10), .yes, .not (.t 9)⟩])
 (.cond (.l 10) (.seq (.reg [.g ⟨(.l 2), .yes, .mv (.c (.d (.flat (Value.int IntKind.i64 1))))⟩,
  .g ⟨(.l 3), .yes, .mv (.c (.d (.flat (Value.int IntKind.i64 0))))⟩])
 .ret)
 .skip))
 (.seq (.seq (.reg [.g ⟨(.l 4), .yes, .mv (.c (.d (.flat (Value.int IntKind.i64 0))))⟩])
 (.block 0 (.loop (some [1, 4]) (.seq (.seq (.reg [.mt 11 (.l 4),
  .g ⟨(.t 12), .yes, .fa 0 (.l 1)⟩,
  .g ⟨(.t 13), .yes, .ld false 1 (.t 12)⟩,
  .g ⟨(.t 14), .yes, .lenr (.t 13)⟩,
  .g ⟨(.l 15), .yes, .bin BinOp.lss (.t 11) (.t 14) (Op.binOp BinOp.lss 3 (Operand.tmp 11) (Operand.tmp 14) 3)⟩])
 (.cond (.l 15) .skip
 (.exit 0)))
 (.seq (.block 1 (.seq (.reg [.g ⟨(.t 18), .yes, .fa 0 (.l 1)⟩,
  .g ⟨(.t 19), .yes, .ld false 1 (.t 18)⟩,
  .mt 20 (.l 4),
  .g ⟨(.t 21), .yes, .ia 4 (.t 19) (.t 20)⟩,
  .g ⟨(.t 22), .yes, .fa 2 (.t 21)⟩,
  .g ⟨(.t 23), .yes, .ld false 1 (.t 22)⟩,
  .g ⟨(.l 5), .yes, .mv (.t 23)⟩])
 (.seq (.seq (.reg [.g ⟨(.l 6), .yes, .mv (.c (.d (.flat (Value.int IntKind.i64 0))))⟩])
 (.block 2 (.loop (some [1, 4, 5, 6]) (.seq (.seq (.reg [.mt 24 (.l 6),
  .mt 25 (.l 5),
  .g ⟨(.t 26), .yes, .lenr (.t 25)⟩,
  .g ⟨(.l 27), .yes, .bin BinOp.lss (.t 24) (.t 26) (Op.binOp BinOp.lss 3 (Operand.tmp 24) (Operand.tmp 26) 3)⟩])
 (.cond (.l 27) .skip
 (.exit 2)))
 (.seq (.block 3 (.seq (.drw [] [.st ⟨true, false, ⟨(.t 30), .yes, .ld true 1 (.l 1)⟩⟩,
  .st ⟨true, false, ⟨(.t 31), .yes, .fa 0 (.l 1)⟩⟩,
  .st ⟨true, false, ⟨(.t 32), .yes, .ld false 1 (.t 31)⟩⟩,
  .st ⟨true, false, ⟨(.t 33), .yes, .mv (.l 4)⟩⟩,
  .st ⟨true, false, ⟨(.t 34), .yes, .ia 4 (.t 32) (.t 33)⟩⟩,
  .st ⟨true, false, ⟨(.t 35), .yes, .fa 0 (.t 34)⟩⟩,
  .st ⟨true, false, ⟨(.t 36), .yes, .ld false 1 (.t 35)⟩⟩,
  .st ⟨true, false, ⟨(.t 37), .yes, .mv (.l 5)⟩⟩,
  .st ⟨true, false, ⟨(.t 38), .yes, .mv (.l 6)⟩⟩,
  .st ⟨true, false, ⟨(.t 39), .yes, .ia 4 (.t 37) (.t 38)⟩⟩,
  .st ⟨true, false, ⟨(.t 40), .yes, .fa 2 (.t 39)⟩⟩,
  .st ⟨true, false, ⟨(.t 41), .yes, .ld false 1 (.t 40)⟩⟩,
  .st ⟨true, false, ⟨(.t 43), .yes, .mv (.l 6)⟩⟩,
  .st ⟨false, false, ⟨(.t 42), .yes, .cs 42 p42 [(.t 30), (.t 36), (.t 41)]⟩⟩,
  .st ⟨true, false, ⟨(.l 44), .yes, .bin BinOp.neq (.t 42) (.t 43) (Op.binOp BinOp.neq 3 (Operand.tmp 42) (Operand.tmp 43) 3)⟩⟩])
 (.cond (.l 44) (.seq (.reg [.mt 45 (.l 4),
  .g ⟨(.l 2), .yes, .mv (.c (.d (.flat (Value.int IntKind.i64 6))))⟩,
  .g ⟨(.l 3), .yes, .mv (.t 45)⟩])
 .ret)
 .skip)))
 (.reg [.mt 28 (.l 6),
  .g ⟨(.t 29), .yes, .bin BinOp.add (.t 28) (.c (.d (.flat (Value.int IntKind.i64 1)))) (Op.binOp BinOp.add 3 (Operand.tmp 28) (Operand.const (Value.int IntKind.i64 1)) 3)⟩,
  .g ⟨(.l 6), .yes, .mv (.t 29)⟩]))))))
 (.seq (.reg [.g ⟨(.l 7), .yes, .mv (.c (.d (.flat (Value.int IntKind.i64 0))))⟩])
 (.block 4 (.loop (some [1, 4, 5, 7]) (.seq (.seq (.reg [.mt 46 (.l 7),
  .mt 47 (.l 5),
  .g ⟨(.t 48), .yes, .lenr (.t 47)⟩,
  .g ⟨(.l 49), .yes, .bin BinOp.lss (.t 46) (.t 48) (Op.binOp BinOp.lss 3 (Operand.tmp 46) (Operand.tmp 48) 3)⟩])
 (.cond (.l 49) .skip
 (.exit 4)))
 (.seq (.block 5 (.seq (.drw [] [.st ⟨true, false, ⟨(.t 52), .yes, .ld true 1 (.l 1)⟩⟩,
  .st ⟨true, false, ⟨(.t 53), .yes, .mv (.l 5)⟩⟩,
  .st ⟨true, false, ⟨(.t 54), .yes, .mv (.l 7)⟩⟩,
  .st ⟨true, false, ⟨(.t 55), .yes, .ia 4 (.t 53) (.t 54)⟩⟩,
  .st ⟨true, false, ⟨(.t 56), .yes, .fa 1 (.t 55)⟩⟩,
  .st ⟨true, false, ⟨(.t 57), .yes, .ld false 1 (.t 56)⟩⟩,
  .st ⟨false, true, ⟨(.t 58), .yes, .cs 43 p43 [(.t 52), (.t 57)]⟩⟩,
  .st ⟨true, false, ⟨(.l 59), .yes, .not (.t 58)⟩⟩])
 (.cond (.l 59) (.seq (.reg [.mt 60 (.l 4),
  .g ⟨(.l 2), .yes, .mv (.c (.d (.flat (Value.int IntKind.i64 7))))⟩,
  .g ⟨(.l 3), .yes, .mv (.t 60)⟩])
 .ret)
 .skip)))
 (.reg [.mt 50 (.l 7),
  .g ⟨(.t 51), .yes, .bin BinOp.add (.t 50) (.c (.d (.flat (Value.int IntKind.i64 1)))) (Op.binOp BinOp.add 3 (Operand.tmp 50) (Operand.const (Value.int IntKind.i64 1)) 3)⟩,
  .g ⟨(.l 7), .yes, .mv (.t 51)⟩])))))))))
 (.reg [.mt 16 (.l 4),
  .g ⟨(.t 17), .yes, .bin BinOp.add (.t 16) (.c (.d (.flat (Value.int IntKind.i64 1)))) (Op.binOp BinOp.add 3 (Operand.tmp 16) (Operand.const (Value.int IntKind.i64 1)) 3)⟩,
  .g ⟨(.l 4), .yes, .mv (.t 17)⟩]))))))
 (.seq (.reg [.g ⟨(.l 2), .yes, .mv (.c (.d (.flat (Value.int IntKind.i64 0))))⟩,
  .g ⟨(.l 3), .yes, .mv (.c (.d (.flat (Value.int IntKind.i64 0))))⟩])
 .ret)))), [(.t 2), (.t 3)]⟩
theorem x23E : EntryOK Tryz.prog mTabs 23 (.fn x23) := ⟨fnT rfl, Tryz.f23, plans 23, keeps 23, 1, Tryz.func23, rfl, by kernel_rfl, by kernel_rfl⟩
def x24 : XF := ⟨[0, 2, 3, 4, 5, 6, 7, 8, 9, 10, 18, 43, 50, 65, 76, 91, 101], [0], (.seq (.reg [.g ⟨(.l 2), .yes, .gen (Op.alloc 26)⟩,
  .g ⟨(.l 3), .yes, .mv (.c (.d (.flat (Value.int IntKind.i64 0))))⟩,
  .g ⟨(.l 4), .yes, .mv (.c (.d (.flat (Value.int IntKind.i64 0))))⟩])
 (.seq (.reg [.mt 12 (.l 0),
  .g ⟨(.t 13), .yes, .cs 44 p44 [(.t 12)]⟩,
  .mt 11 (.t 13),
  .g ⟨(.t 14), .yes, .ex (.t 11) 0⟩,
  .g ⟨(.t 15), .yes, .ex (.t 11) 1⟩,
  .g ⟨(.t 16), .yes, .ex (.t 11) 2⟩,
  .g ⟨(.l 5), .yes, .mv (.t 14)⟩,
  .g ⟨(.l 6), .yes, .mv (.t 15)⟩,
  .g ⟨(.l 7), .yes, .mv (.t 16)⟩])
 (.seq (.seq (.reg [.mt 17 (.l 6),
  .g ⟨(.l 18), .yes, .bin BinOp.neq (.t 17) (.c (.d (.flat (Value.int IntKind.i64 0)))) (Op.binOp BinOp.neq 3 (Operand.tmp 17) (Operand.const (Value.int IntKind.i64 0)) 3)⟩])
 (.cond (.l 18) (.seq (.reg [.g ⟨(.t 19), .yes, .gen (Op.build 26 #[])⟩,
  .mt 20 (.l 6),
  .mt 21 (.l 7),
  .g ⟨.no, .yes, .st 1 (.l 2) (.t 19)⟩,
  .g ⟨(.l 3), .yes, .mv (.t 20)⟩,
  .g ⟨(.l 4), .yes, .mv (.t 21)⟩])
 .ret)
 .skip))
 (.seq (.reg [.mt 22 (.l 5),
  .mt 23 (.l 0),
  .g ⟨(.t 24), .yes, .lens (.t 23)⟩,
  .g ⟨(.t 25), .yes, .gen (Op.build 105 #[(0, (Operand.tmp 22)), (1, (Operand.tmp 24))])⟩,
  .g ⟨(.t 26), .yes, .gen (Op.box 105 (Operand.tmp 25))⟩,
  .g ⟨(.l 8), .yes, .mv (.t 26)⟩])
 (.seq (.reg [.g ⟨(.l 9), .yes, .gen (Op.alloc 26)⟩])
 (.seq (.block 0 (.loop (some [2, 8, 9]) (.seq (.seq (.drw [] [.st ⟨true, false, ⟨(.t 27), .yes, .mv (.l 8)⟩⟩,
  .st ⟨true, false, ⟨(.t 28), .yes, .nc (.t 27)⟩⟩,
  .st ⟨true, false, ⟨(.t 29), .yes, .fa 3 (.t 28)⟩⟩,
  .st ⟨true, false, ⟨(.t 30), .yes, .ld false 1 (.t 29)⟩⟩,
  .st ⟨true, false, ⟨(.t 31), .yes, .bin BinOp.eql (.t 30) (.c (.d (.flat (Value.int IntKind.i64 0)))) (Op.binOp BinOp.eql 3 (Operand.tmp 30) (Operand.const (Value.int IntKind.i64 0)) 3)⟩⟩,
  .st ⟨true, false, ⟨(.t 32), .yes, .mv (.t 31)⟩⟩,
  .st ⟨true, false, ⟨(.t 33), (.g (.t 32) true), .mv (.l 8)⟩⟩,
  .st ⟨true, false, ⟨(.t 34), (.g (.t 32) true), .nc (.t 33)⟩⟩,
  .st ⟨true, false, ⟨(.t 35), (.g (.t 32) true), .fa 2 (.t 34)⟩⟩,
  .st ⟨true, false, ⟨(.t 36), (.g (.t 32) true), .ld false 1 (.t 35)⟩⟩,
  .st ⟨true, false, ⟨(.t 37), (.g (.t 32) true), .mv (.l 8)⟩⟩,
  .st ⟨true, false, ⟨(.t 38), (.g (.t 32) true), .nc (.t 37)⟩⟩,
  .st ⟨true, false, ⟨(.t 39), (.g (.t 32) true), .fa 0 (.t 38)⟩⟩,
  .st ⟨true, false, ⟨(.t 40), (.g (.t 32) true), .ld false 1 (.t 39)⟩⟩,
  .st ⟨true, false, ⟨(.t 41), (.g (.t 32) true), .lenr (.t 40)⟩⟩,
  .st ⟨true, false, ⟨(.t 42), (.g (.t 32) true), .bin BinOp.lss (.t 36) (.t 41) (Op.binOp BinOp.lss 3 (Operand.tmp 36) (Operand.tmp 41) 3)⟩⟩,
  .st ⟨true, false, ⟨(.l 43), .yes, .pick (.t 32) (.t 42) (.c (.d (.flat (Value.bool false))))⟩⟩])
 (.cond (.l 43) .skip
 (.exit 0)))
 (.block 1 (.seq (.reg [.mt 44 (.l 8),
  .g ⟨(.t 45), .yes, .cs 45 p45 [(.t 44), (.c (.d (.flat (Value.string ⟨#[99, 108, 97, 115, 115]⟩))))]⟩])
 (.seq (.reg [.mt 46 (.l 8),
  .g ⟨(.t 47), .yes, .cs 46 p46 [(.t 46)]⟩,
  .g ⟨(.t 48), .yes, .gen (Op.build 37 #[(0, (Operand.tmp 47))])⟩,
  .g ⟨(.l 10), .yes, .gen (Op.alloc 37)⟩,
  .g ⟨.no, .yes, .st 4 (.l 10) (.t 48)⟩])
 (.seq (.seq (.reg [.mt 49 (.l 8),
  .g ⟨(.l 50), .yes, .cs 47 p47 [(.t 49), (.c (.d (.flat (Value.string ⟨#[101, 120, 116, 101, 110, 100, 115]⟩))))]⟩])
 (.cond (.l 50) (.reg [.mt 51 (.l 8),
  .g ⟨(.t 52), .yes, .cs 46 p46 [(.t 51)]⟩,
  .g ⟨(.t 53), .yes, .fa 1 (.l 10)⟩,
  .g ⟨.no, .yes, .st 1 (.t 53) (.t 52)⟩])
 .skip))
 (.seq (.reg [.mt 54 (.l 8),
  .g ⟨(.t 55), .yes, .cs 45 p45 [(.t 54), (.c (.d (.flat (Value.string ⟨#[123]⟩))))]⟩])
 (.seq (.block 2 (.loop (some [2, 8, 9, 10]) (.seq (.seq (.reg [.mt 56 (.l 8),
  .g ⟨(.t 57), .yes, .nc (.t 56)⟩,
  .g ⟨(.t 58), .yes, .fa 3 (.t 57)⟩,
  .g ⟨(.t 59), .yes, .ld false 1 (.t 58)⟩,
  .g ⟨(.t 60), .yes, .bin BinOp.eql (.t 59) (.c (.d (.flat (Value.int IntKind.i64 0)))) (Op.binOp BinOp.eql 3 (Operand.tmp 59) (Operand.const (Value.int IntKind.i64 0)) 3)⟩,
  .mt 61 (.t 60),
  .g ⟨(.t 62), (.g (.t 61) true), .mv (.l 8)⟩,
  .g ⟨(.t 63), (.g (.t 61) true), .cs 48 p48 [(.t 62), (.c (.d (.flat (Value.string ⟨#[125]⟩))))]⟩,
  .g ⟨(.t 64), (.g (.t 61) true), .not (.t 63)⟩,
  .g ⟨(.l 65), .yes, .pick (.t 61) (.t 64) (.c (.d (.flat (Value.bool false))))⟩])
 (.cond (.l 65) .skip
 (.exit 2)))
 (.block 3 (.reg [.mt 66 (.l 8),
  .g ⟨(.t 67), .yes, .cs 49 p49 [(.t 66), (.l 10)]⟩])))))
 (.seq (.reg [.mt 68 (.l 8),
  .g ⟨(.t 69), .yes, .cs 45 p45 [(.t 68), (.c (.d (.flat (Value.string ⟨#[125]⟩))))]⟩])
 (.reg [.g ⟨(.t 70), .yes, .fa 0 (.l 9)⟩,
  .g ⟨(.t 71), .yes, .ld false 1 (.t 70)⟩,
  .g ⟨(.t 72), .yes, .ld true 4 (.l 10)⟩,
  .g ⟨(.t 73), .yes, .gen (Op.buildSlice 24 1 #[(0, (Operand.tmp 72))])⟩,
  .g ⟨(.t 74), .yes, .gen (Op.call { callee := (Callee.builtin Builtin.append), args := #[(Operand.tmp 71), (Operand.tmp 73)], argTypes := #[24, 24] })⟩,
  .g ⟨(.t 75), .yes, .fa 0 (.l 9)⟩,
  .g ⟨.no, .yes, .st 1 (.t 75) (.t 74)⟩])))))))))))
 (.seq (.block 4 (.seq (.reg [.mt 77 (.l 8),
  .g ⟨(.t 78), .yes, .nc (.t 77)⟩,
  .g ⟨(.t 79), .yes, .fa 3 (.t 78)⟩,
  .g ⟨(.t 80), .yes, .ld false 1 (.t 79)⟩,
  .g ⟨(.t 81), .yes, .bin BinOp.neq (.t 80) (.c (.d (.flat (Value.int IntKind.i64 0)))) (Op.binOp BinOp.neq 3 (Operand.tmp 80) (Operand.const (Value.int IntKind.i64 0)) 3)⟩,
  .g ⟨(.l 76), .yes, .mv (.t 81)⟩])
 (.cond (.l 76) (.seq (.drw [(.l 2)] [.st ⟨true, false, ⟨(.t 82), .yes, .gen (Op.build 26 #[])⟩⟩,
  .st ⟨true, false, ⟨(.t 83), .yes, .mv (.l 8)⟩⟩,
  .st ⟨true, false, ⟨(.t 84), .yes, .nc (.t 83)⟩⟩,
  .st ⟨true, false, ⟨(.t 85), .yes, .fa 3 (.t 84)⟩⟩,
  .st ⟨true, false, ⟨(.t 86), .yes, .ld false 1 (.t 85)⟩⟩,
  .st ⟨true, false, ⟨(.t 87), .yes, .mv (.l 8)⟩⟩,
  .st ⟨true, false, ⟨(.t 88), .yes, .nc (.t 87)⟩⟩,
  .st ⟨true, false, ⟨(.t 89), .yes, .fa 4 (.t 88)⟩⟩,
  .st ⟨true, false, ⟨(.t 90), .yes, .ld false 1 (.t 89)⟩⟩,
  .st ⟨false, false, ⟨.no, .yes, .st 1 (.l 2) (.t 82)⟩⟩,
  .st ⟨true, false, ⟨(.l 3), .yes, .mv (.t 86)⟩⟩,
  .st ⟨true, false, ⟨(.l 4), .yes, .mv (.t 90)⟩⟩])
 .ret)
 (.seq (.reg [.mt 92 (.l 8),
  .g ⟨(.t 93), .yes, .nc (.t 92)⟩,
  .g ⟨(.t 94), .yes, .fa 6 (.t 93)⟩,
  .g ⟨(.t 95), .yes, .ld false 1 (.t 94)⟩,
  .g ⟨(.l 91), .yes, .mv (.t 95)⟩])
 (.cond (.l 91) (.seq (.drw [(.l 2)] [.st ⟨true, false, ⟨(.t 96), .yes, .gen (Op.build 26 #[])⟩⟩,
  .st ⟨true, false, ⟨(.t 97), .yes, .mv (.l 8)⟩⟩,
  .st ⟨true, false, ⟨(.t 98), .yes, .nc (.t 97)⟩⟩,
  .st ⟨true, false, ⟨(.t 99), .yes, .fa 7 (.t 98)⟩⟩,
  .st ⟨true, false, ⟨(.t 100), .yes, .ld false 1 (.t 99)⟩⟩,
  .st ⟨false, false, ⟨.no, .yes, .st 1 (.l 2) (.t 96)⟩⟩,
  .st ⟨true, false, ⟨(.l 3), .yes, .mv (.c (.d (.flat (Value.int IntKind.i64 3))))⟩⟩,
  .st ⟨true, false, ⟨(.l 4), .yes, .mv (.t 100)⟩⟩])
 .ret)
 (.seq (.reg [.g ⟨(.t 102), .yes, .ld true 1 (.l 9)⟩,
  .g ⟨(.t 103), .yes, .cs 50 p50 [(.t 102)]⟩,
  .g ⟨(.t 104), .yes, .not (.t 103)⟩,
  .g ⟨(.l 101), .yes, .mv (.t 104)⟩])
 (.cond (.l 101) (.seq (.reg [.g ⟨(.t 105), .yes, .gen (Op.build 26 #[])⟩,
  .g ⟨.no, .yes, .st 1 (.l 2) (.t 105)⟩,
  .g ⟨(.l 3), .yes, .mv (.c (.d (.flat (Value.int IntKind.i64 5))))⟩,
  .g ⟨(.l 4), .yes, .mv (.c (.d (.flat (Value.int IntKind.i64 0))))⟩])
 .ret)
 .skip)))))))
 (.seq (.reg [.g ⟨(.t 106), .yes, .ld true 1 (.l 9)⟩,
  .g ⟨.no, .yes, .st 1 (.l 2) (.t 106)⟩,
  .g ⟨(.l 3), .yes, .mv (.c (.d (.flat (Value.int IntKind.i64 0))))⟩,
  .g ⟨(.l 4), .yes, .mv (.c (.d (.flat (Value.int IntKind.i64 0))))⟩])
 .ret)))))))), [(.c 2 true 1), (.t 3), (.t 4)]⟩
theorem x24E : EntryOK Tryz.prog mTabs 24 (.fn x24) := ⟨fnT rfl, Tryz.f24, plans 24, keeps 24, 1, Tryz.func24, rfl, by kernel_rfl, by kernel_rfl⟩
def x25 : XF := ⟨[0, 2, 3, 4, 12, 28], [0], (.seq (.reg [.g ⟨(.l 2), .yes, .mv (.c (.d (.flat (Value.string ⟨#[]⟩))))⟩])
 (.seq (.reg [.mt 5 (.l 0),
  .g ⟨(.t 6), .yes, .cs 52 p52 [(.t 5), (.c (.d (.flat (Value.int IntKind.i64 0))))]⟩,
  .g ⟨(.t 7), .yes, .cs 51 p51 [(.t 6), (.c (.d (.flat (Value.int IntKind.i64 4)))), (.c (.d (.flat (Value.bool false))))]⟩,
  .g ⟨(.t 8), .yes, .bin BinOp.add (.c (.d (.flat (Value.string ⟨#[99, 108, 97, 115, 115, 32, 65, 32, 123, 32, 105, 110, 116, 32, 120, 32, 61, 32, 49, 59, 32, 115, 116, 97, 116, 105, 99, 32, 105, 110, 116, 32, 115, 32, 61, 32, 50, 59, 32, 65, 32, 110, 59, 32, 83, 116, 114, 105, 110, 103, 32, 119, 32, 61, 32, 34, 119, 34, 59, 32, 65, 40, 41, 32, 123, 32, 120, 32, 61, 32, 53, 59, 32, 125, 32, 105, 110, 116, 32, 102, 40, 105, 110, 116, 32, 97, 41, 32, 123, 32, 65, 32, 111, 32, 61, 32, 110, 59]⟩)))) (.t 7) (Op.binOp BinOp.add 9 (Operand.const (Value.string ⟨#[99, 108, 97, 115, 115, 32, 65, 32, 123, 32, 105, 110, 116, 32, 120, 32, 61, 32, 49, 59, 32, 115, 116, 97, 116, 105, 99, 32, 105, 110, 116, 32, 115, 32, 61, 32, 50, 59, 32, 65, 32, 110, 59, 32, 83, 116, 114, 105, 110, 103, 32, 119, 32, 61, 32, 34, 119, 34, 59, 32, 65, 40, 41, 32, 123, 32, 120, 32, 61, 32, 53, 59, 32, 125, 32, 105, 110, 116, 32, 102, 40, 105, 110, 116, 32, 97, 41, 32, 123, 32, 65, 32, 111, 32, 61, 32, 110, 59]⟩)) (Operand.tmp 7) 9)⟩,
  .g ⟨(.t 9), .yes, .bin BinOp.add (.t 8) (.c (.d (.flat (Value.string ⟨#[32, 114, 101, 116, 117, 114, 110, 32, 120, 59, 32, 125, 32, 105, 110, 116, 32, 102, 40, 65, 32, 111, 41, 32, 123, 32, 114, 101, 116, 117, 114, 110, 32, 49, 59, 32, 125, 32, 105, 110, 116, 32, 102, 40, 105, 110, 116, 32, 97, 44, 32, 105, 110, 116, 32, 98, 41, 32, 123, 32, 114, 101, 116, 117, 114, 110, 32, 97, 32, 45, 32, 98, 59, 32, 125, 32, 118, 111, 105, 100, 32, 103, 50, 40, 41, 32, 123, 32, 112, 114, 105, 110, 116, 32, 34, 65, 34, 59, 32, 125, 32, 115, 116, 97, 116, 105, 99, 32, 105, 110, 116, 32, 107, 40, 105, 110, 116, 32, 97, 41, 32, 123, 32, 114, 101, 116, 117, 114, 110, 32, 97, 32, 42, 32, 65, 58, 58, 115, 59, 32, 125, 32, 125, 10]⟩)))) (Op.binOp BinOp.add 9 (Operand.tmp 8) (Operand.const (Value.string ⟨#[32, 114, 101, 116, 117, 114, 110, 32, 120, 59, 32, 125, 32, 105, 110, 116, 32, 102, 40, 65, 32, 111, 41, 32, 123, 32, 114, 101, 116, 117, 114, 110, 32, 49, 59, 32, 125, 32, 105, 110, 116, 32, 102, 40, 105, 110, 116, 32, 97, 44, 32, 105, 110, 116, 32, 98, 41, 32, 123, 32, 114, 101, 116, 117, 114, 110, 32, 97, 32, 45, 32, 98, 59, 32, 125, 32, 118, 111, 105, 100, 32, 103, 50, 40, 41, 32, 123, 32, 112, 114, 105, 110, 116, 32, 34, 65, 34, 59, 32, 125, 32, 115, 116, 97, 116, 105, 99, 32, 105, 110, 116, 32, 107, 40, 105, 110, 116, 32, 97, 41, 32, 123, 32, 114, 101, 116, 117, 114, 110, 32, 97, 32, 42, 32, 65, 58, 58, 115, 59, 32, 125, 32, 125, 10]⟩)) 9)⟩,
  .g ⟨(.l 3), .yes, .mv (.t 9)⟩])
 (.seq (.reg [.g ⟨(.l 4), .yes, .mv (.c (.d (.flat (Value.string ⟨#[110, 101, 119, 32, 65, 40, 41]⟩))))⟩])
 (.seq (.seq (.reg [.mt 10 (.l 0),
  .g ⟨(.t 11), .yes, .lenr (.t 10)⟩,
  .g ⟨(.l 12), .yes, .bin BinOp.gtr (.t 11) (.c (.d (.flat (Value.int IntKind.i64 1)))) (Op.binOp BinOp.gtr 3 (Operand.tmp 11) (Operand.const (Value.int IntKind.i64 1)) 3)⟩])
 (.cond (.l 12) (.seq (.reg [.mt 13 (.l 3),
  .g ⟨(.t 14), .yes, .bin BinOp.add (.t 13) (.c (.d (.flat (Value.string ⟨#[99, 108, 97, 115, 115, 32, 66, 32, 101, 120, 116, 101, 110, 100, 115, 32, 65, 32, 123, 32, 105, 110, 116, 32, 120, 32, 61, 32, 55, 59, 32, 105, 110, 116, 32, 121, 59, 32, 66, 32, 109, 59, 32, 66, 40, 105, 110, 116, 32, 97, 41, 32, 123, 32, 115, 117, 112, 101, 114, 40, 41, 59, 32, 121, 32, 61, 32, 97, 59, 32, 125, 32, 66, 40, 41, 32, 123, 32, 125, 32, 105, 110, 116, 32, 102, 40, 105, 110, 116, 32, 97, 41, 32, 123, 32, 65, 32, 111, 32, 61, 32, 116, 104, 105, 115, 59]⟩)))) (Op.binOp BinOp.add 9 (Operand.tmp 13) (Operand.const (Value.string ⟨#[99, 108, 97, 115, 115, 32, 66, 32, 101, 120, 116, 101, 110, 100, 115, 32, 65, 32, 123, 32, 105, 110, 116, 32, 120, 32, 61, 32, 55, 59, 32, 105, 110, 116, 32, 121, 59, 32, 66, 32, 109, 59, 32, 66, 40, 105, 110, 116, 32, 97, 41, 32, 123, 32, 115, 117, 112, 101, 114, 40, 41, 59, 32, 121, 32, 61, 32, 97, 59, 32, 125, 32, 66, 40, 41, 32, 123, 32, 125, 32, 105, 110, 116, 32, 102, 40, 105, 110, 116, 32, 97, 41, 32, 123, 32, 65, 32, 111, 32, 61, 32, 116, 104, 105, 115, 59]⟩)) 9)⟩,
  .mt 15 (.l 0),
  .g ⟨(.t 16), .yes, .cs 52 p52 [(.t 15), (.c (.d (.flat (Value.int IntKind.i64 1))))]⟩,
  .g ⟨(.t 17), .yes, .cs 51 p51 [(.t 16), (.c (.d (.flat (Value.int IntKind.i64 4)))), (.c (.d (.flat (Value.bool true))))]⟩,
  .g ⟨(.t 18), .yes, .bin BinOp.add (.t 14) (.t 17) (Op.binOp BinOp.add 9 (Operand.tmp 14) (Operand.tmp 17) 9)⟩,
  .g ⟨(.t 19), .yes, .bin BinOp.add (.t 18) (.c (.d (.flat (Value.string ⟨#[32, 114, 101, 116, 117, 114, 110, 32, 121, 32, 43, 32, 97, 59, 32, 125, 32, 118, 111, 105, 100, 32, 103, 50, 40, 41, 32, 123, 32, 112, 114, 105, 110, 116, 32, 34, 66, 34, 59, 32, 115, 117, 112, 101, 114, 46, 103, 50, 40, 41, 59, 32, 112, 114, 105, 110, 116, 32, 121, 59, 32, 125, 32, 125, 10]⟩)))) (Op.binOp BinOp.add 9 (Operand.tmp 18) (Operand.const (Value.string ⟨#[32, 114, 101, 116, 117, 114, 110, 32, 121, 32, 43, 32, 97, 59, 32, 125, 32, 118, 111, 105, 100, 32, 103, 50, 40, 41, 32, 123, 32, 112, 114, 105, 110, 116, 32, 34, 66, 34, 59, 32, 115, 117, 112, 101, 114, 46, 103, 50, 40, 41, 59, 32, 112, 114, 105, 110, 116, 32, 121, 59, 32, 125, 32, 125, 10]⟩)) 9)⟩,
  .g ⟨(.l 3), .yes, .mv (.t 19)⟩])
 (.reg [.g ⟨(.t 20), .yes, .gen (Op.buildSlice 33 3 #[(0, (Operand.const (Value.string ⟨#[110, 101, 119, 32, 66, 40, 50, 41]⟩))), (1, (Operand.const (Value.string ⟨#[110, 101, 119, 32, 66, 40, 41]⟩))), (2, (Operand.const (Value.string ⟨#[110, 101, 119, 32, 65, 40, 41]⟩)))])⟩,
  .mt 21 (.l 0),
  .g ⟨(.t 22), .yes, .ia 1 (.t 21) (.c (.d (.flat (Value.int IntKind.i64 1))))⟩,
  .g ⟨(.t 23), .yes, .ld false 1 (.t 22)⟩,
  .g ⟨(.t 24), .yes, .lenr (.t 23)⟩,
  .g ⟨(.t 25), .yes, .cs 53 p53 [(.t 20), (.t 24)]⟩,
  .g ⟨(.l 4), .yes, .mv (.t 25)⟩]))
 .skip))
 (.seq (.seq (.reg [.mt 26 (.l 0),
  .g ⟨(.t 27), .yes, .lenr (.t 26)⟩,
  .g ⟨(.l 28), .yes, .bin BinOp.gtr (.t 27) (.c (.d (.flat (Value.int IntKind.i64 2)))) (Op.binOp BinOp.gtr 3 (Operand.tmp 27) (Operand.const (Value.int IntKind.i64 2)) 3)⟩])
 (.cond (.l 28) (.seq (.reg [.mt 29 (.l 3),
  .g ⟨(.t 30), .yes, .bin BinOp.add (.t 29) (.c (.d (.flat (Value.string ⟨#[99, 108, 97, 115, 115, 32, 67, 32, 101, 120, 116, 101, 110, 100, 115, 32, 66, 32, 123, 32, 105, 110, 116, 32, 120, 32, 61, 32, 57, 59, 32, 67, 40, 41, 32, 123, 32, 115, 117, 112, 101, 114, 40, 51, 41, 59, 32, 125, 32, 118, 111, 105, 100, 32, 103, 50, 40, 41, 32, 123, 32, 115, 117, 112, 101, 114, 46, 103, 50, 40, 41, 59, 32, 105, 110, 116, 32, 97, 32, 61, 32, 50, 59, 32, 65, 32, 111, 32, 61, 32, 110, 59]⟩)))) (Op.binOp BinOp.add 9 (Operand.tmp 29) (Operand.const (Value.string ⟨#[99, 108, 97, 115, 115, 32, 67, 32, 101, 120, 116, 101, 110, 100, 115, 32, 66, 32, 123, 32, 105, 110, 116, 32, 120, 32, 61, 32, 57, 59, 32, 67, 40, 41, 32, 123, 32, 115, 117, 112, 101, 114, 40, 51, 41, 59, 32, 125, 32, 118, 111, 105, 100, 32, 103, 50, 40, 41, 32, 123, 32, 115, 117, 112, 101, 114, 46, 103, 50, 40, 41, 59, 32, 105, 110, 116, 32, 97, 32, 61, 32, 50, 59, 32, 65, 32, 111, 32, 61, 32, 110, 59]⟩)) 9)⟩,
  .mt 31 (.l 0),
  .g ⟨(.t 32), .yes, .cs 52 p52 [(.t 31), (.c (.d (.flat (Value.int IntKind.i64 2))))]⟩,
  .g ⟨(.t 33), .yes, .cs 51 p51 [(.t 32), (.c (.d (.flat (Value.int IntKind.i64 2)))), (.c (.d (.flat (Value.bool false))))]⟩,
  .g ⟨(.t 34), .yes, .bin BinOp.add (.t 30) (.t 33) (Op.binOp BinOp.add 9 (Operand.tmp 30) (Operand.tmp 33) 9)⟩,
  .g ⟨(.t 35), .yes, .bin BinOp.add (.t 34) (.c (.d (.flat (Value.string ⟨#[32, 125, 32, 125, 10]⟩)))) (Op.binOp BinOp.add 9 (Operand.tmp 34) (Operand.const (Value.string ⟨#[32, 125, 32, 125, 10]⟩)) 9)⟩,
  .g ⟨(.l 3), .yes, .mv (.t 35)⟩])
 (.seq (.reg [.mt 36 (.l 3),
  .g ⟨(.t 37), .yes, .cs 54 p54 [(.t 36), (.c (.d (.flat (Value.string ⟨#[65, 32, 111, 32, 61, 32, 116, 104, 105, 115, 59]⟩)))), (.c (.d (.flat (Value.string ⟨#[65, 32, 111, 32, 61, 32, 116, 104, 105, 115, 59, 32, 67, 32, 99, 32, 61, 32, 110, 101, 119, 32, 67, 40, 41, 59]⟩))))]⟩,
  .g ⟨(.l 3), .yes, .mv (.t 37)⟩])
 (.reg [.mt 38 (.l 4),
  .g ⟨(.t 39), .yes, .gen (Op.buildSlice 33 2 #[(0, (Operand.const (Value.string ⟨#[110, 101, 119, 32, 67, 40, 41]⟩))), (1, (Operand.tmp 38))])⟩,
  .mt 40 (.l 0),
  .g ⟨(.t 41), .yes, .ia 1 (.t 40) (.c (.d (.flat (Value.int IntKind.i64 2))))⟩,
  .g ⟨(.t 42), .yes, .ld false 1 (.t 41)⟩,
  .g ⟨(.t 43), .yes, .lenr (.t 42)⟩,
  .g ⟨(.t 44), .yes, .cs 53 p53 [(.t 39), (.t 43)]⟩,
  .g ⟨(.l 4), .yes, .mv (.t 44)⟩])))
 .skip))
 (.seq (.reg [.mt 45 (.l 3),
  .g ⟨(.t 46), .yes, .bin BinOp.add (.t 45) (.c (.d (.flat (Value.string ⟨#[99, 108, 97, 115, 115, 32, 84, 32, 123, 32, 115, 116, 97, 116, 105, 99, 32, 65, 32, 122, 32, 61, 32]⟩)))) (Op.binOp BinOp.add 9 (Operand.tmp 45) (Operand.const (Value.string ⟨#[99, 108, 97, 115, 115, 32, 84, 32, 123, 32, 115, 116, 97, 116, 105, 99, 32, 65, 32, 122, 32, 61, 32]⟩)) 9)⟩,
  .mt 47 (.l 4),
  .g ⟨(.t 48), .yes, .bin BinOp.add (.t 46) (.t 47) (Op.binOp BinOp.add 9 (Operand.tmp 46) (Operand.tmp 47) 9)⟩,
  .g ⟨(.t 49), .yes, .bin BinOp.add (.t 48) (.c (.d (.flat (Value.string ⟨#[59, 32, 115, 116, 97, 116, 105, 99, 32, 118, 111, 105, 100, 32, 116, 49, 40, 41, 32, 123, 32, 65, 32, 111, 32, 61, 32, 84, 58, 58, 122, 59, 32, 112, 114, 105, 110, 116, 32, 111, 46, 102, 40, 51, 41, 59, 32, 111, 46, 103, 50, 40, 41, 59, 32, 97, 115, 115, 101, 114, 116, 32, 49, 32, 111, 46, 120, 32, 60, 32, 57, 59, 32, 125, 32, 115, 116, 97, 116, 105, 99, 32, 118, 111, 105, 100, 32, 116, 50, 40, 41, 32, 123, 32, 65, 32, 111, 32, 61, 32]⟩)))) (Op.binOp BinOp.add 9 (Operand.tmp 48) (Operand.const (Value.string ⟨#[59, 32, 115, 116, 97, 116, 105, 99, 32, 118, 111, 105, 100, 32, 116, 49, 40, 41, 32, 123, 32, 65, 32, 111, 32, 61, 32, 84, 58, 58, 122, 59, 32, 112, 114, 105, 110, 116, 32, 111, 46, 102, 40, 51, 41, 59, 32, 111, 46, 103, 50, 40, 41, 59, 32, 97, 115, 115, 101, 114, 116, 32, 49, 32, 111, 46, 120, 32, 60, 32, 57, 59, 32, 125, 32, 115, 116, 97, 116, 105, 99, 32, 118, 111, 105, 100, 32, 116, 50, 40, 41, 32, 123, 32, 65, 32, 111, 32, 61, 32]⟩)) 9)⟩,
  .mt 50 (.l 4),
  .g ⟨(.t 51), .yes, .bin BinOp.add (.t 49) (.t 50) (Op.binOp BinOp.add 9 (Operand.tmp 49) (Operand.tmp 50) 9)⟩,
  .g ⟨(.t 52), .yes, .bin BinOp.add (.t 51) (.c (.d (.flat (Value.string ⟨#[59]⟩)))) (Op.binOp BinOp.add 9 (Operand.tmp 51) (Operand.const (Value.string ⟨#[59]⟩)) 9)⟩,
  .mt 53 (.l 0),
  .g ⟨(.t 54), .yes, .cs 52 p52 [(.t 53), (.c (.d (.flat (Value.int IntKind.i64 3))))]⟩,
  .g ⟨(.t 55), .yes, .cs 55 p55 [(.t 54)]⟩,
  .g ⟨(.t 56), .yes, .bin BinOp.add (.t 52) (.t 55) (Op.binOp BinOp.add 9 (Operand.tmp 52) (Operand.tmp 55) 9)⟩,
  .g ⟨(.t 57), .yes, .bin BinOp.add (.t 56) (.c (.d (.flat (Value.string ⟨#[32, 125, 32, 125, 10]⟩)))) (Op.binOp BinOp.add 9 (Operand.tmp 56) (Operand.const (Value.string ⟨#[32, 125, 32, 125, 10]⟩)) 9)⟩,
  .g ⟨(.l 2), .yes, .mv (.t 57)⟩])
 .ret)))))), [(.t 2)]⟩
theorem x25E : EntryOK Tryz.prog mTabs 25 (.fn x25) := ⟨fnT rfl, Tryz.f25, plans 25, keeps 25, 1, Tryz.func25, rfl, by kernel_rfl, by kernel_rfl⟩
def x26 : XF := ⟨[0, 1, 2, 3, 5, 6], [0], (.seq (.reg [.g ⟨(.l 1), .yes, .gen (Op.box 26 (Operand.tmp 0))⟩,
  .g ⟨(.l 2), .yes, .mv (.c (.d (.flat (Value.int IntKind.i64 0))))⟩,
  .g ⟨(.l 3), .yes, .mv (.c (.d (.flat (Value.string ⟨#[]⟩))))⟩])
 (.seq (.reg [.g ⟨(.t 8), .yes, .ld true 1 (.l 1)⟩,
  .g ⟨(.t 9), .yes, .cs 56 p56 [(.t 8)]⟩,
  .mt 7 (.t 9),
  .g ⟨(.t 10), .yes, .ex (.t 7) 0⟩,
  .g ⟨(.t 11), .yes, .ex (.t 7) 1⟩,
  .g ⟨(.t 12), .yes, .ex (.t 7) 2⟩,
  .g ⟨(.t 4), .yes, .gen (Op.alloc 26)⟩,
  .g ⟨.no, .yes, .st 1 (.t 4) (.t 10)⟩,
  .g ⟨(.l 5), .yes, .mv (.t 11)⟩,
  .g ⟨(.l 6), .yes, .mv (.t 12)⟩])
 (.seq (.reg [.mt 13 (.l 5),
  .mt 14 (.l 6),
  .g ⟨(.l 2), .yes, .mv (.t 13)⟩,
  .g ⟨(.l 3), .yes, .mv (.t 14)⟩])
 .ret))), [(.t 2), (.t 3)]⟩
theorem x26E : EntryOK Tryz.prog mTabs 26 (.fn x26) := ⟨fnT rfl, Tryz.f26, plans 26, keeps 26, 1, Tryz.func26, rfl, by kernel_rfl, by kernel_rfl⟩
def x31 : XF := ⟨[0, 1, 2, 4], [0, 1], (.seq (.reg [.g ⟨(.l 2), .yes, .gen (Op.box 26 (Operand.tmp 0))⟩,
  .g ⟨(.l 4), .yes, .mv (.c (.d (.flat (Value.bool false))))⟩])
 (.seq (.reg [.mt 5 (.l 1),
  .g ⟨(.t 6), .yes, .cs 65 p65 [(.t 5)]⟩,
  .mt 7 (.t 6),
  .g ⟨(.t 8), (.g (.t 7) false), .ld true 1 (.l 2)⟩,
  .g ⟨(.t 9), (.g (.t 7) false), .mv (.l 1)⟩,
  .g ⟨(.t 10), (.g (.t 7) false), .cs 66 p66 [(.t 8), (.t 9)]⟩,
  .g ⟨(.t 11), (.g (.t 7) false), .bin BinOp.geq (.t 10) (.c (.d (.flat (Value.int IntKind.i64 0)))) (Op.binOp BinOp.geq 3 (Operand.tmp 10) (Operand.const (Value.int IntKind.i64 0)) 3)⟩,
  .g ⟨(.t 12), .yes, .pick (.t 7) (.c (.d (.flat (Value.bool true)))) (.t 11)⟩,
  .g ⟨(.l 4), .yes, .mv (.t 12)⟩])
 .ret)), [(.t 4)]⟩
theorem x31E : EntryOK Tryz.prog mTabs 31 (.fn x31) := ⟨fnT rfl, Tryz.f31, plans 31, keeps 31, 2, Tryz.func31, rfl, by kernel_rfl, by kernel_rfl⟩
def x33 : XF := ⟨[0, 1, 2, 3, 4, 5, 6, 21], [0, 1], (.seq (.reg [.g ⟨(.l 2), .yes, .gen (Op.box 26 (Operand.tmp 0))⟩,
  .g ⟨(.l 3), .yes, .gen (Op.box 44 (Operand.tmp 1))⟩,
  .g ⟨(.l 4), .yes, .gen (Op.alloc 76)⟩,
  .g ⟨(.l 5), .yes, .mv (.c (.d (.flat (Value.bool false))))⟩])
 (.seq (.reg [.g ⟨(.t 7), .yes, .ld true 1 (.l 2)⟩,
  .g ⟨(.t 8), .yes, .fa 0 (.l 3)⟩,
  .g ⟨(.t 9), .yes, .ld false 1 (.t 8)⟩,
  .g ⟨(.t 10), .yes, .cs 68 p68 [(.t 7), (.t 9)]⟩,
  .g ⟨(.l 6), .yes, .gen (Op.alloc 37)⟩,
  .g ⟨.no, .yes, .st 4 (.l 6) (.t 10)⟩])
 (.seq (.seq (.reg [.g ⟨(.t 11), .yes, .fa 1 (.l 3)⟩,
  .g ⟨(.t 12), .yes, .ld false 1 (.t 11)⟩,
  .g ⟨(.t 13), .yes, .bin BinOp.lss (.t 12) (.c (.d (.flat (Value.int IntKind.i64 0)))) (Op.binOp BinOp.lss 3 (Operand.tmp 12) (Operand.const (Value.int IntKind.i64 0)) 3)⟩,
  .mt 14 (.t 13),
  .g ⟨(.t 15), (.g (.t 14) false), .fa 1 (.l 3)⟩,
  .g ⟨(.t 16), (.g (.t 14) false), .ld false 1 (.t 15)⟩,
  .g ⟨(.t 17), (.g (.t 14) false), .fa 2 (.l 6)⟩,
  .g ⟨(.t 18), (.g (.t 14) false), .ld false 1 (.t 17)⟩,
  .g ⟨(.t 19), (.g (.t 14) false), .lenr (.t 18)⟩,
  .g ⟨(.t 20), (.g (.t 14) false), .bin BinOp.geq (.t 16) (.t 19) (Op.binOp BinOp.geq 3 (Operand.tmp 16) (Operand.tmp 19) 3)⟩,
  .g ⟨(.l 21), .yes, .pick (.t 14) (.c (.d (.flat (Value.bool true)))) (.t 20)⟩])
 (.cond (.l 21) (.seq (.reg [.g ⟨(.t 22), .yes, .gen (Op.build 76 #[])⟩,
  .g ⟨.no, .yes, .st 4 (.l 4) (.t 22)⟩,
  .g ⟨(.l 5), .yes, .mv (.c (.d (.flat (Value.bool false))))⟩])
 .ret)
 .skip))
 (.seq (.reg [.g ⟨(.t 23), .yes, .fa 2 (.l 6)⟩,
  .g ⟨(.t 24), .yes, .ld false 1 (.t 23)⟩,
  .g ⟨(.t 25), .yes, .fa 1 (.l 3)⟩,
  .g ⟨(.t 26), .yes, .ld false 1 (.t 25)⟩,
  .g ⟨(.t 27), .yes, .ia 4 (.t 24) (.t 26)⟩,
  .g ⟨(.t 28), .yes, .ld true 4 (.t 27)⟩,
  .g ⟨.no, .yes, .st 4 (.l 4) (.t 28)⟩,
  .g ⟨(.l 5), .yes, .mv (.c (.d (.flat (Value.bool true))))⟩])
 .ret)))), [(.c 4 true 4), (.t 5)]⟩
theorem x33E : EntryOK Tryz.prog mTabs 33 (.fn x33) := ⟨fnT rfl, Tryz.f33, plans 33, keeps 33, 2, Tryz.func33, rfl, by kernel_rfl, by kernel_rfl⟩
def x41 : XF := ⟨[0, 1, 2, 3], [0], (.seq (.reg [.g ⟨(.l 1), .yes, .gen (Op.box 26 (Operand.tmp 0))⟩,
  .g ⟨(.l 2), .yes, .mv (.c (.d (.flat (Value.bool false))))⟩])
 (.seq (.reg [.g ⟨(.t 6), .yes, .ld true 1 (.l 1)⟩,
  .g ⟨(.t 7), .yes, .cs 69 p69 [(.t 6)]⟩,
  .mt 5 (.t 7),
  .g ⟨(.t 8), .yes, .ex (.t 5) 0⟩,
  .g ⟨(.t 9), .yes, .ex (.t 5) 1⟩,
  .g ⟨(.l 3), .yes, .mv (.t 8)⟩,
  .mt 4 (.t 9)])
 (.seq (.reg [.mt 10 (.l 3),
  .g ⟨(.t 11), .yes, .bin BinOp.eql (.t 10) (.c (.d (.flat (Value.int IntKind.i64 0)))) (Op.binOp BinOp.eql 3 (Operand.tmp 10) (Operand.const (Value.int IntKind.i64 0)) 3)⟩,
  .g ⟨(.l 2), .yes, .mv (.t 11)⟩])
 .ret))), [(.t 2)]⟩
theorem x41E : EntryOK Tryz.prog mTabs 41 (.fn x41) := ⟨fnT rfl, Tryz.f41, plans 41, keeps 41, 1, Tryz.func41, rfl, by kernel_rfl, by kernel_rfl⟩
def x42 : XF := ⟨[0, 1, 2, 3, 6, 7, 8, 16, 26], [0, 1, 2], (.seq (.reg [.g ⟨(.l 3), .yes, .gen (Op.box 26 (Operand.tmp 0))⟩,
  .g ⟨(.l 6), .yes, .mv (.c (.d (.flat (Value.int IntKind.i64 0))))⟩])
 (.seq (.reg [.g ⟨(.t 9), .yes, .ld true 1 (.l 3)⟩,
  .mt 10 (.l 1),
  .g ⟨(.t 11), .yes, .cs 68 p68 [(.t 9), (.t 10)]⟩,
  .g ⟨(.l 7), .yes, .gen (Op.alloc 37)⟩,
  .g ⟨.no, .yes, .st 4 (.l 7) (.t 11)⟩])
 (.seq (.seq (.reg [.g ⟨(.l 8), .yes, .mv (.c (.d (.flat (Value.int IntKind.i64 0))))⟩])
 (.block 0 (.loop (some [2, 7, 8]) (.seq (.seq (.reg [.mt 12 (.l 8),
  .g ⟨(.t 13), .yes, .fa 2 (.l 7)⟩,
  .g ⟨(.t 14), .yes, .ld false 1 (.t 13)⟩,
  .g ⟨(.t 15), .yes, .lenr (.t 14)⟩,
  .g ⟨(.l 16), .yes, .bin BinOp.lss (.t 12) (.t 15) (Op.binOp BinOp.lss 3 (Operand.tmp 12) (Operand.tmp 15) 3)⟩])
 (.cond (.l 16) .skip
 (.exit 0)))
 (.seq (.block 1 (.seq (.reg [.g ⟨(.t 19), .yes, .fa 2 (.l 7)⟩,
  .g ⟨(.t 20), .yes, .ld false 1 (.t 19)⟩,
  .mt 21 (.l 8),
  .g ⟨(.t 22), .yes, .ia 4 (.t 20) (.t 21)⟩,
  .g ⟨(.t 23), .yes, .fa 2 (.t 22)⟩,
  .g ⟨(.t 24), .yes, .ld false 1 (.t 23)⟩,
  .mt 25 (.l 2),
  .g ⟨(.l 26), .yes, .bin BinOp.eql (.t 24) (.t 25) (Op.binOp BinOp.eql 9 (Operand.tmp 24) (Operand.tmp 25) 9)⟩])
 (.cond (.l 26) (.seq (.reg [.mt 27 (.l 8),
  .g ⟨(.l 6), .yes, .mv (.t 27)⟩])
 .ret)
 .skip)))
 (.reg [.mt 17 (.l 8),
  .g ⟨(.t 18), .yes, .bin BinOp.add (.t 17) (.c (.d (.flat (Value.int IntKind.i64 1)))) (Op.binOp BinOp.add 3 (Operand.tmp 17) (Operand.const (Value.int IntKind.i64 1)) 3)⟩,
  .g ⟨(.l 8), .yes, .mv (.t 18)⟩]))))))
 (.seq (.reg [.g ⟨(.l 6), .yes, .mv (.c (.d (.flat (Value.int IntKind.i64 (-1)))))⟩])
 .ret)))), [(.t 6)]⟩
theorem x42E : EntryOK Tryz.prog mTabs 42 (.fn x42) := ⟨fnT rfl, Tryz.f42, plans 42, keeps 42, 3, Tryz.func42, rfl, by kernel_rfl, by kernel_rfl⟩
def x43 : XF := ⟨[0, 1, 2, 4], [0, 1], (.seq (.reg [.g ⟨(.l 2), .yes, .gen (Op.box 26 (Operand.tmp 0))⟩,
  .g ⟨(.l 4), .yes, .mv (.c (.d (.flat (Value.bool false))))⟩])
 (.seq (.reg [.mt 5 (.l 1),
  .g ⟨(.t 6), .yes, .bin BinOp.eql (.t 5) (.c (.d (.flat (Value.string ⟨#[105, 110, 116]⟩)))) (Op.binOp BinOp.eql 9 (Operand.tmp 5) (Operand.const (Value.string ⟨#[105, 110, 116]⟩)) 9)⟩,
  .mt 7 (.t 6),
  .g ⟨(.t 8), (.g (.t 7) false), .mv (.l 1)⟩,
  .g ⟨(.t 9), (.g (.t 7) false), .bin BinOp.eql (.t 8) (.c (.d (.flat (Value.string ⟨#[98, 111, 111, 108, 101, 97, 110]⟩)))) (Op.binOp BinOp.eql 9 (Operand.tmp 8) (Operand.const (Value.string ⟨#[98, 111, 111, 108, 101, 97, 110]⟩)) 9)⟩,
  .g ⟨(.t 10), .yes, .pick (.t 7) (.c (.d (.flat (Value.bool true)))) (.t 9)⟩,
  .mt 11 (.t 10),
  .g ⟨(.t 12), (.g (.t 11) false), .mv (.l 1)⟩,
  .g ⟨(.t 13), (.g (.t 11) false), .bin BinOp.eql (.t 12) (.c (.d (.flat (Value.string ⟨#[83, 116, 114, 105, 110, 103]⟩)))) (Op.binOp BinOp.eql 9 (Operand.tmp 12) (Operand.const (Value.string ⟨#[83, 116, 114, 105, 110, 103]⟩)) 9)⟩,
  .g ⟨(.t 14), .yes, .pick (.t 11) (.c (.d (.flat (Value.bool true)))) (.t 13)⟩,
  .mt 15 (.t 14),
  .g ⟨(.t 16), (.g (.t 15) false), .ld true 1 (.l 2)⟩,
  .g ⟨(.t 17), (.g (.t 15) false), .mv (.l 1)⟩,
  .g ⟨(.t 18), (.g (.t 15) false), .cs 31 p31 [(.t 16), (.t 17)]⟩,
  .g ⟨(.t 19), .yes, .pick (.t 15) (.c (.d (.flat (Value.bool true)))) (.t 18)⟩,
  .g ⟨(.l 4), .yes, .mv (.t 19)⟩])
 .ret)), [(.t 4)]⟩
theorem x43E : EntryOK Tryz.prog mTabs 43 (.fn x43) := ⟨fnT rfl, Tryz.f43, plans 43, keeps 43, 2, Tryz.func43, rfl, by kernel_rfl, by kernel_rfl⟩
def x44 : XF := ⟨[0, 2, 3, 4, 5, 6, 7, 8, 9, 12, 18, 21, 30, 40, 44], [0], (.seq (.reg [.g ⟨(.l 2), .yes, .mv (.c (.tight [] 0))⟩,
  .g ⟨(.l 3), .yes, .mv (.c (.d (.flat (Value.int IntKind.i64 0))))⟩,
  .g ⟨(.l 4), .yes, .mv (.c (.d (.flat (Value.int IntKind.i64 0))))⟩])
 (.seq (.seq (.reg [.mt 10 (.l 0),
  .g ⟨(.t 11), .yes, .lens (.t 10)⟩,
  .g ⟨(.l 12), .yes, .bin BinOp.gtr (.t 11) (.c (.d (.flat (Value.int IntKind.i64 8000)))) (Op.binOp BinOp.gtr 3 (Operand.tmp 11) (Operand.const (Value.int IntKind.i64 8000)) 3)⟩])
 (.cond (.l 12) (.seq (.reg [.g ⟨(.l 2), .yes, .mv (.c (.tight [] 0))⟩,
  .g ⟨(.l 3), .yes, .mv (.c (.d (.flat (Value.int IntKind.i64 5))))⟩,
  .g ⟨(.l 4), .yes, .mv (.c (.d (.flat (Value.int IntKind.i64 0))))⟩])
 .ret)
 .skip))
 (.seq (.reg [.mt 13 (.l 0),
  .g ⟨(.t 14), .yes, .cs 70 p70 [(.t 13)]⟩,
  .g ⟨(.l 5), .yes, .mv (.t 14)⟩])
 (.seq (.reg [.g ⟨(.l 6), .yes, .mv (.c (.tight [] 0))⟩])
 (.seq (.seq (.reg [.g ⟨(.l 7), .yes, .mv (.c (.d (.flat (Value.int IntKind.i64 0))))⟩])
 (.block 0 (.loop (some [0, 5, 6, 7]) (.seq (.seq (.reg [.mt 15 (.l 7),
  .mt 16 (.l 0),
  .g ⟨(.t 17), .yes, .lens (.t 16)⟩,
  .g ⟨(.l 18), .yes, .bin BinOp.lss (.t 15) (.t 17) (Op.binOp BinOp.lss 3 (Operand.tmp 15) (Operand.tmp 17) 3)⟩])
 (.cond (.l 18) .skip
 (.exit 0)))
 (.block 1 (.seq (.seq (.reg [.mt 19 (.l 7),
  .mt 20 (.l 5),
  .g ⟨(.l 21), .yes, .bin BinOp.eql (.t 19) (.t 20) (Op.binOp BinOp.eql 3 (Operand.tmp 19) (Operand.tmp 20) 3)⟩])
 (.cond (.l 21) (.seq (.reg [.mt 22 (.l 5),
  .g ⟨(.l 2), .yes, .mv (.c (.tight [] 0))⟩,
  .g ⟨(.l 3), .yes, .mv (.c (.d (.flat (Value.int IntKind.i64 2))))⟩,
  .g ⟨(.l 4), .yes, .mv (.t 22)⟩])
 .ret)
 .skip))
 (.seq (.reg [.mt 24 (.l 0),
  .mt 25 (.l 7),
  .g ⟨(.t 26), .yes, .cs 71 p71 [(.t 24), (.t 25)]⟩,
  .mt 23 (.t 26),
  .g ⟨(.t 27), .yes, .ex (.t 23) 0⟩,
  .g ⟨(.t 28), .yes, .ex (.t 23) 1⟩,
  .g ⟨(.l 8), .yes, .gen (Op.alloc 129)⟩,
  .g ⟨.no, .yes, .st 3 (.l 8) (.t 27)⟩,
  .g ⟨(.l 9), .yes, .mv (.t 28)⟩])
 (.seq (.seq (.reg [.mt 29 (.l 9),
  .g ⟨(.l 30), .yes, .bin BinOp.eql (.t 29) (.c (.d (.flat (Value.int IntKind.i64 0)))) (Op.binOp BinOp.eql 3 (Operand.tmp 29) (Operand.const (Value.int IntKind.i64 0)) 3)⟩])
 (.cond (.l 30) (.seq (.reg [.mt 31 (.l 7),
  .g ⟨(.l 2), .yes, .mv (.c (.tight [] 0))⟩,
  .g ⟨(.l 3), .yes, .mv (.c (.d (.flat (Value.int IntKind.i64 2))))⟩,
  .g ⟨(.l 4), .yes, .mv (.t 31)⟩])
 .ret)
 .skip))
 (.seq (.seq (.reg [.mt 32 (.l 5),
  .g ⟨(.t 33), .yes, .bin BinOp.geq (.t 32) (.c (.d (.flat (Value.int IntKind.i64 0)))) (Op.binOp BinOp.geq 3 (Operand.tmp 32) (Operand.const (Value.int IntKind.i64 0)) 3)⟩,
  .mt 34 (.t 33),
  .g ⟨(.t 35), (.g (.t 34) true), .mv (.l 7)⟩,
  .g ⟨(.t 36), (.g (.t 34) true), .mv (.l 9)⟩,
  .g ⟨(.t 37), (.g (.t 34) true), .bin BinOp.add (.t 35) (.t 36) (Op.binOp BinOp.add 3 (Operand.tmp 35) (Operand.tmp 36) 3)⟩,
  .g ⟨(.t 38), (.g (.t 34) true), .mv (.l 5)⟩,
  .g ⟨(.t 39), (.g (.t 34) true), .bin BinOp.gtr (.t 37) (.t 38) (Op.binOp BinOp.gtr 3 (Operand.tmp 37) (Operand.tmp 38) 3)⟩,
  .g ⟨(.l 40), .yes, .pick (.t 34) (.t 39) (.c (.d (.flat (Value.bool false))))⟩])
 (.cond (.l 40) (.seq (.reg [.mt 41 (.l 5),
  .g ⟨(.l 2), .yes, .mv (.c (.tight [] 0))⟩,
  .g ⟨(.l 3), .yes, .mv (.c (.d (.flat (Value.int IntKind.i64 2))))⟩,
  .g ⟨(.l 4), .yes, .mv (.t 41)⟩])
 .ret)
 .skip))
 (.seq (.seq (.reg [.g ⟨(.t 42), .yes, .fa 0 (.l 8)⟩,
  .g ⟨(.t 43), .yes, .ld false 1 (.t 42)⟩,
  .g ⟨(.l 44), .yes, .bin BinOp.gtr (.t 43) (.c (.d (.flat (Value.int IntKind.i64 0)))) (Op.binOp BinOp.gtr 3 (Operand.tmp 43) (Operand.const (Value.int IntKind.i64 0)) 3)⟩])
 (.cond (.l 44) (.reg [.mt 45 (.l 6),
  .g ⟨(.t 46), .yes, .ld true 3 (.l 8)⟩,
  .g ⟨(.t 47), .yes, .gen (Op.buildSlice 100 1 #[(0, (Operand.tmp 46))])⟩,
  .g ⟨(.t 48), .yes, .gen (Op.call { callee := (Callee.builtin Builtin.append), args := #[(Operand.tmp 45), (Operand.tmp 47)], argTypes := #[100, 100] })⟩,
  .g ⟨(.l 6), .yes, .mv (.t 48)⟩])
 .skip))
 (.reg [.mt 49 (.l 7),
  .mt 50 (.l 9),
  .g ⟨(.t 51), .yes, .bin BinOp.add (.t 49) (.t 50) (Op.binOp BinOp.add 3 (Operand.tmp 49) (Operand.tmp 50) 3)⟩,
  .g ⟨(.l 7), .yes, .mv (.t 51)⟩])))))))))))
 (.seq (.reg [.mt 52 (.l 6),
  .g ⟨(.l 2), .yes, .mv (.t 52)⟩,
  .g ⟨(.l 3), .yes, .mv (.c (.d (.flat (Value.int IntKind.i64 0))))⟩,
  .g ⟨(.l 4), .yes, .mv (.c (.d (.flat (Value.int IntKind.i64 0))))⟩])
 .ret)))))), [(.t 2), (.t 3), (.t 4)]⟩
theorem x44E : EntryOK Tryz.prog mTabs 44 (.fn x44) := ⟨fnT rfl, Tryz.f44, plans 44, keeps 44, 1, Tryz.func44, rfl, by kernel_rfl, by kernel_rfl⟩
def x45 : XF := ⟨[0, 1, 7], [0, 1], (.seq (.reg [.mt 4 (.l 0),
  .mt 5 (.l 1),
  .g ⟨(.t 6), .yes, .cs 47 p47 [(.t 4), (.t 5)]⟩,
  .g ⟨(.l 7), .yes, .not (.t 6)⟩])
 (.cond (.l 7) (.reg [.mt 8 (.l 0),
  .g ⟨(.t 9), .yes, .cs 72 p72 [(.t 8), (.c (.d (.flat (Value.int IntKind.i64 3))))]⟩])
 .skip)), []⟩
theorem x45E : EntryOK Tryz.prog mTabs 45 (.fn x45) := ⟨fnT rfl, Tryz.f45, plans 45, keeps 45, 2, Tryz.func45, rfl, by kernel_rfl, by kernel_rfl⟩
def x46 : XF := ⟨[0, 2, 5], [0], (.seq (.reg [.g ⟨(.l 2), .yes, .mv (.c (.d (.flat (Value.string ⟨#[]⟩))))⟩])
 (.seq (.seq (.reg [.mt 3 (.l 0),
  .g ⟨(.t 4), .yes, .cs 73 p73 [(.t 3), (.c (.d (.flat (Value.int IntKind.i64 0))))]⟩,
  .g ⟨(.l 5), .yes, .not (.t 4)⟩])
 (.cond (.l 5) (.seq (.reg [.mt 6 (.l 0),
  .g ⟨(.t 7), .yes, .cs 72 p72 [(.t 6), (.c (.d (.flat (Value.int IntKind.i64 3))))]⟩])
 (.seq (.reg [.g ⟨(.l 2), .yes, .mv (.c (.d (.flat (Value.string ⟨#[]⟩))))⟩])
 .ret))
 .skip))
 (.seq (.reg [.mt 8 (.l 0),
  .g ⟨(.t 9), .yes, .cs 74 p74 [(.t 8)]⟩,
  .g ⟨(.l 2), .yes, .mv (.t 9)⟩])
 .ret))), [(.t 2)]⟩
theorem x46E : EntryOK Tryz.prog mTabs 46 (.fn x46) := ⟨fnT rfl, Tryz.f46, plans 46, keeps 46, 1, Tryz.func46, rfl, by kernel_rfl, by kernel_rfl⟩
def x47 : XF := ⟨[0, 1, 4, 12], [0, 1], (.seq (.reg [.g ⟨(.l 4), .yes, .mv (.c (.d (.flat (Value.bool false))))⟩])
 (.seq (.seq (.reg [.mt 5 (.l 0),
  .mt 6 (.l 1),
  .g ⟨(.t 7), .yes, .cs 48 p48 [(.t 5), (.t 6)]⟩,
  .mt 8 (.t 7),
  .g ⟨(.t 9), (.g (.t 8) false), .mv (.l 0)⟩,
  .g ⟨(.t 10), (.g (.t 8) false), .mv (.l 1)⟩,
  .g ⟨(.t 11), (.g (.t 8) false), .cs 75 p75 [(.t 9), (.t 10)]⟩,
  .g ⟨(.l 12), .yes, .pick (.t 8) (.c (.d (.flat (Value.bool true)))) (.t 11)⟩])
 (.cond (.l 12) (.seq (.reg [.mt 13 (.l 0),
  .g ⟨(.t 14), .yes, .nc (.t 13)⟩,
  .g ⟨(.t 15), .yes, .fa 2 (.t 14)⟩,
  .g ⟨(.t 16), .yes, .ld false 1 (.t 15)⟩,
  .g ⟨(.t 17), .yes, .bin BinOp.add (.t 16) (.c (.d (.flat (Value.int IntKind.i64 1)))) (Op.binOp BinOp.add 3 (Operand.tmp 16) (Operand.const (Value.int IntKind.i64 1)) 3)⟩,
  .g ⟨(.t 18), .yes, .nc (.t 13)⟩,
  .g ⟨(.t 19), .yes, .fa 2 (.t 18)⟩,
  .g ⟨.no, .yes, .st 1 (.t 19) (.t 17)⟩])
 (.seq (.reg [.g ⟨(.l 4), .yes, .mv (.c (.d (.flat (Value.bool true))))⟩])
 .ret))
 .skip))
 (.seq (.reg [.g ⟨(.l 4), .yes, .mv (.c (.d (.flat (Value.bool false))))⟩])
 .ret))), [(.t 4)]⟩
theorem x47E : EntryOK Tryz.prog mTabs 47 (.fn x47) := ⟨fnT rfl, Tryz.f47, plans 47, keeps 47, 2, Tryz.func47, rfl, by kernel_rfl, by kernel_rfl⟩
def x48 : XF := ⟨[0, 1, 4], [0, 1], (.seq (.reg [.g ⟨(.l 4), .yes, .mv (.c (.d (.flat (Value.bool false))))⟩])
 (.seq (.reg [.mt 5 (.l 0),
  .mt 6 (.l 1),
  .g ⟨(.t 7), .yes, .cs 76 p76 [(.t 5), (.c (.d (.flat (Value.int IntKind.i64 0)))), (.c (.d (.flat (Value.int IntKind.i64 4)))), (.t 6)]⟩,
  .g ⟨(.l 4), .yes, .mv (.t 7)⟩])
 .ret)), [(.t 4)]⟩
theorem x48E : EntryOK Tryz.prog mTabs 48 (.fn x48) := ⟨fnT rfl, Tryz.f48, plans 48, keeps 48, 2, Tryz.func48, rfl, by kernel_rfl, by kernel_rfl⟩
def x49 : XF := ⟨[0, 1, 4, 5, 6, 7, 8, 9, 10, 40, 65, 91, 116], [0, 1], (.seq (.reg [.mt 11 (.l 0),
  .g ⟨(.t 12), .yes, .cs 47 p47 [(.t 11), (.c (.d (.flat (Value.string ⟨#[115, 116, 97, 116, 105, 99]⟩))))]⟩,
  .g ⟨(.l 4), .yes, .mv (.t 12)⟩])
 (.seq (.seq (.drw [] [.st ⟨true, false, ⟨(.t 13), .yes, .mv (.l 4)⟩⟩,
  .st ⟨true, false, ⟨(.t 14), .yes, .not (.t 13)⟩⟩,
  .st ⟨true, false, ⟨(.t 15), .yes, .mv (.t 14)⟩⟩,
  .st ⟨true, false, ⟨(.t 16), (.g (.t 15) true), .mv (.l 0)⟩⟩,
  .st ⟨false, true, ⟨(.t 17), (.g (.t 15) true), .cs 73 p73 [(.t 16), (.c (.d (.flat (Value.int IntKind.i64 0))))]⟩⟩,
  .st ⟨true, false, ⟨(.t 18), .yes, .pick (.t 15) (.t 17) (.c (.d (.flat (Value.bool false))))⟩⟩,
  .st ⟨true, false, ⟨(.t 19), .yes, .mv (.t 18)⟩⟩,
  .st ⟨true, false, ⟨(.t 20), (.g (.t 19) true), .mv (.l 0)⟩⟩,
  .st ⟨false, true, ⟨(.t 21), (.g (.t 19) true), .cs 76 p76 [(.t 20), (.c (.d (.flat (Value.int IntKind.i64 1)))), (.c (.d (.flat (Value.int IntKind.i64 4)))), (.c (.d (.flat (Value.string ⟨#[40]⟩))))]⟩⟩,
  .st ⟨true, false, ⟨(.t 22), .yes, .pick (.t 19) (.t 21) (.c (.d (.flat (Value.bool false))))⟩⟩,
  .st ⟨true, false, ⟨(.t 23), .yes, .mv (.t 22)⟩⟩,
  .st ⟨true, false, ⟨(.t 24), (.g (.t 23) true), .mv (.l 0)⟩⟩,
  .st ⟨true, false, ⟨(.t 25), (.g (.t 23) true), .nc (.t 24)⟩⟩,
  .st ⟨true, false, ⟨(.t 26), (.g (.t 23) true), .fa 0 (.t 25)⟩⟩,
  .st ⟨true, false, ⟨(.t 27), (.g (.t 23) true), .ld false 1 (.t 26)⟩⟩,
  .st ⟨true, false, ⟨(.t 28), (.g (.t 23) true), .mv (.l 0)⟩⟩,
  .st ⟨true, false, ⟨(.t 29), (.g (.t 23) true), .nc (.t 28)⟩⟩,
  .st ⟨true, false, ⟨(.t 30), (.g (.t 23) true), .fa 2 (.t 29)⟩⟩,
  .st ⟨true, false, ⟨(.t 31), (.g (.t 23) true), .ld false 1 (.t 30)⟩⟩,
  .st ⟨true, false, ⟨(.t 32), (.g (.t 23) true), .ia 3 (.t 27) (.t 31)⟩⟩,
  .st ⟨true, false, ⟨(.t 33), (.g (.t 23) true), .fa 1 (.t 32)⟩⟩,
  .st ⟨true, false, ⟨(.t 34), (.g (.t 23) true), .ld false 1 (.t 33)⟩⟩,
  .st ⟨true, false, ⟨(.t 35), (.g (.t 23) true), .mv (.l 1)⟩⟩,
  .st ⟨true, false, ⟨(.t 36), (.g (.t 23) true), .nc (.t 35)⟩⟩,
  .st ⟨true, false, ⟨(.t 37), (.g (.t 23) true), .fa 0 (.t 36)⟩⟩,
  .st ⟨true, false, ⟨(.t 38), (.g (.t 23) true), .ld false 1 (.t 37)⟩⟩,
  .st ⟨true, false, ⟨(.t 39), (.g (.t 23) true), .bin BinOp.eql (.t 34) (.t 38) (Op.binOp BinOp.eql 9 (Operand.tmp 34) (Operand.tmp 38) 9)⟩⟩,
  .st ⟨true, false, ⟨(.l 40), .yes, .pick (.t 23) (.t 39) (.c (.d (.flat (Value.bool false))))⟩⟩])
 (.cond (.l 40) (.seq (.reg [.mt 41 (.l 0),
  .g ⟨(.t 42), .yes, .nc (.t 41)⟩,
  .g ⟨(.t 43), .yes, .fa 2 (.t 42)⟩,
  .g ⟨(.t 44), .yes, .ld false 1 (.t 43)⟩,
  .g ⟨(.t 45), .yes, .bin BinOp.add (.t 44) (.c (.d (.flat (Value.int IntKind.i64 1)))) (Op.binOp BinOp.add 3 (Operand.tmp 44) (Operand.const (Value.int IntKind.i64 1)) 3)⟩,
  .g ⟨(.t 46), .yes, .nc (.t 41)⟩,
  .g ⟨(.t 47), .yes, .fa 2 (.t 46)⟩,
  .g ⟨.no, .yes, .st 1 (.t 47) (.t 45)⟩])
 (.seq (.reg [.mt 48 (.l 0),
  .g ⟨(.t 49), .yes, .cs 77 p77 [(.t 48)]⟩,
  .g ⟨(.t 50), .yes, .gen (Op.build 98 #[(1, (Operand.const (Value.bool true))), (4, (Operand.tmp 49))])⟩,
  .g ⟨(.l 5), .yes, .gen (Op.alloc 98)⟩,
  .g ⟨.no, .yes, .st 6 (.l 5) (.t 50)⟩])
 (.seq (.reg [.mt 51 (.l 0),
  .g ⟨(.t 52), .yes, .cs 78 p78 [(.t 51), (.c (.d (.flat (Value.bool true))))]⟩,
  .g ⟨(.t 53), .yes, .fa 5 (.l 5)⟩,
  .g ⟨.no, .yes, .st 1 (.t 53) (.t 52)⟩])
 (.seq (.drw [] [.st ⟨true, false, ⟨(.t 54), .yes, .mv (.l 1)⟩⟩,
  .st ⟨true, false, ⟨(.t 55), .yes, .mv (.l 1)⟩⟩,
  .st ⟨true, false, ⟨(.t 56), .yes, .nc (.t 55)⟩⟩,
  .st ⟨true, false, ⟨(.t 57), .yes, .fa 3 (.t 56)⟩⟩,
  .st ⟨true, false, ⟨(.t 58), .yes, .ld false 1 (.t 57)⟩⟩,
  .st ⟨true, false, ⟨(.t 59), .yes, .ld true 6 (.l 5)⟩⟩,
  .st ⟨false, false, ⟨(.t 60), .yes, .gen (Op.buildSlice 35 1 #[(0, (Operand.tmp 59))])⟩⟩,
  .st ⟨false, false, ⟨(.t 61), .yes, .gen (Op.call { callee := (Callee.builtin Builtin.append), args := #[(Operand.tmp 58), (Operand.tmp 60)], argTypes := #[35, 35] })⟩⟩,
  .st ⟨true, false, ⟨(.t 62), .yes, .nc (.t 54)⟩⟩,
  .st ⟨true, false, ⟨(.t 63), .yes, .fa 3 (.t 62)⟩⟩,
  .st ⟨false, true, ⟨.no, .yes, .st 1 (.t 63) (.t 61)⟩⟩])
 .ret))))
 .skip))
 (.seq (.seq (.reg [.mt 64 (.l 0),
  .g ⟨(.l 65), .yes, .cs 47 p47 [(.t 64), (.c (.d (.flat (Value.string ⟨#[118, 111, 105, 100]⟩))))]⟩])
 (.cond (.l 65) (.seq (.reg [.mt 66 (.l 4),
  .mt 67 (.l 0),
  .g ⟨(.t 68), .yes, .cs 79 p79 [(.t 67)]⟩,
  .g ⟨(.t 69), .yes, .gen (Op.build 98 #[(0, (Operand.tmp 66)), (2, (Operand.const (Value.string ⟨#[118, 111, 105, 100]⟩))), (3, (Operand.tmp 68))])⟩,
  .g ⟨(.l 6), .yes, .gen (Op.alloc 98)⟩,
  .g ⟨.no, .yes, .st 6 (.l 6) (.t 69)⟩])
 (.seq (.reg [.mt 70 (.l 0),
  .g ⟨(.t 71), .yes, .cs 77 p77 [(.t 70)]⟩,
  .g ⟨(.t 72), .yes, .fa 4 (.l 6)⟩,
  .g ⟨.no, .yes, .st 1 (.t 72) (.t 71)⟩])
 (.seq (.reg [.mt 73 (.l 0),
  .g ⟨(.t 74), .yes, .cs 78 p78 [(.t 73), (.c (.d (.flat (Value.bool false))))]⟩,
  .g ⟨(.t 75), .yes, .fa 5 (.l 6)⟩,
  .g ⟨.no, .yes, .st 1 (.t 75) (.t 74)⟩])
 (.seq (.drw [] [.st ⟨true, false, ⟨(.t 76), .yes, .mv (.l 1)⟩⟩,
  .st ⟨true, false, ⟨(.t 77), .yes, .mv (.l 1)⟩⟩,
  .st ⟨true, false, ⟨(.t 78), .yes, .nc (.t 77)⟩⟩,
  .st ⟨true, false, ⟨(.t 79), .yes, .fa 3 (.t 78)⟩⟩,
  .st ⟨true, false, ⟨(.t 80), .yes, .ld false 1 (.t 79)⟩⟩,
  .st ⟨true, false, ⟨(.t 81), .yes, .ld true 6 (.l 6)⟩⟩,
  .st ⟨false, false, ⟨(.t 82), .yes, .gen (Op.buildSlice 35 1 #[(0, (Operand.tmp 81))])⟩⟩,
  .st ⟨false, false, ⟨(.t 83), .yes, .gen (Op.call { callee := (Callee.builtin Builtin.append), args := #[(Operand.tmp 80), (Operand.tmp 82)], argTypes := #[35, 35] })⟩⟩,
  .st ⟨true, false, ⟨(.t 84), .yes, .nc (.t 76)⟩⟩,
  .st ⟨true, false, ⟨(.t 85), .yes, .fa 3 (.t 84)⟩⟩,
  .st ⟨false, true, ⟨.no, .yes, .st 1 (.t 85) (.t 83)⟩⟩])
 .ret))))
 .skip))
 (.seq (.reg [.mt 86 (.l 0),
  .g ⟨(.t 87), .yes, .cs 80 p80 [(.t 86)]⟩,
  .g ⟨(.l 7), .yes, .mv (.t 87)⟩])
 (.seq (.reg [.mt 88 (.l 0),
  .g ⟨(.t 89), .yes, .cs 79 p79 [(.t 88)]⟩,
  .g ⟨(.l 8), .yes, .mv (.t 89)⟩])
 (.seq (.seq (.reg [.mt 90 (.l 0),
  .g ⟨(.l 91), .yes, .cs 48 p48 [(.t 90), (.c (.d (.flat (Value.string ⟨#[40]⟩))))]⟩])
 (.cond (.l 91) (.seq (.reg [.mt 92 (.l 4),
  .mt 93 (.l 7),
  .mt 94 (.l 8),
  .mt 95 (.l 0),
  .g ⟨(.t 96), .yes, .cs 77 p77 [(.t 95)]⟩,
  .g ⟨(.t 97), .yes, .gen (Op.build 98 #[(0, (Operand.tmp 92)), (2, (Operand.tmp 93)), (3, (Operand.tmp 94)), (4, (Operand.tmp 96))])⟩,
  .g ⟨(.l 9), .yes, .gen (Op.alloc 98)⟩,
  .g ⟨.no, .yes, .st 6 (.l 9) (.t 97)⟩])
 (.seq (.reg [.mt 98 (.l 0),
  .g ⟨(.t 99), .yes, .cs 78 p78 [(.t 98), (.c (.d (.flat (Value.bool false))))]⟩,
  .g ⟨(.t 100), .yes, .fa 5 (.l 9)⟩,
  .g ⟨.no, .yes, .st 1 (.t 100) (.t 99)⟩])
 (.seq (.drw [] [.st ⟨true, false, ⟨(.t 101), .yes, .mv (.l 1)⟩⟩,
  .st ⟨true, false, ⟨(.t 102), .yes, .mv (.l 1)⟩⟩,
  .st ⟨true, false, ⟨(.t 103), .yes, .nc (.t 102)⟩⟩,
  .st ⟨true, false, ⟨(.t 104), .yes, .fa 3 (.t 103)⟩⟩,
  .st ⟨true, false, ⟨(.t 105), .yes, .ld false 1 (.t 104)⟩⟩,
  .st ⟨true, false, ⟨(.t 106), .yes, .ld true 6 (.l 9)⟩⟩,
  .st ⟨false, false, ⟨(.t 107), .yes, .gen (Op.buildSlice 35 1 #[(0, (Operand.tmp 106))])⟩⟩,
  .st ⟨false, false, ⟨(.t 108), .yes, .gen (Op.call { callee := (Callee.builtin Builtin.append), args := #[(Operand.tmp 105), (Operand.tmp 107)], argTypes := #[35, 35] })⟩⟩,
  .st ⟨true, false, ⟨(.t 109), .yes, .nc (.t 101)⟩⟩,
  .st ⟨true, false, ⟨(.t 110), .yes, .fa 3 (.t 109)⟩⟩,
  .st ⟨false, true, ⟨.no, .yes, .st 1 (.t 110) (.t 108)⟩⟩])
 .ret)))
 .skip))
 (.seq (.reg [.mt 111 (.l 4),
  .mt 112 (.l 7),
  .mt 113 (.l 8),
  .g ⟨(.t 114), .yes, .gen (Op.build 76 #[(0, (Operand.tmp 111)), (1, (Operand.tmp 112)), (2, (Operand.tmp 113))])⟩,
  .g ⟨(.l 10), .yes, .gen (Op.alloc 76)⟩,
  .g ⟨.no, .yes, .st 4 (.l 10) (.t 114)⟩])
 (.seq (.seq (.reg [.mt 115 (.l 0),
  .g ⟨(.l 116), .yes, .cs 47 p47 [(.t 115), (.c (.d (.flat (Value.string ⟨#[61]⟩))))]⟩])
 (.cond (.l 116) (.reg [.mt 117 (.l 0),
  .g ⟨(.t 118), .yes, .cs 81 p81 [(.t 117)]⟩,
  .g ⟨(.t 119), .yes, .gen (Op.buildSlice 74 1 #[(0, (Operand.tmp 118))])⟩,
  .g ⟨(.t 120), .yes, .fa 3 (.l 10)⟩,
  .g ⟨.no, .yes, .st 1 (.t 120) (.t 119)⟩])
 .skip))
 (.seq (.reg [.mt 121 (.l 0),
  .g ⟨(.t 122), .yes, .cs 45 p45 [(.t 121), (.c (.d (.flat (Value.string ⟨#[59]⟩))))]⟩])
 (.drw [] [.st ⟨true, false, ⟨(.t 123), .yes, .mv (.l 1)⟩⟩,
  .st ⟨true, false, ⟨(.t 124), .yes, .mv (.l 1)⟩⟩,
  .st ⟨true, false, ⟨(.t 125), .yes, .nc (.t 124)⟩⟩,
  .st ⟨true, false, ⟨(.t 126), .yes, .fa 2 (.t 125)⟩⟩,
  .st ⟨true, false, ⟨(.t 127), .yes, .ld false 1 (.t 126)⟩⟩,
  .st ⟨true, false, ⟨(.t 128), .yes, .ld true 4 (.l 10)⟩⟩,
  .st ⟨false, false, ⟨(.t 129), .yes, .gen (Op.buildSlice 34 1 #[(0, (Operand.tmp 128))])⟩⟩,
  .st ⟨false, false, ⟨(.t 130), .yes, .gen (Op.call { callee := (Callee.builtin Builtin.append), args := #[(Operand.tmp 127), (Operand.tmp 129)], argTypes := #[34, 34] })⟩⟩,
  .st ⟨true, false, ⟨(.t 131), .yes, .nc (.t 123)⟩⟩,
  .st ⟨true, false, ⟨(.t 132), .yes, .fa 2 (.t 131)⟩⟩,
  .st ⟨false, true, ⟨.no, .yes, .st 1 (.t 132) (.t 130)⟩⟩])))))))))), []⟩
theorem x49E : EntryOK Tryz.prog mTabs 49 (.fn x49) := ⟨fnT rfl, Tryz.f49, plans 49, keeps 49, 2, Tryz.func49, rfl, by kernel_rfl, by kernel_rfl⟩
def x50 : XF := ⟨[0, 1, 2, 3, 4, 5, 6, 7, 16, 21, 55, 60, 97, 102, 111], [0], (.seq (.reg [.g ⟨(.l 1), .yes, .gen (Op.box 26 (Operand.tmp 0))⟩,
  .g ⟨(.l 2), .yes, .mv (.c (.d (.flat (Value.bool false))))⟩])
 (.seq (.seq (.reg [.g ⟨(.t 8), .yes, .fa 0 (.l 1)⟩,
  .g ⟨(.t 9), .yes, .ld false 1 (.t 8)⟩,
  .g ⟨(.t 10), .yes, .lenr (.t 9)⟩,
  .g ⟨(.t 11), .yes, .bin BinOp.gtr (.t 10) (.c (.d (.flat (Value.int IntKind.i64 20)))) (Op.binOp BinOp.gtr 3 (Operand.tmp 10) (Operand.const (Value.int IntKind.i64 20)) 3)⟩,
  .mt 12 (.t 11),
  .g ⟨(.t 13), (.g (.t 12) false), .ld true 1 (.l 1)⟩,
  .g ⟨(.t 14), (.g (.t 12) false), .cs 82 p82 [(.t 13)]⟩,
  .g ⟨(.t 15), (.g (.t 12) false), .bin BinOp.gtr (.t 14) (.c (.d (.flat (Value.int IntKind.i64 3000)))) (Op.binOp BinOp.gtr 3 (Operand.tmp 14) (Operand.const (Value.int IntKind.i64 3000)) 3)⟩,
  .g ⟨(.l 16), .yes, .pick (.t 12) (.c (.d (.flat (Value.bool true)))) (.t 15)⟩])
 (.cond (.l 16) (.seq (.reg [.g ⟨(.l 2), .yes, .mv (.c (.d (.flat (Value.bool false))))⟩])
 .ret)
 .skip))
 (.seq (.seq (.reg [.g ⟨(.l 3), .yes, .mv (.c (.d (.flat (Value.int IntKind.i64 0))))⟩])
 (.block 0 (.loop (some [1, 3]) (.seq (.seq (.reg [.mt 17 (.l 3),
  .g ⟨(.t 18), .yes, .fa 0 (.l 1)⟩,
  .g ⟨(.t 19), .yes, .ld false 1 (.t 18)⟩,
  .g ⟨(.t 20), .yes, .lenr (.t 19)⟩,
  .g ⟨(.l 21), .yes, .bin BinOp.lss (.t 17) (.t 20) (Op.binOp BinOp.lss 3 (Operand.tmp 17) (Operand.tmp 20) 3)⟩])
 (.cond (.l 21) .skip
 (.exit 0)))
 (.seq (.block 1 (.seq (.reg [.g ⟨(.t 24), .yes, .fa 0 (.l 1)⟩,
  .g ⟨(.t 25), .yes, .ld false 1 (.t 24)⟩,
  .mt 26 (.l 3),
  .g ⟨(.t 27), .yes, .ia 4 (.t 25) (.t 26)⟩,
  .g ⟨(.t 28), .yes, .ld true 4 (.t 27)⟩,
  .g ⟨(.l 4), .yes, .gen (Op.alloc 37)⟩,
  .g ⟨.no, .yes, .st 4 (.l 4) (.t 28)⟩])
 (.seq (.seq (.reg [.g ⟨(.t 29), .yes, .fa 0 (.l 4)⟩,
  .g ⟨(.t 30), .yes, .ld false 1 (.t 29)⟩,
  .g ⟨(.t 31), .yes, .cs 83 p83 [(.t 30)]⟩,
  .g ⟨(.t 32), .yes, .not (.t 31)⟩,
  .mt 33 (.t 32),
  .g ⟨(.t 34), (.g (.t 33) false), .fa 1 (.l 4)⟩,
  .g ⟨(.t 35), (.g (.t 33) false), .ld false 1 (.t 34)⟩,
  .g ⟨(.t 36), (.g (.t 33) false), .bin BinOp.neq (.t 35) (.c (.d (.flat (Value.string ⟨#[]⟩)))) (Op.binOp BinOp.neq 9 (Operand.tmp 35) (Operand.const (Value.string ⟨#[]⟩)) 9)⟩,
  .g ⟨(.t 37), (.g (.t 33) false), .mv (.t 36)⟩,
  .g ⟨(.t 38), (.g (.t 37) true), .fa 1 (.l 4)⟩,
  .g ⟨(.t 39), (.g (.t 37) true), .ld false 1 (.t 38)⟩,
  .g ⟨(.t 40), (.g (.t 37) true), .cs 83 p83 [(.t 39)]⟩,
  .g ⟨(.t 41), (.g (.t 37) true), .not (.t 40)⟩,
  .g ⟨(.t 42), (.g (.t 33) false), .pick (.t 37) (.t 41) (.c (.d (.flat (Value.bool false))))⟩,
  .g ⟨(.t 43), .yes, .pick (.t 33) (.c (.d (.flat (Value.bool true)))) (.t 42)⟩,
  .mt 44 (.t 43),
  .g ⟨(.t 45), (.g (.t 44) false), .fa 2 (.l 4)⟩,
  .g ⟨(.t 46), (.g (.t 44) false), .ld false 1 (.t 45)⟩,
  .g ⟨(.t 47), (.g (.t 44) false), .lenr (.t 46)⟩,
  .g ⟨(.t 48), (.g (.t 44) false), .bin BinOp.gtr (.t 47) (.c (.d (.flat (Value.int IntKind.i64 30)))) (Op.binOp BinOp.gtr 3 (Operand.tmp 47) (Operand.const (Value.int IntKind.i64 30)) 3)⟩,
  .g ⟨(.t 49), .yes, .pick (.t 44) (.c (.d (.flat (Value.bool true)))) (.t 48)⟩,
  .mt 50 (.t 49),
  .g ⟨(.t 51), (.g (.t 50) false), .fa 3 (.l 4)⟩,
  .g ⟨(.t 52), (.g (.t 50) false), .ld false 1 (.t 51)⟩,
  .g ⟨(.t 53), (.g (.t 50) false), .lenr (.t 52)⟩,
  .g ⟨(.t 54), (.g (.t 50) false), .bin BinOp.gtr (.t 53) (.c (.d (.flat (Value.int IntKind.i64 30)))) (Op.binOp BinOp.gtr 3 (Operand.tmp 53) (Operand.const (Value.int IntKind.i64 30)) 3)⟩,
  .g ⟨(.l 55), .yes, .pick (.t 50) (.c (.d (.flat (Value.bool true)))) (.t 54)⟩])
 (.cond (.l 55) (.seq (.reg [.g ⟨(.l 2), .yes, .mv (.c (.d (.flat (Value.bool false))))⟩])
 .ret)
 .skip))
 (.seq (.seq (.reg [.g ⟨(.l 5), .yes, .mv (.c (.d (.flat (Value.int IntKind.i64 0))))⟩])
 (.block 2 (.loop (some [1, 3, 4, 5]) (.seq (.seq (.reg [.mt 56 (.l 5),
  .g ⟨(.t 57), .yes, .fa 2 (.l 4)⟩,
  .g ⟨(.t 58), .yes, .ld false 1 (.t 57)⟩,
  .g ⟨(.t 59), .yes, .lenr (.t 58)⟩,
  .g ⟨(.l 60), .yes, .bin BinOp.lss (.t 56) (.t 59) (Op.binOp BinOp.lss 3 (Operand.tmp 56) (Operand.tmp 59) 3)⟩])
 (.cond (.l 60) .skip
 (.exit 2)))
 (.seq (.block 3 (.seq (.reg [.g ⟨(.t 63), .yes, .fa 2 (.l 4)⟩,
  .g ⟨(.t 64), .yes, .ld false 1 (.t 63)⟩,
  .mt 65 (.l 5),
  .g ⟨(.t 66), .yes, .ia 4 (.t 64) (.t 65)⟩,
  .g ⟨(.t 67), .yes, .ld true 4 (.t 66)⟩,
  .g ⟨(.l 6), .yes, .gen (Op.alloc 76)⟩,
  .g ⟨.no, .yes, .st 4 (.l 6) (.t 67)⟩])
 (.seq (.reg [.g ⟨(.t 68), .yes, .fa 1 (.l 6)⟩,
  .g ⟨(.t 69), .yes, .ld false 1 (.t 68)⟩,
  .g ⟨(.t 70), .yes, .cs 84 p84 [(.t 69)]⟩,
  .g ⟨(.t 71), .yes, .not (.t 70)⟩,
  .mt 72 (.t 71),
  .g ⟨(.t 73), (.g (.t 72) false), .fa 2 (.l 6)⟩,
  .g ⟨(.t 74), (.g (.t 72) false), .ld false 1 (.t 73)⟩,
  .g ⟨(.t 75), (.g (.t 72) false), .cs 85 p85 [(.t 74)]⟩,
  .g ⟨(.t 76), (.g (.t 72) false), .not (.t 75)⟩,
  .g ⟨(.t 77), .yes, .pick (.t 72) (.c (.d (.flat (Value.bool true)))) (.t 76)⟩,
  .mt 78 (.t 77),
  .g ⟨(.t 79), (.g (.t 78) false), .fa 3 (.l 6)⟩,
  .g ⟨(.t 80), (.g (.t 78) false), .ld false 1 (.t 79)⟩,
  .g ⟨(.t 81), (.g (.t 78) false), .lenr (.t 80)⟩,
  .g ⟨(.t 82), (.g (.t 78) false), .bin BinOp.gtr (.t 81) (.c (.d (.flat (Value.int IntKind.i64 1)))) (Op.binOp BinOp.gtr 3 (Operand.tmp 81) (Operand.const (Value.int IntKind.i64 1)) 3)⟩,
  .g ⟨(.t 83), .yes, .pick (.t 78) (.c (.d (.flat (Value.bool true)))) (.t 82)⟩,
  .mt 84 (.t 83),
  .g ⟨(.t 85), (.g (.t 84) false), .fa 3 (.l 6)⟩,
  .g ⟨(.t 86), (.g (.t 84) false), .ld false 1 (.t 85)⟩,
  .g ⟨(.t 87), (.g (.t 84) false), .lenr (.t 86)⟩,
  .g ⟨(.t 88), (.g (.t 84) false), .bin BinOp.eql (.t 87) (.c (.d (.flat (Value.int IntKind.i64 1)))) (Op.binOp BinOp.eql 3 (Operand.tmp 87) (Operand.const (Value.int IntKind.i64 1)) 3)⟩,
  .g ⟨(.t 89), (.g (.t 84) false), .mv (.t 88)⟩,
  .g ⟨(.t 90), (.g (.t 89) true), .fa 3 (.l 6)⟩,
  .g ⟨(.t 91), (.g (.t 89) true), .ld false 1 (.t 90)⟩,
  .g ⟨(.t 92), (.g (.t 89) true), .ia 8 (.t 91) (.c (.d (.flat (Value.int IntKind.i64 0))))⟩,
  .g ⟨(.t 93), (.g (.t 89) true), .ld true 8 (.t 92)⟩,
  .g ⟨(.t 94), (.g (.t 89) true), .cs 86 p86 [(.t 93), (.c (.d (.flat (Value.int IntKind.i64 1))))]⟩,
  .g ⟨(.t 95), (.g (.t 89) true), .not (.t 94)⟩,
  .g ⟨(.t 96), (.g (.t 84) false), .pick (.t 89) (.t 95) (.c (.d (.flat (Value.bool false))))⟩,
  .g ⟨(.l 97), .yes, .pick (.t 84) (.c (.d (.flat (Value.bool true)))) (.t 96)⟩])
 (.cond (.l 97) (.seq (.reg [.g ⟨(.l 2), .yes, .mv (.c (.d (.flat (Value.bool false))))⟩])
 .ret)
 .skip))))
 (.reg [.mt 61 (.l 5),
  .g ⟨(.t 62), .yes, .bin BinOp.add (.t 61) (.c (.d (.flat (Value.int IntKind.i64 1)))) (Op.binOp BinOp.add 3 (Operand.tmp 61) (Operand.const (Value.int IntKind.i64 1)) 3)⟩,
  .g ⟨(.l 5), .yes, .mv (.t 62)⟩]))))))
 (.seq (.reg [.g ⟨(.l 7), .yes, .mv (.c (.d (.flat (Value.int IntKind.i64 0))))⟩])
 (.block 4 (.loop (some [1, 3, 4, 7]) (.seq (.seq (.reg [.mt 98 (.l 7),
  .g ⟨(.t 99), .yes, .fa 3 (.l 4)⟩,
  .g ⟨(.t 100), .yes, .ld false 1 (.t 99)⟩,
  .g ⟨(.t 101), .yes, .lenr (.t 100)⟩,
  .g ⟨(.l 102), .yes, .bin BinOp.lss (.t 98) (.t 101) (Op.binOp BinOp.lss 3 (Operand.tmp 98) (Operand.tmp 101) 3)⟩])
 (.cond (.l 102) .skip
 (.exit 4)))
 (.seq (.block 5 (.seq (.reg [.g ⟨(.t 105), .yes, .fa 3 (.l 4)⟩,
  .g ⟨(.t 106), .yes, .ld false 1 (.t 105)⟩,
  .mt 107 (.l 7),
  .g ⟨(.t 108), .yes, .ia 6 (.t 106) (.t 107)⟩,
  .g ⟨(.t 109), .yes, .ld true 6 (.t 108)⟩,
  .g ⟨(.t 110), .yes, .cs 87 p87 [(.t 109)]⟩,
  .g ⟨(.l 111), .yes, .not (.t 110)⟩])
 (.cond (.l 111) (.seq (.reg [.g ⟨(.l 2), .yes, .mv (.c (.d (.flat (Value.bool false))))⟩])
 .ret)
 .skip)))
 (.reg [.mt 103 (.l 7),
  .g ⟨(.t 104), .yes, .bin BinOp.add (.t 103) (.c (.d (.flat (Value.int IntKind.i64 1)))) (Op.binOp BinOp.add 3 (Operand.tmp 103) (Operand.const (Value.int IntKind.i64 1)) 3)⟩,
  .g ⟨(.l 7), .yes, .mv (.t 104)⟩]))))))))))
 (.reg [.mt 22 (.l 3),
  .g ⟨(.t 23), .yes, .bin BinOp.add (.t 22) (.c (.d (.flat (Value.int IntKind.i64 1)))) (Op.binOp BinOp.add 3 (Operand.tmp 22) (Operand.const (Value.int IntKind.i64 1)) 3)⟩,
  .g ⟨(.l 3), .yes, .mv (.t 23)⟩]))))))
 (.seq (.reg [.g ⟨(.l 2), .yes, .mv (.c (.d (.flat (Value.bool true))))⟩])
 .ret)))), [(.t 2)]⟩
theorem x50E : EntryOK Tryz.prog mTabs 50 (.fn x50) := ⟨fnT rfl, Tryz.f50, plans 50, keeps 50, 1, Tryz.func50, rfl, by kernel_rfl, by kernel_rfl⟩
def x51 : XF := ⟨[0, 1, 2, 6, 7, 8, 9, 11, 23], [0, 1, 2], (.seq (.reg [.g ⟨(.l 6), .yes, .mv (.c (.d (.flat (Value.string ⟨#[]⟩))))⟩])
 (.seq (.reg [.g ⟨(.t 10), .yes, .gen (Op.buildSlice 33 28 #[(0, (Operand.const (Value.string ⟨#[120, 32, 61, 32, 97, 32, 43, 32, 49, 59]⟩))), (1, (Operand.const (Value.string ⟨#[112, 114, 105, 110, 116, 32, 120, 59]⟩))), (2, (Operand.const (Value.string ⟨#[116, 104, 105, 115, 46, 120, 32, 61, 32, 120, 32, 42, 32, 50, 59]⟩))), (3, (Operand.const (Value.string ⟨#[110, 32, 61, 32, 111, 59]⟩))), (4, (Operand.const (Value.string ⟨#[110, 32, 61, 32, 110, 59]⟩))), (5, (Operand.const (Value.string ⟨#[110, 32, 61, 32, 110, 101, 119, 32, 65, 40, 41, 59]⟩))), (6, (Operand.const (Value.string ⟨#[105, 102, 32, 40, 120, 32, 60, 32, 97, 41, 32, 123, 32, 120, 32, 61, 32, 120, 32, 43, 32, 49, 59, 32, 125, 32, 101, 108, 115, 101, 32, 123, 32, 112, 114, 105, 110, 116, 32, 34, 110, 111, 34, 59, 32, 125]⟩))), (7, (Operand.const (Value.string ⟨#[119, 104, 105, 108, 101, 32, 40, 120, 32, 60, 32, 51, 41, 32, 123, 32, 120, 32, 61, 32, 120, 32, 43, 32, 49, 59, 32, 112, 114, 105, 110, 116, 32, 120, 59, 32, 125]⟩))), (8, (Operand.const (Value.string ⟨#[115, 32, 61, 32, 115, 32, 43, 32, 49, 59]⟩))), (9, (Operand.const (Value.string ⟨#[65, 58, 58, 115, 32, 61, 32, 97, 59]⟩))), (10, (Operand.const (Value.string ⟨#[116, 114, 121, 32, 123, 32, 112, 114, 105, 110, 116, 32, 111, 46, 102, 40, 97, 41, 59, 32, 125, 32, 99, 97, 116, 99, 104, 32, 40, 78, 117, 108, 108, 70, 97, 117, 108, 116, 32, 101, 41, 32, 123, 32, 112, 114, 105, 110, 116, 32, 34, 110, 117, 108, 108, 34, 59, 32, 125, 32, 102, 105, 110, 97, 108, 108, 121, 32, 123, 32, 120, 32, 61, 32, 48, 59, 32, 125]⟩))), (11, (Operand.const (Value.string ⟨#[105, 102, 32, 40, 97, 32, 60, 32, 48, 41, 32, 123, 32, 116, 104, 114, 111, 119, 32, 110, 101, 119, 32, 90, 101, 114, 111, 70, 97, 117, 108, 116, 40, 41, 59, 32, 125]⟩))), (12, (Operand.const (Value.string ⟨#[112, 114, 105, 110, 116, 32, 55, 32, 47, 32, 97, 59]⟩))), (13, (Operand.const (Value.string ⟨#[105, 102, 32, 40, 48, 32, 60, 32, 97, 41, 32, 123, 32, 112, 114, 105, 110, 116, 32, 102, 40, 97, 32, 45, 32, 49, 41, 59, 32, 125]⟩))), (14, (Operand.const (Value.string ⟨#[97, 115, 115, 101, 114, 116, 32, 51, 32, 120, 32, 60, 32, 57, 59]⟩))), (15, (Operand.const (Value.string ⟨#[112, 114, 105, 110, 116, 32, 111, 32, 105, 115, 32, 65, 59]⟩))), (16, (Operand.const (Value.string ⟨#[105, 102, 32, 40, 116, 114, 117, 101, 41, 32, 123, 32, 105, 110, 116, 32, 118, 32, 61, 32, 102, 40, 110, 41, 59, 32, 112, 114, 105, 110, 116, 32, 118, 59, 32, 125]⟩))), (17, (Operand.const (Value.string ⟨#[112, 114, 105, 110, 116, 32, 119, 32, 43, 32, 120, 32, 43, 32, 116, 114, 117, 101, 59]⟩))), (18, (Operand.const (Value.string ⟨#[112, 114, 105, 110, 116, 32, 34, 104, 195, 169, 121, 34, 32, 64, 32, 97, 59]⟩))), (19, (Operand.const (Value.string ⟨#[112, 114, 105, 110, 116, 32, 35, 119, 59]⟩))), (20, (Operand.const (Value.string ⟨#[112, 114, 105, 110, 116, 32, 102, 40, 97, 44, 32, 50, 41, 59]⟩))), (21, (Operand.const (Value.string ⟨#[116, 104, 105, 115, 46, 103, 50, 40, 41, 59]⟩))), (22, (Operand.const (Value.string ⟨#[112, 114, 105, 110, 116, 32, 65, 58, 58, 107, 40, 97, 41, 59]⟩))), (23, (Operand.const (Value.string ⟨#[116, 114, 121, 32, 123, 32, 116, 104, 114, 111, 119, 32, 110, 101, 119, 32, 82, 97, 110, 103, 101, 70, 97, 117, 108, 116, 40, 41, 59, 32, 125, 32, 99, 97, 116, 99, 104, 32, 40, 69, 120, 99, 101, 112, 116, 105, 111, 110, 32, 101, 41, 32, 123, 32, 110, 32, 61, 32, 110, 117, 108, 108, 59, 32, 125]⟩))), (24, (Operand.const (Value.string ⟨#[65, 32, 113, 32, 61, 32, 110, 59]⟩))), (25, (Operand.const (Value.string ⟨#[112, 114, 105, 110, 116, 32, 45, 97, 32, 37, 32, 51, 59]⟩))), (26, (Operand.const (Value.string ⟨#[112, 114, 105, 110, 116, 32, 110, 32, 61, 61, 32, 111, 32, 38, 38, 32, 33, 40, 97, 32, 60, 61, 32, 50, 41, 59]⟩))), (27, (Operand.const (Value.string ⟨#[112, 114, 105, 110, 116, 32, 40, 111, 32, 97, 115, 32, 65, 41, 46, 120, 59]⟩)))])⟩,
  .g ⟨(.l 7), .yes, .mv (.t 10)⟩])
 (.seq (.seq (.reg [.g ⟨(.l 11), .yes, .mv (.l 2)⟩])
 (.cond (.l 11) (.reg [.mt 12 (.l 7),
  .g ⟨(.t 13), .yes, .gen (Op.buildSlice 33 7 #[(0, (Operand.const (Value.string ⟨#[112, 114, 105, 110, 116, 32, 115, 117, 112, 101, 114, 46, 120, 59]⟩))), (1, (Operand.const (Value.string ⟨#[120, 32, 61, 32, 115, 117, 112, 101, 114, 46, 102, 40, 97, 41, 59]⟩))), (2, (Operand.const (Value.string ⟨#[115, 117, 112, 101, 114, 46, 103, 50, 40, 41, 59]⟩))), (3, (Operand.const (Value.string ⟨#[121, 32, 61, 32, 121, 32, 43, 32, 49, 59]⟩))), (4, (Operand.const (Value.string ⟨#[109, 32, 61, 32, 110, 101, 119, 32, 66, 40, 97, 41, 59]⟩))), (5, (Operand.const (Value.string ⟨#[110, 32, 61, 32, 109, 59]⟩))), (6, (Operand.const (Value.string ⟨#[112, 114, 105, 110, 116, 32, 40, 110, 32, 97, 115, 32, 66, 41, 46, 121, 59]⟩)))])⟩,
  .g ⟨(.t 14), .yes, .gen (Op.call { callee := (Callee.builtin Builtin.append), args := #[(Operand.tmp 12), (Operand.tmp 13)], argTypes := #[33, 33] })⟩,
  .g ⟨(.l 7), .yes, .mv (.t 14)⟩])
 .skip))
 (.seq (.reg [.g ⟨(.l 8), .yes, .mv (.c (.d (.flat (Value.string ⟨#[]⟩))))⟩])
 (.seq (.seq (.reg [.g ⟨(.l 9), .yes, .mv (.c (.d (.flat (Value.int IntKind.i64 0))))⟩])
 (.block 0 (.loop (some [0, 1, 7, 8, 9]) (.seq (.seq (.reg [.mt 15 (.l 9),
  .mt 16 (.l 0),
  .g ⟨(.t 17), .yes, .lenr (.t 16)⟩,
  .g ⟨(.t 18), .yes, .bin BinOp.lss (.t 15) (.t 17) (Op.binOp BinOp.lss 3 (Operand.tmp 15) (Operand.tmp 17) 3)⟩,
  .mt 19 (.t 18),
  .g ⟨(.t 20), (.g (.t 19) true), .mv (.l 9)⟩,
  .g ⟨(.t 21), (.g (.t 19) true), .mv (.l 1)⟩,
  .g ⟨(.t 22), (.g (.t 19) true), .bin BinOp.lss (.t 20) (.t 21) (Op.binOp BinOp.lss 3 (Operand.tmp 20) (Operand.tmp 21) 3)⟩,
  .g ⟨(.l 23), .yes, .pick (.t 19) (.t 22) (.c (.d (.flat (Value.bool false))))⟩])
 (.cond (.l 23) .skip
 (.exit 0)))
 (.seq (.block 1 (.reg [.mt 26 (.l 8),
  .g ⟨(.t 27), .yes, .bin BinOp.add (.t 26) (.c (.d (.flat (Value.string ⟨#[32]⟩)))) (Op.binOp BinOp.add 9 (Operand.tmp 26) (Operand.const (Value.string ⟨#[32]⟩)) 9)⟩,
  .mt 28 (.l 7),
  .mt 29 (.l 0),
  .mt 30 (.l 9),
  .g ⟨(.t 31), .yes, .ia 1 (.t 29) (.t 30)⟩,
  .g ⟨(.t 32), .yes, .ld false 1 (.t 31)⟩,
  .g ⟨(.t 33), .yes, .cs 53 p53 [(.t 28), (.t 32)]⟩,
  .g ⟨(.t 34), .yes, .bin BinOp.add (.t 27) (.t 33) (Op.binOp BinOp.add 9 (Operand.tmp 27) (Operand.tmp 33) 9)⟩,
  .g ⟨(.l 8), .yes, .mv (.t 34)⟩]))
 (.reg [.mt 24 (.l 9),
  .g ⟨(.t 25), .yes, .bin BinOp.add (.t 24) (.c (.d (.flat (Value.int IntKind.i64 1)))) (Op.binOp BinOp.add 3 (Operand.tmp 24) (Operand.const (Value.int IntKind.i64 1)) 3)⟩,
  .g ⟨(.l 9), .yes, .mv (.t 25)⟩]))))))
 (.seq (.reg [.mt 35 (.l 8),
  .g ⟨(.l 6), .yes, .mv (.t 35)⟩])
 .ret)))))), [(.t 6)]⟩
theorem x51E : EntryOK Tryz.prog mTabs 51 (.fn x51) := ⟨fnT rfl, Tryz.f51, plans 51, keeps 51, 3, Tryz.func51, rfl, by kernel_rfl, by kernel_rfl⟩
def x52 : XF := ⟨[0, 1, 4, 8], [0, 1], (.seq (.reg [.g ⟨(.l 4), .yes, .mv (.c (.tight [] 0))⟩])
 (.seq (.seq (.reg [.mt 5 (.l 1),
  .mt 6 (.l 0),
  .g ⟨(.t 7), .yes, .lenr (.t 6)⟩,
  .g ⟨(.l 8), .yes, .bin BinOp.lss (.t 5) (.t 7) (Op.binOp BinOp.lss 3 (Operand.tmp 5) (Operand.tmp 7) 3)⟩])
 (.cond (.l 8) (.seq (.reg [.mt 9 (.l 0),
  .mt 10 (.l 1),
  .g ⟨(.t 11), .yes, .ia 1 (.t 9) (.t 10)⟩,
  .g ⟨(.t 12), .yes, .ld false 1 (.t 11)⟩,
  .g ⟨(.l 4), .yes, .mv (.t 12)⟩])
 .ret)
 .skip))
 (.seq (.reg [.g ⟨(.l 4), .yes, .mv (.c (.tight [] 0))⟩])
 .ret))), [(.t 4)]⟩
theorem x52E : EntryOK Tryz.prog mTabs 52 (.fn x52) := ⟨fnT rfl, Tryz.f52, plans 52, keeps 52, 2, Tryz.func52, rfl, by kernel_rfl, by kernel_rfl⟩
def x53 : XF := ⟨[0, 1, 4], [0, 1], (.seq (.reg [.g ⟨(.l 4), .yes, .mv (.c (.d (.flat (Value.string ⟨#[]⟩))))⟩])
 (.seq (.reg [.mt 5 (.l 0),
  .mt 6 (.l 1),
  .g ⟨(.t 7), .yes, .gen (Op.convert 3 42 (Operand.tmp 6))⟩,
  .mt 8 (.l 0),
  .g ⟨(.t 9), .yes, .lenr (.t 8)⟩,
  .g ⟨(.t 10), .yes, .gen (Op.convert 3 42 (Operand.tmp 9))⟩,
  .g ⟨(.t 11), .yes, .bin BinOp.rem (.t 7) (.t 10) (Op.binOp BinOp.rem 42 (Operand.tmp 7) (Operand.tmp 10) 42)⟩,
  .g ⟨(.t 12), .yes, .gen (Op.convert 42 3 (Operand.tmp 11))⟩,
  .g ⟨(.t 13), .yes, .ia 1 (.t 5) (.t 12)⟩,
  .g ⟨(.t 14), .yes, .ld false 1 (.t 13)⟩,
  .g ⟨(.l 4), .yes, .mv (.t 14)⟩])
 .ret)), [(.t 4)]⟩
theorem x53E : EntryOK Tryz.prog mTabs 53 (.fn x53) := ⟨fnT rfl, Tryz.f53, plans 53, keeps 53, 2, Tryz.func53, rfl, by kernel_rfl, by kernel_rfl⟩
def x55 : XF := ⟨[0, 2, 3, 4, 5, 14], [0], (.seq (.reg [.g ⟨(.l 2), .yes, .mv (.c (.d (.flat (Value.string ⟨#[]⟩))))⟩])
 (.seq (.reg [.g ⟨(.t 6), .yes, .gen (Op.buildSlice 33 12 #[(0, (Operand.const (Value.string ⟨#[112, 114, 105, 110, 116, 32, 111, 46, 102, 40, 50, 41, 59]⟩))), (1, (Operand.const (Value.string ⟨#[112, 114, 105, 110, 116, 32, 111, 46, 102, 40, 111, 41, 59]⟩))), (2, (Operand.const (Value.string ⟨#[112, 114, 105, 110, 116, 32, 111, 46, 102, 40, 49, 44, 32, 50, 41, 59]⟩))), (3, (Operand.const (Value.string ⟨#[111, 46, 103, 50, 40, 41, 59]⟩))), (4, (Operand.const (Value.string ⟨#[111, 46, 110, 32, 61, 32, 111, 59]⟩))), (5, (Operand.const (Value.string ⟨#[112, 114, 105, 110, 116, 32, 111, 46, 110, 46, 120, 59]⟩))), (6, (Operand.const (Value.string ⟨#[112, 114, 105, 110, 116, 32, 65, 58, 58, 115, 59]⟩))), (7, (Operand.const (Value.string ⟨#[97, 115, 115, 101, 114, 116, 32, 50, 32, 65, 58, 58, 107, 40, 51, 41, 32, 60, 32, 55, 59]⟩))), (8, (Operand.const (Value.string ⟨#[116, 114, 121, 32, 123, 32, 111, 46, 110, 46, 103, 50, 40, 41, 59, 32, 125, 32, 99, 97, 116, 99, 104, 32, 40, 78, 117, 108, 108, 70, 97, 117, 108, 116, 32, 101, 41, 32, 123, 32, 112, 114, 105, 110, 116, 32, 34, 110, 34, 59, 32, 125]⟩))), (9, (Operand.const (Value.string ⟨#[119, 104, 105, 108, 101, 32, 40, 65, 58, 58, 115, 32, 60, 32, 53, 41, 32, 123, 32, 65, 58, 58, 115, 32, 61, 32, 65, 58, 58, 115, 32, 43, 32, 49, 59, 32, 125]⟩))), (10, (Operand.const (Value.string ⟨#[112, 114, 105, 110, 116, 32, 111, 46, 119, 32, 43, 32, 35, 111, 46, 119, 59]⟩))), (11, (Operand.const (Value.string ⟨#[112, 114, 105, 110, 116, 32, 111, 32, 105, 115, 32, 65, 59]⟩)))])⟩,
  .g ⟨(.l 3), .yes, .mv (.t 6)⟩])
 (.seq (.reg [.g ⟨(.l 4), .yes, .mv (.c (.d (.flat (Value.string ⟨#[]⟩))))⟩])
 (.seq (.seq (.reg [.g ⟨(.l 5), .yes, .mv (.c (.d (.flat (Value.int IntKind.i64 0))))⟩])
 (.block 0 (.loop (some [0, 3, 4, 5]) (.seq (.seq (.reg [.mt 7 (.l 5),
  .mt 8 (.l 0),
  .g ⟨(.t 9), .yes, .lenr (.t 8)⟩,
  .g ⟨(.t 10), .yes, .bin BinOp.lss (.t 7) (.t 9) (Op.binOp BinOp.lss 3 (Operand.tmp 7) (Operand.tmp 9) 3)⟩,
  .mt 11 (.t 10),
  .g ⟨(.t 12), (.g (.t 11) true), .mv (.l 5)⟩,
  .g ⟨(.t 13), (.g (.t 11) true), .bin BinOp.lss (.t 12) (.c (.d (.flat (Value.int IntKind.i64 4)))) (Op.binOp BinOp.lss 3 (Operand.tmp 12) (Operand.const (Value.int IntKind.i64 4)) 3)⟩,
  .g ⟨(.l 14), .yes, .pick (.t 11) (.t 13) (.c (.d (.flat (Value.bool false))))⟩])
 (.cond (.l 14) .skip
 (.exit 0)))
 (.seq (.block 1 (.reg [.mt 17 (.l 4),
  .g ⟨(.t 18), .yes, .bin BinOp.add (.t 17) (.c (.d (.flat (Value.string ⟨#[32]⟩)))) (Op.binOp BinOp.add 9 (Operand.tmp 17) (Operand.const (Value.string ⟨#[32]⟩)) 9)⟩,
  .mt 19 (.l 3),
  .mt 20 (.l 0),
  .mt 21 (.l 5),
  .g ⟨(.t 22), .yes, .ia 1 (.t 20) (.t 21)⟩,
  .g ⟨(.t 23), .yes, .ld false 1 (.t 22)⟩,
  .g ⟨(.t 24), .yes, .cs 53 p53 [(.t 19), (.t 23)]⟩,
  .g ⟨(.t 25), .yes, .bin BinOp.add (.t 18) (.t 24) (Op.binOp BinOp.add 9 (Operand.tmp 18) (Operand.tmp 24) 9)⟩,
  .g ⟨(.l 4), .yes, .mv (.t 25)⟩]))
 (.reg [.mt 15 (.l 5),
  .g ⟨(.t 16), .yes, .bin BinOp.add (.t 15) (.c (.d (.flat (Value.int IntKind.i64 1)))) (Op.binOp BinOp.add 3 (Operand.tmp 15) (Operand.const (Value.int IntKind.i64 1)) 3)⟩,
  .g ⟨(.l 5), .yes, .mv (.t 16)⟩]))))))
 (.seq (.reg [.mt 26 (.l 4),
  .g ⟨(.l 2), .yes, .mv (.t 26)⟩])
 .ret))))), [(.t 2)]⟩
theorem x55E : EntryOK Tryz.prog mTabs 55 (.fn x55) := ⟨fnT rfl, Tryz.f55, plans 55, keeps 55, 1, Tryz.func55, rfl, by kernel_rfl, by kernel_rfl⟩
def x56 : XF := ⟨[0, 1, 2, 3, 4, 5, 6, 7, 8, 9, 10, 11, 12, 13, 14, 15, 18, 26, 41, 56, 69, 84], [0], (.seq (.reg [.g ⟨(.l 1), .yes, .gen (Op.box 26 (Operand.tmp 0))⟩,
  .g ⟨(.l 2), .yes, .gen (Op.alloc 26)⟩,
  .g ⟨(.l 3), .yes, .mv (.c (.d (.flat (Value.int IntKind.i64 0))))⟩,
  .g ⟨(.l 4), .yes, .mv (.c (.d (.flat (Value.string ⟨#[]⟩))))⟩])
 (.seq (.seq (.reg [.g ⟨(.t 16), .yes, .ld true 1 (.l 1)⟩,
  .g ⟨(.t 17), .yes, .cs 50 p50 [(.t 16)]⟩,
  .g ⟨(.l 18), .yes, .not (.t 17)⟩])
 (.cond (.l 18) (.seq (.reg [.g ⟨(.t 19), .yes, .gen (Op.build 26 #[])⟩,
  .g ⟨.no, .yes, .st 1 (.l 2) (.t 19)⟩,
  .g ⟨(.l 3), .yes, .mv (.c (.d (.flat (Value.int IntKind.i64 1))))⟩,
  .g ⟨(.l 4), .yes, .mv (.c (.d (.flat (Value.string ⟨#[]⟩))))⟩])
 .ret)
 .skip))
 (.seq (.seq (.reg [.g ⟨(.t 21), .yes, .ld true 1 (.l 1)⟩,
  .g ⟨(.t 22), .yes, .cs 69 p69 [(.t 21)]⟩,
  .mt 20 (.t 22),
  .g ⟨(.t 23), .yes, .ex (.t 20) 0⟩,
  .g ⟨(.t 24), .yes, .ex (.t 20) 1⟩,
  .g ⟨(.l 5), .yes, .mv (.t 23)⟩,
  .g ⟨(.l 6), .yes, .mv (.t 24)⟩])
 (.seq (.reg [.mt 25 (.l 5),
  .g ⟨(.l 26), .yes, .bin BinOp.neq (.t 25) (.c (.d (.flat (Value.int IntKind.i64 0)))) (Op.binOp BinOp.neq 3 (Operand.tmp 25) (Operand.const (Value.int IntKind.i64 0)) 3)⟩])
 (.cond (.l 26) (.seq (.drw [(.l 2)] [.st ⟨true, false, ⟨(.t 27), .yes, .gen (Op.build 26 #[])⟩⟩,
  .st ⟨true, false, ⟨(.t 28), .yes, .mv (.l 5)⟩⟩,
  .st ⟨true, false, ⟨(.t 29), .yes, .fa 0 (.l 1)⟩⟩,
  .st ⟨true, false, ⟨(.t 30), .yes, .ld false 1 (.t 29)⟩⟩,
  .st ⟨true, false, ⟨(.t 31), .yes, .mv (.l 6)⟩⟩,
  .st ⟨true, false, ⟨(.t 32), .yes, .ia 4 (.t 30) (.t 31)⟩⟩,
  .st ⟨true, false, ⟨(.t 33), .yes, .fa 0 (.t 32)⟩⟩,
  .st ⟨true, false, ⟨(.t 34), .yes, .ld false 1 (.t 33)⟩⟩,
  .st ⟨false, false, ⟨.no, .yes, .st 1 (.l 2) (.t 27)⟩⟩,
  .st ⟨true, false, ⟨(.l 3), .yes, .mv (.t 28)⟩⟩,
  .st ⟨true, false, ⟨(.l 4), .yes, .mv (.t 34)⟩⟩])
 .ret)
 .skip)))
 (.seq (.seq (.reg [.g ⟨(.t 36), .yes, .ld true 1 (.l 1)⟩,
  .g ⟨(.t 37), .yes, .cs 23 p23 [(.t 36)]⟩,
  .mt 35 (.t 37),
  .g ⟨(.t 38), .yes, .ex (.t 35) 0⟩,
  .g ⟨(.t 39), .yes, .ex (.t 35) 1⟩,
  .g ⟨(.l 7), .yes, .mv (.t 38)⟩,
  .g ⟨(.l 8), .yes, .mv (.t 39)⟩])
 (.seq (.reg [.mt 40 (.l 7),
  .g ⟨(.l 41), .yes, .bin BinOp.neq (.t 40) (.c (.d (.flat (Value.int IntKind.i64 0)))) (Op.binOp BinOp.neq 3 (Operand.tmp 40) (Operand.const (Value.int IntKind.i64 0)) 3)⟩])
 (.cond (.l 41) (.seq (.drw [(.l 2)] [.st ⟨true, false, ⟨(.t 42), .yes, .gen (Op.build 26 #[])⟩⟩,
  .st ⟨true, false, ⟨(.t 43), .yes, .mv (.l 7)⟩⟩,
  .st ⟨true, false, ⟨(.t 44), .yes, .fa 0 (.l 1)⟩⟩,
  .st ⟨true, false, ⟨(.t 45), .yes, .ld false 1 (.t 44)⟩⟩,
  .st ⟨true, false, ⟨(.t 46), .yes, .mv (.l 8)⟩⟩,
  .st ⟨true, false, ⟨(.t 47), .yes, .ia 4 (.t 45) (.t 46)⟩⟩,
  .st ⟨true, false, ⟨(.t 48), .yes, .fa 0 (.t 47)⟩⟩,
  .st ⟨true, false, ⟨(.t 49), .yes, .ld false 1 (.t 48)⟩⟩,
  .st ⟨false, false, ⟨.no, .yes, .st 1 (.l 2) (.t 42)⟩⟩,
  .st ⟨true, false, ⟨(.l 3), .yes, .mv (.t 43)⟩⟩,
  .st ⟨true, false, ⟨(.l 4), .yes, .mv (.t 49)⟩⟩])
 .ret)
 .skip)))
 (.seq (.seq (.reg [.g ⟨(.t 51), .yes, .ld true 1 (.l 1)⟩,
  .g ⟨(.t 52), .yes, .cs 88 p88 [(.t 51)]⟩,
  .mt 50 (.t 52),
  .g ⟨(.t 53), .yes, .ex (.t 50) 0⟩,
  .g ⟨(.t 54), .yes, .ex (.t 50) 1⟩,
  .g ⟨(.l 9), .yes, .mv (.t 53)⟩,
  .g ⟨(.l 10), .yes, .mv (.t 54)⟩])
 (.seq (.reg [.mt 55 (.l 9),
  .g ⟨(.l 56), .yes, .bin BinOp.neq (.t 55) (.c (.d (.flat (Value.int IntKind.i64 0)))) (Op.binOp BinOp.neq 3 (Operand.tmp 55) (Operand.const (Value.int IntKind.i64 0)) 3)⟩])
 (.cond (.l 56) (.seq (.drw [(.l 2)] [.st ⟨true, false, ⟨(.t 57), .yes, .gen (Op.build 26 #[])⟩⟩,
  .st ⟨true, false, ⟨(.t 58), .yes, .mv (.l 9)⟩⟩,
  .st ⟨true, false, ⟨(.t 59), .yes, .fa 0 (.l 1)⟩⟩,
  .st ⟨true, false, ⟨(.t 60), .yes, .ld false 1 (.t 59)⟩⟩,
  .st ⟨true, false, ⟨(.t 61), .yes, .mv (.l 10)⟩⟩,
  .st ⟨true, false, ⟨(.t 62), .yes, .ia 4 (.t 60) (.t 61)⟩⟩,
  .st ⟨true, false, ⟨(.t 63), .yes, .fa 0 (.t 62)⟩⟩,
  .st ⟨true, false, ⟨(.t 64), .yes, .ld false 1 (.t 63)⟩⟩,
  .st ⟨false, false, ⟨.no, .yes, .st 1 (.l 2) (.t 57)⟩⟩,
  .st ⟨true, false, ⟨(.l 3), .yes, .mv (.t 58)⟩⟩,
  .st ⟨true, false, ⟨(.l 4), .yes, .mv (.t 64)⟩⟩])
 .ret)
 .skip)))
 (.seq (.reg [.g ⟨(.l 11), .yes, .gen (Op.alloc 26)⟩])
 (.seq (.seq (.reg [.g ⟨(.l 12), .yes, .mv (.c (.d (.flat (Value.int IntKind.i64 0))))⟩])
 (.block 0 (.loop (some [1, 2, 11, 12]) (.seq (.seq (.reg [.mt 65 (.l 12),
  .g ⟨(.t 66), .yes, .fa 0 (.l 1)⟩,
  .g ⟨(.t 67), .yes, .ld false 1 (.t 66)⟩,
  .g ⟨(.t 68), .yes, .lenr (.t 67)⟩,
  .g ⟨(.l 69), .yes, .bin BinOp.lss (.t 65) (.t 68) (Op.binOp BinOp.lss 3 (Operand.tmp 65) (Operand.tmp 68) 3)⟩])
 (.cond (.l 69) .skip
 (.exit 0)))
 (.seq (.block 1 (.seq (.drw [.no] [.st ⟨true, false, ⟨(.t 73), .yes, .ld true 1 (.l 1)⟩⟩,
  .st ⟨true, false, ⟨(.t 74), .yes, .fa 0 (.l 1)⟩⟩,
  .st ⟨true, false, ⟨(.t 75), .yes, .ld false 1 (.t 74)⟩⟩,
  .st ⟨true, false, ⟨(.t 76), .yes, .mv (.l 12)⟩⟩,
  .st ⟨true, false, ⟨(.t 77), .yes, .ia 4 (.t 75) (.t 76)⟩⟩,
  .st ⟨true, false, ⟨(.t 78), .yes, .ld true 4 (.t 77)⟩⟩,
  .fl [⟨false, true, ⟨(.t 79), .yes, .cs 89 p89 [(.t 73), (.t 78)]⟩⟩,
  ⟨true, false, ⟨(.t 72), .yes, .mv (.t 79)⟩⟩,
  ⟨true, false, ⟨(.t 80), .yes, .ex (.t 72) 0⟩⟩,
  ⟨true, false, ⟨(.t 81), .yes, .ex (.t 72) 1⟩⟩,
  ⟨true, false, ⟨(.t 82), .yes, .ex (.t 72) 2⟩⟩] ⟨(.l 13), .yes, .gen (Op.alloc 37)⟩,
  .st ⟨false, false, ⟨.no, .yes, .st 4 (.l 13) (.t 80)⟩⟩,
  .st ⟨true, false, ⟨(.l 14), .yes, .mv (.t 81)⟩⟩,
  .st ⟨true, false, ⟨(.l 15), .yes, .mv (.t 82)⟩⟩])
 (.seq (.seq (.reg [.mt 83 (.l 14),
  .g ⟨(.l 84), .yes, .bin BinOp.neq (.t 83) (.c (.d (.flat (Value.int IntKind.i64 0)))) (Op.binOp BinOp.neq 3 (Operand.tmp 83) (Operand.const (Value.int IntKind.i64 0)) 3)⟩])
 (.cond (.l 84) (.seq (.reg [.g ⟨(.t 85), .yes, .gen (Op.build 26 #[])⟩,
  .mt 86 (.l 14),
  .mt 87 (.l 15),
  .g ⟨.no, .yes, .st 1 (.l 2) (.t 85)⟩,
  .g ⟨(.l 3), .yes, .mv (.t 86)⟩,
  .g ⟨(.l 4), .yes, .mv (.t 87)⟩])
 .ret)
 .skip))
 (.reg [.g ⟨(.t 88), .yes, .fa 0 (.l 11)⟩,
  .g ⟨(.t 89), .yes, .ld false 1 (.t 88)⟩,
  .g ⟨(.t 90), .yes, .ld true 4 (.l 13)⟩,
  .g ⟨(.t 91), .yes, .gen (Op.buildSlice 24 1 #[(0, (Operand.tmp 90))])⟩,
  .g ⟨(.t 92), .yes, .gen (Op.call { callee := (Callee.builtin Builtin.append), args := #[(Operand.tmp 89), (Operand.tmp 91)], argTypes := #[24, 24] })⟩,
  .g ⟨(.t 93), .yes, .fa 0 (.l 11)⟩,
  .g ⟨.no, .yes, .st 1 (.t 93) (.t 92)⟩]))))
 (.reg [.mt 70 (.l 12),
  .g ⟨(.t 71), .yes, .bin BinOp.add (.t 70) (.c (.d (.flat (Value.int IntKind.i64 1)))) (Op.binOp BinOp.add 3 (Operand.tmp 70) (Operand.const (Value.int IntKind.i64 1)) 3)⟩,
  .g ⟨(.l 12), .yes, .mv (.t 71)⟩]))))))
 (.seq (.reg [.g ⟨(.t 94), .yes, .ld true 1 (.l 11)⟩,
  .g ⟨.no, .yes, .st 1 (.l 2) (.t 94)⟩,
  .g ⟨(.l 3), .yes, .mv (.c (.d (.flat (Value.int IntKind.i64 0))))⟩,
  .g ⟨(.l 4), .yes, .mv (.c (.d (.flat (Value.string ⟨#[]⟩))))⟩])
 .ret)))))))), [(.c 2 true 1), (.t 3), (.t 4)]⟩
theorem x56E : EntryOK Tryz.prog mTabs 56 (.fn x56) := ⟨fnT rfl, Tryz.f56, plans 56, keeps 56, 1, Tryz.func56, rfl, by kernel_rfl, by kernel_rfl⟩
def x65 : XF := ⟨[0, 2], [0], (.seq (.reg [.g ⟨(.l 2), .yes, .mv (.c (.d (.flat (Value.bool false))))⟩])
 (.seq (.reg [.g ⟨(.t 3), .yes, .gen (Op.buildSlice 33 5 #[(0, (Operand.const (Value.string ⟨#[69, 120, 99, 101, 112, 116, 105, 111, 110]⟩))), (1, (Operand.const (Value.string ⟨#[78, 117, 108, 108, 70, 97, 117, 108, 116]⟩))), (2, (Operand.const (Value.string ⟨#[67, 97, 115, 116, 70, 97, 117, 108, 116]⟩))), (3, (Operand.const (Value.string ⟨#[90, 101, 114, 111, 70, 97, 117, 108, 116]⟩))), (4, (Operand.const (Value.string ⟨#[82, 97, 110, 103, 101, 70, 97, 117, 108, 116]⟩)))])⟩,
  .mt 4 (.l 0),
  .g ⟨(.t 5), .yes, .cs 95 p95 [(.t 3), (.t 4)]⟩,
  .g ⟨(.l 2), .yes, .mv (.t 5)⟩])
 .ret)), [(.t 2)]⟩
theorem x65E : EntryOK Tryz.prog mTabs 65 (.fn x65) := ⟨fnT rfl, Tryz.f65, plans 65, keeps 65, 1, Tryz.func65, rfl, by kernel_rfl, by kernel_rfl⟩
def x66 : XF := ⟨[0, 1, 2, 4, 5, 10, 20], [0, 1], (.seq (.reg [.g ⟨(.l 2), .yes, .gen (Op.box 26 (Operand.tmp 0))⟩,
  .g ⟨(.l 4), .yes, .mv (.c (.d (.flat (Value.int IntKind.i64 0))))⟩])
 (.seq (.seq (.reg [.g ⟨(.l 5), .yes, .mv (.c (.d (.flat (Value.int IntKind.i64 0))))⟩])
 (.block 0 (.loop (some [1, 2, 5]) (.seq (.seq (.reg [.mt 6 (.l 5),
  .g ⟨(.t 7), .yes, .fa 0 (.l 2)⟩,
  .g ⟨(.t 8), .yes, .ld false 1 (.t 7)⟩,
  .g ⟨(.t 9), .yes, .lenr (.t 8)⟩,
  .g ⟨(.l 10), .yes, .bin BinOp.lss (.t 6) (.t 9) (Op.binOp BinOp.lss 3 (Operand.tmp 6) (Operand.tmp 9) 3)⟩])
 (.cond (.l 10) .skip
 (.exit 0)))
 (.seq (.block 1 (.seq (.reg [.g ⟨(.t 13), .yes, .fa 0 (.l 2)⟩,
  .g ⟨(.t 14), .yes, .ld false 1 (.t 13)⟩,
  .mt 15 (.l 5),
  .g ⟨(.t 16), .yes, .ia 4 (.t 14) (.t 15)⟩,
  .g ⟨(.t 17), .yes, .fa 0 (.t 16)⟩,
  .g ⟨(.t 18), .yes, .ld false 1 (.t 17)⟩,
  .mt 19 (.l 1),
  .g ⟨(.l 20), .yes, .bin BinOp.eql (.t 18) (.t 19) (Op.binOp BinOp.eql 9 (Operand.tmp 18) (Operand.tmp 19) 9)⟩])
 (.cond (.l 20) (.seq (.reg [.mt 21 (.l 5),
  .g ⟨(.l 4), .yes, .mv (.t 21)⟩])
 .ret)
 .skip)))
 (.reg [.mt 11 (.l 5),
  .g ⟨(.t 12), .yes, .bin BinOp.add (.t 11) (.c (.d (.flat (Value.int IntKind.i64 1)))) (Op.binOp BinOp.add 3 (Operand.tmp 11) (Operand.const (Value.int IntKind.i64 1)) 3)⟩,
  .g ⟨(.l 5), .yes, .mv (.t 12)⟩]))))))
 (.seq (.reg [.g ⟨(.l 4), .yes, .mv (.c (.d (.flat (Value.int IntKind.i64 (-1)))))⟩])
 .ret))), [(.t 4)]⟩
theorem x66E : EntryOK Tryz.prog mTabs 66 (.fn x66) := ⟨fnT rfl, Tryz.f66, plans 66, keeps 66, 2, Tryz.func66, rfl, by kernel_rfl, by kernel_rfl⟩
def x67 : XF := ⟨[0, 1, 2, 4, 5, 14], [0, 1], (.seq (.reg [.g ⟨(.l 2), .yes, .gen (Op.box 26 (Operand.tmp 0))⟩,
  .g ⟨(.l 4), .yes, .mv (.c (.tight [] 0))⟩])
 (.seq (.reg [.g ⟨(.l 5), .yes, .mv (.c (.tight [] 0))⟩])
 (.seq (.block 0 (.loop (some [1, 2, 5]) (.seq (.seq (.reg [.g ⟨(.t 6), .yes, .ld true 1 (.l 2)⟩,
  .mt 7 (.l 1),
  .g ⟨(.t 8), .yes, .cs 31 p31 [(.t 6), (.t 7)]⟩,
  .mt 9 (.t 8),
  .g ⟨(.t 10), (.g (.t 9) true), .mv (.l 5)⟩,
  .g ⟨(.t 11), (.g (.t 9) true), .mv (.l 1)⟩,
  .g ⟨(.t 12), (.g (.t 9) true), .cs 95 p95 [(.t 10), (.t 11)]⟩,
  .g ⟨(.t 13), (.g (.t 9) true), .not (.t 12)⟩,
  .g ⟨(.l 14), .yes, .pick (.t 9) (.t 13) (.c (.d (.flat (Value.bool false))))⟩])
 (.cond (.l 14) .skip
 (.exit 0)))
 (.block 1 (.seq (.reg [.mt 15 (.l 5),
  .mt 16 (.l 1),
  .g ⟨(.t 17), .yes, .gen (Op.buildSlice 33 1 #[(0, (Operand.tmp 16))])⟩,
  .g ⟨(.t 18), .yes, .gen (Op.call { callee := (Callee.builtin Builtin.append), args := #[(Operand.tmp 15), (Operand.tmp 17)], argTypes := #[33, 33] })⟩,
  .g ⟨(.l 5), .yes, .mv (.t 18)⟩])
 (.reg [.g ⟨(.t 19), .yes, .ld true 1 (.l 2)⟩,
  .mt 20 (.l 1),
  .g ⟨(.t 21), .yes, .cs 96 p96 [(.t 19), (.t 20)]⟩,
  .g ⟨(.l 1), .yes, .mv (.t 21)⟩]))))))
 (.seq (.reg [.mt 22 (.l 5),
  .g ⟨(.l 4), .yes, .mv (.t 22)⟩])
 .ret)))), [(.t 4)]⟩
theorem x67E : EntryOK Tryz.prog mTabs 67 (.fn x67) := ⟨fnT rfl, Tryz.f67, plans 67, keeps 67, 2, Tryz.func67, rfl, by kernel_rfl, by kernel_rfl⟩
def x68 : XF := ⟨[0, 1, 2, 4, 5, 10], [0, 1], (.seq (.reg [.g ⟨(.l 2), .yes, .gen (Op.box 26 (Operand.tmp 0))⟩,
  .g ⟨(.l 4), .yes, .gen (Op.alloc 37)⟩])
 (.seq (.seq (.reg [.g ⟨(.t 6), .yes, .ld true 1 (.l 2)⟩,
  .mt 7 (.l 1),
  .g ⟨(.t 8), .yes, .cs 66 p66 [(.t 6), (.t 7)]⟩,
  .g ⟨(.l 5), .yes, .mv (.t 8)⟩])
 (.seq (.reg [.mt 9 (.l 5),
  .g ⟨(.l 10), .yes, .bin BinOp.geq (.t 9) (.c (.d (.flat (Value.int IntKind.i64 0)))) (Op.binOp BinOp.geq 3 (Operand.tmp 9) (Operand.const (Value.int IntKind.i64 0)) 3)⟩])
 (.cond (.l 10) (.seq (.reg [.g ⟨(.t 11), .yes, .fa 0 (.l 2)⟩,
  .g ⟨(.t 12), .yes, .ld false 1 (.t 11)⟩,
  .mt 13 (.l 5),
  .g ⟨(.t 14), .yes, .ia 4 (.t 12) (.t 13)⟩,
  .g ⟨(.t 15), .yes, .ld true 4 (.t 14)⟩,
  .g ⟨.no, .yes, .st 4 (.l 4) (.t 15)⟩])
 .ret)
 .skip)))
 (.seq (.reg [.g ⟨(.t 16), .yes, .gen (Op.build 37 #[])⟩,
  .g ⟨.no, .yes, .st 4 (.l 4) (.t 16)⟩])
 .ret))), [(.c 4 true 4)]⟩
theorem x68E : EntryOK Tryz.prog mTabs 68 (.fn x68) := ⟨fnT rfl, Tryz.f68, plans 68, keeps 68, 2, Tryz.func68, rfl, by kernel_rfl, by kernel_rfl⟩
def x69 : XF := ⟨[0, 1, 2, 3, 4, 5, 6, 7, 8, 9, 14, 32, 38, 48, 53, 69], [0], (.seq (.reg [.g ⟨(.l 1), .yes, .gen (Op.box 26 (Operand.tmp 0))⟩,
  .g ⟨(.l 2), .yes, .mv (.c (.d (.flat (Value.int IntKind.i64 0))))⟩,
  .g ⟨(.l 3), .yes, .mv (.c (.d (.flat (Value.int IntKind.i64 0))))⟩])
 (.seq (.seq (.reg [.g ⟨(.l 4), .yes, .mv (.c (.d (.flat (Value.int IntKind.i64 0))))⟩])
 (.block 0 (.loop (some [1, 4]) (.seq (.seq (.reg [.mt 10 (.l 4),
  .g ⟨(.t 11), .yes, .fa 0 (.l 1)⟩,
  .g ⟨(.t 12), .yes, .ld false 1 (.t 11)⟩,
  .g ⟨(.t 13), .yes, .lenr (.t 12)⟩,
  .g ⟨(.l 14), .yes, .bin BinOp.lss (.t 10) (.t 13) (Op.binOp BinOp.lss 3 (Operand.tmp 10) (Operand.tmp 13) 3)⟩])
 (.cond (.l 14) .skip
 (.exit 0)))
 (.seq (.block 1 (.seq (.reg [.g ⟨(.t 17), .yes, .fa 0 (.l 1)⟩,
  .g ⟨(.t 18), .yes, .ld false 1 (.t 17)⟩,
  .mt 19 (.l 4),
  .g ⟨(.t 20), .yes, .ia 4 (.t 18) (.t 19)⟩,
  .g ⟨(.t 21), .yes, .ld true 4 (.t 20)⟩,
  .g ⟨(.l 5), .yes, .gen (Op.alloc 37)⟩,
  .g ⟨.no, .yes, .st 4 (.l 5) (.t 21)⟩])
 (.seq (.reg [.g ⟨(.t 22), .yes, .fa 0 (.l 5)⟩,
  .g ⟨(.t 23), .yes, .ld false 1 (.t 22)⟩,
  .g ⟨(.t 24), .yes, .cs 65 p65 [(.t 23)]⟩,
  .mt 25 (.t 24),
  .g ⟨(.t 26), (.g (.t 25) false), .ld true 1 (.l 1)⟩,
  .g ⟨(.t 27), (.g (.t 25) false), .fa 0 (.l 5)⟩,
  .g ⟨(.t 28), (.g (.t 25) false), .ld false 1 (.t 27)⟩,
  .g ⟨(.t 29), (.g (.t 25) false), .cs 66 p66 [(.t 26), (.t 28)]⟩,
  .g ⟨(.t 30), (.g (.t 25) false), .mv (.l 4)⟩,
  .g ⟨(.t 31), (.g (.t 25) false), .bin BinOp.neq (.t 29) (.t 30) (Op.binOp BinOp.neq 3 (Operand.tmp 29) (Operand.tmp 30) 3)⟩,
  .g ⟨(.l 32), .yes, .pick (.t 25) (.c (.d (.flat (Value.bool true)))) (.t 31)⟩])
 (.cond (.l 32) (.seq (.reg [.mt 33 (.l 4),
  .g ⟨(.l 2), .yes, .mv (.c (.d (.flat (Value.int IntKind.i64 6))))⟩,
  .g ⟨(.l 3), .yes, .mv (.t 33)⟩])
 .ret)
 .skip))))
 (.reg [.mt 15 (.l 4),
  .g ⟨(.t 16), .yes, .bin BinOp.add (.t 15) (.c (.d (.flat (Value.int IntKind.i64 1)))) (Op.binOp BinOp.add 3 (Operand.tmp 15) (Operand.const (Value.int IntKind.i64 1)) 3)⟩,
  .g ⟨(.l 4), .yes, .mv (.t 16)⟩]))))))
 (.seq (.seq (.reg [.g ⟨(.l 6), .yes, .mv (.c (.d (.flat (Value.int IntKind.i64 0))))⟩])
 (.block 2 (.loop (some [1, 6]) (.seq (.seq (.reg [.mt 34 (.l 6),
  .g ⟨(.t 35), .yes, .fa 0 (.l 1)⟩,
  .g ⟨(.t 36), .yes, .ld false 1 (.t 35)⟩,
  .g ⟨(.t 37), .yes, .lenr (.t 36)⟩,
  .g ⟨(.l 38), .yes, .bin BinOp.lss (.t 34) (.t 37) (Op.binOp BinOp.lss 3 (Operand.tmp 34) (Operand.tmp 37) 3)⟩])
 (.cond (.l 38) .skip
 (.exit 2)))
 (.seq (.block 3 (.seq (.reg [.g ⟨(.t 41), .yes, .fa 0 (.l 1)⟩,
  .g ⟨(.t 42), .yes, .ld false 1 (.t 41)⟩,
  .mt 43 (.l 6),
  .g ⟨(.t 44), .yes, .ia 4 (.t 42) (.t 43)⟩,
  .g ⟨(.t 45), .yes, .ld true 4 (.t 44)⟩,
  .g ⟨(.l 7), .yes, .gen (Op.alloc 37)⟩,
  .g ⟨.no, .yes, .st 4 (.l 7) (.t 45)⟩])
 (.seq (.seq (.reg [.g ⟨(.t 46), .yes, .fa 1 (.l 7)⟩,
  .g ⟨(.t 47), .yes, .ld false 1 (.t 46)⟩,
  .g ⟨(.l 48), .yes, .bin BinOp.eql (.t 47) (.c (.d (.flat (Value.string ⟨#[]⟩)))) (Op.binOp BinOp.eql 9 (Operand.tmp 47) (Operand.const (Value.string ⟨#[]⟩)) 9)⟩])
 (.cond (.l 48) (.exit 3)
 .skip))
 (.seq (.seq (.reg [.g ⟨(.t 49), .yes, .ld true 1 (.l 1)⟩,
  .g ⟨(.t 50), .yes, .fa 1 (.l 7)⟩,
  .g ⟨(.t 51), .yes, .ld false 1 (.t 50)⟩,
  .g ⟨(.t 52), .yes, .cs 31 p31 [(.t 49), (.t 51)]⟩,
  .g ⟨(.l 53), .yes, .not (.t 52)⟩])
 (.cond (.l 53) (.seq (.reg [.mt 54 (.l 6),
  .g ⟨(.l 2), .yes, .mv (.c (.d (.flat (Value.int IntKind.i64 7))))⟩,
  .g ⟨(.l 3), .yes, .mv (.t 54)⟩])
 .ret)
 .skip))
 (.seq (.reg [.g ⟨(.t 55), .yes, .ld true 1 (.l 1)⟩,
  .g ⟨(.t 56), .yes, .fa 0 (.l 7)⟩,
  .g ⟨(.t 57), .yes, .ld false 1 (.t 56)⟩,
  .g ⟨(.t 58), .yes, .cs 67 p67 [(.t 55), (.t 57)]⟩,
  .g ⟨(.l 8), .yes, .mv (.t 58)⟩])
 (.seq (.drw [] [.st ⟨true, false, ⟨(.t 59), .yes, .ld true 1 (.l 1)⟩⟩,
  .st ⟨true, false, ⟨(.t 60), .yes, .mv (.l 8)⟩⟩,
  .st ⟨true, false, ⟨(.t 61), .yes, .mv (.l 8)⟩⟩,
  .st ⟨true, false, ⟨(.t 62), .yes, .lenr (.t 61)⟩⟩,
  .st ⟨true, false, ⟨(.t 63), .yes, .bin BinOp.sub (.t 62) (.c (.d (.flat (Value.int IntKind.i64 1)))) (Op.binOp BinOp.sub 3 (Operand.tmp 62) (Operand.const (Value.int IntKind.i64 1)) 3)⟩⟩,
  .st ⟨true, false, ⟨(.t 64), .yes, .ia 1 (.t 60) (.t 63)⟩⟩,
  .st ⟨true, false, ⟨(.t 65), .yes, .ld false 1 (.t 64)⟩⟩,
  .st ⟨false, true, ⟨(.t 66), .yes, .cs 96 p96 [(.t 59), (.t 65)]⟩⟩,
  .st ⟨true, false, ⟨(.l 9), .yes, .mv (.t 66)⟩⟩])
 (.seq (.reg [.g ⟨(.t 67), .yes, .ld true 1 (.l 1)⟩,
  .mt 68 (.l 9),
  .g ⟨(.l 69), .yes, .cs 31 p31 [(.t 67), (.t 68)]⟩])
 (.cond (.l 69) (.seq (.reg [.mt 70 (.l 6),
  .g ⟨(.l 2), .yes, .mv (.c (.d (.flat (Value.int IntKind.i64 8))))⟩,
  .g ⟨(.l 3), .yes, .mv (.t 70)⟩])
 .ret)
 .skip))))))))
 (.reg [.mt 39 (.l 6),
  .g ⟨(.t 40), .yes, .bin BinOp.add (.t 39) (.c (.d (.flat (Value.int IntKind.i64 1)))) (Op.binOp BinOp.add 3 (Operand.tmp 39) (Operand.const (Value.int IntKind.i64 1)) 3)⟩,
  .g ⟨(.l 6), .yes, .mv (.t 40)⟩]))))))
 (.seq (.reg [.g ⟨(.l 2), .yes, .mv (.c (.d (.flat (Value.int IntKind.i64 0))))⟩,
  .g ⟨(.l 3), .yes, .mv (.c (.d (.flat (Value.int IntKind.i64 0))))⟩])
 .ret)))), [(.t 2), (.t 3)]⟩
theorem x69E : EntryOK Tryz.prog mTabs 69 (.fn x69) := ⟨fnT rfl, Tryz.f69, plans 69, keeps 69, 1, Tryz.func69, rfl, by kernel_rfl, by kernel_rfl⟩
def x70 : XF := ⟨[0, 2, 3, 4, 8, 13], [0], (.seq (.reg [.g ⟨(.l 2), .yes, .mv (.c (.d (.flat (Value.int IntKind.i64 0))))⟩])
 (.seq (.seq (.reg [.g ⟨(.l 3), .yes, .mv (.c (.d (.flat (Value.int IntKind.i64 0))))⟩])
 (.block 0 (.loop (some [0, 3]) (.seq (.seq (.reg [.mt 5 (.l 3),
  .mt 6 (.l 0),
  .g ⟨(.t 7), .yes, .lens (.t 6)⟩,
  .g ⟨(.l 8), .yes, .bin BinOp.lss (.t 5) (.t 7) (Op.binOp BinOp.lss 3 (Operand.tmp 5) (Operand.tmp 7) 3)⟩])
 (.cond (.l 8) .skip
 (.exit 0)))
 (.block 1 (.seq (.reg [.mt 9 (.l 0),
  .mt 10 (.l 3),
  .g ⟨(.t 11), .yes, .cs 97 p97 [(.t 9), (.t 10)]⟩,
  .g ⟨(.l 4), .yes, .gen (Op.alloc 147)⟩,
  .g ⟨.no, .yes, .st 3 (.l 4) (.t 11)⟩])
 (.seq (.seq (.reg [.g ⟨(.t 12), .yes, .fa 2 (.l 4)⟩,
  .g ⟨(.l 13), .yes, .ld false 1 (.t 12)⟩])
 (.cond (.l 13) (.seq (.reg [.mt 14 (.l 3),
  .g ⟨(.l 2), .yes, .mv (.t 14)⟩])
 .ret)
 .skip))
 (.reg [.mt 15 (.l 3),
  .g ⟨(.t 16), .yes, .fa 1 (.l 4)⟩,
  .g ⟨(.t 17), .yes, .ld false 1 (.t 16)⟩,
  .g ⟨(.t 18), .yes, .bin BinOp.add (.t 15) (.t 17) (Op.binOp BinOp.add 3 (Operand.tmp 15) (Operand.tmp 17) 3)⟩,
  .g ⟨(.l 3), .yes, .mv (.t 18)⟩]))))))))
 (.seq (.reg [.g ⟨(.l 2), .yes, .mv (.c (.d (.flat (Value.int IntKind.i64 (-1)))))⟩])
 .ret))), [(.t 2)]⟩
theorem x70E : EntryOK Tryz.prog mTabs 70 (.fn x70) := ⟨fnT rfl, Tryz.f70, plans 70, keeps 70, 1, Tryz.func70, rfl, by kernel_rfl, by kernel_rfl⟩
def x71 : XF := ⟨[0, 1, 4, 5, 6, 7, 8, 13, 29, 59, 64, 82, 94, 110, 122, 129, 160, 174], [0, 1], (.seq (.reg [.g ⟨(.l 4), .yes, .gen (Op.alloc 129)⟩,
  .g ⟨(.l 5), .yes, .mv (.c (.d (.flat (Value.int IntKind.i64 0))))⟩])
 (.seq (.reg [.mt 10 (.l 0),
  .mt 11 (.l 1),
  .g ⟨(.t 12), .yes, .idx (.t 10) (.t 11) (Op.index 9 (Operand.tmp 10) (Operand.tmp 11))⟩,
  .g ⟨(.l 6), .yes, .mv (.t 12)⟩])
 (.seq (.reg [.g ⟨(.l 7), .yes, .mv (.c (.d (.flat (Value.int IntKind.i64 1))))⟩])
 (.seq (.block 0 (.seq (.reg [.mt 14 (.l 6),
  .g ⟨(.t 15), .yes, .bin BinOp.eql (.t 14) (.c (.d (.flat (Value.int IntKind.u8 32)))) (Op.binOp BinOp.eql 5 (Operand.tmp 14) (Operand.const (Value.int IntKind.u8 32)) 5)⟩,
  .mt 16 (.t 15),
  .g ⟨(.t 17), (.g (.t 16) false), .mv (.l 6)⟩,
  .g ⟨(.t 18), (.g (.t 16) false), .bin BinOp.eql (.t 17) (.c (.d (.flat (Value.int IntKind.u8 9)))) (Op.binOp BinOp.eql 5 (Operand.tmp 17) (Operand.const (Value.int IntKind.u8 9)) 5)⟩,
  .g ⟨(.t 19), .yes, .pick (.t 16) (.c (.d (.flat (Value.bool true)))) (.t 18)⟩,
  .mt 20 (.t 19),
  .g ⟨(.t 21), (.g (.t 20) false), .mv (.l 6)⟩,
  .g ⟨(.t 22), (.g (.t 20) false), .bin BinOp.eql (.t 21) (.c (.d (.flat (Value.int IntKind.u8 10)))) (Op.binOp BinOp.eql 5 (Operand.tmp 21) (Operand.const (Value.int IntKind.u8 10)) 5)⟩,
  .g ⟨(.t 23), .yes, .pick (.t 20) (.c (.d (.flat (Value.bool true)))) (.t 22)⟩,
  .mt 24 (.t 23),
  .g ⟨(.t 25), (.g (.t 24) false), .mv (.l 6)⟩,
  .g ⟨(.t 26), (.g (.t 24) false), .bin BinOp.eql (.t 25) (.c (.d (.flat (Value.int IntKind.u8 13)))) (Op.binOp BinOp.eql 5 (Operand.tmp 25) (Operand.const (Value.int IntKind.u8 13)) 5)⟩,
  .g ⟨(.t 27), .yes, .pick (.t 24) (.c (.d (.flat (Value.bool true)))) (.t 26)⟩,
  .g ⟨(.l 13), .yes, .mv (.t 27)⟩])
 (.cond (.l 13) (.seq (.reg [.g ⟨(.t 28), .yes, .gen (Op.build 129 #[])⟩,
  .g ⟨.no, .yes, .st 3 (.l 4) (.t 28)⟩,
  .g ⟨(.l 5), .yes, .mv (.c (.d (.flat (Value.int IntKind.i64 1))))⟩])
 .ret)
 (.seq (.reg [.mt 30 (.l 6),
  .g ⟨(.t 31), .yes, .bin BinOp.eql (.t 30) (.c (.d (.flat (Value.int IntKind.u8 47)))) (Op.binOp BinOp.eql 5 (Operand.tmp 30) (Operand.const (Value.int IntKind.u8 47)) 5)⟩,
  .mt 32 (.t 31),
  .g ⟨(.t 33), (.g (.t 32) true), .mv (.l 1)⟩,
  .g ⟨(.t 34), (.g (.t 32) true), .bin BinOp.add (.t 33) (.c (.d (.flat (Value.int IntKind.i64 1)))) (Op.binOp BinOp.add 3 (Operand.tmp 33) (Operand.const (Value.int IntKind.i64 1)) 3)⟩,
  .g ⟨(.t 35), (.g (.t 32) true), .mv (.l 0)⟩,
  .g ⟨(.t 36), (.g (.t 32) true), .lens (.t 35)⟩,
  .g ⟨(.t 37), (.g (.t 32) true), .bin BinOp.lss (.t 34) (.t 36) (Op.binOp BinOp.lss 3 (Operand.tmp 34) (Operand.tmp 36) 3)⟩,
  .g ⟨(.t 38), .yes, .pick (.t 32) (.t 37) (.c (.d (.flat (Value.bool false))))⟩,
  .mt 39 (.t 38),
  .g ⟨(.t 40), (.g (.t 39) true), .mv (.l 0)⟩,
  .g ⟨(.t 41), (.g (.t 39) true), .mv (.l 1)⟩,
  .g ⟨(.t 42), (.g (.t 39) true), .bin BinOp.add (.t 41) (.c (.d (.flat (Value.int IntKind.i64 1)))) (Op.binOp BinOp.add 3 (Operand.tmp 41) (Operand.const (Value.int IntKind.i64 1)) 3)⟩,
  .g ⟨(.t 43), (.g (.t 39) true), .idx (.t 40) (.t 42) (Op.index 9 (Operand.tmp 40) (Operand.tmp 42))⟩,
  .g ⟨(.t 44), (.g (.t 39) true), .bin BinOp.eql (.t 43) (.c (.d (.flat (Value.int IntKind.u8 47)))) (Op.binOp BinOp.eql 5 (Operand.tmp 43) (Operand.const (Value.int IntKind.u8 47)) 5)⟩,
  .g ⟨(.t 45), .yes, .pick (.t 39) (.t 44) (.c (.d (.flat (Value.bool false))))⟩,
  .g ⟨(.l 29), .yes, .mv (.t 45)⟩])
 (.cond (.l 29) (.seq (.block 1 (.loop (some [0, 1, 4, 7]) (.seq (.seq (.reg [.mt 46 (.l 1),
  .mt 47 (.l 7),
  .g ⟨(.t 48), .yes, .bin BinOp.add (.t 46) (.t 47) (Op.binOp BinOp.add 3 (Operand.tmp 46) (Operand.tmp 47) 3)⟩,
  .mt 49 (.l 0),
  .g ⟨(.t 50), .yes, .lens (.t 49)⟩,
  .g ⟨(.t 51), .yes, .bin BinOp.lss (.t 48) (.t 50) (Op.binOp BinOp.lss 3 (Operand.tmp 48) (Operand.tmp 50) 3)⟩,
  .mt 52 (.t 51),
  .g ⟨(.t 53), (.g (.t 52) true), .mv (.l 0)⟩,
  .g ⟨(.t 54), (.g (.t 52) true), .mv (.l 1)⟩,
  .g ⟨(.t 55), (.g (.t 52) true), .mv (.l 7)⟩,
  .g ⟨(.t 56), (.g (.t 52) true), .bin BinOp.add (.t 54) (.t 55) (Op.binOp BinOp.add 3 (Operand.tmp 54) (Operand.tmp 55) 3)⟩,
  .g ⟨(.t 57), (.g (.t 52) true), .idx (.t 53) (.t 56) (Op.index 9 (Operand.tmp 53) (Operand.tmp 56))⟩,
  .g ⟨(.t 58), (.g (.t 52) true), .bin BinOp.neq (.t 57) (.c (.d (.flat (Value.int IntKind.u8 10)))) (Op.binOp BinOp.neq 5 (Operand.tmp 57) (Operand.const (Value.int IntKind.u8 10)) 5)⟩,
  .g ⟨(.l 59), .yes, .pick (.t 52) (.t 58) (.c (.d (.flat (Value.bool false))))⟩])
 (.cond (.l 59) .skip
 (.exit 1)))
 (.block 2 (.reg [.mt 60 (.l 7),
  .g ⟨(.t 61), .yes, .bin BinOp.add (.t 60) (.c (.d (.flat (Value.int IntKind.i64 1)))) (Op.binOp BinOp.add 3 (Operand.tmp 60) (Operand.const (Value.int IntKind.i64 1)) 3)⟩,
  .g ⟨(.l 7), .yes, .mv (.t 61)⟩])))))
 (.seq (.reg [.g ⟨(.t 62), .yes, .gen (Op.build 129 #[])⟩,
  .mt 63 (.l 7),
  .g ⟨.no, .yes, .st 3 (.l 4) (.t 62)⟩,
  .g ⟨(.l 5), .yes, .mv (.t 63)⟩])
 .ret))
 (.seq (.reg [.mt 65 (.l 6),
  .g ⟨(.t 66), .yes, .gen (Op.convert 5 21 (Operand.tmp 65))⟩,
  .g ⟨(.t 67), .yes, .cs 98 p98 [(.t 66)]⟩,
  .g ⟨(.l 64), .yes, .mv (.t 67)⟩])
 (.cond (.l 64) (.seq (.block 3 (.loop (some [0, 1, 4, 7]) (.seq (.seq (.reg [.mt 68 (.l 1),
  .mt 69 (.l 7),
  .g ⟨(.t 70), .yes, .bin BinOp.add (.t 68) (.t 69) (Op.binOp BinOp.add 3 (Operand.tmp 68) (Operand.tmp 69) 3)⟩,
  .mt 71 (.l 0),
  .g ⟨(.t 72), .yes, .lens (.t 71)⟩,
  .g ⟨(.t 73), .yes, .bin BinOp.lss (.t 70) (.t 72) (Op.binOp BinOp.lss 3 (Operand.tmp 70) (Operand.tmp 72) 3)⟩,
  .mt 74 (.t 73),
  .g ⟨(.t 75), (.g (.t 74) true), .mv (.l 0)⟩,
  .g ⟨(.t 76), (.g (.t 74) true), .mv (.l 1)⟩,
  .g ⟨(.t 77), (.g (.t 74) true), .mv (.l 7)⟩,
  .g ⟨(.t 78), (.g (.t 74) true), .bin BinOp.add (.t 76) (.t 77) (Op.binOp BinOp.add 3 (Operand.tmp 76) (Operand.tmp 77) 3)⟩,
  .g ⟨(.t 79), (.g (.t 74) true), .idx (.t 75) (.t 78) (Op.index 9 (Operand.tmp 75) (Operand.tmp 78))⟩,
  .g ⟨(.t 80), (.g (.t 74) true), .gen (Op.convert 5 21 (Operand.tmp 79))⟩,
  .g ⟨(.t 81), (.g (.t 74) true), .cs 98 p98 [(.t 80)]⟩,
  .g ⟨(.l 82), .yes, .pick (.t 74) (.t 81) (.c (.d (.flat (Value.bool false))))⟩])
 (.cond (.l 82) .skip
 (.exit 3)))
 (.block 4 (.reg [.mt 83 (.l 7),
  .g ⟨(.t 84), .yes, .bin BinOp.add (.t 83) (.c (.d (.flat (Value.int IntKind.i64 1)))) (Op.binOp BinOp.add 3 (Operand.tmp 83) (Operand.const (Value.int IntKind.i64 1)) 3)⟩,
  .g ⟨(.l 7), .yes, .mv (.t 84)⟩])))))
 (.seq (.reg [.mt 85 (.l 0),
  .mt 86 (.l 1),
  .mt 87 (.l 1),
  .mt 88 (.l 7),
  .g ⟨(.t 89), .yes, .bin BinOp.add (.t 87) (.t 88) (Op.binOp BinOp.add 3 (Operand.tmp 87) (Operand.tmp 88) 3)⟩,
  .g ⟨(.t 90), .yes, .sls (.t 85) (some (.t 86)) (some (.t 89))⟩,
  .mt 91 (.l 1),
  .g ⟨(.t 92), .yes, .gen (Op.build 129 #[(0, (Operand.const (Value.int IntKind.i64 2))), (1, (Operand.tmp 90)), (2, (Operand.tmp 91))])⟩,
  .mt 93 (.l 7),
  .g ⟨.no, .yes, .st 3 (.l 4) (.t 92)⟩,
  .g ⟨(.l 5), .yes, .mv (.t 93)⟩])
 .ret))
 (.seq (.reg [.mt 95 (.l 6),
  .g ⟨(.t 96), .yes, .cs 99 p99 [(.t 95)]⟩,
  .g ⟨(.l 94), .yes, .mv (.t 96)⟩])
 (.cond (.l 94) (.seq (.block 5 (.loop (some [0, 1, 4, 7]) (.seq (.seq (.reg [.mt 97 (.l 1),
  .mt 98 (.l 7),
  .g ⟨(.t 99), .yes, .bin BinOp.add (.t 97) (.t 98) (Op.binOp BinOp.add 3 (Operand.tmp 97) (Operand.tmp 98) 3)⟩,
  .mt 100 (.l 0),
  .g ⟨(.t 101), .yes, .lens (.t 100)⟩,
  .g ⟨(.t 102), .yes, .bin BinOp.lss (.t 99) (.t 101) (Op.binOp BinOp.lss 3 (Operand.tmp 99) (Operand.tmp 101) 3)⟩,
  .mt 103 (.t 102),
  .g ⟨(.t 104), (.g (.t 103) true), .mv (.l 0)⟩,
  .g ⟨(.t 105), (.g (.t 103) true), .mv (.l 1)⟩,
  .g ⟨(.t 106), (.g (.t 103) true), .mv (.l 7)⟩,
  .g ⟨(.t 107), (.g (.t 103) true), .bin BinOp.add (.t 105) (.t 106) (Op.binOp BinOp.add 3 (Operand.tmp 105) (Operand.tmp 106) 3)⟩,
  .g ⟨(.t 108), (.g (.t 103) true), .idx (.t 104) (.t 107) (Op.index 9 (Operand.tmp 104) (Operand.tmp 107))⟩,
  .g ⟨(.t 109), (.g (.t 103) true), .cs 99 p99 [(.t 108)]⟩,
  .g ⟨(.l 110), .yes, .pick (.t 103) (.t 109) (.c (.d (.flat (Value.bool false))))⟩])
 (.cond (.l 110) .skip
 (.exit 5)))
 (.block 6 (.reg [.mt 111 (.l 7),
  .g ⟨(.t 112), .yes, .bin BinOp.add (.t 111) (.c (.d (.flat (Value.int IntKind.i64 1)))) (Op.binOp BinOp.add 3 (Operand.tmp 111) (Operand.const (Value.int IntKind.i64 1)) 3)⟩,
  .g ⟨(.l 7), .yes, .mv (.t 112)⟩])))))
 (.seq (.reg [.mt 113 (.l 0),
  .mt 114 (.l 1),
  .mt 115 (.l 1),
  .mt 116 (.l 7),
  .g ⟨(.t 117), .yes, .bin BinOp.add (.t 115) (.t 116) (Op.binOp BinOp.add 3 (Operand.tmp 115) (Operand.tmp 116) 3)⟩,
  .g ⟨(.t 118), .yes, .sls (.t 113) (some (.t 114)) (some (.t 117))⟩,
  .mt 119 (.l 1),
  .g ⟨(.t 120), .yes, .gen (Op.build 129 #[(0, (Operand.const (Value.int IntKind.i64 1))), (1, (Operand.tmp 118)), (2, (Operand.tmp 119))])⟩,
  .mt 121 (.l 7),
  .g ⟨.no, .yes, .st 3 (.l 4) (.t 120)⟩,
  .g ⟨(.l 5), .yes, .mv (.t 121)⟩])
 .ret))
 (.seq (.reg [.mt 123 (.l 6),
  .g ⟨(.t 124), .yes, .bin BinOp.eql (.t 123) (.c (.d (.flat (Value.int IntKind.u8 34)))) (Op.binOp BinOp.eql 5 (Operand.tmp 123) (Operand.const (Value.int IntKind.u8 34)) 5)⟩,
  .g ⟨(.l 122), .yes, .mv (.t 124)⟩])
 (.cond (.l 122) (.seq (.reg [.mt 125 (.l 0),
  .mt 126 (.l 1),
  .g ⟨(.t 127), .yes, .cs 100 p100 [(.t 125), (.t 126)]⟩,
  .g ⟨(.l 7), .yes, .mv (.t 127)⟩])
 (.seq (.seq (.reg [.mt 128 (.l 7),
  .g ⟨(.l 129), .yes, .bin BinOp.eql (.t 128) (.c (.d (.flat (Value.int IntKind.i64 0)))) (Op.binOp BinOp.eql 3 (Operand.tmp 128) (Operand.const (Value.int IntKind.i64 0)) 3)⟩])
 (.cond (.l 129) (.seq (.reg [.g ⟨(.t 130), .yes, .gen (Op.build 129 #[])⟩,
  .g ⟨.no, .yes, .st 3 (.l 4) (.t 130)⟩,
  .g ⟨(.l 5), .yes, .mv (.c (.d (.flat (Value.int IntKind.i64 0))))⟩])
 .ret)
 .skip))
 (.seq (.reg [.mt 132 (.l 0),
  .mt 133 (.l 1),
  .g ⟨(.t 134), .yes, .bin BinOp.add (.t 133) (.c (.d (.flat (Value.int IntKind.i64 1)))) (Op.binOp BinOp.add 3 (Operand.tmp 133) (Operand.const (Value.int IntKind.i64 1)) 3)⟩,
  .mt 135 (.l 1),
  .mt 136 (.l 7),
  .g ⟨(.t 137), .yes, .bin BinOp.add (.t 135) (.t 136) (Op.binOp BinOp.add 3 (Operand.tmp 135) (Operand.tmp 136) 3)⟩,
  .g ⟨(.t 138), .yes, .bin BinOp.sub (.t 137) (.c (.d (.flat (Value.int IntKind.i64 1)))) (Op.binOp BinOp.sub 3 (Operand.tmp 137) (Operand.const (Value.int IntKind.i64 1)) 3)⟩,
  .g ⟨(.t 139), .yes, .sls (.t 132) (some (.t 134)) (some (.t 138))⟩,
  .g ⟨(.t 140), .yes, .cs 101 p101 [(.t 139)]⟩,
  .mt 131 (.t 140),
  .g ⟨(.t 141), .yes, .ex (.t 131) 0⟩,
  .g ⟨(.t 142), .yes, .ex (.t 131) 1⟩,
  .g ⟨(.l 8), .yes, .mv (.t 141)⟩,
  .mt 9 (.t 142)])
 (.seq (.reg [.mt 143 (.l 8),
  .mt 144 (.l 1),
  .g ⟨(.t 145), .yes, .gen (Op.build 129 #[(0, (Operand.const (Value.int IntKind.i64 3))), (1, (Operand.tmp 143)), (2, (Operand.tmp 144))])⟩,
  .mt 146 (.l 7),
  .g ⟨.no, .yes, .st 3 (.l 4) (.t 145)⟩,
  .g ⟨(.l 5), .yes, .mv (.t 146)⟩])
 .ret))))
 .skip)))))))))))
 (.seq (.seq (.reg [.mt 147 (.l 1),
  .g ⟨(.t 148), .yes, .bin BinOp.add (.t 147) (.c (.d (.flat (Value.int IntKind.i64 2)))) (Op.binOp BinOp.add 3 (Operand.tmp 147) (Operand.const (Value.int IntKind.i64 2)) 3)⟩,
  .mt 149 (.l 0),
  .g ⟨(.t 150), .yes, .lens (.t 149)⟩,
  .g ⟨(.t 151), .yes, .bin BinOp.leq (.t 148) (.t 150) (Op.binOp BinOp.leq 3 (Operand.tmp 148) (Operand.tmp 150) 3)⟩,
  .mt 152 (.t 151),
  .g ⟨(.t 153), (.g (.t 152) true), .gen (Op.buildSlice 33 6 #[(0, (Operand.const (Value.string ⟨#[58, 58]⟩))), (1, (Operand.const (Value.string ⟨#[60, 61]⟩))), (2, (Operand.const (Value.string ⟨#[61, 61]⟩))), (3, (Operand.const (Value.string ⟨#[33, 61]⟩))), (4, (Operand.const (Value.string ⟨#[38, 38]⟩))), (5, (Operand.const (Value.string ⟨#[124, 124]⟩)))])⟩,
  .g ⟨(.t 154), (.g (.t 152) true), .mv (.l 0)⟩,
  .g ⟨(.t 155), (.g (.t 152) true), .mv (.l 1)⟩,
  .g ⟨(.t 156), (.g (.t 152) true), .mv (.l 1)⟩,
  .g ⟨(.t 157), (.g (.t 152) true), .bin BinOp.add (.t 156) (.c (.d (.flat (Value.int IntKind.i64 2)))) (Op.binOp BinOp.add 3 (Operand.tmp 156) (Operand.const (Value.int IntKind.i64 2)) 3)⟩,
  .g ⟨(.t 158), (.g (.t 152) true), .sls (.t 154) (some (.t 155)) (some (.t 157))⟩,
  .g ⟨(.t 159), (.g (.t 152) true), .cs 95 p95 [(.t 153), (.t 158)]⟩,
  .g ⟨(.l 160), .yes, .pick (.t 152) (.t 159) (.c (.d (.flat (Value.bool false))))⟩])
 (.cond (.l 160) (.seq (.reg [.mt 161 (.l 0),
  .mt 162 (.l 1),
  .mt 163 (.l 1),
  .g ⟨(.t 164), .yes, .bin BinOp.add (.t 163) (.c (.d (.flat (Value.int IntKind.i64 2)))) (Op.binOp BinOp.add 3 (Operand.tmp 163) (Operand.const (Value.int IntKind.i64 2)) 3)⟩,
  .g ⟨(.t 165), .yes, .sls (.t 161) (some (.t 162)) (some (.t 164))⟩,
  .mt 166 (.l 1),
  .g ⟨(.t 167), .yes, .gen (Op.build 129 #[(0, (Operand.const (Value.int IntKind.i64 4))), (1, (Operand.tmp 165)), (2, (Operand.tmp 166))])⟩,
  .g ⟨.no, .yes, .st 3 (.l 4) (.t 167)⟩,
  .g ⟨(.l 5), .yes, .mv (.c (.d (.flat (Value.int IntKind.i64 2))))⟩])
 .ret)
 .skip))
 (.seq (.seq (.reg [.g ⟨(.t 168), .yes, .gen (Op.buildSlice 33 17 #[(0, (Operand.const (Value.string ⟨#[123]⟩))), (1, (Operand.const (Value.string ⟨#[125]⟩))), (2, (Operand.const (Value.string ⟨#[40]⟩))), (3, (Operand.const (Value.string ⟨#[41]⟩))), (4, (Operand.const (Value.string ⟨#[59]⟩))), (5, (Operand.const (Value.string ⟨#[44]⟩))), (6, (Operand.const (Value.string ⟨#[46]⟩))), (7, (Operand.const (Value.string ⟨#[61]⟩))), (8, (Operand.const (Value.string ⟨#[60]⟩))), (9, (Operand.const (Value.string ⟨#[43]⟩))), (10, (Operand.const (Value.string ⟨#[45]⟩))), (11, (Operand.const (Value.string ⟨#[42]⟩))), (12, (Operand.const (Value.string ⟨#[47]⟩))), (13, (Operand.const (Value.string ⟨#[37]⟩))), (14, (Operand.const (Value.string ⟨#[33]⟩))), (15, (Operand.const (Value.string ⟨#[35]⟩))), (16, (Operand.const (Value.string ⟨#[64]⟩)))])⟩,
  .mt 169 (.l 0),
  .mt 170 (.l 1),
  .mt 171 (.l 1),
  .g ⟨(.t 172), .yes, .bin BinOp.add (.t 171) (.c (.d (.flat (Value.int IntKind.i64 1)))) (Op.binOp BinOp.add 3 (Operand.tmp 171) (Operand.const (Value.int IntKind.i64 1)) 3)⟩,
  .g ⟨(.t 173), .yes, .sls (.t 169) (some (.t 170)) (some (.t 172))⟩,
  .g ⟨(.l 174), .yes, .cs 95 p95 [(.t 168), (.t 173)]⟩])
 (.cond (.l 174) (.seq (.reg [.mt 175 (.l 0),
  .mt 176 (.l 1),
  .mt 177 (.l 1),
  .g ⟨(.t 178), .yes, .bin BinOp.add (.t 177) (.c (.d (.flat (Value.int IntKind.i64 1)))) (Op.binOp BinOp.add 3 (Operand.tmp 177) (Operand.const (Value.int IntKind.i64 1)) 3)⟩,
  .g ⟨(.t 179), .yes, .sls (.t 175) (some (.t 176)) (some (.t 178))⟩,
  .mt 180 (.l 1),
  .g ⟨(.t 181), .yes, .gen (Op.build 129 #[(0, (Operand.const (Value.int IntKind.i64 4))), (1, (Operand.tmp 179)), (2, (Operand.tmp 180))])⟩,
  .g ⟨.no, .yes, .st 3 (.l 4) (.t 181)⟩,
  .g ⟨(.l 5), .yes, .mv (.c (.d (.flat (Value.int IntKind.i64 1))))⟩])
 .ret)
 .skip))
 (.seq (.reg [.g ⟨(.t 182), .yes, .gen (Op.build 129 #[])⟩,
  .g ⟨.no, .yes, .st 3 (.l 4) (.t 182)⟩,
  .g ⟨(.l 5), .yes, .mv (.c (.d (.flat (Value.int IntKind.i64 0))))⟩])
 .ret))))))), [(.c 4 true 3), (.t 5)]⟩
theorem x71E : EntryOK Tryz.prog mTabs 71 (.fn x71) := ⟨fnT rfl, Tryz.f71, plans 71, keeps 71, 2, Tryz.func71, rfl, by kernel_rfl, by kernel_rfl⟩
def x73 : XF := ⟨[0, 1, 4], [0, 1], (.seq (.reg [.g ⟨(.l 4), .yes, .mv (.c (.d (.flat (Value.bool false))))⟩])
 (.seq (.drw [] [.st ⟨true, false, ⟨(.t 5), .yes, .mv (.l 0)⟩⟩,
  .st ⟨true, false, ⟨(.t 6), .yes, .mv (.l 1)⟩⟩,
  .st ⟨false, true, ⟨(.t 7), .yes, .cs 76 p76 [(.t 5), (.t 6), (.c (.d (.flat (Value.int IntKind.i64 1)))), (.c (.d (.flat (Value.string ⟨#[]⟩))))]⟩⟩,
  .st ⟨true, false, ⟨(.t 8), .yes, .mv (.t 7)⟩⟩,
  .st ⟨true, false, ⟨(.t 9), (.g (.t 8) true), .mv (.l 0)⟩⟩,
  .st ⟨true, false, ⟨(.t 10), (.g (.t 8) true), .nc (.t 9)⟩⟩,
  .st ⟨true, false, ⟨(.t 11), (.g (.t 8) true), .fa 0 (.t 10)⟩⟩,
  .st ⟨true, false, ⟨(.t 12), (.g (.t 8) true), .ld false 1 (.t 11)⟩⟩,
  .st ⟨true, false, ⟨(.t 13), (.g (.t 8) true), .mv (.l 0)⟩⟩,
  .st ⟨true, false, ⟨(.t 14), (.g (.t 8) true), .nc (.t 13)⟩⟩,
  .st ⟨true, false, ⟨(.t 15), (.g (.t 8) true), .fa 2 (.t 14)⟩⟩,
  .st ⟨true, false, ⟨(.t 16), (.g (.t 8) true), .ld false 1 (.t 15)⟩⟩,
  .st ⟨true, false, ⟨(.t 17), (.g (.t 8) true), .mv (.l 1)⟩⟩,
  .st ⟨true, false, ⟨(.t 18), (.g (.t 8) true), .bin BinOp.add (.t 16) (.t 17) (Op.binOp BinOp.add 3 (Operand.tmp 16) (Operand.tmp 17) 3)⟩⟩,
  .st ⟨true, false, ⟨(.t 19), (.g (.t 8) true), .ia 3 (.t 12) (.t 18)⟩⟩,
  .st ⟨true, false, ⟨(.t 20), (.g (.t 8) true), .fa 1 (.t 19)⟩⟩,
  .st ⟨true, false, ⟨(.t 21), (.g (.t 8) true), .ld false 1 (.t 20)⟩⟩,
  .st ⟨false, true, ⟨(.t 22), (.g (.t 8) true), .cs 103 p103 [(.t 21)]⟩⟩,
  .st ⟨true, false, ⟨(.t 23), .yes, .pick (.t 8) (.t 22) (.c (.d (.flat (Value.bool false))))⟩⟩,
  .st ⟨true, false, ⟨(.l 4), .yes, .mv (.t 23)⟩⟩])
 .ret)), [(.t 4)]⟩
theorem x73E : EntryOK Tryz.prog mTabs 73 (.fn x73) := ⟨fnT rfl, Tryz.f73, plans 73, keeps 73, 2, Tryz.func73, rfl, by kernel_rfl, by kernel_rfl⟩
def x74 : XF := ⟨[0, 2, 3, 17], [0], (.seq (.reg [.g ⟨(.l 2), .yes, .mv (.c (.d (.flat (Value.string ⟨#[]⟩))))⟩])
 (.seq (.drw [] [.st ⟨true, false, ⟨(.t 4), .yes, .mv (.l 0)⟩⟩,
  .st ⟨true, false, ⟨(.t 5), .yes, .nc (.t 4)⟩⟩,
  .st ⟨true, false, ⟨(.t 6), .yes, .fa 0 (.t 5)⟩⟩,
  .st ⟨true, false, ⟨(.t 7), .yes, .ld false 1 (.t 6)⟩⟩,
  .st ⟨true, false, ⟨(.t 8), .yes, .mv (.l 0)⟩⟩,
  .st ⟨true, false, ⟨(.t 9), .yes, .nc (.t 8)⟩⟩,
  .st ⟨true, false, ⟨(.t 10), .yes, .fa 2 (.t 9)⟩⟩,
  .st ⟨true, false, ⟨(.t 11), .yes, .ld false 1 (.t 10)⟩⟩,
  .st ⟨true, false, ⟨(.t 12), .yes, .ia 3 (.t 7) (.t 11)⟩⟩,
  .st ⟨true, false, ⟨(.t 13), .yes, .fa 1 (.t 12)⟩⟩,
  .st ⟨true, false, ⟨(.t 14), .yes, .ld false 1 (.t 13)⟩⟩,
  .st ⟨true, false, ⟨(.l 3), .yes, .mv (.t 14)⟩⟩])
 (.seq (.seq (.reg [.mt 15 (.l 3),
  .g ⟨(.t 16), .yes, .lens (.t 15)⟩,
  .g ⟨(.l 17), .yes, .bin BinOp.gtr (.t 16) (.c (.d (.flat (Value.int IntKind.i64 20)))) (Op.binOp BinOp.gtr 3 (Operand.tmp 16) (Operand.const (Value.int IntKind.i64 20)) 3)⟩])
 (.cond (.l 17) (.seq (.reg [.mt 18 (.l 0),
  .g ⟨(.t 19), .yes, .cs 72 p72 [(.t 18), (.c (.d (.flat (Value.int IntKind.i64 5))))]⟩])
 (.seq (.reg [.g ⟨(.l 2), .yes, .mv (.c (.d (.flat (Value.string ⟨#[]⟩))))⟩])
 .ret))
 .skip))
 (.seq (.reg [.mt 20 (.l 0),
  .g ⟨(.t 21), .yes, .nc (.t 20)⟩,
  .g ⟨(.t 22), .yes, .fa 2 (.t 21)⟩,
  .g ⟨(.t 23), .yes, .ld false 1 (.t 22)⟩,
  .g ⟨(.t 24), .yes, .bin BinOp.add (.t 23) (.c (.d (.flat (Value.int IntKind.i64 1)))) (Op.binOp BinOp.add 3 (Operand.tmp 23) (Operand.const (Value.int IntKind.i64 1)) 3)⟩,
  .g ⟨(.t 25), .yes, .nc (.t 20)⟩,
  .g ⟨(.t 26), .yes, .fa 2 (.t 25)⟩,
  .g ⟨.no, .yes, .st 1 (.t 26) (.t 24)⟩])
 (.seq (.reg [.mt 27 (.l 3),
  .g ⟨(.l 2), .yes, .mv (.t 27)⟩])
 .ret))))), [(.t 2)]⟩
theorem x74E : EntryOK Tryz.prog mTabs 74 (.fn x74) := ⟨fnT rfl, Tryz.f74, plans 74, keeps 74, 1, Tryz.func74, rfl, by kernel_rfl, by kernel_rfl⟩
def x75 : XF := ⟨[0, 1, 4], [0, 1], (.seq (.reg [.g ⟨(.l 4), .yes, .mv (.c (.d (.flat (Value.bool false))))⟩])
 (.seq (.reg [.mt 5 (.l 0),
  .mt 6 (.l 1),
  .g ⟨(.t 7), .yes, .cs 76 p76 [(.t 5), (.c (.d (.flat (Value.int IntKind.i64 0)))), (.c (.d (.flat (Value.int IntKind.i64 1)))), (.t 6)]⟩,
  .g ⟨(.l 4), .yes, .mv (.t 7)⟩])
 .ret)), [(.t 4)]⟩
theorem x75E : EntryOK Tryz.prog mTabs 75 (.fn x75) := ⟨fnT rfl, Tryz.f75, plans 75, keeps 75, 2, Tryz.func75, rfl, by kernel_rfl, by kernel_rfl⟩
def x76 : XF := ⟨[0, 1, 2, 3, 8, 9], [0, 1, 2, 3], (.seq (.reg [.g ⟨(.l 8), .yes, .mv (.c (.d (.flat (Value.bool false))))⟩])
 (.seq (.reg [.mt 10 (.l 0),
  .g ⟨(.t 11), .yes, .nc (.t 10)⟩,
  .g ⟨(.t 12), .yes, .fa 2 (.t 11)⟩,
  .g ⟨(.t 13), .yes, .ld false 1 (.t 12)⟩,
  .mt 14 (.l 1),
  .g ⟨(.t 15), .yes, .bin BinOp.add (.t 13) (.t 14) (Op.binOp BinOp.add 3 (Operand.tmp 13) (Operand.tmp 14) 3)⟩,
  .g ⟨(.l 9), .yes, .mv (.t 15)⟩])
 (.seq (.reg [.mt 16 (.l 0),
  .g ⟨(.t 17), .yes, .nc (.t 16)⟩,
  .g ⟨(.t 18), .yes, .fa 3 (.t 17)⟩,
  .g ⟨(.t 19), .yes, .ld false 1 (.t 18)⟩,
  .g ⟨(.t 20), .yes, .bin BinOp.eql (.t 19) (.c (.d (.flat (Value.int IntKind.i64 0)))) (Op.binOp BinOp.eql 3 (Operand.tmp 19) (Operand.const (Value.int IntKind.i64 0)) 3)⟩,
  .mt 21 (.t 20),
  .g ⟨(.t 22), (.g (.t 21) true), .mv (.l 9)⟩,
  .g ⟨(.t 23), (.g (.t 21) true), .mv (.l 0)⟩,
  .g ⟨(.t 24), (.g (.t 21) true), .nc (.t 23)⟩,
  .g ⟨(.t 25), (.g (.t 21) true), .fa 0 (.t 24)⟩,
  .g ⟨(.t 26), (.g (.t 21) true), .ld false 1 (.t 25)⟩,
  .g ⟨(.t 27), (.g (.t 21) true), .lenr (.t 26)⟩,
  .g ⟨(.t 28), (.g (.t 21) true), .bin BinOp.lss (.t 22) (.t 27) (Op.binOp BinOp.lss 3 (Operand.tmp 22) (Operand.tmp 27) 3)⟩,
  .g ⟨(.t 29), .yes, .pick (.t 21) (.t 28) (.c (.d (.flat (Value.bool false))))⟩,
  .mt 30 (.t 29),
  .g ⟨(.t 31), (.g (.t 30) true), .mv (.l 0)⟩,
  .g ⟨(.t 32), (.g (.t 30) true), .nc (.t 31)⟩,
  .g ⟨(.t 33), (.g (.t 30) true), .fa 0 (.t 32)⟩,
  .g ⟨(.t 34), (.g (.t 30) true), .ld false 1 (.t 33)⟩,
  .g ⟨(.t 35), (.g (.t 30) true), .mv (.l 9)⟩,
  .g ⟨(.t 36), (.g (.t 30) true), .ia 3 (.t 34) (.t 35)⟩,
  .g ⟨(.t 37), (.g (.t 30) true), .fa 0 (.t 36)⟩,
  .g ⟨(.t 38), (.g (.t 30) true), .ld false 1 (.t 37)⟩,
  .g ⟨(.t 39), (.g (.t 30) true), .mv (.l 2)⟩,
  .g ⟨(.t 40), (.g (.t 30) true), .bin BinOp.eql (.t 38) (.t 39) (Op.binOp BinOp.eql 3 (Operand.tmp 38) (Operand.tmp 39) 3)⟩,
  .g ⟨(.t 41), .yes, .pick (.t 30) (.t 40) (.c (.d (.flat (Value.bool false))))⟩,
  .mt 42 (.t 41),
  .g ⟨(.t 43), (.g (.t 42) true), .mv (.l 3)⟩,
  .g ⟨(.t 44), (.g (.t 42) true), .bin BinOp.eql (.t 43) (.c (.d (.flat (Value.string ⟨#[]⟩)))) (Op.binOp BinOp.eql 9 (Operand.tmp 43) (Operand.const (Value.string ⟨#[]⟩)) 9)⟩,
  .g ⟨(.t 45), (.g (.t 42) true), .mv (.t 44)⟩,
  .g ⟨(.t 46), (.g (.t 45) false), .mv (.l 0)⟩,
  .g ⟨(.t 47), (.g (.t 45) false), .nc (.t 46)⟩,
  .g ⟨(.t 48), (.g (.t 45) false), .fa 0 (.t 47)⟩,
  .g ⟨(.t 49), (.g (.t 45) false), .ld false 1 (.t 48)⟩,
  .g ⟨(.t 50), (.g (.t 45) false), .mv (.l 9)⟩,
  .g ⟨(.t 51), (.g (.t 45) false), .ia 3 (.t 49) (.t 50)⟩,
  .g ⟨(.t 52), (.g (.t 45) false), .fa 1 (.t 51)⟩,
  .g ⟨(.t 53), (.g (.t 45) false), .ld false 1 (.t 52)⟩,
  .g ⟨(.t 54), (.g (.t 45) false), .mv (.l 3)⟩,
  .g ⟨(.t 55), (.g (.t 45) false), .bin BinOp.eql (.t 53) (.t 54) (Op.binOp BinOp.eql 9 (Operand.tmp 53) (Operand.tmp 54) 9)⟩,
  .g ⟨(.t 56), (.g (.t 42) true), .pick (.t 45) (.c (.d (.flat (Value.bool true)))) (.t 55)⟩,
  .g ⟨(.t 57), .yes, .pick (.t 42) (.t 56) (.c (.d (.flat (Value.bool false))))⟩,
  .g ⟨(.l 8), .yes, .mv (.t 57)⟩])
 .ret))), [(.t 8)]⟩
theorem x76E : EntryOK Tryz.prog mTabs 76 (.fn x76) := ⟨fnT rfl, Tryz.f76, plans 76, keeps 76, 4, Tryz.func76, rfl, by kernel_rfl, by kernel_rfl⟩
def x77 : XF := ⟨[0, 2, 3, 4, 21, 33], [0], (.seq (.reg [.g ⟨(.l 2), .yes, .mv (.c (.tight [] 0))⟩])
 (.seq (.reg [.mt 5 (.l 0),
  .g ⟨(.t 6), .yes, .cs 45 p45 [(.t 5), (.c (.d (.flat (Value.string ⟨#[40]⟩))))]⟩])
 (.seq (.reg [.g ⟨(.l 3), .yes, .mv (.c (.tight [] 0))⟩])
 (.seq (.block 0 (.loop (some [0, 3]) (.seq (.seq (.reg [.mt 7 (.l 0),
  .g ⟨(.t 8), .yes, .nc (.t 7)⟩,
  .g ⟨(.t 9), .yes, .fa 3 (.t 8)⟩,
  .g ⟨(.t 10), .yes, .ld false 1 (.t 9)⟩,
  .g ⟨(.t 11), .yes, .bin BinOp.eql (.t 10) (.c (.d (.flat (Value.int IntKind.i64 0)))) (Op.binOp BinOp.eql 3 (Operand.tmp 10) (Operand.const (Value.int IntKind.i64 0)) 3)⟩,
  .mt 12 (.t 11),
  .g ⟨(.t 13), (.g (.t 12) true), .mv (.l 3)⟩,
  .g ⟨(.t 14), (.g (.t 12) true), .lenr (.t 13)⟩,
  .g ⟨(.t 15), (.g (.t 12) true), .bin BinOp.gtr (.t 14) (.c (.d (.flat (Value.int IntKind.i64 0)))) (Op.binOp BinOp.gtr 3 (Operand.tmp 14) (Operand.const (Value.int IntKind.i64 0)) 3)⟩,
  .g ⟨(.t 16), (.g (.t 12) true), .mv (.t 15)⟩,
  .g ⟨(.t 17), (.g (.t 16) false), .mv (.l 0)⟩,
  .g ⟨(.t 18), (.g (.t 16) false), .cs 48 p48 [(.t 17), (.c (.d (.flat (Value.string ⟨#[41]⟩))))]⟩,
  .g ⟨(.t 19), (.g (.t 16) false), .not (.t 18)⟩,
  .g ⟨(.t 20), (.g (.t 12) true), .pick (.t 16) (.c (.d (.flat (Value.bool true)))) (.t 19)⟩,
  .g ⟨(.l 21), .yes, .pick (.t 12) (.t 20) (.c (.d (.flat (Value.bool false))))⟩])
 (.cond (.l 21) .skip
 (.exit 0)))
 (.block 1 (.seq (.reg [.mt 22 (.l 0),
  .g ⟨(.t 23), .yes, .cs 80 p80 [(.t 22)]⟩,
  .g ⟨(.l 4), .yes, .mv (.t 23)⟩])
 (.seq (.reg [.mt 24 (.l 3),
  .mt 25 (.l 4),
  .mt 26 (.l 0),
  .g ⟨(.t 27), .yes, .cs 79 p79 [(.t 26)]⟩,
  .g ⟨(.t 28), .yes, .gen (Op.build 155 #[(0, (Operand.tmp 25)), (1, (Operand.tmp 27))])⟩,
  .g ⟨(.t 29), .yes, .gen (Op.buildSlice 95 1 #[(0, (Operand.tmp 28))])⟩,
  .g ⟨(.t 30), .yes, .gen (Op.call { callee := (Callee.builtin Builtin.append), args := #[(Operand.tmp 24), (Operand.tmp 29)], argTypes := #[95, 95] })⟩,
  .g ⟨(.l 3), .yes, .mv (.t 30)⟩])
 (.seq (.reg [.mt 31 (.l 0),
  .g ⟨(.t 32), .yes, .cs 47 p47 [(.t 31), (.c (.d (.flat (Value.string ⟨#[44]⟩))))]⟩,
  .g ⟨(.l 33), .yes, .not (.t 32)⟩])
 (.cond (.l 33) (.exit 0)
 .skip))))))))
 (.seq (.reg [.mt 34 (.l 0),
  .g ⟨(.t 35), .yes, .cs 45 p45 [(.t 34), (.c (.d (.flat (Value.string ⟨#[41]⟩))))]⟩])
 (.seq (.reg [.mt 36 (.l 3),
  .g ⟨(.l 2), .yes, .mv (.t 36)⟩])
 .ret)))))), [(.t 2)]⟩
theorem x77E : EntryOK Tryz.prog mTabs 77 (.fn x77) := ⟨fnT rfl, Tryz.f77, plans 77, keeps 77, 1, Tryz.func77, rfl, by kernel_rfl, by kernel_rfl⟩
def x78 : XF := ⟨[0, 1, 4, 5, 8, 13, 30], [0, 1], (.seq (.reg [.g ⟨(.l 4), .yes, .mv (.c (.tight [] 0))⟩])
 (.seq (.seq (.reg [.mt 6 (.l 0),
  .g ⟨(.t 7), .yes, .cs 48 p48 [(.t 6), (.c (.d (.flat (Value.string ⟨#[123]⟩))))]⟩,
  .g ⟨(.l 8), .yes, .not (.t 7)⟩])
 (.cond (.l 8) (.seq (.reg [.mt 9 (.l 0),
  .g ⟨(.t 10), .yes, .cs 72 p72 [(.t 9), (.c (.d (.flat (Value.int IntKind.i64 3))))]⟩])
 (.seq (.reg [.g ⟨(.l 4), .yes, .mv (.c (.tight [] 0))⟩])
 .ret))
 .skip))
 (.seq (.seq (.reg [.mt 11 (.l 0),
  .g ⟨(.t 12), .yes, .cs 104 p104 [(.t 11)]⟩,
  .g ⟨(.l 13), .yes, .not (.t 12)⟩])
 (.cond (.l 13) (.seq (.reg [.g ⟨(.l 4), .yes, .mv (.c (.tight [] 0))⟩])
 .ret)
 .skip))
 (.seq (.reg [.mt 14 (.l 0),
  .g ⟨(.t 15), .yes, .nc (.t 14)⟩,
  .g ⟨(.t 16), .yes, .fa 2 (.t 15)⟩,
  .g ⟨(.t 17), .yes, .ld false 1 (.t 16)⟩,
  .g ⟨(.t 18), .yes, .bin BinOp.add (.t 17) (.c (.d (.flat (Value.int IntKind.i64 1)))) (Op.binOp BinOp.add 3 (Operand.tmp 17) (Operand.const (Value.int IntKind.i64 1)) 3)⟩,
  .g ⟨(.t 19), .yes, .nc (.t 14)⟩,
  .g ⟨(.t 20), .yes, .fa 2 (.t 19)⟩,
  .g ⟨.no, .yes, .st 1 (.t 20) (.t 18)⟩])
 (.seq (.reg [.g ⟨(.l 5), .yes, .mv (.c (.tight [] 0))⟩])
 (.seq (.block 0 (.loop (some [0, 1, 5]) (.seq (.seq (.reg [.mt 21 (.l 0),
  .g ⟨(.t 22), .yes, .nc (.t 21)⟩,
  .g ⟨(.t 23), .yes, .fa 3 (.t 22)⟩,
  .g ⟨(.t 24), .yes, .ld false 1 (.t 23)⟩,
  .g ⟨(.t 25), .yes, .bin BinOp.eql (.t 24) (.c (.d (.flat (Value.int IntKind.i64 0)))) (Op.binOp BinOp.eql 3 (Operand.tmp 24) (Operand.const (Value.int IntKind.i64 0)) 3)⟩,
  .mt 26 (.t 25),
  .g ⟨(.t 27), (.g (.t 26) true), .mv (.l 0)⟩,
  .g ⟨(.t 28), (.g (.t 26) true), .cs 48 p48 [(.t 27), (.c (.d (.flat (Value.string ⟨#[125]⟩))))]⟩,
  .g ⟨(.t 29), (.g (.t 26) true), .not (.t 28)⟩,
  .g ⟨(.l 30), .yes, .pick (.t 26) (.t 29) (.c (.d (.flat (Value.bool false))))⟩])
 (.cond (.l 30) .skip
 (.exit 0)))
 (.block 1 (.reg [.mt 31 (.l 5),
  .mt 32 (.l 0),
  .mt 33 (.l 1),
  .mt 34 (.t 33),
  .g ⟨(.t 35), (.g (.t 34) true), .mv (.l 5)⟩,
  .g ⟨(.t 36), (.g (.t 34) true), .lenr (.t 35)⟩,
  .g ⟨(.t 37), (.g (.t 34) true), .bin BinOp.eql (.t 36) (.c (.d (.flat (Value.int IntKind.i64 0)))) (Op.binOp BinOp.eql 3 (Operand.tmp 36) (Operand.const (Value.int IntKind.i64 0)) 3)⟩,
  .g ⟨(.t 38), .yes, .pick (.t 34) (.t 37) (.c (.d (.flat (Value.bool false))))⟩,
  .g ⟨(.t 39), .yes, .cs 105 p105 [(.t 32), (.t 38)]⟩,
  .g ⟨(.t 40), .yes, .gen (Op.buildSlice 96 1 #[(0, (Operand.tmp 39))])⟩,
  .g ⟨(.t 41), .yes, .gen (Op.call { callee := (Callee.builtin Builtin.append), args := #[(Operand.tmp 31), (Operand.tmp 40)], argTypes := #[96, 96] })⟩,
  .g ⟨(.l 5), .yes, .mv (.t 41)⟩])))))
 (.seq (.reg [.mt 42 (.l 0),
  .g ⟨(.t 43), .yes, .cs 45 p45 [(.t 42), (.c (.d (.flat (Value.string ⟨#[125]⟩))))]⟩])
 (.seq (.reg [.mt 44 (.l 0),
  .g ⟨(.t 45), .yes, .nc (.t 44)⟩,
  .g ⟨(.t 46), .yes, .fa 5 (.t 45)⟩,
  .g ⟨(.t 47), .yes, .ld false 1 (.t 46)⟩,
  .g ⟨(.t 48), .yes, .bin BinOp.sub (.t 47) (.c (.d (.flat (Value.int IntKind.i64 1)))) (Op.binOp BinOp.sub 3 (Operand.tmp 47) (Operand.const (Value.int IntKind.i64 1)) 3)⟩,
  .g ⟨(.t 49), .yes, .nc (.t 44)⟩,
  .g ⟨(.t 50), .yes, .fa 5 (.t 49)⟩,
  .g ⟨.no, .yes, .st 1 (.t 50) (.t 48)⟩])
 (.seq (.reg [.mt 51 (.l 5),
  .g ⟨(.l 4), .yes, .mv (.t 51)⟩])
 .ret))))))))), [(.t 4)]⟩
theorem x78E : EntryOK Tryz.prog mTabs 78 (.fn x78) := ⟨fnT rfl, Tryz.f78, plans 78, keeps 78, 2, Tryz.func78, rfl, by kernel_rfl, by kernel_rfl⟩
def x79 : XF := ⟨[0, 2, 5], [0], (.seq (.reg [.g ⟨(.l 2), .yes, .mv (.c (.d (.flat (Value.string ⟨#[]⟩))))⟩])
 (.seq (.seq (.reg [.mt 3 (.l 0),
  .g ⟨(.t 4), .yes, .cs 106 p106 [(.t 3), (.c (.d (.flat (Value.int IntKind.i64 0))))]⟩,
  .g ⟨(.l 5), .yes, .not (.t 4)⟩])
 (.cond (.l 5) (.seq (.reg [.mt 6 (.l 0),
  .g ⟨(.t 7), .yes, .cs 72 p72 [(.t 6), (.c (.d (.flat (Value.int IntKind.i64 3))))]⟩])
 (.seq (.reg [.g ⟨(.l 2), .yes, .mv (.c (.d (.flat (Value.string ⟨#[]⟩))))⟩])
 .ret))
 .skip))
 (.seq (.reg [.mt 8 (.l 0),
  .g ⟨(.t 9), .yes, .cs 74 p74 [(.t 8)]⟩,
  .g ⟨(.l 2), .yes, .mv (.t 9)⟩])
 .ret))), [(.t 2)]⟩
theorem x79E : EntryOK Tryz.prog mTabs 79 (.fn x79) := ⟨fnT rfl, Tryz.f79, plans 79, keeps 79, 1, Tryz.func79, rfl, by kernel_rfl, by kernel_rfl⟩
def x80 : XF := ⟨[0, 2, 5], [0], (.seq (.reg [.g ⟨(.l 2), .yes, .mv (.c (.d (.flat (Value.string ⟨#[]⟩))))⟩])
 (.seq (.seq (.reg [.mt 3 (.l 0),
  .g ⟨(.t 4), .yes, .cs 107 p107 [(.t 3), (.c (.d (.flat (Value.int IntKind.i64 0))))]⟩,
  .g ⟨(.l 5), .yes, .not (.t 4)⟩])
 (.cond (.l 5) (.seq (.reg [.mt 6 (.l 0),
  .g ⟨(.t 7), .yes, .cs 72 p72 [(.t 6), (.c (.d (.flat (Value.int IntKind.i64 3))))]⟩])
 (.seq (.reg [.g ⟨(.l 2), .yes, .mv (.c (.d (.flat (Value.string ⟨#[]⟩))))⟩])
 .ret))
 .skip))
 (.seq (.reg [.mt 8 (.l 0),
  .g ⟨(.t 9), .yes, .cs 74 p74 [(.t 8)]⟩,
  .g ⟨(.l 2), .yes, .mv (.t 9)⟩])
 .ret))), [(.t 2)]⟩
theorem x80E : EntryOK Tryz.prog mTabs 80 (.fn x80) := ⟨fnT rfl, Tryz.f80, plans 80, keeps 80, 1, Tryz.func80, rfl, by kernel_rfl, by kernel_rfl⟩
def x81 : XF := ⟨[0, 2], [0], (.seq (.reg [.g ⟨(.l 2), .yes, .gen (Op.alloc 124)⟩])
 (.seq (.reg [.mt 3 (.l 0),
  .g ⟨(.t 4), .yes, .cs 108 p108 [(.t 3), (.c (.d (.flat (Value.int IntKind.i64 1))))]⟩,
  .g ⟨.no, .yes, .st 8 (.l 2) (.t 4)⟩])
 .ret)), [(.c 2 true 8)]⟩
theorem x81E : EntryOK Tryz.prog mTabs 81 (.fn x81) := ⟨fnT rfl, Tryz.f81, plans 81, keeps 81, 1, Tryz.func81, rfl, by kernel_rfl, by kernel_rfl⟩
end Go.Proofs.YtinffhimfoicdaaGreat

/- Functions as the machine takes them. Printed by wip/tool/gen_mach.py. No conditions. -/
namespace Go.Proofs.YtinffhimfoicdaaGreat
open Go Go.Proofs.YtinffhimfoicdaaGreat.Calc
set_option maxRecDepth 100000
set_option linter.unusedVariables false
def x82 : XF := ⟨[0, 1, 2, 3, 4, 5, 6, 7, 12, 26, 43], [0], (.seq (.reg [.g ⟨(.l 1), .yes, .gen (Op.box 26 (Operand.tmp 0))⟩,
  .g ⟨(.l 2), .yes, .mv (.c (.d (.flat (Value.int IntKind.i64 0))))⟩])
 (.seq (.reg [.g ⟨(.l 3), .yes, .mv (.c (.d (.flat (Value.int IntKind.i64 0))))⟩])
 (.seq (.seq (.reg [.g ⟨(.l 4), .yes, .mv (.c (.d (.flat (Value.int IntKind.i64 0))))⟩])
 (.block 0 (.loop (some [1, 3, 4]) (.seq (.seq (.reg [.mt 8 (.l 4),
  .g ⟨(.t 9), .yes, .fa 0 (.l 1)⟩,
  .g ⟨(.t 10), .yes, .ld false 1 (.t 9)⟩,
  .g ⟨(.t 11), .yes, .lenr (.t 10)⟩,
  .g ⟨(.l 12), .yes, .bin BinOp.lss (.t 8) (.t 11) (Op.binOp BinOp.lss 3 (Operand.tmp 8) (Operand.tmp 11) 3)⟩])
 (.cond (.l 12) .skip
 (.exit 0)))
 (.seq (.block 1 (.seq (.reg [.g ⟨(.t 15), .yes, .fa 0 (.l 1)⟩,
  .g ⟨(.t 16), .yes, .ld false 1 (.t 15)⟩,
  .mt 17 (.l 4),
  .g ⟨(.t 18), .yes, .ia 4 (.t 16) (.t 17)⟩,
  .g ⟨(.t 19), .yes, .ld true 4 (.t 18)⟩,
  .g ⟨(.l 5), .yes, .gen (Op.alloc 37)⟩,
  .g ⟨.no, .yes, .st 4 (.l 5) (.t 19)⟩])
 (.seq (.reg [.mt 20 (.l 3),
  .g ⟨(.t 21), .yes, .bin BinOp.add (.t 20) (.c (.d (.flat (Value.int IntKind.i64 1)))) (Op.binOp BinOp.add 3 (Operand.tmp 20) (Operand.const (Value.int IntKind.i64 1)) 3)⟩,
  .g ⟨(.l 3), .yes, .mv (.t 21)⟩])
 (.seq (.seq (.reg [.g ⟨(.l 6), .yes, .mv (.c (.d (.flat (Value.int IntKind.i64 0))))⟩])
 (.block 2 (.loop (some [1, 3, 4, 5, 6]) (.seq (.seq (.reg [.mt 22 (.l 6),
  .g ⟨(.t 23), .yes, .fa 2 (.l 5)⟩,
  .g ⟨(.t 24), .yes, .ld false 1 (.t 23)⟩,
  .g ⟨(.t 25), .yes, .lenr (.t 24)⟩,
  .g ⟨(.l 26), .yes, .bin BinOp.lss (.t 22) (.t 25) (Op.binOp BinOp.lss 3 (Operand.tmp 22) (Operand.tmp 25) 3)⟩])
 (.cond (.l 26) .skip
 (.exit 2)))
 (.seq (.block 3 (.reg [.mt 29 (.l 3),
  .g ⟨(.t 30), .yes, .bin BinOp.add (.t 29) (.c (.d (.flat (Value.int IntKind.i64 1)))) (Op.binOp BinOp.add 3 (Operand.tmp 29) (Operand.const (Value.int IntKind.i64 1)) 3)⟩,
  .g ⟨(.t 31), .yes, .fa 2 (.l 5)⟩,
  .g ⟨(.t 32), .yes, .ld false 1 (.t 31)⟩,
  .mt 33 (.l 6),
  .g ⟨(.t 34), .yes, .ia 4 (.t 32) (.t 33)⟩,
  .g ⟨(.t 35), .yes, .fa 3 (.t 34)⟩,
  .g ⟨(.t 36), .yes, .ld false 1 (.t 35)⟩,
  .g ⟨(.t 37), .yes, .cs 109 p109 [(.t 36)]⟩,
  .g ⟨(.t 38), .yes, .bin BinOp.add (.t 30) (.t 37) (Op.binOp BinOp.add 3 (Operand.tmp 30) (Operand.tmp 37) 3)⟩,
  .g ⟨(.l 3), .yes, .mv (.t 38)⟩]))
 (.reg [.mt 27 (.l 6),
  .g ⟨(.t 28), .yes, .bin BinOp.add (.t 27) (.c (.d (.flat (Value.int IntKind.i64 1)))) (Op.binOp BinOp.add 3 (Operand.tmp 27) (Operand.const (Value.int IntKind.i64 1)) 3)⟩,
  .g ⟨(.l 6), .yes, .mv (.t 28)⟩]))))))
 (.seq (.reg [.g ⟨(.l 7), .yes, .mv (.c (.d (.flat (Value.int IntKind.i64 0))))⟩])
 (.block 4 (.loop (some [1, 3, 4, 5, 7]) (.seq (.seq (.reg [.mt 39 (.l 7),
  .g ⟨(.t 40), .yes, .fa 3 (.l 5)⟩,
  .g ⟨(.t 41), .yes, .ld false 1 (.t 40)⟩,
  .g ⟨(.t 42), .yes, .lenr (.t 41)⟩,
  .g ⟨(.l 43), .yes, .bin BinOp.lss (.t 39) (.t 42) (Op.binOp BinOp.lss 3 (Operand.tmp 39) (Operand.tmp 42) 3)⟩])
 (.cond (.l 43) .skip
 (.exit 4)))
 (.seq (.block 5 (.reg [.mt 46 (.l 3),
  .g ⟨(.t 47), .yes, .bin BinOp.add (.t 46) (.c (.d (.flat (Value.int IntKind.i64 1)))) (Op.binOp BinOp.add 3 (Operand.tmp 46) (Operand.const (Value.int IntKind.i64 1)) 3)⟩,
  .g ⟨(.t 48), .yes, .fa 3 (.l 5)⟩,
  .g ⟨(.t 49), .yes, .ld false 1 (.t 48)⟩,
  .mt 50 (.l 7),
  .g ⟨(.t 51), .yes, .ia 6 (.t 49) (.t 50)⟩,
  .g ⟨(.t 52), .yes, .fa 5 (.t 51)⟩,
  .g ⟨(.t 53), .yes, .ld false 1 (.t 52)⟩,
  .g ⟨(.t 54), .yes, .cs 110 p110 [(.t 53)]⟩,
  .g ⟨(.t 55), .yes, .bin BinOp.add (.t 47) (.t 54) (Op.binOp BinOp.add 3 (Operand.tmp 47) (Operand.tmp 54) 3)⟩,
  .g ⟨(.l 3), .yes, .mv (.t 55)⟩]))
 (.reg [.mt 44 (.l 7),
  .g ⟨(.t 45), .yes, .bin BinOp.add (.t 44) (.c (.d (.flat (Value.int IntKind.i64 1)))) (Op.binOp BinOp.add 3 (Operand.tmp 44) (Operand.const (Value.int IntKind.i64 1)) 3)⟩,
  .g ⟨(.l 7), .yes, .mv (.t 45)⟩]))))))))))
 (.reg [.mt 13 (.l 4),
  .g ⟨(.t 14), .yes, .bin BinOp.add (.t 13) (.c (.d (.flat (Value.int IntKind.i64 1)))) (Op.binOp BinOp.add 3 (Operand.tmp 13) (Operand.const (Value.int IntKind.i64 1)) 3)⟩,
  .g ⟨(.l 4), .yes, .mv (.t 14)⟩]))))))
 (.seq (.reg [.mt 56 (.l 3),
  .g ⟨(.l 2), .yes, .mv (.t 56)⟩])
 .ret)))), [(.t 2)]⟩
theorem x82E : EntryOK Tryz.prog mTabs 82 (.fn x82) := ⟨fnT rfl, Tryz.f82, plans 82, keeps 82, 1, Tryz.func82, rfl, by kernel_rfl, by kernel_rfl⟩
def x83 : XF := ⟨[0, 2], [0], (.seq (.reg [.g ⟨(.l 2), .yes, .mv (.c (.d (.flat (Value.bool false))))⟩])
 (.seq (.reg [.mt 3 (.l 0),
  .g ⟨(.t 4), .yes, .cs 111 p111 [(.t 3), (.c (.d (.flat (Value.int IntKind.i64 20))))]⟩,
  .mt 5 (.t 4),
  .g ⟨(.t 6), (.g (.t 5) true), .mv (.l 0)⟩,
  .g ⟨(.t 7), (.g (.t 5) true), .idx (.t 6) (.c (.d (.flat (Value.int IntKind.i64 0)))) (Op.index 9 (Operand.tmp 6) (Operand.const (Value.int IntKind.i64 0)))⟩,
  .g ⟨(.t 8), (.g (.t 5) true), .gen (Op.convert 5 21 (Operand.tmp 7))⟩,
  .g ⟨(.t 9), (.g (.t 5) true), .cs 112 p112 [(.t 8)]⟩,
  .g ⟨(.t 10), .yes, .pick (.t 5) (.t 9) (.c (.d (.flat (Value.bool false))))⟩,
  .mt 11 (.t 10),
  .g ⟨(.t 12), (.g (.t 11) true), .mv (.l 0)⟩,
  .g ⟨(.t 13), (.g (.t 11) true), .bin BinOp.neq (.t 12) (.c (.d (.flat (Value.string ⟨#[83, 116, 114, 105, 110, 103]⟩)))) (Op.binOp BinOp.neq 9 (Operand.tmp 12) (Operand.const (Value.string ⟨#[83, 116, 114, 105, 110, 103]⟩)) 9)⟩,
  .g ⟨(.t 14), .yes, .pick (.t 11) (.t 13) (.c (.d (.flat (Value.bool false))))⟩,
  .g ⟨(.l 2), .yes, .mv (.t 14)⟩])
 .ret)), [(.t 2)]⟩
theorem x83E : EntryOK Tryz.prog mTabs 83 (.fn x83) := ⟨fnT rfl, Tryz.f83, plans 83, keeps 83, 1, Tryz.func83, rfl, by kernel_rfl, by kernel_rfl⟩
def x84 : XF := ⟨[0, 2], [0], (.seq (.reg [.g ⟨(.l 2), .yes, .mv (.c (.d (.flat (Value.bool false))))⟩])
 (.seq (.reg [.mt 3 (.l 0),
  .g ⟨(.t 4), .yes, .bin BinOp.eql (.t 3) (.c (.d (.flat (Value.string ⟨#[105, 110, 116]⟩)))) (Op.binOp BinOp.eql 9 (Operand.tmp 3) (Operand.const (Value.string ⟨#[105, 110, 116]⟩)) 9)⟩,
  .mt 5 (.t 4),
  .g ⟨(.t 6), (.g (.t 5) false), .mv (.l 0)⟩,
  .g ⟨(.t 7), (.g (.t 5) false), .bin BinOp.eql (.t 6) (.c (.d (.flat (Value.string ⟨#[98, 111, 111, 108, 101, 97, 110]⟩)))) (Op.binOp BinOp.eql 9 (Operand.tmp 6) (Operand.const (Value.string ⟨#[98, 111, 111, 108, 101, 97, 110]⟩)) 9)⟩,
  .g ⟨(.t 8), .yes, .pick (.t 5) (.c (.d (.flat (Value.bool true)))) (.t 7)⟩,
  .mt 9 (.t 8),
  .g ⟨(.t 10), (.g (.t 9) false), .mv (.l 0)⟩,
  .g ⟨(.t 11), (.g (.t 9) false), .bin BinOp.eql (.t 10) (.c (.d (.flat (Value.string ⟨#[83, 116, 114, 105, 110, 103]⟩)))) (Op.binOp BinOp.eql 9 (Operand.tmp 10) (Operand.const (Value.string ⟨#[83, 116, 114, 105, 110, 103]⟩)) 9)⟩,
  .g ⟨(.t 12), .yes, .pick (.t 9) (.c (.d (.flat (Value.bool true)))) (.t 11)⟩,
  .mt 13 (.t 12),
  .g ⟨(.t 14), (.g (.t 13) false), .mv (.l 0)⟩,
  .g ⟨(.t 15), (.g (.t 13) false), .cs 83 p83 [(.t 14)]⟩,
  .g ⟨(.t 16), .yes, .pick (.t 13) (.c (.d (.flat (Value.bool true)))) (.t 15)⟩,
  .g ⟨(.l 2), .yes, .mv (.t 16)⟩])
 .ret)), [(.t 2)]⟩
theorem x84E : EntryOK Tryz.prog mTabs 84 (.fn x84) := ⟨fnT rfl, Tryz.f84, plans 84, keeps 84, 1, Tryz.func84, rfl, by kernel_rfl, by kernel_rfl⟩
def x85 : XF := ⟨[0, 2], [0], (.seq (.reg [.g ⟨(.l 2), .yes, .mv (.c (.d (.flat (Value.bool false))))⟩])
 (.seq (.reg [.mt 3 (.l 0),
  .g ⟨(.t 4), .yes, .cs 111 p111 [(.t 3), (.c (.d (.flat (Value.int IntKind.i64 20))))]⟩,
  .mt 5 (.t 4),
  .g ⟨(.t 6), (.g (.t 5) true), .mv (.l 0)⟩,
  .g ⟨(.t 7), (.g (.t 5) true), .idx (.t 6) (.c (.d (.flat (Value.int IntKind.i64 0)))) (Op.index 9 (Operand.tmp 6) (Operand.const (Value.int IntKind.i64 0)))⟩,
  .g ⟨(.t 8), (.g (.t 5) true), .gen (Op.convert 5 21 (Operand.tmp 7))⟩,
  .g ⟨(.t 9), (.g (.t 5) true), .cs 113 p113 [(.t 8)]⟩,
  .g ⟨(.t 10), .yes, .pick (.t 5) (.t 9) (.c (.d (.flat (Value.bool false))))⟩,
  .mt 11 (.t 10),
  .g ⟨(.t 12), (.g (.t 11) true), .mv (.l 0)⟩,
  .g ⟨(.t 13), (.g (.t 11) true), .cs 114 p114 [(.t 12)]⟩,
  .g ⟨(.t 14), (.g (.t 11) true), .not (.t 13)⟩,
  .g ⟨(.t 15), .yes, .pick (.t 11) (.t 14) (.c (.d (.flat (Value.bool false))))⟩,
  .g ⟨(.l 2), .yes, .mv (.t 15)⟩])
 .ret)), [(.t 2)]⟩
theorem x85E : EntryOK Tryz.prog mTabs 85 (.fn x85) := ⟨fnT rfl, Tryz.f85, plans 85, keeps 85, 1, Tryz.func85, rfl, by kernel_rfl, by kernel_rfl⟩
def x86 : XF := ⟨[0, 1, 2, 4, 5, 6, 7, 8, 9, 10, 12, 13, 18, 28, 41, 42, 45, 51, 56, 64, 73, 82, 93, 101, 107, 112, 153, 179, 184, 195], [0, 1], (.seq (.reg [.g ⟨(.l 2), .yes, .gen (Op.box 124 (Operand.tmp 0))⟩,
  .g ⟨(.l 4), .yes, .mv (.c (.d (.flat (Value.bool false))))⟩])
 (.seq (.reg [.g ⟨(.l 5), .yes, .mv (.c (.d (.flat (Value.bool false))))⟩,
  .g ⟨(.l 6), .yes, .mv (.c (.d (.flat (Value.bool false))))⟩,
  .g ⟨(.l 7), .yes, .mv (.c (.d (.flat (Value.bool false))))⟩,
  .g ⟨(.l 8), .yes, .mv (.c (.d (.flat (Value.bool false))))⟩,
  .g ⟨(.l 9), .yes, .mv (.c (.d (.flat (Value.int IntKind.i64 0))))⟩])
 (.seq (.seq (.reg [.g ⟨(.t 11), .yes, .fa 0 (.l 2)⟩,
  .g ⟨(.l 12), .yes, .ld false 1 (.t 11)⟩])
 (.block 0 (.seq (.reg [.g ⟨(.t 14), .yes, .bin BinOp.eql (.l 12) (.c (.d (.flat (Value.int IntKind.i64 1)))) (Op.binOp BinOp.eql 3 (Operand.tmp 12) (Operand.const (Value.int IntKind.i64 1)) 3)⟩,
  .g ⟨(.l 13), .yes, .mv (.t 14)⟩])
 (.cond (.l 13) (.reg [.g ⟨(.t 15), .yes, .fa 1 (.l 2)⟩,
  .g ⟨(.t 16), .yes, .ld false 1 (.t 15)⟩,
  .g ⟨(.t 17), .yes, .bin BinOp.geq (.t 16) (.c (.d (.flat (Value.int IntKind.i32 0)))) (Op.binOp BinOp.geq 21 (Operand.tmp 16) (Operand.const (Value.int IntKind.i32 0)) 21)⟩,
  .g ⟨(.l 5), .yes, .mv (.t 17)⟩])
 (.seq (.reg [.g ⟨(.t 19), .yes, .bin BinOp.eql (.l 12) (.c (.d (.flat (Value.int IntKind.i64 2)))) (Op.binOp BinOp.eql 3 (Operand.tmp 12) (Operand.const (Value.int IntKind.i64 2)) 3)⟩,
  .g ⟨(.l 18), .yes, .mv (.t 19)⟩])
 (.cond (.l 18) (.reg [.g ⟨(.t 20), .yes, .fa 1 (.l 2)⟩,
  .g ⟨(.t 21), .yes, .ld false 1 (.t 20)⟩,
  .g ⟨(.t 22), .yes, .bin BinOp.eql (.t 21) (.c (.d (.flat (Value.int IntKind.i32 0)))) (Op.binOp BinOp.eql 21 (Operand.tmp 21) (Operand.const (Value.int IntKind.i32 0)) 21)⟩,
  .mt 23 (.t 22),
  .g ⟨(.t 24), (.g (.t 23) false), .fa 1 (.l 2)⟩,
  .g ⟨(.t 25), (.g (.t 23) false), .ld false 1 (.t 24)⟩,
  .g ⟨(.t 26), (.g (.t 23) false), .bin BinOp.eql (.t 25) (.c (.d (.flat (Value.int IntKind.i32 1)))) (Op.binOp BinOp.eql 21 (Operand.tmp 25) (Operand.const (Value.int IntKind.i32 1)) 21)⟩,
  .g ⟨(.t 27), .yes, .pick (.t 23) (.c (.d (.flat (Value.bool true)))) (.t 26)⟩,
  .g ⟨(.l 5), .yes, .mv (.t 27)⟩])
 (.seq (.reg [.g ⟨(.t 29), .yes, .bin BinOp.eql (.l 12) (.c (.d (.flat (Value.int IntKind.i64 3)))) (Op.binOp BinOp.eql 3 (Operand.tmp 12) (Operand.const (Value.int IntKind.i64 3)) 3)⟩,
  .g ⟨(.l 28), .yes, .mv (.t 29)⟩])
 (.cond (.l 28) (.seq (.reg [.g ⟨(.t 30), .yes, .fa 2 (.l 2)⟩,
  .g ⟨(.t 31), .yes, .ld false 1 (.t 30)⟩,
  .g ⟨(.t 32), .yes, .lens (.t 31)⟩,
  .g ⟨(.t 33), .yes, .bin BinOp.leq (.t 32) (.c (.d (.flat (Value.int IntKind.i64 1000)))) (Op.binOp BinOp.leq 3 (Operand.tmp 32) (Operand.const (Value.int IntKind.i64 1000)) 3)⟩,
  .mt 34 (.t 33),
  .g ⟨(.t 35), (.g (.t 34) true), .fa 2 (.l 2)⟩,
  .g ⟨(.t 36), (.g (.t 34) true), .ld false 1 (.t 35)⟩,
  .g ⟨(.t 37), (.g (.t 34) true), .cs 70 p70 [(.t 36)]⟩,
  .g ⟨(.t 38), (.g (.t 34) true), .bin BinOp.lss (.t 37) (.c (.d (.flat (Value.int IntKind.i64 0)))) (Op.binOp BinOp.lss 3 (Operand.tmp 37) (Operand.const (Value.int IntKind.i64 0)) 3)⟩,
  .g ⟨(.t 39), .yes, .pick (.t 34) (.t 38) (.c (.d (.flat (Value.bool false))))⟩,
  .g ⟨(.l 6), .yes, .mv (.t 39)⟩])
 (.seq (.reg [.mt 40 (.l 6),
  .g ⟨(.l 41), .yes, .not (.t 40)⟩])
 (.cond (.l 41) (.seq (.reg [.g ⟨(.l 4), .yes, .mv (.c (.d (.flat (Value.bool false))))⟩])
 .ret)
 .skip)))
 (.seq (.seq (.reg [.g ⟨(.t 43), .yes, .bin BinOp.eql (.l 12) (.c (.d (.flat (Value.int IntKind.i64 4)))) (Op.binOp BinOp.eql 3 (Operand.tmp 12) (Operand.const (Value.int IntKind.i64 4)) 3)⟩,
  .g ⟨(.l 42), .yes, .mv (.t 43)⟩])
 (.cond (.l 42) .skip
 (.reg [.g ⟨(.t 44), .yes, .bin BinOp.eql (.l 12) (.c (.d (.flat (Value.int IntKind.i64 5)))) (Op.binOp BinOp.eql 3 (Operand.tmp 12) (Operand.const (Value.int IntKind.i64 5)) 3)⟩,
  .g ⟨(.l 42), .yes, .mv (.t 44)⟩])))
 (.cond (.l 42) .skip
 (.seq (.seq (.reg [.g ⟨(.t 46), .yes, .bin BinOp.eql (.l 12) (.c (.d (.flat (Value.int IntKind.i64 6)))) (Op.binOp BinOp.eql 3 (Operand.tmp 12) (Operand.const (Value.int IntKind.i64 6)) 3)⟩,
  .g ⟨(.l 45), .yes, .mv (.t 46)⟩])
 (.cond (.l 45) .skip
 (.reg [.g ⟨(.t 47), .yes, .bin BinOp.eql (.l 12) (.c (.d (.flat (Value.int IntKind.i64 8)))) (Op.binOp BinOp.eql 3 (Operand.tmp 12) (Operand.const (Value.int IntKind.i64 8)) 3)⟩,
  .g ⟨(.l 45), .yes, .mv (.t 47)⟩])))
 (.cond (.l 45) (.reg [.g ⟨(.t 48), .yes, .fa 3 (.l 2)⟩,
  .g ⟨(.t 49), .yes, .ld false 1 (.t 48)⟩,
  .g ⟨(.t 50), .yes, .cs 85 p85 [(.t 49)]⟩,
  .g ⟨(.l 7), .yes, .mv (.t 50)⟩])
 (.seq (.reg [.g ⟨(.t 52), .yes, .bin BinOp.eql (.l 12) (.c (.d (.flat (Value.int IntKind.i64 7)))) (Op.binOp BinOp.eql 3 (Operand.tmp 12) (Operand.const (Value.int IntKind.i64 7)) 3)⟩,
  .g ⟨(.l 51), .yes, .mv (.t 52)⟩])
 (.cond (.l 51) (.reg [.g ⟨(.t 53), .yes, .fa 3 (.l 2)⟩,
  .g ⟨(.t 54), .yes, .ld false 1 (.t 53)⟩,
  .g ⟨(.t 55), .yes, .cs 85 p85 [(.t 54)]⟩,
  .g ⟨(.l 7), .yes, .mv (.t 55)⟩,
  .g ⟨(.l 9), .yes, .mv (.c (.d (.flat (Value.int IntKind.i64 1))))⟩])
 (.seq (.reg [.g ⟨(.t 57), .yes, .bin BinOp.eql (.l 12) (.c (.d (.flat (Value.int IntKind.i64 9)))) (Op.binOp BinOp.eql 3 (Operand.tmp 12) (Operand.const (Value.int IntKind.i64 9)) 3)⟩,
  .g ⟨(.l 56), .yes, .mv (.t 57)⟩])
 (.cond (.l 56) (.drw [] [.st ⟨true, false, ⟨(.t 58), .yes, .fa 3 (.l 2)⟩⟩,
  .st ⟨true, false, ⟨(.t 59), .yes, .ld false 1 (.t 58)⟩⟩,
  .st ⟨true, false, ⟨(.t 61), .yes, .fa 4 (.l 2)⟩⟩,
  .st ⟨true, false, ⟨(.t 62), .yes, .ld false 1 (.t 61)⟩⟩,
  .st ⟨false, false, ⟨(.t 60), .yes, .cs 85 p85 [(.t 59)]⟩⟩,
  .st ⟨false, true, ⟨(.t 63), .yes, .cs 83 p83 [(.t 62)]⟩⟩,
  .st ⟨true, false, ⟨(.l 7), .yes, .mv (.t 60)⟩⟩,
  .st ⟨true, false, ⟨(.l 8), .yes, .mv (.t 63)⟩⟩])
 (.seq (.reg [.g ⟨(.t 65), .yes, .bin BinOp.eql (.l 12) (.c (.d (.flat (Value.int IntKind.i64 10)))) (Op.binOp BinOp.eql 3 (Operand.tmp 12) (Operand.const (Value.int IntKind.i64 10)) 3)⟩,
  .g ⟨(.l 64), .yes, .mv (.t 65)⟩])
 (.cond (.l 64) (.drw [] [.st ⟨true, false, ⟨(.t 66), .yes, .fa 3 (.l 2)⟩⟩,
  .st ⟨true, false, ⟨(.t 67), .yes, .ld false 1 (.t 66)⟩⟩,
  .st ⟨true, false, ⟨(.t 69), .yes, .fa 5 (.l 2)⟩⟩,
  .st ⟨true, false, ⟨(.t 70), .yes, .ld false 1 (.t 69)⟩⟩,
  .st ⟨true, false, ⟨(.t 71), .yes, .lenr (.t 70)⟩⟩,
  .st ⟨true, false, ⟨(.t 72), .yes, .gen (Op.call { callee := (Callee.builtin Builtin.max), args := #[(Operand.const (Value.int IntKind.i64 1)), (Operand.tmp 71)], argTypes := #[3, 3] })⟩⟩,
  .st ⟨false, false, ⟨(.t 68), .yes, .cs 85 p85 [(.t 67)]⟩⟩,
  .st ⟨true, false, ⟨(.l 7), .yes, .mv (.t 68)⟩⟩,
  .st ⟨true, false, ⟨(.l 9), .yes, .mv (.t 72)⟩⟩])
 (.seq (.seq (.reg [.g ⟨(.t 74), .yes, .bin BinOp.eql (.l 12) (.c (.d (.flat (Value.int IntKind.i64 11)))) (Op.binOp BinOp.eql 3 (Operand.tmp 12) (Operand.const (Value.int IntKind.i64 11)) 3)⟩,
  .g ⟨(.l 73), .yes, .mv (.t 74)⟩])
 (.cond (.l 73) .skip
 (.reg [.g ⟨(.t 75), .yes, .bin BinOp.eql (.l 12) (.c (.d (.flat (Value.int IntKind.i64 12)))) (Op.binOp BinOp.eql 3 (Operand.tmp 12) (Operand.const (Value.int IntKind.i64 12)) 3)⟩,
  .g ⟨(.l 73), .yes, .mv (.t 75)⟩])))
 (.cond (.l 73) (.drw [] [.st ⟨true, false, ⟨(.t 76), .yes, .fa 3 (.l 2)⟩⟩,
  .st ⟨true, false, ⟨(.t 77), .yes, .ld false 1 (.t 76)⟩⟩,
  .st ⟨true, false, ⟨(.t 79), .yes, .fa 5 (.l 2)⟩⟩,
  .st ⟨true, false, ⟨(.t 80), .yes, .ld false 1 (.t 79)⟩⟩,
  .st ⟨true, false, ⟨(.t 81), .yes, .lenr (.t 80)⟩⟩,
  .st ⟨false, false, ⟨(.t 78), .yes, .cs 85 p85 [(.t 77)]⟩⟩,
  .st ⟨true, false, ⟨(.l 7), .yes, .mv (.t 78)⟩⟩,
  .st ⟨true, false, ⟨(.l 9), .yes, .mv (.t 81)⟩⟩])
 (.seq (.reg [.g ⟨(.t 83), .yes, .bin BinOp.eql (.l 12) (.c (.d (.flat (Value.int IntKind.i64 13)))) (Op.binOp BinOp.eql 3 (Operand.tmp 12) (Operand.const (Value.int IntKind.i64 13)) 3)⟩,
  .g ⟨(.l 82), .yes, .mv (.t 83)⟩])
 (.cond (.l 82) (.drw [] [.st ⟨true, false, ⟨(.t 84), .yes, .fa 3 (.l 2)⟩⟩,
  .st ⟨true, false, ⟨(.t 85), .yes, .ld false 1 (.t 84)⟩⟩,
  .st ⟨true, false, ⟨(.t 87), .yes, .fa 4 (.l 2)⟩⟩,
  .st ⟨true, false, ⟨(.t 88), .yes, .ld false 1 (.t 87)⟩⟩,
  .st ⟨true, false, ⟨(.t 90), .yes, .fa 5 (.l 2)⟩⟩,
  .st ⟨true, false, ⟨(.t 91), .yes, .ld false 1 (.t 90)⟩⟩,
  .st ⟨true, false, ⟨(.t 92), .yes, .lenr (.t 91)⟩⟩,
  .st ⟨false, false, ⟨(.t 86), .yes, .cs 85 p85 [(.t 85)]⟩⟩,
  .st ⟨false, false, ⟨(.t 89), .yes, .cs 83 p83 [(.t 88)]⟩⟩,
  .st ⟨true, false, ⟨(.l 7), .yes, .mv (.t 86)⟩⟩,
  .st ⟨true, false, ⟨(.l 8), .yes, .mv (.t 89)⟩⟩,
  .st ⟨true, false, ⟨(.l 9), .yes, .mv (.t 92)⟩⟩])
 (.seq (.reg [.g ⟨(.t 94), .yes, .bin BinOp.eql (.l 12) (.c (.d (.flat (Value.int IntKind.i64 14)))) (Op.binOp BinOp.eql 3 (Operand.tmp 12) (Operand.const (Value.int IntKind.i64 14)) 3)⟩,
  .g ⟨(.l 93), .yes, .mv (.t 94)⟩])
 (.cond (.l 93) (.drw [] [.st ⟨true, false, ⟨(.t 95), .yes, .fa 4 (.l 2)⟩⟩,
  .st ⟨true, false, ⟨(.t 96), .yes, .ld false 1 (.t 95)⟩⟩,
  .st ⟨true, false, ⟨(.t 98), .yes, .fa 5 (.l 2)⟩⟩,
  .st ⟨true, false, ⟨(.t 99), .yes, .ld false 1 (.t 98)⟩⟩,
  .st ⟨true, false, ⟨(.t 100), .yes, .lenr (.t 99)⟩⟩,
  .st ⟨false, false, ⟨(.t 97), .yes, .cs 83 p83 [(.t 96)]⟩⟩,
  .st ⟨true, false, ⟨(.l 8), .yes, .mv (.t 97)⟩⟩,
  .st ⟨true, false, ⟨(.l 9), .yes, .mv (.t 100)⟩⟩])
 (.seq (.seq (.reg [.g ⟨(.t 102), .yes, .bin BinOp.eql (.l 12) (.c (.d (.flat (Value.int IntKind.i64 15)))) (Op.binOp BinOp.eql 3 (Operand.tmp 12) (Operand.const (Value.int IntKind.i64 15)) 3)⟩,
  .g ⟨(.l 101), .yes, .mv (.t 102)⟩])
 (.cond (.l 101) .skip
 (.reg [.g ⟨(.t 103), .yes, .bin BinOp.eql (.l 12) (.c (.d (.flat (Value.int IntKind.i64 16)))) (Op.binOp BinOp.eql 3 (Operand.tmp 12) (Operand.const (Value.int IntKind.i64 16)) 3)⟩,
  .g ⟨(.l 101), .yes, .mv (.t 103)⟩])))
 (.cond (.l 101) (.reg [.g ⟨(.t 104), .yes, .fa 4 (.l 2)⟩,
  .g ⟨(.t 105), .yes, .ld false 1 (.t 104)⟩,
  .g ⟨(.t 106), .yes, .cs 83 p83 [(.t 105)]⟩,
  .g ⟨(.l 8), .yes, .mv (.t 106)⟩,
  .g ⟨(.l 9), .yes, .mv (.c (.d (.flat (Value.int IntKind.i64 1))))⟩])
 (.seq (.reg [.g ⟨(.t 108), .yes, .bin BinOp.eql (.l 12) (.c (.d (.flat (Value.int IntKind.i64 17)))) (Op.binOp BinOp.eql 3 (Operand.tmp 12) (Operand.const (Value.int IntKind.i64 17)) 3)⟩,
  .g ⟨(.l 107), .yes, .mv (.t 108)⟩])
 (.cond (.l 107) (.reg [.g ⟨(.t 109), .yes, .fa 3 (.l 2)⟩,
  .g ⟨(.t 110), .yes, .ld false 1 (.t 109)⟩,
  .g ⟨(.t 111), .yes, .cs 115 p115 [(.t 110)]⟩,
  .g ⟨(.l 7), .yes, .mv (.t 111)⟩,
  .g ⟨(.l 9), .yes, .mv (.c (.d (.flat (Value.int IntKind.i64 2))))⟩])
 (.seq (.reg [.g ⟨(.t 113), .yes, .bin BinOp.eql (.l 12) (.c (.d (.flat (Value.int IntKind.i64 18)))) (Op.binOp BinOp.eql 3 (Operand.tmp 12) (Operand.const (Value.int IntKind.i64 18)) 3)⟩,
  .g ⟨(.l 112), .yes, .mv (.t 113)⟩])
 (.cond (.l 112) (.reg [.g ⟨(.t 114), .yes, .fa 3 (.l 2)⟩,
  .g ⟨(.t 115), .yes, .ld false 1 (.t 114)⟩,
  .g ⟨(.t 116), .yes, .cs 116 p116 [(.t 115)]⟩,
  .g ⟨(.l 7), .yes, .mv (.t 116)⟩,
  .g ⟨(.l 9), .yes, .mv (.c (.d (.flat (Value.int IntKind.i64 1))))⟩])
 (.seq (.reg [.g ⟨(.l 4), .yes, .mv (.c (.d (.flat (Value.bool false))))⟩])
 .ret)))))))))))))))))))))))))))))))
 (.seq (.seq (.reg [.mt 117 (.l 1),
  .g ⟨(.t 118), .yes, .bin BinOp.gtr (.t 117) (.c (.d (.flat (Value.int IntKind.i64 40)))) (Op.binOp BinOp.gtr 3 (Operand.tmp 117) (Operand.const (Value.int IntKind.i64 40)) 3)⟩,
  .mt 119 (.t 118),
  .g ⟨(.t 120), (.g (.t 119) false), .fa 5 (.l 2)⟩,
  .g ⟨(.t 121), (.g (.t 119) false), .ld false 1 (.t 120)⟩,
  .g ⟨(.t 122), (.g (.t 119) false), .lenr (.t 121)⟩,
  .g ⟨(.t 123), (.g (.t 119) false), .mv (.l 9)⟩,
  .g ⟨(.t 124), (.g (.t 119) false), .bin BinOp.neq (.t 122) (.t 123) (Op.binOp BinOp.neq 3 (Operand.tmp 122) (Operand.tmp 123) 3)⟩,
  .g ⟨(.t 125), .yes, .pick (.t 119) (.c (.d (.flat (Value.bool true)))) (.t 124)⟩,
  .mt 126 (.t 125),
  .g ⟨(.t 127), (.g (.t 126) false), .mv (.l 5)⟩,
  .g ⟨(.t 128), (.g (.t 126) false), .not (.t 127)⟩,
  .g ⟨(.t 129), (.g (.t 126) false), .mv (.t 128)⟩,
  .g ⟨(.t 130), (.g (.t 129) true), .fa 1 (.l 2)⟩,
  .g ⟨(.t 131), (.g (.t 129) true), .ld false 1 (.t 130)⟩,
  .g ⟨(.t 132), (.g (.t 129) true), .bin BinOp.neq (.t 131) (.c (.d (.flat (Value.int IntKind.i32 0)))) (Op.binOp BinOp.neq 21 (Operand.tmp 131) (Operand.const (Value.int IntKind.i32 0)) 21)⟩,
  .g ⟨(.t 133), (.g (.t 129) true), .mv (.t 132)⟩,
  .g ⟨(.t 134), (.g (.t 133) false), .fa 0 (.l 2)⟩,
  .g ⟨(.t 135), (.g (.t 133) false), .ld false 1 (.t 134)⟩,
  .g ⟨(.t 136), (.g (.t 133) false), .bin BinOp.eql (.t 135) (.c (.d (.flat (Value.int IntKind.i64 1)))) (Op.binOp BinOp.eql 3 (Operand.tmp 135) (Operand.const (Value.int IntKind.i64 1)) 3)⟩,
  .g ⟨(.t 137), (.g (.t 129) true), .pick (.t 133) (.c (.d (.flat (Value.bool true)))) (.t 136)⟩,
  .g ⟨(.t 138), (.g (.t 129) true), .mv (.t 137)⟩,
  .g ⟨(.t 139), (.g (.t 138) false), .fa 0 (.l 2)⟩,
  .g ⟨(.t 140), (.g (.t 138) false), .ld false 1 (.t 139)⟩,
  .g ⟨(.t 141), (.g (.t 138) false), .bin BinOp.eql (.t 140) (.c (.d (.flat (Value.int IntKind.i64 2)))) (Op.binOp BinOp.eql 3 (Operand.tmp 140) (Operand.const (Value.int IntKind.i64 2)) 3)⟩,
  .g ⟨(.t 142), (.g (.t 129) true), .pick (.t 138) (.c (.d (.flat (Value.bool true)))) (.t 141)⟩,
  .g ⟨(.t 143), (.g (.t 126) false), .pick (.t 129) (.t 142) (.c (.d (.flat (Value.bool false))))⟩,
  .g ⟨(.t 144), .yes, .pick (.t 126) (.c (.d (.flat (Value.bool true)))) (.t 143)⟩,
  .mt 145 (.t 144),
  .g ⟨(.t 146), (.g (.t 145) false), .mv (.l 6)⟩,
  .g ⟨(.t 147), (.g (.t 145) false), .not (.t 146)⟩,
  .g ⟨(.t 148), (.g (.t 145) false), .mv (.t 147)⟩,
  .g ⟨(.t 149), (.g (.t 148) true), .fa 2 (.l 2)⟩,
  .g ⟨(.t 150), (.g (.t 148) true), .ld false 1 (.t 149)⟩,
  .g ⟨(.t 151), (.g (.t 148) true), .bin BinOp.neq (.t 150) (.c (.d (.flat (Value.string ⟨#[]⟩)))) (Op.binOp BinOp.neq 9 (Operand.tmp 150) (Operand.const (Value.string ⟨#[]⟩)) 9)⟩,
  .g ⟨(.t 152), (.g (.t 145) false), .pick (.t 148) (.t 151) (.c (.d (.flat (Value.bool false))))⟩,
  .g ⟨(.l 153), .yes, .pick (.t 145) (.c (.d (.flat (Value.bool true)))) (.t 152)⟩])
 (.cond (.l 153) (.seq (.reg [.g ⟨(.l 4), .yes, .mv (.c (.d (.flat (Value.bool false))))⟩])
 .ret)
 .skip))
 (.seq (.seq (.reg [.mt 154 (.l 7),
  .g ⟨(.t 155), .yes, .not (.t 154)⟩,
  .mt 156 (.t 155),
  .g ⟨(.t 157), (.g (.t 156) true), .fa 3 (.l 2)⟩,
  .g ⟨(.t 158), (.g (.t 156) true), .ld false 1 (.t 157)⟩,
  .g ⟨(.t 159), (.g (.t 156) true), .bin BinOp.neq (.t 158) (.c (.d (.flat (Value.string ⟨#[]⟩)))) (Op.binOp BinOp.neq 9 (Operand.tmp 158) (Operand.const (Value.string ⟨#[]⟩)) 9)⟩,
  .g ⟨(.t 160), (.g (.t 156) true), .mv (.t 159)⟩,
  .g ⟨(.t 161), (.g (.t 160) false), .fa 0 (.l 2)⟩,
  .g ⟨(.t 162), (.g (.t 160) false), .ld false 1 (.t 161)⟩,
  .g ⟨(.t 163), (.g (.t 160) false), .cs 117 p117 [(.t 162)]⟩,
  .g ⟨(.t 164), (.g (.t 156) true), .pick (.t 160) (.c (.d (.flat (Value.bool true)))) (.t 163)⟩,
  .g ⟨(.t 165), .yes, .pick (.t 156) (.t 164) (.c (.d (.flat (Value.bool false))))⟩,
  .mt 166 (.t 165),
  .g ⟨(.t 167), (.g (.t 166) false), .mv (.l 8)⟩,
  .g ⟨(.t 168), (.g (.t 166) false), .not (.t 167)⟩,
  .g ⟨(.t 169), (.g (.t 166) false), .mv (.t 168)⟩,
  .g ⟨(.t 170), (.g (.t 169) true), .fa 4 (.l 2)⟩,
  .g ⟨(.t 171), (.g (.t 169) true), .ld false 1 (.t 170)⟩,
  .g ⟨(.t 172), (.g (.t 169) true), .bin BinOp.neq (.t 171) (.c (.d (.flat (Value.string ⟨#[]⟩)))) (Op.binOp BinOp.neq 9 (Operand.tmp 171) (Operand.const (Value.string ⟨#[]⟩)) 9)⟩,
  .g ⟨(.t 173), (.g (.t 169) true), .mv (.t 172)⟩,
  .g ⟨(.t 174), (.g (.t 173) false), .fa 0 (.l 2)⟩,
  .g ⟨(.t 175), (.g (.t 173) false), .ld false 1 (.t 174)⟩,
  .g ⟨(.t 176), (.g (.t 173) false), .cs 118 p118 [(.t 175)]⟩,
  .g ⟨(.t 177), (.g (.t 169) true), .pick (.t 173) (.c (.d (.flat (Value.bool true)))) (.t 176)⟩,
  .g ⟨(.t 178), (.g (.t 166) false), .pick (.t 169) (.t 177) (.c (.d (.flat (Value.bool false))))⟩,
  .g ⟨(.l 179), .yes, .pick (.t 166) (.c (.d (.flat (Value.bool true)))) (.t 178)⟩])
 (.cond (.l 179) (.seq (.reg [.g ⟨(.l 4), .yes, .mv (.c (.d (.flat (Value.bool false))))⟩])
 .ret)
 .skip))
 (.seq (.seq (.reg [.g ⟨(.l 10), .yes, .mv (.c (.d (.flat (Value.int IntKind.i64 0))))⟩])
 (.block 1 (.loop (some [1, 2, 10]) (.seq (.seq (.reg [.mt 180 (.l 10),
  .g ⟨(.t 181), .yes, .fa 5 (.l 2)⟩,
  .g ⟨(.t 182), .yes, .ld false 1 (.t 181)⟩,
  .g ⟨(.t 183), .yes, .lenr (.t 182)⟩,
  .g ⟨(.l 184), .yes, .bin BinOp.lss (.t 180) (.t 183) (Op.binOp BinOp.lss 3 (Operand.tmp 180) (Operand.tmp 183) 3)⟩])
 (.cond (.l 184) .skip
 (.exit 1)))
 (.seq (.block 2 (.seq (.reg [.g ⟨(.t 187), .yes, .fa 5 (.l 2)⟩,
  .g ⟨(.t 188), .yes, .ld false 1 (.t 187)⟩,
  .mt 189 (.l 10),
  .g ⟨(.t 190), .yes, .ia 8 (.t 188) (.t 189)⟩,
  .g ⟨(.t 191), .yes, .ld true 8 (.t 190)⟩,
  .mt 192 (.l 1),
  .g ⟨(.t 193), .yes, .bin BinOp.add (.t 192) (.c (.d (.flat (Value.int IntKind.i64 1)))) (Op.binOp BinOp.add 3 (Operand.tmp 192) (Operand.const (Value.int IntKind.i64 1)) 3)⟩,
  .g ⟨(.t 194), .yes, .cs 86 p86 [(.t 191), (.t 193)]⟩,
  .g ⟨(.l 195), .yes, .not (.t 194)⟩])
 (.cond (.l 195) (.seq (.reg [.g ⟨(.l 4), .yes, .mv (.c (.d (.flat (Value.bool false))))⟩])
 .ret)
 .skip)))
 (.reg [.mt 185 (.l 10),
  .g ⟨(.t 186), .yes, .bin BinOp.add (.t 185) (.c (.d (.flat (Value.int IntKind.i64 1)))) (Op.binOp BinOp.add 3 (Operand.tmp 185) (Operand.const (Value.int IntKind.i64 1)) 3)⟩,
  .g ⟨(.l 10), .yes, .mv (.t 186)⟩]))))))
 (.seq (.reg [.g ⟨(.l 4), .yes, .mv (.c (.d (.flat (Value.bool true))))⟩])
 .ret))))))), [(.t 4)]⟩
theorem x86E : EntryOK Tryz.prog mTabs 86 (.fn x86) := ⟨fnT rfl, Tryz.f86, plans 86, keeps 86, 2, Tryz.func86, rfl, by kernel_rfl, by kernel_rfl⟩
def x87 : XF := ⟨[0, 1, 2, 3, 47, 52, 72], [0], (.seq (.reg [.g ⟨(.l 1), .yes, .gen (Op.box 98 (Operand.tmp 0))⟩,
  .g ⟨(.l 2), .yes, .mv (.c (.d (.flat (Value.bool false))))⟩])
 (.seq (.seq (.reg [.g ⟨(.t 4), .yes, .fa 1 (.l 1)⟩,
  .g ⟨(.t 5), .yes, .ld false 1 (.t 4)⟩,
  .mt 6 (.t 5),
  .g ⟨(.t 7), (.g (.t 6) true), .fa 0 (.l 1)⟩,
  .g ⟨(.t 8), (.g (.t 6) true), .ld false 1 (.t 7)⟩,
  .g ⟨(.t 9), (.g (.t 6) true), .mv (.t 8)⟩,
  .g ⟨(.t 10), (.g (.t 9) false), .fa 2 (.l 1)⟩,
  .g ⟨(.t 11), (.g (.t 9) false), .ld false 1 (.t 10)⟩,
  .g ⟨(.t 12), (.g (.t 9) false), .bin BinOp.neq (.t 11) (.c (.d (.flat (Value.string ⟨#[]⟩)))) (Op.binOp BinOp.neq 9 (Operand.tmp 11) (Operand.const (Value.string ⟨#[]⟩)) 9)⟩,
  .g ⟨(.t 13), (.g (.t 6) true), .pick (.t 9) (.c (.d (.flat (Value.bool true)))) (.t 12)⟩,
  .g ⟨(.t 14), (.g (.t 6) true), .mv (.t 13)⟩,
  .g ⟨(.t 15), (.g (.t 14) false), .fa 3 (.l 1)⟩,
  .g ⟨(.t 16), (.g (.t 14) false), .ld false 1 (.t 15)⟩,
  .g ⟨(.t 17), (.g (.t 14) false), .bin BinOp.neq (.t 16) (.c (.d (.flat (Value.string ⟨#[]⟩)))) (Op.binOp BinOp.neq 9 (Operand.tmp 16) (Operand.const (Value.string ⟨#[]⟩)) 9)⟩,
  .g ⟨(.t 18), (.g (.t 6) true), .pick (.t 14) (.c (.d (.flat (Value.bool true)))) (.t 17)⟩,
  .g ⟨(.t 19), .yes, .pick (.t 6) (.t 18) (.c (.d (.flat (Value.bool false))))⟩,
  .mt 20 (.t 19),
  .g ⟨(.t 21), (.g (.t 20) false), .fa 1 (.l 1)⟩,
  .g ⟨(.t 22), (.g (.t 20) false), .ld false 1 (.t 21)⟩,
  .g ⟨(.t 23), (.g (.t 20) false), .not (.t 22)⟩,
  .g ⟨(.t 24), (.g (.t 20) false), .mv (.t 23)⟩,
  .g ⟨(.t 25), (.g (.t 24) true), .fa 3 (.l 1)⟩,
  .g ⟨(.t 26), (.g (.t 24) true), .ld false 1 (.t 25)⟩,
  .g ⟨(.t 27), (.g (.t 24) true), .cs 85 p85 [(.t 26)]⟩,
  .g ⟨(.t 28), (.g (.t 24) true), .not (.t 27)⟩,
  .g ⟨(.t 29), (.g (.t 24) true), .mv (.t 28)⟩,
  .g ⟨(.t 30), (.g (.t 29) false), .fa 2 (.l 1)⟩,
  .g ⟨(.t 31), (.g (.t 29) false), .ld false 1 (.t 30)⟩,
  .g ⟨(.t 32), (.g (.t 29) false), .bin BinOp.neq (.t 31) (.c (.d (.flat (Value.string ⟨#[118, 111, 105, 100]⟩)))) (Op.binOp BinOp.neq 9 (Operand.tmp 31) (Operand.const (Value.string ⟨#[118, 111, 105, 100]⟩)) 9)⟩,
  .g ⟨(.t 33), (.g (.t 29) false), .mv (.t 32)⟩,
  .g ⟨(.t 34), (.g (.t 33) true), .fa 2 (.l 1)⟩,
  .g ⟨(.t 35), (.g (.t 33) true), .ld false 1 (.t 34)⟩,
  .g ⟨(.t 36), (.g (.t 33) true), .cs 84 p84 [(.t 35)]⟩,
  .g ⟨(.t 37), (.g (.t 33) true), .not (.t 36)⟩,
  .g ⟨(.t 38), (.g (.t 29) false), .pick (.t 33) (.t 37) (.c (.d (.flat (Value.bool false))))⟩,
  .g ⟨(.t 39), (.g (.t 24) true), .pick (.t 29) (.c (.d (.flat (Value.bool true)))) (.t 38)⟩,
  .g ⟨(.t 40), (.g (.t 20) false), .pick (.t 24) (.t 39) (.c (.d (.flat (Value.bool false))))⟩,
  .g ⟨(.t 41), .yes, .pick (.t 20) (.c (.d (.flat (Value.bool true)))) (.t 40)⟩,
  .mt 42 (.t 41),
  .g ⟨(.t 43), (.g (.t 42) false), .fa 4 (.l 1)⟩,
  .g ⟨(.t 44), (.g (.t 42) false), .ld false 1 (.t 43)⟩,
  .g ⟨(.t 45), (.g (.t 42) false), .lenr (.t 44)⟩,
  .g ⟨(.t 46), (.g (.t 42) false), .bin BinOp.gtr (.t 45) (.c (.d (.flat (Value.int IntKind.i64 6)))) (Op.binOp BinOp.gtr 3 (Operand.tmp 45) (Operand.const (Value.int IntKind.i64 6)) 3)⟩,
  .g ⟨(.l 47), .yes, .pick (.t 42) (.c (.d (.flat (Value.bool true)))) (.t 46)⟩])
 (.cond (.l 47) (.seq (.reg [.g ⟨(.l 2), .yes, .mv (.c (.d (.flat (Value.bool false))))⟩])
 .ret)
 .skip))
 (.seq (.seq (.reg [.g ⟨(.l 3), .yes, .mv (.c (.d (.flat (Value.int IntKind.i64 0))))⟩])
 (.block 0 (.loop (some [1, 3]) (.seq (.seq (.reg [.mt 48 (.l 3),
  .g ⟨(.t 49), .yes, .fa 4 (.l 1)⟩,
  .g ⟨(.t 50), .yes, .ld false 1 (.t 49)⟩,
  .g ⟨(.t 51), .yes, .lenr (.t 50)⟩,
  .g ⟨(.l 52), .yes, .bin BinOp.lss (.t 48) (.t 51) (Op.binOp BinOp.lss 3 (Operand.tmp 48) (Operand.tmp 51) 3)⟩])
 (.cond (.l 52) .skip
 (.exit 0)))
 (.seq (.block 1 (.seq (.reg [.g ⟨(.t 55), .yes, .fa 4 (.l 1)⟩,
  .g ⟨(.t 56), .yes, .ld false 1 (.t 55)⟩,
  .mt 57 (.l 3),
  .g ⟨(.t 58), .yes, .ia 2 (.t 56) (.t 57)⟩,
  .g ⟨(.t 59), .yes, .fa 0 (.t 58)⟩,
  .g ⟨(.t 60), .yes, .ld false 1 (.t 59)⟩,
  .g ⟨(.t 61), .yes, .cs 84 p84 [(.t 60)]⟩,
  .g ⟨(.t 62), .yes, .not (.t 61)⟩,
  .mt 63 (.t 62),
  .g ⟨(.t 64), (.g (.t 63) false), .fa 4 (.l 1)⟩,
  .g ⟨(.t 65), (.g (.t 63) false), .ld false 1 (.t 64)⟩,
  .g ⟨(.t 66), (.g (.t 63) false), .mv (.l 3)⟩,
  .g ⟨(.t 67), (.g (.t 63) false), .ia 2 (.t 65) (.t 66)⟩,
  .g ⟨(.t 68), (.g (.t 63) false), .fa 1 (.t 67)⟩,
  .g ⟨(.t 69), (.g (.t 63) false), .ld false 1 (.t 68)⟩,
  .g ⟨(.t 70), (.g (.t 63) false), .cs 85 p85 [(.t 69)]⟩,
  .g ⟨(.t 71), (.g (.t 63) false), .not (.t 70)⟩,
  .g ⟨(.l 72), .yes, .pick (.t 63) (.c (.d (.flat (Value.bool true)))) (.t 71)⟩])
 (.cond (.l 72) (.seq (.reg [.g ⟨(.l 2), .yes, .mv (.c (.d (.flat (Value.bool false))))⟩])
 .ret)
 .skip)))
 (.reg [.mt 53 (.l 3),
  .g ⟨(.t 54), .yes, .bin BinOp.add (.t 53) (.c (.d (.flat (Value.int IntKind.i64 1)))) (Op.binOp BinOp.add 3 (Operand.tmp 53) (Operand.const (Value.int IntKind.i64 1)) 3)⟩,
  .g ⟨(.l 3), .yes, .mv (.t 54)⟩]))))))
 (.seq (.reg [.g ⟨(.t 73), .yes, .fa 5 (.l 1)⟩,
  .g ⟨(.t 74), .yes, .ld false 1 (.t 73)⟩,
  .g ⟨(.t 75), .yes, .fa 1 (.l 1)⟩,
  .g ⟨(.t 76), .yes, .ld false 1 (.t 75)⟩,
  .g ⟨(.t 77), .yes, .cs 119 p119 [(.t 74), (.c (.d (.flat (Value.int IntKind.i64 1)))), (.t 76)]⟩,
  .g ⟨(.l 2), .yes, .mv (.t 77)⟩])
 .ret)))), [(.t 2)]⟩
theorem x87E : EntryOK Tryz.prog mTabs 87 (.fn x87) := ⟨fnT rfl, Tryz.f87, plans 87, keeps 87, 1, Tryz.func87, rfl, by kernel_rfl, by kernel_rfl⟩
def x88 : XF := ⟨[0, 1, 2, 3, 4, 5, 6, 9, 14, 25, 37], [0], (.seq (.reg [.g ⟨(.l 1), .yes, .gen (Op.box 26 (Operand.tmp 0))⟩,
  .g ⟨(.l 2), .yes, .mv (.c (.d (.flat (Value.int IntKind.i64 0))))⟩,
  .g ⟨(.l 3), .yes, .mv (.c (.d (.flat (Value.int IntKind.i64 0))))⟩])
 (.seq (.seq (.reg [.g ⟨(.t 7), .yes, .ld true 1 (.l 1)⟩,
  .g ⟨(.t 8), .yes, .cs 41 p41 [(.t 7)]⟩,
  .g ⟨(.l 9), .yes, .not (.t 8)⟩])
 (.cond (.l 9) (.seq (.reg [.g ⟨(.l 2), .yes, .mv (.c (.d (.flat (Value.int IntKind.i64 1))))⟩,
  .g ⟨(.l 3), .yes, .mv (.c (.d (.flat (Value.int IntKind.i64 0))))⟩])
 .ret)
 .skip))
 (.seq (.seq (.reg [.g ⟨(.l 4), .yes, .mv (.c (.d (.flat (Value.int IntKind.i64 0))))⟩])
 (.block 0 (.loop (some [1, 4]) (.seq (.seq (.reg [.mt 10 (.l 4),
  .g ⟨(.t 11), .yes, .fa 0 (.l 1)⟩,
  .g ⟨(.t 12), .yes, .ld false 1 (.t 11)⟩,
  .g ⟨(.t 13), .yes, .lenr (.t 12)⟩,
  .g ⟨(.l 14), .yes, .bin BinOp.lss (.t 10) (.t 13) (Op.binOp BinOp.lss 3 (Operand.tmp 10) (Operand.tmp 13) 3)⟩])
 (.cond (.l 14) .skip
 (.exit 0)))
 (.seq (.block 1 (.seq (.reg [.g ⟨(.l 5), .yes, .mv (.c (.d (.flat (Value.int IntKind.i64 0))))⟩])
 (.block 2 (.loop (some [1, 4, 5]) (.seq (.seq (.reg [.mt 17 (.l 5),
  .g ⟨(.t 18), .yes, .fa 0 (.l 1)⟩,
  .g ⟨(.t 19), .yes, .ld false 1 (.t 18)⟩,
  .mt 20 (.l 4),
  .g ⟨(.t 21), .yes, .ia 4 (.t 19) (.t 20)⟩,
  .g ⟨(.t 22), .yes, .fa 3 (.t 21)⟩,
  .g ⟨(.t 23), .yes, .ld false 1 (.t 22)⟩,
  .g ⟨(.t 24), .yes, .lenr (.t 23)⟩,
  .g ⟨(.l 25), .yes, .bin BinOp.lss (.t 17) (.t 24) (Op.binOp BinOp.lss 3 (Operand.tmp 17) (Operand.tmp 24) 3)⟩])
 (.cond (.l 25) .skip
 (.exit 2)))
 (.seq (.block 3 (.seq (.drw [] [.st ⟨true, false, ⟨(.t 28), .yes, .ld true 1 (.l 1)⟩⟩,
  .st ⟨true, false, ⟨(.t 29), .yes, .fa 0 (.l 1)⟩⟩,
  .st ⟨true, false, ⟨(.t 30), .yes, .ld false 1 (.t 29)⟩⟩,
  .st ⟨true, false, ⟨(.t 31), .yes, .mv (.l 4)⟩⟩,
  .st ⟨true, false, ⟨(.t 32), .yes, .ia 4 (.t 30) (.t 31)⟩⟩,
  .st ⟨true, false, ⟨(.t 33), .yes, .ld true 4 (.t 32)⟩⟩,
  .st ⟨true, false, ⟨(.t 34), .yes, .mv (.l 5)⟩⟩,
  .st ⟨false, true, ⟨(.t 35), .yes, .cs 120 p120 [(.t 28), (.t 33), (.t 34)]⟩⟩,
  .st ⟨true, false, ⟨(.l 6), .yes, .mv (.t 35)⟩⟩])
 (.seq (.reg [.mt 36 (.l 6),
  .g ⟨(.l 37), .yes, .bin BinOp.neq (.t 36) (.c (.d (.flat (Value.int IntKind.i64 0)))) (Op.binOp BinOp.neq 3 (Operand.tmp 36) (Operand.const (Value.int IntKind.i64 0)) 3)⟩])
 (.cond (.l 37) (.seq (.reg [.mt 38 (.l 6),
  .mt 39 (.l 4),
  .g ⟨(.l 2), .yes, .mv (.t 38)⟩,
  .g ⟨(.l 3), .yes, .mv (.t 39)⟩])
 .ret)
 .skip))))
 (.reg [.mt 26 (.l 5),
  .g ⟨(.t 27), .yes, .bin BinOp.add (.t 26) (.c (.d (.flat (Value.int IntKind.i64 1)))) (Op.binOp BinOp.add 3 (Operand.tmp 26) (Operand.const (Value.int IntKind.i64 1)) 3)⟩,
  .g ⟨(.l 5), .yes, .mv (.t 27)⟩])))))))
 (.reg [.mt 15 (.l 4),
  .g ⟨(.t 16), .yes, .bin BinOp.add (.t 15) (.c (.d (.flat (Value.int IntKind.i64 1)))) (Op.binOp BinOp.add 3 (Operand.tmp 15) (Operand.const (Value.int IntKind.i64 1)) 3)⟩,
  .g ⟨(.l 4), .yes, .mv (.t 16)⟩]))))))
 (.seq (.reg [.g ⟨(.l 2), .yes, .mv (.c (.d (.flat (Value.int IntKind.i64 0))))⟩,
  .g ⟨(.l 3), .yes, .mv (.c (.d (.flat (Value.int IntKind.i64 0))))⟩])
 .ret)))), [(.t 2), (.t 3)]⟩
theorem x88E : EntryOK Tryz.prog mTabs 88 (.fn x88) := ⟨fnT rfl, Tryz.f88, plans 88, keeps 88, 1, Tryz.func88, rfl, by kernel_rfl, by kernel_rfl⟩
def x89 : XF := ⟨[0, 1, 2, 3, 4, 5, 6, 7, 8, 9, 10, 11, 12, 13, 14, 15, 16, 17, 18, 20, 30, 41, 66, 68, 90, 101, 111, 133, 142], [0, 1], (.seq (.reg [.g ⟨(.l 2), .yes, .gen (Op.box 26 (Operand.tmp 0))⟩,
  .g ⟨(.l 3), .yes, .gen (Op.box 37 (Operand.tmp 1))⟩,
  .g ⟨(.l 4), .yes, .gen (Op.alloc 37)⟩,
  .g ⟨(.l 5), .yes, .mv (.c (.d (.flat (Value.int IntKind.i64 0))))⟩,
  .g ⟨(.l 6), .yes, .mv (.c (.d (.flat (Value.string ⟨#[]⟩))))⟩])
 (.seq (.reg [.g ⟨(.t 21), .yes, .fa 0 (.l 3)⟩,
  .g ⟨(.t 22), .yes, .ld false 1 (.t 21)⟩,
  .g ⟨(.t 23), .yes, .fa 1 (.l 3)⟩,
  .g ⟨(.t 24), .yes, .ld false 1 (.t 23)⟩,
  .g ⟨(.t 25), .yes, .gen (Op.build 37 #[(0, (Operand.tmp 22)), (1, (Operand.tmp 24))])⟩,
  .g ⟨(.l 7), .yes, .gen (Op.alloc 37)⟩,
  .g ⟨.no, .yes, .st 4 (.l 7) (.t 25)⟩])
 (.seq (.seq (.reg [.g ⟨(.l 8), .yes, .mv (.c (.d (.flat (Value.int IntKind.i64 0))))⟩])
 (.block 0 (.loop (some [2, 3, 4, 7, 8]) (.seq (.seq (.reg [.mt 26 (.l 8),
  .g ⟨(.t 27), .yes, .fa 2 (.l 3)⟩,
  .g ⟨(.t 28), .yes, .ld false 1 (.t 27)⟩,
  .g ⟨(.t 29), .yes, .lenr (.t 28)⟩,
  .g ⟨(.l 30), .yes, .bin BinOp.lss (.t 26) (.t 29) (Op.binOp BinOp.lss 3 (Operand.tmp 26) (Operand.tmp 29) 3)⟩])
 (.cond (.l 30) .skip
 (.exit 0)))
 (.seq (.block 1 (.seq (.reg [.g ⟨(.t 33), .yes, .fa 2 (.l 3)⟩,
  .g ⟨(.t 34), .yes, .ld false 1 (.t 33)⟩,
  .mt 35 (.l 8),
  .g ⟨(.t 36), .yes, .ia 4 (.t 34) (.t 35)⟩,
  .g ⟨(.t 37), .yes, .ld true 4 (.t 36)⟩,
  .g ⟨(.l 9), .yes, .gen (Op.alloc 76)⟩,
  .g ⟨.no, .yes, .st 4 (.l 9) (.t 37)⟩])
 (.seq (.seq (.reg [.g ⟨(.t 38), .yes, .fa 3 (.l 9)⟩,
  .g ⟨(.t 39), .yes, .ld false 1 (.t 38)⟩,
  .g ⟨(.t 40), .yes, .lenr (.t 39)⟩,
  .g ⟨(.l 41), .yes, .bin BinOp.gtr (.t 40) (.c (.d (.flat (Value.int IntKind.i64 0)))) (Op.binOp BinOp.gtr 3 (Operand.tmp 40) (Operand.const (Value.int IntKind.i64 0)) 3)⟩])
 (.cond (.l 41) (.seq (.drw [.no] [.st ⟨true, false, ⟨(.t 43), .yes, .ld true 1 (.l 2)⟩⟩,
  .st ⟨true, false, ⟨(.t 44), .yes, .fa 0 (.l 3)⟩⟩,
  .st ⟨true, false, ⟨(.t 45), .yes, .ld false 1 (.t 44)⟩⟩,
  .st ⟨true, false, ⟨(.t 46), .yes, .fa 0 (.l 9)⟩⟩,
  .st ⟨true, false, ⟨(.t 47), .yes, .ld false 1 (.t 46)⟩⟩,
  .st ⟨true, false, ⟨(.t 48), .yes, .gen (Op.build 166 #[(0, (Operand.tmp 45)), (1, (Operand.tmp 47))])⟩⟩,
  .st ⟨true, false, ⟨(.t 49), .yes, .fa 3 (.l 9)⟩⟩,
  .st ⟨true, false, ⟨(.t 50), .yes, .ld false 1 (.t 49)⟩⟩,
  .st ⟨true, false, ⟨(.t 51), .yes, .ia 8 (.t 50) (.c (.d (.flat (Value.int IntKind.i64 0))))⟩⟩,
  .st ⟨true, false, ⟨(.t 52), .yes, .ld true 8 (.t 51)⟩⟩,
  .fl [⟨false, true, ⟨(.t 53), .yes, .cs 121 p121 [(.t 43), (.t 48), (.t 52)]⟩⟩,
  ⟨true, false, ⟨(.t 42), .yes, .mv (.t 53)⟩⟩,
  ⟨true, false, ⟨(.t 54), .yes, .ex (.t 42) 0⟩⟩,
  ⟨true, false, ⟨(.t 55), .yes, .ex (.t 42) 1⟩⟩,
  ⟨true, false, ⟨(.t 56), .yes, .ex (.t 42) 2⟩⟩] ⟨(.l 10), .yes, .gen (Op.alloc 124)⟩,
  .st ⟨false, false, ⟨.no, .yes, .st 8 (.l 10) (.t 54)⟩⟩,
  .st ⟨true, false, ⟨(.l 11), .yes, .mv (.t 55)⟩⟩,
  .st ⟨true, false, ⟨(.l 12), .yes, .mv (.t 56)⟩⟩])
 (.seq (.seq (.reg [.mt 57 (.l 12),
  .g ⟨(.t 58), .yes, .bin BinOp.eql (.t 57) (.c (.d (.flat (Value.int IntKind.i64 0)))) (Op.binOp BinOp.eql 3 (Operand.tmp 57) (Operand.const (Value.int IntKind.i64 0)) 3)⟩,
  .mt 59 (.t 58),
  .g ⟨(.t 60), (.g (.t 59) true), .ld true 1 (.l 2)⟩,
  .g ⟨(.t 61), (.g (.t 59) true), .mv (.l 11)⟩,
  .g ⟨(.t 62), (.g (.t 59) true), .fa 1 (.l 9)⟩,
  .g ⟨(.t 63), (.g (.t 59) true), .ld false 1 (.t 62)⟩,
  .g ⟨(.t 64), (.g (.t 59) true), .cs 122 p122 [(.t 60), (.t 61), (.t 63)]⟩,
  .g ⟨(.t 65), (.g (.t 59) true), .not (.t 64)⟩,
  .g ⟨(.l 66), .yes, .pick (.t 59) (.t 65) (.c (.d (.flat (Value.bool false))))⟩])
 (.cond (.l 66) (.reg [.g ⟨(.l 12), .yes, .mv (.c (.d (.flat (Value.int IntKind.i64 14))))⟩])
 .skip))
 (.seq (.seq (.reg [.mt 67 (.l 12),
  .g ⟨(.l 68), .yes, .bin BinOp.neq (.t 67) (.c (.d (.flat (Value.int IntKind.i64 0)))) (Op.binOp BinOp.neq 3 (Operand.tmp 67) (Operand.const (Value.int IntKind.i64 0)) 3)⟩])
 (.cond (.l 68) (.seq (.drw [(.l 4)] [.st ⟨true, false, ⟨(.t 69), .yes, .ld true 4 (.l 7)⟩⟩,
  .st ⟨true, false, ⟨(.t 70), .yes, .mv (.l 12)⟩⟩,
  .st ⟨true, false, ⟨(.t 71), .yes, .fa 0 (.l 3)⟩⟩,
  .st ⟨true, false, ⟨(.t 72), .yes, .ld false 1 (.t 71)⟩⟩,
  .st ⟨true, false, ⟨(.t 73), .yes, .bin BinOp.add (.t 72) (.c (.d (.flat (Value.string ⟨#[46]⟩)))) (Op.binOp BinOp.add 9 (Operand.tmp 72) (Operand.const (Value.string ⟨#[46]⟩)) 9)⟩⟩,
  .st ⟨true, false, ⟨(.t 74), .yes, .fa 2 (.l 9)⟩⟩,
  .st ⟨true, false, ⟨(.t 75), .yes, .ld false 1 (.t 74)⟩⟩,
  .st ⟨true, false, ⟨(.t 76), .yes, .bin BinOp.add (.t 73) (.t 75) (Op.binOp BinOp.add 9 (Operand.tmp 73) (Operand.tmp 75) 9)⟩⟩,
  .st ⟨false, false, ⟨.no, .yes, .st 4 (.l 4) (.t 69)⟩⟩,
  .st ⟨true, false, ⟨(.l 5), .yes, .mv (.t 70)⟩⟩,
  .st ⟨true, false, ⟨(.l 6), .yes, .mv (.t 76)⟩⟩])
 .ret)
 .skip))
 (.reg [.g ⟨(.t 77), .yes, .ld true 8 (.l 10)⟩,
  .g ⟨(.t 78), .yes, .gen (Op.buildSlice 74 1 #[(0, (Operand.tmp 77))])⟩,
  .g ⟨(.t 79), .yes, .fa 3 (.l 9)⟩,
  .g ⟨.no, .yes, .st 1 (.t 79) (.t 78)⟩]))))
 .skip))
 (.reg [.g ⟨(.t 80), .yes, .fa 2 (.l 7)⟩,
  .g ⟨(.t 81), .yes, .ld false 1 (.t 80)⟩,
  .g ⟨(.t 82), .yes, .ld true 4 (.l 9)⟩,
  .g ⟨(.t 83), .yes, .gen (Op.buildSlice 34 1 #[(0, (Operand.tmp 82))])⟩,
  .g ⟨(.t 84), .yes, .gen (Op.call { callee := (Callee.builtin Builtin.append), args := #[(Operand.tmp 81), (Operand.tmp 83)], argTypes := #[34, 34] })⟩,
  .g ⟨(.t 85), .yes, .fa 2 (.l 7)⟩,
  .g ⟨.no, .yes, .st 1 (.t 85) (.t 84)⟩]))))
 (.reg [.mt 31 (.l 8),
  .g ⟨(.t 32), .yes, .bin BinOp.add (.t 31) (.c (.d (.flat (Value.int IntKind.i64 1)))) (Op.binOp BinOp.add 3 (Operand.tmp 31) (Operand.const (Value.int IntKind.i64 1)) 3)⟩,
  .g ⟨(.l 8), .yes, .mv (.t 32)⟩]))))))
 (.seq (.reg [.g ⟨(.l 13), .yes, .mv (.c (.d (.flat (Value.bool false))))⟩])
 (.seq (.seq (.reg [.g ⟨(.l 14), .yes, .mv (.c (.d (.flat (Value.int IntKind.i64 0))))⟩])
 (.block 2 (.loop (some [2, 3, 4, 7, 13, 14]) (.seq (.seq (.reg [.mt 86 (.l 14),
  .g ⟨(.t 87), .yes, .fa 3 (.l 3)⟩,
  .g ⟨(.t 88), .yes, .ld false 1 (.t 87)⟩,
  .g ⟨(.t 89), .yes, .lenr (.t 88)⟩,
  .g ⟨(.l 90), .yes, .bin BinOp.lss (.t 86) (.t 89) (Op.binOp BinOp.lss 3 (Operand.tmp 86) (Operand.tmp 89) 3)⟩])
 (.cond (.l 90) .skip
 (.exit 2)))
 (.seq (.block 3 (.seq (.reg [.g ⟨(.t 93), .yes, .fa 3 (.l 3)⟩,
  .g ⟨(.t 94), .yes, .ld false 1 (.t 93)⟩,
  .mt 95 (.l 14),
  .g ⟨(.t 96), .yes, .ia 6 (.t 94) (.t 95)⟩,
  .g ⟨(.t 97), .yes, .ld true 6 (.t 96)⟩,
  .g ⟨(.l 15), .yes, .gen (Op.alloc 98)⟩,
  .g ⟨.no, .yes, .st 6 (.l 15) (.t 97)⟩])
 (.seq (.reg [.g ⟨(.t 98), .yes, .fa 3 (.l 15)⟩,
  .g ⟨(.t 99), .yes, .ld false 1 (.t 98)⟩,
  .g ⟨(.l 16), .yes, .mv (.t 99)⟩])
 (.seq (.seq (.reg [.g ⟨(.t 100), .yes, .fa 1 (.l 15)⟩,
  .g ⟨(.l 101), .yes, .ld false 1 (.t 100)⟩])
 (.cond (.l 101) (.reg [.g ⟨(.l 13), .yes, .mv (.c (.d (.flat (Value.bool true))))⟩,
  .g ⟨(.l 16), .yes, .mv (.c (.d (.flat (Value.string ⟨#[110, 101, 119]⟩))))⟩])
 .skip))
 (.seq (.reg [.g ⟨(.t 103), .yes, .ld true 1 (.l 2)⟩,
  .g ⟨(.t 104), .yes, .fa 0 (.l 3)⟩,
  .g ⟨(.t 105), .yes, .ld false 1 (.t 104)⟩,
  .g ⟨(.t 106), .yes, .ld true 6 (.l 15)⟩,
  .g ⟨(.t 107), .yes, .cs 123 p123 [(.t 103), (.t 105), (.t 106)]⟩,
  .mt 102 (.t 107),
  .g ⟨(.t 108), .yes, .ex (.t 102) 0⟩,
  .g ⟨(.t 109), .yes, .ex (.t 102) 1⟩,
  .g ⟨(.l 17), .yes, .mv (.t 108)⟩,
  .g ⟨(.l 18), .yes, .mv (.t 109)⟩])
 (.seq (.seq (.reg [.mt 110 (.l 18),
  .g ⟨(.l 111), .yes, .bin BinOp.neq (.t 110) (.c (.d (.flat (Value.int IntKind.i64 0)))) (Op.binOp BinOp.neq 3 (Operand.tmp 110) (Operand.const (Value.int IntKind.i64 0)) 3)⟩])
 (.cond (.l 111) (.seq (.drw [(.l 4)] [.st ⟨true, false, ⟨(.t 112), .yes, .ld true 4 (.l 7)⟩⟩,
  .st ⟨true, false, ⟨(.t 113), .yes, .mv (.l 18)⟩⟩,
  .st ⟨true, false, ⟨(.t 114), .yes, .fa 0 (.l 3)⟩⟩,
  .st ⟨true, false, ⟨(.t 115), .yes, .ld false 1 (.t 114)⟩⟩,
  .st ⟨true, false, ⟨(.t 116), .yes, .bin BinOp.add (.t 115) (.c (.d (.flat (Value.string ⟨#[46]⟩)))) (Op.binOp BinOp.add 9 (Operand.tmp 115) (Operand.const (Value.string ⟨#[46]⟩)) 9)⟩⟩,
  .st ⟨true, false, ⟨(.t 117), .yes, .mv (.l 16)⟩⟩,
  .st ⟨true, false, ⟨(.t 118), .yes, .bin BinOp.add (.t 116) (.t 117) (Op.binOp BinOp.add 9 (Operand.tmp 116) (Operand.tmp 117) 9)⟩⟩,
  .st ⟨false, false, ⟨.no, .yes, .st 4 (.l 4) (.t 112)⟩⟩,
  .st ⟨true, false, ⟨(.l 5), .yes, .mv (.t 113)⟩⟩,
  .st ⟨true, false, ⟨(.l 6), .yes, .mv (.t 118)⟩⟩])
 .ret)
 .skip))
 (.seq (.reg [.mt 119 (.l 17),
  .g ⟨(.t 120), .yes, .fa 5 (.l 15)⟩,
  .g ⟨.no, .yes, .st 1 (.t 120) (.t 119)⟩])
 (.reg [.g ⟨(.t 121), .yes, .fa 3 (.l 7)⟩,
  .g ⟨(.t 122), .yes, .ld false 1 (.t 121)⟩,
  .g ⟨(.t 123), .yes, .ld true 6 (.l 15)⟩,
  .g ⟨(.t 124), .yes, .gen (Op.buildSlice 35 1 #[(0, (Operand.tmp 123))])⟩,
  .g ⟨(.t 125), .yes, .gen (Op.call { callee := (Callee.builtin Builtin.append), args := #[(Operand.tmp 122), (Operand.tmp 124)], argTypes := #[35, 35] })⟩,
  .g ⟨(.t 126), .yes, .fa 3 (.l 7)⟩,
  .g ⟨.no, .yes, .st 1 (.t 126) (.t 125)⟩]))))))))
 (.reg [.mt 91 (.l 14),
  .g ⟨(.t 92), .yes, .bin BinOp.add (.t 91) (.c (.d (.flat (Value.int IntKind.i64 1)))) (Op.binOp BinOp.add 3 (Operand.tmp 91) (Operand.const (Value.int IntKind.i64 1)) 3)⟩,
  .g ⟨(.l 14), .yes, .mv (.t 92)⟩]))))))
 (.seq (.seq (.reg [.mt 127 (.l 13),
  .g ⟨(.t 128), .yes, .not (.t 127)⟩,
  .mt 129 (.t 128),
  .g ⟨(.t 130), (.g (.t 129) true), .fa 1 (.l 3)⟩,
  .g ⟨(.t 131), (.g (.t 129) true), .ld false 1 (.t 130)⟩,
  .g ⟨(.t 132), (.g (.t 129) true), .bin BinOp.neq (.t 131) (.c (.d (.flat (Value.string ⟨#[]⟩)))) (Op.binOp BinOp.neq 9 (Operand.tmp 131) (Operand.const (Value.string ⟨#[]⟩)) 9)⟩,
  .g ⟨(.l 133), .yes, .pick (.t 129) (.t 132) (.c (.d (.flat (Value.bool false))))⟩])
 (.cond (.l 133) (.seq (.reg [.g ⟨(.t 135), .yes, .ld true 1 (.l 2)⟩,
  .g ⟨(.t 136), .yes, .fa 1 (.l 3)⟩,
  .g ⟨(.t 137), .yes, .ld false 1 (.t 136)⟩,
  .g ⟨(.t 138), .yes, .cs 124 p124 [(.t 135), (.t 137), (.c (.tight [] 0))]⟩,
  .mt 134 (.t 138),
  .g ⟨(.t 139), .yes, .ex (.t 134) 0⟩,
  .g ⟨(.t 140), .yes, .ex (.t 134) 1⟩,
  .g ⟨(.t 19), .yes, .gen (Op.alloc 44)⟩,
  .g ⟨.no, .yes, .st 2 (.t 19) (.t 139)⟩,
  .g ⟨(.l 20), .yes, .mv (.t 140)⟩])
 (.seq (.reg [.mt 141 (.l 20),
  .g ⟨(.l 142), .yes, .bin BinOp.neq (.t 141) (.c (.d (.flat (Value.int IntKind.i64 0)))) (Op.binOp BinOp.neq 3 (Operand.tmp 141) (Operand.const (Value.int IntKind.i64 0)) 3)⟩])
 (.cond (.l 142) (.seq (.drw [(.l 4)] [.st ⟨true, false, ⟨(.t 143), .yes, .ld true 4 (.l 7)⟩⟩,
  .st ⟨true, false, ⟨(.t 144), .yes, .mv (.l 20)⟩⟩,
  .st ⟨true, false, ⟨(.t 145), .yes, .fa 0 (.l 3)⟩⟩,
  .st ⟨true, false, ⟨(.t 146), .yes, .ld false 1 (.t 145)⟩⟩,
  .st ⟨true, false, ⟨(.t 147), .yes, .bin BinOp.add (.t 146) (.c (.d (.flat (Value.string ⟨#[46, 110, 101, 119]⟩)))) (Op.binOp BinOp.add 9 (Operand.tmp 146) (Operand.const (Value.string ⟨#[46, 110, 101, 119]⟩)) 9)⟩⟩,
  .st ⟨false, false, ⟨.no, .yes, .st 4 (.l 4) (.t 143)⟩⟩,
  .st ⟨true, false, ⟨(.l 5), .yes, .mv (.t 144)⟩⟩,
  .st ⟨true, false, ⟨(.l 6), .yes, .mv (.t 147)⟩⟩])
 .ret)
 .skip)))
 .skip))
 (.seq (.reg [.g ⟨(.t 148), .yes, .ld true 4 (.l 7)⟩,
  .g ⟨.no, .yes, .st 4 (.l 4) (.t 148)⟩,
  .g ⟨(.l 5), .yes, .mv (.c (.d (.flat (Value.int IntKind.i64 0))))⟩,
  .g ⟨(.l 6), .yes, .mv (.c (.d (.flat (Value.string ⟨#[]⟩))))⟩])
 .ret))))))), [(.c 4 true 4), (.t 5), (.t 6)]⟩
theorem x89E : EntryOK Tryz.prog mTabs 89 (.fn x89) := ⟨fnT rfl, Tryz.f89, plans 89, keeps 89, 2, Tryz.func89, rfl, by kernel_rfl, by kernel_rfl⟩
def x95 : XF := ⟨[0, 1, 4, 5, 9, 17], [0, 1], (.seq (.reg [.g ⟨(.l 4), .yes, .mv (.c (.d (.flat (Value.bool false))))⟩])
 (.seq (.seq (.reg [.g ⟨(.l 5), .yes, .mv (.c (.d (.flat (Value.int IntKind.i64 0))))⟩])
 (.block 0 (.loop (some [0, 1, 5]) (.seq (.seq (.reg [.mt 6 (.l 5),
  .mt 7 (.l 0),
  .g ⟨(.t 8), .yes, .lenr (.t 7)⟩,
  .g ⟨(.l 9), .yes, .bin BinOp.lss (.t 6) (.t 8) (Op.binOp BinOp.lss 3 (Operand.tmp 6) (Operand.tmp 8) 3)⟩])
 (.cond (.l 9) .skip
 (.exit 0)))
 (.seq (.block 1 (.seq (.reg [.mt 12 (.l 0),
  .mt 13 (.l 5),
  .g ⟨(.t 14), .yes, .ia 1 (.t 12) (.t 13)⟩,
  .g ⟨(.t 15), .yes, .ld false 1 (.t 14)⟩,
  .mt 16 (.l 1),
  .g ⟨(.l 17), .yes, .bin BinOp.eql (.t 15) (.t 16) (Op.binOp BinOp.eql 9 (Operand.tmp 15) (Operand.tmp 16) 9)⟩])
 (.cond (.l 17) (.seq (.reg [.g ⟨(.l 4), .yes, .mv (.c (.d (.flat (Value.bool true))))⟩])
 .ret)
 .skip)))
 (.reg [.mt 10 (.l 5),
  .g ⟨(.t 11), .yes, .bin BinOp.add (.t 10) (.c (.d (.flat (Value.int IntKind.i64 1)))) (Op.binOp BinOp.add 3 (Operand.tmp 10) (Operand.const (Value.int IntKind.i64 1)) 3)⟩,
  .g ⟨(.l 5), .yes, .mv (.t 11)⟩]))))))
 (.seq (.reg [.g ⟨(.l 4), .yes, .mv (.c (.d (.flat (Value.bool false))))⟩])
 .ret))), [(.t 4)]⟩
theorem x95E : EntryOK Tryz.prog mTabs 95 (.fn x95) := ⟨fnT rfl, Tryz.f95, plans 95, keeps 95, 2, Tryz.func95, rfl, by kernel_rfl, by kernel_rfl⟩
def x96 : XF := ⟨[0, 1, 2, 4, 5, 7, 9, 14], [0, 1], (.seq (.reg [.g ⟨(.l 2), .yes, .gen (Op.box 26 (Operand.tmp 0))⟩,
  .g ⟨(.l 4), .yes, .mv (.c (.d (.flat (Value.string ⟨#[]⟩))))⟩])
 (.seq (.seq (.reg [.mt 6 (.l 1),
  .g ⟨(.l 7), .yes, .cs 65 p65 [(.t 6)]⟩])
 (.cond (.l 7) (.seq (.seq (.reg [.mt 8 (.l 1),
  .g ⟨(.l 9), .yes, .bin BinOp.eql (.t 8) (.c (.d (.flat (Value.string ⟨#[69, 120, 99, 101, 112, 116, 105, 111, 110]⟩)))) (Op.binOp BinOp.eql 9 (Operand.tmp 8) (Operand.const (Value.string ⟨#[69, 120, 99, 101, 112, 116, 105, 111, 110]⟩)) 9)⟩])
 (.cond (.l 9) (.seq (.reg [.g ⟨(.l 4), .yes, .mv (.c (.d (.flat (Value.string ⟨#[]⟩))))⟩])
 .ret)
 .skip))
 (.seq (.reg [.g ⟨(.l 4), .yes, .mv (.c (.d (.flat (Value.string ⟨#[69, 120, 99, 101, 112, 116, 105, 111, 110]⟩))))⟩])
 .ret))
 .skip))
 (.seq (.seq (.reg [.g ⟨(.t 10), .yes, .ld true 1 (.l 2)⟩,
  .mt 11 (.l 1),
  .g ⟨(.t 12), .yes, .cs 66 p66 [(.t 10), (.t 11)]⟩,
  .g ⟨(.l 5), .yes, .mv (.t 12)⟩])
 (.seq (.reg [.mt 13 (.l 5),
  .g ⟨(.l 14), .yes, .bin BinOp.geq (.t 13) (.c (.d (.flat (Value.int IntKind.i64 0)))) (Op.binOp BinOp.geq 3 (Operand.tmp 13) (Operand.const (Value.int IntKind.i64 0)) 3)⟩])
 (.cond (.l 14) (.seq (.reg [.g ⟨(.t 15), .yes, .fa 0 (.l 2)⟩,
  .g ⟨(.t 16), .yes, .ld false 1 (.t 15)⟩,
  .mt 17 (.l 5),
  .g ⟨(.t 18), .yes, .ia 4 (.t 16) (.t 17)⟩,
  .g ⟨(.t 19), .yes, .fa 1 (.t 18)⟩,
  .g ⟨(.t 20), .yes, .ld false 1 (.t 19)⟩,
  .g ⟨(.l 4), .yes, .mv (.t 20)⟩])
 .ret)
 .skip)))
 (.seq (.reg [.g ⟨(.l 4), .yes, .mv (.c (.d (.flat (Value.string ⟨#[]⟩))))⟩])
 .ret)))), [(.t 4)]⟩
theorem x96E : EntryOK Tryz.prog mTabs 96 (.fn x96) := ⟨fnT rfl, Tryz.f96, plans 96, keeps 96, 2, Tryz.func96, rfl, by kernel_rfl, by kernel_rfl⟩
def x97 : XF := ⟨[0, 1, 4, 5, 6, 7, 8, 9, 10, 11, 15, 21, 28, 36, 38, 39, 47, 49, 59, 71, 99], [0, 1], (.seq (.reg [.g ⟨(.l 4), .yes, .gen (Op.alloc 147)⟩])
 (.seq (.reg [.mt 12 (.l 0),
  .mt 13 (.l 1),
  .g ⟨(.t 14), .yes, .idx (.t 12) (.t 13) (Op.index 9 (Operand.tmp 12) (Operand.tmp 13))⟩,
  .g ⟨(.l 5), .yes, .mv (.t 14)⟩])
 (.seq (.reg [.g ⟨(.l 6), .yes, .mv (.c (.d (.flat (Value.int IntKind.i64 0))))⟩,
  .g ⟨(.l 7), .yes, .mv (.c (.d (.flat (Value.int IntKind.i64 128))))⟩,
  .g ⟨(.l 8), .yes, .mv (.c (.d (.flat (Value.int IntKind.i64 191))))⟩])
 (.seq (.block 0 (.seq (.reg [.mt 16 (.l 5),
  .g ⟨(.t 17), .yes, .bin BinOp.lss (.t 16) (.c (.d (.flat (Value.int IntKind.u8 128)))) (Op.binOp BinOp.lss 5 (Operand.tmp 16) (Operand.const (Value.int IntKind.u8 128)) 5)⟩,
  .g ⟨(.l 15), .yes, .mv (.t 17)⟩])
 (.cond (.l 15) (.seq (.reg [.mt 18 (.l 5),
  .g ⟨(.t 19), .yes, .gen (Op.convert 5 21 (Operand.tmp 18))⟩,
  .g ⟨(.t 20), .yes, .gen (Op.build 147 #[(0, (Operand.tmp 19)), (1, (Operand.const (Value.int IntKind.i64 1)))])⟩,
  .g ⟨.no, .yes, .st 3 (.l 4) (.t 20)⟩])
 .ret)
 (.seq (.reg [.mt 22 (.l 5),
  .g ⟨(.t 23), .yes, .bin BinOp.geq (.t 22) (.c (.d (.flat (Value.int IntKind.u8 194)))) (Op.binOp BinOp.geq 5 (Operand.tmp 22) (Operand.const (Value.int IntKind.u8 194)) 5)⟩,
  .mt 24 (.t 23),
  .g ⟨(.t 25), (.g (.t 24) true), .mv (.l 5)⟩,
  .g ⟨(.t 26), (.g (.t 24) true), .bin BinOp.leq (.t 25) (.c (.d (.flat (Value.int IntKind.u8 223)))) (Op.binOp BinOp.leq 5 (Operand.tmp 25) (Operand.const (Value.int IntKind.u8 223)) 5)⟩,
  .g ⟨(.t 27), .yes, .pick (.t 24) (.t 26) (.c (.d (.flat (Value.bool false))))⟩,
  .g ⟨(.l 21), .yes, .mv (.t 27)⟩])
 (.cond (.l 21) (.reg [.g ⟨(.l 6), .yes, .mv (.c (.d (.flat (Value.int IntKind.i64 2))))⟩])
 (.seq (.reg [.mt 29 (.l 5),
  .g ⟨(.t 30), .yes, .bin BinOp.geq (.t 29) (.c (.d (.flat (Value.int IntKind.u8 224)))) (Op.binOp BinOp.geq 5 (Operand.tmp 29) (Operand.const (Value.int IntKind.u8 224)) 5)⟩,
  .mt 31 (.t 30),
  .g ⟨(.t 32), (.g (.t 31) true), .mv (.l 5)⟩,
  .g ⟨(.t 33), (.g (.t 31) true), .bin BinOp.leq (.t 32) (.c (.d (.flat (Value.int IntKind.u8 239)))) (Op.binOp BinOp.leq 5 (Operand.tmp 32) (Operand.const (Value.int IntKind.u8 239)) 5)⟩,
  .g ⟨(.t 34), .yes, .pick (.t 31) (.t 33) (.c (.d (.flat (Value.bool false))))⟩,
  .g ⟨(.l 28), .yes, .mv (.t 34)⟩])
 (.cond (.l 28) (.seq (.reg [.g ⟨(.l 6), .yes, .mv (.c (.d (.flat (Value.int IntKind.i64 3))))⟩])
 (.seq (.seq (.reg [.mt 35 (.l 5),
  .g ⟨(.l 36), .yes, .bin BinOp.eql (.t 35) (.c (.d (.flat (Value.int IntKind.u8 224)))) (Op.binOp BinOp.eql 5 (Operand.tmp 35) (Operand.const (Value.int IntKind.u8 224)) 5)⟩])
 (.cond (.l 36) (.reg [.g ⟨(.l 7), .yes, .mv (.c (.d (.flat (Value.int IntKind.i64 160))))⟩])
 .skip))
 (.seq (.reg [.mt 37 (.l 5),
  .g ⟨(.l 38), .yes, .bin BinOp.eql (.t 37) (.c (.d (.flat (Value.int IntKind.u8 237)))) (Op.binOp BinOp.eql 5 (Operand.tmp 37) (Operand.const (Value.int IntKind.u8 237)) 5)⟩])
 (.cond (.l 38) (.reg [.g ⟨(.l 8), .yes, .mv (.c (.d (.flat (Value.int IntKind.i64 159))))⟩])
 .skip))))
 (.seq (.reg [.mt 40 (.l 5),
  .g ⟨(.t 41), .yes, .bin BinOp.geq (.t 40) (.c (.d (.flat (Value.int IntKind.u8 240)))) (Op.binOp BinOp.geq 5 (Operand.tmp 40) (Operand.const (Value.int IntKind.u8 240)) 5)⟩,
  .mt 42 (.t 41),
  .g ⟨(.t 43), (.g (.t 42) true), .mv (.l 5)⟩,
  .g ⟨(.t 44), (.g (.t 42) true), .bin BinOp.leq (.t 43) (.c (.d (.flat (Value.int IntKind.u8 244)))) (Op.binOp BinOp.leq 5 (Operand.tmp 43) (Operand.const (Value.int IntKind.u8 244)) 5)⟩,
  .g ⟨(.t 45), .yes, .pick (.t 42) (.t 44) (.c (.d (.flat (Value.bool false))))⟩,
  .g ⟨(.l 39), .yes, .mv (.t 45)⟩])
 (.cond (.l 39) (.seq (.reg [.g ⟨(.l 6), .yes, .mv (.c (.d (.flat (Value.int IntKind.i64 4))))⟩])
 (.seq (.seq (.reg [.mt 46 (.l 5),
  .g ⟨(.l 47), .yes, .bin BinOp.eql (.t 46) (.c (.d (.flat (Value.int IntKind.u8 240)))) (Op.binOp BinOp.eql 5 (Operand.tmp 46) (Operand.const (Value.int IntKind.u8 240)) 5)⟩])
 (.cond (.l 47) (.reg [.g ⟨(.l 7), .yes, .mv (.c (.d (.flat (Value.int IntKind.i64 144))))⟩])
 .skip))
 (.seq (.reg [.mt 48 (.l 5),
  .g ⟨(.l 49), .yes, .bin BinOp.eql (.t 48) (.c (.d (.flat (Value.int IntKind.u8 244)))) (Op.binOp BinOp.eql 5 (Operand.tmp 48) (Operand.const (Value.int IntKind.u8 244)) 5)⟩])
 (.cond (.l 49) (.reg [.g ⟨(.l 8), .yes, .mv (.c (.d (.flat (Value.int IntKind.i64 143))))⟩])
 .skip))))
 .skip)))))))))
 (.seq (.seq (.reg [.mt 50 (.l 6),
  .g ⟨(.t 51), .yes, .bin BinOp.eql (.t 50) (.c (.d (.flat (Value.int IntKind.i64 0)))) (Op.binOp BinOp.eql 3 (Operand.tmp 50) (Operand.const (Value.int IntKind.i64 0)) 3)⟩,
  .mt 52 (.t 51),
  .g ⟨(.t 53), (.g (.t 52) false), .mv (.l 1)⟩,
  .g ⟨(.t 54), (.g (.t 52) false), .mv (.l 6)⟩,
  .g ⟨(.t 55), (.g (.t 52) false), .bin BinOp.add (.t 53) (.t 54) (Op.binOp BinOp.add 3 (Operand.tmp 53) (Operand.tmp 54) 3)⟩,
  .g ⟨(.t 56), (.g (.t 52) false), .mv (.l 0)⟩,
  .g ⟨(.t 57), (.g (.t 52) false), .lens (.t 56)⟩,
  .g ⟨(.t 58), (.g (.t 52) false), .bin BinOp.gtr (.t 55) (.t 57) (Op.binOp BinOp.gtr 3 (Operand.tmp 55) (Operand.tmp 57) 3)⟩,
  .g ⟨(.l 59), .yes, .pick (.t 52) (.c (.d (.flat (Value.bool true)))) (.t 58)⟩])
 (.cond (.l 59) (.seq (.reg [.g ⟨(.t 60), .yes, .gen (Op.build 147 #[(0, (Operand.const (Value.int IntKind.i32 65533))), (1, (Operand.const (Value.int IntKind.i64 1))), (2, (Operand.const (Value.bool true)))])⟩,
  .g ⟨.no, .yes, .st 3 (.l 4) (.t 60)⟩])
 .ret)
 .skip))
 (.seq (.reg [.mt 61 (.l 5),
  .g ⟨(.t 62), .yes, .gen (Op.convert 5 21 (Operand.tmp 61))⟩,
  .mt 63 (.l 6),
  .g ⟨(.t 64), .yes, .bin BinOp.sub (.c (.d (.flat (Value.int IntKind.i64 7)))) (.t 63) (Op.binOp BinOp.sub 3 (Operand.const (Value.int IntKind.i64 7)) (Operand.tmp 63) 3)⟩,
  .g ⟨(.t 65), .yes, .gen (Op.convert 3 42 (Operand.tmp 64))⟩,
  .g ⟨(.t 66), .yes, .bin BinOp.shl (.c (.d (.flat (Value.int IntKind.i32 1)))) (.t 65) (Op.binOp BinOp.shl 21 (Operand.const (Value.int IntKind.i32 1)) (Operand.tmp 65) 42)⟩,
  .g ⟨(.t 67), .yes, .bin BinOp.sub (.t 66) (.c (.d (.flat (Value.int IntKind.i32 1)))) (Op.binOp BinOp.sub 21 (Operand.tmp 66) (Operand.const (Value.int IntKind.i32 1)) 21)⟩,
  .g ⟨(.t 68), .yes, .bin BinOp.and (.t 62) (.t 67) (Op.binOp BinOp.and 21 (Operand.tmp 62) (Operand.tmp 67) 21)⟩,
  .g ⟨(.l 9), .yes, .mv (.t 68)⟩])
 (.seq (.seq (.reg [.g ⟨(.l 10), .yes, .mv (.c (.d (.flat (Value.int IntKind.i64 1))))⟩])
 (.block 1 (.loop (some [0, 1, 4, 6, 7, 8, 9, 10]) (.seq (.seq (.reg [.mt 69 (.l 10),
  .mt 70 (.l 6),
  .g ⟨(.l 71), .yes, .bin BinOp.lss (.t 69) (.t 70) (Op.binOp BinOp.lss 3 (Operand.tmp 69) (Operand.tmp 70) 3)⟩])
 (.cond (.l 71) .skip
 (.exit 1)))
 (.seq (.block 2 (.seq (.reg [.mt 74 (.l 0),
  .mt 75 (.l 1),
  .mt 76 (.l 10),
  .g ⟨(.t 77), .yes, .bin BinOp.add (.t 75) (.t 76) (Op.binOp BinOp.add 3 (Operand.tmp 75) (Operand.tmp 76) 3)⟩,
  .g ⟨(.t 78), .yes, .idx (.t 74) (.t 77) (Op.index 9 (Operand.tmp 74) (Operand.tmp 77))⟩,
  .g ⟨(.t 79), .yes, .gen (Op.convert 5 3 (Operand.tmp 78))⟩,
  .g ⟨(.l 11), .yes, .mv (.t 79)⟩])
 (.seq (.seq (.reg [.mt 80 (.l 10),
  .g ⟨(.t 81), .yes, .bin BinOp.eql (.t 80) (.c (.d (.flat (Value.int IntKind.i64 1)))) (Op.binOp BinOp.eql 3 (Operand.tmp 80) (Operand.const (Value.int IntKind.i64 1)) 3)⟩,
  .mt 82 (.t 81),
  .g ⟨(.t 83), (.g (.t 82) true), .mv (.l 11)⟩,
  .g ⟨(.t 84), (.g (.t 82) true), .mv (.l 7)⟩,
  .g ⟨(.t 85), (.g (.t 82) true), .bin BinOp.lss (.t 83) (.t 84) (Op.binOp BinOp.lss 3 (Operand.tmp 83) (Operand.tmp 84) 3)⟩,
  .g ⟨(.t 86), (.g (.t 82) true), .mv (.t 85)⟩,
  .g ⟨(.t 87), (.g (.t 86) false), .mv (.l 11)⟩,
  .g ⟨(.t 88), (.g (.t 86) false), .mv (.l 8)⟩,
  .g ⟨(.t 89), (.g (.t 86) false), .bin BinOp.gtr (.t 87) (.t 88) (Op.binOp BinOp.gtr 3 (Operand.tmp 87) (Operand.tmp 88) 3)⟩,
  .g ⟨(.t 90), (.g (.t 82) true), .pick (.t 86) (.c (.d (.flat (Value.bool true)))) (.t 89)⟩,
  .g ⟨(.t 91), .yes, .pick (.t 82) (.t 90) (.c (.d (.flat (Value.bool false))))⟩,
  .mt 92 (.t 91),
  .g ⟨(.t 93), (.g (.t 92) false), .mv (.l 11)⟩,
  .g ⟨(.t 94), (.g (.t 92) false), .bin BinOp.lss (.t 93) (.c (.d (.flat (Value.int IntKind.i64 128)))) (Op.binOp BinOp.lss 3 (Operand.tmp 93) (Operand.const (Value.int IntKind.i64 128)) 3)⟩,
  .g ⟨(.t 95), .yes, .pick (.t 92) (.c (.d (.flat (Value.bool true)))) (.t 94)⟩,
  .mt 96 (.t 95),
  .g ⟨(.t 97), (.g (.t 96) false), .mv (.l 11)⟩,
  .g ⟨(.t 98), (.g (.t 96) false), .bin BinOp.gtr (.t 97) (.c (.d (.flat (Value.int IntKind.i64 191)))) (Op.binOp BinOp.gtr 3 (Operand.tmp 97) (Operand.const (Value.int IntKind.i64 191)) 3)⟩,
  .g ⟨(.l 99), .yes, .pick (.t 96) (.c (.d (.flat (Value.bool true)))) (.t 98)⟩])
 (.cond (.l 99) (.seq (.reg [.g ⟨(.t 100), .yes, .gen (Op.build 147 #[(0, (Operand.const (Value.int IntKind.i32 65533))), (1, (Operand.const (Value.int IntKind.i64 1))), (2, (Operand.const (Value.bool true)))])⟩,
  .g ⟨.no, .yes, .st 3 (.l 4) (.t 100)⟩])
 .ret)
 .skip))
 (.reg [.mt 101 (.l 9),
  .g ⟨(.t 102), .yes, .bin BinOp.shl (.t 101) (.c (.d (.flat (Value.int IntKind.u64 6)))) (Op.binOp BinOp.shl 21 (Operand.tmp 101) (Operand.const (Value.int IntKind.u64 6)) 42)⟩,
  .mt 103 (.l 11),
  .g ⟨(.t 104), .yes, .bin BinOp.and (.t 103) (.c (.d (.flat (Value.int IntKind.i64 63)))) (Op.binOp BinOp.and 3 (Operand.tmp 103) (Operand.const (Value.int IntKind.i64 63)) 3)⟩,
  .g ⟨(.t 105), .yes, .gen (Op.convert 3 21 (Operand.tmp 104))⟩,
  .g ⟨(.t 106), .yes, .bin BinOp.or (.t 102) (.t 105) (Op.binOp BinOp.or 21 (Operand.tmp 102) (Operand.tmp 105) 21)⟩,
  .g ⟨(.l 9), .yes, .mv (.t 106)⟩]))))
 (.reg [.mt 72 (.l 10),
  .g ⟨(.t 73), .yes, .bin BinOp.add (.t 72) (.c (.d (.flat (Value.int IntKind.i64 1)))) (Op.binOp BinOp.add 3 (Operand.tmp 72) (Operand.const (Value.int IntKind.i64 1)) 3)⟩,
  .g ⟨(.l 10), .yes, .mv (.t 73)⟩]))))))
 (.seq (.reg [.mt 107 (.l 9),
  .mt 108 (.l 6),
  .g ⟨(.t 109), .yes, .gen (Op.build 147 #[(0, (Operand.tmp 107)), (1, (Operand.tmp 108))])⟩,
  .g ⟨.no, .yes, .st 3 (.l 4) (.t 109)⟩])
 .ret)))))))), [(.c 4 true 3)]⟩
theorem x97E : EntryOK Tryz.prog mTabs 97 (.fn x97) := ⟨fnT rfl, Tryz.f97, plans 97, keeps 97, 2, Tryz.func97, rfl, by kernel_rfl, by kernel_rfl⟩
def x98 : XF := ⟨[0, 2], [0], (.seq (.reg [.g ⟨(.l 2), .yes, .mv (.c (.d (.flat (Value.bool false))))⟩])
 (.seq (.reg [.mt 3 (.l 0),
  .g ⟨(.t 4), .yes, .bin BinOp.geq (.t 3) (.c (.d (.flat (Value.int IntKind.i32 48)))) (Op.binOp BinOp.geq 21 (Operand.tmp 3) (Operand.const (Value.int IntKind.i32 48)) 21)⟩,
  .mt 5 (.t 4),
  .g ⟨(.t 6), (.g (.t 5) true), .mv (.l 0)⟩,
  .g ⟨(.t 7), (.g (.t 5) true), .bin BinOp.leq (.t 6) (.c (.d (.flat (Value.int IntKind.i32 57)))) (Op.binOp BinOp.leq 21 (Operand.tmp 6) (Operand.const (Value.int IntKind.i32 57)) 21)⟩,
  .g ⟨(.t 8), .yes, .pick (.t 5) (.t 7) (.c (.d (.flat (Value.bool false))))⟩,
  .g ⟨(.l 2), .yes, .mv (.t 8)⟩])
 .ret)), [(.t 2)]⟩
theorem x98E : EntryOK Tryz.prog mTabs 98 (.fn x98) := ⟨fnT rfl, Tryz.f98, plans 98, keeps 98, 1, Tryz.func98, rfl, by kernel_rfl, by kernel_rfl⟩
def x99 : XF := ⟨[0, 2], [0], (.seq (.reg [.g ⟨(.l 2), .yes, .mv (.c (.d (.flat (Value.bool false))))⟩])
 (.seq (.reg [.mt 3 (.l 0),
  .g ⟨(.t 4), .yes, .gen (Op.convert 5 21 (Operand.tmp 3))⟩,
  .g ⟨(.t 5), .yes, .cs 113 p113 [(.t 4)]⟩,
  .mt 6 (.t 5),
  .g ⟨(.t 7), (.g (.t 6) false), .mv (.l 0)⟩,
  .g ⟨(.t 8), (.g (.t 6) false), .gen (Op.convert 5 21 (Operand.tmp 7))⟩,
  .g ⟨(.t 9), (.g (.t 6) false), .cs 112 p112 [(.t 8)]⟩,
  .g ⟨(.t 10), .yes, .pick (.t 6) (.c (.d (.flat (Value.bool true)))) (.t 9)⟩,
  .mt 11 (.t 10),
  .g ⟨(.t 12), (.g (.t 11) false), .mv (.l 0)⟩,
  .g ⟨(.t 13), (.g (.t 11) false), .gen (Op.convert 5 21 (Operand.tmp 12))⟩,
  .g ⟨(.t 14), (.g (.t 11) false), .cs 98 p98 [(.t 13)]⟩,
  .g ⟨(.t 15), .yes, .pick (.t 11) (.c (.d (.flat (Value.bool true)))) (.t 14)⟩,
  .g ⟨(.l 2), .yes, .mv (.t 15)⟩])
 .ret)), [(.t 2)]⟩
theorem x99E : EntryOK Tryz.prog mTabs 99 (.fn x99) := ⟨fnT rfl, Tryz.f99, plans 99, keeps 99, 1, Tryz.func99, rfl, by kernel_rfl, by kernel_rfl⟩
def x100 : XF := ⟨[0, 1, 4, 5, 7, 25, 29, 41, 53, 64], [0, 1], (.seq (.reg [.g ⟨(.l 4), .yes, .mv (.c (.d (.flat (Value.int IntKind.i64 0))))⟩])
 (.seq (.reg [.mt 8 (.l 1),
  .g ⟨(.t 9), .yes, .bin BinOp.add (.t 8) (.c (.d (.flat (Value.int IntKind.i64 1)))) (Op.binOp BinOp.add 3 (Operand.tmp 8) (Operand.const (Value.int IntKind.i64 1)) 3)⟩,
  .g ⟨(.l 5), .yes, .mv (.t 9)⟩])
 (.seq (.block 0 (.loop (some [0, 1, 5]) (.seq (.seq (.reg [.mt 10 (.l 5),
  .mt 11 (.l 0),
  .g ⟨(.t 12), .yes, .lens (.t 11)⟩,
  .g ⟨(.t 13), .yes, .bin BinOp.lss (.t 10) (.t 12) (Op.binOp BinOp.lss 3 (Operand.tmp 10) (Operand.tmp 12) 3)⟩,
  .mt 14 (.t 13),
  .g ⟨(.t 15), (.g (.t 14) true), .mv (.l 0)⟩,
  .g ⟨(.t 16), (.g (.t 14) true), .mv (.l 5)⟩,
  .g ⟨(.t 17), (.g (.t 14) true), .idx (.t 15) (.t 16) (Op.index 9 (Operand.tmp 15) (Operand.tmp 16))⟩,
  .g ⟨(.t 18), (.g (.t 14) true), .bin BinOp.neq (.t 17) (.c (.d (.flat (Value.int IntKind.u8 34)))) (Op.binOp BinOp.neq 5 (Operand.tmp 17) (Operand.const (Value.int IntKind.u8 34)) 5)⟩,
  .g ⟨(.t 19), .yes, .pick (.t 14) (.t 18) (.c (.d (.flat (Value.bool false))))⟩,
  .mt 20 (.t 19),
  .g ⟨(.t 21), (.g (.t 20) true), .mv (.l 0)⟩,
  .g ⟨(.t 22), (.g (.t 20) true), .mv (.l 5)⟩,
  .g ⟨(.t 23), (.g (.t 20) true), .idx (.t 21) (.t 22) (Op.index 9 (Operand.tmp 21) (Operand.tmp 22))⟩,
  .g ⟨(.t 24), (.g (.t 20) true), .bin BinOp.neq (.t 23) (.c (.d (.flat (Value.int IntKind.u8 10)))) (Op.binOp BinOp.neq 5 (Operand.tmp 23) (Operand.const (Value.int IntKind.u8 10)) 5)⟩,
  .g ⟨(.l 25), .yes, .pick (.t 20) (.t 24) (.c (.d (.flat (Value.bool false))))⟩])
 (.cond (.l 25) .skip
 (.exit 0)))
 (.block 1 (.seq (.seq (.reg [.mt 26 (.l 0),
  .mt 27 (.l 5),
  .g ⟨(.t 28), .yes, .idx (.t 26) (.t 27) (Op.index 9 (Operand.tmp 26) (Operand.tmp 27))⟩,
  .g ⟨(.l 29), .yes, .bin BinOp.eql (.t 28) (.c (.d (.flat (Value.int IntKind.u8 92)))) (Op.binOp BinOp.eql 5 (Operand.tmp 28) (Operand.const (Value.int IntKind.u8 92)) 5)⟩])
 (.cond (.l 29) (.seq (.reg [.mt 30 (.l 5),
  .g ⟨(.t 31), .yes, .bin BinOp.add (.t 30) (.c (.d (.flat (Value.int IntKind.i64 1)))) (Op.binOp BinOp.add 3 (Operand.tmp 30) (Operand.const (Value.int IntKind.i64 1)) 3)⟩,
  .g ⟨(.l 5), .yes, .mv (.t 31)⟩])
 (.seq (.reg [.mt 32 (.l 5),
  .mt 33 (.l 0),
  .g ⟨(.t 34), .yes, .lens (.t 33)⟩,
  .g ⟨(.t 35), .yes, .bin BinOp.geq (.t 32) (.t 34) (Op.binOp BinOp.geq 3 (Operand.tmp 32) (Operand.tmp 34) 3)⟩,
  .mt 36 (.t 35),
  .g ⟨(.t 37), (.g (.t 36) false), .mv (.l 0)⟩,
  .g ⟨(.t 38), (.g (.t 36) false), .mv (.l 5)⟩,
  .g ⟨(.t 39), (.g (.t 36) false), .idx (.t 37) (.t 38) (Op.index 9 (Operand.tmp 37) (Operand.tmp 38))⟩,
  .g ⟨(.t 40), (.g (.t 36) false), .bin BinOp.eql (.t 39) (.c (.d (.flat (Value.int IntKind.u8 10)))) (Op.binOp BinOp.eql 5 (Operand.tmp 39) (Operand.const (Value.int IntKind.u8 10)) 5)⟩,
  .g ⟨(.l 41), .yes, .pick (.t 36) (.c (.d (.flat (Value.bool true)))) (.t 40)⟩])
 (.cond (.l 41) (.seq (.reg [.g ⟨(.l 4), .yes, .mv (.c (.d (.flat (Value.int IntKind.i64 0))))⟩])
 .ret)
 .skip)))
 .skip))
 (.reg [.mt 42 (.l 5),
  .g ⟨(.t 43), .yes, .bin BinOp.add (.t 42) (.c (.d (.flat (Value.int IntKind.i64 1)))) (Op.binOp BinOp.add 3 (Operand.tmp 42) (Operand.const (Value.int IntKind.i64 1)) 3)⟩,
  .g ⟨(.l 5), .yes, .mv (.t 43)⟩]))))))
 (.seq (.seq (.reg [.mt 44 (.l 5),
  .mt 45 (.l 0),
  .g ⟨(.t 46), .yes, .lens (.t 45)⟩,
  .g ⟨(.t 47), .yes, .bin BinOp.geq (.t 44) (.t 46) (Op.binOp BinOp.geq 3 (Operand.tmp 44) (Operand.tmp 46) 3)⟩,
  .mt 48 (.t 47),
  .g ⟨(.t 49), (.g (.t 48) false), .mv (.l 0)⟩,
  .g ⟨(.t 50), (.g (.t 48) false), .mv (.l 5)⟩,
  .g ⟨(.t 51), (.g (.t 48) false), .idx (.t 49) (.t 50) (Op.index 9 (Operand.tmp 49) (Operand.tmp 50))⟩,
  .g ⟨(.t 52), (.g (.t 48) false), .bin BinOp.neq (.t 51) (.c (.d (.flat (Value.int IntKind.u8 34)))) (Op.binOp BinOp.neq 5 (Operand.tmp 51) (Operand.const (Value.int IntKind.u8 34)) 5)⟩,
  .g ⟨(.l 53), .yes, .pick (.t 48) (.c (.d (.flat (Value.bool true)))) (.t 52)⟩])
 (.cond (.l 53) (.seq (.reg [.g ⟨(.l 4), .yes, .mv (.c (.d (.flat (Value.int IntKind.i64 0))))⟩])
 .ret)
 .skip))
 (.seq (.seq (.reg [.mt 55 (.l 0),
  .mt 56 (.l 1),
  .g ⟨(.t 57), .yes, .bin BinOp.add (.t 56) (.c (.d (.flat (Value.int IntKind.i64 1)))) (Op.binOp BinOp.add 3 (Operand.tmp 56) (Operand.const (Value.int IntKind.i64 1)) 3)⟩,
  .mt 58 (.l 5),
  .g ⟨(.t 59), .yes, .sls (.t 55) (some (.t 57)) (some (.t 58))⟩,
  .g ⟨(.t 60), .yes, .cs 101 p101 [(.t 59)]⟩,
  .mt 54 (.t 60),
  .g ⟨(.t 61), .yes, .ex (.t 54) 0⟩,
  .g ⟨(.t 62), .yes, .ex (.t 54) 1⟩,
  .mt 6 (.t 61),
  .g ⟨(.l 7), .yes, .mv (.t 62)⟩])
 (.seq (.reg [.mt 63 (.l 7),
  .g ⟨(.l 64), .yes, .not (.t 63)⟩])
 (.cond (.l 64) (.seq (.reg [.g ⟨(.l 4), .yes, .mv (.c (.d (.flat (Value.int IntKind.i64 0))))⟩])
 .ret)
 .skip)))
 (.seq (.reg [.mt 65 (.l 5),
  .g ⟨(.t 66), .yes, .bin BinOp.add (.t 65) (.c (.d (.flat (Value.int IntKind.i64 1)))) (Op.binOp BinOp.add 3 (Operand.tmp 65) (Operand.const (Value.int IntKind.i64 1)) 3)⟩,
  .mt 67 (.l 1),
  .g ⟨(.t 68), .yes, .bin BinOp.sub (.t 66) (.t 67) (Op.binOp BinOp.sub 3 (Operand.tmp 66) (Operand.tmp 67) 3)⟩,
  .g ⟨(.l 4), .yes, .mv (.t 68)⟩])
 .ret)))))), [(.t 4)]⟩
theorem x100E : EntryOK Tryz.prog mTabs 100 (.fn x100) := ⟨fnT rfl, Tryz.f100, plans 100, keeps 100, 2, Tryz.func100, rfl, by kernel_rfl, by kernel_rfl⟩
def x101 : XF := ⟨[0, 2, 3, 4, 5, 6, 10, 14, 27, 44, 53, 54, 65], [0], (.seq (.reg [.g ⟨(.l 2), .yes, .mv (.c (.d (.flat (Value.string ⟨#[]⟩))))⟩,
  .g ⟨(.l 3), .yes, .mv (.c (.d (.flat (Value.bool false))))⟩])
 (.seq (.reg [.g ⟨(.l 4), .yes, .mv (.c (.d (.flat (Value.string ⟨#[]⟩))))⟩])
 (.seq (.seq (.reg [.g ⟨(.l 5), .yes, .mv (.c (.d (.flat (Value.int IntKind.i64 0))))⟩])
 (.block 0 (.loop (some [0, 4, 5]) (.seq (.seq (.reg [.mt 7 (.l 5),
  .mt 8 (.l 0),
  .g ⟨(.t 9), .yes, .lens (.t 8)⟩,
  .g ⟨(.l 10), .yes, .bin BinOp.lss (.t 7) (.t 9) (Op.binOp BinOp.lss 3 (Operand.tmp 7) (Operand.tmp 9) 3)⟩])
 (.cond (.l 10) .skip
 (.exit 0)))
 (.block 1 (.seq (.reg [.mt 11 (.l 0),
  .mt 12 (.l 5),
  .g ⟨(.t 13), .yes, .cs 97 p97 [(.t 11), (.t 12)]⟩,
  .g ⟨(.l 6), .yes, .gen (Op.alloc 147)⟩,
  .g ⟨.no, .yes, .st 3 (.l 6) (.t 13)⟩])
 (.seq (.block 2 (.seq (.reg [.g ⟨(.t 15), .yes, .fa 2 (.l 6)⟩,
  .g ⟨(.t 16), .yes, .ld false 1 (.t 15)⟩,
  .mt 17 (.t 16),
  .g ⟨(.t 18), (.g (.t 17) false), .fa 0 (.l 6)⟩,
  .g ⟨(.t 19), (.g (.t 17) false), .ld false 1 (.t 18)⟩,
  .g ⟨(.t 20), (.g (.t 17) false), .bin BinOp.eql (.t 19) (.c (.d (.flat (Value.int IntKind.i32 34)))) (Op.binOp BinOp.eql 21 (Operand.tmp 19) (Operand.const (Value.int IntKind.i32 34)) 21)⟩,
  .g ⟨(.t 21), .yes, .pick (.t 17) (.c (.d (.flat (Value.bool true)))) (.t 20)⟩,
  .mt 22 (.t 21),
  .g ⟨(.t 23), (.g (.t 22) false), .fa 0 (.l 6)⟩,
  .g ⟨(.t 24), (.g (.t 22) false), .ld false 1 (.t 23)⟩,
  .g ⟨(.t 25), (.g (.t 22) false), .bin BinOp.eql (.t 24) (.c (.d (.flat (Value.int IntKind.i32 10)))) (Op.binOp BinOp.eql 21 (Operand.tmp 24) (Operand.const (Value.int IntKind.i32 10)) 21)⟩,
  .g ⟨(.t 26), .yes, .pick (.t 22) (.c (.d (.flat (Value.bool true)))) (.t 25)⟩,
  .g ⟨(.l 14), .yes, .mv (.t 26)⟩])
 (.cond (.l 14) (.seq (.reg [.g ⟨(.l 2), .yes, .mv (.c (.d (.flat (Value.string ⟨#[]⟩))))⟩,
  .g ⟨(.l 3), .yes, .mv (.c (.d (.flat (Value.bool false))))⟩])
 .ret)
 (.seq (.reg [.g ⟨(.t 28), .yes, .fa 0 (.l 6)⟩,
  .g ⟨(.t 29), .yes, .ld false 1 (.t 28)⟩,
  .g ⟨(.t 30), .yes, .bin BinOp.neq (.t 29) (.c (.d (.flat (Value.int IntKind.i32 92)))) (Op.binOp BinOp.neq 21 (Operand.tmp 29) (Operand.const (Value.int IntKind.i32 92)) 21)⟩,
  .g ⟨(.l 27), .yes, .mv (.t 30)⟩])
 (.cond (.l 27) (.seq (.reg [.mt 31 (.l 4),
  .mt 32 (.l 0),
  .mt 33 (.l 5),
  .mt 34 (.l 5),
  .g ⟨(.t 35), .yes, .fa 1 (.l 6)⟩,
  .g ⟨(.t 36), .yes, .ld false 1 (.t 35)⟩,
  .g ⟨(.t 37), .yes, .bin BinOp.add (.t 34) (.t 36) (Op.binOp BinOp.add 3 (Operand.tmp 34) (Operand.tmp 36) 3)⟩,
  .g ⟨(.t 38), .yes, .sls (.t 32) (some (.t 33)) (some (.t 37))⟩,
  .g ⟨(.t 39), .yes, .bin BinOp.add (.t 31) (.t 38) (Op.binOp BinOp.add 9 (Operand.tmp 31) (Operand.tmp 38) 9)⟩,
  .g ⟨(.l 4), .yes, .mv (.t 39)⟩])
 (.seq (.reg [.mt 40 (.l 5),
  .g ⟨(.t 41), .yes, .fa 1 (.l 6)⟩,
  .g ⟨(.t 42), .yes, .ld false 1 (.t 41)⟩,
  .g ⟨(.t 43), .yes, .bin BinOp.add (.t 40) (.t 42) (Op.binOp BinOp.add 3 (Operand.tmp 40) (Operand.tmp 42) 3)⟩,
  .g ⟨(.l 5), .yes, .mv (.t 43)⟩])
 (.exit 1)))
 (.seq (.reg [.mt 45 (.l 5),
  .g ⟨(.t 46), .yes, .bin BinOp.add (.t 45) (.c (.d (.flat (Value.int IntKind.i64 1)))) (Op.binOp BinOp.add 3 (Operand.tmp 45) (Operand.const (Value.int IntKind.i64 1)) 3)⟩,
  .mt 47 (.l 0),
  .g ⟨(.t 48), .yes, .lens (.t 47)⟩,
  .g ⟨(.t 49), .yes, .bin BinOp.geq (.t 46) (.t 48) (Op.binOp BinOp.geq 3 (Operand.tmp 46) (Operand.tmp 48) 3)⟩,
  .g ⟨(.l 44), .yes, .mv (.t 49)⟩])
 (.cond (.l 44) (.seq (.reg [.g ⟨(.l 2), .yes, .mv (.c (.d (.flat (Value.string ⟨#[]⟩))))⟩,
  .g ⟨(.l 3), .yes, .mv (.c (.d (.flat (Value.bool false))))⟩])
 .ret)
 .skip)))))))
 (.seq (.seq (.reg [.mt 50 (.l 0),
  .mt 51 (.l 5),
  .g ⟨(.t 52), .yes, .bin BinOp.add (.t 51) (.c (.d (.flat (Value.int IntKind.i64 1)))) (Op.binOp BinOp.add 3 (Operand.tmp 51) (Operand.const (Value.int IntKind.i64 1)) 3)⟩,
  .g ⟨(.l 53), .yes, .idx (.t 50) (.t 52) (Op.index 9 (Operand.tmp 50) (Operand.tmp 52))⟩])
 (.block 3 (.seq (.seq (.reg [.g ⟨(.t 55), .yes, .bin BinOp.eql (.l 53) (.c (.d (.flat (Value.int IntKind.u8 34)))) (Op.binOp BinOp.eql 5 (Operand.tmp 53) (Operand.const (Value.int IntKind.u8 34)) 5)⟩,
  .g ⟨(.l 54), .yes, .mv (.t 55)⟩])
 (.cond (.l 54) .skip
 (.reg [.g ⟨(.t 56), .yes, .bin BinOp.eql (.l 53) (.c (.d (.flat (Value.int IntKind.u8 92)))) (Op.binOp BinOp.eql 5 (Operand.tmp 53) (Operand.const (Value.int IntKind.u8 92)) 5)⟩,
  .g ⟨(.l 54), .yes, .mv (.t 56)⟩])))
 (.cond (.l 54) (.reg [.mt 57 (.l 4),
  .mt 58 (.l 0),
  .mt 59 (.l 5),
  .g ⟨(.t 60), .yes, .bin BinOp.add (.t 59) (.c (.d (.flat (Value.int IntKind.i64 1)))) (Op.binOp BinOp.add 3 (Operand.tmp 59) (Operand.const (Value.int IntKind.i64 1)) 3)⟩,
  .mt 61 (.l 5),
  .g ⟨(.t 62), .yes, .bin BinOp.add (.t 61) (.c (.d (.flat (Value.int IntKind.i64 2)))) (Op.binOp BinOp.add 3 (Operand.tmp 61) (Operand.const (Value.int IntKind.i64 2)) 3)⟩,
  .g ⟨(.t 63), .yes, .sls (.t 58) (some (.t 60)) (some (.t 62))⟩,
  .g ⟨(.t 64), .yes, .bin BinOp.add (.t 57) (.t 63) (Op.binOp BinOp.add 9 (Operand.tmp 57) (Operand.tmp 63) 9)⟩,
  .g ⟨(.l 4), .yes, .mv (.t 64)⟩])
 (.seq (.reg [.g ⟨(.t 66), .yes, .bin BinOp.eql (.l 53) (.c (.d (.flat (Value.int IntKind.u8 110)))) (Op.binOp BinOp.eql 5 (Operand.tmp 53) (Operand.const (Value.int IntKind.u8 110)) 5)⟩,
  .g ⟨(.l 65), .yes, .mv (.t 66)⟩])
 (.cond (.l 65) (.reg [.mt 67 (.l 4),
  .g ⟨(.t 68), .yes, .bin BinOp.add (.t 67) (.c (.d (.flat (Value.string ⟨#[10]⟩)))) (Op.binOp BinOp.add 9 (Operand.tmp 67) (Operand.const (Value.string ⟨#[10]⟩)) 9)⟩,
  .g ⟨(.l 4), .yes, .mv (.t 68)⟩])
 (.seq (.reg [.g ⟨(.l 2), .yes, .mv (.c (.d (.flat (Value.string ⟨#[]⟩))))⟩,
  .g ⟨(.l 3), .yes, .mv (.c (.d (.flat (Value.bool false))))⟩])
 .ret)))))))
 (.reg [.mt 69 (.l 5),
  .g ⟨(.t 70), .yes, .bin BinOp.add (.t 69) (.c (.d (.flat (Value.int IntKind.i64 2)))) (Op.binOp BinOp.add 3 (Operand.tmp 69) (Operand.const (Value.int IntKind.i64 2)) 3)⟩,
  .g ⟨(.l 5), .yes, .mv (.t 70)⟩])))))))))
 (.seq (.reg [.mt 71 (.l 4),
  .g ⟨(.l 2), .yes, .mv (.t 71)⟩,
  .g ⟨(.l 3), .yes, .mv (.c (.d (.flat (Value.bool true))))⟩])
 .ret)))), [(.t 2), (.t 3)]⟩
theorem x101E : EntryOK Tryz.prog mTabs 101 (.fn x101) := ⟨fnT rfl, Tryz.f101, plans 101, keeps 101, 1, Tryz.func101, rfl, by kernel_rfl, by kernel_rfl⟩
def x102 : XF := ⟨[0, 2, 12], [0], (.seq (.reg [.g ⟨(.l 2), .yes, .mv (.c (.d (.flat (Value.int IntKind.i64 0))))⟩])
 (.seq (.seq (.drw [] [.st ⟨true, false, ⟨(.t 3), .yes, .mv (.l 0)⟩⟩,
  .st ⟨true, false, ⟨(.t 4), .yes, .nc (.t 3)⟩⟩,
  .st ⟨true, false, ⟨(.t 5), .yes, .fa 2 (.t 4)⟩⟩,
  .st ⟨true, false, ⟨(.t 6), .yes, .ld false 1 (.t 5)⟩⟩,
  .st ⟨true, false, ⟨(.t 7), .yes, .mv (.l 0)⟩⟩,
  .st ⟨true, false, ⟨(.t 8), .yes, .nc (.t 7)⟩⟩,
  .st ⟨true, false, ⟨(.t 9), .yes, .fa 0 (.t 8)⟩⟩,
  .st ⟨true, false, ⟨(.t 10), .yes, .ld false 1 (.t 9)⟩⟩,
  .st ⟨true, false, ⟨(.t 11), .yes, .lenr (.t 10)⟩⟩,
  .st ⟨true, false, ⟨(.l 12), .yes, .bin BinOp.lss (.t 6) (.t 11) (Op.binOp BinOp.lss 3 (Operand.tmp 6) (Operand.tmp 11) 3)⟩⟩])
 (.cond (.l 12) (.seq (.drw [] [.st ⟨true, false, ⟨(.t 13), .yes, .mv (.l 0)⟩⟩,
  .st ⟨true, false, ⟨(.t 14), .yes, .nc (.t 13)⟩⟩,
  .st ⟨true, false, ⟨(.t 15), .yes, .fa 0 (.t 14)⟩⟩,
  .st ⟨true, false, ⟨(.t 16), .yes, .ld false 1 (.t 15)⟩⟩,
  .st ⟨true, false, ⟨(.t 17), .yes, .mv (.l 0)⟩⟩,
  .st ⟨true, false, ⟨(.t 18), .yes, .nc (.t 17)⟩⟩,
  .st ⟨true, false, ⟨(.t 19), .yes, .fa 2 (.t 18)⟩⟩,
  .st ⟨true, false, ⟨(.t 20), .yes, .ld false 1 (.t 19)⟩⟩,
  .st ⟨true, false, ⟨(.t 21), .yes, .ia 3 (.t 16) (.t 20)⟩⟩,
  .st ⟨true, false, ⟨(.t 22), .yes, .fa 2 (.t 21)⟩⟩,
  .st ⟨true, false, ⟨(.t 23), .yes, .ld false 1 (.t 22)⟩⟩,
  .st ⟨true, false, ⟨(.l 2), .yes, .mv (.t 23)⟩⟩])
 .ret)
 .skip))
 (.seq (.reg [.mt 24 (.l 0),
  .g ⟨(.t 25), .yes, .nc (.t 24)⟩,
  .g ⟨(.t 26), .yes, .fa 1 (.t 25)⟩,
  .g ⟨(.t 27), .yes, .ld false 1 (.t 26)⟩,
  .g ⟨(.l 2), .yes, .mv (.t 27)⟩])
 .ret))), [(.t 2)]⟩
theorem x102E : EntryOK Tryz.prog mTabs 102 (.fn x102) := ⟨fnT rfl, Tryz.f102, plans 102, keeps 102, 1, Tryz.func102, rfl, by kernel_rfl, by kernel_rfl⟩
def x103 : XF := ⟨[0, 2], [0], (.seq (.reg [.g ⟨(.l 2), .yes, .mv (.c (.d (.flat (Value.bool false))))⟩])
 (.seq (.reg [.mt 3 (.l 0),
  .g ⟨(.t 4), .yes, .bin BinOp.neq (.t 3) (.c (.d (.flat (Value.string ⟨#[]⟩)))) (Op.binOp BinOp.neq 9 (Operand.tmp 3) (Operand.const (Value.string ⟨#[]⟩)) 9)⟩,
  .mt 5 (.t 4),
  .g ⟨(.t 6), (.g (.t 5) true), .mv (.l 0)⟩,
  .g ⟨(.t 7), (.g (.t 5) true), .idx (.t 6) (.c (.d (.flat (Value.int IntKind.i64 0)))) (Op.index 9 (Operand.tmp 6) (Operand.const (Value.int IntKind.i64 0)))⟩,
  .g ⟨(.t 8), (.g (.t 5) true), .gen (Op.convert 5 21 (Operand.tmp 7))⟩,
  .g ⟨(.t 9), (.g (.t 5) true), .cs 112 p112 [(.t 8)]⟩,
  .g ⟨(.t 10), .yes, .pick (.t 5) (.t 9) (.c (.d (.flat (Value.bool false))))⟩,
  .mt 11 (.t 10),
  .g ⟨(.t 12), (.g (.t 11) true), .mv (.l 0)⟩,
  .g ⟨(.t 13), (.g (.t 11) true), .bin BinOp.neq (.t 12) (.c (.d (.flat (Value.string ⟨#[83, 116, 114, 105, 110, 103]⟩)))) (Op.binOp BinOp.neq 9 (Operand.tmp 12) (Operand.const (Value.string ⟨#[83, 116, 114, 105, 110, 103]⟩)) 9)⟩,
  .g ⟨(.t 14), .yes, .pick (.t 11) (.t 13) (.c (.d (.flat (Value.bool false))))⟩,
  .g ⟨(.l 2), .yes, .mv (.t 14)⟩])
 .ret)), [(.t 2)]⟩
theorem x103E : EntryOK Tryz.prog mTabs 103 (.fn x103) := ⟨fnT rfl, Tryz.f103, plans 103, keeps 103, 1, Tryz.func103, rfl, by kernel_rfl, by kernel_rfl⟩
def x104 : XF := ⟨[0, 2, 7], [0], (.seq (.reg [.g ⟨(.l 2), .yes, .mv (.c (.d (.flat (Value.bool false))))⟩])
 (.seq (.seq (.reg [.mt 3 (.l 0),
  .g ⟨(.t 4), .yes, .nc (.t 3)⟩,
  .g ⟨(.t 5), .yes, .fa 5 (.t 4)⟩,
  .g ⟨(.t 6), .yes, .ld false 1 (.t 5)⟩,
  .g ⟨(.l 7), .yes, .bin BinOp.gtr (.t 6) (.c (.d (.flat (Value.int IntKind.i64 40)))) (Op.binOp BinOp.gtr 3 (Operand.tmp 6) (Operand.const (Value.int IntKind.i64 40)) 3)⟩])
 (.cond (.l 7) (.seq (.reg [.mt 8 (.l 0),
  .g ⟨(.t 9), .yes, .cs 72 p72 [(.t 8), (.c (.d (.flat (Value.int IntKind.i64 4))))]⟩])
 (.seq (.reg [.g ⟨(.l 2), .yes, .mv (.c (.d (.flat (Value.bool false))))⟩])
 .ret))
 .skip))
 (.seq (.reg [.mt 10 (.l 0),
  .g ⟨(.t 11), .yes, .nc (.t 10)⟩,
  .g ⟨(.t 12), .yes, .fa 5 (.t 11)⟩,
  .g ⟨(.t 13), .yes, .ld false 1 (.t 12)⟩,
  .g ⟨(.t 14), .yes, .bin BinOp.add (.t 13) (.c (.d (.flat (Value.int IntKind.i64 1)))) (Op.binOp BinOp.add 3 (Operand.tmp 13) (Operand.const (Value.int IntKind.i64 1)) 3)⟩,
  .g ⟨(.t 15), .yes, .nc (.t 10)⟩,
  .g ⟨(.t 16), .yes, .fa 5 (.t 15)⟩,
  .g ⟨.no, .yes, .st 1 (.t 16) (.t 14)⟩])
 (.seq (.reg [.g ⟨(.l 2), .yes, .mv (.c (.d (.flat (Value.bool true))))⟩])
 .ret)))), [(.t 2)]⟩
theorem x104E : EntryOK Tryz.prog mTabs 104 (.fn x104) := ⟨fnT rfl, Tryz.f104, plans 104, keeps 104, 1, Tryz.func104, rfl, by kernel_rfl, by kernel_rfl⟩
def x105 : XF := ⟨[0, 1, 4, 5, 6, 7, 13, 22, 32, 36, 67, 76, 81, 89, 95, 100, 107, 117, 124, 146, 151, 183], [0, 1], (.seq (.reg [.g ⟨(.l 4), .yes, .gen (Op.alloc 126)⟩])
 (.seq (.reg [.mt 8 (.l 0),
  .g ⟨(.t 9), .yes, .cs 102 p102 [(.t 8)]⟩,
  .g ⟨(.l 5), .yes, .mv (.t 9)⟩])
 (.seq (.reg [.g ⟨(.l 6), .yes, .gen (Op.alloc 126)⟩])
 (.seq (.block 0 (.seq (.reg [.mt 37 (.l 0),
  .g ⟨(.t 38), .yes, .cs 76 p76 [(.t 37), (.c (.d (.flat (Value.int IntKind.i64 0)))), (.c (.d (.flat (Value.int IntKind.i64 1)))), (.c (.d (.flat (Value.string ⟨#[105, 110, 116]⟩))))]⟩,
  .mt 39 (.t 38),
  .g ⟨(.t 40), (.g (.t 39) false), .mv (.l 0)⟩,
  .g ⟨(.t 41), (.g (.t 39) false), .cs 76 p76 [(.t 40), (.c (.d (.flat (Value.int IntKind.i64 0)))), (.c (.d (.flat (Value.int IntKind.i64 1)))), (.c (.d (.flat (Value.string ⟨#[98, 111, 111, 108, 101, 97, 110]⟩))))]⟩,
  .g ⟨(.t 42), .yes, .pick (.t 39) (.c (.d (.flat (Value.bool true)))) (.t 41)⟩,
  .mt 43 (.t 42),
  .g ⟨(.t 44), (.g (.t 43) false), .mv (.l 0)⟩,
  .g ⟨(.t 45), (.g (.t 43) false), .cs 76 p76 [(.t 44), (.c (.d (.flat (Value.int IntKind.i64 0)))), (.c (.d (.flat (Value.int IntKind.i64 1)))), (.c (.d (.flat (Value.string ⟨#[83, 116, 114, 105, 110, 103]⟩))))]⟩,
  .g ⟨(.t 46), .yes, .pick (.t 43) (.c (.d (.flat (Value.bool true)))) (.t 45)⟩,
  .mt 47 (.t 46),
  .g ⟨(.t 48), (.g (.t 47) false), .mv (.l 0)⟩,
  .g ⟨(.t 49), (.g (.t 47) false), .cs 73 p73 [(.t 48), (.c (.d (.flat (Value.int IntKind.i64 0))))]⟩,
  .g ⟨(.t 50), (.g (.t 47) false), .mv (.t 49)⟩,
  .g ⟨(.t 51), (.g (.t 50) true), .mv (.l 0)⟩,
  .g ⟨(.t 52), (.g (.t 50) true), .cs 76 p76 [(.t 51), (.c (.d (.flat (Value.int IntKind.i64 1)))), (.c (.d (.flat (Value.int IntKind.i64 1)))), (.c (.d (.flat (Value.string ⟨#[]⟩))))]⟩,
  .g ⟨(.t 53), (.g (.t 47) false), .pick (.t 50) (.t 52) (.c (.d (.flat (Value.bool false))))⟩,
  .g ⟨(.t 54), .yes, .pick (.t 47) (.c (.d (.flat (Value.bool true)))) (.t 53)⟩,
  .g ⟨(.l 36), .yes, .mv (.t 54)⟩])
 (.cond (.l 36) (.seq (.reg [.mt 55 (.l 0),
  .g ⟨(.t 56), .yes, .cs 80 p80 [(.t 55)]⟩,
  .g ⟨(.t 57), .yes, .gen (Op.build 126 #[(0, (Operand.const (Value.int IntKind.i64 1))), (2, (Operand.tmp 56))])⟩,
  .g ⟨.no, .yes, .st 9 (.l 6) (.t 57)⟩])
 (.seq (.reg [.mt 58 (.l 0),
  .g ⟨(.t 59), .yes, .cs 79 p79 [(.t 58)]⟩,
  .g ⟨(.t 60), .yes, .fa 3 (.l 6)⟩,
  .g ⟨.no, .yes, .st 1 (.t 60) (.t 59)⟩])
 (.seq (.reg [.mt 61 (.l 0),
  .g ⟨(.t 62), .yes, .cs 45 p45 [(.t 61), (.c (.d (.flat (Value.string ⟨#[61]⟩))))]⟩])
 (.reg [.mt 63 (.l 0),
  .g ⟨(.t 64), .yes, .cs 81 p81 [(.t 63)]⟩,
  .g ⟨(.t 65), .yes, .gen (Op.buildSlice 74 1 #[(0, (Operand.tmp 64))])⟩,
  .g ⟨(.t 66), .yes, .fa 4 (.l 6)⟩,
  .g ⟨.no, .yes, .st 1 (.t 66) (.t 65)⟩]))))
 (.seq (.reg [.mt 68 (.l 0),
  .g ⟨(.t 69), .yes, .cs 47 p47 [(.t 68), (.c (.d (.flat (Value.string ⟨#[105, 102]⟩))))]⟩,
  .g ⟨(.l 67), .yes, .mv (.t 69)⟩])
 (.cond (.l 67) (.seq (.reg [.mt 70 (.l 0),
  .g ⟨(.t 71), .yes, .cs 129 p129 [(.t 70)]⟩,
  .mt 72 (.l 0),
  .g ⟨(.t 73), .yes, .cs 78 p78 [(.t 72), (.c (.d (.flat (Value.bool false))))]⟩,
  .g ⟨(.t 74), .yes, .gen (Op.build 126 #[(0, (Operand.const (Value.int IntKind.i64 4))), (4, (Operand.tmp 71)), (5, (Operand.tmp 73))])⟩,
  .g ⟨.no, .yes, .st 9 (.l 6) (.t 74)⟩])
 (.seq (.seq (.reg [.mt 75 (.l 0),
  .g ⟨(.l 76), .yes, .cs 47 p47 [(.t 75), (.c (.d (.flat (Value.string ⟨#[101, 108, 115, 101]⟩))))]⟩])
 (.cond (.l 76) (.reg [.mt 77 (.l 0),
  .g ⟨(.t 78), .yes, .cs 78 p78 [(.t 77), (.c (.d (.flat (Value.bool false))))]⟩,
  .g ⟨(.t 79), .yes, .fa 6 (.l 6)⟩,
  .g ⟨.no, .yes, .st 1 (.t 79) (.t 78)⟩])
 .skip))
 (.seq (.reg [.g ⟨(.t 80), .yes, .ld true 9 (.l 6)⟩,
  .g ⟨.no, .yes, .st 9 (.l 4) (.t 80)⟩])
 .ret)))
 (.seq (.reg [.mt 82 (.l 0),
  .g ⟨(.t 83), .yes, .cs 47 p47 [(.t 82), (.c (.d (.flat (Value.string ⟨#[119, 104, 105, 108, 101]⟩))))]⟩,
  .g ⟨(.l 81), .yes, .mv (.t 83)⟩])
 (.cond (.l 81) (.seq (.reg [.mt 84 (.l 0),
  .g ⟨(.t 85), .yes, .cs 129 p129 [(.t 84)]⟩,
  .mt 86 (.l 0),
  .g ⟨(.t 87), .yes, .cs 78 p78 [(.t 86), (.c (.d (.flat (Value.bool false))))]⟩,
  .g ⟨(.t 88), .yes, .gen (Op.build 126 #[(0, (Operand.const (Value.int IntKind.i64 5))), (4, (Operand.tmp 85)), (5, (Operand.tmp 87))])⟩,
  .g ⟨.no, .yes, .st 9 (.l 4) (.t 88)⟩])
 .ret)
 (.seq (.reg [.mt 90 (.l 0),
  .g ⟨(.t 91), .yes, .cs 47 p47 [(.t 90), (.c (.d (.flat (Value.string ⟨#[114, 101, 116, 117, 114, 110]⟩))))]⟩,
  .g ⟨(.l 89), .yes, .mv (.t 91)⟩])
 (.cond (.l 89) (.seq (.reg [.g ⟨(.t 92), .yes, .gen (Op.build 126 #[(0, (Operand.const (Value.int IntKind.i64 6)))])⟩,
  .g ⟨.no, .yes, .st 9 (.l 6) (.t 92)⟩])
 (.seq (.reg [.mt 93 (.l 0),
  .g ⟨(.t 94), .yes, .cs 48 p48 [(.t 93), (.c (.d (.flat (Value.string ⟨#[59]⟩))))]⟩,
  .g ⟨(.l 95), .yes, .not (.t 94)⟩])
 (.cond (.l 95) (.reg [.mt 96 (.l 0),
  .g ⟨(.t 97), .yes, .cs 81 p81 [(.t 96)]⟩,
  .g ⟨(.t 98), .yes, .gen (Op.buildSlice 74 1 #[(0, (Operand.tmp 97))])⟩,
  .g ⟨(.t 99), .yes, .fa 4 (.l 6)⟩,
  .g ⟨.no, .yes, .st 1 (.t 99) (.t 98)⟩])
 .skip)))
 (.seq (.reg [.mt 101 (.l 0),
  .g ⟨(.t 102), .yes, .cs 47 p47 [(.t 101), (.c (.d (.flat (Value.string ⟨#[112, 114, 105, 110, 116]⟩))))]⟩,
  .g ⟨(.l 100), .yes, .mv (.t 102)⟩])
 (.cond (.l 100) (.reg [.mt 103 (.l 0),
  .g ⟨(.t 104), .yes, .cs 81 p81 [(.t 103)]⟩,
  .g ⟨(.t 105), .yes, .gen (Op.buildSlice 74 1 #[(0, (Operand.tmp 104))])⟩,
  .g ⟨(.t 106), .yes, .gen (Op.build 126 #[(0, (Operand.const (Value.int IntKind.i64 7))), (4, (Operand.tmp 105))])⟩,
  .g ⟨.no, .yes, .st 9 (.l 6) (.t 106)⟩])
 (.seq (.reg [.mt 108 (.l 0),
  .g ⟨(.t 109), .yes, .cs 47 p47 [(.t 108), (.c (.d (.flat (Value.string ⟨#[97, 115, 115, 101, 114, 116]⟩))))]⟩,
  .g ⟨(.l 107), .yes, .mv (.t 109)⟩])
 (.cond (.l 107) (.seq (.reg [.mt 110 (.l 0),
  .g ⟨(.t 111), .yes, .cs 130 p130 [(.t 110), (.c (.d (.flat (Value.int IntKind.i64 9999))))]⟩,
  .g ⟨(.t 112), .yes, .gen (Op.build 126 #[(0, (Operand.const (Value.int IntKind.i64 8))), (1, (Operand.tmp 111))])⟩,
  .g ⟨.no, .yes, .st 9 (.l 6) (.t 112)⟩])
 (.reg [.mt 113 (.l 0),
  .g ⟨(.t 114), .yes, .cs 81 p81 [(.t 113)]⟩,
  .g ⟨(.t 115), .yes, .gen (Op.buildSlice 74 1 #[(0, (Operand.tmp 114))])⟩,
  .g ⟨(.t 116), .yes, .fa 4 (.l 6)⟩,
  .g ⟨.no, .yes, .st 1 (.t 116) (.t 115)⟩]))
 (.seq (.reg [.mt 118 (.l 0),
  .g ⟨(.t 119), .yes, .cs 47 p47 [(.t 118), (.c (.d (.flat (Value.string ⟨#[116, 104, 114, 111, 119]⟩))))]⟩,
  .g ⟨(.l 117), .yes, .mv (.t 119)⟩])
 (.cond (.l 117) (.reg [.mt 120 (.l 0),
  .g ⟨(.t 121), .yes, .cs 81 p81 [(.t 120)]⟩,
  .g ⟨(.t 122), .yes, .gen (Op.buildSlice 74 1 #[(0, (Operand.tmp 121))])⟩,
  .g ⟨(.t 123), .yes, .gen (Op.build 126 #[(0, (Operand.const (Value.int IntKind.i64 9))), (4, (Operand.tmp 122))])⟩,
  .g ⟨.no, .yes, .st 9 (.l 6) (.t 123)⟩])
 (.seq (.reg [.mt 125 (.l 0),
  .g ⟨(.t 126), .yes, .cs 47 p47 [(.t 125), (.c (.d (.flat (Value.string ⟨#[116, 114, 121]⟩))))]⟩,
  .g ⟨(.l 124), .yes, .mv (.t 126)⟩])
 (.cond (.l 124) (.seq (.reg [.mt 127 (.l 0),
  .g ⟨(.t 128), .yes, .cs 78 p78 [(.t 127), (.c (.d (.flat (Value.bool false))))]⟩,
  .g ⟨(.t 129), .yes, .gen (Op.build 126 #[(0, (Operand.const (Value.int IntKind.i64 10))), (5, (Operand.tmp 128))])⟩,
  .g ⟨.no, .yes, .st 9 (.l 6) (.t 129)⟩])
 (.seq (.reg [.mt 130 (.l 0),
  .g ⟨(.t 131), .yes, .cs 45 p45 [(.t 130), (.c (.d (.flat (Value.string ⟨#[99, 97, 116, 99, 104]⟩))))]⟩])
 (.seq (.reg [.mt 132 (.l 0),
  .g ⟨(.t 133), .yes, .cs 45 p45 [(.t 132), (.c (.d (.flat (Value.string ⟨#[40]⟩))))]⟩])
 (.seq (.reg [.mt 134 (.l 0),
  .g ⟨(.t 135), .yes, .cs 46 p46 [(.t 134)]⟩,
  .g ⟨(.t 136), .yes, .fa 2 (.l 6)⟩,
  .g ⟨.no, .yes, .st 1 (.t 136) (.t 135)⟩])
 (.seq (.reg [.mt 137 (.l 0),
  .g ⟨(.t 138), .yes, .cs 79 p79 [(.t 137)]⟩,
  .g ⟨(.t 139), .yes, .fa 3 (.l 6)⟩,
  .g ⟨.no, .yes, .st 1 (.t 139) (.t 138)⟩])
 (.seq (.reg [.mt 140 (.l 0),
  .g ⟨(.t 141), .yes, .cs 45 p45 [(.t 140), (.c (.d (.flat (Value.string ⟨#[41]⟩))))]⟩])
 (.seq (.reg [.mt 142 (.l 0),
  .g ⟨(.t 143), .yes, .cs 78 p78 [(.t 142), (.c (.d (.flat (Value.bool false))))]⟩,
  .g ⟨(.t 144), .yes, .fa 6 (.l 6)⟩,
  .g ⟨.no, .yes, .st 1 (.t 144) (.t 143)⟩])
 (.seq (.seq (.reg [.mt 145 (.l 0),
  .g ⟨(.l 146), .yes, .cs 47 p47 [(.t 145), (.c (.d (.flat (Value.string ⟨#[102, 105, 110, 97, 108, 108, 121]⟩))))]⟩])
 (.cond (.l 146) (.reg [.mt 147 (.l 0),
  .g ⟨(.t 148), .yes, .cs 78 p78 [(.t 147), (.c (.d (.flat (Value.bool false))))]⟩,
  .g ⟨(.t 149), .yes, .fa 7 (.l 6)⟩,
  .g ⟨.no, .yes, .st 1 (.t 149) (.t 148)⟩])
 .skip))
 (.seq (.reg [.g ⟨(.t 150), .yes, .ld true 9 (.l 6)⟩,
  .g ⟨.no, .yes, .st 9 (.l 4) (.t 150)⟩])
 .ret)))))))))
 (.seq (.reg [.mt 152 (.l 0),
  .g ⟨(.t 153), .yes, .cs 75 p75 [(.t 152), (.c (.d (.flat (Value.string ⟨#[115, 117, 112, 101, 114]⟩))))]⟩,
  .mt 154 (.t 153),
  .g ⟨(.t 155), (.g (.t 154) true), .mv (.l 0)⟩,
  .g ⟨(.t 156), (.g (.t 154) true), .cs 76 p76 [(.t 155), (.c (.d (.flat (Value.int IntKind.i64 1)))), (.c (.d (.flat (Value.int IntKind.i64 4)))), (.c (.d (.flat (Value.string ⟨#[40]⟩))))]⟩,
  .g ⟨(.t 157), .yes, .pick (.t 154) (.t 156) (.c (.d (.flat (Value.bool false))))⟩,
  .g ⟨(.l 151), .yes, .mv (.t 157)⟩])
 (.cond (.l 151) (.seq (.reg [.mt 158 (.l 0),
  .g ⟨(.t 159), .yes, .nc (.t 158)⟩,
  .g ⟨(.t 160), .yes, .fa 2 (.t 159)⟩,
  .g ⟨(.t 161), .yes, .ld false 1 (.t 160)⟩,
  .g ⟨(.t 162), .yes, .bin BinOp.add (.t 161) (.c (.d (.flat (Value.int IntKind.i64 1)))) (Op.binOp BinOp.add 3 (Operand.tmp 161) (Operand.const (Value.int IntKind.i64 1)) 3)⟩,
  .g ⟨(.t 163), .yes, .nc (.t 158)⟩,
  .g ⟨(.t 164), .yes, .fa 2 (.t 163)⟩,
  .g ⟨.no, .yes, .st 1 (.t 164) (.t 162)⟩])
 (.seq (.reg [.mt 165 (.l 0),
  .g ⟨(.t 166), .yes, .nc (.t 165)⟩,
  .g ⟨(.t 167), .yes, .fa 5 (.t 166)⟩,
  .g ⟨(.t 168), .yes, .ld false 1 (.t 167)⟩,
  .g ⟨(.t 169), .yes, .bin BinOp.sub (.t 168) (.c (.d (.flat (Value.int IntKind.i64 1)))) (Op.binOp BinOp.sub 3 (Operand.tmp 168) (Operand.const (Value.int IntKind.i64 1)) 3)⟩,
  .g ⟨(.t 170), .yes, .nc (.t 165)⟩,
  .g ⟨(.t 171), .yes, .fa 5 (.t 170)⟩,
  .g ⟨.no, .yes, .st 1 (.t 171) (.t 169)⟩])
 (.seq (.reg [.mt 172 (.l 0),
  .g ⟨(.t 173), .yes, .cs 131 p131 [(.t 172)]⟩,
  .g ⟨(.t 174), .yes, .gen (Op.build 126 #[(0, (Operand.const (Value.int IntKind.i64 11))), (4, (Operand.tmp 173))])⟩,
  .g ⟨.no, .yes, .st 9 (.l 6) (.t 174)⟩])
 (.seq (.reg [.mt 175 (.l 0),
  .g ⟨(.t 176), .yes, .nc (.t 175)⟩,
  .g ⟨(.t 177), .yes, .fa 5 (.t 176)⟩,
  .g ⟨(.t 178), .yes, .ld false 1 (.t 177)⟩,
  .g ⟨(.t 179), .yes, .bin BinOp.add (.t 178) (.c (.d (.flat (Value.int IntKind.i64 1)))) (Op.binOp BinOp.add 3 (Operand.tmp 178) (Operand.const (Value.int IntKind.i64 1)) 3)⟩,
  .g ⟨(.t 180), .yes, .nc (.t 175)⟩,
  .g ⟨(.t 181), .yes, .fa 5 (.t 180)⟩,
  .g ⟨.no, .yes, .st 1 (.t 181) (.t 179)⟩])
 (.seq (.reg [.mt 182 (.l 1),
  .g ⟨(.l 183), .yes, .not (.t 182)⟩])
 (.cond (.l 183) (.reg [.mt 184 (.l 0),
  .mt 185 (.l 5),
  .g ⟨(.t 186), .yes, .cs 132 p132 [(.t 184), (.t 185)]⟩])
 .skip))))))
 (.seq (.reg [.mt 10 (.l 0),
  .g ⟨(.t 11), .yes, .cs 81 p81 [(.t 10)]⟩,
  .g ⟨(.l 7), .yes, .gen (Op.alloc 124)⟩,
  .g ⟨.no, .yes, .st 8 (.l 7) (.t 11)⟩])
 (.seq (.reg [.mt 12 (.l 0),
  .g ⟨(.l 13), .yes, .cs 47 p47 [(.t 12), (.c (.d (.flat (Value.string ⟨#[61]⟩))))]⟩])
 (.cond (.l 13) (.seq (.drw [(.l 0)] [.st ⟨true, false, ⟨(.t 14), .yes, .ld true 8 (.l 7)⟩⟩,
  .st ⟨true, false, ⟨(.t 15), .yes, .mv (.l 0)⟩⟩,
  .st ⟨false, false, ⟨(.t 16), .yes, .cs 81 p81 [(.t 15)]⟩⟩,
  .st ⟨false, false, ⟨(.t 17), .yes, .gen (Op.buildSlice 74 2 #[(0, (Operand.tmp 14)), (1, (Operand.tmp 16))])⟩⟩,
  .st ⟨true, false, ⟨(.t 18), .yes, .gen (Op.build 126 #[(0, (Operand.const (Value.int IntKind.i64 2))), (4, (Operand.tmp 17))])⟩⟩,
  .st ⟨false, true, ⟨.no, .yes, .st 9 (.l 6) (.t 18)⟩⟩])
 (.seq (.reg [.g ⟨(.t 19), .yes, .fa 0 (.l 7)⟩,
  .g ⟨(.t 20), .yes, .ld false 1 (.t 19)⟩,
  .g ⟨(.t 21), .yes, .cs 133 p133 [(.t 20)]⟩,
  .g ⟨(.l 22), .yes, .not (.t 21)⟩])
 (.cond (.l 22) (.reg [.mt 23 (.l 0),
  .mt 24 (.l 5),
  .g ⟨(.t 25), .yes, .cs 132 p132 [(.t 23), (.t 24)]⟩])
 .skip)))
 (.seq (.reg [.g ⟨(.t 26), .yes, .ld true 8 (.l 7)⟩,
  .g ⟨(.t 27), .yes, .gen (Op.buildSlice 74 1 #[(0, (Operand.tmp 26))])⟩,
  .g ⟨(.t 28), .yes, .gen (Op.build 126 #[(0, (Operand.const (Value.int IntKind.i64 3))), (4, (Operand.tmp 27))])⟩,
  .g ⟨.no, .yes, .st 9 (.l 6) (.t 28)⟩])
 (.seq (.reg [.g ⟨(.t 29), .yes, .fa 0 (.l 7)⟩,
  .g ⟨(.t 30), .yes, .ld false 1 (.t 29)⟩,
  .g ⟨(.t 31), .yes, .cs 134 p134 [(.t 30)]⟩,
  .g ⟨(.l 32), .yes, .not (.t 31)⟩])
 (.cond (.l 32) (.reg [.mt 33 (.l 0),
  .mt 34 (.l 5),
  .g ⟨(.t 35), .yes, .cs 132 p132 [(.t 33), (.t 34)]⟩])
 .skip)))))))))))))))))))))))))
 (.seq (.reg [.mt 187 (.l 0),
  .g ⟨(.t 188), .yes, .cs 45 p45 [(.t 187), (.c (.d (.flat (Value.string ⟨#[59]⟩))))]⟩])
 (.seq (.reg [.g ⟨(.t 189), .yes, .ld true 9 (.l 6)⟩,
  .g ⟨.no, .yes, .st 9 (.l 4) (.t 189)⟩])
 .ret)))))), [(.c 4 true 9)]⟩
theorem x105E : EntryOK Tryz.prog mTabs 105 (.fn x105) := ⟨fnT rfl, Tryz.f105, plans 105, keeps 105, 2, Tryz.func105, rfl, by kernel_rfl, by kernel_rfl⟩
def x106 : XF := ⟨[0, 1, 4], [0, 1], (.seq (.reg [.g ⟨(.l 4), .yes, .mv (.c (.d (.flat (Value.bool false))))⟩])
 (.seq (.drw [] [.st ⟨true, false, ⟨(.t 5), .yes, .mv (.l 0)⟩⟩,
  .st ⟨true, false, ⟨(.t 6), .yes, .mv (.l 1)⟩⟩,
  .st ⟨false, true, ⟨(.t 7), .yes, .cs 76 p76 [(.t 5), (.t 6), (.c (.d (.flat (Value.int IntKind.i64 1)))), (.c (.d (.flat (Value.string ⟨#[]⟩))))]⟩⟩,
  .st ⟨true, false, ⟨(.t 8), .yes, .mv (.t 7)⟩⟩,
  .st ⟨true, false, ⟨(.t 9), (.g (.t 8) true), .mv (.l 0)⟩⟩,
  .st ⟨true, false, ⟨(.t 10), (.g (.t 8) true), .nc (.t 9)⟩⟩,
  .st ⟨true, false, ⟨(.t 11), (.g (.t 8) true), .fa 0 (.t 10)⟩⟩,
  .st ⟨true, false, ⟨(.t 12), (.g (.t 8) true), .ld false 1 (.t 11)⟩⟩,
  .st ⟨true, false, ⟨(.t 13), (.g (.t 8) true), .mv (.l 0)⟩⟩,
  .st ⟨true, false, ⟨(.t 14), (.g (.t 8) true), .nc (.t 13)⟩⟩,
  .st ⟨true, false, ⟨(.t 15), (.g (.t 8) true), .fa 2 (.t 14)⟩⟩,
  .st ⟨true, false, ⟨(.t 16), (.g (.t 8) true), .ld false 1 (.t 15)⟩⟩,
  .st ⟨true, false, ⟨(.t 17), (.g (.t 8) true), .mv (.l 1)⟩⟩,
  .st ⟨true, false, ⟨(.t 18), (.g (.t 8) true), .bin BinOp.add (.t 16) (.t 17) (Op.binOp BinOp.add 3 (Operand.tmp 16) (Operand.tmp 17) 3)⟩⟩,
  .st ⟨true, false, ⟨(.t 19), (.g (.t 8) true), .ia 3 (.t 12) (.t 18)⟩⟩,
  .st ⟨true, false, ⟨(.t 20), (.g (.t 8) true), .fa 1 (.t 19)⟩⟩,
  .st ⟨true, false, ⟨(.t 21), (.g (.t 8) true), .ld false 1 (.t 20)⟩⟩,
  .st ⟨false, true, ⟨(.t 22), (.g (.t 8) true), .cs 135 p135 [(.t 21)]⟩⟩,
  .st ⟨true, false, ⟨(.t 23), .yes, .pick (.t 8) (.t 22) (.c (.d (.flat (Value.bool false))))⟩⟩,
  .st ⟨true, false, ⟨(.l 4), .yes, .mv (.t 23)⟩⟩])
 .ret)), [(.t 4)]⟩
theorem x106E : EntryOK Tryz.prog mTabs 106 (.fn x106) := ⟨fnT rfl, Tryz.f106, plans 106, keeps 106, 2, Tryz.func106, rfl, by kernel_rfl, by kernel_rfl⟩
def x107 : XF := ⟨[0, 1, 4], [0, 1], (.seq (.reg [.g ⟨(.l 4), .yes, .mv (.c (.d (.flat (Value.bool false))))⟩])
 (.seq (.reg [.mt 5 (.l 0),
  .mt 6 (.l 1),
  .g ⟨(.t 7), .yes, .cs 76 p76 [(.t 5), (.t 6), (.c (.d (.flat (Value.int IntKind.i64 1)))), (.c (.d (.flat (Value.string ⟨#[105, 110, 116]⟩))))]⟩,
  .mt 8 (.t 7),
  .g ⟨(.t 9), (.g (.t 8) false), .mv (.l 0)⟩,
  .g ⟨(.t 10), (.g (.t 8) false), .mv (.l 1)⟩,
  .g ⟨(.t 11), (.g (.t 8) false), .cs 76 p76 [(.t 9), (.t 10), (.c (.d (.flat (Value.int IntKind.i64 1)))), (.c (.d (.flat (Value.string ⟨#[98, 111, 111, 108, 101, 97, 110]⟩))))]⟩,
  .g ⟨(.t 12), .yes, .pick (.t 8) (.c (.d (.flat (Value.bool true)))) (.t 11)⟩,
  .mt 13 (.t 12),
  .g ⟨(.t 14), (.g (.t 13) false), .mv (.l 0)⟩,
  .g ⟨(.t 15), (.g (.t 13) false), .mv (.l 1)⟩,
  .g ⟨(.t 16), (.g (.t 13) false), .cs 76 p76 [(.t 14), (.t 15), (.c (.d (.flat (Value.int IntKind.i64 1)))), (.c (.d (.flat (Value.string ⟨#[83, 116, 114, 105, 110, 103]⟩))))]⟩,
  .g ⟨(.t 17), .yes, .pick (.t 13) (.c (.d (.flat (Value.bool true)))) (.t 16)⟩,
  .mt 18 (.t 17),
  .g ⟨(.t 19), (.g (.t 18) false), .mv (.l 0)⟩,
  .g ⟨(.t 20), (.g (.t 18) false), .mv (.l 1)⟩,
  .g ⟨(.t 21), (.g (.t 18) false), .cs 73 p73 [(.t 19), (.t 20)]⟩,
  .g ⟨(.t 22), .yes, .pick (.t 18) (.c (.d (.flat (Value.bool true)))) (.t 21)⟩,
  .g ⟨(.l 4), .yes, .mv (.t 22)⟩])
 .ret)), [(.t 4)]⟩
theorem x107E : EntryOK Tryz.prog mTabs 107 (.fn x107) := ⟨fnT rfl, Tryz.f107, plans 107, keeps 107, 2, Tryz.func107, rfl, by kernel_rfl, by kernel_rfl⟩
def x108 : XF := ⟨[0, 1, 4, 5, 6, 7, 9, 33], [0, 1], (.seq (.reg [.g ⟨(.l 4), .yes, .gen (Op.alloc 124)⟩])
 (.seq (.seq (.reg [.mt 8 (.l 1),
  .g ⟨(.l 9), .yes, .bin BinOp.gtr (.t 8) (.c (.d (.flat (Value.int IntKind.i64 6)))) (Op.binOp BinOp.gtr 3 (Operand.tmp 8) (Operand.const (Value.int IntKind.i64 6)) 3)⟩])
 (.cond (.l 9) (.seq (.reg [.mt 10 (.l 0),
  .g ⟨(.t 11), .yes, .cs 136 p136 [(.t 10)]⟩,
  .g ⟨.no, .yes, .st 8 (.l 4) (.t 11)⟩])
 .ret)
 .skip))
 (.seq (.reg [.mt 12 (.l 0),
  .mt 13 (.l 1),
  .g ⟨(.t 14), .yes, .bin BinOp.add (.t 13) (.c (.d (.flat (Value.int IntKind.i64 1)))) (Op.binOp BinOp.add 3 (Operand.tmp 13) (Operand.const (Value.int IntKind.i64 1)) 3)⟩,
  .g ⟨(.t 15), .yes, .cs 108 p108 [(.t 12), (.t 14)]⟩,
  .g ⟨(.l 5), .yes, .gen (Op.alloc 124)⟩,
  .g ⟨.no, .yes, .st 8 (.l 5) (.t 15)⟩])
 (.seq (.block 0 (.loop (some [0, 1, 4, 5]) (.seq (.seq (.drw [] [.st ⟨true, false, ⟨(.t 16), .yes, .mv (.l 0)⟩⟩,
  .st ⟨false, true, ⟨(.t 17), .yes, .cs 76 p76 [(.t 16), (.c (.d (.flat (Value.int IntKind.i64 0)))), (.c (.d (.flat (Value.int IntKind.i64 4)))), (.c (.d (.flat (Value.string ⟨#[]⟩))))]⟩⟩,
  .st ⟨true, false, ⟨(.t 18), .yes, .mv (.t 17)⟩⟩,
  .st ⟨true, false, ⟨(.t 19), (.g (.t 18) true), .mv (.l 0)⟩⟩,
  .st ⟨true, false, ⟨(.t 20), (.g (.t 18) true), .nc (.t 19)⟩⟩,
  .st ⟨true, false, ⟨(.t 21), (.g (.t 18) true), .fa 0 (.t 20)⟩⟩,
  .st ⟨true, false, ⟨(.t 22), (.g (.t 18) true), .ld false 1 (.t 21)⟩⟩,
  .st ⟨true, false, ⟨(.t 23), (.g (.t 18) true), .mv (.l 0)⟩⟩,
  .st ⟨true, false, ⟨(.t 24), (.g (.t 18) true), .nc (.t 23)⟩⟩,
  .st ⟨true, false, ⟨(.t 25), (.g (.t 18) true), .fa 2 (.t 24)⟩⟩,
  .st ⟨true, false, ⟨(.t 26), (.g (.t 18) true), .ld false 1 (.t 25)⟩⟩,
  .st ⟨true, false, ⟨(.t 27), (.g (.t 18) true), .ia 3 (.t 22) (.t 26)⟩⟩,
  .st ⟨true, false, ⟨(.t 28), (.g (.t 18) true), .fa 1 (.t 27)⟩⟩,
  .st ⟨true, false, ⟨(.t 29), (.g (.t 18) true), .ld false 1 (.t 28)⟩⟩,
  .st ⟨true, false, ⟨(.t 31), (.g (.t 18) true), .mv (.l 1)⟩⟩,
  .st ⟨false, false, ⟨(.t 30), (.g (.t 18) true), .cs 137 p137 [(.t 29)]⟩⟩,
  .st ⟨true, false, ⟨(.t 32), (.g (.t 18) true), .bin BinOp.eql (.t 30) (.t 31) (Op.binOp BinOp.eql 3 (Operand.tmp 30) (Operand.tmp 31) 3)⟩⟩,
  .st ⟨true, false, ⟨(.l 33), .yes, .pick (.t 18) (.t 32) (.c (.d (.flat (Value.bool false))))⟩⟩])
 (.cond (.l 33) .skip
 (.exit 0)))
 (.block 1 (.seq (.drw [] [.st ⟨true, false, ⟨(.t 34), .yes, .mv (.l 0)⟩⟩,
  .st ⟨true, false, ⟨(.t 35), .yes, .nc (.t 34)⟩⟩,
  .st ⟨true, false, ⟨(.t 36), .yes, .fa 0 (.t 35)⟩⟩,
  .st ⟨true, false, ⟨(.t 37), .yes, .ld false 1 (.t 36)⟩⟩,
  .st ⟨true, false, ⟨(.t 38), .yes, .mv (.l 0)⟩⟩,
  .st ⟨true, false, ⟨(.t 39), .yes, .nc (.t 38)⟩⟩,
  .st ⟨true, false, ⟨(.t 40), .yes, .fa 2 (.t 39)⟩⟩,
  .st ⟨true, false, ⟨(.t 41), .yes, .ld false 1 (.t 40)⟩⟩,
  .st ⟨true, false, ⟨(.t 42), .yes, .ia 3 (.t 37) (.t 41)⟩⟩,
  .st ⟨true, false, ⟨(.t 43), .yes, .fa 1 (.t 42)⟩⟩,
  .st ⟨true, false, ⟨(.t 44), .yes, .ld false 1 (.t 43)⟩⟩,
  .st ⟨true, false, ⟨(.l 6), .yes, .mv (.t 44)⟩⟩])
 (.seq (.reg [.mt 45 (.l 0),
  .g ⟨(.t 46), .yes, .nc (.t 45)⟩,
  .g ⟨(.t 47), .yes, .fa 2 (.t 46)⟩,
  .g ⟨(.t 48), .yes, .ld false 1 (.t 47)⟩,
  .g ⟨(.t 49), .yes, .bin BinOp.add (.t 48) (.c (.d (.flat (Value.int IntKind.i64 1)))) (Op.binOp BinOp.add 3 (Operand.tmp 48) (Operand.const (Value.int IntKind.i64 1)) 3)⟩,
  .g ⟨(.t 50), .yes, .nc (.t 45)⟩,
  .g ⟨(.t 51), .yes, .fa 2 (.t 50)⟩,
  .g ⟨.no, .yes, .st 1 (.t 51) (.t 49)⟩])
 (.seq (.reg [.mt 52 (.l 0),
  .mt 53 (.l 1),
  .g ⟨(.t 54), .yes, .bin BinOp.add (.t 53) (.c (.d (.flat (Value.int IntKind.i64 1)))) (Op.binOp BinOp.add 3 (Operand.tmp 53) (Operand.const (Value.int IntKind.i64 1)) 3)⟩,
  .g ⟨(.t 55), .yes, .cs 108 p108 [(.t 52), (.t 54)]⟩,
  .g ⟨(.l 7), .yes, .gen (Op.alloc 124)⟩,
  .g ⟨.no, .yes, .st 8 (.l 7) (.t 55)⟩])
 (.reg [.mt 56 (.l 6),
  .g ⟨(.t 57), .yes, .ld true 8 (.l 5)⟩,
  .g ⟨(.t 58), .yes, .ld true 8 (.l 7)⟩,
  .g ⟨(.t 59), .yes, .gen (Op.buildSlice 74 2 #[(0, (Operand.tmp 57)), (1, (Operand.tmp 58))])⟩,
  .g ⟨(.t 60), .yes, .gen (Op.build 124 #[(0, (Operand.const (Value.int IntKind.i64 17))), (3, (Operand.tmp 56)), (5, (Operand.tmp 59))])⟩,
  .g ⟨.no, .yes, .st 8 (.l 5) (.t 60)⟩]))))))))
 (.seq (.reg [.g ⟨(.t 61), .yes, .ld true 8 (.l 5)⟩,
  .g ⟨.no, .yes, .st 8 (.l 4) (.t 61)⟩])
 .ret))))), [(.c 4 true 8)]⟩
theorem x108E : EntryOK Tryz.prog mTabs 108 (.fn x108) := ⟨fnT rfl, Tryz.f108, plans 108, keeps 108, 2, Tryz.func108, rfl, by kernel_rfl, by kernel_rfl⟩
def x109 : XF := ⟨[0, 2, 3, 4, 8], [0], (.seq (.reg [.g ⟨(.l 2), .yes, .mv (.c (.d (.flat (Value.int IntKind.i64 0))))⟩])
 (.seq (.reg [.g ⟨(.l 3), .yes, .mv (.c (.d (.flat (Value.int IntKind.i64 0))))⟩])
 (.seq (.seq (.reg [.g ⟨(.l 4), .yes, .mv (.c (.d (.flat (Value.int IntKind.i64 0))))⟩])
 (.block 0 (.loop (some [0, 3, 4]) (.seq (.seq (.reg [.mt 5 (.l 4),
  .mt 6 (.l 0),
  .g ⟨(.t 7), .yes, .lenr (.t 6)⟩,
  .g ⟨(.l 8), .yes, .bin BinOp.lss (.t 5) (.t 7) (Op.binOp BinOp.lss 3 (Operand.tmp 5) (Operand.tmp 7) 3)⟩])
 (.cond (.l 8) .skip
 (.exit 0)))
 (.seq (.block 1 (.reg [.mt 11 (.l 3),
  .mt 12 (.l 0),
  .mt 13 (.l 4),
  .g ⟨(.t 14), .yes, .ia 8 (.t 12) (.t 13)⟩,
  .g ⟨(.t 15), .yes, .ld true 8 (.t 14)⟩,
  .g ⟨(.t 16), .yes, .cs 138 p138 [(.t 15)]⟩,
  .g ⟨(.t 17), .yes, .bin BinOp.add (.t 11) (.t 16) (Op.binOp BinOp.add 3 (Operand.tmp 11) (Operand.tmp 16) 3)⟩,
  .g ⟨(.l 3), .yes, .mv (.t 17)⟩]))
 (.reg [.mt 9 (.l 4),
  .g ⟨(.t 10), .yes, .bin BinOp.add (.t 9) (.c (.d (.flat (Value.int IntKind.i64 1)))) (Op.binOp BinOp.add 3 (Operand.tmp 9) (Operand.const (Value.int IntKind.i64 1)) 3)⟩,
  .g ⟨(.l 4), .yes, .mv (.t 10)⟩]))))))
 (.seq (.reg [.mt 18 (.l 3),
  .g ⟨(.l 2), .yes, .mv (.t 18)⟩])
 .ret)))), [(.t 2)]⟩
theorem x109E : EntryOK Tryz.prog mTabs 109 (.fn x109) := ⟨fnT rfl, Tryz.f109, plans 109, keeps 109, 1, Tryz.func109, rfl, by kernel_rfl, by kernel_rfl⟩
def x110 : XF := ⟨[0, 2, 3, 4, 8], [0], (.seq (.reg [.g ⟨(.l 2), .yes, .mv (.c (.d (.flat (Value.int IntKind.i64 0))))⟩])
 (.seq (.reg [.g ⟨(.l 3), .yes, .mv (.c (.d (.flat (Value.int IntKind.i64 0))))⟩])
 (.seq (.seq (.reg [.g ⟨(.l 4), .yes, .mv (.c (.d (.flat (Value.int IntKind.i64 0))))⟩])
 (.block 0 (.loop (some [0, 3, 4]) (.seq (.seq (.reg [.mt 5 (.l 4),
  .mt 6 (.l 0),
  .g ⟨(.t 7), .yes, .lenr (.t 6)⟩,
  .g ⟨(.l 8), .yes, .bin BinOp.lss (.t 5) (.t 7) (Op.binOp BinOp.lss 3 (Operand.tmp 5) (Operand.tmp 7) 3)⟩])
 (.cond (.l 8) .skip
 (.exit 0)))
 (.seq (.block 1 (.drw [] [.st ⟨true, false, ⟨(.t 11), .yes, .mv (.l 3)⟩⟩,
  .st ⟨true, false, ⟨(.t 12), .yes, .bin BinOp.add (.t 11) (.c (.d (.flat (Value.int IntKind.i64 1)))) (Op.binOp BinOp.add 3 (Operand.tmp 11) (Operand.const (Value.int IntKind.i64 1)) 3)⟩⟩,
  .st ⟨true, false, ⟨(.t 13), .yes, .mv (.l 0)⟩⟩,
  .st ⟨true, false, ⟨(.t 14), .yes, .mv (.l 4)⟩⟩,
  .st ⟨true, false, ⟨(.t 15), .yes, .ia 9 (.t 13) (.t 14)⟩⟩,
  .st ⟨true, false, ⟨(.t 16), .yes, .fa 4 (.t 15)⟩⟩,
  .st ⟨true, false, ⟨(.t 17), .yes, .ld false 1 (.t 16)⟩⟩,
  .st ⟨true, false, ⟨(.t 20), .yes, .mv (.l 0)⟩⟩,
  .st ⟨true, false, ⟨(.t 21), .yes, .mv (.l 4)⟩⟩,
  .st ⟨true, false, ⟨(.t 22), .yes, .ia 9 (.t 20) (.t 21)⟩⟩,
  .st ⟨true, false, ⟨(.t 23), .yes, .fa 5 (.t 22)⟩⟩,
  .st ⟨true, false, ⟨(.t 24), .yes, .ld false 1 (.t 23)⟩⟩,
  .st ⟨true, false, ⟨(.t 27), .yes, .mv (.l 0)⟩⟩,
  .st ⟨true, false, ⟨(.t 28), .yes, .mv (.l 4)⟩⟩,
  .st ⟨true, false, ⟨(.t 29), .yes, .ia 9 (.t 27) (.t 28)⟩⟩,
  .st ⟨true, false, ⟨(.t 30), .yes, .fa 6 (.t 29)⟩⟩,
  .st ⟨true, false, ⟨(.t 31), .yes, .ld false 1 (.t 30)⟩⟩,
  .st ⟨true, false, ⟨(.t 34), .yes, .mv (.l 0)⟩⟩,
  .st ⟨true, false, ⟨(.t 35), .yes, .mv (.l 4)⟩⟩,
  .st ⟨true, false, ⟨(.t 36), .yes, .ia 9 (.t 34) (.t 35)⟩⟩,
  .st ⟨true, false, ⟨(.t 37), .yes, .fa 7 (.t 36)⟩⟩,
  .st ⟨true, false, ⟨(.t 38), .yes, .ld false 1 (.t 37)⟩⟩,
  .st ⟨false, false, ⟨(.t 18), .yes, .cs 109 p109 [(.t 17)]⟩⟩,
  .st ⟨true, false, ⟨(.t 19), .yes, .bin BinOp.add (.t 12) (.t 18) (Op.binOp BinOp.add 3 (Operand.tmp 12) (Operand.tmp 18) 3)⟩⟩,
  .st ⟨false, false, ⟨(.t 25), .yes, .cs 110 p110 [(.t 24)]⟩⟩,
  .st ⟨true, false, ⟨(.t 26), .yes, .bin BinOp.add (.t 19) (.t 25) (Op.binOp BinOp.add 3 (Operand.tmp 19) (Operand.tmp 25) 3)⟩⟩,
  .st ⟨false, false, ⟨(.t 32), .yes, .cs 110 p110 [(.t 31)]⟩⟩,
  .st ⟨true, false, ⟨(.t 33), .yes, .bin BinOp.add (.t 26) (.t 32) (Op.binOp BinOp.add 3 (Operand.tmp 26) (Operand.tmp 32) 3)⟩⟩,
  .st ⟨false, false, ⟨(.t 39), .yes, .cs 110 p110 [(.t 38)]⟩⟩,
  .st ⟨true, false, ⟨(.t 40), .yes, .bin BinOp.add (.t 33) (.t 39) (Op.binOp BinOp.add 3 (Operand.tmp 33) (Operand.tmp 39) 3)⟩⟩,
  .st ⟨true, false, ⟨(.l 3), .yes, .mv (.t 40)⟩⟩]))
 (.reg [.mt 9 (.l 4),
  .g ⟨(.t 10), .yes, .bin BinOp.add (.t 9) (.c (.d (.flat (Value.int IntKind.i64 1)))) (Op.binOp BinOp.add 3 (Operand.tmp 9) (Operand.const (Value.int IntKind.i64 1)) 3)⟩,
  .g ⟨(.l 4), .yes, .mv (.t 10)⟩]))))))
 (.seq (.reg [.mt 41 (.l 3),
  .g ⟨(.l 2), .yes, .mv (.t 41)⟩])
 .ret)))), [(.t 2)]⟩
theorem x110E : EntryOK Tryz.prog mTabs 110 (.fn x110) := ⟨fnT rfl, Tryz.f110, plans 110, keeps 110, 1, Tryz.func110, rfl, by kernel_rfl, by kernel_rfl⟩
def x111 : XF := ⟨[0, 1, 4, 5, 6, 10, 29], [0, 1], (.seq (.reg [.g ⟨(.l 4), .yes, .mv (.c (.d (.flat (Value.bool false))))⟩])
 (.seq (.seq (.reg [.g ⟨(.l 5), .yes, .mv (.c (.d (.flat (Value.int IntKind.i64 0))))⟩])
 (.block 0 (.loop (some [0, 1, 5]) (.seq (.seq (.reg [.mt 7 (.l 5),
  .mt 8 (.l 0),
  .g ⟨(.t 9), .yes, .lens (.t 8)⟩,
  .g ⟨(.l 10), .yes, .bin BinOp.lss (.t 7) (.t 9) (Op.binOp BinOp.lss 3 (Operand.tmp 7) (Operand.tmp 9) 3)⟩])
 (.cond (.l 10) .skip
 (.exit 0)))
 (.seq (.block 1 (.seq (.reg [.mt 13 (.l 0),
  .mt 14 (.l 5),
  .g ⟨(.t 15), .yes, .idx (.t 13) (.t 14) (Op.index 9 (Operand.tmp 13) (Operand.tmp 14))⟩,
  .g ⟨(.t 16), .yes, .gen (Op.convert 5 21 (Operand.tmp 15))⟩,
  .g ⟨(.l 6), .yes, .mv (.t 16)⟩])
 (.seq (.reg [.mt 17 (.l 6),
  .g ⟨(.t 18), .yes, .cs 113 p113 [(.t 17)]⟩,
  .g ⟨(.t 19), .yes, .not (.t 18)⟩,
  .mt 20 (.t 19),
  .g ⟨(.t 21), (.g (.t 20) true), .mv (.l 6)⟩,
  .g ⟨(.t 22), (.g (.t 20) true), .cs 112 p112 [(.t 21)]⟩,
  .g ⟨(.t 23), (.g (.t 20) true), .not (.t 22)⟩,
  .g ⟨(.t 24), .yes, .pick (.t 20) (.t 23) (.c (.d (.flat (Value.bool false))))⟩,
  .mt 25 (.t 24),
  .g ⟨(.t 26), (.g (.t 25) true), .mv (.l 6)⟩,
  .g ⟨(.t 27), (.g (.t 25) true), .cs 98 p98 [(.t 26)]⟩,
  .g ⟨(.t 28), (.g (.t 25) true), .not (.t 27)⟩,
  .g ⟨(.l 29), .yes, .pick (.t 25) (.t 28) (.c (.d (.flat (Value.bool false))))⟩])
 (.cond (.l 29) (.seq (.reg [.g ⟨(.l 4), .yes, .mv (.c (.d (.flat (Value.bool false))))⟩])
 .ret)
 .skip))))
 (.reg [.mt 11 (.l 5),
  .g ⟨(.t 12), .yes, .bin BinOp.add (.t 11) (.c (.d (.flat (Value.int IntKind.i64 1)))) (Op.binOp BinOp.add 3 (Operand.tmp 11) (Operand.const (Value.int IntKind.i64 1)) 3)⟩,
  .g ⟨(.l 5), .yes, .mv (.t 12)⟩]))))))
 (.seq (.reg [.mt 30 (.l 0),
  .g ⟨(.t 31), .yes, .lens (.t 30)⟩,
  .g ⟨(.t 32), .yes, .bin BinOp.geq (.t 31) (.c (.d (.flat (Value.int IntKind.i64 1)))) (Op.binOp BinOp.geq 3 (Operand.tmp 31) (Operand.const (Value.int IntKind.i64 1)) 3)⟩,
  .mt 33 (.t 32),
  .g ⟨(.t 34), (.g (.t 33) true), .mv (.l 0)⟩,
  .g ⟨(.t 35), (.g (.t 33) true), .lens (.t 34)⟩,
  .g ⟨(.t 36), (.g (.t 33) true), .mv (.l 1)⟩,
  .g ⟨(.t 37), (.g (.t 33) true), .bin BinOp.leq (.t 35) (.t 36) (Op.binOp BinOp.leq 3 (Operand.tmp 35) (Operand.tmp 36) 3)⟩,
  .g ⟨(.t 38), .yes, .pick (.t 33) (.t 37) (.c (.d (.flat (Value.bool false))))⟩,
  .g ⟨(.l 4), .yes, .mv (.t 38)⟩])
 .ret))), [(.t 4)]⟩
theorem x111E : EntryOK Tryz.prog mTabs 111 (.fn x111) := ⟨fnT rfl, Tryz.f111, plans 111, keeps 111, 2, Tryz.func111, rfl, by kernel_rfl, by kernel_rfl⟩
def x112 : XF := ⟨[0, 2], [0], (.seq (.reg [.g ⟨(.l 2), .yes, .mv (.c (.d (.flat (Value.bool false))))⟩])
 (.seq (.reg [.mt 3 (.l 0),
  .g ⟨(.t 4), .yes, .bin BinOp.geq (.t 3) (.c (.d (.flat (Value.int IntKind.i32 65)))) (Op.binOp BinOp.geq 21 (Operand.tmp 3) (Operand.const (Value.int IntKind.i32 65)) 21)⟩,
  .mt 5 (.t 4),
  .g ⟨(.t 6), (.g (.t 5) true), .mv (.l 0)⟩,
  .g ⟨(.t 7), (.g (.t 5) true), .bin BinOp.leq (.t 6) (.c (.d (.flat (Value.int IntKind.i32 90)))) (Op.binOp BinOp.leq 21 (Operand.tmp 6) (Operand.const (Value.int IntKind.i32 90)) 21)⟩,
  .g ⟨(.t 8), .yes, .pick (.t 5) (.t 7) (.c (.d (.flat (Value.bool false))))⟩,
  .g ⟨(.l 2), .yes, .mv (.t 8)⟩])
 .ret)), [(.t 2)]⟩
theorem x112E : EntryOK Tryz.prog mTabs 112 (.fn x112) := ⟨fnT rfl, Tryz.f112, plans 112, keeps 112, 1, Tryz.func112, rfl, by kernel_rfl, by kernel_rfl⟩
def x113 : XF := ⟨[0, 2], [0], (.seq (.reg [.g ⟨(.l 2), .yes, .mv (.c (.d (.flat (Value.bool false))))⟩])
 (.seq (.reg [.mt 3 (.l 0),
  .g ⟨(.t 4), .yes, .bin BinOp.geq (.t 3) (.c (.d (.flat (Value.int IntKind.i32 97)))) (Op.binOp BinOp.geq 21 (Operand.tmp 3) (Operand.const (Value.int IntKind.i32 97)) 21)⟩,
  .mt 5 (.t 4),
  .g ⟨(.t 6), (.g (.t 5) true), .mv (.l 0)⟩,
  .g ⟨(.t 7), (.g (.t 5) true), .bin BinOp.leq (.t 6) (.c (.d (.flat (Value.int IntKind.i32 122)))) (Op.binOp BinOp.leq 21 (Operand.tmp 6) (Operand.const (Value.int IntKind.i32 122)) 21)⟩,
  .g ⟨(.t 8), .yes, .pick (.t 5) (.t 7) (.c (.d (.flat (Value.bool false))))⟩,
  .g ⟨(.l 2), .yes, .mv (.t 8)⟩])
 .ret)), [(.t 2)]⟩
theorem x113E : EntryOK Tryz.prog mTabs 113 (.fn x113) := ⟨fnT rfl, Tryz.f113, plans 113, keeps 113, 1, Tryz.func113, rfl, by kernel_rfl, by kernel_rfl⟩
def x114 : XF := ⟨[0, 2], [0], (.seq (.reg [.g ⟨(.l 2), .yes, .mv (.c (.d (.flat (Value.bool false))))⟩])
 (.seq (.reg [.g ⟨(.t 3), .yes, .gen (Op.buildSlice 33 24 #[(0, (Operand.const (Value.string ⟨#[98, 111, 111, 108, 101, 97, 110]⟩))), (1, (Operand.const (Value.string ⟨#[105, 110, 116]⟩))), (2, (Operand.const (Value.string ⟨#[118, 111, 105, 100]⟩))), (3, (Operand.const (Value.string ⟨#[99, 108, 97, 115, 115]⟩))), (4, (Operand.const (Value.string ⟨#[101, 120, 116, 101, 110, 100, 115]⟩))), (5, (Operand.const (Value.string ⟨#[115, 116, 97, 116, 105, 99]⟩))), (6, (Operand.const (Value.string ⟨#[110, 101, 119]⟩))), (7, (Operand.const (Value.string ⟨#[116, 104, 105, 115]⟩))), (8, (Operand.const (Value.string ⟨#[115, 117, 112, 101, 114]⟩))), (9, (Operand.const (Value.string ⟨#[110, 117, 108, 108]⟩))), (10, (Operand.const (Value.string ⟨#[116, 114, 117, 101]⟩))), (11, (Operand.const (Value.string ⟨#[102, 97, 108, 115, 101]⟩))), (12, (Operand.const (Value.string ⟨#[105, 102]⟩))), (13, (Operand.const (Value.string ⟨#[101, 108, 115, 101]⟩))), (14, (Operand.const (Value.string ⟨#[119, 104, 105, 108, 101]⟩))), (15, (Operand.const (Value.string ⟨#[114, 101, 116, 117, 114, 110]⟩))), (16, (Operand.const (Value.string ⟨#[112, 114, 105, 110, 116]⟩))), (17, (Operand.const (Value.string ⟨#[97, 115, 115, 101, 114, 116]⟩))), (18, (Operand.const (Value.string ⟨#[116, 104, 114, 111, 119]⟩))), (19, (Operand.const (Value.string ⟨#[116, 114, 121]⟩))), (20, (Operand.const (Value.string ⟨#[99, 97, 116, 99, 104]⟩))), (21, (Operand.const (Value.string ⟨#[102, 105, 110, 97, 108, 108, 121]⟩))), (22, (Operand.const (Value.string ⟨#[97, 115]⟩))), (23, (Operand.const (Value.string ⟨#[105, 115]⟩)))])⟩,
  .mt 4 (.l 0),
  .g ⟨(.t 5), .yes, .cs 95 p95 [(.t 3), (.t 4)]⟩,
  .g ⟨(.l 2), .yes, .mv (.t 5)⟩])
 .ret)), [(.t 2)]⟩
theorem x114E : EntryOK Tryz.prog mTabs 114 (.fn x114) := ⟨fnT rfl, Tryz.f114, plans 114, keeps 114, 1, Tryz.func114, rfl, by kernel_rfl, by kernel_rfl⟩
def x115 : XF := ⟨[0, 2], [0], (.seq (.reg [.g ⟨(.l 2), .yes, .mv (.c (.d (.flat (Value.bool false))))⟩])
 (.seq (.reg [.g ⟨(.t 3), .yes, .gen (Op.buildSlice 33 12 #[(0, (Operand.const (Value.string ⟨#[43]⟩))), (1, (Operand.const (Value.string ⟨#[45]⟩))), (2, (Operand.const (Value.string ⟨#[42]⟩))), (3, (Operand.const (Value.string ⟨#[47]⟩))), (4, (Operand.const (Value.string ⟨#[37]⟩))), (5, (Operand.const (Value.string ⟨#[64]⟩))), (6, (Operand.const (Value.string ⟨#[60]⟩))), (7, (Operand.const (Value.string ⟨#[60, 61]⟩))), (8, (Operand.const (Value.string ⟨#[61, 61]⟩))), (9, (Operand.const (Value.string ⟨#[33, 61]⟩))), (10, (Operand.const (Value.string ⟨#[38, 38]⟩))), (11, (Operand.const (Value.string ⟨#[124, 124]⟩)))])⟩,
  .mt 4 (.l 0),
  .g ⟨(.t 5), .yes, .cs 95 p95 [(.t 3), (.t 4)]⟩,
  .g ⟨(.l 2), .yes, .mv (.t 5)⟩])
 .ret)), [(.t 2)]⟩
theorem x115E : EntryOK Tryz.prog mTabs 115 (.fn x115) := ⟨fnT rfl, Tryz.f115, plans 115, keeps 115, 1, Tryz.func115, rfl, by kernel_rfl, by kernel_rfl⟩
def x117 : XF := ⟨[0, 2], [0], (.seq (.reg [.g ⟨(.l 2), .yes, .mv (.c (.d (.flat (Value.bool false))))⟩])
 (.seq (.reg [.mt 3 (.l 0),
  .g ⟨(.t 4), .yes, .bin BinOp.geq (.t 3) (.c (.d (.flat (Value.int IntKind.i64 6)))) (Op.binOp BinOp.geq 3 (Operand.tmp 3) (Operand.const (Value.int IntKind.i64 6)) 3)⟩,
  .mt 5 (.t 4),
  .g ⟨(.t 6), (.g (.t 5) true), .mv (.l 0)⟩,
  .g ⟨(.t 7), (.g (.t 5) true), .bin BinOp.leq (.t 6) (.c (.d (.flat (Value.int IntKind.i64 13)))) (Op.binOp BinOp.leq 3 (Operand.tmp 6) (Operand.const (Value.int IntKind.i64 13)) 3)⟩,
  .g ⟨(.t 8), .yes, .pick (.t 5) (.t 7) (.c (.d (.flat (Value.bool false))))⟩,
  .mt 9 (.t 8),
  .g ⟨(.t 10), (.g (.t 9) false), .mv (.l 0)⟩,
  .g ⟨(.t 11), (.g (.t 9) false), .bin BinOp.eql (.t 10) (.c (.d (.flat (Value.int IntKind.i64 17)))) (Op.binOp BinOp.eql 3 (Operand.tmp 10) (Operand.const (Value.int IntKind.i64 17)) 3)⟩,
  .g ⟨(.t 12), .yes, .pick (.t 9) (.c (.d (.flat (Value.bool true)))) (.t 11)⟩,
  .mt 13 (.t 12),
  .g ⟨(.t 14), (.g (.t 13) false), .mv (.l 0)⟩,
  .g ⟨(.t 15), (.g (.t 13) false), .bin BinOp.eql (.t 14) (.c (.d (.flat (Value.int IntKind.i64 18)))) (Op.binOp BinOp.eql 3 (Operand.tmp 14) (Operand.const (Value.int IntKind.i64 18)) 3)⟩,
  .g ⟨(.t 16), .yes, .pick (.t 13) (.c (.d (.flat (Value.bool true)))) (.t 15)⟩,
  .g ⟨(.l 2), .yes, .mv (.t 16)⟩])
 .ret)), [(.t 2)]⟩
theorem x117E : EntryOK Tryz.prog mTabs 117 (.fn x117) := ⟨fnT rfl, Tryz.f117, plans 117, keeps 117, 1, Tryz.func117, rfl, by kernel_rfl, by kernel_rfl⟩
def x118 : XF := ⟨[0, 2], [0], (.seq (.reg [.g ⟨(.l 2), .yes, .mv (.c (.d (.flat (Value.bool false))))⟩])
 (.seq (.reg [.mt 3 (.l 0),
  .g ⟨(.t 4), .yes, .bin BinOp.eql (.t 3) (.c (.d (.flat (Value.int IntKind.i64 9)))) (Op.binOp BinOp.eql 3 (Operand.tmp 3) (Operand.const (Value.int IntKind.i64 9)) 3)⟩,
  .mt 5 (.t 4),
  .g ⟨(.t 6), (.g (.t 5) false), .mv (.l 0)⟩,
  .g ⟨(.t 7), (.g (.t 5) false), .bin BinOp.eql (.t 6) (.c (.d (.flat (Value.int IntKind.i64 13)))) (Op.binOp BinOp.eql 3 (Operand.tmp 6) (Operand.const (Value.int IntKind.i64 13)) 3)⟩,
  .g ⟨(.t 8), .yes, .pick (.t 5) (.c (.d (.flat (Value.bool true)))) (.t 7)⟩,
  .mt 9 (.t 8),
  .g ⟨(.t 10), (.g (.t 9) false), .mv (.l 0)⟩,
  .g ⟨(.t 11), (.g (.t 9) false), .bin BinOp.eql (.t 10) (.c (.d (.flat (Value.int IntKind.i64 14)))) (Op.binOp BinOp.eql 3 (Operand.tmp 10) (Operand.const (Value.int IntKind.i64 14)) 3)⟩,
  .g ⟨(.t 12), .yes, .pick (.t 9) (.c (.d (.flat (Value.bool true)))) (.t 11)⟩,
  .mt 13 (.t 12),
  .g ⟨(.t 14), (.g (.t 13) false), .mv (.l 0)⟩,
  .g ⟨(.t 15), (.g (.t 13) false), .bin BinOp.eql (.t 14) (.c (.d (.flat (Value.int IntKind.i64 15)))) (Op.binOp BinOp.eql 3 (Operand.tmp 14) (Operand.const (Value.int IntKind.i64 15)) 3)⟩,
  .g ⟨(.t 16), .yes, .pick (.t 13) (.c (.d (.flat (Value.bool true)))) (.t 15)⟩,
  .mt 17 (.t 16),
  .g ⟨(.t 18), (.g (.t 17) false), .mv (.l 0)⟩,
  .g ⟨(.t 19), (.g (.t 17) false), .bin BinOp.eql (.t 18) (.c (.d (.flat (Value.int IntKind.i64 16)))) (Op.binOp BinOp.eql 3 (Operand.tmp 18) (Operand.const (Value.int IntKind.i64 16)) 3)⟩,
  .g ⟨(.t 20), .yes, .pick (.t 17) (.c (.d (.flat (Value.bool true)))) (.t 19)⟩,
  .g ⟨(.l 2), .yes, .mv (.t 20)⟩])
 .ret)), [(.t 2)]⟩
theorem x118E : EntryOK Tryz.prog mTabs 118 (.fn x118) := ⟨fnT rfl, Tryz.f118, plans 118, keeps 118, 1, Tryz.func118, rfl, by kernel_rfl, by kernel_rfl⟩
def x119 : XF := ⟨[0, 1, 2, 6, 7, 8, 9, 13, 39, 44, 54, 76], [0, 1, 2], (.seq (.reg [.g ⟨(.l 6), .yes, .mv (.c (.d (.flat (Value.bool false))))⟩])
 (.seq (.seq (.reg [.g ⟨(.l 7), .yes, .mv (.c (.d (.flat (Value.int IntKind.i64 0))))⟩])
 (.block 0 (.loop (some [0, 1, 2, 7]) (.seq (.seq (.reg [.mt 10 (.l 7),
  .mt 11 (.l 0),
  .g ⟨(.t 12), .yes, .lenr (.t 11)⟩,
  .g ⟨(.l 13), .yes, .bin BinOp.lss (.t 10) (.t 12) (Op.binOp BinOp.lss 3 (Operand.tmp 10) (Operand.tmp 12) 3)⟩])
 (.cond (.l 13) .skip
 (.exit 0)))
 (.seq (.block 1 (.seq (.reg [.mt 16 (.l 0),
  .mt 17 (.l 7),
  .g ⟨(.t 18), .yes, .ia 9 (.t 16) (.t 17)⟩,
  .g ⟨(.t 19), .yes, .ld true 9 (.t 18)⟩,
  .g ⟨(.l 8), .yes, .gen (Op.alloc 126)⟩,
  .g ⟨.no, .yes, .st 9 (.l 8) (.t 19)⟩])
 (.seq (.seq (.reg [.mt 20 (.l 1),
  .g ⟨(.t 21), .yes, .bin BinOp.gtr (.t 20) (.c (.d (.flat (Value.int IntKind.i64 40)))) (Op.binOp BinOp.gtr 3 (Operand.tmp 20) (Operand.const (Value.int IntKind.i64 40)) 3)⟩,
  .mt 22 (.t 21),
  .g ⟨(.t 23), (.g (.t 22) false), .fa 0 (.l 8)⟩,
  .g ⟨(.t 24), (.g (.t 22) false), .ld false 1 (.t 23)⟩,
  .g ⟨(.t 25), (.g (.t 22) false), .bin BinOp.eql (.t 24) (.c (.d (.flat (Value.int IntKind.i64 11)))) (Op.binOp BinOp.eql 3 (Operand.tmp 24) (Operand.const (Value.int IntKind.i64 11)) 3)⟩,
  .g ⟨(.t 26), (.g (.t 22) false), .mv (.t 25)⟩,
  .g ⟨(.t 27), (.g (.t 26) true), .mv (.l 2)⟩,
  .g ⟨(.t 28), (.g (.t 26) true), .not (.t 27)⟩,
  .g ⟨(.t 29), (.g (.t 26) true), .mv (.t 28)⟩,
  .g ⟨(.t 30), (.g (.t 29) false), .mv (.l 7)⟩,
  .g ⟨(.t 31), (.g (.t 29) false), .bin BinOp.gtr (.t 30) (.c (.d (.flat (Value.int IntKind.i64 0)))) (Op.binOp BinOp.gtr 3 (Operand.tmp 30) (Operand.const (Value.int IntKind.i64 0)) 3)⟩,
  .g ⟨(.t 32), (.g (.t 26) true), .pick (.t 29) (.c (.d (.flat (Value.bool true)))) (.t 31)⟩,
  .g ⟨(.t 33), (.g (.t 22) false), .pick (.t 26) (.t 32) (.c (.d (.flat (Value.bool false))))⟩,
  .g ⟨(.t 34), .yes, .pick (.t 22) (.c (.d (.flat (Value.bool true)))) (.t 33)⟩,
  .mt 35 (.t 34),
  .g ⟨(.t 36), (.g (.t 35) false), .ld true 9 (.l 8)⟩,
  .g ⟨(.t 37), (.g (.t 35) false), .cs 139 p139 [(.t 36)]⟩,
  .g ⟨(.t 38), (.g (.t 35) false), .not (.t 37)⟩,
  .g ⟨(.l 39), .yes, .pick (.t 35) (.c (.d (.flat (Value.bool true)))) (.t 38)⟩])
 (.cond (.l 39) (.seq (.reg [.g ⟨(.l 6), .yes, .mv (.c (.d (.flat (Value.bool false))))⟩])
 .ret)
 .skip))
 (.seq (.seq (.reg [.g ⟨(.l 9), .yes, .mv (.c (.d (.flat (Value.int IntKind.i64 0))))⟩])
 (.block 2 (.loop (some [0, 1, 2, 7, 8, 9]) (.seq (.seq (.reg [.mt 40 (.l 9),
  .g ⟨(.t 41), .yes, .fa 4 (.l 8)⟩,
  .g ⟨(.t 42), .yes, .ld false 1 (.t 41)⟩,
  .g ⟨(.t 43), .yes, .lenr (.t 42)⟩,
  .g ⟨(.l 44), .yes, .bin BinOp.lss (.t 40) (.t 43) (Op.binOp BinOp.lss 3 (Operand.tmp 40) (Operand.tmp 43) 3)⟩])
 (.cond (.l 44) .skip
 (.exit 2)))
 (.seq (.block 3 (.seq (.reg [.g ⟨(.t 47), .yes, .fa 4 (.l 8)⟩,
  .g ⟨(.t 48), .yes, .ld false 1 (.t 47)⟩,
  .mt 49 (.l 9),
  .g ⟨(.t 50), .yes, .ia 8 (.t 48) (.t 49)⟩,
  .g ⟨(.t 51), .yes, .ld true 8 (.t 50)⟩,
  .mt 52 (.l 1),
  .g ⟨(.t 53), .yes, .cs 86 p86 [(.t 51), (.t 52)]⟩,
  .g ⟨(.l 54), .yes, .not (.t 53)⟩])
 (.cond (.l 54) (.seq (.reg [.g ⟨(.l 6), .yes, .mv (.c (.d (.flat (Value.bool false))))⟩])
 .ret)
 .skip)))
 (.reg [.mt 45 (.l 9),
  .g ⟨(.t 46), .yes, .bin BinOp.add (.t 45) (.c (.d (.flat (Value.int IntKind.i64 1)))) (Op.binOp BinOp.add 3 (Operand.tmp 45) (Operand.const (Value.int IntKind.i64 1)) 3)⟩,
  .g ⟨(.l 9), .yes, .mv (.t 46)⟩]))))))
 (.seq (.reg [.g ⟨(.t 55), .yes, .fa 5 (.l 8)⟩,
  .g ⟨(.t 56), .yes, .ld false 1 (.t 55)⟩,
  .mt 57 (.l 1),
  .g ⟨(.t 58), .yes, .bin BinOp.add (.t 57) (.c (.d (.flat (Value.int IntKind.i64 1)))) (Op.binOp BinOp.add 3 (Operand.tmp 57) (Operand.const (Value.int IntKind.i64 1)) 3)⟩,
  .g ⟨(.t 59), .yes, .cs 119 p119 [(.t 56), (.t 58), (.c (.d (.flat (Value.bool false))))]⟩,
  .g ⟨(.t 60), .yes, .not (.t 59)⟩,
  .mt 61 (.t 60),
  .g ⟨(.t 62), (.g (.t 61) false), .fa 6 (.l 8)⟩,
  .g ⟨(.t 63), (.g (.t 61) false), .ld false 1 (.t 62)⟩,
  .g ⟨(.t 64), (.g (.t 61) false), .mv (.l 1)⟩,
  .g ⟨(.t 65), (.g (.t 61) false), .bin BinOp.add (.t 64) (.c (.d (.flat (Value.int IntKind.i64 1)))) (Op.binOp BinOp.add 3 (Operand.tmp 64) (Operand.const (Value.int IntKind.i64 1)) 3)⟩,
  .g ⟨(.t 66), (.g (.t 61) false), .cs 119 p119 [(.t 63), (.t 65), (.c (.d (.flat (Value.bool false))))]⟩,
  .g ⟨(.t 67), (.g (.t 61) false), .not (.t 66)⟩,
  .g ⟨(.t 68), .yes, .pick (.t 61) (.c (.d (.flat (Value.bool true)))) (.t 67)⟩,
  .mt 69 (.t 68),
  .g ⟨(.t 70), (.g (.t 69) false), .fa 7 (.l 8)⟩,
  .g ⟨(.t 71), (.g (.t 69) false), .ld false 1 (.t 70)⟩,
  .g ⟨(.t 72), (.g (.t 69) false), .mv (.l 1)⟩,
  .g ⟨(.t 73), (.g (.t 69) false), .bin BinOp.add (.t 72) (.c (.d (.flat (Value.int IntKind.i64 1)))) (Op.binOp BinOp.add 3 (Operand.tmp 72) (Operand.const (Value.int IntKind.i64 1)) 3)⟩,
  .g ⟨(.t 74), (.g (.t 69) false), .cs 119 p119 [(.t 71), (.t 73), (.c (.d (.flat (Value.bool false))))]⟩,
  .g ⟨(.t 75), (.g (.t 69) false), .not (.t 74)⟩,
  .g ⟨(.l 76), .yes, .pick (.t 69) (.c (.d (.flat (Value.bool true)))) (.t 75)⟩])
 (.cond (.l 76) (.seq (.reg [.g ⟨(.l 6), .yes, .mv (.c (.d (.flat (Value.bool false))))⟩])
 .ret)
 .skip))))))
 (.reg [.mt 14 (.l 7),
  .g ⟨(.t 15), .yes, .bin BinOp.add (.t 14) (.c (.d (.flat (Value.int IntKind.i64 1)))) (Op.binOp BinOp.add 3 (Operand.tmp 14) (Operand.const (Value.int IntKind.i64 1)) 3)⟩,
  .g ⟨(.l 7), .yes, .mv (.t 15)⟩]))))))
 (.seq (.reg [.g ⟨(.l 6), .yes, .mv (.c (.d (.flat (Value.bool true))))⟩])
 .ret))), [(.t 6)]⟩
theorem x119E : EntryOK Tryz.prog mTabs 119 (.fn x119) := ⟨fnT rfl, Tryz.f119, plans 119, keeps 119, 3, Tryz.func119, rfl, by kernel_rfl, by kernel_rfl⟩
end Go.Proofs.YtinffhimfoicdaaGreat
